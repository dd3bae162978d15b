/- P -/
import Derived.Test.YtbinfhpngacfgaaGreatUs11
set_option linter.all false
set_option maxRecDepth 99999
set_option maxHeartbeats 0
open List renaming replicate->TL,map->V5,take->WA,range->WO,length->U
open Go.IntKind renaming i64->TC
open Option renaming some->J,none->I
open Bool renaming true->X,false->Z
namespace Go
variable{p:Prop}
def zCP(h:p:=by constructor<;>first|exact Dg _ _ _ _ Ad|simp only[go_sem]):p:=h
def zCR(h:p:=by simp[TV.ids]):p:=h
def zCW(h:p:=by clear V N O P aa ac ad ag M R T K x F v p;grind [Cq,DM,bz,Ft]):p:=h
def zCZ(h:p:=by clear av az a0 a1 bl bn bo bc V a6 a' ac M K be;grind [Cq,DM,bz,Ft]):p:=h
def zCf(h:p:=by simp[CV,AE,Ab]):p:=h
def zCg(h:p:=by simp[*]):p:=h
def zCk(h:p:=by simpa using k):p:=h
def zCq(h:p:=by simp[BO];omega):p:=h
def zCr(h:p:=by exact BZ):p:=h
def zCt(h:p:=by simpa using f):p:=h
def zC0(h:p:=by rw[F.1]at i;cases i):p:=h
def zC8(h:p:=by grind [GL,LJ]):p:=h
def zDL(h:p:=by rw[BV,F5];omega):p:=h
def zDS(h:p:=by grind [Pf]):p:=h
end Go
namespace Go
variable{p:Prop}
def zAO(h:p:=by
 (repeat' (first|simp only[*,go_sem]|(refine sx ?_ ?_<;>intro H)|refine sy z λm M K=>?_|simp(disch:=first|assumption|omega) only[Ae]))
 all_goals first
  |omega
  |(refine NA ?_ (λc b e=>?_)
    .clear k;grind [cL,Bz.size,FQ,Bz.depth,FU,Bz.formed]
    .simp only[p_,AN b,e,AM,Gs])
  |(refine Sn ?_ ?_ (λc b e=>?_)
    .clear k;grind [cL,Bz.size,FQ,Bz.depth,FU,Bz.formed]
    .simp[p_,is_self,Bz.size,FQ]
    .simp only[p_,AN b,e,AM,Gs])):p:=h
def zAQ(h:p:=by
 (repeat' (first|simp only[*,go_sem,Nf,Oe]|(refine sx ?_ ?_<;>intro b4)|refine sy z λbo a' b6=>?_|simp(disch:=first|assumption|omega) only[Ae]))
 all_goals try(exact Gv (v.1 _ _) n.1 (p.1 _) (x.1 zCW))
 rw[DT];refine aw ?_;exact Gv (v.1 _ _) n.1 (p.1 _) (x.1 zCW)):p:=h
def zAS(h:p:=by simp only[Cs,HW,Mt,I7,forall_eq];omega):p:=h
def zAX(h:p:=by grind [cL,Bz.size,FQ,Bz.depth,FU,Bz.formed]):p:=h
def zAY(h:p:=by constructor<;>first|exact Dg _ _ _ _ Ad|simp only[go_sem]):p:=h
def zAc(h:p:=by
 (repeat' (first|simp only[*,go_sem,Jt,QH]|(refine sx ?_ ?_<;>intro a2)|refine sy z λW Q a4=>?_|simp(disch:=first|assumption|omega) only[Ae]))
 all_goals try(exfalso;omega)
 all_goals (exact Ew (M.1 zCZ))):p:=h
def zAh(h:p:=by
 have:¬((¬Z∈a.met)/\(¬Z∈a.defs)):=λh=>by rw[<-Kq,<-Kq]at h;have:=f.1;rw[h.1,h.2]at this;cases this
 rw[Co this]at q;exact⟨λ_=>⟨_,_,_,_,_,_,_,_,_,rfl,by(simp only[go_sem];try rfl)⟩,λa i=>(by rw[q]at i;cases i)⟩):p:=h
def zAk(h:p:=by
 refine BH func80 ?_
 (repeat' (first|simp only[*,go_sem]|(refine sx ?_ ?_<;>intro b)|refine sy z λg f e=>?_|simp(disch:=first|assumption|omega) only[Ae]))
 all_goals simp only[E9]
 all_goals grind):p:=h
def zAl(h:p:=by
 refine BH func43 ?_
 (repeat' (first|simp only[*,go_sem]|(refine sx ?_ ?_<;>intro b)|refine sy z λg f e=>?_|simp(disch:=first|assumption|omega) only[Ae]))
 all_goals simp only[bg]
 all_goals grind):p:=h
def zAn(h:p:=by
 have:=OL.1 h;constructor
 .intro h;cases h
 grind):p:=h
def zAo(h:p:=by
 refine aw ?_;rw[DT]
 (repeat' (first|simp only[*,go_sem]|(refine sx ?_ ?_<;>intro ad)|refine sy z λa3 a1 az=>?_|simp(disch:=first|assumption|omega) only[Ae]))
 all_goals exact HF c (v.1 rfl)):p:=h
def zAp(h:p:=by simp only[FK,slv,l,p,Gs,IP];simp only[go_sem]):p:=h
def zA0(h:p:=by
 (repeat' (first|simp only[*,go_sem]|(refine sx ?_ ?_<;>intro e)|refine sy z λh g f=>?_|simp(disch:=first|assumption|omega) only[Ae]))
 all_goals grind [wX]):p:=h
def zA2(h:p:=by exact⟨_,by(simp only[go_sem];rfl)⟩):p:=h
def zA6(h:p:=by
 rw[e,Og]at c
 (repeat' (first|simp only[*,go_sem,Og]|(refine sx ?_ ?_<;>intro g)|refine sy z λk i h=>?_|simp(disch:=first|assumption|omega) only[Ae]))):p:=h
def zA8(h:p:=by
 obtain rfl:=l.of hv;have t:looks c=none:=by unfold looks;rw[hv];split<;>rfl
 clear l;refine aw ?_;exact⟨λ_=>rfl,λa e=>by rw[t]at e;cases e⟩):p:=h
def zBB(h:p:=by have:=QT (Bo.init c).met;simp only[Bo.init,HU]at*;omega):p:=h
def zBF(h:p:=by
 rw[f]
 (repeat' (first|simp only[*,go_sem,Wh]|(refine sx ?_ ?_<;>intro i)|refine sy z λn k j=>?_|simp(disch:=first|assumption|omega) only[Ae]))):p:=h
def zBI(h:p:=by exact⟨_,by(simp only[go_sem];try rfl)⟩):p:=h
def zBL(h:p:=by simp only[Cs,HW,Mt,forall_eq];omega):p:=h
def zBO(h:p:=by
 have:Bb c (U c.nodes+1) c.main (U c.free) (Bo.init c)=none:=by rw[Bb,Co];intro W;have:=l_ W.2;simp[Bo.init]at this;omega
 rw[this]):p:=h
def zBd(h:p:=by refine aw ?_;refine a5.1 ((_,_),_) ⟨xX e n.1 (p.1 _) AG,⟨?_⟩⟩;rw[b8.1,EX];cases Bz.ok size bc<;>simp):p:=h
def zBm(h:p:=by simp only[go_sem,Bo.init]):p:=h
def zBx(h:p:=by have R:=AN r;have a3:AJ a6 f=false:=AI λl=>H (by simp[AE,l]);simp only[go_sem,R,a3,AM]):p:=h
def zBz(h:p:=by exact absurd p ‹_›):p:=h
def zB0(h:p:=by have:=congrArg (λl=>l[0]?) h;simpa using this):p:=h
def zB1(h:p:=by
 rcases c with c|c
 .exact w.apart N c z
 .simp only[AE,AS]at c;subst c;exact Fm _ _ _ _ z):p:=h
def zB9(h:p:=by replace bx:=bx.1;clear V N O P aa ac ad ag M R T K x F v p e t B;grind [Cq,DM,bz,Ft]):p:=h
def zCD(h:p:=by refine aw ?_;exact HF e (W.1 rfl)):p:=h
def zCG(h:p:=by obtain rfl:=v.of n;clear v;refine aw ?_;refine Ew (m.1.trans ?_);simp[Cg,Cu,n]):p:=h
end Go
namespace Go.Proofs
open Abs Tryz
def Oe(op:Int):Int×Int×Bool:=
 if op=1 then(0,0,X)else if op=7 then(0,0,X)else if op=2 then(-1,0,X)else if op=3 then(0,2,X)else if op=5 then(1,2,X)
 else if op=4 then(0,1,X)else if op=6 then(0,1,X)else if op=8 then(0,1,X)else(0,0,Z)
def Nf(op:Int):Bk kT 168 [nI op] []=.ok (.ret (.kw [nI ((Oe op).1),nI ((Oe op).2.1),.d (.bool (Oe op).2.2)]),[]):=by
 refine BH func168 ?_
 (repeat' (first|simp only[*,go_sem]|(refine sx ?_ ?_<;>intro a)|refine sy z λe c b=>?_|simp(disch:=first|assumption|omega) only[Ae]))
 all_goals simp[Oe, *]
structure W3(x:Bz)(size depth n:Int)(h:S)(π:u)(idn:u)(o:BC)(h':S):Prop:=
 ret:cL x size depth (60-n)->o=.ret (.kw [])/\h'.get idn=J (.box [nI (n+x.size)])
 of:¬cL x size depth (60-n)->o=.of Jb
 frame:∀id',AD π id'=Z->AJ idn id'=Z->h'.get id'=h.get id'
variable{size a:Int}{h f:S}{π:u}
def NA{g:Bz}{e:Int}{c:u}(j:¬cL g size a (60-e))(i:∀b,AD π b=Z->AJ c b=Z->f.get b=h.get b):W3 g size a e h π c (.of Jb) f:=⟨λh=>absurd h j,λ_=>rfl,i⟩
def Sn{g:Bz}{e:Int}{c:u}(k:cL g size a (60-e))(j:f.get c=J (.box [nI (e+g.size)]))(i:∀b,AD π b=Z->AJ c b=Z->f.get b=h.get b):W3 g size a e h π c (.ret (.kw [])) f:=⟨λ_=>⟨rfl,j⟩,λh=>absurd k h,i⟩
theorem AIa(m:Bz):∀(size a l:Int) (h:S) (π:u) (g j i:u),h.get g=J (.box [nI l])->h.get j=J (.box [nI size])->h.get i=J (.box [.fn 217 [] [.ptr g 0,.ptr j 0,.ptr i 0]])->AD π g=Z->AD π j=Z->AD π i=Z->AJ g j=Z->AJ g i=Z->0<=l->l<=60->1<=a->a<=70->
 ∃Y f,kT (.fn 217) [.agg [nI m.op,nI m.n,.d (.co (m.kids.map Bh))],nI a,.ptr g 0,.ptr j 0,.ptr i 0] h π X I=.ok (Y,f)/\W3 m size a l h π g Y f:=by
 induction m using Bz.ind with
 |h op a6 ai k=>
 intro size a l h π g j i ag Q P L T R p o a1 a2 a3 a4;simp only[Bz.op_mk,Bz.n_mk,Bz.kids_mk]at*;have aa:=AN L;have bi:=Aw L;have A:=AL L;have v1:=AN T;have B:=AL T;have N:=AN R;have C:=AL R;have bk:TC.wrap (l+1)=l+1:=w_ z z;have bl:TC.wrap (a+1)=a+1:=w_ z z;refine Ba func217 ?_;have k:=AB k;rcases ai with _|⟨q,_|⟨D,_|⟨a0,a5⟩⟩⟩
 ·(repeat' (first|simp only[*,go_sem]|(refine sx ?_ ?_<;>intro H)|refine sy z λm M K=>?_|simp(disch:=first|assumption|omega) only[Ae]))
  all_goals try(rw[DT];refine aw ?_)
  all_goals first
   |omega
   |(refine NA ?_ (λc b e=>?_)
     .clear k;exact zAX
     .simp only[p_,AN b,e,AM,Gs])
   |(refine Sn ?_ ?_ (λc b e=>?_)
     .clear k;exact zAX
     .simp[p_,is_self,Bz.size,FQ]
     .simp only[p_,AN b,e,AM,Gs])
 ·exact zAO
 .have s:=AR.mk (k.1 q AG);have t:=AR.mk (k.1 D AG);clear k;have be:=ZH q;have bh:=ZH D
  (repeat' (first|simp only[*,go_sem]|(refine sx ?_ ?_<;>intro H)|refine sy z λm M K=>?_|simp(disch:=first|assumption|omega) only[Ae]))
  all_goals try
   (refine NA ?_ (λc b e=>?_)
    .clear s t;exact zAX
    .simp only[p_,AN b,e,AM,Gs])
  all_goals (rw[DT];refine aw ?_)
  all_goals
   refine Ak (s.1 size (a+1) (l+1) _ _ g j i ?_ ?_ ?_ (A _) (B _) (C _) p o ?_ ?_ ?_ ?_) (λa' F v=>?_)
   .simp only[go_sem,aa,ag]
   .simp only[go_sem,v1,p,Q,AM]
   .simp only[go_sem,N,o,P,AM]
   .omega
   .omega
   .omega
   .omega
   have x:=v.frame;have az:F.get j=J (.box [nI size]):=by rw[x j (B _) p];simp only[go_sem,v1,p,Q,AM]
   have ac:F.get i=J (.box [.fn 217 [] [.ptr g 0,.ptr j 0,.ptr i 0]]):=by rw[x i (C _) o];simp only[go_sem,N,o,P,AM]
   have r:∀c,AD π c=Z->AJ g c=Z->F.get c=h.get c:=λc b e=>by rw[x c (AL b _) e];simp only[p_,AN b,e,AM,Gs]
   clear x;by_cases V:cL q size (a+1) (60-(l+1))
   .obtain⟨rfl,ar⟩:=v.ret V;clear v;have r:=AB r;refine aw ?_;rw[DT];refine aw (Ak (t.1 size (a+1) (l+1+q.size) _ _ g j i ?_ ?_ ?_ (A _) (B _) (C _) p o ?_ ?_ ?_ ?_) (λbc ad w=>?_))
    .simp only[go_sem,aa,A,ar,AM]
    .simp only[go_sem,v1,B,p,az,AM]
    .simp only[go_sem,N,C,o,ac,AM]
    .omega
    .grind [cL]
    .omega
    .omega
    have O:=w.frame;have n:∀c,AD π c=Z->AJ g c=Z->ad.get c=h.get c:=λc b e=>by rw[O c (AL b _) e];simp only[p_,AN b,An _ _ _ (AL b _),r.1 c b e,AM,Gs]
    have n:=AB n;clear O r;by_cases W:cL D size (a+1) (60-(l+1+q.size))
    .obtain⟨rfl,av⟩:=w.ret W;clear w;refine aw ?_;rw[DT];refine aw (Sn ?_ ?_ λc b e=>?_)
     .clear s t n;exact zAX
     .rw[An _ _ _ (A _),av];simp[Bz.size,FQ];omega
     .rw[An _ _ _ (AL b _),n.1 c b e]
    .obtain rfl:=w.of W;clear w;refine aw (NA ?_ λc b e=>?_)
     .clear s t n;exact zAX
     .rw[An _ _ _ (AL b _),n.1 c b e]
   .obtain rfl:=v.of V;clear v;refine aw (NA ?_ (λc b e=>?_))
    .clear s t;exact zAX
    .rw[An _ _ _ (AL b _),r c b e]
 ·exact zAO
def AMD(a:Bz)(size:Int):Bk kT 212 [.agg [nI a.op,nI a.n,.d (.co (a.kids.map Bh))],nI size] []=.ok (dR Jb (a.ok size)):=by
 refine BH func212 ?_;refine aw (Ak (AIa a size 1 0 _ _ [0,2] [0,1] [0,4] rfl rfl rfl rfl rfl rfl rfl rfl ?_ ?_ ?_ ?_) (λg f b=>?_))
 .omega
 .omega
 .omega
 .omega
 have e:cL a size 1 (60-0)↔a.ok size=true:=AMq a size;rcases c:a.ok size with _|_
 .obtain rfl:=b.of (λh=>by rw[e.1 h]at c;cases c);clear b;refine aw ?_;rfl
 .obtain⟨rfl,i⟩:=b.ret (e.2 c);clear b;refine aw ?_;rfl
def slv(b:u)(a:Nat):y:=if a=0 then .emp else .ii b 0 a
theorem Bp{b:u}{a:Nat}(h:a≠0):slv b a=.ii b 0 a:=by rw[slv,Co h]
structure gV(π:u)(l sz mt df:u):Prop:=
 ul:AD π l=Z
 us:AD π sz=Z
 um:AD π mt=Z
 ud:AD π df=Z
 ls:AJ l sz=Z
 lm:AJ l mt=Z
 ld:AJ l df=Z
 sl:AJ sz l=Z
 sm:AJ sz mt=Z
 sd:AJ sz df=Z
 ml:AJ mt l=Z
 ms:AJ mt sz=Z
 md:AJ mt df=Z
 dl:AJ df l=Z
 ds:AJ df sz=Z
 dm:AJ df mt=Z
structure LY(h:S)(p:Aa)(l sz mt df:u)(st:Bo):Prop:=
 box:h.get l=J (.box [.d (.co (p.free.map CB)),.d (.co (p.nodes.map Bg)),.d (.co (p.defs.map Br)),nI p.main,slv sz (U p.nodes),slv mt (U p.nodes),slv df (U p.defs)])
 em:U p.nodes≠0->h.get sz=J (.f9 1 (st.em.map AX))
 met:U p.nodes≠0->h.get mt=J (.f9 1 (st.met.map DU))
 defs:U p.defs≠0->h.get df=J (.f9 1 (st.defs.map DU))
structure W8(p:Aa)(l sz mt df:u)(h:S)(π:u)(r:Option Bo)(o:BC)(h':S):Prop:=
 ret:∀d9,r=J d9->o=.ret (.kw [])/\LY h' p l sz mt df d9/\∀id',AD π id'=Z->AJ sz id'=Z->AJ mt id'=Z->AJ df id'=Z->h'.get id'=h.get id'
 of:r=I->o=.of Jb
variable{l c:u}
def Ew{g:Aa}{i mt:u}{b:Option Bo}(e:b=I):W8 g l i mt c h π b (.of Jb) f:=⟨λj a=>by{rw[e]at a;cases a},λ_=>rfl⟩
@[go_sem] theorem APD:cfg.meth 307 "cabotage/scope.kids" =J 236:=rfl
@[go_sem] theorem APE:cfg.meth 308 "cabotage/scope.kids" =J 237:=rfl
@[go_sem] theorem APF:cfg.meth 309 "cabotage/scope.kids" =J 238:=rfl
@[go_sem] theorem APG:cfg.meth 310 "cabotage/scope.kids" =J 239:=rfl
@[go_sem] theorem APH:cfg.meth 314 "cabotage/scope.kids" =J 240:=rfl
structure B6(p:Aa)(l sz mt df:u)(h:S)(π:u)(L:List (Nat×Abs.Obj))(st:Bo)(g:S):Prop:=
 looks:LY g p l sz mt df st
 node:∀q∈L,g.get (0::q.1::π)=J q.2
 frame:∀id',AD π id'=Z->AJ sz id'=Z->AJ mt id'=Z->AJ df id'=Z->g.get id'=h.get id'
def G7{b mt:u}(h:gV π l b mt c)(a:Nat):gV (a::π) l b mt c:={h with ul:=AL h.ul a,us:=AL h.us a,um:=AL h.um a,ud:=AL h.ud a}
theorem dN(c e:Nat)(π:u)(h:c≠e):AD (c::π) (0::e::π)=false:=IJ λa=>by
 rcases Ip.1 a with b|a
 .exact zBX
 rcases Ip.1 a with b|a
 .grind
 .exact zBu
variable{a:Bo}{ρ:u}
def Px{g:S}{i:Aa}{f mt:u}(h:LY g i l f mt c a)(e:gV ρ l f mt c):LY (gc ρ g) i l f mt c a:=⟨by rw[An _ _ _ e.ul];exact h.box,λb=>by rw[An _ _ _ e.us];exact h.em b,λb=>by rw[An _ _ _ e.um];exact h.met b,λb=>by rw[An _ _ _ e.ud];exact h.defs b⟩
variable{L:List (Nat×Abs.Obj)}{j:Nat}{o:Abs.Obj}
def J2{p:Aa}{i mt:u}{k:S}(b:B6 p l i mt c h π L a k)(g:gV π l i mt c)(v:∀f∈L,j≠f.1):B6 p l i mt c h π L a (k.put (0::j::π) o):=by
 refine⟨⟨?_,λe=>?_,λe=>?_,λe=>?_⟩,λf n=>?_,λw m r s t=>?_⟩
 .rw[p_,AN g.ul];exact b.looks.box
 .rw[p_,AN g.us];exact b.looks.em e
 .rw[p_,AN g.um];exact b.looks.met e
 .rw[p_,AN g.ud];exact b.looks.defs e
 .have:AJ (0::j::π) (0::f.1::π)=false:=AI λq=>v f n (by simpa using q);rw[p_,this];exact b.node f n
 .rw[p_,AN m];exact b.frame w m r s t
variable{d9:Bo}{e:S}
def Tc{m:Aa}{g mt:u}{n:S}(r:B6 m l g mt c h π L a n)(i:gV π l g mt c)(w:∀f∈L,j≠f.1)(x:LY e m l g mt c d9)(s:∀b,AD (j::π) b=Z->AJ g b=Z->AJ mt b=Z->AJ c b=Z->e.get b=n.get b):B6 m l g mt c h π L d9 (gc (j::π) e):=by
 refine⟨Px x (G7 i j),λf t=>?_,λb k o p q=>?_⟩
 .have v:=dN j f.1 π (w f t);rw[An _ _ _ v,s _ v (Aw i.us _ _) (Aw i.um _ _) (Aw i.ud _ _)];exact r.node f t
 .rw[An _ _ _ (AL k j),s _ (AL k j) o p q];exact r.frame b k o p q
def Iz{c:Aa}(h:a.fit c)(b:yD a d9):d9.fit c:=⟨b.em.trans h.em,b.met.trans h.met,b.defs.trans h.defs⟩
def AEI(x:Bz)(size:Int):Bk kT 212 [.agg [nI x.op,nI x.n,.d (.co (x.kids.map Bh))],nI size] []=DJ Jb (x.ok size):=by rw[AMD,qA]
def So(d:Bc):Bk kT 213 [.agg [.d (.co (d.ac.map BR)),.d (.co (d.be.map BD)),.d (.co (d.rules.map BN))]] []=DJ Jb d.okG:=by rw[AL9,qA]
variable{k:Nat}
theorem SQ{p:Aa}{b:Int}{c:CF}(e:0<=b)(f:a.met[b.toNat]?=J Z)(g:p.nodes[b.toNat]?=J c):Bb p (k+1) b size a=if Cq p size c=X then match WI p size c (a.meet b size)with|some (l,st2)=>Cu (Bb p k) l st2|none=>I
 else none:=by grind [Bb]
theorem dQ{p:Aa}{b:Int}{c:CF}(f:0<=b)(g:a.met[b.toNat]?=J Z)(h:p.nodes[b.toNat]?=J c)(e:Cq p size c=Z):Bb p (k+1) b size a=none:=by grind [SQ]
def P4(b:Aa)(A:U b.nodes<=60)(e size:Int)(a:Bo)(h:S)(π:u)(l j mt c:u)(p:a.fit b)(q:gV π l j mt c)(r:LY h b l j mt c a)(g:0<=e->e<U b.nodes->a.met[e.toNat]?=J X):
 ∃o f,kT (.fn 201) [.ptr l 0,nI e,nI size] h π X I=.ok (o,f)/\W8 b l j mt c h π I o f:=by
 obtain⟨ul,V,T,R,K,H,F,P,Q,O,M,N,L,dl,x,w⟩:=q;obtain⟨v,n,m,k⟩:=r;have n:=AB n;have k:=AB k;have g:=AB g;have B:=p.met;refine Ba func201 ?_;by_cases s:0<=e
 .by_cases t:e<U b.nodes
  .have i:U b.nodes≠0:=z;have C:e.toNat<U b.nodes:=z;have D:=g.1 s t;have m:=m i;rw[Bp i,Bp i]at v;exact aw (Ew rfl)
  .exact aw (Ew rfl)
 .exact aw (Ew rfl)
theorem xL(b:Aa)(b6:U b.nodes<=60)(d5:U b.defs<=12):∀(k:Nat) (i size:Int) (a:Bo) (h:S) (π:u) (l p mt c:u),Ga a.met<=k->a.fit b->0<=size->size+70*k<=5000->gV π l p mt c->LY h b l p mt c a->
 ∃o f,kT (.fn 201) [.ptr l 0,nI i,nI size] h π X I=.ok (o,f)/\W8 b l p mt c h π (Bb b k i size a) o f:=by
 intro k;induction k with
 |zero=>intro i size a h π l p mt c df x cx de b8 b9;refine P4 b b6 i size a h π l p mt c x b8 b9 λb4 b5=>?_;obtain⟨bs,ad⟩:=g_ (l:=a.met) (i:=i.toNat) (by rw[x.met];omega);cases bs with|true=>exact ad|false=>have:=HH ad;omega
 |succ k K=>
 intro i size a h π l p mt c df x cx de b8 b9;have r:=AB b8;obtain⟨ul,c9,c8,c7,er,en,el,c5,c6,d0,c4,es,ds,dl,dc,c'⟩:=b8;have O:=AB b9;obtain⟨V,a',a6,cc⟩:=b9;have av:=AN ul;have az:=AN c9;have a0:=AN c8;have a1:=AN c7;have bl:=Aw ul;have bn:=Aw c9;have bo:=Aw c8;have bc:=Aw c7;by_cases b':0<=i
 .by_cases dm:i<U b.nodes
  .have a5:U b.nodes≠0:=z;have dj:i.toNat<U b.nodes:=z;obtain⟨W,Q⟩:=g_ dj;obtain⟨bs,ad⟩:=g_ (l:=a.met) (i:=i.toNat) (by rw[x.met];omega);obtain⟨e5,ej⟩:=g_ (l:=a.em) (i:=i.toNat) (by rw[x.em];omega);have a6:=a6 a5;have a':=a' a5;rw[Bp a5,Bp a5]at V;have K:=AB K;have cc:=AB cc;have ec:=x.em;have eb:=x.met;cases bs with
   |true=>
    have bx:Bb b (k+1) i size a=none:=by rw[Bb,Co];rw[ad];simp
    rw[bx];exact P4 b b6 i size a h π l p mt c x r.1 O.1 λ_ _=>ad
   |false=>
    refine Ba func201 ?_;have ac:=AR.mk (SQ (p:=b) (k:=k) (size:=size) b' ad Q);have M:=AR.mk (dQ (p:=b) (k:=k) (size:=size) b' ad Q);obtain⟨A,C,L,T⟩:=W;have be:AR (∀o bk,B6 b l p mt c h π [(46,bk)] (a.meet i size) ((((h.put mt (.f9 1 ((V5 DU a.met).set i.toNat [.bool X]))).put p (.f9 1 ((V5 AX a.em).set i.toNat [.int .i64 size]))).put (0::46::π) o).put (0::46::π) bk)):=.mk λo bk=>by
     refine⟨⟨?_,λ_=>?_,λ_=>?_,λb7=>?_⟩,?_,λdr b4 b5 cl c0=>?_⟩
     .rw[Bp a5,Bp a5];simp[p_,av,c5,c4,V]
     .simp only[p_,az,is_self,AM,Gs,IP,Bo.meet,I2];rfl
     .simp only[p_,a0,c6,is_self,AM,Gs,IP,Bo.meet,I2];rfl
     .simp[p_,a1,d0,ds,Bo.meet,cc.1 b7]
     .intro cv bh;cases AS.1 bh;simp[p_]
     .simp[p_,AN b4,b5,cl]
    by_cases dx:A=4
    .subst dx;by_cases e6:C<0
     ·exact zAc
     by_cases e7:(U b.defs:Int)<=C
     ·exact zAc
     have e8:0<=C:=z;have e9:C<U b.defs:=z;have cm:U b.defs≠0:=z;have dq:C.toNat<U b.defs:=z;obtain⟨d,b7⟩:=g_ dq;obtain⟨bs,c3⟩:=g_ (l:=a.defs) (i:=C.toNat) (by rw[x.defs];omega);have ea:=x.defs;have em:=cc.1 cm;rw[Bp cm]at V;have b0:WI b size ⟨4,C,L,T⟩ (a.meet i size)=if a.defs[C.toNat]?=J Z/\d.okG=X then J (DD d (size+d.own) d.rules++(Cr (size+d.own) d.be++Cg (size+d.own) T),{a.meet i size with defs:=a.defs.set C.toNat X})else none:=by rw[WI,D3 rfl,b7];rfl
     have b0:=AB b0;have c1:AR (∀o bk cd,B6 b l p mt c h π [(131,bk),(46,cd)] {a.meet i size with defs:=a.defs.set C.toNat X} (((((((h.put mt (.f9 1 ((V5 DU a.met).set i.toNat [.bool X]))).put p (.f9 1 ((V5 AX a.em).set i.toNat [.int .i64 size]))).put (0::46::π) (.box [nI 0,nI 0,.d8,.d8])).put (0::46::π) cd).put c (.f9 1 ((V5 DU a.defs).set C.toNat [.bool X]))).put (0::131::π) o).put (0::131::π) bk)):=.mk λo bk cd=>by
      refine⟨⟨?_,λ_=>?_,λ_=>?_,λb7=>?_⟩,?_,λdr b4 b5 cl c0=>?_⟩
      .rw[Bp a5,Bp a5,Bp cm];simp[p_,av,c5,c4,dl,V]
      .simp only[p_,az,dc,is_self,AM,Gs,IP,Bo.meet,I2];rfl
      .simp only[p_,a0,c6,c',is_self,AM,Gs,IP,Bo.meet,I2];rfl
      .simp only[p_,a1,is_self,AM,Gs,IP,I2];rfl
      .simp;simp only[go_sem,bc]
      .simp[p_,AN b4,b5,cl,c0]
     by_cases cp:bs=Z/\d.okG=X
     .obtain⟨rfl,cn⟩:=cp;have a3:=U0 cn;have d1:=a3.ac;have d2:=a3.be;have d3:=a3.rules;have eg:=Yu a3;have ef:=AMw d z z;have a3:=AB a3
      (repeat' (first|simp only[*,go_sem,Jt,QH,So]|(refine sx ?_ ?_<;>intro a2)|refine sy z λW Q a4=>?_|simp(disch:=first|assumption|omega) only[Ae]))
      all_goals try(exfalso;omega)
      all_goals try(exact Ew (M.1 zCZ))
      rw[DT]
      (repeat' (first|simp only[*,go_sem,So]|(refine sx ?_ ?_<;>intro a2)|refine sy z λW Q a4=>?_|simp(disch:=first|assumption|omega) only[Ae]))
      refine CR d.rules _ (λag j e=>⟨[(0,.ptr l 0),(2,nI (size+(d.own:Int))),(6,.ptr (0::46::π) 0),(11,.ptr (0::131::π) 0),(190,.d (.co (d.rules.map BN))),(191,nI ag),(192,nI j)],e.1.1,e.2+144,[]⟩)
       (Inv:=λj ar e=>B6 b l p mt c h π [(131,.box [.d (.co (d.ac.map BR)),.d (.co (d.be.map BD)),.d (.co (d.rules.map BN))]),(46,.box [nI 4,nI C,.d (.co (L.map Bh)),.d (.co (T.map AX))])] e.1.2 e.1.1/\e.1.2.fit b/\Ga e.1.2.met<=k/\AR (Bb b (k+1) i size a=Cu (Bb b k) (DD d (size+d.own) ar++(Cr (size+d.own) d.be++Cg (size+d.own) T)) e.1.2)) (b0:=((_,{a.meet i size with defs:=a.defs.set C.toNat X}),_)) ?_ ⟨c1.1 _ _ _,?_,?_,⟨?_⟩⟩ ?_ ?_
      .rfl
      .have:=TW x i size;exact⟨this.em,this.met,by simp[x.defs]⟩
      .have:=HH ad;simp only[Bo.meet];omega
      .rw[ac.1,D3,b0.1,D3 ⟨c3,cn⟩];have d4:((U L:Int)=0):=CM;have ek:L=[]:=CI z;clear av az a0 a1 bl bn bo bc V a6 a' ac M K be c1 a3 b0;grind [Cq,DM,bz,Ft]
      .rintro j ai ⟨⟨w,t⟩,D⟩ b3 F H ⟨g,q,s,m⟩ Y;dsimp only at*;have aa:=g.node _ (CO ..);dsimp only at aa;have b1:=SG a3.1 (AP b3);have d7:=yf d ai b1;have d8:=Ny b1.2.2 ai.d7;have d':=b1.1;have b1:=AB b1;refine aw ?_;refine Fk (K.1 ai.node (size+d.own+B9 d ai.d7) t _ _ l p mt c s q z z (G7 r.1 _) (J2 (J2 g r.1 ?_) r.1 ?_).looks) (λcu ch v=>?_)
       .exact zAS
       .exact zAS
       cases n:Bb b k ai.node (size+d.own+B9 d ai.d7) t with
       |none=>obtain rfl:=v.of n;clear v;refine aw ?_;refine Ew (m.1.trans ?_);simp[DD,Cu,n]
       |some R=>
        obtain⟨rfl,O,B⟩:=v.ret R n;have B:=AB B;clear v;refine aw ?_;have N:=C1 b _ _ _ _ _ n;refine Y.1 ((_,R),_) ⟨Tc (J2 (J2 g r.1 ?_) r.1 ?_) r.1 ?_ O B.1,Iz q N,HE N.less s,⟨?_⟩⟩
        .exact zAS
        .exact zAS
        .exact zAS
        .rw[m.1];simp[DD,Cu,n]
      .rintro j ⟨⟨w,t⟩,D⟩ F H ⟨g,q,s,m⟩;dsimp only at*;have aa:=g.node _ (CO ..);have bi:=g.node _ (By _ (CO ..));dsimp only at aa bi;refine aw ?_;refine CR d.be _ (λag j e=>⟨[(0,.ptr l 0),(2,nI (size+(d.own:Int))),(6,.ptr (0::46::π) 0),(207,.d (.co (d.be.map BD))),(208,nI ag),(209,nI j)],e.1.1,e.2+144,[]⟩)
        (Inv:=λj ar e=>B6 b l p mt c h π [(131,.box [.d (.co (d.ac.map BR)),.d (.co (d.be.map BD)),.d (.co (d.rules.map BN))]),(46,.box [nI 4,nI C,.d (.co (L.map Bh)),.d (.co (T.map AX))])] e.1.2 e.1.1/\e.1.2.fit b/\Ga e.1.2.met<=k/\AR (Bb b (k+1) i size a=Cu (Bb b k) (Cr (size+d.own) ar++Cg (size+d.own) T) e.1.2)) (b0:=((w,t),_)) rfl ⟨g,q,s,⟨?_⟩⟩ ?_ ?_
       .exact m.1
       .clear g q s m aa bi j F H w t D;rintro j ai ⟨⟨w,t⟩,D⟩ b3 F H ⟨g,q,s,m⟩ Y;dsimp only at*;refine aw ?_;refine Ak (K.1 ai.node (size+d.own) t _ _ l p mt c s q z z (G7 r.1 _) (J2 (J2 g r.1 ?_) r.1 ?_).looks) (λcu ch v=>?_)
        .exact zAS
        .exact zAS
        cases n:Bb b k ai.node (size+d.own) t with
        |none=>obtain rfl:=v.of n;clear v;refine aw ?_;refine Ew (m.1.trans ?_);simp[Cr,Cu,n]
        |some R=>
         obtain⟨rfl,O,B⟩:=v.ret R n;have B:=AB B;clear v;refine aw ?_;have N:=C1 b _ _ _ _ _ n;refine Y.1 ((_,R),_) ⟨Tc (J2 (J2 g r.1 ?_) r.1 ?_) r.1 ?_ O B.1,Iz q N,HE N.less s,⟨?_⟩⟩
         .exact zAS
         .exact zAS
         .exact zAS
         .rw[m.1];simp[Cr,Cu,n]
       .clear g q s m aa bi j F H w t D;rintro j ⟨⟨w,t⟩,D⟩ F H ⟨g,q,s,m⟩;dsimp only at*;have aa:=g.node _ (CO ..);have bi:=g.node _ (By _ (CO ..));dsimp only at aa bi;refine aw ?_;refine CR T _ (λag j e=>⟨[(0,.ptr l 0),(2,nI (size+(d.own:Int))),(220,.d (.co (T.map AX))),(221,nI ag),(222,nI j)],e.1.1,e.2+144,[]⟩)
         (Inv:=λj ar e=>B6 b l p mt c h π [(131,.box [.d (.co (d.ac.map BR)),.d (.co (d.be.map BD)),.d (.co (d.rules.map BN))]),(46,.box [nI 4,nI C,.d (.co (L.map Bh)),.d (.co (T.map AX))])] e.1.2 e.1.1/\e.1.2.fit b/\Ga e.1.2.met<=k/\AR (Bb b (k+1) i size a=Cu (Bb b k) (Cg (size+d.own) ar) e.1.2)) (b0:=((w,t),_)) ?_ ⟨g,q,s,⟨?_⟩⟩ ?_ ?_
        .omega
        .exact m.1
        .clear g q s m aa bi j F H w t D;rintro j bv ⟨⟨w,t⟩,D⟩ b3 F H ⟨g,q,s,m⟩ Y;dsimp only at*;refine aw ?_;refine Ak (K.1 bv (size+d.own) t _ _ l p mt c s q z z (G7 r.1 _) g.looks) (λcu ch v=>?_);cases n:Bb b k bv (size+d.own) t with
         |none=>exact zCG
         |some R=>
          obtain⟨rfl,O,B⟩:=v.ret R n;have B:=AB B;clear v;refine aw ?_;have N:=C1 b _ _ _ _ _ n;refine Y.1 ((_,R),_) ⟨Tc g r.1 ?_ O B.1,Iz q N,HE N.less s,⟨?_⟩⟩
          .exact zAS
          .rw[m.1];simp[Cg,Cu,n]
        .clear g q s m aa bi j F H w t D;rintro j ⟨⟨w,t⟩,D⟩ F H ⟨g,q,s,m⟩;dsimp only at*;refine aw ?_;refine⟨λd9 P=>?_,λP=>?_⟩
         .rw[m.1]at P;cases P;exact⟨rfl,g.looks,g.frame⟩
         .rw[m.1]at P;cases P
     .have cs:AR (Bb b (k+1) i size a=I):=by
       refine⟨?_⟩;rw[ac.1,b0.1,c3];split
       .rw[Co (by simpa using cp)]
       .rfl
      cases bs
      .have cn:d.okG=false:=by simpa using cp
       (repeat' (first|simp only[*,go_sem,Jt,QH,So]|(refine sx ?_ ?_<;>intro a2)|refine sy z λW Q a4=>?_|simp(disch:=first|assumption|omega) only[Ae]))
       all_goals try(exfalso;omega)
       all_goals try(exact Ew cs.1)
       rw[DT]
       (repeat' (first|simp only[*,go_sem,So]|(refine sx ?_ ?_<;>intro a2)|refine sy z λW Q a4=>?_|simp(disch:=first|assumption|omega) only[Ae]))
       try exact Ew cs.1
      ·(repeat' (first|simp only[*,go_sem,Jt,QH]|(refine sx ?_ ?_<;>intro a2)|refine sy z λW Q a4=>?_|simp(disch:=first|assumption|omega) only[Ae]))
       all_goals try(exfalso;omega)
       all_goals (exact Ew cs.1)
    have dn:A=1\/A=7\/A=3\/(A=2/\3<(U L:Int))\/(A=2/\¬3<(U L:Int))\/A=5\/A=6\/A=8\/(¬A=1/\¬A=7/\¬A=3/\¬A=2/\¬A=5/\¬A=6/\¬A=8):=z;rcases dn with rfl|rfl|rfl|⟨rfl,dd⟩|⟨rfl,dd⟩|rfl|rfl|rfl|⟨et,ex,e0,e1,e2,e3,e4⟩;all_goals ((repeat' (first|simp only[*,go_sem,Jt,QH]|(refine sx ?_ ?_<;>intro a2)|refine sy z λW Q a4=>?_|simp(disch:=first|assumption|omega) only[Ae])))
    all_goals try(exfalso;omega)
    all_goals try(exact Ew (M.1 zCZ))
    all_goals
     refine CR L _ (λag j e=>⟨[(0,.ptr l 0),(2,nI size),(6,.ptr (0::46::π) 0),(154,.d (.co (L.map Bh))),(155,nI ag),(156,nI j)],e.1,e.2+60,[]⟩)
      (Inv:=λj ar e=>B6 b l p mt c h π _ (a.meet i size) e.1/\AR (L.all (Bz.ok size)=ar.all (Bz.ok size))) (b0:=(_,_)) ?_ ⟨be.1 _ _,⟨rfl⟩⟩ ?_ ?_
     .omega
     .rintro j bv ⟨w,D⟩ b3 F H ⟨g,b2⟩ Y;dsimp only at*;try(exfalso;omega)
      all_goals ((repeat' (first|simp only[*,go_sem,AEI]|(refine sx ?_ ?_<;>intro a2)|refine sy z λW Q a4=>?_|simp(disch:=first|assumption|omega) only[Ae])))
      all_goals first
      |exact Ew (M.1 (by simp only[Cq,b2.1,EX, *,Es,I5]))
      |(refine Y.1 (_,_) ⟨J2 (J2 g r.1 ?_) r.1 ?_,⟨?_⟩⟩
        .intro cv bh;cases AS.1 bh;dsimp only;omega
        .intro cv bh;cases AS.1 bh;dsimp only;omega
        .rw[b2.1,EX];simp[*])
     .rintro j ⟨w,D⟩ F H ⟨g,b2⟩;dsimp only at*;have c2:=g.node _ (CO ..);dsimp only at c2;refine aw ?_;refine CR T _ (λag j e=>⟨[(0,.ptr l 0),(2,nI size),(220,.d (.co (T.map AX))),(221,nI ag),(222,nI j)],e.1.1,e.2+60,[]⟩)
       (Inv:=λj ar e=>B6 b l p mt c h π _ e.1.2 e.1.1/\e.1.2.fit b/\Ga e.1.2.met<=k/\AR (Bb b (k+1) i size a=Cu (Bb b k) (Cg size ar) e.1.2)) (b0:=((_,a.meet i size),_)) ?_ ⟨g,TW x _ _,?_,⟨?_⟩⟩ ?_ ?_
      .omega
      .have:=HH ad;simp only[Bo.meet];omega
      .rw[ac.1,D3,WI]
       .rfl
       .have d6:L.all (Bz.ok size)=true:=by rw[b2.1];rfl
        clear av az a0 a1 bl bn bo bc V a6 a' ac M K be g b2 c2;grind [Cq,DM,bz,Ft]
      .rintro j bv ⟨⟨w,t⟩,D⟩ b3 F H ⟨g,q,s,m⟩ Y;dsimp only at*;try(exfalso;omega)
       all_goals (refine aw ?_)
       all_goals
       refine Ak (K.1 bv size t w _ l p mt c s q cx z (G7 r.1 _) g.looks) (λcu ch v=>?_);cases n:Bb b k bv size t with
       |none=>exact zCG
       |some R=>
        obtain⟨rfl,O,B⟩:=v.ret R n;have B:=AB B;clear v;refine aw ?_;have N:=C1 b _ _ _ _ _ n;refine Y.1 ((_,R),_) ⟨Tc g r.1 ?_ O B.1,Iz q N,HE N.less s,⟨?_⟩⟩
        .intro cv bh;cases AS.1 bh;dsimp only;omega
        .rw[m.1];simp[Cg,Cu,n]
      .rintro j ⟨⟨w,t⟩,D⟩ F H ⟨g,q,s,m⟩;dsimp only at*;refine aw ?_;refine⟨λd9 P=>?_,λP=>?_⟩
       .rw[m.1]at P;cases P;exact⟨rfl,g.looks,g.frame⟩
       .rw[m.1]at P;cases P
  .have bx:Bb b (k+1) i size a=none:=by
    rw[Bb];split
    .rename_i cq;have:=l_ cq.2;rw[x.met]at this;omega
    .rfl
   rw[bx];exact P4 b b6 i size a h π l p mt c x r.1 O.1 λ_ h=>absurd h dm
 .have bx:Bb b (k+1) i size a=none:=by rw[Bb,Co λcq=>b' cq.1]
  rw[bx];exact P4 b b6 i size a h π l p mt c x r.1 O.1 λh=>absurd h b'
attribute [go_sem] Call.operands Array.toList_append Option.toArray
def Zq(x:Bool):List Bool->Int->Int
 |[],_=> -1|B0::l,i=>if (x==B0)=X then i else Zq x l (i+1)
def la(v:Bool):∀(l:List Bool) (i:Int),0<=i->(0<=Zq v l i↔v∈l)
 |[],i,h=>by simp[Zq]|B0::l,i,h=>by
  rw[Zq];split
  .rename_i e;have:v=B0:=by simpa using e
   simp[this,h]
  .rename_i e;have:¬v=B0:=by simpa using e
   rw[la v l (i+1) z];simp[this]
@[go_sem] theorem ANV(l:List Bool)(b:Bool)(j:U l<=1000000):Bk kT 216 [.d (.co (l.map DU)),.d (.bool b)] []=.ok (.ret (nI (Zq b l 0)),[]):=by
  refine BH func216 ?_;refine aw (Ah l (B2:=λa (o:Unit)=>⟨[(0,.d (.co (l.map DU))),(1,.d (.bool b)),(7,nI (U l)),(8,nI a)],[],0,[]⟩) (Inv:=λa h _=>AR (Zq b l 0=Zq b h a)) (b0:=()) ⟨rfl⟩ ?_ ?_)
  .rintro a q ⟨⟩ n f g c e
   (repeat' (first|simp only[*,go_sem]|(refine sx ?_ ?_<;>intro i)|refine sy z λp m k=>?_|simp(disch:=first|assumption|omega) only[Ae]))
   .rw[c.1,Zq,D3 CM]
   .refine e.1 () ⟨?_⟩;rw[c.1,Zq,Co zCg];rfl
  .rintro a ⟨⟩ f g c;refine aw ?_;rw[c.1,Zq]
@[go_sem] theorem N2(l:List Bool)(a:Bool)(b:U l<=1000000):Bk kT 202 [.d (.co (l.map DU)),.d (.bool a)] []=.ok (.ret (.d (.bool (decide (a∈l)))),[]):=by have h:=la a l 0 z;refine BH func202 ?_;exact au
def Dd(e:G)(b:u)(a:Nat)(h:0<a)(f:a<=1073741824):GX e b a {kind:=TK.int,size:=1,agg:=Z,str:=Z,zero:=[nI 0],flds:=[],elem:=0,key:=0,mix:=Z}=J ⟨.ii (1::b) 0 a,[(1::b,.f9 1 ((TL a (0:Int)).map AX))]⟩:=by
 have c:(TL a (0:Int)).map AX=TL a [.int .i64 0]:=by rw[Lc];rfl
 rw[c];exact Uu (zs:=[.int .i64 0]) h zCy rfl rfl Ad rfl
def IA(e:G)(b:u)(a:Nat)(h:0<a)(f:a<=1073741824):GX e b a {kind:=TK.bool,size:=1,agg:=Z,str:=Z,zero:=[.d (.bool Z)],flds:=[],elem:=0,key:=0,mix:=Z}=J ⟨.ii (1::b) 0 a,[(1::b,.f9 1 ((TL a Z).map DU))]⟩:=by
 have c:(TL a Z).map DU=TL a [.bool Z]:=by rw[Lc];rfl
 rw[c];exact Uu (zs:=[.bool Z]) h zCy rfl rfl Ad rfl
def Dg(c e j:Nat)(π:u)(h:c≠j):AD (c::π) (e::j::π)=false:=IJ λa=>by
 rcases Ip.1 a with b|a
 .exact zBX
 rcases Ip.1 a with b|a
 .simp only[SP,and_true]at b;exact h b
 .exact zBu
def Kq(l:List Bool):l.all id=X↔ ¬Z∈l:=by induction l with|nil=>simp|cons a l b=>cases a<;>simp
def TR{b:Aa}(e:b.small=X)(c:N7 b.free=X)(f:Bb b (U b.nodes+1) b.main (U b.free) (Bo.init b)=J a):looks b=if (¬Z∈a.met)/\(¬Z∈a.defs)then J a else none:=by unfold looks;rw[D3 ⟨e,c⟩,f];simp only[Kq]
def KN{b:u}{a:Nat}(h:a=0):slv b a=.emp:=by rw[slv,D3 h]
@[go_sem] theorem AHx(v:Bool):Bk kT 202 [.d (.co []),.d (.bool v)] []=.ok (.ret (.d (.bool Z)),[]):=by have:=N2 [] v AG;simpa using this
structure ACm(p:Aa)(π:u)(r:BC×S):Prop:=
 of:looks p=I->r=(.of Jb,[])
 ret:∀a,looks p=J a->∃h,r=(.ret (.ptr (0::16::π) 0),h)/\LY h p (0::16::π) (1::6::π) (1::10::π) (1::14::π) a/\∀id',AD π id'=Z->h.get id'=I
def xA(c:Aa)(Q:∀bi∈c.free,bi.size<=maxLen)(k:Nat)(ρ:u):∃av:BC×S,Bk kT 190 [.agg [.d (.co (c.free.map CB)),.d (.co (c.nodes.map Bg)),.d (.co (c.defs.map Br)),nI c.main]] (k::ρ)=.ok av/\ACm c (k::ρ) av:=by
 have Q:=AB Q;by_cases o:c.small=X
 .refine W7 func190 ?_;have ad:=AB o;simp only[Aa.small,As,Dl]at o;obtain⟨a0,a1,a2⟩:=o;have a0:(U c.free:Int)<=12:=z;have a1:(U c.nodes:Int)<=60:=z;have a2:(U c.defs:Int)<=12:=z;refine aw ?_;refine CR c.free _ (B2:=λbc D (bv:Unit)=>⟨[(1,.ptr (0::0::k::ρ) 0),(24,.d (.co (c.free.map CB))),(25,nI bc),(26,nI D)],[(0::0::k::ρ,.box [.d (.co (c.free.map CB)),.d (.co (c.nodes.map Bg)),.d (.co (c.defs.map Br)),nI c.main])],1,[]⟩)
   (Inv:=λD bh _=>AR (N7 c.free=KZ (if D=0 then I else c.free[D-1]?) bh)) (b0:=()) rfl ⟨rfl⟩ ?_ ?_
  .rintro D az ⟨⟩ ag a5 a6 n aa;have a':=Q.1 az (AP ag);have bo:=AJ7 az a';have O:AR (N7 c.free=Z->looks c=I):=.mk λa3=>by rw[looks,Co (by rw[a3];simp)]
   rcases D with _|j
   .rw[D3 rfl]at n;have bn:(0:Int)<U c.free:=z
    (repeat' (first|simp only[*,go_sem]|(refine sx ?_ ?_<;>intro w)|refine sy z λi C A=>?_|simp(disch:=first|assumption|omega) only[Ae]))
    all_goals first
    |(exact⟨λ_=>rfl,λa e=>by rw[O.1 (by rw[n.1,KZ];simp only[*,Es])]at e;cases e⟩)
    |(refine aa.1 () ⟨?_⟩
      rw[n.1,KZ,Co z];simp only[*,I4];try rfl)
   .have⟨b,hb⟩:=g_ (l:=c.free) (i:=j) z;rw[Co z,PU,hb]at n;have bx:TC.wrap (((j+1:Nat):Int)-1)=(j:Int):=by rw[w_ z z];omega
    have b0:¬((j+1:Nat):Int)=0:=z
    (repeat' (first|simp only[*,go_sem]|(refine sx ?_ ?_<;>intro w)|refine sy z λi C A=>?_|simp(disch:=first|assumption|omega) only[Ae]))
    .refine aa.1 () ⟨?_⟩;rw[n.1,KZ,Co z,PU,ag];simp only[pj, *,I4]
    .exact⟨λ_=>rfl,λa e=>by rw[O.1 (by rw[n.1,KZ];simp only[pj, *,Es,I5])]at e;cases e⟩
    .exact⟨λ_=>rfl,λa e=>by rw[O.1 (by rw[n.1,KZ];simp only[*,Es])]at e;cases e⟩
  .rintro D ⟨⟩ a5 a6 n;have ac:AR (N7 c.free=X):=⟨n.1⟩;clear n;by_cases g:U c.nodes=0
   .have t:looks c=none:=by
     unfold looks;split
     .have:Bb c (U c.nodes+1) c.main (U c.free) (Bo.init c)=none:=by rw[Bb,Co];intro a4;have:=l_ a4.2;simp[Bo.init]at this;omega
      rw[this]
     .rfl
    by_cases p:U c.defs=0;all_goals
     (repeat' (first|simp only[*,go_sem]|(refine sx ?_ ?_<;>intro w)|refine sy z λi C A=>?_|simp(disch:=first|assumption|omega) only[Ae,Dd,IA]))
     refine Ak (P4 c z c.main (U c.free) (Bo.init c) _ _ (0::16::k::ρ) (1::6::k::ρ) (1::10::k::ρ) (1::14::k::ρ) ⟨?_,?_,?_⟩ ?_ ⟨?_,λh=>absurd g h,λh=>absurd g h,λ_=>?_⟩ ?_) (λar H l=>?_)
     .simp[Bo.init]
     .simp[Bo.init]
     .simp[Bo.init]
     .exact zAY
     .simp only[slv,g,p,Gs,IP];simp only[go_sem]
     .first|(exact absurd p ‹_›)|simp only[go_sem,Bo.init]
     .omega
     obtain rfl:=l.of rfl;clear l;refine aw ?_;exact⟨λ_=>rfl,λa e=>by rw[t]at e;cases e⟩
   .by_cases p:U c.defs=0
    ·(repeat' (first|simp only[*,go_sem]|(refine sx ?_ ?_<;>intro w)|refine sy z λi C A=>?_|simp(disch:=first|assumption|omega) only[Ae,Dd,IA]))
     refine Ak (xL c z z (U c.nodes+1) c.main (U c.free) (Bo.init c) _ _ (0::16::k::ρ) (1::6::k::ρ) (1::10::k::ρ) (1::14::k::ρ) ?_ ⟨?_,?_,?_⟩ ?_ ?_ ?_ ⟨?_,λ_=>?_,λ_=>?_,λ_=>?_⟩) (λar H l=>?_)
     .exact zBB
     .simp[Bo.init]
     .simp[Bo.init]
     .simp[Bo.init]
     .omega
     .omega
     .exact zAY
     .simp only[slv,g,p,Gs,IP];simp only[go_sem]
     .exact zBm
     .exact zBm
     .exact zBz
     rcases hv:Bb c (U c.nodes+1) c.main (U c.free) (Bo.init c)with _|a
     .exact zA8
     .obtain⟨rfl,M,x⟩:=l.ret a hv;clear l;have x:=AB x;have f:∃i,looks c=i:=⟨_,rfl⟩;obtain⟨i,f⟩:=f;have f:=AB f;have v:=Px (ρ:=24::k::ρ) M zCP;have v:=AB v;obtain⟨K,r,s,N⟩:=M;have r:=r g;have s:=s g;rw[Bp g,Bp g,KN p]at K;have L:=C1 c _ _ _ _ _ hv;have T:U a.met=U c.nodes:=by rw[L.met];simp[Bo.init]
      have ai:U a.defs=U c.defs:=by rw[L.defs];simp[Bo.init]
      have m:∀(F j:Nat),24≠j->(gc (24::k::ρ) H).get (F::j::k::ρ)=H.get (F::j::k::ρ):=λF j P=>An _ _ _ (Dg _ _ _ _ P);have V:=(m 0 16 Ad).trans K;have W:=(m 1 6 Ad).trans r;have Y:=(m 1 10 Ad).trans s;clear m;have bk:WA (U c.nodes) (V5 DU a.met)=V5 DU a.met:=Bi (by simp[T]);have bl:a.defs=[]:=CI z
      (repeat' (first|simp only[*,go_sem,D4,V,W,Y]|(refine sx ?_ ?_<;>intro w)|refine sy z λi C A=>?_|simp(disch:=first|assumption|omega) only[Ae,N2]))
      all_goals (have f:=f.1;subst f)
      all_goals (have f:=TR ad.1 ac.1 hv)
      all_goals first
      |(refine⟨λ_=>rfl,λd9 e=>?_⟩
        rw[f,Co zCg]at e;cases e)
      |(refine⟨λe=>?_,λd9 e=>?_⟩
        .rw[f,D3 zCg]at e;cases e
        .rw[f,D3 zCg]at e;cases e;refine⟨_,rfl,v.1,λR B=>?_⟩;have q:=AN B;rw[An _ _ _ (AL B _),x.1 R (AL B _) (q _ _) (q _ _) (q _ _)];simp only[go_sem,q,AM])
    ·(repeat' (first|simp only[*,go_sem]|(refine sx ?_ ?_<;>intro w)|refine sy z λi C A=>?_|simp(disch:=first|assumption|omega) only[Ae,Dd,IA]))
     refine Ak (xL c z z (U c.nodes+1) c.main (U c.free) (Bo.init c) _ _ (0::16::k::ρ) (1::6::k::ρ) (1::10::k::ρ) (1::14::k::ρ) ?_ ⟨?_,?_,?_⟩ ?_ ?_ ?_ ⟨?_,λ_=>?_,λ_=>?_,λ_=>?_⟩) (λar H l=>?_)
     .exact zBB
     .simp[Bo.init]
     .simp[Bo.init]
     .simp[Bo.init]
     .omega
     .omega
     .exact zAY
     .simp only[slv,g,p,Gs];simp only[go_sem]
     .exact zBm
     .exact zBm
     .exact zBm
     rcases hv:Bb c (U c.nodes+1) c.main (U c.free) (Bo.init c)with _|a
     .exact zA8
     .obtain⟨rfl,M,x⟩:=l.ret a hv;clear l;have x:=AB x;have f:∃i,looks c=i:=⟨_,rfl⟩;obtain⟨i,f⟩:=f;have f:=AB f;have v:=Px (ρ:=24::k::ρ) M zCP;have v:=AB v;obtain⟨K,r,s,N⟩:=M;have r:=r g;have s:=s g;have N:=N p;rw[Bp g,Bp g,Bp p]at K;have L:=C1 c _ _ _ _ _ hv;have T:U a.met=U c.nodes:=by rw[L.met];simp[Bo.init]
      have ai:U a.defs=U c.defs:=by rw[L.defs];simp[Bo.init]
      have m:∀(F j:Nat),24≠j->(gc (24::k::ρ) H).get (F::j::k::ρ)=H.get (F::j::k::ρ):=λF j P=>An _ _ _ (Dg _ _ _ _ P);have V:=(m 0 16 Ad).trans K;have W:=(m 1 6 Ad).trans r;have Y:=(m 1 10 Ad).trans s;have be:=(m 1 14 Ad).trans N;clear m;have bk:WA (U c.nodes) (V5 DU a.met)=V5 DU a.met:=Bi (by simp[T]);have bs:WA (U c.defs) (V5 DU a.defs)=V5 DU a.defs:=Bi (by simp[ai])
      (repeat' (first|simp only[*,go_sem,D4,V,W,Y,be]|(refine sx ?_ ?_<;>intro w)|refine sy z λi C A=>?_|simp(disch:=first|assumption|omega) only[Ae,N2]))
      all_goals (have f:=f.1;subst f)
      all_goals (have f:=TR ad.1 ac.1 hv)
      all_goals first
      |(refine⟨λ_=>rfl,λd9 e=>?_⟩
        rw[f,Co zCg]at e;cases e)
      |(refine⟨λe=>?_,λd9 e=>?_⟩
        .rw[f,D3 zCg]at e;cases e
        .rw[f,D3 zCg]at e;cases e;refine⟨_,rfl,v.1,λR B=>?_⟩;have q:=AN B;rw[An _ _ _ (AL B _),x.1 R (AL B _) (q _ _) (q _ _) (q _ _)];simp only[go_sem,q,AM])
 .have t:looks c=none:=by unfold looks;rw[Co λh=>o h.1]
  have o:¬(U c.free<=12/\(U c.nodes)<=60/\(U c.defs)<=12):=by intro h;apply o;simp only[Aa.small,As,Dl];exact h
  have o:=AB o;refine W7 func190 ?_
  (repeat' (first|simp only[*,go_sem]|(refine sx ?_ ?_<;>intro w)|refine sy z λi C A=>?_|simp(disch:=first|assumption|omega) only[Ae]))
  all_goals first
  |exact⟨λ_=>rfl,λa e=>by rw[t]at e;cases e⟩
  |(have o:=o.1;exfalso;omega)
def KX(b:Bool):List Au:=[.int .i64 (if b then 1 else 0)]
theorem AED:KX X=[.int .i64 1]:=rfl
theorem AEC:KX Z=[.int .i64 0]:=rfl
attribute [go_sem] AED AEC
def FK(a:Aa)(e c f:u)(b:Bool):Abs.Obj:=.box [.d (.co (a.free.map CB)),.d (.co (a.nodes.map Bg)),.d (.co (a.defs.map Br)),nI a.main,slv e (U a.nodes),slv c (U a.nodes),slv f (U a.defs),.d (.bool b)]
structure IZ(h:S)(p:Aa)(l sz ow us:u)(st:Bo)(bad:Bool):Prop:=
 box:h.get l=J (FK p sz ow us bad)
 em:bad=Z->(U p.nodes)≠0->h.get sz=J (.f9 1 (st.em.map AX))
 met:bad=Z->(U p.nodes)≠0->h.get ow=J (.f9 1 (st.met.map KX))
 defs:bad=Z->(U p.defs)≠0->h.get us=J (.f9 1 (st.defs.map KX))
 ks:U p.nodes≠0->∃A,h.get sz=J (.f9 1 A)
 km:U p.nodes≠0->∃A,h.get ow=J (.f9 1 A)
 kd:U p.defs≠0->∃A,h.get us=J (.f9 1 A)
structure W9(p:Aa)(l sz ow us:u)(h:S)(π:u)(r:Option Bo)(o:BC)(h':S):Prop:=
 ret:o=.ret (.kw [])
 frame:∀id',AD π id'=Z->AJ l id'=Z->AJ sz id'=Z->AJ ow id'=Z->AJ us id'=Z->h'.get id'=h.get id'
 yes:∀d9,r=J d9->IZ h' p l sz ow us d9 Z
 no:r=I->∀G3,IZ h' p l sz ow us G3 X
structure gY(p:Aa)(l sz ow us:u)(h:S)(π:u)(L:List (Nat×Abs.Obj))(st:Bo)(bad:Bool)(g:S):Prop:=
 looks:IZ g p l sz ow us st bad
 node:∀q∈L,g.get (0::q.1::π)=J q.2
 frame:∀id',AD π id'=Z->AJ l id'=Z->AJ sz id'=Z->AJ ow id'=Z->AJ us id'=Z->g.get id'=h.get id'
variable{b:Bool}
def Jm{j:S}{k:Aa}{i mt:u}(h:IZ j k l i mt c a b)(f:gV ρ l i mt c):IZ (gc ρ j) k l i mt c a b:=⟨by rw[An _ _ _ f.ul];exact h.box,λg e=>by rw[An _ _ _ f.us];exact h.em g e,λg e=>by rw[An _ _ _ f.um];exact h.met g e,λg e=>by rw[An _ _ _ f.ud];exact h.defs g e,λe=>by rw[An _ _ _ f.us];exact h.ks e,λe=>by rw[An _ _ _ f.um];exact h.km e,λe=>by rw[An _ _ _ f.ud];exact h.kd e⟩
variable{b':Bool}
theorem xX{m:Aa}{j mt:u}{n:S}(f:gY m l j mt c h π L a b n)(g:gV π l j mt c)(A:o=FK m j mt c b')(k:b'=Z->b=Z):gY m l j mt c h π L a b' (n.put l o):=by
 refine⟨⟨?_,λi e=>?_,λi e=>?_,λi e=>?_,λe=>?_,λe=>?_,λe=>?_⟩,λx v=>?_,λw q p r s t=>?_⟩
 .grind [p_,is_self]
 .rw[p_,g.ls];exact f.looks.em (k i) e
 .rw[p_,g.lm];exact f.looks.met (k i) e
 .rw[p_,g.ld];exact f.looks.defs (k i) e
 .rw[p_,g.ls];exact f.looks.ks e
 .rw[p_,g.lm];exact f.looks.km e
 .rw[p_,g.ld];exact f.looks.kd e
 .rw[p_,Aw g.ul];exact f.node x v
 .rw[p_,p];exact f.frame w q p r s t
def Hb{n:Aa}{k mt:u}{o:S}(t:gY n l k mt c h π L a b o)(g:gV π l k mt c)(A:∀i∈L,j≠i.1)(B:IZ e n l k mt c d9 b')(v:∀f,AD (j::π) f=Z->AJ l f=Z->AJ k f=Z->AJ mt f=Z->AJ c f=Z->e.get f=o.get f):gY n l k mt c h π L d9 b' (gc (j::π) e):=by
 refine⟨Jm B (G7 g j),λi w=>?_,λf m p q r s=>?_⟩
 .have x:=dN j i.1 π (A i w);rw[An _ _ _ x,v _ x (Aw g.ul _ _) (Aw g.us _ _) (Aw g.um _ _) (Aw g.ud _ _)];exact t.node i w
 .rw[An _ _ _ (AL m j),v _ (AL m j) p q r s];exact t.frame f m p q r s
def AM0{n:Aa}{i mt:u}{j:S}(e:gY n l i mt c h π L a Z j)(f:gV π l i mt c)(m:Nat):gY n l i mt c h π L {a with defs:=a.defs.set m X} Z (j.put c (.f9 1 ((a.defs.map KX).set m [.int .i64 1]))):=by
 refine⟨⟨?_,λg b=>?_,λg b=>?_,λg b=>?_,λb=>?_,λb=>?_,λb=>?_⟩,λv s=>?_,λt p o q r k=>?_⟩
 .rw[p_,f.dl];exact e.looks.box
 .rw[p_,f.ds];exact e.looks.em g b
 .rw[p_,f.dm];exact e.looks.met g b
 .rw[p_,is_self,I2];rfl
 .rw[p_,f.ds];exact e.looks.ks b
 .rw[p_,f.dm];exact e.looks.km b
 .rw[p_,is_self];exact⟨_,rfl⟩
 .rw[p_,Aw f.ud];exact e.node v s
 .rw[p_,k];exact e.frame t p o q r k
def IZ.any{e:Aa}{f c g:u}{G3:Bo}(b:IZ h e l f c g a X):IZ h e l f c g G3 true:=⟨b.box,λh=>zCT,λh=>zCT,λh=>zCT,b.ks,b.km,b.kd⟩
def Gv{g:Aa}{f mt:u}{j:S}{m:Option Bo}(e:gY g l f mt c h π L a b j)(s:gV π l f mt c)(t:o=FK g f mt c X)(v:m=I):W9 g l f mt c h π m (.ret (.kw [])) (j.put l o):=by
 refine⟨rfl,λw n k p q r=>?_,λd9 i=>?_,λ_ G3=>?_⟩
 .rw[p_,k];exact e.frame w n k p q r
 .rw[v]at i;cases i
 .exact(xX (b':=X) {e with looks:={e.looks with em:=e.looks.em,met:=e.looks.met,defs:=e.looks.defs}} s t AG).looks.any
def HF{g:Aa}{j mt:u}{e:S}{i:Option Bo}(f:gY g l j mt c h π L a X e)(k:i=I):W9 g l j mt c h π i (.ret (.kw [])) e:=by refine⟨rfl,f.frame,λd9 b=>?_,λ_ G3=>f.looks.any⟩;rw[k]at b;cases b
def VB{i:Aa}{k mt:u}{e:S}{j:Option Bo}(f:gY i l k mt c h π L a Z e)(g:j=J a):W9 i l k mt c h π j (.ret (.kw [])) e:=by
 refine⟨rfl,f.frame,λd9 b=>?_,λb=>?_⟩
 .rw[g]at b;cases b;exact f.looks
 .rw[g]at b;cases b
theorem eT{f:Int->Int->Bo->Option Bo}:∀{l m:List (Int×Int)} {a:Bo},Cu f (l++m) a=match Cu f l a with|some d9=>Cu f m d9|none=>I
 :=by intro x;induction x<;>grind [Cu]
def ANn(b:Aa)(k:Nat):Prop:=∀(i size:Int) (a:Bo) (h:S) (π:u) (l e c g:u),Ga a.met<=k->a.fit b->0<=size->size+70*k<=5000->gV π l e c g->IZ h b l e c g a Z->
    ∃o f,kT (.fn 129) [.ptr l 0,nI i,nI size] h π X I=.ok (o,f)/\W9 b l e c g h π (Bb b k i size a) o f
def AIb(e:Aa)(bl:U e.nodes<=60)(bk:U e.defs<=12)(k:Nat)(R:ANn e k)(d:Bc)(F:VS d)(size:Int)(a:Bo)(h:S)(π:u)(l C B D:u)(ar:Ga a.met<=k)(ai:a.fit e)(aa:0<=size)(bn:size+10+70*k<=5000)(Q:gV π l C B D)(t:IZ h e l C B D a Z):
 ∃o f,kT (.fn 170) [.ptr l 0,.agg [.d (.co (d.ac.map BR)),.d (.co (d.be.map BD)),.d (.co (d.rules.map BN))],nI size] h π X I=.ok (o,f)/\W9 e l C B D h π (Cu (Bb e k) (DD d size d.rules++Cr size d.be) a) o f:=by
 have j:=AB Q;have a4:=F.ac;have a5:=F.be;have a6:=F.rules;replace F:=AB F;replace R:=AB R;have av:=t.box;rw[FK]at av;have a':=AN Q.ul;have bc:=Aw Q.ul;clear Q;have ag:AR (gY e l C B D h π [(0,.box [.d (.co (d.ac.map BR)),.d (.co (d.be.map BD)),.d (.co (d.rules.map BN))])] a Z (h.put (0::0::π) (.box [.d (.co (d.ac.map BR)),.d (.co (d.be.map BD)),.d (.co (d.rules.map BN))]))):=by
  refine⟨⟨⟨?_,λ_ q=>?_,λ_ q=>?_,λ_ q=>?_,λq=>?_,λq=>?_,λq=>?_⟩,?_,λbx ac aa be bh bi=>?_⟩⟩
  .rw[p_,AN j.1.ul];exact t.box
  .rw[p_,AN j.1.us];exact t.em rfl q
  .rw[p_,AN j.1.um];exact t.met rfl q
  .rw[p_,AN j.1.ud];exact t.defs rfl q
  .rw[p_,AN j.1.us];exact t.ks q
  .rw[p_,AN j.1.um];exact t.km q
  .rw[p_,AN j.1.ud];exact t.kd q
  .intro b0 a0;cases AS.1 a0;simp[p_]
  .simp[p_,AN ac]
 replace t:=AB t;refine Ba func170 ?_;refine aw ?_;refine Ah d.rules (B2:=λs g=>⟨[(0,.ptr l 0),(2,nI size),(4,.ptr (0::0::π) 0),(6,nI s)],g.1.1,g.2+2,[]⟩)
  (Inv:=λs T g=>∃b,gY e l C B D h π [(0,.box [.d (.co (d.ac.map BR)),.d (.co (d.be.map BD)),.d (.co (d.rules.map BN))])] g.1.2 b g.1.1/\g.1.2.fit e/\Ga g.1.2.met<=k/\AR (b=Z->Cu (Bb e k) (DD d size d.rules++Cr size d.be) a=Cu (Bb e k) (DD d size T++Cr size d.be) g.1.2)/\AR (b=X->Cu (Bb e k) (DD d size d.rules++Cr size d.be) a=I)) (b0:=((_,a),_)) ?_ ?_ ?_
 .exact⟨Z,ag.1,ai,ar,⟨λ_=>rfl⟩,⟨λh=>zCT⟩⟩
 .rintro s A ⟨⟨L,p⟩,K⟩ W N O ⟨b,c,m,n,r,v⟩ H;dsimp only at*;have w:=c.node _ (CO ..);have x:=c.looks.box;rw[FK]at x;dsimp only at w;cases b
  .have P:=SG F.1 (AP W);have bo:=AJ5 d A P;have bs:=Ny P.2.2 A.d7;have bv:=P.1;replace P:=AB P;refine aw (Fk (R.1 A.node (size+B9 d A.d7) p _ _ l C B D n m z z (G7 j.1 _) c.looks) (λa2 Y i=>?_));obtain rfl:=i.ret;replace i:=AB i;refine aw ?_;rcases hvy:Bb e k A.node (size+B9 d A.d7) p with _|V
   .refine H.1 ((_,p),_) ⟨X,Hb c j.1 ?_ (i.1.no hvy _) i.1.frame,m,n,⟨λh=>zCT⟩,⟨λ_=>?_⟩⟩
    .exact zBL
    .rw[r.1 rfl];simp[DD,Cu,hvy]
   .have M:=C1 e _ _ _ _ _ hvy;refine H.1 ((_,V),_) ⟨Z,Hb c j.1 ?_ (i.1.yes _ hvy) i.1.frame,Iz m M,HE M.less n,⟨λ_=>?_⟩,⟨λh=>zCT⟩⟩
    .exact zBL
    .rw[r.1 rfl];simp[DD,Cu,hvy]
  .exact zAo
 .rintro s ⟨⟨L,p⟩,K⟩ N O ⟨b,c,m,n,r,v⟩;dsimp only at*;have w:=c.node _ (CO ..);have x:=c.looks.box;rw[FK]at x;dsimp only at w;cases b
  .refine aw ?_;refine Ah d.be (B2:=λs g=>⟨[(0,.ptr l 0),(2,nI size),(4,.ptr (0::0::π) 0),(7,nI s)],g.1.1,g.2+2,[]⟩)
    (Inv:=λs T g=>∃b,gY e l C B D h π [(0,.box [.d (.co (d.ac.map BR)),.d (.co (d.be.map BD)),.d (.co (d.rules.map BN))])] g.1.2 b g.1.1/\g.1.2.fit e/\Ga g.1.2.met<=k/\AR (b=Z->Cu (Bb e k) (DD d size d.rules++Cr size d.be) a=Cu (Bb e k) (Cr size T) g.1.2)/\AR (b=X->Cu (Bb e k) (DD d size d.rules++Cr size d.be) a=I)) (b0:=((_,p),_)) ?_ ?_ ?_
   .exact⟨Z,c,m,n,⟨λ_=>r.1 rfl⟩,⟨λh=>zCT⟩⟩
   .clear c w x N O m n r v L K s p;rintro s A ⟨⟨L,p⟩,K⟩ W N O ⟨b,c,m,n,r,v⟩ H;dsimp only at*;have w:=c.node _ (CO ..);have x:=c.looks.box;rw[FK]at x;dsimp only at w;cases b
    .refine aw (Ak (R.1 A.node size p _ _ l C B D n m z z (G7 j.1 _) c.looks) (λa2 Y i=>?_));obtain rfl:=i.ret;replace i:=AB i;refine aw ?_;rcases hvy:Bb e k A.node size p with _|V
     .refine H.1 ((_,p),_) ⟨X,Hb c j.1 ?_ (i.1.no hvy _) i.1.frame,m,n,⟨λh=>zCT⟩,⟨λ_=>?_⟩⟩
      .exact zBL
      .rw[r.1 rfl];simp[Cr,Cu,hvy]
     .have M:=C1 e _ _ _ _ _ hvy;refine H.1 ((_,V),_) ⟨Z,Hb c j.1 ?_ (i.1.yes _ hvy) i.1.frame,Iz m M,HE M.less n,⟨λ_=>?_⟩,⟨λh=>zCT⟩⟩
      .exact zBL
      .rw[r.1 rfl];simp[Cr,Cu,hvy]
    .exact aw (HF c (v.1 rfl))
   .clear c w x N O m n r v L K s p;rintro s ⟨⟨L,p⟩,K⟩ N O ⟨b,c,m,n,r,v⟩;dsimp only at*;have w:=c.node _ (CO ..);have x:=c.looks.box;rw[FK]at x;dsimp only at w;cases b
    .exact aw (VB c (r.1 rfl))
    .exact aw (HF c (v.1 rfl))
  .exact zAo
theorem LL(c:Aa)(A:U c.nodes<=60)(e size:Int)(a:Bo)(h:S)(π:u)(l i g j:u)(w:a.fit c)(r:gV π l i g j)(m:IZ h c l i g j a Z)(n:0<=e->e<U c.nodes->a.met[e.toNat]?=J X):
 ∃o f,kT (.fn 129) [.ptr l 0,nI e,nI size] h π X I=.ok (o,f)/\W9 c l i g j h π I o f:=by
 have k:gY c l i g j h π [] a Z h:=⟨m,AG,λ_ _ _ _ _ _=>rfl⟩;have s:∀b,FK c i g j b=.box [.d (.co (c.free.map CB)),.d (.co (c.nodes.map Bg)),.d (.co (c.defs.map Br)),nI c.main,slv i (U c.nodes),slv g (U c.nodes),slv j (U c.defs),.d (.bool b)]:=λb=>rfl;have t:=m.box;rw[FK]at t;have v:=m.met rfl;have x:=AN r.ul;refine Nm ?_ m n k;clear m n k;intro m n k;have p:=AB r;have B:=w.met;by_cases D:e<0
 .refine Ba func129 ?_;exact aw (Gv k.1 p.1 rfl rfl)
 .by_cases H:(U c.nodes:Int)<=e
  .refine Ba func129 ?_;exact aw (Gv k.1 p.1 rfl rfl)
  .have q:U c.nodes≠0:=z;have F:0<=e:=z;have C:e.toNat<U c.nodes:=z;have K:=n.1 z z;have v:=v q;rw[Bp q,Bp q]at t;have s:AR (Abs.Obj.box [.d (.co (c.free.map CB)),.d (.co (c.nodes.map Bg)),.d (.co (c.defs.map Br)),nI c.main,.ii i 0 (U c.nodes),.ii g 0 (U c.nodes),slv j (U c.defs),.d (.bool X)]=FK c i g j X):=⟨by grind [Bp]⟩;refine Ba func129 ?_;exact aw (Gv k.1 p.1 s.1 rfl)
theorem nT(c:Aa)(b3:U c.nodes<=60)(dr:U c.defs<=12)(d0:∀d∈c.defs,d.okG=X):∀(k:Nat) (g size:Int) (a:Bo) (h:S) (π:u) (l r q s:u),Ga a.met<=k->a.fit c->0<=size->size+70*k<=5000->gV π l r q s->IZ h c l r q s a Z->
 ∃o f,kT (.fn 129) [.ptr l 0,nI g,nI size] h π X I=.ok (o,f)/\W9 c l r q s h π (Bb c k g size a) o f:=by
 intro k;induction k with
 |zero=>intro g size a h π l r q s d2 A cq ds ch cl;refine LL c b3 g size a h π l r q s A ch cl λbh bi=>?_;obtain⟨cc,az⟩:=g_ (l:=a.met) (i:=g.toNat) (by rw[A.met];omega);cases cc with|true=>exact az|false=>have:=HH az;omega
 |succ k F=>
 intro g size a h π l r q s d2 A cq ds ch cl;have n:=AB ch;obtain⟨ul,dn,dm,dj,e8,e7,e5,d8,df,de,d6,e9,c',dl,ef,ec⟩:=ch;have cv:=AB cl;obtain⟨M,T,R,b9,_,_,_⟩:=cl;have V:=AN ul;have N:=AN dn;have O:=AN dm;have P:=AN dj;have aa:=Aw ul;have ac:=Aw dn;have ad:=Aw dm;have ag:=Aw dj;by_cases es:g<0
 .have b2:Bb c (k+1) g size a=none:=by rw[Bb,Co λc4=>z]
  rw[b2];exact LL c b3 g size a h π l r q s A n.1 cv.1 λh=>z
 .by_cases et:(U c.nodes:Int)<=g
  .have b2:Bb c (k+1) g size a=none:=by
    rw[Bb];split
    .rename_i c4;have:=l_ c4.2;rw[A.met]at this;omega
    .rfl
   rw[b2];exact LL c b3 g size a h π l r q s A n.1 cv.1 λ_ h=>z
  .have a6:U c.nodes≠0:=z;have c6:0<=g:=z;have ex:g<U c.nodes:=z;have d3:g.toNat<U c.nodes:=z;obtain⟨bo,a'⟩:=g_ d3;obtain⟨cc,az⟩:=g_ (l:=a.met) (i:=g.toNat) (by rw[A.met];omega);obtain⟨fr,e2⟩:=g_ (l:=a.em) (i:=g.toNat) (by rw[A.em];omega);have R:=R rfl a6;have T:=T rfl a6;rw[FK,Bp a6,Bp a6]at M;replace F:=AB F;replace b9:=AB b9;have en:=A.em;have em:=A.met;cases cc with
   |true=>
    have b2:Bb c (k+1) g size a=none:=by rw[Bb,Co];rw[az];simp
    rw[b2];exact LL c b3 g size a h π l r q s A n.1 cv.1 λ_ _=>az
   |false=>
    refine Ba func129 ?_;have K:=AR.mk (SQ (p:=c) (k:=k) (size:=size) c6 az a');have x:=AR.mk (dQ (p:=c) (k:=k) (size:=size) c6 az a');obtain⟨D,w,a3,a4⟩:=bo;have p:AR (∀b,Abs.Obj.box [.d (.co (c.free.map CB)),.d (.co (c.nodes.map Bg)),.d (.co (c.defs.map Br)),nI c.main,.ii r 0 (U c.nodes),.ii q 0 (U c.nodes),slv s (U c.defs),.d (.bool b)]=FK c r q s b):=.mk λb=>by rw[FK,Bp a6,Bp a6]
    have v:AR (∀o c0,gY c l r q s h π [(48,c0)] (a.meet g size) Z ((((h.put q (.f9 1 ((V5 KX a.met).set g.toNat [.int .i64 1]))).put r (.f9 1 ((V5 AX a.em).set g.toNat [.int .i64 size]))).put (0::48::π) o).put (0::48::π) c0)):=.mk λo c0=>by
     refine⟨⟨?_,λ_ _=>?_,λ_ _=>?_,λ_ b0=>?_,λ_=>?_,λ_=>?_,λb0=>?_⟩,?_,λe4 bh cq bi dq ek=>?_⟩
     .rw[<-p.1];simp[p_,V,d8,d6,M]
     .simp only[p_,N,is_self,AM,Gs,IP,Bo.meet,I2];rfl
     .simp only[p_,O,df,is_self,AM,Gs,IP,Bo.meet,I2];rfl
     .simp[p_,P,de,c',Bo.meet,b9.1 rfl b0]
     .exact⟨_,by simp only[p_,N,is_self,AM,Gs,IP];rfl⟩
     .exact⟨_,by simp only[p_,O,df,is_self,AM,Gs,IP];rfl⟩
     .exact⟨_,by simp only[p_,P,de,c',AM,Gs,b9.1 rfl b0];rfl⟩
     .intro c1 cx;cases AS.1 cx;simp[p_]
     .simp[p_,AN bh,bi,dq]
    by_cases d7:D=4
    .subst d7;have er:∀{c2:Prop},c2->AR c2:=λh=>⟨h⟩;by_cases fs:w<0
     ·exact zAQ
     by_cases fv:(U c.defs:Int)<=w
     ·exact zAQ
     have fz:0<=w:=z;have f0:w<U c.defs:=z;have cs:U c.defs≠0:=z;have d5:w.toNat<U c.defs:=z;obtain⟨d,b0⟩:=g_ d5;obtain⟨cc,c8⟩:=g_ (l:=a.defs) (i:=w.toNat) (by rw[A.defs];omega);have el:=A.defs;have e6:=b9.1 rfl cs;rw[Bp cs]at M;have c3:=d0 d (AP b0);have bk:=U0 c3;have d':=bk.ac;have ea:=bk.be;have eb:=bk.rules;have e1:=Yu bk;have e0:=AKE d z z;replace bk:=AB bk;have c5:AR (WI c size ⟨4,w,a3,a4⟩ (a.meet g size)=if a.defs[w.toNat]?=J Z/\d.okG=X then J (DD d (size+d.own) d.rules++(Cr (size+d.own) d.be++Cg (size+d.own) a4),{a.meet g size with defs:=a.defs.set w.toNat X})else I):=by refine⟨?_⟩;rw[WI,D3 rfl,b0];rfl
     have bs:AR (∀b,Abs.Obj.box [.d (.co (c.free.map CB)),.d (.co (c.nodes.map Bg)),.d (.co (c.defs.map Br)),nI c.main,.ii r 0 (U c.nodes),.ii q 0 (U c.nodes),.ii s 0 (U c.defs),.d (.bool b)]=FK c r q s b):=.mk λb=>by rw[FK,Bp a6,Bp a6,Bp cs]
     cases cc with
     |true=>
      have W:AR (Bb c (k+1) g size a=I):=by
       refine⟨?_⟩;rw[K.1,c5.1,c8];split
       .rw[Co AG]
       .rfl
      (repeat' (first|simp only[*,go_sem,Nf,Oe]|(refine sx ?_ ?_<;>intro b4)|refine sy z λbo a' b6=>?_|simp(disch:=first|assumption|omega) only[Ae]))
      all_goals try(exact Gv (v.1 _ _) n.1 (bs.1 _) W.1)
      rw[DT];refine aw ?_;exact Gv (v.1 _ _) n.1 (bs.1 _) W.1
     |false=>
      (repeat' (first|simp only[*,go_sem,Nf,Oe]|(refine sx ?_ ?_<;>intro b4)|refine sy z λbo a' b6=>?_|simp(disch:=first|assumption|omega) only[Ae]))
      all_goals try(exact Gv (v.1 _ _) n.1 (bs.1 _) (x.1 zCW))
      rw[DT];refine aw ?_;have ar:=AM0 (v.1 (.box [nI 0,nI 0,.d8,.d8]) (.box [nI 4,nI w,.d (.co (a3.map Bh)),.d (.co (a4.map AX))])) n.1 w.toNat;have cd:Bo.fit c {a.meet g size with defs:=(a.meet g size).defs.set w.toNat X}:=by have:=TW A g size;exact⟨this.em,this.met,by simp[Bo.meet,A.defs]⟩
      have cm:Ga (a.meet g size).met<=k:=by have:=HH az;simp only[Bo.meet];omega
      have eg:(U a3:Int)=0:=CM;have ej:(U a4:Int)=1:=CM;have e3:a3=[]:=CI z;have cn:AR (Bb c (k+1) g size a=match Cu (Bb c k) (DD d (size+d.own) d.rules++Cr (size+d.own) d.be) {a.meet g size with defs:=(a.meet g size).defs.set w.toNat X}with|some d9=>Cu (Bb c k) (Cg (size+d.own) a4) d9|none=>I):=by
       refine⟨?_⟩;rw[K.1,D3,c5.1,D3 ⟨c8,c3⟩]
       .rw[<-eT,F1];rfl
       .clear V N O P aa ac ad ag M R T K x F v p ar cd cm;grind [Cq,DM,bz,Ft]
      refine Ak (AIb c b3 dr k F.1 d bk.1 (size+d.own) {a.meet g size with defs:=(a.meet g size).defs.set w.toNat X} _ _ l r q s cm cd z z (G7 n.1 _) ar.looks) (λdc cp i=>?_)
      obtain rfl:=i.ret;have bl:∀j,j≠48->∀c1∈ [((48:Nat),Abs.Obj.box [nI 4,nI w,.d (.co (a3.map Bh)),.d (.co (a4.map AX))])],j≠c1.1:=by intro j d1 c1 cx;cases AS.1 cx;exact d1
      cases Y:Cu (Bb c k) (DD d (size+d.own) d.rules++Cr (size+d.own) d.be) {a.meet g size with defs:=(a.meet g size).defs.set w.toNat X}with
      |none=>have e:=Hb ar n.1 (bl 168 Ad) (d9:=a) (b':=X) (i.no Y _) i.frame;have t:=e.node _ (CO ..);have B:=e.looks.box;rw[<-bs.1]at B;dsimp only at t;replace i:=AB i;replace ar:=AB ar;replace bl:=AB bl;replace Y:=AB Y;refine aw ?_;rw[DT];refine aw ?_;exact HF e (by rw[cn.1,Y.1])
      |some bn=>
       have e:=Hb ar n.1 (bl 168 Ad) (i.yes _ Y) i.frame;have cu:yD {a.meet g size with defs:=(a.meet g size).defs.set w.toNat X} bn:=aq (R:=yD) (λa=>⟨rfl,rfl,rfl,D4 _⟩) (λm b be bh bi=>⟨bi.1.trans bh.1,bi.2.trans bh.2,bi.3.trans bh.3,HE bi.4 bh.4⟩) (C1 c k) Y
       rw[Y]at cn;replace i:=AB i;replace ar:=AB ar;replace bl:=AB bl;replace Y:=AB Y;refine aw ?_;refine Ah a4 (B2:=λC m=>⟨[(0,.ptr l 0),(6,.ptr (0::48::π) 0),(11,nI (size+(d.own:Int))),(12,nI C)],m.1.1,m.2+170,[]⟩)
        (Inv:=λC b' m=>∃b,gY c l r q s h π [(48,.box [nI 4,nI w,.d (.co (a3.map Bh)),.d (.co (a4.map AX))])] m.1.2 b m.1.1/\m.1.2.fit c/\Ga m.1.2.met<=k/\AR (b=Z->Bb c (k+1) g size a=Cu (Bb c k) (Cg (size+d.own) b') m.1.2)/\AR (b=X->Bb c (k+1) g size a=I)) (b0:=((_,bn),_)) ?_ ?_ ?_
       .exact⟨Z,e,Iz cd cu,HE cu.less cm,⟨λ_=>cn.1⟩,⟨λh=>zCT⟩⟩
       all_goals clear e i ar bl Y cp cn cu bn cd cm
       .rintro C bc ⟨⟨ai,a2⟩,be⟩ c9 b1 H ⟨b,e,av,a0,a1,W⟩ a5;dsimp only at*;have t:=e.node _ (CO ..);have B:=e.looks.box;rw[<-bs.1]at B;dsimp only at t;try simp[*]at H
        cases b
        .refine aw ?_;refine Ak (F.1 bc (size+d.own) a2 _ _ l r q s a0 av z z (G7 n.1 _) e.looks) (λdc cp i=>?_);obtain rfl:=i.ret;replace i:=AB i;refine aw ?_;cases Q:Bb c k bc (size+d.own) a2 with
         |none=>
          refine a5.1 ((_,a2),_) ⟨X,Hb e n.1 ?_ (i.1.no Q _) i.1.frame,av,a0,⟨λh=>zCT⟩,⟨λ_=>?_⟩⟩
          .exact zBL
          .rw[a1.1 rfl];simp[Cg,Cu,Q]
         |some bn=>
          have b5:=C1 c _ _ _ _ _ Q;refine a5.1 ((_,bn),_) ⟨Z,Hb e n.1 ?_ (i.1.yes _ Q) i.1.frame,Iz av b5,HE b5.less a0,⟨λ_=>?_⟩,⟨λh=>zCT⟩⟩
          .exact zBL
          .rw[a1.1 rfl];simp[Cg,Cu,Q]
        .exact zCD
       .rintro C ⟨⟨ai,a2⟩,be⟩ b1 H ⟨b,e,av,a0,a1,W⟩;dsimp only at*;have t:=e.node _ (CO ..);have B:=e.looks.box;rw[<-bs.1]at B;dsimp only at t;try simp only[*]at H
        cases b
        .refine aw ?_;exact VB e (a1.1 rfl)
        .exact zCD
    have d4:D=3\/D=1\/D=7\/(D=2)\/D=5\/D=6\/D=8\/(¬D=1/\¬D=7/\¬D=3/\¬D=2/\¬D=5/\¬D=6/\¬D=8):=z;rcases d4 with rfl|rfl|rfl|rfl|rfl|rfl|rfl|⟨e',fc,fd,fi,fl,fo,fp⟩;all_goals ((repeat' (first|simp only[*,go_sem,Nf,Oe]|(refine sx ?_ ?_<;>intro b4)|refine sy z λbo a' b6=>?_|simp(disch:=first|assumption|omega) only[Ae])))
    all_goals try(exfalso;omega)
    all_goals try(exact Gv (v.1 _ _) n.1 (p.1 _) (x.1 zCW))
    all_goals
     refine Ah a3 (B2:=λC m=>⟨[(0,.ptr l 0),(2,nI size),(6,.ptr (0::48::π) 0),(10,nI C)],m.1.1,m.2+60,[]⟩)
      (Inv:=λC b' m=>gY c l r q s h π _ (a.meet g size) m.1.2 m.1.1/\AR (a3.all (Bz.ok size)=(!m.1.2&&b'.all (Bz.ok size)))) (b0:=((_,Z),_)) ⟨v.1 _ _,⟨rfl⟩⟩ ?_ ?_
     .rintro C bc ⟨⟨ai,b⟩,be⟩ c9 b1 H ⟨e,b8⟩ a5;dsimp only at*;try(exfalso;omega)
      all_goals
       have t:=e.node _ (CO ..);have B:=e.looks.box;rw[<-p.1]at B;dsimp only at t;try simp only[*]at H
      all_goals
       cases b
       .exact zBd
       .exact zBd
     .rintro C ⟨⟨ai,b⟩,be⟩ b1 H ⟨e,b8⟩;dsimp only at*;have t:=e.node _ (CO ..);have B:=e.looks.box;rw[<-p.1]at B;dsimp only at t;try simp only[*]at H
      cases b;all_goals
       ((repeat' (first|simp only[*,go_sem]|(refine sx ?_ ?_<;>intro b4)|refine sy z λbo a' b6=>?_|simp(disch:=first|assumption|omega) only[Ae])))
      all_goals
       have bx:AR (a3.all (Bz.ok size)=_):=b8;simp only[TY,RS,RG,TO]at bx;obtain⟨L,bv⟩:∃L,gY c l r q s h π L (a.meet g size) _ ai/\∃o,L=[(48,o)]/\ai.get (0::48::π)=J o:=⟨_,e,_,rfl,t⟩;clear e;obtain⟨e,dd,bv,c7⟩:=bv;have b7:=t.symm.trans c7;simp only[F4]at b7;replace b7:=AB b7;clear c7;refine Ah a4 (B2:=λC m=>⟨[(0,.ptr l 0),(6,.ptr (0::48::π) 0),(11,nI size),(12,nI C)],m.1.1,m.2+60,[]⟩)
        (Inv:=λC b' m=>∃b,gY c l r q s h π L m.1.2 b m.1.1/\m.1.2.fit c/\Ga m.1.2.met<=k/\AR (b=Z->Bb c (k+1) g size a=Cu (Bb c k) (Cg size b') m.1.2)/\AR (b=X->Bb c (k+1) g size a=I)) (b0:=((_,a.meet g size),_)) ?_ ?_ ?_
       .dsimp only;refine⟨_,xX e n.1 (p.1 _) AG,TW A _ _,?_,⟨λdx=>?_⟩,⟨λdx=>?_⟩⟩
        .have:=HH az;simp only[Bo.meet];omega
        .rw[K.1,D3,WI]
         .simp
         .exact zB9
        .refine x.1 ?_;exact zB9
       all_goals clear e t B b8 b1 H ai be C bx
       .rintro C bc ⟨⟨ai,a2⟩,be⟩ c9 b1 H ⟨b,e,av,a0,a1,W⟩ a5;dsimp only at*;try(exfalso;omega)
        all_goals
         have t:=e.node (48,dd) (by rw[bv];exact CO ..);rw[<-b7.1]at t;have B:=e.looks.box;rw[<-p.1]at B;dsimp only at t;try simp only[*]at H
        all_goals
         cases b
         .refine aw ?_;refine Ak (F.1 bc size a2 ai _ l r q s a0 av cq z (G7 n.1 _) e.looks) (λdc cp i=>?_);obtain rfl:=i.ret;replace i:=AB i;refine aw ?_;cases Q:Bb c k bc size a2 with
          |none=>
           refine a5.1 ((_,a2),_) ⟨X,Hb e n.1 ?_ (i.1.no Q _) i.1.frame,av,a0,⟨λh=>zCT⟩,⟨λ_=>?_⟩⟩
           .rw[bv];exact zAS
           .rw[a1.1 rfl];simp only[Cg,Bv,Cu,Q]
          |some bn=>
           have b5:=C1 c _ _ _ _ _ Q;refine a5.1 ((_,bn),_) ⟨Z,Hb e n.1 ?_ (i.1.yes _ Q) i.1.frame,Iz av b5,HE b5.less a0,⟨λ_=>?_⟩,⟨λh=>zCT⟩⟩
           .rw[bv];exact zAS
           .rw[a1.1 rfl];simp only[Cg,Bv,Cu,Q]
         .exact zCD
       .rintro C ⟨⟨ai,a2⟩,be⟩ b1 H ⟨b,e,av,a0,a1,W⟩;dsimp only at*;have t:=e.node (48,dd) (by rw[bv];exact CO ..);rw[<-b7.1]at t;have B:=e.looks.box;rw[<-p.1]at B;dsimp only at t;try simp only[*]at H
        cases b
        .refine aw ?_;exact VB e (a1.1 rfl)
        .exact zCD
def AG2{b:Aa}{m mt:u}{f:Nat}{i:Int}(k:LY h b l m mt c a)(p:f<U b.nodes)(q:a.em[f]?=J i)(r:U a.em=U b.nodes)(π:u):kT (.fn 166) [.ptr l 0,nI f] h π X I=.ok (.ret (nI i),h):=by obtain⟨j,g,n,o⟩:=k;have e:U b.nodes≠0:=z;have g:=g e;rw[Bp e,Bp e]at j;refine ANi rfl func166 rfl rfl rfl ?_;show Wp _ _ _ _ (Tryz.f166.body.get rfl) _ _;simp only[Tryz.f166,Option.get_some];exact au
def NQ{i:Aa}{g mt:u}{h:S}(e:LY h i l g mt c a)(f:gV π l g mt c)(k j:Nat)(o:Abs.Obj):LY (h.put (k::j::π) o) i l g mt c a:=⟨by rw[p_,AN f.ul];exact e.box,λb=>by rw[p_,AN f.us];exact e.em b,λb=>by rw[p_,AN f.um];exact e.met b,λb=>by rw[p_,AN f.ud];exact e.defs b⟩
def AIC(k:Aa)(W:U k.nodes<=60)(a:Bo)(h:S)(π:u)(l C mt c e b:u)(n:LY h k l C mt c a)(B:U a.em=U k.nodes)(m:gV π l C mt c)(Y:h.get e=J (.box [.d (.co (k.free.map CB)),.d (.co (k.nodes.map Bg)),.d (.co (k.defs.map Br)),nI k.main])) (r:h.get b=J (.box [.fn 166 [] []])) (a4:AD π e=Z) (O:AD π b=Z) (ag:0<U k.nodes):
 ∃o f,kT (.fn 187) [.ptr l 0,.ptr e 0,.ptr b 0] h π X I=.ok (o,f)/\(∃j,o=.ret (.ii (1::j::π) 0 (U k.nodes))/\f.get (1::j::π)=J (.f9 1 (a.em.map AX)))/\∀i,AD π i=Z->f.get i=h.get i:=by
 refine Ba func187 ?_;have m:=AB m;have n:=AB n;have ar:=AB B;have M:=AN O;have N:=AL O;refine aw ?_;refine CR a.em _ (λR g e=>⟨[(0,.ptr l 0),(2,.ptr b 0),(5,e.1.2),(9,nI R),(10,nI g)],e.1.1,e.2+6,[]⟩)
  (Inv:=λg a2 e=>AR (LY e.1.1 k l C mt c a)/\e.1.1.get b=J (.box [.fn 166 [] []])/\AR (∀i,AD π i=Z->e.1.1.get i=h.get i)/\AR (g=0/\e.1.2=.d8\/∃j,j<e.2+6/\e.1.2=.ii (1::j::π) 0 g/\e.1.1.get (1::j::π)=J (.f9 1 ((a.em.take g).map AX)))) (b0:=((h,.d8),0)) ?_ ⟨n,r,⟨λ_ _=>rfl⟩,⟨.inl ⟨rfl,rfl⟩⟩⟩ ?_ ?_
 .omega
 .rintro g V ⟨⟨v,T⟩,s⟩ A F P ⟨n,r,t,q⟩ D;dsimp only at*;have L:=λρ=>AG2 n.1 z A B ρ;rcases q.1 with⟨rfl,rfl⟩|⟨j,Q,rfl,K⟩
  .clear q;have ac:(0:Int)<U k.nodes:=z;have L:∀ρ,kT (.fn 166) [.ptr l 0,nI 0] v ρ X I=.ok (.ret (nI V),v):=L;refine aw (D.1 ((_,_),_) ⟨⟨NQ (NQ (Px n.1 (G7 m.1 _)) m.1 _ _ _) m.1 _ _ _⟩,?_,⟨λi p=>?_⟩,⟨.inr ⟨_,?_,rfl,?_⟩⟩⟩)
   .simp only[go_sem,M,N,r]
   .have w:=AN p;have x:=AL p;simp only[go_sem,w,x,t.1 i p,AM]
   .omega
   .simp only[go_sem];rw[List.take_succ,A];rfl
  .clear q;have av:¬s+13=j:=z;have az:¬s+14=j:=z;have a0:¬s+15=j:=z;have a3:(a.em.take g).length=g:=BL;have a1:¬g+1<=g:=z
   (repeat' (first|simp only[*,go_sem,D4]|(refine sx ?_ ?_<;>intro aa)|refine sy z λa5 ai ad=>?_|simp(disch:=first|assumption|omega) only[Ae]))
   refine D.1 ((_,_),_) ⟨⟨NQ (NQ (NQ (Px n.1 (G7 m.1 _)) m.1 _ _ _) m.1 _ _ _) m.1 _ _ _⟩,?_,⟨λi p=>?_⟩,⟨.inr ⟨_,?_,rfl,?_⟩⟩⟩
   .simp only[go_sem,M,N,r]
   .have w:=AN p;have x:=AL p;simp only[go_sem,w,x,t.1 i p,AM]
   .omega
   .simp only[go_sem];have:WA g (V5 AX (WA g a.em))=V5 AX (WA g a.em):=Bi BL;rw[this,List.take_succ,A,Ap];rfl
 .rintro g ⟨⟨v,T⟩,s⟩ F P ⟨n,r,t,q⟩;dsimp only at*;rcases q.1 with⟨rfl,rfl⟩|⟨j,Q,rfl,K⟩
  .exfalso;omega
  .clear q;refine aw ?_;have H:=F.1;refine⟨⟨_,by rw[H,B],?_⟩,t.1⟩;rw[K,H,F3]
def ACP(c e j k:Nat)(π:u)(h:c≠k):AD (c::π) (e::j::k::π)=false:=IJ λa=>by
 rcases Ip.1 a with b|a
 .exact zBX
 rcases Ip.1 a with b|a
 .exact zBX
 rcases Ip.1 a with b|a
 .simp only[SP,and_true]at b;exact h b
 .exact zBu
def AAn{f:S}{g:Aa}{i mt:u}(e:LY f g l i mt c a):LY (f++h) g l i mt c a:=⟨Dp e.box,λb=>Dp (e.em b),λb=>Dp (e.met b),λb=>Dp (e.defs b)⟩
structure qV(p:Aa)(o:BC)(h':S):Prop:=
 no:looks p=I->o=.ret (.kw [.d8,nI 2])
 yes:∀a,looks p=J a->∃id,o=.ret (.kw [.ii (1::id) 0 (U p.nodes),nI 0])/\h'.get (1::id)=J (.f9 1 (a.em.map AX))
def AAm(c:Aa)(p:∀L∈c.free,L.size<=maxLen)(h:S)(π:u)(i b:u)(C:h.get i=J (.box [.d (.co (c.free.map CB)),.d (.co (c.nodes.map Bg)),.d (.co (c.defs.map Br)),nI c.main])) (D:h.get b=J (.box [.fn 166 [] []])) (v:AD π i=Z) (w:AD π b=Z):
 ∃o f,kT (.fn 186) [.agg [.d (.co (c.free.map CB)),.d (.co (c.nodes.map Bg)),.d (.co (c.defs.map Br)),nI c.main],.fn 187 [] [.ptr i 0,.ptr b 0]] h π X I=.ok (o,f)/\qV c o f:=by
 refine Ba func186 ?_;have p:=AB p;have M:=AN v;have t:=AL v;have v1:=AN w;have x:=AL w;have⟨r,e,hpost⟩:=xA c p.1 6 π;rcases hlk:looks c with _|a
 .obtain rfl:=hpost.of hlk;refine aw ?_;exact⟨λ_=>rfl,λa g=>by rw[hlk]at g;cases g⟩
 .obtain⟨O,rfl,n,k⟩:=hpost.ret a hlk;replace k:=AB k;replace n:=AB n;have m:=AR.mk (EZ hlk);have F:=m.1.len;have q:=m.1.small;simp only[Aa.small,As,Dl]at q;have B:0<U c.nodes:=by have A:=m.1.main.2;have:=l_ A;omega
  refine aw (Ak (AIC c q.2.1 a _ _ (0::16::6::π) (1::6::6::π) (1::10::6::π) (1::14::6::π) i b (AAn n.1) F ?_ ?_ ?_ (t _) (x _) B) (λP N H=>?_))
  .constructor<;>first|exact ACP _ _ _ _ _ Ad|simp only[go_sem]
  .rw[JB (k.1 i (t _))];simp only[go_sem,M,C,AM]
  .rw[JB (k.1 b (x _))];simp only[go_sem,v1,D,AM]
  obtain⟨⟨j,rfl,K⟩,l⟩:=H;have s:=l (0::2::π) (Dg _ _ _ _ Ad);rw[JB (k.1 (0::2::π) (Dg _ _ _ _ Ad))]at s;simp only[p_,is_self,IP]at s;replace l:=AB l;refine aw ?_;refine⟨λg=>by{rw[hlk]at g;cases g},λd9 g=>?_⟩;rw[hlk]at g;cases g;exact⟨_,rfl,by simp only[go_sem,K]⟩
def Og:Option Bo->y
 |none=>.kw [.d (.co []),nI 2]|some a=>.kw [.d (.co (a.em.map AX)),nI 0]
def AIo(b:Aa)(e:∀j∈b.free,j.size<=maxLen):Bk kT 165 [.agg [.d (.co (b.free.map CB)),.d (.co (b.nodes.map Bg)),.d (.co (b.defs.map Br)),nI b.main],.fn 166 [] []] []=.ok (.ret (Og (looks b)),[]):=by
 replace e:=AB e;refine BH func165 ?_;refine aw (Ak (AAm b e.1 _ _ _ _ ?_ ?_ ?_ ?_) (λn l c=>?_))
 .simp only[go_sem]
 .simp only[go_sem]
 .simp only[go_sem]
 .simp only[go_sem]
 rcases hlk:looks b with _|a
 .obtain rfl:=c.no hlk;clear c
  (repeat' (first|simp only[*,go_sem,Og]|(refine sx ?_ ?_<;>intro f)|refine sy z λk h g=>?_|simp(disch:=first|assumption|omega) only[Ae]))
 .obtain⟨m,rfl,o⟩:=c.yes a hlk;clear c;have i:=(EZ hlk).len;have p:WA (U b.nodes) (V5 AX a.em)=V5 AX a.em:=Bi (by simp[i])
  (repeat' (first|simp only[*,go_sem,Og,D4]|(refine sx ?_ ?_<;>intro f)|refine sy z λk h g=>?_|simp(disch:=first|assumption|omega) only[Ae]))
def ACx(b:Aa)(f:∀j∈b.free,j.size<=maxLen):Bk kT 109 [.agg [.d (.co (b.free.map CB)),.d (.co (b.nodes.map Bg)),.d (.co (b.defs.map Br)),nI b.main]] []=.ok (.ret (Og (looks b)),[]):=by
 have c:=AIo b f;clear f;refine BH func109 ?_;rcases e:looks b with _|a
 .exact zA6
 .exact zA6
def wv:∀(a b:List UInt8),(Op.bytesLess a b||a==b)= !Op.bytesLess b a
 |[],[]=>by simp[Op.bytesLess]|[],b::B0=>by simp[Op.bytesLess]|a::x,[]=>by simp[Op.bytesLess]|a::x,b::B0=>by
  have g:=wv x B0;simp only[Op.bytesLess,List.cons_beq_cons];by_cases c:a<b
  .have e:¬b<a:=λh=>by have:=UInt8.lt_asymm c h;exact this
   have f:(b==a)=false:=by simp only[beq_eq_false_iff_ne];intro h;subst h;exact UInt8.lt_irrefl _ c
   simp[c,e,f]
  .by_cases e:b<a
   .have f:(a==b)=false:=by simp only[beq_eq_false_iff_ne];intro h;subst h;exact UInt8.lt_irrefl _ e
    simp[c,e,f]
   .have f:a=b:=UInt8.le_antisymm (UInt8.not_lt.1 e) (UInt8.not_lt.1 c);subst f;simp only[c,decide_false,Ol,beq_self_eq_true,I4];exact g
def ACF(a b:ByteArray):(Op.bytesLess a.toList b.toList||a.toList==b.toList)= !pj b a:=wv _ _
theorem kN{a:Aa}{b:Al}(h:Ar a b):∀d∈a.defs,d.okG=true:=by intro d c;obtain⟨g,e⟩:=Ci c;obtain⟨j,i,f,m,k⟩:=h.used g (BE.1 e).1;have⟨s,l,_,_,_,_,hl,_⟩:=h.node j i f;grind [Hv]
structure AH1(p:Aa)(r:BC×S):Prop:=
 no:looks p=I->∃h l x0 x1 x2 x3 x4 x5 x6,r=(.ret (.ptr (0::l) 0),h)/\h.get (0::l)=J (.box [x0,x1,x2,x3,x4,x5,x6,.d (.bool X)])
 yes:∀a,looks p=J a->∃h l sz ow us,r=(.ret (.ptr (0::l) 0),h)/\IZ h p (0::l) (1::sz) (1::ow) (1::us) a Z
def Wv(n:Nat):(TL n (0:Int)).map AX=(TL n Z).map KX:=by rw[Lc,Lc];rfl
def G3:Bo:=⟨[],[],[]⟩
def ALx(c:Aa)(k:Nat)(ρ:u):∃az:BC×S,Bk kT 83 [.agg [.d (.co (c.free.map CB)),.d (.co (c.nodes.map Bg)),.d (.co (c.defs.map Br)),nI c.main]] (k::ρ)=.ok az/\AH1 c az:=by
 by_cases i:c.small=X
 .have ar:=AB i;simp only[Aa.small,As,Dl]at i;obtain⟨a',T,ac⟩:=i;have bc:¬(12:Int)<U c.free:=z;have be:¬(60:Int)<U c.nodes:=z;have bh:¬(12:Int)<U c.defs:=z;refine W7 func83 ?_;refine aw ?_;refine Ah c.free (B2:=λe b=>⟨[(1,.ptr (0::0::k::ρ) 0),(3,.ptr (0::1::k::ρ) 0),(4,nI e)],[(0::0::k::ρ,.box [.d (.co (c.free.map CB)),.d (.co (c.nodes.map Bg)),.d (.co (c.defs.map Br)),nI c.main]),(0::1::k::ρ,.box [.d (.co (c.free.map CB)),.d (.co (c.nodes.map Bg)),.d (.co (c.defs.map Br)),nI c.main,.d8,.d8,.d8,.d (.bool b)])],2,[]⟩)
   (Inv:=λe v b=>AR ((!b&&KZ (if e=0 then I else c.free[e-1]?) v)=N7 c.free)) (b0:=Z) ⟨rfl⟩ ?_ ?_
  .rintro e t b x o m f r;have bk:=AF2 t;rcases e with _|j
   .rw[D3 rfl]at f;have bi:(0:Int)<U c.free:=z;cases b;all_goals ((repeat' (first|simp only[*,go_sem]|(refine sx ?_ ?_<;>intro C)|refine sy z λL q D=>?_|simp(disch:=first|assumption|omega) only[Ae])))
    all_goals
     refine r.1 _ ⟨?_⟩;rw[<-f.1];rw[Co z,PU,x];simp[KZ,pj, *]
   .obtain⟨bl,a5⟩:=g_ (l:=c.free) (i:=j) z;rw[Co z,PU,a5]at f;have bn:TC.wrap (((j+1:Nat):Int)-1)=(j:Int):=by rw[w_ z z];omega
    have bo:(0:Int)<((j+1:Nat):Int):=z;cases b;all_goals ((repeat' (first|simp only[*,go_sem]|(refine sx ?_ ?_<;>intro C)|refine sy z λL q D=>?_|simp(disch:=first|assumption|omega) only[Ae])))
    all_goals
     refine r.1 _ ⟨?_⟩;rw[<-f.1];rw[Co z,PU,x];simp[KZ,ACF, *]
  .rintro e b o m f;rw[KZ,RS]at f;refine aw ?_;refine Ah c.defs (B2:=λe b=>⟨[(1,.ptr (0::0::k::ρ) 0),(3,.ptr (0::1::k::ρ) 0),(5,nI e)],[(0::0::k::ρ,.box [.d (.co (c.free.map CB)),.d (.co (c.nodes.map Bg)),.d (.co (c.defs.map Br)),nI c.main]),(0::1::k::ρ,.box [.d (.co (c.free.map CB)),.d (.co (c.nodes.map Bg)),.d (.co (c.defs.map Br)),nI c.main,.d8,.d8,.d8,.d (.bool b)])],2,[]⟩)
    (Inv:=λe v b=>AR ((!b&&v.all Bc.okG)=(N7 c.free&&c.defs.all Bc.okG))) (b0:=b) ⟨?_⟩ ?_ ?_
   .rw[<-f.1]
   .clear f o m e b;rintro e t b x o m f r;have a3:=AIc t;rw[AOd]at a3;cases b;all_goals (refine aw ?_)
    all_goals
     refine r.1 _ ⟨?_⟩;rw[<-f.1,EX];cases t.okG<;>simp
   .clear f o m e b;rintro e b o m f;rw[TY,RS]at f;have O:¬(e:Int)<0:=z;have M:AR (b=X->looks c=I):=⟨λa1=>by
     have f:=f.1;rw[a1]at f;cases g:looks c with
     |none=>rfl
     |some a=>
      exfalso;have a4:N7 c.free=true:=by
       unfold looks at g;split at g
       .rename_i h;exact h.2
       .cases g
      have a2:c.defs.all Bc.okG=true:=EM.2 (kN (EZ g));rw[a4,a2]at f;cases f⟩
    cases b
    .have ag:AR (N7 c.free=X):=⟨by have:=f.1;simp at this;exact this.1.symm▸rfl⟩;have ad:AR (∀d∈c.defs,d.okG=X):=⟨by have:=f.1;simp at this;exact this.2⟩;by_cases l:U c.nodes=0
     .by_cases p:U c.defs=0
      ·(repeat' (first|simp only[*,go_sem]|(refine sx ?_ ?_<;>intro C)|refine sy z λL q D=>?_|simp(disch:=first|assumption|omega) only[Ae,Dd,IA]))
       refine Ak (LL c T c.main (U c.free) (Bo.init c) _ _ (0::1::k::ρ) (1::13::k::ρ) (1::17::k::ρ) (1::21::k::ρ) ⟨?_,?_,?_⟩ ?_ ⟨?_,λ_ h=>absurd l h,λ_ h=>absurd l h,λ_ _=>?_,λh=>absurd l h,λh=>absurd l h,λ_=>?_⟩ ?_) (λaa V n=>?_)
       .simp[Bo.init]
       .simp[Bo.init]
       .simp[Bo.init]
       .exact zAY
       .exact zAp
       .exact zBz
       .exact zBz
       .omega
       obtain rfl:=n.ret;have g:=Jm (ρ:=41::k::ρ) (n.no rfl G3) zCP;have s:=g.box;rw[FK,KN l,KN l,KN p]at s;have F:AR (looks c=I):=⟨by
        unfold looks;split
        .exact zBO
        .rfl⟩
       replace g:=AB g;replace n:=AB n;refine aw ?_;rw[DT];refine aw ?_;rw[DT];refine aw ?_;exact⟨λ_=>⟨_,_,_,_,_,_,_,_,_,rfl,by(simp only[go_sem];try rfl)⟩,λa i=>zC0⟩
      ·(repeat' (first|simp only[*,go_sem]|(refine sx ?_ ?_<;>intro C)|refine sy z λL q D=>?_|simp(disch:=first|assumption|omega) only[Ae,Dd,IA]))
       refine Ak (LL c T c.main (U c.free) (Bo.init c) _ _ (0::1::k::ρ) (1::13::k::ρ) (1::17::k::ρ) (1::21::k::ρ) ⟨?_,?_,?_⟩ ?_ ⟨?_,λ_ h=>absurd l h,λ_ h=>absurd l h,λ_ _=>?_,λh=>absurd l h,λh=>absurd l h,λ_=>?_⟩ ?_) (λaa V n=>?_)
       .simp[Bo.init]
       .simp[Bo.init]
       .simp[Bo.init]
       .exact zAY
       .exact zAp
       .simp only[go_sem,Bo.init,Wv]
       .exact zA2
       .omega
       obtain rfl:=n.ret;have g:=Jm (ρ:=41::k::ρ) (n.no rfl G3) zCP;obtain⟨R,Q⟩:=g.kd p;have s:=g.box;rw[FK,KN l,KN l,Bp p]at s;have F:AR (looks c=I):=⟨by
        unfold looks;split
        .exact zBO
        .rfl⟩
       replace g:=AB g;replace n:=AB n;refine aw ?_;rw[DT];refine aw ?_;clear s Q g n M f m O o e;refine CR (TL (U c.defs) ()) (B2:=λ_ e (_:Unit)=>⟨[(3,.ptr (0::0::k::ρ) 0),(7,nI e)],[(0::0::k::ρ,.box [.d (.co (c.free.map CB)),.d (.co (c.nodes.map Bg)),.d (.co (c.defs.map Br)),nI c.main,.emp,.emp,.ii (1::1::k::ρ) 0 (U c.defs),.d (.bool X)]),(1::1::k::ρ,.f9 1 R)],2,[]⟩)
        (Inv:=λe v b=>True) (b0:=()) (m:=U c.defs) AG trivial ?_ ?_
       .rintro e t b x o m f r;refine aw ?_;exact r.1 () trivial
       .rintro e b o m f;refine aw ?_;exact⟨λ_=>⟨_,_,_,_,_,_,_,_,_,rfl,by(simp only[go_sem];try rfl)⟩,λa i=>zC0⟩
     .by_cases p:U c.defs=0
      ·(repeat' (first|simp only[*,go_sem]|(refine sx ?_ ?_<;>intro C)|refine sy z λL q D=>?_|simp(disch:=first|assumption|omega) only[Ae,Dd,IA]))
       refine Ak (nT c T ac ad.1 (U c.nodes+1) c.main (U c.free) (Bo.init c) _ _ (0::1::k::ρ) (1::13::k::ρ) (1::17::k::ρ) (1::21::k::ρ) ?_ ⟨?_,?_,?_⟩ ?_ ?_ ?_ ⟨?_,λ_ _=>?_,λ_ _=>?_,λ_ _=>?_,λ_=>?_,λ_=>?_,λ_=>?_⟩) (λaa V n=>?_)
       .exact zBB
       .simp[Bo.init]
       .simp[Bo.init]
       .simp[Bo.init]
       .omega
       .omega
       .exact zAY
       .exact zAp
       .exact zBm
       .simp only[go_sem,Bo.init,Wv]
       .exact zBz
       .exact zA2
       .exact zA2
       .exact zBz
       obtain rfl:=n.ret;cases w:Bb c (U c.nodes+1) c.main (U c.free) (Bo.init c)with
       |none=>
        have g:=Jm (ρ:=41::k::ρ) (n.no w G3) zCP;obtain⟨A,H⟩:=g.ks l;obtain⟨B,K⟩:=g.km l;have s:=g.box;rw[FK,Bp l,Bp l,KN p]at s;have F:AR (looks c=I):=⟨by
         unfold looks;rw[w];split<;>rfl⟩
        replace g:=AB g;replace n:=AB n;refine aw ?_;clear s H K g n M f m O o e;refine CR (TL (U c.nodes) ()) (B2:=λ_ e (_:Unit)=>⟨[(3,.ptr (0::0::k::ρ) 0),(6,nI e)],[(0::0::k::ρ,.box [.d (.co (c.free.map CB)),.d (.co (c.nodes.map Bg)),.d (.co (c.defs.map Br)),nI c.main,.ii (1::1::k::ρ) 0 (U c.nodes),.ii (1::2::k::ρ) 0 (U c.nodes),.emp,.d (.bool X)]),(1::1::k::ρ,.f9 1 (A)),(1::2::k::ρ,.f9 1 (B))],3,[]⟩)
         (Inv:=λe v b=>True) (b0:=()) (m:=U c.nodes) AG trivial ?_ ?_
        .rintro e t b x o m f r;refine aw ?_;exact r.1 () trivial
        .rintro e b o m f;refine aw ?_;rw[DT];refine aw ?_;exact⟨λ_=>⟨_,_,_,_,_,_,_,_,_,rfl,by(simp only[go_sem];try rfl)⟩,λa i=>zC0⟩
       |some a=>
        have g:=Jm (ρ:=41::k::ρ) (n.yes a w) zCP;have s:=g.box;have H:=g.em rfl l;have K:=g.met rfl l;rw[FK,Bp l,Bp l,KN p]at s;replace g:=AB g;replace n:=AB n;refine aw ?_;have N:=C1 c _ _ _ _ _ w;have a6:U a.met=U c.nodes:=by rw[N.met];simp[Bo.init]
        have av:U a.defs=U c.defs:=by rw[N.defs];simp[Bo.init]
        have Y:=AR.mk (TR ar.1 ag.1 w);clear s H K g n M f m O o e;refine CR a.met (B2:=λ_ e b=>⟨[(3,.ptr (0::0::k::ρ) 0),(6,nI e)],[(0::0::k::ρ,.box [.d (.co (c.free.map CB)),.d (.co (c.nodes.map Bg)),.d (.co (c.defs.map Br)),nI c.main,.ii (1::1::k::ρ) 0 (U c.nodes),.ii (1::2::k::ρ) 0 (U c.nodes),.emp,.d (.bool b)]),(1::1::k::ρ,.f9 1 (a.em.map AX)),(1::2::k::ρ,.f9 1 (a.met.map KX))],3,[]⟩)
         (Inv:=λe v b=>AR ((!b&&v.all id)=a.met.all id)) (b0:=Z) (m:=U c.nodes) z ⟨rfl⟩ ?_ ?_
        .rintro e t b x o m f r;have ai:=Int.ofNat_lt.1 m;cases b<;>cases t;all_goals (refine aw ?_)
         all_goals
          refine r.1 _ ⟨?_⟩;rw[<-f.1];simp
        .rintro e b o m f;rw[TY,RS]at f;refine aw ?_;rw[DT];refine aw ?_;have f:AR ((!b)=(a.met.all id&&a.defs.all id)):=⟨by
          rw[f.1,CI (av.trans p)];simp⟩
         have q:=Y.1;cases b
         .have:a.met.all id=X/\a.defs.all id=true:=by have:=f.1;simp only[TO]at this;exact(As _ _).mp this.symm
          rw[Kq,Kq]at this;rw[D3 this]at q;refine⟨λP=>(by rw[q]at P;cases P),λd9 i=>?_⟩;rw[q]at i;cases i;refine⟨_,_,1::k::ρ,2::k::ρ,3::k::ρ,rfl,⟨?_,λ_ _=>?_,λ_ _=>?_,λ_ _=>?_,λ_=>?_,λ_=>?_,λ_=>?_⟩⟩
          .exact zAp
          .simp only[go_sem]
          .simp only[go_sem]
          .exact zBz
          .exact zBI
          .exact zBI
          .exact zBz
         .exact zAh
      ·(repeat' (first|simp only[*,go_sem]|(refine sx ?_ ?_<;>intro C)|refine sy z λL q D=>?_|simp(disch:=first|assumption|omega) only[Ae,Dd,IA]))
       refine Ak (nT c T ac ad.1 (U c.nodes+1) c.main (U c.free) (Bo.init c) _ _ (0::1::k::ρ) (1::13::k::ρ) (1::17::k::ρ) (1::21::k::ρ) ?_ ⟨?_,?_,?_⟩ ?_ ?_ ?_ ⟨?_,λ_ _=>?_,λ_ _=>?_,λ_ _=>?_,λ_=>?_,λ_=>?_,λ_=>?_⟩) (λaa V n=>?_)
       .exact zBB
       .simp[Bo.init]
       .simp[Bo.init]
       .simp[Bo.init]
       .omega
       .omega
       .exact zAY
       .exact zAp
       .exact zBm
       .simp only[go_sem,Bo.init,Wv]
       .simp only[go_sem,Bo.init,Wv]
       .exact zA2
       .exact zA2
       .exact zA2
       obtain rfl:=n.ret;cases w:Bb c (U c.nodes+1) c.main (U c.free) (Bo.init c)with
       |none=>
        have g:=Jm (ρ:=41::k::ρ) (n.no w G3) zCP;obtain⟨A,H⟩:=g.ks l;obtain⟨B,K⟩:=g.km l;obtain⟨R,Q⟩:=g.kd p;have s:=g.box;rw[FK,Bp l,Bp l,Bp p]at s;have F:AR (looks c=I):=⟨by
         unfold looks;rw[w];split<;>rfl⟩
        replace g:=AB g;replace n:=AB n;refine aw ?_;clear s H K Q g n M f m O o e;refine CR (TL (U c.nodes) ()) (B2:=λ_ e (_:Unit)=>⟨[(3,.ptr (0::0::k::ρ) 0),(6,nI e)],[(0::0::k::ρ,.box [.d (.co (c.free.map CB)),.d (.co (c.nodes.map Bg)),.d (.co (c.defs.map Br)),nI c.main,.ii (1::1::k::ρ) 0 (U c.nodes),.ii (1::2::k::ρ) 0 (U c.nodes),.ii (1::3::k::ρ) 0 (U c.defs),.d (.bool X)]),(1::1::k::ρ,.f9 1 (A)),(1::2::k::ρ,.f9 1 (B)),(1::3::k::ρ,.f9 1 (R))],4,[]⟩)
         (Inv:=λe v b=>True) (b0:=()) (m:=U c.nodes) AG trivial ?_ ?_
        .rintro e t b x o m f r;refine aw ?_;exact r.1 () trivial
        .rintro e b o m f;refine aw ?_;refine CR (TL (U c.defs) ()) (B2:=λ_ e (_:Unit)=>⟨[(3,.ptr (0::0::k::ρ) 0),(7,nI e)],[(0::0::k::ρ,.box [.d (.co (c.free.map CB)),.d (.co (c.nodes.map Bg)),.d (.co (c.defs.map Br)),nI c.main,.ii (1::1::k::ρ) 0 (U c.nodes),.ii (1::2::k::ρ) 0 (U c.nodes),.ii (1::3::k::ρ) 0 (U c.defs),.d (.bool X)]),(1::1::k::ρ,.f9 1 (A)),(1::2::k::ρ,.f9 1 (B)),(1::3::k::ρ,.f9 1 (R))],4,[]⟩)
          (Inv:=λe v b=>True) (b0:=()) (m:=U c.defs) AG trivial ?_ ?_
         .clear f o m e b;rintro e t b x o m f r;refine aw ?_;exact r.1 () trivial
         .clear f o m e b;rintro e b o m f;refine aw ?_;exact⟨λ_=>⟨_,_,_,_,_,_,_,_,_,rfl,by(simp only[go_sem];try rfl)⟩,λa i=>zC0⟩
       |some a=>
        have g:=Jm (ρ:=41::k::ρ) (n.yes a w) zCP;have s:=g.box;have H:=g.em rfl l;have K:=g.met rfl l;have Q:=g.defs rfl p;rw[FK,Bp l,Bp l,Bp p]at s;replace g:=AB g;replace n:=AB n;refine aw ?_;have N:=C1 c _ _ _ _ _ w;have a6:U a.met=U c.nodes:=by rw[N.met];simp[Bo.init]
        have av:U a.defs=U c.defs:=by rw[N.defs];simp[Bo.init]
        have Y:=AR.mk (TR ar.1 ag.1 w);clear s H K Q g n M f m O o e;refine CR a.met (B2:=λ_ e b=>⟨[(3,.ptr (0::0::k::ρ) 0),(6,nI e)],[(0::0::k::ρ,.box [.d (.co (c.free.map CB)),.d (.co (c.nodes.map Bg)),.d (.co (c.defs.map Br)),nI c.main,.ii (1::1::k::ρ) 0 (U c.nodes),.ii (1::2::k::ρ) 0 (U c.nodes),.ii (1::3::k::ρ) 0 (U c.defs),.d (.bool b)]),(1::1::k::ρ,.f9 1 (a.em.map AX)),(1::2::k::ρ,.f9 1 (a.met.map KX)),(1::3::k::ρ,.f9 1 (a.defs.map KX))],4,[]⟩)
         (Inv:=λe v b=>AR ((!b&&v.all id)=a.met.all id)) (b0:=Z) (m:=U c.nodes) z ⟨rfl⟩ ?_ ?_
        .rintro e t b x o m f r;have ai:=Int.ofNat_lt.1 m;cases b<;>cases t;all_goals (refine aw ?_)
         all_goals
          refine r.1 _ ⟨?_⟩;rw[<-f.1];simp
        .rintro e b o m f;rw[TY,RS]at f;refine aw ?_;refine CR a.defs (B2:=λ_ e b=>⟨[(3,.ptr (0::0::k::ρ) 0),(7,nI e)],[(0::0::k::ρ,.box [.d (.co (c.free.map CB)),.d (.co (c.nodes.map Bg)),.d (.co (c.defs.map Br)),nI c.main,.ii (1::1::k::ρ) 0 (U c.nodes),.ii (1::2::k::ρ) 0 (U c.nodes),.ii (1::3::k::ρ) 0 (U c.defs),.d (.bool b)]),(1::1::k::ρ,.f9 1 (a.em.map AX)),(1::2::k::ρ,.f9 1 (a.met.map KX)),(1::3::k::ρ,.f9 1 (a.defs.map KX))],4,[]⟩)
          (Inv:=λe v b=>AR ((!b&&v.all id)=(a.met.all id&&a.defs.all id))) (b0:=b) (m:=U c.defs) z ⟨?_⟩ ?_ ?_
         .rw[f.1]
         .clear f o m e b;rintro e t b x o m f r;have ai:=Int.ofNat_lt.1 m;cases b<;>cases t;all_goals (refine aw ?_)
          all_goals
           refine r.1 _ ⟨?_⟩;rw[<-f.1];simp
         .clear f o m e b;rintro e b o m f;rw[TY,RS]at f;refine aw ?_;have q:=Y.1;cases b
          .have:a.met.all id=X/\a.defs.all id=true:=by have:=f.1;simp only[TO]at this;exact(As _ _).mp this.symm
           rw[Kq,Kq]at this;rw[D3 this]at q;refine⟨λP=>(by rw[q]at P;cases P),λd9 i=>?_⟩;rw[q]at i;cases i;refine⟨_,_,1::k::ρ,2::k::ρ,3::k::ρ,rfl,⟨?_,λ_ _=>?_,λ_ _=>?_,λ_ _=>?_,λ_=>?_,λ_=>?_,λ_=>?_⟩⟩
           .exact zAp
           .simp only[go_sem]
           .simp only[go_sem]
           .simp only[go_sem]
           .exact zBI
           .exact zBI
           .exact zBI
          .exact zAh
    .by_cases l:U c.nodes=0<;>by_cases p:U c.defs=0;all_goals ((repeat' (first|simp only[*,go_sem]|(refine sx ?_ ?_<;>intro C)|refine sy z λL q D=>?_|simp(disch:=first|assumption|omega) only[Ae,Dd,IA])))
     all_goals exact⟨λ_=>⟨_,_,_,_,_,_,_,_,_,rfl,by(simp only[go_sem];try rfl)⟩,λa i=>(by rw[M.1 rfl]at i;cases i)⟩
 .have a0:looks c=none:=by unfold looks;rw[Co λh=>i h.1]
  have i:¬(U c.free<=12/\(U c.nodes)<=60/\(U c.defs)<=12):=by intro h;apply i;simp only[Aa.small,As,Dl];exact h
  replace i:=AB i;refine W7 func83 ?_
  (repeat' (first|simp only[*,go_sem]|(refine sx ?_ ?_<;>intro C)|refine sy z λL q D=>?_|simp(disch:=first|assumption|omega) only[Ae]))
  all_goals first
  |exact⟨λ_=>⟨_,_,_,_,_,_,_,_,_,rfl,by(simp only[go_sem];try rfl)⟩,λa i=>(by rw[a0]at i;cases i)⟩
  |(have i:=i.1;exfalso;omega)
def O7(p:Aa):Int:=match looks p with|some _=>0|none=>2
def yB(b:Aa):Bk kT 44 [.agg [.d (.co (b.free.map CB)),.d (.co (b.nodes.map Bg)),.d (.co (b.defs.map Br)),nI b.main]] []=.ok (.ret (nI (O7 b)),[]):=by
 refine BH func44 ?_;have⟨p,e,c⟩:=ALx b 3 [];rcases hl:looks b with _|a
 .obtain⟨h,l,s,t,v,w,x,A,B,rfl,g⟩:=c.no hl;replace c:=AB c;have f:O7 b=2:=by rw[O7,hl]
  exact zBF
 .obtain⟨h,l,q,o,r,rfl,g⟩:=c.yes a hl;have m:=g.box;rw[FK]at m;replace c:=AB c;have f:O7 b=0:=by rw[O7,hl]
  exact zBF
def AKF{l:List CD}{i:Int}{s:CD}(h:l[i.toNat]?=J s):CX l i=s.in_:=by simp[CX,h]
def bW(l:List CD)(h o p:Au)(b a:Int)(F:U l<=1000)(n:Ia l)(m:Jd l b)(D:0<=a):Bk kT 38 [.agg [.d (.co (l.map CZ)),.d h,.d o,.d p],nI b,nI a] []=.ok (.ret (.d (.bool (EN l b a))),[]):=by
 refine BH func38 ?_;refine aw ?_;refine rounds (B2:=λc:Int×Nat=>⟨[(1,nI c.1),(2,nI a),(3,.ptr [0,0] 0)],[([0,0],.box [.d (.co (l.map CZ)),.d h,.d o,.d p])],1,[]⟩)
  (Inv:=λc=>(Jd l c.1/\Cc l c.2 c.1=X/\AR (EN l b a=decide (a∈ZY l c.2 c.1)))\/(c.1= -1/\c.2=0/\AR (EN l b a=Z))) (m:=λc=>if c.1= -1 then 0 else c.2+1) (a:=(b,U l)) (.inl ⟨m,n.climbs b m,⟨rfl⟩⟩) ?_
 rintro⟨c,k⟩ hI IH;dsimp only at*;rcases hI with⟨⟨B,C⟩,i,e⟩|⟨rfl,rfl,e⟩
 .have r:c.toNat<U l:=z;have⟨s,hs⟩:=g_ r;have j:=AR.mk (AKF hs)
  (repeat' (first|simp only[*,go_sem]|(refine sx ?_ ?_<;>intro q)|refine sy z λh x t=>?_|simp(disch:=first|assumption|omega) only[Ae]))
  .rw[e.1,F8 (by rw[<-show c=a by assumption];exact AC9 _ _ _)]
  .by_cases g:c=0
   .subst g;have w:s.in_= -1:=by rw[<-j.1];exact n.top
    rw[w];refine IH.1 (-1,0) (by dsimp only;rw[D3 rfl,Co Ad];omega) (.inr ⟨rfl,rfl,⟨?_⟩⟩);rw[e.1,ADA,GC];simp only[AS];omega
   .rcases k with _|k
    .simp[Cc,g]at i
    .have f:=N0 g i;rw[j.1]at f;have:=f.1.1;refine IH.1 (s.in_,k) (by dsimp only;rw[Co z,Co z];omega) (.inl ⟨f.1,f.2,⟨?_⟩⟩);rw[e.1,AIE g i,j.1];have v:¬a=c:=λA=>z;simp only[Cs,v,false_or]
 ·(repeat' (first|simp only[*,go_sem]|(refine sx ?_ ?_<;>intro q)|refine sy z λh x t=>?_|simp(disch:=first|assumption|omega) only[Ae]))
  .omega
  .rw[e.1]
def U4(e:Aa)(a:Az)(d:Bc)(b:Int)(m:0<=a.ip)(o:e.defs[a.ip.toNat]?=J d)(j:U d.ac<=30)(k:U d.be<=30)(f:d.own<=(U a.env))(p:U a.env<=10000)(r:0<=b)(s:b<=(U d.be)):Bk kT 118 [.agg (pC e),.agg [nI a.ip,nI a.at_,.d (.co (a.env.map A9))],nI b] []=.ok (.ret (nI (a.place d b)),[]):=by
 unfold Bc.own at f;refine BH func118 ?_;by_cases h:b=0
 ·(repeat' (first|simp only[*,go_sem,Az.place]|(refine sx ?_ ?_<;>intro n)|refine sy z λw t q=>?_|simp(disch:=first|assumption|omega) only[Ae]))
 .have g:U a.env-U d.be-0+(b-1).toNat<U a.env:=z;have⟨v,hv⟩:=g_ g;have i:AR (a.place d b=v.n):=⟨by
   rw[Az.place,Co h,Az.own];simp only[AM,Gs];rw[hv];rfl⟩
  have c:((U a.env:Int)-(U d.be:Int)+b-1).toNat=U a.env-U d.be-0+(b-1).toNat:=z;rw[<-c]at hv;replace c:=AB c;have l:0<=(U a.env:Int)-(U d.be:Int)+b-1:=z;refine aw ?_;rw[i.1]
instance:DecidableEq Dk:=λa b=>decidable_of_iff (a.wait=b.wait/\a.group=b.group/\a.pp=b.pp/\a.picks=b.picks) (by cases a;cases b;simp)
abbrev k6(x:Dk):y:=.agg [nI x.wait,nI x.group,nI x.pp,.d (.co (x.picks.map AX))]
inductive Below:u->Al->Prop
 |nil:Below [] []
 |cons {n:Nat} {k:Int} {l:u} {t:Al}:0<=k->k<n->Below l t->Below (n::l) (k::t)
theorem Qs:∀{l:u} {a:Al},a∈Dq l↔Below l a
 |[],a=>by rw[Dq,AS];exact⟨λh=>h▸ .nil,λh=>by cases h;rfl⟩|n::l,a=>by
  rw[Dq,BI];constructor
  .rintro⟨i,hi,ht⟩;obtain⟨g,e,rfl⟩:=Ex.1 ht;have:=PI.1 hi;exact .cons z z (Qs.1 e)
  .intro h;cases h with| @cons _ k _ a b f c=>exact⟨k.toNat,PI.2 z,Ex.2 ⟨a,Qs.2 c,by rw[IF b]⟩⟩
def Below.len:∀{l:u} {t:Al},Below l t->(U t)=U l
 |_,_,.nil=>rfl|_,_,.cons _ _ h=>by rw[II,II,h.len]
inductive Je(p:Aa)(s:BP):Dk->Prop
 |wait {i:Nat} {w:IK}:s.waits[i]?=J w->ws p s w=X->Je p s ⟨i,0,0,[]⟩
 |pp {i k:Nat} {g:Az} {d:Bc} {r:C6} {t:Al}:s.bv[i]?=J g->p.def? g.ip=J d->d.rules[k]?=J r->A8 s.be (g.place d r.at_)=Z->Below (Cw s d g r) t->Je p s ⟨-1,i,k,t⟩
theorem dS{p:Aa}{a:BP}{x:Dk}:∀{l:List IK} {i:Nat},a.waits.drop i=l->(x∈GN p a i l↔ ∃j:Nat,i<=j/\∃b,a.waits[j]?=J b/\ws p a b=X/\x=⟨j,0,0,[]⟩)
 |[],i,h=>by exact zAn|b::l,i,h=>by
  have c:a.waits[i]?=J b:=by exact zB0
  have e:=dS (x:=x) (p:=p) (l:=l) (i:=i+1) (by rw[Aq c]at h;exact(T2 h).2);grind [GN]
theorem VC{s:BP}{d:Bc}{g:Az}{i:Nat}{x:Dk}:∀{l:List C6} {k:Nat},d.rules.drop k=l->(x∈IG s d g i k l↔ ∃j:Nat,k<=j/\∃a,d.rules[j]?=J a/\∃c∈Jr s d g a,x=⟨-1,i,j,c⟩)
 |[],k,h=>by exact zAn|a::l,k,h=>by
  have b:d.rules[k]?=J a:=by exact zB0
  have e:=VC (x:=x) (s:=s) (g:=g) (i:=i) (l:=l) (k:=k+1) (by rw[Aq b]at h;exact(T2 h).2);grind [IG]
theorem bT{p:Aa}{b:BP}{x:Dk}:∀{l:List Az} {i:Nat},b.bv.drop i=l->(x∈JC p b i l↔ ∃j:Nat,i<=j/\∃a d,b.bv[j]?=J a/\p.def? a.ip=J d/\x∈IG b d a j 0 d.rules)
 |[],i,h=>by exact zAn|a::l,i,h=>by
  have c:b.bv[i]?=J a:=by exact zB0
  have e:=bT (x:=x) (p:=p) (l:=l) (i:=i+1) (by rw[Aq c]at h;exact(T2 h).2);grind [JC]
theorem AKb{e:Aa}{b:BP}{f:Dk}:f∈Ee e b↔Je e b f:=by
 rw[Ee,Ac,dS (l:=b.waits) (i:=0) rfl,bT (l:=b.bv) (i:=0) rfl];constructor
 .rintro(⟨j,_,w,h1,h2,rfl⟩|⟨j,_,g,d,h1,h2,h3⟩)
  .exact .wait h1 h2
  .obtain⟨k,_,i,c,l,a,rfl⟩:=(VC (l:=d.rules) (k:=0) rfl).1 h3;rw[Jr]at a;split at a
   .cases a
   .rename_i h;exact .pp h1 h2 c zCV (Qs.1 a)
 .rintro(⟨h1,h2⟩|⟨h1,h2,h3,c,a⟩)
  .grind
  .exact .inr ⟨_,GS _,_,_,h1,h2,(VC (l:=_) (k:=0) rfl).2 ⟨_,GS _,_,h3,_,by grind [Jr,Qs],rfl⟩⟩
def XA(s:BP)(e:IX):Prop:=e.deed=5/\Jd s.be e.at_/\A8 s.be e.at_=Z
structure WM(p:Aa)(sz:Al)(st d9:C5)(js:List HK):Prop:=
 wd:E0 p sz d9.eq
 ext:Za st.eq d9.eq
 jobs:∀j∈js,Cb p sz d9.eq j
 work:d9.work=st.work
 ev:∃l,d9.ev=st.ev++l/\(U l)<=1/\∀e∈l,XA d9.eq e
structure KR(p:Aa)(sz:Al)(st d9:C5):Prop:=
 wd:E0 p sz d9.eq
 ext:Za st.eq d9.eq
 work:st.work<=d9.work
 top:st.work<=400->d9.work<=400
 evs:∃l,d9.ev=st.ev++l/\(U l:Int)<=d9.work-st.work/\∀e∈l,XA d9.eq e
theorem KR.ev{b:Aa}{c:Al}{a d9:C5}(h:KR b c a d9):(U d9.ev:Int)<=(U a.ev)+(d9.work-a.work):=by have⟨l,h1,h2,_⟩:=h.evs;grind
def AGu{c e:BP}(h:Za c e){b:IX}(a:XA c b):XA e b:=⟨a.1,KB h.ns a.2.1,by rw[HS h a.2.1];exact a.2.2⟩
def ABU{b:Aa}{c:Al}{a:C5}(h:E0 b c a.eq):KR b c a a:=⟨h,J8 _,z,λh=>h,[],AG,AG,AG⟩
theorem Yz{f:Aa}{g:Al}{i b j:C5}(e:KR f g i b)(a:KR f g b j):KR f g i j:=by
 have⟨l,e1,n1,w1⟩:=e.evs;have⟨m,e2,n2,w2⟩:=a.evs;refine⟨a.wd,za e.ext a.ext,by grind,λh=>a.top (e.top h),l++m,by grind,by grind,λk c=>?_⟩;rcases Ac.1 c with c|c
 .exact AGu a.ext (w1 k c)
 .exact w2 k c
section
variable{p:Aa}{a:Al}{st:C5}{j:HK}{x:CF}
theorem AGj{c:BP}{f:Nat}{b:Fc}(k:E0 p a c)(j:c.ac[f]?=J b){l:List C4}(n:U b.queue<12)(g:A8 c.be b.at_=Z)(o:Ea p c b=U l)(q:l.all (C4.inB p (U c.ac) (U c.be))=X):gQ p c {b with queue:=b.queue++[l]}:=by
 have h:=k.que f b j;refine⟨BL,.inr g,λm i=>?_⟩;rcases Ac.1 i with e|e
 .exact h.msgs m e
 grind [P1,Ea]
theorem AB0(f:E0 p a st.eq)(e:Cb p a st.eq j)(l:∀b∈x.args,b.formed (U j.env)=X){d9:C5}(h:Fw p x j st=J d9):WM p a st d9 []:=by
 have i:(x.args.map (·.value j.env)).all (C4.inB p (U st.eq.ac) (U st.eq.be))=true:=by rw[EM];intro m i;obtain⟨b,c,rfl⟩:=Ex.1 i;exact ACR e.v6 b (l b c)
 simp[Fw]at h;split at h
 .cases h;exact⟨f,J8 _,AG,rfl,_,rfl,AG,λb c=>by rw[AS]at c;subst c;exact⟨rfl,e.at_,e.live⟩⟩
 split at h
 .obtain⟨k,g,rfl⟩:=Be.1 h;have key:E0 p a k/\Za st.eq k:=by
   rw[SI]at g;split at g
   .grind [ae,cz,AGj,zZ,J8]
   .grind [J8]
  exact⟨key.1,key.2,AG,rfl,[],AG,AG,AG⟩
 .cases h;exact⟨f,J8 _,AG,rfl,[],AG,AG,AG⟩
theorem jh(l:Ar p a)(t:E0 p a st.eq)(c:Cb p a st.eq j)(w:p.nodes[j.node.toNat]?=J x)(s:x.op=4){d9:C5}{o:List HK}(h:Kh p x j st=J (d9,o)):WM p a st d9 o:=by
 have⟨d,hd⟩:=rV l t c w s;simp only[Kh,hd.ip]at h;split at h
 .rename_i q;cases h;have e:=hd.ext;have r:(CA st.eq d (Aj st.eq d x.n j)).ac.length=U st.eq.ac+U d.ac:=by simp[CA,K3]
  have v:(CA st.eq d (Aj st.eq d x.n j)).be.length=U st.eq.be+U d.be:=by simp[CA,HD]
  have n:(Aj st.eq d x.n j).env.all (C4.inB p (CA st.eq d (Aj st.eq d x.n j)).ac.length (CA st.eq d (Aj st.eq d x.n j)).be.length)=true:=by rw[r,v];exact hd.v6
  have m:((Aj st.eq d x.n j).env.length:Int)=(U j.env:Int)+d.own:=by rw[hd.env];omega
  refine⟨hd.sok' l q,e,λD b=>?_,rfl,[],AG,AG,AG⟩;rcases Ac.1 b with b|b
  .obtain⟨A,B,f,rfl⟩:=Om b;have g:=hd.be B (AP f);have C:=l_ f;have i:=hd.spot (n:=((0+A:Nat):Int)+1) z z;exact⟨g.1,by rw[g.2,m],i.1,i.2,n⟩
  .have⟨k,hk,k0,k1⟩:=hd.kid;rw[Bj,hk]at b;simp at b;subst b;exact⟨k0,by rw[k1,m],KB e.ns c.at_,by rw[HS e c.at_];exact c.live,n⟩
 .cases h
theorem vO(e:E0 p a st.eq)(c:Cb p a st.eq j)(i:p.nodes[j.node.toNat]?=J x)(f:Ov x.op=X){d9:C5}(h:Gz j st=J d9):WM p a st d9 []:=by
 rw[Gz]at h;split at h
 .rename_i m;cases h;refine⟨Nh e BL λk b=>?_,⟨λ_ _ h=>h,λ_ _ h=>h,λl n g=>⟨[],by simpa using g⟩⟩,AG,rfl,[],AG,AG,AG⟩;rcases Ac.1 b with b|b
  .exact e.wait k b
  .rw[AS]at b;subst b;simp only[Hx,c.live,c.v6,i,f,c.size,As,Dl,It,F9];exact⟨c.at_,trivial,c.n0,trivial,trivial,trivial⟩
 .cases h
theorem Xo(g:Ar p a)(c:E0 p a st.eq)(e:Cb p a st.eq j){d9:C5}{f:List HK}(h:MR p j st=J (d9,f)):WM p a st d9 f:=by
 have⟨x,l,hx,hok,hsub,hq,_⟩:=NM g e;simp[MR,hx]at h;have m:=λb k=>Uk e b hsub hq k;split at h
 .grind [Option.map_eq_some_iff,Cq,AB0,Bz.ok]
 split at h
 .rename_i b;cases h;refine⟨c,J8 _,λo n=>?_,rfl,[],AG,AG,AG⟩;grind
 split at h
 .grind [jh]
 split at h
 .rename_i i b;cases h;exact⟨c,J8 _,m i _,rfl,[],AG,AG,AG⟩
 split at h
 .grind [Option.map_eq_some_iff,vO]
 .cases h;exact⟨c,J8 _,AG,rfl,[],AG,AG,AG⟩
end
def NN{c:Aa}{e:Al}{g:HK->C5->Option C5}(i:∀b a d9,E0 c e a.eq->Cb c e a.eq b->g b a=J d9->KR c e a d9):∀(l:List HK) (a d9:C5),E0 c e a.eq->(∀b∈l,Cb c e a.eq b)->EY g l a=J d9->KR c e a d9
 |[],a,d9,hs,_,h=>by cases h;exact ABU hs|b::l,a,d9,hs,hj,h=>by rw[EY]at h;have⟨st1,h1,h2⟩:=He.1 h;have f:=i b a st1 hs (hj b AG) h1;exact Yz f (NN i l st1 d9 f.wd (λk j=>Qo (hj k (by simp[j])) f.ext) h2)
def HV{e:Aa}{f:Al}(i:Ar e f):∀(k:Nat) (b:HK) (a d9:C5),E0 e f a.eq->Cb e f a.eq b->KQ e k b a=J d9->KR e f a d9
 |0,b,a,d9,_,_,h=>by cases h|k+1,b,a,d9,hs,hj,h=>by
  rw[KQ]at h;split at h
  .rename_i n;rcases hd:MR e b {a with work:=a.work+1}with _|m
   .rw[hd]at h;cases h
   .obtain⟨g,j⟩:=m;rw[hd]at h;have c:=Xo (st:={a with work:=a.work+1}) i hs hj hd
    have⟨l,e1,e2,e3⟩:=c.ev;have o:g.work=a.work+1:=c.work;refine Yz (b:=g) ⟨c.wd,c.ext,z,z,l,e1,z,e3⟩ (NN (λb a d9=>HV i k b a d9) j g d9 c.wd c.jobs h)
  .cases h
variable{c:Type}{l:List c}
theorem Ji{i:Int}{x:c}(h:x∈BF l i):x∈l:=by
 rcases Ac.1 h with h|h
 .grind
 grind
theorem zU{i:Int}(h:i.toNat<U l):(BF l i).length=U l-1:=by grind [BF]
theorem Pf(l:List c)(i:Int):(BF l i).length<=(U l):=by grind [BF]
theorem ABc{c:Aa}{e:BP}{a:Fc}(h:gQ c e a)(k:Int):gQ c e {a with queue:=BF a.queue k}:=by
 have:=Pf a.queue k;refine⟨HE this h.len,?_,λg f=>h.msgs g (Ji f)⟩;rcases h.dead with b|b
 .grind
 .exact .inr b
structure Z7(s s':BP):Prop:=
 be:s'.be=s.be
 bv:s'.bv=s.bv
 waits:s'.waits=s.waits
 len:U s'.ac=U s.ac
theorem px{f:Aa}{l:Al}{a:BP}(j:E0 f l a){b:Int}{c:Fc}(h:a.ac[b.toNat]?=J c){k:Int}(o:k.toNat<U c.queue):E0 f l (EI a b k).2/\Z7 a (EI a b k).2/\(EI a b k).1.all (C4.inB f (U a.ac) (U a.be))=X/\(((EI a b k).1.length:Nat):Int)=Ea f a c/\∀e:Nat,e≠b.toNat->(EI a b k).2.ac[e]?=a.ac[e]? :=by
 have⟨m,hm⟩:=g_ o;have i:=j.que _ c h;have g:=i.msgs m (AP hm);simp only[P1,As,Dl]at g;have n:EI a b k=(m,{a with ac:=a.ac.set b.toNat {c with queue:=BF c.queue k}}):=by rw[EI,h];simp[hm]
 rw[n];refine⟨cz j h (ABc i k),⟨rfl,rfl,rfl,AG⟩,g.2,g.1,λe p=>?_⟩;grind
structure iK(p:Aa)(sz:Al)(d:Bc)(cs:Al)(s:BP)(t:List C4×BP):Prop:=
 wd:E0 p sz t.2
 only:Z7 s t.2
 v6:t.1.all (C4.inB p (U s.ac) (U s.be))=X
 len:((U t.1:Nat):Int)=B9 d cs
theorem pw{p:Aa}{sz:Al}{d:Bc}{g:Az}:∀{cs ks:Al} {s:BP},E0 p sz s->(U cs)=U ks->
 (∀(a:Nat) c k,cs[a]?=J c->ks[a]?=J k->∃i,s.ac[(g.own d X c).toNat]?=J i/\k.toNat<U i.queue/\Ea p s i=((d.ac[c.toNat]?).map HJ.many).getD 0)->
 (∀(a h:Nat) c b,a<h->cs[a]?=J c->cs[h]?=J b->(g.own d X b).toNat≠(g.own d X c).toNat)->iK p sz d cs s (BX d g cs ks s)
 |[],ks,s,hs,_,_,_=>by
  rw[BX]
  .exact⟨hs,⟨rfl,rfl,rfl,rfl⟩,rfl,rfl⟩
  grind
 |c::cs,[],s,hs,l,_,_=>by cases l|c::cs,k::ks,s,hs,l,hq,hd=>by
  have⟨i,h1,h2,h3⟩:=hq 0 c k rfl rfl;have⟨a1,a2,a3,a4,a5⟩:=px hs h1 h2;have e:=pw (p:=p) (sz:=sz) (d:=d) (g:=g) (cs:=cs) (ks:=ks) (s:=(EI s (g.own d X c) k).2) a1 zDH (λa b n f j=>?_) (λa h b m o f j=>hd (a+1) (h+1) b m z zCt zCi)
  .rw[BX];refine⟨e.wd,⟨e.only.be.trans a2.be,e.only.bv.trans a2.bv,e.only.waits.trans a2.waits,e.only.len.trans a2.len⟩,?_,?_⟩
   .rw[S1,a3,I4];have:=e.v6
    rwa [a2.len,a2.be]at this
   .have:=e.len;grind [B9]
  .have⟨q2,b1,b2,b3⟩:=hq (a+1) b n zCt zCi;refine⟨q2,by rw[a5 _ (hd 0 (a+1) c b z rfl zCt)];exact b1,b2,?_⟩;rw[<-b3,Ea,Ea,a2.bv]
theorem AAa{l:List CD}(c:Ia l){b a:Int}(e:Jd l b)(f:¬b=0):EN l b a=(decide (a=b)||EN l (CX l b) a):=by have g:=c.climbs b e;obtain⟨k,h⟩:∃k,U l=k+1:=⟨U l-1,by have:=c.pos;omega⟩;grind [N0,ZY,XL,EN]
def Ku(l:List CD)(at_:Int):List CD:=Lk l at_ 0 l
theorem AIl(l:List CD)(at_:Int):∀(m:List CD) (i:Nat),(Lk l at_ i m).length=U m
 :=by intro x;induction x<;>grind [Lk]
theorem AIk(l:List CD)(at_:Int):∀(m:List CD) (i k:Nat),(Lk l at_ i m)[k]?=(m[k]?).map λx=>{x with dead:=x.dead||EN l ((i+k:Nat):Int) at_}
 :=by intro x;induction x<;>grind [Lk]
theorem Xn(l:List CD)(at_:Int)(k:Nat):(Ku l at_)[k]?=(l[k]?).map λx=>{x with dead:=x.dead||EN l k at_}:=by grind [Ku,AIk]
theorem Iu(l:List CD)(at_:Int):(Ku l at_).length=U l:=AIl l at_ l 0
theorem wM(l:List CD)(at_ i:Int):CX (Ku l at_) i=CX l i:=by grind [CX,Xn]
def zJ(l:List CD)(at_:Int):∀(k:Nat) (i:Int),Cc (Ku l at_) k i=Cc l k i
 :=by intro x;induction x<;>grind [Cc,wM,Jd,Iu]
theorem AD6(l:List CD)(at_:Int){a:Int}(b:Jd l a):A8 (Ku l at_) a=(A8 l a||EN l a at_):=by have c:=b.1;have e:=b.2;grind [A8,Xn]
theorem AD7{l:List CD}(h:Ia l)(at_:Int):Ia (Ku l at_):=⟨by rw[Iu];exact h.pos,by rw[wM];exact h.top,λa b=>by rw[zJ,Iu];exact h.climbs a (by grind [Jd,Iu])⟩
theorem wO{f:Aa}{p:Al}{a:BP}(R:Ar f p)(h:E0 f p a)(at_:Int):E0 f p (N3 a at_):=by
 have M:=h.small;simp[BP.small]at M;have g:(N3 a at_).be=Ku a.be at_:=rfl;have r:(N3 a at_).ac=a.ac.map λc=>if A8 (Ku a.be at_) c.at_=X then{c with queue:=[]}else c:=rfl
 have N:(N3 a at_).waits=a.waits.filter λq=> !A8 (Ku a.be at_) q.at_:=rfl;have j:(N3 a at_).bv=a.bv:=rfl;have i:(N3 a at_).ac.length=U a.ac:=by rw[r,BV]
 have m:(N3 a at_).be.length=U a.be:=by rw[g,Iu]
 have T:∀c l,Ea f (N3 a at_) {c with queue:=l}=Ea f a c:=λc l=>rfl
 refine⟨?_,by rw[g];exact AD7 h.tree _,λe V t n=>?_,λe D s=>?_,by rw[j,i,m];exact h.tot,λB c v=>?_,λq x=>?_⟩
 .grind [BP.small]
 .rw[g]at n⊢;rw[Xn]at n;obtain⟨Q,o,rfl⟩:=Be.1 n;have K:=AGa h.tree t o;have H:Jd a.be e:=⟨z,by have:=l_ o;omega⟩;dsimp only;rw[AD6 _ _ K,Qr,Bool.or_eq_false_iff];rcases h.dead e Q t o with b|b
  .exact .inl (.inl b)
  .rcases hz:EN a.be e at_ with _|_
   .refine .inr ⟨b,?_⟩;rw[AAa h.tree H z,Bool.or_eq_false_iff]at hz;grind [CX]
   .exact .inl (.inr rfl)
 .rw[j]at s;have⟨d,b⟩:=h.grp e D s;refine⟨d,b.ip,by rw[g,Jd,Iu];exact b.at_,b.len,by rw[i,m];exact b.v6,by rw[j];exact b.mine,λO C L=>?_⟩;have⟨c,h1,h2,h3,h4⟩:=b.ac O C L;grind
 .rw[r,BY]at v;obtain⟨P,F,rfl⟩:=Be.1 v;have w:=h.que B P F;split
  .exact⟨AG,.inl rfl,λA k=>by cases k⟩
  .rename_i b;refine⟨w.len,?_,λA k=>?_⟩
   .grind
   .rw[i,m];exact w.msgs A k
 .rw[N,Pu]at x;have:=h.wait q x.1;grind [Hx,Jd]
section
variable{l:List CD}{i n:Int}{x:CD}
theorem NW(l:List CD)(i n:Int):(GZ l i n).length=U l:=by grind [GZ]
theorem TX(a:l[i.toNat]?=J x)(k:Nat):(GZ l i n)[k]?=if k=i.toNat then J {x with in_:=n}else l[k]? :=by grind [GZ]
theorem Yf(b:0<=i)(a:l[i.toNat]?=J x){k:Int}(c:0<=k):CX (GZ l i n) k=if k=i then n else CX l k:=by rw[CX,CX,TX a];grind
theorem Qt(a:l[i.toNat]?=J x)(k:Int):A8 (GZ l i n) k=A8 l k:=by rw[A8,A8,TX a];grind
theorem AFw(a:0<=i)(c:l[i.toNat]?=J x):∀{k:Nat} {b:Int},Jd l b->Cc l k b=X->i∉ZY l k b->Cc (GZ l i n) k b=X
 :=by intro x;induction x<;>grind [ZY,Cc,Jd,GZ,CX]
theorem mz(g:Ia l)(p:0<i)(m:l[i.toNat]?=J x)(c:Jd l n)(h:EN l n i=Z):∀{k:Nat} {b:Int},Jd l b->Cc l k b=X->∃e,Cc (GZ l i n) e b=X
 |0,b,o,a=>by simp[Cc]at a;subst a;exact⟨0,N1 _ _⟩|k+1,b,o,a=>by
  by_cases f:b=0
  .subst f;exact⟨0,N1 _ _⟩
  .have j:=N0 f a;by_cases q:b=i
   .have r:=AFw (n:=n) z m c (g.climbs n c) (by simpa[EN]using h);refine⟨U l+1,?_⟩;grind [Jd,NW,Cc,Yf]
   .have⟨e,hm⟩:=mz g p m c h j.1 j.2;refine⟨e+1,?_⟩;grind [Jd,NW,Cc,Yf]
def ABE(a:Ia l)(g:0<i)(f:l[i.toNat]?=J x)(h:Jd l n)(j:EN l n i=Z):Ia (GZ l i n):=by
 refine⟨by rw[NW];exact a.pos,by rw[Yf z f z,Co z];exact a.top,λb c=>?_⟩;have e:Jd l b:=by rw[Jd,NW]at c;exact c
 have⟨m,hm⟩:=mz a g f h j e (a.climbs b e);exact Pa z (VZ c hm)
end
theorem KC{f:Aa}{g:Al}{a:BP}(h:E0 f g a){i n:Int}(o:0<i)(e:Jd a.be i)(r:Jd a.be n)(K:A8 a.be n=Z)(s:EN a.be n i=Z):E0 f g {a with be:=GZ a.be i n}:=by
 have v:=h.small;simp[BP.small]at v;have F:=e.1;have H:=e.2;have⟨x,hx⟩:=g_ (l:=a.be) (i:=i.toNat) z;have b:=NW a.be i n;refine⟨by grind [BP.small],ABE h.tree o hx r s,λk D p c=>?_,λk l m=>?_,by dsimp only;rw[b];exact h.tot,λj B t=>?_,λC w=>?_⟩
 .dsimp only at c⊢;rw[Qt hx];rw[TX hx]at c;split at c
  .grind
  .exact h.dead k D p c
 .have⟨d,hd⟩:=h.grp k l m;exact⟨d,hd.ip,by dsimp only;rw[Jd,b];exact hd.at_,hd.len,by dsimp only;rw[b];exact hd.v6,hd.mine,hd.ac⟩
 .have:=h.que j B t;exact⟨this.len,by dsimp only;rw[Qt hx];exact this.dead,λA q=>by dsimp only;rw[b];exact this.msgs A q⟩
 .have:=h.wait C w;grind [Hx,Qt,Jd]
theorem PW:∀{g:u} {i:Al},Below g i->∀(b:Nat) a k,g[b]?=J a->i[b]?=J k->0<=k/\k<a
 |_,_,.nil,b,a,k,h,_=>by simp at h|_,_,.cons j l f,0,a,k,c,e=>by grind|_,_,.cons j l f,b+1,a,k,c,e=>PW f b a k zC4 zC3
theorem OH{d:Bc}{e:C6}{c:Al}:∀{a:Nat},e.d7.drop a=c->joinsOk d e a c=X->∀(b k:Nat) f g,a<=b->k<b->e.d7[b]?=J f->e.d7[k]?=J g->f≠g:=by
 induction c with
 |nil=>grind [List.drop_eq_nil_iff]
 |cons r c q=>
  intro a h l b k f g s p j o;rw[joinsOk,As]at l;have n:e.d7[a]?=J r:=by have:=congrArg (λc=>c[0]?) h;simpa using this
  by_cases i:b=a
  .subst i;rw[n]at j;cases j;have m:=l.1;simp[Ho]at m;intro i;subst i;exact m.2.2.2 (Pp.2 ⟨k,by grind⟩)
  .exact q (by rw[Aq n]at h;exact(T2 h).2) l.2 b k f g z p j o
structure IY(p:Aa)(sz:Al)(s:BP)(x:Dk)(s1:BP)(e:IX)(js:List HK):Prop:=
 wd:E0 p sz s1
 jobs:∀j∈js,Cb p sz s1 j
 run:DK p s x=EY (KQ p 401) js ⟨s1,[e],0⟩
 one:U js<=1
theorem Wo(x:CF)(k:Nat)(a:Int)(e:List C4):(Bj x k a e).length<=1:=by grind [Bj]
variable{w:IK}
def KO{a:Aa}{c:Al}{e:BP}{j:CF}(f:Ar a c)(h:Hx a c e w=X)(i:a.nodes[w.node.toNat]?=J j)(k:Nat):∀m∈Bj j k w.at_ w.env,Cb a c e m:=by have⟨B0,hw⟩:=Ou f h;have g:Cb a c e ⟨w.node,w.at_,w.env⟩:=⟨hw.n0,hw.size,hw.at_,hw.live,hw.v6⟩;have⟨y2,l,b,h2,h3,h4,_⟩:=NM f g;have b:a.nodes[w.node.toNat]?=J y2:=b;rw[hw.node]at b;rw[hw.node]at i;cases i;cases b;exact Uk g (by have:=hw.op;omega) h3 h4 k
theorem H9{b:Aa}{e:Al}{c:BP}{a:HK}(h:Cb b e c a)(f:List IK):Cb b e {c with waits:=f} a:=⟨h.n0,h.size,h.at_,h.live,h.v6⟩
theorem ACD{e:Aa}{j:Al}{a:BP}{i:Nat}(h:Ar e j)(f:E0 e j a)(o:a.waits[i]?=J w)(b:ws e a w=X):∃F t D,IY e j a ⟨i,0,0,[]⟩ F t D:=by
 have s:=f.wait w (AP o);have⟨x,hx⟩:=Ou h s;have C:=f.small;simp[BP.small]at C;have n:E0 e j {a with waits:=BF a.waits i}:=Nh f zDS λk r=>f.wait k (Ji r)
 have c:DK e a ⟨i,0,0,[]⟩=MG e {a with waits:=BF a.waits i} w x:=by rw[DK,Co AZ,QV];simp[o,hx.node]
 rw[MG]at c;have K:=hx.op;by_cases g:x.op=7
 .rw[D3 g]at c;exact⟨_,_,[],wO h n w.at_,AG,c,AG⟩
 .rw[Co g]at c;have⟨k,r,hn,hk⟩:=hx.val g;rw[ws,hx.node]at b;simp only[g,Gs,hn]at b;split at b
  .rename_i v;have⟨hr,B0,hy,hyd⟩:=hk v;by_cases q:x.op=6
   .rw[D3 q]at c;rw[Co z]at b;simp only[As,Dl,It]at b;have l:=hx.at_;have H:=l.1;have A:=KC n (i:=w.at_) (n:=k.n) z l hr b.2.1 b.2.2;have B:=KC f (i:=w.at_) (n:=k.n) z l hr b.2.1 b.2.2;rw[hn]at c;exact⟨_,_,_,A,λp m=>H9 (KO h (B.wait w (AP o)) hx.node 0 p m) (BF a.waits i),c,Wo _ _ _ _⟩
   .rw[Co q]at c;exact⟨_,_,_,n,λp m=>H9 (KO h s hx.node 0 p m) (BF a.waits i),c,Wo _ _ _ _⟩
  .cases b
variable{k:Nat}{t:Al}
theorem Nd{h:Aa}{n:Al}{f:BP}{s:Nat}{a:Az}{d:Bc}{c:C6}(B:Ar h n)(r:E0 h n f)(v:f.bv[s]?=J a)(w:h.def? a.ip=J d)(L:d.rules[k]?=J c)(M:A8 f.be (a.place d c.at_)=Z)(A:Below (Cw f d a c) t):iK h n d c.d7 f (BX d a c.d7 t f)/\Cb h n (BX d a c.d7 t f).2 ⟨c.node,a.place d c.at_,a.env++(BX d a c.d7 t f).1⟩:=by
 have⟨d2,hd⟩:=r.grp s a v;have p:=AP L;have C:=hd.ip;rw[w]at C;cases C;have m:=Mh B r v hd p;have D:=Bd B (Cf w).2;have K:=D.ok.pp c p;simp[Bt]at K;have H:∀e∈c.d7,(a.own d X e).toNat=(IQ h (f.bv.take s)).1+e.toNat:=λe O=>by have⟨o,b,_⟩:=m.join e O;have:=KG hd.mine o b;omega
 have g:=pw (p:=h) (sz:=n) (d:=d) (g:=a) (cs:=c.d7) (ks:=t) r (by have:=A.len;rw[Cw,BV]at this;exact this.symm) (λP e Q j l=>?_) (λo b e i N j l=>?_)
 .have⟨_,x,s0,b1,b2,b3,b4,b5,b6,b7,b8,_⟩:=D.node;have F:=hd.len;rw[b7]at F;simp at F;have⟨c1,i⟩:=b8 c p;refine⟨g,c1,?_,by rw[g.only.be];exact m.place,by rw[g.only.be];exact M,?_⟩
  .have:=g.len;dsimp only;rw[i,D1];congr 1;omega
  .rw[g.only.be,g.only.len,S1,hd.v6,g.v6];rfl
 .have⟨c0,c1,i,q,c3,c4,c5⟩:=m.join e (AP j);have T:=PW A P (QB f (a.own d X e)) Q (by grind [Cw]) l;refine⟨q,c3,z,?_⟩;have⟨ch,hch⟩:=g_ (l:=d.ac) (i:=e.toNat) z;have⟨R,f1,f2,f3,_⟩:=hd.ac _ ch hch;grind [OQ]
 .rw[H e (AP j),H i (AP l)];have:=OH rfl K.2.2.2 b o i e (GS _) N l j;have V:=(m.join e (AP j)).1;have R:=(m.join i (AP l)).1;omega
theorem ACB{f:Aa}{g:Al}{c:BP}{e:Nat}{a:Az}{d:Bc}{b:C6}(q:Ar f g)(r:E0 f g c)(h:c.bv[e]?=J a)(i:f.def? a.ip=J d)(j:d.rules[k]?=J b)(o:A8 c.be (a.place d b.at_)=Z)(p:Below (Cw c d a b) t):∃v l s,IY f g c ⟨-1,e,k,t⟩ v l s:=by have⟨ht,hj⟩:=Nd q r h i j o p;have m:c.bv[((e:Nat):Int).toNat]?=J a:=h;have n:d.rules[((k:Nat):Int).toNat]?=J b:=j;refine⟨(BX d a b.d7 t c).2,⟨1,a.place d b.at_,e,k,(BX d a b.d7 t c).1⟩,[⟨b.node,a.place d b.at_,a.env++(BX d a b.d7 t c).1⟩],ht.wd,λx w=>by grind,?_,AG⟩;rw[DK,D3 AZ,react];simp only[m,(Cf i).2,n,Q5];rw[EY];cases KQ f 401 ⟨b.node,a.place d b.at_,a.env++(BX d a b.d7 t c).1⟩ ⟨(BX d a b.d7 t c).2,[⟨1,a.place d b.at_,e,k,(BX d a b.d7 t c).1⟩],0⟩<;>rfl
theorem AG8{a:Aa}{c:Al}{b:BP}{g:Dk}(j:Ar a c)(k:E0 a c b)(h:Je a b g):∃m i l,IY a c b g m i l:=by cases h with|wait e f=>exact ACD j k e f|pp e f n o p=>grind [ACB]
theorem VH{b:Aa}{g:Al}{f:BP}{k:Dk}(i:Ar b g)(m:E0 b g f)(h:Je b f k){a:C5}(j:DK b f k=J a):E0 b g a.eq/\a.ev≠ []/\(U a.ev)<=401:=by have⟨s1,e,js,hm⟩:=AG8 i m h;rw[hm.run]at j;have c:=NN (λn a d9=>HV i 401 n a d9) js ⟨s1,[e],0⟩ a hm.wd hm.jobs j;have⟨l,h1,_⟩:=c.evs;refine⟨c.wd,by rw[h1];simp,?_⟩;have o:=c.ev;have p:=c.top AZ;grind
def Pd(l:List CD)(at_:Int)(n:Nat):List CD:=(Ku l at_).take n++l.drop n
theorem Xm(a:List CD)(at_:Int){b:Nat}(c:b<=(U a)):(Pd a at_ b).length=U a:=by grind [Pd,Iu]
theorem Xl(a:List CD)(at_:Int){b:Nat}(e:b<=(U a))(k:Nat):(Pd a at_ b)[k]?=(a[k]?).map λc=>if k<b then{c with dead:=c.dead||EN a k at_}else c:=by grind [Iu,Pd,Xn]
def zI(l:List CD)(at_:Int):Pd l at_ 0=l:=by simp[Pd]
theorem jm(l:List CD)(at_:Int):Pd l at_ (U l)=Ku l at_:=by grind [Pd,Iu]
variable{l:List CD}{at_:Int}
def zH{a:Nat}{b:CD}(c:l[a]?=J b):Pd l at_ (a+1)=(Pd l at_ a).set a {b with dead:=b.dead||EN l a at_}:=by have e:=l_ c;refine Lt λk=>?_;grind [Xl,Xm]
theorem AIi{a:Nat}{b:CD}(c:l[a]?=J b):(Pd l at_ a)[a]?=J b:=by grind [Xl]
theorem AD5(l:List CD)(at_:Int){b:Nat}(c:b<=(U l))(a:Int):CX (Pd l at_ b) a=CX l a:=by grind [CX,Xl]
variable{m:List CD}
theorem uo(e:∀a,CX m a=CX l a)(c:U m=U l):∀(k:Nat) (a:Int),Cc m k a=Cc l k a
 :=by intro b;induction b<;>grind [Cc,Jd]
theorem AGv(c:∀a,CX m a=CX l a):∀(k:Nat) (a:Int),ZY m k a=ZY l k a
 :=by intro b;induction b<;>grind [ZY]
def ABx(e:∀b,CX m b=CX l b)(a:U m=U l)(h:Ia l):Ia m:=⟨by rw[a];exact h.pos,by rw[e];exact h.top,λb c=>by rw[uo e a,a];exact h.climbs b (by rw[Jd,a]at c;exact c)⟩
theorem pJ(f:∀c,CX m c=CX l c)(e:U m=U l)(b a:Int):EN m b a=EN l b a:=by grind [EN,AGv]
def IM(l:List CD)(q:Fc):Fc:=if A8 l q.at_=X then{q with queue:=[]}else q
def RH(l:List CD)(c:List Fc)(n:Nat):List Fc:=(c.take n).map (IM l)++c.drop n
def zD(l:List CD)(c:List Fc):RH l c 0=c:=by simp[RH]
def ADy(l:List CD)(c:List Fc):RH l c (U c)=c.map (IM l):=by simp[RH]
theorem ADz(l:List CD)(a:List Fc){b:Nat}(c:b<=(U a)):(RH l a b).length=U a:=by grind [RH]
theorem eH{b:List Fc}{a:Nat}{c:Fc}(e:b[a]?=J c):(RH l b a)[a]?=J c:=by grind [RH]
def zC{b:List Fc}{a:Nat}{e:Fc}(c:b[a]?=J e):RH l b (a+1)=(RH l b a).set a (IM l e):=by
 have g:=l_ c;have f:((b.take a).map (IM l)).length=a:=zDL
 rw[RH,RH,FD,c,MP _ _ z,f,IT,Aq c];simp
theorem wQ(s:BP)(at_:Int):N3 s at_=⟨Ku s.be at_,s.bv,s.ac.map (IM (Ku s.be at_)),s.waits.filter λw=> !A8 (Ku s.be at_) w.at_⟩:=rfl
def Th(b:List IX)(a:C5):C5:=⟨a.eq,b++a.ev,a.work⟩
theorem AD8(c:Aa)(a:HK)(f:List IX)(e:C5):MR c a (Th f e)=(MR c a e).map λg=>(Th f g.1,g.2):=by
 simp[MR];rcases c.nodes[a.node.toNat]? with _|b
 .rfl
 .dsimp only;by_cases h:b.op=2
  .simp only[h,IP,Fw,Th];by_cases j:(JI a.env b.n).kind=2
   .grind
   .by_cases i:(JI a.env b.n).kind=3
    .simp only[i,IP,Int.reduceEq,Gs];cases SI c e.eq (JI a.env b.n).n (b.args.map (·.value a.env))<;>rfl
    grind
  grind [Kh,Th,Gz]
def wm{b:HK->C5->Option C5}{c:List IX}(f:∀e a,b e (Th c a)=(b e a).map (Th c)):∀(l:List HK) (a:C5),EY b l (Th c a)=(EY b l a).map (Th c)
 |[],a=>rfl|e::l,a=>by rw[EY,EY,f];cases b e a with|none=>rfl|some g=>exact wm f l g
def ra(e:Aa)(c:List IX):∀(k:Nat) (b:HK) (a:C5),KQ e k b (Th c a)=(KQ e k b a).map (Th c)
 |0,b,a=>rfl|k+1,b,a=>by
  rw[KQ,KQ];have g:(Th c a).work=a.work:=rfl;rw[g];by_cases h:a.work<400
  .rw[D3 h,D3 h];have:=AD8 e b c {a with work:=a.work+1}
   rw[show({Th c a with work:=a.work+1}:C5)=Th c {a with work:=a.work+1}from rfl,this]
   cases MR e b {a with work:=a.work+1}with|none=>rfl|some f=>exact wm (λb a=>ra e c k b a) f.2 f.1
  .rw[Co h,Co h];rfl
def QL(p:Aa)(s:BP)(e:List IX)(x:Dk):Option C5:=(DK p s x).map (Th e)
def ba(a:HK->C5->Option C5)(b:HK)(c:C5):EY a [b] c=a b c:=by rw[EY];cases a b c<;>rfl
section
variable{p:Aa}{s:BP}{e:List IX}{i:Nat}{w:IK}{a:CF}
theorem Pe(b:s.waits[i]?=J w)(c:p.nodes[w.node.toNat]?=J a):DK p s ⟨i,0,0,[]⟩=MG p {s with waits:=BF s.waits i} w a:=by grind [DK,QV]
def ZL(b:s.waits[i]?=J w)(c:p.nodes[w.node.toNat]?=J a)(f:a.op=7):QL p s e ⟨i,0,0,[]⟩=J ⟨N3 {s with waits:=BF s.waits i} w.at_,e++[⟨3,w.at_,0,0,[]⟩],0⟩:=by rw[QL,Pe b c,MG,D3 f];rfl
def pb(f:s.waits[i]?=J w)(g:p.nodes[w.node.toNat]?=J a)(j:a.op=6){c:Int}(h:a.kids=[c]){b:C4}(k:JI w.env a.n=b):QL p s e ⟨i,0,0,[]⟩=KQ p 401 ⟨c,w.at_,w.env⟩ ⟨{s with waits:=BF s.waits i,be:=GZ s.be w.at_ b.n},e++[⟨2,w.at_,b.n,0,[]⟩],0⟩:=by rw[QL,Pe f g,MG,Co z,D3 j,k,Bj,h];simp;rw[ba];exact(ra p e 401 _ _).symm
def ZM(f:s.waits[i]?=J w)(g:p.nodes[w.node.toNat]?=J a)(k:a.op=8){b:Int}(h:a.kids=[b]){c:C4}(j:JI w.env a.n=c):QL p s e ⟨i,0,0,[]⟩=KQ p 401 ⟨b,w.at_,w.env⟩ ⟨{s with waits:=BF s.waits i},e++[⟨4,w.at_,c.n,0,[]⟩],0⟩:=by rw[QL,Pe f g,MG,Co z,Co z,j,Bj,h];simp;rw[ba];exact(ra p e 401 _ _).symm
end
variable{w:IK}
theorem AHo{c:Aa}{g:Al}{i:BP}{a:CF}(j:Ar c g)(h:XF c g i w a)(n:¬a.op=7):∃f,a.kids=[f]:=by
 have k:Cb c g i ⟨w.node,w.at_,w.env⟩:=⟨h.n0,h.size,h.at_,h.live,h.v6⟩;have⟨y2,l,b,h2,_⟩:=NM j k;have b:c.nodes[w.node.toNat]?=J y2:=b;rw[h.node]at b;cases b;simp only[Cq,As,Dl]at h2;have o:=h2.1;have m:U a.kids=1:=by
  rcases h.op with e|e|e
  .grind [DM]
  .exact absurd e n
  .grind [DM]
 match a.kids,m with|[f],_=>exact⟨f,rfl⟩
def Ox:BP:=⟨[],[],[],[]⟩
structure Made:=
 eq:BP
 ev:List IX
 err:Int
def Ya:Option C5->Made
 |some a=>⟨a.eq,a.ev,0⟩|none=>⟨Ox,[],3⟩
abbrev Pz(r:Made):y:=.kw [sA r.eq,.d (.co (r.ev.map ND)),nI r.err]
def AB7(p:Aa)(s:BP)(x:Dk):QL p s [] x=DK p s x:=by rw[QL];cases DK p s x<;>rfl
theorem Ug(f:Aa)(g:Al):E0 f g Db:=by refine⟨Ad,AHP Ad,λe m j k=>?_,λe i a=>by simp[Db]at a,rfl,λh l b=>by simp[Db]at b,λw c=>by simp[Db]at c⟩;grind [Db]
theorem Uf{a:Aa}{b:Al}(c:Ar a b):Cb a b Db ⟨a.main,0,Dh (U a.free)⟩:=by have⟨h1,h2⟩:=c.main;refine⟨h1,by rw[h2];simp[Dh],(show Jd Db.be 0 from⟨Ad,Ad⟩),(show A8 Db.be 0=Z by decide),?_⟩;grind [Dh,C4.inB]
def X1{a:Aa}{e:Al}(f:Ar a e){b:C5}(h:J1 a=J b):E0 a e b.eq/\(U b.ev)<=400/\∀g∈b.ev,XA b.eq g:=by have c:=HV f 401 ⟨a.main,0,Dh (U a.free)⟩ ⟨Db,[],0⟩ b (Ug a e) (Uf f) h;have⟨l,h1,h2,h3⟩:=c.evs;have i:=c.top AZ;simp at h1;subst h1;dsimp only at h2;exact⟨c.wd,z,h3⟩
def Y7{c:Type}(l:List c)(k:Int):List c:=if 0<=k then BF l k else l
def Q8(a:Int):Al->Al->Int
 |c::cs,k::ks=>if c=a then k else Q8 a cs ks|_,_=> -1
def Q9(p:Aa)(s:BP)(x:Dk)(q:Fc):Int:=if x.wait<0/\q.group=x.group then(match s.bv[x.group.toNat]? with
 |some g=>match p.defs[g.ip.toNat]? with
  |some d=>match d.rules[x.pp.toNat]? with|some r=>Q8 q.index r.d7 x.picks|none=> -1
  |none=> -1
 |none=> -1)else-1
variable{c:Type}{l:List c}
theorem AEH{k:Int}(h:U l<=k.toNat):BF l k=l:=by grind [BF,List.take_of_length_le,List.drop_of_length_le]
theorem Nb{k:Int}(h:(U l:Int)<=k\/k<0):Y7 l k=l:=by grind [Y7,AEH]
def JV(d:Bc)(g:Az)(n:Nat):Al->Al->Int
 |c::cs,k::ks=>if (g.own d X c).toNat=n then k else JV d g n cs ks|_,_=> -1
def SM{d:Bc}{e:Az}{f:Nat}:∀{b c:Al},(∀a∈b,(e.own d X a).toNat≠f)->JV d e f b c= -1
 |[],c,_=>by cases c<;>rfl|a::b,[],_=>rfl|a::b,k::c,h=>by rw[JV,Co (h a (CO ..)),SM λa g=>h a (By _ g)]
theorem dH{d:Bc}{g:Az}:∀{cs ks:Al} {s:BP} {n:Nat} {q:Fc},s.ac[n]?=J q->(∀k∈ks,0<=k)->
 (∀(e c:Nat) a b,e<c->cs[e]?=J a->cs[c]?=J b->(g.own d X b).toNat≠(g.own d X a).toNat)->(BX d g cs ks s).2.ac[n]?=J {q with queue:=Y7 q.queue (JV d g n cs ks)}
 |[],ks,s,n,q,hq,_,_=>by
  rw[BX,JV,Nb (.inr Ad)]
  .exact hq
  .intro a cs k ks h;cases h
  grind
 |a::cs,[],s,n,q,hq,_,_=>by
  rw[BX,JV,Nb (.inr Ad)]
  .exact hq
  .grind
  grind
 |a::cs,k::ks,s,n,q,hq,hk,hd=>by
  have B:=hk k (CO ..);have w:=λx f=>dH (d:=d) (g:=g) (cs:=cs) (ks:=ks) (s:=(EI s (g.own d X a) k).2) (n:=n) (q:=x) f (λk v=>hk k (By _ v)) λe c b j A l m=>hd (e+1) (c+1) b j z zDH zC2;rw[BX,JV];by_cases i:(g.own d X a).toNat=n
  .rw[D3 i];have o:(EI s (g.own d X a) k).2.ac[n]?=J {q with queue:=BF q.queue k}:=by rw[EI,i,hq];simp[l_ hq]
   have p:=w _ o;rw[SM λb r=>?_,Nb (.inr Ad)]at p
   .grind [Y7]
   .obtain⟨c,t⟩:=Ci r;have:=hd 0 (c+1) a b z rfl (by simpa using t);grind
  grind [EI]
structure ky(p:Aa)(s:BP)(x:Dk)(s1:BP):Prop:=
 sp:∀(i:Nat) B0,s.be[i]?=J B0->∃A6,s1.be[i]?=J A6/\(B0.dead=X->A6=B0)
 gr:s1.bv=s.bv
 ch:∀(c:Nat) q,s.ac[c]?=J q->∃l,s1.ac[c]?=J {q with queue:=l}/\(A8 s1.be q.at_=Z->l=Y7 q.queue (Q9 p s x q))
theorem AAh{h:Aa}{s:Al}{a:BP}{i:Nat}(q:Ar h s)(n:E0 h s a)(B:a.waits[i]?=J w)(f:ws h a w=X):∃H M T,IY h s a ⟨i,0,0,[]⟩ H M T/\ky h a ⟨i,0,0,[]⟩ H:=by
 have F:=n.wait w (AP B);have⟨x,hx⟩:=Ou q F;have R:=n.small;simp[BP.small]at R;have A:E0 h s {a with waits:=BF a.waits i}:=Nh n zDS λt D=>n.wait t (Ji D)
 have e:DK h a ⟨i,0,0,[]⟩=MG h {a with waits:=BF a.waits i} w x:=by rw[DK,Co AZ,QV];simp[B,hx.node]
 rw[MG]at e;have W:=hx.op;have r:=hx.at_;have V:=r.1;have⟨A6,hz⟩:=g_ (l:=a.be) (i:=w.at_.toNat) (by have:=r.2;omega);have aa:A6.dead=false:=by have:=hx.live;rwa [A8,hz]at this
 have Y:∀c,Q9 h a ⟨i,0,0,[]⟩ c= -1:=λc=>by grind [Q9]
 have K:∀(g:Nat) (c:Fc) (b:Bool),a.ac[g]?=J c->∃l,a.ac[g]?=J {c with queue:=l}/\(b=Z->l=Y7 c.queue (Q9 h a ⟨i,0,0,[]⟩ c)):=λg c b m=>⟨c.queue,m,λ_=>by grind [Nb]⟩
 by_cases p:x.op=7
 .rw[D3 p]at e;refine⟨_,_,[],⟨wO q A w.at_,AG,e,AG⟩,⟨λj v k=>?_,rfl,λg c m=>?_⟩⟩
  .have o:(N3 {a with waits:=BF a.waits i} w.at_).be[j]?=J {v with dead:=v.dead||EN a.be j w.at_}:=by show(Ku a.be w.at_)[j]?=_;rw[Xn,k];rfl
   exact⟨_,o,λe=>by cases v;simp at e⊢;simp[e]⟩
  .have o:(N3 {a with waits:=BF a.waits i} w.at_).ac[g]?=J (if A8 (Ku a.be w.at_) c.at_=X then{c with queue:=[]}else c):=by show(a.ac.map _)[g]?=_;rw[BY,m];rfl
   by_cases N:A8 (Ku a.be w.at_) c.at_=X
   .grind [N3,Ku]
   .rw[Co N]at o;exact⟨c.queue,o,λ_=>by grind [Nb]⟩
 .rw[Co p]at e;have⟨t,D,hn,hk⟩:=hx.val p;rw[ws,hx.node]at f;simp only[p,Gs,hn]at f;split at f
  .rename_i O;have⟨hr,v,hy,hyd⟩:=hk O;by_cases C:x.op=6
   .rw[D3 C]at e;rw[Co z]at f;simp only[As,Dl,It]at f;have P:=KC A (i:=w.at_) (n:=t.n) z r hr f.2.1 f.2.2;have Q:=KC n (i:=w.at_) (n:=t.n) z r hr f.2.1 f.2.2;rw[hn]at e;refine⟨_,_,_,⟨P,λj k=>H9 (KO q (Q.wait w (AP B)) hx.node 0 j k) (BF a.waits i),e,Wo _ _ _ _⟩,⟨λj L k=>?_,rfl,λg c m=>K g c _ m⟩⟩;grind [TX]
   .rw[Co C]at e;rw[D3 z]at f;rw[hn]at e;exact⟨_,_,_,⟨A,λj k=>H9 (KO q F hx.node 0 j k) (BF a.waits i),e,Wo _ _ _ _⟩,⟨λj L k=>⟨L,k,λ_=>rfl⟩,rfl,λg c m=>K g c _ m⟩⟩
  .cases f
theorem AAg{p:Aa}{V:Al}{f:BP}{i k:Nat}{c:Az}{d:Bc}{e:C6}{t:Al}(D:Ar p V)(o:E0 p V f)(q:f.bv[i]?=J c)(r:p.def? c.ip=J d)(B:d.rules[k]?=J e)(aa:A8 f.be (c.place d e.at_)=Z)(C:Below (Cw f d c e) t):ky p f ⟨-1,i,k,t⟩ (BX d c e.d7 t f).2:=by
 have⟨ht,M⟩:=Nd D o q r B aa C;have⟨d2,hd⟩:=o.grp i c q;have Q:=AP B;have L:=hd.ip;rw[r]at L;cases L;have n:=Mh D o q hd Q;have R:=(Bd D (Cf r).2).ok.pp e Q;simp[Bt]at R;have O:∀a∈e.d7,(c.own d X a).toNat=(IQ p (f.bv.take i)).1+a.toNat:=λa g=>by have⟨v,b,_⟩:=n.join a g;have:=KG hd.mine v b;omega
 refine⟨λK a0 M=>⟨a0,by rw[ht.only.be];exact M,λ_=>rfl⟩,ht.only.bv,λav T P=>⟨_,dH P (λar ag=>?_) (λv b a w ac x A=>?_),λ_=>?_⟩⟩
 .obtain⟨K,N⟩:=Ci ag;have⟨m,s⟩:=g_ (l:=Cw f d c e) (i:=K) (by have:=l_ N;rw[C.len]at this;exact this);exact(PW C K m ar s N).1
 .rw[O a (AP x),O w (AP A)];have:=OH rfl R.2.2.2 b v w a (GS _) ac A x;have a5:=(n.join a (AP x)).1;have az:=(n.join w (AP A)).1;omega
 .congr 1;have⟨i2,j2,g2,d2,ch2,g⟩:=E0.chn o.grp o.tot P;rw[Q9];by_cases H:T.group=i
  .rw[D3 ⟨AZ,H⟩];have W:f.bv[((i:Nat):Int).toNat]?=J c:=q;have Y:d.rules[((k:Nat):Int).toNat]?=J e:=B;simp only[W,(Cf r).2,Y];have ad:i2=i:=by have:=g.group;omega
   subst ad;have a3:=g.at_;have a4:=g.index;have key:∀(j l:Al),(∀a∈j,a∈e.d7)->JV d c av j l=Q8 T.index j l:=by
    intro j;induction j with
    |nil=>grind [JV,Q8]
    |cons a j ai=>
     intro l s;rcases l with _|⟨k,l⟩
     .grind [JV,Q8]
     .rw[JV,Q8,ai l λa g=>s a (By _ g)];have F:=s a (CO ..);have a2:=(n.join a F).1;grind
   exact key _ _ λ_ h=>h
  .rw[Co λh=>H h.2];refine SM λa F a1=>H ?_;have⟨c0,c1,_⟩:=n.join a F;have⟨ch,hch⟩:=g_ (l:=d.ac) (i:=a.toNat) z;have⟨az,f1,f2,_⟩:=hd.ac _ ch hch;grind
theorem ACA{e:Aa}{n:Al}{c:BP}{o:Dk}(j:Ar e n)(l:E0 e n c)(h:Je e c o):∃r s x,IY e n c o r s x/\ky e c o r:=by cases h with|wait f g=>exact AAh j l f g| @pp m k a d b t f g i p q=>have⟨ht,hj⟩:=Nd j l f g i p q;have v:c.bv[((m:Nat):Int).toNat]?=J a:=f;have w:d.rules[((k:Nat):Int).toNat]?=J b:=i;refine⟨(BX d a b.d7 t c).2,⟨1,a.place d b.at_,m,k,(BX d a b.d7 t c).1⟩,[⟨b.node,a.place d b.at_,a.env++(BX d a b.d7 t c).1⟩],⟨ht.wd,λB A=>by grind,?_,AG⟩,AAg j l f g i p q⟩;rw[DK,D3 AZ,react];simp only[v,(Cf g).2,w,Q5];rw[EY];cases KQ e 401 ⟨b.node,a.place d b.at_,a.env++(BX d a b.d7 t c).1⟩ ⟨(BX d a b.d7 t c).2,[⟨1,a.place d b.at_,m,k,(BX d a b.d7 t c).1⟩],0⟩<;>rfl
structure nX(s s':BP):Prop:=
 sl:U s.be<=(U s'.be)
 gl:U s.bv<=(U s'.bv)
 cl:U s.ac<=(U s'.ac)
 sp:∀(i:Nat) x,s.be[i]?=J x->∃B0,s'.be[i]?=J B0/\(x.dead=X->B0=x)
 gr:∀(i:Nat) g,s.bv[i]?=J g->s'.bv[i]?=J g
 ch:∀(i:Nat) q,s.ac[i]?=J q->∃q',s'.ac[i]?=J q'/\q'.at_=q.at_/\q'.group=q.group/\q'.index=q.index
structure v7(p:Aa)(s:BP)(x:Dk)(s':BP)(q q':Fc):Prop:=
 at_:Jd s'.be q'.at_
 dead:A8 s'.be q'.at_=X->q'.queue=[]
 live:A8 s'.be q'.at_=Z->∃l,q'.queue=Y7 q.queue (Q9 p s x q)++l
variable{a:C5}
theorem Oo{k:Aa}{v:Al}{i:BP}{b:Dk}(n:Ar k v)(D:E0 k v i)(h:Je k i b)(m:DK k i b=J a):nX i a.eq/\∀(g:Nat) f,i.ac[g]?=J f->∃j,a.eq.ac[g]?=J j/\v7 k i b a.eq f j:=by
 have⟨s1,e,js,hm,hk⟩:=ACA n D h;rw[hm.run]at m;have r:=NN (λH a d9=>HV n 401 H a d9) js ⟨s1,[e],0⟩ a hm.wd hm.jobs m;have o:=r.ext;dsimp only at o;have t:∀(c:Nat) b,i.be[c]?=J b->∃w,a.eq.be[c]?=J w/\(b.dead=X->w=b):=λc b F=>by have⟨A6,h1,h2⟩:=hk.sp c b F;exact⟨A6,o.sp _ _ h1,h2⟩
 have s:∀(c:Nat) q,i.bv[c]?=J q->a.eq.bv[c]?=J q:=λc q x=>o.gr _ _ (by rw[hk.gr];exact x);have p:∀(g:Nat) f,i.ac[g]?=J f->∃j,a.eq.ac[g]?=J j/\(j.at_=f.at_/\j.group=f.group/\j.index=f.index)/\v7 k i b a.eq f j:=λg f B=>by
  have⟨l,h1,h2⟩:=hk.ch g f B;have⟨l2,h3⟩:=o.ch g _ h1;have C:=r.wd.que g _ h3;have K:=(Il n hm.wd h1).at_;have A:=(Il n r.wd h3).at_;refine⟨_,h3,⟨rfl,rfl,rfl⟩,A,λm=>?_,λm=>⟨l2,?_⟩⟩
  .rcases C.dead with h|h
   .grind
   .rw[m]at h;cases h
  grind [HS]
 exact⟨⟨NP λc b h=>(t c b h).imp λ_ h=>h.1,NP λc b h=>⟨b,s c b h⟩,NP λc b h=>(p c b h).imp λ_ h=>h.1,t,s,λc f h=>(p c f h).imp λ_ h=>⟨h.1,h.2.1⟩⟩,λg f h=>(p g f h).imp λ_ h=>⟨h.1,h.2.2⟩⟩
def AJZ{c:Aa}{b:BP}{a:CF}(e:c.nodes[w.node.toNat]?=J a):ws c b w=if a.op=7 then X else if (JI w.env a.n).kind=4 then(if a.op=8 then A8 b.be (JI w.env a.n).n else decide (w.at_≠0)&&(!A8 b.be (JI w.env a.n).n&& !EN b.be (JI w.env a.n).n w.at_))else false:=by rw[ws,e]
def AEw{c:Aa}{h:Al}{a:BP}(q:Ar c h)(j:E0 c h a){f:CF}(b:XF c h a w f):Bk kT 71 [pA c,sA a,.agg [nI w.at_,nI w.node,.d (.co (w.env.map A9))]] []=.ok (.ret (.d (.bool (ws c a w))),[]):=by
 have g:=b.node;have v:=b.n0;have A:=l_ g;rw[AJZ g];by_cases i:f.op=7
 .refine BH func71 ?_;exact au
 have⟨l,hv,hvn,e⟩:=b.val i;have⟨n0,n1⟩:=b.n i;rw[hvn];by_cases m:l.kind=4
 .have⟨hr,B0,hy,k⟩:=e m;obtain⟨o,p⟩:=hr;have n:=j.small;simp only[BP.small,As,Dl]at n;have⟨w0,w1⟩:=b.at_;have s:=bW a.be (.co (a.bv.map CY)) (.co (a.ac.map Fg)) (.co (a.waits.map Bf)) l.n w.at_ z j.tree ⟨o,p⟩ w0;by_cases x:f.op=8
  .rw[k];clear e;refine BH func71 ?_;exact au
  .rw[k];clear e;refine BH func71 ?_
   (repeat' (first|simp only[*,go_sem]|(refine sx ?_ ?_<;>intro r)|refine sy z λf g t=>?_|simp(disch:=first|assumption|omega) only[Ae]))
   all_goals simp[*]
 .clear e;refine BH func71 ?_;exact au
def R8(l:u):Al:=if 0∈l then []else l.map λ(n:Nat)=>(n:Int)
def LQ(s:BP)(d:Bc)(g:Az)(r:C6):Al:=if A8 s.be (g.place d r.at_)=X then []else R8 (Cw s d g r)
def ep{c:Aa}{e:Al}{i:BP}{g:Nat}{b:Az}{d:Bc}(f:Ar c e)(h:SW c e i g b d):U b.env<=10000:=by have a:=Bd f (Cf h.ip).2;have⟨_,_,v,_,_,_,_,h0,h1,h2,_⟩:=a.node;have:=h.len;rw[h2,F9]at this;have:=a.ok.ac;have:=a.ok.be;unfold Bc.own at*;omega
def ABd{m:Aa}{F:Al}{e:BP}(w:Ar m F)(R:E0 m F e){C k:Nat}{a:Az}{d:Bc}{c:C6}(M:e.bv[C]?=J a)(r:SW m F e C a d)(Q:d.rules[k]?=J c):Bk kT 72 [pA m,sA e,nI C,nI k] []=.ok (.ret (.d (.co ((LQ e d a c).map AX))),[]):=by
 have i:=Mh w R M r (AP Q);have⟨g0,hdd⟩:=Cf r.ip;have x:=(Bd w hdd).ok;have t:=x.ac;have K:=x.be;have ad:=x.rules;have T:=R.small;simp only[BP.small,As,Dl]at T;obtain⟨bc,be,bh,bi⟩:=T;have av:=l_ M;have a0:=l_ Q;have ar:=l_ hdd;have own:=OC r;have aa:=ep w r;have a6:=U4 m a d c.at_ g0 hdd t K own aa i.at0 i.at1;have⟨r0,r1⟩:=i.place;have⟨B0,hy⟩:=g_ (l:=e.be) (i:=(a.place d c.at_).toNat) z;have P:AR (LQ e d a c=if B0.dead=X then []else R8 (Cw e d a c)):=⟨by rw[LQ,A8,hy];rfl⟩;have a1:AR (∀b,a.own d X b=a.own d X b):=⟨λ_=>rfl⟩;have a4:=i.j0;have a5:=i.j1;replace i:=AB i;unfold Bc.own at own;rcases hyd:B0.dead with _|_
 .rw[P.1,hyd];refine BH func72 ?_;refine aw ?_;refine Ah c.d7 (B2:=λf (g:y×S×Nat)=>⟨[(5,.ptr [0,0] 0),(9,.ptr [0,1] 0),(11,.ptr [0,2] 0),(12,nI ((U a.env:Int)-(U d.be:Int)-(U d.ac:Int))),(13,g.1),(14,nI f)],([0,0],.box (sC e))::([0,1],.box [nI a.ip,nI a.at_,.d (.co (a.env.map A9))])::([0,2],.box [nI c.at_,.d (.co (c.d7.map AX)),nI c.node])::g.2.1,g.2.2,[]⟩)
   (Inv:=λf a' g=>AR (0∉(c.d7.take f).map λb=>QB e (a.own d X b))/\AR ((f=0/\g=(.d8,[],3))\/(0<f/\g=(.ii [1,3] 0 f,[([1,3],.f9 1 (((c.d7.take f).map λb=>((QB e (a.own d X b):Nat):Int)).map AX))],4)))) (b0:=(.d8,[],3)) ⟨⟨AG⟩,⟨.inl ⟨rfl,rfl⟩⟩⟩ ?_ ?_
  .rintro f b g p s N ⟨n,h⟩ H;have⟨c0,c1,o0,q,hqc,q12,j⟩:=i.1.join b (AP p);have⟨v,hv⟩:=g_ (l:=a.env) (i:=U a.env-U d.be-U d.ac+b.toNat) z;have l:a.own d X b=v.n:=by rw[Az.own,D3 rfl,hv];rfl
   rw[l]at o0 hqc j;have D:((U a.env:Int)-(U d.be:Int)-(U d.ac:Int)+b).toNat=U a.env-U d.be-U d.ac+b.toNat:=z;rw[<-D]at hv;have bk:TC.wrap ((U a.env:Int)-(U d.be:Int)-(U d.ac:Int)+b)=(U a.env:Int)-(U d.be:Int)-(U d.ac:Int)+b:=w_ z z;have a3:0<=(U a.env:Int)-(U d.be:Int)-(U d.ac:Int)+b:=z;have ai:=l_ hqc;replace D:=AB D;have V:AR (((c.d7.take (f+1)).map λb=>QB e (a.own d X b))=((c.d7.take f).map λb=>QB e (a.own d X b))++[U q.queue]):=⟨by rw[FD,p];simp[l,j]⟩;have B:AR (((c.d7.take (f+1)).map λb=>((QB e (a.own d X b):Nat):Int))=((c.d7.take f).map λb=>((QB e (a.own d X b):Nat):Int))++[(U q.queue:Int)]):=⟨by rw[FD,p];simp[l,j]⟩;have Y:AR (U q.queue=0->R8 (Cw e d a c)=[]):=⟨λW=>by rw[R8,D3];exact Ex.2 ⟨b,AP p,by rw[l,j,W]⟩⟩;replace l:=AB l;replace j:=AB j;by_cases W:(U q.queue:Int)=0
   .rw[Y.1 z];rcases h.1 with⟨rfl,rfl⟩|⟨A,rfl⟩;all_goals
     clear h;dsimp only;exact au
   .rcases h.1 with⟨rfl,rfl⟩|⟨A,rfl⟩
    .clear h;dsimp only;have az:(0:Int)<U c.d7:=N;refine aw (H.1 (.ii [1,3] 0 1,[([1,3],.f9 1 [[.int .i64 (U q.queue)]])],4) ⟨⟨?_⟩,⟨.inr ⟨z,?_⟩⟩⟩)
     .rw[V.1];simp only[Lw,Ce,DL,AS];omega
     .rw[B.1];rfl
    .clear h;have⟨L,o⟩:=Cv ((c.d7.take f).map λb=>((QB e (a.own d X b):Nat):Int));have ac:U L=f:=by rw[o,BV,F5];omega
     have t:WA f (L.map AX)=L.map AX:=Bi BL;have K:f+1<=4:=z;rw[<-o]at B⊢;replace o:=AB o;dsimp only;refine aw (H.1 (.ii [1,3] 0 (f+1),[([1,3],.f9 1 (L.map AX++[[.int .i64 (U q.queue)]]))],4) ⟨⟨?_⟩,⟨.inr ⟨z,?_⟩⟩⟩)
     .rw[V.1];simp only[Ac,AS,not_or];exact⟨n.1,z⟩
     .rw[B.1,Ap];rfl
  .rintro f g s N ⟨n,h⟩;have s:=s.1;subst s;rw[F3]at n;rcases h.1 with⟨A,rfl⟩|⟨A,rfl⟩
   .omega
   .clear h;have O:AR (R8 (Cw e d a c)=c.d7.map λb=>((QB e (a.own d X b):Nat):Int)):=⟨by rw[R8,Cw,Co n.1,QR];rfl⟩;dsimp only;rw[O.1];have t:WA (U c.d7) ((c.d7.map λb=>((QB e (a.own d X b):Nat):Int)).map AX)=(c.d7.map λb=>((QB e (a.own d X b):Nat):Int)).map AX:=Bi AG;simp only[F3]
    (repeat' (first|simp only[*,go_sem,D4]|(refine sx ?_ ?_<;>intro ag)|refine sy z λbl a2 O=>?_|simp(disch:=first|assumption|omega) only[Ae]))
 .rw[P.1,hyd];refine BH func72 ?_;exact au
variable{k:Nat}
def Ts{r:c}(h:l[k]?=J r):l=l.take k++r::l.drop (k+1):=by rw[<-Aq h,JP]
def cj{e:c}(h:l[k]?=J e)(a:c):l.set k a=l.take k++a::l.drop (k+1):=by have b:=l_ h;rw[List.set_eq_take_append_cons_drop,D3 b]
variable{g:Type}
def zp{e:c->List g}(h:(l.flatMap e).Nodup){a:Nat}{o b:c}(f:l[a]?=J b)(j:l[k]?=J o)(r:a≠k){x:g}(m:x∈e b):x∉e o:=by
 intro n;rw[Ts j,KW,F0,D0]at h;obtain⟨_,i,p⟩:=h;rw[D0]at i;have t:=l_ j;have s:=l_ f;by_cases q:a<k
 .exact p x (BI.2 ⟨b,AP (i:=a) (by rw[List.getElem?_take,D3 q];exact f),m⟩) x (Is _ n) rfl
 .exact i.2.2 x n x (BI.2 ⟨b,AP (i:=a-(k+1)) (by rw[List.getElem?_drop,show k+1+(a-(k+1))=a by omega];exact f),m⟩) rfl
variable{e:c}
def X5{f:c->List g}(h:(l.flatMap f).Nodup){s:c}(q:l[k]?=J s)(w:(f e).Nodup)(v:∀a∈f e,a∈f s\/a∉l.flatMap f):((l.set k e).flatMap f).Nodup:=by
 have A:=h;rw[Ts q,KW,F0,D0]at h;obtain⟨t,p,r⟩:=h;rw[D0]at p;rw[cj q,KW,F0,D0];have key:∀a∈f e,a∉(l.take k).flatMap f/\a∉(l.drop (k+1)).flatMap f:=λa x=>by
  rcases v a x with m|m
  .exact⟨λi=>r a i a (Is _ m) rfl,λi=>p.2.2 a m a i rfl⟩
  .rw[Ts q,KW,F0]at m;simp only[Ac,not_or]at m;exact⟨m.1,m.2.2⟩
 refine⟨t,D0.2 ⟨w,p.2.1,λo n b j i=>(key o n).2 (by rw[i];exact j)⟩,λo n b j i=>?_⟩;rcases Ac.1 j with j|j
 .exact(key b j).1 (by rw[<-i];exact n)
 .exact r o n b (IN _ j) i
def fM{a:c->List g}{j:c}(f:l[k]?=J j){b:g}(i:b∈(l.set k e).flatMap a):b∈l.flatMap a\/b∈a e:=by
 rw[cj f,KW,F0]at i;rw[Ts f,KW,F0];simp only[Ac]at*;rcases i with h|h|h
 .exact .inl (.inl h)
 .exact .inr h
 .exact .inl (.inr (.inr h))
def Vo{B:MV->Int->List y}{n:Bool}{N:u->Bool}{h f:S}{m:u}{V:MV}{a d9:C5}{v3:y}{rows:List (List y)}(g:Gf B n h m V a)(t:PB N V m)(C:f.get m=J (.box (B {V with v3:=v3,rows:=rows} d9.work))) (A:CH f v3 rows) (D:qL n f rows d9.eq.ac) (K:(rows.flatMap Ab).Nodup)(s:∀b,b∈AE v3\/b∈rows.flatMap Ab->(b∈AE V.v3\/b∈V.rows.flatMap Ab)\/(N b=X/\∃l,b=1::l)) (H:∀i,i<4->BQ d9 i=BQ a i)(q:∀b,b≠m->b∉AE V.v3->b∉V.rows.flatMap Ab->N b=Z->f.get b=h.get b):Ns B n N m V h d9 f:=by
 have F:∀b,(∀v,h.get b≠J (.box v))->b≠m:=λb e c=>e _ (by subst c;exact g.box);refine⟨{V with v3:=v3,rows:=rows},⟨C,?_,λi j=>?_,A,D,g.gw,K,g.inv⟩,λb o=>?_,λb p w=>q b (λc=>p (by rw[c];exact V.m_mem m)) (λc=>p (V.v3_mem m c)) (λc=>p (V.row_mem m c)) w⟩
 .show(V.acts=m/\n=Z)\/f.get V.acts=_;refine QY g λc r=>q _ c (λc=>?_) (λc=>?_) (t _ (V.acts_mem m))
  .have:=Ks g.arr c;rw[r]at this;cases this
  .have⟨x,k⟩:=Qd g.ac c;rw[r]at k;cases k
 .rw[H i j];refine MF (g.sl i j) λb o=>?_;have⟨x,k⟩:=JS (g.sl i j) o;refine q b (F _ (by rw[k];simp)) (λc=>?_) (λc=>?_) (t _ (V.s_mem m j o))
  .have:=Ks g.arr c;rw[k]at this;cases this
  .have⟨B0,hy⟩:=Qd g.ac c;rw[k]at hy
   match i,j with|0,_|1,_|2,_|3,_=>simp[IU]at hy
 .rcases(({V with v3:=v3,rows:=rows}:MV).mem m b).1 o with e|e|⟨i,j,e⟩|e|e
  .exact .inl (by rw[e];exact V.m_mem m)
  .exact .inl (by rw[e];exact V.acts_mem m)
  .exact .inl (V.s_mem m j e)
  .exact(s b (.inl e)).imp_left λc=>c.elim (V.v3_mem m) (V.row_mem m)
  .exact(s b (.inr e)).imp_left λc=>c.elim (V.v3_mem m) (V.row_mem m)
def Y1{B:MV->Int->List y}{H:Bool}{N:u->Bool}{h:S}{m A:u}{V:MV}{p:Fc}{r:y}(j:Gf B H h m V a)(K:PB N V m)(O:V.v3=.ii A 0 (U V.rows))(ar:a.eq.ac[k]?=J p)(q:V.rows[k]?=J (B7 p r))(l:List (List C4))(i:y) (f:S) (W:f.get m=J (.box (B V a.work))) (T:f.get A=J (.arr 4 (V.rows.set k (B7 p i)))) (L:SY H 2 f 1 i (l.map Ct)) (M:AE i=AE r\/∀b∈AE i,N b=X/\∃l,b=1::l)(Y:∀b,AJ m b=Z->AJ A b=Z->(∀R∈AE r,AJ R b=Z)->N b=Z->f.get b=h.get b):Ns B H N m V h {a with eq:={a.eq with ac:=a.eq.ac.set k {p with queue:=l}}} f:=by
 have aa:AE V.v3=[A]:=by rw[O];rfl
 have Q:∀x,x∈AE r->x∈V.rows.flatMap Ab:=λx g=>BI.2 ⟨_,AP q,by rw[Cz];exact g⟩;have P:∀b,b≠m->b∉AE V.v3->b∉AE r->N b=Z->f.get b=h.get b:=λb v C D F=>Y b (AI λc=>v c.symm) (AI λc=>C (by rw[aa,<-c];simp)) (λR e=>AI λc=>D (by rw[<-c];exact e)) F;have av:(AE i).Nodup/\(AE i).length<=1:=by rcases ZI L with(⟨rfl,_⟩|⟨a0,x,rfl,_⟩)|⟨rfl,_⟩<;>simp[AE]
 have ag:(V.rows.set k (B7 p i)).length=U V.rows:=AG;refine Vo (v3:=V.v3) (rows:=V.rows.set k (B7 p i)) j K (W.trans (by rw[<-j.inv V (V.rows.set k (B7 p i)) a.work])) (.inr ⟨A,by rw[ag];exact O,T⟩) ⟨?_,λt az o=>?_⟩ ?_ (λb e=>?_) (λt o=>by match t,o with|0,_|1,_|2,_|3,_=>rfl) λb v C D F=>P b v C (λc=>D (Q b c)) F
 .simp[j.ac.len]
 .dsimp only at o;rw[F7]at o⊢;have ac:=l_ q;by_cases s:k=t
  .have ad:=l_ ar;rw[D3 s,D3 ad]at o;rw[D3 s,D3 ac];cases o;exact⟨i,rfl,L⟩
  .rw[Co s]at o⊢;have⟨w,hw,hs⟩:=j.ac.row t az o;refine⟨w,hw,MF hs λb e=>?_⟩;have ai:b∈V.rows.flatMap Ab:=BI.2 ⟨_,AP hw,by rw[Cz];exact e⟩;have⟨x,g⟩:=JS hs e;refine P b (λc=>?_) (λc=>?_) ?_ (K _ (V.row_mem m ai))
   .rw[c,j.box]at g;cases g
   .rw[Ks j.arr c]at g;cases g
   .have:=zp j.qd hw q (λc=>s c.symm) (x:=b) (by rw[Cz];exact e)
    rwa [Cz]at this
 .refine X5 j.qd q (by rw[Cz];exact av.1) λx g=>?_;rw[Cz]at g⊢;rcases M with c|c
  .exact .inl (by rw[<-c];exact g)
  .refine .inr λn=>?_;have:=K _ (V.row_mem m n);rw[(c x g).1]at this;cases this
 .rcases e with e|e
  .exact .inl (.inl e)
  .rcases fM q e with n|n
   .exact .inl (.inr n)
   .rw[Cz]at n;rcases M with c|c
    .rw[c]at n;exact .inl (.inr (Q b n))
    .exact .inr (c b n)
def AM8{b:S}{c:Nat}{e:y}{a:List (List Au)}(h:UF b c e a)(g:a≠ []):PF b c e a:=h.resolve_right λf=>g f.2
variable{a:c}
def ux{b:c->List Au}{e:S}{g:Nat}{i:y}(h:UF e g i (l.map b))(f:l[k]?=J a):PF e g i (l.map b):=AM8 h λj=>by rw[D6.1 j]at f;cases f
def cy{c:S}{f:Nat}{b:y}{a:List (List Au)}(h:UF c f b a):((b=.d8\/b=.emp)/\a=[])\/∃e g,b=.ii e 0 (U a)/\c.get e=J (.f9 f (a++g)):=by
 rcases h with(h|h)|h
 .exact .inl ⟨.inl h.1,h.2⟩
 .exact .inr h
 .exact .inl ⟨.inr h.1,h.2⟩
def My{e:c->List Au}{i:S}{m:Nat}{n:y}(h:PF i m n (l.map e))(j:l[k]?=J a):∃g b,n=.ii g 0 (U l)/\i.get g=J (.f9 m (l.map e++b))/\(l.map e++b)[k]?=J (e a)/\k<U l/\k<U l+U b:=by
 have f:=l_ j;rcases h with⟨_,h⟩|⟨g,b,rfl,h⟩
 .rw[D6.1 h]at f;simp at f
 .exact⟨g,b,by rw[BV],h,by rw[D8 zCt,BY,j];rfl,f,z⟩
theorem Bw{π:u}{b n':Nat}{a:u}(h:AD (b::π) a=X)(f:AD (n'::π) a=X):b=n':=by rw[under_iff]at h f;have:=List.suffix_of_suffix_length_le h f AG;have:=this.eq_of_length AG;simpa using this
structure B8(B:MV->Int->List y)(c:Bool)(π:u)(m:u)(V:MV)(h:S)(b:Nat)(V':MV)(st:C5)(g:S):Prop:=
 rep:Gf B c g m V' st
 ids:∀id∈V'.ids m,id∈V.ids m\/∃n,n<b/\AD (n::π) id=X/\∃l,id=1::l
 frame:∀id,id∉V.ids m->AD π id=Z->g.get id=h.get id
abbrev kA(a:Aa)(b:Al):=B8 (mo a b) X
section
variable{p:Aa}{a:Al}{B:MV->Int->List y}{c:Bool}{e:u}{m:u}{V f:MV}{h g H j:S}{b:Nat}{i:C5}
def GB{b':Nat}{c:u}(j:Di e V m)(g:c∈V.ids m\/∃a,a<b/\AD (a::e) c=X/\∃l,c=1::l)(f a:Nat)(o:b<=a):AJ (f::a::e) c=false:=by
 rcases g with g|⟨k,n,i,_⟩
 .exact AN (j c g) f a
 .refine AI λh=>?_;subst h;have:=Bw i (n':=a) (under_iff.2 ⟨[f],rfl⟩);omega
def JG{c:u}(j:Di e V m)(h:c∈V.ids m\/∃a,a<b/\AD (a::e) c=X/\∃l,c=1::l)(f a:Nat)(i:b<=a):AJ c (f::a::e)=false:=by have:=GB (b':=b) j h f a i;exact AI λg=>by rw[g,is_self]at this;cases this
def Q7(f:Gf B c h m V i)(l:Di e V m)(b:∀a,AD e a=Z->g.get a=h.get a):B8 B c e m V h 0 V i g:=⟨Yg f l b,λa k=>.inl k,λa _ j=>b a j⟩
def B8.up(a:B8 B c e m V h b f i g){b':Nat}(n:b<=b'):B8 B c e m V h b' f i g:=⟨a.rep,λk j=>(a.ids k j).imp_right λ⟨l,h1,h2⟩=>⟨l,z,h2⟩,a.frame⟩
def B8.loc(s:Di e V m)(l:B8 B c e m V h b f i g)(o:∀a,(∀k j,b<=j->AJ (k::j::e) a=Z)->H.get a=g.get a):B8 B c e m V h b f i H:=⟨Fi l.rep λa q=>o a λk j r=>GB (b':=b) s (l.ids a q) k j r,l.ids,λa p n=>by rw[o a λk j _=>AN n k j];exact l.frame a p n⟩
theorem B8.apart(q:Di e V m)(p:B8 B c e m V h b f i g){n:Nat}(s:b<=n):Di (n::e) f m:=λa o=>by
 rcases p.ids a o with l|⟨k,r,j,_⟩
 .exact AL (q a l) n
 .rcases hx:AD (n::e) a with _|_
  .rfl
  .have:=Bw j hx;omega
def B8.fin(c:kA p a e m V h b f i g):iB p a e m V h (J i) (.ret (.kw [])) g:=⟨rfl,f,c.rep,λk j=>(c.ids k j).imp_right λ⟨l,_,h2,h3⟩=>⟨Bq h2,h3⟩,c.frame⟩
def B8.callL(D:Di e V m)(s:B8 B c e m V h b f i H){o:Nat}{d9:C5}(A:b<=o)(C:Ns B c (AD (o::e)) m f H d9 j):∃q,B8 B c e m V h (o+1) q d9 (gc (o::e) j)/\∀g,g∉f.ids m->AD (o::e) g=Z->g∉q.ids m:=by
 obtain⟨q,v,r⟩:=C;have w:=s.apart D A;refine⟨q,⟨TZ v r w,λg x=>?_,λg p n=>?_⟩,λg p n t=>?_⟩
 .rcases r.ids g x with l|⟨p,n⟩
  .exact(s.ids g l).imp_right λ⟨k,a,c⟩=>⟨k,z,c⟩
  .exact .inr ⟨o,z,p,n⟩
 .rw[An _ _ _ (AL n o),r.frame g (λl=>?_) (AL n o)]
  .exact s.frame g p n
  .rcases s.ids g l with l|⟨k,_,t,_⟩
   .exact p l
   .rw[Bq t]at n;cases n
 .rcases r.ids g t with l|⟨l,_⟩
  .exact p l
  .rw[n]at l;cases l
def B8.call(r:Di e V m)(q:kA p a e m V h b f i H){c:Nat}{d9:C5}{o:BC}(l:b<=c)(n:iB p a (c::e) m f H (J d9) o j):∃k,kA p a e m V h (c+1) k d9 (gc (c::e) j)/\∀g,g∉f.ids m->AD (c::e) g=Z->g∉k.ids m:=q.callL r l n.2
def B8.of(A:Di e V m)(r:kA p a e m V h b f i H){g:Nat}{o:BC}(x:b<=g)(w:iB p a (g::e) m f H I o j):iB p a e m V h I o (gc (g::e) j):=by
 obtain⟨s,t⟩:=w;refine⟨s,λn q c=>?_⟩;rw[An _ _ _ (AL c g),t n (λl=>?_) (AL c g)]
 .exact r.frame n q c
 .rcases r.ids n l with l|⟨k,_,v,_⟩
  .exact q l
  .rw[Bq v]at c;cases c
def Ig(j:B8 B c e m V h b f i H)(n:Di e V m)(k:Nat):0::k::e∉f.ids m:=λa=>by
 rcases j.ids _ a with a|⟨_,_,_,l,g⟩
 .have:=n _ a;rw[show AD e (0::k::e)=X from under_iff.2 ⟨[0,k],rfl⟩]at this;cases this
 .cases g
theorem BK{k n:Nat}(e:u)(h:k≠n):AD (n::e) (0::k::e)=false:=by
 rcases hx:AD (n::e) (0::k::e)with _|_
 .rfl
 .have:=Bw hx (n':=k) (under_iff.2 ⟨[0],rfl⟩);omega
def B8.box(v:Di e V m)(t:kA p a e m V h b f i H){g k:Nat}{q:Option C5}{o:BC}(s:k≠g)(n:iB p a (g::e) m f H q o j):(gc (g::e) j).get (0::k::e)=H.get (0::k::e):=by
 have c:=BK e s;rw[An _ _ _ c];have l:=Ig t v k;rcases q with _|d9
 .exact n.2 _ l c
 .obtain⟨_,w,_,r⟩:=n;exact r.frame _ l c
end
structure WC(p:Aa)(sz:Al)(k:Nat)(st:C5):Prop:=
 wd:E0 p sz st.eq
 w0:0<=st.work
 w1:st.work<=400
 w2:401<=st.work+k
 ev:(U st.ev:Int)<=900000+st.work
def WC.post{c:Aa}{e:Al}{k:Nat}{f d9:C5}(b:WC c e k f)(a:KR c e f d9):WC c e k d9:=⟨a.wd,by have:=a.work;have:=b.w0;omega,a.top b.w1,by have:=a.work;have:=b.w2;omega,by have:=a.ev;have:=b.ev;omega⟩
end Go.Proofs
namespace Go.Abs
theorem V7(c:Nat)(b:List (List Au))(e:∀a∈b,U a=c):Fb c (b.map λa=>a.map .d)=true:=by induction b with|nil=>rfl|cons a b f=>grind [LB,y.isCell]
theorem UM(e:G)(f:u)(c:TI)(g:y)(a:List (List Au))(j:0<c.size)(i:∀b∈a,U b=c.size)(h:a≠ [])(k:U a<=BO):UK e f c g (J (a.map λb=>b.map .d))=appTo e f c g (a.map λb=>b.map .d):=by
 rcases a with _|⟨b,a⟩
 .exact absurd rfl h
 .grind [V7,aH,aG]
def Vp(f:G)(e:u)(b:TI)(c:List (List Au))(m:b.mix=Z)(h:0<b.size)(g:∀a∈c,U a=b.size)(i:U c<=BO):newArr f e b (c.map λa=>a.map .d)=J ⟨.ii (1::e) 0 (U c),[(1::e,.f9 b.size c)]⟩:=by
 have j:((c.map λa=>a.map y.d).all λa=>U a==b.size&&a.all y.isCell)=true:=by rw[ME];exact V7 _ _ g
 have k:Nat.blt 0 b.size=true:=by rw[RD];exact h
 have l:=Pm i;unfold newArr;exact BZ
theorem WV(f:G)(c:u)(b:TI)(a:List (List Au))(j:b.mix=Z)(h:0<b.size)(g:∀e∈a,U e=b.size)(k:a≠ [])(i:U a<=BO):UK f c b .emp (J (a.map λe=>e.map .d))=J ⟨.ii (1::c) 0 (U a),[(1::c,.f9 b.size a)]⟩:=by rw[UM f c b .emp a h g k i];exact Vp f c b a j h g i
end Go.Abs
namespace Go.Abs
end Go.Abs
namespace Go.Proofs
open Abs Tryz
def ij(e:Al)(c:Nat)(g:c=U e)(m:0<c)(n:c<=1000000):∀(f:G) (b:u) (a:TI),a.mix=Z->a.size=1->UK f b a .emp (J ((e.map AX).map λj=>j.map y.d))=J ⟨.ii (1::b) 0 c,[(1::b,.f9 1 (e.map AX))]⟩:=λf b a l i=>by
 have:=WV f b a (e.map AX) l z (λh k=>by obtain⟨j,_,rfl⟩:=Ex.1 k;rw[i];rfl) (λh=>by rw[D6.1 h]at g;simp at g;omega) zCq
 rw[this,BV,g,i]
def dG(a:Al)(f:List (List Au))(e:Nat)(c:e=U a):WA e ((a.map AX++f).map λb=>b.map y.d)=(a.map AX).map λb=>b.map y.d:=by rw[Ap,IS (by simp[c]),Bi (by simp[c])]
variable{a:S}{b:Nat}
def OJ{e:y}{c:List (List Au)}(g:PF a b e c)(f:G):JY f .slice e=J (U c):=by rcases g with⟨rfl,rfl⟩|⟨h,i,rfl,_⟩<;>rfl
def AJu{g:y}{e:List (List Au)}(c:UF a b g e)(f:G):JY f .slice g=J (U e):=by
 rcases c with c|⟨rfl,rfl⟩
 .exact OJ c f
 .rfl
def TM{c:y}{b:List (List y)}(f:CH a c b)(e:G):JY e .slice c=J (U b):=by rcases f with⟨rfl,rfl⟩|⟨g,rfl,_⟩<;>rfl
end Go.Proofs
namespace Go.Proofs
open Abs Tryz
def qQ(j:Nat)(f:u)(g:S)(e:y)(L:List (List Au))(i:BC)(c:S):Prop:=∃b,i=.ret b/\PF c j b L/\(∀a∈AE b,a∈AE e\/(AD f a=X/\∃h,a=1::h))/\∀a,a∉AE e->AD f a=Z->c.get a=g.get a
structure Gg(sz:Nat)(π:u)(h:S)(v:y)(b:Nat)(g:S)(w:y)(L:List (List Au)):Prop:=
 slv:PF g sz w L
 ids:∀id∈AE w,id∈AE v\/∃n,n<b/\AD (n::π) id=X/\∃l,id=1::l
 frame:∀id,id∉AE v->AD π id=Z->g.get id=h.get id
section
variable{c:Nat}{a:u}{h g H e:S}{v w:y}{b k:Nat}{L f:List (List Au)}{o:BC}
def Gg.not(n:∀e∈AE v,AD a e=Z)(l:Gg c a h v b g w L){e:u}(m:e∈AE w)(i f:Nat)(p:b<=f):AJ (i::f::a) e=false:=by
 rcases l.ids e m with h|⟨q,o,k,_⟩
 .exact AN (n e h) i f
 .refine AI λj=>?_;subst j;have:=Bw k (n':=f) (under_iff.2 ⟨[i],rfl⟩);omega
theorem Gg.apart(l:∀e∈AE v,AD a e=Z)(i:Gg c a h v b g w L){e:u}(j:e∈AE w)(n:b<=k):AD (k::a) e=false:=by
 rcases i.ids e j with h|⟨o,m,f,_⟩
 .exact AL (l e h) k
 .rcases hx:AD (k::a) e with _|_
  .rfl
  .have:=Bw f hx;omega
def Gg.loc(p:∀e∈AE v,AD a e=Z)(j:Gg c a h v b g w L)(l:∀e,(∀i f,b<=f->AJ (i::f::a) e=Z)->H.get e=g.get e):Gg c a h v b H w L:=⟨Ng j.slv λe n=>l e λi f o=>j.not p n i f o,j.ids,λe m k=>by rw[l e λi f _=>AN k i f];exact j.frame e m k⟩
def Gg.up(e:Gg c a h v b g w L){b':Nat}(k:b<=b'):Gg c a h v b' g w L:=⟨e.slv,λi f=>(e.ids i f).imp_right λ⟨j,h1,h2⟩=>⟨j,z,h2⟩,e.frame⟩
def Gg.call(K:∀g∈AE v,AD a g=Z)(m:Gg c a h v b H w L)(D:b<=k)(F:qQ c (k::a) H w f o e):∃l,o=.ret l/\Gg c a h v (k+1) (gc (k::a) e) l f:=by
 obtain⟨l,x,A,s,B⟩:=F;have p:∀g∈AE l,(gc (k::a) e).get g=e.get g:=λg n=>by
  rcases s g n with j|⟨_,M,rfl⟩
  .exact An _ _ _ (m.apart K j D)
  .exact E1 _ _ _
 refine⟨l,x,Ng A p,λg n=>?_,λg r i=>?_⟩
 .rcases s g n with j|j
  .exact(m.ids g j).imp_right λ⟨t,q1,q⟩=>⟨t,z,q⟩
  .exact .inr ⟨k,z,j⟩
 .rw[An _ _ _ (AL i k),B g (λp=>?_) (AL i k)]
  .exact m.frame g r i
  .rcases m.ids g p with C|⟨t,_,q,_⟩
   .exact r C
   .rw[Bq q]at i;cases i
def Gg.fin(e:Gg c a h v b g w L):qQ c a h v L (.ret w) g:=⟨w,rfl,e.slv,λi f=>(e.ids i f).imp_right λ⟨j,_,q2,q3⟩=>⟨Bq q2,q3⟩,e.frame⟩
end
def U3:∀{l:u},(∀b∈l,b<=12)->(Dq l).length<=12 ^ (U l)
 |[],_=>by simp[Dq]|b::l,h=>by
  have c:=U3 (l:=l) λb f=>h b (By _ f);have e:=h b AG;have key:∀a,((WO a).flatMap λ(g:Nat)=>(Dq l).map λj=>(g:Int)::j).length=a*(Dq l).length:=λa=>by induction a with|zero=>simp|succ a i=>rw[Rw,KW,D1,i];simp[Ls]
  rw[Dq,key,II,Nat.pow_succ,Pl];exact Nat.mul_le_mul c e
def oH(o p:Int)(many:u)(b5:0<U many)(b4:U many<=3)(a0:∀e∈many,e<=12):∀(v:Nat) (m:S) (h:u) (q P:y) (k:List Dk) (b:Al),U k+12 ^ v<=100000000->PF m 4 q (k.map G6)->PF m 1 P (b.map AX)->(U b=0->P=.d8)->(∀f,f∈AE q\/f∈AE P->AD h f=Z)->(U b)+v=U many->
 ∃bn be,kT (.fn 73) [q,nI o,nI p,.d (.co ((many.map λ(e:Nat)=>(e:Int)).map AX)),P] m h X I=.ok (bn,be)/\qQ 4 h m q ((k++(Dq (many.drop (U b))).map λn=>(⟨-1,o,p,b++n⟩:Dk)).map G6) bn be
 |0,m,h,q,P,k,b,bh,D,a1,bk,C,Y=>by
  have bx:many.drop (U b)=[]:=D7 z;rw[bx];simp only[Dq,Bv,Ce,CS];rcases a1 with⟨rfl,ac⟩|⟨O,a5,rfl,gt⟩
  .rw[D6.1 ac]at Y;simp at Y;omega
  have ut:=C O (.inr Ay);have b0:=AN ut;have b1:=Aw ut;rw[BV];have a4:U b=U many:=z;have bo:0<U b:=z;have ap:=ij b (U many) z z z;have ch:=dG b a5 (U many) z;have c0:WA (U many) (b.map AX)=b.map AX:=Bi BL;rcases D with⟨rfl,a2⟩|⟨a6,a',rfl,cu⟩
  .have b9:=D6.1 a2;subst b9;refine Ba func73 ?_;refine aw ?_;refine⟨_,rfl,BM [] rfl ?_,λf c=>.inr ?_,λf H r=>?_⟩
   .simp only[go_sem]
   .simp only[AE,AS]at c;subst c;exact⟨Ao [1,14],_,rfl⟩
   .have R:=AN r;simp only[go_sem,R,AM]
  .have bs:=C a6 (.inl Ay);have cp:=AN bs;have cq:=Aw bs;rw[BV];rcases a' with _|⟨bv,a'⟩
   .refine Ba func73 ?_;refine ax ?_;refine⟨_,rfl,BM [] AG ?_,λf c=>.inr ?_,λf H r=>?_⟩
    .simp only[go_sem,Ap,Ce,AM]
    .simp only[AE,AS]at c;subst c;exact⟨Ao [1,14],_,rfl⟩
    .exact zBx
   .refine Ba func73 ?_;refine ax ?_;refine⟨_,rfl,BM a' AG ?_,λ_ m=>.inl m,λf H r=>?_⟩
    .simp only[go_sem,Ap,Ce,AM]
    .exact zBx
 |v+1,m,h,q,P,k,b,bh,D,a1,bk,C,Y=>by
  have bc:=oH o p many b5 b4 a0 v;obtain⟨e,M⟩:=g_ (l:=many) (i:=U b) z;have cv:=a0 e (AP M);have W:=Aq M;obtain⟨j,K⟩:∃j:Nat->List Dk,j=λa=>(WO a).flatMap λ(g:Nat)=>(Dq (many.drop (U b+1))).map λn=>(⟨-1,o,p,b++[(g:Int)]++n⟩:Dk):=⟨_,rfl⟩;have ai:j 0=[]:=by rw[K];rfl
  have L:∀a,j (a+1)=j a++(Dq (many.drop (U b+1))).map λn=>(⟨-1,o,p,b++[(a:Int)]++n⟩:Dk):=λa=>by rw[K];simp[Rw]
  have ar:((Dq (many.drop (U b))).map λn=>(⟨-1,o,p,b++n⟩:Dk))=j e:=by rw[W,Dq,K,List.map_flatMap];simp[QR,Function.comp_def]
  have bi:∀a,a<=e->(j a).length<=a*12 ^ v:=λa=>by induction a with|zero=>simp[ai]|succ a b'=>intro m;have H:=b' z;have r:=U3 (l:=many.drop (U b+1)) λe M=>a0 e (RX M);rw[L,D1,BV,Ls,Nat.one_mul];rw[show(many.drop (U b+1)).length=v by rw[I8];omega]at r;omega
  rw[ar];have b6:(many.map λ(e:Nat)=>(e:Int))[U b]?=J (e:Int):=by rw[BY,M];rfl
  have a4:¬(U b:Int)=U many:=z;have cl:U b<U many:=z;have aa:∀a,a<e->(k++j a).length+12 ^ v<=100000000:=λa x=>by have H:=bi a z;have r:(a+1)*12 ^ v<=12*12 ^ v:=HM _ z;rw[Ls,Nat.one_mul]at r;rw[Nat.pow_succ,Pl]at bh;rw[D1];omega
  clear bi;replace aa:=AB aa;replace W:=AB W;replace ar:=AB ar;replace K:=AB K;replace L:=AB L;replace C:=AB C;replace D:=AB D;have N:∀f∈AE q,AD h f=false:=λf c=>C.1 f (.inl c);rcases a1 with⟨rfl,ac⟩|⟨O,a5,rfl,gt⟩
  .have a2:=D6.1 ac;subst a2;clear ac;simp only[MD,I9]at Y M b6 W L K;clear a4 cl;have a4:¬(0:Int)=U many:=z;refine Ba func73 ?_;refine aw ?_;refine CR (WO e) (e:Int) (B2:=λ_ a (i:(y×S)×Nat)=>⟨[(0,i.1.1),(1,nI o),(2,nI p),(3,.d (.co ((many.map λ(e:Nat)=>(e:Int)).map AX))),(4,.d8),(11,nI a)],i.1.2,i.2+7,[]⟩)
    (Inv:=λa cd i=>AR (Gg 4 h m q (i.2+7) i.1.2 i.1.1 ((k++j a).map G6))) (b0:=((_,_),0)) AG ⟨?_⟩ ?_ ?_
   .simp only[ai,CS];exact⟨D.1,λf c=>.inl c,λ_ _ _=>rfl⟩
   .rintro a bv ⟨⟨T,A⟩,g⟩ b8 x av s ad;dsimp only at*;have B:a<e:=by simpa using x
    refine aw ?_;have az:∀f,(∀i e,g+7<=e->AJ (i::e::h) f=Z)->((A.put (1::(g+22)::h) (.f9 1 [[.int .i64 a]])).put (1::(g+23)::h) (.f9 1 [[.int .i64 a]])).get f=A.get f:=λf c=>by rw[p_,p_,c _ _ z,c _ _ z];rfl
    have w:=s.1.loc N az;refine Ak (bc _ ((g+24)::h) T (.ii (1::(g+23)::h) 0 1) (k++j a) [(a:Int)] (aa.1 a B) w.slv (BM [] rfl ?_) AG (λf c=>?_) BL) (λcc b2 Q=>?_)
    .simp only[go_sem]
    .exact zB1
    obtain⟨V,rfl,t⟩:=w.call N z Q;have b3:∀F,S7 F V=F:=λF=>by rcases t.slv with⟨l,_⟩|⟨_,_,l,_⟩<;>rw[l]<;>rfl
    clear Q;replace t:=AB t;refine aw ?_;refine ad.1 ((V,_),g+22) ⟨?_⟩;have ag:=t.1.up (b':=g+22+7) z
    rwa [show(k++j a++(Dq (many.drop [(a:Int)].length)).map λn=>(⟨-1,o,p,[(a:Int)]++n⟩:Dk))=k++j (a+1) by rw[L.1,<-F1];rfl]at ag
   .rintro a ⟨⟨T,A⟩,g⟩ x av s;dsimp only at*;have B:a=e:=by have:=x.1;simpa using this
    subst B;refine aw ?_;exact s.1.fin
  .rw[BV];have ut:=C.1 O (.inr Ay);have b0:=AN ut;have b1:=Aw ut;have bo:0<U b:=Nat.pos_of_ne_zero λl=>by cases bk l
   have cx:U b<=3:=z;have ap:=ij b (U b) rfl bo z;have ch:=dG b a5 (U b) rfl;have b7:O∉AE q:=λl=>by obtain⟨c1,bl⟩:=Oi D.1 l;rw[gt]at bl;cases bl
   refine Ba func73 ?_;refine aw ?_;refine CR (WO e) (e:Int) (B2:=λ_ a (i:(y×S)×Nat)=>⟨[(0,i.1.1),(1,nI o),(2,nI p),(3,.d (.co ((many.map λ(e:Nat)=>(e:Int)).map AX))),(4,.ii O 0 (U b)),(11,nI a)],i.1.2,i.2+7,[]⟩)
    (Inv:=λa cd i=>AR (Gg 4 h m q (i.2+7) i.1.2 i.1.1 ((k++j a).map G6))) (b0:=((_,_),0)) AG ⟨?_⟩ ?_ ?_
   .simp only[ai,CS];exact⟨D.1,λf c=>.inl c,λ_ _ _=>rfl⟩
   .rintro a bv ⟨⟨T,A⟩,g⟩ b8 x av s ad;dsimp only at*;have B:a<e:=by simpa using x
    have cs:=(s.1.frame O b7 ut).trans gt;have az:∀f,(∀i e,g+7<=e->AJ (i::e::h) f=Z)->((((A.put (1::(g+20)::h) (.f9 1 (b.map AX))).put (1::(g+22)::h) (.f9 1 [[.int .i64 a]])).put (1::(g+20)::h) (.rt 0 [])).put (1::(g+23)::h) (.f9 1 (b.map AX++[[.int .i64 a]]))).get f=A.get f:=λf c=>by rw[p_,p_,p_,p_,c _ _ z,c _ _ z,c _ _ z];rfl
    have w:=s.1.loc N az;replace s:=AB w;have cm:¬g+2=g:=z;have cn:¬g+3=g:=z;refine ax ?_;refine Ak (bc _ ((g+24)::h) T (.ii (1::(g+23)::h) 0 (U b+1)) (k++j a) (b++[(a:Int)]) (aa.1 a B) w.slv (BM [] AG ?_) AG (λf c=>?_) BL) (λcc b2 Q=>?_)
    .simp only[go_sem,Ap]
    .exact zB1
    obtain⟨V,rfl,t⟩:=w.call N z Q;have b3:∀F,S7 F V=F:=λF=>by rcases t.slv with⟨l,_⟩|⟨_,_,l,_⟩<;>rw[l]<;>rfl
    clear Q;replace t:=AB t;refine aw ?_;refine ad.1 ((V,_),g+22) ⟨?_⟩;have ag:=t.1.up (b':=g+22+7) z
    rwa [show(k++j a++(Dq (many.drop (b++[(a:Int)]).length)).map λn=>(⟨-1,o,p,b++[(a:Int)]++n⟩:Dk))=k++j (a+1) by rw[L.1,<-F1,D1];rfl]at ag
   .rintro a ⟨⟨T,A⟩,g⟩ x av s;dsimp only at*;have B:a=e:=by have:=x.1;simpa using this
    subst B;refine aw ?_;exact s.1.fin
theorem ADf(a:Nat)(b:CN)(c:S)(f:Nat)(e:u)(ci:Option u)(h:Bool)(g:Nat):Ff cfg ⟨34,e,Z,ci,h,g⟩ a ⟨b,c,f,[]⟩=Ij cfg 34 e a b c:=zC8
attribute [go_sem 2000] ADf
structure hF(p:Aa)(s:BP)(A B:u)(v:y)(g:S)(b:Nat)(L:List Dk):Prop:=
 pa:g.get A=J (.box (pC p))
 sb:g.get B=J (.box (sC s))
 slv:PF g 4 v (L.map G6)
 na:HP [] b A
 nb:HP [] b B
 nv:∀id∈AE v,HP [] b id
variable{a:u}{b:Nat}
theorem nR{A:u}(e:HP a b A)(f c:Nat)(h:b<=c):AJ (f::c::a) A=false:=by obtain⟨j,i,g,rfl⟩:=e;grind [AI]
theorem Yk{A:u}(e:HP a b A)(f c:Nat)(h:b<=c):AJ A (f::c::a)=false:=by obtain⟨j,i,g,rfl⟩:=e;grind [AI]
theorem AAV(a:List (Nat×Au)):CV (a.map λb=>(b.1,y.d b.2))=[]:=by induction a with|nil=>rfl|cons e a c=>grind [CV,AE]
variable{H:S}
theorem GG{K:Af}{r:Fr}{k:Nat}{e:Code}{Q:DZ->St->Prop}{E:CN}{j:Aa}{F:BP}{A B:u}{f:y}{L:List Dk}(o:List (Nat×Au))(P:Lq E (cfg.live 34 k)=(2,.ptr A 0)::(3,.ptr B 0)::(5,f)::o.map λa=>(a.1,y.d a.2)) (w:H.get A=J (.box (pC j))) (x:H.get B=J (.box (sC F))) (C:PF H 4 f (L.map G6))(T:∀p q M s b,hF j F p q M s b L->WH cfg K r k e ⟨(2,.ptr p 0)::(3,.ptr q 0)::(5,M)::o.map λa=>(a.1,y.d a.2),s,b,[]⟩ Q):WH cfg K r k e (Ij cfg 34 [] k E H) Q:=by
 rw[GL,P];have aa:(AE f).length<=1:=by rcases C with⟨rfl,_⟩|⟨i,e,rfl,_⟩<;>simp[AE]
 have⟨ν,h',n,hc,hnM,hR⟩:=J6 [] H ((2,.ptr A 0)::(3,.ptr B 0)::(5,f)::o.map λa=>(a.1,y.d a.2)) (A::B::AE f) zCN (by
  grind [AAV,CV,AE]) (by
  intro a h g c;rcases Cs.1 h with rfl|h
  .rw[w]at c;simp[Cl,Ab,AE]at c
  rcases Cs.1 h with rfl|h
  .rw[x]at c;simp[Cl,Ab,AE]at c
  grind [Oi,Cl])
 have⟨g,c⟩:=hR.env A zCf;have⟨z2,hz2⟩:=hR.env B zCf;have t:=hR.get A g _ c w;have v:=hR.get B z2 _ hz2 x;simp[EO,Dn,ren]at t v;have D:∀e g,ν e=J g->HP [] n g:=λe g O=>by obtain⟨W,R,rfl⟩:=hR.name e g O;exact⟨_,W,R,rfl⟩
 have V:∀m:List (Nat×Au),(m.map λa=>(a.1,y.d a.2)).map (λj=>(j.1,ren ν j.2))=m.map λa=>(a.1,y.d a.2):=λm=>by simp[ren]
 rw[hc,Bv,Bv,Bv,V];have key:PF h' 4 (ren ν f) (L.map G6)/\∀i∈AE (ren ν f),HP [] n i:=by
  rcases C with⟨rfl,c⟩|⟨i,e,rfl,l⟩
  .exact⟨.inl ⟨by simp[ren],c⟩,by simp[ren,AE]⟩
  .have⟨a,h⟩:=hR.env i zCf;have l:=hR.get i a _ h l;have N:ren ν (.ii i 0 (L.map G6).length)=.ii a 0 (L.map G6).length:=by simp[ren,h]
   rw[N];exact⟨.inr ⟨a,e,rfl,by simpa[EO]using l⟩,λi Y=>by grind [AE]⟩
 have:=T g z2 (ren ν f) h' n ⟨t,v,key.1,D _ _ c,D _ _ hz2,key.2⟩;simpa[ren,c,hz2]using this
theorem Yl{c:Nat}{A:u}(e:HP a b A)(g:b<=c):AD (c::a) A=false:=by obtain⟨i,h,f,rfl⟩:=e;grind [Fm]
theorem s6{l:Aa}{m:Al}{c:BP}{a:Az}{d:Bc}{b:C6}(f:ACw l m c a d b):(LQ c d a b=[]/\Jr c d a b=[])\/∃many:u,LQ c d a b=many.map (λ(e:Nat)=>(e:Int))/\Jr c d a b=Dq many/\0<U many/\(U many)<=3/\∀e∈many,e<=12:=by
 unfold LQ Jr R8;by_cases g:A8 c.be (a.place d b.at_)=X
 .grind
 rw[Co g,Co g];by_cases k:0∈Cw c d a b
 .grind [oG]
 .refine .inr ⟨_,by rw[Co k],rfl,by simpa[Cw]using f.j0,by simpa[Cw]using f.j1,λe j=>?_⟩;obtain⟨h,i,rfl⟩:=Ex.1 j;have⟨_,_,_,q,_,h1,h2⟩:=f.join h i;rw[h2];exact h1
theorem ACS(p:Aa)(s:BP):∀(l:List IK) (i:Nat),(GN p s i l).length<=(U l)
 :=by intro x;induction x<;>grind [GN]
theorem qZ{k:Aa}{bv:Al}{j:BP}(w:Ar k bv)(v:E0 k bv j):Bk kT 34 [pA k,sA j] []=.ok (.ret (.d (.co ((Ee k j).map G6))),[]):=by
 have bl:=v.small;simp[BP.small]at bl;obtain⟨c6,c7,c8,c9⟩:=bl;have a4:=AR.mk (ACS k j j.waits 0);have⟨W,hW⟩:=Cv (GN k j 0 j.waits);have b5:AR (Ee k j=W++JC k j 0 j.bv):=⟨by rw[Ee,hW]⟩;rw[<-hW]at a4;replace v:=AB v;replace w:=AB w;refine BH func34 ?_;refine aw ?_;refine GG [(6,.int .i64 0)] rfl (by simp only[go_sem];rfl) (by simp only[go_sem];rfl) (L:=[]) (.inl ⟨rfl,rfl⟩) λA B f g b a=>?_;refine Ah j.waits (B2:=λe (c:u×u×y×S×Nat)=>⟨[(2,.ptr c.1 0),(3,.ptr c.2.1 0),(5,c.2.2.1),(6,nI e)],c.2.2.2.1,c.2.2.2.2,[]⟩)
  (Inv:=λe Q c=>AR (∃L,hF k j c.1 c.2.1 c.2.2.1 c.2.2.2.1 c.2.2.2.2 L/\L++GN k j e Q=W)) (b0:=(A,B,f,g,b)) ⟨_,a,by rw[hW];rfl⟩ ?_ ?_
 .clear a A B f g b;rintro e b0 ⟨A,B,f,g,b⟩ N az a0 a ag;have⟨L,a,i⟩:=a.1;dsimp only at*;have⟨F,a3⟩:=Ou w.1 (v.1.wait b0 (AP N));have cv:=AEw w.1 v.1 a3;have p:=a.pa;have n:=a.sb;have b8:=nR a.na;have b9:=Yk a.na;have b':=nR a.nb;have cc:=Yk a.nb;have x:U L<=100:=by have:=a4.1;rw[<-i,D1]at this;omega
  rw[GN]at i;replace i:=AB i;replace a3:=AB a3;have C:AR (∀ac ad R g' ai T,T=L++(if ws k j b0=X then [⟨e,0,0,[]⟩]else [])->hF k j ac ad R g' ai T->_):=⟨λac ad R g' ai T b2 b1=>ag.1 (ac,ad,R,g',ai) ⟨T,b1,by rw[<-i.1,b2,F1]⟩⟩;rcases a.slv with⟨rfl,V⟩|⟨o,H,rfl,K⟩
  .have b6:=D6.1 V;subst b6;replace a:=AB a
   (repeat' (first|simp only[*,go_sem]|(refine sx ?_ ?_<;>intro av)|refine sy z λF s a1=>?_|simp(disch:=first|assumption|omega) only[Ae]))
   .refine GG [(6,.int .i64 (e+1))] rfl zCr zCr (L:=[⟨e,0,0,[]⟩]) (BM [] rfl zCe) λA B f g b m=>C.1 A B f g b _ zCg m
   .exact GG [(6,.int .i64 (e+1))] rfl p n (L:=[]) (.inl ⟨rfl,rfl⟩) λA B f g b m=>C.1 A B f g b _ zCg m
  .have bo:=nR (a.nv o Ay);have c4:=Yk (a.nv o Ay);have cn:AJ A o=false:=AI λq=>by grind
   have c0:AJ o A=false:=RY K p;have cp:AJ B o=false:=AI λq=>by grind
   have c1:AJ o B=false:=RY K n;rw[BV];replace a:=AB a;rcases H with _|⟨cm,H⟩
   ·(repeat' (first|simp only[*,go_sem,AM]|(refine sx ?_ ?_<;>intro av)|refine sy z λF s a1=>?_|simp(disch:=first|assumption|omega) only[Ae]))
    .refine GG [(6,.int .i64 (e+1))] rfl zCr zCr (L:=L++[⟨e,0,0,[]⟩]) (BM [] AG (by simp only[go_sem,bo,Ap,AM];done)) λA B f g b m=>C.1 A B f g b _ zCg m
    .exact GG [(6,.int .i64 (e+1))] rfl p n (L:=L) (BM [] AG K) λA B f g b m=>C.1 A B f g b _ zCg m
   ·(repeat' (first|simp only[*,go_sem,AM]|(refine sx ?_ ?_<;>intro av)|refine sy z λF s a1=>?_|simp(disch:=first|assumption|omega) only[Ae]))
    .refine GG [(6,.int .i64 (e+1))] rfl zCr zCr (L:=L++[⟨e,0,0,[]⟩]) (BM H AG (by simp only[go_sem,bo,Ap,AM];done)) λA B f g b m=>C.1 A B f g b _ zCg m
    .exact GG [(6,.int .i64 (e+1))] rfl p n (L:=L) (BM (cm::H) AG K) λA B f g b m=>C.1 A B f g b _ zCg m
 .rintro e ⟨A,B,f,g,b⟩ az a0 a;have⟨L,h,i⟩:=a.1;clear a;dsimp only at*;rw[GN,CS]at i;subst i;clear hW;have p:=h.pa;have n:=h.sb;have l:=h.slv;clear h;replace l:=AB l;refine aw (GG [(7,.int .i64 0)] rfl p n (L:=L) l.1 λA B f g b a=>?_);clear p n l;refine Ah j.bv (B2:=λe (c:u×u×y×S×Nat)=>⟨[(2,.ptr c.1 0),(3,.ptr c.2.1 0),(5,c.2.2.1),(7,nI e)],c.2.2.2.1,c.2.2.2.2,[]⟩)
   (Inv:=λe Q c=>AR (∃L,hF k j c.1 c.2.1 c.2.2.1 c.2.2.2.1 c.2.2.2.2 L/\L++JC k j e Q=Ee k j/\(U L)<=40+e*60000)) (b0:=(A,B,f,g,b)) ⟨_,a,b5.1.symm,by have:=a4.1;omega⟩ ?_ ?_
  .clear a A B f g b;rintro e be ⟨A,B,f,g,b⟩ N az a0 a ag;have⟨L,h,i,x⟩:=a.1;clear a;dsimp only at*;have⟨d,D⟩:=v.1.grp e be N;have⟨g0,hdd⟩:=Cf D.ip;have cs:=l_ hdd;have cu:=(Bd w.1 hdd).ok.rules;have p:=h.pa;have n:=h.sb;have l:=h.slv;clear h;replace l:=AB l;rw[JC,D.ip]at i;dsimp only at i;replace i:=AB i;replace D:=AB D;refine aw (GG [(7,.int .i64 e),(8,.int .i64 0)] rfl p n (L:=L) l.1 λA B f g b a=>?_);clear p n l;refine Ah d.rules (B2:=λt (c:u×u×y×S×Nat)=>⟨[(2,.ptr c.1 0),(3,.ptr c.2.1 0),(5,c.2.2.1),(7,nI e),(8,nI t)],c.2.2.2.1,c.2.2.2.2,[]⟩)
    (Inv:=λt Q c=>AR (∃L,hF k j c.1 c.2.1 c.2.2.1 c.2.2.2.1 c.2.2.2.2 L/\L++(IG j d be e t Q++JC k j (e+1) (j.bv.drop (e+1)))=Ee k j/\(U L)<=40+e*60000+t*2000)) (b0:=(A,B,f,g,b)) ⟨_,a,i.1,z⟩ ?_ ?_
   .clear a i x A B f g b;rintro t aa ⟨A,B,f,g,b⟩ bk bh b4 a bc;have⟨L,h,i,x⟩:=a.1;clear a;dsimp only at*;have bi:=ABd w.1 v.1 N D.1 bk;have p:=h.pa;have n:=h.sb;have b8:=nR h.na;have b9:=Yk h.na;have b':=nR h.nb;have cc:=Yk h.nb;have M:=Mh w.1 v.1 N D.1 (AP bk);rw[IG]at i;have l:=AB h.slv;have bn:AR (∀o∈AE f,AD [b+27] o=Z):=⟨λo r=>Yl (h.nv o r) z⟩;have uA:AD [b+27] A=false:=Yl h.na z;have bx:AD [b+27] B=false:=Yl h.nb z;replace i:=AB i;replace h:=AB h;have cx:(e:Int)<1000000:=z;rcases s6 M with⟨O,P⟩|⟨many,O,P,b7,a5,Y⟩
    .rw[O]at bi;rw[P]at i;replace M:=AB M;clear O P;refine aw (GG [(7,.int .i64 e),(8,.int .i64 (t+1))] rfl p n (L:=L) l.1 λA B f g b m=>bc.1 (A,B,f,g,b) ⟨L,m,i.1,z⟩)
    .rw[O]at bi;have c3:(0:Int)<U many:=z;rw[P]at i;replace M:=AB M;replace Y:=AB Y;clear O P;refine aw (Ak (oH e t many b7 a5 Y.1 (U many) g [b+27] f .d8 L [] ?_ l.1 (.inl ⟨rfl,rfl⟩) (λ_=>rfl) (λo r=>?_) AG) (λc5 ar cd=>?_))
     .have:12 ^ (U many)<=12 ^ 3:=Nat.pow_le_pow_right z a5;omega
     .rcases r with r|r
      .exact bn.1 o r
      .simp[AE]at r
     obtain⟨R,rfl,a6,bs,a'⟩:=cd;have b3:∀aa,S7 aa R=aa:=λaa=>by rcases a6 with⟨q,_⟩|⟨_,_,q,_⟩<;>rw[q]<;>rfl
     rw[Gu,b3];have ch:(gc [b+27] ar).get A=_:=(An _ _ _ uA).trans ((a' A (λq=>by obtain⟨F,s⟩:=Oi l.1 q;rw[p]at s;cases s) uA).trans p);have cl:(gc [b+27] ar).get B=_:=(An _ _ _ bx).trans ((a' B (λq=>by obtain⟨F,s⟩:=Oi l.1 q;rw[n]at s;cases s) bx).trans n);have a2:=Ng a6 (g':=gc [b+27] ar) λo r=>by
      rcases bs o r with q|⟨_,c2,rfl⟩
      .exact An _ _ _ (bn.1 o q)
      .exact E1 _ _ _
     replace a2:=AB a2;clear a6 bs a';refine aw (GG [(7,.int .i64 e),(8,.int .i64 (t+1))] rfl ch cl a2.1 λA B f g b m=>bc.1 (A,B,f,g,b) ⟨_,m,?_,?_⟩)
     .rw[<-i.1];simp
     .have cq:=U3 Y.1;have:12 ^ (U many)<=12 ^ 3:=Nat.pow_le_pow_right z a5;grind
   .rintro t ⟨A,B,f,g,b⟩ bh b4 a;have⟨L,h,i,x⟩:=a.1;clear a;dsimp only at*;have p:=h.pa;have n:=h.sb;have l:=h.slv;clear h;replace l:=AB l;refine aw ?_;refine GG [(7,.int .i64 (e+1))] rfl p n (L:=L) l.1 λA B f g b m=>ag.1 (A,B,f,g,b) ⟨L,m,by simpa[IG]using i,by have:=bh.1;omega⟩
  .rintro e ⟨A,B,f,g,b⟩ az a0 a;have⟨L,h,i,x⟩:=a.1;clear a;dsimp only at*;rw[JC,CS]at i;subst i;have n:=h.sb;rcases h.slv with⟨rfl,V⟩|⟨o,H,rfl,K⟩
   .rw[V];clear V h x;exact au
   .rw[BV];have c':WA (Ee k j).length ((Ee k j).map G6++H)=(Ee k j).map G6:=Tu _ _ _;clear h x
    (repeat' (first|simp only[*,go_sem,D4]|(refine sx ?_ ?_<;>intro av)|refine sy z λF s a1=>?_|simp(disch:=first|assumption|omega) only[Ae]))
def APR(a:Abs.Obj):Prop:=Cl (J a)=[]/\∀b,EO b a=a
theorem ot(c:u->Option u):∀a:List Au,Dn c (a.map .d)=a.map .d
 :=by intro b;induction b<;>grind [Dn,ren]
def YJ:∀a:List Au,Ab (a.map .d)=[]
 |[]=>rfl|c::a=>by rw[Bv,Ab,YJ a];rfl
def wK(a:List Au):APR (.box (a.map .d)):=⟨by simp[Cl,YJ],λb=>by simp[EO,ot]⟩
variable{c:Type}
theorem wk{P:c->Prop}{a:c}(h:P a):∀B0∈ [a],P B0:=zCN
def Ht(p:Aa)(n:Int):Al:=match p.nodes[n.toNat]? with|some x=>if x.op=4 then(match p.defs[x.n.toNat]? with|some d=>d.rules.map C6.node++(d.be.map Dy.node++x.kids)|none=>[])else x.kids|none=>[]
def O9(p:Aa)(n:Int):Al:=match p.nodes[n.toNat]? with|some x=>if x.op=4 then(match p.defs[x.n.toNat]? with|some d=>x.kids++(d.be.map Dy.node++d.rules.map C6.node)|none=>[])else x.kids|none=>[]
theorem pk(p:Aa)(n:Int):(O9 p n).Perm (Ht p n):=by unfold O9 Ht;grind
def E7(p:Aa):Nat->Int->Al
 |0,_=>[]|k+1,n=>n::(Ht p n).flatMap (E7 p k)
def VT(p:Aa):Nat->Int->Prop
 |0,_=>False|k+1,n=>0<=n/\(∃x,p.nodes[n.toNat]?=J x)/\∀m∈Ht p n,VT p k m
structure sa(p:Aa)(L:Al)(st d9:Bo):Prop:=
 nd:L.Nodup
 out:∀m∈L,0<=m/\st.met[m.toNat]?=J Z/\d9.met[m.toNat]?=J X
 same:∀i:Nat,(i:Int) ∉L->d9.met[i]?=st.met[i]?
theorem ay{e:Aa}{k:Nat}{o:Int->Int->Bo->Option Bo}(p:∀l s f b,o l s f=J b->VT e k l/\sa e (E7 e k l) f b):∀{m:List (Int×Int)} {f b:Bo},Cu o m f=J b->(∀r∈m,VT e k r.1)/\sa e ((m.map Prod.fst).flatMap (E7 e k)) f b
 |[],f,b,g=>by cases g;exact⟨AG,AG,AG,λ_ _=>rfl⟩|(l,s)::m,f,b,g=>by
  rw[Cu]at g;split at g
  .rename_i B a;have⟨a1,a2⟩:=p _ _ _ _ a;have⟨b1,b2⟩:=ay p g;refine⟨λr A=>?_,?_,λc h=>?_,λq n=>?_⟩
   .grind
   .rw[Bv,F0];refine D0.2 ⟨a2.nd,b2.nd,λt v C w i=>?_⟩;subst i;have a:=(a2.out t v).2.2;have x:=(b2.out t w).2.1;grind
   .rw[Bv,F0]at h;rcases Ac.1 h with h|h
    .have a:=a2.out c h;refine⟨a.1,a.2.1,?_⟩;have i:=IF a.1;rw[b2.same c.toNat λj=>?_]
     .exact a.2.2
     .rw[i]at j;have:=(b2.out c j).2.1;grind
    .have a:=b2.out c h;refine⟨a.1,?_,a.2.2⟩;have i:=IF a.1;by_cases j:c∈E7 e k l
     .have:=(a2.out c j).2.2;grind
     .rw[<-a2.same c.toNat (by rw[i];exact j)];exact a.2.1
   .rw[Bv,F0,Ac,not_or]at n;rw[b2.same q n.2,a2.same q n.1]
  .cases g
theorem ZU(e:Aa):∀(i:Nat) (b size:Int) (f g:Bo),Bb e i b size f=J g->VT e i b/\sa e (E7 e i b) f g
 |0,b,size,f,g,a=>by cases a|i+1,b,size,f,g,a=>by
  rw[Bb]at a;split at a
  .rename_i h;split at a
   .rename_i D r;split at a
    .split at a
     .rename_i A C o;have⟨c,i2,_⟩:=bZ o;have⟨f1,f2,_⟩:=ly o;have v:A.map Prod.fst=Ht e b:=by
       rw[Hv]at c;rw[Ht,r];dsimp only;split at c
       .rename_i l;rw[D3 l];split at c
        .rename_i d t;split at c
         .cases c;rw[t];simp[DD,Cr,Cg,Function.comp_def]
         .cases c
        .cases c
       .rename_i l;cases c;rw[Co l];simp[Cg,Function.comp_def]
      have⟨b1,b2⟩:=ay (λb B f g=>ZU e i b B f g) a;rw[v]at b2;have p:C.met=f.met.set b.toNat true:=f2;have w:=l_ h.2;have q:b∉(Ht e b).flatMap (E7 e i):=λs=>by have:=(b2.out b s).2.1;grind
      refine⟨⟨h.1,⟨D,r⟩,λm j=>?_⟩,?_,λm j=>?_,λx k=>?_⟩
      .grind
      .rw[E7];exact Ii.2 ⟨q,b2.nd⟩
      .rw[E7]at j;rcases Cs.1 j with rfl|j
       .refine⟨h.1,h.2,?_⟩;have n:=IF h.1;rw[b2.same m.toNat (by rw[n];exact q),p,F7,D3 rfl,D3 w]
       .have F:=b2.out m j;grind
      .rw[E7,Cs,not_or]at k;rw[b2.same x k.2,p,F7,Co λn=>k.1 (by have:=h.1;omega)]
     .cases a
    .cases a
   .cases a
  .cases a
theorem VT.mono{f:Aa}:∀{b c:Nat} {e:Int},VT f b e->b<=c->VT f c e
 |0,_,_,a,_=>a.elim|b+1,0,_,_,a=>z|b+1,c+1,e,a,hm=>⟨a.1,a.2.1,λh g=>(a.2.2 h g).mono z⟩
def Xk{g:Aa}:∀{b:Nat} {f e:Int},VT g b f->e∈E7 g b f->VT g b e
 |0,_,_,c,_=>c.elim|b+1,f,e,c,a=>by
  rw[E7]at a;rcases Cs.1 a with rfl|a
  .exact c
  .have⟨q,hq,a⟩:=BI.1 a;exact(Xk (c.2.2 q hq) a).mono (Nat.le_succ b)
structure FY(p:Aa):Prop:=
 dep:∀n:Int,0<=n->n<U p.nodes->VT p (U p.nodes+1) n
 main:VT p (U p.nodes+1) p.main
 nd:(E7 p (U p.nodes+1) p.main).Nodup
 all:∀n:Int,0<=n->n<U p.nodes->n∈E7 p (U p.nodes+1) p.main
theorem OM{a:Aa}{j:Bo}(b:looks a=J j):FY a:=by
 unfold looks at b;split at b
 .split at b
  .rename_i m i;split at b
   .rename_i n;cases b;have⟨hd,ht⟩:=ZU a _ _ _ _ _ i;have l:=C1 a _ _ _ _ _ i;have o:U j.met=U a.nodes:=by rw[l.met];simp[Bo.init]
    have g:∀c:Int,0<=c->c<U a.nodes->c∈E7 a (U a.nodes+1) a.main:=λc e f=>by
     by_cases h:c∈E7 a (U a.nodes+1) a.main
     .exact h
     .have k:=IF e;have:=ht.same c.toNat (by rw[k];exact h);grind [dv,Bo.init]
    exact⟨λc e f=>Xk hd (g c e f),hd,ht.nd,g⟩
   .cases b
  .cases b
 .cases b
abbrev BG:=List (Int×(Int×Int))
def Ir:BG->Int->Option (Int×Int)
 |[],_=>I|(k,c)::l,i=>if k=i then J c else Ir l i
def HN(size d:Int)(m:Nat):BG:=(WO m).map λ(c:Nat)=>(size+c,(d,(c:Int)))
def Z1(e:Aa)(f:Al)(c:Int)(a:BG):BG:=match e.nodes[c.toNat]? with|some b=>if b.op=4 then a++HN ((f[c.toNat]?).getD 0) b.n (((e.defs[b.n.toNat]?).map λd=>U d.ac).getD 0)else a|none=>a
def eV(a:Aa)(b:Al):Nat->Int->BG->List (Int×BG)
 |0,_,_=>[]|k+1,n,e=>(n,e)::(O9 a n).flatMap λc=>eV a b k c (Z1 a b n e)
def p5(p:Aa):Nat->Int->Al
 |0,_=>[]|k+1,n=>n::(O9 p n).flatMap (p5 p k)
def cW{j:Type}{e f:c->List j}:∀{a:List c},(∀b∈a,(e b).Perm (f b))->(a.flatMap e).Perm (a.flatMap f)
 |[],_=>.nil|b::a,h=>by rw[F0,F0];exact(h b (CO ..)).append (cW λi g=>h i (By _ g))
def dJ(p:Aa):∀(k:Nat) (n:Int),(p5 p k n).Perm (E7 p k n)
 |0,_=>.nil|k+1,n=>by rw[p5,E7];refine .cons _ ((List.Perm.flatMap_right _ (pk p n)).trans ?_);exact cW λm _=>dJ p k m
def bC(c:Aa)(f:Al):∀(a:Nat) (b:Int) (e:BG),(eV c f a b e).map Prod.fst=p5 c a b
 |0,_,_=>rfl|a+1,b,e=>by rw[eV,p5,Bv,List.map_flatMap];simp[bC c f a]
variable{k:Nat}
theorem jy{c:Aa}{f:Al}{a:Int}{b:BG}(e:VT c k a):(a,b)∈eV c f k a b:=by
 rcases k with _|k
 .exact e.elim
 .grind [eV]
variable{m:Int}
def Kz{p:Aa}{n:Int}:m∈O9 p n↔m∈Ht p n:=(pk p n).mem_iff
def jx{c:Aa}{j:Al}:∀{k:Nat} {g:Int} {h:BG},VT c k g->∀{m:Int} {i:BG},(m,i)∈eV c j k g h->∀e∈O9 c m,(e,Z1 c j m i)∈eV c j k g h
 |0,_,_,f,_,_,_,_,_=>f.elim|k+1,g,h,f,m,i,b,e,hq=>by
  rw[eV]at b⊢;rcases Cs.1 b with b|b
  .cases b;refine By _ (BI.2 ⟨e,hq,?_⟩);exact jy (f.2.2 e (Kz.1 hq))
  .have⟨a,ha,b⟩:=BI.1 b;exact By _ (BI.2 ⟨a,ha,jx (f.2.2 a (Kz.1 ha)) b e hq⟩)
def so(D:List BG)(l:List (Int×BG)):List BG:=l.foldl (λD q=>D.set q.1.toNat q.2) D
def mO:∀(l:List (Int×BG)) (D:List BG),(so D l).length=U D
 |[],D=>rfl|q::l,D=>by show(so (D.set q.1.toNat q.2) l).length=U D;rw[mO l];simp
theorem mR:∀{c:List (Int×BG)} {D:List BG} {a:Nat},(∀b∈c,b.1.toNat≠a)->(so D c)[a]?=D[a]?
 |[],D,a,h=>rfl|b::c,D,a,h=>by show(so (D.set b.1.toNat b.2) c)[a]?=D[a]?;rw[mR λf e=>h f (By _ e),F7,Co (h b (CO ..))]
theorem wq:∀{b:List (Int×BG)} {D:List BG},(b.map Prod.fst).Nodup->(∀a∈b,0<=a.1/\a.1<U D)->∀a∈b,(so D b)[a.1.toNat]?=J a.2
 |[],D,_,_,a,c=>by cases c|r::b,D,hn,hr,a,c=>by
  show(so (D.set r.1.toNat r.2) b)[a.1.toNat]?=J a.2;rw[Bv,Ii]at hn;have e:=hr r (CO ..);rcases Cs.1 c with rfl|c
  .grind [mR]
  .exact wq hn.2 (λg f=>by grind) a c
def den(D:List BG)(n:Int):BG:=(D[n.toNat]?).getD []
structure Gd(p:Aa)(sz:Al)(D:List BG):Prop:=
 len:U D=U p.nodes
 main:den D p.main=[]
 sub:∀n:Int,0<=n->n<U p.nodes->∀m∈O9 p n,den D m=Z1 p sz n (den D n)
def Sc(a:Aa)(b:Al):List (Int×BG):=eV a b (U a.nodes+1) a.main []
def DW(a:Aa)(b:Al):List BG:=so (TL (U a.nodes) []) (Sc a b)
theorem gD{b:Aa}{c:Int}(a:VT b k c)(e:m∈E7 b k c):0<=m/\m<U b.nodes:=by
 have a:=Xk a e;rcases k with _|k
 .exact a.elim
 .obtain⟨f,⟨h,g⟩,_⟩:=a;grind
def Qg{a:Aa}(f:FY a)(e:Al):Gd a e (DW a e):=by
 have h:=bC a e (U a.nodes+1) a.main [];have i:=dJ a (U a.nodes+1) a.main;have p:((Sc a e).map Prod.fst).Nodup:=by rw[Sc,h];exact i.nodup_iff.2 f.nd
 have n:∀b∈Sc a e,0<=b.1/\b.1<U a.nodes:=λb c=>by refine gD f.main (i.mem_iff.1 ?_);rw[<-h];exact Mp c
 have g:∀b∈Sc a e,den (DW a e) b.1=b.2:=λb c=>by rw[den,DW,wq p (λb c=>by simpa using n b c) b c];rfl
 refine⟨by rw[DW,mO];simp,g _ (jy f.main),λq k l m o=>?_⟩;have j:=i.mem_iff.2 (f.all q k l);rw[<-h]at j;obtain⟨b,c,rfl⟩:=Ex.1 j;rw[g b c];exact g _ (jx f.main c m o)
structure Av:=
 ac:Al
 rules:Al
 args:List Al
def Mc(k:Int):Int:=if k=1 then 0 else if k=4 then 2 else 1
def Fh(a:Int):Int:=if a=0 then 1 else if a=1 then 3 else 4
def Hy(a b:Int):Int:=if 2<a+b then 2 else a+b
def KV(a b:Int):Int:=if 2<a*b then 2 else a*b
def Fe(a b:Int):Int:=if a<b then b else a
def Bx(T:List Av)(d c:Int):Int:=((T[d.toNat]?).bind λBn=>Bn.ac[c.toNat]?).getD 1
def BU(T:List Av)(d r:Int):Int:=((T[d.toNat]?).bind λBn=>Bn.rules[r.toNat]?).getD 1
def FE(T:List Av)(c:Int×Int)(i:Nat):Int:=((T[c.1.toNat]?).bind λBn=>(Bn.args[c.2.toNat]?).bind λl=>l[i]?).getD 1
def Rk(p:Aa)(c:Int×Int):Option HJ:=(p.defs[c.1.toNat]?).bind λd=>d.ac[c.2.toNat]?
def O1(p:Aa)(c:Int×Int)(x:CF):Bool:=decide (((Rk p c).map HJ.many).getD (-1)=(U x.args:Int))
def pK(T:List Av)(i:Nat)(a:Int):Option (Int×Int)->Int
 |some c=>Hy a (Mc (FE T c i))|none=>2
def Gx(b:List Av)(f:Option (Int×Int))(c:Int):Nat->List Bz->Int->Int
 |_,[],a=>a|i,e::l,a=>Gx b f c (i+1) l (if e.op=2/\e.n=c then pK b i a f else a)
def Dx(x:CF)(k:Nat):Int:=(x.kids[k]?).getD 0
def KM(g:Aa)(c:List Av)(D:List BG)(f:Int)(a:CF)(b:Int):Int:=match Ir (den D f) a.n with|some e=>if O1 g e a=X then Gx c (J e) b 0 a.args (if a.n=b then 1 else 0)else 0|none=>Gx c I b 0 a.args (if a.n=b then 1 else 0)
def Oq(f:Int->Int):Al->Int->Int
 |[],a=>a|k::l,a=>Oq f l (Hy a (f k))
def Od(f:Int->Int)(T:List Av)(d:Int):Nat->List C6->Int->Int
 |_,[],a=>a|i,r::l,a=>Od f T d (i+1) l (Hy a (KV (Mc (BU T d i)) (f r.node)))
def Ka(f:Int->Int)(p:Aa)(T:List Av)(x:CF):Int:=match p.defs[x.n.toNat]? with|some d=>Od f T x.n 0 d.rules (Oq f (d.be.map Dy.node) (f (Dx x 0)))|none=>0
def CT(p:Aa)(T:List Av)(D:List BG):Nat->Int->Int->Int
 |0,_,_=>0|k+1,n,pl=>match p.nodes[n.toNat]? with
  |some x=>if x.op=2 then KM p T D n x pl
   else if x.op=3 then Hy (CT p T D k (Dx x 0) pl) (CT p T D k (Dx x 1) pl)
   else if x.op=5 then Fe (CT p T D k (Dx x 0) pl) (CT p T D k (Dx x 1) pl)
   else if x.op=6\/x.op=8 then CT p T D k (Dx x 0) pl
   else if x.op=4 then Ka (λm=>CT p T D k m pl) p T x else 0
  |none=>0
def VI(f:Int->Int):Al->Int->Int
 |[],a=>a|k::l,a=>VI f l (a+f k)
def XQ(f:Int->Int)(p:Aa)(x:CF):Int:=match p.defs[x.n.toNat]? with|some d=>VI f (d.be.map Dy.node) (f (Dx x 0))|none=>0
def xp(f:Aa)(D:List BG)(e:Int)(b:CF)(a:Int):Int:=match Ir (den D e) a with|some c=>if b.n=a/\O1 f c b=X then 1 else 0|none=>0
def RN(a b:Int):Int:=if b<a then b else a
def Fs(p:Aa)(D:List BG):Nat->Int->Int->Int
 |0,_,_=>0|k+1,n,pl=>match p.nodes[n.toNat]? with
  |some x=>if x.op=2 then xp p D n x pl
   else if x.op=3 then Fs p D k (Dx x 0) pl+Fs p D k (Dx x 1) pl
   else if x.op=5 then RN (Fs p D k (Dx x 0) pl) (Fs p D k (Dx x 1) pl)
   else if x.op=4 then XQ (λm=>Fs p D k m pl) p x else 0
  |none=>0
theorem fE{c:Aa}{b:Int}{a:CF}(g:c.nodes[b.toNat]?=J a)(f:¬a.op=4)(e:a.kids[k]?=J m):m∈Ht c b:=by grind [Ht]
theorem AD4{b:Aa}{c:Int}{a:CF}{d:Bc}(h:b.nodes[c.toNat]?=J a)(g:a.op=4)(f:b.defs[a.n.toNat]?=J d)(e:m∈a.kids\/m∈d.be.map Dy.node\/m∈d.rules.map C6.node):m∈Ht b c:=by grind [Ht]
theorem ZO{f g:Int->Int}:∀{l:Al} {a:Int},(∀m∈l,f m=g m)->Oq f l a=Oq g l a
 :=by intro x;induction x<;>grind [Oq]
theorem Y9{f g:Int->Int}{T:List Av}{d:Int}:∀{l:List C6} {i:Nat} {a:Int},(∀r∈l,f r.node=g r.node)->Od f T d i l a=Od g T d i l a
 :=by intro x;induction x<;>grind [Od]
structure ALi(p:Aa)(n:Int)(x:CF):Prop:=
 two:x.op=3\/x.op=5->Dx x 0∈Ht p n/\Dx x 1∈Ht p n
 one:x.op=6\/x.op=8->Dx x 0∈Ht p n
 defn:x.op=4->∃d,p.defs[x.n.toNat]?=J d/\(Dx x 0∈Ht p n)/\(∀m∈d.be.map Dy.node,m∈Ht p n)/\∀r∈d.rules,r.node∈Ht p n
theorem Ky{c:Aa}{i:Al}(f:Ar c i){h:Int}{a:CF}(g:c.nodes[h.toNat]?=J a):ALi c h a:=by
 have⟨s,l,hs,h0,h1,hok,hsub,_⟩:=f.node _ a g;simp only[Cq,As,Dl]at hok;have e:=hok.1;have m:∀k,k<U a.kids->a.kids[k]?=J (Dx a k):=λk e=>by grind [Dx]
 refine⟨λb=>?_,λb=>?_,λb=>?_⟩
 .grind [DM,fE]
 .grind [DM,fE]
 .have j:U a.kids=1:=by rw[b]at e;simpa[DM]using e.symm
  have⟨n1,n2,_⟩:=FI f g b;have⟨d,hd⟩:=g_ (l:=c.defs) (i:=a.n.toNat) z;grind [AD4]
theorem ZD{f:Aa}{t:Al}(p:Ar f t)(g:List Av)(D:List BG)(j:Int):∀{k m:Nat} {i:Int},VT f k i->k<=m->CT f g D m i j=CT f g D k i j
 |0,_,_,l,_=>l.elim|k+1,0,_,_,l=>z|k+1,m+1,i,l,hm=>by
  obtain⟨v,⟨w,q⟩,s⟩:=l;have n:=Ky p q;have h:∀o∈Ht f i,CT f g D m o j=CT f g D k o j:=λo r=>ZD p g D j (s o r) z;rw[CT,CT,q];dsimp only;split
  .rfl
  split
  .rename_i e;have⟨a,b⟩:=n.two (.inl e);rw[h _ a,h _ b]
  split
  .rename_i e;have⟨a,b⟩:=n.two (.inr e);rw[h _ a,h _ b]
  split
  .rename_i e;rw[h _ (n.one e)]
  split
  .rename_i e;have⟨d,hd,a,b,c⟩:=n.defn e;grind [Ka,ZO,Y9]
  .rfl
def Eu(l:Al):List Au:=[.co (l.map AX)]
def jr(Bn:Av):List Au:=[.co (Bn.ac.map AX),.co (Bn.rules.map AX),.co (Bn.args.map Eu)]
attribute [go_sem] Eu jr
abbrev De(T:List Av):y:=.d (.co (T.map jr))
abbrev uA(Bn:Av):y:=.agg [.d (.co (Bn.ac.map AX)),.d (.co (Bn.rules.map AX)),.d (.co (Bn.args.map Eu))]
@[go_sem] theorem AQi(k:Int):Bk kT 142 [nI k] []=.ok (.ret (nI (Mc k)),[]):=by
  refine BH func142 ?_
  (repeat' (first|simp only[*,go_sem]|(refine sx ?_ ?_<;>intro a)|refine sy z λe c b=>?_|simp(disch:=first|assumption|omega) only[Ae]))
  all_goals grind [Mc]
@[go_sem] theorem APB(k:Int):Bk kT 194 [nI k] []=.ok (.ret (nI (Fh k)),[]):=by
  refine BH func194 ?_
  (repeat' (first|simp only[*,go_sem]|(refine sx ?_ ?_<;>intro a)|refine sy z λe c b=>?_|simp(disch:=first|assumption|omega) only[Ae]))
  all_goals grind [Fh]
theorem Wx{a b:Int}(c:0<=a/\a<=2)(e:0<=b/\b<=2):Bk kT 206 [nI a,nI b] []=.ok (.ret (nI (Hy a b)),[]):=by have f:TC.wrap (a+b)=a+b:=w_ z z;refine BH func206 ?_;refine aw ?_;all_goals grind [Hy]
theorem AHL{a b:Int}(e:0<=a/\a<=2)(f:0<=b/\b<=2):Bk kT 207 [nI a,nI b] []=.ok (.ret (nI (KV a b)),[]):=by
 have g:TC.wrap (a*b)=a*b:=by have c:a=0\/a=1\/a=2:=z;rcases c with rfl|rfl|rfl<;>exact w_ z z
 refine BH func207 ?_;refine aw ?_;all_goals grind [KV]
theorem lL(a b:Int):Bk kT 195 [nI a,nI b] []=.ok (.ret (nI (Fe a b)),[]):=by
 refine BH func195 ?_
 (repeat' (first|simp only[*,go_sem]|(refine sx ?_ ?_<;>intro c)|refine sy z λg f e=>?_|simp(disch:=first|assumption|omega) only[Ae]))
 all_goals grind [Fe]
def bw(k:Int):Int:=if k=1 then 0 else if k=2\/k=3 then 1 else 1000
@[go_sem] theorem API(k:Int):Bk kT 90 [nI k] []=.ok (.ret (nI (bw k)),[]):=by
  refine BH func90 ?_
  (repeat' (first|simp only[*,go_sem]|(refine sx ?_ ?_<;>intro a)|refine sy z λe c b=>?_|simp(disch:=first|assumption|omega) only[Ae]))
  all_goals grind [bw]
@[go_sem] theorem AMA(a b:Int)(o:Bool):Bk kT 135 [nI a,nI b,.d (.bool o)] []=.ok (.ret (.d (.bool (decide (a=b)))),[]):=by refine BH func135 ?_;exact au;all_goals grind
@[go_sem] theorem AMQ(a b:Int)(o:Bool):Bk kT 141 [nI a,nI b,.d (.bool o)] []=.ok (.ret (.d (.bool (decide (Mc b<=Mc a)))),[]):=by refine BH func141 ?_;exact au;all_goals grind
def wX(k:Int)(o:Bool):Bool:=decide (1<=k)&&(decide (k<=4)&&(o|| !decide (k=2)))
@[go_sem] theorem AEO(c b:Int)(a:Bool):Bk kT 179 [nI c,nI b,.d (.bool a)] []=.ok (.ret (.d (.bool (wX c a))),[]):=by
  refine BH func179 ?_;cases a
  ·exact zA0
  ·exact zA0
@[go_sem] theorem AMY(l:Al):Bk kT 82 [.d (.co (l.map AX))] []=.ok (.ret (.d (.bool (decide (60<U l)))),[]):=by refine BH func82 ?_;refine aw ?_;have e:decide ((60:Int)<(U l:Int))=decide (60<U l):=decide_eq_decide.2 z;rw[e]
def rf{c:Type}(q:c->Bool):Nat->List c->Int
 |_,[]=> -1|j,B0::ys=>if q B0 then j else rf q (j+1) ys
def uj(q:c->Bool):∀(l:List c) (j:Nat),decide (0<=rf q j l)=l.any q
 |[],j=>by simp[rf]|B0::ys,j=>by
  by_cases h:q B0=X
  .simp[rf,h]
  .simp[rf,h,uj q ys (j+1)]
def X0(x:Al):Bool:=decide (60<U x)
def AOW(c:List Al)(l:U c<=60):Bk kT 126 [.d (.co (c.map Eu)),.fn 82 [] []] []=.ok (.ret (nI (rf X0 0 c)),[]):=by
 refine BH func126 ?_;refine aw ?_;refine Ah c (B2:=λb (_:Unit)=>⟨[(0,.d (.co (c.map Eu))),(1,.fn 82 [] []),(7,nI (U c)),(8,nI b)],[],0,[]⟩)
  (Inv:=λb j _=>AR (rf X0 b j=rf X0 0 c)) (b0:=()) ⟨AG⟩ ?_ ?_
 .rintro b k _ m h i e g;have n:TC.wrap ((b:Int)+1)=(b:Int)+1:=w_ z z;by_cases f:60<U k
  .have a:=e.1;simp[rf,X0,f]at a;rw[<-a];replace a:=AB a;exact au
  .have a:=e.1;simp[rf,X0,f]at a;replace a:=AB a;exact aw (g.1 () a)
 .rintro b _ h i e;have a:=e.1;simp[rf]at a;rw[<-a];exact au
def AQS(a:List Al)(b:U a<=60):Bk kT 81 [.d (.co (a.map Eu)),.fn 82 [] []] []=.ok (.ret (.d (.bool (a.any X0))),[]):=by have e:=AOW a b;have c:=uj X0 a 0;refine BH func81 ?_;exact au
def E9(Bn:Av):Bool:=decide (60<U Bn.ac)||(decide (60<U Bn.rules)||(decide (60<U Bn.args)||Bn.args.any X0))
theorem AQR(a:Av):Bk kT 80 [uA a] []=.ok (.ret (.d (.bool (E9 a))),[]):=by
 have h:decide ((60:Int)<(U a.ac:Int))=decide (60<U a.ac):=decide_eq_decide.2 z;have i:decide ((60:Int)<(U a.rules:Int))=decide (60<U a.rules):=decide_eq_decide.2 z;have j:decide ((60:Int)<(U a.args:Int))=decide (60<U a.args):=decide_eq_decide.2 z;by_cases c:U a.args<=60
 .have k:=AQS a.args c;exact zAk
 .exact zAk
attribute [go_sem] AQR
def AOV(c:List Av)(k:U c<=40):Bk kT 125 [De c,.fn 80 [] []] []=.ok (.ret (nI (rf E9 0 c)),[]):=by
 refine BH func125 ?_;refine aw ?_;refine Ah c (B2:=λb (_:Unit)=>⟨[(0,De c),(1,.fn 80 [] []),(7,nI (U c)),(8,nI b)],[],0,[]⟩)
  (Inv:=λb i _=>AR (rf E9 b i=rf E9 0 c)) (b0:=()) ⟨AG⟩ ?_ ?_
 .rintro b j _ l g h e f;have m:TC.wrap ((b:Int)+1)=(b:Int)+1:=w_ z z;have a:=e.1;rcases hxy:E9 j with _|_
  .simp[rf,hxy]at a;replace a:=AB a;exact aw (f.1 () a)
  .simp[rf,hxy]at a;rw[<-a];replace a:=AB a;exact au
 .rintro b _ g h e;have a:=e.1;simp[rf]at a;rw[<-a];exact au
def AQQ(a:List Av)(b:U a<=40):Bk kT 79 [De a,.fn 80 [] []] []=.ok (.ret (.d (.bool (a.any E9))),[]):=by have e:=AOV a b;have c:=uj E9 a 0;refine BH func79 ?_;exact au
def bg(l:List Av):Bool:=decide (40<U l)||l.any E9
theorem AFX(a:List Av):Bk kT 43 [De a] []=.ok (.ret (.d (.bool (bg a))),[]):=by
 have h:decide ((40:Int)<(U a:Int))=decide (40<U a):=decide_eq_decide.2 z;by_cases c:U a<=40
 .have i:=AQQ a c;exact zAl
 .exact zAl
def pS(d:Bc)(Bn:Av):Bool:=decide (U d.ac=U Bn.ac)&&decide (U d.rules=U Bn.rules)
def QG:List Bc->List Av->Bool
 |d::ds,Bn::us=>if pS d Bn then QG ds us else Z|_,_=>X
abbrev dA(d:Bc):y:=.agg [.d (.co (d.ac.map BR)),.d (.co (d.be.map BD)),.d (.co (d.rules.map BN))]
theorem AKX(d:Bc)(a:Av):Bk kT 139 [dA d,uA a] []=.ok (.ret (.d (.bool (pS d a))),[]):=by
 have b:decide ((U d.ac:Int)=(U a.ac:Int))=decide (U d.ac=U a.ac):=decide_eq_decide.2 z;have c:decide ((U d.rules:Int)=(U a.rules:Int))=decide (U d.rules=U a.rules):=decide_eq_decide.2 z;refine BH func139 ?_
 (repeat' (first|simp only[*,go_sem]|(refine sx ?_ ?_<;>intro e)|refine sy z λh g f=>?_|simp(disch:=first|assumption|omega) only[Ae]))
 all_goals simp only[pS]
 all_goals grind
attribute [go_sem] AKX
def AKW(b:List Bc)(a:List Av)(r:U b<=1000000):Bk kT 138 [.d (.co (b.map Br)),De a,.fn 139 [] []] []=.ok (.ret (.d (.bool (decide (U b=U a)&&QG b a))),[]):=by
 by_cases g:U b=U a
 .rw[F8 g,I4];have j:((U b:Int)=(U a:Int)):=z;replace g:=AB g;refine BH func138 ?_;refine aw ?_;refine Ah b (B2:=λe (_:Unit)=>⟨[(1,De a),(2,.fn 139 [] []),(15,.d (.co (b.map Br))),(16,nI (U a)),(17,nI e)],[],0,[]⟩)
   (Inv:=λe o _=>AR (QG o (a.drop e)=QG b a)) (b0:=()) ⟨AG⟩ ?_ ?_
  .rintro e p _ s m k h l;have t:TC.wrap ((e:Int)+1)=(e:Int)+1:=w_ z z;have c:=h.1;obtain⟨i,n⟩:∃i,a[e]?=J i:=⟨_,CE (by have:=g.1;omega)⟩;have q:(e:Int)<(U a:Int):=by have:=g.1;omega
   rw[EJ n]at c;rcases hxy:pS p i with _|_
   .have f:QG b a=false:=by rw[<-c];simp[QG,hxy]
    clear c;rw[f];replace f:=AB f;exact au
   .simp[QG,hxy]at c;replace c:=AB c;exact aw (l.1 () c)
  .rintro e _ m k h;rw[j]at k;have c:=h.1;have f:QG b a=true:=by rw[<-c];rfl
   clear c;rw[f];replace f:=AB f;exact au
 .rw[GC g,Es];have j:¬((U b:Int)=(U a:Int)):=z;refine BH func138 ?_;exact au
def ur(p:Aa)(T:List Av):Bool:=decide (U p.defs=U T)&&QG p.defs T
def ck(a:Aa)(b:List Av)(c:U a.defs<=1000000):Bk kT 85 [pA a,De b] []=.ok (.ret (.d (.bool (ur a b))),[]):=by have e:=AKW a.defs b c;refine BH func85 ?_;refine aw ?_;rfl
def AKq{c:Aa}{a:Az}{d:Bc}(i:0<=a.ip)(f:c.defs[a.ip.toNat]?=J d)(g:d.own<=(U a.env))(n:U a.env<=1000000){b:Int}(j:0<=b)(k:b<U d.ac):Bk kT 89 [pA c,.agg [nI a.ip,nI a.at_,.d (.co (a.env.map A9))],nI b] []=.ok (.ret (nI (a.own d X b)),[]):=by
 have h:=g;unfold Bc.own at h;have l:a.ip<U c.defs:=by have:=(BE.1 f).1;omega
 have q:TC.wrap ((U a.env:Int)-U d.ac)=(U a.env:Int)-U d.ac:=w_ z z;have r:TC.wrap ((U a.env:Int)-U d.ac-U d.be)=(U a.env:Int)-U d.ac-U d.be:=w_ z z;have s:TC.wrap ((U a.env:Int)-U d.ac-U d.be+b)=(U a.env:Int)-U d.ac-U d.be+b:=w_ z z;have o:0<=(U a.env:Int)-U d.ac-U d.be+b:=z;have p:(U a.env:Int)-U d.ac-U d.be+b<U a.env:=z;have m:((U a.env:Int)-U d.ac-U d.be+b).toNat=U a.env-U d.be-U d.ac+b.toNat:=z;have⟨v,hv⟩:=g_ (l:=a.env) (i:=U a.env-U d.be-U d.ac+b.toNat) z;have e:a.own d X b=v.n:=by rw[Az.own];simp[hv]
 rw[e];refine BH func89 ?_;exact au
def AOY(k:Nat)(b:k<=1000000):(BitVec.ofInt 64 (k:Int)&&&BitVec.ofInt 64 4294967295).toNat=k:=by have a:BitVec.ofInt 64 (k:Int)=BitVec.ofNat 64 k:=BitVec.ofInt_natCast _ _;rw[a,show BitVec.ofInt 64 4294967295=BitVec.ofNat 64 (2 ^ 32-1)from rfl,BitVec.toNat_and,BitVec.toNat_ofNat,BitVec.toNat_ofNat,Nat.mod_eq_of_lt (a:=k) z,Nat.mod_eq_of_lt (a:=2 ^ 32-1) Ad,Nat.and_two_pow_sub_one_eq_mod,Nat.mod_eq_of_lt z]
theorem AF0(k:Nat)(p:k<=1000000):Bk kT 205 [.d (.int .u64 1),.d (.int .u64 (k:Int))] []=.ok (.ret (.kw [.d (.int .u64 0),.d (.int .u64 (k:Int))]),[]):=by
 have j:=AOY k p;have l:(BitVec.ofInt 64 1&&&BitVec.ofInt 64 4294967295).toNat=1:=Ad;have m:(BitVec.ofInt 64 0&&&BitVec.ofInt 64 4294967295).toNat=0:=Ad;have c:(k:Int).fdiv (2 ^ min 32 64)=0:=by rw[Int.fdiv_eq_ediv_of_nonneg _ Ad];exact Int.ediv_eq_zero_of_lt z zCN
 have e:Int.fdiv 1 (2 ^ min 32 64)=0:=Ad;have f:Int.fdiv 0 (2 ^ min 32 64)=0:=Ad;have g:IntKind.u64.wrap 0=0:=Ad;have h:IntKind.u64.wrap 1=1:=Ad;have a:IntKind.u64.wrap (k:Int)=k:=by rw[IntKind.wrap];simp[IntKind.signed,IntKind.bits];omega
 have b:((1:Nat):Int)=1:=rfl;have i:((0:Nat):Int)=0:=rfl;replace j:=AB j;replace l:=AB l;refine B4 ?_ m c e f g h a i b;clear m c e f g h a i b;intro m c e f g h a i b;refine BH func205 ?_;refine aw ?_;have q:∀n:Nat,n=k->IntKind.u64.wrap (n:Int)=k:=λn o=>by rw[o,a.1]
 erw[j.1,l.1]
 simp only[g.1,h.1,a.1,b.1,c.1,e.1,f.1,Int.zero_mul,Int.one_mul,Int.add_zero,Int.zero_add];exact BZ
def y9(k:Nat)(a:k<=1000000):Bk kT 192 [.d (.int .u64 1),.d (.int .u64 (k:Int))] []=.ok (.ret (.kw [.d (.int .u64 0),.d (.int .u64 (k:Int))]),[]):=by have b:=AF0 k a;refine BH func192 ?_;exact au
abbrev n7:TI:={kind:=TK.slice,size:=1,agg:=Z,str:=Z,zero:=[y.d8],flds:=[],elem:=108,key:=0,mix:=Z}
def rM(b:G)(a:u)(e:0<k)(c:b a=J (.f9 1 ((TL k (0:Int)).map AX))):JK cfg.T b (J n7) (.ii a 0 k) (.d (.co [[.int .i64 1]]))=J ⟨(nI 1),[(a,.f9 1 ((TL 1 (1:Int)++TL (k-1) 0).map AX))]⟩:=by obtain⟨m,rfl⟩:∃m,k=m+1:=⟨k-1,z⟩;simp[JK,lv,Jy,Cx,UX,c,Xh,ak,C0,List.replicate_succ,AX]
theorem AD3(a:Al):Xh ((a.map AX).map λb=>b.map y.d)=J (a.map AX):=by induction a with|nil=>rfl|cons e a c=>grind [Xh,ak,AX]
theorem y8(c:G)(b:u){a m:Nat}(p:0<a)(o:0<m)(f:c b=J (.f9 1 ((TL a (1:Int)++TL m 0).map AX))):JK cfg.T c (J n7) (.ii b a m) (.ii b 0 a)=J ⟨(nI ((min a m:Nat):Int)),[(b,.f9 1 ((TL (a+min a m) (1:Int)++TL (m-min a m) 0).map AX))]⟩:=by
 have g:((TL a (1:Int)++TL m 0).map AX).take (min a m)=(TL (min a m) (1:Int)).map AX:=by rw[<-NO,IS BL,List.take_replicate];congr 2;omega
 have h:Cx c (.ii b 0 (min a m))=J (((TL (min a m) (1:Int)).map AX).map λe=>e.map y.d):=by simp only[Cx,f,RM,GO,Kd];rw[D3 BL,List.drop_zero,<-NO,g]
 have i:C0 ((TL a (1:Int)++TL m 0).map AX) a ((TL (min a m) (1:Int)).map AX)=J ((TL (a+min a m) (1:Int)++TL (m-min a m) 0).map AX):=by unfold C0;rw[D3 BL];simp only[Ap,Lc,HU,F4];rw[IS AG,Bi AG,List.drop_append,List.drop_of_length_le AG,HU,Rs,List.drop_replicate,DL,List.replicate_append_replicate]
 have k:((TL (min a m) (1:Int)).map AX).length=min a m:=AG;have l:Jy c m (.ii b 0 a)=Cx c (.ii b 0 (min a m)):=rfl;have n:∀e∈(TL (min a m) (1:Int)).map AX,U e=1:=λe j=>by obtain⟨q,_,rfl⟩:=Ex.1 j;rfl
 simp only[JK,lv,l,h,UX,f,AD3,k,i,Gt];grind
def zA(g:G):JK cfg.T g (J n7) .emp (.d (.co [[.int .i64 1]]))=J ⟨(nI 0),[]⟩:=by simp[JK,lv,Jy,Cx]
variable{l:Al}
theorem slice_lo(b:G)(a:u){n:Nat}(c:0<k)(g:n<=k)(f:U l=k)(e:b a=J (.f9 1 (l.map AX))):GR b .slice 1 (.ii a 0 k) (J (nI n)) I I=J (.ii a n (k-n)):=by simp only[GR,Fu,Jg,Kb];grind [Nat.beq,Nat.ble_eq,Nat.blt_eq,Oh,ee]
theorem slice_hi(b:G)(a:u){n:Nat}(c:0<k)(g:n<=k)(f:U l=k)(e:b a=J (.f9 1 (l.map AX))):GR b .slice 1 (.ii a 0 k) I (J (nI n)) I=J (.ii a 0 n):=by simp only[GR,Fu,Jg,Kb];grind [Nat.beq,Nat.ble_eq,Nat.blt_eq,Oh,ee]
def AMz(k:Nat)(h:k<=1000000):Bk kT 174 [.d (.co [AX 1]),nI k] []=.ok (.ret (.d (.co ((TL k (1:Int)).map AX))),[]):=by
 have F:IntKind.u64.wrap 1=1:=Ad;by_cases o:k=0
 .have v:Bk kT 192 [.d (.int .u64 1),.d (.int .u64 0)] []=.ok (.ret (.kw [.d (.int .u64 0),.d (.int .u64 0)]),[]):=y9 0 z;have D:IntKind.u64.wrap 0=0:=Ad;subst o;clear h;have e:=zA;refine BH func174 ?_;refine aw (rounds (B2:=λ_:Unit=>⟨[(7,.emp),(8,nI 0)],[],0,[]⟩) (Inv:=λ_=>True) (m:=λ_=>0) (a:=()) trivial ?_);intro _ _ _;exact au
 .have t:=y9 k h;have K:IntKind.u64.wrap (k:Int)=k:=by rw[IntKind.wrap];simp[IntKind.signed,IntKind.bits];omega
  have H:TC.wrap (k:Int)=k:=w_ z z;have x:¬(k:Int)<0:=z;have A:¬9223372036854775807<(k:Int):=z;have g:0<k:=z;have e:=λb p=>rM b p g;refine BH func174 ?_
  (repeat' (first|simp only[*,go_sem]|(refine sx ?_ ?_<;>intro e)|refine sy z λM w i=>?_|simp(disch:=first|assumption|omega) only[Ae,Dd]))
  refine rounds (B2:=λa:Nat=>⟨[(7,.ii [1,0] 0 k),(8,nI a)],[([1,0],.f9 1 ((TL a (1:Int)++TL (k-a) 0).map AX))],1,[]⟩) (Inv:=λa=>0<a/\a<=k) (m:=λa=>k-a) (a:=1) ⟨z,z⟩ ?_;rintro a ⟨n,j⟩ l;by_cases f:a=k
  .have m:¬(a:Int)<(k:Int):=z;subst f;have q:TL (a-a) (0:Int)=[]:=AG;have r:(TL a (1:Int)).length=a:=AG;have s:((TL a (1:Int)).map AX).take a=(TL a (1:Int)).map AX:=Bi AG;exact au
  .have m:(a:Int)<(k:Int):=z;have i:0<k-a:=z;have e:=λb c=>y8 b [1,0] n i c;have C:=λb c=>slice_lo b [1,0] g j (l:=TL a (1:Int)++TL (k-a) 0) BL c;have B:=λb c=>slice_hi b [1,0] g j (l:=TL a (1:Int)++TL (k-a) 0) BL c;have L:TC.wrap ((a:Int)+((min a (k-a):Nat):Int))=((a+min a (k-a):Nat):Int):=w_ z z;replace f:=AB f;refine aw ?_;rw[Nat.sub_sub];exact l.1 (a+min a (k-a)) z ⟨z,z⟩
def xQ(l:Al):Int:=match l with|[]=>0|x::l=>l.foldl min x
def kM:∀(l:Al) (a:Int),l.foldl min a<=a/\(∀c∈l,l.foldl min a<=c)/\(l.foldl min a=a\/l.foldl min a∈l)
 |[],a=>AG|c::l,a=>by
  have⟨h1,h2,b⟩:=kM l (min a c);rw[OS];refine⟨z,λf e=>?_,?_⟩
  .rcases Cs.1 e with rfl|e
   .omega
   .exact h2 f e
  .rcases b with b|b
   .by_cases g:a<=c
    .exact .inl z
    .exact .inr (Cs.2 (.inl z))
   .exact .inr (By _ b)
def min_zero{l:u}(g:0<U l):xQ (l.map λ(b:Nat)=>(b:Int))=0↔0∈l:=by
 rcases l with _|⟨e,l⟩
 .simp at g
 .have⟨h1,h2,a⟩:=kM (l.map λ(b:Nat)=>(b:Int)) (e:Int);have f:xQ ((e::l).map λ(b:Nat)=>(b:Int))=(l.map λ(b:Nat)=>(b:Int)).foldl min (e:Int):=rfl;rw[f];constructor
  .intro c;rw[c]at a;rcases a with a|a
   .have:e=0:=z;simp[this]
   .have⟨B0,hy,e2⟩:=Ex.1 a;have:B0=0:=z;subst this;exact By _ hy
  .intro c;have h:0<=(l.map λ(b:Nat)=>(b:Int)).foldl min (e:Int):=by
    rcases a with a|a
    .omega
    .have⟨B0,hy,e2⟩:=Ex.1 a;omega
   rcases Cs.1 c with c|c
   .omega
   .have:=h2 0 (Ex.2 ⟨0,c,rfl⟩);omega
inductive W4:u->Al->Prop where
 |nil:W4 [] []
 |cons {n:Nat} {l:u} {d:Int} {c:Al}:0<=d->d<n->W4 l c->W4 (n::l) (d::c)
def W4.len{l:u}{a:Al}(b:W4 l a):U a=U l:=by induction b with|nil=>rfl|cons _ _ _ c=>simp[c]
def ZX(c:u)(a:u):Prop:=∃b l,a=1::b::l/\AD c l=X
def Rb(a:u)(b:Nat)(i:u):Prop:=∃n,n<b/\ZX (n::a) i
def ZX.up{c:u}{b:u}(a:ZX c b):AD c b=true:=by obtain⟨e,l,rfl,a⟩:=a;obtain⟨f,rfl⟩:=under_iff.1 a;exact under_iff.2 ⟨1::e::f,rfl⟩
def ZX.out{n:Nat}{i:u}(h:ZX (n::a) i):ZX a i:=by obtain⟨j,l,rfl,h⟩:=h;exact⟨j,l,rfl,Bq h⟩
def ZX.not{g:Nat}{c:u}(b:ZX (g::a) c)(e m:Nat):AJ (e::m::a) c=false:=AI λf=>by obtain⟨h,l,rfl,b⟩:=b;obtain⟨i,rfl⟩:=under_iff.1 b;have:=congrArg U f;simp at this;omega
def ZX.sib{c m:Nat}{b:u}(e:ZX (c::a) b)(f:¬c=m):AD (m::a) b=false:=by
 rcases hx:AD (m::a) b with _|_
 .rfl
 .exact absurd (Bw e.up hx) f
def Rb.up{i:u}(h:Rb a b i):ZX a i:=by obtain⟨n,_,h⟩:=h;exact h.out
def Rb.not{f:u}(c:Rb a b f)(e m:Nat):AJ (e::m::a) f=false:=by obtain⟨g,_,c⟩:=c;exact c.not e m
def Rb.sib{m:Nat}{e:u}(c:Rb a b e)(g:b<=m):AD (m::a) e=false:=by obtain⟨h,f,c⟩:=c;exact c.sib z
theorem Rb.mono{e:Nat}{f:u}(c:Rb a b f)(i:b<=e):Rb a e f:=by obtain⟨g,h,c⟩:=c;exact⟨g,z,c⟩
def AH4{c:Type}(k:u->Prop)(m:List c->(u->Prop)->S->Prop)(D:BC->S->Prop)(a h:u)(l:List c)(M:u->Prop)(j:List u)(H:S)(g:BC)(e:S):Prop:=(g=.ret (.d (.bool (X)))/\∃i,m l i e/\(∀b,i b->M b\/b∈j\/ZX h b)/\∀b,¬k b->¬M b->b∉j->AD h b=Z->e.get b=H.get b)\/((g=.ret (.d (.bool (Z)))\/∃n,g=.of n)/\D g e/\∀f,AD a (0::f)=X->AD h (0::f)=Z->e.get (0::f)=H.get (0::f))
structure iC{α:Type}(val:S->y->α->Prop)(id:u)(C:u->Prop)(Ai:List α->(u->Prop)->S->Prop)(D:BC->S->Prop)(π:u):Prop:=
 own:C id
 apart:∀i,C i->AD π i=Z
 tag:∀{l:List α} {M:u->Prop} {H:S},Ai l M H->∀i,M i->∃l,i=1::l
 loop:∀{l:List α} {M:u->Prop} {H:S},Ai l M H->∃r,H.get id=J (.loop r)
 eat:∀{x:α} {l:List α} {M:u->Prop} {H:S} {ρ:u} {v:y} {r:Lp},Ai (x::l) M H->H.get id=J (.loop r)->val H v x->(∀i,AD π i=Z->AD ρ i=Z)->(∀i,M i->AD ρ i=Z)->(∀i∈AE v,¬C i/\AD ρ i=Z/\ZX π i)->
  ∃o h',kT (.round id r) [v] H ρ X I=.ok (o,h')/\AH4 C Ai D π ρ l M (AE v) H o h'
 same:∀{l:List α} {M:u->Prop} {H H':S},Ai l M H->(∀i,(AD π i=Z\/M i)->H'.get i=H.get i)->Ai l M H'
 sameD:∀{o:BC} {H H':S},D o H->(∀i,(AD π i=Z\/∃l,i=1::l)->H'.get i=H.get i)->D o H'
def iC.gcI{val:S->y->c->Prop}{k:u}{i:u->Prop}{e:List c->(u->Prop)->S->Prop}{D:BC->S->Prop}(g:iC val k i e D a){l:List c}{M:u->Prop}(f:e l M H)(h:Nat):e l M (gc (h::a) H):=g.same f λj b=>by
 rcases b with b|b
 .exact An _ _ _ (AL b h)
 .obtain⟨l,rfl⟩:=g.tag f j b;exact E1 _ _ _
def ANh(H:S)(c:y)(b:Al):Prop:=∃a,c=.ii a 0 (U b)/\H.get a=J (.f9 1 (b.map AX))/\∃l,a=1::l
end Go.Proofs
namespace Go.Abs
def Z6(a:List Df):Prop:=∀d∈a,∃b,d=.mark b
def AA6:Z6 []=True:=by simp[Z6]
def tM(b:u)(a:List Df):Z6 (.mark b::a)=Z6 a:=by simp[Z6]
def Vj{e:C7}{ci:Option u}{c:Option y}{b:S}:∀{a:List Df},Z6 a->EE e ci a c b=.ok (c,b)
 |[],_=>rfl|d::a,hd=>by obtain⟨g,rfl⟩:=hd d AG;rw[YS];exact Vj λd f=>hd d zDG
attribute [go_sem] AA6 tM Vj
theorem yu(a:u):(y.yld a).cells=[.yld a]:=rfl
theorem ADn(a:u):y.isCell (.yld a)=true:=rfl
attribute [go_sem] yu ADn
end Go.Abs
namespace Go.Proofs
open Abs Tryz
def ANo(H:S)(c:y)(a:Dk):Prop:=∃b,c=.agg [nI a.wait,nI a.group,nI a.pp,b]/\((b=.d8/\a.picks=[])\/ANh H b a.picks)
def Nt(e:u)(b:u):Prop:=∀a c,AJ (a::c::e) b=Z
def Fd{c:Type}(e:List c->(u->Prop)->S->Prop)(h:u)(M:u->Prop)(f:Nat)(L:List c)(g:S):Prop:=∃b,e L b g/\∀a,b a->M a\/Rb h f a
section
variable{f:Type}{val:S->y->f->Prop}{h:u}{C M c:u->Prop}{e:List f->(u->Prop)->S->Prop}{D:BC->S->Prop}{a:u}{b i:Nat}{L:List f}{g G:S}
theorem ZX.wide{e:u}{b:u}(h:∀b,AD a b=Z->AD e b=Z)(c:ZX e b):ZX a b:=by obtain⟨f,g,rfl,c⟩:=c;refine⟨f,g,rfl,?_⟩;grind
def AMn(i:∀e,M e->AD a e=Z)(h:∀e,c e->M e\/Rb a b e)(e:u)(f:AD a e=Z\/c e):Nt a e:=by
 rcases f with f|f
 .exact AN f
 .rcases h e f with g|g
  .exact AN (i e g)
  .exact g.not
def Fd.mv(n:iC val h C e D a)(o:∀f,M f->AD a f=Z)(l:Fd e a M b L g)(q:∀f,Nt a f->G.get f=g.get f)(p:b<=i):Fd e a M i L G:=by obtain⟨c,m,k⟩:=l;exact⟨c,n.same m λf j=>q f (AMn o k f j),λf j=>(k f j).imp_right λr=>r.mono p⟩
theorem Fd.gc(l:iC val h C e D a)(i:Fd e a M b L g)(f:Nat):Fd e a M b L (gc (f::a) g):=by obtain⟨c,j,k⟩:=i;exact⟨c,l.gcI j f,k⟩
end
structure StepsIn(C M:u->Prop)(π:u)(h:S)(id:u)(E:S->Prop)(g:S):Prop:=
 box:g.get (0::0::π)=J (.box [.yld id])
 eat:E g
 frame:∀i,¬C i->¬M i->AD π i=Z->g.get i=h.get i
structure yG(C M:u->Prop)(π:u)(h:S)(id:u)(b c:Nat)(i k:Int)(gr:Az)(E:S->Prop)(g:S):Prop:=
 st:StepsIn C M π h id E g
 x6:g.get (0::(b+20)::π)=J (.box [nI i])
 x7:g.get (0::(b+21)::π)=J (.box [nI gr.ip,nI gr.at_,.d (.co (gr.env.map A9))])
 x8:g.get (0::(c+40)::π)=J (.box [nI k])
def yG.loc{g M:u->Prop}{h:List Dk->(u->Prop)->S->Prop}{D:BC->S->Prop}{b:u}{q:S}{k:u}(t:iC ANo k g h D b)(v:∀a,M a->AD b a=Z){n o B:Nat}{a r:Int}{p:Az}{L:List Dk}{i H:S}(c:yG g M b q k n o a r p (Fd h b M B L) i)(j:∀m,(∀e,AJ (1::e::b) m=Z)->H.get m=i.get m):yG g M b q k n o a r p (Fd h b M B L) H:=by have f:∀l,H.get (0::l)=i.get (0::l):=λl=>j _ λe=>AI AG;exact⟨⟨(f _).trans c.st.box,c.st.eat.mv t v (λa w=>j a λe=>w 1 e) (D4 _),λa A x s=>(j a λe=>AN s 1 e).trans (c.st.frame a A x s)⟩,(f _).trans c.x6,(f _).trans c.x7,(f _).trans c.x8⟩
def yG.mv{h M:u->Prop}{e:u}{m:S}{n:u}{f i:Nat}{a o:Int}{l:Az}{E k:S->Prop}{j H:S}(c:yG h M e m n f i a o l E j)(s:k H)(g:∀b,b=0\/b=f+20\/b=f+21\/b=i+40->H.get (0::b::e)=j.get (0::b::e))(t:∀a,¬h a->¬M a->AD e a=Z->H.get a=j.get a):yG h M e m n f i a o l k H:=⟨⟨(g _ AG).trans c.st.box,s,λa q p r=>(t a q p r).trans (c.st.frame a q p r)⟩,(g _ AG).trans c.x6,(g _ AG).trans c.x7,(g _ AG).trans c.x8⟩
end Go.Proofs
namespace Go.Proofs
open Abs Tryz
abbrev eC(c:Int×Int):y:=.agg [nI c.1,nI c.2]
structure LZ(es:List (Au×y))(e:BG):Prop:=
 get:∀i,Bs es (.int .i64 i)=J ((Ir e i).map eC)
 ent:es.all Iv=X
 nd:(es.map λq=>YM q.1).Nodup
structure TV:=
 N:u
 ms:List u
 hv:y
def TV.ids(V:TV)(B:u):List u:=B::V.N::(V.ms++AE V.hv)
structure DY(p:Aa)(sz:Al)(D:List BG)(hs:Al)(g:S)(B:u)(V:TV):Prop:=
 box:g.get B=J (.box [.d (.co (p.free.map CB)),.d (.co (p.nodes.map Bg)),.d (.co (p.defs.map Br)),nI p.main,.ii V.N 0 (U V.ms),.d (.co (sz.map AX)),V.hv])
 arr:g.get V.N=J (.arr 1 (V.ms.map λm=>[.mp m]))
 len:U V.ms=U p.nodes
 maps:∀(n:Nat) m,V.ms[n]?=J m->∃es,g.get m=J (.map es)/\LZ es ((D[n]?).getD [])
 heads:UF g 1 V.hv (hs.map AX)
def Sa(b:u)(B:u)(V:TV):Prop:=∀a∈V.ids B,AD b a=Z
def xd{e f:S}{i:Nat}{b:y}{c:List (List Au)}(a:UF e i b c)(j:∀g∈AE b,f.get g=e.get g):UF f i b c:=by
 rcases a with(a|⟨h,k,rfl,a⟩)|a
 .exact .inl (.inl a)
 .exact .inl (.inr ⟨h,k,rfl,by rw[j h Ay];exact a⟩)
 .exact .inr a
section
variable{p:Aa}{b:Al}{D:List BG}{e:Al}{g g':S}{B:u}{V:TV}{a:u}
theorem DY.mono(h:DY p b D e g B V)(hi:∀i∈V.ids B,g'.get i=g.get i):DY p b D e g' B V where
 box:=by rw[hi B zCR];exact h.box
 arr:=by rw[hi V.N zCR];exact h.arr
 len:=h.len
 maps n m hm:=by rw[hi m (by simp[TV.ids,AP hm])];exact h.maps n m hm
 heads:=xd h.heads λi hi2=>hi i (by simp[TV.ids,hi2])
def Sa.ext(c:Sa a B V)(b:Nat):Sa (b::a) B V:=λi e=>AL (c i e) b
def DY.new(f:DY p b D e g B V)(j:Sa a B V)(i:∀c,Nt a c->g'.get c=g.get c):DY p b D e g' B V:=f.mono λc h=>i c (AN (j c h))
def py(i:DY p b D e g B V)(r:Sa a B V){c:Int×Int}{d:Bc}{ch:HJ}{f:Int}{h:CF}(K:0<=c.1)(L:0<=c.2)(k:p.defs[c.1.toNat]?=J d)(j:d.ac[c.2.toNat]?=J ch)(N:0<=f)(s:p.nodes[f.toNat]?=J h):
 ∃l q,kT (.fn 197) [.ptr B 0,eC c,nI f] g a X (J a)=.ok (l,q)/\l=.ret (.d (.bool (O1 p c h))):=by
 have m:=r B zCR;have x:=AN m;have A:=Aw m;have M:=i.box;have t:=l_ k;have v:=l_ j;have w:=l_ s;have C:c.1<U p.defs:=z;have F:c.2<U d.ac:=z;have H:f<U p.nodes:=z;have n:Rk p c=J ch:=by rw[Rk,k];exact j
 have o:O1 p c h=decide (ch.many=(U h.args:Int)):=by rw[O1,n];rfl
 rw[o];replace i:=AB i;clear t v w;refine Ba func197 ?_;exact af
def Tr{g:S}{h:y}{e:Al}(a:UF g 1 h (e.map AX)){f:Nat}{i:Int}(b:e[f]?=J i):∃c j,h=.ii c 0 (U e)/\g.get c=J (.f9 1 j)/\j[f]?=J (AX i):=by
 have k:=l_ b;rcases a with(⟨_,a⟩|⟨c,l,rfl,a⟩)|⟨_,a⟩
 .rw[D6]at a;subst a;simp at b
 .exact⟨c,_,by rw[BV],a,by rw[D8 zCk,BY,b];rfl⟩
 .rw[D6]at a;subst a;simp at b
def VK(f:DY p b D e g B V)(q:Sa a B V){d c h i:Int}(A:0<=d)(j:e[d.toNat]?=J h)(C:0<=h)(r:b[h.toNat]?=J i)(k:i64 (i+c)):
 ∃l n,kT (.fn 137) [.ptr B 0,nI d,nI c] g a X (J a)=.ok (l,n)/\l=.ret (nI (i+c)):=by
 have m:=q B zCR;have t:=AN m;have v:=Aw m;have o:=f.box;have⟨id,xs,hv,hg,hx⟩:=Tr f.heads j;have F:=l_ j;have s:=l_ r;have H:=l_ hx;rw[hv]at o;have w:d<U e:=z;have x:h<U b:=z;have K:=w_ k.1 k.2;replace f:=AB f;clear s;refine Ba func137 ?_;exact af
end
def Kc(a b:Nat):Prop:=2<=b\/a<=b
theorem ET(a:Nat):Kc a a:=.inr (D4 a)
theorem Gm{a b:Nat}(h:a<=b):Kc a b:=.inr h
theorem Cm{a b c:Nat}(e:Kc a b)(f:Kc b c):Kc a c:=by unfold Kc at*;omega
theorem HA{a b c d:Nat}(e:Kc a b)(f:Kc c d):Kc (a+c) (b+d):=by unfold Kc at*;omega
def PA(k:Int):Nat:=(Mc k).toNat
theorem EF(k:Int):0<=Mc k/\Mc k<=2:=by grind [Mc]
theorem td(k:Int):PA k<=2:=by have:=EF k;unfold PA;omega
theorem Qb{a b:Int}(c:0<=a)(e:0<=b):0<=Hy a b/\Hy a b<=2:=by grind [Hy]
theorem Qa{a b:Int}(c:0<=a)(e:0<=b):Kc (a.toNat+b.toNat) (Hy a b).toNat:=by grind [Hy,Kc]
theorem qo{a b:Int}(c:0<=a/\a<=2)(e:0<=b/\b<=2):(0<=KV a b/\KV a b<=2)/\Kc (a.toNat*b.toNat) (KV a b).toNat:=by grind [KV,Kc]
theorem XV{a b:Int}(c:0<=a/\a<=2)(e:0<=b/\b<=2):0<=Fe a b/\Fe a b<=2:=by grind [Fe]
def aS(b:Nat->Nat)(a:Int):Nat->List Bz->Nat
 |_,[]=>0|i,e::l=>(if e.op=2/\e.n=a then b i else 0)+aS b a (i+1) l
def PS(a:List Av)(e:Option (Int×Int))(c:Nat):Nat:=match e with|some b=>PA (FE a b c)|none=>2
theorem LU{T:List Av}{to:Option (Int×Int)}{pl:Int}:∀{l:List Bz} {i:Nat} {a:Int},0<=a->a<=2->(0<=Gx T to pl i l a/\Gx T to pl i l a<=2)/\Kc (a.toNat+aS (PS T to) pl i l) (Gx T to pl i l a).toNat
 |[],i,a,h0,h2=>by rw[Gx,aS];grind [ET]|e::l,i,a,h0,h2=>by
  rw[Gx,aS];split
  .rcases to with _|b
   .rw[pK,PS];have⟨h3,h4⟩:=LU (T:=T) (to:=I) (pl:=pl) (l:=l) (i:=i+1) (a:=2) z z;grind [Kc]
   .rw[pK,PS];have f:=EF (FE T b i);have c:=Qb h0 f.1;have⟨h3,h4⟩:=LU (T:=T) (to:=J b) (pl:=pl) (l:=l) (i:=i+1) c.1 c.2;refine⟨h3,Cm ?_ h4⟩;rw[<-Rt];exact HA (Qa h0 f.1) (ET _)
  .have⟨h3,h4⟩:=LU (T:=T) (to:=to) (pl:=pl) (l:=l) (i:=i+1) h0 h2;grind
def ABz(c:Aa)(a:List Av)(D:List BG)(b:Int)(f:CF)(e:Int):0<=KM c a D b f e/\KM c a D b f e<=2:=by
 rw[KM];split
 .split
  .exact(LU zCo zCo).1
  .omega
 .exact(LU zCo zCo).1
theorem Tt{f:Int->Int}(c:∀b,0<=f b/\f b<=2):∀{l:Al} {a:Int},0<=a->a<=2->(0<=Oq f l a/\Oq f l a<=2)/\Kc (a.toNat+(l.map λb=>(f b).toNat).sum) (Oq f l a).toNat
 |[],a,h0,h2=>by grind [Oq,Gm]|k::l,a,h0,h2=>by rw[Oq,Bv,List.sum_cons];have e:=Qb h0 (c k).1;have⟨h3,h4⟩:=Tt c (l:=l) e.1 e.2;refine⟨h3,Cm ?_ h4⟩;grind [HA,Qa,ET]
def LA(g:Int->Nat)(Bn:Nat->Nat):Nat->List C6->Nat
 |_,[]=>0|i,r::l=>Bn i*g r.node+LA g Bn (i+1) l
theorem ZA{f:Int->Int}(e:∀b,0<=f b/\f b<=2){T:List Av}{d:Int}:∀{l:List C6} {i:Nat} {a:Int},0<=a->a<=2->(0<=Od f T d i l a/\Od f T d i l a<=2)/\Kc (a.toNat+LA (λb=>(f b).toNat) (λi=>PA (BU T d i)) i l) (Od f T d i l a).toNat
 |[],i,a,h0,h2=>by rw[Od,LA];grind [ET]|r::l,i,a,h0,h2=>by rw[Od,LA];have c:=qo (EF (BU T d i)) (e r.node);have g:=Qb h0 c.1.1;have⟨h3,h4⟩:=ZA e (T:=T) (d:=d) (l:=l) (i:=i+1) g.1 g.2;refine⟨h3,Cm ?_ h4⟩;rw[<-Rt];refine HA (Cm ?_ (Qa h0 c.1.1)) (ET _);exact HA (ET _) c.2
def Js(g:Aa)(e:List Av)(D:List BG):∀(c:Nat) (f b:Int),0<=CT g e D c f b/\CT g e D c f b<=2
 |0,f,b=>by rw[CT];omega|c+1,f,b=>by
  have a:=λf=>Js g e D c f b;rw[CT];split
  .split
   .exact ABz ..
   split
   .exact Qb (a _).1 (a _).1
   split
   .exact XV (a _) (a _)
   split
   .exact a _
   split
   .rw[Ka];split
    .exact(ZA (f:=λh=>CT g e D c h b) a (Tt (f:=λh=>CT g e D c h b) a (a _).1 (a _).2).1.1 (Tt (f:=λh=>CT g e D c h b) a (a _).1 (a _).2).1.2).1
    .omega
   .omega
  .omega
def sS(a:Aa)(b:List Av)(D:List BG)(c e:Int):Int:=CT a b D (U a.nodes+1) c e
def sN(p:Aa)(T:List Av)(D:List BG)(n:Int)(i:Nat):Nat:=(sS p T D n i).toNat
theorem VD(c:Aa)(a:List Av)(D:List BG)(b e:Int):0<=sS c a D b e/\sS c a D b e<=2:=Js ..
section
variable{p:Aa}{e:Al}{T:List Av}{D:List BG}{n:Int}{x:CF}
def AIh(b:FY p)(a:0<=n)(c:p.nodes[n.toNat]?=J x):∀e∈Ht p n,VT p (U p.nodes) e:=(b.dep n a (by have:=l_ c;omega)).2.2
theorem Tq(l:Ar p e)(o:FY p)(m:0<=n)(k:p.nodes[n.toNat]?=J x)(f:Int):sS p T D n f=
 if x.op=2 then KM p T D n x f
  else if x.op=3 then Hy (sS p T D (Dx x 0) f) (sS p T D (Dx x 1) f)
  else if x.op=5 then Fe (sS p T D (Dx x 0) f) (sS p T D (Dx x 1) f)
  else if x.op=6\/x.op=8 then sS p T D (Dx x 0) f
  else if x.op=4 then Ka (λr=>sS p T D r f) p T x else 0:=by
 have i:=Ky l k;have h:∀j∈Ht p n,CT p T D (U p.nodes) j f=sS p T D j f:=λj q=>(ZD l T D f (AIh o m k j q) (Nat.le_succ _)).symm;rw[sS,CT,k];dsimp only;split
 .rfl
 split
 .rename_i g;have⟨a,b⟩:=i.two (.inl g);rw[h _ a,h _ b]
 split
 .rename_i g;have⟨a,b⟩:=i.two (.inr g);rw[h _ a,h _ b]
 split
 .rename_i g;rw[h _ (i.one g)]
 split
 .rename_i g;have⟨d,hd,a,b,c⟩:=i.defn g;grind [Ka,ZO,Y9]
 .rfl
theorem AM5(c:Ar p e)(f:FY p)(b:0<=n)(h:p.nodes[n.toNat]?=J x)(g:x.op=3)(a:Nat):Kc (sN p T D (Dx x 0) a+sN p T D (Dx x 1) a) (sN p T D n a):=by rw[sN,sN,sN,Tq c f b h,Co z,D3 g];exact Qa (VD ..).1 (VD ..).1
theorem AOh(c:Ar p e)(f:FY p)(b:0<=n)(h:p.nodes[n.toNat]?=J x)(g:x.op=5)(a:Nat):Kc (sN p T D (Dx x 0) a) (sN p T D n a)/\Kc (sN p T D (Dx x 1) a) (sN p T D n a):=by rw[sN,sN,sN,Tq c f b h,Co z,Co z,D3 g];grind [Fe,Kc]
theorem AOg(c:Ar p e)(f:FY p)(b:0<=n)(h:p.nodes[n.toNat]?=J x)(g:x.op=6\/x.op=8)(a:Nat):sN p T D (Dx x 0) a=sN p T D n a:=by grind [sN,Tq]
theorem AM4(g:Ar p e)(h:FY p)(f:0<=n)(m:p.nodes[n.toNat]?=J x)(k:x.op=4){d:Bc}(j:p.defs[x.n.toNat]?=J d)(i:Nat):
 Kc (sN p T D (Dx x 0) i+(d.be.map λq=>sN p T D q.node i).sum+LA (λa=>sN p T D a i) (λo=>PA (BU T x.n o)) 0 d.rules) (sN p T D n i):=by
 rw[sN,sN,Tq g h f m,Co z,Co z,Co z,Co z,D3 k,Ka,j];dsimp only;have b:=λa=>VD p T D a i;have c:=Tt (f:=λa=>sS p T D a i) b (l:=d.be.map Dy.node) (b (Dx x 0)).1 (b (Dx x 0)).2;have l:=ZA (f:=λa=>sS p T D a i) b (T:=T) (d:=x.n) (l:=d.rules) (i:=0) c.1.1 c.1.2;refine Cm (HA ?_ (ET _)) l.2;refine Cm (Gm (Nat.le_of_eq ?_)) c.2;rw[QR];rfl
theorem AKS(g:Ar p e)(h:FY p)(f:0<=n)(j:p.nodes[n.toNat]?=J x)(i:x.op=2)(k:∀c,Ir (den D n) x.n=J c->O1 p c x=X)(a:Nat):
 Kc ((if x.n=a then 1 else 0)+aS (PS T (Ir (den D n) x.n)) a 0 x.args) (sN p T D n a):=by
 rw[sN,Tq g h f j,D3 i,KM];have key:∀b,Kc ((if x.n=a then 1 else 0)+aS (PS T b) a 0 x.args) (Gx T b a 0 x.args (if x.n=a then 1 else 0)).toNat:=λb=>by grind [LU]
 grind
end
def wS(f:Nat->Nat)(C:Nat):Nat->List C4->Nat
 |_,[]=>0|i,v::l=>(if v=⟨3,(C:Int)⟩then f i else 0)+wS f C (i+1) l
theorem xx{f g:Nat->Nat}{C:Nat}(h:∀i,Kc (f i) (g i)):∀{l:List C4} {i:Nat},Kc (wS f C i l) (wS g C i l)
 :=by intro x;induction x<;>grind [ET,wS,HA]
theorem SR(f g:Nat->Nat)(C:Nat):∀(l:List C4) (i:Nat),wS (λi=>f i+g i) C i l=wS f C i l+wS g C i l
 :=by intro x;induction x<;>grind [wS]
theorem xy(C:Nat):∀(l:List C4) (i:Nat),wS (λ_=>0) C i l=0
 :=by intro x;induction x<;>grind [wS]
theorem ANI(c:Nat)(f:Nat->Nat)(C:Nat):∀(l:List C4) (i:Nat),wS (λi=>c*f i) C i l=c*wS f C i l
 :=by intro x;induction x<;>grind [wS]
theorem gN(f:Nat->Nat)(C:Nat):∀(l m:List C4) (i:Nat),wS f C i (l++m)=wS f C i l+wS f C (i+U l) m
 :=by intro x;induction x<;>grind [wS]
theorem Ot{f:Nat->Nat}{C:Nat}:∀{l:List C4} {i:Nat},(∀v∈l,v≠⟨3,(C:Int)⟩)->wS f C i l=0
 :=by intro x;induction x<;>grind [wS]
theorem uC{f:Nat->Nat}{C:Nat}:∀{l:List C4} {i k:Nat},l[k]?=J ⟨3,(C:Int)⟩->f (i+k)<=wS f C i l
 |[],i,k,h=>by simp at h|v::l,i,0,h=>by grind [wS]|v::l,i,k+1,h=>by rw[Hw]at h;have:=uC (f:=f) (i:=i+1) h;grind [wS]
theorem xk{f:Nat->Nat}{e:Nat}:∀{c:List C4} {a k:Nat},c[k]?=J ⟨3,(e:Int)⟩->(∀b,c[b]?=J ⟨3,(e:Int)⟩->b=k)->wS f e a c=f (a+k)
 |[],a,k,h,_=>by simp at h|g::c,a,0,h,hu=>by
  simp at h;rw[wS,D3 h,Ot λg l i=>?_]
  .rfl
  .obtain⟨b,j⟩:=Ci l;have:=hu (b+1) zCN;omega
 |g::c,a,k+1,h,hu=>by rw[Hw]at h;rw[wS,Co λi=>by grind [List.getElem?_cons_zero],xk h λb j=>by have:=hu (b+1) zCN;omega,I9,show a+1+k=a+(k+1) by omega]
def vb{h:Type}(c:h->Nat->Nat)(f:Nat)(g:List C4)(a:Nat):∀e:List h,wS (λa=>(e.map λb=>c b a).sum) f a g=(e.map λb=>wS (c b) f a g).sum
 |[]=>by simp;exact xy f g a|b::e=>by simp;rw[SR (c b) (λa=>(e.map λb=>c b a).sum),vb c f g a e]
def uM(c:Int->Nat->Nat)(g:Nat->Nat)(h:Nat)(i:List C4)(a:Nat):∀(f:List C6) (b:Nat),wS (λa=>LA (λe=>c e a) g b f) h a i=LA (λe=>wS (c e) h a i) g b f
 |[],b=>by simp[LA];exact xy h i a|r::f,b=>by simp[LA];rw[SR (λa=>g b*c r.node a) (λa=>LA (λe=>c e a) g (b+1) f),ANI,uM c g h i a f]
theorem vN{size:Int}{env:List C4}{a:Bz}(c:a.formed size=X){b:Nat}(h:a.value env=⟨3,(b:Int)⟩):a.op=2/\0<=a.n/\env[a.n.toNat]?=J ⟨3,(b:Int)⟩:=by
 obtain⟨op,i,l⟩:=a;by_cases f:op=1
 .grind [VO]
 .by_cases e:op=2
  .subst e;have g:=Pn c;rw[SO]at h;refine⟨rfl,g.1,?_⟩;show env[i.toNat]?=_;grind
  .obtain⟨_,_,_,j,k,rfl,_,_⟩:=Ru c f e;grind [VN]
theorem ui{size:Int}{e:List C4}{w:Nat->Nat}{C:Nat}:∀{l:List Bz} {k:Nat},(∀b∈l,b.formed size=X)->wS w C k (l.map (·.value e))<=wS (λa=>aS w a k l) C 0 e
 |[],k,_=>GS _|b::l,k,h=>by
  have g:=ui (e:=e) (w:=w) (C:=C) (l:=l) (k:=k+1) λi f=>h i (By _ f);simp only[Bv,wS,aS];rw[SR (λa:Nat=>if b.op=2/\b.n=a then w k else 0) (λa=>aS w a (k+1) l)];refine S2 ?_ g;split
  .rename_i c;have⟨h1,h2,h3⟩:=vN (h b (CO ..)) c;grind [uC]
  .exact GS _
def Dr(s:BP)(q:Fc):Int:=((s.bv[q.group.toNat]?).map Az.ip).getD 0
def JU(T:List Av)(s:BP)(q:Fc):Nat:=PA (Bx T (Dr s q) q.index)
def qW(T:List Av)(C:Nat)(c:Int×Int)(l:List (List C4)):Nat:=(l.map (wS (PS T (J c)) C 0)).sum
def Y4(b:List Av)(d:Int)(c:Nat->Nat)(a:Nat):Nat:=if PA (BU b d a)=2 then 2 else PA (BU b d a)-c a
def Zp(c:Aa)(b:List Av)(D:List BG)(e:Nat)(g:Nat->Nat)(a:Az):Nat:=match c.def? a.ip with|some d=>LA (λf=>wS (sN c b D f) e 0 a.env) (Y4 b a.ip g) 0 d.rules|none=>0
def KA(c:Aa)(b:List Av)(D:List BG)(a:Nat)(e:Nat->Nat->Nat):Nat->List Az->Nat
 |_,[]=>0|i,g::l=>Zp c b D a (e i) g+KA c b D a e (i+1) l
def PZ(T:List Av)(C:Nat)(s:BP)(l:List Fc):Nat:=(l.map λq=>qW T C (Dr s q,q.index) q.queue).sum
def LF(p:Aa)(T:List Av)(D:List BG)(C:Nat)(l:List IK):Nat:=(l.map λw=>wS (sN p T D w.node) C 0 w.env).sum
def gZ(p:Aa)(T:List Av)(D:List BG)(C:Nat)(l:List HK):Nat:=(l.map λj=>wS (sN p T D j.node) C 0 j.env).sum
def Ck(s:BP)(C:Nat):Nat:=((s.ac[C]?).map λq=>U q.queue).getD 0
structure dX:=
 base:Nat->Nat
 rx:Nat->Nat->Nat
def tot(e:Aa)(c:List Av)(D:List BG)(B:dX)(b:BP)(f:List HK)(a:Nat):Nat:=B.base a+Ck b a+PZ c a b b.ac+LF e c D a b.waits+KA e c D a B.rx 0 b.bv+gZ e c D a f
def GV(D:List BG)(s:BP)(n:Int)(e:List C4):Prop:=∀i c,Ir (den D n) i=J c->0<=i/\∃(C:Nat) (q:Fc) (g:Az),e[i.toNat]?=J ⟨3,(C:Int)⟩/\s.ac[C]?=J q/\q.index=c.2/\s.bv[q.group.toNat]?=J g/\g.ip=c.1
structure GF(p:Aa)(T:List Av)(D:List BG)(B:dX)(s:BP)(js:List HK):Prop:=
 envW:∀w∈s.waits,GV D s w.node w.env
 envG:∀g∈s.bv,∀d,p.def? g.ip=J d->∀r∈d.rules,GV D s r.node g.env
 envJ:∀j∈js,GV D s j.node j.env
 tot:∀(C:Nat) q,s.ac[C]?=J q->Kc (tot p T D B s js C) (JU T s q)
 base0:∀C,U s.ac<=C->B.base C=0
 rx0:∀i,U s.bv<=i->∀r,B.rx i r=0
 react:∀(i:Nat) g d (k:Nat) r,s.bv[i]?=J g->p.def? g.ip=J d->d.rules[k]?=J r->∀c∈r.d7,B.rx i k<=B.base (g.own d X c).toNat
def N6{D:List BG}{e f:BP}{c:Int}{a:List C4}(i:GV D e c a)(b:Za e f):GV D f c a:=λk h j=>by have⟨h0,C,q,g,h1,h2,h3,h4,h5⟩:=i k h j;have⟨l,h6⟩:=b.ch C q h2;exact⟨h0,C,_,g,h1,h6,h3,b.gr _ g h4,h5⟩
structure DQ(p:Aa)(sz:Al)(D:List BG)(T:List Av):Prop:=
 chan:∀(n:Int) x d (c:Nat),0<=n->p.nodes[n.toNat]?=J x->x.op=4->p.defs[x.n.toNat]?=J d->c<U d.ac->sS p T D n ((sz[n.toNat]?).getD 0+c)<=Mc (Bx T x.n c)
 pp:∀(n:Int) d (i:Nat) r,p.def? n=J d->d.rules[i]?=J r->Mc (BU T n i)=2\/∃c∈r.d7,Mc (Bx T n c)<=Mc (BU T n i)
 arg:∀(n:Int) x d (i:Nat) r (a:Nat) c (k:Nat) ch,0<=n->p.nodes[n.toNat]?=J x->x.op=4->p.defs[x.n.toNat]?=J d->d.rules[i]?=J r->0<Mc (BU T x.n i)->r.d7[a]?=J c->d.ac[c.toNat]?=J ch->(k:Int)<ch.many->
  sS p T D r.node ((sz[n.toNat]?).getD 0+d.own+B9 d (r.d7.take a)+k)<=Mc (FE T (x.n,c) k)
section
variable{p:Aa}{a:Al}{T:List Av}{D:List BG}{B:dX}{s:BP}{j:HK}{x:CF}{b:List HK}
theorem Wi(C:Nat)(a b:List HK):gZ p T D C (a++b)=gZ p T D C a+gZ p T D C b:=by simp[gZ]
theorem Pv(C:Nat)(a:HK)(b:List HK):gZ p T D C (a::b)=wS (sN p T D a.node) C 0 a.env+gZ p T D C b:=by simp[gZ]
def RA{js:List HK}(a:GF p T D B s (j::b))(g:∀e∈js,GV D s e.node e.env)(k:∀c,Kc (gZ p T D c js) (wS (sN p T D j.node) c 0 j.env)):GF p T D B s (js++b):=by
 refine⟨a.envW,a.envG,λe h=>?_,λc l i=>Cm ?_ (a.tot c l i),a.base0,a.rx0,a.react⟩
 .rcases Ac.1 h with f|f
  .exact g e f
  .exact a.envJ e (By _ f)
 .unfold tot;rw[Wi,Pv];exact HA (ET _) (HA (k c) (ET _))
theorem AIf(k:Ar p a)(h:Gd p a D){b:Int}(g:0<=b)(c:p.nodes[b.toNat]?=J x)(f:¬x.op=4){j:Nat}{e:Int}(i:x.kids[j]?=J e):den D e=den D b:=by have l:=l_ c;rw[h.sub b g z e (Kz.2 (fE c f i)),Z1,c];simp[Co f]
theorem fC(g:Ar p a)(f:Gd p a D)(e:0<=j.node)(k:p.nodes[j.node.toNat]?=J x)(i:¬x.op=4)(h:GV D s j.node j.env){c:Nat}:∀b∈Bj x c j.at_ j.env,GV D s b.node b.env:=by grind [Bj,GV,AIf]
theorem TF(C:Nat)(x:CF)(k:Nat)(a:Int)(e:List C4):gZ p T D C (Bj x k a e)<=wS (sN p T D (Dx x k)) C 0 e:=by grind [Bj,Dx,gZ]
theorem ANp{e f:Nat->Nat}(g:∀a,e a<=f a)(c:Int):∀(b:List Bz) (a:Nat),aS e c a b<=aS f c a b
 :=by intro x;induction x<;>grind [aS]
theorem AII(T:List Av)(b:Option (Int×Int))(a:Nat):PS T b a<=2:=by unfold PS;grind [td]
theorem xm{i:Type}(e:i->Nat):∀{f:List i} {g:Nat} {a b:i},f[g]?=J a->((f.set g b).map e).sum+e a=(f.map e).sum+e b
 |[],g,a,b,h=>by simp at h|c::f,0,a,b,h=>by simp only[Hm,F4]at h;subst h;simp only[List.set_cons_zero,Bv,List.sum_cons];omega|c::f,g+1,a,b,h=>by rw[Hw]at h;have:=xm e (b:=b) h;simp only[List.set_cons_succ,Bv,List.sum_cons];omega
theorem jT{C N:Nat}{a:Fc}{l:List (List C4)}(b:s.ac[N]?=J a):PZ T C {s with ac:=s.ac.set N {a with queue:=l}} (s.ac.set N {a with queue:=l})+qW T C (Dr s a,a.index) a.queue=PZ T C s s.ac+qW T C (Dr s a,a.index) l:=by grind [PZ,xm,Dr]
theorem AKI(C:Nat)(c:Int×Int)(l:List (List C4))(m:List C4):qW T C c (l++[m])=qW T C c l+wS (PS T (J c)) C 0 m:=by simp[qW]
theorem AGi{N:Nat}{c:Fc}{b:List (List C4)}(e:s.ac[N]?=J c)(a:Nat):Ck {s with ac:=s.ac.set N {c with queue:=b}} a=if a=N then (U b) else Ck s a:=by grind [Ck]
theorem yv{N:Nat}{e:Fc}{f:List (List C4)}(h:s.ac[N]?=J e){c:Nat}{a:Fc}(g:(s.ac.set N {e with queue:=f})[c]?=J a):∃b,s.ac[c]?=J b/\a.group=b.group/\a.index=b.index/\a.at_=b.at_:=zCN
theorem Rr{N:Nat}{c:Fc}{j:List (List C4)}(k:s.ac[N]?=J c){b:Int}{a:List C4}(f:GV D s b a):GV D {s with ac:=s.ac.set N {c with queue:=j}} b a:=λi e h=>by
 have⟨h0,C,q1,g,h1,h2,h3,h4,h5⟩:=f i e h;by_cases a:N=C
 .grind
 grind
def AAt{j:Nat}{b:Fc}{e:Az}(h:E0 p a s)(l:s.ac[j]?=J b)(k:s.bv[b.group.toNat]?=J e){c:Int}(g:Ea p s b=c):((Rk p (e.ip,b.index)).map HJ.many).getD (-1)=c:=by have⟨i,m,g2,d,ch,hc⟩:=E0.chn h.grp h.tot l;have n:=hc.group;have f:=hc.grp;rw[show i=b.group.toNat by omega,k]at f;cases f;rw[OQ hc.grp hc.st.ip hc.cha hc.group hc.index]at g;have o:=hc.index;rw[Rk];dsimp only;rw[(Cf hc.st.ip).2];show((d.ac[b.index.toNat]?).map HJ.many).getD (-1)=c;rw[show b.index.toNat=m by omega,hc.cha];exact g
theorem ACK(C:Ar p a)(F:FY p)(W:E0 p a s)(M:Cb p a s j)(ac:p.nodes[j.node.toNat]?=J x)(Q:x.op=2)(H:∀q∈x.args,q.formed (U j.env)=X)(a0:0<=x.n)(g:GF p T D B s (j::b)) {N:Nat} {e:Fc} (h:s.ac[N]?=J e) (aa:j.env[x.n.toNat]?=J ⟨3,(N:Int)⟩) (P:Ea p s e=(x.args.map (·.value j.env)).length):
 GF p T D B {s with ac:=s.ac.set N {e with queue:=e.queue++[x.args.map (·.value j.env)]}} b:=by
 have o:∀c,Kc ((if c=N then 1 else 0)+wS (PS T (J (Dr s e,e.index))) c 0 (x.args.map (·.value j.env))) (wS (sN p T D j.node) c 0 j.env):=λc=>by
  have v:(if c=N then 1 else 0)<=wS (λl:Nat=>if x.n=l then 1 else 0) c 0 j.env:=by
   split
   .grind [uC]
   .exact GS _
  have w:=ui (e:=j.env) (w:=PS T (J (Dr s e,e.index))) (C:=c) (l:=x.args) (k:=0) H;refine Cm (Gm (S2 v w)) ?_;rw[<-SR];refine xx λl=>?_;have K:=g.envJ j (CO ..);have Y:∀f,Ir (den D j.node) x.n=J f->f=(Dr s e,e.index)/\O1 p f x=true:=λf i=>by
   have⟨_,C2,q2,g2,e1,m,e3,e4,e5⟩:=K _ _ i;rw[aa]at e1;have r:C2=N:=by have:=congrArg C4.n (Kw e1);dsimp only at this;omega
   subst r;rw[h]at m;cases m;have k:Dr s e=g2.ip:=by rw[Dr,e4];rfl
   have n:f=(g2.ip,e.index):=by obtain⟨ar,av⟩:=f;dsimp only at e3 e5;rw[e3,e5]
   rw[k];refine⟨n,?_⟩;rw[O1,n,AAt W h e4 P];simp
  refine Cm (Gm (S2 (D4 _) ?_)) (AKS C F M.n0 ac Q (λf i=>(Y f i).2) l);refine ANp (λa2=>?_) _ _ _;rcases i:Ir (den D j.node) x.n with _|f
  .exact AII _ _ _
  .grind
 have az:∀c,Ck {s with ac:=s.ac.set N {e with queue:=e.queue++[x.args.map (·.value j.env)]}} c=Ck s c+if c=N then 1 else 0:=λc=>by grind [Ck]
 refine⟨λai o=>Rr h (g.envW ai o),λt L d k ag V=>Rr h (g.envG t L d k ag V),λad O=>Rr h (g.envJ ad (By _ O)),λc a3 R=>?_,λc A=>g.base0 c (by simpa using A),g.rx0,g.react⟩;have⟨q0,f1,f2,f3,_⟩:=yv h R;have a1:=g.tot c q0 f1;grind [JU,Dr,jT,AKI,tot,Pv,Kc]
theorem ACN(l:Ar p a)(m:FY p){f:C5}(C:E0 p a f.eq)(i:Cb p a f.eq j)(H:p.nodes[j.node.toNat]?=J x)(w:x.op=2)(n:∀k∈x.args,k.formed (U j.env)=X)(r:0<=x.n/\x.n<U j.env)(h:GF p T D B f.eq (j::b)) {g:C5} (e:Fw p x j f=J g):GF p T D B g.eq b:=by
 have drop:GF p T D B f.eq b:=RA (js:=[]) h AG λK=>Gm (GS _);have⟨v,hv⟩:=g_ (l:=j.env) (i:=x.n.toNat) z;have t:JI j.env x.n=v:=by rw[JI,hv];rfl
 simp[Fw,t]at e;split at e
 .cases e;exact drop
 split at e
 .rename_i q;obtain⟨s,c,rfl⟩:=Be.1 e;show GF p T D B s b;have F:=EM.1 i.v6 v (AP hv);simp[C4.inB,q]at F;rw[SI]at c;split at c
  .rename_i L A;split at c
   .rename_i o;rw[ae]at c;split at c
    .cases c;refine ACK l m C i H w n r.1 h A ?_ o.2;rw[hv];obtain⟨M,N⟩:=v;grind
    .cases c
   .cases c;exact drop
  .cases c;exact drop
 .cases e;exact drop
theorem vJ{f:C5}(a:GF p T D B f.eq (j::b)){i:C5}(c:Gz j f=J i):GF p T D B i.eq b:=by
 rw[Gz]at c;split at c
 .cases c;have g:Za f.eq {f.eq with waits:=f.eq.waits++[⟨j.at_,j.node,j.env⟩]}:=⟨λ_ _ a=>a,λ_ _ a=>a,λv k h=>⟨[],by simpa using h⟩⟩
  refine⟨λt e=>?_,λm n d c s q=>N6 (a.envG m n d c s q) g,λr o=>N6 (a.envJ r (By _ o)) g,λl k h=>?_,a.base0,a.rx0,a.react⟩
  .rcases Ac.1 e with e|e
   .exact N6 (a.envW t e) g
   .rw[AS]at e;subst e;exact N6 (a.envJ j (CO ..)) g
  .have w:=a.tot l k h;grind [tot,Pv,LF,JU,Dr,Ck,PZ]
 .cases c
end
theorem jb(i:Int):∀(a b:BG),Ir (a++b) i=(Ir a i).or (Ir b i)
 :=by intro x;induction x<;>grind [Ir]
theorem jc{i:Int}{c:Int×Int}:∀{l:BG},Ir l i=J c->(i,c)∈l
 :=by intro x;induction x<;>grind [Ir]
theorem AD1{size d:Int}{m:Nat}{i:Int}{c:Int×Int}(h:Ir (HN size d m) i=J c):∃k:Nat,k<m/\i=size+k/\c=(d,(k:Int)):=by have h:=jc h;grind [HN]
section
variable{p:Aa}{b:Al}{T:List Av}{D:List BG}{B:dX}{s:BP}{j:HK}{x:CF}{d:Bc}{a:List HK}
theorem AIe(g:Gd p b D){a:Int}(f:0<=a)(e:p.nodes[a.toNat]?=J x)(k:x.op=4)(i:p.defs[x.n.toNat]?=J d){c:Int}(h:c∈Ht p a):den D c=den D a++HN ((b[a.toNat]?).getD 0) x.n (U d.ac):=by have j:=l_ e;rw[g.sub a f z c (Kz.2 h),Z1,e];grind
theorem eU(n:Gd p b D)(c:GU p b s j x d)(o:GV D s j.node j.env){k:Int}(r:k∈Ht p j.node){a:Int}:GV D (CA s d (Aj s d x.n j)) k (Aj s d x.n j).env:=by
 intro i m f;rw[AIe n c.job.n0 c.node c.op c.ip r,jb]at f;rcases hg:Ir (den D j.node) i with _|t
 .rw[hg]at f;obtain⟨e,h,rfl,rfl⟩:=AD1 f;rw[c.job.size];simp only[F9];have v:(Ev d (Aj s d x.n j) (U s.bv) 0 d.ac)[e]?=J ⟨(U s.bv:Int),((0+e:Nat):Int),(Aj s d x.n j).place d (d.ac[e]'h).at_,[]⟩:=by rw[IB,CE h];rfl
  refine⟨z,U s.ac+e,⟨(U s.bv:Int),((0+e:Nat):Int),(Aj s d x.n j).place d (d.ac[e]'h).at_,[]⟩,Aj s d x.n j,?_,?_,?_,?_,rfl⟩
  .show(j.env++_)[_]?=_;grind [Ma]
  .show(s.ac++_)[U s.ac+e]?=_;grind
  .dsimp only;omega
  .show(s.bv++[_])[_]?=_;grind
 .rw[hg]at f;cases f;have⟨h0,C,q,g,h1,h2,h3,h4,h5⟩:=o i m hg;have⟨l,h6⟩:=c.ext.ch C q h2;refine⟨h0,C,_,g,?_,h6,h3,c.ext.gr _ g h4,h5⟩;show(j.env++_)[i.toNat]?=_;grind
theorem AMS{b e a:Nat}{c:C4}(f:c.inB p b e=X)(g:b<=a):c≠⟨3,(a:Int)⟩:=by grind [C4.inB]
theorem XJ{c e a:Nat}{b:List C4}(g:b.all (C4.inB p c e)=X)(h:c<=a):∀f∈b,f≠⟨3,(a:Int)⟩:=by grind [AMS]
theorem QM{b:Type}{a:b->Nat}:∀{l:List b},(∀c∈l,a c=0)->(l.map a).sum=0
 :=by intro x;induction x<;>grind
theorem ABu{g:Int->Nat}{Bn:Nat->Nat}:∀{l:List C6} {i:Nat},(∀r∈l,g r.node=0)->LA g Bn i l=0
 :=by intro x;induction x<;>grind [LA]
theorem sW{a:Nat}{f:Nat->Nat->Nat}:∀{b:List Az} {e:Nat},(∀c∈b,∀g∈c.env,g≠⟨3,(a:Int)⟩)->KA p T D a f e b=0
 :=by intro x;induction x<;>grind [KA,Zp,ABu,Ot]
theorem AHv(i:Ar p b)(e:E0 p b s){C:Nat}(a:U s.ac<=C)(w:Nat->Nat->Nat){g:List HK}(l:∀j∈g,Cb p b s j):
 PZ T C s s.ac=0/\LF p T D C s.waits=0/\KA p T D C w 0 s.bv=0/\gZ p T D C g=0:=by
 refine⟨QM λv o=>?_,QM λx q=>?_,sW λh k=>?_,QM λr m=>Ot (XJ (l r m).v6 a)⟩
 .obtain⟨f,c⟩:=Ci o;refine QM λt n=>?_;have:=(e.que f v c).msgs t n;grind [P1,Ot,XJ]
 .have⟨B0,hw2⟩:=Ou i (e.wait x q);exact Ot (XJ hw2.v6 a)
 .obtain⟨f,c⟩:=Ci k;have⟨d,hd⟩:=e.grp f h c;exact XJ hd.v6 a
theorem AAJ(a:Nat)(e:Nat->Nat->Nat)(f:Az):∀(c:List Az) (b:Nat),KA p T D a e b (c++[f])=KA p T D a e b c+Zp p T D a (e (b+U c)) f
 :=by intro x;induction x<;>grind [KA]
def dB(C:Nat)(g:Az):∀(l:List Dy) (k:Nat),gZ p T D C (DH d g k l)=(l.map λB0=>wS (sN p T D B0.node) C 0 g.env).sum
 |[],k=>rfl|B0::l,k=>by rw[DH,Pv,dB C g l];simp
theorem an{e:BP}(c:E0 p b s)(j:Za s e){f:Nat}{a:Fc}(k:s.ac[f]?=J a):Dr e a=Dr s a:=by have⟨i,m,g,d,ch,hc⟩:=E0.chn c.grp c.tot k;have l:=hc.group;have h:a.group.toNat=i:=z;rw[Dr,Dr,h,j.gr i g hc.grp,hc.grp]
theorem AMj(l:Ar p b)(m:FY p)(f:GU p b s j x d){rx:Nat->Nat}(r:∀c,rx c=0)(e:Nat)(i:Int):
 Kc (Zp p T D e rx (Aj s d x.n j)+gZ p T D e (DH d (Aj s d x.n j) 0 d.be++Bj x 0 i (Aj s d x.n j).env)) (wS (sN p T D j.node) e 0 (Aj s d x.n j).env):=by
 have n:p.def? x.n=J d:=by rw[Aa.def?,D3 f.n0];exact f.ip
 have t:=TF (p:=p) (T:=T) (D:=D) e x 0 i (Aj s d x.n j).env;have q:Y4 T x.n rx=λ(c:Nat)=>PA (BU T x.n c):=by
  funext c;rw[Y4,r];split
  .rename_i k;exact k.symm
  .rfl
 have o:Zp p T D e rx (Aj s d x.n j)=LA (λg=>wS (sN p T D g) e 0 (Aj s d x.n j).env) (λ(c:Nat)=>PA (BU T x.n c)) 0 d.rules:=by rw[Zp,show p.def? (Aj s d x.n j).ip=J d from n];show LA _ (Y4 T x.n rx) 0 _=_;rw[q]
 rw[o,Wi,dB];refine Cm ?_ (xx λa=>AM4 (T:=T) (D:=D) l m f.job.n0 f.node f.op f.ip a);rw[SR (λa=>sN p T D (Dx x 0) a+(d.be.map λh=>sN p T D h.node a).sum) (λa=>LA (λg=>sN p T D g a) (λ(c:Nat)=>PA (BU T x.n c)) 0 d.rules),
  SR (λa=>sN p T D (Dx x 0) a) (λa=>(d.be.map λh=>sN p T D h.node a).sum),
  vb (λ(h:Dy) a=>sN p T D h.node a),uM (λg a=>sN p T D g a)]
 grind [Gm]
theorem AFt{c:Nat->Nat}{b f:Nat}{a:Nat}(g:a<b)(e:Nat):wS c a e (Hp b f d)=0:=by grind [Ot,Hp]
theorem AFs{e:Nat->Nat}{b g a:Nat}(k:a<U d.ac)(f:Nat):wS e (b+a) f (Hp b g d)=e (f+a):=by
 refine xk (k:=a) ?_ λc j=>?_
 .grind [Ma]
 .by_cases i:c<U d.ac
  .grind [Ma]
  .by_cases h:c-U d.ac<U d.be
   .have:=Vn b g d h;grind
   grind [SC,Bc.own]
theorem AHR(A:Ar p b)(a3:FY p)(N:Gd p b D)(a2:DQ p b D T){c:C5}(R:E0 p b c.eq)(H:Cb p b c.eq j)(a5:∀i∈a,Cb p b c.eq i)(V:p.nodes[j.node.toNat]?=J x)(Q:x.op=4)(e:GF p T D B c.eq (j::a)) {Y:C5} {az:List HK} (F:Kh p x j c=J (Y,az)):GF p T D B Y.eq (az++a):=by
 have⟨d,hd⟩:=rV A R H V Q;simp only[Kh,hd.ip]at F;split at F
 .cases F;show GF p T D B (CA c.eq d (Aj c.eq d x.n j)) _;have r:=hd.ext;have⟨t,l,k1,k2,k3⟩:=(Ky A V).defn Q;rw[hd.ip]at l;cases l;have O:=e.envJ j (CO ..);have bc:∀i∈DH d (Aj c.eq d x.n j) 0 d.be++Bj x 0 j.at_ (Aj c.eq d x.n j).env,GV D (CA c.eq d (Aj c.eq d x.n j)) i.node i.env:=λi P=>by
   rcases Ac.1 P with f|f
   .obtain⟨g,bn,aa,rfl⟩:=Om f;exact eU N hd O (a:=0) (k2 bn.node (Mp (AP aa)))
   .rw[Bj]at f;split at f
    .rename_i bs bo;rw[AS]at f;subst f;refine eU N hd O (a:=0) ?_;grind [Dx]
    .cases f
  have ai:(Aj c.eq d x.n j).env=j.env++Hp (U c.eq.ac) (U c.eq.be) d:=rfl;have bh:∀s,B.rx (0+U c.eq.bv) s=0:=λs=>e.rx0 _ z s;have a':=λC=>AMj (T:=T) (D:=D) A a3 hd (rx:=B.rx (0+U c.eq.bv)) bh C j.at_;have bi:∀C,tot p T D B (CA c.eq d (Aj c.eq d x.n j)) ((DH d (Aj c.eq d x.n j) 0 d.be++Bj x 0 j.at_ (Aj c.eq d x.n j).env)++a) C=
   B.base C+Ck (CA c.eq d (Aj c.eq d x.n j)) C+PZ T C c.eq c.eq.ac+LF p T D C c.eq.waits+KA p T D C B.rx 0 c.eq.bv+gZ p T D C a+
   (Zp p T D C (B.rx (0+U c.eq.bv)) (Aj c.eq d x.n j)+gZ p T D C (DH d (Aj c.eq d x.n j) 0 d.be++Bj x 0 j.at_ (Aj c.eq d x.n j).env)):=λC=>by
   have aa:PZ T C (CA c.eq d (Aj c.eq d x.n j)) (CA c.eq d (Aj c.eq d x.n j)).ac=PZ T C c.eq c.eq.ac:=by
    show PZ T C _ (c.eq.ac++Ev _ _ _ _ _)=_;unfold PZ;rw[Ap,List.sum_append];rw[QM (l:=Ev d (Aj c.eq d x.n j) (U c.eq.bv) 0 d.ac) λk o=>?_,Nat.add_zero]
    .grind [List.map_congr_left,List.getElem?_of_mem,an]
    .obtain⟨m,n⟩:=Ci o;rw[IB]at n;obtain⟨W,ad,rfl⟩:=Be.1 n;rfl
   grind [CA,AAJ,tot,Wi]
  refine⟨λbl bk=>N6 (e.envW bl bk) r,λv h t l q K=>?_,λi P=>?_,λC k o=>?_,λC w=>e.base0 C (HE r.nc w),λm n q=>e.rx0 m ?_ q,λm v t s q h l K W ad=>?_⟩
  .rcases Ac.1 h with h|h
   .exact N6 (e.envG v h t l q K) r
   .rw[AS]at h;subst h;have:=(Cf l).2;rw[show(Aj c.eq d x.n j).ip=x.n from rfl,hd.ip]at this;cases this;exact eU N hd O (a:=0) (k3 q K)
  .rcases Ac.1 P with f|f
   .exact bc i f
   .exact N6 (e.envJ i (By _ f)) r
  .rw[bi C];by_cases w:C<U c.eq.ac
   ·
    have⟨q0,hq0⟩:=g_ w;have be:k=q0:=by have:(c.eq.ac++Ev d (Aj c.eq d x.n j) (U c.eq.bv) 0 d.ac)[C]?=J k:=o;rw[D8 w,hq0]at this;exact(Kw this).symm
    subst be;have M:JU T (CA c.eq d (Aj c.eq d x.n j)) k=JU T c.eq k:=by rw[JU,JU,an R r hq0]
    have L:Ck (CA c.eq d (Aj c.eq d x.n j)) C=Ck c.eq C:=by rw[Ck,o,Ck,hq0]
    rw[M,L];refine Cm ?_ (e.tot C k hq0);grind [gN,AFt,tot,Pv,Kc]
   ·
    have⟨z1,z2,z3,z4⟩:=AHv (T:=T) (D:=D) A R (C:=C) z B.rx a5;obtain⟨g,rfl⟩:∃g,C=U c.eq.ac+g:=⟨C-U c.eq.ac,z⟩;have ar:(Ev d (Aj c.eq d x.n j) (U c.eq.bv) 0 d.ac)[g]?=J k:=by
     have:(c.eq.ac++Ev d (Aj c.eq d x.n j) (U c.eq.bv) 0 d.ac)[U c.eq.ac+g]?=J k:=o
     rwa [EL z,Rs]at this
    rw[IB]at ar;obtain⟨a0,a4,rfl⟩:=Be.1 ar;have av:=l_ a4;have a6:=a' (U c.eq.ac+g);rw[ai,gN,Ot (XJ H.v6 z),AFs av,<-ai]at a6;have ac:=a2.chan j.node x d g H.n0 V Q hd.ip av;rw[H.size]at ac;simp at ac;have L:Ck (CA c.eq d (Aj c.eq d x.n j)) (U c.eq.ac+g)=0:=by rw[Ck,o];rfl
    have M:JU T (CA c.eq d (Aj c.eq d x.n j)) ⟨(U c.eq.bv:Int),((0+g:Nat):Int),(Aj c.eq d x.n j).place d a0.at_,[]⟩=PA (Bx T x.n g):=by
     have a1:(CA c.eq d (Aj c.eq d x.n j)).bv[((U c.eq.bv:Nat):Int).toNat]?=J (Aj c.eq d x.n j):=by show(c.eq.bv++[_])[_]?=_;rw[F2,EL (D4 _),IT];rfl
     rw[JU,Dr,a1,I9];rfl
    rw[M,L,z1,z2,z3,z4,e.base0 _ z];grind [Cm,Gm,sN,PA]
  .exact HE (by show _<=(c.eq.bv++[_]).length;simp) n
  .by_cases n:m<U c.eq.bv
   .have ag:(c.eq.bv++[Aj c.eq d x.n j])[m]?=J v:=h;rw[D8 n]at ag;exact e.react m v t s q ag l K W ad
   .rw[e.rx0 m z];exact GS _
 .cases F
theorem AHT(h:Ar p b)(s:FY p)(r:Gd p b D)(w:DQ p b D T){st:C5}(C:E0 p b st.eq)(k:Cb p b st.eq j)(A:∀g∈a,Cb p b st.eq g)(f:GF p T D B st.eq (j::a)) {i:C5} {o:List HK} (c:MR p j st=J (i,o)):GF p T D B i.eq (o++a):=by
 have⟨x,l,hx,hok,hsub,hq,_⟩:=NM h k;simp[MR,hx]at c;have t:=f.envJ j (CO ..);have q:=k.n0;split at c
 .grind [Option.map_eq_some_iff,Cq,bz,ACN,Bz.ok]
 split at c
 .rename_i n;cases c;refine RA f (λg m=>?_) λe=>?_
  .grind [fC]
  .rw[Wi];refine Cm (Gm (S2 (TF e x 0 _ _) (TF e x 1 _ _))) ?_;rw[<-SR];grind [xx,AM5]
 split at c
 .grind [AHR]
 split at c
 .rename_i n;cases c;refine RA f (λg m=>fC h r q hx z t g m) λe=>Cm (Gm (TF e x _ _ _)) (xx λv=>?_);have:=AOh (T:=T) (D:=D) h s q hx n v;grind [lj]
 split at c
 .grind [Option.map_eq_some_iff,vJ]
 .cases c;exact RA (js:=[]) f AG λe=>Gm (GS _)
theorem QS{i:HK->C5->Option C5}(k:∀j c e (a:List HK),E0 p b c.eq->Cb p b c.eq j->(∀g∈a,Cb p b c.eq g)->GF p T D B c.eq (j::a)->i j c=J e->KR p b c e/\GF p T D B e.eq a):
 ∀(f a:List HK) (c e:C5),E0 p b c.eq->(∀j∈f++a,Cb p b c.eq j)->GF p T D B c.eq (f++a)->EY i f c=J e->GF p T D B e.eq a
 |[],a,c,e,hs,hj,hU,h=>by cases h;exact hU|j::f,a,c,e,hs,hj,hU,h=>by rw[EY]at h;have⟨st1,h1,h2⟩:=He.1 h;have⟨hp,hU1⟩:=k j c st1 (f++a) hs (hj j AG) (λg l=>hj g zCN) hU h1;exact QS k f a st1 e hp.wd (λg l=>Qo (hj g zCN) hp.ext) hU1 h2
def Tx(g:Ar p b)(o:FY p)(n:Gd p b D)(m:DQ p b D T):∀(i:Nat) (j:HK) (c f:C5) (a:List HK),E0 p b c.eq->Cb p b c.eq j->(∀h∈a,Cb p b c.eq h)->GF p T D B c.eq (j::a)->KQ p i j c=J f->KR p b c f/\GF p T D B f.eq a
 |0,j,c,f,a,_,_,_,_,e=>by cases e|i+1,j,c,f,a,hs,hj,hjs,hU,e=>by
  refine⟨HV g (i+1) j c f hs hj e,?_⟩;rw[KQ]at e;split at e
  .rcases hd:MR p j {c with work:=c.work+1}with _|t
   .rw[hd]at e;cases e
   .obtain⟨v,s⟩:=t;rw[hd]at e;have l:=Xo (st:={c with work:=c.work+1}) g hs hj hd
    have q:=AHT (st:={c with work:=c.work+1}) g o n m hs hj hjs hU hd
    exact QS (λj c f a=>Tx g o n m i j c f a) s a v f l.wd (λh r=>by
     rcases Ac.1 r with k|k
     .exact l.jobs h k
     .exact Qo (hjs h k) l.ext) q e
  .cases e
end
theorem vl{f g:Nat->Nat}{e:Nat}:∀{c:List C4} {a:Nat},(∀b,b<U c->Kc (f (a+b)) (g (a+b)))->Kc (wS f e a c) (wS g e a c)
 |[],a,_=>ET _|v::c,a,h=>by
  rw[wS,wS];refine HA ?_ (vl λb i=>?_)
  .split
   .exact h 0 AG
   .exact ET _
  .have:=h (b+1) BL;grind
theorem AHk(f:Nat->Nat)(C a:Nat):∀(l:List C4) (i:Nat),wS f C (a+i) l=wS (λk=>f (a+k)) C i l
 :=by intro x;induction x<;>grind [wS]
theorem dE{f:Type}(c:f->Nat){a:List f}{b:Int}{e:f}(g:a[b.toNat]?=J e):((BF a b).map c).sum+c e=(a.map c).sum:=by
 have h:a=a.take b.toNat++e::a.drop (b.toNat+1):=by rw[<-Aq g,JP]
 grind [BF]
theorem Ob{b:BP}{N:Nat}{a:Fc}(c:b.ac[N]?=J a):Ck b N=U a.queue:=by rw[Ck,c];rfl
def Uv(d:Bc)(c:Int):Int:=((d.ac[c.toNat]?).map HJ.many).getD 0
def JW(d:Bc)(g:Az)(C:Nat):Al->Nat
 |[]=>0|c::l=>(if (g.own d X c).toNat=C then 1 else 0)+JW d g C l
theorem Qf{d:Bc}{g:Az}{C:Nat}:∀{l:Al},(∀c∈l,(g.own d X c).toNat≠C)->JW d g C l=0
 :=by intro x;induction x<;>grind [JW]
theorem ADv{d:Bc}{g:Az}:∀{l:Al} {c:Int},c∈l->1<=JW d g (g.own d X c).toNat l
 :=by intro x;induction x<;>grind [JW]
def wH{d:Bc}{g:Az}{C:Nat}:∀{l:Al},(∀(e c:Nat) a b,e<c->l[e]?=J a->l[c]?=J b->(g.own d X b).toNat≠(g.own d X a).toNat)->JW d g C l<=1
 |[],_=>GS _|a::l,h=>by
  have o:=wH (C:=C) (l:=l) λe c a b n j f=>h (e+1) (c+1) a b z zCi zCt;rw[JW];split
  .rename_i i;rw[Qf λb k f=>?_]
   .omega
   .obtain⟨c,m⟩:=Ci k;exact h 0 (c+1) a b z rfl zC2 (f.trans i.symm)
  .omega
structure vr(T:List Av)(dn:Int)(d:Bc)(g:Az)(s:BP)(c k:Int):Prop:=ex:∃q m,s.ac[(g.own d X c).toNat]?=J q/\q.queue[k.toNat]?=J m/\q.index=c/\Dr s q=dn/\(U m:Int)=Uv d c
structure ALr(T:List Av)(f:Nat->Nat)(d:Bc)(g:Az)(a C:Nat)(cs:Al)(s:BP)(t:List C4×BP):Prop:=
 w:Kc (wS f C a t.1+PZ T C t.2 t.2.ac) (PZ T C s s.ac)
 len:Ck t.2 C+JW d g C cs=Ck s C
 grp:t.2.bv=s.bv
 wts:t.2.waits=s.waits
 sps:t.2.be=s.be
 chs:∀(c:Nat) q,s.ac[c]?=J q->∃l,t.2.ac[c]?=J {q with queue:=l}
 cl:U t.2.ac=U s.ac
theorem xu{T:List Av}{dn:Int}{d:Bc}{g:Az}{f:Nat->Nat}{C:Nat}:∀{cs ks:Al} {s:BP} {a:Nat},U cs=U ks->
 (∀(c:Nat) b e,cs[c]?=J b->ks[c]?=J e->vr T dn d g s b e)->
 (∀(c p:Nat) b i,c<p->cs[c]?=J b->cs[p]?=J i->(g.own d X i).toNat≠(g.own d X b).toNat)->
 (∀(c:Nat) b (e:Nat),cs[c]?=J b->(e:Int)<Uv d b->∀o:Nat,(o:Int)=B9 d (cs.take c)->Kc (f (a+o+e)) (PS T (J (dn,b)) e))->
 ALr T f d g a C cs s (BX d g cs ks s)
 |[],ks,s,a,_,_,_,_=>by
  rw[BX]
  .exact⟨Gm (by simp[wS]),by simp[JW],rfl,rfl,rfl,λb h A=>⟨h.queue,A⟩,rfl⟩
  grind
 |b::cs,[],s,a,q,_,_,_=>by cases q|b::cs,e::ks,s,a,q,hin,hd,hf=>by
  have⟨h,m,h1,h2,h3,h4,h5⟩:=(hin 0 b e rfl rfl).ex;have t:EI s (g.own d X b) e=(m,{s with ac:=s.ac.set (g.own d X b).toNat {h with queue:=BF h.queue e}}):=by rw[EI,h1];simp[h2]
  have j:=xu (T:=T) (dn:=dn) (d:=d) (g:=g) (f:=f) (C:=C) (cs:=cs) (ks:=ks) (s:=(EI s (g.own d X b) e).2) (a:=a+U m) (by simpa using q) (λc i l k n=>?_)
   (λc p i w F k n=>hd (c+1) (p+1) i w z zCk (by simpa using n)) (λc i l k n o D=>?_)
  .rw[BX];rw[t]at j⊢;dsimp only at j⊢;refine⟨?_,?_,j.grp,j.wts,j.sps,λi r v=>?_,by rw[j.cl];simp⟩
   .have B:=j.w;have L:=jT (T:=T) (C:=C) (l:=BF h.queue e) h1;have M:qW T C (Dr s h,h.index) (BF h.queue e)+wS (PS T (J (dn,b))) C 0 m=qW T C (Dr s h,h.index) h.queue:=by rw[h4,h3];exact dE (wS (PS T (J (dn,b))) C 0) h2
    have N:Kc (wS f C a m) (wS (PS T (J (dn,b))) C 0 m):=by
     have:=AHk f C a m 0;rw[Nat.add_zero]at this;rw[this];refine vl λl H=>?_;have:=hf 0 b l rfl z 0 (by simp[B9])
     rwa [Nat.add_zero,<-I9 l]at this
    grind [gN,Kc]
   .have B:=j.len;grind [AGi,JW,zU,Ob]
   .by_cases x:(g.own d X b).toNat=i
    .subst x;rw[h1]at v;cases v;exact j.chs _ {h with queue:=BF h.queue e} zCN
    .exact j.chs _ r zCN
  .have⟨r,m2,g1,g2,g3,g4,g5⟩:=(hin (c+1) i l zCk (by simpa using n)).ex;have K:=hd 0 (c+1) b i z rfl zCk;refine⟨r,m2,?_,g2,g3,?_,g5⟩
   .grind
   .rw[t];exact g4
  .have:=hf (c+1) i l zCk n (U m+o) (by grind [B9,Uv]);grind
theorem Xt{D:List BG}{e f:BP}{i:Int}{h:List C4}(j:GV D e i h)(m:∀(b:Nat) g,e.bv[b]?=J g->f.bv[b]?=J g)(l:∀(a:Nat) q,e.ac[a]?=J q->∃c,f.ac[a]?=J c/\c.group=q.group/\c.index=q.index):GV D f i h:=λb a k=>by have⟨h0,C,q,g,h1,h2,h3,h4,h5⟩:=j b a k;grind
theorem AIs{D:List BG}{c:BP}{b:Int}{a:List C4}(f:GV D c b a)(j:List C4):GV D c b (a++j):=λi e h=>by have⟨h0,C,q,g,h1,h2⟩:=f i e h;grind
def MB(f:Nat->Nat->Nat)(c e:Nat):Nat->Nat->Nat:=λa b=>f a b+if a=c/\b=e then 1 else 0
def ABj{b:List Av}{c:Int}{e f:Nat->Nat}{a:Nat}(g:f a=e a):Y4 b c f a=Y4 b c e a:=by rw[Y4,Y4,g]
theorem ABt{f:Int->Nat}{Bn u':Nat->Nat}:∀{l:List C6} {j:Nat},(∀k,j<=k->u' k=Bn k)->LA f u' j l=LA f Bn j l
 :=by intro x;induction x<;>grind [LA]
theorem ZB{f:Int->Nat}{Bn u':Nat->Nat}:∀{l:List C6} {j k:Nat} {r:C6},j<=k->l[k-j]?=J r->(∀a,a≠k->u' a=Bn a)->Kc (u' k*f r.node+f r.node) (Bn k*f r.node)->Kc (LA f u' j l+f r.node) (LA f Bn j l)
 |[],j,k,r,_,b,_,_=>by simp at b|r0::l,j,k,r,hj,b,hu,hr=>by
  rw[LA,LA];by_cases c:j=k
  .subst c;rw[IT,Hm]at b;cases b;have:=ABt (f:=f) (Bn:=Bn) (u':=u') (l:=l) (j:=j+1) λa e=>hu a z;rw[this];refine Cm (Gm (Nat.le_of_eq ?_)) (HA hr (ET (LA f Bn (j+1) l)));omega
  .have g:=ZB (f:=f) (Bn:=Bn) (u':=u') (l:=l) (j:=j+1) (k:=k) (r:=r) z zCN hu hr;grind [HA,ET]
theorem Vh{p:Aa}{T:List Av}{D:List BG}{C:Nat}{rx:Nat->Nat->Nat}{i k:Nat}{g:Az}{d:Bc}{c:C6}(f:p.def? g.ip=J d)(h:d.rules[k]?=J c)(q:PA (BU T g.ip k)=2\/PA (BU T g.ip k)=1/\rx i k=0):
 ∀{l:List Az} {j:Nat},j<=i->l[i-j]?=J g->Kc (KA p T D C (MB rx i k) j l+wS (sN p T D c.node) C 0 g.env) (KA p T D C rx j l)
 |[],j,_,b=>by simp at b|g0::l,j,hj,b=>by
  rw[KA,KA];have r:∀a,a≠i->MB rx i k a=rx a:=λa o=>by grind [MB]
  have n:∀(l:List Az) (j:Nat),i<j->KA p T D C (MB rx i k) j l=KA p T D C rx j l:=by intro l;induction l with|nil=>intro j _;rfl|cons s l m=>grind [KA]
  by_cases e:j=i
  .subst e;rw[IT,Hm]at b;cases b;rw[n l (j+1) z,Zp,Zp,f];dsimp only;have:=ZB (f:=λa=>wS (sN p T D a) C 0 g.env) (Bn:=Y4 T g.ip (rx j)) (u':=Y4 T g.ip (MB rx j k j)) (l:=d.rules) (j:=0) (k:=k) (r:=c) (GS _) h (λa o=>ABj (by grind [MB])) (by grind [MB,Y4,Kc])
   grind [HA,ET]
  .have m:=Vh (p:=p) (T:=T) (D:=D) (C:=C) (rx:=rx) (i:=i) (k:=k) (g:=g) f h q (l:=l) (j:=j+1) z zCN;rw[r j e];refine Cm (Gm (Nat.le_of_eq ?_)) (HA (ET (Zp p T D C (rx j) g0)) m);omega
section
variable{p:Aa}{a:Al}{T:List Av}{D:List BG}{B:dX}{s:BP}
def zX(B:dX)(d:Bc)(g:Az)(r:C6)(i k:Nat):dX:=⟨λC=>B.base C+JW d g C r.d7,MB B.rx i k⟩
theorem VL(ai:Ar p a)(dr:FY p)(dq:Gd p a D)(bi:DQ p a D T)(aa:E0 p a s)(C:GF p T D B s []){r k:Nat}{c:Az}{d:Bc}{e:C6}{t:Al}(M:s.bv[r]?=J c)(F:p.def? c.ip=J d)(P:d.rules[k]?=J e)(df:A8 s.be (c.place d e.at_)=Z)(bh:Below (Cw s d c e) t)(A:Int):
 GF p T D (zX B d c e r k) (BX d c e.d7 t s).2 [⟨e.node,A,c.env++(BX d c e.d7 t s).1⟩]/\(∀b∈e.d7,(c.own d X b).toNat<U s.ac/\A8 s.be ((s.ac[(c.own d X b).toNat]?).map Fc.at_|>.getD 0)=Z)/\∀g,JW d c g e.d7<=1:=by
 have⟨V,hd⟩:=aa.grp r c M;have a0:=AP P;have N:=hd.ip;rw[F]at N;cases N;have Y:=Mh ai aa M hd a0;have bo:=Bd ai (Cf F).2;have b':=bo.ok.pp e a0;simp[Bt]at b';have av:∀b∈e.d7,(c.own d X b).toNat=(IQ p (s.bv.take r)).1+b.toNat:=λb h=>by have⟨A,n,_⟩:=Y.join b h;have:=KG hd.mine A n;omega
 have bs:∀(A n:Nat) b K,A<n->e.d7[A]?=J b->e.d7[n]?=J K->(c.own d X K).toNat≠(c.own d X b).toNat:=λA n b K cq q w=>by rw[av b (AP q),av K (AP w)];have:=OH rfl b'.2.2.2 n A K b (GS _) cq w q;have d2:=(Y.join b (AP q)).1;have dc:=(Y.join K (AP w)).1;omega
 have H:∀b∈e.d7,∃i v,s.ac[(c.own d X b).toNat]?=J i/\i.index=b/\Dr s i=c.ip/\d.ac[b.toNat]?=J v/\Ea p s i=v.many/\QB s (c.own d X b)=U i.queue:=λb h=>by have⟨c0,c1,K,i,c3,c4,c5⟩:=Y.join b h;have⟨v,H⟩:=g_ (l:=d.ac) (i:=b.toNat) z;have⟨dc,be,f2,f3,_⟩:=hd.ac _ v H;rw[<-av b h,c3]at be;cases be;refine⟨i,v,c3,z,?_,H,OQ M F H f2 f3,c5⟩;grind [Dr,Int.toNat_natCast]
 have c6:∀(j:Nat) b f,e.d7[j]?=J b->t[j]?=J f->vr T c.ip d c s b f/\0<Ck s (c.own d X b).toNat:=λj b f q w=>by have⟨i,v,a1,a2,a3,a4,a5,a6⟩:=H b (AP q);have bn:=PW bh j (QB s (c.own d X b)) f (by rw[Cw,BY,q];rfl) w;rw[a6]at bn;have⟨m,hm⟩:=g_ (l:=i.queue) (i:=f.toNat) z;have bx:=(aa.que _ i a1).msgs m (AP hm);simp only[P1,As,Dl]at bx;refine⟨⟨i,m,a1,hm,a2,a3,?_⟩,by rw[Ob a1];omega⟩;rw[bx.1,a5,Uv,a4];rfl
 have c2:U e.d7=U t:=by have:=bh.len;rw[Cw,BV]at this;exact this.symm
 have b0:∀b∈e.d7,0<Ck s (c.own d X b).toNat:=λb h=>by obtain⟨j,W⟩:=Ci h;have⟨f,hk2⟩:=g_ (l:=t) (i:=j) (by have:=l_ W;omega);grind
 have c9:∀b∈e.d7,B.base (c.own d X b).toNat+Ck s (c.own d X b).toNat<=PA (Bx T c.ip b)\/PA (Bx T c.ip b)=2:=λb h=>by have⟨i,v,a1,a2,a3,_⟩:=H b h;have ac:=C.tot _ i a1;rw[JU,a3,a2]at ac;have:=td (Bx T c.ip b);unfold tot Kc at ac;omega
 have cc:PA (BU T c.ip k)=2\/PA (BU T c.ip k)=1/\B.rx r k=0:=by
  have dx:=EF (BU T c.ip k);rcases bi.pp c.ip d k e F P with cp|⟨b,h,cp⟩
  .left;unfold PA;omega
  .have dj:=c9 b h;have dm:=b0 b h;have dn:=C.react r c d k e M F P b h;have de:=EF (Bx T c.ip b);unfold PA at*;omega
 have cs:∀(j:Nat) b (f:Nat),e.d7[j]?=J b->(f:Int)<Uv d b->∀n:Nat,(n:Int)=B9 d (e.d7.take j)->Kc (sN p T D e.node (U c.env+n+f)) (PS T (J (c.ip,b)) f):=λj b f q w n bn=>by
  have⟨c',x,s0,b1,b2,b3,b4,b5,b6,b7,b8,b9⟩:=bo.node;have⟨i,v,a1,a2,a3,a4,_⟩:=H b (AP q);have d0:=(FI ai b1 b2).1;have ds:=(Cf F).1;have ad:x.n=c.ip:=z;have cu:p.defs[x.n.toNat]?=J d:=by rw[ad];exact(Cf F).2
  have O:=hd.len;rw[b7]at O;simp at O;rw[Uv,a4]at w;have bl:=bi.arg (c':Int) x d k e j b f v z (by grind [Int.toNat_natCast]) b2 cu P (by rw[ad];unfold PA at cc;omega) q a4 w;rw[F2,b4,ad]at bl;simp at bl;rw[PS];unfold sN PA;have:=VD p T D e.node ((U c.env+n+f:Nat):Int);rw[show((U c.env+n+f:Nat):Int)=s0+d.own+B9 d (e.d7.take j)+f by omega]at*;refine Gm ?_;omega
 have up:=λg=>xu (T:=T) (dn:=c.ip) (d:=d) (g:=c) (f:=sN p T D e.node) (C:=g) (cs:=e.d7) (ks:=t) (s:=s) (a:=U c.env) c2 (λj b f q w=>(c6 j b f q w).1) bs cs;have o:=up 0;have ar:∀{ch:Int} {L:List C4},GV D s ch L->GV D (BX d c e.d7 t s).2 ch L:=λcv=>Xt cv (λr c cx=>by rw[o.grp];exact cx) λb i c8=>by have⟨l,O⟩:=o.chs b i c8;exact⟨_,O,rfl,rfl⟩
 refine⟨⟨λdd cd=>?_,λag Q V N bc a'=>?_,λj W=>?_,λg d1 az=>?_,λg bk=>?_,λR bv f=>?_,λR ag V f bc Q N a' b h=>?_⟩,λb h=>?_,λg=>wH bs⟩
 .rw[o.wts]at cd;exact ar (C.envW dd cd)
 .rw[o.grp]at Q;exact ar (C.envG ag Q V N bc a')
 .rw[AS]at W;subst W;exact AIs (ar (C.envG c (AP M) d F e a0)) _
 .have cl:=up g;have⟨q0,hq0⟩:=g_ (l:=s.ac) (i:=g) (by rw[<-o.cl];exact l_ az);have⟨l,O⟩:=o.chs g q0 hq0;rw[O]at az;cases az;have ac:=C.tot g q0 hq0;have cn:JU T (BX d c e.d7 t s).2 {q0 with queue:=l}=JU T s q0:=by rw[JU,JU,Dr,Dr,o.grp]
  rw[cn];refine Cm ?_ ac;have d3:=cl.w;have d4:=cl.len;have d5:=Vh (p:=p) (T:=T) (D:=D) (C:=g) (rx:=B.rx) (i:=r) (k:=k) (g:=c) F P cc (l:=s.bv) (j:=0) (GS _) M;unfold tot;rw[o.wts,o.grp];have cm:gZ p T D g [⟨e.node,A,c.env++(BX d c e.d7 t s).1⟩]=wS (sN p T D e.node) g 0 c.env+wS (sN p T D e.node) g (U c.env) (BX d c e.d7 t s).1:=by rw[gZ];simp;rw[gN,I9]
  rw[cm];show Kc (B.base g+JW d c g e.d7+_+_+_+KA p T D g (MB B.rx r k) 0 s.bv+_) _;unfold Kc at*;omega
 .rw[o.cl]at bk;show B.base g+JW d c g e.d7=0;rw[C.base0 g bk,Qf λb h L=>?_];grind
 .rw[o.grp]at bv;show MB B.rx r k R f=0;rw[MB,C.rx0 R bv,Co];grind
 .rw[o.grp]at Q;have:=C.react R ag V f bc Q N a' b h;show MB B.rx r k R f<=B.base _+JW d c _ e.d7;rw[MB];split
  .grind [ADv]
  .omega
 .have⟨i,v,a1,_⟩:=H b h;refine⟨l_ a1,?_⟩;rw[a1];have c7:=b0 b h;rw[Ob a1]at c7;rcases(aa.que _ i a1).dead with L|L
  .omega
  .exact L
end
