/- P -/
import Derived.Test.YtbinfhpngacfgaaGreatOn11
set_option linter.all false
set_option maxRecDepth 99999
set_option maxHeartbeats 0
open List renaming replicate->Sm,map->TC,take->TL,range->V5,length->U
open Go.IntKind renaming i64->SE
open Option renaming some->J,none->I
open Bool renaming true->X,false->Z
namespace Go
variable{p:Prop}
def zCK(h:p:=by constructor<;>first|exact Dn _ _ _ _ Af|simp only[go_sem]):p:=h
def zCL(h:p:=by simp[TV.ids]):p:=h
def zCQ(h:p:=by clear V N O P aa ac ad ag M R T K x F v p;grind [Cw,DX,cW,GA]):p:=h
def zCT(h:p:=by clear av az a0 a1 bl bn bo bc V a6 a' ac M K be;grind [Cw,DX,cW,GA]):p:=h
def zCa(h:p:=by simp[CP,AD,Ab]):p:=h
def zCj(h:p:=by simp[BS];omega):p:=h
def zCk(h:p:=by exact Ba):p:=h
def zCm(h:p:=by simpa using f):p:=h
def zCn(h:p:=by simp[*]):p:=h
def zCv(h:p:=by rw[F.1]at i;cases i):p:=h
def zC1(h:p:=by simp[c]):p:=h
def zC3(h:p:=by constructor<;>first|grind [Dn]|simp only[go_sem]):p:=h
def zDH(h:p:=by rw[BV,F3];omega):p:=h
def zDN(h:p:=by grind [GR,LP]):p:=h
def zDQ(h:p:=by grind [Pt]):p:=h
end Go
namespace Go
variable{p:Prop}
def zAO(h:p:=by
 (repeat' (first|simp only[*,go_sem]|(refine sx ?_ ?_<;>intro H)|refine sy z λm M K=>?_|simp(disch:=first|assumption|omega) only[Ad]))
 all_goals first
  |omega
  |(refine NV ?_ (λc b e=>?_)
    .clear k;grind [cr,CC.size,FZ,CC.depth,Fc,CC.formed]
    .simp only[p_,AN b,e,AM,Ge])
  |(refine S7 ?_ ?_ (λc b e=>?_)
    .clear k;grind [cr,CC.size,FZ,CC.depth,Fc,CC.formed]
    .simp[p_,q_c,CC.size,FZ]
    .simp only[p_,AN b,e,AM,Ge])):p:=h
def zAQ(h:p:=by
 (repeat' (first|simp only[*,go_sem,Nu,O0]|(refine sx ?_ ?_<;>intro b4)|refine sy z λbo a' b6=>?_|simp(disch:=first|assumption|omega) only[Ad]))
 all_goals try(exact G9 (v.1 _ _) n.1 (p.1 _) (x.1 zCQ))
 rw[Dc];refine aw ?_;exact G9 (v.1 _ _) n.1 (p.1 _) (x.1 zCQ)):p:=h
def zAS(h:p:=by simp only[DO,HW,NO,I5,forall_eq];omega):p:=h
def zAX(h:p:=by grind [cr,CC.size,FZ,CC.depth,Fc,CC.formed]):p:=h
def zAb(h:p:=by
 (repeat' (first|simp only[*,go_sem,J2,QS]|(refine sx ?_ ?_<;>intro a2)|refine sy z λW Q a4=>?_|simp(disch:=first|assumption|omega) only[Ad]))
 all_goals try(exfalso;omega)
 all_goals (exact E8 (M.1 zCT))):p:=h
def zAg(h:p:=by
 have:¬((¬Z∈a.met)/\(¬Z∈a.defs)):=λh=>by rw[<-Me,<-Me]at h;have:=f.1;rw[h.1,h.2]at this;cases this
 rw[Co this]at q;exact⟨λ_=>⟨_,_,_,_,_,_,_,_,_,rfl,by(simp only[go_sem];try rfl)⟩,λa i=>(by rw[q]at i;cases i)⟩):p:=h
def zAi(h:p:=by
 refine BM func80 ?_
 (repeat' (first|simp only[*,go_sem]|(refine sx ?_ ?_<;>intro b)|refine sy z λg f e=>?_|simp(disch:=first|assumption|omega) only[Ad]))
 all_goals simp only[B7]
 all_goals grind):p:=h
def zAj(h:p:=by
 refine BM func43 ?_
 (repeat' (first|simp only[*,go_sem]|(refine sx ?_ ?_<;>intro a)|refine sy z λf e c=>?_|simp(disch:=first|assumption|omega) only[Ad]))
 all_goals simp only[cJ]
 all_goals grind):p:=h
def zAk(h:p:=by constructor<;>first|exact Dn _ _ _ _ Af|simp only[go_sem]):p:=h
def zAm(h:p:=by
 have:=OP.1 h;constructor
 .intro h;cases h
 grind):p:=h
def zAn(h:p:=by
 refine aw ?_;rw[Dc]
 (repeat' (first|simp only[*,go_sem]|(refine sx ?_ ?_<;>intro ad)|refine sy z λa3 a1 az=>?_|simp(disch:=first|assumption|omega) only[Ad]))
 all_goals exact HQ c (v.1 rfl)):p:=h
def zAo(h:p:=by simp only[FU,slv,l,p,Ge,IS];simp only[go_sem]):p:=h
def zAz(h:p:=by
 (repeat' (first|simp only[*,go_sem]|(refine sx ?_ ?_<;>intro e)|refine sy z λh g f=>?_|simp(disch:=first|assumption|omega) only[Ad]))
 all_goals grind [xO]):p:=h
def zA1(h:p:=by exact⟨_,by(simp only[go_sem];rfl)⟩):p:=h
def zA5(h:p:=by
 rw[e,O1]at c
 (repeat' (first|simp only[*,go_sem,O1]|(refine sx ?_ ?_<;>intro g)|refine sy z λk i h=>?_|simp(disch:=first|assumption|omega) only[Ad]))):p:=h
def zA7(h:p:=by
 obtain rfl:=l.of hv;have s:looks c=none:=by unfold looks;rw[hv];split<;>rfl
 clear l;refine aw ?_;exact⟨λ_=>rfl,λa e=>by rw[s]at e;cases e⟩):p:=h
def zBD(h:p:=by
 rw[f]
 (repeat' (first|simp only[*,go_sem,XA]|(refine sx ?_ ?_<;>intro i)|refine sy z λn k j=>?_|simp(disch:=first|assumption|omega) only[Ad]))):p:=h
def zBG(h:p:=by exact⟨_,by(simp only[go_sem];try rfl)⟩):p:=h
def zBJ(h:p:=by simp only[DO,HW,NO,forall_eq];omega):p:=h
def zBM(h:p:=by
 have:Bg c (U c.nodes+1) c.main (U c.free) (Bu.init c)=none:=by rw[Bg,Co];intro W;have:=l_ W.2;simp[Bu.init]at this;omega
 rw[this]):p:=h
def zBU(h:p:=by
 rcases Io.1 a with b|a
 .have:=congrArg U b;simp at this
 rcases Io.1 a with b|a
 .grind
 .have:=a.length_le;simp at this;omega):p:=h
def zBc(h:p:=by refine aw ?_;refine a5.1 ((_,_),_) ⟨yK e n.1 (p.1 _) AG,⟨?_⟩⟩;rw[b8.1,F6];cases CC.ok size bc<;>simp):p:=h
def zBl(h:p:=by simp only[go_sem,Bu.init]):p:=h
def zBw(h:p:=by have R:=AN r;have a3:AJ a6 f=false:=AI λl=>H (by simp[AD,l]);simp only[go_sem,R,a3,AM]):p:=h
def zBx(h:p:=by exact absurd p ‹_›):p:=h
def zBy(h:p:=by have:=congrArg (λl=>l[0]?) h;simpa using this):p:=h
def zBz(h:p:=by
 rcases c with c|c
 .exact w.apart N c z
 .simp only[AD,AS]at c;subst c;exact Fx _ _ _ _ z):p:=h
def zB7(h:p:=by replace bx:=bx.1;clear V N O P aa ac ad ag M R T K x F v p e t B;grind [Cw,DX,cW,GA]):p:=h
def zCB(h:p:=by refine aw ?_;exact HQ e (W.1 rfl)):p:=h
def zCE(h:p:=by obtain rfl:=v.of n;clear v;refine aw ?_;refine E8 (m.1.trans ?_);simp[Cn,C5,n]):p:=h
end Go
namespace Go.Proofs
open Abs Tryz
def O0(op:Int):Int×Int×Bool:=
 if op=1 then(0,0,X)else if op=7 then(0,0,X)else if op=2 then(-1,0,X)else if op=3 then(0,2,X)else if op=5 then(1,2,X)
 else if op=4 then(0,1,X)else if op=6 then(0,1,X)else if op=8 then(0,1,X)else(0,0,Z)
def Nu(op:Int):Bq kT 168 [nI op] []=.ok (.ret (.kw [nI ((O0 op).1),nI ((O0 op).2.1),.d (.bool (O0 op).2.2)]),[]):=by
 refine BM func168 ?_
 (repeat' (first|simp only[*,go_sem]|(refine sx ?_ ?_<;>intro a)|refine sy z λe c b=>?_|simp(disch:=first|assumption|omega) only[Ad]))
 all_goals simp[O0, *]
structure XL(x:CC)(size depth n:Int)(h:S)(π:u)(idn:u)(o:BG)(h':S):Prop:=
 ret:cr x size depth (60-n)->o=.ret (.kw [])/\h'.get idn=J (.box [nI (n+x.size)])
 of:¬cr x size depth (60-n)->o=.of Jm
 frame:∀id',AE π id'=Z->AJ idn id'=Z->h'.get id'=h.get id'
variable{size a:Int}{h f:S}{π:u}
def NV{g:CC}{e:Int}{c:u}(j:¬cr g size a (60-e))(i:∀b,AE π b=Z->AJ c b=Z->f.get b=h.get b):XL g size a e h π c (.of Jm) f:=⟨λh=>absurd h j,λ_=>rfl,i⟩
def S7{g:CC}{e:Int}{c:u}(k:cr g size a (60-e))(j:f.get c=J (.box [nI (e+g.size)]))(i:∀b,AE π b=Z->AJ c b=Z->f.get b=h.get b):XL g size a e h π c (.ret (.kw [])) f:=⟨λ_=>⟨rfl,j⟩,λh=>absurd k h,i⟩
theorem AI4(m:CC):∀(size a l:Int) (h:S) (π:u) (g j i:u),h.get g=J (.box [nI l])->h.get j=J (.box [nI size])->h.get i=J (.box [.fn 217 [] [.ptr g 0,.ptr j 0,.ptr i 0]])->AE π g=Z->AE π j=Z->AE π i=Z->AJ g j=Z->AJ g i=Z->0<=l->l<=60->1<=a->a<=70->
 ∃Y f,kT (.fn 217) [.agg [nI m.op,nI m.n,.d (.co (m.kids.map Bm))],nI a,.ptr g 0,.ptr j 0,.ptr i 0] h π X I=.ok (Y,f)/\XL m size a l h π g Y f:=by
 induction m using CC.ind with
 |h op a6 ai k=>
 intro size a l h π g j i ag Q P L T R p o a1 a2 a3 a4;simp only[CC.op_mk,CC.n_mk,CC.q_G]at*;have aa:=AN L;have bi:=Av L;have A:=AL L;have v1:=AN T;have B:=AL T;have N:=AN R;have C:=AL R;have bk:SE.wrap (l+1)=l+1:=w_ z z;have bl:SE.wrap (a+1)=a+1:=w_ z z;refine Bf func217 ?_;have k:=AB k;rcases ai with _|⟨q,_|⟨D,_|⟨a0,a5⟩⟩⟩
 ·(repeat' (first|simp only[*,go_sem]|(refine sx ?_ ?_<;>intro H)|refine sy z λm M K=>?_|simp(disch:=first|assumption|omega) only[Ad]))
  all_goals try(rw[Dc];refine aw ?_)
  all_goals first
   |omega
   |(refine NV ?_ (λc b e=>?_)
     .clear k;exact zAX
     .simp only[p_,AN b,e,AM,Ge])
   |(refine S7 ?_ ?_ (λc b e=>?_)
     .clear k;exact zAX
     .simp[p_,q_c,CC.size,FZ]
     .simp only[p_,AN b,e,AM,Ge])
 ·exact zAO
 .have s:=AR.mk (k.1 q AG);have t:=AR.mk (k.1 D AG);clear k;have be:=Za q;have bh:=Za D
  (repeat' (first|simp only[*,go_sem]|(refine sx ?_ ?_<;>intro H)|refine sy z λm M K=>?_|simp(disch:=first|assumption|omega) only[Ad]))
  all_goals try
   (refine NV ?_ (λc b e=>?_)
    .clear s t;exact zAX
    .simp only[p_,AN b,e,AM,Ge])
  all_goals (rw[Dc];refine aw ?_)
  all_goals
   refine Ak (s.1 size (a+1) (l+1) _ _ g j i ?_ ?_ ?_ (A _) (B _) (C _) p o ?_ ?_ ?_ ?_) (λa' F v=>?_)
   .simp only[go_sem,aa,ag]
   .simp only[go_sem,v1,p,Q,AM]
   .simp only[go_sem,N,o,P,AM]
   .omega
   .omega
   .omega
   .omega
   have x:=v.frame;have az:F.get j=J (.box [nI size]):=by rw[x j (B _) p];simp only[go_sem,v1,p,Q,AM]
   have ac:F.get i=J (.box [.fn 217 [] [.ptr g 0,.ptr j 0,.ptr i 0]]):=by rw[x i (C _) o];simp only[go_sem,N,o,P,AM]
   have r:∀c,AE π c=Z->AJ g c=Z->F.get c=h.get c:=λc b e=>by rw[x c (AL b _) e];simp only[p_,AN b,e,AM,Ge]
   clear x;by_cases V:cr q size (a+1) (60-(l+1))
   .obtain⟨rfl,ar⟩:=v.ret V;clear v;have r:=AB r;refine aw ?_;rw[Dc];refine aw (Ak (t.1 size (a+1) (l+1+q.size) _ _ g j i ?_ ?_ ?_ (A _) (B _) (C _) p o ?_ ?_ ?_ ?_) (λbc ad w=>?_))
    .simp only[go_sem,aa,A,ar,AM]
    .simp only[go_sem,v1,B,p,az,AM]
    .simp only[go_sem,N,C,o,ac,AM]
    .omega
    .grind [cr]
    .omega
    .omega
    have O:=w.frame;have n:∀c,AE π c=Z->AJ g c=Z->ad.get c=h.get c:=λc b e=>by rw[O c (AL b _) e];simp only[p_,AN b,An _ _ _ (AL b _),r.1 c b e,AM,Ge]
    have n:=AB n;clear O r;by_cases W:cr D size (a+1) (60-(l+1+q.size))
    .obtain⟨rfl,av⟩:=w.ret W;clear w;refine aw ?_;rw[Dc];refine aw (S7 ?_ ?_ λc b e=>?_)
     .clear s t n;exact zAX
     .rw[An _ _ _ (A _),av];simp[CC.size,FZ];omega
     .rw[An _ _ _ (AL b _),n.1 c b e]
    .obtain rfl:=w.of W;clear w;refine aw (NV ?_ λc b e=>?_)
     .clear s t n;exact zAX
     .rw[An _ _ _ (AL b _),n.1 c b e]
   .obtain rfl:=v.of V;clear v;refine aw (NV ?_ (λc b e=>?_))
    .clear s t;exact zAX
    .rw[An _ _ _ (AL b _),r c b e]
 ·exact zAO
def AMf(a:CC)(size:Int):Bq kT 212 [.agg [nI a.op,nI a.n,.d (.co (a.kids.map Bm))],nI size] []=.ok (dw Jm (a.ok size)):=by
 refine BM func212 ?_;refine aw (Ak (AI4 a size 1 0 _ _ [0,2] [0,1] [0,4] rfl rfl rfl rfl rfl rfl rfl rfl ?_ ?_ ?_ ?_) (λg f b=>?_))
 .omega
 .omega
 .omega
 .omega
 have e:cr a size 1 (60-0)↔a.ok size=true:=ANJ a size;rcases c:a.ok size with _|_
 .obtain rfl:=b.of (λh=>by rw[e.1 h]at c;cases c);clear b;refine aw ?_;rfl
 .obtain⟨rfl,i⟩:=b.ret (e.2 c);clear b;refine aw ?_;rfl
def slv(b:u)(a:Nat):y:=if a=0 then .emp else .ii b 0 a
theorem Bs{b:u}{a:Nat}(h:a≠0):slv b a=.ii b 0 a:=by rw[slv,Co h]
structure il(π:u)(l sz mt df:u):Prop:=
 ul:AE π l=Z
 us:AE π sz=Z
 um:AE π mt=Z
 ud:AE π df=Z
 ls:AJ l sz=Z
 lm:AJ l mt=Z
 ld:AJ l df=Z
 sl:AJ sz l=Z
 sm:AJ sz mt=Z
 sd:AJ sz df=Z
 ml:AJ mt l=Z
 ms:AJ mt sz=Z
 md:AJ mt df=Z
 dl:AJ df l=Z
 ds:AJ df sz=Z
 dm:AJ df mt=Z
structure Lg(h:S)(p:Aa)(l sz mt df:u)(st:Bu):Prop:=
 box:h.get l=J (.box [.d (.co (p.free.map CK)),.d (.co (p.nodes.map Bl)),.d (.co (p.defs.map Bw)),nI p.main,slv sz (U p.nodes),slv mt (U p.nodes),slv df (U p.defs)])
 eq:U p.nodes≠0->h.get sz=J (.f8 1 (st.eq.map AX))
 met:U p.nodes≠0->h.get mt=J (.f8 1 (st.met.map Dd))
 defs:U p.defs≠0->h.get df=J (.f8 1 (st.defs.map Dd))
structure XQ(p:Aa)(l sz mt df:u)(h:S)(π:u)(r:Option Bu)(o:BG)(h':S):Prop:=
 ret:∀d8,r=J d8->o=.ret (.kw [])/\Lg h' p l sz mt df d8/\∀id',AE π id'=Z->AJ sz id'=Z->AJ mt id'=Z->AJ df id'=Z->h'.get id'=h.get id'
 of:r=I->o=.of Jm
variable{l c:u}
def E8{g:Aa}{i mt:u}{b:Option Bu}(e:b=I):XQ g l i mt c h π b (.of Jm) f:=⟨λj a=>by{rw[e]at a;cases a},λ_=>rfl⟩
@[go_sem] theorem APg:cfg.meth 307 "cabotage/scope.kids" =J 236:=rfl
@[go_sem] theorem APh:cfg.meth 308 "cabotage/scope.kids" =J 237:=rfl
@[go_sem] theorem APi:cfg.meth 309 "cabotage/scope.kids" =J 238:=rfl
@[go_sem] theorem APj:cfg.meth 310 "cabotage/scope.kids" =J 239:=rfl
@[go_sem] theorem APk:cfg.meth 314 "cabotage/scope.kids" =J 240:=rfl
structure B4(p:Aa)(l sz mt df:u)(h:S)(π:u)(L:List (Nat×Abs.Obj))(st:Bu)(g:S):Prop:=
 looks:Lg g p l sz mt df st
 node:∀q∈L,g.get (0::q.1::π)=J q.2
 frame:∀id',AE π id'=Z->AJ sz id'=Z->AJ mt id'=Z->AJ df id'=Z->g.get id'=h.get id'
def HI{b mt:u}(h:il π l b mt c)(a:Nat):il (a::π) l b mt c:={h with ul:=AL h.ul a,us:=AL h.us a,um:=AL h.um a,ud:=AL h.ud a}
theorem dt(c e:Nat)(π:u)(h:c≠e):AE (c::π) (0::e::π)=false:=IZ λa=>by exact zBU
variable{a:Bu}{ρ:u}
def P7{g:S}{i:Aa}{f mt:u}(h:Lg g i l f mt c a)(e:il ρ l f mt c):Lg (gc ρ g) i l f mt c a:=⟨by rw[An _ _ _ e.ul];exact h.box,λb=>by rw[An _ _ _ e.us];exact h.eq b,λb=>by rw[An _ _ _ e.um];exact h.met b,λb=>by rw[An _ _ _ e.ud];exact h.defs b⟩
variable{L:List (Nat×Abs.Obj)}{j:Nat}{o:Abs.Obj}
def KB{p:Aa}{i mt:u}{k:S}(b:B4 p l i mt c h π L a k)(g:il π l i mt c)(v:∀f∈L,j≠f.1):B4 p l i mt c h π L a (k.put (0::j::π) o):=by
 refine⟨⟨?_,λe=>?_,λe=>?_,λe=>?_⟩,λf n=>?_,λw m r s t=>?_⟩
 .rw[p_,AN g.ul];exact b.looks.box
 .rw[p_,AN g.us];exact b.looks.eq e
 .rw[p_,AN g.um];exact b.looks.met e
 .rw[p_,AN g.ud];exact b.looks.defs e
 .have:AJ (0::j::π) (0::f.1::π)=false:=AI λq=>v f n (by simpa using q);rw[p_,this];exact b.node f n
 .rw[p_,AN m];exact b.frame w m r s t
variable{d8:Bu}{e:S}
def Tq{m:Aa}{g mt:u}{n:S}(r:B4 m l g mt c h π L a n)(i:il π l g mt c)(w:∀f∈L,j≠f.1)(x:Lg e m l g mt c d8)(s:∀b,AE (j::π) b=Z->AJ g b=Z->AJ mt b=Z->AJ c b=Z->e.get b=n.get b):B4 m l g mt c h π L d8 (gc (j::π) e):=by
 refine⟨P7 x (HI i j),λf t=>?_,λb k o p q=>?_⟩
 .have v:=dt j f.1 π (w f t);rw[An _ _ _ v,s _ v (Av i.us _ _) (Av i.um _ _) (Av i.ud _ _)];exact r.node f t
 .rw[An _ _ _ (AL k j),s _ (AL k j) o p q];exact r.frame b k o p q
def JI{c:Aa}(h:a.fit c)(b:yj a d8):d8.fit c:=⟨b.eq.trans h.eq,b.met.trans h.met,b.defs.trans h.defs⟩
def AEk(x:CC)(size:Int):Bq kT 212 [.agg [nI x.op,nI x.n,.d (.co (x.kids.map Bm))],nI size] []=DV Jm (x.ok size):=by rw[AMf,qi]
def S8(d:Bd):Bq kT 213 [.agg [.d (.co (d.ac.map BW)),.d (.co (d.be.map BH)),.d (.co (d.rules.map BR))]] []=DV Jm d.okG:=by rw[AMb,qi]
variable{k:Nat}
theorem Sf{p:Aa}{b:Int}{c:CQ}(e:0<=b)(f:a.met[b.toNat]?=J Z)(g:p.nodes[b.toNat]?=J c):Bg p (k+1) b size a=if Cw p size c=X then match Wu p size c (a.meet b size)with|some (l,st2)=>C5 (Bg p k) l st2|none=>I
 else none:=by grind [Bg]
theorem dv{p:Aa}{b:Int}{c:CQ}(f:0<=b)(g:a.met[b.toNat]?=J Z)(h:p.nodes[b.toNat]?=J c)(e:Cw p size c=Z):Bg p (k+1) b size a=none:=by grind [Sf]
def QF(b:Aa)(A:U b.nodes<=60)(e size:Int)(a:Bu)(h:S)(π:u)(l j mt c:u)(p:a.fit b)(q:il π l j mt c)(r:Lg h b l j mt c a)(g:0<=e->e<U b.nodes->a.met[e.toNat]?=J X):
 ∃o f,kT (.fn 201) [.ptr l 0,nI e,nI size] h π X I=.ok (o,f)/\XQ b l j mt c h π I o f:=by
 obtain⟨ul,V,T,R,K,H,F,P,Q,O,M,N,L,dl,x,w⟩:=q;obtain⟨v,n,m,k⟩:=r;have n:=AB n;have k:=AB k;have g:=AB g;have B:=p.met;refine Bf func201 ?_;by_cases s:0<=e
 .by_cases t:e<U b.nodes
  .have i:U b.nodes≠0:=z;have C:e.toNat<U b.nodes:=z;have D:=g.1 s t;have m:=m i;rw[Bs i,Bs i]at v;exact aw (E8 rfl)
  .exact aw (E8 rfl)
 .exact aw (E8 rfl)
theorem yA(b:Aa)(b6:U b.nodes<=60)(d5:U b.defs<=12):∀(k:Nat) (i size:Int) (a:Bu) (h:S) (π:u) (l p mt c:u),Gk a.met<=k->a.fit b->0<=size->size+70*k<=5000->il π l p mt c->Lg h b l p mt c a->
 ∃o f,kT (.fn 201) [.ptr l 0,nI i,nI size] h π X I=.ok (o,f)/\XQ b l p mt c h π (Bg b k i size a) o f:=by
 intro k;induction k with
 |zero=>intro i size a h π l p mt c df x cx de b8 b9;refine QF b b6 i size a h π l p mt c x b8 b9 λb4 b5=>?_;obtain⟨bs,ad⟩:=g_ (l:=a.met) (i:=i.toNat) (by rw[x.met];omega);cases bs with|true=>exact ad|false=>have:=HS ad;omega
 |succ k K=>
 intro i size a h π l p mt c df x cx de b8 b9;have r:=AB b8;obtain⟨ul,c9,c8,c7,er,en,el,c5,c6,d0,c4,es,ds,dl,dc,c'⟩:=b8;have O:=AB b9;obtain⟨V,a',a6,cc⟩:=b9;have av:=AN ul;have az:=AN c9;have a0:=AN c8;have a1:=AN c7;have bl:=Av ul;have bn:=Av c9;have bo:=Av c8;have bc:=Av c7;by_cases b':0<=i
 .by_cases dm:i<U b.nodes
  .have a5:U b.nodes≠0:=z;have dj:i.toNat<U b.nodes:=z;obtain⟨W,Q⟩:=g_ dj;obtain⟨bs,ad⟩:=g_ (l:=a.met) (i:=i.toNat) (by rw[x.met];omega);obtain⟨e5,ej⟩:=g_ (l:=a.eq) (i:=i.toNat) (by rw[x.eq];omega);have a6:=a6 a5;have a':=a' a5;rw[Bs a5,Bs a5]at V;have K:=AB K;have cc:=AB cc;have ec:=x.eq;have eb:=x.met;cases bs with
   |true=>
    have bx:Bg b (k+1) i size a=none:=by rw[Bg,Co];rw[ad];simp
    rw[bx];exact QF b b6 i size a h π l p mt c x r.1 O.1 λ_ _=>ad
   |false=>
    refine Bf func201 ?_;have ac:=AR.mk (Sf (p:=b) (k:=k) (size:=size) b' ad Q);have M:=AR.mk (dv (p:=b) (k:=k) (size:=size) b' ad Q);obtain⟨A,C,L,T⟩:=W;have be:AR (∀o bk,B4 b l p mt c h π [(46,bk)] (a.meet i size) ((((h.put mt (.f8 1 ((TC Dd a.met).set i.toNat [.bool X]))).put p (.f8 1 ((TC AX a.eq).set i.toNat [.int .i64 size]))).put (0::46::π) o).put (0::46::π) bk)):=.mk λo bk=>by
     refine⟨⟨?_,λ_=>?_,λ_=>?_,λb7=>?_⟩,?_,λdr b4 b5 cl c0=>?_⟩
     .rw[Bs a5,Bs a5];simp[p_,av,c5,c4,V]
     .simp only[p_,az,q_c,AM,Ge,IS,Bu.meet,I2];rfl
     .simp only[p_,a0,c6,q_c,AM,Ge,IS,Bu.meet,I2];rfl
     .simp[p_,a1,d0,ds,Bu.meet,cc.1 b7]
     .intro cv bh;cases AS.1 bh;simp[p_]
     .simp[p_,AN b4,b5,cl]
    by_cases dx:A=4
    .subst dx;by_cases e6:C<0
     ·exact zAb
     by_cases e7:(U b.defs:Int)<=C
     ·exact zAb
     have e8:0<=C:=z;have e9:C<U b.defs:=z;have cm:U b.defs≠0:=z;have dq:C.toNat<U b.defs:=z;obtain⟨d,b7⟩:=g_ dq;obtain⟨bs,c3⟩:=g_ (l:=a.defs) (i:=C.toNat) (by rw[x.defs];omega);have ea:=x.defs;have em:=cc.1 cm;rw[Bs cm]at V;have b0:Wu b size ⟨4,C,L,T⟩ (a.meet i size)=if a.defs[C.toNat]?=J Z/\d.okG=X then J (DP d (size+d.own) d.rules++(Cx (size+d.own) d.be++Cn (size+d.own) T),{a.meet i size with defs:=a.defs.set C.toNat X})else none:=by rw[Wu,D4 rfl,b7];rfl
     have b0:=AB b0;have c1:AR (∀o bk cd,B4 b l p mt c h π [(131,bk),(46,cd)] {a.meet i size with defs:=a.defs.set C.toNat X} (((((((h.put mt (.f8 1 ((TC Dd a.met).set i.toNat [.bool X]))).put p (.f8 1 ((TC AX a.eq).set i.toNat [.int .i64 size]))).put (0::46::π) (.box [nI 0,nI 0,.d9,.d9])).put (0::46::π) cd).put c (.f8 1 ((TC Dd a.defs).set C.toNat [.bool X]))).put (0::131::π) o).put (0::131::π) bk)):=.mk λo bk cd=>by
      refine⟨⟨?_,λ_=>?_,λ_=>?_,λb7=>?_⟩,?_,λdr b4 b5 cl c0=>?_⟩
      .rw[Bs a5,Bs a5,Bs cm];simp[p_,av,c5,c4,dl,V]
      .simp only[p_,az,dc,q_c,AM,Ge,IS,Bu.meet,I2];rfl
      .simp only[p_,a0,c6,c',q_c,AM,Ge,IS,Bu.meet,I2];rfl
      .simp only[p_,a1,q_c,AM,Ge,IS,I2];rfl
      .simp;simp only[go_sem,bc]
      .simp[p_,AN b4,b5,cl,c0]
     by_cases cp:bs=Z/\d.okG=X
     .obtain⟨rfl,cn⟩:=cp;have a3:=VK cn;have d1:=a3.ac;have d2:=a3.be;have d3:=a3.rules;have eg:=ZE a3;have ef:=ANP d z z;have a3:=AB a3
      (repeat' (first|simp only[*,go_sem,J2,QS,S8]|(refine sx ?_ ?_<;>intro a2)|refine sy z λW Q a4=>?_|simp(disch:=first|assumption|omega) only[Ad]))
      all_goals try(exfalso;omega)
      all_goals try(exact E8 (M.1 zCT))
      rw[Dc]
      (repeat' (first|simp only[*,go_sem,S8]|(refine sx ?_ ?_<;>intro a2)|refine sy z λW Q a4=>?_|simp(disch:=first|assumption|omega) only[Ad]))
      refine CZ d.rules _ (λag j e=>⟨[(0,.ptr l 0),(2,nI (size+(d.own:Int))),(6,.ptr (0::46::π) 0),(11,.ptr (0::131::π) 0),(190,.d (.co (d.rules.map BR))),(191,nI ag),(192,nI j)],e.1.1,e.2+144,[]⟩)
       (Inv:=λj ar e=>B4 b l p mt c h π [(131,.box [.d (.co (d.ac.map BW)),.d (.co (d.be.map BH)),.d (.co (d.rules.map BR))]),(46,.box [nI 4,nI C,.d (.co (L.map Bm)),.d (.co (T.map AX))])] e.1.2 e.1.1/\e.1.2.fit b/\Gk e.1.2.met<=k/\AR (Bg b (k+1) i size a=C5 (Bg b k) (DP d (size+d.own) ar++(Cx (size+d.own) d.be++Cn (size+d.own) T)) e.1.2)) (b0:=((_,{a.meet i size with defs:=a.defs.set C.toNat X}),_)) ?_ ⟨c1.1 _ _ _,?_,?_,⟨?_⟩⟩ ?_ ?_
      .rfl
      .have:=Tk x i size;exact⟨this.eq,this.met,by simp[x.defs]⟩
      .have:=HS ad;simp only[Bu.meet];omega
      .rw[ac.1,D4,b0.1,D4 ⟨c3,cn⟩];have d4:((U L:Int)=0):=Cc;have ek:L=[]:=CE z;clear av az a0 a1 bl bn bo bc V a6 a' ac M K be c1 a3 b0;grind [Cw,DX,cW,GA]
      .rintro j ai ⟨⟨w,t⟩,D⟩ b3 F H ⟨g,q,s,m⟩ Y;dsimp only at*;have aa:=g.node _ (CO ..);dsimp only at aa;have b1:=SW a3.1 (AP b3);have d7:=zM d ai b1;have d9:=OB b1.2.2 ai.d7;have d':=b1.1;have b1:=AB b1;refine aw ?_;refine Fw (K.1 ai.node (size+d.own+CJ d ai.d7) t _ _ l p mt c s q z z (HI r.1 _) (KB (KB g r.1 ?_) r.1 ?_).looks) (λcu ch v=>?_)
       .exact zAS
       .exact zAS
       cases n:Bg b k ai.node (size+d.own+CJ d ai.d7) t with
       |none=>obtain rfl:=v.of n;clear v;refine aw ?_;refine E8 (m.1.trans ?_);simp[DP,C5,n]
       |some R=>
        obtain⟨rfl,O,B⟩:=v.ret R n;have B:=AB B;clear v;refine aw ?_;have N:=DE b _ _ _ _ _ n;refine Y.1 ((_,R),_) ⟨Tq (KB (KB g r.1 ?_) r.1 ?_) r.1 ?_ O B.1,JI q N,Gt N.less s,⟨?_⟩⟩
        .exact zAS
        .exact zAS
        .exact zAS
        .rw[m.1];simp[DP,C5,n]
      .rintro j ⟨⟨w,t⟩,D⟩ F H ⟨g,q,s,m⟩;dsimp only at*;have aa:=g.node _ (CO ..);have bi:=g.node _ (Bi _ (CO ..));dsimp only at aa bi;refine aw ?_;refine CZ d.be _ (λag j e=>⟨[(0,.ptr l 0),(2,nI (size+(d.own:Int))),(6,.ptr (0::46::π) 0),(207,.d (.co (d.be.map BH))),(208,nI ag),(209,nI j)],e.1.1,e.2+144,[]⟩)
        (Inv:=λj ar e=>B4 b l p mt c h π [(131,.box [.d (.co (d.ac.map BW)),.d (.co (d.be.map BH)),.d (.co (d.rules.map BR))]),(46,.box [nI 4,nI C,.d (.co (L.map Bm)),.d (.co (T.map AX))])] e.1.2 e.1.1/\e.1.2.fit b/\Gk e.1.2.met<=k/\AR (Bg b (k+1) i size a=C5 (Bg b k) (Cx (size+d.own) ar++Cn (size+d.own) T) e.1.2)) (b0:=((w,t),_)) rfl ⟨g,q,s,⟨?_⟩⟩ ?_ ?_
       .exact m.1
       .clear g q s m aa bi j F H w t D;rintro j ai ⟨⟨w,t⟩,D⟩ b3 F H ⟨g,q,s,m⟩ Y;dsimp only at*;refine aw ?_;refine Ak (K.1 ai.node (size+d.own) t _ _ l p mt c s q z z (HI r.1 _) (KB (KB g r.1 ?_) r.1 ?_).looks) (λcu ch v=>?_)
        .exact zAS
        .exact zAS
        cases n:Bg b k ai.node (size+d.own) t with
        |none=>obtain rfl:=v.of n;clear v;refine aw ?_;refine E8 (m.1.trans ?_);simp[Cx,C5,n]
        |some R=>
         obtain⟨rfl,O,B⟩:=v.ret R n;have B:=AB B;clear v;refine aw ?_;have N:=DE b _ _ _ _ _ n;refine Y.1 ((_,R),_) ⟨Tq (KB (KB g r.1 ?_) r.1 ?_) r.1 ?_ O B.1,JI q N,Gt N.less s,⟨?_⟩⟩
         .exact zAS
         .exact zAS
         .exact zAS
         .rw[m.1];simp[Cx,C5,n]
       .clear g q s m aa bi j F H w t D;rintro j ⟨⟨w,t⟩,D⟩ F H ⟨g,q,s,m⟩;dsimp only at*;have aa:=g.node _ (CO ..);have bi:=g.node _ (Bi _ (CO ..));dsimp only at aa bi;refine aw ?_;refine CZ T _ (λag j e=>⟨[(0,.ptr l 0),(2,nI (size+(d.own:Int))),(220,.d (.co (T.map AX))),(221,nI ag),(222,nI j)],e.1.1,e.2+144,[]⟩)
         (Inv:=λj ar e=>B4 b l p mt c h π [(131,.box [.d (.co (d.ac.map BW)),.d (.co (d.be.map BH)),.d (.co (d.rules.map BR))]),(46,.box [nI 4,nI C,.d (.co (L.map Bm)),.d (.co (T.map AX))])] e.1.2 e.1.1/\e.1.2.fit b/\Gk e.1.2.met<=k/\AR (Bg b (k+1) i size a=C5 (Bg b k) (Cn (size+d.own) ar) e.1.2)) (b0:=((w,t),_)) ?_ ⟨g,q,s,⟨?_⟩⟩ ?_ ?_
        .omega
        .exact m.1
        .clear g q s m aa bi j F H w t D;rintro j bv ⟨⟨w,t⟩,D⟩ b3 F H ⟨g,q,s,m⟩ Y;dsimp only at*;refine aw ?_;refine Ak (K.1 bv (size+d.own) t _ _ l p mt c s q z z (HI r.1 _) g.looks) (λcu ch v=>?_);cases n:Bg b k bv (size+d.own) t with
         |none=>exact zCE
         |some R=>
          obtain⟨rfl,O,B⟩:=v.ret R n;have B:=AB B;clear v;refine aw ?_;have N:=DE b _ _ _ _ _ n;refine Y.1 ((_,R),_) ⟨Tq g r.1 ?_ O B.1,JI q N,Gt N.less s,⟨?_⟩⟩
          .exact zAS
          .rw[m.1];simp[Cn,C5,n]
        .clear g q s m aa bi j F H w t D;rintro j ⟨⟨w,t⟩,D⟩ F H ⟨g,q,s,m⟩;dsimp only at*;refine aw ?_;refine⟨λd8 P=>?_,λP=>?_⟩
         .rw[m.1]at P;cases P;exact⟨rfl,g.looks,g.frame⟩
         .rw[m.1]at P;cases P
     .have cs:AR (Bg b (k+1) i size a=I):=by
       refine⟨?_⟩;rw[ac.1,b0.1,c3];split
       .rw[Co (by simpa using cp)]
       .rfl
      cases bs
      .have cn:d.okG=false:=by simpa using cp
       (repeat' (first|simp only[*,go_sem,J2,QS,S8]|(refine sx ?_ ?_<;>intro a2)|refine sy z λW Q a4=>?_|simp(disch:=first|assumption|omega) only[Ad]))
       all_goals try(exfalso;omega)
       all_goals try(exact E8 cs.1)
       rw[Dc]
       (repeat' (first|simp only[*,go_sem,S8]|(refine sx ?_ ?_<;>intro a2)|refine sy z λW Q a4=>?_|simp(disch:=first|assumption|omega) only[Ad]))
       try exact E8 cs.1
      ·(repeat' (first|simp only[*,go_sem,J2,QS]|(refine sx ?_ ?_<;>intro a2)|refine sy z λW Q a4=>?_|simp(disch:=first|assumption|omega) only[Ad]))
       all_goals try(exfalso;omega)
       all_goals (exact E8 cs.1)
    have dn:A=1\/A=7\/A=3\/(A=2/\3<(U L:Int))\/(A=2/\¬3<(U L:Int))\/A=5\/A=6\/A=8\/(¬A=1/\¬A=7/\¬A=3/\¬A=2/\¬A=5/\¬A=6/\¬A=8):=z;rcases dn with rfl|rfl|rfl|⟨rfl,dd⟩|⟨rfl,dd⟩|rfl|rfl|rfl|⟨et,ex,e0,e1,e2,e3,e4⟩;all_goals ((repeat' (first|simp only[*,go_sem,J2,QS]|(refine sx ?_ ?_<;>intro a2)|refine sy z λW Q a4=>?_|simp(disch:=first|assumption|omega) only[Ad])))
    all_goals try(exfalso;omega)
    all_goals try(exact E8 (M.1 zCT))
    all_goals
     refine CZ L _ (λag j e=>⟨[(0,.ptr l 0),(2,nI size),(6,.ptr (0::46::π) 0),(154,.d (.co (L.map Bm))),(155,nI ag),(156,nI j)],e.1,e.2+60,[]⟩)
      (Inv:=λj ar e=>B4 b l p mt c h π _ (a.meet i size) e.1/\AR (L.all (CC.ok size)=ar.all (CC.ok size))) (b0:=(_,_)) ?_ ⟨be.1 _ _,⟨rfl⟩⟩ ?_ ?_
     .omega
     .rintro j bv ⟨w,D⟩ b3 F H ⟨g,b2⟩ Y;dsimp only at*;try(exfalso;omega)
      all_goals ((repeat' (first|simp only[*,go_sem,AEk]|(refine sx ?_ ?_<;>intro a2)|refine sy z λW Q a4=>?_|simp(disch:=first|assumption|omega) only[Ad])))
      all_goals first
      |exact E8 (M.1 (by simp only[Cw,b2.1,F6, *,F8,Ls]))
      |(refine Y.1 (_,_) ⟨KB (KB g r.1 ?_) r.1 ?_,⟨?_⟩⟩
        .intro cv bh;cases AS.1 bh;dsimp only;omega
        .intro cv bh;cases AS.1 bh;dsimp only;omega
        .rw[b2.1,F6];simp[*])
     .rintro j ⟨w,D⟩ F H ⟨g,b2⟩;dsimp only at*;have c2:=g.node _ (CO ..);dsimp only at c2;refine aw ?_;refine CZ T _ (λag j e=>⟨[(0,.ptr l 0),(2,nI size),(220,.d (.co (T.map AX))),(221,nI ag),(222,nI j)],e.1.1,e.2+60,[]⟩)
       (Inv:=λj ar e=>B4 b l p mt c h π _ e.1.2 e.1.1/\e.1.2.fit b/\Gk e.1.2.met<=k/\AR (Bg b (k+1) i size a=C5 (Bg b k) (Cn size ar) e.1.2)) (b0:=((_,a.meet i size),_)) ?_ ⟨g,Tk x _ _,?_,⟨?_⟩⟩ ?_ ?_
      .omega
      .have:=HS ad;simp only[Bu.meet];omega
      .rw[ac.1,D4,Wu]
       .rfl
       .have d6:L.all (CC.ok size)=true:=by rw[b2.1];rfl
        clear av az a0 a1 bl bn bo bc V a6 a' ac M K be g b2 c2;grind [Cw,DX,cW,GA]
      .rintro j bv ⟨⟨w,t⟩,D⟩ b3 F H ⟨g,q,s,m⟩ Y;dsimp only at*;try(exfalso;omega)
       all_goals (refine aw ?_)
       all_goals
       refine Ak (K.1 bv size t w _ l p mt c s q cx z (HI r.1 _) g.looks) (λcu ch v=>?_);cases n:Bg b k bv size t with
       |none=>exact zCE
       |some R=>
        obtain⟨rfl,O,B⟩:=v.ret R n;have B:=AB B;clear v;refine aw ?_;have N:=DE b _ _ _ _ _ n;refine Y.1 ((_,R),_) ⟨Tq g r.1 ?_ O B.1,JI q N,Gt N.less s,⟨?_⟩⟩
        .intro cv bh;cases AS.1 bh;dsimp only;omega
        .rw[m.1];simp[Cn,C5,n]
      .rintro j ⟨⟨w,t⟩,D⟩ F H ⟨g,q,s,m⟩;dsimp only at*;refine aw ?_;refine⟨λd8 P=>?_,λP=>?_⟩
       .rw[m.1]at P;cases P;exact⟨rfl,g.looks,g.frame⟩
       .rw[m.1]at P;cases P
  .have bx:Bg b (k+1) i size a=none:=by
    rw[Bg];split
    .rename_i cq;have:=l_ cq.2;rw[x.met]at this;omega
    .rfl
   rw[bx];exact QF b b6 i size a h π l p mt c x r.1 O.1 λ_ h=>absurd h dm
 .have bx:Bg b (k+1) i size a=none:=by rw[Bg,Co λcq=>b' cq.1]
  rw[bx];exact QF b b6 i size a h π l p mt c x r.1 O.1 λh=>absurd h b'
attribute [go_sem] Call.operands Array.toList_append Option.toArray
def fX(x:Bool):List Bool->Int->Int
 |[],_=> -1|A9::l,i=>if (x==A9)=X then i else fX x l (i+1)
theorem AFd(v:Bool):∀(l:List Bool) (i:Int),0<=i->(0<=fX v l i↔v∈l)
 :=by intro x;induction x<;>grind [fX]
@[go_sem] theorem ANz(l:List Bool)(b:Bool)(j:U l<=1000000):Bq kT 216 [.d (.co (l.map Dd)),.d (.bool b)] []=.ok (.ret (nI (fX b l 0)),[]):=by
  refine BM func216 ?_;refine aw (Aj l (B0:=λa (o:Unit)=>⟨[(0,.d (.co (l.map Dd))),(1,.d (.bool b)),(7,nI (U l)),(8,nI a)],[],0,[]⟩) (Inv:=λa h _=>AR (fX b l 0=fX b h a)) (b0:=()) ⟨rfl⟩ ?_ ?_)
  .rintro a q ⟨⟩ n f g c e
   (repeat' (first|simp only[*,go_sem]|(refine sx ?_ ?_<;>intro i)|refine sy z λp m k=>?_|simp(disch:=first|assumption|omega) only[Ad]))
   .rw[c.1,fX,D4 Cc]
   .refine e.1 () ⟨?_⟩;rw[c.1,fX,Co zCn];rfl
  .rintro a ⟨⟩ f g c;refine aw ?_;rw[c.1,fX]
@[go_sem] theorem OG(l:List Bool)(a:Bool)(b:U l<=1000000):Bq kT 202 [.d (.co (l.map Dd)),.d (.bool a)] []=.ok (.ret (.d (.bool (decide (a∈l)))),[]):=by have h:=AFd a l 0 z;refine BM func202 ?_;exact au
def Dm(e:G)(b:u)(a:Nat)(h:0<a)(f:a<=1073741824):Gh e b a {kind:=TK.int,size:=1,agg:=Z,str:=Z,zero:=[nI 0],flds:=[],elem:=0,key:=0,mix:=Z}=J ⟨.ii (1::b) 0 a,[(1::b,.f8 1 ((Sm a (0:Int)).map AX))]⟩:=by
 have c:(Sm a (0:Int)).map AX=Sm a [.int .i64 0]:=by rw[LM];rfl
 rw[c];exact VE (zs:=[.int .i64 0]) h zCs rfl rfl Af rfl
def IQ(e:G)(b:u)(a:Nat)(h:0<a)(f:a<=1073741824):Gh e b a {kind:=TK.bool,size:=1,agg:=Z,str:=Z,zero:=[.d (.bool Z)],flds:=[],elem:=0,key:=0,mix:=Z}=J ⟨.ii (1::b) 0 a,[(1::b,.f8 1 ((Sm a Z).map Dd))]⟩:=by
 have c:(Sm a Z).map Dd=Sm a [.bool Z]:=by rw[LM];rfl
 rw[c];exact VE (zs:=[.bool Z]) h zCs rfl rfl Af rfl
theorem Dn(c e j:Nat)(π:u)(h:c≠j):AE (c::π) (e::j::π)=false:=IZ λa=>by exact zBU
theorem Me(l:List Bool):l.all id=X↔ ¬Z∈l:=zCI
theorem Tg{b:Aa}(e:b.small=X)(c:OQ b.free=X)(f:Bg b (U b.nodes+1) b.main (U b.free) (Bu.init b)=J a):looks b=if (¬Z∈a.met)/\(¬Z∈a.defs)then J a else none:=by grind [looks]
def KX{b:u}{a:Nat}(h:a=0):slv b a=.emp:=by rw[slv,D4 h]
@[go_sem] theorem AIR(v:Bool):Bq kT 202 [.d (.co []),.d (.bool v)] []=.ok (.ret (.d (.bool Z)),[]):=by have:=OG [] v AG;simpa using this
structure ADH(p:Aa)(π:u)(r:BG×S):Prop:=
 of:looks p=I->r=(.of Jm,[])
 ret:∀a,looks p=J a->∃h,r=(.ret (.ptr (0::16::π) 0),h)/\Lg h p (0::16::π) (1::6::π) (1::10::π) (1::14::π) a/\∀id',AE π id'=Z->h.get id'=I
theorem xm(c:Aa)(Q:∀be∈c.free,be.size<=maxLen)(k:Nat)(ρ:u):∃av:BG×S,Bq kT 190 [.agg [.d (.co (c.free.map CK)),.d (.co (c.nodes.map Bl)),.d (.co (c.defs.map Bw)),nI c.main]] (k::ρ)=.ok av/\ADH c (k::ρ) av:=by
 have Q:=AB Q;by_cases o:c.small=X
 .refine XP func190 ?_;have ad:=AB o;simp[Aa.small]at o;obtain⟨a0,a1,a2⟩:=o;have a0:(U c.free:Int)<=12:=z;have a1:(U c.nodes:Int)<=60:=z;have a2:(U c.defs:Int)<=12:=z;refine aw ?_;refine CZ c.free _ (B0:=λa6 D (bs:Unit)=>⟨[(1,.ptr (0::0::k::ρ) 0),(24,.d (.co (c.free.map CK))),(25,nI a6),(26,nI D)],[(0::0::k::ρ,.box [.d (.co (c.free.map CK)),.d (.co (c.nodes.map Bl)),.d (.co (c.defs.map Bw)),nI c.main])],1,[]⟩)
   (Inv:=λD bc _=>AR (OQ c.free=Kg (if D=0 then I else c.free[D-1]?) bc)) (b0:=()) rfl ⟨rfl⟩ ?_ ?_
  .rintro D az ⟨⟩ ag a3 a4 n aa;have a5:=Q.1 az (AP ag);have bn:=AKX az a5;have O:AR (OQ c.free=Z->looks c=I):=.mk λbk=>by grind [looks]
   rcases D with _|j
   .rw[D4 rfl]at n;have bl:(0:Int)<U c.free:=z
    (repeat' (first|simp only[*,go_sem]|(refine sx ?_ ?_<;>intro v)|refine sy z λi C x=>?_|simp(disch:=first|assumption|omega) only[Ad]))
    all_goals first
    |(exact⟨λ_=>rfl,λa e=>by rw[O.1 (by rw[n.1,Kg];simp[*])]at e;cases e⟩)
    |(refine aa.1 () ⟨?_⟩
      rw[n.1,Kg,Co z];grind)
   .have⟨b,hb⟩:=g_ (l:=c.free) (i:=j) z;rw[Co z,Pm,hb]at n;have bv:SE.wrap (((j+1:Nat):Int)-1)=(j:Int):=by rw[w_ z z];omega
    have bx:¬((j+1:Nat):Int)=0:=z
    (repeat' (first|simp only[*,go_sem]|(refine sx ?_ ?_<;>intro v)|refine sy z λi C x=>?_|simp(disch:=first|assumption|omega) only[Ad]))
    .refine aa.1 () ⟨?_⟩;rw[n.1,Kg,Co z,Pm,ag];grind [qM]
    .exact⟨λ_=>rfl,λa e=>by rw[O.1 (by rw[n.1,Kg];simp[qM, *])]at e;cases e⟩
    .exact⟨λ_=>rfl,λa e=>by rw[O.1 (by rw[n.1,Kg];simp[*])]at e;cases e⟩
  .rintro D ⟨⟩ a3 a4 n;have ac:AR (OQ c.free=X):=⟨n.1⟩;clear n;by_cases g:U c.nodes=0
   .have s:looks c=none:=by
     unfold looks;split
     .grind [Bg]
     .rfl
    by_cases p:U c.defs=0;all_goals
     (repeat' (first|simp only[*,go_sem]|(refine sx ?_ ?_<;>intro v)|refine sy z λi C x=>?_|simp(disch:=first|assumption|omega) only[Ad,Dm,IQ]))
     refine Ak (QF c z c.main (U c.free) (Bu.init c) _ _ (0::16::k::ρ) (1::6::k::ρ) (1::10::k::ρ) (1::14::k::ρ) ⟨?_,?_,?_⟩ ?_ ⟨?_,λh=>absurd g h,λh=>absurd g h,λ_=>?_⟩ ?_) (λar H l=>?_)
     .simp[Bu.init]
     .simp[Bu.init]
     .simp[Bu.init]
     .exact zAk
     .simp only[slv,g,p,Ge,IS];simp only[go_sem]
     .first|(exact absurd p ‹_›)|simp only[go_sem,Bu.init]
     .omega
     obtain rfl:=l.of rfl;clear l;refine aw ?_;exact⟨λ_=>rfl,λa e=>by rw[s]at e;cases e⟩
   .by_cases p:U c.defs=0
    ·(repeat' (first|simp only[*,go_sem]|(refine sx ?_ ?_<;>intro v)|refine sy z λi C x=>?_|simp(disch:=first|assumption|omega) only[Ad,Dm,IQ]))
     refine Ak (yA c z z (U c.nodes+1) c.main (U c.free) (Bu.init c) _ _ (0::16::k::ρ) (1::6::k::ρ) (1::10::k::ρ) (1::14::k::ρ) ?_ ⟨?_,?_,?_⟩ ?_ ?_ ?_ ⟨?_,λ_=>?_,λ_=>?_,λ_=>?_⟩) (λar H l=>?_)
     .grind [Qd,Bu.init]
     .simp[Bu.init]
     .simp[Bu.init]
     .simp[Bu.init]
     .omega
     .omega
     .constructor<;>first|grind [Dn]|simp only[go_sem]
     .simp only[slv,g,p,Ge,IS];simp only[go_sem]
     .exact zBl
     .exact zBl
     .exact zBx
     rcases hv:Bg c (U c.nodes+1) c.main (U c.free) (Bu.init c)with _|a
     .exact zA7
     .obtain⟨rfl,M,w⟩:=l.ret a hv;clear l;have w:=AB w;have f:∃i,looks c=i:=⟨_,rfl⟩;obtain⟨i,f⟩:=f;have f:=AB f;have t:=P7 (ρ:=24::k::ρ) M zC3;have t:=AB t;obtain⟨K,q,r,N⟩:=M;have q:=q g;have r:=r g;rw[Bs g,Bs g,KX p]at K;have L:=DE c _ _ _ _ _ hv;have T:U a.met=U c.nodes:=by rw[L.met];simp[Bu.init]
      have ai:U a.defs=U c.defs:=by rw[L.defs];simp[Bu.init]
      have m:∀(F j:Nat),24≠j->(gc (24::k::ρ) H).get (F::j::k::ρ)=H.get (F::j::k::ρ):=λF j P=>An _ _ _ (Dn _ _ _ _ P);have V:=(m 0 16 Af).trans K;have W:=(m 1 6 Af).trans q;have Y:=(m 1 10 Af).trans r;clear m;have bh:TL (U c.nodes) (TC Dd a.met)=TC Dd a.met:=Bv (by simp[T]);have bi:a.defs=[]:=CE z
      (repeat' (first|simp only[*,go_sem,D2,V,W,Y]|(refine sx ?_ ?_<;>intro v)|refine sy z λi C x=>?_|simp(disch:=first|assumption|omega) only[Ad,OG]))
      all_goals (have f:=f.1;subst f)
      all_goals (have f:=Tg ad.1 ac.1 hv)
      all_goals first
      |(refine⟨λ_=>rfl,λd8 e=>?_⟩
        grind)
      |(refine⟨λe=>?_,λd8 e=>?_⟩
        .grind
        .rw[f,D4 zCn]at e;cases e;refine⟨_,rfl,t.1,λR A=>?_⟩;have B:=AN A;rw[An _ _ _ (AL A _),w.1 R (AL A _) (B _ _) (B _ _) (B _ _)];exact Ba)
    ·(repeat' (first|simp only[*,go_sem]|(refine sx ?_ ?_<;>intro v)|refine sy z λi C x=>?_|simp(disch:=first|assumption|omega) only[Ad,Dm,IQ]))
     refine Ak (yA c z z (U c.nodes+1) c.main (U c.free) (Bu.init c) _ _ (0::16::k::ρ) (1::6::k::ρ) (1::10::k::ρ) (1::14::k::ρ) ?_ ⟨?_,?_,?_⟩ ?_ ?_ ?_ ⟨?_,λ_=>?_,λ_=>?_,λ_=>?_⟩) (λar H l=>?_)
     .grind [Qd,Bu.init]
     .simp[Bu.init]
     .simp[Bu.init]
     .simp[Bu.init]
     .omega
     .omega
     .constructor<;>first|grind [Dn]|simp only[go_sem]
     .simp only[slv,g,p,Ge];simp only[go_sem]
     .exact zBl
     .exact zBl
     .exact zBl
     rcases hv:Bg c (U c.nodes+1) c.main (U c.free) (Bu.init c)with _|a
     .exact zA7
     .obtain⟨rfl,M,w⟩:=l.ret a hv;clear l;have w:=AB w;have f:∃i,looks c=i:=⟨_,rfl⟩;obtain⟨i,f⟩:=f;have f:=AB f;have t:=P7 (ρ:=24::k::ρ) M zC3;have t:=AB t;obtain⟨K,q,r,N⟩:=M;have q:=q g;have r:=r g;have N:=N p;rw[Bs g,Bs g,Bs p]at K;have L:=DE c _ _ _ _ _ hv;have T:U a.met=U c.nodes:=by rw[L.met];simp[Bu.init]
      have ai:U a.defs=U c.defs:=by rw[L.defs];simp[Bu.init]
      have m:∀(F j:Nat),24≠j->(gc (24::k::ρ) H).get (F::j::k::ρ)=H.get (F::j::k::ρ):=λF j P=>An _ _ _ (Dn _ _ _ _ P);have V:=(m 0 16 Af).trans K;have W:=(m 1 6 Af).trans q;have Y:=(m 1 10 Af).trans r;have a':=(m 1 14 Af).trans N;clear m;have bh:TL (U c.nodes) (TC Dd a.met)=TC Dd a.met:=Bv (by simp[T]);have bo:TL (U c.defs) (TC Dd a.defs)=TC Dd a.defs:=Bv (by simp[ai])
      (repeat' (first|simp only[*,go_sem,D2,V,W,Y,a']|(refine sx ?_ ?_<;>intro v)|refine sy z λi C x=>?_|simp(disch:=first|assumption|omega) only[Ad,OG]))
      all_goals (have f:=f.1;subst f)
      all_goals (have f:=Tg ad.1 ac.1 hv)
      all_goals first
      |(refine⟨λ_=>rfl,λd8 e=>?_⟩
        grind)
      |(refine⟨λe=>?_,λd8 e=>?_⟩
        .grind
        .rw[f,D4 zCn]at e;cases e;refine⟨_,rfl,t.1,λR A=>?_⟩;have B:=AN A;rw[An _ _ _ (AL A _),w.1 R (AL A _) (B _ _) (B _ _) (B _ _)];exact Ba)
 .have s:looks c=none:=by unfold looks;rw[Co λh=>o h.1]
  have o:¬(U c.free<=12/\(U c.nodes)<=60/\(U c.defs)<=12):=by intro h;apply o;simp[Aa.small];exact h
  have o:=AB o;refine XP func190 ?_
  (repeat' (first|simp only[*,go_sem]|(refine sx ?_ ?_<;>intro v)|refine sy z λi C x=>?_|simp(disch:=first|assumption|omega) only[Ad]))
  all_goals first
  |exact⟨λ_=>rfl,λa e=>by rw[s]at e;cases e⟩
  |(have o:=o.1;exfalso;omega)
def Kf(b:Bool):List Ar:=[.int .i64 (if b then 1 else 0)]
theorem AEf:Kf X=[.int .i64 1]:=rfl
theorem AEe:Kf Z=[.int .i64 0]:=rfl
attribute [go_sem] AEf AEe
def FU(a:Aa)(e c f:u)(b:Bool):Abs.Obj:=.box [.d (.co (a.free.map CK)),.d (.co (a.nodes.map Bl)),.d (.co (a.defs.map Bw)),nI a.main,slv e (U a.nodes),slv c (U a.nodes),slv f (U a.defs),.d (.bool b)]
structure Ik(h:S)(p:Aa)(l sz ow us:u)(st:Bu)(bad:Bool):Prop:=
 box:h.get l=J (FU p sz ow us bad)
 eq:bad=Z->(U p.nodes)≠0->h.get sz=J (.f8 1 (st.eq.map AX))
 met:bad=Z->(U p.nodes)≠0->h.get ow=J (.f8 1 (st.met.map Kf))
 defs:bad=Z->(U p.defs)≠0->h.get us=J (.f8 1 (st.defs.map Kf))
 ks:U p.nodes≠0->∃A,h.get sz=J (.f8 1 A)
 km:U p.nodes≠0->∃A,h.get ow=J (.f8 1 A)
 kd:U p.defs≠0->∃A,h.get us=J (.f8 1 A)
structure XR(p:Aa)(l sz ow us:u)(h:S)(π:u)(r:Option Bu)(o:BG)(h':S):Prop:=
 ret:o=.ret (.kw [])
 frame:∀id',AE π id'=Z->AJ l id'=Z->AJ sz id'=Z->AJ ow id'=Z->AJ us id'=Z->h'.get id'=h.get id'
 yes:∀d8,r=J d8->Ik h' p l sz ow us d8 Z
 no:r=I->∀CU,Ik h' p l sz ow us CU X
structure iq(p:Aa)(l sz ow us:u)(h:S)(π:u)(L:List (Nat×Abs.Obj))(st:Bu)(bad:Bool)(g:S):Prop:=
 looks:Ik g p l sz ow us st bad
 node:∀q∈L,g.get (0::q.1::π)=J q.2
 frame:∀id',AE π id'=Z->AJ l id'=Z->AJ sz id'=Z->AJ ow id'=Z->AJ us id'=Z->g.get id'=h.get id'
variable{b:Bool}
def Jw{j:S}{k:Aa}{i mt:u}(h:Ik j k l i mt c a b)(f:il ρ l i mt c):Ik (gc ρ j) k l i mt c a b:=⟨by rw[An _ _ _ f.ul];exact h.box,λg e=>by rw[An _ _ _ f.us];exact h.eq g e,λg e=>by rw[An _ _ _ f.um];exact h.met g e,λg e=>by rw[An _ _ _ f.ud];exact h.defs g e,λe=>by rw[An _ _ _ f.us];exact h.ks e,λe=>by rw[An _ _ _ f.um];exact h.km e,λe=>by rw[An _ _ _ f.ud];exact h.kd e⟩
variable{b':Bool}
theorem yK{m:Aa}{j mt:u}{n:S}(f:iq m l j mt c h π L a b n)(g:il π l j mt c)(A:o=FU m j mt c b')(k:b'=Z->b=Z):iq m l j mt c h π L a b' (n.put l o):=by
 refine⟨⟨?_,λi e=>?_,λi e=>?_,λi e=>?_,λe=>?_,λe=>?_,λe=>?_⟩,λx v=>?_,λw q p r s t=>?_⟩
 .grind [p_,q_c]
 .rw[p_,g.ls];exact f.looks.eq (k i) e
 .rw[p_,g.lm];exact f.looks.met (k i) e
 .rw[p_,g.ld];exact f.looks.defs (k i) e
 .rw[p_,g.ls];exact f.looks.ks e
 .rw[p_,g.lm];exact f.looks.km e
 .rw[p_,g.ld];exact f.looks.kd e
 .rw[p_,Av g.ul];exact f.node x v
 .rw[p_,p];exact f.frame w q p r s t
def Hq{n:Aa}{k mt:u}{o:S}(t:iq n l k mt c h π L a b o)(g:il π l k mt c)(A:∀i∈L,j≠i.1)(B:Ik e n l k mt c d8 b')(v:∀f,AE (j::π) f=Z->AJ l f=Z->AJ k f=Z->AJ mt f=Z->AJ c f=Z->e.get f=o.get f):iq n l k mt c h π L d8 b' (gc (j::π) e):=by
 refine⟨Jw B (HI g j),λi w=>?_,λf m p q r s=>?_⟩
 .have x:=dt j i.1 π (A i w);rw[An _ _ _ x,v _ x (Av g.ul _ _) (Av g.us _ _) (Av g.um _ _) (Av g.ud _ _)];exact t.node i w
 .rw[An _ _ _ (AL m j),v _ (AL m j) p q r s];exact t.frame f m p q r s
def ANT{n:Aa}{i mt:u}{j:S}(e:iq n l i mt c h π L a Z j)(f:il π l i mt c)(m:Nat):iq n l i mt c h π L {a with defs:=a.defs.set m X} Z (j.put c (.f8 1 ((a.defs.map Kf).set m [.int .i64 1]))):=by
 refine⟨⟨?_,λg b=>?_,λg b=>?_,λg b=>?_,λb=>?_,λb=>?_,λb=>?_⟩,λv s=>?_,λt p o q r k=>?_⟩
 .rw[p_,f.dl];exact e.looks.box
 .rw[p_,f.ds];exact e.looks.eq g b
 .rw[p_,f.dm];exact e.looks.met g b
 .rw[p_,q_c,I2];rfl
 .rw[p_,f.ds];exact e.looks.ks b
 .rw[p_,f.dm];exact e.looks.km b
 .rw[p_,q_c];exact⟨_,rfl⟩
 .rw[p_,Av f.ud];exact e.node v s
 .rw[p_,k];exact e.frame t p o q r k
def Ik.any{e:Aa}{f c g:u}{CU:Bu}(b:Ik h e l f c g a X):Ik h e l f c g CU true:=⟨b.box,λh=>zCN,λh=>zCN,λh=>zCN,b.ks,b.km,b.kd⟩
def G9{g:Aa}{f mt:u}{j:S}{m:Option Bu}(e:iq g l f mt c h π L a b j)(s:il π l f mt c)(t:o=FU g f mt c X)(v:m=I):XR g l f mt c h π m (.ret (.kw [])) (j.put l o):=by
 refine⟨rfl,λw n k p q r=>?_,λd8 i=>?_,λ_ CU=>?_⟩
 .rw[p_,k];exact e.frame w n k p q r
 .rw[v]at i;cases i
 .exact(yK (b':=X) {e with looks:={e.looks with eq:=e.looks.eq,met:=e.looks.met,defs:=e.looks.defs}} s t AG).looks.any
def HQ{g:Aa}{j mt:u}{e:S}{i:Option Bu}(f:iq g l j mt c h π L a X e)(k:i=I):XR g l j mt c h π i (.ret (.kw [])) e:=by refine⟨rfl,f.frame,λd8 b=>?_,λ_ CU=>f.looks.any⟩;rw[k]at b;cases b
def VV{i:Aa}{k mt:u}{e:S}{j:Option Bu}(f:iq i l k mt c h π L a Z e)(g:j=J a):XR i l k mt c h π j (.ret (.kw [])) e:=by
 refine⟨rfl,f.frame,λd8 b=>?_,λb=>?_⟩
 .rw[g]at b;cases b;exact f.looks
 .rw[g]at b;cases b
theorem fH{f:Int->Int->Bu->Option Bu}:∀{l m:List (Int×Int)} {a:Bu},C5 f (l++m) a=match C5 f l a with|some d8=>C5 f m d8|none=>I
 :=by intro x;induction x<;>grind [C5]
def AOH(b:Aa)(k:Nat):Prop:=∀(i size:Int) (a:Bu) (h:S) (π:u) (l e c g:u),Gk a.met<=k->a.fit b->0<=size->size+70*k<=5000->il π l e c g->Ik h b l e c g a Z->
    ∃o f,kT (.fn 129) [.ptr l 0,nI i,nI size] h π X I=.ok (o,f)/\XR b l e c g h π (Bg b k i size a) o f
def AI5(e:Aa)(bl:U e.nodes<=60)(bk:U e.defs<=12)(k:Nat)(R:AOH e k)(d:Bd)(F:Vk d)(size:Int)(a:Bu)(h:S)(π:u)(l C B D:u)(ar:Gk a.met<=k)(ai:a.fit e)(aa:0<=size)(bn:size+10+70*k<=5000)(Q:il π l C B D)(t:Ik h e l C B D a Z):
 ∃o f,kT (.fn 170) [.ptr l 0,.agg [.d (.co (d.ac.map BW)),.d (.co (d.be.map BH)),.d (.co (d.rules.map BR))],nI size] h π X I=.ok (o,f)/\XR e l C B D h π (C5 (Bg e k) (DP d size d.rules++Cx size d.be) a) o f:=by
 have j:=AB Q;have a4:=F.ac;have a5:=F.be;have a6:=F.rules;replace F:=AB F;replace R:=AB R;have av:=t.box;rw[FU]at av;have a':=AN Q.ul;have bc:=Av Q.ul;clear Q;have ag:AR (iq e l C B D h π [(0,.box [.d (.co (d.ac.map BW)),.d (.co (d.be.map BH)),.d (.co (d.rules.map BR))])] a Z (h.put (0::0::π) (.box [.d (.co (d.ac.map BW)),.d (.co (d.be.map BH)),.d (.co (d.rules.map BR))]))):=by
  refine⟨⟨⟨?_,λ_ q=>?_,λ_ q=>?_,λ_ q=>?_,λq=>?_,λq=>?_,λq=>?_⟩,?_,λbx ac aa be bh bi=>?_⟩⟩
  .rw[p_,AN j.1.ul];exact t.box
  .rw[p_,AN j.1.us];exact t.eq rfl q
  .rw[p_,AN j.1.um];exact t.met rfl q
  .rw[p_,AN j.1.ud];exact t.defs rfl q
  .rw[p_,AN j.1.us];exact t.ks q
  .rw[p_,AN j.1.um];exact t.km q
  .rw[p_,AN j.1.ud];exact t.kd q
  .intro b0 a0;cases AS.1 a0;simp[p_]
  .simp[p_,AN ac]
 replace t:=AB t;refine Bf func170 ?_;refine aw ?_;refine Aj d.rules (B0:=λs g=>⟨[(0,.ptr l 0),(2,nI size),(4,.ptr (0::0::π) 0),(6,nI s)],g.1.1,g.2+2,[]⟩)
  (Inv:=λs T g=>∃b,iq e l C B D h π [(0,.box [.d (.co (d.ac.map BW)),.d (.co (d.be.map BH)),.d (.co (d.rules.map BR))])] g.1.2 b g.1.1/\g.1.2.fit e/\Gk g.1.2.met<=k/\AR (b=Z->C5 (Bg e k) (DP d size d.rules++Cx size d.be) a=C5 (Bg e k) (DP d size T++Cx size d.be) g.1.2)/\AR (b=X->C5 (Bg e k) (DP d size d.rules++Cx size d.be) a=I)) (b0:=((_,a),_)) ?_ ?_ ?_
 .exact⟨Z,ag.1,ai,ar,⟨λ_=>rfl⟩,⟨λh=>zCN⟩⟩
 .rintro s A ⟨⟨L,p⟩,K⟩ W N O ⟨b,c,m,n,r,v⟩ H;dsimp only at*;have w:=c.node _ (CO ..);have x:=c.looks.box;rw[FU]at x;dsimp only at w;cases b
  .have P:=SW F.1 (AP W);have bo:=AKV d A P;have bs:=OB P.2.2 A.d7;have bv:=P.1;replace P:=AB P;refine aw (Fw (R.1 A.node (size+CJ d A.d7) p _ _ l C B D n m z z (HI j.1 _) c.looks) (λa2 Y i=>?_));obtain rfl:=i.ret;replace i:=AB i;refine aw ?_;rcases hvy:Bg e k A.node (size+CJ d A.d7) p with _|V
   .refine H.1 ((_,p),_) ⟨X,Hq c j.1 ?_ (i.1.no hvy _) i.1.frame,m,n,⟨λh=>zCN⟩,⟨λ_=>?_⟩⟩
    .exact zBJ
    .rw[r.1 rfl];simp[DP,C5,hvy]
   .have M:=DE e _ _ _ _ _ hvy;refine H.1 ((_,V),_) ⟨Z,Hq c j.1 ?_ (i.1.yes _ hvy) i.1.frame,JI m M,Gt M.less n,⟨λ_=>?_⟩,⟨λh=>zCN⟩⟩
    .exact zBJ
    .rw[r.1 rfl];simp[DP,C5,hvy]
  .exact zAn
 .rintro s ⟨⟨L,p⟩,K⟩ N O ⟨b,c,m,n,r,v⟩;dsimp only at*;have w:=c.node _ (CO ..);have x:=c.looks.box;rw[FU]at x;dsimp only at w;cases b
  .refine aw ?_;refine Aj d.be (B0:=λs g=>⟨[(0,.ptr l 0),(2,nI size),(4,.ptr (0::0::π) 0),(7,nI s)],g.1.1,g.2+2,[]⟩)
    (Inv:=λs T g=>∃b,iq e l C B D h π [(0,.box [.d (.co (d.ac.map BW)),.d (.co (d.be.map BH)),.d (.co (d.rules.map BR))])] g.1.2 b g.1.1/\g.1.2.fit e/\Gk g.1.2.met<=k/\AR (b=Z->C5 (Bg e k) (DP d size d.rules++Cx size d.be) a=C5 (Bg e k) (Cx size T) g.1.2)/\AR (b=X->C5 (Bg e k) (DP d size d.rules++Cx size d.be) a=I)) (b0:=((_,p),_)) ?_ ?_ ?_
   .exact⟨Z,c,m,n,⟨λ_=>r.1 rfl⟩,⟨λh=>zCN⟩⟩
   .clear c w x N O m n r v L K s p;rintro s A ⟨⟨L,p⟩,K⟩ W N O ⟨b,c,m,n,r,v⟩ H;dsimp only at*;have w:=c.node _ (CO ..);have x:=c.looks.box;rw[FU]at x;dsimp only at w;cases b
    .refine aw (Ak (R.1 A.node size p _ _ l C B D n m z z (HI j.1 _) c.looks) (λa2 Y i=>?_));obtain rfl:=i.ret;replace i:=AB i;refine aw ?_;rcases hvy:Bg e k A.node size p with _|V
     .refine H.1 ((_,p),_) ⟨X,Hq c j.1 ?_ (i.1.no hvy _) i.1.frame,m,n,⟨λh=>zCN⟩,⟨λ_=>?_⟩⟩
      .exact zBJ
      .rw[r.1 rfl];simp[Cx,C5,hvy]
     .have M:=DE e _ _ _ _ _ hvy;refine H.1 ((_,V),_) ⟨Z,Hq c j.1 ?_ (i.1.yes _ hvy) i.1.frame,JI m M,Gt M.less n,⟨λ_=>?_⟩,⟨λh=>zCN⟩⟩
      .exact zBJ
      .rw[r.1 rfl];simp[Cx,C5,hvy]
    .exact aw (HQ c (v.1 rfl))
   .clear c w x N O m n r v L K s p;rintro s ⟨⟨L,p⟩,K⟩ N O ⟨b,c,m,n,r,v⟩;dsimp only at*;have w:=c.node _ (CO ..);have x:=c.looks.box;rw[FU]at x;dsimp only at w;cases b
    .exact aw (VV c (r.1 rfl))
    .exact aw (HQ c (v.1 rfl))
  .exact zAn
theorem LU(c:Aa)(A:U c.nodes<=60)(e size:Int)(a:Bu)(h:S)(π:u)(l i g j:u)(w:a.fit c)(r:il π l i g j)(m:Ik h c l i g j a Z)(n:0<=e->e<U c.nodes->a.met[e.toNat]?=J X):
 ∃o f,kT (.fn 129) [.ptr l 0,nI e,nI size] h π X I=.ok (o,f)/\XR c l i g j h π I o f:=by
 have k:iq c l i g j h π [] a Z h:=⟨m,AG,λ_ _ _ _ _ _=>rfl⟩;have s:∀b,FU c i g j b=.box [.d (.co (c.free.map CK)),.d (.co (c.nodes.map Bl)),.d (.co (c.defs.map Bw)),nI c.main,slv i (U c.nodes),slv g (U c.nodes),slv j (U c.defs),.d (.bool b)]:=λb=>rfl;have t:=m.box;rw[FU]at t;have v:=m.met rfl;have x:=AN r.ul;refine M9 ?_ m n k;clear m n k;intro m n k;have p:=AB r;have B:=w.met;by_cases D:e<0
 .refine Bf func129 ?_;exact aw (G9 k.1 p.1 rfl rfl)
 .by_cases H:(U c.nodes:Int)<=e
  .refine Bf func129 ?_;exact aw (G9 k.1 p.1 rfl rfl)
  .have q:U c.nodes≠0:=z;have F:0<=e:=z;have C:e.toNat<U c.nodes:=z;have K:=n.1 z z;have v:=v q;rw[Bs q,Bs q]at t;have s:AR (Abs.Obj.box [.d (.co (c.free.map CK)),.d (.co (c.nodes.map Bl)),.d (.co (c.defs.map Bw)),nI c.main,.ii i 0 (U c.nodes),.ii g 0 (U c.nodes),slv j (U c.defs),.d (.bool X)]=FU c i g j X):=⟨by grind [Bs]⟩;refine Bf func129 ?_;exact aw (G9 k.1 p.1 s.1 rfl)
theorem oT(c:Aa)(b3:U c.nodes<=60)(dr:U c.defs<=12)(d0:∀d∈c.defs,d.okG=X):∀(k:Nat) (g size:Int) (a:Bu) (h:S) (π:u) (l r q s:u),Gk a.met<=k->a.fit c->0<=size->size+70*k<=5000->il π l r q s->Ik h c l r q s a Z->
 ∃o f,kT (.fn 129) [.ptr l 0,nI g,nI size] h π X I=.ok (o,f)/\XR c l r q s h π (Bg c k g size a) o f:=by
 intro k;induction k with
 |zero=>intro g size a h π l r q s d2 A cq ds ch cl;refine LU c b3 g size a h π l r q s A ch cl λbh bi=>?_;obtain⟨cc,az⟩:=g_ (l:=a.met) (i:=g.toNat) (by rw[A.met];omega);cases cc with|true=>exact az|false=>have:=HS az;omega
 |succ k F=>
 intro g size a h π l r q s d2 A cq ds ch cl;have n:=AB ch;obtain⟨ul,dn,dm,dj,e8,e7,e5,d9,df,de,d6,e9,c',dl,ef,ec⟩:=ch;have cv:=AB cl;obtain⟨M,T,R,b9,_,_,_⟩:=cl;have V:=AN ul;have N:=AN dn;have O:=AN dm;have P:=AN dj;have aa:=Av ul;have ac:=Av dn;have ad:=Av dm;have ag:=Av dj;by_cases es:g<0
 .have b2:Bg c (k+1) g size a=none:=by rw[Bg,Co λc4=>z]
  rw[b2];exact LU c b3 g size a h π l r q s A n.1 cv.1 λh=>z
 .by_cases et:(U c.nodes:Int)<=g
  .have b2:Bg c (k+1) g size a=none:=by
    rw[Bg];split
    .rename_i c4;have:=l_ c4.2;rw[A.met]at this;omega
    .rfl
   rw[b2];exact LU c b3 g size a h π l r q s A n.1 cv.1 λ_ h=>z
  .have a6:U c.nodes≠0:=z;have c6:0<=g:=z;have ex:g<U c.nodes:=z;have d3:g.toNat<U c.nodes:=z;obtain⟨bo,a'⟩:=g_ d3;obtain⟨cc,az⟩:=g_ (l:=a.met) (i:=g.toNat) (by rw[A.met];omega);obtain⟨fr,e2⟩:=g_ (l:=a.eq) (i:=g.toNat) (by rw[A.eq];omega);have R:=R rfl a6;have T:=T rfl a6;rw[FU,Bs a6,Bs a6]at M;replace F:=AB F;replace b9:=AB b9;have en:=A.eq;have em:=A.met;cases cc with
   |true=>
    have b2:Bg c (k+1) g size a=none:=by rw[Bg,Co];rw[az];simp
    rw[b2];exact LU c b3 g size a h π l r q s A n.1 cv.1 λ_ _=>az
   |false=>
    refine Bf func129 ?_;have K:=AR.mk (Sf (p:=c) (k:=k) (size:=size) c6 az a');have x:=AR.mk (dv (p:=c) (k:=k) (size:=size) c6 az a');obtain⟨D,w,a3,a4⟩:=bo;have p:AR (∀b,Abs.Obj.box [.d (.co (c.free.map CK)),.d (.co (c.nodes.map Bl)),.d (.co (c.defs.map Bw)),nI c.main,.ii r 0 (U c.nodes),.ii q 0 (U c.nodes),slv s (U c.defs),.d (.bool b)]=FU c r q s b):=.mk λb=>by rw[FU,Bs a6,Bs a6]
    have v:AR (∀o c0,iq c l r q s h π [(48,c0)] (a.meet g size) Z ((((h.put q (.f8 1 ((TC Kf a.met).set g.toNat [.int .i64 1]))).put r (.f8 1 ((TC AX a.eq).set g.toNat [.int .i64 size]))).put (0::48::π) o).put (0::48::π) c0)):=.mk λo c0=>by
     refine⟨⟨?_,λ_ _=>?_,λ_ _=>?_,λ_ b0=>?_,λ_=>?_,λ_=>?_,λb0=>?_⟩,?_,λe4 bh cq bi dq ek=>?_⟩
     .rw[<-p.1];simp[p_,V,d9,d6,M]
     .simp only[p_,N,q_c,AM,Ge,IS,Bu.meet,I2];rfl
     .simp only[p_,O,df,q_c,AM,Ge,IS,Bu.meet,I2];rfl
     .simp[p_,P,de,c',Bu.meet,b9.1 rfl b0]
     .exact⟨_,by simp only[p_,N,q_c,AM,Ge,IS];rfl⟩
     .exact⟨_,by simp only[p_,O,df,q_c,AM,Ge,IS];rfl⟩
     .exact⟨_,by simp only[p_,P,de,c',AM,Ge,b9.1 rfl b0];rfl⟩
     .intro c1 cx;cases AS.1 cx;simp[p_]
     .simp[p_,AN bh,bi,dq]
    by_cases d7:D=4
    .subst d7;have er:∀{c2:Prop},c2->AR c2:=λh=>⟨h⟩;by_cases fs:w<0
     ·exact zAQ
     by_cases fv:(U c.defs:Int)<=w
     ·exact zAQ
     have fz:0<=w:=z;have f0:w<U c.defs:=z;have cs:U c.defs≠0:=z;have d5:w.toNat<U c.defs:=z;obtain⟨d,b0⟩:=g_ d5;obtain⟨cc,c8⟩:=g_ (l:=a.defs) (i:=w.toNat) (by rw[A.defs];omega);have el:=A.defs;have e6:=b9.1 rfl cs;rw[Bs cs]at M;have c3:=d0 d (AP b0);have bk:=VK c3;have d':=bk.ac;have ea:=bk.be;have eb:=bk.rules;have e1:=ZE bk;have e0:=AKe d z z;replace bk:=AB bk;have c5:AR (Wu c size ⟨4,w,a3,a4⟩ (a.meet g size)=if a.defs[w.toNat]?=J Z/\d.okG=X then J (DP d (size+d.own) d.rules++(Cx (size+d.own) d.be++Cn (size+d.own) a4),{a.meet g size with defs:=a.defs.set w.toNat X})else I):=by refine⟨?_⟩;rw[Wu,D4 rfl,b0];rfl
     have bs:AR (∀b,Abs.Obj.box [.d (.co (c.free.map CK)),.d (.co (c.nodes.map Bl)),.d (.co (c.defs.map Bw)),nI c.main,.ii r 0 (U c.nodes),.ii q 0 (U c.nodes),.ii s 0 (U c.defs),.d (.bool b)]=FU c r q s b):=.mk λb=>by rw[FU,Bs a6,Bs a6,Bs cs]
     cases cc with
     |true=>
      have W:AR (Bg c (k+1) g size a=I):=by
       refine⟨?_⟩;rw[K.1,c5.1,c8];split
       .rw[Co AG]
       .rfl
      (repeat' (first|simp only[*,go_sem,Nu,O0]|(refine sx ?_ ?_<;>intro b4)|refine sy z λbo a' b6=>?_|simp(disch:=first|assumption|omega) only[Ad]))
      all_goals try(exact G9 (v.1 _ _) n.1 (bs.1 _) W.1)
      rw[Dc];refine aw ?_;exact G9 (v.1 _ _) n.1 (bs.1 _) W.1
     |false=>
      (repeat' (first|simp only[*,go_sem,Nu,O0]|(refine sx ?_ ?_<;>intro b4)|refine sy z λbo a' b6=>?_|simp(disch:=first|assumption|omega) only[Ad]))
      all_goals try(exact G9 (v.1 _ _) n.1 (bs.1 _) (x.1 zCQ))
      rw[Dc];refine aw ?_;have ar:=ANT (v.1 (.box [nI 0,nI 0,.d9,.d9]) (.box [nI 4,nI w,.d (.co (a3.map Bm)),.d (.co (a4.map AX))])) n.1 w.toNat;have cd:Bu.fit c {a.meet g size with defs:=(a.meet g size).defs.set w.toNat X}:=by have:=Tk A g size;exact⟨this.eq,this.met,by simp[Bu.meet,A.defs]⟩
      have cm:Gk (a.meet g size).met<=k:=by have:=HS az;simp only[Bu.meet];omega
      have eg:(U a3:Int)=0:=Cc;have ej:(U a4:Int)=1:=Cc;have e3:a3=[]:=CE z;have cn:AR (Bg c (k+1) g size a=match C5 (Bg c k) (DP d (size+d.own) d.rules++Cx (size+d.own) d.be) {a.meet g size with defs:=(a.meet g size).defs.set w.toNat X}with|some d8=>C5 (Bg c k) (Cn (size+d.own) a4) d8|none=>I):=by
       refine⟨?_⟩;rw[K.1,D4,c5.1,D4 ⟨c8,c3⟩]
       .rw[<-fH,F0];rfl
       .clear V N O P aa ac ad ag M R T K x F v p ar cd cm;grind [Cw,DX,cW,GA]
      refine Ak (AI5 c b3 dr k F.1 d bk.1 (size+d.own) {a.meet g size with defs:=(a.meet g size).defs.set w.toNat X} _ _ l r q s cm cd z z (HI n.1 _) ar.looks) (λdc cp i=>?_)
      obtain rfl:=i.ret;have bl:∀j,j≠48->∀c1∈ [((48:Nat),Abs.Obj.box [nI 4,nI w,.d (.co (a3.map Bm)),.d (.co (a4.map AX))])],j≠c1.1:=by intro j d1 c1 cx;cases AS.1 cx;exact d1
      cases Y:C5 (Bg c k) (DP d (size+d.own) d.rules++Cx (size+d.own) d.be) {a.meet g size with defs:=(a.meet g size).defs.set w.toNat X}with
      |none=>have e:=Hq ar n.1 (bl 168 Af) (d8:=a) (b':=X) (i.no Y _) i.frame;have t:=e.node _ (CO ..);have B:=e.looks.box;rw[<-bs.1]at B;dsimp only at t;replace i:=AB i;replace ar:=AB ar;replace bl:=AB bl;replace Y:=AB Y;refine aw ?_;rw[Dc];refine aw ?_;exact HQ e (by rw[cn.1,Y.1])
      |some bn=>
       have e:=Hq ar n.1 (bl 168 Af) (i.yes _ Y) i.frame;have cu:yj {a.meet g size with defs:=(a.meet g size).defs.set w.toNat X} bn:=bO (R:=yj) (λa=>⟨rfl,rfl,rfl,D2 _⟩) (λm b be bh bi=>⟨bi.1.trans bh.1,bi.2.trans bh.2,bi.3.trans bh.3,Gt bi.4 bh.4⟩) (DE c k) Y
       rw[Y]at cn;replace i:=AB i;replace ar:=AB ar;replace bl:=AB bl;replace Y:=AB Y;refine aw ?_;refine Aj a4 (B0:=λC m=>⟨[(0,.ptr l 0),(6,.ptr (0::48::π) 0),(11,nI (size+(d.own:Int))),(12,nI C)],m.1.1,m.2+170,[]⟩)
        (Inv:=λC b' m=>∃b,iq c l r q s h π [(48,.box [nI 4,nI w,.d (.co (a3.map Bm)),.d (.co (a4.map AX))])] m.1.2 b m.1.1/\m.1.2.fit c/\Gk m.1.2.met<=k/\AR (b=Z->Bg c (k+1) g size a=C5 (Bg c k) (Cn (size+d.own) b') m.1.2)/\AR (b=X->Bg c (k+1) g size a=I)) (b0:=((_,bn),_)) ?_ ?_ ?_
       .exact⟨Z,e,JI cd cu,Gt cu.less cm,⟨λ_=>cn.1⟩,⟨λh=>zCN⟩⟩
       all_goals clear e i ar bl Y cp cn cu bn cd cm
       .rintro C bc ⟨⟨ai,a2⟩,be⟩ c9 b1 H ⟨b,e,av,a0,a1,W⟩ a5;dsimp only at*;have t:=e.node _ (CO ..);have B:=e.looks.box;rw[<-bs.1]at B;dsimp only at t;try simp[*]at H
        cases b
        .refine aw ?_;refine Ak (F.1 bc (size+d.own) a2 _ _ l r q s a0 av z z (HI n.1 _) e.looks) (λdc cp i=>?_);obtain rfl:=i.ret;replace i:=AB i;refine aw ?_;cases Q:Bg c k bc (size+d.own) a2 with
         |none=>
          refine a5.1 ((_,a2),_) ⟨X,Hq e n.1 ?_ (i.1.no Q _) i.1.frame,av,a0,⟨λh=>zCN⟩,⟨λ_=>?_⟩⟩
          .exact zBJ
          .rw[a1.1 rfl];simp[Cn,C5,Q]
         |some bn=>
          have b5:=DE c _ _ _ _ _ Q;refine a5.1 ((_,bn),_) ⟨Z,Hq e n.1 ?_ (i.1.yes _ Q) i.1.frame,JI av b5,Gt b5.less a0,⟨λ_=>?_⟩,⟨λh=>zCN⟩⟩
          .exact zBJ
          .rw[a1.1 rfl];simp[Cn,C5,Q]
        .exact zCB
       .rintro C ⟨⟨ai,a2⟩,be⟩ b1 H ⟨b,e,av,a0,a1,W⟩;dsimp only at*;have t:=e.node _ (CO ..);have B:=e.looks.box;rw[<-bs.1]at B;dsimp only at t;try simp only[*]at H
        cases b
        .refine aw ?_;exact VV e (a1.1 rfl)
        .exact zCB
    have d4:D=3\/D=1\/D=7\/(D=2)\/D=5\/D=6\/D=8\/(¬D=1/\¬D=7/\¬D=3/\¬D=2/\¬D=5/\¬D=6/\¬D=8):=z;rcases d4 with rfl|rfl|rfl|rfl|rfl|rfl|rfl|⟨e',fc,fd,fi,fl,fo,fp⟩;all_goals ((repeat' (first|simp only[*,go_sem,Nu,O0]|(refine sx ?_ ?_<;>intro b4)|refine sy z λbo a' b6=>?_|simp(disch:=first|assumption|omega) only[Ad])))
    all_goals try(exfalso;omega)
    all_goals try(exact G9 (v.1 _ _) n.1 (p.1 _) (x.1 zCQ))
    all_goals
     refine Aj a3 (B0:=λC m=>⟨[(0,.ptr l 0),(2,nI size),(6,.ptr (0::48::π) 0),(10,nI C)],m.1.1,m.2+60,[]⟩)
      (Inv:=λC b' m=>iq c l r q s h π _ (a.meet g size) m.1.2 m.1.1/\AR (a3.all (CC.ok size)=(!m.1.2&&b'.all (CC.ok size)))) (b0:=((_,Z),_)) ⟨v.1 _ _,⟨rfl⟩⟩ ?_ ?_
     .rintro C bc ⟨⟨ai,b⟩,be⟩ c9 b1 H ⟨e,b8⟩ a5;dsimp only at*;try(exfalso;omega)
      all_goals
       have t:=e.node _ (CO ..);have B:=e.looks.box;rw[<-p.1]at B;dsimp only at t;try simp only[*]at H
      all_goals
       cases b
       .exact zBc
       .exact zBc
     .rintro C ⟨⟨ai,b⟩,be⟩ b1 H ⟨e,b8⟩;dsimp only at*;have t:=e.node _ (CO ..);have B:=e.looks.box;rw[<-p.1]at B;dsimp only at t;try simp only[*]at H
      cases b;all_goals
       ((repeat' (first|simp only[*,go_sem]|(refine sx ?_ ?_<;>intro b4)|refine sy z λbo a' b6=>?_|simp(disch:=first|assumption|omega) only[Ad])))
      all_goals
       have bx:AR (a3.all (CC.ok size)=_):=b8;simp only[TY,RT,RS,TO]at bx;obtain⟨L,bv⟩:∃L,iq c l r q s h π L (a.meet g size) _ ai/\∃o,L=[(48,o)]/\ai.get (0::48::π)=J o:=⟨_,e,_,rfl,t⟩;clear e;obtain⟨e,dd,bv,c7⟩:=bv;have b7:=t.symm.trans c7;simp only[F1]at b7;replace b7:=AB b7;clear c7;refine Aj a4 (B0:=λC m=>⟨[(0,.ptr l 0),(6,.ptr (0::48::π) 0),(11,nI size),(12,nI C)],m.1.1,m.2+60,[]⟩)
        (Inv:=λC b' m=>∃b,iq c l r q s h π L m.1.2 b m.1.1/\m.1.2.fit c/\Gk m.1.2.met<=k/\AR (b=Z->Bg c (k+1) g size a=C5 (Bg c k) (Cn size b') m.1.2)/\AR (b=X->Bg c (k+1) g size a=I)) (b0:=((_,a.meet g size),_)) ?_ ?_ ?_
       .dsimp only;refine⟨_,yK e n.1 (p.1 _) AG,Tk A _ _,?_,⟨λdx=>?_⟩,⟨λdx=>?_⟩⟩
        .have:=HS az;simp only[Bu.meet];omega
        .rw[K.1,D4,Wu]
         .simp
         .exact zB7
        .refine x.1 ?_;exact zB7
       all_goals clear e t B b8 b1 H ai be C bx
       .rintro C bc ⟨⟨ai,a2⟩,be⟩ c9 b1 H ⟨b,e,av,a0,a1,W⟩ a5;dsimp only at*;try(exfalso;omega)
        all_goals
         have t:=e.node (48,dd) (by rw[bv];exact CO ..);rw[<-b7.1]at t;have B:=e.looks.box;rw[<-p.1]at B;dsimp only at t;try simp only[*]at H
        all_goals
         cases b
         .refine aw ?_;refine Ak (F.1 bc size a2 ai _ l r q s a0 av cq z (HI n.1 _) e.looks) (λdc cp i=>?_);obtain rfl:=i.ret;replace i:=AB i;refine aw ?_;cases Q:Bg c k bc size a2 with
          |none=>
           refine a5.1 ((_,a2),_) ⟨X,Hq e n.1 ?_ (i.1.no Q _) i.1.frame,av,a0,⟨λh=>zCN⟩,⟨λ_=>?_⟩⟩
           .rw[bv];exact zAS
           .rw[a1.1 rfl];simp only[Cn,By,C5,Q]
          |some bn=>
           have b5:=DE c _ _ _ _ _ Q;refine a5.1 ((_,bn),_) ⟨Z,Hq e n.1 ?_ (i.1.yes _ Q) i.1.frame,JI av b5,Gt b5.less a0,⟨λ_=>?_⟩,⟨λh=>zCN⟩⟩
           .rw[bv];exact zAS
           .rw[a1.1 rfl];simp only[Cn,By,C5,Q]
         .exact zCB
       .rintro C ⟨⟨ai,a2⟩,be⟩ b1 H ⟨b,e,av,a0,a1,W⟩;dsimp only at*;have t:=e.node (48,dd) (by rw[bv];exact CO ..);rw[<-b7.1]at t;have B:=e.looks.box;rw[<-p.1]at B;dsimp only at t;try simp only[*]at H
        cases b
        .refine aw ?_;exact VV e (a1.1 rfl)
        .exact zCB
def AHV{b:Aa}{m mt:u}{f:Nat}{i:Int}(k:Lg h b l m mt c a)(p:f<U b.nodes)(q:a.eq[f]?=J i)(r:U a.eq=U b.nodes)(π:u):kT (.fn 166) [.ptr l 0,nI f] h π X I=.ok (.ret (nI i),h):=by obtain⟨j,g,n,o⟩:=k;have e:U b.nodes≠0:=z;have g:=g e;rw[Bs e,Bs e]at j;refine AOB rfl func166 rfl rfl rfl ?_;show Wp _ _ _ _ (Tryz.f166.body.get rfl) _ _;simp only[Tryz.f166,Option.get_some];exact au
def Nh{i:Aa}{g mt:u}{h:S}(e:Lg h i l g mt c a)(f:il π l g mt c)(k j:Nat)(o:Abs.Obj):Lg (h.put (k::j::π) o) i l g mt c a:=⟨by rw[p_,AN f.ul];exact e.box,λb=>by rw[p_,AN f.us];exact e.eq b,λb=>by rw[p_,AN f.um];exact e.met b,λb=>by rw[p_,AN f.ud];exact e.defs b⟩
theorem AIh(k:Aa)(T:U k.nodes<=60)(a:Bu)(h:S)(π:u)(l B mt c e b:u)(n:Lg h k l B mt c a)(A:U a.eq=U k.nodes)(m:il π l B mt c)(V:h.get e=J (.box [.d (.co (k.free.map CK)),.d (.co (k.nodes.map Bl)),.d (.co (k.defs.map Bw)),nI k.main])) (v:h.get b=J (.box [.fn 166 [] []])) (a4:AE π e=Z) (K:AE π b=Z) (ac:0<U k.nodes):
 ∃o f,kT (.fn 187) [.ptr l 0,.ptr e 0,.ptr b 0] h π X I=.ok (o,f)/\(∃j,o=.ret (.ii (1::j::π) 0 (U k.nodes))/\f.get (1::j::π)=J (.f8 1 (a.eq.map AX)))/\∀i,AE π i=Z->f.get i=h.get i:=by
 refine Bf func187 ?_;have m:=AB m;have n:=AB n;have ag:=AB A;have a2:=AN K;have a3:=AL K;refine aw ?_;refine CZ a.eq _ (λP g e=>⟨[(0,.ptr l 0),(2,.ptr b 0),(5,e.1.2),(9,nI P),(10,nI g)],e.1.1,e.2+6,[]⟩)
  (Inv:=λg a0 e=>AR (Lg e.1.1 k l B mt c a)/\e.1.1.get b=J (.box [.fn 166 [] []])/\AR (∀i,AE π i=Z->e.1.1.get i=h.get i)/\AR (g=0/\e.1.2=.d9\/∃j,j<e.2+6/\e.1.2=.ii (1::j::π) 0 g/\e.1.1.get (1::j::π)=J (.f8 1 ((a.eq.take g).map AX)))) (b0:=((h,.d9),0)) ?_ ⟨n,v,⟨λ_ _=>rfl⟩,⟨.inl ⟨rfl,rfl⟩⟩⟩ ?_ ?_
 .omega
 .rintro g R ⟨⟨t,Q⟩,r⟩ H D M ⟨n,v,s,q⟩ C;dsimp only at*;have F:=λρ=>AHV n.1 z H A ρ;rcases q.1 with⟨rfl,rfl⟩|⟨j,N,rfl,O⟩
  .clear q;have Y:(0:Int)<U k.nodes:=z;have F:∀ρ,kT (.fn 166) [.ptr l 0,nI 0] t ρ X I=.ok (.ret (nI R),t):=F;refine aw (C.1 ((_,_),_) ⟨⟨Nh (Nh (P7 n.1 (HI m.1 _)) m.1 _ _ _) m.1 _ _ _⟩,?_,⟨λi p=>?_⟩,⟨.inr ⟨_,?_,rfl,?_⟩⟩⟩)
   .exact Ba
   .have w:=AN p;have x:=AL p;simp only[go_sem,w,x,s.1 i p,AM]
   .omega
   .simp only[go_sem];rw[List.take_succ,H];rfl
  .clear q;have ai:¬r+13=j:=z;have ar:¬r+14=j:=z;have av:¬r+15=j:=z;have a1:(a.eq.take g).length=g:=BP;have az:¬g+1<=g:=z
   (repeat' (first|simp only[*,go_sem,D2]|(refine sx ?_ ?_<;>intro W)|refine sy z λa5 ad aa=>?_|simp(disch:=first|assumption|omega) only[Ad]))
   refine C.1 ((_,_),_) ⟨⟨Nh (Nh (Nh (P7 n.1 (HI m.1 _)) m.1 _ _ _) m.1 _ _ _) m.1 _ _ _⟩,?_,⟨λi p=>?_⟩,⟨.inr ⟨_,?_,rfl,?_⟩⟩⟩
   .exact Ba
   .have w:=AN p;have x:=AL p;simp only[go_sem,w,x,s.1 i p,AM]
   .omega
   .simp only[go_sem];grind [AX,List.take_succ]
 .rintro g ⟨⟨t,Q⟩,r⟩ D M ⟨n,v,s,q⟩;dsimp only at*;rcases q.1 with⟨rfl,rfl⟩|⟨j,N,rfl,O⟩
  .exfalso;omega
  .clear q;refine aw ?_;have L:=D.1;refine⟨⟨_,by rw[L,A],?_⟩,s.1⟩;grind
theorem ACw(c e j k:Nat)(π:u)(h:c≠k):AE (c::π) (e::j::k::π)=false:=IZ λa=>by
 rcases Io.1 a with b|a
 .exact zBW
 rcases Io.1 a with b|a
 .exact zBW
 rcases Io.1 a with b|a
 .grind
 .have:=a.length_le;simp at this;omega
def ABG{f:S}{g:Aa}{i mt:u}(e:Lg f g l i mt c a):Lg (f++h) g l i mt c a:=⟨Dw e.box,λb=>Dw (e.eq b),λb=>Dw (e.met b),λb=>Dw (e.defs b)⟩
structure rK(p:Aa)(o:BG)(h':S):Prop:=
 no:looks p=I->o=.ret (.kw [.d9,nI 2])
 yes:∀a,looks p=J a->∃id,o=.ret (.kw [.ii (1::id) 0 (U p.nodes),nI 0])/\h'.get (1::id)=J (.f8 1 (a.eq.map AX))
theorem ABF(c:Aa)(p:∀H∈c.free,H.size<=maxLen)(h:S)(π:u)(i b:u)(L:h.get i=J (.box [.d (.co (c.free.map CK)),.d (.co (c.nodes.map Bl)),.d (.co (c.defs.map Bw)),nI c.main])) (M:h.get b=J (.box [.fn 166 [] []])) (v:AE π i=Z) (w:AE π b=Z):
 ∃o f,kT (.fn 186) [.agg [.d (.co (c.free.map CK)),.d (.co (c.nodes.map Bl)),.d (.co (c.defs.map Bw)),nI c.main],.fn 187 [] [.ptr i 0,.ptr b 0]] h π X I=.ok (o,f)/\rK c o f:=by
 refine Bf func186 ?_;have p:=AB p;have P:=AN v;have t:=AL v;have v1:=AN w;have x:=AL w;have⟨r,e,hpost⟩:=xm c p.1 6 π;rcases hlk:looks c with _|a
 .obtain rfl:=hpost.of hlk;refine aw ?_;exact⟨λ_=>rfl,λa g=>by rw[hlk]at g;cases g⟩
 .obtain⟨N,rfl,n,k⟩:=hpost.ret a hlk;replace k:=AB k;replace n:=AB n;have m:=AR.mk (En hlk);have C:=m.1.len;have q:=m.1.small;simp[Aa.small]at q;have B:0<U c.nodes:=by have A:=m.1.main.2;have:=l_ A;omega
  refine aw (Ak (AIh c q.2.1 a _ _ (0::16::6::π) (1::6::6::π) (1::10::6::π) (1::14::6::π) i b (ABG n.1) C ?_ ?_ ?_ (t _) (x _) B) (λO K D=>?_))
  .constructor<;>first|grind [ACw]|simp only[go_sem]
  .rw[JK (k.1 i (t _))];exact Ba
  .rw[JK (k.1 b (x _))];exact Ba
  obtain⟨⟨j,rfl,F⟩,l⟩:=D;have s:=l (0::2::π) (Dn _ _ _ _ Af);rw[JK (k.1 (0::2::π) (Dn _ _ _ _ Af))]at s;simp[p_]at s;replace l:=AB l;refine aw ?_;refine⟨λg=>by grind,λd8 g=>?_⟩;rw[hlk]at g;cases g;exact⟨_,rfl,by simp only[go_sem,F]⟩
def O1:Option Bu->y
 |none=>.kw [.d (.co []),nI 2]|some a=>.kw [.d (.co (a.eq.map AX)),nI 0]
def AJE(b:Aa)(e:∀j∈b.free,j.size<=maxLen):Bq kT 165 [.agg [.d (.co (b.free.map CK)),.d (.co (b.nodes.map Bl)),.d (.co (b.defs.map Bw)),nI b.main],.fn 166 [] []] []=.ok (.ret (O1 (looks b)),[]):=by
 replace e:=AB e;refine BM func165 ?_;refine aw (Ak (ABF b e.1 _ _ _ _ ?_ ?_ ?_ ?_) (λn l c=>?_))
 .simp only[go_sem]
 .simp only[go_sem]
 .simp only[go_sem]
 .simp only[go_sem]
 rcases hlk:looks b with _|a
 .obtain rfl:=c.no hlk;clear c
  (repeat' (first|simp only[*,go_sem,O1]|(refine sx ?_ ?_<;>intro f)|refine sy z λk h g=>?_|simp(disch:=first|assumption|omega) only[Ad]))
 .obtain⟨m,rfl,o⟩:=c.yes a hlk;clear c;have i:=(En hlk).len;have p:TL (U b.nodes) (TC AX a.eq)=TC AX a.eq:=Bv (by simp[i])
  (repeat' (first|simp only[*,go_sem,O1,D2]|(refine sx ?_ ?_<;>intro f)|refine sy z λk h g=>?_|simp(disch:=first|assumption|omega) only[Ad]))
def ADR(b:Aa)(f:∀j∈b.free,j.size<=maxLen):Bq kT 109 [.agg [.d (.co (b.free.map CK)),.d (.co (b.nodes.map Bl)),.d (.co (b.defs.map Bw)),nI b.main]] []=.ok (.ret (O1 (looks b)),[]):=by
 have c:=AJE b f;clear f;refine BM func109 ?_;rcases e:looks b with _|a
 .exact zA5
 .exact zA5
def xg:∀(a b:List UInt8),(Op.bytesLess a b||a==b)= !Op.bytesLess b a
 |[],[]=>by simp[Op.bytesLess]|[],b::A9=>by simp[Op.bytesLess]|a::x,[]=>by simp[Op.bytesLess]|a::x,b::A9=>by
  have g:=xg x A9;simp only[Op.bytesLess,List.cons_beq_cons];by_cases c:a<b
  .have e:¬b<a:=λh=>by have:=UInt8.lt_asymm c h;exact this
   have f:(b==a)=false:=by simp only[beq_eq_false_iff_ne];intro h;subst h;exact UInt8.lt_irrefl _ c
   simp[c,e,f]
  .by_cases e:b<a
   .have f:(a==b)=false:=by simp only[beq_eq_false_iff_ne];intro h;subst h;exact UInt8.lt_irrefl _ e
    simp[c,e,f]
   .have f:a=b:=UInt8.le_antisymm (UInt8.not_lt.1 e) (UInt8.not_lt.1 c);subst f;simp only[c,decide_false,PL,beq_self_eq_true,Jp];exact g
def ACn(a b:ByteArray):(Op.bytesLess a.toList b.toList||a.toList==b.toList)= !qM b a:=xg _ _
theorem lj{a:Aa}{eq:Al}(h:Ao a eq):∀d∈a.defs,d.okG=true:=by intro d b;obtain⟨f,c⟩:=Ce b;obtain⟨j,g,e,k,i⟩:=h.used f (BI.1 c).1;have⟨s,l,_,_,_,_,hl,_⟩:=h.node j g e;grind [IB]
structure AIV(p:Aa)(r:BG×S):Prop:=
 no:looks p=I->∃h l x0 x1 x2 x3 x4 x5 x6,r=(.ret (.ptr (0::l) 0),h)/\h.get (0::l)=J (.box [x0,x1,x2,x3,x4,x5,x6,.d (.bool X)])
 yes:∀a,looks p=J a->∃h l sz ow us,r=(.ret (.ptr (0::l) 0),h)/\Ik h p (0::l) (1::sz) (1::ow) (1::us) a Z
def XF(n:Nat):(Sm n (0:Int)).map AX=(Sm n Z).map Kf:=by rw[LM,LM];rfl
def CU:Bu:=⟨[],[],[]⟩
def AMP(c:Aa)(k:Nat)(ρ:u):∃az:BG×S,Bq kT 83 [.agg [.d (.co (c.free.map CK)),.d (.co (c.nodes.map Bl)),.d (.co (c.defs.map Bw)),nI c.main]] (k::ρ)=.ok az/\AIV c az:=by
 by_cases i:c.small=X
 .have ar:=AB i;simp only[Aa.small,As,D3]at i;obtain⟨a',T,ac⟩:=i;have bc:¬(12:Int)<U c.free:=z;have be:¬(60:Int)<U c.nodes:=z;have bh:¬(12:Int)<U c.defs:=z;refine XP func83 ?_;refine aw ?_;refine Aj c.free (B0:=λe b=>⟨[(1,.ptr (0::0::k::ρ) 0),(3,.ptr (0::1::k::ρ) 0),(4,nI e)],[(0::0::k::ρ,.box [.d (.co (c.free.map CK)),.d (.co (c.nodes.map Bl)),.d (.co (c.defs.map Bw)),nI c.main]),(0::1::k::ρ,.box [.d (.co (c.free.map CK)),.d (.co (c.nodes.map Bl)),.d (.co (c.defs.map Bw)),nI c.main,.d9,.d9,.d9,.d (.bool b)])],2,[]⟩)
   (Inv:=λe v b=>AR ((!b&&Kg (if e=0 then I else c.free[e-1]?) v)=OQ c.free)) (b0:=Z) ⟨rfl⟩ ?_ ?_
  .rintro e t b x o m f r;have bk:=AGV t;rcases e with _|j
   .rw[D4 rfl]at f;have bi:(0:Int)<U c.free:=z;cases b;all_goals ((repeat' (first|simp only[*,go_sem]|(refine sx ?_ ?_<;>intro C)|refine sy z λL q D=>?_|simp(disch:=first|assumption|omega) only[Ad])))
    all_goals
     refine r.1 _ ⟨?_⟩;rw[<-f.1];rw[Co z,Pm,x];simp[Kg,qM, *]
   .obtain⟨bl,a5⟩:=g_ (l:=c.free) (i:=j) z;rw[Co z,Pm,a5]at f;have bn:SE.wrap (((j+1:Nat):Int)-1)=(j:Int):=by rw[w_ z z];omega
    have bo:(0:Int)<((j+1:Nat):Int):=z;cases b;all_goals ((repeat' (first|simp only[*,go_sem]|(refine sx ?_ ?_<;>intro C)|refine sy z λL q D=>?_|simp(disch:=first|assumption|omega) only[Ad])))
    all_goals
     refine r.1 _ ⟨?_⟩;rw[<-f.1];rw[Co z,Pm,x];simp[Kg,ACn, *]
  .rintro e b o m f;rw[Kg,RT]at f;refine aw ?_;refine Aj c.defs (B0:=λe b=>⟨[(1,.ptr (0::0::k::ρ) 0),(3,.ptr (0::1::k::ρ) 0),(5,nI e)],[(0::0::k::ρ,.box [.d (.co (c.free.map CK)),.d (.co (c.nodes.map Bl)),.d (.co (c.defs.map Bw)),nI c.main]),(0::1::k::ρ,.box [.d (.co (c.free.map CK)),.d (.co (c.nodes.map Bl)),.d (.co (c.defs.map Bw)),nI c.main,.d9,.d9,.d9,.d (.bool b)])],2,[]⟩)
    (Inv:=λe v b=>AR ((!b&&v.all Bd.okG)=(OQ c.free&&c.defs.all Bd.okG))) (b0:=b) ⟨?_⟩ ?_ ?_
   .rw[<-f.1]
   .clear f o m e b;rintro e t b x o m f r;have a3:=AI6 t;rw[AO6]at a3;cases b;all_goals (refine aw ?_)
    all_goals
     refine r.1 _ ⟨?_⟩;rw[<-f.1,F6];cases t.okG<;>simp
   .clear f o m e b;rintro e b o m f;rw[TY,RT]at f;have O:¬(e:Int)<0:=z;have M:AR (b=X->looks c=I):=⟨λa1=>by
     have f:=f.1;rw[a1]at f;cases g:looks c with
     |none=>rfl
     |some a=>
      exfalso;have a4:OQ c.free=true:=by
       unfold looks at g;split at g
       .rename_i h;exact h.2
       .cases g
      have a2:c.defs.all Bd.okG=true:=EL.2 (lj (En g));rw[a4,a2]at f;cases f⟩
    cases b
    .have ag:AR (OQ c.free=X):=⟨by have:=f.1;simp at this;exact this.1.symm▸rfl⟩;have ad:AR (∀d∈c.defs,d.okG=X):=⟨by have:=f.1;simp at this;exact this.2⟩;by_cases l:U c.nodes=0
     .by_cases p:U c.defs=0
      ·(repeat' (first|simp only[*,go_sem]|(refine sx ?_ ?_<;>intro C)|refine sy z λL q D=>?_|simp(disch:=first|assumption|omega) only[Ad,Dm,IQ]))
       refine Ak (LU c T c.main (U c.free) (Bu.init c) _ _ (0::1::k::ρ) (1::13::k::ρ) (1::17::k::ρ) (1::21::k::ρ) ⟨?_,?_,?_⟩ ?_ ⟨?_,λ_ h=>absurd l h,λ_ h=>absurd l h,λ_ _=>?_,λh=>absurd l h,λh=>absurd l h,λ_=>?_⟩ ?_) (λaa V n=>?_)
       .simp[Bu.init]
       .simp[Bu.init]
       .simp[Bu.init]
       .exact zAk
       .exact zAo
       .exact zBx
       .exact zBx
       .omega
       obtain rfl:=n.ret;have g:=Jw (ρ:=41::k::ρ) (n.no rfl CU) zCK;have s:=g.box;rw[FU,KX l,KX l,KX p]at s;have F:AR (looks c=I):=⟨by
        unfold looks;split
        .exact zBM
        .rfl⟩
       replace g:=AB g;replace n:=AB n;refine aw ?_;rw[Dc];refine aw ?_;rw[Dc];refine aw ?_;exact⟨λ_=>⟨_,_,_,_,_,_,_,_,_,rfl,by(simp only[go_sem];try rfl)⟩,λa i=>zCv⟩
      ·(repeat' (first|simp only[*,go_sem]|(refine sx ?_ ?_<;>intro C)|refine sy z λL q D=>?_|simp(disch:=first|assumption|omega) only[Ad,Dm,IQ]))
       refine Ak (LU c T c.main (U c.free) (Bu.init c) _ _ (0::1::k::ρ) (1::13::k::ρ) (1::17::k::ρ) (1::21::k::ρ) ⟨?_,?_,?_⟩ ?_ ⟨?_,λ_ h=>absurd l h,λ_ h=>absurd l h,λ_ _=>?_,λh=>absurd l h,λh=>absurd l h,λ_=>?_⟩ ?_) (λaa V n=>?_)
       .simp[Bu.init]
       .simp[Bu.init]
       .simp[Bu.init]
       .exact zAk
       .exact zAo
       .simp only[go_sem,Bu.init,XF]
       .exact zA1
       .omega
       obtain rfl:=n.ret;have g:=Jw (ρ:=41::k::ρ) (n.no rfl CU) zCK;obtain⟨R,Q⟩:=g.kd p;have s:=g.box;rw[FU,KX l,KX l,Bs p]at s;have F:AR (looks c=I):=⟨by
        unfold looks;split
        .exact zBM
        .rfl⟩
       replace g:=AB g;replace n:=AB n;refine aw ?_;rw[Dc];refine aw ?_;clear s Q g n M f m O o e;refine CZ (Sm (U c.defs) ()) (B0:=λ_ e (_:Unit)=>⟨[(3,.ptr (0::0::k::ρ) 0),(7,nI e)],[(0::0::k::ρ,.box [.d (.co (c.free.map CK)),.d (.co (c.nodes.map Bl)),.d (.co (c.defs.map Bw)),nI c.main,.emp,.emp,.ii (1::1::k::ρ) 0 (U c.defs),.d (.bool X)]),(1::1::k::ρ,.f8 1 R)],2,[]⟩)
        (Inv:=λe v b=>True) (b0:=()) (m:=U c.defs) AG trivial ?_ ?_
       .rintro e t b x o m f r;refine aw ?_;exact r.1 () trivial
       .rintro e b o m f;refine aw ?_;exact⟨λ_=>⟨_,_,_,_,_,_,_,_,_,rfl,by(simp only[go_sem];try rfl)⟩,λa i=>zCv⟩
     .by_cases p:U c.defs=0
      ·(repeat' (first|simp only[*,go_sem]|(refine sx ?_ ?_<;>intro C)|refine sy z λL q D=>?_|simp(disch:=first|assumption|omega) only[Ad,Dm,IQ]))
       refine Ak (oT c T ac ad.1 (U c.nodes+1) c.main (U c.free) (Bu.init c) _ _ (0::1::k::ρ) (1::13::k::ρ) (1::17::k::ρ) (1::21::k::ρ) ?_ ⟨?_,?_,?_⟩ ?_ ?_ ?_ ⟨?_,λ_ _=>?_,λ_ _=>?_,λ_ _=>?_,λ_=>?_,λ_=>?_,λ_=>?_⟩) (λaa V n=>?_)
       .have:=Qd (Bu.init c).met;simp only[Bu.init,IN]at*;omega
       .simp[Bu.init]
       .simp[Bu.init]
       .simp[Bu.init]
       .omega
       .omega
       .exact zAk
       .exact zAo
       .exact zBl
       .simp only[go_sem,Bu.init,XF]
       .exact zBx
       .exact zA1
       .exact zA1
       .exact zBx
       obtain rfl:=n.ret;cases w:Bg c (U c.nodes+1) c.main (U c.free) (Bu.init c)with
       |none=>
        have g:=Jw (ρ:=41::k::ρ) (n.no w CU) zCK;obtain⟨A,H⟩:=g.ks l;obtain⟨B,K⟩:=g.km l;have s:=g.box;rw[FU,Bs l,Bs l,KX p]at s;have F:AR (looks c=I):=⟨by
         unfold looks;rw[w];split<;>rfl⟩
        replace g:=AB g;replace n:=AB n;refine aw ?_;clear s H K g n M f m O o e;refine CZ (Sm (U c.nodes) ()) (B0:=λ_ e (_:Unit)=>⟨[(3,.ptr (0::0::k::ρ) 0),(6,nI e)],[(0::0::k::ρ,.box [.d (.co (c.free.map CK)),.d (.co (c.nodes.map Bl)),.d (.co (c.defs.map Bw)),nI c.main,.ii (1::1::k::ρ) 0 (U c.nodes),.ii (1::2::k::ρ) 0 (U c.nodes),.emp,.d (.bool X)]),(1::1::k::ρ,.f8 1 (A)),(1::2::k::ρ,.f8 1 (B))],3,[]⟩)
         (Inv:=λe v b=>True) (b0:=()) (m:=U c.nodes) AG trivial ?_ ?_
        .rintro e t b x o m f r;refine aw ?_;exact r.1 () trivial
        .rintro e b o m f;refine aw ?_;rw[Dc];refine aw ?_;exact⟨λ_=>⟨_,_,_,_,_,_,_,_,_,rfl,by(simp only[go_sem];try rfl)⟩,λa i=>zCv⟩
       |some a=>
        have g:=Jw (ρ:=41::k::ρ) (n.yes a w) zCK;have s:=g.box;have H:=g.eq rfl l;have K:=g.met rfl l;rw[FU,Bs l,Bs l,KX p]at s;replace g:=AB g;replace n:=AB n;refine aw ?_;have N:=DE c _ _ _ _ _ w;have a6:U a.met=U c.nodes:=by rw[N.met];simp[Bu.init]
        have av:U a.defs=U c.defs:=by rw[N.defs];simp[Bu.init]
        have Y:=AR.mk (Tg ar.1 ag.1 w);clear s H K g n M f m O o e;refine CZ a.met (B0:=λ_ e b=>⟨[(3,.ptr (0::0::k::ρ) 0),(6,nI e)],[(0::0::k::ρ,.box [.d (.co (c.free.map CK)),.d (.co (c.nodes.map Bl)),.d (.co (c.defs.map Bw)),nI c.main,.ii (1::1::k::ρ) 0 (U c.nodes),.ii (1::2::k::ρ) 0 (U c.nodes),.emp,.d (.bool b)]),(1::1::k::ρ,.f8 1 (a.eq.map AX)),(1::2::k::ρ,.f8 1 (a.met.map Kf))],3,[]⟩)
         (Inv:=λe v b=>AR ((!b&&v.all id)=a.met.all id)) (b0:=Z) (m:=U c.nodes) z ⟨rfl⟩ ?_ ?_
        .rintro e t b x o m f r;have ai:=Int.ofNat_lt.1 m;cases b<;>cases t;all_goals (refine aw ?_)
         all_goals
          refine r.1 _ ⟨?_⟩;rw[<-f.1];simp
        .rintro e b o m f;rw[TY,RT]at f;refine aw ?_;rw[Dc];refine aw ?_;have f:AR ((!b)=(a.met.all id&&a.defs.all id)):=⟨by
          rw[f.1,CE (av.trans p)];simp⟩
         have q:=Y.1;cases b
         .have:a.met.all id=X/\a.defs.all id=true:=by have:=f.1;simp only[TO]at this;exact(As _ _).mp this.symm
          rw[Me,Me]at this;rw[D4 this]at q;refine⟨λP=>(by rw[q]at P;cases P),λd8 i=>?_⟩;rw[q]at i;cases i;refine⟨_,_,1::k::ρ,2::k::ρ,3::k::ρ,rfl,⟨?_,λ_ _=>?_,λ_ _=>?_,λ_ _=>?_,λ_=>?_,λ_=>?_,λ_=>?_⟩⟩
          .exact zAo
          .simp only[go_sem]
          .simp only[go_sem]
          .exact zBx
          .exact zBG
          .exact zBG
          .exact zBx
         .exact zAg
      ·(repeat' (first|simp only[*,go_sem]|(refine sx ?_ ?_<;>intro C)|refine sy z λL q D=>?_|simp(disch:=first|assumption|omega) only[Ad,Dm,IQ]))
       refine Ak (oT c T ac ad.1 (U c.nodes+1) c.main (U c.free) (Bu.init c) _ _ (0::1::k::ρ) (1::13::k::ρ) (1::17::k::ρ) (1::21::k::ρ) ?_ ⟨?_,?_,?_⟩ ?_ ?_ ?_ ⟨?_,λ_ _=>?_,λ_ _=>?_,λ_ _=>?_,λ_=>?_,λ_=>?_,λ_=>?_⟩) (λaa V n=>?_)
       .have:=Qd (Bu.init c).met;simp only[Bu.init,IN]at*;omega
       .simp[Bu.init]
       .simp[Bu.init]
       .simp[Bu.init]
       .omega
       .omega
       .exact zAk
       .exact zAo
       .exact zBl
       .simp only[go_sem,Bu.init,XF]
       .simp only[go_sem,Bu.init,XF]
       .exact zA1
       .exact zA1
       .exact zA1
       obtain rfl:=n.ret;cases w:Bg c (U c.nodes+1) c.main (U c.free) (Bu.init c)with
       |none=>
        have g:=Jw (ρ:=41::k::ρ) (n.no w CU) zCK;obtain⟨A,H⟩:=g.ks l;obtain⟨B,K⟩:=g.km l;obtain⟨R,Q⟩:=g.kd p;have s:=g.box;rw[FU,Bs l,Bs l,Bs p]at s;have F:AR (looks c=I):=⟨by
         unfold looks;rw[w];split<;>rfl⟩
        replace g:=AB g;replace n:=AB n;refine aw ?_;clear s H K Q g n M f m O o e;refine CZ (Sm (U c.nodes) ()) (B0:=λ_ e (_:Unit)=>⟨[(3,.ptr (0::0::k::ρ) 0),(6,nI e)],[(0::0::k::ρ,.box [.d (.co (c.free.map CK)),.d (.co (c.nodes.map Bl)),.d (.co (c.defs.map Bw)),nI c.main,.ii (1::1::k::ρ) 0 (U c.nodes),.ii (1::2::k::ρ) 0 (U c.nodes),.ii (1::3::k::ρ) 0 (U c.defs),.d (.bool X)]),(1::1::k::ρ,.f8 1 (A)),(1::2::k::ρ,.f8 1 (B)),(1::3::k::ρ,.f8 1 (R))],4,[]⟩)
         (Inv:=λe v b=>True) (b0:=()) (m:=U c.nodes) AG trivial ?_ ?_
        .rintro e t b x o m f r;refine aw ?_;exact r.1 () trivial
        .rintro e b o m f;refine aw ?_;refine CZ (Sm (U c.defs) ()) (B0:=λ_ e (_:Unit)=>⟨[(3,.ptr (0::0::k::ρ) 0),(7,nI e)],[(0::0::k::ρ,.box [.d (.co (c.free.map CK)),.d (.co (c.nodes.map Bl)),.d (.co (c.defs.map Bw)),nI c.main,.ii (1::1::k::ρ) 0 (U c.nodes),.ii (1::2::k::ρ) 0 (U c.nodes),.ii (1::3::k::ρ) 0 (U c.defs),.d (.bool X)]),(1::1::k::ρ,.f8 1 (A)),(1::2::k::ρ,.f8 1 (B)),(1::3::k::ρ,.f8 1 (R))],4,[]⟩)
          (Inv:=λe v b=>True) (b0:=()) (m:=U c.defs) AG trivial ?_ ?_
         .clear f o m e b;rintro e t b x o m f r;refine aw ?_;exact r.1 () trivial
         .clear f o m e b;rintro e b o m f;refine aw ?_;exact⟨λ_=>⟨_,_,_,_,_,_,_,_,_,rfl,by(simp only[go_sem];try rfl)⟩,λa i=>zCv⟩
       |some a=>
        have g:=Jw (ρ:=41::k::ρ) (n.yes a w) zCK;have s:=g.box;have H:=g.eq rfl l;have K:=g.met rfl l;have Q:=g.defs rfl p;rw[FU,Bs l,Bs l,Bs p]at s;replace g:=AB g;replace n:=AB n;refine aw ?_;have N:=DE c _ _ _ _ _ w;have a6:U a.met=U c.nodes:=by rw[N.met];simp[Bu.init]
        have av:U a.defs=U c.defs:=by rw[N.defs];simp[Bu.init]
        have Y:=AR.mk (Tg ar.1 ag.1 w);clear s H K Q g n M f m O o e;refine CZ a.met (B0:=λ_ e b=>⟨[(3,.ptr (0::0::k::ρ) 0),(6,nI e)],[(0::0::k::ρ,.box [.d (.co (c.free.map CK)),.d (.co (c.nodes.map Bl)),.d (.co (c.defs.map Bw)),nI c.main,.ii (1::1::k::ρ) 0 (U c.nodes),.ii (1::2::k::ρ) 0 (U c.nodes),.ii (1::3::k::ρ) 0 (U c.defs),.d (.bool b)]),(1::1::k::ρ,.f8 1 (a.eq.map AX)),(1::2::k::ρ,.f8 1 (a.met.map Kf)),(1::3::k::ρ,.f8 1 (a.defs.map Kf))],4,[]⟩)
         (Inv:=λe v b=>AR ((!b&&v.all id)=a.met.all id)) (b0:=Z) (m:=U c.nodes) z ⟨rfl⟩ ?_ ?_
        .rintro e t b x o m f r;have ai:=Int.ofNat_lt.1 m;cases b<;>cases t;all_goals (refine aw ?_)
         all_goals
          refine r.1 _ ⟨?_⟩;rw[<-f.1];simp
        .rintro e b o m f;rw[TY,RT]at f;refine aw ?_;refine CZ a.defs (B0:=λ_ e b=>⟨[(3,.ptr (0::0::k::ρ) 0),(7,nI e)],[(0::0::k::ρ,.box [.d (.co (c.free.map CK)),.d (.co (c.nodes.map Bl)),.d (.co (c.defs.map Bw)),nI c.main,.ii (1::1::k::ρ) 0 (U c.nodes),.ii (1::2::k::ρ) 0 (U c.nodes),.ii (1::3::k::ρ) 0 (U c.defs),.d (.bool b)]),(1::1::k::ρ,.f8 1 (a.eq.map AX)),(1::2::k::ρ,.f8 1 (a.met.map Kf)),(1::3::k::ρ,.f8 1 (a.defs.map Kf))],4,[]⟩)
          (Inv:=λe v b=>AR ((!b&&v.all id)=(a.met.all id&&a.defs.all id))) (b0:=b) (m:=U c.defs) z ⟨?_⟩ ?_ ?_
         .rw[f.1]
         .clear f o m e b;rintro e t b x o m f r;have ai:=Int.ofNat_lt.1 m;cases b<;>cases t;all_goals (refine aw ?_)
          all_goals
           refine r.1 _ ⟨?_⟩;rw[<-f.1];simp
         .clear f o m e b;rintro e b o m f;rw[TY,RT]at f;refine aw ?_;have q:=Y.1;cases b
          .have:a.met.all id=X/\a.defs.all id=true:=by have:=f.1;simp only[TO]at this;exact(As _ _).mp this.symm
           rw[Me,Me]at this;rw[D4 this]at q;refine⟨λP=>(by rw[q]at P;cases P),λd8 i=>?_⟩;rw[q]at i;cases i;refine⟨_,_,1::k::ρ,2::k::ρ,3::k::ρ,rfl,⟨?_,λ_ _=>?_,λ_ _=>?_,λ_ _=>?_,λ_=>?_,λ_=>?_,λ_=>?_⟩⟩
           .exact zAo
           .simp only[go_sem]
           .simp only[go_sem]
           .simp only[go_sem]
           .exact zBG
           .exact zBG
           .exact zBG
          .exact zAg
    .by_cases l:U c.nodes=0<;>by_cases p:U c.defs=0;all_goals ((repeat' (first|simp only[*,go_sem]|(refine sx ?_ ?_<;>intro C)|refine sy z λL q D=>?_|simp(disch:=first|assumption|omega) only[Ad,Dm,IQ])))
     all_goals exact⟨λ_=>⟨_,_,_,_,_,_,_,_,_,rfl,by(simp only[go_sem];try rfl)⟩,λa i=>(by rw[M.1 rfl]at i;cases i)⟩
 .have a0:looks c=none:=by unfold looks;rw[Co λh=>i h.1]
  have i:¬(U c.free<=12/\(U c.nodes)<=60/\(U c.defs)<=12):=by intro h;apply i;simp only[Aa.small,As,D3];exact h
  replace i:=AB i;refine XP func83 ?_
  (repeat' (first|simp only[*,go_sem]|(refine sx ?_ ?_<;>intro C)|refine sy z λL q D=>?_|simp(disch:=first|assumption|omega) only[Ad]))
  all_goals first
  |exact⟨λ_=>⟨_,_,_,_,_,_,_,_,_,rfl,by(simp only[go_sem];try rfl)⟩,λa i=>(by rw[a0]at i;cases i)⟩
  |(have i:=i.1;exfalso;omega)
def PN(p:Aa):Int:=match looks p with|some _=>0|none=>2
def yh(b:Aa):Bq kT 44 [.agg [.d (.co (b.free.map CK)),.d (.co (b.nodes.map Bl)),.d (.co (b.defs.map Bw)),nI b.main]] []=.ok (.ret (nI (PN b)),[]):=by
 refine BM func44 ?_;have⟨p,e,c⟩:=AMP b 3 [];rcases hl:looks b with _|a
 .obtain⟨h,l,s,t,v,w,x,A,B,rfl,g⟩:=c.no hl;replace c:=AB c;have f:PN b=2:=by rw[PN,hl]
  exact zBD
 .obtain⟨h,l,q,o,r,rfl,g⟩:=c.yes a hl;have m:=g.box;rw[FU]at m;replace c:=AB c;have f:PN b=0:=by rw[PN,hl]
  exact zBD
def AKf{l:List CN}{i:Int}{s:CN}(h:l[i.toNat]?=J s):Cd l i=s.in_:=by simp[Cd,h]
def cA(l:List CN)(h o p:Ar)(b a:Int)(F:U l<=1000)(n:Il l)(m:Jh l b)(D:0<=a):Bq kT 38 [.agg [.d (.co (l.map Ch)),.d h,.d o,.d p],nI b,nI a] []=.ok (.ret (.d (.bool (Ea l b a))),[]):=by
 refine BM func38 ?_;refine aw ?_;refine rounds (B0:=λc:Int×Nat=>⟨[(1,nI c.1),(2,nI a),(3,.ptr [0,0] 0)],[([0,0],.box [.d (.co (l.map Ch)),.d h,.d o,.d p])],1,[]⟩)
  (Inv:=λc=>(Jh l c.1/\Cl l c.2 c.1=X/\AR (Ea l b a=decide (a∈Zs l c.2 c.1)))\/(c.1= -1/\c.2=0/\AR (Ea l b a=Z))) (m:=λc=>if c.1= -1 then 0 else c.2+1) (a:=(b,U l)) (.inl ⟨m,n.climbs b m,⟨rfl⟩⟩) ?_
 rintro⟨c,k⟩ hI IH;dsimp only at*;rcases hI with⟨⟨B,C⟩,i,e⟩|⟨rfl,rfl,e⟩
 .have r:c.toNat<U l:=z;have⟨s,hs⟩:=g_ r;have j:=AR.mk (AKf hs)
  (repeat' (first|simp only[*,go_sem]|(refine sx ?_ ?_<;>intro q)|refine sy z λh x t=>?_|simp(disch:=first|assumption|omega) only[Ad]))
  .rw[e.1,GO (by rw[<-show c=a by assumption];exact ADf _ _ _)]
  .by_cases g:c=0
   .subst g;have w:s.in_= -1:=by rw[<-j.1];exact n.top
    rw[w];refine IH.1 (-1,0) (by dsimp only;rw[D4 rfl,Co Af];omega) (.inr ⟨rfl,rfl,⟨?_⟩⟩);rw[e.1,ADg,I6];simp only[AS];omega
   .rcases k with _|k
    .simp[Cl,g]at i
    .have f:=OD g i;rw[j.1]at f;have:=f.1.1;refine IH.1 (s.in_,k) (by dsimp only;rw[Co z,Co z];omega) (.inl ⟨f.1,f.2,⟨?_⟩⟩);rw[e.1,AIj g i,j.1];have v:¬a=c:=λA=>z;simp only[DO,v,false_or]
 ·(repeat' (first|simp only[*,go_sem]|(refine sx ?_ ?_<;>intro q)|refine sy z λh x t=>?_|simp(disch:=first|assumption|omega) only[Ad]))
  .omega
  .rw[e.1]
def VO(e:Aa)(a:Ay)(d:Bd)(b:Int)(m:0<=a.ip)(o:e.defs[a.ip.toNat]?=J d)(j:U d.ac<=30)(k:U d.be<=30)(f:d.own<=(U a.env))(p:U a.env<=10000)(r:0<=b)(s:b<=(U d.be)):Bq kT 118 [.agg (pC e),.agg [nI a.ip,nI a.at_,.d (.co (a.env.map BC))],nI b] []=.ok (.ret (nI (a.place d b)),[]):=by
 unfold Bd.own at f;refine BM func118 ?_;by_cases h:b=0
 ·(repeat' (first|simp only[*,go_sem,Ay.place]|(refine sx ?_ ?_<;>intro n)|refine sy z λw t q=>?_|simp(disch:=first|assumption|omega) only[Ad]))
 .have g:U a.env-U d.be-0+(b-1).toNat<U a.env:=z;have⟨v,hv⟩:=g_ g;have i:AR (a.place d b=v.n):=⟨by
   rw[Ay.place,Co h,Ay.own];simp only[AM,Ge];rw[hv];rfl⟩
  have c:((U a.env:Int)-(U d.be:Int)+b-1).toNat=U a.env-U d.be-0+(b-1).toNat:=z;rw[<-c]at hv;replace c:=AB c;have l:0<=(U a.env:Int)-(U d.be:Int)+b-1:=z;refine aw ?_;rw[i.1]
instance:DecidableEq Dp:=λa b=>decidable_of_iff (a.wait=b.wait/\a.group=b.group/\a.pp=b.pp/\a.picks=b.picks) (by cases a;cases b;simp)
abbrev kv(x:Dp):y:=.agg [nI x.wait,nI x.group,nI x.pp,.d (.co (x.picks.map AX))]
inductive Below:u->Al->Prop
 |nil:Below [] []
 |cons {n:Nat} {k:Int} {l:u} {t:Al}:0<=k->k<n->Below l t->Below (n::l) (k::t)
theorem Q3:∀{l:u} {a:Al},a∈Dx l↔Below l a
 |[],a=>by rw[Dx,AS];exact⟨λh=>h▸ .nil,λh=>by cases h;rfl⟩|n::l,a=>by
  rw[Dx,BE];constructor
  .rintro⟨i,hi,ht⟩;obtain⟨g,e,rfl⟩:=EX.1 ht;have:=OL.1 hi;exact .cons z z (Q3.1 e)
  .intro h;cases h with| @cons _ k _ a b f c=>exact⟨k.toNat,OL.2 z,EX.2 ⟨a,Q3.2 c,by rw[Hw b]⟩⟩
def Below.len:∀{l:u} {t:Al},Below l t->(U t)=U l
 |_,_,.nil=>rfl|_,_,.cons _ _ h=>by rw[ID,ID,h.len]
inductive HX(p:Aa)(s:BQ):Dp->Prop
 |wait {i:Nat} {w:Ia}:s.waits[i]?=J w->ws p s w=X->HX p s ⟨i,0,0,[]⟩
 |pp {i k:Nat} {g:Ay} {d:Bd} {r:DI} {t:Al}:s.bv[i]?=J g->p.def? g.ip=J d->d.rules[k]?=J r->BA s.be (g.place d r.at_)=Z->Below (C7 s d g r) t->HX p s ⟨-1,i,k,t⟩
theorem dy{p:Aa}{a:BQ}{x:Dp}:∀{l:List Ia} {i:Nat},a.waits.drop i=l->(x∈GW p a i l↔ ∃j:Nat,i<=j/\∃b,a.waits[j]?=J b/\ws p a b=X/\x=⟨j,0,0,[]⟩)
 |[],i,h=>by exact zAm|b::l,i,h=>by
  have c:a.waits[i]?=J b:=by exact zBy
  have e:=dy (x:=x) (p:=p) (l:=l) (i:=i+1) (by rw[Ax c]at h;exact(T2 h).2);grind [GW]
theorem VW{s:BQ}{d:Bd}{g:Ay}{i:Nat}{x:Dp}:∀{l:List DI} {k:Nat},d.rules.drop k=l->(x∈IW s d g i k l↔ ∃j:Nat,k<=j/\∃a,d.rules[j]?=J a/\∃c∈J0 s d g a,x=⟨-1,i,j,c⟩)
 |[],k,h=>by exact zAm|a::l,k,h=>by
  have b:d.rules[k]?=J a:=by exact zBy
  have e:=VW (x:=x) (s:=s) (g:=g) (i:=i) (l:=l) (k:=k+1) (by rw[Ax b]at h;exact(T2 h).2);grind [IW]
theorem bw{p:Aa}{b:BQ}{x:Dp}:∀{l:List Ay} {i:Nat},b.bv.drop i=l->(x∈JL p b i l↔ ∃j:Nat,i<=j/\∃a d,b.bv[j]?=J a/\p.def? a.ip=J d/\x∈IW b d a j 0 d.rules)
 |[],i,h=>by exact zAm|a::l,i,h=>by
  have c:b.bv[i]?=J a:=by exact zBy
  have e:=bw (x:=x) (p:=p) (l:=l) (i:=i+1) (by rw[Ax c]at h;exact(T2 h).2);grind [JL]
theorem AK1{e:Aa}{b:BQ}{f:Dp}:f∈Et e b↔HX e b f:=by
 rw[Et,Ac,dy (l:=b.waits) (i:=0) rfl,bw (l:=b.bv) (i:=0) rfl];constructor
 .rintro(⟨j,_,w,h1,h2,rfl⟩|⟨j,_,g,d,h1,h2,h3⟩)
  .exact .wait h1 h2
  .obtain⟨k,_,i,c,l,a,rfl⟩:=(VW (l:=d.rules) (k:=0) rfl).1 h3;rw[J0]at a;split at a
   .cases a
   .rename_i h;exact .pp h1 h2 c zCP (Q3.1 a)
 .rintro(⟨h1,h2⟩|⟨h1,h2,h3,c,a⟩)
  .grind
  .exact .inr ⟨_,F9 _,_,_,h1,h2,(VW (l:=_) (k:=0) rfl).2 ⟨_,F9 _,_,h3,_,by grind [J0,Q3],rfl⟩⟩
def XT(s:BQ)(e:Ij):Prop:=e.deed=5/\Jh s.be e.at_/\BA s.be e.at_=Z
structure Wy(p:Aa)(sz:Al)(st d8:Cy)(js:List GL):Prop:=
 qr:Ed p sz d8.em
 ext:Vl st.em d8.em
 jobs:∀j∈js,Cb p sz d8.em j
 work:d8.work=st.work
 ev:∃l,d8.ev=st.ev++l/\(U l)<=1/\∀e∈l,XT d8.em e
structure Ka(p:Aa)(sz:Al)(st d8:Cy):Prop:=
 qr:Ed p sz d8.em
 ext:Vl st.em d8.em
 work:st.work<=d8.work
 top:st.work<=400->d8.work<=400
 evs:∃l,d8.ev=st.ev++l/\(U l:Int)<=d8.work-st.work/\∀e∈l,XT d8.em e
theorem Ka.ev{b:Aa}{c:Al}{a d8:Cy}(h:Ka b c a d8):(U d8.ev:Int)<=(U a.ev)+(d8.work-a.work):=by have⟨l,h1,h2,_⟩:=h.evs;grind
def AHN{c e:BQ}(h:Vl c e){b:Ij}(a:XT c b):XT e b:=⟨a.1,JO h.ns a.2.1,by rw[Gv h a.2.1];exact a.2.2⟩
def ABz{b:Aa}{c:Al}{a:Cy}(h:Ed b c a.em):Ka b c a a:=⟨h,JE _,z,λh=>h,[],AG,AG,AG⟩
theorem ZJ{f:Aa}{g:Al}{i b j:Cy}(e:Ka f g i b)(a:Ka f g b j):Ka f g i j:=by
 have⟨l,e1,n1,w1⟩:=e.evs;have⟨m,e2,n2,w2⟩:=a.evs;refine⟨a.qr,Uy e.ext a.ext,by grind,λh=>a.top (e.top h),l++m,by grind,by grind,λk c=>?_⟩;rcases Ac.1 c with c|c
 .exact AHN a.ext (w1 k c)
 .exact w2 k c
section
variable{p:Aa}{a:Al}{st:Cy}{j:GL}{x:CQ}
theorem AHC{c:BQ}{f:Nat}{b:Fo}(k:Ed p a c)(j:c.ac[f]?=J b){l:List C8}(n:U b.queue<12)(g:BA c.be b.at_=Z)(o:EE p c b=U l)(q:l.all (C8.inB p (U c.ac) (U c.be))=X):gA p c {b with queue:=b.queue++[l]}:=by
 have h:=k.que f b j;refine⟨BP,.inr g,λm i=>?_⟩;rcases Ac.1 i with e|e
 .exact h.msgs m e
 grind [QC,EE]
theorem ACX(f:Ed p a st.em)(e:Cb p a st.em j)(l:∀b∈x.args,b.formed (U j.env)=X){d8:Cy}(h:Ff p x j st=J d8):Wy p a st d8 []:=by
 have i:(x.args.map (·.value j.env)).all (C8.inB p (U st.em.ac) (U st.em.be))=true:=by rw[EL];intro m i;obtain⟨b,c,rfl⟩:=EX.1 i;exact ACy e.wd b (l b c)
 simp[Ff]at h;split at h
 .cases h;exact⟨f,JE _,AG,rfl,_,rfl,AG,λb c=>by rw[AS]at c;subst c;exact⟨rfl,e.at_,e.live⟩⟩
 split at h
 .obtain⟨k,g,rfl⟩:=BY.1 h;have key:Ed p a k/\Vl st.em k:=by
   rw[Oz]at g;split at g
   .grind [Vt,dS,AHC,AAG,JE]
   .grind [JE]
  exact⟨key.1,key.2,AG,rfl,[],AG,AG,AG⟩
 .cases h;exact⟨f,JE _,AG,rfl,[],AG,AG,AG⟩
theorem kO(l:Ao p a)(t:Ed p a st.em)(c:Cb p a st.em j)(w:p.nodes[j.node.toNat]?=J x)(s:x.op=4){d8:Cy}{o:List GL}(h:KI p x j st=J (d8,o)):Wy p a st d8 o:=by
 have⟨d,hd⟩:=fA l t c w s;simp only[KI,hd.ip]at h;split at h
 .rename_i q;cases h;have e:=hd.ext;have r:(Br st.em d (Ae st.em d x.n j)).ac.length=U st.em.ac+U d.ac:=by simp[Br,JR]
  have v:(Br st.em d (Ae st.em d x.n j)).be.length=U st.em.be+U d.be:=by simp[Br,HP]
  have n:(Ae st.em d x.n j).env.all (C8.inB p (Br st.em d (Ae st.em d x.n j)).ac.length (Br st.em d (Ae st.em d x.n j)).be.length)=true:=by rw[r,v];exact hd.wd
  have m:((Ae st.em d x.n j).env.length:Int)=(U j.env:Int)+d.own:=by rw[hd.env];omega
  refine⟨hd.sok' l q,e,λD b=>?_,rfl,[],AG,AG,AG⟩;rcases Ac.1 b with b|b
  .obtain⟨A,B,f,rfl⟩:=LK b;have g:=hd.be B (AP f);have C:=l_ f;have i:=hd.spot (n:=((0+A:Nat):Int)+1) z z;exact⟨g.1,by rw[g.2,m],i.1,i.2,n⟩
  .have⟨k,hk,k0,k1⟩:=hd.kid;rw[Bh,hk]at b;simp at b;subst b;exact⟨k0,by rw[k1,m],JO e.ns c.at_,by rw[Gv e c.at_];exact c.live,n⟩
 .cases h
theorem wG(e:Ed p a st.em)(c:Cb p a st.em j)(i:p.nodes[j.node.toNat]?=J x)(f:O8 x.op=X){d8:Cy}(h:Gg j st=J d8):Wy p a st d8 []:=by
 rw[Gg]at h;split at h
 .rename_i m;cases h;refine⟨Nw e BP λk b=>?_,⟨λ_ _ h=>h,λ_ _ h=>h,λl n g=>⟨[],by simpa using g⟩⟩,AG,rfl,[],AG,AG,AG⟩;rcases Ac.1 b with b|b
  .exact e.wait k b
  .rw[AS]at b;subst b;simp only[IC,c.live,c.wd,i,f,c.size,As,D3,It,F7];exact⟨c.at_,trivial,c.n0,trivial,trivial,trivial⟩
 .cases h
theorem R6(g:Ao p a)(c:Ed p a st.em)(e:Cb p a st.em j){d8:Cy}{f:List GL}(h:Kn p j st=J (d8,f)):Wy p a st d8 f:=by
 have⟨x,l,hx,hok,hsub,hq,_⟩:=Lz g e;simp[Kn,hx]at h;have m:=λb k=>U9 e b hsub hq k;split at h
 .grind [Option.map_eq_some_iff,Cw,ACX,CC.ok]
 split at h
 .rename_i b;cases h;refine⟨c,JE _,λo n=>?_,rfl,[],AG,AG,AG⟩;grind
 split at h
 .grind [kO]
 split at h
 .rename_i i b;cases h;exact⟨c,JE _,m i _,rfl,[],AG,AG,AG⟩
 split at h
 .grind [Option.map_eq_some_iff,wG]
 .cases h;exact⟨c,JE _,AG,rfl,[],AG,AG,AG⟩
end
def Nf{c:Aa}{e:Al}{g:GL->Cy->Option Cy}(i:∀b a d8,Ed c e a.em->Cb c e a.em b->g b a=J d8->Ka c e a d8):∀(l:List GL) (a d8:Cy),Ed c e a.em->(∀b∈l,Cb c e a.em b)->ED g l a=J d8->Ka c e a d8
 |[],a,d8,hs,_,h=>by cases h;exact ABz hs|b::l,a,d8,hs,hj,h=>by rw[ED]at h;have⟨st1,h1,h2⟩:=HE.1 h;have f:=i b a st1 hs (hj b AG) h1;exact ZJ f (Nf i l st1 d8 f.qr (λk j=>Oc (hj k (by simp[j])) f.ext) h2)
def Hi{e:Aa}{f:Al}(i:Ao e f):∀(k:Nat) (b:GL) (a d8:Cy),Ed e f a.em->Cb e f a.em b->J9 e k b a=J d8->Ka e f a d8
 |0,b,a,d8,_,_,h=>by cases h|k+1,b,a,d8,hs,hj,h=>by
  rw[J9]at h;split at h
  .rename_i n;rcases hd:Kn e b {a with work:=a.work+1}with _|m
   .rw[hd]at h;cases h
   .obtain⟨g,j⟩:=m;rw[hd]at h;have c:=R6 (st:={a with work:=a.work+1}) i hs hj hd
    have⟨l,e1,e2,e3⟩:=c.ev;have o:g.work=a.work+1:=c.work;refine ZJ (b:=g) ⟨c.qr,c.ext,z,z,l,e1,z,e3⟩ (Nf (λb a d8=>Hi i k b a d8) j g d8 c.qr c.jobs h)
  .cases h
variable{c:Type}{l:List c}
theorem Js{i:Int}{x:c}(h:x∈BK l i):x∈l:=by
 rcases Ac.1 h with h|h
 .grind
 grind
theorem AAC{i:Int}(h:i.toNat<U l):(BK l i).length=U l-1:=by grind [BK]
theorem Pt(l:List c)(i:Int):(BK l i).length<=(U l):=by grind [BK]
theorem AB7{c:Aa}{e:BQ}{a:Fo}(h:gA c e a)(k:Int):gA c e {a with queue:=BK a.queue k}:=by
 have:=Pt a.queue k;refine⟨Gt this h.len,?_,λg f=>h.msgs g (Js f)⟩;rcases h.dead with b|b
 .grind
 .exact .inr b
structure aX(s s':BQ):Prop:=
 be:s'.be=s.be
 bv:s'.bv=s.bv
 waits:s'.waits=s.waits
 len:U s'.ac=U s.ac
theorem qY{f:Aa}{l:Al}{a:BQ}(j:Ed f l a){b:Int}{c:Fo}(h:a.ac[b.toNat]?=J c){k:Int}(o:k.toNat<U c.queue):Ed f l (EW a b k).2/\aX a (EW a b k).2/\(EW a b k).1.all (C8.inB f (U a.ac) (U a.be))=X/\(((EW a b k).1.length:Nat):Int)=EE f a c/\∀e:Nat,e≠b.toNat->(EW a b k).2.ac[e]?=a.ac[e]? :=by
 have⟨m,hm⟩:=g_ o;have i:=j.que _ c h;have g:=i.msgs m (AP hm);simp only[QC,As,D3]at g;have n:EW a b k=(m,{a with ac:=a.ac.set b.toNat {c with queue:=BK c.queue k}}):=by rw[EW,h];simp[hm]
 rw[n];refine⟨dS j h (AB7 i k),⟨rfl,rfl,rfl,AG⟩,g.2,g.1,λe p=>?_⟩;grind
structure jG(p:Aa)(sz:Al)(d:Bd)(cs:Al)(s:BQ)(t:List C8×BQ):Prop:=
 qr:Ed p sz t.2
 only:aX s t.2
 wd:t.1.all (C8.inB p (U s.ac) (U s.be))=X
 len:((U t.1:Nat):Int)=CJ d cs
theorem qV{p:Aa}{sz:Al}{d:Bd}{g:Ay}:∀{cs ks:Al} {s:BQ},Ed p sz s->(U cs)=U ks->
 (∀(a:Nat) c k,cs[a]?=J c->ks[a]?=J k->∃i,s.ac[(g.own d X c).toNat]?=J i/\k.toNat<U i.queue/\EE p s i=((d.ac[c.toNat]?).map HV.many).getD 0)->
 (∀(a h:Nat) c b,a<h->cs[a]?=J c->cs[h]?=J b->(g.own d X b).toNat≠(g.own d X c).toNat)->jG p sz d cs s (Bb d g cs ks s)
 |[],ks,s,hs,_,_,_=>by
  rw[Bb]
  .exact⟨hs,⟨rfl,rfl,rfl,rfl⟩,rfl,rfl⟩
  grind
 |c::cs,[],s,hs,l,_,_=>by cases l|c::cs,k::ks,s,hs,l,hq,hd=>by
  have⟨i,h1,h2,h3⟩:=hq 0 c k rfl rfl;have⟨a1,a2,a3,a4,a5⟩:=qY hs h1 h2;have e:=qV (p:=p) (sz:=sz) (d:=d) (g:=g) (cs:=cs) (ks:=ks) (s:=(EW s (g.own d X c) k).2) a1 zDC (λa b n f j=>?_) (λa h b m o f j=>hd (a+1) (h+1) b m z zCm zCc)
  .rw[Bb];refine⟨e.qr,⟨e.only.be.trans a2.be,e.only.bv.trans a2.bv,e.only.waits.trans a2.waits,e.only.len.trans a2.len⟩,?_,?_⟩
   .rw[S1,a3,Jp];have:=e.wd
    rwa [a2.len,a2.be]at this
   .have:=e.len;grind [CJ]
  .have⟨q2,b1,b2,b3⟩:=hq (a+1) b n zCm zCc;refine⟨q2,by rw[a5 _ (hd 0 (a+1) c b z rfl zCm)];exact b1,b2,?_⟩;rw[<-b3,EE,EE,a2.bv]
theorem AA3{l:List CN}(c:Il l){b a:Int}(e:Jh l b)(f:¬b=0):Ea l b a=(decide (a=b)||Ea l (Cd l b) a):=by have g:=c.climbs b e;obtain⟨k,h⟩:∃k,U l=k+1:=⟨U l-1,by have:=c.pos;omega⟩;grind [OD,Zs,Xe,Ea]
def K2(l:List CN)(at_:Int):List CN:=Lu l at_ 0 l
theorem AJB(l:List CN)(at_:Int):∀(m:List CN) (i:Nat),(Lu l at_ i m).length=U m
 :=by intro x;induction x<;>grind [Lu]
theorem AJA(l:List CN)(at_:Int):∀(m:List CN) (i k:Nat),(Lu l at_ i m)[k]?=(m[k]?).map λx=>{x with dead:=x.dead||Ea l ((i+k:Nat):Int) at_}
 :=by intro x;induction x<;>grind [Lu]
theorem X6(l:List CN)(at_:Int)(k:Nat):(K2 l at_)[k]?=(l[k]?).map λx=>{x with dead:=x.dead||Ea l k at_}:=by grind [K2,AJA]
theorem JA(l:List CN)(at_:Int):(K2 l at_).length=U l:=AJB l at_ l 0
theorem xJ(l:List CN)(at_ i:Int):Cd (K2 l at_) i=Cd l i:=by grind [Cd,X6]
def zu(l:List CN)(at_:Int):∀(k:Nat) (i:Int),Cl (K2 l at_) k i=Cl l k i
 :=by intro x;induction x<;>grind [Cl,xJ,Jh,JA]
theorem AEY(l:List CN)(at_:Int){a:Int}(b:Jh l a):BA (K2 l at_) a=(BA l a||Ea l a at_):=by have c:=b.1;have e:=b.2;grind [BA,X6]
theorem AEZ{l:List CN}(h:Il l)(at_:Int):Il (K2 l at_):=⟨by rw[JA];exact h.pos,by rw[xJ];exact h.top,λa b=>by rw[zu,JA];exact h.climbs a (by grind [Jh,JA])⟩
theorem xK{f:Aa}{p:Al}{a:BQ}(R:Ao f p)(h:Ed f p a)(at_:Int):Ed f p (OH a at_):=by
 have M:=h.small;simp[BQ.small]at M;have g:(OH a at_).be=K2 a.be at_:=rfl;have r:(OH a at_).ac=a.ac.map λc=>if BA (K2 a.be at_) c.at_=X then{c with queue:=[]}else c:=rfl
 have N:(OH a at_).waits=a.waits.filter λq=> !BA (K2 a.be at_) q.at_:=rfl;have j:(OH a at_).bv=a.bv:=rfl;have i:(OH a at_).ac.length=U a.ac:=by rw[r,BV]
 have m:(OH a at_).be.length=U a.be:=by rw[g,JA]
 have T:∀c l,EE f (OH a at_) {c with queue:=l}=EE f a c:=λc l=>rfl
 refine⟨?_,by rw[g];exact AEZ h.tree _,λe V t n=>?_,λe D s=>?_,by rw[j,i,m];exact h.tot,λB c v=>?_,λq x=>?_⟩
 .grind [BQ.small]
 .rw[g]at n⊢;rw[X6]at n;obtain⟨Q,o,rfl⟩:=BY.1 n;have K:=va h.tree t o;have H:Jh a.be e:=⟨z,by have:=l_ o;omega⟩;dsimp only;rw[AEY _ _ K,RC,Bool.or_eq_false_iff];rcases h.dead e Q t o with b|b
  .exact .inl (.inl b)
  .rcases hz:Ea a.be e at_ with _|_
   .refine .inr ⟨b,?_⟩;rw[AA3 h.tree H z,Bool.or_eq_false_iff]at hz;grind [Cd]
   .exact .inl (.inr rfl)
 .rw[j]at s;have⟨d,b⟩:=h.grp e D s;refine⟨d,b.ip,by rw[g,Jh,JA];exact b.at_,b.len,by rw[i,m];exact b.wd,by rw[j];exact b.mine,λO C L=>?_⟩;have⟨c,h1,h2,h3,h4⟩:=b.ac O C L;grind
 .rw[r,Be]at v;obtain⟨P,F,rfl⟩:=BY.1 v;have w:=h.que B P F;split
  .exact⟨AG,.inl rfl,λA k=>by cases k⟩
  .rename_i b;refine⟨w.len,?_,λA k=>?_⟩
   .grind
   .rw[i,m];exact w.msgs A k
 .rw[N,Qr]at x;have:=h.wait q x.1;grind [IC,Jh]
section
variable{l:List CN}{i n:Int}{x:CN}
theorem Nj(l:List CN)(i n:Int):(Gj l i n).length=U l:=by grind [Gj]
theorem Tl(a:l[i.toNat]?=J x)(k:Nat):(Gj l i n)[k]?=if k=i.toNat then J {x with in_:=n}else l[k]? :=by grind [Gj]
theorem Yz(b:0<=i)(a:l[i.toNat]?=J x){k:Int}(c:0<=k):Cd (Gj l i n) k=if k=i then n else Cd l k:=by rw[Cd,Cd,Tl a];grind
theorem Q4(a:l[i.toNat]?=J x)(k:Int):BA (Gj l i n) k=BA l k:=by rw[BA,BA,Tl a];grind
theorem AGP(a:0<=i)(c:l[i.toNat]?=J x):∀{k:Nat} {b:Int},Jh l b->Cl l k b=X->i∉Zs l k b->Cl (Gj l i n) k b=X
 :=by intro x;induction x<;>grind [Zs,Cl,Jh,Gj,Cd]
theorem oC(g:Il l)(p:0<i)(m:l[i.toNat]?=J x)(c:Jh l n)(h:Ea l n i=Z):∀{k:Nat} {b:Int},Jh l b->Cl l k b=X->∃e,Cl (Gj l i n) e b=X
 |0,b,o,a=>by simp[Cl]at a;subst a;exact⟨0,OE _ _⟩|k+1,b,o,a=>by
  by_cases f:b=0
  .subst f;exact⟨0,OE _ _⟩
  .have j:=OD f a;by_cases q:b=i
   .have r:=AGP (n:=n) z m c (g.climbs n c) (by simpa[Ea]using h);refine⟨U l+1,?_⟩;grind [Jh,Nj,Cl,Yz]
   .have⟨e,hm⟩:=oC g p m c h j.1 j.2;refine⟨e+1,?_⟩;grind [Jh,Nj,Cl,Yz]
def ABi(a:Il l)(g:0<i)(f:l[i.toNat]?=J x)(h:Jh l n)(j:Ea l n i=Z):Il (Gj l i n):=by
 refine⟨by rw[Nj];exact a.pos,by rw[Yz z f z,Co z];exact a.top,λb c=>?_⟩;have e:Jh l b:=by rw[Jh,Nj]at c;exact c
 have⟨m,hm⟩:=oC a g f h j e (a.climbs b e);exact Pn z (Vs c hm)
end
theorem KO{f:Aa}{g:Al}{a:BQ}(h:Ed f g a){i n:Int}(o:0<i)(e:Jh a.be i)(r:Jh a.be n)(K:BA a.be n=Z)(s:Ea a.be n i=Z):Ed f g {a with be:=Gj a.be i n}:=by
 have v:=h.small;simp[BQ.small]at v;have F:=e.1;have H:=e.2;have⟨x,hx⟩:=g_ (l:=a.be) (i:=i.toNat) z;have b:=Nj a.be i n;refine⟨by grind [BQ.small],ABi h.tree o hx r s,λk D p c=>?_,λk l m=>?_,by dsimp only;rw[b];exact h.tot,λj B t=>?_,λC w=>?_⟩
 .dsimp only at c⊢;rw[Q4 hx];rw[Tl hx]at c;split at c
  .grind
  .exact h.dead k D p c
 .have⟨d,hd⟩:=h.grp k l m;exact⟨d,hd.ip,by dsimp only;rw[Jh,b];exact hd.at_,hd.len,by dsimp only;rw[b];exact hd.wd,hd.mine,hd.ac⟩
 .have:=h.que j B t;exact⟨this.len,by dsimp only;rw[Q4 hx];exact this.dead,λA q=>by dsimp only;rw[b];exact this.msgs A q⟩
 .have:=h.wait C w;grind [IC,Q4,Jh]
theorem Pg:∀{g:u} {i:Al},Below g i->∀(b:Nat) a k,g[b]?=J a->i[b]?=J k->0<=k/\k<a
 |_,_,.nil,b,a,k,h,_=>by simp at h|_,_,.cons j l f,0,a,k,c,e=>by grind|_,_,.cons j l f,b+1,a,k,c,e=>Pg f b a k zCy zCx
theorem Od{d:Bd}{e:DI}{c:Al}:∀{a:Nat},e.d7.drop a=c->q_g d e a c=X->∀(b k:Nat) f g,a<=b->k<b->e.d7[b]?=J f->e.d7[k]?=J g->f≠g:=by
 induction c with
 |nil=>grind [List.drop_eq_nil_iff]
 |cons r c q=>
  intro a h l b k f g s p j o;rw[q_g,As]at l;have n:e.d7[a]?=J r:=by have:=congrArg (λc=>c[0]?) h;simpa using this
  by_cases i:b=a
  .subst i;rw[n]at j;cases j;have m:=l.1;simp[H8]at m;intro i;subst i;exact m.2.2.2 (QR.2 ⟨k,by grind⟩)
  .exact q (by rw[Ax n]at h;exact(T2 h).2) l.2 b k f g z p j o
structure G0(p:Aa)(sz:Al)(s:BQ)(x:Dp)(s1:BQ)(e:Ij)(js:List GL):Prop:=
 qr:Ed p sz s1
 jobs:∀j∈js,Cb p sz s1 j
 run:Cz p s x=ED (J9 p 401) js ⟨s1,[e],0⟩
 one:U js<=1
theorem XC(x:CQ)(k:Nat)(a:Int)(e:List C8):(Bh x k a e).length<=1:=by grind [Bh]
variable{w:Ia}
def KY{a:Aa}{c:Al}{e:BQ}{j:CQ}(f:Ao a c)(h:IC a c e w=X)(i:a.nodes[w.node.toNat]?=J j)(k:Nat):∀m∈Bh j k w.at_ w.env,Cb a c e m:=by have⟨A9,hw⟩:=O7 f h;have g:Cb a c e ⟨w.node,w.at_,w.env⟩:=⟨hw.n0,hw.size,hw.at_,hw.live,hw.wd⟩;have⟨y2,l,b,h2,h3,h4,_⟩:=Lz f g;have b:a.nodes[w.node.toNat]?=J y2:=b;rw[hw.node]at b;rw[hw.node]at i;cases i;cases b;exact U9 g (by have:=hw.op;omega) h3 h4 k
theorem IM{b:Aa}{e:Al}{c:BQ}{a:GL}(h:Cb b e c a)(f:List Ia):Cb b e {c with waits:=f} a:=⟨h.n0,h.size,h.at_,h.live,h.wd⟩
theorem ACk{e:Aa}{j:Al}{a:BQ}{i:Nat}(h:Ao e j)(f:Ed e j a)(o:a.waits[i]?=J w)(b:ws e a w=X):∃F t D,G0 e j a ⟨i,0,0,[]⟩ F t D:=by
 have s:=f.wait w (AP o);have⟨x,hx⟩:=O7 h s;have C:=f.small;simp[BQ.small]at C;have n:Ed e j {a with waits:=BK a.waits i}:=Nw f zDQ λk r=>f.wait k (Js r)
 have c:Cz e a ⟨i,0,0,[]⟩=MU e {a with waits:=BK a.waits i} w x:=by rw[Cz,Co AZ,Qf];simp[o,hx.node]
 rw[MU]at c;have K:=hx.op;by_cases g:x.op=7
 .rw[D4 g]at c;exact⟨_,_,[],xK h n w.at_,AG,c,AG⟩
 .rw[Co g]at c;have⟨k,r,hn,hk⟩:=hx.val g;rw[ws,hx.node]at b;simp only[g,Ge,hn]at b;split at b
  .rename_i v;have⟨hr,A9,hy,hyd⟩:=hk v;by_cases q:x.op=6
   .rw[D4 q]at c;rw[Co z]at b;simp only[As,D3,It]at b;have l:=hx.at_;have H:=l.1;have A:=KO n (i:=w.at_) (n:=k.n) z l hr b.2.1 b.2.2;have B:=KO f (i:=w.at_) (n:=k.n) z l hr b.2.1 b.2.2;rw[hn]at c;exact⟨_,_,_,A,λp m=>IM (KY h (B.wait w (AP o)) hx.node 0 p m) (BK a.waits i),c,XC _ _ _ _⟩
   .rw[Co q]at c;exact⟨_,_,_,n,λp m=>IM (KY h s hx.node 0 p m) (BK a.waits i),c,XC _ _ _ _⟩
  .cases b
variable{k:Nat}{t:Al}
theorem Ns{h:Aa}{n:Al}{f:BQ}{s:Nat}{a:Ay}{d:Bd}{c:DI}(B:Ao h n)(r:Ed h n f)(v:f.bv[s]?=J a)(w:h.def? a.ip=J d)(L:d.rules[k]?=J c)(M:BA f.be (a.place d c.at_)=Z)(A:Below (C7 f d a c) t):jG h n d c.d7 f (Bb d a c.d7 t f)/\Cb h n (Bb d a c.d7 t f).2 ⟨c.node,a.place d c.at_,a.env++(Bb d a c.d7 t f).1⟩:=by
 have⟨d2,hd⟩:=r.grp s a v;have p:=AP L;have C:=hd.ip;rw[w]at C;cases C;have m:=Oy B r v hd p;have D:=Bk B (Cr w).2;have K:=D.ok.pp c p;simp[Bx]at K;have H:∀e∈c.d7,(a.own d X e).toNat=(JT h (f.bv.take s)).1+e.toNat:=λe O=>by have⟨o,b,_⟩:=m.join e O;have:=ME hd.mine o b;omega
 have g:=qV (p:=h) (sz:=n) (d:=d) (g:=a) (cs:=c.d7) (ks:=t) r (by have:=A.len;rw[C7,BV]at this;exact this.symm) (λP e Q j l=>?_) (λo b e i N j l=>?_)
 .have⟨_,x,s0,b1,b2,b3,b4,b5,b6,b7,b8,_⟩:=D.node;have F:=hd.len;rw[b7]at F;simp at F;have⟨c1,i⟩:=b8 c p;refine⟨g,c1,?_,by rw[g.only.be];exact m.place,by rw[g.only.be];exact M,?_⟩
  .have:=g.len;dsimp only;rw[i,Dl];congr 1;omega
  .rw[g.only.be,g.only.len,S1,hd.wd,g.wd];rfl
 .have⟨c0,c1,i,q,c3,c4,c5⟩:=m.join e (AP j);have T:=Pg A P (QL f (a.own d X e)) Q (by grind [C7]) l;refine⟨q,c3,z,?_⟩;have⟨ch,hch⟩:=g_ (l:=d.ac) (i:=e.toNat) z;have⟨R,f1,f2,f3,_⟩:=hd.ac _ ch hch;grind [Oj]
 .rw[H e (AP j),H i (AP l)];have:=Od rfl K.2.2.2 b o i e (F9 _) N l j;have V:=(m.join e (AP j)).1;have R:=(m.join i (AP l)).1;omega
theorem ACj{f:Aa}{g:Al}{c:BQ}{e:Nat}{a:Ay}{d:Bd}{b:DI}(q:Ao f g)(r:Ed f g c)(h:c.bv[e]?=J a)(i:f.def? a.ip=J d)(j:d.rules[k]?=J b)(o:BA c.be (a.place d b.at_)=Z)(p:Below (C7 c d a b) t):∃v l s,G0 f g c ⟨-1,e,k,t⟩ v l s:=by have⟨ht,hj⟩:=Ns q r h i j o p;have m:c.bv[((e:Nat):Int).toNat]?=J a:=h;have n:d.rules[((k:Nat):Int).toNat]?=J b:=j;refine⟨(Bb d a b.d7 t c).2,⟨1,a.place d b.at_,e,k,(Bb d a b.d7 t c).1⟩,[⟨b.node,a.place d b.at_,a.env++(Bb d a b.d7 t c).1⟩],ht.qr,λx w=>by grind,?_,AG⟩;rw[Cz,D4 AZ,react];simp only[m,(Cr i).2,n,RI];rw[ED];cases J9 f 401 ⟨b.node,a.place d b.at_,a.env++(Bb d a b.d7 t c).1⟩ ⟨(Bb d a b.d7 t c).2,[⟨1,a.place d b.at_,e,k,(Bb d a b.d7 t c).1⟩],0⟩<;>rfl
theorem AHc{a:Aa}{c:Al}{b:BQ}{g:Dp}(j:Ao a c)(k:Ed a c b)(h:HX a b g):∃m i l,G0 a c b g m i l:=by cases h with|wait e f=>exact ACk j k e f|pp e f n o p=>grind [ACj]
theorem Vc{b:Aa}{g:Al}{f:BQ}{k:Dp}(i:Ao b g)(m:Ed b g f)(h:HX b f k){a:Cy}(j:Cz b f k=J a):Ed b g a.em/\a.ev≠ []/\(U a.ev)<=401:=by have⟨s1,e,js,hm⟩:=AHc i m h;rw[hm.run]at j;have c:=Nf (λn a d8=>Hi i 401 n a d8) js ⟨s1,[e],0⟩ a hm.qr hm.jobs j;have⟨l,h1,_⟩:=c.evs;refine⟨c.qr,by rw[h1];simp,?_⟩;have o:=c.ev;have p:=c.top AZ;grind
def Pr(l:List CN)(at_:Int)(n:Nat):List CN:=(K2 l at_).take n++l.drop n
theorem X5(a:List CN)(at_:Int){b:Nat}(c:b<=(U a)):(Pr a at_ b).length=U a:=by grind [Pr,JA]
theorem X4(a:List CN)(at_:Int){b:Nat}(e:b<=(U a))(k:Nat):(Pr a at_ b)[k]?=(a[k]?).map λc=>if k<b then{c with dead:=c.dead||Ea a k at_}else c:=by grind [JA,Pr,X6]
def zt(l:List CN)(at_:Int):Pr l at_ 0=l:=by simp[Pr]
theorem kU(l:List CN)(at_:Int):Pr l at_ (U l)=K2 l at_:=by grind [Pr,JA]
variable{l:List CN}{at_:Int}
def zr{a:Nat}{b:CN}(c:l[a]?=J b):Pr l at_ (a+1)=(Pr l at_ a).set a {b with dead:=b.dead||Ea l a at_}:=by have e:=l_ c;refine Lt λk=>?_;grind [X4,X5]
theorem AI8{a:Nat}{b:CN}(c:l[a]?=J b):(Pr l at_ a)[a]?=J b:=by grind [X4]
theorem AEX(l:List CN)(at_:Int){b:Nat}(c:b<=(U l))(a:Int):Cd (Pr l at_ b) a=Cd l a:=by grind [Cd,X4]
variable{m:List CN}
theorem vV(e:∀a,Cd m a=Cd l a)(c:U m=U l):∀(k:Nat) (a:Int),Cl m k a=Cl l k a
 :=by intro b;induction b<;>grind [Cl,Jh]
theorem AHO(c:∀a,Cd m a=Cd l a):∀(k:Nat) (a:Int),Zs m k a=Zs l k a
 :=by intro b;induction b<;>grind [Zs]
def ACU(e:∀b,Cd m b=Cd l b)(a:U m=U l)(h:Il l):Il m:=⟨by rw[a];exact h.pos,by rw[e];exact h.top,λb c=>by rw[vV e a,a];exact h.climbs b (by rw[Jh,a]at c;exact c)⟩
theorem po(f:∀c,Cd m c=Cd l c)(e:U m=U l)(b a:Int):Ea m b a=Ea l b a:=by grind [Ea,AHO]
def Ic(l:List CN)(q:Fo):Fo:=if BA l q.at_=X then{q with queue:=[]}else q
def Ra(l:List CN)(c:List Fo)(n:Nat):List Fo:=(c.take n).map (Ic l)++c.drop n
def zn(l:List CN)(c:List Fo):Ra l c 0=c:=by simp[Ra]
def AEQ(l:List CN)(c:List Fo):Ra l c (U c)=c.map (Ic l):=by simp[Ra]
theorem AER(l:List CN)(a:List Fo){b:Nat}(c:b<=(U a)):(Ra l a b).length=U a:=by grind [Ra]
theorem ey{b:List Fo}{a:Nat}{c:Fo}(e:b[a]?=J c):(Ra l b a)[a]?=J c:=by grind [Ra]
def zm{b:List Fo}{a:Nat}{e:Fo}(c:b[a]?=J e):Ra l b (a+1)=(Ra l b a).set a (Ic l e):=by
 have g:=l_ c;have f:((b.take a).map (Ic l)).length=a:=zDH
 rw[Ra,Ra,Ex,c,Md _ _ z,f,IF,Ax c];simp
theorem xL(s:BQ)(at_:Int):OH s at_=⟨K2 s.be at_,s.bv,s.ac.map (Ic (K2 s.be at_)),s.waits.filter λw=> !BA (K2 s.be at_) w.at_⟩:=rfl
def Tv(b:List Ij)(a:Cy):Cy:=⟨a.em,b++a.ev,a.work⟩
theorem AEa(c:Aa)(a:GL)(f:List Ij)(e:Cy):Kn c a (Tv f e)=(Kn c a e).map λg=>(Tv f g.1,g.2):=by
 simp[Kn];rcases c.nodes[a.node.toNat]? with _|b
 .rfl
 .dsimp only;by_cases h:b.op=2
  .simp only[h,IS,Ff,Tv];by_cases j:(Hj a.env b.n).kind=2
   .grind
   .by_cases i:(Hj a.env b.n).kind=3
    .simp only[i,IS,Int.reduceEq,Ge];cases Oz c e.em (Hj a.env b.n).n (b.args.map (·.value a.env))<;>rfl
    grind
  grind [KI,Tv,Gg]
def xc{b:GL->Cy->Option Cy}{c:List Ij}(f:∀e a,b e (Tv c a)=(b e a).map (Tv c)):∀(l:List GL) (a:Cy),ED b l (Tv c a)=(ED b l a).map (Tv c)
 |[],a=>rfl|e::l,a=>by rw[ED,ED,f];cases b e a with|none=>rfl|some g=>exact xc f l g
def sR(e:Aa)(c:List Ij):∀(k:Nat) (b:GL) (a:Cy),J9 e k b (Tv c a)=(J9 e k b a).map (Tv c)
 |0,b,a=>rfl|k+1,b,a=>by
  rw[J9,J9];have g:(Tv c a).work=a.work:=rfl;rw[g];by_cases h:a.work<400
  .rw[D4 h,D4 h];have:=AEa e b c {a with work:=a.work+1}
   rw[show({Tv c a with work:=a.work+1}:Cy)=Tv c {a with work:=a.work+1}from rfl,this]
   cases Kn e b {a with work:=a.work+1}with|none=>rfl|some f=>exact xc (λb a=>sR e c k b a) f.2 f.1
  .rw[Co h,Co h];rfl
def QW(p:Aa)(s:BQ)(e:List Ij)(x:Dp):Option Cy:=(Cz p s x).map (Tv e)
def cD(a:GL->Cy->Option Cy)(b:GL)(c:Cy):ED a [b] c=a b c:=by rw[ED];cases a b c<;>rfl
section
variable{p:Aa}{s:BQ}{e:List Ij}{i:Nat}{w:Ia}{a:CQ}
theorem Ps(b:s.waits[i]?=J w)(c:p.nodes[w.node.toNat]?=J a):Cz p s ⟨i,0,0,[]⟩=MU p {s with waits:=BK s.waits i} w a:=by grind [Cz,Qf]
def Zd(b:s.waits[i]?=J w)(c:p.nodes[w.node.toNat]?=J a)(f:a.op=7):QW p s e ⟨i,0,0,[]⟩=J ⟨OH {s with waits:=BK s.waits i} w.at_,e++[⟨3,w.at_,0,0,[]⟩],0⟩:=by rw[QW,Ps b c,MU,D4 f];rfl
def qE(f:s.waits[i]?=J w)(g:p.nodes[w.node.toNat]?=J a)(j:a.op=6){c:Int}(h:a.kids=[c]){b:C8}(k:Hj w.env a.n=b):QW p s e ⟨i,0,0,[]⟩=J9 p 401 ⟨c,w.at_,w.env⟩ ⟨{s with waits:=BK s.waits i,be:=Gj s.be w.at_ b.n},e++[⟨2,w.at_,b.n,0,[]⟩],0⟩:=by rw[QW,Ps f g,MU,Co z,D4 j,k,Bh,h];simp;rw[cD];exact(sR p e 401 _ _).symm
def Ze(f:s.waits[i]?=J w)(g:p.nodes[w.node.toNat]?=J a)(k:a.op=8){b:Int}(h:a.kids=[b]){c:C8}(j:Hj w.env a.n=c):QW p s e ⟨i,0,0,[]⟩=J9 p 401 ⟨b,w.at_,w.env⟩ ⟨{s with waits:=BK s.waits i},e++[⟨4,w.at_,c.n,0,[]⟩],0⟩:=by rw[QW,Ps f g,MU,Co z,Co z,j,Bh,h];simp;rw[cD];exact(sR p e 401 _ _).symm
end
variable{w:Ia}
theorem AIH{c:Aa}{g:Al}{i:BQ}{a:CQ}(j:Ao c g)(h:XY c g i w a)(n:¬a.op=7):∃f,a.kids=[f]:=by
 have k:Cb c g i ⟨w.node,w.at_,w.env⟩:=⟨h.n0,h.size,h.at_,h.live,h.wd⟩;have⟨y2,l,b,h2,_⟩:=Lz j k;have b:c.nodes[w.node.toNat]?=J y2:=b;rw[h.node]at b;cases b;simp only[Cw,As,D3]at h2;have o:=h2.1;have m:U a.kids=1:=by
  rcases h.op with e|e|e
  .grind [DX]
  .exact absurd e n
  .grind [DX]
 match a.kids,m with|[f],_=>exact⟨f,rfl⟩
def PA:BQ:=⟨[],[],[],[]⟩
structure Made:=
 em:BQ
 ev:List Ij
 err:Int
def Yv:Option Cy->Made
 |some a=>⟨a.em,a.ev,0⟩|none=>⟨PA,[],3⟩
abbrev P9(r:Made):y:=.kw [sA r.em,.d (.co (r.ev.map NX)),nI r.err]
def ACg(p:Aa)(s:BQ)(x:Dp):QW p s [] x=Cz p s x:=by rw[QW];cases Cz p s x<;>rfl
theorem Qw(f:Aa)(g:Al):Ed f g Db:=by refine⟨Af,AHs Af,λe m j k=>?_,λe i a=>by simp[Db]at a,rfl,λh l b=>by simp[Db]at b,λw c=>by simp[Db]at c⟩;grind [Db]
theorem Qv{a:Aa}{b:Al}(c:Ao a b):Cb a b Db ⟨a.main,0,Dq (U a.free)⟩:=by have⟨h1,h2⟩:=c.main;refine⟨h1,by rw[h2];simp[Dq],(show Jh Db.be 0 from⟨Af,Af⟩),(show BA Db.be 0=Z by decide),?_⟩;grind [Dq,C8.inB]
def YM{a:Aa}{e:Al}(f:Ao a e){b:Cy}(h:JG a=J b):Ed a e b.em/\(U b.ev)<=400/\∀g∈b.ev,XT b.em g:=by have c:=Hi f 401 ⟨a.main,0,Dq (U a.free)⟩ ⟨Db,[],0⟩ b (Qw a e) (Qv f) h;have⟨l,h1,h2,h3⟩:=c.evs;have i:=c.top AZ;simp at h1;subst h1;dsimp only at h2;exact⟨c.qr,z,h3⟩
def ZR{c:Type}(l:List c)(k:Int):List c:=if 0<=k then BK l k else l
def RM(a:Int):Al->Al->Int
 |c::cs,k::ks=>if c=a then k else RM a cs ks|_,_=> -1
def RN(p:Aa)(s:BQ)(x:Dp)(q:Fo):Int:=if x.wait<0/\q.group=x.group then(match s.bv[x.group.toNat]? with
 |some g=>match p.defs[g.ip.toNat]? with
  |some d=>match d.rules[x.pp.toNat]? with|some r=>RM q.index r.d7 x.picks|none=> -1
  |none=> -1
 |none=> -1)else-1
variable{c:Type}{l:List c}
theorem AEj{k:Int}(h:U l<=k.toNat):BK l k=l:=by grind [BK,List.take_of_length_le,List.drop_of_length_le]
theorem Nq{k:Int}(h:(U l:Int)<=k\/k<0):ZR l k=l:=by grind [ZR,AEj]
def Jg(d:Bd)(g:Ay)(n:Nat):Al->Al->Int
 |c::cs,k::ks=>if (g.own d X c).toNat=n then k else Jg d g n cs ks|_,_=> -1
def Sc{d:Bd}{e:Ay}{f:Nat}:∀{b c:Al},(∀a∈b,(e.own d X a).toNat≠f)->Jg d e f b c= -1
 |[],c,_=>by cases c<;>rfl|a::b,[],_=>rfl|a::b,k::c,h=>by rw[Jg,Co (h a (CO ..)),Sc λa g=>h a (Bi _ g)]
theorem dh{d:Bd}{g:Ay}:∀{cs ks:Al} {s:BQ} {n:Nat} {q:Fo},s.ac[n]?=J q->(∀k∈ks,0<=k)->
 (∀(e c:Nat) a b,e<c->cs[e]?=J a->cs[c]?=J b->(g.own d X b).toNat≠(g.own d X a).toNat)->(Bb d g cs ks s).2.ac[n]?=J {q with queue:=ZR q.queue (Jg d g n cs ks)}
 |[],ks,s,n,q,hq,_,_=>by
  rw[Bb,Jg,Nq (.inr Af)]
  .exact hq
  .intro a cs k ks h;cases h
  grind
 |a::cs,[],s,n,q,hq,_,_=>by
  rw[Bb,Jg,Nq (.inr Af)]
  .exact hq
  .grind
  grind
 |a::cs,k::ks,s,n,q,hq,hk,hd=>by
  have B:=hk k (CO ..);have w:=λx f=>dh (d:=d) (g:=g) (cs:=cs) (ks:=ks) (s:=(EW s (g.own d X a) k).2) (n:=n) (q:=x) f (λk v=>hk k (Bi _ v)) λe c b j A l m=>hd (e+1) (c+1) b j z zDC zDE;rw[Bb,Jg];by_cases i:(g.own d X a).toNat=n
  .rw[D4 i];have o:(EW s (g.own d X a) k).2.ac[n]?=J {q with queue:=BK q.queue k}:=by rw[EW,i,hq];simp[l_ hq]
   have p:=w _ o;rw[Sc λb r=>?_,Nq (.inr Af)]at p
   .grind [ZR]
   .obtain⟨c,t⟩:=Ce r;have:=hd 0 (c+1) a b z rfl (by simpa using t);grind
  grind [EW]
structure hX(p:Aa)(s:BQ)(x:Dp)(s1:BQ):Prop:=
 sp:∀(i:Nat) A9,s.be[i]?=J A9->∃A6,s1.be[i]?=J A6/\(A9.dead=X->A6=A9)
 gr:s1.bv=s.bv
 ch:∀(c:Nat) q,s.ac[c]?=J q->∃l,s1.ac[c]?=J {q with queue:=l}/\(BA s1.be q.at_=Z->l=ZR q.queue (RN p s x q))
theorem ABA{h:Aa}{s:Al}{a:BQ}{i:Nat}(q:Ao h s)(n:Ed h s a)(B:a.waits[i]?=J w)(f:ws h a w=X):∃H M T,G0 h s a ⟨i,0,0,[]⟩ H M T/\hX h a ⟨i,0,0,[]⟩ H:=by
 have F:=n.wait w (AP B);have⟨x,hx⟩:=O7 q F;have R:=n.small;simp[BQ.small]at R;have A:Ed h s {a with waits:=BK a.waits i}:=Nw n zDQ λt D=>n.wait t (Js D)
 have e:Cz h a ⟨i,0,0,[]⟩=MU h {a with waits:=BK a.waits i} w x:=by rw[Cz,Co AZ,Qf];simp[B,hx.node]
 rw[MU]at e;have W:=hx.op;have r:=hx.at_;have V:=r.1;have⟨A6,hz⟩:=g_ (l:=a.be) (i:=w.at_.toNat) (by have:=r.2;omega);have aa:A6.dead=false:=by have:=hx.live;rwa [BA,hz]at this
 have Y:∀c,RN h a ⟨i,0,0,[]⟩ c= -1:=λc=>by grind [RN]
 have K:∀(g:Nat) (c:Fo) (b:Bool),a.ac[g]?=J c->∃l,a.ac[g]?=J {c with queue:=l}/\(b=Z->l=ZR c.queue (RN h a ⟨i,0,0,[]⟩ c)):=λg c b m=>⟨c.queue,m,λ_=>by grind [Nq]⟩
 by_cases p:x.op=7
 .rw[D4 p]at e;refine⟨_,_,[],⟨xK q A w.at_,AG,e,AG⟩,⟨λj v k=>?_,rfl,λg c m=>?_⟩⟩
  .have o:(OH {a with waits:=BK a.waits i} w.at_).be[j]?=J {v with dead:=v.dead||Ea a.be j w.at_}:=by show(K2 a.be w.at_)[j]?=_;rw[X6,k];rfl
   exact⟨_,o,λe=>by cases v;simp at e⊢;simp[e]⟩
  .have o:(OH {a with waits:=BK a.waits i} w.at_).ac[g]?=J (if BA (K2 a.be w.at_) c.at_=X then{c with queue:=[]}else c):=by show(a.ac.map _)[g]?=_;rw[Be,m];rfl
   by_cases N:BA (K2 a.be w.at_) c.at_=X
   .grind [OH,K2]
   .rw[Co N]at o;exact⟨c.queue,o,λ_=>by grind [Nq]⟩
 .rw[Co p]at e;have⟨t,D,hn,hk⟩:=hx.val p;rw[ws,hx.node]at f;simp only[p,Ge,hn]at f;split at f
  .rename_i O;have⟨hr,v,hy,hyd⟩:=hk O;by_cases C:x.op=6
   .rw[D4 C]at e;rw[Co z]at f;simp only[As,D3,It]at f;have P:=KO A (i:=w.at_) (n:=t.n) z r hr f.2.1 f.2.2;have Q:=KO n (i:=w.at_) (n:=t.n) z r hr f.2.1 f.2.2;rw[hn]at e;refine⟨_,_,_,⟨P,λj k=>IM (KY q (Q.wait w (AP B)) hx.node 0 j k) (BK a.waits i),e,XC _ _ _ _⟩,⟨λj L k=>?_,rfl,λg c m=>K g c _ m⟩⟩;grind [Tl]
   .rw[Co C]at e;rw[D4 z]at f;rw[hn]at e;exact⟨_,_,_,⟨A,λj k=>IM (KY q F hx.node 0 j k) (BK a.waits i),e,XC _ _ _ _⟩,⟨λj L k=>⟨L,k,λ_=>rfl⟩,rfl,λg c m=>K g c _ m⟩⟩
  .cases f
theorem AA9{p:Aa}{V:Al}{f:BQ}{i k:Nat}{c:Ay}{d:Bd}{e:DI}{t:Al}(D:Ao p V)(o:Ed p V f)(q:f.bv[i]?=J c)(r:p.def? c.ip=J d)(B:d.rules[k]?=J e)(aa:BA f.be (c.place d e.at_)=Z)(C:Below (C7 f d c e) t):hX p f ⟨-1,i,k,t⟩ (Bb d c e.d7 t f).2:=by
 have⟨ht,M⟩:=Ns D o q r B aa C;have⟨d2,hd⟩:=o.grp i c q;have Q:=AP B;have L:=hd.ip;rw[r]at L;cases L;have n:=Oy D o q hd Q;have R:=(Bk D (Cr r).2).ok.pp e Q;simp[Bx]at R;have O:∀a∈e.d7,(c.own d X a).toNat=(JT p (f.bv.take i)).1+a.toNat:=λa g=>by have⟨v,b,_⟩:=n.join a g;have:=ME hd.mine v b;omega
 refine⟨λK a0 M=>⟨a0,by rw[ht.only.be];exact M,λ_=>rfl⟩,ht.only.bv,λav T P=>⟨_,dh P (λar ag=>?_) (λv b a w ac x A=>?_),λ_=>?_⟩⟩
 .obtain⟨K,N⟩:=Ce ag;have⟨m,s⟩:=g_ (l:=C7 f d c e) (i:=K) (by have:=l_ N;rw[C.len]at this;exact this);exact(Pg C K m ar s N).1
 .rw[O a (AP x),O w (AP A)];have:=Od rfl R.2.2.2 b v w a (F9 _) ac A x;have a5:=(n.join a (AP x)).1;have az:=(n.join w (AP A)).1;omega
 .congr 1;have⟨i2,j2,g2,d2,ch2,g⟩:=Ed.chn o.grp o.tot P;rw[RN];by_cases H:T.group=i
  .rw[D4 ⟨AZ,H⟩];have W:f.bv[((i:Nat):Int).toNat]?=J c:=q;have Y:d.rules[((k:Nat):Int).toNat]?=J e:=B;simp only[W,(Cr r).2,Y];have ad:i2=i:=by have:=g.group;omega
   subst ad;have a3:=g.at_;have a4:=g.index;have key:∀(j l:Al),(∀a∈j,a∈e.d7)->Jg d c av j l=RM T.index j l:=by
    intro j;induction j with
    |nil=>grind [Jg,RM]
    |cons a j ai=>
     intro l s;rcases l with _|⟨k,l⟩
     .grind [Jg,RM]
     .rw[Jg,RM,ai l λa g=>s a (Bi _ g)];have F:=s a (CO ..);have a2:=(n.join a F).1;grind
   exact key _ _ λ_ h=>h
  .rw[Co λh=>H h.2];refine Sc λa F a1=>H ?_;have⟨c0,c1,_⟩:=n.join a F;have⟨ch,hch⟩:=g_ (l:=d.ac) (i:=a.toNat) z;have⟨az,f1,f2,_⟩:=hd.ac _ ch hch;grind
theorem dV{e:Aa}{n:Al}{c:BQ}{o:Dp}(j:Ao e n)(l:Ed e n c)(h:HX e c o):∃r s x,G0 e n c o r s x/\hX e c o r:=by cases h with|wait f g=>exact ABA j l f g| @pp m k a d b t f g i p q=>have⟨ht,hj⟩:=Ns j l f g i p q;have v:c.bv[((m:Nat):Int).toNat]?=J a:=f;have w:d.rules[((k:Nat):Int).toNat]?=J b:=i;refine⟨(Bb d a b.d7 t c).2,⟨1,a.place d b.at_,m,k,(Bb d a b.d7 t c).1⟩,[⟨b.node,a.place d b.at_,a.env++(Bb d a b.d7 t c).1⟩],⟨ht.qr,λB A=>by grind,?_,AG⟩,AA9 j l f g i p q⟩;rw[Cz,D4 AZ,react];simp only[v,(Cr g).2,w,RI];rw[ED];cases J9 e 401 ⟨b.node,a.place d b.at_,a.env++(Bb d a b.d7 t c).1⟩ ⟨(Bb d a b.d7 t c).2,[⟨1,a.place d b.at_,m,k,(Bb d a b.d7 t c).1⟩],0⟩<;>rfl
structure rB(s s':BQ):Prop:=
 sl:U s.be<=(U s'.be)
 gl:U s.bv<=(U s'.bv)
 cl:U s.ac<=(U s'.ac)
 sp:∀(i:Nat) x,s.be[i]?=J x->∃A9,s'.be[i]?=J A9/\(x.dead=X->A9=x)
 gr:∀(i:Nat) g,s.bv[i]?=J g->s'.bv[i]?=J g
 ch:∀(i:Nat) q,s.ac[i]?=J q->∃q',s'.ac[i]?=J q'/\q'.at_=q.at_/\q'.group=q.group/\q'.index=q.index
structure xk(p:Aa)(s:BQ)(x:Dp)(s':BQ)(q q':Fo):Prop:=
 at_:Jh s'.be q'.at_
 dead:BA s'.be q'.at_=X->q'.queue=[]
 live:BA s'.be q'.at_=Z->∃l,q'.queue=ZR q.queue (RN p s x q)++l
variable{a:Cy}
theorem MQ{k:Aa}{v:Al}{i:BQ}{b:Dp}(n:Ao k v)(D:Ed k v i)(h:HX k i b)(m:Cz k i b=J a):rB i a.em/\∀(g:Nat) f,i.ac[g]?=J f->∃j,a.em.ac[g]?=J j/\xk k i b a.em f j:=by
 have⟨s1,e,js,hm,hk⟩:=dV n D h;rw[hm.run]at m;have r:=Nf (λH a d8=>Hi n 401 H a d8) js ⟨s1,[e],0⟩ a hm.qr hm.jobs m;have o:=r.ext;dsimp only at o;have t:∀(c:Nat) b,i.be[c]?=J b->∃w,a.em.be[c]?=J w/\(b.dead=X->w=b):=λc b F=>by have⟨A6,h1,h2⟩:=hk.sp c b F;exact⟨A6,o.sp _ _ h1,h2⟩
 have s:∀(c:Nat) q,i.bv[c]?=J q->a.em.bv[c]?=J q:=λc q x=>o.gr _ _ (by rw[hk.gr];exact x);have p:∀(g:Nat) f,i.ac[g]?=J f->∃j,a.em.ac[g]?=J j/\(j.at_=f.at_/\j.group=f.group/\j.index=f.index)/\xk k i b a.em f j:=λg f B=>by
  have⟨l,h1,h2⟩:=hk.ch g f B;have⟨l2,h3⟩:=o.ch g _ h1;have C:=r.qr.que g _ h3;have K:=(Ix n hm.qr h1).at_;have A:=(Ix n r.qr h3).at_;refine⟨_,h3,⟨rfl,rfl,rfl⟩,A,λm=>?_,λm=>⟨l2,?_⟩⟩
  .rcases C.dead with h|h
   .grind
   .rw[m]at h;cases h
  grind [Gv]
 exact⟨⟨Ng λc b h=>(t c b h).imp λ_ h=>h.1,Ng λc b h=>⟨b,s c b h⟩,Ng λc b h=>(p c b h).imp λ_ h=>h.1,t,s,λc f h=>(p c f h).imp λ_ h=>⟨h.1,h.2.1⟩⟩,λg f h=>(p g f h).imp λ_ h=>⟨h.1,h.2.2⟩⟩
def AJz{c:Aa}{b:BQ}{a:CQ}(e:c.nodes[w.node.toNat]?=J a):ws c b w=if a.op=7 then X else if (Hj w.env a.n).kind=4 then(if a.op=8 then BA b.be (Hj w.env a.n).n else decide (w.at_≠0)&&(!BA b.be (Hj w.env a.n).n&& !Ea b.be (Hj w.env a.n).n w.at_))else false:=by rw[ws,e]
def AFO{c:Aa}{h:Al}{a:BQ}(q:Ao c h)(j:Ed c h a){f:CQ}(b:XY c h a w f):Bq kT 71 [pA c,sA a,.agg [nI w.at_,nI w.node,.d (.co (w.env.map BC))]] []=.ok (.ret (.d (.bool (ws c a w))),[]):=by
 have g:=b.node;have v:=b.n0;have A:=l_ g;rw[AJz g];by_cases i:f.op=7
 .refine BM func71 ?_;exact au
 have⟨l,hv,hvn,e⟩:=b.val i;have⟨n0,n1⟩:=b.n i;rw[hvn];by_cases m:l.kind=4
 .have⟨hr,A9,hy,k⟩:=e m;obtain⟨o,p⟩:=hr;have n:=j.small;simp only[BQ.small,As,D3]at n;have⟨w0,w1⟩:=b.at_;have s:=cA a.be (.co (a.bv.map Cf)) (.co (a.ac.map C0)) (.co (a.waits.map Bj)) l.n w.at_ z j.tree ⟨o,p⟩ w0;by_cases x:f.op=8
  .rw[k];clear e;refine BM func71 ?_;exact au
  .rw[k];clear e;refine BM func71 ?_
   (repeat' (first|simp only[*,go_sem]|(refine sx ?_ ?_<;>intro r)|refine sy z λf g t=>?_|simp(disch:=first|assumption|omega) only[Ad]))
   all_goals simp[*]
 .clear e;refine BM func71 ?_;exact au
def SN(l:u):Al:=if 0∈l then []else l.map λ(n:Nat)=>(n:Int)
def LZ(s:BQ)(d:Bd)(g:Ay)(r:DI):Al:=if BA s.be (g.place d r.at_)=X then []else SN (C7 s d g r)
def fT{c:Aa}{e:Al}{i:BQ}{g:Nat}{b:Ay}{d:Bd}(f:Ao c e)(h:Sk c e i g b d):U b.env<=10000:=by have a:=Bk f (Cr h.ip).2;have⟨_,_,v,_,_,_,_,h0,h1,h2,_⟩:=a.node;have:=h.len;rw[h2,F7]at this;have:=a.ok.ac;have:=a.ok.be;unfold Bd.own at*;omega
def AB8{m:Aa}{F:Al}{e:BQ}(w:Ao m F)(R:Ed m F e){C k:Nat}{a:Ay}{d:Bd}{c:DI}(M:e.bv[C]?=J a)(r:Sk m F e C a d)(Q:d.rules[k]?=J c):Bq kT 72 [pA m,sA e,nI C,nI k] []=.ok (.ret (.d (.co ((LZ e d a c).map AX))),[]):=by
 have i:=Oy w R M r (AP Q);have⟨g0,hdd⟩:=Cr r.ip;have x:=(Bk w hdd).ok;have t:=x.ac;have K:=x.be;have ad:=x.rules;have T:=R.small;simp only[BQ.small,As,D3]at T;obtain⟨bc,be,bh,bi⟩:=T;have av:=l_ M;have a0:=l_ Q;have ar:=l_ hdd;have own:=OX r;have aa:=fT w r;have a6:=VO m a d c.at_ g0 hdd t K own aa i.at0 i.at1;have⟨r0,r1⟩:=i.place;have⟨A9,hy⟩:=g_ (l:=e.be) (i:=(a.place d c.at_).toNat) z;have P:AR (LZ e d a c=if A9.dead=X then []else SN (C7 e d a c)):=⟨by rw[LZ,BA,hy];rfl⟩;have a1:AR (∀b,a.own d X b=a.own d X b):=⟨λ_=>rfl⟩;have a4:=i.j0;have a5:=i.j1;replace i:=AB i;unfold Bd.own at own;rcases hyd:A9.dead with _|_
 .rw[P.1,hyd];refine BM func72 ?_;refine aw ?_;refine Aj c.d7 (B0:=λf (g:y×S×Nat)=>⟨[(5,.ptr [0,0] 0),(9,.ptr [0,1] 0),(11,.ptr [0,2] 0),(12,nI ((U a.env:Int)-(U d.be:Int)-(U d.ac:Int))),(13,g.1),(14,nI f)],([0,0],.box (sC e))::([0,1],.box [nI a.ip,nI a.at_,.d (.co (a.env.map BC))])::([0,2],.box [nI c.at_,.d (.co (c.d7.map AX)),nI c.node])::g.2.1,g.2.2,[]⟩)
   (Inv:=λf a' g=>AR (0∉(c.d7.take f).map λb=>QL e (a.own d X b))/\AR ((f=0/\g=(.d9,[],3))\/(0<f/\g=(.ii [1,3] 0 f,[([1,3],.f8 1 (((c.d7.take f).map λb=>((QL e (a.own d X b):Nat):Int)).map AX))],4)))) (b0:=(.d9,[],3)) ⟨⟨AG⟩,⟨.inl ⟨rfl,rfl⟩⟩⟩ ?_ ?_
  .rintro f b g p s N ⟨n,h⟩ H;have⟨c0,c1,o0,q,hqc,q12,j⟩:=i.1.join b (AP p);have⟨v,hv⟩:=g_ (l:=a.env) (i:=U a.env-U d.be-U d.ac+b.toNat) z;have l:a.own d X b=v.n:=by rw[Ay.own,D4 rfl,hv];rfl
   rw[l]at o0 hqc j;have D:((U a.env:Int)-(U d.be:Int)-(U d.ac:Int)+b).toNat=U a.env-U d.be-U d.ac+b.toNat:=z;rw[<-D]at hv;have bk:SE.wrap ((U a.env:Int)-(U d.be:Int)-(U d.ac:Int)+b)=(U a.env:Int)-(U d.be:Int)-(U d.ac:Int)+b:=w_ z z;have a3:0<=(U a.env:Int)-(U d.be:Int)-(U d.ac:Int)+b:=z;have ai:=l_ hqc;replace D:=AB D;have V:AR (((c.d7.take (f+1)).map λb=>QL e (a.own d X b))=((c.d7.take f).map λb=>QL e (a.own d X b))++[U q.queue]):=⟨by rw[Ex,p];simp[l,j]⟩;have B:AR (((c.d7.take (f+1)).map λb=>((QL e (a.own d X b):Nat):Int))=((c.d7.take f).map λb=>((QL e (a.own d X b):Nat):Int))++[(U q.queue:Int)]):=⟨by rw[Ex,p];simp[l,j]⟩;have Y:AR (U q.queue=0->SN (C7 e d a c)=[]):=⟨λW=>by rw[SN,D4];exact EX.2 ⟨b,AP p,by rw[l,j,W]⟩⟩;replace l:=AB l;replace j:=AB j;by_cases W:(U q.queue:Int)=0
   .rw[Y.1 z];rcases h.1 with⟨rfl,rfl⟩|⟨A,rfl⟩;all_goals
     clear h;dsimp only;exact au
   .rcases h.1 with⟨rfl,rfl⟩|⟨A,rfl⟩
    .clear h;dsimp only;have az:(0:Int)<U c.d7:=N;refine aw (H.1 (.ii [1,3] 0 1,[([1,3],.f8 1 [[.int .i64 (U q.queue)]])],4) ⟨⟨?_⟩,⟨.inr ⟨z,?_⟩⟩⟩)
     .rw[V.1];simp only[Lw,Ci,Cs,AS];omega
     .rw[B.1];rfl
    .clear h;have⟨L,o⟩:=C6 ((c.d7.take f).map λb=>((QL e (a.own d X b):Nat):Int));have ac:U L=f:=by rw[o,BV,F3];omega
     have t:TL f (L.map AX)=L.map AX:=Bv BP;have K:f+1<=4:=z;rw[<-o]at B⊢;replace o:=AB o;dsimp only;refine aw (H.1 (.ii [1,3] 0 (f+1),[([1,3],.f8 1 (L.map AX++[[.int .i64 (U q.queue)]]))],4) ⟨⟨?_⟩,⟨.inr ⟨z,?_⟩⟩⟩)
     .rw[V.1];simp only[Ac,AS,not_or];exact⟨n.1,z⟩
     .rw[B.1,Ap];rfl
  .rintro f g s N ⟨n,h⟩;have s:=s.1;subst s;rw[F2]at n;rcases h.1 with⟨A,rfl⟩|⟨A,rfl⟩
   .omega
   .clear h;have O:AR (SN (C7 e d a c)=c.d7.map λb=>((QL e (a.own d X b):Nat):Int)):=⟨by rw[SN,C7,Co n.1,Ol];rfl⟩;dsimp only;rw[O.1];have t:TL (U c.d7) ((c.d7.map λb=>((QL e (a.own d X b):Nat):Int)).map AX)=(c.d7.map λb=>((QL e (a.own d X b):Nat):Int)).map AX:=Bv AG;simp only[F2]
    (repeat' (first|simp only[*,go_sem,D2]|(refine sx ?_ ?_<;>intro ag)|refine sy z λbl a2 O=>?_|simp(disch:=first|assumption|omega) only[Ad]))
 .rw[P.1,hyd];refine BM func72 ?_;exact au
variable{k:Nat}
def UH{r:c}(h:l[k]?=J r):l=l.take k++r::l.drop (k+1):=by rw[<-Ax h,I8]
def dM{e:c}(h:l[k]?=J e)(a:c):l.set k a=l.take k++a::l.drop (k+1):=by have b:=l_ h;rw[List.set_eq_take_append_cons_drop,D4 b]
variable{g:Type}
def AAR{e:c->List g}(h:(l.flatMap e).Nodup){a:Nat}{o b:c}(f:l[a]?=J b)(j:l[k]?=J o)(r:a≠k){x:g}(m:x∈e b):x∉e o:=by
 intro n;rw[UH j,JP,FN,D0]at h;obtain⟨_,i,p⟩:=h;rw[D0]at i;have t:=l_ j;have s:=l_ f;by_cases q:a<k
 .exact p x (BE.2 ⟨b,AP (i:=a) (by rw[List.getElem?_take,D4 q];exact f),m⟩) x (Ip _ n) rfl
 .exact i.2.2 x n x (BE.2 ⟨b,AP (i:=a-(k+1)) (by rw[SP,show k+1+(a-(k+1))=a by omega];exact f),m⟩) rfl
variable{e:c}
def YR{f:c->List g}(h:(l.flatMap f).Nodup){s:c}(q:l[k]?=J s)(w:(f e).Nodup)(v:∀a∈f e,a∈f s\/a∉l.flatMap f):((l.set k e).flatMap f).Nodup:=by
 have A:=h;rw[UH q,JP,FN,D0]at h;obtain⟨t,p,r⟩:=h;rw[D0]at p;rw[dM q,JP,FN,D0];have key:∀a∈f e,a∉(l.take k).flatMap f/\a∉(l.drop (k+1)).flatMap f:=λa x=>by
  rcases v a x with m|m
  .exact⟨λi=>r a i a (Ip _ m) rfl,λi=>p.2.2 a m a i rfl⟩
  .rw[UH q,JP,FN]at m;simp only[Ac,not_or]at m;exact⟨m.1,m.2.2⟩
 refine⟨t,D0.2 ⟨w,p.2.1,λo n b j i=>(key o n).2 (by rw[i];exact j)⟩,λo n b j i=>?_⟩;rcases Ac.1 j with j|j
 .exact(key b j).1 (by rw[<-i];exact n)
 .exact r o n b (II _ j) i
def fx{a:c->List g}{j:c}(f:l[k]?=J j){b:g}(i:b∈(l.set k e).flatMap a):b∈l.flatMap a\/b∈a e:=by
 rw[dM f,JP,FN]at i;rw[UH f,JP,FN];simp only[Ac]at*;rcases i with h|h|h
 .exact .inl (.inl h)
 .exact .inr h
 .exact .inl (.inr (.inr h))
def WI{B:MV->Int->List y}{n:Bool}{N:u->Bool}{h f:S}{m:u}{V:MV}{a d8:Cy}{v3:y}{rows:List (List y)}(g:Gm B n h m V a)(t:PQ N V m)(C:f.get m=J (.box (B {V with v3:=v3,rows:=rows} d8.work))) (A:B5 f v3 rows) (D:qw n f rows d8.em.ac) (K:(rows.flatMap Ab).Nodup)(s:∀b,b∈AD v3\/b∈rows.flatMap Ab->(b∈AD V.v3\/b∈V.rows.flatMap Ab)\/(N b=X/\∃l,b=1::l)) (H:∀i,i<4->BT d8 i=BT a i)(q:∀b,b≠m->b∉AD V.v3->b∉V.rows.flatMap Ab->N b=Z->f.get b=h.get b):N3 B n N m V h d8 f:=by
 have F:∀b,(∀v,h.get b≠J (.box v))->b≠m:=λb e c=>e _ (by subst c;exact g.box);refine⟨{V with v3:=v3,rows:=rows},⟨C,?_,λi j=>?_,A,D,g.gw,K,g.inv⟩,λb o=>?_,λb p w=>q b (λc=>p (by rw[c];exact V.q_i m)) (λc=>p (V.q_p m c)) (λc=>p (V.q_m m c)) w⟩
 .show(V.acts=m/\n=Z)\/f.get V.acts=_;refine Qi g λc r=>q _ c (λc=>?_) (λc=>?_) (t _ (V.q_E m))
  .have:=Ky g.arr c;rw[r]at this;cases this
  .have⟨x,k⟩:=Qo g.ac c;rw[r]at k;cases k
 .rw[H i j];refine MO (g.sl i j) λb o=>?_;have⟨x,k⟩:=Jd (g.sl i j) o;refine q b (F _ (by rw[k];simp)) (λc=>?_) (λc=>?_) (t _ (V.q_j m j o))
  .have:=Ky g.arr c;rw[k]at this;cases this
  .have⟨A9,hy⟩:=Qo g.ac c;rw[k]at hy
   match i,j with|0,_|1,_|2,_|3,_=>simp[Ie]at hy
 .rcases(({V with v3:=v3,rows:=rows}:MV).mem m b).1 o with e|e|⟨i,j,e⟩|e|e
  .exact .inl (by rw[e];exact V.q_i m)
  .exact .inl (by rw[e];exact V.q_E m)
  .exact .inl (V.q_j m j e)
  .exact(s b (.inl e)).imp_left λc=>c.elim (V.q_p m) (V.q_m m)
  .exact(s b (.inr e)).imp_left λc=>c.elim (V.q_p m) (V.q_m m)
def ZL{B:MV->Int->List y}{H:Bool}{N:u->Bool}{h:S}{m A:u}{V:MV}{p:Fo}{r:y}(j:Gm B H h m V a)(K:PQ N V m)(O:V.v3=.ii A 0 (U V.rows))(ar:a.em.ac[k]?=J p)(q:V.rows[k]?=J (CF p r))(l:List (List C8))(i:y) (f:S) (W:f.get m=J (.box (B V a.work))) (T:f.get A=J (.arr 4 (V.rows.set k (CF p i)))) (L:Sn H 2 f 1 i (l.map C1)) (M:AD i=AD r\/∀b∈AD i,N b=X/\∃l,b=1::l)(Y:∀b,AJ m b=Z->AJ A b=Z->(∀R∈AD r,AJ R b=Z)->N b=Z->f.get b=h.get b):N3 B H N m V h {a with em:={a.em with ac:=a.em.ac.set k {p with queue:=l}}} f:=by
 have aa:AD V.v3=[A]:=by rw[O];rfl
 have Q:∀x,x∈AD r->x∈V.rows.flatMap Ab:=λx g=>BE.2 ⟨_,AP q,by rw[DB];exact g⟩;have P:∀b,b≠m->b∉AD V.v3->b∉AD r->N b=Z->f.get b=h.get b:=λb v C D F=>Y b (AI λc=>v c.symm) (AI λc=>C (by rw[aa,<-c];simp)) (λR e=>AI λc=>D (by rw[<-c];exact e)) F;have av:(AD i).Nodup/\(AD i).length<=1:=by rcases Zb L with(⟨rfl,_⟩|⟨a0,x,rfl,_⟩)|⟨rfl,_⟩<;>simp[AD]
 have ag:(V.rows.set k (CF p i)).length=U V.rows:=AG;refine WI (v3:=V.v3) (rows:=V.rows.set k (CF p i)) j K (W.trans (by rw[<-j.inv V (V.rows.set k (CF p i)) a.work])) (.inr ⟨A,by rw[ag];exact O,T⟩) ⟨?_,λt az o=>?_⟩ ?_ (λb e=>?_) (λt o=>by match t,o with|0,_|1,_|2,_|3,_=>rfl) λb v C D F=>P b v C (λc=>D (Q b c)) F
 .simp[j.ac.len]
 .dsimp only at o;rw[F5]at o⊢;have ac:=l_ q;by_cases s:k=t
  .have ad:=l_ ar;rw[D4 s,D4 ad]at o;rw[D4 s,D4 ac];cases o;exact⟨i,rfl,L⟩
  .rw[Co s]at o⊢;have⟨w,hw,hs⟩:=j.ac.row t az o;refine⟨w,hw,MO hs λb e=>?_⟩;have ai:b∈V.rows.flatMap Ab:=BE.2 ⟨_,AP hw,by rw[DB];exact e⟩;have⟨x,g⟩:=Jd hs e;refine P b (λc=>?_) (λc=>?_) ?_ (K _ (V.q_m m ai))
   .rw[c,j.box]at g;cases g
   .rw[Ky j.arr c]at g;cases g
   .have:=AAR j.qd hw q (λc=>s c.symm) (x:=b) (by rw[DB];exact e)
    rwa [DB]at this
 .refine YR j.qd q (by rw[DB];exact av.1) λx g=>?_;rw[DB]at g⊢;rcases M with c|c
  .exact .inl (by rw[<-c];exact g)
  .refine .inr λn=>?_;have:=K _ (V.q_m m n);rw[(c x g).1]at this;cases this
 .rcases e with e|e
  .exact .inl (.inl e)
  .rcases fx q e with n|n
   .exact .inl (.inr n)
   .rw[DB]at n;rcases M with c|c
    .rw[c]at n;exact .inl (.inr (Q b n))
    .exact .inr (c b n)
def ANb{b:S}{c:Nat}{e:y}{a:List (List Ar)}(h:Ub b c e a)(g:a≠ []):PV b c e a:=h.resolve_right λf=>g f.2
variable{a:c}
def vd{b:c->List Ar}{e:S}{g:Nat}{i:y}(h:Ub e g i (l.map b))(f:l[k]?=J a):PV e g i (l.map b):=ANb h λj=>by rw[D7.1 j]at f;cases f
def dR{c:S}{f:Nat}{b:y}{a:List (List Ar)}(h:Ub c f b a):((b=.d9\/b=.emp)/\a=[])\/∃e g,b=.ii e 0 (U a)/\c.get e=J (.f8 f (a++g)):=by
 rcases h with(h|h)|h
 .exact .inl ⟨.inl h.1,h.2⟩
 .exact .inr h
 .exact .inl ⟨.inr h.1,h.2⟩
def NH{e:c->List Ar}{i:S}{m:Nat}{n:y}(h:PV i m n (l.map e))(j:l[k]?=J a):∃g b,n=.ii g 0 (U l)/\i.get g=J (.f8 m (l.map e++b))/\(l.map e++b)[k]?=J (e a)/\k<U l/\k<U l+U b:=by
 have f:=l_ j;rcases h with⟨_,h⟩|⟨g,b,rfl,h⟩
 .rw[D7.1 h]at f;simp at f
 .exact⟨g,b,by rw[BV],h,by rw[D8 zCm,Be,j];rfl,f,z⟩
theorem CA{π:u}{b n':Nat}{a:u}(h:AE (b::π) a=X)(f:AE (n'::π) a=X):b=n':=by rw[q_a]at h f;have:=List.suffix_of_suffix_length_le h f AG;have:=this.eq_of_length AG;simpa using this
structure CH(B:MV->Int->List y)(c:Bool)(π:u)(m:u)(V:MV)(h:S)(b:Nat)(V':MV)(st:Cy)(g:S):Prop:=
 rep:Gm B c g m V' st
 ids:∀id∈V'.ids m,id∈V.ids m\/∃n,n<b/\AE (n::π) id=X/\∃l,id=1::l
 frame:∀id,id∉V.ids m->AE π id=Z->g.get id=h.get id
abbrev hS(a:Aa)(b:Al):=CH (nM a b) X
section
variable{p:Aa}{a:Al}{B:MV->Int->List y}{c:Bool}{e:u}{m:u}{V f:MV}{h g H j:S}{b:Nat}{i:Cy}
def GJ{b':Nat}{c:u}(j:Dr e V m)(g:c∈V.ids m\/∃a,a<b/\AE (a::e) c=X/\∃l,c=1::l)(f a:Nat)(o:b<=a):AJ (f::a::e) c=false:=by
 rcases g with g|⟨k,n,i,_⟩
 .exact AN (j c g) f a
 .refine AI λh=>?_;subst h;have:=CA i (n':=a) (q_a.2 ⟨[f],rfl⟩);omega
def JS{c:u}(j:Dr e V m)(h:c∈V.ids m\/∃a,a<b/\AE (a::e) c=X/\∃l,c=1::l)(f a:Nat)(i:b<=a):AJ c (f::a::e)=false:=by have:=GJ (b':=b) j h f a i;exact AI λg=>by rw[g,q_c]at this;cases this
def RK(f:Gm B c h m V i)(l:Dr e V m)(b:∀a,AE e a=Z->g.get a=h.get a):CH B c e m V h 0 V i g:=⟨Y0 f l b,λa k=>.inl k,λa _ j=>b a j⟩
def CH.up(a:CH B c e m V h b f i g){b':Nat}(n:b<=b'):CH B c e m V h b' f i g:=⟨a.rep,λk j=>(a.ids k j).imp_right λ⟨l,h1,h2⟩=>⟨l,z,h2⟩,a.frame⟩
def CH.loc(s:Dr e V m)(l:CH B c e m V h b f i g)(o:∀a,(∀k j,b<=j->AJ (k::j::e) a=Z)->H.get a=g.get a):CH B c e m V h b f i H:=⟨Fv l.rep λa q=>o a λk j r=>GJ (b':=b) s (l.ids a q) k j r,l.ids,λa p n=>by rw[o a λk j _=>AN n k j];exact l.frame a p n⟩
theorem CH.apart(q:Dr e V m)(p:CH B c e m V h b f i g){n:Nat}(s:b<=n):Dr (n::e) f m:=λa o=>by
 rcases p.ids a o with l|⟨k,r,j,_⟩
 .exact AL (q a l) n
 .rcases hx:AE (n::e) a with _|_
  .rfl
  .have:=CA j hx;omega
def CH.fin(c:hS p a e m V h b f i g):hD p a e m V h (J i) (.ret (.kw [])) g:=⟨rfl,f,c.rep,λk j=>(c.ids k j).imp_right λ⟨l,_,h2,h3⟩=>⟨Bt h2,h3⟩,c.frame⟩
def CH.callL(D:Dr e V m)(s:CH B c e m V h b f i H){o:Nat}{d8:Cy}(A:b<=o)(C:N3 B c (AE (o::e)) m f H d8 j):∃q,CH B c e m V h (o+1) q d8 (gc (o::e) j)/\∀g,g∉f.ids m->AE (o::e) g=Z->g∉q.ids m:=by
 obtain⟨q,v,r⟩:=C;have w:=s.apart D A;refine⟨q,⟨Tm v r w,λg x=>?_,λg p n=>?_⟩,λg p n t=>?_⟩
 .rcases r.ids g x with l|⟨p,n⟩
  .exact(s.ids g l).imp_right λ⟨k,a,c⟩=>⟨k,z,c⟩
  .exact .inr ⟨o,z,p,n⟩
 .rw[An _ _ _ (AL n o),r.frame g (λl=>?_) (AL n o)]
  .exact s.frame g p n
  .rcases s.ids g l with l|⟨k,_,t,_⟩
   .exact p l
   .rw[Bt t]at n;cases n
 .rcases r.ids g t with l|⟨l,_⟩
  .exact p l
  .rw[n]at l;cases l
def CH.call(r:Dr e V m)(q:hS p a e m V h b f i H){c:Nat}{d8:Cy}{o:BG}(l:b<=c)(n:hD p a (c::e) m f H (J d8) o j):∃k,hS p a e m V h (c+1) k d8 (gc (c::e) j)/\∀g,g∉f.ids m->AE (c::e) g=Z->g∉k.ids m:=q.callL r l n.2
def CH.of(A:Dr e V m)(r:hS p a e m V h b f i H){g:Nat}{o:BG}(x:b<=g)(w:hD p a (g::e) m f H I o j):hD p a e m V h I o (gc (g::e) j):=by
 obtain⟨s,t⟩:=w;refine⟨s,λn q c=>?_⟩;rw[An _ _ _ (AL c g),t n (λl=>?_) (AL c g)]
 .exact r.frame n q c
 .rcases r.ids n l with l|⟨k,_,v,_⟩
  .exact q l
  .rw[Bt v]at c;cases c
def Iu(j:CH B c e m V h b f i H)(n:Dr e V m)(k:Nat):0::k::e∉f.ids m:=λa=>by
 rcases j.ids _ a with a|⟨_,_,_,l,g⟩
 .have:=n _ a;rw[show AE e (0::k::e)=X from q_a.2 ⟨[0,k],rfl⟩]at this;cases this
 .cases g
theorem BN{k n:Nat}(e:u)(h:k≠n):AE (n::e) (0::k::e)=false:=by
 rcases hx:AE (n::e) (0::k::e)with _|_
 .rfl
 .have:=CA hx (n':=k) (q_a.2 ⟨[0],rfl⟩);omega
def CH.box(v:Dr e V m)(t:hS p a e m V h b f i H){g k:Nat}{q:Option Cy}{o:BG}(s:k≠g)(n:hD p a (g::e) m f H q o j):(gc (g::e) j).get (0::k::e)=H.get (0::k::e):=by
 have c:=BN e s;rw[An _ _ _ c];have l:=Iu t v k;rcases q with _|d8
 .exact n.2 _ l c
 .obtain⟨_,w,_,r⟩:=n;exact r.frame _ l c
end
structure Wj(p:Aa)(sz:Al)(k:Nat)(st:Cy):Prop:=
 qr:Ed p sz st.em
 w0:0<=st.work
 w1:st.work<=400
 w2:401<=st.work+k
 ev:(U st.ev:Int)<=900000+st.work
def Wj.post{c:Aa}{e:Al}{k:Nat}{f d8:Cy}(b:Wj c e k f)(a:Ka c e f d8):Wj c e k d8:=⟨a.qr,by have:=a.work;have:=b.w0;omega,a.top b.w1,by have:=a.work;have:=b.w2;omega,by have:=a.ev;have:=b.ev;omega⟩
end Go.Proofs
namespace Go.Abs
theorem We(c:Nat)(b:List (List Ar))(e:∀a∈b,U a=c):Fm c (b.map λa=>a.map .d)=true:=by induction b with|nil=>rfl|cons a b f=>grind [LJ,y.q_b]
theorem Ui(e:G)(f:u)(c:TI)(g:y)(a:List (List Ar))(j:0<c.size)(i:∀b∈a,U b=c.size)(h:a≠ [])(k:U a<=BS):Uh e f c g (J (a.map λb=>b.map .d))=q_t e f c g (a.map λb=>b.map .d):=by
 rcases a with _|⟨b,a⟩
 .exact absurd rfl h
 .grind [We,aj,ah]
def WJ(f:G)(e:u)(b:TI)(c:List (List Ar))(m:b.mix=Z)(h:0<b.size)(g:∀a∈c,U a=b.size)(i:U c<=BS):q_h f e b (c.map λa=>a.map .d)=J ⟨.ii (1::e) 0 (U c),[(1::e,.f8 b.size c)]⟩:=by
 have j:((c.map λa=>a.map y.d).all λa=>U a==b.size&&a.all y.q_b)=true:=by rw[MN];exact We _ _ g
 have k:Nat.blt 0 b.size=true:=by rw[RG];exact h
 have l:=Pu i;unfold q_h;exact Ba
theorem W2(f:G)(c:u)(b:TI)(a:List (List Ar))(j:b.mix=Z)(h:0<b.size)(g:∀e∈a,U e=b.size)(k:a≠ [])(i:U a<=BS):Uh f c b .emp (J (a.map λe=>e.map .d))=J ⟨.ii (1::c) 0 (U a),[(1::c,.f8 b.size a)]⟩:=by rw[Ui f c b .emp a h g k i];exact WJ f c b a j h g i
end Go.Abs
namespace Go.Abs
end Go.Abs
namespace Go.Proofs
open Abs Tryz
def jV(e:Al)(c:Nat)(g:c=U e)(m:0<c)(n:c<=1000000):∀(f:G) (b:u) (a:TI),a.mix=Z->a.size=1->Uh f b a .emp (J ((e.map AX).map λj=>j.map y.d))=J ⟨.ii (1::b) 0 c,[(1::b,.f8 1 (e.map AX))]⟩:=λf b a l i=>by
 have:=W2 f b a (e.map AX) l z (λh k=>by obtain⟨j,_,rfl⟩:=EX.1 k;rw[i];rfl) (λh=>by rw[D7.1 h]at g;simp at g;omega) zCj
 rw[this,BV,g,i]
def dg(a:Al)(f:List (List Ar))(e:Nat)(c:e=U a):TL e ((a.map AX++f).map λb=>b.map y.d)=(a.map AX).map λb=>b.map y.d:=by rw[Ap,IP zC1,Bv zC1]
variable{a:S}{b:Nat}
def Og{e:y}{c:List (List Ar)}(g:PV a b e c)(f:G):MZ f .slice e=J (U c):=by rcases g with⟨rfl,rfl⟩|⟨h,i,rfl,_⟩<;>rfl
def AKK{g:y}{e:List (List Ar)}(c:Ub a b g e)(f:G):MZ f .slice g=J (U e):=by
 rcases c with c|⟨rfl,rfl⟩
 .exact Og c f
 .rfl
def Tc{c:y}{b:List (List y)}(f:B5 a c b)(e:G):MZ e .slice c=J (U b):=by rcases f with⟨rfl,rfl⟩|⟨g,rfl,_⟩<;>rfl
end Go.Proofs
namespace Go.Proofs
open Abs Tryz
def rF(j:Nat)(f:u)(g:S)(e:y)(L:List (List Ar))(i:BG)(c:S):Prop:=∃b,i=.ret b/\PV c j b L/\(∀a∈AD b,a∈AD e\/(AE f a=X/\∃h,a=1::h))/\∀a,a∉AD e->AE f a=Z->c.get a=g.get a
structure Gn(sz:Nat)(π:u)(h:S)(v:y)(b:Nat)(g:S)(w:y)(L:List (List Ar)):Prop:=
 slv:PV g sz w L
 ids:∀id∈AD w,id∈AD v\/∃n,n<b/\AE (n::π) id=X/\∃l,id=1::l
 frame:∀id,id∉AD v->AE π id=Z->g.get id=h.get id
section
variable{c:Nat}{a:u}{h g H e:S}{v w:y}{b k:Nat}{L f:List (List Ar)}{o:BG}
def Gn.not(n:∀e∈AD v,AE a e=Z)(l:Gn c a h v b g w L){e:u}(m:e∈AD w)(i f:Nat)(p:b<=f):AJ (i::f::a) e=false:=by
 rcases l.ids e m with h|⟨q,o,k,_⟩
 .exact AN (n e h) i f
 .refine AI λj=>?_;subst j;have:=CA k (n':=f) (q_a.2 ⟨[i],rfl⟩);omega
theorem Gn.apart(l:∀e∈AD v,AE a e=Z)(i:Gn c a h v b g w L){e:u}(j:e∈AD w)(n:b<=k):AE (k::a) e=false:=by
 rcases i.ids e j with h|⟨o,m,f,_⟩
 .exact AL (l e h) k
 .rcases hx:AE (k::a) e with _|_
  .rfl
  .have:=CA f hx;omega
def Gn.loc(p:∀e∈AD v,AE a e=Z)(j:Gn c a h v b g w L)(l:∀e,(∀i f,b<=f->AJ (i::f::a) e=Z)->H.get e=g.get e):Gn c a h v b H w L:=⟨Nv j.slv λe n=>l e λi f o=>j.not p n i f o,j.ids,λe m k=>by rw[l e λi f _=>AN k i f];exact j.frame e m k⟩
def Gn.up(e:Gn c a h v b g w L){b':Nat}(k:b<=b'):Gn c a h v b' g w L:=⟨e.slv,λi f=>(e.ids i f).imp_right λ⟨j,h1,h2⟩=>⟨j,z,h2⟩,e.frame⟩
def Gn.call(K:∀g∈AD v,AE a g=Z)(m:Gn c a h v b H w L)(D:b<=k)(F:rF c (k::a) H w f o e):∃l,o=.ret l/\Gn c a h v (k+1) (gc (k::a) e) l f:=by
 obtain⟨l,x,A,s,B⟩:=F;have p:∀g∈AD l,(gc (k::a) e).get g=e.get g:=λg n=>by
  rcases s g n with j|⟨_,M,rfl⟩
  .exact An _ _ _ (m.apart K j D)
  .exact FC _ _ _
 refine⟨l,x,Nv A p,λg n=>?_,λg r i=>?_⟩
 .rcases s g n with j|j
  .exact(m.ids g j).imp_right λ⟨t,q1,q⟩=>⟨t,z,q⟩
  .exact .inr ⟨k,z,j⟩
 .rw[An _ _ _ (AL i k),B g (λp=>?_) (AL i k)]
  .exact m.frame g r i
  .rcases m.ids g p with C|⟨t,_,q,_⟩
   .exact r C
   .rw[Bt q]at i;cases i
def Gn.fin(e:Gn c a h v b g w L):rF c a h v L (.ret w) g:=⟨w,rfl,e.slv,λi f=>(e.ids i f).imp_right λ⟨j,_,q2,q3⟩=>⟨Bt q2,q3⟩,e.frame⟩
end
def VN:∀{l:u},(∀b∈l,b<=12)->(Dx l).length<=12 ^ (U l)
 |[],_=>by simp[Dx]|b::l,h=>by
  have c:=VN (l:=l) λb f=>h b (Bi _ f);have e:=h b AG;have key:∀a,((V5 a).flatMap λ(g:Nat)=>(Dx l).map λj=>(g:Int)::j).length=a*(Dx l).length:=λa=>by induction a with|zero=>simp|succ a i=>rw[Rw,JP,Dl,i];simp[Lm]
  rw[Dx,key,ID,Nat.pow_succ,Pp];exact Nat.mul_le_mul c e
def pB(o p:Int)(many:u)(b5:0<U many)(b4:U many<=3)(a0:∀e∈many,e<=12):∀(v:Nat) (m:S) (h:u) (q P:y) (k:List Dp) (b:Al),U k+12 ^ v<=100000000->PV m 4 q (k.map HH)->PV m 1 P (b.map AX)->(U b=0->P=.d9)->(∀f,f∈AD q\/f∈AD P->AE h f=Z)->(U b)+v=U many->
 ∃bn be,kT (.fn 73) [q,nI o,nI p,.d (.co ((many.map λ(e:Nat)=>(e:Int)).map AX)),P] m h X I=.ok (bn,be)/\rF 4 h m q ((k++(Dx (many.drop (U b))).map λn=>(⟨-1,o,p,b++n⟩:Dp)).map HH) bn be
 |0,m,h,q,P,k,b,bh,D,a1,bk,C,Y=>by
  have bx:many.drop (U b)=[]:=EM z;rw[bx];simp only[Dx,By,Ci,CS];rcases a1 with⟨rfl,ac⟩|⟨O,a5,rfl,gt⟩
  .rw[D7.1 ac]at Y;simp at Y;omega
  have ut:=C O (.inr Az);have b0:=AN ut;have b1:=Av ut;rw[BV];have a4:U b=U many:=z;have bo:0<U b:=z;have ap:=jV b (U many) z z z;have ch:=dg b a5 (U many) z;have c0:TL (U many) (b.map AX)=b.map AX:=Bv BP;rcases D with⟨rfl,a2⟩|⟨a6,a',rfl,cu⟩
  .have b9:=D7.1 a2;subst b9;refine Bf func73 ?_;refine aw ?_;refine⟨_,rfl,BO [] rfl ?_,λf c=>.inr ?_,λf H r=>?_⟩
   .simp only[go_sem]
   .simp only[AD,AS]at c;subst c;exact⟨Aq [1,14],_,rfl⟩
   .have R:=AN r;simp only[go_sem,R,AM]
  .have bs:=C a6 (.inl Az);have cp:=AN bs;have cq:=Av bs;rw[BV];rcases a' with _|⟨bv,a'⟩
   .refine Bf func73 ?_;refine ax ?_;refine⟨_,rfl,BO [] AG ?_,λf c=>.inr ?_,λf H r=>?_⟩
    .simp only[go_sem,Ap,Ci,AM]
    .simp only[AD,AS]at c;subst c;exact⟨Aq [1,14],_,rfl⟩
    .exact zBw
   .refine Bf func73 ?_;refine ax ?_;refine⟨_,rfl,BO a' AG ?_,λ_ m=>.inl m,λf H r=>?_⟩
    .simp only[go_sem,Ap,Ci,AM]
    .exact zBw
 |v+1,m,h,q,P,k,b,bh,D,a1,bk,C,Y=>by
  have bc:=pB o p many b5 b4 a0 v;obtain⟨e,M⟩:=g_ (l:=many) (i:=U b) z;have cv:=a0 e (AP M);have W:=Ax M;obtain⟨j,K⟩:∃j:Nat->List Dp,j=λa=>(V5 a).flatMap λ(g:Nat)=>(Dx (many.drop (U b+1))).map λn=>(⟨-1,o,p,b++[(g:Int)]++n⟩:Dp):=⟨_,rfl⟩;have ai:j 0=[]:=by rw[K];rfl
  have L:∀a,j (a+1)=j a++(Dx (many.drop (U b+1))).map λn=>(⟨-1,o,p,b++[(a:Int)]++n⟩:Dp):=λa=>by rw[K];simp[Rw]
  have ar:((Dx (many.drop (U b))).map λn=>(⟨-1,o,p,b++n⟩:Dp))=j e:=by rw[W,Dx,K,List.map_flatMap];simp[Ol,Function.comp_def]
  have bi:∀a,a<=e->(j a).length<=a*12 ^ v:=λa=>by induction a with|zero=>simp[ai]|succ a b'=>intro m;have H:=b' z;have r:=VN (l:=many.drop (U b+1)) λe M=>a0 e (Rc M);rw[L,Dl,BV,Lm,Nat.one_mul];rw[show(many.drop (U b+1)).length=v by rw[Is];omega]at r;omega
  rw[ar];have b6:(many.map λ(e:Nat)=>(e:Int))[U b]?=J (e:Int):=by rw[Be,M];rfl
  have a4:¬(U b:Int)=U many:=z;have cl:U b<U many:=z;have aa:∀a,a<e->(k++j a).length+12 ^ v<=100000000:=λa x=>by have H:=bi a z;have r:(a+1)*12 ^ v<=12*12 ^ v:=HM _ z;rw[Lm,Nat.one_mul]at r;rw[Nat.pow_succ,Pp]at bh;rw[Dl];omega
  clear bi;replace aa:=AB aa;replace W:=AB W;replace ar:=AB ar;replace K:=AB K;replace L:=AB L;replace C:=AB C;replace D:=AB D;have N:∀f∈AD q,AE h f=false:=λf c=>C.1 f (.inl c);rcases a1 with⟨rfl,ac⟩|⟨O,a5,rfl,gt⟩
  .have a2:=D7.1 ac;subst a2;clear ac;simp only[MD,I7]at Y M b6 W L K;clear a4 cl;have a4:¬(0:Int)=U many:=z;refine Bf func73 ?_;refine aw ?_;refine CZ (V5 e) (e:Int) (B0:=λ_ a (i:(y×S)×Nat)=>⟨[(0,i.1.1),(1,nI o),(2,nI p),(3,.d (.co ((many.map λ(e:Nat)=>(e:Int)).map AX))),(4,.d9),(11,nI a)],i.1.2,i.2+7,[]⟩)
    (Inv:=λa cd i=>AR (Gn 4 h m q (i.2+7) i.1.2 i.1.1 ((k++j a).map HH))) (b0:=((_,_),0)) AG ⟨?_⟩ ?_ ?_
   .simp only[ai,CS];exact⟨D.1,λf c=>.inl c,λ_ _ _=>rfl⟩
   .rintro a bv ⟨⟨T,A⟩,g⟩ b8 x av s ad;dsimp only at*;have B:a<e:=by simpa using x
    refine aw ?_;have az:∀f,(∀i e,g+7<=e->AJ (i::e::h) f=Z)->((A.put (1::(g+22)::h) (.f8 1 [[.int .i64 a]])).put (1::(g+23)::h) (.f8 1 [[.int .i64 a]])).get f=A.get f:=λf c=>by rw[p_,p_,c _ _ z,c _ _ z];rfl
    have w:=s.1.loc N az;refine Ak (bc _ ((g+24)::h) T (.ii (1::(g+23)::h) 0 1) (k++j a) [(a:Int)] (aa.1 a B) w.slv (BO [] rfl ?_) AG (λf c=>?_) BP) (λcc b2 Q=>?_)
    .simp only[go_sem]
    .exact zBz
    obtain⟨V,rfl,t⟩:=w.call N z Q;have b3:∀F,TQ F V=F:=λF=>by rcases t.slv with⟨l,_⟩|⟨_,_,l,_⟩<;>rw[l]<;>rfl
    clear Q;replace t:=AB t;refine aw ?_;refine ad.1 ((V,_),g+22) ⟨?_⟩;have ag:=t.1.up (b':=g+22+7) z
    rwa [show(k++j a++(Dx (many.drop [(a:Int)].length)).map λn=>(⟨-1,o,p,[(a:Int)]++n⟩:Dp))=k++j (a+1) by rw[L.1,<-F0];rfl]at ag
   .rintro a ⟨⟨T,A⟩,g⟩ x av s;dsimp only at*;have B:a=e:=by have:=x.1;simpa using this
    subst B;refine aw ?_;exact s.1.fin
  .rw[BV];have ut:=C.1 O (.inr Az);have b0:=AN ut;have b1:=Av ut;have bo:0<U b:=Nat.pos_of_ne_zero λl=>by cases bk l
   have cx:U b<=3:=z;have ap:=jV b (U b) rfl bo z;have ch:=dg b a5 (U b) rfl;have b7:O∉AD q:=λl=>by obtain⟨c1,bl⟩:=O3 D.1 l;rw[gt]at bl;cases bl
   refine Bf func73 ?_;refine aw ?_;refine CZ (V5 e) (e:Int) (B0:=λ_ a (i:(y×S)×Nat)=>⟨[(0,i.1.1),(1,nI o),(2,nI p),(3,.d (.co ((many.map λ(e:Nat)=>(e:Int)).map AX))),(4,.ii O 0 (U b)),(11,nI a)],i.1.2,i.2+7,[]⟩)
    (Inv:=λa cd i=>AR (Gn 4 h m q (i.2+7) i.1.2 i.1.1 ((k++j a).map HH))) (b0:=((_,_),0)) AG ⟨?_⟩ ?_ ?_
   .simp only[ai,CS];exact⟨D.1,λf c=>.inl c,λ_ _ _=>rfl⟩
   .rintro a bv ⟨⟨T,A⟩,g⟩ b8 x av s ad;dsimp only at*;have B:a<e:=by simpa using x
    have cs:=(s.1.frame O b7 ut).trans gt;have az:∀f,(∀i e,g+7<=e->AJ (i::e::h) f=Z)->((((A.put (1::(g+20)::h) (.f8 1 (b.map AX))).put (1::(g+22)::h) (.f8 1 [[.int .i64 a]])).put (1::(g+20)::h) (.v6 0 [])).put (1::(g+23)::h) (.f8 1 (b.map AX++[[.int .i64 a]]))).get f=A.get f:=λf c=>by rw[p_,p_,p_,p_,c _ _ z,c _ _ z,c _ _ z];rfl
    have w:=s.1.loc N az;replace s:=AB w;have cm:¬g+2=g:=z;have cn:¬g+3=g:=z;refine ax ?_;refine Ak (bc _ ((g+24)::h) T (.ii (1::(g+23)::h) 0 (U b+1)) (k++j a) (b++[(a:Int)]) (aa.1 a B) w.slv (BO [] AG ?_) AG (λf c=>?_) BP) (λcc b2 Q=>?_)
    .simp only[go_sem,Ap]
    .exact zBz
    obtain⟨V,rfl,t⟩:=w.call N z Q;have b3:∀F,TQ F V=F:=λF=>by rcases t.slv with⟨l,_⟩|⟨_,_,l,_⟩<;>rw[l]<;>rfl
    clear Q;replace t:=AB t;refine aw ?_;refine ad.1 ((V,_),g+22) ⟨?_⟩;have ag:=t.1.up (b':=g+22+7) z
    rwa [show(k++j a++(Dx (many.drop (b++[(a:Int)]).length)).map λn=>(⟨-1,o,p,b++[(a:Int)]++n⟩:Dp))=k++j (a+1) by rw[L.1,<-F0,Dl];rfl]at ag
   .rintro a ⟨⟨T,A⟩,g⟩ x av s;dsimp only at*;have B:a=e:=by have:=x.1;simpa using this
    subst B;refine aw ?_;exact s.1.fin
theorem AD7(a:Nat)(b:CW)(c:S)(f:Nat)(e:u)(ci:Option u)(h:Bool)(g:Nat):Fs cfg ⟨34,e,Z,ci,h,g⟩ a ⟨b,c,f,[]⟩=HY cfg 34 e a b c:=zDN
attribute [go_sem 2000] AD7
structure kA(p:Aa)(s:BQ)(A B:u)(v:y)(g:S)(b:Nat)(L:List Dp):Prop:=
 pa:g.get A=J (.box (pC p))
 sb:g.get B=J (.box (sC s))
 slv:PV g 4 v (L.map HH)
 na:Hf [] b A
 nb:Hf [] b B
 nv:∀id∈AD v,Hf [] b id
variable{a:u}{b:Nat}
theorem oQ{A:u}(e:Hf a b A)(f c:Nat)(h:b<=c):AJ (f::c::a) A=false:=by obtain⟨j,i,g,rfl⟩:=e;grind [AI]
theorem Y4{A:u}(e:Hf a b A)(f c:Nat)(h:b<=c):AJ A (f::c::a)=false:=by obtain⟨j,i,g,rfl⟩:=e;grind [AI]
theorem AAy(a:List (Nat×Ar)):CP (a.map λb=>(b.1,y.d b.2))=[]:=by induction a with|nil=>rfl|cons e a c=>grind [CP,AD]
variable{H:S}
theorem GN{K:Ah}{r:Fr}{k:Nat}{e:Code}{Q:Di->St->Prop}{E:CW}{j:Aa}{F:BQ}{A B:u}{f:y}{L:List Dp}(o:List (Nat×Ar))(P:L0 E (cfg.live 34 k)=(2,.ptr A 0)::(3,.ptr B 0)::(5,f)::o.map λa=>(a.1,y.d a.2)) (w:H.get A=J (.box (pC j))) (x:H.get B=J (.box (sC F))) (C:PV H 4 f (L.map HH))(T:∀p q M s b,kA j F p q M s b L->Ud cfg K r k e ⟨(2,.ptr p 0)::(3,.ptr q 0)::(5,M)::o.map λa=>(a.1,y.d a.2),s,b,[]⟩ Q):Ud cfg K r k e (HY cfg 34 [] k E H) Q:=by
 rw[GR,P];have aa:(AD f).length<=1:=by rcases C with⟨rfl,_⟩|⟨i,e,rfl,_⟩<;>simp[AD]
 have⟨ν,h',n,hc,hnM,hR⟩:=KG [] H ((2,.ptr A 0)::(3,.ptr B 0)::(5,f)::o.map λa=>(a.1,y.d a.2)) (A::B::AD f) zCI (by
  grind [AAy,CP,AD]) (by
  intro a h g c;rcases DO.1 h with rfl|h
  .rw[w]at c;simp[Cu,Ab,AD]at c
  rcases DO.1 h with rfl|h
  .rw[x]at c;simp[Cu,Ab,AD]at c
  grind [O3,Cu])
 have⟨g,c⟩:=hR.env A zCa;have⟨z2,hz2⟩:=hR.env B zCa;have t:=hR.get A g _ c w;have v:=hR.get B z2 _ hz2 x;simp[Eb,Du,ren]at t v;have D:∀e g,ν e=J g->Hf [] n g:=λe g O=>by obtain⟨W,R,rfl⟩:=hR.name e g O;exact⟨_,W,R,rfl⟩
 have V:∀m:List (Nat×Ar),(m.map λa=>(a.1,y.d a.2)).map (λj=>(j.1,ren ν j.2))=m.map λa=>(a.1,y.d a.2):=λm=>by simp[ren]
 rw[hc,By,By,By,V];have key:PV h' 4 (ren ν f) (L.map HH)/\∀i∈AD (ren ν f),Hf [] n i:=by
  rcases C with⟨rfl,c⟩|⟨i,e,rfl,l⟩
  .exact⟨.inl ⟨by simp[ren],c⟩,by simp[ren,AD]⟩
  .have⟨a,h⟩:=hR.env i zCa;have l:=hR.get i a _ h l;have N:ren ν (.ii i 0 (L.map HH).length)=.ii a 0 (L.map HH).length:=by simp[ren,h]
   rw[N];exact⟨.inr ⟨a,e,rfl,by simpa[Eb]using l⟩,λi Y=>by grind [AD]⟩
 have:=T g z2 (ren ν f) h' n ⟨t,v,key.1,D _ _ c,D _ _ hz2,key.2⟩;simpa[ren,c,hz2]using this
theorem Y5{c:Nat}{A:u}(e:Hf a b A)(g:b<=c):AE (c::a) A=false:=by obtain⟨i,h,f,rfl⟩:=e;grind [Fx]
theorem td{l:Aa}{m:Al}{c:BQ}{a:Ay}{d:Bd}{b:DI}(f:tx l m c a d b):(LZ c d a b=[]/\J0 c d a b=[])\/∃many:u,LZ c d a b=many.map (λ(e:Nat)=>(e:Int))/\J0 c d a b=Dx many/\0<U many/\(U many)<=3/\∀e∈many,e<=12:=by
 unfold LZ J0 SN;by_cases g:BA c.be (a.place d b.at_)=X
 .grind
 rw[Co g,Co g];by_cases k:0∈C7 c d a b
 .grind [ou]
 .refine .inr ⟨_,by rw[Co k],rfl,by simpa[C7]using f.j0,by simpa[C7]using f.j1,λe j=>?_⟩;obtain⟨h,i,rfl⟩:=EX.1 j;have⟨_,_,_,q,_,h1,h2⟩:=f.join h i;rw[h2];exact h1
theorem ACz(p:Aa)(s:BQ):∀(l:List Ia) (i:Nat),(GW p s i l).length<=(U l)
 :=by intro x;induction x<;>grind [GW]
theorem rN{k:Aa}{bv:Al}{j:BQ}(w:Ao k bv)(v:Ed k bv j):Bq kT 34 [pA k,sA j] []=.ok (.ret (.d (.co ((Et k j).map HH))),[]):=by
 have bl:=v.small;simp[BQ.small]at bl;obtain⟨c6,c7,c8,c9⟩:=bl;have a4:=AR.mk (ACz k j j.waits 0);have⟨W,hW⟩:=C6 (GW k j 0 j.waits);have b5:AR (Et k j=W++JL k j 0 j.bv):=⟨by rw[Et,hW]⟩;rw[<-hW]at a4;replace v:=AB v;replace w:=AB w;refine BM func34 ?_;refine aw ?_;refine GN [(6,.int .i64 0)] rfl (by simp only[go_sem];rfl) (by simp only[go_sem];rfl) (L:=[]) (.inl ⟨rfl,rfl⟩) λA B f g b a=>?_;refine Aj j.waits (B0:=λe (c:u×u×y×S×Nat)=>⟨[(2,.ptr c.1 0),(3,.ptr c.2.1 0),(5,c.2.2.1),(6,nI e)],c.2.2.2.1,c.2.2.2.2,[]⟩)
  (Inv:=λe Q c=>AR (∃L,kA k j c.1 c.2.1 c.2.2.1 c.2.2.2.1 c.2.2.2.2 L/\L++GW k j e Q=W)) (b0:=(A,B,f,g,b)) ⟨_,a,by rw[hW];rfl⟩ ?_ ?_
 .clear a A B f g b;rintro e b0 ⟨A,B,f,g,b⟩ N az a0 a ag;have⟨L,a,i⟩:=a.1;dsimp only at*;have⟨F,a3⟩:=O7 w.1 (v.1.wait b0 (AP N));have cv:=AFO w.1 v.1 a3;have p:=a.pa;have n:=a.sb;have b8:=oQ a.na;have b9:=Y4 a.na;have b':=oQ a.nb;have cc:=Y4 a.nb;have x:U L<=100:=by have:=a4.1;rw[<-i,Dl]at this;omega
  rw[GW]at i;replace i:=AB i;replace a3:=AB a3;have C:AR (∀ac ad R g' ai T,T=L++(if ws k j b0=X then [⟨e,0,0,[]⟩]else [])->kA k j ac ad R g' ai T->_):=⟨λac ad R g' ai T b2 b1=>ag.1 (ac,ad,R,g',ai) ⟨T,b1,by rw[<-i.1,b2,F0]⟩⟩;rcases a.slv with⟨rfl,V⟩|⟨o,H,rfl,K⟩
  .have b6:=D7.1 V;subst b6;replace a:=AB a
   (repeat' (first|simp only[*,go_sem]|(refine sx ?_ ?_<;>intro av)|refine sy z λF s a1=>?_|simp(disch:=first|assumption|omega) only[Ad]))
   .refine GN [(6,.int .i64 (e+1))] rfl zCk zCk (L:=[⟨e,0,0,[]⟩]) (BO [] rfl zCZ) λA B f g b m=>C.1 A B f g b _ zCn m
   .exact GN [(6,.int .i64 (e+1))] rfl p n (L:=[]) (.inl ⟨rfl,rfl⟩) λA B f g b m=>C.1 A B f g b _ zCn m
  .have bo:=oQ (a.nv o Az);have c4:=Y4 (a.nv o Az);have cn:AJ A o=false:=AI λq=>by grind
   have c0:AJ o A=false:=Rn K p;have cp:AJ B o=false:=AI λq=>by grind
   have c1:AJ o B=false:=Rn K n;rw[BV];replace a:=AB a;rcases H with _|⟨cm,H⟩
   ·(repeat' (first|simp only[*,go_sem,AM]|(refine sx ?_ ?_<;>intro av)|refine sy z λF s a1=>?_|simp(disch:=first|assumption|omega) only[Ad]))
    .refine GN [(6,.int .i64 (e+1))] rfl zCk zCk (L:=L++[⟨e,0,0,[]⟩]) (BO [] AG (by simp only[go_sem,bo,Ap,AM];done)) λA B f g b m=>C.1 A B f g b _ zCn m
    .exact GN [(6,.int .i64 (e+1))] rfl p n (L:=L) (BO [] AG K) λA B f g b m=>C.1 A B f g b _ zCn m
   ·(repeat' (first|simp only[*,go_sem,AM]|(refine sx ?_ ?_<;>intro av)|refine sy z λF s a1=>?_|simp(disch:=first|assumption|omega) only[Ad]))
    .refine GN [(6,.int .i64 (e+1))] rfl zCk zCk (L:=L++[⟨e,0,0,[]⟩]) (BO H AG (by simp only[go_sem,bo,Ap,AM];done)) λA B f g b m=>C.1 A B f g b _ zCn m
    .exact GN [(6,.int .i64 (e+1))] rfl p n (L:=L) (BO (cm::H) AG K) λA B f g b m=>C.1 A B f g b _ zCn m
 .rintro e ⟨A,B,f,g,b⟩ az a0 a;have⟨L,h,i⟩:=a.1;clear a;dsimp only at*;rw[GW,CS]at i;subst i;clear hW;have p:=h.pa;have n:=h.sb;have l:=h.slv;clear h;replace l:=AB l;refine aw (GN [(7,.int .i64 0)] rfl p n (L:=L) l.1 λA B f g b a=>?_);clear p n l;refine Aj j.bv (B0:=λe (c:u×u×y×S×Nat)=>⟨[(2,.ptr c.1 0),(3,.ptr c.2.1 0),(5,c.2.2.1),(7,nI e)],c.2.2.2.1,c.2.2.2.2,[]⟩)
   (Inv:=λe Q c=>AR (∃L,kA k j c.1 c.2.1 c.2.2.1 c.2.2.2.1 c.2.2.2.2 L/\L++JL k j e Q=Et k j/\(U L)<=40+e*60000)) (b0:=(A,B,f,g,b)) ⟨_,a,b5.1.symm,by have:=a4.1;omega⟩ ?_ ?_
  .clear a A B f g b;rintro e be ⟨A,B,f,g,b⟩ N az a0 a ag;have⟨L,h,i,x⟩:=a.1;clear a;dsimp only at*;have⟨d,D⟩:=v.1.grp e be N;have⟨g0,hdd⟩:=Cr D.ip;have cs:=l_ hdd;have cu:=(Bk w.1 hdd).ok.rules;have p:=h.pa;have n:=h.sb;have l:=h.slv;clear h;replace l:=AB l;rw[JL,D.ip]at i;dsimp only at i;replace i:=AB i;replace D:=AB D;refine aw (GN [(7,.int .i64 e),(8,.int .i64 0)] rfl p n (L:=L) l.1 λA B f g b a=>?_);clear p n l;refine Aj d.rules (B0:=λt (c:u×u×y×S×Nat)=>⟨[(2,.ptr c.1 0),(3,.ptr c.2.1 0),(5,c.2.2.1),(7,nI e),(8,nI t)],c.2.2.2.1,c.2.2.2.2,[]⟩)
    (Inv:=λt Q c=>AR (∃L,kA k j c.1 c.2.1 c.2.2.1 c.2.2.2.1 c.2.2.2.2 L/\L++(IW j d be e t Q++JL k j (e+1) (j.bv.drop (e+1)))=Et k j/\(U L)<=40+e*60000+t*2000)) (b0:=(A,B,f,g,b)) ⟨_,a,i.1,z⟩ ?_ ?_
   .clear a i x A B f g b;rintro t aa ⟨A,B,f,g,b⟩ bk bh b4 a bc;have⟨L,h,i,x⟩:=a.1;clear a;dsimp only at*;have bi:=AB8 w.1 v.1 N D.1 bk;have p:=h.pa;have n:=h.sb;have b8:=oQ h.na;have b9:=Y4 h.na;have b':=oQ h.nb;have cc:=Y4 h.nb;have M:=Oy w.1 v.1 N D.1 (AP bk);rw[IW]at i;have l:=AB h.slv;have bn:AR (∀o∈AD f,AE [b+27] o=Z):=⟨λo r=>Y5 (h.nv o r) z⟩;have uA:AE [b+27] A=false:=Y5 h.na z;have bx:AE [b+27] B=false:=Y5 h.nb z;replace i:=AB i;replace h:=AB h;have cx:(e:Int)<1000000:=z;rcases td M with⟨O,P⟩|⟨many,O,P,b7,a5,Y⟩
    .rw[O]at bi;rw[P]at i;replace M:=AB M;clear O P;refine aw (GN [(7,.int .i64 e),(8,.int .i64 (t+1))] rfl p n (L:=L) l.1 λA B f g b m=>bc.1 (A,B,f,g,b) ⟨L,m,i.1,z⟩)
    .rw[O]at bi;have c3:(0:Int)<U many:=z;rw[P]at i;replace M:=AB M;replace Y:=AB Y;clear O P;refine aw (Ak (pB e t many b7 a5 Y.1 (U many) g [b+27] f .d9 L [] ?_ l.1 (.inl ⟨rfl,rfl⟩) (λ_=>rfl) (λo r=>?_) AG) (λc5 ar cd=>?_))
     .have:12 ^ (U many)<=12 ^ 3:=Nat.pow_le_pow_right z a5;omega
     .rcases r with r|r
      .exact bn.1 o r
      .simp[AD]at r
     obtain⟨R,rfl,a6,bs,a'⟩:=cd;have b3:∀aa,TQ aa R=aa:=λaa=>by rcases a6 with⟨q,_⟩|⟨_,_,q,_⟩<;>rw[q]<;>rfl
     rw[G7,b3];have ch:(gc [b+27] ar).get A=_:=(An _ _ _ uA).trans ((a' A (λq=>by obtain⟨F,s⟩:=O3 l.1 q;rw[p]at s;cases s) uA).trans p);have cl:(gc [b+27] ar).get B=_:=(An _ _ _ bx).trans ((a' B (λq=>by obtain⟨F,s⟩:=O3 l.1 q;rw[n]at s;cases s) bx).trans n);have a2:=Nv a6 (g':=gc [b+27] ar) λo r=>by
      rcases bs o r with q|⟨_,c2,rfl⟩
      .exact An _ _ _ (bn.1 o q)
      .exact FC _ _ _
     replace a2:=AB a2;clear a6 bs a';refine aw (GN [(7,.int .i64 e),(8,.int .i64 (t+1))] rfl ch cl a2.1 λA B f g b m=>bc.1 (A,B,f,g,b) ⟨_,m,?_,?_⟩)
     .rw[<-i.1];simp
     .have cq:=VN Y.1;have:12 ^ (U many)<=12 ^ 3:=Nat.pow_le_pow_right z a5;grind
   .rintro t ⟨A,B,f,g,b⟩ bh b4 a;have⟨L,h,i,x⟩:=a.1;clear a;dsimp only at*;have p:=h.pa;have n:=h.sb;have l:=h.slv;clear h;replace l:=AB l;refine aw ?_;refine GN [(7,.int .i64 (e+1))] rfl p n (L:=L) l.1 λA B f g b m=>ag.1 (A,B,f,g,b) ⟨L,m,by simpa[IW]using i,by have:=bh.1;omega⟩
  .rintro e ⟨A,B,f,g,b⟩ az a0 a;have⟨L,h,i,x⟩:=a.1;clear a;dsimp only at*;rw[JL,CS]at i;subst i;have n:=h.sb;rcases h.slv with⟨rfl,V⟩|⟨o,H,rfl,K⟩
   .rw[V];clear V h x;exact au
   .rw[BV];have c':TL (Et k j).length ((Et k j).map HH++H)=(Et k j).map HH:=UJ _ _ _;clear h x
    (repeat' (first|simp only[*,go_sem,D2]|(refine sx ?_ ?_<;>intro av)|refine sy z λF s a1=>?_|simp(disch:=first|assumption|omega) only[Ad]))
def APt(a:Abs.Obj):Prop:=Cu (J a)=[]/\∀b,Eb b a=a
theorem pd(c:u->Option u):∀a:List Ar,Du c (a.map .d)=a.map .d
 :=by intro b;induction b<;>grind [Du,ren]
def Ye:∀a:List Ar,Ab (a.map .d)=[]
 |[]=>rfl|c::a=>by rw[By,Ab,Ye a];rfl
def xE(a:List Ar):APt (.box (a.map .d)):=⟨by simp[Cu,Ye],λb=>by simp[Eb,pd]⟩
variable{c:Type}{P:c->Prop}
theorem ee{a:c}(h:P a):∀A9∈ [a],P A9:=zCI
variable{l:List c}
def wy{b:c}(e:P b)(f:∀a∈l,P a):∀a∈b::l,P a:=List.forall_mem_cons.2 ⟨e,f⟩
def HC(p:Aa)(n:Int):Al:=match p.nodes[n.toNat]? with|some x=>if x.op=4 then(match p.defs[x.n.toNat]? with|some d=>d.rules.map DI.node++(d.be.map Dy.node++x.kids)|none=>[])else x.kids|none=>[]
def PO(p:Aa)(n:Int):Al:=match p.nodes[n.toNat]? with|some x=>if x.op=4 then(match p.defs[x.n.toNat]? with|some d=>x.kids++(d.be.map Dy.node++d.rules.map DI.node)|none=>[])else x.kids|none=>[]
theorem qO(p:Aa)(n:Int):(PO p n).Perm (HC p n):=by unfold PO HC;grind
def FK(p:Aa):Nat->Int->Al
 |0,_=>[]|k+1,n=>n::(HC p n).flatMap (FK p k)
def UX(p:Aa):Nat->Int->Prop
 |0,_=>False|k+1,n=>0<=n/\(∃x,p.nodes[n.toNat]?=J x)/\∀m∈HC p n,UX p k m
structure o6(p:Aa)(L:Al)(st d8:Bu):Prop:=
 nd:L.Nodup
 out:∀m∈L,0<=m/\st.met[m.toNat]?=J Z/\d8.met[m.toNat]?=J X
 same:∀i:Nat,(i:Int) ∉L->d8.met[i]?=st.met[i]?
theorem bP{e:Aa}{k:Nat}{o:Int->Int->Bu->Option Bu}(p:∀m s f b,o m s f=J b->UX e k m/\o6 e (FK e k m) f b):∀{l:List (Int×Int)} {f b:Bu},C5 o l f=J b->(∀r∈l,UX e k r.1)/\o6 e ((l.map Prod.fst).flatMap (FK e k)) f b
 |[],f,b,g=>by cases g;exact⟨AG,AG,AG,λ_ _=>rfl⟩|(m,s)::l,f,b,g=>by
  rw[C5]at g;split at g
  .rename_i B a;have⟨a1,a2⟩:=p _ _ _ _ a;have⟨b1,b2⟩:=bP p g;refine⟨λr A=>?_,?_,λc h=>?_,λq n=>?_⟩
   .grind
   .rw[By,FN];refine D0.2 ⟨a2.nd,b2.nd,λt v C w i=>?_⟩;subst i;have a:=(a2.out t v).2.2;have x:=(b2.out t w).2.1;grind
   .rw[By,FN]at h;rcases Ac.1 h with h|h
    .have a:=a2.out c h;refine⟨a.1,a.2.1,?_⟩;have i:=Hw a.1;rw[b2.same c.toNat λj=>?_]
     .exact a.2.2
     .rw[i]at j;have:=(b2.out c j).2.1;grind
    .have a:=b2.out c h;refine⟨a.1,?_,a.2.2⟩;have i:=Hw a.1;by_cases j:c∈FK e k m
     .have:=(a2.out c j).2.2;grind
     .rw[<-a2.same c.toNat (by rw[i];exact j)];exact a.2.1
   .rw[By,FN,Ac,not_or]at n;rw[b2.same q n.2,a2.same q n.1]
  .cases g
theorem Zo(e:Aa):∀(i:Nat) (b size:Int) (f g:Bu),Bg e i b size f=J g->UX e i b/\o6 e (FK e i b) f g
 |0,b,size,f,g,a=>by cases a|i+1,b,size,f,g,a=>by
  rw[Bg]at a;split at a
  .rename_i h;split at a
   .rename_i D s;split at a
    .split at a
     .rename_i l C p;have⟨c,i2,_⟩:=cC p;have⟨f1,f2,_⟩:=my p;have w:l.map Prod.fst=HC e b:=by
       rw[IB]at c;rw[HC,s];dsimp only;split at c
       .rename_i m;rw[D4 m];split at c
        .rename_i d v;split at c
         .cases c;rw[v];simp[DP,Cx,Cn,Function.comp_def]
         .cases c
        .cases c
       .rename_i m;cases c;rw[Co m];simp[Cn,Function.comp_def]
      have⟨b1,b2⟩:=bP (λb B f g=>Zo e i b B f g) a;rw[w]at b2;have q:C.met=f.met.set b.toNat true:=f2;have x:=l_ h.2;have r:b∉(HC e b).flatMap (FK e i):=λt=>by have:=(b2.out b t).2.1;grind
      refine⟨⟨h.1,⟨D,s⟩,λn j=>?_⟩,?_,λn j=>?_,λA k=>?_⟩
      .grind
      .rw[FK];exact IT.2 ⟨r,b2.nd⟩
      .rw[FK]at j;rcases DO.1 j with rfl|j
       .refine⟨h.1,h.2,?_⟩;have o:=Hw h.1;rw[b2.same n.toNat (by rw[o];exact r),q,F5,D4 rfl,D4 x]
       .have F:=b2.out n j;grind
      .rw[FK,DO,not_or]at k;rw[b2.same A k.2,q,F5,Co λo=>k.1 (by have:=h.1;omega)]
     .cases a
    .cases a
   .cases a
  .cases a
theorem UX.mono{f:Aa}:∀{b c:Nat} {e:Int},UX f b e->b<=c->UX f c e
 |0,_,_,a,_=>a.elim|b+1,0,_,_,a=>z|b+1,c+1,e,a,hm=>⟨a.1,a.2.1,λh g=>(a.2.2 h g).mono z⟩
def X3{g:Aa}:∀{b:Nat} {f e:Int},UX g b f->e∈FK g b f->UX g b e
 |0,_,_,c,_=>c.elim|b+1,f,e,c,a=>by
  rw[FK]at a;rcases DO.1 a with rfl|a
  .exact c
  .have⟨q,hq,a⟩:=BE.1 a;exact(X3 (c.2.2 q hq) a).mono (T6 b)
structure Dz(p:Aa):Prop:=
 dep:∀n:Int,0<=n->n<U p.nodes->UX p (U p.nodes+1) n
 main:UX p (U p.nodes+1) p.main
 nd:(FK p (U p.nodes+1) p.main).Nodup
 all:∀n:Int,0<=n->n<U p.nodes->n∈FK p (U p.nodes+1) p.main
theorem Oh{a:Aa}{j:Bu}(b:looks a=J j):Dz a:=by
 unfold looks at b;split at b
 .split at b
  .rename_i m i;split at b
   .rename_i n;cases b;have⟨hd,ht⟩:=Zo a _ _ _ _ _ i;have l:=DE a _ _ _ _ _ i;have o:U j.met=U a.nodes:=by rw[l.met];simp[Bu.init]
    have g:∀c:Int,0<=c->c<U a.nodes->c∈FK a (U a.nodes+1) a.main:=λc e f=>by
     by_cases h:c∈FK a (U a.nodes+1) a.main
     .exact h
     .have k:=Hw e;have:=ht.same c.toNat (by rw[k];exact h);grind [eY,Bu.init]
    exact⟨λc e f=>X3 hd (g c e f),hd,ht.nd,g⟩
   .cases b
  .cases b
 .cases b
abbrev BJ:=List (Int×(Int×Int))
def HG:BJ->Int->Option (Int×Int)
 |[],_=>I|(k,c)::l,i=>if k=i then J c else HG l i
def GZ(size d:Int)(m:Nat):BJ:=(V5 m).map λ(c:Nat)=>(size+c,(d,(c:Int)))
def aO(e:Aa)(f:Al)(c:Int)(a:BJ):BJ:=match e.nodes[c.toNat]? with|some b=>if b.op=4 then a++GZ ((f[c.toNat]?).getD 0) b.n (((e.defs[b.n.toNat]?).map λd=>U d.ac).getD 0)else a|none=>a
def fJ(a:Aa)(b:Al):Nat->Int->BJ->List (Int×BJ)
 |0,_,_=>[]|k+1,n,e=>(n,e)::(PO a n).flatMap λc=>fJ a b k c (aO a b n e)
def qc(p:Aa):Nat->Int->Al
 |0,_=>[]|k+1,n=>n::(PO p n).flatMap (qc p k)
def dE{i:Type}{b e:c->List i}:∀{l:List c},(∀a∈l,(b a).Perm (e a))->(l.flatMap b).Perm (l.flatMap e)
 |[],_=>.nil|a::l,h=>by rw[FN,FN];exact(h a (CO ..)).append (dE λg f=>h g (Bi _ f))
def dk(p:Aa):∀(k:Nat) (n:Int),(qc p k n).Perm (FK p k n)
 |0,_=>.nil|k+1,n=>by rw[qc,FK];refine .cons _ ((List.Perm.flatMap_right _ (qO p n)).trans ?_);exact dE λm _=>dk p k m
def bZ(c:Aa)(f:Al):∀(a:Nat) (b:Int) (e:BJ),(fJ c f a b e).map Prod.fst=qc c a b
 |0,_,_=>rfl|a+1,b,e=>by rw[fJ,qc,By,List.map_flatMap];simp[bZ c f a]
variable{k:Nat}
theorem kx{c:Aa}{f:Al}{a:Int}{b:BJ}(e:UX c k a):(a,b)∈fJ c f k a b:=by
 rcases k with _|k
 .exact e.elim
 .grind [fJ]
variable{m:Int}
def K6{p:Aa}{n:Int}:m∈PO p n↔m∈HC p n:=(qO p n).mem_iff
def kr{c:Aa}{j:Al}:∀{k:Nat} {g:Int} {h:BJ},UX c k g->∀{m:Int} {i:BJ},(m,i)∈fJ c j k g h->∀e∈PO c m,(e,aO c j m i)∈fJ c j k g h
 |0,_,_,f,_,_,_,_,_=>f.elim|k+1,g,h,f,m,i,b,e,hq=>by
  rw[fJ]at b⊢;rcases DO.1 b with b|b
  .cases b;refine Bi _ (BE.2 ⟨e,hq,?_⟩);exact kx (f.2.2 e (K6.1 hq))
  .have⟨a,ha,b⟩:=BE.1 b;exact Bi _ (BE.2 ⟨a,ha,kr (f.2.2 a (K6.1 ha)) b e hq⟩)
def tT(D:List BJ)(l:List (Int×BJ)):List BJ:=l.foldl (λD q=>D.set q.1.toNat q.2) D
def nT:∀(l:List (Int×BJ)) (D:List BJ),(tT D l).length=U D
 |[],D=>rfl|q::l,D=>by show(tT (D.set q.1.toNat q.2) l).length=U D;rw[nT l];simp
theorem nU:∀{l:List (Int×BJ)} {D:List BJ} {a:Nat},(∀b∈l,b.1.toNat≠a)->(tT D l)[a]?=D[a]?
 |[],D,a,h=>rfl|b::l,D,a,h=>by show(tT (D.set b.1.toNat b.2) l)[a]?=D[a]?;rw[nU λe c=>h e (Bi _ c),F5,Co (h b (CO ..))]
theorem xf:∀{l:List (Int×BJ)} {D:List BJ},(l.map Prod.fst).Nodup->(∀a∈l,0<=a.1/\a.1<U D)->∀a∈l,(tT D l)[a.1.toNat]?=J a.2
 |[],D,_,_,a,b=>by cases b|r::l,D,hn,hr,a,b=>by
  show(tT (D.set r.1.toNat r.2) l)[a.1.toNat]?=J a.2;rw[By,IT]at hn;have c:=hr r (CO ..);rcases DO.1 b with rfl|b
  .grind [nU]
  .exact xf hn.2 (λf e=>by grind) a b
def den(D:List BJ)(n:Int):BJ:=(D[n.toNat]?).getD []
structure Fh(p:Aa)(sz:Al)(D:List BJ):Prop:=
 len:U D=U p.nodes
 main:den D p.main=[]
 sub:∀n:Int,0<=n->n<U p.nodes->∀m∈PO p n,den D m=aO p sz n (den D n)
def Sv(a:Aa)(b:Al):List (Int×BJ):=fJ a b (U a.nodes+1) a.main []
def Dg(a:Aa)(b:Al):List BJ:=tT (Sm (U a.nodes) []) (Sv a b)
theorem iR{b:Aa}{c:Int}(a:UX b k c)(e:m∈FK b k c):0<=m/\m<U b.nodes:=by
 have a:=X3 a e;rcases k with _|k
 .exact a.elim
 .obtain⟨f,⟨h,g⟩,_⟩:=a;grind
def Qq{a:Aa}(f:Dz a)(e:Al):Fh a e (Dg a e):=by
 have h:=bZ a e (U a.nodes+1) a.main [];have i:=dk a (U a.nodes+1) a.main;have p:((Sv a e).map Prod.fst).Nodup:=by rw[Sv,h];exact i.nodup_iff.2 f.nd
 have n:∀b∈Sv a e,0<=b.1/\b.1<U a.nodes:=λb c=>by refine iR f.main (i.mem_iff.1 ?_);rw[<-h];exact MP c
 have g:∀b∈Sv a e,den (Dg a e) b.1=b.2:=λb c=>by rw[den,Dg,xf p (λb c=>by simpa using n b c) b c];rfl
 refine⟨by rw[Dg,nT];simp,g _ (kx f.main),λq k l m o=>?_⟩;have j:=i.mem_iff.2 (f.all q k l);rw[<-h]at j;obtain⟨b,c,rfl⟩:=EX.1 j;rw[g b c];exact g _ (kr f.main c m o)
structure Au:=
 ac:Al
 rules:Al
 args:List Al
def NF(k:Int):Int:=if k=1 then 0 else if k=4 then 2 else 1
def Fu(a:Int):Int:=if a=0 then 1 else if a=1 then 3 else 4
def IE(a b:Int):Int:=if 2<a+b then 2 else a+b
def Ke(a b:Int):Int:=if 2<a*b then 2 else a*b
def Fq(a b:Int):Int:=if a<b then b else a
def CB(T:List Au)(d c:Int):Int:=((T[d.toNat]?).bind λA8=>A8.ac[c.toNat]?).getD 1
def Bc(T:List Au)(d r:Int):Int:=((T[d.toNat]?).bind λA8=>A8.rules[r.toNat]?).getD 1
def FP(T:List Au)(c:Int×Int)(i:Nat):Int:=((T[c.1.toNat]?).bind λA8=>(A8.args[c.2.toNat]?).bind λl=>l[i]?).getD 1
def R2(p:Aa)(c:Int×Int):Option HV:=(p.defs[c.1.toNat]?).bind λd=>d.ac[c.2.toNat]?
def Nb(p:Aa)(c:Int×Int)(x:CQ):Bool:=decide (((R2 p c).map HV.many).getD (-1)=(U x.args:Int))
def pq(T:List Au)(i:Nat)(a:Int):Option (Int×Int)->Int
 |some c=>IE a (NF (FP T c i))|none=>2
def HB(b:List Au)(f:Option (Int×Int))(c:Int):Nat->List CC->Int->Int
 |_,[],a=>a|i,e::l,a=>HB b f c (i+1) l (if e.op=2/\e.n=c then pq b i a f else a)
def DW(x:CQ)(k:Nat):Int:=(x.kids[k]?).getD 0
def KV(g:Aa)(c:List Au)(D:List BJ)(f:Int)(a:CQ)(b:Int):Int:=match HG (den D f) a.n with|some e=>if Nb g e a=X then HB c (J e) b 0 a.args (if a.n=b then 1 else 0)else 0|none=>HB c I b 0 a.args (if a.n=b then 1 else 0)
def O5(f:Int->Int):Al->Int->Int
 |[],a=>a|k::l,a=>O5 f l (IE a (f k))
def Ox(f:Int->Int)(T:List Au)(d:Int):Nat->List DI->Int->Int
 |_,[],a=>a|i,r::l,a=>Ox f T d (i+1) l (IE a (Ke (NF (Bc T d i)) (f r.node)))
def Kh(f:Int->Int)(p:Aa)(T:List Au)(x:CQ):Int:=match p.defs[x.n.toNat]? with|some d=>Ox f T x.n 0 d.rules (O5 f (d.be.map Dy.node) (f (DW x 0)))|none=>0
def Ca(p:Aa)(T:List Au)(D:List BJ):Nat->Int->Int->Int
 |0,_,_=>0|k+1,n,pl=>match p.nodes[n.toNat]? with
  |some x=>if x.op=2 then KV p T D n x pl
   else if x.op=3 then IE (Ca p T D k (DW x 0) pl) (Ca p T D k (DW x 1) pl)
   else if x.op=5 then Fq (Ca p T D k (DW x 0) pl) (Ca p T D k (DW x 1) pl)
   else if x.op=6\/x.op=8 then Ca p T D k (DW x 0) pl
   else if x.op=4 then Kh (λm=>Ca p T D k m pl) p T x else 0
  |none=>0
def Rb(f:Int->Int):Al->Int->Int
 |[],a=>a|k::l,a=>Rb f l (a+f k)
def N9(f:Int->Int)(p:Aa)(x:CQ):Int:=match p.defs[x.n.toNat]? with|some d=>Rb f (d.be.map Dy.node) (f (DW x 0))|none=>0
def dZ(f:Aa)(D:List BJ)(e:Int)(b:CQ)(a:Int):Int:=match HG (den D e) a with|some c=>if b.n=a/\Nb f c b=X then 1 else 0|none=>0
def PE(a b:Int):Int:=if b<a then b else a
def EV(p:Aa)(D:List BJ):Nat->Int->Int->Int
 |0,_,_=>0|k+1,n,pl=>match p.nodes[n.toNat]? with
  |some x=>if x.op=2 then dZ p D n x pl
   else if x.op=3 then EV p D k (DW x 0) pl+EV p D k (DW x 1) pl
   else if x.op=5 then PE (EV p D k (DW x 0) pl) (EV p D k (DW x 1) pl)
   else if x.op=4 then N9 (λm=>EV p D k m pl) p x else 0
  |none=>0
theorem fg{c:Aa}{b:Int}{a:CQ}(g:c.nodes[b.toNat]?=J a)(f:¬a.op=4)(e:a.kids[k]?=J m):m∈HC c b:=by grind [HC]
theorem AEW{b:Aa}{c:Int}{a:CQ}{d:Bd}(h:b.nodes[c.toNat]?=J a)(g:a.op=4)(f:b.defs[a.n.toNat]?=J d)(e:m∈a.kids\/m∈d.be.map Dy.node\/m∈d.rules.map DI.node):m∈HC b c:=by grind [HC]
theorem Zg{f g:Int->Int}:∀{l:Al} {a:Int},(∀m∈l,f m=g m)->O5 f l a=O5 g l a
 :=by intro x;induction x<;>grind [O5]
theorem Zh{f g:Int->Int}:∀{l:Al} {a:Int},(∀m∈l,f m=g m)->Rb f l a=Rb g l a
 :=by intro x;induction x<;>grind [Rb]
theorem ZT{f g:Int->Int}{T:List Au}{d:Int}:∀{l:List DI} {i:Nat} {a:Int},(∀r∈l,f r.node=g r.node)->Ox f T d i l a=Ox g T d i l a
 :=by intro x;induction x<;>grind [Ox]
structure AMC(p:Aa)(n:Int)(x:CQ):Prop:=
 two:x.op=3\/x.op=5->DW x 0∈HC p n/\DW x 1∈HC p n
 one:x.op=6\/x.op=8->DW x 0∈HC p n
 defn:x.op=4->∃d,p.defs[x.n.toNat]?=J d/\(DW x 0∈HC p n)/\(∀m∈d.be.map Dy.node,m∈HC p n)/\∀r∈d.rules,r.node∈HC p n
theorem Hy{c:Aa}{i:Al}(f:Ao c i){h:Int}{a:CQ}(g:c.nodes[h.toNat]?=J a):AMC c h a:=by
 have⟨s,l,hs,h0,h1,hok,hsub,_⟩:=f.node _ a g;simp only[Cw,As,D3]at hok;have e:=hok.1;have m:∀k,k<U a.kids->a.kids[k]?=J (DW a k):=λk e=>by grind [DW]
 refine⟨λb=>?_,λb=>?_,λb=>?_⟩
 .grind [DX,fg]
 .grind [DX,fg]
 .have j:U a.kids=1:=by rw[b]at e;simpa[DX]using e.symm
  have⟨n1,n2,_⟩:=E6 f g b;have⟨d,hd⟩:=g_ (l:=c.defs) (i:=a.n.toNat) z;grind [AEW]
theorem ZX{f:Aa}{t:Al}(p:Ao f t)(g:List Au)(D:List BJ)(j:Int):∀{k m:Nat} {i:Int},UX f k i->k<=m->Ca f g D m i j=Ca f g D k i j
 |0,_,_,l,_=>l.elim|k+1,0,_,_,l=>z|k+1,m+1,i,l,hm=>by
  obtain⟨v,⟨w,q⟩,s⟩:=l;have n:=Hy p q;have h:∀o∈HC f i,Ca f g D m o j=Ca f g D k o j:=λo r=>ZX p g D j (s o r) z;rw[Ca,Ca,q];dsimp only;split
  .rfl
  split
  .rename_i e;have⟨a,b⟩:=n.two (.inl e);rw[h _ a,h _ b]
  split
  .rename_i e;have⟨a,b⟩:=n.two (.inr e);rw[h _ a,h _ b]
  split
  .rename_i e;rw[h _ (n.one e)]
  split
  .rename_i e;have⟨d,hd,a,b,c⟩:=n.defn e;grind [Kh,Zg,ZT]
  .rfl
theorem da{e:Aa}{s:Al}(o:Ao e s)(D:List BJ)(h:Int):∀{k m:Nat} {g:Int},UX e k g->k<=m->EV e D m g h=EV e D k g h
 |0,_,_,i,_=>i.elim|k+1,0,_,_,i=>z|k+1,m+1,g,i,hm=>by
  obtain⟨t,⟨v,p⟩,r⟩:=i;have n:=Hy o p;have j:∀l∈HC e g,EV e D m l h=EV e D k l h:=λl q=>da o D h (r l q) z;rw[EV,EV,p];dsimp only;split
  .rfl
  split
  .rename_i f;have⟨a,b⟩:=n.two (.inl f);rw[j _ a,j _ b]
  split
  .rename_i f;have⟨a,b⟩:=n.two (.inr f);rw[j _ a,j _ b]
  split
  .rename_i f;have⟨d,hd,a,b,c⟩:=n.defn f;grind [N9,Zh]
  .rfl
def E7(l:Al):List Ar:=[.co (l.map AX)]
def kf(A8:Au):List Ar:=[.co (A8.ac.map AX),.co (A8.rules.map AX),.co (A8.args.map E7)]
attribute [go_sem] E7 kf
abbrev Dv(T:List Au):y:=.d (.co (T.map kf))
abbrev uA(A8:Au):y:=.agg [.d (.co (A8.ac.map AX)),.d (.co (A8.rules.map AX)),.d (.co (A8.args.map E7))]
@[go_sem] theorem AQ9(k:Int):Bq kT 142 [nI k] []=.ok (.ret (nI (NF k)),[]):=by
  refine BM func142 ?_
  (repeat' (first|simp only[*,go_sem]|(refine sx ?_ ?_<;>intro a)|refine sy z λe c b=>?_|simp(disch:=first|assumption|omega) only[Ad]))
  all_goals grind [NF]
@[go_sem] theorem APf(k:Int):Bq kT 194 [nI k] []=.ok (.ret (nI (Fu k)),[]):=by
  refine BM func194 ?_
  (repeat' (first|simp only[*,go_sem]|(refine sx ?_ ?_<;>intro a)|refine sy z λe c b=>?_|simp(disch:=first|assumption|omega) only[Ad]))
  all_goals grind [Fu]
theorem XG{a b:Int}(c:0<=a/\a<=2)(e:0<=b/\b<=2):Bq kT 206 [nI a,nI b] []=.ok (.ret (nI (IE a b)),[]):=by have f:SE.wrap (a+b)=a+b:=w_ z z;refine BM func206 ?_;refine aw ?_;all_goals grind [IE]
theorem AHo{a b:Int}(e:0<=a/\a<=2)(f:0<=b/\b<=2):Bq kT 207 [nI a,nI b] []=.ok (.ret (nI (Ke a b)),[]):=by
 have g:SE.wrap (a*b)=a*b:=by have c:a=0\/a=1\/a=2:=z;rcases c with rfl|rfl|rfl<;>exact w_ z z
 refine BM func207 ?_;refine aw ?_;all_goals grind [Ke]
theorem mV(a b:Int):Bq kT 195 [nI a,nI b] []=.ok (.ret (nI (Fq a b)),[]):=by
 refine BM func195 ?_
 (repeat' (first|simp only[*,go_sem]|(refine sx ?_ ?_<;>intro c)|refine sy z λg f e=>?_|simp(disch:=first|assumption|omega) only[Ad]))
 all_goals grind [Fq]
@[go_sem] theorem AMc(a b:Int)(o:Bool):Bq kT 135 [nI a,nI b,.d (.bool o)] []=.ok (.ret (.d (.bool (decide (a=b)))),[]):=by refine BM func135 ?_;exact au;all_goals grind
@[go_sem] theorem AMs(a b:Int)(o:Bool):Bq kT 141 [nI a,nI b,.d (.bool o)] []=.ok (.ret (.d (.bool (decide (NF b<=NF a)))),[]):=by refine BM func141 ?_;exact au;all_goals grind
def xO(k:Int)(o:Bool):Bool:=decide (1<=k)&&(decide (k<=4)&&(o|| !decide (k=2)))
@[go_sem] theorem AEq(c b:Int)(a:Bool):Bq kT 179 [nI c,nI b,.d (.bool a)] []=.ok (.ret (.d (.bool (xO c a))),[]):=by
  refine BM func179 ?_;cases a
  ·exact zAz
  ·exact zAz
@[go_sem] theorem AM0(l:Al):Bq kT 82 [.d (.co (l.map AX))] []=.ok (.ret (.d (.bool (decide (60<U l)))),[]):=by refine BM func82 ?_;refine aw ?_;have e:decide ((60:Int)<(U l:Int))=decide (60<U l):=decide_eq_decide.2 z;rw[e]
def rf{c:Type}(q:c->Bool):Nat->List c->Int
 |_,[]=> -1|j,A9::ys=>if q A9 then j else rf q (j+1) ys
def vT(q:c->Bool):∀(l:List c) (j:Nat),decide (0<=rf q j l)=l.any q
 |[],j=>by simp[rf]|A9::ys,j=>by
  by_cases h:q A9=X
  .simp[rf,h]
  .simp[rf,h,vT q ys (j+1)]
def OW(x:Al):Bool:=decide (60<U x)
def AOz(l:List Al)(k:U l<=60):Bq kT 126 [.d (.co (l.map E7)),.fn 82 [] []] []=.ok (.ret (nI (rf OW 0 l)),[]):=by
 refine BM func126 ?_;refine aw ?_;refine Aj l (B0:=λb (_:Unit)=>⟨[(0,.d (.co (l.map E7))),(1,.fn 82 [] []),(7,nI (U l)),(8,nI b)],[],0,[]⟩)
  (Inv:=λb i _=>AR (rf OW b i=rf OW 0 l)) (b0:=()) ⟨AG⟩ ?_ ?_
 .rintro b j _ m g h c f;have n:SE.wrap ((b:Int)+1)=(b:Int)+1:=w_ z z;by_cases e:60<U j
  .have a:=c.1;simp[rf,OW,e]at a;rw[<-a];replace a:=AB a;exact au
  .have a:=c.1;simp[rf,OW,e]at a;replace a:=AB a;exact aw (f.1 () a)
 .rintro b _ g h c;have a:=c.1;simp[rf]at a;rw[<-a];exact au
def AQt(l:List Al)(a:U l<=60):Bq kT 81 [.d (.co (l.map E7)),.fn 82 [] []] []=.ok (.ret (.d (.bool (l.any OW))),[]):=by have c:=AOz l a;have b:=vT OW l 0;refine BM func81 ?_;exact au
def B7(A8:Au):Bool:=decide (60<U A8.ac)||(decide (60<U A8.rules)||(decide (60<U A8.args)||A8.args.any OW))
theorem AQs(a:Au):Bq kT 80 [uA a] []=.ok (.ret (.d (.bool (B7 a))),[]):=by
 have h:decide ((60:Int)<(U a.ac:Int))=decide (60<U a.ac):=decide_eq_decide.2 z;have i:decide ((60:Int)<(U a.rules:Int))=decide (60<U a.rules):=decide_eq_decide.2 z;have j:decide ((60:Int)<(U a.args:Int))=decide (60<U a.args):=decide_eq_decide.2 z;by_cases c:U a.args<=60
 .have k:=AQt a.args c;exact zAi
 .exact zAi
attribute [go_sem] AQs
def AOy(l:List Au)(j:U l<=40):Bq kT 125 [Dv l,.fn 80 [] []] []=.ok (.ret (nI (rf B7 0 l)),[]):=by
 refine BM func125 ?_;refine aw ?_;refine Aj l (B0:=λb (_:Unit)=>⟨[(0,Dv l),(1,.fn 80 [] []),(7,nI (U l)),(8,nI b)],[],0,[]⟩)
  (Inv:=λb h _=>AR (rf B7 b h=rf B7 0 l)) (b0:=()) ⟨AG⟩ ?_ ?_
 .rintro b i _ k f g c e;have m:SE.wrap ((b:Int)+1)=(b:Int)+1:=w_ z z;have a:=c.1;rcases hxy:B7 i with _|_
  .simp[rf,hxy]at a;replace a:=AB a;exact aw (e.1 () a)
  .simp[rf,hxy]at a;rw[<-a];replace a:=AB a;exact au
 .rintro b _ f g c;have a:=c.1;simp[rf]at a;rw[<-a];exact au
def AQr(l:List Au)(a:U l<=40):Bq kT 79 [Dv l,.fn 80 [] []] []=.ok (.ret (.d (.bool (l.any B7))),[]):=by have c:=AOy l a;have b:=vT B7 l 0;refine BM func79 ?_;exact au
def cJ(l:List Au):Bool:=decide (40<U l)||l.any B7
theorem AFy(l:List Au):Bq kT 43 [Dv l] []=.ok (.ret (.d (.bool (cJ l))),[]):=by
 have g:decide ((40:Int)<(U l:Int))=decide (40<U l):=decide_eq_decide.2 z;by_cases b:U l<=40
 .have h:=AQr l b;exact zAj
 .exact zAj
def py(d:Bd)(A8:Au):Bool:=decide (U d.ac=U A8.ac)&&decide (U d.rules=U A8.rules)
def QQ:List Bd->List Au->Bool
 |d::ds,A8::us=>if py d A8 then QQ ds us else Z|_,_=>X
abbrev dA(d:Bd):y:=.agg [.d (.co (d.ac.map BW)),.d (.co (d.be.map BH)),.d (.co (d.rules.map BR))]
theorem AKx(d:Bd)(a:Au):Bq kT 139 [dA d,uA a] []=.ok (.ret (.d (.bool (py d a))),[]):=by
 have b:decide ((U d.ac:Int)=(U a.ac:Int))=decide (U d.ac=U a.ac):=decide_eq_decide.2 z;have c:decide ((U d.rules:Int)=(U a.rules:Int))=decide (U d.rules=U a.rules):=decide_eq_decide.2 z;refine BM func139 ?_
 (repeat' (first|simp only[*,go_sem]|(refine sx ?_ ?_<;>intro e)|refine sy z λh g f=>?_|simp(disch:=first|assumption|omega) only[Ad]))
 all_goals simp only[py]
 all_goals grind
attribute [go_sem] AKx
def AKw(b:List Bd)(a:List Au)(r:U b<=1000000):Bq kT 138 [.d (.co (b.map Bw)),Dv a,.fn 139 [] []] []=.ok (.ret (.d (.bool (decide (U b=U a)&&QQ b a))),[]):=by
 by_cases g:U b=U a
 .rw[GO g,Jp];have j:((U b:Int)=(U a:Int)):=z;replace g:=AB g;refine BM func138 ?_;refine aw ?_;refine Aj b (B0:=λe (_:Unit)=>⟨[(1,Dv a),(2,.fn 139 [] []),(15,.d (.co (b.map Bw))),(16,nI (U a)),(17,nI e)],[],0,[]⟩)
   (Inv:=λe o _=>AR (QQ o (a.drop e)=QQ b a)) (b0:=()) ⟨AG⟩ ?_ ?_
  .rintro e p _ s m k h l;have t:SE.wrap ((e:Int)+1)=(e:Int)+1:=w_ z z;have c:=h.1;obtain⟨i,n⟩:∃i,a[e]?=J i:=⟨_,CI (by have:=g.1;omega)⟩;have q:(e:Int)<(U a:Int):=by have:=g.1;omega
   rw[EY n]at c;rcases hxy:py p i with _|_
   .have f:QQ b a=false:=by rw[<-c];simp[QQ,hxy]
    clear c;rw[f];replace f:=AB f;exact au
   .simp[QQ,hxy]at c;replace c:=AB c;exact aw (l.1 () c)
  .rintro e _ m k h;rw[j]at k;have c:=h.1;have f:QQ b a=true:=by rw[<-c];rfl
   clear c;rw[f];replace f:=AB f;exact au
 .rw[I6 g,F8];have j:¬((U b:Int)=(U a:Int)):=z;refine BM func138 ?_;exact au
def vX(p:Aa)(T:List Au):Bool:=decide (U p.defs=U T)&&QQ p.defs T
def dN(a:Aa)(b:List Au)(c:U a.defs<=1000000):Bq kT 85 [pA a,Dv b] []=.ok (.ret (.d (.bool (vX a b))),[]):=by have e:=AKw a.defs b c;refine BM func85 ?_;refine aw ?_;rfl
def ALH{c:Aa}{a:Ay}{d:Bd}(i:0<=a.ip)(f:c.defs[a.ip.toNat]?=J d)(g:d.own<=(U a.env))(n:U a.env<=1000000){b:Int}(j:0<=b)(k:b<U d.ac):Bq kT 89 [pA c,.agg [nI a.ip,nI a.at_,.d (.co (a.env.map BC))],nI b] []=.ok (.ret (nI (a.own d X b)),[]):=by
 have h:=g;unfold Bd.own at h;have l:a.ip<U c.defs:=by have:=(BI.1 f).1;omega
 have q:SE.wrap ((U a.env:Int)-U d.ac)=(U a.env:Int)-U d.ac:=w_ z z;have r:SE.wrap ((U a.env:Int)-U d.ac-U d.be)=(U a.env:Int)-U d.ac-U d.be:=w_ z z;have s:SE.wrap ((U a.env:Int)-U d.ac-U d.be+b)=(U a.env:Int)-U d.ac-U d.be+b:=w_ z z;have o:0<=(U a.env:Int)-U d.ac-U d.be+b:=z;have p:(U a.env:Int)-U d.ac-U d.be+b<U a.env:=z;have m:((U a.env:Int)-U d.ac-U d.be+b).toNat=U a.env-U d.be-U d.ac+b.toNat:=z;have⟨v,hv⟩:=g_ (l:=a.env) (i:=U a.env-U d.be-U d.ac+b.toNat) z;have e:a.own d X b=v.n:=by rw[Ay.own];simp[hv]
 rw[e];refine BM func89 ?_;exact au
def AO1(k:Nat)(b:k<=1000000):(BitVec.ofInt 64 (k:Int)&&&BitVec.ofInt 64 4294967295).toNat=k:=by have a:BitVec.ofInt 64 (k:Int)=BitVec.ofNat 64 k:=BitVec.ofInt_natCast _ _;rw[a,show BitVec.ofInt 64 4294967295=BitVec.ofNat 64 (2 ^ 32-1)from rfl,BitVec.toNat_and,BitVec.toNat_ofNat,BitVec.toNat_ofNat,Nat.mod_eq_of_lt (a:=k) z,Nat.mod_eq_of_lt (a:=2 ^ 32-1) Af,Nat.and_two_pow_sub_one_eq_mod,Nat.mod_eq_of_lt z]
theorem AGT(k:Nat)(p:k<=1000000):Bq kT 205 [.d (.int .u64 1),.d (.int .u64 (k:Int))] []=.ok (.ret (.kw [.d (.int .u64 0),.d (.int .u64 (k:Int))]),[]):=by
 have j:=AO1 k p;have l:(BitVec.ofInt 64 1&&&BitVec.ofInt 64 4294967295).toNat=1:=Af;have m:(BitVec.ofInt 64 0&&&BitVec.ofInt 64 4294967295).toNat=0:=Af;have c:(k:Int).fdiv (2 ^ min 32 64)=0:=by rw[Int.fdiv_eq_ediv_of_nonneg _ Af];exact Int.ediv_eq_zero_of_lt z zCI
 have e:Int.fdiv 1 (2 ^ min 32 64)=0:=Af;have f:Int.fdiv 0 (2 ^ min 32 64)=0:=Af;have g:IntKind.u64.wrap 0=0:=Af;have h:IntKind.u64.wrap 1=1:=Af;have a:IntKind.u64.wrap (k:Int)=k:=by rw[IntKind.wrap];simp[IntKind.signed,IntKind.bits];omega
 have b:((1:Nat):Int)=1:=rfl;have i:((0:Nat):Int)=0:=rfl;replace j:=AB j;replace l:=AB l;refine xp ?_ m c e f g h a i b;clear m c e f g h a i b;intro m c e f g h a i b;refine BM func205 ?_;refine aw ?_;have q:∀n:Nat,n=k->IntKind.u64.wrap (n:Int)=k:=λn o=>by rw[o,a.1]
 erw[j.1,l.1]
 simp only[g.1,h.1,a.1,b.1,c.1,e.1,f.1,Int.zero_mul,Int.one_mul,Int.add_zero,Int.zero_add];exact Ba
def y5(k:Nat)(a:k<=1000000):Bq kT 192 [.d (.int .u64 1),.d (.int .u64 (k:Int))] []=.ok (.ret (.kw [.d (.int .u64 0),.d (.int .u64 (k:Int))]),[]):=by have b:=AGT k a;refine BM func192 ?_;exact au
abbrev nX:TI:={kind:=TK.slice,size:=1,agg:=Z,str:=Z,zero:=[y.d9],flds:=[],elem:=108,key:=0,mix:=Z}
def sH(b:G)(a:u)(e:0<k)(c:b a=J (.f8 1 ((Sm k (0:Int)).map AX))):JV cfg.T b (J nX) (.ii a 0 k) (.d (.co [[.int .i64 1]]))=J ⟨(nI 1),[(a,.f8 1 ((Sm 1 (1:Int)++Sm (k-1) 0).map AX))]⟩:=by obtain⟨m,rfl⟩:∃m,k=m+1:=⟨k-1,z⟩;simp[JV,lQ,J7,C9,Ur,c,Xz,bM,DD,List.replicate_succ,AX]
theorem AEV(l:Al):Xz ((l.map AX).map λa=>a.map y.d)=J (l.map AX):=by induction l with|nil=>rfl|cons c l b=>grind [Xz,bM,AX]
def zj(c:G)(b:u){a m:Nat}(p:0<a)(o:0<m)(f:c b=J (.f8 1 ((Sm a (1:Int)++Sm m 0).map AX))):JV cfg.T c (J nX) (.ii b a m) (.ii b 0 a)=J ⟨(nI ((min a m:Nat):Int)),[(b,.f8 1 ((Sm (a+min a m) (1:Int)++Sm (m-min a m) 0).map AX))]⟩:=by
 have g:((Sm a (1:Int)++Sm m 0).map AX).take (min a m)=(Sm (min a m) (1:Int)).map AX:=by rw[<-No,IP BP,List.take_replicate];congr 2;omega
 have h:C9 c (.ii b 0 (min a m))=J (((Sm (min a m) (1:Int)).map AX).map λe=>e.map y.d):=by simp only[C9,f,Ri,GC,Kj];rw[D4 BP,List.drop_zero,<-No,g]
 have i:DD ((Sm a (1:Int)++Sm m 0).map AX) a ((Sm (min a m) (1:Int)).map AX)=J ((Sm (a+min a m) (1:Int)++Sm (m-min a m) 0).map AX):=by unfold DD;rw[D4 BP];simp only[Ap,LM,IN,F1];rw[IP AG,Bv AG,List.drop_append,List.drop_of_length_le AG,IN,Mt,List.drop_replicate,Cs,List.replicate_append_replicate]
 have k:((Sm (min a m) (1:Int)).map AX).length=min a m:=AG;have l:J7 c m (.ii b 0 a)=C9 c (.ii b 0 (min a m)):=rfl;have n:∀e∈(Sm (min a m) (1:Int)).map AX,U e=1:=λe j=>by obtain⟨q,_,rfl⟩:=EX.1 j;rfl
 simp only[JV,lQ,l,h,Ur,f,AEV,k,i,Gs];grind
def zk(g:G):JV cfg.T g (J nX) .emp (.d (.co [[.int .i64 1]]))=J ⟨(nI 0),[]⟩:=by simp[JV,lQ,J7,C9]
theorem q_8(b:G)(a:u){n:Nat}(c:0<k)(g:n<=k){l:Al}(f:U l=k)(e:b a=J (.f8 1 (l.map AX))):Ga b .slice 1 (.ii a 0 k) (J (nI n)) I I=J (.ii a n (k-n)):=by simp only[Ga,GB,Jq,Ki];grind [Nat.beq,Nat.ble_eq,Nat.blt_eq,O2,fP]
theorem q_9(b:G)(a:u){n:Nat}(c:0<k)(g:n<=k){l:Al}(f:U l=k)(e:b a=J (.f8 1 (l.map AX))):Ga b .slice 1 (.ii a 0 k) I (J (nI n)) I=J (.ii a 0 n):=by simp only[Ga,GB,Jq,Ki];grind [Nat.beq,Nat.ble_eq,Nat.blt_eq,O2,fP]
theorem ANS(k:Nat)(h:k<=1000000):Bq kT 174 [.d (.co [AX 1]),nI k] []=.ok (.ret (.d (.co ((Sm k (1:Int)).map AX))),[]):=by
 have F:IntKind.u64.wrap 1=1:=Af;by_cases o:k=0
 .have v:Bq kT 192 [.d (.int .u64 1),.d (.int .u64 0)] []=.ok (.ret (.kw [.d (.int .u64 0),.d (.int .u64 0)]),[]):=y5 0 z;have D:IntKind.u64.wrap 0=0:=Af;subst o;clear h;have e:=zk;refine BM func174 ?_;refine aw (rounds (B0:=λ_:Unit=>⟨[(7,.emp),(8,nI 0)],[],0,[]⟩) (Inv:=λ_=>True) (m:=λ_=>0) (a:=()) trivial ?_);intro _ _ _;exact au
 .have t:=y5 k h;have K:IntKind.u64.wrap (k:Int)=k:=by rw[IntKind.wrap];simp[IntKind.signed,IntKind.bits];omega
  have H:SE.wrap (k:Int)=k:=w_ z z;have x:¬(k:Int)<0:=z;have A:¬9223372036854775807<(k:Int):=z;have g:0<k:=z;have e:=λb p=>sH b p g;refine BM func174 ?_
  (repeat' (first|simp only[*,go_sem]|(refine sx ?_ ?_<;>intro e)|refine sy z λM w i=>?_|simp(disch:=first|assumption|omega) only[Ad,Dm]))
  refine rounds (B0:=λa:Nat=>⟨[(7,.ii [1,0] 0 k),(8,nI a)],[([1,0],.f8 1 ((Sm a (1:Int)++Sm (k-a) 0).map AX))],1,[]⟩) (Inv:=λa=>0<a/\a<=k) (m:=λa=>k-a) (a:=1) ⟨z,z⟩ ?_;rintro a ⟨n,j⟩ l;by_cases f:a=k
  .have m:¬(a:Int)<(k:Int):=z;subst f;have q:Sm (a-a) (0:Int)=[]:=AG;have r:(Sm a (1:Int)).length=a:=AG;have s:((Sm a (1:Int)).map AX).take a=(Sm a (1:Int)).map AX:=Bv AG;exact au
  .have m:(a:Int)<(k:Int):=z;have i:0<k-a:=z;have e:=λb c=>zj b [1,0] n i c;have C:=λb c=>q_8 b [1,0] g j (l:=Sm a (1:Int)++Sm (k-a) 0) BP c;have B:=λb c=>q_9 b [1,0] g j (l:=Sm a (1:Int)++Sm (k-a) 0) BP c;have L:SE.wrap ((a:Int)+((min a (k-a):Nat):Int))=((a+min a (k-a):Nat):Int):=w_ z z;replace f:=AB f;refine aw ?_;rw[Nat.sub_sub];exact l.1 (a+min a (k-a)) z ⟨z,z⟩
def zl(l:Al):Int:=match l with|[]=>0|x::l=>l.foldl min x
def lf:∀(l:Al) (a:Int),l.foldl min a<=a/\(∀c∈l,l.foldl min a<=c)/\(l.foldl min a=a\/l.foldl min a∈l)
 |[],a=>AG|c::l,a=>by
  have⟨h1,h2,b⟩:=lf l (min a c);rw[Ok];refine⟨z,λf e=>?_,?_⟩
  .rcases DO.1 e with rfl|e
   .omega
   .exact h2 f e
  .rcases b with b|b
   .by_cases g:a<=c
    .exact .inl z
    .exact .inr (DO.2 (.inl z))
   .exact .inr (Bi _ b)
def min_zero{l:u}(g:0<U l):zl (l.map λ(b:Nat)=>(b:Int))=0↔0∈l:=by
 rcases l with _|⟨e,l⟩
 .simp at g
 .have⟨h1,h2,a⟩:=lf (l.map λ(b:Nat)=>(b:Int)) (e:Int);have f:zl ((e::l).map λ(b:Nat)=>(b:Int))=(l.map λ(b:Nat)=>(b:Int)).foldl min (e:Int):=rfl;rw[f];constructor
  .intro c;rw[c]at a;rcases a with a|a
   .have:e=0:=z;simp[this]
   .have⟨A9,hy,e2⟩:=EX.1 a;have:A9=0:=z;subst this;exact Bi _ hy
  .intro c;have h:0<=(l.map λ(b:Nat)=>(b:Int)).foldl min (e:Int):=by
    rcases a with a|a
    .omega
    .have⟨A9,hy,e2⟩:=EX.1 a;omega
   rcases DO.1 c with c|c
   .omega
   .have:=h2 0 (EX.2 ⟨0,c,rfl⟩);omega
inductive XM:u->Al->Prop where
 |nil:XM [] []
 |cons {n:Nat} {l:u} {d:Int} {c:Al}:0<=d->d<n->XM l c->XM (n::l) (d::c)
def XM.len{l:u}{a:Al}(b:XM l a):U a=U l:=by induction b with|nil=>rfl|cons _ _ _ c=>simp[c]
def Zr(c:u)(a:u):Prop:=∃b l,a=1::b::l/\AE c l=X
def Ru(a:u)(b:Nat)(i:u):Prop:=∃n,n<b/\Zr (n::a) i
def Zr.up{c:u}{b:u}(a:Zr c b):AE c b=true:=by obtain⟨e,l,rfl,a⟩:=a;obtain⟨f,rfl⟩:=q_a.1 a;exact q_a.2 ⟨1::e::f,rfl⟩
def Zr.out{n:Nat}{i:u}(h:Zr (n::a) i):Zr a i:=by obtain⟨j,l,rfl,h⟩:=h;exact⟨j,l,rfl,Bt h⟩
def Zr.not{g:Nat}{c:u}(b:Zr (g::a) c)(e m:Nat):AJ (e::m::a) c=false:=AI λf=>by obtain⟨h,l,rfl,b⟩:=b;obtain⟨i,rfl⟩:=q_a.1 b;have:=congrArg U f;simp at this;omega
def Zr.sib{c m:Nat}{b:u}(e:Zr (c::a) b)(f:¬c=m):AE (m::a) b=false:=by
 rcases hx:AE (m::a) b with _|_
 .rfl
 .exact absurd (CA e.up hx) f
def Ru.up{i:u}(h:Ru a b i):Zr a i:=by obtain⟨n,_,h⟩:=h;exact h.out
def Ru.not{f:u}(c:Ru a b f)(e m:Nat):AJ (e::m::a) f=false:=by obtain⟨g,_,c⟩:=c;exact c.not e m
def Ru.sib{m:Nat}{e:u}(c:Ru a b e)(g:b<=m):AE (m::a) e=false:=by obtain⟨h,f,c⟩:=c;exact c.sib z
theorem Ru.mono{e:Nat}{f:u}(c:Ru a b f)(i:b<=e):Ru a e f:=by obtain⟨g,h,c⟩:=c;exact⟨g,z,c⟩
def AIY{c:Type}(k:u->Prop)(m:List c->(u->Prop)->S->Prop)(D:BG->S->Prop)(a h:u)(l:List c)(M:u->Prop)(j:List u)(H:S)(g:BG)(e:S):Prop:=(g=.ret (.d (.bool (X)))/\∃i,m l i e/\(∀b,i b->M b\/b∈j\/Zr h b)/\∀b,¬k b->¬M b->b∉j->AE h b=Z->e.get b=H.get b)\/((g=.ret (.d (.bool (Z)))\/∃n,g=.of n)/\D g e/\∀f,AE a (0::f)=X->AE h (0::f)=Z->e.get (0::f)=H.get (0::f))
structure iy{α:Type}(val:S->y->α->Prop)(id:u)(C:u->Prop)(Ai:List α->(u->Prop)->S->Prop)(D:BG->S->Prop)(π:u):Prop:=
 own:C id
 apart:∀i,C i->AE π i=Z
 tag:∀{l:List α} {M:u->Prop} {H:S},Ai l M H->∀i,M i->∃l,i=1::l
 loop:∀{l:List α} {M:u->Prop} {H:S},Ai l M H->∃r,H.get id=J (.loop r)
 eat:∀{x:α} {l:List α} {M:u->Prop} {H:S} {ρ:u} {v:y} {r:Lp},Ai (x::l) M H->H.get id=J (.loop r)->val H v x->(∀i,AE π i=Z->AE ρ i=Z)->(∀i,M i->AE ρ i=Z)->(∀i∈AD v,¬C i/\AE ρ i=Z/\Zr π i)->
  ∃o h',kT (.round id r) [v] H ρ X I=.ok (o,h')/\AIY C Ai D π ρ l M (AD v) H o h'
 same:∀{l:List α} {M:u->Prop} {H H':S},Ai l M H->(∀i,(AE π i=Z\/M i)->H'.get i=H.get i)->Ai l M H'
 sameD:∀{o:BG} {H H':S},D o H->(∀i,(AE π i=Z\/∃l,i=1::l)->H'.get i=H.get i)->D o H'
def iy.gcI{val:S->y->c->Prop}{k:u}{i:u->Prop}{e:List c->(u->Prop)->S->Prop}{D:BG->S->Prop}(g:iy val k i e D a){M:u->Prop}(f:e l M H)(h:Nat):e l M (gc (h::a) H):=g.same f λj b=>by
 rcases b with b|b
 .exact An _ _ _ (AL b h)
 .obtain⟨l,rfl⟩:=g.tag f j b;exact FC _ _ _
def AOA(H:S)(c:y)(b:Al):Prop:=∃a,c=.ii a 0 (U b)/\H.get a=J (.f8 1 (b.map AX))/\∃l,a=1::l
end Go.Proofs
namespace Go.Abs
def aW(a:List Df):Prop:=∀d∈a,∃b,d=.mark b
def ABa:aW []=True:=by simp[aW]
def uK(b:u)(a:List Df):aW (.mark b::a)=aW a:=by simp[aW]
def WB{e:DH}{ci:Option u}{c:Option y}{b:S}:∀{a:List Df},aW a->EP e ci a c b=.ok (c,b)
 |[],_=>rfl|d::a,hd=>by obtain⟨g,rfl⟩:=hd d AG;rw[Ym];exact WB λd f=>hd d zDB
attribute [go_sem] ABa uK WB
theorem zZ(a:u):(y.yld a).cells=[.yld a]:=rfl
theorem AEF(a:u):y.q_b (.yld a)=true:=rfl
attribute [go_sem] zZ AEF
end Go.Abs
namespace Go.Proofs
open Abs Tryz
def AOI(H:S)(c:y)(a:Dp):Prop:=∃b,c=.agg [nI a.wait,nI a.group,nI a.pp,b]/\((b=.d9/\a.picks=[])\/AOA H b a.picks)
def Nt(e:u)(b:u):Prop:=∀a c,AJ (a::c::e) b=Z
def Fd{c:Type}(e:List c->(u->Prop)->S->Prop)(h:u)(M:u->Prop)(f:Nat)(L:List c)(g:S):Prop:=∃b,e L b g/\∀a,b a->M a\/Ru h f a
section
variable{f:Type}{val:S->y->f->Prop}{h:u}{C M c:u->Prop}{e:List f->(u->Prop)->S->Prop}{D:BG->S->Prop}{a:u}{b i:Nat}{L:List f}{g G:S}
theorem Zr.wide{e:u}{b:u}(h:∀b,AE a b=Z->AE e b=Z)(c:Zr e b):Zr a b:=by obtain⟨f,g,rfl,c⟩:=c;refine⟨f,g,rfl,?_⟩;grind
def ANG(i:∀e,M e->AE a e=Z)(h:∀e,c e->M e\/Ru a b e)(e:u)(f:AE a e=Z\/c e):Nt a e:=by
 rcases f with f|f
 .exact AN f
 .rcases h e f with g|g
  .exact AN (i e g)
  .exact g.not
def Fd.mv(n:iy val h C e D a)(o:∀f,M f->AE a f=Z)(l:Fd e a M b L g)(q:∀f,Nt a f->G.get f=g.get f)(p:b<=i):Fd e a M i L G:=by obtain⟨c,m,k⟩:=l;exact⟨c,n.same m λf j=>q f (ANG o k f j),λf j=>(k f j).imp_right λr=>r.mono p⟩
theorem Fd.gc(l:iy val h C e D a)(i:Fd e a M b L g)(f:Nat):Fd e a M b L (gc (f::a) g):=by obtain⟨c,j,k⟩:=i;exact⟨c,l.gcI j f,k⟩
end
structure StepsIn(C M:u->Prop)(π:u)(h:S)(id:u)(E:S->Prop)(g:S):Prop:=
 box:g.get (0::0::π)=J (.box [.yld id])
 eat:E g
 frame:∀i,¬C i->¬M i->AE π i=Z->g.get i=h.get i
structure ym(C M:u->Prop)(π:u)(h:S)(id:u)(b c:Nat)(i k:Int)(gr:Ay)(E:S->Prop)(g:S):Prop:=
 st:StepsIn C M π h id E g
 x6:g.get (0::(b+20)::π)=J (.box [nI i])
 x7:g.get (0::(b+21)::π)=J (.box [nI gr.ip,nI gr.at_,.d (.co (gr.env.map BC))])
 x8:g.get (0::(c+40)::π)=J (.box [nI k])
def ym.loc{g M:u->Prop}{h:List Dp->(u->Prop)->S->Prop}{D:BG->S->Prop}{b:u}{q:S}{k:u}(t:iy AOI k g h D b)(v:∀a,M a->AE b a=Z){n o B:Nat}{a r:Int}{p:Ay}{L:List Dp}{i H:S}(c:ym g M b q k n o a r p (Fd h b M B L) i)(j:∀m,(∀e,AJ (1::e::b) m=Z)->H.get m=i.get m):ym g M b q k n o a r p (Fd h b M B L) H:=by have f:∀l,H.get (0::l)=i.get (0::l):=λl=>j _ λe=>AI AG;exact⟨⟨(f _).trans c.st.box,c.st.eat.mv t v (λa w=>j a λe=>w 1 e) (D2 _),λa A x s=>(j a λe=>AN s 1 e).trans (c.st.frame a A x s)⟩,(f _).trans c.x6,(f _).trans c.x7,(f _).trans c.x8⟩
def ym.mv{h M:u->Prop}{e:u}{m:S}{n:u}{f i:Nat}{a o:Int}{l:Ay}{E k:S->Prop}{j H:S}(c:ym h M e m n f i a o l E j)(s:k H)(g:∀b,b=0\/b=f+20\/b=f+21\/b=i+40->H.get (0::b::e)=j.get (0::b::e))(t:∀a,¬h a->¬M a->AE e a=Z->H.get a=j.get a):ym h M e m n f i a o l k H:=⟨⟨(g _ AG).trans c.st.box,s,λa q p r=>(t a q p r).trans (c.st.frame a q p r)⟩,(g _ AG).trans c.x6,(g _ AG).trans c.x7,(g _ AG).trans c.x8⟩
end Go.Proofs
namespace Go.Proofs
open Abs Tryz
abbrev cB(c:Int×Int):y:=.agg [nI c.1,nI c.2]
structure Lh(es:List (Ar×y))(e:BJ):Prop:=
 get:∀i,CD es (.int .i64 i)=J ((HG e i).map cB)
 ent:es.all JB=X
 nd:(es.map λq=>Yh q.1).Nodup
structure TV:=
 N:u
 ms:List u
 hv:y
def TV.ids(V:TV)(B:u):List u:=B::V.N::(V.ms++AD V.hv)
structure Dh(p:Aa)(sz:Al)(D:List BJ)(hs:Al)(g:S)(B:u)(V:TV):Prop:=
 box:g.get B=J (.box [.d (.co (p.free.map CK)),.d (.co (p.nodes.map Bl)),.d (.co (p.defs.map Bw)),nI p.main,.ii V.N 0 (U V.ms),.d (.co (sz.map AX)),V.hv])
 arr:g.get V.N=J (.arr 1 (V.ms.map λm=>[.mp m]))
 len:U V.ms=U p.nodes
 maps:∀(n:Nat) m,V.ms[n]?=J m->∃es,g.get m=J (.map es)/\Lh es ((D[n]?).getD [])
 heads:Ub g 1 V.hv (hs.map AX)
def Sr(b:u)(B:u)(V:TV):Prop:=∀a∈V.ids B,AE b a=Z
def yP{e f:S}{i:Nat}{b:y}{c:List (List Ar)}(a:Ub e i b c)(j:∀g∈AD b,f.get g=e.get g):Ub f i b c:=by
 rcases a with(a|⟨h,k,rfl,a⟩)|a
 .exact .inl (.inl a)
 .exact .inl (.inr ⟨h,k,rfl,by rw[j h Az];exact a⟩)
 .exact .inr a
section
variable{p:Aa}{b:Al}{D:List BJ}{e:Al}{g g':S}{B:u}{V:TV}{a:u}
theorem Dh.mono(h:Dh p b D e g B V)(hi:∀i∈V.ids B,g'.get i=g.get i):Dh p b D e g' B V where
 box:=by rw[hi B zCL];exact h.box
 arr:=by rw[hi V.N zCL];exact h.arr
 len:=h.len
 maps n m hm:=by rw[hi m (by simp[TV.ids,AP hm])];exact h.maps n m hm
 heads:=yP h.heads λi hi2=>hi i (by simp[TV.ids,hi2])
def Sr.ext(c:Sr a B V)(b:Nat):Sr (b::a) B V:=λi e=>AL (c i e) b
def Dh.new(f:Dh p b D e g B V)(j:Sr a B V)(i:∀c,Nt a c->g'.get c=g.get c):Dh p b D e g' B V:=f.mono λc h=>i c (AN (j c h))
def qZ(i:Dh p b D e g B V)(r:Sr a B V){c:Int×Int}{d:Bd}{ch:HV}{f:Int}{h:CQ}(K:0<=c.1)(L:0<=c.2)(k:p.defs[c.1.toNat]?=J d)(j:d.ac[c.2.toNat]?=J ch)(N:0<=f)(s:p.nodes[f.toNat]?=J h):
 ∃l q,kT (.fn 197) [.ptr B 0,cB c,nI f] g a X (J a)=.ok (l,q)/\l=.ret (.d (.bool (Nb p c h))):=by
 have m:=r B zCL;have x:=AN m;have A:=Av m;have M:=i.box;have t:=l_ k;have v:=l_ j;have w:=l_ s;have C:c.1<U p.defs:=z;have F:c.2<U d.ac:=z;have H:f<U p.nodes:=z;have n:R2 p c=J ch:=by rw[R2,k];exact j
 have o:Nb p c h=decide (ch.many=(U h.args:Int)):=by rw[Nb,n];rfl
 rw[o];replace i:=AB i;clear t v w;refine Bf func197 ?_;exact af
def UG{g:S}{h:y}{e:Al}(a:Ub g 1 h (e.map AX)){f:Nat}{i:Int}(b:e[f]?=J i):∃c j,h=.ii c 0 (U e)/\g.get c=J (.f8 1 j)/\j[f]?=J (AX i):=by
 have k:=l_ b;rcases a with(⟨_,a⟩|⟨c,l,rfl,a⟩)|⟨_,a⟩
 .rw[D7]at a;subst a;simp at b
 .exact⟨c,_,by rw[BV],a,by rw[D8 zCX,Be,b];rfl⟩
 .rw[D7]at a;subst a;simp at b
def Ve(f:Dh p b D e g B V)(q:Sr a B V){d c h i:Int}(A:0<=d)(j:e[d.toNat]?=J h)(C:0<=h)(r:b[h.toNat]?=J i)(k:i64 (i+c)):
 ∃l n,kT (.fn 137) [.ptr B 0,nI d,nI c] g a X (J a)=.ok (l,n)/\l=.ret (nI (i+c)):=by
 have m:=q B zCL;have t:=AN m;have v:=Av m;have o:=f.box;have⟨id,xs,hv,hg,hx⟩:=UG f.heads j;have F:=l_ j;have s:=l_ r;have H:=l_ hx;rw[hv]at o;have w:d<U e:=z;have x:h<U b:=z;have K:=w_ k.1 k.2;replace f:=AB f;clear s;refine Bf func137 ?_;exact af
end
def LR(a b:Nat):Prop:=2<=b\/a<=b
theorem Eg(a:Nat):LR a a:=.inr (D2 a)
theorem Ha{a b:Nat}(h:a<=b):LR a b:=.inr h
theorem C3{a b c:Nat}(e:LR a b)(f:LR b c):LR a c:=by unfold LR at*;omega
theorem HL{a b c d:Nat}(e:LR a b)(f:LR c d):LR (a+c) (b+d):=by unfold LR at*;omega
def Rp(k:Int):Nat:=(NF k).toNat
theorem ER(k:Int):0<=NF k/\NF k<=2:=by grind [NF]
theorem uo(k:Int):Rp k<=2:=by have:=ER k;unfold Rp;omega
theorem Ql{a b:Int}(c:0<=a)(e:0<=b):0<=IE a b/\IE a b<=2:=by grind [IE]
theorem Qk{a b:Int}(c:0<=a)(e:0<=b):LR (a.toNat+b.toNat) (IE a b).toNat:=by grind [IE,LR]
theorem rh{a b:Int}(c:0<=a/\a<=2)(e:0<=b/\b<=2):(0<=Ke a b/\Ke a b<=2)/\LR (a.toNat*b.toNat) (Ke a b).toNat:=by grind [Ke,LR]
theorem Xm{a b:Int}(c:0<=a/\a<=2)(e:0<=b/\b<=2):0<=Fq a b/\Fq a b<=2:=by grind [Fq]
def aS(b:Nat->Nat)(a:Int):Nat->List CC->Nat
 |_,[]=>0|i,e::l=>(if e.op=2/\e.n=a then b i else 0)+aS b a (i+1) l
def Pd(a:List Au)(e:Option (Int×Int))(c:Nat):Nat:=match e with|some b=>Rp (FP a b c)|none=>2
theorem Lb{T:List Au}{to:Option (Int×Int)}{pl:Int}:∀{l:List CC} {i:Nat} {a:Int},0<=a->a<=2->(0<=HB T to pl i l a/\HB T to pl i l a<=2)/\LR (a.toNat+aS (Pd T to) pl i l) (HB T to pl i l a).toNat
 |[],i,a,h0,h2=>by rw[HB,aS];grind [Eg]|e::l,i,a,h0,h2=>by
  rw[HB,aS];split
  .rcases to with _|b
   .rw[pq,Pd];have⟨h3,h4⟩:=Lb (T:=T) (to:=I) (pl:=pl) (l:=l) (i:=i+1) (a:=2) z z;grind [LR]
   .rw[pq,Pd];have f:=ER (FP T b i);have c:=Ql h0 f.1;have⟨h3,h4⟩:=Lb (T:=T) (to:=J b) (pl:=pl) (l:=l) (i:=i+1) c.1 c.2;refine⟨h3,C3 ?_ h4⟩;rw[<-Rt];exact HL (Qk h0 f.1) (Eg _)
  .have⟨h3,h4⟩:=Lb (T:=T) (to:=to) (pl:=pl) (l:=l) (i:=i+1) h0 h2;grind
def ACW(c:Aa)(a:List Au)(D:List BJ)(b:Int)(f:CQ)(e:Int):0<=KV c a D b f e/\KV c a D b f e<=2:=by
 rw[KV];split
 .split
  .exact(Lb zCh zCh).1
  .omega
 .exact(Lb zCh zCh).1
theorem UI{f:Int->Int}(c:∀b,0<=f b/\f b<=2):∀{l:Al} {a:Int},0<=a->a<=2->(0<=O5 f l a/\O5 f l a<=2)/\LR (a.toNat+(l.map λb=>(f b).toNat).sum) (O5 f l a).toNat
 |[],a,h0,h2=>by grind [O5,Ha]|k::l,a,h0,h2=>by rw[O5,By,List.sum_cons];have e:=Ql h0 (c k).1;have⟨h3,h4⟩:=UI c (l:=l) e.1 e.2;refine⟨h3,C3 ?_ h4⟩;grind [HL,Qk,Eg]
def LH(g:Int->Nat)(A8:Nat->Nat):Nat->List DI->Nat
 |_,[]=>0|i,r::l=>A8 i*g r.node+LH g A8 (i+1) l
theorem ZU{f:Int->Int}(e:∀b,0<=f b/\f b<=2){T:List Au}{d:Int}:∀{l:List DI} {i:Nat} {a:Int},0<=a->a<=2->(0<=Ox f T d i l a/\Ox f T d i l a<=2)/\LR (a.toNat+LH (λb=>(f b).toNat) (λi=>Rp (Bc T d i)) i l) (Ox f T d i l a).toNat
 |[],i,a,h0,h2=>by rw[Ox,LH];grind [Eg]|r::l,i,a,h0,h2=>by rw[Ox,LH];have c:=rh (ER (Bc T d i)) (e r.node);have g:=Ql h0 c.1.1;have⟨h3,h4⟩:=ZU e (T:=T) (d:=d) (l:=l) (i:=i+1) g.1 g.2;refine⟨h3,C3 ?_ h4⟩;rw[<-Rt];refine HL (C3 ?_ (Qk h0 c.1.1)) (Eg _);exact HL (Eg _) c.2
def J1(g:Aa)(e:List Au)(D:List BJ):∀(c:Nat) (f b:Int),0<=Ca g e D c f b/\Ca g e D c f b<=2
 |0,f,b=>by rw[Ca];omega|c+1,f,b=>by
  have a:=λf=>J1 g e D c f b;rw[Ca];split
  .split
   .exact ACW ..
   split
   .exact Ql (a _).1 (a _).1
   split
   .exact Xm (a _) (a _)
   split
   .exact a _
   split
   .rw[Kh];split
    .exact(ZU (f:=λh=>Ca g e D c h b) a (UI (f:=λh=>Ca g e D c h b) a (a _).1 (a _).2).1.1 (UI (f:=λh=>Ca g e D c h b) a (a _).1 (a _).2).1.2).1
    .omega
   .omega
  .omega
def sS(a:Aa)(b:List Au)(D:List BJ)(c e:Int):Int:=Ca a b D (U a.nodes+1) c e
def sN(p:Aa)(T:List Au)(D:List BJ)(n:Int)(i:Nat):Nat:=(sS p T D n i).toNat
theorem VY(c:Aa)(a:List Au)(D:List BJ)(b e:Int):0<=sS c a D b e/\sS c a D b e<=2:=J1 ..
section
variable{p:Aa}{e:Al}{T:List Au}{D:List BJ}{n:Int}{x:CQ}
def xI(b:Dz p)(a:0<=n)(c:p.nodes[n.toNat]?=J x):∀e∈HC p n,UX p (U p.nodes) e:=(b.dep n a (by have:=l_ c;omega)).2.2
theorem UF(l:Ao p e)(o:Dz p)(m:0<=n)(k:p.nodes[n.toNat]?=J x)(f:Int):sS p T D n f=
 if x.op=2 then KV p T D n x f
  else if x.op=3 then IE (sS p T D (DW x 0) f) (sS p T D (DW x 1) f)
  else if x.op=5 then Fq (sS p T D (DW x 0) f) (sS p T D (DW x 1) f)
  else if x.op=6\/x.op=8 then sS p T D (DW x 0) f
  else if x.op=4 then Kh (λr=>sS p T D r f) p T x else 0:=by
 have i:=Hy l k;have h:∀j∈HC p n,Ca p T D (U p.nodes) j f=sS p T D j f:=λj q=>(ZX l T D f (xI o m k j q) (T6 _)).symm;rw[sS,Ca,k];dsimp only;split
 .rfl
 split
 .rename_i g;have⟨a,b⟩:=i.two (.inl g);rw[h _ a,h _ b]
 split
 .rename_i g;have⟨a,b⟩:=i.two (.inr g);rw[h _ a,h _ b]
 split
 .rename_i g;rw[h _ (i.one g)]
 split
 .rename_i g;have⟨d,hd,a,b,c⟩:=i.defn g;grind [Kh,Zg,ZT]
 .rfl
theorem ANX(c:Ao p e)(f:Dz p)(b:0<=n)(h:p.nodes[n.toNat]?=J x)(g:x.op=3)(a:Nat):LR (sN p T D (DW x 0) a+sN p T D (DW x 1) a) (sN p T D n a):=by rw[sN,sN,sN,UF c f b h,Co z,D4 g];exact Qk (VY ..).1 (VY ..).1
theorem APA(c:Ao p e)(f:Dz p)(b:0<=n)(h:p.nodes[n.toNat]?=J x)(g:x.op=5)(a:Nat):LR (sN p T D (DW x 0) a) (sN p T D n a)/\LR (sN p T D (DW x 1) a) (sN p T D n a):=by rw[sN,sN,sN,UF c f b h,Co z,Co z,D4 g];grind [Fq,LR]
theorem AO9(c:Ao p e)(f:Dz p)(b:0<=n)(h:p.nodes[n.toNat]?=J x)(g:x.op=6\/x.op=8)(a:Nat):sN p T D (DW x 0) a=sN p T D n a:=by grind [sN,UF]
theorem ANW(g:Ao p e)(h:Dz p)(f:0<=n)(m:p.nodes[n.toNat]?=J x)(k:x.op=4){d:Bd}(j:p.defs[x.n.toNat]?=J d)(i:Nat):
 LR (sN p T D (DW x 0) i+(d.be.map λq=>sN p T D q.node i).sum+LH (λa=>sN p T D a i) (λo=>Rp (Bc T x.n o)) 0 d.rules) (sN p T D n i):=by
 rw[sN,sN,UF g h f m,Co z,Co z,Co z,Co z,D4 k,Kh,j];dsimp only;have b:=λa=>VY p T D a i;have c:=UI (f:=λa=>sS p T D a i) b (l:=d.be.map Dy.node) (b (DW x 0)).1 (b (DW x 0)).2;have l:=ZU (f:=λa=>sS p T D a i) b (T:=T) (d:=x.n) (l:=d.rules) (i:=0) c.1.1 c.1.2;refine C3 (HL ?_ (Eg _)) l.2;refine C3 (Ha (Nat.le_of_eq ?_)) c.2;rw[Ol];rfl
theorem AKs(g:Ao p e)(h:Dz p)(f:0<=n)(j:p.nodes[n.toNat]?=J x)(i:x.op=2)(k:∀c,HG (den D n) x.n=J c->Nb p c x=X)(a:Nat):
 LR ((if x.n=a then 1 else 0)+aS (Pd T (HG (den D n) x.n)) a 0 x.args) (sN p T D n a):=by
 rw[sN,UF g h f j,D4 i,KV];have key:∀b,LR ((if x.n=a then 1 else 0)+aS (Pd T b) a 0 x.args) (HB T b a 0 x.args (if x.n=a then 1 else 0)).toNat:=λb=>by grind [Lb]
 grind
end
def wS(f:Nat->Nat)(C:Nat):Nat->List C8->Nat
 |_,[]=>0|i,v::l=>(if v=⟨3,(C:Int)⟩then f i else 0)+wS f C (i+1) l
theorem yd{f g:Nat->Nat}{C:Nat}(h:∀i,LR (f i) (g i)):∀{l:List C8} {i:Nat},LR (wS f C i l) (wS g C i l)
 :=by intro x;induction x<;>grind [Eg,wS,HL]
theorem Sg(f g:Nat->Nat)(C:Nat):∀(l:List C8) (i:Nat),wS (λi=>f i+g i) C i l=wS f C i l+wS g C i l
 :=by intro x;induction x<;>grind [wS]
theorem ye(C:Nat):∀(l:List C8) (i:Nat),wS (λ_=>0) C i l=0
 :=by intro x;induction x<;>grind [wS]
theorem ANl(c:Nat)(f:Nat->Nat)(C:Nat):∀(l:List C8) (i:Nat),wS (λi=>c*f i) C i l=c*wS f C i l
 :=by intro x;induction x<;>grind [wS]
theorem ic(f:Nat->Nat)(C:Nat):∀(l m:List C8) (i:Nat),wS f C i (l++m)=wS f C i l+wS f C (i+U l) m
 :=by intro x;induction x<;>grind [wS]
theorem O6{f:Nat->Nat}{C:Nat}:∀{l:List C8} {i:Nat},(∀v∈l,v≠⟨3,(C:Int)⟩)->wS f C i l=0
 :=by intro x;induction x<;>grind [wS]
theorem m6{f:Nat->Nat}{C:Nat}:∀{l:List C8} {i k:Nat},l[k]?=J ⟨3,(C:Int)⟩->f (i+k)<=wS f C i l
 |[],i,k,h=>by simp at h|v::l,i,0,h=>by grind [wS]|v::l,i,k+1,h=>by rw[Hm]at h;have:=m6 (f:=f) (i:=i+1) h;grind [wS]
def zz{f:Nat->Nat}{e:Nat}:∀{c:List C8} {a k:Nat},c[k]?=J ⟨3,(e:Int)⟩->(∀b,c[b]?=J ⟨3,(e:Int)⟩->b=k)->wS f e a c=f (a+k)
 |[],a,k,h,_=>by simp at h|g::c,a,0,h,hu=>by
  simp at h;rw[wS,D4 h,O6 λg l i=>?_]
  .rfl
  .obtain⟨b,j⟩:=Ce l;have:=hu (b+1) zCI;omega
 |g::c,a,k+1,h,hu=>by rw[Hm]at h;rw[wS,Co λi=>by grind [List.getElem?_cons_zero],zz h λb j=>by have:=hu (b+1) zCI;omega,I7,show a+1+k=a+(k+1) by omega]
def zv{h:Type}(c:h->Nat->Nat)(f:Nat)(g:List C8)(a:Nat):∀e:List h,wS (λa=>(e.map λb=>c b a).sum) f a g=(e.map λb=>wS (c b) f a g).sum
 |[]=>by simp;exact ye f g a|b::e=>by simp;rw[Sg (c b) (λa=>(e.map λb=>c b a).sum),zv c f g a e]
def AH(c:Int->Nat->Nat)(g:Nat->Nat)(h:Nat)(i:List C8)(a:Nat):∀(f:List DI) (b:Nat),wS (λa=>LH (λe=>c e a) g b f) h a i=LH (λe=>wS (c e) h a i) g b f
 |[],b=>by simp[LH];exact ye h i a|r::f,b=>by simp[LH];rw[Sg (λa=>g b*c r.node a) (λa=>LH (λe=>c e a) g (b+1) f),ANl,AH c g h i a f]
theorem wE{size:Int}{env:List C8}{a:CC}(c:a.formed size=X){b:Nat}(h:a.value env=⟨3,(b:Int)⟩):a.op=2/\0<=a.n/\env[a.n.toNat]?=J ⟨3,(b:Int)⟩:=by
 obtain⟨op,i,l⟩:=a;by_cases f:op=1
 .grind [Vh]
 .by_cases e:op=2
  .subst e;have g:=Pz c;rw[Se]at h;refine⟨rfl,g.1,?_⟩;show env[i.toNat]?=_;grind
  .obtain⟨_,_,_,j,k,rfl,_,_⟩:=SA c f e;grind [Vg]
def zX{size:Int}{e:List C8}{w:Nat->Nat}{C:Nat}:∀{l:List CC} {k:Nat},(∀b∈l,b.formed size=X)->wS w C k (l.map (·.value e))<=wS (λa=>aS w a k l) C 0 e
 |[],k,_=>F9 _|b::l,k,h=>by
  have g:=zX (e:=e) (w:=w) (C:=C) (l:=l) (k:=k+1) λi f=>h i (Bi _ f);simp only[By,wS,aS];rw[Sg (λa:Nat=>if b.op=2/\b.n=a then w k else 0) (λa=>aS w a (k+1) l)];refine S2 ?_ g;split
  .rename_i c;have⟨h1,h2,h3⟩:=wE (h b (CO ..)) c;grind [m6]
  .exact F9 _
def DT(s:BQ)(q:Fo):Int:=((s.bv[q.group.toNat]?).map Ay.ip).getD 0
def IX(T:List Au)(s:BQ)(q:Fo):Nat:=Rp (CB T (DT s q) q.index)
def qW(T:List Au)(C:Nat)(c:Int×Int)(l:List (List C8)):Nat:=(l.map (wS (Pd T (J c)) C 0)).sum
def ZO(b:List Au)(d:Int)(c:Nat->Nat)(a:Nat):Nat:=if Rp (Bc b d a)=2 then 2 else Rp (Bc b d a)-c a
def Z9(c:Aa)(b:List Au)(D:List BJ)(e:Nat)(g:Nat->Nat)(a:Ay):Nat:=match c.def? a.ip with|some d=>LH (λf=>wS (sN c b D f) e 0 a.env) (ZO b a.ip g) 0 d.rules|none=>0
def KM(c:Aa)(b:List Au)(D:List BJ)(a:Nat)(e:Nat->Nat->Nat):Nat->List Ay->Nat
 |_,[]=>0|i,g::l=>Z9 c b D a (e i) g+KM c b D a e (i+1) l
def Pk(T:List Au)(C:Nat)(s:BQ)(l:List Fo):Nat:=(l.map λq=>qW T C (DT s q,q.index) q.queue).sum
def H0(p:Aa)(T:List Au)(D:List BJ)(C:Nat)(l:List Ia):Nat:=(l.map λw=>wS (sN p T D w.node) C 0 w.env).sum
def ir(p:Aa)(T:List Au)(D:List BJ)(C:Nat)(l:List GL):Nat:=(l.map λj=>wS (sN p T D j.node) C 0 j.env).sum
def CG(s:BQ)(C:Nat):Nat:=((s.ac[C]?).map λq=>U q.queue).getD 0
structure ik:=
 base:Nat->Nat
 rx:Nat->Nat->Nat
def tot(e:Aa)(c:List Au)(D:List BJ)(B:ik)(b:BQ)(f:List GL)(a:Nat):Nat:=B.base a+CG b a+Pk c a b b.ac+H0 e c D a b.waits+KM e c D a B.rx 0 b.bv+ir e c D a f
def Gd(D:List BJ)(s:BQ)(n:Int)(e:List C8):Prop:=∀i c,HG (den D n) i=J c->0<=i/\∃(C:Nat) (q:Fo) (g:Ay),e[i.toNat]?=J ⟨3,(C:Int)⟩/\s.ac[C]?=J q/\q.index=c.2/\s.bv[q.group.toNat]?=J g/\g.ip=c.1
structure GM(p:Aa)(T:List Au)(D:List BJ)(B:ik)(s:BQ)(js:List GL):Prop:=
 envW:∀w∈s.waits,Gd D s w.node w.env
 envG:∀g∈s.bv,∀d,p.def? g.ip=J d->∀r∈d.rules,Gd D s r.node g.env
 envJ:∀j∈js,Gd D s j.node j.env
 tot:∀(C:Nat) q,s.ac[C]?=J q->LR (tot p T D B s js C) (IX T s q)
 base0:∀C,U s.ac<=C->B.base C=0
 rx0:∀i,U s.bv<=i->∀r,B.rx i r=0
 react:∀(i:Nat) g d (k:Nat) r,s.bv[i]?=J g->p.def? g.ip=J d->d.rules[k]?=J r->∀c∈r.d7,B.rx i k<=B.base (g.own d X c).toNat
def OO{D:List BJ}{e f:BQ}{c:Int}{a:List C8}(i:Gd D e c a)(b:Vl e f):Gd D f c a:=λk h j=>by have⟨h0,C,q,g,h1,h2,h3,h4,h5⟩:=i k h j;have⟨l,h6⟩:=b.ch C q h2;exact⟨h0,C,_,g,h1,h6,h3,b.gr _ g h4,h5⟩
structure Da(p:Aa)(sz:Al)(D:List BJ)(T:List Au):Prop:=
 chan:∀(n:Int) x d (c:Nat),0<=n->p.nodes[n.toNat]?=J x->x.op=4->p.defs[x.n.toNat]?=J d->c<U d.ac->sS p T D n ((sz[n.toNat]?).getD 0+c)<=NF (CB T x.n c)
 pp:∀(n:Int) d (i:Nat) r,p.def? n=J d->d.rules[i]?=J r->NF (Bc T n i)=2\/∃c∈r.d7,NF (CB T n c)<=NF (Bc T n i)
 arg:∀(n:Int) x d (i:Nat) r (a:Nat) c (k:Nat) ch,0<=n->p.nodes[n.toNat]?=J x->x.op=4->p.defs[x.n.toNat]?=J d->d.rules[i]?=J r->0<NF (Bc T x.n i)->r.d7[a]?=J c->d.ac[c.toNat]?=J ch->(k:Int)<ch.many->
  sS p T D r.node ((sz[n.toNat]?).getD 0+d.own+CJ d (r.d7.take a)+k)<=NF (FP T (x.n,c) k)
section
variable{p:Aa}{a:Al}{T:List Au}{D:List BJ}{B:ik}{s:BQ}{j:GL}{x:CQ}{b:List GL}
theorem XB(C:Nat)(a b:List GL):ir p T D C (a++b)=ir p T D C a+ir p T D C b:=by simp[ir]
theorem P5(C:Nat)(a:GL)(b:List GL):ir p T D C (a::b)=wS (sN p T D a.node) C 0 a.env+ir p T D C b:=by simp[ir]
def RP{js:List GL}(a:GM p T D B s (j::b))(g:∀e∈js,Gd D s e.node e.env)(k:∀c,LR (ir p T D c js) (wS (sN p T D j.node) c 0 j.env)):GM p T D B s (js++b):=by
 refine⟨a.envW,a.envG,λe h=>?_,λc l i=>C3 ?_ (a.tot c l i),a.base0,a.rx0,a.react⟩
 .rcases Ac.1 h with f|f
  .exact g e f
  .exact a.envJ e (Bi _ f)
 .unfold tot;rw[XB,P5];exact HL (Eg _) (HL (k c) (Eg _))
theorem xH(k:Ao p a)(h:Fh p a D){b:Int}(g:0<=b)(c:p.nodes[b.toNat]?=J x)(f:¬x.op=4){j:Nat}{e:Int}(i:x.kids[j]?=J e):den D e=den D b:=by have l:=l_ c;rw[h.sub b g z e (K6.2 (fg c f i)),aO,c];simp[Co f]
theorem ff(g:Ao p a)(f:Fh p a D)(e:0<=j.node)(k:p.nodes[j.node.toNat]?=J x)(i:¬x.op=4)(h:Gd D s j.node j.env){c:Nat}:∀b∈Bh x c j.at_ j.env,Gd D s b.node b.env:=by grind [Bh,Gd,xH]
theorem TX(C:Nat)(x:CQ)(k:Nat)(a:Int)(e:List C8):ir p T D C (Bh x k a e)<=wS (sN p T D (DW x k)) C 0 e:=by grind [Bh,DW,ir]
theorem AOJ{e f:Nat->Nat}(g:∀a,e a<=f a)(c:Int):∀(b:List CC) (a:Nat),aS e c a b<=aS f c a b
 :=by intro x;induction x<;>grind [aS]
theorem AIm(T:List Au)(b:Option (Int×Int))(a:Nat):Pd T b a<=2:=by unfold Pd;grind [uo]
theorem yW{i:Type}(e:i->Nat):∀{f:List i} {g:Nat} {a b:i},f[g]?=J a->((f.set g b).map e).sum+e a=(f.map e).sum+e b
 |[],g,a,b,h=>by simp at h|c::f,0,a,b,h=>by simp only[He,F1]at h;subst h;simp only[List.set_cons_zero,By,List.sum_cons];omega|c::f,g+1,a,b,h=>by rw[Hm]at h;have:=yW e (b:=b) h;simp only[List.set_cons_succ,By,List.sum_cons];omega
theorem kC{C N:Nat}{a:Fo}{l:List (List C8)}(b:s.ac[N]?=J a):Pk T C {s with ac:=s.ac.set N {a with queue:=l}} (s.ac.set N {a with queue:=l})+qW T C (DT s a,a.index) a.queue=Pk T C s s.ac+qW T C (DT s a,a.index) l:=by grind [Pk,yW,DT]
theorem AKi(C:Nat)(c:Int×Int)(l:List (List C8))(m:List C8):qW T C c (l++[m])=qW T C c l+wS (Pd T (J c)) C 0 m:=by simp[qW]
theorem AHB{N:Nat}{c:Fo}{b:List (List C8)}(e:s.ac[N]?=J c)(a:Nat):CG {s with ac:=s.ac.set N {c with queue:=b}} a=if a=N then (U b) else CG s a:=by grind [CG]
def za{N:Nat}{e:Fo}{f:List (List C8)}(h:s.ac[N]?=J e){c:Nat}{a:Fo}(g:(s.ac.set N {e with queue:=f})[c]?=J a):∃b,s.ac[c]?=J b/\a.group=b.group/\a.index=b.index/\a.at_=b.at_:=zCI
theorem R9{N:Nat}{c:Fo}{j:List (List C8)}(k:s.ac[N]?=J c){b:Int}{a:List C8}(f:Gd D s b a):Gd D {s with ac:=s.ac.set N {c with queue:=j}} b a:=λi e h=>by
 have⟨h0,C,q1,g,h1,h2,h3,h4,h5⟩:=f i e h;by_cases a:N=C
 .grind
 grind
def cQ{h:Nat}{b:Fo}{c:Ay}(g:Ed p a s)(l:s.ac[h]?=J b)(j:s.bv[b.group.toNat]?=J c){k:Int}(f:EE p s b=k):((R2 p (c.ip,b.index)).map HV.many).getD (-1)=k:=by have⟨i,m,g2,d,ch,hc⟩:=Ed.chn g.grp g.tot l;have n:=hc.group;have e:=hc.grp;rw[show i=b.group.toNat by omega,j]at e;cases e;rw[Oj hc.grp hc.st.ip hc.cha hc.group hc.index]at f;have o:=hc.index;rw[R2];dsimp only;rw[(Cr hc.st.ip).2];show((d.ac[b.index.toNat]?).map HV.many).getD (-1)=k;rw[show b.index.toNat=m by omega,hc.cha];exact f
theorem ACs(C:Ao p a)(F:Dz p)(W:Ed p a s)(M:Cb p a s j)(ac:p.nodes[j.node.toNat]?=J x)(Q:x.op=2)(H:∀q∈x.args,q.formed (U j.env)=X)(a0:0<=x.n)(g:GM p T D B s (j::b)) {N:Nat} {e:Fo} (h:s.ac[N]?=J e) (aa:j.env[x.n.toNat]?=J ⟨3,(N:Int)⟩) (P:EE p s e=(x.args.map (·.value j.env)).length):
 GM p T D B {s with ac:=s.ac.set N {e with queue:=e.queue++[x.args.map (·.value j.env)]}} b:=by
 have o:∀c,LR ((if c=N then 1 else 0)+wS (Pd T (J (DT s e,e.index))) c 0 (x.args.map (·.value j.env))) (wS (sN p T D j.node) c 0 j.env):=λc=>by
  have v:(if c=N then 1 else 0)<=wS (λl:Nat=>if x.n=l then 1 else 0) c 0 j.env:=by
   split
   .grind [m6]
   .exact F9 _
  have w:=zX (e:=j.env) (w:=Pd T (J (DT s e,e.index))) (C:=c) (l:=x.args) (k:=0) H;refine C3 (Ha (S2 v w)) ?_;rw[<-Sg];refine yd λl=>?_;have K:=g.envJ j (CO ..);have Y:∀f,HG (den D j.node) x.n=J f->f=(DT s e,e.index)/\Nb p f x=true:=λf i=>by
   have⟨_,C2,q2,g2,e1,m,e3,e4,e5⟩:=K _ _ i;rw[aa]at e1;have r:C2=N:=by have:=congrArg C8.n (KW e1);dsimp only at this;omega
   subst r;rw[h]at m;cases m;have k:DT s e=g2.ip:=by rw[DT,e4];rfl
   have n:f=(g2.ip,e.index):=by obtain⟨ar,av⟩:=f;dsimp only at e3 e5;rw[e3,e5]
   rw[k];refine⟨n,?_⟩;rw[Nb,n,cQ W h e4 P];simp
  refine C3 (Ha (S2 (D2 _) ?_)) (AKs C F M.n0 ac Q (λf i=>(Y f i).2) l);refine AOJ (λa2=>?_) _ _ _;rcases i:HG (den D j.node) x.n with _|f
  .exact AIm _ _ _
  .grind
 have az:∀c,CG {s with ac:=s.ac.set N {e with queue:=e.queue++[x.args.map (·.value j.env)]}} c=CG s c+if c=N then 1 else 0:=λc=>by grind [CG]
 refine⟨λai o=>R9 h (g.envW ai o),λt L d k ag V=>R9 h (g.envG t L d k ag V),λad O=>R9 h (g.envJ ad (Bi _ O)),λc a3 R=>?_,λc A=>g.base0 c (by simpa using A),g.rx0,g.react⟩;have⟨q0,f1,f2,f3,_⟩:=za h R;have a1:=g.tot c q0 f1;grind [IX,DT,kC,AKi,tot,P5,LR]
theorem ACu(l:Ao p a)(m:Dz p){f:Cy}(C:Ed p a f.em)(i:Cb p a f.em j)(H:p.nodes[j.node.toNat]?=J x)(w:x.op=2)(n:∀k∈x.args,k.formed (U j.env)=X)(r:0<=x.n/\x.n<U j.env)(h:GM p T D B f.em (j::b)) {g:Cy} (e:Ff p x j f=J g):GM p T D B g.em b:=by
 have drop:GM p T D B f.em b:=RP (js:=[]) h AG λK=>Ha (F9 _);have⟨v,hv⟩:=g_ (l:=j.env) (i:=x.n.toNat) z;have t:Hj j.env x.n=v:=by rw[Hj,hv];rfl
 simp[Ff,t]at e;split at e
 .cases e;exact drop
 split at e
 .rename_i q;obtain⟨s,c,rfl⟩:=BY.1 e;show GM p T D B s b;have F:=EL.1 i.wd v (AP hv);simp[C8.inB,q]at F;rw[Oz]at c;split at c
  .rename_i L A;split at c
   .rename_i o;rw[Vt]at c;split at c
    .cases c;refine ACs l m C i H w n r.1 h A ?_ o.2;rw[hv];obtain⟨M,N⟩:=v;grind
    .cases c
   .cases c;exact drop
  .cases c;exact drop
 .cases e;exact drop
theorem v8{f:Cy}(a:GM p T D B f.em (j::b)){i:Cy}(c:Gg j f=J i):GM p T D B i.em b:=by
 rw[Gg]at c;split at c
 .cases c;have g:Vl f.em {f.em with waits:=f.em.waits++[⟨j.at_,j.node,j.env⟩]}:=⟨λ_ _ a=>a,λ_ _ a=>a,λv k h=>⟨[],by simpa using h⟩⟩
  refine⟨λt e=>?_,λm n d c s q=>OO (a.envG m n d c s q) g,λr o=>OO (a.envJ r (Bi _ o)) g,λl k h=>?_,a.base0,a.rx0,a.react⟩
  .rcases Ac.1 e with e|e
   .exact OO (a.envW t e) g
   .rw[AS]at e;subst e;exact OO (a.envJ j (CO ..)) g
  .have w:=a.tot l k h;grind [tot,P5,H0,IX,DT,CG,Pk]
 .cases c
end
theorem S6(i:Int):∀(a b:BJ),HG (a++b) i=(HG a i).or (HG b i)
 :=by intro x;induction x<;>grind [HG]
theorem kK{i:Int}{c:Int×Int}:∀{l:BJ},HG l i=J c->(i,c)∈l
 :=by intro x;induction x<;>grind [HG]
theorem AET{size d:Int}{m:Nat}{i:Int}{c:Int×Int}(h:HG (GZ size d m) i=J c):∃k:Nat,k<m/\i=size+k/\c=(d,(k:Int)):=by have h:=kK h;grind [GZ]
section
variable{p:Aa}{b:Al}{T:List Au}{D:List BJ}{B:ik}{s:BQ}{j:GL}{x:CQ}{d:Bd}{a:List GL}
theorem xF(g:Fh p b D){a:Int}(f:0<=a)(e:p.nodes[a.toNat]?=J x)(k:x.op=4)(i:p.defs[x.n.toNat]?=J d){c:Int}(h:c∈HC p a):den D c=den D a++GZ ((b[a.toNat]?).getD 0) x.n (U d.ac):=by have j:=l_ e;rw[g.sub a f z c (K6.2 h),aO,e];grind
theorem fI(n:Fh p b D)(c:Gb p b s j x d)(o:Gd D s j.node j.env){k:Int}(r:k∈HC p j.node){a:Int}:Gd D (Br s d (Ae s d x.n j)) k (Ae s d x.n j).env:=by
 intro i m f;rw[xF n c.job.n0 c.node c.op c.ip r,S6]at f;rcases hg:HG (den D j.node) i with _|t
 .rw[hg]at f;obtain⟨e,h,rfl,rfl⟩:=AET f;rw[c.job.size];simp only[F7];have v:(Eh d (Ae s d x.n j) (U s.bv) 0 d.ac)[e]?=J ⟨(U s.bv:Int),((0+e:Nat):Int),(Ae s d x.n j).place d (d.ac[e]'h).at_,[]⟩:=by rw[Gz,CI h];rfl
  refine⟨z,U s.ac+e,⟨(U s.bv:Int),((0+e:Nat):Int),(Ae s d x.n j).place d (d.ac[e]'h).at_,[]⟩,Ae s d x.n j,?_,?_,?_,?_,rfl⟩
  .show(j.env++_)[_]?=_;grind [KN]
  .show(s.ac++_)[U s.ac+e]?=_;grind
  .dsimp only;omega
  .show(s.bv++[_])[_]?=_;grind
 .rw[hg]at f;cases f;have⟨h0,C,q,g,h1,h2,h3,h4,h5⟩:=o i m hg;have⟨l,h6⟩:=c.ext.ch C q h2;refine⟨h0,C,_,g,?_,h6,h3,c.ext.gr _ g h4,h5⟩;show(j.env++_)[i.toNat]?=_;grind
theorem AMu{b e a:Nat}{c:C8}(f:c.inB p b e=X)(g:b<=a):c≠⟨3,(a:Int)⟩:=by grind [C8.inB]
theorem Xc{c e a:Nat}{b:List C8}(g:b.all (C8.inB p c e)=X)(h:c<=a):∀f∈b,f≠⟨3,(a:Int)⟩:=by grind [AMu]
theorem QX{b:Type}{a:b->Nat}:∀{l:List b},(∀c∈l,a c=0)->(l.map a).sum=0
 :=by intro x;induction x<;>grind
theorem ACR{g:Int->Nat}{A8:Nat->Nat}:∀{l:List DI} {i:Nat},(∀r∈l,g r.node=0)->LH g A8 i l=0
 :=by intro x;induction x<;>grind [LH]
theorem tH{a:Nat}{f:Nat->Nat->Nat}:∀{b:List Ay} {e:Nat},(∀c∈b,∀g∈c.env,g≠⟨3,(a:Int)⟩)->KM p T D a f e b=0
 :=by intro x;induction x<;>grind [KM,Z9,ACR,O6]
theorem AIP(i:Ao p b)(e:Ed p b s){C:Nat}(a:U s.ac<=C)(w:Nat->Nat->Nat){g:List GL}(l:∀j∈g,Cb p b s j):
 Pk T C s s.ac=0/\H0 p T D C s.waits=0/\KM p T D C w 0 s.bv=0/\ir p T D C g=0:=by
 refine⟨QX λv o=>?_,QX λx q=>?_,tH λh k=>?_,QX λr m=>O6 (Xc (l r m).wd a)⟩
 .obtain⟨f,c⟩:=Ce o;refine QX λt n=>?_;have:=(e.que f v c).msgs t n;grind [QC,O6,Xc]
 .have⟨A9,hw2⟩:=O7 i (e.wait x q);exact O6 (Xc hw2.wd a)
 .obtain⟨f,c⟩:=Ce k;have⟨d,hd⟩:=e.grp f h c;exact Xc hd.wd a
theorem AAm(a:Nat)(e:Nat->Nat->Nat)(f:Ay):∀(c:List Ay) (b:Nat),KM p T D a e b (c++[f])=KM p T D a e b c+Z9 p T D a (e (b+U c)) f
 :=by intro x;induction x<;>grind [KM]
def dT(C:Nat)(g:Ay):∀(l:List Dy) (k:Nat),ir p T D C (Cg d g k l)=(l.map λA9=>wS (sN p T D A9.node) C 0 g.env).sum
 |[],k=>rfl|A9::l,k=>by rw[Cg,P5,dT C g l];simp
theorem Ux{e:BQ}(c:Ed p b s)(j:Vl s e){f:Nat}{a:Fo}(k:s.ac[f]?=J a):DT e a=DT s a:=by have⟨i,m,g,d,ch,hc⟩:=Ed.chn c.grp c.tot k;have l:=hc.group;have h:a.group.toNat=i:=z;rw[DT,DT,h,j.gr i g hc.grp,hc.grp]
theorem ANB(l:Ao p b)(m:Dz p)(f:Gb p b s j x d){rx:Nat->Nat}(r:∀c,rx c=0)(e:Nat)(i:Int):
 LR (Z9 p T D e rx (Ae s d x.n j)+ir p T D e (Cg d (Ae s d x.n j) 0 d.be++Bh x 0 i (Ae s d x.n j).env)) (wS (sN p T D j.node) e 0 (Ae s d x.n j).env):=by
 have n:p.def? x.n=J d:=by rw[Aa.def?,D4 f.n0];exact f.ip
 have t:=TX (p:=p) (T:=T) (D:=D) e x 0 i (Ae s d x.n j).env;have q:ZO T x.n rx=λ(c:Nat)=>Rp (Bc T x.n c):=by
  funext c;rw[ZO,r];split
  .rename_i k;exact k.symm
  .rfl
 have o:Z9 p T D e rx (Ae s d x.n j)=LH (λg=>wS (sN p T D g) e 0 (Ae s d x.n j).env) (λ(c:Nat)=>Rp (Bc T x.n c)) 0 d.rules:=by rw[Z9,show p.def? (Ae s d x.n j).ip=J d from n];show LH _ (ZO T x.n rx) 0 _=_;rw[q]
 rw[o,XB,dT];refine C3 ?_ (yd λa=>ANW (T:=T) (D:=D) l m f.job.n0 f.node f.op f.ip a);rw[Sg (λa=>sN p T D (DW x 0) a+(d.be.map λh=>sN p T D h.node a).sum) (λa=>LH (λg=>sN p T D g a) (λ(c:Nat)=>Rp (Bc T x.n c)) 0 d.rules),
  Sg (λa=>sN p T D (DW x 0) a) (λa=>(d.be.map λh=>sN p T D h.node a).sum),
  zv (λ(h:Dy) a=>sN p T D h.node a),AH (λg a=>sN p T D g a)]
 grind [Ha]
theorem AGM{c:Nat->Nat}{b f:Nat}{a:Nat}(g:a<b)(e:Nat):wS c a e (Hb b f d)=0:=by grind [O6,Hb]
theorem AGL{e:Nat->Nat}{b g a:Nat}(k:a<U d.ac)(f:Nat):wS e (b+a) f (Hb b g d)=e (f+a):=by
 refine zz (k:=a) ?_ λc j=>?_
 .grind [KN]
 .by_cases i:c<U d.ac
  .grind [KN]
  .by_cases h:c-U d.ac<U d.be
   .have:=WH b g d h;grind
   grind [SS,Bd.own]
theorem AHu(A:Ao p b)(a3:Dz p)(N:Fh p b D)(a2:Da p b D T){c:Cy}(R:Ed p b c.em)(H:Cb p b c.em j)(a5:∀i∈a,Cb p b c.em i)(V:p.nodes[j.node.toNat]?=J x)(Q:x.op=4)(e:GM p T D B c.em (j::a)) {Y:Cy} {az:List GL} (F:KI p x j c=J (Y,az)):GM p T D B Y.em (az++a):=by
 have⟨d,hd⟩:=fA A R H V Q;simp only[KI,hd.ip]at F;split at F
 .cases F;show GM p T D B (Br c.em d (Ae c.em d x.n j)) _;have r:=hd.ext;have⟨t,l,k1,k2,k3⟩:=(Hy A V).defn Q;rw[hd.ip]at l;cases l;have O:=e.envJ j (CO ..);have bc:∀i∈Cg d (Ae c.em d x.n j) 0 d.be++Bh x 0 j.at_ (Ae c.em d x.n j).env,Gd D (Br c.em d (Ae c.em d x.n j)) i.node i.env:=λi P=>by
   rcases Ac.1 P with f|f
   .obtain⟨g,bn,aa,rfl⟩:=LK f;exact fI N hd O (a:=0) (k2 bn.node (MP (AP aa)))
   .rw[Bh]at f;split at f
    .rename_i bs bo;rw[AS]at f;subst f;refine fI N hd O (a:=0) ?_;grind [DW]
    .cases f
  have ai:(Ae c.em d x.n j).env=j.env++Hb (U c.em.ac) (U c.em.be) d:=rfl;have bh:∀s,B.rx (0+U c.em.bv) s=0:=λs=>e.rx0 _ z s;have a':=λC=>ANB (T:=T) (D:=D) A a3 hd (rx:=B.rx (0+U c.em.bv)) bh C j.at_;have bi:∀C,tot p T D B (Br c.em d (Ae c.em d x.n j)) ((Cg d (Ae c.em d x.n j) 0 d.be++Bh x 0 j.at_ (Ae c.em d x.n j).env)++a) C=
   B.base C+CG (Br c.em d (Ae c.em d x.n j)) C+Pk T C c.em c.em.ac+H0 p T D C c.em.waits+KM p T D C B.rx 0 c.em.bv+ir p T D C a+
   (Z9 p T D C (B.rx (0+U c.em.bv)) (Ae c.em d x.n j)+ir p T D C (Cg d (Ae c.em d x.n j) 0 d.be++Bh x 0 j.at_ (Ae c.em d x.n j).env)):=λC=>by
   have aa:Pk T C (Br c.em d (Ae c.em d x.n j)) (Br c.em d (Ae c.em d x.n j)).ac=Pk T C c.em c.em.ac:=by
    show Pk T C _ (c.em.ac++Eh _ _ _ _ _)=_;unfold Pk;rw[Ap,List.sum_append];rw[QX (l:=Eh d (Ae c.em d x.n j) (U c.em.bv) 0 d.ac) λk o=>?_,Nat.add_zero]
    .grind [List.map_congr_left,List.getElem?_of_mem,Ux]
    .obtain⟨m,n⟩:=Ce o;rw[Gz]at n;obtain⟨W,ad,rfl⟩:=BY.1 n;rfl
   grind [Br,AAm,tot,XB]
  refine⟨λbl bk=>OO (e.envW bl bk) r,λv h t l q K=>?_,λi P=>?_,λC k o=>?_,λC w=>e.base0 C (Gt r.nc w),λm n q=>e.rx0 m ?_ q,λm v t s q h l K W ad=>?_⟩
  .rcases Ac.1 h with h|h
   .exact OO (e.envG v h t l q K) r
   .rw[AS]at h;subst h;have:=(Cr l).2;rw[show(Ae c.em d x.n j).ip=x.n from rfl,hd.ip]at this;cases this;exact fI N hd O (a:=0) (k3 q K)
  .rcases Ac.1 P with f|f
   .exact bc i f
   .exact OO (e.envJ i (Bi _ f)) r
  .rw[bi C];by_cases w:C<U c.em.ac
   ·
    have⟨q0,hq0⟩:=g_ w;have be:k=q0:=by have:(c.em.ac++Eh d (Ae c.em d x.n j) (U c.em.bv) 0 d.ac)[C]?=J k:=o;rw[D8 w,hq0]at this;exact(KW this).symm
    subst be;have M:IX T (Br c.em d (Ae c.em d x.n j)) k=IX T c.em k:=by rw[IX,IX,Ux R r hq0]
    have L:CG (Br c.em d (Ae c.em d x.n j)) C=CG c.em C:=by rw[CG,o,CG,hq0]
    rw[M,L];refine C3 ?_ (e.tot C k hq0);grind [ic,AGM,tot,P5,LR]
   ·
    have⟨z1,z2,z3,z4⟩:=AIP (T:=T) (D:=D) A R (C:=C) z B.rx a5;obtain⟨g,rfl⟩:∃g,C=U c.em.ac+g:=⟨C-U c.em.ac,z⟩;have ar:(Eh d (Ae c.em d x.n j) (U c.em.bv) 0 d.ac)[g]?=J k:=by
     have:(c.em.ac++Eh d (Ae c.em d x.n j) (U c.em.bv) 0 d.ac)[U c.em.ac+g]?=J k:=o
     rwa [D6 z,Mt]at this
    rw[Gz]at ar;obtain⟨a0,a4,rfl⟩:=BY.1 ar;have av:=l_ a4;have a6:=a' (U c.em.ac+g);rw[ai,ic,O6 (Xc H.wd z),AGL av,<-ai]at a6;have ac:=a2.chan j.node x d g H.n0 V Q hd.ip av;rw[H.size]at ac;simp at ac;have L:CG (Br c.em d (Ae c.em d x.n j)) (U c.em.ac+g)=0:=by rw[CG,o];rfl
    have M:IX T (Br c.em d (Ae c.em d x.n j)) ⟨(U c.em.bv:Int),((0+g:Nat):Int),(Ae c.em d x.n j).place d a0.at_,[]⟩=Rp (CB T x.n g):=by
     have a1:(Br c.em d (Ae c.em d x.n j)).bv[((U c.em.bv:Nat):Int).toNat]?=J (Ae c.em d x.n j):=by show(c.em.bv++[_])[_]?=_;rw[Es,D6 (D2 _),IF];rfl
     rw[IX,DT,a1,I7];rfl
    rw[M,L,z1,z2,z3,z4,e.base0 _ z];grind [C3,Ha,sN,Rp]
  .exact Gt (by show _<=(c.em.bv++[_]).length;simp) n
  .by_cases n:m<U c.em.bv
   .have ag:(c.em.bv++[Ae c.em d x.n j])[m]?=J v:=h;rw[D8 n]at ag;exact e.react m v t s q ag l K W ad
   .rw[e.rx0 m z];exact F9 _
 .cases F
theorem AHw(h:Ao p b)(s:Dz p)(r:Fh p b D)(w:Da p b D T){st:Cy}(C:Ed p b st.em)(k:Cb p b st.em j)(A:∀g∈a,Cb p b st.em g)(f:GM p T D B st.em (j::a)) {i:Cy} {o:List GL} (c:Kn p j st=J (i,o)):GM p T D B i.em (o++a):=by
 have⟨x,l,hx,hok,hsub,hq,_⟩:=Lz h k;simp[Kn,hx]at c;have t:=f.envJ j (CO ..);have q:=k.n0;split at c
 .grind [Option.map_eq_some_iff,Cw,cW,ACu,CC.ok]
 split at c
 .rename_i n;cases c;refine RP f (λg m=>?_) λe=>?_
  .grind [ff]
  .rw[XB];refine C3 (Ha (S2 (TX e x 0 _ _) (TX e x 1 _ _))) ?_;rw[<-Sg];grind [yd,ANX]
 split at c
 .grind [AHu]
 split at c
 .rename_i n;cases c;refine RP f (λg m=>ff h r q hx z t g m) λe=>C3 (Ha (TX e x _ _ _)) (yd λv=>?_);have:=APA (T:=T) (D:=D) h s q hx n v;grind [TU]
 split at c
 .grind [Option.map_eq_some_iff,v8]
 .cases c;exact RP (js:=[]) f AG λe=>Ha (F9 _)
theorem Qc{i:GL->Cy->Option Cy}(k:∀j c e (a:List GL),Ed p b c.em->Cb p b c.em j->(∀g∈a,Cb p b c.em g)->GM p T D B c.em (j::a)->i j c=J e->Ka p b c e/\GM p T D B e.em a):
 ∀(f a:List GL) (c e:Cy),Ed p b c.em->(∀j∈f++a,Cb p b c.em j)->GM p T D B c.em (f++a)->ED i f c=J e->GM p T D B e.em a
 |[],a,c,e,hs,hj,hU,h=>by cases h;exact hU|j::f,a,c,e,hs,hj,hU,h=>by rw[ED]at h;have⟨st1,h1,h2⟩:=HE.1 h;have⟨hp,hU1⟩:=k j c st1 (f++a) hs (hj j AG) (λg l=>hj g zCI) hU h1;exact Qc k f a st1 e hp.qr (λg l=>Oc (hj g zCI) hp.ext) hU1 h2
def UO(g:Ao p b)(o:Dz p)(n:Fh p b D)(m:Da p b D T):∀(i:Nat) (j:GL) (c f:Cy) (a:List GL),Ed p b c.em->Cb p b c.em j->(∀h∈a,Cb p b c.em h)->GM p T D B c.em (j::a)->J9 p i j c=J f->Ka p b c f/\GM p T D B f.em a
 |0,j,c,f,a,_,_,_,_,e=>by cases e|i+1,j,c,f,a,hs,hj,hjs,hU,e=>by
  refine⟨Hi g (i+1) j c f hs hj e,?_⟩;rw[J9]at e;split at e
  .rcases hd:Kn p j {c with work:=c.work+1}with _|t
   .rw[hd]at e;cases e
   .obtain⟨v,s⟩:=t;rw[hd]at e;have l:=R6 (st:={c with work:=c.work+1}) g hs hj hd
    have q:=AHw (st:={c with work:=c.work+1}) g o n m hs hj hjs hU hd
    exact Qc (λj c f a=>UO g o n m i j c f a) s a v f l.qr (λh r=>by
     rcases Ac.1 r with k|k
     .exact l.jobs h k
     .exact Oc (hjs h k) l.ext) q e
  .cases e
end
theorem wi{f g:Nat->Nat}{e:Nat}:∀{c:List C8} {a:Nat},(∀b,b<U c->LR (f (a+b)) (g (a+b)))->LR (wS f e a c) (wS g e a c)
 |[],a,_=>Eg _|v::c,a,h=>by
  rw[wS,wS];refine HL ?_ (wi λb i=>?_)
  .split
   .exact h 0 AG
   .exact Eg _
  .have:=h (b+1) BP;grind
theorem AIC(f:Nat->Nat)(C a:Nat):∀(l:List C8) (i:Nat),wS f C (a+i) l=wS (λk=>f (a+k)) C i l
 :=by intro x;induction x<;>grind [wS]
theorem dY{f:Type}(c:f->Nat){a:List f}{b:Int}{e:f}(g:a[b.toNat]?=J e):((BK a b).map c).sum+c e=(a.map c).sum:=by
 have h:a=a.take b.toNat++e::a.drop (b.toNat+1):=by rw[<-Ax g,I8]
 grind [BK]
theorem Ja{b:BQ}{N:Nat}{a:Fo}(c:b.ac[N]?=J a):CG b N=U a.queue:=by rw[CG,c];rfl
def VF(d:Bd)(c:Int):Int:=((d.ac[c.toNat]?).map HV.many).getD 0
def Ji(d:Bd)(g:Ay)(C:Nat):Al->Nat
 |[]=>0|c::l=>(if (g.own d X c).toNat=C then 1 else 0)+Ji d g C l
theorem NU{d:Bd}{g:Ay}{C:Nat}:∀{l:Al},(∀c∈l,(g.own d X c).toNat≠C)->Ji d g C l=0
 :=by intro x;induction x<;>grind [Ji]
theorem AEN{d:Bd}{g:Ay}:∀{l:Al} {c:Int},c∈l->1<=Ji d g (g.own d X c).toNat l
 :=by intro x;induction x<;>grind [Ji]
def xC{d:Bd}{g:Ay}{C:Nat}:∀{l:Al},(∀(e c:Nat) a b,e<c->l[e]?=J a->l[c]?=J b->(g.own d X b).toNat≠(g.own d X a).toNat)->Ji d g C l<=1
 |[],_=>F9 _|a::l,h=>by
  have o:=xC (C:=C) (l:=l) λe c a b n j f=>h (e+1) (c+1) a b z zCc zCm;rw[Ji];split
  .rename_i i;rw[NU λb k f=>?_]
   .omega
   .obtain⟨c,m⟩:=Ce k;exact h 0 (c+1) a b z rfl zDE (f.trans i.symm)
  .omega
structure uX(T:List Au)(dn:Int)(d:Bd)(g:Ay)(s:BQ)(c k:Int):Prop:=ex:∃q m,s.ac[(g.own d X c).toNat]?=J q/\q.queue[k.toNat]?=J m/\q.index=c/\DT s q=dn/\(U m:Int)=VF d c
structure AMK(T:List Au)(f:Nat->Nat)(d:Bd)(g:Ay)(a C:Nat)(cs:Al)(s:BQ)(t:List C8×BQ):Prop:=
 w:LR (wS f C a t.1+Pk T C t.2 t.2.ac) (Pk T C s s.ac)
 len:CG t.2 C+Ji d g C cs=CG s C
 grp:t.2.bv=s.bv
 wts:t.2.waits=s.waits
 sps:t.2.be=s.be
 chs:∀(c:Nat) q,s.ac[c]?=J q->∃l,t.2.ac[c]?=J {q with queue:=l}
 cl:U t.2.ac=U s.ac
theorem yZ{T:List Au}{dn:Int}{d:Bd}{g:Ay}{f:Nat->Nat}{C:Nat}:∀{cs ks:Al} {s:BQ} {a:Nat},U cs=U ks->
 (∀(c:Nat) b e,cs[c]?=J b->ks[c]?=J e->uX T dn d g s b e)->
 (∀(c p:Nat) b i,c<p->cs[c]?=J b->cs[p]?=J i->(g.own d X i).toNat≠(g.own d X b).toNat)->
 (∀(c:Nat) b (e:Nat),cs[c]?=J b->(e:Int)<VF d b->∀o:Nat,(o:Int)=CJ d (cs.take c)->LR (f (a+o+e)) (Pd T (J (dn,b)) e))->
 AMK T f d g a C cs s (Bb d g cs ks s)
 |[],ks,s,a,_,_,_,_=>by
  rw[Bb]
  .exact⟨Ha (by simp[wS]),by simp[Ji],rfl,rfl,rfl,λb h A=>⟨h.queue,A⟩,rfl⟩
  grind
 |b::cs,[],s,a,q,_,_,_=>by cases q|b::cs,e::ks,s,a,q,hin,hd,hf=>by
  have⟨h,m,h1,h2,h3,h4,h5⟩:=(hin 0 b e rfl rfl).ex;have t:EW s (g.own d X b) e=(m,{s with ac:=s.ac.set (g.own d X b).toNat {h with queue:=BK h.queue e}}):=by rw[EW,h1];simp[h2]
  have j:=yZ (T:=T) (dn:=dn) (d:=d) (g:=g) (f:=f) (C:=C) (cs:=cs) (ks:=ks) (s:=(EW s (g.own d X b) e).2) (a:=a+U m) (by simpa using q) (λc i l k n=>?_)
   (λc p i w F k n=>hd (c+1) (p+1) i w z zCX (by simpa using n)) (λc i l k n o D=>?_)
  .rw[Bb];rw[t]at j⊢;dsimp only at j⊢;refine⟨?_,?_,j.grp,j.wts,j.sps,λi r v=>?_,by rw[j.cl];simp⟩
   .have B:=j.w;have L:=kC (T:=T) (C:=C) (l:=BK h.queue e) h1;have M:qW T C (DT s h,h.index) (BK h.queue e)+wS (Pd T (J (dn,b))) C 0 m=qW T C (DT s h,h.index) h.queue:=by rw[h4,h3];exact dY (wS (Pd T (J (dn,b))) C 0) h2
    have N:LR (wS f C a m) (wS (Pd T (J (dn,b))) C 0 m):=by
     have:=AIC f C a m 0;rw[Nat.add_zero]at this;rw[this];refine wi λl H=>?_;have:=hf 0 b l rfl z 0 (by simp[CJ])
     rwa [Nat.add_zero,<-I7 l]at this
    grind [ic,LR]
   .have B:=j.len;grind [AHB,Ji,AAC,Ja]
   .by_cases x:(g.own d X b).toNat=i
    .subst x;rw[h1]at v;cases v;exact j.chs _ {h with queue:=BK h.queue e} zCI
    .exact j.chs _ r zCI
  .have⟨r,m2,g1,g2,g3,g4,g5⟩:=(hin (c+1) i l zCX (by simpa using n)).ex;have K:=hd 0 (c+1) b i z rfl zCX;refine⟨r,m2,?_,g2,g3,?_,g5⟩
   .grind
   .rw[t];exact g4
  .have:=hf (c+1) i l zCX n (U m+o) (by grind [CJ,VF]);grind
theorem YE{D:List BJ}{e f:BQ}{i:Int}{h:List C8}(j:Gd D e i h)(m:∀(b:Nat) g,e.bv[b]?=J g->f.bv[b]?=J g)(l:∀(a:Nat) q,e.ac[a]?=J q->∃c,f.ac[a]?=J c/\c.group=q.group/\c.index=q.index):Gd D f i h:=λb a k=>by have⟨h0,C,q,g,h1,h2,h3,h4,h5⟩:=j b a k;grind
theorem AJI{D:List BJ}{c:BQ}{b:Int}{a:List C8}(f:Gd D c b a)(j:List C8):Gd D c b (a++j):=λi e h=>by have⟨h0,C,q,g,h1,h2⟩:=f i e h;grind
def ML(f:Nat->Nat->Nat)(c e:Nat):Nat->Nat->Nat:=λa b=>f a b+if a=c/\b=e then 1 else 0
def ACF{b:List Au}{c:Int}{e f:Nat->Nat}{a:Nat}(g:f a=e a):ZO b c f a=ZO b c e a:=by rw[ZO,ZO,g]
theorem ACQ{f:Int->Nat}{A8 u':Nat->Nat}:∀{l:List DI} {j:Nat},(∀k,j<=k->u' k=A8 k)->LH f u' j l=LH f A8 j l
 :=by intro x;induction x<;>grind [LH]
theorem ZV{f:Int->Nat}{A8 u':Nat->Nat}:∀{l:List DI} {j k:Nat} {r:DI},j<=k->l[k-j]?=J r->(∀a,a≠k->u' a=A8 a)->LR (u' k*f r.node+f r.node) (A8 k*f r.node)->LR (LH f u' j l+f r.node) (LH f A8 j l)
 |[],j,k,r,_,b,_,_=>by simp at b|r0::l,j,k,r,hj,b,hu,hr=>by
  rw[LH,LH];by_cases c:j=k
  .subst c;rw[IF,He]at b;cases b;have:=ACQ (f:=f) (A8:=A8) (u':=u') (l:=l) (j:=j+1) λa e=>hu a z;rw[this];refine C3 (Ha (Nat.le_of_eq ?_)) (HL hr (Eg (LH f A8 (j+1) l)));omega
  .have g:=ZV (f:=f) (A8:=A8) (u':=u') (l:=l) (j:=j+1) (k:=k) (r:=r) z zCI hu hr;grind [HL,Eg]
theorem V8{p:Aa}{T:List Au}{D:List BJ}{C:Nat}{rx:Nat->Nat->Nat}{i k:Nat}{g:Ay}{d:Bd}{c:DI}(f:p.def? g.ip=J d)(h:d.rules[k]?=J c)(q:Rp (Bc T g.ip k)=2\/Rp (Bc T g.ip k)=1/\rx i k=0):
 ∀{l:List Ay} {j:Nat},j<=i->l[i-j]?=J g->LR (KM p T D C (ML rx i k) j l+wS (sN p T D c.node) C 0 g.env) (KM p T D C rx j l)
 |[],j,_,b=>by simp at b|g0::l,j,hj,b=>by
  rw[KM,KM];have r:∀a,a≠i->ML rx i k a=rx a:=λa o=>by grind [ML]
  have n:∀(l:List Ay) (j:Nat),i<j->KM p T D C (ML rx i k) j l=KM p T D C rx j l:=by intro l;induction l with|nil=>intro j _;rfl|cons s l m=>grind [KM]
  by_cases e:j=i
  .subst e;rw[IF,He]at b;cases b;rw[n l (j+1) z,Z9,Z9,f];dsimp only;have:=ZV (f:=λa=>wS (sN p T D a) C 0 g.env) (A8:=ZO T g.ip (rx j)) (u':=ZO T g.ip (ML rx j k j)) (l:=d.rules) (j:=0) (k:=k) (r:=c) (F9 _) h (λa o=>ACF (by grind [ML])) (by grind [ML,ZO,LR])
   grind [HL,Eg]
  .have m:=V8 (p:=p) (T:=T) (D:=D) (C:=C) (rx:=rx) (i:=i) (k:=k) (g:=g) f h q (l:=l) (j:=j+1) z zCI;rw[r j e];refine C3 (Ha (Nat.le_of_eq ?_)) (HL (Eg (Z9 p T D C (rx j) g0)) m);omega
section
variable{p:Aa}{a:Al}{T:List Au}{D:List BJ}{B:ik}{s:BQ}
def vr(B:ik)(d:Bd)(g:Ay)(r:DI)(i k:Nat):ik:=⟨λC=>B.base C+Ji d g C r.d7,ML B.rx i k⟩
theorem RQ(ai:Ao p a)(dr:Dz p)(dq:Fh p a D)(bi:Da p a D T)(aa:Ed p a s)(C:GM p T D B s []){r k:Nat}{c:Ay}{d:Bd}{e:DI}{t:Al}(M:s.bv[r]?=J c)(F:p.def? c.ip=J d)(P:d.rules[k]?=J e)(df:BA s.be (c.place d e.at_)=Z)(bh:Below (C7 s d c e) t)(A:Int):
 GM p T D (vr B d c e r k) (Bb d c e.d7 t s).2 [⟨e.node,A,c.env++(Bb d c e.d7 t s).1⟩]/\(∀b∈e.d7,(c.own d X b).toNat<U s.ac/\BA s.be ((s.ac[(c.own d X b).toNat]?).map Fo.at_|>.getD 0)=Z)/\∀g,Ji d c g e.d7<=1:=by
 have⟨V,hd⟩:=aa.grp r c M;have a0:=AP P;have N:=hd.ip;rw[F]at N;cases N;have Y:=Oy ai aa M hd a0;have bo:=Bk ai (Cr F).2;have b':=bo.ok.pp e a0;simp[Bx]at b';have av:∀b∈e.d7,(c.own d X b).toNat=(JT p (s.bv.take r)).1+b.toNat:=λb h=>by have⟨A,n,_⟩:=Y.join b h;have:=ME hd.mine A n;omega
 have bs:∀(A n:Nat) b K,A<n->e.d7[A]?=J b->e.d7[n]?=J K->(c.own d X K).toNat≠(c.own d X b).toNat:=λA n b K cq q w=>by rw[av b (AP q),av K (AP w)];have:=Od rfl b'.2.2.2 n A K b (F9 _) cq w q;have d2:=(Y.join b (AP q)).1;have dc:=(Y.join K (AP w)).1;omega
 have H:∀b∈e.d7,∃i v,s.ac[(c.own d X b).toNat]?=J i/\i.index=b/\DT s i=c.ip/\d.ac[b.toNat]?=J v/\EE p s i=v.many/\QL s (c.own d X b)=U i.queue:=λb h=>by have⟨c0,c1,K,i,c3,c4,c5⟩:=Y.join b h;have⟨v,H⟩:=g_ (l:=d.ac) (i:=b.toNat) z;have⟨dc,be,f2,f3,_⟩:=hd.ac _ v H;rw[<-av b h,c3]at be;cases be;refine⟨i,v,c3,z,?_,H,Oj M F H f2 f3,c5⟩;grind [DT,Int.toNat_natCast]
 have c6:∀(j:Nat) b f,e.d7[j]?=J b->t[j]?=J f->uX T c.ip d c s b f/\0<CG s (c.own d X b).toNat:=λj b f q w=>by have⟨i,v,a1,a2,a3,a4,a5,a6⟩:=H b (AP q);have bn:=Pg bh j (QL s (c.own d X b)) f (by rw[C7,Be,q];rfl) w;rw[a6]at bn;have⟨m,hm⟩:=g_ (l:=i.queue) (i:=f.toNat) z;have bx:=(aa.que _ i a1).msgs m (AP hm);simp only[QC,As,D3]at bx;refine⟨⟨i,m,a1,hm,a2,a3,?_⟩,by rw[Ja a1];omega⟩;rw[bx.1,a5,VF,a4];rfl
 have c2:U e.d7=U t:=by have:=bh.len;rw[C7,BV]at this;exact this.symm
 have b0:∀b∈e.d7,0<CG s (c.own d X b).toNat:=λb h=>by obtain⟨j,W⟩:=Ce h;have⟨f,hk2⟩:=g_ (l:=t) (i:=j) (by have:=l_ W;omega);grind
 have c9:∀b∈e.d7,B.base (c.own d X b).toNat+CG s (c.own d X b).toNat<=Rp (CB T c.ip b)\/Rp (CB T c.ip b)=2:=λb h=>by have⟨i,v,a1,a2,a3,_⟩:=H b h;have ac:=C.tot _ i a1;rw[IX,a3,a2]at ac;have:=uo (CB T c.ip b);unfold tot LR at ac;omega
 have cc:Rp (Bc T c.ip k)=2\/Rp (Bc T c.ip k)=1/\B.rx r k=0:=by
  have dx:=ER (Bc T c.ip k);rcases bi.pp c.ip d k e F P with cp|⟨b,h,cp⟩
  .left;unfold Rp;omega
  .have dj:=c9 b h;have dm:=b0 b h;have dn:=C.react r c d k e M F P b h;have de:=ER (CB T c.ip b);unfold Rp at*;omega
 have cs:∀(j:Nat) b (f:Nat),e.d7[j]?=J b->(f:Int)<VF d b->∀n:Nat,(n:Int)=CJ d (e.d7.take j)->LR (sN p T D e.node (U c.env+n+f)) (Pd T (J (c.ip,b)) f):=λj b f q w n bn=>by
  have⟨c',x,s0,b1,b2,b3,b4,b5,b6,b7,b8,b9⟩:=bo.node;have⟨i,v,a1,a2,a3,a4,_⟩:=H b (AP q);have d0:=(E6 ai b1 b2).1;have ds:=(Cr F).1;have ad:x.n=c.ip:=z;have cu:p.defs[x.n.toNat]?=J d:=by rw[ad];exact(Cr F).2
  have O:=hd.len;rw[b7]at O;simp at O;rw[VF,a4]at w;have bl:=bi.arg (c':Int) x d k e j b f v z (by grind [Int.toNat_natCast]) b2 cu P (by rw[ad];unfold Rp at cc;omega) q a4 w;rw[Es,b4,ad]at bl;simp at bl;rw[Pd];unfold sN Rp;have:=VY p T D e.node ((U c.env+n+f:Nat):Int);rw[show((U c.env+n+f:Nat):Int)=s0+d.own+CJ d (e.d7.take j)+f by omega]at*;refine Ha ?_;omega
 have up:=λg=>yZ (T:=T) (dn:=c.ip) (d:=d) (g:=c) (f:=sN p T D e.node) (C:=g) (cs:=e.d7) (ks:=t) (s:=s) (a:=U c.env) c2 (λj b f q w=>(c6 j b f q w).1) bs cs;have o:=up 0;have ar:∀{ch:Int} {L:List C8},Gd D s ch L->Gd D (Bb d c e.d7 t s).2 ch L:=λcv=>YE cv (λr c cx=>by rw[o.grp];exact cx) λb i c8=>by have⟨l,O⟩:=o.chs b i c8;exact⟨_,O,rfl,rfl⟩
 refine⟨⟨λdd cd=>?_,λag Q V N bc a'=>?_,λj W=>?_,λg d1 az=>?_,λg bk=>?_,λR bv f=>?_,λR ag V f bc Q N a' b h=>?_⟩,λb h=>?_,λg=>xC bs⟩
 .rw[o.wts]at cd;exact ar (C.envW dd cd)
 .rw[o.grp]at Q;exact ar (C.envG ag Q V N bc a')
 .rw[AS]at W;subst W;exact AJI (ar (C.envG c (AP M) d F e a0)) _
 .have cl:=up g;have⟨q0,hq0⟩:=g_ (l:=s.ac) (i:=g) (by rw[<-o.cl];exact l_ az);have⟨l,O⟩:=o.chs g q0 hq0;rw[O]at az;cases az;have ac:=C.tot g q0 hq0;have cn:IX T (Bb d c e.d7 t s).2 {q0 with queue:=l}=IX T s q0:=by rw[IX,IX,DT,DT,o.grp]
  rw[cn];refine C3 ?_ ac;have d3:=cl.w;have d4:=cl.len;have d5:=V8 (p:=p) (T:=T) (D:=D) (C:=g) (rx:=B.rx) (i:=r) (k:=k) (g:=c) F P cc (l:=s.bv) (j:=0) (F9 _) M;unfold tot;rw[o.wts,o.grp];have cm:ir p T D g [⟨e.node,A,c.env++(Bb d c e.d7 t s).1⟩]=wS (sN p T D e.node) g 0 c.env+wS (sN p T D e.node) g (U c.env) (Bb d c e.d7 t s).1:=by rw[ir];simp;rw[ic,I7]
  rw[cm];show LR (B.base g+Ji d c g e.d7+_+_+_+KM p T D g (ML B.rx r k) 0 s.bv+_) _;unfold LR at*;omega
 .rw[o.cl]at bk;show B.base g+Ji d c g e.d7=0;rw[C.base0 g bk,NU λb h L=>?_];grind
 .rw[o.grp]at bv;show ML B.rx r k R f=0;rw[ML,C.rx0 R bv,Co];grind
 .rw[o.grp]at Q;have:=C.react R ag V f bc Q N a' b h;show ML B.rx r k R f<=B.base _+Ji d c _ e.d7;rw[ML];split
  .grind [AEN]
  .omega
 .have⟨i,v,a1,_⟩:=H b h;refine⟨l_ a1,?_⟩;rw[a1];have c7:=b0 b h;rw[Ja a1]at c7;rcases(aa.que _ i a1).dead with L|L
  .omega
  .exact L
end
