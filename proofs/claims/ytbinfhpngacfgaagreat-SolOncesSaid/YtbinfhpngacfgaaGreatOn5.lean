/- P -/
import Derived.OrdersIn
import Derived.RangeFuncLeaves
import Derived.Test.YtbinfhpngacfgaaGreatOn4
set_option linter.all false
open Go renaming World->G2,Value->G4,Oper->G5,TypeId->Hk,Program->H5,FuncId->IY,Tmp->L2,Act->M3,Exit->OA
open List renaming range->V5,length->U
open Option renaming some->J,none->I
open Bool renaming true->X,false->Z
namespace Go
variable{p:Prop}
def zCJ(h:p:=by grind [Op.operands,Call.operands]):p:=h
def zCN(h:p:=by cases h):p:=h
def zCi(h:p:=by rw[A _ _ o];exact n):p:=h
def zDB(h:p:=by simp[f]):p:=h
def zDC(h:p:=by simpa using l):p:=h
def zDP(h:p:=by grind [Jb]):p:=h
end Go
namespace Go
variable{p:Prop}
def zBK(h:p:=by
 split at h
 .exact .mapE (λ_=>.one rfl) h
 .cases h):p:=h
def zBX(h:p:=by
 split at a
 .split at a<;>cases a;rfl
 .cases a):p:=h
def zBu(h:p:=by
 unfold EJ at b;split at b
 .simp only[M6,Cv]at b;split at b
  .simp at b
  .cases b
 .cases b):p:=h
def zB2(h:p:=by
 rcases Yq g.env (C.live fr.f b) t with e|e
 .rw[e];exact s.env t
 .rw[e];exact .undef _):p:=h
end Go
namespace Go.Abs
variable{A:Nat->Prop}{P:H5}{l:List Hk}{β e a:BF}{w g b:G2}{M:Nat->Prop}{h f c:S}{i ρ:u}{ci:Option u}
def Fi(β:BF)(i:u):Prop:=∀a,i<:+a->β a=I
def sg(ρ:u)(β:BF)(c:Nat):Prop:=∃a b,ρ<:+a/\β a=J b/\b.b=c
def eG(ci:Option u)(ρ:u)(β:BF):Prop:=ci=J ρ\/∀a,β a≠I->ρ<:+a
def hX(ci:Option u)(i:u)(β:BF)(w:G2)(h:S)(e:BF)(g:G2)(f:S):Prop:=∀ρ,ρ<:+i->eG ci ρ β->(∀a,a<w.heap.size->¬sg ρ β a->g.heap[a]?=w.heap[a]?)/\(∀a,sg ρ e a->sg ρ β a\/w.heap.size<=a)/\∀b,¬ρ<:+b->f.get b=h.get b
structure CX(A:Nat->Prop)(ci:Option u)(π:u)(β:BF)(w:G2)(h:S)(β':BF)(w':G2)(h':S):Prop:=
 out:∀id,¬π<:+id->β' id=β id
 hr:HR A β' w' h'
 ol:FI A (MS A β h) w (MS A β' h') w'
 kept:hX ci π β w h β' w' h'
theorem CX.refl(H:HR A β w h):CX A ci i β w h β w h:=⟨λ_ _=>rfl,H,.refl _ _,λ_ _ _=>⟨λ_ _ _=>rfl,λ_ a=>.inl a,λ_ _=>rfl⟩⟩
theorem mf(g:ρ<:+i)(f:∀a,¬i<:+a->e a=β a)(b:eG ci ρ β):eG ci ρ e:=by refine b.imp (λh=>h) λh a c=>?_;grind
theorem CX.trans(g1:CX A ci i β w h e g f)(g2:CX A ci i e g f a b c):CX A ci i β w h a b c where
 out id hi:=by rw[g2.out id hi,g1.out id hi]
 hr:=g2.hr
 ol:=g1.ol.trans g2.ol
 kept ρ hρ hg:=by have⟨a1,a2,a3⟩:=g1.kept ρ hρ hg;have⟨b1,b2,b3⟩:=g2.kept ρ hρ (mf hρ g1.out hg);grind
def CX.le(c:CX A ci i β w h e g f)(j:Fi β i):Le β e:=λb l a=>by rw[c.out b λk=>by rw[j b k]at a;cases a];exact a
def CX.up{c:u}(b:i<:+c)(a:CX A ci c β w h e g f):CX A ci i β w h e g f:=⟨λn k=>a.out n λl=>k (b.trans l),a.hr,a.ol,λρ m j=>a.kept ρ (m.trans b) j⟩
variable{j:S}
theorem MS.congr{h:S}(b:∀a,h.get a=j.get a):MS A β h=MS A β j:=by grind [MS]
theorem HR.congr{h:S}(b:∀a,h.get a=j.get a)(H:HR A β w h):HR A β w j:=by have i:=MS.congr (A:=A) (β:=β) b;refine⟨λa e c=>?_,λf g p q n o k l=>H.inj f g p q n o (by rw[b];exact k) (by rw[b];exact l),H.bnd,λa e m c=>H.out a e m (by rw[b];exact c),H.abnd⟩;rw[<-i];exact H.obj a e (by rw[b];exact c)
theorem CX.congr{h:S}(m:∀l,h.get l=j.get l)(k:CX A ci i β w h e g f):CX A ci i β w j e g f:=by refine⟨k.out,k.hr,by rw[<-MS.congr m];exact k.ol,λρ o n=>?_⟩;have⟨a,b,c⟩:=k.kept ρ o n;grind
structure NT:=
 n:Nat
 lb:Nat
inductive cX(lb:Nat)(β:BF)(w:G2)(M:Nat->Prop):Df->Deferred->Prop
 |mark (id r):w.heap[r]?=J (.deferred (J []))->¬M r->lb<=r->cX lb β w M (.mark id) {target:=.collected r,args:= #[]}
 |call (f args vs):Hg β w M args vs->cX lb β w M (.call f args) {target:=.fn (.func f) #[],args:=vs}
def Ma(a:Nat)(β:BF)(w:G2)(M:Nat->Prop):List Df->List Deferred->Prop
 |[],[]=>True|d::l,e::m=>cX a β w M d e/\Ma a β w M l m/\∀c∈m,∀b,e.target=.collected b->c.target≠ .collected b|_,_=>False
variable{a:Nat}{k:Nat->Prop}
theorem cX.mono(n:Le β e)(c:FI A M w k g){d:Df}{f:Deferred}(h:cX a β w M d f):cX a e g k d f:=by cases h with|mark o i b j m=>exact .mark o i (by rw[c.pm i (BZ b) (.inl j)];exact b) (c.sub' (BZ b) j) m|call l args p b=>exact .call l args p (b.mono n c)
theorem Ma.mono(c:Le β e)(b:FI A M w k g):∀{f:List Df} {i:List Deferred},Ma a β w M f i->Ma a e g k f i
 |[],[],_=>trivial|_::_,_::_,h=>⟨h.1.mono c b,Ma.mono c b h.2.1,h.2.2⟩|[],_::_,h=>h.elim|_::_,[],h=>h.elim
theorem Ma.marks:∀{i:List Df} {f:List Deferred},Ma a β w M i f->∀c∈f,∀e,c.target=.collected e->e<w.heap.size
 |[],[],_,c,b,_,_=>by cases b|d::i,e'::f,h,c,b,e,g=>by
  rcases DO.1 b with rfl|b
  .obtain⟨k,_,_⟩:=h;cases k with|mark m n j _ _=>grind|call l args o _=>cases g
  .exact Ma.marks h.2.1 c b e g
 |[],_::_,h,_,_,_,_=>h.elim|_::_,[],h,_,_,_,_=>h.elim
structure PD(A:Nat->Prop)(β:BF)(w:G2)(nt:NT)(env:Nat->y)(defs:List Df)(h:S)(a:M3):Prop:=
 sz:a.tmps.size=nt.n
 env:MX β w (MS A β h) env λt=>a.tmps.getD t Go.undef
 defs:Ma nt.lb β w (MS A β h) defs a.defers
variable{a:NT}{env:Nat->y}{c:List Df}{b:M3}
theorem PD.congr{h:S}(f:∀g,h.get g=j.get g)(e:PD A β w a env c h b):PD A β w a env c j b:=⟨e.sz,by rw[<-MS.congr f];exact e.env,by rw[<-MS.congr f];exact e.defs⟩
theorem PD.mono(i:PD A β w a env c h b)(k:Le β e)(j:FI A (MS A β h) w (MS A e f) g):PD A e g a env c f b:=⟨i.sz,i.env.mono k j,i.defs.mono k j⟩
def VT(b:Nat->y)(c:Option L2)(e:y)(a:Nat):y:=match c with|some d=>if d=a then e else b a|none=>b a
def pO(b:CW)(a:Option L2)(c:y):(Ds b a c).get=VT b.get a c:=by
 funext e;rcases a with _|d
 .rfl
 .simp[Ds,VT,CW.q_f]
theorem FX(b:M3)(a:Option L2)(c:G4):(b.put a c).tmps.size=b.tmps.size:=by cases a<;>simp[Act.put]
def pR(b:M3)(a:Option L2)(c:G4):(b.put a c).defers=b.defers:=by cases a<;>rfl
theorem PD.put{a:NT}{env:Nat->y}{c:List Df}{b:M3}(e:PD A β w a env c h b){f:Option L2}(l:∀d,f=J d->d<a.n){k:y}{j:G4}(n:VR β w (MS A β h) k j):
 PD A β w a (VT env f k) c h (b.put f j):=by
 refine⟨by rw[FX];exact e.sz,λi=>?_,by rw[pR];exact e.defs⟩;rcases f with _|d
 .exact e.env i
 .have m:d<b.tmps.size:=by rw[e.sz];exact l d rfl
  simp only[VT,Act.put];by_cases g:d=i
  .subst g;simp[m];exact n
  .have:=e.env i;simp only[Co g];rw[Gc,Ii g,<-Gc];exact this
abbrev FF(ro:Option Nat):Fence:={Fence.wide with round:=ro}
def nk(β:BF)(w:G2)(M:Nat->Prop):BG->Ending->Prop
 |.ret v,.returned A8=>VR β w M v A8|.of v,.panicked chain=>∃A8,chain=[{v:=A8,recovered:=Z}]/\VR β w M v A8|_,_=>False
def Sj(A:Nat->Prop)(ci:Option u)(i:u)(β:BF)(w:G2)(h:S)(a:BG×S)(b:Ending)(g:G2):Prop:=∃e,CX A ci i β w h e g a.2/\nk e g (MS A e a.2) a.1 b
def Jz(a:Loop)(e:Array G4):Array Value:=(a.params.zip e).foldl (λc (b:Nat×G4)=>c.setIfInBounds b.1 b.2) a.tmps
def Uc(P:H5)(A:Nat->Prop)(k:gG)(args:List y)(h:S)(i:u)(ci:Option u)(g:BG×S)(β:BF):Prop:=
 ∀(w:G2) (c:Array G4),HR A β w h->Fi β i->Hg β w (MS A β h) args c->
  match k with
  |.fn j=>Calls P j c w (Sj A ci i β w h g)
  |.round e f=>U f.params=U args/\∀(b:Wx) (a:Loop),h.get e=J (.loop f)->β e=J b->w.heap[b.b]?=J (.loop a)->
   RoundIn Fence.wide 0 P b.b a.fn (Jz a c) a.assign a.body w (Sj A ci i β w h g)
def Nz(P:H5)(f:IY):Prop:=∃fn c,P.funcs[f]?=J fn/\fn.body=J c/\(fn.name== "runtime.NumGoroutine")=Z
def LW(W:Lp->Prop)(h:S):Prop:=∀b a,h.get b=J (.loop a)->W a
structure wa(P:H5)(W:Lp->Prop)(t:gG)(args:List y)(h:S)(π:u)(raw:Bool)(ci:Option u)(r:BG×S):Prop:=
 ent:∀f,t=.fn f->Nz P f
 rw:raw=X->(∀id lp,t=.round id lp->W lp)->LW W h->∀A β,Uc P A t args h π ci r β
 pu:raw=Z->h=[]->ci=I->∀A,Uc P A t args [] π I r λ_=>I
 ids:raw=Z->h=[]->ci=I->π=[]->∀v,r.1=.ret v->AD v=[]/\r.2=[]
 lw:(∀id lp,t=.round id lp->W lp)->LW W h->LW W r.2
def EI(P:H5)(W:Lp->Prop)(K:Ah):Prop:=∀(t:gG) (args:List y) (h:S) (i:u) (raw:Bool) (ci:Option u) (r:BG×S),K t args h i raw ci=.ok r->wa P W t args h i raw ci r
variable{δ:S}
theorem ql{ρ:u}(h:J4 (J ρ) δ=X):∀a∈δ,ρ<:+a.1:=λa b=>(Id.q_a _ _).1 (EL.1 h a b)
theorem IK(B:Le β e)(H:∀a,e a≠I->β a≠I\/ρ<:+a)(o:HR A e g (h.q_d δ))(k:FI A (MS A β h) w (MS A e (h.q_d δ)) g)(q:hK β w e g δ)(K:J4 ci δ=X):CX A ci ρ β w h e g (h.q_d δ):=by
 have C:∀a,¬ρ<:+a->e a=β a:=by
  intro a r;rcases n:β a with _|c
  .grind
  .exact B a c n
 refine⟨C,o,k,λF L i=>?_⟩;have s:∀b∈δ,∀c,β b.1=J c->F<:+b.1:=by
  intro b k c m;rcases i with i|i
  .grind [ql]
  .grind
 refine⟨λp n D=>q.1 p n λb k c m v=>D ⟨b.1,c,s b k c m,m,v⟩,?_,λa r=>?_⟩
 .rintro p ⟨a,c,l,j,rfl⟩;rcases q.2 a c j with f|f|⟨b,k,t,f,x⟩
  .exact .inl ⟨a,c,l,f,rfl⟩
  .exact .inr f
  .exact .inl ⟨b.1,t,s b k t f,f,x⟩
 .rcases JZ δ h a with⟨l,_⟩|⟨b,l,rfl,f⟩
  .exact l
  .refine absurd ?_ r;rcases i with i|i
   .grind [ql]
   .have⟨c,m,_⟩:=o.obj b.1 b.2 f;grind
def k9(A:Nat->Prop)(ci:Option u)(i:u)(a:NT)(β:BF)(w:G2)(h:S)(env:Nat->y)(c:List Df)(f:S)(b:M3)(g:G2):Prop:=∃e,CX A ci i β w h e g f/\PD A e g a env c f b
theorem AG7{ro:Option Nat}{f:G5}{i:DF}(H:HR A β w h)(s:Fi β ρ)(m:PD A β w a env c h b)(q:∀d,f.dst=J d->d<a.n) (r:∀o,f.op≠ .defer o) (x:evalOp (Cm P l) env h.get ρ f.op=J i) (B:J4 ci i.δ=X) {next:M3->G2->Prop} {Q:OA->M3->G2->Prop}(t:∀j g,k9 A ci ρ a β w h (VT env f.dst i.v) c (h.q_d i.δ) j g->next j g):f.wpIn (FF ro) 0 P b w next Q:=by
 have⟨n,v,g,e,hr,hnv,hle,hnew,H',hp,hv,hc⟩:=AAE (P:=P) (mix:=l) H s m.env rfl x;have p:=IK (ci:=ci) hle hnew H' hp hc B;have k:next (b.put f.dst v) g:=t _ _ ⟨e,p,(m.mono hle hp).put q hv⟩
 refine⟨λ_ _=>trivial,?_⟩;rw[Oper.semAt_eq _ _ _ r,hr];rcases hnv with rfl|⟨rfl,rfl⟩
 .exact k
 .exact k
variable{A:Nat->Prop}{P:H5}{c:List Hk}{a:BF}{w:G2}{M:Nat->Prop}
def Hn{A M:Nat->Prop}(h:∀a,k a->M a)(w:G2):FI A M w k w:=⟨λ_ _ _=>rfl,D2 _,λa b=>.inl (h a b),rfl,rfl⟩
theorem TT{a:List y}(h:Ab a=[]):∀b∈a,AD b=[]:=by induction a with|nil=>simp|cons e a c=>grind [Ab,List.append_eq_nil_iff]
variable{x:y}{v:G4}
def VR.noIds{e:BF}(A:∀m,k m->M m)(h:VR a w M x v)(c:AD x=[]):VR e w k x v:=by induction h with|d h=>exact .d (h.mono (A:=λ_=>False) (Hn A w))|d9=>exact .d9|emp b=>exact .emp b|ii r t len s b cap q V B T=>simp[AD]at c|ptr r t s q=>simp[AD]at c|rt r g t s q=>simp[AD]at c|iptr o m t n elem H K N B L=>exact .iptr o m t n elem H K (λh=>N (A _ h)) B λg x v i j=>(L g x v i j).mono (A:=λ_=>False) (Hn A w)|fn F b m C D i j _ _ O P=>simp only[AD,Pl]at c;exact .fn F b m C D i j (λg x v f l=>O g x v f l (TT c.1 x (AP f))) (λg x v f l=>P g x v f l (TT c.2 x (AP f)))|yld r s q=>simp[AD]at c|mp r s q=>simp[AD]at c|iface Q v R _ p=>simp only[AD]at c;exact .iface Q v R (p c)|agg o n i _ p=>simp only[AD]at c;exact .agg o n i λg x v f l=>p g x v f l (TT c x (AP f))|kw o n i _ p=>simp only[AD]at c;exact .kw o n i λg x v f l=>p g x v f l (TT c x (AP f))|undef v=>exact .undef v
def M0(h δ:S)(c:u×Obj):Prop:=
 (∃b a,c.2=.v6 b a/\h.get c.1=J (.f8 b a))\/
 ∃b a e,c.2=.v6 b e/\h.get c.1=J (.arr b a)/\EN h.get a=J e/\∀f∈a.flatMap (Ck h.get),f∈δ
def M0.v6{h:S}{p:u×Obj}(m:M0 h δ p):p.2.mut=false:=by rcases m with⟨_,_,h,_⟩|⟨_,_,_,h,_⟩<;>rw[h]<;>rfl
theorem Sz{h δ:S}(t:∀c∈δ,c.2.mut=Z){g:List y}(q:∀c∈Ck h.get g,c∈δ){p:List Ar}(r:Ef h.get g=J p):
 ∀v∈g,∀b∈Hc v,H6 (h.q_d δ) b:=by
 intro v n b f A m;cases v with
 |ii w B x=>
  simp only[Hc,AS]at f;subst f;have⟨i,hi,hvi⟩:=Rd.1 n;have⟨q1,q2⟩:=GF r;have a:=q2 i _ (p[i]'(z)) (CI hi) (CI z);rw[hvi]at a;rcases JZ δ h b with⟨l,j⟩|⟨c,l,j,s⟩
  .simp only[Fz]at a;split at a
   .rename_i o k e;exact absurd rfl (j (b,.v6 o k) (q _ (BE.2 ⟨_,n,by simp[JQ,e]⟩)))
   .rename_i o k e;rw[l,e]at m;cases m;rfl
   .cases a
  grind
 |_=>simp[Hc]at f
theorem Jx{h δ:S}(l:∀a∈δ,M0 h δ a):bX h (h.q_d δ):=by
 refine⟨λr=>?_⟩;rcases JZ δ h r with⟨b,_⟩|⟨a,b,j,o⟩
 .exact .inl b
 .subst j;rcases l a b with⟨m,f,g,i⟩|⟨m,f,n,g,i,k,p⟩
  .grind
  .refine .inr (.inr ⟨m,f,n,i,by rw[o,g],k,?_⟩);exact Sz (λa q=>(l a q).v6) (λs c=>by have⟨v,hv,c⟩:=BE.1 c;have⟨e,he,hv⟩:=Mk.1 hv;exact p s (BE.2 ⟨e,he,BE.2 ⟨v,hv,c⟩⟩)) (GG k)
theorem Yx{h δ:S}{v:y}(i:∀b∈Ct h.get v,b∈δ):∀b∈Ct h.get v,M0 h δ b:=by
 intro b a;cases v with
 |ii n p o=>
  simp only[Ct]at a i;split at a
  .rename_i g c f;simp at a;subst a;exact .inl ⟨g,c,rfl,f⟩
  .rename_i g c f;split at a
   .rename_i j k;rcases DO.1 a with rfl|a
    .refine .inr ⟨g,c,j,rfl,f,k,λl m=>i l ?_⟩;grind
    .have⟨e,_,a⟩:=BE.1 a;exact .inl (L4 a)
   .cases a
  .cases a
 |_=>simp[Ct]at a
def Q2{h:S}{as:List y}:∀b∈as.flatMap (mark h.get),M0 h (as.flatMap (mark h.get)) b:=by intro b a;have⟨v,hv,a⟩:=BE.1 a;have⟨c,hc,a⟩:=BE.1 a;exact Yx (λf e=>BE.2 ⟨v,hv,BE.2 ⟨c,hc,e⟩⟩) b a
def hC(h f:S)(v:y):Prop:=∀b∈Hc v,H6 f b/\∀e a,h.get b=J (.arr e a)->∀g∈a.flatten,∀c∈Hc g,H6 f c
theorem xV{h f:S}(H:HR A a w h)(k:eT h f){v:y}{C:G4}{x:Ar}(o:VR a w (MS A a h) v C)(e:EB h.get v=J x)(i:hC h f v):DR w (MS A a f) x C:=by
 unfold EB at e;split at e
 .rename_i g P O;have L:=(i g (by simp[Hc])).1;split at e
  .rename_i V q l;split at e
   .rename_i Q r;cases o with
    |ii _ _ _ B b cap s R M F=>
     have K:b=J ⟨B.b,P*B.sz,I⟩\/O=0:=F.imp (λh=>h) (λh=>z);have⟨k',t,c,elem,h1,j,h3,h4,h5,h6,h7⟩:=H.obj g _ l;rw[s]at t;cases t;simp only[BY]at e;obtain⟨T,N,rfl⟩:=e;subst j;have⟨q1,q2⟩:=GF (GG r);refine VZ h1 (L.notMS H k s l (.inl rfl)) (OT r h5) (by grind [Ly]) (λp x v b D=>?_) N K M;have m:p<U q.flatten:=by rw[<-q1];exact(BI.1 b).1
     exact Qx H k (h7 p _ v (CI m) D) (q2 p _ x (CI m) b) ((i g (by simp[Hc])).2 _ q l _ (Mp m))
   .cases e
  .exact Qx H k o e λg n=>(i g n).1
 .exact Qx H k o e λg n=>(i g n).1
theorem mR{h δ:S}(p:∀a∈δ,M0 h δ a){v:y}{x:Ar}(b:EB h.get v=J x)(c:∀a∈Ct h.get v,a∈δ):hC h (h.q_d δ) v:=by
 intro r i;cases v with
 |ii C F D=>
  simp only[Hc,AS]at i;subst i;have n:∀a∈δ,a.2.mut=false:=λa q=>(p a q).v6;unfold EB at b;simp only[Ct]at c;refine⟨λs g=>?_,λl f o=>?_⟩
  .rcases JZ δ h r with⟨m,j⟩|⟨a,m,j,B⟩
   .rw[m]at g;cases s with|v6 l f=>rfl|f8 l f=>simp only[g]at c;exact absurd rfl (j _ (c _ (AS.2 rfl)))|arr l f=>grind [List.mem_cons_self]|box w=>simp[g,Fz]at b|map f=>simp[g,Fz]at b|loop H=>simp[g,Fz]at b
   grind
  .simp only[o]at b c;rcases hds:EN h.get f with _|A
   .rw[hds]at b;cases b
   .simp only[hds]at c;exact Sz n (λt k=>by have⟨v,hv,k⟩:=BE.1 k;have⟨e,he,hv⟩:=Mk.1 hv;exact c t (Bi _ (BE.2 ⟨e,he,BE.2 ⟨v,hv,k⟩⟩))) (GG hds)
 |_=>simp[Hc]at i
variable{g:G}
theorem YX:∀{a b:List y},Jn g a=J b->(U b)=U a/\∀(c:Nat) (v x:y),a[c]?=J v->b[c]?=J x->∃e,x=.d e/\EB g v=J e
 :=by intro x;induction x<;>grind [Jn]
variable{p:G4}
theorem ly{h f:S}(H:HR A a w h)(O:eT h f){v:y}(e:VR a w (MS A a h) v p)(c:FM h.get v=J x)(l:∀m∈MF v,∀g,EB h.get m=J g->hC h f m):
 VR a w (MS A a f) x p/\AD x=[]:=by
 have cell:∀{v:y} {p:G4} {g:Ar},VR a w (MS A a h) v p->EB h.get v=J g->(∀g,EB h.get v=J g->hC h f v)->DR w (MS A a f) g p:=λe c l=>xV H O e c (l _ c)
 have cells:∀{n q:List y} {m:Array G4},U n=m.size->(∀(i:Nat) (x:y) (v:G4),n[i]?=J x->m[i]?=J v->VR a w (MS A a h) x v)->Jn h.get n=J q->(∀v∈n,∀g,EB h.get v=J g->hC h f v)->
  VR a w (MS A a f) (.agg q) (.agg m)/\Ab q=[]:=by
  intro n q m s r c l;have⟨q1,q2⟩:=YX c;have L:∀(i:Nat) (x:y),q[i]?=J x->∃v g,n[i]?=J v/\x=.d g/\EB h.get v=J g:=by
   intro i x c;have C:i<U n:=by rw[<-q1];exact(BI.1 c).1
   obtain⟨g,k,j⟩:=q2 i _ x (CI C) c;exact⟨_,g,CI C,k,j⟩
  refine⟨.agg _ _ (by rw[q1];exact s) λi x v c e=>?_,?_⟩
  .obtain⟨o,g,k,rfl,j⟩:=L i x c;exact .d (cell (r i o v k e) j (l o (AP k)))
  .rw[On];grind [QH,List.mem_iff_getElem?,AD]
 have other:∀{v x:y} {p:G4},VR a w (MS A a h) v p->(EB h.get v).map y.d=J x->(∀g,EB h.get v=J g->hC h f v)->VR a w (MS A a f) x p/\AD x=[]:=by intro v x p e c l;simp only[BY]at c;obtain⟨g,B,rfl⟩:=c;exact⟨.d (cell e B l),rfl⟩
 unfold FM at c;split at c
 .rename_i n;simp only[BY]at c;obtain⟨q,t,rfl⟩:=c;cases e with|agg _ m s r=>have⟨k,j⟩:=cells s r t λv e=>l v e;exact⟨k,j⟩
 .cases c;cases e with|fn Q b P F K k j R T=>exact⟨.fn _ [] [] F K k j (λ_ _ _ h=>by simp at h) (λ_ _ _ h=>by simp at h),rfl⟩
 .rename_i D n;simp only[BY]at c;obtain⟨q,t,rfl⟩:=c;cases e with
  |iface _ _ p e=>cases e with|agg _ m s r=>have⟨k,j⟩:=cells s r t λv e=>l v e;exact⟨.iface _ _ _ k,j⟩
 .rename_i D o M;simp only[BY]at c;obtain⟨g,B,rfl⟩:=c;cases e with
  |iface _ _ p e=>
   have N:MF (.iface D o)=[o]:=by cases o<;>first|rfl|exact absurd rfl (M _)
   rw[N]at l;exact⟨.iface _ _ _ (.d (cell e B (l o AG))),rfl⟩
 grind [MF]
def fQ{h:S}(H:HR A a w h)(c:∀b∈δ,M0 h δ b){v:y}(j:VR a w (MS A a h) v p)(k:FM h.get v=J x)(i:∀b∈mark h.get v,b∈δ):
 VR a w (MS A a (h.q_d δ)) x p/\AD x=[]:=
 ly H (Jx c).sub j k λe f _ l=>mR c l λb g=>i b (BE.2 ⟨e,f,g⟩)
theorem mC{h:S}(H:HR A a w h){v:y}(b:VR a w (MS A a h) v p)(c:FM h.get v=J x):VR a w (MS A a []) x p/\AD x=[]:=ly H (eT.nil h) b c λ_ _ _ _ _ _=>⟨H6.nil _,λ_ _ _ _ _ _ _=>H6.nil _⟩
theorem bq:∀{a b:List y},Fk g a=J b->(U b)=U a/\∀(c:Nat) (v x:y),a[c]?=J v->b[c]?=J x->FM g v=J x
 :=by intro x;induction x<;>grind [Fk]
variable{c:Array G4}
def AJd{h:S}(H:HR A a w h)(n:∀m∈δ,M0 h δ m){g l:List y}(k:Hg a w (MS A a h) g c)(f:Fk h.get g=J l)(o:∀v∈g,∀m∈mark h.get v,m∈δ):
 Hg a w (MS A a (h.q_d δ)) l c/\∀x∈l,AD x=[]:=by
 have⟨q1,q2⟩:=bq f;have key:∀(b:Nat) (x:y) (e:l[b]?=J x),∃v,g[b]?=J v/\FM h.get v=J x:=by
  intro b x e;have i:b<U g:=by rw[<-q1];exact(BI.1 e).1
  exact⟨_,CI i,q2 b _ x (CI i) e⟩
 refine⟨⟨by rw[q1];exact k.1,λb x v f p=>?_⟩,λx f=>?_⟩
 .have⟨A9,h1,j⟩:=key b x f;exact(fQ H n (k.2 b A9 v h1 p) j (o A9 (AP h1))).1
 .have⟨b,e⟩:=QR.1 f;have⟨A9,h1,j⟩:=key b x e;have i:b<c.size:=by rw[<-k.1];exact(BI.1 h1).1
  exact(fQ H n (k.2 b A9 _ h1 (D9 i)) j (o A9 (AP h1))).2
def ya{h:S}(H:HR A a w h)(j:∀g∈δ,M0 h δ g){i:List y}(f:Hg a w (MS A a h) i c)(n:∀v∈i,∀g∈mark h.get v,g∈δ):
 Hg a w (MS A a (h.q_d δ)) (Qa h.get i) c:=by
 refine⟨by simp[Qa,f.1],λm x v l k=>?_⟩;simp only[Qa,Be,BY]at l;obtain⟨b,e,rfl⟩:=l;rcases hf:FM h.get b with _|x
 .exact(f.2 m b v e k).mono (.refl a) (Jx j).sub.ol
 .exact(fQ H j (f.2 m b v e k) hf (n b (AP e))).1
variable{f:G2}
def TJ{x:Ar}(a:HT x=X)(h:DR w M x v):DR f k x v:=by cases h with|int e g=>exact .int e g|bool c=>exact .bool c|str i=>exact .str i|nilp=>exact .nilp|nilf=>exact .nilf|wt=>exact .wt|nilm=>exact .nilm|lst0 b cap=>simp[HT]at a|co j=>simp[HT]at a
def lX:∀{c:List y},JJ c=X->∀x∈c,∃b,x=.d b/\HT b=X
 |[],_,x,a=>by cases a|v::c,h,x,a=>by
  cases v with
  |d b=>
   simp only[JJ,As]at h;rcases DO.1 a with rfl|a
   .exact⟨b,rfl,h.1⟩
   .exact lX h.2 x a
  |_=>simp[JJ]at h
def W9{e:BF}(i:flat x=X)(h:VR a w M x v):VR e f k x v:=by
 have cells:∀{g:List y} {c:Array G4},JJ g=X->(∀(l:Nat) (x:y) (v:G4),g[l]?=J x->c[l]?=J v->VR a w M x v)->
  ∀(l:Nat) (x:y) (v:G4),g[l]?=J x->c[l]?=J v->VR e f k x v:=by
  intro g c i j l x v q o;obtain⟨t,rfl,r⟩:=lX i x (AP q);cases j l _ v q o with|d m=>exact .d (TJ r m)
 cases h with
 |d m=>exact .d (TJ i m)|d9=>exact .d9|emp b=>exact .emp b|agg g c n j=>exact .agg g c n (cells i j)|kw g c n j=>exact .kw g c n (cells i j)
 |iface s v p o=>cases o with|d m=>exact .iface _ _ _ (.d (TJ i m))|agg g c n j=>exact .iface _ _ _ (.agg g c n (cells i j))|_=>simp[flat]at i
 |_=>simp[flat]at i
variable{A:Nat->Prop}{P:H5}{i:List Hk}{b f k:BF}{w e l:G2}{M:Nat->Prop}{h m q:S}{r ρ:u}{ci:Option u}{n:NT}{env:Nat->y}{o:List Df}{a:M3}
theorem NY{f:IY}(he:Nz P f)(args:Array G4):(callFunc f args).run P w=.ok (.enter f args) w:=by
 obtain⟨fn,c,h1,j,h3⟩:=he;have h3':fn.name≠ "runtime.NumGoroutine" :=by simpa using h3
 simp[callFunc,h1,j,h3']
variable{k:Nat->Prop}
def HR.none(b:∀a,k a->a<w.heap.size):HR k (λ_=>I) w []:=⟨λ_ _ h=>by simp at h,λ_ _ _ _ _ _ h=>by simp at h,λ_ _ h=>zCN,λ_ _ _ h=>by simp at h,b⟩
def rL{a:Nat}:MS k b [] a↔k a:=by simp[MS]
def HR.less(H:HR A b w h)(i:∀c e,m.get c=J e->h.get c=J e):HR A b w m:=by
 have r:∀g,MS A b m g->MS A b h g:=by
  rintro g (k|⟨c,e,f,n,j,o,p⟩)
  .exact .inl k
  .exact .inr ⟨c,e,f,i c e n,j,o,p⟩
 refine⟨λc e l=>?_,λa g v x s t q k=>H.inj a g v x s t (i _ _ q) (i _ _ k),H.bnd,λc e f l=>H.out c e f (i _ _ l),H.abnd⟩;have⟨f,hk,hr⟩:=H.obj c e (i _ _ l);exact⟨f,hk,hr.mono (.refl b) (Hn (A:=A) r w) (H.bnd c f hk) rfl⟩
theorem YJ(K:u->Bool)(h:S)(a:u):S.get (h.filter λb=>K b.1) a=if K a then h.get a else none:=by induction h with|nil=>simp|cons b h c=>grind [S.q_f]
def SD(ρ:u)(a:u):Bool:=match a with|0::l=> !AE ρ l|_=>X
theorem fR{a:u}(b:SD ρ a=Z):ρ<:+a:=by unfold SD at b;grind [Id.q_a]
theorem tD(h:S)(a:u):(gc ρ h).get a=h.get a\/((gc ρ h).get a=I/\ρ<:+a):=by have b:gc ρ h=h.filter λc=>SD ρ c.1:=rfl;rw[b,YJ (SD ρ)];grind [fR]
theorem Qy{a:u}{b:Obj}(c:(gc ρ h).get a=J b):h.get a=J b:=by grind [tD]
theorem CX.gcs{k:u}(v:ρ<:+k)(g:CX A ci ρ b w h f e m):CX A ci ρ b w h f e (gc k m):=by
 refine⟨g.out,g.hr.less λc i=>Qy,⟨g.ol.pm,g.ol.size,λl a=>g.ol.sub l ?_,g.ol.io⟩,λt r q=>?_⟩
 .rcases a with a|⟨c,i,s,n,j,o,p⟩
  .exact .inl a
  .exact .inr ⟨c,i,s,Qy n,j,o,p⟩
 .have⟨a1,a2,a3⟩:=g.kept t r q;grind [tD]
theorem CX.gc(g:CX A ci ρ b w h f e m):CX A ci ρ b w h f e (gc ρ m):=g.gcs (Ty _)
theorem AJx(ρ:u)(v:y):ρ<:+TQ ρ v:=by
 unfold TQ;split
 .exact⟨[0,0],rfl⟩
 .exact Ty _
def X8(ρ:u):BG->u
 |.ret v=>TQ ρ v|_=>ρ
theorem AJr(ρ:u)(c:BG):ρ<:+X8 ρ c:=by unfold X8;grind [AJx]
theorem HR.same(H:HR A b w h)(i:∀a,a<w.heap.size->e.heap[a]?=w.heap[a]?)(j:w.heap.size<=e.heap.size)(l:e.os=w.os/\e.output=w.output):HR A b e h:=H.step (.refl b) ⟨λa k _=>i a k,j,λ_ h=>.inl h,l⟩ (λg n m=>.inl ⟨m,λc f=>i c.b (H.bnd g c f)⟩) H.inj (λg c f=>LI (H.bnd g c f) j) H.out
def Nd(H:HR A b w h)(f:∀a,a<w.heap.size->e.heap[a]?=w.heap[a]?)(i:w.heap.size<=e.heap.size)(g:e.os=w.os/\e.output=w.output):CX A ci ρ b w h b e h:=⟨λ_ _=>rfl,H.same f i g,⟨λa c _=>f a c,i,λ_ h=>.inl h,g⟩,λ_ _ _=>⟨λa c _=>f a c,λ_ c=>.inl c,λ_ _=>rfl⟩⟩
variable{i:S}
theorem AH0(r:HR A b w i)(av:∀h,h<w.heap.size->e.heap[h]?=w.heap[h]?)(Y:w.heap.size<=e.heap.size)(a6:e.os=w.os/\e.output=w.output)(az:Fi b ρ)(B:HR k f e j)(bh:∀c,f c≠I->ρ<:+c) (K:∀c g,f c=J g->w.heap.size<=g.b) (ar:∀h,MS A b i h->k h):
 ∃p,Le b p/\Le f p/\(∀c,¬ρ<:+c->p c=b c)/\(∀c g,p c=J g->b c=J g\/(ρ<:+c/\w.heap.size<=g.b))/\HR A p e (i++j)/\(∀h,MS A p (i++j) h->MS k f j h)/\
  FI A (MS A b i) w (MS A p (i++j)) e:=by
 classical
 let p:BF:=λc=>if ρ<:+c then f c else b c
 have T:Le b p:=λc g m=>by
  have:¬ρ<:+c:=λW=>by rw[az c W]at m;cases m
  grind
 have V:Le f p:=λc g m=>by grind
 have x:∀c g,p c=J g->(ρ<:+c/\f c=J g)\/(¬ρ<:+c/\b c=J g):=λc g m=>by grind
 have bk:∀c l,i.get c=J l->¬ρ<:+c:=λc l v W=>by have⟨g,m,_⟩:=r.obj c l v;rw[az c W]at m;cases m
 have bl:∀c l,j.get c=J l->ρ<:+c:=λc l v=>by have⟨g,m,_⟩:=B.obj c l v;grind
 have gt:∀c l,(i++j).get c=J l->(i.get c=J l/\¬ρ<:+c)\/(j.get c=J l/\ρ<:+c):=by
  intro c l v;rw[S.get_append]at v;rcases hg:i.get c with _|bi
  .grind
  .grind
 have a2:∀h,MS A p (i++j) h->MS k f j h:=by
  rintro h (q|⟨c,l,g,ad,L,ag,rfl⟩)
  .exact .inl (ar h (.inl q))
  .rcases gt c l ad with⟨o,n⟩|⟨o,n⟩<;>rcases x c g ag with⟨s,t⟩|⟨s,t⟩
   .exact absurd s n
   .exact .inl (ar g.b (.inr ⟨c,l,g,o,L,t,rfl⟩))
   .exact .inr ⟨c,l,g,o,L,t,rfl⟩
   .exact absurd n s
 have a3:FI A (MS A b i) w (MS A p (i++j)) e:=by
  refine⟨λh q _=>av h q,Y,?_,a6⟩;rintro h (q|⟨c,l,g,ad,L,ag,rfl⟩)
  .exact .inl (.inl q)
  .rcases gt c l ad with⟨o,n⟩|⟨o,n⟩<;>rcases x c g ag with⟨s,t⟩|⟨s,t⟩
   .exact absurd s n
   .exact .inl (.inr ⟨c,l,g,o,L,t,rfl⟩)
   .exact .inr (K c g t)
   .exact absurd n s
 refine⟨p,T,V,λc a5=>by simp only[p,Co a5],λc g m=>?_,⟨λc l v=>?_,?_,λc g m=>?_,λc l g v be m q=>?_,λh q=>LI (r.abnd h q) Y⟩,a2,a3⟩
 .grind
 .rcases gt c l v with⟨o,n⟩|⟨o,n⟩
  .have⟨g,m,hr⟩:=r.obj c l o;exact⟨g,T _ _ m,hr.mono T a3 (r.bnd c g m) (av g.b (r.bnd c g m))⟩
  .have⟨g,m,hr⟩:=B.obj c l o;exact⟨g,V _ _ m,hr.mono V (Hn (A:=A) a2 e) (B.bnd c g m) rfl⟩
 .intro a h aa ac F H a4 q a0 a1 a' bc ai;rcases gt a aa a4 with⟨M,N⟩|⟨M,N⟩<;>rcases gt h ac q with⟨P,Q⟩|⟨P,Q⟩<;>
   rcases x a F a' with⟨O,C⟩|⟨O,C⟩<;>rcases x h H bc with⟨R,D⟩|⟨R,D⟩<;>try(first|exact absurd O N|exact absurd R Q|exact absurd N O|exact absurd Q R)
  .exact r.inj a h aa ac F H M P a0 a1 C D ai
  .have:=r.bnd a F C;have:=K h H D;omega
  .have:=r.bnd h H D;have:=K a F C;omega
  .exact B.inj a h aa ac F H M P a0 a1 C D ai
 .rcases x c g m with⟨o,n⟩|⟨o,n⟩
  .exact B.bnd c g n
  .exact LI (r.bnd c g n) Y
 .rcases gt c l v with⟨o,n⟩|⟨o,n⟩<;>rcases x c g m with⟨s,t⟩|⟨s,t⟩
  .exact absurd s n
  .exact r.out c l g o be t q
  .have:=r.abnd _ q;have:=K c g t;omega
  .exact absurd n s
def SG(H:HR A b w h)(a:∀f∈δ,M0 h δ f)(e:J4 ci δ=X):CX A ci ρ b w h b w (h.q_d δ):=IK (.refl b) (λ_ c=>.inl c) ((Jx a).hr H) (Jx a).sub.ol (.refl _ _ _) e
def Ig(A:Nat->Prop)(ci:Option u)(ρ:u)(n:NT)(b:BF)(w:G2)(h:S)(env:Nat->y)(o:List Df)(a:M3)(m:S):BG->Ending->G2->Prop
 |.ret v,.returned p,e=>∃f,CX A ci ρ b w h f e m/\PD A f e n env o m a/\VR f e (MS A f m) v p|.of v,.panicked chain,e=>∃f p,CX A ci ρ b w h f e m/\PD A f e n env o m a/\chain=[{v:=p,recovered:=Z}]/\VR f e (MS A f m) v p|_,_,_=>False
variable{l:Ending}
def XH{k:BG×S}(D:CX A ci ρ b w h b w i)(K:Fi b ρ)(O:PD A b w n env o h a)(H:Sj A ci ρ b w i k l e):
 Ig A ci ρ n b w h env o a (gc (X8 ρ k.1) k.2) k.1 l e:=by
 obtain⟨f,g,r⟩:=H;have q:=(D.trans g).gcs (AJr ρ k.1);have B:=O.mono (q.le K) q.ol;have C:∀s,MS A f (gc (X8 ρ k.1) k.2) s->MS A f k.2 s:=by
  rintro s (F|⟨L,N,M,i,j,t,x⟩)
  .exact .inl F
  .exact .inr ⟨L,N,M,Qy i,j,t,x⟩
 obtain⟨c,m⟩:=k;cases c with
 |ret v=>cases l with|returned p=>exact⟨f,q,B,VR.mono (.refl _) (Hn (A:=A) C e) r⟩|_=>exact r.elim
 |of v=>cases l with|panicked chain=>obtain⟨p,t,x⟩:=r;exact⟨f,p,q,B,t,x.mono (.refl _) (Hn (A:=A) C e)⟩|_=>exact r.elim
def ANU{q:BG×S}(H:HR A b w h)(t:Fi b ρ)(O:PD A b w n env o h a)(M:Sj A (J ρ) ρ b w i q l e)(x:∀v,q.1=.ret v\/q.1=.of v->flat v=X):
 Ig A ci ρ n b w h env o a h q.1 l e:=by
 obtain⟨f,g,s⟩:=M;have⟨k1,_,_⟩:=g.kept ρ (Ty _) (.inl rfl);have K:∀j,j<w.heap.size->e.heap[j]?=w.heap[j]? :=λj L=>k1 j L λ⟨N,k,u1,C,_⟩=>by rw[t N u1]at C;cases C
 have r:CX A ci ρ b w h b e h:=Nd H K g.ol.size g.ol.io;have B:=O.mono (r.le t) r.ol;obtain⟨c,m⟩:=q;cases c with
 |ret v=>cases l with|returned p=>exact⟨b,r,B,W9 (x v (.inl rfl)) s⟩|_=>exact s.elim
 |of v=>cases l with|panicked chain=>obtain⟨p,D,F⟩:=s;exact⟨b,p,r,B,D,W9 (x v (.inr rfl)) F⟩|_=>exact s.elim
section loops
variable{W:Lp->Prop}
def fe:Obj->Bool
 |.loop _=>X|_=>Z
def Bp(δ:S):Prop:=∀p∈δ,fe p.2=Z
theorem Bp.nil:Bp []:=λ_ h=>by cases h
def Bp.append{a b:S}(i:Bp a)(j:Bp b):Bp (a++b):=λc e=>(Ac.1 e).elim (i c) (j c)
theorem Bp.one{b:u}{a:Obj}(h:fe a=Z):Bp [(b,a)]:=λe c=>by grind
def Bp.cons{c:u}{b:Obj}{δ:S}(h:fe b=Z)(j:Bp δ):Bp ((c,b)::δ):=λe a=>by
 rcases DO.1 a with rfl|a
 .exact h
 .exact j e a
theorem Bp.marks{g:G}(b:List y):Bp (Ck g b):=λc a=>by have⟨sz,es,h,_⟩:=L4 a;rw[h];rfl
def Bp.markEs{g:G}(b:List (List y)):Bp (b.flatMap (Ck g)):=λc a=>by have⟨l,_,a⟩:=BE.1 a;exact Bp.marks l c a
theorem LW.q_d{h δ:S}(e:LW W h)(f:Bp δ):LW W (h.q_d δ):=λb j a=>by
 rcases JZ δ h b with⟨i,_⟩|⟨g,i,_,c⟩
 .rw[i]at a;exact e b j a
 .rw[c]at a;have l:=KW a;have:=f g i;rw[l]at this;cases this
theorem LW.gc{h:S}(a:LW W h):LW W (gc ρ h):=λc e b=>a c e (Qy b)
def LW.cons{h:S}{b:u×Obj}(c:LW W h)(e:fe b.2=Z):LW W (b::h):=λf g a=>by
 obtain⟨i,j⟩:=b;rw[S.q_f]at a;split at a
 .cases a;cases e
 .exact c f g a
def LW.append{h j:S}(i:LW W h)(e:LW W j):LW W (h++j):=λb c a=>by
 rw[S.get_append]at a;rcases hg:h.get b with _|f
 .rw[hg]at a;exact e b c a
 .rw[hg]at a;cases a;exact i b c hg
theorem LW.nil:LW W []:=λ_ _ h=>by cases h
theorem Bp.q_H{h:S}(as:List y):Bp (as.flatMap (mark h.get)):=λb a=>by rcases Q2 (h:=h) (as:=as) b a with⟨_,_,l,_⟩|⟨_,_,_,l,_⟩<;>rw[l]<;>rfl
end loops
variable{A:Nat->Prop}{P:H5}{e:List Hk}{b o g:BF}{w f m:G2}{M:Nat->Prop}{h B q:S}{k n:u}{ci:Option u}{r:NT}{env:Nat->y}{t:List Df}{a:M3}{W:Lp->Prop}
variable{s:S}
theorem pT{h B:S}{a:u}(b:a∈s.map (·.1)):(h.q_d s).get a=(B.q_d s).get a:=by induction s generalizing h B with|nil=>cases b|cons e s c=>grind [S.q_F,Qz,S.q_e]
theorem QJ{h:S}{a:u}(b:a∉s.map (·.1)):(h.q_d s).get a=h.get a:=by grind [Qz]
def nl(e:Option (List u))(new c:G):G:=λa=>match e with|some b=>if a∈b then new a else c a|none=>new a
variable{g m:G}
theorem V7{vs:List y}(h:∀v∈vs,EB g v=EB m v):Jn g vs=Jn m vs:=by induction vs with|nil=>rfl|cons v vs a=>grind [Jn]
def NW{c e:List u}(h:∀b∈e,b∈c):∀b∈BD g e,b∈BD g c:=by
 intro b a;rcases Ac.1 a with a|a
 .exact Ip _ (h b a)
 .have⟨x,i,j⟩:=BE.1 a;exact II _ (BE.2 ⟨x,h x i,j⟩)
variable{v:y}
theorem s6(h:At g m (BD g (AD v))):EB g v=EB m v:=by
 have e:Fz g v=Fz m v:=YT (h.mono λa b=>Ip _ b);cases v with
 |ii a k j=>
  have l:=h a (Ip _ Az);rcases hg:g a with _|f
  .grind [EB]
  .rw[hg]at l;cases f with|arr n c=>simp only[EB,hg,<-l];rw[Mi (g:=g) (g':=m) (es:=c) (h.mono λi b=>II _ (BE.2 ⟨a,Az,by simp only[hg];exact b⟩))]|_=>grind [EB]
 |_=>exact e
theorem ny(h:At g m (BD g (AD v))):Ct g v=Ct m v:=by
 cases v with
 |ii a k j=>
  have l:=h a (Ip _ Az);simp only[Ct];rw[<-l];rcases hg:g a with _|e
  .rfl
  .cases e with|arr n b=>have f:At g m (b.flatMap Ab):=h.mono λi c=>II _ (BE.2 ⟨a,Az,by simp only[hg];exact c⟩);grind [Mi,Oo]|_=>rfl
 |_=>rfl
def dC{v x:y}(a:x∈MF v):∀c∈AD x,c∈AD v:=by
 intro c b;cases v with
 |agg e=>exact Ni a b
 |iface f p=>cases p with|agg e=>simp only[AD];exact Ni a b|_=>simp only[MF,AS]at a;subst a;simpa[AD]using b
 |_=>simp only[MF,AS]at a;subst a;exact b
def sw(h:At g m (BD g (AD v))):FM g v=FM m v:=by
 have b:∀x∈MF v,EB g x=EB m x:=λx f=>s6 (h.mono (NW (dC f)));cases v with
 |agg c=>simp only[FM];rw[V7 (vs:=c) b]
 |iface j p=>cases p with|agg c=>simp only[FM];rw[V7 (vs:=c) b]|_=>simp only[FM];rw[b _ (by simp[MF])]
 |fn i a e=>cases a<;>cases e<;>first|rfl|(simp only[FM];rw[b _ (by simp[MF])])
 |_=>simp only[FM];rw[b _ (by simp[MF])]
theorem uJ(h:At g m (BD g (AD v))):mark g v=mark m v:=by
 unfold mark;have:∀a:List y,(∀x∈a,Ct g x=Ct m x)->a.flatMap (Ct g)=a.flatMap (Ct m):=by intro a c;induction a with|nil=>rfl|cons x a e=>grind
 exact this _ λx b=>ny (h.mono (NW (dC b)))
def OU{a:List y}(h:At g m (BD g (Ab a))):Fk g a=Fk m a:=by induction a with|nil=>rfl|cons v a e=>simp only[Fk];rw[sw (v:=v) (h.mono (NW λc b=>by simp[Ab,b])),e (h.mono (NW λc b=>by simp[Ab,b]))]
def n9{vs:List y}(h:At g m (BD g (Ab vs))):vs.flatMap (mark g)=vs.flatMap (mark m):=by induction vs with|nil=>rfl|cons v vs c=>simp only[FN];rw[uJ (v:=v) (h.mono (NW λb a=>by simp[Ab,a])),c (h.mono (NW λb a=>by simp[Ab,a]))]
variable{as q:List y}
def SV{g:IY}{f:Array G4}{l:BG×S}(H:HR A b w h)(n:wa P W (.fn g) q [] k Z I l)(c:Fk h.get as=J q)(a:Hg b w (MS A b h) as f):
 Calls P g f w (Sj (MS A b (h.q_d (as.flatMap (mark h.get)))) I k (λ_=>I) w [] l):=by
 have i:=Q2 (h:=h) (as:=as);have r:∀v∈as,∀j∈mark h.get v,j∈as.flatMap (mark h.get):=λv a j p=>BE.2 ⟨v,a,p⟩;have⟨q1,q2⟩:=AJd H i a c r;have m:=(Jx i).hr H;refine n.pu rfl rfl rfl (MS A b (h.q_d (as.flatMap (mark h.get)))) w f (HR.none λo e=>m4 m e) (λ_ _=>rfl) ⟨q1.1,λs x v c a=>?_⟩;exact(q1.2 s x v c a).noIds (λo e=>rL.1 e) (q2 x (AP c))
structure ADO(A1:Nat->Prop)(π:u)(w:G2)(r:BG×S)(β':BF)(w':G2):Prop:=
 all:∀b,b<w.heap.size->w'.heap[b]?=w.heap[b]?
 size:w.heap.size<=w'.heap.size
 io:w'.os=w.os/\w'.output=w.output
 hr:HR A1 β' w' r.2
 ids:∀id,β' id≠I->π<:+id
 new:∀id k,β' id=J k->w.heap.size<=k.b
variable{j:Nat->Prop}{e:Ending}
def RF{b:BG×S}(r:Sj j I k (λ_=>I) w [] b e f):∃o,ADO j k w b o f/\nk o f (MS j o b.2) b.1 e:=by
 obtain⟨o,g,v⟩:=r;have n:∀a,o a≠I->k<:+a:=λa s=>by
  by_cases e:k<:+a
  .exact e
  .exact absurd (g.out a e) s
 refine⟨o,⟨λc m=>?_,g.ol.size,g.ol.io,g.hr,n,λa q p=>?_⟩,v⟩
 .by_cases l:j c
  .exact g.ol.pm c m (.inr l)
  .exact g.ol.pm c m (.inl λt=>l (rL.1 t))
 .have⟨_,k2,_⟩:=g.kept k (Ty _) (.inr λ_ h=>absurd rfl h);rcases k2 q.b ⟨a,q,n a (by rw[p];simp),p,rfl⟩with⟨_,_,_,i,_⟩|i
  .cases i
  .exact i
def AB3{g:BG×S}(H:HR A b w h)(C:Fi b n)(D:PD A b w r env t h a)(x:Sj j I k (λ_=>I) w [] g e f)(i:∀v,g.1=.ret v\/g.1=.of v->flat v=X):Ig A ci n r b w h env t a h g.1 e f:=by
 have⟨o,L,hr⟩:=RF x;have m:CX A ci n b w h b f h:=Nd H L.all L.size L.io;have l:=D.mono (m.le C) m.ol;obtain⟨c,B⟩:=g;cases c with
 |ret v=>cases e with|returned p=>exact⟨b,m,l,W9 (i v (.inl rfl)) hr⟩|_=>exact hr.elim
 |of v=>cases e with|panicked chain=>obtain⟨p,q,s⟩:=hr;exact⟨b,p,m,l,q,W9 (i v (.inr rfl)) s⟩|_=>exact hr.elim
variable{h2:S}
theorem ln{i:S}(H:HR A b w h)(x:Fi b n)(l:CX A ci n b w h b w i)(v:∀c,c<w.heap.size->f.heap[c]?=w.heap[c]?)(O:w.heap.size<=f.heap.size)(L:f.os=w.os/\f.output=w.output)(s:HR j o f h2) (K:∀a,o a≠I->n<:+a) (M:∀a g,o a=J g->w.heap.size<=g.b) (C:∀c,MS A b i c->j c):
 ∃k,Le o k/\CX A ci n b w h k f (h2++i)/\∀c,MS A k (h2++i) c->MS j o h2 c:=by
 have⟨k,e1,e2,e3,e4,e5,e6,e7⟩:=AH0 l.hr v O L x s K M C;have aa:∀a e,i.get a=J e->¬n<:+a:=λa e q N=>by have⟨g,p,_⟩:=l.hr.obj a e q;rw[x a N]at p;cases p
 have ac:∀a e,h2.get a=J e->n<:+a:=λa e q=>by have⟨g,p,_⟩:=s.obj a e q;grind
 have B:∀a,(i++h2).get a=(h2++i).get a:=by intro a;rw[S.get_append,S.get_append];cases V:i.get a with|none=>cases h2.get a<;>rfl|some e=>cases m:h2.get a with|none=>rfl|some Y=>grind
 have t:=MS.congr (A:=A) (β:=k) B;refine⟨k,e2,⟨e3,e5.congr B,?_,λT P D=>?_⟩,by rw[<-t];exact e6⟩
 .rw[<-t];exact l.ol.trans e7
 .have⟨a1,a2,a3⟩:=l.kept T P D;refine⟨λc m W=>v c m,?_,λa F=>?_⟩
  .rintro c ⟨a,g,Q,R,rfl⟩;rcases e4 a g R with r|⟨_,r⟩
   .exact .inl ⟨a,g,Q,r,rfl⟩
   .exact .inr r
  .rw[S.get_append];rcases m:h2.get a with _|e
   .exact a3 a F
   .grind
theorem AB4(H:HR A b w h)(c:Fi b n)(m:PD A b w r env t h a)(l:J4 ci (as.flatMap (mark h.get))=X)(k:Sj (MS A b (h.q_d (as.flatMap (mark h.get)))) I n (λ_=>I) w [] (.ret v,h2) e f):
 Ig A ci n r b w h env t a (h2++h.q_d (as.flatMap (mark h.get))) (.ret v) e f:=by
 have⟨o,L,hr⟩:=RF k;have i:=SG (ρ:=n) (ci:=ci) H (Q2 (as:=as)) l;have⟨β2,l1,g,hm⟩:=ln H c i L.all L.size L.io L.hr L.ids L.new λq j=>j;cases e with|returned p=>exact⟨β2,g,m.mono (g.le c) g.ol,VR.mono l1 (Hn (A:=A) hm f) hr⟩|_=>exact hr.elim
theorem vG{as:List y}{v:y}{h2:S}{e:Ending}(H:HR A b w h)(m:Fi b n)(x:PD A b w r env t h a)(s:J4 ci (as.flatMap (mark h.get))=X)(q:AD v=[])(j:h2=[])(l:Sj (MS A b (h.q_d (as.flatMap (mark h.get)))) I [] (λ_=>I) w [] (.ret v,h2) e f):
 Ig A ci n r b w h env t a (h2++h.q_d (as.flatMap (mark h.get))) (.ret v) e f:=by
 subst j;have⟨o,L,hr⟩:=RF l;have c:=SG (ρ:=n) (ci:=ci) H (Q2 (as:=as)) s;have i:CX A ci n b w (h.q_d (as.flatMap (mark h.get))) b f (h.q_d (as.flatMap (mark h.get))):=Nd c.hr L.all L.size L.io;have g:=c.trans i;cases e with|returned p=>exact⟨b,g,x.mono (g.le m) g.ol,VR.noIds (λB k=>rL.2 k) hr q⟩|_=>exact hr.elim
theorem AG8{P:u×Obj}(H:HR A b w h)(N:Fi b n)(a1:PD A b w r env t h a)(l:Dj v h2=J P)(Y:Sj j I n (λ_=>I) w [] (.ret v,h2) e f):Ig A ci n r b w h env t a (P::h) (.ret v) e f:=by
 have⟨o,L,hr⟩:=RF Y;unfold Dj at l;split at l
 .rename_i C a0 az;split at l
  .rename_i K D aa;split at l
   .rename_i a4;cases l;have⟨k,hk,c,elem,q1,q2,q3,q4,q5,q6,q7⟩:=L.hr.obj C _ aa;have Q:HR (MS A b h) o f [(C,.f8 K D)]:=by
     have ag:∀{s:u} {B:Obj},S.get [(C,Obj.f8 K D)] s=J B->s=C/\B=.f8 K D:=by
      intro s B q;rw[S.q_f]at q;split at q
      .grind
      .cases q
     refine⟨λs B q=>?_,λa M a' B a5 a6 a3 m _ _ _ _ _=>by grind,L.hr.bnd,λs B F q ad ac m=>?_,λM m=>LI (m4 H m) L.size⟩
     .obtain⟨rfl,rfl⟩:=ag q;refine⟨k,hk,c,elem,q1,q2,q3,q4,q5,q6,λav x a2 O ar=>TJ ?_ (q7 av x a2 O ar)⟩;have⟨e',he',hx'⟩:=Mk.1 (AP O);grind
     .have:=m4 H m;have:=L.new s F ac;omega
    have⟨β2,l1,g,ad⟩:=ln (ci:=ci) H N (CX.refl H) L.all L.size L.io Q L.ids L.new λM m=>m;cases e with
    |returned p=>refine⟨β2,g,a1.mono (g.le N) g.ol,?_⟩;have ai:VR o f (MS j o h2) (.ii C a0 az) p:=hr;cases ai with|ii _ _ _ F R cap i T V W=>exact .ii _ _ _ F R cap (l1 _ _ i) T V W
    |_=>exact hr.elim
   .cases l
  .cases l
 .cases l
variable{A:Nat->Prop}{P:H5}{o:List Hk}{k a B:BF}{w n D:G2}{M:Nat->Prop}{h r C:S}{t b:u}{ci:Option u}{nt:NT}{env:Nat->y}{f j:List Df}{l:M3}{ro:Option Nat}{W:Lp->Prop}
def wM(c:Fp)(g b:G):Prop:=match c.rd,c.ext with|some f,_=>At g b f|none,X=>∀a e,g a=J e->b a=J e|none,Z=>∀a,g a=b a
def So(P:H5)(ro:Option Nat)(ci:Option u)(b:u)(nt:NT)(c:G5)(env:Nat->y)(f:List Df)(h:S)(v:y)(j:List Df)(r:S):Prop:=
 ∀(A:Nat->Prop) (k:BF) (w:G2) (l:M3),HR A k w h->Fi k b->PD A k w nt env f h l->∀(next:M3->G2->Prop) (Q:OA->M3->G2->Prop),
  (∀a n,k9 A ci b nt k w h (VT env c.dst v) j r a n->next a n)->c.wpIn (FF ro) 0 P l w next Q
def eI(A:Nat->Prop)(ci:Option u)(t:u)(nt:NT)(k:BF)(w:G2)(h:S)(env:Nat->y)(f:List Df)(r:S)(v:y)(p:G4)(b:M3)(n:G2):Prop:=∃a,CX A ci t k w h a n r/\PD A a n nt env f r b/\VR a n (MS A a r) v p
def eJ(P:H5)(ro:Option Nat)(ci:Option u)(b:u)(nt:NT)(c:G5)(env:Nat->y)(f:List Df)(h:S)(v:y)(r:S):Prop:=
 ∀(A:Nat->Prop) (k:BF) (w:G2) (l:M3),HR A k w h->Fi k b->PD A k w nt env f h l->∀(next:M3->G2->Prop) (Q:OA->M3->G2->Prop),
  (∀a n p,eI A ci b nt k w h env f r v p a n->Q (.panic [{v:=p,recovered:=Z}]) a n)->c.wpIn (FF ro) 0 P l w next Q
variable{o:G5}{Q:OA->M3->G2->Prop}
def bW{g:IY}{i:Array G4}{next:M3->G2->Prop}(B:(o.semAt ro l.eval).run P w=.ok (.enter g i) w)(s:∀d,o.dst=J d->d<nt.n)(q:Calls P g i w (Ig A ci b nt k w h env f l r (.ret v))) (x:∀j n,k9 A ci b nt k w h (VT env o.dst v) f r j n->next j n):o.wpIn (FF ro) 0 P l w next Q:=by refine⟨λ_ _=>trivial,?_⟩;have e:(o.semAt (FF ro).round l.eval).run P w=.ok (.enter g i) w:=B;rw[e,Oper.uponIn_enter];refine⟨λt=>by simp[FF,Fence.wide]at t,CallsIn.mono (callsIn_wide.2 q) ?_⟩;intro e D c;cases e with|returned p=>obtain⟨a,m,F,C⟩:=c;exact x _ _ ⟨a,m,F.put s C⟩|panicked chain=>exact c.elim|outgrown=>exact c.elim
def bU{g:IY}{i:Array G4}{next:M3->G2->Prop}(x:(o.semAt ro l.eval).run P w=.ok (.enter g i) w)(q:Calls P g i w (Ig A ci b nt k w h env f l r (.of v))) (t:∀j n p,eI A ci b nt k w h env f r v p j n->Q (.panic [{v:=p,recovered:=Z}]) j n):o.wpIn (FF ro) 0 P l w next Q:=by refine⟨λ_ _=>trivial,?_⟩;have e:(o.semAt (FF ro).round l.eval).run P w=.ok (.enter g i) w:=x;rw[e,Oper.uponIn_enter];refine⟨λs=>by simp[FF,Fence.wide]at s,CallsIn.mono (callsIn_wide.2 q) ?_⟩;intro e D c;cases e with|returned p=>exact c.elim|panicked chain=>obtain⟨a,p,m,C,rfl,B⟩:=c;exact t _ _ p ⟨a,m,C,B⟩|outgrown=>exact c.elim
variable{j:Array G4}{B C:Code}
def ACO{i:Nat}{c:IY}{next:M3->G2->Prop}(H:(o.semAt ro l.eval).run P w=.ok (.round i c j B C) w)(t:∀d,o.dst=J d->d<nt.n)(s:RoundIn Fence.wide 0 P i c j B C w (Ig A ci b nt k w h env f l r (.ret v))) (F:∀q n,k9 A ci b nt k w h (VT env o.dst v) f r q n->next q n):o.wpIn (FF ro) 0 P l w next Q:=by refine⟨λ_ _=>trivial,?_⟩;have e:(o.semAt (FF ro).round l.eval).run P w=.ok (.round i c j B C) w:=H;rw[e,Oper.uponIn_round];refine⟨λx=>by simp[FF,Fence.wide]at x,RoundIn.mono (F:=Fence.wide) s ?_⟩;intro e D g;cases e with|returned p=>obtain⟨a,m,L,K⟩:=g;exact F _ _ ⟨a,m,L.put t K⟩|panicked chain=>exact g.elim|outgrown=>exact g.elim
def ACN{i:Nat}{c:IY}{next:M3->G2->Prop}(F:(o.semAt ro l.eval).run P w=.ok (.round i c j B C) w)(s:RoundIn Fence.wide 0 P i c j B C w (Ig A ci b nt k w h env f l r (.of v))) (x:∀q n p,eI A ci b nt k w h env f r v p q n->Q (.panic [{v:=p,recovered:=Z}]) q n):o.wpIn (FF ro) 0 P l w next Q:=by refine⟨λ_ _=>trivial,?_⟩;have e:(o.semAt (FF ro).round l.eval).run P w=.ok (.round i c j B C) w:=F;rw[e,Oper.uponIn_round];refine⟨λt=>by simp[FF,Fence.wide]at t,RoundIn.mono (F:=Fence.wide) s ?_⟩;intro e D g;cases e with|returned p=>exact g.elim|panicked chain=>obtain⟨a,p,m,K,rfl,H⟩:=g;exact x _ _ p ⟨a,m,K,H⟩|outgrown=>exact g.elim
def PB(P:H5)(ci:Option u)(b:u)(nt:NT)(e:IY)(as:List y)(env:Nat->y)(f:List Df)(h:S)(r:S)(c:BG):Prop:=∀(A:Nat->Prop) (k:BF) (w:G2) (l:M3) (a:Array G4),HR A k w h->Fi k b->PD A k w nt env f h l->Hg k w (MS A k h) as a->Calls P e a w (Ig A ci b nt k w h env f l r c)
variable{K:Ah}{a:St}{j:S}
def vv(N:EI P W K){B:IY}{c:BG}(M:LW W a.heap)(L:K (.fn B) (Qa a.heap.get as) (a.heap.q_d (as.flatMap (mark a.heap.get))) b X (J b)=.ok (c,j))(T:∀v,c=.ret v\/c=.of v->flat v=X)  (i:∀g o,a.heap.get g=J o->h2.get g=J o):PB P ci b nt B as env f h2 h2 c:=by intro A k w l ag H C ad r;have D:eT h2 a.heap:=λg o q m=>⟨o,i g o q,m⟩;have x:=H.step (.refl k) D.ol (λg o q=>.inl ⟨i g o q,λ_ _=>rfl⟩) (λl F t ac s aa p O=>H.inj l F t ac s aa (i _ _ p) (i _ _ O)) H.bnd λl t s p=>H.out l t s (i _ _ p);have m:=Q2 (h:=a.heap) (as:=as);have Y:=ya x m (Hg.mono (.refl k) D.ol r) λv r ai V=>BE.2 ⟨v,r,V⟩;have Q:=(N _ _ _ _ _ _ _ L).rw rfl (λ_ _ h=>by cases h) (M.q_d (Bp.q_H as)) A k w ag ((Jx m).hr x) C Y;exact Q.mono λe n R=>ANU H C ad R T
def uY(C:EI P W K){p:IY}{c:BG}(N:J4 ci (as.flatMap (mark a.heap.get))=X)(x:LW W a.heap) (t:K (.fn p) (Qa a.heap.get as) (a.heap.q_d (as.flatMap (mark a.heap.get))) b X ci=.ok (c,j))  (i:∀g,a.heap.get g=h2.get g):PB P ci b nt p as env f h2 (gc (X8 b c) j) c:=by intro A k w l Q H r O m;have o:=H.congr λg=>(i g).symm;have B:=MS.congr (A:=A) (β:=k) i;have s:=Q2 (h:=a.heap) (as:=as);have M:=ya o s (by rw[B];exact m) λv m R L=>BE.2 ⟨v,m,L⟩;have q:CX A ci b k w h2 k w (a.heap.q_d (as.flatMap (mark a.heap.get))):=(SG o s N).congr i;have D:=(C _ _ _ _ _ _ _ t).rw rfl (λ_ _ h=>by cases h) (x.q_d (Bp.q_H as)) A k w Q q.hr r M;exact D.mono λe n F=>XH q r O F
def xU(v:EI P W K){o:IY}{c:BG}(s:LW W a.heap) (r:K (.fn o) as a.heap b X ci=.ok (c,j))  (i:∀g,a.heap.get g=h2.get g):PB P ci b nt o as env f h2 (gc (X8 b c) j) c:=by intro A k w l F H p D C;have m:=H.congr λg=>(i g).symm;have t:=MS.congr (A:=A) (β:=k) i;have q:CX A ci b k w h2 k w a.heap:=(CX.refl m).congr i;have x:=(v _ _ _ _ _ _ _ r).rw rfl (λ_ _ h=>by cases h) s A k w F m p (by rw[t];exact C);exact x.mono λe n B=>XH q p D B
def xT(h:EI P W K){a:IY}{c:BG}(g:K (.fn a) q [] t Z I=.ok (c,j))(o:∀v,c=.ret v\/c=.of v->flat v=X)  (r:Fk h2.get as=J q):PB P ci b nt a as env f h2 h2 c:=by intro A k w l x H m s p;exact(SV H (h _ _ _ _ _ _ _ g) r p).mono λe n i=>AB3 H m s i o
theorem AMj(m:EI P W K){c:IY}{o:u×Obj}(B:t=b\/t=[])(h:K (.fn c) q [] t Z I=.ok (.ret v,j))(g:Dj v j=J o)  (x:Fk h2.get as=J q):PB P ci b nt c as env f h2 (o::h2) (.ret v):=by
 intro A k w l D H r C s;have a:=m _ _ _ _ _ _ _ h;refine(SV H a x s).mono λe n p=>?_;rcases B with rfl|rfl
 .exact AG8 H r C g p
 .have⟨i,h2⟩:=a.ids rfl rfl rfl rfl v rfl;exfalso;unfold Dj at g;grind [AD]
theorem AJY(h:EI P W K){c:IY}(p:t=b\/t=[])(g:K (.fn c) q [] t Z I=.ok (.ret v,j))
  (x:J4 ci (as.flatMap (mark h2.get))=X) (o:Fk h2.get as=J q):PB P ci b nt c as env f h2 (j++h2.q_d (as.flatMap (mark h2.get))) (.ret v):=by
 intro A k w l C H s B m;have a:=h _ _ _ _ _ _ _ g;refine(SV H a o m).mono λe n r=>?_;rcases p with rfl|rfl
 .grind [AB4]
 .have⟨i,h3⟩:=a.ids rfl rfl rfl rfl v rfl;grind [vG]
theorem tE{h:S}{a:u}(e:a∈h.map (·.1)):∃o,h.get a=J o:=by
 induction h with
 |nil=>cases e
 |cons g h i=>
  obtain⟨c,f⟩:=g;rw[S.q_f];by_cases b:c=a
  .exact⟨f,D4 b⟩
  grind
theorem Yy{h:S}{a:u}{o:Obj}(b:h.get a=J o):a∈h.map (·.1):=by induction h with|nil=>cases b|cons e h c=>grind [S.q_f]
theorem Zm{h r:S}(b:∀a,h.get a=h2.get a)(a:u):r.get a=nl (J (kV h r)) r.get h2.get a:=by grind [nl,zw]
def iX(new b:G)(a:u):nl (J []) new b a=b a:=by simp[nl]
theorem bD{K:Ah}(m:EI P W K){n:Fr}{i:IY}{as:List y}{t:Option L2}{a l:St}{H:Mode}{p:Fp}(w:LW W a.heap)(e:E4 K n b i as t a H=.ok l p){h2:S}(k:wM p a.heap.get h2.get):
 ∃v r,l.env=Ds a.env t v/\l.base=a.base/\l.defs=a.defs/\(∀g,r.get g=nl p.wr l.heap.get h2.get g)/\Nz P i/\∀env f,PB P n.ci b nt i as env f h2 r (.ret v):=by
 have raw:∀{E:E (BG×S)} {q:List y} {A:S},Fg b t a E=.ok l p->E=K (.fn i) q A b X n.ci->
  (∀{c:BG} {j:S},K (.fn i) q A b X n.ci=.ok (c,j)->(∀g,a.heap.get g=h2.get g)->∀env f,PB P n.ci b nt i as env f h2 (gc (X8 b c) j) c)->
  ∃v r,l.env=Ds a.env t v/\l.base=a.base/\l.defs=a.defs/\(∀g,r.get g=nl p.wr l.heap.get h2.get g)/\Nz P i/\∀env f,PB P n.ci b nt i as env f h2 r (.ret v):=by
  intro E q A e L O;subst L;unfold Fg at e;split at e
  .rename_i v j h;simp at e;obtain⟨rfl,rfl⟩:=e;exact⟨v,gc (TQ b v) j,rfl,rfl,rfl,Zm k,(m _ _ _ _ _ _ _ h).ent i rfl,O h k⟩
  .simp at e
  .cases e
 unfold E4 at e;split at e
 .exact raw e rfl λh k env f=>xU m w h k
 .rename_i H V;split at e
  .rename_i q C;simp at e;unfold FH at e;split at e
   .rename_i v j h;have x:=(m _ _ _ _ _ _ _ h).ent i rfl;simp at e;split at e
    .rename_i M;simp at e;obtain⟨rfl,rfl⟩:=e;have s:Fk h2.get as=J q:=by rw[<-OU k];exact C
     exact⟨v,h2,rfl,rfl,rfl,λg=>(iX _ _ g).symm,x,λenv f=>xT m h (λR Q=>by grind) s⟩
    .unfold LD at e;split at e
     .rename_i o N;simp at e;obtain⟨rfl,rfl⟩:=e;have s:Fk h2.get as=J q:=by rw[<-OU k];exact C
      refine⟨v,o::h2,rfl,rfl,rfl,λg=>?_,x,λenv f=>AMj m (by split<;>simp) h N s⟩;grind [nl,S.q_f]
     .simp only[Cv]at e;split at e
      .rename_i B;simp at e;obtain⟨rfl,rfl⟩:=e;have s:Fk h2.get as=J q:=by rw[<-OU k];exact C
       have F:=n9 (vs:=as) k;refine⟨v,j++h2.q_d (as.flatMap (mark h2.get)),rfl,rfl,rfl,λg=>?_,x,λenv f=>AJY m (by split<;>simp) h (by rw[<-F];exact B) s⟩;rw[<-F];simp only[nl,Ac];rw[S.get_append,S.get_append];by_cases D:g∈(as.flatMap (mark a.heap.get)).map (·.1)
       .grind [pT]
       .rw[QJ D,QJ D];by_cases T:g∈j.map (·.1)
        .grind [tE]
        .rw[Co zCI];have:j.get g=none:=by
          rcases hg:j.get g with _|o
          .rfl
          .grind [Yy]
         rw[this];rfl
      .cases e
   .split at e<;>cases e
   .cases e
  .unfold Gu at e;simp at e;split at e
   .unfold UA at e;split at e
    .rename_i v j h;split at e
     .rename_i M;simp at e;obtain⟨rfl,rfl⟩:=e;exact⟨v,h2,rfl,rfl,rfl,λg=>(iX _ _ g).symm,(m _ _ _ _ _ _ _ h).ent i rfl,λenv f=>vv m w h (λR Q=>by grind) k⟩
     .cases e
    .split at e<;>cases e
    .cases e
   .split at e
    .rename_i B;exact raw e rfl λh k env f=>uY m B w h k
    .cases e
theorem Xn{K:Ah}(l:EI P W K){m:Fr}{h:IY}{as:List y}{t:Option L2}{a i:St}{w:Mode}{v:y}(r:LW W a.heap)(e:E4 K m b h as t a w=.of v i){h2:S}(k:∀id,a.heap.get id=h2.get id):
 ∃n,i.env=a.env/\i.base=a.base/\i.defs=a.defs/\(∀id,n.get id=i.heap.get id)/\Nz P h/\∀env f,PB P m.ci b nt h as env f h2 n (.of v):=by
 have raw:∀{E:E (BG×S)} {q:List y} {s:S},Fg b t a E=.of v i->E=K (.fn h) q s b X m.ci->
  (∀{c:BG} {j:S},K (.fn h) q s b X m.ci=.ok (c,j)->(∀id,a.heap.get id=h2.get id)->∀env f,PB P m.ci b nt h as env f h2 (gc (X8 b c) j) c)->
  ∃n,i.env=a.env/\i.base=a.base/\i.defs=a.defs/\(∀id,n.get id=i.heap.get id)/\Nz P h/\∀env f,PB P m.ci b nt h as env f h2 n (.of v):=by
  intro E q s e x C;subst x;unfold Fg at e;split at e
  .simp at e
  .rename_i p j g;simp at e;obtain⟨rfl,rfl⟩:=e;exact⟨gc b j,rfl,rfl,rfl,λid=>rfl,(l _ _ _ _ _ _ _ g).ent h rfl,C g k⟩
  .cases e
 unfold E4 at e;split at e
 .exact raw e rfl λg k env f=>xU l r g k
 .rename_i w N;split at e
  .rename_i q H;simp at e;unfold FH at e;split at e
   .simp at e;split at e
    .cases e
    .unfold LD at e;split at e
     .simp at e
     .simp only[Cv]at e;split at e
      .simp at e
      .cases e
   .rename_i p j g;split at e
    .rename_i A;simp at e;obtain⟨rfl,rfl⟩:=e;have L:Fk h2.get as=J q:=by rw[<-OU (λid _=>k id)];exact H
     exact⟨h2,rfl,rfl,rfl,λid=>(k id).symm,(l _ _ _ _ _ _ _ g).ent h rfl,λenv f=>xT l g (λM D=>by grind) L⟩
    .cases e
   .cases e
  .unfold Gu at e;simp at e;split at e
   .unfold UA at e;split at e
    .split at e
     .simp at e
     .cases e
    .rename_i p j g;split at e
     .rename_i A;simp at e;obtain⟨rfl,rfl⟩:=e;exact⟨h2,rfl,rfl,rfl,λid=>(k id).symm,(l _ _ _ _ _ _ _ g).ent h rfl,λenv f=>vv l r g (λM D=>by grind) λid o B=>by rw[<-k id];exact B⟩
     .cases e
    .cases e
   .split at e
    .rename_i F;exact raw e rfl λg k env f=>uY l F r g k
    .cases e
variable{A:Nat->Prop}{P:H5}{l:List Hk}{n c f:BF}{w t k:G2}{M:Nat->Prop}{h m B:S}{C r:u}{ci:Option u}{nt:NT}{env:Nat->y}{D F:List Df}{b:M3}{ro:Option Nat}{W:Lp->Prop}
def Hg.append{h:List y}{b e:Array G4}(i:Hg n w M q b)(h2:Hg n w M h e):Hg n w M (q++h) (b++e):=by
 refine⟨by rw[Dl,Array.size_append,i.1,h2.1],λg x v c a=>?_⟩;by_cases f:g<U q
 .rw[D8 f]at c;rw[Li (by rw[<-i.1];exact f)]at a;exact i.2 g x v c a
 .rw[D6 z]at c;rw[Array.getElem?_append_right (by rw[<-i.1];omega),<-i.1]at a;exact h2.2 _ x v c a
theorem Hg.args{e:Nat->y}(f:MX n w M e λc=>b.tmps.getD c Go.undef)(a:Array Operand):Hg n w M (a.toList.map (ev e)) (a.map b.eval):=by refine⟨AG,λi x v h g=>?_⟩;grind [Ko]
variable{c:Call}{x:Operand}
theorem jn(a:o.op=.call c)(j:c.callee=.value x){g:IY}{first cap:Array G4}(f:b.eval x=.func (.func g) first cap)(e:Nz P g):
 (o.semAt ro b.eval).run P w=.ok (.enter g (first++c.args.map b.eval++cap)) w:=by
 rw[Oper.semAt_eq _ _ _ (by simp[a])];grind [execOp,resolve,Deferred.ofValue,invoke,NY]
def dz(f:o.op=.call c)(j:c.callee=.value x){e:Nat}{a:Loop}(k:b.eval x=.func (.yield e) #[] #[])(h:w.heap[e]?=J (.loop a))(i:a.params.size=c.args.size):
 (o.semAt ro b.eval).run P w=.ok (.round e a.fn (Jz a (c.args.map b.eval)) a.assign a.body) w:=by
 rw[Oper.semAt_eq _ _ _ zDB];have g:(getObj e).run P w=.ok (.loop a) w:=Ju h AG;simp[execOp,f,resolve,j,k,Deferred.ofValue,invoke,Instr.yield,Instr.getLoop,g,i,Jz]
structure PR(P:H5)(mix:List Hk)(C:DH):Prop:=
 T:C.T=Cm P mix
 meth:∀t m f,C.meth t m=J f->∀(v:G4) (w:G2),(method (P.types.size+Made.depth) t v m).run P w=.ok (f,v) w
variable{C:DH}{m:Fr}{f:St}{k:Fp}{env2:Nat->y}
theorem pH(j:PR P l C)(e:EJ m o.op o.dst a (evalOp C.T a.env.get a.heap.get r o.op)=.ok f k)(x:∀c,o.op≠ .defer c)
   (q:NJ a.env.get env2 o.op) (p:wM k a.heap.get h2.get) (t:∀d,o.dst=J d->d<nt.n):
 ∃v i,f.env=Ds a.env o.dst v/\f.base=a.base/\(∀g,i.get g=nl k.wr f.heap.get h2.get g)/\So P ro m.ci r nt o env2 a.defs h2 v f.defs i:=by
 rw[j.T]at e;rcases hev:evalOp (Cm P l) a.env.get a.heap.get r o.op with _|h
 .rw[hev]at e;cases e
 .rw[hev]at e;simp only[EJ,M6,Cv]at e;split at e
  .rename_i F;simp at e;obtain⟨rfl,rfl⟩:=e;have s:=fK (P:=P) (mix:=l) (n:=r) q p;rw[hev]at s;refine⟨h.v,h2.q_d h.δ,rfl,rfl,λg=>?_,?_⟩
   .grind [nl,pT,QJ]
   .intro A n w b H B K next Q D
    grind [AG7]
  .cases e
def zx(ac:EI P W K)(ar:o.op=.call c)(j:c.callee=.value x)(N:LW W a.heap) (i:Fe C K m r (ev a.env.get x) (c.args.toList.map (ev a.env.get)) o.dst a=.ok f k)
   (D:NJ a.env.get env2 o.op) (O:wM k a.heap.get h2.get) (ad:∀d,o.dst=J d->d<nt.n):
 ∃v B,f.env=Ds a.env o.dst v/\f.base=a.base/\(∀p,B.get p=nl k.wr f.heap.get h2.get p)/\So P ro m.ci r nt o env2 a.defs h2 v f.defs B:=by
 have a6:=D x zCJ;have a1:c.args.toList.map (ev a.env.get)=c.args.toList.map (ev env2):=Gx λbk bo=>D bk zCJ;rw[a1,a6]at i;unfold Fe at i;split at i
 ·
  rename_i p a4;unfold Mf at i;split at i
  .rename_i bs V;unfold Fg at i;split at i
   .rename_i v a2 az;simp at i;obtain⟨rfl,rfl⟩:=i;refine⟨v,gc (TQ r v) a2,rfl,rfl,Zm O,?_⟩;intro A n w b H F s next Q L
    have R:∀p,a.heap.get p=h2.get p:=O;have M:=H.congr λp=>(R p).symm;have a0:=MS.congr (A:=A) (β:=n) R;have q:=Ko s.env x;rw[a4]at q;generalize T:b.eval x=ax at q;cases q with
    |yld _ a' ag=>
     have⟨k',ai,l,q1,q2,q3,q4,q5,q6,q7,q9,q8⟩:=M.obj p _ V;rw[ag]at ai;cases ai;have aa:=Hg.args s.env c.args;have⟨hlen,Y⟩:=(ac _ _ _ _ _ _ _ az).rw rfl (λ_ _ h=>by cases h;exact N _ _ V) N A n w (c.args.map b.eval) M F (by rw[a0];exact aa);have Y:=Y a' l V ag q1;have av:CX A m.ci r n w h2 n w a.heap:=(CX.refl M).congr R;have a5:l.params.size=c.args.size:=by rw[<-q5]at hlen;simpa using hlen
     exact ACO (dz ar j T q1 a5) ad (RoundIn.mono Y λe t D=>XH av F s D) L
   .simp at i
   .cases i
  .cases i
 .rename_i g first cap a3
  simp only[CM]at i;have⟨v,B,e1,e2,e3,e4,e5,e6⟩:=bD (nt:=nt) ac N i O;refine⟨v,B,e1,e2,e4,?_⟩;intro A n w b H F s next Q L
  have q:=Ko s.env x;rw[a3]at q;generalize T:b.eval x=ax at q;cases q with
  |fn _ _ _ bn bl bc be bh bi=>
   have aa:=(Hg.append (Hg.append ⟨bc,bh⟩ (Hg.args s.env c.args)) ⟨be,bi⟩)
   rw[e3]at L;exact bW (jn ar j T e5) ad (e6 env2 a.defs A n w b _ H F s aa) L
 .cases i
theorem sO(aa:EI P W K)(ag:o.op=.call c)(j:c.callee=.value x)(N:LW W a.heap) (i:Fe C K m r (ev a.env.get x) (c.args.toList.map (ev a.env.get)) o.dst a=.of v f)
   (F:NJ a.env.get env2 o.op) (D:∀k,a.heap.get k=h2.get k):
 ∃B,f.env=a.env/\f.base=a.base/\f.defs=a.defs/\(∀k,B.get k=f.heap.get k)/\eJ P ro m.ci r nt o env2 a.defs h2 v B:=by
 have a4:=F x zCJ;have az:c.args.toList.map (ev a.env.get)=c.args.toList.map (ev env2):=Gx λbh bl=>F bh zCJ;rw[az,a4]at i;unfold Fe at i;split at i
 .rename_i k a2;unfold Mf at i;split at i
  .rename_i bn R;unfold Fg at i;split at i
   .simp at i
   .rename_i p a0 ar;simp at i;obtain⟨rfl,rfl⟩:=i;refine⟨gc r a0,rfl,rfl,rfl,λk=>rfl,?_⟩;intro A n w b H L s next Q T
    have M:=H.congr λk=>(D k).symm;have av:=MS.congr (A:=A) (β:=n) D;have q:=Ko s.env x;rw[a2]at q;generalize O:b.eval x=ax at q;cases q with
    |yld _ a5 ac=>
     have⟨k',ad,l,q1,q2,q3,q4,q5,q6,q7,q9,q8⟩:=M.obj k _ R;rw[ac]at ad;cases ad;have Y:=Hg.args s.env c.args;have⟨hlen,V⟩:=(aa _ _ _ _ _ _ _ ar).rw rfl (λ_ _ h=>by cases h;exact N _ _ R) N A n w (c.args.map b.eval) M L (by rw[av];exact Y);have V:=V a5 l R ac q1;have ai:CX A m.ci r n w h2 n w a.heap:=(CX.refl M).congr D;have a3:l.params.size=c.args.size:=by rw[<-q5]at hlen;simpa using hlen
     exact ACN (dz ag j O q1 a3) (RoundIn.mono V λe t F=>XH ai L s F) T
   .cases i
  .cases i
 .rename_i g first cap a1
  simp only[CM]at i;have⟨B,e1,e2,e3,e4,e5,e6⟩:=Xn (nt:=nt) aa N i D;refine⟨B,e1,e2,e3,e4,?_⟩;intro A n w b H L s next Q T
  have q:=Ko s.env x;rw[a1]at q;generalize O:b.eval x=ax at q;cases q with
  |fn _ _ _ bk bi a6 a' bc be=>
   have Y:=(Hg.append (Hg.append ⟨a6,bc⟩ (Hg.args s.env c.args)) ⟨a',be⟩)
   exact bU (jn ag j O e5) (e6 env2 a.defs A n w b _ H L s Y) T
 .cases i
def Yf{h:String}(f:o.op=.call c)(j:c.callee=.invoke x h){g:IY}{a:Hk}{v:G4}(m:b.eval x=.iface a v)(l:(method (P.types.size+Made.depth) a v h).run P w=.ok (g,v) w) (k:Nz P g):
 (o.semAt ro b.eval).run P w=.ok (.enter g (#[v]++c.args.map b.eval)) w:=by
 rw[Oper.semAt_eq _ _ _ zDB];have e:(#[Value.iface a v]++c.args.map b.eval).extract 1 (#[Value.iface a v]++c.args.map b.eval).size=c.args.map b.eval:=by apply Array.ext';simp only[Array.toList_extract,Array.size_append];simp;rw[Bv AG]
 have i:(#[Value.iface a v]++c.args.map b.eval)[0]?=J (.iface a v):=by rw[Li AG];rfl
 unfold execOp;simp[f,resolve,j,m];unfold invoke;simp only[e,i];simp[callMethod,l,NY k]
theorem kZ(N:PR P l C)(R:EI P W K){q:String}(ag:o.op=.call c)(j:c.callee=.invoke x q)(O:LW W a.heap) (e:Hh C K m r (ev a.env.get x) q (c.args.toList.map (ev a.env.get)) o.dst a=.ok f k)
   (t:NJ a.env.get env2 o.op) (T:wM k a.heap.get h2.get) (aa:∀d,o.dst=J d->d<nt.n):
 ∃v h,f.env=Ds a.env o.dst v/\f.base=a.base/\(∀L,h.get L=nl k.wr f.heap.get h2.get L)/\So P ro m.ci r nt o env2 a.defs h2 v f.defs h:=by
 have av:=t x zCJ;have V:c.args.toList.map (ev a.env.get)=c.args.toList.map (ev env2):=Gx λM D=>t M zCJ;rw[V,av]at e;unfold Hh at e;split at e
 .rename_i a0 az ai;split at e
  .rename_i g ad;unfold Fe at e;simp only[CM]at e;have⟨v,h,e1,e2,e3,e4,e5,e6⟩:=bD (nt:=nt) R O e T;refine⟨v,h,e1,e2,e4,?_⟩;intro A n w b H ac s next Q B
   have i:=Ko s.env x;rw[ai]at i;generalize Y:b.eval x=ax at i;cases i with
   |iface _ _ p a1=>
    have ar:Hg n w (MS A n h2) ([az]++c.args.toList.map (ev env2)++[]) (#[p]++c.args.map b.eval):=by
     rw[CS];refine Hg.append ⟨rfl,λF M a3 D a2=>?_⟩ (Hg.args s.env c.args);rcases F with _|F
     .grind
     .simp at D
    rw[e3]at B;exact bW (Yf ag j Y (N.meth a0 q g ad p w) e5) aa (e6 env2 a.defs A n w b _ H ac s ar) B
  .cases e
 .cases e
theorem fF(L:PR P l C)(N:EI P W K){q:String}(ac:o.op=.call c)(j:c.callee=.invoke x q)(M:LW W a.heap) (e:Hh C K m r (ev a.env.get x) q (c.args.toList.map (ev a.env.get)) o.dst a=.of v f)
   (t:NJ a.env.get env2 o.op) (O:∀h,a.heap.get h=h2.get h):
 ∃i,f.env=a.env/\f.base=a.base/\f.defs=a.defs/\(∀h,i.get h=f.heap.get h)/\eJ P ro m.ci r nt o env2 a.defs h2 v i:=by
 have ai:=t x zCJ;have R:c.args.toList.map (ev a.env.get)=c.args.toList.map (ev env2):=Gx λF B=>t F zCJ;rw[R,ai]at e;unfold Hh at e;split at e
 .rename_i av ar ad;split at e
  .rename_i g Y;unfold Fe at e;simp only[CM]at e;have⟨i,e1,e2,e3,e4,e5,e6⟩:=Xn (nt:=nt) N M e O;refine⟨i,e1,e2,e3,e4,?_⟩;intro A n w b H V s next Q aa
   have k:=Ko s.env x;rw[ad]at k;generalize T:b.eval x=ax at k;cases k with
   |iface _ _ p az=>
    have ag:Hg n w (MS A n h2) ([ar]++c.args.toList.map (ev env2)++[]) (#[p]++c.args.map b.eval):=by
     rw[CS];refine Hg.append ⟨rfl,λD F a1 B a0=>?_⟩ (Hg.args s.env c.args);rcases D with _|D
     .grind
     .simp at B
    exact bU (Yf ac j T (L.meth av q g Y p w) e5) (e6 env2 a.defs A n w b _ H V s ag) aa
  .cases e
 .cases e
theorem sQ{C:DH}{K:Ah}{m:Fr}(V:m.rnd=Z->ro=I){o:G5}{c:Call}(R:o.op=.defer c){a f:St}{k:Fp}(e:J8 m a.env.get c o.dst a=.ok f k){env2:Nat->y} {h2:S} (s:NJ a.env.get env2 o.op) (t:wM k a.heap.get h2.get) (L:∀d,o.dst=J d->d<nt.n):
 ∃v q,f.env=Ds a.env o.dst v/\f.base=a.base/\(∀l,q.get l=nl k.wr f.heap.get h2.get l)/\So P ro m.ci r nt o env2 a.defs h2 v f.defs q:=by
 unfold J8 at e;split at e
 .rename_i x j;have aa:=s x zCJ;have B:c.args.toList.map (ev a.env.get)=c.args.toList.map (ev env2):=Gx λai a0=>s ai zCJ;split at e
  .rename_i g N T;simp at e;obtain⟨rfl,rfl⟩:=e;refine⟨.undef,h2,rfl,rfl,λl=>(t l).symm,?_⟩;intro A n w b H az i next Q O
   have W:=V T;subst W;have p:=Ko i.env x;rw[<-aa,N]at p;generalize D:b.eval x=ax at p;cases p with
   |fn _ _ _ av ar ac ad a1 a2=>
    have M:=I9 ac.symm;have F:=I9 ad.symm;subst M F;refine⟨λ_ _=>trivial,?_⟩;have Y:(o.semAt (FF I).round b.eval).run P w=.ok (.defer {target:=.fn (.func g) #[],args:=c.args.map b.eval}) w:=by show(execOp b.eval o).run P w=_;simp[execOp,R,resolve,j,D,Deferred.ofValue]
    rw[Y,Oper.uponIn_defer];refine O _ _ ⟨n,CX.refl H,?_⟩;have ag:PD A n w nt env2 (.call g (c.args.toList.map (ev a.env.get))::a.defs) h2 {b with defers:={target:=.fn (.func g) #[],args:=c.args.map b.eval}::b.defers}:=⟨i.sz,i.env,⟨.call _ _ _ (by rw[B];exact Hg.args i.env c.args),i.defs,λ_ _ _ h=>by cases h⟩⟩
    exact ag.put L (.undef _)
  .cases e
 .cases e
def sU(g:o.op=.panic x)(c:Ht a (ev a.env.get x)=.of v f)
   (q:NJ a.env.get env2 o.op) (k:∀e,a.heap.get e=h2.get e):
 ∃i,f.env=a.env/\f.base=a.base/\f.defs=a.defs/\(∀e,i.get e=f.heap.get e)/\eJ P ro m.ci r nt o env2 a.defs h2 v i:=by
 have D:=q x (by rw[g];simp[Op.operands]);unfold Ht at c;split at c
 .split at c
  .rename_i F p C;simp at c;obtain⟨rfl,rfl⟩:=c;refine⟨h2,rfl,rfl,rfl,λe=>(k e).symm,?_⟩;intro A n w b H L j next Q s
   have h:=Ko j.env x;rw[<-D,C]at h;generalize l:b.eval x=ax at h;cases h with
   |iface _ _ K B=>
    refine⟨λ_ _=>trivial,?_⟩;have t:(o.semAt (FF ro).round b.eval).run P w=.halt (.panic (.iface F K)) w:=by rw[Oper.semAt_eq _ _ _ zDA];simp[execOp,g,l,Instr.panic,goPanic]
    rw[t];exact s b w _ ⟨n,CX.refl H,j,.iface _ _ _ B⟩
  .cases c
 .cases c
theorem AJC(q:PR P l C)(w:EI P W K)(D:m.rnd=Z->ro=I)(t:LW W a.heap)(b:Jj C K m r o.op o.dst a=.ok f k)
   (p:NJ a.env.get env2 o.op) (h:wM k a.heap.get h2.get) (n:∀d,o.dst=J d->d<nt.n):
 ∃v s,f.env=Ds a.env o.dst v/\f.base=a.base/\(∀A,s.get A=nl k.wr f.heap.get h2.get A)/\So P ro m.ci r nt o env2 a.defs h2 v f.defs s:=by
 unfold Jj at b;split at b
 .rename_i c g;split at b
  .rename_i x j;exact zx (C:=C) w g j t b p h n
  .rename_i x H j;exact kZ q w g j t b p h n
  .rename_i F j;have e:Ou C.T a.env.get a.heap.get r c=evalOp C.T a.env.get a.heap.get r o.op:=by rw[g];rfl
   rw[e]at b;exact pH q b zDA p h n
 .rename_i x g;unfold Ht at b;grind
 .rename_i c g;exact sQ (C:=C) (K:=K) D g b p h n
 .rename_i i h2 B;exact pH q b (λc j=>B c j) p h n
theorem AEb(q:PR P l C)(p:EI P W K)(n:LW W a.heap)(b:Jj C K m r o.op o.dst a=.of v f)
   (i:NJ a.env.get env2 o.op) (h:∀e,a.heap.get e=h2.get e):
 ∃k,f.env=a.env/\f.base=a.base/\f.defs=a.defs/\(∀e,k.get e=f.heap.get e)/\eJ P ro m.ci r nt o env2 a.defs h2 v k:=by
 have s:∀{x:Option DF},EJ m o.op o.dst a x=.of v f->False:=by intro x b;exact zBu
 unfold Jj at b;split at b
 .rename_i c g;split at b
  .rename_i x j;exact sO (C:=C) p g j n b i h
  .rename_i x t j;exact fF q p g j n b i h
  grind
 .rename_i x g;exact sU g b i h
 .grind [J8]
 .exact(s b).elim
variable{P:H5}{l:List Hk}{t:u}{W:Lp->Prop}
theorem UQ{b:Option (List u)}{a:u}:nl b g g a=g a:=by
 rcases b with _|c
 .rfl
 .simp[nl]
theorem AH1{h:S}{a:u}:nl (J (s.map (·.1))) (h.q_d s).get h.get a=(h.q_d s).get a:=by grind [nl,QJ]
def hZ(a f:St)(k:Fp):Prop:=f.defs=a.defs/\∀b,nl k.wr f.heap.get a.heap.get b=f.heap.get b
variable{r:Option L2}
theorem QM{E:E (BG×S)}(b:Fg t r a E=.ok f k):hZ a f k:=by
 unfold Fg at b;split at b
 .simp only[CY,Bz,RY.ok.injEq]at b;obtain⟨rfl,rfl⟩:=b;exact⟨rfl,λc=>(Zm (λ_=>rfl) c).symm⟩
 .simp at b
 .cases b
theorem jm{g:IY}{h:Mode}(b:E4 K m t g as r a h=.ok f k):hZ a f k:=by
 unfold E4 at b;split at b
 .exact QM b
 .split at b
  .rename_i q n;simp only[CM]at b;unfold FH at b;split at b
   .rename_i v j i;simp only[CY]at b;split at b
    .simp only[RY.ok.injEq]at b;obtain⟨rfl,rfl⟩:=b;exact⟨rfl,λ_=>UQ⟩
    .unfold LD at b;split at b
     .rename_i o l;simp only[Bz,RY.ok.injEq]at b;obtain⟨rfl,rfl⟩:=b;refine⟨rfl,λe=>?_⟩;grind [nl,S.q_f]
     .simp only[Cv]at b;split at b
      .simp only[Bz,RY.ok.injEq]at b;obtain⟨rfl,rfl⟩:=b;refine⟨rfl,λe=>?_⟩;simp only[nl];split
       .rfl
       .rename_i c;simp only[Ac,not_or]at c;rw[S.get_append,QJ c.1];rcases hg:j.get e with _|o
        .rfl
        .grind [Yy]
      .cases b
   .split at b<;>cases b
   .cases b
  .unfold Gu at b;simp only[CM,Cv,Bz]at b;split at b
   .unfold UA at b;split at b
    .split at b
     .simp only[CY,RY.ok.injEq]at b;obtain⟨rfl,rfl⟩:=b;exact⟨rfl,λ_=>UQ⟩
     .cases b
    .split at b<;>cases b
    .cases b
   grind [QM]
theorem Vv{b:y}{args:List y}(c:Fe C K m t b args r a=.ok f k):hZ a f k:=by unfold Fe at c;grind [Mf,QM,CM,jm]
variable{op:Op}
theorem S9{x:Option DF}(b:EJ m op r a x=.ok f k):hZ a f k:=by
 unfold EJ at b;split at b
 .simp only[M6,Cv]at b;split at b
  .simp only[CY,TG,RY.ok.injEq]at b;obtain⟨rfl,rfl⟩:=b;exact⟨rfl,λ_=>AH1⟩
  .cases b
 .cases b
theorem AEc(b:Jj C K m t op r a=.ok f k):(∀e,nl k.wr f.heap.get a.heap.get e=f.heap.get e)/\((∀c,op≠ .defer c)->f.defs=a.defs):=by
 have g:hZ a f k->(∀e,nl k.wr f.heap.get a.heap.get e=f.heap.get e)/\((∀c,op≠ .defer c)->f.defs=a.defs):=λc=>⟨c.2,λ_=>c.1⟩;unfold Jj at b;split at b
 .split at b
  .exact g (Vv b)
  .unfold Hh at b;grind [Vv]
  grind [S9]
 .unfold Ht at b;grind
 .grind [J8,UQ]
 grind [S9]
theorem Sb{e:Array G5}(g:DZ C K m e t o a=.ok f k):
 (∀b,nl k.wr f.heap.get a.heap.get b=f.heap.get b)/\((∀c,o.op≠ .defer c)->f.defs=a.defs):=by grind [DZ,CY,UQ,AEc]
def B3:Op->Bool
 |.move _|.assign _|.pick ..|.alloc _|.box ..|.build ..|.nilCheck _|.binOp ..|.unOp ..|.makeInterface ..|.typeAssert ..|.makeFunc ..|.makeMap ..|.makeSlice ..|.fieldAddr ..|.field ..|.index ..|.extract ..=>X|.call c=>match c.callee with|.builtin .max=>X|.builtin .min=>X|_=>Z
 |_=>Z
def iu:Op->Bool
 |.move _|.assign _|.pick ..|.build ..|.load ..|.nilCheck _|.binOp ..|.unOp ..|.makeInterface ..|.typeAssert ..|.makeFunc ..|.lookup ..|.slice ..|.fieldAddr ..|.field ..|.indexAddr ..|.index ..|.extract ..=>X|.call c=>match c.callee with|.builtin .max=>X|.builtin .min=>X|.builtin .len=>X|_=>Z
 |_=>Z
def AHH{e:Nat->y}(h:B3 op=X):aI e g op=[]:=by
 cases op<;>first|rfl|(simp[B3]at h;done)|skip
 rename_i c;obtain⟨callee,args,b⟩:=c;cases callee with
 |builtin a=>cases a<;>first|rfl|simp[B3]at h
 |_=>simp[B3]at h
variable{s:Type}{l:DF}
theorem map_nil{f:s->y}{x:Option s}(h:x.map (λA9=>(⟨f A9,[]⟩:DF))=J l):l.δ=[]:=by grind [Option.map_eq_some_iff]
variable{T:Hk->Option TI}{n:u}
theorem qo{e:Nat->y}(h:iu op=X)(a:evalOp T e g n op=J l):l.δ=[]:=by
 cases op<;>first|(simp[iu]at h;done)|skip
 all_goals simp only[evalOp]at a
 case move=>cases a;rfl
 case assign=>cases a;rfl
 case pick=>unfold ZC at a;split at a<;>cases a;rfl
 case build=>unfold Q8 at a;split at a
             .split at a
              .cases a
              .exact map_nil a
             .cases a
 case load=>unfold QI at a;split at a
            .exact map_nil a
            .cases a
 case nilCheck=>unfold MB at a;split at a<;>cases a<;>rfl
 case binOp=>exact map_nil a
 case unOp=>
  unfold hJ at a;split at a
  .unfold yE at a;split at a<;>cases a;rfl
  .cases a
 case makeInterface=>
  unfold RA at a;split at a
  .split at a<;>cases a;rfl
  .cases a
 case makeFunc=>unfold MA at a;split at a<;>cases a;rfl
 case slice=>
  unfold LA at a;split at a
  .split at a
   .exact map_nil a
   .exact map_nil a
   .cases a
  .cases a
 case fieldAddr=>
  unfold IV at a;split at a
  .split at a
   .split at a
    .cases a
    .split at a
     .cases a;rfl
     .cases a;rfl
     .split at a<;>cases a;rfl
     .cases a
   .cases a
  .cases a
 case field=>
  unfold Q9 at a;split at a
  .split at a
   .exact map_nil a
   .cases a
  .cases a
 case indexAddr=>
  unfold FV at a;split at a
  .split at a
   .unfold Rm at a;split at a
    .split at a
     .exact zBX
     .split at a
      .split at a<;>first|(split at a<;>cases a;rfl)|cases a
      .cases a
     .cases a
    .cases a
   .unfold wv at a;exact zBX
   .cases a
  .cases a
 case index=>
  unfold RB at a;split at a
  .split at a
   .exact map_nil a
   .cases a
  .cases a
 case lookup=>
  unfold Hl at a;split at a
  .split at a
   .split at a
    .split at a
     .unfold L3 at a;split at a<;>cases a<;>rfl
     .cases a
    .cases a
   .cases a
  .cases a
 case typeAssert x xt t ok=>
  rcases ok with _|_
  .cases a
  .simp only at a;unfold L8 at a;split at a
   .split at a
    .cases a
    .split at a
     .cases a;rfl
     .exact map_nil a
   .cases a
 case extract=>
  unfold Nm at a;split at a
  .exact map_nil a
  .cases a
 case call c=>
  obtain⟨callee,args,f⟩:=c;cases callee with
  |builtin b=>
   simp only[Ou]at a;unfold LV at a;cases b<;>first|(simp[iu]at h;done)|skip
   .simp only at a;split at a
    .split at a
     .split at a
      .exact map_nil a
      .cases a
     .cases a
    .cases a
   .simp only at a;split at a
    .unfold oe at a;exact zBX
    .cases a
   .simp only at a;split at a
    .unfold og at a;exact zBX
    .cases a
  |_=>simp[iu]at h
theorem sV{x:Option DF}(b:EJ m op r a x=.ok f k):∃l,x=J l/\k=⟨J (aI a.env.get a.heap.get op),J (l.δ.map (·.1)),Z⟩:=by unfold EJ at b;grind [M6,Cv,CY,TG]
theorem ACi{g:Array G5}(b:DZ C K m g t o a=.ok f k):
 (B3 o.op=X->k.rd=J [])/\(iu o.op=X->k.wr=J []):=by
 unfold DZ at b;split at b
 .cases b
 .grind [CY]
 .have plain:∀{x:Option DF},EJ m o.op o.dst a x=.ok f k->x=evalOp C.T a.env.get a.heap.get t o.op->(B3 o.op=X->k.rd=J [])/\(iu o.op=X->k.wr=J []):=by intro x b i;obtain⟨l,rfl,rfl⟩:=sV b;exact⟨λh=>by simp only[AHH h],λh=>by grind [qo]⟩
  unfold Jj at b;split at b
  .rename_i c e;split at b
   .grind [B3,iu]
   .grind [B3,iu]
   .exact plain b (by rw[e];rfl)
  .unfold Ht at b;grind
  .grind [B3,iu]
  .exact plain b rfl
variable{B:List (List y)}
theorem Bp.q_h{j:TI}(h:q_h g n j B=J l):Bp l.δ:=by
 unfold Abs.q_h at h;split at h
 .cases h
 .split at h
  .cases h;exact .one rfl
  .split at h
   .cases h;exact(Bp.markEs B).append (.one rfl)
   .cases h
theorem Bp.mapE{a:s->DF}{x:Option s}(c:∀b,Bp (a b).δ)(h:x.map a=J l):Bp l.δ:=by grind [Option.map_eq_some_iff]
variable{H O:Nat}{w:List (List y)}
theorem Bp.q_x{a:u}{b:Nat}{B:List (List Ar)}(h:q_x g n a H b O B w=J l):Bp l.δ:=by
 unfold Abs.q_x at h;split at h
 .split at h
  .cases h;exact(Bp.markEs w).append (.one rfl)
  .split at h
   .cases h;exact(Bp.markEs w).append (.cons rfl (.one rfl))
   .cases h
 .cases h
theorem Bp.q_B{a:u}{b:Nat}(h:q_B n a H b O B w=J l):Bp l.δ:=by
 unfold Abs.q_B at h;split at h
 .cases h;exact .one rfl
 .split at h
  .cases h;exact .cons rfl (.one rfl)
  .cases h
variable{s:y}
theorem Bp.q_t{j:TI}(h:q_t g n j s w=J l):Bp l.δ:=by unfold Abs.q_t at h;grind [q_h,q_x,q_B]
theorem Bp.q_s{j:TI}{x:y}(h:q_s g n j s x=J l):Bp l.δ:=by unfold Abs.q_s at h;grind [nil,q_t]
def Bp.store{i:TI}{b:y}(h:Kk g i b v=J l):Bp l.δ:=by
 unfold Kk at h;split at h
 .cases h
 .split at h
  .exact zBK
  .split at h
   .split at h
    .exact .mapE (λ_=>(Bp.marks _).append (.one rfl)) h
    .cases h
   .exact zBK
   .cases h
  .cases h
def Bp.q_l{t:Option TI}{m k:y}(h:q_l T g t m k v=J l):Bp l.δ:=by
 unfold Abs.q_l at h;split at h
 .cases h
 .split at h
  .split at h
   .split at h
    .cases h;exact .one rfl
    .cases h
   .cases h
  .cases h
theorem Bp.evalOp{T:Hk->Option TI}{e:Nat->y}{g:G}{n:u}{op:Op}{l:DF}(h:evalOp T e g n op=J l):Bp l.δ:=by
 by_cases a:iu op=X
 .rw[qo a h];exact .nil
 cases op<;>simp only[iu,not_true_eq_false]at a<;>simp only[Abs.evalOp,reduceCtorEq]at h
 case alloc=>unfold Q7 at h;split at h
             .split at h<;>cases h;exact .one rfl
             .cases h
 case box=>unfold cy at h;split at h
           .split at h<;>cases h;exact .one rfl
           .cases h
 case buildSlice=>
  unfold Eo at h;split at h
  .split at h
   .unfold Iv at h;split at h
    .split at h
     .cases h;exact .nil
     .split at h
      .exact .q_h h
      .cases h
    .cases h
   .cases h
  .cases h
 case store=>unfold Mu at h;split at h
             .exact .store h
             .cases h
 case makeMap=>unfold LX at h;split at h<;>cases h;exact .one rfl
 case makeSlice=>
  unfold Ev at h;split at h
  .split at h
   .split at h
    .unfold Gh at h;split at h
     .cases h;exact .nil
     .exact .q_h h
    .cases h
   .cases h
  .cases h
 case insert=>exact .q_l h
 case convert=>
  unfold Nk at h;split at h
  .split at h
   .cases h;exact .nil
   .cases h
  .cases h
 case mapUpdate=>exact .q_l h
 case call c=>
  obtain⟨callee,args,f⟩:=c;unfold Ou at h;split at h
  .rename_i i b;simp only at b;subst b;unfold LV at h;split at h
   .simp[iu]at a
   .split at h
    .unfold KQ at h;split at h
     .split at h
      .exact .q_s h
      .cases h
     .cases h
    .cases h
   .split at h
    .unfold Mr at h;split at h
     .split at h
      .split at h
       .cases h;exact .nil
       .split at h
        .unfold Qp at h;split at h
         .split at h
          .exact zBK
          .cases h
         .cases h
        .cases h
      .cases h;exact .nil
      .cases h;exact .nil
      .cases h
     .cases h
    .cases h
   .split at h
    .unfold JV at h;split at h
     .split at h
      .split at h
       .unfold Ur at h;split at h
        .exact zBK
        .cases h
       .cases h
      .split at h
       .cases h;exact .nil
       .cases h
      .cases h
     .cases h
    .cases h
   .simp[iu]at a
   .simp[iu]at a
   .cases h
  .cases h
def VU{E:E (BG×S)}(e:∀c j,E=.ok (c,j)->LW W j)(b:Fg t r a E=.ok f k):LW W f.heap:=by
 unfold Fg at b;split at b
 .rename_i v j;simp only[CY,Bz,RY.ok.injEq]at b;obtain⟨rfl,rfl⟩:=b;exact(e _ _ rfl).gc
 .simp at b
 .cases b
theorem zO(l:EI P W K){n:IY}{p:Mode}(i:LW W a.heap)(b:E4 K m t n as r a p=.ok f k):LW W f.heap:=by
 unfold E4 at b;split at b
 .exact VU (λc j g=>(l _ _ _ _ _ _ _ g).lw (λ_ _ h=>by cases h) i) b
 .split at b
  .rename_i q s;simp only[CM]at b;unfold FH at b;split at b
   .rename_i v j g;simp only[CY]at b;split at b
    .grind
    .unfold LD at b;split at b
     .rename_i o e;simp only[Bz,RY.ok.injEq]at b;obtain⟨rfl,rfl⟩:=b;refine i.cons ?_;unfold Dj at e;split at e
      .split at e
       .split at e<;>cases e;rfl
       .cases e
      .cases e
     .simp only[Cv]at b;split at b
      .simp only[Bz,RY.ok.injEq]at b;obtain⟨rfl,rfl⟩:=b;exact((l _ _ _ _ _ _ _ g).lw (λ_ _ h=>by cases h) LW.nil).append (i.q_d (Bp.q_H as))
      .cases b
   .split at b<;>cases b
   .cases b
  .unfold Gu at b;simp only[CM,Cv,Bz]at b;split at b
   .unfold UA at b;grind [CY]
   .split at b
    .exact VU (λc j g=>(l _ _ _ _ _ _ _ g).lw (λ_ _ h=>by cases h) (i.q_d (Bp.q_H as))) b
    .cases b
theorem YB{x:Option DF}(e:∀l,x=J l->Bp l.δ)(c:LW W a.heap)(b:EJ m op r a x=.ok f k):LW W f.heap:=by
 unfold EJ at b;split at b
 .simp only[M6,Cv]at b;split at b
  .simp only[CY,TG,RY.ok.injEq]at b;obtain⟨rfl,rfl⟩:=b;exact c.q_d (e _ rfl)
  .cases b
 .cases b
theorem dU(n:EI P W K){s:Array G5}(e:LW W a.heap)(b:DZ C K m s t o a=.ok f k):LW W f.heap:=by
 have call:∀{g:y} {args:List y} {r:Option L2},Fe C K m t g args r a=.ok f k->LW W f.heap:=by
  intro g args r b;unfold Fe at b;split at b
  .unfold Mf at b;split at b
   .rename_i x q;exact VU (λc j i=>(n _ _ _ _ _ _ _ i).lw (λ_ _ h=>by cases h;exact e _ _ q) e) b
   .cases b
  .grind [CM,zO]
  .cases b
 unfold DZ at b;split at b
 .cases b
 .grind [CY]
 .unfold Jj at b;split at b
  .split at b
   .exact call b
   .unfold Hh at b;grind
   .rename_i c v w;refine YB (λl p=>?_) e b;exact Bp.evalOp (op:=.call _) p
  .unfold Ht at b;grind
  .grind [J8]
  grind [YB,Bp.evalOp]
theorem aL(i:EI P W K){p:Array G5}(g:LW W a.heap)(b:DZ C K m p t o a=.of v f):LW W f.heap:=by
 have raw:∀{E:E (BG×S)} {r:Option L2},(∀c j,E=.ok (c,j)->LW W j)->Fg t r a E=.of v f->LW W f.heap:=by
  intro E r l b;unfold Fg at b;split at b
  .simp at b
  .rename_i v j;simp only[Bz,RY.of.injEq]at b;obtain⟨rfl,rfl⟩:=b;exact(l _ _ rfl).gc
  .cases b
 have plain:∀{op:Op} {r:Option L2} {x:Option DF},EJ m op r a x=.of v f->False:=by intro op r x b;exact zBu
 have call:∀{k:y} {args:List y} {r:Option L2},Fe C K m t k args r a=.of v f->LW W f.heap:=by
  intro k args r b;unfold Fe at b;split at b
  .unfold Mf at b;split at b
   .rename_i w n;exact raw (λc j e=>(i _ _ _ _ _ _ _ e).lw (λ_ _ h=>by cases h;exact g _ _ n) g) b
   .cases b
  .simp only[CM]at b;unfold E4 at b;split at b
   .exact raw (λc j e=>(i _ _ _ _ _ _ _ e).lw (λ_ _ h=>by cases h) g) b
   .split at b
    .rename_i q s;simp only[CM]at b;unfold FH at b;split at b
     .simp only[CY]at b;split at b
      .cases b
      .unfold LD at b;split at b
       .simp at b
       .simp only[Cv]at b;split at b
        .simp at b
        .cases b
     .grind
     .cases b
    .unfold Gu at b;simp only[CM,Cv,Bz]at b;split at b
     .unfold UA at b;split at b
      .split at b
       .simp at b
       .cases b
      .grind
      .cases b
     .split at b
      .exact raw (λc j e=>(i _ _ _ _ _ _ _ e).lw (λ_ _ h=>by cases h) (g.q_d (Bp.q_H _))) b
      .cases b
  .cases b
 unfold DZ at b;split at b
 .cases b
 .simp at b
 .unfold Jj at b;split at b
  .split at b
   .exact call b
   .unfold Hh at b;grind
   .exact(plain b).elim
  .unfold Ht at b;grind
  .grind [J8]
  .exact(plain b).elim
variable{A:Nat->Prop}{P:H5}{N:List Hk}{q D b:BF}{w t L:G2}{M:Nat->Prop}{h R T:S}{r F:u}{ci:Option u}{nt:NT}{env:Nat->y}{V Y:List Df}{l:M3}{ro:Option Nat}{W:Lp->Prop}
def DJ(q:BF)(r:u)(b:Nat):Prop:=∀n,b<=n->Fi q (n::r)
theorem My{n b:Nat}{r a:u}(i:(n::r)<:+a)(h2:(b::r)<:+a):n=b:=by obtain⟨f,c⟩:=i;obtain⟨g,e⟩:=h2;grind [List.append_inj_right']
def Fi.other{n b:Nat}(e:Fi q (b::r))(f:b≠n)(g:∀a,¬(n::r)<:+a->D a=q a):Fi D (b::r):=λa c=>by rw[g a λh=>f (My c h)];exact e a c
def DJ.next{n:Nat}(b:DJ q r n)(c:∀a,¬(n::r)<:+a->D a=q a):DJ D r (n+1):=λe f=>(b e z).other z c
def OZ(a:Array G5)(e:Nat->y)(o:G5):Option Bool:=match o.guard with|none=>J X|some (j,want)=>match((a[j]?).bind (·.dst)).map e with|some (.d (.bool b))=>J (b==want)|some (.kw [])=>J Z|_=>I
def Jl(b:Array G5)(a:Nat):Option Tmp:=(b[a]?).bind λo=>o.dst
variable{L:OA->M3->G2->Prop}
theorem Te(a:∀e l w,Q e l w->L e l w)(h:LetsOut Q):LetsOut L:=let ⟨l,w,h⟩:=h;⟨l,w,a _ _ _ h⟩
theorem ig{F:Fence}{n:Nat}{b:Array G5}(f:∀e l w,Q e l w->L e l w){a:Nat}{K:M3->G2->Prop}{l:M3}{w:G2}(h:wpOpIn F n P b Q a K l w):wpOpIn F n P b L a K l w:=by
 unfold wpOpIn at*;split
 .grind
 .rename_i o c;simp only[c]at h;split
  .rename_i g;simp only[g,IS]at h;refine⟨h.1,?_⟩;have h:=h.2;generalize (o.semAt F.round l.eval).run P w=i at*;cases i with
   |ok x t=>
    cases x<;>simp only[Oper.uponIn]at h⊢ <;>
     first
      |exact h
      |grind [CallsIn.mono,Te]
      |grind [RoundIn.mono,Te]
   |halt x t=>cases x<;>simp only[Oper.uponIn]at h⊢ <;>first|exact h|exact f _ _ _ h
  grind
variable{b:Nat}
def DJ.next'{a:Nat}(e:DJ q r (b+a))(f:∀c,¬((b+a)::r)<:+c->D c=q c):DJ D r (b+(a+1)):=e.next f
theorem DJ.mono{c:Nat}(a:DJ q r b)(h:b<=c):DJ q r c:=λn e=>a n (Gt h e)
def O9{F:Fence}{n:Nat}{c:Array G5}(b:∀e l w,Q e l w->L e l w):∀{a:u} {l:M3} {w:G2},wpOpsIn F n P c Q a l w->wpOpsIn F n P c L a l w
 |[],l,w,h=>b _ _ _ h|i::a,l,w,h=>by rw[wpOpsIn_cons]at h⊢;have:=wpOpIn_mono (K':=wpOpsIn F n P c L a) (λl w=>O9 b) h;exact ig b this
theorem ALF{p:G4}(h:VR q w M (.kw []) p):p=.tuple #[]:=by cases h with|kw _ c i _=>grind
theorem Vi{ops:Array G5}{e:Nat->y}{j:Bool}(k:MX q w M e λj=>l.tmps.getD j Go.undef)(m:∀d i,Jl ops i=J d->d<l.tmps.size)(a:OZ ops e o=J j):
 Region.wanted o (yielded ops l.tmps)=j:=by
 unfold OZ at a;unfold Region.wanted;split at a
 .grind
 .rename_i i p n;rw[n];simp only;rcases hd:(ops[i]?).bind (·.dst)with _|d
  .rw[hd]at a;cases a
  .rw[hd]at a;simp only[Gs]at a;split at a
   .rename_i b f;simp only[F1]at f a;have h:=k d;rw[f]at h;have c:=KF h;have g:=m d i hd;have:l.tmps[d]?=J (.bool b):=by simp only at c;rw[Gc,D9 g]at c;rw[D9 g];simpa using c
    simp only[yielded,hd,GC,this];rw[<-a];grind
   .rename_i f;simp only[F1]at f a;have h:=k d;rw[f]at h;have c:l.tmps.getD d Go.undef=.tuple #[]:=ALF h;have g:=m d i hd;have:l.tmps[d]?=J (.tuple #[]):=by rw[Gc,D9 g]at c;rw[D9 g];simpa using c
    grind [yielded]
   .cases a
theorem Va(V:PR P N C)(aa:EI P W K)(ai:m.rnd=Z->ro=I){b:Array G5}{B:Nat}(j:b[B]?=J o)(Y:LW W a.heap) (c:DZ C K m b F o a=.ok f k)   (ag:NJ a.env.get env2 o.op) (T:OZ b env2 o=OZ b a.env.get o) (ac:wM k a.heap.get h2.get)(ad:∀o∈b,∀d,o.dst=J d->d<nt.n):
 ∃v e,f.env=Ds a.env o.dst v/\f.base=a.base/\(∀g,e.get g=nl k.wr f.heap.get h2.get g)/\
  ∀(A:Nat->Prop) (q:BF) (w:G2) (l:M3),HR A q w h2->Fi q F->PD A q w nt env2 a.defs h2 l->∀(next:M3->G2->Prop) (Q:OA->M3->G2->Prop),
   (∀L t,k9 A m.ci F nt q w h2 (VT env2 o.dst v) f.defs e L t->next L t)->wpOpIn (FF ro) 0 P b Q B next l w:=by
 have O:∀d,o.dst=J d->d<nt.n:=ad o (Array.mem_of_getElem? j);have M:∀{l:M3},l.tmps.size=nt.n->∀d D,Jl b D=J d->d<l.tmps.size:=by
  intro l ar d D n;rw[ar];unfold Jl at n;rcases ho:b[D]? with _|av
  .rw[ho]at n;cases n
  .grind
 unfold DZ at c;split at c
 .cases c
 .rename_i i;simp only[CY,RY.ok.injEq]at c;obtain⟨rfl,rfl⟩:=c;refine⟨.kw [],h2,rfl,rfl,λg=>(iX _ _ g).symm,?_⟩;intro A q w l H R s next Q p
  have r:=Vi (ops:=b) s.env (M s.sz) (by rw[T];exact i);unfold wpOpIn;simp only[j,r];exact⟨λ_ _=>trivial,p _ _ ⟨q,CX.refl H,s.put O (.kw [] #[] rfl (λB x v h=>by simp at h))⟩⟩
 .rename_i i;have⟨v,e,e1,e2,e3,e4⟩:=AJC (ro:=ro) (nt:=nt) V aa ai Y c ag ac O;refine⟨v,e,e1,e2,e3,?_⟩;intro A q w l H R s next Q p
  have r:=Vi (ops:=b) s.env (M s.sz) (by rw[T];exact i);unfold wpOpIn;simp only[j,r,IS];exact e4 A q w l H R s next Q p
def Zf(n:PR P N C)(x:EI P W K){b:Array G5}{k:Nat}(V:b[k]?=J o)(r:LW W a.heap) (e:DZ C K m b F o a=.of v f)   (M:NJ a.env.get env2 o.op) (T:OZ b env2 o=OZ b a.env.get o) (B:∀g,a.heap.get g=h2.get g)(L:∀o∈b,∀d,o.dst=J d->d<nt.n):
 ∃h,f.env=a.env/\f.base=a.base/\f.defs=a.defs/\(∀g,h.get g=f.heap.get g)/\
  ∀(A:Nat->Prop) (q:BF) (w:G2) (l:M3),HR A q w h2->Fi q F->PD A q w nt env2 a.defs h2 l->∀(next:M3->G2->Prop) (Q:OA->M3->G2->Prop),
   (∀j t p,eI A m.ci F nt q w h2 env2 a.defs h v p j t->Q (.panic [{v:=p,recovered:=Z}]) j t)->wpOpIn (FF ro) 0 P b Q k next l w:=by
 have D:∀{l:M3},l.tmps.size=nt.n->∀d i,Jl b i=J d->d<l.tmps.size:=by
  intro l aa d i c;rw[aa];unfold Jl at c;rcases ho:b[i]? with _|ad
  .rw[ho]at c;cases c
  .rw[ho]at c;exact L ad (Array.mem_of_getElem? ho) d c
 unfold DZ at e;split at e
 .cases e
 .simp at e
 .rename_i R;have⟨h,e1,e2,e3,e4,e5⟩:=AEb (ro:=ro) (nt:=nt) n x r e M B;refine⟨h,e1,e2,e3,e4,?_⟩;intro A q w l H O s next Q Y
  have ac:=Vi (ops:=b) s.env (D s.sz) (by rw[T];exact R);unfold wpOpIn;simp only[V,ac,IS];exact e5 A q w l H O s next Q Y
structure mm(A:Nat->Prop)(ci:Option u)(π:u)(nt:NT)(β:BF)(w:G2)(h:S)(d8:St)(base:Nat)(β':BF)(a':M3)(w':G2):Prop:=
 ws:CX A ci π β w h β' w' d8.heap
 s:PD A β' w' nt d8.env.get d8.defs d8.heap a'
 fresh:DJ β' π base
def jD(A:Nat->Prop)(ci:Option u)(r:u)(nt:NT)(q:BF)(w:G2)(h:S)(out:Option y)(f:St)(base:Nat):OA->M3->G2->Prop
 |.normal,a,t=>out=I/\∃D,mm A ci r nt q w h f base D a t|.panic chain,a,t=>∃v p D,out=J v/\chain=[{v:=p,recovered:=Z}]/\mm A ci r nt q w h f base D a t/\VR D t (MS A D f.heap) v p|_,_,_=>False
theorem At.refl(g:G)(l:List u):At g g l:=λ_ _=>rfl
theorem wM.refl(k:Fp)(g:G):wM k g g:=by grind [wM,At]
variable{alone:Nat->Bool}
theorem uu(T:PR P N C)(M:EI P W K)(ar:m.rnd=Z->ro=I){h:Array G5}(V:∀o∈h,∀d,o.dst=J d->d<nt.n):
 ∀(n:List G5) (g:Nat) (a f:St) (R:List Fp) (out:Option y),g<=h.size->h.toList.drop g=n->LW W a.heap->EF C K m h b alone n g a=.ok ((out,f),R)->
  f.base=a.base/\LW W f.heap/\∀(A:Nat->Prop) (q:BF) (w:G2) (l:M3),HR A q w a.heap->PD A q w nt a.env.get a.defs a.heap l->DJ q m.π (b+g)->
   wpOpsIn (FF ro) 0 P h (jD A m.ci m.π nt q w a.heap out f (b+h.size)) (List.range' g (U n)) l w
 |[],g,a,f,R,out,hle,hl,hL,c=>by
  simp only[EF,E.ok.injEq,LC]at c;obtain⟨⟨rfl,rfl⟩,rfl⟩:=c;have a':h.size<=g:=by have:=congrArg U hl;simp at this;omega
  refine⟨rfl,hL,λA q w l H s r=>⟨rfl,q,CX.refl H,s,?_⟩⟩;grind
 |o::n,g,a,f,R,out,hle,hl,hL,c=>by
  have aa:h[g]?=J o:=by have:=congrArg (λx:List G5=>x[0]?) hl;simpa using this
  have a1:g<h.size:=(Lc.1 aa).1;have a0:h.toList.drop (g+1)=n:=by have:=congrArg List.tail hl;simpa[List.tail_drop]using this
  simp only[EF,K5]at c;simp only[ID,List.range'_succ,wpOpsIn_cons];split at c
  .rename_i j k t;cases ad:EF C K m h b alone n (g+1) j with
   |err e=>rw[ad]at c;cases c
   |ok a3=>
    rw[ad]at c;obtain⟨⟨a2,a5⟩,av⟩:=a3;simp only[Xu,E.ok.injEq,LC]at c;obtain⟨⟨rfl,rfl⟩,rfl⟩:=c;have⟨v,h2',e1,e2,e3,e4⟩:=Va (ro:=ro) T M ar aa hL t (env2:=a.env.get) (h2:=a.heap) (λ_ _=>rfl) rfl (wM.refl _ _) V;have Y:∀ag,h2'.get ag=j.heap.get ag:=λag=>by rw[e3,(Sb t).1]
    have⟨hb,hL2,ih⟩:=uu T M ar V n (g+1) j a5 av a2 a1 a0 (dU M hL t) ad;refine⟨by rw[hb,e2],hL2,λA q w l H s r=>?_⟩;refine e4 A q w l H (r (b+g) (D2 _)) s _ _ λQ O ⟨B,g1,s1⟩=>?_;have D:CX A m.ci m.π q w a.heap B O j.heap:=by have:=g1.up (FD _ _);exact⟨this.out,this.hr.congr Y,by rw[<-MS.congr Y];exact this.ol,λF i h2=>by have⟨k1,k2,k3⟩:=this.kept F i h2;grind⟩
    have a4:PD A B O nt j.env.get j.defs j.heap Q:=by have:=s1.congr Y;rw[e1,pO];exact this
    have:=ih A B O Q D.hr a4 ((r.next' g1.out));refine O9 ?_ this;intro e a6 bc ac;cases e with|normal=>obtain⟨i,ai,L⟩:=ac;exact⟨i,ai,D.trans L.ws,L.s,L.fresh⟩|panic chain=>obtain⟨v,p,ai,i,h2,L,az⟩:=ac;exact⟨v,p,ai,i,h2,⟨D.trans L.ws,L.s,L.fresh⟩,az⟩|_=>exact ac.elim
  .rename_i v j t;split at c
   .simp only[E.ok.injEq,LC]at c;obtain⟨⟨rfl,rfl⟩,rfl⟩:=c;have⟨h2',e1,e2,e3,e4,e5⟩:=Zf (ro:=ro) T M aa hL t (env2:=a.env.get) (h2:=a.heap) (λ_ _=>rfl) rfl (λ_=>rfl) V;refine⟨e2,aL M hL t,λA q w l H s r=>?_⟩;refine e5 A q w l H (r (b+g) (D2 _)) s _ _ λQ O p ⟨B,g1,s1,hv⟩=>?_;have D:CX A m.ci m.π q w a.heap B O j.heap:=by have:=g1.up (FD _ _);exact⟨this.out,this.hr.congr e4,by rw[<-MS.congr e4];exact this.ol,λF i h2=>by have⟨k1,k2,k3⟩:=this.kept F i h2;grind⟩
    refine⟨v,p,B,rfl,rfl,⟨D,?_,?_⟩,?_⟩
    .rw[e1,e3];exact s1.congr e4
    .exact(r.next' g1.out).mono z
    grind [MS.congr]
   .cases c
  .cases c
variable{A:Nat->Prop}{P:H5}{l:List Hk}{q r t:BF}{w D F:G2}{M:Nat->Prop}{h L N:S}{Q R:u}{ci:Option u}{T:NT}{env:Nat->y}{V Y:List Df}{a:M3}{ro:Option Nat}{W:Lp->Prop}
def bits(a:Nat->Nat):List Edge->Nat
 |[]=>0|e::l=>match Region.binds .any e with
  |true=>bits a l|||2 ^ e.on|||a e.on
  |false=>bits a l
def Pf:List G5->u->u
 |[],acc=>acc|o::l,acc=>Pf l (acc++[bits (λk=>acc.getD k 0) o.after.toList])
theorem zK{b:Nat->Nat}{a:Nat}:∀{c:List Edge},(bits b c).testBit a=X->∃e∈c,Region.binds .any e=X/\(e.on=a\/(b e.on).testBit a=X)
 :=by intro x;induction x<;>grind [bits]
theorem jc:∀(c:List G5) (a:u) (b:Nat),b<U a->(Pf c a).getD b 0=a.getD b 0
 :=by intro x;induction x<;>grind [Pf]
theorem bB:∀(c:List G5) (a:u) (e:Nat) (o:G5),c[e]?=J o->
 ∃f:Nat->Nat,(Pf c a).getD (U a+e) 0=bits f o.after.toList/\∀b,f b=(Pf c a).getD b 0\/f b=0
 |[],a,e,o,h=>by simp at h|x::c,a,0,o,h=>by
  simp at h;subst h;refine⟨λb=>a.getD b 0,?_,λb=>?_⟩
  .grind [Pf,jc]
  grind [jc]
 |x::c,a,e+1,o,h=>by simp at h;have⟨f,i,h2⟩:=bB c (a++[bits (λb=>a.getD b 0) x.after.toList]) e o h;grind [Pf]
def B2(B:u)(i j:Nat):Bool:=(B.getD j 0).testBit i
theorem oh{a:Array G5}{b c:Nat}(g:a[c]?=J o)(h:B2 (Pf a.toList []) b c=X):
 ∃e∈o.after,Region.binds .any e=X/\(e.on=b\/B2 (Pf a.toList []) b e.on=X):=by
 have⟨f,i,h2⟩:=bB a.toList [] c o (by simpa using g);grind [B2,zK]
def ANh(op:Op):List Tmp:=op.operands.toList.filterMap λ|.tmp t=>J t|_=>I
def ma(a:Array G5)(o:G5):List Tmp:=match o.guard with
 |some (j,_)=>match Jl a j with|some t=>[t]|none=>[]
 |none=>[]
def Q5(a:Array G5)(o:G5):List Tmp:=o.dst.toList++ANh o.op++ma a o
def uf(d:Option L2)(l:List L2):Bool:=match d with|some t=>l.all λx=> !Nat.beq x t|none=>X
theorem QE{d:Option L2}{b:List L2}(h:uf d b=X){a:L2}(c:d=J a):a∉b:=by subst c;intro e;have:=EL.1 h a e;simp at this
def ll(a:Array G5)(x b:G5):Bool:=uf x.dst (Q5 a b)&&uf b.dst (Q5 a x)
def yV(x A9:Op):Bool:=(iu x||B3 A9)&&(B3 x||iu A9)&&(iu x||iu A9)
def uw(g:Array G5)(c:List (Nat×Nat))(x b:G5)(e f:Nat):Bool:=ll g x b&&(yV x.op b.op||c.any λa=>Nat.beq a.1 e&&Nat.beq a.2 f)
def fb:Op->Bool
 |.defer _=>X|_=>Z
def nY(c:Array G5)(g:List (Nat×Nat))(alone:Nat->Bool):Bool:=
 let B:=Pf c.toList []
 (V5 c.size).all λa=>match c[a]? with
  |none=>Z
  |some f=> !fb f.op&&f.after.toList.all (λe=> !Region.binds .any e||Nat.blt e.on a)&&
   (V5 a).all (λb=>match c[b]? with|none=>Z|some x=>(B2 B b a||uw c g x f b a)&&(!(alone b||alone a)||B2 B b a))
structure Wo(ops:Array G5)(f9:List (Nat×Nat))(alone:Nat->Bool):Prop:=
 noDef:∀(j:Nat) (A9:G5),ops[j]?=J A9->∀c,A9.op≠ .defer c
 back:∀(j:Nat) (A9:G5),ops[j]?=J A9->∀e∈A9.after,Region.binds .any e=X->e.on<j
 pair:∀(i j:Nat) (x A9:G5),i<j->ops[i]?=J x->ops[j]?=J A9->B2 (Pf ops.toList []) i j=X\/
  (ll ops x A9=X/\(yV x.op A9.op=X\/(i,j)∈f9))
 alone:∀(i j:Nat) (x A9:G5),i<j->ops[i]?=J x->ops[j]?=J A9->(alone i=X\/alone j=X)->B2 (Pf ops.toList []) i j=X
theorem vO{g:Array G5}{l:List (Nat×Nat)}(h:nY g l alone=X):Wo g l alone:=by
 unfold nY at h;have n:∀(a:Nat) (b:G5),g[a]?=J b->fb b.op=Z/\(∀e∈b.after,Region.binds .any e=X->e.on<a)/\
  ∀(f:Nat) (x:G5),f<a->g[f]?=J x->(B2 (Pf g.toList []) f a||uw g l x b f a)=X/\(!(alone f||alone a)||B2 (Pf g.toList []) f a)=true:=by
  intro a b k;have p:a<g.size:=(Lc.1 k).1;have:=EL.1 h a (OL.2 p);simp only[k,As,It]at this;obtain⟨⟨i,h2⟩,q⟩:=this;refine⟨i,λe t s=>?_,λf x v m=>?_⟩
  .grind [Nat.blt_eq]
  .grind
 refine⟨λa b k c j=>?_,λa b k=>(n a b k).2.1,λf a x b o m k=>?_,λf a x b o m k r=>?_⟩
 .grind [fb]
 .grind [uw,Nat.eq_of_beq_eq_true]
 grind
theorem ZW{j:Array G5}:
 ∀(n:List G5) (c:Nat) (a f:St) (p:List Fp) (out:Option y),c<=j.size->j.toList.drop c=n->EF C K m j b alone n c a=.ok ((out,f),p)->
  ∃(B0:Nat->St) (F:Nat->Fp) (l:Nat),c<=l/\l<=j.size/\B0 c=a/\
   (∀g,c<=g->g<l->∃o,j[g]?=J o/\DZ C K m j ((b+g)::m.π) o (B0 g)=.ok (B0 (g+1)) (F g)/\p[g-c]?=J (F g))/\
   ((out=I/\l=j.size/\B0 l=f)\/∃v o,out=J v/\l<j.size/\alone l=X/\j[l]?=J o/\DZ C K m j ((b+l)::m.π) o (B0 l)=.of v f)
 |[],c,a,f,p,out,hle,hl,h=>by
  simp only[EF,E.ok.injEq,LC]at h;obtain⟨⟨rfl,rfl⟩,rfl⟩:=h;have N:j.size<=c:=by have:=congrArg U hl;simp at this;omega
  exact⟨λ_=>a,λ_=>{},c,D2 _,hle,rfl,λg i h2=>z,.inl ⟨rfl,z,rfl⟩⟩
 |o::n,c,a,f,p,out,hle,hl,h=>by
  have s:j[c]?=J o:=by have:=congrArg (λx:List G5=>x[0]?) hl;simpa using this
  have t:c<j.size:=(Lc.1 s).1;have D:j.toList.drop (c+1)=n:=by have:=congrArg List.tail hl;simpa[List.tail_drop]using this
  simp only[EF,K5]at h;split at h
  .rename_i r k w;cases q:EF C K m j b alone n (c+1) r with
   |err e=>rw[q]at h;cases h
   |ok L=>
    rw[q]at h;obtain⟨⟨H,M⟩,A⟩:=L;simp only[Xu,E.ok.injEq,LC]at h;obtain⟨⟨rfl,rfl⟩,rfl⟩:=h;have⟨B0,F,l,i,h2,h3,h4,h5⟩:=ZW n (c+1) r M A H t D q;refine⟨λg=>if g=c then a else B0 g,λg=>if g=c then k else F g,l,z,h2,D4 rfl,λg O P=>?_,?_⟩
    .grind
    grind
  .rename_i v r w;split at h
   .rename_i B;simp only[E.ok.injEq,LC]at h;obtain⟨⟨rfl,rfl⟩,rfl⟩:=h;exact⟨λ_=>a,λ_=>{},c,D2 _,hle,rfl,λg i h2=>z,.inr ⟨v,o,rfl,t,B,s,w⟩⟩
   .cases h
  .cases h
section mixed
variable(a:Array G5)(B0:Nat->St)(F:Nat->Fp)
def Lv(D:Nat->Bool):Nat->Nat->y
 |0=>(B0 0).env.get|k+1=>λt=>if D k=X/\Jl a k=J t then(B0 (k+1)).env.get t else Lv D k t
def JM(D:Nat->Bool):Nat->G
 |0=>(B0 0).heap.get|k+1=>λa=>if D k=X then nl (F k).wr (B0 (k+1)).heap.get (JM D k) a else JM D k a
def Zv(c:Option (List u))(b:u):Prop:=∃a,c=J a/\b∉a
end mixed
variable{a:Array G5}{B0:Nat->St}{F:Nat->Fp}{D:Nat->Bool}
variable{t:L2}
theorem W5{i:Nat}(g:∀f,f<i->∃v,(B0 (f+1)).env=Ds (B0 f).env (Jl a f) v):∀{b:Nat},b<=i->(∀c,c<b->Jl a c=J t->D c=X)->Lv a B0 D b t=(B0 b).env.get t
 |0,_,_=>rfl|b+1,hi,h=>by
  simp only[Lv];split
  .rfl
  .rename_i k;have⟨v,hv⟩:=g b hi;have l:Jl a b≠J t:=λe=>k ⟨h b z e,e⟩;rw[W5 g z λc m=>h c z,hv,pO];unfold VT;split
   .rename_i d j;have:d≠t:=λe=>l (e▸j);simp[this]
   .rfl
theorem kq{i:Nat}:∀{n:Nat},(∀j,i<=j->j<i+n->Jl a j=J t->D j=Z)->Lv a B0 D (i+n) t=Lv a B0 D i t
 :=by intro x;induction x<;>grind [Lv]
theorem HD{c:Option (List u)}{a:u}(h:Zv c a)(new b:G):nl c new b a=b a:=by obtain⟨f,rfl,e⟩:=h;simp[nl,e]
theorem iY(b:Option (List u))(a:u):Zv b a\/∀new e:G,nl b new e a=new a:=by
 rcases b with _|c
 .exact .inr λ_ _=>rfl
 .by_cases h:a∈c
  .grind [nl]
  .exact .inl ⟨c,rfl,h⟩
def P2{k:Nat}{a:u}(f:∀c,c<k->nl (F c).wr (B0 (c+1)).heap.get (B0 c).heap.get a=(B0 (c+1)).heap.get a):∀{i:Nat},i<=k->(∀b,b<i->D b=Z->Zv (F b).wr a)->JM B0 F D i a=(B0 i).heap.get a
 |0,_,_=>rfl|i+1,hi,h=>by
  have j:=P2 f (i:=i) z λb n=>h b z;have g:=f i hi;simp only[JM];split
  .rcases iY (F i).wr a with e|m
   .rw[HD e,j,<-g,HD e]
   .exact m _ _
  .rename_i l;have e:=h i z zDC;rw[j,<-g,HD e]
theorem U6{c:u}{a:Nat}:∀{n:Nat},(∀b,a<=b->b<a+n->D b=X->Zv (F b).wr c)->JM B0 F D (a+n) c=JM B0 F D a c
 :=by intro x;induction x<;>grind [JM,HD]
def Rv(D:Nat->Bool)(i:Nat):Nat->Bool:=λk=>D k||Nat.beq k i
theorem LN(D:Nat->Bool)(i:Nat):Rv D i i=true:=by simp[Rv]
def Ku(D:Nat->Bool){i k:Nat}(h:k≠i):Rv D i k=D k:=by simp[Rv,h]
theorem R8{i:Nat}{t:L2}(h:Jl a i≠J t):∀n,Lv a B0 (Rv D i) n t=Lv a B0 D n t
 |0=>rfl|n+1=>by
  simp only[Lv,R8 h n];by_cases e:n=i
  .subst e;simp[h]
  .rw[Ku D e]
theorem Mj{b:Nat}{c:u}(h:Zv (F b).wr c)(a:D b=Z):∀n,JM B0 F (Rv D b) n c=JM B0 F D n c
 |0=>rfl|n+1=>by
  simp only[JM];by_cases e:n=b
  .subst e;rw[LN,a];simp only[IS,Ge,AM];rw[HD h];exact Mj h a n
  .rw[Ku D e];rcases iY (F n).wr c with f|g
   .rw[HD f,HD f,Mj h a n]
   .rw[g,g,Mj h a n]
theorem Uv{b:Nat}(c:D b=Z):∀{n:Nat},b<n->((V5 n).countP λa=> !Rv D b a)<(V5 n).countP λa=> !D a
 |0,h=>z|n+1,h=>by
  have mono:∀n,((V5 n).countP λa=> !Rv D b a)<=(V5 n).countP λa=> !D a:=λn=>List.countP_mono_left λa _ f=>by grind [Rv]
  simp only[Rw,List.countP_append,List.countP_singleton];by_cases e:n=b
  .grind [LN]
  .rw[Ku D e];have:=Uv c (show b<n by omega);omega
variable{A:Nat->Prop}{P:H5}{Q:List Hk}{q l m:BF}{w C F:G2}{M:Nat->Prop}{h N R:S}{T L:u}{ci:Option u}{nt:NT}{env:Nat->y}{V Y:List Df}{r:M3}{ro:Option Nat}{W:Lp->Prop}
def rI(x:Option (List u))(b:u):Prop:=x=I\/∃a,x=J a/\b∈a
def yB(x:Option (List u))(a:u):Zv x a\/rI x a:=by
 rcases x with _|b
 .exact .inr (.inl rfl)
 .by_cases h:a∈b
  .exact .inr (.inr ⟨b,rfl,h⟩)
  .exact .inl ⟨b,rfl,h⟩
variable{x l:Option (List u)}
theorem Ry(h:apart x l=X){e:u}(a:rI x e):Zv l e:=by
 unfold apart at h;split at h
 .rcases a with a|⟨f,b,c⟩
  .cases a
  .cases b;cases c
 .exact⟨[],rfl,AG⟩
 .rename_i f g _ _;rcases a with a|⟨j,b,c⟩
  .cases a
  .cases b;refine⟨g,rfl,λi=>?_⟩;grind
 .cases h
theorem Pb(h:apart x l=X){e:u}(a:rI l e):Zv x e:=by
 unfold apart at h;split at h
 .exact⟨[],rfl,AG⟩
 .rcases a with a|⟨f,b,c⟩
  .cases a
  .cases b;cases c
 .rename_i f j _ _;rcases a with a|⟨i,b,c⟩
  .cases a
  .cases b;refine⟨f,rfl,λg=>?_⟩;grind
 .cases h
def AML{k:Fp}{g b:G}(h:¬(k.ext=X/\k.rd=I)->∀a,rI k.rd a->g a=b a)(e:k.ext=X->k.rd=I->∀a o,g a=J o->b a=J o):wM k g b:=by
 obtain⟨i,j,ext⟩:=k;rcases i with _|f
 .rcases ext with _|_
  .exact λa=>h AG a (.inl rfl)
  .exact e rfl rfl
 .exact λa c=>h AG a (.inr ⟨f,rfl,c⟩)
theorem jO(l:Option (List u)):apart (J []) l=true:=rfl
theorem jQ(x:Option (List u)):apart x (J [])=true:=by
 rcases x with _|l
 .rfl
 .cases l<;>rfl
variable{C:DH}{k:Fr}
theorem qL{K:Ah}{a:Array G5}{x l:G5}{c f e g:St}{r b:Fp}{i j:u}(h:yV x.op l.op=X)(m:DZ C K k a i x c=.ok e r)(n:DZ C K k a j l f=.ok g b):
 r.apart b=true:=by grind [ACi,yV,Fp.apart,jO,jQ]
variable{o:G5}
theorem R7{a:Array G5}{i:Nat}(h:a[i]?=J o):Jl a i=o.dst:=by simp[Jl,h]
def Lf(a:Array G5)(D:Nat->Bool):Prop:=∀(j:Nat) (l:G5),a[j]?=J l->D j=X->∀e∈l.after,Region.binds .any e=X->D e.on=X
variable{b:List (Nat×Nat)}{alone:Nat->Bool}
theorem Jr{a:Array G5}{D:Nat->Bool}(m:Wo a b alone)(j:Lf a D):∀(c:Nat),D c=X->∀g,B2 (Pf a.toList []) g c=X->c<a.size->D g=true:=by intro c;induction c using Nat.strongRecOn with|_ c p=>intro h g l k;have f:=D9 k;have⟨e,he,hb,i⟩:=oh f l;have n:=j c _ f h e he hb;have o:=m.back c _ f e he hb;grind
theorem Np{a:Array G5}{D:Nat->Bool}(l:Wo a b alone)(j:Lf a D){c:Nat}(f:a[c]?=J o)(k:∀e∈o.after,Region.binds .any e=X->D e.on=X){g:Nat} (h:B2 (Pf a.toList []) g c=X):D g=true:=by have⟨e,he,hb,i⟩:=oh f h;have m:=k e he hb;have n:=l.back c _ f e he hb;grind [Jr]
structure APu(F:Nat->Fp)(b:Nat)(π:u)(i j:Nat):Prop:=
 ext:(F i).ext=X
 rd:(F i).rd=I
 new:hV ((b+j)::π) (F j).wr=X
 wr:jE (F i).wr=X
 ahead:∀k,k<i->Abs.apart (F k).wr (F j).wr=X
def Y6(h:jE x=X)(a:u):Zv x a:=by
 unfold jE at h;split at h
 .exact⟨[],rfl,AG⟩
 .cases h
theorem ue{L:u}(h:hV L x=X){b:u}(a:rI x b):L<:+b:=by
 unfold hV at h;split at h
 .rename_i f;rcases a with a|⟨g,e,c⟩
  .cases a
  grind [Id.q_a]
 .cases h
structure W0(W:Lp->Prop)(C:DH)(K:Ah)(fr:Fr)(ops:Array G5)(b:Nat)(f9:List (Nat×Nat))(alone:Nat->Bool)(B0:Nat->St)(F:Nat->Fp)(m:Nat):Prop:=
 le:m<=ops.size
 step:∀k,k<m->∃o,ops[k]?=J o/\DZ C K fr ops ((b+k)::fr.π) o (B0 k)=.ok (B0 (k+1)) (F k)
 env:∀k,k<m->∃v,(B0 (k+1)).env=Ds (B0 k).env (Jl ops k) v
 nl:∀id k,k<m->nl (F k).wr (B0 (k+1)).heap.get (B0 k).heap.get id=(B0 (k+1)).heap.get id
 defs:∀k,k<=m->(B0 k).defs=(B0 0).defs
 lw:∀k,k<=m->LW W (B0 k).heap
 base:∀k,k<=m->(B0 k).base=(B0 0).base
 apart:∀(i j:Nat),i<j->j<m->B2 (Pf ops.toList []) i j=X\/(F i).apart (F j)=X\/APu F b fr.π i j
variable{C:DH}{K:Ah}{fr:Fr}{a:Array G5}{b m:Nat}{k:List (Nat×Nat)}{alone:Nat->Bool}{B0:Nat->St}{F:Nat->Fp}{D:Nat->Bool}
variable{N:List Fp}
theorem ANV(s:PR P Q C)(w:EI P W K)(T:fr.rnd=Z->ro=I)(q:Wo a k alone)(D:∀o∈a,∀d,o.dst=J d->d<nt.n)(R:FG fr.π b N k=X)(M:m<=a.size)(t:LW W (B0 0).heap)(g:∀c,c<m->∃o,a[c]?=J o/\DZ C K fr a ((b+c)::fr.π) o (B0 c)=.ok (B0 (c+1)) (F c)/\N[c]?=J (F c)):W0 W C K fr a b k alone B0 F m:=by
 have p:∀c,c<=m->LW W (B0 c).heap:=by intro c;induction c with|zero=>intro _;exact t|succ c r=>grind [dU]
 have O:∀c,c<m->(∃v,(B0 (c+1)).env=Ds (B0 c).env (Jl a c) v)/\(B0 (c+1)).base=(B0 c).base/\(B0 (c+1)).defs=(B0 c).defs:=by intro c e;have⟨o,i,h2,h3⟩:=g c e;have⟨v,h2',e1,e2,_⟩:=Va (ro:=ro) s w T i (p c z) h2 (env2:=(B0 c).env.get) (h2:=(B0 c).heap) (λ_ _=>rfl) rfl (wM.refl _ _) D;exact⟨⟨v,by rw[R7 i];exact e1⟩,e2,(Sb h2).2 (q.noDef c o i)⟩
 have B:∀c,c<=m->(B0 c).defs=(B0 0).defs:=by intro c;induction c with|zero=>intro _;rfl|succ c r=>grind
 have A:∀c,c<=m->(B0 c).base=(B0 0).base:=by intro c;induction c with|zero=>intro _;rfl|succ c r=>grind
 refine⟨M,λc e=>let ⟨o,i,h2,_⟩:=g c e;⟨o,i,h2⟩,λc e=>(O c e).1,λV c e=>?_,B,p,A,λj n H L=>?_⟩
 .grind [Sb]
 .have⟨x,x1,x2,x3⟩:=g j z;have⟨l,y1,y2,y3⟩:=g n L;refine(q.pair j n x l H x1 y1).imp (λh=>h) ?_;rintro⟨_,h|h⟩
  .exact .inl (qL h x2 y2)
  .have:=EL.1 R (j,n) h;simp[x3,y3]at this;refine this.imp (λh=>h) λf=>?_;simp only[YF,As,Option.isNone_iff_eq_none]at f;refine⟨f.1,f.2.1,f.2.2.1,f.2.2.2.1,λc e=>EL.1 f.2.2.2.2 (F c) ?_⟩;have⟨_,_,_,z3⟩:=g c z;exact AP (i:=c) zCI
theorem oH(q:W0 W C K fr a b k alone B0 F m)(p:Wo a k alone)(j:Lf a D)(v:∀r,D r=X->r<m){c:Nat}(g:a[c]?=J o)(w:c<=m)(L:D c=Z)(A:∀e∈o.after,Region.binds .any e=X->D e.on=X)  (N:t∈Q5 a o):Lv a B0 D m t=(B0 c).env.get t:=by
 obtain⟨n,rfl⟩:∃n,m=c+n:=⟨m-c,z⟩;have M:=(Lc.1 g).1;rw[kq (λf i h2 s=>?_),W5 q.env w λf x s=>?_]
 ·
  have l:f<a.size:=z;have B:=D9 l;rcases p.pair f c _ o x B g with h|⟨h,_⟩
  .exact Np p j g A h
  grind [ll,R7,QE]
 ·
  rcases hDj:D f with _|_
  .rfl
  .exfalso;by_cases e:f=c
   .grind
   have l:f<a.size:=by have:=v f hDj;have:=q.le;omega
   have H:=D9 l;rcases p.pair c f o _ z g H with h|⟨h,_⟩
   .grind [Jr]
   grind [ll,R7,QE]
theorem ANN(h:W0 W C K fr a b k alone B0 F m)(r:Wo a k alone)(j:Lf a D)(i:∀g,D g=X->g<m){c:Nat}(n:a[c]?=J o)(p:c<=m)(l:D c=Z)(q:∀e∈o.after,Region.binds .any e=X->D e.on=X):NJ (B0 c).env.get (Lv a B0 D m) o.op/\OZ a (Lv a B0 D m) o=OZ a (B0 c).env.get o:=by
 refine⟨λx s=>?_,?_⟩
 .cases x with|tmp t=>refine(oH h r j i n p l q ?_).symm;unfold Q5;refine Ip _ (II _ ?_);exact List.mem_filterMap.2 ⟨.tmp t,by simpa using s,rfl⟩|_=>rfl
 .unfold OZ;rcases hg:o.guard with _|v
  .rfl
  .obtain⟨f,w⟩:=v;simp only;have e:((a[f]?).bind λx=>x.dst)=Jl a f:=rfl;rw[e];rcases hd:Jl a f with _|t
   .rfl
   .grind [oH,Q5,ma]
theorem AJ3(p:W0 W C K fr a b k alone B0 F m)(w:Wo a k alone)(j:Lf a D)(q:∀s,D s=X->s<m){c:Nat}{o:G5}(A:a[c]?=J o)(t:c<m)(r:D c=Z)(B:∀e∈o.after,Region.binds .any e=X->D e.on=X) (x:¬((F c).ext=X/\(F c).rd=I)) {l:u} (H:rI (F c).rd l):JM B0 F D m l=(B0 c).heap.get l:=by
 obtain⟨n,rfl⟩:∃n,m=c+n:=⟨m-c,z⟩;rw[U6 (λf i h2 g=>?_),P2 (p.nl l) z λf v g=>?_]
 .rcases p.apart f c v t with h|h|h
  .grind [Np]
  rotate_left
  .exact Y6 h.wr l
  grind [Fp.apart,Pb]
 .by_cases e:f=c
  .subst e;rw[r]at g;cases g
  rcases p.apart c f z (q f g)with h|h|h
  .have:=Jr w j f g c h (by have:=q f g;have:=p.le;omega);rw[r]at this;cases this
  rotate_left
  .exact absurd ⟨h.ext,h.rd⟩ x
  grind [Fp.apart,Ry]
theorem AFW(q:W0 W C K fr a b k alone B0 F m)(N:Wo a k alone)(j:Lf a D)(s:∀l,D l=X->l<m){c:Nat}{o:G5}(R:a[c]?=J o)(H:c<m)(t:D c=Z)(T:∀e∈o.after,Region.binds .any e=X->D e.on=X) (M:(F c).rd=I) (B:∀(g:Nat) (f:u),((b+g)::fr.π)<:+f->g<m->(B0 0).heap.get f=I) {f:u} {P:Obj} (x:(B0 c).heap.get f=J P):JM B0 F D m f=(B0 c).heap.get f:=by
 have V:rI (F c).rd f:=.inl M;have Q:∀n,n<=c->(∀l,l<n->Zv (F l).wr f)->(B0 n).heap.get f=(B0 0).heap.get f:=by intro n;induction n with|zero=>intro _ _;rfl|succ n O=>intro w r;rw[<-q.nl f n z,HD (r n z),O z λl h=>r l z]
 obtain⟨n,rfl⟩:∃n,m=c+n:=⟨m-c,z⟩;rw[U6 (λg i h2 p=>?_),P2 (q.nl f) z λg L p=>?_]
 .rcases q.apart g c L H with h|h|h
  .grind [Np]
  rotate_left
  .exact Y6 h.wr f
  grind [Fp.apart,Pb]
 .by_cases e:g=c
  .subst e;rw[t]at p;cases p
  rcases q.apart c g z (s g p)with h|h|h
  .have:=Jr N j g p c h (by have:=s g p;have:=q.le;omega);rw[t]at this;cases this
  rotate_left
  .rcases yB (F g).wr f with w|v
   .exact w
   .exfalso;have A:=Q c (D2 _) λl r=>Pb (h.ahead l r) v;rw[B g f (ue h.new v) (s g p)]at A;rw[A]at x;cases x
  grind [Fp.apart,Ry]
theorem AJH(q:W0 W C K fr a b k alone B0 F m)(x:Wo a k alone)(j:Lf a D)(r:∀p,D p=X->p<m){c:Nat}{o:G5}(s:a[c]?=J o)(H:c<m)(A:D c=Z){v:y}(L:(B0 (c+1)).env=Ds (B0 c).env o.dst v):VT (Lv a B0 D m) o.dst v=Lv a B0 (Rv D c) m:=by
 funext t;rcases B:o.dst with _|d
 .grind [VT,R8,R7]
 .simp[VT];by_cases e:d=t
  .subst e;rw[D4 rfl];obtain⟨n,rfl⟩:∃n,m=(c+1)+n:=⟨m-(c+1),z⟩;rw[kq (λf i h2 g=>?_)]
   .grind [Lv,LN,R7,Ds,CW.q_f]
   .rw[Ku D z];rcases hDj:D f with _|_
    .rfl
    .exfalso;have w:f<a.size:=by have:=r f hDj;have:=q.le;omega
     have l:=D9 w;rcases x.pair c f o _ z s l with h|⟨h,_⟩
     .grind [Jr]
     .unfold ll at h;simp at h;rw[R7 l]at g;refine absurd ?_ (QE h.2 g);grind [Q5]
  grind [R8,R7]
theorem AFV(o:W0 W C K fr a b k alone B0 F m)(v:Wo a k alone)(j:Lf a D)(p:∀s,D s=X->s<m){c:Nat}(L:c<m)(t:D c=Z)(f:u):
 nl (F c).wr (B0 (c+1)).heap.get (JM B0 F D m) f=JM B0 F (Rv D c) m f:=by
 rcases yB (F c).wr f with r|q
 .grind [HD,Mj]
 .have w:∀new B:G,nl (F c).wr new B f=new f:=by
   rcases iY (F c).wr f with r|h
   .obtain⟨x,i,h2⟩:=r;rcases q with e|⟨A,e,H⟩
    .rw[i]at e;cases e
    grind
   .exact h
  rw[w];obtain⟨n,rfl⟩:∃n,m=(c+1)+n:=⟨m-(c+1),z⟩;rw[U6 (λg i h2 e=>?_)]
  .grind [JM,LN]
  .rw[Ku D z]at e;rcases o.apart c g z (p g e)with h|h|h
   .have:=Jr v j g e c h (by have:=p g e;have:=o.le;omega);rw[t]at this;cases this
   rotate_left
   .have⟨x,e1,e2⟩:=Y6 h.wr f;rcases q with l|⟨A,l,M⟩
    .rw[e1]at l;cases l
    grind
   grind [Fp.apart,Ry]
theorem sE(j:Lf a D){b:Nat}(n:a[b]?=J o)(p:∀e∈o.after,Region.binds .any e=X->D e.on=X):Lf a (Rv D b):=by
 intro f l m c e k i;have up:D e.on=X->Rv D b e.on=true:=λh=>by simp[Rv,h]
 by_cases g:f=b
 .grind
 .rw[Ku D g]at c;exact up (j f l m c e k i)
structure G0(P:H5)(C:DH)(K:Ah)(fr:Fr)(nt:NT)(ops:Array G5)(b m:Nat)(B0:Nat->St)(F:Nat->Fp)(A:Nat->Prop)(β0:BF)(w0:G2)(D:Nat->Bool)(listed:Array Bool)(β:BF)(w:G2)(a:M3)(hc:S):Prop:=
 closed:Lf ops D
 lt:∀k,D k=X->k<m
 size:listed.size=ops.size
 list:∀k,k<ops.size->listed[k]?=J (D k)
 heap:∀id,hc.get id=JM B0 F D m id
 s:PD A β w nt (Lv ops B0 D m) (B0 0).defs hc a
 ws:CX A fr.ci fr.π β0 w0 (B0 0).heap β w hc
 fresh:∀i,i<ops.size->D i=Z->Fi β ((b+i)::fr.π)
 freshFrom:DJ β fr.π (b+ops.size)
theorem AMR(bo:PR P Q C)(bs:EI P W K)(cd:fr.rnd=Z->ro=I)(T:Wo a k alone)(bv:∀o∈a,∀d,o.dst=J d->d<nt.n)(B:W0 W C K fr a b k alone B0 F m){f:St}{out:Option y}(b3:∀(N:Nat) (id:u),((b+N)::fr.π)<:+id->N<m->(B0 0).heap.get id=I) (a':(out=I/\m=a.size/\B0 m=f)\/∃v o,out=J v/\m<a.size/\alone m=X/\a[m]?=J o/\DZ C K fr a ((b+m)::fr.π) o (B0 m)=.of v f) {a4:BF} {a3:G2}:
 ∀(az:Nat) (D:Nat->Bool) (O:Array Bool) (q:BF) (w:G2) (r:M3) (j:S),G0 P C K fr nt a b m B0 F A a4 a3 D O q w r j->((V5 a.size).countP λl=> !D l)<=az->
  wpAnyIn (FF ro) 0 P .any a (jD A fr.ci fr.π nt a4 a3 (B0 0).heap out f (b+a.size)) az O r w:=by
 have bn:∀{D:Nat->Bool} {O:Array Bool} {q:BF} {w:G2} {r:M3} {j:S},G0 P C K fr nt a b m B0 F A a4 a3 D O q w r j->(∀l,l<a.size->D l=X)->
  jD A fr.ci fr.π nt a4 a3 (B0 0).heap out f (b+a.size) .normal r w:=by
  intro D O q w r j M aa;rcases a' with⟨rfl,R,rfl⟩|⟨v,o,_,R,_⟩
  .have ac:Lv a B0 D m=(B0 m).env.get:=by funext t;exact W5 B.env (D2 _) λN ad _=>aa N z
   have a0:∀id,j.get id=(B0 m).heap.get id:=λid=>by rw[M.heap];exact P2 (B.nl id) (D2 _) λN ad h=>by grind
   refine⟨rfl,q,⟨M.ws.out,M.ws.hr.congr a0,by rw[<-MS.congr a0];exact M.ws.ol,λL i h2=>?_⟩,?_,M.freshFrom⟩
   .have⟨k1,k2,k3⟩:=M.ws.kept L i h2;grind
   .rw[B.defs m (D2 _),<-ac];exact M.s.congr a0
  .have:=M.lt m (aa m R);omega
 have ch:∀{D:Nat->Bool} {O:Array Bool} {q:BF} {w:G2} {r:M3} {j:S},G0 P C K fr nt a b m B0 F A a4 a3 D O q w r j->Region.ready .any a O=[]->∀l,l<a.size->D l=true:=by
  intro D O q w r j M bc l;induction l using Nat.strongRecOn with
  |_ l bh=>
   intro H;rcases ag:D l with _|_
   .exfalso;have s:=D9 H;have:l∈Region.ready .any a O:=by
     unfold Region.ready;refine Qr.2 ⟨OL.2 H,?_⟩;simp only[s,Gs,F7,As,It];refine⟨by rw[Gc,M.list l H,ag];rfl,?_⟩;rw[Array.all_eq_true_iff_forall_mem];intro e ac;rcases a5:Region.binds .any e with _|_
     .rfl
     .have bx:=T.back l _ s e ac a5;simp only[RS,PL];rw[Gc,M.list e.on z,bh e.on bx z];rfl
    rw[bc]at this;cases this
   .rfl
 intro az;induction az with
 |zero=>
  intro D O q w r j M b5;have aa:∀l,l<a.size->D l=true:=by
   intro l H;rcases ag:D l with _|_
   .have:=Uv ag H;omega
   .rfl
  refine⟨?_,bn M aa⟩;rcases be:Region.ready .any a O with _|⟨l,cm⟩
  .rfl
  .exfalso;have:l∈Region.ready .any a O:=by rw[be];simp
   have⟨i,h2⟩:=Qr.1 this;have H:=OL.1 i;simp only[As,It]at h2;have V:=h2.1;rw[Gc,M.list l H,aa l H]at V;cases V
 |succ az bh=>
  intro D O q w r j M b5;refine⟨λbc=>bn M (ch M bc),λc b6=>?_⟩;have⟨i,h2⟩:=Qr.1 b6;have a2:=OL.1 i;have s:=D9 a2;generalize a[c]=o at s;simp only[s,Gs,F7,As,It]at h2;have Y:D c=false:=by have V:=h2.1;rw[Gc,M.list c a2]at V;simpa using V
  have ar:∀e∈o.after,Region.binds .any e=X->D e.on=true:=by intro e ac a5;have V:=(Array.all_eq_true_iff_forall_mem.1 h2.2) e ac;have bx:=T.back c _ s e ac a5;rw[a5]at V;simp only[RS,PL]at V;rw[Gc,M.list e.on z]at V;simpa using V
  have a1:c<=m:=by
   rcases a' with⟨_,R,_⟩|⟨v,x,_,R,a6,av,_⟩
   .omega
   .by_cases e:c<=m
    .exact e
    .exfalso;have:=Np T M.closed s ar (T.alone m c x o z av s (.inl a6));have:=M.lt m this;omega
  have⟨hops,hgd⟩:=ANN B T M.closed M.lt s a1 Y ar;by_cases R:c<m
  .have⟨o',b1,hs⟩:=B.step c R;rw[s]at b1;cases b1;have b4:wM (F c) (B0 c).heap.get j.get:=AML (λav id b7=>by
    rw[M.heap,AJ3 B T M.closed M.lt s R Y ar av b7]) λ_ be id cn b0=>by
    rw[M.heap,AFW B T M.closed M.lt s R Y ar be b3 b0,b0]
   have⟨v,h2',e1,e2,e3,e4⟩:=Va (ro:=ro) bo bs cd s (B.lw c a1) hs hops hgd b4 bv;have bi:PD A q w nt (Lv a B0 D m) (B0 c).defs j r:=by rw[B.defs c a1];exact M.s
   refine e4 A q w r M.ws.hr (M.fresh c a2 Y) bi _ _ λbl b2 ⟨bk,g1,s1⟩=>?_;rw[AJH B T M.closed M.lt s R Y e1,B.defs (c+1) R]at s1;have cl:=Uv Y a2;refine bh (Rv D c) _ bk b2 bl h2' ⟨sE M.closed s ar,λl H=>?_,by simp[M.size],λl H=>?_,λid=>?_,s1,M.ws.trans (g1.up (FD _ _)),λl H ag=>?_,?_⟩ z
   .by_cases e:l=c
    .omega
    .rw[Ku D e]at H;exact M.lt l H
   .by_cases e:l=c
    .grind [LN]
    .rw[Ku D e,Ii (Ne.symm e)];exact M.list l H
   .rw[e3,<-AFV B T M.closed M.lt R Y id];rcases iY (F c).wr id with ai|hw
    .rw[HD ai,HD ai,M.heap]
    .rw[hw,hw]
   .by_cases e:l=c
    .grind [LN]
    .rw[Ku D e]at ag;exact(M.fresh l H ag).other z g1.out
   .exact λn ai=>(M.freshFrom n ai).other z g1.out
  ·
   have b8:c=m:=z;subst b8;rcases a' with⟨_,b',_⟩|⟨v,x,rfl,b',a6,av,cc⟩
   .omega
   .rw[s]at av;cases av;have aa:∀N,N<c->D N=true:=λN ad=>by have b9:N<a.size:=z;exact Np T M.closed s ar (T.alone N c _ o ad (D9 b9) s (.inr a6))
    have ac:Lv a B0 D c=(B0 c).env.get:=by funext t;exact W5 B.env (D2 _) λN ad _=>aa N ad
    have a0:∀id,(B0 c).heap.get id=j.get id:=λid=>by rw[M.heap];exact(P2 (B.nl id) (D2 _) λN ad h=>by rw[aa N ad]at h;cases h).symm
    have⟨h2',e1,e2,e3,e4,e5⟩:=Zf (ro:=ro) bo bs s (B.lw c a1) cc hops hgd a0 bv;have bi:PD A q w nt (Lv a B0 D c) (B0 c).defs j r:=by rw[B.defs c a1];exact M.s
    refine e5 A q w r M.ws.hr (M.fresh c a2 Y) bi _ _ λbl b2 p ⟨bk,g1,s1,hv⟩=>?_;have g:=M.ws.trans (g1.up (FD _ _));refine⟨v,p,bk,rfl,rfl,⟨⟨g.out,g.hr.congr e4,by rw[<-MS.congr e4];exact g.ol,λL i h2=>?_⟩,?_,?_⟩,?_⟩
    .have⟨k1,k2,k3⟩:=g.kept L i h2;grind
    .rw[e1,e3,<-ac];exact s1.congr e4
    .exact λn ai=>(M.freshFrom n ai).other z g1.out
    .rw[<-MS.congr e4];exact hv
variable{g:St}
theorem AJD(e:PR P Q C)(j:EI P W K)(v:fr.rnd=Z->ro=I)(ag:P.follows .mixedOrders=X)(O:Wo a k alone)(l:∀o∈a,∀d,o.dst=J d->d<nt.n){id:Nat}{f:St}{out:Option y}(D:LW W g.heap)(M:EF C K fr a b alone a.toList 0 g=.ok ((out,f),N)) (ai:FG fr.π b N k=X):
 f.base=g.base/\LW W f.heap/\∀(A:Nat->Prop) (q:BF) (w:G2) (r:M3),HR A q w g.heap->PD A q w nt g.env.get g.defs g.heap r->DJ q fr.π b->
  (Code.region id a X).wpIn (FF ro) 0 P (jD A fr.ci fr.π nt q w g.heap out f (b+a.size)) r w:=by
 have⟨hb0,hL0,_⟩:=uu (ro:=ro) e j v l a.toList 0 g f N out (F9 _) rfl D M;refine⟨hb0,hL0,λA q w r H s p=>?_⟩;obtain⟨B0,F,m,i,h2,rfl,ac,ad⟩:=ZW a.toList 0 g f N out (F9 _) rfl M;have V:=ANV (ro:=ro) e j v O l ai h2 D λB c=>ac B (F9 _) c;refine wpIn_region_any ag ?_;have R:({w with drawn:=w.drawn+1}:G2).heap=w.heap:=rfl
 have T:=H.heap R ⟨rfl,rfl⟩;have L:FI A (MS A q (B0 0).heap) w (MS A q (B0 0).heap) {w with drawn:=w.drawn+1}:=VS R ⟨rfl,rfl⟩ _
 have Y:Lv a B0 (λ_=>Z) m=(B0 0).env.get:=by
  funext t;have:∀n,Lv a B0 (λ_=>Z) n t=(B0 0).env.get t:=by intro n;induction n with|zero=>rfl|succ n x=>simp[Lv,x]
  exact this m
 have aa:∀id,(B0 0).heap.get id=JM B0 F (λ_=>Z) m id:=by
  intro id;have:∀n,JM B0 F (λ_=>Z) n id=(B0 0).heap.get id:=by intro n;induction n with|zero=>rfl|succ n x=>simp[JM,x]
  exact(this m).symm
 refine AMR e j v O l V (λav id ar _=>?_) ad a.size (λ_=>Z) _ q _ r (B0 0).heap ⟨λ_ _ _ h=>zCN,λ_ h=>zCN,AG,λB c=>?_,aa,?_,?_,λa0 _ _=>p _ z,p.mono z⟩ ?_
 .rcases hg:(B0 0).heap.get id with _|az
  .rfl
  .have⟨B,c,_⟩:=H.obj id az hg;rw[p (b+av) z id ar]at c;cases c
 .grind
 .rw[Y];exact s.mono (.refl q) L
 .exact⟨λ_ _=>rfl,T,L,λ_ _ _=>⟨λ_ _ _=>rfl,λ_ h=>.inl h,λ_ _=>rfl⟩⟩
 grind [List.countP_le_length]
variable{A:Nat->Prop}{P:H5}{j:List Hk}{k m r:BF}{w D F:G2}{M:Nat->Prop}{h K L:S}{f N:u}{ci:Option u}{q:NT}{env:Nat->y}{Q R:List Df}{a:M3}{ro:Option Nat}{W:Lp->Prop}
theorem HO:∀{c:List u} {n:Nat} {x b:u},FE f c n x=J b->∃a t,c[a]?=J x/\b=t::(n+a)::f
 |[],n,x,b,h=>by simp[FE]at h|l::c,n,x,b,h=>by
  simp only[FE]at h;split at h
  .rename_i e;rw[Id.q_w]at e;subst e;simp only[F1]at h;exact⟨0,_,rfl,h.symm⟩
  .have⟨a,t,i,h2⟩:=HO h;exact⟨a+1,t,by simpa using i,by rw[h2];congr 2;omega⟩
theorem WK{a:List u}{x l b:u}(i:FE f a 0 x=J b)(h2:FE f a 0 l=J b):x=l:=by grind [HO]
theorem Jb(b:u->Option u)(a:List y):Du b a=a.map (ren b):=by induction a with|nil=>rfl|cons v a c=>simp[Du,c]
variable{j:BF}{m:Nat->Prop}{f:u->Option u}
theorem ZP(A:∀x e,f x=J e->j e=k x)(C:∀b,m b->M b){x:y}{v:G4}(h:VR k w M x v):VR j w m (ren f x) v:=by
 have cells:∀{r:List y} {c:Array G4},(∀(g:Nat) (x:y) (v:G4),r[g]?=J x->c[g]?=J v->VR j w m (ren f x) v)->
  ∀(g:Nat) (x:y) (v:G4),(Du f r)[g]?=J x->c[g]?=J v->VR j w m x v:=by
  intro r c s g x v F V;rw[Jb,Be,BY]at F;obtain⟨l,W,rfl⟩:=F;exact s g l v W V
 induction h with
 |d h=>simp only[ren];exact .d (h.mono (A:=λ_=>False) (Hn C w))|d9=>exact .d9|emp a=>exact .emp a
 |ii B H len q a cap n T D O=>
  simp only[ren];split
  .rename_i e o;exact .ii e H len q a cap zCi T D O
  .exact .undef _
 |ptr B H q n=>
  simp only[ren];split
  .rename_i e o;exact .ptr e H q zCi
  .exact .undef _
 |rt B g H q n=>
  simp only[ren];split
  .rename_i e o;exact .rt e g H q zCi
  .exact .undef _
 |iptr r b H c elem fr P R D Q=>simp only[ren];exact .iptr r b H c elem fr P (λh=>R (C _ h)) D λg x v i h2=>(Q g x v i h2).mono (A:=λ_=>False) (Hn C w)|fn N a b K L i h2 _ _ Y aa=>simp only[ren];exact .fn N _ _ K L zDP zDP (cells Y) (cells aa)
 |yld B q n=>
  simp only[ren];split
  .rename_i e o;exact .yld e q zCi
  .exact .undef _
 |mp B q n=>
  simp only[ren];split
  .rename_i e o;exact .mp e q zCi
  .exact .undef _
 |iface t v p _ s=>simp only[ren];exact .iface t _ p s|agg r c i _ s=>simp only[ren];exact .agg _ c zDP (cells s)|kw r c i _ s=>simp only[ren];exact .kw _ c zDP (cells s)|undef v=>exact .undef v
theorem xM(f:u->Option u)(e:CW)(t:Nat):CW.get (e.map λa=>(a.1,ren f a.2)) t=ren f (e.get t):=by induction e with|nil=>rfl|cons a e b=>grind [CW.q_f]
theorem AKk(L:∀x P,f x=J P->j P=k x)(A:∀b,m b->M b){N:Wx}{o:Obj}(h:PK k w M N o):PK j w m N (Eb f o):=by
 have H:∀{x:Ar} {v:G4},DR w M x v->DR w m x v:=λh=>h.mono (A:=λ_=>False) (Hn A w);cases o with
 |box av=>obtain⟨c,elem,i,h2⟩:=h;refine⟨c,elem,i,by rw[Jb,BV];exact h2.1,λp x v D K=>?_⟩;rw[Jb,Be,BY]at D;obtain⟨l,ar,rfl⟩:=D;exact ZP L A (h2.2 p l v ar K)|f8 O B=>obtain⟨c,elem,i,h2,g,n,q,r,s⟩:=h;exact⟨c,elem,i,h2,g,n,q,r,λp x v a b=>H (s p x v a b)⟩
 |v6 O B=>
  rcases h with h|⟨ac,c,elem,fr,i,h2,g,n,q,r,s⟩
  .exact .inl h
  .exact .inr ⟨λh=>ac (A _ h),c,elem,fr,i,h2,g,n,q,r,λp x v a b=>H (s p x v a b)⟩
 |arr O B=>
  obtain⟨c,elem,i,h2,g,n,q,r,s⟩:=h;have az:(B.map (Du f)).flatten=B.flatten.map (ren f):=by rw[Rg];congr 1;exact NL λx _=>Jb f x
  refine⟨c,elem,i,h2,g,n,λe aa=>?_,by grind,λp x v D K=>?_⟩
  .grind [Jb]
  grind [ZP]
 |map B=>
  obtain⟨R,Q,i,Y,F,ag,ai,h2,g⟩:=h;have W:Ks B->Ks (B.map λC=>(C.1,ren f C.2)):=λ⟨a0,k2⟩=>⟨λC ad=>by grind,by rw[Ol];exact k2⟩
  refine⟨R,Q,i,Y,F,ag,ai.imp (λh=>h) W,by grind,λp C e ad aa=>?_⟩;grind [ZP]
 |loop a1=>obtain⟨F,i,h2,g,n,q,r,s,V,T⟩:=h;refine⟨F,i,h2,g,n,q,r,s,V,λt=>?_⟩;rw[xM];exact ZP L A (T t)
def gY(f:u->Option u)(o:Obj):(Eb f o).mut=o.mut:=by cases o<;>rfl
theorem GV{f:u->Option u}:∀{g:List u} {c:u} {b:Obj},(FA h f g).get c=J b->∃x o,h.get x=J o/\f x=J c/\b=Eb f o
 |[],c,b,a=>by simp[FA]at a|x::g,c,b,a=>by
  simp only[FA]at a;split at a
  .rename_i o j i h2;rw[S.q_f]at a;split at a
   .rename_i e;subst e;cases a;exact⟨x,o,i,h2,rfl⟩
   .exact GV a
  .exact GV a
def Yq(e:CW):∀(l:u) (t:Nat),CW.get (l.map λt=>(t,e.get t)) t=e.get t\/CW.get (l.map λt=>(t,e.get t)) t=.undef
 |[],t=>.inr rfl|k::l,t=>by
  simp only[By,CW.q_f];split
  .rename_i h;subst h;exact .inl rfl
  .exact Yq e l t
theorem AEB{b:Nat}(H:HR A k w g.heap)(s:PD A k w q g.env.get g.defs g.heap a)(a1:DJ k fr.π g.base)(Q:fr.raw=Z->∀r,k r≠I->fr.π<:+r):
 ∃j,CX A ci fr.π k w g.heap j w (Fs C fr b g).heap/\PD A j w q (Fs C fr b g).env.get (Fs C fr b g).defs (Fs C fr b g).heap a/\DJ j fr.π (Fs C fr b g).base:=by
 unfold Fs;simp only;split
 .refine⟨k,CX.refl H,⟨s.sz,λt=>?_,s.defs⟩,a1⟩;simp only;exact zB2
 .rename_i V;simp only[RC,not_or,Bool.not_eq_true,Bool.not_eq_eq_eq_not,Bool.not_not]at V;obtain⟨a4,a0⟩:=V;have Q:=Q a4;have az:g.defs=[]:=by simpa using a0
  generalize bi:DK g.heap 1000 (Gq [] (((C.live fr.f b).map λt=>(t,g.env.get t)).flatMap λbh=>AD bh.2)) 0=K
  classical
  let f:=FE fr.π K 0
  let j:BF:=λc=>if v:∃x,f x=J c then k v.choose else I
  have F:∀x c,f x=J c->j c=k x:=by intro x c p;have v:∃x,f x=J c:=⟨x,p⟩;simp only[j,dif_pos v];rw[WK v.choose_spec p]
  have T:∀c h,j c=J h->∃x,f x=J c/\k x=J h:=by
   intro c h m;by_cases v:∃x,f x=J c
   .grind
   .grind
  have a3:∀x c,f x=J c->∃M t,M<U K/\c=t::M::fr.π:=by intro x c p;have⟨M,t,i,h2⟩:=HO p;exact⟨M,t,(BI.1 i).1,by rw[h2,I7]⟩
  have bl:∀x c,f x=J c->fr.π<:+c:=by intro x c p;obtain⟨M,t,_,rfl⟩:=a3 x c p;exact(FD _ _).trans (FD _ _)
  have N:∀b,MS A j (FA g.heap f K) b->MS A k g.heap b:=by
   rintro b (O|⟨c,o,h,i,h2,R,rfl⟩)
   .exact .inl O
   .obtain⟨x,L,B,D,rfl⟩:=GV i;rw[gY]at h2;rw[F x c D]at R;exact .inr ⟨x,L,h,B,h2,R,rfl⟩
  have ai:HR A j w (FA g.heap f K):=by
   refine⟨λc o P=>?_,λl c bn bo a' bc a5 v ac ad W Y e=>?_,λc h m=>?_,λc o h P aa m=>?_,H.abnd⟩
   .obtain⟨x,L,B,D,rfl⟩:=GV P;have⟨h,m,hr⟩:=H.obj x L B;exact⟨h,by rw[F x c D];exact m,AKk F N hr⟩
   .obtain⟨x,L,B,D,rfl⟩:=GV a5;obtain⟨ag,be,ar,av,rfl⟩:=GV v;rw[gY]at ac ad;rw[F x l D]at W;rw[F ag c av]at Y;have:=H.inj x ag L be a' bc B ar ac ad W Y e;grind
   .have⟨x,_,p⟩:=T c h m;exact H.bnd x h p
   .obtain⟨x,L,B,D,rfl⟩:=GV P;rw[gY]at aa;rw[F x c D]at m;exact H.out x L h B aa m
  refine⟨j,⟨λr a2=>?_,ai,⟨λ_ _ _=>rfl,D2 _,λb O=>.inl (N b O),rfl,rfl⟩,λbs a6 _=>⟨λ_ _ _=>rfl,?_,λr a2=>?_⟩⟩,⟨s.sz,λt=>?_,?_⟩,λn bk c v=>?_⟩
  .grind
  .rintro b ⟨c,h,i,h2,rfl⟩;have⟨x,p,m⟩:=T c h h2;exact .inl ⟨x,h,a6.trans (Q x (by rw[m];simp)),m,rfl⟩
  .have i:(FA g.heap f K).get r=none:=by
    rcases hg:(FA g.heap f K).get r with _|o
    .rfl
    .grind [GV]
   have h2:g.heap.get r=none:=by
    rcases hg:g.heap.get r with _|o
    .rfl
    .have⟨h,m,_⟩:=H.obj r o hg;grind
   rw[h2];exact i
  .simp only;rw[xM];refine ZP F N ?_;exact zB2
  .have:=s.defs;rw[az]at this;rcases hd:a.defers with _|⟨d,K⟩
   .trivial
   .rw[hd]at this;exact this.elim
  grind [My]
