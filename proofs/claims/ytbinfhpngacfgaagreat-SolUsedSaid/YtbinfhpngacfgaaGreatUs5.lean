/- P -/
import Derived.OrdersIn
import Derived.RangeFuncLeaves
import Derived.Test.YtbinfhpngacfgaaGreatUs4
set_option linter.all false
open Go renaming World->G5,Value->Hk,Oper->H0,TypeId->H5,Program->JH,FuncId->KH,Tmp->M5,Act->OA,Exit->OW
open List renaming range->WO,length->U
open Option renaming some->J,none->I
open Bool renaming true->X,false->Z
namespace Go
variable{p:Prop}
def zCQ(h:p:=by grind [Op.operands,Call.operands]):p:=h
def zCT(h:p:=by cases h):p:=h
def zCp(h:p:=by rw[A _ _ o];exact n):p:=h
def zDG(h:p:=by simp[f]):p:=h
def zDH(h:p:=by simpa using l):p:=h
def zDR(h:p:=by grind [JQ]):p:=h
end Go
namespace Go
variable{p:Prop}
def zBM(h:p:=by
 split at h
 .exact .mapE (λ_=>.one rfl) h
 .cases h):p:=h
def zBY(h:p:=by
 split at a
 .split at a<;>cases a;rfl
 .cases a):p:=h
def zBv(h:p:=by
 unfold EA at b;split at b
 .simp only[Mo,Cn]at b;split at b
  .simp at b
  .cases b
 .cases b):p:=h
def zB4(h:p:=by
 rcases YX g.env (C.live fr.f b) t with e|e
 .rw[e];exact s.env t
 .rw[e];exact .undef _):p:=h
end Go
namespace Go.Abs
variable{A:Nat->Prop}{P:JH}{l:List H5}{β e a:BB}{w g b:G5}{M:Nat->Prop}{h f c:S}{i ρ:u}{ci:Option u}
def FX(β:BB)(i:u):Prop:=∀a,i<:+a->β a=I
def m6(ρ:u)(β:BB)(c:Nat):Prop:=∃a b,ρ<:+a/\β a=J b/\b.b=c
def dZ(ci:Option u)(ρ:u)(β:BB):Prop:=ci=J ρ\/∀a,β a≠I->ρ<:+a
def ky(ci:Option u)(i:u)(β:BB)(w:G5)(h:S)(e:BB)(g:G5)(f:S):Prop:=∀ρ,ρ<:+i->dZ ci ρ β->(∀a,a<w.heap.size->¬m6 ρ β a->g.heap[a]?=w.heap[a]?)/\(∀a,m6 ρ e a->m6 ρ β a\/w.heap.size<=a)/\∀b,¬ρ<:+b->f.get b=h.get b
structure CP(A:Nat->Prop)(ci:Option u)(π:u)(β:BB)(w:G5)(h:S)(β':BB)(w':G5)(h':S):Prop:=
 out:∀id,¬π<:+id->β' id=β id
 hr:HR A β' w' h'
 ol:E5 A (MS A β h) w (MS A β' h') w'
 kept:ky ci π β w h β' w' h'
theorem CP.refl(H:HR A β w h):CP A ci i β w h β w h:=⟨λ_ _=>rfl,H,.refl _ _,λ_ _ _=>⟨λ_ _ _=>rfl,λ_ a=>.inl a,λ_ _=>rfl⟩⟩
theorem lV(g:ρ<:+i)(f:∀a,¬i<:+a->e a=β a)(b:dZ ci ρ β):dZ ci ρ e:=by refine b.imp (λh=>h) λh a c=>?_;grind
theorem CP.trans(g1:CP A ci i β w h e g f)(g2:CP A ci i e g f a b c):CP A ci i β w h a b c where
 out id hi:=by rw[g2.out id hi,g1.out id hi]
 hr:=g2.hr
 ol:=g1.ol.trans g2.ol
 kept ρ hρ hg:=by have⟨a1,a2,a3⟩:=g1.kept ρ hρ hg;have⟨b1,b2,b3⟩:=g2.kept ρ hρ (lV hρ g1.out hg);grind
def CP.le(c:CP A ci i β w h e g f)(j:FX β i):Le β e:=λb l a=>by rw[c.out b λk=>by rw[j b k]at a;cases a];exact a
def CP.up{c:u}(b:i<:+c)(a:CP A ci c β w h e g f):CP A ci i β w h e g f:=⟨λn k=>a.out n λl=>k (b.trans l),a.hr,a.ol,λρ m j=>a.kept ρ (m.trans b) j⟩
variable{j:S}
theorem MS.congr{h:S}(b:∀a,h.get a=j.get a):MS A β h=MS A β j:=by grind [MS]
theorem HR.congr{h:S}(b:∀a,h.get a=j.get a)(H:HR A β w h):HR A β w j:=by have i:=MS.congr (A:=A) (β:=β) b;refine⟨λa e c=>?_,λf g p q n o k l=>H.inj f g p q n o (by rw[b];exact k) (by rw[b];exact l),H.bnd,λa e m c=>H.out a e m (by rw[b];exact c),H.abnd⟩;rw[<-i];exact H.obj a e (by rw[b];exact c)
theorem CP.congr{h:S}(m:∀l,h.get l=j.get l)(k:CP A ci i β w h e g f):CP A ci i β w j e g f:=by refine⟨k.out,k.hr,by rw[<-MS.congr m];exact k.ol,λρ o n=>?_⟩;have⟨a,b,c⟩:=k.kept ρ o n;grind
structure NT:=
 n:Nat
 lb:Nat
inductive eR(lb:Nat)(β:BB)(w:G5)(M:Nat->Prop):Df->Deferred->Prop
 |mark (id r):w.heap[r]?=J (.deferred (J []))->¬M r->lb<=r->eR lb β w M (.mark id) {target:=.collected r,args:= #[]}
 |call (f args vs):HQ β w M args vs->eR lb β w M (.call f args) {target:=.fn (.func f) #[],args:=vs}
def ML(a:Nat)(β:BB)(w:G5)(M:Nat->Prop):List Df->List Deferred->Prop
 |[],[]=>True|d::l,e::m=>eR a β w M d e/\ML a β w M l m/\∀c∈m,∀b,e.target=.collected b->c.target≠ .collected b|_,_=>False
variable{a:Nat}{k:Nat->Prop}
theorem eR.mono(n:Le β e)(c:E5 A M w k g){d:Df}{f:Deferred}(h:eR a β w M d f):eR a e g k d f:=by cases h with|mark o i b j m=>exact .mark o i (by rw[c.pm i (BT b) (.inl j)];exact b) (c.sub' (BT b) j) m|call l args p b=>exact .call l args p (b.mono n c)
theorem ML.mono(c:Le β e)(b:E5 A M w k g):∀{f:List Df} {i:List Deferred},ML a β w M f i->ML a e g k f i
 |[],[],_=>trivial|_::_,_::_,h=>⟨h.1.mono c b,ML.mono c b h.2.1,h.2.2⟩|[],_::_,h=>h.elim|_::_,[],h=>h.elim
theorem ML.marks:∀{i:List Df} {f:List Deferred},ML a β w M i f->∀c∈f,∀e,c.target=.collected e->e<w.heap.size
 |[],[],_,c,b,_,_=>by cases b|d::i,e'::f,h,c,b,e,g=>by
  rcases Cs.1 b with rfl|b
  .obtain⟨k,_,_⟩:=h;cases k with|mark m n j _ _=>grind|call l args o _=>cases g
  .exact ML.marks h.2.1 c b e g
 |[],_::_,h,_,_,_,_=>h.elim|_::_,[],h,_,_,_,_=>h.elim
structure O0(A:Nat->Prop)(β:BB)(w:G5)(nt:NT)(env:Nat->y)(defs:List Df)(h:S)(a:OA):Prop:=
 sz:a.tmps.size=nt.n
 env:MI β w (MS A β h) env λt=>a.tmps.getD t Go.undef
 defs:ML nt.lb β w (MS A β h) defs a.defers
variable{a:NT}{env:Nat->y}{c:List Df}{b:OA}
theorem O0.congr{h:S}(f:∀g,h.get g=j.get g)(e:O0 A β w a env c h b):O0 A β w a env c j b:=⟨e.sz,by rw[<-MS.congr f];exact e.env,by rw[<-MS.congr f];exact e.defs⟩
theorem O0.mono(i:O0 A β w a env c h b)(k:Le β e)(j:E5 A (MS A β h) w (MS A e f) g):O0 A e g a env c f b:=⟨i.sz,i.env.mono k j,i.defs.mono k j⟩
def U9(b:Nat->y)(c:Option M5)(e:y)(a:Nat):y:=match c with|some d=>if d=a then e else b a|none=>b a
def oW(b:CN)(a:Option M5)(c:y):(Dj b a c).get=U9 b.get a c:=by
 funext e;rcases a with _|d
 .rfl
 .simp[Dj,U9,CN.get_cons]
theorem FO(b:OA)(a:Option M5)(c:Hk):(b.put a c).tmps.size=b.tmps.size:=by cases a<;>simp[Act.put]
def oY(b:OA)(a:Option M5)(c:Hk):(b.put a c).defers=b.defers:=by cases a<;>rfl
theorem O0.put{a:NT}{env:Nat->y}{c:List Df}{b:OA}(e:O0 A β w a env c h b){f:Option M5}(l:∀d,f=J d->d<a.n){k:y}{j:Hk}(n:VR β w (MS A β h) k j):
 O0 A β w a (U9 env f k) c h (b.put f j):=by
 refine⟨by rw[FO];exact e.sz,λi=>?_,by rw[oY];exact e.defs⟩;rcases f with _|d
 .exact e.env i
 .have m:d<b.tmps.size:=by rw[e.sz];exact l d rfl
  simp only[U9,Act.put];by_cases g:d=i
  .subst g;simp[m];exact n
  .have:=e.env i;simp only[Co g];rw[Ge,Io g,<-Ge];exact this
abbrev FF(ro:Option Nat):Fence:={Fence.wide with round:=ro}
def uB(β:BB)(w:G5)(M:Nat->Prop):BC->Ending->Prop
 |.ret v,.returned Bn=>VR β w M v Bn|.of v,.panicked chain=>∃Bn,chain=[{v:=Bn,recovered:=Z}]/\VR β w M v Bn|_,_=>False
def SU(A:Nat->Prop)(ci:Option u)(i:u)(β:BB)(w:G5)(h:S)(a:BC×S)(b:Ending)(g:G5):Prop:=∃e,CP A ci i β w h e g a.2/\uB e g (MS A e a.2) a.1 b
def Jq(a:Loop)(e:Array Hk):Array Value:=(a.params.zip e).foldl (λc (b:Nat×Hk)=>c.setIfInBounds b.1 b.2) a.tmps
def UG(P:JH)(A:Nat->Prop)(k:gX)(args:List y)(h:S)(i:u)(ci:Option u)(g:BC×S)(β:BB):Prop:=
 ∀(w:G5) (c:Array Hk),HR A β w h->FX β i->HQ β w (MS A β h) args c->
  match k with
  |.fn j=>Calls P j c w (SU A ci i β w h g)
  |.round e f=>U f.params=U args/\∀(b:WK) (a:Loop),h.get e=J (.loop f)->β e=J b->w.heap[b.b]?=J (.loop a)->
   RoundIn Fence.wide 0 P b.b a.fn (Jq a c) a.assign a.body w (SU A ci i β w h g)
def Nn(P:JH)(f:KH):Prop:=∃fn c,P.funcs[f]?=J fn/\fn.body=J c/\(fn.name== "runtime.NumGoroutine")=Z
def LW(W:Lp->Prop)(h:S):Prop:=∀b a,h.get b=J (.loop a)->W a
structure vf(P:JH)(W:Lp->Prop)(t:gX)(args:List y)(h:S)(π:u)(raw:Bool)(ci:Option u)(r:BC×S):Prop:=
 ent:∀f,t=.fn f->Nn P f
 rw:raw=X->(∀id lp,t=.round id lp->W lp)->LW W h->∀A β,UG P A t args h π ci r β
 pu:raw=Z->h=[]->ci=I->∀A,UG P A t args [] π I r λ_=>I
 ids:raw=Z->h=[]->ci=I->π=[]->∀v,r.1=.ret v->AE v=[]/\r.2=[]
 lw:(∀id lp,t=.round id lp->W lp)->LW W h->LW W r.2
def Dz(P:JH)(W:Lp->Prop)(K:Af):Prop:=∀(t:gX) (args:List y) (h:S) (i:u) (raw:Bool) (ci:Option u) (r:BC×S),K t args h i raw ci=.ok r->vf P W t args h i raw ci r
variable{δ:S}
theorem qD{ρ:u}(h:Jv (J ρ) δ=X):∀a∈δ,ρ<:+a.1:=λa b=>(Id.under_iff _ _).1 (EM.1 h a b)
theorem H7(B:Le β e)(H:∀a,e a≠I->β a≠I\/ρ<:+a)(o:HR A e g (h.puts δ))(k:E5 A (MS A β h) w (MS A e (h.puts δ)) g)(q:hK β w e g δ)(K:Jv ci δ=X):CP A ci ρ β w h e g (h.puts δ):=by
 have C:∀a,¬ρ<:+a->e a=β a:=by
  intro a r;rcases n:β a with _|c
  .grind
  .exact B a c n
 refine⟨C,o,k,λF L i=>?_⟩;have s:∀b∈δ,∀c,β b.1=J c->F<:+b.1:=by
  intro b k c m;rcases i with i|i
  .grind [qD]
  .grind
 refine⟨λp n D=>q.1 p n λb k c m v=>D ⟨b.1,c,s b k c m,m,v⟩,?_,λa r=>?_⟩
 .rintro p ⟨a,c,l,j,rfl⟩;rcases q.2 a c j with f|f|⟨b,k,t,f,x⟩
  .exact .inl ⟨a,c,l,f,rfl⟩
  .exact .inr f
  .exact .inl ⟨b.1,t,s b k t f,f,x⟩
 .rcases JO δ h a with⟨l,_⟩|⟨b,l,rfl,f⟩
  .exact l
  .refine absurd ?_ r;rcases i with i|i
   .grind [qD]
   .have⟨c,m,_⟩:=o.obj b.1 b.2 f;grind
def lA(A:Nat->Prop)(ci:Option u)(i:u)(a:NT)(β:BB)(w:G5)(h:S)(env:Nat->y)(c:List Df)(f:S)(b:OA)(g:G5):Prop:=∃e,CP A ci i β w h e g f/\O0 A e g a env c f b
theorem AGd{ro:Option Nat}{f:H0}{i:C3}(H:HR A β w h)(s:FX β ρ)(m:O0 A β w a env c h b)(q:∀d,f.dst=J d->d<a.n) (r:∀o,f.op≠ .defer o) (x:evalOp (Cd P l) env h.get ρ f.op=J i) (B:Jv ci i.δ=X) {next:OA->G5->Prop} {Q:OW->OA->G5->Prop}(t:∀j g,lA A ci ρ a β w h (U9 env f.dst i.v) c (h.puts i.δ) j g->next j g):f.wpIn (FF ro) 0 P b w next Q:=by
 have⟨n,v,g,e,hr,hnv,hle,hnew,H',hp,hv,hc⟩:=zW (P:=P) (mix:=l) H s m.env rfl x;have p:=H7 (ci:=ci) hle hnew H' hp hc B;have k:next (b.put f.dst v) g:=t _ _ ⟨e,p,(m.mono hle hp).put q hv⟩
 refine⟨λ_ _=>trivial,?_⟩;rw[Oper.semAt_eq _ _ _ r,hr];rcases hnv with rfl|⟨rfl,rfl⟩
 .exact k
 .exact k
variable{A:Nat->Prop}{P:JH}{c:List H5}{a:BB}{w:G5}{M:Nat->Prop}
def HY{A M:Nat->Prop}(h:∀a,k a->M a)(w:G5):E5 A M w k w:=⟨λ_ _ _=>rfl,D4 _,λa b=>.inl (h a b),rfl,rfl⟩
theorem TB{a:List y}(h:Ab a=[]):∀b∈a,AE b=[]:=by induction a with|nil=>simp|cons e a c=>grind [Ab,List.append_eq_nil_iff]
variable{x:y}{v:Hk}
def VR.noIds{e:BB}(A:∀m,k m->M m)(h:VR a w M x v)(c:AE x=[]):VR e w k x v:=by induction h with|d h=>exact .d (h.mono (A:=λ_=>False) (HY A w))|d8=>exact .d8|emp b=>exact .emp b|ii r t len s b cap q V B T=>simp[AE]at c|ptr r t s q=>simp[AE]at c|rg r g t s q=>simp[AE]at c|iptr o m t n elem H K N B L=>exact .iptr o m t n elem H K (λh=>N (A _ h)) B λg x v i j=>(L g x v i j).mono (A:=λ_=>False) (HY A w)|fn F b m C D i j _ _ O P=>simp only[AE,PM]at c;exact .fn F b m C D i j (λg x v f l=>O g x v f l (TB c.1 x (AP f))) (λg x v f l=>P g x v f l (TB c.2 x (AP f)))|yld r s q=>simp[AE]at c|mp r s q=>simp[AE]at c|iface Q v R _ p=>simp only[AE]at c;exact .iface Q v R (p c)|agg o n i _ p=>simp only[AE]at c;exact .agg o n i λg x v f l=>p g x v f l (TB c x (AP f))|kw o n i _ p=>simp only[AE]at c;exact .kw o n i λg x v f l=>p g x v f l (TB c x (AP f))|undef v=>exact .undef v
def Mm(h δ:S)(c:u×Obj):Prop:=
 (∃b a,c.2=.rt b a/\h.get c.1=J (.f9 b a))\/
 ∃b a e,c.2=.rt b e/\h.get c.1=J (.arr b a)/\EC h.get a=J e/\∀f∈a.flatMap (Ca h.get),f∈δ
def Mm.rt{h:S}{p:u×Obj}(m:Mm h δ p):p.2.mut=false:=by rcases m with⟨_,_,h,_⟩|⟨_,_,_,h,_⟩<;>rw[h]<;>rfl
theorem Sg{h δ:S}(t:∀c∈δ,c.2.mut=Z){g:List y}(q:∀c∈Ca h.get g,c∈δ){p:List Au}(r:ER h.get g=J p):
 ∀v∈g,∀b∈HO v,Hl (h.puts δ) b:=by
 intro v n b f A m;cases v with
 |ii w B x=>
  simp only[HO,AS]at f;subst f;have⟨i,hi,hvi⟩:=Rc.1 n;have⟨q1,q2⟩:=Fx r;have a:=q2 i _ (p[i]'(z)) (CE hi) (CE z);rw[hvi]at a;rcases JO δ h b with⟨l,j⟩|⟨c,l,j,s⟩
  .simp only[Fq]at a;split at a
   .rename_i o k e;exact absurd rfl (j (b,.rt o k) (q _ (BI.2 ⟨_,n,by simp[JF,e]⟩)))
   .rename_i o k e;rw[l,e]at m;cases m;rfl
   .cases a
  grind
 |_=>simp[HO]at f
theorem Jn{h δ:S}(l:∀a∈δ,Mm h δ a):eA h (h.puts δ):=by
 refine⟨λr=>?_⟩;rcases JO δ h r with⟨b,_⟩|⟨a,b,j,o⟩
 .exact .inl b
 .subst j;rcases l a b with⟨m,f,g,i⟩|⟨m,f,n,g,i,k,p⟩
  .grind
  .refine .inr (.inr ⟨m,f,n,i,by rw[o,g],k,?_⟩);exact Sg (λa q=>(l a q).rt) (λs c=>by have⟨v,hv,c⟩:=BI.1 c;have⟨e,he,hv⟩:=MT.1 hv;exact p s (BI.2 ⟨e,he,BI.2 ⟨v,hv,c⟩⟩)) (Fy k)
theorem Yd{h δ:S}{v:y}(i:∀b∈Cj h.get v,b∈δ):∀b∈Cj h.get v,Mm h δ b:=by
 intro b a;cases v with
 |ii n p o=>
  simp only[Cj]at a i;split at a
  .rename_i g c f;simp at a;subst a;exact .inl ⟨g,c,rfl,f⟩
  .rename_i g c f;split at a
   .rename_i j k;rcases Cs.1 a with rfl|a
    .refine .inr ⟨g,c,j,rfl,f,k,λl m=>i l ?_⟩;grind
    .have⟨e,_,a⟩:=BI.1 a;exact .inl (Lv a)
   .cases a
  .cases a
 |_=>simp[Cj]at a
def Qq{h:S}{as:List y}:∀b∈as.flatMap (mark h.get),Mm h (as.flatMap (mark h.get)) b:=by intro b a;have⟨v,hv,a⟩:=BI.1 a;have⟨c,hc,a⟩:=BI.1 a;exact Yd (λf e=>BI.2 ⟨v,hv,BI.2 ⟨c,hc,e⟩⟩) b a
def hC(h f:S)(v:y):Prop:=∀b∈HO v,Hl f b/\∀e a,h.get b=J (.arr e a)->∀g∈a.flatten,∀c∈HO g,Hl f c
theorem wc{h f:S}(H:HR A a w h)(k:dk h f){v:y}{C:Hk}{x:Au}(o:VR a w (MS A a h) v C)(e:Ds h.get v=J x)(i:hC h f v):DR w (MS A a f) x C:=by
 unfold Ds at e;split at e
 .rename_i g P O;have L:=(i g (by simp[HO])).1;split at e
  .rename_i V q l;split at e
   .rename_i Q r;cases o with
    |ii _ _ _ B b cap s R M F=>
     have K:b=J ⟨B.b,P*B.sz,I⟩\/O=0:=F.imp (λh=>h) (λh=>z);have⟨k',t,c,elem,h1,j,h3,h4,h5,h6,h7⟩:=H.obj g _ l;rw[s]at t;cases t;simp only[Be]at e;obtain⟨T,N,rfl⟩:=e;subst j;have⟨q1,q2⟩:=Fx (Fy r);refine VE h1 (L.notMS H k s l (.inl rfl)) (N8 r h5) (by grind [Lo]) (λp x v b D=>?_) N K M;have m:p<U q.flatten:=by rw[<-q1];exact(BE.1 b).1
     exact Qj H k (h7 p _ v (CE m) D) (q2 p _ x (CE m) b) ((i g (by simp[HO])).2 _ q l _ (Md m))
   .cases e
  .exact Qj H k o e λg n=>(i g n).1
 .exact Qj H k o e λg n=>(i g n).1
theorem lJ{h δ:S}(p:∀a∈δ,Mm h δ a){v:y}{x:Au}(b:Ds h.get v=J x)(c:∀a∈Cj h.get v,a∈δ):hC h (h.puts δ) v:=by
 intro r i;cases v with
 |ii C F D=>
  simp only[HO,AS]at i;subst i;have n:∀a∈δ,a.2.mut=false:=λa q=>(p a q).rt;unfold Ds at b;simp only[Cj]at c;refine⟨λs g=>?_,λl f o=>?_⟩
  .rcases JO δ h r with⟨m,j⟩|⟨a,m,j,B⟩
   .rw[m]at g;cases s with|rt l f=>rfl|f9 l f=>simp only[g]at c;exact absurd rfl (j _ (c _ (AS.2 rfl)))|arr l f=>grind [List.mem_cons_self]|box w=>simp[g,Fq]at b|map f=>simp[g,Fq]at b|loop H=>simp[g,Fq]at b
   grind
  .simp only[o]at b c;rcases hds:EC h.get f with _|A
   .rw[hds]at b;cases b
   .simp only[hds]at c;exact Sg n (λt k=>by have⟨v,hv,k⟩:=BI.1 k;have⟨e,he,hv⟩:=MT.1 hv;exact c t (By _ (BI.2 ⟨e,he,BI.2 ⟨v,hv,k⟩⟩))) (Fy hds)
 |_=>simp[HO]at i
variable{g:G}
theorem YB:∀{a b:List y},Jc g a=J b->(U b)=U a/\∀(c:Nat) (v x:y),a[c]?=J v->b[c]?=J x->∃e,x=.d e/\Ds g v=J e
 :=by intro x;induction x<;>grind [Jc]
variable{p:Hk}
theorem kU{h f:S}(H:HR A a w h)(O:dk h f){v:y}(e:VR a w (MS A a h) v p)(c:FA h.get v=J x)(l:∀m∈L6 v,∀g,Ds h.get m=J g->hC h f m):
 VR a w (MS A a f) x p/\AE x=[]:=by
 have cell:∀{v:y} {p:Hk} {g:Au},VR a w (MS A a h) v p->Ds h.get v=J g->(∀g,Ds h.get v=J g->hC h f v)->DR w (MS A a f) g p:=λe c l=>wc H O e c (l _ c)
 have cells:∀{n q:List y} {m:Array Hk},U n=m.size->(∀(i:Nat) (x:y) (v:Hk),n[i]?=J x->m[i]?=J v->VR a w (MS A a h) x v)->Jc h.get n=J q->(∀v∈n,∀g,Ds h.get v=J g->hC h f v)->
  VR a w (MS A a f) (.agg q) (.agg m)/\Ab q=[]:=by
  intro n q m s r c l;have⟨q1,q2⟩:=YB c;have L:∀(i:Nat) (x:y),q[i]?=J x->∃v g,n[i]?=J v/\x=.d g/\Ds h.get v=J g:=by
   intro i x c;have C:i<U n:=by rw[<-q1];exact(BE.1 c).1
   obtain⟨g,k,j⟩:=q2 i _ x (CE C) c;exact⟨_,g,CE C,k,j⟩
  refine⟨.agg _ _ (by rw[q1];exact s) λi x v c e=>?_,?_⟩
  .obtain⟨o,g,k,rfl,j⟩:=L i x c;exact .d (cell (r i o v k e) j (l o (AP k)))
  .rw[Of];grind [P6,List.mem_iff_getElem?,AE]
 have other:∀{v x:y} {p:Hk},VR a w (MS A a h) v p->(Ds h.get v).map y.d=J x->(∀g,Ds h.get v=J g->hC h f v)->VR a w (MS A a f) x p/\AE x=[]:=by intro v x p e c l;simp only[Be]at c;obtain⟨g,B,rfl⟩:=c;exact⟨.d (cell e B l),rfl⟩
 unfold FA at c;split at c
 .rename_i n;simp only[Be]at c;obtain⟨q,t,rfl⟩:=c;cases e with|agg _ m s r=>have⟨k,j⟩:=cells s r t λv e=>l v e;exact⟨k,j⟩
 .cases c;cases e with|fn Q b P F K k j R T=>exact⟨.fn _ [] [] F K k j (λ_ _ _ h=>by simp at h) (λ_ _ _ h=>by simp at h),rfl⟩
 .rename_i D n;simp only[Be]at c;obtain⟨q,t,rfl⟩:=c;cases e with
  |iface _ _ p e=>cases e with|agg _ m s r=>have⟨k,j⟩:=cells s r t λv e=>l v e;exact⟨.iface _ _ _ k,j⟩
 .rename_i D o M;simp only[Be]at c;obtain⟨g,B,rfl⟩:=c;cases e with
  |iface _ _ p e=>
   have N:L6 (.iface D o)=[o]:=by cases o<;>first|rfl|exact absurd rfl (M _)
   rw[N]at l;exact⟨.iface _ _ _ (.d (cell e B (l o AG))),rfl⟩
 grind [L6]
def eh{h:S}(H:HR A a w h)(c:∀b∈δ,Mm h δ b){v:y}(j:VR a w (MS A a h) v p)(k:FA h.get v=J x)(i:∀b∈mark h.get v,b∈δ):
 VR a w (MS A a (h.puts δ)) x p/\AE x=[]:=
 kU H (Jn c).sub j k λe f _ l=>lJ c l λb g=>i b (BI.2 ⟨e,f,g⟩)
theorem kf{h:S}(H:HR A a w h){v:y}(b:VR a w (MS A a h) v p)(c:FA h.get v=J x):VR a w (MS A a []) x p/\AE x=[]:=kU H (dk.nil h) b c λ_ _ _ _ _ _=>⟨Hl.nil _,λ_ _ _ _ _ _ _=>Hl.nil _⟩
theorem bN:∀{a b:List y},Fa g a=J b->(U b)=U a/\∀(c:Nat) (v x:y),a[c]?=J v->b[c]?=J x->FA g v=J x
 :=by intro x;induction x<;>grind [Fa]
variable{c:Array Hk}
def AJD{h:S}(H:HR A a w h)(n:∀m∈δ,Mm h δ m){g l:List y}(k:HQ a w (MS A a h) g c)(f:Fa h.get g=J l)(o:∀v∈g,∀m∈mark h.get v,m∈δ):
 HQ a w (MS A a (h.puts δ)) l c/\∀x∈l,AE x=[]:=by
 have⟨q1,q2⟩:=bN f;have key:∀(b:Nat) (x:y) (e:l[b]?=J x),∃v,g[b]?=J v/\FA h.get v=J x:=by
  intro b x e;have i:b<U g:=by rw[<-q1];exact(BE.1 e).1
  exact⟨_,CE i,q2 b _ x (CE i) e⟩
 refine⟨⟨by rw[q1];exact k.1,λb x v f p=>?_⟩,λx f=>?_⟩
 .have⟨B0,h1,j⟩:=key b x f;exact(eh H n (k.2 b B0 v h1 p) j (o B0 (AP h1))).1
 .have⟨b,e⟩:=Pp.1 f;have⟨B0,h1,j⟩:=key b x e;have i:b<c.size:=by rw[<-k.1];exact(BE.1 h1).1
  exact(eh H n (k.2 b B0 _ h1 (D9 i)) j (o B0 (AP h1))).2
def xv{h:S}(H:HR A a w h)(j:∀g∈δ,Mm h δ g){i:List y}(f:HQ a w (MS A a h) i c)(n:∀v∈i,∀g∈mark h.get v,g∈δ):
 HQ a w (MS A a (h.puts δ)) (QP h.get i) c:=by
 refine⟨by simp[QP,f.1],λm x v l k=>?_⟩;simp only[QP,BY,Be]at l;obtain⟨b,e,rfl⟩:=l;rcases hf:FA h.get b with _|x
 .exact(f.2 m b v e k).mono (.refl a) (Jn j).sub.ol
 .exact(eh H j (f.2 m b v e k) hf (n b (AP e))).1
variable{f:G5}
def S3{x:Au}(a:HI x=X)(h:DR w M x v):DR f k x v:=by cases h with|int e g=>exact .int e g|bool c=>exact .bool c|str i=>exact .str i|nilp=>exact .nilp|nilf=>exact .nilf|wt=>exact .wt|nilm=>exact .nilm|lst0 b cap=>simp[HI]at a|co j=>simp[HI]at a
def kI:∀{c:List y},JA c=X->∀x∈c,∃b,x=.d b/\HI b=X
 |[],_,x,a=>by cases a|v::c,h,x,a=>by
  cases v with
  |d b=>
   simp only[JA,As]at h;rcases Cs.1 a with rfl|a
   .exact⟨b,rfl,h.1⟩
   .exact kI h.2 x a
  |_=>simp[JA]at h
def Wg{e:BB}(i:flat x=X)(h:VR a w M x v):VR e f k x v:=by
 have cells:∀{g:List y} {c:Array Hk},JA g=X->(∀(l:Nat) (x:y) (v:Hk),g[l]?=J x->c[l]?=J v->VR a w M x v)->
  ∀(l:Nat) (x:y) (v:Hk),g[l]?=J x->c[l]?=J v->VR e f k x v:=by
  intro g c i j l x v q o;obtain⟨t,rfl,r⟩:=kI i x (AP q);cases j l _ v q o with|d m=>exact .d (S3 r m)
 cases h with
 |d m=>exact .d (S3 i m)|d8=>exact .d8|emp b=>exact .emp b|agg g c n j=>exact .agg g c n (cells i j)|kw g c n j=>exact .kw g c n (cells i j)
 |iface s v p o=>cases o with|d m=>exact .iface _ _ _ (.d (S3 i m))|agg g c n j=>exact .iface _ _ _ (.agg g c n (cells i j))|_=>simp[flat]at i
 |_=>simp[flat]at i
variable{A:Nat->Prop}{P:JH}{i:List H5}{b f k:BB}{w e l:G5}{M:Nat->Prop}{h m q:S}{r ρ:u}{ci:Option u}{n:NT}{env:Nat->y}{o:List Df}{a:OA}
theorem NF{f:KH}(he:Nn P f)(args:Array Hk):(callFunc f args).run P w=.ok (.enter f args) w:=by
 obtain⟨fn,c,h1,j,h3⟩:=he;have h3':fn.name≠ "runtime.NumGoroutine" :=by simpa using h3
 simp[callFunc,h1,j,h3']
variable{k:Nat->Prop}
def HR.none(b:∀a,k a->a<w.heap.size):HR k (λ_=>I) w []:=⟨λ_ _ h=>by simp at h,λ_ _ _ _ _ _ h=>by simp at h,λ_ _ h=>zCT,λ_ _ _ h=>by simp at h,b⟩
def qX{a:Nat}:MS k b [] a↔k a:=by simp[MS]
def HR.less(H:HR A b w h)(i:∀c e,m.get c=J e->h.get c=J e):HR A b w m:=by
 have r:∀g,MS A b m g->MS A b h g:=by
  rintro g (k|⟨c,e,f,n,j,o,p⟩)
  .exact .inl k
  .exact .inr ⟨c,e,f,i c e n,j,o,p⟩
 refine⟨λc e l=>?_,λa g v x s t q k=>H.inj a g v x s t (i _ _ q) (i _ _ k),H.bnd,λc e f l=>H.out c e f (i _ _ l),H.abnd⟩;have⟨f,hk,hr⟩:=H.obj c e (i _ _ l);exact⟨f,hk,hr.mono (.refl b) (HY (A:=A) r w) (H.bnd c f hk) rfl⟩
theorem Xx(K:u->Bool)(h:S)(a:u):S.get (h.filter λb=>K b.1) a=if K a then h.get a else none:=by induction h with|nil=>simp|cons b h c=>grind [S.get_cons]
def Rz(ρ:u)(a:u):Bool:=match a with|0::l=> !AD ρ l|_=>X
theorem ei{a:u}(b:Rz ρ a=Z):ρ<:+a:=by unfold Rz at b;grind [Id.under_iff]
theorem sR(h:S)(a:u):(gc ρ h).get a=h.get a\/((gc ρ h).get a=I/\ρ<:+a):=by have b:gc ρ h=h.filter λc=>Rz ρ c.1:=rfl;rw[b,Xx (Rz ρ)];grind [ei]
theorem Qk{a:u}{b:Obj}(c:(gc ρ h).get a=J b):h.get a=J b:=by grind [sR]
theorem CP.gcs{k:u}(v:ρ<:+k)(g:CP A ci ρ b w h f e m):CP A ci ρ b w h f e (gc k m):=by
 refine⟨g.out,g.hr.less λc i=>Qk,⟨g.ol.pm,g.ol.size,λl a=>g.ol.sub l ?_,g.ol.io⟩,λt r q=>?_⟩
 .rcases a with a|⟨c,i,s,n,j,o,p⟩
  .exact .inl a
  .exact .inr ⟨c,i,s,Qk n,j,o,p⟩
 .have⟨a1,a2,a3⟩:=g.kept t r q;grind [sR]
theorem CP.gc(g:CP A ci ρ b w h f e m):CP A ci ρ b w h f e (gc ρ m):=g.gcs (Ty _)
theorem AJX(ρ:u)(v:y):ρ<:+S7 ρ v:=by
 unfold S7;split
 .exact⟨[0,0],rfl⟩
 .exact Ty _
def YO(ρ:u):BC->u
 |.ret v=>S7 ρ v|_=>ρ
theorem AJR(ρ:u)(c:BC):ρ<:+YO ρ c:=by unfold YO;grind [AJX]
theorem HR.same(H:HR A b w h)(i:∀a,a<w.heap.size->e.heap[a]?=w.heap[a]?)(j:w.heap.size<=e.heap.size)(l:e.os=w.os/\e.output=w.output):HR A b e h:=H.step (.refl b) ⟨λa k _=>i a k,j,λ_ h=>.inl h,l⟩ (λg n m=>.inl ⟨m,λc f=>i c.b (H.bnd g c f)⟩) H.inj (λg c f=>LM (H.bnd g c f) j) H.out
def NJ(H:HR A b w h)(f:∀a,a<w.heap.size->e.heap[a]?=w.heap[a]?)(i:w.heap.size<=e.heap.size)(g:e.os=w.os/\e.output=w.output):CP A ci ρ b w h b e h:=⟨λ_ _=>rfl,H.same f i g,⟨λa c _=>f a c,i,λ_ h=>.inl h,g⟩,λ_ _ _=>⟨λa c _=>f a c,λ_ c=>.inl c,λ_ _=>rfl⟩⟩
variable{i:S}
theorem AHX(r:HR A b w i)(av:∀h,h<w.heap.size->e.heap[h]?=w.heap[h]?)(Y:w.heap.size<=e.heap.size)(a6:e.os=w.os/\e.output=w.output)(az:FX b ρ)(B:HR k f e j)(bh:∀c,f c≠I->ρ<:+c) (K:∀c g,f c=J g->w.heap.size<=g.b) (ar:∀h,MS A b i h->k h):
 ∃p,Le b p/\Le f p/\(∀c,¬ρ<:+c->p c=b c)/\(∀c g,p c=J g->b c=J g\/(ρ<:+c/\w.heap.size<=g.b))/\HR A p e (i++j)/\(∀h,MS A p (i++j) h->MS k f j h)/\
  E5 A (MS A b i) w (MS A p (i++j)) e:=by
 classical
 let p:BB:=λc=>if ρ<:+c then f c else b c
 have T:Le b p:=λc g m=>by
  have:¬ρ<:+c:=λW=>by rw[az c W]at m;cases m
  grind
 have V:Le f p:=λc g m=>by grind
 have x:∀c g,p c=J g->(ρ<:+c/\f c=J g)\/(¬ρ<:+c/\b c=J g):=λc g m=>by grind
 have bk:∀c l,i.get c=J l->¬ρ<:+c:=λc l v W=>by have⟨g,m,_⟩:=r.obj c l v;rw[az c W]at m;cases m
 have bl:∀c l,j.get c=J l->ρ<:+c:=λc l v=>by have⟨g,m,_⟩:=B.obj c l v;grind
 have gt:∀c l,(i++j).get c=J l->(i.get c=J l/\¬ρ<:+c)\/(j.get c=J l/\ρ<:+c):=by
  intro c l v;rw[S.get_append]at v;rcases hg:i.get c with _|bi
  .grind
  .grind
 have a2:∀h,MS A p (i++j) h->MS k f j h:=by
  rintro h (q|⟨c,l,g,ad,L,ag,rfl⟩)
  .exact .inl (ar h (.inl q))
  .rcases gt c l ad with⟨o,n⟩|⟨o,n⟩<;>rcases x c g ag with⟨s,t⟩|⟨s,t⟩
   .exact absurd s n
   .exact .inl (ar g.b (.inr ⟨c,l,g,o,L,t,rfl⟩))
   .exact .inr ⟨c,l,g,o,L,t,rfl⟩
   .exact absurd n s
 have a3:E5 A (MS A b i) w (MS A p (i++j)) e:=by
  refine⟨λh q _=>av h q,Y,?_,a6⟩;rintro h (q|⟨c,l,g,ad,L,ag,rfl⟩)
  .exact .inl (.inl q)
  .rcases gt c l ad with⟨o,n⟩|⟨o,n⟩<;>rcases x c g ag with⟨s,t⟩|⟨s,t⟩
   .exact absurd s n
   .exact .inl (.inr ⟨c,l,g,o,L,t,rfl⟩)
   .exact .inr (K c g t)
   .exact absurd n s
 refine⟨p,T,V,λc a5=>by simp only[p,Co a5],λc g m=>?_,⟨λc l v=>?_,?_,λc g m=>?_,λc l g v be m q=>?_,λh q=>LM (r.abnd h q) Y⟩,a2,a3⟩
 .grind
 .rcases gt c l v with⟨o,n⟩|⟨o,n⟩
  .have⟨g,m,hr⟩:=r.obj c l o;exact⟨g,T _ _ m,hr.mono T a3 (r.bnd c g m) (av g.b (r.bnd c g m))⟩
  .have⟨g,m,hr⟩:=B.obj c l o;exact⟨g,V _ _ m,hr.mono V (HY (A:=A) a2 e) (B.bnd c g m) rfl⟩
 .intro a h aa ac F H a4 q a0 a1 a' bc ai;rcases gt a aa a4 with⟨M,N⟩|⟨M,N⟩<;>rcases gt h ac q with⟨P,Q⟩|⟨P,Q⟩<;>
   rcases x a F a' with⟨O,C⟩|⟨O,C⟩<;>rcases x h H bc with⟨R,D⟩|⟨R,D⟩<;>try(first|exact absurd O N|exact absurd R Q|exact absurd N O|exact absurd Q R)
  .exact r.inj a h aa ac F H M P a0 a1 C D ai
  .have:=r.bnd a F C;have:=K h H D;omega
  .have:=r.bnd h H D;have:=K a F C;omega
  .exact B.inj a h aa ac F H M P a0 a1 C D ai
 .rcases x c g m with⟨o,n⟩|⟨o,n⟩
  .exact B.bnd c g n
  .exact LM (r.bnd c g n) Y
 .rcases gt c l v with⟨o,n⟩|⟨o,n⟩<;>rcases x c g m with⟨s,t⟩|⟨s,t⟩
  .exact absurd s n
  .exact r.out c l g o be t q
  .have:=r.abnd _ q;have:=K c g t;omega
  .exact absurd n s
def R1(H:HR A b w h)(a:∀f∈δ,Mm h δ f)(e:Jv ci δ=X):CP A ci ρ b w h b w (h.puts δ):=H7 (.refl b) (λ_ c=>.inl c) ((Jn a).hr H) (Jn a).sub.ol (.refl _ _ _) e
def IV(A:Nat->Prop)(ci:Option u)(ρ:u)(n:NT)(b:BB)(w:G5)(h:S)(env:Nat->y)(o:List Df)(a:OA)(m:S):BC->Ending->G5->Prop
 |.ret v,.returned p,e=>∃f,CP A ci ρ b w h f e m/\O0 A f e n env o m a/\VR f e (MS A f m) v p|.of v,.panicked chain,e=>∃f p,CP A ci ρ b w h f e m/\O0 A f e n env o m a/\chain=[{v:=p,recovered:=Z}]/\VR f e (MS A f m) v p|_,_,_=>False
variable{l:Ending}
def Wy{k:BC×S}(D:CP A ci ρ b w h b w i)(K:FX b ρ)(O:O0 A b w n env o h a)(H:SU A ci ρ b w i k l e):
 IV A ci ρ n b w h env o a (gc (YO ρ k.1) k.2) k.1 l e:=by
 obtain⟨f,g,r⟩:=H;have q:=(D.trans g).gcs (AJR ρ k.1);have B:=O.mono (q.le K) q.ol;have C:∀s,MS A f (gc (YO ρ k.1) k.2) s->MS A f k.2 s:=by
  rintro s (F|⟨L,N,M,i,j,t,x⟩)
  .exact .inl F
  .exact .inr ⟨L,N,M,Qk i,j,t,x⟩
 obtain⟨c,m⟩:=k;cases c with
 |ret v=>cases l with|returned p=>exact⟨f,q,B,VR.mono (.refl _) (HY (A:=A) C e) r⟩|_=>exact r.elim
 |of v=>cases l with|panicked chain=>obtain⟨p,t,x⟩:=r;exact⟨f,p,q,B,t,x.mono (.refl _) (HY (A:=A) C e)⟩|_=>exact r.elim
def AM1{q:BC×S}(H:HR A b w h)(t:FX b ρ)(O:O0 A b w n env o h a)(M:SU A (J ρ) ρ b w i q l e)(x:∀v,q.1=.ret v\/q.1=.of v->flat v=X):
 IV A ci ρ n b w h env o a h q.1 l e:=by
 obtain⟨f,g,s⟩:=M;have⟨k1,_,_⟩:=g.kept ρ (Ty _) (.inl rfl);have K:∀j,j<w.heap.size->e.heap[j]?=w.heap[j]? :=λj L=>k1 j L λ⟨N,k,u1,C,_⟩=>by rw[t N u1]at C;cases C
 have r:CP A ci ρ b w h b e h:=NJ H K g.ol.size g.ol.io;have B:=O.mono (r.le t) r.ol;obtain⟨c,m⟩:=q;cases c with
 |ret v=>cases l with|returned p=>exact⟨b,r,B,Wg (x v (.inl rfl)) s⟩|_=>exact s.elim
 |of v=>cases l with|panicked chain=>obtain⟨p,D,F⟩:=s;exact⟨b,p,r,B,D,Wg (x v (.inr rfl)) F⟩|_=>exact s.elim
section loops
variable{W:Lp->Prop}
def fB:Obj->Bool
 |.loop _=>X|_=>Z
def Bm(δ:S):Prop:=∀p∈δ,fB p.2=Z
theorem Bm.nil:Bm []:=λ_ h=>by cases h
def Bm.append{a b:S}(i:Bm a)(j:Bm b):Bm (a++b):=λc e=>(Ac.1 e).elim (i c) (j c)
theorem Bm.one{b:u}{a:Obj}(h:fB a=Z):Bm [(b,a)]:=λe c=>by grind
def Bm.cons{c:u}{b:Obj}{δ:S}(h:fB b=Z)(j:Bm δ):Bm ((c,b)::δ):=λe a=>by
 rcases Cs.1 a with rfl|a
 .exact h
 .exact j e a
theorem Bm.marks{g:G}(b:List y):Bm (Ca g b):=λc a=>by have⟨sz,es,h,_⟩:=Lv a;rw[h];rfl
def Bm.markEs{g:G}(b:List (List y)):Bm (b.flatMap (Ca g)):=λc a=>by have⟨l,_,a⟩:=BI.1 a;exact Bm.marks l c a
theorem LW.puts{h δ:S}(e:LW W h)(f:Bm δ):LW W (h.puts δ):=λb j a=>by
 rcases JO δ h b with⟨i,_⟩|⟨g,i,_,c⟩
 .rw[i]at a;exact e b j a
 .rw[c]at a;have l:=Kw a;have:=f g i;rw[l]at this;cases this
theorem LW.gc{h:S}(a:LW W h):LW W (gc ρ h):=λc e b=>a c e (Qk b)
def LW.cons{h:S}{b:u×Obj}(c:LW W h)(e:fB b.2=Z):LW W (b::h):=λf g a=>by
 obtain⟨i,j⟩:=b;rw[S.get_cons]at a;split at a
 .cases a;cases e
 .exact c f g a
def LW.append{h j:S}(i:LW W h)(e:LW W j):LW W (h++j):=λb c a=>by
 rw[S.get_append]at a;rcases hg:h.get b with _|f
 .rw[hg]at a;exact e b c a
 .rw[hg]at a;cases a;exact i b c hg
theorem LW.nil:LW W []:=λ_ _ h=>by cases h
theorem Bm.markAll{h:S}(as:List y):Bm (as.flatMap (mark h.get)):=λb a=>by rcases Qq (h:=h) (as:=as) b a with⟨_,_,l,_⟩|⟨_,_,_,l,_⟩<;>rw[l]<;>rfl
end loops
variable{A:Nat->Prop}{P:JH}{e:List H5}{b o g:BB}{w f m:G5}{M:Nat->Prop}{h B q:S}{k n:u}{ci:Option u}{r:NT}{env:Nat->y}{t:List Df}{a:OA}{W:Lp->Prop}
variable{s:S}
theorem oc{h B:S}{a:u}(b:a∈s.map (·.1)):(h.puts s).get a=(B.puts s).get a:=by induction s generalizing h B with|nil=>cases b|cons e s c=>grind [S.puts_cons,Ql,S.get_put]
theorem P8{h:S}{a:u}(b:a∉s.map (·.1)):(h.puts s).get a=h.get a:=by grind [Ql]
def nl(e:Option (List u))(new c:G):G:=λa=>match e with|some b=>if a∈b then new a else c a|none=>new a
variable{g m:G}
theorem Vg{vs:List y}(h:∀v∈vs,Ds g v=Ds m v):Jc g vs=Jc m vs:=by induction vs with|nil=>rfl|cons v vs a=>grind [Jc]
def NB{c e:List u}(h:∀b∈e,b∈c):∀b∈BA g e,b∈BA g c:=by
 intro b a;rcases Ac.1 a with a|a
 .exact Is _ (h b a)
 .have⟨x,i,j⟩:=BI.1 a;exact IN _ (BI.2 ⟨x,h x i,j⟩)
variable{v:y}
theorem sI(h:At g m (BA g (AE v))):Ds g v=Ds m v:=by
 have e:Fq g v=Fq m v:=X7 (h.mono λa b=>Is _ b);cases v with
 |ii a k j=>
  have l:=h a (Is _ Ay);rcases hg:g a with _|f
  .grind [Ds]
  .rw[hg]at l;cases f with|arr n c=>simp only[Ds,hg,<-l];rw[MW (g:=g) (g':=m) (es:=c) (h.mono λi b=>IN _ (BI.2 ⟨a,Ay,by simp only[hg];exact b⟩))]|_=>grind [Ds]
 |_=>exact e
theorem mj(h:At g m (BA g (AE v))):Cj g v=Cj m v:=by
 cases v with
 |ii a k j=>
  have l:=h a (Is _ Ay);simp only[Cj];rw[<-l];rcases hg:g a with _|e
  .rfl
  .cases e with|arr n b=>have f:At g m (b.flatMap Ab):=h.mono λi c=>IN _ (BI.2 ⟨a,Ay,by simp only[hg];exact c⟩);grind [MW,OU]|_=>rfl
 |_=>rfl
def cU{v x:y}(a:x∈L6 v):∀c∈AE x,c∈AE v:=by
 intro c b;cases v with
 |agg e=>exact NU a b
 |iface f p=>cases p with|agg e=>simp only[AE];exact NU a b|_=>simp only[L6,AS]at a;subst a;simpa[AE]using b
 |_=>simp only[L6,AS]at a;subst a;exact b
def sG(h:At g m (BA g (AE v))):FA g v=FA m v:=by
 have b:∀x∈L6 v,Ds g x=Ds m x:=λx f=>sI (h.mono (NB (cU f)));cases v with
 |agg c=>simp only[FA];rw[Vg (vs:=c) b]
 |iface j p=>cases p with|agg c=>simp only[FA];rw[Vg (vs:=c) b]|_=>simp only[FA];rw[b _ (by simp[L6])]
 |fn i a e=>cases a<;>cases e<;>first|rfl|(simp only[FA];rw[b _ (by simp[L6])])
 |_=>simp only[FA];rw[b _ (by simp[L6])]
theorem tL(h:At g m (BA g (AE v))):mark g v=mark m v:=by
 unfold mark;have:∀a:List y,(∀x∈a,Cj g x=Cj m x)->a.flatMap (Cj g)=a.flatMap (Cj m):=by intro a c;induction a with|nil=>rfl|cons x a e=>grind
 exact this _ λx b=>mj (h.mono (NB (cU b)))
def N9{a:List y}(h:At g m (BA g (Ab a))):Fa g a=Fa m a:=by induction a with|nil=>rfl|cons v a e=>simp only[Fa];rw[sG (v:=v) (h.mono (NB λc b=>by simp[Ab,b])),e (h.mono (NB λc b=>by simp[Ab,b]))]
def mr{vs:List y}(h:At g m (BA g (Ab vs))):vs.flatMap (mark g)=vs.flatMap (mark m):=by induction vs with|nil=>rfl|cons v vs c=>simp only[F0];rw[tL (v:=v) (h.mono (NB λb a=>by simp[Ab,a])),c (h.mono (NB λb a=>by simp[Ab,a]))]
variable{as q:List y}
def SF{g:KH}{f:Array Hk}{l:BC×S}(H:HR A b w h)(n:vf P W (.fn g) q [] k Z I l)(c:Fa h.get as=J q)(a:HQ b w (MS A b h) as f):
 Calls P g f w (SU (MS A b (h.puts (as.flatMap (mark h.get)))) I k (λ_=>I) w [] l):=by
 have i:=Qq (h:=h) (as:=as);have r:∀v∈as,∀j∈mark h.get v,j∈as.flatMap (mark h.get):=λv a j p=>BI.2 ⟨v,a,p⟩;have⟨q1,q2⟩:=AJD H i a c r;have m:=(Jn i).hr H;refine n.pu rfl rfl rfl (MS A b (h.puts (as.flatMap (mark h.get)))) w f (HR.none λo e=>nB m e) (λ_ _=>rfl) ⟨q1.1,λs x v c a=>?_⟩;exact(q1.2 s x v c a).noIds (λo e=>qX.1 e) (q2 x (AP c))
structure ACu(A1:Nat->Prop)(π:u)(w:G5)(r:BC×S)(β':BB)(w':G5):Prop:=
 all:∀b,b<w.heap.size->w'.heap[b]?=w.heap[b]?
 size:w.heap.size<=w'.heap.size
 io:w'.os=w.os/\w'.output=w.output
 hr:HR A1 β' w' r.2
 ids:∀id,β' id≠I->π<:+id
 new:∀id k,β' id=J k->w.heap.size<=k.b
variable{j:Nat->Prop}{e:Ending}
def Q3{b:BC×S}(r:SU j I k (λ_=>I) w [] b e f):∃o,ACu j k w b o f/\uB o f (MS j o b.2) b.1 e:=by
 obtain⟨o,g,v⟩:=r;have n:∀a,o a≠I->k<:+a:=λa s=>by
  by_cases e:k<:+a
  .exact e
  .exact absurd (g.out a e) s
 refine⟨o,⟨λc m=>?_,g.ol.size,g.ol.io,g.hr,n,λa q p=>?_⟩,v⟩
 .by_cases l:j c
  .exact g.ol.pm c m (.inr l)
  .exact g.ol.pm c m (.inl λt=>l (qX.1 t))
 .have⟨_,k2,_⟩:=g.kept k (Ty _) (.inr λ_ h=>absurd rfl h);rcases k2 q.b ⟨a,q,n a (by rw[p];simp),p,rfl⟩with⟨_,_,_,i,_⟩|i
  .cases i
  .exact i
def ABY{g:BC×S}(H:HR A b w h)(C:FX b n)(D:O0 A b w r env t h a)(x:SU j I k (λ_=>I) w [] g e f)(i:∀v,g.1=.ret v\/g.1=.of v->flat v=X):IV A ci n r b w h env t a h g.1 e f:=by
 have⟨o,L,hr⟩:=Q3 x;have m:CP A ci n b w h b f h:=NJ H L.all L.size L.io;have l:=D.mono (m.le C) m.ol;obtain⟨c,B⟩:=g;cases c with
 |ret v=>cases e with|returned p=>exact⟨b,m,l,Wg (i v (.inl rfl)) hr⟩|_=>exact hr.elim
 |of v=>cases e with|panicked chain=>obtain⟨p,q,s⟩:=hr;exact⟨b,p,m,l,q,Wg (i v (.inr rfl)) s⟩|_=>exact hr.elim
variable{h2:S}
theorem kR{i:S}(H:HR A b w h)(x:FX b n)(l:CP A ci n b w h b w i)(v:∀c,c<w.heap.size->f.heap[c]?=w.heap[c]?)(O:w.heap.size<=f.heap.size)(L:f.os=w.os/\f.output=w.output)(s:HR j o f h2) (K:∀a,o a≠I->n<:+a) (M:∀a g,o a=J g->w.heap.size<=g.b) (C:∀c,MS A b i c->j c):
 ∃k,Le o k/\CP A ci n b w h k f (h2++i)/\∀c,MS A k (h2++i) c->MS j o h2 c:=by
 have⟨k,e1,e2,e3,e4,e5,e6,e7⟩:=AHX l.hr v O L x s K M C;have aa:∀a e,i.get a=J e->¬n<:+a:=λa e q N=>by have⟨g,p,_⟩:=l.hr.obj a e q;rw[x a N]at p;cases p
 have ac:∀a e,h2.get a=J e->n<:+a:=λa e q=>by have⟨g,p,_⟩:=s.obj a e q;grind
 have B:∀a,(i++h2).get a=(h2++i).get a:=by intro a;rw[S.get_append,S.get_append];cases V:i.get a with|none=>cases h2.get a<;>rfl|some e=>cases m:h2.get a with|none=>rfl|some Y=>grind
 have t:=MS.congr (A:=A) (β:=k) B;refine⟨k,e2,⟨e3,e5.congr B,?_,λT P D=>?_⟩,by rw[<-t];exact e6⟩
 .rw[<-t];exact l.ol.trans e7
 .have⟨a1,a2,a3⟩:=l.kept T P D;refine⟨λc m W=>v c m,?_,λa F=>?_⟩
  .rintro c ⟨a,g,Q,R,rfl⟩;rcases e4 a g R with r|⟨_,r⟩
   .exact .inl ⟨a,g,Q,r,rfl⟩
   .exact .inr r
  .rw[S.get_append];rcases m:h2.get a with _|e
   .exact a3 a F
   .grind
theorem ABZ(H:HR A b w h)(c:FX b n)(m:O0 A b w r env t h a)(l:Jv ci (as.flatMap (mark h.get))=X)(k:SU (MS A b (h.puts (as.flatMap (mark h.get)))) I n (λ_=>I) w [] (.ret v,h2) e f):
 IV A ci n r b w h env t a (h2++h.puts (as.flatMap (mark h.get))) (.ret v) e f:=by
 have⟨o,L,hr⟩:=Q3 k;have i:=R1 (ρ:=n) (ci:=ci) H (Qq (as:=as)) l;have⟨β2,l1,g,hm⟩:=kR H c i L.all L.size L.io L.hr L.ids L.new λq j=>j;cases e with|returned p=>exact⟨β2,g,m.mono (g.le c) g.ol,VR.mono l1 (HY (A:=A) hm f) hr⟩|_=>exact hr.elim
theorem uF{as:List y}{v:y}{h2:S}{e:Ending}(H:HR A b w h)(m:FX b n)(x:O0 A b w r env t h a)(s:Jv ci (as.flatMap (mark h.get))=X)(q:AE v=[])(j:h2=[])(l:SU (MS A b (h.puts (as.flatMap (mark h.get)))) I [] (λ_=>I) w [] (.ret v,h2) e f):
 IV A ci n r b w h env t a (h2++h.puts (as.flatMap (mark h.get))) (.ret v) e f:=by
 subst j;have⟨o,L,hr⟩:=Q3 l;have c:=R1 (ρ:=n) (ci:=ci) H (Qq (as:=as)) s;have i:CP A ci n b w (h.puts (as.flatMap (mark h.get))) b f (h.puts (as.flatMap (mark h.get))):=NJ c.hr L.all L.size L.io;have g:=c.trans i;cases e with|returned p=>exact⟨b,g,x.mono (g.le m) g.ol,VR.noIds (λB k=>qX.2 k) hr q⟩|_=>exact hr.elim
theorem AGe{P:u×Obj}(H:HR A b w h)(N:FX b n)(a1:O0 A b w r env t h a)(l:Dc v h2=J P)(Y:SU j I n (λ_=>I) w [] (.ret v,h2) e f):IV A ci n r b w h env t a (P::h) (.ret v) e f:=by
 have⟨o,L,hr⟩:=Q3 Y;unfold Dc at l;split at l
 .rename_i C a0 az;split at l
  .rename_i K D aa;split at l
   .rename_i a4;cases l;have⟨k,hk,c,elem,q1,q2,q3,q4,q5,q6,q7⟩:=L.hr.obj C _ aa;have Q:HR (MS A b h) o f [(C,.f9 K D)]:=by
     have ag:∀{s:u} {B:Obj},S.get [(C,Obj.f9 K D)] s=J B->s=C/\B=.f9 K D:=by
      intro s B q;rw[S.get_cons]at q;split at q
      .grind
      .cases q
     refine⟨λs B q=>?_,λa M a' B a5 a6 a3 m _ _ _ _ _=>by grind,L.hr.bnd,λs B F q ad ac m=>?_,λM m=>LM (nB H m) L.size⟩
     .obtain⟨rfl,rfl⟩:=ag q;refine⟨k,hk,c,elem,q1,q2,q3,q4,q5,q6,λav x a2 O ar=>S3 ?_ (q7 av x a2 O ar)⟩;have⟨e',he',hx'⟩:=MT.1 (AP O);grind
     .have:=nB H m;have:=L.new s F ac;omega
    have⟨β2,l1,g,ad⟩:=kR (ci:=ci) H N (CP.refl H) L.all L.size L.io Q L.ids L.new λM m=>m;cases e with
    |returned p=>refine⟨β2,g,a1.mono (g.le N) g.ol,?_⟩;have ai:VR o f (MS j o h2) (.ii C a0 az) p:=hr;cases ai with|ii _ _ _ F R cap i T V W=>exact .ii _ _ _ F R cap (l1 _ _ i) T V W
    |_=>exact hr.elim
   .cases l
  .cases l
 .cases l
variable{A:Nat->Prop}{P:JH}{o:List H5}{k a B:BB}{w n D:G5}{M:Nat->Prop}{h r C:S}{t b:u}{ci:Option u}{nt:NT}{env:Nat->y}{f j:List Df}{l:OA}{ro:Option Nat}{W:Lp->Prop}
def vT(c:Fp)(g b:G):Prop:=match c.rd,c.ext with|some f,_=>At g b f|none,X=>∀a e,g a=J e->b a=J e|none,Z=>∀a,g a=b a
def SZ(P:JH)(ro:Option Nat)(ci:Option u)(b:u)(nt:NT)(c:H0)(env:Nat->y)(f:List Df)(h:S)(v:y)(j:List Df)(r:S):Prop:=
 ∀(A:Nat->Prop) (k:BB) (w:G5) (l:OA),HR A k w h->FX k b->O0 A k w nt env f h l->∀(next:OA->G5->Prop) (Q:OW->OA->G5->Prop),
  (∀a n,lA A ci b nt k w h (U9 env c.dst v) j r a n->next a n)->c.wpIn (FF ro) 0 P l w next Q
def db(A:Nat->Prop)(ci:Option u)(t:u)(nt:NT)(k:BB)(w:G5)(h:S)(env:Nat->y)(f:List Df)(r:S)(v:y)(p:Hk)(b:OA)(n:G5):Prop:=∃a,CP A ci t k w h a n r/\O0 A a n nt env f r b/\VR a n (MS A a r) v p
def dg(P:JH)(ro:Option Nat)(ci:Option u)(b:u)(nt:NT)(c:H0)(env:Nat->y)(f:List Df)(h:S)(v:y)(r:S):Prop:=
 ∀(A:Nat->Prop) (k:BB) (w:G5) (l:OA),HR A k w h->FX k b->O0 A k w nt env f h l->∀(next:OA->G5->Prop) (Q:OW->OA->G5->Prop),
  (∀a n p,db A ci b nt k w h env f r v p a n->Q (.panic [{v:=p,recovered:=Z}]) a n)->c.wpIn (FF ro) 0 P l w next Q
variable{o:H0}{Q:OW->OA->G5->Prop}
def bB{g:KH}{i:Array Hk}{next:OA->G5->Prop}(B:(o.semAt ro l.eval).run P w=.ok (.enter g i) w)(s:∀d,o.dst=J d->d<nt.n)(q:Calls P g i w (IV A ci b nt k w h env f l r (.ret v))) (x:∀j n,lA A ci b nt k w h (U9 env o.dst v) f r j n->next j n):o.wpIn (FF ro) 0 P l w next Q:=by refine⟨λ_ _=>trivial,?_⟩;have e:(o.semAt (FF ro).round l.eval).run P w=.ok (.enter g i) w:=B;rw[e,Oper.uponIn_enter];refine⟨λt=>by simp[FF,Fence.wide]at t,CallsIn.mono (callsIn_wide.2 q) ?_⟩;intro e D c;cases e with|returned p=>obtain⟨a,m,F,C⟩:=c;exact x _ _ ⟨a,m,F.put s C⟩|panicked chain=>exact c.elim|outgrown=>exact c.elim
def a9{g:KH}{i:Array Hk}{next:OA->G5->Prop}(x:(o.semAt ro l.eval).run P w=.ok (.enter g i) w)(q:Calls P g i w (IV A ci b nt k w h env f l r (.of v))) (t:∀j n p,db A ci b nt k w h env f r v p j n->Q (.panic [{v:=p,recovered:=Z}]) j n):o.wpIn (FF ro) 0 P l w next Q:=by refine⟨λ_ _=>trivial,?_⟩;have e:(o.semAt (FF ro).round l.eval).run P w=.ok (.enter g i) w:=x;rw[e,Oper.uponIn_enter];refine⟨λs=>by simp[FF,Fence.wide]at s,CallsIn.mono (callsIn_wide.2 q) ?_⟩;intro e D c;cases e with|returned p=>exact c.elim|panicked chain=>obtain⟨a,p,m,C,rfl,B⟩:=c;exact t _ _ p ⟨a,m,C,B⟩|outgrown=>exact c.elim
variable{j:Array Hk}{B C:Code}
def ABq{i:Nat}{c:KH}{next:OA->G5->Prop}(H:(o.semAt ro l.eval).run P w=.ok (.round i c j B C) w)(t:∀d,o.dst=J d->d<nt.n)(s:RoundIn Fence.wide 0 P i c j B C w (IV A ci b nt k w h env f l r (.ret v))) (F:∀q n,lA A ci b nt k w h (U9 env o.dst v) f r q n->next q n):o.wpIn (FF ro) 0 P l w next Q:=by refine⟨λ_ _=>trivial,?_⟩;have e:(o.semAt (FF ro).round l.eval).run P w=.ok (.round i c j B C) w:=H;rw[e,Oper.uponIn_round];refine⟨λx=>by simp[FF,Fence.wide]at x,RoundIn.mono (F:=Fence.wide) s ?_⟩;intro e D g;cases e with|returned p=>obtain⟨a,m,L,K⟩:=g;exact F _ _ ⟨a,m,L.put t K⟩|panicked chain=>exact g.elim|outgrown=>exact g.elim
def ABp{i:Nat}{c:KH}{next:OA->G5->Prop}(F:(o.semAt ro l.eval).run P w=.ok (.round i c j B C) w)(s:RoundIn Fence.wide 0 P i c j B C w (IV A ci b nt k w h env f l r (.of v))) (x:∀q n p,db A ci b nt k w h env f r v p q n->Q (.panic [{v:=p,recovered:=Z}]) q n):o.wpIn (FF ro) 0 P l w next Q:=by refine⟨λ_ _=>trivial,?_⟩;have e:(o.semAt (FF ro).round l.eval).run P w=.ok (.round i c j B C) w:=F;rw[e,Oper.uponIn_round];refine⟨λt=>by simp[FF,Fence.wide]at t,RoundIn.mono (F:=Fence.wide) s ?_⟩;intro e D g;cases e with|returned p=>exact g.elim|panicked chain=>obtain⟨a,p,m,K,rfl,H⟩:=g;exact x _ _ p ⟨a,m,K,H⟩|outgrown=>exact g.elim
def Oy(P:JH)(ci:Option u)(b:u)(nt:NT)(e:KH)(as:List y)(env:Nat->y)(f:List Df)(h:S)(r:S)(c:BC):Prop:=∀(A:Nat->Prop) (k:BB) (w:G5) (l:OA) (a:Array Hk),HR A k w h->FX k b->O0 A k w nt env f h l->HQ k w (MS A k h) as a->Calls P e a w (IV A ci b nt k w h env f l r c)
variable{K:Af}{a:St}{j:S}
def vc(N:Dz P W K){B:KH}{c:BC}(M:LW W a.heap)(L:K (.fn B) (QP a.heap.get as) (a.heap.puts (as.flatMap (mark a.heap.get))) b X (J b)=.ok (c,j))(T:∀v,c=.ret v\/c=.of v->flat v=X)  (i:∀g o,a.heap.get g=J o->h2.get g=J o):Oy P ci b nt B as env f h2 h2 c:=by intro A k w l ag H C ad r;have D:dk h2 a.heap:=λg o q m=>⟨o,i g o q,m⟩;have x:=H.step (.refl k) D.ol (λg o q=>.inl ⟨i g o q,λ_ _=>rfl⟩) (λl F t ac s aa p O=>H.inj l F t ac s aa (i _ _ p) (i _ _ O)) H.bnd λl t s p=>H.out l t s (i _ _ p);have m:=Qq (h:=a.heap) (as:=as);have Y:=xv x m (HQ.mono (.refl k) D.ol r) λv r ai V=>BI.2 ⟨v,r,V⟩;have Q:=(N _ _ _ _ _ _ _ L).rw rfl (λ_ _ h=>by cases h) (M.puts (Bm.markAll as)) A k w ag ((Jn m).hr x) C Y;exact Q.mono λe n R=>AM1 H C ad R T
def zz(C:Dz P W K){p:KH}{c:BC}(N:Jv ci (as.flatMap (mark a.heap.get))=X)(x:LW W a.heap) (t:K (.fn p) (QP a.heap.get as) (a.heap.puts (as.flatMap (mark a.heap.get))) b X ci=.ok (c,j))  (i:∀g,a.heap.get g=h2.get g):Oy P ci b nt p as env f h2 (gc (YO b c) j) c:=by intro A k w l Q H r O m;have o:=H.congr λg=>(i g).symm;have B:=MS.congr (A:=A) (β:=k) i;have s:=Qq (h:=a.heap) (as:=as);have M:=xv o s (by rw[B];exact m) λv m R L=>BI.2 ⟨v,m,L⟩;have q:CP A ci b k w h2 k w (a.heap.puts (as.flatMap (mark a.heap.get))):=(R1 o s N).congr i;have D:=(C _ _ _ _ _ _ _ t).rw rfl (λ_ _ h=>by cases h) (x.puts (Bm.markAll as)) A k w Q q.hr r M;exact D.mono λe n F=>Wy q r O F
def wb(v:Dz P W K){o:KH}{c:BC}(s:LW W a.heap) (r:K (.fn o) as a.heap b X ci=.ok (c,j))  (i:∀g,a.heap.get g=h2.get g):Oy P ci b nt o as env f h2 (gc (YO b c) j) c:=by intro A k w l F H p D C;have m:=H.congr λg=>(i g).symm;have t:=MS.congr (A:=A) (β:=k) i;have q:CP A ci b k w h2 k w a.heap:=(CP.refl m).congr i;have x:=(v _ _ _ _ _ _ _ r).rw rfl (λ_ _ h=>by cases h) s A k w F m p (by rw[t];exact C);exact x.mono λe n B=>Wy q p D B
def wa(h:Dz P W K){a:KH}{c:BC}(g:K (.fn a) q [] t Z I=.ok (c,j))(o:∀v,c=.ret v\/c=.of v->flat v=X)  (r:Fa h2.get as=J q):Oy P ci b nt a as env f h2 h2 c:=by intro A k w l x H m s p;exact(SF H (h _ _ _ _ _ _ _ g) r p).mono λe n i=>ABY H m s i o
theorem AMH(m:Dz P W K){c:KH}{o:u×Obj}(B:t=b\/t=[])(h:K (.fn c) q [] t Z I=.ok (.ret v,j))(g:Dc v j=J o)  (x:Fa h2.get as=J q):Oy P ci b nt c as env f h2 (o::h2) (.ret v):=by
 intro A k w l D H r C s;have a:=m _ _ _ _ _ _ _ h;refine(SF H a x s).mono λe n p=>?_;rcases B with rfl|rfl
 .exact AGe H r C g p
 .have⟨i,h2⟩:=a.ids rfl rfl rfl rfl v rfl;exfalso;unfold Dc at g;grind [AE]
theorem AI8(h:Dz P W K){c:KH}(p:t=b\/t=[])(g:K (.fn c) q [] t Z I=.ok (.ret v,j))
  (x:Jv ci (as.flatMap (mark h2.get))=X) (o:Fa h2.get as=J q):Oy P ci b nt c as env f h2 (j++h2.puts (as.flatMap (mark h2.get))) (.ret v):=by
 intro A k w l C H s B m;have a:=h _ _ _ _ _ _ _ g;refine(SF H a o m).mono λe n r=>?_;rcases p with rfl|rfl
 .grind [ABZ]
 .have⟨i,h3⟩:=a.ids rfl rfl rfl rfl v rfl;grind [uF]
theorem sU{h:S}{a:u}(e:a∈h.map (·.1)):∃o,h.get a=J o:=by
 induction h with
 |nil=>cases e
 |cons g h i=>
  obtain⟨c,f⟩:=g;rw[S.get_cons];by_cases b:c=a
  .exact⟨f,D3 b⟩
  grind
theorem Ye{h:S}{a:u}{o:Obj}(b:h.get a=J o):a∈h.map (·.1):=by induction h with|nil=>cases b|cons e h c=>grind [S.get_cons]
theorem ZS{h r:S}(b:∀a,h.get a=h2.get a)(a:u):r.get a=nl (J (jn h r)) r.get h2.get a:=by grind [nl,zK]
def gK(new b:G)(a:u):nl (J []) new b a=b a:=by simp[nl]
theorem aW{K:Af}(m:Dz P W K){n:Fr}{i:KH}{as:List y}{t:Option M5}{a l:St}{H:Mode}{p:Fp}(w:LW W a.heap)(e:Er K n b i as t a H=.ok l p){h2:S}(k:vT p a.heap.get h2.get):
 ∃v r,l.env=Dj a.env t v/\l.base=a.base/\l.defs=a.defs/\(∀g,r.get g=nl p.wr l.heap.get h2.get g)/\Nn P i/\∀env f,Oy P n.ci b nt i as env f h2 r (.ret v):=by
 have raw:∀{E:E (BC×S)} {q:List y} {A:S},FW b t a E=.ok l p->E=K (.fn i) q A b X n.ci->
  (∀{c:BC} {j:S},K (.fn i) q A b X n.ci=.ok (c,j)->(∀g,a.heap.get g=h2.get g)->∀env f,Oy P n.ci b nt i as env f h2 (gc (YO b c) j) c)->
  ∃v r,l.env=Dj a.env t v/\l.base=a.base/\l.defs=a.defs/\(∀g,r.get g=nl p.wr l.heap.get h2.get g)/\Nn P i/\∀env f,Oy P n.ci b nt i as env f h2 r (.ret v):=by
  intro E q A e L O;subst L;unfold FW at e;split at e
  .rename_i v j h;simp at e;obtain⟨rfl,rfl⟩:=e;exact⟨v,gc (S7 b v) j,rfl,rfl,rfl,ZS k,(m _ _ _ _ _ _ _ h).ent i rfl,O h k⟩
  .simp at e
  .cases e
 unfold Er at e;split at e
 .exact raw e rfl λh k env f=>wb m w h k
 .rename_i H V;split at e
  .rename_i q C;simp at e;unfold E4 at e;split at e
   .rename_i v j h;have x:=(m _ _ _ _ _ _ _ h).ent i rfl;simp at e;split at e
    .rename_i M;simp at e;obtain⟨rfl,rfl⟩:=e;have s:Fa h2.get as=J q:=by rw[<-N9 k];exact C
     exact⟨v,h2,rfl,rfl,rfl,λg=>(gK _ _ g).symm,x,λenv f=>wa m h (λR Q=>by grind) s⟩
    .unfold K8 at e;split at e
     .rename_i o N;simp at e;obtain⟨rfl,rfl⟩:=e;have s:Fa h2.get as=J q:=by rw[<-N9 k];exact C
      refine⟨v,o::h2,rfl,rfl,rfl,λg=>?_,x,λenv f=>AMH m (by split<;>simp) h N s⟩;grind [nl,S.get_cons]
     .simp only[Cn]at e;split at e
      .rename_i B;simp at e;obtain⟨rfl,rfl⟩:=e;have s:Fa h2.get as=J q:=by rw[<-N9 k];exact C
       have F:=mr (vs:=as) k;refine⟨v,j++h2.puts (as.flatMap (mark h2.get)),rfl,rfl,rfl,λg=>?_,x,λenv f=>AI8 m (by split<;>simp) h (by rw[<-F];exact B) s⟩;rw[<-F];simp only[nl,Ac];rw[S.get_append,S.get_append];by_cases D:g∈(as.flatMap (mark a.heap.get)).map (·.1)
       .grind [oc]
       .rw[P8 D,P8 D];by_cases T:g∈j.map (·.1)
        .grind [sU]
        .rw[Co zCN];have:j.get g=none:=by
          rcases hg:j.get g with _|o
          .rfl
          .grind [Ye]
         rw[this];rfl
      .cases e
   .split at e<;>cases e
   .cases e
  .unfold Gk at e;simp at e;split at e
   .unfold Tk at e;split at e
    .rename_i v j h;split at e
     .rename_i M;simp at e;obtain⟨rfl,rfl⟩:=e;exact⟨v,h2,rfl,rfl,rfl,λg=>(gK _ _ g).symm,(m _ _ _ _ _ _ _ h).ent i rfl,λenv f=>vc m w h (λR Q=>by grind) k⟩
     .cases e
    .split at e<;>cases e
    .cases e
   .split at e
    .rename_i B;exact raw e rfl λh k env f=>zz m B w h k
    .cases e
theorem XW{K:Af}(l:Dz P W K){m:Fr}{h:KH}{as:List y}{t:Option M5}{a i:St}{w:Mode}{v:y}(r:LW W a.heap)(e:Er K m b h as t a w=.of v i){h2:S}(k:∀id,a.heap.get id=h2.get id):
 ∃n,i.env=a.env/\i.base=a.base/\i.defs=a.defs/\(∀id,n.get id=i.heap.get id)/\Nn P h/\∀env f,Oy P m.ci b nt h as env f h2 n (.of v):=by
 have raw:∀{E:E (BC×S)} {q:List y} {s:S},FW b t a E=.of v i->E=K (.fn h) q s b X m.ci->
  (∀{c:BC} {j:S},K (.fn h) q s b X m.ci=.ok (c,j)->(∀id,a.heap.get id=h2.get id)->∀env f,Oy P m.ci b nt h as env f h2 (gc (YO b c) j) c)->
  ∃n,i.env=a.env/\i.base=a.base/\i.defs=a.defs/\(∀id,n.get id=i.heap.get id)/\Nn P h/\∀env f,Oy P m.ci b nt h as env f h2 n (.of v):=by
  intro E q s e x C;subst x;unfold FW at e;split at e
  .simp at e
  .rename_i p j g;simp at e;obtain⟨rfl,rfl⟩:=e;exact⟨gc b j,rfl,rfl,rfl,λid=>rfl,(l _ _ _ _ _ _ _ g).ent h rfl,C g k⟩
  .cases e
 unfold Er at e;split at e
 .exact raw e rfl λg k env f=>wb l r g k
 .rename_i w N;split at e
  .rename_i q H;simp at e;unfold E4 at e;split at e
   .simp at e;split at e
    .cases e
    .unfold K8 at e;split at e
     .simp at e
     .simp only[Cn]at e;split at e
      .simp at e
      .cases e
   .rename_i p j g;split at e
    .rename_i A;simp at e;obtain⟨rfl,rfl⟩:=e;have L:Fa h2.get as=J q:=by rw[<-N9 (λid _=>k id)];exact H
     exact⟨h2,rfl,rfl,rfl,λid=>(k id).symm,(l _ _ _ _ _ _ _ g).ent h rfl,λenv f=>wa l g (λM D=>by grind) L⟩
    .cases e
   .cases e
  .unfold Gk at e;simp at e;split at e
   .unfold Tk at e;split at e
    .split at e
     .simp at e
     .cases e
    .rename_i p j g;split at e
     .rename_i A;simp at e;obtain⟨rfl,rfl⟩:=e;exact⟨h2,rfl,rfl,rfl,λid=>(k id).symm,(l _ _ _ _ _ _ _ g).ent h rfl,λenv f=>vc l r g (λM D=>by grind) λid o B=>by rw[<-k id];exact B⟩
     .cases e
    .cases e
   .split at e
    .rename_i F;exact raw e rfl λg k env f=>zz l F r g k
    .cases e
variable{A:Nat->Prop}{P:JH}{l:List H5}{n c f:BB}{w t k:G5}{M:Nat->Prop}{h m B:S}{C r:u}{ci:Option u}{nt:NT}{env:Nat->y}{D F:List Df}{b:OA}{ro:Option Nat}{W:Lp->Prop}
def HQ.append{h:List y}{b e:Array Hk}(i:HQ n w M q b)(h2:HQ n w M h e):HQ n w M (q++h) (b++e):=by
 refine⟨by rw[D1,Array.size_append,i.1,h2.1],λg x v c a=>?_⟩;by_cases f:g<U q
 .rw[D8 f]at c;rw[Lm (by rw[<-i.1];exact f)]at a;exact i.2 g x v c a
 .rw[EL z]at c;rw[Array.getElem?_append_right (by rw[<-i.1];omega),<-i.1]at a;exact h2.2 _ x v c a
theorem HQ.args{e:Nat->y}(f:MI n w M e λc=>b.tmps.getD c Go.undef)(a:Array Operand):HQ n w M (a.toList.map (ev e)) (a.map b.eval):=by refine⟨AG,λi x v h g=>?_⟩;grind [Ki]
variable{c:Call}{x:Operand}
theorem jF(a:o.op=.call c)(j:c.callee=.value x){g:KH}{first cap:Array Hk}(f:b.eval x=.func (.func g) first cap)(e:Nn P g):
 (o.semAt ro b.eval).run P w=.ok (.enter g (first++c.args.map b.eval++cap)) w:=by
 rw[Oper.semAt_eq _ _ _ (by simp[a])];grind [execOp,resolve,Deferred.ofValue,invoke,NF]
def dT(f:o.op=.call c)(j:c.callee=.value x){e:Nat}{a:Loop}(k:b.eval x=.func (.yield e) #[] #[])(h:w.heap[e]?=J (.loop a))(i:a.params.size=c.args.size):
 (o.semAt ro b.eval).run P w=.ok (.round e a.fn (Jq a (c.args.map b.eval)) a.assign a.body) w:=by
 rw[Oper.semAt_eq _ _ _ zDG];have g:(getObj e).run P w=.ok (.loop a) w:=Jk h AG;simp[execOp,f,resolve,j,k,Deferred.ofValue,invoke,Instr.yield,Instr.getLoop,g,i,Jq]
structure PC(P:JH)(mix:List H5)(C:C7):Prop:=
 T:C.T=Cd P mix
 meth:∀t m f,C.meth t m=J f->∀(v:Hk) (w:G5),(method (P.types.size+Made.depth) t v m).run P w=.ok (f,v) w
variable{C:C7}{m:Fr}{f:St}{k:Fp}{env2:Nat->y}
theorem oQ(j:PC P l C)(e:EA m o.op o.dst a (evalOp C.T a.env.get a.heap.get r o.op)=.ok f k)(x:∀c,o.op≠ .defer c)
   (q:M0 a.env.get env2 o.op) (p:vT k a.heap.get h2.get) (t:∀d,o.dst=J d->d<nt.n):
 ∃v i,f.env=Dj a.env o.dst v/\f.base=a.base/\(∀g,i.get g=nl k.wr f.heap.get h2.get g)/\SZ P ro m.ci r nt o env2 a.defs h2 v f.defs i:=by
 rw[j.T]at e;rcases hev:evalOp (Cd P l) a.env.get a.heap.get r o.op with _|h
 .rw[hev]at e;cases e
 .rw[hev]at e;simp only[EA,Mo,Cn]at e;split at e
  .rename_i F;simp at e;obtain⟨rfl,rfl⟩:=e;have s:=eW (P:=P) (mix:=l) (n:=r) q p;rw[hev]at s;refine⟨h.v,h2.puts h.δ,rfl,rfl,λg=>?_,?_⟩
   .grind [nl,oc,P8]
   .intro A n w b H B K next Q D
    grind [AGd]
  .cases e
def zL(ac:Dz P W K)(ar:o.op=.call c)(j:c.callee=.value x)(N:LW W a.heap) (i:FV C K m r (ev a.env.get x) (c.args.toList.map (ev a.env.get)) o.dst a=.ok f k)
   (D:M0 a.env.get env2 o.op) (O:vT k a.heap.get h2.get) (ad:∀d,o.dst=J d->d<nt.n):
 ∃v B,f.env=Dj a.env o.dst v/\f.base=a.base/\(∀p,B.get p=nl k.wr f.heap.get h2.get p)/\SZ P ro m.ci r nt o env2 a.defs h2 v f.defs B:=by
 have a6:=D x zCQ;have a1:c.args.toList.map (ev a.env.get)=c.args.toList.map (ev env2):=Gn λbk bo=>D bk zCQ;rw[a1,a6]at i;unfold FV at i;split at i
 ·
  rename_i p a4;unfold MO at i;split at i
  .rename_i bs V;unfold FW at i;split at i
   .rename_i v a2 az;simp at i;obtain⟨rfl,rfl⟩:=i;refine⟨v,gc (S7 r v) a2,rfl,rfl,ZS O,?_⟩;intro A n w b H F s next Q L
    have R:∀p,a.heap.get p=h2.get p:=O;have M:=H.congr λp=>(R p).symm;have a0:=MS.congr (A:=A) (β:=n) R;have q:=Ki s.env x;rw[a4]at q;generalize T:b.eval x=ax at q;cases q with
    |yld _ a' ag=>
     have⟨k',ai,l,q1,q2,q3,q4,q5,q6,q7,q9,q8⟩:=M.obj p _ V;rw[ag]at ai;cases ai;have aa:=HQ.args s.env c.args;have⟨hlen,Y⟩:=(ac _ _ _ _ _ _ _ az).rw rfl (λ_ _ h=>by cases h;exact N _ _ V) N A n w (c.args.map b.eval) M F (by rw[a0];exact aa);have Y:=Y a' l V ag q1;have av:CP A m.ci r n w h2 n w a.heap:=(CP.refl M).congr R;have a5:l.params.size=c.args.size:=by rw[<-q5]at hlen;simpa using hlen
     exact ABq (dT ar j T q1 a5) ad (RoundIn.mono Y λe t D=>Wy av F s D) L
   .simp at i
   .cases i
  .cases i
 .rename_i g first cap a3
  simp only[CC]at i;have⟨v,B,e1,e2,e3,e4,e5,e6⟩:=aW (nt:=nt) ac N i O;refine⟨v,B,e1,e2,e4,?_⟩;intro A n w b H F s next Q L
  have q:=Ki s.env x;rw[a3]at q;generalize T:b.eval x=ax at q;cases q with
  |fn _ _ _ bn bl bc be bh bi=>
   have aa:=(HQ.append (HQ.append ⟨bc,bh⟩ (HQ.args s.env c.args)) ⟨be,bi⟩)
   rw[e3]at L;exact bB (jF ar j T e5) ad (e6 env2 a.defs A n w b _ H F s aa) L
 .cases i
theorem rY(aa:Dz P W K)(ag:o.op=.call c)(j:c.callee=.value x)(N:LW W a.heap) (i:FV C K m r (ev a.env.get x) (c.args.toList.map (ev a.env.get)) o.dst a=.of v f)
   (F:M0 a.env.get env2 o.op) (D:∀k,a.heap.get k=h2.get k):
 ∃B,f.env=a.env/\f.base=a.base/\f.defs=a.defs/\(∀k,B.get k=f.heap.get k)/\dg P ro m.ci r nt o env2 a.defs h2 v B:=by
 have a4:=F x zCQ;have az:c.args.toList.map (ev a.env.get)=c.args.toList.map (ev env2):=Gn λbh bl=>F bh zCQ;rw[az,a4]at i;unfold FV at i;split at i
 .rename_i k a2;unfold MO at i;split at i
  .rename_i bn R;unfold FW at i;split at i
   .simp at i
   .rename_i p a0 ar;simp at i;obtain⟨rfl,rfl⟩:=i;refine⟨gc r a0,rfl,rfl,rfl,λk=>rfl,?_⟩;intro A n w b H L s next Q T
    have M:=H.congr λk=>(D k).symm;have av:=MS.congr (A:=A) (β:=n) D;have q:=Ki s.env x;rw[a2]at q;generalize O:b.eval x=ax at q;cases q with
    |yld _ a5 ac=>
     have⟨k',ad,l,q1,q2,q3,q4,q5,q6,q7,q9,q8⟩:=M.obj k _ R;rw[ac]at ad;cases ad;have Y:=HQ.args s.env c.args;have⟨hlen,V⟩:=(aa _ _ _ _ _ _ _ ar).rw rfl (λ_ _ h=>by cases h;exact N _ _ R) N A n w (c.args.map b.eval) M L (by rw[av];exact Y);have V:=V a5 l R ac q1;have ai:CP A m.ci r n w h2 n w a.heap:=(CP.refl M).congr D;have a3:l.params.size=c.args.size:=by rw[<-q5]at hlen;simpa using hlen
     exact ABp (dT ag j O q1 a3) (RoundIn.mono V λe t F=>Wy ai L s F) T
   .cases i
  .cases i
 .rename_i g first cap a1
  simp only[CC]at i;have⟨B,e1,e2,e3,e4,e5,e6⟩:=XW (nt:=nt) aa N i D;refine⟨B,e1,e2,e3,e4,?_⟩;intro A n w b H L s next Q T
  have q:=Ki s.env x;rw[a1]at q;generalize O:b.eval x=ax at q;cases q with
  |fn _ _ _ bk bi a6 a' bc be=>
   have Y:=(HQ.append (HQ.append ⟨a6,bc⟩ (HQ.args s.env c.args)) ⟨a',be⟩)
   exact a9 (jF ag j O e5) (e6 env2 a.defs A n w b _ H L s Y) T
 .cases i
def YK{h:String}(f:o.op=.call c)(j:c.callee=.invoke x h){g:KH}{a:H5}{v:Hk}(m:b.eval x=.iface a v)(l:(method (P.types.size+Made.depth) a v h).run P w=.ok (g,v) w) (k:Nn P g):
 (o.semAt ro b.eval).run P w=.ok (.enter g (#[v]++c.args.map b.eval)) w:=by
 rw[Oper.semAt_eq _ _ _ zDG];have e:(#[Value.iface a v]++c.args.map b.eval).extract 1 (#[Value.iface a v]++c.args.map b.eval).size=c.args.map b.eval:=by apply Array.ext';simp only[Array.toList_extract,Array.size_append];simp;rw[Bi AG]
 have i:(#[Value.iface a v]++c.args.map b.eval)[0]?=J (.iface a v):=by rw[Lm AG];rfl
 unfold execOp;simp[f,resolve,j,m];unfold invoke;simp only[e,i];simp[callMethod,l,NF k]
theorem jq(N:PC P l C)(R:Dz P W K){q:String}(ag:o.op=.call c)(j:c.callee=.invoke x q)(O:LW W a.heap) (e:HT C K m r (ev a.env.get x) q (c.args.toList.map (ev a.env.get)) o.dst a=.ok f k)
   (t:M0 a.env.get env2 o.op) (T:vT k a.heap.get h2.get) (aa:∀d,o.dst=J d->d<nt.n):
 ∃v h,f.env=Dj a.env o.dst v/\f.base=a.base/\(∀L,h.get L=nl k.wr f.heap.get h2.get L)/\SZ P ro m.ci r nt o env2 a.defs h2 v f.defs h:=by
 have av:=t x zCQ;have V:c.args.toList.map (ev a.env.get)=c.args.toList.map (ev env2):=Gn λM D=>t M zCQ;rw[V,av]at e;unfold HT at e;split at e
 .rename_i a0 az ai;split at e
  .rename_i g ad;unfold FV at e;simp only[CC]at e;have⟨v,h,e1,e2,e3,e4,e5,e6⟩:=aW (nt:=nt) R O e T;refine⟨v,h,e1,e2,e4,?_⟩;intro A n w b H ac s next Q B
   have i:=Ki s.env x;rw[ai]at i;generalize Y:b.eval x=ax at i;cases i with
   |iface _ _ p a1=>
    have ar:HQ n w (MS A n h2) ([az]++c.args.toList.map (ev env2)++[]) (#[p]++c.args.map b.eval):=by
     rw[CS];refine HQ.append ⟨rfl,λF M a3 D a2=>?_⟩ (HQ.args s.env c.args);rcases F with _|F
     .grind
     .simp at D
    rw[e3]at B;exact bB (YK ag j Y (N.meth a0 q g ad p w) e5) aa (e6 env2 a.defs A n w b _ H ac s ar) B
  .cases e
 .cases e
theorem eO(L:PC P l C)(N:Dz P W K){q:String}(ac:o.op=.call c)(j:c.callee=.invoke x q)(M:LW W a.heap) (e:HT C K m r (ev a.env.get x) q (c.args.toList.map (ev a.env.get)) o.dst a=.of v f)
   (t:M0 a.env.get env2 o.op) (O:∀h,a.heap.get h=h2.get h):
 ∃i,f.env=a.env/\f.base=a.base/\f.defs=a.defs/\(∀h,i.get h=f.heap.get h)/\dg P ro m.ci r nt o env2 a.defs h2 v i:=by
 have ai:=t x zCQ;have R:c.args.toList.map (ev a.env.get)=c.args.toList.map (ev env2):=Gn λF B=>t F zCQ;rw[R,ai]at e;unfold HT at e;split at e
 .rename_i av ar ad;split at e
  .rename_i g Y;unfold FV at e;simp only[CC]at e;have⟨i,e1,e2,e3,e4,e5,e6⟩:=XW (nt:=nt) N M e O;refine⟨i,e1,e2,e3,e4,?_⟩;intro A n w b H V s next Q aa
   have k:=Ki s.env x;rw[ad]at k;generalize T:b.eval x=ax at k;cases k with
   |iface _ _ p az=>
    have ag:HQ n w (MS A n h2) ([ar]++c.args.toList.map (ev env2)++[]) (#[p]++c.args.map b.eval):=by
     rw[CS];refine HQ.append ⟨rfl,λD F a1 B a0=>?_⟩ (HQ.args s.env c.args);rcases D with _|D
     .grind
     .simp at B
    exact a9 (YK ac j T (L.meth av q g Y p w) e5) (e6 env2 a.defs A n w b _ H V s ag) aa
  .cases e
 .cases e
theorem rZ{C:C7}{K:Af}{m:Fr}(V:m.rnd=Z->ro=I){o:H0}{c:Call}(R:o.op=.defer c){a f:St}{k:Fp}(e:Jz m a.env.get c o.dst a=.ok f k){env2:Nat->y} {h2:S} (s:M0 a.env.get env2 o.op) (t:vT k a.heap.get h2.get) (L:∀d,o.dst=J d->d<nt.n):
 ∃v q,f.env=Dj a.env o.dst v/\f.base=a.base/\(∀l,q.get l=nl k.wr f.heap.get h2.get l)/\SZ P ro m.ci r nt o env2 a.defs h2 v f.defs q:=by
 unfold Jz at e;split at e
 .rename_i x j;have aa:=s x zCQ;have B:c.args.toList.map (ev a.env.get)=c.args.toList.map (ev env2):=Gn λai a0=>s ai zCQ;split at e
  .rename_i g N T;simp at e;obtain⟨rfl,rfl⟩:=e;refine⟨.undef,h2,rfl,rfl,λl=>(t l).symm,?_⟩;intro A n w b H az i next Q O
   have W:=V T;subst W;have p:=Ki i.env x;rw[<-aa,N]at p;generalize D:b.eval x=ax at p;cases p with
   |fn _ _ _ av ar ac ad a1 a2=>
    have M:=Jp ac.symm;have F:=Jp ad.symm;subst M F;refine⟨λ_ _=>trivial,?_⟩;have Y:(o.semAt (FF I).round b.eval).run P w=.ok (.defer {target:=.fn (.func g) #[],args:=c.args.map b.eval}) w:=by show(execOp b.eval o).run P w=_;simp[execOp,R,resolve,j,D,Deferred.ofValue]
    rw[Y,Oper.uponIn_defer];refine O _ _ ⟨n,CP.refl H,?_⟩;have ag:O0 A n w nt env2 (.call g (c.args.toList.map (ev a.env.get))::a.defs) h2 {b with defers:={target:=.fn (.func g) #[],args:=c.args.map b.eval}::b.defers}:=⟨i.sz,i.env,⟨.call _ _ _ (by rw[B];exact HQ.args i.env c.args),i.defs,λ_ _ _ h=>by cases h⟩⟩
    exact ag.put L (.undef _)
  .cases e
 .cases e
def rb(g:o.op=.panic x)(c:Hg a (ev a.env.get x)=.of v f)
   (q:M0 a.env.get env2 o.op) (k:∀e,a.heap.get e=h2.get e):
 ∃i,f.env=a.env/\f.base=a.base/\f.defs=a.defs/\(∀e,i.get e=f.heap.get e)/\dg P ro m.ci r nt o env2 a.defs h2 v i:=by
 have D:=q x (by rw[g];simp[Op.operands]);unfold Hg at c;split at c
 .split at c
  .rename_i F p C;simp at c;obtain⟨rfl,rfl⟩:=c;refine⟨h2,rfl,rfl,rfl,λe=>(k e).symm,?_⟩;intro A n w b H L j next Q s
   have h:=Ki j.env x;rw[<-D,C]at h;generalize l:b.eval x=ax at h;cases h with
   |iface _ _ K B=>
    refine⟨λ_ _=>trivial,?_⟩;have t:(o.semAt (FF ro).round b.eval).run P w=.halt (.panic (.iface F K)) w:=by rw[Oper.semAt_eq _ _ _ zDF];simp[execOp,g,l,Instr.panic,goPanic]
    rw[t];exact s b w _ ⟨n,CP.refl H,j,.iface _ _ _ B⟩
  .cases c
 .cases c
theorem AIm(q:PC P l C)(w:Dz P W K)(D:m.rnd=Z->ro=I)(t:LW W a.heap)(b:JX C K m r o.op o.dst a=.ok f k)
   (p:M0 a.env.get env2 o.op) (h:vT k a.heap.get h2.get) (n:∀d,o.dst=J d->d<nt.n):
 ∃v s,f.env=Dj a.env o.dst v/\f.base=a.base/\(∀A,s.get A=nl k.wr f.heap.get h2.get A)/\SZ P ro m.ci r nt o env2 a.defs h2 v f.defs s:=by
 unfold JX at b;split at b
 .rename_i c g;split at b
  .rename_i x j;exact zL (C:=C) w g j t b p h n
  .rename_i x H j;exact jq q w g j t b p h n
  .rename_i F j;have e:OZ C.T a.env.get a.heap.get r c=evalOp C.T a.env.get a.heap.get r o.op:=by rw[g];rfl
   rw[e]at b;exact oQ q b zDF p h n
 .rename_i x g;unfold Hg at b;grind
 .rename_i c g;exact rZ (C:=C) (K:=K) D g b p h n
 .rename_i i h2 B;exact oQ q b (λc j=>B c j) p h n
theorem AD9(q:PC P l C)(p:Dz P W K)(n:LW W a.heap)(b:JX C K m r o.op o.dst a=.of v f)
   (i:M0 a.env.get env2 o.op) (h:∀e,a.heap.get e=h2.get e):
 ∃k,f.env=a.env/\f.base=a.base/\f.defs=a.defs/\(∀e,k.get e=f.heap.get e)/\dg P ro m.ci r nt o env2 a.defs h2 v k:=by
 have s:∀{x:Option C3},EA m o.op o.dst a x=.of v f->False:=by intro x b;exact zBv
 unfold JX at b;split at b
 .rename_i c g;split at b
  .rename_i x j;exact rY (C:=C) p g j n b i h
  .rename_i x t j;exact eO q p g j n b i h
  grind
 .rename_i x g;exact rb g b i h
 .grind [Jz]
 .exact(s b).elim
variable{P:JH}{l:List H5}{t:u}{W:Lp->Prop}
theorem Tz{b:Option (List u)}{a:u}:nl b g g a=g a:=by
 rcases b with _|c
 .rfl
 .simp[nl]
theorem AHY{h:S}{a:u}:nl (J (s.map (·.1))) (h.puts s).get h.get a=(h.puts s).get a:=by grind [nl,P8]
def hJ(a f:St)(k:Fp):Prop:=f.defs=a.defs/\∀b,nl k.wr f.heap.get a.heap.get b=f.heap.get b
variable{r:Option M5}
theorem QC{E:E (BC×S)}(b:FW t r a E=.ok f k):hJ a f k:=by
 unfold FW at b;split at b
 .simp only[CQ,Bu,RE.ok.injEq]at b;obtain⟨rfl,rfl⟩:=b;exact⟨rfl,λc=>(ZS (λ_=>rfl) c).symm⟩
 .simp at b
 .cases b
theorem jD{g:KH}{h:Mode}(b:Er K m t g as r a h=.ok f k):hJ a f k:=by
 unfold Er at b;split at b
 .exact QC b
 .split at b
  .rename_i q n;simp only[CC]at b;unfold E4 at b;split at b
   .rename_i v j i;simp only[CQ]at b;split at b
    .simp only[RE.ok.injEq]at b;obtain⟨rfl,rfl⟩:=b;exact⟨rfl,λ_=>Tz⟩
    .unfold K8 at b;split at b
     .rename_i o l;simp only[Bu,RE.ok.injEq]at b;obtain⟨rfl,rfl⟩:=b;refine⟨rfl,λe=>?_⟩;grind [nl,S.get_cons]
     .simp only[Cn]at b;split at b
      .simp only[Bu,RE.ok.injEq]at b;obtain⟨rfl,rfl⟩:=b;refine⟨rfl,λe=>?_⟩;simp only[nl];split
       .rfl
       .rename_i c;simp only[Ac,not_or]at c;rw[S.get_append,P8 c.1];rcases hg:j.get e with _|o
        .rfl
        .grind [Ye]
      .cases b
   .split at b<;>cases b
   .cases b
  .unfold Gk at b;simp only[CC,Cn,Bu]at b;split at b
   .unfold Tk at b;split at b
    .split at b
     .simp only[CQ,RE.ok.injEq]at b;obtain⟨rfl,rfl⟩:=b;exact⟨rfl,λ_=>Tz⟩
     .cases b
    .split at b<;>cases b
    .cases b
   grind [QC]
theorem Vb{b:y}{args:List y}(c:FV C K m t b args r a=.ok f k):hJ a f k:=by unfold FV at c;grind [MO,QC,CC,jD]
variable{op:Op}
theorem Sr{x:Option C3}(b:EA m op r a x=.ok f k):hJ a f k:=by
 unfold EA at b;split at b
 .simp only[Mo,Cn]at b;split at b
  .simp only[CQ,Sz,RE.ok.injEq]at b;obtain⟨rfl,rfl⟩:=b;exact⟨rfl,λ_=>AHY⟩
  .cases b
 .cases b
theorem AEA(b:JX C K m t op r a=.ok f k):(∀e,nl k.wr f.heap.get a.heap.get e=f.heap.get e)/\((∀c,op≠ .defer c)->f.defs=a.defs):=by
 have g:hJ a f k->(∀e,nl k.wr f.heap.get a.heap.get e=f.heap.get e)/\((∀c,op≠ .defer c)->f.defs=a.defs):=λc=>⟨c.2,λ_=>c.1⟩;unfold JX at b;split at b
 .split at b
  .exact g (Vb b)
  .unfold HT at b;grind [Vb]
  grind [Sr]
 .unfold Hg at b;grind
 .grind [Jz,Tz]
 grind [Sr]
theorem SL{e:Array H0}(g:DP C K m e t o a=.ok f k):
 (∀b,nl k.wr f.heap.get a.heap.get b=f.heap.get b)/\((∀c,o.op≠ .defer c)->f.defs=a.defs):=by grind [DP,CQ,Tz,AEA]
def B5:Op->Bool
 |.move _|.assign _|.pick ..|.alloc _|.box ..|.build ..|.nilCheck _|.binOp ..|.unOp ..|.makeInterface ..|.typeAssert ..|.makeFunc ..|.makeMap ..|.makeSlice ..|.fieldAddr ..|.field ..|.index ..|.extract ..=>X|.call c=>match c.callee with|.builtin .max=>X|.builtin .min=>X|_=>Z
 |_=>Z
def gj:Op->Bool
 |.move _|.assign _|.pick ..|.build ..|.load ..|.nilCheck _|.binOp ..|.unOp ..|.makeInterface ..|.typeAssert ..|.makeFunc ..|.lookup ..|.slice ..|.fieldAddr ..|.field ..|.indexAddr ..|.index ..|.extract ..=>X|.call c=>match c.callee with|.builtin .max=>X|.builtin .min=>X|.builtin .len=>X|_=>Z
 |_=>Z
def AGo{e:Nat->y}(h:B5 op=X):Zw e g op=[]:=by
 cases op<;>first|rfl|(simp[B5]at h;done)|skip
 rename_i c;obtain⟨callee,args,b⟩:=c;cases callee with
 |builtin a=>cases a<;>first|rfl|simp[B5]at h
 |_=>simp[B5]at h
variable{s:Type}{l:C3}
theorem map_nil{f:s->y}{x:Option s}(h:x.map (λB0=>(⟨f B0,[]⟩:C3))=J l):l.δ=[]:=by grind [Option.map_eq_some_iff]
variable{T:H5->Option TI}{n:u}
theorem qF{e:Nat->y}(h:gj op=X)(a:evalOp T e g n op=J l):l.δ=[]:=by
 cases op<;>first|(simp[gj]at h;done)|skip
 all_goals simp only[evalOp]at a
 case move=>cases a;rfl
 case assign=>cases a;rfl
 case pick=>unfold Ys at a;split at a<;>cases a;rfl
 case build=>unfold Qy at a;split at a
             .split at a
              .cases a
              .exact map_nil a
             .cases a
 case load=>unfold P7 at a;split at a
            .exact map_nil a
            .cases a
 case nilCheck=>unfold L3 at a;split at a<;>cases a<;>rfl
 case binOp=>exact map_nil a
 case unOp=>
  unfold hD at a;split at a
  .unfold xO at a;split at a<;>cases a;rfl
  .cases a
 case makeInterface=>
  unfold Q0 at a;split at a
  .split at a<;>cases a;rfl
  .cases a
 case makeFunc=>unfold L1 at a;split at a<;>cases a;rfl
 case slice=>
  unfold K6 at a;split at a
  .split at a
   .exact map_nil a
   .exact map_nil a
   .cases a
  .cases a
 case fieldAddr=>
  unfold IE at a;split at a
  .split at a
   .split at a
    .cases a
    .split at a
     .cases a;rfl
     .cases a;rfl
     .split at a<;>cases a;rfl
     .cases a
   .cases a
  .cases a
 case field=>
  unfold Qz at a;split at a
  .split at a
   .exact map_nil a
   .cases a
  .cases a
 case indexAddr=>
  unfold FL at a;split at a
  .split at a
   .unfold RV at a;split at a
    .split at a
     .exact zBY
     .split at a
      .split at a<;>first|(split at a<;>cases a;rfl)|cases a
      .cases a
     .cases a
    .cases a
   .unfold v8 at a;exact zBY
   .cases a
  .cases a
 case index=>
  unfold Q1 at a;split at a
  .split at a
   .exact map_nil a
   .cases a
  .cases a
 case lookup=>
  unfold HX at a;split at a
  .split at a
   .split at a
    .split at a
     .unfold Lu at a;split at a<;>cases a<;>rfl
     .cases a
    .cases a
   .cases a
  .cases a
 case typeAssert x xt t ok=>
  rcases ok with _|_
  .cases a
  .simp only at a;unfold Lz at a;split at a
   .split at a
    .cases a
    .split at a
     .cases a;rfl
     .exact map_nil a
   .cases a
 case extract=>
  unfold NY at a;split at a
  .exact map_nil a
  .cases a
 case call c=>
  obtain⟨callee,args,f⟩:=c;cases callee with
  |builtin b=>
   simp only[OZ]at a;unfold LN at a;cases b<;>first|(simp[gj]at h;done)|skip
   .simp only at a;split at a
    .split at a
     .split at a
      .exact map_nil a
      .cases a
     .cases a
    .cases a
   .simp only at a;split at a
    .unfold ny at a;exact zBY
    .cases a
   .simp only at a;split at a
    .unfold nz at a;exact zBY
    .cases a
  |_=>simp[gj]at h
theorem re{x:Option C3}(b:EA m op r a x=.ok f k):∃l,x=J l/\k=⟨J (Zw a.env.get a.heap.get op),J (l.δ.map (·.1)),Z⟩:=by unfold EA at b;grind [Mo,Cn,CQ,Sz]
theorem AB9{g:Array H0}(b:DP C K m g t o a=.ok f k):
 (B5 o.op=X->k.rd=J [])/\(gj o.op=X->k.wr=J []):=by
 unfold DP at b;split at b
 .cases b
 .grind [CQ]
 .have plain:∀{x:Option C3},EA m o.op o.dst a x=.ok f k->x=evalOp C.T a.env.get a.heap.get t o.op->(B5 o.op=X->k.rd=J [])/\(gj o.op=X->k.wr=J []):=by intro x b i;obtain⟨l,rfl,rfl⟩:=re b;exact⟨λh=>by simp only[AGo h],λh=>by grind [qF]⟩
  unfold JX at b;split at b
  .rename_i c e;split at b
   .grind [B5,gj]
   .grind [B5,gj]
   .exact plain b (by rw[e];rfl)
  .unfold Hg at b;grind
  .grind [B5,gj]
  .exact plain b rfl
variable{B:List (List y)}
theorem Bm.newArr{j:TI}(h:newArr g n j B=J l):Bm l.δ:=by
 unfold Abs.newArr at h;split at h
 .cases h
 .split at h
  .cases h;exact .one rfl
  .split at h
   .cases h;exact(Bm.markEs B).append (.one rfl)
   .cases h
theorem Bm.mapE{a:s->C3}{x:Option s}(c:∀b,Bm (a b).δ)(h:x.map a=J l):Bm l.δ:=by grind [Option.map_eq_some_iff]
variable{H N:Nat}{w:List (List y)}
theorem Bm.appIn{a:u}{b:Nat}{B:List (List Au)}(h:appIn g n a H b N B w=J l):Bm l.δ:=by
 unfold Abs.appIn at h;split at h
 .split at h
  .cases h;exact(Bm.markEs w).append (.one rfl)
  .split at h
   .cases h;exact(Bm.markEs w).append (.cons rfl (.one rfl))
   .cases h
 .cases h
theorem Bm.appMix{a:u}{b:Nat}(h:appMix n a H b N B w=J l):Bm l.δ:=by
 unfold Abs.appMix at h;split at h
 .cases h;exact .one rfl
 .split at h
  .cases h;exact .cons rfl (.one rfl)
  .cases h
variable{s:y}
theorem Bm.appTo{j:TI}(h:appTo g n j s w=J l):Bm l.δ:=by unfold Abs.appTo at h;grind [newArr,appIn,appMix]
theorem Bm.appendV{j:TI}{x:y}(h:appendV g n j s x=J l):Bm l.δ:=by unfold Abs.appendV at h;grind [nil,appTo]
def Bm.store{i:TI}{b:y}(h:Ke g i b v=J l):Bm l.δ:=by
 unfold Ke at h;split at h
 .cases h
 .split at h
  .exact zBM
  .split at h
   .split at h
    .exact .mapE (λ_=>(Bm.marks _).append (.one rfl)) h
    .cases h
   .exact zBM
   .cases h
  .cases h
def Bm.mapPut{t:Option TI}{m k:y}(h:mapPut T g t m k v=J l):Bm l.δ:=by
 unfold Abs.mapPut at h;split at h
 .cases h
 .split at h
  .split at h
   .split at h
    .cases h;exact .one rfl
    .cases h
   .cases h
  .cases h
theorem Bm.evalOp{T:H5->Option TI}{e:Nat->y}{g:G}{n:u}{op:Op}{l:C3}(h:evalOp T e g n op=J l):Bm l.δ:=by
 by_cases a:gj op=X
 .rw[qF a h];exact .nil
 cases op<;>simp only[gj,not_true_eq_false]at a<;>simp only[Abs.evalOp,reduceCtorEq]at h
 case alloc=>unfold Qx at h;split at h
             .split at h<;>cases h;exact .one rfl
             .cases h
 case box=>unfold cQ at h;split at h
           .split at h<;>cases h;exact .one rfl
           .cases h
 case buildSlice=>
  unfold Eb at h;split at h
  .split at h
   .unfold Ih at h;split at h
    .split at h
     .cases h;exact .nil
     .split at h
      .exact .newArr h
      .cases h
    .cases h
   .cases h
  .cases h
 case store=>unfold Mf at h;split at h
             .exact .store h
             .cases h
 case makeMap=>unfold LO at h;split at h<;>cases h;exact .one rfl
 case makeSlice=>
  unfold Eg at h;split at h
  .split at h
   .split at h
    .unfold GX at h;split at h
     .cases h;exact .nil
     .exact .newArr h
    .cases h
   .cases h
  .cases h
 case insert=>exact .mapPut h
 case convert=>
  unfold NX at h;split at h
  .split at h
   .cases h;exact .nil
   .cases h
  .cases h
 case mapUpdate=>exact .mapPut h
 case call c=>
  obtain⟨callee,args,f⟩:=c;unfold OZ at h;split at h
  .rename_i i b;simp only at b;subst b;unfold LN at h;split at h
   .simp[gj]at a
   .split at h
    .unfold KE at h;split at h
     .split at h
      .exact .appendV h
      .cases h
     .cases h
    .cases h
   .split at h
    .unfold Me at h;split at h
     .split at h
      .split at h
       .cases h;exact .nil
       .split at h
        .unfold Qe at h;split at h
         .split at h
          .exact zBM
          .cases h
         .cases h
        .cases h
      .cases h;exact .nil
      .cases h;exact .nil
      .cases h
     .cases h
    .cases h
   .split at h
    .unfold JK at h;split at h
     .split at h
      .split at h
       .unfold UX at h;split at h
        .exact zBM
        .cases h
       .cases h
      .split at h
       .cases h;exact .nil
       .cases h
      .cases h
     .cases h
    .cases h
   .simp[gj]at a
   .simp[gj]at a
   .cases h
  .cases h
def VA{E:E (BC×S)}(e:∀c j,E=.ok (c,j)->LW W j)(b:FW t r a E=.ok f k):LW W f.heap:=by
 unfold FW at b;split at b
 .rename_i v j;simp only[CQ,Bu,RE.ok.injEq]at b;obtain⟨rfl,rfl⟩:=b;exact(e _ _ rfl).gc
 .simp at b
 .cases b
theorem yg(l:Dz P W K){n:KH}{p:Mode}(i:LW W a.heap)(b:Er K m t n as r a p=.ok f k):LW W f.heap:=by
 unfold Er at b;split at b
 .exact VA (λc j g=>(l _ _ _ _ _ _ _ g).lw (λ_ _ h=>by cases h) i) b
 .split at b
  .rename_i q s;simp only[CC]at b;unfold E4 at b;split at b
   .rename_i v j g;simp only[CQ]at b;split at b
    .grind
    .unfold K8 at b;split at b
     .rename_i o e;simp only[Bu,RE.ok.injEq]at b;obtain⟨rfl,rfl⟩:=b;refine i.cons ?_;unfold Dc at e;split at e
      .split at e
       .split at e<;>cases e;rfl
       .cases e
      .cases e
     .simp only[Cn]at b;split at b
      .simp only[Bu,RE.ok.injEq]at b;obtain⟨rfl,rfl⟩:=b;exact((l _ _ _ _ _ _ _ g).lw (λ_ _ h=>by cases h) LW.nil).append (i.puts (Bm.markAll as))
      .cases b
   .split at b<;>cases b
   .cases b
  .unfold Gk at b;simp only[CC,Cn,Bu]at b;split at b
   .unfold Tk at b;grind [CQ]
   .split at b
    .exact VA (λc j g=>(l _ _ _ _ _ _ _ g).lw (λ_ _ h=>by cases h) (i.puts (Bm.markAll as))) b
    .cases b
theorem Xp{x:Option C3}(e:∀l,x=J l->Bm l.δ)(c:LW W a.heap)(b:EA m op r a x=.ok f k):LW W f.heap:=by
 unfold EA at b;split at b
 .simp only[Mo,Cn]at b;split at b
  .simp only[CQ,Sz,RE.ok.injEq]at b;obtain⟨rfl,rfl⟩:=b;exact c.puts (e _ rfl)
  .cases b
 .cases b
theorem dC(n:Dz P W K){s:Array H0}(e:LW W a.heap)(b:DP C K m s t o a=.ok f k):LW W f.heap:=by
 have call:∀{g:y} {args:List y} {r:Option M5},FV C K m t g args r a=.ok f k->LW W f.heap:=by
  intro g args r b;unfold FV at b;split at b
  .unfold MO at b;split at b
   .rename_i x q;exact VA (λc j i=>(n _ _ _ _ _ _ _ i).lw (λ_ _ h=>by cases h;exact e _ _ q) e) b
   .cases b
  .grind [CC,yg]
  .cases b
 unfold DP at b;split at b
 .cases b
 .grind [CQ]
 .unfold JX at b;split at b
  .split at b
   .exact call b
   .unfold HT at b;grind
   .rename_i c v w;refine Xp (λl p=>?_) e b;exact Bm.evalOp (op:=.call _) p
  .unfold Hg at b;grind
  .grind [Jz]
  grind [Xp,Bm.evalOp]
theorem Zz(i:Dz P W K){p:Array H0}(g:LW W a.heap)(b:DP C K m p t o a=.of v f):LW W f.heap:=by
 have raw:∀{E:E (BC×S)} {r:Option M5},(∀c j,E=.ok (c,j)->LW W j)->FW t r a E=.of v f->LW W f.heap:=by
  intro E r l b;unfold FW at b;split at b
  .simp at b
  .rename_i v j;simp only[Bu,RE.of.injEq]at b;obtain⟨rfl,rfl⟩:=b;exact(l _ _ rfl).gc
  .cases b
 have plain:∀{op:Op} {r:Option M5} {x:Option C3},EA m op r a x=.of v f->False:=by intro op r x b;exact zBv
 have call:∀{k:y} {args:List y} {r:Option M5},FV C K m t k args r a=.of v f->LW W f.heap:=by
  intro k args r b;unfold FV at b;split at b
  .unfold MO at b;split at b
   .rename_i w n;exact raw (λc j e=>(i _ _ _ _ _ _ _ e).lw (λ_ _ h=>by cases h;exact g _ _ n) g) b
   .cases b
  .simp only[CC]at b;unfold Er at b;split at b
   .exact raw (λc j e=>(i _ _ _ _ _ _ _ e).lw (λ_ _ h=>by cases h) g) b
   .split at b
    .rename_i q s;simp only[CC]at b;unfold E4 at b;split at b
     .simp only[CQ]at b;split at b
      .cases b
      .unfold K8 at b;split at b
       .simp at b
       .simp only[Cn]at b;split at b
        .simp at b
        .cases b
     .grind
     .cases b
    .unfold Gk at b;simp only[CC,Cn,Bu]at b;split at b
     .unfold Tk at b;split at b
      .split at b
       .simp at b
       .cases b
      .grind
      .cases b
     .split at b
      .exact raw (λc j e=>(i _ _ _ _ _ _ _ e).lw (λ_ _ h=>by cases h) (g.puts (Bm.markAll _))) b
      .cases b
  .cases b
 unfold DP at b;split at b
 .cases b
 .simp at b
 .unfold JX at b;split at b
  .split at b
   .exact call b
   .unfold HT at b;grind
   .exact(plain b).elim
  .unfold Hg at b;grind
  .grind [Jz]
  .exact(plain b).elim
variable{A:Nat->Prop}{P:JH}{O:List H5}{q D b:BB}{w t L:G5}{M:Nat->Prop}{h R T:S}{r F:u}{ci:Option u}{nt:NT}{env:Nat->y}{V Y:List Df}{l:OA}{ro:Option Nat}{W:Lp->Prop}
def C8(q:BB)(r:u)(b:Nat):Prop:=∀n,b<=n->FX q (n::r)
theorem Mj{n b:Nat}{r a:u}(i:(n::r)<:+a)(h2:(b::r)<:+a):n=b:=by obtain⟨f,c⟩:=i;obtain⟨g,e⟩:=h2;grind [List.append_inj_right']
def FX.other{n b:Nat}(e:FX q (b::r))(f:b≠n)(g:∀a,¬(n::r)<:+a->D a=q a):FX D (b::r):=λa c=>by rw[g a λh=>f (Mj c h)];exact e a c
def C8.next{n:Nat}(b:C8 q r n)(c:∀a,¬(n::r)<:+a->D a=q a):C8 D r (n+1):=λe f=>(b e z).other z c
def OD(a:Array H0)(e:Nat->y)(o:H0):Option Bool:=match o.guard with|none=>J X|some (j,want)=>match((a[j]?).bind (·.dst)).map e with|some (.d (.bool b))=>J (b==want)|some (.kw [])=>J Z|_=>I
def Ja(b:Array H0)(a:Nat):Option Tmp:=(b[a]?).bind λo=>o.dst
variable{L:OW->OA->G5->Prop}
theorem TP(a:∀e l w,Q e l w->L e l w)(h:LetsOut Q):LetsOut L:=let ⟨l,w,h⟩:=h;⟨l,w,a _ _ _ h⟩
theorem gR{F:Fence}{n:Nat}{b:Array H0}(f:∀e l w,Q e l w->L e l w){a:Nat}{K:OA->G5->Prop}{l:OA}{w:G5}(h:wpOpIn F n P b Q a K l w):wpOpIn F n P b L a K l w:=by
 unfold wpOpIn at*;split
 .grind
 .rename_i o c;simp only[c]at h;split
  .rename_i g;simp only[g,IP]at h;refine⟨h.1,?_⟩;have h:=h.2;generalize (o.semAt F.round l.eval).run P w=i at*;cases i with
   |ok x t=>
    cases x<;>simp only[Oper.uponIn]at h⊢ <;>
     first
      |exact h
      |grind [CallsIn.mono,TP]
      |grind [RoundIn.mono,TP]
   |halt x t=>cases x<;>simp only[Oper.uponIn]at h⊢ <;>first|exact h|exact f _ _ _ h
  grind
variable{b:Nat}
def C8.next'{a:Nat}(e:C8 q r (b+a))(f:∀c,¬((b+a)::r)<:+c->D c=q c):C8 D r (b+(a+1)):=e.next f
theorem C8.mono{c:Nat}(a:C8 q r b)(h:b<=c):C8 q r c:=λn e=>a n (HE h e)
def Ow{F:Fence}{n:Nat}{c:Array H0}(b:∀e l w,Q e l w->L e l w):∀{a:u} {l:OA} {w:G5},wpOpsIn F n P c Q a l w->wpOpsIn F n P c L a l w
 |[],l,w,h=>b _ _ _ h|i::a,l,w,h=>by rw[wpOpsIn_cons]at h⊢;have:=wpOpIn_mono (K':=wpOpsIn F n P c L a) (λl w=>Ow b) h;exact gR b this
theorem AKo{p:Hk}(h:VR q w M (.kw []) p):p=.tuple #[]:=by cases h with|kw _ c i _=>grind
theorem VP{ops:Array H0}{e:Nat->y}{j:Bool}(k:MI q w M e λj=>l.tmps.getD j Go.undef)(m:∀d i,Ja ops i=J d->d<l.tmps.size)(a:OD ops e o=J j):
 Region.wanted o (yielded ops l.tmps)=j:=by
 unfold OD at a;unfold Region.wanted;split at a
 .grind
 .rename_i i p n;rw[n];simp only;rcases hd:(ops[i]?).bind (·.dst)with _|d
  .rw[hd]at a;cases a
  .rw[hd]at a;simp only[Gt]at a;split at a
   .rename_i b f;simp only[F4]at f a;have h:=k d;rw[f]at h;have c:=J5 h;have g:=m d i hd;have:l.tmps[d]?=J (.bool b):=by simp only at c;rw[Ge,D9 g]at c;rw[D9 g];simpa using c
    simp only[yielded,hd,GO,this];rw[<-a];grind
   .rename_i f;simp only[F4]at f a;have h:=k d;rw[f]at h;have c:l.tmps.getD d Go.undef=.tuple #[]:=AKo h;have g:=m d i hd;have:l.tmps[d]?=J (.tuple #[]):=by rw[Ge,D9 g]at c;rw[D9 g];simpa using c
    grind [yielded]
   .cases a
theorem VF(V:PC P O C)(aa:Dz P W K)(ai:m.rnd=Z->ro=I){b:Array H0}{B:Nat}(j:b[B]?=J o)(Y:LW W a.heap) (c:DP C K m b F o a=.ok f k)   (ag:M0 a.env.get env2 o.op) (T:OD b env2 o=OD b a.env.get o) (ac:vT k a.heap.get h2.get)(ad:∀o∈b,∀d,o.dst=J d->d<nt.n):
 ∃v e,f.env=Dj a.env o.dst v/\f.base=a.base/\(∀g,e.get g=nl k.wr f.heap.get h2.get g)/\
  ∀(A:Nat->Prop) (q:BB) (w:G5) (l:OA),HR A q w h2->FX q F->O0 A q w nt env2 a.defs h2 l->∀(next:OA->G5->Prop) (Q:OW->OA->G5->Prop),
   (∀L t,lA A m.ci F nt q w h2 (U9 env2 o.dst v) f.defs e L t->next L t)->wpOpIn (FF ro) 0 P b Q B next l w:=by
 have N:∀d,o.dst=J d->d<nt.n:=ad o (Array.mem_of_getElem? j);have M:∀{l:OA},l.tmps.size=nt.n->∀d D,Ja b D=J d->d<l.tmps.size:=by
  intro l ar d D n;rw[ar];unfold Ja at n;rcases ho:b[D]? with _|av
  .rw[ho]at n;cases n
  .grind
 unfold DP at c;split at c
 .cases c
 .rename_i i;simp only[CQ,RE.ok.injEq]at c;obtain⟨rfl,rfl⟩:=c;refine⟨.kw [],h2,rfl,rfl,λg=>(gK _ _ g).symm,?_⟩;intro A q w l H R s next Q p
  have r:=VP (ops:=b) s.env (M s.sz) (by rw[T];exact i);unfold wpOpIn;simp only[j,r];exact⟨λ_ _=>trivial,p _ _ ⟨q,CP.refl H,s.put N (.kw [] #[] rfl (λB x v h=>by simp at h))⟩⟩
 .rename_i i;have⟨v,e,e1,e2,e3,e4⟩:=AIm (ro:=ro) (nt:=nt) V aa ai Y c ag ac N;refine⟨v,e,e1,e2,e3,?_⟩;intro A q w l H R s next Q p
  have r:=VP (ops:=b) s.env (M s.sz) (by rw[T];exact i);unfold wpOpIn;simp only[j,r,IP];exact e4 A q w l H R s next Q p
def ZN(n:PC P O C)(x:Dz P W K){b:Array H0}{k:Nat}(V:b[k]?=J o)(r:LW W a.heap) (e:DP C K m b F o a=.of v f)   (M:M0 a.env.get env2 o.op) (T:OD b env2 o=OD b a.env.get o) (B:∀g,a.heap.get g=h2.get g)(L:∀o∈b,∀d,o.dst=J d->d<nt.n):
 ∃h,f.env=a.env/\f.base=a.base/\f.defs=a.defs/\(∀g,h.get g=f.heap.get g)/\
  ∀(A:Nat->Prop) (q:BB) (w:G5) (l:OA),HR A q w h2->FX q F->O0 A q w nt env2 a.defs h2 l->∀(next:OA->G5->Prop) (Q:OW->OA->G5->Prop),
   (∀j t p,db A m.ci F nt q w h2 env2 a.defs h v p j t->Q (.panic [{v:=p,recovered:=Z}]) j t)->wpOpIn (FF ro) 0 P b Q k next l w:=by
 have D:∀{l:OA},l.tmps.size=nt.n->∀d i,Ja b i=J d->d<l.tmps.size:=by
  intro l aa d i c;rw[aa];unfold Ja at c;rcases ho:b[i]? with _|ad
  .rw[ho]at c;cases c
  .rw[ho]at c;exact L ad (Array.mem_of_getElem? ho) d c
 unfold DP at e;split at e
 .cases e
 .simp at e
 .rename_i R;have⟨h,e1,e2,e3,e4,e5⟩:=AD9 (ro:=ro) (nt:=nt) n x r e M B;refine⟨h,e1,e2,e3,e4,?_⟩;intro A q w l H N s next Q Y
  have ac:=VP (ops:=b) s.env (D s.sz) (by rw[T];exact R);unfold wpOpIn;simp only[V,ac,IP];exact e5 A q w l H N s next Q Y
structure p0(A:Nat->Prop)(ci:Option u)(π:u)(nt:NT)(β:BB)(w:G5)(h:S)(d9:St)(base:Nat)(β':BB)(a':OA)(w':G5):Prop:=
 ws:CP A ci π β w h β' w' d9.heap
 s:O0 A β' w' nt d9.env.get d9.defs d9.heap a'
 fresh:C8 β' π base
def iH(A:Nat->Prop)(ci:Option u)(r:u)(nt:NT)(q:BB)(w:G5)(h:S)(out:Option y)(f:St)(base:Nat):OW->OA->G5->Prop
 |.normal,a,t=>out=I/\∃D,p0 A ci r nt q w h f base D a t|.panic chain,a,t=>∃v p D,out=J v/\chain=[{v:=p,recovered:=Z}]/\p0 A ci r nt q w h f base D a t/\VR D t (MS A D f.heap) v p|_,_,_=>False
theorem At.refl(g:G)(l:List u):At g g l:=λ_ _=>rfl
theorem vT.refl(k:Fp)(g:G):vT k g g:=by grind [vT,At]
variable{alone:Nat->Bool}
theorem th(T:PC P O C)(M:Dz P W K)(ar:m.rnd=Z->ro=I){h:Array H0}(V:∀o∈h,∀d,o.dst=J d->d<nt.n):
 ∀(n:List H0) (g:Nat) (a f:St) (R:List Fp) (out:Option y),g<=h.size->h.toList.drop g=n->LW W a.heap->Du C K m h b alone n g a=.ok ((out,f),R)->
  f.base=a.base/\LW W f.heap/\∀(A:Nat->Prop) (q:BB) (w:G5) (l:OA),HR A q w a.heap->O0 A q w nt a.env.get a.defs a.heap l->C8 q m.π (b+g)->
   wpOpsIn (FF ro) 0 P h (iH A m.ci m.π nt q w a.heap out f (b+h.size)) (List.range' g (U n)) l w
 |[],g,a,f,R,out,hle,hl,hL,c=>by
  simp only[Du,E.ok.injEq,LI]at c;obtain⟨⟨rfl,rfl⟩,rfl⟩:=c;have a':h.size<=g:=by have:=congrArg U hl;simp at this;omega
  refine⟨rfl,hL,λA q w l H s r=>⟨rfl,q,CP.refl H,s,?_⟩⟩;grind
 |o::n,g,a,f,R,out,hle,hl,hL,c=>by
  have aa:h[g]?=J o:=by have:=congrArg (λx:List H0=>x[0]?) hl;simpa using this
  have a1:g<h.size:=(Li.1 aa).1;have a0:h.toList.drop (g+1)=n:=by have:=congrArg List.tail hl;simpa[List.tail_drop]using this
  simp only[Du,Kx]at c;simp only[II,List.range'_succ,wpOpsIn_cons];split at c
  .rename_i j k t;cases ad:Du C K m h b alone n (g+1) j with
   |err e=>rw[ad]at c;cases c
   |ok a3=>
    rw[ad]at c;obtain⟨⟨a2,a5⟩,av⟩:=a3;simp only[Xc,E.ok.injEq,LI]at c;obtain⟨⟨rfl,rfl⟩,rfl⟩:=c;have⟨v,h2',e1,e2,e3,e4⟩:=VF (ro:=ro) T M ar aa hL t (env2:=a.env.get) (h2:=a.heap) (λ_ _=>rfl) rfl (vT.refl _ _) V;have Y:∀ag,h2'.get ag=j.heap.get ag:=λag=>by rw[e3,(SL t).1]
    have⟨hb,hL2,ih⟩:=th T M ar V n (g+1) j a5 av a2 a1 a0 (dC M hL t) ad;refine⟨by rw[hb,e2],hL2,λA q w l H s r=>?_⟩;refine e4 A q w l H (r (b+g) (D4 _)) s _ _ λQ N ⟨B,g1,s1⟩=>?_;have D:CP A m.ci m.π q w a.heap B N j.heap:=by have:=g1.up (FN _ _);exact⟨this.out,this.hr.congr Y,by rw[<-MS.congr Y];exact this.ol,λF i h2=>by have⟨k1,k2,k3⟩:=this.kept F i h2;grind⟩
    have a4:O0 A B N nt j.env.get j.defs j.heap Q:=by have:=s1.congr Y;rw[e1,oW];exact this
    have:=ih A B N Q D.hr a4 ((r.next' g1.out));refine Ow ?_ this;intro e a6 bc ac;cases e with|normal=>obtain⟨i,ai,L⟩:=ac;exact⟨i,ai,D.trans L.ws,L.s,L.fresh⟩|panic chain=>obtain⟨v,p,ai,i,h2,L,az⟩:=ac;exact⟨v,p,ai,i,h2,⟨D.trans L.ws,L.s,L.fresh⟩,az⟩|_=>exact ac.elim
  .rename_i v j t;split at c
   .simp only[E.ok.injEq,LI]at c;obtain⟨⟨rfl,rfl⟩,rfl⟩:=c;have⟨h2',e1,e2,e3,e4,e5⟩:=ZN (ro:=ro) T M aa hL t (env2:=a.env.get) (h2:=a.heap) (λ_ _=>rfl) rfl (λ_=>rfl) V;refine⟨e2,Zz M hL t,λA q w l H s r=>?_⟩;refine e5 A q w l H (r (b+g) (D4 _)) s _ _ λQ N p ⟨B,g1,s1,hv⟩=>?_;have D:CP A m.ci m.π q w a.heap B N j.heap:=by have:=g1.up (FN _ _);exact⟨this.out,this.hr.congr e4,by rw[<-MS.congr e4];exact this.ol,λF i h2=>by have⟨k1,k2,k3⟩:=this.kept F i h2;grind⟩
    refine⟨v,p,B,rfl,rfl,⟨D,?_,?_⟩,?_⟩
    .rw[e1,e3];exact s1.congr e4
    .exact(r.next' g1.out).mono z
    grind [MS.congr]
   .cases c
  .cases c
variable{A:Nat->Prop}{P:JH}{l:List H5}{q r t:BB}{w D F:G5}{M:Nat->Prop}{h L O:S}{Q R:u}{ci:Option u}{T:NT}{env:Nat->y}{V Y:List Df}{a:OA}{ro:Option Nat}{W:Lp->Prop}
def bits(a:Nat->Nat):List Edge->Nat
 |[]=>0|e::l=>match Region.binds .any e with
  |true=>bits a l|||2 ^ e.on|||a e.on
  |false=>bits a l
def PV:List H0->u->u
 |[],acc=>acc|o::l,acc=>PV l (acc++[bits (λk=>acc.getD k 0) o.after.toList])
theorem yd{b:Nat->Nat}{a:Nat}:∀{c:List Edge},(bits b c).testBit a=X->∃e∈c,Region.binds .any e=X/\(e.on=a\/(b e.on).testBit a=X)
 :=by intro x;induction x<;>grind [bits]
theorem iw:∀(c:List H0) (a:u) (b:Nat),b<U a->(PV c a).getD b 0=a.getD b 0
 :=by intro x;induction x<;>grind [PV]
theorem aU:∀(c:List H0) (a:u) (e:Nat) (o:H0),c[e]?=J o->
 ∃f:Nat->Nat,(PV c a).getD (U a+e) 0=bits f o.after.toList/\∀b,f b=(PV c a).getD b 0\/f b=0
 |[],a,e,o,h=>by simp at h|x::c,a,0,o,h=>by
  simp at h;subst h;refine⟨λb=>a.getD b 0,?_,λb=>?_⟩
  .grind [PV,iw]
  grind [iw]
 |x::c,a,e+1,o,h=>by simp at h;have⟨f,i,h2⟩:=aU c (a++[bits (λb=>a.getD b 0) x.after.toList]) e o h;grind [PV]
def B3(B:u)(i j:Nat):Bool:=(B.getD j 0).testBit i
theorem n9{a:Array H0}{b c:Nat}(g:a[c]?=J o)(h:B3 (PV a.toList []) b c=X):
 ∃e∈o.after,Region.binds .any e=X/\(e.on=b\/B3 (PV a.toList []) b e.on=X):=by
 have⟨f,i,h2⟩:=aU a.toList [] c o (by simpa using g);grind [B3,yd]
def ANE(op:Op):List Tmp:=op.operands.toList.filterMap λ|.tmp t=>J t|_=>I
def lR(a:Array H0)(o:H0):List Tmp:=match o.guard with
 |some (j,_)=>match Ja a j with|some t=>[t]|none=>[]
 |none=>[]
def Qv(a:Array H0)(o:H0):List Tmp:=o.dst.toList++ANE o.op++lR a o
def tV(d:Option M5)(l:List M5):Bool:=match d with|some t=>l.all λx=> !Nat.beq x t|none=>X
theorem P3{d:Option M5}{b:List M5}(h:tV d b=X){a:M5}(c:d=J a):a∉b:=by subst c;intro e;have:=EM.1 h a e;simp at this
def kO(a:Array H0)(x b:H0):Bool:=tV x.dst (Qv a b)&&tV b.dst (Qv a x)
def xj(x B0:Op):Bool:=(gj x||B5 B0)&&(B5 x||gj B0)&&(gj x||gj B0)
def tj(f:Array H0)(ge:List (Nat×Nat))(x b:H0)(c e:Nat):Bool:=kO f x b&&(xj x.op b.op||ge.any λa=>Nat.beq a.1 c&&Nat.beq a.2 e)
def fA:Op->Bool
 |.defer _=>X|_=>Z
def tx(c:Array H0)(ge:List (Nat×Nat))(alone:Nat->Bool):Bool:=
 let B:=PV c.toList []
 (WO c.size).all λa=>match c[a]? with
  |none=>Z
  |some f=> !fA f.op&&f.after.toList.all (λe=> !Region.binds .any e||Nat.blt e.on a)&&
   (WO a).all (λb=>match c[b]? with|none=>Z|some x=>(B3 B b a||tj c ge x f b a)&&(!(alone b||alone a)||B3 B b a))
structure WE(ops:Array H0)(ge:List (Nat×Nat))(alone:Nat->Bool):Prop:=
 noDef:∀(j:Nat) (B0:H0),ops[j]?=J B0->∀c,B0.op≠ .defer c
 back:∀(j:Nat) (B0:H0),ops[j]?=J B0->∀e∈B0.after,Region.binds .any e=X->e.on<j
 pair:∀(i j:Nat) (x B0:H0),i<j->ops[i]?=J x->ops[j]?=J B0->B3 (PV ops.toList []) i j=X\/
  (kO ops x B0=X/\(xj x.op B0.op=X\/(i,j)∈ge))
 alone:∀(i j:Nat) (x B0:H0),i<j->ops[i]?=J x->ops[j]?=J B0->(alone i=X\/alone j=X)->B3 (PV ops.toList []) i j=X
theorem uZ{g:Array H0}{ge:List (Nat×Nat)}(h:tx g ge alone=X):WE g ge alone:=by
 unfold tx at h;have m:∀(a:Nat) (b:H0),g[a]?=J b->fA b.op=Z/\(∀e∈b.after,Region.binds .any e=X->e.on<a)/\
  ∀(f:Nat) (x:H0),f<a->g[f]?=J x->(B3 (PV g.toList []) f a||tj g ge x b f a)=X/\(!(alone f||alone a)||B3 (PV g.toList []) f a)=true:=by
  intro a b k;have o:a<g.size:=(Li.1 k).1;have:=EM.1 h a (PI.2 o);simp only[k,As,It]at this;obtain⟨⟨i,h2⟩,p⟩:=this;refine⟨i,λe s r=>?_,λf x t l=>?_⟩
  .grind [Nat.blt_eq]
  .grind
 refine⟨λa b k c j=>?_,λa b k=>(m a b k).2.1,λf a x b n l k=>?_,λf a x b n l k q=>?_⟩
 .grind [fA]
 .grind [tj,Nat.eq_of_beq_eq_true]
 grind
theorem ZC{j:Array H0}:
 ∀(n:List H0) (c:Nat) (a f:St) (p:List Fp) (out:Option y),c<=j.size->j.toList.drop c=n->Du C K m j b alone n c a=.ok ((out,f),p)->
  ∃(B2:Nat->St) (F:Nat->Fp) (l:Nat),c<=l/\l<=j.size/\B2 c=a/\
   (∀g,c<=g->g<l->∃o,j[g]?=J o/\DP C K m j ((b+g)::m.π) o (B2 g)=.ok (B2 (g+1)) (F g)/\p[g-c]?=J (F g))/\
   ((out=I/\l=j.size/\B2 l=f)\/∃v o,out=J v/\l<j.size/\alone l=X/\j[l]?=J o/\DP C K m j ((b+l)::m.π) o (B2 l)=.of v f)
 |[],c,a,f,p,out,hle,hl,h=>by
  simp only[Du,E.ok.injEq,LI]at h;obtain⟨⟨rfl,rfl⟩,rfl⟩:=h;have N:j.size<=c:=by have:=congrArg U hl;simp at this;omega
  exact⟨λ_=>a,λ_=>{},c,D4 _,hle,rfl,λg i h2=>z,.inl ⟨rfl,z,rfl⟩⟩
 |o::n,c,a,f,p,out,hle,hl,h=>by
  have s:j[c]?=J o:=by have:=congrArg (λx:List H0=>x[0]?) hl;simpa using this
  have t:c<j.size:=(Li.1 s).1;have D:j.toList.drop (c+1)=n:=by have:=congrArg List.tail hl;simpa[List.tail_drop]using this
  simp only[Du,Kx]at h;split at h
  .rename_i r k w;cases q:Du C K m j b alone n (c+1) r with
   |err e=>rw[q]at h;cases h
   |ok L=>
    rw[q]at h;obtain⟨⟨H,M⟩,A⟩:=L;simp only[Xc,E.ok.injEq,LI]at h;obtain⟨⟨rfl,rfl⟩,rfl⟩:=h;have⟨B2,F,l,i,h2,h3,h4,h5⟩:=ZC n (c+1) r M A H t D q;refine⟨λg=>if g=c then a else B2 g,λg=>if g=c then k else F g,l,z,h2,D3 rfl,λg O P=>?_,?_⟩
    .grind
    grind
  .rename_i v r w;split at h
   .rename_i B;simp only[E.ok.injEq,LI]at h;obtain⟨⟨rfl,rfl⟩,rfl⟩:=h;exact⟨λ_=>a,λ_=>{},c,D4 _,hle,rfl,λg i h2=>z,.inr ⟨v,o,rfl,t,B,s,w⟩⟩
   .cases h
  .cases h
section mixed
variable(a:Array H0)(B2:Nat->St)(F:Nat->Fp)
def Ll(D:Nat->Bool):Nat->Nat->y
 |0=>(B2 0).env.get|k+1=>λt=>if D k=X/\Ja a k=J t then(B2 (k+1)).env.get t else Ll D k t
def JD(D:Nat->Bool):Nat->G
 |0=>(B2 0).heap.get|k+1=>λa=>if D k=X then nl (F k).wr (B2 (k+1)).heap.get (JD D k) a else JD D k a
def Zb(c:Option (List u))(b:u):Prop:=∃a,c=J a/\b∉a
end mixed
variable{a:Array H0}{B2:Nat->St}{F:Nat->Fp}{D:Nat->Bool}
variable{t:M5}
theorem Wa{i:Nat}(g:∀f,f<i->∃v,(B2 (f+1)).env=Dj (B2 f).env (Ja a f) v):∀{b:Nat},b<=i->(∀c,c<b->Ja a c=J t->D c=X)->Ll a B2 D b t=(B2 b).env.get t
 |0,_,_=>rfl|b+1,hi,h=>by
  simp only[Ll];split
  .rfl
  .rename_i k;have⟨v,hv⟩:=g b hi;have l:Ja a b≠J t:=λe=>k ⟨h b z e,e⟩;rw[Wa g z λc m=>h c z,hv,oW];unfold U9;split
   .rename_i d j;have:d≠t:=λe=>l (e▸j);simp[this]
   .rfl
theorem jw{i:Nat}:∀{n:Nat},(∀j,i<=j->j<i+n->Ja a j=J t->D j=Z)->Ll a B2 D (i+n) t=Ll a B2 D i t
 :=by intro x;induction x<;>grind [Ll]
theorem Gy{c:Option (List u)}{a:u}(h:Zb c a)(new b:G):nl c new b a=b a:=by obtain⟨f,rfl,e⟩:=h;simp[nl,e]
theorem gL(b:Option (List u))(a:u):Zb b a\/∀new e:G,nl b new e a=new a:=by
 rcases b with _|c
 .exact .inr λ_ _=>rfl
 .by_cases h:a∈c
  .grind [nl]
  .exact .inl ⟨c,rfl,h⟩
def Pr{k:Nat}{a:u}(f:∀c,c<k->nl (F c).wr (B2 (c+1)).heap.get (B2 c).heap.get a=(B2 (c+1)).heap.get a):∀{i:Nat},i<=k->(∀b,b<i->D b=Z->Zb (F b).wr a)->JD B2 F D i a=(B2 i).heap.get a
 |0,_,_=>rfl|i+1,hi,h=>by
  have j:=Pr f (i:=i) z λb n=>h b z;have g:=f i hi;simp only[JD];split
  .rcases gL (F i).wr a with e|m
   .rw[Gy e,j,<-g,Gy e]
   .exact m _ _
  .rename_i l;have e:=h i z zDH;rw[j,<-g,Gy e]
theorem Uj{c:u}{a:Nat}:∀{n:Nat},(∀b,a<=b->b<a+n->D b=X->Zb (F b).wr c)->JD B2 F D (a+n) c=JD B2 F D a c
 :=by intro x;induction x<;>grind [JD,Gy]
def Re(D:Nat->Bool)(i:Nat):Nat->Bool:=λk=>D k||Nat.beq k i
theorem LG(D:Nat->Bool)(i:Nat):Re D i i=true:=by simp[Re]
def Ko(D:Nat->Bool){i k:Nat}(h:k≠i):Re D i k=D k:=by simp[Re,h]
theorem Rq{i:Nat}{t:M5}(h:Ja a i≠J t):∀n,Ll a B2 (Re D i) n t=Ll a B2 D n t
 |0=>rfl|n+1=>by
  simp only[Ll,Rq h n];by_cases e:n=i
  .subst e;simp[h]
  .rw[Ko D e]
theorem MX{b:Nat}{c:u}(h:Zb (F b).wr c)(a:D b=Z):∀n,JD B2 F (Re D b) n c=JD B2 F D n c
 |0=>rfl|n+1=>by
  simp only[JD];by_cases e:n=b
  .subst e;rw[LG,a];simp only[IP,Gs,AM];rw[Gy h];exact MX h a n
  .rw[Ko D e];rcases gL (F n).wr c with f|g
   .rw[Gy f,Gy f,MX h a n]
   .rw[g,g,MX h a n]
theorem UZ{b:Nat}(c:D b=Z):∀{n:Nat},b<n->((WO n).countP λa=> !Re D b a)<(WO n).countP λa=> !D a
 |0,h=>z|n+1,h=>by
  have mono:∀n,((WO n).countP λa=> !Re D b a)<=(WO n).countP λa=> !D a:=λn=>List.countP_mono_left λa _ f=>by grind [Re]
  simp only[Rw,List.countP_append,List.countP_singleton];by_cases e:n=b
  .grind [LG]
  .rw[Ko D e];have:=UZ c (show b<n by omega);omega
variable{A:Nat->Prop}{P:JH}{O:List H5}{q l m:BB}{w C F:G5}{M:Nat->Prop}{h Q R:S}{T L:u}{ci:Option u}{nt:NT}{env:Nat->y}{V Y:List Df}{r:OA}{ro:Option Nat}{W:Lp->Prop}
def qT(x:Option (List u))(b:u):Prop:=x=I\/∃a,x=J a/\b∈a
def xM(x:Option (List u))(a:u):Zb x a\/qT x a:=by
 rcases x with _|b
 .exact .inr (.inl rfl)
 .by_cases h:a∈b
  .exact .inr (.inr ⟨b,rfl,h⟩)
  .exact .inl ⟨b,rfl,h⟩
variable{x l:Option (List u)}
theorem Rf(h:apart x l=X){e:u}(a:qT x e):Zb l e:=by
 unfold apart at h;split at h
 .rcases a with a|⟨f,b,c⟩
  .cases a
  .cases b;cases c
 .exact⟨[],rfl,AG⟩
 .rename_i f g _ _;rcases a with a|⟨j,b,c⟩
  .cases a
  .cases b;refine⟨g,rfl,λi=>?_⟩;grind
 .cases h
theorem PQ(h:apart x l=X){e:u}(a:qT l e):Zb x e:=by
 unfold apart at h;split at h
 .exact⟨[],rfl,AG⟩
 .rcases a with a|⟨f,b,c⟩
  .cases a
  .cases b;cases c
 .rename_i f j _ _;rcases a with a|⟨i,b,c⟩
  .cases a
  .cases b;refine⟨f,rfl,λg=>?_⟩;grind
 .cases h
def ALs{k:Fp}{g b:G}(h:¬(k.ext=X/\k.rd=I)->∀a,qT k.rd a->g a=b a)(e:k.ext=X->k.rd=I->∀a o,g a=J o->b a=J o):vT k g b:=by
 obtain⟨i,j,ext⟩:=k;rcases i with _|f
 .rcases ext with _|_
  .exact λa=>h AG a (.inl rfl)
  .exact e rfl rfl
 .exact λa c=>h AG a (.inr ⟨f,rfl,c⟩)
theorem iX(l:Option (List u)):apart (J []) l=true:=rfl
theorem iY(x:Option (List u)):apart x (J [])=true:=by
 rcases x with _|l
 .rfl
 .cases l<;>rfl
variable{C:C7}{k:Fr}
theorem ph{K:Af}{a:Array H0}{x l:H0}{c f e g:St}{r b:Fp}{i j:u}(h:xj x.op l.op=X)(m:DP C K k a i x c=.ok e r)(n:DP C K k a j l f=.ok g b):
 r.apart b=true:=by grind [AB9,xj,Fp.apart,iX,iY]
variable{o:H0}
theorem Rp{a:Array H0}{i:Nat}(h:a[i]?=J o):Ja a i=o.dst:=by simp[Ja,h]
def LX(a:Array H0)(D:Nat->Bool):Prop:=∀(j:Nat) (l:H0),a[j]?=J l->D j=X->∀e∈l.after,Region.binds .any e=X->D e.on=X
variable{ge:List (Nat×Nat)}{alone:Nat->Bool}
theorem Jh{a:Array H0}{D:Nat->Bool}(l:WE a ge alone)(j:LX a D):∀(b:Nat),D b=X->∀f,B3 (PV a.toList []) f b=X->b<a.size->D f=true:=by intro b;induction b using Nat.strongRecOn with|_ b o=>intro g f k h;have c:=D9 h;have⟨e,he,hb,i⟩:=n9 c k;have m:=j b _ c g e he hb;have n:=l.back b _ c e he hb;grind
theorem Na{a:Array H0}{D:Nat->Bool}(k:WE a ge alone)(j:LX a D){b:Nat}(c:a[b]?=J o)(h:∀e∈o.after,Region.binds .any e=X->D e.on=X){f:Nat} (g:B3 (PV a.toList []) f b=X):D f=true:=by have⟨e,he,hb,i⟩:=n9 c g;have l:=h e he hb;have m:=k.back b _ c e he hb;grind [Jh]
structure APS(F:Nat->Fp)(b:Nat)(π:u)(i j:Nat):Prop:=
 ext:(F i).ext=X
 rd:(F i).rd=I
 new:jE ((b+j)::π) (F j).wr=X
 wr:kQ (F i).wr=X
 ahead:∀k,k<i->Abs.apart (F k).wr (F j).wr=X
def Ym(h:kQ x=X)(a:u):Zb x a:=by
 unfold kQ at h;split at h
 .exact⟨[],rfl,AG⟩
 .cases h
theorem tU{L:u}(h:jE L x=X){b:u}(a:qT x b):L<:+b:=by
 unfold jE at h;split at h
 .rename_i f;rcases a with a|⟨g,e,c⟩
  .cases a
  grind [Id.under_iff]
 .cases h
structure YI(W:Lp->Prop)(C:C7)(K:Af)(fr:Fr)(ops:Array H0)(b:Nat)(ge:List (Nat×Nat))(alone:Nat->Bool)(B2:Nat->St)(F:Nat->Fp)(m:Nat):Prop:=
 le:m<=ops.size
 step:∀k,k<m->∃o,ops[k]?=J o/\DP C K fr ops ((b+k)::fr.π) o (B2 k)=.ok (B2 (k+1)) (F k)
 env:∀k,k<m->∃v,(B2 (k+1)).env=Dj (B2 k).env (Ja ops k) v
 nl:∀id k,k<m->nl (F k).wr (B2 (k+1)).heap.get (B2 k).heap.get id=(B2 (k+1)).heap.get id
 defs:∀k,k<=m->(B2 k).defs=(B2 0).defs
 lw:∀k,k<=m->LW W (B2 k).heap
 base:∀k,k<=m->(B2 k).base=(B2 0).base
 apart:∀(i j:Nat),i<j->j<m->B3 (PV ops.toList []) i j=X\/(F i).apart (F j)=X\/APS F b fr.π i j
variable{C:C7}{K:Af}{fr:Fr}{a:Array H0}{b m:Nat}{ge:List (Nat×Nat)}{alone:Nat->Bool}{B2:Nat->St}{F:Nat->Fp}{D:Nat->Bool}
variable{k:List Fp}
theorem AM3(s:PC P O C)(w:Dz P W K)(R:fr.rnd=Z->ro=I)(q:WE a ge alone)(D:∀o∈a,∀d,o.dst=J d->d<nt.n)(Q:E3 fr.π b k ge=X)(M:m<=a.size)(t:LW W (B2 0).heap)(g:∀c,c<m->∃o,a[c]?=J o/\DP C K fr a ((b+c)::fr.π) o (B2 c)=.ok (B2 (c+1)) (F c)/\k[c]?=J (F c)):YI W C K fr a b ge alone B2 F m:=by
 have p:∀c,c<=m->LW W (B2 c).heap:=by intro c;induction c with|zero=>intro _;exact t|succ c r=>grind [dC]
 have N:∀c,c<m->(∃v,(B2 (c+1)).env=Dj (B2 c).env (Ja a c) v)/\(B2 (c+1)).base=(B2 c).base/\(B2 (c+1)).defs=(B2 c).defs:=by intro c e;have⟨o,i,h2,h3⟩:=g c e;have⟨v,h2',e1,e2,_⟩:=VF (ro:=ro) s w R i (p c z) h2 (env2:=(B2 c).env.get) (h2:=(B2 c).heap) (λ_ _=>rfl) rfl (vT.refl _ _) D;exact⟨⟨v,by rw[Rp i];exact e1⟩,e2,(SL h2).2 (q.noDef c o i)⟩
 have B:∀c,c<=m->(B2 c).defs=(B2 0).defs:=by intro c;induction c with|zero=>intro _;rfl|succ c r=>grind
 have A:∀c,c<=m->(B2 c).base=(B2 0).base:=by intro c;induction c with|zero=>intro _;rfl|succ c r=>grind
 refine⟨M,λc e=>let ⟨o,i,h2,_⟩:=g c e;⟨o,i,h2⟩,λc e=>(N c e).1,λT c e=>?_,B,p,A,λj n H L=>?_⟩
 .grind [SL]
 .have⟨x,x1,x2,x3⟩:=g j z;have⟨l,y1,y2,y3⟩:=g n L;refine(q.pair j n x l H x1 y1).imp (λh=>h) ?_;rintro⟨_,h|h⟩
  .exact .inl (ph h x2 y2)
  .have:=EM.1 Q (j,n) h;simp[x3,y3]at this;refine this.imp (λh=>h) λf=>?_;simp only[Xu,As,Option.isNone_iff_eq_none]at f;refine⟨f.1,f.2.1,f.2.2.1,f.2.2.2.1,λc e=>EM.1 f.2.2.2.2 (F c) ?_⟩;have⟨_,_,_,z3⟩:=g c z;exact AP (i:=c) zCN
theorem nF(p:YI W C K fr a b ge alone B2 F m)(l:WE a ge alone)(j:LX a D)(s:∀q,D q=X->q<m){c:Nat}(g:a[c]?=J o)(v:c<=m)(H:D c=Z)(x:∀e∈o.after,Region.binds .any e=X->D e.on=X)  (M:t∈Qv a o):Ll a B2 D m t=(B2 c).env.get t:=by
 obtain⟨n,rfl⟩:∃n,m=c+n:=⟨m-c,z⟩;have L:=(Li.1 g).1;rw[jw (λf i h2 r=>?_),Wa p.env v λf w r=>?_]
 ·
  have k:f<a.size:=z;have A:=D9 k;rcases l.pair f c _ o w A g with h|⟨h,_⟩
  .exact Na l j g x h
  grind [kO,Rp,P3]
 ·
  rcases hDj:D f with _|_
  .rfl
  .exfalso;by_cases e:f=c
   .grind
   have k:f<a.size:=by have:=s f hDj;have:=p.le;omega
   have B:=D9 k;rcases l.pair c f o _ z g B with h|⟨h,_⟩
   .grind [Jh]
   grind [kO,Rp,P3]
theorem AMu(h:YI W C K fr a b ge alone B2 F m)(q:WE a ge alone)(j:LX a D)(i:∀g,D g=X->g<m){c:Nat}(l:a[c]?=J o)(n:c<=m)(k:D c=Z)(p:∀e∈o.after,Region.binds .any e=X->D e.on=X):M0 (B2 c).env.get (Ll a B2 D m) o.op/\OD a (Ll a B2 D m) o=OD a (B2 c).env.get o:=by
 refine⟨λx r=>?_,?_⟩
 .cases x with|tmp t=>refine(nF h q j i l n k p ?_).symm;unfold Qv;refine Is _ (IN _ ?_);exact List.mem_filterMap.2 ⟨.tmp t,by simpa using r,rfl⟩|_=>rfl
 .unfold OD;rcases hg:o.guard with _|s
  .rfl
  .obtain⟨f,v⟩:=s;simp only;have e:((a[f]?).bind λx=>x.dst)=Ja a f:=rfl;rw[e];rcases hd:Ja a f with _|t
   .rfl
   .grind [nF,Qv,lR]
theorem AJc(l:YI W C K fr a b ge alone B2 F m)(v:WE a ge alone)(j:LX a D)(p:∀r,D r=X->r<m){c:Nat}{o:H0}(x:a[c]?=J o)(s:c<m)(q:D c=Z)(A:∀e∈o.after,Region.binds .any e=X->D e.on=X) (w:¬((F c).ext=X/\(F c).rd=I)) {k:u} (B:qT (F c).rd k):JD B2 F D m k=(B2 c).heap.get k:=by
 obtain⟨n,rfl⟩:∃n,m=c+n:=⟨m-c,z⟩;rw[Uj (λf i h2 g=>?_),Pr (l.nl k) z λf t g=>?_]
 .rcases l.apart f c t s with h|h|h
  .grind [Na]
  rotate_left
  .exact Ym h.wr k
  grind [Fp.apart,PQ]
 .by_cases e:f=c
  .subst e;rw[q]at g;cases g
  rcases l.apart c f z (p f g)with h|h|h
  .have:=Jh v j f g c h (by have:=p f g;have:=l.le;omega);rw[q]at this;cases this
  rotate_left
  .exact absurd ⟨h.ext,h.rd⟩ w
  grind [Fp.apart,Rf]
theorem AE6(p:YI W C K fr a b ge alone B2 F m)(M:WE a ge alone)(j:LX a D)(r:∀k,D k=X->k<m){c:Nat}{o:H0}(Q:a[c]?=J o)(B:c<m)(s:D c=Z)(R:∀e∈o.after,Region.binds .any e=X->D e.on=X) (L:(F c).rd=I) (A:∀(g:Nat) (f:u),((b+g)::fr.π)<:+f->g<m->(B2 0).heap.get f=I) {f:u} {O:Obj} (w:(B2 c).heap.get f=J O):JD B2 F D m f=(B2 c).heap.get f:=by
 have T:qT (F c).rd f:=.inl L;have P:∀n,n<=c->(∀k,k<n->Zb (F k).wr f)->(B2 n).heap.get f=(B2 0).heap.get f:=by intro n;induction n with|zero=>intro _ _;rfl|succ n N=>intro v q;rw[<-p.nl f n z,Gy (q n z),N z λk h=>q k z]
 obtain⟨n,rfl⟩:∃n,m=c+n:=⟨m-c,z⟩;rw[Uj (λg i h2 l=>?_),Pr (p.nl f) z λg H l=>?_]
 .rcases p.apart g c H B with h|h|h
  .grind [Na]
  rotate_left
  .exact Ym h.wr f
  grind [Fp.apart,PQ]
 .by_cases e:g=c
  .subst e;rw[s]at l;cases l
  rcases p.apart c g z (r g l)with h|h|h
  .have:=Jh M j g l c h (by have:=r g l;have:=p.le;omega);rw[s]at this;cases this
  rotate_left
  .rcases xM (F g).wr f with v|t
   .exact v
   .exfalso;have x:=P c (D4 _) λk q=>PQ (h.ahead k q) t;rw[A g f (tU h.new t) (r g l)]at x;rw[x]at w;cases w
  grind [Fp.apart,Rf]
theorem AIr(p:YI W C K fr a b ge alone B2 F m)(w:WE a ge alone)(j:LX a D)(q:∀l,D l=X->l<m){c:Nat}{o:H0}(r:a[c]?=J o)(B:c<m)(x:D c=Z){v:y}(H:(B2 (c+1)).env=Dj (B2 c).env o.dst v):U9 (Ll a B2 D m) o.dst v=Ll a B2 (Re D c) m:=by
 funext t;rcases A:o.dst with _|d
 .grind [U9,Rq,Rp]
 .simp[U9];by_cases e:d=t
  .subst e;rw[D3 rfl];obtain⟨n,rfl⟩:∃n,m=(c+1)+n:=⟨m-(c+1),z⟩;rw[jw (λf i h2 g=>?_)]
   .grind [Ll,LG,Rp,Dj,CN.get_cons]
   .rw[Ko D z];rcases hDj:D f with _|_
    .rfl
    .exfalso;have s:f<a.size:=by have:=q f hDj;have:=p.le;omega
     have k:=D9 s;rcases w.pair c f o _ z r k with h|⟨h,_⟩
     .grind [Jh]
     .unfold kO at h;simp at h;rw[Rp k]at g;refine absurd ?_ (P3 h.2 g);grind [Qv]
  grind [Rq,Rp]
theorem AE5(l:YI W C K fr a b ge alone B2 F m)(t:WE a ge alone)(j:LX a D)(o:∀r,D r=X->r<m){c:Nat}(H:c<m)(s:D c=Z)(f:u):
 nl (F c).wr (B2 (c+1)).heap.get (JD B2 F D m) f=JD B2 F (Re D c) m f:=by
 rcases xM (F c).wr f with q|p
 .grind [Gy,MX]
 .have v:∀new A:G,nl (F c).wr new A f=new f:=by
   rcases gL (F c).wr f with q|h
   .obtain⟨w,i,h2⟩:=q;rcases p with e|⟨x,e,B⟩
    .rw[i]at e;cases e
    grind
   .exact h
  rw[v];obtain⟨n,rfl⟩:∃n,m=(c+1)+n:=⟨m-(c+1),z⟩;rw[Uj (λg i h2 e=>?_)]
  .grind [JD,LG]
  .rw[Ko D z]at e;rcases l.apart c g z (o g e)with h|h|h
   .have:=Jh t j g e c h (by have:=o g e;have:=l.le;omega);rw[s]at this;cases this
   rotate_left
   .have⟨w,e1,e2⟩:=Ym h.wr f;rcases p with k|⟨x,k,L⟩
    .rw[e1]at k;cases k
    grind
   grind [Fp.apart,Rf]
theorem rJ(j:LX a D){b:Nat}(n:a[b]?=J o)(p:∀e∈o.after,Region.binds .any e=X->D e.on=X):LX a (Re D b):=by
 intro f l m c e k i;have up:D e.on=X->Re D b e.on=true:=λh=>by simp[Re,h]
 by_cases g:f=b
 .grind
 .rw[Ko D g]at c;exact up (j f l m c e k i)
structure IY(P:JH)(C:C7)(K:Af)(fr:Fr)(nt:NT)(ops:Array H0)(b m:Nat)(B2:Nat->St)(F:Nat->Fp)(A:Nat->Prop)(β0:BB)(w0:G5)(D:Nat->Bool)(listed:Array Bool)(β:BB)(w:G5)(a:OA)(hc:S):Prop:=
 closed:LX ops D
 lt:∀k,D k=X->k<m
 size:listed.size=ops.size
 list:∀k,k<ops.size->listed[k]?=J (D k)
 heap:∀id,hc.get id=JD B2 F D m id
 s:O0 A β w nt (Ll ops B2 D m) (B2 0).defs hc a
 ws:CP A fr.ci fr.π β0 w0 (B2 0).heap β w hc
 fresh:∀i,i<ops.size->D i=Z->FX β ((b+i)::fr.π)
 freshFrom:C8 β fr.π (b+ops.size)
theorem ALz(bn:PC P O C)(bo:Dz P W K)(cc:fr.rnd=Z->ro=I)(R:WE a ge alone)(bs:∀o∈a,∀d,o.dst=J d->d<nt.n)(s:YI W C K fr a b ge alone B2 F m){f:St}{out:Option y}(b2:∀(H:Nat) (id:u),((b+H)::fr.π)<:+id->H<m->(B2 0).heap.get id=I) (a6:(out=I/\m=a.size/\B2 m=f)\/∃v o,out=J v/\m<a.size/\alone m=X/\a[m]?=J o/\DP C K fr a ((b+m)::fr.π) o (B2 m)=.of v f) {a3:BB} {a2:G5}:
 ∀(av:Nat) (D:Nat->Bool) (N:Array Bool) (q:BB) (w:G5) (r:OA) (j:S),IY P C K fr nt a b m B2 F A a3 a2 D N q w r j->((WO a.size).countP λk=> !D k)<=av->
  wpAnyIn (FF ro) 0 P .any a (iH A fr.ci fr.π nt a3 a2 (B2 0).heap out f (b+a.size)) av N r w:=by
 have bl:∀{D:Nat->Bool} {N:Array Bool} {q:BB} {w:G5} {r:OA} {j:S},IY P C K fr nt a b m B2 F A a3 a2 D N q w r j->(∀k,k<a.size->D k=X)->
  iH A fr.ci fr.π nt a3 a2 (B2 0).heap out f (b+a.size) .normal r w:=by
  intro D N q w r j M Y;rcases a6 with⟨rfl,Q,rfl⟩|⟨v,o,_,Q,_⟩
  .have aa:Ll a B2 D m=(B2 m).env.get:=by funext t;exact Wa s.env (D4 _) λH ac _=>Y H z
   have az:∀id,j.get id=(B2 m).heap.get id:=λid=>by rw[M.heap];exact Pr (s.nl id) (D4 _) λH ac h=>by grind
   refine⟨rfl,q,⟨M.ws.out,M.ws.hr.congr az,by rw[<-MS.congr az];exact M.ws.ol,λL i h2=>?_⟩,?_,M.freshFrom⟩
   .have⟨k1,k2,k3⟩:=M.ws.kept L i h2;grind
   .rw[s.defs m (D4 _),<-aa];exact M.s.congr az
  .have:=M.lt m (Y m Q);omega
 have cd:∀{D:Nat->Bool} {N:Array Bool} {q:BB} {w:G5} {r:OA} {j:S},IY P C K fr nt a b m B2 F A a3 a2 D N q w r j->Region.ready .any a N=[]->∀k,k<a.size->D k=true:=by
  intro D N q w r j M a' k;induction k using Nat.strongRecOn with
  |_ k be=>
   intro B;rcases ad:D k with _|_
   .exfalso;have l:=D9 B;have:k∈Region.ready .any a N:=by
     unfold Region.ready;refine Pu.2 ⟨PI.2 B,?_⟩;simp only[l,Gt,F9,As,It];refine⟨by rw[Ge,M.list k B,ad];rfl,?_⟩;rw[Array.all_eq_true_iff_forall_mem];intro e aa;rcases a4:Region.binds .any e with _|_
     .rfl
     .have bv:=R.back k _ l e aa a4;simp only[RG,Ol];rw[Ge,M.list e.on z,be e.on bv z];rfl
    rw[a']at this;cases this
   .rfl
 intro av;induction av with
 |zero=>
  intro D N q w r j M b4;have Y:∀k,k<a.size->D k=true:=by
   intro k B;rcases ad:D k with _|_
   .have:=UZ ad B;omega
   .rfl
  refine⟨?_,bl M Y⟩;rcases bc:Region.ready .any a N with _|⟨k,cl⟩
  .rfl
  .exfalso;have:k∈Region.ready .any a N:=by rw[bc];simp
   have⟨i,h2⟩:=Pu.1 this;have B:=PI.1 i;simp only[As,It]at h2;have T:=h2.1;rw[Ge,M.list k B,Y k B]at T;cases T
 |succ av be=>
  intro D N q w r j M b4;refine⟨λa'=>bl M (cd M a'),λc b5=>?_⟩;have⟨i,h2⟩:=Pu.1 b5;have a1:=PI.1 i;have l:=D9 a1;generalize a[c]=o at l;simp only[l,Gt,F9,As,It]at h2;have V:D c=false:=by have T:=h2.1;rw[Ge,M.list c a1]at T;simpa using T
  have ai:∀e∈o.after,Region.binds .any e=X->D e.on=true:=by intro e aa a4;have T:=(Array.all_eq_true_iff_forall_mem.1 h2.2) e aa;have bv:=R.back c _ l e aa a4;rw[a4]at T;simp only[RG,Ol]at T;rw[Ge,M.list e.on z]at T;simpa using T
  have a0:c<=m:=by
   rcases a6 with⟨_,Q,_⟩|⟨v,x,_,Q,a5,ar,_⟩
   .omega
   .by_cases e:c<=m
    .exact e
    .exfalso;have:=Na R M.closed l ai (R.alone m c x o z ar l (.inl a5));have:=M.lt m this;omega
  have⟨hops,hgd⟩:=AMu s R M.closed M.lt l a0 V ai;by_cases Q:c<m
  .have⟨o',b0,hs⟩:=s.step c Q;rw[l]at b0;cases b0;have b3:vT (F c) (B2 c).heap.get j.get:=ALs (λar id b6=>by
    rw[M.heap,AJc s R M.closed M.lt l Q V ai ar b6]) λ_ bc id cm bx=>by
    rw[M.heap,AE6 s R M.closed M.lt l Q V ai bc b2 bx,bx]
   have⟨v,h2',e1,e2,e3,e4⟩:=VF (ro:=ro) bn bo cc l (s.lw c a0) hs hops hgd b3 bs;have bh:O0 A q w nt (Ll a B2 D m) (B2 c).defs j r:=by rw[s.defs c a0];exact M.s
   refine e4 A q w r M.ws.hr (M.fresh c a1 V) bh _ _ λbk b1 ⟨bi,g1,s1⟩=>?_;rw[AIr s R M.closed M.lt l Q V e1,s.defs (c+1) Q]at s1;have ch:=UZ V a1;refine be (Re D c) _ bi b1 bk h2' ⟨rJ M.closed l ai,λk B=>?_,by simp[M.size],λk B=>?_,λid=>?_,s1,M.ws.trans (g1.up (FN _ _)),λk B ad=>?_,?_⟩ z
   .by_cases e:k=c
    .omega
    .rw[Ko D e]at B;exact M.lt k B
   .by_cases e:k=c
    .grind [LG]
    .rw[Ko D e,Io (Ne.symm e)];exact M.list k B
   .rw[e3,<-AE5 s R M.closed M.lt Q V id];rcases gL (F c).wr id with ag|hw
    .rw[Gy ag,Gy ag,M.heap]
    .rw[hw,hw]
   .by_cases e:k=c
    .grind [LG]
    .rw[Ko D e]at ad;exact(M.fresh k B ad).other z g1.out
   .exact λn ag=>(M.freshFrom n ag).other z g1.out
  ·
   have b7:c=m:=z;subst b7;rcases a6 with⟨_,b9,_⟩|⟨v,x,rfl,b9,a5,ar,b'⟩
   .omega
   .rw[l]at ar;cases ar;have Y:∀H,H<c->D H=true:=λH ac=>by have b8:H<a.size:=z;exact Na R M.closed l ai (R.alone H c _ o ac (D9 b8) l (.inr a5))
    have aa:Ll a B2 D c=(B2 c).env.get:=by funext t;exact Wa s.env (D4 _) λH ac _=>Y H ac
    have az:∀id,(B2 c).heap.get id=j.get id:=λid=>by rw[M.heap];exact(Pr (s.nl id) (D4 _) λH ac h=>by rw[Y H ac]at h;cases h).symm
    have⟨h2',e1,e2,e3,e4,e5⟩:=ZN (ro:=ro) bn bo l (s.lw c a0) b' hops hgd az bs;have bh:O0 A q w nt (Ll a B2 D c) (B2 c).defs j r:=by rw[s.defs c a0];exact M.s
    refine e5 A q w r M.ws.hr (M.fresh c a1 V) bh _ _ λbk b1 p ⟨bi,g1,s1,hv⟩=>?_;have g:=M.ws.trans (g1.up (FN _ _));refine⟨v,p,bi,rfl,rfl,⟨⟨g.out,g.hr.congr e4,by rw[<-MS.congr e4];exact g.ol,λL i h2=>?_⟩,?_,?_⟩,?_⟩
    .have⟨k1,k2,k3⟩:=g.kept L i h2;grind
    .rw[e1,e3,<-aa];exact s1.congr e4
    .exact λn ag=>(M.freshFrom n ag).other z g1.out
    .rw[<-MS.congr e4];exact hv
variable{g:St}
theorem AIn(e:PC P O C)(j:Dz P W K)(v:fr.rnd=Z->ro=I)(ad:P.follows .mixedOrders=X)(N:WE a ge alone)(l:∀o∈a,∀d,o.dst=J d->d<nt.n){id:Nat}{f:St}{out:Option y}(D:LW W g.heap)(M:Du C K fr a b alone a.toList 0 g=.ok ((out,f),k)) (ag:E3 fr.π b k ge=X):
 f.base=g.base/\LW W f.heap/\∀(A:Nat->Prop) (q:BB) (w:G5) (r:OA),HR A q w g.heap->O0 A q w nt g.env.get g.defs g.heap r->C8 q fr.π b->
  (Code.region id a X).wpIn (FF ro) 0 P (iH A fr.ci fr.π nt q w g.heap out f (b+a.size)) r w:=by
 have⟨hb0,hL0,_⟩:=th (ro:=ro) e j v l a.toList 0 g f k out (GS _) rfl D M;refine⟨hb0,hL0,λA q w r H s p=>?_⟩;obtain⟨B2,F,m,i,h2,rfl,aa,ac⟩:=ZC a.toList 0 g f k out (GS _) rfl M;have T:=AM3 (ro:=ro) e j v N l ag h2 D λB c=>aa B (GS _) c;refine wpIn_region_any ad ?_;have Q:({w with drawn:=w.drawn+1}:G5).heap=w.heap:=rfl
 have R:=H.heap Q ⟨rfl,rfl⟩;have L:E5 A (MS A q (B2 0).heap) w (MS A q (B2 0).heap) {w with drawn:=w.drawn+1}:=U7 Q ⟨rfl,rfl⟩ _
 have V:Ll a B2 (λ_=>Z) m=(B2 0).env.get:=by
  funext t;have:∀n,Ll a B2 (λ_=>Z) n t=(B2 0).env.get t:=by intro n;induction n with|zero=>rfl|succ n x=>simp[Ll,x]
  exact this m
 have Y:∀id,(B2 0).heap.get id=JD B2 F (λ_=>Z) m id:=by
  intro id;have:∀n,JD B2 F (λ_=>Z) n id=(B2 0).heap.get id:=by intro n;induction n with|zero=>rfl|succ n x=>simp[JD,x]
  exact(this m).symm
 refine ALz e j v N l T (λar id ai _=>?_) ac a.size (λ_=>Z) _ q _ r (B2 0).heap ⟨λ_ _ _ h=>zCT,λ_ h=>zCT,AG,λB c=>?_,Y,?_,?_,λaz _ _=>p _ z,p.mono z⟩ ?_
 .rcases hg:(B2 0).heap.get id with _|av
  .rfl
  .have⟨B,c,_⟩:=H.obj id av hg;rw[p (b+ar) z id ai]at c;cases c
 .grind
 .rw[V];exact s.mono (.refl q) L
 .exact⟨λ_ _=>rfl,R,L,λ_ _ _=>⟨λ_ _ _=>rfl,λ_ h=>.inl h,λ_ _=>rfl⟩⟩
 grind [List.countP_le_length]
variable{A:Nat->Prop}{P:JH}{j:List H5}{k m r:BB}{w D F:G5}{M:Nat->Prop}{h K L:S}{f O:u}{ci:Option u}{q:NT}{env:Nat->y}{Q R:List Df}{a:OA}{ro:Option Nat}{W:Lp->Prop}
theorem HC:∀{c:List u} {n:Nat} {x b:u},E2 f c n x=J b->∃a t,c[a]?=J x/\b=t::(n+a)::f
 |[],n,x,b,h=>by simp[E2]at h|l::c,n,x,b,h=>by
  simp only[E2]at h;split at h
  .rename_i e;rw[Id.is_iff]at e;subst e;simp only[F4]at h;exact⟨0,_,rfl,h.symm⟩
  .have⟨a,t,i,h2⟩:=HC h;exact⟨a+1,t,by simpa using i,by rw[h2];congr 2;omega⟩
theorem Vq{a:List u}{x l b:u}(i:E2 f a 0 x=J b)(h2:E2 f a 0 l=J b):x=l:=by grind [HC]
theorem JQ(b:u->Option u)(a:List y):Dn b a=a.map (ren b):=by induction a with|nil=>rfl|cons v a c=>simp[Dn,c]
variable{j:BB}{m:Nat->Prop}{f:u->Option u}
theorem Y5(A:∀x e,f x=J e->j e=k x)(C:∀b,m b->M b){x:y}{v:Hk}(h:VR k w M x v):VR j w m (ren f x) v:=by
 have cells:∀{r:List y} {c:Array Hk},(∀(g:Nat) (x:y) (v:Hk),r[g]?=J x->c[g]?=J v->VR j w m (ren f x) v)->
  ∀(g:Nat) (x:y) (v:Hk),(Dn f r)[g]?=J x->c[g]?=J v->VR j w m x v:=by
  intro r c s g x v F V;rw[JQ,BY,Be]at F;obtain⟨l,W,rfl⟩:=F;exact s g l v W V
 induction h with
 |d h=>simp only[ren];exact .d (h.mono (A:=λ_=>False) (HY C w))|d8=>exact .d8|emp a=>exact .emp a
 |ii B H len q a cap n T D O=>
  simp only[ren];split
  .rename_i e o;exact .ii e H len q a cap zCp T D O
  .exact .undef _
 |ptr B H q n=>
  simp only[ren];split
  .rename_i e o;exact .ptr e H q zCp
  .exact .undef _
 |rg B g H q n=>
  simp only[ren];split
  .rename_i e o;exact .rg e g H q zCp
  .exact .undef _
 |iptr r b H c elem fr P R D Q=>simp only[ren];exact .iptr r b H c elem fr P (λh=>R (C _ h)) D λg x v i h2=>(Q g x v i h2).mono (A:=λ_=>False) (HY C w)|fn N a b K L i h2 _ _ Y aa=>simp only[ren];exact .fn N _ _ K L zDR zDR (cells Y) (cells aa)
 |yld B q n=>
  simp only[ren];split
  .rename_i e o;exact .yld e q zCp
  .exact .undef _
 |mp B q n=>
  simp only[ren];split
  .rename_i e o;exact .mp e q zCp
  .exact .undef _
 |iface t v p _ s=>simp only[ren];exact .iface t _ p s|agg r c i _ s=>simp only[ren];exact .agg _ c zDR (cells s)|kw r c i _ s=>simp only[ren];exact .kw _ c zDR (cells s)|undef v=>exact .undef v
theorem wU(f:u->Option u)(e:CN)(t:Nat):CN.get (e.map λa=>(a.1,ren f a.2)) t=ren f (e.get t):=by induction e with|nil=>rfl|cons a e b=>grind [CN.get_cons]
theorem AKK(L:∀x P,f x=J P->j P=k x)(A:∀b,m b->M b){O:WK}{o:Obj}(h:O6 k w M O o):O6 j w m O (EO f o):=by
 have H:∀{x:Au} {v:Hk},DR w M x v->DR w m x v:=λh=>h.mono (A:=λ_=>False) (HY A w);cases o with
 |box av=>obtain⟨c,elem,i,h2⟩:=h;refine⟨c,elem,i,by rw[JQ,BV];exact h2.1,λp x v D K=>?_⟩;rw[JQ,BY,Be]at D;obtain⟨l,ar,rfl⟩:=D;exact Y5 L A (h2.2 p l v ar K)|f9 N B=>obtain⟨c,elem,i,h2,g,n,q,r,s⟩:=h;exact⟨c,elem,i,h2,g,n,q,r,λp x v a b=>H (s p x v a b)⟩
 |rt N B=>
  rcases h with h|⟨ac,c,elem,fr,i,h2,g,n,q,r,s⟩
  .exact .inl h
  .exact .inr ⟨λh=>ac (A _ h),c,elem,fr,i,h2,g,n,q,r,λp x v a b=>H (s p x v a b)⟩
 |arr N B=>
  obtain⟨c,elem,i,h2,g,n,q,r,s⟩:=h;have az:(B.map (Dn f)).flatten=B.flatten.map (ren f):=by rw[Rd];congr 1;exact Ms λx _=>JQ f x
  refine⟨c,elem,i,h2,g,n,λe aa=>?_,by grind,λp x v D K=>?_⟩
  .grind [JQ]
  grind [Y5]
 |map B=>
  obtain⟨R,Q,i,Y,F,ag,ai,h2,g⟩:=h;have W:Km B->Km (B.map λC=>(C.1,ren f C.2)):=λ⟨a0,k2⟩=>⟨λC ad=>by grind,by rw[QR];exact k2⟩
  refine⟨R,Q,i,Y,F,ag,ai.imp (λh=>h) W,by grind,λp C e ad aa=>?_⟩;grind [Y5]
 |loop a1=>obtain⟨F,i,h2,g,n,q,r,s,V,T⟩:=h;refine⟨F,i,h2,g,n,q,r,s,V,λt=>?_⟩;rw[wU];exact Y5 L A (T t)
def fe(f:u->Option u)(o:Obj):(EO f o).mut=o.mut:=by cases o<;>rfl
theorem GM{f:u->Option u}:∀{g:List u} {c:u} {b:Obj},(Ey h f g).get c=J b->∃x o,h.get x=J o/\f x=J c/\b=EO f o
 |[],c,b,a=>by simp[Ey]at a|x::g,c,b,a=>by
  simp only[Ey]at a;split at a
  .rename_i o j i h2;rw[S.get_cons]at a;split at a
   .rename_i e;subst e;cases a;exact⟨x,o,i,h2,rfl⟩
   .exact GM a
  .exact GM a
def YX(e:CN):∀(l:u) (t:Nat),CN.get (l.map λt=>(t,e.get t)) t=e.get t\/CN.get (l.map λt=>(t,e.get t)) t=.undef
 |[],t=>.inr rfl|k::l,t=>by
  simp only[Bv,CN.get_cons];split
  .rename_i h;subst h;exact .inl rfl
  .exact YX e l t
theorem ADj{b:Nat}(H:HR A k w g.heap)(s:O0 A k w q g.env.get g.defs g.heap a)(a1:C8 k fr.π g.base)(Q:fr.raw=Z->∀r,k r≠I->fr.π<:+r):
 ∃j,CP A ci fr.π k w g.heap j w (Ff C fr b g).heap/\O0 A j w q (Ff C fr b g).env.get (Ff C fr b g).defs (Ff C fr b g).heap a/\C8 j fr.π (Ff C fr b g).base:=by
 unfold Ff;simp only;split
 .refine⟨k,CP.refl H,⟨s.sz,λt=>?_,s.defs⟩,a1⟩;simp only;exact zB4
 .rename_i V;simp only[Qr,not_or,Bool.not_eq_true,Bool.not_eq_eq_eq_not,Bool.not_not]at V;obtain⟨a4,a0⟩:=V;have Q:=Q a4;have az:g.defs=[]:=by simpa using a0
  generalize bi:C9 g.heap 1000 (Gi [] (((C.live fr.f b).map λt=>(t,g.env.get t)).flatMap λbh=>AE bh.2)) 0=K
  classical
  let f:=E2 fr.π K 0
  let j:BB:=λc=>if v:∃x,f x=J c then k v.choose else I
  have F:∀x c,f x=J c->j c=k x:=by intro x c p;have v:∃x,f x=J c:=⟨x,p⟩;simp only[j,dif_pos v];rw[Vq v.choose_spec p]
  have T:∀c h,j c=J h->∃x,f x=J c/\k x=J h:=by
   intro c h m;by_cases v:∃x,f x=J c
   .grind
   .grind
  have a3:∀x c,f x=J c->∃M t,M<U K/\c=t::M::fr.π:=by intro x c p;have⟨M,t,i,h2⟩:=HC p;exact⟨M,t,(BE.1 i).1,by rw[h2,I9]⟩
  have bl:∀x c,f x=J c->fr.π<:+c:=by intro x c p;obtain⟨M,t,_,rfl⟩:=a3 x c p;exact(FN _ _).trans (FN _ _)
  have N:∀b,MS A j (Ey g.heap f K) b->MS A k g.heap b:=by
   rintro b (O|⟨c,o,h,i,h2,R,rfl⟩)
   .exact .inl O
   .obtain⟨x,L,B,D,rfl⟩:=GM i;rw[fe]at h2;rw[F x c D]at R;exact .inr ⟨x,L,h,B,h2,R,rfl⟩
  have ai:HR A j w (Ey g.heap f K):=by
   refine⟨λc o P=>?_,λl c bn bo a' bc a5 v ac ad W Y e=>?_,λc h m=>?_,λc o h P aa m=>?_,H.abnd⟩
   .obtain⟨x,L,B,D,rfl⟩:=GM P;have⟨h,m,hr⟩:=H.obj x L B;exact⟨h,by rw[F x c D];exact m,AKK F N hr⟩
   .obtain⟨x,L,B,D,rfl⟩:=GM a5;obtain⟨ag,be,ar,av,rfl⟩:=GM v;rw[fe]at ac ad;rw[F x l D]at W;rw[F ag c av]at Y;have:=H.inj x ag L be a' bc B ar ac ad W Y e;grind
   .have⟨x,_,p⟩:=T c h m;exact H.bnd x h p
   .obtain⟨x,L,B,D,rfl⟩:=GM P;rw[fe]at aa;rw[F x c D]at m;exact H.out x L h B aa m
  refine⟨j,⟨λr a2=>?_,ai,⟨λ_ _ _=>rfl,D4 _,λb O=>.inl (N b O),rfl,rfl⟩,λbs a6 _=>⟨λ_ _ _=>rfl,?_,λr a2=>?_⟩⟩,⟨s.sz,λt=>?_,?_⟩,λn bk c v=>?_⟩
  .grind
  .rintro b ⟨c,h,i,h2,rfl⟩;have⟨x,p,m⟩:=T c h h2;exact .inl ⟨x,h,a6.trans (Q x (by rw[m];simp)),m,rfl⟩
  .have i:(Ey g.heap f K).get r=none:=by
    rcases hg:(Ey g.heap f K).get r with _|o
    .rfl
    .grind [GM]
   have h2:g.heap.get r=none:=by
    rcases hg:g.heap.get r with _|o
    .rfl
    .have⟨h,m,_⟩:=H.obj r o hg;grind
   rw[h2];exact i
  .simp only;rw[wU];refine Y5 F N ?_;exact zB4
  .have:=s.defs;rw[az]at this;rcases hd:a.defers with _|⟨d,K⟩
   .trivial
   .rw[hd]at this;exact this.elim
  grind [Mj]
