/- P -/
import Derived.KernelRfl
import Derived.Test.YtbinfhpngacfgaaGreatUs10
set_option linter.all false
set_option maxRecDepth 99999
set_option maxHeartbeats 0
open Go renaming Oper->H0,TypeId->H5,Program->JH,FuncId->KH,Code->L2,Operand->M3,Tmp->M5,Func->Qm
open List renaming replicate->TL,take->WA,range->WO,length->U
open Nat renaming beq->Wm,ble->W0
open Go.IntKind renaming i64->TC
open Option renaming some->J,none->I
open Bool renaming true->X,false->Z
namespace Go
variable{p:Prop}
def zCe(h:p:=by simp only[go_sem]):p:=h
def zCo(h:p:=by split<;>omega):p:=h
def zCy(h:p:=by unfold BO;omega):p:=h
def zDA(h:p:=by simp only[Bc.okR,h,Es,I5]):p:=h
def zDU(h:p:=by grind [AI,under_iff,List.suffix_cons]):p:=h
end Go
namespace Go
variable{p:Prop}
def zAM(h:p:=by
 clear b
 (repeat' (first|simp only[*,go_sem]|(refine sx ?_ ?_<;>intro c)|refine sy z λa f e=>?_|simp(disch:=first|assumption|omega) only[Ae]))
 all_goals grind [Bz.formed]):p:=h
def zAj(h:p:=by
 have:a.data.toList.all O8=false:=by rw[c.1,Aq e,EX,Ur z];rfl
 simp[GQ,this]):p:=h
def zAs(h:p:=by
 clear b
 (repeat' (first|simp only[*,go_sem]|(refine sx ?_ ?_<;>intro e)|refine sy z λa g f=>?_|simp(disch:=first|assumption|omega) only[Ae,Ve]))
 all_goals grind [Bz.ok]):p:=h
def zA4(h:p:=by rw[fT];rw[e.1,Aq f,EX,show Da d k=Z by simp[Da];omega,Es]):p:=h
def zA5(h:p:=by rw[U1];rw[e.1,Aq f,EX,show Bt d c=Z by simp[Bt];omega,Es]):p:=h
def zBX(h:p:=by have:=congrArg U b;simp at this):p:=h
def zBa(h:p:=by
 have:a.data.toList.all O8=true:=by rw[c.1,D7 z];rfl
 have f:1<=a.size:=z;have g:a.size<=8:=z;simp[GQ,this,f,g,hk]):p:=h
def zBh(h:p:=by simp[PX];cases PT i.kind (.d (.str a)) (.d (.str c))<;>rfl):p:=h
def zBu(h:p:=by have:=a.length_le;simp at this;omega):p:=h
def zB8(h:p:=by exact .inl ⟨rfl,rfl⟩):p:=h
def zCK(h:p:=by
 have:a.data.toList.all O8=false:=by rw[e.1,Aq c,EX,Ur z];rfl
 simp[GQ,this]):p:=h
end Go
namespace Go.Abs
variable{P:JH}{C:C7}{A:List H5}
abbrev Nv:=List (KH×List y×y)
def Nv.look:Nv->KH->List y->Option y
 |[],_,_=>I|(g,bs,r)::l,f,az=>match Wm g f with
  |true=>match y.sames bs az with|true=>J r|false=>Nv.look l f az
  |false=>Nv.look l f az
def Nv.Known(P:JH)(C:C7)(e:Nv):Prop:=∀b a c,(b,a,c)∈e->KL P C (.fn b) a [] [] Z I=.ok (.ret c,[])
theorem Nv.look_mem:∀{a:Nv} {c:KH} {b:List y} {e:y},a.look c b=J e->(c,b,e)∈a
 :=by intro f;induction f<;>grind [Nv.look,Nat.eq_of_beq_eq_true,y.sames_eq]
def Nv.ask(a:Nv)(c:KH)(b:List y):S->u->Bool->Option u->Option y
 |[],[],Z,I=>a.look c b|_,_,_,_=>I
def Kg(P:JH)(C:C7)(c:Nv)(b:Nat):Nat->Af
 |0=>λ_ _ _ _ _ _=>.err [25]|n+1=>λh args e f raw ci=>match h with
  |.fn a=>match c.ask a args e f raw ci with|some r=>.ok (.ret r,[])|none=>match C.qr a with|true=>Tn P C (Kg P C c b n) b a args e f raw ci|false=>.err [41,a]
  |.round g r=>match raw with|true=>JR C (Kg P C c b n) b g r args e f ci|false=>.err [42]
variable{T:Nv}{m:Nat}
def XY(f:T.Known P C):∀{n:Nat} {q:Qu} {c:BC×S},ask (Kg P C T m n) q=.ok c->ask (KL P C) q=.ok c
 |0,q,c,g=>by simp[ask,Kg]at g|n+1,⟨j,args,g,π,raw,ci⟩,c,a=>by
  simp[ask,Kg]at a⊢;cases j with
  |fn k=>
   simp only at a;split at a
   .rename_i h b;cases a;unfold Nv.ask at b;split at b
    .exact f _ _ _ (Nv.look_mem b)
    .cases b
   .split at a
    .rename_i i;have⟨L,hL⟩:=SH a;exact vi i (n:=m) (hL _ m (D4 _) λq _ h e=>XY f e)
    .cases a
  |round o p=>
   simp only at a;split at a
   .rename_i l;have⟨L,hL⟩:=Mx a;exact iG (n:=m) (hL _ m (D4 _) λq _ h e=>XY f e)
   .cases a
variable{f:KH}{k:List y}{r:y}
def Nr(b:T.Known P C)(m c:Nat)(a:Kg P C T m c (.fn f) k [] [] Z I=.ok (.ret r,[])):KL P C (.fn f) k [] [] Z I=.ok (.ret r,[]):=XY (q:=⟨.fn f,k,[],[],Z,I⟩) b a
def Nv.known_nil:Nv.Known P C []:=λ_ _ _ h=>by cases h
def Nv.known_cons(b:KL P C (.fn f) k [] [] Z I=.ok (.ret r,[]))(c:T.Known P C):Nv.Known P C ((f,k,r)::T):=λh g i e=>by
 rcases Cs.1 e with a|a
 .cases a;exact b
 .exact c _ _ _ a
variable{P:JH}{C:C7}{K:Af}{c:Fr}{b n i:Nat}{Q:DZ->St->Prop}
def Wp(C:C7)(K:Af)(c:Fr)(b:Nat)(f:L2)(g:St)(Q:DZ->St->Prop):Prop:=∃n e a,exec C K c n b f g=.ok (e,a)/\Q e a
theorem Wb{n b:Nat}{e:L2}{f:St}{r:DZ×St}(a:exec C K c n b e f=.ok r)(g:n<=m):exec C K c m b e f=.ok r:=by have⟨L,hL⟩:=Qi n b e f (E.good_of a);rw[hL K m g (λ_ _ _ a=>a),a]
def ZF(C:C7)(K:Af)(c:Fr)(b:Nat)(f:L2)(Q:DZ->St->Prop):DZ->St->Prop
 |.normal,a=>Wp C K c b f a Q|e,a=>Q e a
def KU(c:Nat)(Q:DZ->St->Prop):DZ->St->Prop
 |.exit b,a=>match Wm b c with|true=>Q .normal a|false=>Q (.exit b) a
 |e,a=>Q e a
def Pb(C:C7)(K:Af)(c:Fr)(b:Nat)(e f:L2)(a:St)(Q:DZ->St->Prop):y->Prop
 |.d (.bool X)=>Wp C K c b e a Q|.d (.bool Z)=>Wp C K c b f a Q|_=>False
def JL(C:C7)(K:Af)(c:Fr)(e:Array H0)(b n:Nat)(al:Nat->Bool)(a:List H0)(i:Nat)(f:St)(Q:DZ->St->Prop):Prop:=match Du C K c e b al a i f with|.ok ((I,d9),_)=>Q .normal {d9 with base:=b+n}|.ok ((J v,d9),_)=>Q (.of v) {d9 with base:=b+n}|.err _=>False
def JZ(C:C7)(K:Af)(c:Fr)(h:Array H0)(b n:Nat)(al:Nat->Bool)(e:List (Nat×Nat))(a:List Fp)(g:List H0)(i:Nat)(j:St)(Q:DZ->St->Prop):Prop:=match Du C K c h b al g i j with|.ok ((I,d9),f)=>E3 c.π b (a++f) e=X/\Q .normal {d9 with base:=b+n}|.ok ((J v,d9),f)=>E3 c.π b (a++f) e=X/\Q (.of v) {d9 with base:=b+n}|.err _=>False
theorem RB(e k:L2)(h:St)(i:Oj C c.f e=I):Wp C K c b (.seq e k) h Q=Wp C K c b e h (ZF C K c b k Q):=by
 refine propext ⟨λ⟨n,g,d9,a,hq⟩=>?_,λ⟨n,g,d9,a,hq⟩=>?_⟩
 .rcases n with _|n
  .simp[exec]at a
  .simp[exec,i]at a;cases f:exec C K c n b e h with
   |err s=>rw[f]at a;cases a
   |ok r=>
    rw[f]at a;obtain⟨j,p⟩:=r;refine⟨n,j,p,f,?_⟩;cases j<;>simp only[Ec]at a
    .exact⟨n,g,d9,a,hq⟩
    all_goals (cases a;exact hq)
 .cases g with|normal=>obtain⟨m,o,q,t,l⟩:=hq;refine⟨max n m+1,o,q,?_,l⟩;grind [exec,Wb,Ec]|_=>exact⟨n+1,_,d9,by simp[exec,i,a,Ec],hq⟩
def pN(C:C7)(K:Af)(c:Fr)(b:Nat)(f g:L2)(a:St)(Q:DZ->St->Prop):Option tl->Prop
 |none=>Wp C K c b f a (ZF C K c b g Q)|some e=>match e.act c a with|.ok (o,d9)=>Q o d9|.err _=>False
theorem AK4(e:Nat)(f:Array H0)(d:Bool)(j:L2)(i:St):Wp C K c b (.seq (.region e f d) j) i Q=pN C K c b (.region e f d) j i Q (C.spec c.f e):=by
 rcases hs:C.spec c.f e with _|m
 .exact RB _ _ _ (by simp[Oj,hs])
 .have l:Oj C c.f (.region e f d)=J m.act:=by simp[Oj,hs]
  refine propext ⟨λ⟨n,h,g,a,hq⟩=>?_,λa=>?_⟩
  .rcases n with _|n
   .simp[exec]at a
   .grind [exec,pN]
  .simp[pN]at a;split at a
   .rename_i h g k;exact⟨1,h,g,by simp[exec,l];exact k,a⟩
   .exact a.elim
theorem AB2(e f:L2)(a:St):pN C K c b e f a Q I=Wp C K c b e a (ZF C K c b f Q):=rfl
def AK5(e g f:L2)(a:St):Wp C K c b (.seq (.seq e g) f) a Q=Wp C K c b (.seq e g) a (ZF C K c b f Q):=RB _ _ _ rfl
def AK3(a:M3)(f h g:L2)(e:St):Wp C K c b (.seq (.cond a f h) g) e Q=Wp C K c b (.cond a f h) e (ZF C K c b g Q):=RB _ _ _ rfl
def AK2(a:Nat)(f g:L2)(e:St):Wp C K c b (.seq (.block a f) g) e Q=Wp C K c b (.block a f) e (ZF C K c b g Q):=RB _ _ _ rfl
def AK1(a:Nat)(f:L2)(e:St):Wp C K c b (.seq (.label a) f) e Q=Wp C K c b (.label a) e (ZF C K c b f Q):=RB _ _ _ rfl
def AHt(e:L2)(a:St):Wp C K c b (.scope e) a Q=Wp C K c b e a Q:=by
 refine propext ⟨λ⟨n,o,d9,h,hq⟩=>?_,λ⟨n,o,d9,h,hq⟩=>⟨n+1,o,d9,by simp[exec];exact h,hq⟩⟩;rcases n with _|n
 .simp[exec]at h
 .exact⟨n,o,d9,by simp[exec]at h;exact h,hq⟩
def AKx(k:M3)(f g:L2)(e:St):Wp C K c b (.cond k f g) e Q=Pb C K c b f g e Q (ev e.env.get k):=by
 have o:∀{m:y} {f g:L2} (l:∀n,exec C K c (n+1) b (.cond k f g) e=NG m (exec C K c n b f e) (exec C K c n b g e)),Wp C K c b (.cond k f g) e Q=Pb C K c b f g e Q m:=by
  intro m f g l;refine propext ⟨λ⟨n,j,h,a,i⟩=>?_,λa=>?_⟩
  .rcases n with _|n
   .simp[exec]at a
   .rw[l]at a;unfold NG at a;split at a
    .rename_i p;cases p
     .exact⟨n,j,h,a,i⟩
     .exact⟨n,j,h,a,i⟩
    .cases a
  .unfold Pb at a;split at a
   .obtain⟨n,j,h,a,i⟩:=a;exact⟨n+1,j,h,by rw[l];exact a,i⟩
   .obtain⟨n,j,h,a,i⟩:=a;exact⟨n+1,j,h,by rw[l];exact a,i⟩
   .exact a.elim
 exact o λn=>by simp[exec]
theorem AHp(e:Nat)(i:L2)(h:St):Wp C K c b (.block e i) h Q=Wp C K c e i h (KU e Q):=by
 refine propext ⟨λ⟨n,j,d9,a,hq⟩=>?_,λ⟨n,j,d9,a,hq⟩=>?_⟩
 .rcases n with _|n
  .simp[exec]at a
  .simp[exec]at a;cases f:exec C K c n e i h with
   |err m=>rw[f]at a;cases a
   |ok r=>rw[f]at a;obtain⟨k,l⟩:=r;refine⟨n,k,l,f,?_⟩;cases k with|exit g=>grind [JM,KU]|_=>cases a;exact hq
 .cases j with
  |exit g=>
   simp[KU]at hq;rcases hk:Wm g e with _|_
   .rw[hk]at hq;exact⟨n+1,.exit g,d9,by simp[exec,a,JM,hk],hq⟩
   .rw[hk]at hq;exact⟨n+1,.normal,d9,by simp[exec,a,JM,hk],hq⟩
  |_=>exact⟨n+1,_,d9,by simp[exec,a,JM],hq⟩
theorem VQ{f:L2}{h:St}{e:DZ}{a:St}(i:∀n,exec C K c (n+1) b f h=.ok (e,a)):Wp C K c b f h Q=Q e a:=by
 refine propext ⟨λ⟨n,o1,st1,h1,g⟩=>?_,λg=>⟨1,e,a,i 0,g⟩⟩;rcases n with _|n
 .simp[exec]at h1
 .grind
def AK6(a:St):Wp C K c b .skip a Q=Q .normal a:=VQ λ_=>rfl
def qE(e:Nat)(a:St):Wp C K c b (.label e) a Q=Q .normal a:=VQ λ_=>rfl
def ANJ(a:St):Wp C K c b .ret a Q=Q .ret a:=VQ λ_=>rfl
def AKz(a:Nat)(e:St):Wp C K c b (.exit a) e Q=Q (.exit a) e:=VQ λ_=>rfl
theorem SS(g:Nat)(i:Array H0)(e:Bool)(j:St):Wp C K c b (.region g i e) j Q=match EK C K c g i e j with|.ok (h,a)=>Q h a|.err _=>False:=by
 cases f:EK C K c g i e j with
 |ok r=>obtain⟨h,a⟩:=r;exact VQ λn=>by simp[exec,f]
 |err k=>
  refine propext ⟨λ⟨n,h,a,h1,hq⟩=>?_,λf=>f.elim⟩;rcases n with _|n
  .simp[exec]at h1
  .grind [exec]
def ACV(i:Nat)(a:Array H0)(g:CN)(h:S)(e:Nat)(f:List Df):Wp C K c b (.region i a Z) ⟨g,h,e,f⟩ Q=JL C K c a e a.size (λ_=>X) a.toList 0 ⟨g,h,e,f⟩ Q:=by rw[SS];unfold EK JL;simp only[TO,Bool.true_or];cases Du C K c a e (λ_=>X) a.toList 0 ⟨g,h,e,f⟩with|err m=>rfl|ok r=>obtain⟨⟨j,k⟩,l⟩:=r;cases j<;>simp[LP]
def AHq(f:Nat)(a:Array H0)(h:CN)(j:S)(e:Nat)(g:List Df)(k:C.ge c.f f=[]):Wp C K c b (.region f a X) ⟨h,j,e,g⟩ Q=JL C K c a e a.size (λi=>C.alone c.f f i) a.toList 0 ⟨h,j,e,g⟩ Q:=by rw[SS];unfold EK JL;simp only[RG,Ol];cases Du C K c a e (λi=>C.alone c.f f i) a.toList 0 ⟨h,j,e,g⟩with|err o=>rfl|ok r=>obtain⟨⟨l,m⟩,n⟩:=r;cases l<;>simp[LP,k,E3]
def AKy(f:Nat)(e:Array H0)(h:CN)(j:S)(a:Nat)(g:List Df){k:List (Nat×Nat)}(m:C.ge c.f f=k):Wp C K c b (.region f e X) ⟨h,j,a,g⟩ Q=JZ C K c e a e.size (λi=>C.alone c.f f i) k [] e.toList 0 ⟨h,j,a,g⟩ Q:=by rw[SS];unfold EK JZ;simp only[RG,Ol,DL];cases Du C K c e a (λi=>C.alone c.f f i) e.toList 0 ⟨h,j,a,g⟩with|err q=>rfl|ok r=>obtain⟨⟨o,p⟩,l⟩:=r;subst m;cases o<;>cases n:E3 c.π a l (C.ge c.f f)<;>simp[LP,n]
theorem pQ(e:L2)(a:St):ZF C K c b e Q .normal a=Wp C K c b e a Q:=rfl
theorem AB3(f:L2)(a:Nat)(e:St):ZF C K c b f Q (.exit a) e=Q (.exit a) e:=rfl
theorem AG0(e:L2)(a:St):ZF C K c b e Q .ret a=Q .ret a:=rfl
theorem AGz(f:L2)(e:y)(a:St):ZF C K c b f Q (.of e) a=Q (.of e) a:=rfl
theorem Ze(b:Nat)(a:St):KU b Q .normal a=Q .normal a:=rfl
theorem qk(b:Nat)(a:St):KU b Q .ret a=Q .ret a:=rfl
theorem qj(c:Nat)(b:y)(a:St):KU c Q (.of b) a=Q (.of b) a:=rfl
def iz(a:Nat)(b:St):KU a Q (.exit a) b=Q .normal b:=by simp[KU]
def Sf(b a:Nat)(c:St)(e:Wm a b=Z):KU b Q (.exit a) c=Q (.exit a) c:=by simp[KU,e]
theorem rK(e f:L2)(a:St):Pb C K c b e f a Q (.d (.bool X))=Wp C K c b e a Q:=rfl
theorem jX(f e:L2)(a:St):Pb C K c b f e a Q (.d (.bool Z))=Wp C K c b e a Q:=rfl
variable{t:Bool}
def jY{e f:L2}{a:St}(g:t=X->Wp C K c b e a Q)(h:t=Z->Wp C K c b f a Q):Pb C K c b e f a Q (.d (.bool t)):=by
 cases t
 .exact h rfl
 .exact g rfl
variable{a:Array H0}{al:Nat->Bool}{l:List H0}{e:CN}{h:S}{j:Nat}{g:List Df}{p:List (Nat×Nat)}{o:List Fp}
def Jo(C:C7)(K:Af)(c:Fr)(a:Array H0)(b n:Nat)(al:Nat->Bool)(l:List H0)(i:Nat)(k:Option M5)(e:CN)(h:S)(j:Nat)(g:List Df)(Q:DZ->St->Prop):Option C3->Prop
 |some f=>Jv c.ci f.δ=X/\JL C K c a b n al l (i+1) ⟨Dj e k f.v,h.puts f.δ,j,g⟩ Q|none=>False
def EH(C:C7)(K:Af)(c:Fr)(a:Array H0)(b n:Nat)(al:Nat->Bool)(l:List H0)(i:Nat)(Q:DZ->St->Prop):RE->Prop
 |.ok e _=>JL C K c a b n al l (i+1) e Q|.of f e=>al i=X/\Q (.of f) {e with base:=b+n}|.err _=>False
theorem AGW:JL C K c a b n al [] i ⟨e,h,j,g⟩ Q=Q .normal ⟨e,h,b+n,g⟩:=rfl
theorem cT(f:H0)(g:St):JL C K c a b n al (f::l) i g Q=EH C K c a b n al l i Q (DP C K c a ((b+i)::c.π) f g):=by
 unfold JL;simp only[Du,Kx];cases m:DP C K c a ((b+i)::c.π) f g with
 |err e=>rfl|of q h=>grind [EH]
 |ok h j=>simp only[EH,JL];cases k:Du C K c a b al l (i+1) h with|err e=>rfl|ok r=>obtain⟨⟨f,p⟩,o⟩:=r;cases f<;>rfl
def Dt(C:C7)(K:Af)(c:Fr)(a:Array H0)(b n:Nat)(al:Nat->Bool)(l:List H0)(i:Nat)(f:Option M5)(op:Op)(e:St)(g:Bool)(Q:DZ->St->Prop):y->Prop
 |.d (.bool t)=>match t==g with|true=>EH C K c a b n al l i Q (JX C K c ((b+i)::c.π) op f e)|false=>JL C K c a b n al l (i+1) {e with env:=Dj e.env f (.kw [])} Q
 |.kw []=>JL C K c a b n al l (i+1) {e with env:=Dj e.env f (.kw [])} Q|_=>False
theorem AAP(e:Option M5)(op:Op)(f:St):Dt C K c a b n al l i e op f X Q (.d (.bool X))=EH C K c a b n al l i Q (JX C K c ((b+i)::c.π) op e f):=rfl
theorem AAK(e:Option M5)(op:Op)(f:St):Dt C K c a b n al l i e op f Z Q (.d (.bool Z))=EH C K c a b n al l i Q (JX C K c ((b+i)::c.π) op e f):=rfl
theorem AAO(f:Option M5)(op:Op):Dt C K c a b n al l i f op ⟨e,h,j,g⟩ X Q (.d (.bool Z))=JL C K c a b n al l (i+1) ⟨Dj e f (.kw []),h,j,g⟩ Q:=rfl
theorem AAL(f:Option M5)(op:Op):Dt C K c a b n al l i f op ⟨e,h,j,g⟩ Z Q (.d (.bool X))=JL C K c a b n al l (i+1) ⟨Dj e f (.kw []),h,j,g⟩ Q:=rfl
def eu{e:Option M5}{op:Op}{f:St}{g:Bool}(h:t=X->Dt C K c a b n al l i e op f g Q (.d (.bool X)))(j:t=Z->Dt C K c a b n al l i e op f g Q (.d (.bool Z))):Dt C K c a b n al l i e op f g Q (.d (.bool t)):=by
 cases t
 .exact j rfl
 .exact h rfl
theorem ABN(e:Option M5)(op:Op)(g:H5)(pos:String)(af:Array Edge)(f:St):
 JL C K c a b n al (⟨e,op,g,pos,af,I⟩::l) i f Q=EH C K c a b n al l i Q (JX C K c ((b+i)::c.π) op e f):=by grind [cT,DP,OE]
def pf(m:Option M5)(op:Op)(r:Option C3):EH C K c a b n al l i Q (EA c op m ⟨e,h,j,g⟩ r)=Jo C K c a b n al l i m e h j g Q r:=by
 rcases r with _|k
 .rfl
 .simp only[EA,Jo,Mo,Cn,CQ];rcases hw:Jv c.ci k.δ with _|_
  .simp[EH]
  .simp only[true_and];have:∀f:S->RE,j5 h k.δ f=f (h.puts k.δ):=λf=>by
    unfold j5;split
    .rename_i o;rw[o];rfl
    .simp
   rw[this];simp[EH]
def oO(f:Option M5)(k:y):Jo C K c a b n al l i f e h j g Q (J ⟨k,[]⟩)=JL C K c a b n al l (i+1) ⟨Dj e f k,h,j,g⟩ Q:=by
 have:Jv c.ci []=true:=by cases m:c.ci<;>rfl
 simp only[Jo,this,true_and];rfl
theorem tq(m:Option M5)(o:y)(f:u×Obj)(k:S):Jo C K c a b n al l i m e h j g Q (J ⟨o,f::k⟩)=(Jv c.ci (f::k)=X/\JL C K c a b n al l (i+1) ⟨Dj e m o,h.puts (f::k),j,g⟩ Q):=rfl
section
variable(o:Option M5)(p:u)
theorem AJP(x:M3):EH C K c a b n al l i Q (JX C K c p (.panic x) o ⟨e,h,j,g⟩)=EH C K c a b n al l i Q (Hg ⟨e,h,j,g⟩ (ev e.get x)):=rfl
theorem AJO(f:Call):EH C K c a b n al l i Q (JX C K c p (.defer f) o ⟨e,h,j,g⟩)=EH C K c a b n al l i Q (Jz c e.get f o ⟨e,h,j,g⟩):=rfl
def FM(C:C7)(K:Af)(c:Fr)(a:Array H0)(b n:Nat)(al:Nat->Bool)(l:List H0)(i:Nat)(k:List y)(o:Option M5)(e:CN)(h:S)(j:Nat)(g:List Df)(Q:DZ->St->Prop)(r:E (BC×S)):Prop:=EH C K c a b n al l i Q (E4 c k o ⟨e,h,j,g⟩ r)
def XX(C:C7)(K:Af)(c:Fr)(a:Array H0)(b n:Nat)(al:Nat->Bool)(l:List H0)(i:Nat)(o:Option M5)(p:u)(e:CN)(h:S)(j:Nat)(g:List Df)(Q:DZ->St->Prop)(args:List y):y->Prop
 |f=>EH C K c a b n al l i Q (FV C K c p f args o ⟨e,h,j,g⟩)
theorem AJQ(f:M3)(k:Array M3)(m:Array H5):EH C K c a b n al l i Q (JX C K c p (.call ⟨.value f,k,m⟩) o ⟨e,h,j,g⟩)=XX C K c a b n al l i o p e h j g Q (k.toList.map (ev e.get)) (ev e.get f):=rfl
def G4:BC×S->BC×S
 |(.ret v,h)=>(.ret v,h)|(.of v,_)=>(.of v,[])
def Bk(K:Af)(f:KH)(a:List y)(own:u):E (BC×S):=match K (.fn f) a [] own Z I with|.ok r=>.ok (G4 r)|.err l=>.err l
theorem ADP{K:Af}{f:KH}{c:List y}{own:u}{b:y}{h:S}(a:Bk K f c own=.ok (.ret b,h)):K (.fn f) c [] own Z I=.ok (.ret b,h):=by
 unfold Bk at a;split at a
 .rename_i r j;obtain⟨e,i⟩:=r;cases e with|ret g=>grind [G4]|of g=>simp[G4]at a
 .cases a
theorem Vv(c:Fr)(k:List y)(o:Option M5)(b:St)(f:KH)(a:List y)(own:u):E4 c k o b (K (.fn f) a [] own Z I)=E4 c k o b (Bk K f a own):=by unfold Bk;cases K (.fn f) a [] own Z I with|err l=>rfl|ok r=>obtain⟨e,h⟩:=r;cases e<;>rfl
def O3(C:C7)(K:Af)(c:Fr)(a:Array H0)(b n:Nat)(al:Nat->Bool)(l:List H0)(i:Nat)(o:Option M5)(p:u)(e:CN)(h:S)(j:Nat)(g:List Df)(Q:DZ->St->Prop)(f:KH)(k:List y)(m:Mode):Prop:=EH C K c a b n al l i Q (Er K c p f k o ⟨e,h,j,g⟩ m)
theorem ADb(f:KH)(first cap args:List y):XX C K c a b n al l i o p e h j g Q args (.fn f first cap)=O3 C K c a b n al l i o p e h j g Q f (first++args++cap) (C.mode f):=by grind [XX,O3,FV,CC]
def bX(C:C7)(K:Af)(c:Fr)(a:Array H0)(b n:Nat)(al:Nat->Bool)(l:List H0)(i:Nat)(o:Option M5)(p:u)(e:CN)(h:S)(j:Nat)(g:List Df)(Q:DZ->St->Prop)(f:KH)(k:List y)(own:u):Option (List y)->Prop
 |some m=>FM C K c a b n al l i k o e h j g Q (K (.fn f) m [] own Z I)|none=>False
theorem tQ(f:KH)(k:List y)(m:(Fa h.get k).isSome):O3 C K c a b n al l i o p e h j g Q f k .auto=bX C K c a b n al l i o p e h j g Q f k [] (Fa h.get k):=by grind [O3,Er,CC,bX,FM]
theorem ABC(f:KH)(k:List y)(m:(Fa h.get k).isSome):O3 C K c a b n al l i o p e h j g Q f k .own=bX C K c a b n al l i o p e h j g Q f k p (Fa h.get k):=by grind [O3,Er,CC,bX,FM]
theorem AAD(f:KH)(k:List y)(own:u)(m:List y):bX C K c a b n al l i o p e h j g Q f k own (J m)=FM C K c a b n al l i k o e h j g Q (Bk K f m own):=by grind [bX,FM,Vv]
theorem tz(k:List y)(f:y)(m:S)(p:flat f=X):FM C K c a b n al l i k o e h j g Q (.ok (.ret f,m))=JL C K c a b n al l (i+1) ⟨Dj e o f,h,j,g⟩ Q:=by grind [FM,E4,CQ,EH]
theorem ABX(k:List y)(f:y)(m:S)(p:flat f=X):FM C K c a b n al l i k o e h j g Q (.ok (.of f,m))=(al i=X/\Q (.of f) ⟨e,h,b+n,g⟩):=by grind [FM,E4,EH]
theorem ABW(k:List y)(f:y)(m:S)(p:flat f=Z)(q:Dc f m=I):FM C K c a b n al l i k o e h j g Q (.ok (.ret f,m))=(Jv c.ci (k.flatMap (mark h.get))=X/\JL C K c a b n al l (i+1) ⟨Dj e o f,m++h.puts (k.flatMap (mark h.get)),j,g⟩ Q):=by simp only[FM,E4,CQ,p,K8,q,Bu,Cn];grind [EH]
end
def vM(h:S)(e:u)(raw:Bool)(a:BC->S->Prop):Option y->Prop
 |some b=>match raw with|true=>a (.ret b) h|false=>match e with
   |[]=>match frz h.get b with|some c=>a (.ret c) []|none=>False
   |_=>a (.ret b) h
 |none=>False
def Y6(C:C7)(e:CN)(h:S)(a:List ResultVar):Option y:=match R9 (En C ⟨e,h,0,[]⟩) a with|some []=>J (.kw [])|some [v]=>J v|some b=>J (.kw b)|none=>I
def Mr(C:C7)(b:List ResultVar)(c:u)(raw:Bool)(e:CN)(a:BC->S->Prop):E (Option y×S)->Prop
 |.ok (I,h)=>vM h c raw a (Y6 C e h b)|.ok (J v,h)=>a (.of v) h|.err _=>False
def MJ(C:C7)(ci:Option u)(c:List ResultVar)(e:u)(raw:Bool)(b:BC->S->Prop):DZ->St->Prop
 |.ret,a=>Mr C c e raw a.env b (EE C ci a.defs I a.heap)|.normal,a=>Mr C c e raw a.env b (EE C ci a.defs I a.heap)|.of f,a=>Mr C c e raw a.env b (EE C ci a.defs (J f) a.heap)|_,_=>False
theorem Nq{f:KH}{fn:Qm}{s:L2}{t:List ResultVar}{args:List y}{h:S}{j:u}{raw:Bool}{ci:Option u}{k:BC->S->Prop}(B:C.qr f=X)(A:P.funcs[f]?=J fn)(x:fn.body=J s)(H:fn.results.toList=t)(D:W0 (U args) fn.ntmps=X)(L:Wp C (KL P C) {f,π:=j,raw,ci,nt:=fn.ntmps} 0 s ⟨EV 0 args,h,0,[]⟩ (MJ C ci t j raw k)):∃g a,KL P C (.fn f) args h j raw ci=.ok (g,a)/\k g a:=by
 obtain⟨n,g,b,w,m⟩:=L;subst H;have K:∀c,LR C fn {b with heap:=c}=Y6 C b.env c fn.results.toList:=λc=>by
  unfold LR Y6;have e:En C {b with heap:=c}=En C ⟨b.env,c,0,[]⟩:=funext λr=>by cases r<;>rfl
  rw[e];rfl
 have key:∀p,Mr C fn.results.toList j raw b.env k p->∃g a,Yt C f fn j raw b p=.ok (g,a)/\k g a:=by
  intro p i;cases p with
  |err l=>exact i.elim
  |ok r=>
   obtain⟨M,c⟩:=r;rcases M with _|q
   .simp[Mr]at i;simp only[Yt,K];rcases hv:Y6 C b.env c fn.results.toList with _|q
    .rw[hv]at i;exact i.elim
    .rw[hv]at i;simp[vM]at i;grind [Mo]
   .exact⟨.of q,c,rfl,i⟩
 have v:∃o a,sh C ci f fn j raw (.ok (g,b))=.ok (o,a)/\k o a:=by cases g with|exit N=>exact m.elim|ret=>exact key _ m|normal=>exact key _ m|of q=>exact key _ m
 obtain⟨o,a,e,F⟩:=v;refine⟨o,a,vi B (n:=n) ?_,F⟩;unfold Tn;simp[A,x,D,w];exact e
variable{f:KH}{fn:Qm}{j:List ResultVar}{args:List y}{q:u}{raw:Bool}{ci:Option u}
def ANi{a:L2}{h:S}{g:BC}{c:S}(m:C.qr f=X)(l:P.funcs[f]?=J fn)(k:fn.body=J a)(o:fn.results.toList=j)(n:W0 (U args) fn.ntmps=X)(p:Wp C (KL P C) {f,π:=q,raw,ci,nt:=fn.ntmps} 0 a ⟨EV 0 args,h,0,[]⟩ (MJ C ci j q raw λi b=>i=g/\b=c)):KL P C (.fn f) args h q raw ci=.ok (g,c):=by obtain⟨i,b,e,rfl,rfl⟩:=Nq m l k o n p;exact e
def ANj{a:L2}{r:BC×S}(i:C.qr f=X)(h:P.funcs[f]?=J fn)(g:fn.body=J a)(l:fn.results.toList=j)(k:W0 (U args) fn.ntmps=X)(m:Wp C (KL P C) {f,π:=q,raw:=Z,ci:=I,nt:=fn.ntmps} 0 a ⟨EV 0 args,[],0,[]⟩ (MJ C I j q Z λc b=>G4 (c,b)=r)):Bk (KL P C) f args q=.ok r:=by have⟨c,b,e,h2⟩:=Nq i h g l k m;unfold Bk;rw[e,<-h2]
def Ba{f:KH}{fn:Qm}{b:L2}{j:List ResultVar}{args:List y}{h:S}{q:List Nat}{raw:Bool}{ci:Option (List Nat)}{a:BC->S->Prop}{e:Nat}(k:P.funcs[f]?=J fn)(p:Wp C (KL P C) {f,π:=q,raw,ci,nt:=e} 0 b ⟨EV 0 args,h,0,[]⟩ (MJ C ci j q raw a))(i:fn.body=J b:=by rfl)(o:fn.results=j.toArray:=by rfl)(n:fn.ntmps=e:=by rfl)(l:C.qr f=true:=by rfl)(m:W0 (U args) fn.ntmps=true:=by rfl):∃g c,KL P C (.fn f) args h q raw ci=.ok (g,c)/\a g c:=by subst n;exact Nq l k i (by simp[o]) m p
def BH{f:KH}{fn:Qm}{a:L2}{j:List ResultVar}{args:List y}{q:List Nat}{r:BC×S}{b:Nat}(g:P.funcs[f]?=J fn)(m:Wp C (KL P C) {f,π:=q,raw:=Z,ci:=I,nt:=b} 0 a ⟨EV 0 args,[],0,[]⟩ (MJ C I j q Z λn c=>G4 (n,c)=r))(e:fn.body=J a:=by rfl)(l:fn.results=j.toArray:=by rfl)(k:fn.ntmps=b:=by rfl)(h:C.qr f=true:=by rfl)(i:W0 (U args) fn.ntmps=true:=by rfl):Bk (KL P C) f args q=.ok r:=by subst k;exact ANj h g e (by simp[l]) i m
abbrev nI(x:Int):y:=.d (.int .i64 x)
theorem AKC(v:y)(h:S):G4 (.ret v,h)=(.ret v,h):=rfl
theorem AKB(v:y)(h:S):G4 (.of v,h)=(.of v,[]):=rfl
def Py(C:C7)(K:Af)(c:Fr)(b:Nat)(f:L2)(Q:DZ->St->Prop):DZ->St->Prop
 |.normal,a=>Wp C K c b (.loop f) a Q|e,a=>Q e a
def WH(C:C7)(K:Af)(c:Fr)(b:Nat)(a:L2)(e:St)(Q:DZ->St->Prop):Prop:=Wp C K c b a e (Py C K c b a Q)
theorem AK0(i:L2)(g:St):Wp C K c b (.loop i) g Q=WH C K c b i (Ff C c b g) Q:=by
 refine propext ⟨λ⟨n,f,d9,h,hq⟩=>?_,λ⟨n,f,d9,h,hq⟩=>?_⟩
 .rcases n with _|n
  .simp[exec]at h
  .simp[exec]at h;cases a:exec C K c n b i (Ff C c b g)with
   |err e=>rw[a]at h;cases h
   |ok r=>
    rw[a]at h;obtain⟨j,o⟩:=r;refine⟨n,j,o,a,?_⟩;cases j<;>simp only[Ec]at h
    .exact⟨n,f,d9,h,hq⟩
    all_goals (cases h;exact hq)
 .cases f with|normal=>obtain⟨m,l,p,q,k⟩:=hq;refine⟨max n m+1,l,p,?_,k⟩;grind [exec,Uc,Wb,Ec]|_=>exact⟨n+1,_,d9,by grind [exec,Uc,Ec],hq⟩
theorem fH(e:L2)(a:St):Py C K c b e Q .normal a=Wp C K c b (.loop e) a Q:=rfl
theorem YY(f:L2)(a:Nat)(e:St):Py C K c b f Q (.exit a) e=Q (.exit a) e:=rfl
theorem AAq(e:L2)(a:St):Py C K c b e Q .ret a=Q .ret a:=rfl
theorem AAp(f:L2)(e:y)(a:St):Py C K c b f Q (.of e) a=Q (.of e) a:=rfl
theorem DT(a:L2)(e:St):WH C K c b a e Q=Wp C K c b a e (Py C K c b a Q):=rfl
structure AR(p:Prop):Prop:=out:p
def AB{p:Prop}(h:p):AR p:=⟨h⟩
def Nm{b c e a:Prop}(f:AR b->AR c->AR e->a)(g:b)(h:c)(i:e):a:=f ⟨g⟩ ⟨h⟩ ⟨i⟩
def mY{b c e f a:Prop}(g:AR b->AR c->AR e->AR f->a)(h:b)(i:c)(j:e)(k:f):a:=g ⟨h⟩ ⟨i⟩ ⟨j⟩ ⟨k⟩
def aB{b c e f g a:Prop}(h:AR b->AR c->AR e->AR f->AR g->a)(i:b)(j:c)(k:e)(l:f)(m:g):a:=h ⟨i⟩ ⟨j⟩ ⟨k⟩ ⟨l⟩ ⟨m⟩
def cX{b c e f g h a:Prop}(i:AR b->AR c->AR e->AR f->AR g->AR h->a)(j:b)(k:c)(l:e)(m:f)(n:g)(o:h):a:=i ⟨j⟩ ⟨k⟩ ⟨l⟩ ⟨m⟩ ⟨n⟩ ⟨o⟩
def mE{b c e f g h i a:Prop}(j:AR b->AR c->AR e->AR f->AR g->AR h->AR i->a)(k:b)(l:c)(m:e)(n:f)(o:g)(p:h)(q:i):a:=j ⟨k⟩ ⟨l⟩ ⟨m⟩ ⟨n⟩ ⟨o⟩ ⟨p⟩ ⟨q⟩
def B4{b c e f g h i j k a:Prop}(l:AR b->AR c->AR e->AR f->AR g->AR h->AR i->AR j->AR k->a)(m:b)(n:c)(o:e)(p:f)(q:g)(r:h)(s:i)(t:j)(v:k):a:=l ⟨m⟩ ⟨n⟩ ⟨o⟩ ⟨p⟩ ⟨q⟩ ⟨r⟩ ⟨s⟩ ⟨t⟩ ⟨v⟩
variable{o:Type}
def rounds{f:L2}(B2:o->St)(Inv:o->Prop)(m:o->Nat)(a:o)(i:Inv a)(step:∀a,Inv a->AR (∀e,m e<m a->Inv e->WH C K c b f (B2 e) Q)->Wp C K c b f (B2 a) (Py C K c b f Q)):WH C K c b f (B2 a) Q:=by
 suffices h:∀g a,m a<g->Inv a->WH C K c b f (B2 a) Q from h _ a (Nat.lt_succ_self _) i
 intro g;induction g with|zero=>intro a k;omega|succ g n=>exactλa k l=>step a l ⟨λe p j=>n e z j⟩
variable{P:JH}{C:C7}{K:Af}{a:Fr}{b n i:Nat}{Q:DZ->St->Prop}
variable{c:Array H0}{al:Nat->Bool}{l:List H0}{e:CN}{h:S}{k:Nat}{g:List Df}{s:List (Nat×Nat)}{p:List Fp}
def OG(e:CN):Option (Option M5)->y
 |some (J t)=>e.get t|_=>.undef
def Ui(c:Array H0)(e:CN)(j:Nat):y:=OG e ((c[j]?).map (·.dst))
theorem lU(e:CN)(t:M5):OG e (J (J t))=e.get t:=rfl
theorem sZ(l:List H0)(e:CN)(j:Nat):Ui l.toArray e j=OG e ((l[j]?).map (·.dst)):=by grind [Ui]
theorem AKJ(j:Option M5)(op:Op)(p:H5)(pos:String)(af:Array Edge)(f:Nat)(m:Bool):
 JL C K a c b n al (⟨j,op,p,pos,af,J (f,m)⟩::l) i ⟨e,h,k,g⟩ Q=Dt C K a c b n al l i j op ⟨e,h,k,g⟩ m Q (Ui c e f):=by
 rw[cT];simp only[DP,OE,Ui];rcases hj:c[f]? with _|o
 .simp[OG,Dt,EH]
 .rcases hd:o.dst with _|t
  .simp[OG,Dt,EH,hd]
  .simp only[GO,hd,Gt,OG];cases s:CN.get e t with
   |d q=>cases q with|bool r=>grind [Dt,EH,CQ]|_=>rfl
   |kw v=>grind [Dt,EH,CQ]|_=>rfl
theorem get_cons(k:Nat)(v:y)(e:CN)(t:Nat):CN.get ((k,v)::e) t=if k=t then v else CN.get e t:=by grind [CN.get,Nat.eq_of_beq_eq_true,Nat.ne_of_beq_eq_false]
theorem ABb(e:CN)(t:M5)(v:y):Dj e (J t) v=(t,v)::e:=rfl
theorem ABa(e:CN)(v:y):Dj e I v=e:=rfl
theorem AMC(e:Nat->y)(t:M5):ev e (.tmp t)=e t:=rfl
theorem AIu(e:Nat->y)(f:KH):ev e (.func f)=.fn f [] []:=rfl
theorem AMB(e:Nat->y)(k:IntKind)(m:Int):ev e (.const (.int k m))=.d (.int k m):=rfl
theorem AIt(e:Nat->y)(c:Bool):ev e (.const (.bool c))=.d (.bool c):=rfl
theorem zV(e:Nat->y)(s:ByteArray):ev e (.const (.string s))=.d (.str s):=rfl
theorem AIz(e:Nat->y):ev e (.const (.slice I 0 0))=.d8:=rfl
theorem AIy(e:Nat->y):ev e (.const (.pointer I))=.d .nilp:=rfl
theorem AIv(e:Nat->y):ev e (.const .nilFunc)=.d .nilf:=rfl
theorem AIw(e:Nat->y):ev e (.const .nilIface)=.d .wt:=rfl
theorem AIx(e:Nat->y):ev e (.const (.map I))=.d .nilm:=rfl
def qB(a:S):Jv I a=true:=zCl
theorem ANz(k:IntKind)(a c:Int):GP .add k a c=J (.d (.int k (k.wrap (a+c)))):=rfl
theorem AOA(k:IntKind)(a c:Int):GP .sub k a c=J (.d (.int k (k.wrap (a-c)))):=rfl
theorem AN6(k:IntKind)(a c:Int):GP .mul k a c=J (.d (.int k (k.wrap (a*c)))):=rfl
def AN1(k:IntKind)(a c:Int):GP .eql k a c=J (.d (.bool (decide (a=c)))):=by simp only[GP];congr
def AN7(k:IntKind)(a c:Int):GP .neq k a c=J (.d (.bool (!decide (a=c)))):=by simp only[GP];congr
theorem AN5(k:IntKind)(a c:Int):GP .lss k a c=J (.d (.bool (decide (a<c)))):=rfl
theorem AN4(k:IntKind)(a c:Int):GP .leq k a c=J (.d (.bool (decide (a<=c)))):=rfl
theorem AN3(k:IntKind)(a c:Int):GP .gtr k a c=J (.d (.bool (decide (c<a)))):=rfl
theorem AN2(k:IntKind)(a c:Int):GP .geq k a c=J (.d (.bool (decide (c<=a)))):=rfl
theorem AN0(k:IntKind)(a c:Int):GP .and k a c=J (.d (.int k (k.wrap ((BitVec.ofInt k.bits a&&&BitVec.ofInt k.bits c).toNat:Nat)))):=rfl
theorem AN9(k:IntKind)(a c:Int):GP .shr k a c=if c<0 then I else J (.d (.int k (a.fdiv (2 ^ min c.toNat k.bits)))):=rfl
theorem AN8(k:IntKind)(a c:Int):GP .rem k a c=if c=0 then I else J (.d (.int k (a.tmod c))):=rfl
def AOw(op:BinOp)(k:IntKind)(a c:Int)(t:Option TI):PX op (.d (.int k a)) (.d (.int k c)) t=GP op k a c:=by simp[PX]
def yy{g h:L2}{f:St}{c:Prop} [Decidable c](i:c->Wp C K a b g f Q)(j:¬c->Wp C K a b h f Q):Pb C K a b g h f Q (.d (.bool (decide c))):=by
 by_cases e:c
 .rw[F8 e];exact i e
 .rw[GC e];exact j e
def yz(e f:L2)(c:St)(t:Bool):Pb C K a b e f c Q (.d (.bool (!t)))=Pb C K a b f e c Q (.d (.bool t)):=by cases t<;>rfl
variable{p:Option M5}{w:Bool}
theorem sX{op:Op}{f:St}{e:Prop} [Decidable e](g:e->Dt C K a c b n al l i p op f w Q (.d (.bool X)))(h:¬e->Dt C K a c b n al l i p op f w Q (.d (.bool Z))):Dt C K a c b n al l i p op f w Q (.d (.bool (decide e))):=by
 by_cases j:e
 .grind
 grind
theorem sY(p:Option M5)(op:Op)(w:Bool):Dt C K a c b n al l i p op ⟨e,h,k,g⟩ w Q (.kw [])=JL C K a c b n al l (i+1) ⟨Dj e p (.kw []),h,k,g⟩ Q:=rfl
def nS(C:C7)(K:Af)(a:Fr)(c:Array H0)(b n e:Nat)(l:List H0)(f:St)(Q:DZ->St->Prop):List (Nat×Nat)->Prop
 |[]=>JL C K a c b n (λi=>C.alone a.f e i) l 0 f Q|g::s=>JZ C K a c b n (λi=>C.alone a.f e i) (g::s) [] l 0 f Q
def AHr(f:Nat)(c:Array H0)(e:CN)(h:S)(k:Nat)(g:List Df):Wp C K a b (.region f c X) ⟨e,h,k,g⟩ Q=nS C K a c k c.size f c.toList ⟨e,h,k,g⟩ Q (C.ge a.f f):=by
 rcases hp:C.ge a.f f with _|⟨i,s⟩
 .rw[AHq f c e h k g hp];rfl
 .rw[AKy f c e h k g hp];rfl
theorem zM(e:Nat)(f:St):nS C K a c b n e l f Q []=JL C K a c b n (λi=>C.alone a.f e i) l 0 f Q:=rfl
theorem rj(e:Nat)(g:St)(f:Nat×Nat):nS C K a c b n e l g Q (f::s)=JZ C K a c b n (λi=>C.alone a.f e i) (f::s) [] l 0 g Q:=rfl
variable{v:BC->S->Prop}
theorem AEG:MJ C ci j q raw v .ret ⟨e,h,k,g⟩=Mr C j q raw e v (EE C ci g I h):=rfl
theorem ju:MJ C ci j q raw v .normal ⟨e,h,k,g⟩=Mr C j q raw e v (EE C ci g I h):=rfl
theorem AEF(a:y):MJ C ci j q raw v (.of a) ⟨e,h,k,g⟩=Mr C j q raw e v (EE C ci g (J a) h):=rfl
theorem AAi(ci:Option u)(p:Option y)(h:S):EE C ci [] p h=.ok (p,h):=rfl
theorem YS(ci:Option u)(a:Option y)(h:S)(b:u)(l:List Df):EE C ci (.mark b::l) a h=EE C ci l a h:=rfl
theorem su:Mr C j q raw e v (.ok (I,h))=vM h q raw v (Y6 C e h j):=rfl
theorem sr(a:y):Mr C j q raw e v (.ok (J a,h))=v (.of a) h:=rfl
theorem AHe(a:y):vM h q X v (J a)=v (.ret a) h:=rfl
theorem AHd{b:Nat}(a:y):vM h (b::q) Z v (J a)=v (.ret a) h:=rfl
def nx(v:BC->S->Prop):Option y->Prop
 |some a=>v (.ret a) []|none=>False
def AHc(a:y):vM h [] Z v (J a)=nx v (frz h.get a):=by simp only[vM];cases frz h.get a<;>rfl
theorem AAE(a:y):nx v (J a)=v (.ret a) []:=rfl
theorem ABm:Y6 C e h []=J (.kw []):=rfl
theorem AGr(t:M5):Y6 C e h [.tmp t]=J (e.get t):=rfl
theorem ABl(r a:ResultVar)(j:List ResultVar):Y6 C e h (r::a::j)=(R9 (En C ⟨e,h,0,[]⟩) (r::a::j)).map .kw:=by grind [Y6,R9]
def ABk(a:M5)(t:H5):Y6 C e h [.cell a t]=(C.T t).bind λi=>Kk h.get i (e.get a):=by unfold Y6;simp[R9,En];cases(C.T t).bind λi=>Kk h.get i (e.get a)<;>rfl
theorem Zx(t:M5):En C ⟨e,h,k,g⟩ (.tmp t)=J (e.get t):=rfl
theorem Y8(a:M5)(t:H5):En C ⟨e,h,k,g⟩ (.cell a t)=(C.T t).bind λi=>Kk h.get i (e.get a):=rfl
variable{j:Type}
theorem AFi(f:o->Option j):R9 f []=J []:=rfl
def AAu(f:o->Option j)(x:o)(l:List o):R9 f (x::l)=(f x).bind λB0=>(R9 f l).map (B0:: ·):=by
 simp[R9];rcases f x with _|B0
 .rfl
 .cases R9 f l<;>rfl
def AAN(p:Option M5)(op:Op)(e:St)(t:Bool):Dt C K a c b n al l i p op e X Q (.d (.bool (!t)))=Dt C K a c b n al l i p op e Z Q (.d (.bool t)):=by cases t<;>rfl
def AAM(p:Option M5)(op:Op)(e:St)(t:Bool):Dt C K a c b n al l i p op e Z Q (.d (.bool (!t)))=Dt C K a c b n al l i p op e X Q (.d (.bool t)):=by cases t<;>rfl
theorem AJN(a:G)(b:List y):frz a (.kw b)=(Fa a b).map .kw:=rfl
theorem AOK(g:G)(x:Au):frz g (.d x)=J (.d x):=rfl
theorem AJF(b:G)(a:List y):frz b (.agg a)=(Jc b a).map .agg:=rfl
theorem AEt(g:G):frz g .d8=J (.d (.co [])):=rfl
theorem AJG(g:G):frz g .emp=J (.d (.co [])):=rfl
theorem AJJ(a:G)(b:u)(c m:Nat):frz a (.ii b c m)=(Ds a (.ii b c m)).map .d:=rfl
theorem is_self:∀(a:u),AJ a a=X
 |[]=>rfl|n::l=>by simp[AJ,is_self l]
theorem AJp(n m:Nat)(l k:u):AJ (n::l) (m::k)=if n=m then AJ l k else false:=by grind [AJ,Nat.eq_of_beq_eq_true,Nat.ne_of_beq_eq_false]
theorem mC(m:Nat)(k:u):AJ [] (m::k)=false:=rfl
theorem l9(m:Nat)(k:u):AJ (m::k) []=false:=rfl
theorem AE7(a:u):S.get [] a=none:=rfl
theorem H8(b:u)(c:Obj)(h:S)(a:u):S.get ((b,c)::h) a=if AJ b a=X then J c else S.get h a:=by grind [S.get]
theorem xT(a:u)(b:Obj):S.put [] a b=[(a,b)]:=rfl
theorem oX(a:u)(e:Obj)(h:S)(b:u)(c:Obj):S.put ((a,e)::h) b c=if AJ a b=X then(a,c)::h else(a,e)::S.put h b c:=by grind [S.put]
theorem puts_cons(h:S)(a:u×Obj)(b:S):S.puts h (a::b)=S.puts (h.put a.1 a.2) b:=rfl
theorem puts_nil(h:S):S.puts h []=h:=rfl
def dz(q:u)(e:CN)(h:S)(l:List u):St:={env:=e.map λp=>(p.1,ren (E2 q l 0) p.2),heap:=Ey h (E2 q l 0) l,base:=U l,defs:=[]}
def CV:CN->List u
 |[]=>[]|p::e=>AE p.2++CV e
theorem AJe(e:CN):(e.flatMap λa=>AE a.2)=CV e:=by induction e with|nil=>rfl|cons a e b=>rw[F0,b];rfl
def Lq(e:CN):u->CN
 |[]=>[]|t::l=>(t,e.get t)::Lq e l
theorem YV(e:CN)(l:u):(l.map λt=>(t,e.get t))=Lq e l:=by induction l with|nil=>rfl|cons b e a=>rw[Bv,a];rfl
def Rj(q:u)(h:S)(e:CN):St:=dz q e h (C9 h 1000 (Gi [] (CV e)) 0)
theorem LJ(f:KH)(q:u)(ci:Option u)(c:Bool)(a:Nat):Ff C ⟨f,q,Z,ci,c,a⟩ b ⟨e,h,k,[]⟩=Rj q h (Lq e (C.live f b)):=by grind [Ff,YV,AJe,Rj,dz]
theorem yk(f:KH)(q:u)(ci:Option u)(c:Bool)(a:Nat):Ff C ⟨f,q,X,ci,c,a⟩ b ⟨e,h,k,g⟩=⟨Lq e (C.live f b),h,k,g⟩:=by grind [Ff,YV]
theorem qt(d:Df):Ff C a b ⟨e,h,k,d::g⟩=⟨Lq e (C.live a.f b),h,k,d::g⟩:=by grind [Ff,YV]
theorem AC7(l:List u)(a:u):PK l a=if (l.any (AJ a))=X then l else l++[a]:=by grind [PK]
theorem AGp(h:S)(n:Nat)(l:List u)(i:Nat):C9 h (n+1) l i=match l[i]? with|some a=>C9 h n (Gi l (Cl (h.get a))) (i+1)|none=>l:=rfl
def ZR(a:u):Nat:=match a with|0::_=>0|_=>1
theorem Yi(q:u)(b:u)(r:List u)(n:Nat)(a:u):E2 q (b::r) n a=if AJ b a=X then J (ZR a::n::q)else E2 q r (n+1) a:=by
 have:E2 q (b::r) n a=match AJ b a with|true=>J (ZR a::n::q)|false=>E2 q r (n+1) a:=by
  conv=>lhs;unfold E2
  unfold ZR;rcases a with _|⟨c,l⟩
  .rfl
  .cases c<;>rfl
 grind
theorem ACI(l:u):ZR (0::l)=0:=rfl
theorem ACH(l:u):ZR (1::l)=1:=rfl
def YZ(b:Nat):Option (List Au)->Option C3
 |some a=>if (U a)=b then J ⟨.iptr a,[]⟩else I|none=>I
theorem AJg(c:G)(m:Int)(a:List (List Au))(b:TI)(e:0<=m):RV c m (.d (.co a)) b=YZ b.size a[m.toNat]? :=by grind [RV,YZ,Nat.eq_of_beq_eq_true,Nat.ne_of_beq_eq_false]
theorem AJh(e:G)(m:Int)(b:u)(a len:Nat)(c:TI)(f:0<=m):RV e m (.ii b a len) c=if m.toNat<len then(match e b with|some (.f9 sz es)=>if sz=c.size/\a+m.toNat<U es then J ⟨.rg b (a+m.toNat) 0,[]⟩else I|some (.rt sz es)=>if sz=c.size/\a+m.toNat<U es then J ⟨.rg b (a+m.toNat) 0,[]⟩else I|some (.arr sz es)=>if sz=c.size/\a+m.toNat<U es then J ⟨.rg b (a+m.toNat) 0,[]⟩else I|_=>I)else none:=by grind [RV]
theorem AAr(b:Nat)(a:List Au):YZ b (J a)=if (U a)=b then J ⟨.iptr a,[]⟩else none:=rfl
variable{j:Nat}
theorem ABT{m:ByteArray}{f:UInt8->C3}(q:j<U m.data.toList)(r:∀o,m.data.toList[j]?=J o->Jo C K a c b n al l i p e h k g Q (J (f o))):Jo C K a c b n al l i p e h k g Q (Option.map f m.data.toList[j]?):=zCN
theorem ABR{f:o->List Au}{m:List o}{q:Nat}(s:j<U m)(t:∀r,m[j]?=J r->Jo C K a c b n al l i p e h k g Q (YZ q (J (f r)))):Jo C K a c b n al l i p e h k g Q (YZ q (Option.map f m[j]?)):=zCN
theorem AMJ(g:G)(x:Au):Fq g (.d x)=J x:=rfl
theorem zt(g:G):Fq g .d8=J (.co []):=rfl
theorem AEg(g:G):Fq g .emp=J (.co []):=rfl
theorem AMK(g:G)(x:Au):Ds g (.d x)=J x:=rfl
theorem zw(g:G):Ds g .d8=J (.co []):=rfl
theorem AEk(g:G):Ds g .emp=J (.co []):=rfl
theorem AEm(a:G)(b:u)(c:Nat):Ds a (.ptr b c)=none:=rfl
theorem AJC(a:G)(b:u):Ds a (.mp b)=none:=rfl
theorem AEn(a:G)(b:u):Ds a (.yld b)=none:=rfl
theorem AJB(g:G)(f:KH)(a c:List y):Ds g (.fn f a c)=none:=rfl
def lF(b:G)(a m:Nat):Option Obj->Option Au
 |some (.arr _ es)=>(EC b es).bind λg=>(Kd g a m).map .co|some (.f9 _ es)=>(Kd es a m).map .co|some (.rt _ es)=>(Kd es a m).map .co|_=>I
theorem AEl(a:G)(b:u)(c m:Nat):Ds a (.ii b c m)=lF a c m (a b):=by grind [Ds,Fq,lF]
theorem AAA(b:G)(c m e:Nat)(a:List (List y)):lF b c m (J (.arr e a))=(EC b a).bind λg=>(Kd g c m).map .co:=rfl
theorem sO(c:G)(b m e:Nat)(a:List (List Au)):lF c b m (J (.f9 e a))=(Kd a b m).map .co:=rfl
theorem AAB(c:G)(b m e:Nat)(a:List (List Au)):lF c b m (J (.rt e a))=(Kd a b m).map .co:=rfl
theorem zx(g:G):Jc g []=J []:=rfl
def Rv:Option Au->Option (List y)->Option (List y)
 |some a,J b=>J (.d a::b)|_,_=>I
theorem kq(a:Au)(b:List y):Rv (J a) (J b)=J (.d a::b):=rfl
theorem ko(a:Option (List y)):Rv I a=none:=rfl
def sJ(a:G)(b:y)(c:List y):Jc a (b::c)=Rv (Ds a b) (Jc a c):=by simp[Jc];cases Ds a b<;>cases Jc a c<;>rfl
def bM:Option y->Option (List y)->Option (List y)
 |some a,J b=>J (a::b)|_,_=>I
theorem sL(a:y)(b:List y):bM (J a) (J b)=J (a::b):=rfl
theorem sK(a:Option (List y)):bM I a=none:=rfl
def kx(x:Option y):bM x I=none:=zDQ
def AEq(g:G):Fa g []=J []:=by simp[Fa]
def z7(a:G)(b:y)(c:List y):Fa a (b::c)=bM (FA a b) (Fa a c):=by simp[Fa];cases FA a b<;>cases Fa a c<;>rfl
theorem AMI(g:G)(x:Au):FA g (.d x)=J (.d x):=rfl
theorem AEY(b:G)(a:List y):FA b (.agg a)=(Jc b a).map .agg:=rfl
theorem zr(g:G):FA g .d8=J (.d (.co [])):=rfl
theorem AEZ(g:G):FA g .emp=J (.d (.co [])):=rfl
theorem AEc(a:G)(b:u)(c:Nat):FA a (.ptr b c)=none:=rfl
theorem AJA(a:G)(b:u):FA a (.mp b)=none:=rfl
theorem AEf(a:G)(b:u):FA a (.yld b)=none:=rfl
theorem AI9(g:G)(f:KH):FA g (.fn f [] [])=J (.fn f [] []):=rfl
theorem AEb(a:G)(b:u)(c m:Nat):FA a (.ii b c m)=(Ds a (.ii b c m)).map .d:=rfl
theorem kY(b:G)(t:H5)(a:List y):FA b (.iface t (.agg a))=(Jc b a).map λc=>.iface t (.agg c):=rfl
theorem kZ(g:G)(t:H5)(x:Au):FA g (.iface t (.d x))=J (.iface t (.d x)):=rfl
def AMG(x:Au):flat (.d x)=HI x:=zDQ
def AES:flat .emp=true:=by simp[flat]
def AER(a:List y):flat (.agg a)=JA a:=zCl
def AEV(a:List y):flat (.kw a)=JA a:=zCl
def AET(a:u)(b:Nat):flat (.ptr a b)=false:=zCl
def kK(t:H5)(a:List y):flat (.iface t (.agg a))=JA a:=zCl
def kL(t:H5)(x:Au):flat (.iface t (.d x))=HI x:=zDQ
theorem zn:JA []=true:=rfl
theorem AI5(b:Au)(a:List y):JA (.d b::a)=(HI b&&JA a):=rfl
def zm(b:List y)(a:List y):JA (.agg b::a)=false:=by simp[JA]
def zo(a:u)(b m:Nat)(c:List y):JA (.ii a b m::c)=false:=by simp[JA]
def AI7(a:u):flat (.mp a)=false:=by simp[flat]
def kH(a:List y)(h:S):Dc (.kw a) h=none:=by simp[Dc]
def kE(a:List y)(h:S):Dc (.agg a) h=none:=by simp[Dc]
def kG(a:u)(b:Nat)(h:S):Dc (.ptr a b) h=none:=by simp[Dc]
def rp(a:u)(h:S):Dc (.mp a) h=none:=by simp[Dc]
def zh(x:Au)(h:S):Dc (.d x) h=none:=by simp[Dc]
theorem zi(k:IntKind)(m:Int):HI (.int k m)=true:=rfl
theorem rq(c:Bool):HI (.bool c)=true:=rfl
theorem zk(c:ByteArray):HI (.str c)=true:=rfl
theorem zj(c:List (List Au)):HI (.co c)=false:=rfl
theorem rz:HI .nilp=true:=rfl
theorem ru:HI .wt=true:=rfl
theorem rr:HI .nilf=true:=rfl
theorem ry:HI .nilm=true:=rfl
theorem yo(a:List y):y.cells (.agg a)=a:=rfl
theorem AIX(x:Au):y.cells (.d x)=[.d x]:=rfl
theorem rE:y.cells .d8=[.d8]:=rfl
theorem yp:y.cells .emp=[.emp]:=rfl
theorem yq(a:u)(b m:Nat):y.cells (.ii a b m)=[.ii a b m]:=rfl
theorem yr(a:u)(b:Nat):y.cells (.ptr a b)=[.ptr a b]:=rfl
theorem qy(a:u)(b c:Nat):y.cells (.rg a b c)=[.rg a b c]:=rfl
theorem ADo(f:KH)(a c:List y):y.cells (.fn f a c)=[.fn f a c]:=rfl
theorem ADp(a:u):y.cells (.mp a)=[.mp a]:=rfl
theorem jM(t:H5)(v:y):y.cells (.iface t v)=[.iface t v]:=rfl
theorem qz(c:List Au):y.cells (.iptr c)=[.iptr c]:=rfl
theorem AL4(x:Au):y.isCell (.d x)=true:=rfl
theorem AJk(x:Au):y.inMap (.d x)=true:=rfl
theorem AAX(l:List y):y.inMap (.agg l)=true:=rfl
theorem AFI(a:u):y.inMap (.mp a)=true:=rfl
theorem AFH(f:KH)(a c:List y):y.inMap (.fn f a c)=true:=rfl
theorem ym:y.isCell .d8=true:=rfl
theorem ADk:y.isCell .emp=true:=rfl
theorem ADl(a:u)(b m:Nat):y.isCell (.ii a b m)=true:=rfl
theorem ADm(a:u)(b:Nat):y.isCell (.ptr a b)=true:=rfl
theorem yl(a:u)(b c:Nat):y.isCell (.rg a b c)=true:=rfl
theorem AIV(f:KH)(a c:List y):y.isCell (.fn f a c)=true:=rfl
theorem AIW(a:u):y.isCell (.mp a)=true:=rfl
theorem qx(t:H5)(v:y):y.isCell (.iface t v)=true:=rfl
theorem yZ(c:List TK)(a b:List y):PT (.flat c) (.agg a) (.agg b)=Ik c a b:=rfl
theorem jL:Ik [] [] []=J true:=rfl
def AQJ:Option Bool->Option Bool->Option Bool
 |some a,J c=>J (a&&c)|_,_=>I
theorem yN(a c:Bool):AQJ (J a) (J c)=J (a&&c):=rfl
theorem jJ(a c:Bool):Mn .bool (.d (.bool a)) (.d (.bool c))=J (a==c):=rfl
theorem qw(a c:ByteArray):Mn .str (.d (.str a)) (.d (.str c))=J (a==c):=rfl
def ANH(a c:ByteArray)(i:TI):PX .lss (.d (.str a)) (.d (.str c)) (J i)=J (.d (.bool (Op.bytesLess a.toList c.toList))):=by exact zBh
def AKt(a c:ByteArray)(i:TI):PX .leq (.d (.str a)) (.d (.str c)) (J i)=J (.d (.bool (Op.bytesLess a.toList c.toList||a.toList==c.toList))):=by exact zBh
def ANG(a c:ByteArray)(i:TI):PX .eql (.d (.str a)) (.d (.str c)) (J i)=(PT i.kind (.d (.str a)) (.d (.str c))).map λt=>.d (.bool t):=by exact zBh
def AKs(a c:Bool)(i:TI):PX .eql (.d (.bool a)) (.d (.bool c)) (J i)=(PT i.kind (.d (.bool a)) (.d (.bool c))).map λt=>.d (.bool t):=by simp[PX];cases PT i.kind (.d (.bool a)) (.d (.bool c))<;>rfl
def AHb(t:H5)(v:y)(i:TI):PX .neq (.iface t v) (.d .wt) (J i)=(PT i.kind (.iface t v) (.d .wt)).map λt=>.d (.bool (!t)):=by simp[PX];cases PT i.kind (.iface t v) (.d .wt)<;>rfl
theorem AAd(v:Value):AO (.const v)=true:=rfl
theorem AJo(t:M5):AO (.tmp t)=false:=rfl
theorem AFK(f:KH):AO (.func f)=false:=rfl
theorem AIO(c:Bool)(op:BinOp)(x B0:y)(t:Option TI):lq c op x B0 t=kt (PX op x B0 t) (iA c op x B0 t):=rfl
theorem AGZ(v:y)(r:Option y):kt (J v) r=J v:=rfl
theorem AGY(r:Option y):kt I r=r:=rfl
def n8:TK->BinOp->Option y
 |.iface,.eql=>J (.d (.bool X))|.iface,.neq=>J (.d (.bool Z))|_,_=>I
theorem AF7:n8 .iface .eql=J (.d (.bool X)):=rfl
theorem AF8:n8 .iface .neq=J (.d (.bool Z)):=rfl
def AGB(op:BinOp)(i:TI):iA X op (.d .wt) (.d .wt) (J i)=n8 i.kind op:=by obtain⟨k⟩:=i;cases k<;>cases op<;>rfl
def ANF(op:BinOp)(i:TI):PX op (.d .wt) (.d .wt) (J i)=none:=by obtain⟨k⟩:=i;cases k<;>cases op<;>rfl
theorem ADQ(a c:ByteArray):PT .str (.d (.str a)) (.d (.str c))=J (a==c):=rfl
theorem yY(a c:Bool):PT .bool (.d (.bool a)) (.d (.bool c))=J (a==c):=rfl
theorem qi(t:H5)(v:y):PT .iface (.iface t v) (.d .wt)=J false:=rfl
theorem AIM(f:KH)(a c:List y):PT .func (.fn f a c) (.d .nilf)=J false:=rfl
theorem ya:PT .func (.d .nilf) (.d .nilf)=J true:=rfl
def AAF(g:G)(t:H5)(v:y):frz g (.iface t v)=FA g (.iface t v):=by simp[frz]
theorem AJK(a:G)(b:u)(c:Nat):frz a (.ptr b c)=none:=rfl
attribute [go_sem] ANH AKt ANG AKs AHb AAd AJo AFK AIO AGZ AGY AF7 AF8 AGB ANF ADQ yY qi AIM ya AAF AJK
attribute [go_sem] yZ jL yN jJ qw
theorem Kr(a c:Nat):W0 a c=decide (a<=c):=by grind [Nat.le_of_ble_eq_true,Nat.ble_eq_true_of_le]
def dy(a c:Nat):Nat.blt a c=decide (a<c):=Kr (a+1) c
theorem WX(a c:Nat):Wm a c=decide (a=c):=by grind [Nat.eq_of_beq_eq_true,Nat.ne_of_beq_eq_false]
def Uq{a:Nat}(h:a<=1073741824):(a<=BO)=True:=eq_true zCy
attribute [go_sem] Kr dy Uq Iq List.replicate_succ List.replicate_zero List.flatten_cons List.flatten_nil Bool.and_self
def oC(t:H5)(f:y)(j:flat (.iface t f)=X):EH C K a c b n al l i Q (Hg ⟨e,h,k,g⟩ (.iface t f))=(al i=X/\Q (.of (.iface t f)) ⟨e,h,b+n,g⟩):=by simp[Hg,j,EH]
def DJ(v:y)(t:Bool):E (BC×S):=if t=X then .ok (.ret (.kw []),[])else .ok (.of v,[])
theorem ZV(v:y):DJ v X=.ok (.ret (.kw []),[]):=rfl
theorem WB(v:y):DJ v Z=.ok (.of v,[]):=rfl
variable{o:List y}{x:Bool}
def uD{f:y}(j:x=X->FM C K a c b n al l i o p e h k g Q (DJ f X))(m:x=Z->FM C K a c b n al l i o p e h k g Q (DJ f Z)):FM C K a c b n al l i o p e h k g Q (DJ f x):=by
 cases x
 .exact m rfl
 .exact j rfl
theorem oV{j:y}{f:Prop} [Decidable f](m:f->FM C K a c b n al l i o p e h k g Q (DJ j X))(q:¬f->FM C K a c b n al l i o p e h k g Q (DJ j Z)):FM C K a c b n al l i o p e h k g Q (DJ j (decide f)):=by
 by_cases r:f
 .grind
 grind
attribute [go_sem] Nat.add_assoc
attribute [go_sem] JX evalOp pf OZ
attribute [go_sem ↓] AJP AJO AJQ
attribute [go_sem] AKC AKB Prod.mk.injEq oC ZV WB ABX ABW
attribute [go_sem] AHt AK4 AK5 AK3 AK2 AK1 AB2 AKx AHp AK6 qE ANJ AKz ACV pQ AB3 AG0 AGz Ze qk qj iz rK jX AGW ABN AKJ AAP AAK AAO AAL ADb AAD oO tq ABb ABa AMC AIu AMB AIt zV AIz AIy AIv AIw AIx get_cons sZ lU NX lD AN0 AN9 EV Ys Qx cQ Qy Eb P7 Mf L3 hD xO IE Qz FL Q1 NY LN ny nz AJg AJh AAr JY Kk C0 Kd GY AOw ANz AOA AN6 AN1 AN7 AN5 AN4 AN3 AN2 AN8 qB AEG ju AEF AAi YS su sr AHe AHd AHc AAE ABm AGr ABl ABk Zx Y8 AFi AAu AAN AAM sY AJN AOK AJF AEt AJG AJJ RM yz decide_true decide_false Bool.not_true Bool.not_false AHr zM rj tQ ABC tz Option.isSome_some yo AIX rE yp yq yr qy ADo ADp jM qz AJk AAX AFI AFH AL4 ym ADk ADl ADm yl AIV AIW qx Ix EB puts_cons puts_nil xT oX AE7 H8 is_self AJp mC l9 AK0 fH YY AAq AAp LJ yk qt Rj dz CV Lq AC7 Gi AGp Yi ACI ACH ren Dn EO Ey Cl AE Ab List.any_nil List.any_cons Bool.or_false Bool.false_or Bool.or_true Bool.true_or Bool.false_and Bool.and_false Int.toNat_natCast Int.natCast_nonneg List.getElem?_map List.getElem?_nil AMJ zt AEg AMK zw AEk AEm AJC AEn AJB AEl AAA sO AAB zx kq ko sJ sL sK kx AEq z7 AMI AEY zr AEZ AEc AJA AEf AI9 AEb kY kZ AMG AES AER AEV AET kK kL zn AI5 zm zo AI7 kH kE kG rp zh List.flatMap_cons List.flatMap_nil zi rq zk zj rz ru rr ry List.foldl_cons List.foldl_nil List.map_cons List.map_nil List.length_cons List.length_nil List.length_map List.length_append List.length_singleton List.append_assoc List.all_cons List.all_nil Option.map_some Option.bind_some List.getElem?_cons_zero List.getElem?_cons_succ List.take_succ_cons List.take_zero List.drop_succ_cons List.drop_zero List.append_nil List.nil_append List.cons_append List.size_toArray Bool.and_true Bool.true_and true_and and_true
variable{P:JH}{C:C7}{K:Af}{a:Fr}{b n i:Nat}{Q:DZ->St->Prop}
variable{k:Array H0}{al:Nat->Bool}{l:List H0}{e:CN}{h:S}{t:Nat}{s:List Df}{g:List (Nat×Nat)}{c:List Fp}
def FZ(C:C7)(K:Af)(a:Fr)(k:Array H0)(b n:Nat)(al:Nat->Bool)(g:List (Nat×Nat))(c:List Fp)(l:List H0)(i:Nat)(Q:DZ->St->Prop):RE->Prop
 |.ok e f=>JZ C K a k b n al g (c++[f]) l (i+1) e Q|.of h e=>al i=X/\E3 a.π b c g=X/\Q (.of h) {e with base:=b+n}|.err _=>False
def Oa(C:C7)(K:Af)(a:Fr)(k:Array H0)(b n:Nat)(al:Nat->Bool)(g:List (Nat×Nat))(c:List Fp)(l:List H0)(i:Nat)(p:Option M5)(e:CN)(h:S)(t:Nat)(s:List Df)(Q:DZ->St->Prop)(j:List u):Option C3->Prop
 |some f=>Jv a.ci f.δ=X/\JZ C K a k b n al g (c++[⟨J j,J (f.δ.map (·.1)),Z⟩]) l (i+1) ⟨Dj e p f.v,h.puts f.δ,t,s⟩ Q|none=>False
theorem AGV:JZ C K a k b n al g c [] i ⟨e,h,t,s⟩ Q=(E3 a.π b c g=X/\Q .normal ⟨e,h,b+n,s⟩):=by grind [JZ,Du]
theorem cR(e:H0)(f:St):JZ C K a k b n al g c (e::l) i f Q=FZ C K a k b n al g c l i Q (DP C K a k ((b+i)::a.π) e f):=by unfold JZ;simp only[Du,Kx];grind [FZ,JZ,Xc]
def FB(C:C7)(K:Af)(a:Fr)(k:Array H0)(b n:Nat)(al:Nat->Bool)(g:List (Nat×Nat))(c:List Fp)(l:List H0)(i:Nat)(p:Option M5)(op:Op)(e:St)(w:Bool)(Q:DZ->St->Prop):y->Prop
 |.d (.bool x)=>match x==w with|true=>FZ C K a k b n al g c l i Q (JX C K a ((b+i)::a.π) op p e)|false=>JZ C K a k b n al g (c++[⟨J [],J [],Z⟩]) l (i+1) {e with env:=Dj e.env p (.kw [])} Q
 |.kw []=>JZ C K a k b n al g (c++[⟨J [],J [],Z⟩]) l (i+1) {e with env:=Dj e.env p (.kw [])} Q|_=>False
theorem AGh(p:Option M5)(op:Op)(m:H5)(pos:String)(af:Array Edge)(j:Nat)(w:Bool):
 JZ C K a k b n al g c (⟨p,op,m,pos,af,J (j,w)⟩::l) i ⟨e,h,t,s⟩ Q=FB C K a k b n al g c l i p op ⟨e,h,t,s⟩ w Q (Ui k e j):=by
 rw[cR];simp only[DP,OE,Ui];rcases hj:k[j]? with _|f
 .simp[OG,FB,FZ]
 .rcases hd:f.dst with _|x
  .grind [OG,FB,FZ]
  .simp only[GO,hd,Gt,OG];cases r:CN.get e x with
   |d o=>cases o with|bool q=>grind [FB,FZ,CQ]|_=>rfl
   |kw v=>grind [FB,FZ,CQ]|_=>rfl
theorem AAT(p:Option M5)(op:Op)(e:St):FB C K a k b n al g c l i p op e X Q (.d (.bool X))=FZ C K a k b n al g c l i Q (JX C K a ((b+i)::a.π) op p e):=rfl
theorem AAQ(p:Option M5)(op:Op)(e:St):FB C K a k b n al g c l i p op e Z Q (.d (.bool Z))=FZ C K a k b n al g c l i Q (JX C K a ((b+i)::a.π) op p e):=rfl
theorem AAS(p:Option M5)(op:Op):FB C K a k b n al g c l i p op ⟨e,h,t,s⟩ X Q (.d (.bool Z))=JZ C K a k b n al g (c++[⟨J [],J [],Z⟩]) l (i+1) ⟨Dj e p (.kw []),h,t,s⟩ Q:=rfl
theorem AAR(p:Option M5)(op:Op):FB C K a k b n al g c l i p op ⟨e,h,t,s⟩ Z Q (.d (.bool X))=JZ C K a k b n al g (c++[⟨J [],J [],Z⟩]) l (i+1) ⟨Dj e p (.kw []),h,t,s⟩ Q:=rfl
theorem se(p:Option M5)(op:Op)(w:Bool):FB C K a k b n al g c l i p op ⟨e,h,t,s⟩ w Q (.kw [])=JZ C K a k b n al g (c++[⟨J [],J [],Z⟩]) l (i+1) ⟨Dj e p (.kw []),h,t,s⟩ Q:=rfl
def ew{op:Op}{e:St}(f:x=X->FB C K a k b n al g c l i p op e w Q (.d (.bool X)))(h:x=Z->FB C K a k b n al g c l i p op e w Q (.d (.bool Z))):FB C K a k b n al g c l i p op e w Q (.d (.bool x)):=by
 cases x
 .exact h rfl
 .exact f rfl
theorem sc{op:Op}{f:St}{e:Prop} [Decidable e](h:e->FB C K a k b n al g c l i p op f w Q (.d (.bool X)))(j:¬e->FB C K a k b n al g c l i p op f w Q (.d (.bool Z))):FB C K a k b n al g c l i p op f w Q (.d (.bool (decide e))):=by
 by_cases m:e
 .grind
 grind
theorem ABM(p:Option M5)(op:Op)(f:H5)(pos:String)(af:Array Edge)(e:St):
 JZ C K a k b n al g c (⟨p,op,f,pos,af,I⟩::l) i e Q=FZ C K a k b n al g c l i Q (JX C K a ((b+i)::a.π) op p e):=by grind [cR,DP,OE]
theorem pc(p:Option M5)(op:Op)(r:Option C3):FZ C K a k b n al g c l i Q (EA a op p ⟨e,h,t,s⟩ r)=Oa C K a k b n al g c l i p e h t s Q (Zw e.get h.get op) r:=by
 rcases r with _|x
 .rfl
 .grind [EA,Oa,Mo,Cn,CQ,FZ,Sz]
def oM(p:Option M5)(j:y)(f:List u):Oa C K a k b n al g c l i p e h t s Q f (J ⟨j,[]⟩)=JZ C K a k b n al g (c++[⟨J f,J [],Z⟩]) l (i+1) ⟨Dj e p j,h,t,s⟩ Q:=by
 have:Jv a.ci []=true:=by cases m:a.ci<;>rfl
 simp only[Oa,this,true_and];rfl
theorem tp(p:Option M5)(o:y)(f:u×Obj)(j:S)(m:List u):Oa C K a k b n al g c l i p e h t s Q m (J ⟨o,f::j⟩)=(Jv a.ci (f::j)=X/\JZ C K a k b n al g (c++[⟨J m,J (f.1::j.map (·.1)),Z⟩]) l (i+1) ⟨Dj e p o,h.puts (f::j),t,s⟩ Q):=rfl
section
variable(p:Option M5)(w:u)
theorem AI2(x:M3):FZ C K a k b n al g c l i Q (JX C K a w (.panic x) p ⟨e,h,t,s⟩)=FZ C K a k b n al g c l i Q (Hg ⟨e,h,t,s⟩ (ev e.get x)):=rfl
def Eh(C:C7)(K:Af)(a:Fr)(k:Array H0)(b n:Nat)(al:Nat->Bool)(g:List (Nat×Nat))(c:List Fp)(l:List H0)(i:Nat)(o:List y)(p:Option M5)(e:CN)(h:S)(t:Nat)(s:List Df)(Q:DZ->St->Prop)(r:E (BC×S)):Prop:=FZ C K a k b n al g c l i Q (E4 a o p ⟨e,h,t,s⟩ r)
def jC(C:C7)(K:Af)(a:Fr)(k:Array H0)(b n:Nat)(al:Nat->Bool)(g:List (Nat×Nat))(c:List Fp)(l:List H0)(i:Nat)(p:Option M5)(w:u)(e:CN)(h:S)(t:Nat)(s:List Df)(Q:DZ->St->Prop)(args:List y):y->Prop
 |f=>FZ C K a k b n al g c l i Q (FV C K a w f args p ⟨e,h,t,s⟩)
theorem AI3(f:M3)(o:Array M3)(j:Array H5):FZ C K a k b n al g c l i Q (JX C K a w (.call ⟨.value f,o,j⟩) p ⟨e,h,t,s⟩)=jC C K a k b n al g c l i p w e h t s Q (o.toList.map (ev e.get)) (ev e.get f):=rfl
def O2(C:C7)(K:Af)(a:Fr)(k:Array H0)(b n:Nat)(al:Nat->Bool)(g:List (Nat×Nat))(c:List Fp)(l:List H0)(i:Nat)(p:Option M5)(w:u)(e:CN)(h:S)(t:Nat)(s:List Df)(Q:DZ->St->Prop)(f:KH)(o:List y)(m:Mode):Prop:=FZ C K a k b n al g c l i Q (Er K a w f o p ⟨e,h,t,s⟩ m)
theorem ADZ(f:KH)(first cap args:List y):jC C K a k b n al g c l i p w e h t s Q args (.fn f first cap)=O2 C K a k b n al g c l i p w e h t s Q f (first++args++cap) (C.mode f):=by grind [jC,O2,FV,CC]
def z5(C:C7)(K:Af)(a:Fr)(k:Array H0)(b n:Nat)(al:Nat->Bool)(g:List (Nat×Nat))(c:List Fp)(l:List H0)(i:Nat)(p:Option M5)(e:CN)(h:S)(t:Nat)(s:List Df)(Q:DZ->St->Prop)(f:KH)(o:List y)(own:u):Option (List y)->Prop
 |some j=>Eh C K a k b n al g c l i o p e h t s Q (K (.fn f) j [] own Z I)|none=>False
theorem tN(f:KH)(o:List y)(j:(Fa h.get o).isSome):O2 C K a k b n al g c l i p w e h t s Q f o .auto=z5 C K a k b n al g c l i p e h t s Q f o [] (Fa h.get o):=by grind [O2,Er,CC,z5,Eh]
theorem ABA(f:KH)(o:List y)(j:(Fa h.get o).isSome):O2 C K a k b n al g c l i p w e h t s Q f o .own=z5 C K a k b n al g c l i p e h t s Q f o w (Fa h.get o):=by grind [O2,Er,CC,z5,Eh]
def z6(f:KH)(o:List y)(own:u)(j:List y):z5 C K a k b n al g c l i p e h t s Q f o own (J j)=Eh C K a k b n al g c l i o p e h t s Q (Bk K f j own):=by grind [z5,Eh,Vv]
theorem tu(o:List y)(f:y)(j:S)(m:flat f=X):Eh C K a k b n al g c l i o p e h t s Q (.ok (.ret f,j))=JZ C K a k b n al g (c++[⟨J (BA h.get (Ab o)),J [],Z⟩]) l (i+1) ⟨Dj e p f,h,t,s⟩ Q:=by grind [Eh,E4,CQ,FZ]
theorem ca(o:List y)(f:y)(j:S)(m:flat f=X):Eh C K a k b n al g c l i o p e h t s Q (.ok (.of f,j))=(al i=X/\E3 a.π b c g=X/\Q (.of f) ⟨e,h,b+n,s⟩):=by grind [Eh,E4,FZ]
theorem ABV(o:List y)(f:y)(m:S)(j:u×Obj)(q:flat f=Z)(r:Dc f m=J j):Eh C K a k b n al g c l i o p e h t s Q (.ok (.ret f,m))=JZ C K a k b n al g (c++[⟨J (BA h.get (Ab o)),J [j.1],Z⟩]) l (i+1) ⟨Dj e p f,j::h,t,s⟩ Q:=by grind [Eh,E4,CQ,K8,Bu,FZ]
theorem cZ(o:List y)(j:y)(f:S)(m:flat j=Z)(q:Dc j f=I):Eh C K a k b n al g c l i o p e h t s Q (.ok (.ret j,f))=(Jv a.ci (o.flatMap (mark h.get))=X/\JZ C K a k b n al g (c++[⟨J (BA h.get (Ab o)),J ((o.flatMap (mark h.get)).map (·.1)++f.map (·.1)),Z⟩]) l (i+1) ⟨Dj e p j,f++h.puts (o.flatMap (mark h.get)),t,s⟩ Q):=by simp only[Eh,E4,CQ,m,K8,q,Bu,Cn];grind [FZ]
end
variable{w:Type}{f:w->List Au}{p:Option M5}
theorem ABQ{m:List w}{q j:Nat}{o:List u}(v:j<U m)(x:∀r,m[j]?=J r->Oa C K a k b n al g c l i p e h t s Q o (YZ q (J (f r)))):Oa C K a k b n al g c l i p e h t s Q o (YZ q (Option.map f m[j]?)):=zCN
theorem oB(q:u)(b:Nat)(c:List Fp):E3 q b c []=true:=rfl
def z9(q:u)(b:Nat)(c:List Fp)(i j:Nat):Option Fp->Option Fp->Bool
 |some a,J e=>a.apart e||Xu q b c i j a e
 |_,_=>X
def lB(a b:Bool):Bool:=a||b
theorem iW(q:u)(b:Nat)(c:List Fp)(i j:Nat)(a e:Fp):z9 q b c i j (J a) (J e)=lB (a.apart e) (Xu q b c i j a e):=rfl
def fV(q:u)(b:Nat)(c:List Fp)(i j:Nat)(l:List (Nat×Nat)):E3 q b c ((i,j)::l)=(z9 q b c i j c[i]? c[j]? &&E3 q b c l):=by simp only[E3,EX];rfl
theorem AEJ(q:u)(b:Nat)(c:List Fp)(i j:Nat)(a e:Option (List u))(f:Fp):Xu q b c i j ⟨a,e,Z⟩ f=false:=rfl
def nJ(a:u):List u->Bool
 |[]=>X|x::l=>match AD a x with|true=>nJ a l|false=>Z
def PO(w:List u):Nat->List Fp->Bool
 |0,_=>X|_,[]=>X|n+1,f::l=>match Abs.apart f.wr (J w)with|true=>PO w n l|false=>Z
theorem AF4(a:u):nJ a []=true:=rfl
def ABI(a:u)(b:u)(l:List u)(h:AD a b=X):nJ a (b::l)=nJ a l:=by simp[nJ,h]
def VU(w:List u)(l:List Fp):PO w 0 l=true:=by cases l<;>rfl
def iQ(w:List u)(n:Nat)(f:Fp)(l:List Fp)(h:Abs.apart f.wr (J w)=X):PO w (n+1) (f::l)=PO w n l:=by simp[PO,h]
theorem AJ8(a:u):∀l:List u,l.all (AD a)=nJ a l
 :=by intro b;induction b<;>grind [nJ]
theorem Z9(w:List u):∀(n:Nat) (l:List Fp),(l.take n).all (λc=>Abs.apart c.wr (J w))=PO w n l
 |0,l=>by rw[VU];rfl|n+1,[]=>rfl|n+1,f::l=>by rw[List.take_succ_cons,EX,Z9 w n l,PO];cases Abs.apart f.wr (J w)<;>rfl
def zY(q:u)(b:Nat)(c:List Fp)(i j:Nat)(l:List u)(a:Option (List u))(e:Bool)(f:nJ ((b+j)::q) l=X)(g:PO l i c=X):Xu q b c i j ⟨I,J [],X⟩ ⟨a,J l,e⟩=true:=by grind [Xu,jE,kQ,AJ8,Z9]
theorem AGX(b:Bool):lB X b=true:=rfl
def ABO(a:Bool):lB a Z=a:=zCl
theorem AMv(b:Bool):lB Z b=b:=rfl
theorem qe(x:u)(l:List u):Abs.apart I (J (x::l))=false:=rfl
theorem AHV(a:u)(b:Nat):AD a (b::a)=true:=by grind [Id.under_iff]
theorem je(g:G):BA g []=[]:=rfl
theorem yO(x:Option (List u)):Abs.apart (J []) x=true:=by grind [Abs.apart]
theorem qc(x:Option (List u)):Abs.apart x (J [])=true:=by grind [Abs.apart]
attribute [go_sem] pc Zw L0 Op.operands
attribute [go_sem ↓] AI2 AI3
attribute [go_sem] ca cZ
attribute [go_sem] AGV AGh AAT AAQ AAS AAR se ABM oM tp ADZ tN ABA z6 tu oB iW fV je yO qc Fp.apart List.flatMap_cons List.flatMap_nil
attribute [go_sem] AEJ zY AF4 ABI VU iQ qe AHV AGX ABO AMv
variable{P:JH}{C:C7}{K:Af}{k:Fr}{b n i:Nat}{Q:DZ->St->Prop}
variable{q:Array H0}{al:Nat->Bool}{l:List H0}{e:CN}{h:S}{s:Nat}{c:List Df}
theorem is_iff:∀{a b:u},AJ a b=X↔a=b:=by grind [Id.is_eq,is_self]
theorem AI{a b:u}(h:a≠b):AJ a b=false:=by grind [is_iff]
def RY{g_:S}{a b:u}{f p_:Option Obj}(c:g_.get a=f)(g:g_.get b=p_)(h:f=p_->False:=by intro h;cases h):AJ a b=false:=AI λe=>by rw[e,g]at c;exact h c.symm
variable{a:u}
theorem under_iff:∀{b:u},AD a b=X↔a<:+b
 :=by intro c;induction c<;>grind [AD,is_iff,List.suffix_cons_iff]
theorem IJ{b:u}(h:¬a<:+b):AD a b=false:=by grind [under_iff]
theorem p_(h:S)(b:u)(c:Obj)(a:u):S.get (S.put h b c) a=if AJ b a=X then J c else S.get h a:=by induction h with|nil=>grind [xT,H8]|cons f h e=>grind [oX,H8,is_iff]
theorem R0(c:u->Bool)(h:S)(a:u)(e:c a=X):S.get (List.filter (λb=>c b.1) h) a=S.get h a:=by induction h with|nil=>rfl|cons b h f=>grind [H8,is_iff]
theorem An(a:u)(h:S)(b:u)(c:AD a b=Z):S.get (gc a h) b=S.get h b:=by
 refine R0 (λb=>match b with|0::l=> !AD a l|_=>X) h b ?_
 grind [under_iff]
def Zv(C:C7)(K:Af)(k:Fr)(q:Array H0)(b n:Nat)(al:Nat->Bool)(l:List H0)(i:Nat)(p:Option M5)(a:u)(e:CN)(h:S)(s:Nat)(c:List Df)(Q:DZ->St->Prop):E (BC×S)->Prop
 |.ok (.ret v,h')=>JL C K k q b n al l (i+1) ⟨Dj e p v,gc (S7 a v) h',s,c⟩ Q|.ok (.of v,h')=>al i=X/\Q (.of v) ⟨e,gc a h',b+n,c⟩|.err _=>False
theorem VG(p:Option M5)(a:u)(r:E (BC×S)):EH C K k q b n al l i Q (FW a p ⟨e,h,s,c⟩ r)=Zv C K k q b n al l i p a e h s c Q r:=by cases r with|err l=>rfl|ok r=>obtain⟨f,g⟩:=r;cases f<;>simp[FW,EH,Zv]
theorem Gu(p:Option M5)(a:u)(f:y)(g:S):Zv C K k q b n al l i p a e h s c Q (.ok (.ret f,g))=JL C K k q b n al l (i+1) ⟨Dj e p f,gc (S7 a f) g,s,c⟩ Q:=rfl
theorem ALS(a:u)(x:Au):S7 a (.d x)=a:=rfl
theorem AEv(a:u):S7 a .d8=a:=rfl
theorem AJT(a:u):S7 a .emp=a:=rfl
theorem AJS(a:u)(l:List y):S7 a (.agg l)=a:=rfl
theorem eo(a:u)(l:List y):S7 a (.kw l)=a:=rfl
theorem AJV(a:u)(i:u)(o n:Nat):S7 a (.ii i o n)=a:=rfl
theorem AJW(a:u)(i:u)(o:Nat):S7 a (.ptr i o)=a:=rfl
theorem AMM(a:u)(i:u):S7 a (.mp i)=a:=rfl
theorem AAG(a:u)(x:H5)(v:y):S7 a (.iface x v)=a:=rfl
theorem AJU(a:u)(f:KH)(l:List y):S7 a (.fn f l [])=a:=rfl
theorem YD(a:u)(f:KH)(l:List y)(v:y)(c:List y):S7 a (.fn f l (v::c))=0::0::a:=rfl
theorem AGm(p:Option M5)(a:u)(g:y)(f:S):Zv C K k q b n al l i p a e h s c Q (.ok (.of g,f))=(al i=X/\Q (.of g) ⟨e,gc a f,b+n,c⟩):=rfl
theorem ABD(p:Option M5)(a:u)(f:KH)(o:List y):O3 C K k q b n al l i p a e h s c Q f o .raw=Zv C K k q b n al l i p a e h s c Q (K (.fn f) o h a X k.ci):=by grind [O3,Er,VG]
theorem Ak{v:BC->S->Prop}{j:E (BC×S)}(m:∃g f,j=.ok (g,f)/\v g f)(o:∀g f,v g f->Zv C K k q b n al l i p a e h s c Q (.ok (g,f))):Zv C K k q b n al l i p a e h s c Q j:=zCN
def mX(v:y):Option y->y
 |some Bn=>Bn|none=>v
theorem AHI(g:G):QP g []=[]:=rfl
def ACJ(a:G)(b:y)(c:List y):QP a (b::c)=mX b (FA a b)::QP a c:=by simp only[QP,Bv];cases FA a b<;>rfl
theorem vF(v Bn:y):mX v (J Bn)=Bn:=rfl
theorem vE(v:y):mX v I=v:=rfl
theorem tR(p:Option M5)(a:u)(f:KH)(o:List y)(g:(Fa h.get o).isNone):O3 C K k q b n al l i p a e h s c Q f o .auto=(Jv k.ci (o.flatMap (mark h.get))=X/\Zv C K k q b n al l i p a e h s c Q (K (.fn f) (QP h.get o) (h.puts (o.flatMap (mark h.get))) a X k.ci)):=by
 have g:Fa h.get o=none:=by simpa using g
 simp only[O3,Er,g,Gk,CC,Cn,Bu];grind [VG,EH]
def eN(C:C7)(K:Af)(k:Fr)(q:Array H0)(b n:Nat)(al:Nat->Bool)(l:List H0)(i:Nat)(p:Option M5)(e:CN)(h:S)(s:Nat)(c:List Df)(Q:DZ->St->Prop):E (BC×S)->Prop
 |.ok (.ret v,_)=>flat v=X/\JL C K k q b n al l (i+1) ⟨Dj e p v,h,s,c⟩ Q|.ok (.of v,_)=>flat v=X/\al i=X/\Q (.of v) ⟨e,h,b+n,c⟩|.err _=>False
theorem AFv(p:Option M5)(a:u)(f:KH)(o:List y)(g:(Fa h.get o).isNone):O3 C K k q b n al l i p a e h s c Q f o .ro=eN C K k q b n al l i p e h s c Q (K (.fn f) (QP h.get o) (h.puts (o.flatMap (mark h.get))) a X (J a)):=by
 have g:Fa h.get o=none:=by simpa using g
 simp only[O3,Er,g,Gk,CC,Cn,Bu];cases K (.fn f) (QP h.get o) (h.puts (o.flatMap (mark h.get))) a X (J a)with|err l=>rfl|ok r=>obtain⟨j,m⟩:=r;cases j<;>simp only[Tk,eN,CQ]<;>split<;>simp_all [EH]
theorem AMc(g:G)(x:Au):mark g (.d x)=[]:=rfl
theorem AA5(g:G):mark g .d8=[]:=rfl
theorem AFp(g:G):mark g .emp=[]:=rfl
theorem AFr(a:G)(b:u)(c:Nat):mark a (.ptr b c)=[]:=rfl
theorem AJ2(g:G)(f:KH)(a c:List y):mark g (.fn f a c)=[]:=rfl
theorem AJ3(a:G)(b:u):mark a (.mp b)=[]:=rfl
theorem AFq(a:G)(b:u)(c m:Nat):mark a (.ii b c m)=Cj a (.ii b c m):=by grind [mark,L6]
def uE(g:G):List y->S
 |[]=>[]|v::vs=>Cj g v++uE g vs
def AFo(b:G)(a:List y):mark b (.agg a)=uE b a:=by simp[mark,L6];induction a with|nil=>rfl|cons e f c=>rw[F0,c];rfl
theorem AJ0(g:G)(x:Au):Cj g (.d x)=[]:=rfl
theorem tF(g:G):Cj g .d8=[]:=rfl
theorem AAx(g:G):Cj g .emp=[]:=rfl
theorem AAz(a:G)(b:u)(c:Nat):Cj a (.ptr b c)=[]:=rfl
theorem vL(a:u)(n:Nat)(l:u):AD a (n::l)=if AJ a (n::l)=X then X else AD a l:=by grind [AD]
def p8(n:Nat)(a:u):AD (n::a) a=false:=IJ λh=>by have:=h.length_le;simp at this;omega
theorem AL{b:u}(h:AD a b=Z)(n:Nat):AD (n::a) b=false:=by grind [under_iff,List.suffix_cons]
theorem AN{b:u}(h:AD a b=Z)(c n:Nat):AJ (c::n::a) b=false:=zDU
theorem Aw{b:u}(h:AD a b=Z)(c n:Nat):AJ b (c::n::a)=false:=zDU
theorem AMN(a:u):gc a []=[]:=rfl
theorem AJY(a:u)(l:u)(o:Obj)(h:S):gc a ((0::l,o)::h)=if AD a l=X then gc a h else(0::l,o)::gc a h:=by grind [gc]
theorem AMO(a:u)(l:u)(o:Obj)(h:S):gc a ((1::l,o)::h)=(1::l,o)::gc a h:=rfl
attribute [go_sem] AMN AJY AMO
def eI(C:C7)(K:Af)(k:Fr)(q:Array H0)(b n:Nat)(al:Nat->Bool)(l:List H0)(i:Nat)(p:Option M5)(e:CN)(h:S)(s:Nat)(c:List Df)(Q:DZ->St->Prop)(o:List y):y->Prop
 |.fn g [] []=>JL C K k q b n al l (i+1) ⟨Dj e p .undef,h,s,.call g o::c⟩ Q|_=>False
def pe(p:Option M5)(f:M3)(o:Array M3)(m:Array H5)(j:k.rnd=Z):EH C K k q b n al l i Q (Jz k e.get ⟨.value f,o,m⟩ p ⟨e,h,s,c⟩)=eI C K k q b n al l i p e h s c Q (o.toList.map (ev e.get)) (ev e.get f):=by
 simp only[Jz,j];cases ev e.get f with
 |fn r a g=>
  rcases a with _|⟨t,l⟩
  .cases g<;>simp[eI,EH]
  .simp[eI,EH]
 |_=>rfl
theorem zG(p:Option M5)(o:List y)(g:KH):eI C K k q b n al l i p e h s c Q o (.fn g [] [])=JL C K k q b n al l (i+1) ⟨Dj e p .undef,h,s,.call g o::c⟩ Q:=rfl
def sv(C:C7)(ci:Option u)(l:List Df)(h:S)(b:u):Option (List y)->E (Option y×S)
 |some a=>EE C ci l I (h.put b (.box a))|none=>.err [20]
def fG(C:C7)(ci:Option u)(l:List Df)(h:S)(a:u)(c:Nat)(b:IntKind)(m:Int):Option Obj->E (Option y×S)
 |some (.box cs)=>sv C ci l h a (C0 cs c [.d (.int b m)])|_=>.err [21]
variable{ci:Option u}{l:List Df}{h:S}{a:Nat}{k:IntKind}{m:Int}
theorem TH{f:KH}{x:H5}{b:u}(c:C.caught f=J x)(e:Jv ci [(b,.box [])]=X):EE C ci (.call f [.ptr b a]::l) (J (.iface x (.agg [.d (.int k m)]))) h=fG C ci l h b a k m (h.get b):=by simp[EE,c,e,fG,sv];grind
def sw{f:KH}{c:u}(b:(C.caught f).isSome=X):EE C ci (.call f [.ptr c a]::l) I h=EE C ci l I h:=by have⟨x,ht⟩:=ON.1 b;simp[EE,ht]
attribute [go_sem] pe zG fG sv TH sw
attribute [go_sem] Q0 Lz L1 LO K6 KE appMix
attribute [go_sem] An vL p8
attribute [go_sem] p_ Gu AGm ABD AHI ACJ vF vE tR Option.isNone_some Option.isNone_none AFv AMc AA5 AFp AFr AJ2 AJ3 AFo uE AJ0 tF AAx AAz
attribute [go_sem] ALS AEv AJT AJS eo AJV AJW AMM AAG AJU YD
def AEo:Option (List Au)->Option (List (List Au))->Option (List (List Au))
 |some a,J b=>J (a::b)|_,_=>I
theorem kr(a:List Au)(b:List (List Au)):AEo (J a) (J b)=J (a::b):=rfl
theorem zy(g:G):EC g []=J []:=rfl
def YC(a:G)(b:List y)(c:List (List y)):EC a (b::c)=AEo (ER a b) (EC a c):=by simp only[EC];cases ER a b<;>cases EC a c<;>rfl
def uh:Option Au->Option (List Au)->Option (List Au)
 |some a,J b=>J (a::b)|_,_=>I
theorem kh(a:Au)(b:List Au):uh (J a) (J b)=J (a::b):=rfl
theorem zu(g:G):ER g []=J []:=rfl
def X8(a:G)(b:y)(c:List y):ER a (b::c)=uh (Fq a b) (ER a c):=by simp only[ER];cases Fq a b<;>cases ER a c<;>rfl
def tg(a m:Nat):Option Obj->Option Au
 |some (.f9 _ es)=>(Kd es a m).map .co|some (.rt _ es)=>(Kd es a m).map .co|_=>I
def AEh(b:G)(c:u)(a m:Nat):Fq b (.ii c a m)=tg a m (b c):=by simp only[Fq];cases b c with|none=>rfl|some e=>cases e<;>rfl
theorem sM(a m c:Nat)(b:List (List Au)):tg a m (J (.f9 c b))=(Kd b a m).map .co:=rfl
theorem z8(a m c:Nat)(b:List (List Au)):tg a m (J (.rt c b))=(Kd b a m).map .co:=rfl
def X9(a:G)(l:List Au):ER a (l.map .d)=J l:=by induction l with|nil=>rfl|cons c l b=>rw[Bv,X8,b];rfl
theorem Ry(a:G)(l:List (List Au)):EC a (l.map (·.map .d))=J l:=by induction l with|nil=>rfl|cons c l b=>rw[Bv,YC,b,X9];rfl
theorem tJ(g:G):Ca g []=[]:=rfl
theorem Vl(a:G)(b:y)(c:List y):Ca a (b::c)=JF a b++Ca a c:=rfl
theorem AJ1(g:G)(x:Au):JF g (.d x)=[]:=rfl
theorem tH(g:G):JF g .d8=[]:=rfl
theorem AA2(g:G):JF g .emp=[]:=rfl
def m5(a:u):Option Obj->S
 |some (.f9 sz es)=>[(a,.rt sz es)]|_=>[]
def AA3(c:G)(b:u)(a m:Nat):JF c (.ii b a m)=m5 b (c b):=by simp only[JF];cases c b with|none=>rfl|some e=>cases e<;>rfl
theorem tK(b:u)(c:Nat)(a:List (List Au)):m5 b (J (.f9 c a))=[(b,.rt c a)]:=rfl
theorem AA4(b:u)(c:Nat)(a:List (List Au)):m5 b (J (.rt c a))=[]:=rfl
theorem Vm(a:G)(l:List Au):Ca a (l.map .d)=[]:=by induction l with|nil=>rfl|cons c l b=>rw[Bv,Vl,b];rfl
theorem P0(a:G)(l:List (List Au)):(l.map (·.map y.d)).flatMap (Ca a)=[]:=by induction l with|nil=>rfl|cons c l b=>grind [Vm]
def Fb(a:Nat):List (List y)->Bool
 |[]=>X|e::es=>decide (U e=a)&&(e.all y.isCell&&Fb a es)
def pW(a:Nat):Fb a []=true:=by simp[Fb]
theorem LB(a:Nat)(e:List y)(b:List (List y)):Fb a (e::b)=(decide (U e=a)&&(e.all y.isCell&&Fb a b)):=by simp[Fb]
theorem ME(b:Nat)(a:List (List y)):(a.all λe=>U e==b&&e.all y.isCell)=Fb b a:=by induction a with|nil=>rfl|cons e a c=>grind [LB]
theorem rP(l:List Au):(l.map y.d).all y.isCell=true:=by induction l with|nil=>rfl|cons b l a=>rw[Bv,EX,a];rfl
def nk(a:u)(e n:Nat)(b:S):Option (List (List Au))->Option C3
 |some c=>J ⟨.ii (1::a) 0 n,b++[(1::a,.f9 e c)]⟩|none=>I
def k9(c:G)(b:u)(e:Nat)(a:List (List y)):Bool->Option C3
 |true=>J ⟨.ii (1::b) 0 (U a),[(1::b,.arr e a)]⟩|false=>nk b e (U a) (a.flatMap (Ca c)) (EC c a)
def ke(b:G)(c:u)(e:Nat)(A:Bool)(a:List (List y)):Bool->Option C3
 |true=>k9 b c e a A|false=>I
theorem Qw(b:G)(c:u)(j:TI)(a:List (List y)):newArr b c j a=ke b c j.size j.mix a (Fb j.size a&&decide (0<j.size)&&decide (U a<=BO)):=by
 unfold newArr;rw[ME,Kr,dy];cases(Fb j.size a&&decide (0<j.size)&&decide (U a<=BO))with
 |false=>rfl
 |true=>simp only[ke];cases j.mix with|true=>rfl|false=>simp only[k9];cases EC b a<;>rfl
theorem cA(b:G)(c:u)(e:Nat)(A:Bool)(a:List (List y)):ke b c e A a X=k9 b c e a A:=rfl
theorem Ux(e:G)(b:u)(c:Nat)(a:List (List y)):k9 e b c a X=J ⟨.ii (1::b) 0 (U a),[(1::b,.arr c a)]⟩:=rfl
theorem Yh(b:G)(c:u)(e:Nat)(a:List (List y)):k9 b c e a Z=nk c e (U a) (a.flatMap (Ca b)) (EC b a):=rfl
theorem cC(a:u)(e n:Nat)(b:S)(c:List (List Au)):nk a e n b (J c)=J ⟨.ii (1::a) 0 n,b++[(1::a,.f9 e c)]⟩:=rfl
def qm(b:G)(c:u)(j:TI)(n:Nat):Option (List y)->Option C3
 |some a=>if n*j.size<=16777216/\(U j.zero)=j.size then newArr b c j (Iq j.size n a)else I|none=>I
theorem Zg(a:G)(b:u)(j:TI):Ih a b 0 [] j=J ⟨.emp,[]⟩:=rfl
theorem Zf(a:G)(b:u)(n:Nat)(g:List (Nat×y))(j:TI):Ih a b (n+1) g j=qm a b j (n+1) (EB (λk=>J (k*j.size,j.size)) ((TL (n+1) j.zero).flatten) g):=by grind [Ih,qm,Kr]
theorem jA(b:G)(c:u)(j:TI)(n:Nat)(a:List y):qm b c j n (J a)=if n*j.size<=16777216/\(U j.zero)=j.size then newArr b c j (Iq j.size n a)else none:=rfl
def hO(c:y):Option C3:=match c with|.d8=>J ⟨.d8,[]⟩|.emp=>J ⟨.emp,[]⟩|.ii b a n=>J ⟨.ii b a n,[]⟩|_=>I
theorem yQ:hO .d8=J ⟨.d8,[]⟩:=rfl
theorem ADI:hO .emp=J ⟨.emp,[]⟩:=rfl
theorem ADJ(b:u)(a n:Nat):hO (.ii b a n)=J ⟨.ii b a n,[]⟩:=rfl
def ti(a:G)(b:u)(j:TI)(c:y)(e:List (List y)):Bool->Option C3
 |true=>appTo a b j c e|false=>I
def UK(b:G)(c:u)(j:TI)(a:y):Option (List (List y))->Option C3
 |none=>I|some []=>hO a|some (e::es)=>ti b c j a (e::es) (Fb j.size (e::es)&&decide ((e::es).length<=BO)&&decide (0<j.size))
def qh(a:G)(g:u)(j:TI)(b c:y):appendV a g j b c=UK a g j b (Cx a c):=by
 unfold appendV;cases Cx a c with
 |none=>rfl
 |some h=>cases h with|nil=>cases b<;>rfl|cons e f=>simp only[UK,<-ME,Kr,dy];cases((e::f).all (λe=>U e==j.size&&e.all y.isCell)&&decide ((e::f).length<=BO)&&decide (0<j.size))<;>rfl
theorem ADF(b:G)(c:u)(j:TI)(a:y):UK b c j a (J [])=hO a:=rfl
theorem aH(b:G)(c:u)(j:TI)(f:y)(e:List y)(a:List (List y)):UK b c j f (J (e::a))=ti b c j f (e::a) (Fb j.size (e::a)&&decide ((e::a).length<=BO)&&decide (0<j.size)):=rfl
theorem aG(a:G)(b:u)(j:TI)(c:y)(e:List (List y)):ti a b j c e X=appTo a b j c e:=rfl
def iZ(f:u)(b:u)(a n g:Nat)(h:List (List Au))(e:S)(c:List (List Au)):Option (List (List Au))->Option C3
 |some i=>J ⟨.ii b a (n+U c),e++[(b,.f9 g i)]⟩|none=>if a=0/\n+U c<=BO then J ⟨.ii (1::f) 0 (n+U c),e++[(b,.rt 0 []),(1::f,.f9 g (h.take n++c))]⟩else I
def o6(g:u)(e:u)(a n h:Nat)(b:List (List Au))(f:S):Option (List (List Au))->Option C3
 |some c=>if Td e f=X then iZ g e a n h b f c (C0 b (a+n) c)else I|none=>I
theorem ic(b:G)(g:u)(f:u)(a n h:Nat)(e:List (List Au))(c:List (List y)):appIn b g f a n h e c=o6 g f a n h e (c.flatMap (Ca b)) (EC b c):=by unfold appIn o6;grind [iZ,WX,Kr]
theorem aI(g:u)(e:u)(a n h:Nat)(b:List (List Au))(f:S)(c:List (List Au)):o6 g e a n h b f (J c)=if Td e f=X then iZ g e a n h b f c (C0 b (a+n) c)else none:=rfl
theorem qg(i:u)(b:u)(a n g:Nat)(h:List (List Au))(f:S)(c e:List (List Au)):iZ i b a n g h f c (J e)=J ⟨.ii b a (n+U c),f++[(b,.f9 g e)]⟩:=rfl
theorem XM(b:u)(f:u)(a n h:Nat)(e:List (List Au))(g:S)(c:List (List Au)):iZ b f a n h e g c I=if a=0/\n+U c<=BO then J ⟨.ii (1::b) 0 (n+U c),g++[(f,.rt 0 []),(1::b,.f9 h (e.take n++c))]⟩else none:=rfl
def cH(a:u):Td a []=true:=by simp[Td]
def lu(f:G)(c:u)(j:TI)(b:u)(a n:Nat)(e:List (List y)):Option Obj->Option C3
 |some (.f9 sz es)=>if sz=j.size/\a+n<=(U es) then appIn f c b a n sz es e else I|some (.arr sz es)=>if sz=j.size/\a+n<=(U es) then appMix c b a n sz es e else I|_=>I
theorem XN(a:G)(b:u)(j:TI)(c:List (List y)):appTo a b j .d8 c=newArr a b j c:=rfl
theorem yR(a:G)(b:u)(j:TI)(c:List (List y)):appTo a b j .emp c=newArr a b j c:=rfl
theorem aK(b:G)(e:u)(j:TI)(c:u)(a n:Nat)(f:List (List y)):appTo b e j (.ii c a n) f=lu b e j c a n f (b c):=by grind [appTo,lu,WX,Kr]
theorem aJ(e:G)(g:u)(j:TI)(f:u)(a n:Nat)(h:List (List y))(c:Nat)(b:List (List Au)):lu e g j f a n h (J (.f9 c b))=if c=j.size/\a+n<=(U b) then appIn e g f a n c b h else none:=rfl
theorem ADG(h:G)(f:u)(j:TI)(e:u)(a n:Nat)(g:List (List y))(c:Nat)(b:List (List y)):lu h f j e a n g (J (.arr c b))=if c=j.size/\a+n<=(U b) then appMix f e a n c b g else none:=rfl
theorem zR(b:G)(a:List (List Au)):Cx b (.d (.co a))=J (a.map (·.map .d)):=rfl
theorem rk(g:G):Cx g .d8=J []:=rfl
theorem zP(g:G):Cx g .emp=J []:=rfl
def l6(a n:Nat):Option Obj->Option (List (List y))
 |some (.f9 _ es)=>Kd (es.map (·.map .d)) a n|some (.rt _ es)=>Kd (es.map (·.map .d)) a n|some (.arr _ es)=>Kd es a n|_=>I
def zS(b:G)(c:u)(a n:Nat):Cx b (.ii c a n)=l6 a n (b c):=by
 simp[Cx];rcases b c with _|e
 .rfl
 .cases e<;>rfl
theorem ABy(a n c:Nat)(b:List (List Au)):l6 a n (J (.f9 c b))=Kd (b.map (·.map .d)) a n:=rfl
theorem AGx(a n c:Nat)(b:List (List Au)):l6 a n (J (.rt c b))=Kd (b.map (·.map .d)) a n:=rfl
theorem AGw(a n c:Nat)(b:List (List y)):l6 a n (J (.arr c b))=Kd b a n:=rfl
def nY(ok:Bool)(r:Option y):Option TI->Option C3
 |some j=>Lu ok r j|none=>I
def w6(T:H5->Option TI)(i:TI)(ok:Bool):Option (Option y)->Option C3
 |some r=>nY ok r (T i.elem)|none=>I
def wz(T:H5->Option TI)(x:Au)(ok:Bool)(i:TI):Option Obj->Option C3
 |some (.map es)=>w6 T i ok (Bs es x)|_=>I
def wy(T:H5->Option TI)(a:G)(b:u)(c:Au)(ok:Bool)(i:TI):Bool->Option C3
 |true=>wz T c ok i (a b)|false=>I
def oz(T:H5->Option TI)(b:G)(c:u)(a:Au)(ok:Bool)(i:TI):TK->Option TI->Option C3
 |.map,J e=>wy T b c a ok i (Kj e.kind a)|_,_=>I
def nr(T:H5->Option TI)(b:G)(c:u)(a:Au)(ok:Bool)(i:TI):HX T b (.mp c) (.d a) ok (J i)=oz T b c a ok i i.kind (T i.key):=by
 unfold HX;simp[RP];cases h:i.kind with
 |map=>
  rcases T i.key with _|f
  .rfl
  .simp[oz];rcases Kj f.kind a with _|_
   .rfl
   .simp[wy];rcases b c with _|g
    .rfl
    .cases g with
     |map e=>
      simp[wz];rcases Bs e a with _|r
      .rfl
      .simp[w6];cases T i.elem<;>rfl
     |_=>rfl
 |_=>rfl
theorem AAk(T:H5->Option TI)(b:G)(c:u)(a:Au)(ok:Bool)(i e:TI):oz T b c a ok i .map (J e)=wy T b c a ok i (Kj e.kind a):=rfl
theorem s7(T:H5->Option TI)(a:G)(b:u)(c:Au)(ok:Bool)(i:TI):wy T a b c ok i X=wz T c ok i (a b):=rfl
theorem AAl(T:H5->Option TI)(b:Au)(ok:Bool)(i:TI)(a:List (Au×y)):wz T b ok i (J (.map a))=w6 T i ok (Bs a b):=rfl
theorem s8(T:H5->Option TI)(ok:Bool)(i:TI)(r:Option y):w6 T i ok (J r)=nY ok r (T i.elem):=rfl
theorem s9(ok:Bool)(r:Option y)(j:TI):nY ok r (J j)=Lu ok r j:=rfl
def AFd(v:y)(j:TI):Lu X (J v) j=J ⟨.kw [v,.d (.bool X)],[]⟩:=by unfold Lu;cases GY j.agg j.zero<;>rfl
def AFb(v:y)(j:TI):Lu Z (J v) j=J ⟨v,[]⟩:=by unfold Lu;cases GY j.agg j.zero<;>rfl
def n6(ok:Bool):Option y->Option C3
 |some A6=>match ok with|true=>J ⟨.kw [A6,.d (.bool Z)],[]⟩|false=>J ⟨A6,[]⟩
 |none=>I
def AFc(ok:Bool)(j:TI):Lu ok I j=n6 ok (GY j.agg j.zero):=by unfold Lu;cases GY j.agg j.zero<;>cases ok<;>rfl
theorem AJy(A6:y):n6 X (J A6)=J ⟨.kw [A6,.d (.bool Z)],[]⟩:=rfl
theorem AJx(A6:y):n6 Z (J A6)=J ⟨A6,[]⟩:=rfl
theorem tC(x:Au):Bs [] x=J none:=rfl
attribute [go_sem] nr AAk s7 AAl s8 s9 AFd AFb AFc AJy AJx Kj tC
variable{g:G}
theorem uw{l:List w}{a:Nat}(i:∀b,(f b).length=a)(c:0<=m)(j:m<=(U l)):GR g .slice a (.d (.co (l.map f))) I (J (.d (.int k m))) I=J (.d (.co ((l.take m.toNat).map f))):=by
 have e:Fu I (J (.d (.int k m))) I (l.map f).length=J (0,m.toNat,I):=by simp[Fu,Jg,Kb,c]
 have h:Qh a (l.map f)=true:=by
  rcases l with _|⟨b,l⟩
  .rfl
  .grind [Qh,WX]
 show ZJ a (l.map f) (Fu I (J (.d (.int k m))) I (l.map f).length)=_;grind [Kr,ZJ,List.map_take]
def v5(c:u)(a:Nat)(cells:List y):Option Obj->Option C3
 |some (.box cs)=>(C0 cs a cells).map λb=>⟨.undef,[(c,.box b)]⟩|_=>I
def lg(b:u)(k a i:Nat)(h:List (List Au))(f:S):Option (List Au)->Option (List Au)->Option C3
 |some e,J c=>if Td b f=X then(C0 e a c).map λg=>⟨.undef,f++[(b,.f9 i (h.set k g))]⟩else I|_,_=>I
def lx(f:u)(k a g:Nat)(c:List (List y))(cells:List y):Option (List y)->Option C3
 |some e=>(C0 e a cells).map λb=>⟨.undef,[(f,.arr g (c.set k b))]⟩|none=>I
def hZ(g:G)(b:u)(k a:Nat)(cells:List y):Option Obj->Option C3
 |some (.f9 sz es)=>lg b k a sz es (Ca g cells) es[k]? (ER g cells)|some (.arr sz es)=>lx b k a sz es cells es[k]?
 |_=>I
def ACE(g:G)(i:TI)(c:u)(a:Nat)(b:y):Ke g i (.ptr c a) b=if (U b.cells)=i.size/\b.cells.all y.isCell=X then v5 c a b.cells (g c)else none:=by
 unfold Ke;by_cases h:U b.cells=i.size/\b.cells.all y.isCell=X
 .have:(U b.cells==i.size&&b.cells.all y.isCell)=true:=by simp[h.1,h.2]
  rw[this,D3 h];simp only;cases g c with|none=>rfl|some j=>cases j<;>rfl
 .have:(U b.cells==i.size&&b.cells.all y.isCell)=false:=by
   rw[Bool.and_eq_false_iff];by_cases e:U b.cells=i.size
   .exact .inr (by simpa using λf=>h ⟨e,f⟩)
   .exact .inl zC3
  rw[this,Co h]
theorem vC(g:G)(i:TI)(c:u)(k a:Nat)(b:y):Ke g i (.rg c k a) b=if (U b.cells)=i.size/\b.cells.all y.isCell=X then hZ g c k a b.cells (g c)else none:=by
 unfold Ke;by_cases h:U b.cells=i.size/\b.cells.all y.isCell=X
 .have:(U b.cells==i.size&&b.cells.all y.isCell)=true:=by simp[h.1,h.2]
  rw[this,D3 h];simp only;rcases g c with _|f
  .rfl
  .cases f with|f9 j e=>simp[hZ,lg];grind|arr j e=>grind [hZ,lx]|_=>rfl
 grind
theorem AKa(c:u)(a:Nat)(cells b:List y):v5 c a cells (J (.box b))=(C0 b a cells).map λe=>⟨.undef,[(c,.box e)]⟩:=rfl
theorem AG7(g:G)(c:u)(k a e:Nat)(cells:List y)(b:List (List Au)):hZ g c k a cells (J (.f9 e b))=lg c k a e b (Ca g cells) b[k]? (ER g cells):=rfl
theorem AKZ(g:G)(c:u)(k a e:Nat)(cells:List y)(b:List (List y)):hZ g c k a cells (J (.arr e b))=lx c k a e b cells b[k]? :=rfl
theorem AG6(b:u)(k a h:Nat)(g:List (List Au))(f:S)(e c:List Au):lg b k a h g f (J e) (J c)=if Td b f=X then(C0 e a c).map λi=>⟨.undef,f++[(b,.f9 h (g.set k i))]⟩else none:=rfl
theorem AG5(c:u)(k a f:Nat)(b:List (List y))(cells e:List y):lx c k a f b cells (J e)=(C0 e a cells).map λg=>⟨.undef,[(c,.arr f (b.set k g))]⟩:=rfl
attribute [go_sem] ACE vC AKa AG7 AKZ AG6 AG5
def nW(g:G)(a:u)(n:Int):TK->Option TI->Option C3
 |.slice,J j=>if 0<=n/\n<=BO then GX g a n.toNat j else I|_,_=>I
def AJz(T:H5->Option TI)(g:G)(a:u)(k c:IntKind)(n:Int)(i:TI):Eg T g a (.d (.int k n)) (.d (.int c n)) (J i)=nW g a n i.kind (T i.elem):=by
 obtain⟨e,p,f,o,q,h,b,l,m⟩:=i;unfold Eg;simp only;cases e with
 |slice=>
  rcases T b with _|j
  .rfl
  .simp[nW]
 |_=>rfl
theorem AMh(g:G)(a:u)(n:Int)(j:TI):nW g a n .slice (J j)=if 0<=n/\n<=BO then GX g a n.toNat j else none:=rfl
def l0:List y->Option (List Au)
 |[]=>J []|.d x::l=>(l0 l).map (x:: ·)|_=>I
def iR:∀{l:List y} {c:List Au},l0 l=J c->l=c.map .d
 |[],c,h=>by cases h;rfl|v::l,c,h=>by cases v<;>simp[l0]at h;obtain⟨b,a,rfl⟩:=h;rw[iR a];rfl
theorem Uu{a:u}{n:Nat}{j:TI}{zs:List Au}(p:0<n)(o:n<=BO)(f:l0 j.zero=J zs)(c:U j.zero=j.size)(h:0<j.size)(l:j.mix=Z):GX g a n j=J ⟨.ii (1::a) 0 n,[(1::a,.f9 j.size (TL n zs))]⟩:=by
 obtain⟨m,rfl⟩:∃m,n=m+1:=⟨n-1,z⟩;have e:=iR f;have b:TL (m+1) j.zero=(TL (m+1) zs).map (·.map y.d):=by rw[Lc,e]
 show newArr g a j (TL (m+1) j.zero)=_;rw[Qw,b];have i:Fb j.size ((TL (m+1) zs).map (·.map y.d))=true:=by
  have q:U zs=j.size:=by rw[<-c,e];simp
  generalize m+1=k;induction k with|zero=>simp[Fb]|succ k r=>grind [LB,rP]
 grind [cA,Yh,Ry,P0,cC]
theorem AAs(g:G)(a:u)(j:TI):GX g a 0 j=J ⟨.emp,[]⟩:=rfl
theorem TG{n:Nat}(h:n<=1073741824):((n:Int)<=(BO:Int))=True:=by grind [BO]
attribute [go_sem] AJz AMh AAs Nat.zero_add
attribute [go_sem] Option.map_none kr zy YC kh zu X8 AEh sM z8 X9 Ry tJ Vl AJ1 tH AA2 AA3 tK AA4 Vm P0 pW LB Qw cA Ux Yh cC Zg Zf jA yQ ADI ADJ qh ADF aH aG ic aI qg XM cH XN yR aK aJ ADG zR rk zP zS ABy AGx AGw Nat.one_mul Nat.mul_one Nat.reduceMul
end Go.Abs
namespace Go.Abs
variable{C:C7}{K:Af}{a:Fr}{b:Nat}{Q:DZ->St->Prop}
theorem EJ{e:Type}{b:List e}{a:Nat}{c:e}(f:b[a]?=J c):b.drop a=c::b.drop (a+1):=by grind [List.drop_eq_getElem_cons]
def Ah{l j:Type}{h:L2}(e:List l)(B2:Nat->j->St)(Inv:Nat->List l->j->Prop)(b0:j)(o:Inv 0 e b0)(step:∀(c:Nat) (i:l) (g:j),e[c]?=J i->c<U e->(c:Int)<(U e:Int)->Inv c (i::e.drop (c+1)) g->AR (∀k,Inv (c+1) (e.drop (c+1)) k->WH C K a b h (B2 (c+1) k) Q)->Wp C K a b h (B2 c g) (Py C K a b h Q))(done:∀(c:Nat) (g:j),AR (c=U e)->¬(c:Int)<(U e:Int)->Inv c [] g->Wp C K a b h (B2 c g) (Py C K a b h Q)):WH C K a b h (B2 0 b0) Q:=by
 refine rounds (B2:=λf:Nat×j=>B2 f.1 f.2) (Inv:=λf=>f.1<=(U e)/\Inv f.1 (e.drop f.1) f.2) (m:=λf=>U e-f.1) (a:=(0,b0)) ⟨AG,by simpa using o⟩ ?_;rintro⟨c,g⟩ ⟨h1,h2⟩ IH;dsimp only at*;by_cases m:c<U e
 .obtain⟨i,n⟩:∃i,e[c]?=J i:=⟨_,CE m⟩;rw[EJ n]at h2;exact step c i g n m z h2 ⟨λk p=>IH.out (c+1,k) AZ ⟨AZ,p⟩⟩
 .have:c=U e:=z;rw[D7 z]at h2;exact done c g ⟨this⟩ z h2
end Go.Abs
namespace Go.Abs
variable{C:C7}{K:Af}{a:Fr}{b:Nat}{Q:DZ->St->Prop}
def CR{k h:Type}{g:L2}(f:List k)(m:Int)(B2:Int->Nat->h->St)(Inv:Nat->List k->h->Prop)(b0:h)(s:m=U f)(p:Inv 0 f b0)(step:∀(c:Nat) (j:k) (e:h),f[c]?=J j->c<U f->(c:Int)<m->Inv c (j::f.drop (c+1)) e->AR (∀l,Inv (c+1) (f.drop (c+1)) l->WH C K a b g (B2 m (c+1) l) Q)->Wp C K a b g (B2 m c e) (Py C K a b g Q))(done:∀(c:Nat) (e:h),AR (c=U f)->¬(c:Int)<m->Inv c [] e->Wp C K a b g (B2 m c e) (Py C K a b g Q)):WH C K a b g (B2 m 0 b0) Q:=Ah f (B2 m) Inv b0 p (λc j e i n o q r=>step c j e i n z q r) (λc e i n o=>done c e i (by have:=i.out;omega) o)
end Go.Abs
namespace Go.Abs
variable{P:JH}{C:C7}
def AH5{a:KH}{fn:Qm}{f:L2}{j:List ResultVar}{args:List y}{b:u}{c:BC×S->Prop}(m:C.qr a=X)(l:P.funcs[a]?=J fn)(k:fn.body=J f)(o:fn.results.toList=j)(n:W0 (U args) fn.ntmps=X)(p:Wp C (KL P C) {f:=a,π:=b,raw:=Z,ci:=I,nt:=fn.ntmps} 0 f ⟨EV 0 args,[],0,[]⟩ (MJ C I j b Z λh g=>c (G4 (h,g)))):∃i,Bk (KL P C) a args b=.ok i/\c i:=by have⟨h,g,e,h2⟩:=Nq m l k o n p;unfold Bk;rw[e];exact⟨_,rfl,h2⟩
def W7{a:KH}{fn:Qm}{e:L2}{h:List ResultVar}{args:List y}{b:List Nat}{c:BC×S->Prop}{f:Nat}(k:P.funcs[a]?=J fn)(p:Wp C (KL P C) {f:=a,π:=b,raw:=Z,ci:=I,nt:=f} 0 e ⟨EV 0 args,[],0,[]⟩ (MJ C I h b Z λq i=>c (G4 (q,i))))(j:fn.body=J e:=by rfl)(o:fn.results=h.toArray:=by rfl)(n:fn.ntmps=f:=by rfl)(l:C.qr a=true:=by rfl)(m:W0 (U args) fn.ntmps=true:=by rfl):∃g,Bk (KL P C) a args b=.ok g/\c g:=by subst n;exact AH5 l k j (by simp[o]) m p
end Go.Abs
namespace Go.Abs
variable{C:C7}{K:Af}{a:Fr}{b:Nat}{Q:DZ->St->Prop}
end Go.Abs
namespace Go.Abs
variable{P:JH}{C:C7}{K:Af}{a:Fr}{b n i:Nat}{Q:DZ->St->Prop}
variable{g:Array H0}{al:Nat->Bool}{l:List H0}{e:CN}{h:S}{j:Nat}{f:List Df}{k:List (Nat×Nat)}{m:List Fp}{c:u}{o:Option M5}
def nA(C:C7)(K:Af)(a:Fr)(g:Array H0)(b n:Nat)(al:Nat->Bool)(l:List H0)(i:Nat)(o:Option M5)(c:u)(e:CN)(h:S)(j:Nat)(f:List Df)(Q:DZ->St->Prop)(args:List y)(m:y):Option KH->Prop
 |some k=>XX C K a g b n al l i o c e h j f Q args (.fn k [m] [])|none=>False
def AQN(C:C7)(K:Af)(a:Fr)(g:Array H0)(b n:Nat)(al:Nat->Bool)(l:List H0)(i:Nat)(o:Option M5)(c:u)(e:CN)(h:S)(j:Nat)(f:List Df)(Q:DZ->St->Prop)(m:String)(args:List y):y->Prop
 |.iface t v=>nA C K a g b n al l i o c e h j f Q args v (C.meth t m)|_=>False
theorem sj(m:String)(args:List y)(t:H5)(v:y):AQN C K a g b n al l i o c e h j f Q m args (.iface t v)=nA C K a g b n al l i o c e h j f Q args v (C.meth t m):=rfl
theorem AA8(args:List y)(m:y)(k:KH):nA C K a g b n al l i o c e h j f Q args m (J k)=XX C K a g b n al l i o c e h j f Q args (.fn k [m] []):=rfl
def p4(C:C7)(K:Af)(a:Fr)(g:Array H0)(b n:Nat)(al:Nat->Bool)(k:List (Nat×Nat))(m:List Fp)(l:List H0)(i:Nat)(o:Option M5)(c:u)(e:CN)(h:S)(j:Nat)(f:List Df)(Q:DZ->St->Prop)(args:List y)(q:y):Option KH->Prop
 |some p=>jC C K a g b n al k m l i o c e h j f Q args (.fn p [q] [])|none=>False
def nN(C:C7)(K:Af)(a:Fr)(g:Array H0)(b n:Nat)(al:Nat->Bool)(k:List (Nat×Nat))(m:List Fp)(l:List H0)(i:Nat)(o:Option M5)(c:u)(e:CN)(h:S)(j:Nat)(f:List Df)(Q:DZ->St->Prop)(p:String)(args:List y):y->Prop
 |.iface q r=>p4 C K a g b n al k m l i o c e h j f Q args r (C.meth q p)|_=>False
def AEM(q:M3)(p:String)(r:Array M3)(t:Array H5):FZ C K a g b n al k m l i Q (JX C K a c (.call ⟨.invoke q p,r,t⟩) o ⟨e,h,j,f⟩)=nN C K a g b n al k m l i o c e h j f Q p (r.toList.map (ev e.get)) (ev e.get q):=by
 simp only[JX];cases ev e.get q with
 |iface s w=>
  simp only[HT,nN];rcases C.meth s p with _|v
  .rfl
  .rfl
 |_=>rfl
theorem si(p:String)(args:List y)(q:H5)(r:y):nN C K a g b n al k m l i o c e h j f Q p args (.iface q r)=p4 C K a g b n al k m l i o c e h j f Q args r (C.meth q p):=rfl
theorem AA7(args:List y)(q:y)(p:KH):p4 C K a g b n al k m l i o c e h j f Q args q (J p)=jC C K a g b n al k m l i o c e h j f Q args (.fn p [q] []):=rfl
def Y2(C:C7)(K:Af)(a:Fr)(g:Array H0)(b n:Nat)(al:Nat->Bool)(k:List (Nat×Nat))(m:List Fp)(l:List H0)(i:Nat)(o:Option M5)(c:u)(e:CN)(h:S)(j:Nat)(f:List Df)(Q:DZ->St->Prop):E (BC×S)->Prop
 |.ok (.ret v,h')=>JZ C K a g b n al k (m++[⟨I,J (jn h (gc (S7 c v) h')),Z⟩]) l (i+1) ⟨Dj e o v,gc (S7 c v) h',j,f⟩ Q|.ok (.of v,h')=>al i=X/\E3 a.π b m k=X/\Q (.of v) ⟨e,gc c h',b+n,f⟩|.err _=>False
theorem AB8(o:Option M5)(c:u)(p:E (BC×S)):FZ C K a g b n al k m l i Q (FW c o ⟨e,h,j,f⟩ p)=Y2 C K a g b n al k m l i o c e h j f Q p:=by cases p with|err l=>rfl|ok p=>obtain⟨q,r⟩:=p;cases q<;>simp[FW,FZ,Y2]
theorem od(o:Option M5)(c:u)(p:y)(q:S):Y2 C K a g b n al k m l i o c e h j f Q (.ok (.ret p,q))=JZ C K a g b n al k (m++[⟨I,J (jn h (gc (S7 c p) q)),Z⟩]) l (i+1) ⟨Dj e o p,gc (S7 c p) q,j,f⟩ Q:=rfl
theorem AGl(o:Option M5)(c:u)(q:y)(p:S):Y2 C K a g b n al k m l i o c e h j f Q (.ok (.of q,p))=(al i=X/\E3 a.π b m k=X/\Q (.of q) ⟨e,gc c p,b+n,f⟩):=rfl
theorem ABB(o:Option M5)(c:u)(q:KH)(p:List y):O2 C K a g b n al k m l i o c e h j f Q q p .raw=Y2 C K a g b n al k m l i o c e h j f Q (K (.fn q) p h c X a.ci):=by grind [O2,Er,AB8]
variable{o:Option M5}
theorem Fk{r:BC->S->Prop}{c:u}{s:E (BC×S)}(t:∃q p,s=.ok (q,p)/\r q p)(v:∀q p,r q p->Y2 C K a g b n al k m l i o c e h j f Q (.ok (q,p))):Y2 C K a g b n al k m l i o c e h j f Q s:=zCN
def tP(o:Option M5)(c:u)(q:KH)(p:List y)(r:(Fa h.get p).isNone):O2 C K a g b n al k m l i o c e h j f Q q p .auto=(Jv a.ci (p.flatMap (mark h.get))=X/\Y2 C K a g b n al k m l i o c e h j f Q (K (.fn q) (QP h.get p) (h.puts (p.flatMap (mark h.get))) c X a.ci)):=by
 have r:Fa h.get p=none:=zCv
 simp only[O2,Er,r,Gk,CC,Cn,Bu];rcases hw:Jv a.ci (p.flatMap (mark h.get))with _|_
 .simp[FZ]
 .simp only[true_and];cases K (.fn q) (QP h.get p) (h.puts (p.flatMap (mark h.get))) c X a.ci with|err l=>rfl|ok t=>obtain⟨s,v⟩:=t;cases s<;>simp[FW,FZ,Y2]
variable{p:List y}
theorem fb{k:y}{c:Prop} [Decidable c](m:¬c->FM C K a g b n al l i p o e h j f Q (DJ k X))(q:c->FM C K a g b n al l i p o e h j f Q (DJ k Z)):FM C K a g b n al l i p o e h j f Q (DJ k (!decide c)):=by
 by_cases r:c
 .grind
 grind
theorem fZ{q:y}{c:Prop} [Decidable c](r:¬c->Eh C K a g b n al k m l i p o e h j f Q (DJ q X))(s:c->Eh C K a g b n al k m l i p o e h j f Q (DJ q Z)):Eh C K a g b n al k m l i p o e h j f Q (DJ q (!decide c)):=by
 by_cases t:c
 .grind
 grind
def tw{q:y}{c:Bool}(r:c=X->Eh C K a g b n al k m l i p o e h j f Q (DJ q X))(s:c=Z->Eh C K a g b n al k m l i p o e h j f Q (DJ q Z)):Eh C K a g b n al k m l i p o e h j f Q (DJ q c):=by
 cases c
 .exact s rfl
 .exact r rfl
theorem oU{q:y}{c:Prop} [Decidable c](r:c->Eh C K a g b n al k m l i p o e h j f Q (DJ q X))(s:¬c->Eh C K a g b n al k m l i p o e h j f Q (DJ q Z)):Eh C K a g b n al k m l i p o e h j f Q (DJ q (decide c)):=by
 by_cases t:c
 .grind
 grind
theorem qf(a b:List u):Abs.apart (J a) (J b)=a.all λx=>b.all λB0=> !AJ x B0:=by
 have key:∀(x:u) (m:List u),(!m.contains x)=m.all λB0=> !AJ x B0:=λx m=>by grind [AI,is_self]
 unfold Abs.apart;grind
theorem E1(c:u)(h:S)(l:u):S.get (gc c h) (1::l)=S.get h (1::l):=R0 (λa=>match a with|0::l=> !AD c l|_=>X) h (1::l) rfl
theorem Wh(a b:S)(c:u):S.get (a++b) c=(match S.get a c with|some o=>J o|none=>S.get b c):=by induction a with|nil=>rfl|cons f a e=>grind [H8]
variable{a b:S}
def JB{c:u}(h:S.get a c=I):S.get (a++b) c=S.get b c:=by rw[Wh,h]
theorem Dp{c:u}{e:Obj}(h:S.get a c=J e):S.get (a++b) c=J e:=by rw[Wh,h]
def AEa(g:G)(f:KH)(a:List y)(x:y)(c:List y):FA g (.fn f a (x::c))=none:=zCl
attribute [go_sem] E1 AEa
attribute [go_sem ↓] AEM
attribute [go_sem] qf sj AA8 si AA7 od AGl ABB tP ca cZ
attribute [go_sem_proc] Nat.reduceEqDiff Nat.reduceAdd Nat.reduceSub Nat.reduceBEq Nat.reduceLeDiff Nat.reduceLT reduceCtorEq Int.reduceEq Int.reduceLT Int.reduceLE Int.reduceNeg Int.reduceToNat Int.reduceAdd Int.reduceSub
attribute [go_sem_proc ↓] reduceIte
attribute [go_sem] Int.cast_ofNat_Int Int.zero_add Nat.le_refl
class Sp(G:Prop)(P N A B:outParam Prop):Prop:=go:(P->A)->(N->B)->G
def sx{G P N A B:Prop} [s:Sp G P N A B](a:P->A)(b:N->B):G:=s.go a b
class Sq(G:Prop)(α:outParam Type)(H:outParam Prop)(R M A:outParam (α->Prop)):Prop:=go:H->(∀x,R x->M x->A x)->G
def sy{G:Prop}{c:Type}{H:Prop}{b M A:c->Prop} [s:Sq G c H b M A](e:H)(f:∀a,b a->M a->A a):G:=s.go e f
def au{G:Prop}(h:G:=by(repeat' (first|simp only[*,go_sem]|(refine sx ?_ ?_<;>intro a)|refine sy z λe c b=>?_|simp(disch:=first|assumption|omega) only[w_,Uq,TG,slice_int]))):G:=h
def af{G:Prop}(h:G:=by(repeat' (first|simp only[*,go_sem,AM]|(refine sx ?_ ?_<;>intro a)|refine sy z λe c b=>?_|simp(disch:=first|assumption|omega) only[w_,Uq,TG,slice_int]))):G:=h
def BZ{G:Prop}(h:G:=by first|(simp only[*,go_sem,AM];done)|rfl):G:=h
variable{R:Prop}
def aw{G:Prop}(h:R)(e:AR R->G:=by intro a;(repeat' (first|simp only[*,go_sem]|(refine sx ?_ ?_<;>intro b)|refine sy z λg f c=>?_|simp(disch:=first|assumption|omega) only[w_,Uq,TG,slice_int]));exact a.out):G:=e ⟨h⟩
def ax{G:Prop}(h:R)(e:AR R->G:=by intro a;(repeat' (first|simp only[*,go_sem,AM]|(refine sx ?_ ?_<;>intro b)|refine sy z λg f c=>?_|simp(disch:=first|assumption|omega) only[w_,Uq,TG,slice_int]));exact a.out):G:=e ⟨h⟩
variable{C:C7}{K:Af}{a:Fr}{b n i:Nat}{Q:DZ->St->Prop}
variable{c:Array H0}{al:Nat->Bool}{l:List H0}{e:CN}{h:S}{k:Nat}{m:List Df}{o:List (Nat×Nat)}{q:List Fp}{g:Option M5}{f:St}{op:Op}{r:Bool}{j:List y}{v:y}{t:Bool}{p:Prop}{x s:L2}
instance(priority:=2000) [Decidable p]:Sp (Pb C K a b x s f Q (.d (.bool (decide p)))) p (¬p) (Wp C K a b x f Q) (Wp C K a b s f Q):=⟨yy⟩
instance(priority:=2000) [Decidable p]:Sp (Dt C K a c b n al l i g op f r Q (.d (.bool (decide p)))) p (¬p) (Dt C K a c b n al l i g op f r Q (.d (.bool X))) (Dt C K a c b n al l i g op f r Q (.d (.bool Z))):=⟨sX⟩
instance:Sp (Pb C K a b x s f Q (.d (.bool t))) (t=X) (t=Z) (Wp C K a b x f Q) (Wp C K a b s f Q):=⟨jY⟩
instance:Sp (Dt C K a c b n al l i g op f r Q (.d (.bool t))) (t=X) (t=Z) (Dt C K a c b n al l i g op f r Q (.d (.bool X))) (Dt C K a c b n al l i g op f r Q (.d (.bool Z))):=⟨eu⟩
instance(priority:=2000) [Decidable p]:Sp (FB C K a c b n al o q l i g op f r Q (.d (.bool (decide p)))) p (¬p) (FB C K a c b n al o q l i g op f r Q (.d (.bool X))) (FB C K a c b n al o q l i g op f r Q (.d (.bool Z))):=⟨sc⟩
instance:Sp (FB C K a c b n al o q l i g op f r Q (.d (.bool t))) (t=X) (t=Z) (FB C K a c b n al o q l i g op f r Q (.d (.bool X))) (FB C K a c b n al o q l i g op f r Q (.d (.bool Z))):=⟨ew⟩
instance(priority:=2000) [Decidable p]:Sp (FM C K a c b n al l i j g e h k m Q (DJ v (decide p))) p (¬p) (FM C K a c b n al l i j g e h k m Q (DJ v X)) (FM C K a c b n al l i j g e h k m Q (DJ v Z)):=⟨oV⟩
instance(priority:=2000) [Decidable p]:Sp (FM C K a c b n al l i j g e h k m Q (DJ v (!decide p))) (¬p) p (FM C K a c b n al l i j g e h k m Q (DJ v X)) (FM C K a c b n al l i j g e h k m Q (DJ v Z)):=⟨fb⟩
instance:Sp (FM C K a c b n al l i j g e h k m Q (DJ v t)) (t=X) (t=Z) (FM C K a c b n al l i j g e h k m Q (DJ v X)) (FM C K a c b n al l i j g e h k m Q (DJ v Z)):=⟨uD⟩
instance(priority:=2000) [Decidable p]:Sp (Eh C K a c b n al o q l i j g e h k m Q (DJ v (decide p))) p (¬p) (Eh C K a c b n al o q l i j g e h k m Q (DJ v X)) (Eh C K a c b n al o q l i j g e h k m Q (DJ v Z)):=⟨oU⟩
instance(priority:=2000) [Decidable p]:Sp (Eh C K a c b n al o q l i j g e h k m Q (DJ v (!decide p))) (¬p) p (Eh C K a c b n al o q l i j g e h k m Q (DJ v X)) (Eh C K a c b n al o q l i j g e h k m Q (DJ v Z)):=⟨fZ⟩
instance:Sp (Eh C K a c b n al o q l i j g e h k m Q (DJ v t)) (t=X) (t=Z) (Eh C K a c b n al o q l i j g e h k m Q (DJ v X)) (Eh C K a c b n al o q l i j g e h k m Q (DJ v Z)):=⟨tw⟩
instance{α:Type}{f:α->List Au}{l':List α}{sz j:Nat}:Sq (Jo C K a c b n al l i g e h k m Q (YZ sz (Option.map f l'[j]?))) α (j<U l') (λx=>l'[j]?=J x) (λx=>x∈l') (λx=>Jo C K a c b n al l i g e h k m Q (YZ sz (J (f x)))):=⟨λh1 h2=>ABR h1 λx hx=>h2 x hx (AP hx)⟩
instance{α:Type}{f:α->List Au}{l':List α}{sz j:Nat}{rd:List u}:Sq (Oa C K a c b n al o q l i g e h k m Q rd (YZ sz (Option.map f l'[j]?))) α (j<U l') (λx=>l'[j]?=J x) (λx=>x∈l') (λx=>Oa C K a c b n al o q l i g e h k m Q rd (YZ sz (J (f x)))):=⟨λh1 h2=>ABQ h1 λx hx=>h2 x hx (AP hx)⟩
instance{s:ByteArray}{j:Nat}{f:UInt8->C3}:Sq (Jo C K a c b n al l i g e h k m Q (Option.map f s.data.toList[j]?)) UInt8 (j<U s.data.toList) (λx=>s.data.toList[j]?=J x) (λx=>x∈s.data.toList) (λx=>Jo C K a c b n al l i g e h k m Q (J (f x))):=⟨λh1 h2=>ABT h1 λx hx=>h2 x hx (AP hx)⟩
end Go.Abs
namespace Go.Proofs
open Abs Tryz
def T1:cfg.T 1=(.some ⟨.func,1,Z,Z,[(.d .nilf)],[],0,0,Z⟩):=zCM
def T3:cfg.T 3=(.some ⟨.int,1,Z,Z,[(.d (.int .i64 0))],[],0,0,Z⟩):=zCM
def T4:cfg.T 4=(.some ⟨.bool,1,Z,Z,[(.d (.bool Z))],[],0,0,Z⟩):=zCM
def T5:cfg.T 5=(.some ⟨.int,1,Z,Z,[(.d (.int .u8 0))],[],0,4,Z⟩):=zCM
def T9:cfg.T 9=(.some ⟨.str,1,Z,Z,[(.d (.str ⟨#[]⟩))],[],0,0,Z⟩):=zCM
def T22:cfg.T 22=(.some ⟨.slice,1,Z,Z,[.d8],[],9,0,Z⟩):=zCM
def T23:cfg.T 23=(.some ⟨.slice,1,Z,Z,[.d8],[],140,0,Z⟩):=zCM
def T24:cfg.T 24=(.some ⟨.slice,1,Z,Z,[.d8],[],147,0,Z⟩):=zCM
def T26:cfg.T 26=(.some ⟨.other,4,X,X,[.d8,.d8,.d8,(.d (.int .i64 0))],[(0,1,Z),(1,1,Z),(2,1,Z),(3,1,Z)],0,0,Z⟩):=zCM
def T27:cfg.T 27=(.some ⟨.slice,1,Z,Z,[.d8],[],66,0,Z⟩):=zCM
def T28:cfg.T 28=(.some ⟨.slice,1,Z,Z,[.d8],[],114,0,Z⟩):=zCM
def T29:cfg.T 29=(.some ⟨.slice,1,Z,Z,[.d8],[],69,0,Z⟩):=zCM
def T30:cfg.T 30=(.some ⟨.slice,1,Z,Z,[.d8],[],127,0,Z⟩):=zCM
def T32:cfg.T 32=(.some ⟨.other,4,X,X,[.d8,.d8,.d8,.d8],[(0,1,Z),(1,1,Z),(2,1,Z),(3,1,Z)],0,0,Z⟩):=zCM
def T33:cfg.T 33=(.some ⟨.int,1,Z,Z,[(.d (.int .i64 0))],[],0,0,Z⟩):=zCM
def T36:cfg.T 36=(.some ⟨.slice,1,Z,Z,[.d8],[],3,0,X⟩):=zCM
def T38:cfg.T 38=(.some ⟨.other,4,X,X,[(.d (.int .i64 0)),(.d (.int .i64 0)),(.d (.int .i64 0)),.d8],[(0,1,Z),(1,1,Z),(2,1,Z),(3,1,Z)],0,0,Z⟩):=zCM
def T44:cfg.T 44=(.some ⟨.slice,1,Z,Z,[.d8],[],78,0,Z⟩):=zCM
def T63:cfg.T 63=(.some ⟨.slice,1,Z,Z,[.d8],[],38,0,Z⟩):=zCM
def T66:cfg.T 66=(.some ⟨(.flat [.int,.bool]),2,X,X,[(.d (.int .i64 0)),(.d (.bool Z))],[(0,1,Z),(1,1,Z)],0,0,Z⟩):=zCM
def T67:cfg.T 67=(.some ⟨.slice,1,Z,Z,[.d8],[],73,0,Z⟩):=zCM
def T69:cfg.T 69=(.some ⟨.other,4,X,X,[(.d (.int .i64 0)),(.d (.int .i64 0)),(.d (.int .i64 0)),.d8],[(0,1,Z),(1,1,Z),(2,1,Z),(3,1,Z)],0,0,X⟩):=zCM
def T71:cfg.T 71=(.some ⟨.slice,1,Z,Z,[.d8],[],88,0,Z⟩):=zCM
def T73:cfg.T 73=(.some ⟨.other,1,X,X,[.d8],[(0,1,Z)],0,0,Z⟩):=zCM
def T78:cfg.T 78=(.some ⟨.other,5,X,X,[(.d (.int .i64 0)),(.d (.int .i64 0)),(.d (.int .i64 0)),(.d (.int .i64 0)),.d8],[(0,1,Z),(1,1,Z),(2,1,Z),(3,1,Z),(4,1,Z)],0,0,Z⟩):=zCM
def T82:cfg.T 82=(.some ⟨.int,1,Z,Z,[(.d (.int .i64 0))],[],0,0,Z⟩):=zCM
def T83:cfg.T 83=(.some ⟨.slice,1,Z,Z,[.d8],[],85,0,Z⟩):=zCM
def T85:cfg.T 85=(.some ⟨.other,3,X,X,[(.d (.int .i64 0)),(.d (.int .i64 0)),.d8],[(0,1,Z),(1,1,Z),(2,1,Z)],0,0,Z⟩):=zCM
def T86:cfg.T 86=(.some ⟨.int,1,Z,Z,[(.d (.int .i64 0))],[],0,0,Z⟩):=zCM
def T88:cfg.T 88=(.some ⟨(.flat [.int,.int]),2,X,X,[(.d (.int .i64 0)),(.d (.int .i64 0))],[(0,1,Z),(1,1,Z)],0,0,Z⟩):=zCM
def T92:cfg.T 92=(.some ⟨.slice,1,Z,Z,[.d8],[],112,0,Z⟩):=zCM
def T93:cfg.T 93=(.some ⟨.slice,1,Z,Z,[.d8],[],105,0,Z⟩):=zCM
def T96:cfg.T 96=(.some ⟨.slice,1,Z,Z,[.d8],[],92,0,Z⟩):=zCM
def APX:cfg.T 100=(.some ⟨.slice,1,Z,Z,[.d8],[],36,0,Z⟩):=zCM
def APY:cfg.T 102=(.some ⟨.other,6,X,X,[.d8,.d8,.d8,.d8,.d8,.d8],[(0,4,X),(4,1,Z),(5,1,Z)],0,0,Z⟩):=zCM
def APZ:cfg.T 105=(.some ⟨.int,1,Z,Z,[(.d (.int .u16 0))],[],0,5,Z⟩):=zCM
def lv:cfg.T 108=(.some ⟨.int,1,Z,Z,[(.d (.int .i64 0))],[],0,0,Z⟩):=zCM
def APa:cfg.T 109=(.some ⟨.slice,1,Z,Z,[.d8],[],108,0,Z⟩):=zCM
def APb:cfg.T 110=(.some ⟨.slice,1,Z,Z,[.d8],[],109,0,Z⟩):=zCM
def APc:cfg.T 112=(.some ⟨.other,3,X,X,[.d8,.d8,.d8],[(0,1,Z),(1,1,Z),(2,1,Z)],0,0,X⟩):=zCM
def APd:cfg.T 114=(.some ⟨.other,3,X,X,[(.d (.int .i64 0)),(.d (.int .i64 0)),.d8],[(0,1,Z),(1,1,Z),(2,1,Z)],0,0,Z⟩):=zCM
def APe:cfg.T 127=(.some ⟨.other,3,X,X,[(.d (.int .i64 0)),(.d (.int .i64 0)),.d8],[(0,1,Z),(1,1,Z),(2,1,Z)],0,0,Z⟩):=zCM
def APf:cfg.T 138=(.some ⟨.int,1,Z,Z,[(.d (.int .i64 0))],[],0,0,Z⟩):=zCM
def APg:cfg.T 140=(.some ⟨.other,4,X,X,[(.d (.int .i64 0)),(.d (.int .i64 0)),.d8,.d8],[(0,1,Z),(1,1,Z),(2,1,Z),(3,1,Z)],0,0,Z⟩):=zCM
def APh:cfg.T 143=(.some ⟨.slice,1,Z,Z,[.d8],[],187,0,Z⟩):=zCM
def APi:cfg.T 144=(.some ⟨.slice,1,Z,Z,[.d8],[],189,0,Z⟩):=zCM
def APj:cfg.T 145=(.some ⟨.slice,1,Z,Z,[.d8],[],151,0,Z⟩):=zCM
def APk:cfg.T 147=(.some ⟨.other,3,X,X,[.d8,.d8,.d8],[(0,1,Z),(1,1,Z),(2,1,Z)],0,0,Z⟩):=zCM
def APl:cfg.T 151=(.some ⟨.other,3,X,X,[(.d (.int .i64 0)),.d8,(.d (.int .i64 0))],[(0,1,Z),(1,1,Z),(2,1,Z)],0,0,Z⟩):=zCM
def APm:cfg.T 162=(.some ⟨.other,8,X,X,[.d8,.d8,.d8,(.d (.int .i64 0)),.d8,.d8,.d8,(.d (.bool Z))],[(0,4,X),(4,1,Z),(5,1,Z),(6,1,Z),(7,1,Z)],0,0,Z⟩):=zCM
def APn:cfg.T 171=(.some ⟨.other,11,X,X,[.d8,.d8,.d8,(.d (.int .i64 0)),.d8,.d8,.d8,.d8,.d8,(.d (.int .i64 0)),(.d (.bool Z))],[(0,4,X),(4,4,X),(8,1,Z),(9,1,Z),(10,1,Z)],0,0,Z⟩):=zCM
def APo:cfg.T 173=(.some ⟨.map,1,Z,Z,[(.d .nilm)],[],3,3,Z⟩):=zCM
def APq:cfg.T 187=(.some ⟨(.flat [.int,.int]),2,X,X,[(.d (.int .i64 0)),(.d (.int .i64 0))],[(0,1,Z),(1,1,Z)],0,0,Z⟩):=zCM
def APr:cfg.T 189=(.some ⟨(.flat [.int,.int]),2,X,X,[(.d (.int .i64 0)),(.d (.int .i64 0))],[(0,1,Z),(1,1,Z)],0,0,Z⟩):=zCM
def APs:cfg.T 212=(.some ⟨.ptr,1,Z,Z,[(.d .nilp)],[],0,0,Z⟩):=zCM
def APt:cfg.T 217=(.some ⟨.func,1,Z,Z,[(.d .nilf)],[],0,0,Z⟩):=zCM
def APu:cfg.T 219=(.some ⟨.slice,1,Z,Z,[.d8],[],258,0,Z⟩):=zCM
def APv:cfg.T 221=(.some ⟨.other,7,X,X,[.d8,.d8,.d8,(.d (.int .i64 0)),.d8,.d8,.d8],[(0,4,X),(4,1,Z),(5,1,Z),(6,1,Z)],0,0,Z⟩):=zCM
def APw:cfg.T 224=(.some ⟨.int,1,Z,Z,[(.d (.int .i64 0))],[],0,0,Z⟩):=zCM
def APx:cfg.T 246=(.some ⟨.slice,1,Z,Z,[.d8],[],4,0,Z⟩):=zCM
def APy:cfg.T 248=(.some ⟨.other,7,X,X,[.d8,.d8,.d8,(.d (.int .i64 0)),.d8,.d8,.d8],[(0,4,X),(4,1,Z),(5,1,Z),(6,1,Z)],0,0,Z⟩):=zCM
def APz:cfg.T 249=(.some ⟨.func,1,Z,Z,[(.d .nilf)],[],0,0,Z⟩):=zCM
def AP0:cfg.T 258=(.some ⟨.map,1,Z,Z,[(.d .nilm)],[],276,3,X⟩):=zCM
def AP1:cfg.T 276=(.some ⟨(.flat [.int,.int]),2,X,X,[(.d (.int .i64 0)),(.d (.int .i64 0))],[(0,1,Z),(1,1,Z)],0,0,Z⟩):=zCM
def AP2:cfg.T 277=(.some ⟨.int,1,Z,Z,[(.d (.int .u64 0))],[],0,7,Z⟩):=zCM
def AP3:cfg.T 280=(.some ⟨.slice,1,Z,Z,[.d8],[],283,0,Z⟩):=zCM
def AP4:cfg.T 283=(.some ⟨.slice,1,Z,Z,[.d8],[],224,0,X⟩):=zCM
def AP5:cfg.T 287=(.some ⟨.func,1,Z,Z,[(.d .nilf)],[],0,0,Z⟩):=zCM
def AP6:cfg.T 289=(.some ⟨(.flat [.int]),1,X,X,[(.d (.int .i64 0))],[(0,1,Z)],0,0,Z⟩):=zCM
def AP7:cfg.T 295=(.some ⟨.int,1,Z,Z,[(.d (.int .u64 0))],[],0,7,Z⟩):=zCM
def mu:cfg.T 300=(.some ⟨.map,1,Z,Z,[(.d .nilm)],[],4,9,Z⟩):=zCM
def AP8:cfg.T 303=(.some ⟨.iface,1,Z,Z,[(.d .wt)],[],0,0,Z⟩):=zCM
def AP9:cfg.T 307=(.some ⟨(.flat []),0,X,X,[],[],0,0,Z⟩):=zCM
def AQA:cfg.T 308=(.some ⟨(.flat []),0,X,X,[],[],0,0,Z⟩):=zCM
def AQB:cfg.T 309=(.some ⟨(.flat []),0,X,X,[],[],0,0,Z⟩):=zCM
def AQC:cfg.T 310=(.some ⟨(.flat []),0,X,X,[],[],0,0,Z⟩):=zCM
def AQD:cfg.T 311=(.some ⟨.func,1,Z,Z,[(.d .nilf)],[],0,0,Z⟩):=zCM
def AQE:cfg.T 314=(.some ⟨.int,1,Z,Z,[(.d (.int .i64 0))],[],0,0,Z⟩):=zCM
def tt:cfg.T 315=(.some ⟨.map,1,Z,Z,[(.d .nilm)],[],4,3,Z⟩):=zCM
def AKg:cfg.ge 13 15=[]/\
 cfg.ge 13 16=[(5,11),(11,13)]/\
 cfg.mode 20=.auto/\
 cfg.mode 34=.auto/\
 cfg.ge 34 5=[]/\
 cfg.ge 34 11=[]/\
 cfg.mode 38=.auto/\
 cfg.live 38 0=[1,2,3]/\
 cfg.mode 43=.auto/\
 cfg.mode 44=.auto/\
 cfg.mode 45=.auto/\
 cfg.mode 46=.auto/\
 cfg.live 46 0=[1,2,5,6,7]/\
 cfg.mode 47=.raw/\
 cfg.ge 47 1=[]/\
 cfg.ge 47 4=[(4,8)]/\
 cfg.ge 47 6=[]/\
 cfg.ge 47 9=[(4,13),(4,14)]/\
 cfg.live 47 0=[0,3,18,19,20]/\
 cfg.live 47 2=[0,3,47,48,49]/\
 cfg.mode 48=.raw/\
 cfg.ge 48 1=[(0,11),(4,11),(5,11),(6,11)]/\
 cfg.ge 48 6=[(4,9),(6,9),(7,9),(8,9)]/\
 cfg.ge 48 7=[]/\
 cfg.ge 48 12=[]/\
 cfg.ge 48 16=[]/\
 cfg.ge 48 17=[]/\
 cfg.live 48 0=[0,4,5,7,10,11,52,53,54]/\
 cfg.live 48 2=[0,4,7,10,85,86]/\
 cfg.mode 49=.ro/\
 cfg.ge 49 4=[(4,16),(9,16),(11,16),(13,16),(14,16),(15,16)]/\
 cfg.ge 49 5=[]/\
 cfg.live 49 0=[0,2,17,18,19]/\
 cfg.live 49 2=[0,2,64,65,66]/\
 cfg.live 49 4=[0,2,10,64,65,66,71,72,73]/\
 cfg.mode 56=.auto/\
 cfg.ge 56 1=[(0,2)]/\
 cfg.mode 71=.auto/\
 cfg.mode 72=.auto/\
 cfg.ge 72 4=[(1,6)]:=by(repeat' apply And.intro)<;>kernel_rfl
def AKh:cfg.ge 72 11=[]/\
 cfg.live 72 0=[5,9,11,12,13,14]/\
 cfg.mode 73=.raw/\
 cfg.live 73 0=[0,1,2,3,4,11]/\
 cfg.mode 76=.auto/\
 cfg.mode 77=.auto/\
 cfg.mode 78=.auto/\
 cfg.ge 78 6=[(5,8),(6,8),(5,9),(6,9),(5,10),(6,10)]/\
 cfg.mode 79=.auto/\
 cfg.mode 80=.auto/\
 cfg.mode 81=.auto/\
 cfg.mode 82=.auto/\
 cfg.mode 83=.own/\
 cfg.ge 83 8=[]/\
 cfg.ge 83 13=[(6,8),(6,9),(4,10),(5,10),(6,10),(6,12),(10,12),(6,13),(10,13),(4,14),(5,14),(6,14),(8,14),(9,14),(10,14),(8,17),(9,17),(10,17),(12,17),(13,17),(14,17),(12,20),(13,20),(14,20)]/\
 cfg.live 83 0=[1,3,4]/\
 cfg.live 83 2=[1,3,5]/\
 cfg.live 83 4=[3,6]/\
 cfg.live 83 6=[3,7]/\
 cfg.mode 84=.auto/\
 cfg.mode 85=.auto/\
 cfg.mode 86=.auto/\
 cfg.ge 86 14=[(7,14),(9,14),(10,14)]/\
 cfg.mode 87=.auto/\
 cfg.ge 87 19=[(5,9),(5,11)]/\
 cfg.mode 88=.auto/\
 cfg.ge 88 3=[(7,8)]/\
 cfg.mode 89=.auto/\
 cfg.mode 90=.auto/\
 cfg.mode 104=.own/\
 cfg.ge 104 5=[(1,20),(3,20),(5,20),(7,20),(9,20),(11,20),(13,20),(1,22)]/\
 cfg.ge 104 9=[(1,19),(3,19),(5,19),(7,19),(9,19),(11,19),(13,19),(15,19),(17,19)]/\
 cfg.ge 104 13=[(1,12),(1,14)]/\
 cfg.ge 104 18=[(1,20),(3,20),(5,20),(7,20),(9,20),(11,20),(13,20),(1,22)]/\
 cfg.live 104 0=[1,2,3,4]/\
 cfg.live 104 2=[1,2,3,5]/\
 cfg.live 104 4=[1,2,3,5,6,7]/\
 cfg.live 104 6=[1,2,3,8]/\
 cfg.mode 105=.auto/\
 cfg.ge 105 1=[(1,6),(1,8),(1,14),(9,14),(1,17),(9,17)]:=by(repeat' apply And.intro)<;>kernel_rfl
def AKi:cfg.ge 105 2=[(4,9),(6,9),(7,9),(8,9)]/\
 cfg.ge 105 6=[(4,9)]/\
 cfg.ge 105 7=[]/\
 cfg.ge 105 8=[]/\
 cfg.ge 105 10=[(4,8)]/\
 cfg.ge 105 13=[(4,15)]/\
 cfg.ge 105 14=[]/\
 cfg.mode 106=.auto/\
 cfg.ge 106 1=[(4,9),(6,9),(7,9),(8,9)]/\
 cfg.ge 106 2=[(4,9),(6,9),(7,9),(8,9)]/\
 cfg.ge 106 9=[]/\
 cfg.ge 106 12=[(4,6),(6,9),(6,11),(6,12),(6,13),(4,14),(6,17),(14,17),(6,19),(14,19),(6,20),(14,20),(6,22),(14,22),(4,23)]/\
 cfg.ge 106 13=[]/\
 cfg.ge 106 14=[(4,11),(7,11),(9,11),(4,13)]/\
 cfg.ge 106 15=[(2,6),(2,8)]/\
 cfg.live 106 0=[0,3,4,6,7,8,9]/\
 cfg.mode 109=.auto/\
 cfg.mode 118=.auto/\
 cfg.mode 121=.auto/\
 cfg.live 121 0=[1,2,5,6]/\
 cfg.mode 122=.auto/\
 cfg.live 122 0=[1,3,4]/\
 cfg.mode 123=.auto/\
 cfg.mode 124=.auto/\
 cfg.mode 125=.auto/\
 cfg.live 125 0=[0,1,7,8]/\
 cfg.mode 126=.auto/\
 cfg.live 126 0=[0,1,7,8]/\
 cfg.mode 127=.auto/\
 cfg.live 127 0=[0,3]/\
 cfg.mode 128=.auto/\
 cfg.ge 128 6=[]/\
 cfg.ge 128 24=[]/\
 cfg.live 128 0=[1,3]/\
 cfg.live 128 2=[1,4]/\
 cfg.live 128 4=[1,5,6]/\
 cfg.live 128 6=[1,5,6,7,8]/\
 cfg.live 128 8=[1,5,6,7,8,9,10]/\
 cfg.live 128 10=[5,11]/\
 cfg.mode 129=.auto:=by(repeat' apply And.intro)<;>kernel_rfl
def xC:cfg.mode 135=.auto:=zCM
def xD:cfg.mode 141=.auto:=zCM
def AKj:cfg.ge 129 20=[]/\
 cfg.ge 129 22=[]/\
 cfg.ge 129 23=[]/\
 cfg.ge 129 24=[]/\
 cfg.live 129 0=[0,2,6,10]/\
 cfg.live 129 3=[0,6,11,12]/\
 cfg.mode 130=.auto/\
 cfg.mode 131=.own/\
 cfg.ge 131 1=[(0,4),(4,6),(4,7),(0,8),(2,8),(3,8),(4,8)]/\
 cfg.mode 132=.raw/\
 cfg.ge 132 5=[(0,2),(0,3),(0,5),(2,5),(3,5),(4,5),(0,7),(4,7),(5,7),(0,8),(4,8),(5,8),(0,11),(2,11),(3,11),(4,11),(5,11),(7,11),(8,11),(9,11)]/\
 cfg.ge 132 9=[(1,2),(2,4),(1,5),(1,6)]/\
 cfg.live 132 0=[3,13,14,15]/\
 cfg.live 132 2=[3,6,13,14,15,31,32,33]/\
 cfg.mode 133=.raw/\
 cfg.live 133 0=[0,1,5,12,13]/\
 cfg.mode 134=.auto/\
 cfg.ge 134 5=[]/\
 cfg.ge 134 10=[]/\
 cfg.live 134 0=[0,1,7,12,13]/\
 cfg.live 134 2=[0,1,7,8,12,13,49,50]/\
 cfg.mode 136=.ro/\
 cfg.ge 136 2=[(0,7),(2,7),(3,7),(4,7),(5,7),(6,7)]/\
 cfg.ge 136 5=[(0,4)]/\
 cfg.mode 137=.ro/\
 cfg.ge 137 1=[]/\
 cfg.mode 138=.auto/\
 cfg.live 138 0=[1,2,15,16,17]/\
 cfg.mode 139=.auto/\
 cfg.mode 140=.ro/\
 cfg.live 140 0=[1,23,24,25]/\
 cfg.live 140 2=[1,6,23,24,25,60,61,62]/\
 cfg.mode 142=.auto/\
 cfg.mode 143=.auto/\
 cfg.ge 143 8=[(4,10)]/\
 cfg.ge 143 10=[(4,9),(6,9),(7,9),(8,9)]/\
 cfg.ge 143 11=[(4,9),(6,9),(7,9),(8,9)]/\
 cfg.ge 143 12=[]/\
 cfg.ge 143 13=[(4,11),(6,11),(8,11),(4,12),(6,12)]/\
 cfg.live 143 0=[0,2,3,5,8,9]:=by(repeat' apply And.intro)<;>kernel_rfl
def AKk:cfg.mode 144=.auto/\
 cfg.ge 144 1=[(4,9),(6,9),(7,9),(8,9)]/\
 cfg.ge 144 2=[(1,4),(1,6),(4,6)]/\
 cfg.ge 144 6=[(1,11)]/\
 cfg.ge 144 10=[(1,11)]/\
 cfg.ge 144 14=[(5,24),(10,24),(11,24),(5,26)]/\
 cfg.ge 144 18=[(5,17),(5,19)]/\
 cfg.ge 144 19=[(5,7)]/\
 cfg.ge 144 24=[(2,14),(4,14),(6,14),(14,16)]/\
 cfg.ge 144 25=[]/\
 cfg.live 144 0=[0,2,5,8,9,10]/\
 cfg.live 144 2=[0,2,5,8,9,11]/\
 cfg.live 144 4=[0,2,5,8,9,12]/\
 cfg.live 144 6=[0,2,5,8,9,13]/\
 cfg.live 144 8=[0,2,5,8,9,14]/\
 cfg.mode 145=.own/\
 cfg.mode 164=.auto/\
 cfg.ge 164 9=[]/\
 cfg.ge 164 15=[]/\
 cfg.live 164 0=[0,1,4]/\
 cfg.live 164 2=[0,5,6]/\
 cfg.live 164 4=[0,7]/\
 cfg.mode 165=.auto/\
 cfg.mode 166=.auto/\
 cfg.mode 167=.auto/\
 cfg.live 167 0=[0,1,5]/\
 cfg.mode 168=.auto/\
 cfg.mode 169=.auto/\
 cfg.mode 170=.auto/\
 cfg.ge 170 4=[(2,14),(4,14),(6,14)]/\
 cfg.live 170 0=[0,2,4,6]/\
 cfg.live 170 2=[0,2,4,7]/\
 cfg.mode 171=.auto/\
 cfg.mode 172=.auto/\
 cfg.mode 173=.raw/\
 cfg.ge 173 1=[]/\
 cfg.ge 173 4=[]/\
 cfg.ge 173 10=[]/\
 cfg.ge 173 13=[]/\
 cfg.live 173 2=[1,3,5,6,7,11,59,60,82,83,84,85]:=by(repeat' apply And.intro)<;>kernel_rfl
def xE:cfg.mode 179=.auto:=zCM
def AKl:cfg.mode 174=.auto/\
 cfg.ge 174 9=[]/\
 cfg.live 174 0=[7,8]/\
 cfg.mode 175=.raw/\
 cfg.ge 175 7=[(1,14),(7,14),(9,14),(10,14),(1,15),(1,16),(1,17)]/\
 cfg.ge 175 19=[(1,3),(1,4)]/\
 cfg.ge 175 21=[(5,7),(5,8)]/\
 cfg.ge 175 28=[(2,17),(3,17),(7,17),(8,17),(10,17),(11,17),(2,18),(3,18)]/\
 cfg.live 175 0=[0,1,2,6,7,8,9,39,40,41]/\
 cfg.live 175 2=[0,1,2,6,7,8,9,74,75,76]/\
 cfg.live 175 4=[0,1,2,6,7,8,9,12,13,14,74,75,76,82,83,84]/\
 cfg.live 175 6=[0,1,2,6,7,8,9,13,17,74,75,76,128,129,130]/\
 cfg.live 175 8=[0,1,2,6,7,8,9,13,17,19,74,75,76,128,129,130,138,139]/\
 cfg.live 175 10=[6,8,167,168,169]/\
 cfg.live 175 12=[6,8,23,167,168,169,173,174,175]/\
 cfg.mode 176=.auto/\
 cfg.ge 176 4=[]/\
 cfg.live 176 0=[0,1,2,3,10,11]/\
 cfg.mode 177=.ro/\
 cfg.ge 177 8=[(6,9),(6,10),(6,11)]/\
 cfg.ge 177 10=[(6,9),(6,10),(6,11)]/\
 cfg.mode 178=.raw/\
 cfg.mode 186=.auto/\
 cfg.mode 187=.auto/\
 cfg.live 187 0=[0,2,5,9,10]/\
 cfg.mode 188=.auto/\
 cfg.ge 188 5=[]/\
 cfg.live 188 0=[2,3,5,6]/\
 cfg.mode 190=.own/\
 cfg.ge 190 7=[(0,4),(4,6),(4,7),(0,8),(2,8),(3,8),(4,8),(4,10),(8,10),(4,11),(8,11),(0,12),(2,12),(3,12),(4,12),(6,12),(7,12),(8,12)]/\
 cfg.live 190 0=[1,24,25,26]/\
 cfg.mode 191=.raw/\
 cfg.mode 192=.auto/\
 cfg.mode 193=.ro/\
 cfg.ge 193 2=[(0,8),(1,8),(3,8),(4,8),(5,8),(6,8),(7,8)]/\
 cfg.ge 193 5=[(0,5)]/\
 cfg.ge 193 6=[]/\
 cfg.ge 193 9=[(0,10),(10,11),(10,12),(10,14),(10,15),(0,16),(0,17)]/\
 cfg.live 193 2=[4,5,7,9,10,51,52,53]/\
 cfg.mode 194=.auto:=by(repeat' apply And.intro)<;>kernel_rfl
def AKm:cfg.mode 195=.auto/\
 cfg.mode 196=.ro/\
 cfg.mode 197=.ro/\
 cfg.ge 197 1=[]/\
 cfg.ge 198 0=[]/\
 cfg.live 198 0=[0,14,15,16]/\
 cfg.mode 199=.auto/\
 cfg.mode 200=.auto/\
 cfg.live 200 0=[0,5,6]/\
 cfg.mode 201=.auto/\
 cfg.ge 201 1=[]/\
 cfg.ge 201 4=[(4,7),(5,7)]/\
 cfg.ge 201 14=[]/\
 cfg.ge 201 25=[]/\
 cfg.ge 201 26=[(4,9),(6,9),(7,9),(8,9)]/\
 cfg.ge 201 32=[(2,6)]/\
 cfg.live 201 1=[0,2,6,154,155,156]/\
 cfg.live 201 3=[0,2,6,11,190,191,192]/\
 cfg.live 201 5=[0,2,6,207,208,209]/\
 cfg.live 201 7=[0,2,220,221,222]/\
 cfg.alone 201 4 10=X/\
 cfg.alone 201 14 25=X/\
 cfg.alone 201 32 8=X/\
 cfg.mode 202=.auto/\
 cfg.ge 203 1=[(0,8),(4,8),(5,8),(6,8),(7,8)]/\
 cfg.ge 203 11=[]/\
 cfg.live 203 0=[1,3,4,7,19,20,21,37,38,39,40,41]/\
 cfg.live 203 4=[3,51,52,53]/\
 cfg.mode 205=.auto/\
 cfg.mode 206=.auto/\
 cfg.mode 207=.auto/\
 cfg.mode 208=.ro/\
 cfg.ge 208 2=[(3,13),(5,13),(6,13),(8,13),(9,13)]/\
 cfg.ge 208 14=[]/\
 cfg.live 208 0=[1,3,10,11,12,49,50,51]/\
 cfg.mode 209=.ro/\
 cfg.ge 209 2=[(7,11),(7,12)]/\
 cfg.mode 210=.own/\
 cfg.mode 211=.auto/\
 cfg.mode 212=.auto:=by(repeat' apply And.intro)<;>kernel_rfl
def aX:cfg.caught 189=J 289:=Eq.trans (b:=cfg.caught 189) rfl zCM
def AKn:cfg.mode 213=.auto/\
 cfg.ge 213 23=[]/\
 cfg.live 213 0=[1,2,31,32,33]/\
 cfg.live 213 2=[1,2,52,53,54]/\
 cfg.live 213 4=[1,2,7,72,73,74]/\
 cfg.live 213 6=[1,2,7,9,72,73,74,94,95,96]/\
 cfg.alone 213 23 29=X/\
 cfg.mode 214=.auto/\
 cfg.mode 215=.auto/\
 cfg.live 215 0=[2,5,9,10,11]/\
 cfg.mode 216=.auto/\
 cfg.live 216 0=[0,1,7,8]/\
 cfg.mode 217=.auto/\
 cfg.live 217 1=[1,4,73,74,75]/\
 cfg.mode 218=.auto/\
 cfg.mode 219=.auto/\
 cfg.mode 220=.auto/\
 cfg.live 220 0=[0,1,7,8]/\
 cfg.mode 236=.auto/\
 cfg.mode 237=.auto/\
 cfg.mode 238=.auto/\
 cfg.mode 239=.auto/\
 cfg.mode 240=.auto:=by(repeat' apply And.intro)<;>kernel_rfl
attribute [go_sem] T1 T3 T4 T5 T9 T22 T23 T24 T26 T27 T28 T29 T30 T32 T33 T36 T38 T44 T63 T66 T67 T69 T71 T73 T78 T82 T83 T85 T86 T88 T92 T93 T96 APX APY APZ lv APa APb APc APd APe APf APg APh APi APj APk APl APm APn APo APq APr APs APt APu APv APw APx APy APz AP0 AP1 AP2 AP3 AP4 AP5 AP6 AP7 mu AP8 AP9 AQA AQB AQC AQD AQE tt xC xD xE aX AKg AKh AKi AKj AKk AKl AKm AKn
def ADq(a b:Nat):cfg.spec a b=if a=173 then(if b=6 then J ⟨UY,Jx⟩else I)else if a=175 then(if b=44 then J ⟨bO,Mq⟩else I)else none:=by
 show(if a=173/\b=6 then _ else if a=175/\b=44 then _ else _)=_;by_cases c:a=173
 .subst c;by_cases f:b=6<;>simp[f]
 .by_cases e:a=175
  .subst e;by_cases g:b=44<;>simp[g]
  .simp[c,e]
attribute [go_sem] ADq
inductive Bz where
 |mk (op n:Int) (kids:List Bz)
def Bz.op:Bz->Int|.mk o _ _=>o
def Bz.n:Bz->Int|.mk _ n _=>n
def Bz.kids:Bz->List Bz|.mk _ _ k=>k
structure C4:=
 kind:Int
 n:Int
 deriving DecidableEq
structure CF:=
 op:Int
 n:Int
 args:List Bz
 kids:Al
structure HJ:=
 at_:Int
 many:Int
structure Dy:=
 in_:Int
 node:Int
structure C6:=
 at_:Int
 d7:Al
 node:Int
structure Bc:=
 ac:List HJ
 be:List Dy
 rules:List C6
structure Aa:=
 free:List ByteArray
 nodes:List CF
 defs:List Bc
 main:Int
structure CD:=
 in_:Int
 dead:Bool
 deriving DecidableEq
structure Az:=
 ip:Int
 at_:Int
 env:List C4
structure Fc:=
 group:Int
 index:Int
 at_:Int
 queue:List (List C4)
structure IK:=
 at_:Int
 node:Int
 env:List C4
structure BP:=
 be:List CD
 bv:List Az
 ac:List Fc
 waits:List IK
structure Dk:=
 wait:Int
 group:Int
 pp:Int
 picks:Al
structure IX:=
 deed:Int
 at_:Int
 n:Int
 m:Int
 v6:List C4
mutual
def Bh:Bz->List Au
 |.mk op b a=>[.int .i64 op,.int .i64 b,.co (WZ a)]
def WZ:List Bz->List (List Au)
 |[]=>[]|x::l=>Bh x::WZ l
end
def Xq:∀l,WZ l=l.map Bh
 |[]=>rfl|x::l=>by simp[WZ,Xq l]
def a8(x:Bz):Bh x=[.int .i64 x.op,.int .i64 x.n,.co (x.kids.map Bh)]:=by cases x;simp[Bh,Xq,Bz.op,Bz.n,Bz.kids]
def Bz.ind{p:Bz->Prop}(h:∀op n kids,(∀k∈kids,p k)->p (.mk op n kids)):∀x,p x:=by
 intro x;refine Bz.rec (motive_1:=p) (motive_2:=λb=>∀k∈b,p k) (λop n kids f=>h op n kids f) AG (λg b c e k a=>?_) x;rcases Cs.1 a with rfl|a
 .exact c
 .exact e k a
theorem Bz.op_mk(o n:Int)(k:List Bz):(Bz.mk o n k).op=o:=rfl
theorem Bz.n_mk(o n:Int)(k:List Bz):(Bz.mk o n k).n=n:=rfl
theorem Bz.kids_mk(o n:Int)(k:List Bz):(Bz.mk o n k).kids=k:=rfl
def AX(n:Int):List Au:=[.int .i64 n]
def CB(s:ByteArray):List Au:=[.str s]
def A9(v:C4):List Au:=[.int .i64 v.kind,.int .i64 v.n]
def Bg(x:CF):List Au:=[.int .i64 x.op,.int .i64 x.n,.co (x.args.map Bh),.co (x.kids.map AX)]
def BR(c:HJ):List Au:=[.int .i64 c.at_,.int .i64 c.many]
def BD(s:Dy):List Au:=[.int .i64 s.in_,.int .i64 s.node]
def BN(r:C6):List Au:=[.int .i64 r.at_,.co (r.d7.map AX),.int .i64 r.node]
def Br(d:Bc):List Au:=[.co (d.ac.map BR),.co (d.be.map BD),.co (d.rules.map BN)]
def CZ(s:CD):List Au:=[.int .i64 s.in_,.bool s.dead]
def CY(g:Az):List Au:=[.int .i64 g.ip,.int .i64 g.at_,.co (g.env.map A9)]
def Ct(m:List C4):List Au:=[.co (m.map A9)]
def Fg(c:Fc):List Au:=[.int .i64 c.group,.int .i64 c.index,.int .i64 c.at_,.co (c.queue.map Ct)]
def Bf(w:IK):List Au:=[.int .i64 w.at_,.int .i64 w.node,.co (w.env.map A9)]
def ND(x:IX):List Au:=[.int .i64 x.deed,.int .i64 x.at_,.int .i64 x.n,.int .i64 x.m,.co (x.v6.map A9)]
def G6(x:Dk):List Au:=[.int .i64 x.wait,.int .i64 x.group,.int .i64 x.pp,.co (x.picks.map AX)]
def Sv(p:Aa):List Au:=[.co (p.free.map CB),.co (p.nodes.map Bg),.co (p.defs.map Br),.int .i64 p.main]
def Xr(s:BP):List Au:=[.co (s.be.map CZ),.co (s.bv.map CY),.co (s.ac.map Fg),.co (s.waits.map Bf)]
attribute [go_sem] a8 AX CB A9 Bg BR BD BN Br CZ CY Ct Fg Bf ND G6 Bz.op_mk Bz.n_mk Bz.kids_mk
def slice_int{b:Al}{c:G}{g:IntKind}{a:Int}(e:0<=a)(f:a<=(U b)):GR c .slice 1 (.d (.co (b.map AX))) I (J (.d (.int g a))) I=J (.d (.co ((b.take a.toNat).map AX))):=uw (λ_=>rfl) e f
def i64(n:Int):Prop:= -9223372036854775808<=n/\n<9223372036854775808
def w_{a:Int}(g: -9223372036854775808<=a)(h:a<9223372036854775808):TC.wrap a=a:=by have e:TC.bits=64:=rfl;have f:TC.signed=true:=rfl;simp only[IntKind.wrap,e,f,I4,Dl];have b:(2 ^ 64:Int)=18446744073709551616:=Ad;have c:(2 ^ (64-1):Int)=9223372036854775808:=Ad;rw[b,c];split<;>omega
noncomputable abbrev kT:=KL prog cfg
abbrev pC(p:Aa):List y:=[.d (.co (p.free.map CB)),.d (.co (p.nodes.map Bg)),.d (.co (p.defs.map Br)),.d (.int .i64 p.main)]
abbrev sC(s:BP):List y:=[.d (.co (s.be.map CZ)),.d (.co (s.bv.map CY)),.d (.co (s.ac.map Fg)),.d (.co (s.waits.map Bf))]
def Ae:=And.intro @w_ (And.intro @Uq (And.intro @TG @slice_int))
end Go.Proofs
namespace Go.Proofs
open Abs Tryz
def CX(l:List CD)(i:Int):Int:=((l[i.toNat]?).map CD.in_).getD 0
def Jd(l:List CD)(i:Int):Prop:=0<=i/\i<U l
instance(l:List CD)(i:Int):Decidable (Jd l i):=by unfold Jd;infer_instance
def Cc(l:List CD):Nat->Int->Bool
 |0,at_=>decide (at_=0)|k+1,at_=>decide (at_=0)||(decide (Jd l (CX l at_))&&Cc l k (CX l at_))
theorem N1(l:List CD)(k:Nat):Cc l k 0=true:=by cases k<;>simp[Cc]
theorem rI(l:List CD):∀(k:Nat) (i:Int),Cc l k i=X->Cc l (k+1) i=X
 :=by intro x;induction x<;>grind [Cc]
variable{l:List CD}{k:Nat}
theorem Pa{a:Int}{b:Nat}(c:k<=b)(e:Cc l k a=X):Cc l b a=true:=by induction c with|refl=>exact e|step _ f=>exact rI l _ a f
theorem w7:∀(a:Nat) (l:u),l.Nodup->(∀c∈l,c<a)->(U l)<=a
 |0,l,_,b=>by
  rcases l with _|⟨e,l⟩
  .simp
  .exact absurd (b e AG) z
 |a+1,l,hn,b=>by
  have f:=w7 a (l.erase a) (hn.erase a) (λc g=>by grind)
  grind
theorem Xb(l:List CD)(j:0<U l):∀(k:Nat) (b:Int),Jd l b->Cc l k b=X->(∀c,c<k->Cc l c b=Z)->∃f:u,U f=k+1/\f.Nodup/\(∀e∈f,e<U l)/\∀e∈f,∃c,c<=k/\Cc l c e=X/\∀n,n<c->Cc l n e=Z
 |0,b,g,i,m=>⟨[0],rfl,AG,by simp[j],by intro e a;cases AS.1 a;grind [N1]⟩|k+1,b,g,i,m=>by
  have o:¬b=0:=λr=>by have:=m 0 z;grind [N1]
  have h:=i;rw[Cc]at h;simp[o]at h;have⟨f,hp1,hp2,hp3,hp4⟩:=Xb l j k (CX l b) h.1 h.2 (λc s=>by grind [Cc])
  refine⟨b.toNat::f,by simp[hp1],?_,?_,?_⟩
  .refine Ii.2 ⟨λq=>?_,hp2⟩;have⟨c,hj1,hj2,_⟩:=hp4 _ q;have p:=IF g.1;grind
  .intro e a;rcases Cs.1 a with rfl|a
   .have:=g.1;have:=g.2;omega
   .exact hp3 e a
  .intro e a;rcases Cs.1 a with rfl|a
   .have p:=IF g.1;grind
   grind
theorem yw{i:Int}:∀{k:Nat},Cc l k i=X->∃m,m<=k/\Cc l m i=X/\∀j,j<m->Cc l j i=Z
 :=by intro x;induction x<;>grind [Pa]
def VZ{a:Int}(b:Jd l a)(c:Cc l k a=X):Cc l (U l-1) a=true:=by
 have e:0<U l:=by have:=b.1;have:=b.2;omega
 have⟨m,_,h2,h3⟩:=yw c;have⟨p,hp1,hp2,hp3,_⟩:=Xb l e m a b h2 h3;have:=w7 (U l) p hp2 hp3;exact Pa z h2
def Sk(l:List CD):Nat->Nat->Bool
 |_,0=>X|i,n+1=>Cc l (U l) i&&Sk l (i+1) n
def p6(l:List CD):Bool:=decide (0<U l)&&(decide (CX l 0= -1)&&Sk l 0 (U l))
theorem Sl(l:List CD):∀(n i:Nat),Sk l i n=X↔ ∀j,i<=j->j<i+n->Cc l (U l) j=X
 :=by intro x;induction x<;>grind [Sk]
def ZY(l:List CD):Nat->Int->Al
 |0,b=>[b]|k+1,b=>if b=0 then [0]else b::ZY l k (CX l b)
theorem XL(l:List CD):∀(k a:Nat) (c:Int),Cc l k c=X->k<=a->ZY l a c=ZY l k c
 |0,a,c,b,f=>by simp[Cc]at b;subst b;cases a<;>simp[ZY]|k+1,a,c,b,f=>by
  obtain⟨a,rfl⟩:∃g,a=g+1:=⟨a-1,z⟩;rw[ZY,ZY];split
  .rfl
  .rename_i e;rw[Cc]at b;simp only[e,decide_false,Ol,As]at b;rw[XL l k a _ b.2 z]
def EN(l:List CD)(b a:Int):Bool:=decide (a∈ZY l (U l) b)
structure Ia(l:List CD):Prop:=
 pos:0<U l
 top:CX l 0= -1
 climbs:∀i,Jd l i->Cc l (U l) i=X
def AHP(a:p6 l=X):Ia l:=by
 simp[p6]at a;refine⟨a.1,a.2.1,λc b=>?_⟩;have:=(Sl l (U l) 0).1 a.2.2 c.toNat z (by have:=b.1;have:=b.2;omega)
 rwa [IF b.1]at this
def AHO(a:Ia l):p6 l=true:=by simp[p6];refine⟨a.pos,a.top,(Sl l (U l) 0).2 λb c e=>a.climbs b ⟨z,z⟩⟩
end Go.Proofs
namespace Go.Proofs
open Abs Tryz
def C4.inB(e:Aa)(b c:Nat)(a:C4):Bool:=
 if a.kind=1 then decide (-1000000000<=a.n)&&decide (a.n<=1000000000)else if a.kind=2 then decide (0<=a.n)&&decide (a.n<U e.free)
 else if a.kind=3 then decide (0<=a.n)&&decide (a.n<b)else if a.kind=4 then decide (0<=a.n)&&decide (a.n<c)else Z
variable{l:List CD}{k:Nat}{b:Int}
def AIE(a:¬b=0)(c:Cc l (k+1) b=X):ZY l (k+1) b=b::ZY l k (CX l b):=by rw[ZY,Co a]
theorem N0(a:¬b=0)(c:Cc l (k+1) b=X):Jd l (CX l b)/\Cc l k (CX l b)=true:=by grind [Cc]
end Go.Proofs
namespace Go.Proofs
open Abs Tryz
theorem AC9(l:List CD)(k:Nat)(c:Int):c∈ZY l k c:=by
 rcases k with _|k
 .simp[ZY]
 .grind [ZY]
def ADA(l:List CD)(k:Nat):ZY l k 0=[0]:=by cases k<;>simp[ZY]
end Go.Proofs
namespace Go.Proofs
open Abs Tryz
def Bz.formed(size:Int):Bz->Bool
 |.mk op c e=>
  if op=1 then decide (U e=0)&&(decide (-1000000000<=c)&&decide (c<=1000000000))
  else if op=2 then decide (U e=0)&&(decide (0<=c)&&decide (c<size))
  else if op<3 then Z
  else if 7<op then Z
  else if c=0 then match e with|[a,b]=>a.formed size&&b.formed size|_=>Z
  else Z
def p7{f:Type}{c:List f}(e:U c=2):∃a b,c=[a,b]:=by rcases c with _|⟨a,_|⟨b,_|⟨g,h⟩⟩⟩<;>simp at e;exact⟨a,b,rfl⟩
@[go_sem] theorem ANU(size:Int)(a:Bz):Bk kT 123 [.agg [nI a.op,nI a.n,.d (.co (a.kids.map Bh))],nI size] []=.ok (.ret (.d (.bool (a.formed size))),[]):=by
  induction a using Bz.ind with
  |h op o j b=>
  simp[Bz.op_mk,Bz.n_mk,Bz.kids_mk];refine BH func123 ?_;rcases j with _|⟨g,_|⟨i,_|⟨k,n⟩⟩⟩
  .exact zAM
  .exact zAM
  .have l:=b g AG;have m:=b i AG;exact zAM
  .exact zAM
@[go_sem] theorem AMo(k n:Int):Bk kT 124 [.agg [nI k,nI n]] []=.ok (.ret (nI (if k=1 then n else 0)),[]):=by refine BH func124 ?_;exact au
def UU(n:Int):Int:=min (max n (-1000000000)) 1000000000
@[go_sem] theorem ANS(n:Int):Bk kT 77 [nI n] []=.ok (.ret (nI (UU n)),[]):=by refine BH func77 ?_;refine aw ?_;all_goals grind [UU]
def hV(v:C4):Int:=if v.kind=1 then v.n else 0
def tk(op a b:Int):Int:=if op=3 then TC.wrap (a+b)else if op=4 then TC.wrap (a-b)else if op=5 then TC.wrap (a*b)else if op=6 then(if a<b then 1 else 0)else if a=b then 1 else 0
def Bz.value(env:List C4):Bz->C4
 |.mk op c e=>
  if op=1 then⟨1,c⟩
  else if op=2 then(env[c.toNat]?).getD ⟨0,0⟩
  else match e with|[a,b]=>⟨1,UU (tk op (hV (a.value env)) (hV (b.value env)))⟩|_=>⟨0,0⟩
theorem VO(env:List C4)(b:Int)(a:List Bz):(Bz.mk 1 b a).value env=⟨1,b⟩:=by rcases a with _|⟨c,_|⟨e,_|⟨f,g⟩⟩⟩<;>simp[Bz.value]
def SO(env:List C4)(b:Int)(a:List Bz):(Bz.mk 2 b a).value env=(env[b.toNat]?).getD ⟨0,0⟩:=by rcases a with _|⟨c,_|⟨e,_|⟨f,g⟩⟩⟩<;>simp[Bz.value]
theorem VN(env:List C4)(op f:Int)(a b:Bz)(c:¬op=1)(e:¬op=2):(Bz.mk op f [a,b]).value env=⟨1,UU (tk op (hV (a.value env)) (hV (b.value env)))⟩:=by simp[Bz.value,c,e]
def Pn{size a:Int}{c:List Bz}(b:(Bz.mk 2 a c).formed size=X):0<=a/\a<size:=by rcases c with _|⟨e,_|⟨f,_|⟨g,h⟩⟩⟩<;>simp[Bz.formed]at b;exact b
def Ru{size op f:Int}{e:List Bz}(a:(Bz.mk op f e).formed size=X)(g:¬op=1)(h:¬op=2):3<=op/\op<=7/\f=0/\∃b c,e=[b,c]/\b.formed size=X/\c.formed size=true:=by rcases e with _|⟨b,_|⟨c,_|⟨i,j⟩⟩⟩<;>simp[Bz.formed,g,h]at a;exact⟨a.1,a.2.1,a.2.2.1,b,c,rfl,a.2.2.2⟩
@[go_sem] theorem ACQ(env:List C4)(a:Bz)(c:a.formed (U env)=X):Bk kT 78 [.agg [nI a.op,nI a.n,.d (.co (a.kids.map Bh))],.d (.co (env.map A9))] []=.ok (.ret (.agg [nI ((a.value env).kind),nI ((a.value env).n)]),[]):=by
  induction a using Bz.ind with
  |h op m x b=>
  simp[Bz.op_mk,Bz.n_mk,Bz.kids_mk];refine BH func78 ?_;by_cases g:op=1
  .subst g;clear b
   (repeat' (first|simp only[*,go_sem,VO]|(refine sx ?_ ?_<;>intro j)|refine sy z λa l k=>?_|simp(disch:=first|assumption|omega) only[Ae]))
  by_cases i:op=2
  .subst i;clear b;have⟨hn,p⟩:=Pn c;have p:m.toNat<U env:=z;clear c
   (repeat' (first|simp only[*,go_sem,SO,F9]|(refine sx ?_ ?_<;>intro j)|refine sy z λa l k=>?_|simp(disch:=first|assumption|omega) only[Ae]))
  obtain⟨q,r,s,e,f,rfl,n,o⟩:=Ru c g i;have t:=b e AG n;have w:=b f AG o;clear b c;rw[VN env op m e f g i];generalize e.value env=Bn at*;generalize f.value env=v at*
  (repeat' (first|simp only[*,go_sem]|(refine sx ?_ ?_<;>intro j)|refine sy z λa l k=>?_|simp(disch:=first|assumption|omega) only[Ae]))
  all_goals grind [hV,UU,tk]
mutual
def Bz.nodesM:Bz->Int->Int
 |.mk _ _ a,b=>Gq a 1 b
def Gq:List Bz->Int->Int->Int
 |[],n,_=>n|k::l,n,most=>if n<=most then Gq l (n+k.nodesM (most-n)) most else n
end
mutual
theorem Uy:∀(b:Bz) (a:Int),0<=a->1<=b.nodesM a/\b.nodesM a<=a+1
 |.mk op f c,a,e=>by rw[Bz.nodesM];exact cF c 1 a z z
theorem cF:∀(c:List Bz) (b a:Int),1<=b->b<=a+1->1<=Gq c b a/\Gq c b a<=a+1
 |[],b,a,h1,h2=>by simp[Gq];omega|k::c,b,a,h1,h2=>by
  rw[Gq];split
  .rename_i e;have:=Uy k (a-b) z;exact cF c _ a z z
  .omega
end
def nU(b:List Bz)(a c:Int)(e:¬a<=c):Gq b a c=a:=by cases b<;>simp[Gq,e]
variable{a:Type}{l:List a}
def Aq{b:Nat}{f:a}(c:l[b]?=J f):l.drop b=f::l.drop (b+1):=by
 have e:=(BE.1 c).1;rw[OK e];congr 1;have:=CE e;rw[c]at this;injection this with this
 exact this.symm
def l_{i:Nat}{x:a}(h:l[i]?=J x):i<U l:=(BE.1 h).1
@[go_sem] theorem Ve(e:Bz)(b:Int)(g:0<=b)(j:b<=60):Bk kT 121 [.agg [nI e.op,nI e.n,.d (.co (e.kids.map Bh))],nI b] []=.ok (.ret (nI (e.nodesM b)),[]):=by
  revert b
  induction e using Bz.ind with
  |h op n f m=>
  intro b g j;simp[Bz.op_mk,Bz.n_mk,Bz.kids_mk]at*;refine BH func121 ?_;refine aw ?_;refine rounds (B2:=λa:Nat×Int=>⟨[(1,nI b),(2,.ptr [0,0] 0),(5,nI a.2),(6,nI a.1)],[([0,0],.box [nI op,nI n,.d (.co (f.map Bh))])],1,[]⟩)
   (Inv:=λa=>a.1<=(U f)/\(a.1:Int)+1<=a.2/\a.2<=b+1/\Gq f 1 b=Gq (f.drop a.1) a.2 b) (m:=λa=>U f-a.1) (a:=(0,1)) ⟨AG,AG,BL,AG⟩ ?_
  rintro⟨i,c⟩ ⟨h2,h3,h4,h5⟩ IH;dsimp only at*
  (repeat' (first|simp only[*,go_sem]|(refine sx ?_ ?_<;>intro p)|refine sy z λe l q=>?_|simp(disch:=first|assumption|omega) only[Ae,m]))
  .have o:=Uy e (b-c) z;have k:Gq (f.drop i) c b=Gq (f.drop (i+1)) (c+e.nodesM (b-c)) b:=by rw[Aq l,Gq,D3 CM]
   rw[w_ z z];simpa only[Int.natCast_add,Int.cast_ofNat_Int]using IH.1 (i+1,c+e.nodesM (b-c)) AZ ⟨AZ,AZ,AZ,by dsimp only;rw[h5,k]⟩
  .rw[Bz.nodesM,h5,nU _ _ _ CM]
  .rw[Bz.nodesM,h5,D7 z];rfl
mutual
def Bz.size:Bz->Nat
 |.mk _ _ a=>1+FQ a
def FQ:List Bz->Nat
 |[]=>0|k::l=>k.size+FQ l
end
mutual
theorem cG:∀(b:Bz) (a:Int),0<=a->((b.size:Int)<=a->b.nodesM a=b.size)/\(a<b.size->a<b.nodesM a)
 |.mk op g e,a,f=>by
  rw[Bz.nodesM,Bz.size];have:=cD e 1 a z;constructor
  .intro c;rw[this.1 z];omega
  .intro c;exact this.2 z
theorem cD:∀(l:List Bz) (b a:Int),b<=a+1->(b+FQ l<=a->Gq l b a=b+FQ l)/\(a<b+FQ l->a<Gq l b a)
 |[],b,a,h1=>by simp[Gq,FQ]|k::l,b,a,h1=>by
  rw[Gq,FQ];split
  .rename_i h;have f:=cG k (a-b) z;have i:=Uy k (a-b) z;have c:=cD l (b+k.nodesM (a-b)) a z;by_cases g:(k.size:Int)<=a-b
   .rw[f.1 g]at c⊢;constructor
    .intro e;rw[c.1 z];omega
    .intro e;exact c.2 z
   .have:=f.2 z;constructor
    .intro e;omega
    .intro e;exact c.2 z
  .omega
end
mutual
def Bz.depth:Bz->Nat
 |.mk _ _ a=>FU a+1
def FU:List Bz->Nat
 |[]=>0|k::l=>max k.depth (FU l)
end
mutual
theorem jk:∀(a:Bz),a.depth<=a.size
 |.mk op c b=>by rw[Bz.depth,Bz.size];have:=ao b;omega
theorem ao:∀(l:List Bz),FU l<=FQ l
 |[]=>by simp[FU,FQ]|k::l=>by rw[FU,FQ];have:=jk k;have:=ao l;omega
end
def ZG{k:Bz}:∀{l:List Bz},k∈l->k.size<=FQ l
 |[],h=>by cases h|x::l,h=>by
  rw[FQ];rcases Cs.1 h with rfl|h
  .omega
  .have:=ZG h;omega
def ZH(x:Bz):1<=x.size:=by cases x;simp[Bz.size]
def ct:∀(l:List Bz),U l<=FQ l
 |[]=>AG|x::l=>by have:=ZH x;have:=ct l;simp[FQ];omega
@[go_sem] theorem ALM(b:Bz)(f:b.size<=60):Bk kT 122 [.agg [nI b.op,nI b.n,.d (.co (b.kids.map Bh))]] []=.ok (.ret (nI b.depth),[]):=by
  revert f
  induction b using Bz.ind with
  |h op o c g=>
  intro f;simp[Bz.op_mk,Bz.n_mk,Bz.kids_mk]at*;have t:=ct c;have v:FQ c<=59:=by rw[Bz.size]at f;omega
  clear f;have g:=λn j=>g n j (by have:=ZG j;omega);refine BH func122 ?_;refine aw ?_;refine rounds (B2:=λa:Nat×Nat=>⟨[(1,.ptr [0,0] 0),(3,nI a.2),(4,nI a.1)],[([0,0],.box [nI op,nI o,.d (.co (c.map Bh))])],1,[]⟩)
   (Inv:=λa=>a.1<=(U c)/\a.2<=60/\FU c=max a.2 (FU (c.drop a.1))) (m:=λa=>U c-a.1) (a:=(0,0)) ⟨AG,AG,AG⟩ ?_
  rintro⟨i,e⟩ ⟨h2,h3,h4⟩ IH;dsimp only at*
  (repeat' (first|simp only[*,go_sem]|(refine sx ?_ ?_<;>intro s)|refine sy z λb m l=>?_|simp(disch:=first|assumption|omega) only[Ae,g]))
  .have p:FU (c.drop i)=max b.depth (FU (c.drop (i+1))):=by rw[Aq m,FU]
   have q:=jk b;have r:=ZG l;have k:(if (b.depth:Int)>(e:Int)then(b.depth:Int)else(e:Int))=((max e b.depth:Nat):Int):=zCo
   rw[k];simpa only[Int.natCast_add,Int.cast_ofNat_Int]using IH.1 (i+1,max e b.depth) AZ ⟨AZ,AZ,AZ⟩
  .rw[Bz.depth,h4,D7 z];simp[FU]
def Bz.ok(size:Int)(x:Bz):Bool:=decide (x.size<=60)&&(decide (x.depth<=12)&&x.formed size)
@[go_sem] theorem AI0(size:Int)(a:Bz):Bk kT 76 [.agg [nI a.op,nI a.n,.d (.co (a.kids.map Bh))],nI size] []=.ok (.ret (.d (.bool (a.ok size))),[]):=by
  have b:=cG a 60 z;refine BH func76 ?_;by_cases h:a.size<=60
  .have c:=b.1 z;exact zAs
  .have c:=b.2 z;exact zAs
def C4.ok(v:C4):Bool:=decide (1<=v.kind)&&(decide (v.kind<=4)&&(!decide (v.kind=1)||(decide (-1000000000<=v.n)&&decide (v.n<=1000000000))))
def Jb:y:=.iface 289 (.agg [nI 2])
def sD:flat Jb=true:=by simp[Jb,flat,JA,HI]
@[go_sem] theorem ALX(l:List Df)(a:S)(b:u)(c:Nat):EE cfg I (.call 189 [.ptr b c]::l) (J Jb) a=fG cfg I l a b c .i64 2 (a.get b):=by rw[Jb,TH aX (qB _)]
attribute [go_sem] sD
@[go_sem] theorem AOx(a:Bool):Bk kT 199 [.d (.bool a)] []=DJ Jb a:=by
  cases a
  .rw[WB];refine BH func199 ?_
   (repeat' (first|simp only[*,go_sem,Jb]|(refine sx ?_ ?_<;>intro b)|refine sy z λf e c=>?_|simp(disch:=first|assumption|omega) only[Ae]))
  .rw[ZV];refine BH func199 ?_;exact au
def QH(op:Int):y:=
 if op=1 then .iface 314 (nI 0)else if op=7 then .iface 314 (nI 0)else if op=3 then .iface 314 (nI 2)else if op=2 then .iface 307 (.agg [])else if op=5 then .iface 310 (.agg [])
 else if op=6 then .iface 308 (.agg [])else if op=8 then .iface 308 (.agg [])else if op=4 then .iface 309 (.agg [])else .d .wt
def Jt(op:Int):Bk kT 211 [nI op] []=.ok (.ret (QH op),[]):=by
 refine BH func211 ?_
 (repeat' (first|simp only[*,go_sem,QH]|(refine sx ?_ ?_<;>intro a)|refine sy z λe c b=>?_|simp(disch:=first|assumption|omega) only[Ae]))
@[go_sem] theorem AO6:Bk kT 236 [.agg []] []=.ok (.ret (nI 0),[]):=by refine BH func236 ?_;exact au
@[go_sem] theorem AO7:Bk kT 237 [.agg []] []=.ok (.ret (nI 1),[]):=by refine BH func237 ?_;exact au
@[go_sem] theorem AO8:Bk kT 238 [.agg []] []=.ok (.ret (nI 1),[]):=by refine BH func238 ?_;exact au
@[go_sem] theorem AO9:Bk kT 239 [.agg []] []=.ok (.ret (nI 2),[]):=by refine BH func239 ?_;exact au
@[go_sem] theorem APA(n:Int):Bk kT 240 [nI n] []=.ok (.ret (nI n),[]):=by refine BH func240 ?_;exact au
def Bc.own(d:Bc):Nat:=U d.ac+U d.be
def AMw(d:Bc)(a:U d.ac<=1000)(b:U d.be<=1000):Bk kT 214 [.agg [.d (.co (d.ac.map BR)),.d (.co (d.be.map BD)),.d (.co (d.rules.map BN))]] []=.ok (.ret (nI d.own),[]):=by refine BH func214 ?_;refine aw ?_;all_goals simp[Bc.own]
def AKE(d:Bc)(a:U d.ac<=1000)(b:U d.be<=1000):Bk kT 169 [.agg [.d (.co (d.ac.map BR)),.d (.co (d.be.map BD)),.d (.co (d.rules.map BN))]] []=.ok (.ret (nI d.own),[]):=by refine BH func169 ?_;refine aw ?_;all_goals simp[Bc.own]
def B9(d:Bc):Al->Int
 |[]=>0|j::l=>((d.ac[j.toNat]?).map HJ.many).getD 0+B9 d l
def Bc.joinsOk(d:Bc)(r:C6):Prop:=U r.d7<=3/\(∀j∈r.d7,0<=j/\j<U d.ac)/\∀c∈d.ac,0<=c.many/\c.many<=3
def g_{a:Type}{l:List a}{i:Nat}(h:i<U l):∃B0,l[i]?=J B0:=⟨_,CE h⟩
def yf(d:Bc)(b:C6)(k:d.joinsOk b):Bk kT 215 [.agg [.d (.co (d.ac.map BR)),.d (.co (d.be.map BD)),.d (.co (d.rules.map BN))],.agg [nI b.at_,.d (.co (b.d7.map AX)),nI b.node]] []=.ok (.ret (nI (B9 d b.d7)),[]):=by
 obtain⟨n,e,f⟩:=k;have h:=AB e;have j:=AB f;clear e f;refine BH func215 ?_;refine aw ?_;refine rounds (B2:=λa:Nat×Int=>⟨[(2,.ptr [0,0] 0),(5,nI a.2),(9,.d (.co (b.d7.map AX))),(10,nI (U b.d7)),(11,nI a.1)],[([0,0],.box [.d (.co (d.ac.map BR)),.d (.co (d.be.map BD)),.d (.co (d.rules.map BN))])],1,[]⟩)
  (Inv:=λa=>a.1<=(U b.d7)/\0<=a.2/\a.2<=3*a.1/\AR (B9 d b.d7=a.2+B9 d (b.d7.drop a.1))) (m:=λa=>U b.d7-a.1) (a:=(0,0)) ⟨AG,AG,AG,⟨AG⟩⟩ ?_
 rintro⟨i,c⟩ ⟨k1,k2,k3,k4⟩ IH;dsimp only at*
 (repeat' (first|simp only[*,go_sem]|(refine sx ?_ ?_<;>intro o)|refine sy z λg m l=>?_|simp(disch:=first|assumption|omega) only[Ae]))
 .have p:=h.1 g l;have⟨B0,hy⟩:=g_ (l:=d.ac) (i:=g.toNat) z;have q:=j.1 B0 (AP hy);refine aw ?_;refine IH.1 (i+1,c+B0.many) AZ ⟨AZ,AZ,AZ,⟨?_⟩⟩;dsimp only;rw[k4.1,Aq m,B9,hy];simp;omega
 .rw[k4.1,D7 z,B9,Int.add_zero]
def AJ5(d:Bc)(b:C6)(m:d.joinsOk b):Bk kT 188 [.agg [.d (.co (d.ac.map BR)),.d (.co (d.be.map BD)),.d (.co (d.rules.map BN))],.agg [nI b.at_,.d (.co (b.d7.map AX)),nI b.node]] []=.ok (.ret (nI (B9 d b.d7)),[]):=by
 obtain⟨n,h,i⟩:=m;have j:=AB h;have k:=AB i;clear h i;refine BH func188 ?_;refine aw ?_;refine rounds (B2:=λa:Nat×Int=>⟨[(2,.ptr [0,0] 0),(3,.ptr [0,1] 0),(5,nI a.2),(6,nI a.1)],[([0,0],.box [.d (.co (d.ac.map BR)),.d (.co (d.be.map BD)),.d (.co (d.rules.map BN))]),([0,1],.box [nI b.at_,.d (.co (b.d7.map AX)),nI b.node])],2,[]⟩)
  (Inv:=λa=>a.1<=(U b.d7)/\0<=a.2/\a.2<=3*a.1/\AR (B9 d b.d7=a.2+B9 d (b.d7.drop a.1))) (m:=λa=>U b.d7-a.1) (a:=(0,0)) ⟨AG,AG,AG,⟨AG⟩⟩ ?_
 rintro⟨f,c⟩ ⟨k1,k2,k3,k4⟩ IH;dsimp only at*;by_cases l:f<U b.d7
 .have⟨g,e⟩:=g_ l;have p:=j.1 g (AP e);have⟨B0,hy⟩:=g_ (l:=d.ac) (i:=g.toNat) z;have s:=k.1 B0 (AP hy);have q:(f:Int)<U b.d7:=z;refine aw ?_;refine IH.1 (f+1,c+B0.many) AZ ⟨AZ,AZ,AZ,⟨?_⟩⟩;dsimp only;rw[k4.1,Aq e,B9,hy];simp;omega
 ·(repeat' (first|simp only[*,go_sem]|(refine sx ?_ ?_<;>intro o)|refine sy z λg e r=>?_|simp(disch:=first|assumption|omega) only[Ae]))
  .omega
  .rw[k4.1,D7 z,B9,Int.add_zero]
def O8(b:UInt8):Bool:=decide (97<=b.toNat)&&decide (b.toNat<=122)
def bS:List ByteArray:=[⟨#[97,110,100]⟩,⟨#[100,101,102]⟩,⟨#[101,108,115,101]⟩,⟨#[103,111]⟩,⟨#[105,102]⟩,⟨#[105,110]⟩,⟨#[112,108,97,99,101]⟩,⟨#[115,116,111,112]⟩,⟨#[116,104,101,110]⟩,⟨#[119,97,116,99,104]⟩]
def kp:List (Au×y):=bS.map λk=>(.str k,.d (.bool X))
def GQ(s:ByteArray):Bool:=decide (1<=s.size)&&(decide (s.size<=8)&&(s.data.toList.all O8&& !bS.any (· ==s)))
@[go_sem] theorem AMR(l:List ByteArray)(b:ByteArray)(h:U l<=1000):Bk kT 167 [.d (.co (l.map CB)),.d (.str b)] []=.ok (.ret (.d (.bool (l.any (· ==b)))),[]):=by
  refine BH func167 ?_;refine aw (rounds (B2:=λa:Nat=>⟨[(0,.d (.co (l.map CB))),(1,.d (.str b)),(5,nI a)],[],0,[]⟩) (Inv:=λa=>a<=(U l)/\AR (l.any (· ==b)=(l.drop a).any (· ==b))) (m:=λa=>U l-a) (a:=0) ⟨AG,⟨AG⟩⟩ ?_);rintro a ⟨j,c⟩ f
  (repeat' (first|simp only[*,go_sem]|(refine sx ?_ ?_<;>intro g)|refine sy z λk e i=>?_|simp(disch:=first|assumption|omega) only[Ae]))
  .rw[c.1,Aq e,List.any_cons];simp[*]
  .refine f.1 (a+1) z ⟨z,⟨?_⟩⟩;rw[c.1,Aq e,List.any_cons];simp[*]
  .rw[c.1,D7 z];rfl
def Yb{c:ByteArray}{e:y}:∀{b:List (Au×y)},Bs b (.str c)=J I->CW b (.str c) e=b++[(.str c,e)]
 |[],_=>rfl|(k,w)::b,a=>by
  unfold Bs at a;unfold CW;split at a
  .cases a
  .rename_i f;rw[f];simp;exact Yb a
  .cases a
variable{h:S}
def AJn{b:u}{a:List (Au×y)}{c:ByteArray}(f:h.get b=J (.map a))(e:Bs a (.str c)=J I):mapPut cfg.T h.get (cfg.T 300) (.mp b) (.d (.str c)) (.d (.bool X))=J ⟨.undef,[(b,.map (a++[(.str c,.d (.bool X))]))]⟩:=by unfold mapPut;simp[mu,RP,T9,Kj,y.inMap,y.isCell,f,e,Yb e]
def AE8(a:u)(b:Abs.Obj):S.get [(a,b)] a=J b:=by simp[H8]
@[go_sem] theorem ALW(a:Nat)(b:u):Bk kT 210 [] (a::b)=.ok (.ret (.mp (1::1::a::b)),[(1::1::a::b,.map kp)]):=by
  refine BH func210 ?_;refine aw ?_
  iterate 10 (rw[<-mu,AJn (AE8 _ _)];rotate_left;exact rfl;refine aw ?_)
  rfl
def fK:∀(L:List ByteArray) (s:ByteArray),Bs (L.map λk=>(Au.str k,.d (.bool X))) (.str s)=J (if L.any (· ==s)=X then J (.d (.bool X))else I)
 |[],s=>by simp[Bs]|k::L,s=>by
  rw[Bv,Bs,Et];rcases hk:(k==s)with _|_
  .simp[fK L s,hk]
  .simp[hk]
def AMX{s:ByteArray}(h:(bS.any λx=>x==s)=X):Bs kp (.str s)=J (J (.d (.bool X))):=by rw[kp,fK,D3 h]
def AOT{s:ByteArray}(h:(bS.any λx=>x==s)=Z):Bs kp (.str s)=J none:=by rw[kp,fK,Co (by rw[h];simp)]
@[go_sem] theorem AQM(s:ByteArray):Bk kT 167 [.d (.co [[.str ⟨#[97,110,100]⟩],[.str ⟨#[100,101,102]⟩],[.str ⟨#[101,108,115,101]⟩],[.str ⟨#[103,111]⟩],[.str ⟨#[105,102]⟩],[.str ⟨#[105,110]⟩],[.str ⟨#[112,108,97,99,101]⟩],[.str ⟨#[115,116,111,112]⟩],[.str ⟨#[116,104,101,110]⟩],[.str ⟨#[119,97,116,99,104]⟩]]),.d (.str s)] []=.ok (.ret (.d (.bool (bS.any (· ==s)))),[]):=AMR bS s Ad
variable{b:UInt8}
def Ur(h:¬(97<=b.toNat/\b.toNat<=122)):O8 b=false:=by simp only[O8,Bool.and_eq_false_iff,decide_eq_false_iff_not];omega
def fI(h:97<=b.toNat/\b.toNat<=122):O8 b=true:=by simp[O8];exact h
def AF2(a:ByteArray):Bk kT 127 [.d (.str a)] []=.ok (.ret (.d (.bool (GQ a))),[]):=by
 have l:U a.data.toList=a.size:=by cases a;rfl
 refine BH func127 ?_
 (repeat' (first|simp only[*,go_sem]|(refine sx ?_ ?_<;>intro i)|refine sy z λk c j=>?_|simp(disch:=first|assumption|omega) only[Ae]))
 .rw[GQ,GC z];rfl
 .rw[GQ,GC (p:=a.size<=8) z,Es,I5]
 have g:1<=a.size:=z;have h:a.size<=8:=z;refine rounds (B2:=λb:Nat=>⟨[(0,.d (.str a)),(3,nI b)],[],0,[]⟩) (Inv:=λb=>b<=a.size/\AR (a.data.toList.all O8=(a.data.toList.drop b).all O8)) (m:=λb=>a.size-b) (a:=0) ⟨AG,⟨AG⟩⟩ ?_;rintro b ⟨m,e⟩ f
 (repeat' (first|simp only[*,go_sem]|(refine sx ?_ ?_<;>intro i)|refine sy z λk c j=>?_|simp(disch:=first|assumption|omega) only[Ae]))
 .exact zCK
 .exact zCK
 .refine f.1 (b+1) z ⟨z,⟨?_⟩⟩;rw[e.1,Aq c,EX,fI z];rfl
 .have:a.data.toList.all O8=true:=by rw[e.1,D7 z];rfl
  simp[GQ,this,g,h]
theorem AJ7(a:ByteArray)(l:a.size<=9223372036854775807):Bk kT 200 [.d (.str a)] []=.ok (.ret (.d (.bool (GQ a))),[]):=by
 have m:U a.data.toList=a.size:=by cases a;rfl
 refine BH func200 ?_;refine aw (rounds (B2:=λb:Nat=>⟨[(0,.d (.str a)),(5,nI a.size),(6,nI b)],[],0,[]⟩) (Inv:=λb=>b<=a.size/\AR (a.data.toList.all O8=(a.data.toList.drop b).all O8)) (m:=λb=>a.size-b) (a:=0) ⟨AG,⟨AG⟩⟩ ?_);rintro b ⟨n,c⟩ h;rcases hk:bS.any (· ==a)with _|_
 ·(repeat' (first|simp only[*,go_sem,AOT hk]|(refine sx ?_ ?_<;>intro i)|refine sy z λk e j=>?_|simp(disch:=first|assumption|omega) only[Ae]))
  .exact zAj
  .exact zAj
  .refine h.1 (b+1) z ⟨z,⟨?_⟩⟩;rw[c.1,Aq e,EX,fI z];rfl
  .exact zBa
  .rw[GQ,GC (p:=a.size<=8) z,Es,I5]
  .rw[GQ,GC z];rfl
 ·(repeat' (first|simp only[*,go_sem,AMX hk]|(refine sx ?_ ?_<;>intro i)|refine sy z λk e j=>?_|simp(disch:=first|assumption|omega) only[Ae]))
  .exact zAj
  .exact zAj
  .refine h.1 (b+1) z ⟨z,⟨?_⟩⟩;rw[c.1,Aq e,EX,fI z];rfl
  .exact zBa
  .rw[GQ,GC (p:=a.size<=8) z,Es,I5]
  .rw[GQ,GC z];rfl
def Zr(x:Int):Al->Int->Int
 |[],_=> -1|B0::l,i=>if x=B0 then i else Zr x l (i+1)
@[go_sem] theorem AOO(l:Al)(b:Int)(h:U l<=1000000):Bk kT 220 [.d (.co (l.map AX)),nI b] []=.ok (.ret (nI (Zr b l 0)),[]):=by
  refine BH func220 ?_;refine aw (rounds (B2:=λa:Nat=>⟨[(0,.d (.co (l.map AX))),(1,nI b),(7,nI (U l)),(8,nI a)],[],0,[]⟩) (Inv:=λa=>a<=(U l)/\AR (Zr b l 0=Zr b (l.drop a) a)) (m:=λa=>U l-a) (a:=0) ⟨AG,⟨AG⟩⟩ ?_);rintro a ⟨j,c⟩ f
  (repeat' (first|simp only[*,go_sem]|(refine sx ?_ ?_<;>intro g)|refine sy z λk e i=>?_|simp(disch:=first|assumption|omega) only[Ae]))
  .subst g;rw[c.1,Aq e,Zr,D3 rfl]
  .refine f.1 (a+1) z ⟨z,⟨?_⟩⟩;rw[c.1,Aq e,Zr,Co CM];rfl
  .rw[c.1,D7 z,Zr]
def lf(v:Int):∀(l:Al) (i:Int),0<=i->(0<=Zr v l i↔v∈l)
 |[],i,h=>by simp[Zr]|B0::l,i,h=>by
  rw[Zr];split
  .rename_i e;simp[e,h]
  .rename_i e;rw[lf v l (i+1) z];simp[e]
@[go_sem] theorem jZ(l:Al)(a:Int)(b:U l<=1000000):Bk kT 219 [.d (.co (l.map AX)),nI a] []=.ok (.ret (.d (.bool (decide (a∈l)))),[]):=by have h:=lf a l 0 z;refine BH func219 ?_;exact au
def oJ(d:Bc)(a:Int)(h:S)(f:u)(c:u)(i:h.get c=J (.box [.d (.co (d.ac.map BR)),.d (.co (d.be.map BD)),.d (.co (d.rules.map BN))])):
 ∃e b,kT (.fn 218) [nI a,.ptr c 0] h f X I=.ok (e,b)/\b=h/\e=if 0<=a/\a<=(U d.be) then .ret (.kw [])else .of Jb:=by
 refine Ba func218 ?_
 (repeat' (first|simp only[*,go_sem]|(refine sx ?_ ?_<;>intro g)|refine sy z λl k j=>?_|simp(disch:=first|assumption|omega) only[Ae]))
 all_goals simp
def Da(d:Bc)(c:HJ):Bool:=decide (0<=c.at_/\c.at_<=(U d.be))&&(decide (0<=c.many)&&decide (c.many<=3))
def EG:Nat->List Dy->Bool
 |_,[]=>X|i,s::l=>decide (0<=s.in_)&&(decide (s.in_<=i)&&EG (i+1) l)
def Ho(d:Bc)(r:C6)(i:Nat)(c:Int):Bool:=decide (0<=c)&&(decide (c<U d.ac)&&(decide (((d.ac[c.toNat]?).map HJ.at_).getD 0=r.at_)&& !decide (c∈r.d7.take i)))
def joinsOk(d:Bc)(r:C6):Nat->Al->Bool
 |_,[]=>X|i,c::l=>Ho d r i c&&joinsOk d r (i+1) l
def Bt(d:Bc)(r:C6):Bool:=decide (0<=r.at_/\r.at_<=(U d.be))&&(decide (0<U r.d7)&&(decide (U r.d7<=3)&&joinsOk d r 0 r.d7))
def TD(l:Al)(c:Int):Al:=if c∈l then l else l++[c]
def Hs(l:Al):List (Au×y):=l.map λc=>(.int .i64 c,.d (.bool X))
def Hj(l:Al)(b:List C6):Al:=b.foldl (λl a=>a.d7.foldl TD l) l
def Bc.okG(d:Bc):Bool:=decide (U d.ac<=30)&&(decide (U d.be<=30)&&(decide (U d.rules<=30)&&(d.ac.all (Da d)&&(EG 0 d.be&&(d.rules.all (Bt d)&&decide ((Hj [] d.rules).length=U d.ac))))))
def dR(v:y)(t:Bool):BC×S:=if t=X then(.ret (.kw []),[])else(.of v,[])
theorem vP(v:y):dR v X=(.ret (.kw []),[]):=rfl
theorem Dv(v:y):dR v Z=(.of v,[]):=rfl
def qA(v:y)(t:Bool):DJ v t=.ok (dR v t):=by cases t<;>rfl
def vA(b:Al)(a:Int):Bs (Hs b) (.int .i64 a)=J (if a∈b then J (.d (.bool X))else I):=by
 induction b with
 |nil=>rfl
 |cons c b i=>
  show Bs ((.int .i64 c,.d (.bool X))::Hs b) _=_;rw[Bs,Et];simp only[IP];by_cases h:c=a
  .subst h;simp
  .have f:(c==a)=false:=by simpa using h
   have g:¬a=c:=λe=>h e.symm;rw[f,i];simp[g]
theorem vB(b:Al)(a:Int):CW (Hs b) (.int .i64 a) (.d (.bool X))=Hs (TD b a):=by
 induction b with
 |nil=>rfl
 |cons c b i=>
  show CW ((.int .i64 c,.d (.bool X))::Hs b) _ _=_;rw[CW,Et];simp;by_cases h:c=a
  .subst h;simp[TD,Hs]
  .have f:(c==a)=false:=by simpa using h
   have g:¬a=c:=λe=>h e.symm;rw[f];simp only;rw[i];simp only[TD,Cs,g,false_or];split<;>rfl
def AJm{a:u}{st:Al}{b:Int}(c:h.get a=J (.map (Hs st))):mapPut cfg.T h.get (cfg.T 315) (.mp a) (nI b) (.d (.bool X))=J ⟨.undef,[(a,.map (Hs (TD st b)))]⟩:=by unfold mapPut;simp[tt,RP,T3,Kj,y.inMap,y.isCell,c,vA,vB]
@[go_sem] theorem ANB(a:Al):(Hs a).flatMap (λc=>AE c.2)=[]:=by induction a with|nil=>rfl|cons e a b=>exact b
@[go_sem] theorem ANC(e:u->Option u)(a:Al):(Hs a).map (λb=>(b.1,ren e b.2))=Hs a:=by induction a with|nil=>rfl|cons f a c=>exact congrArg (List.cons _) c
def te{d:Bc}(h:d.ac.all (Da d)=Z):d.okG=false:=by simp[Bc.okG,h]
def w8{d:Bc}(h:EG 0 d.be=Z):d.okG=false:=by simp[Bc.okG,h]
def fS{d:Bc}(h:d.rules.all (Bt d)=Z):d.okG=false:=by simp[Bc.okG,h]
def AMr{d:Bc}(h:¬(Hj [] d.rules).length=U d.ac):d.okG=false:=by simp[Bc.okG,GC h]
def AL9(d:Bc):Bk kT 213 [.agg [.d (.co (d.ac.map BR)),.d (.co (d.be.map BD)),.d (.co (d.rules.map BN))]] []=.ok (dR Jb d.okG):=by
 refine BH func213 ?_
 (repeat' (first|simp only[*,go_sem]|(refine sx ?_ ?_<;>intro h)|refine sy z λg e l=>?_|simp(disch:=first|assumption|omega) only[Ae]))
 all_goals try(rw[show d.okG=Z by simp[Bc.okG];omega,Dv])
 have t:U d.ac<=30:=z;have v:U d.be<=30:=z;have w:U d.rules<=30:=z;refine rounds (B2:=λb:Nat=>⟨[(1,.ptr [0,0] 0),(2,.fn 218 [] [.ptr [0,0] 0]),(31,.d (.co (d.ac.map BR))),(32,nI (U d.ac)),(33,nI b)],[([0,0],.box [.d (.co (d.ac.map BR)),.d (.co (d.be.map BD)),.d (.co (d.rules.map BN))])],1,[]⟩)
  (Inv:=λb=>b<=(U d.ac)/\AR (d.ac.all (Da d)=(d.ac.drop b).all (Da d))) (m:=λb=>U d.ac-b) (a:=0) ⟨AG,⟨AG⟩⟩ ?_
 clear h;rintro b ⟨n,f⟩ k
 (repeat' (first|simp only[*,go_sem]|(refine sx ?_ ?_<;>intro h)|refine sy z λg e l=>?_|simp(disch:=first|assumption|omega) only[Ae]))
 .refine Ak (oJ d g.at_ _ _ _ ?_) (λN x p=>?_)
  .simp only[go_sem]
  obtain⟨rfl,rfl⟩:=p;by_cases j:0<=g.at_/\g.at_<=(U d.be)
  .rw[D3 j]
   (repeat' (first|simp only[*,go_sem]|(refine sx ?_ ?_<;>intro h)|refine sy z λg e l=>?_|simp(disch:=first|assumption|omega) only[Ae]))
   .refine k.1 (b+1) z ⟨z,⟨?_⟩⟩;rw[f.1,Aq e,EX,show Da d g=X by simp[Da, *],I4]
   .rw[te,Dv];rw[f.1,Aq e,EX,show Da d g=Z by simp[Da, *],Es]
   .rw[te,Dv];rw[f.1,Aq e,EX,show Da d g=Z by simp[Da, *],Es]
  .rw[Co j];refine aw ?_;rw[te,Dv];rw[f.1,Aq e,EX,show Da d g=Z by simp[Da,GC j],Es]
 have B:d.ac.all (Da d)=true:=by rw[f.1,D7 z];rfl
 clear h n f k b;refine rounds (B2:=λb:Nat=>⟨[(1,.ptr [0,0] 0),(2,.fn 218 [] [.ptr [0,0] 0]),(52,.d (.co (d.be.map BD))),(53,nI (U d.be)),(54,nI b)],[([0,0],.box [.d (.co (d.ac.map BR)),.d (.co (d.be.map BD)),.d (.co (d.rules.map BN))])],1,[]⟩)
  (Inv:=λb=>b<=(U d.be)/\AR (EG 0 d.be=EG b (d.be.drop b))) (m:=λb=>U d.be-b) (a:=0) ⟨AG,⟨AG⟩⟩ ?_
 rintro b ⟨n,f⟩ k
 (repeat' (first|simp only[*,go_sem]|(refine sx ?_ ?_<;>intro h)|refine sy z λg e l=>?_|simp(disch:=first|assumption|omega) only[Ae]))
 .refine k.1 (b+1) z ⟨z,⟨?_⟩⟩;rw[f.1,Aq e,EG];simp[*]
 .rw[w8,Dv];rw[f.1,Aq e,EG];simp[*]
 .rw[w8,Dv];rw[f.1,Aq e,EG];simp[*]
 have M:EG 0 d.be=true:=by rw[f.1,D7 z];rfl
 clear h n f k b;refine rounds (B2:=λa:Nat×Al=>⟨[(1,.ptr [0,0] 0),(2,.fn 218 [] [.ptr [0,0] 0]),(7,.mp [1,1]),(72,.d (.co (d.rules.map BN))),(73,nI (U d.rules)),(74,nI a.1)],[([0,0],.box [.d (.co (d.ac.map BR)),.d (.co (d.be.map BD)),.d (.co (d.rules.map BN))]),([1,1],.map (Hs a.2))],2,[]⟩)
  (Inv:=λa=>a.1<=(U d.rules)/\AR (d.rules.all (Bt d)=(d.rules.drop a.1).all (Bt d))/\AR (Hj [] d.rules=Hj a.2 (d.rules.drop a.1))) (m:=λa=>U d.rules-a.1) (a:=(0,[])) ⟨AG,⟨AG⟩,⟨AG⟩⟩ ?_
 rintro⟨b,st⟩ ⟨n,f,k3⟩ k;dsimp only at*;by_cases C:b<U d.rules
 .have⟨r,e⟩:=g_ C;have D:(b:Int)<U d.rules:=z;refine aw (Ak (oJ d r.at_ _ _ _ ?_) (λN x p=>?_))
  .simp only[go_sem]
  obtain⟨rfl,rfl⟩:=p;by_cases j:0<=r.at_/\r.at_<=(U d.be)
  .rw[D3 j]
   (repeat' (first|simp only[*,go_sem]|(refine sx ?_ ?_<;>intro h)|refine sy z λg e l=>?_|simp(disch:=first|assumption|omega) only[Ae]))
   ·
    refine rounds (B2:=λa:Nat×Al=>⟨[(1,.ptr [0,0] 0),(2,.fn 218 [] [.ptr [0,0] 0]),(7,.mp [1,1]),(9,.ptr [0,2] 0),(72,.d (.co (d.rules.map BN))),(73,nI (U d.rules)),(74,nI b),(94,.d (.co (r.d7.map AX))),(95,nI (U r.d7)),(96,nI a.1)],[([0,0],.box [.d (.co (d.ac.map BR)),.d (.co (d.be.map BD)),.d (.co (d.rules.map BN))]),([1,1],.map (Hs a.2)),([0,2],.box [nI r.at_,.d (.co (r.d7.map AX)),nI r.node])],3,[]⟩)
     (Inv:=λa=>a.1<=(U r.d7)/\AR (joinsOk d r 0 r.d7=joinsOk d r a.1 (r.d7.drop a.1))/\AR (Hj [] d.rules=Hj ((r.d7.drop a.1).foldl TD a.2) (d.rules.drop (b+1)))) (m:=λa=>U r.d7-a.1) (a:=(0,st)) ⟨AG,⟨AG⟩,⟨by rw[k3.1,Aq e];rfl⟩⟩ ?_
    rintro⟨i,st2⟩ ⟨j1,j2,j3⟩ IH2;dsimp only at*;by_cases H:i<U r.d7
    .have⟨c,hy⟩:=g_ H;have K:(i:Int)<U r.d7:=z;have O:(r.d7.take i).length<=1000000:=BL;have m:AR (Ho d r i c=Z->(BC.of Jb,([]:S))=dR Jb d.okG):=.mk λA=>by
      have F:joinsOk d r 0 r.d7=false:=by rw[j2.1,Aq hy,joinsOk,A,Es]
      rw[fS,Dv];rw[f.1,Aq e,EX,show Bt d r=Z by simp[Bt,F],Es]
     by_cases q:0<=c
     .by_cases s:c<U d.ac
      .have⟨B0,hyc⟩:=g_ (l:=d.ac) (i:=c.toNat) z;have o:Ho d r i c=(decide (B0.at_=r.at_)&& !decide (c∈r.d7.take i)):=by simp[Ho,hyc,F8 q,F8 s]
       (repeat' (first|simp only[*,go_sem]|(refine sx ?_ ?_<;>intro h)|refine sy z λg e l=>?_|simp(disch:=first|assumption|omega) only[Ae,jZ]))
       .rw[<-tt,AJm (st:=st2) zCe];refine aw ?_;refine IH2.1 (i+1,TD st2 c) AZ ⟨AZ,⟨?_⟩,⟨?_⟩⟩
        .dsimp only;rw[j2.1,Aq hy,joinsOk,o];simp[*]
        .dsimp only;rw[j3.1,Aq hy,OS]
       .exact m.1 (by rw[o];simp[*])
       .exact m.1 (by rw[o,GC CM,Es])
      .exact aw (m.1 (by simp[Ho,GC s]))
     .exact aw (m.1 (by simp[Ho,GC q]))
    .have K:¬(i:Int)<U r.d7:=z;refine aw ?_;refine k.1 (b+1,st2) AZ ⟨AZ,⟨?_⟩,⟨?_⟩⟩
     .dsimp only;rw[f.1,Aq e,EX,show Bt d r=X by rw[D7 z]at j2;simp only[Bt,F8 j,j2.1,joinsOk];simp;omega,I4]
     .dsimp only;rw[j3.1,D7 z];rfl
   .rw[fS,Dv];rw[f.1,Aq e,EX,show Bt d r=Z by simp[Bt];omega,Es]
   .rw[fS,Dv];rw[f.1,Aq e,EX,show Bt d r=Z by simp[Bt];omega,Es]
  .rw[Co j];refine aw ?_;rw[fS,Dv];rw[f.1,Aq e,EX,show Bt d r=Z by simp[Bt,GC j],Es]
 .have D:¬(b:Int)<U d.rules:=z;have L:d.rules.all (Bt d)=true:=by rw[f.1,D7 z];rfl
  have P:(Hj [] d.rules).length=(Hs st).length:=by rw[k3.1,D7 z];simp[Hj,Hs]
  (repeat' (first|simp only[*,go_sem]|(refine sx ?_ ?_<;>intro h)|refine sy z λg e l=>?_|simp(disch:=first|assumption|omega) only[Ae]))
  .rw[show d.okG=X by simp[Bc.okG,B,M,L,F8 t,F8 v,F8 w];omega,vP]
  .rw[AMr z,Dv]
def DU(t:Bool):List Au:=[.bool t]
attribute [go_sem] DU
def SN(Bn:List Bool)(c:Int):List Bool:=Bn.set c.toNat X
def QU(a:List Bool)(c:List C6):List Bool:=c.foldl (λa b=>b.d7.foldl SN a) a
def Bc.okR(d:Bc):Bool:=decide (U d.ac<=30)&&(decide (U d.be<=30)&&(decide (U d.rules<=30)&&(d.ac.all (Da d)&&(EG 0 d.be&&(d.rules.all (Bt d)&&(QU (TL (U d.ac) Z) d.rules).all id)))))
def fT{d:Bc}(h:d.ac.all (Da d)=Z):d.okR=false:=zDA
def zl{d:Bc}(h:EG 0 d.be=Z):d.okR=false:=zDA
def U1{d:Bc}(h:d.rules.all (Bt d)=Z):d.okR=false:=zDA
def AMs{d:Bc}(h:(QU (TL (U d.ac) Z) d.rules).all id=Z):d.okR=false:=by simp only[Bc.okR,h,I5]
theorem AIc(d:Bc):Bk kT 128 [.agg [.d (.co (d.ac.map BR)),.d (.co (d.be.map BD)),.d (.co (d.rules.map BN))]] []=.ok (.ret (.d (.bool d.okR)),[]):=by
 refine BH func128 ?_
 (repeat' (first|simp only[*,go_sem]|(refine sx ?_ ?_<;>intro j)|refine sy z λk f n=>?_|simp(disch:=first|assumption|omega) only[Ae]))
 all_goals try(rw[show d.okR=Z by simp[Bc.okR];omega])
 have O:U d.ac<=30:=z;have C:U d.be<=30:=z;have P:U d.rules<=30:=z;refine rounds (B2:=λb:Nat=>⟨[(1,.ptr [0,0] 0),(3,nI b)],[([0,0],.box [.d (.co (d.ac.map BR)),.d (.co (d.be.map BD)),.d (.co (d.rules.map BN))])],1,[]⟩)
  (Inv:=λb=>b<=(U d.ac)/\AR (d.ac.all (Da d)=(d.ac.drop b).all (Da d))) (m:=λb=>U d.ac-b) (a:=0) ⟨AG,⟨AG⟩⟩ ?_
 clear j;rintro b ⟨o,e⟩ l
 (repeat' (first|simp only[*,go_sem]|(refine sx ?_ ?_<;>intro j)|refine sy z λk f n=>?_|simp(disch:=first|assumption|omega) only[Ae]))
 .exact zA4
 .exact zA4
 .exact zA4
 .exact zA4
 .refine l.1 (b+1) z ⟨z,⟨?_⟩⟩;rw[e.1,Aq f,EX,show Da d k=X by simp[Da];omega,I4]
 have x:d.ac.all (Da d)=true:=by rw[e.1,D7 z];rfl
 clear j o e l b;refine rounds (B2:=λb:Nat=>⟨[(1,.ptr [0,0] 0),(4,nI b)],[([0,0],.box [.d (.co (d.ac.map BR)),.d (.co (d.be.map BD)),.d (.co (d.rules.map BN))])],1,[]⟩)
  (Inv:=λb=>b<=(U d.be)/\AR (EG 0 d.be=EG b (d.be.drop b))) (m:=λb=>U d.be-b) (a:=0) ⟨AG,⟨AG⟩⟩ ?_
 rintro b ⟨o,e⟩ l
 (repeat' (first|simp only[*,go_sem]|(refine sx ?_ ?_<;>intro j)|refine sy z λk f n=>?_|simp(disch:=first|assumption|omega) only[Ae]))
 .rw[zl];rw[e.1,Aq f,EG];simp;omega
 .rw[zl];rw[e.1,Aq f,EG];simp;omega
 .refine l.1 (b+1) z ⟨z,⟨?_⟩⟩;rw[e.1,Aq f,EG,F8 z,F8 z,I4,I4]
 have H:EG 0 d.be=true:=by rw[e.1,D7 z];rfl
 by_cases w:d.ac=[]
 .rw[w];clear j o e l;refine aw ?_;rw[DT];have D:U d.ac=0:=by rw[w];rfl
  rcases hr:d.rules with _|⟨c,a2⟩
  .refine aw ?_;rw[DT];refine aw ?_;rw[show d.okR=X by simp only[Bc.okR,x,H,hr,w,QU];simp;exact C]
  .have p:AR (Bt d c=Z->Z=d.okR):=.mk λh=>by rw[U1];rw[hr,EX,h,Es]
   clear x;rcases s:c.d7 with _|⟨g,ar⟩
   ·(repeat' (first|simp only[*,go_sem]|(refine sx ?_ ?_<;>intro j)|refine sy z λk f n=>?_|simp(disch:=first|assumption|omega) only[Ae]))
    all_goals first|(rw[<-p.1 (by simp[Bt,s])];done)|(exfalso;omega)
   .have p:=AR.mk (p.1 (by
     have:joinsOk d c 0 c.d7=false:=by
      rw[s,joinsOk,Ho,D];by_cases R:0<=g
      .rw[GC (p:=g<((0:Nat):Int)) z];simp
      .rw[GC R];simp
     simp only[Bt,this,I5]))
    (repeat' (first|simp only[*,go_sem]|(refine sx ?_ ?_<;>intro j)|refine sy z λk f n=>?_|simp(disch:=first|assumption|omega) only[Ae]))
    all_goals try first|(rw[<-p.1];done)|(exfalso;omega)
    rw[DT]
    (repeat' (first|simp only[*,go_sem]|(refine sx ?_ ?_<;>intro j)|refine sy z λk f n=>?_|simp(disch:=first|assumption|omega) only[Ae]))
    all_goals first|(rw[<-p.1];done)|(exfalso;omega)
 have ad:0<U d.ac:=List.length_pos_iff.2 w;rw[Uu (zs:=[.bool Z]) ad zCy rfl rfl Ad rfl];clear j o e l;refine aw ?_;have F:(TL (U d.ac) [Au.bool Z])=(TL (U d.ac) Z).map DU:=by rw[Lc];rfl
 rw[F];have K:(TL (U d.ac) Z).length=U d.ac:=HU;refine rounds (B2:=λa:Nat×List Bool=>⟨[(1,.ptr [0,0] 0),(5,.ii [1,1] 0 (U d.ac)),(6,nI a.1)],[([0,0],.box [.d (.co (d.ac.map BR)),.d (.co (d.be.map BD)),.d (.co (d.rules.map BN))]),([1,1],.f9 1 (a.2.map DU))],2,[]⟩)
  (Inv:=λa=>a.1<=(U d.rules)/\(U a.2)=U d.ac/\AR (d.rules.all (Bt d)=(d.rules.drop a.1).all (Bt d))/\AR (QU (TL (U d.ac) Z) d.rules=QU a.2 (d.rules.drop a.1))) (m:=λa=>U d.rules-a.1) (a:=(0,TL (U d.ac) Z)) ⟨AG,K,⟨AG⟩,⟨AG⟩⟩ ?_
 clear F K;rintro⟨b,Bn⟩ ⟨o,k0,e,k3⟩ l;dsimp only at*;by_cases A:b<U d.rules
 .have⟨c,f⟩:=g_ A;have r:(b:Int)<U d.rules:=z
  (repeat' (first|simp only[*,go_sem]|(refine sx ?_ ?_<;>intro j)|refine sy z λk f n=>?_|simp(disch:=first|assumption|omega) only[Ae]))
  .exact zA5
  .exact zA5
  .exact zA5
  .exact zA5
  refine rounds (B2:=λa:Nat×List Bool=>⟨[(1,.ptr [0,0] 0),(5,.ii [1,1] 0 (U d.ac)),(6,nI b),(7,.ptr [0,2] 0),(8,nI a.1)],[([0,0],.box [.d (.co (d.ac.map BR)),.d (.co (d.be.map BD)),.d (.co (d.rules.map BN))]),([1,1],.f9 1 (a.2.map DU)),([0,2],.box [nI c.at_,.d (.co (c.d7.map AX)),nI c.node])],3,[]⟩)
   (Inv:=λa=>a.1<=(U c.d7)/\(U a.2)=U d.ac/\AR (joinsOk d c 0 c.d7=joinsOk d c a.1 (c.d7.drop a.1))/\AR (QU (TL (U d.ac) Z) d.rules=QU ((c.d7.drop a.1).foldl SN a.2) (d.rules.drop (b+1)))) (m:=λa=>U c.d7-a.1) (a:=(0,Bn)) ⟨AG,k0,⟨AG⟩,⟨by rw[k3.1,Aq f];rfl⟩⟩ ?_
  rintro⟨i,u2⟩ ⟨j1,j0,j2,j3⟩ IH2;dsimp only at*;by_cases W:i<U c.d7
  .have⟨g,hy⟩:=g_ W;have Y:(i:Int)<U c.d7:=z;have q:AR (Ho d c i g=Z->Z=d.okR):=.mk λV=>by
    have s:joinsOk d c 0 c.d7=false:=by rw[j2.1,Aq hy,joinsOk,V,Es]
    rw[U1];rw[e.1,Aq f,EX,show Bt d c=Z by simp only[Bt,s,I5],Es]
   by_cases av:g<0
   .refine aw ?_;rw[<-q.1 (by simp only[Ho,GC (show¬0<=g by omega),Es])]
   by_cases az:(U d.ac:Int)<=g
   .refine aw ?_;rw[<-q.1 (by simp only[Ho,GC (show¬g<U d.ac by omega),Es,I5])]
   have⟨B0,hyc⟩:=g_ (l:=d.ac) (i:=g.toNat) z;have B:Ho d c i g=(decide (B0.at_=c.at_)&& !decide (g∈c.d7.take i)):=by simp only[Ho,hyc,Gt,F9,F8 (show 0<=g by omega),F8 (show g<U d.ac by omega),I4]
   have a0:0<=g:=z
   (repeat' (first|simp only[*,go_sem]|(refine sx ?_ ?_<;>intro j)|refine sy z λk f n=>?_|simp(disch:=first|assumption|omega) only[Ae]))
   .refine rounds (B2:=λm:Nat=>⟨[(1,.ptr [0,0] 0),(5,.ii [1,1] 0 (U d.ac)),(6,nI b),(7,.ptr [0,2] 0),(8,nI i),(9,nI g),(10,nI m)],[([0,0],.box [.d (.co (d.ac.map BR)),.d (.co (d.be.map BD)),.d (.co (d.rules.map BN))]),([1,1],.f9 1 (u2.map DU)),([0,2],.box [nI c.at_,.d (.co (c.d7.map AX)),nI c.node])],3,[]⟩)
     (Inv:=λm=>m<=i/\AR (g∉c.d7.take m)) (m:=λm=>i-m) (a:=0) ⟨AG,⟨AG⟩⟩ ?_
    rintro m ⟨a1,L⟩ N;by_cases n:m<i
    .have⟨v,hv⟩:=g_ (l:=c.d7) (i:=m) z;have aa:(m:Int)<i:=z;have ai:c.d7.take (m+1)=c.d7.take m++[v]:=by rw[FD,hv];rfl
     (repeat' (first|simp only[*,go_sem]|(refine sx ?_ ?_<;>intro j)|refine sy z λk f n=>?_|simp(disch:=first|assumption|omega) only[Ae]))
     .have:g∈c.d7.take i:=by
       rw[<-j];have:(c.d7.take i)[m]?=J v:=by rw[List.getElem?_take_of_lt n,hv]
       exact AP this
      rw[<-q.1 (by rw[B,F8 this];simp)]
     .refine N.1 (m+1) z ⟨z,⟨?_⟩⟩;rw[ai];simp only[Ac,AS,not_or];exact⟨L.1,λh=>by simp_all⟩
    .have aa:¬(m:Int)<i:=z;have D:g.toNat<U d.ac:=z;have⟨M,ht⟩:=g_ (l:=u2) (i:=g.toNat) z;have ac:m=i:=z;subst ac;refine aw ?_;have Q:(u2.map DU).set g.toNat [Au.bool X]=(SN u2 g).map DU:=by rw[SN,I2];rfl
     rw[Q];refine IH2.1 (m+1,SN u2 g) AZ ⟨AZ,by simp[SN,j0],⟨?_⟩,⟨?_⟩⟩
     .dsimp only;rw[j2.1,Aq hy,joinsOk,B,F8 CM,GC L.1];rfl
     .dsimp only;rw[j3.1,Aq hy,OS]
   .rw[<-q.1 (by rw[B,GC CM,Es])]
  .have Y:¬(i:Int)<U c.d7:=z;refine aw ?_;refine l.1 (b+1,u2) AZ ⟨AZ,j0,⟨?_⟩,⟨?_⟩⟩
   .dsimp only;rw[e.1,Aq f,EX,show Bt d c=X by rw[D7 z]at j2;simp only[Bt,j2.1,joinsOk];simp;omega,I4]
   .dsimp only;rw[j3.1,D7 z];rfl
 .have r:¬(b:Int)<U d.rules:=z;refine aw ?_;have ag:d.rules.all (Bt d)=true:=by rw[e.1,D7 z];rfl
  have t:QU (TL (U d.ac) Z) d.rules=Bn:=by rw[k3.1,D7 z];rfl
  refine rounds (B2:=λb:Nat=>⟨[(5,.ii [1,0] 0 (U d.ac)),(11,nI b)],[([1,0],.f9 1 (Bn.map DU))],1,[]⟩)
   (Inv:=λb=>b<=(U d.ac)/\AR (Bn.all id=(Bn.drop b).all id)) (m:=λb=>U d.ac-b) (a:=0) ⟨AG,⟨AG⟩⟩ ?_
  clear o e k3 l A r b;rintro b ⟨o,e⟩ l;have t:=AB t;by_cases A:b<U d.ac
  .have⟨M,ht⟩:=g_ (l:=Bn) (i:=b) z;have r:(b:Int)<U d.ac:=z;cases M
   .refine aw ?_;rw[AMs (by rw[t.1,e.1,Aq ht,EX];rfl)]
   .refine aw (l.1 (b+1) z ⟨z,⟨?_⟩⟩);rw[e.1,Aq ht,EX];rfl
  .have r:¬(b:Int)<U d.ac:=z;have T:Bn.all id=true:=by rw[e.1,D7 z];rfl
   refine aw ?_;rw[show d.okR=X by simp only[Bc.okR,x,H,ag,t.1,T,F8 O,F8 C,F8 P,Bool.and_self]]
def DM(op:Int):Option Nat:=
 if op=1 then J 0 else if op=7 then J 0 else if op=3 then J 2 else if op=2 then J 0 else if op=5 then J 2
 else if op=6 then J 1 else if op=8 then J 1 else if op=4 then J 1 else I
def Ft(x:CF):Bool:=if x.op=2 then decide (U x.args<=3)else if x.op=5 then decide (U x.args=1)else decide (U x.args=0)
def bz(p:Aa)(size:Int)(x:CF):Bool:=if x.op=2\/x.op=6\/x.op=8 then decide (0<=x.n/\x.n<size)else if x.op=4 then decide (0<=x.n/\x.n<U p.defs)else decide (x.n=0)
def Cq(p:Aa)(size:Int)(x:CF):Bool:=decide (DM x.op=J (U x.kids))&&(bz p size x&&(Ft x&&x.args.all (Bz.ok size)))
structure Bo:=
 em:Al
 met:List Bool
 defs:List Bool
def Cu(a:Int->Int->Bo->Option Bo):List (Int×Int)->Bo->Option Bo
 |[],st=>J st|(n,s)::l,st=>match a n s st with|some b=>Cu a l b|none=>I
def DD(d:Bc)(size:Int)(l:List C6):List (Int×Int):=l.map λr=>(r.node,size+B9 d r.d7)
def Cr(size:Int)(l:List Dy):List (Int×Int):=l.map λs=>(s.node,size)
def Cg(size:Int)(l:Al):List (Int×Int):=l.map λk=>(k,size)
def WI(c:Aa)(size:Int)(a:CF)(b:Bo):Option (List (Int×Int)×Bo):=
 if a.op=4 then match c.defs[a.n.toNat]? with|some d=>if b.defs[a.n.toNat]?=J Z/\d.okG=X then J (DD d (size+d.own) d.rules++(Cr (size+d.own) d.be++Cg (size+d.own) a.kids),{b with defs:=b.defs.set a.n.toNat X})else I|none=>I
 else J (Cg size a.kids,b)
def Bo.meet(a:Bo)(b size:Int):Bo:={a with em:=a.em.set b.toNat size,met:=a.met.set b.toNat X}
def Bb(p:Aa):Nat->Int->Int->Bo->Option Bo
 |0,_,_,_=>I
 |k+1,n,size,st=>
  if 0<=n/\st.met[n.toNat]?=J Z then
   match p.nodes[n.toNat]? with
   |some x=>if Cq p size x=X then match WI p size x (st.meet n size)with|some (l,st2)=>Cu (Bb p k) l st2|none=>I
    else I
   |none=>I
  else I
def pj(a b:ByteArray):Bool:=Op.bytesLess a.toList b.toList
def KZ:Option ByteArray->List ByteArray->Bool
 |_,[]=>X|b,a::l=>GQ a&&((match b with|some b=>pj b a|none=>X)&&KZ (J a) l)
def N7(l:List ByteArray):Bool:=KZ I l
def Aa.small(p:Aa):Bool:=decide (U p.free<=12)&&(decide (U p.nodes<=60)&&decide (U p.defs<=12))
def Bo.init(p:Aa):Bo:=⟨TL (U p.nodes) 0,TL (U p.nodes) Z,TL (U p.defs) Z⟩
def looks(a:Aa):Option Bo:=
 if a.small=X/\N7 a.free=X then match Bb a (U a.nodes+1) a.main (U a.free) (Bo.init a)with|some b=>if b.met.all id=X/\b.defs.all id=X then J b else I|none=>I
 else I
structure Bo.fit(p:Aa)(st:Bo):Prop:=
 em:U st.em=U p.nodes
 met:U st.met=U p.nodes
 defs:U st.defs=U p.defs
def Ga(l:List Bool):Nat:=l.count Z
theorem HH:∀{l:List Bool} {n:Nat},l[n]?=J Z->Ga (l.set n X)+1=Ga l
 :=by grind [Ga]
def QT(l:List Bool):Ga l<=(U l):=List.count_le_length
def TW{a:Aa}{b:Bo}(h:b.fit a)(c size:Int):(b.meet c size).fit a:=⟨by simp[Bo.meet,h.em],by simp[Bo.meet,h.met],by simp[Bo.meet,h.defs]⟩
variable{c:Bo}{l:List (Int×Int)}
theorem ly{b:Aa}{size:Int}{e:CF}{a:Bo}(h:WI b size e a=J (l,c)):c.em=a.em/\c.met=a.met/\(U c.defs)=U a.defs:=by grind [WI]
variable{f:Int->Int->Bo->Option Bo}
theorem aq{R:Bo->Bo->Prop}(m:∀a,R a a)(n:∀e b g,R e b->R b g->R e g)(k:∀h i a c,f h i a=J c->R a c):∀{l:List (Int×Int)} {a c:Bo},Cu f l a=J c->R a c
 :=by intro j;induction j<;>grind [Cu]
structure yD(st d9:Bo):Prop:=
 em:U d9.em=U st.em
 met:U d9.met=U st.met
 defs:U d9.defs=U st.defs
 less:Ga d9.met<=Ga st.met
def C1(n:Aa):∀(k:Nat) (m size:Int) (f e:Bo),Bb n k m size f=J e->yD f e
 |0,m,size,f,e,h=>by cases h|k+1,m,size,f,e,h=>by
  rw[Bb]at h;split at h
  .rename_i o;split at h
   .rename_i t s;split at h
    .split at h
     .rename_i l c a;have i:=ly a;have j:yD c e:=aq (R:=yD) (λf=>⟨rfl,rfl,rfl,D4 _⟩) (λp b q g a=>⟨a.1.trans g.1,a.2.trans g.2,a.3.trans g.3,HE a.4 g.4⟩) (C1 n k) h;have r:=HH o.2;refine⟨j.1.trans ?_,j.2.trans ?_,j.3.trans ?_,HE j.4 ?_⟩
      .rw[i.1];simp[Bo.meet]
      .rw[i.2.1];simp[Bo.meet]
      .rw[i.2.2];simp[Bo.meet]
      .rw[i.2.1];simp only[Bo.meet];omega
     .cases h
    .cases h
   .cases h
  .cases h
def Hv(p:Aa)(size:Int)(x:CF):Option (List (Int×Int)):=
 if x.op=4 then match p.defs[x.n.toNat]? with|some d=>if d.okG=X then J (DD d (size+d.own) d.rules++(Cr (size+d.own) d.be++Cg (size+d.own) x.kids))else I|none=>I
 else J (Cg size x.kids)
theorem Ny{d:Bc}(h:∀c∈d.ac,0<=c.many/\c.many<=3):∀l:Al,0<=B9 d l/\B9 d l<=3*U l
 :=by intro x;induction x<;>grind [B9]
structure VS(d:Bc):Prop:=
 ac:U d.ac<=30
 be:U d.be<=30
 rules:U d.rules<=30
 chan:∀c∈d.ac,0<=c.at_/\c.at_<=(U d.be)/\0<=c.many/\c.many<=3
 spot:EG 0 d.be=X
 pp:∀r∈d.rules,Bt d r=X
 stands:(Hj [] d.rules).length=U d.ac
theorem U0{d:Bc}(h:d.okG=X):VS d:=by simp[Bc.okG,Da]at h;obtain⟨e,f,g,b,i,j,k⟩:=h;exact⟨e,f,g,λa c=>⟨(b a c).1.1,(b a c).1.2,(b a c).2.1,(b a c).2.2⟩,i,j,k⟩
variable{r:C6}
theorem Jl{d:Bc}:∀{e:Nat} {l:Al},joinsOk d r e l=X->∀a∈l,0<=a/\a<U d.ac
 |e,[],h=>AG|e,c::l,h=>by
  intro a b;rw[joinsOk,As]at h;rcases Cs.1 b with rfl|b
  .grind [Ho]
  .exact Jl h.2 a b
def SG{d:Bc}(h:VS d)(c:r∈d.rules):d.joinsOk r:=by have:=h.pp r c;simp[Bt]at this;exact⟨this.2.2.1,Jl this.2.2.2,λa b=>(h.chan a b).2.2⟩
theorem Yu{d:Bc}(h:VS d):d.own<=60:=by have:=h.ac;have:=h.be;unfold Bc.own;omega
theorem ACG{g:Aa}{size:Int}{i:CF}(h:Hv g size i=J l):∀c∈l,size<=c.2/\c.2<=size+70:=by
 unfold Hv at h;split at h
 .split at h
  .rename_i d j;split at h
   .rename_i a;cases h;have a:=U0 a;have k:=Yu a;intro c f;simp[DD,Cr,Cg]at f;rcases f with⟨r,b,rfl⟩|⟨r,b,rfl⟩|⟨r,b,rfl⟩
    .have e:=SG a b;have:=Ny e.2.2 r.d7;have:=e.1;dsimp only;omega
    .dsimp only;omega
    .dsimp only;omega
   .cases h
  .cases h
 grind [Cg]
def Bo.has(b:Bo)(a:Int×Int):Prop:=0<=a.1/\b.met[a.1.toNat]?=J X/\b.em[a.1.toNat]?=J a.2
structure qa(p:Aa)(st:Bo)(i:Nat)(x:CF):Prop:=
 met:st.met[i]?=J X
 ex:∃s l,st.em[i]?=J s/\0<=s/\s<=5000/\Cq p s x=X/\Hv p s x=J l/\∀q∈l,st.has q
structure YA(p:Aa)(st d9:Bo):Prop:=
 pm:∀i:Nat,st.met[i]?=J X->d9.met[i]?=J X/\d9.em[i]?=st.em[i]?
 qr:∀(i:Nat) (x:CF),d9.met[i]?=J X->st.met[i]? ≠J X->p.nodes[i]?=J x->qa p d9 i x
 defs:∀i:Nat,st.defs[i]?=J X->d9.defs[i]?=J X
 news:∀(i:Nat) (x:CF),d9.met[i]?=J X->st.met[i]? ≠J X->p.nodes[i]?=J x->x.op=4->st.defs[x.n.toNat]? ≠J X/\d9.defs[x.n.toNat]?=J X
 used:∀n:Nat,d9.defs[n]?=J X->st.defs[n]? ≠J X->∃(i:Nat) (x:CF),p.nodes[i]?=J x/\x.op=4/\x.n.toNat=n
 diff:∀(i j:Nat) (x B0:CF),i≠j->d9.met[i]?=J X->st.met[i]? ≠J X->p.nodes[i]?=J x->x.op=4->d9.met[j]?=J X->st.met[j]? ≠J X->p.nodes[j]?=J B0->B0.op=4->x.n.toNat≠B0.n.toNat
variable{a:Bo}
theorem uH{j:Aa}{c:Bo}{b:Int×Int}(h:c.has b)(i:YA j c a):a.has b:=by obtain⟨e,f,g⟩:=h;have:=i.pm _ f;exact⟨e,this.1,by rw[this.2,g]⟩
def AJb{b:Aa}{f:Bo}{e:Nat}{g:CF}(h:qa b f e g)(c:YA b f a):qa b a e g:=by obtain⟨j,s,l,k,i,p,m,n,o⟩:=h;have:=c.pm _ j;exact⟨this.1,s,l,by rw[this.2,k],i,p,m,n,λr q=>uH (o r q) c⟩
theorem AC5(g:Aa)(e:Bo):YA g e e:=⟨λc h=>⟨h,rfl⟩,λc f a b=>absurd a b,λc h=>h,λc f a b=>absurd a b,λj a b=>absurd a b,λc i f k h a b=>absurd a b⟩
theorem yI{v:Aa}{w b x:Bo}(g:YA v w b)(c:YA v b x):YA v w x:=by
 refine⟨λa h=>?_,λa f l m e=>?_,λa h=>c.defs a (g.defs a h),λa f l m e K=>?_,λt l m=>?_,λa j f r B C D e o F H q p=>?_⟩
 .have s:=g.pm a h;have A:=c.pm a s.1;grind
 .by_cases i:b.met[a]?=J X
  .exact AJb (g.qr a f i m e) c
  .exact c.qr a f l i e
 .by_cases i:b.met[a]?=J X
  .have:=g.news a f i m e K;exact⟨this.1,c.defs _ this.2⟩
  .have:=c.news a f l i e K;exact⟨λL=>this.1 (g.defs _ L),this.2⟩
 .by_cases i:b.defs[t]?=J X
  .exact g.used t i m
  .exact c.used t l i
 .by_cases n:b.met[a]?=J X
  .by_cases k:b.met[j]?=J X
   .exact g.diff a j f r B n D e o k H q p
   .have s:=g.news a f n D e o;have A:=c.news j r F k q p;grind
  .by_cases k:b.met[j]?=J X
   .have s:=g.news j r k H q p;have A:=c.news a f C n e o;grind
   .exact c.diff a j f r B C n e o F k q p
structure bA(st:Bo)(Bn:Nat):Prop:=
 len:U st.em=U st.met
 less:Ga st.met<=Bn
def zO{i:Aa}{c:Nat}(k:∀(h g:Int) (b a:Bo),bA b c->0<=g->g+70*c<=5000->f h g b=J a->YA i b a/\a.has (h,g)/\bA a c):∀{l:List (Int×Int)} {b a:Bo},bA b c->(∀e∈l,0<=e.2/\e.2+70*c<=5000)->Cu f l b=J a->YA i b a/\(∀e∈l,a.has e)/\bA a c
 :=by intro j;induction j<;>grind [AC5,Cu,yI,uH]
theorem bZ{f:Aa}{size:Int}{a:CF}{e:Bo}(h:WI f size a e=J (l,c)):Hv f size a=J l/\c.em=e.em/\c.met=e.met/\(∀b:Nat,e.defs[b]?=J X->c.defs[b]?=J X)/\(a.op=4->e.defs[a.n.toNat]? ≠J X/\c.defs[a.n.toNat]?=J X)/\∀b:Nat,c.defs[b]?=J X->e.defs[b]? ≠J X->a.op=4/\a.n.toNat=b:=by
 unfold WI at h;unfold Hv;split at h
 .rename_i g;rw[D3 g];split at h
  .grind
  .cases h
 grind
theorem dP(B:Aa):∀(A:Nat) (e size:Int) (i a:Bo) (g:Nat),bA i g->0<=size->size+70*g<=5000->Bb B A e size i=J a->YA B i a/\a.has (e,size)/\bA a g
 |0,e,size,i,a,g,_,_,_,h=>by cases h|A+1,e,size,i,a,g,hb,h0,hsz,h=>by
  rw[Bb]at h;split at h
  .rename_i v;split at h
   .rename_i av p;split at h
    .rename_i aa;split at h
     .rename_i l c R;have j:=bZ R;have a1:=hb.len;have a4:=HH v.2;have a3:=hb.less;obtain⟨g,rfl⟩:∃ar,g=ar+1:=⟨g-1,z⟩;have T:bA c g:=⟨by grind [Bo.meet],by grind [Bo.meet]⟩;have W:=ACG j.1;have⟨ha,hl,k⟩:=zO (λe ag i a=>dP B A e ag i a g) T (λad ac=>by have:=W ad ac;omega) h;have a2:=(BE.1 v.2).1;have N:∀b,c.met[b]?=if e.toNat=b then J X else i.met[b]? :=λb=>by grind [Bo.meet]
      have ai:∀b,c.em[b]?=if e.toNat=b then J size else i.em[b]? :=λb=>by grind [Bo.meet]
      have t:=ha.pm e.toNat (by rw[N,D3 rfl]);rw[ai,D3 rfl]at t;refine⟨⟨λb n=>?_,λb m r Y f=>?_,λb n=>ha.defs b (j.2.2.2.1 b n),λb m r Y f M=>?_,λb n V=>?_,λb s m O D F az f w H a0 k x=>?_⟩,⟨v.1,t.1,t.2⟩,k.1,Nat.le_succ_of_le k.2⟩
      .have o:e.toNat≠b:=λq=>by grind
       have:=ha.pm b (by rw[N,Co o,n]);grind
      .by_cases o:e.toNat=b
       .subst o;rw[p]at f;cases f;exact⟨r,size,l,t.2,h0,z,aa,j.1,hl⟩
       .exact ha.qr b m r zCN f
      .by_cases o:e.toNat=b
       .subst o;rw[p]at f;cases f;have:=j.2.2.2.2.1 M;exact⟨this.1,ha.defs _ this.2⟩
       .have:=ha.news b m r zCN f M;exact⟨λq=>this.1 (j.2.2.2.1 _ q),this.2⟩
      .by_cases C:c.defs[b]?=J X
       .have:=j.2.2.2.2.2 b C V;exact⟨_,av,p,this⟩
       .exact ha.used b n C
      .by_cases K:e.toNat=b
       .have L:e.toNat≠s:=λq=>D (K.symm.trans q);subst K;rw[p]at f;cases f;have P:=j.2.2.2.2.1 w;have Q:=ha.news s O H zCN k x;grind
       .by_cases L:e.toNat=s
        .subst L;rw[p]at k;cases k;have P:=j.2.2.2.2.1 x;have Q:=ha.news b m F zCN f w;grind
        .exact ha.diff b s m O D F zCN f w H zCN k x
     .cases h
    .cases h
   .cases h
  .cases h
structure Ar(p:Aa)(em:Al):Prop:=
 small:p.small=X
 len:U em=U p.nodes
 main:0<=p.main/\em[p.main.toNat]?=J (U p.free:Int)
 node:∀(i:Nat) (x:CF),p.nodes[i]?=J x->∃(s:Int) (l:List (Int×Int)),em[i]?=J s/\0<=s/\s<=5000/\Cq p s x=X/\Hv p s x=J l/\∀q∈l,0<=q.1/\em[q.1.toNat]?=J q.2
 used:∀n:Nat,n<U p.defs->∃(i:Nat) (x:CF),p.nodes[i]?=J x/\x.op=4/\x.n.toNat=n
 diff:∀(i j:Nat) (x B0:CF),i≠j->p.nodes[i]?=J x->x.op=4->p.nodes[j]?=J B0->B0.op=4->x.n.toNat≠B0.n.toNat
theorem dv{l:List Bool}(h:l.all id=X){a:Nat}(b:a<U l):l[a]?=J true:=by grind [List.getElem_mem]
theorem EZ{c:Aa}{f:Bo}(h:looks c=J f):Ar c f.em:=by
 unfold looks at h;split at h
 .rename_i p;split at h
  .rename_i a q;split at h
   .rename_i n;cases h;have C:=p.1;simp[Aa.small]at C;have k:=C1 c _ _ _ _ _ q;have O:=QT (Bo.init c).met;have L:(Bo.init c).met.length=U c.nodes:=by simp[Bo.init]
    have i:=dP c _ _ _ _ _ 60 ⟨by simp[Bo.init],z⟩ z z q;have M:U f.met=U c.nodes:=by rw[k.met];simp[Bo.init]
    have D:U f.em=U c.nodes:=by rw[k.em];simp[Bo.init]
    have K:U f.defs=U c.defs:=by rw[k.defs];simp[Bo.init]
    have m:∀{b g},c.nodes[b]?=J g->f.met[b]?=J true:=λ{b g} e=>dv n.1 zCN;have j:∀b:Nat,(Bo.init c).met[b]? ≠J true:=λb=>by grind [Bo.init]
    have w:∀b:Nat,(Bo.init c).defs[b]? ≠J true:=λb=>by grind [Bo.init]
    refine⟨p.1,D,⟨i.2.1.1,i.2.1.2.2⟩,λb g e=>?_,λt N=>i.1.used t (dv n.2 z) (w t),λb F g H x e A r B=>i.1.diff b F g H x (m e) (j _) e A (m r) (j _) r B⟩;have⟨_,s,l,h1,hp,hb,h2,h3,h4⟩:=i.1.qr b g (m e) (j _) e;exact⟨s,l,h1,hp,hb,h2,h3,λv o=>⟨(h4 v o).1,(h4 v o).2.2⟩⟩
   .cases h
  .cases h
 .cases h
structure XB(n:Nat)(Bn:List Bool)(st:Al):Prop:=
 len:U Bn=n
 cnt:Ga Bn+U st=n
 mem:∀c:Int,0<=c->c<n->(Bn[c.toNat]?=J X↔c∈st)
theorem ABw{f:Nat}{c:List Bool}{e:Al}{a:Int}(h:XB f c e)(n:0<=a)(o:a<f):XB f (SN c a) (TD e a):=by
 have v:a.toNat<U c:=by rw[h.len];omega
 have l:=h.mem a n o;have q:∀b:Int,0<=b->b<f->((SN c a)[b.toNat]?=J X↔b=a\/c[b.toNat]?=J X):=λb i j=>by grind [SN]
 rcases hu:c[a.toNat]? with _|s
 .grind
 .rcases s with _|_
  .have r:a∉e:=λk=>by rw[l.2 k]at hu;simp at hu
   have g:TD e a=e++[a]:=by rw[TD,Co r]
   have k:=HH hu;have t:=h.cnt;refine⟨by simp[SN,h.len],?_,λb i j=>?_⟩
   .grind [SN]
   .rw[q b i j,g,h.mem b i j];simp[or_comm]
  .have p:=l.1 hu;have g:TD e a=e:=by rw[TD,D3 p]
   have m:SN c a=c:=by
    apply Lt;intro w;rw[SN,F7];split
    .grind
    .rfl
   rw[m,g];exact h
theorem pG{a:Nat}:∀{l:Al} {e:List Bool} {c:Al},XB a e c->(∀b∈l,0<=b/\b<a)->XB a (l.foldl SN e) (l.foldl TD c)
 :=by intro f;induction f<;>grind [ABw]
def Vy{e:Nat}:∀{l:List C6} {c:List Bool} {a:Al},XB e c a->(∀r∈l,∀f∈r.d7,0<=f/\f<e)->XB e (QU c l) (Hj a l)
 |[],c,a,h,_=>h|r::l,c,a,h,hc=>by have g:QU c (r::l)=QU (r.d7.foldl SN c) l:=rfl;have i:Hj a (r::l)=Hj (r.d7.foldl TD a) l:=rfl;rw[g,i];exact Vy (pG h (hc r AG)) (λb j=>hc b (By _ j))
theorem yM:∀l:List Bool,l.all id=decide (Ga l=0)
 :=by intro x;induction x<;>grind [Ga]
theorem AOd(d:Bc):d.okR=d.okG:=by
 unfold Bc.okR Bc.okG;by_cases e:d.rules.all (Bt d)=X
 .have b:XB (U d.ac) (TL (U d.ac) Z) []:=⟨AG,by simp[Ga],λa b g=>by simp[List.getElem?_replicate]⟩;have h:=Vy (l:=d.rules) b (λr f a c=>by have:=EM.1 e r f;simp only[Bt,As]at this;exact Jl this.2.2.2 a c)
  have c:=h.cnt;grind [yM]
 grind
end Go.Proofs
namespace Go.Proofs
open Abs Tryz
def TE(a:Al)(c:CF):Int:=((c.kids[0]?).map λb=>(a[b.toNat]?).getD 0).getD 0
def S9(a:Al):Al->List CF->Al
 |out,[]=>out|out,x::l=>S9 a (if x.op=4 then out.set x.n.toNat (TE a x)else out) l
def OB(a:Aa)(b:Al):Al:=S9 b (TL (U a.defs) 0) a.nodes
def TA(i:Al)(c:Nat)(h:Int):∀(f:List CF) (out:Al),c<U out->(∀a∈f,a.op=4->a.n.toNat=c->TE i a=h)->(out[c]?=J h\/∃a∈f,a.op=4/\a.n.toNat=c)->(S9 i out f)[c]?=J h
 |[],out,hn,h1,h2=>by
  rcases h2 with g|⟨a,b,_⟩
  .exact g
  .cases b
 |a::f,out,hn,h1,h2=>by
  rw[S9];refine TA i c h f _ (by split<;>simpa using hn) (λj e=>h1 j (By _ e)) ?_;by_cases b:a.op=4/\a.n.toNat=c
  .left;rw[D3 b.1,F7,D3 b.2,b.2,D3 hn,h1 a AG b.1 b.2]
  .rcases h2 with g|⟨j,e,k⟩
   .left;split
    .rename_i m;rw[F7,Co λl=>b ⟨m,l⟩];exact g
    .exact g
   .rcases Cs.1 e with rfl|e
    .exact absurd k b
    .exact .inr ⟨j,e,k⟩
structure AH3(p:Aa)(em:Al)(n:Nat)(d:Bc):Prop:=
 ok:VS d
 node:∃(i:Nat) (x:CF) (s:Int),p.nodes[i]?=J x/\x.op=4/\x.n.toNat=n/\em[i]?=J s/\0<=s/\s<=5000/\(OB p em)[n]?=J (s+d.own)/\(∀r∈d.rules,0<=r.node/\em[r.node.toNat]?=J (s+d.own+B9 d r.d7))/\(∀B0∈d.be,0<=B0.node/\em[B0.node.toNat]?=J (s+d.own))/\∃k,x.kids=[k]/\0<=k/\em[k.toNat]?=J (s+d.own)
theorem Bd{f:Aa}{c:Al}(g:Ar f c){e:Nat}{d:Bc}(k:f.defs[e]?=J d):AH3 f c e d:=by
 have m:=(BE.1 k).1;have⟨i,x,hx,hxo,hxn⟩:=g.used e m;have⟨s,l,hs,h0,hb,hok,hl,hq⟩:=g.node i x hx;have b:=hl;rw[Hv,D3 hxo,hxn,k]at b;dsimp only at b;split at b
 .rename_i q;cases b;have v:∃a,x.kids=[a]:=by
   simp only[Cq,As,Dl]at hok;have:=hok.1;rw[hxo]at this;simp only[DM]at this;have:U x.kids=1:=by simpa using this.symm
   match h:x.kids,this with|[a],_=>exact⟨a,rfl⟩
  obtain⟨a,h⟩:=v;have w:0<=a/\c[a.toNat]?=J (s+d.own):=hq (a,s+d.own) (by simp[Cg,h]);refine⟨U0 q,i,x,s,hx,hxo,hxn,hs,h0,hb,?_,λp C=>?_,λj n=>?_,a,h,w⟩
  .refine TA c e _ f.nodes _ zC2 (λj n B A=>?_) (.inr ⟨x,AP hx,hxo,hxn⟩);obtain⟨o,t⟩:=Ci n;by_cases r:i=o
   .grind [TE]
   .exact absurd (hxn.trans A.symm) (g.diff i o x j r hx hxo t B)
  .exact hq (p.node,s+d.own+B9 d p.d7) (by grind [DD])
  .exact hq (j.node,s+d.own) (by grind [Cr])
 .cases b
def Az.own(d:Bc)(a:Az)(b:Bool)(c:Int):Int:=((a.env[U a.env-U d.be-(if b then (U d.ac) else 0)+c.toNat]?).map C4.n).getD 0
def Az.place(d:Bc)(g:Az)(n:Int):Int:=if n=0 then g.at_ else g.own d Z (n-1)
def A8(l:List CD)(i:Int):Bool:=((l[i.toNat]?).map CD.dead).getD Z
def P1(e:Aa)(b c:Nat)(many:Int)(a:List C4):Bool:=decide ((U a:Int)=many)&&a.all (C4.inB e b c)
def wC(h:Aa)(b:BP)(d:Bc)(e:Az)(f g:Nat)(a:Fc)(c:HJ):Bool:=decide (a.group=f)&&(decide (a.index=g)&&(decide (a.at_=e.place d c.at_)&&(decide (U a.queue<=12)&&((decide (U a.queue=0)|| !A8 b.be a.at_)&&a.queue.all (P1 h (U b.ac) (U b.be) c.many)))))
def jO(h:Aa)(a:BP)(d:Bc)(e:Az)(f g b:Nat)(c:HJ):Bool:=match a.ac[b]? with|some q=>wC h a d e f g q c|none=>Z
def Rl(p:Aa)(s:BP)(d:Bc)(g:Az)(i c:Nat):Nat->List HJ->Bool
 |_,[]=>X|j,ch::l=>jO p s d g i j (c+j) ch&&Rl p s d g i c (j+1) l
def Hp(c k:Nat)(d:Bc):List C4:=(List.range' c (U d.ac)).map (λ(j:Nat)=>⟨3,(j:Int)⟩)++(List.range' k (U d.be)).map (λ(j:Nat)=>⟨4,(j:Int)⟩)
def Lx(d:Bc)(c k:Nat)(g:Az):Bool:=decide (g.env.drop (U g.env-U d.ac-U d.be)=Hp c k d)
def wg(e:Aa)(f:Al)(b:BP)(g c h:Nat)(a:Az)(d:Bc):Bool:=decide (Jd b.be a.at_)&&(decide ((U a.env:Int)=(f[a.ip.toNat]?).getD 0)&&(a.env.all (C4.inB e (U b.ac) (U b.be))&&(Lx d c h a&&Rl e b d a g c 0 d.ac)))
def Aa.def? (p:Aa)(n:Int):Option Bc:=if 0<=n then p.defs[n.toNat]? else I
def Pq(b:Aa)(e:Al)(a:BP):Nat->Nat->Nat->List Az->Bool
 |_,c,k,[]=>decide (c=U a.ac)&&decide (k=U a.be)|i,c,k,g::l=>match b.def? g.ip with|some d=>wg b e a i c k g d&&Pq b e a (i+1) (c+U d.ac) (k+U d.be) l|none=>Z
def Ov(op:Int):Bool:=decide (op=6)||(decide (op=7)||decide (op=8))
def Hx(c:Aa)(e:Al)(b:BP)(a:IK):Bool:=decide (Jd b.be a.at_)&&(!A8 b.be a.at_&&(decide (0<=a.node)&&((match c.nodes[a.node.toNat]? with|some x=>Ov x.op|none=>Z)&&(decide ((U a.env:Int)=(e[a.node.toNat]?).getD 0)&&a.env.all (C4.inB c (U b.ac) (U b.be))))))
def Xi(l:List CD):List CD->Bool
 |[]=>X|x::m=>(x.dead|| !A8 l x.in_)&&Xi l m
def BP.small(s:BP):Bool:=decide (U s.be<=24)&&(decide (U s.bv<=40)&&(decide (U s.ac<=60)&&decide (U s.waits<=40)))
def xh(b:Aa)(c:Al)(a:BP):Bool:=a.small&&(p6 a.be&&(Xi a.be (a.be.drop 1)&&(Pq b (OB b c) a 0 0 1 a.bv&&a.waits.all (Hx b c a))))
end Go.Proofs
namespace Go.Proofs
open Abs Tryz
theorem FI{j:Aa}{f:Al}(m:Ar j f){k:Nat}{a:CF}(o:j.nodes[k]?=J a)(g:a.op=4):0<=a.n/\a.n<U j.defs/\∃b h,a.kids=[b]/\0<=b/\f[b.toNat]?=J h/\TE f a=h/\0<=h/\h<=5070:=by
 have⟨s,l,hs,h0,hb,hok,hl,hq⟩:=m.node k a o;simp only[Cq,As,Dl]at hok;have e:=hok.2.1;rw[bz,Co (by rw[g];decide),D3 g]at e;have e:=of_decide_eq_true e;refine⟨e.1,e.2,?_⟩;have i:=hok.1;rw[g]at i;simp only[DM]at i;have n:U a.kids=1:=by simpa using i.symm
 match hkk:a.kids,n with
 |[b],_=>
  have c:=hl;rw[Hv,D3 g]at c;split at c
  .rename_i d p;split at c
   .rename_i q;cases c;have r:0<=b/\f[b.toNat]?=J (s+d.own):=hq (b,s+d.own) (by simp[Cg,hkk]);grind [Yu,U0,TE]
   .cases c
  .cases c
end Go.Proofs
namespace Go.Proofs
open Abs Tryz
theorem SC(c k:Nat)(d:Bc):(Hp c k d).length=d.own:=by simp[Hp,Bc.own]
variable{j:Nat}
theorem Ma(c k:Nat)(d:Bc)(h:j<U d.ac):(Hp c k d)[j]?=J ⟨3,(c:Int)+(j:Int)⟩:=by grind [Hp]
theorem Vn(c k:Nat)(d:Bc)(h:j<U d.be):(Hp c k d)[U d.ac+j]?=J ⟨4,(k:Int)+(j:Int)⟩:=by grind [Hp]
variable{k:Nat}{g:Az}
def mw{d:Bc}{c:Nat}(h:Lx d c k g=X)(j:Nat):g.env[U g.env-U d.ac-U d.be+j]?=(Hp c k d)[j]? :=by have h:=of_decide_eq_true h;rw[<-h,List.getElem?_drop]
def AA9{d:Bc}{a:Nat}(b:Lx d a k g=X)(c:j<U d.ac):g.env[U g.env-U d.ac-U d.be+j]?=J ⟨3,(a:Int)+(j:Int)⟩:=by rw[mw b,Ma _ _ _ c]
theorem bu{d:Bc}{a:Nat}(b:Lx d a k g=X)(c:d.own<=(U g.env))(e:j<U d.be):g.env[U g.env-U d.be+j]?=J ⟨4,(k:Int)+(j:Int)⟩:=by unfold Bc.own at c;have:=mw b (U d.ac+j);grind [Vn]
theorem Yx{d:Bc}{b:Nat}(c:Lx d b k g=X)(e:d.own<=(U g.env)){a:Int}(f:1<=a)(h:a<=(U d.be)):g.place d a=(k:Int)+(a-1):=by rw[Az.place,Co z,Az.own];simp only[AM,Gs,Nat.sub_zero];rw[bu c e (j:=(a-1).toNat) z];grind
theorem KG{d:Bc}{b:Nat}(c:Lx d b k g=X){a:Int}(e:0<=a)(f:a<U d.ac):g.own d X a=(b:Int)+a:=by rw[Az.own];simp;have:=AA9 c (j:=a.toNat) z;grind
theorem oI{l:Aa}{b:BP}{d:Bc}{f:Nat}(c:Lx d f k g=X)(e:d.own<=(U g.env))(p:Jd b.be g.at_)(j:g.env.all (C4.inB l (U b.ac) (U b.be))=X){a:Int}(o:0<=a)(h:a<=(U d.be)):Jd b.be (g.place d a):=by
 by_cases n:a=0
 .grind [Az.place]
 .rw[Yx c e z h];have i:=bu c e (j:=(a-1).toNat) z;have:=EM.1 j _ (AP i);simp[C4.inB]at this;have m:((a-1).toNat:Int)=a-1:=IF z;constructor
  .omega
  .omega
structure C5:=
 eq:BP
 ev:List IX
 work:Int
structure HK:=
 node:Int
 at_:Int
 env:List C4
def BF{c:Type}(b:List c)(a:Int):List c:=b.take a.toNat++b.drop (a.toNat+1)
def JI(l:List C4)(i:Int):C4:=(l[i.toNat]?).getD ⟨0,0⟩
def Ea(p:Aa)(s:BP)(q:Fc):Int:=(((s.bv[q.group.toNat]?).bind λg=>(p.defs[g.ip.toNat]?).bind λd=>d.ac[q.index.toNat]?).map HJ.many).getD 0
def ae(s:BP)(n:Int)(q:Fc)(l:List C4):Option BP:=if (U q.queue)<12 then J {s with ac:=s.ac.set n.toNat {q with queue:=q.queue++[l]}}else I
def SI(p:Aa)(s:BP)(n:Int)(l:List C4):Option BP:=match s.ac[n.toNat]? with|some q=>if A8 s.be q.at_=Z/\Ea p s q=U l then ae s n q l else J s|none=>J s
def AQX(at_ n:Int)(l:List C4):IX:=⟨5,at_,n,0,l⟩
def Fw(c:Aa)(b:CF)(j:HK)(a:C5):Option C5:=
 let l:=b.args.map (·.value j.env)
 let to:=JI j.env b.n
 if to.kind=2 then J {a with ev:=a.ev++[AQX j.at_ to.n l]}
 else if to.kind=3 then(SI c a.eq to.n l).map λe=>{a with eq:=e}else J a
def Ev(d:Bc)(g:Az)(i:Nat):Nat->List HJ->List Fc
 |_,[]=>[]|k,c::l=>⟨i,k,g.place d c.at_,[]⟩::Ev d g i (k+1) l
def EU(d:Bc)(g:Az)(l:List Dy):List CD:=l.map λB0=>⟨g.place d B0.in_,Z⟩
def Aj(s:BP)(d:Bc)(n:Int)(j:HK):Az:=⟨n,j.at_,j.env++Hp (U s.ac) (U s.be) d⟩
def CA(s:BP)(d:Bc)(g:Az):BP:={s with bv:=s.bv++[g],ac:=s.ac++Ev d g (U s.bv) 0 d.ac,be:=s.be++EU d g d.be}
def DH(d:Bc)(g:Az):Nat->List Dy->List HK
 |_,[]=>[]|k,B0::l=>⟨B0.node,g.place d (k+1),g.env⟩::DH d g (k+1) l
def Bj(x:CF)(k:Nat)(at_:Int)(env:List C4):List HK:=match x.kids[k]? with|some n=>[⟨n,at_,env⟩]|none=>[]
def Kh(c:Aa)(b:CF)(j:HK)(a:C5):Option (C5×List HK):=match c.defs[b.n.toNat]? with
 |some d=>
  let g:=Aj a.eq d b.n j
  let s:=CA a.eq d g
  if (U s.ac)<=60/\(U s.be)<=24/\(U s.bv)<=40 then J ({a with eq:=s},DH d g 0 d.be++Bj b 0 j.at_ g.env)else I
 |none=>I
def lj(x:CF)(env:List C4):Nat:=match x.args[0]? with|some e=>if (e.value env).kind=1/\(e.value env).n≠0 then 0 else 1|none=>1
def Gz(j:HK)(a:C5):Option C5:=if (U a.eq.waits)<40 then J {a with eq:={a.eq with waits:=a.eq.waits++[⟨j.at_,j.node,j.env⟩]}}else I
def MR(c:Aa)(j:HK)(b:C5):Option (C5×List HK):=match c.nodes[j.node.toNat]? with
 |some a=>
  if a.op=2 then(Fw c a j b).map λb=>(b,[])
  else if a.op=3 then J (b,Bj a 0 j.at_ j.env++Bj a 1 j.at_ j.env)
  else if a.op=4 then Kh c a j b
  else if a.op=5 then J (b,Bj a (lj a j.env) j.at_ j.env)
  else if Ov a.op=X then(Gz j b).map λb=>(b,[])
  else J (b,[])
 |none=>I
def EY(f:HK->C5->Option C5):List HK->C5->Option C5
 |[],st=>J st|j::l,st=>(f j st).bind (EY f l)
def Rn(f:HK->C5->Option C5):Option (C5×List HK)->Option C5
 |some (st,js)=>EY f js st|none=>I
def KQ(p:Aa):Nat->HK->C5->Option C5
 |0,_,_=>I|k+1,j,st=>if st.work<400 then Rn (KQ p k) (MR p j {st with work:=st.work+1})else I
def ws(p:Aa)(s:BP)(w:IK):Bool:=match p.nodes[w.node.toNat]? with
 |some x=>if x.op=7 then X else
  let v:=JI w.env x.n
  if v.kind=4 then(if x.op=8 then A8 s.be v.n else decide (w.at_≠0)&&(!A8 s.be v.n&& !EN s.be v.n w.at_))else Z
 |none=>Z
def GN(p:Aa)(s:BP):Nat->List IK->List Dk
 |_,[]=>[]|i,w::l=>(if ws p s w=X then [⟨i,0,0,[]⟩]else [])++GN p s (i+1) l
def Dq:u->List Al
 |[]=>[[]]|n::l=>(WO n).flatMap λ(i:Nat)=>(Dq l).map λt=>(i:Int)::t
def QB(s:BP)(c:Int):Nat:=((s.ac[c.toNat]?).map λq=>U q.queue).getD 0
def Cw(s:BP)(d:Bc)(g:Az)(r:C6):u:=r.d7.map λc=>QB s (g.own d X c)
def Jr(s:BP)(d:Bc)(g:Az)(r:C6):List Al:=if A8 s.be (g.place d r.at_)=X then []else Dq (Cw s d g r)
def IG(s:BP)(d:Bc)(g:Az)(i:Nat):Nat->List C6->List Dk
 |_,[]=>[]|k,r::l=>((Jr s d g r).map λt=>⟨-1,i,k,t⟩)++IG s d g i (k+1) l
def JC(p:Aa)(s:BP):Nat->List Az->List Dk
 |_,[]=>[]|i,g::l=>(match p.def? g.ip with|some d=>IG s d g i 0 d.rules|none=>[])++JC p s (i+1) l
def Ee(p:Aa)(s:BP):List Dk:=GN p s 0 s.waits++JC p s 0 s.bv
def EI(s:BP)(c:Int)(k:Int):List C4×BP:=match s.ac[c.toNat]? with|some q=>(((q.queue[k.toNat]?).getD []),{s with ac:=s.ac.set c.toNat {q with queue:=BF q.queue k}})|none=>([],s)
def BX(d:Bc)(g:Az):Al->Al->BP->List C4×BP
 |c::cs,k::ks,s=>((EI s (g.own d X c) k).1++(BX d g cs ks (EI s (g.own d X c) k).2).1,(BX d g cs ks (EI s (g.own d X c) k).2).2)|_,_,s=>([],s)
def Q5(p:Aa)(x:Dk)(d:Bc)(g:Az)(r:C6)(s:BP):Option C5:=
 let t:=BX d g r.d7 x.picks s
 let at_:=g.place d r.at_
 KQ p 401 ⟨r.node,at_,g.env++t.1⟩ ⟨t.2,[⟨1,at_,x.group,x.pp,t.1⟩],0⟩
def react(p:Aa)(s:BP)(x:Dk):Option C5:=match s.bv[x.group.toNat]? with
 |some g=>match p.defs[g.ip.toNat]? with
  |some d=>match d.rules[x.pp.toNat]? with|some r=>Q5 p x d g r s|none=>I
  |none=>I
 |none=>I
def Lk(l:List CD)(at_:Int):Nat->List CD->List CD
 |_,[]=>[]|i,x::m=>{x with dead:=x.dead||EN l i at_}::Lk l at_ (i+1) m
def N3(s:BP)(at_:Int):BP:=
 let l:=Lk s.be at_ 0 s.be
 {be:=l,bv:=s.bv,ac:=s.ac.map λq=>if A8 l q.at_=X then{q with queue:=[]}else q,waits:=s.waits.filter λw=> !A8 l w.at_}
def GZ(l:List CD)(i n:Int):List CD:=match l[i.toNat]? with|some x=>l.set i.toNat {x with in_:=n}|none=>l
def MG(p:Aa)(s:BP)(w:IK)(x:CF):Option C5:=
 let n:=(JI w.env x.n).n
 if x.op=7 then J ⟨N3 s w.at_,[⟨3,w.at_,0,0,[]⟩],0⟩
 else if x.op=6 then EY (KQ p 401) (Bj x 0 w.at_ w.env) ⟨{s with be:=GZ s.be w.at_ n},[⟨2,w.at_,n,0,[]⟩],0⟩
 else EY (KQ p 401) (Bj x 0 w.at_ w.env) ⟨s,[⟨4,w.at_,n,0,[]⟩],0⟩
def QV(p:Aa)(s:BP)(i:Int):Option C5:=match s.waits[i.toNat]? with
 |some w=>match p.nodes[w.node.toNat]? with|some x=>MG p {s with waits:=BF s.waits i} w x|none=>I
 |none=>I
def DK(p:Aa)(s:BP)(x:Dk):Option C5:=if x.wait<0 then react p s x else QV p s x.wait
def Db:BP:=⟨[⟨-1,Z⟩],[],[],[]⟩
def Dh(n:Nat):List C4:=(WO n).map λ(i:Nat)=>⟨2,(i:Int)⟩
def J1(p:Aa):Option C5:=KQ p 401 ⟨p.main,0,Dh (U p.free)⟩ ⟨Db,[],0⟩
structure vV(p:Aa)(s:BP)(q:Fc):Prop:=
 at_:Jd s.be q.at_
 g0:0<=q.group
 i0:0<=q.index
 ex:∃g d ch,s.bv[q.group.toNat]?=J g/\0<=g.ip/\p.defs[g.ip.toNat]?=J d/\d.ac[q.index.toNat]?=J ch
 len:U q.queue<=12
def AOJ(n:Int):y:=.iface 177 (.agg [nI n])
def cL(a:Bz)(size b left:Int):Prop:=(a.size:Int)<=left/\b+a.depth<=13/\a.formed size=X
def AMq(x:Bz)(size:Int):cL x size 1 60↔x.ok size=true:=by
 simp[cL,Bz.ok];constructor
 .rintro⟨h1,h2,h3⟩;exact⟨z,z,h3⟩
 .rintro⟨h1,h2,h3⟩;exact⟨z,z,h3⟩
end Go.Proofs
namespace Go.Abs
variable{P:JH}{C:C7}{K:Af}{f:Fr}{b n i:Nat}{Q:DZ->St->Prop}
variable{j:Array H0}{al:Nat->Bool}{l:List H0}{e:CN}{h:S}{k:Nat}{c:List Df}{m:List (Nat×Nat)}{o:List Fp}{a:u}{g:Option M5}
theorem gP(a:u):Jv (J a) []=true:=rfl
theorem qC(a:u)(b:u)(e:Obj)(c:S):Jv (J a) ((b,e)::c)=(AD a b&&Jv (J a) c):=rfl
theorem VM(a:u)(b c:Nat):AD a (b::c::a)=true:=under_iff.2 ⟨[b,c],rfl⟩
theorem GI{o:BC->Prop}{p:E (BC×S)}(q:∃a m,p=.ok (a,m)/\o a)(r:∀a m,o a->eN C K f j b n al l i g e h k c Q (.ok (a,m))):eN C K f j b n al l i g e h k c Q p:=zCN
theorem AKQ(a:y)(m:S):eN C K f j b n al l i g e h k c Q (.ok (.ret a,m))=(flat a=X/\JL C K f j b n al l (i+1) ⟨Dj e g a,h,k,c⟩ Q):=rfl
theorem AKP(a:y)(m:S):eN C K f j b n al l i g e h k c Q (.ok (.of a,m))=(flat a=X/\al i=X/\Q (.of a) ⟨e,h,b+n,c⟩):=rfl
def gB(C:C7)(K:Af)(f:Fr)(j:Array H0)(b n:Nat)(al:Nat->Bool)(m:List (Nat×Nat))(o:List Fp)(l:List H0)(i:Nat)(g:Option M5)(e:CN)(h:S)(k:Nat)(c:List Df)(Q:DZ->St->Prop):E (BC×S)->Prop
 |.ok (.ret v,_)=>flat v=X/\JZ C K f j b n al m (o++[⟨I,J [],X⟩]) l (i+1) ⟨Dj e g v,h,k,c⟩ Q|.ok (.of v,_)=>flat v=X/\al i=X/\E3 f.π b o m=X/\Q (.of v) ⟨e,h,b+n,c⟩|.err _=>False
theorem AFu(g:Option M5)(a:u)(q:KH)(p:List y)(r:(Fa h.get p).isNone):O2 C K f j b n al m o l i g a e h k c Q q p .ro=gB C K f j b n al m o l i g e h k c Q (K (.fn q) (QP h.get p) (h.puts (p.flatMap (mark h.get))) a X (J a)):=by
 have r:Fa h.get p=none:=zCv
 simp only[O2,Er,r,Gk,CC,Cn,Bu];cases K (.fn q) (QP h.get p) (h.puts (p.flatMap (mark h.get))) a X (J a)with|err l=>rfl|ok t=>obtain⟨s,v⟩:=t;cases s<;>simp only[Tk,gB,CQ]<;>split<;>simp_all [FZ]
theorem DB{q:BC->Prop}{r:E (BC×S)}(s:∃a p,r=.ok (a,p)/\q a)(t:∀a p,q a->gB C K f j b n al m o l i g e h k c Q (.ok (a,p))):gB C K f j b n al m o l i g e h k c Q r:=zCN
theorem AKO(a:y)(p:S):gB C K f j b n al m o l i g e h k c Q (.ok (.ret a,p))=(flat a=X/\JZ C K f j b n al m (o++[⟨I,J [],X⟩]) l (i+1) ⟨Dj e g a,h,k,c⟩ Q):=rfl
theorem AKN(a:y)(p:S):gB C K f j b n al m o l i g e h k c Q (.ok (.of a,p))=(flat a=X/\al i=X/\E3 f.π b o m=X/\Q (.of a) ⟨e,h,b+n,c⟩):=rfl
theorem AKv(a:u)(c e:Nat)(f:Obj)(b:S):Jv (J a) ((c::e::a,f)::b)=Jv (J a) b:=by grind [qC,VM]
attribute [go_sem] gP AKv AKQ AKP AFu AKO AKN
end Go.Abs
namespace Go.Proofs
open Abs Tryz
end Go.Proofs
namespace Go.Abs
end Go.Abs
namespace Go.Proofs
open Abs Tryz
def vg:List (Au×y):=[(.int .i64 2,.fn 110 [] []),(.int .i64 3,.fn 111 [] []),(.int .i64 4,.fn 112 [] []),(.int .i64 5,.fn 113 [] []),(.int .i64 6,.fn 114 [] []),(.int .i64 7,.fn 114 [] []),(.int .i64 8,.fn 114 [] [])]
def B7(x:Fc)(v:y):List y:=[nI x.group,nI x.index,nI x.at_,v]
end Go.Proofs
namespace Go.Abs
variable{P:JH}{C:C7}{K:Af}{a:Fr}{b n i:Nat}{Q:DZ->St->Prop}
variable{c:Array H0}{al:Nat->Bool}{l:List H0}{e:CN}{h:S}{f:Nat}{g:List Df}{j:List (Nat×Nat)}{k:List Fp}{o:u}{m:Option M5}
def tr(r:List y)(o:u)(t s q:Nat)(p:List (List Au))(v:Dc (.ii o t s) [(o,.f9 q p)]=J (o,.f9 q p)):Eh C K a c b n al j k l i r m e h f g Q (.ok (.ret (.ii o t s),[(o,.f9 q p)]))=JZ C K a c b n al j (k++[⟨J (BA h.get (Ab r)),J [o],Z⟩]) l (i+1) ⟨Dj e m (.ii o t s),(o,.f9 q p)::h,f,g⟩ Q:=ABV _ r _ _ _ rfl v
attribute [go_sem] tr
end Go.Abs
namespace Go.Proofs
open Abs Tryz
def kF(b:u)(f e c:Nat)(a:List (List Au)):Dc (.ii b f e) [(b,.f9 c a)]=if a.all (·.all HI)then J (b,.f9 c a)else none:=by simp only[Dc,go_sem,is_self,IP]
def Gl(b:List C4)(a:u)(e c:Nat):Dc (.ii a e c) [(a,.f9 2 (b.map A9))]=J (a,.f9 2 (b.map A9)):=by rw[kF,D3];simp[A9,HI]
end Go.Proofs
namespace Go.Abs
theorem yJ(l:List u)(x B0:u):B0∈PK l x↔B0∈l\/B0=x:=by grind [PK,is_iff]
theorem iL{l:List u}(h:l.Nodup)(x:u):(PK l x).Nodup:=by grind [PK,is_self]
def yK(l:List u)(x:u):∃m,PK l x=l++m:=by
 unfold PK;split
 .exact⟨[],AG⟩
 .exact⟨[x],rfl⟩
theorem Jf:∀(new l:List u) (B0:u),B0∈Gi l new↔B0∈l\/B0∈new
 |[],l,B0=>by simp[Gi]|x::new,l,B0=>by have:=Jf new (PK l x) B0;unfold Gi at*;rw[OS,this,yJ,Cs,or_assoc]
def Nw:∀(new:List u) {l:List u},l.Nodup->(Gi l new).Nodup
 |[],l,h=>h|x::new,l,h=>Nw new (iL h x)
theorem XG:∀(new l:List u),∃m,Gi l new=l++m
 |[],l=>⟨[],by simp[Gi]⟩|x::new,l=>by have⟨m,hm⟩:=yK l x;have⟨m2,hm2⟩:=XG new (PK l x);grind [Gi]
def Y3(e:S)(M:List u)(s:∀a∈M,∀h∈Cl (e.get a),h∈M):∀(g:Nat) (b:List u) (f:Nat),b.Nodup->(∀a∈b,a∈M)->(∀i a,i<f->b[i]?=J a->∀h∈Cl (e.get a),h∈b)->(U M)<=f+g->
 (C9 e g b f).Nodup/\(∀a∈C9 e g b f,a∈M)/\(∀a∈b,a∈C9 e g b f)/\∀a∈C9 e g b f,∀h∈Cl (e.get a),h∈C9 e g b f
 |0,b,f,o,l,q,x=>by have n:C9 e 0 b f=b:=rfl;rw[n];refine⟨o,l,λa c=>c,λa c h m=>?_⟩;obtain⟨i,k⟩:=Ci c;have v:=o.length_le_of_subset (l₂:=M) l;have w:=(BE.1 k).1;exact q i a z k h m|g+1,b,f,o,l,q,x=>by
  cases j:b[f]? with
  |none=>
   have n:C9 e (g+1) b f=b:=by rw[C9,j]
   rw[n];refine⟨o,l,λa c=>c,λa c h m=>?_⟩;obtain⟨i,k⟩:=Ci c;have v:=OF.1 j;have w:=(BE.1 k).1;exact q i a z k h m
  |some p=>
   have n:C9 e (g+1) b f=C9 e g (Gi b (Cl (e.get p))) (f+1):=by rw[C9,j]
   rw[n];have A:=AP j;obtain⟨D,t⟩:=XG (Cl (e.get p)) b;have r:=Y3 e M s g (Gi b (Cl (e.get p))) (f+1) (Nw _ o) (λa c=>by
    rcases(Jf _ _ _).1 c with c|c
    .exact l a c
    .exact s p (l p A) a c) (λi a k c h m=>by
    rw[Jf];by_cases B:i=f
    .subst B;rw[t,D8 (BE.1 j).1,j]at c;cases c;exact .inr m
    .have C:=(BE.1 j).1;rw[t,D8 z]at c;exact .inl (q i a z c h m)) z
   exact⟨r.1,r.2.1,λa c=>r.2.2.1 a ((Jf _ _ _).2 (.inl c)),r.2.2.2⟩
def K4(h:u):∀(b:List u) (e:Nat) (a:u),a∈b->∃c,E2 h b e a=J (ZR a::(e+c)::h)/\c<U b
 |B0::b,e,a,g=>by
  rw[Yi];by_cases f:AJ B0 a=X
  .rw[D3 f];exact⟨0,rfl,AG⟩
  .rw[Co f];have i:a∈b:=by
    rcases Cs.1 g with rfl|g
    .exact absurd (is_self _) f
    .exact g
   have⟨c,hj,hlt⟩:=K4 h b (e+1) a i;exact⟨c+1,by rw[hj];congr 3;omega,BL⟩
theorem AGb(e:S)(c:u->Option u)(i:∀a h b,c a=J b->c h=J b->a=h){a b:u}{g:Obj}(k:c a=J b)(j:e.get a=J g):∀(f:List u),a∈f->(Ey e c f).get b=J (EO c g)
 :=by intro a;induction a<;>grind [Ey,H8,is_self,AI]
structure QA(π:u)(h:S)(e:CN)(ν:u->Option u)(h':S)(n:Nat):Prop:=
 env:∀x∈CV e,∃A6,ν x=J A6
 name:∀x A6,ν x=J A6->∃j,j<n/\A6=ZR x::j::π
 inj:∀x B0 A6,ν x=J A6->ν B0=J A6->x=B0
 get:∀x A6 o,ν x=J A6->h.get x=J o->h'.get A6=J (EO ν o)
 deep:∀x A6,ν x=J A6->∀B0∈Cl (h.get x),∃z',ν B0=J z'
 only:∀A6 o,h'.get A6=J o->∃x,ν x=J A6
theorem J6(b:u)(e:S)(c:CN)(M:List u)(s:U M<=1000)(v:∀a∈CV c,a∈M)(p:∀a∈M,∀g∈Cl (e.get a),g∈M):
 ∃o k j,Rj b e c=⟨c.map λn=>(n.1,ren o n.2),k,j,[]⟩/\j<=(U M)/\QA b e c o k j:=by
 have⟨r1,r2,r3,r4⟩:=Y3 e M p 1000 (Gi [] (CV c)) 0 (Nw _ .nil) (λa m=>by grind [Jf]) (λi a l=>z) z
 unfold Rj dz;generalize C9 e 1000 (Gi [] (CV c)) 0=L at*;refine⟨E2 b L 0,Ey e (E2 b L 0) L,U L,rfl,r1.length_le_of_subset r2,?_,?_,λa g h=>Vq,λa h r f w=>?_,λa h f g q=>?_,λh r f=>?_⟩
 .intro a m;have⟨i,l,_⟩:=K4 b L 0 a (r3 a ((Jf _ _ _).2 (.inr m)));exact⟨_,l⟩
 .intro a h f;have⟨i,t,h1,h2⟩:=HC f;have⟨j2,h3,h4⟩:=K4 b L 0 a (AP h1);grind
 .grind [HC,AGb]
 .have⟨i,t,h1,h2⟩:=HC f;have⟨j2,h3,h4⟩:=K4 b L 0 g (r4 a (AP h1) g q);exact⟨_,h3⟩
 grind [GM]
end Go.Abs
namespace Go.Proofs
open Abs Tryz
@[irreducible] def Ij(a:C7)(e:KH)(g:u)(b:Nat)(c:CN)(f:S):St:=Rj g f (Lq c (a.live e b))
theorem GL(a:C7)(e:KH)(g:u)(b:Nat)(c:CN)(f:S):Ij a e g b c f=Rj g f (Lq c (a.live e b)):=by unfold Ij;rfl
def lQ(e:S)(c:y)(a:List (List C4)):Prop:=(U a=0/\c=.d8)\/(U a≠0/\∃b,c=.ii b 0 (U a)/\e.get b=J (.f9 1 (a.map Ct)))
structure IW(g:S)(es:List (List y))(l:List Fc):Prop:=
 len:U es=U l
 row:∀(j:Nat) (x:Fc),l[j]?=J x->∃v,es[j]?=J (B7 x v)/\lQ g v x.queue
 diff:(es.flatMap Ab).Nodup
def HP(f:u)(b:Nat)(c:u):Prop:=∃e a,a<b/\c=e::a::f
variable{k b:Nat}{a A:u}
def A7(f:HP (k::a) b A)(e c:Nat)(h:b<=c):AJ (e::c::k::a) A=Z/\AJ A (e::c::k::a)=false:=by obtain⟨j,i,g,rfl⟩:=f;exact⟨AI BL,AI BL⟩
def CJ(f:HP (k::a) b A)(e:u)(h:2<U e):AJ (e++k::a) A=Z/\AJ A (e++k::a)=false:=by
 obtain⟨j,i,g,rfl⟩:=f;constructor
 .refine AI λc=>?_;have:=congrArg U c;simp at this;omega
 .refine AI λc=>?_;have:=congrArg U c;simp at this;omega
def JE(x:Fc)(v:y):Ab (B7 x v)=AE v:=by simp[B7,Ab,AE]
variable{g:S}
def Ti{b:y}{e:List (List C4)}(c:lQ g b e):(b=.d8/\AE b=[])\/∃a,b=.ii a 0 (U e)/\AE b=[a]/\g.get a=J (.f9 1 (e.map Ct)):=by
 rcases c with⟨_,rfl⟩|⟨_,a,rfl,c⟩
 .exact zB8
 .exact .inr ⟨a,rfl,rfl,c⟩
def Hz{g:S}{c:List (List y)}{k:List Fc}(e:IW g c k){i:u}(m:i∈c.flatMap Ab):∃o:List (List C4),g.get i=J (.f9 1 (o.map Ct)):=by
 have⟨row,hr,a⟩:=BI.1 m;obtain⟨j,f⟩:=Ci hr;have n:=(BE.1 f).1;have⟨x,hx⟩:=g_ (l:=k) (i:=j) (by rw[<-e.len];exact n);have⟨v,h,hq⟩:=e.row j x hx;rw[f]at h;cases h;rw[JE]at a;rcases Ti hq with⟨_,b⟩|⟨p,_,b,l⟩
 .rw[b]at a;cases a
 .rw[b,AS]at a;subst a;exact⟨_,l⟩
variable{a:List (List y)}{l:List Fc}
def Im{H:S}(c:IW g a l)(i:∀b∈a.flatMap Ab,H.get b=g.get b):IW H a l:=by
 refine⟨c.len,λk m j=>?_,c.diff⟩;have⟨v,hv,e⟩:=c.row k m j;refine⟨v,hv,?_⟩;rcases e with e|⟨f,b,rfl,h⟩
 .exact .inl e
 .refine .inr ⟨f,b,rfl,?_⟩;rw[i b (BI.2 ⟨_,AP hv,by rw[JE];simp[AE]⟩)];exact h
def jQ{H:S}{a:List (List y)}{l:List Fc}(c:IW H a l){h:Fc}{f:y}(m:lQ H f h.queue)(r:∀s∈AE f,s∉a.flatMap Ab):IW H (a++[B7 h f]) (l++[h]):=by
 refine⟨by simp[c.len],λg t e=>?_,?_⟩
 .by_cases k:g<U l
  .rw[D8 k]at e;have⟨v',hv',hq'⟩:=c.row g t e;exact⟨v',by rw[D8 (by rw[c.len];exact k)];exact hv',hq'⟩
  .have q:=(BE.1 e).1;rw[D1,I3]at q;obtain rfl:g=U l:=z;rw[EL z]at e;simp only[IT,Hm,F4]at e;subst e;exact⟨f,by rw[EL (by rw[c.len];omega),c.len];simp,m⟩
 .rw[KW,D0];refine⟨c.diff,?_,?_⟩
  .simp only[F0,NL,CS,JE];rcases Ti m with⟨_,i⟩|⟨v,_,i,_⟩<;>rw[i]<;>simp
  .intro n o b j p;subst p;simp only[F0,NL,CS,JE]at j;exact r n j o
def K5{g n:Type}{f:g->n}:∀{l:List g},l.Nodup->(∀a∈l,∀c∈l,f a=f c->a=c)->(l.map f).Nodup
 |[],_,_=>List.nodup_nil|a::l,h,hf=>by rw[Ii]at h;rw[Bv,Ii];refine⟨λm=>?_,K5 h.2 λi j b k=>hf i (By _ j) b (By _ k)⟩;have⟨c,hy,e⟩:=Ex.1 m;have:=hf c (By _ hy) a AG e;subst this;exact h.1 hy
def kJ(c:∀b∈a,(Ab b).length<=1):(a.flatMap Ab).length<=(U a):=by induction a with|nil=>simp|cons b a f=>have g:=c b AG;have h:=f λb e=>c b (By _ e);simp only[F0,D1,II];omega
def jR(c:IW g a l):(a.flatMap Ab).length<=(U a):=by refine kJ λn j=>?_;obtain⟨h,e⟩:=Ci j;have i:=(BE.1 e).1;have⟨x,hx⟩:=g_ (l:=l) (i:=h) (by rw[<-c.len];exact i);have⟨v,f,hq⟩:=c.row h x hx;rw[e]at f;cases f;rw[JE];rcases Ti hq with⟨_,b⟩|⟨m,_,b,k⟩<;>rw[b]<;>simp
def jS{D:u}{H s:S}{g:CN}{b:u->Option u}{B:Nat}(r:QA D H g b s B){a:List (List y)}{l:List Fc}(j:IW H a l)(m:∀id∈a.flatMap Ab,∃f,b id=J f):IW s (a.map (Dn b)) l/\∀id∈(a.map (Dn b)).flatMap Ab,HP D B id:=by
 have key:∀e∈a,Ab (Dn b e)=(Ab e).map λid=>(b id).getD []:=by
  intro e o;obtain⟨i,n⟩:=Ci o;have K:=(BE.1 n).1;have⟨c,h⟩:=g_ (l:=l) (i:=i) (by rw[<-j.len];exact K);have⟨v,k,hq⟩:=j.row i c h;rw[n]at k;cases k;have F:Dn b (B7 c v)=B7 c (ren b v):=by simp[B7,Dn,ren]
  rw[F,JE,JE];rcases Ti hq with⟨rfl,g⟩|⟨M,rfl,g,t⟩
  .simp[ren,AE]
  .have⟨f,hz⟩:=m M (BI.2 ⟨_,o,by rw[JE];simp[AE]⟩);simp[ren,hz,AE]
 have A:(a.map (Dn b)).flatMap Ab=(a.flatMap Ab).map λid=>(b id).getD []:=by
  rw[List.flatMap_map,List.map_flatMap];have:∀(l:List (List y)),(∀e∈l,Ab (Dn b e)=(Ab e).map λid=>(b id).getD [])->(l.flatMap λp=>Ab (Dn b p))=l.flatMap λp=>(Ab p).map λid=>(b id).getD []:=by intro l x;induction l with|nil=>rfl|cons e l N=>rw[F0,F0,x e AG,N λe o=>x e (By _ o)]
  exact this a key
 refine⟨⟨by rw[BV,j.len],λi c h=>?_,?_⟩,?_⟩
 .have⟨v,k,hq⟩:=j.row i c h;refine⟨ren b v,?_,?_⟩
  .rw[BY,k];simp[B7,Dn,ren]
  .rcases hq with⟨q,rfl⟩|⟨q,id,rfl,t⟩
   .exact .inl ⟨q,rfl⟩
   .have⟨f,hz⟩:=m id (BI.2 ⟨_,AP k,by rw[JE];simp[AE]⟩);refine .inr ⟨q,f,by simp[ren,hz],?_⟩;have:=r.get id f _ hz t;simpa[EO]using this
 .rw[A];refine K5 j.diff λc h C L g=>?_;have⟨f,hz⟩:=m c h;have⟨z2,hz2⟩:=m C L;rw[hz,hz2]at g;simp only[F9]at g;subst g;exact r.inj c C f hz hz2
 .intro id w;rw[A]at w;obtain⟨c,h,rfl⟩:=Ex.1 w;have⟨f,hz⟩:=m c h;obtain⟨i,n,rfl⟩:=r.name c f hz;rw[hz];exact⟨_,i,n,rfl⟩
end Go.Proofs
namespace Go.Abs
variable{P:JH}{C:C7}{K:Af}{c:Fr}{j n i:Nat}{Q:DZ->St->Prop}
variable{k:Array H0}{al:Nat->Bool}{l:List H0}{e:CN}{h:S}{a:Nat}{f:List Df}{q:List (Nat×Nat)}{s:List Fp}{b:u}{m:Option M5}
def AA(Q:DZ->St->Prop)(a:St):Option L2->Prop
 |none=>Q .normal a|some .ret=>Q .ret a|some (.exit k)=>Q (.exit k) a|some _=>False
def cV(Q:DZ->St->Prop)(a:St):Option Obj->Prop
 |some (.loop r)=>match r.state with|.busy=>False|_=>AA Q a r.pend
 |_=>False
def L7(b c:u)(g:u)(e:CN)(a:Nat)(f:List Df)(Q:DZ->St->Prop):E (BC×S)->Prop
 |.ok (.ret _,h')=>cV Q ⟨e,gc b (gc c h'),a,f⟩ (h'.get g)|.ok (.of v,h')=>Q (.of v) ⟨e,gc b (gc c h'),a,f⟩|.err _=>False
def wB(K:Af)(ci:Option u)(b g:u)(c:u)(e:CN)(h:S)(a:Nat)(f:List Df)(Q:DZ->St->Prop):y->Prop
 |.fn i first cap=>L7 b g c e a f Q (K (.fn i) (first++[.yld c]++cap) h g X ci)|_=>False
theorem oA(b g:u)(f:u)(c:St)(a:E (BC×S)):(match L4 b g f c a with|.ok (e,d9)=>Q e d9|.err _=>False)=L7 b g f c.env c.base c.defs Q a:=by
 cases a with
 |err l=>rfl
 |ok a=>obtain⟨e,i⟩:=a;cases e with|of h=>grind [L4,L7,Bu]|ret h=>simp only[L4,L7,Bu,cV,fW];grind [AA]
theorem AHs(b:M3)(i:Array M5)(k g:L2)(p:c.rnd=Z):Wp C K c j (.rangeFunc b i k g) ⟨e,h,a,f⟩ Q=
 wB K c.ci (a::c.π) ((a+1)::c.π) (0::a::c.π) e (h.put (0::a::c.π) (.loop ⟨.ready,I,c.f,e,i.toList,k,g,c.nt⟩)) (a+2) (.mark (0::a::c.π)::f) Q (ev e.get b):=by
 have key:Wp C K c j (.rangeFunc b i k g) ⟨e,h,a,f⟩ Q=(match H6 K c b i k g ⟨e,h,a,f⟩with|.ok (o,m)=>Q o m|.err _=>False):=by
  cases q:H6 K c b i k g ⟨e,h,a,f⟩with
  |ok r=>obtain⟨o,m⟩:=r;exact VQ λn=>by simp[exec,q]
  |err l=>
   refine propext ⟨λ⟨n,o,m,h1,hq⟩=>?_,λh=>h.elim⟩;rcases n with _|n
   .simp[exec]at h1
   .grind [exec]
 rw[key];unfold H6;simp only[p,Kx,Bu];rw[oA];simp only[wB];cases ev e.get b with|fn s first cap=>grind [M9,CC]|_=>rfl
variable{o:u}{ci:Option u}
def ACU{k:KH}{raw:Bool}{l:Nat}(c:M3)(g:Array M5)(i b:L2):Wp C K ⟨k,o,raw,ci,Z,l⟩ j (.rangeFunc c g i b) ⟨e,h,a,f⟩ Q=
 wB K ci (a::o) ((a+1)::o) (0::a::o) e (h.put (0::a::o) (.loop ⟨.ready,I,k,e,g.toList,i,b,l⟩)) (a+2) (.mark (0::a::o)::f) Q (ev e.get c):=AHs c g i b rfl
variable{g p:u}
theorem ADa{b:u}(c:KH)(first cap:List y):wB K ci g p b e h a f Q (.fn c first cap)=L7 g p b e a f Q (K (.fn c) (first++[.yld b]++cap) h p X ci):=rfl
variable{b:BC->S->Prop}
theorem Mg{i:u}{j:E (BC×S)}(k:∃h c,j=.ok (h,c)/\b h c)(l:∀h c,b h c->L7 g p i e a f Q (.ok (h,c))):L7 g p i e a f Q j:=zCN
theorem L8{c:u}(h:y)(b:S):L7 g p c e a f Q (.ok (.ret h,b))=cV Q ⟨e,gc g (gc p b),a,f⟩ (b.get c):=rfl
theorem uI{h:u}(c:y)(b:S):L7 g p h e a f Q (.ok (.of c,b))=Q (.of c) ⟨e,gc g (gc p b),a,f⟩:=rfl
theorem tn(a:St)(c:KH)(e:CN)(g:u)(h b:L2)(f:Nat):cV Q a (J (.loop ⟨.ready,I,c,e,g,h,b,f⟩))=Q .normal a:=rfl
theorem ABP(a:St)(c:KH)(e:CN)(g:u)(h b:L2)(f:Nat):cV Q a (J (.loop ⟨.done,J .ret,c,e,g,h,b,f⟩))=Q .ret a:=rfl
theorem tm(b:St)(a:Nat)(f:KH)(e:CN)(h:u)(i c:L2)(g:Nat):cV Q b (J (.loop ⟨.done,J (.exit a),f,e,h,i,c,g⟩))=Q (.exit a) b:=rfl
def nQ(C:C7)(K:Af)(c:Fr)(k:Array H0)(j n:Nat)(al:Nat->Bool)(l:List H0)(i:Nat)(m:Option M5)(g:u)(e:CN)(h:S)(a:Nat)(f:List Df)(Q:DZ->St->Prop)(o:u)(b:List y):Option Obj->Prop
 |some (.loop r)=>Zv C K c k j n al l i m g e h a f Q (K (.round o r) b h g X c.ci)|_=>False
def yh(b:u)(args:List y):XX C K c k j n al l i m g e h a f Q args (.yld b)=nQ C K c k j n al l i m g e h a f Q b args (h.get b):=by
 simp only[XX,FV,MO,nQ];rcases S.get h b with _|o
 .rfl
 .cases o<;>first|rfl|simp[VG]
theorem ACZ(b:u)(args:List y)(o:Lp):nQ C K c k j n al l i m g e h a f Q b args (J (.loop o))=Zv C K c k j n al l i m g e h a f Q (K (.round b o) args h g X c.ci):=rfl
def AQc(C:C7)(K:Af)(c:Fr)(k:Array H0)(j n:Nat)(al:Nat->Bool)(q:List (Nat×Nat))(s:List Fp)(l:List H0)(i:Nat)(m:Option M5)(g:u)(e:CN)(h:S)(a:Nat)(f:List Df)(Q:DZ->St->Prop)(o:u)(b:List y):Option Obj->Prop
 |some (.loop r)=>Y2 C K c k j n al q s l i m g e h a f Q (K (.round o r) b h g X c.ci)|_=>False
theorem ACY(b:u)(args:List y)(o:Lp):AQc C K c k j n al q s l i m g e h a f Q b args (J (.loop o))=Y2 C K c k j n al q s l i m g e h a f Q (K (.round b o) args h g X c.ci):=rfl
def gG(a:u)(b:BC->S->Prop)(e:DZ)(h:S):Option Obj->Prop
 |some (.loop r)=>match e with|.normal=>b (.ret (.d (.bool X))) (h.put a (.loop {r with state:=.ready,pend:=I}))|.ret=>b (.ret (.d (.bool Z))) (h.put a (.loop {r with state:=.done,pend:=J .ret}))|.exit c=>b (.ret (.d (.bool Z))) (h.put a (.loop {r with state:=.done,pend:=J (.exit c)}))|.of f=>b (.of f) h
 |_=>False
def lN(c:u)(b:BC->S->Prop):DZ->St->Prop
 |e,a=>a.defs=[]/\gG c b e a.heap (a.heap.get c)
def mA(C:C7)(K:Af)(c:Fr)(a:u)(f:L2)(b:BC->S->Prop)(e:St):Option Obj->Prop
 |some (.loop r)=>match r.state with|.ready=>Wp C K c 0 f {e with heap:=e.heap.put a (.loop {r with state:=.busy})} (lN a b)|_=>False
 |_=>False
def nC(C:C7)(K:Af)(c:Fr)(a:u)(f:L2)(b:BC->S->Prop):DZ->St->Prop
 |.normal,e=>e.defs=[]/\Jv c.ci [(a,.box [])]=X/\mA C K c a f b e (e.heap.get a)|_,_=>False
def pB(c:u):lN c b .normal ⟨e,h,a,[]⟩=gG c b .normal h (h.get c):=by simp[lN]
theorem ou(c:u)(a:Lp):gG c b .normal h (J (.loop a))=b (.ret (.d (.bool X))) (h.put c (.loop ⟨.ready,I,a.f,a.env,a.params,a.wp,a.body,a.nt⟩)):=rfl
theorem AGt(c:u)(a:Lp):gG c b .ret h (J (.loop a))=b (.ret (.d (.bool Z))) (h.put c (.loop ⟨.done,J .ret,a.f,a.env,a.params,a.wp,a.body,a.nt⟩)):=rfl
theorem ABo(c:u)(e:Nat)(a:Lp):gG c b (.exit e) h (J (.loop a))=b (.ret (.d (.bool Z))) (h.put c (.loop ⟨.done,J (.exit e),a.f,a.env,a.params,a.wp,a.body,a.nt⟩)):=rfl
theorem AGs(c:u)(a:y)(e:Lp):gG c b (.of a) h (J (.loop e))=b (.of a) h:=rfl
def iv(f:u)(g:L2):nC C K c f g b .normal ⟨e,h,a,[]⟩=(Jv c.ci [(f,.box [])]=X/\mA C K c f g b ⟨e,h,a,[]⟩ (h.get f)):=by simp[nC]
theorem yV(f:u)(i:L2)(n:Option L2)(l:KH)(k:CN)(o:u)(g j:L2)(m:Nat):mA C K c f i b ⟨e,h,a,[]⟩ (J (.loop ⟨.ready,n,l,k,o,g,j,m⟩))=Wp C K c 0 i ⟨e,h.put f (.loop ⟨.busy,n,l,k,o,g,j,m⟩),a,[]⟩ (lN f b):=rfl
def Oc{j:u}{c:Lp}{args:List y}{h:S}{e:CN}(A:FP c.env c.params args=J e)(D:Wp C (KL P C) {f:=c.f,π:=o,raw:=X,ci,rnd:=X,nt:=c.nt} 0 c.wp ⟨e,h,0,[]⟩ (nC C (KL P C) {f:=c.f,π:=o,raw:=X,ci,rnd:=X,nt:=c.nt} j c.body b)):∃i g,KL P C (.round j c) args h o X ci=.ok (i,g)/\b i g:=by
 obtain⟨l,F,M,w,a⟩:=D;cases F with
 |normal=>
  obtain⟨n,N,a⟩:=a;rcases hg:S.get M.heap j with _|H
  .rw[hg]at a;exact a.elim
  .rw[hg]at a;cases H with
   |loop L=>
    simp[mA]at a;cases k:L.state with
    |ready=>
     rw[k]at a;obtain⟨m,q,r,x,s,f⟩:=a;have v:∃i g,Tl j (.ok (q,r))=.ok (i,g)/\b i g:=by
      simp[Tl,s];rcases hg2:S.get r.heap j with _|K
      .rw[hg2]at f;exact f.elim
      .rw[hg2]at f;cases K with
       |loop Q=>cases q with|normal=>exact⟨_,_,rfl,f⟩|ret=>exact⟨_,_,rfl,f⟩|exit O=>exact⟨_,_,rfl,f⟩|of R=>exact⟨_,_,rfl,f⟩
       |_=>exact f.elim
     obtain⟨i,g,t,B⟩:=v;refine⟨i,g,iG (n:=max l m) ?_,B⟩;unfold JR;have p:=Wb x (To l m);rw[n]at p;simp[A,Wb w (Nat.le_max_left l m),KI,n,N,hg,Q6,k];rw[p];exact t
    |_=>rw[k]at a;exact a.elim
   |_=>exact a.elim
 |_=>exact a.elim
attribute [go_sem] ADa L8 uI tn ABP tm yh ACZ ACY pB ou AGt ABo AGs iv yV ACU FP
end Go.Abs
namespace Go.Abs
variable{a b:Type}
def fy(f:a->b)(l:List a):WA (U l) (l.map f)=l.map f:=Bi AG
theorem Tu(f:a->b)(l:List a)(x:List b):WA (U l) (l.map f++x)=l.map f:=zCN
def eP(f:a->b)(l:List a)(B0:b)(x:List b):List.drop (U l+1) (l.map f++B0::x)=x:=by rw[List.drop_append];simp
def m4(a:G)(b:u):Option Obj->S
 |some (.f9 sz es)=>[(b,.rt sz es)]|some (.arr sz es)=>match EC a es with|some c=>(b,.rt sz c)::es.flatMap (Ca a)|none=>[]
 |_=>[]
def AAy(a:G)(b:u)(e c:Nat):Cj a (.ii b e c)=m4 a b (a b):=by exact BZ
theorem tG(e:G)(b:u)(c:Nat)(a:List (List Au)):m4 e b (J (.f9 c a))=[(b,.rt c a)]:=rfl
theorem AA0(b:G)(c:u)(e:Nat)(a:List (List Au)):m4 b c (J (.rt e a))=[]:=rfl
attribute [go_sem] AFq AAy tG AA0
attribute [go_sem] fy Tu eP Nat.le_add_right Nat.le_add_left Nat.add_le_add_iff_left Nat.not_succ_le_self Nat.add_lt_add_iff_left
end Go.Abs
namespace Go.Proofs
open Abs Tryz
variable{e:u}
theorem Wu{a:u}(h:AD e a=Z)(b c f g:Nat):AJ (b::c::f::g::e) a=false:=by grind [AN,AL]
theorem nV{a:u}(h:AD e a=Z)(b c f g:Nat):AJ a (b::c::f::g::e)=false:=by grind [Aw,AL]
variable{b:u}
theorem Ao(l:u):AD b (l++b)=true:=under_iff.2 ⟨l,rfl⟩
def PF(e:S)(f:Nat)(c:y)(a:List (List Au)):Prop:=(c=.d8/\a=[])\/∃b g,c=.ii b 0 (U a)/\e.get b=J (.f9 f (a++g))
def UF(c:S)(e:Nat)(b:y)(a:List (List Au)):Prop:=PF c e b a\/(b=.emp/\a=[])
abbrev SY(f:Bool)(g:Nat)(b:S)(c:Nat)(e:y)(a:List (List Au)):Prop:=match f,g with|false,2=>UF b c e a|_,_=>PF b c e a
structure qL(c:Bool)(g:S)(rows:List (List y))(l:List Fc):Prop:=
 len:U rows=U l
 row:∀(j:Nat) (q:Fc),l[j]?=J q->∃v,rows[j]?=J (B7 q v)/\SY c 2 g 1 v (q.queue.map Ct)
abbrev uW:=qL X
def CH(e:S)(c:y)(a:List (List y)):Prop:=(c=.d8/\a=[])\/∃b,c=.ii b 0 (U a)/\e.get b=J (.arr 4 a)
structure MV:=
 s:Nat->y
 v3:y
 v9:y
 acts:u
 rows:List (List y)
def IU:Nat->Nat
 |0=>2|1=>3|2=>3|_=>5
def BQ(a:C5):Nat->List (List Au)
 |0=>a.eq.be.map CZ|1=>a.eq.bv.map CY|2=>a.eq.waits.map Bf|_=>a.ev.map ND
def MV.nl(V:MV)(i:Nat)(v:y):MV:={V with s:=λj=>if j=i then v else V.s j}
def MV.ids(V:MV)(m:u):List u:=m::V.acts::(AE (V.s 0)++(AE (V.s 1)++(AE (V.s 2)++(AE (V.s 3)++(AE V.v3++V.rows.flatMap Ab)))))
def mo(a:Aa)(b:Al)(V:MV)(c:Int):List y:=[V.s 0,V.s 1,V.v3,V.s 2,.d (.co (a.free.map CB)),.d (.co (a.nodes.map Bg)),.d (.co (a.defs.map Br)),nI a.main,.d (.co (b.map AX)),V.v9,.mp V.acts,V.s 3,nI c]
structure Gf(B:MV->Int->List y)(c:Bool)(h:S)(m:u)(V:MV)(st:C5):Prop:=
 box:h.get m=J (.box (B V st.work))
 act0:(V.acts=m/\c=Z)\/h.get V.acts=J (.map vg)
 sl:∀i,i<4->SY c i h (IU i) (V.s i) (BQ st i)
 arr:CH h V.v3 V.rows
 ac:qL c h V.rows st.eq.ac
 gw:∀id∈AE (V.s 1),id∉AE (V.s 2)
 qd:(V.rows.flatMap Ab).Nodup
 inv:∀(V:MV) (rows:List (List y)) (w:Int),B {V with rows:=rows} w=B V w
abbrev APV(a:Aa)(b:Al):=Gf (mo a b) X
variable{h:S}{m:u}
def Gf.acts{B:MV->Int->List y}{V:MV}{c:C5}(b:Gf B X h m V c):h.get V.acts=J (.map vg):=b.act0.resolve_left λa=>by cases a.2
variable{a:S}
def QY{B:MV->Int->List y}{c:Bool}{V:MV}{i:C5}(e:Gf B c h m V i)(g:V.acts≠m->h.get V.acts=J (.map vg)->a.get V.acts=h.get V.acts):(V.acts=m/\c=Z)\/a.get V.acts=J (.map vg):=by
 rcases e.act0 with b|b
 .exact .inl b
 .exact .inr ((g (λf=>by rw[f,e.box]at b;cases b) b).trans b)
structure da(N:u->Bool)(m:u)(V V':MV)(h h':S):Prop:=
 ids:∀id∈V'.ids m,id∈V.ids m\/(N id=X/\∃l,id=1::l)
 frame:∀id,id∉V.ids m->N id=Z->h'.get id=h.get id
abbrev y6(b:u):=da (AD b)
abbrev Ns(B:MV->Int->List y)(c:Bool)(N:u->Bool)(m:u)(V:MV)(h:S)(e:C5)(a:S):Prop:=∃b,Gf B c a m b e/\da N m V b h a
abbrev ALm(a:Aa)(b:Al):=Ns (mo a b) X
abbrev ANm(a:Aa)(c:Al)(b:u):=ALm a c (AD b)
abbrev PB(N:u->Bool)(V:MV)(m:u):Prop:=∀a∈V.ids m,N a=Z
abbrev Di(b:u):=PB (AD b)
theorem Di.ext{V:MV}(h:Di b V m)(n:Nat):Di (n::b) V m:=by grind [AL]
def iB(f:Aa)(i:Al)(b:u)(m:u)(V:MV)(h:S):Option C5->BC->S->Prop
 |some g,e,a=>e=.ret (.kw [])/\ANm f i b m V h g a|none,e,a=>e=.of (AOJ 3)/\∀c,c∉V.ids m->AD b c=Z->a.get c=h.get c
variable{g:S}{c:List (List Au)}
def BM{e b:Nat}{a:u}(f:List (List Au))(i:b=U c)(h:g.get a=J (.f9 e (c++f))):PF g e (.ii a 0 b) c:=.inr ⟨a,f,by rw[i],h⟩
variable{g':S}
theorem Ng{e:Nat}{b:y}(h:PF g e b c)(i:∀a∈AE b,g'.get a=g.get a):PF g' e b c:=by
 rcases h with h|⟨a,f,rfl,h⟩
 .exact .inl h
 .exact .inr ⟨a,f,rfl,by grind [AE]⟩
theorem Oi{a:Nat}{b:y}(h:PF g a b c){id:u}(f:id∈AE b):∃e,g.get id=J (.f9 a e):=by
 rcases h with⟨rfl,_⟩|⟨i,e,rfl,h⟩
 .simp[AE]at f
 grind [AE]
def SJ{e:Bool}{f:Nat}{a:Nat}{b:y}(h:PF g a b c):SY e f g a b c:=by
 unfold SY;split
 .exact .inl h
 .exact h
def ZI{e:Bool}{f:Nat}{a:Nat}{b:y}(h:SY e f g a b c):UF g a b c:=by
 unfold SY at h;split at h
 .exact h
 .exact .inl h
def MF{b:Bool}{f:Nat}{j:Nat}{a:y}(h:SY b f g j a c)(e:∀i∈AE a,g'.get i=g.get i):SY b f g' j a c:=by
 unfold SY at*;split at h
 .exact h.imp_left λh=>Ng h e
 .exact Ng h e
def JS{i:Bool}{j:Nat}{e:Nat}{f:y}(h:SY i j g e f c){b:u}(a:b∈AE f):∃k,g.get b=J (.f9 e k):=by
 rcases ZI h with h|⟨rfl,_⟩
 .exact Oi h a
 .simp[AE]at a
variable{c:List (List y)}
theorem Sj{b:y}(h:CH g b c)(e:∀a∈AE b,g'.get a=g.get a):CH g' b c:=by
 rcases h with h|⟨a,rfl,h⟩
 .exact .inl h
 .exact .inr ⟨a,rfl,by grind [AE]⟩
theorem Ks{a:y}(h:CH g a c){id:u}(b:id∈AE a):g.get id=J (.arr 4 c):=by
 rcases h with⟨rfl,_⟩|⟨e,rfl,h⟩
 .simp[AE]at b
 grind [AE]
def Cz(x:Fc)(v:y):Ab (B7 x v)=AE v:=by simp[B7,Ab,AE]
variable{l:List Fc}
def Si{b:Bool}(h:qL b g c l)(e:∀a∈c.flatMap Ab,g'.get a=g.get a):qL b g' c l:=by refine⟨h.len,λj k i=>?_⟩;have⟨v,h1,h2⟩:=h.row j k i;exact⟨v,h1,MF h2 λa f=>e a (BI.2 ⟨_,AP h1,by rw[Cz];exact f⟩)⟩
def Qd{j:Bool}(h:qL j g c l){f:u}(k:f∈c.flatMap Ab):∃a,g.get f=J (.f9 1 a):=by have⟨row,hr,hid⟩:=BI.1 k;obtain⟨i,b⟩:=Ci hr;have m:=(BE.1 b).1;have⟨a,hx⟩:=g_ (l:=l) (i:=i) (by rw[<-h.len];exact m);have⟨v,e,hq⟩:=h.row i a hx;rw[b]at e;cases e;rw[Cz]at hid;exact JS hq hid
theorem MV.mem(V:MV)(m a:u):a∈V.ids m↔a=m\/a=V.acts\/(∃b,b<4/\a∈AE (V.s b))\/a∈AE V.v3\/a∈V.rows.flatMap Ab:=by grind [MV.ids]
def MV.m_mem(V:MV)(m:u):m∈V.ids m:=(V.mem m m).2 (.inl rfl)
def MV.acts_mem(V:MV)(m:u):V.acts∈V.ids m:=(V.mem m _).2 (.inr (.inl rfl))
def MV.s_mem(V:MV)(m:u){i:Nat}(a:i<4){id:u}(h:id∈AE (V.s i)):id∈V.ids m:=(V.mem m _).2 (.inr (.inr (.inl ⟨i,a,h⟩)))
def MV.v3_mem(V:MV)(m:u){a:u}(h:a∈AE V.v3):a∈V.ids m:=(V.mem m _).2 (.inr (.inr (.inr (.inl h))))
def MV.row_mem(V:MV)(m:u){a:u}(h:a∈V.rows.flatMap Ab):a∈V.ids m:=(V.mem m _).2 (.inr (.inr (.inr (.inr h))))
theorem Fi{B:MV->Int->List y}{g:Bool}{V:MV}{j:C5}(b:Gf B g h m V j)(e:∀c∈V.ids m,a.get c=h.get c):Gf B g a m V j:=⟨by rw[e _ (V.m_mem m)];exact b.box,QY b λ_ _=>e _ (V.acts_mem m),λk i=>MF (b.sl k i) λc f=>e c (V.s_mem m i f),Sj b.arr λc f=>e c (V.v3_mem m f),Si b.ac λc f=>e c (V.row_mem m f),b.gw,b.qd,b.inv⟩
theorem TZ{B:MV->Int->List y}{c:Bool}{V a:MV}{f:C5}{g:S}(j:Gf B c h m V f)(i:y6 b m a V g h)(o:Di e a m):Gf B c (gc e h) m V f:=by
 refine Fi j λn k=>?_;rcases i.ids n k with h|⟨_,l,rfl⟩
 .grind [An]
 .exact E1 _ _ _
theorem Bq{c:Nat}{a:u}(h:AD (c::b) a=X):AD b a=true:=by grind [under_iff,List.suffix_cons]
def AFR{V:MV}(e:∀c,AD b c=Z->a.get c=h.get c):y6 b m V V h a:=⟨λc h=>.inl h,λc _ f=>e c f⟩
theorem Yg{B:MV->Int->List y}{e:Bool}{V:MV}{f:C5}(g:Gf B e h m V f)(j:Di b V m)(i:∀c,AD b c=Z->a.get c=h.get c):Gf B e a m V f:=by grind [Fi]
def ABF{B:MV->Int->List y}{q:Bool}{N:u->Bool}{h a:S}{m:u}{V:MV}{i d9:C5}(c:Gf B q h m V i)(r:PB N V m)(t:a.get m=J (.box (B V d9.work))) (l:d9.eq=i.eq/\d9.ev=i.ev) (p:∀b,b≠m->N b=Z->a.get b=h.get b):Gf B q a m V d9/\da N m V V h a:=by
 have A:∀b,(∀s,h.get b≠J (.box s))->b≠m:=λb w g=>w _ (by subst g;exact c.box);have v:∀f,BQ d9 f=BQ i f:=λf=>by unfold BQ;rw[l.1,l.2]
 have n:=λb j k=>p b (A b k) (r b j);refine⟨⟨t,?_,λf o=>?_,?_,?_,c.gw,c.qd,c.inv⟩,λb h=>.inl h,λb j k=>p b (λg=>j (by rw[g];exact V.m_mem m)) k⟩
 .exact QY c λg _=>p _ g (r _ (V.acts_mem m))
 .rw[v];refine MF (c.sl f o) λb e=>n b (V.s_mem m o e) ?_;have⟨x,hx⟩:=JS (c.sl f o) e;rw[hx];simp
 .refine Sj c.arr λb e=>n b (V.v3_mem m e) ?_;rw[Ks c.arr e];simp
 .rw[l.1];refine Si c.ac λb e=>n b (V.row_mem m e) ?_;have⟨x,hx⟩:=Qd c.ac e;rw[hx];simp
variable{d9:C5}
def sg{b:C5}(c:d9.eq=b.eq):∀a,a<4->a≠3->BQ d9 a=BQ b a
 |0,_,_|1,_,_|2,_,_=>by simp[BQ,c]|3,_,h=>absurd rfl h
def oa{b:C5}(c:d9.eq.be=b.eq.be)(e:d9.eq.bv=b.eq.bv)(f:d9.ev=b.ev):∀a,a<4->a≠2->BQ d9 a=BQ b a
 |0,_,_|1,_,_|3,_,_=>by simp[BQ,c,e,f]|2,_,h=>absurd rfl h
def AON{b:C5}(c:d9.eq.be=b.eq.be)(e:d9.eq.waits=b.eq.waits)(f:d9.ev=b.ev):∀a,a<4->a≠1->BQ d9 a=BQ b a
 |0,_,_|2,_,_|3,_,_=>by simp[BQ,c,e,f]|1,_,h=>absurd rfl h
def pv{b:C5}(c:d9.eq.bv=b.eq.bv)(e:d9.eq.waits=b.eq.waits)(f:d9.ev=b.ev):∀a,a<4->a≠0->BQ d9 a=BQ b a
 |1,_,_|2,_,_|3,_,_=>by simp[BQ,c,e,f]|0,_,h=>absurd rfl h
theorem m3(V:MV)(i:Nat)(v:y)(j:Nat):(V.nl i v).s j=if j=i then v else V.s j:=rfl
theorem m9{B:MV->Int->List y}{t:Bool}{N:u->Bool}{h a:S}{m:u}{V:MV}{C d9:C5}(e:Nat){p:y}(o:e<4)(i:Gf B t h m V C)(v:PB N V m)(O:a.get m=J (.box (B (V.nl e p) d9.work))) (Y:SY t e a (IU e) p (BQ d9 e)) (R:∀g,g<4->g≠e->BQ d9 g=BQ C g) (P:d9.eq.ac=C.eq.ac)(aa:AE p=AE (V.s e)\/∀b∈AE p,N b=X/\∃l,b=1::l) (A:∀b,b≠m->b∉AE (V.s e)->N b=Z->a.get b=h.get b):Gf B t a m (V.nl e p) d9/\da N m V (V.nl e p) h a:=by
 have Q:∀b,(∀D,h.get b≠J (.box D))->b≠m:=λb c s=>c _ (by subst s;exact i.box);have w:=λb n q M=>A b (Q b q) M (v b n);have W:∀b∈AE p,b∈AE (V.s e)\/(N b=X/\∃l,b=1::l):=λb f=>by grind
 have key:∀g,g<4->g≠e->∀b∈AE (V.s g),b∉AE (V.s e):=λg k r b f c=>by
  have⟨x,j⟩:=JS (i.sl g k) f;have⟨B0,hy⟩:=JS (i.sl e o) c;rw[j]at hy;have T:IU g=IU e:=by simp at hy;exact hy.1
  have L:(g=1/\e=2)\/(g=2/\e=1):=by match e,g,o,k with|0,0,_,_|1,1,_,_|2,2,_,_|3,3,_,_=>omega|0,1,_,_|0,2,_,_|0,3,_,_|1,0,_,_|1,3,_,_|2,0,_,_|2,3,_,_|3,0,_,_|3,1,_,_|3,2,_,_=>simp[IU]at T|1,2,_,_|2,1,_,_=>omega
  rcases L with⟨rfl,rfl⟩|⟨rfl,rfl⟩
  .exact i.gw b f c
  .exact i.gw b c f
 refine⟨⟨O,?_,λg k=>?_,?_,?_,λb n q=>?_,i.qd,i.inv⟩,λb f=>?_,λb n q=>?_⟩
 .show(V.acts=m/\t=Z)\/a.get V.acts=_;refine QY i λs K=>A _ s (λc=>?_) (v _ (V.acts_mem m));have⟨x,j⟩:=JS (i.sl e o) c;rw[K]at j;cases j
 .rw[m3];by_cases r:g=e
  .grind
  .rw[Co r,R g k r];refine MF (i.sl g k) λb f=>w b (V.s_mem m k f) ?_ (key g k r b f);have⟨x,j⟩:=JS (i.sl g k) f;rw[j];simp
 .refine Sj i.arr λb f=>w b (V.v3_mem m f) ?_ λc=>?_
  .rw[Ks i.arr f];simp
  .have⟨x,j⟩:=JS (i.sl e o) c;rw[Ks i.arr f]at j;cases j
 .rw[P];refine Si i.ac λb f=>w b (V.row_mem m f) ?_ λc=>?_
  .have⟨x,j⟩:=Qd i.ac f;rw[j];simp
  .have⟨x,j⟩:=JS (i.sl e o) c;have⟨B0,hy⟩:=Qd i.ac f;rw[j]at hy
   match e,o with|0,_|1,_|2,_|3,_=>simp[IU]at hy
 .rw[m3]at n q;have ac:∀b∈AE (V.s 1),N b=false:=λb f=>v b (V.s_mem m z f);have ad:∀b∈AE (V.s 2),N b=false:=λb f=>v b (V.s_mem m z f);by_cases F:1=e
  .grind
  .rw[Co F]at n;by_cases H:2=e
   .grind
   .rw[Co H]at q;exact i.gw b n q
 .rcases((V.nl e p).mem m b).1 f with c|c|⟨g,k,c⟩|c|c
  .exact .inl ((V.mem m b).2 (.inl c))
  .exact .inl ((V.mem m b).2 (.inr (.inl c)))
  .rw[m3]at c;by_cases r:g=e
   .rw[D3 r]at c;exact(W b c).imp_left λh=>V.s_mem m o h
   .rw[Co r]at c;exact .inl (V.s_mem m k c)
  .exact .inl (V.v3_mem m c)
  .exact .inl (V.row_mem m c)
 .exact A b (λs=>n (by rw[s];exact V.m_mem m)) (λc=>n (V.s_mem m o c)) q
variable{N:u->Bool}
def Hc{B:MV->Int->List y}{g:Bool}{V:MV}{st:C5}(c:Nat)(w:c<4)(t:Gf B g h m V st)(C:PB N V m)(A:∀e,e<4->e≠c->BQ d9 e=BQ st e) (v:d9.eq.ac=st.eq.ac) (f:y) (a:S) (k:a.get m=J (.box (B (V.nl c f) d9.work))) (n:SY g c a (IU c) f (BQ d9 c)) (o:AE f=AE (V.s c)\/∀b∈AE f,N b=X/\∃l,b=1::l) (p:∀b,AJ m b=Z->(∀j∈AE (V.s c),AJ j b=Z)->N b=Z->a.get b=h.get b):Ns B g N m V h d9 a:=⟨_,m9 c w t C k n A v o λb q r s=>p b (AI λi=>q i.symm) (λj x=>AI λi=>r (by rw[<-i];exact x)) s⟩
def m8{B:MV->Int->List y}{c:Bool}{V:MV}{g:C5}(f:Ns B c N m V h g a):∀b,b∉V.ids m->N b=Z->a.get b=h.get b:=by obtain⟨_,_,e⟩:=f;exact e.frame
end Go.Proofs
namespace Go.Proofs
open Abs Tryz
structure BP.Fits(s:BP):Prop:=
 be:U s.be<=1000000
 bv:U s.bv<=1000000
 ac:U s.ac<=60
 waits:U s.waits<=1000000
 group:∀x∈s.bv,U x.env<=1000000
 chan:∀x∈s.ac,U x.queue<=1000000/\∀B0∈x.queue,U B0<=1000000
 wait:∀x∈s.waits,U x.env<=1000000
structure qM(π:u)(s:BP)(v1 v2 v3 v4:y)(rows:List (List y))(g:S):Prop:=
 s0:PF g 2 v1 (s.be.map CZ)
 s1:PF g 3 v2 (s.bv.map CY)
 s2:PF g 3 v4 (s.waits.map Bf)
 arr:CH g v3 rows
 ac:uW g rows s.ac
 qd:(rows.flatMap Ab).Nodup
 gw:∀id∈AE v2,id∉AE v4
 ids:∀id,id∈AE v1\/id∈AE v2\/id∈AE v4\/id∈AE v3\/id∈rows.flatMap Ab->AD π id=X
 own:∀id,AD π id=Z->g.get id=I
variable{e:Type}{i:e->List Au}
def AM7{b:S}{f:Nat}{a:List e}(c:U a=0):PF b f .d8 (a.map i):=.inl ⟨rfl,by rw[CI c];rfl⟩
def AM6{b:S}{f:Nat}{a:List e}{c:u}(g:b.get c=J (.f9 f (a.map i))):PF b f (.ii c 0 (U a)) (a.map i):=BM [] AG (by rw[CS];exact g)
theorem vK(a b c:Nat)(e:u):AD e (a::b::c::e)=true:=under_iff.2 ⟨[a,b,c],rfl⟩
theorem Fm(c h e:Nat)(f:u)(g:c≠e):AD (c::f) (h::e::f)=false:=IJ λa=>by
 rcases Ip.1 a with b|a
 .exact zBX
 rcases Ip.1 a with b|a
 .simp only[SP,and_true]at b;exact g b
 .exact zBu
theorem lX:∀{c:S} {a:u},a∈c.map (λa=>a.1)->c.get a≠I
 |(k,o)::c,a,b=>by
  rw[H8];split
  .simp
  .rename_i e;rw[Bv,Cs]at b;rcases b with rfl|b
   .exact absurd (is_self _) e
   .exact lX b
def AL6{b:S}{a:List (List y)}{f:List Fc}(c:IW b a f):uW b a f:=by
 refine⟨c.len,λi j h=>?_⟩;have⟨v,h1,h2⟩:=c.row i j h;refine⟨v,h1,?_⟩;rcases h2 with⟨e,rfl⟩|⟨e,k,rfl,g⟩
 .exact AM7 e
 .exact AM6 g
def ab{j:Aa}{k:BP}{d:Bc}{g:Az}{i f:Nat}:∀{e:List HJ} {b:Nat},Rl j k d g i f b e=X->∀(a:Nat) (c:HJ),e[a]?=J c->jO j k d g i (b+a) (f+(b+a)) c=X
 |x::e,b,h,a,c,ht=>by
  rw[Rl,As]at h;cases a with
  |zero=>simp only[Hm,F4]at ht;subst ht;exact h.1
  |succ a=>
   rw[Hw]at ht;have:=ab h.2 a c ht
   rwa [show b+1+a=b+(a+1) by omega]at this
def YG{i:Aa}{q:Al}(s:Ar i q){j:BP}:∀(l:List Az) (h b p:Nat),Pq i (OB i q) j h b p l=X->
 (∀e∈l,U e.env<=10000)/\∀a,b<=a->a<U j.ac->∃m e d f h F,j.ac[a]?=J m/\wC i j d e h F m f=X/\f.many<=3
 |[],h,b,p,c=>by rw[Pq,As,Dl]at c;exact⟨λe B=>(by cases B),λa k r=>z⟩|e::l,h,b,p,c=>by
  rw[Pq]at c;cases g:i.def? e.ip with
  |none=>rw[g]at c;cases c
  |some d=>
   rw[g]at c;simp only[As]at c;obtain⟨k,r⟩:=c;obtain⟨C,D⟩:=YG s l _ _ _ r;rw[Aa.def?]at g;split at g
   .rename_i L;have n:=Bd s g;rw[wg]at k;simp only[As,Dl]at k;obtain⟨_,v,_,_,A⟩:=k;obtain⟨_,_,R,_,_,_,_,P,Q,H,_⟩:=n.node;rw[H]at v;have O:=Yu n.ok;simp only[F9]at v;refine⟨λK o=>?_,λa M x=>?_⟩
    .rcases Cs.1 o with rfl|o
     .omega
     .exact C K o
    .by_cases N:a<b+U d.ac
     .obtain⟨f,t⟩:=g_ (l:=d.ac) (i:=a-b) z;have:=ab A (a-b) f t;rw[show b+(0+(a-b))=a by omega,jO]at this;cases w:j.ac[a]? with|none=>rw[w]at this;cases this|some m=>rw[w]at this;exact⟨m,e,d,f,_,_,rfl,this,(n.ok.chan f (AP t)).2.2.2⟩
     .exact D a z x
   .cases g
theorem uz{c:Aa}{i:Bo}(l:looks c=J i){h:BP}(e:xh c i.em h=X):h.Fits:=by
 have f:=EZ l;simp only[xh,BP.small,As,Dl]at e;obtain⟨⟨o,p,j,q⟩,_,_,k,m⟩:=e;have⟨g1,g2⟩:=YG f _ _ _ _ k;refine⟨z,z,j,z,λa b=>by have:=g1 a b;omega,λa b=>?_,λa b=>?_⟩
 .grind [List.getElem?_of_mem,wC,P1]
 .have:=EM.1 m a b;simp only[Hx,As,Dl]at this;obtain⟨_,_,_,g,r,_⟩:=this;rcases hxn:c.nodes[a.node.toNat]? with _|n
  .rw[hxn]at g;cases g
  .have⟨v,_,hv,v0,v1,_⟩:=f.node _ n hxn;grind
def IQ(p:Aa)(l:List Az):Nat×Nat:=l.foldl (λa g=>match p.def? g.ip with|some d=>(a.1+U d.ac,a.2+U d.be)|none=>a) (0,1)
structure SW(p:Aa)(sz:Al)(s:BP)(i:Nat)(g:Az)(d:Bc):Prop:=
 ip:p.def? g.ip=J d
 at_:Jd s.be g.at_
 len:(U g.env:Int)=((OB p sz)[g.ip.toNat]?).getD 0
 v6:g.env.all (C4.inB p (U s.ac) (U s.be))=X
 mine:Lx d (IQ p (s.bv.take i)).1 (IQ p (s.bv.take i)).2 g=X
 ac:∀(j:Nat) ch,d.ac[j]?=J ch->∃q,s.ac[(IQ p (s.bv.take i)).1+j]?=J q/\q.group=i/\q.index=j/\q.at_=g.place d ch.at_
structure gQ(p:Aa)(s:BP)(q:Fc):Prop:=
 len:U q.queue<=12
 dead:U q.queue=0\/A8 s.be q.at_=Z
 msgs:∀m∈q.queue,P1 p (U s.ac) (U s.be) (Ea p s q) m=X
structure E0(p:Aa)(sz:Al)(s:BP):Prop:=
 small:s.small=X
 tree:Ia s.be
 dead:∀(i:Nat) x,1<=i->s.be[i]?=J x->x.dead=X\/A8 s.be x.in_=Z
 grp:∀(i:Nat) g,s.bv[i]?=J g->∃d,SW p sz s i g d
 tot:IQ p s.bv=(U s.ac,U s.be)
 que:∀(c:Nat) q,s.ac[c]?=J q->gQ p s q
 wait:∀w∈s.waits,Hx p sz s w=X
variable{l m:List CD}
theorem rQ:Xi l m=X↔ ∀a∈m,a.dead=X\/A8 l a.in_=false:=by induction m with|nil=>simp[Xi]|cons a m b=>grind [Xi]
theorem cJ(p:Aa)(l:List Az)(g:Az){d:Bc}(h:p.def? g.ip=J d):IQ p (l++[g])=((IQ p l).1+U d.ac,(IQ p l).2+U d.be):=by grind [IQ]
variable{g:Az}
theorem cK{b:Aa}{l:List Az}{a:Nat}{d:Bc}(e:l[a]?=J g)(c:b.def? g.ip=J d):IQ b (l.take (a+1))=((IQ b (l.take a)).1+U d.ac,(IQ b (l.take a)).2+U d.be):=by grind [List.take_add_one,cJ]
theorem Xa{h:Aa}{i:BP}{d:Bc}{f c:Nat}:∀{l:List HJ} {j:Nat},Rl h i d g f c j l=X↔ ∀(a:Nat) b,l[a]?=J b->jO h i d g f (j+a) (c+(j+a)) b=X
 |[],j=>by simp[Rl]|x::l,j=>by
  rw[Rl,As,Xa (j:=j+1)];constructor
  .grind
  .intro e;refine⟨e 0 x rfl,λa b k=>?_⟩;have:=e (a+1) b zCN;grind
theorem lP{p:Aa}{sz:Al}{s:BP}:∀{l:List Az} {i:Nat},s.bv.drop i=l->i<=(U s.bv)->
 (Pq p (OB p sz) s i (IQ p (s.bv.take i)).1 (IQ p (s.bv.take i)).2 l=X↔IQ p s.bv=(U s.ac,U s.be)/\∀(a:Nat) g,i<=a->s.bv[a]?=J g->∃d,p.def? g.ip=J d/\wg p (OB p sz) s a (IQ p (s.bv.take a)).1 (IQ p (s.bv.take a)).2 g d=X)
 |[],i,hd,hi=>by
  have c:U s.bv<=i:=by have:=congrArg U hd;simp at this;omega
  grind [Pq]
 |g::l,i,hd,hi=>by
  have b:s.bv[i]?=J g:=by have:=congrArg (λl=>l[0]?) hd;simpa using this
  have c:=l_ b;have e:s.bv.drop (i+1)=l:=by rw[Aq b]at hd;exact(T2 hd).2
  rw[Pq];rcases hdf:p.def? g.ip with _|d
  .grind
  .have f:=lP (p:=p) (sz:=sz) (s:=s) e c;rw[cK b hdf]at f;grind
variable{j:Nat}{a:HJ}
theorem OQ{e:Aa}{f:BP}{c:Nat}{d:Bc}{b:Fc}(m:f.bv[c]?=J g)(l:e.def? g.ip=J d)(k:d.ac[j]?=J a)(h:b.group=c)(i:b.index=j):Ea e f b=a.many:=by grind [Aa.def?,Ea]
theorem Cf{p:Aa}{n:Int}{d:Bc}(h:p.def? n=J d):0<=n/\p.defs[n.toNat]?=J d:=by grind [Aa.def?]
theorem wE{h:Aa}{l:Al}{b:BP}(k:∀(e:Nat) g,b.bv[e]?=J g->∃d,SW h l b e g d):∀(c:Nat),c<=(U b.bv)->∀f,f<(IQ h (b.bv.take c)).1->∃e g d j a,e<c/\b.bv[e]?=J g/\SW h l b e g d/\d.ac[j]?=J a/\f=(IQ h (b.bv.take e)).1+j
 |0,_,f,i=>by simp[IQ]at i|c+1,hn,f,i=>by
  have⟨g,hgn⟩:=g_ (l:=b.bv) (i:=c) z;have⟨d,hd⟩:=k c g hgn;rw[cK hgn hd.ip]at i;by_cases m:f<(IQ h (b.bv.take c)).1
  .have⟨e,g,d,j,a,h1,h2⟩:=wE k c z f m;grind
  .have⟨a,hch⟩:=g_ (l:=d.ac) (i:=f-(IQ h (b.bv.take c)).1) (by dsimp only at i;omega);grind
structure ua(p:Aa)(sz:Al)(s:BP)(c:Nat)(q:Fc)(i j:Nat)(g:Az)(d:Bc)(ch:HJ):Prop:=
 grp:s.bv[i]?=J g
 st:SW p sz s i g d
 cha:d.ac[j]?=J ch
 at_:c=(IQ p (s.bv.take i)).1+j
 group:q.group=i
 index:q.index=j
 place:q.at_=g.place d ch.at_
theorem E0.chn{f:Aa}{k:Al}{b:BP}(l:∀(c:Nat) g,b.bv[c]?=J g->∃d,SW f k b c g d)(n:IQ f b.bv=(U b.ac,U b.be)){e:Nat}{i:Fc}(m:b.ac[e]?=J i):∃c j g d a,ua f k b e i c j g d a:=by have⟨c,g,d,j,a,h1,h2,h3,h4,h5⟩:=wE l (U b.bv) (D4 _) e zCN;have⟨q2,h,h7,h8,h9⟩:=h3.ac j a h4;rw[<-h5,m]at h;cases h;exact⟨c,j,g,d,a,h2,h3,h4,h5,h7,h8,h9⟩
def AM9{h:Aa}{i:Al}{c:BP}(b:E0 h i c):xh h i c=true:=by
 simp only[xh,As];refine⟨b.small,AHO b.tree,rQ.2 λr p=>?_,(lP (p:=h) (sz:=i) (s:=c) (l:=c.bv) (i:=0) rfl z).2 ⟨b.tot,λn g e k=>?_⟩,EM.2 b.wait⟩
 .obtain⟨n,e⟩:=Ci p;rw[List.getElem?_drop]at e;exact b.dead _ r z e
 .have⟨d,hd⟩:=b.grp n g k;refine⟨d,hd.ip,?_⟩;simp only[wg,As,Dl];refine⟨hd.at_,hd.len,hd.v6,hd.mine,Xa.2 λj a l=>?_⟩;have⟨q,hq,q1,q2,q3⟩:=hd.ac j a l;have f:=b.que _ q hq;rw[I9,jO,hq];simp only[wC,As,Dl,Qr,It,EM];exact⟨q1,q2,q3,f.len,f.dead,λm o=>by rw[<-OQ k hd.ip l q1 q2];exact f.msgs m o⟩
structure Za(s s':BP):Prop:=
 sp:∀(i:Nat) x,s.be[i]?=J x->s'.be[i]?=J x
 gr:∀(i:Nat) g,s.bv[i]?=J g->s'.bv[i]?=J g
 ch:∀(c:Nat) q,s.ac[c]?=J q->∃l,s'.ac[c]?=J {q with queue:=q.queue++l}
theorem J8(s:BP):Za s s:=⟨λ_ _ h=>h,λ_ _ h=>h,λc q h=>⟨[],by simpa using h⟩⟩
def za{g h i:BP}(e:Za g h)(f:Za h i):Za g i:=by refine⟨λa c b=>f.sp a c (e.sp a c b),λa c b=>f.gr a c (e.gr a c b),λa j b=>?_⟩;have⟨l,h3⟩:=e.ch a j b;have⟨l2,h4⟩:=f.ch a _ h3;grind
theorem NP{g:Type}{a:List e}{b:List g}(h:∀(c:Nat) x,a[c]?=J x->∃f,b[c]?=J f):U a<=(U b):=by
 by_cases i:U a=0
 .omega
 .have⟨x,hx⟩:=g_ (l:=a) (i:=U a-1) z;grind
variable{b:BP}
def Za.ns{a:BP}(c:Za a b):U a.be<=(U b.be):=NP λf g e=>⟨_,c.sp f g e⟩
def Za.nc{a:BP}(c:Za a b):U a.ac<=(U b.ac):=NP λg h f=>by obtain⟨l,e⟩:=c.ch g h f;exact⟨_,e⟩
variable{f h:Nat}
theorem AFG{c:Aa}{a b:Nat}{e:C4}(i:a<=f)(j:b<=h)(g:e.inB c a b=X):e.inB c f h=true:=by grind [C4.inB]
theorem Ic{c:Aa}{a b:Nat}{l:List C4}(g:a<=f)(i:b<=h)(e:l.all (C4.inB c a b)=X):l.all (C4.inB c f h)=true:=by grind [AFG]
def KB{c:List CD}{b:Int}(e:U l<=(U c))(a:Jd l b):Jd c b:=⟨a.1,by have:=a.2;omega⟩
theorem HS{a:BP}(e:Za a b){i:Int}(c:Jd a.be i):A8 b.be i=A8 a.be i:=by have⟨x,hx⟩:=g_ (l:=a.be) (i:=i.toNat) (by have:=c.1;have:=c.2;omega);rw[A8,A8,e.sp _ _ hx,hx]
theorem ACR{h:Aa}{f g:Nat}{env:List C4}(q:env.all (C4.inB h f g)=X)(b:Bz)(a:b.formed (U env)=X):(b.value env).inB h f g=true:=by
 obtain⟨op,t,k⟩:=b;by_cases c:op=1
 .subst c;rw[VO];rcases k with _|⟨i,_|⟨j,_|⟨m,l⟩⟩⟩<;>simp[Bz.formed]at a;simp[C4.inB,a]
 by_cases e:op=2
 .subst e;rw[SO];have⟨hn,hl⟩:=Pn a;grind
 obtain⟨n,o,p,i,j,rfl,r,s⟩:=Ru a c e;grind [VN,UU,C4.inB]
theorem uy{k:Aa}{n:Al}{c:BP}(b:E0 k n c){l:List Fc}(h:U l=U c.ac)(r:∀(e:Nat) f,c.ac[e]?=J f->∃m,l[e]?=J {f with queue:=m}/\gQ k c {f with queue:=m}):E0 k n {c with ac:=l}:=by
 have s:=b.small;simp[BP.small]at s;refine⟨by grind [BP.small],b.tree,b.dead,λv g o=>?_,by rw[h];exact b.tot,λe f i=>?_,λw t=>?_⟩
 .have⟨d,hd⟩:=b.grp v g o;refine⟨d,hd.ip,hd.at_,hd.len,by rw[h];exact hd.v6,hd.mine,λj a p=>?_⟩;have⟨f,h1,h2⟩:=hd.ac j a p;grind
 .have⟨q0,h0⟩:=g_ (l:=c.ac) (i:=e) (by rw[<-h];exact l_ i);have⟨m,h3,h4⟩:=r e q0 h0;rw[h3]at i;cases i;exact⟨h4.len,h4.dead,λm q=>by rw[h];exact h4.msgs m q⟩
 .have:=b.wait w t;grind [Hx]
theorem cz{c:Aa}{j:Al}{a:BP}(g:E0 c j a){b:Nat}{e:Fc}(n:a.ac[b]?=J e){l:List (List C4)}(m:gQ c a {e with queue:=l}):E0 c j {a with ac:=a.ac.set b {e with queue:=l}}:=by
 refine uy g AG λf i h=>?_;rw[F7];by_cases k:b=f
 .grind
 .rw[Co k];exact⟨i.queue,h,g.que f i h⟩
theorem zZ{a:BP}{b:Nat}{f:Fc}(h:a.ac[b]?=J f)(l:List (List C4)):Za a {a with ac:=a.ac.set b {f with queue:=f.queue++l}}:=by
 refine⟨λ_ _ c=>c,λ_ _ c=>c,λi j e=>?_⟩;dsimp only;rw[F7];by_cases g:b=i
 .subst g;rw[h]at e;cases e;rw[D3 rfl,D3 (l_ h)];exact⟨l,rfl⟩
 .rw[Co g];exact⟨[],by simpa using e⟩
theorem Nh{c:Aa}{f:Al}{e:BP}(a:E0 c f e){l:List IK}(q:U l<=40)(m:∀p∈l,Hx c f e p=X):E0 c f {e with waits:=l}:=by have k:=a.small;simp[BP.small]at k;exact⟨by grind [BP.small],a.tree,a.dead,λn g j=>by obtain⟨d,b⟩:=a.grp n g j;exact⟨d,b.ip,b.at_,b.len,b.v6,b.mine,b.ac⟩,a.tot,λh o i=>by have:=a.que h o i;exact⟨this.len,this.dead,this.msgs⟩,m⟩
structure Cb(p:Aa)(sz:Al)(s:BP)(j:HK):Prop:=
 n0:0<=j.node
 size:sz[j.node.toNat]?=J (U j.env:Int)
 at_:Jd s.be j.at_
 live:A8 s.be j.at_=Z
 v6:j.env.all (C4.inB p (U s.ac) (U s.be))=X
def Qo{e:Aa}{g:Al}{f:BP}{j:HK}(a:Cb e g f j)(c:Za f b):Cb e g b j:=⟨a.n0,a.size,KB c.ns a.at_,by rw[HS c a.at_];exact a.live,Ic c.nc c.ns a.v6⟩
theorem NM{a:Aa}{e:Al}{i:BP}{j:HK}(g:Ar a e)(f:Cb a e i j):∃b l,a.nodes[j.node.toNat]?=J b/\Cq a (U j.env) b=X/\Hv a (U j.env) b=J l/\(∀c∈l,0<=c.1/\e[c.1.toNat]?=J c.2)/\(U j.env)<=5000:=by have h:=l_ f.size;rw[g.len]at h;have⟨b,hx⟩:=g_ h;have⟨s0,l,h1,h2,h3,h4,h5,h6⟩:=g.node _ b hx;rw[f.size]at h1;grind
theorem Uk{c:Aa}{f:Al}{k:BP}{j:HK}{g:CF}{l:List (Int×Int)}(b:Cb c f k j)(m:¬g.op=4)(h:Hv c (U j.env) g=J l)(n:∀e∈l,0<=e.1/\f[e.1.toNat]?=J e.2)(o:Nat):∀i∈Bj g o j.at_ j.env,Cb c f k i:=by
 intro i a;rw[Bj]at a;split at a
 .rename_i p q;rw[Hv,Co m]at h;cases h;have:=n (p,U j.env) (by grind [Cg]);rw[AS]at a;subst a;exact⟨this.1,this.2,b.at_,b.live,b.v6⟩
 .cases a
theorem xR{a:Int}(b:Jd l a):CX (l++m) a=CX l a:=by have:=b.1;have:=b.2;grind [CX]
def UW:∀{c:Nat} {b:Int},Jd l b->Cc l c b=X->Cc (l++m) c b=X
 |0,b,f,a=>a|c+1,b,f,a=>by
  rw[Cc]at a⊢;by_cases e:b=0
  .simp[e]
  .simp[e]at a⊢;rw[xR f];exact⟨KB AG a.1,UW a.1 a.2⟩
theorem SK:∀{l:List Dy} {i:Nat},EG i l=X->∀(t:Nat) B0,l[t]?=J B0->0<=B0.in_/\B0.in_<=((i+t:Nat):Int)
 :=by intro x;induction x<;>grind [EG]
theorem K3(d:Bc)(g:Az)(i:Nat):∀(l:List HJ) (k:Nat),(Ev d g i k l).length=U l
 :=by intro x;induction x<;>grind [Ev]
theorem IB(d:Bc)(g:Az)(i:Nat):∀(l:List HJ) (k t:Nat),(Ev d g i k l)[t]?=(l[t]?).map λc=>(⟨(i:Int),((k+t:Nat):Int),g.place d c.at_,[]⟩:Fc)
 :=by intro x;induction x<;>grind [Ev]
theorem Om{d:Bc}:∀{l:List Dy} {k:Nat} {j:HK},j∈DH d g k l->∃(t:Nat) (B0:Dy),l[t]?=J B0/\j=⟨B0.node,g.place d ((k+t:Nat)+1),g.env⟩
 |[],k,j,h=>by cases h|B0::l,k,j,h=>by
  rw[DH]at h;rcases Cs.1 h with rfl|h
  .exact⟨0,B0,rfl,rfl⟩
  .have⟨t,B0,h1,h2⟩:=Om h;exact⟨t+1,B0,by grind,by grind⟩
structure GU(p:Aa)(sz:Al)(s:BP)(j:HK)(x:CF)(d:Bc):Prop:=
 wd:E0 p sz s
 job:Cb p sz s j
 node:p.nodes[j.node.toNat]?=J x
 op:x.op=4
 n0:0<=x.n
 ip:p.defs[x.n.toNat]?=J d
 ok:VS d
 grp:((OB p sz)[x.n.toNat]?)=J ((U j.env:Int)+d.own)
 rules:∀r∈d.rules,0<=r.node/\sz[r.node.toNat]?=J ((U j.env:Int)+d.own+B9 d r.d7)
 be:∀B0∈d.be,0<=B0.node/\sz[B0.node.toNat]?=J ((U j.env:Int)+d.own)
 kid:∃k,x.kids=[k]/\0<=k/\sz[k.toNat]?=J ((U j.env:Int)+d.own)
def rV{a:Aa}{e:Al}{s:BP}{j:HK}{b:CF}(g:Ar a e)(q:E0 a e s)(o:Cb a e s j)(c:a.nodes[j.node.toNat]?=J b)(h:b.op=4):∃d,GU a e s j b d:=by
 have⟨n1,n2,_⟩:=FI g c h;have⟨d,hd⟩:=g_ (l:=a.defs) (i:=b.n.toNat) z;have n:=Bd g hd;have⟨i,x2,s0,f,h2,h3,m,h5,h6,h7,h8,h9,k,h10,h11,h12⟩:=n.node;have p:i=j.node.toNat:=by
  by_cases l:i=j.node.toNat
  .exact l
  .exact absurd h3 (g.diff i j.node.toNat x2 b l f h2 c h)
 subst p;rw[c]at f;cases f;rw[o.size]at m;cases m;exact⟨d,q,o,c,h,n1,hd,n.ok,h7,h8,h9,k,h10,h11,h12⟩
theorem OC{c:Aa}{f:Al}{e:BP}{b:Nat}{d:Bc}(a:SW c f e b g d):d.own<=(U g.env):=by have h:=a.mine;grind [Lx,SC]
def wG{c:Aa}{h:Al}{f:BP}{i:Nat}{e:Fc}{m:Nat}{d:Bc}(k:Ar c h)(b:ua c h f i e m j g d a):Jd f.be e.at_:=by rw[b.place];have l:=Bd k (Cf b.st.ip).2;have⟨c1,c2,_⟩:=l.ok.chan a (AP b.cha);exact oI b.st.mine (OC b.st) b.st.at_ b.st.v6 c1 c2
def Il{e:Aa}{k:Al}{f:BP}(l:Ar e k)(b:E0 e k f){c:Nat}{q:Fc}(h:f.ac[c]?=J q):vV e f q:=by have⟨i,j,g,d,a,hc⟩:=E0.chn b.grp b.tot h;have⟨d0,d1⟩:=Cf hc.st.ip;refine⟨wG l hc,by rw[hc.group];omega,by rw[hc.index];omega,⟨g,d,a,by rw[hc.group];exact hc.grp,d0,d1,by rw[hc.index];exact hc.cha⟩,(b.que c q h).len⟩
section
variable{p:Aa}{c:Al}{s:BP}{j:HK}{x:CF}{d:Bc}
def GU.env(h:GU p c s j x d):(Aj s d x.n j).env.length=U j.env+d.own:=by simp[Aj,SC]
def GU.mine(h:GU p c s j x d):Lx d (U s.ac) (U s.be) (Aj s d x.n j)=true:=by
 have e:U j.env+d.own-U d.ac-U d.be=U j.env:=by unfold Bc.own;omega
 rw[Lx,Dl,h.env,e,Aj,List.drop_left]
theorem GU.place(b:GU p c s j x d){a:Int}(e:1<=a)(f:a<=(U d.be)):(Aj s d x.n j).place d a=(U s.be:Int)+(a-1):=Yx b.mine (by rw[b.env];omega) e f
def Yy(g:Az)(d:Bc):g.place d 0=g.at_:=by simp[Az.place]
def HD(d:Bc)(g:Az)(l:List Dy):(EU d g l).length=U l:=by simp[EU]
theorem GU.spot(a:GU p c s j x d){n:Int}(k:0<=n)(f:n<=(U d.be)):Jd (s.be++EU d (Aj s d x.n j) d.be) ((Aj s d x.n j).place d n)/\A8 (s.be++EU d (Aj s d x.n j) d.be) ((Aj s d x.n j).place d n)=false:=by
 by_cases e:n=0
 .subst e;rw[Yy];have:=a.job.at_;refine⟨KB AG this,?_⟩;have g:=a.job.live;have b:(Aj s d x.n j).at_=j.at_:=rfl;rw[b];rw[A8]at g⊢;have h:=this.1;have i:=this.2;grind
 .rw[a.place z f];refine⟨⟨z,by simp[HD];omega⟩,?_⟩;rw[A8,EL z,EU,BY];cases d.be[((U s.be:Int)+(n-1)).toNat-U s.be]? <;>rfl
theorem GU.v6(h:GU p c s j x d):(Aj s d x.n j).env.all (C4.inB p (U s.ac+U d.ac) (U s.be+U d.be))=true:=by
 rw[Aj,S1,As];refine⟨Ic z z h.job.v6,?_⟩;rw[Hp,S1,As];constructor
 .grind [C4.inB]
 grind [C4.inB]
theorem GU.tree(b:GU p c s j x d):Ia (s.be++EU d (Aj s d x.n j) d.be):=by
 have g:=b.wd.tree;refine⟨by simp;have:=g.pos;omega,by rw[xR ⟨z,by have:=g.pos;omega⟩];exact g.top,λe h=>?_⟩;have key:∀(i a:Nat),a<i->a<U d.be->∃f,Cc (s.be++EU d (Aj s d x.n j) d.be) f ((U s.be:Int)+a)=true:=by
  intro i;induction i with
  |zero=>intro a q;omega
  |succ i t=>
   intro a q r;have⟨B0,hy⟩:=g_ r;have⟨y0,y1⟩:=SK b.ok.spot a B0 hy;have A:CX (s.be++EU d (Aj s d x.n j) d.be) ((U s.be:Int)+a)=(Aj s d x.n j).place d B0.in_:=by rw[CX,EL z,EU,BY,show((U s.be:Int)+a).toNat-U s.be=a by omega,hy];rfl
   have w:=(b.spot (n:=B0.in_) y0 z).1;have:∃f,Cc (s.be++EU d (Aj s d x.n j) d.be) f ((Aj s d x.n j).place d B0.in_)=true:=by
    by_cases m:B0.in_=0
    .rw[m,Yy];exact⟨_,UW b.job.at_ (g.climbs _ b.job.at_)⟩
    .rw[b.place z z];have:=t (B0.in_-1).toNat z z
     rwa [show(((B0.in_-1).toNat:Nat):Int)=B0.in_-1 by omega]at this
   obtain⟨f,k⟩:=this;refine⟨f+1,?_⟩;grind [Cc]
 by_cases o:e<U s.be
 .have l:Jd s.be e:=⟨h.1,o⟩;exact Pa AG (UW l (g.climbs e l))
 .have v:=h.1;have n:=h.2;simp only[D1,HD]at n;have⟨f,k⟩:=key (U d.be) (e-U s.be).toNat z z;rw[show(U s.be:Int)+((e-U s.be).toNat:Nat)=e by omega]at k;exact Pa z (VZ h k)
theorem GU.ext(e:GU p c s j x d):Za s (CA s d (Aj s d x.n j)):=by
 refine⟨λi b a=>?_,λi b a=>?_,λi b a=>⟨[],?_⟩⟩
 .show(s.be++_)[i]?=_;grind
 .show(s.bv++_)[i]?=_;grind
 .show(s.ac++_)[i]?=_;rw[D8 (l_ a)];simpa using a
def AFg{s b:BP}(m:Za s b){c:Fc}{e j:Nat}{g:Az}{d:Bc}{a:HJ}(l:s.bv[e]?=J g)(k:p.def? g.ip=J d)(i:d.ac[j]?=J a)(f:c.group=e)(h:c.index=j):Ea p b c=Ea p s c:=by rw[OQ l k i f h,OQ (m.gr e g l) k i f h]
theorem AGa{l:List CD}(f:Ia l){a:Nat}(i:1<=a){e:CD}(h:l[a]?=J e):Jd l e.in_:=by have j:=l_ h;have b:=f.climbs a ⟨z,z⟩;obtain⟨c,g⟩:∃c,U l=c+1:=⟨U l-1,z⟩;rw[g]at b;have:=(N0 z b).1;grind [CX]
theorem AFz{b c f h:Nat}{a:Int}{m:List C4}(g:b<=f)(i:c<=h)(e:P1 p b c a m=X):P1 p f h a m=true:=by grind [P1,Ic]
theorem AHn{s b:BP}(a:Za s b){e:IK}(f:Hx p c s e=X):Hx p c b e=true:=by simp only[Hx,As,Dl,It]at*;obtain⟨g,l,h,i,j,k⟩:=f;exact⟨KB a.ns g,by grind [HS],h,i,j,Ic a.nc a.ns k⟩
theorem GU.sok'(Q:Ar p c)(b:GU p c s j x d)(A:(CA s d (Aj s d x.n j)).ac.length<=60/\(CA s d (Aj s d x.n j)).be.length<=24/\(CA s d (Aj s d x.n j)).bv.length<=40):E0 p c (CA s d (Aj s d x.n j)):=by
 have f:=b.ext;have M:=b.wd.small;simp[BP.small]at M;have F:p.def? x.n=J d:=by rw[Aa.def?,D3 b.n0];exact b.ip
 have D:(CA s d (Aj s d x.n j)).ac.length=U s.ac+U d.ac:=by simp[CA,K3]
 have L:(CA s d (Aj s d x.n j)).be.length=U s.be+U d.be:=by simp[CA,HD]
 have N:∀e,e<=(U s.bv)->(CA s d (Aj s d x.n j)).bv.take e=s.bv.take e:=λe q=>IS q;refine⟨?_,b.tree,λe t q O=>?_,λe g H=>?_,?_,λo r V=>?_,λY W=>AHn f (b.wd.wait Y W)⟩
 .simp[BP.small];exact⟨A.2.1,A.2.2,A.1,M.2.2.2⟩
 .by_cases k:e<U s.be
  .have P:s.be[e]?=J t:=by
    have:(s.be++EU d (Aj s d x.n j) d.be)[e]?=J t:=O
    rwa [D8 k]at this
   rw[HS f (AGa b.wd.tree q P)];exact b.wd.dead e t q P
  .right;have:(s.be++EU d (Aj s d x.n j) d.be)[e]?=J t:=O;rw[EL z,EU,BY]at this;rcases hz:d.be[e-U s.be]? with _|B
   .rw[hz]at this;cases this
   .rw[hz]at this;cases this;have⟨z0,z1⟩:=SK b.ok.spot _ B hz;have:=l_ hz;exact(b.spot (n:=B.in_) z0 z).2
 .by_cases k:e<U s.bv
  .have i:s.bv[e]?=J g:=by
    have:(s.bv++[Aj s d x.n j])[e]?=J g:=H
    rwa [D8 k]at this
   have⟨d2,hd2⟩:=b.wd.grp e g i;refine⟨d2,hd2.ip,KB f.ns hd2.at_,hd2.len,Ic f.nc f.ns hd2.v6,by rw[N e z];exact hd2.mine,λn a K=>?_⟩;have⟨r,h1,h2,h3,h4⟩:=hd2.ac n a K;have⟨l,hl⟩:=f.ch _ r h1;grind
  .have i:(s.bv++[Aj s d x.n j])[e]?=J g:=H;have T:=l_ i;rw[D1,I3]at T;obtain rfl:e=U s.bv:=z;rw[EL z]at i;simp at i;subst i;have C:(IQ p ((CA s d (Aj s d x.n j)).bv.take (U s.bv)))=(U s.ac,U s.be):=by rw[N _ z,F3,b.wd.tot]
   refine⟨d,F,KB f.ns b.job.at_,?_,by rw[D,L];exact b.v6,by rw[C];exact b.mine,λn a K=>?_⟩
   .have:=b.grp;rw[show(Aj s d x.n j).ip=x.n from rfl,this,b.env];simp
   .rw[C];refine⟨⟨U s.bv,n,(Aj s d x.n j).place d a.at_,[]⟩,?_,rfl,rfl,rfl⟩;show(s.ac++Ev d (Aj s d x.n j) (U s.bv) 0 d.ac)[U s.ac+n]?=_;grind [IB]
 .show IQ p (s.bv++[Aj s d x.n j])=_;rw[cJ p _ _ (d:=d) F,b.wd.tot,D,L]
 .have h:(s.ac++Ev d (Aj s d x.n j) (U s.bv) 0 d.ac)[o]?=J r:=V;by_cases k:o<U s.ac
  .rw[D8 k]at h;have w:=b.wd.que o r h;have⟨e,n,g,d2,a,hc⟩:=E0.chn b.wd.grp b.wd.tot h;have R:=wG Q hc;exact⟨w.len,by rw[HS f R];exact w.dead,λm v=>by rw[AFg f hc.grp hc.st.ip hc.cha hc.group hc.index];exact AFz f.nc f.ns (w.msgs m v)⟩
  .rw[EL z,IB]at h;rcases hz:d.ac[o-U s.ac]? with _|B
   .rw[hz]at h;cases h
   .rw[hz]at h;cases h;exact⟨AG,.inl rfl,λm v=>by cases v⟩
end
abbrev pA(p:Aa):y:=.agg [.d (.co (p.free.map CB)),.d (.co (p.nodes.map Bg)),.d (.co (p.defs.map Br)),nI p.main]
abbrev sA(s:BP):y:=.agg [.d (.co (s.be.map CZ)),.d (.co (s.bv.map CY)),.d (.co (s.ac.map Fg)),.d (.co (s.waits.map Bf))]
structure XF(p:Aa)(sz:Al)(s:BP)(w:IK)(x:CF):Prop:=
 n0:0<=w.node
 node:p.nodes[w.node.toNat]?=J x
 op:x.op=6\/x.op=7\/x.op=8
 at_:Jd s.be w.at_
 live:A8 s.be w.at_=Z
 size:sz[w.node.toNat]?=J (U w.env:Int)
 len:U w.env<=5000
 n:¬x.op=7->0<=x.n/\x.n<U w.env
 v6:w.env.all (C4.inB p (U s.ac) (U s.be))=X
theorem Ou{c:Aa}{g:Al}{i:BP}{e:IK}(o:Ar c g)(h:Hx c g i e=X):∃f,XF c g i e f:=by
 simp only[Hx,As,Dl,It]at h;obtain⟨j,k,m,a,b,n⟩:=h;rcases hx:c.nodes[e.node.toNat]? with _|f
 .rw[hx]at a;cases a
 .rw[hx]at a;simp[Ov]at a;have⟨v,l,h7,h8,h9,h10,_⟩:=o.node _ f hx;rw[h7]at b;have b:(U e.env:Int)=v:=b;rw[<-b]at h7 h8 h9 h10;refine⟨f,m,hx,a,j,k,h7,z,λp=>?_,n⟩;grind [Cq,bz]
def XF.val{k:Aa}{l:Al}{b:BP}{e:IK}{c:CF}(g:XF k l b e c)(j:¬c.op=7):∃a,e.env[c.n.toNat]?=J a/\JI e.env c.n=a/\(a.kind=4->Jd b.be a.n/\∃f,b.be[a.n.toNat]?=J f/\A8 b.be a.n=f.dead):=by have:=g.n j;have⟨a,hv⟩:=g_ (l:=e.env) (i:=c.n.toNat) z;refine⟨a,hv,by rw[JI,hv];rfl,λi=>?_⟩;have h:=EM.1 g.v6 a (AP hv);simp[C4.inB,i]at h;have⟨f,hy⟩:=g_ (l:=b.be) (i:=a.n.toNat) z;exact⟨h,f,hy,by simp[A8,hy]⟩
structure ACw(p:Aa)(sz:Al)(s:BP)(g:Az)(d:Bc)(r:C6):Prop:=
 at0:0<=r.at_
 at1:r.at_<=(U d.be)
 place:Jd s.be (g.place d r.at_)
 j0:0<U r.d7
 j1:U r.d7<=3
 join:∀c∈r.d7,0<=c/\c<U d.ac/\0<=g.own d X c/\∃q,s.ac[(g.own d X c).toNat]?=J q/\(U q.queue)<=12/\QB s (g.own d X c)=U q.queue
theorem AFM{d:Bc}{r:C6}:∀{l:Al} {i:Nat},joinsOk d r i l=X->∀c∈l,0<=c/\c<U d.ac
 :=by intro x;induction x<;>grind [joinsOk,Ho]
def Mh{c:Aa}{h:Al}{e:BP}{i:Nat}{g:Az}{d:Bc}{j:C6}(s:Ar c h)(w:E0 c h e)(x:e.bv[i]?=J g)(b:SW c h e i g d)(v:j∈d.rules):ACw c h e g d j:=by have m:=(Bd s (Cf b.ip).2).ok;have n:=m.pp j v;simp[Bt]at n;obtain⟨⟨k,l⟩,o,p,r⟩:=n;refine⟨k,l,oI b.mine (OC b) b.at_ b.v6 k l,o,p,λf t=>?_⟩;have⟨c0,c1⟩:=AFM r f t;have⟨a,hch⟩:=g_ (l:=d.ac) (i:=f.toNat) z;have⟨q,hq,_⟩:=b.ac _ a hch;have m:=KG b.mine c0 c1;have:(g.own d X f).toNat=(IQ c (e.bv.take i)).1+f.toNat:=z;refine⟨c0,c1,z,q,by rw[this];exact hq,(w.que _ q hq).len,by rw[QB,this,hq];rfl⟩
theorem oG{l:u}(a:0∈l):Dq l=[]:=by
 induction l with
 |nil=>simp at a
 |cons c l b=>
  rw[Dq];rcases Cs.1 a with a|a
  .subst a;rfl
  .simp[b a]
theorem EP{e c:Type}{i:e->List c}{b:Nat}:∀{l:List e},(∀a∈l,(i a).length<=b)->(l.flatMap i).length<=(U l)*b
 :=by intro a;induction a<;>grind [Nat.succ_mul]
