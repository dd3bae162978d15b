/- P -/
import Derived.KernelRfl
import Derived.Test.YtbinfhpngacfgaaGreatOn10
set_option linter.all false
set_option maxRecDepth 99999
set_option maxHeartbeats 0
open Go renaming Oper->G5,TypeId->Hk,Program->H5,FuncId->IY,Code->KH,Operand->LF,Tmp->L2,Func->OY
open List renaming replicate->Sm,take->TL,range->V5,length->U
open Nat renaming beq->WO,ble->WY
open Go.IntKind renaming i64->SE
open Option renaming some->J,none->I
open Bool renaming true->X,false->Z
namespace Go
variable{p:Prop}
def zCX(h:p:=by simpa using k):p:=h
def zCZ(h:p:=by simp only[go_sem]):p:=h
def zCh(h:p:=by split<;>omega):p:=h
def zCs(h:p:=by unfold BS;omega):p:=h
def zCu(h:p:=by grind [List.drop_eq_getElem_cons]):p:=h
def zC5(h:p:=by simp only[Bd.okR,h,F8,Ls]):p:=h
def zDS(h:p:=by grind [AI,q_a,List.suffix_cons]):p:=h
end Go
namespace Go
variable{p:Prop}
def zAM(h:p:=by
 clear b
 (repeat' (first|simp only[*,go_sem]|(refine sx ?_ ?_<;>intro c)|refine sy z λa f e=>?_|simp(disch:=first|assumption|omega) only[Ad]))
 all_goals grind [CC.formed]):p:=h
def zAr(h:p:=by
 clear b
 (repeat' (first|simp only[*,go_sem]|(refine sx ?_ ?_<;>intro e)|refine sy z λa g f=>?_|simp(disch:=first|assumption|omega) only[Ad,Vy]))
 all_goals grind [CC.ok]):p:=h
def zA3(h:p:=by rw[gK];rw[e.1,Ax f,F6,show EA d k=Z by simp[EA];omega,F8]):p:=h
def zA4(h:p:=by rw[VL];rw[e.1,Ax f,F6,show Bx d c=Z by simp[Bx];omega,F8]):p:=h
def zBW(h:p:=by have:=congrArg U b;simp at this):p:=h
def zBa(h:p:=by refine f.1 (b+1) z ⟨z,⟨?_⟩⟩;rw[e.1,Ax c,F6,ft z];rfl):p:=h
def zBg(h:p:=by simp[Ph];cases Pe i.kind (.d (.str a)) (.d (.str c))<;>rfl):p:=h
def zB6(h:p:=by exact .inl ⟨rfl,rfl⟩):p:=h
end Go
namespace Go.Abs
variable{P:H5}{C:DH}{A:List Hk}
abbrev N6:=List (IY×List y×y)
def N6.look:N6->IY->List y->Option y
 |[],_,_=>I|(g,bs,r)::l,f,az=>match WO g f with
  |true=>match y.q_r bs az with|true=>J r|false=>N6.look l f az
  |false=>N6.look l f az
def N6.Known(P:H5)(C:DH)(e:N6):Prop:=∀b a c,(b,a,c)∈e->KL P C (.fn b) a [] [] Z I=.ok (.ret c,[])
theorem N6.look_mem:∀{a:N6} {c:IY} {b:List y} {e:y},a.look c b=J e->(c,b,e)∈a
 :=by intro f;induction f<;>grind [N6.look,Nat.eq_of_beq_eq_true,y.q_q]
def N6.ask(a:N6)(c:IY)(b:List y):S->u->Bool->Option u->Option y
 |[],[],Z,I=>a.look c b|_,_,_,_=>I
def Km(P:H5)(C:DH)(c:N6)(b:Nat):Nat->Ah
 |0=>λ_ _ _ _ _ _=>.err [25]|n+1=>λh args e f raw ci=>match h with
  |.fn a=>match c.ask a args e f raw ci with|some r=>.ok (.ret r,[])|none=>match C.rg a with|true=>UD P C (Km P C c b n) b a args e f raw ci|false=>.err [41,a]
  |.round g r=>match raw with|true=>Jc C (Km P C c b n) b g r args e f ci|false=>.err [42]
variable{T:N6}{m:Nat}
def Xp(f:T.Known P C):∀{n:Nat} {q:Qu} {c:BG×S},ask (Km P C T m n) q=.ok c->ask (KL P C) q=.ok c
 |0,q,c,g=>by simp[ask,Km]at g|n+1,⟨j,args,g,π,raw,ci⟩,c,a=>by
  simp[ask,Km]at a⊢;cases j with
  |fn k=>
   simp only at a;split at a
   .rename_i h b;cases a;unfold N6.ask at b;split at b
    .exact f _ _ _ (N6.look_mem b)
    .cases b
   .split at a
    .rename_i i;have⟨L,hL⟩:=SX a;exact uh i (n:=m) (hL _ m (D2 _) λq _ h e=>Xp f e)
    .cases a
  |round o p=>
   simp only at a;split at a
   .rename_i l;have⟨L,hL⟩:=NG a;exact jA (n:=m) (hL _ m (D2 _) λq _ h e=>Xp f e)
   .cases a
variable{f:IY}{k:List y}{r:y}
def N2(b:T.Known P C)(m c:Nat)(a:Km P C T m c (.fn f) k [] [] Z I=.ok (.ret r,[])):KL P C (.fn f) k [] [] Z I=.ok (.ret r,[]):=Xp (q:=⟨.fn f,k,[],[],Z,I⟩) b a
def N6.q_o:N6.Known P C []:=λ_ _ _ h=>by cases h
def N6.q_n(b:KL P C (.fn f) k [] [] Z I=.ok (.ret r,[]))(c:T.Known P C):N6.Known P C ((f,k,r)::T):=λh g i e=>by
 rcases DO.1 e with a|a
 .cases a;exact b
 .exact c _ _ _ a
variable{P:H5}{C:DH}{K:Ah}{c:Fr}{b n i:Nat}{Q:Di->St->Prop}
def Wp(C:DH)(K:Ah)(c:Fr)(b:Nat)(f:KH)(g:St)(Q:Di->St->Prop):Prop:=∃n e a,exec C K c n b f g=.ok (e,a)/\Q e a
theorem W6{n b:Nat}{e:KH}{f:St}{r:Di×St}(a:exec C K c n b e f=.ok r)(g:n<=m):exec C K c m b e f=.ok r:=by have⟨L,hL⟩:=Qt n b e f (E.good_of a);rw[hL K m g (λ_ _ _ a=>a),a]
def ZZ(C:DH)(K:Ah)(c:Fr)(b:Nat)(f:KH)(Q:Di->St->Prop):Di->St->Prop
 |.normal,a=>Wp C K c b f a Q|e,a=>Q e a
def Kd(c:Nat)(Q:Di->St->Prop):Di->St->Prop
 |.exit b,a=>match WO b c with|true=>Q .normal a|false=>Q (.exit b) a
 |e,a=>Q e a
def Po(C:DH)(K:Ah)(c:Fr)(b:Nat)(e f:KH)(a:St)(Q:Di->St->Prop):y->Prop
 |.d (.bool X)=>Wp C K c b e a Q|.d (.bool Z)=>Wp C K c b f a Q|_=>False
def JW(C:DH)(K:Ah)(c:Fr)(e:Array G5)(b n:Nat)(al:Nat->Bool)(a:List G5)(i:Nat)(f:St)(Q:Di->St->Prop):Prop:=match EF C K c e b al a i f with|.ok ((I,d8),_)=>Q .normal {d8 with base:=b+n}|.ok ((J v,d8),_)=>Q (.of v) {d8 with base:=b+n}|.err _=>False
def Jk(C:DH)(K:Ah)(c:Fr)(h:Array G5)(b n:Nat)(al:Nat->Bool)(e:List (Nat×Nat))(a:List Fp)(g:List G5)(i:Nat)(j:St)(Q:Di->St->Prop):Prop:=match EF C K c h b al g i j with|.ok ((I,d8),f)=>FG c.π b (a++f) e=X/\Q .normal {d8 with base:=b+n}|.ok ((J v,d8),f)=>FG c.π b (a++f) e=X/\Q (.of v) {d8 with base:=b+n}|.err _=>False
theorem RV(e k:KH)(h:St)(i:O4 C c.f e=I):Wp C K c b (.seq e k) h Q=Wp C K c b e h (ZZ C K c b k Q):=by
 refine propext ⟨λ⟨n,g,d8,a,hq⟩=>?_,λ⟨n,g,d8,a,hq⟩=>?_⟩
 .rcases n with _|n
  .simp[exec]at a
  .simp[exec,i]at a;cases f:exec C K c n b e h with
   |err s=>rw[f]at a;cases a
   |ok r=>
    rw[f]at a;obtain⟨j,p⟩:=r;refine⟨n,j,p,f,?_⟩;cases j<;>simp only[Ep]at a
    .exact⟨n,g,d8,a,hq⟩
    all_goals (cases a;exact hq)
 .cases g with|normal=>obtain⟨m,o,q,t,l⟩:=hq;refine⟨max n m+1,o,q,?_,l⟩;grind [exec,W6,Ep]|_=>exact⟨n+1,_,d8,by simp[exec,i,a,Ep],hq⟩
def pr(C:DH)(K:Ah)(c:Fr)(b:Nat)(f g:KH)(a:St)(Q:Di->St->Prop):Option m5->Prop
 |none=>Wp C K c b f a (ZZ C K c b g Q)|some e=>match e.act c a with|.ok (o,d8)=>Q o d8|.err _=>False
theorem ALX(e:Nat)(f:Array G5)(d:Bool)(j:KH)(i:St):Wp C K c b (.seq (.region e f d) j) i Q=pr C K c b (.region e f d) j i Q (C.spec c.f e):=by
 rcases hs:C.spec c.f e with _|m
 .exact RV _ _ _ (by simp[O4,hs])
 .have l:O4 C c.f (.region e f d)=J m.act:=by simp[O4,hs]
  refine propext ⟨λ⟨n,h,g,a,hq⟩=>?_,λa=>?_⟩
  .rcases n with _|n
   .simp[exec]at a
   .grind [exec,pr]
  .simp[pr]at a;split at a
   .rename_i h g k;exact⟨1,h,g,by simp[exec,l];exact k,a⟩
   .exact a.elim
theorem ACZ(e f:KH)(a:St):pr C K c b e f a Q I=Wp C K c b e a (ZZ C K c b f Q):=rfl
def ALY(e g f:KH)(a:St):Wp C K c b (.seq (.seq e g) f) a Q=Wp C K c b (.seq e g) a (ZZ C K c b f Q):=RV _ _ _ rfl
def ALW(a:LF)(f h g:KH)(e:St):Wp C K c b (.seq (.cond a f h) g) e Q=Wp C K c b (.cond a f h) e (ZZ C K c b g Q):=RV _ _ _ rfl
def ALV(a:Nat)(f g:KH)(e:St):Wp C K c b (.seq (.block a f) g) e Q=Wp C K c b (.block a f) e (ZZ C K c b g Q):=RV _ _ _ rfl
def ALU(a:Nat)(f:KH)(e:St):Wp C K c b (.seq (.label a) f) e Q=Wp C K c b (.label a) e (ZZ C K c b f Q):=RV _ _ _ rfl
def AIN(e:KH)(a:St):Wp C K c b (.scope e) a Q=Wp C K c b e a Q:=by
 refine propext ⟨λ⟨n,o,d8,h,hq⟩=>?_,λ⟨n,o,d8,h,hq⟩=>⟨n+1,o,d8,by simp[exec];exact h,hq⟩⟩;rcases n with _|n
 .simp[exec]at h
 .exact⟨n,o,d8,by simp[exec]at h;exact h,hq⟩
def ALP(k:LF)(f g:KH)(e:St):Wp C K c b (.cond k f g) e Q=Po C K c b f g e Q (ev e.env.get k):=by
 have o:∀{m:y} {f g:KH} (l:∀n,exec C K c (n+1) b (.cond k f g) e=NZ m (exec C K c n b f e) (exec C K c n b g e)),Wp C K c b (.cond k f g) e Q=Po C K c b f g e Q m:=by
  intro m f g l;refine propext ⟨λ⟨n,j,h,a,i⟩=>?_,λa=>?_⟩
  .rcases n with _|n
   .simp[exec]at a
   .rw[l]at a;unfold NZ at a;split at a
    .rename_i p;cases p
     .exact⟨n,j,h,a,i⟩
     .exact⟨n,j,h,a,i⟩
    .cases a
  .unfold Po at a;split at a
   .obtain⟨n,j,h,a,i⟩:=a;exact⟨n+1,j,h,by rw[l];exact a,i⟩
   .obtain⟨n,j,h,a,i⟩:=a;exact⟨n+1,j,h,by rw[l];exact a,i⟩
   .exact a.elim
 exact o λn=>by simp[exec]
theorem AIJ(e:Nat)(i:KH)(h:St):Wp C K c b (.block e i) h Q=Wp C K c e i h (Kd e Q):=by
 refine propext ⟨λ⟨n,j,d8,a,hq⟩=>?_,λ⟨n,j,d8,a,hq⟩=>?_⟩
 .rcases n with _|n
  .simp[exec]at a
  .simp[exec]at a;cases f:exec C K c n e i h with
   |err m=>rw[f]at a;cases a
   |ok r=>rw[f]at a;obtain⟨k,l⟩:=r;refine⟨n,k,l,f,?_⟩;cases k with|exit g=>grind [JX,Kd]|_=>cases a;exact hq
 .cases j with
  |exit g=>
   simp[Kd]at hq;rcases hk:WO g e with _|_
   .rw[hk]at hq;exact⟨n+1,.exit g,d8,by simp[exec,a,JX,hk],hq⟩
   .rw[hk]at hq;exact⟨n+1,.normal,d8,by simp[exec,a,JX,hk],hq⟩
  |_=>exact⟨n+1,_,d8,by simp[exec,a,JX],hq⟩
theorem Vj{f:KH}{h:St}{e:Di}{a:St}(i:∀n,exec C K c (n+1) b f h=.ok (e,a)):Wp C K c b f h Q=Q e a:=by
 refine propext ⟨λ⟨n,o1,st1,h1,g⟩=>?_,λg=>⟨1,e,a,i 0,g⟩⟩;rcases n with _|n
 .simp[exec]at h1
 .grind
def ALZ(a:St):Wp C K c b .skip a Q=Q .normal a:=Vj λ_=>rfl
def qm(e:Nat)(a:St):Wp C K c b (.label e) a Q=Q .normal a:=Vj λ_=>rfl
def ANm(a:St):Wp C K c b .ret a Q=Q .ret a:=Vj λ_=>rfl
def ALR(a:Nat)(e:St):Wp C K c b (.exit a) e Q=Q (.exit a) e:=Vj λ_=>rfl
theorem Si(g:Nat)(i:Array G5)(e:Bool)(j:St):Wp C K c b (.region g i e) j Q=match EZ C K c g i e j with|.ok (h,a)=>Q h a|.err _=>False:=by
 cases f:EZ C K c g i e j with
 |ok r=>obtain⟨h,a⟩:=r;exact Vj λn=>by simp[exec,f]
 |err k=>
  refine propext ⟨λ⟨n,h,a,h1,hq⟩=>?_,λf=>f.elim⟩;rcases n with _|n
  .simp[exec]at h1
  .grind [exec]
def AC1(i:Nat)(a:Array G5)(g:CW)(h:S)(e:Nat)(f:List Df):Wp C K c b (.region i a Z) ⟨g,h,e,f⟩ Q=JW C K c a e a.size (λ_=>X) a.toList 0 ⟨g,h,e,f⟩ Q:=by rw[Si];unfold EZ JW;simp only[TO,Bool.true_or];cases EF C K c a e (λ_=>X) a.toList 0 ⟨g,h,e,f⟩with|err m=>rfl|ok r=>obtain⟨⟨j,k⟩,l⟩:=r;cases j<;>simp[LY]
def AIK(f:Nat)(a:Array G5)(h:CW)(j:S)(e:Nat)(g:List Df)(k:C.f9 c.f f=[]):Wp C K c b (.region f a X) ⟨h,j,e,g⟩ Q=JW C K c a e a.size (λi=>C.alone c.f f i) a.toList 0 ⟨h,j,e,g⟩ Q:=by rw[Si];unfold EZ JW;simp only[RS,PL];cases EF C K c a e (λi=>C.alone c.f f i) a.toList 0 ⟨h,j,e,g⟩with|err o=>rfl|ok r=>obtain⟨⟨l,m⟩,n⟩:=r;cases l<;>simp[LY,k,FG]
def ALQ(f:Nat)(e:Array G5)(h:CW)(j:S)(a:Nat)(g:List Df){k:List (Nat×Nat)}(m:C.f9 c.f f=k):Wp C K c b (.region f e X) ⟨h,j,a,g⟩ Q=Jk C K c e a e.size (λi=>C.alone c.f f i) k [] e.toList 0 ⟨h,j,a,g⟩ Q:=by rw[Si];unfold EZ Jk;simp only[RS,PL,Cs];cases EF C K c e a (λi=>C.alone c.f f i) e.toList 0 ⟨h,j,a,g⟩with|err q=>rfl|ok r=>obtain⟨⟨o,p⟩,l⟩:=r;subst m;cases o<;>cases n:FG c.π a l (C.f9 c.f f)<;>simp[LY,n]
theorem pw(e:KH)(a:St):ZZ C K c b e Q .normal a=Wp C K c b e a Q:=rfl
theorem ACa(f:KH)(a:Nat)(e:St):ZZ C K c b f Q (.exit a) e=Q (.exit a) e:=rfl
theorem AHT(e:KH)(a:St):ZZ C K c b e Q .ret a=Q .ret a:=rfl
theorem AHS(f:KH)(e:y)(a:St):ZZ C K c b f Q (.of e) a=Q (.of e) a:=rfl
theorem Zy(b:Nat)(a:St):Kd b Q .normal a=Q .normal a:=rfl
theorem ra(b:Nat)(a:St):Kd b Q .ret a=Q .ret a:=rfl
theorem rZ(c:Nat)(b:y)(a:St):Kd c Q (.of b) a=Q (.of b) a:=rfl
def jf(a:Nat)(b:St):Kd a Q (.exit a) b=Q .normal b:=by simp[Kd]
def Sy(b a:Nat)(c:St)(e:WO a b=Z):Kd b Q (.exit a) c=Q (.exit a) c:=by simp[Kd,e]
theorem sF(e f:KH)(a:St):Po C K c b e f a Q (.d (.bool X))=Wp C K c b e a Q:=rfl
theorem kG(f e:KH)(a:St):Po C K c b f e a Q (.d (.bool Z))=Wp C K c b e a Q:=rfl
variable{t:Bool}
def kH{e f:KH}{a:St}(g:t=X->Wp C K c b e a Q)(h:t=Z->Wp C K c b f a Q):Po C K c b e f a Q (.d (.bool t)):=by
 cases t
 .exact h rfl
 .exact g rfl
variable{a:Array G5}{al:Nat->Bool}{l:List G5}{e:CW}{h:S}{j:Nat}{g:List Df}{p:List (Nat×Nat)}{o:List Fp}
def Jy(C:DH)(K:Ah)(c:Fr)(a:Array G5)(b n:Nat)(al:Nat->Bool)(l:List G5)(i:Nat)(k:Option L2)(e:CW)(h:S)(j:Nat)(g:List Df)(Q:Di->St->Prop):Option DF->Prop
 |some f=>J4 c.ci f.δ=X/\JW C K c a b n al l (i+1) ⟨Ds e k f.v,h.q_d f.δ,j,g⟩ Q|none=>False
def EU(C:DH)(K:Ah)(c:Fr)(a:Array G5)(b n:Nat)(al:Nat->Bool)(l:List G5)(i:Nat)(Q:Di->St->Prop):RY->Prop
 |.ok e _=>JW C K c a b n al l (i+1) e Q|.of f e=>al i=X/\Q (.of f) {e with base:=b+n}|.err _=>False
theorem AG0:JW C K c a b n al [] i ⟨e,h,j,g⟩ Q=Q .normal ⟨e,h,b+n,g⟩:=rfl
theorem dB(f:G5)(g:St):JW C K c a b n al (f::l) i g Q=EU C K c a b n al l i Q (DZ C K c a ((b+i)::c.π) f g):=by
 unfold JW;simp only[EF,K5];cases m:DZ C K c a ((b+i)::c.π) f g with
 |err e=>rfl|of q h=>grind [EU]
 |ok h j=>simp only[EU,JW];cases k:EF C K c a b al l (i+1) h with|err e=>rfl|ok r=>obtain⟨⟨f,p⟩,o⟩:=r;cases f<;>rfl
def EC(C:DH)(K:Ah)(c:Fr)(a:Array G5)(b n:Nat)(al:Nat->Bool)(l:List G5)(i:Nat)(f:Option L2)(op:Op)(e:St)(g:Bool)(Q:Di->St->Prop):y->Prop
 |.d (.bool t)=>match t==g with|true=>EU C K c a b n al l i Q (Jj C K c ((b+i)::c.π) op f e)|false=>JW C K c a b n al l (i+1) {e with env:=Ds e.env f (.kw [])} Q
 |.kw []=>JW C K c a b n al l (i+1) {e with env:=Ds e.env f (.kw [])} Q|_=>False
theorem AAs(e:Option L2)(op:Op)(f:St):EC C K c a b n al l i e op f X Q (.d (.bool X))=EU C K c a b n al l i Q (Jj C K c ((b+i)::c.π) op e f):=rfl
theorem AAn(e:Option L2)(op:Op)(f:St):EC C K c a b n al l i e op f Z Q (.d (.bool Z))=EU C K c a b n al l i Q (Jj C K c ((b+i)::c.π) op e f):=rfl
theorem AAr(f:Option L2)(op:Op):EC C K c a b n al l i f op ⟨e,h,j,g⟩ X Q (.d (.bool Z))=JW C K c a b n al l (i+1) ⟨Ds e f (.kw []),h,j,g⟩ Q:=rfl
theorem AAo(f:Option L2)(op:Op):EC C K c a b n al l i f op ⟨e,h,j,g⟩ Z Q (.d (.bool X))=JW C K c a b n al l (i+1) ⟨Ds e f (.kw []),h,j,g⟩ Q:=rfl
def fU{e:Option L2}{op:Op}{f:St}{g:Bool}(h:t=X->EC C K c a b n al l i e op f g Q (.d (.bool X)))(j:t=Z->EC C K c a b n al l i e op f g Q (.d (.bool Z))):EC C K c a b n al l i e op f g Q (.d (.bool t)):=by
 cases t
 .exact j rfl
 .exact h rfl
theorem ABt(e:Option L2)(op:Op)(g:Hk)(pos:String)(af:Array Edge)(f:St):
 JW C K c a b n al (⟨e,op,g,pos,af,I⟩::l) i f Q=EU C K c a b n al l i Q (Jj C K c ((b+i)::c.π) op e f):=by grind [dB,DZ,Oa]
def qI(m:Option L2)(op:Op)(r:Option DF):EU C K c a b n al l i Q (EJ c op m ⟨e,h,j,g⟩ r)=Jy C K c a b n al l i m e h j g Q r:=by
 rcases r with _|k
 .rfl
 .simp only[EJ,Jy,M6,Cv,CY];rcases hw:J4 c.ci k.δ with _|_
  .simp[EU]
  .simp only[true_and];have:∀f:S->RY,lJ h k.δ f=f (h.q_d k.δ):=λf=>by
    unfold lJ;split
    .rename_i o;rw[o];rfl
    .simp
   rw[this];simp[EU]
def pG(f:Option L2)(k:y):Jy C K c a b n al l i f e h j g Q (J ⟨k,[]⟩)=JW C K c a b n al l (i+1) ⟨Ds e f k,h,j,g⟩ Q:=by
 have:J4 c.ci []=true:=by cases m:c.ci<;>rfl
 simp only[Jy,this,true_and];rfl
theorem vA(m:Option L2)(o:y)(f:u×Obj)(k:S):Jy C K c a b n al l i m e h j g Q (J ⟨o,f::k⟩)=(J4 c.ci (f::k)=X/\JW C K c a b n al l (i+1) ⟨Ds e m o,h.q_d (f::k),j,g⟩ Q):=rfl
section
variable(o:Option L2)(p:u)
theorem AJp(x:LF):EU C K c a b n al l i Q (Jj C K c p (.panic x) o ⟨e,h,j,g⟩)=EU C K c a b n al l i Q (Ht ⟨e,h,j,g⟩ (ev e.get x)):=rfl
theorem AJo(f:Call):EU C K c a b n al l i Q (Jj C K c p (.defer f) o ⟨e,h,j,g⟩)=EU C K c a b n al l i Q (J8 c e.get f o ⟨e,h,j,g⟩):=rfl
def FW(C:DH)(K:Ah)(c:Fr)(a:Array G5)(b n:Nat)(al:Nat->Bool)(l:List G5)(i:Nat)(k:List y)(o:Option L2)(e:CW)(h:S)(j:Nat)(g:List Df)(Q:Di->St->Prop)(r:E (BG×S)):Prop:=EU C K c a b n al l i Q (FH c k o ⟨e,h,j,g⟩ r)
def Xo(C:DH)(K:Ah)(c:Fr)(a:Array G5)(b n:Nat)(al:Nat->Bool)(l:List G5)(i:Nat)(o:Option L2)(p:u)(e:CW)(h:S)(j:Nat)(g:List Df)(Q:Di->St->Prop)(args:List y):y->Prop
 |f=>EU C K c a b n al l i Q (Fe C K c p f args o ⟨e,h,j,g⟩)
theorem AJq(f:LF)(k:Array LF)(m:Array Hk):EU C K c a b n al l i Q (Jj C K c p (.call ⟨.value f,k,m⟩) o ⟨e,h,j,g⟩)=Xo C K c a b n al l i o p e h j g Q (k.toList.map (ev e.get)) (ev e.get f):=rfl
def E9:BG×S->BG×S
 |(.ret v,h)=>(.ret v,h)|(.of v,_)=>(.of v,[])
def Bq(K:Ah)(f:IY)(a:List y)(own:u):E (BG×S):=match K (.fn f) a [] own Z I with|.ok r=>.ok (E9 r)|.err l=>.err l
theorem ADt{K:Ah}{f:IY}{c:List y}{own:u}{b:y}{h:S}(a:Bq K f c own=.ok (.ret b,h)):K (.fn f) c [] own Z I=.ok (.ret b,h):=by
 unfold Bq at a;split at a
 .rename_i r j;obtain⟨e,i⟩:=r;cases e with|ret g=>grind [E9]|of g=>simp[E9]at a
 .cases a
theorem WX(c:Fr)(k:List y)(o:Option L2)(b:St)(f:IY)(a:List y)(own:u):FH c k o b (K (.fn f) a [] own Z I)=FH c k o b (Bq K f a own):=by unfold Bq;cases K (.fn f) a [] own Z I with|err l=>rfl|ok r=>obtain⟨e,h⟩:=r;cases e<;>rfl
def PH(C:DH)(K:Ah)(c:Fr)(a:Array G5)(b n:Nat)(al:Nat->Bool)(l:List G5)(i:Nat)(o:Option L2)(p:u)(e:CW)(h:S)(j:Nat)(g:List Df)(Q:Di->St->Prop)(f:IY)(k:List y)(m:Mode):Prop:=EU C K c a b n al l i Q (E4 K c p f k o ⟨e,h,j,g⟩ m)
theorem AD5(f:IY)(first cap args:List y):Xo C K c a b n al l i o p e h j g Q args (.fn f first cap)=PH C K c a b n al l i o p e h j g Q f (first++args++cap) (C.mode f):=by grind [Xo,PH,Fe,CM]
def gB(C:DH)(K:Ah)(c:Fr)(a:Array G5)(b n:Nat)(al:Nat->Bool)(l:List G5)(i:Nat)(o:Option L2)(p:u)(e:CW)(h:S)(j:Nat)(g:List Df)(Q:Di->St->Prop)(f:IY)(k:List y)(own:u):Option (List y)->Prop
 |some m=>FW C K c a b n al l i k o e h j g Q (K (.fn f) m [] own Z I)|none=>False
theorem uU(f:IY)(k:List y)(m:(Fk h.get k).isSome):PH C K c a b n al l i o p e h j g Q f k .auto=gB C K c a b n al l i o p e h j g Q f k [] (Fk h.get k):=by grind [PH,E4,CM,gB,FW]
theorem ABg(f:IY)(k:List y)(m:(Fk h.get k).isSome):PH C K c a b n al l i o p e h j g Q f k .own=gB C K c a b n al l i o p e h j g Q f k p (Fk h.get k):=by grind [PH,E4,CM,gB,FW]
theorem AAg(f:IY)(k:List y)(own:u)(m:List y):gB C K c a b n al l i o p e h j g Q f k own (J m)=FW C K c a b n al l i k o e h j g Q (Bq K f m own):=by grind [gB,FW,WX]
theorem vE(k:List y)(f:y)(m:S)(p:flat f=X):FW C K c a b n al l i k o e h j g Q (.ok (.ret f,m))=JW C K c a b n al l (i+1) ⟨Ds e o f,h,j,g⟩ Q:=by grind [FW,FH,CY,EU]
theorem AB2(k:List y)(f:y)(m:S)(p:flat f=X):FW C K c a b n al l i k o e h j g Q (.ok (.of f,m))=(al i=X/\Q (.of f) ⟨e,h,b+n,g⟩):=by grind [FW,FH,EU]
theorem AB1(k:List y)(f:y)(m:S)(p:flat f=Z)(q:Dj f m=I):FW C K c a b n al l i k o e h j g Q (.ok (.ret f,m))=(J4 c.ci (k.flatMap (mark h.get))=X/\JW C K c a b n al l (i+1) ⟨Ds e o f,m++h.q_d (k.flatMap (mark h.get)),j,g⟩ Q):=by simp only[FW,FH,CY,p,LD,q,Bz,Cv];grind [EU]
end
def wC(h:S)(e:u)(raw:Bool)(a:BG->S->Prop):Option y->Prop
 |some b=>match raw with|true=>a (.ret b) h|false=>match e with
   |[]=>match frz h.get b with|some c=>a (.ret c) []|none=>False
   |_=>a (.ret b) h
 |none=>False
def ZQ(C:DH)(e:CW)(h:S)(a:List ResultVar):Option y:=match SO (E1 C ⟨e,h,0,[]⟩) a with|some []=>J (.kw [])|some [v]=>J v|some b=>J (.kw b)|none=>I
def M8(C:DH)(b:List ResultVar)(c:u)(raw:Bool)(e:CW)(a:BG->S->Prop):E (Option y×S)->Prop
 |.ok (I,h)=>wC h c raw a (ZQ C e h b)|.ok (J v,h)=>a (.of v) h|.err _=>False
def MY(C:DH)(ci:Option u)(c:List ResultVar)(e:u)(raw:Bool)(b:BG->S->Prop):Di->St->Prop
 |.ret,a=>M8 C c e raw a.env b (EP C ci a.defs I a.heap)|.normal,a=>M8 C c e raw a.env b (EP C ci a.defs I a.heap)|.of f,a=>M8 C c e raw a.env b (EP C ci a.defs (J f) a.heap)|_,_=>False
theorem N1{f:IY}{fn:OY}{s:KH}{t:List ResultVar}{args:List y}{h:S}{j:u}{raw:Bool}{ci:Option u}{k:BG->S->Prop}(B:C.rg f=X)(A:P.funcs[f]?=J fn)(x:fn.body=J s)(H:fn.results.toList=t)(D:WY (U args) fn.ntmps=X)(L:Wp C (KL P C) {f,π:=j,raw,ci,nt:=fn.ntmps} 0 s ⟨Ej 0 args,h,0,[]⟩ (MY C ci t j raw k)):∃g a,KL P C (.fn f) args h j raw ci=.ok (g,a)/\k g a:=by
 obtain⟨n,g,b,w,m⟩:=L;subst H;have K:∀c,La C fn {b with heap:=c}=ZQ C b.env c fn.results.toList:=λc=>by
  unfold La ZQ;have e:E1 C {b with heap:=c}=E1 C ⟨b.env,c,0,[]⟩:=funext λr=>by cases r<;>rfl
  rw[e];rfl
 have key:∀p,M8 C fn.results.toList j raw b.env k p->∃g a,ZD C f fn j raw b p=.ok (g,a)/\k g a:=by
  intro p i;cases p with
  |err l=>exact i.elim
  |ok r=>
   obtain⟨M,c⟩:=r;rcases M with _|q
   .simp[M8]at i;simp only[ZD,K];rcases hv:ZQ C b.env c fn.results.toList with _|q
    .rw[hv]at i;exact i.elim
    .rw[hv]at i;simp[wC]at i;grind [M6]
   .exact⟨.of q,c,rfl,i⟩
 have v:∃o a,m7 C ci f fn j raw (.ok (g,b))=.ok (o,a)/\k o a:=by cases g with|exit N=>exact m.elim|ret=>exact key _ m|normal=>exact key _ m|of q=>exact key _ m
 obtain⟨o,a,e,F⟩:=v;refine⟨o,a,uh B (n:=n) ?_,F⟩;unfold UD;simp[A,x,D,w];exact e
variable{f:IY}{fn:OY}{j:List ResultVar}{args:List y}{q:u}{raw:Bool}{ci:Option u}
def AOB{a:KH}{h:S}{g:BG}{c:S}(m:C.rg f=X)(l:P.funcs[f]?=J fn)(k:fn.body=J a)(o:fn.results.toList=j)(n:WY (U args) fn.ntmps=X)(p:Wp C (KL P C) {f,π:=q,raw,ci,nt:=fn.ntmps} 0 a ⟨Ej 0 args,h,0,[]⟩ (MY C ci j q raw λi b=>i=g/\b=c)):KL P C (.fn f) args h q raw ci=.ok (g,c):=by obtain⟨i,b,e,rfl,rfl⟩:=N1 m l k o n p;exact e
def AOC{a:KH}{r:BG×S}(i:C.rg f=X)(h:P.funcs[f]?=J fn)(g:fn.body=J a)(l:fn.results.toList=j)(k:WY (U args) fn.ntmps=X)(m:Wp C (KL P C) {f,π:=q,raw:=Z,ci:=I,nt:=fn.ntmps} 0 a ⟨Ej 0 args,[],0,[]⟩ (MY C I j q Z λc b=>E9 (c,b)=r)):Bq (KL P C) f args q=.ok r:=by have⟨c,b,e,h2⟩:=N1 i h g l k m;unfold Bq;rw[e,<-h2]
def Bf{f:IY}{fn:OY}{b:KH}{j:List ResultVar}{args:List y}{h:S}{q:List Nat}{raw:Bool}{ci:Option (List Nat)}{a:BG->S->Prop}{e:Nat}(k:P.funcs[f]?=J fn)(p:Wp C (KL P C) {f,π:=q,raw,ci,nt:=e} 0 b ⟨Ej 0 args,h,0,[]⟩ (MY C ci j q raw a))(i:fn.body=J b:=by rfl)(o:fn.results=j.toArray:=by rfl)(n:fn.ntmps=e:=by rfl)(l:C.rg f=true:=by rfl)(m:WY (U args) fn.ntmps=true:=by rfl):∃g c,KL P C (.fn f) args h q raw ci=.ok (g,c)/\a g c:=by subst n;exact N1 l k i zDO m p
def BM{f:IY}{fn:OY}{a:KH}{j:List ResultVar}{args:List y}{q:List Nat}{r:BG×S}{b:Nat}(g:P.funcs[f]?=J fn)(m:Wp C (KL P C) {f,π:=q,raw:=Z,ci:=I,nt:=b} 0 a ⟨Ej 0 args,[],0,[]⟩ (MY C I j q Z λn c=>E9 (n,c)=r))(e:fn.body=J a:=by rfl)(l:fn.results=j.toArray:=by rfl)(k:fn.ntmps=b:=by rfl)(h:C.rg f=true:=by rfl)(i:WY (U args) fn.ntmps=true:=by rfl):Bq (KL P C) f args q=.ok r:=by subst k;exact AOC h g e (by simp[l]) i m
abbrev nI(x:Int):y:=.d (.int .i64 x)
theorem AKc(v:y)(h:S):E9 (.ret v,h)=(.ret v,h):=rfl
theorem AKb(v:y)(h:S):E9 (.of v,h)=(.of v,[]):=rfl
def P8(C:DH)(K:Ah)(c:Fr)(b:Nat)(f:KH)(Q:Di->St->Prop):Di->St->Prop
 |.normal,a=>Wp C K c b (.loop f) a Q|e,a=>Q e a
def Ud(C:DH)(K:Ah)(c:Fr)(b:Nat)(a:KH)(e:St)(Q:Di->St->Prop):Prop:=Wp C K c b a e (P8 C K c b a Q)
theorem ALS(i:KH)(g:St):Wp C K c b (.loop i) g Q=Ud C K c b i (Fs C c b g) Q:=by
 refine propext ⟨λ⟨n,f,d8,h,hq⟩=>?_,λ⟨n,f,d8,h,hq⟩=>?_⟩
 .rcases n with _|n
  .simp[exec]at h
  .simp[exec]at h;cases a:exec C K c n b i (Fs C c b g)with
   |err e=>rw[a]at h;cases h
   |ok r=>
    rw[a]at h;obtain⟨j,o⟩:=r;refine⟨n,j,o,a,?_⟩;cases j<;>simp only[Ep]at h
    .exact⟨n,f,d8,h,hq⟩
    all_goals (cases h;exact hq)
 .cases f with|normal=>obtain⟨m,l,p,q,k⟩:=hq;refine⟨max n m+1,l,p,?_,k⟩;grind [exec,U0,W6,Ep]|_=>exact⟨n+1,_,d8,by grind [exec,U0,Ep],hq⟩
theorem fk(e:KH)(a:St):P8 C K c b e Q .normal a=Wp C K c b (.loop e) a Q:=rfl
theorem Yr(f:KH)(a:Nat)(e:St):P8 C K c b f Q (.exit a) e=Q (.exit a) e:=rfl
theorem ABJ(e:KH)(a:St):P8 C K c b e Q .ret a=Q .ret a:=rfl
theorem ABI(f:KH)(e:y)(a:St):P8 C K c b f Q (.of e) a=Q (.of e) a:=rfl
theorem Dc(a:KH)(e:St):Ud C K c b a e Q=Wp C K c b a e (P8 C K c b a Q):=rfl
structure AR(p:Prop):Prop:=out:p
def AB{p:Prop}(h:p):AR p:=⟨h⟩
def M9{b c e a:Prop}(f:AR b->AR c->AR e->a)(g:b)(h:c)(i:e):a:=f ⟨g⟩ ⟨h⟩ ⟨i⟩
def Zt{b c e f a:Prop}(g:AR b->AR c->AR e->AR f->a)(h:b)(i:c)(j:e)(k:f):a:=g ⟨h⟩ ⟨i⟩ ⟨j⟩ ⟨k⟩
def YO{b c e f g a:Prop}(h:AR b->AR c->AR e->AR f->AR g->a)(i:b)(j:c)(k:e)(l:f)(m:g):a:=h ⟨i⟩ ⟨j⟩ ⟨k⟩ ⟨l⟩ ⟨m⟩
def bQ{b c e f g h a:Prop}(i:AR b->AR c->AR e->AR f->AR g->AR h->a)(j:b)(k:c)(l:e)(m:f)(n:g)(o:h):a:=i ⟨j⟩ ⟨k⟩ ⟨l⟩ ⟨m⟩ ⟨n⟩ ⟨o⟩
def gX{b c e f g h i a:Prop}(j:AR b->AR c->AR e->AR f->AR g->AR h->AR i->a)(k:b)(l:c)(m:e)(n:f)(o:g)(p:h)(q:i):a:=j ⟨k⟩ ⟨l⟩ ⟨m⟩ ⟨n⟩ ⟨o⟩ ⟨p⟩ ⟨q⟩
def xp{b c e f g h i j k a:Prop}(l:AR b->AR c->AR e->AR f->AR g->AR h->AR i->AR j->AR k->a)(m:b)(n:c)(o:e)(p:f)(q:g)(r:h)(s:i)(t:j)(v:k):a:=l ⟨m⟩ ⟨n⟩ ⟨o⟩ ⟨p⟩ ⟨q⟩ ⟨r⟩ ⟨s⟩ ⟨t⟩ ⟨v⟩
variable{o:Type}
def rounds{f:KH}(B0:o->St)(Inv:o->Prop)(m:o->Nat)(a:o)(i:Inv a)(step:∀a,Inv a->AR (∀e,m e<m a->Inv e->Ud C K c b f (B0 e) Q)->Wp C K c b f (B0 a) (P8 C K c b f Q)):Ud C K c b f (B0 a) Q:=by
 suffices h:∀g a,m a<g->Inv a->Ud C K c b f (B0 a) Q from h _ a (Nat.lt_succ_self _) i
 intro g;induction g with|zero=>intro a k;omega|succ g n=>exactλa k l=>step a l ⟨λe p j=>n e z j⟩
variable{P:H5}{C:DH}{K:Ah}{a:Fr}{b n i:Nat}{Q:Di->St->Prop}
variable{c:Array G5}{al:Nat->Bool}{l:List G5}{e:CW}{h:S}{k:Nat}{g:List Df}{s:List (Nat×Nat)}{p:List Fp}
def Ob(e:CW):Option (Option L2)->y
 |some (J t)=>e.get t|_=>.undef
def U5(c:Array G5)(e:CW)(j:Nat):y:=Ob e ((c[j]?).map (·.dst))
theorem mc(e:CW)(t:L2):Ob e (J (J t))=e.get t:=rfl
theorem tK(l:List G5)(e:CW)(j:Nat):U5 l.toArray e j=Ob e ((l[j]?).map (·.dst)):=by grind [U5]
theorem AKj(j:Option L2)(op:Op)(p:Hk)(pos:String)(af:Array Edge)(f:Nat)(m:Bool):
 JW C K a c b n al (⟨j,op,p,pos,af,J (f,m)⟩::l) i ⟨e,h,k,g⟩ Q=EC C K a c b n al l i j op ⟨e,h,k,g⟩ m Q (U5 c e f):=by
 rw[dB];simp only[DZ,Oa,U5];rcases hj:c[f]? with _|o
 .simp[Ob,EC,EU]
 .rcases hd:o.dst with _|t
  .simp[Ob,EC,EU,hd]
  .simp only[GC,hd,Gs,Ob];cases s:CW.get e t with
   |d q=>cases q with|bool r=>grind [EC,EU,CY]|_=>rfl
   |kw v=>grind [EC,EU,CY]|_=>rfl
theorem q_f(k:Nat)(v:y)(e:CW)(t:Nat):CW.get ((k,v)::e) t=if k=t then v else CW.get e t:=by grind [CW.get,Nat.eq_of_beq_eq_true,Nat.ne_of_beq_eq_false]
theorem AB6(e:CW)(t:L2)(v:y):Ds e (J t) v=(t,v)::e:=rfl
theorem AB5(e:CW)(v:y):Ds e I v=e:=rfl
theorem AMe(e:Nat->y)(t:L2):ev e (.tmp t)=e t:=rfl
theorem AJK(e:Nat->y)(f:IY):ev e (.func f)=.fn f [] []:=rfl
theorem AMd(e:Nat->y)(k:IntKind)(m:Int):ev e (.const (.int k m))=.d (.int k m):=rfl
theorem AJJ(e:Nat->y)(c:Bool):ev e (.const (.bool c))=.d (.bool c):=rfl
theorem AAD(e:Nat->y)(s:ByteArray):ev e (.const (.string s))=.d (.str s):=rfl
theorem AJP(e:Nat->y):ev e (.const (.slice I 0 0))=.d9:=rfl
theorem AJO(e:Nat->y):ev e (.const (.pointer I))=.d .nilp:=rfl
theorem AJL(e:Nat->y):ev e (.const .nilFunc)=.d .nilf:=rfl
theorem AJM(e:Nat->y):ev e (.const .nilIface)=.d .wt:=rfl
theorem AJN(e:Nat->y):ev e (.const (.map I))=.d .nilm:=rfl
def qj(a:S):J4 I a=true:=zCe
theorem AOS(k:IntKind)(a c:Int):GX .add k a c=J (.d (.int k (k.wrap (a+c)))):=rfl
theorem AOd(k:IntKind)(a c:Int):GX .sub k a c=J (.d (.int k (k.wrap (a-c)))):=rfl
theorem AOZ(k:IntKind)(a c:Int):GX .mul k a c=J (.d (.int k (k.wrap (a*c)))):=rfl
def AOU(k:IntKind)(a c:Int):GX .eql k a c=J (.d (.bool (decide (a=c)))):=by simp only[GX];congr
def AOa(k:IntKind)(a c:Int):GX .neq k a c=J (.d (.bool (!decide (a=c)))):=by simp only[GX];congr
theorem AOY(k:IntKind)(a c:Int):GX .lss k a c=J (.d (.bool (decide (a<c)))):=rfl
theorem AOX(k:IntKind)(a c:Int):GX .leq k a c=J (.d (.bool (decide (a<=c)))):=rfl
theorem AOW(k:IntKind)(a c:Int):GX .gtr k a c=J (.d (.bool (decide (c<a)))):=rfl
theorem AOV(k:IntKind)(a c:Int):GX .geq k a c=J (.d (.bool (decide (c<=a)))):=rfl
theorem AOT(k:IntKind)(a c:Int):GX .and k a c=J (.d (.int k (k.wrap ((BitVec.ofInt k.bits a&&&BitVec.ofInt k.bits c).toNat:Nat)))):=rfl
theorem AOc(k:IntKind)(a c:Int):GX .shr k a c=if c<0 then I else J (.d (.int k (a.fdiv (2 ^ min c.toNat k.bits)))):=rfl
theorem AOb(k:IntKind)(a c:Int):GX .rem k a c=if c=0 then I else J (.d (.int k (a.tmod c))):=rfl
def APQ(op:BinOp)(k:IntKind)(a c:Int)(t:Option TI):Ph op (.d (.int k a)) (.d (.int k c)) t=GX op k a c:=by simp[Ph]
def zg{g h:KH}{f:St}{c:Prop} [Decidable c](i:c->Wp C K a b g f Q)(j:¬c->Wp C K a b h f Q):Po C K a b g h f Q (.d (.bool (decide c))):=by
 by_cases e:c
 .rw[GO e];exact i e
 .rw[I6 e];exact j e
def zh(e f:KH)(c:St)(t:Bool):Po C K a b e f c Q (.d (.bool (!t)))=Po C K a b f e c Q (.d (.bool t)):=by cases t<;>rfl
variable{p:Option L2}{w:Bool}
theorem tI{op:Op}{f:St}{e:Prop} [Decidable e](g:e->EC C K a c b n al l i p op f w Q (.d (.bool X)))(h:¬e->EC C K a c b n al l i p op f w Q (.d (.bool Z))):EC C K a c b n al l i p op f w Q (.d (.bool (decide e))):=by
 by_cases j:e
 .grind
 grind
theorem tJ(p:Option L2)(op:Op)(w:Bool):EC C K a c b n al l i p op ⟨e,h,k,g⟩ w Q (.kw [])=JW C K a c b n al l (i+1) ⟨Ds e p (.kw []),h,k,g⟩ Q:=rfl
def n6(C:DH)(K:Ah)(a:Fr)(c:Array G5)(b n e:Nat)(l:List G5)(f:St)(Q:Di->St->Prop):List (Nat×Nat)->Prop
 |[]=>JW C K a c b n (λi=>C.alone a.f e i) l 0 f Q|g::s=>Jk C K a c b n (λi=>C.alone a.f e i) (g::s) [] l 0 f Q
def AIL(f:Nat)(c:Array G5)(e:CW)(h:S)(k:Nat)(g:List Df):Wp C K a b (.region f c X) ⟨e,h,k,g⟩ Q=n6 C K a c k c.size f c.toList ⟨e,h,k,g⟩ Q (C.f9 a.f f):=by
 rcases hp:C.f9 a.f f with _|⟨i,s⟩
 .rw[AIK f c e h k g hp];rfl
 .rw[ALQ f c e h k g hp];rfl
theorem zy(e:Nat)(f:St):n6 C K a c b n e l f Q []=JW C K a c b n (λi=>C.alone a.f e i) l 0 f Q:=rfl
theorem sX(e:Nat)(g:St)(f:Nat×Nat):n6 C K a c b n e l g Q (f::s)=Jk C K a c b n (λi=>C.alone a.f e i) (f::s) [] l 0 g Q:=rfl
variable{v:BG->S->Prop}
theorem AEi:MY C ci j q raw v .ret ⟨e,h,k,g⟩=M8 C j q raw e v (EP C ci g I h):=rfl
theorem kj:MY C ci j q raw v .normal ⟨e,h,k,g⟩=M8 C j q raw e v (EP C ci g I h):=rfl
theorem AEh(a:y):MY C ci j q raw v (.of a) ⟨e,h,k,g⟩=M8 C j q raw e v (EP C ci g (J a) h):=rfl
theorem ABB(ci:Option u)(p:Option y)(h:S):EP C ci [] p h=.ok (p,h):=rfl
theorem Ym(ci:Option u)(a:Option y)(h:S)(b:u)(l:List Df):EP C ci (.mark b::l) a h=EP C ci l a h:=rfl
theorem tW:M8 C j q raw e v (.ok (I,h))=wC h q raw v (ZQ C e h j):=rfl
theorem tV(a:y):M8 C j q raw e v (.ok (J a,h))=v (.of a) h:=rfl
theorem AH6(a:y):wC h q X v (J a)=v (.ret a) h:=rfl
theorem AH5{b:Nat}(a:y):wC h (b::q) Z v (J a)=v (.ret a) h:=rfl
def mB(v:BG->S->Prop):Option y->Prop
 |some a=>v (.ret a) []|none=>False
def AH4(a:y):wC h [] Z v (J a)=mB v (frz h.get a):=by simp only[wC];cases frz h.get a<;>rfl
theorem AAh(a:y):mB v (J a)=v (.ret a) []:=rfl
theorem ACI:ZQ C e h []=J (.kw []):=rfl
theorem AHK(t:L2):ZQ C e h [.tmp t]=J (e.get t):=rfl
theorem ACH(r a:ResultVar)(j:List ResultVar):ZQ C e h (r::a::j)=(SO (E1 C ⟨e,h,0,[]⟩) (r::a::j)).map .kw:=by grind [ZQ,SO]
def ACG(a:L2)(t:Hk):ZQ C e h [.cell a t]=(C.T t).bind λi=>Kq h.get i (e.get a):=by unfold ZQ;simp[SO,E1];cases(C.T t).bind λi=>Kq h.get i (e.get a)<;>rfl
theorem aJ(t:L2):E1 C ⟨e,h,k,g⟩ (.tmp t)=J (e.get t):=rfl
theorem ZS(a:L2)(t:Hk):E1 C ⟨e,h,k,g⟩ (.cell a t)=(C.T t).bind λi=>Kq h.get i (e.get a):=rfl
variable{j:Type}
theorem AGA(f:o->Option j):SO f []=J []:=rfl
def ABN(f:o->Option j)(x:o)(l:List o):SO f (x::l)=(f x).bind λA9=>(SO f l).map (A9:: ·):=by
 simp[SO];rcases f x with _|A9
 .rfl
 .cases SO f l<;>rfl
def AAq(p:Option L2)(op:Op)(e:St)(t:Bool):EC C K a c b n al l i p op e X Q (.d (.bool (!t)))=EC C K a c b n al l i p op e Z Q (.d (.bool t)):=by cases t<;>rfl
def AAp(p:Option L2)(op:Op)(e:St)(t:Bool):EC C K a c b n al l i p op e Z Q (.d (.bool (!t)))=EC C K a c b n al l i p op e X Q (.d (.bool t)):=by cases t<;>rfl
theorem AJn(a:G)(b:List y):frz a (.kw b)=(Fk a b).map .kw:=rfl
theorem AOn(g:G)(x:Ar):frz g (.d x)=J (.d x):=rfl
theorem AJf(b:G)(a:List y):frz b (.agg a)=(Jn b a).map .agg:=rfl
theorem AFL(g:G):frz g .d9=J (.d (.co [])):=rfl
theorem AJg(g:G):frz g .emp=J (.d (.co [])):=rfl
theorem AJj(a:G)(b:u)(c m:Nat):frz a (.ii b c m)=(EB a (.ii b c m)).map .d:=rfl
theorem q_c:∀(a:u),AJ a a=X
 |[]=>rfl|n::l=>by simp[AJ,q_c l]
theorem AKG(n m:Nat)(l k:u):AJ (n::l) (m::k)=if n=m then AJ l k else false:=by grind [AJ,Nat.eq_of_beq_eq_true,Nat.ne_of_beq_eq_false]
theorem m8(m:Nat)(k:u):AJ [] (m::k)=false:=rfl
theorem mz(m:Nat)(k:u):AJ (m::k) []=false:=rfl
theorem AFX(a:u):S.get [] a=none:=rfl
theorem IL(b:u)(c:Obj)(h:S)(a:u):S.get ((b,c)::h) a=if AJ b a=X then J c else S.get h a:=by grind [S.get]
theorem yH(a:u)(b:Obj):S.put [] a b=[(a,b)]:=rfl
theorem pQ(a:u)(e:Obj)(h:S)(b:u)(c:Obj):S.put ((a,e)::h) b c=if AJ a b=X then(a,c)::h else(a,e)::S.put h b c:=by grind [S.put]
theorem q_F(h:S)(a:u×Obj)(b:S):S.q_d h (a::b)=S.q_d (h.put a.1 a.2) b:=rfl
theorem puts_nil(h:S):S.q_d h []=h:=rfl
def eh(q:u)(e:CW)(h:S)(l:List u):St:={env:=e.map λp=>(p.1,ren (FE q l 0) p.2),heap:=FA h (FE q l 0) l,base:=U l,defs:=[]}
def CP:CW->List u
 |[]=>[]|p::e=>AD p.2++CP e
theorem AJ5(e:CW):(e.flatMap λa=>AD a.2)=CP e:=by induction e with|nil=>rfl|cons a e b=>rw[FN,b];rfl
def L0(e:CW):u->CW
 |[]=>[]|t::l=>(t,e.get t)::L0 e l
theorem Yp(e:CW)(l:u):(l.map λt=>(t,e.get t))=L0 e l:=by induction l with|nil=>rfl|cons b e a=>rw[By,a];rfl
def R1(q:u)(h:S)(e:CW):St:=eh q e h (DK h 1000 (Gq [] (CP e)) 0)
theorem LP(f:IY)(q:u)(ci:Option u)(c:Bool)(a:Nat):Fs C ⟨f,q,Z,ci,c,a⟩ b ⟨e,h,k,[]⟩=R1 q h (L0 e (C.live f b)):=by grind [Fs,Yp,AJ5,R1,eh]
def zR(f:IY)(q:u)(ci:Option u)(c:Bool)(a:Nat):Fs C ⟨f,q,X,ci,c,a⟩ b ⟨e,h,k,g⟩=⟨L0 e (C.live f b),h,k,g⟩:=by grind [Fs,Yp]
theorem rm(d:Df):Fs C a b ⟨e,h,k,d::g⟩=⟨L0 e (C.live a.f b),h,k,d::g⟩:=by grind [Fs,Yp]
theorem ADb(l:List u)(a:u):PY l a=if (l.any (AJ a))=X then l else l++[a]:=by grind [PY]
theorem AHI(h:S)(n:Nat)(l:List u)(i:Nat):DK h (n+1) l i=match l[i]? with|some a=>DK h n (Gq l (Cu (h.get a))) (i+1)|none=>l:=rfl
def Zk(a:u):Nat:=match a with|0::_=>0|_=>1
theorem Y2(q:u)(b:u)(r:List u)(n:Nat)(a:u):FE q (b::r) n a=if AJ b a=X then J (Zk a::n::q)else FE q r (n+1) a:=by
 have:FE q (b::r) n a=match AJ b a with|true=>J (Zk a::n::q)|false=>FE q r (n+1) a:=by
  conv=>lhs;unfold FE
  unfold Zk;rcases a with _|⟨c,l⟩
  .rfl
  .cases c<;>rfl
 grind
theorem ACq(l:u):Zk (0::l)=0:=rfl
theorem ACp(l:u):Zk (1::l)=1:=rfl
def Yu(b:Nat):Option (List Ar)->Option DF
 |some a=>if (U a)=b then J ⟨.iptr a,[]⟩else I|none=>I
theorem AJ7(c:G)(m:Int)(a:List (List Ar))(b:TI)(e:0<=m):Rm c m (.d (.co a)) b=Yu b.size a[m.toNat]? :=by grind [Rm,Yu,Nat.eq_of_beq_eq_true,Nat.ne_of_beq_eq_false]
theorem AJ8(e:G)(m:Int)(b:u)(a len:Nat)(c:TI)(f:0<=m):Rm e m (.ii b a len) c=if m.toNat<len then(match e b with|some (.f8 sz es)=>if sz=c.size/\a+m.toNat<U es then J ⟨.rt b (a+m.toNat) 0,[]⟩else I|some (.v6 sz es)=>if sz=c.size/\a+m.toNat<U es then J ⟨.rt b (a+m.toNat) 0,[]⟩else I|some (.arr sz es)=>if sz=c.size/\a+m.toNat<U es then J ⟨.rt b (a+m.toNat) 0,[]⟩else I|_=>I)else none:=by grind [Rm]
theorem ABL(b:Nat)(a:List Ar):Yu b (J a)=if (U a)=b then J ⟨.iptr a,[]⟩else none:=rfl
variable{j:Nat}
theorem ABy{m:ByteArray}{f:UInt8->DF}(q:j<U m.data.toList)(r:∀o,m.data.toList[j]?=J o->Jy C K a c b n al l i p e h k g Q (J (f o))):Jy C K a c b n al l i p e h k g Q (Option.map f m.data.toList[j]?):=zCI
theorem ABx{f:o->List Ar}{m:List o}{q:Nat}(s:j<U m)(t:∀r,m[j]?=J r->Jy C K a c b n al l i p e h k g Q (Yu q (J (f r)))):Jy C K a c b n al l i p e h k g Q (Yu q (Option.map f m[j]?)):=zCI
theorem AMl(g:G)(x:Ar):Fz g (.d x)=J x:=rfl
theorem AAU(g:G):Fz g .d9=J (.co []):=rfl
theorem AE8(g:G):Fz g .emp=J (.co []):=rfl
theorem AMm(g:G)(x:Ar):EB g (.d x)=J x:=rfl
theorem AAW(g:G):EB g .d9=J (.co []):=rfl
theorem AFC(g:G):EB g .emp=J (.co []):=rfl
theorem AFE(a:G)(b:u)(c:Nat):EB a (.ptr b c)=none:=rfl
theorem AJc(a:G)(b:u):EB a (.mp b)=none:=rfl
theorem AFF(a:G)(b:u):EB a (.yld b)=none:=rfl
theorem AJb(g:G)(f:IY)(a c:List y):EB g (.fn f a c)=none:=rfl
def mO(b:G)(a m:Nat):Option Obj->Option Ar
 |some (.arr _ es)=>(EN b es).bind λg=>(Kj g a m).map .co|some (.f8 _ es)=>(Kj es a m).map .co|some (.v6 _ es)=>(Kj es a m).map .co|_=>I
theorem AFD(a:G)(b:u)(c m:Nat):EB a (.ii b c m)=mO a c m (a b):=by grind [EB,Fz,mO]
theorem AAd(b:G)(c m e:Nat)(a:List (List y)):mO b c m (J (.arr e a))=(EN b a).bind λg=>(Kj g c m).map .co:=rfl
theorem tB(c:G)(b m e:Nat)(a:List (List Ar)):mO c b m (J (.f8 e a))=(Kj a b m).map .co:=rfl
theorem AAe(c:G)(b m e:Nat)(a:List (List Ar)):mO c b m (J (.v6 e a))=(Kj a b m).map .co:=rfl
theorem AAX(g:G):Jn g []=J []:=rfl
def SB:Option Ar->Option (List y)->Option (List y)
 |some a,J b=>J (.d a::b)|_,_=>I
theorem mL(a:Ar)(b:List y):SB (J a) (J b)=J (.d a::b):=rfl
theorem mJ(a:Option (List y)):SB I a=none:=rfl
def s7(a:G)(b:y)(c:List y):Jn a (b::c)=SB (EB a b) (Jn a c):=by simp[Jn];cases EB a b<;>cases Jn a c<;>rfl
def bp:Option y->Option (List y)->Option (List y)
 |some a,J b=>J (a::b)|_,_=>I
theorem s9(a:y)(b:List y):bp (J a) (J b)=J (a::b):=rfl
theorem s8(a:Option (List y)):bp I a=none:=rfl
def mN(x:Option y):bp x I=none:=zDM
def AFI(g:G):Fk g []=J []:=by simp[Fk]
def AAb(a:G)(b:y)(c:List y):Fk a (b::c)=bp (FM a b) (Fk a c):=by simp[Fk];cases FM a b<;>cases Fk a c<;>rfl
theorem AMk(g:G)(x:Ar):FM g (.d x)=J (.d x):=rfl
theorem AE0(b:G)(a:List y):FM b (.agg a)=(Jn b a).map .agg:=rfl
theorem AAT(g:G):FM g .d9=J (.d (.co [])):=rfl
theorem AE1(g:G):FM g .emp=J (.d (.co [])):=rfl
theorem AE4(a:G)(b:u)(c:Nat):FM a (.ptr b c)=none:=rfl
theorem AJa(a:G)(b:u):FM a (.mp b)=none:=rfl
theorem AE7(a:G)(b:u):FM a (.yld b)=none:=rfl
theorem AJZ(g:G)(f:IY):FM g (.fn f [] [])=J (.fn f [] []):=rfl
theorem AE3(a:G)(b:u)(c m:Nat):FM a (.ii b c m)=(EB a (.ii b c m)).map .d:=rfl
theorem l8(b:G)(t:Hk)(a:List y):FM b (.iface t (.agg a))=(Jn b a).map λc=>.iface t (.agg c):=rfl
theorem l9(g:G)(t:Hk)(x:Ar):FM g (.iface t (.d x))=J (.iface t (.d x)):=rfl
def AMi(x:Ar):flat (.d x)=HT x:=zDM
def AEu:flat .emp=true:=by simp[flat]
def AEt(a:List y):flat (.agg a)=JJ a:=zCe
def AEx(a:List y):flat (.kw a)=JJ a:=zCe
def AEv(a:u)(b:Nat):flat (.ptr a b)=false:=zCe
def lZ(t:Hk)(a:List y):flat (.iface t (.agg a))=JJ a:=zCe
def la(t:Hk)(x:Ar):flat (.iface t (.d x))=HT x:=zDM
theorem AAP:JJ []=true:=rfl
theorem AJV(b:Ar)(a:List y):JJ (.d b::a)=(HT b&&JJ a):=rfl
def AAO(b:List y)(a:List y):JJ (.agg b::a)=false:=by simp[JJ]
def AAQ(a:u)(b m:Nat)(c:List y):JJ (.ii a b m::c)=false:=by simp[JJ]
def AJX(a:u):flat (.mp a)=false:=by simp[flat]
def lV(a:List y)(h:S):Dj (.kw a) h=none:=by simp[Dj]
def lP(a:List y)(h:S):Dj (.agg a) h=none:=by simp[Dj]
def lU(a:u)(b:Nat)(h:S):Dj (.ptr a b) h=none:=by simp[Dj]
def se(a:u)(h:S):Dj (.mp a) h=none:=by simp[Dj]
def AAK(x:Ar)(h:S):Dj (.d x) h=none:=by simp[Dj]
theorem AAL(k:IntKind)(m:Int):HT (.int k m)=true:=rfl
theorem sf(c:Bool):HT (.bool c)=true:=rfl
theorem AAN(c:ByteArray):HT (.str c)=true:=rfl
theorem AAM(c:List (List Ar)):HT (.co c)=false:=rfl
theorem so:HT .nilp=true:=rfl
theorem sj:HT .wt=true:=rfl
theorem si:HT .nilf=true:=rfl
theorem sk:HT .nilm=true:=rfl
theorem zU(a:List y):y.cells (.agg a)=a:=rfl
theorem AI1(x:Ar):y.cells (.d x)=[.d x]:=rfl
theorem ry:y.cells .d9=[.d9]:=rfl
theorem zV:y.cells .emp=[.emp]:=rfl
theorem zW(a:u)(b m:Nat):y.cells (.ii a b m)=[.ii a b m]:=rfl
theorem zY(a:u)(b:Nat):y.cells (.ptr a b)=[.ptr a b]:=rfl
theorem rr(a:u)(b c:Nat):y.cells (.rt a b c)=[.rt a b c]:=rfl
theorem AEG(f:IY)(a c:List y):y.cells (.fn f a c)=[.fn f a c]:=rfl
theorem AEH(a:u):y.cells (.mp a)=[.mp a]:=rfl
theorem jw(t:Hk)(v:y):y.cells (.iface t v)=[.iface t v]:=rfl
theorem ru(c:List Ar):y.cells (.iptr c)=[.iptr c]:=rfl
theorem AMW(x:Ar):y.q_b (.d x)=true:=rfl
theorem AKB(x:Ar):y.q_D (.d x)=true:=rfl
theorem AA0(l:List y):y.q_D (.agg l)=true:=rfl
theorem AFj(a:u):y.q_D (.mp a)=true:=rfl
theorem AFi(f:IY)(a c:List y):y.q_D (.fn f a c)=true:=rfl
theorem zT:y.q_b .d9=true:=rfl
theorem AEC:y.q_b .emp=true:=rfl
theorem AED(a:u)(b m:Nat):y.q_b (.ii a b m)=true:=rfl
theorem AEE(a:u)(b:Nat):y.q_b (.ptr a b)=true:=rfl
theorem zS(a:u)(b c:Nat):y.q_b (.rt a b c)=true:=rfl
theorem AIz(f:IY)(a c:List y):y.q_b (.fn f a c)=true:=rfl
theorem AI0(a:u):y.q_b (.mp a)=true:=rfl
theorem rq(t:Hk)(v:y):y.q_b (.iface t v)=true:=rfl
theorem zH(c:List TK)(a b:List y):Pe (.flat c) (.agg a) (.agg b)=Iw c a b:=rfl
theorem jv:Iw [] [] []=J true:=rfl
def AQk:Option Bool->Option Bool->Option Bool
 |some a,J c=>J (a&&c)|_,_=>I
theorem yw(a c:Bool):AQk (J a) (J c)=J (a&&c):=rfl
theorem jt(a c:Bool):M4 .bool (.d (.bool a)) (.d (.bool c))=J (a==c):=rfl
theorem rp(a c:ByteArray):M4 .str (.d (.str a)) (.d (.str c))=J (a==c):=rfl
def ANk(a c:ByteArray)(i:TI):Ph .lss (.d (.str a)) (.d (.str c)) (J i)=J (.d (.bool (Op.bytesLess a.toList c.toList))):=by exact zBg
def ALK(a c:ByteArray)(i:TI):Ph .leq (.d (.str a)) (.d (.str c)) (J i)=J (.d (.bool (Op.bytesLess a.toList c.toList||a.toList==c.toList))):=by exact zBg
def ANj(a c:ByteArray)(i:TI):Ph .eql (.d (.str a)) (.d (.str c)) (J i)=(Pe i.kind (.d (.str a)) (.d (.str c))).map λt=>.d (.bool t):=by exact zBg
def ALJ(a c:Bool)(i:TI):Ph .eql (.d (.bool a)) (.d (.bool c)) (J i)=(Pe i.kind (.d (.bool a)) (.d (.bool c))).map λt=>.d (.bool t):=by simp[Ph];cases Pe i.kind (.d (.bool a)) (.d (.bool c))<;>rfl
def AH3(t:Hk)(v:y)(i:TI):Ph .neq (.iface t v) (.d .wt) (J i)=(Pe i.kind (.iface t v) (.d .wt)).map λt=>.d (.bool (!t)):=by simp[Ph];cases Pe i.kind (.iface t v) (.d .wt)<;>rfl
theorem AA6(v:Value):AO (.const v)=true:=rfl
theorem AKF(t:L2):AO (.tmp t)=false:=rfl
theorem AFl(f:IY):AO (.func f)=false:=rfl
theorem AIs(c:Bool)(op:BinOp)(x A9:y)(t:Option TI):lH c op x A9 t=kp (Ph op x A9 t) (k8 c op x A9 t):=rfl
theorem AG3(v:y)(r:Option y):kp (J v) r=J v:=rfl
theorem AG2(r:Option y):kp I r=r:=rfl
def mW:TK->BinOp->Option y
 |.iface,.eql=>J (.d (.bool X))|.iface,.neq=>J (.d (.bool Z))|_,_=>I
theorem AGa:mW .iface .eql=J (.d (.bool X)):=rfl
theorem AGb:mW .iface .neq=J (.d (.bool Z)):=rfl
def AGe(op:BinOp)(i:TI):k8 X op (.d .wt) (.d .wt) (J i)=mW i.kind op:=by obtain⟨k⟩:=i;cases k<;>cases op<;>rfl
def ANi(op:BinOp)(i:TI):Ph op (.d .wt) (.d .wt) (J i)=none:=by obtain⟨k⟩:=i;cases k<;>cases op<;>rfl
theorem ADu(a c:ByteArray):Pe .str (.d (.str a)) (.d (.str c))=J (a==c):=rfl
theorem zG(a c:Bool):Pe .bool (.d (.bool a)) (.d (.bool c))=J (a==c):=rfl
theorem rY(t:Hk)(v:y):Pe .iface (.iface t v) (.d .wt)=J false:=rfl
theorem AIq(f:IY)(a c:List y):Pe .func (.fn f a c) (.d .nilf)=J false:=rfl
theorem zI:Pe .func (.d .nilf) (.d .nilf)=J true:=rfl
def AAi(g:G)(t:Hk)(v:y):frz g (.iface t v)=FM g (.iface t v):=by simp[frz]
theorem AJk(a:G)(b:u)(c:Nat):frz a (.ptr b c)=none:=rfl
attribute [go_sem] ANk ALK ANj ALJ AH3 AA6 AKF AFl AIs AG3 AG2 AGa AGb AGe ANi ADu zG rY AIq zI AAi AJk
attribute [go_sem] zH jv yw jt rp
theorem Kx(a c:Nat):WY a c=decide (a<=c):=by grind [Nat.le_of_ble_eq_true,Nat.ble_eq_true_of_le]
def ed(a c:Nat):Nat.blt a c=decide (a<c):=Kx (a+1) c
theorem W3(a c:Nat):WO a c=decide (a=c):=by grind [Nat.eq_of_beq_eq_true,Nat.ne_of_beq_eq_false]
def VC{a:Nat}(h:a<=1073741824):(a<=BS)=True:=eq_true zCs
attribute [go_sem] Kx ed VC Iz List.replicate_succ List.replicate_zero List.flatten_cons List.flatten_nil Bool.and_self
def oo(t:Hk)(f:y)(j:flat (.iface t f)=X):EU C K a c b n al l i Q (Ht ⟨e,h,k,g⟩ (.iface t f))=(al i=X/\Q (.of (.iface t f)) ⟨e,h,b+n,g⟩):=by simp[Ht,j,EU]
def DV(v:y)(t:Bool):E (BG×S):=if t=X then .ok (.ret (.kw []),[])else .ok (.of v,[])
theorem Zp(v:y):DV v X=.ok (.ret (.kw []),[]):=rfl
theorem Wi(v:y):DV v Z=.ok (.of v,[]):=rfl
variable{o:List y}{x:Bool}
def vF{f:y}(j:x=X->FW C K a c b n al l i o p e h k g Q (DV f X))(m:x=Z->FW C K a c b n al l i o p e h k g Q (DV f Z)):FW C K a c b n al l i o p e h k g Q (DV f x):=by
 cases x
 .exact m rfl
 .exact j rfl
theorem pN{j:y}{f:Prop} [Decidable f](m:f->FW C K a c b n al l i o p e h k g Q (DV j X))(q:¬f->FW C K a c b n al l i o p e h k g Q (DV j Z)):FW C K a c b n al l i o p e h k g Q (DV j (decide f)):=by
 by_cases r:f
 .grind
 grind
attribute [go_sem] Nat.add_assoc
attribute [go_sem] Jj evalOp qI Ou
attribute [go_sem ↓] AJp AJo AJq
attribute [go_sem] AKc AKb Prod.mk.injEq oo Zp Wi AB2 AB1
attribute [go_sem] AIN ALX ALY ALW ALV ALU ACZ ALP AIJ ALZ qm ANm ALR AC1 pw ACa AHT AHS Zy ra rZ jf sF kG AG0 ABt AKj AAs AAn AAr AAo AD5 AAg pG vA AB6 AB5 AMe AJK AMd AJJ AAD AJP AJO AJL AJM AJN q_f tK mc Nk lD AOT AOc Ej ZC Q7 cy Q8 Eo QI Mu MB hJ yE IV Q9 FV RB Nm LV oe og AJ7 AJ8 ABL MZ Kq DD Kj Gi APQ AOS AOd AOZ AOU AOa AOY AOX AOW AOV AOb qj AEi kj AEh ABB Ym tW tV AH6 AH5 AH4 AAh ACI AHK ACH ACG aJ ZS AGA ABN AAq AAp tJ AJn AOn AJf AFL AJg AJj Ri zh decide_true decide_false Bool.not_true Bool.not_false AIL zy sX uU ABg vE Option.isSome_some zU AI1 ry zV zW zY rr AEG AEH jw ru AKB AA0 AFj AFi AMW zT AEC AED AEE zS AIz AI0 rq JD EK q_F puts_nil yH pQ AFX IL q_c AKG m8 mz ALS fk Yr ABJ ABI LP zR rm R1 eh CP L0 ADb Gq AHI Y2 ACq ACp ren Du Eb FA Cu AD Ab List.any_nil List.any_cons Bool.or_false Bool.false_or Bool.or_true Bool.true_or Bool.false_and Bool.and_false Int.toNat_natCast Int.natCast_nonneg List.getElem?_map List.getElem?_nil AMl AAU AE8 AMm AAW AFC AFE AJc AFF AJb AFD AAd tB AAe AAX mL mJ s7 s9 s8 mN AFI AAb AMk AE0 AAT AE1 AE4 AJa AE7 AJZ AE3 l8 l9 AMi AEu AEt AEx AEv lZ la AAP AJV AAO AAQ AJX lV lP lU se AAK List.flatMap_cons List.flatMap_nil AAL sf AAN AAM so sj si sk List.foldl_cons List.foldl_nil List.map_cons List.map_nil List.length_cons List.length_nil List.length_map List.length_append List.length_singleton List.append_assoc List.all_cons List.all_nil Option.map_some Option.bind_some List.getElem?_cons_zero List.getElem?_cons_succ List.take_succ_cons List.take_zero List.drop_succ_cons List.drop_zero List.append_nil List.nil_append List.cons_append List.size_toArray Bool.and_true Bool.true_and true_and and_true
variable{P:H5}{C:DH}{K:Ah}{a:Fr}{b n i:Nat}{Q:Di->St->Prop}
variable{k:Array G5}{al:Nat->Bool}{l:List G5}{e:CW}{h:S}{t:Nat}{s:List Df}{g:List (Nat×Nat)}{c:List Fp}
def Fj(C:DH)(K:Ah)(a:Fr)(k:Array G5)(b n:Nat)(al:Nat->Bool)(g:List (Nat×Nat))(c:List Fp)(l:List G5)(i:Nat)(Q:Di->St->Prop):RY->Prop
 |.ok e f=>Jk C K a k b n al g (c++[f]) l (i+1) e Q|.of h e=>al i=X/\FG a.π b c g=X/\Q (.of h) {e with base:=b+n}|.err _=>False
def Ov(C:DH)(K:Ah)(a:Fr)(k:Array G5)(b n:Nat)(al:Nat->Bool)(g:List (Nat×Nat))(c:List Fp)(l:List G5)(i:Nat)(p:Option L2)(e:CW)(h:S)(t:Nat)(s:List Df)(Q:Di->St->Prop)(j:List u):Option DF->Prop
 |some f=>J4 a.ci f.δ=X/\Jk C K a k b n al g (c++[⟨J j,J (f.δ.map (·.1)),Z⟩]) l (i+1) ⟨Ds e p f.v,h.q_d f.δ,t,s⟩ Q|none=>False
theorem AGz:Jk C K a k b n al g c [] i ⟨e,h,t,s⟩ Q=(FG a.π b c g=X/\Q .normal ⟨e,h,b+n,s⟩):=by grind [Jk,EF]
theorem cz(e:G5)(f:St):Jk C K a k b n al g c (e::l) i f Q=Fj C K a k b n al g c l i Q (DZ C K a k ((b+i)::a.π) e f):=by unfold Jk;simp only[EF,K5];grind [Fj,Jk,Xu]
def FO(C:DH)(K:Ah)(a:Fr)(k:Array G5)(b n:Nat)(al:Nat->Bool)(g:List (Nat×Nat))(c:List Fp)(l:List G5)(i:Nat)(p:Option L2)(op:Op)(e:St)(w:Bool)(Q:Di->St->Prop):y->Prop
 |.d (.bool x)=>match x==w with|true=>Fj C K a k b n al g c l i Q (Jj C K a ((b+i)::a.π) op p e)|false=>Jk C K a k b n al g (c++[⟨J [],J [],Z⟩]) l (i+1) {e with env:=Ds e.env p (.kw [])} Q
 |.kw []=>Jk C K a k b n al g (c++[⟨J [],J [],Z⟩]) l (i+1) {e with env:=Ds e.env p (.kw [])} Q|_=>False
theorem AHA(p:Option L2)(op:Op)(m:Hk)(pos:String)(af:Array Edge)(j:Nat)(w:Bool):
 Jk C K a k b n al g c (⟨p,op,m,pos,af,J (j,w)⟩::l) i ⟨e,h,t,s⟩ Q=FO C K a k b n al g c l i p op ⟨e,h,t,s⟩ w Q (U5 k e j):=by
 rw[cz];simp only[DZ,Oa,U5];rcases hj:k[j]? with _|f
 .simp[Ob,FO,Fj]
 .rcases hd:f.dst with _|x
  .grind [Ob,FO,Fj]
  .simp only[GC,hd,Gs,Ob];cases r:CW.get e x with
   |d o=>cases o with|bool q=>grind [FO,Fj,CY]|_=>rfl
   |kw v=>grind [FO,Fj,CY]|_=>rfl
theorem AAw(p:Option L2)(op:Op)(e:St):FO C K a k b n al g c l i p op e X Q (.d (.bool X))=Fj C K a k b n al g c l i Q (Jj C K a ((b+i)::a.π) op p e):=rfl
theorem AAt(p:Option L2)(op:Op)(e:St):FO C K a k b n al g c l i p op e Z Q (.d (.bool Z))=Fj C K a k b n al g c l i Q (Jj C K a ((b+i)::a.π) op p e):=rfl
theorem AAv(p:Option L2)(op:Op):FO C K a k b n al g c l i p op ⟨e,h,t,s⟩ X Q (.d (.bool Z))=Jk C K a k b n al g (c++[⟨J [],J [],Z⟩]) l (i+1) ⟨Ds e p (.kw []),h,t,s⟩ Q:=rfl
theorem AAu(p:Option L2)(op:Op):FO C K a k b n al g c l i p op ⟨e,h,t,s⟩ Z Q (.d (.bool X))=Jk C K a k b n al g (c++[⟨J [],J [],Z⟩]) l (i+1) ⟨Ds e p (.kw []),h,t,s⟩ Q:=rfl
theorem tM(p:Option L2)(op:Op)(w:Bool):FO C K a k b n al g c l i p op ⟨e,h,t,s⟩ w Q (.kw [])=Jk C K a k b n al g (c++[⟨J [],J [],Z⟩]) l (i+1) ⟨Ds e p (.kw []),h,t,s⟩ Q:=rfl
def fV{op:Op}{e:St}(f:x=X->FO C K a k b n al g c l i p op e w Q (.d (.bool X)))(h:x=Z->FO C K a k b n al g c l i p op e w Q (.d (.bool Z))):FO C K a k b n al g c l i p op e w Q (.d (.bool x)):=by
 cases x
 .exact h rfl
 .exact f rfl
theorem tL{op:Op}{f:St}{e:Prop} [Decidable e](h:e->FO C K a k b n al g c l i p op f w Q (.d (.bool X)))(j:¬e->FO C K a k b n al g c l i p op f w Q (.d (.bool Z))):FO C K a k b n al g c l i p op f w Q (.d (.bool (decide e))):=by
 by_cases m:e
 .grind
 grind
theorem ABr(p:Option L2)(op:Op)(f:Hk)(pos:String)(af:Array Edge)(e:St):
 Jk C K a k b n al g c (⟨p,op,f,pos,af,I⟩::l) i e Q=Fj C K a k b n al g c l i Q (Jj C K a ((b+i)::a.π) op p e):=by grind [cz,DZ,Oa]
theorem qF(p:Option L2)(op:Op)(r:Option DF):Fj C K a k b n al g c l i Q (EJ a op p ⟨e,h,t,s⟩ r)=Ov C K a k b n al g c l i p e h t s Q (aI e.get h.get op) r:=by
 rcases r with _|x
 .rfl
 .grind [EJ,Ov,M6,Cv,CY,Fj,TG]
def pF(p:Option L2)(j:y)(f:List u):Ov C K a k b n al g c l i p e h t s Q f (J ⟨j,[]⟩)=Jk C K a k b n al g (c++[⟨J f,J [],Z⟩]) l (i+1) ⟨Ds e p j,h,t,s⟩ Q:=by
 have:J4 a.ci []=true:=by cases m:a.ci<;>rfl
 simp only[Ov,this,true_and];rfl
theorem uz(p:Option L2)(o:y)(f:u×Obj)(j:S)(m:List u):Ov C K a k b n al g c l i p e h t s Q m (J ⟨o,f::j⟩)=(J4 a.ci (f::j)=X/\Jk C K a k b n al g (c++[⟨J m,J (f.1::j.map (·.1)),Z⟩]) l (i+1) ⟨Ds e p o,h.q_d (f::j),t,s⟩ Q):=rfl
section
variable(p:Option L2)(w:u)
theorem AJS(x:LF):Fj C K a k b n al g c l i Q (Jj C K a w (.panic x) p ⟨e,h,t,s⟩)=Fj C K a k b n al g c l i Q (Ht ⟨e,h,t,s⟩ (ev e.get x)):=rfl
def Ew(C:DH)(K:Ah)(a:Fr)(k:Array G5)(b n:Nat)(al:Nat->Bool)(g:List (Nat×Nat))(c:List Fp)(l:List G5)(i:Nat)(o:List y)(p:Option L2)(e:CW)(h:S)(t:Nat)(s:List Df)(Q:Di->St->Prop)(r:E (BG×S)):Prop:=Fj C K a k b n al g c l i Q (FH a o p ⟨e,h,t,s⟩ r)
def jk(C:DH)(K:Ah)(a:Fr)(k:Array G5)(b n:Nat)(al:Nat->Bool)(g:List (Nat×Nat))(c:List Fp)(l:List G5)(i:Nat)(p:Option L2)(w:u)(e:CW)(h:S)(t:Nat)(s:List Df)(Q:Di->St->Prop)(args:List y):y->Prop
 |f=>Fj C K a k b n al g c l i Q (Fe C K a w f args p ⟨e,h,t,s⟩)
theorem AJT(f:LF)(o:Array LF)(j:Array Hk):Fj C K a k b n al g c l i Q (Jj C K a w (.call ⟨.value f,o,j⟩) p ⟨e,h,t,s⟩)=jk C K a k b n al g c l i p w e h t s Q (o.toList.map (ev e.get)) (ev e.get f):=rfl
def PG(C:DH)(K:Ah)(a:Fr)(k:Array G5)(b n:Nat)(al:Nat->Bool)(g:List (Nat×Nat))(c:List Fp)(l:List G5)(i:Nat)(p:Option L2)(w:u)(e:CW)(h:S)(t:Nat)(s:List Df)(Q:Di->St->Prop)(f:IY)(o:List y)(m:Mode):Prop:=Fj C K a k b n al g c l i Q (E4 K a w f o p ⟨e,h,t,s⟩ m)
theorem AD3(f:IY)(first cap args:List y):jk C K a k b n al g c l i p w e h t s Q args (.fn f first cap)=PG C K a k b n al g c l i p w e h t s Q f (first++args++cap) (C.mode f):=by grind [jk,PG,Fe,CM]
def bS(C:DH)(K:Ah)(a:Fr)(k:Array G5)(b n:Nat)(al:Nat->Bool)(g:List (Nat×Nat))(c:List Fp)(l:List G5)(i:Nat)(p:Option L2)(e:CW)(h:S)(t:Nat)(s:List Df)(Q:Di->St->Prop)(f:IY)(o:List y)(own:u):Option (List y)->Prop
 |some j=>Ew C K a k b n al g c l i o p e h t s Q (K (.fn f) j [] own Z I)|none=>False
theorem uO(f:IY)(o:List y)(j:(Fk h.get o).isSome):PG C K a k b n al g c l i p w e h t s Q f o .auto=bS C K a k b n al g c l i p e h t s Q f o [] (Fk h.get o):=by grind [PG,E4,CM,bS,Ew]
theorem ABe(f:IY)(o:List y)(j:(Fk h.get o).isSome):PG C K a k b n al g c l i p w e h t s Q f o .own=bS C K a k b n al g c l i p e h t s Q f o w (Fk h.get o):=by grind [PG,E4,CM,bS,Ew]
theorem AAa(f:IY)(o:List y)(own:u)(j:List y):bS C K a k b n al g c l i p e h t s Q f o own (J j)=Ew C K a k b n al g c l i o p e h t s Q (Bq K f j own):=by grind [bS,Ew,WX]
theorem vC(o:List y)(f:y)(j:S)(m:flat f=X):Ew C K a k b n al g c l i o p e h t s Q (.ok (.ret f,j))=Jk C K a k b n al g (c++[⟨J (BD h.get (Ab o)),J [],Z⟩]) l (i+1) ⟨Ds e p f,h,t,s⟩ Q:=by grind [Ew,FH,CY,Fj]
theorem dH(o:List y)(f:y)(j:S)(m:flat f=X):Ew C K a k b n al g c l i o p e h t s Q (.ok (.of f,j))=(al i=X/\FG a.π b c g=X/\Q (.of f) ⟨e,h,b+n,s⟩):=by grind [Ew,FH,Fj]
theorem AB0(o:List y)(f:y)(m:S)(j:u×Obj)(q:flat f=Z)(r:Dj f m=J j):Ew C K a k b n al g c l i o p e h t s Q (.ok (.ret f,m))=Jk C K a k b n al g (c++[⟨J (BD h.get (Ab o)),J [j.1],Z⟩]) l (i+1) ⟨Ds e p f,j::h,t,s⟩ Q:=by grind [Ew,FH,CY,LD,Bz,Fj]
theorem dG(o:List y)(j:y)(f:S)(m:flat j=Z)(q:Dj j f=I):Ew C K a k b n al g c l i o p e h t s Q (.ok (.ret j,f))=(J4 a.ci (o.flatMap (mark h.get))=X/\Jk C K a k b n al g (c++[⟨J (BD h.get (Ab o)),J ((o.flatMap (mark h.get)).map (·.1)++f.map (·.1)),Z⟩]) l (i+1) ⟨Ds e p j,f++h.q_d (o.flatMap (mark h.get)),t,s⟩ Q):=by simp only[Ew,FH,CY,m,LD,q,Bz,Cv];grind [Fj]
end
variable{w:Type}{f:w->List Ar}{p:Option L2}
theorem ABw{m:List w}{q j:Nat}{o:List u}(v:j<U m)(x:∀r,m[j]?=J r->Ov C K a k b n al g c l i p e h t s Q o (Yu q (J (f r)))):Ov C K a k b n al g c l i p e h t s Q o (Yu q (Option.map f m[j]?)):=zCI
theorem om(q:u)(b:Nat)(c:List Fp):FG q b c []=true:=rfl
def uH(q:u)(b:Nat)(c:List Fp)(i j:Nat):Option Fp->Option Fp->Bool
 |some a,J e=>a.apart e||YF q b c i j a e
 |_,_=>X
def lA(a b:Bool):Bool:=a||b
theorem jN(q:u)(b:Nat)(c:List Fp)(i j:Nat)(a e:Fp):uH q b c i j (J a) (J e)=lA (a.apart e) (YF q b c i j a e):=rfl
def gM(q:u)(b:Nat)(c:List Fp)(i j:Nat)(l:List (Nat×Nat)):FG q b c ((i,j)::l)=(uH q b c i j c[i]? c[j]? &&FG q b c l):=by simp only[FG,F6];rfl
theorem AEl(q:u)(b:Nat)(c:List Fp)(i j:Nat)(a e:Option (List u))(f:Fp):YF q b c i j ⟨a,e,Z⟩ f=false:=rfl
def oJ(a:u):List u->Bool
 |[]=>X|x::l=>match AE a x with|true=>oJ a l|false=>Z
def Pa(w:List u):Nat->List Fp->Bool
 |0,_=>X|_,[]=>X|n+1,f::l=>match Abs.apart f.wr (J w)with|true=>Pa w n l|false=>Z
theorem AGX(a:u):oJ a []=true:=rfl
def ABm(a:u)(b:u)(l:List u)(h:AE a b=X):oJ a (b::l)=oJ a l:=by simp[oJ,h]
def Vn(w:List u)(l:List Fp):Pa w 0 l=true:=by cases l<;>rfl
def jJ(w:List u)(n:Nat)(f:Fp)(l:List Fp)(h:Abs.apart f.wr (J w)=X):Pa w (n+1) (f::l)=Pa w n l:=by simp[Pa,h]
theorem AKY(a:u):∀l:List u,l.all (AE a)=oJ a l
 :=by intro b;induction b<;>grind [oJ]
theorem aZ(w:List u):∀(n:Nat) (l:List Fp),(l.take n).all (λc=>Abs.apart c.wr (J w))=Pa w n l
 |0,l=>by rw[Vn];rfl|n+1,[]=>rfl|n+1,f::l=>by rw[List.take_succ_cons,F6,aZ w n l,Pa];cases Abs.apart f.wr (J w)<;>rfl
theorem AAF(q:u)(b:Nat)(c:List Fp)(i j:Nat)(l:List u)(a:Option (List u))(e:Bool)(f:oJ ((b+j)::q) l=X)(g:Pa l i c=X):YF q b c i j ⟨I,J [],X⟩ ⟨a,J l,e⟩=true:=by grind [YF,hV,jE,AKY,aZ]
theorem AG1(b:Bool):lA X b=true:=rfl
def ABu(a:Bool):lA a Z=a:=zCe
theorem ANO(b:Bool):lA Z b=b:=rfl
theorem rQ(x:u)(l:List u):Abs.apart I (J (x::l))=false:=rfl
theorem AHy(a:u)(b:Nat):AE a (b::a)=true:=by grind [Id.q_a]
theorem kM(g:G):BD g []=[]:=rfl
theorem yx(x:Option (List u)):Abs.apart (J []) x=true:=by grind [Abs.apart]
theorem rP(x:Option (List u)):Abs.apart x (J [])=true:=by grind [Abs.apart]
attribute [go_sem] qF aI L9 Op.operands
attribute [go_sem ↓] AJS AJT
attribute [go_sem] dH dG
attribute [go_sem] AGz AHA AAw AAt AAv AAu tM ABr pF uz AD3 uO ABe AAa vC om jN gM kM yx rP Fp.apart List.flatMap_cons List.flatMap_nil
attribute [go_sem] AEl AAF AGX ABm Vn jJ rQ AHy AG1 ABu ANO
variable{P:H5}{C:DH}{K:Ah}{k:Fr}{b n i:Nat}{Q:Di->St->Prop}
variable{q:Array G5}{al:Nat->Bool}{l:List G5}{e:CW}{h:S}{s:Nat}{c:List Df}
theorem q_w:∀{a b:u},AJ a b=X↔a=b:=by grind [Id.is_eq,q_c]
theorem AI{a b:u}(h:a≠b):AJ a b=false:=by grind [q_w]
def Rn{g_:S}{a b:u}{f p_:Option Obj}(c:g_.get a=f)(g:g_.get b=p_)(h:f=p_->False:=by intro h;cases h):AJ a b=false:=AI λe=>by rw[e,g]at c;exact h c.symm
variable{a:u}
theorem q_a:∀{b:u},AE a b=X↔a<:+b
 :=by intro c;induction c<;>grind [AE,q_w,List.suffix_cons_iff]
theorem IZ{b:u}(h:¬a<:+b):AE a b=false:=by grind [q_a]
theorem p_(h:S)(b:u)(c:Obj)(a:u):S.get (S.put h b c) a=if AJ b a=X then J c else S.get h a:=by induction h with|nil=>grind [yH,IL]|cons f h e=>grind [pQ,IL,q_w]
theorem SF(c:u->Bool)(h:S)(a:u)(e:c a=X):S.get (List.filter (λb=>c b.1) h) a=S.get h a:=by induction h with|nil=>rfl|cons b h f=>grind [IL,q_w]
theorem An(a:u)(h:S)(b:u)(c:AE a b=Z):S.get (gc a h) b=S.get h b:=by
 refine SF (λb=>match b with|0::l=> !AE a l|_=>X) h b ?_
 grind [q_a]
def aH(C:DH)(K:Ah)(k:Fr)(q:Array G5)(b n:Nat)(al:Nat->Bool)(l:List G5)(i:Nat)(p:Option L2)(a:u)(e:CW)(h:S)(s:Nat)(c:List Df)(Q:Di->St->Prop):E (BG×S)->Prop
 |.ok (.ret v,h')=>JW C K k q b n al l (i+1) ⟨Ds e p v,gc (TQ a v) h',s,c⟩ Q|.ok (.of v,h')=>al i=X/\Q (.of v) ⟨e,gc a h',b+n,c⟩|.err _=>False
theorem Vb(p:Option L2)(a:u)(r:E (BG×S)):EU C K k q b n al l i Q (Fg a p ⟨e,h,s,c⟩ r)=aH C K k q b n al l i p a e h s c Q r:=by cases r with|err l=>rfl|ok r=>obtain⟨f,g⟩:=r;cases f<;>simp[Fg,EU,aH]
theorem G7(p:Option L2)(a:u)(f:y)(g:S):aH C K k q b n al l i p a e h s c Q (.ok (.ret f,g))=JW C K k q b n al l (i+1) ⟨Ds e p f,gc (TQ a f) g,s,c⟩ Q:=rfl
theorem v5(a:u)(x:Ar):TQ a (.d x)=a:=rfl
theorem AFN(a:u):TQ a .d9=a:=rfl
theorem AJt(a:u):TQ a .emp=a:=rfl
theorem AJs(a:u)(l:List y):TQ a (.agg l)=a:=rfl
theorem fS(a:u)(l:List y):TQ a (.kw l)=a:=rfl
theorem AJv(a:u)(i:u)(o n:Nat):TQ a (.ii i o n)=a:=rfl
theorem AJw(a:u)(i:u)(o:Nat):TQ a (.ptr i o)=a:=rfl
theorem AMo(a:u)(i:u):TQ a (.mp i)=a:=rfl
theorem AAj(a:u)(x:Hk)(v:y):TQ a (.iface x v)=a:=rfl
theorem AJu(a:u)(f:IY)(l:List y):TQ a (.fn f l [])=a:=rfl
theorem YZ(a:u)(f:IY)(l:List y)(v:y)(c:List y):TQ a (.fn f l (v::c))=0::0::a:=rfl
theorem AHF(p:Option L2)(a:u)(g:y)(f:S):aH C K k q b n al l i p a e h s c Q (.ok (.of g,f))=(al i=X/\Q (.of g) ⟨e,gc a f,b+n,c⟩):=rfl
theorem ABh(p:Option L2)(a:u)(f:IY)(o:List y):PH C K k q b n al l i p a e h s c Q f o .raw=aH C K k q b n al l i p a e h s c Q (K (.fn f) o h a X k.ci):=by grind [PH,E4,Vb]
theorem Ak{v:BG->S->Prop}{j:E (BG×S)}(m:∃g f,j=.ok (g,f)/\v g f)(o:∀g f,v g f->aH C K k q b n al l i p a e h s c Q (.ok (g,f))):aH C K k q b n al l i p a e h s c Q j:=zCI
def m0(v:y):Option y->y
 |some A8=>A8|none=>v
theorem AHl(g:G):Qa g []=[]:=rfl
def ACr(a:G)(b:y)(c:List y):Qa a (b::c)=m0 b (FM a b)::Qa a c:=by simp only[Qa,By];cases FM a b<;>rfl
theorem vu(v A8:y):m0 v (J A8)=A8:=rfl
theorem vt(v:y):m0 v I=v:=rfl
theorem uV(p:Option L2)(a:u)(f:IY)(o:List y)(g:(Fk h.get o).isNone):PH C K k q b n al l i p a e h s c Q f o .auto=(J4 k.ci (o.flatMap (mark h.get))=X/\aH C K k q b n al l i p a e h s c Q (K (.fn f) (Qa h.get o) (h.q_d (o.flatMap (mark h.get))) a X k.ci)):=by
 have g:Fk h.get o=none:=by simpa using g
 simp only[PH,E4,g,Gu,CM,Cv,Bz];grind [Vb,EU]
def cN(C:DH)(K:Ah)(k:Fr)(q:Array G5)(b n:Nat)(al:Nat->Bool)(l:List G5)(i:Nat)(p:Option L2)(e:CW)(h:S)(s:Nat)(c:List Df)(Q:Di->St->Prop):E (BG×S)->Prop
 |.ok (.ret v,_)=>flat v=X/\JW C K k q b n al l (i+1) ⟨Ds e p v,h,s,c⟩ Q|.ok (.of v,_)=>flat v=X/\al i=X/\Q (.of v) ⟨e,h,b+n,c⟩|.err _=>False
theorem AGO(p:Option L2)(a:u)(f:IY)(o:List y)(g:(Fk h.get o).isNone):PH C K k q b n al l i p a e h s c Q f o .ro=cN C K k q b n al l i p e h s c Q (K (.fn f) (Qa h.get o) (h.q_d (o.flatMap (mark h.get))) a X (J a)):=by
 have g:Fk h.get o=none:=by simpa using g
 simp only[PH,E4,g,Gu,CM,Cv,Bz];cases K (.fn f) (Qa h.get o) (h.q_d (o.flatMap (mark h.get))) a X (J a)with|err l=>rfl|ok r=>obtain⟨j,m⟩:=r;cases j<;>simp only[UA,cN,CY]<;>split<;>simp_all [EU]
theorem AM4(g:G)(x:Ar):mark g (.d x)=[]:=rfl
theorem ABZ(g:G):mark g .d9=[]:=rfl
theorem AGI(g:G):mark g .emp=[]:=rfl
theorem AGK(a:G)(b:u)(c:Nat):mark a (.ptr b c)=[]:=rfl
theorem AKS(g:G)(f:IY)(a c:List y):mark g (.fn f a c)=[]:=rfl
theorem AKT(a:G)(b:u):mark a (.mp b)=[]:=rfl
theorem AGJ(a:G)(b:u)(c m:Nat):mark a (.ii b c m)=Ct a (.ii b c m):=by grind [mark,MF]
def nx(g:G):List y->S
 |[]=>[]|v::vs=>Ct g v++nx g vs
def AGH(b:G)(a:List y):mark b (.agg a)=nx b a:=by simp[mark,MF];induction a with|nil=>rfl|cons e f c=>rw[FN,c];rfl
theorem AKQ(g:G)(x:Ar):Ct g (.d x)=[]:=rfl
theorem tu(g:G):Ct g .d9=[]:=rfl
theorem ABQ(g:G):Ct g .emp=[]:=rfl
theorem ABT(a:G)(b:u)(c:Nat):Ct a (.ptr b c)=[]:=rfl
theorem wB(a:u)(n:Nat)(l:u):AE a (n::l)=if AJ a (n::l)=X then X else AE a l:=by grind [AE]
def qg(n:Nat)(a:u):AE (n::a) a=false:=IZ λh=>by have:=h.length_le;simp at this;omega
theorem AL{b:u}(h:AE a b=Z)(n:Nat):AE (n::a) b=false:=by grind [q_a,List.suffix_cons]
theorem AN{b:u}(h:AE a b=Z)(c n:Nat):AJ (c::n::a) b=false:=zDS
theorem Av{b:u}(h:AE a b=Z)(c n:Nat):AJ b (c::n::a)=false:=zDS
theorem AMp(a:u):gc a []=[]:=rfl
theorem AJy(a:u)(l:u)(o:Obj)(h:S):gc a ((0::l,o)::h)=if AE a l=X then gc a h else(0::l,o)::gc a h:=by grind [gc]
theorem AMq(a:u)(l:u)(o:Obj)(h:S):gc a ((1::l,o)::h)=(1::l,o)::gc a h:=rfl
attribute [go_sem] AMp AJy AMq
def fB(C:DH)(K:Ah)(k:Fr)(q:Array G5)(b n:Nat)(al:Nat->Bool)(l:List G5)(i:Nat)(p:Option L2)(e:CW)(h:S)(s:Nat)(c:List Df)(Q:Di->St->Prop)(o:List y):y->Prop
 |.fn g [] []=>JW C K k q b n al l (i+1) ⟨Ds e p .undef,h,s,.call g o::c⟩ Q|_=>False
def qH(p:Option L2)(f:LF)(o:Array LF)(m:Array Hk)(j:k.rnd=Z):EU C K k q b n al l i Q (J8 k e.get ⟨.value f,o,m⟩ p ⟨e,h,s,c⟩)=fB C K k q b n al l i p e h s c Q (o.toList.map (ev e.get)) (ev e.get f):=by
 simp only[J8,j];cases ev e.get f with
 |fn r a g=>
  rcases a with _|⟨t,l⟩
  .cases g<;>simp[fB,EU]
  .simp[fB,EU]
 |_=>rfl
theorem zq(p:Option L2)(o:List y)(g:IY):fB C K k q b n al l i p e h s c Q o (.fn g [] [])=JW C K k q b n al l (i+1) ⟨Ds e p .undef,h,s,.call g o::c⟩ Q:=rfl
def tX(C:DH)(ci:Option u)(l:List Df)(h:S)(b:u):Option (List y)->E (Option y×S)
 |some a=>EP C ci l I (h.put b (.box a))|none=>.err [20]
def fj(C:DH)(ci:Option u)(l:List Df)(h:S)(a:u)(c:Nat)(b:IntKind)(m:Int):Option Obj->E (Option y×S)
 |some (.box cs)=>tX C ci l h a (DD cs c [.d (.int b m)])|_=>.err [21]
variable{ci:Option u}{l:List Df}{h:S}{a:Nat}{k:IntKind}{m:Int}
theorem Ta{f:IY}{x:Hk}{b:u}(c:C.caught f=J x)(e:J4 ci [(b,.box [])]=X):EP C ci (.call f [.ptr b a]::l) (J (.iface x (.agg [.d (.int k m)]))) h=fj C ci l h b a k m (h.get b):=by simp[EP,c,e,fj,tX];grind
def tZ{f:IY}{c:u}(b:(C.caught f).isSome=X):EP C ci (.call f [.ptr c a]::l) I h=EP C ci l I h:=by have⟨x,ht⟩:=OS.1 b;simp[EP,ht]
attribute [go_sem] qH zq fj tX Ta tZ
attribute [go_sem] RA L8 MA LX LA KQ q_B
attribute [go_sem] An wB qg
attribute [go_sem] p_ G7 AHF ABh AHl ACr vu vt uV Option.isNone_some Option.isNone_none AGO AM4 ABZ AGI AGK AKS AKT AGH nx AKQ tu ABQ ABT
attribute [go_sem] v5 AFN AJt AJs fS AJv AJw AMo AAj AJu YZ
def vn:Option (List Ar)->Option (List (List Ar))->Option (List (List Ar))
 |some a,J b=>J (a::b)|_,_=>I
theorem mM(a:List Ar)(b:List (List Ar)):vn (J a) (J b)=J (a::b):=rfl
theorem AAY(g:G):EN g []=J []:=rfl
def YY(a:G)(b:List y)(c:List (List y)):EN a (b::c)=vn (Ef a b) (EN a c):=by simp only[EN];cases Ef a b<;>cases EN a c<;>rfl
def xG:Option Ar->Option (List Ar)->Option (List Ar)
 |some a,J b=>J (a::b)|_,_=>I
theorem mG(a:Ar)(b:List Ar):xG (J a) (J b)=J (a::b):=rfl
theorem AAV(g:G):Ef g []=J []:=rfl
def YU(a:G)(b:y)(c:List y):Ef a (b::c)=xG (Fz a b) (Ef a c):=by simp only[Ef];cases Fz a b<;>cases Ef a c<;>rfl
def n7(a m:Nat):Option Obj->Option Ar
 |some (.f8 _ es)=>(Kj es a m).map .co|some (.v6 _ es)=>(Kj es a m).map .co|_=>I
def AE9(b:G)(c:u)(a m:Nat):Fz b (.ii c a m)=n7 a m (b c):=by simp only[Fz];cases b c with|none=>rfl|some e=>cases e<;>rfl
theorem tA(a m c:Nat)(b:List (List Ar)):n7 a m (J (.f8 c b))=(Kj b a m).map .co:=rfl
theorem AAc(a m c:Nat)(b:List (List Ar)):n7 a m (J (.v6 c b))=(Kj b a m).map .co:=rfl
def YV(a:G)(l:List Ar):Ef a (l.map .d)=J l:=by induction l with|nil=>rfl|cons c l b=>rw[By,YU,b];rfl
theorem SC(a:G)(l:List (List Ar)):EN a (l.map (·.map .d))=J l:=by induction l with|nil=>rfl|cons c l b=>rw[By,YY,b,YV];rfl
theorem uF(g:G):Ck g []=[]:=rfl
theorem WE(a:G)(b:y)(c:List y):Ck a (b::c)=JQ a b++Ck a c:=rfl
theorem AKR(g:G)(x:Ar):JQ g (.d x)=[]:=rfl
theorem tz(g:G):JQ g .d9=[]:=rfl
theorem ABW(g:G):JQ g .emp=[]:=rfl
def oa(a:u):Option Obj->S
 |some (.f8 sz es)=>[(a,.v6 sz es)]|_=>[]
def ABX(c:G)(b:u)(a m:Nat):JQ c (.ii b a m)=oa b (c b):=by simp only[JQ];cases c b with|none=>rfl|some e=>cases e<;>rfl
theorem uI(b:u)(c:Nat)(a:List (List Ar)):oa b (J (.f8 c a))=[(b,.v6 c a)]:=rfl
theorem ABY(b:u)(c:Nat)(a:List (List Ar)):oa b (J (.v6 c a))=[]:=rfl
theorem WG(a:G)(l:List Ar):Ck a (l.map .d)=[]:=by induction l with|nil=>rfl|cons c l b=>rw[By,WE,b];rfl
theorem QB(a:G)(l:List (List Ar)):(l.map (·.map y.d)).flatMap (Ck a)=[]:=by induction l with|nil=>rfl|cons c l b=>grind [WG]
def Fm(a:Nat):List (List y)->Bool
 |[]=>X|e::es=>decide (U e=a)&&(e.all y.q_b&&Fm a es)
def p8(a:Nat):Fm a []=true:=by simp[Fm]
theorem LJ(a:Nat)(e:List y)(b:List (List y)):Fm a (e::b)=(decide (U e=a)&&(e.all y.q_b&&Fm a b)):=by simp[Fm]
theorem MN(b:Nat)(a:List (List y)):(a.all λe=>U e==b&&e.all y.q_b)=Fm b a:=by induction a with|nil=>rfl|cons e a c=>grind [LJ]
theorem sJ(l:List Ar):(l.map y.d).all y.q_b=true:=by induction l with|nil=>rfl|cons b l a=>rw[By,F6,a];rfl
def oi(a:u)(e n:Nat)(b:S):Option (List (List Ar))->Option DF
 |some c=>J ⟨.ii (1::a) 0 n,b++[(1::a,.f8 e c)]⟩|none=>I
def ky(c:G)(b:u)(e:Nat)(a:List (List y)):Bool->Option DF
 |true=>J ⟨.ii (1::b) 0 (U a),[(1::b,.arr e a)]⟩|false=>oi b e (U a) (a.flatMap (Ck c)) (EN c a)
def iB(b:G)(c:u)(e:Nat)(A:Bool)(a:List (List y)):Bool->Option DF
 |true=>ky b c e a A|false=>I
theorem Q6(b:G)(c:u)(j:TI)(a:List (List y)):q_h b c j a=iB b c j.size j.mix a (Fm j.size a&&decide (0<j.size)&&decide (U a<=BS)):=by
 unfold q_h;rw[MN,Kx,ed];cases(Fm j.size a&&decide (0<j.size)&&decide (U a<=BS))with
 |false=>rfl
 |true=>simp only[iB];cases j.mix with|true=>rfl|false=>simp only[ky];cases EN b a<;>rfl
theorem cY(b:G)(c:u)(e:Nat)(A:Bool)(a:List (List y)):iB b c e A a X=ky b c e a A:=rfl
theorem VH(e:G)(b:u)(c:Nat)(a:List (List y)):ky e b c a X=J ⟨.ii (1::b) 0 (U a),[(1::b,.arr c a)]⟩:=rfl
theorem Y1(b:G)(c:u)(e:Nat)(a:List (List y)):ky b c e a Z=oi c e (U a) (a.flatMap (Ck b)) (EN b a):=rfl
theorem cZ(a:u)(e n:Nat)(b:S)(c:List (List Ar)):oi a e n b (J c)=J ⟨.ii (1::a) 0 n,b++[(1::a,.f8 e c)]⟩:=rfl
def re(b:G)(c:u)(j:TI)(n:Nat):Option (List y)->Option DF
 |some a=>if n*j.size<=16777216/\(U j.zero)=j.size then q_h b c j (Iz j.size n a)else I|none=>I
theorem Z0(a:G)(b:u)(j:TI):Iv a b 0 [] j=J ⟨.emp,[]⟩:=rfl
theorem Zz(a:G)(b:u)(n:Nat)(g:List (Nat×y))(j:TI):Iv a b (n+1) g j=re a b j (n+1) (EK (λk=>J (k*j.size,j.size)) ((Sm (n+1) j.zero).flatten) g):=by grind [Iv,re,Kx]
theorem jh(b:G)(c:u)(j:TI)(n:Nat)(a:List y):re b c j n (J a)=if n*j.size<=16777216/\(U j.zero)=j.size then q_h b c j (Iz j.size n a)else none:=rfl
def hQ(c:y):Option DF:=match c with|.d9=>J ⟨.d9,[]⟩|.emp=>J ⟨.emp,[]⟩|.ii b a n=>J ⟨.ii b a n,[]⟩|_=>I
theorem yz:hQ .d9=J ⟨.d9,[]⟩:=rfl
theorem ADm:hQ .emp=J ⟨.emp,[]⟩:=rfl
theorem ADn(b:u)(a n:Nat):hQ (.ii b a n)=J ⟨.ii b a n,[]⟩:=rfl
def nA(a:G)(b:u)(j:TI)(c:y)(e:List (List y)):Bool->Option DF
 |true=>q_t a b j c e|false=>I
def Uh(b:G)(c:u)(j:TI)(a:y):Option (List (List y))->Option DF
 |none=>I|some []=>hQ a|some (e::es)=>nA b c j a (e::es) (Fm j.size (e::es)&&decide ((e::es).length<=BS)&&decide (0<j.size))
def rV(a:G)(g:u)(j:TI)(b c:y):q_s a g j b c=Uh a g j b (C9 a c):=by
 unfold q_s;cases C9 a c with
 |none=>rfl
 |some h=>cases h with|nil=>cases b<;>rfl|cons e f=>simp only[Uh,<-MN,Kx,ed];cases((e::f).all (λe=>U e==j.size&&e.all y.q_b)&&decide ((e::f).length<=BS)&&decide (0<j.size))<;>rfl
theorem ADj(b:G)(c:u)(j:TI)(a:y):Uh b c j a (J [])=hQ a:=rfl
theorem aj(b:G)(c:u)(j:TI)(f:y)(e:List y)(a:List (List y)):Uh b c j f (J (e::a))=nA b c j f (e::a) (Fm j.size (e::a)&&decide ((e::a).length<=BS)&&decide (0<j.size)):=rfl
theorem ah(a:G)(b:u)(j:TI)(c:y)(e:List (List y)):nA a b j c e X=q_t a b j c e:=rfl
def jR(f:u)(b:u)(a n g:Nat)(h:List (List Ar))(e:S)(c:List (List Ar)):Option (List (List Ar))->Option DF
 |some i=>J ⟨.ii b a (n+U c),e++[(b,.f8 g i)]⟩|none=>if a=0/\n+U c<=BS then J ⟨.ii (1::f) 0 (n+U c),e++[(b,.v6 0 []),(1::f,.f8 g (h.take n++c))]⟩else I
def mi(g:u)(e:u)(a n h:Nat)(b:List (List Ar))(f:S):Option (List (List Ar))->Option DF
 |some c=>if Tr e f=X then jR g e a n h b f c (DD b (a+n) c)else I|none=>I
theorem jS(b:G)(g:u)(f:u)(a n h:Nat)(e:List (List Ar))(c:List (List y)):q_x b g f a n h e c=mi g f a n h e (c.flatMap (Ck b)) (EN b c):=by unfold q_x mi;grind [jR,W3,Kx]
theorem ak(g:u)(e:u)(a n h:Nat)(b:List (List Ar))(f:S)(c:List (List Ar)):mi g e a n h b f (J c)=if Tr e f=X then jR g e a n h b f c (DD b (a+n) c)else none:=rfl
theorem rU(i:u)(b:u)(a n g:Nat)(h:List (List Ar))(f:S)(c e:List (List Ar)):jR i b a n g h f c (J e)=J ⟨.ii b a (n+U c),f++[(b,.f8 g e)]⟩:=rfl
theorem Xf(b:u)(f:u)(a n h:Nat)(e:List (List Ar))(g:S)(c:List (List Ar)):jR b f a n h e g c I=if a=0/\n+U c<=BS then J ⟨.ii (1::b) 0 (n+U c),g++[(f,.v6 0 []),(1::b,.f8 h (e.take n++c))]⟩else none:=rfl
def cg(a:u):Tr a []=true:=by simp[Tr]
def lN(f:G)(c:u)(j:TI)(b:u)(a n:Nat)(e:List (List y)):Option Obj->Option DF
 |some (.f8 sz es)=>if sz=j.size/\a+n<=(U es) then q_x f c b a n sz es e else I|some (.arr sz es)=>if sz=j.size/\a+n<=(U es) then q_B c b a n sz es e else I|_=>I
theorem Xg(a:G)(b:u)(j:TI)(c:List (List y)):q_t a b j .d9 c=q_h a b j c:=rfl
theorem y7(a:G)(b:u)(j:TI)(c:List (List y)):q_t a b j .emp c=q_h a b j c:=rfl
theorem ao(b:G)(e:u)(j:TI)(c:u)(a n:Nat)(f:List (List y)):q_t b e j (.ii c a n) f=lN b e j c a n f (b c):=by grind [q_t,lN,W3,Kx]
theorem an(e:G)(g:u)(j:TI)(f:u)(a n:Nat)(h:List (List y))(c:Nat)(b:List (List Ar)):lN e g j f a n h (J (.f8 c b))=if c=j.size/\a+n<=(U b) then q_x e g f a n c b h else none:=rfl
theorem ADk(h:G)(f:u)(j:TI)(e:u)(a n:Nat)(g:List (List y))(c:Nat)(b:List (List y)):lN h f j e a n g (J (.arr c b))=if c=j.size/\a+n<=(U b) then q_B f e a n c b g else none:=rfl
theorem z8(b:G)(a:List (List Ar)):C9 b (.d (.co a))=J (a.map (·.map .d)):=rfl
theorem sY(g:G):C9 g .d9=J []:=rfl
theorem z6(g:G):C9 g .emp=J []:=rfl
def lh(a n:Nat):Option Obj->Option (List (List y))
 |some (.f8 _ es)=>Kj (es.map (·.map .d)) a n|some (.v6 _ es)=>Kj (es.map (·.map .d)) a n|some (.arr _ es)=>Kj es a n|_=>I
def AAA(b:G)(c:u)(a n:Nat):C9 b (.ii c a n)=lh a n (b c):=by
 simp[C9];rcases b c with _|e
 .rfl
 .cases e<;>rfl
theorem ACV(a n c:Nat)(b:List (List Ar)):lh a n (J (.f8 c b))=Kj (b.map (·.map .d)) a n:=rfl
theorem AHQ(a n c:Nat)(b:List (List Ar)):lh a n (J (.v6 c b))=Kj (b.map (·.map .d)) a n:=rfl
theorem AHP(a n c:Nat)(b:List (List y)):lh a n (J (.arr c b))=Kj b a n:=rfl
def tg(ok:Bool)(r:Option y):Option TI->Option DF
 |some j=>L3 ok r j|none=>I
def xl(T:Hk->Option TI)(i:TI)(ok:Bool):Option (Option y)->Option DF
 |some r=>tg ok r (T i.elem)|none=>I
def xj(T:Hk->Option TI)(x:Ar)(ok:Bool)(i:TI):Option Obj->Option DF
 |some (.map es)=>xl T i ok (CD es x)|_=>I
def xi(T:Hk->Option TI)(a:G)(b:u)(c:Ar)(ok:Bool)(i:TI):Bool->Option DF
 |true=>xj T c ok i (a b)|false=>I
def n4(T:Hk->Option TI)(b:G)(c:u)(a:Ar)(ok:Bool)(i:TI):TK->Option TI->Option DF
 |.map,J e=>xi T b c a ok i (Kp e.kind a)|_,_=>I
def od(T:Hk->Option TI)(b:G)(c:u)(a:Ar)(ok:Bool)(i:TI):Hl T b (.mp c) (.d a) ok (J i)=n4 T b c a ok i i.kind (T i.key):=by
 unfold Hl;simp[Rj];cases h:i.kind with
 |map=>
  rcases T i.key with _|f
  .rfl
  .simp[n4];rcases Kp f.kind a with _|_
   .rfl
   .simp[xi];rcases b c with _|g
    .rfl
    .cases g with
     |map e=>
      simp[xj];rcases CD e a with _|r
      .rfl
      .simp[xl];cases T i.elem<;>rfl
     |_=>rfl
 |_=>rfl
theorem ABD(T:Hk->Option TI)(b:G)(c:u)(a:Ar)(ok:Bool)(i e:TI):n4 T b c a ok i .map (J e)=xi T b c a ok i (Kp e.kind a):=rfl
theorem te(T:Hk->Option TI)(a:G)(b:u)(c:Ar)(ok:Bool)(i:TI):xi T a b c ok i X=xj T c ok i (a b):=rfl
theorem ABE(T:Hk->Option TI)(b:Ar)(ok:Bool)(i:TI)(a:List (Ar×y)):xj T b ok i (J (.map a))=xl T i ok (CD a b):=rfl
theorem tf(T:Hk->Option TI)(ok:Bool)(i:TI)(r:Option y):xl T i ok (J r)=tg ok r (T i.elem):=rfl
theorem th(ok:Bool)(r:Option y)(j:TI):tg ok r (J j)=L3 ok r j:=rfl
def AF4(v:y)(j:TI):L3 X (J v) j=J ⟨.kw [v,.d (.bool X)],[]⟩:=by unfold L3;cases Gi j.agg j.zero<;>rfl
def AF2(v:y)(j:TI):L3 Z (J v) j=J ⟨v,[]⟩:=by unfold L3;cases Gi j.agg j.zero<;>rfl
def nS(ok:Bool):Option y->Option DF
 |some A6=>match ok with|true=>J ⟨.kw [A6,.d (.bool Z)],[]⟩|false=>J ⟨A6,[]⟩
 |none=>I
def AF3(ok:Bool)(j:TI):L3 ok I j=nS ok (Gi j.agg j.zero):=by unfold L3;cases Gi j.agg j.zero<;>cases ok<;>rfl
theorem AKO(A6:y):nS X (J A6)=J ⟨.kw [A6,.d (.bool Z)],[]⟩:=rfl
theorem AKN(A6:y):nS Z (J A6)=J ⟨A6,[]⟩:=rfl
theorem tn(x:Ar):CD [] x=J none:=rfl
attribute [go_sem] od ABD te ABE tf th AF4 AF2 AF3 AKO AKN Kp tn
variable{g:G}
theorem vZ{l:List w}{a:Nat}(i:∀b,(f b).length=a)(c:0<=m)(j:m<=(U l)):Ga g .slice a (.d (.co (l.map f))) I (J (.d (.int k m))) I=J (.d (.co ((l.take m.toNat).map f))):=by
 have e:GB I (J (.d (.int k m))) I (l.map f).length=J (0,m.toNat,I):=by simp[GB,Jq,Ki,c]
 have h:Qs a (l.map f)=true:=by
  rcases l with _|⟨b,l⟩
  .rfl
  .grind [Qs,W3]
 show Zc a (l.map f) (GB I (J (.d (.int k m))) I (l.map f).length)=_;grind [Kx,Zc,List.map_take]
def vx(c:u)(a:Nat)(cells:List y):Option Obj->Option DF
 |some (.box cs)=>(DD cs a cells).map λb=>⟨.undef,[(c,.box b)]⟩|_=>I
def lg(b:u)(k a i:Nat)(h:List (List Ar))(f:S):Option (List Ar)->Option (List Ar)->Option DF
 |some e,J c=>if Tr b f=X then(DD e a c).map λg=>⟨.undef,f++[(b,.f8 i (h.set k g))]⟩else I|_,_=>I
def lz(f:u)(k a g:Nat)(c:List (List y))(cells:List y):Option (List y)->Option DF
 |some e=>(DD e a cells).map λb=>⟨.undef,[(f,.arr g (c.set k b))]⟩|none=>I
def iA(g:G)(b:u)(k a:Nat)(cells:List y):Option Obj->Option DF
 |some (.f8 sz es)=>lg b k a sz es (Ck g cells) es[k]? (Ef g cells)|some (.arr sz es)=>lz b k a sz es cells es[k]?
 |_=>I
def ACm(g:G)(i:TI)(c:u)(a:Nat)(b:y):Kk g i (.ptr c a) b=if (U b.cells)=i.size/\b.cells.all y.q_b=X then vx c a b.cells (g c)else none:=by
 unfold Kk;by_cases h:U b.cells=i.size/\b.cells.all y.q_b=X
 .have:(U b.cells==i.size&&b.cells.all y.q_b)=true:=by simp[h.1,h.2]
  rw[this,D4 h];simp only;cases g c with|none=>rfl|some j=>cases j<;>rfl
 .have:(U b.cells==i.size&&b.cells.all y.q_b)=false:=by
   rw[Bool.and_eq_false_iff];by_cases e:U b.cells=i.size
   .exact .inr (by simpa using λf=>h ⟨e,f⟩)
   .exact .inl zCx
  rw[this,Co h]
theorem vj(g:G)(i:TI)(c:u)(k a:Nat)(b:y):Kk g i (.rt c k a) b=if (U b.cells)=i.size/\b.cells.all y.q_b=X then iA g c k a b.cells (g c)else none:=by
 unfold Kk;by_cases h:U b.cells=i.size/\b.cells.all y.q_b=X
 .have:(U b.cells==i.size&&b.cells.all y.q_b)=true:=by simp[h.1,h.2]
  rw[this,D4 h];simp only;rcases g c with _|f
  .rfl
  .cases f with|f8 j e=>simp[iA,lg];grind|arr j e=>grind [iA,lz]|_=>rfl
 grind
theorem AK0(c:u)(a:Nat)(cells b:List y):vx c a cells (J (.box b))=(DD b a cells).map λe=>⟨.undef,[(c,.box e)]⟩:=rfl
theorem AHb(g:G)(c:u)(k a e:Nat)(cells:List y)(b:List (List Ar)):iA g c k a cells (J (.f8 e b))=lg c k a e b (Ck g cells) b[k]? (Ef g cells):=rfl
theorem AKz(g:G)(c:u)(k a e:Nat)(cells:List y)(b:List (List y)):iA g c k a cells (J (.arr e b))=lz c k a e b cells b[k]? :=rfl
theorem AHa(b:u)(k a h:Nat)(g:List (List Ar))(f:S)(e c:List Ar):lg b k a h g f (J e) (J c)=if Tr b f=X then(DD e a c).map λi=>⟨.undef,f++[(b,.f8 h (g.set k i))]⟩else none:=rfl
theorem AHZ(c:u)(k a f:Nat)(b:List (List y))(cells e:List y):lz c k a f b cells (J e)=(DD e a cells).map λg=>⟨.undef,[(c,.arr f (b.set k g))]⟩:=rfl
attribute [go_sem] ACm vj AK0 AHb AKz AHa AHZ
def nC(g:G)(a:u)(n:Int):TK->Option TI->Option DF
 |.slice,J j=>if 0<=n/\n<=BS then Gh g a n.toNat j else I|_,_=>I
def AKP(T:Hk->Option TI)(g:G)(a:u)(k c:IntKind)(n:Int)(i:TI):Ev T g a (.d (.int k n)) (.d (.int c n)) (J i)=nC g a n i.kind (T i.elem):=by
 obtain⟨e,p,f,o,q,h,b,l,m⟩:=i;unfold Ev;simp only;cases e with
 |slice=>
  rcases T b with _|j
  .rfl
  .simp[nC]
 |_=>rfl
theorem AM9(g:G)(a:u)(n:Int)(j:TI):nC g a n .slice (J j)=if 0<=n/\n<=BS then Gh g a n.toNat j else none:=rfl
def l0:List y->Option (List Ar)
 |[]=>J []|.d x::l=>(l0 l).map (x:: ·)|_=>I
def jK:∀{l:List y} {c:List Ar},l0 l=J c->l=c.map .d
 |[],c,h=>by cases h;rfl|v::l,c,h=>by cases v<;>simp[l0]at h;obtain⟨b,a,rfl⟩:=h;rw[jK a];rfl
theorem VE{a:u}{n:Nat}{j:TI}{zs:List Ar}(p:0<n)(o:n<=BS)(f:l0 j.zero=J zs)(c:U j.zero=j.size)(h:0<j.size)(l:j.mix=Z):Gh g a n j=J ⟨.ii (1::a) 0 n,[(1::a,.f8 j.size (Sm n zs))]⟩:=by
 obtain⟨m,rfl⟩:∃m,n=m+1:=⟨n-1,z⟩;have e:=jK f;have b:Sm (m+1) j.zero=(Sm (m+1) zs).map (·.map y.d):=by rw[LM,e]
 show q_h g a j (Sm (m+1) j.zero)=_;rw[Q6,b];have i:Fm j.size ((Sm (m+1) zs).map (·.map y.d))=true:=by
  have q:U zs=j.size:=by rw[<-c,e];simp
  generalize m+1=k;induction k with|zero=>simp[Fm]|succ k r=>grind [LJ,sJ]
 grind [cY,Y1,SC,QB,cZ]
theorem ABM(g:G)(a:u)(j:TI):Gh g a 0 j=J ⟨.emp,[]⟩:=rfl
theorem TZ{n:Nat}(h:n<=1073741824):((n:Int)<=(BS:Int))=True:=by grind [BS]
attribute [go_sem] AKP AM9 ABM Nat.zero_add
attribute [go_sem] Option.map_none mM AAY YY mG AAV YU AE9 tA AAc YV SC uF WE AKR tz ABW ABX uI ABY WG QB p8 LJ Q6 cY VH Y1 cZ Z0 Zz jh yz ADm ADn rV ADj aj ah jS ak rU Xf cg Xg y7 ao an ADk z8 sY z6 AAA ACV AHQ AHP Nat.one_mul Nat.mul_one Nat.reduceMul
end Go.Abs
namespace Go.Abs
variable{C:DH}{K:Ah}{a:Fr}{b:Nat}{Q:Di->St->Prop}
theorem EY{e:Type}{b:List e}{a:Nat}{c:e}(f:b[a]?=J c):b.drop a=c::b.drop (a+1):=zCu
def Aj{l j:Type}{h:KH}(e:List l)(B0:Nat->j->St)(Inv:Nat->List l->j->Prop)(b0:j)(o:Inv 0 e b0)(step:∀(c:Nat) (i:l) (g:j),e[c]?=J i->c<U e->(c:Int)<(U e:Int)->Inv c (i::e.drop (c+1)) g->AR (∀k,Inv (c+1) (e.drop (c+1)) k->Ud C K a b h (B0 (c+1) k) Q)->Wp C K a b h (B0 c g) (P8 C K a b h Q))(done:∀(c:Nat) (g:j),AR (c=U e)->¬(c:Int)<(U e:Int)->Inv c [] g->Wp C K a b h (B0 c g) (P8 C K a b h Q)):Ud C K a b h (B0 0 b0) Q:=by
 refine rounds (B0:=λf:Nat×j=>B0 f.1 f.2) (Inv:=λf=>f.1<=(U e)/\Inv f.1 (e.drop f.1) f.2) (m:=λf=>U e-f.1) (a:=(0,b0)) ⟨AG,by simpa using o⟩ ?_;rintro⟨c,g⟩ ⟨h1,h2⟩ IH;dsimp only at*;by_cases m:c<U e
 .obtain⟨i,n⟩:∃i,e[c]?=J i:=⟨_,CI m⟩;rw[EY n]at h2;exact step c i g n m z h2 ⟨λk p=>IH.out (c+1,k) AZ ⟨AZ,p⟩⟩
 .have:c=U e:=z;rw[EM z]at h2;exact done c g ⟨this⟩ z h2
end Go.Abs
namespace Go.Abs
variable{C:DH}{K:Ah}{a:Fr}{b:Nat}{Q:Di->St->Prop}
def CZ{k h:Type}{g:KH}(f:List k)(m:Int)(B0:Int->Nat->h->St)(Inv:Nat->List k->h->Prop)(b0:h)(s:m=U f)(p:Inv 0 f b0)(step:∀(c:Nat) (j:k) (e:h),f[c]?=J j->c<U f->(c:Int)<m->Inv c (j::f.drop (c+1)) e->AR (∀l,Inv (c+1) (f.drop (c+1)) l->Ud C K a b g (B0 m (c+1) l) Q)->Wp C K a b g (B0 m c e) (P8 C K a b g Q))(done:∀(c:Nat) (e:h),AR (c=U f)->¬(c:Int)<m->Inv c [] e->Wp C K a b g (B0 m c e) (P8 C K a b g Q)):Ud C K a b g (B0 m 0 b0) Q:=Aj f (B0 m) Inv b0 p (λc j e i n o q r=>step c j e i n z q r) (λc e i n o=>done c e i (by have:=i.out;omega) o)
end Go.Abs
namespace Go.Abs
variable{P:H5}{C:DH}
def AIZ{a:IY}{fn:OY}{f:KH}{j:List ResultVar}{args:List y}{b:u}{c:BG×S->Prop}(m:C.rg a=X)(l:P.funcs[a]?=J fn)(k:fn.body=J f)(o:fn.results.toList=j)(n:WY (U args) fn.ntmps=X)(p:Wp C (KL P C) {f:=a,π:=b,raw:=Z,ci:=I,nt:=fn.ntmps} 0 f ⟨Ej 0 args,[],0,[]⟩ (MY C I j b Z λh g=>c (E9 (h,g)))):∃i,Bq (KL P C) a args b=.ok i/\c i:=by have⟨h,g,e,h2⟩:=N1 m l k o n p;unfold Bq;rw[e];exact⟨_,rfl,h2⟩
def XP{a:IY}{fn:OY}{e:KH}{h:List ResultVar}{args:List y}{b:List Nat}{c:BG×S->Prop}{f:Nat}(k:P.funcs[a]?=J fn)(p:Wp C (KL P C) {f:=a,π:=b,raw:=Z,ci:=I,nt:=f} 0 e ⟨Ej 0 args,[],0,[]⟩ (MY C I h b Z λq i=>c (E9 (q,i))))(j:fn.body=J e:=by rfl)(o:fn.results=h.toArray:=by rfl)(n:fn.ntmps=f:=by rfl)(l:C.rg a=true:=by rfl)(m:WY (U args) fn.ntmps=true:=by rfl):∃g,Bq (KL P C) a args b=.ok g/\c g:=by subst n;exact AIZ l k j zDO m p
end Go.Abs
namespace Go.Abs
variable{C:DH}{K:Ah}{a:Fr}{b:Nat}{Q:Di->St->Prop}
end Go.Abs
namespace Go.Abs
variable{P:H5}{C:DH}{K:Ah}{a:Fr}{b n i:Nat}{Q:Di->St->Prop}
variable{g:Array G5}{al:Nat->Bool}{l:List G5}{e:CW}{h:S}{j:Nat}{f:List Df}{k:List (Nat×Nat)}{m:List Fp}{c:u}{o:Option L2}
def n8(C:DH)(K:Ah)(a:Fr)(g:Array G5)(b n:Nat)(al:Nat->Bool)(l:List G5)(i:Nat)(o:Option L2)(c:u)(e:CW)(h:S)(j:Nat)(f:List Df)(Q:Di->St->Prop)(args:List y)(m:y):Option IY->Prop
 |some k=>Xo C K a g b n al l i o c e h j f Q args (.fn k [m] [])|none=>False
def AQo(C:DH)(K:Ah)(a:Fr)(g:Array G5)(b n:Nat)(al:Nat->Bool)(l:List G5)(i:Nat)(o:Option L2)(c:u)(e:CW)(h:S)(j:Nat)(f:List Df)(Q:Di->St->Prop)(m:String)(args:List y):y->Prop
 |.iface t v=>n8 C K a g b n al l i o c e h j f Q args v (C.meth t m)|_=>False
theorem tQ(m:String)(args:List y)(t:Hk)(v:y):AQo C K a g b n al l i o c e h j f Q m args (.iface t v)=n8 C K a g b n al l i o c e h j f Q args v (C.meth t m):=rfl
theorem ABc(args:List y)(m:y)(k:IY):n8 C K a g b n al l i o c e h j f Q args m (J k)=Xo C K a g b n al l i o c e h j f Q args (.fn k [m] []):=rfl
def tb(C:DH)(K:Ah)(a:Fr)(g:Array G5)(b n:Nat)(al:Nat->Bool)(k:List (Nat×Nat))(m:List Fp)(l:List G5)(i:Nat)(o:Option L2)(c:u)(e:CW)(h:S)(j:Nat)(f:List Df)(Q:Di->St->Prop)(args:List y)(q:y):Option IY->Prop
 |some p=>jk C K a g b n al k m l i o c e h j f Q args (.fn p [q] [])|none=>False
def mu(C:DH)(K:Ah)(a:Fr)(g:Array G5)(b n:Nat)(al:Nat->Bool)(k:List (Nat×Nat))(m:List Fp)(l:List G5)(i:Nat)(o:Option L2)(c:u)(e:CW)(h:S)(j:Nat)(f:List Df)(Q:Di->St->Prop)(p:String)(args:List y):y->Prop
 |.iface q r=>tb C K a g b n al k m l i o c e h j f Q args r (C.meth q p)|_=>False
def AEo(q:LF)(p:String)(r:Array LF)(t:Array Hk):Fj C K a g b n al k m l i Q (Jj C K a c (.call ⟨.invoke q p,r,t⟩) o ⟨e,h,j,f⟩)=mu C K a g b n al k m l i o c e h j f Q p (r.toList.map (ev e.get)) (ev e.get q):=by
 simp only[Jj];cases ev e.get q with
 |iface s w=>
  simp only[Hh,mu];rcases C.meth s p with _|v
  .rfl
  .rfl
 |_=>rfl
theorem tP(p:String)(args:List y)(q:Hk)(r:y):mu C K a g b n al k m l i o c e h j f Q p args (.iface q r)=tb C K a g b n al k m l i o c e h j f Q args r (C.meth q p):=rfl
theorem ABb(args:List y)(q:y)(p:IY):tb C K a g b n al k m l i o c e h j f Q args q (J p)=jk C K a g b n al k m l i o c e h j f Q args (.fn p [q] []):=rfl
def ZM(C:DH)(K:Ah)(a:Fr)(g:Array G5)(b n:Nat)(al:Nat->Bool)(k:List (Nat×Nat))(m:List Fp)(l:List G5)(i:Nat)(o:Option L2)(c:u)(e:CW)(h:S)(j:Nat)(f:List Df)(Q:Di->St->Prop):E (BG×S)->Prop
 |.ok (.ret v,h')=>Jk C K a g b n al k (m++[⟨I,J (kV h (gc (TQ c v) h')),Z⟩]) l (i+1) ⟨Ds e o v,gc (TQ c v) h',j,f⟩ Q|.ok (.of v,h')=>al i=X/\FG a.π b m k=X/\Q (.of v) ⟨e,gc c h',b+n,f⟩|.err _=>False
theorem ACh(o:Option L2)(c:u)(p:E (BG×S)):Fj C K a g b n al k m l i Q (Fg c o ⟨e,h,j,f⟩ p)=ZM C K a g b n al k m l i o c e h j f Q p:=by cases p with|err l=>rfl|ok p=>obtain⟨q,r⟩:=p;cases q<;>simp[Fg,Fj,ZM]
theorem pV(o:Option L2)(c:u)(p:y)(q:S):ZM C K a g b n al k m l i o c e h j f Q (.ok (.ret p,q))=Jk C K a g b n al k (m++[⟨I,J (kV h (gc (TQ c p) q)),Z⟩]) l (i+1) ⟨Ds e o p,gc (TQ c p) q,j,f⟩ Q:=rfl
theorem AHE(o:Option L2)(c:u)(q:y)(p:S):ZM C K a g b n al k m l i o c e h j f Q (.ok (.of q,p))=(al i=X/\FG a.π b m k=X/\Q (.of q) ⟨e,gc c p,b+n,f⟩):=rfl
theorem ABf(o:Option L2)(c:u)(q:IY)(p:List y):PG C K a g b n al k m l i o c e h j f Q q p .raw=ZM C K a g b n al k m l i o c e h j f Q (K (.fn q) p h c X a.ci):=by grind [PG,E4,ACh]
variable{o:Option L2}
theorem Fw{r:BG->S->Prop}{c:u}{s:E (BG×S)}(t:∃q p,s=.ok (q,p)/\r q p)(v:∀q p,r q p->ZM C K a g b n al k m l i o c e h j f Q (.ok (q,p))):ZM C K a g b n al k m l i o c e h j f Q s:=zCI
def uR(o:Option L2)(c:u)(q:IY)(p:List y)(r:(Fk h.get p).isNone):PG C K a g b n al k m l i o c e h j f Q q p .auto=(J4 a.ci (p.flatMap (mark h.get))=X/\ZM C K a g b n al k m l i o c e h j f Q (K (.fn q) (Qa h.get p) (h.q_d (p.flatMap (mark h.get))) c X a.ci)):=by
 have r:Fk h.get p=none:=zCp
 simp only[PG,E4,r,Gu,CM,Cv,Bz];rcases hw:J4 a.ci (p.flatMap (mark h.get))with _|_
 .simp[Fj]
 .simp only[true_and];cases K (.fn q) (Qa h.get p) (h.q_d (p.flatMap (mark h.get))) c X a.ci with|err l=>rfl|ok t=>obtain⟨s,v⟩:=t;cases s<;>simp[Fg,Fj,ZM]
variable{p:List y}
theorem gV{k:y}{c:Prop} [Decidable c](m:¬c->FW C K a g b n al l i p o e h j f Q (DV k X))(q:c->FW C K a g b n al l i p o e h j f Q (DV k Z)):FW C K a g b n al l i p o e h j f Q (DV k (!decide c)):=by
 by_cases r:c
 .grind
 grind
theorem gU{q:y}{c:Prop} [Decidable c](r:¬c->Ew C K a g b n al k m l i p o e h j f Q (DV q X))(s:c->Ew C K a g b n al k m l i p o e h j f Q (DV q Z)):Ew C K a g b n al k m l i p o e h j f Q (DV q (!decide c)):=by
 by_cases t:c
 .grind
 grind
def vD{q:y}{c:Bool}(r:c=X->Ew C K a g b n al k m l i p o e h j f Q (DV q X))(s:c=Z->Ew C K a g b n al k m l i p o e h j f Q (DV q Z)):Ew C K a g b n al k m l i p o e h j f Q (DV q c):=by
 cases c
 .exact s rfl
 .exact r rfl
theorem pK{q:y}{c:Prop} [Decidable c](r:c->Ew C K a g b n al k m l i p o e h j f Q (DV q X))(s:¬c->Ew C K a g b n al k m l i p o e h j f Q (DV q Z)):Ew C K a g b n al k m l i p o e h j f Q (DV q (decide c)):=by
 by_cases t:c
 .grind
 grind
theorem rR(a b:List u):Abs.apart (J a) (J b)=a.all λx=>b.all λA9=> !AJ x A9:=by
 have key:∀(x:u) (m:List u),(!m.contains x)=m.all λA9=> !AJ x A9:=λx m=>by grind [AI,q_c]
 unfold Abs.apart;grind
theorem FC(c:u)(h:S)(l:u):S.get (gc c h) (1::l)=S.get h (1::l):=SF (λa=>match a with|0::l=> !AE c l|_=>X) h (1::l) rfl
theorem XA(a b:S)(c:u):S.get (a++b) c=(match S.get a c with|some o=>J o|none=>S.get b c):=by induction a with|nil=>rfl|cons f a e=>grind [IL]
variable{a b:S}
def JK{c:u}(h:S.get a c=I):S.get (a++b) c=S.get b c:=by rw[XA,h]
theorem Dw{c:u}{e:Obj}(h:S.get a c=J e):S.get (a++b) c=J e:=by rw[XA,h]
def AE2(g:G)(f:IY)(a:List y)(x:y)(c:List y):FM g (.fn f a (x::c))=none:=zCe
attribute [go_sem] FC AE2
attribute [go_sem ↓] AEo
attribute [go_sem] rR tQ ABc tP ABb pV AHE ABf uR dH dG
attribute [go_sem_proc] Nat.reduceEqDiff Nat.reduceAdd Nat.reduceSub Nat.reduceBEq Nat.reduceLeDiff Nat.reduceLT reduceCtorEq Int.reduceEq Int.reduceLT Int.reduceLE Int.reduceNeg Int.reduceToNat Int.reduceAdd Int.reduceSub
attribute [go_sem_proc ↓] reduceIte
attribute [go_sem] Int.cast_ofNat_Int Int.zero_add Nat.le_refl
class Sp(G:Prop)(P N A B:outParam Prop):Prop:=go:(P->A)->(N->B)->G
def sx{G P N A B:Prop} [s:Sp G P N A B](a:P->A)(b:N->B):G:=s.go a b
class Sq(G:Prop)(α:outParam Type)(H:outParam Prop)(R M A:outParam (α->Prop)):Prop:=go:H->(∀x,R x->M x->A x)->G
def sy{G:Prop}{c:Type}{H:Prop}{b M A:c->Prop} [s:Sq G c H b M A](e:H)(f:∀a,b a->M a->A a):G:=s.go e f
def au{G:Prop}(h:G:=by(repeat' (first|simp only[*,go_sem]|(refine sx ?_ ?_<;>intro a)|refine sy z λe c b=>?_|simp(disch:=first|assumption|omega) only[w_,VC,TZ,slice_int]))):G:=h
def af{G:Prop}(h:G:=by(repeat' (first|simp only[*,go_sem,AM]|(refine sx ?_ ?_<;>intro a)|refine sy z λe c b=>?_|simp(disch:=first|assumption|omega) only[w_,VC,TZ,slice_int]))):G:=h
def Ba{G:Prop}(h:G:=by first|(simp only[*,go_sem,AM];done)|rfl):G:=h
variable{R:Prop}
def aw{G:Prop}(h:R)(e:AR R->G:=by intro a;(repeat' (first|simp only[*,go_sem]|(refine sx ?_ ?_<;>intro b)|refine sy z λg f c=>?_|simp(disch:=first|assumption|omega) only[w_,VC,TZ,slice_int]));exact a.out):G:=e ⟨h⟩
def ax{G:Prop}(h:R)(e:AR R->G:=by intro a;(repeat' (first|simp only[*,go_sem,AM]|(refine sx ?_ ?_<;>intro b)|refine sy z λg f c=>?_|simp(disch:=first|assumption|omega) only[w_,VC,TZ,slice_int]));exact a.out):G:=e ⟨h⟩
variable{C:DH}{K:Ah}{a:Fr}{b n i:Nat}{Q:Di->St->Prop}
variable{c:Array G5}{al:Nat->Bool}{l:List G5}{e:CW}{h:S}{k:Nat}{m:List Df}{o:List (Nat×Nat)}{q:List Fp}{g:Option L2}{f:St}{op:Op}{r:Bool}{j:List y}{v:y}{t:Bool}{p:Prop}{x s:KH}
instance(priority:=2000) [Decidable p]:Sp (Po C K a b x s f Q (.d (.bool (decide p)))) p (¬p) (Wp C K a b x f Q) (Wp C K a b s f Q):=⟨zg⟩
instance(priority:=2000) [Decidable p]:Sp (EC C K a c b n al l i g op f r Q (.d (.bool (decide p)))) p (¬p) (EC C K a c b n al l i g op f r Q (.d (.bool X))) (EC C K a c b n al l i g op f r Q (.d (.bool Z))):=⟨tI⟩
instance:Sp (Po C K a b x s f Q (.d (.bool t))) (t=X) (t=Z) (Wp C K a b x f Q) (Wp C K a b s f Q):=⟨kH⟩
instance:Sp (EC C K a c b n al l i g op f r Q (.d (.bool t))) (t=X) (t=Z) (EC C K a c b n al l i g op f r Q (.d (.bool X))) (EC C K a c b n al l i g op f r Q (.d (.bool Z))):=⟨fU⟩
instance(priority:=2000) [Decidable p]:Sp (FO C K a c b n al o q l i g op f r Q (.d (.bool (decide p)))) p (¬p) (FO C K a c b n al o q l i g op f r Q (.d (.bool X))) (FO C K a c b n al o q l i g op f r Q (.d (.bool Z))):=⟨tL⟩
instance:Sp (FO C K a c b n al o q l i g op f r Q (.d (.bool t))) (t=X) (t=Z) (FO C K a c b n al o q l i g op f r Q (.d (.bool X))) (FO C K a c b n al o q l i g op f r Q (.d (.bool Z))):=⟨fV⟩
instance(priority:=2000) [Decidable p]:Sp (FW C K a c b n al l i j g e h k m Q (DV v (decide p))) p (¬p) (FW C K a c b n al l i j g e h k m Q (DV v X)) (FW C K a c b n al l i j g e h k m Q (DV v Z)):=⟨pN⟩
instance(priority:=2000) [Decidable p]:Sp (FW C K a c b n al l i j g e h k m Q (DV v (!decide p))) (¬p) p (FW C K a c b n al l i j g e h k m Q (DV v X)) (FW C K a c b n al l i j g e h k m Q (DV v Z)):=⟨gV⟩
instance:Sp (FW C K a c b n al l i j g e h k m Q (DV v t)) (t=X) (t=Z) (FW C K a c b n al l i j g e h k m Q (DV v X)) (FW C K a c b n al l i j g e h k m Q (DV v Z)):=⟨vF⟩
instance(priority:=2000) [Decidable p]:Sp (Ew C K a c b n al o q l i j g e h k m Q (DV v (decide p))) p (¬p) (Ew C K a c b n al o q l i j g e h k m Q (DV v X)) (Ew C K a c b n al o q l i j g e h k m Q (DV v Z)):=⟨pK⟩
instance(priority:=2000) [Decidable p]:Sp (Ew C K a c b n al o q l i j g e h k m Q (DV v (!decide p))) (¬p) p (Ew C K a c b n al o q l i j g e h k m Q (DV v X)) (Ew C K a c b n al o q l i j g e h k m Q (DV v Z)):=⟨gU⟩
instance:Sp (Ew C K a c b n al o q l i j g e h k m Q (DV v t)) (t=X) (t=Z) (Ew C K a c b n al o q l i j g e h k m Q (DV v X)) (Ew C K a c b n al o q l i j g e h k m Q (DV v Z)):=⟨vD⟩
instance{α:Type}{f:α->List Ar}{l':List α}{sz j:Nat}:Sq (Jy C K a c b n al l i g e h k m Q (Yu sz (Option.map f l'[j]?))) α (j<U l') (λx=>l'[j]?=J x) (λx=>x∈l') (λx=>Jy C K a c b n al l i g e h k m Q (Yu sz (J (f x)))):=⟨λh1 h2=>ABx h1 λx hx=>h2 x hx (AP hx)⟩
instance{α:Type}{f:α->List Ar}{l':List α}{sz j:Nat}{rd:List u}:Sq (Ov C K a c b n al o q l i g e h k m Q rd (Yu sz (Option.map f l'[j]?))) α (j<U l') (λx=>l'[j]?=J x) (λx=>x∈l') (λx=>Ov C K a c b n al o q l i g e h k m Q rd (Yu sz (J (f x)))):=⟨λh1 h2=>ABw h1 λx hx=>h2 x hx (AP hx)⟩
instance{s:ByteArray}{j:Nat}{f:UInt8->DF}:Sq (Jy C K a c b n al l i g e h k m Q (Option.map f s.data.toList[j]?)) UInt8 (j<U s.data.toList) (λx=>s.data.toList[j]?=J x) (λx=>x∈s.data.toList) (λx=>Jy C K a c b n al l i g e h k m Q (J (f x))):=⟨λh1 h2=>ABy h1 λx hx=>h2 x hx (AP hx)⟩
end Go.Abs
namespace Go.Proofs
open Abs Tryz
def T1:cfg.T 1=(.some ⟨.func,1,Z,Z,[(.d .nilf)],[],0,0,Z⟩):=zCG
theorem T3:cfg.T 3=(.some ⟨.int,1,Z,Z,[(.d (.int .i64 0))],[],0,0,Z⟩):=zCG
def T4:cfg.T 4=(.some ⟨.bool,1,Z,Z,[(.d (.bool Z))],[],0,0,Z⟩):=zCG
def T5:cfg.T 5=(.some ⟨.int,1,Z,Z,[(.d (.int .u8 0))],[],0,4,Z⟩):=zCG
theorem T9:cfg.T 9=(.some ⟨.str,1,Z,Z,[(.d (.str ⟨#[]⟩))],[],0,0,Z⟩):=zCG
def T22:cfg.T 22=(.some ⟨.slice,1,Z,Z,[.d9],[],9,0,Z⟩):=zCG
def T23:cfg.T 23=(.some ⟨.slice,1,Z,Z,[.d9],[],140,0,Z⟩):=zCG
def T24:cfg.T 24=(.some ⟨.slice,1,Z,Z,[.d9],[],147,0,Z⟩):=zCG
def T26:cfg.T 26=(.some ⟨.other,4,X,X,[.d9,.d9,.d9,(.d (.int .i64 0))],[(0,1,Z),(1,1,Z),(2,1,Z),(3,1,Z)],0,0,Z⟩):=zCG
def T27:cfg.T 27=(.some ⟨.slice,1,Z,Z,[.d9],[],66,0,Z⟩):=zCG
def T28:cfg.T 28=(.some ⟨.slice,1,Z,Z,[.d9],[],114,0,Z⟩):=zCG
def T29:cfg.T 29=(.some ⟨.slice,1,Z,Z,[.d9],[],69,0,Z⟩):=zCG
def T30:cfg.T 30=(.some ⟨.slice,1,Z,Z,[.d9],[],127,0,Z⟩):=zCG
def T32:cfg.T 32=(.some ⟨.other,4,X,X,[.d9,.d9,.d9,.d9],[(0,1,Z),(1,1,Z),(2,1,Z),(3,1,Z)],0,0,Z⟩):=zCG
def T33:cfg.T 33=(.some ⟨.int,1,Z,Z,[(.d (.int .i64 0))],[],0,0,Z⟩):=zCG
def T36:cfg.T 36=(.some ⟨.slice,1,Z,Z,[.d9],[],3,0,X⟩):=zCG
def T38:cfg.T 38=(.some ⟨.other,4,X,X,[(.d (.int .i64 0)),(.d (.int .i64 0)),(.d (.int .i64 0)),.d9],[(0,1,Z),(1,1,Z),(2,1,Z),(3,1,Z)],0,0,Z⟩):=zCG
def T44:cfg.T 44=(.some ⟨.slice,1,Z,Z,[.d9],[],78,0,Z⟩):=zCG
def T63:cfg.T 63=(.some ⟨.slice,1,Z,Z,[.d9],[],38,0,Z⟩):=zCG
def T66:cfg.T 66=(.some ⟨(.flat [.int,.bool]),2,X,X,[(.d (.int .i64 0)),(.d (.bool Z))],[(0,1,Z),(1,1,Z)],0,0,Z⟩):=zCG
def T67:cfg.T 67=(.some ⟨.slice,1,Z,Z,[.d9],[],73,0,Z⟩):=zCG
def T69:cfg.T 69=(.some ⟨.other,4,X,X,[(.d (.int .i64 0)),(.d (.int .i64 0)),(.d (.int .i64 0)),.d9],[(0,1,Z),(1,1,Z),(2,1,Z),(3,1,Z)],0,0,X⟩):=zCG
def T71:cfg.T 71=(.some ⟨.slice,1,Z,Z,[.d9],[],88,0,Z⟩):=zCG
def T73:cfg.T 73=(.some ⟨.other,1,X,X,[.d9],[(0,1,Z)],0,0,Z⟩):=zCG
def T78:cfg.T 78=(.some ⟨.other,5,X,X,[(.d (.int .i64 0)),(.d (.int .i64 0)),(.d (.int .i64 0)),(.d (.int .i64 0)),.d9],[(0,1,Z),(1,1,Z),(2,1,Z),(3,1,Z),(4,1,Z)],0,0,Z⟩):=zCG
def T82:cfg.T 82=(.some ⟨.int,1,Z,Z,[(.d (.int .i64 0))],[],0,0,Z⟩):=zCG
def T83:cfg.T 83=(.some ⟨.slice,1,Z,Z,[.d9],[],85,0,Z⟩):=zCG
def T85:cfg.T 85=(.some ⟨.other,3,X,X,[(.d (.int .i64 0)),(.d (.int .i64 0)),.d9],[(0,1,Z),(1,1,Z),(2,1,Z)],0,0,Z⟩):=zCG
def T86:cfg.T 86=(.some ⟨.int,1,Z,Z,[(.d (.int .i64 0))],[],0,0,Z⟩):=zCG
def T88:cfg.T 88=(.some ⟨(.flat [.int,.int]),2,X,X,[(.d (.int .i64 0)),(.d (.int .i64 0))],[(0,1,Z),(1,1,Z)],0,0,Z⟩):=zCG
def T92:cfg.T 92=(.some ⟨.slice,1,Z,Z,[.d9],[],112,0,Z⟩):=zCG
def T93:cfg.T 93=(.some ⟨.slice,1,Z,Z,[.d9],[],105,0,Z⟩):=zCG
def T96:cfg.T 96=(.some ⟨.slice,1,Z,Z,[.d9],[],92,0,Z⟩):=zCG
def APz:cfg.T 100=(.some ⟨.slice,1,Z,Z,[.d9],[],36,0,Z⟩):=zCG
def AP0:cfg.T 102=(.some ⟨.other,6,X,X,[.d9,.d9,.d9,.d9,.d9,.d9],[(0,4,X),(4,1,Z),(5,1,Z)],0,0,Z⟩):=zCG
def AP1:cfg.T 105=(.some ⟨.int,1,Z,Z,[(.d (.int .u16 0))],[],0,5,Z⟩):=zCG
def lQ:cfg.T 108=(.some ⟨.int,1,Z,Z,[(.d (.int .i64 0))],[],0,0,Z⟩):=zCG
def AP2:cfg.T 109=(.some ⟨.slice,1,Z,Z,[.d9],[],108,0,Z⟩):=zCG
def AP3:cfg.T 110=(.some ⟨.slice,1,Z,Z,[.d9],[],109,0,Z⟩):=zCG
def AP4:cfg.T 112=(.some ⟨.other,3,X,X,[.d9,.d9,.d9],[(0,1,Z),(1,1,Z),(2,1,Z)],0,0,X⟩):=zCG
def AP5:cfg.T 114=(.some ⟨.other,3,X,X,[(.d (.int .i64 0)),(.d (.int .i64 0)),.d9],[(0,1,Z),(1,1,Z),(2,1,Z)],0,0,Z⟩):=zCG
def AP6:cfg.T 127=(.some ⟨.other,3,X,X,[(.d (.int .i64 0)),(.d (.int .i64 0)),.d9],[(0,1,Z),(1,1,Z),(2,1,Z)],0,0,Z⟩):=zCG
def AP7:cfg.T 138=(.some ⟨.int,1,Z,Z,[(.d (.int .i64 0))],[],0,0,Z⟩):=zCG
def AP8:cfg.T 140=(.some ⟨.other,4,X,X,[(.d (.int .i64 0)),(.d (.int .i64 0)),.d9,.d9],[(0,1,Z),(1,1,Z),(2,1,Z),(3,1,Z)],0,0,Z⟩):=zCG
def AP9:cfg.T 143=(.some ⟨.slice,1,Z,Z,[.d9],[],187,0,Z⟩):=zCG
def AQA:cfg.T 144=(.some ⟨.slice,1,Z,Z,[.d9],[],189,0,Z⟩):=zCG
def AQB:cfg.T 145=(.some ⟨.slice,1,Z,Z,[.d9],[],151,0,Z⟩):=zCG
def AQC:cfg.T 147=(.some ⟨.other,3,X,X,[.d9,.d9,.d9],[(0,1,Z),(1,1,Z),(2,1,Z)],0,0,Z⟩):=zCG
def AQD:cfg.T 151=(.some ⟨.other,3,X,X,[(.d (.int .i64 0)),.d9,(.d (.int .i64 0))],[(0,1,Z),(1,1,Z),(2,1,Z)],0,0,Z⟩):=zCG
def AQE:cfg.T 162=(.some ⟨.other,8,X,X,[.d9,.d9,.d9,(.d (.int .i64 0)),.d9,.d9,.d9,(.d (.bool Z))],[(0,4,X),(4,1,Z),(5,1,Z),(6,1,Z),(7,1,Z)],0,0,Z⟩):=zCG
def AQF:cfg.T 171=(.some ⟨.other,11,X,X,[.d9,.d9,.d9,(.d (.int .i64 0)),.d9,.d9,.d9,.d9,.d9,(.d (.int .i64 0)),(.d (.bool Z))],[(0,4,X),(4,4,X),(8,1,Z),(9,1,Z),(10,1,Z)],0,0,Z⟩):=zCG
def AQG:cfg.T 173=(.some ⟨.map,1,Z,Z,[(.d .nilm)],[],3,3,Z⟩):=zCG
def AQH:cfg.T 187=(.some ⟨(.flat [.int,.int]),2,X,X,[(.d (.int .i64 0)),(.d (.int .i64 0))],[(0,1,Z),(1,1,Z)],0,0,Z⟩):=zCG
def AQI:cfg.T 189=(.some ⟨(.flat [.int,.int]),2,X,X,[(.d (.int .i64 0)),(.d (.int .i64 0))],[(0,1,Z),(1,1,Z)],0,0,Z⟩):=zCG
def AQJ:cfg.T 212=(.some ⟨.ptr,1,Z,Z,[(.d .nilp)],[],0,0,Z⟩):=zCG
def AQK:cfg.T 217=(.some ⟨.func,1,Z,Z,[(.d .nilf)],[],0,0,Z⟩):=zCG
def AQL:cfg.T 219=(.some ⟨.slice,1,Z,Z,[.d9],[],258,0,Z⟩):=zCG
def AQM:cfg.T 221=(.some ⟨.other,7,X,X,[.d9,.d9,.d9,(.d (.int .i64 0)),.d9,.d9,.d9],[(0,4,X),(4,1,Z),(5,1,Z),(6,1,Z)],0,0,Z⟩):=zCG
def AQN:cfg.T 224=(.some ⟨.int,1,Z,Z,[(.d (.int .i64 0))],[],0,0,Z⟩):=zCG
def AQO:cfg.T 246=(.some ⟨.slice,1,Z,Z,[.d9],[],4,0,Z⟩):=zCG
def AQP:cfg.T 248=(.some ⟨.other,7,X,X,[.d9,.d9,.d9,(.d (.int .i64 0)),.d9,.d9,.d9],[(0,4,X),(4,1,Z),(5,1,Z),(6,1,Z)],0,0,Z⟩):=zCG
def AQQ:cfg.T 249=(.some ⟨.func,1,Z,Z,[(.d .nilf)],[],0,0,Z⟩):=zCG
def AQR:cfg.T 258=(.some ⟨.map,1,Z,Z,[(.d .nilm)],[],276,3,X⟩):=zCG
def AQS:cfg.T 276=(.some ⟨(.flat [.int,.int]),2,X,X,[(.d (.int .i64 0)),(.d (.int .i64 0))],[(0,1,Z),(1,1,Z)],0,0,Z⟩):=zCG
def AQT:cfg.T 277=(.some ⟨.int,1,Z,Z,[(.d (.int .u64 0))],[],0,7,Z⟩):=zCG
def AQU:cfg.T 280=(.some ⟨.slice,1,Z,Z,[.d9],[],283,0,Z⟩):=zCG
def AQV:cfg.T 283=(.some ⟨.slice,1,Z,Z,[.d9],[],224,0,X⟩):=zCG
def AQW:cfg.T 287=(.some ⟨.func,1,Z,Z,[(.d .nilf)],[],0,0,Z⟩):=zCG
def AQX:cfg.T 289=(.some ⟨(.flat [.int]),1,X,X,[(.d (.int .i64 0))],[(0,1,Z)],0,0,Z⟩):=zCG
def AQY:cfg.T 295=(.some ⟨.int,1,Z,Z,[(.d (.int .u64 0))],[],0,7,Z⟩):=zCG
theorem ti:cfg.T 300=(.some ⟨.map,1,Z,Z,[(.d .nilm)],[],4,9,Z⟩):=zCG
def AQZ:cfg.T 303=(.some ⟨.iface,1,Z,Z,[(.d .wt)],[],0,0,Z⟩):=zCG
def AQa:cfg.T 307=(.some ⟨(.flat []),0,X,X,[],[],0,0,Z⟩):=zCG
def AQb:cfg.T 308=(.some ⟨(.flat []),0,X,X,[],[],0,0,Z⟩):=zCG
def AQc:cfg.T 309=(.some ⟨(.flat []),0,X,X,[],[],0,0,Z⟩):=zCG
def AQd:cfg.T 310=(.some ⟨(.flat []),0,X,X,[],[],0,0,Z⟩):=zCG
def AQe:cfg.T 311=(.some ⟨.func,1,Z,Z,[(.d .nilf)],[],0,0,Z⟩):=zCG
def AQf:cfg.T 314=(.some ⟨.int,1,Z,Z,[(.d (.int .i64 0))],[],0,0,Z⟩):=zCG
theorem p3:cfg.T 315=(.some ⟨.map,1,Z,Z,[(.d .nilm)],[],4,3,Z⟩):=zCG
def AK7:cfg.f9 14 16=[]/\
 cfg.f9 14 17=[(5,11),(11,13)]/\
 cfg.f9 14 24=[]/\
 cfg.mode 20=.auto/\
 cfg.mode 34=.auto/\
 cfg.f9 34 5=[]/\
 cfg.f9 34 11=[]/\
 cfg.mode 38=.auto/\
 cfg.live 38 0=[1,2,3]/\
 cfg.mode 43=.auto/\
 cfg.mode 44=.auto/\
 cfg.mode 45=.auto/\
 cfg.mode 46=.auto/\
 cfg.live 46 0=[1,2,5,6,7]/\
 cfg.mode 47=.raw/\
 cfg.f9 47 1=[]/\
 cfg.f9 47 4=[(4,8)]/\
 cfg.f9 47 6=[]/\
 cfg.f9 47 9=[(4,13),(4,14)]/\
 cfg.live 47 0=[0,3,18,19,20]/\
 cfg.live 47 2=[0,3,47,48,49]/\
 cfg.mode 48=.raw/\
 cfg.f9 48 1=[(0,11),(4,11),(5,11),(6,11)]/\
 cfg.f9 48 6=[(4,9),(6,9),(7,9),(8,9)]/\
 cfg.f9 48 7=[]/\
 cfg.f9 48 12=[]/\
 cfg.f9 48 16=[]/\
 cfg.f9 48 17=[]/\
 cfg.live 48 0=[0,4,5,7,10,11,52,53,54]/\
 cfg.live 48 2=[0,4,7,10,85,86]/\
 cfg.mode 56=.auto/\
 cfg.f9 56 1=[(0,2)]/\
 cfg.mode 71=.auto/\
 cfg.mode 72=.auto/\
 cfg.f9 72 4=[(1,6)]/\
 cfg.f9 72 11=[]/\
 cfg.live 72 0=[5,9,11,12,13,14]/\
 cfg.mode 73=.raw/\
 cfg.live 73 0=[0,1,2,3,4,11]/\
 cfg.mode 76=.auto:=by(repeat' apply And.intro)<;>kernel_rfl
def AK8:cfg.mode 77=.auto/\
 cfg.mode 78=.auto/\
 cfg.f9 78 6=[(5,8),(6,8),(5,9),(6,9),(5,10),(6,10)]/\
 cfg.mode 79=.auto/\
 cfg.mode 80=.auto/\
 cfg.mode 81=.auto/\
 cfg.mode 82=.auto/\
 cfg.mode 83=.own/\
 cfg.f9 83 8=[]/\
 cfg.f9 83 13=[(6,8),(6,9),(4,10),(5,10),(6,10),(6,12),(10,12),(6,13),(10,13),(4,14),(5,14),(6,14),(8,14),(9,14),(10,14),(8,17),(9,17),(10,17),(12,17),(13,17),(14,17),(12,20),(13,20),(14,20)]/\
 cfg.live 83 0=[1,3,4]/\
 cfg.live 83 2=[1,3,5]/\
 cfg.live 83 4=[3,6]/\
 cfg.live 83 6=[3,7]/\
 cfg.mode 84=.auto/\
 cfg.mode 85=.auto/\
 cfg.mode 86=.auto/\
 cfg.f9 86 14=[(7,14),(9,14),(10,14)]/\
 cfg.mode 87=.auto/\
 cfg.f9 87 19=[(5,9),(5,11)]/\
 cfg.mode 88=.auto/\
 cfg.f9 88 3=[(7,8)]/\
 cfg.mode 89=.auto/\
 cfg.mode 104=.own/\
 cfg.f9 104 5=[(1,20),(3,20),(5,20),(7,20),(9,20),(11,20),(13,20),(1,22)]/\
 cfg.f9 104 9=[(1,19),(3,19),(5,19),(7,19),(9,19),(11,19),(13,19),(15,19),(17,19)]/\
 cfg.f9 104 13=[(1,12),(1,14)]/\
 cfg.f9 104 18=[(1,20),(3,20),(5,20),(7,20),(9,20),(11,20),(13,20),(1,22)]/\
 cfg.live 104 0=[1,2,3,4]/\
 cfg.live 104 2=[1,2,3,5]/\
 cfg.live 104 4=[1,2,3,5,6,7]/\
 cfg.live 104 6=[1,2,3,8]/\
 cfg.mode 105=.auto/\
 cfg.f9 105 1=[(1,6),(1,8),(1,14),(9,14),(1,17),(9,17)]/\
 cfg.f9 105 2=[(4,9),(6,9),(7,9),(8,9)]/\
 cfg.f9 105 6=[(4,9)]/\
 cfg.f9 105 7=[]/\
 cfg.f9 105 8=[]/\
 cfg.f9 105 10=[(4,8)]/\
 cfg.f9 105 13=[(4,15)]:=by(repeat' apply And.intro)<;>kernel_rfl
def AK9:cfg.f9 105 14=[]/\
 cfg.mode 106=.auto/\
 cfg.f9 106 1=[(4,9),(6,9),(7,9),(8,9)]/\
 cfg.f9 106 2=[(4,9),(6,9),(7,9),(8,9)]/\
 cfg.f9 106 9=[]/\
 cfg.f9 106 12=[(4,6),(6,9),(6,11),(6,12),(6,13),(4,14),(6,17),(14,17),(6,19),(14,19),(6,20),(14,20),(6,22),(14,22),(4,23)]/\
 cfg.f9 106 13=[]/\
 cfg.f9 106 14=[(4,11),(7,11),(9,11),(4,13)]/\
 cfg.f9 106 15=[(2,6),(2,8)]/\
 cfg.live 106 0=[0,3,4,6,7,8,9]/\
 cfg.mode 109=.auto/\
 cfg.mode 118=.auto/\
 cfg.mode 121=.auto/\
 cfg.live 121 0=[1,2,5,6]/\
 cfg.mode 122=.auto/\
 cfg.live 122 0=[1,3,4]/\
 cfg.mode 123=.auto/\
 cfg.mode 124=.auto/\
 cfg.mode 125=.auto/\
 cfg.live 125 0=[0,1,7,8]/\
 cfg.mode 126=.auto/\
 cfg.live 126 0=[0,1,7,8]/\
 cfg.mode 127=.auto/\
 cfg.live 127 0=[0,3]/\
 cfg.mode 128=.auto/\
 cfg.f9 128 6=[]/\
 cfg.f9 128 24=[]/\
 cfg.live 128 0=[1,3]/\
 cfg.live 128 2=[1,4]/\
 cfg.live 128 4=[1,5,6]/\
 cfg.live 128 6=[1,5,6,7,8]/\
 cfg.live 128 8=[1,5,6,7,8,9,10]/\
 cfg.live 128 10=[5,11]/\
 cfg.mode 129=.auto/\
 cfg.f9 129 20=[]/\
 cfg.f9 129 22=[]/\
 cfg.f9 129 23=[]/\
 cfg.f9 129 24=[]/\
 cfg.live 129 0=[0,2,6,10]/\
 cfg.live 129 3=[0,6,11,12]:=by(repeat' apply And.intro)<;>kernel_rfl
def xu:cfg.mode 135=.auto:=zCG
def xv:cfg.mode 141=.auto:=zCG
def ALA:cfg.mode 130=.auto/\
 cfg.mode 131=.own/\
 cfg.f9 131 1=[(0,4),(4,6),(4,7),(0,8),(2,8),(3,8),(4,8)]/\
 cfg.mode 132=.raw/\
 cfg.f9 132 5=[(0,2),(0,3),(0,5),(2,5),(3,5),(4,5),(0,7),(4,7),(5,7),(0,8),(4,8),(5,8),(0,11),(2,11),(3,11),(4,11),(5,11),(7,11),(8,11),(9,11)]/\
 cfg.f9 132 9=[(1,2),(2,4),(1,5),(1,6)]/\
 cfg.live 132 0=[3,13,14,15]/\
 cfg.live 132 2=[3,6,13,14,15,31,32,33]/\
 cfg.mode 133=.raw/\
 cfg.live 133 0=[0,1,5,12,13]/\
 cfg.mode 134=.auto/\
 cfg.f9 134 5=[]/\
 cfg.f9 134 10=[]/\
 cfg.live 134 0=[0,1,7,12,13]/\
 cfg.live 134 2=[0,1,7,8,12,13,49,50]/\
 cfg.mode 136=.ro/\
 cfg.f9 136 2=[(0,7),(2,7),(3,7),(4,7),(5,7),(6,7)]/\
 cfg.f9 136 5=[(0,4)]/\
 cfg.mode 137=.ro/\
 cfg.f9 137 1=[]/\
 cfg.mode 138=.auto/\
 cfg.live 138 0=[1,2,15,16,17]/\
 cfg.mode 139=.auto/\
 cfg.mode 140=.ro/\
 cfg.live 140 0=[1,23,24,25]/\
 cfg.live 140 2=[1,6,23,24,25,60,61,62]/\
 cfg.mode 142=.auto/\
 cfg.mode 143=.auto/\
 cfg.f9 143 8=[(4,10)]/\
 cfg.f9 143 10=[(4,9),(6,9),(7,9),(8,9)]/\
 cfg.f9 143 11=[(4,9),(6,9),(7,9),(8,9)]/\
 cfg.f9 143 12=[]/\
 cfg.f9 143 13=[(4,11),(6,11),(8,11),(4,12),(6,12)]/\
 cfg.live 143 0=[0,2,3,5,8,9]/\
 cfg.mode 144=.auto/\
 cfg.f9 144 1=[(4,9),(6,9),(7,9),(8,9)]/\
 cfg.f9 144 2=[(1,4),(1,6),(4,6)]/\
 cfg.f9 144 6=[(1,11)]/\
 cfg.f9 144 10=[(1,11)]/\
 cfg.f9 144 14=[(5,24),(10,24),(11,24),(5,26)]:=by(repeat' apply And.intro)<;>kernel_rfl
def ALB:cfg.f9 144 18=[(5,17),(5,19)]/\
 cfg.f9 144 19=[(5,7)]/\
 cfg.f9 144 24=[(2,14),(4,14),(6,14),(14,16)]/\
 cfg.f9 144 25=[]/\
 cfg.live 144 0=[0,2,5,8,9,10]/\
 cfg.live 144 2=[0,2,5,8,9,11]/\
 cfg.live 144 4=[0,2,5,8,9,12]/\
 cfg.live 144 6=[0,2,5,8,9,13]/\
 cfg.live 144 8=[0,2,5,8,9,14]/\
 cfg.mode 145=.own/\
 cfg.mode 164=.auto/\
 cfg.f9 164 9=[]/\
 cfg.f9 164 15=[]/\
 cfg.live 164 0=[0,1,4]/\
 cfg.live 164 2=[0,5,6]/\
 cfg.live 164 4=[0,7]/\
 cfg.mode 165=.auto/\
 cfg.mode 166=.auto/\
 cfg.mode 167=.auto/\
 cfg.live 167 0=[0,1,5]/\
 cfg.mode 168=.auto/\
 cfg.mode 169=.auto/\
 cfg.mode 170=.auto/\
 cfg.f9 170 4=[(2,14),(4,14),(6,14)]/\
 cfg.live 170 0=[0,2,4,6]/\
 cfg.live 170 2=[0,2,4,7]/\
 cfg.mode 171=.auto/\
 cfg.mode 172=.auto/\
 cfg.mode 173=.raw/\
 cfg.f9 173 1=[]/\
 cfg.f9 173 4=[]/\
 cfg.f9 173 10=[]/\
 cfg.f9 173 13=[]/\
 cfg.live 173 2=[1,3,5,6,7,11,59,60,82,83,84,85]/\
 cfg.mode 174=.auto/\
 cfg.f9 174 9=[]/\
 cfg.live 174 0=[7,8]/\
 cfg.mode 175=.raw/\
 cfg.f9 175 7=[(1,14),(7,14),(9,14),(10,14),(1,15),(1,16),(1,17)]/\
 cfg.f9 175 19=[(1,3),(1,4)]:=by(repeat' apply And.intro)<;>kernel_rfl
def xw:cfg.mode 179=.auto:=zCG
def ALC:cfg.f9 175 21=[(5,7),(5,8)]/\
 cfg.f9 175 28=[(2,17),(3,17),(7,17),(8,17),(10,17),(11,17),(2,18),(3,18)]/\
 cfg.live 175 0=[0,1,2,6,7,8,9,39,40,41]/\
 cfg.live 175 2=[0,1,2,6,7,8,9,74,75,76]/\
 cfg.live 175 4=[0,1,2,6,7,8,9,12,13,14,74,75,76,82,83,84]/\
 cfg.live 175 6=[0,1,2,6,7,8,9,13,17,74,75,76,128,129,130]/\
 cfg.live 175 8=[0,1,2,6,7,8,9,13,17,19,74,75,76,128,129,130,138,139]/\
 cfg.live 175 10=[6,8,167,168,169]/\
 cfg.live 175 12=[6,8,23,167,168,169,173,174,175]/\
 cfg.mode 176=.auto/\
 cfg.f9 176 4=[]/\
 cfg.live 176 0=[0,1,2,3,10,11]/\
 cfg.mode 177=.ro/\
 cfg.f9 177 8=[(6,9),(6,10),(6,11)]/\
 cfg.f9 177 10=[(6,9),(6,10),(6,11)]/\
 cfg.mode 178=.raw/\
 cfg.mode 186=.auto/\
 cfg.mode 187=.auto/\
 cfg.live 187 0=[0,2,5,9,10]/\
 cfg.mode 188=.auto/\
 cfg.f9 188 5=[]/\
 cfg.live 188 0=[2,3,5,6]/\
 cfg.mode 190=.own/\
 cfg.f9 190 7=[(0,4),(4,6),(4,7),(0,8),(2,8),(3,8),(4,8),(4,10),(8,10),(4,11),(8,11),(0,12),(2,12),(3,12),(4,12),(6,12),(7,12),(8,12)]/\
 cfg.live 190 0=[1,24,25,26]/\
 cfg.mode 191=.raw/\
 cfg.mode 192=.auto/\
 cfg.mode 193=.ro/\
 cfg.f9 193 2=[(0,8),(1,8),(3,8),(4,8),(5,8),(6,8),(7,8)]/\
 cfg.f9 193 5=[(0,5)]/\
 cfg.f9 193 6=[]/\
 cfg.f9 193 9=[(0,10),(10,11),(10,12),(10,14),(10,15),(0,16),(0,17)]/\
 cfg.live 193 2=[4,5,7,9,10,51,52,53]/\
 cfg.mode 194=.auto/\
 cfg.mode 195=.auto/\
 cfg.mode 196=.ro/\
 cfg.mode 197=.ro/\
 cfg.f9 197 1=[]/\
 cfg.f9 198 0=[]/\
 cfg.live 198 0=[0,14,15,16]:=by(repeat' apply And.intro)<;>kernel_rfl
def ALD:cfg.mode 199=.auto/\
 cfg.mode 200=.auto/\
 cfg.live 200 0=[0,5,6]/\
 cfg.mode 201=.auto/\
 cfg.f9 201 1=[]/\
 cfg.f9 201 4=[(4,7),(5,7)]/\
 cfg.f9 201 14=[]/\
 cfg.f9 201 25=[]/\
 cfg.f9 201 26=[(4,9),(6,9),(7,9),(8,9)]/\
 cfg.f9 201 32=[(2,6)]/\
 cfg.live 201 1=[0,2,6,154,155,156]/\
 cfg.live 201 3=[0,2,6,11,190,191,192]/\
 cfg.live 201 5=[0,2,6,207,208,209]/\
 cfg.live 201 7=[0,2,220,221,222]/\
 cfg.alone 201 4 10=X/\
 cfg.alone 201 14 25=X/\
 cfg.alone 201 32 8=X/\
 cfg.mode 202=.auto/\
 cfg.f9 203 1=[(0,8),(4,8),(5,8),(6,8),(7,8)]/\
 cfg.f9 203 11=[]/\
 cfg.live 203 0=[1,3,4,7,19,20,21,37,38,39,40,41]/\
 cfg.live 203 4=[3,51,52,53]/\
 cfg.mode 205=.auto/\
 cfg.mode 206=.auto/\
 cfg.mode 207=.auto/\
 cfg.mode 208=.ro/\
 cfg.f9 208 2=[(3,13),(5,13),(6,13),(8,13),(9,13)]/\
 cfg.f9 208 14=[]/\
 cfg.live 208 0=[1,3,10,11,12,49,50,51]/\
 cfg.mode 209=.ro/\
 cfg.f9 209 2=[(7,11),(7,12)]/\
 cfg.mode 210=.own/\
 cfg.mode 211=.auto/\
 cfg.mode 212=.auto/\
 cfg.mode 213=.auto/\
 cfg.f9 213 23=[]/\
 cfg.live 213 0=[1,2,31,32,33]/\
 cfg.live 213 2=[1,2,52,53,54]/\
 cfg.live 213 4=[1,2,7,72,73,74]/\
 cfg.live 213 6=[1,2,7,9,72,73,74,94,95,96]:=by(repeat' apply And.intro)<;>kernel_rfl
def bF:cfg.caught 189=J 289:=Eq.trans (b:=cfg.caught 189) rfl zCG
def ALE:cfg.alone 213 23 29=X/\
 cfg.mode 214=.auto/\
 cfg.mode 215=.auto/\
 cfg.live 215 0=[2,5,9,10,11]/\
 cfg.mode 216=.auto/\
 cfg.live 216 0=[0,1,7,8]/\
 cfg.mode 217=.auto/\
 cfg.live 217 1=[1,4,73,74,75]/\
 cfg.mode 218=.auto/\
 cfg.mode 219=.auto/\
 cfg.mode 220=.auto/\
 cfg.live 220 0=[0,1,7,8]/\
 cfg.mode 236=.auto/\
 cfg.mode 237=.auto/\
 cfg.mode 238=.auto/\
 cfg.mode 239=.auto/\
 cfg.mode 240=.auto:=by(repeat' apply And.intro)<;>kernel_rfl
attribute [go_sem] T1 T3 T4 T5 T9 T22 T23 T24 T26 T27 T28 T29 T30 T32 T33 T36 T38 T44 T63 T66 T67 T69 T71 T73 T78 T82 T83 T85 T86 T88 T92 T93 T96 APz AP0 AP1 lQ AP2 AP3 AP4 AP5 AP6 AP7 AP8 AP9 AQA AQB AQC AQD AQE AQF AQG AQH AQI AQJ AQK AQL AQM AQN AQO AQP AQQ AQR AQS AQT AQU AQV AQW AQX AQY ti AQZ AQa AQb AQc AQd AQe AQf p3 xu xv xw bF AK7 AK8 AK9 ALA ALB ALC ALD ALE
def AEI(a b:Nat):cfg.spec a b=if a=173 then(if b=6 then J ⟨Uu,J6⟩else I)else if a=175 then(if b=44 then J ⟨br,M7⟩else I)else none:=by
 show(if a=173/\b=6 then _ else if a=175/\b=44 then _ else _)=_;by_cases c:a=173
 .subst c;by_cases f:b=6<;>simp[f]
 .by_cases e:a=175
  .subst e;by_cases g:b=44<;>simp[g]
  .simp[c,e]
attribute [go_sem] AEI
inductive CC where
 |mk (op n:Int) (kids:List CC)
def CC.op:CC->Int|.mk o _ _=>o
def CC.n:CC->Int|.mk _ n _=>n
def CC.kids:CC->List CC|.mk _ _ k=>k
structure C8:=
 kind:Int
 n:Int
 deriving DecidableEq
structure CQ:=
 op:Int
 n:Int
 args:List CC
 kids:Al
structure HV:=
 at_:Int
 many:Int
structure Dy:=
 in_:Int
 node:Int
structure DI:=
 at_:Int
 d7:Al
 node:Int
structure Bd:=
 ac:List HV
 be:List Dy
 rules:List DI
structure Aa:=
 free:List ByteArray
 nodes:List CQ
 defs:List Bd
 main:Int
structure CN:=
 in_:Int
 dead:Bool
 deriving DecidableEq
structure Ay:=
 ip:Int
 at_:Int
 env:List C8
structure Fo:=
 group:Int
 index:Int
 at_:Int
 queue:List (List C8)
structure Ia:=
 at_:Int
 node:Int
 env:List C8
structure BQ:=
 be:List CN
 bv:List Ay
 ac:List Fo
 waits:List Ia
structure Dp:=
 wait:Int
 group:Int
 pp:Int
 picks:Al
structure Ij:=
 deed:Int
 at_:Int
 n:Int
 m:Int
 wd:List C8
mutual
def Bm:CC->List Ar
 |.mk op b a=>[.int .i64 op,.int .i64 b,.co (W4 a)]
def W4:List CC->List (List Ar)
 |[]=>[]|x::l=>Bm x::W4 l
end
def YC:∀l,W4 l=l.map Bm
 |[]=>rfl|x::l=>by simp[W4,YC l]
def bT(x:CC):Bm x=[.int .i64 x.op,.int .i64 x.n,.co (x.kids.map Bm)]:=by cases x;simp[Bm,YC,CC.op,CC.n,CC.kids]
def CC.ind{p:CC->Prop}(h:∀op n kids,(∀k∈kids,p k)->p (.mk op n kids)):∀x,p x:=by
 intro x;refine CC.rec (motive_1:=p) (motive_2:=λb=>∀k∈b,p k) (λop n kids f=>h op n kids f) AG (λg b c e k a=>?_) x;rcases DO.1 a with rfl|a
 .exact c
 .exact e k a
theorem CC.op_mk(o n:Int)(k:List CC):(CC.mk o n k).op=o:=rfl
theorem CC.n_mk(o n:Int)(k:List CC):(CC.mk o n k).n=n:=rfl
theorem CC.q_G(o n:Int)(k:List CC):(CC.mk o n k).kids=k:=rfl
def AX(n:Int):List Ar:=[.int .i64 n]
def CK(s:ByteArray):List Ar:=[.str s]
def BC(v:C8):List Ar:=[.int .i64 v.kind,.int .i64 v.n]
def Bl(x:CQ):List Ar:=[.int .i64 x.op,.int .i64 x.n,.co (x.args.map Bm),.co (x.kids.map AX)]
def BW(c:HV):List Ar:=[.int .i64 c.at_,.int .i64 c.many]
def BH(s:Dy):List Ar:=[.int .i64 s.in_,.int .i64 s.node]
def BR(r:DI):List Ar:=[.int .i64 r.at_,.co (r.d7.map AX),.int .i64 r.node]
def Bw(d:Bd):List Ar:=[.co (d.ac.map BW),.co (d.be.map BH),.co (d.rules.map BR)]
def Ch(s:CN):List Ar:=[.int .i64 s.in_,.bool s.dead]
def Cf(g:Ay):List Ar:=[.int .i64 g.ip,.int .i64 g.at_,.co (g.env.map BC)]
def C1(m:List C8):List Ar:=[.co (m.map BC)]
def C0(c:Fo):List Ar:=[.int .i64 c.group,.int .i64 c.index,.int .i64 c.at_,.co (c.queue.map C1)]
def Bj(w:Ia):List Ar:=[.int .i64 w.at_,.int .i64 w.node,.co (w.env.map BC)]
def NX(x:Ij):List Ar:=[.int .i64 x.deed,.int .i64 x.at_,.int .i64 x.n,.int .i64 x.m,.co (x.wd.map BC)]
def HH(x:Dp):List Ar:=[.int .i64 x.wait,.int .i64 x.group,.int .i64 x.pp,.co (x.picks.map AX)]
def K3(p:Aa):List Ar:=[.co (p.free.map CK),.co (p.nodes.map Bl),.co (p.defs.map Bw),.int .i64 p.main]
def YD(s:BQ):List Ar:=[.co (s.be.map Ch),.co (s.bv.map Cf),.co (s.ac.map C0),.co (s.waits.map Bj)]
attribute [go_sem] bT AX CK BC Bl BW BH BR Bw Ch Cf C1 C0 Bj NX HH CC.op_mk CC.n_mk CC.q_G
def slice_int{b:Al}{c:G}{g:IntKind}{a:Int}(e:0<=a)(f:a<=(U b)):Ga c .slice 1 (.d (.co (b.map AX))) I (J (.d (.int g a))) I=J (.d (.co ((b.take a.toNat).map AX))):=vZ (λ_=>rfl) e f
def i64(n:Int):Prop:= -9223372036854775808<=n/\n<9223372036854775808
def w_{a:Int}(g: -9223372036854775808<=a)(h:a<9223372036854775808):SE.wrap a=a:=by have e:SE.bits=64:=rfl;have f:SE.signed=true:=rfl;simp only[IntKind.wrap,e,f,Jp,D3];have b:(2 ^ 64:Int)=18446744073709551616:=Af;have c:(2 ^ (64-1):Int)=9223372036854775808:=Af;rw[b,c];split<;>omega
noncomputable abbrev kT:=KL prog cfg
abbrev pC(p:Aa):List y:=[.d (.co (p.free.map CK)),.d (.co (p.nodes.map Bl)),.d (.co (p.defs.map Bw)),.d (.int .i64 p.main)]
abbrev sC(s:BQ):List y:=[.d (.co (s.be.map Ch)),.d (.co (s.bv.map Cf)),.d (.co (s.ac.map C0)),.d (.co (s.waits.map Bj))]
def Ad:=And.intro @w_ (And.intro @VC (And.intro @TZ @slice_int))
end Go.Proofs
namespace Go.Proofs
open Abs Tryz
def Cd(l:List CN)(i:Int):Int:=((l[i.toNat]?).map CN.in_).getD 0
def Jh(l:List CN)(i:Int):Prop:=0<=i/\i<U l
instance(l:List CN)(i:Int):Decidable (Jh l i):=by unfold Jh;infer_instance
def Cl(l:List CN):Nat->Int->Bool
 |0,at_=>decide (at_=0)|k+1,at_=>decide (at_=0)||(decide (Jh l (Cd l at_))&&Cl l k (Cd l at_))
theorem OE(l:List CN)(k:Nat):Cl l k 0=true:=by cases k<;>simp[Cl]
theorem sD(l:List CN):∀(k:Nat) (i:Int),Cl l k i=X->Cl l (k+1) i=X
 :=by intro x;induction x<;>grind [Cl]
variable{l:List CN}{k:Nat}
theorem Pn{a:Int}{b:Nat}(c:k<=b)(e:Cl l k a=X):Cl l b a=true:=by induction c with|refl=>exact e|step _ f=>exact sD l _ a f
theorem wk:∀(a:Nat) (l:u),l.Nodup->(∀c∈l,c<a)->(U l)<=a
 |0,l,_,b=>by
  rcases l with _|⟨e,l⟩
  .simp
  .exact absurd (b e AG) z
 |a+1,l,hn,b=>by
  have f:=wk a (l.erase a) (hn.erase a) (λc g=>by grind)
  grind
theorem Xt(l:List CN)(j:0<U l):∀(k:Nat) (b:Int),Jh l b->Cl l k b=X->(∀c,c<k->Cl l c b=Z)->∃f:u,U f=k+1/\f.Nodup/\(∀e∈f,e<U l)/\∀e∈f,∃c,c<=k/\Cl l c e=X/\∀n,n<c->Cl l n e=Z
 |0,b,g,i,m=>⟨[0],rfl,AG,by simp[j],by intro e a;cases AS.1 a;grind [OE]⟩|k+1,b,g,i,m=>by
  have o:¬b=0:=λr=>by have:=m 0 z;grind [OE]
  have h:=i;rw[Cl]at h;simp[o]at h;have⟨f,hp1,hp2,hp3,hp4⟩:=Xt l j k (Cd l b) h.1 h.2 (λc s=>by grind [Cl])
  refine⟨b.toNat::f,by simp[hp1],?_,?_,?_⟩
  .refine IT.2 ⟨λq=>?_,hp2⟩;have⟨c,hj1,hj2,_⟩:=hp4 _ q;have p:=Hw g.1;grind
  .intro e a;rcases DO.1 a with rfl|a
   .have:=g.1;have:=g.2;omega
   .exact hp3 e a
  .intro e a;rcases DO.1 a with rfl|a
   .have p:=Hw g.1;grind
   grind
def zb{i:Int}:∀{k:Nat},Cl l k i=X->∃m,m<=k/\Cl l m i=X/\∀j,j<m->Cl l j i=Z
 :=by intro x;induction x<;>grind [Pn]
theorem Vs{a:Int}(b:Jh l a)(c:Cl l k a=X):Cl l (U l-1) a=true:=by
 have e:0<U l:=by have:=b.1;have:=b.2;omega
 have⟨m,_,h2,h3⟩:=zb c;have⟨p,hp1,hp2,hp3,_⟩:=Xt l e m a b h2 h3;have:=wk (U l) p hp2 hp3;exact Pn z h2
def S4(l:List CN):Nat->Nat->Bool
 |_,0=>X|i,n+1=>Cl l (U l) i&&S4 l (i+1) n
def qe(l:List CN):Bool:=decide (0<U l)&&(decide (Cd l 0= -1)&&S4 l 0 (U l))
theorem S5(l:List CN):∀(n i:Nat),S4 l i n=X↔ ∀j,i<=j->j<i+n->Cl l (U l) j=X
 :=by intro x;induction x<;>grind [S4]
def Zs(l:List CN):Nat->Int->Al
 |0,b=>[b]|k+1,b=>if b=0 then [0]else b::Zs l k (Cd l b)
theorem Xe(l:List CN):∀(k a:Nat) (c:Int),Cl l k c=X->k<=a->Zs l a c=Zs l k c
 |0,a,c,b,f=>by simp[Cl]at b;subst b;cases a<;>simp[Zs]|k+1,a,c,b,f=>by
  obtain⟨a,rfl⟩:∃g,a=g+1:=⟨a-1,z⟩;rw[Zs,Zs];split
  .rfl
  .rename_i e;rw[Cl]at b;simp only[e,decide_false,PL,As]at b;rw[Xe l k a _ b.2 z]
def Ea(l:List CN)(b a:Int):Bool:=decide (a∈Zs l (U l) b)
structure Il(l:List CN):Prop:=
 pos:0<U l
 top:Cd l 0= -1
 climbs:∀i,Jh l i->Cl l (U l) i=X
def AHs(a:qe l=X):Il l:=by
 simp[qe]at a;refine⟨a.1,a.2.1,λc b=>?_⟩;have:=(S5 l (U l) 0).1 a.2.2 c.toNat z (by have:=b.1;have:=b.2;omega)
 rwa [Hw b.1]at this
def AHr(a:Il l):qe l=true:=by simp[qe];refine⟨a.pos,a.top,(S5 l (U l) 0).2 λb c e=>a.climbs b ⟨z,z⟩⟩
end Go.Proofs
namespace Go.Proofs
open Abs Tryz
def C8.inB(e:Aa)(b c:Nat)(a:C8):Bool:=
 if a.kind=1 then decide (-1000000000<=a.n)&&decide (a.n<=1000000000)else if a.kind=2 then decide (0<=a.n)&&decide (a.n<U e.free)
 else if a.kind=3 then decide (0<=a.n)&&decide (a.n<b)else if a.kind=4 then decide (0<=a.n)&&decide (a.n<c)else Z
variable{l:List CN}{k:Nat}{b:Int}
def AIj(a:¬b=0)(c:Cl l (k+1) b=X):Zs l (k+1) b=b::Zs l k (Cd l b):=by rw[Zs,Co a]
theorem OD(a:¬b=0)(c:Cl l (k+1) b=X):Jh l (Cd l b)/\Cl l k (Cd l b)=true:=by grind [Cl]
end Go.Proofs
namespace Go.Proofs
open Abs Tryz
theorem ADf(l:List CN)(k:Nat)(c:Int):c∈Zs l k c:=by
 rcases k with _|k
 .simp[Zs]
 .grind [Zs]
def ADg(l:List CN)(k:Nat):Zs l k 0=[0]:=by cases k<;>simp[Zs]
end Go.Proofs
namespace Go.Proofs
open Abs Tryz
def CC.formed(size:Int):CC->Bool
 |.mk op c e=>
  if op=1 then decide (U e=0)&&(decide (-1000000000<=c)&&decide (c<=1000000000))
  else if op=2 then decide (U e=0)&&(decide (0<=c)&&decide (c<size))
  else if op<3 then Z
  else if 7<op then Z
  else if c=0 then match e with|[a,b]=>a.formed size&&b.formed size|_=>Z
  else Z
def qf{f:Type}{c:List f}(e:U c=2):∃a b,c=[a,b]:=by rcases c with _|⟨a,_|⟨b,_|⟨g,h⟩⟩⟩<;>simp at e;exact⟨a,b,rfl⟩
@[go_sem] theorem ANx(size:Int)(a:CC):Bq kT 123 [.agg [nI a.op,nI a.n,.d (.co (a.kids.map Bm))],nI size] []=.ok (.ret (.d (.bool (a.formed size))),[]):=by
  induction a using CC.ind with
  |h op o j b=>
  simp[CC.op_mk,CC.n_mk,CC.q_G];refine BM func123 ?_;rcases j with _|⟨g,_|⟨i,_|⟨k,n⟩⟩⟩
  .exact zAM
  .exact zAM
  .have l:=b g AG;have m:=b i AG;exact zAM
  .exact zAM
@[go_sem] theorem ANH(k n:Int):Bq kT 124 [.agg [nI k,nI n]] []=.ok (.ret (nI (if k=1 then n else 0)),[]):=by refine BM func124 ?_;exact au
def Uo(n:Int):Int:=min (max n (-1000000000)) 1000000000
@[go_sem] theorem ANv(n:Int):Bq kT 77 [nI n] []=.ok (.ret (nI (Uo n)),[]):=by refine BM func77 ?_;refine aw ?_;all_goals grind [Uo]
def jB(v:C8):Int:=if v.kind=1 then v.n else 0
def rA(op a b:Int):Int:=if op=3 then SE.wrap (a+b)else if op=4 then SE.wrap (a-b)else if op=5 then SE.wrap (a*b)else if op=6 then(if a<b then 1 else 0)else if a=b then 1 else 0
def CC.value(env:List C8):CC->C8
 |.mk op c e=>
  if op=1 then⟨1,c⟩
  else if op=2 then(env[c.toNat]?).getD ⟨0,0⟩
  else match e with|[a,b]=>⟨1,Uo (rA op (jB (a.value env)) (jB (b.value env)))⟩|_=>⟨0,0⟩
theorem Vh(env:List C8)(b:Int)(a:List CC):(CC.mk 1 b a).value env=⟨1,b⟩:=by rcases a with _|⟨c,_|⟨e,_|⟨f,g⟩⟩⟩<;>simp[CC.value]
def Se(env:List C8)(b:Int)(a:List CC):(CC.mk 2 b a).value env=(env[b.toNat]?).getD ⟨0,0⟩:=by rcases a with _|⟨c,_|⟨e,_|⟨f,g⟩⟩⟩<;>simp[CC.value]
theorem Vg(env:List C8)(op f:Int)(a b:CC)(c:¬op=1)(e:¬op=2):(CC.mk op f [a,b]).value env=⟨1,Uo (rA op (jB (a.value env)) (jB (b.value env)))⟩:=by simp[CC.value,c,e]
def Pz{size a:Int}{c:List CC}(b:(CC.mk 2 a c).formed size=X):0<=a/\a<size:=by rcases c with _|⟨e,_|⟨f,_|⟨g,h⟩⟩⟩<;>simp[CC.formed]at b;exact b
def SA{size op f:Int}{e:List CC}(a:(CC.mk op f e).formed size=X)(g:¬op=1)(h:¬op=2):3<=op/\op<=7/\f=0/\∃b c,e=[b,c]/\b.formed size=X/\c.formed size=true:=by rcases e with _|⟨b,_|⟨c,_|⟨i,j⟩⟩⟩<;>simp[CC.formed,g,h]at a;exact⟨a.1,a.2.1,a.2.2.1,b,c,rfl,a.2.2.2⟩
@[go_sem] theorem ACx(env:List C8)(a:CC)(c:a.formed (U env)=X):Bq kT 78 [.agg [nI a.op,nI a.n,.d (.co (a.kids.map Bm))],.d (.co (env.map BC))] []=.ok (.ret (.agg [nI ((a.value env).kind),nI ((a.value env).n)]),[]):=by
  induction a using CC.ind with
  |h op m x b=>
  simp[CC.op_mk,CC.n_mk,CC.q_G];refine BM func78 ?_;by_cases g:op=1
  .subst g;clear b
   (repeat' (first|simp only[*,go_sem,Vh]|(refine sx ?_ ?_<;>intro j)|refine sy z λa l k=>?_|simp(disch:=first|assumption|omega) only[Ad]))
  by_cases i:op=2
  .subst i;clear b;have⟨hn,p⟩:=Pz c;have p:m.toNat<U env:=z;clear c
   (repeat' (first|simp only[*,go_sem,Se,F7]|(refine sx ?_ ?_<;>intro j)|refine sy z λa l k=>?_|simp(disch:=first|assumption|omega) only[Ad]))
  obtain⟨q,r,s,e,f,rfl,n,o⟩:=SA c g i;have t:=b e AG n;have w:=b f AG o;clear b c;rw[Vg env op m e f g i];generalize e.value env=A8 at*;generalize f.value env=v at*
  (repeat' (first|simp only[*,go_sem]|(refine sx ?_ ?_<;>intro j)|refine sy z λa l k=>?_|simp(disch:=first|assumption|omega) only[Ad]))
  all_goals grind [jB,Uo,rA]
mutual
def CC.q_u:CC->Int->Int
 |.mk _ _ a,b=>G3 a 1 b
def G3:List CC->Int->Int->Int
 |[],n,_=>n|k::l,n,most=>if n<=most then G3 l (n+k.q_u (most-n)) most else n
end
mutual
theorem VI:∀(b:CC) (a:Int),0<=a->1<=b.q_u a/\b.q_u a<=a+1
 |.mk op f c,a,e=>by rw[CC.q_u];exact cb c 1 a z z
theorem cb:∀(c:List CC) (b a:Int),1<=b->b<=a+1->1<=G3 c b a/\G3 c b a<=a+1
 |[],b,a,h1,h2=>by simp[G3];omega|k::c,b,a,h1,h2=>by
  rw[G3];split
  .rename_i e;have:=VI k (a-b) z;exact cb c _ a z z
  .omega
end
theorem oU(b:List CC)(a c:Int)(e:¬a<=c):G3 b a c=a:=by cases b<;>simp[G3,e]
variable{a:Type}{l:List a}
theorem Ax{i:Nat}{x:a}(h:l[i]?=J x):l.drop i=x::l.drop (i+1):=zCu
theorem l_{i:Nat}{x:a}(h:l[i]?=J x):i<U l:=zCI
@[go_sem] theorem Vy(e:CC)(b:Int)(g:0<=b)(j:b<=60):Bq kT 121 [.agg [nI e.op,nI e.n,.d (.co (e.kids.map Bm))],nI b] []=.ok (.ret (nI (e.q_u b)),[]):=by
  revert b
  induction e using CC.ind with
  |h op n f m=>
  intro b g j;simp[CC.op_mk,CC.n_mk,CC.q_G]at*;refine BM func121 ?_;refine aw ?_;refine rounds (B0:=λa:Nat×Int=>⟨[(1,nI b),(2,.ptr [0,0] 0),(5,nI a.2),(6,nI a.1)],[([0,0],.box [nI op,nI n,.d (.co (f.map Bm))])],1,[]⟩)
   (Inv:=λa=>a.1<=(U f)/\(a.1:Int)+1<=a.2/\a.2<=b+1/\G3 f 1 b=G3 (f.drop a.1) a.2 b) (m:=λa=>U f-a.1) (a:=(0,1)) ⟨AG,AG,BP,AG⟩ ?_
  rintro⟨i,c⟩ ⟨h2,h3,h4,h5⟩ IH;dsimp only at*
  (repeat' (first|simp only[*,go_sem]|(refine sx ?_ ?_<;>intro p)|refine sy z λe l q=>?_|simp(disch:=first|assumption|omega) only[Ad,m]))
  .have o:=VI e (b-c) z;have k:G3 (f.drop i) c b=G3 (f.drop (i+1)) (c+e.q_u (b-c)) b:=by rw[Ax l,G3,D4 Cc]
   rw[w_ z z];simpa only[Int.natCast_add,Int.cast_ofNat_Int]using IH.1 (i+1,c+e.q_u (b-c)) AZ ⟨AZ,AZ,AZ,by dsimp only;rw[h5,k]⟩
  .grind [CC.q_u,oU]
  .rw[CC.q_u,h5,EM z];rfl
mutual
def CC.size:CC->Nat
 |.mk _ _ a=>1+FZ a
def FZ:List CC->Nat
 |[]=>0|k::l=>k.size+FZ l
end
mutual
theorem cf:∀(b:CC) (a:Int),0<=a->((b.size:Int)<=a->b.q_u a=b.size)/\(a<b.size->a<b.q_u a)
 |.mk op f c,a,e=>by rw[CC.q_u,CC.size];have:=ca c 1 a z;grind
theorem ca:∀(l:List CC) (b a:Int),b<=a+1->(b+FZ l<=a->G3 l b a=b+FZ l)/\(a<b+FZ l->a<G3 l b a)
 |[],b,a,h1=>by simp[G3,FZ]|k::l,b,a,h1=>by
  rw[G3,FZ];split
  .rename_i h;have f:=cf k (a-b) z;have i:=VI k (a-b) z;have c:=ca l (b+k.q_u (a-b)) a z;by_cases g:(k.size:Int)<=a-b
   .rw[f.1 g]at c⊢;constructor
    .intro e;rw[c.1 z];omega
    .intro e;exact c.2 z
   .have:=f.2 z;constructor
    .intro e;omega
    .intro e;exact c.2 z
  .omega
end
mutual
def CC.depth:CC->Nat
 |.mk _ _ a=>Fc a+1
def Fc:List CC->Nat
 |[]=>0|k::l=>max k.depth (Fc l)
end
mutual
theorem kR:∀(a:CC),a.depth<=a.size
 |.mk op c b=>by rw[CC.depth,CC.size];have:=bN b;omega
theorem bN:∀(l:List CC),Fc l<=FZ l
 |[]=>by simp[Fc,FZ]|k::l=>by rw[Fc,FZ];have:=kR k;have:=bN l;omega
end
theorem p7{k:CC}:∀{l:List CC},k∈l->k.size<=FZ l
 :=by intro x;induction x<;>grind [FZ]
theorem Za(x:CC):1<=x.size:=by cases x;simp[CC.size]
theorem ACd:∀(l:List CC),U l<=FZ l
 :=by intro x;induction x<;>grind [Za,FZ]
@[go_sem] theorem ALq(b:CC)(f:b.size<=60):Bq kT 122 [.agg [nI b.op,nI b.n,.d (.co (b.kids.map Bm))]] []=.ok (.ret (nI b.depth),[]):=by
  revert f
  induction b using CC.ind with
  |h op o c g=>
  intro f;simp[CC.op_mk,CC.n_mk,CC.q_G]at*;have t:=ACd c;have v:FZ c<=59:=by rw[CC.size]at f;omega
  clear f;have g:=λn j=>g n j (by have:=p7 j;omega);refine BM func122 ?_;refine aw ?_;refine rounds (B0:=λa:Nat×Nat=>⟨[(1,.ptr [0,0] 0),(3,nI a.2),(4,nI a.1)],[([0,0],.box [nI op,nI o,.d (.co (c.map Bm))])],1,[]⟩)
   (Inv:=λa=>a.1<=(U c)/\a.2<=60/\Fc c=max a.2 (Fc (c.drop a.1))) (m:=λa=>U c-a.1) (a:=(0,0)) ⟨AG,AG,AG⟩ ?_
  rintro⟨i,e⟩ ⟨h2,h3,h4⟩ IH;dsimp only at*
  (repeat' (first|simp only[*,go_sem]|(refine sx ?_ ?_<;>intro s)|refine sy z λb m l=>?_|simp(disch:=first|assumption|omega) only[Ad,g]))
  .have p:Fc (c.drop i)=max b.depth (Fc (c.drop (i+1))):=by rw[Ax m,Fc]
   have q:=kR b;have r:=p7 l;have k:(if (b.depth:Int)>(e:Int)then(b.depth:Int)else(e:Int))=((max e b.depth:Nat):Int):=zCh
   rw[k];simpa only[Int.natCast_add,Int.cast_ofNat_Int]using IH.1 (i+1,max e b.depth) AZ ⟨AZ,AZ,AZ⟩
  grind [CC.depth,Fc]
def CC.ok(size:Int)(x:CC):Bool:=decide (x.size<=60)&&(decide (x.depth<=12)&&x.formed size)
@[go_sem] theorem AJQ(size:Int)(a:CC):Bq kT 76 [.agg [nI a.op,nI a.n,.d (.co (a.kids.map Bm))],nI size] []=.ok (.ret (.d (.bool (a.ok size))),[]):=by
  have b:=cf a 60 z;refine BM func76 ?_;by_cases h:a.size<=60
  .have c:=b.1 z;exact zAr
  .have c:=b.2 z;exact zAr
def C8.ok(v:C8):Bool:=decide (1<=v.kind)&&(decide (v.kind<=4)&&(!decide (v.kind=1)||(decide (-1000000000<=v.n)&&decide (v.n<=1000000000))))
def Jm:y:=.iface 289 (.agg [nI 2])
def sr:flat Jm=true:=by simp[Jm,flat,JJ,HT]
@[go_sem] theorem AL1(l:List Df)(a:S)(b:u)(c:Nat):EP cfg I (.call 189 [.ptr b c]::l) (J Jm) a=fj cfg I l a b c .i64 2 (a.get b):=by rw[Jm,Ta bF (qj _)]
attribute [go_sem] sr
@[go_sem] theorem APR(a:Bool):Bq kT 199 [.d (.bool a)] []=DV Jm a:=by
  cases a
  .rw[Wi];refine BM func199 ?_
   (repeat' (first|simp only[*,go_sem,Jm]|(refine sx ?_ ?_<;>intro b)|refine sy z λf e c=>?_|simp(disch:=first|assumption|omega) only[Ad]))
  .rw[Zp];refine BM func199 ?_;exact au
def QS(op:Int):y:=
 if op=1 then .iface 314 (nI 0)else if op=7 then .iface 314 (nI 0)else if op=3 then .iface 314 (nI 2)else if op=2 then .iface 307 (.agg [])else if op=5 then .iface 310 (.agg [])
 else if op=6 then .iface 308 (.agg [])else if op=8 then .iface 308 (.agg [])else if op=4 then .iface 309 (.agg [])else .d .wt
def J2(op:Int):Bq kT 211 [nI op] []=.ok (.ret (QS op),[]):=by
 refine BM func211 ?_
 (repeat' (first|simp only[*,go_sem,QS]|(refine sx ?_ ?_<;>intro a)|refine sy z λe c b=>?_|simp(disch:=first|assumption|omega) only[Ad]))
@[go_sem] theorem APa:Bq kT 236 [.agg []] []=.ok (.ret (nI 0),[]):=by refine BM func236 ?_;exact au
@[go_sem] theorem APb:Bq kT 237 [.agg []] []=.ok (.ret (nI 1),[]):=by refine BM func237 ?_;exact au
@[go_sem] theorem APc:Bq kT 238 [.agg []] []=.ok (.ret (nI 1),[]):=by refine BM func238 ?_;exact au
@[go_sem] theorem APd:Bq kT 239 [.agg []] []=.ok (.ret (nI 2),[]):=by refine BM func239 ?_;exact au
@[go_sem] theorem APe(n:Int):Bq kT 240 [nI n] []=.ok (.ret (nI n),[]):=by refine BM func240 ?_;exact au
def Bd.own(d:Bd):Nat:=U d.ac+U d.be
def ANP(d:Bd)(a:U d.ac<=1000)(b:U d.be<=1000):Bq kT 214 [.agg [.d (.co (d.ac.map BW)),.d (.co (d.be.map BH)),.d (.co (d.rules.map BR))]] []=.ok (.ret (nI d.own),[]):=by refine BM func214 ?_;refine aw ?_;all_goals simp[Bd.own]
def AKe(d:Bd)(a:U d.ac<=1000)(b:U d.be<=1000):Bq kT 169 [.agg [.d (.co (d.ac.map BW)),.d (.co (d.be.map BH)),.d (.co (d.rules.map BR))]] []=.ok (.ret (nI d.own),[]):=by refine BM func169 ?_;refine aw ?_;all_goals simp[Bd.own]
def CJ(d:Bd):Al->Int
 |[]=>0|j::l=>((d.ac[j.toNat]?).map HV.many).getD 0+CJ d l
def Bd.q_g(d:Bd)(r:DI):Prop:=U r.d7<=3/\(∀j∈r.d7,0<=j/\j<U d.ac)/\∀c∈d.ac,0<=c.many/\c.many<=3
def g_{a:Type}{l:List a}{i:Nat}(h:i<U l):∃A9,l[i]?=J A9:=⟨_,CI h⟩
def zM(d:Bd)(b:DI)(k:d.q_g b):Bq kT 215 [.agg [.d (.co (d.ac.map BW)),.d (.co (d.be.map BH)),.d (.co (d.rules.map BR))],.agg [nI b.at_,.d (.co (b.d7.map AX)),nI b.node]] []=.ok (.ret (nI (CJ d b.d7)),[]):=by
 obtain⟨n,e,f⟩:=k;have h:=AB e;have j:=AB f;clear e f;refine BM func215 ?_;refine aw ?_;refine rounds (B0:=λa:Nat×Int=>⟨[(2,.ptr [0,0] 0),(5,nI a.2),(9,.d (.co (b.d7.map AX))),(10,nI (U b.d7)),(11,nI a.1)],[([0,0],.box [.d (.co (d.ac.map BW)),.d (.co (d.be.map BH)),.d (.co (d.rules.map BR))])],1,[]⟩)
  (Inv:=λa=>a.1<=(U b.d7)/\0<=a.2/\a.2<=3*a.1/\AR (CJ d b.d7=a.2+CJ d (b.d7.drop a.1))) (m:=λa=>U b.d7-a.1) (a:=(0,0)) ⟨AG,AG,AG,⟨AG⟩⟩ ?_
 rintro⟨i,c⟩ ⟨k1,k2,k3,k4⟩ IH;dsimp only at*
 (repeat' (first|simp only[*,go_sem]|(refine sx ?_ ?_<;>intro o)|refine sy z λg m l=>?_|simp(disch:=first|assumption|omega) only[Ad]))
 .have p:=h.1 g l;have⟨A9,hy⟩:=g_ (l:=d.ac) (i:=g.toNat) z;have q:=j.1 A9 (AP hy);refine aw ?_;refine IH.1 (i+1,c+A9.many) AZ ⟨AZ,AZ,AZ,⟨?_⟩⟩;dsimp only;rw[k4.1,Ax m,CJ,hy];simp;omega
 .rw[k4.1,EM z,CJ,Int.add_zero]
def AKV(d:Bd)(b:DI)(m:d.q_g b):Bq kT 188 [.agg [.d (.co (d.ac.map BW)),.d (.co (d.be.map BH)),.d (.co (d.rules.map BR))],.agg [nI b.at_,.d (.co (b.d7.map AX)),nI b.node]] []=.ok (.ret (nI (CJ d b.d7)),[]):=by
 obtain⟨n,h,i⟩:=m;have j:=AB h;have k:=AB i;clear h i;refine BM func188 ?_;refine aw ?_;refine rounds (B0:=λa:Nat×Int=>⟨[(2,.ptr [0,0] 0),(3,.ptr [0,1] 0),(5,nI a.2),(6,nI a.1)],[([0,0],.box [.d (.co (d.ac.map BW)),.d (.co (d.be.map BH)),.d (.co (d.rules.map BR))]),([0,1],.box [nI b.at_,.d (.co (b.d7.map AX)),nI b.node])],2,[]⟩)
  (Inv:=λa=>a.1<=(U b.d7)/\0<=a.2/\a.2<=3*a.1/\AR (CJ d b.d7=a.2+CJ d (b.d7.drop a.1))) (m:=λa=>U b.d7-a.1) (a:=(0,0)) ⟨AG,AG,AG,⟨AG⟩⟩ ?_
 rintro⟨f,c⟩ ⟨k1,k2,k3,k4⟩ IH;dsimp only at*;by_cases l:f<U b.d7
 .have⟨g,e⟩:=g_ l;have p:=j.1 g (AP e);have⟨A9,hy⟩:=g_ (l:=d.ac) (i:=g.toNat) z;have s:=k.1 A9 (AP hy);have q:(f:Int)<U b.d7:=z;refine aw ?_;refine IH.1 (f+1,c+A9.many) AZ ⟨AZ,AZ,AZ,⟨?_⟩⟩;dsimp only;rw[k4.1,Ax e,CJ,hy];simp;omega
 ·(repeat' (first|simp only[*,go_sem]|(refine sx ?_ ?_<;>intro o)|refine sy z λg e r=>?_|simp(disch:=first|assumption|omega) only[Ad]))
  .omega
  .rw[k4.1,EM z,CJ,Int.add_zero]
def Ys(b:UInt8):Bool:=decide (97<=b.toNat)&&decide (b.toNat<=122)
def aB:List ByteArray:=[⟨#[97,110,100]⟩,⟨#[100,101,102]⟩,⟨#[101,108,115,101]⟩,⟨#[103,111]⟩,⟨#[105,102]⟩,⟨#[105,110]⟩,⟨#[112,108,97,99,101]⟩,⟨#[115,116,111,112]⟩,⟨#[116,104,101,110]⟩,⟨#[119,97,116,99,104]⟩]
def kQ:List (Ar×y):=aB.map λk=>(.str k,.d (.bool X))
def GY(s:ByteArray):Bool:=decide (1<=s.size)&&(decide (s.size<=8)&&(s.data.toList.all Ys&& !aB.any (· ==s)))
@[go_sem] theorem AMt(l:List ByteArray)(b:ByteArray)(h:U l<=1000):Bq kT 167 [.d (.co (l.map CK)),.d (.str b)] []=.ok (.ret (.d (.bool (l.any (· ==b)))),[]):=by
  refine BM func167 ?_;refine aw (rounds (B0:=λa:Nat=>⟨[(0,.d (.co (l.map CK))),(1,.d (.str b)),(5,nI a)],[],0,[]⟩) (Inv:=λa=>a<=(U l)/\AR (l.any (· ==b)=(l.drop a).any (· ==b))) (m:=λa=>U l-a) (a:=0) ⟨AG,⟨AG⟩⟩ ?_);rintro a ⟨j,c⟩ e
  (repeat' (first|simp only[*,go_sem]|(refine sx ?_ ?_<;>intro g)|refine sy z λk f i=>?_|simp(disch:=first|assumption|omega) only[Ad]))
  .grind
  .refine e.1 (a+1) z ⟨z,⟨?_⟩⟩;rw[c.1,Ax f,List.any_cons];simp[*]
  .rw[c.1,EM z];rfl
theorem tq{b:ByteArray}{c:y}:∀{a:List (Ar×y)},CD a (.str b)=J I->Cj a (.str b) c=a++[(.str b,c)]
 :=by intro e;induction e<;>grind [CD,Cj]
variable{h:S}
theorem AKE{b:u}{a:List (Ar×y)}{c:ByteArray}(e:h.get b=J (.map a))(f:CD a (.str c)=J I):q_l cfg.T h.get (cfg.T 300) (.mp b) (.d (.str c)) (.d (.bool X))=J ⟨.undef,[(b,.map (a++[(.str c,.d (.bool X))]))]⟩:=by unfold q_l;grind [ti,Rj,T9,Kp,y.q_D,y.q_b,tq]
def AFY(a:u)(b:Abs.Obj):S.get [(a,b)] a=J b:=by simp[IL]
@[go_sem] theorem AL0(a:Nat)(b:u):Bq kT 210 [] (a::b)=.ok (.ret (.mp (1::1::a::b)),[(1::1::a::b,.map kQ)]):=by
  refine BM func210 ?_;refine aw ?_
  iterate 10 (rw[<-ti,AKE (AFY _ _)];rotate_left;exact rfl;refine aw ?_)
  rfl
theorem xq:∀(L:List ByteArray) (s:ByteArray),CD (L.map λk=>(Ar.str k,.d (.bool X))) (.str s)=J (if L.any (· ==s)=X then J (.d (.bool X))else I)
 :=by intro x;induction x<;>grind [CD,E5]
theorem AMz{s:ByteArray}(h:(aB.any λx=>x==s)=X):CD kQ (.str s)=J (J (.d (.bool X))):=by grind [kQ,xq]
theorem AOw{s:ByteArray}(h:(aB.any λx=>x==s)=Z):CD kQ (.str s)=J none:=by grind [kQ,xq]
@[go_sem] theorem AQn(s:ByteArray):Bq kT 167 [.d (.co [[.str ⟨#[97,110,100]⟩],[.str ⟨#[100,101,102]⟩],[.str ⟨#[101,108,115,101]⟩],[.str ⟨#[103,111]⟩],[.str ⟨#[105,102]⟩],[.str ⟨#[105,110]⟩],[.str ⟨#[112,108,97,99,101]⟩],[.str ⟨#[115,116,111,112]⟩],[.str ⟨#[116,104,101,110]⟩],[.str ⟨#[119,97,116,99,104]⟩]]),.d (.str s)] []=.ok (.ret (.d (.bool (aB.any (· ==s)))),[]):=AMt aB s Af
variable{b:UInt8}
theorem fq(h:¬(97<=b.toNat/\b.toNat<=122)):Ys b=false:=by grind [Ys]
def ft(h:97<=b.toNat/\b.toNat<=122):Ys b=true:=by simp[Ys];exact h
theorem AGV(a:ByteArray):Bq kT 127 [.d (.str a)] []=.ok (.ret (.d (.bool (GY a))),[]):=by
 have l:U a.data.toList=a.size:=by cases a;rfl
 refine BM func127 ?_
 (repeat' (first|simp only[*,go_sem]|(refine sx ?_ ?_<;>intro i)|refine sy z λk c j=>?_|simp(disch:=first|assumption|omega) only[Ad]))
 .grind [GY]
 .grind [GY]
 have g:1<=a.size:=z;have h:a.size<=8:=z;refine rounds (B0:=λb:Nat=>⟨[(0,.d (.str a)),(3,nI b)],[],0,[]⟩) (Inv:=λb=>b<=a.size/\AR (a.data.toList.all Ys=(a.data.toList.drop b).all Ys)) (m:=λb=>a.size-b) (a:=0) ⟨AG,⟨AG⟩⟩ ?_;rintro b ⟨m,e⟩ f
 (repeat' (first|simp only[*,go_sem]|(refine sx ?_ ?_<;>intro i)|refine sy z λk c j=>?_|simp(disch:=first|assumption|omega) only[Ad]))
 .grind [fq,GY]
 .grind [fq,GY]
 .exact zBa
 .have:a.data.toList.all Ys=true:=by rw[e.1,EM z];rfl
  simp[GY,this,g,h]
theorem AKX(a:ByteArray)(j:a.size<=9223372036854775807):Bq kT 200 [.d (.str a)] []=.ok (.ret (.d (.bool (GY a))),[]):=by
 have k:U a.data.toList=a.size:=by cases a;rfl
 refine BM func200 ?_;refine aw (rounds (B0:=λb:Nat=>⟨[(0,.d (.str a)),(5,nI a.size),(6,nI b)],[],0,[]⟩) (Inv:=λb=>b<=a.size/\AR (a.data.toList.all Ys=(a.data.toList.drop b).all Ys)) (m:=λb=>a.size-b) (a:=0) ⟨AG,⟨AG⟩⟩ ?_);rintro b ⟨l,e⟩ f;rcases hk:aB.any (· ==a)with _|_
 ·(repeat' (first|simp only[*,go_sem,AOw hk]|(refine sx ?_ ?_<;>intro g)|refine sy z λi c h=>?_|simp(disch:=first|assumption|omega) only[Ad]))
  .grind [fq,GY]
  .grind [fq,GY]
  .exact zBa
  .have:a.data.toList.all Ys=true:=by rw[e.1,EM z];rfl
   grind [GY]
  .grind [GY]
  grind [GY]
 ·(repeat' (first|simp only[*,go_sem,AMz hk]|(refine sx ?_ ?_<;>intro g)|refine sy z λi c h=>?_|simp(disch:=first|assumption|omega) only[Ad]))
  .grind [GY]
  .grind [GY]
  .exact zBa
  .grind [GY]
  .grind [GY]
  grind [GY]
def fY(x:Int):Al->Int->Int
 |[],_=> -1|A9::l,i=>if x=A9 then i else fY x l (i+1)
@[go_sem] theorem AOr(l:Al)(b:Int)(h:U l<=1000000):Bq kT 220 [.d (.co (l.map AX)),nI b] []=.ok (.ret (nI (fY b l 0)),[]):=by
  refine BM func220 ?_;refine aw (rounds (B0:=λa:Nat=>⟨[(0,.d (.co (l.map AX))),(1,nI b),(7,nI (U l)),(8,nI a)],[],0,[]⟩) (Inv:=λa=>a<=(U l)/\AR (fY b l 0=fY b (l.drop a) a)) (m:=λa=>U l-a) (a:=0) ⟨AG,⟨AG⟩⟩ ?_);rintro a ⟨j,c⟩ f
  (repeat' (first|simp only[*,go_sem]|(refine sx ?_ ?_<;>intro g)|refine sy z λk e i=>?_|simp(disch:=first|assumption|omega) only[Ad]))
  .subst g;rw[c.1,Ax e,fY,D4 rfl]
  .refine f.1 (a+1) z ⟨z,⟨?_⟩⟩;rw[c.1,Ax e,fY,Co Cc];rfl
  .rw[c.1,EM z,fY]
theorem AFe(v:Int):∀(l:Al) (i:Int),0<=i->(0<=fY v l i↔v∈l)
 :=by intro x;induction x<;>grind [fY]
@[go_sem] theorem kI(l:Al)(a:Int)(b:U l<=1000000):Bq kT 219 [.d (.co (l.map AX)),nI a] []=.ok (.ret (.d (.bool (decide (a∈l)))),[]):=by have h:=AFe a l 0 z;refine BM func219 ?_;exact au
def pE(d:Bd)(a:Int)(h:S)(f:u)(c:u)(i:h.get c=J (.box [.d (.co (d.ac.map BW)),.d (.co (d.be.map BH)),.d (.co (d.rules.map BR))])):
 ∃e b,kT (.fn 218) [nI a,.ptr c 0] h f X I=.ok (e,b)/\b=h/\e=if 0<=a/\a<=(U d.be) then .ret (.kw [])else .of Jm:=by
 refine Bf func218 ?_
 (repeat' (first|simp only[*,go_sem]|(refine sx ?_ ?_<;>intro g)|refine sy z λl k j=>?_|simp(disch:=first|assumption|omega) only[Ad]))
 all_goals simp
def EA(d:Bd)(c:HV):Bool:=decide (0<=c.at_/\c.at_<=(U d.be))&&(decide (0<=c.many)&&decide (c.many<=3))
def ET:Nat->List Dy->Bool
 |_,[]=>X|i,s::l=>decide (0<=s.in_)&&(decide (s.in_<=i)&&ET (i+1) l)
def H8(d:Bd)(r:DI)(i:Nat)(c:Int):Bool:=decide (0<=c)&&(decide (c<U d.ac)&&(decide (((d.ac[c.toNat]?).map HV.at_).getD 0=r.at_)&& !decide (c∈r.d7.take i)))
def q_g(d:Bd)(r:DI):Nat->Al->Bool
 |_,[]=>X|i,c::l=>H8 d r i c&&q_g d r (i+1) l
def Bx(d:Bd)(r:DI):Bool:=decide (0<=r.at_/\r.at_<=(U d.be))&&(decide (0<U r.d7)&&(decide (U r.d7<=3)&&q_g d r 0 r.d7))
def U7(l:Al)(c:Int):Al:=if c∈l then l else l++[c]
def Jf(l:Al):List (Ar×y):=l.map λc=>(.int .i64 c,.d (.bool X))
def Hz(l:Al)(b:List DI):Al:=b.foldl (λl a=>a.d7.foldl U7 l) l
def Bd.okG(d:Bd):Bool:=decide (U d.ac<=30)&&(decide (U d.be<=30)&&(decide (U d.rules<=30)&&(d.ac.all (EA d)&&(ET 0 d.be&&(d.rules.all (Bx d)&&decide ((Hz [] d.rules).length=U d.ac))))))
def dw(v:y)(t:Bool):BG×S:=if t=X then(.ret (.kw []),[])else(.of v,[])
theorem wH(v:y):dw v X=(.ret (.kw []),[]):=rfl
theorem EG(v:y):dw v Z=(.of v,[]):=rfl
def qi(v:y)(t:Bool):DV v t=.ok (dw v t):=by cases t<;>rfl
theorem vg(a:Al)(b:Int):CD (Jf a) (.int .i64 b)=J (if b∈a then J (.d (.bool X))else I):=by induction a with|nil=>rfl|cons c a e=>grind [CD,Jf,E5]
theorem vh(a:Al)(b:Int):Cj (Jf a) (.int .i64 b) (.d (.bool X))=Jf (U7 a b):=by induction a with|nil=>rfl|cons c a e=>grind [Cj,Jf,E5,U7]
theorem AKD{a:u}{st:Al}{b:Int}(c:h.get a=J (.map (Jf st))):q_l cfg.T h.get (cfg.T 315) (.mp a) (nI b) (.d (.bool X))=J ⟨.undef,[(a,.map (Jf (U7 st b)))]⟩:=by unfold q_l;grind [p3,Rj,T3,Kp,y.q_D,y.q_b,vg,vh]
@[go_sem] theorem ANf(a:Al):(Jf a).flatMap (λc=>AD c.2)=[]:=by induction a with|nil=>rfl|cons e a b=>exact b
@[go_sem] theorem ANg(e:u->Option u)(a:Al):(Jf a).map (λb=>(b.1,ren e b.2))=Jf a:=by induction a with|nil=>rfl|cons f a c=>exact congrArg (List.cons _) c
theorem uq{d:Bd}(h:d.ac.all (EA d)=Z):d.okG=false:=by simp[Bd.okG,h]
def AV{d:Bd}(h:ET 0 d.be=Z):d.okG=false:=by simp[Bd.okG,h]
def gJ{d:Bd}(h:d.rules.all (Bx d)=Z):d.okG=false:=by simp[Bd.okG,h]
theorem ANK{d:Bd}(h:¬(Hz [] d.rules).length=U d.ac):d.okG=false:=by grind [Bd.okG]
theorem AMb(d:Bd):Bq kT 213 [.agg [.d (.co (d.ac.map BW)),.d (.co (d.be.map BH)),.d (.co (d.rules.map BR))]] []=.ok (dw Jm d.okG):=by
 refine BM func213 ?_
 (repeat' (first|simp only[*,go_sem]|(refine sx ?_ ?_<;>intro h)|refine sy z λg e k=>?_|simp(disch:=first|assumption|omega) only[Ad]))
 all_goals try(rw[show d.okG=Z by simp[Bd.okG];omega,EG])
 have F:U d.ac<=30:=z;have H:U d.be<=30:=z;have K:U d.rules<=30:=z;refine rounds (B0:=λb:Nat=>⟨[(1,.ptr [0,0] 0),(2,.fn 218 [] [.ptr [0,0] 0]),(31,.d (.co (d.ac.map BW))),(32,nI (U d.ac)),(33,nI b)],[([0,0],.box [.d (.co (d.ac.map BW)),.d (.co (d.be.map BH)),.d (.co (d.rules.map BR))])],1,[]⟩)
  (Inv:=λb=>b<=(U d.ac)/\AR (d.ac.all (EA d)=(d.ac.drop b).all (EA d))) (m:=λb=>U d.ac-b) (a:=0) ⟨AG,⟨AG⟩⟩ ?_
 clear h;rintro b ⟨n,f⟩ j
 (repeat' (first|simp only[*,go_sem]|(refine sx ?_ ?_<;>intro h)|refine sy z λg e k=>?_|simp(disch:=first|assumption|omega) only[Ad]))
 .refine Ak (pE d g.at_ _ _ _ ?_) (λD q o=>?_)
  .simp only[go_sem]
  obtain⟨rfl,rfl⟩:=o;by_cases l:0<=g.at_/\g.at_<=(U d.be)
  .rw[D4 l]
   (repeat' (first|simp only[*,go_sem]|(refine sx ?_ ?_<;>intro h)|refine sy z λg e k=>?_|simp(disch:=first|assumption|omega) only[Ad]))
   .refine j.1 (b+1) z ⟨z,⟨?_⟩⟩;rw[f.1,Ax e,F6,show EA d g=X by simp[EA, *],Jp]
   .grind [uq,EG,EA]
   grind [uq,EG,EA]
  .rw[Co l];refine aw ?_;grind [uq,EG,EA]
 have L:d.ac.all (EA d)=true:=by rw[f.1,EM z];rfl
 clear h n f j b;refine rounds (B0:=λb:Nat=>⟨[(1,.ptr [0,0] 0),(2,.fn 218 [] [.ptr [0,0] 0]),(52,.d (.co (d.be.map BH))),(53,nI (U d.be)),(54,nI b)],[([0,0],.box [.d (.co (d.ac.map BW)),.d (.co (d.be.map BH)),.d (.co (d.rules.map BR))])],1,[]⟩)
  (Inv:=λb=>b<=(U d.be)/\AR (ET 0 d.be=ET b (d.be.drop b))) (m:=λb=>U d.be-b) (a:=0) ⟨AG,⟨AG⟩⟩ ?_
 rintro b ⟨n,f⟩ j
 (repeat' (first|simp only[*,go_sem]|(refine sx ?_ ?_<;>intro h)|refine sy z λg e k=>?_|simp(disch:=first|assumption|omega) only[Ad]))
 .refine j.1 (b+1) z ⟨z,⟨?_⟩⟩;rw[f.1,Ax e,ET];simp[*]
 .rw[AV,EG];rw[f.1,Ax e,ET];simp[*]
 .rw[AV,EG];rw[f.1,Ax e,ET];simp[*]
 have O:ET 0 d.be=true:=by rw[f.1,EM z];rfl
 clear h n f j b;refine rounds (B0:=λa:Nat×Al=>⟨[(1,.ptr [0,0] 0),(2,.fn 218 [] [.ptr [0,0] 0]),(7,.mp [1,1]),(72,.d (.co (d.rules.map BR))),(73,nI (U d.rules)),(74,nI a.1)],[([0,0],.box [.d (.co (d.ac.map BW)),.d (.co (d.be.map BH)),.d (.co (d.rules.map BR))]),([1,1],.map (Jf a.2))],2,[]⟩)
  (Inv:=λa=>a.1<=(U d.rules)/\AR (d.rules.all (Bx d)=(d.rules.drop a.1).all (Bx d))/\AR (Hz [] d.rules=Hz a.2 (d.rules.drop a.1))) (m:=λa=>U d.rules-a.1) (a:=(0,[])) ⟨AG,⟨AG⟩,⟨AG⟩⟩ ?_
 rintro⟨b,st⟩ ⟨n,f,k3⟩ j;dsimp only at*;by_cases w:b<U d.rules
 .have⟨r,e⟩:=g_ w;have x:(b:Int)<U d.rules:=z;refine aw (Ak (pE d r.at_ _ _ _ ?_) (λD q o=>?_))
  .simp only[go_sem]
  obtain⟨rfl,rfl⟩:=o;by_cases l:0<=r.at_/\r.at_<=(U d.be)
  .rw[D4 l]
   (repeat' (first|simp only[*,go_sem]|(refine sx ?_ ?_<;>intro h)|refine sy z λg e k=>?_|simp(disch:=first|assumption|omega) only[Ad]))
   ·
    refine rounds (B0:=λa:Nat×Al=>⟨[(1,.ptr [0,0] 0),(2,.fn 218 [] [.ptr [0,0] 0]),(7,.mp [1,1]),(9,.ptr [0,2] 0),(72,.d (.co (d.rules.map BR))),(73,nI (U d.rules)),(74,nI b),(94,.d (.co (r.d7.map AX))),(95,nI (U r.d7)),(96,nI a.1)],[([0,0],.box [.d (.co (d.ac.map BW)),.d (.co (d.be.map BH)),.d (.co (d.rules.map BR))]),([1,1],.map (Jf a.2)),([0,2],.box [nI r.at_,.d (.co (r.d7.map AX)),nI r.node])],3,[]⟩)
     (Inv:=λa=>a.1<=(U r.d7)/\AR (q_g d r 0 r.d7=q_g d r a.1 (r.d7.drop a.1))/\AR (Hz [] d.rules=Hz ((r.d7.drop a.1).foldl U7 a.2) (d.rules.drop (b+1)))) (m:=λa=>U r.d7-a.1) (a:=(0,st)) ⟨AG,⟨AG⟩,⟨by rw[k3.1,Ax e];rfl⟩⟩ ?_
    rintro⟨i,st2⟩ ⟨j1,j2,j3⟩ IH2;dsimp only at*;by_cases B:i<U r.d7
    .have⟨c,hy⟩:=g_ B;have C:(i:Int)<U r.d7:=z;have M:(r.d7.take i).length<=1000000:=BP;have m:AR (H8 d r i c=Z->(BG.of Jm,([]:S))=dw Jm d.okG):=.mk λs=>by
      have A:q_g d r 0 r.d7=false:=by rw[j2.1,Ax hy,q_g,s,F8]
      rw[gJ,EG];rw[f.1,Ax e,F6,show Bx d r=Z by simp[Bx,A],F8]
     by_cases t:0<=c
     .by_cases v:c<U d.ac
      .have⟨A9,hyc⟩:=g_ (l:=d.ac) (i:=c.toNat) z;have p:H8 d r i c=(decide (A9.at_=r.at_)&& !decide (c∈r.d7.take i)):=by simp[H8,hyc,GO t,GO v]
       (repeat' (first|simp only[*,go_sem]|(refine sx ?_ ?_<;>intro h)|refine sy z λg e k=>?_|simp(disch:=first|assumption|omega) only[Ad,kI]))
       .rw[<-p3,AKD (st:=st2) zCZ];refine aw ?_;refine IH2.1 (i+1,U7 st2 c) AZ ⟨AZ,⟨?_⟩,⟨?_⟩⟩
        .dsimp only;rw[j2.1,Ax hy,q_g,p];simp[*]
        .dsimp only;rw[j3.1,Ax hy,Ok]
       .exact m.1 (by rw[p];simp[*])
       .exact m.1 zCI
      .exact aw (m.1 (by grind [H8]))
     .exact aw (m.1 (by grind [H8]))
    .have C:¬(i:Int)<U r.d7:=z;refine aw ?_;refine j.1 (b+1,st2) AZ ⟨AZ,⟨?_⟩,⟨?_⟩⟩
     .dsimp only;rw[f.1,Ax e,F6,show Bx d r=X by rw[EM z]at j2;simp only[Bx,GO l,j2.1,q_g];simp;omega,Jp]
     .dsimp only;rw[j3.1,EM z];rfl
   .rw[gJ,EG];rw[f.1,Ax e,F6,show Bx d r=Z by simp[Bx];omega,F8]
   .rw[gJ,EG];rw[f.1,Ax e,F6,show Bx d r=Z by simp[Bx];omega,F8]
  .rw[Co l];refine aw ?_;rw[gJ,EG];rw[f.1,Ax e,F6,show Bx d r=Z by grind [Bx],F8]
 .have x:¬(b:Int)<U d.rules:=z;have N:d.rules.all (Bx d)=true:=by rw[f.1,EM z];rfl
  have P:(Hz [] d.rules).length=(Jf st).length:=by rw[k3.1,EM z];simp[Hz,Jf]
  (repeat' (first|simp only[*,go_sem]|(refine sx ?_ ?_<;>intro h)|refine sy z λg e k=>?_|simp(disch:=first|assumption|omega) only[Ad]))
  .grind [Bd.okG,wH]
  grind [ANK,EG]
def Dd(t:Bool):List Ar:=[.bool t]
attribute [go_sem] Dd
def Sd(A8:List Bool)(c:Int):List Bool:=A8.set c.toNat X
def Qe(a:List Bool)(c:List DI):List Bool:=c.foldl (λa b=>b.d7.foldl Sd a) a
def Bd.okR(d:Bd):Bool:=decide (U d.ac<=30)&&(decide (U d.be<=30)&&(decide (U d.rules<=30)&&(d.ac.all (EA d)&&(ET 0 d.be&&(d.rules.all (Bx d)&&(Qe (Sm (U d.ac) Z) d.rules).all id)))))
def gK{d:Bd}(h:d.ac.all (EA d)=Z):d.okR=false:=zC5
def zc{d:Bd}(h:ET 0 d.be=Z):d.okR=false:=zC5
def VL{d:Bd}(h:d.rules.all (Bx d)=Z):d.okR=false:=zC5
def ANL{d:Bd}(h:(Qe (Sm (U d.ac) Z) d.rules).all id=Z):d.okR=false:=by simp only[Bd.okR,h,Ls]
theorem AI6(d:Bd):Bq kT 128 [.agg [.d (.co (d.ac.map BW)),.d (.co (d.be.map BH)),.d (.co (d.rules.map BR))]] []=.ok (.ret (.d (.bool d.okR)),[]):=by
 refine BM func128 ?_
 (repeat' (first|simp only[*,go_sem]|(refine sx ?_ ?_<;>intro j)|refine sy z λk f n=>?_|simp(disch:=first|assumption|omega) only[Ad]))
 all_goals try(rw[show d.okR=Z by simp[Bd.okR];omega])
 have O:U d.ac<=30:=z;have C:U d.be<=30:=z;have P:U d.rules<=30:=z;refine rounds (B0:=λb:Nat=>⟨[(1,.ptr [0,0] 0),(3,nI b)],[([0,0],.box [.d (.co (d.ac.map BW)),.d (.co (d.be.map BH)),.d (.co (d.rules.map BR))])],1,[]⟩)
  (Inv:=λb=>b<=(U d.ac)/\AR (d.ac.all (EA d)=(d.ac.drop b).all (EA d))) (m:=λb=>U d.ac-b) (a:=0) ⟨AG,⟨AG⟩⟩ ?_
 clear j;rintro b ⟨o,e⟩ l
 (repeat' (first|simp only[*,go_sem]|(refine sx ?_ ?_<;>intro j)|refine sy z λk f n=>?_|simp(disch:=first|assumption|omega) only[Ad]))
 .exact zA3
 .exact zA3
 .exact zA3
 .exact zA3
 .refine l.1 (b+1) z ⟨z,⟨?_⟩⟩;rw[e.1,Ax f,F6,show EA d k=X by simp[EA];omega,Jp]
 have x:d.ac.all (EA d)=true:=by rw[e.1,EM z];rfl
 clear j o e l b;refine rounds (B0:=λb:Nat=>⟨[(1,.ptr [0,0] 0),(4,nI b)],[([0,0],.box [.d (.co (d.ac.map BW)),.d (.co (d.be.map BH)),.d (.co (d.rules.map BR))])],1,[]⟩)
  (Inv:=λb=>b<=(U d.be)/\AR (ET 0 d.be=ET b (d.be.drop b))) (m:=λb=>U d.be-b) (a:=0) ⟨AG,⟨AG⟩⟩ ?_
 rintro b ⟨o,e⟩ l
 (repeat' (first|simp only[*,go_sem]|(refine sx ?_ ?_<;>intro j)|refine sy z λk f n=>?_|simp(disch:=first|assumption|omega) only[Ad]))
 .rw[zc];rw[e.1,Ax f,ET];simp;omega
 .rw[zc];rw[e.1,Ax f,ET];simp;omega
 .refine l.1 (b+1) z ⟨z,⟨?_⟩⟩;rw[e.1,Ax f,ET,GO z,GO z,Jp,Jp]
 have H:ET 0 d.be=true:=by rw[e.1,EM z];rfl
 by_cases w:d.ac=[]
 .rw[w];clear j o e l;refine aw ?_;rw[Dc];have D:U d.ac=0:=by rw[w];rfl
  rcases hr:d.rules with _|⟨c,a2⟩
  .refine aw ?_;rw[Dc];refine aw ?_;rw[show d.okR=X by simp only[Bd.okR,x,H,hr,w,Qe];simp;exact C]
  .have p:AR (Bx d c=Z->Z=d.okR):=.mk λh=>by rw[VL];rw[hr,F6,h,F8]
   clear x;rcases s:c.d7 with _|⟨g,ar⟩
   ·(repeat' (first|simp only[*,go_sem]|(refine sx ?_ ?_<;>intro j)|refine sy z λk f n=>?_|simp(disch:=first|assumption|omega) only[Ad]))
    all_goals first|(rw[<-p.1 (by simp[Bx,s])];done)|(exfalso;omega)
   .have p:=AR.mk (p.1 (by
     have:q_g d c 0 c.d7=false:=by
      rw[s,q_g,H8,D];by_cases R:0<=g
      .rw[I6 (p:=g<((0:Nat):Int)) z];simp
      .rw[I6 R];simp
     simp only[Bx,this,Ls]))
    (repeat' (first|simp only[*,go_sem]|(refine sx ?_ ?_<;>intro j)|refine sy z λk f n=>?_|simp(disch:=first|assumption|omega) only[Ad]))
    all_goals try first|(rw[<-p.1];done)|(exfalso;omega)
    rw[Dc]
    (repeat' (first|simp only[*,go_sem]|(refine sx ?_ ?_<;>intro j)|refine sy z λk f n=>?_|simp(disch:=first|assumption|omega) only[Ad]))
    all_goals first|(rw[<-p.1];done)|(exfalso;omega)
 have ad:0<U d.ac:=List.length_pos_iff.2 w;rw[VE (zs:=[.bool Z]) ad zCs rfl rfl Af rfl];clear j o e l;refine aw ?_;have F:(Sm (U d.ac) [Ar.bool Z])=(Sm (U d.ac) Z).map Dd:=by rw[LM];rfl
 rw[F];have K:(Sm (U d.ac) Z).length=U d.ac:=IN;refine rounds (B0:=λa:Nat×List Bool=>⟨[(1,.ptr [0,0] 0),(5,.ii [1,1] 0 (U d.ac)),(6,nI a.1)],[([0,0],.box [.d (.co (d.ac.map BW)),.d (.co (d.be.map BH)),.d (.co (d.rules.map BR))]),([1,1],.f8 1 (a.2.map Dd))],2,[]⟩)
  (Inv:=λa=>a.1<=(U d.rules)/\(U a.2)=U d.ac/\AR (d.rules.all (Bx d)=(d.rules.drop a.1).all (Bx d))/\AR (Qe (Sm (U d.ac) Z) d.rules=Qe a.2 (d.rules.drop a.1))) (m:=λa=>U d.rules-a.1) (a:=(0,Sm (U d.ac) Z)) ⟨AG,K,⟨AG⟩,⟨AG⟩⟩ ?_
 clear F K;rintro⟨b,A8⟩ ⟨o,k0,e,k3⟩ l;dsimp only at*;by_cases A:b<U d.rules
 .have⟨c,f⟩:=g_ A;have r:(b:Int)<U d.rules:=z
  (repeat' (first|simp only[*,go_sem]|(refine sx ?_ ?_<;>intro j)|refine sy z λk f n=>?_|simp(disch:=first|assumption|omega) only[Ad]))
  .exact zA4
  .exact zA4
  .exact zA4
  .exact zA4
  refine rounds (B0:=λa:Nat×List Bool=>⟨[(1,.ptr [0,0] 0),(5,.ii [1,1] 0 (U d.ac)),(6,nI b),(7,.ptr [0,2] 0),(8,nI a.1)],[([0,0],.box [.d (.co (d.ac.map BW)),.d (.co (d.be.map BH)),.d (.co (d.rules.map BR))]),([1,1],.f8 1 (a.2.map Dd)),([0,2],.box [nI c.at_,.d (.co (c.d7.map AX)),nI c.node])],3,[]⟩)
   (Inv:=λa=>a.1<=(U c.d7)/\(U a.2)=U d.ac/\AR (q_g d c 0 c.d7=q_g d c a.1 (c.d7.drop a.1))/\AR (Qe (Sm (U d.ac) Z) d.rules=Qe ((c.d7.drop a.1).foldl Sd a.2) (d.rules.drop (b+1)))) (m:=λa=>U c.d7-a.1) (a:=(0,A8)) ⟨AG,k0,⟨AG⟩,⟨by rw[k3.1,Ax f];rfl⟩⟩ ?_
  rintro⟨i,u2⟩ ⟨j1,j0,j2,j3⟩ IH2;dsimp only at*;by_cases W:i<U c.d7
  .have⟨g,hy⟩:=g_ W;have Y:(i:Int)<U c.d7:=z;have q:AR (H8 d c i g=Z->Z=d.okR):=.mk λV=>by
    have s:q_g d c 0 c.d7=false:=by rw[j2.1,Ax hy,q_g,V,F8]
    rw[VL];rw[e.1,Ax f,F6,show Bx d c=Z by simp only[Bx,s,Ls],F8]
   by_cases av:g<0
   .refine aw ?_;rw[<-q.1 (by simp only[H8,I6 (show¬0<=g by omega),F8])]
   by_cases az:(U d.ac:Int)<=g
   .refine aw ?_;rw[<-q.1 (by simp only[H8,I6 (show¬g<U d.ac by omega),F8,Ls])]
   have⟨A9,hyc⟩:=g_ (l:=d.ac) (i:=g.toNat) z;have B:H8 d c i g=(decide (A9.at_=c.at_)&& !decide (g∈c.d7.take i)):=by simp only[H8,hyc,Gs,F7,GO (show 0<=g by omega),GO (show g<U d.ac by omega),Jp]
   have a0:0<=g:=z
   (repeat' (first|simp only[*,go_sem]|(refine sx ?_ ?_<;>intro j)|refine sy z λk f n=>?_|simp(disch:=first|assumption|omega) only[Ad]))
   .refine rounds (B0:=λm:Nat=>⟨[(1,.ptr [0,0] 0),(5,.ii [1,1] 0 (U d.ac)),(6,nI b),(7,.ptr [0,2] 0),(8,nI i),(9,nI g),(10,nI m)],[([0,0],.box [.d (.co (d.ac.map BW)),.d (.co (d.be.map BH)),.d (.co (d.rules.map BR))]),([1,1],.f8 1 (u2.map Dd)),([0,2],.box [nI c.at_,.d (.co (c.d7.map AX)),nI c.node])],3,[]⟩)
     (Inv:=λm=>m<=i/\AR (g∉c.d7.take m)) (m:=λm=>i-m) (a:=0) ⟨AG,⟨AG⟩⟩ ?_
    rintro m ⟨a1,L⟩ N;by_cases n:m<i
    .have⟨v,hv⟩:=g_ (l:=c.d7) (i:=m) z;have aa:(m:Int)<i:=z;have ai:c.d7.take (m+1)=c.d7.take m++[v]:=by rw[Ex,hv];rfl
     (repeat' (first|simp only[*,go_sem]|(refine sx ?_ ?_<;>intro j)|refine sy z λk f n=>?_|simp(disch:=first|assumption|omega) only[Ad]))
     .have:g∈c.d7.take i:=by
       rw[<-j];have:(c.d7.take i)[m]?=J v:=by rw[List.getElem?_take_of_lt n,hv]
       exact AP this
      rw[<-q.1 (by rw[B,GO this];simp)]
     .refine N.1 (m+1) z ⟨z,⟨?_⟩⟩;rw[ai];simp only[Ac,AS,not_or];exact⟨L.1,λh=>by simp_all⟩
    .have aa:¬(m:Int)<i:=z;have D:g.toNat<U d.ac:=z;have⟨M,ht⟩:=g_ (l:=u2) (i:=g.toNat) z;have ac:m=i:=z;subst ac;refine aw ?_;have Q:(u2.map Dd).set g.toNat [Ar.bool X]=(Sd u2 g).map Dd:=by rw[Sd,I2];rfl
     rw[Q];refine IH2.1 (m+1,Sd u2 g) AZ ⟨AZ,by simp[Sd,j0],⟨?_⟩,⟨?_⟩⟩
     .dsimp only;rw[j2.1,Ax hy,q_g,B,GO Cc,I6 L.1];rfl
     .dsimp only;rw[j3.1,Ax hy,Ok]
   .rw[<-q.1 (by rw[B,I6 Cc,F8])]
  .have Y:¬(i:Int)<U c.d7:=z;refine aw ?_;refine l.1 (b+1,u2) AZ ⟨AZ,j0,⟨?_⟩,⟨?_⟩⟩
   .dsimp only;rw[e.1,Ax f,F6,show Bx d c=X by rw[EM z]at j2;simp only[Bx,j2.1,q_g];simp;omega,Jp]
   .dsimp only;rw[j3.1,EM z];rfl
 .have r:¬(b:Int)<U d.rules:=z;refine aw ?_;have ag:d.rules.all (Bx d)=true:=by rw[e.1,EM z];rfl
  have t:Qe (Sm (U d.ac) Z) d.rules=A8:=by rw[k3.1,EM z];rfl
  refine rounds (B0:=λb:Nat=>⟨[(5,.ii [1,0] 0 (U d.ac)),(11,nI b)],[([1,0],.f8 1 (A8.map Dd))],1,[]⟩)
   (Inv:=λb=>b<=(U d.ac)/\AR (A8.all id=(A8.drop b).all id)) (m:=λb=>U d.ac-b) (a:=0) ⟨AG,⟨AG⟩⟩ ?_
  clear o e k3 l A r b;rintro b ⟨o,e⟩ l;have t:=AB t;by_cases A:b<U d.ac
  .have⟨M,ht⟩:=g_ (l:=A8) (i:=b) z;have r:(b:Int)<U d.ac:=z;cases M
   .refine aw ?_;rw[ANL (by rw[t.1,e.1,Ax ht,F6];rfl)]
   .refine aw (l.1 (b+1) z ⟨z,⟨?_⟩⟩);rw[e.1,Ax ht,F6];rfl
  .have r:¬(b:Int)<U d.ac:=z;have T:A8.all id=true:=by rw[e.1,EM z];rfl
   refine aw ?_;rw[show d.okR=X by simp only[Bd.okR,x,H,ag,t.1,T,GO O,GO C,GO P,Bool.and_self]]
def DX(op:Int):Option Nat:=
 if op=1 then J 0 else if op=7 then J 0 else if op=3 then J 2 else if op=2 then J 0 else if op=5 then J 2
 else if op=6 then J 1 else if op=8 then J 1 else if op=4 then J 1 else I
def GA(x:CQ):Bool:=if x.op=2 then decide (U x.args<=3)else if x.op=5 then decide (U x.args=1)else decide (U x.args=0)
def cW(p:Aa)(size:Int)(x:CQ):Bool:=if x.op=2\/x.op=6\/x.op=8 then decide (0<=x.n/\x.n<size)else if x.op=4 then decide (0<=x.n/\x.n<U p.defs)else decide (x.n=0)
def Cw(p:Aa)(size:Int)(x:CQ):Bool:=decide (DX x.op=J (U x.kids))&&(cW p size x&&(GA x&&x.args.all (CC.ok size)))
structure Bu:=
 eq:Al
 met:List Bool
 defs:List Bool
def C5(a:Int->Int->Bu->Option Bu):List (Int×Int)->Bu->Option Bu
 |[],st=>J st|(n,s)::l,st=>match a n s st with|some b=>C5 a l b|none=>I
def DP(d:Bd)(size:Int)(l:List DI):List (Int×Int):=l.map λr=>(r.node,size+CJ d r.d7)
def Cx(size:Int)(l:List Dy):List (Int×Int):=l.map λs=>(s.node,size)
def Cn(size:Int)(l:Al):List (Int×Int):=l.map λk=>(k,size)
def Wu(c:Aa)(size:Int)(a:CQ)(b:Bu):Option (List (Int×Int)×Bu):=
 if a.op=4 then match c.defs[a.n.toNat]? with|some d=>if b.defs[a.n.toNat]?=J Z/\d.okG=X then J (DP d (size+d.own) d.rules++(Cx (size+d.own) d.be++Cn (size+d.own) a.kids),{b with defs:=b.defs.set a.n.toNat X})else I|none=>I
 else J (Cn size a.kids,b)
def Bu.meet(a:Bu)(b size:Int):Bu:={a with eq:=a.eq.set b.toNat size,met:=a.met.set b.toNat X}
def Bg(p:Aa):Nat->Int->Int->Bu->Option Bu
 |0,_,_,_=>I
 |k+1,n,size,st=>
  if 0<=n/\st.met[n.toNat]?=J Z then
   match p.nodes[n.toNat]? with
   |some x=>if Cw p size x=X then match Wu p size x (st.meet n size)with|some (l,st2)=>C5 (Bg p k) l st2|none=>I
    else I
   |none=>I
  else I
def qM(a b:ByteArray):Bool:=Op.bytesLess a.toList b.toList
def Kg:Option ByteArray->List ByteArray->Bool
 |_,[]=>X|b,a::l=>GY a&&((match b with|some b=>qM b a|none=>X)&&Kg (J a) l)
def OQ(l:List ByteArray):Bool:=Kg I l
def Aa.small(p:Aa):Bool:=decide (U p.free<=12)&&(decide (U p.nodes<=60)&&decide (U p.defs<=12))
def Bu.init(p:Aa):Bu:=⟨Sm (U p.nodes) 0,Sm (U p.nodes) Z,Sm (U p.defs) Z⟩
def looks(a:Aa):Option Bu:=
 if a.small=X/\OQ a.free=X then match Bg a (U a.nodes+1) a.main (U a.free) (Bu.init a)with|some b=>if b.met.all id=X/\b.defs.all id=X then J b else I|none=>I
 else I
structure Bu.fit(p:Aa)(st:Bu):Prop:=
 eq:U st.eq=U p.nodes
 met:U st.met=U p.nodes
 defs:U st.defs=U p.defs
def Gk(l:List Bool):Nat:=l.count Z
theorem HS:∀{l:List Bool} {n:Nat},l[n]?=J Z->Gk (l.set n X)+1=Gk l
 :=by grind [Gk]
theorem Qd(l:List Bool):Gk l<=(U l):=List.count_le_length
def Tk{a:Aa}{b:Bu}(h:b.fit a)(c size:Int):(b.meet c size).fit a:=⟨by simp[Bu.meet,h.eq],by simp[Bu.meet,h.met],by simp[Bu.meet,h.defs]⟩
variable{c:Bu}{l:List (Int×Int)}
theorem my{b:Aa}{size:Int}{e:CQ}{a:Bu}(h:Wu b size e a=J (l,c)):c.eq=a.eq/\c.met=a.met/\(U c.defs)=U a.defs:=by grind [Wu]
variable{f:Int->Int->Bu->Option Bu}
theorem bO{R:Bu->Bu->Prop}(m:∀a,R a a)(n:∀e b g,R e b->R b g->R e g)(k:∀h i a c,f h i a=J c->R a c):∀{l:List (Int×Int)} {a c:Bu},C5 f l a=J c->R a c
 :=by intro j;induction j<;>grind [C5]
structure yj(st d8:Bu):Prop:=
 eq:U d8.eq=U st.eq
 met:U d8.met=U st.met
 defs:U d8.defs=U st.defs
 less:Gk d8.met<=Gk st.met
def DE(n:Aa):∀(k:Nat) (m size:Int) (f e:Bu),Bg n k m size f=J e->yj f e
 |0,m,size,f,e,h=>by cases h|k+1,m,size,f,e,h=>by
  rw[Bg]at h;split at h
  .rename_i o;split at h
   .rename_i t s;split at h
    .split at h
     .rename_i l c a;have i:=my a;have j:yj c e:=bO (R:=yj) (λf=>⟨rfl,rfl,rfl,D2 _⟩) (λp b q g a=>⟨a.1.trans g.1,a.2.trans g.2,a.3.trans g.3,Gt a.4 g.4⟩) (DE n k) h;have r:=HS o.2;refine⟨j.1.trans ?_,j.2.trans ?_,j.3.trans ?_,Gt j.4 ?_⟩
      .rw[i.1];simp[Bu.meet]
      .rw[i.2.1];simp[Bu.meet]
      .rw[i.2.2];simp[Bu.meet]
      .rw[i.2.1];simp only[Bu.meet];omega
     .cases h
    .cases h
   .cases h
  .cases h
def IB(p:Aa)(size:Int)(x:CQ):Option (List (Int×Int)):=
 if x.op=4 then match p.defs[x.n.toNat]? with|some d=>if d.okG=X then J (DP d (size+d.own) d.rules++(Cx (size+d.own) d.be++Cn (size+d.own) x.kids))else I|none=>I
 else J (Cn size x.kids)
theorem OB{d:Bd}(h:∀c∈d.ac,0<=c.many/\c.many<=3):∀l:Al,0<=CJ d l/\CJ d l<=3*U l
 :=by intro x;induction x<;>grind [CJ]
structure Vk(d:Bd):Prop:=
 ac:U d.ac<=30
 be:U d.be<=30
 rules:U d.rules<=30
 chan:∀c∈d.ac,0<=c.at_/\c.at_<=(U d.be)/\0<=c.many/\c.many<=3
 spot:ET 0 d.be=X
 pp:∀r∈d.rules,Bx d r=X
 stands:(Hz [] d.rules).length=U d.ac
theorem VK{d:Bd}(h:d.okG=X):Vk d:=by simp[Bd.okG,EA]at h;obtain⟨e,f,g,b,i,j,k⟩:=h;exact⟨e,f,g,λa c=>⟨(b a c).1.1,(b a c).1.2,(b a c).2.1,(b a c).2.2⟩,i,j,k⟩
variable{r:DI}
theorem Jv{d:Bd}:∀{e:Nat} {l:Al},q_g d r e l=X->∀a∈l,0<=a/\a<U d.ac
 |e,[],h=>AG|e,c::l,h=>by
  intro a b;rw[q_g,As]at h;rcases DO.1 b with rfl|b
  .grind [H8]
  .exact Jv h.2 a b
def SW{d:Bd}(h:Vk d)(c:r∈d.rules):d.q_g r:=by have:=h.pp r c;simp[Bx]at this;exact⟨this.2.2.1,Jv this.2.2.2,λa b=>(h.chan a b).2.2⟩
theorem ZE{d:Bd}(h:Vk d):d.own<=60:=by have:=h.ac;have:=h.be;unfold Bd.own;omega
theorem ACo{g:Aa}{size:Int}{i:CQ}(h:IB g size i=J l):∀c∈l,size<=c.2/\c.2<=size+70:=by
 unfold IB at h;split at h
 .split at h
  .rename_i d j;split at h
   .rename_i a;cases h;have a:=VK a;have k:=ZE a;intro c f;simp[DP,Cx,Cn]at f;rcases f with⟨r,b,rfl⟩|⟨r,b,rfl⟩|⟨r,b,rfl⟩
    .have e:=SW a b;have:=OB e.2.2 r.d7;have:=e.1;dsimp only;omega
    .dsimp only;omega
    .dsimp only;omega
   .cases h
  .cases h
 grind [Cn]
def Bu.has(b:Bu)(a:Int×Int):Prop:=0<=a.1/\b.met[a.1.toNat]?=J X/\b.eq[a.1.toNat]?=J a.2
structure tk(p:Aa)(st:Bu)(i:Nat)(x:CQ):Prop:=
 met:st.met[i]?=J X
 ex:∃s l,st.eq[i]?=J s/\0<=s/\s<=5000/\Cw p s x=X/\IB p s x=J l/\∀q∈l,st.has q
structure Wm(p:Aa)(st d8:Bu):Prop:=
 pm:∀i:Nat,st.met[i]?=J X->d8.met[i]?=J X/\d8.eq[i]?=st.eq[i]?
 rg:∀(i:Nat) (x:CQ),d8.met[i]?=J X->st.met[i]? ≠J X->p.nodes[i]?=J x->tk p d8 i x
 defs:∀i:Nat,st.defs[i]?=J X->d8.defs[i]?=J X
 news:∀(i:Nat) (x:CQ),d8.met[i]?=J X->st.met[i]? ≠J X->p.nodes[i]?=J x->x.op=4->st.defs[x.n.toNat]? ≠J X/\d8.defs[x.n.toNat]?=J X
 used:∀n:Nat,d8.defs[n]?=J X->st.defs[n]? ≠J X->∃(i:Nat) (x:CQ),p.nodes[i]?=J x/\x.op=4/\x.n.toNat=n
 diff:∀(i j:Nat) (x A9:CQ),i≠j->d8.met[i]?=J X->st.met[i]? ≠J X->p.nodes[i]?=J x->x.op=4->d8.met[j]?=J X->st.met[j]? ≠J X->p.nodes[j]?=J A9->A9.op=4->x.n.toNat≠A9.n.toNat
variable{a:Bu}
theorem xQ{j:Aa}{c:Bu}{b:Int×Int}(h:c.has b)(i:Wm j c a):a.has b:=by obtain⟨e,f,g⟩:=h;have:=i.pm _ f;exact⟨e,this.1,by rw[this.2,g]⟩
def AJ1{b:Aa}{f:Bu}{e:Nat}{g:CQ}(h:tk b f e g)(c:Wm b f a):tk b a e g:=by obtain⟨j,s,l,k,i,p,m,n,o⟩:=h;have:=c.pm _ j;exact⟨this.1,s,l,by rw[this.2,k],i,p,m,n,λr q=>xQ (o r q) c⟩
theorem ADZ(g:Aa)(e:Bu):Wm g e e:=⟨λc h=>⟨h,rfl⟩,λc f a b=>absurd a b,λc h=>h,λc f a b=>absurd a b,λj a b=>absurd a b,λc i f k h a b=>absurd a b⟩
theorem yp{v:Aa}{w b x:Bu}(g:Wm v w b)(c:Wm v b x):Wm v w x:=by
 refine⟨λa h=>?_,λa f l m e=>?_,λa h=>c.defs a (g.defs a h),λa f l m e K=>?_,λt l m=>?_,λa j f r B C D e o F H q p=>?_⟩
 .have s:=g.pm a h;have A:=c.pm a s.1;grind
 .by_cases i:b.met[a]?=J X
  .exact AJ1 (g.rg a f i m e) c
  .exact c.rg a f l i e
 .by_cases i:b.met[a]?=J X
  .have:=g.news a f i m e K;exact⟨this.1,c.defs _ this.2⟩
  .have:=c.news a f l i e K;exact⟨λL=>this.1 (g.defs _ L),this.2⟩
 .by_cases i:b.defs[t]?=J X
  .exact g.used t i m
  .exact c.used t l i
 .by_cases n:b.met[a]?=J X
  .by_cases k:b.met[j]?=J X
   .exact g.diff a j f r B n D e o k H q p
   .have s:=g.news a f n D e o;have A:=c.news j r F k q p;grind
  .by_cases k:b.met[j]?=J X
   .have s:=g.news j r k H q p;have A:=c.news a f C n e o;grind
   .exact c.diff a j f r B C n e o F k q p
structure YW(st:Bu)(A8:Nat):Prop:=
 len:U st.eq=U st.met
 less:Gk st.met<=A8
def z5{i:Aa}{c:Nat}(k:∀(h g:Int) (b a:Bu),YW b c->0<=g->g+70*c<=5000->f h g b=J a->Wm i b a/\a.has (h,g)/\YW a c):∀{l:List (Int×Int)} {b a:Bu},YW b c->(∀e∈l,0<=e.2/\e.2+70*c<=5000)->C5 f l b=J a->Wm i b a/\(∀e∈l,a.has e)/\YW a c
 :=by intro j;induction j<;>grind [ADZ,C5,yp,xQ]
theorem cC{f:Aa}{size:Int}{a:CQ}{e:Bu}(h:Wu f size a e=J (l,c)):IB f size a=J l/\c.eq=e.eq/\c.met=e.met/\(∀b:Nat,e.defs[b]?=J X->c.defs[b]?=J X)/\(a.op=4->e.defs[a.n.toNat]? ≠J X/\c.defs[a.n.toNat]?=J X)/\∀b:Nat,c.defs[b]?=J X->e.defs[b]? ≠J X->a.op=4/\a.n.toNat=b:=by
 unfold Wu at h;unfold IB;split at h
 .rename_i g;rw[D4 g];split at h
  .grind
  .cases h
 grind
theorem du(B:Aa):∀(A:Nat) (e size:Int) (i a:Bu) (g:Nat),YW i g->0<=size->size+70*g<=5000->Bg B A e size i=J a->Wm B i a/\a.has (e,size)/\YW a g
 |0,e,size,i,a,g,_,_,_,h=>by cases h|A+1,e,size,i,a,g,hb,h0,hsz,h=>by
  rw[Bg]at h;split at h
  .rename_i v;split at h
   .rename_i av p;split at h
    .rename_i aa;split at h
     .rename_i l c R;have j:=cC R;have a1:=hb.len;have a4:=HS v.2;have a3:=hb.less;obtain⟨g,rfl⟩:∃ar,g=ar+1:=⟨g-1,z⟩;have T:YW c g:=⟨by grind [Bu.meet],by grind [Bu.meet]⟩;have W:=ACo j.1;have⟨ha,hl,k⟩:=z5 (λe ag i a=>du B A e ag i a g) T (λad ac=>by have:=W ad ac;omega) h;have a2:=(BI.1 v.2).1;have N:∀b,c.met[b]?=if e.toNat=b then J X else i.met[b]? :=λb=>by grind [Bu.meet]
      have ai:∀b,c.eq[b]?=if e.toNat=b then J size else i.eq[b]? :=λb=>by grind [Bu.meet]
      have t:=ha.pm e.toNat (by rw[N,D4 rfl]);rw[ai,D4 rfl]at t;refine⟨⟨λb n=>?_,λb m r Y f=>?_,λb n=>ha.defs b (j.2.2.2.1 b n),λb m r Y f M=>?_,λb n V=>?_,λb s m O D F az f w H a0 k x=>?_⟩,⟨v.1,t.1,t.2⟩,k.1,Nat.le_succ_of_le k.2⟩
      .have o:e.toNat≠b:=λq=>by grind
       have:=ha.pm b (by rw[N,Co o,n]);grind
      .by_cases o:e.toNat=b
       .subst o;rw[p]at f;cases f;exact⟨r,size,l,t.2,h0,z,aa,j.1,hl⟩
       .exact ha.rg b m r zCI f
      .by_cases o:e.toNat=b
       .subst o;rw[p]at f;cases f;have:=j.2.2.2.2.1 M;exact⟨this.1,ha.defs _ this.2⟩
       .have:=ha.news b m r zCI f M;exact⟨λq=>this.1 (j.2.2.2.1 _ q),this.2⟩
      .by_cases C:c.defs[b]?=J X
       .have:=j.2.2.2.2.2 b C V;exact⟨_,av,p,this⟩
       .exact ha.used b n C
      .by_cases K:e.toNat=b
       .have L:e.toNat≠s:=λq=>D (K.symm.trans q);subst K;rw[p]at f;cases f;have P:=j.2.2.2.2.1 w;have Q:=ha.news s O H zCI k x;grind
       .by_cases L:e.toNat=s
        .subst L;rw[p]at k;cases k;have P:=j.2.2.2.2.1 x;have Q:=ha.news b m F zCI f w;grind
        .exact ha.diff b s m O D F zCI f w H zCI k x
     .cases h
    .cases h
   .cases h
  .cases h
structure Ao(p:Aa)(eq:Al):Prop:=
 small:p.small=X
 len:U eq=U p.nodes
 main:0<=p.main/\eq[p.main.toNat]?=J (U p.free:Int)
 node:∀(i:Nat) (x:CQ),p.nodes[i]?=J x->∃(s:Int) (l:List (Int×Int)),eq[i]?=J s/\0<=s/\s<=5000/\Cw p s x=X/\IB p s x=J l/\∀q∈l,0<=q.1/\eq[q.1.toNat]?=J q.2
 used:∀n:Nat,n<U p.defs->∃(i:Nat) (x:CQ),p.nodes[i]?=J x/\x.op=4/\x.n.toNat=n
 diff:∀(i j:Nat) (x A9:CQ),i≠j->p.nodes[i]?=J x->x.op=4->p.nodes[j]?=J A9->A9.op=4->x.n.toNat≠A9.n.toNat
theorem eY{l:List Bool}(h:l.all id=X){a:Nat}(b:a<U l):l[a]?=J true:=by grind [List.getElem_mem]
theorem En{c:Aa}{f:Bu}(h:looks c=J f):Ao c f.eq:=by
 unfold looks at h;split at h
 .rename_i p;split at h
  .rename_i a q;split at h
   .rename_i n;cases h;have C:=p.1;simp[Aa.small]at C;have k:=DE c _ _ _ _ _ q;have O:=Qd (Bu.init c).met;have L:(Bu.init c).met.length=U c.nodes:=by simp[Bu.init]
    have i:=du c _ _ _ _ _ 60 ⟨by simp[Bu.init],z⟩ z z q;have M:U f.met=U c.nodes:=by rw[k.met];simp[Bu.init]
    have D:U f.eq=U c.nodes:=by rw[k.eq];simp[Bu.init]
    have K:U f.defs=U c.defs:=by rw[k.defs];simp[Bu.init]
    have m:∀{b g},c.nodes[b]?=J g->f.met[b]?=J true:=λ{b g} e=>eY n.1 zCI;have j:∀b:Nat,(Bu.init c).met[b]? ≠J true:=λb=>by grind [Bu.init]
    have w:∀b:Nat,(Bu.init c).defs[b]? ≠J true:=λb=>by grind [Bu.init]
    refine⟨p.1,D,⟨i.2.1.1,i.2.1.2.2⟩,λb g e=>?_,λt N=>i.1.used t (eY n.2 z) (w t),λb F g H x e A r B=>i.1.diff b F g H x (m e) (j _) e A (m r) (j _) r B⟩;have⟨_,s,l,h1,hp,hb,h2,h3,h4⟩:=i.1.rg b g (m e) (j _) e;exact⟨s,l,h1,hp,hb,h2,h3,λv o=>⟨(h4 v o).1,(h4 v o).2.2⟩⟩
   .cases h
  .cases h
 .cases h
structure XU(n:Nat)(A8:List Bool)(st:Al):Prop:=
 len:U A8=n
 cnt:Gk A8+U st=n
 mem:∀c:Int,0<=c->c<n->(A8[c.toNat]?=J X↔c∈st)
theorem ACS{f:Nat}{c:List Bool}{e:Al}{a:Int}(h:XU f c e)(n:0<=a)(o:a<f):XU f (Sd c a) (U7 e a):=by
 have v:a.toNat<U c:=by rw[h.len];omega
 have l:=h.mem a n o;have q:∀b:Int,0<=b->b<f->((Sd c a)[b.toNat]?=J X↔b=a\/c[b.toNat]?=J X):=λb i j=>by grind [Sd]
 rcases hu:c[a.toNat]? with _|s
 .grind
 .rcases s with _|_
  .have r:a∉e:=λk=>by rw[l.2 k]at hu;simp at hu
   have g:U7 e a=e++[a]:=by rw[U7,Co r]
   have k:=HS hu;have t:=h.cnt;refine⟨by simp[Sd,h.len],?_,λb i j=>?_⟩
   .grind [Sd]
   .rw[q b i j,g,h.mem b i j];simp[or_comm]
  .have p:=l.1 hu;have g:U7 e a=e:=by rw[U7,D4 p]
   have m:Sd c a=c:=by
    apply Lt;intro w;rw[Sd,F5];split
    .grind
    .rfl
   rw[m,g];exact h
theorem pk{a:Nat}:∀{l:Al} {e:List Bool} {c:Al},XU a e c->(∀b∈l,0<=b/\b<a)->XU a (l.foldl Sd e) (l.foldl U7 c)
 :=by intro f;induction f<;>grind [ACS]
def Wb{e:Nat}:∀{l:List DI} {c:List Bool} {a:Al},XU e c a->(∀r∈l,∀f∈r.d7,0<=f/\f<e)->XU e (Qe c l) (Hz a l)
 |[],c,a,h,_=>h|r::l,c,a,h,hc=>by have g:Qe c (r::l)=Qe (r.d7.foldl Sd c) l:=rfl;have i:Hz a (r::l)=Hz (r.d7.foldl U7 a) l:=rfl;rw[g,i];exact Wb (pk h (hc r AG)) (λb j=>hc b (Bi _ j))
theorem yv:∀l:List Bool,l.all id=decide (Gk l=0)
 :=by intro x;induction x<;>grind [Gk]
theorem AO6(d:Bd):d.okR=d.okG:=by
 unfold Bd.okR Bd.okG;by_cases e:d.rules.all (Bx d)=X
 .have b:XU (U d.ac) (Sm (U d.ac) Z) []:=⟨AG,by simp[Gk],λa b g=>by simp[List.getElem?_replicate]⟩;have h:=Wb (l:=d.rules) b (λr f a c=>by have:=EL.1 e r f;simp only[Bx,As]at this;exact Jv this.2.2.2 a c)
  have c:=h.cnt;grind [yv]
 grind
end Go.Proofs
namespace Go.Proofs
open Abs Tryz
def TW(eq:Al)(x:CQ):Int:=((x.kids[0]?).map λk=>(eq[k.toNat]?).getD 0).getD 0
def TR(eq:Al):Al->List CQ->Al
 |out,[]=>out|out,x::l=>TR eq (if x.op=4 then out.set x.n.toNat (TW eq x)else out) l
def OV(p:Aa)(eq:Al):Al:=TR eq (Sm (U p.defs) 0) p.nodes
def TS(eq:Al)(c:Nat)(h:Int):∀(f:List CQ) (out:Al),c<U out->(∀a∈f,a.op=4->a.n.toNat=c->TW eq a=h)->(out[c]?=J h\/∃a∈f,a.op=4/\a.n.toNat=c)->(TR eq out f)[c]?=J h
 |[],out,hn,h1,h2=>by
  rcases h2 with g|⟨a,b,_⟩
  .exact g
  .cases b
 |a::f,out,hn,h1,h2=>by
  rw[TR];refine TS eq c h f _ (by split<;>simpa using hn) (λi e=>h1 i (Bi _ e)) ?_;by_cases b:a.op=4/\a.n.toNat=c
  .left;rw[D4 b.1,F5,D4 b.2,b.2,D4 hn,h1 a AG b.1 b.2]
  .rcases h2 with g|⟨i,e,j⟩
   .left;split
    .rename_i l;rw[F5,Co λk=>b ⟨l,k⟩];exact g
    .exact g
   .rcases DO.1 e with rfl|e
    .exact absurd j b
    .exact .inr ⟨i,e,j⟩
structure AIX(p:Aa)(eq:Al)(n:Nat)(d:Bd):Prop:=
 ok:Vk d
 node:∃(i:Nat) (x:CQ) (s:Int),p.nodes[i]?=J x/\x.op=4/\x.n.toNat=n/\eq[i]?=J s/\0<=s/\s<=5000/\(OV p eq)[n]?=J (s+d.own)/\(∀r∈d.rules,0<=r.node/\eq[r.node.toNat]?=J (s+d.own+CJ d r.d7))/\(∀A9∈d.be,0<=A9.node/\eq[A9.node.toNat]?=J (s+d.own))/\∃k,x.kids=[k]/\0<=k/\eq[k.toNat]?=J (s+d.own)
theorem Bk{e:Aa}{eq:Al}(f:Ao e eq){c:Nat}{d:Bd}(j:e.defs[c]?=J d):AIX e eq c d:=by
 have k:=(BI.1 j).1;have⟨i,x,hx,hxo,hxn⟩:=f.used c k;have⟨s,l,hs,h0,hb,hok,hl,hq⟩:=f.node i x hx;have b:=hl;rw[IB,D4 hxo,hxn,j]at b;dsimp only at b;split at b
 .rename_i p;cases b;have t:∃a,x.kids=[a]:=by
   simp only[Cw,As,D3]at hok;have:=hok.1;rw[hxo]at this;simp only[DX]at this;have:U x.kids=1:=by simpa using this.symm
   match g:x.kids,this with|[a],_=>exact⟨a,rfl⟩
  obtain⟨a,g⟩:=t;have v:0<=a/\eq[a.toNat]?=J (s+d.own):=hq (a,s+d.own) (by simp[Cn,g]);refine⟨VK p,i,x,s,hx,hxo,hxn,hs,h0,hb,?_,λo B=>?_,λh m=>?_,a,g,v⟩
  .refine TS eq c _ e.nodes _ zCX (λh m A w=>?_) (.inr ⟨x,AP hx,hxo,hxn⟩);obtain⟨n,r⟩:=Ce m;by_cases q:i=n
   .grind [TW]
   .exact absurd (hxn.trans w.symm) (f.diff i n x h q hx hxo r A)
  .exact hq (o.node,s+d.own+CJ d o.d7) (by grind [DP])
  .exact hq (h.node,s+d.own) (by grind [Cx])
 .cases b
def Ay.own(d:Bd)(a:Ay)(b:Bool)(c:Int):Int:=((a.env[U a.env-U d.be-(if b then (U d.ac) else 0)+c.toNat]?).map C8.n).getD 0
def Ay.place(d:Bd)(g:Ay)(n:Int):Int:=if n=0 then g.at_ else g.own d Z (n-1)
def BA(l:List CN)(i:Int):Bool:=((l[i.toNat]?).map CN.dead).getD Z
def QC(e:Aa)(b c:Nat)(many:Int)(a:List C8):Bool:=decide ((U a:Int)=many)&&a.all (C8.inB e b c)
def w6(h:Aa)(b:BQ)(d:Bd)(e:Ay)(f g:Nat)(a:Fo)(c:HV):Bool:=decide (a.group=f)&&(decide (a.index=g)&&(decide (a.at_=e.place d c.at_)&&(decide (U a.queue<=12)&&((decide (U a.queue=0)|| !BA b.be a.at_)&&a.queue.all (QC h (U b.ac) (U b.be) c.many)))))
def jy(h:Aa)(a:BQ)(d:Bd)(e:Ay)(f g b:Nat)(c:HV):Bool:=match a.ac[b]? with|some q=>w6 h a d e f g q c|none=>Z
def R3(p:Aa)(s:BQ)(d:Bd)(g:Ay)(i c:Nat):Nat->List HV->Bool
 |_,[]=>X|j,ch::l=>jy p s d g i j (c+j) ch&&R3 p s d g i c (j+1) l
def Hb(c k:Nat)(d:Bd):List C8:=(List.range' c (U d.ac)).map (λ(j:Nat)=>⟨3,(j:Int)⟩)++(List.range' k (U d.be)).map (λ(j:Nat)=>⟨4,(j:Int)⟩)
def L6(d:Bd)(c k:Nat)(g:Ay):Bool:=decide (g.env.drop (U g.env-U d.ac-U d.be)=Hb c k d)
def xY(e:Aa)(f:Al)(b:BQ)(g c h:Nat)(a:Ay)(d:Bd):Bool:=decide (Jh b.be a.at_)&&(decide ((U a.env:Int)=(f[a.ip.toNat]?).getD 0)&&(a.env.all (C8.inB e (U b.ac) (U b.be))&&(L6 d c h a&&R3 e b d a g c 0 d.ac)))
def Aa.def? (p:Aa)(n:Int):Option Bd:=if 0<=n then p.defs[n.toNat]? else I
def P1(b:Aa)(e:Al)(a:BQ):Nat->Nat->Nat->List Ay->Bool
 |_,c,k,[]=>decide (c=U a.ac)&&decide (k=U a.be)|i,c,k,g::l=>match b.def? g.ip with|some d=>xY b e a i c k g d&&P1 b e a (i+1) (c+U d.ac) (k+U d.be) l|none=>Z
def O8(op:Int):Bool:=decide (op=6)||(decide (op=7)||decide (op=8))
def IC(p:Aa)(eq:Al)(s:BQ)(w:Ia):Bool:=decide (Jh s.be w.at_)&&(!BA s.be w.at_&&(decide (0<=w.node)&&((match p.nodes[w.node.toNat]? with|some x=>O8 x.op|none=>Z)&&(decide ((U w.env:Int)=(eq[w.node.toNat]?).getD 0)&&w.env.all (C8.inB p (U s.ac) (U s.be))))))
def X1(l:List CN):List CN->Bool
 |[]=>X|x::m=>(x.dead|| !BA l x.in_)&&X1 l m
def BQ.small(s:BQ):Bool:=decide (U s.be<=24)&&(decide (U s.bv<=40)&&(decide (U s.ac<=60)&&decide (U s.waits<=40)))
def yT(p:Aa)(eq:Al)(s:BQ):Bool:=s.small&&(qe s.be&&(X1 s.be (s.be.drop 1)&&(P1 p (OV p eq) s 0 0 1 s.bv&&s.waits.all (IC p eq s))))
end Go.Proofs
namespace Go.Proofs
open Abs Tryz
theorem E6{i:Aa}{eq:Al}(k:Ao i eq){j:Nat}{a:CQ}(n:i.nodes[j]?=J a)(f:a.op=4):0<=a.n/\a.n<U i.defs/\∃b g,a.kids=[b]/\0<=b/\eq[b.toNat]?=J g/\TW eq a=g/\0<=g/\g<=5070:=by
 have⟨s,l,hs,h0,hb,hok,hl,hq⟩:=k.node j a n;simp only[Cw,As,D3]at hok;have e:=hok.2.1;rw[cW,Co (by rw[f];decide),D4 f]at e;have e:=of_decide_eq_true e;refine⟨e.1,e.2,?_⟩;have h:=hok.1;rw[f]at h;simp only[DX]at h;have m:U a.kids=1:=by simpa using h.symm
 match hkk:a.kids,m with
 |[b],_=>
  have c:=hl;rw[IB,D4 f]at c;split at c
  .rename_i d o;split at c
   .rename_i p;cases c;have q:0<=b/\eq[b.toNat]?=J (s+d.own):=hq (b,s+d.own) (by simp[Cn,hkk]);grind [ZE,VK,TW]
   .cases c
  .cases c
end Go.Proofs
namespace Go.Proofs
open Abs Tryz
theorem SS(c k:Nat)(d:Bd):(Hb c k d).length=d.own:=by simp[Hb,Bd.own]
variable{j:Nat}
theorem KN(c k:Nat)(d:Bd)(h:j<U d.ac):(Hb c k d)[j]?=J ⟨3,(c:Int)+(j:Int)⟩:=by grind [Hb]
theorem WH(c k:Nat)(d:Bd)(h:j<U d.be):(Hb c k d)[U d.ac+j]?=J ⟨4,(k:Int)+(j:Int)⟩:=by grind [Hb]
variable{k:Nat}{g:Ay}
def oA{d:Bd}{c:Nat}(h:L6 d c k g=X)(j:Nat):g.env[U g.env-U d.ac-U d.be+j]?=(Hb c k d)[j]? :=by have h:=of_decide_eq_true h;rw[<-h,SP]
def ABd{d:Bd}{a:Nat}(b:L6 d a k g=X)(c:j<U d.ac):g.env[U g.env-U d.ac-U d.be+j]?=J ⟨3,(a:Int)+(j:Int)⟩:=by rw[oA b,KN _ _ _ c]
theorem cV{d:Bd}{a:Nat}(b:L6 d a k g=X)(c:d.own<=(U g.env))(e:j<U d.be):g.env[U g.env-U d.be+j]?=J ⟨4,(k:Int)+(j:Int)⟩:=by unfold Bd.own at c;have:=oA b (U d.ac+j);grind [WH]
theorem ZH{d:Bd}{b:Nat}(c:L6 d b k g=X)(e:d.own<=(U g.env)){a:Int}(f:1<=a)(h:a<=(U d.be)):g.place d a=(k:Int)+(a-1):=by rw[Ay.place,Co z,Ay.own];simp only[AM,Ge,Nat.sub_zero];rw[cV c e (j:=(a-1).toNat) z];grind
theorem ME{d:Bd}{b:Nat}(c:L6 d b k g=X){a:Int}(e:0<=a)(f:a<U d.ac):g.own d X a=(b:Int)+a:=by rw[Ay.own];simp;have:=ABd c (j:=a.toNat) z;grind
theorem pD{l:Aa}{b:BQ}{d:Bd}{f:Nat}(c:L6 d f k g=X)(e:d.own<=(U g.env))(p:Jh b.be g.at_)(j:g.env.all (C8.inB l (U b.ac) (U b.be))=X){a:Int}(o:0<=a)(h:a<=(U d.be)):Jh b.be (g.place d a):=by
 by_cases n:a=0
 .grind [Ay.place]
 .rw[ZH c e z h];have i:=cV c e (j:=(a-1).toNat) z;have:=EL.1 j _ (AP i);simp[C8.inB]at this;have m:((a-1).toNat:Int)=a-1:=Hw z;constructor
  .omega
  .omega
structure Cy:=
 em:BQ
 ev:List Ij
 work:Int
structure GL:=
 node:Int
 at_:Int
 env:List C8
def BK{c:Type}(b:List c)(a:Int):List c:=b.take a.toNat++b.drop (a.toNat+1)
def Hj(l:List C8)(i:Int):C8:=(l[i.toNat]?).getD ⟨0,0⟩
def EE(p:Aa)(s:BQ)(q:Fo):Int:=(((s.bv[q.group.toNat]?).bind λg=>(p.defs[g.ip.toNat]?).bind λd=>d.ac[q.index.toNat]?).map HV.many).getD 0
def Vt(s:BQ)(n:Int)(q:Fo)(l:List C8):Option BQ:=if (U q.queue)<12 then J {s with ac:=s.ac.set n.toNat {q with queue:=q.queue++[l]}}else I
def Oz(p:Aa)(s:BQ)(n:Int)(l:List C8):Option BQ:=match s.ac[n.toNat]? with|some q=>if BA s.be q.at_=Z/\EE p s q=U l then Vt s n q l else J s|none=>J s
def AQy(at_ n:Int)(l:List C8):Ij:=⟨5,at_,n,0,l⟩
def Ff(c:Aa)(b:CQ)(j:GL)(a:Cy):Option Cy:=
 let l:=b.args.map (·.value j.env)
 let to:=Hj j.env b.n
 if to.kind=2 then J {a with ev:=a.ev++[AQy j.at_ to.n l]}
 else if to.kind=3 then(Oz c a.em to.n l).map λe=>{a with em:=e}else J a
def Eh(d:Bd)(g:Ay)(i:Nat):Nat->List HV->List Fo
 |_,[]=>[]|k,c::l=>⟨i,k,g.place d c.at_,[]⟩::Eh d g i (k+1) l
def Ei(d:Bd)(g:Ay)(l:List Dy):List CN:=l.map λA9=>⟨g.place d A9.in_,Z⟩
def Ae(s:BQ)(d:Bd)(n:Int)(j:GL):Ay:=⟨n,j.at_,j.env++Hb (U s.ac) (U s.be) d⟩
def Br(s:BQ)(d:Bd)(g:Ay):BQ:={s with bv:=s.bv++[g],ac:=s.ac++Eh d g (U s.bv) 0 d.ac,be:=s.be++Ei d g d.be}
def Cg(d:Bd)(g:Ay):Nat->List Dy->List GL
 |_,[]=>[]|k,A9::l=>⟨A9.node,g.place d (k+1),g.env⟩::Cg d g (k+1) l
def Bh(x:CQ)(k:Nat)(at_:Int)(env:List C8):List GL:=match x.kids[k]? with|some n=>[⟨n,at_,env⟩]|none=>[]
def KI(c:Aa)(b:CQ)(j:GL)(a:Cy):Option (Cy×List GL):=match c.defs[b.n.toNat]? with
 |some d=>
  let g:=Ae a.em d b.n j
  let s:=Br a.em d g
  if (U s.ac)<=60/\(U s.be)<=24/\(U s.bv)<=40 then J ({a with em:=s},Cg d g 0 d.be++Bh b 0 j.at_ g.env)else I
 |none=>I
def TU(x:CQ)(env:List C8):Nat:=match x.args[0]? with|some e=>if (e.value env).kind=1/\(e.value env).n≠0 then 0 else 1|none=>1
def Gg(j:GL)(a:Cy):Option Cy:=if (U a.em.waits)<40 then J {a with em:={a.em with waits:=a.em.waits++[⟨j.at_,j.node,j.env⟩]}}else I
def Kn(c:Aa)(j:GL)(b:Cy):Option (Cy×List GL):=match c.nodes[j.node.toNat]? with
 |some a=>
  if a.op=2 then(Ff c a j b).map λb=>(b,[])
  else if a.op=3 then J (b,Bh a 0 j.at_ j.env++Bh a 1 j.at_ j.env)
  else if a.op=4 then KI c a j b
  else if a.op=5 then J (b,Bh a (TU a j.env) j.at_ j.env)
  else if O8 a.op=X then(Gg j b).map λb=>(b,[])
  else J (b,[])
 |none=>I
def ED(f:GL->Cy->Option Cy):List GL->Cy->Option Cy
 |[],st=>J st|j::l,st=>(f j st).bind (ED f l)
def R5(f:GL->Cy->Option Cy):Option (Cy×List GL)->Option Cy
 |some (st,js)=>ED f js st|none=>I
def J9(p:Aa):Nat->GL->Cy->Option Cy
 |0,_,_=>I|k+1,j,st=>if st.work<400 then R5 (J9 p k) (Kn p j {st with work:=st.work+1})else I
def ws(p:Aa)(s:BQ)(w:Ia):Bool:=match p.nodes[w.node.toNat]? with
 |some x=>if x.op=7 then X else
  let v:=Hj w.env x.n
  if v.kind=4 then(if x.op=8 then BA s.be v.n else decide (w.at_≠0)&&(!BA s.be v.n&& !Ea s.be v.n w.at_))else Z
 |none=>Z
def GW(p:Aa)(s:BQ):Nat->List Ia->List Dp
 |_,[]=>[]|i,w::l=>(if ws p s w=X then [⟨i,0,0,[]⟩]else [])++GW p s (i+1) l
def Dx:u->List Al
 |[]=>[[]]|n::l=>(V5 n).flatMap λ(i:Nat)=>(Dx l).map λt=>(i:Int)::t
def QL(s:BQ)(c:Int):Nat:=((s.ac[c.toNat]?).map λq=>U q.queue).getD 0
def C7(s:BQ)(d:Bd)(g:Ay)(r:DI):u:=r.d7.map λc=>QL s (g.own d X c)
def J0(s:BQ)(d:Bd)(g:Ay)(r:DI):List Al:=if BA s.be (g.place d r.at_)=X then []else Dx (C7 s d g r)
def IW(s:BQ)(d:Bd)(g:Ay)(i:Nat):Nat->List DI->List Dp
 |_,[]=>[]|k,r::l=>((J0 s d g r).map λt=>⟨-1,i,k,t⟩)++IW s d g i (k+1) l
def JL(p:Aa)(s:BQ):Nat->List Ay->List Dp
 |_,[]=>[]|i,g::l=>(match p.def? g.ip with|some d=>IW s d g i 0 d.rules|none=>[])++JL p s (i+1) l
def Et(p:Aa)(s:BQ):List Dp:=GW p s 0 s.waits++JL p s 0 s.bv
def EW(s:BQ)(c:Int)(k:Int):List C8×BQ:=match s.ac[c.toNat]? with|some q=>(((q.queue[k.toNat]?).getD []),{s with ac:=s.ac.set c.toNat {q with queue:=BK q.queue k}})|none=>([],s)
def Bb(d:Bd)(g:Ay):Al->Al->BQ->List C8×BQ
 |c::cs,k::ks,s=>((EW s (g.own d X c) k).1++(Bb d g cs ks (EW s (g.own d X c) k).2).1,(Bb d g cs ks (EW s (g.own d X c) k).2).2)|_,_,s=>([],s)
def RI(p:Aa)(x:Dp)(d:Bd)(g:Ay)(r:DI)(s:BQ):Option Cy:=
 let t:=Bb d g r.d7 x.picks s
 let at_:=g.place d r.at_
 J9 p 401 ⟨r.node,at_,g.env++t.1⟩ ⟨t.2,[⟨1,at_,x.group,x.pp,t.1⟩],0⟩
def react(p:Aa)(s:BQ)(x:Dp):Option Cy:=match s.bv[x.group.toNat]? with
 |some g=>match p.defs[g.ip.toNat]? with
  |some d=>match d.rules[x.pp.toNat]? with|some r=>RI p x d g r s|none=>I
  |none=>I
 |none=>I
def Lu(l:List CN)(at_:Int):Nat->List CN->List CN
 |_,[]=>[]|i,x::m=>{x with dead:=x.dead||Ea l i at_}::Lu l at_ (i+1) m
def OH(s:BQ)(at_:Int):BQ:=
 let l:=Lu s.be at_ 0 s.be
 {be:=l,bv:=s.bv,ac:=s.ac.map λq=>if BA l q.at_=X then{q with queue:=[]}else q,waits:=s.waits.filter λw=> !BA l w.at_}
def Gj(l:List CN)(i n:Int):List CN:=match l[i.toNat]? with|some x=>l.set i.toNat {x with in_:=n}|none=>l
def MU(p:Aa)(s:BQ)(w:Ia)(x:CQ):Option Cy:=
 let n:=(Hj w.env x.n).n
 if x.op=7 then J ⟨OH s w.at_,[⟨3,w.at_,0,0,[]⟩],0⟩
 else if x.op=6 then ED (J9 p 401) (Bh x 0 w.at_ w.env) ⟨{s with be:=Gj s.be w.at_ n},[⟨2,w.at_,n,0,[]⟩],0⟩
 else ED (J9 p 401) (Bh x 0 w.at_ w.env) ⟨s,[⟨4,w.at_,n,0,[]⟩],0⟩
def Qf(p:Aa)(s:BQ)(i:Int):Option Cy:=match s.waits[i.toNat]? with
 |some w=>match p.nodes[w.node.toNat]? with|some x=>MU p {s with waits:=BK s.waits i} w x|none=>I
 |none=>I
def Cz(p:Aa)(s:BQ)(x:Dp):Option Cy:=if x.wait<0 then react p s x else Qf p s x.wait
def Db:BQ:=⟨[⟨-1,Z⟩],[],[],[]⟩
def Dq(n:Nat):List C8:=(V5 n).map λ(i:Nat)=>⟨2,(i:Int)⟩
def JG(p:Aa):Option Cy:=J9 p 401 ⟨p.main,0,Dq (U p.free)⟩ ⟨Db,[],0⟩
structure wQ(p:Aa)(s:BQ)(q:Fo):Prop:=
 at_:Jh s.be q.at_
 g0:0<=q.group
 i0:0<=q.index
 ex:∃g d ch,s.bv[q.group.toNat]?=J g/\0<=g.ip/\p.defs[g.ip.toNat]?=J d/\d.ac[q.index.toNat]?=J ch
 len:U q.queue<=12
def AOm(n:Int):y:=.iface 177 (.agg [nI n])
def cr(a:CC)(size b left:Int):Prop:=(a.size:Int)<=left/\b+a.depth<=13/\a.formed size=X
def ANJ(x:CC)(size:Int):cr x size 1 60↔x.ok size=true:=by
 simp[cr,CC.ok];constructor
 .rintro⟨h1,h2,h3⟩;exact⟨z,z,h3⟩
 .rintro⟨h1,h2,h3⟩;exact⟨z,z,h3⟩
end Go.Proofs
namespace Go.Abs
variable{P:H5}{C:DH}{K:Ah}{f:Fr}{b n i:Nat}{Q:Di->St->Prop}
variable{j:Array G5}{al:Nat->Bool}{l:List G5}{e:CW}{h:S}{k:Nat}{c:List Df}{m:List (Nat×Nat)}{o:List Fp}{a:u}{g:Option L2}
theorem ie(a:u):J4 (J a) []=true:=rfl
theorem qk(a:u)(b:u)(e:Obj)(c:S):J4 (J a) ((b,e)::c)=(AE a b&&J4 (J a) c):=rfl
theorem Vf(a:u)(b c:Nat):AE a (b::c::a)=true:=q_a.2 ⟨[b,c],rfl⟩
theorem G8{o:BG->Prop}{p:E (BG×S)}(q:∃a m,p=.ok (a,m)/\o a)(r:∀a m,o a->cN C K f j b n al l i g e h k c Q (.ok (a,m))):cN C K f j b n al l i g e h k c Q p:=zCI
theorem AKq(a:y)(m:S):cN C K f j b n al l i g e h k c Q (.ok (.ret a,m))=(flat a=X/\JW C K f j b n al l (i+1) ⟨Ds e g a,h,k,c⟩ Q):=rfl
theorem AKp(a:y)(m:S):cN C K f j b n al l i g e h k c Q (.ok (.of a,m))=(flat a=X/\al i=X/\Q (.of a) ⟨e,h,b+n,c⟩):=rfl
def eC(C:DH)(K:Ah)(f:Fr)(j:Array G5)(b n:Nat)(al:Nat->Bool)(m:List (Nat×Nat))(o:List Fp)(l:List G5)(i:Nat)(g:Option L2)(e:CW)(h:S)(k:Nat)(c:List Df)(Q:Di->St->Prop):E (BG×S)->Prop
 |.ok (.ret v,_)=>flat v=X/\Jk C K f j b n al m (o++[⟨I,J [],X⟩]) l (i+1) ⟨Ds e g v,h,k,c⟩ Q|.ok (.of v,_)=>flat v=X/\al i=X/\FG f.π b o m=X/\Q (.of v) ⟨e,h,b+n,c⟩|.err _=>False
theorem AGN(g:Option L2)(a:u)(q:IY)(p:List y)(r:(Fk h.get p).isNone):PG C K f j b n al m o l i g a e h k c Q q p .ro=eC C K f j b n al m o l i g e h k c Q (K (.fn q) (Qa h.get p) (h.q_d (p.flatMap (mark h.get))) a X (J a)):=by
 have r:Fk h.get p=none:=zCp
 simp only[PG,E4,r,Gu,CM,Cv,Bz];cases K (.fn q) (Qa h.get p) (h.q_d (p.flatMap (mark h.get))) a X (J a)with|err l=>rfl|ok t=>obtain⟨s,v⟩:=t;cases s<;>simp only[UA,eC,CY]<;>split<;>simp_all [Fj]
theorem DN{q:BG->Prop}{r:E (BG×S)}(s:∃a p,r=.ok (a,p)/\q a)(t:∀a p,q a->eC C K f j b n al m o l i g e h k c Q (.ok (a,p))):eC C K f j b n al m o l i g e h k c Q r:=zCI
theorem AKo(a:y)(p:S):eC C K f j b n al m o l i g e h k c Q (.ok (.ret a,p))=(flat a=X/\Jk C K f j b n al m (o++[⟨I,J [],X⟩]) l (i+1) ⟨Ds e g a,h,k,c⟩ Q):=rfl
theorem AKn(a:y)(p:S):eC C K f j b n al m o l i g e h k c Q (.ok (.of a,p))=(flat a=X/\al i=X/\FG f.π b o m=X/\Q (.of a) ⟨e,h,b+n,c⟩):=rfl
theorem ALN(a:u)(c e:Nat)(f:Obj)(b:S):J4 (J a) ((c::e::a,f)::b)=J4 (J a) b:=by grind [qk,Vf]
attribute [go_sem] ie ALN AKq AKp AGN AKo AKn
end Go.Abs
namespace Go.Proofs
open Abs Tryz
end Go.Proofs
namespace Go.Abs
end Go.Abs
namespace Go.Proofs
open Abs Tryz
def wb:List (Ar×y):=[(.int .i64 2,.fn 110 [] []),(.int .i64 3,.fn 111 [] []),(.int .i64 4,.fn 112 [] []),(.int .i64 5,.fn 113 [] []),(.int .i64 6,.fn 114 [] []),(.int .i64 7,.fn 114 [] []),(.int .i64 8,.fn 114 [] [])]
def CF(x:Fo)(v:y):List y:=[nI x.group,nI x.index,nI x.at_,v]
end Go.Proofs
namespace Go.Abs
variable{P:H5}{C:DH}{K:Ah}{a:Fr}{b n i:Nat}{Q:Di->St->Prop}
variable{c:Array G5}{al:Nat->Bool}{l:List G5}{e:CW}{h:S}{f:Nat}{g:List Df}{j:List (Nat×Nat)}{k:List Fp}{o:u}{m:Option L2}
def vB(r:List y)(o:u)(t s q:Nat)(p:List (List Ar))(v:Dj (.ii o t s) [(o,.f8 q p)]=J (o,.f8 q p)):Ew C K a c b n al j k l i r m e h f g Q (.ok (.ret (.ii o t s),[(o,.f8 q p)]))=Jk C K a c b n al j (k++[⟨J (BD h.get (Ab r)),J [o],Z⟩]) l (i+1) ⟨Ds e m (.ii o t s),(o,.f8 q p)::h,f,g⟩ Q:=AB0 _ r _ _ _ rfl v
attribute [go_sem] vB
end Go.Abs
namespace Go.Proofs
open Abs Tryz
def lR(b:u)(f e c:Nat)(a:List (List Ar)):Dj (.ii b f e) [(b,.f8 c a)]=if a.all (·.all HT)then J (b,.f8 c a)else none:=by simp only[Dj,go_sem,q_c,IS]
def Gw(b:List C8)(a:u)(e c:Nat):Dj (.ii a e c) [(a,.f8 2 (b.map BC))]=J (a,.f8 2 (b.map BC)):=by rw[lR,D4];simp[BC,HT]
end Go.Proofs
namespace Go.Abs
theorem yq(l:List u)(x A9:u):A9∈PY l x↔A9∈l\/A9=x:=by grind [PY,q_w]
theorem jH{l:List u}(h:l.Nodup)(x:u):(PY l x).Nodup:=by grind [PY,q_c]
def yr(l:List u)(x:u):∃m,PY l x=l++m:=by
 unfold PY;split
 .exact⟨[],AG⟩
 .exact⟨[x],rfl⟩
theorem Jo:∀(new l:List u) (A9:u),A9∈Gq l new↔A9∈l\/A9∈new
 |[],l,A9=>by simp[Gq]|x::new,l,A9=>by have:=Jo new (PY l x) A9;unfold Gq at*;rw[Ok,this,yq,DO,or_assoc]
def N7:∀(new:List u) {l:List u},l.Nodup->(Gq l new).Nodup
 |[],l,h=>h|x::new,l,h=>N7 new (jH h x)
theorem XZ:∀(new l:List u),∃m,Gq l new=l++m
 |[],l=>⟨[],by simp[Gq]⟩|x::new,l=>by have⟨m,hm⟩:=yr l x;have⟨m2,hm2⟩:=XZ new (PY l x);grind [Gq]
def ZN(e:S)(M:List u)(s:∀a∈M,∀h∈Cu (e.get a),h∈M):∀(g:Nat) (b:List u) (f:Nat),b.Nodup->(∀a∈b,a∈M)->(∀i a,i<f->b[i]?=J a->∀h∈Cu (e.get a),h∈b)->(U M)<=f+g->
 (DK e g b f).Nodup/\(∀a∈DK e g b f,a∈M)/\(∀a∈b,a∈DK e g b f)/\∀a∈DK e g b f,∀h∈Cu (e.get a),h∈DK e g b f
 |0,b,f,o,l,q,x=>by have n:DK e 0 b f=b:=rfl;rw[n];refine⟨o,l,λa c=>c,λa c h m=>?_⟩;obtain⟨i,k⟩:=Ce c;have v:=o.length_le_of_subset (l₂:=M) l;have w:=(BI.1 k).1;exact q i a z k h m|g+1,b,f,o,l,q,x=>by
  cases j:b[f]? with
  |none=>
   have n:DK e (g+1) b f=b:=by rw[DK,j]
   rw[n];refine⟨o,l,λa c=>c,λa c h m=>?_⟩;obtain⟨i,k⟩:=Ce c;have v:=MT.1 j;have w:=(BI.1 k).1;exact q i a z k h m
  |some p=>
   have n:DK e (g+1) b f=DK e g (Gq b (Cu (e.get p))) (f+1):=by rw[DK,j]
   rw[n];have A:=AP j;obtain⟨D,t⟩:=XZ (Cu (e.get p)) b;have r:=ZN e M s g (Gq b (Cu (e.get p))) (f+1) (N7 _ o) (λa c=>by
    rcases(Jo _ _ _).1 c with c|c
    .exact l a c
    .exact s p (l p A) a c) (λi a k c h m=>by
    rw[Jo];by_cases B:i=f
    .subst B;rw[t,D8 (BI.1 j).1,j]at c;cases c;exact .inr m
    .have C:=(BI.1 j).1;rw[t,D8 z]at c;exact .inl (q i a z c h m)) z
   exact⟨r.1,r.2.1,λa c=>r.2.2.1 a ((Jo _ _ _).2 (.inl c)),r.2.2.2⟩
def K8(h:u):∀(b:List u) (e:Nat) (a:u),a∈b->∃c,FE h b e a=J (Zk a::(e+c)::h)/\c<U b
 |A9::b,e,a,g=>by
  rw[Y2];by_cases f:AJ A9 a=X
  .rw[D4 f];exact⟨0,rfl,AG⟩
  .rw[Co f];have i:a∈b:=by
    rcases DO.1 g with rfl|g
    .exact absurd (q_c _) f
    .exact g
   have⟨c,hj,hlt⟩:=K8 h b (e+1) a i;exact⟨c+1,by rw[hj];congr 3;omega,BP⟩
theorem AG5(e:S)(c:u->Option u)(i:∀a h b,c a=J b->c h=J b->a=h){a b:u}{g:Obj}(k:c a=J b)(j:e.get a=J g):∀(f:List u),a∈f->(FA e c f).get b=J (Eb c g)
 :=by intro a;induction a<;>grind [FA,IL,q_c,AI]
structure JH(π:u)(h:S)(e:CW)(ν:u->Option u)(h':S)(n:Nat):Prop:=
 env:∀x∈CP e,∃A6,ν x=J A6
 name:∀x A6,ν x=J A6->∃j,j<n/\A6=Zk x::j::π
 inj:∀x A9 A6,ν x=J A6->ν A9=J A6->x=A9
 get:∀x A6 o,ν x=J A6->h.get x=J o->h'.get A6=J (Eb ν o)
 deep:∀x A6,ν x=J A6->∀A9∈Cu (h.get x),∃z',ν A9=J z'
 only:∀A6 o,h'.get A6=J o->∃x,ν x=J A6
theorem KG(b:u)(e:S)(c:CW)(M:List u)(s:U M<=1000)(v:∀a∈CP c,a∈M)(p:∀a∈M,∀g∈Cu (e.get a),g∈M):
 ∃o k j,R1 b e c=⟨c.map λn=>(n.1,ren o n.2),k,j,[]⟩/\j<=(U M)/\JH b e c o k j:=by
 have⟨r1,r2,r3,r4⟩:=ZN e M p 1000 (Gq [] (CP c)) 0 (N7 _ .nil) (λa m=>by grind [Jo]) (λi a l=>z) z
 unfold R1 eh;generalize DK e 1000 (Gq [] (CP c)) 0=L at*;refine⟨FE b L 0,FA e (FE b L 0) L,U L,rfl,r1.length_le_of_subset r2,?_,?_,λa g h=>WK,λa h r f w=>?_,λa h f g q=>?_,λh r f=>?_⟩
 .intro a m;have⟨i,l,_⟩:=K8 b L 0 a (r3 a ((Jo _ _ _).2 (.inr m)));exact⟨_,l⟩
 .intro a h f;have⟨i,t,h1,h2⟩:=HO f;have⟨j2,h3,h4⟩:=K8 b L 0 a (AP h1);grind
 .grind [HO,AG5]
 .have⟨i,t,h1,h2⟩:=HO f;have⟨j2,h3,h4⟩:=K8 b L 0 g (r4 a (AP h1) g q);exact⟨_,h3⟩
 grind [GV]
end Go.Abs
namespace Go.Proofs
open Abs Tryz
@[irreducible] def HY(a:DH)(e:IY)(g:u)(b:Nat)(c:CW)(f:S):St:=R1 g f (L0 c (a.live e b))
theorem GR(a:DH)(e:IY)(g:u)(b:Nat)(c:CW)(f:S):HY a e g b c f=R1 g f (L0 c (a.live e b)):=by unfold HY;rfl
def lq(e:S)(c:y)(a:List (List C8)):Prop:=(U a=0/\c=.d9)\/(U a≠0/\∃b,c=.ii b 0 (U a)/\e.get b=J (.f8 1 (a.map C1)))
structure Ih(g:S)(es:List (List y))(l:List Fo):Prop:=
 len:U es=U l
 row:∀(j:Nat) (x:Fo),l[j]?=J x->∃v,es[j]?=J (CF x v)/\lq g v x.queue
 diff:(es.flatMap Ab).Nodup
def Hf(f:u)(b:Nat)(c:u):Prop:=∃e a,a<b/\c=e::a::f
variable{k b:Nat}{a A:u}
def BB(f:Hf (k::a) b A)(e c:Nat)(h:b<=c):AJ (e::c::k::a) A=Z/\AJ A (e::c::k::a)=false:=by obtain⟨j,i,g,rfl⟩:=f;exact⟨AI BP,AI BP⟩
def CT(f:Hf (k::a) b A)(e:u)(h:2<U e):AJ (e++k::a) A=Z/\AJ A (e++k::a)=false:=by
 obtain⟨j,i,g,rfl⟩:=f;constructor
 .refine AI λc=>?_;have:=congrArg U c;simp at this;omega
 .refine AI λc=>?_;have:=congrArg U c;simp at this;omega
def JN(x:Fo)(v:y):Ab (CF x v)=AD v:=by simp[CF,Ab,AD]
variable{g:S}
def Tx{b:y}{e:List (List C8)}(c:lq g b e):(b=.d9/\AD b=[])\/∃a,b=.ii a 0 (U e)/\AD b=[a]/\g.get a=J (.f8 1 (e.map C1)):=by
 rcases c with⟨_,rfl⟩|⟨_,a,rfl,c⟩
 .exact zB6
 .exact .inr ⟨a,rfl,rfl,c⟩
def IG{g:S}{c:List (List y)}{k:List Fo}(e:Ih g c k){i:u}(m:i∈c.flatMap Ab):∃o:List (List C8),g.get i=J (.f8 1 (o.map C1)):=by
 have⟨row,hr,a⟩:=BE.1 m;obtain⟨j,f⟩:=Ce hr;have n:=(BI.1 f).1;have⟨x,hx⟩:=g_ (l:=k) (i:=j) (by rw[<-e.len];exact n);have⟨v,h,hq⟩:=e.row j x hx;rw[f]at h;cases h;rw[JN]at a;rcases Tx hq with⟨_,b⟩|⟨p,_,b,l⟩
 .rw[b]at a;cases a
 .rw[b,AS]at a;subst a;exact⟨_,l⟩
variable{a:List (List y)}{l:List Fo}
def Iy{H:S}(c:Ih g a l)(i:∀b∈a.flatMap Ab,H.get b=g.get b):Ih H a l:=by
 refine⟨c.len,λk m j=>?_,c.diff⟩;have⟨v,hv,e⟩:=c.row k m j;refine⟨v,hv,?_⟩;rcases e with e|⟨f,b,rfl,h⟩
 .exact .inl e
 .refine .inr ⟨f,b,rfl,?_⟩;rw[i b (BE.2 ⟨_,AP hv,by rw[JN];simp[AD]⟩)];exact h
def j4{H:S}{a:List (List y)}{l:List Fo}(c:Ih H a l){h:Fo}{f:y}(m:lq H f h.queue)(r:∀s∈AD f,s∉a.flatMap Ab):Ih H (a++[CF h f]) (l++[h]):=by
 refine⟨by simp[c.len],λg t e=>?_,?_⟩
 .by_cases k:g<U l
  .rw[D8 k]at e;have⟨v',hv',hq'⟩:=c.row g t e;exact⟨v',by rw[D8 (by rw[c.len];exact k)];exact hv',hq'⟩
  .have q:=(BI.1 e).1;rw[Dl,I3]at q;obtain rfl:g=U l:=z;rw[D6 z]at e;simp only[IF,He,F1]at e;subst e;exact⟨f,by rw[D6 (by rw[c.len];omega),c.len];simp,m⟩
 .rw[JP,D0];refine⟨c.diff,?_,?_⟩
  .simp only[FN,Nl,CS,JN];rcases Tx m with⟨_,i⟩|⟨v,_,i,_⟩<;>rw[i]<;>simp
  .intro n o b j p;subst p;simp only[FN,Nl,CS,JN]at j;exact r n j o
def K9{g n:Type}{f:g->n}:∀{l:List g},l.Nodup->(∀a∈l,∀c∈l,f a=f c->a=c)->(l.map f).Nodup
 |[],_,_=>List.nodup_nil|a::l,h,hf=>by rw[IT]at h;rw[By,IT];refine⟨λm=>?_,K9 h.2 λi j b k=>hf i (Bi _ j) b (Bi _ k)⟩;have⟨c,hy,e⟩:=EX.1 m;have:=hf c (Bi _ hy) a AG e;subst this;exact h.1 hy
def lY(c:∀b∈a,(Ab b).length<=1):(a.flatMap Ab).length<=(U a):=by induction a with|nil=>simp|cons b a f=>have g:=c b AG;have h:=f λb e=>c b (Bi _ e);simp only[FN,Dl,ID];omega
def j5(c:Ih g a l):(a.flatMap Ab).length<=(U a):=by refine lY λn j=>?_;obtain⟨h,e⟩:=Ce j;have i:=(BI.1 e).1;have⟨x,hx⟩:=g_ (l:=l) (i:=h) (by rw[<-c.len];exact i);have⟨v,f,hq⟩:=c.row h x hx;rw[e]at f;cases f;rw[JN];rcases Tx hq with⟨_,b⟩|⟨m,_,b,k⟩<;>rw[b]<;>simp
def kB{D:u}{H s:S}{g:CW}{b:u->Option u}{B:Nat}(r:JH D H g b s B){a:List (List y)}{l:List Fo}(j:Ih H a l)(m:∀id∈a.flatMap Ab,∃f,b id=J f):Ih s (a.map (Du b)) l/\∀id∈(a.map (Du b)).flatMap Ab,Hf D B id:=by
 have key:∀e∈a,Ab (Du b e)=(Ab e).map λid=>(b id).getD []:=by
  intro e o;obtain⟨i,n⟩:=Ce o;have K:=(BI.1 n).1;have⟨c,h⟩:=g_ (l:=l) (i:=i) (by rw[<-j.len];exact K);have⟨v,k,hq⟩:=j.row i c h;rw[n]at k;cases k;have F:Du b (CF c v)=CF c (ren b v):=by simp[CF,Du,ren]
  rw[F,JN,JN];rcases Tx hq with⟨rfl,g⟩|⟨M,rfl,g,t⟩
  .simp[ren,AD]
  .have⟨f,hz⟩:=m M (BE.2 ⟨_,o,by rw[JN];simp[AD]⟩);simp[ren,hz,AD]
 have A:(a.map (Du b)).flatMap Ab=(a.flatMap Ab).map λid=>(b id).getD []:=by
  rw[List.flatMap_map,List.map_flatMap];have:∀(l:List (List y)),(∀e∈l,Ab (Du b e)=(Ab e).map λid=>(b id).getD [])->(l.flatMap λp=>Ab (Du b p))=l.flatMap λp=>(Ab p).map λid=>(b id).getD []:=by intro l x;induction l with|nil=>rfl|cons e l N=>rw[FN,FN,x e AG,N λe o=>x e (Bi _ o)]
  exact this a key
 refine⟨⟨by rw[BV,j.len],λi c h=>?_,?_⟩,?_⟩
 .have⟨v,k,hq⟩:=j.row i c h;refine⟨ren b v,?_,?_⟩
  .rw[Be,k];simp[CF,Du,ren]
  .rcases hq with⟨q,rfl⟩|⟨q,id,rfl,t⟩
   .exact .inl ⟨q,rfl⟩
   .have⟨f,hz⟩:=m id (BE.2 ⟨_,AP k,by rw[JN];simp[AD]⟩);refine .inr ⟨q,f,by simp[ren,hz],?_⟩;have:=r.get id f _ hz t;simpa[Eb]using this
 .rw[A];refine K9 j.diff λc h C L g=>?_;have⟨f,hz⟩:=m c h;have⟨z2,hz2⟩:=m C L;rw[hz,hz2]at g;simp only[F7]at g;subst g;exact r.inj c C f hz hz2
 .intro id w;rw[A]at w;obtain⟨c,h,rfl⟩:=EX.1 w;have⟨f,hz⟩:=m c h;obtain⟨i,n,rfl⟩:=r.name c f hz;rw[hz];exact⟨_,i,n,rfl⟩
end Go.Proofs
namespace Go.Abs
variable{P:H5}{C:DH}{K:Ah}{c:Fr}{j n i:Nat}{Q:Di->St->Prop}
variable{k:Array G5}{al:Nat->Bool}{l:List G5}{e:CW}{h:S}{a:Nat}{f:List Df}{q:List (Nat×Nat)}{s:List Fp}{b:u}{m:Option L2}
def vc(Q:Di->St->Prop)(a:St):Option KH->Prop
 |none=>Q .normal a|some .ret=>Q .ret a|some (.exit k)=>Q (.exit k) a|some _=>False
def dD(Q:Di->St->Prop)(a:St):Option Obj->Prop
 |some (.loop r)=>match r.state with|.busy=>False|_=>vc Q a r.pend
 |_=>False
def MG(b c:u)(g:u)(e:CW)(a:Nat)(f:List Df)(Q:Di->St->Prop):E (BG×S)->Prop
 |.ok (.ret _,h')=>dD Q ⟨e,gc b (gc c h'),a,f⟩ (h'.get g)|.ok (.of v,h')=>Q (.of v) ⟨e,gc b (gc c h'),a,f⟩|.err _=>False
def wz(K:Ah)(ci:Option u)(b g:u)(c:u)(e:CW)(h:S)(a:Nat)(f:List Df)(Q:Di->St->Prop):y->Prop
 |.fn i first cap=>MG b g c e a f Q (K (.fn i) (first++[.yld c]++cap) h g X ci)|_=>False
theorem oj(b g:u)(f:u)(c:St)(a:E (BG×S)):(match MC b g f c a with|.ok (e,d8)=>Q e d8|.err _=>False)=MG b g f c.env c.base c.defs Q a:=by
 cases a with
 |err l=>rfl
 |ok a=>obtain⟨e,i⟩:=a;cases e with|of h=>grind [MC,MG,Bz]|ret h=>simp only[MC,MG,Bz,dD,gN];grind [vc]
theorem AIM(b:LF)(i:Array L2)(k g:KH)(p:c.rnd=Z):Wp C K c j (.rangeFunc b i k g) ⟨e,h,a,f⟩ Q=
 wz K c.ci (a::c.π) ((a+1)::c.π) (0::a::c.π) e (h.put (0::a::c.π) (.loop ⟨.ready,I,c.f,e,i.toList,k,g,c.nt⟩)) (a+2) (.mark (0::a::c.π)::f) Q (ev e.get b):=by
 have key:Wp C K c j (.rangeFunc b i k g) ⟨e,h,a,f⟩ Q=(match IJ K c b i k g ⟨e,h,a,f⟩with|.ok (o,m)=>Q o m|.err _=>False):=by
  cases q:IJ K c b i k g ⟨e,h,a,f⟩with
  |ok r=>obtain⟨o,m⟩:=r;exact Vj λn=>by simp[exec,q]
  |err l=>
   refine propext ⟨λ⟨n,o,m,h1,hq⟩=>?_,λh=>h.elim⟩;rcases n with _|n
   .simp[exec]at h1
   .grind [exec]
 rw[key];unfold IJ;simp only[p,K5,Bz];rw[oj];simp only[wz];cases ev e.get b with|fn s first cap=>grind [NQ,CM]|_=>rfl
variable{o:u}{ci:Option u}
def AC0{k:IY}{raw:Bool}{l:Nat}(c:LF)(g:Array L2)(i b:KH):Wp C K ⟨k,o,raw,ci,Z,l⟩ j (.rangeFunc c g i b) ⟨e,h,a,f⟩ Q=
 wz K ci (a::o) ((a+1)::o) (0::a::o) e (h.put (0::a::o) (.loop ⟨.ready,I,k,e,g.toList,i,b,l⟩)) (a+2) (.mark (0::a::o)::f) Q (ev e.get c):=AIM c g i b rfl
variable{g p:u}
theorem AD4{b:u}(c:IY)(first cap:List y):wz K ci g p b e h a f Q (.fn c first cap)=MG g p b e a f Q (K (.fn c) (first++[.yld b]++cap) h p X ci):=rfl
variable{b:BG->S->Prop}
theorem Mv{i:u}{j:E (BG×S)}(k:∃h c,j=.ok (h,c)/\b h c)(l:∀h c,b h c->MG g p i e a f Q (.ok (h,c))):MG g p i e a f Q j:=zCI
theorem MH{c:u}(h:y)(b:S):MG g p c e a f Q (.ok (.ret h,b))=dD Q ⟨e,gc g (gc p b),a,f⟩ (b.get c):=rfl
theorem vH{h:u}(c:y)(b:S):MG g p h e a f Q (.ok (.of c,b))=Q (.of c) ⟨e,gc g (gc p b),a,f⟩:=rfl
theorem uy(a:St)(c:IY)(e:CW)(g:u)(h b:KH)(f:Nat):dD Q a (J (.loop ⟨.ready,I,c,e,g,h,b,f⟩))=Q .normal a:=rfl
theorem ABv(a:St)(c:IY)(e:CW)(g:u)(h b:KH)(f:Nat):dD Q a (J (.loop ⟨.done,J .ret,c,e,g,h,b,f⟩))=Q .ret a:=rfl
theorem ux(b:St)(a:Nat)(f:IY)(e:CW)(h:u)(i c:KH)(g:Nat):dD Q b (J (.loop ⟨.done,J (.exit a),f,e,h,i,c,g⟩))=Q (.exit a) b:=rfl
def qB(C:DH)(K:Ah)(c:Fr)(k:Array G5)(j n:Nat)(al:Nat->Bool)(l:List G5)(i:Nat)(m:Option L2)(g:u)(e:CW)(h:S)(a:Nat)(f:List Df)(Q:Di->St->Prop)(o:u)(b:List y):Option Obj->Prop
 |some (.loop r)=>aH C K c k j n al l i m g e h a f Q (K (.round o r) b h g X c.ci)|_=>False
def zP(b:u)(args:List y):Xo C K c k j n al l i m g e h a f Q args (.yld b)=qB C K c k j n al l i m g e h a f Q b args (h.get b):=by
 simp only[Xo,Fe,Mf,qB];rcases S.get h b with _|o
 .rfl
 .cases o<;>first|rfl|simp[Vb]
theorem AC5(b:u)(args:List y)(o:Lp):qB C K c k j n al l i m g e h a f Q b args (J (.loop o))=aH C K c k j n al l i m g e h a f Q (K (.round b o) args h g X c.ci):=rfl
def AQ3(C:DH)(K:Ah)(c:Fr)(k:Array G5)(j n:Nat)(al:Nat->Bool)(q:List (Nat×Nat))(s:List Fp)(l:List G5)(i:Nat)(m:Option L2)(g:u)(e:CW)(h:S)(a:Nat)(f:List Df)(Q:Di->St->Prop)(o:u)(b:List y):Option Obj->Prop
 |some (.loop r)=>ZM C K c k j n al q s l i m g e h a f Q (K (.round o r) b h g X c.ci)|_=>False
theorem AC4(b:u)(args:List y)(o:Lp):AQ3 C K c k j n al q s l i m g e h a f Q b args (J (.loop o))=ZM C K c k j n al q s l i m g e h a f Q (K (.round b o) args h g X c.ci):=rfl
def eR(a:u)(b:BG->S->Prop)(e:Di)(h:S):Option Obj->Prop
 |some (.loop r)=>match e with|.normal=>b (.ret (.d (.bool X))) (h.put a (.loop {r with state:=.ready,pend:=I}))|.ret=>b (.ret (.d (.bool Z))) (h.put a (.loop {r with state:=.done,pend:=J .ret}))|.exit c=>b (.ret (.d (.bool Z))) (h.put a (.loop {r with state:=.done,pend:=J (.exit c)}))|.of f=>b (.of f) h
 |_=>False
def l5(c:u)(b:BG->S->Prop):Di->St->Prop
 |e,a=>a.defs=[]/\eR c b e a.heap (a.heap.get c)
def lu(C:DH)(K:Ah)(c:Fr)(a:u)(f:KH)(b:BG->S->Prop)(e:St):Option Obj->Prop
 |some (.loop r)=>match r.state with|.ready=>Wp C K c 0 f {e with heap:=e.heap.put a (.loop {r with state:=.busy})} (l5 a b)|_=>False
 |_=>False
def pz(C:DH)(K:Ah)(c:Fr)(a:u)(f:KH)(b:BG->S->Prop):Di->St->Prop
 |.normal,e=>e.defs=[]/\J4 c.ci [(a,.box [])]=X/\lu C K c a f b e (e.heap.get a)|_,_=>False
def pf(c:u):l5 c b .normal ⟨e,h,a,[]⟩=eR c b .normal h (h.get c):=by simp[l5]
theorem pe(c:u)(a:Lp):eR c b .normal h (J (.loop a))=b (.ret (.d (.bool X))) (h.put c (.loop ⟨.ready,I,a.f,a.env,a.params,a.wp,a.body,a.nt⟩)):=rfl
theorem AHM(c:u)(a:Lp):eR c b .ret h (J (.loop a))=b (.ret (.d (.bool Z))) (h.put c (.loop ⟨.done,J .ret,a.f,a.env,a.params,a.wp,a.body,a.nt⟩)):=rfl
theorem ACK(c:u)(e:Nat)(a:Lp):eR c b (.exit e) h (J (.loop a))=b (.ret (.d (.bool Z))) (h.put c (.loop ⟨.done,J (.exit e),a.f,a.env,a.params,a.wp,a.body,a.nt⟩)):=rfl
theorem AHL(c:u)(a:y)(e:Lp):eR c b (.of a) h (J (.loop e))=b (.of a) h:=rfl
def jb(f:u)(g:KH):pz C K c f g b .normal ⟨e,h,a,[]⟩=(J4 c.ci [(f,.box [])]=X/\lu C K c f g b ⟨e,h,a,[]⟩ (h.get f)):=by simp[pz]
theorem zD(f:u)(i:KH)(n:Option KH)(l:IY)(k:CW)(o:u)(g j:KH)(m:Nat):lu C K c f i b ⟨e,h,a,[]⟩ (J (.loop ⟨.ready,n,l,k,o,g,j,m⟩))=Wp C K c 0 i ⟨e,h.put f (.loop ⟨.busy,n,l,k,o,g,j,m⟩),a,[]⟩ (l5 f b):=rfl
def Ow{j:u}{c:Lp}{args:List y}{h:S}{e:CW}(A:FY c.env c.params args=J e)(D:Wp C (KL P C) {f:=c.f,π:=o,raw:=X,ci,rnd:=X,nt:=c.nt} 0 c.wp ⟨e,h,0,[]⟩ (pz C (KL P C) {f:=c.f,π:=o,raw:=X,ci,rnd:=X,nt:=c.nt} j c.body b)):∃i g,KL P C (.round j c) args h o X ci=.ok (i,g)/\b i g:=by
 obtain⟨l,F,M,w,a⟩:=D;cases F with
 |normal=>
  obtain⟨n,N,a⟩:=a;rcases hg:S.get M.heap j with _|H
  .rw[hg]at a;exact a.elim
  .rw[hg]at a;cases H with
   |loop L=>
    simp[lu]at a;cases k:L.state with
    |ready=>
     rw[k]at a;obtain⟨m,q,r,x,s,f⟩:=a;have v:∃i g,UB j (.ok (q,r))=.ok (i,g)/\b i g:=by
      simp[UB,s];rcases hg2:S.get r.heap j with _|K
      .rw[hg2]at f;exact f.elim
      .rw[hg2]at f;cases K with
       |loop Q=>cases q with|normal=>exact⟨_,_,rfl,f⟩|ret=>exact⟨_,_,rfl,f⟩|exit O=>exact⟨_,_,rfl,f⟩|of R=>exact⟨_,_,rfl,f⟩
       |_=>exact f.elim
     obtain⟨i,g,t,B⟩:=v;refine⟨i,g,jA (n:=max l m) ?_,B⟩;unfold Jc;have p:=W6 x (To l m);rw[n]at p;simp[A,W6 w (Nat.le_max_left l m),KS,n,N,hg,RJ,k];rw[p];exact t
    |_=>rw[k]at a;exact a.elim
   |_=>exact a.elim
 |_=>exact a.elim
attribute [go_sem] AD4 MH vH uy ABv ux zP AC5 AC4 pf pe AHM ACK AHL jb zD AC0 FY
end Go.Abs
namespace Go.Abs
variable{a b:Type}
def iQ(f:a->b)(l:List a):TL (U l) (l.map f)=l.map f:=Bv AG
theorem UJ(f:a->b)(l:List a)(x:List b):TL (U l) (l.map f++x)=l.map f:=zCI
def fG(f:a->b)(l:List a)(A9:b)(x:List b):List.drop (U l+1) (l.map f++A9::x)=x:=by rw[List.drop_append];simp
def oz(a:G)(b:u):Option Obj->S
 |some (.f8 sz es)=>[(b,.v6 sz es)]|some (.arr sz es)=>match EN a es with|some c=>(b,.v6 sz c)::es.flatMap (Ck a)|none=>[]
 |_=>[]
def ABR(a:G)(b:u)(e c:Nat):Ct a (.ii b e c)=oz a b (a b):=by exact Ba
theorem tw(e:G)(b:u)(c:Nat)(a:List (List Ar)):oz e b (J (.f8 c a))=[(b,.v6 c a)]:=rfl
theorem ABU(b:G)(c:u)(e:Nat)(a:List (List Ar)):oz b c (J (.v6 e a))=[]:=rfl
attribute [go_sem] AGJ ABR tw ABU
attribute [go_sem] iQ UJ fG Nat.le_add_right Nat.le_add_left Nat.add_le_add_iff_left Nat.not_succ_le_self Nat.add_lt_add_iff_left
end Go.Abs
namespace Go.Proofs
open Abs Tryz
variable{e:u}
theorem XE{a:u}(h:AE e a=Z)(b c f g:Nat):AJ (b::c::f::g::e) a=false:=by grind [AN,AL]
theorem oV{a:u}(h:AE e a=Z)(b c f g:Nat):AJ a (b::c::f::g::e)=false:=by grind [Av,AL]
variable{b:u}
theorem Aq(l:u):AE b (l++b)=true:=q_a.2 ⟨l,rfl⟩
def PV(e:S)(f:Nat)(c:y)(a:List (List Ar)):Prop:=(c=.d9/\a=[])\/∃b g,c=.ii b 0 (U a)/\e.get b=J (.f8 f (a++g))
def Ub(c:S)(e:Nat)(b:y)(a:List (List Ar)):Prop:=PV c e b a\/(b=.emp/\a=[])
abbrev Sn(f:Bool)(g:Nat)(b:S)(c:Nat)(e:y)(a:List (List Ar)):Prop:=match f,g with|false,2=>Ub b c e a|_,_=>PV b c e a
structure qw(c:Bool)(g:S)(rows:List (List y))(l:List Fo):Prop:=
 len:U rows=U l
 row:∀(j:Nat) (q:Fo),l[j]?=J q->∃v,rows[j]?=J (CF q v)/\Sn c 2 g 1 v (q.queue.map C1)
abbrev uG:=qw X
def B5(e:S)(c:y)(a:List (List y)):Prop:=(c=.d9/\a=[])\/∃b,c=.ii b 0 (U a)/\e.get b=J (.arr 4 a)
structure MV:=
 s:Nat->y
 v3:y
 v9:y
 acts:u
 rows:List (List y)
def Ie:Nat->Nat
 |0=>2|1=>3|2=>3|_=>5
def BT(a:Cy):Nat->List (List Ar)
 |0=>a.em.be.map Ch|1=>a.em.bv.map Cf|2=>a.em.waits.map Bj|_=>a.ev.map NX
def MV.nl(V:MV)(i:Nat)(v:y):MV:={V with s:=λj=>if j=i then v else V.s j}
def MV.ids(V:MV)(m:u):List u:=m::V.acts::(AD (V.s 0)++(AD (V.s 1)++(AD (V.s 2)++(AD (V.s 3)++(AD V.v3++V.rows.flatMap Ab)))))
def nM(a:Aa)(b:Al)(V:MV)(c:Int):List y:=[V.s 0,V.s 1,V.v3,V.s 2,.d (.co (a.free.map CK)),.d (.co (a.nodes.map Bl)),.d (.co (a.defs.map Bw)),nI a.main,.d (.co (b.map AX)),V.v9,.mp V.acts,V.s 3,nI c]
structure Gm(B:MV->Int->List y)(c:Bool)(h:S)(m:u)(V:MV)(st:Cy):Prop:=
 box:h.get m=J (.box (B V st.work))
 act0:(V.acts=m/\c=Z)\/h.get V.acts=J (.map wb)
 sl:∀i,i<4->Sn c i h (Ie i) (V.s i) (BT st i)
 arr:B5 h V.v3 V.rows
 ac:qw c h V.rows st.em.ac
 gw:∀id∈AD (V.s 1),id∉AD (V.s 2)
 qd:(V.rows.flatMap Ab).Nodup
 inv:∀(V:MV) (rows:List (List y)) (w:Int),B {V with rows:=rows} w=B V w
abbrev APx(a:Aa)(b:Al):=Gm (nM a b) X
variable{h:S}{m:u}
def Gm.acts{B:MV->Int->List y}{V:MV}{c:Cy}(b:Gm B X h m V c):h.get V.acts=J (.map wb):=b.act0.resolve_left λa=>by cases a.2
variable{a:S}
def Qi{B:MV->Int->List y}{c:Bool}{V:MV}{i:Cy}(e:Gm B c h m V i)(g:V.acts≠m->h.get V.acts=J (.map wb)->a.get V.acts=h.get V.acts):(V.acts=m/\c=Z)\/a.get V.acts=J (.map wb):=by
 rcases e.act0 with b|b
 .exact .inl b
 .exact .inr ((g (λf=>by rw[f,e.box]at b;cases b) b).trans b)
structure eH(N:u->Bool)(m:u)(V V':MV)(h h':S):Prop:=
 ids:∀id∈V'.ids m,id∈V.ids m\/(N id=X/\∃l,id=1::l)
 frame:∀id,id∉V.ids m->N id=Z->h'.get id=h.get id
abbrev xa(b:u):=eH (AE b)
abbrev N3(B:MV->Int->List y)(c:Bool)(N:u->Bool)(m:u)(V:MV)(h:S)(e:Cy)(a:S):Prop:=∃b,Gm B c a m b e/\eH N m V b h a
abbrev AMF(a:Aa)(b:Al):=N3 (nM a b) X
abbrev AOG(a:Aa)(c:Al)(b:u):=AMF a c (AE b)
abbrev PQ(N:u->Bool)(V:MV)(m:u):Prop:=∀a∈V.ids m,N a=Z
abbrev Dr(b:u):=PQ (AE b)
theorem Dr.ext{V:MV}(h:Dr b V m)(n:Nat):Dr (n::b) V m:=by grind [AL]
def hD(f:Aa)(i:Al)(b:u)(m:u)(V:MV)(h:S):Option Cy->BG->S->Prop
 |some g,e,a=>e=.ret (.kw [])/\AOG f i b m V h g a|none,e,a=>e=.of (AOm 3)/\∀c,c∉V.ids m->AE b c=Z->a.get c=h.get c
variable{g:S}{c:List (List Ar)}
def BO{e b:Nat}{a:u}(f:List (List Ar))(i:b=U c)(h:g.get a=J (.f8 e (c++f))):PV g e (.ii a 0 b) c:=.inr ⟨a,f,by rw[i],h⟩
variable{g':S}
theorem Nv{e:Nat}{b:y}(h:PV g e b c)(i:∀a∈AD b,g'.get a=g.get a):PV g' e b c:=by
 rcases h with h|⟨a,f,rfl,h⟩
 .exact .inl h
 .exact .inr ⟨a,f,rfl,by grind [AD]⟩
theorem O3{a:Nat}{b:y}(h:PV g a b c){id:u}(f:id∈AD b):∃e,g.get id=J (.f8 a e):=by
 rcases h with⟨rfl,_⟩|⟨i,e,rfl,h⟩
 .simp[AD]at f
 grind [AD]
def SY{e:Bool}{f:Nat}{a:Nat}{b:y}(h:PV g a b c):Sn e f g a b c:=by
 unfold Sn;split
 .exact .inl h
 .exact h
def Zb{e:Bool}{f:Nat}{a:Nat}{b:y}(h:Sn e f g a b c):Ub g a b c:=by
 unfold Sn at h;split at h
 .exact h
 .exact .inl h
def MO{b:Bool}{f:Nat}{j:Nat}{a:y}(h:Sn b f g j a c)(e:∀i∈AD a,g'.get i=g.get i):Sn b f g' j a c:=by
 unfold Sn at*;split at h
 .exact h.imp_left λh=>Nv h e
 .exact Nv h e
def Jd{i:Bool}{j:Nat}{e:Nat}{f:y}(h:Sn i j g e f c){b:u}(a:b∈AD f):∃k,g.get b=J (.f8 e k):=by
 rcases Zb h with h|⟨rfl,_⟩
 .exact O3 h a
 .simp[AD]at a
variable{c:List (List y)}
theorem S3{b:y}(h:B5 g b c)(e:∀a∈AD b,g'.get a=g.get a):B5 g' b c:=by
 rcases h with h|⟨a,rfl,h⟩
 .exact .inl h
 .exact .inr ⟨a,rfl,by grind [AD]⟩
theorem Ky{a:y}(h:B5 g a c){id:u}(b:id∈AD a):g.get id=J (.arr 4 c):=by
 rcases h with⟨rfl,_⟩|⟨e,rfl,h⟩
 .simp[AD]at b
 grind [AD]
def DB(x:Fo)(v:y):Ab (CF x v)=AD v:=by simp[CF,Ab,AD]
variable{l:List Fo}
def S0{b:Bool}(h:qw b g c l)(e:∀a∈c.flatMap Ab,g'.get a=g.get a):qw b g' c l:=by refine⟨h.len,λj k i=>?_⟩;have⟨v,h1,h2⟩:=h.row j k i;exact⟨v,h1,MO h2 λa f=>e a (BE.2 ⟨_,AP h1,by rw[DB];exact f⟩)⟩
def Qo{j:Bool}(h:qw j g c l){f:u}(k:f∈c.flatMap Ab):∃a,g.get f=J (.f8 1 a):=by have⟨row,hr,hid⟩:=BE.1 k;obtain⟨i,b⟩:=Ce hr;have m:=(BI.1 b).1;have⟨a,hx⟩:=g_ (l:=l) (i:=i) (by rw[<-h.len];exact m);have⟨v,e,hq⟩:=h.row i a hx;rw[b]at e;cases e;rw[DB]at hid;exact Jd hq hid
theorem MV.mem(V:MV)(m a:u):a∈V.ids m↔a=m\/a=V.acts\/(∃b,b<4/\a∈AD (V.s b))\/a∈AD V.v3\/a∈V.rows.flatMap Ab:=by grind [MV.ids]
def MV.q_i(V:MV)(m:u):m∈V.ids m:=(V.mem m m).2 (.inl rfl)
def MV.q_E(V:MV)(m:u):V.acts∈V.ids m:=(V.mem m _).2 (.inr (.inl rfl))
def MV.q_j(V:MV)(m:u){i:Nat}(a:i<4){id:u}(h:id∈AD (V.s i)):id∈V.ids m:=(V.mem m _).2 (.inr (.inr (.inl ⟨i,a,h⟩)))
def MV.q_p(V:MV)(m:u){a:u}(h:a∈AD V.v3):a∈V.ids m:=(V.mem m _).2 (.inr (.inr (.inr (.inl h))))
def MV.q_m(V:MV)(m:u){a:u}(h:a∈V.rows.flatMap Ab):a∈V.ids m:=(V.mem m _).2 (.inr (.inr (.inr (.inr h))))
theorem Fv{B:MV->Int->List y}{g:Bool}{V:MV}{j:Cy}(b:Gm B g h m V j)(e:∀c∈V.ids m,a.get c=h.get c):Gm B g a m V j:=⟨by rw[e _ (V.q_i m)];exact b.box,Qi b λ_ _=>e _ (V.q_E m),λk i=>MO (b.sl k i) λc f=>e c (V.q_j m i f),S3 b.arr λc f=>e c (V.q_p m f),S0 b.ac λc f=>e c (V.q_m m f),b.gw,b.qd,b.inv⟩
theorem Tm{B:MV->Int->List y}{c:Bool}{V a:MV}{f:Cy}{g:S}(j:Gm B c h m V f)(i:xa b m a V g h)(o:Dr e a m):Gm B c (gc e h) m V f:=by
 refine Fv j λn k=>?_;rcases i.ids n k with h|⟨_,l,rfl⟩
 .grind [An]
 .exact FC _ _ _
theorem Bt{c:Nat}{a:u}(h:AE (c::b) a=X):AE b a=true:=by grind [q_a,List.suffix_cons]
def AFs{V:MV}(e:∀c,AE b c=Z->a.get c=h.get c):xa b m V V h a:=⟨λc h=>.inl h,λc _ f=>e c f⟩
theorem Y0{B:MV->Int->List y}{e:Bool}{V:MV}{f:Cy}(g:Gm B e h m V f)(j:Dr b V m)(i:∀c,AE b c=Z->a.get c=h.get c):Gm B e a m V f:=by grind [Fv]
def ABj{B:MV->Int->List y}{q:Bool}{N:u->Bool}{h a:S}{m:u}{V:MV}{i d8:Cy}(c:Gm B q h m V i)(r:PQ N V m)(t:a.get m=J (.box (B V d8.work))) (l:d8.em=i.em/\d8.ev=i.ev) (p:∀b,b≠m->N b=Z->a.get b=h.get b):Gm B q a m V d8/\eH N m V V h a:=by
 have A:∀b,(∀s,h.get b≠J (.box s))->b≠m:=λb w g=>w _ (by subst g;exact c.box);have v:∀f,BT d8 f=BT i f:=λf=>by unfold BT;rw[l.1,l.2]
 have n:=λb j k=>p b (A b k) (r b j);refine⟨⟨t,?_,λf o=>?_,?_,?_,c.gw,c.qd,c.inv⟩,λb h=>.inl h,λb j k=>p b (λg=>j (by rw[g];exact V.q_i m)) k⟩
 .exact Qi c λg _=>p _ g (r _ (V.q_E m))
 .rw[v];refine MO (c.sl f o) λb e=>n b (V.q_j m o e) ?_;have⟨x,hx⟩:=Jd (c.sl f o) e;rw[hx];simp
 .refine S3 c.arr λb e=>n b (V.q_p m e) ?_;rw[Ky c.arr e];simp
 .rw[l.1];refine S0 c.ac λb e=>n b (V.q_m m e) ?_;have⟨x,hx⟩:=Qo c.ac e;rw[hx];simp
variable{d8:Cy}
def nn{b:Cy}(c:d8.em=b.em):∀a,a<4->a≠3->BT d8 a=BT b a
 |0,_,_|1,_,_|2,_,_=>by simp[BT,c]|3,_,h=>absurd rfl h
def pv{b:Cy}(c:d8.em.be=b.em.be)(e:d8.em.bv=b.em.bv)(f:d8.ev=b.ev):∀a,a<4->a≠2->BT d8 a=BT b a
 |0,_,_|1,_,_|3,_,_=>by simp[BT,c,e,f]|2,_,h=>absurd rfl h
def AOq{b:Cy}(c:d8.em.be=b.em.be)(e:d8.em.waits=b.em.waits)(f:d8.ev=b.ev):∀a,a<4->a≠1->BT d8 a=BT b a
 |0,_,_|2,_,_|3,_,_=>by simp[BT,c,e,f]|1,_,h=>absurd rfl h
def mo{b:Cy}(c:d8.em.bv=b.em.bv)(e:d8.em.waits=b.em.waits)(f:d8.ev=b.ev):∀a,a<4->a≠0->BT d8 a=BT b a
 |1,_,_|2,_,_|3,_,_=>by simp[BT,c,e,f]|0,_,h=>absurd rfl h
theorem ri(V:MV)(i:Nat)(v:y)(j:Nat):(V.nl i v).s j=if j=i then v else V.s j:=rfl
theorem oE{B:MV->Int->List y}{t:Bool}{N:u->Bool}{h a:S}{m:u}{V:MV}{C d8:Cy}(e:Nat){p:y}(o:e<4)(i:Gm B t h m V C)(v:PQ N V m)(O:a.get m=J (.box (B (V.nl e p) d8.work))) (Y:Sn t e a (Ie e) p (BT d8 e)) (R:∀g,g<4->g≠e->BT d8 g=BT C g) (P:d8.em.ac=C.em.ac)(aa:AD p=AD (V.s e)\/∀b∈AD p,N b=X/\∃l,b=1::l) (A:∀b,b≠m->b∉AD (V.s e)->N b=Z->a.get b=h.get b):Gm B t a m (V.nl e p) d8/\eH N m V (V.nl e p) h a:=by
 have Q:∀b,(∀D,h.get b≠J (.box D))->b≠m:=λb c s=>c _ (by subst s;exact i.box);have w:=λb n q M=>A b (Q b q) M (v b n);have W:∀b∈AD p,b∈AD (V.s e)\/(N b=X/\∃l,b=1::l):=λb f=>by grind
 have key:∀g,g<4->g≠e->∀b∈AD (V.s g),b∉AD (V.s e):=λg k r b f c=>by
  have⟨x,j⟩:=Jd (i.sl g k) f;have⟨A9,hy⟩:=Jd (i.sl e o) c;rw[j]at hy;have T:Ie g=Ie e:=by simp at hy;exact hy.1
  have L:(g=1/\e=2)\/(g=2/\e=1):=by match e,g,o,k with|0,0,_,_|1,1,_,_|2,2,_,_|3,3,_,_=>omega|0,1,_,_|0,2,_,_|0,3,_,_|1,0,_,_|1,3,_,_|2,0,_,_|2,3,_,_|3,0,_,_|3,1,_,_|3,2,_,_=>simp[Ie]at T|1,2,_,_|2,1,_,_=>omega
  rcases L with⟨rfl,rfl⟩|⟨rfl,rfl⟩
  .exact i.gw b f c
  .exact i.gw b c f
 refine⟨⟨O,?_,λg k=>?_,?_,?_,λb n q=>?_,i.qd,i.inv⟩,λb f=>?_,λb n q=>?_⟩
 .show(V.acts=m/\t=Z)\/a.get V.acts=_;refine Qi i λs K=>A _ s (λc=>?_) (v _ (V.q_E m));have⟨x,j⟩:=Jd (i.sl e o) c;rw[K]at j;cases j
 .rw[ri];by_cases r:g=e
  .grind
  .rw[Co r,R g k r];refine MO (i.sl g k) λb f=>w b (V.q_j m k f) ?_ (key g k r b f);have⟨x,j⟩:=Jd (i.sl g k) f;rw[j];simp
 .refine S3 i.arr λb f=>w b (V.q_p m f) ?_ λc=>?_
  .rw[Ky i.arr f];simp
  .have⟨x,j⟩:=Jd (i.sl e o) c;rw[Ky i.arr f]at j;cases j
 .rw[P];refine S0 i.ac λb f=>w b (V.q_m m f) ?_ λc=>?_
  .have⟨x,j⟩:=Qo i.ac f;rw[j];simp
  .have⟨x,j⟩:=Jd (i.sl e o) c;have⟨A9,hy⟩:=Qo i.ac f;rw[j]at hy
   match e,o with|0,_|1,_|2,_|3,_=>simp[Ie]at hy
 .rw[ri]at n q;have ac:∀b∈AD (V.s 1),N b=false:=λb f=>v b (V.q_j m z f);have ad:∀b∈AD (V.s 2),N b=false:=λb f=>v b (V.q_j m z f);by_cases F:1=e
  .grind
  .rw[Co F]at n;by_cases H:2=e
   .grind
   .rw[Co H]at q;exact i.gw b n q
 .rcases((V.nl e p).mem m b).1 f with c|c|⟨g,k,c⟩|c|c
  .exact .inl ((V.mem m b).2 (.inl c))
  .exact .inl ((V.mem m b).2 (.inr (.inl c)))
  .rw[ri]at c;by_cases r:g=e
   .rw[D4 r]at c;exact(W b c).imp_left λh=>V.q_j m o h
   .rw[Co r]at c;exact .inl (V.q_j m k c)
  .exact .inl (V.q_p m c)
  .exact .inl (V.q_m m c)
 .exact A b (λs=>n (by rw[s];exact V.q_i m)) (λc=>n (V.q_j m o c)) q
variable{N:u->Bool}
def Hr{B:MV->Int->List y}{g:Bool}{V:MV}{st:Cy}(c:Nat)(w:c<4)(t:Gm B g h m V st)(C:PQ N V m)(A:∀e,e<4->e≠c->BT d8 e=BT st e) (v:d8.em.ac=st.em.ac) (f:y) (a:S) (k:a.get m=J (.box (B (V.nl c f) d8.work))) (n:Sn g c a (Ie c) f (BT d8 c)) (o:AD f=AD (V.s c)\/∀b∈AD f,N b=X/\∃l,b=1::l) (p:∀b,AJ m b=Z->(∀j∈AD (V.s c),AJ j b=Z)->N b=Z->a.get b=h.get b):N3 B g N m V h d8 a:=⟨_,oE c w t C k n A v o λb q r s=>p b (AI λi=>q i.symm) (λj x=>AI λi=>r (by rw[<-i];exact x)) s⟩
def oD{B:MV->Int->List y}{c:Bool}{V:MV}{g:Cy}(f:N3 B c N m V h g a):∀b,b∉V.ids m->N b=Z->a.get b=h.get b:=by obtain⟨_,_,e⟩:=f;exact e.frame
end Go.Proofs
namespace Go.Proofs
open Abs Tryz
structure BQ.Fits(s:BQ):Prop:=
 be:U s.be<=1000000
 bv:U s.bv<=1000000
 ac:U s.ac<=60
 waits:U s.waits<=1000000
 group:∀x∈s.bv,U x.env<=1000000
 chan:∀x∈s.ac,U x.queue<=1000000/\∀A9∈x.queue,U A9<=1000000
 wait:∀x∈s.waits,U x.env<=1000000
structure qx(π:u)(s:BQ)(v1 v2 v3 v4:y)(rows:List (List y))(g:S):Prop:=
 s0:PV g 2 v1 (s.be.map Ch)
 s1:PV g 3 v2 (s.bv.map Cf)
 s2:PV g 3 v4 (s.waits.map Bj)
 arr:B5 g v3 rows
 ac:uG g rows s.ac
 qd:(rows.flatMap Ab).Nodup
 gw:∀id∈AD v2,id∉AD v4
 ids:∀id,id∈AD v1\/id∈AD v2\/id∈AD v4\/id∈AD v3\/id∈rows.flatMap Ab->AE π id=X
 own:∀id,AE π id=Z->g.get id=I
variable{e:Type}{i:e->List Ar}
def ANa{b:S}{f:Nat}{a:List e}(c:U a=0):PV b f .d9 (a.map i):=.inl ⟨rfl,by rw[CE c];rfl⟩
def ANZ{b:S}{f:Nat}{a:List e}{c:u}(g:b.get c=J (.f8 f (a.map i))):PV b f (.ii c 0 (U a)) (a.map i):=BO [] AG (by rw[CS];exact g)
theorem wA(a b c:Nat)(e:u):AE e (a::b::c::e)=true:=q_a.2 ⟨[a,b,c],rfl⟩
theorem Fx(c h e:Nat)(f:u)(g:c≠e):AE (c::f) (h::e::f)=false:=IZ λa=>by
 rcases Io.1 a with b|a
 .exact zBW
 rcases Io.1 a with b|a
 .simp only[List.cons.injEq,and_true]at b;exact g b
 .have:=a.length_le;simp at this;omega
theorem mg:∀{c:S} {a:u},a∈c.map (λa=>a.1)->c.get a≠I
 |(k,o)::c,a,b=>by
  rw[IL];split
  .simp
  .rename_i e;rw[By,DO]at b;rcases b with rfl|b
   .exact absurd (q_c _) e
   .exact mg b
def AMY{b:S}{a:List (List y)}{f:List Fo}(c:Ih b a f):uG b a f:=by
 refine⟨c.len,λi j h=>?_⟩;have⟨v,h1,h2⟩:=c.row i j h;refine⟨v,h1,?_⟩;rcases h2 with⟨e,rfl⟩|⟨e,k,rfl,g⟩
 .exact ANa e
 .exact ANZ g
def bJ{j:Aa}{k:BQ}{d:Bd}{g:Ay}{i f:Nat}:∀{e:List HV} {b:Nat},R3 j k d g i f b e=X->∀(a:Nat) (c:HV),e[a]?=J c->jy j k d g i (b+a) (f+(b+a)) c=X
 |x::e,b,h,a,c,ht=>by
  rw[R3,As]at h;cases a with
  |zero=>simp only[He,F1]at ht;subst ht;exact h.1
  |succ a=>
   rw[Hm]at ht;have:=bJ h.2 a c ht
   rwa [show b+1+a=b+(a+1) by omega]at this
def Yc{i:Aa}{eq:Al}(r:Ao i eq){j:BQ}:∀(l:List Ay) (h b p:Nat),P1 i (OV i eq) j h b p l=X->
 (∀e∈l,U e.env<=10000)/\∀a,b<=a->a<U j.ac->∃m e d f h D,j.ac[a]?=J m/\w6 i j d e h D m f=X/\f.many<=3
 |[],h,b,p,c=>by rw[P1,As,D3]at c;exact⟨λe A=>(by cases A),λa k q=>z⟩|e::l,h,b,p,c=>by
  rw[P1]at c;cases g:i.def? e.ip with
  |none=>rw[g]at c;cases c
  |some d=>
   rw[g]at c;simp only[As]at c;obtain⟨k,q⟩:=c;obtain⟨B,C⟩:=Yc r l _ _ _ q;rw[Aa.def?]at g;split at g
   .rename_i K;have n:=Bk r g;rw[xY]at k;simp only[As,D3]at k;obtain⟨_,t,_,_,x⟩:=k;obtain⟨_,_,Q,_,_,_,_,O,P,F,_⟩:=n.node;rw[F]at t;have N:=ZE n.ok;simp only[F7]at t;refine⟨λH o=>?_,λa L w=>?_⟩
    .rcases DO.1 o with rfl|o
     .omega
     .exact B H o
    .by_cases M:a<b+U d.ac
     .obtain⟨f,s⟩:=g_ (l:=d.ac) (i:=a-b) z;have:=bJ x (a-b) f s;rw[show b+(0+(a-b))=a by omega,jy]at this;cases v:j.ac[a]? with|none=>rw[v]at this;cases this|some m=>rw[v]at this;exact⟨m,e,d,f,_,_,rfl,this,(n.ok.chan f (AP s)).2.2.2⟩
     .exact C a z w
   .cases g
theorem vf{c:Aa}{i:Bu}(l:looks c=J i){h:BQ}(e:yT c i.eq h=X):h.Fits:=by
 have f:=En l;simp only[yT,BQ.small,As,D3]at e;obtain⟨⟨o,p,j,q⟩,_,_,k,m⟩:=e;have⟨g1,g2⟩:=Yc f _ _ _ _ k;refine⟨z,z,j,z,λa b=>by have:=g1 a b;omega,λa b=>?_,λa b=>?_⟩
 .grind [List.getElem?_of_mem,w6,QC]
 .have:=EL.1 m a b;simp only[IC,As,D3]at this;obtain⟨_,_,_,g,r,_⟩:=this;rcases hxn:c.nodes[a.node.toNat]? with _|n
  .rw[hxn]at g;cases g
  .have⟨v,_,hv,v0,v1,_⟩:=f.node _ n hxn;grind
def JT(p:Aa)(l:List Ay):Nat×Nat:=l.foldl (λa g=>match p.def? g.ip with|some d=>(a.1+U d.ac,a.2+U d.be)|none=>a) (0,1)
structure Sk(p:Aa)(sz:Al)(s:BQ)(i:Nat)(g:Ay)(d:Bd):Prop:=
 ip:p.def? g.ip=J d
 at_:Jh s.be g.at_
 len:(U g.env:Int)=((OV p sz)[g.ip.toNat]?).getD 0
 wd:g.env.all (C8.inB p (U s.ac) (U s.be))=X
 mine:L6 d (JT p (s.bv.take i)).1 (JT p (s.bv.take i)).2 g=X
 ac:∀(j:Nat) ch,d.ac[j]?=J ch->∃q,s.ac[(JT p (s.bv.take i)).1+j]?=J q/\q.group=i/\q.index=j/\q.at_=g.place d ch.at_
structure gA(p:Aa)(s:BQ)(q:Fo):Prop:=
 len:U q.queue<=12
 dead:U q.queue=0\/BA s.be q.at_=Z
 msgs:∀m∈q.queue,QC p (U s.ac) (U s.be) (EE p s q) m=X
structure Ed(p:Aa)(sz:Al)(s:BQ):Prop:=
 small:s.small=X
 tree:Il s.be
 dead:∀(i:Nat) x,1<=i->s.be[i]?=J x->x.dead=X\/BA s.be x.in_=Z
 grp:∀(i:Nat) g,s.bv[i]?=J g->∃d,Sk p sz s i g d
 tot:JT p s.bv=(U s.ac,U s.be)
 que:∀(c:Nat) q,s.ac[c]?=J q->gA p s q
 wait:∀w∈s.waits,IC p sz s w=X
variable{l m:List CN}
theorem sK:X1 l m=X↔ ∀a∈m,a.dead=X\/BA l a.in_=false:=by induction m with|nil=>simp[X1]|cons a m b=>grind [X1]
theorem cj(p:Aa)(l:List Ay)(g:Ay){d:Bd}(h:p.def? g.ip=J d):JT p (l++[g])=((JT p l).1+U d.ac,(JT p l).2+U d.be):=by grind [JT]
variable{g:Ay}
theorem ck{b:Aa}{l:List Ay}{a:Nat}{d:Bd}(e:l[a]?=J g)(c:b.def? g.ip=J d):JT b (l.take (a+1))=((JT b (l.take a)).1+U d.ac,(JT b (l.take a)).2+U d.be):=by grind [List.take_add_one,cj]
theorem Xr{h:Aa}{i:BQ}{d:Bd}{f c:Nat}:∀{l:List HV} {j:Nat},R3 h i d g f c j l=X↔ ∀(a:Nat) b,l[a]?=J b->jy h i d g f (j+a) (c+(j+a)) b=X
 |[],j=>by simp[R3]|x::l,j=>by
  rw[R3,As,Xr (j:=j+1)];constructor
  .grind
  .intro e;refine⟨e 0 x rfl,λa b k=>?_⟩;have:=e (a+1) b zCI;grind
theorem mZ{p:Aa}{sz:Al}{s:BQ}:∀{l:List Ay} {i:Nat},s.bv.drop i=l->i<=(U s.bv)->
 (P1 p (OV p sz) s i (JT p (s.bv.take i)).1 (JT p (s.bv.take i)).2 l=X↔JT p s.bv=(U s.ac,U s.be)/\∀(a:Nat) g,i<=a->s.bv[a]?=J g->∃d,p.def? g.ip=J d/\xY p (OV p sz) s a (JT p (s.bv.take a)).1 (JT p (s.bv.take a)).2 g d=X)
 |[],i,hd,hi=>by
  have c:U s.bv<=i:=by have:=congrArg U hd;simp at this;omega
  grind [P1]
 |g::l,i,hd,hi=>by
  have b:s.bv[i]?=J g:=by have:=congrArg (λl=>l[0]?) hd;simpa using this
  have c:=l_ b;have e:s.bv.drop (i+1)=l:=by rw[Ax b]at hd;exact(T2 hd).2
  rw[P1];rcases hdf:p.def? g.ip with _|d
  .grind
  .have f:=mZ (p:=p) (sz:=sz) (s:=s) e c;rw[ck b hdf]at f;grind
variable{j:Nat}{a:HV}
theorem Oj{e:Aa}{f:BQ}{c:Nat}{d:Bd}{b:Fo}(m:f.bv[c]?=J g)(l:e.def? g.ip=J d)(k:d.ac[j]?=J a)(h:b.group=c)(i:b.index=j):EE e f b=a.many:=by grind [Aa.def?,EE]
theorem Cr{p:Aa}{n:Int}{d:Bd}(h:p.def? n=J d):0<=n/\p.defs[n.toNat]?=J d:=by grind [Aa.def?]
theorem xA{h:Aa}{l:Al}{b:BQ}(k:∀(e:Nat) g,b.bv[e]?=J g->∃d,Sk h l b e g d):∀(c:Nat),c<=(U b.bv)->∀f,f<(JT h (b.bv.take c)).1->∃e g d j a,e<c/\b.bv[e]?=J g/\Sk h l b e g d/\d.ac[j]?=J a/\f=(JT h (b.bv.take e)).1+j
 |0,_,f,i=>by simp[JT]at i|c+1,hn,f,i=>by
  have⟨g,hgn⟩:=g_ (l:=b.bv) (i:=c) z;have⟨d,hd⟩:=k c g hgn;rw[ck hgn hd.ip]at i;by_cases m:f<(JT h (b.bv.take c)).1
  .have⟨e,g,d,j,a,h1,h2⟩:=xA k c z f m;grind
  .have⟨a,hch⟩:=g_ (l:=d.ac) (i:=f-(JT h (b.bv.take c)).1) (by dsimp only at i;omega);grind
structure w9(p:Aa)(sz:Al)(s:BQ)(c:Nat)(q:Fo)(i j:Nat)(g:Ay)(d:Bd)(ch:HV):Prop:=
 grp:s.bv[i]?=J g
 st:Sk p sz s i g d
 cha:d.ac[j]?=J ch
 at_:c=(JT p (s.bv.take i)).1+j
 group:q.group=i
 index:q.index=j
 place:q.at_=g.place d ch.at_
theorem Ed.chn{f:Aa}{k:Al}{b:BQ}(l:∀(c:Nat) g,b.bv[c]?=J g->∃d,Sk f k b c g d)(n:JT f b.bv=(U b.ac,U b.be)){e:Nat}{i:Fo}(m:b.ac[e]?=J i):∃c j g d a,w9 f k b e i c j g d a:=by have⟨c,g,d,j,a,h1,h2,h3,h4,h5⟩:=xA l (U b.bv) (D2 _) e zCI;have⟨q2,h,h7,h8,h9⟩:=h3.ac j a h4;rw[<-h5,m]at h;cases h;exact⟨c,j,g,d,a,h2,h3,h4,h5,h7,h8,h9⟩
def ANc{h:Aa}{i:Al}{c:BQ}(b:Ed h i c):yT h i c=true:=by
 simp only[yT,As];refine⟨b.small,AHr b.tree,sK.2 λr p=>?_,(mZ (p:=h) (sz:=i) (s:=c) (l:=c.bv) (i:=0) rfl z).2 ⟨b.tot,λn g e k=>?_⟩,EL.2 b.wait⟩
 .obtain⟨n,e⟩:=Ce p;rw[SP]at e;exact b.dead _ r z e
 .have⟨d,hd⟩:=b.grp n g k;refine⟨d,hd.ip,?_⟩;simp only[xY,As,D3];refine⟨hd.at_,hd.len,hd.wd,hd.mine,Xr.2 λj a l=>?_⟩;have⟨q,hq,q1,q2,q3⟩:=hd.ac j a l;have f:=b.que _ q hq;rw[I7,jy,hq];simp only[w6,As,D3,RC,It,EL];exact⟨q1,q2,q3,f.len,f.dead,λm o=>by rw[<-Oj k hd.ip l q1 q2];exact f.msgs m o⟩
structure Vl(s s':BQ):Prop:=
 sp:∀(i:Nat) x,s.be[i]?=J x->s'.be[i]?=J x
 gr:∀(i:Nat) g,s.bv[i]?=J g->s'.bv[i]?=J g
 ch:∀(c:Nat) q,s.ac[c]?=J q->∃l,s'.ac[c]?=J {q with queue:=q.queue++l}
theorem JE(s:BQ):Vl s s:=⟨λ_ _ h=>h,λ_ _ h=>h,λc q h=>⟨[],by simpa using h⟩⟩
theorem Uy{g h i:BQ}(e:Vl g h)(f:Vl h i):Vl g i:=by refine⟨λa c b=>f.sp a c (e.sp a c b),λa c b=>f.gr a c (e.gr a c b),λa j b=>?_⟩;have⟨l,h3⟩:=e.ch a j b;have⟨l2,h4⟩:=f.ch a _ h3;grind
theorem Ng{g:Type}{a:List e}{b:List g}(h:∀(c:Nat) x,a[c]?=J x->∃f,b[c]?=J f):U a<=(U b):=by
 by_cases i:U a=0
 .omega
 .have⟨x,hx⟩:=g_ (l:=a) (i:=U a-1) z;grind
variable{b:BQ}
def Vl.ns{a:BQ}(c:Vl a b):U a.be<=(U b.be):=Ng λf g e=>⟨_,c.sp f g e⟩
def Vl.nc{a:BQ}(c:Vl a b):U a.ac<=(U b.ac):=Ng λg h f=>by obtain⟨l,e⟩:=c.ch g h f;exact⟨_,e⟩
variable{f h:Nat}
theorem AFh{c:Aa}{a b:Nat}{e:C8}(i:a<=f)(j:b<=h)(g:e.inB c a b=X):e.inB c f h=true:=by grind [C8.inB]
theorem Iq{c:Aa}{a b:Nat}{l:List C8}(g:a<=f)(i:b<=h)(e:l.all (C8.inB c a b)=X):l.all (C8.inB c f h)=true:=by grind [AFh]
def JO{c:List CN}{b:Int}(e:U l<=(U c))(a:Jh l b):Jh c b:=⟨a.1,by have:=a.2;omega⟩
theorem Gv{a:BQ}(e:Vl a b){i:Int}(c:Jh a.be i):BA b.be i=BA a.be i:=by have⟨x,hx⟩:=g_ (l:=a.be) (i:=i.toNat) (by have:=c.1;have:=c.2;omega);rw[BA,BA,e.sp _ _ hx,hx]
theorem ACy{h:Aa}{f g:Nat}{env:List C8}(q:env.all (C8.inB h f g)=X)(b:CC)(a:b.formed (U env)=X):(b.value env).inB h f g=true:=by
 obtain⟨op,t,k⟩:=b;by_cases c:op=1
 .subst c;rw[Vh];rcases k with _|⟨i,_|⟨j,_|⟨m,l⟩⟩⟩<;>simp[CC.formed]at a;simp[C8.inB,a]
 by_cases e:op=2
 .subst e;rw[Se];have⟨hn,hl⟩:=Pz a;grind
 obtain⟨n,o,p,i,j,rfl,r,s⟩:=SA a c e;grind [Vg,Uo,C8.inB]
theorem ve{k:Aa}{n:Al}{c:BQ}(b:Ed k n c){l:List Fo}(h:U l=U c.ac)(r:∀(e:Nat) f,c.ac[e]?=J f->∃m,l[e]?=J {f with queue:=m}/\gA k c {f with queue:=m}):Ed k n {c with ac:=l}:=by
 have s:=b.small;simp[BQ.small]at s;refine⟨by grind [BQ.small],b.tree,b.dead,λv g o=>?_,by rw[h];exact b.tot,λe f i=>?_,λw t=>?_⟩
 .have⟨d,hd⟩:=b.grp v g o;refine⟨d,hd.ip,hd.at_,hd.len,by rw[h];exact hd.wd,hd.mine,λj a p=>?_⟩;have⟨f,h1,h2⟩:=hd.ac j a p;grind
 .have⟨q0,h0⟩:=g_ (l:=c.ac) (i:=e) (by rw[<-h];exact l_ i);have⟨m,h3,h4⟩:=r e q0 h0;rw[h3]at i;cases i;exact⟨h4.len,h4.dead,λm q=>by rw[h];exact h4.msgs m q⟩
 .have:=b.wait w t;grind [IC]
theorem dS{c:Aa}{j:Al}{a:BQ}(g:Ed c j a){b:Nat}{e:Fo}(n:a.ac[b]?=J e){l:List (List C8)}(m:gA c a {e with queue:=l}):Ed c j {a with ac:=a.ac.set b {e with queue:=l}}:=by
 refine ve g AG λf i h=>?_;rw[F5];by_cases k:b=f
 .grind
 .rw[Co k];exact⟨i.queue,h,g.que f i h⟩
theorem AAG{a:BQ}{b:Nat}{f:Fo}(h:a.ac[b]?=J f)(l:List (List C8)):Vl a {a with ac:=a.ac.set b {f with queue:=f.queue++l}}:=by
 refine⟨λ_ _ c=>c,λ_ _ c=>c,λi j e=>?_⟩;dsimp only;rw[F5];by_cases g:b=i
 .subst g;rw[h]at e;cases e;rw[D4 rfl,D4 (l_ h)];exact⟨l,rfl⟩
 .rw[Co g];exact⟨[],by simpa using e⟩
theorem Nw{c:Aa}{f:Al}{e:BQ}(a:Ed c f e){l:List Ia}(q:U l<=40)(m:∀p∈l,IC c f e p=X):Ed c f {e with waits:=l}:=by have k:=a.small;simp[BQ.small]at k;exact⟨by grind [BQ.small],a.tree,a.dead,λn g j=>by obtain⟨d,b⟩:=a.grp n g j;exact⟨d,b.ip,b.at_,b.len,b.wd,b.mine,b.ac⟩,a.tot,λh o i=>by have:=a.que h o i;exact⟨this.len,this.dead,this.msgs⟩,m⟩
structure Cb(p:Aa)(sz:Al)(s:BQ)(j:GL):Prop:=
 n0:0<=j.node
 size:sz[j.node.toNat]?=J (U j.env:Int)
 at_:Jh s.be j.at_
 live:BA s.be j.at_=Z
 wd:j.env.all (C8.inB p (U s.ac) (U s.be))=X
def Oc{e:Aa}{g:Al}{f:BQ}{j:GL}(a:Cb e g f j)(c:Vl f b):Cb e g b j:=⟨a.n0,a.size,JO c.ns a.at_,by rw[Gv c a.at_];exact a.live,Iq c.nc c.ns a.wd⟩
theorem Lz{a:Aa}{e:Al}{i:BQ}{j:GL}(g:Ao a e)(f:Cb a e i j):∃b l,a.nodes[j.node.toNat]?=J b/\Cw a (U j.env) b=X/\IB a (U j.env) b=J l/\(∀c∈l,0<=c.1/\e[c.1.toNat]?=J c.2)/\(U j.env)<=5000:=by have h:=l_ f.size;rw[g.len]at h;have⟨b,hx⟩:=g_ h;have⟨s0,l,h1,h2,h3,h4,h5,h6⟩:=g.node _ b hx;rw[f.size]at h1;grind
theorem U9{c:Aa}{f:Al}{k:BQ}{j:GL}{g:CQ}{l:List (Int×Int)}(b:Cb c f k j)(m:¬g.op=4)(h:IB c (U j.env) g=J l)(n:∀e∈l,0<=e.1/\f[e.1.toNat]?=J e.2)(o:Nat):∀i∈Bh g o j.at_ j.env,Cb c f k i:=by
 intro i a;rw[Bh]at a;split at a
 .rename_i p q;rw[IB,Co m]at h;cases h;have:=n (p,U j.env) (by grind [Cn]);rw[AS]at a;subst a;exact⟨this.1,this.2,b.at_,b.live,b.wd⟩
 .cases a
theorem yG{a:Int}(b:Jh l a):Cd (l++m) a=Cd l a:=by have:=b.1;have:=b.2;grind [Cd]
def Uq:∀{c:Nat} {b:Int},Jh l b->Cl l c b=X->Cl (l++m) c b=X
 |0,b,f,a=>a|c+1,b,f,a=>by
  rw[Cl]at a⊢;by_cases e:b=0
  .simp[e]
  .simp[e]at a⊢;rw[yG f];exact⟨JO AG a.1,Uq a.1 a.2⟩
theorem Sa:∀{l:List Dy} {i:Nat},ET i l=X->∀(t:Nat) A9,l[t]?=J A9->0<=A9.in_/\A9.in_<=((i+t:Nat):Int)
 :=by intro x;induction x<;>grind [ET]
theorem JR(d:Bd)(g:Ay)(i:Nat):∀(l:List HV) (k:Nat),(Eh d g i k l).length=U l
 :=by intro x;induction x<;>grind [Eh]
theorem Gz(d:Bd)(g:Ay)(i:Nat):∀(l:List HV) (k t:Nat),(Eh d g i k l)[t]?=(l[t]?).map λc=>(⟨(i:Int),((k+t:Nat):Int),g.place d c.at_,[]⟩:Fo)
 :=by intro x;induction x<;>grind [Eh]
theorem LK{d:Bd}:∀{l:List Dy} {k:Nat} {j:GL},j∈Cg d g k l->∃(t:Nat) (A9:Dy),l[t]?=J A9/\j=⟨A9.node,g.place d ((k+t:Nat)+1),g.env⟩
 |[],k,j,h=>by cases h|A9::l,k,j,h=>by
  rw[Cg]at h;rcases DO.1 h with rfl|h
  .exact⟨0,A9,rfl,rfl⟩
  .have⟨t,A9,h1,h2⟩:=LK h;exact⟨t+1,A9,by grind,by grind⟩
structure Gb(p:Aa)(sz:Al)(s:BQ)(j:GL)(x:CQ)(d:Bd):Prop:=
 qr:Ed p sz s
 job:Cb p sz s j
 node:p.nodes[j.node.toNat]?=J x
 op:x.op=4
 n0:0<=x.n
 ip:p.defs[x.n.toNat]?=J d
 ok:Vk d
 grp:((OV p sz)[x.n.toNat]?)=J ((U j.env:Int)+d.own)
 rules:∀r∈d.rules,0<=r.node/\sz[r.node.toNat]?=J ((U j.env:Int)+d.own+CJ d r.d7)
 be:∀A9∈d.be,0<=A9.node/\sz[A9.node.toNat]?=J ((U j.env:Int)+d.own)
 kid:∃k,x.kids=[k]/\0<=k/\sz[k.toNat]?=J ((U j.env:Int)+d.own)
def fA{a:Aa}{e:Al}{s:BQ}{j:GL}{b:CQ}(g:Ao a e)(q:Ed a e s)(o:Cb a e s j)(c:a.nodes[j.node.toNat]?=J b)(h:b.op=4):∃d,Gb a e s j b d:=by
 have⟨n1,n2,_⟩:=E6 g c h;have⟨d,hd⟩:=g_ (l:=a.defs) (i:=b.n.toNat) z;have n:=Bk g hd;have⟨i,x2,s0,f,h2,h3,m,h5,h6,h7,h8,h9,k,h10,h11,h12⟩:=n.node;have p:i=j.node.toNat:=by
  by_cases l:i=j.node.toNat
  .exact l
  .exact absurd h3 (g.diff i j.node.toNat x2 b l f h2 c h)
 subst p;rw[c]at f;cases f;rw[o.size]at m;cases m;exact⟨d,q,o,c,h,n1,hd,n.ok,h7,h8,h9,k,h10,h11,h12⟩
theorem OX{c:Aa}{f:Al}{e:BQ}{b:Nat}{d:Bd}(a:Sk c f e b g d):d.own<=(U g.env):=by have h:=a.mine;grind [L6,SS]
def xB{c:Aa}{h:Al}{f:BQ}{i:Nat}{e:Fo}{m:Nat}{d:Bd}(k:Ao c h)(b:w9 c h f i e m j g d a):Jh f.be e.at_:=by rw[b.place];have l:=Bk k (Cr b.st.ip).2;have⟨c1,c2,_⟩:=l.ok.chan a (AP b.cha);exact pD b.st.mine (OX b.st) b.st.at_ b.st.wd c1 c2
def Ix{e:Aa}{k:Al}{f:BQ}(l:Ao e k)(b:Ed e k f){c:Nat}{q:Fo}(h:f.ac[c]?=J q):wQ e f q:=by have⟨i,j,g,d,a,hc⟩:=Ed.chn b.grp b.tot h;have⟨d0,d1⟩:=Cr hc.st.ip;refine⟨xB l hc,by rw[hc.group];omega,by rw[hc.index];omega,⟨g,d,a,by rw[hc.group];exact hc.grp,d0,d1,by rw[hc.index];exact hc.cha⟩,(b.que c q h).len⟩
section
variable{p:Aa}{c:Al}{s:BQ}{j:GL}{x:CQ}{d:Bd}
def Gb.env(h:Gb p c s j x d):(Ae s d x.n j).env.length=U j.env+d.own:=by simp[Ae,SS]
def Gb.mine(h:Gb p c s j x d):L6 d (U s.ac) (U s.be) (Ae s d x.n j)=true:=by
 have e:U j.env+d.own-U d.ac-U d.be=U j.env:=by unfold Bd.own;omega
 rw[L6,D3,h.env,e,Ae,List.drop_left]
theorem Gb.place(b:Gb p c s j x d){a:Int}(e:1<=a)(f:a<=(U d.be)):(Ae s d x.n j).place d a=(U s.be:Int)+(a-1):=ZH b.mine (by rw[b.env];omega) e f
def ZI(g:Ay)(d:Bd):g.place d 0=g.at_:=by simp[Ay.place]
def HP(d:Bd)(g:Ay)(l:List Dy):(Ei d g l).length=U l:=by simp[Ei]
theorem Gb.spot(a:Gb p c s j x d){n:Int}(k:0<=n)(f:n<=(U d.be)):Jh (s.be++Ei d (Ae s d x.n j) d.be) ((Ae s d x.n j).place d n)/\BA (s.be++Ei d (Ae s d x.n j) d.be) ((Ae s d x.n j).place d n)=false:=by
 by_cases e:n=0
 .subst e;rw[ZI];have:=a.job.at_;refine⟨JO AG this,?_⟩;have g:=a.job.live;have b:(Ae s d x.n j).at_=j.at_:=rfl;rw[b];rw[BA]at g⊢;have h:=this.1;have i:=this.2;grind
 .rw[a.place z f];refine⟨⟨z,by simp[HP];omega⟩,?_⟩;rw[BA,D6 z,Ei,Be];cases d.be[((U s.be:Int)+(n-1)).toNat-U s.be]? <;>rfl
theorem Gb.wd(h:Gb p c s j x d):(Ae s d x.n j).env.all (C8.inB p (U s.ac+U d.ac) (U s.be+U d.be))=true:=by
 rw[Ae,S1,As];refine⟨Iq z z h.job.wd,?_⟩;rw[Hb,S1,As];constructor
 .grind [C8.inB]
 grind [C8.inB]
theorem Gb.tree(b:Gb p c s j x d):Il (s.be++Ei d (Ae s d x.n j) d.be):=by
 have g:=b.qr.tree;refine⟨by simp;have:=g.pos;omega,by rw[yG ⟨z,by have:=g.pos;omega⟩];exact g.top,λe h=>?_⟩;have key:∀(i a:Nat),a<i->a<U d.be->∃f,Cl (s.be++Ei d (Ae s d x.n j) d.be) f ((U s.be:Int)+a)=true:=by
  intro i;induction i with
  |zero=>intro a q;omega
  |succ i t=>
   intro a q r;have⟨A9,hy⟩:=g_ r;have⟨y0,y1⟩:=Sa b.ok.spot a A9 hy;have A:Cd (s.be++Ei d (Ae s d x.n j) d.be) ((U s.be:Int)+a)=(Ae s d x.n j).place d A9.in_:=by rw[Cd,D6 z,Ei,Be,show((U s.be:Int)+a).toNat-U s.be=a by omega,hy];rfl
   have w:=(b.spot (n:=A9.in_) y0 z).1;have:∃f,Cl (s.be++Ei d (Ae s d x.n j) d.be) f ((Ae s d x.n j).place d A9.in_)=true:=by
    by_cases m:A9.in_=0
    .rw[m,ZI];exact⟨_,Uq b.job.at_ (g.climbs _ b.job.at_)⟩
    .rw[b.place z z];have:=t (A9.in_-1).toNat z z
     rwa [show(((A9.in_-1).toNat:Nat):Int)=A9.in_-1 by omega]at this
   obtain⟨f,k⟩:=this;refine⟨f+1,?_⟩;grind [Cl]
 by_cases o:e<U s.be
 .have l:Jh s.be e:=⟨h.1,o⟩;exact Pn AG (Uq l (g.climbs e l))
 .have v:=h.1;have n:=h.2;simp only[Dl,HP]at n;have⟨f,k⟩:=key (U d.be) (e-U s.be).toNat z z;rw[show(U s.be:Int)+((e-U s.be).toNat:Nat)=e by omega]at k;exact Pn z (Vs h k)
theorem Gb.ext(e:Gb p c s j x d):Vl s (Br s d (Ae s d x.n j)):=by
 refine⟨λi b a=>?_,λi b a=>?_,λi b a=>⟨[],?_⟩⟩
 .show(s.be++_)[i]?=_;grind
 .show(s.bv++_)[i]?=_;grind
 .show(s.ac++_)[i]?=_;rw[D8 (l_ a)];simpa using a
def AF8{s b:BQ}(m:Vl s b){c:Fo}{e j:Nat}{g:Ay}{d:Bd}{a:HV}(l:s.bv[e]?=J g)(k:p.def? g.ip=J d)(i:d.ac[j]?=J a)(f:c.group=e)(h:c.index=j):EE p b c=EE p s c:=by rw[Oj l k i f h,Oj (m.gr e g l) k i f h]
theorem va{l:List CN}(f:Il l){a:Nat}(i:1<=a){e:CN}(h:l[a]?=J e):Jh l e.in_:=by have j:=l_ h;have b:=f.climbs a ⟨z,z⟩;obtain⟨c,g⟩:∃c,U l=c+1:=⟨U l-1,z⟩;rw[g]at b;have:=(OD z b).1;grind [Cd]
theorem AGS{b c f h:Nat}{a:Int}{m:List C8}(g:b<=f)(i:c<=h)(e:QC p b c a m=X):QC p f h a m=true:=by grind [QC,Iq]
theorem AIF{s b:BQ}(a:Vl s b){e:Ia}(f:IC p c s e=X):IC p c b e=true:=by simp only[IC,As,D3,It]at*;obtain⟨g,l,h,i,j,k⟩:=f;exact⟨JO a.ns g,by grind [Gv],h,i,j,Iq a.nc a.ns k⟩
theorem Gb.sok'(Q:Ao p c)(b:Gb p c s j x d)(A:(Br s d (Ae s d x.n j)).ac.length<=60/\(Br s d (Ae s d x.n j)).be.length<=24/\(Br s d (Ae s d x.n j)).bv.length<=40):Ed p c (Br s d (Ae s d x.n j)):=by
 have f:=b.ext;have M:=b.qr.small;simp[BQ.small]at M;have F:p.def? x.n=J d:=by rw[Aa.def?,D4 b.n0];exact b.ip
 have D:(Br s d (Ae s d x.n j)).ac.length=U s.ac+U d.ac:=by simp[Br,JR]
 have L:(Br s d (Ae s d x.n j)).be.length=U s.be+U d.be:=by simp[Br,HP]
 have N:∀e,e<=(U s.bv)->(Br s d (Ae s d x.n j)).bv.take e=s.bv.take e:=λe q=>IP q;refine⟨?_,b.tree,λe t q O=>?_,λe g H=>?_,?_,λo r V=>?_,λY W=>AIF f (b.qr.wait Y W)⟩
 .simp[BQ.small];exact⟨A.2.1,A.2.2,A.1,M.2.2.2⟩
 .by_cases k:e<U s.be
  .have P:s.be[e]?=J t:=by
    have:(s.be++Ei d (Ae s d x.n j) d.be)[e]?=J t:=O
    rwa [D8 k]at this
   rw[Gv f (va b.qr.tree q P)];exact b.qr.dead e t q P
  .right;have:(s.be++Ei d (Ae s d x.n j) d.be)[e]?=J t:=O;rw[D6 z,Ei,Be]at this;rcases hz:d.be[e-U s.be]? with _|B
   .rw[hz]at this;cases this
   .rw[hz]at this;cases this;have⟨z0,z1⟩:=Sa b.ok.spot _ B hz;have:=l_ hz;exact(b.spot (n:=B.in_) z0 z).2
 .by_cases k:e<U s.bv
  .have i:s.bv[e]?=J g:=by
    have:(s.bv++[Ae s d x.n j])[e]?=J g:=H
    rwa [D8 k]at this
   have⟨d2,hd2⟩:=b.qr.grp e g i;refine⟨d2,hd2.ip,JO f.ns hd2.at_,hd2.len,Iq f.nc f.ns hd2.wd,by rw[N e z];exact hd2.mine,λn a K=>?_⟩;have⟨r,h1,h2,h3,h4⟩:=hd2.ac n a K;have⟨l,hl⟩:=f.ch _ r h1;grind
  .have i:(s.bv++[Ae s d x.n j])[e]?=J g:=H;have T:=l_ i;rw[Dl,I3]at T;obtain rfl:e=U s.bv:=z;rw[D6 z]at i;simp at i;subst i;have C:(JT p ((Br s d (Ae s d x.n j)).bv.take (U s.bv)))=(U s.ac,U s.be):=by rw[N _ z,F2,b.qr.tot]
   refine⟨d,F,JO f.ns b.job.at_,?_,by rw[D,L];exact b.wd,by rw[C];exact b.mine,λn a K=>?_⟩
   .have:=b.grp;rw[show(Ae s d x.n j).ip=x.n from rfl,this,b.env];simp
   .rw[C];refine⟨⟨U s.bv,n,(Ae s d x.n j).place d a.at_,[]⟩,?_,rfl,rfl,rfl⟩;show(s.ac++Eh d (Ae s d x.n j) (U s.bv) 0 d.ac)[U s.ac+n]?=_;grind [Gz]
 .show JT p (s.bv++[Ae s d x.n j])=_;rw[cj p _ _ (d:=d) F,b.qr.tot,D,L]
 .have h:(s.ac++Eh d (Ae s d x.n j) (U s.bv) 0 d.ac)[o]?=J r:=V;by_cases k:o<U s.ac
  .rw[D8 k]at h;have w:=b.qr.que o r h;have⟨e,n,g,d2,a,hc⟩:=Ed.chn b.qr.grp b.qr.tot h;have R:=xB Q hc;exact⟨w.len,by rw[Gv f R];exact w.dead,λm v=>by rw[AF8 f hc.grp hc.st.ip hc.cha hc.group hc.index];exact AGS f.nc f.ns (w.msgs m v)⟩
  .rw[D6 z,Gz]at h;rcases hz:d.ac[o-U s.ac]? with _|B
   .rw[hz]at h;cases h
   .rw[hz]at h;cases h;exact⟨AG,.inl rfl,λm v=>by cases v⟩
end
abbrev pA(p:Aa):y:=.agg [.d (.co (p.free.map CK)),.d (.co (p.nodes.map Bl)),.d (.co (p.defs.map Bw)),nI p.main]
abbrev sA(s:BQ):y:=.agg [.d (.co (s.be.map Ch)),.d (.co (s.bv.map Cf)),.d (.co (s.ac.map C0)),.d (.co (s.waits.map Bj))]
structure XY(p:Aa)(sz:Al)(s:BQ)(w:Ia)(x:CQ):Prop:=
 n0:0<=w.node
 node:p.nodes[w.node.toNat]?=J x
 op:x.op=6\/x.op=7\/x.op=8
 at_:Jh s.be w.at_
 live:BA s.be w.at_=Z
 size:sz[w.node.toNat]?=J (U w.env:Int)
 len:U w.env<=5000
 n:¬x.op=7->0<=x.n/\x.n<U w.env
 wd:w.env.all (C8.inB p (U s.ac) (U s.be))=X
theorem O7{c:Aa}{g:Al}{i:BQ}{e:Ia}(o:Ao c g)(h:IC c g i e=X):∃f,XY c g i e f:=by
 simp only[IC,As,D3,It]at h;obtain⟨j,k,m,a,b,n⟩:=h;rcases hx:c.nodes[e.node.toNat]? with _|f
 .rw[hx]at a;cases a
 .rw[hx]at a;simp[O8]at a;have⟨v,l,h7,h8,h9,h10,_⟩:=o.node _ f hx;rw[h7]at b;have b:(U e.env:Int)=v:=b;rw[<-b]at h7 h8 h9 h10;refine⟨f,m,hx,a,j,k,h7,z,λp=>?_,n⟩;grind [Cw,cW]
def XY.val{k:Aa}{l:Al}{b:BQ}{e:Ia}{c:CQ}(g:XY k l b e c)(j:¬c.op=7):∃a,e.env[c.n.toNat]?=J a/\Hj e.env c.n=a/\(a.kind=4->Jh b.be a.n/\∃f,b.be[a.n.toNat]?=J f/\BA b.be a.n=f.dead):=by have:=g.n j;have⟨a,hv⟩:=g_ (l:=e.env) (i:=c.n.toNat) z;refine⟨a,hv,by rw[Hj,hv];rfl,λi=>?_⟩;have h:=EL.1 g.wd a (AP hv);simp[C8.inB,i]at h;have⟨f,hy⟩:=g_ (l:=b.be) (i:=a.n.toNat) z;exact⟨h,f,hy,by simp[BA,hy]⟩
structure tx(p:Aa)(sz:Al)(s:BQ)(g:Ay)(d:Bd)(r:DI):Prop:=
 at0:0<=r.at_
 at1:r.at_<=(U d.be)
 place:Jh s.be (g.place d r.at_)
 j0:0<U r.d7
 j1:U r.d7<=3
 join:∀c∈r.d7,0<=c/\c<U d.ac/\0<=g.own d X c/\∃q,s.ac[(g.own d X c).toNat]?=J q/\(U q.queue)<=12/\QL s (g.own d X c)=U q.queue
theorem AFn{d:Bd}{r:DI}:∀{l:Al} {i:Nat},q_g d r i l=X->∀c∈l,0<=c/\c<U d.ac
 :=by intro x;induction x<;>grind [q_g,H8]
def Oy{c:Aa}{h:Al}{e:BQ}{i:Nat}{g:Ay}{d:Bd}{j:DI}(s:Ao c h)(w:Ed c h e)(x:e.bv[i]?=J g)(b:Sk c h e i g d)(v:j∈d.rules):tx c h e g d j:=by have m:=(Bk s (Cr b.ip).2).ok;have n:=m.pp j v;simp[Bx]at n;obtain⟨⟨k,l⟩,o,p,r⟩:=n;refine⟨k,l,pD b.mine (OX b) b.at_ b.wd k l,o,p,λf t=>?_⟩;have⟨c0,c1⟩:=AFn r f t;have⟨a,hch⟩:=g_ (l:=d.ac) (i:=f.toNat) z;have⟨q,hq,_⟩:=b.ac _ a hch;have m:=ME b.mine c0 c1;have:(g.own d X f).toNat=(JT c (e.bv.take i)).1+f.toNat:=z;refine⟨c0,c1,z,q,by rw[this];exact hq,(w.que _ q hq).len,by rw[QL,this,hq];rfl⟩
theorem ou{l:u}(a:0∈l):Dx l=[]:=by
 induction l with
 |nil=>simp at a
 |cons c l b=>
  rw[Dx];rcases DO.1 a with a|a
  .subst a;rfl
  .simp[b a]
theorem Ee{e c:Type}{i:e->List c}{b:Nat}:∀{l:List e},(∀a∈l,(i a).length<=b)->(l.flatMap i).length<=(U l)*b
 :=by intro a;induction a<;>grind [Nat.succ_mul]
