/- P -/
import Derived.KernelRfl
import Derived.Test.YtbinfhpngacfgaaGreatR9
set_option linter.all false
set_option maxRecDepth 99999
set_option maxHeartbeats 0
namespace Go
def zEc{p:Prop}(h:p:=by simp[Fz,AE,A9]):p:=h
def zEt{p:Prop}(h:p:=by unfold BF;omega):p:=h
def zFA{p:Prop}(h:p:=by simp only[CB]):p:=h
def zFI{p:Prop}(h:p:=by simp only[go_sem]):p:=h
def zFK{p:Prop}(h:p:=by have:=a.1;have:=a.2;omega):p:=h
def zFP{p:Prop}(h:p:=by simp only[CJ.okG,h,Dl,Gt]):p:=h
def zFQ{p:Prop}(h:p:=by simp only[CJ.okR,h,Dl,Gt]):p:=h
end Go
namespace Go
def zAP{p:Prop}(h:p:=by
 clear e
 (repeat' (first|simp only[go_sem, *]|(refine sx ?_ ?_<;>intro f)|refine sy AA fun x i g=>?_|simp(disch:=first|assumption|omega) only[AR]))
 all_goals grind [B3.formed]):p:=h
def zAQ{p:Prop}(h:p:=by simp only[Bb,evalOp,CD,Gh,Ev,Op.operands,EM,He,CI]):p:=h
def zAV{p:Prop}(h:p:=by clear b;have q:(0:Int)<l.length:=g;dsimp only at*;refine aw ?_;refine j.1 ((_,_),_) ⟨.inr ⟨AA,?_⟩⟩;rw[Li,h];rfl):p:=h
def zAW{p:Prop}(h:p:=by
 clear b;dsimp only at*;by_cases n:l.length=0
 .exfalso;have:=e.1;omega
 .rw[Kq,Ci n];have p:=e.1;subst p;rw[D2];exact au):p:=h
def zAZ{p:Prop}(h:p:=by clear b;have q: ¬(0:Int)<l.length:=g;dsimp only at*;have r:=AH.mk (e.1.symm);refine aw ?_;rw[Kq,D4 r.1]):p:=h
def zAh{p:Prop}(h:p:=by simp only[Bb,evalOp,BS]):p:=h
def zAm{p:Prop}(h:p:=by (repeat' (first|simp only[go_sem, *,BY]|(refine sx ?_ ?_<;>intro e)|refine sy AA fun x g f=>?_|simp(disch:=first|assumption|omega) only[AR]))):p:=h
def zAs{p:Prop}(h:p:=by simp only[go_sem];rfl):p:=h
def zAy{p:Prop}(h:p:=by
 subst h2;clear c;obtain⟨t,m⟩:=Nd e;have m:n.toNat<env.length:=AA;clear e
 (repeat' (first|simp only[go_sem, *,P5,GO]|(refine sx ?_ ?_<;>intro g)|refine sy AA fun x j i=>?_|simp(disch:=first|assumption|omega) only[AR]))):p:=h
def zA3{p:Prop}(h:p:=by
 have:s.data.toList.all M9=false:=by rw[b.1,Ag c,D9,Rv AA];rfl
 simp[GY,this]):p:=h
def zA6{p:Prop}(h:p:=by
 have:(v.cells.length==i.size&&v.cells.all AV.isCell)=false:=by
  rw[RW];by_cases a:v.cells.length=i.size
  .exact .inr (by simpa using fun h2=>h ⟨a,h2⟩)
  .exact .inl zEi
 rw[this,Ci h]):p:=h
def zBB{p:Prop}(h:p:=by
 by_cases a:p
 .rw[D6 a];exact c a
 .rw[DL a];exact h2 a):p:=h
def zBM{p:Prop}(h:p:=by
 clear a
 (repeat' (first|simp only[go_sem, *]|(refine sx ?_ ?_<;>intro b)|refine sy AA fun x e c=>?_|simp(disch:=first|assumption|omega) only[AR,Sj]))
 all_goals grind [B3.ok]):p:=h
def zBP{p:Prop}(h:p:=by
 cases g id with
 |none=>rfl
 |some o=>cases o<;>rfl):p:=h
def zBR{p:Prop}(h:p:=by
 refine Az Tryz.func154 ?_
 (repeat' (first|simp only[go_sem, *,A6]|(refine sx ?_ ?_<;>intro c)|refine sy AA fun x g f=>?_|simp(disch:=first|assumption|omega) only[AR]))):p:=h
def zBS{p:Prop}(h:p:=by rw[Y9];rw[b.1,Ag f,D9,show DM d x=false by simp[DM];omega,Dl]):p:=h
def zBT{p:Prop}(h:p:=by rw[R7];rw[b.1,Ag f,D9,show B9 d r=false by simp[B9];omega,Dl]):p:=h
def zBY{p:Prop}(h:p:=by
 subst f;clear c
 (repeat' (first|simp only[go_sem, *,SQ]|(refine sx ?_ ?_<;>intro g)|refine sy AA fun x j i=>?_|simp(disch:=first|assumption|omega) only[AR]))):p:=h
def zBk{p:Prop}(h:p:=by
 have c:(a==b)=decide (a=b):=by rw[OP];simp
 simp[Ie,h,c]):p:=h
def zBv{p:Prop}(h:p:=by
 rw[a]at h;obtain⟨c,i⟩:=r;refine⟨n,c,i,a,?_⟩;cases c<;>simp only[EU]at h
 .exact⟨n,o,st',h,hq⟩
 all_goals (cases h;exact hq)):p:=h
def zB3{p:Prop}(h:p:=by
 have a:=(BV.1 h).1;rw[List.drop_eq_getElem_cons a];congr 1;have:=CO a;rw[h]at this;injection this with this
 exact this.symm):p:=h
def zB4{p:Prop}(h:p:=by have:=congrArg List.length e;simp at this;omega):p:=h
def zCA{p:Prop}(h:p:=by simp only[Im];cases JV i.kind (.d (.str a)) (.d (.str c))<;>rfl):p:=h
def zCE{p:Prop}(h:p:=by
 have:s.data.toList.all M9=true:=by rw[b.1,EX AA];rfl
 have f:1<=s.size:=AA;have g:s.size<=8:=AA;simp[GY,this,f,g,e]):p:=h
def zCG{p:Prop}(h:p:=by obtain⟨o,h',e,f⟩:=a;rw[e];exact c o h' f):p:=h
def zCJ{p:Prop}(h:p:=by
 cases t
 .exact h2 rfl
 .exact a rfl):p:=h
def zCZ{p:Prop}(h:p:=by obtain⟨I,J,K,L,M,N,O⟩:=(fr.1 id (o.1 id h) (F.1 id h)).out;simp only[go_sem,I,J,K,L,M,N,O,AM]):p:=h
def zCt{p:Prop}(h:p:=by simp only[sI,JH,H8];by_cases a:sz=j.size<;>by_cases h2:off+n<=es.length<;>simp[a,h2]):p:=h
def zC5{p:Prop}(h:p:=by
 have:s.data.toList.all M9=false:=by rw[c.1,Ag b,D9,Rv AA];rfl
 simp[GY,this]):p:=h
def zDN{p:Prop}(h:p:=by simp only[Bq.meet];omega):p:=h
def zDW{p:Prop}(h:p:=by obtain⟨n,o,st',h,a⟩:=h;exact⟨n+1,o,st',by rw[f];exact h,a⟩):p:=h
def zDf{p:Prop}(h:p:=by rw[Y8,Du];rw[e.1,Ag b,D9,show B9 d r=false by simp[B9];omega,Dl]):p:=h
def zDk{p:Prop}(h:p:=by refine h.1 (i+1) AA ⟨AA,⟨?_⟩⟩;rw[b.1,Ag c,D9,Y2 AA];rfl):p:=h
def zDq{p:Prop}(h:p:=by subst b;rw[under_iff.2 ((F5 n ρ).trans (F5 a _))]at h;cases h):p:=h
def zDr{p:Prop}(h:p:=by rcases e with _|⟨a,_|⟨b,_|⟨c,l⟩⟩⟩<;>simp[B3.value]):p:=h
def zDv{p:Prop}(h:p:=by rw[ic,Du];rw[e.1,Ag b,D9,show DM d x=false by simp[DM, *],Dl]):p:=h
def zD5{p:Prop}(h:p:=by rw[GY,DL (p:=s.size<=8) AA,Dl,Gt]):p:=h
def zEE{p:Prop}(h:p:=by rw[Ec];exact Lo _ _ _ _ _):p:=h
def zET{p:Prop}(h:p:=by obtain⟨o,h'⟩:=r;cases o<;>simp only[FU,Bd,BB,Cf,VS]):p:=h
end Go
namespace Go.Abs
variable{P:Program}{C:DJ}{mix:List TypeId}
abbrev Lk:=List (FuncId×List AV×AV)
def Lk.look:Lk->FuncId->List AV->Option AV
 |[],_,_=>none
 |(g,bs,r)::l,f,az=>match Nat.beq g f with
  |true=>match AV.sames bs az with
   |true=>some r
   |false=>Lk.look l f az
  |false=>Lk.look l f az
def Lk.Known(P:Program)(C:DJ)(T:Lk):Prop:= ∀f az r,(f,az,r)∈T->KL P C (.fn f) az [] [] false none=.ok (.ret r,[])
def Lk.look_mem: ∀{T:Lk} {f:FuncId} {az:List AV} {r:AV},T.look f az=some r->(f,az,r)∈T
 |[],_,_,_,h=>by cases h
 |(g,bs,r')::l,f,az,r,h=>by
  unfold Lk.look at h;split at h
  .rename_i a;split at h
   .rename_i h2;cases h;rw[<-D8 a,<-AV.sames_eq h2];simp
   .exact F0 _ (Lk.look_mem h)
  .exact F0 _ (Lk.look_mem h)
def Lk.ask(T:Lk)(f:FuncId)(az:List AV):AD->List Nat->Bool->Option (List Nat)->Option AV
 |[],[],false,none=>T.look f az
 |_,_,_,_=>none
def J2(P:Program)(C:DJ)(T:Lk)(m:Nat):Nat->Ab
 |0=>fun _ _ _ _ _ _=>.err [25]
 |n+1=>fun t args h π raw ci=>match t with
  |.fn f=>match T.ask f args h π raw ci with
   |some r=>.ok (.ret r,[])
   |none=>match C.i9 f with
    |true=>RF P C (J2 P C T m n) m f args h π raw ci
    |false=>.err [41,f]
  |.round id r=>match raw with
   |true=>IW C (J2 P C T m n) m id r args h π ci
   |false=>.err [42]
variable{T:Lk}{m:Nat}
def UG(e:T.Known P C): ∀{n:Nat} {q:Qu} {r:A8×AD},ask (J2 P C T m n) q=.ok r->ask (KL P C) q=.ok r
 |0,q,r,h=>by simp[ask,J2]at h
 |n+1,⟨t,args,h,π,raw,ci⟩,r,a=>by
  simp only[ask,J2]at a⊢;cases t with
  |fn f=>
   simp only at a;split at a
   .rename_i g b;cases a;unfold Lk.ask at b;split at b
    .exact e _ _ _ (Lk.look_mem b)
    .cases b
   .split at a
    .rename_i i;obtain⟨L,c⟩:=Pt a;refine gA i (n:=m) ?_;exact c _ m (Es _) fun q _ g h'=>UG e h'
    .cases a
  |round id k=>
   simp only at a;split at a
   .rename_i j;obtain⟨L,c⟩:=Lf a;refine Zd (n:=m) ?_;exact c _ m (Es _) fun q _ g h'=>UG e h'
   .cases a
variable{f:FuncId}{az:List AV}{r:AV}
def MH(a:T.Known P C)(m n:Nat)(h:J2 P C T m n (.fn f) az [] [] false none=.ok (.ret r,[])):KL P C (.fn f) az [] [] false none=.ok (.ret r,[]):=
 UG (q:=⟨.fn f,az,[],[],false,none⟩) a h
def Lk.known_nil:Lk.Known P C []:=fun _ _ _ h=>by cases h
def Lk.known_cons(h:KL P C (.fn f) az [] [] false none=.ok (.ret r,[]))(b:T.Known P C):Lk.Known P C ((f,az,r)::T):=fun g e i c=>by
 rcases D0.1 c with a|a
 .cases a;exact h
 .exact b _ _ _ a
variable{P:Program}{C:DJ}{K:Ab}{fr:Fr}{b n i:Nat}{Q:Eh->St->Prop}
def Wp(C:DJ)(K:Ab)(fr:Fr)(b:Nat)(c:Code)(st:St)(Q:Eh->St->Prop):Prop:= ∃n o st',Bo C K fr n b c st=.ok (o,st')/\Q o st'
variable{c:Code}{st:St}
def Od{n b:Nat}{r:Eh×St}(h:Bo C K fr n b c st=.ok r)(e:n<=m):Bo C K fr m b c st=.ok r:=by
 obtain⟨L,a⟩:=Oc n b c st (E.good_of h);rw[a K m e (fun _ _ _ h=>h),h]
def xI(C:DJ)(K:Ab)(fr:Fr)(b:Nat)(y:Code)(Q:Eh->St->Prop):Eh->St->Prop
 |.normal,st=>Wp C K fr b y st Q
 |o,st=>Q o st
def LV(id:Nat)(Q:Eh->St->Prop):Eh->St->Prop
 |.exit k,st=>match Nat.beq k id with
  |true=>Q .normal st
  |false=>Q (.exit k) st
 |o,st=>Q o st
def NR(C:DJ)(K:Ab)(fr:Fr)(b:Nat)(x y:Code)(st:St)(Q:Eh->St->Prop):AV->Prop
 |.d (.bool true)=>Wp C K fr b x st Q
 |.d (.bool false)=>Wp C K fr b y st Q
 |_=>False
def HL(C:DJ)(K:Ab)(fr:Fr)(ops:Array Oper)(b n:Nat)(al:Nat->Bool)(l:List Oper)(i:Nat)(st:St)(Q:Eh->St->Prop):Prop:=
 match Ds C K fr ops b al l i st with
 |.ok ((none,st'),_)=>Q .normal {st' with base:=b+n}
 |.ok ((some v,st'),_)=>Q (.ge v) {st' with base:=b+n}
 |.err _=>False
def H0(C:DJ)(K:Ab)(fr:Fr)(ops:Array Oper)(b n:Nat)(al:Nat->Bool)(ps:List (Nat×Nat))(fps:List Fp)(l:List Oper)(i:Nat)(st:St)(Q:Eh->St->Prop):Prop:=
 match Ds C K fr ops b al l i st with
 |.ok ((none,st'),f)=>Et (fps++f) ps=true/\Q .normal {st' with base:=b+n}
 |.ok ((some v,st'),f)=>Et (fps++f) ps=true/\Q (.ge v) {st' with base:=b+n}
 |.err _=>False
def k9(x y:Code)(st:St):Wp C K fr b (.seq x y) st Q=Wp C K fr b x st (xI C K fr b y Q):=by
 refine propext ⟨fun⟨n,o,st',h,hq⟩=>?_,fun⟨n,o,st',h,hq⟩=>?_⟩
 .cases n with
  |zero=>simp[Bo]at h
  |succ n=>
   simp only[Bo]at h;cases a:Bo C K fr n b x st with
   |err e=>rw[a]at h;cases h
   |ok r=>
    exact zBv
 .cases o with
  |normal=>
   obtain⟨m,g,j,h2,f⟩:=hq;refine⟨max n m+1,g,j,?_,f⟩;simp only[Bo,Od h (Lw n m),EU,Od h2 (NO n m)]
  |_=>exact⟨n+1,_,st',by simp only[Bo,h,EU],hq⟩
def mB(c:Operand)(x y:Code)(st:St):Wp C K fr b (.cond c x y) st Q=NR C K fr b x y st Q (ev st.env.get c):=by
 have e: ∀{v:AV} {x y:Code} (f: ∀n,Bo C K fr (n+1) b (.cond c x y) st=L1 v (Bo C K fr n b x st) (Bo C K fr n b y st)),Wp C K fr b (.cond c x y) st Q=NR C K fr b x y st Q v:=by
  intro v x y f;refine propext ⟨fun⟨n,o,st',h,a⟩=>?_,fun h=>?_⟩
  .cases n with
   |zero=>simp[Bo]at h
   |succ n=>
    rw[f]at h;unfold L1 at h;split at h
    .rename_i t;cases t
     .exact⟨n,o,st',h,a⟩
     .exact⟨n,o,st',h,a⟩
    .cases h
  .unfold NR at h;split at h
   .exact zDW
   .exact zDW
   .exact h.elim
 exact e fun n=>by simp only[Bo]
def xw(id:Nat)(x:Code)(st:St):Wp C K fr b (.block id x) st Q=Wp C K fr id x st (LV id Q):=by
 refine propext ⟨fun⟨n,o,st',h,hq⟩=>?_,fun⟨n,o,st',h,hq⟩=>?_⟩
 .cases n with
  |zero=>simp[Bo]at h
  |succ n=>
   simp only[Bo]at h;cases c:Bo C K fr n id x st with
   |err e=>rw[c]at h;cases h
   |ok r=>
    rw[c]at h;obtain⟨f,g⟩:=r;refine⟨n,f,g,c,?_⟩;cases f with
    |exit k=>
     simp only[IQ]at h;simp only[LV];split at h<;>(rename_i a;rw[a];cases h;exact hq)
    |_=>cases h;exact hq
 .cases o with
  |exit k=>
   simp only[LV]at hq;cases a:Nat.beq k id with
   |true=>
    rw[a]at hq;exact⟨n+1,.normal,st',by simp only[Bo,h,IQ,a],hq⟩
   |false=>
    rw[a]at hq;exact⟨n+1,.exit k,st',by simp only[Bo,h,IQ,a],hq⟩
  |_=>exact⟨n+1,_,st',by simp only[Bo,h,IQ],hq⟩
def Vo{o:Eh}{st':St}(h: ∀n,Bo C K fr (n+1) b c st=.ok (o,st')):Wp C K fr b c st Q=Q o st':=by
 refine propext ⟨fun⟨n,o1,st1,a,e⟩=>?_,fun e=>⟨1,o,st',h 0,e⟩⟩;cases n with
 |zero=>simp[Bo]at a
 |succ n=>
  rw[h]at a;cases a;exact e
def AA3(st:St):Wp C K fr b .skip st Q=Q .normal st:=Vo fun _=>rfl
def ACy(st:St):Wp C K fr b .ret st Q=Q .ret st:=Vo fun _=>rfl
def p1(id:Nat)(st:St):Wp C K fr b (.exit id) st Q=Q (.exit id) st:=Vo fun _=>rfl
def P8(id:Nat)(ops:Array Oper)(a:Bool)(st:St):Wp C K fr b (.region id ops a) st Q=match FP C K fr id ops a st with|.ok (o,st')=>Q o st'|.err _=>False:=by
 cases h:FP C K fr id ops a st with
 |ok r=>
  obtain⟨o,st'⟩:=r;exact Vo fun n=>by simp only[Bo,h]
 |err e=>
  refine propext ⟨fun⟨n,o,st',c,hq⟩=>?_,fun h=>h.elim⟩;cases n with
  |zero=>simp[Bo]at c
  |succ n=>
   simp only[Bo,h]at c;cases c
def rK(id:Nat)(ops:Array Oper)(e:CA)(h:AD)(bs:Nat)(ds:List Df):Wp C K fr b (.region id ops false) ⟨e,h,bs,ds⟩ Q=HL C K fr ops bs ops.size (fun _=>true) ops.toList 0 ⟨e,h,bs,ds⟩ Q:=by
 rw[P8];unfold FP HL;simp only[PM,Bool.true_or];cases Ds C K fr ops bs (fun _=>true) ops.toList 0 ⟨e,h,bs,ds⟩with
 |err l=>rfl
 |ok r=>
  obtain⟨⟨o,st'⟩,fps⟩:=r;cases o<;>simp[MB]
def xx(id:Nat)(ops:Array Oper)(e:CA)(h:AD)(bs:Nat)(ds:List Df)(a:C.d9 fr.f id=[]):Wp C K fr b (.region id ops true) ⟨e,h,bs,ds⟩ Q=HL C K fr ops bs ops.size (fun i=>C.alone fr.f id i) ops.toList 0 ⟨e,h,bs,ds⟩ Q:=by
 rw[P8];unfold FP HL;simp only[PI,I4];cases Ds C K fr ops bs (fun i=>C.alone fr.f id i) ops.toList 0 ⟨e,h,bs,ds⟩with
 |err l=>rfl
 |ok r=>
  obtain⟨⟨o,st'⟩,fps⟩:=r;cases o<;>simp[MB,a,Et]
def ni(id:Nat)(ops:Array Oper)(e:CA)(h:AD)(bs:Nat)(ds:List Df){ps:List (Nat×Nat)}(a:C.d9 fr.f id=ps):Wp C K fr b (.region id ops true) ⟨e,h,bs,ds⟩ Q=H0 C K fr ops bs ops.size (fun i=>C.alone fr.f id i) ps [] ops.toList 0 ⟨e,h,bs,ds⟩ Q:=by
 rw[P8];unfold FP H0;simp only[PI,I4,CE];cases Ds C K fr ops bs (fun i=>C.alone fr.f id i) ops.toList 0 ⟨e,h,bs,ds⟩with
 |err l=>rfl
 |ok r=>
  obtain⟨⟨o,st'⟩,fps⟩:=r;subst a;cases o<;>cases c:Et fps (C.d9 fr.f id)<;>simp[MB,c]
theorem dc(y:Code)(st:St):xI C K fr b y Q .normal st=Wp C K fr b y st Q:=rfl
theorem qk(y:Code)(k:Nat)(st:St):xI C K fr b y Q (.exit k) st=Q (.exit k) st:=rfl
theorem xK(y:Code)(st:St):xI C K fr b y Q .ret st=Q .ret st:=rfl
theorem xJ(y:Code)(v:AV)(st:St):xI C K fr b y Q (.ge v) st=Q (.ge v) st:=rfl
theorem Vt(id:Nat)(st:St):LV id Q .normal st=Q .normal st:=rfl
theorem eg(id:Nat)(st:St):LV id Q .ret st=Q .ret st:=rfl
theorem ef(id:Nat)(v:AV)(st:St):LV id Q (.ge v) st=Q (.ge v) st:=rfl
def Zx(id:Nat)(st:St):LV id Q (.exit id) st=Q .normal st:=by
 simp[LV]
def J8(id k:Nat)(st:St)(h:Nat.beq k id=false):LV id Q (.exit k) st=Q (.exit k) st:=by
 simp only[LV,h]
theorem fF(x y:Code)(st:St):NR C K fr b x y st Q (.d (.bool true))=Wp C K fr b x st Q:=rfl
theorem aG(x y:Code)(st:St):NR C K fr b x y st Q (.d (.bool false))=Wp C K fr b y st Q:=rfl
variable{t:Bool}
def aH{x y:Code}(a:t=true->Wp C K fr b x st Q)(h2:t=false->Wp C K fr b y st Q):NR C K fr b x y st Q (.d (.bool t)):=by
 exact zCJ
variable{ops:Array Oper}{al:Nat->Bool}{l:List Oper}{e:CA}{h:AD}{bs:Nat}{ds:List Df}{ps:List (Nat×Nat)}{fps:List Fp}
def CX(C:DJ)(K:Ab)(fr:Fr)(ops:Array Oper)(b n:Nat)(al:Nat->Bool)(l:List Oper)(i:Nat)(dst:Option Tmp)(e:CA)(h:AD)(bs:Nat)(ds:List Df)(Q:Eh->St->Prop):Option C0->Prop
 |some x=>LQ fr.ci x.δ=true/\HL C K fr ops b n al l (i+1) ⟨DH e dst x.v,h.puts x.δ,bs,ds⟩ Q
 |none=>False
def Bz(C:DJ)(K:Ab)(fr:Fr)(ops:Array Oper)(b n:Nat)(al:Nat->Bool)(l:List Oper)(i:Nat)(Q:Eh->St->Prop):Ib->Prop
 |.ok st _=>HL C K fr ops b n al l (i+1) st Q
 |.ge v st=>al i=true/\Q (.ge v) {st with base:=b+n}
 |.err _=>False
theorem wE:HL C K fr ops b n al [] i ⟨e,h,bs,ds⟩ Q=Q .normal ⟨e,h,b+n,ds⟩:=rfl
def Xo(o:Oper)(st:St):HL C K fr ops b n al (o::l) i st Q=Bz C K fr ops b n al l i Q (DB C K fr ops ((b+i)::fr.π) o st):=by
 unfold HL;simp only[Ds,JM];cases f:DB C K fr ops ((b+i)::fr.π) o st with
 |err e=>rfl
 |ge v st'=>
  simp only[Bz];cases al i<;>simp
 |ok st' a=>
  simp only[Bz,HL];cases c:Ds C K fr ops b al l (i+1) st' with
  |err e=>rfl
  |ok r=>
   obtain⟨⟨o,g⟩,fps⟩:=r;cases o<;>rfl
def Dm(C:DJ)(K:Ab)(fr:Fr)(ops:Array Oper)(b n:Nat)(al:Nat->Bool)(l:List Oper)(i:Nat)(dst:Option Tmp)(op:Op)(st:St)(want:Bool)(Q:Eh->St->Prop):AV->Prop
 |.d (.bool t)=>match t==want with
  |true=>Bz C K fr ops b n al l i Q (Bb C K fr ((b+i)::fr.π) op dst st)
  |false=>HL C K fr ops b n al l (i+1) {st with env:=DH st.env dst (.ii [])} Q
 |.ii []=>HL C K fr ops b n al l (i+1) {st with env:=DH st.env dst (.ii [])} Q
 |_=>False
theorem od(dst:Option Tmp)(op:Op)(st:St):Dm C K fr ops b n al l i dst op st true Q (.d (.bool true))=Bz C K fr ops b n al l i Q (Bb C K fr ((b+i)::fr.π) op dst st):=rfl
theorem oW(dst:Option Tmp)(op:Op)(st:St):Dm C K fr ops b n al l i dst op st false Q (.d (.bool false))=Bz C K fr ops b n al l i Q (Bb C K fr ((b+i)::fr.π) op dst st):=rfl
theorem oc(dst:Option Tmp)(op:Op):Dm C K fr ops b n al l i dst op ⟨e,h,bs,ds⟩ true Q (.d (.bool false))=HL C K fr ops b n al l (i+1) ⟨DH e dst (.ii []),h,bs,ds⟩ Q:=rfl
theorem oX(dst:Option Tmp)(op:Op):Dm C K fr ops b n al l i dst op ⟨e,h,bs,ds⟩ false Q (.d (.bool true))=HL C K fr ops b n al l (i+1) ⟨DH e dst (.ii []),h,bs,ds⟩ Q:=rfl
def Yr{dst:Option Tmp}{op:Op}{want:Bool}(a:t=true->Dm C K fr ops b n al l i dst op st want Q (.d (.bool true)))(h2:t=false->Dm C K fr ops b n al l i dst op st want Q (.d (.bool false))):Dm C K fr ops b n al l i dst op st want Q (.d (.bool t)):=by
 exact zCJ
def p7(dst:Option Tmp)(op:Op)(ty:TypeId)(pos:String)(af:Array Edge)(st:St):
 HL C K fr ops b n al (⟨dst,op,ty,pos,af,none⟩::l) i st Q=Bz C K fr ops b n al l i Q (Bb C K fr ((b+i)::fr.π) op dst st):=by
 rw[Xo];simp only[DB,Oh]
def BS(dst:Option Tmp)(op:Op)(r:Option C0):Bz C K fr ops b n al l i Q (EN fr op dst ⟨e,h,bs,ds⟩ r)=CX C K fr ops b n al l i dst e h bs ds Q r:=by
 cases r with
 |none=>rfl
 |some x=>
  simp only[EN,CX,LX,CU,Bd];cases c:LQ fr.ci x.δ with
  |false=>simp[Bz]
  |true=>
   simp only[US];have: ∀k:AD->Ib,ab h x.δ k=k (h.puts x.δ):=fun k=>by
    unfold ab;split
    .rename_i a;rw[a];rfl
    .simp only[BB]
   rw[this];simp only[Bz]
def Ny(dst:Option Tmp)(v:AV):CX C K fr ops b n al l i dst e h bs ds Q (some ⟨v,[]⟩)=HL C K fr ops b n al l (i+1) ⟨DH e dst v,h,bs,ds⟩ Q:=by
 have:LQ fr.ci []=true:=by cases a:fr.ci<;>rfl
 simp only[CX,this,US];rfl
theorem iq(dst:Option Tmp)(v:AV)(x:Id×Obj)(δ:AD):CX C K fr ops b n al l i dst e h bs ds Q (some ⟨v,x::δ⟩)=(LQ fr.ci (x::δ)=true/\HL C K fr ops b n al l (i+1) ⟨DH e dst v,h.puts (x::δ),bs,ds⟩ Q):=rfl
section
variable(dst:Option Tmp)(ρ:List Nat)
def ua(x:Operand):Bz C K fr ops b n al l i Q (Bb C K fr ρ (.move x) dst ⟨e,h,bs,ds⟩)=HL C K fr ops b n al l (i+1) ⟨DH e dst (ev e.get x),h,bs,ds⟩ Q:=by
 simp only[Bb,evalOp,BS,Ny]
def uY(x:Operand):Bz C K fr ops b n al l i Q (Bb C K fr ρ (.assign x) dst ⟨e,h,bs,ds⟩)=HL C K fr ops b n al l (i+1) ⟨DH e dst (ev e.get x),h,bs,ds⟩ Q:=by
 simp only[Bb,evalOp,BS,Ny]
def rv(c x y:Operand):Bz C K fr ops b n al l i Q (Bb C K fr ρ (.pick c x y) dst ⟨e,h,bs,ds⟩)=CX C K fr ops b n al l i dst e h bs ds Q (Pk (ev e.get c) (ev e.get x) (ev e.get y)):=by
 exact zAh
def zX(t:TypeId):Bz C K fr ops b n al l i Q (Bb C K fr ρ (.alloc t) dst ⟨e,h,bs,ds⟩)=CX C K fr ops b n al l i dst e h bs ds Q (LF ρ (C.T t)):=by
 exact zAh
def tx(t:TypeId)(x:Operand):Bz C K fr ops b n al l i Q (Bb C K fr ρ (.box t x) dst ⟨e,h,bs,ds⟩)=CX C K fr ops b n al l i dst e h bs ds Q (Sw ρ (ev e.get x) (C.T t)):=by
 exact zAh
def zZ(t:TypeId)(p:Array (Nat×Operand)):Bz C K fr ops b n al l i Q (Bb C K fr ρ (.build t p) dst ⟨e,h,bs,ds⟩)=CX C K fr ops b n al l i dst e h bs ds Q (LG (Fa e.get p) (C.T t)):=by
 exact zAh
def Yo(t:TypeId)(m:Nat)(p:Array (Nat×Operand)):Bz C K fr ops b n al l i Q (Bb C K fr ρ (.buildSlice t m p) dst ⟨e,h,bs,ds⟩)=CX C K fr ops b n al l i dst e h bs ds Q (DQ C.T h.get ρ m (Fa e.get p) (C.T t)):=by
 exact zAh
def AB4(t:TypeId)(a:Operand):Bz C K fr ops b n al l i Q (Bb C K fr ρ (.load t a) dst ⟨e,h,bs,ds⟩)=CX C K fr ops b n al l i dst e h bs ds Q (Mo h.get (ev e.get a) (C.T t)):=by
 exact zAh
def zi(t:TypeId)(a x:Operand):Bz C K fr ops b n al l i Q (Bb C K fr ρ (.store t a x) dst ⟨e,h,bs,ds⟩)=CX C K fr ops b n al l i dst e h bs ds Q (KG h.get (ev e.get a) (ev e.get x) (C.T t)):=by
 exact zAh
def gH(x:Operand):Bz C K fr ops b n al l i Q (Bb C K fr ρ (.nilCheck x) dst ⟨e,h,bs,ds⟩)=CX C K fr ops b n al l i dst e h bs ds Q (Hp (ev e.get x)):=by
 exact zAh
def zY(op:BinOp)(t:TypeId)(x y:Operand)(u:TypeId):Bz C K fr ops b n al l i Q (Bb C K fr ρ (.binOp op t x y u) dst ⟨e,h,bs,ds⟩)=CX C K fr ops b n al l i dst e h bs ds Q ((l8 (bw x||bw y) op (ev e.get x) (ev e.get y) (C.T t)).map (⟨·,[]⟩)):=by
 exact zAh
def uv(op:UnOp)(t:TypeId)(x:Operand):Bz C K fr ops b n al l i Q (Bb C K fr ρ (.unOp op t x) dst ⟨e,h,bs,ds⟩)=CX C K fr ops b n al l i dst e h bs ds Q (py op (ev e.get x)):=by
 exact zAh
def zb(t:TypeId)(x:Operand):Bz C K fr ops b n al l i Q (Bb C K fr ρ (.makeInterface t x) dst ⟨e,h,bs,ds⟩)=CX C K fr ops b n al l i dst e h bs ds Q (Mm t (ev e.get x) (C.T t)):=by
 exact zAh
def uX(x:Operand)(t u:TypeId):Bz C K fr ops b n al l i Q (Bb C K fr ρ (.typeAssert x t u true) dst ⟨e,h,bs,ds⟩)=CX C K fr ops b n al l i dst e h bs ds Q (Jm u (ev e.get x) (C.T u)):=by
 exact zAh
def gF(f:Fn)(first cap:Array Operand):Bz C K fr ops b n al l i Q (Bb C K fr ρ (.makeFunc f first cap) dst ⟨e,h,bs,ds⟩)=CX C K fr ops b n al l i dst e h bs ds Q (Ho f (first.toList.map (ev e.get)) (cap.toList.map (ev e.get))):=by
 exact zAh
def oT(t:TypeId)(r:Option Operand):Bz C K fr ops b n al l i Q (Bb C K fr ρ (.makeMap t r) dst ⟨e,h,bs,ds⟩)=CX C K fr ops b n al l i dst e h bs ds Q (Iz ρ r):=by
 exact zAh
def uZ(t:TypeId)(m k v:Operand):Bz C K fr ops b n al l i Q (Bb C K fr ρ (.insert t m k v) dst ⟨e,h,bs,ds⟩)=CX C K fr ops b n al l i dst e h bs ds Q (mapPut C.T h.get (C.T t) (ev e.get m) (ev e.get k) (ev e.get v)):=by
 exact zAh
def bg(t:TypeId)(m k v:Operand):Bz C K fr ops b n al l i Q (Bb C K fr ρ (.mapUpdate t m k v) dst ⟨e,h,bs,ds⟩)=CX C K fr ops b n al l i dst e h bs ds Q (mapPut C.T h.get (C.T t) (ev e.get m) (ev e.get k) (ev e.get v)):=by
 exact zAh
def uc(t:TypeId)(m k:Operand)(ok:Bool):Bz C K fr ops b n al l i Q (Bb C K fr ρ (.lookup t m k ok) dst ⟨e,h,bs,ds⟩)=CX C K fr ops b n al l i dst e h bs ds Q (Gw C.T h.get (ev e.get m) (ev e.get k) ok (C.T t)):=by
 exact zAh
def bf(t:TypeId)(x y:Operand):Bz C K fr ops b n al l i Q (Bb C K fr ρ (.makeSlice t x y) dst ⟨e,h,bs,ds⟩)=CX C K fr ops b n al l i dst e h bs ds Q (DY C.T h.get ρ (ev e.get x) (ev e.get y) (C.T t)):=by
 exact zAh
def zh(t:TypeId)(x:Operand)(c a f:Option Operand):Bz C K fr ops b n al l i Q (Bb C K fr ρ (.slice t x c a f) dst ⟨e,h,bs,ds⟩)=CX C K fr ops b n al l i dst e h bs ds Q (IM C.T h.get (ev e.get x) (c.map (ev e.get)) (a.map (ev e.get)) (f.map (ev e.get)) (C.T t)):=by
 exact zAh
def bb(t:TypeId)(x:Operand)(k:Nat):Bz C K fr ops b n al l i Q (Bb C K fr ρ (.fieldAddr t x k) dst ⟨e,h,bs,ds⟩)=CX C K fr ops b n al l i dst e h bs ds Q (Fs k (ev e.get x) (C.T t)):=by
 exact zAh
def bd(t:TypeId)(x y:Operand):Bz C K fr ops b n al l i Q (Bb C K fr ρ (.indexAddr t x y) dst ⟨e,h,bs,ds⟩)=CX C K fr ops b n al l i dst e h bs ds Q (Dq C.T h.get (ev e.get x) (ev e.get y) (C.T t)):=by
 exact zAh
def zf(t:TypeId)(x y:Operand):Bz C K fr ops b n al l i Q (Bb C K fr ρ (.index t x y) dst ⟨e,h,bs,ds⟩)=CX C K fr ops b n al l i dst e h bs ds Q (Mn (ev e.get x) (ev e.get y) (C.T t)):=by
 exact zAh
def oQ(x:Operand)(k:Nat):Bz C K fr ops b n al l i Q (Bb C K fr ρ (.extract x k) dst ⟨e,h,bs,ds⟩)=CX C K fr ops b n al l i dst e h bs ds Q (Iy k (ev e.get x)):=by
 exact zAh
def oO(f:Builtin)(az:Array Operand)(ts:Array TypeId):Bz C K fr ops b n al l i Q (Bb C K fr ρ (.call ⟨.builtin f,az,ts⟩) dst ⟨e,h,bs,ds⟩)=CX C K fr ops b n al l i dst e h bs ds Q (Hx C.T h.get ρ f (az.toList.map (ev e.get)) ts.toList):=by
 simp only[Bb,Lb,BS]
theorem zg(x:Operand):Bz C K fr ops b n al l i Q (Bb C K fr ρ (.panic x) dst ⟨e,h,bs,ds⟩)=Bz C K fr ops b n al l i Q (HZ ⟨e,h,bs,ds⟩ (ev e.get x)):=rfl
theorem za(c:Call):Bz C K fr ops b n al l i Q (Bb C K fr ρ (.defer c) dst ⟨e,h,bs,ds⟩)=Bz C K fr ops b n al l i Q (JJ fr e.get c dst ⟨e,h,bs,ds⟩):=rfl
def Ea(C:DJ)(K:Ab)(fr:Fr)(ops:Array Oper)(b n:Nat)(al:Nat->Bool)(l:List Oper)(i:Nat)(az:List AV)(dst:Option Tmp)(e:CA)(h:AD)(bs:Nat)(ds:List Df)(Q:Eh->St->Prop)(r:E (A8×AD)):Prop:=
 Bz C K fr ops b n al l i Q (EW fr az dst ⟨e,h,bs,ds⟩ r)
def UF(C:DJ)(K:Ab)(fr:Fr)(ops:Array Oper)(b n:Nat)(al:Nat->Bool)(l:List Oper)(i:Nat)(dst:Option Tmp)(ρ:List Nat)(e:CA)(h:AD)(bs:Nat)(ds:List Df)(Q:Eh->St->Prop)(args:List AV):AV->Prop
 |fv=>Bz C K fr ops b n al l i Q (FO C K fr ρ fv args dst ⟨e,h,bs,ds⟩)
theorem zj(f:Operand)(az:Array Operand)(ts:Array TypeId):Bz C K fr ops b n al l i Q (Bb C K fr ρ (.call ⟨.value f,az,ts⟩) dst ⟨e,h,bs,ds⟩)=UF C K fr ops b n al l i dst ρ e h bs ds Q (az.toList.map (ev e.get)) (ev e.get f):=rfl
def v5:A8×AD->A8×AD
 |(.ret v,h)=>(.ret v,h)
 |(.ge v,_)=>(.ge v,[])
def BX(K:Ab)(f:FuncId)(xs:List AV)(own:List Nat):E (A8×AD):=match K (.fn f) xs [] own false none with
 |.ok r=>.ok (v5 r)
 |.err l=>.err l
def sN{K:Ab}{f:FuncId}{b:List AV}{own:List Nat}{v:AV}{h:AD}(a:BX K f b own=.ok (.ret v,h)):K (.fn f) b [] own false none=.ok (.ret v,h):=by
 unfold BX at a;split at a
 .rename_i r c;obtain⟨o,h'⟩:=r;cases o with
  |ret e=>simp only[v5,E.ok.injEq]at a;rw[c,a]
  |ge e=>simp[v5]at a
 .cases a
def S3(fr:Fr)(az:List AV)(dst:Option Tmp)(st:St)(f:FuncId)(a:List AV)(own:List Nat):EW fr az dst st (K (.fn f) a [] own false none)=EW fr az dst st (BX K f a own):=by
 unfold BX;cases K (.fn f) a [] own false none with
 |err l=>rfl
 |ok r=>
  obtain⟨o,h⟩:=r;cases o<;>rfl
def M8(C:DJ)(K:Ab)(fr:Fr)(ops:Array Oper)(b n:Nat)(al:Nat->Bool)(l:List Oper)(i:Nat)(dst:Option Tmp)(ρ:List Nat)(e:CA)(h:AD)(bs:Nat)(ds:List Df)(Q:Eh->St->Prop)(f:FuncId)(az:List AV)(m:Mode):Prop:=
 Bz C K fr ops b n al l i Q (Ei K fr ρ f az dst ⟨e,h,bs,ds⟩ m)
def sY(f:FuncId)(first cap args:List AV):UF C K fr ops b n al l i dst ρ e h bs ds Q args (.fn f first cap)=M8 C K fr ops b n al l i dst ρ e h bs ds Q f (first++args++cap) (C.mode f):=by
 simp only[UF,M8,FO,Bn]
def oH(C:DJ)(K:Ab)(fr:Fr)(ops:Array Oper)(b n:Nat)(al:Nat->Bool)(l:List Oper)(i:Nat)(dst:Option Tmp)(ρ:List Nat)(e:CA)(h:AD)(bs:Nat)(ds:List Df)(Q:Eh->St->Prop)(f:FuncId)(az:List AV)(own:List Nat):Option (List AV)->Prop
 |some xs=>Ea C K fr ops b n al l i az dst e h bs ds Q (K (.fn f) xs [] own false none)
 |none=>False
def iV(f:FuncId)(az:List AV)(a:(E5 h.get az).isSome):M8 C K fr ops b n al l i dst ρ e h bs ds Q f az .auto=oH C K fr ops b n al l i dst ρ e h bs ds Q f az [] (E5 h.get az):=by
 obtain⟨c,a⟩:=I5.1 a;simp only[M8,Ei,a,Bn,oH,Ea]
def pk(f:FuncId)(az:List AV)(a:(E5 h.get az).isSome):M8 C K fr ops b n al l i dst ρ e h bs ds Q f az .own=oH C K fr ops b n al l i dst ρ e h bs ds Q f az ρ (E5 h.get az):=by
 obtain⟨c,a⟩:=I5.1 a;simp only[M8,Ei,a,Bn,oH,Ea]
def oI(f:FuncId)(az:List AV)(own:List Nat)(a:List AV):oH C K fr ops b n al l i dst ρ e h bs ds Q f az own (some a)=Ea C K fr ops b n al l i az dst e h bs ds Q (BX K f a own):=by
 simp only[oH,Ea,S3]
def iy(az:List AV)(v:AV)(h':AD)(a:flat v=true):Ea C K fr ops b n al l i az dst e h bs ds Q (.ok (.ret v,h'))=HL C K fr ops b n al l (i+1) ⟨DH e dst v,h,bs,ds⟩ Q:=by
 simp only[Ea,EW,Bd,a,Bz]
def qH(az:List AV)(v:AV)(h':AD)(a:flat v=true):Ea C K fr ops b n al l i az dst e h bs ds Q (.ok (.ge v,h'))=(al i=true/\Q (.ge v) ⟨e,h,b+n,ds⟩):=by
 simp only[Ea,EW,a,Bz]
def qF(az:List AV)(v:AV)(h':AD)(x:Id×Obj)(a:flat v=false)(c:CB v h'=some x):Ea C K fr ops b n al l i az dst e h bs ds Q (.ok (.ret v,h'))=HL C K fr ops b n al l (i+1) ⟨DH e dst v,x::h,bs,ds⟩ Q:=by
 simp only[Ea,EW,Bd,a,JQ,c,BB,Bz]
def qG(az:List AV)(v:AV)(h':AD)(a:flat v=false)(c:CB v h'=none):Ea C K fr ops b n al l i az dst e h bs ds Q (.ok (.ret v,h'))=(LQ fr.ci (az.flatMap (mark h.get))=true/\HL C K fr ops b n al l (i+1) ⟨DH e dst v,h'++h.puts (az.flatMap (mark h.get)),bs,ds⟩ Q):=by
 simp only[Ea,EW,Bd,a,JQ,c,BB,CU];cases f:LQ fr.ci (az.flatMap (mark h.get))<;>simp[Bz]
end
def jg(h:AD)(π:List Nat)(raw:Bool)(Post:A8->AD->Prop):Option AV->Prop
 |some v=>match raw with
  |true=>Post (.ret v) h
  |false=>match π with
   |[]=>match ZZ h.get v with
    |some v'=>Post (.ret v') []
    |none=>False
   |_=>Post (.ret v) h
 |none=>False
def VW(C:DJ)(e:CA)(h:AD)(rs:List ResultVar):Option AV:=match O9 (DW C ⟨e,h,0,[]⟩) rs with
 |some []=>some (.ii [])
 |some [v]=>some v
 |some vs=>some (.ii vs)
 |none=>none
def LZ(C:DJ)(rs:List ResultVar)(π:List Nat)(raw:Bool)(e:CA)(Post:A8->AD->Prop):E (Option AV×AD)->Prop
 |.ok (none,h)=>jg h π raw Post (VW C e h rs)
 |.ok (some v,h)=>Post (.ge v) h
 |.err _=>False
def K1(C:DJ)(ci:Option (List Nat))(rs:List ResultVar)(π:List Nat)(raw:Bool)(Post:A8->AD->Prop):Eh->St->Prop
 |.ret,st=>LZ C rs π raw st.env Post (Dw C ci st.defs none st.heap)
 |.normal,st=>LZ C rs π raw st.env Post (Dw C ci st.defs none st.heap)
 |.ge v,st=>LZ C rs π raw st.env Post (Dw C ci st.defs (some v) st.heap)
 |_,_=>False
def TL{f:FuncId}{fn:Func}{c:Code}{rs:List ResultVar}{args:List AV}{h:AD}{π:List Nat}{raw:Bool}{ci:Option (List Nat)}{Post:A8->AD->Prop}(s:C.i9 f=true)(q:P.funcs[f]? =some fn)(m:fn.body=some c)(w:fn.results.toList=rs)(t:Nat.ble args.length fn.ntmps=true)
 (A:Wp C (KL P C) {f,π,raw,ci,nt:=fn.ntmps} 0 c ⟨EE 0 args,h,0,[]⟩ (K1 C ci rs π raw Post)): ∃o h',KL P C (.fn f) args h π raw ci=.ok (o,h')/\Post o h':=by
 obtain⟨n,o,st',j,h2⟩:=A;subst w;have x: ∀b,KR C fn {st' with heap:=b}=VW C st'.env b fn.results.toList:=fun b=>by
  unfold KR VW;have e:DW C {st' with heap:=b}=DW C ⟨st'.env,b,0,[]⟩:=funext fun r=>by cases r<;>rfl
  rw[e];rfl
 have key: ∀z,LZ C fn.results.toList π raw st'.env Post z-> ∃o h',VK C f fn π raw st' z=.ok (o,h')/\Post o h':=by
  intro z a;cases z with
  |err l=>exact a.elim
  |ok r=>
   obtain⟨p,b⟩:=r;cases p with
   |some v=>exact⟨.ge v,b,rfl,a⟩
   |none=>
    simp only[LZ]at a;simp only[VK,x];cases g:VW C st'.env b fn.results.toList with
    |none=>rw[g]at a;exact a.elim
    |some v=>
     rw[g]at a;simp only[jg]at a;simp only[LX];cases raw with
     |true=>exact⟨_,_,rfl,a⟩
     |false=>
      simp only at a⊢;split at a
      .split at a
       .rename_i B y;rw[y];exact⟨_,_,rfl,a⟩
       .exact a.elim
      .exact⟨_,_,by split<;>first|rfl|contradiction,a⟩
 have i: ∃o' h',tM C ci f fn π raw (.ok (o,st'))=.ok (o',h')/\Post o' h':=by
  cases o with
  |exit k=>exact h2.elim
  |ret=>exact key _ h2
  |normal=>exact key _ h2
  |ge v=>exact key _ h2
 obtain⟨o',h',e,u⟩:=i;refine⟨o',h',gA s (n:=n) ?_,u⟩;unfold RF;simp only[q,m,t,j];exact e
variable{f:FuncId}{fn:Func}{c:Code}{rs:List ResultVar}{args:List AV}{π:List Nat}{raw:Bool}{ci:Option (List Nat)}
def m1{h:AD}{o:A8}{a:AD}(i:C.i9 f=true)(g:P.funcs[f]? =some fn)(b:fn.body=some c)(k:fn.results.toList=rs)(j:Nat.ble args.length fn.ntmps=true)
 (l:Wp C (KL P C) {f,π,raw,ci,nt:=fn.ntmps} 0 c ⟨EE 0 args,h,0,[]⟩ (K1 C ci rs π raw fun o' h'=>o'=o/\h'=a)):KL P C (.fn f) args h π raw ci=.ok (o,a):=by
 obtain⟨o',h',e,rfl,rfl⟩:=TL i g b k j l;exact e
def hV{r:A8×AD}(g:C.i9 f=true)(b:P.funcs[f]? =some fn)(a:fn.body=some c)(i:fn.results.toList=rs)(h:Nat.ble args.length fn.ntmps=true)
 (j:Wp C (KL P C) {f,π,raw:=false,ci:=none,nt:=fn.ntmps} 0 c ⟨EE 0 args,[],0,[]⟩ (K1 C none rs π false fun o' h'=>v5 (o',h')=r)):BX (KL P C) f args π=.ok r:=by
 obtain⟨o',h',e,h2⟩:=TL g b a i h j;unfold BX;rw[e,<-h2]
def BR{f:FuncId}{fn:Func}{c:Code}{rs:List ResultVar}{args:List AV}{h:AD}{π:List Nat}{raw:Bool}{ci:Option (List Nat)}{Post:A8->AD->Prop}{nt:Nat}(b:P.funcs[f]? =some fn)(k:Wp C (KL P C) {f,π,raw,ci,nt} 0 c ⟨EE 0 args,h,0,[]⟩ (K1 C ci rs π raw Post))(a:fn.body=some c:=by rfl)(j:fn.results=rs.toArray:=by rfl)(i:fn.ntmps=nt:=by rfl)(e:C.i9 f=true:=by rfl)(g:Nat.ble args.length fn.ntmps=true:=by rfl): ∃o h',KL P C (.fn f) args h π raw ci=.ok (o,h')/\Post o h':=by
 subst i;exact TL e b a (by simp[j]) g k
def Az{f:FuncId}{fn:Func}{c:Code}{rs:List ResultVar}{args:List AV}{π:List Nat}{r:A8×AD}{nt:Nat}(b:P.funcs[f]? =some fn)(j:Wp C (KL P C) {f,π,raw:=false,ci:=none,nt} 0 c ⟨EE 0 args,[],0,[]⟩ (K1 C none rs π false fun o' h'=>v5 (o',h')=r))(a:fn.body=some c:=by rfl)(i:fn.results=rs.toArray:=by rfl)(h:fn.ntmps=nt:=by rfl)(e:C.i9 f=true:=by rfl)(g:Nat.ble args.length fn.ntmps=true:=by rfl):BX (KL P C) f args π=.ok r:=by
 subst h;exact hV e b a (by simp[i]) g j
abbrev nI(x:Int):AV:=.d (.int .i64 x)
theorem sa(v:AV)(h:AD):v5 (.ret v,h)=(.ret v,h):=rfl
theorem AAM(v:AV)(h:AD):v5 (.ge v,h)=(.ge v,[]):=rfl
def Nm(C:DJ)(K:Ab)(fr:Fr)(b:Nat)(x:Code)(Q:Eh->St->Prop):Eh->St->Prop
 |.normal,st=>Wp C K fr b (.loop x) st Q
 |o,st=>Q o st
def Tq(C:DJ)(K:Ab)(fr:Fr)(b:Nat)(x:Code)(st:St)(Q:Eh->St->Prop):Prop:=Wp C K fr b x st (Nm C K fr b x Q)
def m7(x:Code)(st:St):Wp C K fr b (.loop x) st Q=Tq C K fr b x (Fq C fr b st) Q:=by
 refine propext ⟨fun⟨n,o,st',h,hq⟩=>?_,fun⟨n,o,st',h,hq⟩=>?_⟩
 .cases n with
  |zero=>simp[Bo]at h
  |succ n=>
   simp only[Bo,MY]at h;cases a:Bo C K fr n b x (Fq C fr b st)with
   |err e=>rw[a]at h;cases h
   |ok r=>
    exact zBv
 .cases o with
  |normal=>
   obtain⟨m,g,j,h2,f⟩:=hq;refine⟨max n m+1,g,j,?_,f⟩;simp only[Bo,MY,Od h (Lw n m),EU,Od h2 (NO n m)]
  |_=>exact⟨n+1,_,st',by simp only[Bo,MY,h,EU],hq⟩
theorem Y1(x:Code)(st:St):Nm C K fr b x Q .normal st=Wp C K fr b (.loop x) st Q:=rfl
theorem gy(x:Code)(k:Nat)(st:St):Nm C K fr b x Q (.exit k) st=Q (.exit k) st:=rfl
theorem pJ(x:Code)(st:St):Nm C K fr b x Q .ret st=Q .ret st:=rfl
theorem pH(x:Code)(v:AV)(st:St):Nm C K fr b x Q (.ge v) st=Q (.ge v) st:=rfl
theorem Dj(x:Code)(st:St):Tq C K fr b x st Q=Wp C K fr b x st (Nm C K fr b x Q):=rfl
structure AH(p:Prop):Prop where
 out:p
def AB{p:Prop}(h:p):AH p:=⟨h⟩
variable{α:Type}
def rounds{x:Code}(S:α->St)(Inv:α->Prop)(m:α->Nat)(a:α)(e:Inv a)(step: ∀a,Inv a->AH (∀c,m c<m a->Inv c->Tq C K fr b x (S c) Q)->Wp C K fr b x (S a) (Nm C K fr b x Q)):Tq C K fr b x (S a) Q:=by
 suffices h: ∀k a,m a<k->Inv a->Tq C K fr b x (S a) Q from h _ a (Nat.lt_succ_self _) e
 intro k;induction k with
 |zero=>intro a f;omega
 |succ k i=>exact fun a f g=>step a g ⟨fun c j h2=>i c AA h2⟩
variable{P:Program}{C:DJ}{K:Ab}{fr:Fr}{b n i:Nat}{Q:Eh->St->Prop}
variable{ops:Array Oper}{al:Nat->Bool}{l:List Oper}{e:CA}{h:AD}{bs:Nat}{ds:List Df}{ps:List (Nat×Nat)}{fps:List Fp}
def Mf(e:CA):Option (Option Tmp)->AV
 |some (some t)=>e.get t
 |_=>.undef
def Rn(ops:Array Oper)(e:CA)(j:Nat):AV:=Mf e ((ops[j]?).map (·.dst))
theorem bn(e:CA)(t:Tmp):Mf e (some (some t))=e.get t:=rfl
def gM(l:List Oper)(e:CA)(j:Nat):Rn l.toArray e j=Mf e ((l[j]?).map (·.dst)):=by
 simp only[Rn,On]
def w9(dst:Option Tmp)(op:Op)(ty:TypeId)(pos:String)(af:Array Edge)(j:Nat)(want:Bool):
 HL C K fr ops b n al (⟨dst,op,ty,pos,af,some (j,want)⟩::l) i ⟨e,h,bs,ds⟩ Q=Dm C K fr ops b n al l i dst op ⟨e,h,bs,ds⟩ want Q (Rn ops e j):=by
 rw[Xo];simp only[DB,Oh,Rn];cases f:ops[j]? with
 |none=>simp[Mf,Dm,Bz]
 |some o=>
  cases a:o.dst with
  |none=>simp[Mf,Dm,Bz,a]
  |some t=>
   simp only[I2,a,F3,Mf];cases g:CA.get e t with
   |d x=>cases x with
    |bool c=>
     simp only[Dm];cases(c==want)<;>simp only[Bz,Bd]
    |_=>rfl
   |ii vs=>cases vs<;>simp only[Dm,Bz,Bd]
   |_=>rfl
def get_cons(k:Nat)(v:AV)(e:CA)(t:Nat):CA.get ((k,v)::e) t=if k=t then v else CA.get e t:=by
 rw[CA.get];cases h:Nat.beq k t with
 |true=>rw[D4 (D8 h)]
 |false=>rw[Ci (Qr h)]
theorem qL(e:CA)(t:Tmp)(v:AV):DH e (some t) v=(t,v)::e:=rfl
theorem qK(e:CA)(v:AV):DH e none v=e:=rfl
theorem uG(e:Nat->AV)(t:Tmp):ev e (.tmp t)=e t:=rfl
theorem yr(e:Nat->AV)(f:FuncId):ev e (.func f)=.fn f [] []:=rfl
theorem ABq(e:Nat->AV)(k:IntKind)(m:Int):ev e (.const (.int k m))=.d (.int k m):=rfl
theorem yq(e:Nat->AV)(c:Bool):ev e (.const (.bool c))=.d (.bool c):=rfl
theorem nH(e:Nat->AV)(s:ByteArray):ev e (.const (.string s))=.d (.str s):=rfl
theorem yz(e:Nat->AV):ev e (.const (.slice none 0 0))=.d7:=rfl
theorem yx(e:Nat->AV):ev e (.const (.pointer none))=.d .wl:=rfl
theorem yu(e:Nat->AV):ev e (.const .nilFunc)=.d .kw:=rfl
theorem yv(e:Nat->AV):ev e (.const .nilIface)=.d .rc:=rfl
theorem yw(e:Nat->AV):ev e (.const (.map none))=.d .wd:=rfl
def eD(δ:AD):LQ none δ=true:=by cases δ<;>rfl
theorem lA(k:IntKind)(a c:Int):HK .add k a c=some (.d (.int k (k.wrap (a+c)))):=rfl
theorem w4(k:IntKind)(a c:Int):HK .sub k a c=some (.d (.int k (k.wrap (a-c)))):=rfl
theorem uC(k:IntKind)(a c:Int):HK .mul k a c=some (.d (.int k (k.wrap (a*c)))):=rfl
def ti(k:IntKind)(a c:Int):HK .eql k a c=some (.d (.bool (decide (a=c)))):=by
 simp only[HK];congr
def q7(k:IntKind)(a c:Int):HK .neq k a c=some (.d (.bool (!decide (a=c)))):=by
 simp only[HK];congr
theorem ADW(k:IntKind)(a c:Int):HK .lss k a c=some (.d (.bool (decide (a<c)))):=rfl
theorem nY(k:IntKind)(a c:Int):HK .leq k a c=some (.d (.bool (decide (a<=c)))):=rfl
theorem lX(k:IntKind)(a c:Int):HK .gtr k a c=some (.d (.bool (decide (c<a)))):=rfl
theorem w7(k:IntKind)(a c:Int):HK .geq k a c=some (.d (.bool (decide (c<=a)))):=rfl
theorem m0(k:IntKind)(a c:Int):HK .rem k a c=if c=0 then none else some (.d (.int k (a.tmod c))):=rfl
def m2(op:BinOp)(k:IntKind)(a c:Int)(t:Option TI):Im op (.d (.int k a)) (.d (.int k c)) t=HK op k a c:=by
 simp only[Im,F6]
variable{st:St}
def mY{x y:Code}{p:Prop} [Decidable p](c:p->Wp C K fr b x st Q)(h2: ¬p->Wp C K fr b y st Q):NR C K fr b x y st Q (.d (.bool (decide p))):=by
 exact zBB
def mZ(x y:Code)(st:St)(t:Bool):NR C K fr b x y st Q (.d (.bool (!t)))=NR C K fr b y x st Q (.d (.bool t)):=by
 cases t<;>rfl
variable{dst:Option Tmp}{want:Bool}
def gK{op:Op}{p:Prop} [Decidable p](c:p->Dm C K fr ops b n al l i dst op st want Q (.d (.bool true)))(h2: ¬p->Dm C K fr ops b n al l i dst op st want Q (.d (.bool false))):Dm C K fr ops b n al l i dst op st want Q (.d (.bool (decide p))):=by
 exact zBB
theorem gL(dst:Option Tmp)(op:Op)(want:Bool):Dm C K fr ops b n al l i dst op ⟨e,h,bs,ds⟩ want Q (.ii [])=HL C K fr ops b n al l (i+1) ⟨DH e dst (.ii []),h,bs,ds⟩ Q:=rfl
def tF(C:DJ)(K:Ab)(fr:Fr)(ops:Array Oper)(b n id:Nat)(l:List Oper)(st:St)(Q:Eh->St->Prop):List (Nat×Nat)->Prop
 |[]=>HL C K fr ops b n (fun i=>C.alone fr.f id i) l 0 st Q
 |p::ps=>H0 C K fr ops b n (fun i=>C.alone fr.f id i) (p::ps) [] l 0 st Q
def xy(id:Nat)(ops:Array Oper)(e:CA)(h:AD)(bs:Nat)(ds:List Df):Wp C K fr b (.region id ops true) ⟨e,h,bs,ds⟩ Q=tF C K fr ops bs ops.size id ops.toList ⟨e,h,bs,ds⟩ Q (C.d9 fr.f id):=by
 cases a:C.d9 fr.f id with
 |nil=>rw[xx id ops e h bs ds a];rfl
 |cons p ps=>rw[ni id ops e h bs ds a];rfl
theorem mr(id:Nat)(st:St):tF C K fr ops b n id l st Q []=HL C K fr ops b n (fun i=>C.alone fr.f id i) l 0 st Q:=rfl
theorem fQ(id:Nat)(st:St)(p:Nat×Nat):tF C K fr ops b n id l st Q (p::ps)=H0 C K fr ops b n (fun i=>C.alone fr.f id i) (p::ps) [] l 0 st Q:=rfl
variable{Post:A8->AD->Prop}
theorem tP:K1 C ci rs π raw Post .ret ⟨e,h,bs,ds⟩=LZ C rs π raw e Post (Dw C ci ds none h):=rfl
theorem aZ:K1 C ci rs π raw Post .normal ⟨e,h,bs,ds⟩=LZ C rs π raw e Post (Dw C ci ds none h):=rfl
theorem tN(v:AV):K1 C ci rs π raw Post (.ge v) ⟨e,h,bs,ds⟩=LZ C rs π raw e Post (Dw C ci ds (some v) h):=rfl
theorem o8(ci:Option (List Nat))(p:Option AV)(h:AD):Dw C ci [] p h=.ok (p,h):=rfl
theorem U1(ci:Option (List Nat))(p:Option AV)(h:AD)(id:Id)(l:List Df):Dw C ci (.mark id::l) p h=Dw C ci l p h:=rfl
theorem gd:LZ C rs π raw e Post (.ok (none,h))=jg h π raw Post (VW C e h rs):=rfl
theorem gZ(v:AV):LZ C rs π raw e Post (.ok (some v,h))=Post (.ge v) h:=rfl
theorem xp(v:AV):jg h π true Post (some v)=Post (.ret v) h:=rfl
theorem xm{k:Nat}(v:AV):jg h (k::π) false Post (some v)=Post (.ret v) h:=rfl
def zP(Post:A8->AD->Prop):Option AV->Prop
 |some v=>Post (.ret v) []
 |none=>False
def xl(v:AV):jg h [] false Post (some v)=zP Post (ZZ h.get v):=by
 simp only[jg];cases ZZ h.get v<;>rfl
theorem oJ(v:AV):zP Post (some v)=Post (.ret v) []:=rfl
theorem qa:VW C e h []=some (.ii []):=rfl
theorem wo(t:Tmp):VW C e h [.tmp t]=some (e.get t):=rfl
def qZ(r a:ResultVar)(rs:List ResultVar):VW C e h (r::a::rs)=(O9 (DW C ⟨e,h,0,[]⟩) (r::a::rs)).map .ii:=by
 unfold VW;simp only[O9];cases DW C ⟨e,h,0,[]⟩ r with
 |none=>rfl
 |some y=>cases DW C ⟨e,h,0,[]⟩ a with
  |none=>rfl
  |some z=>cases O9 (DW C ⟨e,h,0,[]⟩) rs<;>rfl
def qY(a:Tmp)(t:TypeId):VW C e h [.cell a t]=(C.T t).bind fun i=>Kk h.get i (e.get a):=by
 unfold VW;simp only[O9,DW];cases(C.T t).bind fun i=>Kk h.get i (e.get a)<;>rfl
theorem WJ(t:Tmp):DW C ⟨e,h,bs,ds⟩ (.tmp t)=some (e.get t):=rfl
theorem VX(a:Tmp)(t:TypeId):DW C ⟨e,h,bs,ds⟩ (.cell a t)=(C.T t).bind fun i=>Kk h.get i (e.get a):=rfl
variable{β:Type}
theorem vQ(f:α->Option β):O9 f []=some []:=rfl
def pQ(f:α->Option β)(x:α)(l:List α):O9 f (x::l)=(f x).bind fun y=>(O9 f l).map (y:: ·):=by
 simp only[O9];cases f x with
 |none=>rfl
 |some y=>cases O9 f l<;>rfl
def oZ(dst:Option Tmp)(op:Op)(st:St)(t:Bool):Dm C K fr ops b n al l i dst op st true Q (.d (.bool (!t)))=Dm C K fr ops b n al l i dst op st false Q (.d (.bool t)):=by
 cases t<;>rfl
def oY(dst:Option Tmp)(op:Op)(st:St)(t:Bool):Dm C K fr ops b n al l i dst op st false Q (.d (.bool (!t)))=Dm C K fr ops b n al l i dst op st true Q (.d (.bool t)):=by
 cases t<;>rfl
theorem zW(g:G)(vs:List AV):ZZ g (.ii vs)=(E5 g vs).map .ii:=rfl
theorem n7(g:G)(x:Al):ZZ g (.d x)=some (.d x):=rfl
theorem zQ(g:G)(cs:List AV):ZZ g (.agg cs)=(IK g cs).map .agg:=rfl
theorem uV(g:G):ZZ g .d7=some (.d (.bv [])):=rfl
theorem zR(g:G):ZZ g .emp=some (.d (.bv [])):=rfl
theorem zU(g:G)(id:Id)(off m:Nat):ZZ g (.f8 id off m)=(C9 g (.f8 id off m)).map .d:=rfl
def is_self: ∀(a:Id),Id.is a a=true
 |[]=>rfl
 |n::l=>by simp[Id.is,is_self l]
def zw(n m:Nat)(l k:Id):Id.is (n::l) (m::k)=if n=m then Id.is l k else false:=by
 rw[Id.is];cases h:Nat.beq n m with
 |true=>rw[D4 (D8 h)]
 |false=>rw[Ci (Qr h)]
theorem b9(m:Nat)(k:Id):Id.is [] (m::k)=false:=rfl
theorem bz(m:Nat)(k:Id):Id.is (m::k) []=false:=rfl
theorem ur(id:Id):AD.get [] id=none:=rfl
def CL(k:Id)(o:Obj)(h:AD)(id:Id):AD.get ((k,o)::h) id=if Id.is k id=true then some o else AD.get h id:=by
 rw[AD.get];cases Id.is k id<;>rfl
theorem kx(id:Id)(o:Obj):AD.put [] id o=[(id,o)]:=rfl
def dI(k:Id)(x:Obj)(h:AD)(id:Id)(o:Obj):AD.put ((k,x)::h) id o=if Id.is k id=true then(k,o)::h else(k,x)::AD.put h id o:=by
 rw[AD.put];cases Id.is k id<;>rfl
theorem puts_cons(h:AD)(p:Id×Obj)(δ:AD):AD.puts h (p::δ)=AD.puts (h.put p.1 p.2) δ:=rfl
theorem puts_nil(h:AD):AD.puts h []=h:=rfl
def YQ(π:List Nat)(e:CA)(h:AD)(l:List Id):St:=
 {env:=e.map fun p=>(p.1,ren (Er π l 0) p.2),heap:=EF h (Er π l 0) l,base:=l.length,defs:=[]}
def Fz:CA->List Id
 |[]=>[]
 |p::e=>AE p.2++Fz e
def zo(e:CA):(e.flatMap fun p=>AE p.2)=Fz e:=by
 induction e with
 |nil=>rfl
 |cons p e a=>rw[EM,a];rfl
def Kj(e:CA):List Nat->CA
 |[]=>[]
 |t::l=>(t,e.get t)::Kj e l
def U3(e:CA)(l:List Nat):(l.map fun t=>(t,e.get t))=Kj e l:=by
 induction l with
 |nil=>rfl
 |cons p e a=>rw[By,a];rfl
def PN(π:List Nat)(h:AD)(e:CA):St:=YQ π e h (Cw h 1000 (GX [] (Fz e)) 0)
def Lo(f:FuncId)(π:List Nat)(ci:Option (List Nat))(a:Bool)(nt:Nat):Fq C ⟨f,π,false,ci,a,nt⟩ b ⟨e,h,bs,[]⟩=PN π h (Kj e (C.live f b)):=by
 simp only[Fq,U3,zo,PN,YQ];rfl
def mL(f:FuncId)(π:List Nat)(ci:Option (List Nat))(a:Bool)(nt:Nat):Fq C ⟨f,π,true,ci,a,nt⟩ b ⟨e,h,bs,ds⟩=⟨Kj e (C.live f b),h,bs,ds⟩:=by
 simp only[Fq,U3];rfl
def eo(d:Df):Fq C fr b ⟨e,h,bs,d::ds⟩=⟨Kj e (C.live fr.f b),h,bs,d::ds⟩:=by
 simp only[Fq,U3,List.isEmpty_cons,PM,T6,F6]
def sB(l:List Id)(id:Id):M6 l id=if (l.any (Id.is id))=true then l else l++[id]:=by
 rw[M6];cases l.any (Id.is id)<;>rfl
theorem wj(h:AD)(n:Nat)(l:List Id)(i:Nat):Cw h (n+1) l i=match l[i]? with
 |some id=>Cw h n (GX l (Ep (h.get id))) (i+1)
 |none=>l:=rfl
def Vi(id:Id):Nat:=match id with|0::_=>0|_=>1
def VC(π:List Nat)(x:Id)(r:List Id)(n:Nat)(id:Id):Er π (x::r) n id=if Id.is x id=true then some (Vi id::n::π)else Er π r (n+1) id:=by
 have:Er π (x::r) n id=match Id.is x id with|true=>some (Vi id::n::π)|false=>Er π r (n+1) id:=by
  conv=>lhs;unfold Er
  unfold Vi;cases id with
  |nil=>rfl
  |cons a l=>cases a<;>rfl
 rw[this];cases Id.is x id<;>rfl
theorem rE(l:Id):Vi (0::l)=0:=rfl
theorem qz(l:Id):Vi (1::l)=1:=rfl
def U5(sz:Nat):Option (List Al)->Option C0
 |some c=>if c.length=sz then some ⟨.rg c,[]⟩else none
 |none=>none
def zp(g:G)(m:Int)(es:List (List Al))(j:TI)(a:0<=m):PH g m (.d (.bv es)) j=U5 j.size es[m.toNat]? :=by
 simp only[PH,D4 a];cases es[m.toNat]? with
 |none=>rfl
 |some c=>
  simp only[U5];cases h:Nat.beq c.length j.size with
  |true=>rw[D4 (D8 h)]
  |false=>rw[Ci (Qr h)]
def zq(g:G)(m:Int)(id:Id)(off len:Nat)(j:TI)(a:0<=m):PH g m (.f8 id off len) j=if m.toNat<len then(match g id with
        |some (.em sz es)=>if sz=j.size/\off+m.toNat<es.length then some ⟨.jp id (off+m.toNat) 0,[]⟩else none
        |some (.i7 sz es)=>if sz=j.size/\off+m.toNat<es.length then some ⟨.jp id (off+m.toNat) 0,[]⟩else none
        |some (.arr sz es)=>if sz=j.size/\off+m.toNat<es.length then some ⟨.jp id (off+m.toNat) 0,[]⟩else none
        |_=>none)else none:=by
 simp only[PH,D4 a];rfl
theorem pN(sz:Nat)(c:List Al):U5 sz (some c)=if c.length=sz then some ⟨.rg c,[]⟩else none:=rfl
variable{j:Nat}
def qC{s:ByteArray}{f:UInt8->C0}(a:j<s.data.toList.length)(c: ∀x,s.data.toList[j]? =some x->CX C K fr ops b n al l i dst e h bs ds Q (some (f x))):CX C K fr ops b n al l i dst e h bs ds Q (Option.map f s.data.toList[j]?):=by
 have:=c s.data.toList[j] (CO a)
 rwa [CO a]
def qB{f:α->List Al}{a:List α}{sz:Nat}(c:j<a.length)(g: ∀x,a[j]? =some x->CX C K fr ops b n al l i dst e h bs ds Q (U5 sz (some (f x)))):CX C K fr ops b n al l i dst e h bs ds Q (U5 sz (Option.map f a[j]?)):=by
 have:=g a[j] (CO c)
 rwa [CO c]
theorem lG(g:G)(x:Al):FQ g (.d x)=some x:=rfl
theorem nr(g:G):FQ g .d7=some (.bv []):=rfl
theorem tw(g:G):FQ g .emp=some (.bv []):=rfl
theorem ov(g:G)(x:Al):C9 g (.d x)=some x:=rfl
theorem nx(g:G):C9 g .d7=some (.bv []):=rfl
theorem uH(g:G):C9 g .emp=some (.bv []):=rfl
theorem uJ(g:G)(id:Id)(off:Nat):C9 g (.ptr id off)=none:=rfl
theorem zM(g:G)(id:Id):C9 g (.mp id)=none:=rfl
theorem uK(g:G)(id:Id):C9 g (.wt id)=none:=rfl
theorem zL(g:G)(f:FuncId)(a c:List AV):C9 g (.fn f a c)=none:=rfl
def ba(g:G)(off m:Nat):Option Obj->Option Al
 |some (.arr _ es)=>(C7 g es).bind fun ds=>(K2 ds off m).map .bv
 |some (.em _ es)=>(K2 es off m).map .bv
 |some (.i7 _ es)=>(K2 es off m).map .bv
 |_=>none
def uI(g:G)(id:Id)(off m:Nat):C9 g (.f8 id off m)=ba g off m (g id):=by
 simp only[C9,FQ];cases h:g id with
 |none=>rfl
 |some o=>cases o with
  |arr sz es=>
   simp only[ba];cases C7 g es<;>rfl
  |_=>rfl
theorem oE(g:G)(off m sz:Nat)(es:List (List AV)):ba g off m (some (.arr sz es))=(C7 g es).bind fun ds=>(K2 ds off m).map .bv:=rfl
theorem gD(g:G)(off m sz:Nat)(es:List (List Al)):ba g off m (some (.em sz es))=(K2 es off m).map .bv:=rfl
theorem oG(g:G)(off m sz:Nat)(es:List (List Al)):ba g off m (some (.i7 sz es))=(K2 es off m).map .bv:=rfl
theorem ny(g:G):IK g []=some []:=rfl
def Ke:Option Al->Option (List AV)->Option (List AV)
 |some x,some xs=>some (.d x::xs)
 |_,_=>none
theorem bU(x:Al)(a:List AV):Ke (some x) (some a)=some (.d x::a):=rfl
theorem bT(a:Option (List AV)):Ke none a=none:=rfl
def fw(g:G)(v:AV)(vs:List AV):IK g (v::vs)=Ke (C9 g v) (IK g vs):=by
 simp only[IK];cases C9 g v<;>cases IK g vs<;>rfl
def Sn:Option AV->Option (List AV)->Option (List AV)
 |some x,some xs=>some (x::xs)
 |_,_=>none
theorem fy(x:AV)(a:List AV):Sn (some x) (some a)=some (x::a):=rfl
theorem fx(a:Option (List AV)):Sn none a=none:=rfl
def bX(x:Option AV):Sn x none=none:=zFo
def uR(g:G):E5 g []=some []:=by simp only[E5]
def oC(g:G)(v:AV)(vs:List AV):E5 g (v::vs)=Sn (Fc g v) (E5 g vs):=by
 simp only[E5];cases Fc g v<;>cases E5 g vs<;>rfl
theorem m8(g:G)(x:Al):Fc g (.d x)=some (.d x):=rfl
theorem tm(g:G)(cs:List AV):Fc g (.agg cs)=(IK g cs).map .agg:=rfl
theorem nq(g:G):Fc g .d7=some (.d (.bv [])):=rfl
theorem tn(g:G):Fc g .emp=some (.d (.bv [])):=rfl
theorem tr(g:G)(id:Id)(off:Nat):Fc g (.ptr id off)=none:=rfl
theorem zK(g:G)(id:Id):Fc g (.mp id)=none:=rfl
theorem tu(g:G)(id:Id):Fc g (.wt id)=none:=rfl
theorem zJ(g:G)(f:FuncId):Fc g (.fn f [] [])=some (.fn f [] []):=rfl
theorem tq(g:G)(id:Id)(off m:Nat):Fc g (.f8 id off m)=(C9 g (.f8 id off m)).map .d:=rfl
theorem bK(g:G)(t:TypeId)(cs:List AV):Fc g (.iface t (.agg cs))=(IK g cs).map fun c=>.iface t (.agg c):=rfl
theorem bL(g:G)(t:TypeId)(x:Al):Fc g (.iface t (.d x))=some (.iface t (.d x)):=rfl
def rA(x:Al):flat (.d x)=FX x:=zFo
def np:flat .d7=true:=by simp[flat]
def td:flat .emp=true:=by simp[flat]
def tc(cs:List AV):flat (.agg cs)=HG cs:=by cases cs<;>rfl
def tg(cs:List AV):flat (.ii cs)=HG cs:=by cases cs<;>rfl
def te(id:Id)(off m:Nat):flat (.f8 id off m)=false:=by cases id<;>rfl
def tf(id:Id)(off:Nat):flat (.ptr id off)=false:=by cases id<;>rfl
def a9(t:TypeId)(cs:List AV):flat (.iface t (.agg cs))=HG cs:=by cases cs<;>rfl
def bB(t:TypeId)(x:Al):flat (.iface t (.d x))=FX x:=zFo
theorem nj:HG []=true:=rfl
theorem zF(x:Al)(vs:List AV):HG (.d x::vs)=(FX x&&HG vs):=rfl
def nh(x:List AV)(vs:List AV):HG (.agg x::vs)=false:=by simp only[HG]
def nk(id:Id)(off m:Nat)(vs:List AV):HG (.f8 id off m::vs)=false:=by simp only[HG]
def fg(vs:List AV):HG (.d7::vs)=false:=by simp only[HG]
def zH(id:Id):flat (.mp id)=false:=by simp only[flat]
def zG(f:FuncId)(a c:List AV):flat (.fn f a c)=false:=by simp only[flat]
def aq(vs:List AV)(h:AD):CB (.ii vs) h=none:=zFA
def ak(vs:List AV)(h:AD):CB (.agg vs) h=none:=zFA
def ao(id:Id)(off:Nat)(h:AD):CB (.ptr id off) h=none:=zFA
def fY(id:Id)(h:AD):CB (.mp id) h=none:=zFA
def nV(x:Al)(h:AD):CB (.d x) h=none:=zFA
def fX(f:FuncId)(a c:List AV)(h:AD):CB (.fn f a c) h=none:=zFA
theorem nZ(k:IntKind)(m:Int):FX (.int k m)=true:=rfl
theorem fZ(c:Bool):FX (.bool c)=true:=rfl
theorem nf(c:ByteArray):FX (.str c)=true:=rfl
theorem nd(c:List (List Al)):FX (.bv c)=false:=rfl
theorem ff:FX .wl=true:=rfl
theorem fc:FX .rc=true:=rfl
theorem fb:FX .kw=true:=rfl
theorem fe:FX .wd=true:=rfl
theorem mO(cs:List AV):AV.cells (.agg cs)=cs:=rfl
theorem yW(x:Al):AV.cells (.d x)=[.d x]:=rfl
theorem ez:AV.cells .d7=[.d7]:=rfl
theorem mR:AV.cells .emp=[.emp]:=rfl
theorem mU(id:Id)(off m:Nat):AV.cells (.f8 id off m)=[.f8 id off m]:=rfl
theorem mV(id:Id)(off:Nat):AV.cells (.ptr id off)=[.ptr id off]:=rfl
theorem ew(id:Id)(k off:Nat):AV.cells (.jp id k off)=[.jp id k off]:=rfl
theorem sq(f:FuncId)(a c:List AV):AV.cells (.fn f a c)=[.fn f a c]:=rfl
theorem sr(id:Id):AV.cells (.mp id)=[.mp id]:=rfl
theorem Z7(t:TypeId)(v:AV):AV.cells (.iface t v)=[.iface t v]:=rfl
theorem ey(c:List Al):AV.cells (.rg c)=[.rg c]:=rfl
theorem ABn(x:Al):AV.isCell (.d x)=true:=rfl
theorem mN:AV.isCell .d7=true:=rfl
theorem sj:AV.isCell .emp=true:=rfl
theorem sk(id:Id)(off m:Nat):AV.isCell (.f8 id off m)=true:=rfl
theorem sn(id:Id)(off:Nat):AV.isCell (.ptr id off)=true:=rfl
theorem mM(id:Id)(k off:Nat):AV.isCell (.jp id k off)=true:=rfl
theorem yU(f:FuncId)(a c:List AV):AV.isCell (.fn f a c)=true:=rfl
theorem yV(id:Id):AV.isCell (.mp id)=true:=rfl
theorem eu(t:TypeId)(v:AV):AV.isCell (.iface t v)=true:=rfl
def ACr(a c:List AV)(i:TI):Im .eql (.agg a) (.agg c) (some i)=(JV i.kind (.agg a) (.agg c)).map fun t=>.d (.bool t):=by
 simp only[Im];cases JV i.kind (.agg a) (.agg c)<;>rfl
def o3(a c:List AV)(i:TI):Im .neq (.agg a) (.agg c) (some i)=(JV i.kind (.agg a) (.agg c)).map fun t=>.d (.bool (!t)):=by
 simp only[Im];cases JV i.kind (.agg a) (.agg c)<;>rfl
theorem ly(ks:List TK)(a c:List AV):JV (.flat ks) (.agg a) (.agg c)=Fv ks a c:=rfl
theorem Z6:Fv [] [] []=some true:=rfl
def YW:Option Bool->Option Bool->Option Bool
 |some a,some c=>some (a&&c)
 |_,_=>none
theorem lh(a c:Bool):YW (some a) (some c)=some (a&&c):=rfl
def YT(t:TK)(ts:List TK)(x y:AV)(a b:List AV):Fv (t::ts) (x::a) (y::b)=YW (IA t x y) (Fv ts a b):=by
 simp only[Fv];cases IA t x y<;>cases Fv ts a b<;>rfl
def er(k:IntKind)(a c:Int):IA .int (.d (.int k a)) (.d (.int k c))=some (decide (a=c)):=by
 simp only[IA,F6];congr
theorem Z4(a c:Bool):IA .bool (.d (.bool a)) (.d (.bool c))=some (a==c):=rfl
theorem et(a c:ByteArray):IA .str (.d (.str a)) (.d (.str c))=some (a==c):=rfl
def uE(a c:ByteArray)(i:TI):Im .lss (.d (.str a)) (.d (.str c)) (some i)=some (.d (.bool (Op.bytesLess a.toList c.toList))):=by
 exact zCA
def sg(a c:ByteArray)(i:TI):Im .leq (.d (.str a)) (.d (.str c)) (some i)=some (.d (.bool (Op.bytesLess a.toList c.toList||a.toList==c.toList))):=by
 exact zCA
def ACw(a c:ByteArray)(i:TI):Im .eql (.d (.str a)) (.d (.str c)) (some i)=(JV i.kind (.d (.str a)) (.d (.str c))).map fun t=>.d (.bool t):=by
 exact zCA
def lx(a c:Bool)(i:TI):Im .eql (.d (.bool a)) (.d (.bool c)) (some i)=(JV i.kind (.d (.bool a)) (.d (.bool c))).map fun t=>.d (.bool t):=by
 simp only[Im];cases JV i.kind (.d (.bool a)) (.d (.bool c))<;>rfl
def xj(t:TypeId)(v:AV)(i:TI):Im .neq (.iface t v) (.d .rc) (some i)=(JV i.kind (.iface t v) (.d .rc)).map fun t=>.d (.bool (!t)):=by
 simp only[Im];cases JV i.kind (.iface t v) (.d .rc)<;>rfl
theorem o5(v:Value):bw (.const v)=true:=rfl
theorem zu(t:Tmp):bw (.tmp t)=false:=rfl
theorem vA(f:FuncId):bw (.func f)=false:=rfl
theorem yQ(c:Bool)(op:BinOp)(x y:AV)(t:Option TI):l8 c op x y t=Hd (Im op x y t) (vt c op x y t):=rfl
theorem wH(v:AV)(r:Option AV):Hd (some v) r=some v:=rfl
theorem wG(r:Option AV):Hd none r=r:=rfl
def OE:TK->BinOp->Option AV
 |.iface,.eql=>some (.d (.bool true))
 |.iface,.neq=>some (.d (.bool false))
 |_,_=>none
theorem vn:OE .iface .eql=some (.d (.bool true)):=rfl
theorem vo:OE .iface .neq=some (.d (.bool false)):=rfl
def vu(op:BinOp)(i:TI):vt true op (.d .rc) (.d .rc) (some i)=OE i.kind op:=by
 obtain⟨k⟩:=i;cases k<;>cases op<;>rfl
def ACv(op:BinOp)(i:TI):Im op (.d .rc) (.d .rc) (some i)=none:=by
 obtain⟨k⟩:=i;cases k<;>cases op<;>rfl
theorem sO(a c:ByteArray):JV .str (.d (.str a)) (.d (.str c))=some (a==c):=rfl
theorem lv(a c:Bool):JV .bool (.d (.bool a)) (.d (.bool c))=some (a==c):=rfl
theorem ee(t:TypeId)(v:AV):JV .iface (.iface t v) (.d .rc)=some false:=rfl
def r1(f:FuncId)(a c:List AV)(i:TI):Im .neq (.fn f a c) (.d .kw) (some i)=(JV i.kind (.fn f a c) (.d .kw)).map fun t=>.d (.bool (!t)):=by
 simp only[Im];cases JV i.kind (.fn f a c) (.d .kw)<;>rfl
def lB(i:TI):Im .neq (.d .kw) (.d .kw) (some i)=(JV i.kind (.d .kw) (.d .kw)).map fun t=>.d (.bool (!t)):=by
 simp only[Im];cases JV i.kind (.d .kw) (.d .kw)<;>rfl
theorem yP(f:FuncId)(a c:List AV):JV .func (.fn f a c) (.d .kw)=some false:=rfl
theorem l6:JV .func (.d .kw) (.d .kw)=some true:=rfl
def oM(g:G)(t:TypeId)(v:AV):ZZ g (.iface t v)=Fc g (.iface t v):=by simp only[ZZ]
theorem zV(g:G)(id:Id)(off:Nat):ZZ g (.ptr id off)=none:=rfl
attribute [go_sem] uE sg ACw lx xj o5 zu vA yQ wH wG vn vo vu ACv sO lv ee r1 lB yP l6 oM zV
attribute [go_sem] ACr o3 ly Z6 lh YT er Z4 et
def H8(a c:Nat):Nat.ble a c=decide (a<=c):=by
 cases h:Nat.ble a c with
 |true=>exact(D6 (Ge h)).symm
 |false=>exact(DL (fun b=>by rw[RG b]at h;cases h)).symm
def YP(a c:Nat):Nat.blt a c=decide (a<c):=H8 (a+1) c
def JH(a c:Nat):Nat.beq a c=decide (a=c):=by
 cases h:Nat.beq a c with
 |true=>exact(D6 (D8 h)).symm
 |false=>exact(DL (Qr h)).symm
def Ru{a:Nat}(h:a<=1073741824):(a<=BF)=True:=eq_true zEt
attribute [go_sem] H8 YP Ru IB List.replicate_succ List.replicate_zero List.flatten_cons List.flatten_nil Bool.and_self
def cv(t:TypeId)(a:AV)(c:flat (.iface t a)=true):Bz C K fr ops b n al l i Q (HZ ⟨e,h,bs,ds⟩ (.iface t a))=(al i=true/\Q (.ge (.iface t a)) ⟨e,h,b+n,ds⟩):=by
 simp only[HZ,c,Bz]
def Ch(v:AV)(t:Bool):E (A8×AD):=if t=true then .ok (.ret (.ii []),[])else .ok (.ge v,[])
theorem Mw(v:AV):Ch v true=.ok (.ret (.ii []),[]):=rfl
theorem LP(v:AV):Ch v false=.ok (.ge v,[]):=rfl
variable{az:List AV}{t:Bool}
def iz{v:AV}(a:t=true->Ea C K fr ops b n al l i az dst e h bs ds Q (Ch v true))(h2:t=false->Ea C K fr ops b n al l i az dst e h bs ds Q (Ch v false)):Ea C K fr ops b n al l i az dst e h bs ds Q (Ch v t):=by
 exact zCJ
def dG{v:AV}{p:Prop} [Decidable p](c:p->Ea C K fr ops b n al l i az dst e h bs ds Q (Ch v true))(h2: ¬p->Ea C K fr ops b n al l i az dst e h bs ds Q (Ch v false)):Ea C K fr ops b n al l i az dst e h bs ds Q (Ch v (decide p)):=by
 exact zBB
attribute [go_sem] Nat.add_assoc
attribute [go_sem] sa AAM Prod.mk.injEq cv Mw LP qH qG
attribute [go_sem] k9 mB xw AA3 ACy p1 rK dc qk xK xJ Vt eg ef Zx fF aG wE p7 w9 od oW oc oX ua uY rv zX tx zZ Yo AB4 zi gH zY uv zb uX gF oT uZ bg uc bf zh bb bd zf oQ oO zg za zj sY oI Ny iq qL qK uG yr ABq yq nH yz yx yu yv yw get_cons gM bn EE Pk LF Sw LG DQ Mo KG Hp py kr Fs Ot Dq Mn Iy Hx ck cm zp zq pN WB Kk Ck K2 HH m2 lA w4 uC ti q7 ADW nY lX w7 m0 eD tP aZ tN o8 U1 gd gZ xp xm xl oJ qa wo qZ qY WJ VX vQ pQ oZ oY gL zW n7 zQ uV zR zU QG mZ decide_true decide_false Bool.not_true Bool.not_false xy mr fQ iV pk iy Option.isSome_some mO yW ez mR mU mV ew sq sr Z7 ey ABn mN sj sk sn mM yU yV eu Fa DU puts_cons puts_nil kx dI ur CL is_self zw b9 bz m7 Y1 gy pJ pH Lo mL eo PN YQ Fz Kj sB GX wj VC rE qz ren Fj E1 EF Ep AE A9 List.any_nil List.any_cons Bool.or_false Bool.false_or Bool.or_true Bool.true_or Bool.false_and Bool.and_false Int.toNat_natCast Int.natCast_nonneg List.getElem?_map List.getElem?_nil lG nr tw ov nx uH uJ zM uK zL uI oE gD oG ny bU bT fw fy fx bX uR oC m8 tm nq tn tr zK tu zJ tq bK bL rA np td tc tg te tf a9 bB nj zF nh nk fg zH zG aq ak ao fY nV fX List.flatMap_cons List.flatMap_nil nZ fZ nf nd ff fc fb fe List.foldl_cons List.foldl_nil List.map_cons List.map_nil List.length_cons List.length_nil List.length_map List.length_append List.length_singleton List.append_assoc List.all_cons List.all_nil Option.map_some Option.bind_some List.getElem?_cons_zero List.getElem?_cons_succ List.take_succ_cons List.take_zero List.drop_succ_cons List.drop_zero List.append_nil List.nil_append List.cons_append List.size_toArray Bool.and_true Bool.true_and true_and and_true
variable{P:Program}{C:DJ}{K:Ab}{fr:Fr}{b n i:Nat}{Q:Eh->St->Prop}
variable{ops:Array Oper}{al:Nat->Bool}{l:List Oper}{e:CA}{h:AD}{bs:Nat}{ds:List Df}{ps:List (Nat×Nat)}{fps:List Fp}
def Cf(C:DJ)(K:Ab)(fr:Fr)(ops:Array Oper)(b n:Nat)(al:Nat->Bool)(ps:List (Nat×Nat))(fps:List Fp)(l:List Oper)(i:Nat)(Q:Eh->St->Prop):Ib->Prop
 |.ok st fp=>H0 C K fr ops b n al ps (fps++[fp]) l (i+1) st Q
 |.ge v st=>al i=true/\Et fps ps=true/\Q (.ge v) {st with base:=b+n}
 |.err _=>False
def EA(C:DJ)(K:Ab)(fr:Fr)(ops:Array Oper)(b n:Nat)(al:Nat->Bool)(ps:List (Nat×Nat))(fps:List Fp)(l:List Oper)(i:Nat)(dst:Option Tmp)(e:CA)(h:AD)(bs:Nat)(ds:List Df)(Q:Eh->St->Prop)(rd:List Id):Option C0->Prop
 |some x=>LQ fr.ci x.δ=true/\H0 C K fr ops b n al ps (fps++[⟨some rd,some (x.δ.map (·.1))⟩]) l (i+1) ⟨DH e dst x.v,h.puts x.δ,bs,ds⟩ Q
 |none=>False
def wC:H0 C K fr ops b n al ps fps [] i ⟨e,h,bs,ds⟩ Q=(Et fps ps=true/\Q .normal ⟨e,h,b+n,ds⟩):=by
 simp only[H0,Ds,CI]
def Xn(o:Oper)(st:St):H0 C K fr ops b n al ps fps (o::l) i st Q=Cf C K fr ops b n al ps fps l i Q (DB C K fr ops ((b+i)::fr.π) o st):=by
 unfold H0;simp only[Ds,JM];cases g:DB C K fr ops ((b+i)::fr.π) o st with
 |err e=>rfl
 |ge v st'=>
  simp only[Cf];cases al i<;>simp
 |ok st' a=>
  simp only[Cf,H0];cases f:Ds C K fr ops b al l (i+1) st' with
  |err e=>rfl
  |ok r=>
   obtain⟨⟨o,h⟩,c⟩:=r;cases o<;>simp only[YV,DO,Cs,CE]
def EP(C:DJ)(K:Ab)(fr:Fr)(ops:Array Oper)(b n:Nat)(al:Nat->Bool)(ps:List (Nat×Nat))(fps:List Fp)(l:List Oper)(i:Nat)(dst:Option Tmp)(op:Op)(st:St)(want:Bool)(Q:Eh->St->Prop):AV->Prop
 |.d (.bool t)=>match t==want with
  |true=>Cf C K fr ops b n al ps fps l i Q (Bb C K fr ((b+i)::fr.π) op dst st)
  |false=>H0 C K fr ops b n al ps (fps++[⟨some [],some []⟩]) l (i+1) {st with env:=DH st.env dst (.ii [])} Q
 |.ii []=>H0 C K fr ops b n al ps (fps++[⟨some [],some []⟩]) l (i+1) {st with env:=DH st.env dst (.ii [])} Q
 |_=>False
def wV(dst:Option Tmp)(op:Op)(ty:TypeId)(pos:String)(af:Array Edge)(j:Nat)(want:Bool):
 H0 C K fr ops b n al ps fps (⟨dst,op,ty,pos,af,some (j,want)⟩::l) i ⟨e,h,bs,ds⟩ Q=EP C K fr ops b n al ps fps l i dst op ⟨e,h,bs,ds⟩ want Q (Rn ops e j):=by
 rw[Xn];simp only[DB,Oh,Rn];cases f:ops[j]? with
 |none=>simp[Mf,EP,Cf]
 |some o=>
  cases a:o.dst with
  |none=>simp[Mf,EP,Cf,a]
  |some t=>
   simp only[I2,a,F3,Mf];cases g:CA.get e t with
   |d x=>cases x with
    |bool c=>
     simp only[EP];cases(c==want)<;>simp only[Cf,Bd]
    |_=>rfl
   |ii vs=>cases vs<;>simp only[EP,Cf,Bd]
   |_=>rfl
theorem om(dst:Option Tmp)(op:Op)(st:St):EP C K fr ops b n al ps fps l i dst op st true Q (.d (.bool true))=Cf C K fr ops b n al ps fps l i Q (Bb C K fr ((b+i)::fr.π) op dst st):=rfl
theorem oe(dst:Option Tmp)(op:Op)(st:St):EP C K fr ops b n al ps fps l i dst op st false Q (.d (.bool false))=Cf C K fr ops b n al ps fps l i Q (Bb C K fr ((b+i)::fr.π) op dst st):=rfl
theorem oj(dst:Option Tmp)(op:Op):EP C K fr ops b n al ps fps l i dst op ⟨e,h,bs,ds⟩ true Q (.d (.bool false))=H0 C K fr ops b n al ps (fps++[⟨some [],some []⟩]) l (i+1) ⟨DH e dst (.ii []),h,bs,ds⟩ Q:=rfl
theorem og(dst:Option Tmp)(op:Op):EP C K fr ops b n al ps fps l i dst op ⟨e,h,bs,ds⟩ false Q (.d (.bool true))=H0 C K fr ops b n al ps (fps++[⟨some [],some []⟩]) l (i+1) ⟨DH e dst (.ii []),h,bs,ds⟩ Q:=rfl
theorem gP(dst:Option Tmp)(op:Op)(want:Bool):EP C K fr ops b n al ps fps l i dst op ⟨e,h,bs,ds⟩ want Q (.ii [])=H0 C K fr ops b n al ps (fps++[⟨some [],some []⟩]) l (i+1) ⟨DH e dst (.ii []),h,bs,ds⟩ Q:=rfl
def Ys{op:Op}(a:t=true->EP C K fr ops b n al ps fps l i dst op st want Q (.d (.bool true)))(h2:t=false->EP C K fr ops b n al ps fps l i dst op st want Q (.d (.bool false))):EP C K fr ops b n al ps fps l i dst op st want Q (.d (.bool t)):=by
 exact zCJ
def gN{op:Op}{p:Prop} [Decidable p](c:p->EP C K fr ops b n al ps fps l i dst op st want Q (.d (.bool true)))(h2: ¬p->EP C K fr ops b n al ps fps l i dst op st want Q (.d (.bool false))):EP C K fr ops b n al ps fps l i dst op st want Q (.d (.bool (decide p))):=by
 exact zBB
def oh(dst:Option Tmp)(op:Op)(st:St)(t:Bool):EP C K fr ops b n al ps fps l i dst op st false Q (.d (.bool (!t)))=EP C K fr ops b n al ps fps l i dst op st true Q (.d (.bool t)):=by
 cases t<;>rfl
def p6(dst:Option Tmp)(op:Op)(ty:TypeId)(pos:String)(af:Array Edge)(st:St):
 H0 C K fr ops b n al ps fps (⟨dst,op,ty,pos,af,none⟩::l) i st Q=Cf C K fr ops b n al ps fps l i Q (Bb C K fr ((b+i)::fr.π) op dst st):=by
 rw[Xn];simp only[DB,Oh]
def CD(dst:Option Tmp)(op:Op)(r:Option C0):Cf C K fr ops b n al ps fps l i Q (EN fr op dst ⟨e,h,bs,ds⟩ r)=EA C K fr ops b n al ps fps l i dst e h bs ds Q (Gh e.get h.get op) r:=by
 cases r with
 |none=>rfl
 |some x=>
  simp only[EN,EA,LX,CU,Bd];cases a:LQ fr.ci x.δ with
  |false=>simp[Cf]
  |true=>
   simp only[US,Nb,Cf]
def Nx(dst:Option Tmp)(v:AV)(a:List Id):EA C K fr ops b n al ps fps l i dst e h bs ds Q a (some ⟨v,[]⟩)=H0 C K fr ops b n al ps (fps++[⟨some a,some []⟩]) l (i+1) ⟨DH e dst v,h,bs,ds⟩ Q:=by
 have:LQ fr.ci []=true:=by cases c:fr.ci<;>rfl
 simp only[EA,this,US];rfl
theorem il(dst:Option Tmp)(v:AV)(x:Id×Obj)(δ:AD)(a:List Id):EA C K fr ops b n al ps fps l i dst e h bs ds Q a (some ⟨v,x::δ⟩)=(LQ fr.ci (x::δ)=true/\H0 C K fr ops b n al ps (fps++[⟨some a,some (x.1::δ.map (·.1))⟩]) l (i+1) ⟨DH e dst v,h.puts (x::δ),bs,ds⟩ Q):=rfl
section
variable(dst:Option Tmp)(ρ:List Nat)
def hR(x:Operand):Cf C K fr ops b n al ps fps l i Q (Bb C K fr ρ (.move x) dst ⟨e,h,bs,ds⟩)=H0 C K fr ops b n al ps (fps++[⟨some [],some []⟩]) l (i+1) ⟨DH e dst (ev e.get x),h,bs,ds⟩ Q:=by
 simp only[Bb,evalOp,CD,Nx,Gh]
def tT(x:Operand):Cf C K fr ops b n al ps fps l i Q (Bb C K fr ρ (.assign x) dst ⟨e,h,bs,ds⟩)=H0 C K fr ops b n al ps (fps++[⟨some [],some []⟩]) l (i+1) ⟨DH e dst (ev e.get x),h,bs,ds⟩ Q:=by
 simp only[Bb,evalOp,CD,Nx,Gh]
def w5(c x y:Operand):Cf C K fr ops b n al ps fps l i Q (Bb C K fr ρ (.pick c x y) dst ⟨e,h,bs,ds⟩)=EA C K fr ops b n al ps fps l i dst e h bs ds Q ([]) (Pk (ev e.get c) (ev e.get x) (ev e.get y)):=by
 exact zAQ
def y8(t:TypeId):Cf C K fr ops b n al ps fps l i Q (Bb C K fr ρ (.alloc t) dst ⟨e,h,bs,ds⟩)=EA C K fr ops b n al ps fps l i dst e h bs ds Q ([]) (LF ρ (C.T t)):=by
 exact zAQ
def pz(t:TypeId)(x:Operand):Cf C K fr ops b n al ps fps l i Q (Bb C K fr ρ (.box t x) dst ⟨e,h,bs,ds⟩)=EA C K fr ops b n al ps fps l i dst e h bs ds Q ([]) (Sw ρ (ev e.get x) (C.T t)):=by
 exact zAQ
def zA(t:TypeId)(p:Array (Nat×Operand)):Cf C K fr ops b n al ps fps l i Q (Bb C K fr ρ (.build t p) dst ⟨e,h,bs,ds⟩)=EA C K fr ops b n al ps fps l i dst e h bs ds Q ([]) (LG (Fa e.get p) (C.T t)):=by
 exact zAQ
def Yi(t:TypeId)(m:Nat)(p:Array (Nat×Operand)):Cf C K fr ops b n al ps fps l i Q (Bb C K fr ρ (.buildSlice t m p) dst ⟨e,h,bs,ds⟩)=EA C K fr ops b n al ps fps l i dst e h bs ds Q (Gh e.get h.get (.buildSlice t m p)) (DQ C.T h.get ρ m (Fa e.get p) (C.T t)):=by
 simp only[Bb,evalOp,CD]
def mW(t:TypeId)(a:Operand):Cf C K fr ops b n al ps fps l i Q (Bb C K fr ρ (.load t a) dst ⟨e,h,bs,ds⟩)=EA C K fr ops b n al ps fps l i dst e h bs ds Q (AE (ev e.get a)) (Mo h.get (ev e.get a) (C.T t)):=by
 exact zAQ
def zD(t:TypeId)(a x:Operand):Cf C K fr ops b n al ps fps l i Q (Bb C K fr ρ (.store t a x) dst ⟨e,h,bs,ds⟩)=EA C K fr ops b n al ps fps l i dst e h bs ds Q (AE (ev e.get a)++AE (ev e.get x)) (KG h.get (ev e.get a) (ev e.get x) (C.T t)):=by
 exact zAQ
def fV(x:Operand):Cf C K fr ops b n al ps fps l i Q (Bb C K fr ρ (.nilCheck x) dst ⟨e,h,bs,ds⟩)=EA C K fr ops b n al ps fps l i dst e h bs ds Q ([]) (Hp (ev e.get x)):=by
 exact zAQ
def y9(op:BinOp)(t:TypeId)(x y:Operand)(u:TypeId):Cf C K fr ops b n al ps fps l i Q (Bb C K fr ρ (.binOp op t x y u) dst ⟨e,h,bs,ds⟩)=EA C K fr ops b n al ps fps l i dst e h bs ds Q ([]) ((l8 (bw x||bw y) op (ev e.get x) (ev e.get y) (C.T t)).map (⟨·,[]⟩)):=by
 exact zAQ
def fU(f:Fn)(first cap:Array Operand):Cf C K fr ops b n al ps fps l i Q (Bb C K fr ρ (.makeFunc f first cap) dst ⟨e,h,bs,ds⟩)=EA C K fr ops b n al ps fps l i dst e h bs ds Q ([]) (Ho f (first.toList.map (ev e.get)) (cap.toList.map (ev e.get))):=by
 exact zAQ
def aj(t:TypeId)(x y:Operand):Cf C K fr ops b n al ps fps l i Q (Bb C K fr ρ (.makeSlice t x y) dst ⟨e,h,bs,ds⟩)=EA C K fr ops b n al ps fps l i dst e h bs ds Q ([]) (DY C.T h.get ρ (ev e.get x) (ev e.get y) (C.T t)):=by
 exact zAQ
def zC(t:TypeId)(x:Operand)(c a f:Option Operand):Cf C K fr ops b n al ps fps l i Q (Bb C K fr ρ (.slice t x c a f) dst ⟨e,h,bs,ds⟩)=EA C K fr ops b n al ps fps l i dst e h bs ds Q (Gh e.get h.get (.slice t x c a f)) (IM C.T h.get (ev e.get x) (c.map (ev e.get)) (a.map (ev e.get)) (f.map (ev e.get)) (C.T t)):=by
 simp only[Bb,evalOp,CD]
def ae(t:TypeId)(x:Operand)(k:Nat):Cf C K fr ops b n al ps fps l i Q (Bb C K fr ρ (.fieldAddr t x k) dst ⟨e,h,bs,ds⟩)=EA C K fr ops b n al ps fps l i dst e h bs ds Q ([]) (Fs k (ev e.get x) (C.T t)):=by
 exact zAQ
def ah(t:TypeId)(x y:Operand):Cf C K fr ops b n al ps fps l i Q (Bb C K fr ρ (.indexAddr t x y) dst ⟨e,h,bs,ds⟩)=EA C K fr ops b n al ps fps l i dst e h bs ds Q (AE (ev e.get x)++AE (ev e.get y)) (Dq C.T h.get (ev e.get x) (ev e.get y) (C.T t)):=by
 exact zAQ
def nU(x:Operand)(k:Nat):Cf C K fr ops b n al ps fps l i Q (Bb C K fr ρ (.extract x k) dst ⟨e,h,bs,ds⟩)=EA C K fr ops b n al ps fps l i dst e h bs ds Q ([]) (Iy k (ev e.get x)):=by
 exact zAQ
def nT(f:Builtin)(az:Array Operand)(ts:Array TypeId):Cf C K fr ops b n al ps fps l i Q (Bb C K fr ρ (.call ⟨.builtin f,az,ts⟩) dst ⟨e,h,bs,ds⟩)=EA C K fr ops b n al ps fps l i dst e h bs ds Q (Gh e.get h.get (.call ⟨.builtin f,az,ts⟩)) (Hx C.T h.get ρ f (az.toList.map (ev e.get)) ts.toList):=by
 simp only[Bb,Lb,CD]
theorem zB(x:Operand):Cf C K fr ops b n al ps fps l i Q (Bb C K fr ρ (.panic x) dst ⟨e,h,bs,ds⟩)=Cf C K fr ops b n al ps fps l i Q (HZ ⟨e,h,bs,ds⟩ (ev e.get x)):=rfl
def EZ(C:DJ)(K:Ab)(fr:Fr)(ops:Array Oper)(b n:Nat)(al:Nat->Bool)(ps:List (Nat×Nat))(fps:List Fp)(l:List Oper)(i:Nat)(az:List AV)(dst:Option Tmp)(e:CA)(h:AD)(bs:Nat)(ds:List Df)(Q:Eh->St->Prop)(r:E (A8×AD)):Prop:=
 Cf C K fr ops b n al ps fps l i Q (EW fr az dst ⟨e,h,bs,ds⟩ r)
def Zz(C:DJ)(K:Ab)(fr:Fr)(ops:Array Oper)(b n:Nat)(al:Nat->Bool)(ps:List (Nat×Nat))(fps:List Fp)(l:List Oper)(i:Nat)(dst:Option Tmp)(ρ:List Nat)(e:CA)(h:AD)(bs:Nat)(ds:List Df)(Q:Eh->St->Prop)(args:List AV):AV->Prop
 |fv=>Cf C K fr ops b n al ps fps l i Q (FO C K fr ρ fv args dst ⟨e,h,bs,ds⟩)
theorem zE(f:Operand)(az:Array Operand)(ts:Array TypeId):Cf C K fr ops b n al ps fps l i Q (Bb C K fr ρ (.call ⟨.value f,az,ts⟩) dst ⟨e,h,bs,ds⟩)=Zz C K fr ops b n al ps fps l i dst ρ e h bs ds Q (az.toList.map (ev e.get)) (ev e.get f):=rfl
def M7(C:DJ)(K:Ab)(fr:Fr)(ops:Array Oper)(b n:Nat)(al:Nat->Bool)(ps:List (Nat×Nat))(fps:List Fp)(l:List Oper)(i:Nat)(dst:Option Tmp)(ρ:List Nat)(e:CA)(h:AD)(bs:Nat)(ds:List Df)(Q:Eh->St->Prop)(f:FuncId)(az:List AV)(m:Mode):Prop:=
 Cf C K fr ops b n al ps fps l i Q (Ei K fr ρ f az dst ⟨e,h,bs,ds⟩ m)
def sW(f:FuncId)(first cap args:List AV):Zz C K fr ops b n al ps fps l i dst ρ e h bs ds Q args (.fn f first cap)=M7 C K fr ops b n al ps fps l i dst ρ e h bs ds Q f (first++args++cap) (C.mode f):=by
 simp only[Zz,M7,FO,Bn]
def oA(C:DJ)(K:Ab)(fr:Fr)(ops:Array Oper)(b n:Nat)(al:Nat->Bool)(ps:List (Nat×Nat))(fps:List Fp)(l:List Oper)(i:Nat)(dst:Option Tmp)(e:CA)(h:AD)(bs:Nat)(ds:List Df)(Q:Eh->St->Prop)(f:FuncId)(az:List AV)(own:List Nat):Option (List AV)->Prop
 |some xs=>EZ C K fr ops b n al ps fps l i az dst e h bs ds Q (K (.fn f) xs [] own false none)
 |none=>False
def iR(f:FuncId)(az:List AV)(a:(E5 h.get az).isSome):M7 C K fr ops b n al ps fps l i dst ρ e h bs ds Q f az .auto=oA C K fr ops b n al ps fps l i dst e h bs ds Q f az [] (E5 h.get az):=by
 obtain⟨c,a⟩:=I5.1 a;simp only[M7,Ei,a,Bn,oA,EZ]
def ph(f:FuncId)(az:List AV)(a:(E5 h.get az).isSome):M7 C K fr ops b n al ps fps l i dst ρ e h bs ds Q f az .own=oA C K fr ops b n al ps fps l i dst e h bs ds Q f az ρ (E5 h.get az):=by
 obtain⟨c,a⟩:=I5.1 a;simp only[M7,Ei,a,Bn,oA,EZ]
def oB(f:FuncId)(az:List AV)(own:List Nat)(a:List AV):oA C K fr ops b n al ps fps l i dst e h bs ds Q f az own (some a)=EZ C K fr ops b n al ps fps l i az dst e h bs ds Q (BX K f a own):=by
 simp only[oA,EZ,S3]
def iu(az:List AV)(v:AV)(h':AD)(a:flat v=true):EZ C K fr ops b n al ps fps l i az dst e h bs ds Q (.ok (.ret v,h'))=H0 C K fr ops b n al ps (fps++[⟨some (C2 h.get (A9 az)),some []⟩]) l (i+1) ⟨DH e dst v,h,bs,ds⟩ Q:=by
 simp only[EZ,EW,Bd,a,Cf]
def Xu(az:List AV)(v:AV)(h':AD)(a:flat v=true):EZ C K fr ops b n al ps fps l i az dst e h bs ds Q (.ok (.ge v,h'))=(al i=true/\Et fps ps=true/\Q (.ge v) ⟨e,h,b+n,ds⟩):=by
 simp only[EZ,EW,a,Cf]
def qE(az:List AV)(v:AV)(h':AD)(x:Id×Obj)(a:flat v=false)(c:CB v h'=some x):EZ C K fr ops b n al ps fps l i az dst e h bs ds Q (.ok (.ret v,h'))=H0 C K fr ops b n al ps (fps++[⟨some (C2 h.get (A9 az)),some [x.1]⟩]) l (i+1) ⟨DH e dst v,x::h,bs,ds⟩ Q:=by
 simp only[EZ,EW,Bd,a,JQ,c,BB,Cf]
def Xt(az:List AV)(v:AV)(h':AD)(a:flat v=false)(c:CB v h'=none):EZ C K fr ops b n al ps fps l i az dst e h bs ds Q (.ok (.ret v,h'))=(LQ fr.ci (az.flatMap (mark h.get))=true/\H0 C K fr ops b n al ps (fps++[⟨some (C2 h.get (A9 az)),some ((az.flatMap (mark h.get)).map (·.1)++h'.map (·.1))⟩]) l (i+1) ⟨DH e dst v,h'++h.puts (az.flatMap (mark h.get)),bs,ds⟩ Q):=by
 simp only[EZ,EW,Bd,a,JQ,c,BB,CU];cases f:LQ fr.ci (az.flatMap (mark h.get))<;>simp[Cf]
end
variable{α:Type}{f:α->List Al}{sz:Nat}{dst:Option Tmp}
def qA{a:List α}{j:Nat}{g:List Id}(c:j<a.length)(k: ∀x,a[j]? =some x->EA C K fr ops b n al ps fps l i dst e h bs ds Q g (U5 sz (some (f x)))):EA C K fr ops b n al ps fps l i dst e h bs ds Q g (U5 sz (Option.map f a[j]?)):=by
 have:=k a[j] (CO c)
 rwa [CO c]
theorem cu(fps:List Fp):Et fps []=true:=rfl
def sG:Option Fp->Option Fp->Bool
 |some a,some c=>a.apart c
 |_,_=>true
theorem Zn(a c:Fp):sG (some a) (some c)=a.apart c:=rfl
def ZB(fps:List Fp)(i j:Nat)(l:List (Nat×Nat)):Et fps ((i,j)::l)=(sG fps[i]? fps[j]? &&Et fps l):=by
 simp only[Et,D9];rfl
theorem aO(g:G):C2 g []=[]:=rfl
def lj(x:Option (List Id)):Abs.apart (some []) x=true:=by cases x<;>simp[Abs.apart]
def eZ(x:Option (List Id)):Abs.apart x (some [])=true:=by
 unfold Abs.apart;split<;>first|rfl|simp_all
def WI(g:G)(e:Nat->AV)(t:TypeId)(m:Nat)(p:Array (Nat×Operand)):Gh e g (.buildSlice t m p)=(p.toList.map (·.2)).flatMap fun y=>AE (ev e y):=by
 simp only[Gh,Ev,Op.operands]
def wi(g:G)(e:Nat->AV)(t:TypeId)(x:Operand)(b a c:Option Operand):Gh e g (.slice t x b a c)=(x::(b.toList++a.toList++c.toList)).flatMap fun y=>AE (ev e y):=by
 simp[Gh,Ev,Op.operands]
def mQ(g:G)(e:Nat->AV)(az:Array Operand)(ts:Array TypeId):Gh e g (.call ⟨.builtin .len,az,ts⟩)=az.toList.flatMap fun y=>AE (ev e y):=by
 simp[Gh,Ev,Op.operands,Call.operands]
def qP(g:G)(e:Nat->AV)(az:Array Operand)(ts:Array TypeId):Gh e g (.call ⟨.builtin .append,az,ts⟩)=C2 g (az.toList.flatMap fun y=>AE (ev e y)):=by
 simp[Gh,Ev,Op.operands,Call.operands]
theorem r4(g:G)(e:Nat->AV)(az:Array Operand)(ts:Array TypeId):Gh e g (.call ⟨.builtin .max,az,ts⟩)=[]:=rfl
theorem vc(g:G)(e:Nat->AV)(az:Array Operand)(ts:Array TypeId):Gh e g (.call ⟨.builtin .min,az,ts⟩)=[]:=rfl
attribute [go_sem] Xu Xt
attribute [go_sem] wC wV om oe oj og oh gP p6 Nx il hR tT w5 y8 pz zA Yi mW zD fV y9 fU aj zC ae ah nU nT zB zE sW iR ph oB iu cu Zn ZB aO lj eZ WI wi mQ qP r4 vc Fp.apart List.flatMap_cons List.flatMap_nil
variable{P:Program}{C:DJ}{K:Ab}{fr:Fr}{b n i:Nat}{Q:Eh->St->Prop}
variable{ops:Array Oper}{al:Nat->Bool}{l:List Oper}{e:CA}{h:AD}{bs:Nat}{ds:List Df}
def is_iff: ∀{a b:Id},Id.is a b=true↔a=b:=fun{a b}=>⟨Id.is_eq,fun h=>by subst h;exact is_self a⟩
def AF{a b:Id}(h:a≠b):Id.is a b=false:=by
 cases c:Id.is a b with
 |false=>rfl
 |true=>exact absurd (is_iff.1 c) h
def Fi{g_:AD}{a_ b_:Id}{o_ p_:Option Obj}(a:g_.get a_=o_)(h2:g_.get b_=p_)(h:o_=p_->False:=by intro h;cases h):Id.is a_ b_=false:=AF fun e=>by
 rw[e,h2]at a;exact h a.symm
variable{ρ:Id}
def under_iff: ∀{id:Id},Id.under ρ id=true↔ρ<:+id
 |[]=>by
  simp only[Id.under,is_iff,List.suffix_nil]
 |m::l=>by
  rw[Is];unfold Id.under;cases a:Id.is ρ (m::l)with
  |true=>simp[is_iff.1 a]
  |false=>
   have:ρ≠m::l:=fun h=>by rw[is_iff.2 h]at a;cases a
   simp only[this,false_or];exact under_iff
def Ft{id:Id}(h: ¬ρ<:+id):Id.under ρ id=false:=by
 cases a:Id.under ρ id with
 |false=>rfl
 |true=>exact absurd (under_iff.1 a) h
def get_put(h:AD)(id:Id)(o:Obj)(c:Id):AD.get (AD.put h id o) c=if Id.is id c=true then some o else AD.get h c:=by
 induction h with
 |nil=>simp only[kx,CL]
 |cons p h e=>
  obtain⟨k,x⟩:=p;rw[dI];by_cases b:Id.is k id=true
  .rw[D4 b,CL,CL];have:=is_iff.1 b;subst this;split<;>rfl
  .rw[Ci b,CL,CL,e];by_cases a:Id.is k c=true
   .rw[D4 a,D4 a];have:=is_iff.1 a;subst this;rw[Ci fun h2=>b (is_iff.2 (is_iff.1 h2).symm)]
   .rw[Ci a,Ci a]
def Uq(q:Id->Bool)(h:AD)(id:Id)(b:q id=true):AD.get (List.filter (fun p=>q p.1) h) id=AD.get h id:=by
 induction h with
 |nil=>rfl
 |cons p h c=>
  obtain⟨k,x⟩:=p;rw[CL,Rw];by_cases a:Id.is k id=true
  .have:=is_iff.1 a;subst this;simp only[b,F6,CL,a]
  .rw[Ci a,<-c];split
   .rw[CL,Ci a]
   .rfl
theorem An(ρ:List Nat)(h:AD)(id:Id)(b:Id.under ρ id=false):AD.get (gc ρ h) id=AD.get h id:=by
 refine Uq (fun id=>match id with|0::l=> !Id.under ρ l|_=>true) h id ?_
 split
 .rename_i l;have: ¬ρ<:+l:=fun a=>by
   have:=under_iff.2 (a.trans (F5 0 l));rw[b]at this;cases this
  rw[Ft this];rfl
 .rfl
def WH(C:DJ)(K:Ab)(fr:Fr)(ops:Array Oper)(b n:Nat)(al:Nat->Bool)(l:List Oper)(i:Nat)(dst:Option Tmp)(ρ:List Nat)(e:CA)(h:AD)(bs:Nat)(ds:List Df)(Q:Eh->St->Prop):E (A8×AD)->Prop
 |.ok (.ret v,h')=>HL C K fr ops b n al l (i+1) ⟨DH e dst v,gc ρ h',bs,ds⟩ Q
 |.ok (.ge v,h')=>al i=true/\Q (.ge v) ⟨e,gc ρ h',b+n,ds⟩
 |.err _=>False
def SN(dst:Option Tmp)(ρ:List Nat)(r:E (A8×AD)):Bz C K fr ops b n al l i Q (FU ρ dst ⟨e,h,bs,ds⟩ r)=WH C K fr ops b n al l i dst ρ e h bs ds Q r:=by
 cases r with
 |err l=>rfl
 |ok r=>
  obtain⟨o,h'⟩:=r;cases o<;>simp only[FU,Bd,BB,Bz,WH]
theorem we(dst:Option Tmp)(ρ:List Nat)(v:AV)(h':AD):WH C K fr ops b n al l i dst ρ e h bs ds Q (.ok (.ret v,h'))=HL C K fr ops b n al l (i+1) ⟨DH e dst v,gc ρ h',bs,ds⟩ Q:=rfl
theorem wc(dst:Option Tmp)(ρ:List Nat)(v:AV)(h':AD):WH C K fr ops b n al l i dst ρ e h bs ds Q (.ok (.ge v,h'))=(al i=true/\Q (.ge v) ⟨e,gc ρ h',b+n,ds⟩):=rfl
def pn(dst:Option Tmp)(ρ:List Nat)(f:FuncId)(az:List AV):M8 C K fr ops b n al l i dst ρ e h bs ds Q f az .raw=WH C K fr ops b n al l i dst ρ e h bs ds Q (K (.fn f) az h ρ true fr.ci):=by
 simp only[M8,Ei,SN]
def Ad{Post:A8->AD->Prop}{ρ:List Nat}{q:E (A8×AD)}(a: ∃o h',q=.ok (o,h')/\Post o h')(c: ∀o h',Post o h'->WH C K fr ops b n al l i dst ρ e h bs ds Q (.ok (o,h'))):WH C K fr ops b n al l i dst ρ e h bs ds Q q:=by
 exact zCG
def xc(v:AV):Option AV->AV
 |some u=>u
 |none=>v
theorem xd(g:G):OD g []=[]:=rfl
def rF(g:G)(v:AV)(vs:List AV):OD g (v::vs)=xc v (Fc g v)::OD g vs:=by
 simp only[OD,By];cases Fc g v<;>rfl
theorem je(v u:AV):xc v (some u)=u:=rfl
theorem jc(v:AV):xc v none=v:=rfl
def iW(dst:Option Tmp)(ρ:List Nat)(f:FuncId)(az:List AV)(a:(E5 h.get az).isNone):M8 C K fr ops b n al l i dst ρ e h bs ds Q f az .auto=(LQ fr.ci (az.flatMap (mark h.get))=true/\WH C K fr ops b n al l i dst ρ e h bs ds Q (K (.fn f) (OD h.get az) (h.puts (az.flatMap (mark h.get))) ρ true fr.ci)):=by
 have a:E5 h.get az=none:=zEi
 simp only[M8,Ei,a,Gl,Bn,CU,BB];cases c:LQ fr.ci (az.flatMap (mark h.get))with
 |true=>simp only[SN,US]
 |false=>simp[Bz]
def B1(C:DJ)(K:Ab)(fr:Fr)(ops:Array Oper)(b n:Nat)(al:Nat->Bool)(l:List Oper)(i:Nat)(dst:Option Tmp)(e:CA)(h:AD)(bs:Nat)(ds:List Df)(Q:Eh->St->Prop):E (A8×AD)->Prop
 |.ok (.ret v,_)=>flat v=true/\HL C K fr ops b n al l (i+1) ⟨DH e dst v,h,bs,ds⟩ Q
 |.ok (.ge v,_)=>flat v=true/\al i=true/\Q (.ge v) ⟨e,h,b+n,ds⟩
 |.err _=>False
def vd(dst:Option Tmp)(ρ:List Nat)(f:FuncId)(az:List AV)(a:(E5 h.get az).isNone):M8 C K fr ops b n al l i dst ρ e h bs ds Q f az .ro=B1 C K fr ops b n al l i dst e h bs ds Q (K (.fn f) (OD h.get az) (h.puts (az.flatMap (mark h.get))) ρ true (some ρ)):=by
 have a:E5 h.get az=none:=zEi
 simp only[M8,Ei,a,Gl,Bn,CU,BB];cases K (.fn f) (OD h.get az) (h.puts (az.flatMap (mark h.get))) ρ true (some ρ)with
 |err l=>rfl
 |ok r=>
  obtain⟨o,h'⟩:=r;cases o<;>simp only[Q8,B1,Bd]<;>split<;>simp_all [Bz]
theorem lz(g:G)(x:Al):mark g (.d x)=[]:=rfl
theorem pd(g:G):mark g .d7=[]:=rfl
theorem vW(g:G):mark g .emp=[]:=rfl
theorem vY(g:G)(id:Id)(off:Nat):mark g (.ptr id off)=[]:=rfl
theorem AAD(g:G)(f:FuncId)(a c:List AV):mark g (.fn f a c)=[]:=rfl
theorem oi(g:G)(id:Id):mark g (.mp id)=[]:=rfl
def vX(g:G)(id:Id)(off m:Nat):mark g (.f8 id off m)=Di g (.f8 id off m):=by simp only[mark,LJ,EM,He,CI]
def vT(g:G):List AV->AD
 |[]=>[]
 |v::vs=>Di g v++vT g vs
def vV(g:G)(cs:List AV):mark g (.agg cs)=vT g cs:=by
 simp only[mark,LJ];induction cs with
 |nil=>rfl
 |cons v vs a=>rw[EM,a];rfl
theorem n6(g:G)(x:Al):Di g (.d x)=[]:=rfl
theorem iH(g:G):Di g .d7=[]:=rfl
theorem pT(g:G):Di g .emp=[]:=rfl
theorem pW(g:G)(id:Id)(off:Nat):Di g (.ptr id off)=[]:=rfl
def jf(ρ:Id)(n:Nat)(l:Id):Id.under ρ (n::l)=if Id.is ρ (n::l)=true then true else Id.under ρ l:=by
 conv=>lhs;unfold Id.under
 cases Id.is ρ (n::l)<;>rfl
def eA(n:Nat)(ρ:Id):Id.under (n::ρ) ρ=false:=Ft fun h=>by
 have:=h.length_le;simp at this;omega
def AJ{id:Id}(h:Id.under ρ id=false)(n:Nat):Id.under (n::ρ) id=false:=Ft fun a=>by
 rw[under_iff.2 ((F5 n ρ).trans a)]at h;cases h
def AI{ρ id:Id}(h:Id.under ρ id=false)(a n:Nat):Id.is (a::n::ρ) id=false:=AF fun b=>by
 exact zDq
def Aj{ρ id:Id}(h:Id.under ρ id=false)(a n:Nat):Id.is id (a::n::ρ)=false:=AF fun b=>by
 exact zDq
theorem AB8(ρ:List Nat):gc ρ []=[]:=rfl
def zk(ρ:List Nat)(l:Id)(o:Obj)(h:AD):gc ρ ((0::l,o)::h)=if Id.under ρ l=true then gc ρ h else(0::l,o)::gc ρ h:=by
 simp only[gc,Rw];cases Id.under ρ l<;>rfl
theorem q6(ρ:List Nat)(l:Id)(o:Obj)(h:AD):gc ρ ((1::l,o)::h)=(1::l,o)::gc ρ h:=rfl
attribute [go_sem] AB8 zk q6
def YY(C:DJ)(K:Ab)(fr:Fr)(ops:Array Oper)(b n:Nat)(al:Nat->Bool)(l:List Oper)(i:Nat)(dst:Option Tmp)(e:CA)(h:AD)(bs:Nat)(ds:List Df)(Q:Eh->St->Prop)(az:List AV):AV->Prop
 |.fn g [] []=>HL C K fr ops b n al l (i+1) ⟨DH e dst .undef,h,bs,.call g az::ds⟩ Q
 |_=>False
def dt(dst:Option Tmp)(f:Operand)(az:Array Operand)(ts:Array TypeId)(j:fr.wp=false):Bz C K fr ops b n al l i Q (JJ fr e.get ⟨.value f,az,ts⟩ dst ⟨e,h,bs,ds⟩)=YY C K fr ops b n al l i dst e h bs ds Q (az.toList.map (ev e.get)) (ev e.get f):=by
 simp only[JJ,j];cases ev e.get f with
 |fn g a c=>
  cases a with
  |nil=>cases c<;>simp only[YY,Bz]
  |cons x l=>simp only[YY,Bz]
 |_=>rfl
theorem mh(dst:Option Tmp)(az:List AV)(g:FuncId):YY C K fr ops b n al l i dst e h bs ds Q az (.fn g [] [])=HL C K fr ops b n al l (i+1) ⟨DH e dst .undef,h,bs,.call g az::ds⟩ Q:=rfl
def gh(C:DJ)(ci:Option (List Nat))(l:List Df)(h:AD)(id:Id):Option (List AV)->E (Option AV×AD)
 |some cs=>Dw C ci l none (h.put id (.box cs))
 |none=>.err [20]
def Y0(C:DJ)(ci:Option (List Nat))(l:List Df)(h:AD)(id:Id)(off:Nat)(k:IntKind)(m:Int):Option Obj->E (Option AV×AD)
 |some (.box cs)=>gh C ci l h id (Ck cs off [.d (.int k m)])
 |_=>.err [21]
variable{ci:Option (List Nat)}{l:List Df}{h:AD}{off:Nat}{k:IntKind}{m:Int}
def Qn{f:FuncId}{t:TypeId}{id:Id}(a:C.rx f=some t)(b:LQ ci [(id,.box [])]=true):Dw C ci (.call f [.ptr id off]::l) (some (.iface t (.agg [.d (.int k m)]))) h=Y0 C ci l h id off k m (h.get id):=by
 simp only[Dw,a,b,Nat.beq_refl,Md,Y0,gh];cases h.get id with
 |none=>rfl
 |some o=>cases o with
  |box cs=>simp only;cases Ck cs off [.d (.int k m)]<;>rfl
  |_=>rfl
def gj{f:FuncId}{id:Id}(a:(C.rx f).isSome=true):Dw C ci (.call f [.ptr id off]::l) none h=Dw C ci l none h:=by
 obtain⟨t,b⟩:=I5.1 a;simp only[Dw,b]
attribute [go_sem] dt mh Y0 gh Qn gj
attribute [go_sem] Mm Jm Ho Iz IM Jl appMix
attribute [go_sem] An jf eA
attribute [go_sem] get_put we wc pn xd rF je jc iW Option.isNone_some Option.isNone_none vd lz pd vW vY AAD oi vV vT n6 iH pT pW
def uO:Option (List Al)->Option (List (List Al))->Option (List (List Al))
 |some x,some xs=>some (x::xs)
 |_,_=>none
theorem bW(x:List Al)(a:List (List Al)):uO (some x) (some a)=some (x::a):=rfl
theorem n9(g:G):C7 g []=some []:=rfl
def Um(g:G)(v:List AV)(vs:List (List AV)):C7 g (v::vs)=uO (C6 g v) (C7 g vs):=by
 simp only[C7];cases C6 g v<;>cases C7 g vs<;>rfl
def uF:Option Al->Option (List Al)->Option (List Al)
 |some x,some xs=>some (x::xs)
 |_,_=>none
theorem bP(x:Al)(a:List Al):uF (some x) (some a)=some (x::a):=rfl
theorem nu(g:G):C6 g []=some []:=rfl
def Ui(g:G)(v:AV)(vs:List AV):C6 g (v::vs)=uF (FQ g v) (C6 g vs):=by
 simp only[C6];cases FQ g v<;>cases C6 g vs<;>rfl
def uU(off m:Nat):Option Obj->Option Al
 |some (.em _ es)=>(K2 es off m).map .bv
 |some (.i7 _ es)=>(K2 es off m).map .bv
 |_=>none
def tz(g:G)(id:Id)(off m:Nat):FQ g (.f8 id off m)=uU off m (g id):=by
 simp only[FQ];exact zBP
theorem fz(off m sz:Nat)(es:List (List Al)):uU off m (some (.em sz es))=(K2 es off m).map .bv:=rfl
theorem oD(off m sz:Nat)(es:List (List Al)):uU off m (some (.i7 sz es))=(K2 es off m).map .bv:=rfl
def Uj(g:G)(l:List Al):C6 g (l.map .d)=some l:=by
 induction l with
 |nil=>rfl
 |cons x l a=>rw[By,Ui,a];rfl
def Kf(g:G)(l:List (List Al)):C7 g (l.map (·.map .d))=some l:=by
 induction l with
 |nil=>rfl
 |cons x l a=>rw[By,Um,a,Uj];rfl
theorem iL(g:G):Ca g []=[]:=rfl
theorem Sr(g:G)(v:AV)(vs:List AV):Ca g (v::vs)=LB g v++Ca g vs:=rfl
theorem jE(g:G)(x:Al):LB g (.d x)=[]:=rfl
theorem iK(g:G):LB g .d7=[]:=rfl
theorem pZ(g:G):LB g .emp=[]:=rfl
def vU(id:Id):Option Obj->AD
 |some (.em sz es)=>[(id,.i7 sz es)]
 |_=>[]
def pb(g:G)(id:Id)(off m:Nat):LB g (.f8 id off m)=vU id (g id):=by
 simp only[LB];exact zBP
theorem iM(id:Id)(sz:Nat)(es:List (List Al)):vU id (some (.em sz es))=[(id,.i7 sz es)]:=rfl
theorem pc(id:Id)(sz:Nat)(es:List (List Al)):vU id (some (.i7 sz es))=[]:=rfl
def Ss(g:G)(l:List Al):Ca g (l.map .d)=[]:=by
 induction l with
 |nil=>rfl
 |cons x l a=>rw[By,Sr,a];rfl
def Jh(g:G)(l:List (List Al)):(l.map (·.map AV.d)).flatMap (Ca g)=[]:=by
 induction l with
 |nil=>rfl
 |cons x l a=>rw[By,EM,a,Ss];rfl
def Gd(sz:Nat):List (List AV)->Bool
 |[]=>true
 |e::es=>decide (e.length=sz)&&(e.all AV.isCell&&Gd sz es)
def dh(sz:Nat):Gd sz []=true:=by simp only[Gd]
def KH(sz:Nat)(e:List AV)(es:List (List AV)):Gd sz (e::es)=(decide (e.length=sz)&&(e.all AV.isCell&&Gd sz es)):=by simp only[Gd]
def Pv(sz:Nat)(es:List (List AV)):(es.all fun e=>e.length==sz&&e.all AV.isCell)=Gd sz es:=by
 induction es with
 |nil=>rfl
 |cons e es a=>rw[D9,a,KH,Bool.and_assoc];rfl
def fG(l:List Al):(l.map AV.d).all AV.isCell=true:=by
 induction l with
 |nil=>rfl
 |cons x l a=>rw[By,D9,a];rfl
def OY(newId:Id)(sz n:Nat)(marks:AD):Option (List (List Al))->Option C0
 |some ds=>some ⟨.f8 (1::newId) 0 n,marks++[(1::newId,.em sz ds)]⟩
 |none=>none
def vj(g:G)(newId:Id)(sz:Nat)(es:List (List AV)):Bool->Option C0
 |true=>some ⟨.f8 (1::newId) 0 es.length,[(1::newId,.arr sz es)]⟩
 |false=>OY newId sz es.length (es.flatMap (Ca g)) (C7 g es)
def W0(g:G)(newId:Id)(sz:Nat)(mix:Bool)(es:List (List AV)):Bool->Option C0
 |true=>vj g newId sz es mix
 |false=>none
def Xe(g:G)(a:Id)(j:TI)(es:List (List AV)):newArr g a j es=W0 g a j.size j.mix es (Gd j.size es&&decide (0<j.size)&&decide (es.length<=BF)):=by
 unfold newArr;rw[Pv,H8,YP];cases(Gd j.size es&&decide (0<j.size)&&decide (es.length<=BF))with
 |false=>rfl
 |true=>
  simp only[W0];cases j.mix with
  |true=>rfl
  |false=>simp only[vj];cases C7 g es<;>rfl
theorem Xd(g:G)(a:Id)(sz:Nat)(mix:Bool)(es:List (List AV)):W0 g a sz mix es true=vj g a sz es mix:=rfl
theorem pt(g:G)(a:Id)(sz:Nat)(es:List (List AV)):vj g a sz es true=some ⟨.f8 (1::a) 0 es.length,[(1::a,.arr sz es)]⟩:=rfl
theorem VB(g:G)(a:Id)(sz:Nat)(es:List (List AV)):vj g a sz es false=OY a sz es.length (es.flatMap (Ca g)) (C7 g es):=rfl
theorem Xf(a:Id)(sz n:Nat)(b:AD)(ds:List (List Al)):OY a sz n b (some ds)=some ⟨.f8 (1::a) 0 n,b++[(1::a,.em sz ds)]⟩:=rfl
def eh(g:G)(newId:Id)(j:TI)(n:Nat):Option (List AV)->Option C0
 |some cs=>if n*j.size<=16777216/\j.zero.length=j.size then newArr g newId j (IB j.size n cs)else none
 |none=>none
theorem Vv(g:G)(a:Id)(j:TI):H9 g a 0 [] j=some ⟨.emp,[]⟩:=rfl
def Vu(g:G)(b:Id)(n:Nat)(ps:List (Nat×AV))(j:TI):H9 g b (n+1) ps j=eh g b j (n+1) (DU (fun k=>some (k*j.size,j.size)) ((List.replicate (n+1) j.zero).flatten) ps):=by
 unfold H9;cases DU (fun k=>some (k*j.size,j.size)) ((List.replicate (n+1) j.zero).flatten) ps with
 |none=>rfl
 |some cs=>
  simp only[eh,H8];have e:(2 ^ 24:Nat)=16777216:=AZ;rw[e];by_cases a:(n+1)*j.size<=16777216
  .by_cases h2:j.zero.length=j.size
   .simp[a,h2]
   .have c:(j.zero.length==j.size)=false:=by simpa using h2
    simp[a,h2,c]
  .simp[a]
theorem Zy(g:G)(a:Id)(j:TI)(n:Nat)(cs:List AV):eh g a j n (some cs)=if n*j.size<=16777216/\j.zero.length=j.size then newArr g a j (IB j.size n cs)else none:=rfl
def sK(s:AV):Option C0:=match s with
 |.d7=>some ⟨.d7,[]⟩
 |.emp=>some ⟨.emp,[]⟩
 |.f8 id off n=>some ⟨.f8 id off n,[]⟩
 |_=>none
theorem ll:sK .d7=some ⟨.d7,[]⟩:=rfl
theorem sL:sK .emp=some ⟨.emp,[]⟩:=rfl
theorem Zs(id:Id)(off n:Nat):sK (.f8 id off n)=some ⟨.f8 id off n,[]⟩:=rfl
def OI(g:G)(newId:Id)(j:TI)(s:AV)(src:List (List AV)):Bool->Option C0
 |true=>appTo g newId j s src
 |false=>none
def QE(g:G)(newId:Id)(j:TI)(s:AV):Option (List (List AV))->Option C0
 |none=>none
 |some []=>sK s
 |some (e::es)=>OI g newId j s (e::es) (Gd j.size (e::es)&&decide ((e::es).length<=BF)&&decide (0<j.size))
def ed(g:G)(a:Id)(j:TI)(s x:AV):appendV g a j s x=QE g a j s (Ez g x):=by
 unfold appendV;cases Ez g x with
 |none=>rfl
 |some src=>
  cases src with
  |nil=>cases s<;>rfl
  |cons e es=>
   simp only[QE,<-Pv,H8,YP];cases((e::es).all (fun e=>e.length==j.size&&e.all AV.isCell)&&decide ((e::es).length<=BF)&&decide (0<j.size))<;>rfl
theorem Zp(g:G)(a:Id)(j:TI)(s:AV):QE g a j s (some [])=sK s:=rfl
theorem Wc(g:G)(a:Id)(j:TI)(s:AV)(e:List AV)(es:List (List AV)):QE g a j s (some (e::es))=OI g a j s (e::es) (Gd j.size (e::es)&&decide ((e::es).length<=BF)&&decide (0<j.size)):=rfl
theorem Wb(g:G)(a:Id)(j:TI)(s:AV)(src:List (List AV)):OI g a j s src true=appTo g a j s src:=rfl
def Zq(newId:Id)(id:Id)(off n sz:Nat)(es:List (List Al))(marks:AD)(ds:List (List Al)):Option (List (List Al))->Option C0
 |some es'=>some ⟨.f8 id off (n+ds.length),marks++[(id,.em sz es')]⟩
 |none=>if off=0/\n+ds.length<=BF then some ⟨.f8 (1::newId) 0 (n+ds.length),marks++[(id,.i7 0 []),(1::newId,.em sz (es.take n++ds))]⟩else none
def Qm(newId:Id)(id:Id)(off n sz:Nat)(es:List (List Al))(marks:AD):Option (List (List Al))->Option C0
 |some ds=>if Nv id marks=true then Zq newId id off n sz es marks ds (Ck es (off+n) ds)else none
 |none=>none
def Tx(g:G)(a:Id)(id:Id)(off n sz:Nat)(es:List (List Al))(src:List (List AV)):appIn g a id off n sz es src=Qm a id off n sz es (src.flatMap (Ca g)) (C7 g src):=by
 unfold appIn Qm;cases C7 g src with
 |none=>rfl
 |some ds=>
  cases Nv id (src.flatMap (Ca g))with
  |false=>rfl
  |true=>
   simp only[F6,Zq];cases Ck es (off+n) ds with
   |some c=>rfl
   |none=>
    simp only[JH,H8];by_cases b:off=0<;>by_cases h2:n+ds.length<=BF<;>simp[b,h2]
theorem RY(b:Id)(id:Id)(off n sz:Nat)(es:List (List Al))(a:AD)(ds:List (List Al)):Qm b id off n sz es a (some ds)=if Nv id a=true then Zq b id off n sz es a ds (Ck es (off+n) ds)else none:=rfl
theorem Tw(c:Id)(id:Id)(off n sz:Nat)(es:List (List Al))(b:AD)(ds a:List (List Al)):Zq c id off n sz es b ds (some a)=some ⟨.f8 id off (n+ds.length),b++[(id,.em sz a)]⟩:=rfl
theorem Tv(a:Id)(id:Id)(off n sz:Nat)(es:List (List Al))(b:AD)(ds:List (List Al)):Zq a id off n sz es b ds none=if off=0/\n+ds.length<=BF then some ⟨.f8 (1::a) 0 (n+ds.length),b++[(id,.i7 0 []),(1::a,.em sz (es.take n++ds))]⟩else none:=rfl
def R6(id:Id):Nv id []=true:=by simp[Nv]
def sI(g:G)(newId:Id)(j:TI)(id:Id)(off n:Nat)(src:List (List AV)):Option Obj->Option C0
 |some (.em sz es)=>if sz=j.size/\off+n<=es.length then appIn g newId id off n sz es src else none
 |some (.arr sz es)=>if sz=j.size/\off+n<=es.length then appMix newId id off n sz es src else none
 |_=>none
theorem Tz(g:G)(a:Id)(j:TI)(src:List (List AV)):appTo g a j .d7 src=newArr g a j src:=rfl
theorem ln(g:G)(a:Id)(j:TI)(src:List (List AV)):appTo g a j .emp src=newArr g a j src:=rfl
def Ra(g:G)(b:Id)(j:TI)(id:Id)(off n:Nat)(src:List (List AV)):appTo g b j (.f8 id off n) src=sI g b j id off n src (g id):=by
 simp only[appTo];cases g id with
 |none=>rfl
 |some o=>
  cases o with
  |em sz es=>
   exact zCt
  |arr sz es=>
   exact zCt
  |_=>rfl
theorem RZ(g:G)(a:Id)(j:TI)(id:Id)(off n:Nat)(src:List (List AV))(sz:Nat)(es:List (List Al)):sI g a j id off n src (some (.em sz es))=if sz=j.size/\off+n<=es.length then appIn g a id off n sz es src else none:=rfl
theorem sJ(g:G)(a:Id)(j:TI)(id:Id)(off n:Nat)(src:List (List AV))(sz:Nat)(es:List (List AV)):sI g a j id off n src (some (.arr sz es))=if sz=j.size/\off+n<=es.length then appMix a id off n sz es src else none:=rfl
theorem nD(g:G)(es:List (List Al)):Ez g (.d (.bv es))=some (es.map (·.map .d)):=rfl
theorem fR(g:G):Ez g .d7=some []:=rfl
theorem my(g:G):Ez g .emp=some []:=rfl
def L2(off n:Nat):Option Obj->Option (List (List AV))
 |some (.em _ es)=>K2 (es.map (·.map .d)) off n
 |some (.i7 _ es)=>K2 (es.map (·.map .d)) off n
 |some (.arr _ es)=>K2 es off n
 |_=>none
def nF(g:G)(id:Id)(off n:Nat):Ez g (.f8 id off n)=L2 off n (g id):=by
 simp only[Ez];exact zBP
theorem qi(off n sz:Nat)(es:List (List Al)):L2 off n (some (.em sz es))=K2 (es.map (·.map .d)) off n:=rfl
theorem xE(off n sz:Nat)(es:List (List Al)):L2 off n (some (.i7 sz es))=K2 (es.map (·.map .d)) off n:=rfl
theorem xD(off n sz:Nat)(es:List (List AV)):L2 off n (some (.arr sz es))=K2 es off n:=rfl
def vM(ok:Bool)(r:Option AV):Option TI->Option C0
 |some j=>Mh ok r j
 |none=>none
def kn(T:TypeId->Option TI)(i:TI)(ok:Bool):Option (Option AV)->Option C0
 |some r=>vM ok r (T i.elem)
 |none=>none
def kj(T:TypeId->Option TI)(x:Al)(ok:Bool)(i:TI):Option Obj->Option C0
 |some (.map es)=>kn T i ok (Dh es x)
 |_=>none
def kh(T:TypeId->Option TI)(g:G)(id:Id)(x:Al)(ok:Bool)(i:TI):Bool->Option C0
 |true=>kj T x ok i (g id)
 |false=>none
def vJ(T:TypeId->Option TI)(g:G)(id:Id)(x:Al)(ok:Bool)(i:TI):TK->Option TI->Option C0
 |.map,some kt=>kh T g id x ok i (LA kt.kind x)
 |_,_=>none
def cj(T:TypeId->Option TI)(g:G)(id:Id)(x:Al)(ok:Bool)(i:TI):Gw T g (.mp id) (.d x) ok (some i)=vJ T g id x ok i i.kind (T i.key):=by
 unfold Gw;simp only[NV];cases b:i.kind with
 |map=>
  cases T i.key with
  |none=>rfl
  |some a=>
   simp only[vJ];cases LA a.kind x with
   |false=>rfl
   |true=>
    simp only[kh];cases g id with
    |none=>rfl
    |some o=>
     cases o with
     |map es=>
      simp only[kj];cases Dh es x with
      |none=>rfl
      |some r=>
       simp only[kn];cases T i.elem<;>rfl
     |_=>rfl
 |_=>rfl
theorem pB(T:TypeId->Option TI)(g:G)(id:Id)(x:Al)(ok:Bool)(i a:TI):vJ T g id x ok i .map (some a)=kh T g id x ok i (LA a.kind x):=rfl
theorem gp(T:TypeId->Option TI)(g:G)(id:Id)(x:Al)(ok:Bool)(i:TI):kh T g id x ok i true=kj T x ok i (g id):=rfl
theorem pD(T:TypeId->Option TI)(x:Al)(ok:Bool)(i:TI)(es:List (Al×AV)):kj T x ok i (some (.map es))=kn T i ok (Dh es x):=rfl
theorem gq(T:TypeId->Option TI)(ok:Bool)(i:TI)(r:Option AV):kn T i ok (some r)=vM ok r (T i.elem):=rfl
theorem gx(ok:Bool)(r:Option AV)(j:TI):vM ok r (some j)=Mh ok r j:=rfl
def vK(v:AV)(j:TI):Mh false (some v) j=some ⟨v,[]⟩:=by
 unfold Mh;cases HH j.agg j.zero<;>rfl
def vN(ok:Bool):Option AV->Option C0
 |some z=>match ok with
  |true=>some ⟨.ii [z,.d (.bool false)],[]⟩
  |false=>some ⟨z,[]⟩
 |none=>none
def vL(ok:Bool)(j:TI):Mh ok none j=vN ok (HH j.agg j.zero):=by
 unfold Mh;cases HH j.agg j.zero<;>cases ok<;>rfl
theorem z7(z:AV):vN true (some z)=some ⟨.ii [z,.d (.bool false)],[]⟩:=rfl
theorem z6(z:AV):vN false (some z)=some ⟨z,[]⟩:=rfl
theorem iB(x:Al):Dh [] x=some none:=rfl
attribute [go_sem] cj pB gp pD gq gx vK vL z7 z6 LA iB
variable{g:G}
def jU{l:List α}(h: ∀a,(f a).length=sz)(b:0<=m)(j:m<=l.length):GZ g .slice sz (.d (.bv (l.map f))) none (some (.d (.int k m))) none=some (.d (.bv ((l.take m.toNat).map f))):=by
 have c:FJ none (some (.d (.int k m))) none (l.map f).length=some (0,m.toNat,none):=by
  simp[FJ,Iq,J0,b]
 have e:Oa sz (l.map f)=true:=by
  cases l with
  |nil=>rfl
  |cons a l=>simp only[By,Oa,JH,Ap];exact h a
 show SK sz (l.map f) (FJ none (some (.d (.int k m))) none (l.map f).length)=_;rw[c];have i:Nat.ble m.toNat (l.map f).length=true:=by rw[H8];simp;omega
 simp only[SK,i,e,OL,List.drop_zero,Nat.sub_zero,OK]
def hC(id:Id)(off:Nat)(cells:List AV):Option Obj->Option C0
 |some (.box cs)=>(Ck cs off cells).map fun cs'=>⟨.undef,[(id,.box cs')]⟩
 |_=>none
def M1(id:Id)(k off sz:Nat)(es:List (List Al))(marks:AD):Option (List Al)->Option (List Al)->Option C0
 |some e,some ds=>if Nv id marks=true then(Ck e off ds).map fun e'=>⟨.undef,marks++[(id,.em sz (es.set k e'))]⟩else none
 |_,_=>none
def M5(id:Id)(k off sz:Nat)(es:List (List AV))(cells:List AV):Option (List AV)->Option C0
 |some e=>(Ck e off cells).map fun e'=>⟨.undef,[(id,.arr sz (es.set k e'))]⟩
 |none=>none
def E9(g:G)(id:Id)(k off:Nat)(cells:List AV):Option Obj->Option C0
 |some (.em sz es)=>M1 id k off sz es (Ca g cells) es[k]? (C6 g cells)
 |some (.arr sz es)=>M5 id k off sz es cells es[k]?
 |_=>none
def qw(g:G)(i:TI)(id:Id)(off:Nat)(v:AV):Kv g i (.ptr id off) v=if v.cells.length=i.size/\v.cells.all AV.isCell=true then hC id off v.cells (g id)else none:=by
 unfold Kv;by_cases h:v.cells.length=i.size/\v.cells.all AV.isCell=true
 .have:(v.cells.length==i.size&&v.cells.all AV.isCell)=true:=by simp[h.1,h.2]
  rw[this,D4 h];simp only;exact zBP
 .exact zA6
def jb(g:G)(i:TI)(id:Id)(k off:Nat)(v:AV):Kv g i (.jp id k off) v=if v.cells.length=i.size/\v.cells.all AV.isCell=true then E9 g id k off v.cells (g id)else none:=by
 unfold Kv;by_cases h:v.cells.length=i.size/\v.cells.all AV.isCell=true
 .have:(v.cells.length==i.size&&v.cells.all AV.isCell)=true:=by simp[h.1,h.2]
  rw[this,D4 h];simp only;cases g id with
  |none=>rfl
  |some o=>
   cases o with
   |em sz es=>
    simp only[E9,M1];cases es[k]? with
    |none=>cases C6 g v.cells<;>rfl
    |some e=>
     cases C6 g v.cells with
     |none=>rfl
     |some ds=>cases Nv id (Ca g v.cells)<;>rfl
   |arr sz es=>
    simp only[E9,M5];cases es[k]? <;>rfl
   |_=>rfl
 .exact zA6
theorem kA(id:Id)(off:Nat)(cells cs:List AV):hC id off cells (some (.box cs))=(Ck cs off cells).map fun a=>⟨.undef,[(id,.box a)]⟩:=rfl
theorem xU(g:G)(id:Id)(k off sz:Nat)(cells:List AV)(es:List (List Al)):E9 g id k off cells (some (.em sz es))=M1 id k off sz es (Ca g cells) es[k]? (C6 g cells):=rfl
theorem uM(g:G)(id:Id)(k off sz:Nat)(cells:List AV)(es:List (List AV)):E9 g id k off cells (some (.arr sz es))=M5 id k off sz es cells es[k]? :=rfl
theorem xT(id:Id)(k off sz:Nat)(es:List (List Al))(a:AD)(e ds:List Al):M1 id k off sz es a (some e) (some ds)=if Nv id a=true then(Ck e off ds).map fun e'=>⟨.undef,a++[(id,.em sz (es.set k e'))]⟩else none:=rfl
theorem xR(id:Id)(k off sz:Nat)(es:List (List AV))(cells e:List AV):M5 id k off sz es cells (some e)=(Ck e off cells).map fun e'=>⟨.undef,[(id,.arr sz (es.set k e'))]⟩:=rfl
attribute [go_sem] qw jb kA xU uM xT xR
def QA(g:G)(newId:Id)(n:Int):TK->Option TI->Option C0
 |.slice,some j=>if 0<=n/\n<=BF then Hb g newId n.toNat j else none
 |_,_=>none
def oa(T:TypeId->Option TI)(g:G)(a:Id)(k c:IntKind)(n:Int)(i:TI):DY T g a (.d (.int k n)) (.d (.int c n)) (some i)=QA g a n i.kind (T i.elem):=by
 obtain⟨e,sz,f,st,z,h,b,l,m⟩:=i;unfold DY;simp only;cases e with
 |slice=>
  cases T b with
  |none=>rfl
  |some j=>simp only[QA,US]
 |_=>rfl
theorem s3(g:G)(a:Id)(n:Int)(j:TI):QA g a n .slice (some j)=if 0<=n/\n<=BF then Hb g a n.toNat j else none:=rfl
def yM:List AV->Option (List Al)
 |[]=>some []
 |.d x::l=>(yM l).map (x:: ·)
 |_=>none
def Zk: ∀{l:List AV} {ds:List Al},yM l=some ds->l=ds.map .d
 |[],ds,h=>by cases h;rfl
 |v::l,ds,h=>by
  cases v<;>simp[yM]at h;obtain⟨b,a,rfl⟩:=h;rw[Zk a];rfl
def Rz{a:Id}{n:Nat}{j:TI}{zs:List Al}(r:0<n)(l:n<=BF)(o:yM j.zero=some zs)(h:j.zero.length=j.size)(c:0<j.size)(i:j.mix=false):Hb g a n j=some ⟨.f8 (1::a) 0 n,[(1::a,.em j.size (List.replicate n zs))]⟩:=by
 obtain⟨m,rfl⟩: ∃m,n=m+1:=⟨n-1,AA⟩;have e:=Zk o;have b:List.replicate (m+1) j.zero=(List.replicate (m+1) zs).map (·.map AV.d):=by rw[Ol,e]
 show newArr g a j (List.replicate (m+1) j.zero)=_;rw[Xe,b];have f:Gd j.size ((List.replicate (m+1) zs).map (·.map AV.d))=true:=by
  have p:zs.length=j.size:=by rw[<-h,e];simp
  generalize m+1=k;induction k with
  |zero=>simp[Gd]
  |succ k q=>rw[Rx,By,KH,q,fG,As,p];simp
 rw[f,D6 c];have h2:((List.replicate (m+1) zs).map (·.map AV.d)).length<=BF:=zFH
 rw[D6 h2,i];simp only[OL,Xd,VB,Kf,Jh,Xf,CE,As,I7]
theorem pO(g:G)(a:Id)(j:TI):Hb g a 0 j=some ⟨.emp,[]⟩:=rfl
def Ql{n:Nat}(h:n<=1073741824):((n:Int)<=(BF:Int))=True:=eq_true zEt
attribute [go_sem] oa s3 pO Nat.zero_add
attribute [go_sem] Option.map_none bW n9 Um bP nu Ui tz fz oD Uj Kf iL Sr jE iK pZ pb iM pc Ss Jh dh KH Xe Xd pt VB Xf Vv Vu Zy ll sL Zs ed Zp Wc Wb Tx RY Tw Tv R6 Tz ln Ra RZ sJ nD fR my nF qi xE xD Nat.one_mul Nat.mul_one Nat.reduceMul
end Go.Abs
namespace Go.Abs
variable{C:DJ}{K:Ab}{fr:Fr}{bl:Nat}{Q:Eh->St->Prop}
def Ka{α:Type}{l:List α}{i:Nat}{x:α}(h:l[i]? =some x):l.drop i=x::l.drop (i+1):=by
 exact zB3
def Ah{α β:Type}{x:Code}(l:List α)(S:Nat->β->St)(Inv:Nat->List α->β->Prop)(b0:β)(f:Inv 0 l b0)
 (step: ∀(i:Nat) (y:α) (b:β),l[i]? =some y->i<l.length->(i:Int)<(l.length:Int)->Inv i (y::l.drop (i+1)) b->AH (∀b',Inv (i+1) (l.drop (i+1)) b'->Tq C K fr bl x (S (i+1) b') Q)->Wp C K fr bl x (S i b) (Nm C K fr bl x Q))
 (done: ∀(i:Nat) (b:β),AH (i=l.length)-> ¬(i:Int)<(l.length:Int)->Inv i [] b->Wp C K fr bl x (S i b) (Nm C K fr bl x Q)):Tq C K fr bl x (S 0 b0) Q:=by
 refine rounds (S:=fun a:Nat×β=>S a.1 a.2) (Inv:=fun a=>a.1<=l.length/\Inv a.1 (l.drop a.1) a.2) (m:=fun a=>l.length-a.1) (a:=(0,b0)) ⟨AG,by simpa using f⟩ ?_;rintro⟨i,b⟩ ⟨h1,h2⟩ IH;dsimp only at*;by_cases c:i<l.length
 .obtain⟨y,e⟩: ∃y,l[i]? =some y:=⟨_,CO c⟩;rw[Ka e]at h2;exact step i y b e c AA h2 ⟨fun b' g=>IH.out (i+1,b') AU ⟨AU,g⟩⟩
 .have:i=l.length:=AA;rw[EX AA]at h2;exact done i b ⟨this⟩ AA h2
end Go.Abs
namespace Go.Abs
variable{C:DJ}{K:Ab}{fr:Fr}{bl:Nat}{Q:Eh->St->Prop}
def Aq{α β:Type}{x:Code}(l:List α)(m:Int)(S:Int->Nat->β->St)(Inv:Nat->List α->β->Prop)(b0:β)(h:m=l.length)(e:Inv 0 l b0)
 (step: ∀(i:Nat) (y:α) (b:β),l[i]? =some y->i<l.length->(i:Int)<m->Inv i (y::l.drop (i+1)) b->AH (∀b',Inv (i+1) (l.drop (i+1)) b'->Tq C K fr bl x (S m (i+1) b') Q)->Wp C K fr bl x (S m i b) (Nm C K fr bl x Q))
 (done: ∀(i:Nat) (b:β),AH (i=l.length)-> ¬(i:Int)<m->Inv i [] b->Wp C K fr bl x (S m i b) (Nm C K fr bl x Q)):Tq C K fr bl x (S m 0 b0) Q:=
 Ah l (S m) Inv b0 e (fun i y b a h2 c f g=>step i y b a h2 AA f g) (fun i b a h2 c=>done i b a (by have:=a.out;omega) c)
end Go.Abs
namespace Go.Abs
variable{P:Program}{C:DJ}
def yH{f:FuncId}{fn:Func}{c:Code}{rs:List ResultVar}{args:List AV}{π:List Nat}{Post:A8×AD->Prop}(g:C.i9 f=true)(b:P.funcs[f]? =some fn)(a:fn.body=some c)(i:fn.results.toList=rs)(h:Nat.ble args.length fn.ntmps=true)
 (j:Wp C (KL P C) {f,π,raw:=false,ci:=none,nt:=fn.ntmps} 0 c ⟨EE 0 args,[],0,[]⟩ (K1 C none rs π false fun o' h'=>Post (v5 (o',h')))): ∃r,BX (KL P C) f args π=.ok r/\Post r:=by
 obtain⟨o',h',e,h2⟩:=TL g b a i h j;unfold BX;rw[e];exact⟨_,rfl,h2⟩
def Lh{f:FuncId}{fn:Func}{c:Code}{rs:List ResultVar}{args:List AV}{π:List Nat}{Post:A8×AD->Prop}{nt:Nat}(b:P.funcs[f]? =some fn)(j:Wp C (KL P C) {f,π,raw:=false,ci:=none,nt} 0 c ⟨EE 0 args,[],0,[]⟩ (K1 C none rs π false fun o' h'=>Post (v5 (o',h'))))(a:fn.body=some c:=by rfl)(i:fn.results=rs.toArray:=by rfl)(h:fn.ntmps=nt:=by rfl)(e:C.i9 f=true:=by rfl)(g:Nat.ble args.length fn.ntmps=true:=by rfl): ∃r,BX (KL P C) f args π=.ok r/\Post r:=by
 subst h;exact yH e b a (by simp[i]) g j
end Go.Abs
namespace Go.Abs
variable{C:DJ}{K:Ab}{fr:Fr}{bl:Nat}{Q:Eh->St->Prop}
end Go.Abs
namespace Go.Abs
variable{P:Program}{C:DJ}{K:Ab}{fr:Fr}{b n i:Nat}{Q:Eh->St->Prop}
variable{ops:Array Oper}{al:Nat->Bool}{l:List Oper}{e:CA}{h:AD}{bs:Nat}{ds:List Df}{ps:List (Nat×Nat)}{fps:List Fp}{ρ:List Nat}{dst:Option Tmp}
def NC(C:DJ)(K:Ab)(fr:Fr)(ops:Array Oper)(b n:Nat)(al:Nat->Bool)(l:List Oper)(i:Nat)(dst:Option Tmp)(ρ:List Nat)(e:CA)(h:AD)(bs:Nat)(ds:List Df)(Q:Eh->St->Prop)(args:List AV)(v:AV):Option FuncId->Prop
 |some f=>UF C K fr ops b n al l i dst ρ e h bs ds Q args (.fn f [v] [])
 |none=>False
def o0(C:DJ)(K:Ab)(fr:Fr)(ops:Array Oper)(b n:Nat)(al:Nat->Bool)(l:List Oper)(i:Nat)(dst:Option Tmp)(ρ:List Nat)(e:CA)(h:AD)(bs:Nat)(ds:List Df)(Q:Eh->St->Prop)(m:String)(args:List AV):AV->Prop
 |.iface t v=>NC C K fr ops b n al l i dst ρ e h bs ds Q args v (C.meth t m)
 |_=>False
theorem gU(m:String)(args:List AV)(t:TypeId)(v:AV):o0 C K fr ops b n al l i dst ρ e h bs ds Q m args (.iface t v)=NC C K fr ops b n al l i dst ρ e h bs ds Q args v (C.meth t m):=rfl
theorem pf(args:List AV)(v:AV)(f:FuncId):NC C K fr ops b n al l i dst ρ e h bs ds Q args v (some f)=UF C K fr ops b n al l i dst ρ e h bs ds Q args (.fn f [v] []):=rfl
def X3(C:DJ)(K:Ab)(fr:Fr)(ops:Array Oper)(b n:Nat)(al:Nat->Bool)(ps:List (Nat×Nat))(fps:List Fp)(l:List Oper)(i:Nat)(dst:Option Tmp)(ρ:List Nat)(e:CA)(h:AD)(bs:Nat)(ds:List Df)(Q:Eh->St->Prop)(args:List AV)(v:AV):Option FuncId->Prop
 |some f=>Zz C K fr ops b n al ps fps l i dst ρ e h bs ds Q args (.fn f [v] [])
 |none=>False
def V3(C:DJ)(K:Ab)(fr:Fr)(ops:Array Oper)(b n:Nat)(al:Nat->Bool)(ps:List (Nat×Nat))(fps:List Fp)(l:List Oper)(i:Nat)(dst:Option Tmp)(ρ:List Nat)(e:CA)(h:AD)(bs:Nat)(ds:List Df)(Q:Eh->St->Prop)(m:String)(args:List AV):AV->Prop
 |.iface t v=>X3 C K fr ops b n al ps fps l i dst ρ e h bs ds Q args v (C.meth t m)
 |_=>False
def tU(r:Operand)(m:String)(az:Array Operand)(ts:Array TypeId):Cf C K fr ops b n al ps fps l i Q (Bb C K fr ρ (.call ⟨.invoke r m,az,ts⟩) dst ⟨e,h,bs,ds⟩)=V3 C K fr ops b n al ps fps l i dst ρ e h bs ds Q m (az.toList.map (ev e.get)) (ev e.get r):=by
 simp only[Bb];cases ev e.get r with
 |iface t v=>
  simp only[HP,V3];cases C.meth t m with
  |none=>rfl
  |some f=>rfl
 |_=>rfl
theorem gR(m:String)(args:List AV)(t:TypeId)(v:AV):V3 C K fr ops b n al ps fps l i dst ρ e h bs ds Q m args (.iface t v)=X3 C K fr ops b n al ps fps l i dst ρ e h bs ds Q args v (C.meth t m):=rfl
theorem pe(args:List AV)(v:AV)(f:FuncId):X3 C K fr ops b n al ps fps l i dst ρ e h bs ds Q args v (some f)=Zz C K fr ops b n al ps fps l i dst ρ e h bs ds Q args (.fn f [v] []):=rfl
def VS(C:DJ)(K:Ab)(fr:Fr)(ops:Array Oper)(b n:Nat)(al:Nat->Bool)(ps:List (Nat×Nat))(fps:List Fp)(l:List Oper)(i:Nat)(dst:Option Tmp)(ρ:List Nat)(e:CA)(h:AD)(bs:Nat)(ds:List Df)(Q:Eh->St->Prop):E (A8×AD)->Prop
 |.ok (.ret v,h')=>H0 C K fr ops b n al ps (fps++[⟨none,some (W7 h (gc ρ h'))⟩]) l (i+1) ⟨DH e dst v,gc ρ h',bs,ds⟩ Q
 |.ok (.ge v,h')=>al i=true/\Et fps ps=true/\Q (.ge v) ⟨e,gc ρ h',b+n,ds⟩
 |.err _=>False
def qp(dst:Option Tmp)(ρ:List Nat)(r:E (A8×AD)):Cf C K fr ops b n al ps fps l i Q (FU ρ dst ⟨e,h,bs,ds⟩ r)=VS C K fr ops b n al ps fps l i dst ρ e h bs ds Q r:=by
 cases r with
 |err l=>rfl
 |ok r=>
  exact zET
theorem wb(dst:Option Tmp)(ρ:List Nat)(v:AV)(h':AD):VS C K fr ops b n al ps fps l i dst ρ e h bs ds Q (.ok (.ret v,h'))=H0 C K fr ops b n al ps (fps++[⟨none,some (W7 h (gc ρ h'))⟩]) l (i+1) ⟨DH e dst v,gc ρ h',bs,ds⟩ Q:=rfl
theorem wa(dst:Option Tmp)(ρ:List Nat)(v:AV)(h':AD):VS C K fr ops b n al ps fps l i dst ρ e h bs ds Q (.ok (.ge v,h'))=(al i=true/\Et fps ps=true/\Q (.ge v) ⟨e,gc ρ h',b+n,ds⟩):=rfl
def pj(dst:Option Tmp)(ρ:List Nat)(f:FuncId)(az:List AV):M7 C K fr ops b n al ps fps l i dst ρ e h bs ds Q f az .raw=VS C K fr ops b n al ps fps l i dst ρ e h bs ds Q (K (.fn f) az h ρ true fr.ci):=by
 simp only[M7,Ei,qp]
variable{dst:Option Tmp}
def Cv{Post:A8->AD->Prop}{ρ:List Nat}{q:E (A8×AD)}(a: ∃o h',q=.ok (o,h')/\Post o h')(c: ∀o h',Post o h'->VS C K fr ops b n al ps fps l i dst ρ e h bs ds Q (.ok (o,h'))):VS C K fr ops b n al ps fps l i dst ρ e h bs ds Q q:=by
 exact zCG
def iU(dst:Option Tmp)(ρ:List Nat)(f:FuncId)(az:List AV)(a:(E5 h.get az).isNone):M7 C K fr ops b n al ps fps l i dst ρ e h bs ds Q f az .auto=(LQ fr.ci (az.flatMap (mark h.get))=true/\VS C K fr ops b n al ps fps l i dst ρ e h bs ds Q (K (.fn f) (OD h.get az) (h.puts (az.flatMap (mark h.get))) ρ true fr.ci)):=by
 have a:E5 h.get az=none:=zEi
 simp only[M7,Ei,a,Gl,Bn,CU,BB];cases c:LQ fr.ci (az.flatMap (mark h.get))with
 |true=>
  simp only[US];cases K (.fn f) (OD h.get az) (h.puts (az.flatMap (mark h.get))) ρ true fr.ci with
  |err l=>rfl
  |ok r=>
   exact zET
 |false=>simp[Cf]
variable{az:List AV}
def ZF{v:AV}{p:Prop} [Decidable p](c: ¬p->Ea C K fr ops b n al l i az dst e h bs ds Q (Ch v true))(h2:p->Ea C K fr ops b n al l i az dst e h bs ds Q (Ch v false)):Ea C K fr ops b n al l i az dst e h bs ds Q (Ch v (!decide p)):=by
 by_cases a:p
 .rw[D6 a];exact h2 a
 .rw[DL a];exact c a
def ZE{v:AV}{p:Prop} [Decidable p](c: ¬p->EZ C K fr ops b n al ps fps l i az dst e h bs ds Q (Ch v true))(h2:p->EZ C K fr ops b n al ps fps l i az dst e h bs ds Q (Ch v false)):EZ C K fr ops b n al ps fps l i az dst e h bs ds Q (Ch v (!decide p)):=by
 by_cases a:p
 .rw[D6 a];exact h2 a
 .rw[DL a];exact c a
def iv{v:AV}{t:Bool}(a:t=true->EZ C K fr ops b n al ps fps l i az dst e h bs ds Q (Ch v true))(h2:t=false->EZ C K fr ops b n al ps fps l i az dst e h bs ds Q (Ch v false)):EZ C K fr ops b n al ps fps l i az dst e h bs ds Q (Ch v t):=by
 exact zCJ
def dF{v:AV}{p:Prop} [Decidable p](c:p->EZ C K fr ops b n al ps fps l i az dst e h bs ds Q (Ch v true))(h2: ¬p->EZ C K fr ops b n al ps fps l i az dst e h bs ds Q (Ch v false)):EZ C K fr ops b n al ps fps l i az dst e h bs ds Q (Ch v (decide p)):=by
 exact zBB
def ec(a b:List Id):Abs.apart (some a) (some b)=a.all fun x=>b.all fun y=> !Id.is x y:=by
 have key: ∀(x:Id) (m:List Id),(!m.contains x)=m.all fun y=> !Id.is x y:=fun x m=>by
  rw[OP];simp only[HW,D3];constructor
  .intro h y g;exact AF fun e=>by subst e;simp[g]at h
  .intro h;cases f:m.contains x with
   |false=>rfl
   |true=>
    have:=h x zEb;rw[is_self]at this;cases this
 unfold Abs.apart;split
 .rename_i h;cases h;rfl
 .rename_i c h2;cases c;simp
 .rename_i c h2;cases c;cases h2;simp only[key]
 .simp_all
def G5(ρ:List Nat)(h:AD)(l:Id):AD.get (gc ρ h) (1::l)=AD.get h (1::l):=Uq (fun id=>match id with|0::l=> !Id.under ρ l|_=>true) h (1::l) rfl
def Qd(a b:AD)(id:Id):AD.get (a++b) id=(match AD.get a id with|some o=>some o|none=>AD.get b id):=by
 induction a with
 |nil=>rfl
 |cons p a c=>
  obtain⟨k,x⟩:=p;rw[Cs,CL,CL];split
  .rfl
  .exact c
variable{a b:AD}
def Bt{id:Id}(h:AD.get a id=none):AD.get (a++b) id=AD.get b id:=by rw[Qd,h]
def C3{id:Id}{o:Obj}(h:AD.get a id=some o):AD.get (a++b) id=some o:=by rw[Qd,h]
def tp(g:G)(f:FuncId)(a:List AV)(x:AV)(c:List AV):Fc g (.fn f a (x::c))=none:=by cases a<;>rfl
attribute [go_sem] G5 tp
attribute [go_sem] ec gU pf tU gR pe wb wa pj iU Xu Xt
attribute [go_sem_proc] Nat.reduceEqDiff Nat.reduceAdd Nat.reduceSub Nat.reduceBEq Nat.reduceLeDiff Nat.reduceLT reduceCtorEq Int.reduceEq Int.reduceLT Int.reduceLE Int.reduceNeg Int.reduceToNat Int.reduceAdd Int.reduceSub
attribute [go_sem_proc ↓] reduceIte
attribute [go_sem] Int.cast_ofNat_Int Int.zero_add Nat.le_refl
class Sp(G:Prop)(P N A B:outParam Prop):Prop where
 go:(P->A)->(N->B)->G
def sx{G P N A B:Prop} [s:Sp G P N A B](a:P->A)(h2:N->B):G:=s.go a h2
class Sq(G:Prop)(α:outParam Type)(H:outParam Prop)(R M A:outParam (α->Prop)):Prop where
 go:H->(∀x,R x->M x->A x)->G
def sy{G:Prop}{α:Type}{H:Prop}{R M A:α->Prop} [s:Sq G α H R M A](a:H)(h2: ∀x,R x->M x->A x):G:=s.go a h2
def au{G:Prop}(h:G:=by(repeat' (first|simp only[go_sem, *]|(refine sx ?_ ?_<;>intro a)|refine sy AA fun x c b=>?_|simp(disch:=first|assumption|omega) only[wrap_id,Ru,Ql,slice_int]))):G:=h
def af{G:Prop}(h:G:=by(repeat' (first|simp only[go_sem, *,AM]|(refine sx ?_ ?_<;>intro a)|refine sy AA fun x c b=>?_|simp(disch:=first|assumption|omega) only[wrap_id,Ru,Ql,slice_int]))):G:=h
variable{R:Prop}
def aw{G:Prop}(h:R)(e:AH R->G:=by intro q;(repeat' (first|simp only[go_sem, *]|(refine sx ?_ ?_<;>intro a)|refine sy AA fun x c b=>?_|simp(disch:=first|assumption|omega) only[wrap_id,Ru,Ql,slice_int]));exact q.out):G:=e ⟨h⟩
def ax{G:Prop}(h:R)(e:AH R->G:=by intro q;(repeat' (first|simp only[go_sem, *,AM]|(refine sx ?_ ?_<;>intro a)|refine sy AA fun x c b=>?_|simp(disch:=first|assumption|omega) only[wrap_id,Ru,Ql,slice_int]));exact q.out):G:=e ⟨h⟩
variable{C:DJ}{K:Ab}{fr:Fr}{b n i:Nat}{Q:Eh->St->Prop}
variable{ops:Array Oper}{al:Nat->Bool}{l:List Oper}{e:CA}{h:AD}{bs:Nat}{ds:List Df}{ps:List (Nat×Nat)}{fps:List Fp}{dst:Option Tmp}{st:St}{op:Op}{want:Bool}{az:List AV}{v:AV}{t:Bool}{p:Prop}{x y:Code}
instance(priority:=2000) [Decidable p]:Sp (NR C K fr b x y st Q (.d (.bool (decide p)))) p (¬p) (Wp C K fr b x st Q) (Wp C K fr b y st Q):=⟨mY⟩
instance(priority:=2000) [Decidable p]:Sp (Dm C K fr ops b n al l i dst op st want Q (.d (.bool (decide p)))) p (¬p) (Dm C K fr ops b n al l i dst op st want Q (.d (.bool true))) (Dm C K fr ops b n al l i dst op st want Q (.d (.bool false))):=⟨gK⟩
instance:Sp (NR C K fr b x y st Q (.d (.bool t))) (t=true) (t=false) (Wp C K fr b x st Q) (Wp C K fr b y st Q):=⟨aH⟩
instance:Sp (Dm C K fr ops b n al l i dst op st want Q (.d (.bool t))) (t=true) (t=false) (Dm C K fr ops b n al l i dst op st want Q (.d (.bool true))) (Dm C K fr ops b n al l i dst op st want Q (.d (.bool false))):=⟨Yr⟩
instance(priority:=2000) [Decidable p]:Sp (EP C K fr ops b n al ps fps l i dst op st want Q (.d (.bool (decide p)))) p (¬p) (EP C K fr ops b n al ps fps l i dst op st want Q (.d (.bool true))) (EP C K fr ops b n al ps fps l i dst op st want Q (.d (.bool false))):=⟨gN⟩
instance:Sp (EP C K fr ops b n al ps fps l i dst op st want Q (.d (.bool t))) (t=true) (t=false) (EP C K fr ops b n al ps fps l i dst op st want Q (.d (.bool true))) (EP C K fr ops b n al ps fps l i dst op st want Q (.d (.bool false))):=⟨Ys⟩
instance(priority:=2000) [Decidable p]:Sp (Ea C K fr ops b n al l i az dst e h bs ds Q (Ch v (decide p))) p (¬p) (Ea C K fr ops b n al l i az dst e h bs ds Q (Ch v true)) (Ea C K fr ops b n al l i az dst e h bs ds Q (Ch v false)):=⟨dG⟩
instance(priority:=2000) [Decidable p]:Sp (Ea C K fr ops b n al l i az dst e h bs ds Q (Ch v (!decide p))) (¬p) p (Ea C K fr ops b n al l i az dst e h bs ds Q (Ch v true)) (Ea C K fr ops b n al l i az dst e h bs ds Q (Ch v false)):=⟨ZF⟩
instance:Sp (Ea C K fr ops b n al l i az dst e h bs ds Q (Ch v t)) (t=true) (t=false) (Ea C K fr ops b n al l i az dst e h bs ds Q (Ch v true)) (Ea C K fr ops b n al l i az dst e h bs ds Q (Ch v false)):=⟨iz⟩
instance(priority:=2000) [Decidable p]:Sp (EZ C K fr ops b n al ps fps l i az dst e h bs ds Q (Ch v (decide p))) p (¬p) (EZ C K fr ops b n al ps fps l i az dst e h bs ds Q (Ch v true)) (EZ C K fr ops b n al ps fps l i az dst e h bs ds Q (Ch v false)):=⟨dF⟩
instance(priority:=2000) [Decidable p]:Sp (EZ C K fr ops b n al ps fps l i az dst e h bs ds Q (Ch v (!decide p))) (¬p) p (EZ C K fr ops b n al ps fps l i az dst e h bs ds Q (Ch v true)) (EZ C K fr ops b n al ps fps l i az dst e h bs ds Q (Ch v false)):=⟨ZE⟩
instance:Sp (EZ C K fr ops b n al ps fps l i az dst e h bs ds Q (Ch v t)) (t=true) (t=false) (EZ C K fr ops b n al ps fps l i az dst e h bs ds Q (Ch v true)) (EZ C K fr ops b n al ps fps l i az dst e h bs ds Q (Ch v false)):=⟨iv⟩
instance{α:Type}{f:α->List Al}{l':List α}{sz j:Nat}:Sq (CX C K fr ops b n al l i dst e h bs ds Q (U5 sz (Option.map f l'[j]?))) α (j<l'.length) (fun x=>l'[j]? =some x) (fun x=>x∈l') (fun x=>CX C K fr ops b n al l i dst e h bs ds Q (U5 sz (some (f x)))):=⟨fun h1 h2=>qB h1 fun x hx=>h2 x hx (AS hx)⟩
instance{α:Type}{f:α->List Al}{l':List α}{sz j:Nat}{rd:List Id}:Sq (EA C K fr ops b n al ps fps l i dst e h bs ds Q rd (U5 sz (Option.map f l'[j]?))) α (j<l'.length) (fun x=>l'[j]? =some x) (fun x=>x∈l') (fun x=>EA C K fr ops b n al ps fps l i dst e h bs ds Q rd (U5 sz (some (f x)))):=⟨fun h1 h2=>qA h1 fun x hx=>h2 x hx (AS hx)⟩
instance{s:ByteArray}{j:Nat}{f:UInt8->C0}:Sq (CX C K fr ops b n al l i dst e h bs ds Q (Option.map f s.data.toList[j]?)) UInt8 (j<s.data.toList.length) (fun x=>s.data.toList[j]? =some x) (fun x=>x∈s.data.toList) (fun x=>CX C K fr ops b n al l i dst e h bs ds Q (some (f x))):=⟨fun h1 h2=>qC h1 fun x hx=>h2 x hx (AS hx)⟩
end Go.Abs
namespace Go.Proofs
open Abs
def T3:cfg.T 3=(.some ⟨.int,1,false,false,[(.d (.int .i64 0))],[],0,0,false⟩):=zEW
def T4:cfg.T 4=(.some ⟨.bool,1,false,false,[(.d (.bool false))],[],0,0,false⟩):=zEW
def T5:cfg.T 5=(.some ⟨.int,1,false,false,[(.d (.int .u8 0))],[],0,0,false⟩):=zEW
def T9:cfg.T 9=(.some ⟨.str,1,false,false,[(.d (.str ⟨#[]⟩))],[],0,0,false⟩):=zEW
def r2:cfg.T 22=(.some ⟨.slice,1,false,false,[.d7],[],9,0,false⟩):=zEW
def rB:cfg.T 23=(.some ⟨.slice,1,false,false,[.d7],[],140,0,false⟩):=zEW
def T24:cfg.T 24=(.some ⟨.slice,1,false,false,[.d7],[],147,0,false⟩):=zEW
def w6:cfg.T 26=(.some ⟨.other,4,true,true,[.d7,.d7,.d7,(.d (.int .i64 0))],[(0,1,false),(1,1,false),(2,1,false),(3,1,false)],0,0,false⟩):=zEW
def o4:cfg.T 27=(.some ⟨.slice,1,false,false,[.d7],[],66,0,false⟩):=zEW
def zz:cfg.T 28=(.some ⟨.slice,1,false,false,[.d7],[],114,0,false⟩):=zEW
def T29:cfg.T 29=(.some ⟨.slice,1,false,false,[.d7],[],69,0,false⟩):=zEW
def xn:cfg.T 30=(.some ⟨.slice,1,false,false,[.d7],[],127,0,false⟩):=zEW
def zv:cfg.T 32=(.some ⟨.other,4,true,true,[.d7,.d7,.d7,.d7],[(0,1,false),(1,1,false),(2,1,false),(3,1,false)],0,0,false⟩):=zEW
def xG:cfg.T 33=(.some ⟨.int,1,false,false,[(.d (.int .i64 0))],[],0,0,false⟩):=zEW
def T36:cfg.T 36=(.some ⟨.slice,1,false,false,[.d7],[],3,0,false⟩):=zEW
def vk:cfg.T 38=(.some ⟨.other,4,true,true,[(.d (.int .i64 0)),(.d (.int .i64 0)),(.d (.int .i64 0)),.d7],[(0,1,false),(1,1,false),(2,1,false),(3,1,false)],0,0,false⟩):=zEW
def l5:cfg.T 44=(.some ⟨.slice,1,false,false,[.d7],[],78,0,false⟩):=zEW
def q0:cfg.T 51=(.some ⟨.other,2,true,true,[.d7,(.d (.int .i64 0))],[(0,1,false),(1,1,false)],0,0,false⟩):=zEW
def uB:cfg.T 63=(.some ⟨.slice,1,false,false,[.d7],[],38,0,false⟩):=zEW
def nB:cfg.T 66=(.some ⟨(.flat [.int,.bool]),2,true,true,[(.d (.int .i64 0)),(.d (.bool false))],[(0,1,false),(1,1,false)],0,0,false⟩):=zEW
def T67:cfg.T 67=(.some ⟨.slice,1,false,false,[.d7],[],73,0,false⟩):=zEW
def T69:cfg.T 69=(.some ⟨.other,4,true,true,[(.d (.int .i64 0)),(.d (.int .i64 0)),(.d (.int .i64 0)),.d7],[(0,1,false),(1,1,false),(2,1,false),(3,1,false)],0,0,true⟩):=zEW
def r3:cfg.T 71=(.some ⟨.slice,1,false,false,[.d7],[],88,0,false⟩):=zEW
def T73:cfg.T 73=(.some ⟨.other,1,true,true,[.d7],[(0,1,false)],0,0,false⟩):=zEW
def xk:cfg.T 76=(.some ⟨.int,1,false,false,[(.d (.int .i64 0))],[],0,0,false⟩):=zEW
def T78:cfg.T 78=(.some ⟨.other,5,true,true,[(.d (.int .i64 0)),(.d (.int .i64 0)),(.d (.int .i64 0)),(.d (.int .i64 0)),.d7],[(0,1,false),(1,1,false),(2,1,false),(3,1,false),(4,1,false)],0,0,false⟩):=zEW
def hS:cfg.T 82=(.some ⟨.int,1,false,false,[(.d (.int .i64 0))],[],0,0,false⟩):=zEW
def s4:cfg.T 83=(.some ⟨.slice,1,false,false,[.d7],[],85,0,false⟩):=zEW
def T85:cfg.T 85=(.some ⟨.other,3,true,true,[(.d (.int .i64 0)),(.d (.int .i64 0)),.d7],[(0,1,false),(1,1,false),(2,1,false)],0,0,false⟩):=zEW
def p0:cfg.T 86=(.some ⟨.int,1,false,false,[(.d (.int .i64 0))],[],0,0,false⟩):=zEW
def nQ:cfg.T 88=(.some ⟨(.flat [.int,.int]),2,true,true,[(.d (.int .i64 0)),(.d (.int .i64 0))],[(0,1,false),(1,1,false)],0,0,false⟩):=zEW
def p4:cfg.T 114=(.some ⟨.other,3,true,true,[(.d (.int .i64 0)),(.d (.int .i64 0)),.d7],[(0,1,false),(1,1,false),(2,1,false)],0,0,false⟩):=zEW
def AEh:cfg.T 118=(.some ⟨.ptr,1,false,false,[(.d .wl)],[],0,0,false⟩):=zEW
def tv:cfg.T 122=(.some ⟨.map,1,false,false,[(.d .wd)],[],198,138,false⟩):=zEW
def nC:cfg.T 124=(.some ⟨.other,13,true,true,[.d7,.d7,.d7,.d7,.d7,.d7,.d7,(.d (.int .i64 0)),.d7,.d7,(.d .wd),.d7,(.d (.int .i64 0))],[(0,4,true),(4,4,true),(8,1,false),(9,1,false),(10,1,false),(11,1,false),(12,1,false)],0,0,false⟩):=zEW
def vl:cfg.T 127=(.some ⟨.other,3,true,true,[(.d (.int .i64 0)),(.d (.int .i64 0)),.d7],[(0,1,false),(1,1,false),(2,1,false)],0,0,false⟩):=zEW
def vm:cfg.T 138=(.some ⟨.int,1,false,false,[(.d (.int .i64 0))],[],0,0,false⟩):=zEW
def z2:cfg.T 140=(.some ⟨.other,4,true,true,[(.d (.int .i64 0)),(.d (.int .i64 0)),.d7,.d7],[(0,1,false),(1,1,false),(2,1,false),(3,1,false)],0,0,false⟩):=zEW
def y3:cfg.T 143=(.some ⟨.slice,1,false,false,[.d7],[],187,0,false⟩):=zEW
def AEo:cfg.T 144=(.some ⟨.slice,1,false,false,[.d7],[],189,0,false⟩):=zEW
def nR:cfg.T 145=(.some ⟨.slice,1,false,false,[.d7],[],151,0,false⟩):=zEW
def AEq:cfg.T 147=(.some ⟨.other,3,true,true,[.d7,.d7,.d7],[(0,1,false),(1,1,false),(2,1,false)],0,0,false⟩):=zEW
def AEr:cfg.T 151=(.some ⟨.other,3,true,true,[(.d (.int .i64 0)),.d7,(.d (.int .i64 0))],[(0,1,false),(1,1,false),(2,1,false)],0,0,false⟩):=zEW
def AEs:cfg.T 162=(.some ⟨.other,8,true,true,[.d7,.d7,.d7,(.d (.int .i64 0)),.d7,.d7,.d7,(.d (.bool false))],[(0,4,true),(4,1,false),(5,1,false),(6,1,false),(7,1,false)],0,0,false⟩):=zEW
def AEt:cfg.T 171=(.some ⟨.other,11,true,true,[.d7,.d7,.d7,(.d (.int .i64 0)),.d7,.d7,.d7,.d7,.d7,(.d (.int .i64 0)),(.d (.bool false))],[(0,4,true),(4,4,true),(8,1,false),(9,1,false),(10,1,false)],0,0,false⟩):=zEW
def hX:cfg.T 177=(.some ⟨(.flat [.int]),1,true,true,[(.d (.int .i64 0))],[(0,1,false)],0,0,false⟩):=zEW
def q9:cfg.T 180=(.some ⟨.func,1,false,false,[(.d .kw)],[],0,0,false⟩):=zEW
def uW:cfg.T 187=(.some ⟨(.flat [.int,.int]),2,true,true,[(.d (.int .i64 0)),(.d (.int .i64 0))],[(0,1,false),(1,1,false)],0,0,false⟩):=zEW
def xa:cfg.T 189=(.some ⟨(.flat [.int,.int]),2,true,true,[(.d (.int .i64 0)),(.d (.int .i64 0))],[(0,1,false),(1,1,false)],0,0,false⟩):=zEW
def nz:cfg.T 198=(.some ⟨.func,1,false,false,[(.d .kw)],[],0,0,false⟩):=zEW
def nS:cfg.T 201=(.some ⟨.other,3,true,true,[(.d (.int .i64 0)),(.d (.int .i64 0)),.d7],[(0,1,false),(1,1,false),(2,1,false)],0,0,false⟩):=zEW
def z4:cfg.T 246=(.some ⟨.slice,1,false,false,[.d7],[],4,0,false⟩):=zEW
def AE1:cfg.T 248=(.some ⟨.other,7,true,true,[.d7,.d7,.d7,(.d (.int .i64 0)),.d7,.d7,.d7],[(0,4,true),(4,1,false),(5,1,false),(6,1,false)],0,0,false⟩):=zEW
def AE2:cfg.T 249=(.some ⟨.func,1,false,false,[(.d .kw)],[],0,0,false⟩):=zEW
def u9:cfg.T 289=(.some ⟨(.flat [.int]),1,true,true,[(.d (.int .i64 0))],[(0,1,false)],0,0,false⟩):=zEW
def Vx:cfg.T 300=(.some ⟨.map,1,false,false,[(.d .wd)],[],4,9,false⟩):=zEW
def l0:cfg.T 303=(.some ⟨.iface,1,false,false,[(.d .rc)],[],0,0,false⟩):=zEW
def n8:cfg.T 307=(.some ⟨(.flat []),0,true,true,[],[],0,0,false⟩):=zEW
def n4:cfg.T 308=(.some ⟨(.flat []),0,true,true,[],[],0,0,false⟩):=zEW
def AE7:cfg.T 309=(.some ⟨(.flat []),0,true,true,[],[],0,0,false⟩):=zEW
def u6:cfg.T 310=(.some ⟨(.flat []),0,true,true,[],[],0,0,false⟩):=zEW
def y5:cfg.T 311=(.some ⟨.func,1,false,false,[(.d .kw)],[],0,0,false⟩):=zEW
def AFA:cfg.T 314=(.some ⟨.int,1,false,false,[(.d (.int .i64 0))],[],0,0,false⟩):=zEW
def OA:cfg.T 315=(.some ⟨.map,1,false,false,[(.d .wd)],[],4,3,false⟩):=zEW
def AAg:cfg.mode 20=.auto/\
 cfg.mode 23=.auto/\
 cfg.d9 23 6=[]/\
 cfg.d9 23 11=[]/\
 cfg.d9 23 16=[]/\
 cfg.d9 23 21=[]/\
 cfg.live 23 0=[2,3,5]/\
 cfg.live 23 2=[2,3,6]/\
 cfg.live 23 4=[2,3,7]/\
 cfg.live 23 6=[2,3,8]/\
 cfg.mode 24=.auto/\
 cfg.d9 24 6=[]/\
 cfg.live 24 0=[0,1,5]/\
 cfg.mode 25=.auto/\
 cfg.d9 25 11=[(7,8)]/\
 cfg.live 25 0=[6,7,8,9,19,20,21]/\
 cfg.mode 26=.auto/\
 cfg.mode 27=.auto/\
 cfg.live 27 0=[1,2,4,5,22,23]/\
 cfg.mode 28=.auto/\
 cfg.live 28 0=[1,2,6,7]/\
 cfg.mode 29=.auto/\
 cfg.d9 29 6=[]/\
 cfg.live 29 0=[0,1,5]/\
 cfg.mode 32=.auto/\
 cfg.d9 32 6=[]/\
 cfg.d9 32 15=[]/\
 cfg.live 32 0=[2,3,5]/\
 cfg.live 32 2=[2,3,6,7]/\
 cfg.mode 34=.auto/\
 cfg.d9 34 5=[]/\
 cfg.d9 34 11=[]/\
 cfg.mode 37=.auto/\
 cfg.d9 37 6=[]/\
 cfg.live 37 0=[0,1,5]/\
 cfg.mode 38=.auto/\
 cfg.live 38 0=[1,2,3]/\
 cfg.mode 44=.auto/\
 cfg.mode 51=.own/\
 cfg.d9 52 9=[]:=by(repeat' apply And.intro)<;>kernel_rfl
def AAh:cfg.d9 52 12=[(4,9)]/\
 cfg.d9 52 17=[(5,9)]/\
 cfg.live 52 0=[0,3,13,18,19,20,102,103,104,105,106,107,108,109]/\
 cfg.live 52 2=[0,3,13,40,41,42,102,103,104,105,106,107,108,109]/\
 cfg.live 52 4=[0,3,6,7,13,40,41,42,56,57,58,102,103,104,105,106,107,108,109]/\
 cfg.live 52 6=[0,3,6,7,8,10,13,40,41,42,56,57,58,77,78,79,102,103,104,105,106,107,108,109]/\
 cfg.mode 55=.auto/\
 cfg.d9 55 4=[(4,9),(6,9),(7,9),(8,9)]/\
 cfg.d9 55 5=[]/\
 cfg.d9 55 6=[(4,9),(6,9),(7,9),(8,9)]/\
 cfg.d9 55 11=[]/\
 cfg.d9 55 12=[]/\
 cfg.d9 55 14=[]/\
 cfg.d9 55 15=[]/\
 cfg.alone 55 15 9=true/\
 cfg.mode 56=.auto/\
 cfg.d9 56 1=[(0,2)]/\
 cfg.mode 57=.auto/\
 cfg.d9 57 6=[]/\
 cfg.live 57 0=[0,1,5]/\
 cfg.mode 58=.auto/\
 cfg.mode 59=.raw/\
 cfg.mode 60=.auto/\
 cfg.d9 60 8=[(0,18),(1,18),(5,18),(6,18),(9,18),(11,18),(12,18),(13,18)]/\
 cfg.d9 60 11=[(0,3)]/\
 cfg.live 60 0=[2,3,4,6,9,10]/\
 cfg.mode 61=.auto/\
 cfg.live 61 0=[0,17,18]/\
 cfg.live 61 2=[0,3,4,17,18]/\
 cfg.mode 62=.auto/\
 cfg.mode 63=.auto/\
 cfg.live 63 0=[0,1,2]/\
 cfg.mode 64=.auto/\
 cfg.live 64 0=[1,3]/\
 cfg.live 64 2=[1,3,4,5]/\
 cfg.mode 65=.own/\
 cfg.d9 65 3=[(0,5)]/\
 cfg.d9 65 8=[]/\
 cfg.live 65 0=[3,5,25,26,27]/\
 cfg.mode 66=.auto:=by(repeat' apply And.intro)<;>kernel_rfl
def n3:cfg.d9 66 2=[]/\
 cfg.mode 67=.auto/\
 cfg.d9 67 7=[]/\
 cfg.d9 67 19=[]/\
 cfg.live 67 0=[2,3,5,6,7,8]/\
 cfg.live 67 2=[2,3,5,6,7,8,9,10,11,12]/\
 cfg.live 67 4=[2,3,5,6,7,8,10,14]/\
 cfg.mode 68=.auto/\
 cfg.mode 69=.auto/\
 cfg.mode 70=.auto/\
 cfg.d9 70 4=[]/\
 cfg.live 70 0=[2,3,4,7]/\
 cfg.mode 71=.auto/\
 cfg.mode 72=.auto/\
 cfg.d9 72 4=[(1,6)]/\
 cfg.d9 72 11=[]/\
 cfg.live 72 0=[5,9,11,12,13,14]/\
 cfg.mode 73=.raw/\
 cfg.live 73 0=[0,1,2,3,4,11]/\
 cfg.mode 75=.auto/\
 cfg.d9 75 6=[(5,8),(6,8),(5,9),(6,9),(5,10),(6,10)]/\
 cfg.mode 76=.auto/\
 cfg.mode 77=.auto/\
 cfg.mode 78=.auto/\
 cfg.d9 78 6=[(5,8),(6,8),(5,9),(6,9),(5,10),(6,10)]/\
 cfg.mode 83=.own/\
 cfg.d9 83 8=[]/\
 cfg.d9 83 13=[(6,8),(6,9),(4,10),(5,10),(6,10),(6,12),(10,12),(6,13),(10,13),(4,14),(5,14),(6,14),(8,14),(9,14),(10,14),(8,17),(9,17),(10,17),(12,17),(13,17),(14,17),(12,20),(13,20),(14,20)]/\
 cfg.live 83 0=[1,3,4]/\
 cfg.live 83 2=[1,3,5]/\
 cfg.live 83 4=[3,6]/\
 cfg.live 83 6=[3,7]/\
 cfg.mode 87=.auto/\
 cfg.d9 87 19=[(5,9),(5,11)]/\
 cfg.mode 88=.auto/\
 cfg.d9 88 3=[(7,8)]/\
 cfg.mode 91=.ro/\
 cfg.d9 91 5=[]/\
 cfg.d9 91 11=[]/\
 cfg.d9 91 13=[]:=by(repeat' apply And.intro)<;>kernel_rfl
def w3:cfg.d9 91 14=[(4,9),(6,9),(7,9),(8,9)]/\
 cfg.d9 91 30=[(12,17)]/\
 cfg.d9 91 31=[]/\
 cfg.d9 91 38=[]/\
 cfg.d9 91 45=[]/\
 cfg.d9 91 46=[]/\
 cfg.d9 91 51=[]/\
 cfg.live 91 0=[0,65,66,67]/\
 cfg.live 91 2=[0,4,5,92,93,94]/\
 cfg.live 91 4=[0,4,5,6,7,8,9,92,93,94,155,156]/\
 cfg.live 91 6=[0,4,5,6,7,8,9,92,93,94,172,173]/\
 cfg.live 91 8=[0,4,5,6,7,8,92,93,94,192,193,194]/\
 cfg.live 91 10=[0,4,5,6,7,8,13,92,93,94,192,193,194,255,256,257]/\
 cfg.live 91 12=[0,303,304,305]/\
 cfg.alone 91 5 15=true/\
 cfg.alone 91 11 14=true/\
 cfg.alone 91 13 11=true/\
 cfg.alone 91 30 20=true/\
 cfg.alone 91 31 23=true/\
 cfg.alone 91 45 27=true/\
 cfg.alone 91 51 11=true/\
 cfg.mode 92=.own/\
 cfg.d9 92 1=[(2,4),(2,7),(5,7),(2,10),(5,10),(8,10)]/\
 cfg.mode 93=.ro/\
 cfg.d9 93 1=[(4,9),(6,9),(7,9),(8,9)]/\
 cfg.d9 93 8=[]/\
 cfg.d9 93 9=[]/\
 cfg.mode 94=.ro/\
 cfg.mode 95=.ro/\
 cfg.d9 95 1=[(4,9),(6,9),(7,9),(8,9)]/\
 cfg.mode 96=.own/\
 cfg.mode 100=.auto/\
 cfg.d9 100 1=[(4,9),(6,9),(7,9),(8,9)]/\
 cfg.d9 100 2=[(4,14),(6,14),(7,14),(9,14),(11,14),(12,14),(13,14)]/\
 cfg.d9 100 7=[(4,8)]/\
 cfg.d9 100 8=[]/\
 cfg.d9 100 9=[]/\
 cfg.d9 100 13=[(2,6),(2,8)]/\
 cfg.live 100 0=[0,3,4,5,6,35,36,37]/\
 cfg.alone 100 13 9=true:=by(repeat' apply And.intro)<;>kernel_rfl
def mi:cfg.mode 101=.raw/\
 cfg.d9 101 5=[]/\
 cfg.mode 102=.auto/\
 cfg.d9 102 8=[(0,7)]/\
 cfg.d9 102 12=[]/\
 cfg.live 102 0=[1,2,15,16]/\
 cfg.live 102 2=[2,51,52,53]/\
 cfg.mode 103=.auto/\
 cfg.d9 103 0=[(4,10),(4,12)]/\
 cfg.mode 104=.own/\
 cfg.d9 104 5=[(1,20),(3,20),(5,20),(7,20),(9,20),(11,20),(13,20),(1,22)]/\
 cfg.d9 104 9=[(1,19),(3,19),(5,19),(7,19),(9,19),(11,19),(13,19),(15,19),(17,19)]/\
 cfg.d9 104 13=[(1,12),(1,14)]/\
 cfg.d9 104 18=[(1,20),(3,20),(5,20),(7,20),(9,20),(11,20),(13,20),(1,22)]/\
 cfg.live 104 0=[1,2,3,4]/\
 cfg.live 104 2=[1,2,3,5]/\
 cfg.live 104 4=[1,2,3,5,6,7]/\
 cfg.live 104 6=[1,2,3,8]/\
 cfg.mode 105=.auto/\
 cfg.d9 105 1=[(1,6),(1,8),(1,14),(9,14),(1,17),(9,17)]/\
 cfg.d9 105 2=[(4,9),(6,9),(7,9),(8,9)]/\
 cfg.d9 105 6=[(4,9)]/\
 cfg.d9 105 7=[]/\
 cfg.d9 105 8=[]/\
 cfg.d9 105 10=[(4,8)]/\
 cfg.d9 105 13=[(4,15)]/\
 cfg.d9 105 14=[]/\
 cfg.mode 106=.auto/\
 cfg.d9 106 1=[(4,9),(6,9),(7,9),(8,9)]/\
 cfg.d9 106 2=[(4,9),(6,9),(7,9),(8,9)]/\
 cfg.d9 106 9=[]/\
 cfg.d9 106 12=[(4,6),(6,9),(6,11),(6,12),(6,13),(4,14),(6,17),(14,17),(6,19),(14,19),(6,20),(14,20),(6,22),(14,22),(4,23)]/\
 cfg.d9 106 13=[]/\
 cfg.d9 106 14=[(4,11),(7,11),(9,11),(4,13)]/\
 cfg.d9 106 15=[(2,6),(2,8)]/\
 cfg.live 106 0=[0,3,4,6,7,8,9]/\
 cfg.mode 107=.auto/\
 cfg.mode 108=.raw/\
 cfg.mode 109=.auto/\
 cfg.mode 110=.auto:=by(repeat' apply And.intro)<;>kernel_rfl
def AAl:cfg.d9 110 1=[(4,9),(6,9),(7,9),(8,9)]/\
 cfg.d9 110 13=[]/\
 cfg.d9 110 14=[]/\
 cfg.live 110 0=[0,3,4,5,20,21,22]/\
 cfg.mode 111=.auto/\
 cfg.d9 111 1=[]/\
 cfg.live 111 0=[0,3,15,16,17]/\
 cfg.mode 112=.auto/\
 cfg.d9 112 1=[(4,9),(6,9),(7,9),(8,9)]/\
 cfg.d9 112 2=[(4,9),(6,9),(7,9),(8,9)]/\
 cfg.d9 112 3=[(1,6),(3,6),(1,8),(3,8),(5,8),(6,8)]/\
 cfg.d9 112 7=[(1,11)]/\
 cfg.d9 112 12=[(1,11)]/\
 cfg.d9 112 17=[(5,17),(10,17),(11,17),(5,19)]/\
 cfg.d9 112 22=[(5,10),(5,12)]/\
 cfg.d9 112 24=[(5,7)]/\
 cfg.d9 112 31=[(2,7),(7,9)]/\
 cfg.d9 112 33=[]/\
 cfg.live 112 0=[0,3,4,5,6,43,44]/\
 cfg.live 112 2=[0,3,4,5,6,64,65]/\
 cfg.live 112 4=[0,3,4,5,6,84,85,86]/\
 cfg.live 112 6=[0,3,4,5,6,117,118,119]/\
 cfg.live 112 8=[0,3,4,6,175,176,177]/\
 cfg.alone 112 31 10=true/\
 cfg.alone 112 33 9=true/\
 cfg.mode 113=.auto/\
 cfg.d9 113 1=[(4,9),(6,9),(7,9),(8,9)]/\
 cfg.d9 113 2=[(2,9),(2,10),(2,12),(9,16),(10,16),(12,16),(9,18),(10,18),(12,18)]/\
 cfg.alone 113 2 19=true/\
 cfg.mode 114=.auto/\
 cfg.d9 114 1=[(5,12),(7,12),(9,12),(5,14)]/\
 cfg.mode 115=.auto/\
 cfg.d9 115 7=[]/\
 cfg.live 115 0=[1,3,4,5]/\
 cfg.mode 116=.auto/\
 cfg.d9 116 6=[(12,17)]/\
 cfg.d9 116 11=[]/\
 cfg.live 116 0=[5,6,11,13,14]/\
 cfg.mode 117=.auto/\
 cfg.mode 118=.auto:=by(repeat' apply And.intro)<;>kernel_rfl
def AAm:cfg.mode 119=.auto/\
 cfg.mode 120=.auto/\
 cfg.mode 121=.auto/\
 cfg.live 121 0=[1,2,5,6]/\
 cfg.mode 122=.auto/\
 cfg.live 122 0=[1,3,4]/\
 cfg.mode 123=.auto/\
 cfg.mode 124=.auto/\
 cfg.mode 127=.auto/\
 cfg.live 127 0=[0,3]/\
 cfg.mode 128=.auto/\
 cfg.d9 128 6=[]/\
 cfg.d9 128 24=[]/\
 cfg.live 128 0=[1,3]/\
 cfg.live 128 2=[1,4]/\
 cfg.live 128 4=[1,5,6]/\
 cfg.live 128 6=[1,5,6,7,8]/\
 cfg.live 128 8=[1,5,6,7,8,9,10]/\
 cfg.live 128 10=[5,11]/\
 cfg.mode 129=.auto/\
 cfg.d9 129 20=[]/\
 cfg.d9 129 22=[]/\
 cfg.d9 129 23=[]/\
 cfg.d9 129 24=[]/\
 cfg.live 129 0=[0,2,6,10]/\
 cfg.live 129 3=[0,6,11,12]/\
 cfg.mode 143=.auto/\
 cfg.d9 143 8=[(4,10)]/\
 cfg.d9 143 10=[(4,9),(6,9),(7,9),(8,9)]/\
 cfg.d9 143 11=[(4,9),(6,9),(7,9),(8,9)]/\
 cfg.d9 143 12=[]/\
 cfg.d9 143 13=[(4,11),(6,11),(8,11),(4,12),(6,12)]/\
 cfg.live 143 0=[0,2,3,5,8,9]/\
 cfg.mode 144=.auto/\
 cfg.d9 144 1=[(4,9),(6,9),(7,9),(8,9)]/\
 cfg.d9 144 2=[(1,4),(1,6),(4,6)]/\
 cfg.d9 144 6=[(1,11)]/\
 cfg.d9 144 10=[(1,11)]/\
 cfg.d9 144 14=[(5,24),(10,24),(11,24),(5,26)]/\
 cfg.d9 144 18=[(5,17),(5,19)]:=by(repeat' apply And.intro)<;>kernel_rfl
def u5:cfg.d9 144 19=[(5,7)]/\
 cfg.d9 144 24=[(2,14),(4,14),(6,14),(14,16)]/\
 cfg.d9 144 25=[]/\
 cfg.live 144 0=[0,2,5,8,9,10]/\
 cfg.live 144 2=[0,2,5,8,9,11]/\
 cfg.live 144 4=[0,2,5,8,9,12]/\
 cfg.live 144 6=[0,2,5,8,9,13]/\
 cfg.live 144 8=[0,2,5,8,9,14]/\
 cfg.mode 145=.own/\
 cfg.mode 146=.ro/\
 cfg.mode 147=.ro/\
 cfg.live 147 0=[0,13,14,15]/\
 cfg.mode 148=.own/\
 cfg.live 148 0=[1,5,8,9,10]/\
 cfg.mode 150=.own/\
 cfg.live 150 0=[1,5,8,9,10]/\
 cfg.d9 151 1=[(1,6),(3,6)]/\
 cfg.mode 152=.own/\
 cfg.mode 153=.own/\
 cfg.live 153 0=[1,5,8,9,10]/\
 cfg.mode 154=.own/\
 cfg.d9 154 1=[(1,8),(3,8),(5,8)]/\
 cfg.mode 155=.own/\
 cfg.mode 156=.own/\
 cfg.live 156 0=[1,5,8,9,10]/\
 cfg.d9 157 1=[(1,6),(3,6)]/\
 cfg.d9 158 4=[]/\
 cfg.live 158 0=[0,1,3]/\
 cfg.live 158 2=[0,1,3,4]/\
 cfg.mode 159=.auto/\
 cfg.live 159 0=[0,3,4]/\
 cfg.mode 160=.own/\
 cfg.mode 161=.raw/\
 cfg.d9 161 5=[]/\
 cfg.mode 162=.raw/\
 cfg.live 162 0=[0,1,5,6]/\
 cfg.mode 163=.ro/\
 cfg.d9 163 1=[]/\
 cfg.mode 164=.auto/\
 cfg.d9 164 9=[]:=by(repeat' apply And.intro)<;>kernel_rfl
def AAo:cfg.d9 164 15=[]/\
 cfg.live 164 0=[0,1,4]/\
 cfg.live 164 2=[0,5,6]/\
 cfg.live 164 4=[0,7]/\
 cfg.mode 165=.auto/\
 cfg.mode 166=.auto/\
 cfg.mode 167=.auto/\
 cfg.live 167 0=[0,1,5]/\
 cfg.mode 168=.auto/\
 cfg.mode 169=.auto/\
 cfg.mode 170=.auto/\
 cfg.d9 170 4=[(2,14),(4,14),(6,14)]/\
 cfg.live 170 0=[0,2,4,6]/\
 cfg.live 170 2=[0,2,4,7]/\
 cfg.mode 180=.ro/\
 cfg.mode 181=.own/\
 cfg.live 181 0=[1,5,8,9,10]/\
 cfg.mode 183=.own/\
 cfg.live 183 0=[1,5,8,9,10]/\
 cfg.mode 185=.ro/\
 cfg.live 185 0=[0,1,7,8]/\
 cfg.mode 186=.auto/\
 cfg.mode 187=.auto/\
 cfg.live 187 0=[0,2,5,9,10]/\
 cfg.mode 188=.auto/\
 cfg.d9 188 5=[]/\
 cfg.live 188 0=[2,3,5,6]/\
 cfg.mode 190=.own/\
 cfg.d9 190 7=[(0,4),(4,6),(4,7),(0,8),(2,8),(3,8),(4,8),(4,10),(8,10),(4,11),(8,11),(0,12),(2,12),(3,12),(4,12),(6,12),(7,12),(8,12)]/\
 cfg.live 190 0=[1,24,25,26]/\
 cfg.mode 199=.auto/\
 cfg.mode 200=.auto/\
 cfg.live 200 0=[0,5,6]/\
 cfg.mode 201=.auto/\
 cfg.d9 201 1=[]/\
 cfg.d9 201 4=[(4,7),(5,7)]/\
 cfg.d9 201 14=[]/\
 cfg.d9 201 25=[]/\
 cfg.d9 201 26=[(4,9),(6,9),(7,9),(8,9)]/\
 cfg.d9 201 32=[(2,6)]:=by(repeat' apply And.intro)<;>kernel_rfl
def si:cfg.rx 50=some 177:=Eq.trans (b:=cfg.rx 50) rfl zEW
def Wu:cfg.rx 189=some 289:=Eq.trans (b:=cfg.rx 189) rfl zEW
def m9:cfg.live 201 1=[0,2,6,154,155,156]/\
 cfg.live 201 3=[0,2,6,11,190,191,192]/\
 cfg.live 201 5=[0,2,6,207,208,209]/\
 cfg.live 201 7=[0,2,220,221,222]/\
 cfg.alone 201 4 10=true/\
 cfg.alone 201 14 25=true/\
 cfg.alone 201 32 8=true/\
 cfg.mode 202=.auto/\
 cfg.mode 210=.own/\
 cfg.mode 211=.auto/\
 cfg.mode 212=.auto/\
 cfg.mode 213=.auto/\
 cfg.d9 213 23=[]/\
 cfg.live 213 0=[1,2,31,32,33]/\
 cfg.live 213 2=[1,2,52,53,54]/\
 cfg.live 213 4=[1,2,7,72,73,74]/\
 cfg.live 213 6=[1,2,7,9,72,73,74,94,95,96]/\
 cfg.alone 213 23 29=true/\
 cfg.mode 214=.auto/\
 cfg.mode 215=.auto/\
 cfg.live 215 0=[2,5,9,10,11]/\
 cfg.mode 216=.auto/\
 cfg.live 216 0=[0,1,7,8]/\
 cfg.mode 217=.auto/\
 cfg.live 217 1=[1,4,73,74,75]/\
 cfg.mode 218=.auto/\
 cfg.mode 219=.auto/\
 cfg.mode 220=.auto/\
 cfg.live 220 0=[0,1,7,8]/\
 cfg.mode 236=.auto/\
 cfg.mode 237=.auto/\
 cfg.mode 238=.auto/\
 cfg.mode 239=.auto/\
 cfg.mode 240=.auto:=by(repeat' apply And.intro)<;>kernel_rfl
attribute [go_sem] T3 T4 T5 T9 r2 rB T24 w6 o4 zz T29 xn zv xG T36 vk l5 q0 uB nB T67 T69 r3 T73 xk T78 hS s4 T85 p0 nQ p4 AEh tv nC vl vm z2 y3 AEo nR AEq AEr AEs AEt hX q9 uW xa nz nS z4 AE1 AE2 u9 Vx l0 n8 n4 AE7 u6 y5 AFA OA si Wu AAg AAh n3 w3 mi AAl AAm u5 AAo m9
inductive B3 where
 |mk (op n:Int) (kids:List B3)
def B3.op:B3->Int|.mk o _ _=>o
def B3.n:B3->Int|.mk _ n _=>n
def B3.kids:B3->List B3|.mk _ _ k=>k
structure Cm where
 kind:Int
 n:Int
 deriving DecidableEq
structure C8 where
 op:Int
 n:Int
 args:List B3
 kids:List Int
structure Ik where
 at_:Int
 many:Int
structure PA where
 pp:Int
 node:Int
structure Gf where
 at_:Int
 eq:List Int
 node:Int
structure CJ where
 be:List Ik
 ac:List PA
 rules:List Gf
structure AX where
 free:List ByteArray
 nodes:List C8
 defs:List CJ
 main:Int
structure Bl where
 pp:Int
 dead:Bool
 deriving DecidableEq
structure BA where
 f9:Int
 at_:Int
 env:List Cm
structure HD where
 group:Int
 index:Int
 at_:Int
 queue:List (List Cm)
structure Gg where
 at_:Int
 node:Int
 env:List Cm
structure BU where
 ac:List Bl
 ce:List BA
 be:List HD
 waits:List Gg
structure FH where
 wait:Int
 group:Int
 wn:Int
 picks:List Int
structure Eg where
 deed:Int
 at_:Int
 n:Int
 m:Int
 lc:List Cm
mutual
def BT:B3->List Al
 |.mk op n kids=>[.int .i64 op,.int .i64 n,.bv (TR kids)]
def TR:List B3->List (List Al)
 |[]=>[]
 |x::l=>BT x::TR l
end
def UY: ∀l,TR l=l.map BT
 |[]=>rfl
 |x::l=>by simp[TR,UY l]
def XB(x:B3):BT x=[.int .i64 x.op,.int .i64 x.n,.bv (x.kids.map BT)]:=by
 cases x;simp[BT,UY,B3.op,B3.n,B3.kids]
def B3.ind{p:B3->Prop}(h: ∀op n b,(∀k∈b,p k)->p (.mk op n b)): ∀x,p x:=by
 intro x;refine B3.rec (motive_1:=p) (motive_2:=fun l=> ∀k∈l,p k) (fun op n b f=>h op n b f) AG (fun a l e h2 k c=>?_) x;rcases D0.1 c with rfl|c
 .exact e
 .exact h2 k c
theorem B3.op_mk(o n:Int)(k:List B3):(B3.mk o n k).op=o:=rfl
theorem B3.n_mk(o n:Int)(k:List B3):(B3.mk o n k).n=n:=rfl
theorem B3.kids_mk(o n:Int)(k:List B3):(B3.mk o n k).kids=k:=rfl
def AL(n:Int):List Al:=[.int .i64 n]
def Br(s:ByteArray):List Al:=[.str s]
def AN(v:Cm):List Al:=[.int .i64 v.kind,.int .i64 v.n]
def Bc(x:C8):List Al:=[.int .i64 x.op,.int .i64 x.n,.bv (x.args.map BT),.bv (x.kids.map AL)]
def BD(c:Ik):List Al:=[.int .i64 c.at_,.int .i64 c.many]
def Ay(s:PA):List Al:=[.int .i64 s.pp,.int .i64 s.node]
def BC(r:Gf):List Al:=[.int .i64 r.at_,.bv (r.eq.map AL),.int .i64 r.node]
def B4(d:CJ):List Al:=[.bv (d.be.map BD),.bv (d.ac.map Ay),.bv (d.rules.map BC)]
def Aw(s:Bl):List Al:=[.int .i64 s.pp,.bool s.dead]
def BG(g:BA):List Al:=[.int .i64 g.f9,.int .i64 g.at_,.bv (g.env.map AN)]
def BJ(m:List Cm):List Al:=[.bv (m.map AN)]
def Cy(c:HD):List Al:=[.int .i64 c.group,.int .i64 c.index,.int .i64 c.at_,.bv (c.queue.map BJ)]
def Ae(w:Gg):List Al:=[.int .i64 w.at_,.int .i64 w.node,.bv (w.env.map AN)]
def Dk(x:Eg):List Al:=[.int .i64 x.deed,.int .i64 x.at_,.int .i64 x.n,.int .i64 x.m,.bv (x.lc.map AN)]
def Cr(x:FH):List Al:=[.int .i64 x.wait,.int .i64 x.group,.int .i64 x.wn,.bv (x.picks.map AL)]
def TS(p:AX):List Al:=[.bv (p.free.map Br),.bv (p.nodes.map Bc),.bv (p.defs.map B4),.int .i64 p.main]
def PT(s:BU):List Al:=[.bv (s.ac.map Aw),.bv (s.ce.map BG),.bv (s.be.map Cy),.bv (s.waits.map Ae)]
attribute [go_sem] XB AL Br AN Bc BD Ay BC B4 Aw BG BJ Cy Ae Dk Cr B3.op_mk B3.n_mk B3.kids_mk
def slice_int{l:List Int}{g:G}{k:IntKind}{m:Int}(a:0<=m)(b:m<=l.length):GZ g .slice 1 (.d (.bv (l.map AL))) none (some (.d (.int k m))) none=some (.d (.bv ((l.take m.toNat).map AL))):=jU (fun _=>rfl) a b
def i64(n:Int):Prop:= -9223372036854775808<=n/\n<9223372036854775808
def wrap_id{n:Int}(f: -9223372036854775808<=n)(h2:n<9223372036854775808):IntKind.i64.wrap n=n:=by
 have c:IntKind.i64.bits=64:=rfl;have e:IntKind.i64.signed=true:=rfl;simp only[IntKind.wrap,c,e,FD,Ap];have a:(2 ^ 64:Int)=18446744073709551616:=AZ;have b:(2 ^ (64-1):Int)=9223372036854775808:=AZ;rw[a,b];split<;>omega
noncomputable abbrev kT:=KL Tryz.prog cfg
abbrev pC(p:AX):List AV:=[.d (.bv (p.free.map Br)),.d (.bv (p.nodes.map Bc)),.d (.bv (p.defs.map B4)),.d (.int .i64 p.main)]
abbrev sC(s:BU):List AV:=[.d (.bv (s.ac.map Aw)),.d (.bv (s.ce.map BG)),.d (.bv (s.be.map Cy)),.d (.bv (s.waits.map Ae))]
def AR:=And.intro @wrap_id (And.intro @Ru (And.intro @Ql @slice_int))
def B3.formed(size:Int):B3->Bool
 |.mk op n kids=>
  if op=1 then decide (kids.length=0)&&(decide (-1000000000<=n)&&decide (n<=1000000000))
  else if op=2 then decide (kids.length=0)&&(decide (0<=n)&&decide (n<size))
  else if op<3 then false
  else if 7<op then false
  else if n=0 then match kids with
   |[a,b]=>a.formed size&&b.formed size
   |_=>false
  else false
def RM{α:Type}{e:List α}(f:e.length=2): ∃a b,e=[a,b]:=by
 rcases e with _|⟨a,_|⟨b,_|⟨c,l⟩⟩⟩<;>simp at f;exact⟨a,b,rfl⟩
@[go_sem] theorem AC6(size:Int)(x:B3):BX kT 123 [.agg [nI x.op,nI x.n,.d (.bv (x.kids.map BT))],nI size] []=.ok (.ret (.d (.bool (x.formed size))),[]):=by
  induction x using B3.ind with
  |h op n j e=>
  simp only[B3.op_mk,B3.n_mk,B3.kids_mk];refine Az Tryz.func123 ?_;rcases j with _|⟨a,_|⟨b,_|⟨c,l⟩⟩⟩
  .exact zAP
  .exact zAP
  .have k:=e a AG;have m:=e b AG;exact zAP
  .exact zAP
@[go_sem] theorem AC9(k n:Int):BX kT 119 [.agg [nI k,nI n]] []=.ok (.ret (nI (if k=1 then n else 0)),[]):=by
  refine Az Tryz.func119 ?_;exact au
@[go_sem] theorem ACW(k n:Int):BX kT 124 [.agg [nI k,nI n]] []=.ok (.ret (nI (if k=1 then n else 0)),[]):=by
  refine Az Tryz.func124 ?_;exact au
@[go_sem] theorem AEA(t:Bool):BX kT 120 [.d (.bool t)] []=.ok (.ret (nI (if t=true then 1 else 0)),[]):=by
  refine Az Tryz.func120 ?_;exact au;all_goals grind
def MQ(n:Int):Int:=min (max n (-1000000000)) 1000000000
@[go_sem] theorem AC4(n:Int):BX kT 77 [nI n] []=.ok (.ret (nI (MQ n)),[]):=by
  refine Az Tryz.func77 ?_;refine aw ?_;all_goals grind [MQ]
def cd(v:Cm):Int:=if v.kind=1 then v.n else 0
def H2(op a b:Int):Int:=if op=3 then IntKind.i64.wrap (a+b)else if op=4 then IntKind.i64.wrap (a-b)else if op=5 then IntKind.i64.wrap (a*b)else if op=6 then(if a<b then 1 else 0)else if a=b then 1 else 0
def B3.value(env:List Cm):B3->Cm
 |.mk op n kids=>
  if op=1 then⟨1,n⟩
  else if op=2 then(env[n.toNat]?).getD ⟨0,0⟩
  else match kids with
   |[a,b]=>⟨1,MQ (H2 op (cd (a.value env)) (cd (b.value env)))⟩
   |_=>⟨0,0⟩
def SQ(env:List Cm)(n:Int)(e:List B3):(B3.mk 1 n e).value env=⟨1,n⟩:=by
 exact zDr
def P5(env:List Cm)(n:Int)(e:List B3):(B3.mk 2 n e).value env=(env[n.toNat]?).getD ⟨0,0⟩:=by
 exact zDr
def SO(env:List Cm)(op n:Int)(a b:B3)(c: ¬op=1)(h2: ¬op=2):(B3.mk op n [a,b]).value env=⟨1,MQ (H2 op (cd (a.value env)) (cd (b.value env)))⟩:=by
 simp[B3.value,c,h2]
def Nd{size n:Int}{e:List B3}(h:(B3.mk 2 n e).formed size=true):0<=n/\n<size:=by
 rcases e with _|⟨a,_|⟨b,_|⟨c,l⟩⟩⟩<;>simp[B3.formed]at h;exact h
def PW{size op n:Int}{e:List B3}(h:(B3.mk op n e).formed size=true)(f: ¬op=1)(h2: ¬op=2):3<=op/\op<=7/\n=0/\ ∃a b,e=[a,b]/\a.formed size=true/\b.formed size=true:=by
 rcases e with _|⟨a,_|⟨b,_|⟨c,l⟩⟩⟩<;>simp[B3.formed,f,h2]at h;exact⟨h.1,h.2.1,h.2.2.1,a,b,rfl,h.2.2.2⟩
@[go_sem] theorem rH(env:List Cm)(x:B3)(e:x.formed env.length=true):BX kT 78 [.agg [nI x.op,nI x.n,.d (.bv (x.kids.map BT))],.d (.bv (env.map AN))] []=.ok (.ret (.agg [nI ((x.value env).kind),nI ((x.value env).n)]),[]):=by
  induction x using B3.ind with
  |h op n w c=>
  simp only[B3.op_mk,B3.n_mk,B3.kids_mk];refine Az Tryz.func78 ?_;by_cases f:op=1
  .exact zBY
  by_cases h2:op=2
  .exact zAy
  obtain⟨o,p,q,a,b,rfl,k,l⟩:=PW e f h2;have r:=c a AG k;have s:=c b AG l;clear c e;rw[SO env op n a b f h2];generalize a.value env=u at*;generalize b.value env=v at*
  (repeat' (first|simp only[go_sem, *]|(refine sx ?_ ?_<;>intro g)|refine sy AA fun x j i=>?_|simp(disch:=first|assumption|omega) only[AR]))
  all_goals grind [cd,MQ,H2]
@[go_sem] theorem xq(env:List Cm)(x:B3)(e:x.formed env.length=true):BX kT 75 [.agg [nI x.op,nI x.n,.d (.bv (x.kids.map BT))],.d (.bv (env.map AN))] []=.ok (.ret (.agg [nI ((x.value env).kind),nI ((x.value env).n)]),[]):=by
  induction x using B3.ind with
  |h op n w c=>
  simp only[B3.op_mk,B3.n_mk,B3.kids_mk];refine Az Tryz.func75 ?_;by_cases f:op=1
  .exact zBY
  by_cases h2:op=2
  .exact zAy
  obtain⟨o,p,q,a,b,rfl,k,l⟩:=PW e f h2;have r:=c a AG k;have s:=c b AG l;clear c e;rw[SO env op n a b f h2];generalize a.value env=u at*;generalize b.value env=v at*
  (repeat' (first|simp only[go_sem, *]|(refine sx ?_ ?_<;>intro g)|refine sy AA fun x j i=>?_|simp(disch:=first|assumption|omega) only[AR]))
  all_goals grind [cd,MQ,H2]
mutual
def B3.nodesM:B3->Int->Int
 |.mk _ _ kids,most=>Gv kids 1 most
def Gv:List B3->Int->Int->Int
 |[],n,_=>n
 |k::l,n,most=>if n<=most then Gv l (n+k.nodesM (most-n)) most else n
end
mutual
def R5: ∀(x:B3) (a:Int),0<=a->1<=x.nodesM a/\x.nodesM a<=a+1
 |.mk op n b,a,h=>by
  rw[B3.nodesM];exact Xi b 1 a AA AA
def Xi: ∀(l:List B3) (n a:Int),1<=n->n<=a+1->1<=Gv l n a/\Gv l n a<=a+1
 |[],n,a,h1,h2=>by simp[Gv];omega
 |k::l,n,a,h1,h2=>by
  rw[Gv];split
  .rename_i h;have:=R5 k (a-n) AA;exact Xi l _ a AA AA
  .omega
end
def cb(l:List B3)(n a:Int)(h: ¬n<=a):Gv l n a=n:=by
 cases l<;>simp[Gv,h]
variable{α:Type}{l:List α}
def Ag{i:Nat}{x:α}(h:l[i]? =some x):l.drop i=x::l.drop (i+1):=by
 exact zB3
def AK{i:Nat}{x:α}(h:l[i]? =some x):i<l.length:=(BV.1 h).1
@[go_sem] theorem Sj(x:B3)(b:Int)(f:0<=b)(g:b<=60):BX kT 121 [.agg [nI x.op,nI x.n,.d (.bv (x.kids.map BT))],nI b] []=.ok (.ret (nI (x.nodesM b)),[]):=by
  revert b
  induction x using B3.ind with
  |h op n e l=>
  intro b f g;simp only[B3.op_mk,B3.n_mk,B3.kids_mk]at*;refine Az Tryz.func121 ?_;refine aw ?_;refine rounds (S:=fun a:Nat×Int=>⟨[(1,nI b),(2,.ptr [0,0] 0),(5,nI a.2),(6,nI a.1)],[([0,0],.box [nI op,nI n,.d (.bv (e.map BT))])],1,[]⟩)
   (Inv:=fun a=>a.1<=e.length/\(a.1:Int)+1<=a.2/\a.2<=b+1/\Gv e 1 b=Gv (e.drop a.1) a.2 b) (m:=fun a=>e.length-a.1) (a:=(0,1)) ⟨AG,AG,Aa,AG⟩ ?_
  rintro⟨i,c⟩ ⟨h2,h3,h4,h5⟩ IH;dsimp only at*
  (repeat' (first|simp only[go_sem, *]|(refine sx ?_ ?_<;>intro p)|refine sy AA fun x k q=>?_|simp(disch:=first|assumption|omega) only[AR,l]))
  .have o:=R5 x (b-c) AA;have j:Gv (e.drop i) c b=Gv (e.drop (i+1)) (c+x.nodesM (b-c)) b:=by
    rw[Ag k,Gv,D4 Bw]
   rw[wrap_id AA AA];simpa only[Int.natCast_add,Int.cast_ofNat_Int]using IH.1 (i+1,c+x.nodesM (b-c)) AU ⟨AU,AU,AU,by dsimp only;rw[h5,j]⟩
  .rw[B3.nodesM,h5,cb _ _ _ Bw]
  .rw[B3.nodesM,h5,EX AA];rfl
mutual
def B3.size:B3->Nat
 |.mk _ _ kids=>1+FB kids
def FB:List B3->Nat
 |[]=>0
 |k::l=>k.size+FB l
end
mutual
def Xj: ∀(x:B3) (a:Int),0<=a->((x.size:Int)<=a->x.nodesM a=x.size)/\(a<x.size->a<x.nodesM a)
 |.mk op n c,a,h=>by
  rw[B3.nodesM,B3.size];have:=Xh c 1 a AA;constructor
  .intro b;rw[this.1 AA];omega
  .intro b;exact this.2 AA
def Xh: ∀(l:List B3) (n a:Int),n<=a+1->(n+FB l<=a->Gv l n a=n+FB l)/\(a<n+FB l->a<Gv l n a)
 |[],n,a,h1=>by
  simp[Gv,FB]
 |k::l,n,a,h1=>by
  rw[Gv,FB];split
  .rename_i h;have h2:=Xj k (a-n) AA;have f:=R5 k (a-n) AA;have b:=Xh l (n+k.nodesM (a-n)) a AA;by_cases e:(k.size:Int)<=a-n
   .rw[h2.1 e]at b⊢;constructor
    .intro c;rw[b.1 AA];omega
    .intro c;exact b.2 AA
   .have:=h2.2 AA;constructor
    .intro c;omega
    .intro c;exact b.2 AA
  .omega
end
mutual
def B3.depth:B3->Nat
 |.mk _ _ kids=>FM kids+1
def FM:List B3->Nat
 |[]=>0
 |k::l=>max k.depth (FM l)
end
mutual
def aU: ∀(x:B3),x.depth<=x.size
 |.mk op n a=>by
  rw[B3.depth,B3.size];have:=W3 a;omega
def W3: ∀(l:List B3),FM l<=FB l
 |[]=>by simp[FM,FB]
 |k::l=>by
  rw[FM,FB];have:=aU k;have:=W3 l;omega
end
def Va{k:B3}: ∀{l:List B3},k∈l->k.size<=FB l
 |[],h=>by cases h
 |x::l,h=>by
  rw[FB];rcases D0.1 h with rfl|h
  .omega
  .have:=Va h;omega
def Vb(x:B3):1<=x.size:=by cases x;simp[B3.size]
def Xy: ∀(l:List B3),l.length<=FB l
 |[]=>AG
 |x::l=>by
  have:=Vb x;have:=Xy l;simp[FB];omega
@[go_sem] theorem ABB(x:B3)(f:x.size<=60):BX kT 122 [.agg [nI x.op,nI x.n,.d (.bv (x.kids.map BT))]] []=.ok (.ret (nI x.depth),[]):=by
  revert f
  induction x using B3.ind with
  |h op n b g=>
  intro f;simp only[B3.op_mk,B3.n_mk,B3.kids_mk]at*;have t:=Xy b;have u:FB b<=59:=by rw[B3.size]at f;omega
  clear f;have g: ∀k∈b,BX kT 122 [.agg [nI k.op,nI k.n,.d (.bv (k.kids.map BT))]] []=.ok (.ret (nI k.depth),[]):=fun k j=>g k j (by have:=Va j;omega);refine Az Tryz.func122 ?_;refine aw ?_;refine rounds (S:=fun a:Nat×Nat=>⟨[(1,.ptr [0,0] 0),(3,nI a.2),(4,nI a.1)],[([0,0],.box [nI op,nI n,.d (.bv (b.map BT))])],1,[]⟩)
   (Inv:=fun a=>a.1<=b.length/\a.2<=60/\FM b=max a.2 (FM (b.drop a.1))) (m:=fun a=>b.length-a.1) (a:=(0,0)) ⟨AG,AG,AG⟩ ?_
  rintro⟨i,c⟩ ⟨h2,h3,h4⟩ IH;dsimp only at*
  (repeat' (first|simp only[go_sem, *]|(refine sx ?_ ?_<;>intro s)|refine sy AA fun x o l=>?_|simp(disch:=first|assumption|omega) only[AR,g]))
  .have p:FM (b.drop i)=max x.depth (FM (b.drop (i+1))):=by
    rw[Ag o,FM]
   have q:=aU x;have r:=Va l;have e:(if (x.depth:Int)>(c:Int)then(x.depth:Int)else(c:Int))=((max c x.depth:Nat):Int):=by split<;>omega
   rw[e];simpa only[Int.natCast_add,Int.cast_ofNat_Int]using IH.1 (i+1,max c x.depth) AU ⟨AU,AU,AU⟩
  .rw[B3.depth,h4,EX AA];simp[FM]
def B3.ok(size:Int)(x:B3):Bool:=decide (x.size<=60)&&(decide (x.depth<=12)&&x.formed size)
@[go_sem] theorem y6(size:Int)(x:B3):BX kT 76 [.agg [nI x.op,nI x.n,.d (.bv (x.kids.map BT))],nI size] []=.ok (.ret (.d (.bool (x.ok size))),[]):=by
  have a:=Xj x 60 AA;refine Az Tryz.func76 ?_;by_cases f:x.size<=60
  .have h2:=a.1 AA;exact zBM
  .have h2:=a.2 AA;exact zBM
def Cm.ok(v:Cm):Bool:=decide (1<=v.kind)&&(decide (v.kind<=4)&&(!decide (v.kind=1)||(decide (-1000000000<=v.n)&&decide (v.n<=1000000000))))
def C5(n:Int):AV:=.iface 177 (.agg [nI n])
def fm(n:Int):flat (C5 n)=true:=by simp[C5,flat,HG,FX]
attribute [go_sem] fm
@[go_sem] theorem AEO(n:Int):BX kT 107 [nI n] []=.ok (.ge (C5 n),[]):=by
  refine Az Tryz.func107 ?_
  (repeat' (first|simp only[go_sem, *,C5]|(refine sx ?_ ?_<;>intro a)|refine sy AA fun x c b=>?_|simp(disch:=first|assumption|omega) only[AR]))
@[go_sem] theorem AEb(t:Bool):BX kT 62 [.d (.bool t)] []=Ch (C5 2) t:=by
  cases t
  .rw[LP];refine Az Tryz.func62 ?_;exact au
  .rw[Mw];refine Az Tryz.func62 ?_;exact au
def Xm(x:B3)(size depth left:Int):Prop:=(x.size:Int)<=left/\depth+x.depth<=13/\x.formed size=true
def vb(x:B3)(size:Int):Xm x size 1 60↔x.ok size=true:=by
 simp only[Xm,B3.ok,AP,Ap];constructor
 .rintro⟨h1,h2,h3⟩;exact⟨AA,AA,h3⟩
 .rintro⟨h1,h2,h3⟩;exact⟨AA,AA,h3⟩
end Go.Proofs
namespace Go.Abs
variable{P:Program}{C:DJ}{K:Ab}{fr:Fr}{b n i:Nat}{Q:Eh->St->Prop}
variable{ops:Array Oper}{al:Nat->Bool}{l:List Oper}{e:CA}{h:AD}{bs:Nat}{ds:List Df}{ps:List (Nat×Nat)}{fps:List Fp}{ρ:List Nat}{dst:Option Tmp}
theorem ZS(ρ:List Nat):LQ (some ρ) []=true:=rfl
theorem xv(ρ:List Nat)(id:Id)(o:Obj)(δ:AD):LQ (some ρ) ((id,o)::δ)=(Id.under ρ id&&LQ (some ρ) δ):=rfl
def JF(ρ:List Nat)(a j:Nat):Id.under ρ (a::j::ρ)=true:=under_iff.2 ⟨[a,j],rfl⟩
variable{Post:A8->Prop}{q:E (A8×AD)}
def EG(a: ∃o h',q=.ok (o,h')/\Post o)(c: ∀o h',Post o->B1 C K fr ops b n al l i dst e h bs ds Q (.ok (o,h'))):B1 C K fr ops b n al l i dst e h bs ds Q q:=by
 exact zCG
theorem w8(v:AV)(h':AD):B1 C K fr ops b n al l i dst e h bs ds Q (.ok (.ret v,h'))=(flat v=true/\HL C K fr ops b n al l (i+1) ⟨DH e dst v,h,bs,ds⟩ Q):=rfl
theorem AAW(v:AV)(h':AD):B1 C K fr ops b n al l i dst e h bs ds Q (.ok (.ge v,h'))=(flat v=true/\al i=true/\Q (.ge v) ⟨e,h,b+n,ds⟩):=rfl
def EB(C:DJ)(K:Ab)(fr:Fr)(ops:Array Oper)(b n:Nat)(al:Nat->Bool)(ps:List (Nat×Nat))(fps:List Fp)(l:List Oper)(i:Nat)(dst:Option Tmp)(e:CA)(h:AD)(bs:Nat)(ds:List Df)(Q:Eh->St->Prop):E (A8×AD)->Prop
 |.ok (.ret v,_)=>flat v=true/\H0 C K fr ops b n al ps (fps++[⟨none,some []⟩]) l (i+1) ⟨DH e dst v,h,bs,ds⟩ Q
 |.ok (.ge v,_)=>flat v=true/\al i=true/\Et fps ps=true/\Q (.ge v) ⟨e,h,b+n,ds⟩
 |.err _=>False
def vZ(dst:Option Tmp)(ρ:List Nat)(f:FuncId)(az:List AV)(a:(E5 h.get az).isNone):M7 C K fr ops b n al ps fps l i dst ρ e h bs ds Q f az .ro=EB C K fr ops b n al ps fps l i dst e h bs ds Q (K (.fn f) (OD h.get az) (h.puts (az.flatMap (mark h.get))) ρ true (some ρ)):=by
 have a:E5 h.get az=none:=zEi
 simp only[M7,Ei,a,Gl,Bn,CU,BB];cases K (.fn f) (OD h.get az) (h.puts (az.flatMap (mark h.get))) ρ true (some ρ)with
 |err l=>rfl
 |ok r=>
  obtain⟨o,h'⟩:=r;cases o<;>simp only[Q8,EB,Bd]<;>split<;>simp_all [Cf]
def Dr(a: ∃o h',q=.ok (o,h')/\Post o)(c: ∀o h',Post o->EB C K fr ops b n al ps fps l i dst e h bs ds Q (.ok (o,h'))):EB C K fr ops b n al ps fps l i dst e h bs ds Q q:=by
 exact zCG
theorem mE(v:AV)(h':AD):EB C K fr ops b n al ps fps l i dst e h bs ds Q (.ok (.ret v,h'))=(flat v=true/\H0 C K fr ops b n al ps (fps++[⟨none,some []⟩]) l (i+1) ⟨DH e dst v,h,bs,ds⟩ Q):=rfl
theorem oz(v:AV)(h':AD):EB C K fr ops b n al ps fps l i dst e h bs ds Q (.ok (.ge v,h'))=(flat v=true/\al i=true/\Et fps ps=true/\Q (.ge v) ⟨e,h,b+n,ds⟩):=rfl
def u7(ρ:List Nat)(a j:Nat)(o:Obj)(δ:AD):LQ (some ρ) ((a::j::ρ,o)::δ)=LQ (some ρ) δ:=by rw[xv,JF,FD]
attribute [go_sem] ZS u7 w8 AAW vZ mE oz
end Go.Abs
namespace Go.Proofs
open Abs
def Kq(π:List Nat)(sz n:Nat)(es:List (List Al)):A8×AD:=if n=0 then(.ret .d7,[])else(.ret (.f8 (1::0::π) 0 n),[(1::0::π,.em sz es)])
def tH(f:FuncId)(u:cfg.mode f=.auto)(l:List Bl)(c: ∀x∈l,BX kT f [.agg [nI x.pp,.d (.bool (x.dead))]] []=.ok (.ret (.agg [nI x.pp,.d (.bool (x.dead))]),[]))(t:l.length<=1000000)(k:Nat)(ρ:List Nat):BX kT 148 [.d (.bv (l.map Aw)),.fn f [] []] (k::ρ)=.ok (Kq (k::ρ) 2 l.length (l.map Aw)):=by
 refine Az Tryz.func148 ?_;refine aw ?_;refine Aq l _ (S:=fun m i (a:(AV×AD)×Nat)=>⟨[(1,.fn f [] []),(5,a.1.1),(8,.d (.bv (l.map Aw))),(9,nI m),(10,nI i)],a.1.2,a.2,[]⟩)
  (Inv:=fun i y a=>AH (i=0/\a=((.d7,[]),0)\/0<i/\a=((.f8 (1::0::k::ρ) 0 i,[(1::0::k::ρ,.em 2 ((l.take i).map Aw))]),1))) (b0:=((_,[]),_)) ?_ ⟨.inl ⟨rfl,rfl⟩⟩ ?_ ?_
 .rfl
 .rintro i x a h e g b j;have v:=c x (AS h);replace c:=AB c;rcases b.1 with⟨rfl,rfl⟩|⟨o,rfl⟩
  .exact zAV
  .clear b;dsimp only at*;have z:(l.take i).length=i:=Aa;have w: ¬i+1<=i:=AA;refine aw ?_;refine j.1 ((_,_),_) ⟨.inr ⟨AA,?_⟩⟩;have s:List.take i (List.map Aw (List.take i l))=List.map Aw (List.take i l):=Bi Aa;rw[Li,h,s,BE];rfl
 .rintro i a e g b;replace c:=AB c;rcases b.1 with⟨rfl,rfl⟩|⟨o,rfl⟩
  .exact zAZ
  .exact zAW
def mw(f:FuncId)(u:cfg.mode f=.auto)(l:List BA)(c: ∀x∈l,BX kT f [.agg [nI x.f9,nI x.at_,.d (.bv (x.env.map AN))]] []=.ok (.ret (.agg [nI x.f9,nI x.at_,.d (.bv (x.env.map AN))]),[]))(t:l.length<=1000000)(k:Nat)(ρ:List Nat):BX kT 150 [.d (.bv (l.map BG)),.fn f [] []] (k::ρ)=.ok (Kq (k::ρ) 3 l.length (l.map BG)):=by
 refine Az Tryz.func150 ?_;refine aw ?_;refine Aq l _ (S:=fun m i (a:(AV×AD)×Nat)=>⟨[(1,.fn f [] []),(5,a.1.1),(8,.d (.bv (l.map BG))),(9,nI m),(10,nI i)],a.1.2,a.2,[]⟩)
  (Inv:=fun i y a=>AH (i=0/\a=((.d7,[]),0)\/0<i/\a=((.f8 (1::0::k::ρ) 0 i,[(1::0::k::ρ,.em 3 ((l.take i).map BG))]),1))) (b0:=((_,[]),_)) ?_ ⟨.inl ⟨rfl,rfl⟩⟩ ?_ ?_
 .rfl
 .rintro i x a h e g b j;have v:=c x (AS h);replace c:=AB c;rcases b.1 with⟨rfl,rfl⟩|⟨o,rfl⟩
  .exact zAV
  .clear b;dsimp only at*;have z:(l.take i).length=i:=Aa;have w: ¬i+1<=i:=AA;refine aw ?_;refine j.1 ((_,_),_) ⟨.inr ⟨AA,?_⟩⟩;have s:List.take i (List.map BG (List.take i l))=List.map BG (List.take i l):=Bi Aa;rw[Li,h,s,BE];rfl
 .rintro i a e g b;replace c:=AB c;rcases b.1 with⟨rfl,rfl⟩|⟨o,rfl⟩
  .exact zAZ
  .exact zAW
def tI(f:FuncId)(u:cfg.mode f=.auto)(l:List Gg)(c: ∀x∈l,BX kT f [.agg [nI x.at_,nI x.node,.d (.bv (x.env.map AN))]] []=.ok (.ret (.agg [nI x.at_,nI x.node,.d (.bv (x.env.map AN))]),[]))(t:l.length<=1000000)(k:Nat)(ρ:List Nat):BX kT 156 [.d (.bv (l.map Ae)),.fn f [] []] (k::ρ)=.ok (Kq (k::ρ) 3 l.length (l.map Ae)):=by
 refine Az Tryz.func156 ?_;refine aw ?_;refine Aq l _ (S:=fun m i (a:(AV×AD)×Nat)=>⟨[(1,.fn f [] []),(5,a.1.1),(8,.d (.bv (l.map Ae))),(9,nI m),(10,nI i)],a.1.2,a.2,[]⟩)
  (Inv:=fun i y a=>AH (i=0/\a=((.d7,[]),0)\/0<i/\a=((.f8 (1::0::k::ρ) 0 i,[(1::0::k::ρ,.em 3 ((l.take i).map Ae))]),1))) (b0:=((_,[]),_)) ?_ ⟨.inl ⟨rfl,rfl⟩⟩ ?_ ?_
 .rfl
 .rintro i x a h e g b j;have v:=c x (AS h);replace c:=AB c;rcases b.1 with⟨rfl,rfl⟩|⟨o,rfl⟩
  .exact zAV
  .clear b;dsimp only at*;have z:(l.take i).length=i:=Aa;have w: ¬i+1<=i:=AA;refine aw ?_;refine j.1 ((_,_),_) ⟨.inr ⟨AA,?_⟩⟩;have s:List.take i (List.map Ae (List.take i l))=List.map Ae (List.take i l):=Bi Aa;rw[Li,h,s,BE];rfl
 .rintro i a e g b;replace c:=AB c;rcases b.1 with⟨rfl,rfl⟩|⟨o,rfl⟩
  .exact zAZ
  .exact zAW
def yl(f:FuncId)(u:cfg.mode f=.auto)(l:List Cm)(c: ∀x∈l,BX kT f [.agg [nI x.kind,nI x.n]] []=.ok (.ret (.agg [nI x.kind,nI x.n]),[]))(t:l.length<=1000000)(k:Nat)(ρ:List Nat):BX kT 181 [.d (.bv (l.map AN)),.fn f [] []] (k::ρ)=.ok (Kq (k::ρ) 2 l.length (l.map AN)):=by
 refine Az Tryz.func181 ?_;refine aw ?_;refine Aq l _ (S:=fun m i (a:(AV×AD)×Nat)=>⟨[(1,.fn f [] []),(5,a.1.1),(8,.d (.bv (l.map AN))),(9,nI m),(10,nI i)],a.1.2,a.2,[]⟩)
  (Inv:=fun i y a=>AH (i=0/\a=((.d7,[]),0)\/0<i/\a=((.f8 (1::0::k::ρ) 0 i,[(1::0::k::ρ,.em 2 ((l.take i).map AN))]),1))) (b0:=((_,[]),_)) ?_ ⟨.inl ⟨rfl,rfl⟩⟩ ?_ ?_
 .rfl
 .rintro i x a h e g b j;have v:=c x (AS h);replace c:=AB c;rcases b.1 with⟨rfl,rfl⟩|⟨o,rfl⟩
  .exact zAV
  .clear b;dsimp only at*;have z:(l.take i).length=i:=Aa;have w: ¬i+1<=i:=AA;refine aw ?_;refine j.1 ((_,_),_) ⟨.inr ⟨AA,?_⟩⟩;have s:List.take i (List.map AN (List.take i l))=List.map AN (List.take i l):=Bi Aa;rw[Li,h,s,BE];rfl
 .rintro i a e g b;replace c:=AB c;rcases b.1 with⟨rfl,rfl⟩|⟨o,rfl⟩
  .exact zAZ
  .exact zAW
def yk(f:FuncId)(u:cfg.mode f=.auto)(l:List (List Cm))(c: ∀x∈l,BX kT f [.agg [.d (.bv (x.map AN))]] []=.ok (.ret (.agg [.d (.bv (x.map AN))]),[]))(t:l.length<=1000000)(k:Nat)(ρ:List Nat):BX kT 183 [.d (.bv (l.map BJ)),.fn f [] []] (k::ρ)=.ok (Kq (k::ρ) 1 l.length (l.map BJ)):=by
 refine Az Tryz.func183 ?_;refine aw ?_;refine Aq l _ (S:=fun m i (a:(AV×AD)×Nat)=>⟨[(1,.fn f [] []),(5,a.1.1),(8,.d (.bv (l.map BJ))),(9,nI m),(10,nI i)],a.1.2,a.2,[]⟩)
  (Inv:=fun i y a=>AH (i=0/\a=((.d7,[]),0)\/0<i/\a=((.f8 (1::0::k::ρ) 0 i,[(1::0::k::ρ,.em 1 ((l.take i).map BJ))]),1))) (b0:=((_,[]),_)) ?_ ⟨.inl ⟨rfl,rfl⟩⟩ ?_ ?_
 .rfl
 .rintro i x a h e g b j;have v:=c x (AS h);replace c:=AB c;rcases b.1 with⟨rfl,rfl⟩|⟨o,rfl⟩
  .exact zAV
  .clear b;dsimp only at*;have z:(l.take i).length=i:=Aa;have w: ¬i+1<=i:=AA;refine aw ?_;refine j.1 ((_,_),_) ⟨.inr ⟨AA,?_⟩⟩;have s:List.take i (List.map BJ (List.take i l))=List.map BJ (List.take i l):=Bi Aa;rw[Li,h,s,BE];rfl
 .rintro i a e g b;replace c:=AB c;rcases b.1 with⟨rfl,rfl⟩|⟨o,rfl⟩
  .exact zAZ
  .exact zAW
def da(x:Bl):BX kT 149 [.agg [nI x.pp,.d (.bool (x.dead))]] []=.ok (.ret (.agg [nI x.pp,.d (.bool (x.dead))]),[]):=by
 refine Az Tryz.func149 ?_;exact au
def jS(x:Cm):BX kT 182 [.agg [nI x.kind,nI x.n]] []=.ok (.ret (.agg [nI x.kind,nI x.n]),[]):=by
 refine Az Tryz.func182 ?_;exact au
end Go.Proofs
namespace Go.Abs
def hZ(k:IntKind)(a b:Int)(v:AV)(es:List (Al×AV)):Dh ((.int k a,v)::es) (.int k b)=if a=b then some (some v)else Dh es (.int k b):=by
 rw[Dh];by_cases h:a=b
 .exact zBk
 .exact zBk
attribute [go_sem] hZ
end Go.Abs
namespace Go.Proofs
open Abs
def JU:List (Al×AV):=[(.int .i64 2,.fn 110 [] []),(.int .i64 3,.fn 111 [] []),(.int .i64 4,.fn 112 [] []),(.int .i64 5,.fn 113 [] []),(.int .i64 6,.fn 114 [] []),(.int .i64 7,.fn 114 [] []),(.int .i64 8,.fn 114 [] [])]
def A6(x:HD)(v:AV):List AV:=[nI x.group,nI x.index,nI x.at_,v]
end Go.Proofs
namespace Go.Abs
variable{P:Program}{C:DJ}{K:Ab}{fr:Fr}{b n i:Nat}{Q:Eh->St->Prop}
variable{ops:Array Oper}{al:Nat->Bool}{l:List Oper}{e:CA}{h:AD}{bs:Nat}{ds:List Df}{ps:List (Nat×Nat)}{fps:List Fp}{ρ:List Nat}{dst:Option Tmp}
def iw(az:List AV)(id:Id)(o m sz:Nat)(es:List (List Al))(a:CB (.f8 id o m) [(id,.em sz es)]=some (id,.em sz es)):Ea C K fr ops b n al l i az dst e h bs ds Q (.ok (.ret (.f8 id o m),[(id,.em sz es)]))=HL C K fr ops b n al l (i+1) ⟨DH e dst (.f8 id o m),(id,.em sz es)::h,bs,ds⟩ Q:=qF _ az _ _ _ rfl a
def ir(az:List AV)(id:Id)(o m sz:Nat)(es:List (List Al))(a:CB (.f8 id o m) [(id,.em sz es)]=some (id,.em sz es)):EZ C K fr ops b n al ps fps l i az dst e h bs ds Q (.ok (.ret (.f8 id o m),[(id,.em sz es)]))=H0 C K fr ops b n al ps (fps++[⟨some (C2 h.get (A9 az)),some [id]⟩]) l (i+1) ⟨DH e dst (.f8 id o m),(id,.em sz es)::h,bs,ds⟩ Q:=qE _ az _ _ _ rfl a
attribute [go_sem] iw ir
end Go.Abs
namespace Go.Proofs
open Abs
def DV{π:List Nat}{sz n:Nat}{es:List (List Al)}(h:n=0):Kq π sz n es=(.ret .d7,[]):=by rw[Kq,D4 h]
def ED{π:List Nat}{sz n:Nat}{es:List (List Al)}(h:n≠0):Kq π sz n es=(.ret (.f8 (1::0::π) 0 n),[(1::0::π,.em sz es)]):=by rw[Kq,Ci h]
def Ht(id:Abs.Id)(o n sz:Nat)(es:List (List Al)):CB (.f8 id o n) [(id,.em sz es)]=if es.all (·.all FX)then some (id,.em sz es)else none:=by
 simp only[CB,go_sem,is_self,F6]
def B7(l:List Cm)(id:Abs.Id)(o n:Nat):CB (.f8 id o n) [(id,.em 2 (l.map AN))]=some (id,.em 2 (l.map AN)):=by
 rw[Ht,D4];simp[AN,FX]
def K6{l:List (List Cm)}(h:l.length≠0)(id:Abs.Id)(o n:Nat):CB (.f8 id o n) [(id,.em 1 (l.map BJ))]=none:=by
 rw[Ht,Ci];cases l with
 |nil=>exact absurd rfl h
 |cons x l=>simp[BJ,FX]
def QY(l:List Bl)(id:Abs.Id)(o n:Nat):CB (.f8 id o n) [(id,.em 2 (l.map Aw))]=some (id,.em 2 (l.map Aw)):=by
 rw[Ht,D4];simp[Aw,FX]
def PG{l:List BA}(h:l.length≠0)(id:Abs.Id)(o n:Nat):CB (.f8 id o n) [(id,.em 3 (l.map BG))]=none:=by
 rw[Ht,Ci];cases l with
 |nil=>exact absurd rfl h
 |cons x l=>simp[BG,FX]
def QZ{l:List Gg}(h:l.length≠0)(id:Abs.Id)(o n:Nat):CB (.f8 id o n) [(id,.em 3 (l.map Ae))]=none:=by
 rw[Ht,Ci];cases l with
 |nil=>exact absurd rfl h
 |cons x l=>simp[Ae,FX]
def LO(l:List Cm)(c:l.length<=1000000)(k:Nat)(ρ:List Nat):BX kT 152 [.d (.bv (l.map AN))] (k::ρ)=.ok (Kq (2::k::ρ) 2 l.length (l.map AN)):=by
 have b:=fun k ρ=>yl 182 rfl l (fun x _=>jS x) c k ρ;by_cases a:l.length=0
 .rw[DV a];simp only[DV a]at b;refine Az Tryz.func152 ?_;exact au
 .rw[ED a];simp only[ED a]at b;have fa:=B7;refine Az Tryz.func152 ?_;exact au
def qN(x:List Cm)(c:x.length<=1000000):BX kT 184 [.agg [.d (.bv (x.map AN))]] []=.ok (.ret (.agg [.d (.bv (x.map AN))]),[]):=by
 have b:=LO x c;by_cases a:x.length=0
 .simp only[DV a]at b;obtain rfl:=BI a;clear a;simp only[BY]at b;refine Az Tryz.func184 ?_
  exact zAm
 .simp only[ED a]at b;have fa:=B7;have h:List.take x.length (List.map AN x)=List.map AN x:=Bi AG;refine Az Tryz.func184 ?_;exact au
def wY(l:List (List Cm))(c:l.length<=1000000)(h: ∀x∈l,x.length<=1000000)(k:Nat)(ρ:List Nat):BX kT 155 [.d (.bv (l.map BJ))] (k::ρ)=.ok (Kq (2::k::ρ) 1 l.length (l.map BJ)):=by
 have b:=fun k ρ=>yk 184 rfl l (fun x e=>qN x (h x e)) c k ρ;replace h:=AB h;by_cases a:l.length=0
 .rw[DV a];simp only[DV a]at b;refine Az Tryz.func155 ?_;exact au
 .rw[ED a];simp only[ED a]at b;have fa:=K6 a;refine Az Tryz.func155 ?_;exact au
def UM(x:BA)(c:x.env.length<=1000000):BX kT 151 [.agg [nI x.f9,nI x.at_,.d (.bv (x.env.map AN))]] []=.ok (.ret (.agg [nI x.f9,nI x.at_,.d (.bv (x.env.map AN))]),[]):=by
 have b:=LO x.env c;by_cases a:x.env.length=0
 .simp only[DV a]at b;have h2:=BI a;simp only[h2,BY]at b;refine Az Tryz.func151 ?_
  exact zAm
 .simp only[ED a]at b;have fa:=B7;have h:List.take x.env.length (List.map AN x.env)=List.map AN x.env:=Bi AG;refine Az Tryz.func151 ?_;exact au
def V7(x:Gg)(c:x.env.length<=1000000):BX kT 157 [.agg [nI x.at_,nI x.node,.d (.bv (x.env.map AN))]] []=.ok (.ret (.agg [nI x.at_,nI x.node,.d (.bv (x.env.map AN))]),[]):=by
 have b:=LO x.env c;by_cases a:x.env.length=0
 .simp only[DV a]at b;have h2:=BI a;simp only[h2,BY]at b;refine Az Tryz.func157 ?_
  exact zAm
 .simp only[ED a]at b;have fa:=B7;have h:List.take x.env.length (List.map AN x.env)=List.map AN x.env:=Bi AG;refine Az Tryz.func157 ?_;exact au
def Pn(π:List Nat)(x:HD):A8×AD:=if x.queue.length=0 then(.ret (.agg (A6 x .d7)),[(0::0::π,.box (A6 x (.d (.bv (x.queue.map BJ))))),(0::1::π,.box (A6 x .d7))])else(.ret (.agg (A6 x (.f8 (1::0::2::10::π) 0 x.queue.length))),[(1::0::2::10::π,.em 1 (x.queue.map BJ)),(0::0::π,.box (A6 x (.d (.bv (x.queue.map BJ))))),(0::1::π,.box (A6 x (.f8 (1::0::2::10::π) 0 x.queue.length)))])
def YX(x:HD)(e:x.queue.length<=1000000)(h: ∀y∈x.queue,y.length<=1000000)(k:Nat)(ρ:List Nat):BX kT 154 [.agg [nI x.group,nI x.index,nI x.at_,.d (.bv (x.queue.map BJ))]] (k::ρ)=.ok (Pn (k::ρ) x):=by
 have b:=wY x.queue e h;replace h:=AB h;by_cases a:x.queue.length=0
 .rw[Pn,D4 a];simp only[DV a]at b;exact zBR
 .rw[Pn,Ci a];simp only[ED a]at b;have fa:=K6 a;exact zBR
end Go.Proofs
namespace Go.Abs
def lf(l:List Id)(x y:Id):y∈M6 l x↔y∈l\/y=x:=by
 unfold M6;split
 .rename_i h;obtain⟨z,a,e⟩:=UL.1 h;have:x=z:=is_iff.1 e;subst this;constructor
  .exact .inl
  .rintro(h|rfl)
   .exact h
   .exact a
 .simp
def Zj{l:List Id}(h:l.Nodup)(x:Id):(M6 l x).Nodup:=by
 unfold M6;split
 .exact h
 .rename_i e;rw[MP];refine⟨h,AG,fun a f b c=>?_⟩;rw[Ac]at c;subst c;rintro rfl;have:l.any (Id.is a)=true:=UL.2 ⟨a,f,is_self a⟩;rw[this]at e;cases e
def lg(l:List Id)(x:Id): ∃m,M6 l x=l++m:=by
 unfold M6;split
 .exact⟨[],AG⟩
 .exact⟨[x],rfl⟩
def Il: ∀(new l:List Id) (y:Id),y∈GX l new↔y∈l\/y∈new
 |[],l,y=>by simp[GX]
 |x::new,l,y=>by
  have:=Il new (M6 l x) y;unfold GX at*;rw[Mp,this,lf,D0,or_assoc]
def ML: ∀(new:List Id) {l:List Id},l.Nodup->(GX l new).Nodup
 |[],l,h=>h
 |x::new,l,h=>ML new (Zj h x)
def Tr: ∀(new l:List Id),∃m,GX l new=l++m
 |[],l=>⟨[],by simp[GX]⟩
 |x::new,l=>by
  obtain⟨m,a⟩:=lg l x;obtain⟨c,b⟩:=Tr new (M6 l x);refine⟨m++c,?_⟩;have:GX l (x::new)=GX (M6 l x) new:=rfl;rw[this,b,a,DO]
def VT(h:AD)(M:List Id)(q: ∀x∈M,∀y∈Ep (h.get x),y∈M): ∀(n:Nat) (l:List Id) (i:Nat),l.Nodup->(∀x∈l,x∈M)->(∀j x,j<i->l[j]? =some x-> ∀y∈Ep (h.get x),y∈l)->M.length<=i+n->
 (Cw h n l i).Nodup/\(∀x∈Cw h n l i,x∈M)/\(∀x∈l,x∈Cw h n l i)/\ ∀x∈Cw h n l i,∀y∈Ep (h.get x),y∈Cw h n l i
 |0,l,i,k,f,o,t=>by
  have e:Cw h 0 l i=l:=rfl;rw[e];refine⟨k,f,fun x a=>a,fun x a y g=>?_⟩;obtain⟨j,c⟩:=II a;have s:=k.length_le_of_subset (l₂:=M) f;have h2:=(BV.1 c).1;exact o j x AA c y g
 |n+1,l,i,k,f,o,t=>by
  cases b:l[i]? with
  |none=>
   have e:Cw h (n+1) l i=l:=by rw[Cw,b]
   rw[e];refine⟨k,f,fun x a=>a,fun x a y g=>?_⟩;obtain⟨j,c⟩:=II a;have s:=List.getElem?_eq_none_iff.1 b;have h2:=(BV.1 c).1;exact o j x AA c y g
  |some id=>
   have e:Cw h (n+1) l i=Cw h n (GX l (Ep (h.get id))) (i+1):=by rw[Cw,b]
   rw[e];have u:=AS b;obtain⟨m,r⟩:=Tr (Ep (h.get id)) l;have p:=VT h M q n (GX l (Ep (h.get id))) (i+1) (ML _ k) (fun x a=>by
    rcases(Il _ _ _).1 a with a|a
    .exact f x a
    .exact q id (f id u) x a) (fun j x c a y g=>by
    rw[Il];by_cases v:j=i
    .subst v;rw[r,Ce (BV.1 b).1,b]at a;cases a;exact .inr g
    .have w:=(BV.1 b).1;rw[r,Ce AA]at a;exact .inl (o j x AA a y g)) AA
   exact⟨p.1,p.2.1,fun x a=>p.2.2.1 x ((Il _ _ _).2 (.inl a)),p.2.2.2⟩
def KF(π:List Nat): ∀(l:List Id) (n:Nat) (x:Id),x∈l-> ∃j,Er π l n x=some (Vi x::(n+j)::π)/\j<l.length
 |y::l,n,x,a=>by
  rw[VC];by_cases h:Id.is y x=true
  .rw[D4 h];exact⟨0,rfl,AG⟩
  .rw[Ci h];have c:x∈l:=by
    rcases D0.1 a with rfl|a
    .exact absurd (is_self _) h
    .exact a
   obtain⟨j,b,e⟩:=KF π l (n+1) x c;exact⟨j+1,by rw[b];congr 3;omega,Aa⟩
def cy(h:AD)(a:Id->Option Id)(g: ∀x y z,a x=some z->a y=some z->x=y){x z:Id}{o:Obj}(f:a x=some z)(i:h.get x=some o): ∀(l:List Id),x∈l->(EF h a l).get z=some (E1 a o)
 |y::l,b=>by
  by_cases c:y=x
  .subst c;rw[EF,i,f,CL,is_self,D4 rfl]
  .have k:x∈l:=by
    rcases D0.1 b with rfl|b
    .exact absurd rfl c
    .exact b
   have j:=cy h a g f i l k;rw[EF];split
   .rename_i o' n m h2;rw[CL,AF (fun e=>c (g _ _ _ h2 (by rw[e];exact f))),Ci AG];exact j
   .exact j
structure M4(π:List Nat)(h:AD)(e:CA)(ν:Id->Option Id)(h':AD)(n:Nat):Prop where
 env: ∀x∈Fz e,∃z,ν x=some z
 name: ∀x z,ν x=some z-> ∃j,j<n/\z=Vi x::j::π
 inj: ∀x y z,ν x=some z->ν y=some z->x=y
 get: ∀x z o,ν x=some z->h.get x=some o->h'.get z=some (E1 ν o)
 deep: ∀x z,ν x=some z-> ∀y∈Ep (h.get x),∃z',ν y=some z'
 only: ∀z o,h'.get z=some o-> ∃x,ν x=some z
def JY(π:List Nat)(h:AD)(e:CA)(M:List Id)(B:M.length<=1000)(q: ∀x∈Fz e,x∈M)(m: ∀x∈M,∀y∈Ep (h.get x),y∈M):
 ∃k h' n,PN π h e=⟨e.map fun p=>(p.1,ren k p.2),h',n,[]⟩/\n<=M.length/\M4 π h e k h' n:=by
 obtain⟨u,v,w,A⟩:=VT h M m 1000 (GX [] (Fz e)) 0 (ML _ .nil) (fun x b=>by
  rcases(Il _ _ _).1 b with b|b
  .cases b
  .exact q x b) (fun j x g=>AA) AA
 unfold PN YQ;generalize Cw h 1000 (GX [] (Fz e)) 0=L at*;refine⟨Er π L 0,EF h (Er π L 0) L,L.length,rfl,u.length_le_of_subset v,?_,?_,fun x y z=>Nr,fun x z o a r=>?_,fun x z a y s=>?_,fun z o a=>?_⟩
 .intro x b;obtain⟨j,g,_⟩:=KF π L 0 x (w x ((Il _ _ _).2 (.inr b)));exact⟨_,g⟩
 .intro x z a;obtain⟨j,t,c,h2⟩:=GB a;obtain⟨i,f,l⟩:=KF π L 0 x (AS c);rw[a]at f;cases f;exact⟨0+i,AA,rfl⟩
 .obtain⟨j,t,c,h2⟩:=GB a;exact cy h _ (fun x y z=>Nr) a r L (AS c)
 .obtain⟨j,t,c,h2⟩:=GB a;obtain⟨i,f,l⟩:=KF π L 0 y (A x (AS c) y s);exact⟨_,f⟩
 .obtain⟨x,o,_,h2,_⟩:=GV a;exact⟨x,h2⟩
end Go.Abs
namespace Go.Proofs
open Abs
def Bh(l:List Bl)(i:Int):Int:=((l[i.toNat]?).map Bl.pp).getD 0
def FT(l:List Bl)(i:Int):Prop:=0<=i/\i<l.length
instance(l:List Bl)(i:Int):Decidable (FT l i):=by unfold FT;infer_instance
def Bf(l:List Bl):Nat->Int->Bool
 |0,at_=>decide (at_=0)
 |k+1,at_=>decide (at_=0)||(decide (FT l (Bh l at_))&&Bf l k (Bh l at_))
def Gp(l:List Bl)(k:Nat):Bf l k 0=true:=by cases k<;>simp[Bf]
def PQ(l:List Bl): ∀(k:Nat) (i:Int),Bf l k i=true->Bf l (k+1) i=true
 |0,i,h=>by simp[Bf]at h;subst h;exact Gp _ _
 |k+1,i,h=>by
  rw[Bf]at h⊢;by_cases a:i=0
  .simp[a]
  .simp only[a,decide_false,I4,AP]at h⊢;exact⟨h.1,PQ l k _ h.2⟩
variable{l:List Bl}{k:Nat}
def Lv{i:Int}{m:Nat}(h:k<=m)(a:Bf l k i=true):Bf l m i=true:=by
 induction h with
 |refl=>exact a
 |step _ b=>exact PQ l _ i b
def wK: ∀(n:Nat) (l:List Nat),l.Nodup->(∀x∈l,x<n)->l.length<=n
 |0,l,_,h=>by
  cases l with
  |nil=>simp
  |cons a l=>exact absurd (h a AG) AA
 |n+1,l,hn,h=>by
  have b:=wK n (l.erase n) (hn.erase n) (fun x e=>by
   have f:=(List.Nodup.mem_erase_iff hn).1 e;have:=h x f.2;omega)
  by_cases c:n∈l
  .rw[List.length_erase_of_mem c]at b;omega
  .rw[List.erase_of_not_mem c]at b;omega
def UK(l:List Bl)(q:0<l.length): ∀(k:Nat) (i:Int),FT l i->Bf l k i=true->(∀j,j<k->Bf l j i=false)-> ∃p:List Nat,p.length=k+1/\p.Nodup/\(∀x∈p,x<l.length)/\ ∀x∈p,∃j,j<=k/\Bf l j x=true/\ ∀m,m<j->Bf l m x=false
 |0,i,e,g,b=>⟨[0],rfl,AG,by simp[q],by
  intro x a;cases Ac.1 a;exact⟨0,Es _,Gp _ _,fun m b=>AA⟩⟩
 |k+1,i,e,g,b=>by
  have o: ¬i=0:=fun h=>by
   have:=b 0 AA;rw[h,Gp]at this;cases this
  have c:=g;rw[Bf]at c;simp only[o,decide_false,I4,AP,Ap]at c;obtain⟨p,u,v,w,r⟩:=UK l q k (Bh l i) c.1 c.2 (fun j y=>by
   have:=b (j+1) AA;rw[Bf]at this;simp only[o,decide_false,I4,RW,S1]at this;rcases this with h|h
   .exact absurd c.1 h
   .exact h)
  refine⟨i.toNat::p,by simp[u],?_,?_,?_⟩
  .refine List.nodup_cons.2 ⟨fun t=>?_,v⟩;obtain⟨j,s,f,_⟩:=r _ t;have n:((i.toNat:Nat):Int)=i:=Pu e.1;rw[n]at f;have:=b j AA;rw[f]at this;cases this
  .intro x a;rcases D0.1 a with rfl|a
   .have:=e.1;have:=e.2;omega
   .exact w x a
  .intro x a;rcases D0.1 a with rfl|a
   .have n:((i.toNat:Nat):Int)=i:=Pu e.1;rw[n];exact⟨k+1,Es _,g,b⟩
   .obtain⟨j,s,f⟩:=r x a;exact⟨j,AA,f⟩
def Wy{i:Int}: ∀{k:Nat},Bf l k i=true-> ∃m,m<=k/\Bf l m i=true/\ ∀j,j<m->Bf l j i=false
 |0,h=>⟨0,Es _,h,fun j c=>AA⟩
 |k+1,h=>by
  cases a:Bf l k i with
  |true=>
   obtain⟨m,f,h2,b⟩:=Wy a;exact⟨m,AA,h2,b⟩
  |false=>
   refine⟨k+1,Es _,h,fun j c=>?_⟩;cases e:Bf l j i with
   |false=>rfl
   |true=>
    have:=Lv (show j<=k by omega) e;rw[a]at this;cases this
def NQ{i:Int}(a:FT l i)(h:Bf l k i=true):Bf l (l.length-1) i=true:=by
 have c:0<l.length:=zFK
 obtain⟨m,_,h2,b⟩:=Wy h;obtain⟨p,g,e,f,_⟩:=UK l c m i a h2 b;have:=wK l.length p e f;exact Lv AA h2
def fB{i:Int}(a:FT l i):Bf l (l.length+1) i=Bf l l.length i:=by
 cases h:Bf l l.length i with
 |true=>exact PQ _ _ _ h
 |false=>
  cases h2:Bf l (l.length+1) i with
  |false=>rfl
  |true=>
   have:=Lv (show l.length-1<=l.length by omega) (NQ a h2);rw[h]at this;cases this
def GI(l:List Bl):Nat->Nat->Bool
 |_,0=>true
 |i,n+1=>Bf l l.length i&&GI l (i+1) n
def GN(l:List Bl):Bool:=decide (0<l.length)&&(decide (Bh l 0= -1)&&GI l 0 l.length)
def MR(l:List Bl): ∀(n i:Nat),GI l i n=true↔ ∀j,i<=j->j<i+n->Bf l l.length j=true
 |0,i=>by simp[GI];intro j a h2;omega
 |n+1,i=>by
  rw[GI,AP,MR l n (i+1)];constructor
  .rintro⟨a,h2⟩ j h3 h4;by_cases b:j=i
   .subst b;exact a
   .exact h2 j AA AA
  .intro h;exact⟨h i AA AA,fun j a h2=>h j AA AA⟩
def SW(l:List Bl):Nat->Int->List Int
 |0,b=>[b]
 |k+1,b=>if b=0 then [0]else b::SW l k (Bh l b)
def Tt(l:List Bl): ∀(k m:Nat) (b:Int),Bf l k b=true->k<=m->SW l m b=SW l k b
 |0,m,b,h,c=>by
  simp[Bf]at h;subst h;cases m<;>simp[SW]
 |k+1,m,b,h,c=>by
  obtain⟨m,rfl⟩: ∃j,m=j+1:=⟨m-1,AA⟩;rw[SW,SW];split
  .rfl
  .rename_i a;rw[Bf]at h;simp only[a,decide_false,I4,AP]at h;rw[Tt l k m _ h.2 AA]
def CP(l:List Bl)(b a:Int):Bool:=decide (a∈SW l l.length b)
structure Hg(l:List Bl):Prop where
 pos:0<l.length
 top:Bh l 0= -1
 rt: ∀i,FT l i->Bf l l.length i=true
def OG(h:GN l=true):Hg l:=by
 simp only[GN,AP,Ap]at h;refine⟨h.1,h.2.1,fun i a=>?_⟩;have:=(MR l l.length 0).1 h.2.2 i.toNat AA zFK
 rwa [Pu a.1]at this
def xe(h:Hg l):GN l=true:=by
 simp only[GN,AP,Ap];refine⟨h.pos,h.top,(MR l l.length 0).2 fun j a h2=>h.rt j ⟨AA,AA⟩⟩
end Go.Proofs
namespace Go.Proofs
open Abs
def Cm.inB(p:AX)(nc ns:Nat)(v:Cm):Bool:=
 if v.kind=1 then decide (-1000000000<=v.n)&&decide (v.n<=1000000000)else if v.kind=2 then decide (0<=v.n)&&decide (v.n<p.free.length)
 else if v.kind=3 then decide (0<=v.n)&&decide (v.n<nc)else if v.kind=4 then decide (0<=v.n)&&decide (v.n<ns)else false
variable{l:List Bl}{k:Nat}{b:Int}
def jy(h: ¬b=0)(a:Bf l (k+1) b=true):SW l (k+1) b=b::SW l k (Bh l b):=by
 rw[SW,Ci h]
def Gn(h: ¬b=0)(a:Bf l (k+1) b=true):FT l (Bh l b)/\Bf l k (Bh l b)=true:=by
 rw[Bf]at a;simp only[h,decide_false,I4,AP,Ap]at a;exact a
end Go.Proofs
namespace Go.Proofs
open Abs
def Zl(l:List Bl)(k:Nat)(c:Int):c∈SW l k c:=by
 cases k with
 |zero=>simp[SW]
 |succ k=>
  rw[SW];split
  .rename_i h;simp[h]
  .simp
def Zm(l:List Bl)(k:Nat):SW l k 0=[0]:=by cases k<;>simp[SW]
end Go.Proofs
namespace Go.Proofs
open Abs
def Ih:AV:=.iface 289 (.agg [nI 2])
def fj:flat Ih=true:=by simp[Ih,flat,HG,FX]
@[go_sem] theorem ABK(l:List Df)(h:AD)(id:Abs.Id)(off:Nat):Dw cfg none (.call 189 [.ptr id off]::l) (some Ih) h=Y0 cfg none l h id off .i64 2 (h.get id):=by
  rw[Ih,Qn Wu (eD _)]
attribute [go_sem] fj
@[go_sem] theorem AED(t:Bool):BX kT 199 [.d (.bool t)] []=Ch Ih t:=by
  cases t
  .rw[LP];refine Az Tryz.func199 ?_
   (repeat' (first|simp only[go_sem, *,Ih]|(refine sx ?_ ?_<;>intro a)|refine sy AA fun x c b=>?_|simp(disch:=first|assumption|omega) only[AR]))
  .rw[Mw];refine Az Tryz.func199 ?_;exact au
def N5(op:Int):AV:=
 if op=1 then .iface 314 (nI 0)else if op=7 then .iface 314 (nI 0)else if op=3 then .iface 314 (nI 2)else if op=2 then .iface 307 (.agg [])else if op=5 then .iface 310 (.agg [])
 else if op=6 then .iface 308 (.agg [])else if op=8 then .iface 308 (.agg [])else if op=4 then .iface 309 (.agg [])else .d .rc
def JE(op:Int):BX kT 211 [nI op] []=.ok (.ret (N5 op),[]):=by
 refine Az Tryz.func211 ?_
 (repeat' (first|simp only[go_sem, *,N5]|(refine sx ?_ ?_<;>intro a)|refine sy AA fun x c b=>?_|simp(disch:=first|assumption|omega) only[AR]))
@[go_sem] theorem AEP:BX kT 236 [.agg []] []=.ok (.ret (nI 0),[]):=by
  refine Az Tryz.func236 ?_;exact au
@[go_sem] theorem AEQ:BX kT 237 [.agg []] []=.ok (.ret (nI 1),[]):=by
  refine Az Tryz.func237 ?_;exact au
@[go_sem] theorem AER:BX kT 238 [.agg []] []=.ok (.ret (nI 1),[]):=by
  refine Az Tryz.func238 ?_;exact au
@[go_sem] theorem AES:BX kT 239 [.agg []] []=.ok (.ret (nI 2),[]):=by
  refine Az Tryz.func239 ?_;exact au
@[go_sem] theorem AET(n:Int):BX kT 240 [nI n] []=.ok (.ret (nI n),[]):=by
  refine Az Tryz.func240 ?_;exact au
def CJ.own(d:CJ):Nat:=d.be.length+d.ac.length
def ze(d:CJ)(a:d.be.length<=1000)(h2:d.ac.length<=1000):BX kT 214 [.agg [.d (.bv (d.be.map BD)),.d (.bv (d.ac.map Ay)),.d (.bv (d.rules.map BC))]] []=.ok (.ret (nI d.own),[]):=by
 refine Az Tryz.func214 ?_;refine aw ?_;all_goals simp[CJ.own]
def zc(d:CJ)(a:d.be.length<=1000)(h2:d.ac.length<=1000):BX kT 169 [.agg [.d (.bv (d.be.map BD)),.d (.bv (d.ac.map Ay)),.d (.bv (d.rules.map BC))]] []=.ok (.ret (nI d.own),[]):=by
 refine Az Tryz.func169 ?_;refine aw ?_;all_goals simp[CJ.own]
def C1(d:CJ):List Int->Int
 |[]=>0
 |j::l=>((d.be[j.toNat]?).map Ik.many).getD 0+C1 d l
def CJ.joinsOk(d:CJ)(r:Gf):Prop:=r.eq.length<=3/\(∀j∈r.eq,0<=j/\j<d.be.length)/\ ∀c∈d.be,0<=c.many/\c.many<=3
def get_some{α:Type}{l:List α}{i:Nat}(h:i<l.length): ∃y,l[i]? =some y:=⟨_,CO h⟩
def mC(d:CJ)(r:Gf)(h:d.joinsOk r):BX kT 215 [.agg [.d (.bv (d.be.map BD)),.d (.bv (d.ac.map Ay)),.d (.bv (d.rules.map BC))],.agg [nI r.at_,.d (.bv (r.eq.map AL)),nI r.node]] []=.ok (.ret (nI (C1 d r.eq)),[]):=by
 obtain⟨n,b,e⟩:=h;have h2:=AB b;have g:=AB e;clear b e;refine Az Tryz.func215 ?_;refine aw ?_;refine rounds (S:=fun a:Nat×Int=>⟨[(2,.ptr [0,0] 0),(5,nI a.2),(9,.d (.bv (r.eq.map AL))),(10,nI r.eq.length),(11,nI a.1)],[([0,0],.box [.d (.bv (d.be.map BD)),.d (.bv (d.ac.map Ay)),.d (.bv (d.rules.map BC))])],1,[]⟩)
  (Inv:=fun a=>a.1<=r.eq.length/\0<=a.2/\a.2<=3*a.1/\AH (C1 d r.eq=a.2+C1 d (r.eq.drop a.1))) (m:=fun a=>r.eq.length-a.1) (a:=(0,0)) ⟨AG,AG,AG,⟨AG⟩⟩ ?_
 rintro⟨i,c⟩ ⟨k1,k2,k3,k4⟩ IH;dsimp only at*
 (repeat' (first|simp only[go_sem, *]|(refine sx ?_ ?_<;>intro o)|refine sy AA fun x k j=>?_|simp(disch:=first|assumption|omega) only[AR]))
 .have p:=h2.1 x j;obtain⟨y,f⟩:=get_some (l:=d.be) (i:=x.toNat) AA;have q:=g.1 y (AS f);refine aw ?_;refine IH.1 (i+1,c+y.many) AU ⟨AU,AU,AU,⟨?_⟩⟩;dsimp only;rw[k4.1,Ag k,C1,f];simp only[F3,GO];omega
 .rw[k4.1,EX AA,C1,Int.add_zero]
def AAH(d:CJ)(r:Gf)(k:d.joinsOk r):BX kT 188 [.agg [.d (.bv (d.be.map BD)),.d (.bv (d.ac.map Ay)),.d (.bv (d.rules.map BC))],.agg [nI r.at_,.d (.bv (r.eq.map AL)),nI r.node]] []=.ok (.ret (nI (C1 d r.eq)),[]):=by
 obtain⟨n,e,f⟩:=k;have h2:=AB e;have h:=AB f;clear e f;refine Az Tryz.func188 ?_;refine aw ?_;refine rounds (S:=fun a:Nat×Int=>⟨[(2,.ptr [0,0] 0),(3,.ptr [0,1] 0),(5,nI a.2),(6,nI a.1)],[([0,0],.box [.d (.bv (d.be.map BD)),.d (.bv (d.ac.map Ay)),.d (.bv (d.rules.map BC))]),([0,1],.box [nI r.at_,.d (.bv (r.eq.map AL)),nI r.node])],2,[]⟩)
  (Inv:=fun a=>a.1<=r.eq.length/\0<=a.2/\a.2<=3*a.1/\AH (C1 d r.eq=a.2+C1 d (r.eq.drop a.1))) (m:=fun a=>r.eq.length-a.1) (a:=(0,0)) ⟨AG,AG,AG,⟨AG⟩⟩ ?_
 rintro⟨i,c⟩ ⟨k1,k2,k3,k4⟩ IH;dsimp only at*;by_cases j:i<r.eq.length
 .obtain⟨x,b⟩:=get_some j;have p:=h2.1 x (AS b);obtain⟨y,g⟩:=get_some (l:=d.be) (i:=x.toNat) AA;have t:=h.1 y (AS g);have q:(i:Int)<r.eq.length:=AA;refine aw ?_;refine IH.1 (i+1,c+y.many) AU ⟨AU,AU,AU,⟨?_⟩⟩;dsimp only;rw[k4.1,Ag b,C1,g];simp only[F3,GO];omega
 ·(repeat' (first|simp only[go_sem, *]|(refine sx ?_ ?_<;>intro o)|refine sy AA fun x b s=>?_|simp(disch:=first|assumption|omega) only[AR]))
  .omega
  .rw[k4.1,EX AA,C1,Int.add_zero]
def M9(b:UInt8):Bool:=decide (97<=b.toNat)&&decide (b.toNat<=122)
def BO:List ByteArray:=[⟨#[97,110,100]⟩,⟨#[100,101,102]⟩,⟨#[101,108,115,101]⟩,⟨#[103,111]⟩,⟨#[105,102]⟩,⟨#[105,110]⟩,⟨#[112,108,97,99,101]⟩,⟨#[115,116,111,112]⟩,⟨#[116,104,101,110]⟩,⟨#[119,97,116,99,104]⟩]
def G1:List (Al×AV):=BO.map fun k=>(.str k,.d (.bool true))
def GY(s:ByteArray):Bool:=decide (1<=s.size)&&(decide (s.size<=8)&&(s.data.toList.all M9&& !BO.any (· ==s)))
@[go_sem] theorem y0(l:List ByteArray)(s:ByteArray)(g:l.length<=1000):BX kT 167 [.d (.bv (l.map Br)),.d (.str s)] []=.ok (.ret (.d (.bool (l.any (· ==s)))),[]):=by
  refine Az Tryz.func167 ?_;refine aw ?_;refine rounds (S:=fun i:Nat=>⟨[(0,.d (.bv (l.map Br))),(1,.d (.str s)),(5,nI i)],[],0,[]⟩) (Inv:=fun i=>i<=l.length/\AH (l.any (· ==s)=(l.drop i).any (· ==s))) (m:=fun i=>l.length-i) (a:=0) ⟨AG,⟨AG⟩⟩ ?_;rintro i ⟨j,b⟩ e
  (repeat' (first|simp only[go_sem, *]|(refine sx ?_ ?_<;>intro f)|refine sy AA fun x c h=>?_|simp(disch:=first|assumption|omega) only[AR]))
  .rw[b.1,Ag c,List.any_cons];simp[*]
  .refine e.1 (i+1) AA ⟨AA,⟨?_⟩⟩;rw[b.1,Ag c,List.any_cons];simp[*]
  .rw[b.1,EX AA];rfl
variable{s:ByteArray}
def U6{v:AV}: ∀{es:List (Al×AV)},Dh es (.str s)=some none->Fg es (.str s) v=es++[(.str s,v)]
 |[],_=>rfl
 |(k,w)::es,h=>by
  unfold Dh at h;unfold Fg;split at h
  .cases h
  .rename_i a;rw[a];simp only[Cs,Ms,US];exact U6 h
  .cases h
variable{h:AD}
def zt{id:Abs.Id}{es:List (Al×AV)}(b:h.get id=some (.map es))(a:Dh es (.str s)=some none):mapPut cfg.T h.get (cfg.T 300) (.mp id) (.d (.str s)) (.d (.bool true))=some ⟨.undef,[(id,.map (es++[(.str s,.d (.bool true))]))]⟩:=by
 unfold mapPut;simp only[Vx,NV,T9,LA,AV.isCell,OL,b,a,U6 a]
def uu(id:Abs.Id)(o:Abs.Obj):AD.get [(id,o)] id=some o:=by simp only[CL,is_self,F6]
@[go_sem] theorem ABJ(k:Nat)(ρ:List Nat):BX kT 210 [] (k::ρ)=.ok (.ret (.mp (1::1::k::ρ)),[(1::1::k::ρ,.map G1)]):=by
  refine Az Tryz.func210 ?_;refine aw ?_
  iterate 10 (rw[<-Vx,zt (uu _ _)];rotate_left;exact rfl;refine aw ?_)
  rfl
def Y4: ∀(L:List ByteArray) (s:ByteArray),Dh (L.map fun k=>(Al.str k,.d (.bool true))) (.str s)=some (if L.any (· ==s)=true then some (.d (.bool true))else none)
 |[],s=>by simp[Dh]
 |k::L,s=>by
  rw[By,Dh,Ie];cases a:(k==s)with
  |true=>simp[a]
  |false=>
   simp only[Y4 L s,List.any_cons,a,I4]
def ACF(h:(BO.any fun x=>x==s)=true):Dh G1 (.str s)=some (some (.d (.bool true))):=by
 rw[G1,Y4,D4 h]
def nA(h:(BO.any fun x=>x==s)=false):Dh G1 (.str s)=some none:=by
 rw[G1,Y4,Ci (by rw[h];simp)]
@[go_sem] theorem AFD(s:ByteArray):BX kT 167 [.d (.bv [[.str ⟨#[97,110,100]⟩],[.str ⟨#[100,101,102]⟩],[.str ⟨#[101,108,115,101]⟩],[.str ⟨#[103,111]⟩],[.str ⟨#[105,102]⟩],[.str ⟨#[105,110]⟩],[.str ⟨#[112,108,97,99,101]⟩],[.str ⟨#[115,116,111,112]⟩],[.str ⟨#[116,104,101,110]⟩],[.str ⟨#[119,97,116,99,104]⟩]]),.d (.str s)] []=.ok (.ret (.d (.bool (BO.any (· ==s)))),[]):=y0 BO s AZ
variable{b:UInt8}
def Rv(h: ¬(97<=b.toNat/\b.toNat<=122)):M9 b=false:=by
 simp only[M9,RW,S1];omega
def Y2(h:97<=b.toNat/\b.toNat<=122):M9 b=true:=by
 simp only[M9,AP,Ap];exact h
def vh(s:ByteArray):BX kT 127 [.d (.str s)] []=.ok (.ret (.d (.bool (GY s))),[]):=by
 have k:s.data.toList.length=s.size:=by cases s;rfl
 refine Az Tryz.func127 ?_
 (repeat' (first|simp only[go_sem, *]|(refine sx ?_ ?_<;>intro h)|refine sy AA fun x b j=>?_|simp(disch:=first|assumption|omega) only[AR]))
 .rw[GY,DL AA];rfl
 .exact zD5
 have f:1<=s.size:=AA;have g:s.size<=8:=AA;refine rounds (S:=fun i:Nat=>⟨[(0,.d (.str s)),(3,nI i)],[],0,[]⟩) (Inv:=fun i=>i<=s.size/\AH (s.data.toList.all M9=(s.data.toList.drop i).all M9)) (m:=fun i=>s.size-i) (a:=0) ⟨AG,⟨AG⟩⟩ ?_;rintro i ⟨l,c⟩ e
 (repeat' (first|simp only[go_sem, *]|(refine sx ?_ ?_<;>intro h)|refine sy AA fun x b j=>?_|simp(disch:=first|assumption|omega) only[AR]))
 .exact zC5
 .exact zC5
 .refine e.1 (i+1) AA ⟨AA,⟨?_⟩⟩;rw[c.1,Ag b,D9,Y2 AA];rfl
 .have:s.data.toList.all M9=true:=by rw[c.1,EX AA];rfl
  simp[GY,this,f,g]
theorem sD(s:ByteArray)(l:s.size<=9223372036854775807):BX kT 200 [.d (.str s)] []=.ok (.ret (.d (.bool (GY s))),[]):=by
 have n:s.data.toList.length=s.size:=by cases s;rfl
 refine Az Tryz.func200 ?_;refine aw ?_;refine rounds (S:=fun i:Nat=>⟨[(0,.d (.str s)),(5,nI s.size),(6,nI i)],[],0,[]⟩) (Inv:=fun i=>i<=s.size/\AH (s.data.toList.all M9=(s.data.toList.drop i).all M9)) (m:=fun i=>s.size-i) (a:=0) ⟨AG,⟨AG⟩⟩ ?_;rintro i ⟨o,b⟩ h;cases e:BO.any (· ==s)with
 |false=>
  (repeat' (first|simp only[go_sem, *,nA e]|(refine sx ?_ ?_<;>intro j)|refine sy AA fun x c k=>?_|simp(disch:=first|assumption|omega) only[AR]))
  .exact zA3
  .exact zA3
  .exact zDk
  .exact zCE
  .exact zD5
  .rw[GY,DL AA];rfl
 |true=>
  (repeat' (first|simp only[go_sem, *,ACF e]|(refine sx ?_ ?_<;>intro j)|refine sy AA fun x c k=>?_|simp(disch:=first|assumption|omega) only[AR]))
  .exact zA3
  .exact zA3
  .exact zDk
  .exact zCE
  .exact zD5
  .rw[GY,DL AA];rfl
def V9(x:Int):List Int->Int->Int
 |[],_=> -1
 |y::l,i=>if x=y then i else V9 x l (i+1)
@[go_sem] theorem ADq(l:List Int)(v:Int)(g:l.length<=1000000):BX kT 220 [.d (.bv (l.map AL)),nI v] []=.ok (.ret (nI (V9 v l 0)),[]):=by
  refine Az Tryz.func220 ?_;refine aw ?_;refine rounds (S:=fun i:Nat=>⟨[(0,.d (.bv (l.map AL))),(1,nI v),(7,nI l.length),(8,nI i)],[],0,[]⟩) (Inv:=fun i=>i<=l.length/\AH (V9 v l 0=V9 v (l.drop i) i)) (m:=fun i=>l.length-i) (a:=0) ⟨AG,⟨AG⟩⟩ ?_;rintro i ⟨j,b⟩ e
  (repeat' (first|simp only[go_sem, *]|(refine sx ?_ ?_<;>intro f)|refine sy AA fun x c h=>?_|simp(disch:=first|assumption|omega) only[AR]))
  .subst f;rw[b.1,Ag c,V9,D4 rfl]
  .refine e.1 (i+1) AA ⟨AA,⟨?_⟩⟩;rw[b.1,Ag c,V9,Ci Bw];rfl
  .rw[b.1,EX AA,V9]
def bt(v:Int): ∀(l:List Int) (i:Int),0<=i->(0<=V9 v l i↔v∈l)
 |[],i,h=>by simp[V9]
 |y::l,i,h=>by
  rw[V9];split
  .rename_i e;simp[e,h]
  .rename_i e;rw[bt v l (i+1) AA];simp[e]
@[go_sem] theorem aI(l:List Int)(v:Int)(a:l.length<=1000000):BX kT 219 [.d (.bv (l.map AL)),nI v] []=.ok (.ret (.d (.bool (decide (v∈l)))),[]):=by
  have h:=bt v l 0 AA;refine Az Tryz.func219 ?_;exact au
def dC(d:CJ)(n:Int)(h:AD)(π:List Nat)(id:Abs.Id)(b:h.get id=some (.box [.d (.bv (d.be.map BD)),.d (.bv (d.ac.map Ay)),.d (.bv (d.rules.map BC))])):
 ∃o h',kT (.fn 218) [nI n,.ptr id 0] h π true none=.ok (o,h')/\h'=h/\o=if 0<=n/\n<=d.ac.length then .ret (.ii [])else .ge Ih:=by
 refine BR Tryz.func218 ?_
 (repeat' (first|simp only[go_sem, *]|(refine sx ?_ ?_<;>intro a)|refine sy AA fun x e c=>?_|simp(disch:=first|assumption|omega) only[AR]))
 all_goals simp
def DM(d:CJ)(c:Ik):Bool:=decide (0<=c.at_/\c.at_<=d.ac.length)&&(decide (0<=c.many)&&decide (c.many<=3))
def Dy:Nat->List PA->Bool
 |_,[]=>true
 |i,s::l=>decide (0<=s.pp)&&(decide (s.pp<=i)&&Dy (i+1) l)
def Hj(d:CJ)(r:Gf)(i:Nat)(c:Int):Bool:=decide (0<=c)&&(decide (c<d.be.length)&&(decide (((d.be[c.toNat]?).map Ik.at_).getD 0=r.at_)&& !decide (c∈r.eq.take i)))
def joinsOk(d:CJ)(r:Gf):Nat->List Int->Bool
 |_,[]=>true
 |i,c::l=>Hj d r i c&&joinsOk d r (i+1) l
def B9(d:CJ)(r:Gf):Bool:=decide (0<=r.at_/\r.at_<=d.ac.length)&&(decide (0<r.eq.length)&&(decide (r.eq.length<=3)&&joinsOk d r 0 r.eq))
def Qi(l:List Int)(c:Int):List Int:=if c∈l then l else l++[c]
def Hr(l:List Int):List (Al×AV):=l.map fun c=>(.int .i64 c,.d (.bool true))
def Hf(l:List Int)(rs:List Gf):List Int:=rs.foldl (fun l r=>r.eq.foldl Qi l) l
def CJ.okG(d:CJ):Bool:=decide (d.be.length<=30)&&(decide (d.ac.length<=30)&&(decide (d.rules.length<=30)&&(d.be.all (DM d)&&(Dy 0 d.ac&&(d.rules.all (B9 d)&&decide ((Hf [] d.rules).length=d.be.length))))))
def Jv(v:AV)(t:Bool):A8×AD:=if t=true then(.ret (.ii []),[])else(.ge v,[])
theorem jm(v:AV):Jv v true=(.ret (.ii []),[]):=rfl
theorem Du(v:AV):Jv v false=(.ge v,[]):=rfl
def Vm(v:AV)(t:Bool):Ch v t=.ok (Jv v t):=by cases t<;>rfl
def jY(st:List Int)(c:Int):Dh (Hr st) (.int .i64 c)=some (if c∈st then some (.d (.bool true))else none):=by
 induction st with
 |nil=>rfl
 |cons a st f=>
  show Dh ((.int .i64 a,.d (.bool true))::Hr st) _=_;rw[Dh,Ie];simp only[F6];by_cases h:a=c
  .subst h;simp
  .have b:(a==c)=false:=by simpa using h
   have h2: ¬c=a:=fun e=>h e.symm;rw[b,f];simp[h2]
theorem jZ(st:List Int)(c:Int):Fg (Hr st) (.int .i64 c) (.d (.bool true))=Hr (Qi st c):=by
 induction st with
 |nil=>rfl
 |cons a st f=>
  show Fg ((.int .i64 a,.d (.bool true))::Hr st) _ _=_;rw[Fg,Ie];simp only[F6];by_cases h:a=c
  .subst h;simp[Qi,Hr]
  .have b:(a==c)=false:=by simpa using h
   have h2: ¬c=a:=fun e=>h e.symm;rw[b];simp only;rw[f];simp only[Qi,D0,h2,false_or];split<;>rfl
def zr{id:Abs.Id}{st:List Int}{c:Int}(a:h.get id=some (.map (Hr st))):mapPut cfg.T h.get (cfg.T 315) (.mp id) (nI c) (.d (.bool true))=some ⟨.undef,[(id,.map (Hr (Qi st c)))]⟩:=by
 unfold mapPut;simp only[OA,NV,T3,LA,AV.isCell,OL,a,jY,jZ]
@[go_sem] theorem ACo(st:List Int):(Hr st).flatMap (fun p=>AE p.2)=[]:=by
  induction st with
  |nil=>rfl
  |cons a st b=>exact b
@[go_sem] theorem ACp(c:Abs.Id->Option Abs.Id)(st:List Int):(Hr st).map (fun p=>(p.1,ren c p.2))=Hr st:=by
  induction st with
  |nil=>rfl
  |cons a st b=>exact congrArg (List.cons _) b
def ic{d:CJ}(h:d.be.all (DM d)=false):d.okG=false:=zFP
def v8{d:CJ}(h:Dy 0 d.ac=false):d.okG=false:=zFP
def Y8{d:CJ}(h:d.rules.all (B9 d)=false):d.okG=false:=zFP
def lQ{d:CJ}(h: ¬(Hf [] d.rules).length=d.be.length):d.okG=false:=by simp only[CJ.okG,DL h,Gt]
def z1(d:CJ):BX kT 213 [.agg [.d (.bv (d.be.map BD)),.d (.bv (d.ac.map Ay)),.d (.bv (d.rules.map BC))]] []=.ok (Jv Ih d.okG):=by
 refine Az Tryz.func213 ?_
 (repeat' (first|simp only[go_sem, *]|(refine sx ?_ ?_<;>intro f)|refine sy AA fun x b j=>?_|simp(disch:=first|assumption|omega) only[AR]))
 all_goals try(rw[show d.okG=false by simp[CJ.okG];omega,Du])
 have v:d.be.length<=30:=AA;have w:d.ac.length<=30:=AA;have z:d.rules.length<=30:=AA;refine rounds (S:=fun i:Nat=>⟨[(1,.ptr [0,0] 0),(2,.fn 218 [] [.ptr [0,0] 0]),(31,.d (.bv (d.be.map BD))),(32,nI d.be.length),(33,nI i)],[([0,0],.box [.d (.bv (d.be.map BD)),.d (.bv (d.ac.map Ay)),.d (.bv (d.rules.map BC))])],1,[]⟩)
  (Inv:=fun i=>i<=d.be.length/\AH (d.be.all (DM d)=(d.be.drop i).all (DM d))) (m:=fun i=>d.be.length-i) (a:=0) ⟨AG,⟨AG⟩⟩ ?_
 clear f;rintro i ⟨o,e⟩ h
 (repeat' (first|simp only[go_sem, *]|(refine sx ?_ ?_<;>intro f)|refine sy AA fun x b j=>?_|simp(disch:=first|assumption|omega) only[AR]))
 .refine Ad (dC d x.at_ _ _ _ ?_) (fun M g1 s=>?_)
  .simp only[go_sem]
  obtain⟨rfl,rfl⟩:=s;by_cases g:0<=x.at_/\x.at_<=d.ac.length
  .rw[D4 g]
   (repeat' (first|simp only[go_sem, *]|(refine sx ?_ ?_<;>intro f)|refine sy AA fun x b j=>?_|simp(disch:=first|assumption|omega) only[AR]))
   .refine h.1 (i+1) AA ⟨AA,⟨?_⟩⟩;rw[e.1,Ag b,D9,show DM d x=true by simp[DM, *],FD]
   .exact zDv
   .exact zDv
  .rw[Ci g];refine aw ?_;rw[ic,Du];rw[e.1,Ag b,D9,show DM d x=false by simp only[DM,DL g,Dl],Dl]
 have B:d.be.all (DM d)=true:=by rw[e.1,EX AA];rfl
 clear f o e h i;refine rounds (S:=fun i:Nat=>⟨[(1,.ptr [0,0] 0),(2,.fn 218 [] [.ptr [0,0] 0]),(52,.d (.bv (d.ac.map Ay))),(53,nI d.ac.length),(54,nI i)],[([0,0],.box [.d (.bv (d.be.map BD)),.d (.bv (d.ac.map Ay)),.d (.bv (d.rules.map BC))])],1,[]⟩)
  (Inv:=fun i=>i<=d.ac.length/\AH (Dy 0 d.ac=Dy i (d.ac.drop i))) (m:=fun i=>d.ac.length-i) (a:=0) ⟨AG,⟨AG⟩⟩ ?_
 rintro i ⟨o,e⟩ h
 (repeat' (first|simp only[go_sem, *]|(refine sx ?_ ?_<;>intro f)|refine sy AA fun x b j=>?_|simp(disch:=first|assumption|omega) only[AR]))
 .refine h.1 (i+1) AA ⟨AA,⟨?_⟩⟩;rw[e.1,Ag b,Dy];simp[*]
 .rw[v8,Du];rw[e.1,Ag b,Dy];simp[*]
 .rw[v8,Du];rw[e.1,Ag b,Dy];simp[*]
 have K:Dy 0 d.ac=true:=by rw[e.1,EX AA];rfl
 clear f o e h i;refine rounds (S:=fun a:Nat×List Int=>⟨[(1,.ptr [0,0] 0),(2,.fn 218 [] [.ptr [0,0] 0]),(7,.mp [1,1]),(72,.d (.bv (d.rules.map BC))),(73,nI d.rules.length),(74,nI a.1)],[([0,0],.box [.d (.bv (d.be.map BD)),.d (.bv (d.ac.map Ay)),.d (.bv (d.rules.map BC))]),([1,1],.map (Hr a.2))],2,[]⟩)
  (Inv:=fun a=>a.1<=d.rules.length/\AH (d.rules.all (B9 d)=(d.rules.drop a.1).all (B9 d))/\AH (Hf [] d.rules=Hf a.2 (d.rules.drop a.1))) (m:=fun a=>d.rules.length-a.1) (a:=(0,[])) ⟨AG,⟨AG⟩,⟨AG⟩⟩ ?_
 rintro⟨i,st⟩ ⟨o,e,k3⟩ h;dsimp only at*;by_cases C:i<d.rules.length
 .obtain⟨r,b⟩:=get_some C;have D:(i:Int)<d.rules.length:=AA;refine aw ?_;refine Ad (dC d r.at_ _ _ _ ?_) (fun M g1 s=>?_)
  .simp only[go_sem]
  obtain⟨rfl,rfl⟩:=s;by_cases g:0<=r.at_/\r.at_<=d.ac.length
  .rw[D4 g]
   (repeat' (first|simp only[go_sem, *]|(refine sx ?_ ?_<;>intro f)|refine sy AA fun x b j=>?_|simp(disch:=first|assumption|omega) only[AR]))
   ·
    refine rounds (S:=fun a:Nat×List Int=>⟨[(1,.ptr [0,0] 0),(2,.fn 218 [] [.ptr [0,0] 0]),(7,.mp [1,1]),(9,.ptr [0,2] 0),(72,.d (.bv (d.rules.map BC))),(73,nI d.rules.length),(74,nI i),(94,.d (.bv (r.eq.map AL))),(95,nI r.eq.length),(96,nI a.1)],[([0,0],.box [.d (.bv (d.be.map BD)),.d (.bv (d.ac.map Ay)),.d (.bv (d.rules.map BC))]),([1,1],.map (Hr a.2)),([0,2],.box [nI r.at_,.d (.bv (r.eq.map AL)),nI r.node])],3,[]⟩)
     (Inv:=fun a=>a.1<=r.eq.length/\AH (joinsOk d r 0 r.eq=joinsOk d r a.1 (r.eq.drop a.1))/\AH (Hf [] d.rules=Hf ((r.eq.drop a.1).foldl Qi a.2) (d.rules.drop (i+1)))) (m:=fun a=>r.eq.length-a.1) (a:=(0,st)) ⟨AG,⟨AG⟩,⟨by rw[k3.1,Ag b];rfl⟩⟩ ?_
    rintro⟨k,st2⟩ ⟨j1,j2,j3⟩ IH2;dsimp only at*;by_cases H:k<r.eq.length
    .obtain⟨c,q⟩:=get_some H;have I:(k:Int)<r.eq.length:=AA;have N:(r.eq.take k).length<=1000000:=Aa;have n:AH (Hj d r k c=false->(A8.ge Ih,([]:AD))=Jv Ih d.okG):=.mk fun A=>by
      have F:joinsOk d r 0 r.eq=false:=by rw[j2.1,Ag q,joinsOk,A,Dl]
      rw[Y8,Du];rw[e.1,Ag b,D9,show B9 d r=false by simp only[B9,F,Gt],Dl]
     by_cases t:0<=c
     .by_cases u:c<d.be.length
      .obtain⟨y,L⟩:=get_some (l:=d.be) (i:=c.toNat) AA;have p:Hj d r k c=(decide (y.at_=r.at_)&& !decide (c∈r.eq.take k)):=by
        simp only[Hj,L,F3,GO,D6 t,D6 u,FD]
       (repeat' (first|simp only[go_sem, *]|(refine sx ?_ ?_<;>intro f)|refine sy AA fun x b j=>?_|simp(disch:=first|assumption|omega) only[AR,aI]))
       .rw[<-OA,zr (st:=st2) zFI];refine aw ?_;refine IH2.1 (k+1,Qi st2 c) AU ⟨AU,⟨?_⟩,⟨?_⟩⟩
        .dsimp only;rw[j2.1,Ag q,joinsOk,p];simp only[*,decide_true,decide_false,PI,PM,FD,Dl]
        .dsimp only;rw[j3.1,Ag q,Mp]
       .exact n.1 (by rw[p];simp only[*,decide_true,decide_false,PI,PM,FD,Dl])
       .exact n.1 (by rw[p,DL Bw,Dl])
      .refine aw ?_;exact n.1 (by simp only[Hj,DL u,Dl,Gt])
     .refine aw ?_;exact n.1 (by simp only[Hj,DL t,Dl])
    .have I: ¬(k:Int)<r.eq.length:=AA;refine aw ?_;refine h.1 (i+1,st2) AU ⟨AU,⟨?_⟩,⟨?_⟩⟩
     .dsimp only;rw[e.1,Ag b,D9,show B9 d r=true by
       rw[EX AA]at j2;simp only[B9,D6 g,j2.1,joinsOk];simp;omega,FD]
     .dsimp only;rw[j3.1,EX AA];rfl
   .exact zDf
   .exact zDf
  .rw[Ci g];refine aw ?_;rw[Y8,Du];rw[e.1,Ag b,D9,show B9 d r=false by simp only[B9,DL g,Dl],Dl]
 .have D: ¬(i:Int)<d.rules.length:=AA;have J:d.rules.all (B9 d)=true:=by rw[e.1,EX AA];rfl
  have O:(Hf [] d.rules).length=(Hr st).length:=by
   rw[k3.1,EX AA];simp[Hf,Hr]
  (repeat' (first|simp only[go_sem, *]|(refine sx ?_ ?_<;>intro f)|refine sy AA fun x b j=>?_|simp(disch:=first|assumption|omega) only[AR]))
  .rw[show d.okG=true by
    simp only[CJ.okG,B,K,J,D6 v,D6 w,D6 z,FD,Ap];omega,jm]
  .rw[lQ AA,Du]
def DF(t:Bool):List Al:=[.bool t]
attribute [go_sem] DF
def P4(u:List Bool)(c:Int):List Bool:=u.set c.toNat true
def OJ(u:List Bool)(rs:List Gf):List Bool:=rs.foldl (fun u r=>r.eq.foldl P4 u) u
def CJ.okR(d:CJ):Bool:=decide (d.be.length<=30)&&(decide (d.ac.length<=30)&&(decide (d.rules.length<=30)&&(d.be.all (DM d)&&(Dy 0 d.ac&&(d.rules.all (B9 d)&&(OJ (List.replicate d.be.length false) d.rules).all id)))))
def Y9{d:CJ}(h:d.be.all (DM d)=false):d.okR=false:=zFQ
def wA{d:CJ}(h:Dy 0 d.ac=false):d.okR=false:=zFQ
def R7{d:CJ}(h:d.rules.all (B9 d)=false):d.okR=false:=zFQ
def l4{d:CJ}(h:(OJ (List.replicate d.be.length false) d.rules).all id=false):d.okR=false:=by simp only[CJ.okR,h,Gt]
def yb(d:CJ):BX kT 128 [.agg [.d (.bv (d.be.map BD)),.d (.bv (d.ac.map Ay)),.d (.bv (d.rules.map BC))]] []=.ok (.ret (.d (.bool d.okR)),[]):=by
 refine Az Tryz.func128 ?_
 (repeat' (first|simp only[go_sem, *]|(refine sx ?_ ?_<;>intro g)|refine sy AA fun x f n=>?_|simp(disch:=first|assumption|omega) only[AR]))
 all_goals try(rw[show d.okR=false by simp[CJ.okR];omega])
 have R:d.be.length<=30:=AA;have J:d.ac.length<=30:=AA;have T:d.rules.length<=30:=AA;refine rounds (S:=fun i:Nat=>⟨[(1,.ptr [0,0] 0),(3,nI i)],[([0,0],.box [.d (.bv (d.be.map BD)),.d (.bv (d.ac.map Ay)),.d (.bv (d.rules.map BC))])],1,[]⟩)
  (Inv:=fun i=>i<=d.be.length/\AH (d.be.all (DM d)=(d.be.drop i).all (DM d))) (m:=fun i=>d.be.length-i) (a:=0) ⟨AG,⟨AG⟩⟩ ?_
 clear g;rintro i ⟨o,b⟩ j
 (repeat' (first|simp only[go_sem, *]|(refine sx ?_ ?_<;>intro g)|refine sy AA fun x f n=>?_|simp(disch:=first|assumption|omega) only[AR]))
 .exact zBS
 .exact zBS
 .exact zBS
 .exact zBS
 .refine j.1 (i+1) AA ⟨AA,⟨?_⟩⟩;rw[b.1,Ag f,D9,show DM d x=true by simp[DM];omega,FD]
 have C:d.be.all (DM d)=true:=by rw[b.1,EX AA];rfl
 clear g o b j i;refine rounds (S:=fun i:Nat=>⟨[(1,.ptr [0,0] 0),(4,nI i)],[([0,0],.box [.d (.bv (d.be.map BD)),.d (.bv (d.ac.map Ay)),.d (.bv (d.rules.map BC))])],1,[]⟩)
  (Inv:=fun i=>i<=d.ac.length/\AH (Dy 0 d.ac=Dy i (d.ac.drop i))) (m:=fun i=>d.ac.length-i) (a:=0) ⟨AG,⟨AG⟩⟩ ?_
 rintro i ⟨o,b⟩ j
 (repeat' (first|simp only[go_sem, *]|(refine sx ?_ ?_<;>intro g)|refine sy AA fun x f n=>?_|simp(disch:=first|assumption|omega) only[AR]))
 .rw[wA];rw[b.1,Ag f,Dy];simp;omega
 .rw[wA];rw[b.1,Ag f,Dy];simp;omega
 .refine j.1 (i+1) AA ⟨AA,⟨?_⟩⟩;rw[b.1,Ag f,Dy,D6 AA,D6 AA,FD,FD]
 have M:Dy 0 d.ac=true:=by rw[b.1,EX AA];rfl
 by_cases B:d.be=[]
 .rw[B];clear g o b j;refine aw ?_;rw[Dj];have K:d.be.length=0:=by rw[B];rfl
  rcases hr:d.rules with _|⟨r,rs⟩
  .refine aw ?_;rw[Dj];refine aw ?_;rw[show d.okR=true by
    simp only[CJ.okR,C,M,hr,B,OJ];simp;exact J]
  .have q:AH (B9 d r=false->false=d.okR):=.mk fun h=>by
    rw[R7];rw[hr,D9,h,Dl]
   clear C;rcases z:r.eq with _|⟨c,cs⟩
   ·(repeat' (first|simp only[go_sem, *]|(refine sx ?_ ?_<;>intro g)|refine sy AA fun x f n=>?_|simp(disch:=first|assumption|omega) only[AR]))
    all_goals first|(rw[<-q.1 (by simp[B9,z])];done)|(exfalso;omega)
   .have q:=AH.mk (q.1 (by
     have:joinsOk d r 0 r.eq=false:=by
      rw[z,joinsOk,Hj,K];by_cases U:0<=c
      .rw[DL (p:=c<((0:Nat):Int)) AA];simp
      .rw[DL U];simp
     simp only[B9,this,Gt]))
    (repeat' (first|simp only[go_sem, *]|(refine sx ?_ ?_<;>intro g)|refine sy AA fun x f n=>?_|simp(disch:=first|assumption|omega) only[AR]))
    all_goals try first|(rw[<-q.1];done)|(exfalso;omega)
    rw[Dj]
    (repeat' (first|simp only[go_sem, *]|(refine sx ?_ ?_<;>intro g)|refine sy AA fun x f n=>?_|simp(disch:=first|assumption|omega) only[AR]))
    all_goals first|(rw[<-q.1];done)|(exfalso;omega)
 have ad:0<d.be.length:=List.length_pos_iff.2 B;rw[Rz (zs:=[.bool false]) ad zEt rfl rfl AZ rfl];clear g o b j;refine aw ?_;have L:(List.replicate d.be.length [Al.bool false])=(List.replicate d.be.length false).map DF:=by rw[Ol];rfl
 rw[L];have N:(List.replicate d.be.length false).length=d.be.length:=I7;refine rounds (S:=fun a:Nat×List Bool=>⟨[(1,.ptr [0,0] 0),(5,.f8 [1,1] 0 d.be.length),(6,nI a.1)],[([0,0],.box [.d (.bv (d.be.map BD)),.d (.bv (d.ac.map Ay)),.d (.bv (d.rules.map BC))]),([1,1],.em 1 (a.2.map DF))],2,[]⟩)
  (Inv:=fun a=>a.1<=d.rules.length/\a.2.length=d.be.length/\AH (d.rules.all (B9 d)=(d.rules.drop a.1).all (B9 d))/\AH (OJ (List.replicate d.be.length false) d.rules=OJ a.2 (d.rules.drop a.1))) (m:=fun a=>d.rules.length-a.1) (a:=(0,List.replicate d.be.length false)) ⟨AG,N,⟨AG⟩,⟨AG⟩⟩ ?_
 clear L N;rintro⟨i,u⟩ ⟨o,k0,b,k3⟩ j;dsimp only at*;by_cases D:i<d.rules.length
 .obtain⟨r,f⟩:=get_some D;have w:(i:Int)<d.rules.length:=AA
  (repeat' (first|simp only[go_sem, *]|(refine sx ?_ ?_<;>intro g)|refine sy AA fun x f n=>?_|simp(disch:=first|assumption|omega) only[AR]))
  .exact zBT
  .exact zBT
  .exact zBT
  .exact zBT
  refine rounds (S:=fun a:Nat×List Bool=>⟨[(1,.ptr [0,0] 0),(5,.f8 [1,1] 0 d.be.length),(6,nI i),(7,.ptr [0,2] 0),(8,nI a.1)],[([0,0],.box [.d (.bv (d.be.map BD)),.d (.bv (d.ac.map Ay)),.d (.bv (d.rules.map BC))]),([1,1],.em 1 (a.2.map DF)),([0,2],.box [nI r.at_,.d (.bv (r.eq.map AL)),nI r.node])],3,[]⟩)
   (Inv:=fun a=>a.1<=r.eq.length/\a.2.length=d.be.length/\AH (joinsOk d r 0 r.eq=joinsOk d r a.1 (r.eq.drop a.1))/\AH (OJ (List.replicate d.be.length false) d.rules=OJ ((r.eq.drop a.1).foldl P4 a.2) (d.rules.drop (i+1)))) (m:=fun a=>r.eq.length-a.1) (a:=(0,u)) ⟨AG,k0,⟨AG⟩,⟨by rw[k3.1,Ag f];rfl⟩⟩ ?_
  rintro⟨k,u2⟩ ⟨j1,j0,j2,j3⟩ IH2;dsimp only at*;by_cases X:k<r.eq.length
  .obtain⟨c,I⟩:=get_some X;have Y:(k:Int)<r.eq.length:=AA;have s:AH (Hj d r k c=false->false=d.okR):=.mk fun W=>by
    have z:joinsOk d r 0 r.eq=false:=by rw[j2.1,Ag I,joinsOk,W,Dl]
    rw[R7];rw[b.1,Ag f,D9,show B9 d r=false by simp only[B9,z,Gt],Dl]
   by_cases av:c<0
   .refine aw ?_;rw[<-s.1 (by simp only[Hj,DL (show¬0<=c by omega),Dl])]
   by_cases az:(d.be.length:Int)<=c
   .refine aw ?_;rw[<-s.1 (by simp only[Hj,DL (show¬c<d.be.length by omega),Dl,Gt])]
   obtain⟨y,ar⟩:=get_some (l:=d.be) (i:=c.toNat) AA;have F:Hj d r k c=(decide (y.at_=r.at_)&& !decide (c∈r.eq.take k)):=by
    simp only[Hj,ar,F3,GO,D6 (show 0<=c by omega),D6 (show c<d.be.length by omega),FD]
   have a0:0<=c:=AA
   (repeat' (first|simp only[go_sem, *]|(refine sx ?_ ?_<;>intro g)|refine sy AA fun x f n=>?_|simp(disch:=first|assumption|omega) only[AR]))
   .refine rounds (S:=fun m:Nat=>⟨[(1,.ptr [0,0] 0),(5,.f8 [1,1] 0 d.be.length),(6,nI i),(7,.ptr [0,2] 0),(8,nI k),(9,nI c),(10,nI m)],[([0,0],.box [.d (.bv (d.be.map BD)),.d (.bv (d.ac.map Ay)),.d (.bv (d.rules.map BC))]),([1,1],.em 1 (u2.map DF)),([0,2],.box [nI r.at_,.d (.bv (r.eq.map AL)),nI r.node])],3,[]⟩)
     (Inv:=fun m=>m<=k/\AH (c∉r.eq.take m)) (m:=fun m=>k-m) (a:=0) ⟨AG,⟨AG⟩⟩ ?_
    rintro m ⟨a1,P⟩ Q;by_cases n:m<k
    .obtain⟨v,O⟩:=get_some (l:=r.eq) (i:=m) AA;have Z:(m:Int)<k:=AA;have ai:r.eq.take (m+1)=r.eq.take m++[v]:=by rw[GC,O];rfl
     (repeat' (first|simp only[go_sem, *]|(refine sx ?_ ?_<;>intro g)|refine sy AA fun x f n=>?_|simp(disch:=first|assumption|omega) only[AR]))
     .have:c∈r.eq.take k:=by
       rw[<-g];have:(r.eq.take k)[m]? =some v:=by rw[List.getElem?_take_of_lt n,O]
       exact AS this
      rw[<-s.1 (by rw[F,D6 this];simp)]
     .refine Q.1 (m+1) AA ⟨AA,⟨?_⟩⟩;rw[ai];simp only[EL,Ac,not_or];exact⟨P.1,fun h=>by simp_all⟩
    .have Z: ¬(m:Int)<k:=AA;have K:c.toNat<d.be.length:=AA;obtain⟨t,H⟩:=get_some (l:=u2) (i:=c.toNat) AA;have ac:m=k:=AA;subst ac;refine aw ?_;have e:(u2.map DF).set c.toNat [Al.bool true]=(P4 u2 c).map DF:=by rw[P4,JP];rfl
     rw[e];refine IH2.1 (m+1,P4 u2 c) AU ⟨AU,by simp[P4,j0],⟨?_⟩,⟨?_⟩⟩
     .dsimp only;rw[j2.1,Ag I,joinsOk,F,D6 Bw,DL P.1];rfl
     .dsimp only;rw[j3.1,Ag I,Mp]
   .rw[<-s.1 (by rw[F,DL Bw,Dl])]
  .have Y: ¬(k:Int)<r.eq.length:=AA;refine aw ?_;refine j.1 (i+1,u2) AU ⟨AU,j0,⟨?_⟩,⟨?_⟩⟩
   .dsimp only;rw[b.1,Ag f,D9,show B9 d r=true by
     rw[EX AA]at j2;simp only[B9,j2.1,joinsOk];simp;omega,FD]
   .dsimp only;rw[j3.1,EX AA];rfl
 .have w: ¬(i:Int)<d.rules.length:=AA;refine aw ?_;have ag:d.rules.all (B9 d)=true:=by rw[b.1,EX AA];rfl
  have A:OJ (List.replicate d.be.length false) d.rules=u:=by rw[k3.1,EX AA];rfl
  refine rounds (S:=fun i:Nat=>⟨[(5,.f8 [1,0] 0 d.be.length),(11,nI i)],[([1,0],.em 1 (u.map DF))],1,[]⟩)
   (Inv:=fun i=>i<=d.be.length/\AH (u.all id=(u.drop i).all id)) (m:=fun i=>d.be.length-i) (a:=0) ⟨AG,⟨AG⟩⟩ ?_
  clear o b k3 j D w i;rintro i ⟨o,b⟩ j;have A:=AB A;by_cases D:i<d.be.length
  .obtain⟨t,H⟩:=get_some (l:=u) (i:=i) AA;have w:(i:Int)<d.be.length:=AA;cases t
   .refine aw ?_;rw[l4 (by rw[A.1,b.1,Ag H,D9];rfl)]
   .refine aw ?_;refine j.1 (i+1) AA ⟨AA,⟨?_⟩⟩;rw[b.1,Ag H,D9];rfl
  .have w: ¬(i:Int)<d.be.length:=AA;have V:u.all id=true:=by rw[b.1,EX AA];rfl
   refine aw ?_;rw[show d.okR=true by
    simp only[CJ.okR,C,M,ag,A.1,V,D6 R,D6 J,D6 T,OL]]
def Dp(op:Int):Option Nat:=
 if op=1 then some 0 else if op=7 then some 0 else if op=3 then some 2 else if op=2 then some 0 else if op=5 then some 2
 else if op=6 then some 1 else if op=8 then some 1 else if op=4 then some 1 else none
def FI(x:C8):Bool:=if x.op=2 then decide (x.args.length<=3)else if x.op=5 then decide (x.args.length=1)else decide (x.args.length=0)
def Xc(p:AX)(size:Int)(x:C8):Bool:=if x.op=2\/x.op=6\/x.op=8 then decide (0<=x.n/\x.n<size)else if x.op=4 then decide (0<=x.n/\x.n<p.defs.length)else decide (x.n=0)
def DG(p:AX)(size:Int)(x:C8):Bool:=decide (Dp x.op=some x.kids.length)&&(Xc p size x&&(FI x&&x.args.all (B3.ok size)))
structure Bq where
 co:List Int
 met:List Bool
 defs:List Bool
def Cq(f:Int->Int->Bq->Option Bq):List (Int×Int)->Bq->Option Bq
 |[],st=>some st
 |(n,s)::l,st=>match f n s st with
  |some st'=>Cq f l st'
  |none=>none
def DS(d:CJ)(size:Int)(l:List Gf):List (Int×Int):=l.map fun r=>(r.node,size+C1 d r.eq)
def Cz(size:Int)(l:List PA):List (Int×Int):=l.map fun s=>(s.node,size)
def Ct(size:Int)(l:List Int):List (Int×Int):=l.map fun k=>(k,size)
def TG(p:AX)(size:Int)(x:C8)(st:Bq):Option (List (Int×Int)×Bq):=
 if x.op=4 then match p.defs[x.n.toNat]? with
  |some d=>if st.defs[x.n.toNat]? =some false/\d.okG=true then some (DS d (size+d.own) d.rules++(Cz (size+d.own) d.ac++Ct (size+d.own) x.kids),{st with defs:=st.defs.set x.n.toNat true})else none
  |none=>none
 else some (Ct size x.kids,st)
def Bq.meet(st:Bq)(n size:Int):Bq:={st with co:=st.co.set n.toNat size,met:=st.met.set n.toNat true}
def Bj(p:AX):Nat->Int->Int->Bq->Option Bq
 |0,_,_,_=>none
 |k+1,n,size,st=>
  if 0<=n/\st.met[n.toNat]? =some false then
   match p.nodes[n.toNat]? with
   |some x=>if DG p size x=true then match TG p size x (st.meet n size)with
    |some (l,st2)=>Cq (Bj p k) l st2
    |none=>none
    else none
   |none=>none
  else none
def dv(a b:ByteArray):Bool:=Op.bytesLess a.toList b.toList
def Jz:Option ByteArray->List ByteArray->Bool
 |_,[]=>true
 |b,a::l=>GY a&&((match b with|some b=>dv b a|none=>true)&&Jz (some a) l)
def MZ(l:List ByteArray):Bool:=Jz none l
def AX.small(p:AX):Bool:=decide (p.free.length<=12)&&(decide (p.nodes.length<=60)&&decide (p.defs.length<=12))
def Bq.init(p:AX):Bq:=⟨List.replicate p.nodes.length 0,List.replicate p.nodes.length false,List.replicate p.defs.length false⟩
def looks(p:AX):Option Bq:=
 if p.small=true/\MZ p.free=true then match Bj p (p.nodes.length+1) p.main p.free.length (Bq.init p)with
  |some st=>if st.met.all id=true/\st.defs.all id=true then some st else none
  |none=>none
 else none
structure Bq.fit(p:AX)(st:Bq):Prop where
 co:st.co.length=p.nodes.length
 met:st.met.length=p.nodes.length
 defs:st.defs.length=p.defs.length
def FE(l:List Bool):Nat:=l.count false
def GW: ∀{l:List Bool} {n:Nat},l[n]? =some false->FE (l.set n true)+1=FE l
 |[],n,h=>by simp at h
 |b::l,0,h=>by
  simp only[F4,Co]at h;subst h;simp[FE]
 |b::l,n+1,h=>by
  simp only[GS]at h;have:=GW h;cases b<;>simp[FE]at this⊢ <;>omega
def OH(l:List Bool):FE l<=l.length:=List.count_le_length
variable{st:Bq}
def Qx{p:AX}(h:st.fit p)(n size:Int):(st.meet n size).fit p:=⟨by simp[Bq.meet,h.co],by simp[Bq.meet,h.met],by simp[Bq.meet,h.defs]⟩
variable{l:List (Int×Int)}
def uz{p:AX}{size:Int}{x:C8}{a:Bq}(h:TG p size x st=some (l,a)):a.co=st.co/\a.met=st.met/\a.defs.length=st.defs.length:=by
 unfold TG at h;split at h
 .split at h
  .split at h
   .cases h;simp
   .cases h
  .cases h
 .cases h;simp
variable{f:Int->Int->Bq->Option Bq}
def Rj{R:Bq->Bq->Prop}(g: ∀st,R st st)(i: ∀a b c,R a b->R b c->R a c)(e: ∀n s st st',f n s st=some st'->R st st'): ∀{l:List (Int×Int)} {st st':Bq},Cq f l st=some st'->R st st'
 |[],st,st',h=>by cases h;exact g _
 |(n,s)::l,st,st',h=>by
  rw[Cq]at h;split at h
  .rename_i k j;exact i _ _ _ (e _ _ _ _ j) (Rj g i e h)
  .cases h
structure lV(st st':Bq):Prop where
 co:st'.co.length=st.co.length
 met:st'.met.length=st.met.length
 defs:st'.defs.length=st.defs.length
 less:FE st'.met<=FE st.met
def DC(p:AX): ∀(k:Nat) (n size:Int) (st st':Bq),Bj p k n size st=some st'->lV st st'
 |0,n,size,st,st',h=>by cases h
 |k+1,n,size,st,st',h=>by
  rw[Bj]at h;split at h
  .rename_i i;split at h
   .rename_i x o;split at h
    .split at h
     .rename_i l j h2;have f:=uz h2;have g:lV j st':=Rj (R:=lV) (fun st=>⟨rfl,rfl,rfl,Es _⟩) (fun a b c e h2=>⟨h2.1.trans e.1,h2.2.trans e.2,h2.3.trans e.3,IP h2.4 e.4⟩) (DC p k) h;have m:=GW i.2;refine⟨g.1.trans ?_,g.2.trans ?_,g.3.trans ?_,IP g.4 ?_⟩
      .rw[f.1];simp[Bq.meet]
      .rw[f.2.1];simp[Bq.meet]
      .rw[f.2.2];simp[Bq.meet]
      .rw[f.2.1];exact zDN
     .cases h
    .cases h
   .cases h
  .cases h
def J1(p:AX)(size:Int)(x:C8):Option (List (Int×Int)):=
 if x.op=4 then match p.defs[x.n.toNat]? with
  |some d=>if d.okG=true then some (DS d (size+d.own) d.rules++(Cz (size+d.own) d.ac++Ct (size+d.own) x.kids))else none
  |none=>none
 else some (Ct size x.kids)
def MN{d:CJ}(h: ∀c∈d.be,0<=c.many/\c.many<=3): ∀l:List Int,0<=C1 d l/\C1 d l<=3*l.length
 |[]=>by simp[C1]
 |j::l=>by
  have b:=MN h l;rw[C1];have:0<=((d.be[j.toNat]?).map Ik.many).getD 0/\((d.be[j.toNat]?).map Ik.many).getD 0<=3:=by
   cases a:d.be[j.toNat]? with
   |none=>simp
   |some c=>simpa using h c (AS a)
  simp only[List.length_cons];omega
structure PB(d:CJ):Prop where
 be:d.be.length<=30
 ac:d.ac.length<=30
 rules:d.rules.length<=30
 chan: ∀c∈d.be,0<=c.at_/\c.at_<=d.ac.length/\0<=c.many/\c.many<=3
 spot:Dy 0 d.ac=true
 wn: ∀r∈d.rules,B9 d r=true
 stands:(Hf [] d.rules).length=d.be.length
def VH{d:CJ}(h:d.okG=true):PB d:=by
 simp only[CJ.okG,AP,Ap,D3,DM]at h;obtain⟨e,h2,f,a,g,i,j⟩:=h;exact⟨e,h2,f,fun c b=>⟨(a c b).1.1,(a c b).1.2,(a c b).2.1,(a c b).2.2⟩,g,i,j⟩
variable{r:Gf}
def Pa{d:CJ}: ∀{i:Nat} {l:List Int},joinsOk d r i l=true-> ∀j∈l,0<=j/\j<d.be.length
 |i,[],h=>AG
 |i,c::l,h=>by
  intro j a;rw[joinsOk,AP]at h;rcases D0.1 a with rfl|a
  .have:=h.1;simp only[Hj,AP,Ap]at this;exact⟨this.1,this.2.1⟩
  .exact Pa h.2 j a
def Ps{d:CJ}(h:PB d)(b:r∈d.rules):d.joinsOk r:=by
 have:=h.wn r b;simp only[B9,AP,Ap]at this;exact⟨this.2.2.1,Pa this.2.2.2,fun c a=>(h.chan c a).2.2⟩
def Po{d:CJ}(h:PB d):d.own<=60:=by
 have:=h.be;have:=h.ac;unfold CJ.own;omega
def qy{p:AX}{size:Int}{x:C8}(h:J1 p size x=some l): ∀q∈l,size<=q.2/\q.2<=size+70:=by
 unfold J1 at h;split at h
 .split at h
  .rename_i d f;split at h
   .rename_i a;cases h;have a:=VH a;have g:=Po a;intro q b;simp only[EL,DS,Cz,Ct,F1]at b;rcases b with⟨r,c,rfl⟩|⟨r,c,rfl⟩|⟨r,c,rfl⟩
    .have e:=Ps a c;have:=MN e.2.2 r.eq;have:=e.1;dsimp only;omega
    .dsimp only;omega
    .dsimp only;omega
   .cases h
  .cases h
 .cases h;intro q b;simp only[Ct,F1]at b;obtain⟨k,a,rfl⟩:=b;dsimp only;omega
def Bq.has(st:Bq)(q:Int×Int):Prop:=0<=q.1/\st.met[q.1.toNat]? =some true/\st.co[q.1.toNat]? =some q.2
structure RE(p:AX)(st:Bq)(i:Nat)(x:C8):Prop where
 met:st.met[i]? =some true
 ex: ∃s l,st.co[i]? =some s/\0<=s/\s<=5000/\DG p s x=true/\J1 p s x=some l/\ ∀q∈l,st.has q
structure yC(p:AX)(st st':Bq):Prop where
 pm: ∀i:Nat,st.met[i]? =some true->st'.met[i]? =some true/\st'.co[i]? =st.co[i]?
 i9: ∀(i:Nat) (x:C8),st'.met[i]? =some true->st.met[i]? ≠some true->p.nodes[i]? =some x->RE p st' i x
 defs: ∀i:Nat,st.defs[i]? =some true->st'.defs[i]? =some true
 news: ∀(i:Nat) (x:C8),st'.met[i]? =some true->st.met[i]? ≠some true->p.nodes[i]? =some x->x.op=4->st.defs[x.n.toNat]? ≠some true/\st'.defs[x.n.toNat]? =some true
 used: ∀n:Nat,st'.defs[n]? =some true->st.defs[n]? ≠some true-> ∃(i:Nat) (x:C8),p.nodes[i]? =some x/\x.op=4/\x.n.toNat=n
 diff: ∀(i j:Nat) (x y:C8),i≠j->st'.met[i]? =some true->st.met[i]? ≠some true->p.nodes[i]? =some x->x.op=4->st'.met[j]? =some true->st.met[j]? ≠some true->p.nodes[j]? =some y->y.op=4->x.n.toNat≠y.n.toNat
variable{st':Bq}
def uo{p:AX}{q:Int×Int}(h:st.has q)(c:yC p st st'):st'.has q:=by
 obtain⟨a,h2,b⟩:=h;have:=c.pm _ h2;exact⟨a,this.1,by rw[this.2,b]⟩
def zm{p:AX}{i:Nat}{x:C8}(h:RE p st i x)(a:yC p st st'):RE p st' i x:=by
 obtain⟨c,s,l,h2,b,j,e,f,g⟩:=h;have:=a.pm _ c;exact⟨this.1,s,l,by rw[this.2,h2],b,j,e,f,fun q k=>uo (g q k) a⟩
def r9(p:AX)(st:Bq):yC p st st:=⟨fun i h=>⟨h,rfl⟩,fun i x a h2=>absurd a h2,fun i h=>h,fun i x a h2=>absurd a h2,fun n a h2=>absurd a h2,fun i j x y h a h2=>absurd a h2⟩
def la{p:AX}{a b c:Bq}(g:yC p a b)(h2:yC p b c):yC p a c:=by
 refine⟨fun i h=>?_,fun i x q r f=>?_,fun i h=>h2.defs i (g.defs i h),fun i x q r f D=>?_,fun n q r=>?_,fun i j x y w z A f t B C v u=>?_⟩
 .have k:=g.pm i h;have m:=h2.pm i k.1;exact⟨m.1,m.2.trans k.2⟩
 .by_cases l:b.met[i]? =some true
  .exact zm (g.i9 i x l r f) h2
  .exact h2.i9 i x q l f
 .by_cases l:b.met[i]? =some true
  .have:=g.news i x l r f D;exact⟨this.1,h2.defs _ this.2⟩
  .have:=h2.news i x q l f D;exact⟨fun e=>this.1 (g.defs _ e),this.2⟩
 .by_cases l:b.defs[n]? =some true
  .exact g.used n l r
  .exact h2.used n q l
 .by_cases s:b.met[i]? =some true
  .by_cases o:b.met[j]? =some true
   .exact g.diff i j x y w s A f t o C v u
   .have k:=g.news i x s A f t;have m:=h2.news j y B o v u;intro e;rw[e]at k;exact m.1 k.2
  .by_cases o:b.met[j]? =some true
   .have k:=g.news j y o C v u;have m:=h2.news i x z s f t;intro e;rw[<-e]at k;exact m.1 k.2
   .exact h2.diff i j x y w z s f t B o v u
structure AY(st:Bq)(u:Nat):Prop where
 len:st.co.length=st.met.length
 less:FE st.met<=u
def W9{p:AX}{b:Nat}(g: ∀(n s:Int) (st st':Bq),AY st b->0<=s->s+70*b<=5000->f n s st=some st'->yC p st st'/\st'.has (n,s)/\AY st' b): ∀{l:List (Int×Int)} {st st':Bq},AY st b->(∀q∈l,0<=q.2/\q.2+70*b<=5000)->Cq f l st=some st'->yC p st st'/\(∀q∈l,st'.has q)/\AY st' b
 |[],st,st',hl,a,h=>by cases h;exact⟨r9 _ _,AG,hl⟩
 |(n,s)::l,st,st',hl,a,h=>by
  rw[Cq]at h;split at h
  .rename_i m j;have i:=a (n,s) AG;have e:=g _ _ _ _ hl i.1 i.2 j;have c:=W9 g e.2.2 (fun q k=>a q (F0 _ k)) h;refine⟨la e.1 c.1,fun q a=>?_,c.2.2⟩;rcases D0.1 a with rfl|a
   .exact uo e.2.1 c.1
   .exact c.2.1 q a
  .cases h
def ou{p:AX}{size:Int}{x:C8}{st a:Bq}{l:List (Int×Int)}(h:TG p size x st=some (l,a)):J1 p size x=some l/\a.co=st.co/\a.met=st.met/\(∀i:Nat,st.defs[i]? =some true->a.defs[i]? =some true)/\(x.op=4->st.defs[x.n.toNat]? ≠some true/\a.defs[x.n.toNat]? =some true)/\ ∀i:Nat,a.defs[i]? =some true->st.defs[i]? ≠some true->x.op=4/\x.n.toNat=i:=by
 unfold TG at h;unfold J1;split at h
 .rename_i c;rw[D4 c];split at h
  .rename_i d j;split at h
   .rename_i f;cases h;refine⟨by first|exact D4 f.2|(rw[j];exact D4 f.2),rfl,rfl,fun i g=>?_,fun _=>⟨by rw[f.1];simp,?_⟩,fun i b h2=>⟨c,?_⟩⟩
    .rw[IF];split
     .rename_i e;subst e;rw[D4 (BV.1 g).1]
     .exact g
    .rw[IF,D4 rfl,D4 (BV.1 f.1).1]
    .rw[IF]at b;split at b
     .assumption
     .exact absurd b h2
   .cases h
  .cases h
 .rename_i c;rw[Ci c];cases h;exact⟨rfl,rfl,rfl,fun i h=>h,fun h=>absurd h c,fun i b h2=>absurd b h2⟩
def X6(p:AX): ∀(k:Nat) (n size:Int) (st st':Bq) (f:Nat),AY st f->0<=size->size+70*f<=5000->Bj p k n size st=some st'->yC p st st'/\st'.has (n,size)/\AY st' f
 |0,n,size,st,st',f,_,_,_,h=>by cases h
 |k+1,n,size,st,st',f,hb,h0,hsz,h=>by
  rw[Bj]at h;split at h
  .rename_i A;split at h
   .rename_i x u;split at h
    .rename_i Z;split at h
     .rename_i l F h2;have a:=ou h2;have R:=hb.len;have ag:=GW A.2;have ad:=hb.less;obtain⟨f,rfl⟩: ∃v,f=v+1:=⟨f-1,AA⟩;have V:AY F f:=⟨by rw[a.2.1,a.2.2.1];simp[Bq.meet,R],by rw[a.2.2.1];simp only[Bq.meet];omega⟩;have Y:=qy a.1;obtain⟨c,X,r⟩:=W9 (fun n s st st'=>X6 p k n s st st' f) V (fun q ac=>by have:=Y q ac;omega) h;have S:=(BV.1 A.2).1;have m: ∀i,F.met[i]? =if n.toNat=i then some true else st.met[i]? :=fun i=>by
       rw[a.2.2.1,Bq.meet,IF];split
       .rename_i e;subst e;simp[S]
       .rfl
      have U: ∀i,F.co[i]? =if n.toNat=i then some size else st.co[i]? :=fun i=>by
       rw[a.2.1,Bq.meet,IF];split
       .rename_i e;subst e;simp[R,S]
       .rfl
      have D:=c.pm n.toNat (by rw[m,D4 rfl]);rw[U,D4 rfl]at D;refine⟨⟨fun i o=>?_,fun i y w I b=>?_,fun i o=>c.defs i (a.2.2.2.1 i o),fun i y w I b T=>?_,fun i o W=>?_,fun i j y z M N O b J P Q r K=>?_⟩,⟨A.1,D.1,D.2⟩,r.1,Nat.le_succ_of_le r.2⟩
      .have g:n.toNat≠i:=fun e=>by subst e;rw[A.2]at o;simp at o
       have:=c.pm i (by rw[m,Ci g,o]);rw[U,Ci g]at this;exact this
      .by_cases g:n.toNat=i
       .subst g;rw[u]at b;cases b;exact⟨w,size,l,D.2,h0,AA,Z,a.1,X⟩
       .exact c.i9 i y w (by rw[m,Ci g];exact I) b
      .by_cases g:n.toNat=i
       .subst g;rw[u]at b;cases b;have:=a.2.2.2.2.1 T;exact⟨this.1,c.defs _ this.2⟩
       .have:=c.news i y w (by rw[m,Ci g];exact I) b T;exact⟨fun e=>this.1 (a.2.2.2.1 _ e),this.2⟩
      .by_cases L:F.defs[i]? =some true
       .have:=a.2.2.2.2.2 i L W;exact⟨_,x,u,this⟩
       .exact c.used i o L
      .by_cases B:n.toNat=i
       .have C:n.toNat≠j:=fun e=>M (B.symm.trans e);subst B;rw[u]at b;cases b;have t:=a.2.2.2.2.1 J;have H:=c.news j z P (by rw[m,Ci C];exact Q) r K;intro e;rw[e]at t;exact H.1 t.2
       .by_cases C:n.toNat=j
        .subst C;rw[u]at r;cases r;have t:=a.2.2.2.2.1 K;have H:=c.news i y N (by rw[m,Ci B];exact O) b J;intro e;rw[<-e]at t;exact H.1 t.2
        .exact c.diff i j y z M N (by rw[m,Ci B];exact O) b J P (by rw[m,Ci C];exact Q) r K
     .cases h
    .cases h
   .cases h
  .cases h
structure BP(p:AX)(co:List Int):Prop where
 small:p.small=true
 len:co.length=p.nodes.length
 main:0<=p.main/\co[p.main.toNat]? =some (p.free.length:Int)
 node: ∀(i:Nat) (x:C8),p.nodes[i]? =some x-> ∃(s:Int) (l:List (Int×Int)),co[i]? =some s/\0<=s/\s<=5000/\DG p s x=true/\J1 p s x=some l/\ ∀q∈l,0<=q.1/\co[q.1.toNat]? =some q.2
 used: ∀n:Nat,n<p.defs.length-> ∃(i:Nat) (x:C8),p.nodes[i]? =some x/\x.op=4/\x.n.toNat=n
 diff: ∀(i j:Nat) (x y:C8),i≠j->p.nodes[i]? =some x->x.op=4->p.nodes[j]? =some y->y.op=4->x.n.toNat≠y.n.toNat
def jx{l:List Bool}(h:l.all id=true){i:Nat}(a:i<l.length):l[i]? =some true:=by
 have:=D3.1 h _ (No a);rw[CO a];simpa using this
def DP{p:AX}(h:looks p=some st):BP p st.co:=by
 unfold looks at h;split at h
 .rename_i o;split at h
  .rename_i st' r;split at h
   .rename_i k;cases h;have H:=o.1;simp only[AX.small,AP,Ap]at H;have e:=DC p _ _ _ _ _ r;have M:=OH (Bq.init p).met;have K:(Bq.init p).met.length=p.nodes.length:=by simp[Bq.init]
    have b:=X6 p _ _ _ _ _ 60 ⟨by simp[Bq.init],AA⟩ AA AA r;have B:st.met.length=p.nodes.length:=by rw[e.met];simp[Bq.init]
    have I:st.co.length=p.nodes.length:=by rw[e.co];simp[Bq.init]
    have J:st.defs.length=p.defs.length:=by rw[e.defs];simp[Bq.init]
    have f: ∀{i x},p.nodes[i]? =some x->st.met[i]? =some true:=fun{i x} a=>jx k.1 (by rw[B];exact(BV.1 a).1);have c: ∀i:Nat,(Bq.init p).met[i]? ≠some true:=fun i=>by
     simp only[Bq.init,TO];split<;>simp
    have z: ∀i:Nat,(Bq.init p).defs[i]? ≠some true:=fun i=>by
     simp only[Bq.init,TO];split<;>simp
    refine⟨o.1,I,⟨b.2.1.1,b.2.1.2.2⟩,fun i x a=>?_,fun n L=>b.1.used n (jx k.2 AA) (z n),fun i j x y A a C t D=>b.1.diff i j x y A (f a) (c _) a C (f t) (c _) t D⟩;obtain⟨_,s,l,u,F,w,h2,v,g⟩:=b.1.i9 i x (f a) (c _) a;exact⟨s,l,u,F,w,h2,v,fun q m=>⟨(g q m).1,(g q m).2.2⟩⟩
   .cases h
  .cases h
 .cases h
structure Tl(n:Nat)(u:List Bool)(st:List Int):Prop where
 len:u.length=n
 cnt:FE u+st.length=n
 mem: ∀c:Int,0<=c->c<n->(u[c.toNat]? =some true↔c∈st)
def qg{n:Nat}{a:List Bool}{st:List Int}{c:Int}(h:Tl n a st)(p:0<=c)(q:c<n):Tl n (P4 a c) (Qi st c):=by
 have s:c.toNat<a.length:=by rw[h.len];omega
 have m:=h.mem c p q;have u: ∀b:Int,0<=b->b<n->((P4 a c)[b.toNat]? =some true↔b=c\/a[b.toNat]? =some true):=fun b j k=>by
  rw[P4,IF];split
  .rename_i e;have:b=c:=AA;subst this;simp[s]
  .rename_i e;have:b≠c:=fun h=>e (by rw[h]);simp[this]
 cases f:a[c.toNat]? with
 |none=>rw[List.getElem?_eq_none_iff]at f;omega
 |some t=>
  cases t with
  |true=>
   have r:=m.1 f;have g:Qi st c=st:=by rw[Qi,D4 r]
   have o:P4 a c=a:=by
    apply List.ext_getElem?;intro i;rw[P4,IF];split
    .rename_i e;subst e;exact f.symm
    .rfl
   rw[o,g];exact h
  |false=>
   have v:c∉st:=fun l=>by rw[m.2 l]at f;simp at f
   have g:Qi st c=st++[c]:=by rw[Qi,Ci v]
   have l:=GW f;have w:=h.cnt;refine⟨by simp[P4,h.len],?_,fun b j k=>?_⟩
   .rw[g];simp only[P4,Be,I0];omega
   .rw[u b j k,g,h.mem b j k];simp[or_comm]
def S6{n:Nat}: ∀{l:List Int} {a:List Bool} {st:List Int},Tl n a st->(∀c∈l,0<=c/\c<n)->Tl n (l.foldl P4 a) (l.foldl Qi st)
 |[],a,st,h,_=>h
 |c::l,a,st,h,hc=>by
  have:=hc c AG;exact S6 (l:=l) (qg h this.1 this.2) (fun b e=>hc b (F0 _ e))
def S7{n:Nat}: ∀{l:List Gf} {a:List Bool} {st:List Int},Tl n a st->(∀r∈l,∀c∈r.eq,0<=c/\c<n)->Tl n (OJ a l) (Hf st l)
 |[],a,st,h,_=>h
 |r::l,a,st,h,hc=>by
  have e:OJ a (r::l)=OJ (r.eq.foldl P4 a) l:=rfl;have f:Hf st (r::l)=Hf (r.eq.foldl Qi st) l:=rfl;rw[e,f];exact S7 (S6 h (hc r AG)) (fun b g=>hc b (F0 _ g))
def WZ: ∀l:List Bool,l.all id=decide (FE l=0)
 |[]=>by simp[FE]
 |b::l=>by
  rw[D9,WZ l];cases b
  .simp[FE]
  .have:FE (true::l)=FE l:=by simp[FE]
   rw[this];rfl
def n5(d:CJ):d.okR=d.okG:=by
 unfold CJ.okR CJ.okG;by_cases a:d.rules.all (B9 d)=true
 .have b:Tl d.be.length (List.replicate d.be.length false) []:=⟨AG,by simp[FE],fun c b g=>by simp[TO]⟩;have h:=S7 (l:=d.rules) b (fun r f c e=>by
   have:=D3.1 a r f;simp only[B9,AP]at this;exact Pa this.2.2.2 c e)
  have e:=h.cnt;rw[WZ];congr 6;rw[decide_eq_decide];omega
 .rw[Lm]at a;rw[a];simp
end Go.Proofs
namespace Go.Proofs
open Abs
def Qk(co:List Int)(x:C8):Int:=((x.kids[0]?).map fun k=>(co[k.toNat]?).getD 0).getD 0
def GJ(co:List Int):List Int->List C8->List Int
 |out,[]=>out
 |out,x::l=>GJ co (if x.op=4 then out.set x.n.toNat (Qk co x)else out) l
def B8(p:AX)(co:List Int):List Int:=GJ co (List.replicate p.defs.length 0) p.nodes
def KA(co:List Int): ∀(l:List C8) (out:List Int),(GJ co out l).length=out.length
 |[],out=>rfl
 |x::l,out=>by
  rw[GJ,KA co l];split<;>simp
def Qe(co:List Int)(n:Nat)(v:Int): ∀(l:List C8) (out:List Int),n<out.length->(∀x∈l,x.op=4->x.n.toNat=n->Qk co x=v)->(out[n]? =some v\/ ∃x∈l,x.op=4/\x.n.toNat=n)->(GJ co out l)[n]? =some v
 |[],out,hn,h1,h2=>by
  rcases h2 with h|⟨x,a,_⟩
  .exact h
  .cases a
 |x::l,out,hn,h1,h2=>by
  rw[GJ];refine Qe co n v l _ (by split<;>simpa using hn) (fun y b=>h1 y (F0 _ b)) ?_;by_cases a:x.op=4/\x.n.toNat=n
  .left;rw[D4 a.1,IF,D4 a.2,a.2,D4 hn,h1 x AG a.1 a.2]
  .rcases h2 with h|⟨y,b,c⟩
   .left;split
    .rename_i f;rw[IF,Ci fun e=>a ⟨f,e⟩];exact h
    .exact h
   .rcases D0.1 b with rfl|b
    .exact absurd c a
    .exact .inr ⟨y,b,c⟩
structure yF(p:AX)(co:List Int)(n:Nat)(d:CJ):Prop where
 ok:PB d
 node: ∃(i:Nat) (x:C8) (s:Int),p.nodes[i]? =some x/\x.op=4/\x.n.toNat=n/\co[i]? =some s/\0<=s/\s<=5000/\(B8 p co)[n]? =some (s+d.own)/\(∀r∈d.rules,0<=r.node/\co[r.node.toNat]? =some (s+d.own+C1 d r.eq))/\(∀y∈d.ac,0<=y.node/\co[y.node.toNat]? =some (s+d.own))/\ ∃k,x.kids=[k]/\0<=k/\co[k.toNat]? =some (s+d.own)
def CC{p:AX}{co:List Int}(h:BP p co){n:Nat}{d:CJ}(q:p.defs[n]? =some d):yF p co n d:=by
 have v:=(BV.1 q).1;obtain⟨i,x,b,c,f⟩:=h.used n v;obtain⟨s,l,H,z,A,w,D,m⟩:=h.node i x b;have a:=D;rw[J1,D4 c,f,q]at a;dsimp only at a;split at a
 .rename_i B;cases a;have C: ∃k,x.kids=[k]:=by
   simp only[DG,AP,Ap]at w;have:=w.1;rw[c]at this;simp only[Dp]at this;have:x.kids.length=1:=by simpa using this.symm
   match e:x.kids,this with
   |[k],_=>exact⟨k,rfl⟩
  obtain⟨k,e⟩:=C;have u:0<=k/\co[k.toNat]? =some (s+d.own):=m (k,s+d.own) (by simp[Ct,e]);refine⟨VH B,i,x,s,b,c,f,H,z,A,?_,fun r F=>?_,fun y o=>?_,k,e,u⟩
  .refine Qe co n _ p.nodes _ (by simpa using v) (fun y o J I=>?_) (.inr ⟨x,AS b,c,f⟩);obtain⟨j,g⟩:=II o;by_cases t:i=j
   .subst t;rw[b]at g;cases g;simp[Qk,e,u.2]
   .exact absurd (f.trans I.symm) (h.diff i j x y t b c g J)
  .exact m (r.node,s+d.own+C1 d r.eq) (by simp only[DS,EL,F1];exact .inl ⟨r,F,rfl⟩)
  .exact m (y.node,s+d.own) (by simp only[Cz,EL,F1];exact .inr (.inl ⟨y,o,rfl⟩))
 .cases a
def BA.own(d:CJ)(g:BA)(ch:Bool)(n:Int):Int:=((g.env[g.env.length-d.ac.length-(if ch then d.be.length else 0)+n.toNat]?).map Cm.n).getD 0
def BA.place(d:CJ)(g:BA)(n:Int):Int:=if n=0 then g.at_ else g.own d false (n-1)
def Ak(l:List Bl)(i:Int):Bool:=((l[i.toNat]?).map Bl.dead).getD false
def Gb(p:AX)(nc ns:Nat)(many:Int)(m:List Cm):Bool:=decide ((m.length:Int)=many)&&m.all (Cm.inB p nc ns)
def PC(p:AX)(s:BU)(d:CJ)(g:BA)(i j:Nat)(q:HD)(ch:Ik):Bool:=
 decide (q.group=i)&&(decide (q.index=j)&&(decide (q.at_=g.place d ch.at_)&&(decide (q.queue.length<=12)&&((decide (q.queue.length=0)|| !Ak s.ac q.at_)&&q.queue.all (Gb p s.be.length s.ac.length ch.many)))))
def Lq(p:AX)(s:BU)(d:CJ)(g:BA)(i j a:Nat)(ch:Ik):Bool:=match s.be[a]? with|some q=>PC p s d g i j q ch|none=>false
def FL(p:AX)(s:BU)(d:CJ)(g:BA)(i c:Nat):Nat->List Ik->Bool
 |_,[]=>true
 |j,ch::l=>Lq p s d g i j (c+j) ch&&FL p s d g i c (j+1) l
def Fh(c k:Nat)(d:CJ):List Cm:=(List.range' c d.be.length).map (fun(j:Nat)=>⟨3,(j:Int)⟩)++(List.range' k d.ac.length).map (fun(j:Nat)=>⟨4,(j:Int)⟩)
def Dz(d:CJ)(c k:Nat)(g:BA):Bool:=decide (g.env.drop (g.env.length-d.be.length-d.ac.length)=Fh c k d)
def Kh(p:AX)(gs:List Int)(s:BU)(i c k:Nat)(g:BA)(d:CJ):Bool:=
 decide (FT s.ac g.at_)&&(decide ((g.env.length:Int)=(gs[g.f9.toNat]?).getD 0)&&(g.env.all (Cm.inB p s.be.length s.ac.length)&&(Dz d c k g&&FL p s d g i c 0 d.be)))
def AX.def? (p:AX)(n:Int):Option CJ:=if 0<=n then p.defs[n.toNat]? else none
def CZ(p:AX)(gs:List Int)(s:BU):Nat->Nat->Nat->List BA->Bool
 |_,c,k,[]=>decide (c=s.be.length)&&decide (k=s.ac.length)
 |i,c,k,g::l=>match p.def? g.f9 with
  |some d=>Kh p gs s i c k g d&&CZ p gs s (i+1) (c+d.be.length) (k+d.ac.length) l
  |none=>false
def DZ(op:Int):Bool:=decide (op=6)||(decide (op=7)||decide (op=8))
def Cc(p:AX)(co:List Int)(s:BU)(w:Gg):Bool:=
 decide (FT s.ac w.at_)&&(!Ak s.ac w.at_&&(decide (0<=w.node)&&((match p.nodes[w.node.toNat]? with|some x=>DZ x.op|none=>false)&&(decide ((w.env.length:Int)=(co[w.node.toNat]?).getD 0)&&w.env.all (Cm.inB p s.be.length s.ac.length)))))
def HJ(l:List Bl):List Bl->Bool
 |[]=>true
 |x::m=>(x.dead|| !Ak l x.pp)&&HJ l m
def BU.small(s:BU):Bool:=decide (s.ac.length<=24)&&(decide (s.ce.length<=40)&&(decide (s.be.length<=60)&&decide (s.waits.length<=40)))
def EH(p:AX)(co:List Int)(s:BU):Bool:=
 s.small&&(GN s.ac&&(HJ s.ac (s.ac.drop 1)&&(CZ p (B8 p co) s 0 0 1 s.ce&&s.waits.all (Cc p co s))))
end Go.Proofs
namespace Go.Proofs
open Abs
def NW{p:AX}{co:List Int}(h:BP p co){i:Nat}{x:C8}(q:p.nodes[i]? =some x)(c:x.op=4):0<=x.n/\x.n<p.defs.length/\ ∃k v,x.kids=[k]/\0<=k/\co[k.toNat]? =some v/\Qk co x=v/\0<=v/\v<=5070:=by
 obtain⟨s,l,w,r,t,g,n,o⟩:=h.node i x q;simp only[DG,AP,Ap]at g;have b:=g.2.1;rw[Xc,Ci (by rw[c];decide),D4 c]at b;have b:=of_decide_eq_true b;refine⟨b.1,b.2,?_⟩;have e:=g.1;rw[c]at e;simp only[Dp]at e;have m:x.kids.length=1:=by simpa using e.symm
 match hkk:x.kids,m with
 |[k],_=>
  have a:=n;rw[J1,D4 c]at a;split at a
  .rename_i d u;split at a
   .rename_i j;cases a;have f:0<=k/\co[k.toNat]? =some (s+d.own):=o (k,s+d.own) (by simp[Ct,hkk]);have:=Po (VH j);exact⟨k,s+d.own,rfl,f.1,f.2,by simp[Qk,hkk,f.2],AA,AA⟩
   .cases a
  .cases a
end Go.Proofs
namespace Go.Proofs
open Abs
def Km(c k:Nat)(d:CJ):(Fh c k d).length=d.own:=by simp[Fh,CJ.own]
variable{j:Nat}
def Nn(c k:Nat)(d:CJ)(h:j<d.be.length):(Fh c k d)[j]? =some ⟨3,(c:Int)+(j:Int)⟩:=by
 rw[Fh,Ce (by simpa using h),D7,List.getElem?_range' h];simp
def Np(c k:Nat)(d:CJ)(h:j<d.ac.length):(Fh c k d)[d.be.length+j]? =some ⟨4,(k:Int)+(j:Int)⟩:=by
 rw[Fh,D1 AG];simp only[As,List.length_range'];rw[Nat.add_sub_cancel_left,D7,List.getElem?_range' h];simp
variable{c k:Nat}{g:BA}
def cQ{d:CJ}(h:Dz d c k g=true)(j:Nat):g.env[g.env.length-d.be.length-d.ac.length+j]? =(Fh c k d)[j]? :=by
 have h:=of_decide_eq_true h;rw[<-h,Hm]
def XZ{d:CJ}(h:Dz d c k g=true)(a:j<d.be.length):g.env[g.env.length-d.be.length-d.ac.length+j]? =some ⟨3,(c:Int)+(j:Int)⟩:=by
 rw[cQ h,Nn _ _ _ a]
def Xa{d:CJ}(h:Dz d c k g=true)(a:d.own<=g.env.length)(b:j<d.ac.length):g.env[g.env.length-d.ac.length+j]? =some ⟨4,(k:Int)+(j:Int)⟩:=by
 unfold CJ.own at a;have:=cQ h (d.be.length+j);rw[Np _ _ _ b]at this;rw[<-this];congr 1;omega
def VN{d:CJ}(h:Dz d c k g=true)(a:d.own<=g.env.length){n:Int}(b:1<=n)(h2:n<=d.ac.length):g.place d n=(k:Int)+(n-1):=by
 rw[BA.place,Ci AA,BA.own];simp only[AM,FN,Nat.sub_zero];rw[Xa h a (j:=(n-1).toNat) AA];simp only[F3,GO];omega
def Jo{d:CJ}(h:Dz d c k g=true){n:Int}(a:0<=n)(h2:n<d.be.length):g.own d true n=(c:Int)+n:=by
 rw[BA.own];simp only[F6];have:=XZ h (j:=n.toNat) AA;rw[show g.env.length-d.ac.length-d.be.length+n.toNat=g.env.length-d.be.length-d.ac.length+n.toNat by omega,this];simp only[F3,GO];omega
def Q4{p:AX}{s:BU}{d:CJ}(h:Dz d c k g=true)(a:d.own<=g.env.length)(f:FT s.ac g.at_)(l:g.env.all (Cm.inB p s.be.length s.ac.length)=true){n:Int}(m:0<=n)(h2:n<=d.ac.length):FT s.ac (g.place d n):=by
 by_cases b:n=0
 .rw[BA.place,D4 b];exact f
 .rw[VN h a AA h2];have i:=Xa h a (j:=(n-1).toNat) AA;have:=D3.1 l _ (AS i);simp[Cm.inB]at this;have e:((n-1).toNat:Int)=n-1:=Pu AA;constructor
  .omega
  .omega
def tG{d:CJ}(b:d.own<=g.env.length){i:Nat}(c:i<d.own): ∃v,g.env[g.env.length-d.be.length-d.ac.length+i]? =some v/\g.env.drop (g.env.length-d.be.length-d.ac.length+i)=v::g.env.drop (g.env.length-d.be.length-d.ac.length+(i+1)):=by
 unfold CJ.own at*;obtain⟨v,a⟩:=get_some (l:=g.env) (i:=g.env.length-d.be.length-d.ac.length+i) AA;exact⟨v,a,Ag a⟩
@[irreducible] def Ir(C:DJ)(f:FuncId)(π:List Nat)(b:Nat)(e:CA)(h:AD):St:=PN π h (Kj e (C.live f b))
def Ec(C:DJ)(f:FuncId)(π:List Nat)(b:Nat)(e:CA)(h:AD):Ir C f π b e h=PN π h (Kj e (C.live f b)):=by unfold Ir;rfl
def mJ(b:Nat)(e:CA)(h:AD)(bs:Nat)(π:List Nat)(ci:Option (List Nat))(a:Bool)(nt:Nat):Fq cfg ⟨153,π,false,ci,a,nt⟩ b ⟨e,h,bs,[]⟩=Ir cfg 153 π b e h:=by
 exact zEE
attribute [go_sem 2000] mJ
def yI(g:AD)(v:AV)(q:List (List Cm)):Prop:=(q.length=0/\v=.d7)\/(q.length≠0/\ ∃id,v=.f8 id 0 q.length/\g.get id=some (.em 1 (q.map BJ)))
structure Fu(g:AD)(es:List (List AV))(l:List HD):Prop where
 len:es.length=l.length
 row: ∀(j:Nat) (x:HD),l[j]? =some x-> ∃v,es[j]? =some (A6 x v)/\yI g v x.queue
 diff:(es.flatMap A9).Nodup
def FW(π:List Nat)(b:Nat)(id:Abs.Id):Prop:= ∃t j,j<b/\id=t::j::π
structure rZ(π:List Nat)(l:List HD)(i:Nat)(v:AV)(g:AD)(b:Nat)(A:Abs.Id)(es:List (List AV)):Prop where
 val:v=.f8 A 0 i
 arr:g.get A=some (.arr 4 es)
 rep:Fu g es (l.take i)
 a:FW π b A
 ids: ∀id∈es.flatMap A9,FW π b id
 own: ∀id,Id.under π id=false->g.get id=none
variable{b:Nat}{ρ:List Nat}{A:Abs.Id}
def Av(h:FW (k::ρ) b A)(t j:Nat)(c:b<=j):Id.is (t::j::k::ρ) A=false/\Id.is A (t::j::k::ρ)=false:=by
 obtain⟨f,e,a,rfl⟩:=h;exact⟨AF Aa,AF Aa⟩
def BW(h:FW (k::ρ) b A)(m:List Nat)(c:2<m.length):Id.is (m++k::ρ) A=false/\Id.is A (m++k::ρ)=false:=by
 obtain⟨g,f,a,rfl⟩:=h;constructor
 .refine AF fun e=>?_;exact zB4
 .refine AF fun e=>?_;exact zB4
def Gr(x:HD)(v:AV):A9 (A6 x v)=AE v:=by simp[A6,A9,AE]
def Q5{g:AD}{v:AV}{q:List (List Cm)}(h:yI g v q):(v=.d7/\AE v=[])\/ ∃id,v=.f8 id 0 q.length/\AE v=[id]/\g.get id=some (.em 1 (q.map BJ)):=by
 rcases h with⟨_,rfl⟩|⟨_,id,rfl,h⟩
 .exact .inl ⟨rfl,rfl⟩
 .exact .inr ⟨id,rfl,rfl,h⟩
def EY{g:AD}{es:List (List AV)}{l:List HD}(h:Fu g es l){id:Abs.Id}(k:id∈es.flatMap A9): ∃q:List (List Cm),g.get id=some (.em 1 (q.map BJ)):=by
 obtain⟨row,o,a⟩:=CS.1 k;obtain⟨j,b⟩:=II o;have m:=(BV.1 b).1;obtain⟨x,p⟩:=get_some (l:=l) (i:=j) (by rw[<-h.len];exact m);obtain⟨v,c,n⟩:=h.row j x p;rw[b]at c;cases c;rw[Gr]at a;rcases Q5 n with⟨_,e⟩|⟨r,_,e,f⟩
 .rw[e]at a;cases a
 .rw[e,Ac]at a;subst a;exact⟨_,f⟩
variable{H:AD}{l:List HD}
def EK{g:AD}{es:List (List AV)}(h:Fu g es l)(f: ∀id∈es.flatMap A9,H.get id=g.get id):Fu H es l:=by
 refine⟨h.len,fun j x i=>?_,h.diff⟩;obtain⟨v,b,a⟩:=h.row j x i;refine⟨v,b,?_⟩;rcases a with a|⟨c,id,rfl,e⟩
 .exact .inl a
 .refine .inr ⟨c,id,rfl,?_⟩;rw[f id (CS.2 ⟨_,AS b,by rw[Gr];simp[AE]⟩)];exact e
def JZ{H:AD}{es:List (List AV)}{l:List HD}(h:Fu H es l){x:HD}{v:AV}(i:yI H v x.queue)(o: ∀id∈AE v,id∉es.flatMap A9):Fu H (es++[A6 x v]) (l++[x]):=by
 refine⟨by simp[h.len],fun j y c=>?_,?_⟩
 .by_cases g:j<l.length
  .rw[Ce g]at c;obtain⟨r,q,p⟩:=h.row j y c;exact⟨r,by rw[Ce (by rw[h.len];exact g)];exact q,p⟩
  .have n:=(BV.1 c).1;rw[Be,I0]at n;obtain rfl:j=l.length:=AA;rw[D1 AA]at c;simp only[Kw,F4,Co]at c;subst c;exact⟨v,by rw[D1 (by rw[h.len];omega),h.len];simp,i⟩
 .rw[Ls,MP];refine⟨h.diff,?_,?_⟩
  .simp only[EM,He,CI,Gr];rcases Q5 i with⟨_,e⟩|⟨s,_,e,_⟩<;>rw[e]<;>simp
  .intro a k b f m;subst m;simp only[EM,He,CI,Gr]at f;exact o a f k
def Q1{α β:Type}{f:α->β}: ∀{l:List α},l.Nodup->(∀x∈l,∀y∈l,f x=f y->x=y)->(l.map f).Nodup
 |[],_,_=>List.nodup_nil
 |x::l,h,hf=>by
  rw[List.nodup_cons]at h;rw[By,List.nodup_cons];refine⟨fun j=>?_,Q1 h.2 fun a g b i=>hf a (F0 _ g) b (F0 _ i)⟩;obtain⟨y,c,e⟩:=F1.1 j;have:=hf y (F0 _ c) x AG e;subst this;exact h.1 c
def a8{es:List (List AV)}(h: ∀r∈es,(A9 r).length<=1):(es.flatMap A9).length<=es.length:=by
 induction es with
 |nil=>simp
 |cons r es b=>
  have c:=h r AG;have h2:=b fun r a=>h r (F0 _ a);simp only[EM,Be,List.length_cons];omega
def Sb{g:AD}{es:List (List AV)}(h:Fu g es l):(es.flatMap A9).length<=es.length:=by
 refine a8 fun r k=>?_;obtain⟨j,a⟩:=II k;have c:=(BV.1 a).1;obtain⟨x,m⟩:=get_some (l:=l) (i:=j) (by rw[<-h.len];exact c);obtain⟨v,b,f⟩:=h.row j x m;rw[a]at b;cases b;rw[Gr];rcases Q5 f with⟨_,e⟩|⟨o,_,e,n⟩<;>rw[e]<;>simp
def Sc{π:List Nat}{H H':AD}{e:CA}{b:Abs.Id->Option Abs.Id}{n:Nat}(q:M4 π H e b H' n){es:List (List AV)}{l:List HD}(h:Fu H es l)(k: ∀id∈es.flatMap A9,∃z,b id=some z):Fu H' (es.map (Fj b)) l/\ ∀id∈(es.map (Fj b)).flatMap A9,FW π n id:=by
 have key: ∀r∈es,A9 (Fj b r)=(A9 r).map fun id=>(b id).getD []:=by
  intro r o;obtain⟨j,m⟩:=II o;have D:=(BV.1 m).1;obtain⟨x,f⟩:=get_some (l:=l) (i:=j) (by rw[<-h.len];exact D);obtain⟨v,g,s⟩:=h.row j x f;rw[m]at g;cases g;have C:Fj b (A6 x v)=A6 x (ren b v):=by simp[A6,Fj,ren]
  rw[C,Gr,Gr];rcases Q5 s with⟨rfl,e⟩|⟨I,rfl,e,t⟩
  .simp[ren,AE]
  .obtain⟨z,c⟩:=k I (CS.2 ⟨_,o,by rw[Gr];simp[AE]⟩);simp[ren,c,AE]
 have B:(es.map (Fj b)).flatMap A9=(es.flatMap A9).map fun id=>(b id).getD []:=by
  rw[List.flatMap_map,List.map_flatMap];have: ∀(l:List (List AV)),(∀r∈l,A9 (Fj b r)=(A9 r).map fun id=>(b id).getD [])->(l.flatMap fun a=>A9 (Fj b a))=l.flatMap fun a=>(A9 a).map fun id=>(b id).getD []:=by
   intro l w;induction l with
   |nil=>rfl
   |cons r l J=>rw[EM,EM,w r AG,J fun r o=>w r (F0 _ o)]
  exact this es key
 refine⟨⟨by rw[As,h.len],fun j x f=>?_,?_⟩,?_⟩
 .obtain⟨v,g,s⟩:=h.row j x f;refine⟨ren b v,?_,?_⟩
  .rw[D7,g];simp[A6,Fj,ren]
  .rcases s with⟨p,rfl⟩|⟨p,id,rfl,t⟩
   .exact .inl ⟨p,rfl⟩
   .obtain⟨z,c⟩:=k id (CS.2 ⟨_,AS g,by rw[Gr];simp[AE]⟩);refine .inr ⟨p,z,by simp[ren,c],?_⟩;have:=q.get id z _ c t;simpa[E1]using this
 .rw[B];refine Q1 h.diff fun x f y F e=>?_;obtain⟨z,c⟩:=k x f;obtain⟨K,A⟩:=k y F;rw[c,A]at e;simp only[GO]at e;subst e;exact q.inj x y z c A
 .intro id u;rw[B]at u;obtain⟨x,f,rfl⟩:=F1.1 u;obtain⟨z,c⟩:=k x f;obtain⟨j,m,rfl⟩:=q.name x z c;rw[c];exact⟨_,j,m,rfl⟩
def UX{K:Ab}{fr:Fr}{bl:Nat}{x:Code}{Q:Eh->St->Prop}{E:CA}{B:Abs.Id}{i:Nat}{es:List (List AV)}{h x9 x10:Al}
 (s:Kj E (cfg.live 153 0)=[(1,.fn 154 [] []),(5,.f8 B 0 i),(8,.d h),(9,.d x9),(10,.d x10)]) (f:H.get B=some (.arr 4 es)) (h2:Fu H es (l.take i)) (L:es.length<=60)
 (C: ∀v g b A es,rZ (k::ρ) l i v g b A es->Tq cfg K fr bl x ⟨[(1,.fn 154 [] []),(5,v),(8,.d h),(9,.d x9),(10,.d x10)],g,b,[]⟩ Q):Tq cfg K fr bl x (Ir cfg 153 (k::ρ) 0 E H) Q:=by
 rw[Ec,s];have M:=Sb h2;obtain⟨r,h',n,t,N,e⟩:=JY (k::ρ) H [(1,.fn 154 [] []),(5,.f8 B 0 i),(8,.d h),(9,.d x9),(10,.d x10)] (B::es.flatMap A9) zEr (by
  intro y c;simp[Fz,AE,A9]at c;simp[c]) (by
  intro y c z a;rcases D0.1 c with rfl|c
  .rw[f]at a;exact F0 _ a
  .obtain⟨q,D⟩:=EY h2 c;rw[D]at a;cases a)
 obtain⟨z,a⟩:=e.env B zEc;have F: ∀id∈es.flatMap A9,∃z,r id=some z:=fun id w=>e.deep B z a id (by rw[f];exact w);obtain⟨I,J⟩:=Sc e h2 F;rw[t];have:=C (.f8 z 0 i) h' n z (es.map (Fj r)) ⟨rfl,by have:=e.get B z _ a f;simpa[E1]using this,I,by obtain⟨j,m,rfl⟩:=e.name B z a;exact⟨_,j,m,rfl⟩,J,fun id p=>by
  cases u:h'.get id with
  |none=>rfl
  |some o=>
   obtain⟨y,c⟩:=e.only id o u;obtain⟨j,m,rfl⟩:=e.name y id c;rw[JF]at p;cases p⟩
 simpa[ren,Fj,a]using this
def rU(π:List Nat)(l:List HD)(r:A8×AD):Prop:=(l.length=0/\r=(.ret .d7,[]))\/(l.length≠0/\ ∃v g b A es,r=(.ret v,g)/\rZ π l l.length v g b A es)
def yj(l:List HD)(a4:l.length<=60)(D: ∀x∈l,x.queue.length<=1000000/\ ∀y∈x.queue,y.length<=1000000)(k:Nat)(ρ:List Nat): ∃r,BX kT 153 [.d (.bv (l.map Cy)),.fn 154 [] []] (k::ρ)=.ok r/\rU (k::ρ) l r:=by
 refine Lh Tryz.func153 ?_
 (repeat' (first|simp only[go_sem, *,Ec]|(refine sx ?_ ?_<;>intro u)|refine sy AA fun x n w=>?_|simp(disch:=first|assumption|omega) only[AR]))
 refine Aq l _ (S:=fun m i (a:(AV×AD)×Nat)=>⟨[(1,.fn 154 [] []),(5,a.1.1),(8,.d (.bv (l.map Cy))),(9,nI m),(10,nI i)],a.1.2,a.2,[]⟩)
  (Inv:=fun i bi a=>AH (i=0/\a=((.d7,[]),0)\/0<i/\ ∃A es,rZ (k::ρ) l i a.1.1 a.1.2 a.2 A es)) (b0:=((_,[]),_)) ?_ ⟨.inl ⟨rfl,rfl⟩⟩ ?_ ?_
 .rfl
 .rintro i x ⟨⟨v,g⟩,b⟩ V T U s C;dsimp only at*;have n:=fun k ρ=>YX x (D x (AS V)).1 (D x (AS V)).2 k ρ;replace D:=AB D;have H:AH (l.take (i+1)=l.take i++[x]):=⟨by rw[GC,V];rfl⟩;rcases s.1 with⟨rfl,R⟩|⟨Z,A,es,c⟩
  .clear s;cases R;have ad:(0:Int)<l.length:=U;by_cases f:x.queue.length=0
   .simp only[Pn,D4 f,A6]at n
    (repeat' (first|simp only[go_sem, *,JH,Ec]|(refine sx ?_ ?_<;>intro u)|refine sy AA fun x n w=>?_|simp(disch:=first|assumption|omega) only[AR]))
    refine C.1 ((_,_),_) ⟨.inr ⟨AA,1::0::k::ρ,[A6 x .d7],rfl,by simp only[go_sem];rfl,?_,⟨1,0,Nat.lt_succ_self 0,rfl⟩,?_,?_⟩⟩
    .rw[H.1];exact JZ (es:=[]) (l:=[]) ⟨rfl,AG,AG⟩ (.inl ⟨f,rfl⟩) BH
    .simp[Gr,AE]
    .intro id p;rw[CL,AF (by rintro rfl;rw[JF]at p;cases p)];rfl
   .simp only[Pn,Ci f,A6]at n;have fa:=K6 f
    (repeat' (first|simp only[go_sem, *,JH,Ec]|(refine sx ?_ ?_<;>intro u)|refine sy AA fun x n w=>?_|simp(disch:=first|assumption|omega) only[AR]))
    refine C.1 ((_,_),_) ⟨.inr ⟨AA,1::0::k::ρ,[A6 x (.f8 (1::1::k::ρ) 0 x.queue.length)],rfl,by simp only[go_sem];rfl,?_,⟨1,0,Nat.succ_pos 1,rfl⟩,?_,?_⟩⟩
    .rw[H.1];refine JZ (es:=[]) (l:=[]) ⟨rfl,AG,AG⟩ (.inr ⟨f,_,rfl,?_⟩) BH;simp only[go_sem]
    .intro id o;simp[Gr,AE]at o;subst o;exact⟨1,1,Nat.lt_succ_self 1,rfl⟩
    .intro id p;rw[CL,AF (by rintro rfl;rw[JF]at p;cases p),Ci AG,CL,AF (by rintro rfl;rw[JF]at p;cases p)];rfl
  .clear s;obtain rfl:=c.val;have X:=c.arr;have Y:=c.rep.len;have ar:(l.take i).length=i:=Aa;have z:=c.rep;have o:=c.ids;have fr: ∀id,FW (k::ρ) b id->id≠A->AH (Id.is (0::(b+3)::k::ρ) id=false/\Id.is (1::(b+9)::k::ρ) id=false/\Id.is (1::(b+10)::k::ρ) id=false/\Id.is (0::0::(b+8)::k::ρ) id=false/\Id.is (0::1::(b+8)::k::ρ) id=false/\Id.is (1::0::2::10::(b+8)::k::ρ) id=false/\Id.is A id=false):=fun id h ai=>⟨(Av h 0 (b+3) AA).1,(Av h 1 (b+9) AA).1,(Av h 1 (b+10) AA).1,(BW h [0,0,b+8] AG).1,(BW h [0,1,b+8] AG).1,(BW h [1,0,2,10,b+8] AG).1,AF fun e=>ai e.symm⟩;have F: ∀id∈es.flatMap A9,id≠A:=fun id h e=>by
    obtain⟨q,W⟩:=EY z h;rw[e,X]at W;cases W
   have Q:1::0::2::10::(b+8)::k::ρ∉es.flatMap A9:=fun h=>by
    obtain⟨t,j,_,e⟩:=o _ h;exact zB4
   obtain⟨a6,a7⟩:=Av c.a 0 (b+3) AA;obtain⟨a',bc⟩:=Av c.a 1 (b+9) AA;obtain⟨az,a0⟩:=BW c.a [0,0,b+8] AG;obtain⟨a1,a2⟩:=BW c.a [0,1,b+8] AG;obtain⟨a3,av⟩:=BW c.a [1,0,2,10,b+8] AG;simp only[Cs,CE]at az a0 a1 a2 a3 av;rw[ar]at Y;have bk:es.take i=es:=Bi AA;replace c:=AB c;replace z:=AB z;replace o:=AB o;replace F:=AB F;replace fr:=AB fr;replace Q:=AB Q;have be: ¬i+1<=i:=AA;have a5:i+1<=BF:=zEt
   by_cases f:x.queue.length=0
   .simp only[Pn,D4 f,A6]at n
    (repeat' (first|simp only[go_sem, *,JH]|(refine sx ?_ ?_<;>intro u)|refine sy AA fun x n w=>?_|simp(disch:=first|assumption|omega) only[AR]))
    refine UX (B:=1::(b+10)::k::ρ) (i:=i+1) (es:=es++[A6 x .d7]) ?_ ?_ ?_ ?_ (fun v g b A es P=>C.1 ((v,g),b) ⟨.inr ⟨AA,A,es,P⟩⟩)
    .exact zAs
    .exact zAs
    .rw[H.1];refine JZ (EK z.1 fun id h=>?_) (.inl ⟨f,rfl⟩) BH;exact zCZ
    .simp;omega
   .simp only[Pn,Ci f,A6]at n;have fa:=K6 f
    (repeat' (first|simp only[go_sem, *,JH]|(refine sx ?_ ?_<;>intro u)|refine sy AA fun x n w=>?_|simp(disch:=first|assumption|omega) only[AR]))
    refine UX (B:=1::(b+10)::k::ρ) (i:=i+1) (es:=es++[A6 x (.f8 (1::0::2::10::(b+8)::k::ρ) 0 x.queue.length)]) ?_ ?_ ?_ ?_ (fun v g b A es P=>C.1 ((v,g),b) ⟨.inr ⟨AA,A,es,P⟩⟩)
    .exact zAs
    .exact zAs
    .rw[H.1];refine JZ (EK z.1 fun id h=>?_) (.inr ⟨f,_,rfl,?_⟩) (by simp only[AE,Ac];rintro id rfl;exact Q.1)
     .exact zCZ
     .simp only[go_sem]
    .simp;omega
 .rintro i ⟨⟨v,g⟩,b⟩ T U s;dsimp only at*;rcases s.1 with⟨rfl,R⟩|⟨Z,A,es,c⟩
  .cases R;have ad: ¬(0:Int)<l.length:=U;have ag:=AB T.1.symm;clear s
   (repeat' (first|simp only[go_sem, *,Ec]|(refine sx ?_ ?_<;>intro u)|refine sy AA fun x n w=>?_|simp(disch:=first|assumption|omega) only[AR]))
   exact .inl ⟨ag.1,rfl⟩
  .clear s;have ac:=AB T.1;obtain rfl:=c.val;replace c:=AB c
   (repeat' (first|simp only[go_sem, *]|(refine sx ?_ ?_<;>intro u)|refine sy AA fun x n w=>?_|simp(disch:=first|assumption|omega) only[AR]))
   obtain rfl:=ac.1;exact .inr ⟨AA,_,_,b,A,es,rfl,c.1⟩
structure CW where
 d8:BU
 ev:List Eg
 work:Int
structure HF where
 node:Int
 at_:Int
 env:List Cm
def CY{α:Type}(l:List α)(i:Int):List α:=l.take i.toNat++l.drop (i.toNat+1)
def IL(l:List Cm)(i:Int):Cm:=(l[i.toNat]?).getD ⟨0,0⟩
def ET(p:AX)(s:BU)(q:HD):Int:=(((s.ce[q.group.toNat]?).bind fun g=>(p.defs[g.f9.toNat]?).bind fun d=>d.be[q.index.toNat]?).map Ik.many).getD 0
def Se(s:BU)(n:Int)(q:HD)(l:List Cm):Option BU:=if q.queue.length<12 then some {s with be:=s.be.set n.toNat {q with queue:=q.queue++[l]}}else none
def Mr(p:AX)(s:BU)(n:Int)(l:List Cm):Option BU:=match s.be[n.toNat]? with
 |some q=>if Ak s.ac q.at_=false/\ET p s q=l.length then Se s n q l else some s
 |none=>some s
def AFH(at_ n:Int)(l:List Cm):Eg:=⟨5,at_,n,0,l⟩
def Cx(p:AX)(x:C8)(j:HF)(st:CW):Option CW:=
 let l:=x.args.map (·.value j.env)
 let to:=IL j.env x.n
 if to.kind=2 then some {st with ev:=st.ev++[AFH j.at_ to.n l]}
 else if to.kind=3 then(Mr p st.d8 to.n l).map fun s=>{st with d8:=s}else some st
def GK(d:CJ)(g:BA)(i:Nat):Nat->List Ik->List HD
 |_,[]=>[]
 |k,c::l=>⟨i,k,g.place d c.at_,[]⟩::GK d g i (k+1) l
def Db(d:CJ)(g:BA)(l:List PA):List Bl:=l.map fun y=>⟨g.place d y.pp,false⟩
def A7(s:BU)(d:CJ)(n:Int)(j:HF):BA:=⟨n,j.at_,j.env++Fh s.be.length s.ac.length d⟩
def B6(s:BU)(d:CJ)(g:BA):BU:={s with ce:=s.ce++[g],be:=s.be++GK d g s.ce.length 0 d.be,ac:=s.ac++Db d g d.ac}
def CK(d:CJ)(g:BA):Nat->List PA->List HF
 |_,[]=>[]
 |k,y::l=>⟨y.node,g.place d (k+1),g.env⟩::CK d g (k+1) l
def BN(x:C8)(k:Nat)(at_:Int)(env:List Cm):List HF:=match x.kids[k]? with
 |some n=>[⟨n,at_,env⟩]
 |none=>[]
def Fb(p:AX)(x:C8)(j:HF)(st:CW):Option (CW×List HF):=match p.defs[x.n.toNat]? with
 |some d=>
  let g:=A7 st.d8 d x.n j
  let s:=B6 st.d8 d g
  if s.be.length<=60/\s.ac.length<=24/\s.ce.length<=40 then some ({st with d8:=s},CK d g 0 d.ac++BN x 0 j.at_ g.env)else none
 |none=>none
def Qh(x:C8)(env:List Cm):Nat:=match x.args[0]? with
 |some e=>if (e.value env).kind=1/\(e.value env).n≠0 then 0 else 1
 |none=>1
def FZ(j:HF)(st:CW):Option CW:=if st.d8.waits.length<40 then some {st with d8:={st.d8 with waits:=st.d8.waits++[⟨j.at_,j.node,j.env⟩]}}else none
def Ja(p:AX)(j:HF)(st:CW):Option (CW×List HF):=match p.nodes[j.node.toNat]? with
 |some x=>
  if x.op=2 then(Cx p x j st).map fun st=>(st,[])
  else if x.op=3 then some (st,BN x 0 j.at_ j.env++BN x 1 j.at_ j.env)
  else if x.op=4 then Fb p x j st
  else if x.op=5 then some (st,BN x (Qh x j.env) j.at_ j.env)
  else if DZ x.op=true then(FZ j st).map fun st=>(st,[])
  else some (st,[])
 |none=>none
def CH(f:HF->CW->Option CW):List HF->CW->Option CW
 |[],st=>some st
 |j::l,st=>(f j st).bind (CH f l)
def Ic(f:HF->CW->Option CW):Option (CW×List HF)->Option CW
 |some (st,js)=>CH f js st
 |none=>none
def Eu(p:AX):Nat->HF->CW->Option CW
 |0,_,_=>none
 |k+1,j,st=>if st.work<400 then Ic (Eu p k) (Ja p j {st with work:=st.work+1})else none
def ol(p:AX)(s:BU)(w:Gg):Bool:=match p.nodes[w.node.toNat]? with
 |some x=>if x.op=7 then true else
  let v:=IL w.env x.n
  if v.kind=4 then(if x.op=8 then Ak s.ac v.n else decide (w.at_≠0)&&(!Ak s.ac v.n&& !CP s.ac v.n w.at_))else false
 |none=>false
def Cl(p:AX)(s:BU):Nat->List Gg->List FH
 |_,[]=>[]
 |i,w::l=>(if ol p s w=true then [⟨i,0,0,[]⟩]else [])++Cl p s (i+1) l
def CR:List Nat->List (List Int)
 |[]=>[[]]
 |n::l=>(List.range n).flatMap fun(i:Nat)=>(CR l).map fun t=>(i:Int)::t
def Ld(s:BU)(c:Int):Nat:=((s.be[c.toNat]?).map fun q=>q.queue.length).getD 0
def Bp(s:BU)(d:CJ)(g:BA)(r:Gf):List Nat:=r.eq.map fun c=>Ld s (g.own d true c)
def Ee(s:BU)(d:CJ)(g:BA)(r:Gf):List (List Int):=if Ak s.ac (g.place d r.at_)=true then []else CR (Bp s d g r)
def Cd(s:BU)(d:CJ)(g:BA)(i:Nat):Nat->List Gf->List FH
 |_,[]=>[]
 |k,r::l=>((Ee s d g r).map fun t=>⟨-1,i,k,t⟩)++Cd s d g i (k+1) l
def DD(p:AX)(s:BU):Nat->List BA->List FH
 |_,[]=>[]
 |i,g::l=>(match p.def? g.f9 with|some d=>Cd s d g i 0 d.rules|none=>[])++DD p s (i+1) l
def CG(p:AX)(s:BU):List FH:=Cl p s 0 s.waits++DD p s 0 s.ce
def HC(s:BU)(c:Int)(k:Int):List Cm×BU:=match s.be[c.toNat]? with
 |some q=>(((q.queue[k.toNat]?).getD []),{s with be:=s.be.set c.toNat {q with queue:=CY q.queue k}})
 |none=>([],s)
def CF(d:CJ)(g:BA):List Int->List Int->BU->List Cm×BU
 |c::cs,k::ks,s=>((HC s (g.own d true c) k).1++(CF d g cs ks (HC s (g.own d true c) k).2).1,(CF d g cs ks (HC s (g.own d true c) k).2).2)
 |_,_,s=>([],s)
def Q6(p:AX)(x:FH)(d:CJ)(g:BA)(r:Gf)(s:BU):Option CW:=
 let t:=CF d g r.eq x.picks s
 let at_:=g.place d r.at_
 Eu p 401 ⟨r.node,at_,g.env++t.1⟩ ⟨t.2,[⟨1,at_,x.group,x.wn,t.1⟩],0⟩
def dM(p:AX)(s:BU)(x:FH):Option CW:=match s.ce[x.group.toNat]? with
 |some g=>match p.defs[g.f9.toNat]? with
  |some d=>match d.rules[x.wn.toNat]? with
   |some r=>Q6 p x d g r s
   |none=>none
  |none=>none
 |none=>none
def IC(l:List Bl)(at_:Int):Nat->List Bl->List Bl
 |_,[]=>[]
 |i,x::m=>{x with dead:=x.dead||CP l i at_}::IC l at_ (i+1) m
def PR(s:BU)(at_:Int):BU:=
 let l:=IC s.ac at_ 0 s.ac
 {ac:=l,ce:=s.ce,be:=s.be.map fun q=>if Ak l q.at_=true then{q with queue:=[]}else q,waits:=s.waits.filter fun w=> !Ak l w.at_}
def FY(l:List Bl)(i n:Int):List Bl:=match l[i.toNat]? with
 |some x=>l.set i.toNat {x with pp:=n}
 |none=>l
def OO(p:AX)(s:BU)(w:Gg)(x:C8):Option CW:=
 let n:=(IL w.env x.n).n
 if x.op=7 then some ⟨PR s w.at_,[⟨3,w.at_,0,0,[]⟩],0⟩
 else if x.op=6 then CH (Eu p 401) (BN x 0 w.at_ w.env) ⟨{s with ac:=FY s.ac w.at_ n},[⟨2,w.at_,n,0,[]⟩],0⟩
 else CH (Eu p 401) (BN x 0 w.at_ w.env) ⟨s,[⟨4,w.at_,n,0,[]⟩],0⟩
def RP(p:AX)(s:BU)(i:Int):Option CW:=match s.waits[i.toNat]? with
 |some w=>match p.nodes[w.node.toNat]? with
  |some x=>OO p {s with waits:=CY s.waits i} w x
  |none=>none
 |none=>none
def De(p:AX)(s:BU)(x:FH):Option CW:=if x.wait<0 then dM p s x else RP p s x.wait
def tX:BU:=⟨[⟨-1,false⟩],[],[],[]⟩
def Gx(l:List FH)(k:Int):Option FH:=l[(max k 0).toNat % l.length]?
def HI(p:AX):List Int->BU->List Eg->Option (BU×List Eg)
 |[],s,ev=>some (s,ev)
 |k::ks,s,ev=>match Gx (CG p s) k with
  |some x=>match De p s x with
   |some m=>HI p ks m.d8 (ev++m.ev)
   |none=>none
  |none=>some (s,ev)
structure YC(p:AX)(s:BU)(q:HD):Prop where
 at_:FT s.ac q.at_
 g0:0<=q.group
 i0:0<=q.index
 ex: ∃g d ch,s.ce[q.group.toNat]? =some g/\0<=g.f9/\p.defs[g.f9.toNat]? =some d/\d.be[q.index.toNat]? =some ch
 len:q.queue.length<=12
