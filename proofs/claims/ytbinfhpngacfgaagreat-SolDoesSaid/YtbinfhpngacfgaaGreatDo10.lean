/- Parts of it. -/
import Derived.KernelRfl
import Derived.Test.YtbinfhpngacfgaaGreatDo9
set_option linter.all false
namespace Go
theorem zEf{p:Prop}(h:p:=by simp[IB,AE,BB]):p:=h
theorem zEs{p:Prop}(h:p:=by unfold BG;omega):p:=h
theorem zE8{p:Prop}(h:p:=by simp only[B8]):p:=h
theorem zFF{p:Prop}(h:p:=by simp only[go_sem]):p:=h
theorem zFH{p:Prop}(h:p:=by have:=a.1;have:=a.2;omega):p:=h
theorem zFM{p:Prop}(h:p:=by simp only[CG.okG,h,DO,Gt]):p:=h
theorem zFN{p:Prop}(h:p:=by simp only[CG.okR,h,DO,Gt]):p:=h
theorem zFn{p:Prop}(h:p:=by rw[b.out,EX AA];rfl):p:=h
end Go
namespace Go
theorem zAS{p:Prop}(h:p:=by
 clear e
 (repeat' (first|simp only[go_sem, *]|(refine sx ?_ ?_<;>intro f)|refine sy AA fun x i g=>?_|simp(disch:=first|assumption|omega) only[AU]))
 all_goals grind [Bu.formed]):p:=h
theorem zAW{p:Prop}(h:p:=by
 clear b;dsimp only at*;by_cases n:l.length=0
 .exfalso;have:=e.out;omega
 .rw[KV,Co n];have p:=e.out;subst p;rw[D3];exact au):p:=h
theorem zAX{p:Prop}(h:p:=by simp only[Bc,evalOp,CJ,GZ,Ep,Op.operands,EM,ID,CI]):p:=h
theorem zAY{p:Prop}(h:p:=by clear b;have q:(0:Int)<l.length:=g;dsimp only at*;refine aw ?_;refine j.out ((_,_),_) ⟨.inr ⟨AA,?_⟩⟩;rw[Li,h];rfl):p:=h
theorem zAc{p:Prop}(h:p:=by clear b;have q: ¬(0:Int)<l.length:=g;dsimp only at*;have r:=AH.mk (e.out.symm);refine aw ?_;rw[KV,D5 r.out]):p:=h
theorem zAj{p:Prop}(h:p:=by simp only[Bc,evalOp,BN]):p:=h
theorem zAr{p:Prop}(h:p:=by (repeat' (first|simp only[go_sem, *,BY]|(refine sx ?_ ?_<;>intro e)|refine sy AA fun x g f=>?_|simp(disch:=first|assumption|omega) only[AU]))):p:=h
theorem zAx{p:Prop}(h:p:=by simp only[go_sem];rfl):p:=h
theorem zA0{p:Prop}(h:p:=by
 subst h2;clear c;obtain⟨t,m⟩:=NH e;have m:n.toNat<env.length:=AA;clear e
 (repeat' (first|simp only[go_sem, *,Pd,GO]|(refine sx ?_ ?_<;>intro g)|refine sy AA fun x j i=>?_|simp(disch:=first|assumption|omega) only[AU]))):p:=h
theorem zA3{p:Prop}(h:p:=by
 have:s.data.toList.all Mg=false:=by rw[b.out,Ag c,D9,RM AA];rfl
 simp[Fx,this]):p:=h
theorem zA7{p:Prop}(h:p:=by
 have:(v.cells.length==i.size&&v.cells.all AV.isCell)=false:=by
  rw[RW];by_cases a:v.cells.length=i.size
  .exact .inr (by simpa using fun h2=>h ⟨a,h2⟩)
  .exact .inl zEg
 rw[this,Co h]):p:=h
theorem zBC{p:Prop}(h:p:=by
 by_cases a:p
 .rw[D1 a];exact c a
 .rw[Ci a];exact h2 a):p:=h
theorem zBM{p:Prop}(h:p:=by
 clear a
 (repeat' (first|simp only[go_sem, *]|(refine sx ?_ ?_<;>intro b)|refine sy AA fun x e c=>?_|simp(disch:=first|assumption|omega) only[AU,SH]))
 all_goals grind [Bu.ok]):p:=h
theorem zBN{p:Prop}(h:p:=by rw[Yk];rw[b.out,Ag f,D9,show DF d x=false by simp[DF];omega,DO]):p:=h
theorem zBO{p:Prop}(h:p:=by rw[Rb];rw[b.out,Ag f,D9,show B7 d r=false by simp[B7];omega,DO]):p:=h
theorem zBR{p:Prop}(h:p:=by
 cases g id with
 |none=>rfl
 |some o=>cases o<;>rfl):p:=h
theorem zBS{p:Prop}(h:p:=by
 refine A7 Tryz.func154 ?_
 (repeat' (first|simp only[go_sem, *,Az]|(refine sx ?_ ?_<;>intro c)|refine sy AA fun x g f=>?_|simp(disch:=first|assumption|omega) only[AU]))):p:=h
theorem zBY{p:Prop}(h:p:=by
 subst f;clear c
 (repeat' (first|simp only[go_sem, *,R0]|(refine sx ?_ ?_<;>intro g)|refine sy AA fun x j i=>?_|simp(disch:=first|assumption|omega) only[AU]))):p:=h
theorem zBj{p:Prop}(h:p:=by
 have c:(a==b)=decide (a=b):=by rw[MD];simp
 simp[IC,h,c]):p:=h
theorem zBu{p:Prop}(h:p:=by
 rw[a]at h;obtain⟨c,i⟩:=r;refine⟨n,c,i,a,?_⟩;cases c<;>simp only[EF]at h
 .exact⟨n,o,st',h,hq⟩
 all_goals (cases h;exact hq)):p:=h
theorem zB3{p:Prop}(h:p:=by
 have a:=(BV.1 h).1;rw[List.drop_eq_getElem_cons a];congr 1;have:=Bv a;rw[h]at this;injection this with this
 exact this.symm):p:=h
theorem zB4{p:Prop}(h:p:=by have:=congrArg List.length e;simp at this;omega):p:=h
theorem zB9{p:Prop}(h:p:=by
 have:s.data.toList.all Mg=true:=zFn
 have f:1≤s.size:=AA;have g:s.size≤8:=AA;simp[Fx,this,f,g,e]):p:=h
theorem zCC{p:Prop}(h:p:=by simp only[IQ];cases JD i.kind (.d (.str a)) (.d (.str c))<;>rfl):p:=h
theorem zCJ{p:Prop}(h:p:=by obtain⟨o,h',e,f⟩:=a;rw[e];exact c o h' f):p:=h
theorem zCO{p:Prop}(h:p:=by
 cases t
 .exact h2 rfl
 .exact a rfl):p:=h
theorem zCX{p:Prop}(h:p:=by obtain⟨I,J,K,L,M,N,O⟩:=(fr.out id (o.out id h) (F.out id h)).out;simp only[go_sem,I,J,K,L,M,N,O,AM]):p:=h
theorem zCw{p:Prop}(h:p:=by simp only[rL,Il,Hh];by_cases a:sz=j.size<;>by_cases h2:off+n≤es.length<;>simp[a,h2]):p:=h
theorem zC5{p:Prop}(h:p:=by
 have:s.data.toList.all Mg=false:=by rw[c.out,Ag b,D9,RM AA];rfl
 simp[Fx,this]):p:=h
theorem zDP{p:Prop}(h:p:=by simp only[Bo.meet];omega):p:=h
theorem zDS{p:Prop}(h:p:=by refine h.out (i+1) AA ⟨AA,⟨?_⟩⟩;rw[b.out,Ag c,D9,Yd AA];rfl):p:=h
theorem zDb{p:Prop}(h:p:=by obtain⟨n,o,st',h,a⟩:=h;exact⟨n+1,o,st',by rw[f];exact h,a⟩):p:=h
theorem zDc{p:Prop}(h:p:=by rw[Yj,Dn];rw[e.out,Ag b,D9,show B7 d r=false by simp[B7];omega,DO]):p:=h
theorem zDo{p:Prop}(h:p:=by rw[gY,Dn];rw[e.out,Ag b,D9,show DF d x=false by simp[DF, *],DO]):p:=h
theorem zDs{p:Prop}(h:p:=by subst b;rw[under_iff.2 ((F5 n ρ).trans (F5 a _))]at h;cases h):p:=h
theorem zDt{p:Prop}(h:p:=by rcases e with _|⟨a,_|⟨b,_|⟨c,l⟩⟩⟩<;>simp[Bu.value]):p:=h
theorem zD7{p:Prop}(h:p:=by rw[Fx,Ci (p:=s.size≤8) AA,DO,Gt]):p:=h
theorem zER{p:Prop}(h:p:=by obtain⟨o,h'⟩:=r;cases o<;>simp only[FB,Bb,A9,Cd,Uv]):p:=h
end Go
namespace Go.Abs
variable{P:Program}{C:DD}{mix:List TypeId}
abbrev LN:=List (FuncId×List AV×AV)
def LN.look:LN→FuncId→List AV→Option AV
 |[],_,_=>none
 |(g,bs,r)::l,f,az=>match Nat.beq g f with
  |true=>match AV.sames bs az with
   |true=>some r
   |false=>LN.look l f az
  |false=>LN.look l f az
def LN.Known(P:Program)(C:DD)(T:LN):Prop:= ∀f az r,(f,az,r)∈T→KL P C (.fn f) az [] [] false none=.ok (.ret r,[])
theorem LN.look_mem: ∀{T:LN} {f:FuncId} {az:List AV} {r:AV},T.look f az=some r→(f,az,r)∈T
 |[],_,_,_,h=>by cases h
 |(g,bs,r')::l,f,az,r,h=>by
  unfold LN.look at h;split at h
  .rename_i a;split at h
   .rename_i h2;cases h;rw[←D8 a,←AV.sames_eq h2];simp
   .exact F0 _ (LN.look_mem h)
  .exact F0 _ (LN.look_mem h)
def LN.ask(T:LN)(f:FuncId)(az:List AV):AD→List Nat→Bool→Option (List Nat)→Option AV
 |[],[],false,none=>T.look f az
 |_,_,_,_=>none
def Jj(P:Program)(C:DD)(T:LN)(m:Nat):Nat→Ab
 |0=>fun _ _ _ _ _ _=>.err [25]
 |n+1=>fun t args h π raw ci=>match t with
  |.fn f=>match T.ask f args h π raw ci with
   |some r=>.ok (.ret r,[])
   |none=>match C.i9 f with
    |true=>Qn P C (Jj P C T m n) m f args h π raw ci
    |false=>.err [41,f]
  |.round id r=>match raw with
   |true=>H0 C (Jj P C T m n) m id r args h π ci
   |false=>.err [42]
variable{T:LN}{m:Nat}
theorem Ta(e:T.Known P C): ∀{n:Nat} {q:Qu} {r:Ax×AD},ask (Jj P C T m n) q=.ok r→ask (KL P C) q=.ok r
 |0,q,r,h=>by simp[ask,Jj]at h
 |n+1,⟨t,args,h,π,raw,ci⟩,r,a=>by
  simp only[ask,Jj]at a⊢;cases t with
  |fn f=>
   simp only at a;split at a
   .rename_i g b;cases a;unfold LN.ask at b;split at b
    .exact e _ _ _ (LN.look_mem b)
    .cases b
   .split at a
    .rename_i i;obtain⟨L,c⟩:=PR a;refine gA i (n:=m) ?_;exact c _ m (Es _) fun q _ g h'=>Ta e h'
    .cases a
  |round id k=>
   simp only at a;split at a
   .rename_i j;obtain⟨L,c⟩:=LH a;refine ZC (n:=m) ?_;exact c _ m (Es _) fun q _ g h'=>Ta e h'
   .cases a
variable{f:FuncId}{az:List AV}{r:AV}
theorem Lz(a:T.Known P C)(m n:Nat)(h:Jj P C T m n (.fn f) az [] [] false none=.ok (.ret r,[])):KL P C (.fn f) az [] [] false none=.ok (.ret r,[]):=
 Ta (q:=⟨.fn f,az,[],[],false,none⟩) a h
theorem LN.known_nil:LN.Known P C []:=fun _ _ _ h=>by cases h
theorem LN.known_cons(h:KL P C (.fn f) az [] [] false none=.ok (.ret r,[]))(b:T.Known P C):LN.Known P C ((f,az,r)::T):=fun g e i c=>by
 rcases D0.1 c with a|a
 .cases a;exact h
 .exact b _ _ _ a
variable{P:Program}{C:DD}{K:Ab}{fr:Fr}{b n i:Nat}{Q:Ea→St→Prop}
def Wp(C:DD)(K:Ab)(fr:Fr)(b:Nat)(c:Code)(st:St)(Q:Ea→St→Prop):Prop:= ∃n o st',Bm C K fr n b c st=.ok (o,st')∧Q o st'
variable{c:Code}{st:St}
theorem N6{n b:Nat}{r:Ea×St}(h:Bm C K fr n b c st=.ok r)(e:n≤m):Bm C K fr m b c st=.ok r:=by
 obtain⟨L,a⟩:=N5 n b c st (E.good_of h);rw[a K m e (fun _ _ _ h=>h),h]
def wA(C:DD)(K:Ab)(fr:Fr)(b:Nat)(y:Code)(Q:Ea→St→Prop):Ea→St→Prop
 |.normal,st=>Wp C K fr b y st Q
 |o,st=>Q o st
def My(id:Nat)(Q:Ea→St→Prop):Ea→St→Prop
 |.exit k,st=>match Nat.beq k id with
  |true=>Q .normal st
  |false=>Q (.exit k) st
 |o,st=>Q o st
def M0(C:DD)(K:Ab)(fr:Fr)(b:Nat)(x y:Code)(st:St)(Q:Ea→St→Prop):AV→Prop
 |.d (.bool true)=>Wp C K fr b x st Q
 |.d (.bool false)=>Wp C K fr b y st Q
 |_=>False
def Gy(C:DD)(K:Ab)(fr:Fr)(ops:Array Oper)(b n:Nat)(al:Nat→Bool)(l:List Oper)(i:Nat)(st:St)(Q:Ea→St→Prop):Prop:=
 match Dk C K fr ops b al l i st with
 |.ok ((none,st'),_)=>Q .normal {st' with base:=b+n}
 |.ok ((some v,st'),_)=>Q (.ge v) {st' with base:=b+n}
 |.err _=>False
def Hb(C:DD)(K:Ab)(fr:Fr)(ops:Array Oper)(b n:Nat)(al:Nat→Bool)(ps:List (Nat×Nat))(fps:List Fp)(l:List Oper)(i:Nat)(st:St)(Q:Ea→St→Prop):Prop:=
 match Dk C K fr ops b al l i st with
 |.ok ((none,st'),f)=>EZ (fps++f) ps=true∧Q .normal {st' with base:=b+n}
 |.ok ((some v,st'),f)=>EZ (fps++f) ps=true∧Q (.ge v) {st' with base:=b+n}
 |.err _=>False
theorem z1(x y:Code)(st:St):Wp C K fr b (.seq x y) st Q=Wp C K fr b x st (wA C K fr b y Q):=by
 refine propext ⟨fun⟨n,o,st',h,hq⟩=>?_,fun⟨n,o,st',h,hq⟩=>?_⟩
 .cases n with
  |zero=>simp[Bm]at h
  |succ n=>
   simp only[Bm]at h;cases a:Bm C K fr n b x st with
   |err e=>rw[a]at h;cases h
   |ok r=>
    exact zBu
 .cases o with
  |normal=>
   obtain⟨m,g,j,h2,f⟩:=hq;refine⟨max n m+1,g,j,?_,f⟩;simp only[Bm,N6 h (Lt n m),EF,N6 h2 (Nl n m)]
  |_=>exact⟨n+1,_,st',by simp only[Bm,h,EF],hq⟩
theorem AAM(c:Operand)(x y:Code)(st:St):Wp C K fr b (.cond c x y) st Q=M0 C K fr b x y st Q (ev st.env.get c):=by
 have e: ∀{v:AV} {x y:Code} (f: ∀n,Bm C K fr (n+1) b (.cond c x y) st=Lb v (Bm C K fr n b x st) (Bm C K fr n b y st)),Wp C K fr b (.cond c x y) st Q=M0 C K fr b x y st Q v:=by
  intro v x y f;refine propext ⟨fun⟨n,o,st',h,a⟩=>?_,fun h=>?_⟩
  .cases n with
   |zero=>simp[Bm]at h
   |succ n=>
    rw[f]at h;unfold Lb at h;split at h
    .rename_i t;cases t
     .exact⟨n,o,st',h,a⟩
     .exact⟨n,o,st',h,a⟩
    .cases h
  .unfold M0 at h;split at h
   .exact zDb
   .exact zDb
   .exact h.elim
 exact e fun n=>by simp only[Bm]
theorem wz(id:Nat)(x:Code)(st:St):Wp C K fr b (.block id x) st Q=Wp C K fr id x st (My id Q):=by
 refine propext ⟨fun⟨n,o,st',h,hq⟩=>?_,fun⟨n,o,st',h,hq⟩=>?_⟩
 .cases n with
  |zero=>simp[Bm]at h
  |succ n=>
   simp only[Bm]at h;cases c:Bm C K fr n id x st with
   |err e=>rw[c]at h;cases h
   |ok r=>
    rw[c]at h;obtain⟨f,g⟩:=r;refine⟨n,f,g,c,?_⟩;cases f with
    |exit k=>
     simp only[Hv]at h;simp only[My];split at h<;>(rename_i a;rw[a];cases h;exact hq)
    |_=>cases h;exact hq
 .cases o with
  |exit k=>
   simp only[My]at hq;cases a:Nat.beq k id with
   |true=>
    rw[a]at hq;exact⟨n+1,.normal,st',by simp only[Bm,h,Hv,a],hq⟩
   |false=>
    rw[a]at hq;exact⟨n+1,.exit k,st',by simp only[Bm,h,Hv,a],hq⟩
  |_=>exact⟨n+1,_,st',by simp only[Bm,h,Hv],hq⟩
theorem VI{o:Ea}{st':St}(h: ∀n,Bm C K fr (n+1) b c st=.ok (o,st')):Wp C K fr b c st Q=Q o st':=by
 refine propext ⟨fun⟨n,o1,st1,a,e⟩=>?_,fun e=>⟨1,o,st',h 0,e⟩⟩;cases n with
 |zero=>simp[Bm]at a
 |succ n=>
  rw[h]at a;cases a;exact e
theorem AAQ(st:St):Wp C K fr b .skip st Q=Q .normal st:=VI fun _=>rfl
theorem z4(st:St):Wp C K fr b .ret st Q=Q .ret st:=VI fun _=>rfl
theorem xk(id:Nat)(st:St):Wp C K fr b (.exit id) st Q=Q (.exit id) st:=VI fun _=>rfl
theorem Pg(id:Nat)(ops:Array Oper)(a:Bool)(st:St):Wp C K fr b (.region id ops a) st Q=match E5 C K fr id ops a st with|.ok (o,st')=>Q o st'|.err _=>False:=by
 cases h:E5 C K fr id ops a st with
 |ok r=>
  obtain⟨o,st'⟩:=r;exact VI fun n=>by simp only[Bm,h]
 |err e=>
  refine propext ⟨fun⟨n,o,st',c,hq⟩=>?_,fun h=>h.elim⟩;cases n with
  |zero=>simp[Bm]at c
  |succ n=>
   simp only[Bm,h]at c;cases c
theorem qS(id:Nat)(ops:Array Oper)(e:CB)(h:AD)(bs:Nat)(ds:List Df):Wp C K fr b (.region id ops false) ⟨e,h,bs,ds⟩ Q=Gy C K fr ops bs ops.size (fun _=>true) ops.toList 0 ⟨e,h,bs,ds⟩ Q:=by
 rw[Pg];unfold E5 Gy;simp only[PM,Bool.true_or];cases Dk C K fr ops bs (fun _=>true) ops.toList 0 ⟨e,h,bs,ds⟩with
 |err l=>rfl
 |ok r=>
  obtain⟨⟨o,st'⟩,fps⟩:=r;cases o<;>simp[Lo]
theorem xA(id:Nat)(ops:Array Oper)(e:CB)(h:AD)(bs:Nat)(ds:List Df)(a:C.d9 fr.f id=[]):Wp C K fr b (.region id ops true) ⟨e,h,bs,ds⟩ Q=Gy C K fr ops bs ops.size (fun i=>C.alone fr.f id i) ops.toList 0 ⟨e,h,bs,ds⟩ Q:=by
 rw[Pg];unfold E5 Gy;simp only[PI,I4];cases Dk C K fr ops bs (fun i=>C.alone fr.f id i) ops.toList 0 ⟨e,h,bs,ds⟩with
 |err l=>rfl
 |ok r=>
  obtain⟨⟨o,st'⟩,fps⟩:=r;cases o<;>simp[Lo,a,EZ]
theorem r4(id:Nat)(ops:Array Oper)(e:CB)(h:AD)(bs:Nat)(ds:List Df){ps:List (Nat×Nat)}(a:C.d9 fr.f id=ps):Wp C K fr b (.region id ops true) ⟨e,h,bs,ds⟩ Q=Hb C K fr ops bs ops.size (fun i=>C.alone fr.f id i) ps [] ops.toList 0 ⟨e,h,bs,ds⟩ Q:=by
 rw[Pg];unfold E5 Hb;simp only[PI,I4,Bi];cases Dk C K fr ops bs (fun i=>C.alone fr.f id i) ops.toList 0 ⟨e,h,bs,ds⟩with
 |err l=>rfl
 |ok r=>
  obtain⟨⟨o,st'⟩,fps⟩:=r;subst a;cases o<;>cases c:EZ fps (C.d9 fr.f id)<;>simp[Lo,c]
theorem cy(y:Code)(st:St):wA C K fr b y Q .normal st=Wp C K fr b y st Q:=rfl
theorem p9(y:Code)(k:Nat)(st:St):wA C K fr b y Q (.exit k) st=Q (.exit k) st:=rfl
theorem wC(y:Code)(st:St):wA C K fr b y Q .ret st=Q .ret st:=rfl
theorem wB(y:Code)(v:AV)(st:St):wA C K fr b y Q (.ge v) st=Q (.ge v) st:=rfl
theorem VM(id:Nat)(st:St):My id Q .normal st=Q .normal st:=rfl
theorem dx(id:Nat)(st:St):My id Q .ret st=Q .ret st:=rfl
theorem dw(id:Nat)(v:AV)(st:St):My id Q (.ge v) st=Q (.ge v) st:=rfl
theorem ZZ(id:Nat)(st:St):My id Q (.exit id) st=Q .normal st:=by
 simp[My]
theorem eO(x y:Code)(st:St):M0 C K fr b x y st Q (.d (.bool true))=Wp C K fr b x st Q:=rfl
theorem Zo(x y:Code)(st:St):M0 C K fr b x y st Q (.d (.bool false))=Wp C K fr b y st Q:=rfl
variable{t:Bool}
theorem Zp{x y:Code}(a:t=true→Wp C K fr b x st Q)(h2:t=false→Wp C K fr b y st Q):M0 C K fr b x y st Q (.d (.bool t)):=by
 exact zCO
variable{ops:Array Oper}{al:Nat→Bool}{l:List Oper}{e:CB}{h:AD}{bs:Nat}{ds:List Df}{ps:List (Nat×Nat)}{fps:List Fp}
def CU(C:DD)(K:Ab)(fr:Fr)(ops:Array Oper)(b n:Nat)(al:Nat→Bool)(l:List Oper)(i:Nat)(dst:Option Tmp)(e:CB)(h:AD)(bs:Nat)(ds:List Df)(Q:Ea→St→Prop):Option Cx→Prop
 |some x=>K4 fr.ci x.δ=true∧Gy C K fr ops b n al l (i+1) ⟨DC e dst x.v,h.puts x.δ,bs,ds⟩ Q
 |none=>False
def Bt(C:DD)(K:Ab)(fr:Fr)(ops:Array Oper)(b n:Nat)(al:Nat→Bool)(l:List Oper)(i:Nat)(Q:Ea→St→Prop):H9→Prop
 |.ok st _=>Gy C K fr ops b n al l (i+1) st Q
 |.ge v st=>al i=true∧Q (.ge v) {st with base:=b+n}
 |.err _=>False
theorem vI:Gy C K fr ops b n al [] i ⟨e,h,bs,ds⟩ Q=Q .normal ⟨e,h,b+n,ds⟩:=rfl
theorem XK(o:Oper)(st:St):Gy C K fr ops b n al (o::l) i st Q=Bt C K fr ops b n al l i Q (C5 C K fr ops ((b+i)::fr.π) o st):=by
 unfold Gy;simp only[Dk,Iv];cases f:C5 C K fr ops ((b+i)::fr.π) o st with
 |err e=>rfl
 |ge v st'=>
  simp only[Bt];cases al i<;>simp
 |ok st' a=>
  simp only[Bt,Gy];cases c:Dk C K fr ops b al l (i+1) st' with
  |err e=>rfl
  |ok r=>
   obtain⟨⟨o,g⟩,fps⟩:=r;cases o<;>rfl
def De(C:DD)(K:Ab)(fr:Fr)(ops:Array Oper)(b n:Nat)(al:Nat→Bool)(l:List Oper)(i:Nat)(dst:Option Tmp)(op:Op)(st:St)(want:Bool)(Q:Ea→St→Prop):AV→Prop
 |.d (.bool t)=>match t==want with
  |true=>Bt C K fr ops b n al l i Q (Bc C K fr ((b+i)::fr.π) op dst st)
  |false=>Gy C K fr ops b n al l (i+1) {st with env:=DC st.env dst (.ii [])} Q
 |.ii []=>Gy C K fr ops b n al l (i+1) {st with env:=DC st.env dst (.ii [])} Q
 |_=>False
theorem nd(dst:Option Tmp)(op:Op)(st:St):De C K fr ops b n al l i dst op st true Q (.d (.bool true))=Bt C K fr ops b n al l i Q (Bc C K fr ((b+i)::fr.π) op dst st):=rfl
theorem nP(dst:Option Tmp)(op:Op)(st:St):De C K fr ops b n al l i dst op st false Q (.d (.bool false))=Bt C K fr ops b n al l i Q (Bc C K fr ((b+i)::fr.π) op dst st):=rfl
theorem nZ(dst:Option Tmp)(op:Op):De C K fr ops b n al l i dst op ⟨e,h,bs,ds⟩ true Q (.d (.bool false))=Gy C K fr ops b n al l (i+1) ⟨DC e dst (.ii []),h,bs,ds⟩ Q:=rfl
theorem nR(dst:Option Tmp)(op:Op):De C K fr ops b n al l i dst op ⟨e,h,bs,ds⟩ false Q (.d (.bool true))=Gy C K fr ops b n al l (i+1) ⟨DC e dst (.ii []),h,bs,ds⟩ Q:=rfl
theorem YS{dst:Option Tmp}{op:Op}{want:Bool}(a:t=true→De C K fr ops b n al l i dst op st want Q (.d (.bool true)))(h2:t=false→De C K fr ops b n al l i dst op st want Q (.d (.bool false))):De C K fr ops b n al l i dst op st want Q (.d (.bool t)):=by
 exact zCO
theorem pF(dst:Option Tmp)(op:Op)(ty:TypeId)(pos:String)(af:Array Edge)(st:St):
 Gy C K fr ops b n al (⟨dst,op,ty,pos,af,none⟩::l) i st Q=Bt C K fr ops b n al l i Q (Bc C K fr ((b+i)::fr.π) op dst st):=by
 rw[XK];simp only[C5,N9]
theorem BN(dst:Option Tmp)(op:Op)(r:Option Cx):Bt C K fr ops b n al l i Q (EC fr op dst ⟨e,h,bs,ds⟩ r)=CU C K fr ops b n al l i dst e h bs ds Q r:=by
 cases r with
 |none=>rfl
 |some x=>
  simp only[EC,CU,K9,CQ,Bb];cases c:K4 fr.ci x.δ with
  |false=>simp[Bt]
  |true=>
   simp only[UN];have: ∀k:AD→H9,Z3 h x.δ k=k (h.puts x.δ):=fun k=>by
    unfold Z3;split
    .rename_i a;rw[a];rfl
    .simp only[A9]
   rw[this];simp only[Bt]
theorem Na(dst:Option Tmp)(v:AV):CU C K fr ops b n al l i dst e h bs ds Q (some ⟨v,[]⟩)=Gy C K fr ops b n al l (i+1) ⟨DC e dst v,h,bs,ds⟩ Q:=by
 have:K4 fr.ci []=true:=by cases a:fr.ci<;>rfl
 simp only[CU,this,UN];rfl
theorem gl(dst:Option Tmp)(v:AV)(x:Id×Obj)(δ:AD):CU C K fr ops b n al l i dst e h bs ds Q (some ⟨v,x::δ⟩)=(K4 fr.ci (x::δ)=true∧Gy C K fr ops b n al l (i+1) ⟨DC e dst v,h.puts (x::δ),bs,ds⟩ Q):=rfl
section
variable(dst:Option Tmp)(ρ:List Nat)
theorem tx(x:Operand):Bt C K fr ops b n al l i Q (Bc C K fr ρ (.move x) dst ⟨e,h,bs,ds⟩)=Gy C K fr ops b n al l (i+1) ⟨DC e dst (ev e.get x),h,bs,ds⟩ Q:=by
 simp only[Bc,evalOp,BN,Na]
theorem tQ(x:Operand):Bt C K fr ops b n al l i Q (Bc C K fr ρ (.assign x) dst ⟨e,h,bs,ds⟩)=Gy C K fr ops b n al l (i+1) ⟨DC e dst (ev e.get x),h,bs,ds⟩ Q:=by
 simp only[Bc,evalOp,BN,Na]
theorem ABW(c x y:Operand):Bt C K fr ops b n al l i Q (Bc C K fr ρ (.pick c x y) dst ⟨e,h,bs,ds⟩)=CU C K fr ops b n al l i dst e h bs ds Q (PH (ev e.get c) (ev e.get x) (ev e.get y)):=by
 exact zAj
theorem yk(t:TypeId):Bt C K fr ops b n al l i Q (Bc C K fr ρ (.alloc t) dst ⟨e,h,bs,ds⟩)=CU C K fr ops b n al l i dst e h bs ds Q (Kv ρ (C.T t)):=by
 exact zAj
theorem ADE(t:TypeId)(x:Operand):Bt C K fr ops b n al l i Q (Bc C K fr ρ (.box t x) dst ⟨e,h,bs,ds⟩)=CU C K fr ops b n al l i dst e h bs ds Q (SQ ρ (ev e.get x) (C.T t)):=by
 exact zAj
theorem ym(t:TypeId)(p:Array (Nat×Operand)):Bt C K fr ops b n al l i Q (Bc C K fr ρ (.build t p) dst ⟨e,h,bs,ds⟩)=CU C K fr ops b n al l i dst e h bs ds Q (Kx (FI e.get p) (C.T t)):=by
 exact zAj
theorem YP(t:TypeId)(m:Nat)(p:Array (Nat×Operand)):Bt C K fr ops b n al l i Q (Bc C K fr ρ (.buildSlice t m p) dst ⟨e,h,bs,ds⟩)=CU C K fr ops b n al l i dst e h bs ds Q (DJ C.T h.get ρ m (FI e.get p) (C.T t)):=by
 exact zAj
theorem nX(t:TypeId)(a:Operand):Bt C K fr ops b n al l i Q (Bc C K fr ρ (.load t a) dst ⟨e,h,bs,ds⟩)=CU C K fr ops b n al l i dst e h bs ds Q (MR h.get (ev e.get a) (C.T t)):=by
 exact zAj
theorem yv(t:TypeId)(a x:Operand):Bt C K fr ops b n al l i Q (Bc C K fr ρ (.store t a x) dst ⟨e,h,bs,ds⟩)=CU C K fr ops b n al l i dst e h bs ds Q (Jw h.get (ev e.get a) (ev e.get x) (C.T t)):=by
 exact zAj
theorem fQ(x:Operand):Bt C K fr ops b n al l i Q (Bc C K fr ρ (.nilCheck x) dst ⟨e,h,bs,ds⟩)=CU C K fr ops b n al l i dst e h bs ds Q (HS (ev e.get x)):=by
 exact zAj
theorem yl(op:BinOp)(t:TypeId)(x y:Operand)(u:TypeId):Bt C K fr ops b n al l i Q (Bc C K fr ρ (.binOp op t x y u) dst ⟨e,h,bs,ds⟩)=CU C K fr ops b n al l i dst e h bs ds Q ((kv (bK x||bK y) op (ev e.get x) (ev e.get y) (C.T t)).map (⟨·,[]⟩)):=by
 exact zAj
theorem y3(op:UnOp)(t:TypeId)(x:Operand):Bt C K fr ops b n al l i Q (Bc C K fr ρ (.unOp op t x) dst ⟨e,h,bs,ds⟩)=CU C K fr ops b n al l i dst e h bs ds Q (pD op (ev e.get x)):=by
 exact zAj
theorem yp(t:TypeId)(x:Operand):Bt C K fr ops b n al l i Q (Bc C K fr ρ (.makeInterface t x) dst ⟨e,h,bs,ds⟩)=CU C K fr ops b n al l i dst e h bs ds Q (MO t (ev e.get x) (C.T t)):=by
 exact zAj
theorem tP(x:Operand)(t u:TypeId):Bt C K fr ops b n al l i Q (Bc C K fr ρ (.typeAssert x t u true) dst ⟨e,h,bs,ds⟩)=CU C K fr ops b n al l i dst e h bs ds Q (JU u (ev e.get x) (C.T u)):=by
 exact zAj
theorem fP(f:Fn)(first cap:Array Operand):Bt C K fr ops b n al l i Q (Bc C K fr ρ (.makeFunc f first cap) dst ⟨e,h,bs,ds⟩)=CU C K fr ops b n al l i dst e h bs ds Q (HQ f (first.toList.map (ev e.get)) (cap.toList.map (ev e.get))):=by
 exact zAj
theorem nK(t:TypeId)(r:Option Operand):Bt C K fr ops b n al l i Q (Bc C K fr ρ (.makeMap t r) dst ⟨e,h,bs,ds⟩)=CU C K fr ops b n al l i dst e h bs ds Q (Ia ρ r):=by
 exact zAj
theorem tR(t:TypeId)(m k v:Operand):Bt C K fr ops b n al l i Q (Bc C K fr ρ (.insert t m k v) dst ⟨e,h,bs,ds⟩)=CU C K fr ops b n al l i dst e h bs ds Q (mapPut C.T h.get (C.T t) (ev e.get m) (ev e.get k) (ev e.get v)):=by
 exact zAj
theorem ay(t:TypeId)(m k v:Operand):Bt C K fr ops b n al l i Q (Bc C K fr ρ (.mapUpdate t m k v) dst ⟨e,h,bs,ds⟩)=CU C K fr ops b n al l i dst e h bs ds Q (mapPut C.T h.get (C.T t) (ev e.get m) (ev e.get k) (ev e.get v)):=by
 exact zAj
theorem tS(t:TypeId)(m k:Operand)(ok:Bool):Bt C K fr ops b n al l i Q (Bc C K fr ρ (.lookup t m k ok) dst ⟨e,h,bs,ds⟩)=CU C K fr ops b n al l i dst e h bs ds Q (GY C.T h.get (ev e.get m) (ev e.get k) ok (C.T t)):=by
 exact zAj
theorem aq(t:TypeId)(x y:Operand):Bt C K fr ops b n al l i Q (Bc C K fr ρ (.makeSlice t x y) dst ⟨e,h,bs,ds⟩)=CU C K fr ops b n al l i dst e h bs ds Q (DT C.T h.get ρ (ev e.get x) (ev e.get y) (C.T t)):=by
 exact zAj
theorem yu(t:TypeId)(x:Operand)(c a f:Option Operand):Bt C K fr ops b n al l i Q (Bc C K fr ρ (.slice t x c a f) dst ⟨e,h,bs,ds⟩)=CU C K fr ops b n al l i dst e h bs ds Q (Ht C.T h.get (ev e.get x) (c.map (ev e.get)) (a.map (ev e.get)) (f.map (ev e.get)) (C.T t)):=by
 exact zAj
theorem an(t:TypeId)(x:Operand)(k:Nat):Bt C K fr ops b n al l i Q (Bc C K fr ρ (.fieldAddr t x k) dst ⟨e,h,bs,ds⟩)=CU C K fr ops b n al l i dst e h bs ds Q (FU k (ev e.get x) (C.T t)):=by
 exact zAj
theorem ao(t:TypeId)(x y:Operand):Bt C K fr ops b n al l i Q (Bc C K fr ρ (.indexAddr t x y) dst ⟨e,h,bs,ds⟩)=CU C K fr ops b n al l i dst e h bs ds Q (Di C.T h.get (ev e.get x) (ev e.get y) (C.T t)):=by
 exact zAj
theorem yq(t:TypeId)(x y:Operand):Bt C K fr ops b n al l i Q (Bc C K fr ρ (.index t x y) dst ⟨e,h,bs,ds⟩)=CU C K fr ops b n al l i dst e h bs ds Q (MQ (ev e.get x) (ev e.get y) (C.T t)):=by
 exact zAj
theorem nJ(x:Operand)(k:Nat):Bt C K fr ops b n al l i Q (Bc C K fr ρ (.extract x k) dst ⟨e,h,bs,ds⟩)=CU C K fr ops b n al l i dst e h bs ds Q (J5 k (ev e.get x)):=by
 exact zAj
theorem nH(f:Builtin)(az:Array Operand)(ts:Array TypeId):Bt C K fr ops b n al l i Q (Bc C K fr ρ (.call ⟨.builtin f,az,ts⟩) dst ⟨e,h,bs,ds⟩)=CU C K fr ops b n al l i dst e h bs ds Q (HZ C.T h.get ρ f (az.toList.map (ev e.get)) ts.toList):=by
 simp only[Bc,LF,BN]
theorem yr(x:Operand):Bt C K fr ops b n al l i Q (Bc C K fr ρ (.panic x) dst ⟨e,h,bs,ds⟩)=Bt C K fr ops b n al l i Q (HB ⟨e,h,bs,ds⟩ (ev e.get x)):=rfl
theorem yo(c:Call):Bt C K fr ops b n al l i Q (Bc C K fr ρ (.defer c) dst ⟨e,h,bs,ds⟩)=Bt C K fr ops b n al l i Q (Iq fr e.get c dst ⟨e,h,bs,ds⟩):=rfl
def EJ(C:DD)(K:Ab)(fr:Fr)(ops:Array Oper)(b n:Nat)(al:Nat→Bool)(l:List Oper)(i:Nat)(az:List AV)(dst:Option Tmp)(e:CB)(h:AD)(bs:Nat)(ds:List Df)(Q:Ea→St→Prop)(r:E (Ax×AD)):Prop:=
 Bt C K fr ops b n al l i Q (EH fr az dst ⟨e,h,bs,ds⟩ r)
def TZ(C:DD)(K:Ab)(fr:Fr)(ops:Array Oper)(b n:Nat)(al:Nat→Bool)(l:List Oper)(i:Nat)(dst:Option Tmp)(ρ:List Nat)(e:CB)(h:AD)(bs:Nat)(ds:List Df)(Q:Ea→St→Prop)(args:List AV):AV→Prop
 |fv=>Bt C K fr ops b n al l i Q (E4 C K fr ρ fv args dst ⟨e,h,bs,ds⟩)
theorem yw(f:Operand)(az:Array Operand)(ts:Array TypeId):Bt C K fr ops b n al l i Q (Bc C K fr ρ (.call ⟨.value f,az,ts⟩) dst ⟨e,h,bs,ds⟩)=TZ C K fr ops b n al l i dst ρ e h bs ds Q (az.toList.map (ev e.get)) (ev e.get f):=rfl
def xF:Ax×AD→Ax×AD
 |(.ret v,h)=>(.ret v,h)
 |(.ge v,_)=>(.ge v,[])
def BU(K:Ab)(f:FuncId)(xs:List AV)(own:List Nat):E (Ax×AD):=match K (.fn f) xs [] own false none with
 |.ok r=>.ok (xF r)
 |.err l=>.err l
theorem rR{K:Ab}{f:FuncId}{b:List AV}{own:List Nat}{v:AV}{h:AD}(a:BU K f b own=.ok (.ret v,h)):K (.fn f) b [] own false none=.ok (.ret v,h):=by
 unfold BU at a;split at a
 .rename_i r c;obtain⟨o,h'⟩:=r;cases o with
  |ret e=>simp only[xF,E.ok.injEq]at a;rw[c,a]
  |ge e=>simp[xF]at a
 .cases a
theorem SW(fr:Fr)(az:List AV)(dst:Option Tmp)(st:St)(f:FuncId)(a:List AV)(own:List Nat):EH fr az dst st (K (.fn f) a [] own false none)=EH fr az dst st (BU K f a own):=by
 unfold BU;cases K (.fn f) a [] own false none with
 |err l=>rfl
 |ok r=>
  obtain⟨o,h⟩:=r;cases o<;>rfl
def Mf(C:DD)(K:Ab)(fr:Fr)(ops:Array Oper)(b n:Nat)(al:Nat→Bool)(l:List Oper)(i:Nat)(dst:Option Tmp)(ρ:List Nat)(e:CB)(h:AD)(bs:Nat)(ds:List Df)(Q:Ea→St→Prop)(f:FuncId)(az:List AV)(m:Mode):Prop:=
 Bt C K fr ops b n al l i Q (ER K fr ρ f az dst ⟨e,h,bs,ds⟩ m)
theorem rh(f:FuncId)(first cap args:List AV):TZ C K fr ops b n al l i dst ρ e h bs ds Q args (.fn f first cap)=Mf C K fr ops b n al l i dst ρ e h bs ds Q f (first++args++cap) (C.mode f):=by
 simp only[TZ,Mf,E4,Bk]
def mz(C:DD)(K:Ab)(fr:Fr)(ops:Array Oper)(b n:Nat)(al:Nat→Bool)(l:List Oper)(i:Nat)(dst:Option Tmp)(ρ:List Nat)(e:CB)(h:AD)(bs:Nat)(ds:List Df)(Q:Ea→St→Prop)(f:FuncId)(az:List AV)(own:List Nat):Option (List AV)→Prop
 |some xs=>EJ C K fr ops b n al l i az dst e h bs ds Q (K (.fn f) xs [] own false none)
 |none=>False
theorem gP(f:FuncId)(az:List AV)(a:(Ej h.get az).isSome):Mf C K fr ops b n al l i dst ρ e h bs ds Q f az .auto=mz C K fr ops b n al l i dst ρ e h bs ds Q f az [] (Ej h.get az):=by
 obtain⟨c,a⟩:=I5.1 a;simp only[Mf,ER,a,Bk,mz,EJ]
theorem ou(f:FuncId)(az:List AV)(a:(Ej h.get az).isSome):Mf C K fr ops b n al l i dst ρ e h bs ds Q f az .own=mz C K fr ops b n al l i dst ρ e h bs ds Q f az ρ (Ej h.get az):=by
 obtain⟨c,a⟩:=I5.1 a;simp only[Mf,ER,a,Bk,mz,EJ]
theorem nD(f:FuncId)(az:List AV)(own:List Nat)(a:List AV):mz C K fr ops b n al l i dst ρ e h bs ds Q f az own (some a)=EJ C K fr ops b n al l i az dst e h bs ds Q (BU K f a own):=by
 simp only[mz,EJ,SW]
theorem hP(az:List AV)(v:AV)(h':AD)(a:flat v=true):EJ C K fr ops b n al l i az dst e h bs ds Q (.ok (.ret v,h'))=Gy C K fr ops b n al l (i+1) ⟨DC e dst v,h,bs,ds⟩ Q:=by
 simp only[EJ,EH,Bb,a,Bt]
theorem pT(az:List AV)(v:AV)(h':AD)(a:flat v=true):EJ C K fr ops b n al l i az dst e h bs ds Q (.ok (.ge v,h'))=(al i=true∧Q (.ge v) ⟨e,h,b+n,ds⟩):=by
 simp only[EJ,EH,a,Bt]
theorem pR(az:List AV)(v:AV)(h':AD)(x:Id×Obj)(a:flat v=false)(c:B8 v h'=some x):EJ C K fr ops b n al l i az dst e h bs ds Q (.ok (.ret v,h'))=Gy C K fr ops b n al l (i+1) ⟨DC e dst v,x::h,bs,ds⟩ Q:=by
 simp only[EJ,EH,Bb,a,Iy,c,A9,Bt]
theorem pS(az:List AV)(v:AV)(h':AD)(a:flat v=false)(c:B8 v h'=none):EJ C K fr ops b n al l i az dst e h bs ds Q (.ok (.ret v,h'))=(K4 fr.ci (az.flatMap (mark h.get))=true∧Gy C K fr ops b n al l (i+1) ⟨DC e dst v,h'++h.puts (az.flatMap (mark h.get)),bs,ds⟩ Q):=by
 simp only[EJ,EH,Bb,a,Iy,c,A9,CQ];cases f:K4 fr.ci (az.flatMap (mark h.get))<;>simp[Bt]
end
def jA(h:AD)(π:List Nat)(raw:Bool)(Post:Ax→AD→Prop):Option AV→Prop
 |some v=>match raw with
  |true=>Post (.ret v) h
  |false=>match π with
   |[]=>match Y9 h.get v with
    |some v'=>Post (.ret v') []
    |none=>False
   |_=>Post (.ret v) h
 |none=>False
def Uy(C:DD)(e:CB)(h:AD)(rs:List ResultVar):Option AV:=match Og (DQ C ⟨e,h,0,[]⟩) rs with
 |some []=>some (.ii [])
 |some [v]=>some v
 |some vs=>some (.ii vs)
 |none=>none
def LB(C:DD)(rs:List ResultVar)(π:List Nat)(raw:Bool)(e:CB)(Post:Ax→AD→Prop):E (Option AV×AD)→Prop
 |.ok (none,h)=>jA h π raw Post (Uy C e h rs)
 |.ok (some v,h)=>Post (.ge v) h
 |.err _=>False
def Ki(C:DD)(ci:Option (List Nat))(rs:List ResultVar)(π:List Nat)(raw:Bool)(Post:Ax→AD→Prop):Ea→St→Prop
 |.ret,st=>LB C rs π raw st.env Post (Dr C ci st.defs none st.heap)
 |.normal,st=>LB C rs π raw st.env Post (Dr C ci st.defs none st.heap)
 |.ge v,st=>LB C rs π raw st.env Post (Dr C ci st.defs (some v) st.heap)
 |_,_=>False
theorem So{f:FuncId}{fn:Func}{c:Code}{rs:List ResultVar}{args:List AV}{h:AD}{π:List Nat}{raw:Bool}{ci:Option (List Nat)}{Post:Ax→AD→Prop}(s:C.i9 f=true)(q:P.funcs[f]? =some fn)(m:fn.body=some c)(w:fn.results.toList=rs)(t:Nat.ble args.length fn.ntmps=true)
 (A:Wp C (KL P C) {f,π,raw,ci,nt:=fn.ntmps} 0 c ⟨Dx 0 args,h,0,[]⟩ (Ki C ci rs π raw Post)): ∃o h',KL P C (.fn f) args h π raw ci=.ok (o,h')∧Post o h':=by
 obtain⟨n,o,st',j,h2⟩:=A;subst w;have x: ∀b,J7 C fn {st' with heap:=b}=Uy C st'.env b fn.results.toList:=fun b=>by
  unfold J7 Uy;have e:DQ C {st' with heap:=b}=DQ C ⟨st'.env,b,0,[]⟩:=funext fun r=>by cases r<;>rfl
  rw[e];rfl
 have key: ∀z,LB C fn.results.toList π raw st'.env Post z→ ∃o h',Uj C f fn π raw st' z=.ok (o,h')∧Post o h':=by
  intro z a;cases z with
  |err l=>exact a.elim
  |ok r=>
   obtain⟨p,b⟩:=r;cases p with
   |some v=>exact⟨.ge v,b,rfl,a⟩
   |none=>
    simp only[LB]at a;simp only[Uj,x];cases g:Uy C st'.env b fn.results.toList with
    |none=>rw[g]at a;exact a.elim
    |some v=>
     rw[g]at a;simp only[jA]at a;simp only[K9];cases raw with
     |true=>exact⟨_,_,rfl,a⟩
     |false=>
      simp only at a⊢;split at a
      .split at a
       .rename_i B y;rw[y];exact⟨_,_,rfl,a⟩
       .exact a.elim
      .exact⟨_,_,by split<;>first|rfl|contradiction,a⟩
 have i: ∃o' h',sU C ci f fn π raw (.ok (o,st'))=.ok (o',h')∧Post o' h':=by
  cases o with
  |exit k=>exact h2.elim
  |ret=>exact key _ h2
  |normal=>exact key _ h2
  |ge v=>exact key _ h2
 obtain⟨o',h',e,u⟩:=i;refine⟨o',h',gA s (n:=n) ?_,u⟩;unfold Qn;simp only[q,m,t,j];exact e
variable{f:FuncId}{fn:Func}{c:Code}{rs:List ResultVar}{args:List AV}{π:List Nat}{raw:Bool}{ci:Option (List Nat)}
theorem mQ{h:AD}{o:Ax}{a:AD}(i:C.i9 f=true)(g:P.funcs[f]? =some fn)(b:fn.body=some c)(k:fn.results.toList=rs)(j:Nat.ble args.length fn.ntmps=true)
 (l:Wp C (KL P C) {f,π,raw,ci,nt:=fn.ntmps} 0 c ⟨Dx 0 args,h,0,[]⟩ (Ki C ci rs π raw fun o' h'=>o'=o∧h'=a)):KL P C (.fn f) args h π raw ci=.ok (o,a):=by
 obtain⟨o',h',e,rfl,rfl⟩:=So i g b k j l;exact e
theorem r1{r:Ax×AD}(g:C.i9 f=true)(b:P.funcs[f]? =some fn)(a:fn.body=some c)(i:fn.results.toList=rs)(h:Nat.ble args.length fn.ntmps=true)
 (j:Wp C (KL P C) {f,π,raw:=false,ci:=none,nt:=fn.ntmps} 0 c ⟨Dx 0 args,[],0,[]⟩ (Ki C none rs π false fun o' h'=>xF (o',h')=r)):BU (KL P C) f args π=.ok r:=by
 obtain⟨o',h',e,h2⟩:=So g b a i h j;unfold BU;rw[e,←h2]
theorem BT{f:FuncId}{fn:Func}{c:Code}{rs:List ResultVar}{args:List AV}{h:AD}{π:List Nat}{raw:Bool}{ci:Option (List Nat)}{Post:Ax→AD→Prop}{nt:Nat}(b:P.funcs[f]? =some fn)(k:Wp C (KL P C) {f,π,raw,ci,nt} 0 c ⟨Dx 0 args,h,0,[]⟩ (Ki C ci rs π raw Post))(a:fn.body=some c:=by rfl)(j:fn.results=rs.toArray:=by rfl)(i:fn.ntmps=nt:=by rfl)(e:C.i9 f=true:=by rfl)(g:Nat.ble args.length fn.ntmps=true:=by rfl): ∃o h',KL P C (.fn f) args h π raw ci=.ok (o,h')∧Post o h':=by
 subst i;exact So e b a (by simp[j]) g k
theorem A7{f:FuncId}{fn:Func}{c:Code}{rs:List ResultVar}{args:List AV}{π:List Nat}{r:Ax×AD}{nt:Nat}(b:P.funcs[f]? =some fn)(j:Wp C (KL P C) {f,π,raw:=false,ci:=none,nt} 0 c ⟨Dx 0 args,[],0,[]⟩ (Ki C none rs π false fun o' h'=>xF (o',h')=r))(a:fn.body=some c:=by rfl)(i:fn.results=rs.toArray:=by rfl)(h:fn.ntmps=nt:=by rfl)(e:C.i9 f=true:=by rfl)(g:Nat.ble args.length fn.ntmps=true:=by rfl):BU (KL P C) f args π=.ok r:=by
 subst h;exact r1 e b a (by simp[i]) g j
abbrev nI(x:Int):AV:=.d (.int .i64 x)
theorem zZ(v:AV)(h:AD):xF (.ret v,h)=(.ret v,h):=rfl
theorem zY(v:AV)(h:AD):xF (.ge v,h)=(.ge v,[]):=rfl
def NN(C:DD)(K:Ab)(fr:Fr)(b:Nat)(x:Code)(Q:Ea→St→Prop):Ea→St→Prop
 |.normal,st=>Wp C K fr b (.loop x) st Q
 |o,st=>Q o st
def Xu(C:DD)(K:Ab)(fr:Fr)(b:Nat)(x:Code)(st:St)(Q:Ea→St→Prop):Prop:=Wp C K fr b x st (NN C K fr b x Q)
theorem AAP(x:Code)(st:St):Wp C K fr b (.loop x) st Q=Xu C K fr b x (Fg C fr b st) Q:=by
 refine propext ⟨fun⟨n,o,st',h,hq⟩=>?_,fun⟨n,o,st',h,hq⟩=>?_⟩
 .cases n with
  |zero=>simp[Bm]at h
  |succ n=>
   simp only[Bm,MB]at h;cases a:Bm C K fr n b x (Fg C fr b st)with
   |err e=>rw[a]at h;cases h
   |ok r=>
    exact zBu
 .cases o with
  |normal=>
   obtain⟨m,g,j,h2,f⟩:=hq;refine⟨max n m+1,g,j,?_,f⟩;simp only[Bm,MB,N6 h (Lt n m),EF,N6 h2 (Nl n m)]
  |_=>exact⟨n+1,_,st',by simp only[Bm,MB,h,EF],hq⟩
theorem Yc(x:Code)(st:St):NN C K fr b x Q .normal st=Wp C K fr b (.loop x) st Q:=rfl
theorem ft(x:Code)(k:Nat)(st:St):NN C K fr b x Q (.exit k) st=Q (.exit k) st:=rfl
theorem oJ(x:Code)(st:St):NN C K fr b x Q .ret st=Q .ret st:=rfl
theorem oI(x:Code)(v:AV)(st:St):NN C K fr b x Q (.ge v) st=Q (.ge v) st:=rfl
theorem Dd(x:Code)(st:St):Xu C K fr b x st Q=Wp C K fr b x st (NN C K fr b x Q):=rfl
structure AH(p:Prop):Prop where
 out:p
theorem AB{p:Prop}(h:p):AH p:=⟨h⟩
variable{α:Type}
theorem rounds{x:Code}(S:α→St)(Inv:α→Prop)(m:α→Nat)(a:α)(e:Inv a)(step: ∀a,Inv a→AH (∀c,m c<m a→Inv c→Xu C K fr b x (S c) Q)→Wp C K fr b x (S a) (NN C K fr b x Q)):Xu C K fr b x (S a) Q:=by
 suffices h: ∀k a,m a<k→Inv a→Xu C K fr b x (S a) Q from h _ a (Nat.lt_succ_self _) e
 intro k;induction k with
 |zero=>intro a f;omega
 |succ k i=>exact fun a f g=>step a g ⟨fun c j h2=>i c AA h2⟩
variable{P:Program}{C:DD}{K:Ab}{fr:Fr}{b n i:Nat}{Q:Ea→St→Prop}
variable{ops:Array Oper}{al:Nat→Bool}{l:List Oper}{e:CB}{h:AD}{bs:Nat}{ds:List Df}{ps:List (Nat×Nat)}{fps:List Fp}
def MI(e:CB):Option (Option Tmp)→AV
 |some (some t)=>e.get t
 |_=>.undef
def RJ(ops:Array Oper)(e:CB)(j:Nat):AV:=MI e ((ops[j]?).map (·.dst))
theorem bC(e:CB)(t:Tmp):MI e (some (some t))=e.get t:=rfl
theorem fV(l:List Oper)(e:CB)(j:Nat):RJ l.toArray e j=MI e ((l[j]?).map (·.dst)):=by
 simp only[RJ,On]
theorem zg(dst:Option Tmp)(op:Op)(ty:TypeId)(pos:String)(af:Array Edge)(j:Nat)(want:Bool):
 Gy C K fr ops b n al (⟨dst,op,ty,pos,af,some (j,want)⟩::l) i ⟨e,h,bs,ds⟩ Q=De C K fr ops b n al l i dst op ⟨e,h,bs,ds⟩ want Q (RJ ops e j):=by
 rw[XK];simp only[C5,N9,RJ];cases f:ops[j]? with
 |none=>simp[MI,De,Bt]
 |some o=>
  cases a:o.dst with
  |none=>simp[MI,De,Bt,a]
  |some t=>
   simp only[I2,a,F3,MI];cases g:CB.get e t with
   |d x=>cases x with
    |bool c=>
     simp only[De];cases(c==want)<;>simp only[Bt,Bb]
    |_=>rfl
   |ii vs=>cases vs<;>simp only[De,Bt,Bb]
   |_=>rfl
theorem get_cons(k:Nat)(v:AV)(e:CB)(t:Nat):CB.get ((k,v)::e) t=if k=t then v else CB.get e t:=by
 rw[CB.get];cases h:Nat.beq k t with
 |true=>rw[D5 (D8 h)]
 |false=>rw[Co (Qr h)]
theorem pY(e:CB)(t:Tmp)(v:AV):DC e (some t) v=(t,v)::e:=rfl
theorem pX(e:CB)(v:AV):DC e none v=e:=rfl
theorem q8(e:Nat→AV)(t:Tmp):ev e (.tmp t)=e t:=rfl
theorem yE(e:Nat→AV)(f:FuncId):ev e (.func f)=.fn f [] []:=rfl
theorem m2(e:Nat→AV)(k:IntKind)(m:Int):ev e (.const (.int k m))=.d (.int k m):=rfl
theorem yD(e:Nat→AV)(c:Bool):ev e (.const (.bool c))=.d (.bool c):=rfl
theorem mH(e:Nat→AV)(s:ByteArray):ev e (.const (.string s))=.d (.str s):=rfl
theorem yJ(e:Nat→AV):ev e (.const (.slice none 0 0))=.d7:=rfl
theorem yI(e:Nat→AV):ev e (.const (.pointer none))=.d .wp:=rfl
theorem yF(e:Nat→AV):ev e (.const .nilFunc)=.d .lc:=rfl
theorem yG(e:Nat→AV):ev e (.const .nilIface)=.d .rg:=rfl
theorem yH(e:Nat→AV):ev e (.const (.map none))=.d .wn:=rfl
theorem dR(δ:AD):K4 none δ=true:=by cases δ<;>rfl
theorem n7(k:IntKind)(a c:Int):Gx .add k a c=some (.d (.int k (k.wrap (a+c)))):=rfl
theorem lx(k:IntKind)(a c:Int):Gx .sub k a c=some (.d (.int k (k.wrap (a-c)))):=rfl
theorem ACw(k:IntKind)(a c:Int):Gx .mul k a c=some (.d (.int k (k.wrap (a*c)))):=rfl
theorem pz(k:IntKind)(a c:Int):Gx .eql k a c=some (.d (.bool (decide (a=c)))):=by
 simp only[Gx];congr
theorem tv(k:IntKind)(a c:Int):Gx .neq k a c=some (.d (.bool (!decide (a=c)))):=by
 simp only[Gx];congr
theorem ACv(k:IntKind)(a c:Int):Gx .lss k a c=some (.d (.bool (decide (a<c)))):=rfl
theorem ACu(k:IntKind)(a c:Int):Gx .leq k a c=some (.d (.bool (decide (a≤c)))):=rfl
theorem oi(k:IntKind)(a c:Int):Gx .gtr k a c=some (.d (.bool (decide (c<a)))):=rfl
theorem ACr(k:IntKind)(a c:Int):Gx .geq k a c=some (.d (.bool (decide (c≤a)))):=rfl
theorem ACy(k:IntKind)(a c:Int):Gx .rem k a c=if c=0 then none else some (.d (.int k (a.tmod c))):=rfl
theorem mE(op:BinOp)(k:IntKind)(a c:Int)(t:Option TI):IQ op (.d (.int k a)) (.d (.int k c)) t=Gx op k a c:=by
 simp only[IQ,F7]
variable{st:St}
theorem la{x y:Code}{p:Prop} [Decidable p](c:p→Wp C K fr b x st Q)(h2: ¬p→Wp C K fr b y st Q):M0 C K fr b x y st Q (.d (.bool (decide p))):=by
 exact zBC
theorem lf(x y:Code)(st:St)(t:Bool):M0 C K fr b x y st Q (.d (.bool (!t)))=M0 C K fr b y x st Q (.d (.bool t)):=by
 cases t<;>rfl
variable{dst:Option Tmp}{want:Bool}
theorem fT{op:Op}{p:Prop} [Decidable p](c:p→De C K fr ops b n al l i dst op st want Q (.d (.bool true)))(h2: ¬p→De C K fr ops b n al l i dst op st want Q (.d (.bool false))):De C K fr ops b n al l i dst op st want Q (.d (.bool (decide p))):=by
 exact zBC
theorem fU(dst:Option Tmp)(op:Op)(want:Bool):De C K fr ops b n al l i dst op ⟨e,h,bs,ds⟩ want Q (.ii [])=Gy C K fr ops b n al l (i+1) ⟨DC e dst (.ii []),h,bs,ds⟩ Q:=rfl
def sM(C:DD)(K:Ab)(fr:Fr)(ops:Array Oper)(b n id:Nat)(l:List Oper)(st:St)(Q:Ea→St→Prop):List (Nat×Nat)→Prop
 |[]=>Gy C K fr ops b n (fun i=>C.alone fr.f id i) l 0 st Q
 |p::ps=>Hb C K fr ops b n (fun i=>C.alone fr.f id i) (p::ps) [] l 0 st Q
theorem xB(id:Nat)(ops:Array Oper)(e:CB)(h:AD)(bs:Nat)(ds:List Df):Wp C K fr b (.region id ops true) ⟨e,h,bs,ds⟩ Q=sM C K fr ops bs ops.size id ops.toList ⟨e,h,bs,ds⟩ Q (C.d9 fr.f id):=by
 cases a:C.d9 fr.f id with
 |nil=>rw[xA id ops e h bs ds a];rfl
 |cons p ps=>rw[r4 id ops e h bs ds a];rfl
theorem l6(id:Nat)(st:St):sM C K fr ops b n id l st Q []=Gy C K fr ops b n (fun i=>C.alone fr.f id i) l 0 st Q:=rfl
theorem ee(id:Nat)(st:St)(p:Nat×Nat):sM C K fr ops b n id l st Q (p::ps)=Hb C K fr ops b n (fun i=>C.alone fr.f id i) (p::ps) [] l 0 st Q:=rfl
variable{Post:Ax→AD→Prop}
theorem sW:Ki C ci rs π raw Post .ret ⟨e,h,bs,ds⟩=LB C rs π raw e Post (Dr C ci ds none h):=rfl
theorem Z1:Ki C ci rs π raw Post .normal ⟨e,h,bs,ds⟩=LB C rs π raw e Post (Dr C ci ds none h):=rfl
theorem sV(v:AV):Ki C ci rs π raw Post (.ge v) ⟨e,h,bs,ds⟩=LB C rs π raw e Post (Dr C ci ds (some v) h):=rfl
theorem oA(ci:Option (List Nat))(p:Option AV)(h:AD):Dr C ci [] p h=.ok (p,h):=rfl
theorem UK(ci:Option (List Nat))(p:Option AV)(h:AD)(id:Id)(l:List Df):Dr C ci (.mark id::l) p h=Dr C ci l p h:=rfl
theorem ff:LB C rs π raw e Post (.ok (none,h))=jA h π raw Post (Uy C e h rs):=rfl
theorem fe(v:AV):LB C rs π raw e Post (.ok (some v,h))=Post (.ge v) h:=rfl
theorem wq(v:AV):jA h π true Post (some v)=Post (.ret v) h:=rfl
theorem wo{k:Nat}(v:AV):jA h (k::π) false Post (some v)=Post (.ret v) h:=rfl
def W0(Post:Ax→AD→Prop):Option AV→Prop
 |some v=>Post (.ret v) []
 |none=>False
theorem wm(v:AV):jA h [] false Post (some v)=W0 Post (Y9 h.get v):=by
 simp only[jA];cases Y9 h.get v<;>rfl
theorem nF(v:AV):W0 Post (some v)=Post (.ret v) []:=rfl
theorem pr:Uy C e h []=some (.ii []):=rfl
theorem vj(t:Tmp):Uy C e h [.tmp t]=some (e.get t):=rfl
theorem pq(r a:ResultVar)(rs:List ResultVar):Uy C e h (r::a::rs)=(Og (DQ C ⟨e,h,0,[]⟩) (r::a::rs)).map .ii:=by
 unfold Uy;simp only[Og];cases DQ C ⟨e,h,0,[]⟩ r with
 |none=>rfl
 |some y=>cases DQ C ⟨e,h,0,[]⟩ a with
  |none=>rfl
  |some z=>cases Og (DQ C ⟨e,h,0,[]⟩) rs<;>rfl
theorem po(a:Tmp)(t:TypeId):Uy C e h [.cell a t]=(C.T t).bind fun i=>KP h.get i (e.get a):=by
 unfold Uy;simp only[Og,DQ];cases(C.T t).bind fun i=>KP h.get i (e.get a)<;>rfl
theorem Ve(t:Tmp):DQ C ⟨e,h,bs,ds⟩ (.tmp t)=some (e.get t):=rfl
theorem Uz(a:Tmp)(t:TypeId):DQ C ⟨e,h,bs,ds⟩ (.cell a t)=(C.T t).bind fun i=>KP h.get i (e.get a):=rfl
variable{β:Type}
theorem uR(f:α→Option β):Og f []=some []:=rfl
theorem oU(f:α→Option β)(x:α)(l:List α):Og f (x::l)=(f x).bind fun y=>(Og f l).map (y:: ·):=by
 simp only[Og];cases f x with
 |none=>rfl
 |some y=>cases Og f l<;>rfl
theorem nU(dst:Option Tmp)(op:Op)(st:St)(t:Bool):De C K fr ops b n al l i dst op st true Q (.d (.bool (!t)))=De C K fr ops b n al l i dst op st false Q (.d (.bool t)):=by
 cases t<;>rfl
theorem nT(dst:Option Tmp)(op:Op)(st:St)(t:Bool):De C K fr ops b n al l i dst op st false Q (.d (.bool (!t)))=De C K fr ops b n al l i dst op st true Q (.d (.bool t)):=by
 cases t<;>rfl
theorem yj(g:G)(vs:List AV):Y9 g (.ii vs)=(Ej g vs).map .ii:=rfl
theorem ADB(g:G)(x:Ao):Y9 g (.d x)=some (.d x):=rfl
theorem yd(g:G)(cs:List AV):Y9 g (.agg cs)=(Hr g cs).map .agg:=rfl
theorem tM(g:G):Y9 g .d7=some (.d (.bv [])):=rfl
theorem ye(g:G):Y9 g .emp=some (.d (.bv [])):=rfl
theorem yh(g:G)(id:Id)(off m:Nat):Y9 g (.f8 id off m)=(Ec g (.f8 id off m)).map .d:=rfl
theorem is_self: ∀(a:Id),Id.is a a=true
 |[]=>rfl
 |n::l=>by simp[Id.is,is_self l]
theorem zE(n m:Nat)(l k:Id):Id.is (n::l) (m::k)=if n=m then Id.is l k else false:=by
 rw[Id.is];cases h:Nat.beq n m with
 |true=>rw[D5 (D8 h)]
 |false=>rw[Co (Qr h)]
theorem bM(m:Nat)(k:Id):Id.is [] (m::k)=false:=rfl
theorem bL(m:Nat)(k:Id):Id.is (m::k) []=false:=rfl
theorem td(id:Id):AD.get [] id=none:=rfl
theorem CK(k:Id)(o:Obj)(h:AD)(id:Id):AD.get ((k,o)::h) id=if Id.is k id=true then some o else AD.get h id:=by
 rw[AD.get];cases Id.is k id<;>rfl
theorem kC(id:Id)(o:Obj):AD.put [] id o=[(id,o)]:=rfl
theorem cW(k:Id)(x:Obj)(h:AD)(id:Id)(o:Obj):AD.put ((k,x)::h) id o=if Id.is k id=true then(k,o)::h else(k,x)::AD.put h id o:=by
 rw[AD.put];cases Id.is k id<;>rfl
theorem puts_cons(h:AD)(p:Id×Obj)(δ:AD):AD.puts h (p::δ)=AD.puts (h.put p.1 p.2) δ:=rfl
theorem puts_nil(h:AD):AD.puts h []=h:=rfl
def X0(π:List Nat)(e:CB)(h:AD)(l:List Id):St:=
 {env:=e.map fun p=>(p.1,ren (EY π l 0) p.2),heap:=Dy h (EY π l 0) l,base:=l.length,defs:=[]}
def IB:CB→List Id
 |[]=>[]
 |p::e=>AE p.2++IB e
theorem y8(e:CB):(e.flatMap fun p=>AE p.2)=IB e:=by
 induction e with
 |nil=>rfl
 |cons p e a=>rw[EM,a];rfl
def Lj(e:CB):List Nat→CB
 |[]=>[]
 |t::l=>(t,e.get t)::Lj e l
theorem UO(e:CB)(l:List Nat):(l.map fun t=>(t,e.get t))=Lj e l:=by
 induction l with
 |nil=>rfl
 |cons p e a=>rw[CO,a];rfl
def Ox(π:List Nat)(h:AD)(e:CB):St:=X0 π e h (Cu h 1000 (Fw [] (IB e)) 0)
theorem N0(f:FuncId)(π:List Nat)(ci:Option (List Nat))(a:Bool)(nt:Nat):Fg C ⟨f,π,false,ci,a,nt⟩ b ⟨e,h,bs,[]⟩=Ox π h (Lj e (C.live f b)):=by
 simp only[Fg,UO,y8,Ox,X0];rfl
theorem lO(f:FuncId)(π:List Nat)(ci:Option (List Nat))(a:Bool)(nt:Nat):Fg C ⟨f,π,true,ci,a,nt⟩ b ⟨e,h,bs,ds⟩=⟨Lj e (C.live f b),h,bs,ds⟩:=by
 simp only[Fg,UO];rfl
theorem eA(d:Df):Fg C fr b ⟨e,h,bs,d::ds⟩=⟨Lj e (C.live fr.f b),h,bs,d::ds⟩:=by
 simp only[Fg,UO,List.isEmpty_cons,PM,T2,F7]
theorem rF(l:List Id)(id:Id):Mc l id=if (l.any (Id.is id))=true then l else l++[id]:=by
 rw[Mc];cases l.any (Id.is id)<;>rfl
theorem vf(h:AD)(n:Nat)(l:List Id)(i:Nat):Cu h (n+1) l i=match l[i]? with
 |some id=>Cu h n (Fw l (FA (h.get id))) (i+1)
 |none=>l:=rfl
def VB(id:Id):Nat:=match id with|0::_=>0|_=>1
theorem Ub(π:List Nat)(x:Id)(r:List Id)(n:Nat)(id:Id):EY π (x::r) n id=if Id.is x id=true then some (VB id::n::π)else EY π r (n+1) id:=by
 have:EY π (x::r) n id=match Id.is x id with|true=>some (VB id::n::π)|false=>EY π r (n+1) id:=by
  conv=>lhs;unfold EY
  unfold VB;cases id with
  |nil=>rfl
  |cons a l=>cases a<;>rfl
 rw[this];cases Id.is x id<;>rfl
theorem qL(l:Id):VB (0::l)=0:=rfl
theorem qK(l:Id):VB (1::l)=1:=rfl
def UR(sz:Nat):Option (List Ao)→Option Cx
 |some c=>if c.length=sz then some ⟨.v6 c,[]⟩else none
 |none=>none
theorem y9(g:G)(m:Int)(es:List (List Ao))(j:TI)(a:0≤m):Ou g m (.d (.bv es)) j=UR j.size es[m.toNat]? :=by
 simp only[Ou,D5 a];cases es[m.toNat]? with
 |none=>rfl
 |some c=>
  simp only[UR];cases h:Nat.beq c.length j.size with
  |true=>rw[D5 (D8 h)]
  |false=>rw[Co (Qr h)]
theorem zA(g:G)(m:Int)(id:Id)(off len:Nat)(j:TI)(a:0≤m):Ou g m (.f8 id off len) j=if m.toNat<len then(match g id with
        |some (.em sz es)=>if sz=j.size∧off+m.toNat<es.length then some ⟨.jp id (off+m.toNat) 0,[]⟩else none
        |some (.i7 sz es)=>if sz=j.size∧off+m.toNat<es.length then some ⟨.jp id (off+m.toNat) 0,[]⟩else none
        |some (.arr sz es)=>if sz=j.size∧off+m.toNat<es.length then some ⟨.jp id (off+m.toNat) 0,[]⟩else none
        |_=>none)else none:=by
 simp only[Ou,D5 a];rfl
theorem oO(sz:Nat)(c:List Ao):UR sz (some c)=if c.length=sz then some ⟨.v6 c,[]⟩else none:=rfl
variable{j:Nat}
theorem pN{s:ByteArray}{f:UInt8→Cx}(a:j<s.data.toList.length)(c: ∀x,s.data.toList[j]? =some x→CU C K fr ops b n al l i dst e h bs ds Q (some (f x))):CU C K fr ops b n al l i dst e h bs ds Q (Option.map f s.data.toList[j]?):=by
 have:=c s.data.toList[j] (Bv a)
 rwa [Bv a]
theorem pK{f:α→List Ao}{a:List α}{sz:Nat}(c:j<a.length)(g: ∀x,a[j]? =some x→CU C K fr ops b n al l i dst e h bs ds Q (UR sz (some (f x)))):CU C K fr ops b n al l i dst e h bs ds Q (UR sz (Option.map f a[j]?)):=by
 have:=g a[j] (Bv c)
 rwa [Bv c]
theorem ua(g:G)(x:Ao):GJ g (.d x)=some x:=rfl
theorem me(g:G):GJ g .d7=some (.bv []):=rfl
theorem tB(g:G):GJ g .emp=some (.bv []):=rfl
theorem n6(g:G)(x:Ao):Ec g (.d x)=some x:=rfl
theorem mg(g:G):Ec g .d7=some (.bv []):=rfl
theorem tF(g:G):Ec g .emp=some (.bv []):=rfl
theorem tH(g:G)(id:Id)(off:Nat):Ec g (.ptr id off)=none:=rfl
theorem ya(g:G)(id:Id):Ec g (.mp id)=none:=rfl
theorem tI(g:G)(id:Id):Ec g (.ws id)=none:=rfl
theorem yZ(g:G)(f:FuncId)(a c:List AV):Ec g (.fn f a c)=none:=rfl
def ak(g:G)(off m:Nat):Option Obj→Option Ao
 |some (.arr _ es)=>(Dc g es).bind fun ds=>(Kj ds off m).map .bv
 |some (.em _ es)=>(Kj es off m).map .bv
 |some (.i7 _ es)=>(Kj es off m).map .bv
 |_=>none
theorem tG(g:G)(id:Id)(off m:Nat):Ec g (.f8 id off m)=ak g off m (g id):=by
 simp only[Ec,GJ];cases h:g id with
 |none=>rfl
 |some o=>cases o with
  |arr sz es=>
   simp only[ak];cases Dc g es<;>rfl
  |_=>rfl
theorem mw(g:G)(off m sz:Nat)(es:List (List AV)):ak g off m (some (.arr sz es))=(Dc g es).bind fun ds=>(Kj ds off m).map .bv:=rfl
theorem fO(g:G)(off m sz:Nat)(es:List (List Ao)):ak g off m (some (.em sz es))=(Kj es off m).map .bv:=rfl
theorem my(g:G)(off m sz:Nat)(es:List (List Ao)):ak g off m (some (.i7 sz es))=(Kj es off m).map .bv:=rfl
theorem mh(g:G):Hr g []=some []:=rfl
def O4:Option Ao→Option (List AV)→Option (List AV)
 |some x,some xs=>some (.d x::xs)
 |_,_=>none
theorem ab(x:Ao)(a:List AV):O4 (some x) (some a)=some (.d x::a):=rfl
theorem aa(a:Option (List AV)):O4 none a=none:=rfl
theorem fJ(g:G)(v:AV)(vs:List AV):Hr g (v::vs)=O4 (Ec g v) (Hr g vs):=by
 simp only[Hr];cases Ec g v<;>cases Hr g vs<;>rfl
def We:Option AV→Option (List AV)→Option (List AV)
 |some x,some xs=>some (x::xs)
 |_,_=>none
theorem fL(x:AV)(a:List AV):We (some x) (some a)=some (x::a):=rfl
theorem fK(a:Option (List AV)):We none a=none:=rfl
theorem ah(x:Option AV):We x none=none:=zFl
theorem tK(g:G):Ej g []=some []:=by simp only[Ej]
theorem mq(g:G)(v:AV)(vs:List AV):Ej g (v::vs)=We (FR g v) (Ej g vs):=by
 simp only[Ej];cases FR g v<;>cases Ej g vs<;>rfl
theorem m1(g:G)(x:Ao):FR g (.d x)=some (.d x):=rfl
theorem sw(g:G)(cs:List AV):FR g (.agg cs)=(Hr g cs).map .agg:=rfl
theorem mc(g:G):FR g .d7=some (.d (.bv [])):=rfl
theorem s5(g:G):FR g .emp=some (.d (.bv [])):=rfl
theorem s8(g:G)(id:Id)(off:Nat):FR g (.ptr id off)=none:=rfl
theorem yY(g:G)(id:Id):FR g (.mp id)=none:=rfl
theorem tA(g:G)(id:Id):FR g (.ws id)=none:=rfl
theorem yX(g:G)(f:FuncId):FR g (.fn f [] [])=some (.fn f [] []):=rfl
theorem s7(g:G)(id:Id)(off m:Nat):FR g (.f8 id off m)=(Ec g (.f8 id off m)).map .d:=rfl
theorem aR(g:G)(t:TypeId)(cs:List AV):FR g (.iface t (.agg cs))=(Hr g cs).map fun c=>.iface t (.agg c):=rfl
theorem aU(g:G)(t:TypeId)(x:Ao):FR g (.iface t (.d x))=some (.iface t (.d x)):=rfl
theorem sa(x:Ao):flat (.d x)=FE x:=zFl
theorem mb:flat .d7=true:=by simp[flat]
theorem sn:flat .emp=true:=by simp[flat]
theorem sk(cs:List AV):flat (.agg cs)=Gr cs:=by cases cs<;>rfl
theorem sr(cs:List AV):flat (.ii cs)=Gr cs:=by cases cs<;>rfl
theorem so(id:Id)(off m:Nat):flat (.f8 id off m)=false:=by cases id<;>rfl
theorem sq(id:Id)(off:Nat):flat (.ptr id off)=false:=by cases id<;>rfl
theorem aH(t:TypeId)(cs:List AV):flat (.iface t (.agg cs))=Gr cs:=by cases cs<;>rfl
theorem aI(t:TypeId)(x:Ao):flat (.iface t (.d x))=FE x:=zFl
theorem mY:Gr []=true:=rfl
theorem yT(x:Ao)(vs:List AV):Gr (.d x::vs)=(FE x&&Gr vs):=rfl
theorem mX(x:List AV)(vs:List AV):Gr (.agg x::vs)=false:=by simp only[Gr]
theorem mZ(id:Id)(off m:Nat)(vs:List AV):Gr (.f8 id off m::vs)=false:=by simp only[Gr]
theorem fA(vs:List AV):Gr (.d7::vs)=false:=by simp only[Gr]
theorem yV(id:Id):flat (.mp id)=false:=by simp only[flat]
theorem yU(f:FuncId)(a c:List AV):flat (.fn f a c)=false:=by simp only[flat]
theorem aD(vs:List AV)(h:AD):B8 (.ii vs) h=none:=zE8
theorem Z7(vs:List AV)(h:AD):B8 (.agg vs) h=none:=zE8
theorem Z9(id:Id)(off:Nat)(h:AD):B8 (.ptr id off) h=none:=zE8
theorem et(id:Id)(h:AD):B8 (.mp id) h=none:=zE8
theorem mO(x:Ao)(h:AD):B8 (.d x) h=none:=zE8
theorem er(f:FuncId)(a c:List AV)(h:AD):B8 (.fn f a c) h=none:=zE8
theorem mR(k:IntKind)(m:Int):FE (.int k m)=true:=rfl
theorem eu(c:Bool):FE (.bool c)=true:=rfl
theorem mV(c:ByteArray):FE (.str c)=true:=rfl
theorem mU(c:List (List Ao)):FE (.bv c)=false:=rfl
theorem e9:FE .wp=true:=rfl
theorem ey:FE .rg=true:=rfl
theorem ew:FE .lc=true:=rfl
theorem ez:FE .wn=true:=rfl
theorem lU(cs:List AV):AV.cells (.agg cs)=cs:=rfl
theorem xe(x:Ao):AV.cells (.d x)=[.d x]:=rfl
theorem eH:AV.cells .d7=[.d7]:=rfl
theorem lV:AV.cells .emp=[.emp]:=rfl
theorem lX(id:Id)(off m:Nat):AV.cells (.f8 id off m)=[.f8 id off m]:=rfl
theorem lY(id:Id)(off:Nat):AV.cells (.ptr id off)=[.ptr id off]:=rfl
theorem eF(id:Id)(k off:Nat):AV.cells (.jp id k off)=[.jp id k off]:=rfl
theorem ru(f:FuncId)(a c:List AV):AV.cells (.fn f a c)=[.fn f a c]:=rfl
theorem ry(id:Id):AV.cells (.mp id)=[.mp id]:=rfl
theorem Zj(t:TypeId)(v:AV):AV.cells (.iface t v)=[.iface t v]:=rfl
theorem eG(c:List Ao):AV.cells (.v6 c)=[.v6 c]:=rfl
theorem uE(x:Ao):AV.isCell (.d x)=true:=rfl
theorem lR:AV.isCell .d7=true:=rfl
theorem rn:AV.isCell .emp=true:=rfl
theorem rp(id:Id)(off m:Nat):AV.isCell (.f8 id off m)=true:=rfl
theorem rq(id:Id)(off:Nat):AV.isCell (.ptr id off)=true:=rfl
theorem lP(id:Id)(k off:Nat):AV.isCell (.jp id k off)=true:=rfl
theorem xc(f:FuncId)(a c:List AV):AV.isCell (.fn f a c)=true:=rfl
theorem xd(id:Id):AV.isCell (.mp id)=true:=rfl
theorem eE(t:TypeId)(v:AV):AV.isCell (.iface t v)=true:=rfl
theorem xG(a c:List AV)(i:TI):IQ .eql (.agg a) (.agg c) (some i)=(JD i.kind (.agg a) (.agg c)).map fun t=>.d (.bool t):=by
 simp only[IQ];cases JD i.kind (.agg a) (.agg c)<;>rfl
theorem ni(a c:List AV)(i:TI):IQ .neq (.agg a) (.agg c) (some i)=(JD i.kind (.agg a) (.agg c)).map fun t=>.d (.bool (!t)):=by
 simp only[IQ];cases JD i.kind (.agg a) (.agg c)<;>rfl
theorem kq(ks:List TK)(a c:List AV):JD (.flat ks) (.agg a) (.agg c)=FV ks a c:=rfl
theorem Zi:FV [] [] []=some true:=rfl
def hH:Option Bool→Option Bool→Option Bool
 |some a,some c=>some (a&&c)
 |_,_=>none
theorem kY(a c:Bool):hH (some a) (some c)=some (a&&c):=rfl
theorem X4(t:TK)(ts:List TK)(x y:AV)(a b:List AV):FV (t::ts) (x::a) (y::b)=hH (Hj t x y) (FV ts a b):=by
 simp only[FV];cases Hj t x y<;>cases FV ts a b<;>rfl
theorem eC(k:IntKind)(a c:Int):Hj .int (.d (.int k a)) (.d (.int k c))=some (decide (a=c)):=by
 simp only[Hj,F7];congr
theorem Zg(a c:Bool):Hj .bool (.d (.bool a)) (.d (.bool c))=some (a==c):=rfl
theorem eD(a c:ByteArray):Hj .str (.d (.str a)) (.d (.str c))=some (a==c):=rfl
theorem mA(a c:ByteArray)(i:TI):IQ .lss (.d (.str a)) (.d (.str c)) (some i)=some (.d (.bool (Op.bytesLess a.toList c.toList))):=by
 exact zCC
theorem AAH(a c:ByteArray)(i:TI):IQ .leq (.d (.str a)) (.d (.str c)) (some i)=some (.d (.bool (Op.bytesLess a.toList c.toList||a.toList==c.toList))):=by
 exact zCC
theorem u5(a c:ByteArray)(i:TI):IQ .eql (.d (.str a)) (.d (.str c)) (some i)=(JD i.kind (.d (.str a)) (.d (.str c))).map fun t=>.d (.bool t):=by
 exact zCC
theorem AAF(a c:Bool)(i:TI):IQ .eql (.d (.bool a)) (.d (.bool c)) (some i)=(JD i.kind (.d (.bool a)) (.d (.bool c))).map fun t=>.d (.bool t):=by
 simp only[IQ];cases JD i.kind (.d (.bool a)) (.d (.bool c))<;>rfl
theorem wk(t:TypeId)(v:AV)(i:TI):IQ .neq (.iface t v) (.d .rg) (some i)=(JD i.kind (.iface t v) (.d .rg)).map fun t=>.d (.bool (!t)):=by
 simp only[IQ];cases JD i.kind (.iface t v) (.d .rg)<;>rfl
theorem nx(v:Value):bK (.const v)=true:=rfl
theorem zD(t:Tmp):bK (.tmp t)=false:=rfl
theorem tm(f:FuncId):bK (.func f)=false:=rfl
theorem xX(c:Bool)(op:BinOp)(x y:AV)(t:Option TI):kv c op x y t=H4 (IQ op x y t) (uz c op x y t):=rfl
theorem vK(v:AV)(r:Option AV):H4 (some v) r=some v:=rfl
theorem vJ(r:Option AV):H4 none r=r:=rfl
def SE:TK→BinOp→Option AV
 |.iface,.eql=>some (.d (.bool true))
 |.iface,.neq=>some (.d (.bool false))
 |_,_=>none
theorem uw:SE .iface .eql=some (.d (.bool true)):=rfl
theorem ux:SE .iface .neq=some (.d (.bool false)):=rfl
theorem vA(op:BinOp)(i:TI):uz true op (.d .rg) (.d .rg) (some i)=SE i.kind op:=by
 obtain⟨k⟩:=i;cases k<;>cases op<;>rfl
theorem ACF(op:BinOp)(i:TI):IQ op (.d .rg) (.d .rg) (some i)=none:=by
 obtain⟨k⟩:=i;cases k<;>cases op<;>rfl
theorem rU(a c:ByteArray):JD .str (.d (.str a)) (.d (.str c))=some (a==c):=rfl
theorem ko(a c:Bool):JD .bool (.d (.bool a)) (.d (.bool c))=some (a==c):=rfl
theorem dv(t:TypeId)(v:AV):JD .iface (.iface t v) (.d .rg)=some false:=rfl
theorem u9(f:FuncId)(a c:List AV)(i:TI):IQ .neq (.fn f a c) (.d .lc) (some i)=(JD i.kind (.fn f a c) (.d .lc)).map fun t=>.d (.bool (!t)):=by
 simp only[IQ];cases JD i.kind (.fn f a c) (.d .lc)<;>rfl
theorem AAG(i:TI):IQ .neq (.d .lc) (.d .lc) (some i)=(JD i.kind (.d .lc) (.d .lc)).map fun t=>.d (.bool (!t)):=by
 simp only[IQ];cases JD i.kind (.d .lc) (.d .lc)<;>rfl
theorem xV(f:FuncId)(a c:List AV):JD .func (.fn f a c) (.d .lc)=some false:=rfl
theorem kr:JD .func (.d .lc) (.d .lc)=some true:=rfl
theorem nG(g:G)(t:TypeId)(v:AV):Y9 g (.iface t v)=FR g (.iface t v):=by simp only[Y9]
theorem yi(g:G)(id:Id)(off:Nat):Y9 g (.ptr id off)=none:=rfl
attribute [go_sem] mA AAH u5 AAF wk nx zD tm xX vK vJ uw ux vA ACF rU ko dv u9 AAG xV kr nG yi
attribute [go_sem] xG ni kq Zi kY X4 eC Zg eD
theorem Hh(a c:Nat):Nat.ble a c=decide (a≤c):=by
 cases h:Nat.ble a c with
 |true=>exact(D1 (Ge h)).symm
 |false=>exact(Ci (fun b=>by rw[RG b]at h;cases h)).symm
theorem Xz(a c:Nat):Nat.blt a c=decide (a<c):=Hh (a+1) c
theorem Il(a c:Nat):Nat.beq a c=decide (a=c):=by
 cases h:Nat.beq a c with
 |true=>exact(D1 (D8 h)).symm
 |false=>exact(Ci (Qr h)).symm
theorem RL{a:Nat}(h:a≤1073741824):(a≤BG)=True:=eq_true zEs
attribute [go_sem] Hh Xz RL Hl List.replicate_succ List.replicate_zero List.flatten_cons List.flatten_nil Bool.and_self
theorem cJ(t:TypeId)(a:AV)(c:flat (.iface t a)=true):Bt C K fr ops b n al l i Q (HB ⟨e,h,bs,ds⟩ (.iface t a))=(al i=true∧Q (.ge (.iface t a)) ⟨e,h,b+n,ds⟩):=by
 simp only[HB,c,Bt]
def Cg(v:AV)(t:Bool):E (Ax×AD):=if t=true then .ok (.ret (.ii []),[])else .ok (.ge v,[])
theorem MX(v:AV):Cg v true=.ok (.ret (.ii []),[]):=rfl
theorem K3(v:AV):Cg v false=.ok (.ge v,[]):=rfl
variable{az:List AV}{t:Bool}
theorem hZ{v:AV}(a:t=true→EJ C K fr ops b n al l i az dst e h bs ds Q (Cg v true))(h2:t=false→EJ C K fr ops b n al l i az dst e h bs ds Q (Cg v false)):EJ C K fr ops b n al l i az dst e h bs ds Q (Cg v t):=by
 exact zCO
theorem cU{v:AV}{p:Prop} [Decidable p](c:p→EJ C K fr ops b n al l i az dst e h bs ds Q (Cg v true))(h2: ¬p→EJ C K fr ops b n al l i az dst e h bs ds Q (Cg v false)):EJ C K fr ops b n al l i az dst e h bs ds Q (Cg v (decide p)):=by
 exact zBC
attribute [go_sem] Nat.add_assoc
attribute [go_sem] zZ zY Prod.mk.injEq cJ MX K3 pT pS
attribute [go_sem] z1 AAM wz AAQ z4 xk qS cy p9 wC wB VM dx dw ZZ eO Zo vI pF zg nd nP nZ nR tx tQ ABW yk ADE ym YP nX yv fQ yl y3 yp tP fP nK tR ay tS aq yu an ao yq nJ nH yr yo yw rh nD Na gl pY pX q8 yE m2 yD mH yJ yI yF yG yH get_cons fV bC Dx PH Kv SQ Kx DJ MR Jw HS pD j9 FU OH Di MQ J5 HZ cB cC y9 zA oO VY KP Cj Kj Gv mE n7 lx ACw pz tv ACv ACu oi ACr ACy dR sW Z1 sV oA UK ff fe wq wo wm nF pr vj pq po Ve Uz uR oU nU nT fU yj ADB yd tM ye yh Pr lf decide_true decide_false Bool.not_true Bool.not_false xB l6 ee gP ou hP Option.isSome_some lU xe eH lV lX lY eF ru ry Zj eG uE lR rn rp rq lP xc xd eE FI DN puts_cons puts_nil kC cW td CK is_self zE bM bL AAP Yc ft oJ oI N0 lO eA Ox X0 IB Lj rF Fw vf Ub qL qK ren Fc Fe Dy FA AE BB List.any_nil List.any_cons Bool.or_false Bool.false_or Bool.or_true Bool.true_or Bool.false_and Bool.and_false Int.toNat_natCast Int.natCast_nonneg List.getElem?_map List.getElem?_nil ua me tB n6 mg tF tH ya tI yZ tG mw fO my mh ab aa fJ fL fK ah tK mq m1 sw mc s5 s8 yY tA yX s7 aR aU sa mb sn sk sr so sq aH aI mY yT mX mZ fA yV yU aD Z7 Z9 et mO er List.flatMap_cons List.flatMap_nil mR eu mV mU e9 ey ew ez List.foldl_cons List.foldl_nil List.map_cons List.map_nil List.length_cons List.length_nil List.length_map List.length_append List.length_singleton List.append_assoc List.all_cons List.all_nil Option.map_some Option.bind_some List.getElem?_cons_zero List.getElem?_cons_succ List.take_succ_cons List.take_zero List.drop_succ_cons List.drop_zero List.append_nil List.nil_append List.cons_append List.size_toArray Bool.and_true Bool.true_and true_and and_true
variable{P:Program}{C:DD}{K:Ab}{fr:Fr}{b n i:Nat}{Q:Ea→St→Prop}
variable{ops:Array Oper}{al:Nat→Bool}{l:List Oper}{e:CB}{h:AD}{bs:Nat}{ds:List Df}{ps:List (Nat×Nat)}{fps:List Fp}
def Cd(C:DD)(K:Ab)(fr:Fr)(ops:Array Oper)(b n:Nat)(al:Nat→Bool)(ps:List (Nat×Nat))(fps:List Fp)(l:List Oper)(i:Nat)(Q:Ea→St→Prop):H9→Prop
 |.ok st fp=>Hb C K fr ops b n al ps (fps++[fp]) l (i+1) st Q
 |.ge v st=>al i=true∧EZ fps ps=true∧Q (.ge v) {st with base:=b+n}
 |.err _=>False
def EG(C:DD)(K:Ab)(fr:Fr)(ops:Array Oper)(b n:Nat)(al:Nat→Bool)(ps:List (Nat×Nat))(fps:List Fp)(l:List Oper)(i:Nat)(dst:Option Tmp)(e:CB)(h:AD)(bs:Nat)(ds:List Df)(Q:Ea→St→Prop)(rd:List Id):Option Cx→Prop
 |some x=>K4 fr.ci x.δ=true∧Hb C K fr ops b n al ps (fps++[⟨some rd,some (x.δ.map (·.1))⟩]) l (i+1) ⟨DC e dst x.v,h.puts x.δ,bs,ds⟩ Q
 |none=>False
theorem vH:Hb C K fr ops b n al ps fps [] i ⟨e,h,bs,ds⟩ Q=(EZ fps ps=true∧Q .normal ⟨e,h,b+n,ds⟩):=by
 simp only[Hb,Dk,CI]
theorem XJ(o:Oper)(st:St):Hb C K fr ops b n al ps fps (o::l) i st Q=Cd C K fr ops b n al ps fps l i Q (C5 C K fr ops ((b+i)::fr.π) o st):=by
 unfold Hb;simp only[Dk,Iv];cases g:C5 C K fr ops ((b+i)::fr.π) o st with
 |err e=>rfl
 |ge v st'=>
  simp only[Cd];cases al i<;>simp
 |ok st' a=>
  simp only[Cd,Hb];cases f:Dk C K fr ops b al l (i+1) st' with
  |err e=>rfl
  |ok r=>
   obtain⟨⟨o,h⟩,c⟩:=r;cases o<;>simp only[X5,Dl,DL,Bi]
def ED(C:DD)(K:Ab)(fr:Fr)(ops:Array Oper)(b n:Nat)(al:Nat→Bool)(ps:List (Nat×Nat))(fps:List Fp)(l:List Oper)(i:Nat)(dst:Option Tmp)(op:Op)(st:St)(want:Bool)(Q:Ea→St→Prop):AV→Prop
 |.d (.bool t)=>match t==want with
  |true=>Cd C K fr ops b n al ps fps l i Q (Bc C K fr ((b+i)::fr.π) op dst st)
  |false=>Hb C K fr ops b n al ps (fps++[⟨some [],some []⟩]) l (i+1) {st with env:=DC st.env dst (.ii [])} Q
 |.ii []=>Hb C K fr ops b n al ps (fps++[⟨some [],some []⟩]) l (i+1) {st with env:=DC st.env dst (.ii [])} Q
 |_=>False
theorem vR(dst:Option Tmp)(op:Op)(ty:TypeId)(pos:String)(af:Array Edge)(j:Nat)(want:Bool):
 Hb C K fr ops b n al ps fps (⟨dst,op,ty,pos,af,some (j,want)⟩::l) i ⟨e,h,bs,ds⟩ Q=ED C K fr ops b n al ps fps l i dst op ⟨e,h,bs,ds⟩ want Q (RJ ops e j):=by
 rw[XJ];simp only[C5,N9,RJ];cases f:ops[j]? with
 |none=>simp[MI,ED,Cd]
 |some o=>
  cases a:o.dst with
  |none=>simp[MI,ED,Cd,a]
  |some t=>
   simp only[I2,a,F3,MI];cases g:CB.get e t with
   |d x=>cases x with
    |bool c=>
     simp only[ED];cases(c==want)<;>simp only[Cd,Bb]
    |_=>rfl
   |ii vs=>cases vs<;>simp only[ED,Cd,Bb]
   |_=>rfl
theorem nn(dst:Option Tmp)(op:Op)(st:St):ED C K fr ops b n al ps fps l i dst op st true Q (.d (.bool true))=Cd C K fr ops b n al ps fps l i Q (Bc C K fr ((b+i)::fr.π) op dst st):=rfl
theorem nf(dst:Option Tmp)(op:Op)(st:St):ED C K fr ops b n al ps fps l i dst op st false Q (.d (.bool false))=Cd C K fr ops b n al ps fps l i Q (Bc C K fr ((b+i)::fr.π) op dst st):=rfl
theorem nk(dst:Option Tmp)(op:Op):ED C K fr ops b n al ps fps l i dst op ⟨e,h,bs,ds⟩ true Q (.d (.bool false))=Hb C K fr ops b n al ps (fps++[⟨some [],some []⟩]) l (i+1) ⟨DC e dst (.ii []),h,bs,ds⟩ Q:=rfl
theorem nh(dst:Option Tmp)(op:Op):ED C K fr ops b n al ps fps l i dst op ⟨e,h,bs,ds⟩ false Q (.d (.bool true))=Hb C K fr ops b n al ps (fps++[⟨some [],some []⟩]) l (i+1) ⟨DC e dst (.ii []),h,bs,ds⟩ Q:=rfl
theorem fX(dst:Option Tmp)(op:Op)(want:Bool):ED C K fr ops b n al ps fps l i dst op ⟨e,h,bs,ds⟩ want Q (.ii [])=Hb C K fr ops b n al ps (fps++[⟨some [],some []⟩]) l (i+1) ⟨DC e dst (.ii []),h,bs,ds⟩ Q:=rfl
theorem YT{op:Op}(a:t=true→ED C K fr ops b n al ps fps l i dst op st want Q (.d (.bool true)))(h2:t=false→ED C K fr ops b n al ps fps l i dst op st want Q (.d (.bool false))):ED C K fr ops b n al ps fps l i dst op st want Q (.d (.bool t)):=by
 exact zCO
theorem fW{op:Op}{p:Prop} [Decidable p](c:p→ED C K fr ops b n al ps fps l i dst op st want Q (.d (.bool true)))(h2: ¬p→ED C K fr ops b n al ps fps l i dst op st want Q (.d (.bool false))):ED C K fr ops b n al ps fps l i dst op st want Q (.d (.bool (decide p))):=by
 exact zBC
theorem nj(dst:Option Tmp)(op:Op)(st:St)(t:Bool):ED C K fr ops b n al ps fps l i dst op st false Q (.d (.bool (!t)))=ED C K fr ops b n al ps fps l i dst op st true Q (.d (.bool t)):=by
 cases t<;>rfl
theorem pE(dst:Option Tmp)(op:Op)(ty:TypeId)(pos:String)(af:Array Edge)(st:St):
 Hb C K fr ops b n al ps fps (⟨dst,op,ty,pos,af,none⟩::l) i st Q=Cd C K fr ops b n al ps fps l i Q (Bc C K fr ((b+i)::fr.π) op dst st):=by
 rw[XJ];simp only[C5,N9]
theorem CJ(dst:Option Tmp)(op:Op)(r:Option Cx):Cd C K fr ops b n al ps fps l i Q (EC fr op dst ⟨e,h,bs,ds⟩ r)=EG C K fr ops b n al ps fps l i dst e h bs ds Q (GZ e.get h.get op) r:=by
 cases r with
 |none=>rfl
 |some x=>
  simp only[EC,EG,K9,CQ,Bb];cases a:K4 fr.ci x.δ with
  |false=>simp[Cd]
  |true=>
   simp only[UN,NF,Cd]
theorem NZ(dst:Option Tmp)(v:AV)(a:List Id):EG C K fr ops b n al ps fps l i dst e h bs ds Q a (some ⟨v,[]⟩)=Hb C K fr ops b n al ps (fps++[⟨some a,some []⟩]) l (i+1) ⟨DC e dst v,h,bs,ds⟩ Q:=by
 have:K4 fr.ci []=true:=by cases c:fr.ci<;>rfl
 simp only[EG,this,UN];rfl
theorem gk(dst:Option Tmp)(v:AV)(x:Id×Obj)(δ:AD)(a:List Id):EG C K fr ops b n al ps fps l i dst e h bs ds Q a (some ⟨v,x::δ⟩)=(K4 fr.ci (x::δ)=true∧Hb C K fr ops b n al ps (fps++[⟨some a,some (x.1::δ.map (·.1))⟩]) l (i+1) ⟨DC e dst v,h.puts (x::δ),bs,ds⟩ Q):=rfl
section
variable(dst:Option Tmp)(ρ:List Nat)
theorem l0(x:Operand):Cd C K fr ops b n al ps fps l i Q (Bc C K fr ρ (.move x) dst ⟨e,h,bs,ds⟩)=Hb C K fr ops b n al ps (fps++[⟨some [],some []⟩]) l (i+1) ⟨DC e dst (ev e.get x),h,bs,ds⟩ Q:=by
 simp only[Bc,evalOp,CJ,NZ,GZ]
theorem se(x:Operand):Cd C K fr ops b n al ps fps l i Q (Bc C K fr ρ (.assign x) dst ⟨e,h,bs,ds⟩)=Hb C K fr ops b n al ps (fps++[⟨some [],some []⟩]) l (i+1) ⟨DC e dst (ev e.get x),h,bs,ds⟩ Q:=by
 simp only[Bc,evalOp,CJ,NZ,GZ]
theorem p4(c x y:Operand):Cd C K fr ops b n al ps fps l i Q (Bc C K fr ρ (.pick c x y) dst ⟨e,h,bs,ds⟩)=EG C K fr ops b n al ps fps l i dst e h bs ds Q ([]) (PH (ev e.get c) (ev e.get x) (ev e.get y)):=by
 exact zAX
theorem yM(t:TypeId):Cd C K fr ops b n al ps fps l i Q (Bc C K fr ρ (.alloc t) dst ⟨e,h,bs,ds⟩)=EG C K fr ops b n al ps fps l i dst e h bs ds Q ([]) (Kv ρ (C.T t)):=by
 exact zAX
theorem ri(t:TypeId)(x:Operand):Cd C K fr ops b n al ps fps l i Q (Bc C K fr ρ (.box t x) dst ⟨e,h,bs,ds⟩)=EG C K fr ops b n al ps fps l i dst e h bs ds Q ([]) (SQ ρ (ev e.get x) (C.T t)):=by
 exact zAX
theorem yO(t:TypeId)(p:Array (Nat×Operand)):Cd C K fr ops b n al ps fps l i Q (Bc C K fr ρ (.build t p) dst ⟨e,h,bs,ds⟩)=EG C K fr ops b n al ps fps l i dst e h bs ds Q ([]) (Kx (FI e.get p) (C.T t)):=by
 exact zAX
theorem YK(t:TypeId)(m:Nat)(p:Array (Nat×Operand)):Cd C K fr ops b n al ps fps l i Q (Bc C K fr ρ (.buildSlice t m p) dst ⟨e,h,bs,ds⟩)=EG C K fr ops b n al ps fps l i dst e h bs ds Q (GZ e.get h.get (.buildSlice t m p)) (DJ C.T h.get ρ m (FI e.get p) (C.T t)):=by
 simp only[Bc,evalOp,CJ]
theorem ABK(t:TypeId)(a:Operand):Cd C K fr ops b n al ps fps l i Q (Bc C K fr ρ (.load t a) dst ⟨e,h,bs,ds⟩)=EG C K fr ops b n al ps fps l i dst e h bs ds Q (AE (ev e.get a)) (MR h.get (ev e.get a) (C.T t)):=by
 exact zAX
theorem yR(t:TypeId)(a x:Operand):Cd C K fr ops b n al ps fps l i Q (Bc C K fr ρ (.store t a x) dst ⟨e,h,bs,ds⟩)=EG C K fr ops b n al ps fps l i dst e h bs ds Q (AE (ev e.get a)++AE (ev e.get x)) (Jw h.get (ev e.get a) (ev e.get x) (C.T t)):=by
 exact zAX
theorem eo(x:Operand):Cd C K fr ops b n al ps fps l i Q (Bc C K fr ρ (.nilCheck x) dst ⟨e,h,bs,ds⟩)=EG C K fr ops b n al ps fps l i dst e h bs ds Q ([]) (HS (ev e.get x)):=by
 exact zAX
theorem yN(op:BinOp)(t:TypeId)(x y:Operand)(u:TypeId):Cd C K fr ops b n al ps fps l i Q (Bc C K fr ρ (.binOp op t x y u) dst ⟨e,h,bs,ds⟩)=EG C K fr ops b n al ps fps l i dst e h bs ds Q ([]) ((kv (bK x||bK y) op (ev e.get x) (ev e.get y) (C.T t)).map (⟨·,[]⟩)):=by
 exact zAX
theorem ei(f:Fn)(first cap:Array Operand):Cd C K fr ops b n al ps fps l i Q (Bc C K fr ρ (.makeFunc f first cap) dst ⟨e,h,bs,ds⟩)=EG C K fr ops b n al ps fps l i dst e h bs ds Q ([]) (HQ f (first.toList.map (ev e.get)) (cap.toList.map (ev e.get))):=by
 exact zAX
theorem Z6(t:TypeId)(x y:Operand):Cd C K fr ops b n al ps fps l i Q (Bc C K fr ρ (.makeSlice t x y) dst ⟨e,h,bs,ds⟩)=EG C K fr ops b n al ps fps l i dst e h bs ds Q ([]) (DT C.T h.get ρ (ev e.get x) (ev e.get y) (C.T t)):=by
 exact zAX
theorem yQ(t:TypeId)(x:Operand)(c a f:Option Operand):Cd C K fr ops b n al ps fps l i Q (Bc C K fr ρ (.slice t x c a f) dst ⟨e,h,bs,ds⟩)=EG C K fr ops b n al ps fps l i dst e h bs ds Q (GZ e.get h.get (.slice t x c a f)) (Ht C.T h.get (ev e.get x) (c.map (ev e.get)) (a.map (ev e.get)) (f.map (ev e.get)) (C.T t)):=by
 simp only[Bc,evalOp,CJ]
theorem Z4(t:TypeId)(x:Operand)(k:Nat):Cd C K fr ops b n al ps fps l i Q (Bc C K fr ρ (.fieldAddr t x k) dst ⟨e,h,bs,ds⟩)=EG C K fr ops b n al ps fps l i dst e h bs ds Q ([]) (FU k (ev e.get x) (C.T t)):=by
 exact zAX
theorem Z5(t:TypeId)(x y:Operand):Cd C K fr ops b n al ps fps l i Q (Bc C K fr ρ (.indexAddr t x y) dst ⟨e,h,bs,ds⟩)=EG C K fr ops b n al ps fps l i dst e h bs ds Q (AE (ev e.get x)++AE (ev e.get y)) (Di C.T h.get (ev e.get x) (ev e.get y) (C.T t)):=by
 exact zAX
theorem mN(f:Builtin)(az:Array Operand)(ts:Array TypeId):Cd C K fr ops b n al ps fps l i Q (Bc C K fr ρ (.call ⟨.builtin f,az,ts⟩) dst ⟨e,h,bs,ds⟩)=EG C K fr ops b n al ps fps l i dst e h bs ds Q (GZ e.get h.get (.call ⟨.builtin f,az,ts⟩)) (HZ C.T h.get ρ f (az.toList.map (ev e.get)) ts.toList):=by
 simp only[Bc,LF,CJ]
theorem yP(x:Operand):Cd C K fr ops b n al ps fps l i Q (Bc C K fr ρ (.panic x) dst ⟨e,h,bs,ds⟩)=Cd C K fr ops b n al ps fps l i Q (HB ⟨e,h,bs,ds⟩ (ev e.get x)):=rfl
def EI(C:DD)(K:Ab)(fr:Fr)(ops:Array Oper)(b n:Nat)(al:Nat→Bool)(ps:List (Nat×Nat))(fps:List Fp)(l:List Oper)(i:Nat)(az:List AV)(dst:Option Tmp)(e:CB)(h:AD)(bs:Nat)(ds:List Df)(Q:Ea→St→Prop)(r:E (Ax×AD)):Prop:=
 Cd C K fr ops b n al ps fps l i Q (EH fr az dst ⟨e,h,bs,ds⟩ r)
def Zb(C:DD)(K:Ab)(fr:Fr)(ops:Array Oper)(b n:Nat)(al:Nat→Bool)(ps:List (Nat×Nat))(fps:List Fp)(l:List Oper)(i:Nat)(dst:Option Tmp)(ρ:List Nat)(e:CB)(h:AD)(bs:Nat)(ds:List Df)(Q:Ea→St→Prop)(args:List AV):AV→Prop
 |fv=>Cd C K fr ops b n al ps fps l i Q (E4 C K fr ρ fv args dst ⟨e,h,bs,ds⟩)
theorem yS(f:Operand)(az:Array Operand)(ts:Array TypeId):Cd C K fr ops b n al ps fps l i Q (Bc C K fr ρ (.call ⟨.value f,az,ts⟩) dst ⟨e,h,bs,ds⟩)=Zb C K fr ops b n al ps fps l i dst ρ e h bs ds Q (az.toList.map (ev e.get)) (ev e.get f):=rfl
def Me(C:DD)(K:Ab)(fr:Fr)(ops:Array Oper)(b n:Nat)(al:Nat→Bool)(ps:List (Nat×Nat))(fps:List Fp)(l:List Oper)(i:Nat)(dst:Option Tmp)(ρ:List Nat)(e:CB)(h:AD)(bs:Nat)(ds:List Df)(Q:Ea→St→Prop)(f:FuncId)(az:List AV)(m:Mode):Prop:=
 Cd C K fr ops b n al ps fps l i Q (ER K fr ρ f az dst ⟨e,h,bs,ds⟩ m)
theorem re(f:FuncId)(first cap args:List AV):Zb C K fr ops b n al ps fps l i dst ρ e h bs ds Q args (.fn f first cap)=Me C K fr ops b n al ps fps l i dst ρ e h bs ds Q f (first++args++cap) (C.mode f):=by
 simp only[Zb,Me,E4,Bk]
def mm(C:DD)(K:Ab)(fr:Fr)(ops:Array Oper)(b n:Nat)(al:Nat→Bool)(ps:List (Nat×Nat))(fps:List Fp)(l:List Oper)(i:Nat)(dst:Option Tmp)(e:CB)(h:AD)(bs:Nat)(ds:List Df)(Q:Ea→St→Prop)(f:FuncId)(az:List AV)(own:List Nat):Option (List AV)→Prop
 |some xs=>EI C K fr ops b n al ps fps l i az dst e h bs ds Q (K (.fn f) xs [] own false none)
 |none=>False
theorem gM(f:FuncId)(az:List AV)(a:(Ej h.get az).isSome):Me C K fr ops b n al ps fps l i dst ρ e h bs ds Q f az .auto=mm C K fr ops b n al ps fps l i dst e h bs ds Q f az [] (Ej h.get az):=by
 obtain⟨c,a⟩:=I5.1 a;simp only[Me,ER,a,Bk,mm,EI]
theorem oq(f:FuncId)(az:List AV)(a:(Ej h.get az).isSome):Me C K fr ops b n al ps fps l i dst ρ e h bs ds Q f az .own=mm C K fr ops b n al ps fps l i dst e h bs ds Q f az ρ (Ej h.get az):=by
 obtain⟨c,a⟩:=I5.1 a;simp only[Me,ER,a,Bk,mm,EI]
theorem mn(f:FuncId)(az:List AV)(own:List Nat)(a:List AV):mm C K fr ops b n al ps fps l i dst e h bs ds Q f az own (some a)=EI C K fr ops b n al ps fps l i az dst e h bs ds Q (BU K f a own):=by
 simp only[mm,EI,SW]
theorem gq(az:List AV)(v:AV)(h':AD)(a:flat v=true):EI C K fr ops b n al ps fps l i az dst e h bs ds Q (.ok (.ret v,h'))=Hb C K fr ops b n al ps (fps++[⟨some (DU h.get (BB az)),some []⟩]) l (i+1) ⟨DC e dst v,h,bs,ds⟩ Q:=by
 simp only[EI,EH,Bb,a,Cd]
theorem XP(az:List AV)(v:AV)(h':AD)(a:flat v=true):EI C K fr ops b n al ps fps l i az dst e h bs ds Q (.ok (.ge v,h'))=(al i=true∧EZ fps ps=true∧Q (.ge v) ⟨e,h,b+n,ds⟩):=by
 simp only[EI,EH,a,Cd]
theorem pQ(az:List AV)(v:AV)(h':AD)(x:Id×Obj)(a:flat v=false)(c:B8 v h'=some x):EI C K fr ops b n al ps fps l i az dst e h bs ds Q (.ok (.ret v,h'))=Hb C K fr ops b n al ps (fps++[⟨some (DU h.get (BB az)),some [x.1]⟩]) l (i+1) ⟨DC e dst v,x::h,bs,ds⟩ Q:=by
 simp only[EI,EH,Bb,a,Iy,c,A9,Cd]
theorem XO(az:List AV)(v:AV)(h':AD)(a:flat v=false)(c:B8 v h'=none):EI C K fr ops b n al ps fps l i az dst e h bs ds Q (.ok (.ret v,h'))=(K4 fr.ci (az.flatMap (mark h.get))=true∧Hb C K fr ops b n al ps (fps++[⟨some (DU h.get (BB az)),some ((az.flatMap (mark h.get)).map (·.1)++h'.map (·.1))⟩]) l (i+1) ⟨DC e dst v,h'++h.puts (az.flatMap (mark h.get)),bs,ds⟩ Q):=by
 simp only[EI,EH,Bb,a,Iy,c,A9,CQ];cases f:K4 fr.ci (az.flatMap (mark h.get))<;>simp[Cd]
end
variable{α:Type}{f:α→List Ao}{sz:Nat}{dst:Option Tmp}
theorem pJ{a:List α}{j:Nat}{g:List Id}(c:j<a.length)(k: ∀x,a[j]? =some x→EG C K fr ops b n al ps fps l i dst e h bs ds Q g (UR sz (some (f x)))):EG C K fr ops b n al ps fps l i dst e h bs ds Q g (UR sz (Option.map f a[j]?)):=by
 have:=k a[j] (Bv c)
 rwa [Bv c]
theorem cH(fps:List Fp):EZ fps []=true:=rfl
def rJ:Option Fp→Option Fp→Bool
 |some a,some c=>a.apart c
 |_,_=>true
theorem ZO(a c:Fp):rJ (some a) (some c)=a.apart c:=rfl
theorem Ym(fps:List Fp)(i j:Nat)(l:List (Nat×Nat)):EZ fps ((i,j)::l)=(rJ fps[i]? fps[j]? &&EZ fps l):=by
 simp only[EZ,D9];rfl
theorem Zu(g:G):DU g []=[]:=rfl
theorem kZ(x:Option (List Id)):Abs.apart (some []) x=true:=by cases x<;>simp[Abs.apart]
theorem dp(x:Option (List Id)):Abs.apart x (some [])=true:=by
 unfold Abs.apart;split<;>first|rfl|simp_all
theorem Vd(g:G)(e:Nat→AV)(t:TypeId)(m:Nat)(p:Array (Nat×Operand)):GZ e g (.buildSlice t m p)=(p.toList.map (·.2)).flatMap fun y=>AE (ev e y):=by
 simp only[GZ,Ep,Op.operands]
theorem ve(g:G)(e:Nat→AV)(t:TypeId)(x:Operand)(b a c:Option Operand):GZ e g (.slice t x b a c)=(x::(b.toList++a.toList++c.toList)).flatMap fun y=>AE (ev e y):=by
 simp[GZ,Ep,Op.operands]
theorem q0(g:G)(e:Nat→AV)(az:Array Operand)(ts:Array TypeId):GZ e g (.call ⟨.builtin .len,az,ts⟩)=az.toList.flatMap fun y=>AE (ev e y):=by
 simp[GZ,Ep,Op.operands,Call.operands]
theorem pd(g:G)(e:Nat→AV)(az:Array Operand)(ts:Array TypeId):GZ e g (.call ⟨.builtin .append,az,ts⟩)=DU g (az.toList.flatMap fun y=>AE (ev e y)):=by
 simp[GZ,Ep,Op.operands,Call.operands]
theorem AB0(g:G)(e:Nat→AV)(az:Array Operand)(ts:Array TypeId):GZ e g (.call ⟨.builtin .max,az,ts⟩)=[]:=rfl
theorem m9(g:G)(e:Nat→AV)(az:Array Operand)(ts:Array TypeId):GZ e g (.call ⟨.builtin .min,az,ts⟩)=[]:=rfl
attribute [go_sem] XP XO
attribute [go_sem] vH vR nn nf nk nh nj fX pE NZ gk l0 se p4 yM ri yO YK ABK yR eo yN ei Z6 yQ Z4 Z5 mN yP yS re gM oq mn gq cH ZO Ym Zu kZ dp Vd ve q0 pd AB0 m9 Fp.apart List.flatMap_cons List.flatMap_nil
variable{P:Program}{C:DD}{K:Ab}{fr:Fr}{b n i:Nat}{Q:Ea→St→Prop}
variable{ops:Array Oper}{al:Nat→Bool}{l:List Oper}{e:CB}{h:AD}{bs:Nat}{ds:List Df}
theorem is_iff: ∀{a b:Id},Id.is a b=true↔a=b:=fun{a b}=>⟨Id.is_eq,fun h=>by subst h;exact is_self a⟩
theorem AF{a b:Id}(h:a≠b):Id.is a b=false:=by
 cases c:Id.is a b with
 |false=>rfl
 |true=>exact absurd (is_iff.1 c) h
theorem Fk{c:AD}{a b:Id}{g i:Option Obj}(f:c.get a=g)(h2:c.get b=i)(h:g=i→False:=by intro h;cases h):Id.is a b=false:=AF fun e=>by
 rw[e,h2]at f;exact h f.symm
variable{ρ:Id}
theorem under_iff: ∀{id:Id},Id.under ρ id=true↔ρ<:+id
 |[]=>by
  simp only[Id.under,is_iff,List.suffix_nil]
 |m::l=>by
  rw[It];unfold Id.under;cases a:Id.is ρ (m::l)with
  |true=>simp[is_iff.1 a]
  |false=>
   have:ρ≠m::l:=fun h=>by rw[is_iff.2 h]at a;cases a
   simp only[this,false_or];exact under_iff
theorem Ev{id:Id}(h: ¬ρ<:+id):Id.under ρ id=false:=by
 cases a:Id.under ρ id with
 |false=>rfl
 |true=>exact absurd (under_iff.1 a) h
theorem get_put(h:AD)(id:Id)(o:Obj)(c:Id):AD.get (AD.put h id o) c=if Id.is id c=true then some o else AD.get h c:=by
 induction h with
 |nil=>simp only[kC,CK]
 |cons p h e=>
  obtain⟨k,x⟩:=p;rw[cW];by_cases b:Id.is k id=true
  .rw[D5 b,CK,CK];have:=is_iff.1 b;subst this;split<;>rfl
  .rw[Co b,CK,CK,e];by_cases a:Id.is k c=true
   .rw[D5 a,D5 a];have:=is_iff.1 a;subst this;rw[Co fun h2=>b (is_iff.2 (is_iff.1 h2).symm)]
   .rw[Co a,Co a]
theorem UC(q:Id→Bool)(h:AD)(id:Id)(b:q id=true):AD.get (List.filter (fun p=>q p.1) h) id=AD.get h id:=by
 induction h with
 |nil=>rfl
 |cons p h c=>
  obtain⟨k,x⟩:=p;rw[CK,Rw];by_cases a:Id.is k id=true
  .have:=is_iff.1 a;subst this;simp only[b,F7,CK,a]
  .rw[Co a,←c];split
   .rw[CK,Co a]
   .rfl
theorem Ah(ρ:List Nat)(h:AD)(id:Id)(b:Id.under ρ id=false):AD.get (gc ρ h) id=AD.get h id:=by
 refine UC (fun id=>match id with|0::l=> !Id.under ρ l|_=>true) h id ?_
 split
 .rename_i l;have: ¬ρ<:+l:=fun a=>by
   have:=under_iff.2 (a.trans (F5 0 l));rw[b]at this;cases this
  rw[Ev this];rfl
 .rfl
def Vc(C:DD)(K:Ab)(fr:Fr)(ops:Array Oper)(b n:Nat)(al:Nat→Bool)(l:List Oper)(i:Nat)(dst:Option Tmp)(ρ:List Nat)(e:CB)(h:AD)(bs:Nat)(ds:List Df)(Q:Ea→St→Prop):E (Ax×AD)→Prop
 |.ok (.ret v,h')=>Gy C K fr ops b n al l (i+1) ⟨DC e dst v,gc ρ h',bs,ds⟩ Q
 |.ok (.ge v,h')=>al i=true∧Q (.ge v) ⟨e,gc ρ h',b+n,ds⟩
 |.err _=>False
theorem Ry(dst:Option Tmp)(ρ:List Nat)(r:E (Ax×AD)):Bt C K fr ops b n al l i Q (FB ρ dst ⟨e,h,bs,ds⟩ r)=Vc C K fr ops b n al l i dst ρ e h bs ds Q r:=by
 cases r with
 |err l=>rfl
 |ok r=>
  obtain⟨o,h'⟩:=r;cases o<;>simp only[FB,Bb,A9,Bt,Vc]
theorem vY(dst:Option Tmp)(ρ:List Nat)(v:AV)(h':AD):Vc C K fr ops b n al l i dst ρ e h bs ds Q (.ok (.ret v,h'))=Gy C K fr ops b n al l (i+1) ⟨DC e dst v,gc ρ h',bs,ds⟩ Q:=rfl
theorem vX(dst:Option Tmp)(ρ:List Nat)(v:AV)(h':AD):Vc C K fr ops b n al l i dst ρ e h bs ds Q (.ok (.ge v,h'))=(al i=true∧Q (.ge v) ⟨e,gc ρ h',b+n,ds⟩):=rfl
theorem o5(dst:Option Tmp)(ρ:List Nat)(f:FuncId)(az:List AV):Mf C K fr ops b n al l i dst ρ e h bs ds Q f az .raw=Vc C K fr ops b n al l i dst ρ e h bs ds Q (K (.fn f) az h ρ true fr.ci):=by
 simp only[Mf,ER,Ry]
theorem Ad{Post:Ax→AD→Prop}{ρ:List Nat}{q:E (Ax×AD)}(a: ∃o h',q=.ok (o,h')∧Post o h')(c: ∀o h',Post o h'→Vc C K fr ops b n al l i dst ρ e h bs ds Q (.ok (o,h'))):Vc C K fr ops b n al l i dst ρ e h bs ds Q q:=by
 exact zCJ
def wa(v:AV):Option AV→AV
 |some u=>u
 |none=>v
theorem wb(g:G):Nq g []=[]:=rfl
theorem qM(g:G)(v:AV)(vs:List AV):Nq g (v::vs)=wa v (FR g v)::Nq g vs:=by
 simp only[Nq,CO];cases FR g v<;>rfl
theorem iy(v u:AV):wa v (some u)=u:=rfl
theorem iw(v:AV):wa v none=v:=rfl
theorem gR(dst:Option Tmp)(ρ:List Nat)(f:FuncId)(az:List AV)(a:(Ej h.get az).isNone):Mf C K fr ops b n al l i dst ρ e h bs ds Q f az .auto=(K4 fr.ci (az.flatMap (mark h.get))=true∧Vc C K fr ops b n al l i dst ρ e h bs ds Q (K (.fn f) (Nq h.get az) (h.puts (az.flatMap (mark h.get))) ρ true fr.ci)):=by
 have a:Ej h.get az=none:=zEg
 simp only[Mf,ER,a,GP,Bk,CQ,A9];cases c:K4 fr.ci (az.flatMap (mark h.get))with
 |true=>simp only[Ry,UN]
 |false=>simp[Bt]
def B2(C:DD)(K:Ab)(fr:Fr)(ops:Array Oper)(b n:Nat)(al:Nat→Bool)(l:List Oper)(i:Nat)(dst:Option Tmp)(e:CB)(h:AD)(bs:Nat)(ds:List Df)(Q:Ea→St→Prop):E (Ax×AD)→Prop
 |.ok (.ret v,_)=>flat v=true∧Gy C K fr ops b n al l (i+1) ⟨DC e dst v,h,bs,ds⟩ Q
 |.ok (.ge v,_)=>flat v=true∧al i=true∧Q (.ge v) ⟨e,h,b+n,ds⟩
 |.err _=>False
theorem uj(dst:Option Tmp)(ρ:List Nat)(f:FuncId)(az:List AV)(a:(Ej h.get az).isNone):Mf C K fr ops b n al l i dst ρ e h bs ds Q f az .ro=B2 C K fr ops b n al l i dst e h bs ds Q (K (.fn f) (Nq h.get az) (h.puts (az.flatMap (mark h.get))) ρ true (some ρ)):=by
 have a:Ej h.get az=none:=zEg
 simp only[Mf,ER,a,GP,Bk,CQ,A9];cases K (.fn f) (Nq h.get az) (h.puts (az.flatMap (mark h.get))) ρ true (some ρ)with
 |err l=>rfl
 |ok r=>
  obtain⟨o,h'⟩:=r;cases o<;>simp only[Qi,B2,Bb]<;>split<;>simp_all [Bt]
theorem k9(g:G)(x:Ao):mark g (.d x)=[]:=rfl
theorem oh(g:G):mark g .d7=[]:=rfl
theorem uc(g:G):mark g .emp=[]:=rfl
theorem uf(g:G)(id:Id)(off:Nat):mark g (.ptr id off)=[]:=rfl
theorem zP(g:G)(f:FuncId)(a c:List AV):mark g (.fn f a c)=[]:=rfl
theorem zQ(g:G)(id:Id):mark g (.mp id)=[]:=rfl
theorem ue(g:G)(id:Id)(off m:Nat):mark g (.f8 id off m)=Gu g (.f8 id off m):=by simp only[mark,Lq,EM,ID,CI]
def uX(g:G):List AV→AD
 |[]=>[]
 |v::vs=>Gu g v++uX g vs
theorem uZ(g:G)(cs:List AV):mark g (.agg cs)=uX g cs:=by
 simp only[mark,Lq];induction cs with
 |nil=>rfl
 |cons v vs a=>rw[EM,a];rfl
theorem zN(g:G)(x:Ao):Gu g (.d x)=[]:=rfl
theorem gF(g:G):Gu g .d7=[]:=rfl
theorem oX(g:G):Gu g .emp=[]:=rfl
theorem oZ(g:G)(id:Id)(off:Nat):Gu g (.ptr id off)=[]:=rfl
theorem qN(n:Nat)(ρ:Id):Id.under (n::ρ) []=false:=Ev AG
theorem iz(ρ:Id)(n:Nat)(l:Id):Id.under ρ (n::l)=if Id.is ρ (n::l)=true then true else Id.under ρ l:=by
 conv=>lhs;unfold Id.under
 cases Id.is ρ (n::l)<;>rfl
theorem dN(n:Nat)(ρ:Id):Id.under (n::ρ) ρ=false:=Ev fun h=>by
 have:=h.length_le;simp at this;omega
theorem AI{id:Id}(h:Id.under ρ id=false)(n:Nat):Id.under (n::ρ) id=false:=Ev fun a=>by
 rw[under_iff.2 ((F5 n ρ).trans a)]at h;cases h
theorem AJ{ρ id:Id}(h:Id.under ρ id=false)(a n:Nat):Id.is (a::n::ρ) id=false:=AF fun b=>by
 exact zDs
theorem Ak{ρ id:Id}(h:Id.under ρ id=false)(a n:Nat):Id.is id (a::n::ρ)=false:=AF fun b=>by
 exact zDs
theorem w4(ρ:List Nat):gc ρ []=[]:=rfl
theorem yx(ρ:List Nat)(l:Id)(o:Obj)(h:AD):gc ρ ((0::l,o)::h)=if Id.under ρ l=true then gc ρ h else(0::l,o)::gc ρ h:=by
 simp only[gc,Rw];cases Id.under ρ l<;>rfl
theorem lQ(ρ:List Nat)(l:Id)(o:Obj)(h:AD):gc ρ ((1::l,o)::h)=(1::l,o)::gc ρ h:=rfl
attribute [go_sem] w4 yx lQ
def X7(C:DD)(K:Ab)(fr:Fr)(ops:Array Oper)(b n:Nat)(al:Nat→Bool)(l:List Oper)(i:Nat)(dst:Option Tmp)(e:CB)(h:AD)(bs:Nat)(ds:List Df)(Q:Ea→St→Prop)(az:List AV):AV→Prop
 |.fn g [] []=>Gy C K fr ops b n al l (i+1) ⟨DC e dst .undef,h,bs,.call g az::ds⟩ Q
 |_=>False
theorem dF(dst:Option Tmp)(f:Operand)(az:Array Operand)(ts:Array TypeId)(j:fr.rnd=false):Bt C K fr ops b n al l i Q (Iq fr e.get ⟨.value f,az,ts⟩ dst ⟨e,h,bs,ds⟩)=X7 C K fr ops b n al l i dst e h bs ds Q (az.toList.map (ev e.get)) (ev e.get f):=by
 simp only[Iq,j];cases ev e.get f with
 |fn g a c=>
  cases a with
  |nil=>cases c<;>simp only[X7,Bt]
  |cons x l=>simp only[X7,Bt]
 |_=>rfl
theorem lq(dst:Option Tmp)(az:List AV)(g:FuncId):X7 C K fr ops b n al l i dst e h bs ds Q az (.fn g [] [])=Gy C K fr ops b n al l (i+1) ⟨DC e dst .undef,h,bs,.call g az::ds⟩ Q:=rfl
def fg(C:DD)(ci:Option (List Nat))(l:List Df)(h:AD)(id:Id):Option (List AV)→E (Option AV×AD)
 |some cs=>Dr C ci l none (h.put id (.box cs))
 |none=>.err [20]
def Yb(C:DD)(ci:Option (List Nat))(l:List Df)(h:AD)(id:Id)(off:Nat)(k:IntKind)(m:Int):Option Obj→E (Option AV×AD)
 |some (.box cs)=>fg C ci l h id (Cj cs off [.d (.int k m)])
 |_=>.err [21]
variable{ci:Option (List Nat)}{l:List Df}{h:AD}{off:Nat}{k:IntKind}{m:Int}
theorem QO{f:FuncId}{t:TypeId}{id:Id}(a:C.un f=some t)(b:K4 ci [(id,.box [])]=true):Dr C ci (.call f [.ptr id off]::l) (some (.iface t (.agg [.d (.int k m)]))) h=Yb C ci l h id off k m (h.get id):=by
 simp only[Dr,a,b,Nat.beq_refl,Mk,Yb,fg];cases h.get id with
 |none=>rfl
 |some o=>cases o with
  |box cs=>simp only;cases Cj cs off [.d (.int k m)]<;>rfl
  |_=>rfl
theorem fh{f:FuncId}{id:Id}(a:(C.un f).isSome=true):Dr C ci (.call f [.ptr id off]::l) none h=Dr C ci l none h:=by
 obtain⟨t,b⟩:=I5.1 a;simp only[Dr,b]
attribute [go_sem] dF lq Yb fg QO fh
attribute [go_sem] MO JU HQ Ia Ht JT appMix
attribute [go_sem] Ah qN iz dN
attribute [go_sem] get_put vY vX o5 wb qM iy iw gR Option.isNone_some Option.isNone_none uj k9 oh uc uf zP zQ uZ uX zN gF oX oZ
def tJ:Option (List Ao)→Option (List (List Ao))→Option (List (List Ao))
 |some x,some xs=>some (x::xs)
 |_,_=>none
theorem ae(x:List Ao)(a:List (List Ao)):tJ (some x) (some a)=some (x::a):=rfl
theorem mj(g:G):Dc g []=some []:=rfl
theorem UB(g:G)(v:List AV)(vs:List (List AV)):Dc g (v::vs)=tJ (DX g v) (Dc g vs):=by
 simp only[Dc];cases DX g v<;>cases Dc g vs<;>rfl
def tE:Option Ao→Option (List Ao)→Option (List Ao)
 |some x,some xs=>some (x::xs)
 |_,_=>none
theorem aY(x:Ao)(a:List Ao):tE (some x) (some a)=some (x::a):=rfl
theorem mf(g:G):DX g []=some []:=rfl
theorem Tx(g:G)(v:AV)(vs:List AV):DX g (v::vs)=tE (GJ g v) (DX g vs):=by
 simp only[DX];cases GJ g v<;>cases DX g vs<;>rfl
def tL(off m:Nat):Option Obj→Option Ao
 |some (.em _ es)=>(Kj es off m).map .bv
 |some (.i7 _ es)=>(Kj es off m).map .bv
 |_=>none
theorem tC(g:G)(id:Id)(off m:Nat):GJ g (.f8 id off m)=tL off m (g id):=by
 simp only[GJ];exact zBR
theorem fM(off m sz:Nat)(es:List (List Ao)):tL off m (some (.em sz es))=(Kj es off m).map .bv:=rfl
theorem mr(off m sz:Nat)(es:List (List Ao)):tL off m (some (.i7 sz es))=(Kj es off m).map .bv:=rfl
theorem Tz(g:G)(l:List Ao):DX g (l.map .d)=some l:=by
 induction l with
 |nil=>rfl
 |cons x l a=>rw[CO,Tx,a];rfl
theorem KM(g:G)(l:List (List Ao)):Dc g (l.map (·.map .d))=some l:=by
 induction l with
 |nil=>rfl
 |cons x l a=>rw[CO,UB,a,Tz];rfl
theorem gJ(g:G):CY g []=[]:=rfl
theorem SL(g:G)(v:AV)(vs:List AV):CY g (v::vs)=Kt g v++CY g vs:=rfl
theorem zO(g:G)(x:Ao):Kt g (.d x)=[]:=rfl
theorem gI(g:G):Kt g .d7=[]:=rfl
theorem od(g:G):Kt g .emp=[]:=rfl
def uY(id:Id):Option Obj→AD
 |some (.em sz es)=>[(id,.i7 sz es)]
 |_=>[]
theorem oe(g:G)(id:Id)(off m:Nat):Kt g (.f8 id off m)=uY id (g id):=by
 simp only[Kt];exact zBR
theorem gK(id:Id)(sz:Nat)(es:List (List Ao)):uY id (some (.em sz es))=[(id,.i7 sz es)]:=rfl
theorem og(id:Id)(sz:Nat)(es:List (List Ao)):uY id (some (.i7 sz es))=[]:=rfl
theorem SM(g:G)(l:List Ao):CY g (l.map .d)=[]:=by
 induction l with
 |nil=>rfl
 |cons x l a=>rw[CO,SL,a];rfl
theorem JO(g:G)(l:List (List Ao)):(l.map (·.map AV.d)).flatMap (CY g)=[]:=by
 induction l with
 |nil=>rfl
 |cons x l a=>rw[CO,EM,a,SM];rfl
def GG(sz:Nat):List (List AV)→Bool
 |[]=>true
 |e::es=>decide (e.length=sz)&&(e.all AV.isCell&&GG sz es)
theorem dA(sz:Nat):GG sz []=true:=by simp only[GG]
theorem Jx(sz:Nat)(e:List AV)(es:List (List AV)):GG sz (e::es)=(decide (e.length=sz)&&(e.all AV.isCell&&GG sz es)):=by simp only[GG]
theorem PS(sz:Nat)(es:List (List AV)):(es.all fun e=>e.length==sz&&e.all AV.isCell)=GG sz es:=by
 induction es with
 |nil=>rfl
 |cons e es a=>rw[D9,a,Jx,Bool.and_assoc];rfl
theorem eP(l:List Ao):(l.map AV.d).all AV.isCell=true:=by
 induction l with
 |nil=>rfl
 |cons x l a=>rw[CO,D9,a];rfl
def X3(newId:Id)(sz n:Nat)(marks:AD):Option (List (List Ao))→Option Cx
 |some ds=>some ⟨.f8 (1::newId) 0 n,marks++[(1::newId,.em sz ds)]⟩
 |none=>none
def uu(g:G)(newId:Id)(sz:Nat)(es:List (List AV)):Bool→Option Cx
 |true=>some ⟨.f8 (1::newId) 0 es.length,[(1::newId,.arr sz es)]⟩
 |false=>X3 newId sz es.length (es.flatMap (CY g)) (Dc g es)
def aA(g:G)(newId:Id)(sz:Nat)(mix:Bool)(es:List (List AV)):Bool→Option Cx
 |true=>uu g newId sz es mix
 |false=>none
theorem XA(g:G)(a:Id)(j:TI)(es:List (List AV)):newArr g a j es=aA g a j.size j.mix es (GG j.size es&&decide (0<j.size)&&decide (es.length≤BG)):=by
 unfold newArr;rw[PS,Hh,Xz];cases(GG j.size es&&decide (0<j.size)&&decide (es.length≤BG))with
 |false=>rfl
 |true=>
  simp only[aA];cases j.mix with
  |true=>rfl
  |false=>simp only[uu];cases Dc g es<;>rfl
theorem W9(g:G)(a:Id)(sz:Nat)(mix:Bool)(es:List (List AV)):aA g a sz mix es true=uu g a sz es mix:=rfl
theorem o8(g:G)(a:Id)(sz:Nat)(es:List (List AV)):uu g a sz es true=some ⟨.f8 (1::a) 0 es.length,[(1::a,.arr sz es)]⟩:=rfl
theorem Ua(g:G)(a:Id)(sz:Nat)(es:List (List AV)):uu g a sz es false=X3 a sz es.length (es.flatMap (CY g)) (Dc g es):=rfl
theorem XB(a:Id)(sz n:Nat)(b:AD)(ds:List (List Ao)):X3 a sz n b (some ds)=some ⟨.f8 (1::a) 0 n,b++[(1::a,.em sz ds)]⟩:=rfl
def dy(g:G)(newId:Id)(j:TI)(n:Nat):Option (List AV)→Option Cx
 |some cs=>if n*j.size≤16777216∧j.zero.length=j.size then newArr g newId j (Hl j.size n cs)else none
 |none=>none
theorem VO(g:G)(a:Id)(j:TI):Hi g a 0 [] j=some ⟨.emp,[]⟩:=rfl
theorem VN(g:G)(b:Id)(n:Nat)(ps:List (Nat×AV))(j:TI):Hi g b (n+1) ps j=dy g b j (n+1) (DN (fun k=>some (k*j.size,j.size)) ((List.replicate (n+1) j.zero).flatten) ps):=by
 unfold Hi;cases DN (fun k=>some (k*j.size,j.size)) ((List.replicate (n+1) j.zero).flatten) ps with
 |none=>rfl
 |some cs=>
  simp only[dy,Hh];have e:(2 ^ 24:Nat)=16777216:=AK;rw[e];by_cases a:(n+1)*j.size≤16777216
  .by_cases h2:j.zero.length=j.size
   .simp[a,h2]
   .have c:(j.zero.length==j.size)=false:=by simpa using h2
    simp[a,h2,c]
  .simp[a]
theorem Za(g:G)(a:Id)(j:TI)(n:Nat)(cs:List AV):dy g a j n (some cs)=if n*j.size≤16777216∧j.zero.length=j.size then newArr g a j (Hl j.size n cs)else none:=rfl
def rN(s:AV):Option Cx:=match s with
 |.d7=>some ⟨.d7,[]⟩
 |.emp=>some ⟨.emp,[]⟩
 |.f8 id off n=>some ⟨.f8 id off n,[]⟩
 |_=>none
theorem kf:rN .d7=some ⟨.d7,[]⟩:=rfl
theorem rP:rN .emp=some ⟨.emp,[]⟩:=rfl
theorem ZT(id:Id)(off n:Nat):rN (.f8 id off n)=some ⟨.f8 id off n,[]⟩:=rfl
def QA(g:G)(newId:Id)(j:TI)(s:AV)(src:List (List AV)):Bool→Option Cx
 |true=>appTo g newId j s src
 |false=>none
def Po(g:G)(newId:Id)(j:TI)(s:AV):Option (List (List AV))→Option Cx
 |none=>none
 |some []=>rN s
 |some (e::es)=>QA g newId j s (e::es) (GG j.size (e::es)&&decide ((e::es).length≤BG)&&decide (0<j.size))
theorem du(g:G)(a:Id)(j:TI)(s x:AV):appendV g a j s x=Po g a j s (Ef g x):=by
 unfold appendV;cases Ef g x with
 |none=>rfl
 |some src=>
  cases src with
  |nil=>cases s<;>rfl
  |cons e es=>
   simp only[Po,←PS,Hh,Xz];cases((e::es).all (fun e=>e.length==j.size&&e.all AV.isCell)&&decide ((e::es).length≤BG)&&decide (0<j.size))<;>rfl
theorem ZQ(g:G)(a:Id)(j:TI)(s:AV):Po g a j s (some [])=rN s:=rfl
theorem Vp(g:G)(a:Id)(j:TI)(s:AV)(e:List AV)(es:List (List AV)):Po g a j s (some (e::es))=QA g a j s (e::es) (GG j.size (e::es)&&decide ((e::es).length≤BG)&&decide (0<j.size)):=rfl
theorem Vo(g:G)(a:Id)(j:TI)(s:AV)(src:List (List AV)):QA g a j s src true=appTo g a j s src:=rfl
def ZR(newId:Id)(id:Id)(off n sz:Nat)(es:List (List Ao))(marks:AD)(ds:List (List Ao)):Option (List (List Ao))→Option Cx
 |some es'=>some ⟨.f8 id off (n+ds.length),marks++[(id,.em sz es')]⟩
 |none=>if off=0∧n+ds.length≤BG then some ⟨.f8 (1::newId) 0 (n+ds.length),marks++[(id,.i7 0 []),(1::newId,.em sz (es.take n++ds))]⟩else none
def WO(newId:Id)(id:Id)(off n sz:Nat)(es:List (List Ao))(marks:AD):Option (List (List Ao))→Option Cx
 |some ds=>if NX id marks=true then ZR newId id off n sz es marks ds (Cj es (off+n) ds)else none
 |none=>none
theorem TR(g:G)(a:Id)(id:Id)(off n sz:Nat)(es:List (List Ao))(src:List (List AV)):appIn g a id off n sz es src=WO a id off n sz es (src.flatMap (CY g)) (Dc g src):=by
 unfold appIn WO;cases Dc g src with
 |none=>rfl
 |some ds=>
  cases NX id (src.flatMap (CY g))with
  |false=>rfl
  |true=>
   simp only[F7,ZR];cases Cj es (off+n) ds with
   |some c=>rfl
   |none=>
    simp only[Il,Hh];by_cases b:off=0<;>by_cases h2:n+ds.length≤BG<;>simp[b,h2]
theorem Q3(b:Id)(id:Id)(off n sz:Nat)(es:List (List Ao))(a:AD)(ds:List (List Ao)):WO b id off n sz es a (some ds)=if NX id a=true then ZR b id off n sz es a ds (Cj es (off+n) ds)else none:=rfl
theorem TQ(c:Id)(id:Id)(off n sz:Nat)(es:List (List Ao))(b:AD)(ds a:List (List Ao)):ZR c id off n sz es b ds (some a)=some ⟨.f8 id off (n+ds.length),b++[(id,.em sz a)]⟩:=rfl
theorem TP(a:Id)(id:Id)(off n sz:Nat)(es:List (List Ao))(b:AD)(ds:List (List Ao)):ZR a id off n sz es b ds none=if off=0∧n+ds.length≤BG then some ⟨.f8 (1::a) 0 (n+ds.length),b++[(id,.i7 0 []),(1::a,.em sz (es.take n++ds))]⟩else none:=rfl
theorem Ra(id:Id):NX id []=true:=by simp[NX]
def rL(g:G)(newId:Id)(j:TI)(id:Id)(off n:Nat)(src:List (List AV)):Option Obj→Option Cx
 |some (.em sz es)=>if sz=j.size∧off+n≤es.length then appIn g newId id off n sz es src else none
 |some (.arr sz es)=>if sz=j.size∧off+n≤es.length then appMix newId id off n sz es src else none
 |_=>none
theorem TS(g:G)(a:Id)(j:TI)(src:List (List AV)):appTo g a j .d7 src=newArr g a j src:=rfl
theorem kg(g:G)(a:Id)(j:TI)(src:List (List AV)):appTo g a j .emp src=newArr g a j src:=rfl
theorem Q5(g:G)(b:Id)(j:TI)(id:Id)(off n:Nat)(src:List (List AV)):appTo g b j (.f8 id off n) src=rL g b j id off n src (g id):=by
 simp only[appTo];cases g id with
 |none=>rfl
 |some o=>
  cases o with
  |em sz es=>
   exact zCw
  |arr sz es=>
   exact zCw
  |_=>rfl
theorem Q4(g:G)(a:Id)(j:TI)(id:Id)(off n:Nat)(src:List (List AV))(sz:Nat)(es:List (List Ao)):rL g a j id off n src (some (.em sz es))=if sz=j.size∧off+n≤es.length then appIn g a id off n sz es src else none:=rfl
theorem rM(g:G)(a:Id)(j:TI)(id:Id)(off n:Nat)(src:List (List AV))(sz:Nat)(es:List (List AV)):rL g a j id off n src (some (.arr sz es))=if sz=j.size∧off+n≤es.length then appMix a id off n sz es src else none:=rfl
theorem mC(g:G)(es:List (List Ao)):Ef g (.d (.bv es))=some (es.map (·.map .d)):=rfl
theorem ef(g:G):Ef g .d7=some []:=rfl
theorem l8(g:G):Ef g .emp=some []:=rfl
def zo(off n:Nat):Option Obj→Option (List (List AV))
 |some (.em _ es)=>Kj (es.map (·.map .d)) off n
 |some (.i7 _ es)=>Kj (es.map (·.map .d)) off n
 |some (.arr _ es)=>Kj es off n
 |_=>none
theorem mF(g:G)(id:Id)(off n:Nat):Ef g (.f8 id off n)=zo off n (g id):=by
 simp only[Ef];exact zBR
theorem p7(off n sz:Nat)(es:List (List Ao)):zo off n (some (.em sz es))=Kj (es.map (·.map .d)) off n:=rfl
theorem v5(off n sz:Nat)(es:List (List Ao)):zo off n (some (.i7 sz es))=Kj (es.map (·.map .d)) off n:=rfl
theorem vz(off n sz:Nat)(es:List (List AV)):zo off n (some (.arr sz es))=Kj es off n:=rfl
def uI(ok:Bool)(r:Option AV):Option TI→Option Cx
 |some j=>ML ok r j
 |none=>none
def j6(T:TypeId→Option TI)(i:TI)(ok:Bool):Option (Option AV)→Option Cx
 |some r=>uI ok r (T i.elem)
 |none=>none
def j5(T:TypeId→Option TI)(x:Ao)(ok:Bool)(i:TI):Option Obj→Option Cx
 |some (.map es)=>j6 T i ok (Db es x)
 |_=>none
def j4(T:TypeId→Option TI)(g:G)(id:Id)(x:Ao)(ok:Bool)(i:TI):Bool→Option Cx
 |true=>j5 T x ok i (g id)
 |false=>none
def uD(T:TypeId→Option TI)(g:G)(id:Id)(x:Ao)(ok:Bool)(i:TI):TK→Option TI→Option Cx
 |.map,some kt=>j4 T g id x ok i (Ks kt.kind x)
 |_,_=>none
theorem cA(T:TypeId→Option TI)(g:G)(id:Id)(x:Ao)(ok:Bool)(i:TI):GY T g (.mp id) (.d x) ok (some i)=uD T g id x ok i i.kind (T i.key):=by
 unfold GY;simp only[M7];cases b:i.kind with
 |map=>
  cases T i.key with
  |none=>rfl
  |some a=>
   simp only[uD];cases Ks a.kind x with
   |false=>rfl
   |true=>
    simp only[j4];cases g id with
    |none=>rfl
    |some o=>
     cases o with
     |map es=>
      simp only[j5];cases Db es x with
      |none=>rfl
      |some r=>
       simp only[j6];cases T i.elem<;>rfl
     |_=>rfl
 |_=>rfl
theorem oC(T:TypeId→Option TI)(g:G)(id:Id)(x:Ao)(ok:Bool)(i a:TI):uD T g id x ok i .map (some a)=j4 T g id x ok i (Ks a.kind x):=rfl
theorem fm(T:TypeId→Option TI)(g:G)(id:Id)(x:Ao)(ok:Bool)(i:TI):j4 T g id x ok i true=j5 T x ok i (g id):=rfl
theorem oD(T:TypeId→Option TI)(x:Ao)(ok:Bool)(i:TI)(es:List (Ao×AV)):j5 T x ok i (some (.map es))=j6 T i ok (Db es x):=rfl
theorem fo(T:TypeId→Option TI)(ok:Bool)(i:TI)(r:Option AV):j6 T i ok (some r)=uI ok r (T i.elem):=rfl
theorem fq(ok:Bool)(r:Option AV)(j:TI):uI ok r (some j)=ML ok r j:=rfl
theorem uF(v:AV)(j:TI):ML false (some v) j=some ⟨v,[]⟩:=by
 unfold ML;cases Gv j.agg j.zero<;>rfl
def uJ(ok:Bool):Option AV→Option Cx
 |some z=>match ok with
  |true=>some ⟨.ii [z,.d (.bool false)],[]⟩
  |false=>some ⟨z,[]⟩
 |none=>none
theorem uH(ok:Bool)(j:TI):ML ok none j=uJ ok (Gv j.agg j.zero):=by
 unfold ML;cases Gv j.agg j.zero<;>cases ok<;>rfl
theorem zJ(z:AV):uJ true (some z)=some ⟨.ii [z,.d (.bool false)],[]⟩:=rfl
theorem zI(z:AV):uJ false (some z)=some ⟨z,[]⟩:=rfl
theorem fx(x:Ao):Db [] x=some none:=rfl
attribute [go_sem] cA oC fm oD fo fq uF uH zJ zI Ks fx
variable{g:G}
theorem ig{l:List α}(h: ∀a,(f a).length=sz)(b:0≤m)(j:m≤l.length):Fy g .slice sz (.d (.bv (l.map f))) none (some (.d (.int k m))) none=some (.d (.bv ((l.take m.toNat).map f))):=by
 have c:E1 none (some (.d (.int k m))) none (l.map f).length=some (0,m.toNat,none):=by
  simp[E1,IU,Jh,b]
 have e:N3 sz (l.map f)=true:=by
  cases l with
  |nil=>rfl
  |cons a l=>simp only[CO,N3,Il,Ap];exact h a
 show Rr sz (l.map f) (E1 none (some (.d (.int k m))) none (l.map f).length)=_;rw[c];have i:Nat.ble m.toNat (l.map f).length=true:=by rw[Hh];simp;omega
 simp only[Rr,i,e,ON,List.drop_zero,Nat.sub_zero,OL]
def hD(id:Id)(off:Nat)(cells:List AV):Option Obj→Option Cx
 |some (.box cs)=>(Cj cs off cells).map fun cs'=>⟨.undef,[(id,.box cs')]⟩
 |_=>none
def M4(id:Id)(k off sz:Nat)(es:List (List Ao))(marks:AD):Option (List Ao)→Option (List Ao)→Option Cx
 |some e,some ds=>if NX id marks=true then(Cj e off ds).map fun e'=>⟨.undef,marks++[(id,.em sz (es.set k e'))]⟩else none
 |_,_=>none
def NC(id:Id)(k off sz:Nat)(es:List (List AV))(cells:List AV):Option (List AV)→Option Cx
 |some e=>(Cj e off cells).map fun e'=>⟨.undef,[(id,.arr sz (es.set k e'))]⟩
 |none=>none
def H2(g:G)(id:Id)(k off:Nat)(cells:List AV):Option Obj→Option Cx
 |some (.em sz es)=>M4 id k off sz es (CY g cells) es[k]? (DX g cells)
 |some (.arr sz es)=>NC id k off sz es cells es[k]?
 |_=>none
theorem qH(g:G)(i:TI)(id:Id)(off:Nat)(v:AV):Kc g i (.ptr id off) v=if v.cells.length=i.size∧v.cells.all AV.isCell=true then hD id off v.cells (g id)else none:=by
 unfold Kc;by_cases h:v.cells.length=i.size∧v.cells.all AV.isCell=true
 .have:(v.cells.length==i.size&&v.cells.all AV.isCell)=true:=by simp[h.1,h.2]
  rw[this,D5 h];simp only;exact zBR
 .exact zA7
theorem iv(g:G)(i:TI)(id:Id)(k off:Nat)(v:AV):Kc g i (.jp id k off) v=if v.cells.length=i.size∧v.cells.all AV.isCell=true then H2 g id k off v.cells (g id)else none:=by
 unfold Kc;by_cases h:v.cells.length=i.size∧v.cells.all AV.isCell=true
 .have:(v.cells.length==i.size&&v.cells.all AV.isCell)=true:=by simp[h.1,h.2]
  rw[this,D5 h];simp only;cases g id with
  |none=>rfl
  |some o=>
   cases o with
   |em sz es=>
    simp only[H2,M4];cases es[k]? with
    |none=>cases DX g v.cells<;>rfl
    |some e=>
     cases DX g v.cells with
     |none=>rfl
     |some ds=>cases NX id (CY g v.cells)<;>rfl
   |arr sz es=>
    simp only[H2,NC];cases es[k]? <;>rfl
   |_=>rfl
 .exact zA7
theorem zt(id:Id)(off:Nat)(cells cs:List AV):hD id off cells (some (.box cs))=(Cj cs off cells).map fun a=>⟨.undef,[(id,.box a)]⟩:=rfl
theorem wM(g:G)(id:Id)(k off sz:Nat)(cells:List AV)(es:List (List Ao)):H2 g id k off cells (some (.em sz es))=M4 id k off sz es (CY g cells) es[k]? (DX g cells):=rfl
theorem zr(g:G)(id:Id)(k off sz:Nat)(cells:List AV)(es:List (List AV)):H2 g id k off cells (some (.arr sz es))=NC id k off sz es cells es[k]? :=rfl
theorem wK(id:Id)(k off sz:Nat)(es:List (List Ao))(a:AD)(e ds:List Ao):M4 id k off sz es a (some e) (some ds)=if NX id a=true then(Cj e off ds).map fun e'=>⟨.undef,a++[(id,.em sz (es.set k e'))]⟩else none:=rfl
theorem wJ(id:Id)(k off sz:Nat)(es:List (List AV))(cells e:List AV):NC id k off sz es cells (some e)=(Cj e off cells).map fun e'=>⟨.undef,[(id,.arr sz (es.set k e'))]⟩:=rfl
attribute [go_sem] qH iv zt wM zr wK wJ
def Vx(g:G)(newId:Id)(n:Int):TK→Option TI→Option Cx
 |.slice,some j=>if 0≤n∧n≤BG then HF g newId n.toNat j else none
 |_,_=>none
theorem zM(T:TypeId→Option TI)(g:G)(a:Id)(k c:IntKind)(n:Int)(i:TI):DT T g a (.d (.int k n)) (.d (.int c n)) (some i)=Vx g a n i.kind (T i.elem):=by
 obtain⟨e,sz,f,st,z,h,b,l,m⟩:=i;unfold DT;simp only;cases e with
 |slice=>
  cases T b with
  |none=>rfl
  |some j=>simp only[Vx,UN]
 |_=>rfl
theorem y2(g:G)(a:Id)(n:Int)(j:TI):Vx g a n .slice (some j)=if 0≤n∧n≤BG then HF g a n.toNat j else none:=rfl
def xR:List AV→Option (List Ao)
 |[]=>some []
 |.d x::l=>(xR l).map (x:: ·)
 |_=>none
theorem ZK: ∀{l:List AV} {ds:List Ao},xR l=some ds→l=ds.map .d
 |[],ds,h=>by cases h;rfl
 |v::l,ds,h=>by
  cases v<;>simp[xR]at h;obtain⟨b,a,rfl⟩:=h;rw[ZK a];rfl
theorem RP{a:Id}{n:Nat}{j:TI}{zs:List Ao}(r:0<n)(l:n≤BG)(o:xR j.zero=some zs)(h:j.zero.length=j.size)(c:0<j.size)(i:j.mix=false):HF g a n j=some ⟨.f8 (1::a) 0 n,[(1::a,.em j.size (List.replicate n zs))]⟩:=by
 obtain⟨m,rfl⟩: ∃m,n=m+1:=⟨n-1,AA⟩;have e:=ZK o;have b:List.replicate (m+1) j.zero=(List.replicate (m+1) zs).map (·.map AV.d):=by rw[Ol,e]
 show newArr g a j (List.replicate (m+1) j.zero)=_;rw[XA,b];have f:GG j.size ((List.replicate (m+1) zs).map (·.map AV.d))=true:=by
  have p:zs.length=j.size:=by rw[←h,e];simp
  generalize m+1=k;induction k with
  |zero=>simp[GG]
  |succ k q=>rw[Rx,CO,Jx,q,eP,As,p];simp
 rw[f,D1 c];have h2:((List.replicate (m+1) zs).map (·.map AV.d)).length≤BG:=zFE
 rw[D1 h2,i];simp only[ON,W9,Ua,KM,JO,XB,Bi,As,I7]
theorem oT(g:G)(a:Id)(j:TI):HF g a 0 j=some ⟨.emp,[]⟩:=rfl
theorem QN{n:Nat}(h:n≤1073741824):((n:Int)≤(BG:Int))=True:=eq_true zEs
attribute [go_sem] zM y2 oT Nat.zero_add
attribute [go_sem] Option.map_none ae mj UB aY mf Tx tC fM mr Tz KM gJ SL zO gI od oe gK og SM JO dA Jx XA W9 o8 Ua XB VO VN Za kf rP ZT du ZQ Vp Vo TR Q3 TQ TP Ra TS kg Q5 Q4 rM mC ef l8 mF p7 v5 vz Nat.one_mul Nat.mul_one Nat.reduceMul
end Go.Abs
namespace Go.Abs
variable{C:DD}{K:Ab}{fr:Fr}{bl:Nat}{Q:Ea→St→Prop}
theorem KG{α:Type}{l:List α}{i:Nat}{x:α}(h:l[i]? =some x):l.drop i=x::l.drop (i+1):=by
 exact zB3
theorem Aj{α β:Type}{x:Code}(l:List α)(S:Nat→β→St)(Inv:Nat→List α→β→Prop)(b0:β)(f:Inv 0 l b0)
 (step: ∀(i:Nat) (y:α) (b:β),l[i]? =some y→i<l.length→(i:Int)<(l.length:Int)→Inv i (y::l.drop (i+1)) b→AH (∀b',Inv (i+1) (l.drop (i+1)) b'→Xu C K fr bl x (S (i+1) b') Q)→Wp C K fr bl x (S i b) (NN C K fr bl x Q))
 (done: ∀(i:Nat) (b:β),AH (i=l.length)→ ¬(i:Int)<(l.length:Int)→Inv i [] b→Wp C K fr bl x (S i b) (NN C K fr bl x Q)):Xu C K fr bl x (S 0 b0) Q:=by
 refine rounds (S:=fun a:Nat×β=>S a.1 a.2) (Inv:=fun a=>a.1≤l.length∧Inv a.1 (l.drop a.1) a.2) (m:=fun a=>l.length-a.1) (a:=(0,b0)) ⟨AG,by simpa using f⟩ ?_;rintro⟨i,b⟩ ⟨h1,h2⟩ IH;dsimp only at*;by_cases c:i<l.length
 .obtain⟨y,e⟩: ∃y,l[i]? =some y:=⟨_,Bv c⟩;rw[KG e]at h2;exact step i y b e c AA h2 ⟨fun b' g=>IH.out (i+1,b') AZ ⟨AZ,g⟩⟩
 .have:i=l.length:=AA;rw[EX AA]at h2;exact done i b ⟨this⟩ AA h2
end Go.Abs
namespace Go.Abs
variable{C:DD}{K:Ab}{fr:Fr}{bl:Nat}{Q:Ea→St→Prop}
theorem An{α β:Type}{x:Code}(l:List α)(m:Int)(S:Int→Nat→β→St)(Inv:Nat→List α→β→Prop)(b0:β)(h:m=l.length)(e:Inv 0 l b0)
 (step: ∀(i:Nat) (y:α) (b:β),l[i]? =some y→i<l.length→(i:Int)<m→Inv i (y::l.drop (i+1)) b→AH (∀b',Inv (i+1) (l.drop (i+1)) b'→Xu C K fr bl x (S m (i+1) b') Q)→Wp C K fr bl x (S m i b) (NN C K fr bl x Q))
 (done: ∀(i:Nat) (b:β),AH (i=l.length)→ ¬(i:Int)<m→Inv i [] b→Wp C K fr bl x (S m i b) (NN C K fr bl x Q)):Xu C K fr bl x (S m 0 b0) Q:=
 Aj l (S m) Inv b0 e (fun i y b a h2 c f g=>step i y b a h2 AA f g) (fun i b a h2 c=>done i b a (by have:=a.out;omega) c)
end Go.Abs
namespace Go.Abs
variable{P:Program}{C:DD}
theorem xN{f:FuncId}{fn:Func}{c:Code}{rs:List ResultVar}{args:List AV}{π:List Nat}{Post:Ax×AD→Prop}(g:C.i9 f=true)(b:P.funcs[f]? =some fn)(a:fn.body=some c)(i:fn.results.toList=rs)(h:Nat.ble args.length fn.ntmps=true)
 (j:Wp C (KL P C) {f,π,raw:=false,ci:=none,nt:=fn.ntmps} 0 c ⟨Dx 0 args,[],0,[]⟩ (Ki C none rs π false fun o' h'=>Post (xF (o',h')))): ∃r,BU (KL P C) f args π=.ok r∧Post r:=by
 obtain⟨o',h',e,h2⟩:=So g b a i h j;unfold BU;rw[e];exact⟨_,rfl,h2⟩
theorem LK{f:FuncId}{fn:Func}{c:Code}{rs:List ResultVar}{args:List AV}{π:List Nat}{Post:Ax×AD→Prop}{nt:Nat}(b:P.funcs[f]? =some fn)(j:Wp C (KL P C) {f,π,raw:=false,ci:=none,nt} 0 c ⟨Dx 0 args,[],0,[]⟩ (Ki C none rs π false fun o' h'=>Post (xF (o',h'))))(a:fn.body=some c:=by rfl)(i:fn.results=rs.toArray:=by rfl)(h:fn.ntmps=nt:=by rfl)(e:C.i9 f=true:=by rfl)(g:Nat.ble args.length fn.ntmps=true:=by rfl): ∃r,BU (KL P C) f args π=.ok r∧Post r:=by
 subst h;exact xN e b a (by simp[i]) g j
end Go.Abs
namespace Go.Abs
variable{C:DD}{K:Ab}{fr:Fr}{bl:Nat}{Q:Ea→St→Prop}
end Go.Abs
namespace Go.Abs
variable{P:Program}{C:DD}{K:Ab}{fr:Fr}{b n i:Nat}{Q:Ea→St→Prop}
variable{ops:Array Oper}{al:Nat→Bool}{l:List Oper}{e:CB}{h:AD}{bs:Nat}{ds:List Df}{ps:List (Nat×Nat)}{fps:List Fp}{ρ:List Nat}{dst:Option Tmp}
def OY(C:DD)(K:Ab)(fr:Fr)(ops:Array Oper)(b n:Nat)(al:Nat→Bool)(l:List Oper)(i:Nat)(dst:Option Tmp)(ρ:List Nat)(e:CB)(h:AD)(bs:Nat)(ds:List Df)(Q:Ea→St→Prop)(args:List AV)(v:AV):Option FuncId→Prop
 |some f=>TZ C K fr ops b n al l i dst ρ e h bs ds Q args (.fn f [v] [])
 |none=>False
def xa(C:DD)(K:Ab)(fr:Fr)(ops:Array Oper)(b n:Nat)(al:Nat→Bool)(l:List Oper)(i:Nat)(dst:Option Tmp)(ρ:List Nat)(e:CB)(h:AD)(bs:Nat)(ds:List Df)(Q:Ea→St→Prop)(m:String)(args:List AV):AV→Prop
 |.iface t v=>OY C K fr ops b n al l i dst ρ e h bs ds Q args v (C.meth t m)
 |_=>False
theorem fZ(m:String)(args:List AV)(t:TypeId)(v:AV):xa C K fr ops b n al l i dst ρ e h bs ds Q m args (.iface t v)=OY C K fr ops b n al l i dst ρ e h bs ds Q args v (C.meth t m):=rfl
theorem om(args:List AV)(v:AV)(f:FuncId):OY C K fr ops b n al l i dst ρ e h bs ds Q args v (some f)=TZ C K fr ops b n al l i dst ρ e h bs ds Q args (.fn f [v] []):=rfl
def YI(C:DD)(K:Ab)(fr:Fr)(ops:Array Oper)(b n:Nat)(al:Nat→Bool)(ps:List (Nat×Nat))(fps:List Fp)(l:List Oper)(i:Nat)(dst:Option Tmp)(ρ:List Nat)(e:CB)(h:AD)(bs:Nat)(ds:List Df)(Q:Ea→St→Prop)(args:List AV)(v:AV):Option FuncId→Prop
 |some f=>Zb C K fr ops b n al ps fps l i dst ρ e h bs ds Q args (.fn f [v] [])
 |none=>False
def OW(C:DD)(K:Ab)(fr:Fr)(ops:Array Oper)(b n:Nat)(al:Nat→Bool)(ps:List (Nat×Nat))(fps:List Fp)(l:List Oper)(i:Nat)(dst:Option Tmp)(ρ:List Nat)(e:CB)(h:AD)(bs:Nat)(ds:List Df)(Q:Ea→St→Prop)(m:String)(args:List AV):AV→Prop
 |.iface t v=>YI C K fr ops b n al ps fps l i dst ρ e h bs ds Q args v (C.meth t m)
 |_=>False
theorem sf(r:Operand)(m:String)(az:Array Operand)(ts:Array TypeId):Cd C K fr ops b n al ps fps l i Q (Bc C K fr ρ (.call ⟨.invoke r m,az,ts⟩) dst ⟨e,h,bs,ds⟩)=OW C K fr ops b n al ps fps l i dst ρ e h bs ds Q m (az.toList.map (ev e.get)) (ev e.get r):=by
 simp only[Bc];cases ev e.get r with
 |iface t v=>
  simp only[G3,OW];cases C.meth t m with
  |none=>rfl
  |some f=>rfl
 |_=>rfl
theorem fY(m:String)(args:List AV)(t:TypeId)(v:AV):OW C K fr ops b n al ps fps l i dst ρ e h bs ds Q m args (.iface t v)=YI C K fr ops b n al ps fps l i dst ρ e h bs ds Q args v (C.meth t m):=rfl
theorem oj(args:List AV)(v:AV)(f:FuncId):YI C K fr ops b n al ps fps l i dst ρ e h bs ds Q args v (some f)=Zb C K fr ops b n al ps fps l i dst ρ e h bs ds Q args (.fn f [v] []):=rfl
def Uv(C:DD)(K:Ab)(fr:Fr)(ops:Array Oper)(b n:Nat)(al:Nat→Bool)(ps:List (Nat×Nat))(fps:List Fp)(l:List Oper)(i:Nat)(dst:Option Tmp)(ρ:List Nat)(e:CB)(h:AD)(bs:Nat)(ds:List Df)(Q:Ea→St→Prop):E (Ax×AD)→Prop
 |.ok (.ret v,h')=>Hb C K fr ops b n al ps (fps++[⟨none,some (WI h (gc ρ h'))⟩]) l (i+1) ⟨DC e dst v,gc ρ h',bs,ds⟩ Q
 |.ok (.ge v,h')=>al i=true∧EZ fps ps=true∧Q (.ge v) ⟨e,gc ρ h',b+n,ds⟩
 |.err _=>False
theorem qC(dst:Option Tmp)(ρ:List Nat)(r:E (Ax×AD)):Cd C K fr ops b n al ps fps l i Q (FB ρ dst ⟨e,h,bs,ds⟩ r)=Uv C K fr ops b n al ps fps l i dst ρ e h bs ds Q r:=by
 cases r with
 |err l=>rfl
 |ok r=>
  exact zER
theorem vW(dst:Option Tmp)(ρ:List Nat)(v:AV)(h':AD):Uv C K fr ops b n al ps fps l i dst ρ e h bs ds Q (.ok (.ret v,h'))=Hb C K fr ops b n al ps (fps++[⟨none,some (WI h (gc ρ h'))⟩]) l (i+1) ⟨DC e dst v,gc ρ h',bs,ds⟩ Q:=rfl
theorem vV(dst:Option Tmp)(ρ:List Nat)(v:AV)(h':AD):Uv C K fr ops b n al ps fps l i dst ρ e h bs ds Q (.ok (.ge v,h'))=(al i=true∧EZ fps ps=true∧Q (.ge v) ⟨e,gc ρ h',b+n,ds⟩):=rfl
theorem ot(dst:Option Tmp)(ρ:List Nat)(f:FuncId)(az:List AV):Me C K fr ops b n al ps fps l i dst ρ e h bs ds Q f az .raw=Uv C K fr ops b n al ps fps l i dst ρ e h bs ds Q (K (.fn f) az h ρ true fr.ci):=by
 simp only[Me,ER,qC]
variable{dst:Option Tmp}
theorem Ct{Post:Ax→AD→Prop}{ρ:List Nat}{q:E (Ax×AD)}(a: ∃o h',q=.ok (o,h')∧Post o h')(c: ∀o h',Post o h'→Uv C K fr ops b n al ps fps l i dst ρ e h bs ds Q (.ok (o,h'))):Uv C K fr ops b n al ps fps l i dst ρ e h bs ds Q q:=by
 exact zCJ
theorem gN(dst:Option Tmp)(ρ:List Nat)(f:FuncId)(az:List AV)(a:(Ej h.get az).isNone):Me C K fr ops b n al ps fps l i dst ρ e h bs ds Q f az .auto=(K4 fr.ci (az.flatMap (mark h.get))=true∧Uv C K fr ops b n al ps fps l i dst ρ e h bs ds Q (K (.fn f) (Nq h.get az) (h.puts (az.flatMap (mark h.get))) ρ true fr.ci)):=by
 have a:Ej h.get az=none:=zEg
 simp only[Me,ER,a,GP,Bk,CQ,A9];cases c:K4 fr.ci (az.flatMap (mark h.get))with
 |true=>
  simp only[UN];cases K (.fn f) (Nq h.get az) (h.puts (az.flatMap (mark h.get))) ρ true fr.ci with
  |err l=>rfl
  |ok r=>
   exact zER
 |false=>simp[Cd]
variable{az:List AV}
theorem Yq{v:AV}{p:Prop} [Decidable p](c: ¬p→EJ C K fr ops b n al l i az dst e h bs ds Q (Cg v true))(h2:p→EJ C K fr ops b n al l i az dst e h bs ds Q (Cg v false)):EJ C K fr ops b n al l i az dst e h bs ds Q (Cg v (!decide p)):=by
 by_cases a:p
 .rw[D1 a];exact h2 a
 .rw[Ci a];exact c a
theorem Yp{v:AV}{p:Prop} [Decidable p](c: ¬p→EI C K fr ops b n al ps fps l i az dst e h bs ds Q (Cg v true))(h2:p→EI C K fr ops b n al ps fps l i az dst e h bs ds Q (Cg v false)):EI C K fr ops b n al ps fps l i az dst e h bs ds Q (Cg v (!decide p)):=by
 by_cases a:p
 .rw[D1 a];exact h2 a
 .rw[Ci a];exact c a
theorem gx{v:AV}{t:Bool}(a:t=true→EI C K fr ops b n al ps fps l i az dst e h bs ds Q (Cg v true))(h2:t=false→EI C K fr ops b n al ps fps l i az dst e h bs ds Q (Cg v false)):EI C K fr ops b n al ps fps l i az dst e h bs ds Q (Cg v t):=by
 exact zCO
theorem cT{v:AV}{p:Prop} [Decidable p](c:p→EI C K fr ops b n al ps fps l i az dst e h bs ds Q (Cg v true))(h2: ¬p→EI C K fr ops b n al ps fps l i az dst e h bs ds Q (Cg v false)):EI C K fr ops b n al ps fps l i az dst e h bs ds Q (Cg v (decide p)):=by
 exact zBC
theorem dt(a b:List Id):Abs.apart (some a) (some b)=a.all fun x=>b.all fun y=> !Id.is x y:=by
 have key: ∀(x:Id) (m:List Id),(!m.contains x)=m.all fun y=> !Id.is x y:=fun x m=>by
  rw[MD];simp only[HW,D4];constructor
  .intro h y g;exact AF fun e=>by subst e;simp[g]at h
  .intro h;cases f:m.contains x with
   |false=>rfl
   |true=>
    have:=h x zEY;rw[is_self]at this;cases this
 unfold Abs.apart;split
 .rename_i h;cases h;rfl
 .rename_i c h2;cases c;simp
 .rename_i c h2;cases c;cases h2;simp only[key]
 .simp_all
theorem HC(ρ:List Nat)(h:AD)(l:Id):AD.get (gc ρ h) (1::l)=AD.get h (1::l):=UC (fun id=>match id with|0::l=> !Id.under ρ l|_=>true) h (1::l) rfl
theorem QF(a b:AD)(id:Id):AD.get (a++b) id=(match AD.get a id with|some o=>some o|none=>AD.get b id):=by
 induction a with
 |nil=>rfl
 |cons p a c=>
  obtain⟨k,x⟩:=p;rw[DL,CK,CK];split
  .rfl
  .exact c
variable{a b:AD}
theorem B5{id:Id}(h:AD.get a id=none):AD.get (a++b) id=AD.get b id:=by rw[QF,h]
theorem Cz{id:Id}{o:Obj}(h:AD.get a id=some o):AD.get (a++b) id=some o:=by rw[QF,h]
theorem s6(g:G)(f:FuncId)(a:List AV)(x:AV)(c:List AV):FR g (.fn f a (x::c))=none:=by cases a<;>rfl
attribute [go_sem] HC s6
attribute [go_sem] dt fZ om sf fY oj vW vV ot gN XP XO
attribute [go_sem_proc] Nat.reduceEqDiff Nat.reduceAdd Nat.reduceSub Nat.reduceBEq Nat.reduceLeDiff Nat.reduceLT reduceCtorEq Int.reduceEq Int.reduceLT Int.reduceLE Int.reduceNeg Int.reduceToNat Int.reduceAdd Int.reduceSub
attribute [go_sem_proc ↓] reduceIte
attribute [go_sem] Int.cast_ofNat_Int Int.zero_add Nat.le_refl
class Sp(G:Prop)(P N A B:outParam Prop):Prop where
 go:(P→A)→(N→B)→G
theorem sx{G P N A B:Prop} [s:Sp G P N A B](a:P→A)(h2:N→B):G:=s.go a h2
class Sq(G:Prop)(α:outParam Type)(H:outParam Prop)(R M A:outParam (α→Prop)):Prop where
 go:H→(∀x,R x→M x→A x)→G
theorem sy{G:Prop}{α:Type}{H:Prop}{R M A:α→Prop} [s:Sq G α H R M A](a:H)(h2: ∀x,R x→M x→A x):G:=s.go a h2
theorem au{G:Prop}(h:G:=by(repeat' (first|simp only[go_sem, *]|(refine sx ?_ ?_<;>intro a)|refine sy AA fun x c b=>?_|simp(disch:=first|assumption|omega) only[wrap_id,RL,QN,slice_int]))):G:=h
theorem af{G:Prop}(h:G:=by(repeat' (first|simp only[go_sem, *,AM]|(refine sx ?_ ?_<;>intro a)|refine sy AA fun x c b=>?_|simp(disch:=first|assumption|omega) only[wrap_id,RL,QN,slice_int]))):G:=h
variable{R:Prop}
theorem aw{G:Prop}(h:R)(e:AH R→G:=by intro q;(repeat' (first|simp only[go_sem, *]|(refine sx ?_ ?_<;>intro a)|refine sy AA fun x c b=>?_|simp(disch:=first|assumption|omega) only[wrap_id,RL,QN,slice_int]));exact q.out):G:=e ⟨h⟩
theorem ax{G:Prop}(h:R)(e:AH R→G:=by intro q;(repeat' (first|simp only[go_sem, *,AM]|(refine sx ?_ ?_<;>intro a)|refine sy AA fun x c b=>?_|simp(disch:=first|assumption|omega) only[wrap_id,RL,QN,slice_int]));exact q.out):G:=e ⟨h⟩
variable{C:DD}{K:Ab}{fr:Fr}{b n i:Nat}{Q:Ea→St→Prop}
variable{ops:Array Oper}{al:Nat→Bool}{l:List Oper}{e:CB}{h:AD}{bs:Nat}{ds:List Df}{ps:List (Nat×Nat)}{fps:List Fp}{dst:Option Tmp}{st:St}{op:Op}{want:Bool}{az:List AV}{v:AV}{t:Bool}{p:Prop}{x y:Code}
instance(priority:=2000) [Decidable p]:Sp (M0 C K fr b x y st Q (.d (.bool (decide p)))) p (¬p) (Wp C K fr b x st Q) (Wp C K fr b y st Q):=⟨la⟩
instance(priority:=2000) [Decidable p]:Sp (De C K fr ops b n al l i dst op st want Q (.d (.bool (decide p)))) p (¬p) (De C K fr ops b n al l i dst op st want Q (.d (.bool true))) (De C K fr ops b n al l i dst op st want Q (.d (.bool false))):=⟨fT⟩
instance:Sp (M0 C K fr b x y st Q (.d (.bool t))) (t=true) (t=false) (Wp C K fr b x st Q) (Wp C K fr b y st Q):=⟨Zp⟩
instance:Sp (De C K fr ops b n al l i dst op st want Q (.d (.bool t))) (t=true) (t=false) (De C K fr ops b n al l i dst op st want Q (.d (.bool true))) (De C K fr ops b n al l i dst op st want Q (.d (.bool false))):=⟨YS⟩
instance(priority:=2000) [Decidable p]:Sp (ED C K fr ops b n al ps fps l i dst op st want Q (.d (.bool (decide p)))) p (¬p) (ED C K fr ops b n al ps fps l i dst op st want Q (.d (.bool true))) (ED C K fr ops b n al ps fps l i dst op st want Q (.d (.bool false))):=⟨fW⟩
instance:Sp (ED C K fr ops b n al ps fps l i dst op st want Q (.d (.bool t))) (t=true) (t=false) (ED C K fr ops b n al ps fps l i dst op st want Q (.d (.bool true))) (ED C K fr ops b n al ps fps l i dst op st want Q (.d (.bool false))):=⟨YT⟩
instance(priority:=2000) [Decidable p]:Sp (EJ C K fr ops b n al l i az dst e h bs ds Q (Cg v (decide p))) p (¬p) (EJ C K fr ops b n al l i az dst e h bs ds Q (Cg v true)) (EJ C K fr ops b n al l i az dst e h bs ds Q (Cg v false)):=⟨cU⟩
instance(priority:=2000) [Decidable p]:Sp (EJ C K fr ops b n al l i az dst e h bs ds Q (Cg v (!decide p))) (¬p) p (EJ C K fr ops b n al l i az dst e h bs ds Q (Cg v true)) (EJ C K fr ops b n al l i az dst e h bs ds Q (Cg v false)):=⟨Yq⟩
instance:Sp (EJ C K fr ops b n al l i az dst e h bs ds Q (Cg v t)) (t=true) (t=false) (EJ C K fr ops b n al l i az dst e h bs ds Q (Cg v true)) (EJ C K fr ops b n al l i az dst e h bs ds Q (Cg v false)):=⟨hZ⟩
instance(priority:=2000) [Decidable p]:Sp (EI C K fr ops b n al ps fps l i az dst e h bs ds Q (Cg v (decide p))) p (¬p) (EI C K fr ops b n al ps fps l i az dst e h bs ds Q (Cg v true)) (EI C K fr ops b n al ps fps l i az dst e h bs ds Q (Cg v false)):=⟨cT⟩
instance(priority:=2000) [Decidable p]:Sp (EI C K fr ops b n al ps fps l i az dst e h bs ds Q (Cg v (!decide p))) (¬p) p (EI C K fr ops b n al ps fps l i az dst e h bs ds Q (Cg v true)) (EI C K fr ops b n al ps fps l i az dst e h bs ds Q (Cg v false)):=⟨Yp⟩
instance:Sp (EI C K fr ops b n al ps fps l i az dst e h bs ds Q (Cg v t)) (t=true) (t=false) (EI C K fr ops b n al ps fps l i az dst e h bs ds Q (Cg v true)) (EI C K fr ops b n al ps fps l i az dst e h bs ds Q (Cg v false)):=⟨gx⟩
instance{α:Type}{f:α→List Ao}{l':List α}{sz j:Nat}:Sq (CU C K fr ops b n al l i dst e h bs ds Q (UR sz (Option.map f l'[j]?))) α (j<l'.length) (fun x=>l'[j]? =some x) (fun x=>x∈l') (fun x=>CU C K fr ops b n al l i dst e h bs ds Q (UR sz (some (f x)))):=⟨fun h1 h2=>pK h1 fun x hx=>h2 x hx (AS hx)⟩
instance{α:Type}{f:α→List Ao}{l':List α}{sz j:Nat}{rd:List Id}:Sq (EG C K fr ops b n al ps fps l i dst e h bs ds Q rd (UR sz (Option.map f l'[j]?))) α (j<l'.length) (fun x=>l'[j]? =some x) (fun x=>x∈l') (fun x=>EG C K fr ops b n al ps fps l i dst e h bs ds Q rd (UR sz (some (f x)))):=⟨fun h1 h2=>pJ h1 fun x hx=>h2 x hx (AS hx)⟩
instance{s:ByteArray}{j:Nat}{f:UInt8→Cx}:Sq (CU C K fr ops b n al l i dst e h bs ds Q (Option.map f s.data.toList[j]?)) UInt8 (j<s.data.toList.length) (fun x=>s.data.toList[j]? =some x) (fun x=>x∈s.data.toList) (fun x=>CU C K fr ops b n al l i dst e h bs ds Q (some (f x))):=⟨fun h1 h2=>pN h1 fun x hx=>h2 x hx (AS hx)⟩
end Go.Abs
namespace Go.Proofs
open Go Go.Abs
theorem T3:cfg.T 3=(.some ⟨.int,1,false,false,[(.d (.int .i64 0))],[],0,0,false⟩):=zET
theorem T4:cfg.T 4=(.some ⟨.bool,1,false,false,[(.d (.bool false))],[],0,0,false⟩):=zET
theorem T5:cfg.T 5=(.some ⟨.int,1,false,false,[(.d (.int .u8 0))],[],0,0,false⟩):=zET
theorem T9:cfg.T 9=(.some ⟨.str,1,false,false,[(.d (.str ⟨#[]⟩))],[],0,0,false⟩):=zET
theorem rA:cfg.T 22=(.some ⟨.slice,1,false,false,[.d7],[],9,0,false⟩):=zET
theorem q4:cfg.T 23=(.some ⟨.slice,1,false,false,[.d7],[],140,0,false⟩):=zET
theorem ze:cfg.T 24=(.some ⟨.slice,1,false,false,[.d7],[],147,0,false⟩):=zET
theorem vc:cfg.T 26=(.some ⟨.other,4,true,true,[.d7,.d7,.d7,(.d (.int .i64 0))],[(0,1,false),(1,1,false),(2,1,false),(3,1,false)],0,0,false⟩):=zET
theorem oz:cfg.T 27=(.some ⟨.slice,1,false,false,[.d7],[],66,0,false⟩):=zET
theorem yy:cfg.T 28=(.some ⟨.slice,1,false,false,[.d7],[],114,0,false⟩):=zET
theorem T29:cfg.T 29=(.some ⟨.slice,1,false,false,[.d7],[],69,0,false⟩):=zET
theorem w6:cfg.T 30=(.some ⟨.slice,1,false,false,[.d7],[],127,0,false⟩):=zET
theorem xn:cfg.T 32=(.some ⟨.other,4,true,true,[.d7,.d7,.d7,.d7],[(0,1,false),(1,1,false),(2,1,false),(3,1,false)],0,0,false⟩):=zET
theorem vm:cfg.T 33=(.some ⟨.int,1,false,false,[(.d (.int .i64 0))],[],0,0,false⟩):=zET
theorem zz:cfg.T 36=(.some ⟨.slice,1,false,false,[.d7],[],3,0,false⟩):=zET
theorem ui:cfg.T 38=(.some ⟨.other,4,true,true,[(.d (.int .i64 0)),(.d (.int .i64 0)),(.d (.int .i64 0)),.d7],[(0,1,false),(1,1,false),(2,1,false),(3,1,false)],0,0,false⟩):=zET
theorem mB:cfg.T 44=(.some ⟨.slice,1,false,false,[.d7],[],78,0,false⟩):=zET
theorem ti:cfg.T 63=(.some ⟨.slice,1,false,false,[.d7],[],38,0,false⟩):=zET
theorem nM:cfg.T 66=(.some ⟨(.flat [.int,.bool]),2,true,true,[(.d (.int .i64 0)),(.d (.bool false))],[(0,1,false),(1,1,false)],0,0,false⟩):=zET
theorem T67:cfg.T 67=(.some ⟨.slice,1,false,false,[.d7],[],73,0,false⟩):=zET
theorem T69:cfg.T 69=(.some ⟨.other,4,true,true,[(.d (.int .i64 0)),(.d (.int .i64 0)),(.d (.int .i64 0)),.d7],[(0,1,false),(1,1,false),(2,1,false),(3,1,false)],0,0,true⟩):=zET
theorem rB:cfg.T 71=(.some ⟨.slice,1,false,false,[.d7],[],88,0,false⟩):=zET
theorem T73:cfg.T 73=(.some ⟨.other,1,true,true,[.d7],[(0,1,false)],0,0,false⟩):=zET
theorem w5:cfg.T 76=(.some ⟨.int,1,false,false,[(.d (.int .i64 0))],[],0,0,false⟩):=zET
theorem T78:cfg.T 78=(.some ⟨.other,5,true,true,[(.d (.int .i64 0)),(.d (.int .i64 0)),(.d (.int .i64 0)),(.d (.int .i64 0)),.d7],[(0,1,false),(1,1,false),(2,1,false),(3,1,false),(4,1,false)],0,0,false⟩):=zET
theorem kM:cfg.T 82=(.some ⟨.int,1,false,false,[(.d (.int .i64 0))],[],0,0,false⟩):=zET
theorem r5:cfg.T 83=(.some ⟨.slice,1,false,false,[.d7],[],85,0,false⟩):=zET
theorem T85:cfg.T 85=(.some ⟨.other,3,true,true,[(.d (.int .i64 0)),(.d (.int .i64 0)),.d7],[(0,1,false),(1,1,false),(2,1,false)],0,0,false⟩):=zET
theorem o0:cfg.T 86=(.some ⟨.int,1,false,false,[(.d (.int .i64 0))],[],0,0,false⟩):=zET
theorem nV:cfg.T 88=(.some ⟨(.flat [.int,.int]),2,true,true,[(.d (.int .i64 0)),(.d (.int .i64 0))],[(0,1,false),(1,1,false)],0,0,false⟩):=zET
theorem z0:cfg.T 114=(.some ⟨.other,3,true,true,[(.d (.int .i64 0)),(.d (.int .i64 0)),.d7],[(0,1,false),(1,1,false),(2,1,false)],0,0,false⟩):=zET
theorem kV:cfg.T 118=(.some ⟨.ptr,1,false,false,[(.d .wp)],[],0,0,false⟩):=zET
theorem AD7:cfg.T 122=(.some ⟨.map,1,false,false,[(.d .wn)],[],198,138,false⟩):=zET
theorem ug:cfg.T 124=(.some ⟨.other,13,true,true,[.d7,.d7,.d7,.d7,.d7,.d7,.d7,(.d (.int .i64 0)),.d7,.d7,(.d .wn),.d7,(.d (.int .i64 0))],[(0,4,true),(4,4,true),(8,1,false),(9,1,false),(10,1,false),(11,1,false),(12,1,false)],0,0,false⟩):=zET
theorem o3:cfg.T 127=(.some ⟨.other,3,true,true,[(.d (.int .i64 0)),(.d (.int .i64 0)),.d7],[(0,1,false),(1,1,false),(2,1,false)],0,0,false⟩):=zET
theorem AEA:cfg.T 138=(.some ⟨.int,1,false,false,[(.d (.int .i64 0))],[],0,0,false⟩):=zET
theorem q6:cfg.T 140=(.some ⟨.other,4,true,true,[(.d (.int .i64 0)),(.d (.int .i64 0)),.d7,.d7],[(0,1,false),(1,1,false),(2,1,false),(3,1,false)],0,0,false⟩):=zET
theorem m0:cfg.T 143=(.some ⟨.slice,1,false,false,[.d7],[],187,0,false⟩):=zET
theorem n3:cfg.T 144=(.some ⟨.slice,1,false,false,[.d7],[],189,0,false⟩):=zET
theorem AEE:cfg.T 145=(.some ⟨.slice,1,false,false,[.d7],[],151,0,false⟩):=zET
theorem nz:cfg.T 147=(.some ⟨.other,3,true,true,[.d7,.d7,.d7],[(0,1,false),(1,1,false),(2,1,false)],0,0,false⟩):=zET
theorem p1:cfg.T 151=(.some ⟨.other,3,true,true,[(.d (.int .i64 0)),.d7,(.d (.int .i64 0))],[(0,1,false),(1,1,false),(2,1,false)],0,0,false⟩):=zET
theorem AEH:cfg.T 162=(.some ⟨.other,8,true,true,[.d7,.d7,.d7,(.d (.int .i64 0)),.d7,.d7,.d7,(.d (.bool false))],[(0,4,true),(4,1,false),(5,1,false),(6,1,false),(7,1,false)],0,0,false⟩):=zET
theorem mo:cfg.T 171=(.some ⟨.other,11,true,true,[.d7,.d7,.d7,(.d (.int .i64 0)),.d7,.d7,.d7,.d7,.d7,(.d (.int .i64 0)),(.d (.bool false))],[(0,4,true),(4,4,true),(8,1,false),(9,1,false),(10,1,false)],0,0,false⟩):=zET
theorem m6:cfg.T 177=(.some ⟨(.flat [.int]),1,true,true,[(.d (.int .i64 0))],[(0,1,false)],0,0,false⟩):=zET
theorem sg:cfg.T 180=(.some ⟨.func,1,false,false,[(.d .lc)],[],0,0,false⟩):=zET
theorem k8:cfg.T 187=(.some ⟨(.flat [.int,.int]),2,true,true,[(.d (.int .i64 0)),(.d (.int .i64 0))],[(0,1,false),(1,1,false)],0,0,false⟩):=zET
theorem m4:cfg.T 189=(.some ⟨(.flat [.int,.int]),2,true,true,[(.d (.int .i64 0)),(.d (.int .i64 0))],[(0,1,false),(1,1,false)],0,0,false⟩):=zET
theorem mW:cfg.T 198=(.some ⟨.func,1,false,false,[(.d .lc)],[],0,0,false⟩):=zET
theorem xo:cfg.T 201=(.some ⟨.other,3,true,true,[(.d (.int .i64 0)),(.d (.int .i64 0)),.d7],[(0,1,false),(1,1,false),(2,1,false)],0,0,false⟩):=zET
theorem z2:cfg.T 246=(.some ⟨.slice,1,false,false,[.d7],[],4,0,false⟩):=zET
theorem AEQ:cfg.T 248=(.some ⟨.other,7,true,true,[.d7,.d7,.d7,(.d (.int .i64 0)),.d7,.d7,.d7],[(0,4,true),(4,1,false),(5,1,false),(6,1,false)],0,0,false⟩):=zET
theorem n4:cfg.T 249=(.some ⟨.func,1,false,false,[(.d .lc)],[],0,0,false⟩):=zET
theorem p5:cfg.T 289=(.some ⟨(.flat [.int]),1,true,true,[(.d (.int .i64 0))],[(0,1,false)],0,0,false⟩):=zET
theorem Wm:cfg.T 300=(.some ⟨.map,1,false,false,[(.d .wn)],[],4,9,false⟩):=zET
theorem AET:cfg.T 303=(.some ⟨.iface,1,false,false,[(.d .rg)],[],0,0,false⟩):=zET
theorem u3:cfg.T 307=(.some ⟨(.flat []),0,true,true,[],[],0,0,false⟩):=zET
theorem z3:cfg.T 308=(.some ⟨(.flat []),0,true,true,[],[],0,0,false⟩):=zET
theorem AEW:cfg.T 309=(.some ⟨(.flat []),0,true,true,[],[],0,0,false⟩):=zET
theorem s4:cfg.T 310=(.some ⟨(.flat []),0,true,true,[],[],0,0,false⟩):=zET
theorem AEY:cfg.T 311=(.some ⟨.func,1,false,false,[(.d .lc)],[],0,0,false⟩):=zET
theorem k6:cfg.T 314=(.some ⟨.int,1,false,false,[(.d (.int .i64 0))],[],0,0,false⟩):=zET
theorem OI:cfg.T 315=(.some ⟨.map,1,false,false,[(.d .wn)],[],4,3,false⟩):=zET
theorem zw:cfg.mode 19=.auto∧
 cfg.mode 20=.auto∧
 cfg.mode 21=.auto∧
 cfg.d9 21 7=[(4,8),(7,8)]∧
 cfg.d9 21 8=[(1,2)]∧
 cfg.mode 22=.auto∧
 cfg.d9 22 7=[]∧
 cfg.live 22 0=[3,4,5,6,9,10]∧
 cfg.mode 23=.auto∧
 cfg.d9 23 6=[]∧
 cfg.d9 23 11=[]∧
 cfg.d9 23 16=[]∧
 cfg.d9 23 21=[]∧
 cfg.live 23 0=[2,3,5]∧
 cfg.live 23 2=[2,3,6]∧
 cfg.live 23 4=[2,3,7]∧
 cfg.live 23 6=[2,3,8]∧
 cfg.mode 24=.auto∧
 cfg.d9 24 6=[]∧
 cfg.live 24 0=[0,1,5]∧
 cfg.mode 29=.auto∧
 cfg.d9 29 6=[]∧
 cfg.live 29 0=[0,1,5]∧
 cfg.mode 32=.auto∧
 cfg.d9 32 6=[]∧
 cfg.d9 32 15=[]∧
 cfg.live 32 0=[2,3,5]∧
 cfg.live 32 2=[2,3,6,7]∧
 cfg.mode 34=.auto∧
 cfg.d9 34 5=[]∧
 cfg.d9 34 11=[]∧
 cfg.mode 37=.auto∧
 cfg.d9 37 6=[]∧
 cfg.live 37 0=[0,1,5]∧
 cfg.mode 38=.auto∧
 cfg.live 38 0=[1,2,3]∧
 cfg.mode 44=.auto∧
 cfg.mode 51=.own∧
 cfg.d9 52 9=[]∧
 cfg.d9 52 12=[(4,9)]:=by(repeat' apply And.intro)<;>kernel_rfl
theorem zx:cfg.d9 52 17=[(5,9)]∧
 cfg.live 52 0=[0,3,13,18,19,20,102,103,104,105,106,107,108,109]∧
 cfg.live 52 2=[0,3,13,40,41,42,102,103,104,105,106,107,108,109]∧
 cfg.live 52 4=[0,3,6,7,13,40,41,42,56,57,58,102,103,104,105,106,107,108,109]∧
 cfg.live 52 6=[0,3,6,7,8,10,13,40,41,42,56,57,58,77,78,79,102,103,104,105,106,107,108,109]∧
 cfg.mode 54=.auto∧
 cfg.mode 55=.auto∧
 cfg.d9 55 4=[(4,9),(6,9),(7,9),(8,9)]∧
 cfg.d9 55 5=[]∧
 cfg.d9 55 6=[(4,9),(6,9),(7,9),(8,9)]∧
 cfg.d9 55 11=[]∧
 cfg.d9 55 12=[]∧
 cfg.d9 55 14=[]∧
 cfg.d9 55 15=[]∧
 cfg.alone 55 15 9=true∧
 cfg.mode 56=.auto∧
 cfg.d9 56 1=[(0,2)]∧
 cfg.mode 57=.auto∧
 cfg.d9 57 6=[]∧
 cfg.live 57 0=[0,1,5]∧
 cfg.mode 58=.auto∧
 cfg.mode 61=.auto∧
 cfg.live 61 0=[0,17,18]∧
 cfg.live 61 2=[0,3,4,17,18]∧
 cfg.mode 62=.auto∧
 cfg.mode 63=.auto∧
 cfg.live 63 0=[0,1,2]∧
 cfg.mode 64=.auto∧
 cfg.live 64 0=[1,3]∧
 cfg.live 64 2=[1,3,4,5]∧
 cfg.mode 65=.own∧
 cfg.d9 65 3=[(0,5)]∧
 cfg.d9 65 8=[]∧
 cfg.live 65 0=[3,5,25,26,27]∧
 cfg.mode 66=.auto∧
 cfg.d9 66 2=[]∧
 cfg.mode 67=.auto∧
 cfg.d9 67 7=[]∧
 cfg.d9 67 19=[]∧
 cfg.live 67 0=[2,3,5,6,7,8]:=by(repeat' apply And.intro)<;>kernel_rfl
theorem zy:cfg.live 67 2=[2,3,5,6,7,8,9,10,11,12]∧
 cfg.live 67 4=[2,3,5,6,7,8,10,14]∧
 cfg.mode 68=.auto∧
 cfg.mode 69=.auto∧
 cfg.mode 70=.auto∧
 cfg.d9 70 4=[]∧
 cfg.live 70 0=[2,3,4,7]∧
 cfg.mode 71=.auto∧
 cfg.mode 72=.auto∧
 cfg.d9 72 4=[(1,6)]∧
 cfg.d9 72 11=[]∧
 cfg.live 72 0=[5,9,11,12,13,14]∧
 cfg.mode 73=.raw∧
 cfg.live 73 0=[0,1,2,3,4,11]∧
 cfg.mode 75=.auto∧
 cfg.d9 75 6=[(5,8),(6,8),(5,9),(6,9),(5,10),(6,10)]∧
 cfg.mode 76=.auto∧
 cfg.mode 77=.auto∧
 cfg.mode 78=.auto∧
 cfg.d9 78 6=[(5,8),(6,8),(5,9),(6,9),(5,10),(6,10)]∧
 cfg.mode 83=.own∧
 cfg.d9 83 8=[]∧
 cfg.d9 83 13=[(6,8),(6,9),(4,10),(5,10),(6,10),(6,12),(10,12),(6,13),(10,13),(4,14),(5,14),(6,14),(8,14),(9,14),(10,14),(8,17),(9,17),(10,17),(12,17),(13,17),(14,17),(12,20),(13,20),(14,20)]∧
 cfg.live 83 0=[1,3,4]∧
 cfg.live 83 2=[1,3,5]∧
 cfg.live 83 4=[3,6]∧
 cfg.live 83 6=[3,7]∧
 cfg.mode 87=.auto∧
 cfg.d9 87 19=[(5,9),(5,11)]∧
 cfg.mode 88=.auto∧
 cfg.d9 88 3=[(7,8)]∧
 cfg.mode 91=.ro∧
 cfg.d9 91 5=[]∧
 cfg.d9 91 11=[]∧
 cfg.d9 91 13=[]∧
 cfg.d9 91 14=[(4,9),(6,9),(7,9),(8,9)]∧
 cfg.d9 91 30=[(12,17)]∧
 cfg.d9 91 31=[]∧
 cfg.d9 91 38=[]∧
 cfg.d9 91 45=[]:=by(repeat' apply And.intro)<;>kernel_rfl
theorem z5:cfg.d9 91 46=[]∧
 cfg.d9 91 51=[]∧
 cfg.live 91 0=[0,65,66,67]∧
 cfg.live 91 2=[0,4,5,92,93,94]∧
 cfg.live 91 4=[0,4,5,6,7,8,9,92,93,94,155,156]∧
 cfg.live 91 6=[0,4,5,6,7,8,9,92,93,94,172,173]∧
 cfg.live 91 8=[0,4,5,6,7,8,92,93,94,192,193,194]∧
 cfg.live 91 10=[0,4,5,6,7,8,13,92,93,94,192,193,194,255,256,257]∧
 cfg.live 91 12=[0,303,304,305]∧
 cfg.alone 91 5 15=true∧
 cfg.alone 91 11 14=true∧
 cfg.alone 91 13 11=true∧
 cfg.alone 91 30 20=true∧
 cfg.alone 91 31 23=true∧
 cfg.alone 91 45 27=true∧
 cfg.alone 91 51 11=true∧
 cfg.mode 92=.own∧
 cfg.d9 92 1=[(2,4),(2,7),(5,7),(2,10),(5,10),(8,10)]∧
 cfg.mode 93=.ro∧
 cfg.d9 93 1=[(4,9),(6,9),(7,9),(8,9)]∧
 cfg.d9 93 8=[]∧
 cfg.d9 93 9=[]∧
 cfg.mode 94=.ro∧
 cfg.mode 95=.ro∧
 cfg.d9 95 1=[(4,9),(6,9),(7,9),(8,9)]∧
 cfg.mode 96=.own∧
 cfg.mode 99=.auto∧
 cfg.d9 99 6=[]∧
 cfg.live 99 0=[0,1,12,13]∧
 cfg.mode 100=.auto∧
 cfg.d9 100 1=[(4,9),(6,9),(7,9),(8,9)]∧
 cfg.d9 100 2=[(4,14),(6,14),(7,14),(9,14),(11,14),(12,14),(13,14)]∧
 cfg.d9 100 7=[(4,8)]∧
 cfg.d9 100 8=[]∧
 cfg.d9 100 9=[]∧
 cfg.d9 100 13=[(2,6),(2,8)]∧
 cfg.live 100 0=[0,3,4,5,6,35,36,37]∧
 cfg.alone 100 13 9=true∧
 cfg.mode 101=.raw∧
 cfg.d9 101 5=[]:=by(repeat' apply And.intro)<;>kernel_rfl
theorem z6:cfg.mode 102=.auto∧
 cfg.d9 102 8=[(0,7)]∧
 cfg.d9 102 12=[]∧
 cfg.live 102 0=[1,2,15,16]∧
 cfg.live 102 2=[2,51,52,53]∧
 cfg.mode 103=.auto∧
 cfg.d9 103 0=[(4,10),(4,12)]∧
 cfg.mode 104=.own∧
 cfg.d9 104 5=[(1,20),(3,20),(5,20),(7,20),(9,20),(11,20),(13,20),(1,22)]∧
 cfg.d9 104 9=[(1,19),(3,19),(5,19),(7,19),(9,19),(11,19),(13,19),(15,19),(17,19)]∧
 cfg.d9 104 13=[(1,12),(1,14)]∧
 cfg.d9 104 18=[(1,20),(3,20),(5,20),(7,20),(9,20),(11,20),(13,20),(1,22)]∧
 cfg.live 104 0=[1,2,3,4]∧
 cfg.live 104 2=[1,2,3,5]∧
 cfg.live 104 4=[1,2,3,5,6,7]∧
 cfg.live 104 6=[1,2,3,8]∧
 cfg.mode 105=.auto∧
 cfg.d9 105 1=[(1,6),(1,8),(1,14),(9,14),(1,17),(9,17)]∧
 cfg.d9 105 2=[(4,9),(6,9),(7,9),(8,9)]∧
 cfg.d9 105 6=[(4,9)]∧
 cfg.d9 105 7=[]∧
 cfg.d9 105 8=[]∧
 cfg.d9 105 10=[(4,8)]∧
 cfg.d9 105 13=[(4,15)]∧
 cfg.d9 105 14=[]∧
 cfg.mode 106=.auto∧
 cfg.d9 106 1=[(4,9),(6,9),(7,9),(8,9)]∧
 cfg.d9 106 2=[(4,9),(6,9),(7,9),(8,9)]∧
 cfg.d9 106 9=[]∧
 cfg.d9 106 12=[(4,6),(6,9),(6,11),(6,12),(6,13),(4,14),(6,17),(14,17),(6,19),(14,19),(6,20),(14,20),(6,22),(14,22),(4,23)]∧
 cfg.d9 106 13=[]∧
 cfg.d9 106 14=[(4,11),(7,11),(9,11),(4,13)]∧
 cfg.d9 106 15=[(2,6),(2,8)]∧
 cfg.live 106 0=[0,3,4,6,7,8,9]∧
 cfg.mode 107=.auto∧
 cfg.mode 109=.auto∧
 cfg.mode 110=.auto∧
 cfg.d9 110 1=[(4,9),(6,9),(7,9),(8,9)]∧
 cfg.d9 110 13=[]∧
 cfg.d9 110 14=[]:=by(repeat' apply And.intro)<;>kernel_rfl
theorem z7:cfg.live 110 0=[0,3,4,5,20,21,22]∧
 cfg.mode 111=.auto∧
 cfg.d9 111 1=[]∧
 cfg.live 111 0=[0,3,15,16,17]∧
 cfg.mode 112=.auto∧
 cfg.d9 112 1=[(4,9),(6,9),(7,9),(8,9)]∧
 cfg.d9 112 2=[(4,9),(6,9),(7,9),(8,9)]∧
 cfg.d9 112 3=[(1,6),(3,6),(1,8),(3,8),(5,8),(6,8)]∧
 cfg.d9 112 7=[(1,11)]∧
 cfg.d9 112 12=[(1,11)]∧
 cfg.d9 112 17=[(5,17),(10,17),(11,17),(5,19)]∧
 cfg.d9 112 22=[(5,10),(5,12)]∧
 cfg.d9 112 24=[(5,7)]∧
 cfg.d9 112 31=[(2,7),(7,9)]∧
 cfg.d9 112 33=[]∧
 cfg.live 112 0=[0,3,4,5,6,43,44]∧
 cfg.live 112 2=[0,3,4,5,6,64,65]∧
 cfg.live 112 4=[0,3,4,5,6,84,85,86]∧
 cfg.live 112 6=[0,3,4,5,6,117,118,119]∧
 cfg.live 112 8=[0,3,4,6,175,176,177]∧
 cfg.alone 112 31 10=true∧
 cfg.alone 112 33 9=true∧
 cfg.mode 113=.auto∧
 cfg.d9 113 1=[(4,9),(6,9),(7,9),(8,9)]∧
 cfg.d9 113 2=[(2,9),(2,10),(2,12),(9,16),(10,16),(12,16),(9,18),(10,18),(12,18)]∧
 cfg.alone 113 2 19=true∧
 cfg.mode 114=.auto∧
 cfg.d9 114 1=[(5,12),(7,12),(9,12),(5,14)]∧
 cfg.mode 115=.auto∧
 cfg.d9 115 7=[]∧
 cfg.live 115 0=[1,3,4,5]∧
 cfg.mode 116=.auto∧
 cfg.d9 116 6=[(12,17)]∧
 cfg.d9 116 11=[]∧
 cfg.live 116 0=[5,6,11,13,14]∧
 cfg.mode 117=.auto∧
 cfg.mode 118=.auto∧
 cfg.mode 119=.auto∧
 cfg.mode 120=.auto∧
 cfg.mode 121=.auto:=by(repeat' apply And.intro)<;>kernel_rfl
theorem z8:cfg.live 121 0=[1,2,5,6]∧
 cfg.mode 122=.auto∧
 cfg.live 122 0=[1,3,4]∧
 cfg.mode 123=.auto∧
 cfg.mode 124=.auto∧
 cfg.mode 127=.auto∧
 cfg.live 127 0=[0,3]∧
 cfg.mode 128=.auto∧
 cfg.d9 128 6=[]∧
 cfg.d9 128 24=[]∧
 cfg.live 128 0=[1,3]∧
 cfg.live 128 2=[1,4]∧
 cfg.live 128 4=[1,5,6]∧
 cfg.live 128 6=[1,5,6,7,8]∧
 cfg.live 128 8=[1,5,6,7,8,9,10]∧
 cfg.live 128 10=[5,11]∧
 cfg.mode 129=.auto∧
 cfg.d9 129 20=[]∧
 cfg.d9 129 22=[]∧
 cfg.d9 129 23=[]∧
 cfg.d9 129 24=[]∧
 cfg.live 129 0=[0,2,6,10]∧
 cfg.live 129 3=[0,6,11,12]∧
 cfg.mode 143=.auto∧
 cfg.d9 143 8=[(4,10)]∧
 cfg.d9 143 10=[(4,9),(6,9),(7,9),(8,9)]∧
 cfg.d9 143 11=[(4,9),(6,9),(7,9),(8,9)]∧
 cfg.d9 143 12=[]∧
 cfg.d9 143 13=[(4,11),(6,11),(8,11),(4,12),(6,12)]∧
 cfg.live 143 0=[0,2,3,5,8,9]∧
 cfg.mode 144=.auto∧
 cfg.d9 144 1=[(4,9),(6,9),(7,9),(8,9)]∧
 cfg.d9 144 2=[(1,4),(1,6),(4,6)]∧
 cfg.d9 144 6=[(1,11)]∧
 cfg.d9 144 10=[(1,11)]∧
 cfg.d9 144 14=[(5,24),(10,24),(11,24),(5,26)]∧
 cfg.d9 144 18=[(5,17),(5,19)]∧
 cfg.d9 144 19=[(5,7)]∧
 cfg.d9 144 24=[(2,14),(4,14),(6,14),(14,16)]∧
 cfg.d9 144 25=[]:=by(repeat' apply And.intro)<;>kernel_rfl
theorem z9:cfg.live 144 0=[0,2,5,8,9,10]∧
 cfg.live 144 2=[0,2,5,8,9,11]∧
 cfg.live 144 4=[0,2,5,8,9,12]∧
 cfg.live 144 6=[0,2,5,8,9,13]∧
 cfg.live 144 8=[0,2,5,8,9,14]∧
 cfg.mode 145=.own∧
 cfg.mode 146=.ro∧
 cfg.mode 147=.ro∧
 cfg.live 147 0=[0,13,14,15]∧
 cfg.mode 148=.own∧
 cfg.live 148 0=[1,5,8,9,10]∧
 cfg.mode 150=.own∧
 cfg.live 150 0=[1,5,8,9,10]∧
 cfg.d9 151 1=[(1,6),(3,6)]∧
 cfg.mode 152=.own∧
 cfg.mode 153=.own∧
 cfg.live 153 0=[1,5,8,9,10]∧
 cfg.mode 154=.own∧
 cfg.d9 154 1=[(1,8),(3,8),(5,8)]∧
 cfg.mode 155=.own∧
 cfg.mode 156=.own∧
 cfg.live 156 0=[1,5,8,9,10]∧
 cfg.d9 157 1=[(1,6),(3,6)]∧
 cfg.d9 158 4=[]∧
 cfg.live 158 0=[0,1,3]∧
 cfg.live 158 2=[0,1,3,4]∧
 cfg.mode 159=.auto∧
 cfg.live 159 0=[0,3,4]∧
 cfg.mode 160=.own∧
 cfg.mode 161=.raw∧
 cfg.d9 161 5=[]∧
 cfg.mode 162=.raw∧
 cfg.live 162 0=[0,1,5,6]∧
 cfg.mode 163=.ro∧
 cfg.d9 163 1=[]∧
 cfg.mode 164=.auto∧
 cfg.d9 164 9=[]∧
 cfg.d9 164 15=[]∧
 cfg.live 164 0=[0,1,4]∧
 cfg.live 164 2=[0,5,6]:=by(repeat' apply And.intro)<;>kernel_rfl
theorem n5:cfg.live 164 4=[0,7]∧
 cfg.mode 165=.auto∧
 cfg.mode 166=.auto∧
 cfg.mode 167=.auto∧
 cfg.live 167 0=[0,1,5]∧
 cfg.mode 168=.auto∧
 cfg.mode 169=.auto∧
 cfg.mode 170=.auto∧
 cfg.d9 170 4=[(2,14),(4,14),(6,14)]∧
 cfg.live 170 0=[0,2,4,6]∧
 cfg.live 170 2=[0,2,4,7]∧
 cfg.mode 180=.ro∧
 cfg.mode 181=.own∧
 cfg.live 181 0=[1,5,8,9,10]∧
 cfg.mode 183=.own∧
 cfg.live 183 0=[1,5,8,9,10]∧
 cfg.mode 185=.ro∧
 cfg.live 185 0=[0,1,7,8]∧
 cfg.mode 186=.auto∧
 cfg.mode 187=.auto∧
 cfg.live 187 0=[0,2,5,9,10]∧
 cfg.mode 188=.auto∧
 cfg.d9 188 5=[]∧
 cfg.live 188 0=[2,3,5,6]∧
 cfg.mode 190=.own∧
 cfg.d9 190 7=[(0,4),(4,6),(4,7),(0,8),(2,8),(3,8),(4,8),(4,10),(8,10),(4,11),(8,11),(0,12),(2,12),(3,12),(4,12),(6,12),(7,12),(8,12)]∧
 cfg.live 190 0=[1,24,25,26]∧
 cfg.mode 199=.auto∧
 cfg.mode 200=.auto∧
 cfg.live 200 0=[0,5,6]∧
 cfg.mode 201=.auto∧
 cfg.d9 201 1=[]∧
 cfg.d9 201 4=[(4,7),(5,7)]∧
 cfg.d9 201 14=[]∧
 cfg.d9 201 25=[]∧
 cfg.d9 201 26=[(4,9),(6,9),(7,9),(8,9)]∧
 cfg.d9 201 32=[(2,6)]∧
 cfg.live 201 1=[0,2,6,154,155,156]∧
 cfg.live 201 3=[0,2,6,11,190,191,192]∧
 cfg.live 201 5=[0,2,6,207,208,209]:=by(repeat' apply And.intro)<;>kernel_rfl
theorem rm:cfg.un 50=some 177:=Eq.trans (b:=cfg.un 50) rfl zET
theorem Vy:cfg.un 189=some 289:=Eq.trans (b:=cfg.un 189) rfl zET
theorem n2:cfg.live 201 7=[0,2,220,221,222]∧
 cfg.alone 201 4 10=true∧
 cfg.alone 201 14 25=true∧
 cfg.alone 201 32 8=true∧
 cfg.mode 202=.auto∧
 cfg.mode 210=.own∧
 cfg.mode 211=.auto∧
 cfg.mode 212=.auto∧
 cfg.mode 213=.auto∧
 cfg.d9 213 23=[]∧
 cfg.live 213 0=[1,2,31,32,33]∧
 cfg.live 213 2=[1,2,52,53,54]∧
 cfg.live 213 4=[1,2,7,72,73,74]∧
 cfg.live 213 6=[1,2,7,9,72,73,74,94,95,96]∧
 cfg.alone 213 23 29=true∧
 cfg.mode 214=.auto∧
 cfg.mode 215=.auto∧
 cfg.live 215 0=[2,5,9,10,11]∧
 cfg.mode 216=.auto∧
 cfg.live 216 0=[0,1,7,8]∧
 cfg.mode 217=.auto∧
 cfg.live 217 1=[1,4,73,74,75]∧
 cfg.mode 218=.auto∧
 cfg.mode 219=.auto∧
 cfg.mode 220=.auto∧
 cfg.live 220 0=[0,1,7,8]∧
 cfg.mode 236=.auto∧
 cfg.mode 237=.auto∧
 cfg.mode 238=.auto∧
 cfg.mode 239=.auto∧
 cfg.mode 240=.auto:=by(repeat' apply And.intro)<;>kernel_rfl
attribute [go_sem] T3 T4 T5 T9 rA q4 ze vc oz yy T29 w6 xn vm zz ui mB ti nM T67 T69 rB T73 w5 T78 kM r5 T85 o0 nV z0 kV AD7 ug o3 AEA q6 m0 n3 AEE nz p1 AEH mo m6 sg k8 m4 mW xo z2 AEQ n4 p5 Wm AET u3 z3 AEW s4 AEY k6 OI rm Vy zw zx zy z5 z6 z7 z8 z9 n5 n2
inductive Bu where
 |mk (op n:Int) (kids:List Bu)
def Bu.op:Bu→Int|.mk o _ _=>o
def Bu.n:Bu→Int|.mk _ n _=>n
def Bu.kids:Bu→List Bu|.mk _ _ k=>k
structure Cl where
 kind:Int
 n:Int
 deriving DecidableEq
structure C2 where
 op:Int
 n:Int
 args:List Bu
 kids:List Int
structure IL where
 at_:Int
 many:Int
structure Oh where
 rc:Int
 node:Int
structure GH where
 at_:Int
 eq:List Int
 node:Int
structure CG where
 be:List IL
 ac:List Oh
 rules:List GH
structure AX where
 free:List ByteArray
 nodes:List C2
 defs:List CG
 main:Int
structure Bn where
 rc:Int
 dead:Bool
 deriving DecidableEq
structure A8 where
 f9:Int
 at_:Int
 env:List Cl
structure Gp where
 group:Int
 index:Int
 at_:Int
 queue:List (List Cl)
structure GI where
 at_:Int
 node:Int
 env:List Cl
structure BX where
 ac:List Bn
 ce:List A8
 be:List Gp
 waits:List GI
structure Dp where
 wait:Int
 group:Int
 rt:Int
 kw:List Int
structure GK where
 deed:Int
 at_:Int
 n:Int
 m:Int
 of:List Cl
mutual
def BQ:Bu→List Ao
 |.mk op n kids=>[.int .i64 op,.int .i64 n,.bv (Sw kids)]
def Sw:List Bu→List (List Ao)
 |[]=>[]
 |x::l=>BQ x::Sw l
end
theorem Tm: ∀l,Sw l=l.map BQ
 |[]=>rfl
 |x::l=>by simp[Sw,Tm l]
theorem WQ(x:Bu):BQ x=[.int .i64 x.op,.int .i64 x.n,.bv (x.kids.map BQ)]:=by
 cases x;simp[BQ,Tm,Bu.op,Bu.n,Bu.kids]
theorem Bu.ind{p:Bu→Prop}(h: ∀op n b,(∀k∈b,p k)→p (.mk op n b)): ∀x,p x:=by
 intro x;refine Bu.rec (motive_1:=p) (motive_2:=fun l=> ∀k∈l,p k) (fun op n b f=>h op n b f) AG (fun a l e h2 k c=>?_) x;rcases D0.1 c with rfl|c
 .exact e
 .exact h2 k c
theorem Bu.op_mk(o n:Int)(k:List Bu):(Bu.mk o n k).op=o:=rfl
theorem Bu.n_mk(o n:Int)(k:List Bu):(Bu.mk o n k).n=n:=rfl
theorem Bu.kids_mk(o n:Int)(k:List Bu):(Bu.mk o n k).kids=k:=rfl
def AR(n:Int):List Ao:=[.int .i64 n]
def Bp(s:ByteArray):List Ao:=[.str s]
def AN(v:Cl):List Ao:=[.int .i64 v.kind,.int .i64 v.n]
def Ba(x:C2):List Ao:=[.int .i64 x.op,.int .i64 x.n,.bv (x.args.map BQ),.bv (x.kids.map AR)]
def BC(c:IL):List Ao:=[.int .i64 c.at_,.int .i64 c.many]
def Aw(s:Oh):List Ao:=[.int .i64 s.rc,.int .i64 s.node]
def BA(r:GH):List Ao:=[.int .i64 r.at_,.bv (r.eq.map AR),.int .i64 r.node]
def Bw(d:CG):List Ao:=[.bv (d.be.map BC),.bv (d.ac.map Aw),.bv (d.rules.map BA)]
def Au(s:Bn):List Ao:=[.int .i64 s.rc,.bool s.dead]
def BF(g:A8):List Ao:=[.int .i64 g.f9,.int .i64 g.at_,.bv (g.env.map AN)]
def BD(m:List Cl):List Ao:=[.bv (m.map AN)]
def DA(c:Gp):List Ao:=[.int .i64 c.group,.int .i64 c.index,.int .i64 c.at_,.bv (c.queue.map BD)]
def Ae(w:GI):List Ao:=[.int .i64 w.at_,.int .i64 w.node,.bv (w.env.map AN)]
def G4(x:GK):List Ao:=[.int .i64 x.deed,.int .i64 x.at_,.int .i64 x.n,.int .i64 x.m,.bv (x.of.map AN)]
def FY(x:Dp):List Ao:=[.int .i64 x.wait,.int .i64 x.group,.int .i64 x.rt,.bv (x.kw.map AR)]
def yA(p:AX):List Ao:=[.bv (p.free.map Bp),.bv (p.nodes.map Ba),.bv (p.defs.map Bw),.int .i64 p.main]
def RE(s:BX):List Ao:=[.bv (s.ac.map Au),.bv (s.ce.map BF),.bv (s.be.map DA),.bv (s.waits.map Ae)]
attribute [go_sem] WQ AR Bp AN Ba BC Aw BA Bw Au BF BD DA Ae G4 FY Bu.op_mk Bu.n_mk Bu.kids_mk
theorem slice_int{l:List Int}{g:G}{k:IntKind}{m:Int}(a:0≤m)(b:m≤l.length):Fy g .slice 1 (.d (.bv (l.map AR))) none (some (.d (.int k m))) none=some (.d (.bv ((l.take m.toNat).map AR))):=ig (fun _=>rfl) a b
def i64(n:Int):Prop:= -9223372036854775808≤n∧n<9223372036854775808
theorem wrap_id{n:Int}(f: -9223372036854775808≤n)(h2:n<9223372036854775808):IntKind.i64.wrap n=n:=by
 have c:IntKind.i64.bits=64:=rfl;have e:IntKind.i64.signed=true:=rfl;simp only[IntKind.wrap,c,e,FN,Ap];have a:(2 ^ 64:Int)=18446744073709551616:=AK;have b:(2 ^ (64-1):Int)=9223372036854775808:=AK;rw[a,b];split<;>omega
noncomputable abbrev kT:=KL Tryz.prog cfg
abbrev pC(p:AX):List AV:=[.d (.bv (p.free.map Bp)),.d (.bv (p.nodes.map Ba)),.d (.bv (p.defs.map Bw)),.d (.int .i64 p.main)]
abbrev sC(s:BX):List AV:=[.d (.bv (s.ac.map Au)),.d (.bv (s.ce.map BF)),.d (.bv (s.be.map DA)),.d (.bv (s.waits.map Ae))]
def AU:=And.intro @wrap_id (And.intro @RL (And.intro @QN @slice_int))
set_option maxRecDepth 100000
set_option maxHeartbeats 2000000
def Bu.formed(size:Int):Bu→Bool
 |.mk op n kids=>
  if op=1 then decide (kids.length=0)&&(decide (-1000000000≤n)&&decide (n≤1000000000))
  else if op=2 then decide (kids.length=0)&&(decide (0≤n)&&decide (n<size))
  else if op<3 then false
  else if 7<op then false
  else if n=0 then match kids with
   |[a,b]=>a.formed size&&b.formed size
   |_=>false
  else false
theorem Qw{α:Type}{e:List α}(f:e.length=2): ∃a b,e=[a,b]:=by
 rcases e with _|⟨a,_|⟨b,_|⟨c,l⟩⟩⟩<;>simp at f;exact⟨a,b,rfl⟩
@[go_sem] theorem ACU(size:Int)(x:Bu):BU (KL Tryz.prog cfg) 123 [.agg [nI x.op,nI x.n,.d (.bv (x.kids.map BQ))],nI size] []=.ok (.ret (.d (.bool (x.formed size))),[]):=by
  induction x using Bu.ind with
  |h op n j e=>
  simp only[Bu.op_mk,Bu.n_mk,Bu.kids_mk];refine A7 Tryz.func123 ?_;rcases j with _|⟨a,_|⟨b,_|⟨c,l⟩⟩⟩
  .exact zAS
  .exact zAS
  .have k:=e a AG;have m:=e b AG;exact zAS
  .exact zAS
@[go_sem] theorem ACX(k n:Int):BU (KL Tryz.prog cfg) 119 [.agg [nI k,nI n]] []=.ok (.ret (nI (if k=1 then n else 0)),[]):=by
  refine A7 Tryz.func119 ?_;exact au
@[go_sem] theorem ABr(k n:Int):BU (KL Tryz.prog cfg) 124 [.agg [nI k,nI n]] []=.ok (.ret (nI (if k=1 then n else 0)),[]):=by
  refine A7 Tryz.func124 ?_;exact au
@[go_sem] theorem ADZ(t:Bool):BU (KL Tryz.prog cfg) 120 [.d (.bool t)] []=.ok (.ret (nI (if t=true then 1 else 0)),[]):=by
  refine A7 Tryz.func120 ?_;exact au;all_goals grind
def L6(n:Int):Int:=min (max n (-1000000000)) 1000000000
@[go_sem] theorem ACR(n:Int):BU (KL Tryz.prog cfg) 77 [nI n] []=.ok (.ret (nI (L6 n)),[]):=by
  refine A7 Tryz.func77 ?_;refine aw ?_;all_goals grind [L6]
def bw(v:Cl):Int:=if v.kind=1 then v.n else 0
def L2(op a b:Int):Int:=if op=3 then IntKind.i64.wrap (a+b)else if op=4 then IntKind.i64.wrap (a-b)else if op=5 then IntKind.i64.wrap (a*b)else if op=6 then(if a<b then 1 else 0)else if a=b then 1 else 0
def Bu.value(env:List Cl):Bu→Cl
 |.mk op n kids=>
  if op=1 then⟨1,n⟩
  else if op=2 then(env[n.toNat]?).getD ⟨0,0⟩
  else match kids with
   |[a,b]=>⟨1,L6 (L2 op (bw (a.value env)) (bw (b.value env)))⟩
   |_=>⟨0,0⟩
theorem R0(env:List Cl)(n:Int)(e:List Bu):(Bu.mk 1 n e).value env=⟨1,n⟩:=by
 exact zDt
theorem Pd(env:List Cl)(n:Int)(e:List Bu):(Bu.mk 2 n e).value env=(env[n.toNat]?).getD ⟨0,0⟩:=by
 exact zDt
theorem Rz(env:List Cl)(op n:Int)(a b:Bu)(c: ¬op=1)(h2: ¬op=2):(Bu.mk op n [a,b]).value env=⟨1,L6 (L2 op (bw (a.value env)) (bw (b.value env)))⟩:=by
 simp[Bu.value,c,h2]
theorem NH{size n:Int}{e:List Bu}(h:(Bu.mk 2 n e).formed size=true):0≤n∧n<size:=by
 rcases e with _|⟨a,_|⟨b,_|⟨c,l⟩⟩⟩<;>simp[Bu.formed]at h;exact h
theorem O3{size op n:Int}{e:List Bu}(h:(Bu.mk op n e).formed size=true)(f: ¬op=1)(h2: ¬op=2):3≤op∧op≤7∧n=0∧ ∃a b,e=[a,b]∧a.formed size=true∧b.formed size=true:=by
 rcases e with _|⟨a,_|⟨b,_|⟨c,l⟩⟩⟩<;>simp[Bu.formed,f,h2]at h;exact⟨h.1,h.2.1,h.2.2.1,a,b,rfl,h.2.2.2⟩
@[go_sem] theorem qO(env:List Cl)(x:Bu)(e:x.formed env.length=true):BU (KL Tryz.prog cfg) 78 [.agg [nI x.op,nI x.n,.d (.bv (x.kids.map BQ))],.d (.bv (env.map AN))] []=.ok (.ret (.agg [nI ((x.value env).kind),nI ((x.value env).n)]),[]):=by
  induction x using Bu.ind with
  |h op n w c=>
  simp only[Bu.op_mk,Bu.n_mk,Bu.kids_mk];refine A7 Tryz.func78 ?_;by_cases f:op=1
  .exact zBY
  by_cases h2:op=2
  .exact zA0
  obtain⟨o,p,q,a,b,rfl,k,l⟩:=O3 e f h2;have r:=c a AG k;have s:=c b AG l;clear c e;rw[Rz env op n a b f h2];generalize a.value env=u at*;generalize b.value env=v at*
  (repeat' (first|simp only[go_sem, *]|(refine sx ?_ ?_<;>intro g)|refine sy AA fun x j i=>?_|simp(disch:=first|assumption|omega) only[AU]))
  all_goals grind [bw,L6,L2]
@[go_sem] theorem wu(env:List Cl)(x:Bu)(e:x.formed env.length=true):BU (KL Tryz.prog cfg) 75 [.agg [nI x.op,nI x.n,.d (.bv (x.kids.map BQ))],.d (.bv (env.map AN))] []=.ok (.ret (.agg [nI ((x.value env).kind),nI ((x.value env).n)]),[]):=by
  induction x using Bu.ind with
  |h op n w c=>
  simp only[Bu.op_mk,Bu.n_mk,Bu.kids_mk];refine A7 Tryz.func75 ?_;by_cases f:op=1
  .exact zBY
  by_cases h2:op=2
  .exact zA0
  obtain⟨o,p,q,a,b,rfl,k,l⟩:=O3 e f h2;have r:=c a AG k;have s:=c b AG l;clear c e;rw[Rz env op n a b f h2];generalize a.value env=u at*;generalize b.value env=v at*
  (repeat' (first|simp only[go_sem, *]|(refine sx ?_ ?_<;>intro g)|refine sy AA fun x j i=>?_|simp(disch:=first|assumption|omega) only[AU]))
  all_goals grind [bw,L6,L2]
mutual
def Bu.nodesM:Bu→Int→Int
 |.mk _ _ kids,most=>GX kids 1 most
def GX:List Bu→Int→Int→Int
 |[],n,_=>n
 |k::l,n,most=>if n≤most then GX l (n+k.nodesM (most-n)) most else n
end
mutual
theorem RZ: ∀(x:Bu) (a:Int),0≤a→1≤x.nodesM a∧x.nodesM a≤a+1
 |.mk op n b,a,h=>by
  rw[Bu.nodesM];exact XE b 1 a AA AA
theorem XE: ∀(l:List Bu) (n a:Int),1≤n→n≤a+1→1≤GX l n a∧GX l n a≤a+1
 |[],n,a,h1,h2=>by simp[GX];omega
 |k::l,n,a,h1,h2=>by
  rw[GX];split
  .rename_i h;have:=RZ k (a-n) AA;exact XE l _ a AA AA
  .omega
end
theorem bu(l:List Bu)(n a:Int)(h: ¬n≤a):GX l n a=n:=by
 cases l<;>simp[GX,h]
variable{α:Type}{l:List α}
theorem Ag{i:Nat}{x:α}(h:l[i]? =some x):l.drop i=x::l.drop (i+1):=by
 exact zB3
theorem AL{i:Nat}{x:α}(h:l[i]? =some x):i<l.length:=(BV.1 h).1
@[go_sem] theorem SH(x:Bu)(b:Int)(f:0≤b)(g:b≤60):BU (KL Tryz.prog cfg) 121 [.agg [nI x.op,nI x.n,.d (.bv (x.kids.map BQ))],nI b] []=.ok (.ret (nI (x.nodesM b)),[]):=by
  revert b
  induction x using Bu.ind with
  |h op n e l=>
  intro b f g;simp only[Bu.op_mk,Bu.n_mk,Bu.kids_mk]at*;refine A7 Tryz.func121 ?_;refine aw ?_;refine rounds (S:=fun a:Nat×Int=>⟨[(1,nI b),(2,.ptr [0,0] 0),(5,nI a.2),(6,nI a.1)],[([0,0],.box [nI op,nI n,.d (.bv (e.map BQ))])],1,[]⟩)
   (Inv:=fun a=>a.1≤e.length∧(a.1:Int)+1≤a.2∧a.2≤b+1∧GX e 1 b=GX (e.drop a.1) a.2 b) (m:=fun a=>e.length-a.1) (a:=(0,1)) ⟨AG,AG,Aa,AG⟩ ?_
  rintro⟨i,c⟩ ⟨h2,h3,h4,h5⟩ IH;dsimp only at*
  (repeat' (first|simp only[go_sem, *]|(refine sx ?_ ?_<;>intro p)|refine sy AA fun x k q=>?_|simp(disch:=first|assumption|omega) only[AU,l]))
  .have o:=RZ x (b-c) AA;have j:GX (e.drop i) c b=GX (e.drop (i+1)) (c+x.nodesM (b-c)) b:=by
    rw[Ag k,GX,D5 Bs]
   rw[wrap_id AA AA];simpa only[Int.natCast_add,Int.cast_ofNat_Int]using IH.out (i+1,c+x.nodesM (b-c)) AZ ⟨AZ,AZ,AZ,by dsimp only;rw[h5,j]⟩
  .rw[Bu.nodesM,h5,bu _ _ _ Bs]
  .rw[Bu.nodesM,h5,EX AA];rfl
mutual
def Bu.size:Bu→Nat
 |.mk _ _ kids=>1+Et kids
def Et:List Bu→Nat
 |[]=>0
 |k::l=>k.size+Et l
end
mutual
theorem XF: ∀(x:Bu) (a:Int),0≤a→((x.size:Int)≤a→x.nodesM a=x.size)∧(a<x.size→a<x.nodesM a)
 |.mk op n c,a,h=>by
  rw[Bu.nodesM,Bu.size];have:=XD c 1 a AA;constructor
  .intro b;rw[this.1 AA];omega
  .intro b;exact this.2 AA
theorem XD: ∀(l:List Bu) (n a:Int),n≤a+1→(n+Et l≤a→GX l n a=n+Et l)∧(a<n+Et l→a<GX l n a)
 |[],n,a,h1=>by
  simp[GX,Et]
 |k::l,n,a,h1=>by
  rw[GX,Et];split
  .rename_i h;have h2:=XF k (a-n) AA;have f:=RZ k (a-n) AA;have b:=XD l (n+k.nodesM (a-n)) a AA;by_cases e:(k.size:Int)≤a-n
   .rw[h2.1 e]at b⊢;constructor
    .intro c;rw[b.1 AA];omega
    .intro c;exact b.2 AA
   .have:=h2.2 AA;constructor
    .intro c;omega
    .intro c;exact b.2 AA
  .omega
end
mutual
def Bu.depth:Bu→Nat
 |.mk _ _ kids=>E3 kids+1
def E3:List Bu→Nat
 |[]=>0
 |k::l=>max k.depth (E3 l)
end
mutual
theorem Zw: ∀(x:Bu),x.depth≤x.size
 |.mk op n a=>by
  rw[Bu.depth,Bu.size];have:=WC a;omega
theorem WC: ∀(l:List Bu),E3 l≤Et l
 |[]=>by simp[E3,Et]
 |k::l=>by
  rw[E3,Et];have:=Zw k;have:=WC l;omega
end
theorem U2{k:Bu}: ∀{l:List Bu},k∈l→k.size≤Et l
 |[],h=>by cases h
 |x::l,h=>by
  rw[Et];rcases D0.1 h with rfl|h
  .omega
  .have:=U2 h;omega
theorem U3(x:Bu):1≤x.size:=by cases x;simp[Bu.size]
theorem XV: ∀(l:List Bu),l.length≤Et l
 |[]=>AG
 |x::l=>by
  have:=U3 x;have:=XV l;simp[Et];omega
@[go_sem] theorem AAZ(x:Bu)(f:x.size≤60):BU (KL Tryz.prog cfg) 122 [.agg [nI x.op,nI x.n,.d (.bv (x.kids.map BQ))]] []=.ok (.ret (nI x.depth),[]):=by
  revert f
  induction x using Bu.ind with
  |h op n b g=>
  intro f;simp only[Bu.op_mk,Bu.n_mk,Bu.kids_mk]at*;have t:=XV b;have u:Et b≤59:=by rw[Bu.size]at f;omega
  clear f;have g: ∀k∈b,BU (KL Tryz.prog cfg) 122 [.agg [nI k.op,nI k.n,.d (.bv (k.kids.map BQ))]] []=.ok (.ret (nI k.depth),[]):=fun k j=>g k j (by have:=U2 j;omega);refine A7 Tryz.func122 ?_;refine aw ?_;refine rounds (S:=fun a:Nat×Nat=>⟨[(1,.ptr [0,0] 0),(3,nI a.2),(4,nI a.1)],[([0,0],.box [nI op,nI n,.d (.bv (b.map BQ))])],1,[]⟩)
   (Inv:=fun a=>a.1≤b.length∧a.2≤60∧E3 b=max a.2 (E3 (b.drop a.1))) (m:=fun a=>b.length-a.1) (a:=(0,0)) ⟨AG,AG,AG⟩ ?_
  rintro⟨i,c⟩ ⟨h2,h3,h4⟩ IH;dsimp only at*
  (repeat' (first|simp only[go_sem, *]|(refine sx ?_ ?_<;>intro s)|refine sy AA fun x o l=>?_|simp(disch:=first|assumption|omega) only[AU,g]))
  .have p:E3 (b.drop i)=max x.depth (E3 (b.drop (i+1))):=by
    rw[Ag o,E3]
   have q:=Zw x;have r:=U2 l;have e:(if (x.depth:Int)>(c:Int)then(x.depth:Int)else(c:Int))=((max c x.depth:Nat):Int):=by split<;>omega
   rw[e];simpa only[Int.natCast_add,Int.cast_ofNat_Int]using IH.out (i+1,max c x.depth) AZ ⟨AZ,AZ,AZ⟩
  .rw[Bu.depth,h4,EX AA];simp[E3]
def Bu.ok(size:Int)(x:Bu):Bool:=decide (x.size≤60)&&(decide (x.depth≤12)&&x.formed size)
@[go_sem] theorem yK(size:Int)(x:Bu):BU (KL Tryz.prog cfg) 76 [.agg [nI x.op,nI x.n,.d (.bv (x.kids.map BQ))],nI size] []=.ok (.ret (.d (.bool (x.ok size))),[]):=by
  have a:=XF x 60 AA;refine A7 Tryz.func76 ?_;by_cases f:x.size≤60
  .have h2:=a.1 AA;exact zBM
  .have h2:=a.2 AA;exact zBM
def Cl.ok(v:Cl):Bool:=decide (1≤v.kind)&&(decide (v.kind≤4)&&(!decide (v.kind=1)||(decide (-1000000000≤v.n)&&decide (v.n≤1000000000))))
def DH(n:Int):AV:=.iface 177 (.agg [nI n])
theorem fE(n:Int):flat (DH n)=true:=by simp[DH,flat,Gr,FE]
attribute [go_sem] fE
@[go_sem] theorem ADo(n:Int):BU (KL Tryz.prog cfg) 107 [nI n] []=.ok (.ge (DH n),[]):=by
  refine A7 Tryz.func107 ?_
  (repeat' (first|simp only[go_sem, *,DH]|(refine sx ?_ ?_<;>intro a)|refine sy AA fun x c b=>?_|simp(disch:=first|assumption|omega) only[AU]))
@[go_sem] theorem AD1(t:Bool):BU (KL Tryz.prog cfg) 62 [.d (.bool t)] []=Cg (DH 2) t:=by
  cases t
  .rw[K3];refine A7 Tryz.func62 ?_;exact au
  .rw[MX];refine A7 Tryz.func62 ?_;exact au
def XI(x:Bu)(size depth left:Int):Prop:=(x.size:Int)≤left∧depth+x.depth≤13∧x.formed size=true
theorem ABt(x:Bu)(size:Int):XI x size 1 60↔x.ok size=true:=by
 simp only[XI,Bu.ok,AP,Ap];constructor
 .rintro⟨h1,h2,h3⟩;exact⟨AA,AA,h3⟩
 .rintro⟨h1,h2,h3⟩;exact⟨AA,AA,h3⟩
end Go.Proofs
namespace Go.Abs
variable{P:Program}{C:DD}{K:Ab}{fr:Fr}{b n i:Nat}{Q:Ea→St→Prop}
variable{ops:Array Oper}{al:Nat→Bool}{l:List Oper}{e:CB}{h:AD}{bs:Nat}{ds:List Df}{ps:List (Nat×Nat)}{fps:List Fp}{ρ:List Nat}{dst:Option Tmp}
theorem Y3(ρ:List Nat):K4 (some ρ) []=true:=rfl
theorem wy(ρ:List Nat)(id:Id)(o:Obj)(δ:AD):K4 (some ρ) ((id,o)::δ)=(Id.under ρ id&&K4 (some ρ) δ):=rfl
theorem Ij(ρ:List Nat)(a j:Nat):Id.under ρ (a::j::ρ)=true:=under_iff.2 ⟨[a,j],rfl⟩
variable{Post:Ax→Prop}{q:E (Ax×AD)}
theorem Dz(a: ∃o h',q=.ok (o,h')∧Post o)(c: ∀o h',Post o→B2 C K fr ops b n al l i dst e h bs ds Q (.ok (o,h'))):B2 C K fr ops b n al l i dst e h bs ds Q q:=by
 exact zCJ
theorem zm(v:AV)(h':AD):B2 C K fr ops b n al l i dst e h bs ds Q (.ok (.ret v,h'))=(flat v=true∧Gy C K fr ops b n al l (i+1) ⟨DC e dst v,h,bs,ds⟩ Q):=rfl
theorem zl(v:AV)(h':AD):B2 C K fr ops b n al l i dst e h bs ds Q (.ok (.ge v,h'))=(flat v=true∧al i=true∧Q (.ge v) ⟨e,h,b+n,ds⟩):=rfl
def E9(C:DD)(K:Ab)(fr:Fr)(ops:Array Oper)(b n:Nat)(al:Nat→Bool)(ps:List (Nat×Nat))(fps:List Fp)(l:List Oper)(i:Nat)(dst:Option Tmp)(e:CB)(h:AD)(bs:Nat)(ds:List Df)(Q:Ea→St→Prop):E (Ax×AD)→Prop
 |.ok (.ret v,_)=>flat v=true∧Hb C K fr ops b n al ps (fps++[⟨none,some []⟩]) l (i+1) ⟨DC e dst v,h,bs,ds⟩ Q
 |.ok (.ge v,_)=>flat v=true∧al i=true∧EZ fps ps=true∧Q (.ge v) ⟨e,h,b+n,ds⟩
 |.err _=>False
theorem uh(dst:Option Tmp)(ρ:List Nat)(f:FuncId)(az:List AV)(a:(Ej h.get az).isNone):Me C K fr ops b n al ps fps l i dst ρ e h bs ds Q f az .ro=E9 C K fr ops b n al ps fps l i dst e h bs ds Q (K (.fn f) (Nq h.get az) (h.puts (az.flatMap (mark h.get))) ρ true (some ρ)):=by
 have a:Ej h.get az=none:=zEg
 simp only[Me,ER,a,GP,Bk,CQ,A9];cases K (.fn f) (Nq h.get az) (h.puts (az.flatMap (mark h.get))) ρ true (some ρ)with
 |err l=>rfl
 |ok r=>
  obtain⟨o,h'⟩:=r;cases o<;>simp only[Qi,E9,Bb]<;>split<;>simp_all [Cd]
theorem Dj(a: ∃o h',q=.ok (o,h')∧Post o)(c: ∀o h',Post o→E9 C K fr ops b n al ps fps l i dst e h bs ds Q (.ok (o,h'))):E9 C K fr ops b n al ps fps l i dst e h bs ds Q q:=by
 exact zCJ
theorem zk(v:AV)(h':AD):E9 C K fr ops b n al ps fps l i dst e h bs ds Q (.ok (.ret v,h'))=(flat v=true∧Hb C K fr ops b n al ps (fps++[⟨none,some []⟩]) l (i+1) ⟨DC e dst v,h,bs,ds⟩ Q):=rfl
theorem zj(v:AV)(h':AD):E9 C K fr ops b n al ps fps l i dst e h bs ds Q (.ok (.ge v,h'))=(flat v=true∧al i=true∧EZ fps ps=true∧Q (.ge v) ⟨e,h,b+n,ds⟩):=rfl
theorem uG(ρ:List Nat)(a j:Nat)(o:Obj)(δ:AD):K4 (some ρ) ((a::j::ρ,o)::δ)=K4 (some ρ) δ:=by rw[wy,Ij,FN]
attribute [go_sem] Y3 uG zm zl uh zk zj
end Go.Abs
namespace Go.Proofs
open Go Go.Abs
set_option maxRecDepth 100000
set_option maxHeartbeats 4000000
def KV(π:List Nat)(sz n:Nat)(es:List (List Ao)):Ax×AD:=if n=0 then(.ret .d7,[])else(.ret (.f8 (1::0::π) 0 n),[(1::0::π,.em sz es)])
theorem sO(f:FuncId)(u:cfg.mode f=.auto)(l:List Bn)(c: ∀x∈l,BU (KL Tryz.prog cfg) f [.agg [nI x.rc,.d (.bool (x.dead))]] []=.ok (.ret (.agg [nI x.rc,.d (.bool (x.dead))]),[]))(t:l.length≤1000000)(k:Nat)(ρ:List Nat):BU (KL Tryz.prog cfg) 148 [.d (.bv (l.map Au)),.fn f [] []] (k::ρ)=.ok (KV (k::ρ) 2 l.length (l.map Au)):=by
 refine A7 Tryz.func148 ?_;refine aw ?_;refine An l _ (S:=fun m i (a:(AV×AD)×Nat)=>⟨[(1,.fn f [] []),(5,a.1.1),(8,.d (.bv (l.map Au))),(9,nI m),(10,nI i)],a.1.2,a.2,[]⟩)
  (Inv:=fun i y a=>AH (i=0∧a=((.d7,[]),0)∨0<i∧a=((.f8 (1::0::k::ρ) 0 i,[(1::0::k::ρ,.em 2 ((l.take i).map Au))]),1))) (b0:=((_,[]),_)) ?_ ⟨.inl ⟨rfl,rfl⟩⟩ ?_ ?_
 .rfl
 .rintro i x a h e g b j;have v:=c x (AS h);replace c:=AB c;rcases b.out with⟨rfl,rfl⟩|⟨o,rfl⟩
  .exact zAY
  .clear b;dsimp only at*;have z:(l.take i).length=i:=Aa;have w: ¬i+1≤i:=AA;refine aw ?_;refine j.out ((_,_),_) ⟨.inr ⟨AA,?_⟩⟩;have s:List.take i (List.map Au (List.take i l))=List.map Au (List.take i l):=By Aa;rw[Li,h,s,BE];rfl
 .rintro i a e g b;replace c:=AB c;rcases b.out with⟨rfl,rfl⟩|⟨o,rfl⟩
  .exact zAc
  .exact zAW
theorem l7(f:FuncId)(u:cfg.mode f=.auto)(l:List A8)(c: ∀x∈l,BU (KL Tryz.prog cfg) f [.agg [nI x.f9,nI x.at_,.d (.bv (x.env.map AN))]] []=.ok (.ret (.agg [nI x.f9,nI x.at_,.d (.bv (x.env.map AN))]),[]))(t:l.length≤1000000)(k:Nat)(ρ:List Nat):BU (KL Tryz.prog cfg) 150 [.d (.bv (l.map BF)),.fn f [] []] (k::ρ)=.ok (KV (k::ρ) 3 l.length (l.map BF)):=by
 refine A7 Tryz.func150 ?_;refine aw ?_;refine An l _ (S:=fun m i (a:(AV×AD)×Nat)=>⟨[(1,.fn f [] []),(5,a.1.1),(8,.d (.bv (l.map BF))),(9,nI m),(10,nI i)],a.1.2,a.2,[]⟩)
  (Inv:=fun i y a=>AH (i=0∧a=((.d7,[]),0)∨0<i∧a=((.f8 (1::0::k::ρ) 0 i,[(1::0::k::ρ,.em 3 ((l.take i).map BF))]),1))) (b0:=((_,[]),_)) ?_ ⟨.inl ⟨rfl,rfl⟩⟩ ?_ ?_
 .rfl
 .rintro i x a h e g b j;have v:=c x (AS h);replace c:=AB c;rcases b.out with⟨rfl,rfl⟩|⟨o,rfl⟩
  .exact zAY
  .clear b;dsimp only at*;have z:(l.take i).length=i:=Aa;have w: ¬i+1≤i:=AA;refine aw ?_;refine j.out ((_,_),_) ⟨.inr ⟨AA,?_⟩⟩;have s:List.take i (List.map BF (List.take i l))=List.map BF (List.take i l):=By Aa;rw[Li,h,s,BE];rfl
 .rintro i a e g b;replace c:=AB c;rcases b.out with⟨rfl,rfl⟩|⟨o,rfl⟩
  .exact zAc
  .exact zAW
theorem sQ(f:FuncId)(u:cfg.mode f=.auto)(l:List GI)(c: ∀x∈l,BU (KL Tryz.prog cfg) f [.agg [nI x.at_,nI x.node,.d (.bv (x.env.map AN))]] []=.ok (.ret (.agg [nI x.at_,nI x.node,.d (.bv (x.env.map AN))]),[]))(t:l.length≤1000000)(k:Nat)(ρ:List Nat):BU (KL Tryz.prog cfg) 156 [.d (.bv (l.map Ae)),.fn f [] []] (k::ρ)=.ok (KV (k::ρ) 3 l.length (l.map Ae)):=by
 refine A7 Tryz.func156 ?_;refine aw ?_;refine An l _ (S:=fun m i (a:(AV×AD)×Nat)=>⟨[(1,.fn f [] []),(5,a.1.1),(8,.d (.bv (l.map Ae))),(9,nI m),(10,nI i)],a.1.2,a.2,[]⟩)
  (Inv:=fun i y a=>AH (i=0∧a=((.d7,[]),0)∨0<i∧a=((.f8 (1::0::k::ρ) 0 i,[(1::0::k::ρ,.em 3 ((l.take i).map Ae))]),1))) (b0:=((_,[]),_)) ?_ ⟨.inl ⟨rfl,rfl⟩⟩ ?_ ?_
 .rfl
 .rintro i x a h e g b j;have v:=c x (AS h);replace c:=AB c;rcases b.out with⟨rfl,rfl⟩|⟨o,rfl⟩
  .exact zAY
  .clear b;dsimp only at*;have z:(l.take i).length=i:=Aa;have w: ¬i+1≤i:=AA;refine aw ?_;refine j.out ((_,_),_) ⟨.inr ⟨AA,?_⟩⟩;have s:List.take i (List.map Ae (List.take i l))=List.map Ae (List.take i l):=By Aa;rw[Li,h,s,BE];rfl
 .rintro i a e g b;replace c:=AB c;rcases b.out with⟨rfl,rfl⟩|⟨o,rfl⟩
  .exact zAc
  .exact zAW
theorem xy(f:FuncId)(u:cfg.mode f=.auto)(l:List Cl)(c: ∀x∈l,BU (KL Tryz.prog cfg) f [.agg [nI x.kind,nI x.n]] []=.ok (.ret (.agg [nI x.kind,nI x.n]),[]))(t:l.length≤1000000)(k:Nat)(ρ:List Nat):BU (KL Tryz.prog cfg) 181 [.d (.bv (l.map AN)),.fn f [] []] (k::ρ)=.ok (KV (k::ρ) 2 l.length (l.map AN)):=by
 refine A7 Tryz.func181 ?_;refine aw ?_;refine An l _ (S:=fun m i (a:(AV×AD)×Nat)=>⟨[(1,.fn f [] []),(5,a.1.1),(8,.d (.bv (l.map AN))),(9,nI m),(10,nI i)],a.1.2,a.2,[]⟩)
  (Inv:=fun i y a=>AH (i=0∧a=((.d7,[]),0)∨0<i∧a=((.f8 (1::0::k::ρ) 0 i,[(1::0::k::ρ,.em 2 ((l.take i).map AN))]),1))) (b0:=((_,[]),_)) ?_ ⟨.inl ⟨rfl,rfl⟩⟩ ?_ ?_
 .rfl
 .rintro i x a h e g b j;have v:=c x (AS h);replace c:=AB c;rcases b.out with⟨rfl,rfl⟩|⟨o,rfl⟩
  .exact zAY
  .clear b;dsimp only at*;have z:(l.take i).length=i:=Aa;have w: ¬i+1≤i:=AA;refine aw ?_;refine j.out ((_,_),_) ⟨.inr ⟨AA,?_⟩⟩;have s:List.take i (List.map AN (List.take i l))=List.map AN (List.take i l):=By Aa;rw[Li,h,s,BE];rfl
 .rintro i a e g b;replace c:=AB c;rcases b.out with⟨rfl,rfl⟩|⟨o,rfl⟩
  .exact zAc
  .exact zAW
theorem xx(f:FuncId)(u:cfg.mode f=.auto)(l:List (List Cl))(c: ∀x∈l,BU (KL Tryz.prog cfg) f [.agg [.d (.bv (x.map AN))]] []=.ok (.ret (.agg [.d (.bv (x.map AN))]),[]))(t:l.length≤1000000)(k:Nat)(ρ:List Nat):BU (KL Tryz.prog cfg) 183 [.d (.bv (l.map BD)),.fn f [] []] (k::ρ)=.ok (KV (k::ρ) 1 l.length (l.map BD)):=by
 refine A7 Tryz.func183 ?_;refine aw ?_;refine An l _ (S:=fun m i (a:(AV×AD)×Nat)=>⟨[(1,.fn f [] []),(5,a.1.1),(8,.d (.bv (l.map BD))),(9,nI m),(10,nI i)],a.1.2,a.2,[]⟩)
  (Inv:=fun i y a=>AH (i=0∧a=((.d7,[]),0)∨0<i∧a=((.f8 (1::0::k::ρ) 0 i,[(1::0::k::ρ,.em 1 ((l.take i).map BD))]),1))) (b0:=((_,[]),_)) ?_ ⟨.inl ⟨rfl,rfl⟩⟩ ?_ ?_
 .rfl
 .rintro i x a h e g b j;have v:=c x (AS h);replace c:=AB c;rcases b.out with⟨rfl,rfl⟩|⟨o,rfl⟩
  .exact zAY
  .clear b;dsimp only at*;have z:(l.take i).length=i:=Aa;have w: ¬i+1≤i:=AA;refine aw ?_;refine j.out ((_,_),_) ⟨.inr ⟨AA,?_⟩⟩;have s:List.take i (List.map BD (List.take i l))=List.map BD (List.take i l):=By Aa;rw[Li,h,s,BE];rfl
 .rintro i a e g b;replace c:=AB c;rcases b.out with⟨rfl,rfl⟩|⟨o,rfl⟩
  .exact zAc
  .exact zAW
theorem cv(x:Bn):BU (KL Tryz.prog cfg) 149 [.agg [nI x.rc,.d (.bool (x.dead))]] []=.ok (.ret (.agg [nI x.rc,.d (.bool (x.dead))]),[]):=by
 refine A7 Tryz.func149 ?_;exact au
theorem ic(x:Cl):BU (KL Tryz.prog cfg) 182 [.agg [nI x.kind,nI x.n]] []=.ok (.ret (.agg [nI x.kind,nI x.n]),[]):=by
 refine A7 Tryz.func182 ?_;exact au
end Go.Proofs
namespace Go.Abs
theorem fw(k:IntKind)(a b:Int)(v:AV)(es:List (Ao×AV)):Db ((.int k a,v)::es) (.int k b)=if a=b then some (some v)else Db es (.int k b):=by
 rw[Db];by_cases h:a=b
 .exact zBj
 .exact zBj
attribute [go_sem] fw
end Go.Abs
namespace Go.Proofs
open Go Go.Abs
def JC:List (Ao×AV):=[(.int .i64 2,.fn 110 [] []),(.int .i64 3,.fn 111 [] []),(.int .i64 4,.fn 112 [] []),(.int .i64 5,.fn 113 [] []),(.int .i64 6,.fn 114 [] []),(.int .i64 7,.fn 114 [] []),(.int .i64 8,.fn 114 [] [])]
def Az(x:Gp)(v:AV):List AV:=[nI x.group,nI x.index,nI x.at_,v]
end Go.Proofs
namespace Go.Abs
variable{P:Program}{C:DD}{K:Ab}{fr:Fr}{b n i:Nat}{Q:Ea→St→Prop}
variable{ops:Array Oper}{al:Nat→Bool}{l:List Oper}{e:CB}{h:AD}{bs:Nat}{ds:List Df}{ps:List (Nat×Nat)}{fps:List Fp}{ρ:List Nat}{dst:Option Tmp}
theorem gy(az:List AV)(id:Id)(o m sz:Nat)(es:List (List Ao))(a:B8 (.f8 id o m) [(id,.em sz es)]=some (id,.em sz es)):EJ C K fr ops b n al l i az dst e h bs ds Q (.ok (.ret (.f8 id o m),[(id,.em sz es)]))=Gy C K fr ops b n al l (i+1) ⟨DC e dst (.f8 id o m),(id,.em sz es)::h,bs,ds⟩ Q:=pR _ az _ _ _ rfl a
theorem gp(az:List AV)(id:Id)(o m sz:Nat)(es:List (List Ao))(a:B8 (.f8 id o m) [(id,.em sz es)]=some (id,.em sz es)):EI C K fr ops b n al ps fps l i az dst e h bs ds Q (.ok (.ret (.f8 id o m),[(id,.em sz es)]))=Hb C K fr ops b n al ps (fps++[⟨some (DU h.get (BB az)),some [id]⟩]) l (i+1) ⟨DC e dst (.f8 id o m),(id,.em sz es)::h,bs,ds⟩ Q:=pQ _ az _ _ _ rfl a
attribute [go_sem] gy gp
end Go.Abs
namespace Go.Proofs
open Go Go.Abs
set_option maxRecDepth 100000
set_option maxHeartbeats 4000000
theorem DP{π:List Nat}{sz n:Nat}{es:List (List Ao)}(h:n=0):KV π sz n es=(.ret .d7,[]):=by rw[KV,D5 h]
theorem Dw{π:List Nat}{sz n:Nat}{es:List (List Ao)}(h:n≠0):KV π sz n es=(.ret (.f8 (1::0::π) 0 n),[(1::0::π,.em sz es)]):=by rw[KV,Co h]
theorem HX(id:Abs.Id)(o n sz:Nat)(es:List (List Ao)):B8 (.f8 id o n) [(id,.em sz es)]=if es.all (·.all FE)then some (id,.em sz es)else none:=by
 simp only[B8,go_sem,is_self,F7]
theorem B4(l:List Cl)(id:Abs.Id)(o n:Nat):B8 (.f8 id o n) [(id,.em 2 (l.map AN))]=some (id,.em 2 (l.map AN)):=by
 rw[HX,D5];simp[AN,FE]
theorem Ko{l:List (List Cl)}(h:l.length≠0)(id:Abs.Id)(o n:Nat):B8 (.f8 id o n) [(id,.em 1 (l.map BD))]=none:=by
 rw[HX,Co];cases l with
 |nil=>exact absurd rfl h
 |cons x l=>simp[BD,FE]
theorem P9(l:List Bn)(id:Abs.Id)(o n:Nat):B8 (.f8 id o n) [(id,.em 2 (l.map Au))]=some (id,.em 2 (l.map Au)):=by
 rw[HX,D5];simp[Au,FE]
theorem Ot{l:List A8}(h:l.length≠0)(id:Abs.Id)(o n:Nat):B8 (.f8 id o n) [(id,.em 3 (l.map BF))]=none:=by
 rw[HX,Co];cases l with
 |nil=>exact absurd rfl h
 |cons x l=>simp[BF,FE]
theorem QB{l:List GI}(h:l.length≠0)(id:Abs.Id)(o n:Nat):B8 (.f8 id o n) [(id,.em 3 (l.map Ae))]=none:=by
 rw[HX,Co];cases l with
 |nil=>exact absurd rfl h
 |cons x l=>simp[Ae,FE]
theorem K2(l:List Cl)(c:l.length≤1000000)(k:Nat)(ρ:List Nat):BU (KL Tryz.prog cfg) 152 [.d (.bv (l.map AN))] (k::ρ)=.ok (KV (2::k::ρ) 2 l.length (l.map AN)):=by
 have b:=fun k ρ=>xy 182 rfl l (fun x _=>ic x) c k ρ;by_cases a:l.length=0
 .rw[DP a];simp only[DP a]at b;refine A7 Tryz.func152 ?_;exact au
 .rw[Dw a];simp only[Dw a]at b;have fa:=B4;refine A7 Tryz.func152 ?_;exact au
theorem pb(x:List Cl)(c:x.length≤1000000):BU (KL Tryz.prog cfg) 184 [.agg [.d (.bv (x.map AN))]] []=.ok (.ret (.agg [.d (.bv (x.map AN))]),[]):=by
 have b:=K2 x c;by_cases a:x.length=0
 .simp only[DP a]at b;obtain rfl:=BI a;clear a;simp only[BY]at b;refine A7 Tryz.func184 ?_
  exact zAr
 .simp only[Dw a]at b;have fa:=B4;have h:List.take x.length (List.map AN x)=List.map AN x:=By AG;refine A7 Tryz.func184 ?_;exact au
theorem vT(l:List (List Cl))(c:l.length≤1000000)(h: ∀x∈l,x.length≤1000000)(k:Nat)(ρ:List Nat):BU (KL Tryz.prog cfg) 155 [.d (.bv (l.map BD))] (k::ρ)=.ok (KV (2::k::ρ) 1 l.length (l.map BD)):=by
 have b:=fun k ρ=>xx 184 rfl l (fun x e=>pb x (h x e)) c k ρ;replace h:=AB h;by_cases a:l.length=0
 .rw[DP a];simp only[DP a]at b;refine A7 Tryz.func155 ?_;exact au
 .rw[Dw a];simp only[Dw a]at b;have fa:=Ko a;refine A7 Tryz.func155 ?_;exact au
theorem Tf(x:A8)(c:x.env.length≤1000000):BU (KL Tryz.prog cfg) 151 [.agg [nI x.f9,nI x.at_,.d (.bv (x.env.map AN))]] []=.ok (.ret (.agg [nI x.f9,nI x.at_,.d (.bv (x.env.map AN))]),[]):=by
 have b:=K2 x.env c;by_cases a:x.env.length=0
 .simp only[DP a]at b;have h2:=BI a;simp only[h2,BY]at b;refine A7 Tryz.func151 ?_
  exact zAr
 .simp only[Dw a]at b;have fa:=B4;have h:List.take x.env.length (List.map AN x.env)=List.map AN x.env:=By AG;refine A7 Tryz.func151 ?_;exact au
theorem VU(x:GI)(c:x.env.length≤1000000):BU (KL Tryz.prog cfg) 157 [.agg [nI x.at_,nI x.node,.d (.bv (x.env.map AN))]] []=.ok (.ret (.agg [nI x.at_,nI x.node,.d (.bv (x.env.map AN))]),[]):=by
 have b:=K2 x.env c;by_cases a:x.env.length=0
 .simp only[DP a]at b;have h2:=BI a;simp only[h2,BY]at b;refine A7 Tryz.func157 ?_
  exact zAr
 .simp only[Dw a]at b;have fa:=B4;have h:List.take x.env.length (List.map AN x.env)=List.map AN x.env:=By AG;refine A7 Tryz.func157 ?_;exact au
def PJ(π:List Nat)(x:Gp):Ax×AD:=if x.queue.length=0 then(.ret (.agg (Az x .d7)),[(0::0::π,.box (Az x (.d (.bv (x.queue.map BD))))),(0::1::π,.box (Az x .d7))])else(.ret (.agg (Az x (.f8 (1::0::2::10::π) 0 x.queue.length))),[(1::0::2::10::π,.em 1 (x.queue.map BD)),(0::0::π,.box (Az x (.d (.bv (x.queue.map BD))))),(0::1::π,.box (Az x (.f8 (1::0::2::10::π) 0 x.queue.length)))])
theorem X6(x:Gp)(e:x.queue.length≤1000000)(h: ∀y∈x.queue,y.length≤1000000)(k:Nat)(ρ:List Nat):BU (KL Tryz.prog cfg) 154 [.agg [nI x.group,nI x.index,nI x.at_,.d (.bv (x.queue.map BD))]] (k::ρ)=.ok (PJ (k::ρ) x):=by
 have b:=vT x.queue e h;replace h:=AB h;by_cases a:x.queue.length=0
 .rw[PJ,D5 a];simp only[DP a]at b;exact zBS
 .rw[PJ,Co a];simp only[Dw a]at b;have fa:=Ko a;exact zBS
end Go.Proofs
namespace Go.Abs
theorem kR(l:List Id)(x y:Id):y∈Mc l x↔y∈l∨y=x:=by
 unfold Mc;split
 .rename_i h;obtain⟨z,a,e⟩:=T8.1 h;have:x=z:=is_iff.1 e;subst this;constructor
  .exact .inl
  .rintro(h|rfl)
   .exact h
   .exact a
 .simp
theorem ZJ{l:List Id}(h:l.Nodup)(x:Id):(Mc l x).Nodup:=by
 unfold Mc;split
 .exact h
 .rename_i e;rw[MT];refine⟨h,AG,fun a f b c=>?_⟩;rw[Ac]at c;subst c;rintro rfl;have:l.any (Id.is a)=true:=T8.2 ⟨a,f,is_self a⟩;rw[this]at e;cases e
theorem kU(l:List Id)(x:Id): ∃m,Mc l x=l++m:=by
 unfold Mc;split
 .exact⟨[],AG⟩
 .exact⟨[x],rfl⟩
theorem IM: ∀(new l:List Id) (y:Id),y∈Fw l new↔y∈l∨y∈new
 |[],l,y=>by simp[Fw]
 |x::new,l,y=>by
  have:=IM new (Mc l x) y;unfold Fw at*;rw[Ms,this,kR,D0,or_assoc]
theorem L1: ∀(new:List Id) {l:List Id},l.Nodup→(Fw l new).Nodup
 |[],l,h=>h
 |x::new,l,h=>L1 new (ZJ h x)
theorem TL: ∀(new l:List Id),∃m,Fw l new=l++m
 |[],l=>⟨[],by simp[Fw]⟩
 |x::new,l=>by
  obtain⟨m,a⟩:=kU l x;obtain⟨c,b⟩:=TL new (Mc l x);refine⟨m++c,?_⟩;have:Fw l (x::new)=Fw (Mc l x) new:=rfl;rw[this,b,a,Dl]
theorem Uw(h:AD)(M:List Id)(q: ∀x∈M,∀y∈FA (h.get x),y∈M): ∀(n:Nat) (l:List Id) (i:Nat),l.Nodup→(∀x∈l,x∈M)→(∀j x,j<i→l[j]? =some x→ ∀y∈FA (h.get x),y∈l)→M.length≤i+n→
 (Cu h n l i).Nodup∧(∀x∈Cu h n l i,x∈M)∧(∀x∈l,x∈Cu h n l i)∧ ∀x∈Cu h n l i,∀y∈FA (h.get x),y∈Cu h n l i
 |0,l,i,k,f,o,t=>by
  have e:Cu h 0 l i=l:=rfl;rw[e];refine⟨k,f,fun x a=>a,fun x a y g=>?_⟩;obtain⟨j,c⟩:=II a;have s:=k.length_le_of_subset (l₂:=M) f;have h2:=(BV.1 c).1;exact o j x AA c y g
 |n+1,l,i,k,f,o,t=>by
  cases b:l[i]? with
  |none=>
   have e:Cu h (n+1) l i=l:=by rw[Cu,b]
   rw[e];refine⟨k,f,fun x a=>a,fun x a y g=>?_⟩;obtain⟨j,c⟩:=II a;have s:=List.getElem?_eq_none_iff.1 b;have h2:=(BV.1 c).1;exact o j x AA c y g
  |some id=>
   have e:Cu h (n+1) l i=Cu h n (Fw l (FA (h.get id))) (i+1):=by rw[Cu,b]
   rw[e];have u:=AS b;obtain⟨m,r⟩:=TL (FA (h.get id)) l;have p:=Uw h M q n (Fw l (FA (h.get id))) (i+1) (L1 _ k) (fun x a=>by
    rcases(IM _ _ _).1 a with a|a
    .exact f x a
    .exact q id (f id u) x a) (fun j x c a y g=>by
    rw[IM];by_cases v:j=i
    .subst v;rw[r,Ce (BV.1 b).1,b]at a;cases a;exact .inr g
    .have w:=(BV.1 b).1;rw[r,Ce AA]at a;exact .inl (o j x AA a y g)) AA
   exact⟨p.1,p.2.1,fun x a=>p.2.2.1 x ((IM _ _ _).2 (.inl a)),p.2.2.2⟩
theorem Jv(π:List Nat): ∀(l:List Id) (n:Nat) (x:Id),x∈l→ ∃j,EY π l n x=some (VB x::(n+j)::π)∧j<l.length
 |y::l,n,x,a=>by
  rw[Ub];by_cases h:Id.is y x=true
  .rw[D5 h];exact⟨0,rfl,AG⟩
  .rw[Co h];have c:x∈l:=by
    rcases D0.1 a with rfl|a
    .exact absurd (is_self _) h
    .exact a
   obtain⟨j,b,e⟩:=Jv π l (n+1) x c;exact⟨j+1,by rw[b];congr 3;omega,Aa⟩
theorem cL(h:AD)(a:Id→Option Id)(g: ∀x y z,a x=some z→a y=some z→x=y){x z:Id}{o:Obj}(f:a x=some z)(i:h.get x=some o): ∀(l:List Id),x∈l→(Dy h a l).get z=some (Fe a o)
 |y::l,b=>by
  by_cases c:y=x
  .subst c;rw[Dy,i,f,CK,is_self,D5 rfl]
  .have k:x∈l:=by
    rcases D0.1 b with rfl|b
    .exact absurd rfl c
    .exact b
   have j:=cL h a g f i l k;rw[Dy];split
   .rename_i o' n m h2;rw[CK,AF (fun e=>c (g _ _ _ h2 (by rw[e];exact f))),Co AG];exact j
   .exact j
structure M5(π:List Nat)(h:AD)(e:CB)(ν:Id→Option Id)(h':AD)(n:Nat):Prop where
 env: ∀x∈IB e,∃z,ν x=some z
 name: ∀x z,ν x=some z→ ∃j,j<n∧z=VB x::j::π
 inj: ∀x y z,ν x=some z→ν y=some z→x=y
 get: ∀x z o,ν x=some z→h.get x=some o→h'.get z=some (Fe ν o)
 deep: ∀x z,ν x=some z→ ∀y∈FA (h.get x),∃z',ν y=some z'
 only: ∀z o,h'.get z=some o→ ∃x,ν x=some z
theorem Km(π:List Nat)(h:AD)(e:CB)(M:List Id)(B:M.length≤1000)(q: ∀x∈IB e,x∈M)(m: ∀x∈M,∀y∈FA (h.get x),y∈M):
 ∃k h' n,Ox π h e=⟨e.map fun p=>(p.1,ren k p.2),h',n,[]⟩∧n≤M.length∧M5 π h e k h' n:=by
 obtain⟨u,v,w,A⟩:=Uw h M m 1000 (Fw [] (IB e)) 0 (L1 _ .nil) (fun x b=>by
  rcases(IM _ _ _).1 b with b|b
  .cases b
  .exact q x b) (fun j x g=>AA) AA
 unfold Ox X0;generalize Cu h 1000 (Fw [] (IB e)) 0=L at*;refine⟨EY π L 0,Dy h (EY π L 0) L,L.length,rfl,u.length_le_of_subset v,?_,?_,fun x y z=>NU,fun x z o a r=>?_,fun x z a y s=>?_,fun z o a=>?_⟩
 .intro x b;obtain⟨j,g,_⟩:=Jv π L 0 x (w x ((IM _ _ _).2 (.inr b)));exact⟨_,g⟩
 .intro x z a;obtain⟨j,t,c,h2⟩:=Fb a;obtain⟨i,f,l⟩:=Jv π L 0 x (AS c);rw[a]at f;cases f;exact⟨0+i,AA,rfl⟩
 .obtain⟨j,t,c,h2⟩:=Fb a;exact cL h _ (fun x y z=>NU) a r L (AS c)
 .obtain⟨j,t,c,h2⟩:=Fb a;obtain⟨i,f,l⟩:=Jv π L 0 y (A x (AS c) y s);exact⟨_,f⟩
 .obtain⟨x,o,_,h2,_⟩:=Fu a;exact⟨x,h2⟩
end Go.Abs
namespace Go.Proofs
open Go Go.Abs
def Bf(l:List Bn)(i:Int):Int:=((l[i.toNat]?).map Bn.rc).getD 0
def E7(l:List Bn)(i:Int):Prop:=0≤i∧i<l.length
instance(l:List Bn)(i:Int):Decidable (E7 l i):=by unfold E7;infer_instance
def Bd(l:List Bn):Nat→Int→Bool
 |0,at_=>decide (at_=0)
 |k+1,at_=>decide (at_=0)||(decide (E7 l (Bf l at_))&&Bd l k (Bf l at_))
theorem GR(l:List Bn)(k:Nat):Bd l k 0=true:=by cases k<;>simp[Bd]
theorem Oz(l:List Bn): ∀(k:Nat) (i:Int),Bd l k i=true→Bd l (k+1) i=true
 |0,i,h=>by simp[Bd]at h;subst h;exact GR _ _
 |k+1,i,h=>by
  rw[Bd]at h⊢;by_cases a:i=0
  .simp[a]
  .simp only[a,decide_false,I4,AP]at h⊢;exact⟨h.1,Oz l k _ h.2⟩
variable{l:List Bn}{k:Nat}
theorem LV{i:Int}{m:Nat}(h:k≤m)(a:Bd l k i=true):Bd l m i=true:=by
 induction h with
 |refl=>exact a
 |step _ b=>exact Oz l _ i b
theorem vM: ∀(n:Nat) (l:List Nat),l.Nodup→(∀x∈l,x<n)→l.length≤n
 |0,l,_,h=>by
  cases l with
  |nil=>simp
  |cons a l=>exact absurd (h a AG) AA
 |n+1,l,hn,h=>by
  have b:=vM n (l.erase n) (hn.erase n) (fun x e=>by
   have f:=(List.Nodup.mem_erase_iff hn).1 e;have:=h x f.2;omega)
  by_cases c:n∈l
  .rw[List.length_erase_of_mem c]at b;omega
  .rw[List.erase_of_not_mem c]at b;omega
theorem Te(l:List Bn)(q:0<l.length): ∀(k:Nat) (i:Int),E7 l i→Bd l k i=true→(∀j,j<k→Bd l j i=false)→ ∃p:List Nat,p.length=k+1∧p.Nodup∧(∀x∈p,x<l.length)∧ ∀x∈p,∃j,j≤k∧Bd l j x=true∧ ∀m,m<j→Bd l m x=false
 |0,i,e,g,b=>⟨[0],rfl,AG,by simp[q],by
  intro x a;cases Ac.1 a;exact⟨0,Es _,GR _ _,fun m b=>AA⟩⟩
 |k+1,i,e,g,b=>by
  have o: ¬i=0:=fun h=>by
   have:=b 0 AA;rw[h,GR]at this;cases this
  have c:=g;rw[Bd]at c;simp only[o,decide_false,I4,AP,Ap]at c;obtain⟨p,u,v,w,r⟩:=Te l q k (Bf l i) c.1 c.2 (fun j y=>by
   have:=b (j+1) AA;rw[Bd]at this;simp only[o,decide_false,I4,RW,S1]at this;rcases this with h|h
   .exact absurd c.1 h
   .exact h)
  refine⟨i.toNat::p,by simp[u],?_,?_,?_⟩
  .refine List.nodup_cons.2 ⟨fun t=>?_,v⟩;obtain⟨j,s,f,_⟩:=r _ t;have n:((i.toNat:Nat):Int)=i:=Pu e.1;rw[n]at f;have:=b j AA;rw[f]at this;cases this
  .intro x a;rcases D0.1 a with rfl|a
   .have:=e.1;have:=e.2;omega
   .exact w x a
  .intro x a;rcases D0.1 a with rfl|a
   .have n:((i.toNat:Nat):Int)=i:=Pu e.1;rw[n];exact⟨k+1,Es _,g,b⟩
   .obtain⟨j,s,f⟩:=r x a;exact⟨j,AA,f⟩
theorem V7{i:Int}: ∀{k:Nat},Bd l k i=true→ ∃m,m≤k∧Bd l m i=true∧ ∀j,j<m→Bd l j i=false
 |0,h=>⟨0,Es _,h,fun j c=>AA⟩
 |k+1,h=>by
  cases a:Bd l k i with
  |true=>
   obtain⟨m,f,h2,b⟩:=V7 a;exact⟨m,AA,h2,b⟩
  |false=>
   refine⟨k+1,Es _,h,fun j c=>?_⟩;cases e:Bd l j i with
   |false=>rfl
   |true=>
    have:=LV (show j≤k by omega) e;rw[a]at this;cases this
theorem Mz{i:Int}(a:E7 l i)(h:Bd l k i=true):Bd l (l.length-1) i=true:=by
 have c:0<l.length:=zFH
 obtain⟨m,_,h2,b⟩:=V7 h;obtain⟨p,g,e,f,_⟩:=Te l c m i a h2 b;have:=vM l.length p e f;exact LV AA h2
theorem eK{i:Int}(a:E7 l i):Bd l (l.length+1) i=Bd l l.length i:=by
 cases h:Bd l l.length i with
 |true=>exact Oz _ _ _ h
 |false=>
  cases h2:Bd l (l.length+1) i with
  |false=>rfl
  |true=>
   have:=LV (show l.length-1≤l.length by omega) (Mz a h2);rw[h]at this;cases this
def Fi(l:List Bn):Nat→Nat→Bool
 |_,0=>true
 |i,n+1=>Bd l l.length i&&Fi l (i+1) n
def Ha(l:List Bn):Bool:=decide (0<l.length)&&(decide (Bf l 0= -1)&&Fi l 0 l.length)
theorem L7(l:List Bn): ∀(n i:Nat),Fi l i n=true↔ ∀j,i≤j→j<i+n→Bd l l.length j=true
 |0,i=>by simp[Fi];intro j a h2;omega
 |n+1,i=>by
  rw[Fi,AP,L7 l n (i+1)];constructor
  .rintro⟨a,h2⟩ j h3 h4;by_cases b:j=i
   .subst b;exact a
   .exact h2 j AA AA
  .intro h;exact⟨h i AA AA,fun j a h2=>h j AA AA⟩
def R4(l:List Bn):Nat→Int→List Int
 |0,b=>[b]
 |k+1,b=>if b=0 then [0]else b::R4 l k (Bf l b)
theorem TM(l:List Bn): ∀(k m:Nat) (b:Int),Bd l k b=true→k≤m→R4 l m b=R4 l k b
 |0,m,b,h,c=>by
  simp[Bd]at h;subst h;cases m<;>simp[R4]
 |k+1,m,b,h,c=>by
  obtain⟨m,rfl⟩: ∃j,m=j+1:=⟨m-1,AA⟩;rw[R4,R4];split
  .rfl
  .rename_i a;rw[Bd]at h;simp only[a,decide_false,I4,AP]at h;rw[TM l k m _ h.2 AA]
def C3(l:List Bn)(b a:Int):Bool:=decide (a∈R4 l l.length b)
structure HK(l:List Bn):Prop where
 pos:0<l.length
 top:Bf l 0= -1
 rx: ∀i,E7 l i→Bd l l.length i=true
theorem VD(h:Ha l=true):HK l:=by
 simp only[Ha,AP,Ap]at h;refine⟨h.1,h.2.1,fun i a=>?_⟩;have:=(L7 l l.length 0).1 h.2.2 i.toNat AA zFH
 rwa [Pu a.1]at this
theorem wc(h:HK l):Ha l=true:=by
 simp only[Ha,AP,Ap];refine⟨h.pos,h.top,(L7 l l.length 0).2 fun j a h2=>h.rx j ⟨AA,AA⟩⟩
end Go.Proofs
namespace Go.Proofs
open Go Go.Abs
def Cl.inB(p:AX)(nc ns:Nat)(v:Cl):Bool:=
 if v.kind=1 then decide (-1000000000≤v.n)&&decide (v.n≤1000000000)else if v.kind=2 then decide (0≤v.n)&&decide (v.n<p.free.length)
 else if v.kind=3 then decide (0≤v.n)&&decide (v.n<nc)else if v.kind=4 then decide (0≤v.n)&&decide (v.n<ns)else false
variable{l:List Bn}{k:Nat}{b:Int}
theorem jO(h: ¬b=0)(a:Bd l (k+1) b=true):R4 l (k+1) b=b::R4 l k (Bf l b):=by
 rw[R4,Co h]
theorem GQ(h: ¬b=0)(a:Bd l (k+1) b=true):E7 l (Bf l b)∧Bd l k (Bf l b)=true:=by
 rw[Bd]at a;simp only[h,decide_false,I4,AP,Ap]at a;exact a
end Go.Proofs
namespace Go.Proofs
open Go Go.Abs
theorem ZM(l:List Bn)(k:Nat)(c:Int):c∈R4 l k c:=by
 cases k with
 |zero=>simp[R4]
 |succ k=>
  rw[R4];split
  .rename_i h;simp[h]
  .simp
theorem ZN(l:List Bn)(k:Nat):R4 l k 0=[0]:=by cases k<;>simp[R4]
end Go.Proofs
namespace Go.Proofs
open Go Go.Abs
set_option maxRecDepth 100000
set_option maxHeartbeats 2000000
def IG:AV:=.iface 289 (.agg [nI 2])
theorem fC:flat IG=true:=by simp[IG,flat,Gr,FE]
@[go_sem] theorem AAi(l:List Df)(h:AD)(id:Abs.Id)(off:Nat):Dr cfg none (.call 189 [.ptr id off]::l) (some IG) h=Yb cfg none l h id off .i64 2 (h.get id):=by
  rw[IG,QO Vy (dR _)]
attribute [go_sem] fC
@[go_sem] theorem ADe(t:Bool):BU (KL Tryz.prog cfg) 199 [.d (.bool t)] []=Cg IG t:=by
  cases t
  .rw[K3];refine A7 Tryz.func199 ?_
   (repeat' (first|simp only[go_sem, *,IG]|(refine sx ?_ ?_<;>intro a)|refine sy AA fun x c b=>?_|simp(disch:=first|assumption|omega) only[AU]))
  .rw[MX];refine A7 Tryz.func199 ?_;exact au
def Ni(op:Int):AV:=
 if op=1 then .iface 314 (nI 0)else if op=7 then .iface 314 (nI 0)else if op=3 then .iface 314 (nI 2)else if op=2 then .iface 307 (.agg [])else if op=5 then .iface 310 (.agg [])
 else if op=6 then .iface 308 (.agg [])else if op=8 then .iface 308 (.agg [])else if op=4 then .iface 309 (.agg [])else .d .rg
theorem Ih(op:Int):BU (KL Tryz.prog cfg) 211 [nI op] []=.ok (.ret (Ni op),[]):=by
 refine A7 Tryz.func211 ?_
 (repeat' (first|simp only[go_sem, *,Ni]|(refine sx ?_ ?_<;>intro a)|refine sy AA fun x c b=>?_|simp(disch:=first|assumption|omega) only[AU]))
@[go_sem] theorem ADp:BU (KL Tryz.prog cfg) 236 [.agg []] []=.ok (.ret (nI 0),[]):=by
  refine A7 Tryz.func236 ?_;exact au
@[go_sem] theorem ADq:BU (KL Tryz.prog cfg) 237 [.agg []] []=.ok (.ret (nI 1),[]):=by
  refine A7 Tryz.func237 ?_;exact au
@[go_sem] theorem ADr:BU (KL Tryz.prog cfg) 238 [.agg []] []=.ok (.ret (nI 1),[]):=by
  refine A7 Tryz.func238 ?_;exact au
@[go_sem] theorem ADs:BU (KL Tryz.prog cfg) 239 [.agg []] []=.ok (.ret (nI 2),[]):=by
  refine A7 Tryz.func239 ?_;exact au
@[go_sem] theorem ADt(n:Int):BU (KL Tryz.prog cfg) 240 [nI n] []=.ok (.ret (nI n),[]):=by
  refine A7 Tryz.func240 ?_;exact au
def CG.own(d:CG):Nat:=d.be.length+d.ac.length
theorem kA(d:CG)(a:d.be.length≤1000)(h2:d.ac.length≤1000):BU (KL Tryz.prog cfg) 214 [.agg [.d (.bv (d.be.map BC)),.d (.bv (d.ac.map Aw)),.d (.bv (d.rules.map BA))]] []=.ok (.ret (nI d.own),[]):=by
 refine A7 Tryz.func214 ?_;refine aw ?_;all_goals simp[CG.own]
theorem za(d:CG)(a:d.be.length≤1000)(h2:d.ac.length≤1000):BU (KL Tryz.prog cfg) 169 [.agg [.d (.bv (d.be.map BC)),.d (.bv (d.ac.map Aw)),.d (.bv (d.rules.map BA))]] []=.ok (.ret (nI d.own),[]):=by
 refine A7 Tryz.func169 ?_;refine aw ?_;all_goals simp[CG.own]
def Cy(d:CG):List Int→Int
 |[]=>0
 |j::l=>((d.be[j.toNat]?).map IL.many).getD 0+Cy d l
def CG.joinsOk(d:CG)(r:GH):Prop:=r.eq.length≤3∧(∀j∈r.eq,0≤j∧j<d.be.length)∧ ∀c∈d.be,0≤c.many∧c.many≤3
theorem get_some{α:Type}{l:List α}{i:Nat}(h:i<l.length): ∃y,l[i]? =some y:=⟨_,Bv h⟩
theorem lF(d:CG)(r:GH)(h:d.joinsOk r):BU (KL Tryz.prog cfg) 215 [.agg [.d (.bv (d.be.map BC)),.d (.bv (d.ac.map Aw)),.d (.bv (d.rules.map BA))],.agg [nI r.at_,.d (.bv (r.eq.map AR)),nI r.node]] []=.ok (.ret (nI (Cy d r.eq)),[]):=by
 obtain⟨n,b,e⟩:=h;have h2:=AB b;have g:=AB e;clear b e;refine A7 Tryz.func215 ?_;refine aw ?_;refine rounds (S:=fun a:Nat×Int=>⟨[(2,.ptr [0,0] 0),(5,nI a.2),(9,.d (.bv (r.eq.map AR))),(10,nI r.eq.length),(11,nI a.1)],[([0,0],.box [.d (.bv (d.be.map BC)),.d (.bv (d.ac.map Aw)),.d (.bv (d.rules.map BA))])],1,[]⟩)
  (Inv:=fun a=>a.1≤r.eq.length∧0≤a.2∧a.2≤3*a.1∧AH (Cy d r.eq=a.2+Cy d (r.eq.drop a.1))) (m:=fun a=>r.eq.length-a.1) (a:=(0,0)) ⟨AG,AG,AG,⟨AG⟩⟩ ?_
 rintro⟨i,c⟩ ⟨k1,k2,k3,k4⟩ IH;dsimp only at*
 (repeat' (first|simp only[go_sem, *]|(refine sx ?_ ?_<;>intro o)|refine sy AA fun x k j=>?_|simp(disch:=first|assumption|omega) only[AU]))
 .have p:=h2.out x j;obtain⟨y,f⟩:=get_some (l:=d.be) (i:=x.toNat) AA;have q:=g.out y (AS f);refine aw ?_;refine IH.out (i+1,c+y.many) AZ ⟨AZ,AZ,AZ,⟨?_⟩⟩;dsimp only;rw[k4.out,Ag k,Cy,f];simp only[F3,GO];omega
 .rw[k4.out,EX AA,Cy,Int.add_zero]
theorem zT(d:CG)(r:GH)(k:d.joinsOk r):BU (KL Tryz.prog cfg) 188 [.agg [.d (.bv (d.be.map BC)),.d (.bv (d.ac.map Aw)),.d (.bv (d.rules.map BA))],.agg [nI r.at_,.d (.bv (r.eq.map AR)),nI r.node]] []=.ok (.ret (nI (Cy d r.eq)),[]):=by
 obtain⟨n,e,f⟩:=k;have h2:=AB e;have h:=AB f;clear e f;refine A7 Tryz.func188 ?_;refine aw ?_;refine rounds (S:=fun a:Nat×Int=>⟨[(2,.ptr [0,0] 0),(3,.ptr [0,1] 0),(5,nI a.2),(6,nI a.1)],[([0,0],.box [.d (.bv (d.be.map BC)),.d (.bv (d.ac.map Aw)),.d (.bv (d.rules.map BA))]),([0,1],.box [nI r.at_,.d (.bv (r.eq.map AR)),nI r.node])],2,[]⟩)
  (Inv:=fun a=>a.1≤r.eq.length∧0≤a.2∧a.2≤3*a.1∧AH (Cy d r.eq=a.2+Cy d (r.eq.drop a.1))) (m:=fun a=>r.eq.length-a.1) (a:=(0,0)) ⟨AG,AG,AG,⟨AG⟩⟩ ?_
 rintro⟨i,c⟩ ⟨k1,k2,k3,k4⟩ IH;dsimp only at*;by_cases j:i<r.eq.length
 .obtain⟨x,b⟩:=get_some j;have p:=h2.out x (AS b);obtain⟨y,g⟩:=get_some (l:=d.be) (i:=x.toNat) AA;have t:=h.out y (AS g);have q:(i:Int)<r.eq.length:=AA;refine aw ?_;refine IH.out (i+1,c+y.many) AZ ⟨AZ,AZ,AZ,⟨?_⟩⟩;dsimp only;rw[k4.out,Ag b,Cy,g];simp only[F3,GO];omega
 ·(repeat' (first|simp only[go_sem, *]|(refine sx ?_ ?_<;>intro o)|refine sy AA fun x b s=>?_|simp(disch:=first|assumption|omega) only[AU]))
  .omega
  .rw[k4.out,EX AA,Cy,Int.add_zero]
def Mg(b:UInt8):Bool:=decide (97≤b.toNat)&&decide (b.toNat≤122)
def A0:List ByteArray:=[⟨#[97,110,100]⟩,⟨#[100,101,102]⟩,⟨#[101,108,115,101]⟩,⟨#[103,111]⟩,⟨#[105,102]⟩,⟨#[105,110]⟩,⟨#[112,108,97,99,101]⟩,⟨#[115,116,111,112]⟩,⟨#[116,104,101,110]⟩,⟨#[119,97,116,99,104]⟩]
def H3:List (Ao×AV):=A0.map fun k=>(.str k,.d (.bool true))
def Fx(s:ByteArray):Bool:=decide (1≤s.size)&&(decide (s.size≤8)&&(s.data.toList.all Mg&& !A0.any (· ==s)))
@[go_sem] theorem u6(l:List ByteArray)(s:ByteArray)(g:l.length≤1000):BU (KL Tryz.prog cfg) 167 [.d (.bv (l.map Bp)),.d (.str s)] []=.ok (.ret (.d (.bool (l.any (· ==s)))),[]):=by
  refine A7 Tryz.func167 ?_;refine aw ?_;refine rounds (S:=fun i:Nat=>⟨[(0,.d (.bv (l.map Bp))),(1,.d (.str s)),(5,nI i)],[],0,[]⟩) (Inv:=fun i=>i≤l.length∧AH (l.any (· ==s)=(l.drop i).any (· ==s))) (m:=fun i=>l.length-i) (a:=0) ⟨AG,⟨AG⟩⟩ ?_;rintro i ⟨j,b⟩ e
  (repeat' (first|simp only[go_sem, *]|(refine sx ?_ ?_<;>intro f)|refine sy AA fun x c h=>?_|simp(disch:=first|assumption|omega) only[AU]))
  .rw[b.out,Ag c,List.any_cons];simp[*]
  .refine e.out (i+1) AA ⟨AA,⟨?_⟩⟩;rw[b.out,Ag c,List.any_cons];simp[*]
  .rw[b.out,EX AA];rfl
variable{s:ByteArray}
theorem UW{v:AV}: ∀{es:List (Ao×AV)},Db es (.str s)=some none→FM es (.str s) v=es++[(.str s,v)]
 |[],_=>rfl
 |(k,w)::es,h=>by
  unfold Db at h;unfold FM;split at h
  .cases h
  .rename_i a;rw[a];simp only[DL,Mt,UN];exact UW h
  .cases h
variable{h:AD}
theorem zC{id:Abs.Id}{es:List (Ao×AV)}(b:h.get id=some (.map es))(a:Db es (.str s)=some none):mapPut cfg.T h.get (cfg.T 300) (.mp id) (.d (.str s)) (.d (.bool true))=some ⟨.undef,[(id,.map (es++[(.str s,.d (.bool true))]))]⟩:=by
 unfold mapPut;simp only[Wm,M7,T9,Ks,AV.isCell,ON,b,a,UW a]
theorem te(id:Abs.Id)(o:Abs.Obj):AD.get [(id,o)] id=some o:=by simp only[CK,is_self,F7]
@[go_sem] theorem AAh(k:Nat)(ρ:List Nat):BU (KL Tryz.prog cfg) 210 [] (k::ρ)=.ok (.ret (.mp (1::1::k::ρ)),[(1::1::k::ρ,.map H3)]):=by
  refine A7 Tryz.func210 ?_;refine aw ?_
  iterate 10 (rw[←Wm,zC (te _ _)];rotate_left;exact rfl;refine aw ?_)
  rfl
theorem Yf: ∀(L:List ByteArray) (s:ByteArray),Db (L.map fun k=>(Ao.str k,.d (.bool true))) (.str s)=some (if L.any (· ==s)=true then some (.d (.bool true))else none)
 |[],s=>by simp[Db]
 |k::L,s=>by
  rw[CO,Db,IC];cases a:(k==s)with
  |true=>simp[a]
  |false=>
   simp only[Yf L s,List.any_cons,a,I4]
theorem lB(h:(A0.any fun x=>x==s)=true):Db H3 (.str s)=some (some (.d (.bool true))):=by
 rw[H3,Yf,D5 h]
theorem p2(h:(A0.any fun x=>x==s)=false):Db H3 (.str s)=some none:=by
 rw[H3,Yf,Co (by rw[h];simp)]
@[go_sem] theorem AEc(s:ByteArray):BU (KL Tryz.prog cfg) 167 [.d (.bv [[.str ⟨#[97,110,100]⟩],[.str ⟨#[100,101,102]⟩],[.str ⟨#[101,108,115,101]⟩],[.str ⟨#[103,111]⟩],[.str ⟨#[105,102]⟩],[.str ⟨#[105,110]⟩],[.str ⟨#[112,108,97,99,101]⟩],[.str ⟨#[115,116,111,112]⟩],[.str ⟨#[116,104,101,110]⟩],[.str ⟨#[119,97,116,99,104]⟩]]),.d (.str s)] []=.ok (.ret (.d (.bool (A0.any (· ==s)))),[]):=u6 A0 s AK
variable{b:UInt8}
theorem RM(h: ¬(97≤b.toNat∧b.toNat≤122)):Mg b=false:=by
 simp only[Mg,RW,S1];omega
theorem Yd(h:97≤b.toNat∧b.toNat≤122):Mg b=true:=by
 simp only[Mg,AP,Ap];exact h
theorem ur(s:ByteArray):BU (KL Tryz.prog cfg) 127 [.d (.str s)] []=.ok (.ret (.d (.bool (Fx s))),[]):=by
 have k:s.data.toList.length=s.size:=by cases s;rfl
 refine A7 Tryz.func127 ?_
 (repeat' (first|simp only[go_sem, *]|(refine sx ?_ ?_<;>intro h)|refine sy AA fun x b j=>?_|simp(disch:=first|assumption|omega) only[AU]))
 .rw[Fx,Ci AA];rfl
 .exact zD7
 have f:1≤s.size:=AA;have g:s.size≤8:=AA;refine rounds (S:=fun i:Nat=>⟨[(0,.d (.str s)),(3,nI i)],[],0,[]⟩) (Inv:=fun i=>i≤s.size∧AH (s.data.toList.all Mg=(s.data.toList.drop i).all Mg)) (m:=fun i=>s.size-i) (a:=0) ⟨AG,⟨AG⟩⟩ ?_;rintro i ⟨l,c⟩ e
 (repeat' (first|simp only[go_sem, *]|(refine sx ?_ ?_<;>intro h)|refine sy AA fun x b j=>?_|simp(disch:=first|assumption|omega) only[AU]))
 .exact zC5
 .exact zC5
 .refine e.out (i+1) AA ⟨AA,⟨?_⟩⟩;rw[c.out,Ag b,D9,Yd AA];rfl
 .have:s.data.toList.all Mg=true:=by rw[c.out,EX AA];rfl
  simp[Fx,this,f,g]
theorem zV(s:ByteArray)(l:s.size≤9223372036854775807):BU (KL Tryz.prog cfg) 200 [.d (.str s)] []=.ok (.ret (.d (.bool (Fx s))),[]):=by
 have n:s.data.toList.length=s.size:=by cases s;rfl
 refine A7 Tryz.func200 ?_;refine aw ?_;refine rounds (S:=fun i:Nat=>⟨[(0,.d (.str s)),(5,nI s.size),(6,nI i)],[],0,[]⟩) (Inv:=fun i=>i≤s.size∧AH (s.data.toList.all Mg=(s.data.toList.drop i).all Mg)) (m:=fun i=>s.size-i) (a:=0) ⟨AG,⟨AG⟩⟩ ?_;rintro i ⟨o,b⟩ h;cases e:A0.any (· ==s)with
 |false=>
  (repeat' (first|simp only[go_sem, *,p2 e]|(refine sx ?_ ?_<;>intro j)|refine sy AA fun x c k=>?_|simp(disch:=first|assumption|omega) only[AU]))
  .exact zA3
  .exact zA3
  .exact zDS
  .exact zB9
  .exact zD7
  .rw[Fx,Ci AA];rfl
 |true=>
  (repeat' (first|simp only[go_sem, *,lB e]|(refine sx ?_ ?_<;>intro j)|refine sy AA fun x c k=>?_|simp(disch:=first|assumption|omega) only[AU]))
  .exact zA3
  .exact zA3
  .exact zDS
  .exact zB9
  .exact zD7
  .rw[Fx,Ci AA];rfl
set_option maxHeartbeats 4000000
def VX(x:Int):List Int→Int→Int
 |[],_=> -1
 |y::l,i=>if x=y then i else VX x l (i+1)
@[go_sem] theorem ADF(l:List Int)(v:Int)(g:l.length≤1000000):BU (KL Tryz.prog cfg) 220 [.d (.bv (l.map AR)),nI v] []=.ok (.ret (nI (VX v l 0)),[]):=by
  refine A7 Tryz.func220 ?_;refine aw ?_;refine rounds (S:=fun i:Nat=>⟨[(0,.d (.bv (l.map AR))),(1,nI v),(7,nI l.length),(8,nI i)],[],0,[]⟩) (Inv:=fun i=>i≤l.length∧AH (VX v l 0=VX v (l.drop i) i)) (m:=fun i=>l.length-i) (a:=0) ⟨AG,⟨AG⟩⟩ ?_;rintro i ⟨j,b⟩ e
  (repeat' (first|simp only[go_sem, *]|(refine sx ?_ ?_<;>intro f)|refine sy AA fun x c h=>?_|simp(disch:=first|assumption|omega) only[AU]))
  .subst f;rw[b.out,Ag c,VX,D5 rfl]
  .refine e.out (i+1) AA ⟨AA,⟨?_⟩⟩;rw[b.out,Ag c,VX,Co Bs];rfl
  .rw[b.out,EX AA,VX]
theorem bJ(v:Int): ∀(l:List Int) (i:Int),0≤i→(0≤VX v l i↔v∈l)
 |[],i,h=>by simp[VX]
 |y::l,i,h=>by
  rw[VX];split
  .rename_i e;simp[e,h]
  .rename_i e;rw[bJ v l (i+1) AA];simp[e]
@[go_sem] theorem Zq(l:List Int)(v:Int)(a:l.length≤1000000):BU (KL Tryz.prog cfg) 219 [.d (.bv (l.map AR)),nI v] []=.ok (.ret (.d (.bool (decide (v∈l)))),[]):=by
  have h:=bJ v l 0 AA;refine A7 Tryz.func219 ?_;exact au
theorem cP(d:CG)(n:Int)(h:AD)(π:List Nat)(id:Abs.Id)(b:h.get id=some (.box [.d (.bv (d.be.map BC)),.d (.bv (d.ac.map Aw)),.d (.bv (d.rules.map BA))])):
 ∃o h',KL Tryz.prog cfg (.fn 218) [nI n,.ptr id 0] h π true none=.ok (o,h')∧h'=h∧o=if 0≤n∧n≤d.ac.length then .ret (.ii [])else .ge IG:=by
 refine BT Tryz.func218 ?_
 (repeat' (first|simp only[go_sem, *]|(refine sx ?_ ?_<;>intro a)|refine sy AA fun x e c=>?_|simp(disch:=first|assumption|omega) only[AU]))
 all_goals simp
def DF(d:CG)(c:IL):Bool:=decide (0≤c.at_∧c.at_≤d.ac.length)&&(decide (0≤c.many)&&decide (c.many≤3))
def Dt:Nat→List Oh→Bool
 |_,[]=>true
 |i,s::l=>decide (0≤s.rc)&&(decide (s.rc≤i)&&Dt (i+1) l)
def HO(d:CG)(r:GH)(i:Nat)(c:Int):Bool:=decide (0≤c)&&(decide (c<d.be.length)&&(decide (((d.be[c.toNat]?).map IL.at_).getD 0=r.at_)&& !decide (c∈r.eq.take i)))
def joinsOk(d:CG)(r:GH):Nat→List Int→Bool
 |_,[]=>true
 |i,c::l=>HO d r i c&&joinsOk d r (i+1) l
def B7(d:CG)(r:GH):Bool:=decide (0≤r.at_∧r.at_≤d.ac.length)&&(decide (0<r.eq.length)&&(decide (r.eq.length≤3)&&joinsOk d r 0 r.eq))
def QK(l:List Int)(c:Int):List Int:=if c∈l then l else l++[c]
def HT(l:List Int):List (Ao×AV):=l.map fun c=>(.int .i64 c,.d (.bool true))
def HH(l:List Int)(rs:List GH):List Int:=rs.foldl (fun l r=>r.eq.foldl QK l) l
def CG.okG(d:CG):Bool:=decide (d.be.length≤30)&&(decide (d.ac.length≤30)&&(decide (d.rules.length≤30)&&(d.be.all (DF d)&&(Dt 0 d.ac&&(d.rules.all (B7 d)&&decide ((HH [] d.rules).length=d.be.length))))))
def Jc(v:AV)(t:Bool):Ax×AD:=if t=true then(.ret (.ii []),[])else(.ge v,[])
theorem jD(v:AV):Jc v true=(.ret (.ii []),[]):=rfl
theorem Dn(v:AV):Jc v false=(.ge v,[]):=rfl
theorem VG(v:AV)(t:Bool):Cg v t=.ok (Jc v t):=by cases t<;>rfl
theorem ir(st:List Int)(c:Int):Db (HT st) (.int .i64 c)=some (if c∈st then some (.d (.bool true))else none):=by
 induction st with
 |nil=>rfl
 |cons a st f=>
  show Db ((.int .i64 a,.d (.bool true))::HT st) _=_;rw[Db,IC];simp only[F7];by_cases h:a=c
  .subst h;simp
  .have b:(a==c)=false:=by simpa using h
   have h2: ¬c=a:=fun e=>h e.symm;rw[b,f];simp[h2]
theorem iu(st:List Int)(c:Int):FM (HT st) (.int .i64 c) (.d (.bool true))=HT (QK st c):=by
 induction st with
 |nil=>rfl
 |cons a st f=>
  show FM ((.int .i64 a,.d (.bool true))::HT st) _ _=_;rw[FM,IC];simp only[F7];by_cases h:a=c
  .subst h;simp[QK,HT]
  .have b:(a==c)=false:=by simpa using h
   have h2: ¬c=a:=fun e=>h e.symm;rw[b];simp only;rw[f];simp only[QK,D0,h2,false_or];split<;>rfl
theorem zB{id:Abs.Id}{st:List Int}{c:Int}(a:h.get id=some (.map (HT st))):mapPut cfg.T h.get (cfg.T 315) (.mp id) (nI c) (.d (.bool true))=some ⟨.undef,[(id,.map (HT (QK st c)))]⟩:=by
 unfold mapPut;simp only[OI,M7,T3,Ks,AV.isCell,ON,a,ir,iu]
@[go_sem] theorem AB8(st:List Int):(HT st).flatMap (fun p=>AE p.2)=[]:=by
  induction st with
  |nil=>rfl
  |cons a st b=>exact b
@[go_sem] theorem AB9(c:Abs.Id→Option Abs.Id)(st:List Int):(HT st).map (fun p=>(p.1,ren c p.2))=HT st:=by
  induction st with
  |nil=>rfl
  |cons a st b=>exact congrArg (List.cons _) b
theorem gY{d:CG}(h:d.be.all (DF d)=false):d.okG=false:=zFM
theorem vE{d:CG}(h:Dt 0 d.ac=false):d.okG=false:=zFM
theorem Yj{d:CG}(h:d.rules.all (B7 d)=false):d.okG=false:=zFM
theorem y5{d:CG}(h: ¬(HH [] d.rules).length=d.be.length):d.okG=false:=by simp only[CG.okG,Ci h,Gt]
theorem k7(d:CG):BU (KL Tryz.prog cfg) 213 [.agg [.d (.bv (d.be.map BC)),.d (.bv (d.ac.map Aw)),.d (.bv (d.rules.map BA))]] []=.ok (Jc IG d.okG):=by
 refine A7 Tryz.func213 ?_
 (repeat' (first|simp only[go_sem, *]|(refine sx ?_ ?_<;>intro f)|refine sy AA fun x b j=>?_|simp(disch:=first|assumption|omega) only[AU]))
 all_goals try(rw[show d.okG=false by simp[CG.okG];omega,Dn])
 have v:d.be.length≤30:=AA;have w:d.ac.length≤30:=AA;have z:d.rules.length≤30:=AA;refine rounds (S:=fun i:Nat=>⟨[(1,.ptr [0,0] 0),(2,.fn 218 [] [.ptr [0,0] 0]),(31,.d (.bv (d.be.map BC))),(32,nI d.be.length),(33,nI i)],[([0,0],.box [.d (.bv (d.be.map BC)),.d (.bv (d.ac.map Aw)),.d (.bv (d.rules.map BA))])],1,[]⟩)
  (Inv:=fun i=>i≤d.be.length∧AH (d.be.all (DF d)=(d.be.drop i).all (DF d))) (m:=fun i=>d.be.length-i) (a:=0) ⟨AG,⟨AG⟩⟩ ?_
 clear f;rintro i ⟨o,e⟩ h
 (repeat' (first|simp only[go_sem, *]|(refine sx ?_ ?_<;>intro f)|refine sy AA fun x b j=>?_|simp(disch:=first|assumption|omega) only[AU]))
 .refine Ad (cP d x.at_ _ _ _ ?_) (fun M g1 s=>?_)
  .simp only[go_sem]
  obtain⟨rfl,rfl⟩:=s;by_cases g:0≤x.at_∧x.at_≤d.ac.length
  .rw[D5 g]
   (repeat' (first|simp only[go_sem, *]|(refine sx ?_ ?_<;>intro f)|refine sy AA fun x b j=>?_|simp(disch:=first|assumption|omega) only[AU]))
   .refine h.out (i+1) AA ⟨AA,⟨?_⟩⟩;rw[e.out,Ag b,D9,show DF d x=true by simp[DF, *],FN]
   .exact zDo
   .exact zDo
  .rw[Co g];refine aw ?_;rw[gY,Dn];rw[e.out,Ag b,D9,show DF d x=false by simp only[DF,Ci g,DO],DO]
 have B:d.be.all (DF d)=true:=by rw[e.out,EX AA];rfl
 clear f o e h i;refine rounds (S:=fun i:Nat=>⟨[(1,.ptr [0,0] 0),(2,.fn 218 [] [.ptr [0,0] 0]),(52,.d (.bv (d.ac.map Aw))),(53,nI d.ac.length),(54,nI i)],[([0,0],.box [.d (.bv (d.be.map BC)),.d (.bv (d.ac.map Aw)),.d (.bv (d.rules.map BA))])],1,[]⟩)
  (Inv:=fun i=>i≤d.ac.length∧AH (Dt 0 d.ac=Dt i (d.ac.drop i))) (m:=fun i=>d.ac.length-i) (a:=0) ⟨AG,⟨AG⟩⟩ ?_
 rintro i ⟨o,e⟩ h
 (repeat' (first|simp only[go_sem, *]|(refine sx ?_ ?_<;>intro f)|refine sy AA fun x b j=>?_|simp(disch:=first|assumption|omega) only[AU]))
 .refine h.out (i+1) AA ⟨AA,⟨?_⟩⟩;rw[e.out,Ag b,Dt];simp[*]
 .rw[vE,Dn];rw[e.out,Ag b,Dt];simp[*]
 .rw[vE,Dn];rw[e.out,Ag b,Dt];simp[*]
 have K:Dt 0 d.ac=true:=by rw[e.out,EX AA];rfl
 clear f o e h i;refine rounds (S:=fun a:Nat×List Int=>⟨[(1,.ptr [0,0] 0),(2,.fn 218 [] [.ptr [0,0] 0]),(7,.mp [1,1]),(72,.d (.bv (d.rules.map BA))),(73,nI d.rules.length),(74,nI a.1)],[([0,0],.box [.d (.bv (d.be.map BC)),.d (.bv (d.ac.map Aw)),.d (.bv (d.rules.map BA))]),([1,1],.map (HT a.2))],2,[]⟩)
  (Inv:=fun a=>a.1≤d.rules.length∧AH (d.rules.all (B7 d)=(d.rules.drop a.1).all (B7 d))∧AH (HH [] d.rules=HH a.2 (d.rules.drop a.1))) (m:=fun a=>d.rules.length-a.1) (a:=(0,[])) ⟨AG,⟨AG⟩,⟨AG⟩⟩ ?_
 rintro⟨i,st⟩ ⟨o,e,k3⟩ h;dsimp only at*;by_cases C:i<d.rules.length
 .obtain⟨r,b⟩:=get_some C;have D:(i:Int)<d.rules.length:=AA;refine aw ?_;refine Ad (cP d r.at_ _ _ _ ?_) (fun M g1 s=>?_)
  .simp only[go_sem]
  obtain⟨rfl,rfl⟩:=s;by_cases g:0≤r.at_∧r.at_≤d.ac.length
  .rw[D5 g]
   (repeat' (first|simp only[go_sem, *]|(refine sx ?_ ?_<;>intro f)|refine sy AA fun x b j=>?_|simp(disch:=first|assumption|omega) only[AU]))
   ·
    refine rounds (S:=fun a:Nat×List Int=>⟨[(1,.ptr [0,0] 0),(2,.fn 218 [] [.ptr [0,0] 0]),(7,.mp [1,1]),(9,.ptr [0,2] 0),(72,.d (.bv (d.rules.map BA))),(73,nI d.rules.length),(74,nI i),(94,.d (.bv (r.eq.map AR))),(95,nI r.eq.length),(96,nI a.1)],[([0,0],.box [.d (.bv (d.be.map BC)),.d (.bv (d.ac.map Aw)),.d (.bv (d.rules.map BA))]),([1,1],.map (HT a.2)),([0,2],.box [nI r.at_,.d (.bv (r.eq.map AR)),nI r.node])],3,[]⟩)
     (Inv:=fun a=>a.1≤r.eq.length∧AH (joinsOk d r 0 r.eq=joinsOk d r a.1 (r.eq.drop a.1))∧AH (HH [] d.rules=HH ((r.eq.drop a.1).foldl QK a.2) (d.rules.drop (i+1)))) (m:=fun a=>r.eq.length-a.1) (a:=(0,st)) ⟨AG,⟨AG⟩,⟨by rw[k3.out,Ag b];rfl⟩⟩ ?_
    rintro⟨k,st2⟩ ⟨j1,j2,j3⟩ IH2;dsimp only at*;by_cases H:k<r.eq.length
    .obtain⟨c,q⟩:=get_some H;have I:(k:Int)<r.eq.length:=AA;have N:(r.eq.take k).length≤1000000:=Aa;have n:AH (HO d r k c=false→(Ax.ge IG,([]:AD))=Jc IG d.okG):=.mk fun A=>by
      have F:joinsOk d r 0 r.eq=false:=by rw[j2.out,Ag q,joinsOk,A,DO]
      rw[Yj,Dn];rw[e.out,Ag b,D9,show B7 d r=false by simp only[B7,F,Gt],DO]
     by_cases t:0≤c
     .by_cases u:c<d.be.length
      .obtain⟨y,L⟩:=get_some (l:=d.be) (i:=c.toNat) AA;have p:HO d r k c=(decide (y.at_=r.at_)&& !decide (c∈r.eq.take k)):=by
        simp only[HO,L,F3,GO,D1 t,D1 u,FN]
       (repeat' (first|simp only[go_sem, *]|(refine sx ?_ ?_<;>intro f)|refine sy AA fun x b j=>?_|simp(disch:=first|assumption|omega) only[AU,Zq]))
       .rw[←OI,zB (st:=st2) zFF];refine aw ?_;refine IH2.out (k+1,QK st2 c) AZ ⟨AZ,⟨?_⟩,⟨?_⟩⟩
        .dsimp only;rw[j2.out,Ag q,joinsOk,p];simp only[*,decide_true,decide_false,PI,PM,FN,DO]
        .dsimp only;rw[j3.out,Ag q,Ms]
       .exact n.out (by rw[p];simp only[*,decide_true,decide_false,PI,PM,FN,DO])
       .exact n.out (by rw[p,Ci Bs,DO])
      .refine aw ?_;exact n.out (by simp only[HO,Ci u,DO,Gt])
     .refine aw ?_;exact n.out (by simp only[HO,Ci t,DO])
    .have I: ¬(k:Int)<r.eq.length:=AA;refine aw ?_;refine h.out (i+1,st2) AZ ⟨AZ,⟨?_⟩,⟨?_⟩⟩
     .dsimp only;rw[e.out,Ag b,D9,show B7 d r=true by
       rw[EX AA]at j2;simp only[B7,D1 g,j2.out,joinsOk];simp;omega,FN]
     .dsimp only;rw[j3.out,EX AA];rfl
   .exact zDc
   .exact zDc
  .rw[Co g];refine aw ?_;rw[Yj,Dn];rw[e.out,Ag b,D9,show B7 d r=false by simp only[B7,Ci g,DO],DO]
 .have D: ¬(i:Int)<d.rules.length:=AA;have J:d.rules.all (B7 d)=true:=by rw[e.out,EX AA];rfl
  have O:(HH [] d.rules).length=(HT st).length:=by
   rw[k3.out,EX AA];simp[HH,HT]
  (repeat' (first|simp only[go_sem, *]|(refine sx ?_ ?_<;>intro f)|refine sy AA fun x b j=>?_|simp(disch:=first|assumption|omega) only[AU]))
  .rw[show d.okG=true by
    simp only[CG.okG,B,K,J,D1 v,D1 w,D1 z,FN,Ap];omega,jD]
  .rw[y5 AA,Dn]
def C9(t:Bool):List Ao:=[.bool t]
attribute [go_sem] C9
def Pc(u:List Bool)(c:Int):List Bool:=u.set c.toNat true
def Ns(u:List Bool)(rs:List GH):List Bool:=rs.foldl (fun u r=>r.eq.foldl Pc u) u
def CG.okR(d:CG):Bool:=decide (d.be.length≤30)&&(decide (d.ac.length≤30)&&(decide (d.rules.length≤30)&&(d.be.all (DF d)&&(Dt 0 d.ac&&(d.rules.all (B7 d)&&(Ns (List.replicate d.be.length false) d.rules).all id)))))
theorem Yk{d:CG}(h:d.be.all (DF d)=false):d.okR=false:=zFN
theorem vF{d:CG}(h:Dt 0 d.ac=false):d.okR=false:=zFN
theorem Rb{d:CG}(h:d.rules.all (B7 d)=false):d.okR=false:=zFN
theorem nA{d:CG}(h:(Ns (List.replicate d.be.length false) d.rules).all id=false):d.okR=false:=by simp only[CG.okR,h,Gt]
theorem xi(d:CG):BU (KL Tryz.prog cfg) 128 [.agg [.d (.bv (d.be.map BC)),.d (.bv (d.ac.map Aw)),.d (.bv (d.rules.map BA))]] []=.ok (.ret (.d (.bool d.okR)),[]):=by
 refine A7 Tryz.func128 ?_
 (repeat' (first|simp only[go_sem, *]|(refine sx ?_ ?_<;>intro g)|refine sy AA fun x f n=>?_|simp(disch:=first|assumption|omega) only[AU]))
 all_goals try(rw[show d.okR=false by simp[CG.okR];omega])
 have R:d.be.length≤30:=AA;have J:d.ac.length≤30:=AA;have T:d.rules.length≤30:=AA;refine rounds (S:=fun i:Nat=>⟨[(1,.ptr [0,0] 0),(3,nI i)],[([0,0],.box [.d (.bv (d.be.map BC)),.d (.bv (d.ac.map Aw)),.d (.bv (d.rules.map BA))])],1,[]⟩)
  (Inv:=fun i=>i≤d.be.length∧AH (d.be.all (DF d)=(d.be.drop i).all (DF d))) (m:=fun i=>d.be.length-i) (a:=0) ⟨AG,⟨AG⟩⟩ ?_
 clear g;rintro i ⟨o,b⟩ j
 (repeat' (first|simp only[go_sem, *]|(refine sx ?_ ?_<;>intro g)|refine sy AA fun x f n=>?_|simp(disch:=first|assumption|omega) only[AU]))
 .exact zBN
 .exact zBN
 .exact zBN
 .exact zBN
 .refine j.out (i+1) AA ⟨AA,⟨?_⟩⟩;rw[b.out,Ag f,D9,show DF d x=true by simp[DF];omega,FN]
 have C:d.be.all (DF d)=true:=zFn
 clear g o b j i;refine rounds (S:=fun i:Nat=>⟨[(1,.ptr [0,0] 0),(4,nI i)],[([0,0],.box [.d (.bv (d.be.map BC)),.d (.bv (d.ac.map Aw)),.d (.bv (d.rules.map BA))])],1,[]⟩)
  (Inv:=fun i=>i≤d.ac.length∧AH (Dt 0 d.ac=Dt i (d.ac.drop i))) (m:=fun i=>d.ac.length-i) (a:=0) ⟨AG,⟨AG⟩⟩ ?_
 rintro i ⟨o,b⟩ j
 (repeat' (first|simp only[go_sem, *]|(refine sx ?_ ?_<;>intro g)|refine sy AA fun x f n=>?_|simp(disch:=first|assumption|omega) only[AU]))
 .rw[vF];rw[b.out,Ag f,Dt];simp;omega
 .rw[vF];rw[b.out,Ag f,Dt];simp;omega
 .refine j.out (i+1) AA ⟨AA,⟨?_⟩⟩;rw[b.out,Ag f,Dt,D1 AA,D1 AA,FN,FN]
 have M:Dt 0 d.ac=true:=zFn
 by_cases B:d.be=[]
 .rw[B];clear g o b j;refine aw ?_;rw[Dd];have K:d.be.length=0:=by rw[B];rfl
  rcases hr:d.rules with _|⟨r,rs⟩
  .refine aw ?_;rw[Dd];refine aw ?_;rw[show d.okR=true by
    simp only[CG.okR,C,M,hr,B,Ns];simp;exact J]
  .have q:AH (B7 d r=false→false=d.okR):=.mk fun h=>by
    rw[Rb];rw[hr,D9,h,DO]
   clear C;rcases z:r.eq with _|⟨c,cs⟩
   ·(repeat' (first|simp only[go_sem, *]|(refine sx ?_ ?_<;>intro g)|refine sy AA fun x f n=>?_|simp(disch:=first|assumption|omega) only[AU]))
    all_goals first|(rw[←q.out (by simp[B7,z])];done)|(exfalso;omega)
   .have q:=AH.mk (q.out (by
     have:joinsOk d r 0 r.eq=false:=by
      rw[z,joinsOk,HO,K];by_cases U:0≤c
      .rw[Ci (p:=c<((0:Nat):Int)) AA];simp
      .rw[Ci U];simp
     simp only[B7,this,Gt]))
    (repeat' (first|simp only[go_sem, *]|(refine sx ?_ ?_<;>intro g)|refine sy AA fun x f n=>?_|simp(disch:=first|assumption|omega) only[AU]))
    all_goals try first|(rw[←q.out];done)|(exfalso;omega)
    rw[Dd]
    (repeat' (first|simp only[go_sem, *]|(refine sx ?_ ?_<;>intro g)|refine sy AA fun x f n=>?_|simp(disch:=first|assumption|omega) only[AU]))
    all_goals first|(rw[←q.out];done)|(exfalso;omega)
 have ad:0<d.be.length:=List.length_pos_iff.2 B;rw[RP (zs:=[.bool false]) ad zEs rfl rfl AK rfl];clear g o b j;refine aw ?_;have L:(List.replicate d.be.length [Ao.bool false])=(List.replicate d.be.length false).map C9:=by rw[Ol];rfl
 rw[L];have N:(List.replicate d.be.length false).length=d.be.length:=I7;refine rounds (S:=fun a:Nat×List Bool=>⟨[(1,.ptr [0,0] 0),(5,.f8 [1,1] 0 d.be.length),(6,nI a.1)],[([0,0],.box [.d (.bv (d.be.map BC)),.d (.bv (d.ac.map Aw)),.d (.bv (d.rules.map BA))]),([1,1],.em 1 (a.2.map C9))],2,[]⟩)
  (Inv:=fun a=>a.1≤d.rules.length∧a.2.length=d.be.length∧AH (d.rules.all (B7 d)=(d.rules.drop a.1).all (B7 d))∧AH (Ns (List.replicate d.be.length false) d.rules=Ns a.2 (d.rules.drop a.1))) (m:=fun a=>d.rules.length-a.1) (a:=(0,List.replicate d.be.length false)) ⟨AG,N,⟨AG⟩,⟨AG⟩⟩ ?_
 clear L N;rintro⟨i,u⟩ ⟨o,k0,b,k3⟩ j;dsimp only at*;by_cases D:i<d.rules.length
 .obtain⟨r,f⟩:=get_some D;have w:(i:Int)<d.rules.length:=AA
  (repeat' (first|simp only[go_sem, *]|(refine sx ?_ ?_<;>intro g)|refine sy AA fun x f n=>?_|simp(disch:=first|assumption|omega) only[AU]))
  .exact zBO
  .exact zBO
  .exact zBO
  .exact zBO
  refine rounds (S:=fun a:Nat×List Bool=>⟨[(1,.ptr [0,0] 0),(5,.f8 [1,1] 0 d.be.length),(6,nI i),(7,.ptr [0,2] 0),(8,nI a.1)],[([0,0],.box [.d (.bv (d.be.map BC)),.d (.bv (d.ac.map Aw)),.d (.bv (d.rules.map BA))]),([1,1],.em 1 (a.2.map C9)),([0,2],.box [nI r.at_,.d (.bv (r.eq.map AR)),nI r.node])],3,[]⟩)
   (Inv:=fun a=>a.1≤r.eq.length∧a.2.length=d.be.length∧AH (joinsOk d r 0 r.eq=joinsOk d r a.1 (r.eq.drop a.1))∧AH (Ns (List.replicate d.be.length false) d.rules=Ns ((r.eq.drop a.1).foldl Pc a.2) (d.rules.drop (i+1)))) (m:=fun a=>r.eq.length-a.1) (a:=(0,u)) ⟨AG,k0,⟨AG⟩,⟨by rw[k3.out,Ag f];rfl⟩⟩ ?_
  rintro⟨k,u2⟩ ⟨j1,j0,j2,j3⟩ IH2;dsimp only at*;by_cases X:k<r.eq.length
  .obtain⟨c,I⟩:=get_some X;have Y:(k:Int)<r.eq.length:=AA;have s:AH (HO d r k c=false→false=d.okR):=.mk fun W=>by
    have z:joinsOk d r 0 r.eq=false:=by rw[j2.out,Ag I,joinsOk,W,DO]
    rw[Rb];rw[b.out,Ag f,D9,show B7 d r=false by simp only[B7,z,Gt],DO]
   by_cases av:c<0
   .refine aw ?_;rw[←s.out (by simp only[HO,Ci (show¬0≤c by omega),DO])]
   by_cases az:(d.be.length:Int)≤c
   .refine aw ?_;rw[←s.out (by simp only[HO,Ci (show¬c<d.be.length by omega),DO,Gt])]
   obtain⟨y,ar⟩:=get_some (l:=d.be) (i:=c.toNat) AA;have F:HO d r k c=(decide (y.at_=r.at_)&& !decide (c∈r.eq.take k)):=by
    simp only[HO,ar,F3,GO,D1 (show 0≤c by omega),D1 (show c<d.be.length by omega),FN]
   have a0:0≤c:=AA
   (repeat' (first|simp only[go_sem, *]|(refine sx ?_ ?_<;>intro g)|refine sy AA fun x f n=>?_|simp(disch:=first|assumption|omega) only[AU]))
   .refine rounds (S:=fun m:Nat=>⟨[(1,.ptr [0,0] 0),(5,.f8 [1,1] 0 d.be.length),(6,nI i),(7,.ptr [0,2] 0),(8,nI k),(9,nI c),(10,nI m)],[([0,0],.box [.d (.bv (d.be.map BC)),.d (.bv (d.ac.map Aw)),.d (.bv (d.rules.map BA))]),([1,1],.em 1 (u2.map C9)),([0,2],.box [nI r.at_,.d (.bv (r.eq.map AR)),nI r.node])],3,[]⟩)
     (Inv:=fun m=>m≤k∧AH (c∉r.eq.take m)) (m:=fun m=>k-m) (a:=0) ⟨AG,⟨AG⟩⟩ ?_
    rintro m ⟨a1,P⟩ Q;by_cases n:m<k
    .obtain⟨v,O⟩:=get_some (l:=r.eq) (i:=m) AA;have Z:(m:Int)<k:=AA;have ai:r.eq.take (m+1)=r.eq.take m++[v]:=by rw[F6,O];rfl
     (repeat' (first|simp only[go_sem, *]|(refine sx ?_ ?_<;>intro g)|refine sy AA fun x f n=>?_|simp(disch:=first|assumption|omega) only[AU]))
     .have:c∈r.eq.take k:=by
       rw[←g];have:(r.eq.take k)[m]? =some v:=by rw[List.getElem?_take_of_lt n,O]
       exact AS this
      rw[←s.out (by rw[F,D1 this];simp)]
     .refine Q.out (m+1) AA ⟨AA,⟨?_⟩⟩;rw[ai];simp only[EL,Ac,not_or];exact⟨P.out,fun h=>by simp_all⟩
    .have Z: ¬(m:Int)<k:=AA;have K:c.toNat<d.be.length:=AA;obtain⟨t,H⟩:=get_some (l:=u2) (i:=c.toNat) AA;have ac:m=k:=AA;subst ac;refine aw ?_;have e:(u2.map C9).set c.toNat [Ao.bool true]=(Pc u2 c).map C9:=by rw[Pc,JP];rfl
     rw[e];refine IH2.out (m+1,Pc u2 c) AZ ⟨AZ,by simp[Pc,j0],⟨?_⟩,⟨?_⟩⟩
     .dsimp only;rw[j2.out,Ag I,joinsOk,F,D1 Bs,Ci P.out];rfl
     .dsimp only;rw[j3.out,Ag I,Ms]
   .rw[←s.out (by rw[F,Ci Bs,DO])]
  .have Y: ¬(k:Int)<r.eq.length:=AA;refine aw ?_;refine j.out (i+1,u2) AZ ⟨AZ,j0,⟨?_⟩,⟨?_⟩⟩
   .dsimp only;rw[b.out,Ag f,D9,show B7 d r=true by
     rw[EX AA]at j2;simp only[B7,j2.out,joinsOk];simp;omega,FN]
   .dsimp only;rw[j3.out,EX AA];rfl
 .have w: ¬(i:Int)<d.rules.length:=AA;refine aw ?_;have ag:d.rules.all (B7 d)=true:=by rw[b.out,EX AA];rfl
  have A:Ns (List.replicate d.be.length false) d.rules=u:=by rw[k3.out,EX AA];rfl
  refine rounds (S:=fun i:Nat=>⟨[(5,.f8 [1,0] 0 d.be.length),(11,nI i)],[([1,0],.em 1 (u.map C9))],1,[]⟩)
   (Inv:=fun i=>i≤d.be.length∧AH (u.all id=(u.drop i).all id)) (m:=fun i=>d.be.length-i) (a:=0) ⟨AG,⟨AG⟩⟩ ?_
  clear o b k3 j D w i;rintro i ⟨o,b⟩ j;have A:=AB A;by_cases D:i<d.be.length
  .obtain⟨t,H⟩:=get_some (l:=u) (i:=i) AA;have w:(i:Int)<d.be.length:=AA;cases t
   .refine aw ?_;rw[nA (by rw[A.out,b.out,Ag H,D9];rfl)]
   .refine aw ?_;refine j.out (i+1) AA ⟨AA,⟨?_⟩⟩;rw[b.out,Ag H,D9];rfl
  .have w: ¬(i:Int)<d.be.length:=AA;have V:u.all id=true:=by rw[b.out,EX AA];rfl
   refine aw ?_;rw[show d.okR=true by
    simp only[CG.okR,C,M,ag,A.out,V,D1 R,D1 J,D1 T,ON]]
def Dh(op:Int):Option Nat:=
 if op=1 then some 0 else if op=7 then some 0 else if op=3 then some 2 else if op=2 then some 0 else if op=5 then some 2
 else if op=6 then some 1 else if op=8 then some 1 else if op=4 then some 1 else none
def E0(x:C2):Bool:=if x.op=2 then decide (x.args.length≤3)else if x.op=5 then decide (x.args.length=1)else decide (x.args.length=0)
def W8(p:AX)(size:Int)(x:C2):Bool:=if x.op=2∨x.op=6∨x.op=8 then decide (0≤x.n∧x.n<size)else if x.op=4 then decide (0≤x.n∧x.n<p.defs.length)else decide (x.n=0)
def DB(p:AX)(size:Int)(x:C2):Bool:=decide (Dh x.op=some x.kids.length)&&(W8 p size x&&(E0 x&&x.args.all (Bu.ok size)))
structure Bo where
 co:List Int
 met:List Bool
 defs:List Bool
def Cp(f:Int→Int→Bo→Option Bo):List (Int×Int)→Bo→Option Bo
 |[],st=>some st
 |(n,s)::l,st=>match f n s st with
  |some st'=>Cp f l st'
  |none=>none
def DK(d:CG)(size:Int)(l:List GH):List (Int×Int):=l.map fun r=>(r.node,size+Cy d r.eq)
def Cw(size:Int)(l:List Oh):List (Int×Int):=l.map fun s=>(s.node,size)
def Cq(size:Int)(l:List Int):List (Int×Int):=l.map fun k=>(k,size)
def Sk(p:AX)(size:Int)(x:C2)(st:Bo):Option (List (Int×Int)×Bo):=
 if x.op=4 then match p.defs[x.n.toNat]? with
  |some d=>if st.defs[x.n.toNat]? =some false∧d.okG=true then some (DK d (size+d.own) d.rules++(Cw (size+d.own) d.ac++Cq (size+d.own) x.kids),{st with defs:=st.defs.set x.n.toNat true})else none
  |none=>none
 else some (Cq size x.kids,st)
def Bo.meet(st:Bo)(n size:Int):Bo:={st with co:=st.co.set n.toNat size,met:=st.met.set n.toNat true}
def Bg(p:AX):Nat→Int→Int→Bo→Option Bo
 |0,_,_,_=>none
 |k+1,n,size,st=>
  if 0≤n∧st.met[n.toNat]? =some false then
   match p.nodes[n.toNat]? with
   |some x=>if DB p size x=true then match Sk p size x (st.meet n size)with
    |some (l,st2)=>Cp (Bg p k) l st2
    |none=>none
    else none
   |none=>none
  else none
def dI(a b:ByteArray):Bool:=Op.bytesLess a.toList b.toList
def Jg:Option ByteArray→List ByteArray→Bool
 |_,[]=>true
 |b,a::l=>Fx a&&((match b with|some b=>dI b a|none=>true)&&Jg (some a) l)
def MC(l:List ByteArray):Bool:=Jg none l
def AX.small(p:AX):Bool:=decide (p.free.length≤12)&&(decide (p.nodes.length≤60)&&decide (p.defs.length≤12))
def Bo.init(p:AX):Bo:=⟨List.replicate p.nodes.length 0,List.replicate p.nodes.length false,List.replicate p.defs.length false⟩
def looks(p:AX):Option Bo:=
 if p.small=true∧MC p.free=true then match Bg p (p.nodes.length+1) p.main p.free.length (Bo.init p)with
  |some st=>if st.met.all id=true∧st.defs.all id=true then some st else none
  |none=>none
 else none
structure Bo.fit(p:AX)(st:Bo):Prop where
 co:st.co.length=p.nodes.length
 met:st.met.length=p.nodes.length
 defs:st.defs.length=p.defs.length
def Ew(l:List Bool):Nat:=l.count false
theorem Fv: ∀{l:List Bool} {n:Nat},l[n]? =some false→Ew (l.set n true)+1=Ew l
 |[],n,h=>by simp at h
 |b::l,0,h=>by
  simp only[F4,Cs]at h;subst h;simp[Ew]
 |b::l,n+1,h=>by
  simp only[GS]at h;have:=Fv h;cases b<;>simp[Ew]at this⊢ <;>omega
theorem Nr(l:List Bool):Ew l≤l.length:=List.count_le_length
variable{st:Bo}
theorem QX{p:AX}(h:st.fit p)(n size:Int):(st.meet n size).fit p:=⟨by simp[Bo.meet,h.co],by simp[Bo.meet,h.met],by simp[Bo.meet,h.defs]⟩
variable{l:List (Int×Int)}
theorem tj{p:AX}{size:Int}{x:C2}{a:Bo}(h:Sk p size x st=some (l,a)):a.co=st.co∧a.met=st.met∧a.defs.length=st.defs.length:=by
 unfold Sk at h;split at h
 .split at h
  .split at h
   .cases h;simp
   .cases h
  .cases h
 .cases h;simp
variable{f:Int→Int→Bo→Option Bo}
theorem RB{R:Bo→Bo→Prop}(g: ∀st,R st st)(i: ∀a b c,R a b→R b c→R a c)(e: ∀n s st st',f n s st=some st'→R st st'): ∀{l:List (Int×Int)} {st st':Bo},Cp f l st=some st'→R st st'
 |[],st,st',h=>by cases h;exact g _
 |(n,s)::l,st,st',h=>by
  rw[Cp]at h;split at h
  .rename_i k j;exact i _ _ _ (e _ _ _ _ j) (RB g i e h)
  .cases h
structure kL(st st':Bo):Prop where
 co:st'.co.length=st.co.length
 met:st'.met.length=st.met.length
 defs:st'.defs.length=st.defs.length
 less:Ew st'.met≤Ew st.met
theorem C6(p:AX): ∀(k:Nat) (n size:Int) (st st':Bo),Bg p k n size st=some st'→kL st st'
 |0,n,size,st,st',h=>by cases h
 |k+1,n,size,st,st',h=>by
  rw[Bg]at h;split at h
  .rename_i i;split at h
   .rename_i x o;split at h
    .split at h
     .rename_i l j h2;have f:=tj h2;have g:kL j st':=RB (R:=kL) (fun st=>⟨rfl,rfl,rfl,Es _⟩) (fun a b c e h2=>⟨h2.1.trans e.1,h2.2.trans e.2,h2.3.trans e.3,IP h2.4 e.4⟩) (C6 p k) h;have m:=Fv i.2;refine⟨g.1.trans ?_,g.2.trans ?_,g.3.trans ?_,IP g.4 ?_⟩
      .rw[f.1];simp[Bo.meet]
      .rw[f.2.1];simp[Bo.meet]
      .rw[f.2.2];simp[Bo.meet]
      .rw[f.2.1];exact zDP
     .cases h
    .cases h
   .cases h
  .cases h
def Ji(p:AX)(size:Int)(x:C2):Option (List (Int×Int)):=
 if x.op=4 then match p.defs[x.n.toNat]? with
  |some d=>if d.okG=true then some (DK d (size+d.own) d.rules++(Cw (size+d.own) d.ac++Cq (size+d.own) x.kids))else none
  |none=>none
 else some (Cq size x.kids)
theorem L4{d:CG}(h: ∀c∈d.be,0≤c.many∧c.many≤3): ∀l:List Int,0≤Cy d l∧Cy d l≤3*l.length
 |[]=>by simp[Cy]
 |j::l=>by
  have b:=L4 h l;rw[Cy];have:0≤((d.be[j.toNat]?).map IL.many).getD 0∧((d.be[j.toNat]?).map IL.many).getD 0≤3:=by
   cases a:d.be[j.toNat]? with
   |none=>simp
   |some c=>simpa using h c (AS a)
  simp only[List.length_cons];omega
structure Oi(d:CG):Prop where
 be:d.be.length≤30
 ac:d.ac.length≤30
 rules:d.rules.length≤30
 chan: ∀c∈d.be,0≤c.at_∧c.at_≤d.ac.length∧0≤c.many∧c.many≤3
 spot:Dt 0 d.ac=true
 rt: ∀r∈d.rules,B7 d r=true
 stands:(HH [] d.rules).length=d.be.length
theorem Ug{d:CG}(h:d.okG=true):Oi d:=by
 simp only[CG.okG,AP,Ap,D4,DF]at h;obtain⟨e,h2,f,a,g,i,j⟩:=h;exact⟨e,h2,f,fun c b=>⟨(a c b).1.1,(a c b).1.2,(a c b).2.1,(a c b).2.2⟩,g,i,j⟩
variable{r:GH}
theorem O8{d:CG}: ∀{i:Nat} {l:List Int},joinsOk d r i l=true→ ∀j∈l,0≤j∧j<d.be.length
 |i,[],h=>AG
 |i,c::l,h=>by
  intro j a;rw[joinsOk,AP]at h;rcases D0.1 a with rfl|a
  .have:=h.1;simp only[HO,AP,Ap]at this;exact⟨this.1,this.2.1⟩
  .exact O8 h.2 j a
theorem PQ{d:CG}(h:Oi d)(b:r∈d.rules):d.joinsOk r:=by
 have:=h.rt r b;simp only[B7,AP,Ap]at this;exact⟨this.2.2.1,O8 this.2.2.2,fun c a=>(h.chan c a).2.2⟩
theorem PK{d:CG}(h:Oi d):d.own≤60:=by
 have:=h.be;have:=h.ac;unfold CG.own;omega
theorem qJ{p:AX}{size:Int}{x:C2}(h:Ji p size x=some l): ∀q∈l,size≤q.2∧q.2≤size+70:=by
 unfold Ji at h;split at h
 .split at h
  .rename_i d f;split at h
   .rename_i a;cases h;have a:=Ug a;have g:=PK a;intro q b;simp only[EL,DK,Cw,Cq,F2]at b;rcases b with⟨r,c,rfl⟩|⟨r,c,rfl⟩|⟨r,c,rfl⟩
    .have e:=PQ a c;have:=L4 e.2.2 r.eq;have:=e.1;dsimp only;omega
    .dsimp only;omega
    .dsimp only;omega
   .cases h
  .cases h
 .cases h;intro q b;simp only[Cq,F2]at b;obtain⟨k,a,rfl⟩:=b;dsimp only;omega
def Bo.has(st:Bo)(q:Int×Int):Prop:=0≤q.1∧st.met[q.1.toNat]? =some true∧st.co[q.1.toNat]? =some q.2
structure NS(p:AX)(st:Bo)(i:Nat)(x:C2):Prop where
 met:st.met[i]? =some true
 ex: ∃s l,st.co[i]? =some s∧0≤s∧s≤5000∧DB p s x=true∧Ji p s x=some l∧ ∀q∈l,st.has q
structure xH(p:AX)(st st':Bo):Prop where
 pp: ∀i:Nat,st.met[i]? =some true→st'.met[i]? =some true∧st'.co[i]? =st.co[i]?
 i9: ∀(i:Nat) (x:C2),st'.met[i]? =some true→st.met[i]? ≠some true→p.nodes[i]? =some x→NS p st' i x
 defs: ∀i:Nat,st.defs[i]? =some true→st'.defs[i]? =some true
 news: ∀(i:Nat) (x:C2),st'.met[i]? =some true→st.met[i]? ≠some true→p.nodes[i]? =some x→x.op=4→st.defs[x.n.toNat]? ≠some true∧st'.defs[x.n.toNat]? =some true
 used: ∀n:Nat,st'.defs[n]? =some true→st.defs[n]? ≠some true→ ∃(i:Nat) (x:C2),p.nodes[i]? =some x∧x.op=4∧x.n.toNat=n
 diff: ∀(i j:Nat) (x y:C2),i≠j→st'.met[i]? =some true→st.met[i]? ≠some true→p.nodes[i]? =some x→x.op=4→st'.met[j]? =some true→st.met[j]? ≠some true→p.nodes[j]? =some y→y.op=4→x.n.toNat≠y.n.toNat
variable{st':Bo}
theorem tZ{p:AX}{q:Int×Int}(h:st.has q)(c:xH p st st'):st'.has q:=by
 obtain⟨a,h2,b⟩:=h;have:=c.pp _ h2;exact⟨a,this.1,by rw[this.2,b]⟩
theorem y6{p:AX}{i:Nat}{x:C2}(h:NS p st i x)(a:xH p st st'):NS p st' i x:=by
 obtain⟨c,s,l,h2,b,j,e,f,g⟩:=h;have:=a.pp _ c;exact⟨this.1,s,l,by rw[this.2,h2],b,j,e,f,fun q k=>tZ (g q k) a⟩
theorem rE(p:AX)(st:Bo):xH p st st:=⟨fun i h=>⟨h,rfl⟩,fun i x a h2=>absurd a h2,fun i h=>h,fun i x a h2=>absurd a h2,fun n a h2=>absurd a h2,fun i j x y h a h2=>absurd a h2⟩
theorem kO{p:AX}{a b c:Bo}(g:xH p a b)(h2:xH p b c):xH p a c:=by
 refine⟨fun i h=>?_,fun i x q r f=>?_,fun i h=>h2.defs i (g.defs i h),fun i x q r f D=>?_,fun n q r=>?_,fun i j x y w z A f t B C v u=>?_⟩
 .have k:=g.pp i h;have m:=h2.pp i k.1;exact⟨m.1,m.2.trans k.2⟩
 .by_cases l:b.met[i]? =some true
  .exact y6 (g.i9 i x l r f) h2
  .exact h2.i9 i x q l f
 .by_cases l:b.met[i]? =some true
  .have:=g.news i x l r f D;exact⟨this.1,h2.defs _ this.2⟩
  .have:=h2.news i x q l f D;exact⟨fun e=>this.1 (g.defs _ e),this.2⟩
 .by_cases l:b.defs[n]? =some true
  .exact g.used n l r
  .exact h2.used n q l
 .by_cases s:b.met[i]? =some true
  .by_cases o:b.met[j]? =some true
   .exact g.diff i j x y w s A f t o C v u
   .have k:=g.news i x s A f t;have m:=h2.news j y B o v u;intro e;rw[e]at k;exact m.1 k.2
  .by_cases o:b.met[j]? =some true
   .have k:=g.news j y o C v u;have m:=h2.news i x z s f t;intro e;rw[←e]at k;exact m.1 k.2
   .exact h2.diff i j x y w z s f t B o v u
structure AY(st:Bo)(u:Nat):Prop where
 len:st.co.length=st.met.length
 less:Ew st.met≤u
theorem WK{p:AX}{b:Nat}(g: ∀(n s:Int) (st st':Bo),AY st b→0≤s→s+70*b≤5000→f n s st=some st'→xH p st st'∧st'.has (n,s)∧AY st' b): ∀{l:List (Int×Int)} {st st':Bo},AY st b→(∀q∈l,0≤q.2∧q.2+70*b≤5000)→Cp f l st=some st'→xH p st st'∧(∀q∈l,st'.has q)∧AY st' b
 |[],st,st',hl,a,h=>by cases h;exact⟨rE _ _,AG,hl⟩
 |(n,s)::l,st,st',hl,a,h=>by
  rw[Cp]at h;split at h
  .rename_i m j;have i:=a (n,s) AG;have e:=g _ _ _ _ hl i.1 i.2 j;have c:=WK g e.2.2 (fun q k=>a q (F0 _ k)) h;refine⟨kO e.1 c.1,fun q a=>?_,c.2.2⟩;rcases D0.1 a with rfl|a
   .exact tZ e.2.1 c.1
   .exact c.2.1 q a
  .cases h
theorem nu{p:AX}{size:Int}{x:C2}{st a:Bo}{l:List (Int×Int)}(h:Sk p size x st=some (l,a)):Ji p size x=some l∧a.co=st.co∧a.met=st.met∧(∀i:Nat,st.defs[i]? =some true→a.defs[i]? =some true)∧(x.op=4→st.defs[x.n.toNat]? ≠some true∧a.defs[x.n.toNat]? =some true)∧ ∀i:Nat,a.defs[i]? =some true→st.defs[i]? ≠some true→x.op=4∧x.n.toNat=i:=by
 unfold Sk at h;unfold Ji;split at h
 .rename_i c;rw[D5 c];split at h
  .rename_i d j;split at h
   .rename_i f;cases h;refine⟨by first|exact D5 f.2|(rw[j];exact D5 f.2),rfl,rfl,fun i g=>?_,fun _=>⟨by rw[f.1];simp,?_⟩,fun i b h2=>⟨c,?_⟩⟩
    .rw[IF];split
     .rename_i e;subst e;rw[D5 (BV.1 g).1]
     .exact g
    .rw[IF,D5 rfl,D5 (BV.1 f.1).1]
    .rw[IF]at b;split at b
     .assumption
     .exact absurd b h2
   .cases h
  .cases h
 .rename_i c;rw[Co c];cases h;exact⟨rfl,rfl,rfl,fun i h=>h,fun h=>absurd h c,fun i b h2=>absurd b h2⟩
theorem Xe(p:AX): ∀(k:Nat) (n size:Int) (st st':Bo) (f:Nat),AY st f→0≤size→size+70*f≤5000→Bg p k n size st=some st'→xH p st st'∧st'.has (n,size)∧AY st' f
 |0,n,size,st,st',f,_,_,_,h=>by cases h
 |k+1,n,size,st,st',f,hb,h0,hsz,h=>by
  rw[Bg]at h;split at h
  .rename_i A;split at h
   .rename_i x u;split at h
    .rename_i Z;split at h
     .rename_i l F h2;have a:=nu h2;have R:=hb.len;have ag:=Fv A.2;have ad:=hb.less;obtain⟨f,rfl⟩: ∃v,f=v+1:=⟨f-1,AA⟩;have V:AY F f:=⟨by rw[a.2.1,a.2.2.1];simp[Bo.meet,R],by rw[a.2.2.1];simp only[Bo.meet];omega⟩;have Y:=qJ a.1;obtain⟨c,X,r⟩:=WK (fun n s st st'=>Xe p k n s st st' f) V (fun q ac=>by have:=Y q ac;omega) h;have S:=(BV.1 A.2).1;have m: ∀i,F.met[i]? =if n.toNat=i then some true else st.met[i]? :=fun i=>by
       rw[a.2.2.1,Bo.meet,IF];split
       .rename_i e;subst e;simp[S]
       .rfl
      have U: ∀i,F.co[i]? =if n.toNat=i then some size else st.co[i]? :=fun i=>by
       rw[a.2.1,Bo.meet,IF];split
       .rename_i e;subst e;simp[R,S]
       .rfl
      have D:=c.pp n.toNat (by rw[m,D5 rfl]);rw[U,D5 rfl]at D;refine⟨⟨fun i o=>?_,fun i y w I b=>?_,fun i o=>c.defs i (a.2.2.2.1 i o),fun i y w I b T=>?_,fun i o W=>?_,fun i j y z M N O b J P Q r K=>?_⟩,⟨A.1,D.1,D.2⟩,r.1,Nat.le_succ_of_le r.2⟩
      .have g:n.toNat≠i:=fun e=>by subst e;rw[A.2]at o;simp at o
       have:=c.pp i (by rw[m,Co g,o]);rw[U,Co g]at this;exact this
      .by_cases g:n.toNat=i
       .subst g;rw[u]at b;cases b;exact⟨w,size,l,D.2,h0,AA,Z,a.1,X⟩
       .exact c.i9 i y w (by rw[m,Co g];exact I) b
      .by_cases g:n.toNat=i
       .subst g;rw[u]at b;cases b;have:=a.2.2.2.2.1 T;exact⟨this.1,c.defs _ this.2⟩
       .have:=c.news i y w (by rw[m,Co g];exact I) b T;exact⟨fun e=>this.1 (a.2.2.2.1 _ e),this.2⟩
      .by_cases L:F.defs[i]? =some true
       .have:=a.2.2.2.2.2 i L W;exact⟨_,x,u,this⟩
       .exact c.used i o L
      .by_cases B:n.toNat=i
       .have C:n.toNat≠j:=fun e=>M (B.symm.trans e);subst B;rw[u]at b;cases b;have t:=a.2.2.2.2.1 J;have H:=c.news j z P (by rw[m,Co C];exact Q) r K;intro e;rw[e]at t;exact H.1 t.2
       .by_cases C:n.toNat=j
        .subst C;rw[u]at r;cases r;have t:=a.2.2.2.2.1 K;have H:=c.news i y N (by rw[m,Co B];exact O) b J;intro e;rw[←e]at t;exact H.1 t.2
        .exact c.diff i j y z M N (by rw[m,Co B];exact O) b J P (by rw[m,Co C];exact Q) r K
     .cases h
    .cases h
   .cases h
  .cases h
structure BO(p:AX)(co:List Int):Prop where
 small:p.small=true
 len:co.length=p.nodes.length
 main:0≤p.main∧co[p.main.toNat]? =some (p.free.length:Int)
 node: ∀(i:Nat) (x:C2),p.nodes[i]? =some x→ ∃(s:Int) (l:List (Int×Int)),co[i]? =some s∧0≤s∧s≤5000∧DB p s x=true∧Ji p s x=some l∧ ∀q∈l,0≤q.1∧co[q.1.toNat]? =some q.2
 used: ∀n:Nat,n<p.defs.length→ ∃(i:Nat) (x:C2),p.nodes[i]? =some x∧x.op=4∧x.n.toNat=n
 diff: ∀(i j:Nat) (x y:C2),i≠j→p.nodes[i]? =some x→x.op=4→p.nodes[j]? =some y→y.op=4→x.n.toNat≠y.n.toNat
theorem jN{l:List Bool}(h:l.all id=true){i:Nat}(a:i<l.length):l[i]? =some true:=by
 have:=D4.1 h _ (OF a);rw[Bv a];simpa using this
theorem DI{p:AX}(h:looks p=some st):BO p st.co:=by
 unfold looks at h;split at h
 .rename_i o;split at h
  .rename_i st' r;split at h
   .rename_i k;cases h;have H:=o.1;simp only[AX.small,AP,Ap]at H;have e:=C6 p _ _ _ _ _ r;have M:=Nr (Bo.init p).met;have K:(Bo.init p).met.length=p.nodes.length:=by simp[Bo.init]
    have b:=Xe p _ _ _ _ _ 60 ⟨by simp[Bo.init],AA⟩ AA AA r;have B:st.met.length=p.nodes.length:=by rw[e.met];simp[Bo.init]
    have I:st.co.length=p.nodes.length:=by rw[e.co];simp[Bo.init]
    have J:st.defs.length=p.defs.length:=by rw[e.defs];simp[Bo.init]
    have f: ∀{i x},p.nodes[i]? =some x→st.met[i]? =some true:=fun{i x} a=>jN k.1 (by rw[B];exact(BV.1 a).1);have c: ∀i:Nat,(Bo.init p).met[i]? ≠some true:=fun i=>by
     simp only[Bo.init,TO];split<;>simp
    have z: ∀i:Nat,(Bo.init p).defs[i]? ≠some true:=fun i=>by
     simp only[Bo.init,TO];split<;>simp
    refine⟨o.1,I,⟨b.2.1.1,b.2.1.2.2⟩,fun i x a=>?_,fun n L=>b.1.used n (jN k.2 AA) (z n),fun i j x y A a C t D=>b.1.diff i j x y A (f a) (c _) a C (f t) (c _) t D⟩;obtain⟨_,s,l,u,F,w,h2,v,g⟩:=b.1.i9 i x (f a) (c _) a;exact⟨s,l,u,F,w,h2,v,fun q m=>⟨(g q m).1,(g q m).2.2⟩⟩
   .cases h
  .cases h
 .cases h
structure TG(n:Nat)(u:List Bool)(st:List Int):Prop where
 len:u.length=n
 cnt:Ew u+st.length=n
 mem: ∀c:Int,0≤c→c<n→(u[c.toNat]? =some true↔c∈st)
theorem p6{n:Nat}{a:List Bool}{st:List Int}{c:Int}(h:TG n a st)(p:0≤c)(q:c<n):TG n (Pc a c) (QK st c):=by
 have s:c.toNat<a.length:=by rw[h.len];omega
 have m:=h.mem c p q;have u: ∀b:Int,0≤b→b<n→((Pc a c)[b.toNat]? =some true↔b=c∨a[b.toNat]? =some true):=fun b j k=>by
  rw[Pc,IF];split
  .rename_i e;have:b=c:=AA;subst this;simp[s]
  .rename_i e;have:b≠c:=fun h=>e (by rw[h]);simp[this]
 cases f:a[c.toNat]? with
 |none=>rw[List.getElem?_eq_none_iff]at f;omega
 |some t=>
  cases t with
  |true=>
   have r:=m.1 f;have g:QK st c=st:=by rw[QK,D5 r]
   have o:Pc a c=a:=by
    apply List.ext_getElem?;intro i;rw[Pc,IF];split
    .rename_i e;subst e;exact f.symm
    .rfl
   rw[o,g];exact h
  |false=>
   have v:c∉st:=fun l=>by rw[m.2 l]at f;simp at f
   have g:QK st c=st++[c]:=by rw[QK,Co v]
   have l:=Fv f;have w:=h.cnt;refine⟨by simp[Pc,h.len],?_,fun b j k=>?_⟩
   .rw[g];simp only[Pc,CE,I0];omega
   .rw[u b j k,g,h.mem b j k];simp[or_comm]
theorem SZ{n:Nat}: ∀{l:List Int} {a:List Bool} {st:List Int},TG n a st→(∀c∈l,0≤c∧c<n)→TG n (l.foldl Pc a) (l.foldl QK st)
 |[],a,st,h,_=>h
 |c::l,a,st,h,hc=>by
  have:=hc c AG;exact SZ (l:=l) (p6 h this.1 this.2) (fun b e=>hc b (F0 _ e))
theorem Sa{n:Nat}: ∀{l:List GH} {a:List Bool} {st:List Int},TG n a st→(∀r∈l,∀c∈r.eq,0≤c∧c<n)→TG n (Ns a l) (HH st l)
 |[],a,st,h,_=>h
 |r::l,a,st,h,hc=>by
  have e:Ns a (r::l)=Ns (r.eq.foldl Pc a) l:=rfl;have f:HH st (r::l)=HH (r.eq.foldl QK st) l:=rfl;rw[e,f];exact Sa (SZ h (hc r AG)) (fun b g=>hc b (F0 _ g))
theorem Vm: ∀l:List Bool,l.all id=decide (Ew l=0)
 |[]=>by simp[Ew]
 |b::l=>by
  rw[D9,Vm l];cases b
  .simp[Ew]
  .have:Ew (true::l)=Ew l:=by simp[Ew]
   rw[this];rfl
theorem ADM(d:CG):d.okR=d.okG:=by
 unfold CG.okR CG.okG;by_cases a:d.rules.all (B7 d)=true
 .have b:TG d.be.length (List.replicate d.be.length false) []:=⟨AG,by simp[Ew],fun c b g=>by simp[TO]⟩;have h:=Sa (l:=d.rules) b (fun r f c e=>by
   have:=D4.1 a r f;simp only[B7,AP]at this;exact O8 this.2.2.2 c e)
  have e:=h.cnt;rw[Vm];congr 6;rw[decide_eq_decide];omega
 .rw[Lm]at a;rw[a];simp
end Go.Proofs
namespace Go.Proofs
open Go Go.Abs
def QM(co:List Int)(x:C2):Int:=((x.kids[0]?).map fun k=>(co[k.toNat]?).getD 0).getD 0
def Fj(co:List Int):List Int→List C2→List Int
 |out,[]=>out
 |out,x::l=>Fj co (if x.op=4 then out.set x.n.toNat (QM co x)else out) l
def B6(p:AX)(co:List Int):List Int:=Fj co (List.replicate p.defs.length 0) p.nodes
theorem Jq(co:List Int): ∀(l:List C2) (out:List Int),(Fj co out l).length=out.length
 |[],out=>rfl
 |x::l,out=>by
  rw[Fj,Jq co l];split<;>simp
theorem QG(co:List Int)(n:Nat)(v:Int): ∀(l:List C2) (out:List Int),n<out.length→(∀x∈l,x.op=4→x.n.toNat=n→QM co x=v)→(out[n]? =some v∨ ∃x∈l,x.op=4∧x.n.toNat=n)→(Fj co out l)[n]? =some v
 |[],out,hn,h1,h2=>by
  rcases h2 with h|⟨x,a,_⟩
  .exact h
  .cases a
 |x::l,out,hn,h1,h2=>by
  rw[Fj];refine QG co n v l _ (by split<;>simpa using hn) (fun y b=>h1 y (F0 _ b)) ?_;by_cases a:x.op=4∧x.n.toNat=n
  .left;rw[D5 a.1,IF,D5 a.2,a.2,D5 hn,h1 x AG a.1 a.2]
  .rcases h2 with h|⟨y,b,c⟩
   .left;split
    .rename_i f;rw[IF,Co fun e=>a ⟨f,e⟩];exact h
    .exact h
   .rcases D0.1 b with rfl|b
    .exact absurd c a
    .exact .inr ⟨y,b,c⟩
structure xK(p:AX)(co:List Int)(n:Nat)(d:CG):Prop where
 ok:Oi d
 node: ∃(i:Nat) (x:C2) (s:Int),p.nodes[i]? =some x∧x.op=4∧x.n.toNat=n∧co[i]? =some s∧0≤s∧s≤5000∧(B6 p co)[n]? =some (s+d.own)∧(∀r∈d.rules,0≤r.node∧co[r.node.toNat]? =some (s+d.own+Cy d r.eq))∧(∀y∈d.ac,0≤y.node∧co[y.node.toNat]? =some (s+d.own))∧ ∃k,x.kids=[k]∧0≤k∧co[k.toNat]? =some (s+d.own)
theorem CA{p:AX}{co:List Int}(h:BO p co){n:Nat}{d:CG}(q:p.defs[n]? =some d):xK p co n d:=by
 have v:=(BV.1 q).1;obtain⟨i,x,b,c,f⟩:=h.used n v;obtain⟨s,l,H,z,A,w,D,m⟩:=h.node i x b;have a:=D;rw[Ji,D5 c,f,q]at a;dsimp only at a;split at a
 .rename_i B;cases a;have C: ∃k,x.kids=[k]:=by
   simp only[DB,AP,Ap]at w;have:=w.1;rw[c]at this;simp only[Dh]at this;have:x.kids.length=1:=by simpa using this.symm
   match e:x.kids,this with
   |[k],_=>exact⟨k,rfl⟩
  obtain⟨k,e⟩:=C;have u:0≤k∧co[k.toNat]? =some (s+d.own):=m (k,s+d.own) (by simp[Cq,e]);refine⟨Ug B,i,x,s,b,c,f,H,z,A,?_,fun r F=>?_,fun y o=>?_,k,e,u⟩
  .refine QG co n _ p.nodes _ (by simpa using v) (fun y o J I=>?_) (.inr ⟨x,AS b,c,f⟩);obtain⟨j,g⟩:=II o;by_cases t:i=j
   .subst t;rw[b]at g;cases g;simp[QM,e,u.2]
   .exact absurd (f.trans I.symm) (h.diff i j x y t b c g J)
  .exact m (r.node,s+d.own+Cy d r.eq) (by simp only[DK,EL,F2];exact .inl ⟨r,F,rfl⟩)
  .exact m (y.node,s+d.own) (by simp only[Cw,EL,F2];exact .inr (.inl ⟨y,o,rfl⟩))
 .cases a
def A8.own(d:CG)(g:A8)(ch:Bool)(n:Int):Int:=((g.env[g.env.length-d.ac.length-(if ch then d.be.length else 0)+n.toNat]?).map Cl.n).getD 0
def A8.place(d:CG)(g:A8)(n:Int):Int:=if n=0 then g.at_ else g.own d false (n-1)
def Al(l:List Bn)(i:Int):Bool:=((l[i.toNat]?).map Bn.dead).getD false
def GF(p:AX)(nc ns:Nat)(many:Int)(m:List Cl):Bool:=decide ((m.length:Int)=many)&&m.all (Cl.inB p nc ns)
def Oj(p:AX)(s:BX)(d:CG)(g:A8)(i j:Nat)(q:Gp)(ch:IL):Bool:=
 decide (q.group=i)&&(decide (q.index=j)&&(decide (q.at_=g.place d ch.at_)&&(decide (q.queue.length≤12)&&((decide (q.queue.length=0)|| !Al s.ac q.at_)&&q.queue.all (GF p s.be.length s.ac.length ch.many)))))
def LQ(p:AX)(s:BX)(d:CG)(g:A8)(i j a:Nat)(ch:IL):Bool:=match s.be[a]? with|some q=>Oj p s d g i j q ch|none=>false
def E2(p:AX)(s:BX)(d:CG)(g:A8)(i c:Nat):Nat→List IL→Bool
 |_,[]=>true
 |j,ch::l=>LQ p s d g i j (c+j) ch&&E2 p s d g i c (j+1) l
def FO(c k:Nat)(d:CG):List Cl:=(List.range' c d.be.length).map (fun(j:Nat)=>⟨3,(j:Int)⟩)++(List.range' k d.ac.length).map (fun(j:Nat)=>⟨4,(j:Int)⟩)
def Du(d:CG)(c k:Nat)(g:A8):Bool:=decide (g.env.drop (g.env.length-d.be.length-d.ac.length)=FO c k d)
def KO(p:AX)(gs:List Int)(s:BX)(i c k:Nat)(g:A8)(d:CG):Bool:=
 decide (E7 s.ac g.at_)&&(decide ((g.env.length:Int)=(gs[g.f9.toNat]?).getD 0)&&(g.env.all (Cl.inB p s.be.length s.ac.length)&&(Du d c k g&&E2 p s d g i c 0 d.be)))
def AX.def? (p:AX)(n:Int):Option CG:=if 0≤n then p.defs[n.toNat]? else none
def CX(p:AX)(gs:List Int)(s:BX):Nat→Nat→Nat→List A8→Bool
 |_,c,k,[]=>decide (c=s.be.length)&&decide (k=s.ac.length)
 |i,c,k,g::l=>match p.def? g.f9 with
  |some d=>KO p gs s i c k g d&&CX p gs s (i+1) (c+d.be.length) (k+d.ac.length) l
  |none=>false
def DV(op:Int):Bool:=decide (op=6)||(decide (op=7)||decide (op=8))
def Ca(p:AX)(co:List Int)(s:BX)(w:GI):Bool:=
 decide (E7 s.ac w.at_)&&(!Al s.ac w.at_&&(decide (0≤w.node)&&((match p.nodes[w.node.toNat]? with|some x=>DV x.op|none=>false)&&(decide ((w.env.length:Int)=(co[w.node.toNat]?).getD 0)&&w.env.all (Cl.inB p s.be.length s.ac.length)))))
def Gw(l:List Bn):List Bn→Bool
 |[]=>true
 |x::m=>(x.dead|| !Al l x.rc)&&Gw l m
def BX.small(s:BX):Bool:=decide (s.ac.length≤24)&&(decide (s.ce.length≤40)&&(decide (s.be.length≤60)&&decide (s.waits.length≤40)))
def EA(p:AX)(co:List Int)(s:BX):Bool:=
 s.small&&(Ha s.ac&&(Gw s.ac (s.ac.drop 1)&&(CX p (B6 p co) s 0 0 1 s.ce&&s.waits.all (Ca p co s))))
end Go.Proofs
namespace Go.Proofs
open Go Go.Abs
theorem M8{p:AX}{co:List Int}(h:BO p co){i:Nat}{x:C2}(q:p.nodes[i]? =some x)(c:x.op=4):0≤x.n∧x.n<p.defs.length∧ ∃k v,x.kids=[k]∧0≤k∧co[k.toNat]? =some v∧QM co x=v∧0≤v∧v≤5070:=by
 obtain⟨s,l,w,r,t,g,n,o⟩:=h.node i x q;simp only[DB,AP,Ap]at g;have b:=g.2.1;rw[W8,Co (by rw[c];decide),D5 c]at b;have b:=of_decide_eq_true b;refine⟨b.1,b.2,?_⟩;have e:=g.1;rw[c]at e;simp only[Dh]at e;have m:x.kids.length=1:=by simpa using e.symm
 match hkk:x.kids,m with
 |[k],_=>
  have a:=n;rw[Ji,D5 c]at a;split at a
  .rename_i d u;split at a
   .rename_i j;cases a;have f:0≤k∧co[k.toNat]? =some (s+d.own):=o (k,s+d.own) (by simp[Cq,hkk]);have:=PK (Ug j);exact⟨k,s+d.own,rfl,f.1,f.2,by simp[QM,hkk,f.2],AA,AA⟩
   .cases a
  .cases a
end Go.Proofs
namespace Go.Proofs
open Go Go.Abs
theorem KR(c k:Nat)(d:CG):(FO c k d).length=d.own:=by simp[FO,CG.own]
variable{j:Nat}
theorem NP(c k:Nat)(d:CG)(h:j<d.be.length):(FO c k d)[j]? =some ⟨3,(c:Int)+(j:Int)⟩:=by
 rw[FO,Ce (by simpa using h),D7,List.getElem?_range' h];simp
theorem NQ(c k:Nat)(d:CG)(h:j<d.ac.length):(FO c k d)[d.be.length+j]? =some ⟨4,(k:Int)+(j:Int)⟩:=by
 rw[FO,D2 AG];simp only[As,List.length_range'];rw[Nat.add_sub_cancel_left,D7,List.getElem?_range' h];simp
variable{c k:Nat}{g:A8}
theorem bf{d:CG}(h:Du d c k g=true)(j:Nat):g.env[g.env.length-d.be.length-d.ac.length+j]? =(FO c k d)[j]? :=by
 have h:=of_decide_eq_true h;rw[←h,He]
theorem W4{d:CG}(h:Du d c k g=true)(a:j<d.be.length):g.env[g.env.length-d.be.length-d.ac.length+j]? =some ⟨3,(c:Int)+(j:Int)⟩:=by
 rw[bf h,NP _ _ _ a]
theorem W5{d:CG}(h:Du d c k g=true)(a:d.own≤g.env.length)(b:j<d.ac.length):g.env[g.env.length-d.ac.length+j]? =some ⟨4,(k:Int)+(j:Int)⟩:=by
 unfold CG.own at a;have:=bf h (d.be.length+j);rw[NQ _ _ _ b]at this;rw[←this];congr 1;omega
theorem Uo{d:CG}(h:Du d c k g=true)(a:d.own≤g.env.length){n:Int}(b:1≤n)(h2:n≤d.ac.length):g.place d n=(k:Int)+(n-1):=by
 rw[A8.place,Co AA,A8.own];simp only[AM,FD,Nat.sub_zero];rw[W5 h a (j:=(n-1).toNat) AA];simp only[F3,GO];omega
theorem JW{d:CG}(h:Du d c k g=true){n:Int}(a:0≤n)(h2:n<d.be.length):g.own d true n=(c:Int)+n:=by
 rw[A8.own];simp only[F7];have:=W4 h (j:=n.toNat) AA;rw[show g.env.length-d.ac.length-d.be.length+n.toNat=g.env.length-d.be.length-d.ac.length+n.toNat by omega,this];simp only[F3,GO];omega
theorem Qe{p:AX}{s:BX}{d:CG}(h:Du d c k g=true)(a:d.own≤g.env.length)(f:E7 s.ac g.at_)(l:g.env.all (Cl.inB p s.be.length s.ac.length)=true){n:Int}(m:0≤n)(h2:n≤d.ac.length):E7 s.ac (g.place d n):=by
 by_cases b:n=0
 .rw[A8.place,D5 b];exact f
 .rw[Uo h a AA h2];have i:=W5 h a (j:=(n-1).toNat) AA;have:=D4.1 l _ (AS i);simp[Cl.inB]at this;have e:((n-1).toNat:Int)=n-1:=Pu AA;constructor
  .omega
  .omega
theorem sN{d:CG}(b:d.own≤g.env.length){i:Nat}(c:i<d.own): ∃v,g.env[g.env.length-d.be.length-d.ac.length+i]? =some v∧g.env.drop (g.env.length-d.be.length-d.ac.length+i)=v::g.env.drop (g.env.length-d.be.length-d.ac.length+(i+1)):=by
 unfold CG.own at*;obtain⟨v,a⟩:=get_some (l:=g.env) (i:=g.env.length-d.be.length-d.ac.length+i) AA;exact⟨v,a,Ag a⟩
@[irreducible] def K8(C:DD)(f:FuncId)(π:List Nat)(b:Nat)(e:CB)(h:AD):St:=Ox π h (Lj e (C.live f b))
theorem FJ(C:DD)(f:FuncId)(π:List Nat)(b:Nat)(e:CB)(h:AD):K8 C f π b e h=Ox π h (Lj e (C.live f b)):=by unfold K8;rfl
theorem lN(b:Nat)(e:CB)(h:AD)(bs:Nat)(π:List Nat)(ci:Option (List Nat))(a:Bool)(nt:Nat):Fg cfg ⟨153,π,false,ci,a,nt⟩ b ⟨e,h,bs,[]⟩=K8 cfg 153 π b e h:=by
 rw[FJ];exact N0 _ _ _ _ _
attribute [go_sem 2000] lN
def xO(g:AD)(v:AV)(q:List (List Cl)):Prop:=(q.length=0∧v=.d7)∨(q.length≠0∧ ∃id,v=.f8 id 0 q.length∧g.get id=some (.em 1 (q.map BD)))
structure Fz(g:AD)(es:List (List AV))(l:List Gp):Prop where
 len:es.length=l.length
 row: ∀(j:Nat) (x:Gp),l[j]? =some x→ ∃v,es[j]? =some (Az x v)∧xO g v x.queue
 diff:(es.flatMap BB).Nodup
def GB(π:List Nat)(b:Nat)(id:Abs.Id):Prop:= ∃t j,j<b∧id=t::j::π
structure qe(π:List Nat)(l:List Gp)(i:Nat)(v:AV)(g:AD)(b:Nat)(A:Abs.Id)(es:List (List AV)):Prop where
 val:v=.f8 A 0 i
 arr:g.get A=some (.arr 4 es)
 rep:Fz g es (l.take i)
 a:GB π b A
 ids: ∀id∈es.flatMap BB,GB π b id
 own: ∀id,Id.under π id=false→g.get id=none
variable{b:Nat}{ρ:List Nat}{A:Abs.Id}
theorem Ar(h:GB (k::ρ) b A)(t j:Nat)(c:b≤j):Id.is (t::j::k::ρ) A=false∧Id.is A (t::j::k::ρ)=false:=by
 obtain⟨f,e,a,rfl⟩:=h;exact⟨AF Aa,AF Aa⟩
theorem BS(h:GB (k::ρ) b A)(m:List Nat)(c:2<m.length):Id.is (m++k::ρ) A=false∧Id.is A (m++k::ρ)=false:=by
 obtain⟨g,f,a,rfl⟩:=h;constructor
 .refine AF fun e=>?_;exact zB4
 .refine AF fun e=>?_;exact zB4
theorem GV(x:Gp)(v:AV):BB (Az x v)=AE v:=by simp[Az,BB,AE]
theorem Qf{g:AD}{v:AV}{q:List (List Cl)}(h:xO g v q):(v=.d7∧AE v=[])∨ ∃id,v=.f8 id 0 q.length∧AE v=[id]∧g.get id=some (.em 1 (q.map BD)):=by
 rcases h with⟨_,rfl⟩|⟨_,id,rfl,h⟩
 .exact .inl ⟨rfl,rfl⟩
 .exact .inr ⟨id,rfl,rfl,h⟩
theorem Eh{g:AD}{es:List (List AV)}{l:List Gp}(h:Fz g es l){id:Abs.Id}(k:id∈es.flatMap BB): ∃q:List (List Cl),g.get id=some (.em 1 (q.map BD)):=by
 obtain⟨row,o,a⟩:=CS.1 k;obtain⟨j,b⟩:=II o;have m:=(BV.1 b).1;obtain⟨x,p⟩:=get_some (l:=l) (i:=j) (by rw[←h.len];exact m);obtain⟨v,c,n⟩:=h.row j x p;rw[b]at c;cases c;rw[GV]at a;rcases Qf n with⟨_,e⟩|⟨r,_,e,f⟩
 .rw[e]at a;cases a
 .rw[e,Ac]at a;subst a;exact⟨_,f⟩
variable{H:AD}{l:List Gp}
theorem Ei{g:AD}{es:List (List AV)}(h:Fz g es l)(f: ∀id∈es.flatMap BB,H.get id=g.get id):Fz H es l:=by
 refine⟨h.len,fun j x i=>?_,h.diff⟩;obtain⟨v,b,a⟩:=h.row j x i;refine⟨v,b,?_⟩;rcases a with a|⟨c,id,rfl,e⟩
 .exact .inl a
 .refine .inr ⟨c,id,rfl,?_⟩;rw[f id (CS.2 ⟨_,AS b,by rw[GV];simp[AE]⟩)];exact e
theorem JG{H:AD}{es:List (List AV)}{l:List Gp}(h:Fz H es l){x:Gp}{v:AV}(i:xO H v x.queue)(o: ∀id∈AE v,id∉es.flatMap BB):Fz H (es++[Az x v]) (l++[x]):=by
 refine⟨by simp[h.len],fun j y c=>?_,?_⟩
 .by_cases g:j<l.length
  .rw[Ce g]at c;obtain⟨r,q,p⟩:=h.row j y c;exact⟨r,by rw[Ce (by rw[h.len];exact g)];exact q,p⟩
  .have n:=(BV.1 c).1;rw[CE,I0]at n;obtain rfl:j=l.length:=AA;rw[D2 AA]at c;simp only[KW,F4,Cs]at c;subst c;exact⟨v,by rw[D2 (by rw[h.len];omega),h.len];simp,i⟩
 .rw[Ls,MT];refine⟨h.diff,?_,?_⟩
  .simp only[EM,ID,CI,GV];rcases Qf i with⟨_,e⟩|⟨s,_,e,_⟩<;>rw[e]<;>simp
  .intro a k b f m;subst m;simp only[EM,ID,CI,GV]at f;exact o a f k
theorem Qb{α β:Type}{f:α→β}: ∀{l:List α},l.Nodup→(∀x∈l,∀y∈l,f x=f y→x=y)→(l.map f).Nodup
 |[],_,_=>List.nodup_nil
 |x::l,h,hf=>by
  rw[List.nodup_cons]at h;rw[CO,List.nodup_cons];refine⟨fun j=>?_,Qb h.2 fun a g b i=>hf a (F0 _ g) b (F0 _ i)⟩;obtain⟨y,c,e⟩:=F2.1 j;have:=hf y (F0 _ c) x AG e;subst this;exact h.1 c
theorem aG{es:List (List AV)}(h: ∀r∈es,(BB r).length≤1):(es.flatMap BB).length≤es.length:=by
 induction es with
 |nil=>simp
 |cons r es b=>
  have c:=h r AG;have h2:=b fun r a=>h r (F0 _ a);simp only[EM,CE,List.length_cons];omega
theorem R9{g:AD}{es:List (List AV)}(h:Fz g es l):(es.flatMap BB).length≤es.length:=by
 refine aG fun r k=>?_;obtain⟨j,a⟩:=II k;have c:=(BV.1 a).1;obtain⟨x,m⟩:=get_some (l:=l) (i:=j) (by rw[←h.len];exact c);obtain⟨v,b,f⟩:=h.row j x m;rw[a]at b;cases b;rw[GV];rcases Qf f with⟨_,e⟩|⟨o,_,e,n⟩<;>rw[e]<;>simp
theorem SA{π:List Nat}{H H':AD}{e:CB}{b:Abs.Id→Option Abs.Id}{n:Nat}(q:M5 π H e b H' n){es:List (List AV)}{l:List Gp}(h:Fz H es l)(k: ∀id∈es.flatMap BB,∃z,b id=some z):Fz H' (es.map (Fc b)) l∧ ∀id∈(es.map (Fc b)).flatMap BB,GB π n id:=by
 have key: ∀r∈es,BB (Fc b r)=(BB r).map fun id=>(b id).getD []:=by
  intro r o;obtain⟨j,m⟩:=II o;have D:=(BV.1 m).1;obtain⟨x,f⟩:=get_some (l:=l) (i:=j) (by rw[←h.len];exact D);obtain⟨v,g,s⟩:=h.row j x f;rw[m]at g;cases g;have C:Fc b (Az x v)=Az x (ren b v):=by simp[Az,Fc,ren]
  rw[C,GV,GV];rcases Qf s with⟨rfl,e⟩|⟨I,rfl,e,t⟩
  .simp[ren,AE]
  .obtain⟨z,c⟩:=k I (CS.2 ⟨_,o,by rw[GV];simp[AE]⟩);simp[ren,c,AE]
 have B:(es.map (Fc b)).flatMap BB=(es.flatMap BB).map fun id=>(b id).getD []:=by
  rw[List.flatMap_map,List.map_flatMap];have: ∀(l:List (List AV)),(∀r∈l,BB (Fc b r)=(BB r).map fun id=>(b id).getD [])→(l.flatMap fun a=>BB (Fc b a))=l.flatMap fun a=>(BB a).map fun id=>(b id).getD []:=by
   intro l w;induction l with
   |nil=>rfl
   |cons r l J=>rw[EM,EM,w r AG,J fun r o=>w r (F0 _ o)]
  exact this es key
 refine⟨⟨by rw[As,h.len],fun j x f=>?_,?_⟩,?_⟩
 .obtain⟨v,g,s⟩:=h.row j x f;refine⟨ren b v,?_,?_⟩
  .rw[D7,g];simp[Az,Fc,ren]
  .rcases s with⟨p,rfl⟩|⟨p,id,rfl,t⟩
   .exact .inl ⟨p,rfl⟩
   .obtain⟨z,c⟩:=k id (CS.2 ⟨_,AS g,by rw[GV];simp[AE]⟩);refine .inr ⟨p,z,by simp[ren,c],?_⟩;have:=q.get id z _ c t;simpa[Fe]using this
 .rw[B];refine Qb h.diff fun x f y F e=>?_;obtain⟨z,c⟩:=k x f;obtain⟨K,A⟩:=k y F;rw[c,A]at e;simp only[GO]at e;subst e;exact q.inj x y z c A
 .intro id u;rw[B]at u;obtain⟨x,f,rfl⟩:=F2.1 u;obtain⟨z,c⟩:=k x f;obtain⟨j,m,rfl⟩:=q.name x z c;rw[c];exact⟨_,j,m,rfl⟩
theorem Tl{K:Ab}{fr:Fr}{bl:Nat}{x:Code}{Q:Ea→St→Prop}{E:CB}{B:Abs.Id}{i:Nat}{es:List (List AV)}{h x9 x10:Ao}
 (s:Lj E (cfg.live 153 0)=[(1,.fn 154 [] []),(5,.f8 B 0 i),(8,.d h),(9,.d x9),(10,.d x10)]) (f:H.get B=some (.arr 4 es)) (h2:Fz H es (l.take i)) (L:es.length≤60)
 (C: ∀v g b A es,qe (k::ρ) l i v g b A es→Xu cfg K fr bl x ⟨[(1,.fn 154 [] []),(5,v),(8,.d h),(9,.d x9),(10,.d x10)],g,b,[]⟩ Q):Xu cfg K fr bl x (K8 cfg 153 (k::ρ) 0 E H) Q:=by
 rw[FJ,s];have M:=R9 h2;obtain⟨r,h',n,t,N,e⟩:=Km (k::ρ) H [(1,.fn 154 [] []),(5,.f8 B 0 i),(8,.d h),(9,.d x9),(10,.d x10)] (B::es.flatMap BB) zEo (by
  intro y c;simp[IB,AE,BB]at c;simp[c]) (by
  intro y c z a;rcases D0.1 c with rfl|c
  .rw[f]at a;exact F0 _ a
  .obtain⟨q,D⟩:=Eh h2 c;rw[D]at a;cases a)
 obtain⟨z,a⟩:=e.env B zEf;have F: ∀id∈es.flatMap BB,∃z,r id=some z:=fun id w=>e.deep B z a id (by rw[f];exact w);obtain⟨I,J⟩:=SA e h2 F;rw[t];have:=C (.f8 z 0 i) h' n z (es.map (Fc r)) ⟨rfl,by have:=e.get B z _ a f;simpa[Fe]using this,I,by obtain⟨j,m,rfl⟩:=e.name B z a;exact⟨_,j,m,rfl⟩,J,fun id p=>by
  cases u:h'.get id with
  |none=>rfl
  |some o=>
   obtain⟨y,c⟩:=e.only id o u;obtain⟨j,m,rfl⟩:=e.name y id c;rw[Ij]at p;cases p⟩
 simpa[ren,Fc,a]using this
set_option maxRecDepth 100000
set_option maxHeartbeats 4000000
def qZ(π:List Nat)(l:List Gp)(r:Ax×AD):Prop:=(l.length=0∧r=(.ret .d7,[]))∨(l.length≠0∧ ∃v g b A es,r=(.ret v,g)∧qe π l l.length v g b A es)
theorem xw(l:List Gp)(a4:l.length≤60)(D: ∀x∈l,x.queue.length≤1000000∧ ∀y∈x.queue,y.length≤1000000)(k:Nat)(ρ:List Nat): ∃r,BU (KL Tryz.prog cfg) 153 [.d (.bv (l.map DA)),.fn 154 [] []] (k::ρ)=.ok r∧qZ (k::ρ) l r:=by
 refine LK Tryz.func153 ?_
 (repeat' (first|simp only[go_sem, *,FJ]|(refine sx ?_ ?_<;>intro u)|refine sy AA fun x n w=>?_|simp(disch:=first|assumption|omega) only[AU]))
 refine An l _ (S:=fun m i (a:(AV×AD)×Nat)=>⟨[(1,.fn 154 [] []),(5,a.1.1),(8,.d (.bv (l.map DA))),(9,nI m),(10,nI i)],a.1.2,a.2,[]⟩)
  (Inv:=fun i bi a=>AH (i=0∧a=((.d7,[]),0)∨0<i∧ ∃A es,qe (k::ρ) l i a.1.1 a.1.2 a.2 A es)) (b0:=((_,[]),_)) ?_ ⟨.inl ⟨rfl,rfl⟩⟩ ?_ ?_
 .rfl
 .rintro i x ⟨⟨v,g⟩,b⟩ V T U s C;dsimp only at*;have n:=fun k ρ=>X6 x (D x (AS V)).1 (D x (AS V)).2 k ρ;replace D:=AB D;have H:AH (l.take (i+1)=l.take i++[x]):=⟨by rw[F6,V];rfl⟩;rcases s.out with⟨rfl,R⟩|⟨Z,A,es,c⟩
  .clear s;cases R;have ad:(0:Int)<l.length:=U;by_cases f:x.queue.length=0
   .simp only[PJ,D5 f,Az]at n
    (repeat' (first|simp only[go_sem, *,Il,FJ]|(refine sx ?_ ?_<;>intro u)|refine sy AA fun x n w=>?_|simp(disch:=first|assumption|omega) only[AU]))
    refine C.out ((_,_),_) ⟨.inr ⟨AA,1::0::k::ρ,[Az x .d7],rfl,by simp only[go_sem];rfl,?_,⟨1,0,Nat.lt_succ_self 0,rfl⟩,?_,?_⟩⟩
    .rw[H.out];exact JG (es:=[]) (l:=[]) ⟨rfl,AG,AG⟩ (.inl ⟨f,rfl⟩) BJ
    .simp[GV,AE]
    .intro id p;rw[CK,AF (by rintro rfl;rw[Ij]at p;cases p)];rfl
   .simp only[PJ,Co f,Az]at n;have fa:=Ko f
    (repeat' (first|simp only[go_sem, *,Il,FJ]|(refine sx ?_ ?_<;>intro u)|refine sy AA fun x n w=>?_|simp(disch:=first|assumption|omega) only[AU]))
    refine C.out ((_,_),_) ⟨.inr ⟨AA,1::0::k::ρ,[Az x (.f8 (1::1::k::ρ) 0 x.queue.length)],rfl,by simp only[go_sem];rfl,?_,⟨1,0,Nat.succ_pos 1,rfl⟩,?_,?_⟩⟩
    .rw[H.out];refine JG (es:=[]) (l:=[]) ⟨rfl,AG,AG⟩ (.inr ⟨f,_,rfl,?_⟩) BJ;simp only[go_sem]
    .intro id o;simp[GV,AE]at o;subst o;exact⟨1,1,Nat.lt_succ_self 1,rfl⟩
    .intro id p;rw[CK,AF (by rintro rfl;rw[Ij]at p;cases p),Co AG,CK,AF (by rintro rfl;rw[Ij]at p;cases p)];rfl
  .clear s;obtain rfl:=c.val;have X:=c.arr;have Y:=c.rep.len;have ar:(l.take i).length=i:=Aa;have z:=c.rep;have o:=c.ids;have fr: ∀id,GB (k::ρ) b id→id≠A→AH (Id.is (0::(b+3)::k::ρ) id=false∧Id.is (1::(b+9)::k::ρ) id=false∧Id.is (1::(b+10)::k::ρ) id=false∧Id.is (0::0::(b+8)::k::ρ) id=false∧Id.is (0::1::(b+8)::k::ρ) id=false∧Id.is (1::0::2::10::(b+8)::k::ρ) id=false∧Id.is A id=false):=fun id h ai=>⟨(Ar h 0 (b+3) AA).1,(Ar h 1 (b+9) AA).1,(Ar h 1 (b+10) AA).1,(BS h [0,0,b+8] AG).1,(BS h [0,1,b+8] AG).1,(BS h [1,0,2,10,b+8] AG).1,AF fun e=>ai e.symm⟩;have F: ∀id∈es.flatMap BB,id≠A:=fun id h e=>by
    obtain⟨q,W⟩:=Eh z h;rw[e,X]at W;cases W
   have Q:1::0::2::10::(b+8)::k::ρ∉es.flatMap BB:=fun h=>by
    obtain⟨t,j,_,e⟩:=o _ h;exact zB4
   obtain⟨a6,a7⟩:=Ar c.a 0 (b+3) AA;obtain⟨a',bc⟩:=Ar c.a 1 (b+9) AA;obtain⟨az,a0⟩:=BS c.a [0,0,b+8] AG;obtain⟨a1,a2⟩:=BS c.a [0,1,b+8] AG;obtain⟨a3,av⟩:=BS c.a [1,0,2,10,b+8] AG;simp only[DL,Bi]at az a0 a1 a2 a3 av;rw[ar]at Y;have bk:es.take i=es:=By AA;replace c:=AB c;replace z:=AB z;replace o:=AB o;replace F:=AB F;replace fr:=AB fr;replace Q:=AB Q;have be: ¬i+1≤i:=AA;have a5:i+1≤BG:=zEs
   by_cases f:x.queue.length=0
   .simp only[PJ,D5 f,Az]at n
    (repeat' (first|simp only[go_sem, *,Il]|(refine sx ?_ ?_<;>intro u)|refine sy AA fun x n w=>?_|simp(disch:=first|assumption|omega) only[AU]))
    refine Tl (B:=1::(b+10)::k::ρ) (i:=i+1) (es:=es++[Az x .d7]) ?_ ?_ ?_ ?_ (fun v g b A es P=>C.out ((v,g),b) ⟨.inr ⟨AA,A,es,P⟩⟩)
    .exact zAx
    .exact zAx
    .rw[H.out];refine JG (Ei z.out fun id h=>?_) (.inl ⟨f,rfl⟩) BJ;exact zCX
    .simp;omega
   .simp only[PJ,Co f,Az]at n;have fa:=Ko f
    (repeat' (first|simp only[go_sem, *,Il]|(refine sx ?_ ?_<;>intro u)|refine sy AA fun x n w=>?_|simp(disch:=first|assumption|omega) only[AU]))
    refine Tl (B:=1::(b+10)::k::ρ) (i:=i+1) (es:=es++[Az x (.f8 (1::0::2::10::(b+8)::k::ρ) 0 x.queue.length)]) ?_ ?_ ?_ ?_ (fun v g b A es P=>C.out ((v,g),b) ⟨.inr ⟨AA,A,es,P⟩⟩)
    .exact zAx
    .exact zAx
    .rw[H.out];refine JG (Ei z.out fun id h=>?_) (.inr ⟨f,_,rfl,?_⟩) (by simp only[AE,Ac];rintro id rfl;exact Q.out)
     .exact zCX
     .simp only[go_sem]
    .simp;omega
 .rintro i ⟨⟨v,g⟩,b⟩ T U s;dsimp only at*;rcases s.out with⟨rfl,R⟩|⟨Z,A,es,c⟩
  .cases R;have ad: ¬(0:Int)<l.length:=U;have ag:=AB T.out.symm;clear s
   (repeat' (first|simp only[go_sem, *,FJ]|(refine sx ?_ ?_<;>intro u)|refine sy AA fun x n w=>?_|simp(disch:=first|assumption|omega) only[AU]))
   exact .inl ⟨ag.out,rfl⟩
  .clear s;have ac:=AB T.out;obtain rfl:=c.val;replace c:=AB c
   (repeat' (first|simp only[go_sem, *]|(refine sx ?_ ?_<;>intro u)|refine sy AA fun x n w=>?_|simp(disch:=first|assumption|omega) only[AU]))
   obtain rfl:=ac.out;exact .inr ⟨AA,_,_,b,A,es,rfl,c.out⟩
structure CT where
 d8:BX
 ev:List GK
 work:Int
structure Gq where
 node:Int
 at_:Int
 env:List Cl
def CW{α:Type}(l:List α)(i:Int):List α:=l.take i.toNat++l.drop (i.toNat+1)
def Hs(l:List Cl)(i:Int):Cl:=(l[i.toNat]?).getD ⟨0,0⟩
def EE(p:AX)(s:BX)(q:Gp):Int:=(((s.ce[q.group.toNat]?).bind fun g=>(p.defs[g.f9.toNat]?).bind fun d=>d.be[q.index.toNat]?).map IL.many).getD 0
def SC(s:BX)(n:Int)(q:Gp)(l:List Cl):Option BX:=if q.queue.length<12 then some {s with be:=s.be.set n.toNat {q with queue:=q.queue++[l]}}else none
def MU(p:AX)(s:BX)(n:Int)(l:List Cl):Option BX:=match s.be[n.toNat]? with
 |some q=>if Al s.ac q.at_=false∧EE p s q=l.length then SC s n q l else some s
 |none=>some s
def p0(at_ n:Int)(l:List Cl):GK:=⟨5,at_,n,0,l⟩
def Cv(p:AX)(x:C2)(j:Gq)(st:CT):Option CT:=
 let l:=x.args.map (·.value j.env)
 let to:=Hs j.env x.n
 if to.kind=2 then some {st with ev:=st.ev++[p0 j.at_ to.n l]}
 else if to.kind=3 then(MU p st.d8 to.n l).map fun s=>{st with d8:=s}else some st
def Fm(d:CG)(g:A8)(i:Nat):Nat→List IL→List Gp
 |_,[]=>[]
 |k,c::l=>⟨i,k,g.place d c.at_,[]⟩::Fm d g i (k+1) l
def DY(d:CG)(g:A8)(l:List Oh):List Bn:=l.map fun y=>⟨g.place d y.rc,false⟩
def A6(s:BX)(d:CG)(n:Int)(j:Gq):A8:=⟨n,j.at_,j.env++FO s.be.length s.ac.length d⟩
def B3(s:BX)(d:CG)(g:A8):BX:={s with ce:=s.ce++[g],be:=s.be++Fm d g s.ce.length 0 d.be,ac:=s.ac++DY d g d.ac}
def CH(d:CG)(g:A8):Nat→List Oh→List Gq
 |_,[]=>[]
 |k,y::l=>⟨y.node,g.place d (k+1),g.env⟩::CH d g (k+1) l
def BL(x:C2)(k:Nat)(at_:Int)(env:List Cl):List Gq:=match x.kids[k]? with
 |some n=>[⟨n,at_,env⟩]
 |none=>[]
def FK(p:AX)(x:C2)(j:Gq)(st:CT):Option (CT×List Gq):=match p.defs[x.n.toNat]? with
 |some d=>
  let g:=A6 st.d8 d x.n j
  let s:=B3 st.d8 d g
  if s.be.length≤60∧s.ac.length≤24∧s.ce.length≤40 then some ({st with d8:=s},CH d g 0 d.ac++BL x 0 j.at_ g.env)else none
 |none=>none
def QJ(x:C2)(env:List Cl):Nat:=match x.args[0]? with
 |some e=>if (e.value env).kind=1∧(e.value env).n≠0 then 0 else 1
 |none=>1
def FH(j:Gq)(st:CT):Option CT:=if st.d8.waits.length<40 then some {st with d8:={st.d8 with waits:=st.d8.waits++[⟨j.at_,j.node,j.env⟩]}}else none
def JH(p:AX)(j:Gq)(st:CT):Option (CT×List Gq):=match p.nodes[j.node.toNat]? with
 |some x=>
  if x.op=2 then(Cv p x j st).map fun st=>(st,[])
  else if x.op=3 then some (st,BL x 0 j.at_ j.env++BL x 1 j.at_ j.env)
  else if x.op=4 then FK p x j st
  else if x.op=5 then some (st,BL x (QJ x j.env) j.at_ j.env)
  else if DV x.op=true then(FH j st).map fun st=>(st,[])
  else some (st,[])
 |none=>none
def CF(f:Gq→CT→Option CT):List Gq→CT→Option CT
 |[],st=>some st
 |j::l,st=>(f j st).bind (CF f l)
def IA(f:Gq→CT→Option CT):Option (CT×List Gq)→Option CT
 |some (st,js)=>CF f js st
 |none=>none
def Eb(p:AX):Nat→Gq→CT→Option CT
 |0,_,_=>none
 |k+1,j,st=>if st.work<400 then IA (Eb p k) (JH p j {st with work:=st.work+1})else none
def qr(p:AX)(s:BX)(w:GI):Bool:=match p.nodes[w.node.toNat]? with
 |some x=>if x.op=7 then true else
  let v:=Hs w.env x.n
  if v.kind=4 then(if x.op=8 then Al s.ac v.n else decide (w.at_≠0)&&(!Al s.ac v.n&& !C3 s.ac v.n w.at_))else false
 |none=>false
def Ck(p:AX)(s:BX):Nat→List GI→List Dp
 |_,[]=>[]
 |i,w::l=>(if qr p s w=true then [⟨i,0,0,[]⟩]else [])++Ck p s (i+1) l
def CN:List Nat→List (List Int)
 |[]=>[[]]
 |n::l=>(List.range n).flatMap fun(i:Nat)=>(CN l).map fun t=>(i:Int)::t
def LG(s:BX)(c:Int):Nat:=((s.be[c.toNat]?).map fun q=>q.queue.length).getD 0
def Bl(s:BX)(d:CG)(g:A8)(r:GH):List Nat:=r.eq.map fun c=>LG s (g.own d true c)
def EO(s:BX)(d:CG)(g:A8)(r:GH):List (List Int):=if Al s.ac (g.place d r.at_)=true then []else CN (Bl s d g r)
def Cb(s:BX)(d:CG)(g:A8)(i:Nat):Nat→List GH→List Dp
 |_,[]=>[]
 |k,r::l=>((EO s d g r).map fun t=>⟨-1,i,k,t⟩)++Cb s d g i (k+1) l
def C7(p:AX)(s:BX):Nat→List A8→List Dp
 |_,[]=>[]
 |i,g::l=>(match p.def? g.f9 with|some d=>Cb s d g i 0 d.rules|none=>[])++C7 p s (i+1) l
def CD(p:AX)(s:BX):List Dp:=Ck p s 0 s.waits++C7 p s 0 s.ce
def Gn(s:BX)(c:Int)(k:Int):List Cl×BX:=match s.be[c.toNat]? with
 |some q=>(((q.queue[k.toNat]?).getD []),{s with be:=s.be.set c.toNat {q with queue:=CW q.queue k}})
 |none=>([],s)
def CC(d:CG)(g:A8):List Int→List Int→BX→List Cl×BX
 |c::cs,k::ks,s=>((Gn s (g.own d true c) k).1++(CC d g cs ks (Gn s (g.own d true c) k).2).1,(CC d g cs ks (Gn s (g.own d true c) k).2).2)
 |_,_,s=>([],s)
def Qg(p:AX)(x:Dp)(d:CG)(g:A8)(r:GH)(s:BX):Option CT:=
 let t:=CC d g r.eq x.kw s
 let at_:=g.place d r.at_
 Eb p 401 ⟨r.node,at_,g.env++t.1⟩ ⟨t.2,[⟨1,at_,x.group,x.rt,t.1⟩],0⟩
def cZ(p:AX)(s:BX)(x:Dp):Option CT:=match s.ce[x.group.toNat]? with
 |some g=>match p.defs[g.f9.toNat]? with
  |some d=>match d.rules[x.rt.toNat]? with
   |some r=>Qg p x d g r s
   |none=>none
  |none=>none
 |none=>none
def Hn(l:List Bn)(at_:Int):Nat→List Bn→List Bn
 |_,[]=>[]
 |i,x::m=>{x with dead:=x.dead||C3 l i at_}::Hn l at_ (i+1) m
def O0(s:BX)(at_:Int):BX:=
 let l:=Hn s.ac at_ 0 s.ac
 {ac:=l,ce:=s.ce,be:=s.be.map fun q=>if Al l q.at_=true then{q with queue:=[]}else q,waits:=s.waits.filter fun w=> !Al l w.at_}
def FG(l:List Bn)(i n:Int):List Bn:=match l[i.toNat]? with
 |some x=>l.set i.toNat {x with rc:=n}
 |none=>l
def Nv(p:AX)(s:BX)(w:GI)(x:C2):Option CT:=
 let n:=(Hs w.env x.n).n
 if x.op=7 then some ⟨O0 s w.at_,[⟨3,w.at_,0,0,[]⟩],0⟩
 else if x.op=6 then CF (Eb p 401) (BL x 0 w.at_ w.env) ⟨{s with ac:=FG s.ac w.at_ n},[⟨2,w.at_,n,0,[]⟩],0⟩
 else CF (Eb p 401) (BL x 0 w.at_ w.env) ⟨s,[⟨4,w.at_,n,0,[]⟩],0⟩
def Qy(p:AX)(s:BX)(i:Int):Option CT:=match s.waits[i.toNat]? with
 |some w=>match p.nodes[w.node.toNat]? with
  |some x=>Nv p {s with waits:=CW s.waits i} w x
  |none=>none
 |none=>none
def DG(p:AX)(s:BX)(x:Dp):Option CT:=if x.wait<0 then cZ p s x else Qy p s x.wait
def sj:BX:=⟨[⟨-1,false⟩],[],[],[]⟩
structure Xk(p:AX)(s:BX)(q:Gp):Prop where
 at_:E7 s.ac q.at_
 g0:0≤q.group
 i0:0≤q.index
 ex: ∃g d ch,s.ce[q.group.toNat]? =some g∧0≤g.f9∧p.defs[g.f9.toNat]? =some d∧d.be[q.index.toNat]? =some ch
 len:q.queue.length≤12
end Go.Proofs
