/-
  Parts of it.
-/
import Derived.KernelRfl
import Derived.Test.YtbinfhpngacfgaaGreatKe6
import Derived.Test.YtbinfhpngacfgaaGreatKe7
import Derived.Test.YtbinfhpngacfgaaGreatKe9
set_option linter.all false
namespace Go.Abs
variable{P:Program}{C:Cj}{mix:List TypeId}
abbrev KU:=List (FuncId×List AV×AV)
def KU.look:KU→FuncId→List AV→Option AV
 |[],_,_=>none
 |(g,bs,r)::l,f,az=>match Nat.beq g f with
  |true=>match AV.sames bs az with
   |true=>some r
   |false=>KU.look l f az
  |false=>KU.look l f az
def KU.Known(P:Program)(C:Cj)(T:KU):Prop:= ∀f az r,(f,az,r)∈T→KL P C (.fn f) az [] [] false none=.ok (.ret r,[])
theorem KU.look_mem: ∀{T:KU} {f:FuncId} {az:List AV} {r:AV},T.look f az=some r→(f,az,r)∈T
 |[],_,_,_,h=>by cases h
 |(g,bs,r')::l,f,az,r,h=>by
  unfold KU.look at h;split at h
  .rename_i h1;split at h
   .rename_i h2;cases h;rw[←D3 h1,←AV.sames_eq h2];simp
   .exact Em _ (KU.look_mem h)
  .exact Em _ (KU.look_mem h)
def KU.ask(T:KU)(f:FuncId)(az:List AV):AD→List Nat→Bool→Option (List Nat)→Option AV
 |[],[],false,none=>T.look f az
 |_,_,_,_=>none
def U1(P:Program)(C:Cj)(T:KU)(m:Nat):Nat→AO
 |0=>fun _ _ _ _ _ _=>.err [25]
 |n+1=>fun t args h π raw ce=>match t with
  |.fn f=>match T.ask f args h π raw ce with
   |some r=>.ok (.ret r,[])
   |none=>match C.i6 f with
    |true=>Pn P C (U1 P C T m n) m f args h π raw ce
    |false=>.err [41,f]
  |.round id r=>match raw with
   |true=>HC C (U1 P C T m n) m id r args h π ce
   |false=>.err [42]
variable{T:KU}{m:Nat}
theorem SL(hT:T.Known P C): ∀{n:Nat} {q:Qu} {r:Ad×AD},ask (U1 P C T m n) q=.ok r→ask (KL P C) q=.ok r
 |0,q,r,h=>by simp[ask,U1]at h
 |n+1,⟨t,args,h,π,raw,ce⟩,r,hr=>by
  simp only[ask,U1]at hr⊢;cases t with
  |fn f=>
   simp only at hr;split at hr
   .rename_i r' hl;cases hr;unfold KU.ask at hl;split at hl
    .exact hT _ _ _ (KU.look_mem hl)
    .cases hl
   .split at hr
    .rename_i hg;obtain⟨L,hL⟩:=OJ hr;refine ADS hg (n:=m) ?_;exact hL _ m (EX _) fun q _ r' h'=>SL hT h'
    .cases hr
  |round id lp=>
   simp only at hr;split at hr
   .rename_i hrw;obtain⟨L,hL⟩:=KQ hr;refine X6 (n:=m) ?_;exact hL _ m (EX _) fun q _ r' h'=>SL hT h'
   .cases hr
variable{f:FuncId}{az:List AV}{r:AV}
theorem Ky(hT:T.Known P C)(m n:Nat)(h:U1 P C T m n (.fn f) az [] [] false none=.ok (.ret r,[])):KL P C (.fn f) az [] [] false none=.ok (.ret r,[]):=
 SL (q:=⟨.fn f,az,[],[],false,none⟩) hT h
theorem KU.known_nil:KU.Known P C []:=fun _ _ _ h=>by cases h
theorem KU.known_cons(h:KL P C (.fn f) az [] [] false none=.ok (.ret r,[]))(hT:T.Known P C):KU.Known P C ((f,az,r)::T):=fun f' az' r' hm=>by
 rcases Co.1 hm with h1|h1
 .cases h1;exact h
 .exact hT _ _ _ h1
variable{P:Program}{C:Cj}{K:AO}{fr:Fr}{b n i:Nat}{Q:Ds→St→Prop}
def Wp(C:Cj)(K:AO)(fr:Fr)(b:Nat)(c:Code)(st:St)(Q:Ds→St→Prop):Prop:= ∃n o st',BQ C K fr n b c st=.ok (o,st')∧Q o st'
variable{c:Code}{st:St}
theorem M7{n b:Nat}{r:Ds×St}(h:BQ C K fr n b c st=.ok r)(hm:n≤m):BQ C K fr m b c st=.ok r:=by
 obtain⟨L,hL⟩:=M6 n b c st (E.good_of h);rw[hL K m hm (fun _ _ _ h=>h),h]
def yh(C:Cj)(K:AO)(fr:Fr)(b:Nat)(y:Code)(Q:Ds→St→Prop):Ds→St→Prop
 |.normal,st=>Wp C K fr b y st Q
 |o,st=>Q o st
def KJ(id:Nat)(Q:Ds→St→Prop):Ds→St→Prop
 |.exit k,st=>match Nat.beq k id with
  |true=>Q .normal st
  |false=>Q (.exit k) st
 |o,st=>Q o st
def L5(C:Cj)(K:AO)(fr:Fr)(b:Nat)(x y:Code)(st:St)(Q:Ds→St→Prop):AV→Prop
 |.d (.bool true)=>Wp C K fr b x st Q
 |.d (.bool false)=>Wp C K fr b y st Q
 |_=>False
def Fw(C:Cj)(K:AO)(fr:Fr)(ops:Array Oper)(b n:Nat)(al:Nat→Bool)(l:List Oper)(i:Nat)(st:St)(Q:Ds→St→Prop):Prop:=
 match DB C K fr ops b al l i st with
 |.ok ((none,st'),_)=>Q .normal {st' with base:=b+n}
 |.ok ((some v,st'),_)=>Q (.f9 v) {st' with base:=b+n}
 |.err _=>False
def Gp(C:Cj)(K:AO)(fr:Fr)(ops:Array Oper)(b n:Nat)(al:Nat→Bool)(ps:List (Nat×Nat))(fps:List Fp)(l:List Oper)(i:Nat)(st:St)(Q:Ds→St→Prop):Prop:=
 match DB C K fr ops b al l i st with
 |.ok ((none,st'),f)=>Dp (fps++f) ps=true∧Q .normal {st' with base:=b+n}
 |.ok ((some v,st'),f)=>Dp (fps++f) ps=true∧Q (.f9 v) {st' with base:=b+n}
 |.err _=>False
theorem AFv(x y:Code)(st:St):Wp C K fr b (.seq x y) st Q=Wp C K fr b x st (yh C K fr b y Q):=by
 refine propext ⟨fun⟨n,o,st',h,hq⟩=>?_,fun⟨n,o,st',h,hq⟩=>?_⟩
 .cases n with
  |zero=>simp[BQ]at h
  |succ n=>
   simp only[BQ]at h;cases hx:BQ C K fr n b x st with
   |err e=>rw[hx]at h;cases h
   |ok r=>
    rw[hx]at h;obtain⟨o1,st1⟩:=r;refine⟨n,o1,st1,hx,?_⟩;cases o1<;>simp only[DY]at h
    .exact⟨n,o,st',h,hq⟩
    all_goals (cases h;exact hq)
 .cases o with
  |normal=>
   obtain⟨m,o2,st2,h2,hq2⟩:=hq;refine⟨max n m+1,o2,st2,?_,hq2⟩;simp only[BQ,M7 h (LI n m),DY,M7 h2 (Ms n m)]
  |_=>exact⟨n+1,_,st',by simp only[BQ,h,DY],hq⟩
theorem ADI(c:Operand)(x y:Code)(st:St):Wp C K fr b (.cond c x y) st Q=L5 C K fr b x y st Q (ev st.env.get c):=by
 have e: ∀{v:AV} {x y:Code} (hv: ∀n,BQ C K fr (n+1) b (.cond c x y) st=Kd v (BQ C K fr n b x st) (BQ C K fr n b y st)),Wp C K fr b (.cond c x y) st Q=L5 C K fr b x y st Q v:=by
  intro v x y hv;refine propext ⟨fun⟨n,o,st',h,hq⟩=>?_,fun h=>?_⟩
  .cases n with
   |zero=>simp[BQ]at h
   |succ n=>
    rw[hv]at h;unfold Kd at h;split at h
    .rename_i t;cases t
     .exact⟨n,o,st',h,hq⟩
     .exact⟨n,o,st',h,hq⟩
    .cases h
  .unfold L5 at h;split at h
   .obtain⟨n,o,st',h,hq⟩:=h;exact⟨n+1,o,st',by rw[hv];exact h,hq⟩
   .obtain⟨n,o,st',h,hq⟩:=h;exact⟨n+1,o,st',by rw[hv];exact h,hq⟩
   .exact h.elim
 exact e fun n=>by simp only[BQ]
theorem zQ(id:Nat)(x:Code)(st:St):Wp C K fr b (.block id x) st Q=Wp C K fr id x st (KJ id Q):=by
 refine propext ⟨fun⟨n,o,st',h,hq⟩=>?_,fun⟨n,o,st',h,hq⟩=>?_⟩
 .cases n with
  |zero=>simp[BQ]at h
  |succ n=>
   simp only[BQ]at h;cases hx:BQ C K fr n id x st with
   |err e=>rw[hx]at h;cases h
   |ok r=>
    rw[hx]at h;obtain⟨o1,st1⟩:=r;refine⟨n,o1,st1,hx,?_⟩;cases o1 with
    |exit k=>
     simp only[G9]at h;simp only[KJ];split at h<;>(rename_i hk;rw[hk];cases h;exact hq)
    |_=>cases h;exact hq
 .cases o with
  |exit k=>
   simp only[KJ]at hq;cases hk:Nat.beq k id with
   |true=>
    rw[hk]at hq;exact⟨n+1,.normal,st',by simp only[BQ,h,G9,hk],hq⟩
   |false=>
    rw[hk]at hq;exact⟨n+1,.exit k,st',by simp only[BQ,h,G9,hk],hq⟩
  |_=>exact⟨n+1,_,st',by simp only[BQ,h,G9],hq⟩
theorem Ts{o:Ds}{st':St}(h: ∀n,BQ C K fr (n+1) b c st=.ok (o,st')):Wp C K fr b c st Q=Q o st':=by
 refine propext ⟨fun⟨n,o1,st1,h1,hq⟩=>?_,fun hq=>⟨1,o,st',h 0,hq⟩⟩;cases n with
 |zero=>simp[BQ]at h1
 |succ n=>
  rw[h]at h1;cases h1;exact hq
theorem ADM(st:St):Wp C K fr b .skip st Q=Q .normal st:=Ts fun _=>rfl
theorem AFu(st:St):Wp C K fr b .ret st Q=Q .ret st:=Ts fun _=>rfl
theorem ADK(id:Nat)(st:St):Wp C K fr b (.exit id) st Q=Q (.exit id) st:=Ts fun _=>rfl
theorem Ob(id:Nat)(ops:Array Oper)(draw:Bool)(st:St):Wp C K fr b (.region id ops draw) st Q=match EN C K fr id ops draw st with|.ok (o,st')=>Q o st'|.err _=>False:=by
 cases h:EN C K fr id ops draw st with
 |ok r=>
  obtain⟨o,st'⟩:=r;exact Ts fun n=>by simp only[BQ,h]
 |err e=>
  refine propext ⟨fun⟨n,o,st',h1,hq⟩=>?_,fun h=>h.elim⟩;cases n with
  |zero=>simp[BQ]at h1
  |succ n=>
   simp only[BQ,h]at h1;cases h1
theorem sJ(id:Nat)(ops:Array Oper)(e:Bn)(h:AD)(bs:Nat)(ds:List Df):Wp C K fr b (.region id ops false) ⟨e,h,bs,ds⟩ Q=Fw C K fr ops bs ops.size (fun _=>true) ops.toList 0 ⟨e,h,bs,ds⟩ Q:=by
 rw[Ob];unfold EN Fw;simp only[Ol,Bool.true_or];cases DB C K fr ops bs (fun _=>true) ops.toList 0 ⟨e,h,bs,ds⟩with
 |err l=>rfl
 |ok r=>
  obtain⟨⟨o,st'⟩,fps⟩:=r;cases o<;>simp[Kn]
theorem zR(id:Nat)(ops:Array Oper)(e:Bn)(h:AD)(bs:Nat)(ds:List Df)(hp:C.d8 fr.f id=[]):Wp C K fr b (.region id ops true) ⟨e,h,bs,ds⟩ Q=Fw C K fr ops bs ops.size (fun i=>C.alone fr.f id i) ops.toList 0 ⟨e,h,bs,ds⟩ Q:=by
 rw[Ob];unfold EN Fw;simp only[OS,Ip];cases DB C K fr ops bs (fun i=>C.alone fr.f id i) ops.toList 0 ⟨e,h,bs,ds⟩with
 |err l=>rfl
 |ok r=>
  obtain⟨⟨o,st'⟩,fps⟩:=r;cases o<;>simp[Kn,hp,Dp]
theorem ADJ(id:Nat)(ops:Array Oper)(e:Bn)(h:AD)(bs:Nat)(ds:List Df){ps:List (Nat×Nat)}(hp:C.d8 fr.f id=ps):Wp C K fr b (.region id ops true) ⟨e,h,bs,ds⟩ Q=Gp C K fr ops bs ops.size (fun i=>C.alone fr.f id i) ps [] ops.toList 0 ⟨e,h,bs,ds⟩ Q:=by
 rw[Ob];unfold EN Gp;simp only[OS,Ip,HM];cases DB C K fr ops bs (fun i=>C.alone fr.f id i) ops.toList 0 ⟨e,h,bs,ds⟩with
 |err l=>rfl
 |ok r=>
  obtain⟨⟨o,st'⟩,fps⟩:=r;subst hp;cases o<;>cases hq:Dp fps (C.d8 fr.f id)<;>simp[Kn,hq]
theorem bd(y:Code)(st:St):yh C K fr b y Q .normal st=Wp C K fr b y st Q:=rfl
theorem rl(y:Code)(k:Nat)(st:St):yh C K fr b y Q (.exit k) st=Q (.exit k) st:=rfl
theorem yk(y:Code)(st:St):yh C K fr b y Q .ret st=Q .ret st:=rfl
theorem yj(y:Code)(v:AV)(st:St):yh C K fr b y Q (.f9 v) st=Q (.f9 v) st:=rfl
theorem UI(id:Nat)(st:St):KJ id Q .normal st=Q .normal st:=rfl
theorem cX(id:Nat)(st:St):KJ id Q .ret st=Q .ret st:=rfl
theorem cW(id:Nat)(v:AV)(st:St):KJ id Q (.f9 v) st=Q (.f9 v) st:=rfl
theorem YR(id:Nat)(st:St):KJ id Q (.exit id) st=Q .normal st:=by
 simp[KJ]
theorem Oo(id k:Nat)(st:St)(h:Nat.beq k id=false):KJ id Q (.exit k) st=Q (.exit k) st:=by
 simp only[KJ,h]
theorem cr(x y:Code)(st:St):L5 C K fr b x y st Q (.d (.bool true))=Wp C K fr b x st Q:=rfl
theorem Yj(x y:Code)(st:St):L5 C K fr b x y st Q (.d (.bool false))=Wp C K fr b y st Q:=rfl
variable{t:Bool}
theorem Yk{x y:Code}(h1:t=true→Wp C K fr b x st Q)(h2:t=false→Wp C K fr b y st Q):L5 C K fr b x y st Q (.d (.bool t)):=by
 cases t
 .exact h2 rfl
 .exact h1 rfl
variable{ops:Array Oper}{al:Nat→Bool}{l:List Oper}{e:Bn}{h:AD}{bs:Nat}{ds:List Df}{ps:List (Nat×Nat)}{fps:List Fp}
def Bw(C:Cj)(K:AO)(fr:Fr)(ops:Array Oper)(b n:Nat)(al:Nat→Bool)(l:List Oper)(i:Nat)(dst:Option Tmp)(e:Bn)(h:AD)(bs:Nat)(ds:List Df)(Q:Ds→St→Prop):Option CU→Prop
 |some x=>KF fr.ce x.δ=true∧Fw C K fr ops b n al l (i+1) ⟨Ch e dst x.v,h.puts x.δ,bs,ds⟩ Q
 |none=>False
def BX(C:Cj)(K:AO)(fr:Fr)(ops:Array Oper)(b n:Nat)(al:Nat→Bool)(l:List Oper)(i:Nat)(Q:Ds→St→Prop):HI→Prop
 |.ok st _=>Fw C K fr ops b n al l (i+1) st Q
 |.f9 v st=>al i=true∧Q (.f9 v) {st with base:=b+n}
 |.err _=>False
theorem yB:Fw C K fr ops b n al [] i ⟨e,h,bs,ds⟩ Q=Q .normal ⟨e,h,b+n,ds⟩:=rfl
theorem Vp(o:Oper)(st:St):Fw C K fr ops b n al (o::l) i st Q=BX C K fr ops b n al l i Q (CY C K fr ops ((b+i)::fr.π) o st):=by
 unfold Fw;simp only[DB,Ho];cases hs:CY C K fr ops ((b+i)::fr.π) o st with
 |err e=>rfl
 |f9 v st'=>
  simp only[BX];cases al i<;>simp
 |ok st' fp=>
  simp only[BX,Fw];cases hr:DB C K fr ops b al l (i+1) st' with
  |err e=>rfl
  |ok r=>
   obtain⟨⟨o,st2⟩,fps⟩:=r;cases o<;>rfl
def C8(C:Cj)(K:AO)(fr:Fr)(ops:Array Oper)(b n:Nat)(al:Nat→Bool)(l:List Oper)(i:Nat)(dst:Option Tmp)(op:Op)(st:St)(want:Bool)(Q:Ds→St→Prop):AV→Prop
 |.d (.bool t)=>match t==want with
  |true=>BX C K fr ops b n al l i Q (A6 C K fr ((b+i)::fr.π) op dst st)
  |false=>Fw C K fr ops b n al l (i+1) {st with env:=Ch st.env dst (.ge [])} Q
 |.ge []=>Fw C K fr ops b n al l (i+1) {st with env:=Ch st.env dst (.ge [])} Q
 |_=>False
theorem nF(dst:Option Tmp)(op:Op)(st:St):C8 C K fr ops b n al l i dst op st true Q (.d (.bool true))=BX C K fr ops b n al l i Q (A6 C K fr ((b+i)::fr.π) op dst st):=rfl
theorem mu(dst:Option Tmp)(op:Op)(st:St):C8 C K fr ops b n al l i dst op st false Q (.d (.bool false))=BX C K fr ops b n al l i Q (A6 C K fr ((b+i)::fr.π) op dst st):=rfl
theorem nD(dst:Option Tmp)(op:Op):C8 C K fr ops b n al l i dst op ⟨e,h,bs,ds⟩ true Q (.d (.bool false))=Fw C K fr ops b n al l (i+1) ⟨Ch e dst (.ge []),h,bs,ds⟩ Q:=rfl
theorem mw(dst:Option Tmp)(op:Op):C8 C K fr ops b n al l i dst op ⟨e,h,bs,ds⟩ false Q (.d (.bool true))=Fw C K fr ops b n al l (i+1) ⟨Ch e dst (.ge []),h,bs,ds⟩ Q:=rfl
theorem XJ{dst:Option Tmp}{op:Op}{want:Bool}(h1:t=true→C8 C K fr ops b n al l i dst op st want Q (.d (.bool true)))(h2:t=false→C8 C K fr ops b n al l i dst op st want Q (.d (.bool false))):C8 C K fr ops b n al l i dst op st want Q (.d (.bool t)):=by
 cases t
 .exact h2 rfl
 .exact h1 rfl
theorem qE(dst:Option Tmp)(op:Op)(ty:TypeId)(pos:String)(af:Array Edge)(st:St):
 Fw C K fr ops b n al (⟨dst,op,ty,pos,af,none⟩::l) i st Q=BX C K fr ops b n al l i Q (A6 C K fr ((b+i)::fr.π) op dst st):=by
 rw[Vp];simp only[CY,NA]
theorem A4(dst:Option Tmp)(op:Op)(r:Option CU):BX C K fr ops b n al l i Q (DV fr op dst ⟨e,h,bs,ds⟩ r)=Bw C K fr ops b n al l i dst e h bs ds Q r:=by
 cases r with
 |none=>rfl
 |some x=>
  simp only[DV,Bw,KM,Bt,A8];cases hw:KF fr.ce x.δ with
  |false=>simp[BX]
  |true=>
   simp only[TY];have: ∀k:AD→HI,Yx h x.δ k=k (h.puts x.δ):=fun k=>by
    unfold Yx;split
    .rename_i hd;rw[hd];rfl
    .simp only[An]
   rw[this];simp only[BX]
theorem Mb(dst:Option Tmp)(v:AV):Bw C K fr ops b n al l i dst e h bs ds Q (some ⟨v,[]⟩)=Fw C K fr ops b n al l (i+1) ⟨Ch e dst v,h,bs,ds⟩ Q:=by
 have:KF fr.ce []=true:=by cases hp:fr.ce<;>rfl
 simp only[Bw,this,TY];rfl
theorem gh(dst:Option Tmp)(v:AV)(x:Id×Obj)(δ:AD):Bw C K fr ops b n al l i dst e h bs ds Q (some ⟨v,x::δ⟩)=(KF fr.ce (x::δ)=true∧Fw C K fr ops b n al l (i+1) ⟨Ch e dst v,h.puts (x::δ),bs,ds⟩ Q):=rfl
section
variable(dst:Option Tmp)(ρ:List Nat)
theorem AEV(x:Operand):BX C K fr ops b n al l i Q (A6 C K fr ρ (.move x) dst ⟨e,h,bs,ds⟩)=Fw C K fr ops b n al l (i+1) ⟨Ch e dst (ev e.get x),h,bs,ds⟩ Q:=by
 simp only[A6,evalOp,A4,Mb]
theorem vT(x:Operand):BX C K fr ops b n al l i Q (A6 C K fr ρ (.assign x) dst ⟨e,h,bs,ds⟩)=Fw C K fr ops b n al l (i+1) ⟨Ch e dst (ev e.get x),h,bs,ds⟩ Q:=by
 simp only[A6,evalOp,A4,Mb]
theorem AEW(c x y:Operand):BX C K fr ops b n al l i Q (A6 C K fr ρ (.pick c x y) dst ⟨e,h,bs,ds⟩)=Bw C K fr ops b n al l i dst e h bs ds Q (OC (ev e.get c) (ev e.get x) (ev e.get y)):=by
 simp only[A6,evalOp,A4]
theorem AAu(t:TypeId):BX C K fr ops b n al l i Q (A6 C K fr ρ (.alloc t) dst ⟨e,h,bs,ds⟩)=Bw C K fr ops b n al l i dst e h bs ds Q (J8 ρ (C.T t)):=by
 simp only[A6,evalOp,A4]
theorem AGi(t:TypeId)(x:Operand):BX C K fr ops b n al l i Q (A6 C K fr ρ (.box t x) dst ⟨e,h,bs,ds⟩)=Bw C K fr ops b n al l i dst e h bs ds Q (Q9 ρ (ev e.get x) (C.T t)):=by
 simp only[A6,evalOp,A4]
theorem AAw(t:TypeId)(p:Array (Nat×Operand)):BX C K fr ops b n al l i Q (A6 C K fr ρ (.build t p) dst ⟨e,h,bs,ds⟩)=Bw C K fr ops b n al l i dst e h bs ds Q (J9 (EW e.get p) (C.T t)):=by
 simp only[A6,evalOp,A4]
theorem XG(t:TypeId)(m:Nat)(p:Array (Nat×Operand)):BX C K fr ops b n al l i Q (A6 C K fr ρ (.buildSlice t m p) dst ⟨e,h,bs,ds⟩)=Bw C K fr ops b n al l i dst e h bs ds Q (Cn C.T h.get ρ m (EW e.get p) (C.T t)):=by
 simp only[A6,evalOp,A4]
theorem AEU(t:TypeId)(a:Operand):BX C K fr ops b n al l i Q (A6 C K fr ρ (.load t a) dst ⟨e,h,bs,ds⟩)=Bw C K fr ops b n al l i dst e h bs ds Q (LR h.get (ev e.get a) (C.T t)):=by
 simp only[A6,evalOp,A4]
theorem AA2(t:TypeId)(a x:Operand):BX C K fr ops b n al l i Q (A6 C K fr ρ (.store t a x) dst ⟨e,h,bs,ds⟩)=Bw C K fr ops b n al l i dst e h bs ds Q (Iw h.get (ev e.get a) (ev e.get x) (C.T t)):=by
 simp only[A6,evalOp,A4]
theorem dj(x:Operand):BX C K fr ops b n al l i Q (A6 C K fr ρ (.nilCheck x) dst ⟨e,h,bs,ds⟩)=Bw C K fr ops b n al l i dst e h bs ds Q (Gb (ev e.get x)):=by
 simp only[A6,evalOp,A4]
theorem AAv(op:BinOp)(t:TypeId)(x y:Operand)(u:TypeId):BX C K fr ops b n al l i Q (A6 C K fr ρ (.binOp op t x y u) dst ⟨e,h,bs,ds⟩)=Bw C K fr ops b n al l i dst e h bs ds Q ((kc (Zj x||Zj y) op (ev e.get x) (ev e.get y) (C.T t)).map (⟨·,[]⟩)):=by
 simp only[A6,evalOp,A4]
theorem AEX(op:UnOp)(t:TypeId)(x:Operand):BX C K fr ops b n al l i Q (A6 C K fr ρ (.unOp op t x) dst ⟨e,h,bs,ds⟩)=Bw C K fr ops b n al l i dst e h bs ds Q (ey op (ev e.get x)):=by
 simp only[A6,evalOp,A4]
theorem AAy(t:TypeId)(x:Operand):BX C K fr ops b n al l i Q (A6 C K fr ρ (.makeInterface t x) dst ⟨e,h,bs,ds⟩)=Bw C K fr ops b n al l i dst e h bs ds Q (LP t (ev e.get x) (C.T t)):=by
 simp only[A6,evalOp,A4]
theorem vS(x:Operand)(t u:TypeId):BX C K fr ops b n al l i Q (A6 C K fr ρ (.typeAssert x t u true) dst ⟨e,h,bs,ds⟩)=Bw C K fr ops b n al l i dst e h bs ds Q (IE u (ev e.get x) (C.T u)):=by
 simp only[A6,evalOp,A4]
theorem di(f:Fn)(first cap:Array Operand):BX C K fr ops b n al l i Q (A6 C K fr ρ (.makeFunc f first cap) dst ⟨e,h,bs,ds⟩)=Bw C K fr ops b n al l i dst e h bs ds Q (Ga f (first.toList.map (ev e.get)) (cap.toList.map (ev e.get))):=by
 simp only[A6,evalOp,A4]
theorem mq(t:TypeId)(r:Option Operand):BX C K fr ops b n al l i Q (A6 C K fr ρ (.makeMap t r) dst ⟨e,h,bs,ds⟩)=Bw C K fr ops b n al l i dst e h bs ds Q (HX ρ r):=by
 simp only[A6,evalOp,A4]
theorem vU(t:TypeId)(m k v:Operand):BX C K fr ops b n al l i Q (A6 C K fr ρ (.insert t m k v) dst ⟨e,h,bs,ds⟩)=Bw C K fr ops b n al l i dst e h bs ds Q (mapPut C.T h.get (C.T t) (ev e.get m) (ev e.get k) (ev e.get v)):=by
 simp only[A6,evalOp,A4]
theorem ZY(t:TypeId)(m k v:Operand):BX C K fr ops b n al l i Q (A6 C K fr ρ (.mapUpdate t m k v) dst ⟨e,h,bs,ds⟩)=Bw C K fr ops b n al l i dst e h bs ds Q (mapPut C.T h.get (C.T t) (ev e.get m) (ev e.get k) (ev e.get v)):=by
 simp only[A6,evalOp,A4]
theorem vV(t:TypeId)(m k:Operand)(ok:Bool):BX C K fr ops b n al l i Q (A6 C K fr ρ (.lookup t m k ok) dst ⟨e,h,bs,ds⟩)=Bw C K fr ops b n al l i dst e h bs ds Q (FW C.T h.get (ev e.get m) (ev e.get k) ok (C.T t)):=by
 simp only[A6,evalOp,A4]
theorem ZX(t:TypeId)(x y:Operand):BX C K fr ops b n al l i Q (A6 C K fr ρ (.makeSlice t x y) dst ⟨e,h,bs,ds⟩)=Bw C K fr ops b n al l i dst e h bs ds Q (Cx C.T h.get ρ (ev e.get x) (ev e.get y) (C.T t)):=by
 simp only[A6,evalOp,A4]
theorem AA1(t:TypeId)(x:Operand)(lo hi mx:Option Operand):BX C K fr ops b n al l i Q (A6 C K fr ρ (.slice t x lo hi mx) dst ⟨e,h,bs,ds⟩)=Bw C K fr ops b n al l i dst e h bs ds Q (Hr C.T h.get (ev e.get x) (lo.map (ev e.get)) (hi.map (ev e.get)) (mx.map (ev e.get)) (C.T t)):=by
 simp only[A6,evalOp,A4]
theorem ZV(t:TypeId)(x:Operand)(k:Nat):BX C K fr ops b n al l i Q (A6 C K fr ρ (.fieldAddr t x k) dst ⟨e,h,bs,ds⟩)=Bw C K fr ops b n al l i dst e h bs ds Q (Eg k (ev e.get x) (C.T t)):=by
 simp only[A6,evalOp,A4]
theorem ZW(t:TypeId)(x y:Operand):BX C K fr ops b n al l i Q (A6 C K fr ρ (.indexAddr t x y) dst ⟨e,h,bs,ds⟩)=Bw C K fr ops b n al l i dst e h bs ds Q (C9 C.T h.get (ev e.get x) (ev e.get y) (C.T t)):=by
 simp only[A6,evalOp,A4]
theorem AAz(t:TypeId)(x y:Operand):BX C K fr ops b n al l i Q (A6 C K fr ρ (.index t x y) dst ⟨e,h,bs,ds⟩)=Bw C K fr ops b n al l i dst e h bs ds Q (LQ (ev e.get x) (ev e.get y) (C.T t)):=by
 simp only[A6,evalOp,A4]
theorem mn(x:Operand)(k:Nat):BX C K fr ops b n al l i Q (A6 C K fr ρ (.extract x k) dst ⟨e,h,bs,ds⟩)=Bw C K fr ops b n al l i dst e h bs ds Q (HV k (ev e.get x)):=by
 simp only[A6,evalOp,A4]
theorem mm(f:Builtin)(az:Array Operand)(ts:Array TypeId):BX C K fr ops b n al l i Q (A6 C K fr ρ (.call ⟨.builtin f,az,ts⟩) dst ⟨e,h,bs,ds⟩)=Bw C K fr ops b n al l i dst e h bs ds Q (Gl C.T h.get ρ f (az.toList.map (ev e.get)) ts.toList):=by
 simp only[A6,KP,A4]
theorem AA0(x:Operand):BX C K fr ops b n al l i Q (A6 C K fr ρ (.panic x) dst ⟨e,h,bs,ds⟩)=BX C K fr ops b n al l i Q (GL ⟨e,h,bs,ds⟩ (ev e.get x)):=rfl
theorem AAx(c:Call):BX C K fr ops b n al l i Q (A6 C K fr ρ (.defer c) dst ⟨e,h,bs,ds⟩)=BX C K fr ops b n al l i Q (Hl fr e.get c dst ⟨e,h,bs,ds⟩):=rfl
def Dc(C:Cj)(K:AO)(fr:Fr)(ops:Array Oper)(b n:Nat)(al:Nat→Bool)(l:List Oper)(i:Nat)(az:List AV)(dst:Option Tmp)(e:Bn)(h:AD)(bs:Nat)(ds:List Df)(Q:Ds→St→Prop)(r:E (Ad×AD)):Prop:=
 BX C K fr ops b n al l i Q (DZ fr az dst ⟨e,h,bs,ds⟩ r)
def SK(C:Cj)(K:AO)(fr:Fr)(ops:Array Oper)(b n:Nat)(al:Nat→Bool)(l:List Oper)(i:Nat)(dst:Option Tmp)(ρ:List Nat)(e:Bn)(h:AD)(bs:Nat)(ds:List Df)(Q:Ds→St→Prop)(args:List AV):AV→Prop
 |fv=>BX C K fr ops b n al l i Q (EK C K fr ρ fv args dst ⟨e,h,bs,ds⟩)
theorem AA3(f:Operand)(az:Array Operand)(ts:Array TypeId):BX C K fr ops b n al l i Q (A6 C K fr ρ (.call ⟨.value f,az,ts⟩) dst ⟨e,h,bs,ds⟩)=SK C K fr ops b n al l i dst ρ e h bs ds Q (az.toList.map (ev e.get)) (ev e.get f):=rfl
def nrm:Ad×AD→Ad×AD
 |(.ret v,h)=>(.ret v,h)
 |(.f9 v,_)=>(.f9 v,[])
def BB(K:AO)(f:FuncId)(xs:List AV)(own:List Nat):E (Ad×AD):=match K (.fn f) xs [] own false none with
 |.ok r=>.ok (nrm r)
 |.err l=>.err l
theorem tF{K:AO}{f:FuncId}{xs:List AV}{own:List Nat}{v:AV}{h:AD}(hk:BB K f xs own=.ok (.ret v,h)):K (.fn f) xs [] own false none=.ok (.ret v,h):=by
 unfold BB at hk;split at hk
 .rename_i r hr;obtain⟨o,h'⟩:=r;cases o with
  |ret u=>simp only[nrm,E.ok.injEq]at hk;rw[hr,hk]
  |f9 u=>simp[nrm]at hk
 .cases hk
theorem RF(fr:Fr)(az:List AV)(dst:Option Tmp)(st:St)(f:FuncId)(xs:List AV)(own:List Nat):DZ fr az dst st (K (.fn f) xs [] own false none)=DZ fr az dst st (BB K f xs own):=by
 unfold BB;cases K (.fn f) xs [] own false none with
 |err l=>rfl
 |ok r=>
  obtain⟨o,h⟩:=r;cases o<;>rfl
def Lh(C:Cj)(K:AO)(fr:Fr)(ops:Array Oper)(b n:Nat)(al:Nat→Bool)(l:List Oper)(i:Nat)(dst:Option Tmp)(ρ:List Nat)(e:Bn)(h:AD)(bs:Nat)(ds:List Df)(Q:Ds→St→Prop)(f:FuncId)(az:List AV)(m:Mode):Prop:=
 BX C K fr ops b n al l i Q (Dh K fr ρ f az dst ⟨e,h,bs,ds⟩ m)
theorem tP(f:FuncId)(first cap args:List AV):SK C K fr ops b n al l i dst ρ e h bs ds Q args (.fn f first cap)=Lh C K fr ops b n al l i dst ρ e h bs ds Q f (first++args++cap) (C.mode f):=by
 simp only[SK,Lh,EK,BO]
def mf(C:Cj)(K:AO)(fr:Fr)(ops:Array Oper)(b n:Nat)(al:Nat→Bool)(l:List Oper)(i:Nat)(dst:Option Tmp)(ρ:List Nat)(e:Bn)(h:AD)(bs:Nat)(ds:List Df)(Q:Ds→St→Prop)(f:FuncId)(az:List AV)(own:List Nat):Option (List AV)→Prop
 |some xs=>Dc C K fr ops b n al l i az dst e h bs ds Q (K (.fn f) xs [] own false none)
 |none=>False
theorem ei(f:FuncId)(az:List AV)(hx:(Dy h.get az).isSome):Lh C K fr ops b n al l i dst ρ e h bs ds Q f az .auto=mf C K fr ops b n al l i dst ρ e h bs ds Q f az [] (Dy h.get az):=by
 obtain⟨xs,hx⟩:=Is.1 hx;simp only[Lh,Dh,hx,BO,mf,Dc]
theorem p7(f:FuncId)(az:List AV)(hx:(Dy h.get az).isSome):Lh C K fr ops b n al l i dst ρ e h bs ds Q f az .own=mf C K fr ops b n al l i dst ρ e h bs ds Q f az ρ (Dy h.get az):=by
 obtain⟨xs,hx⟩:=Is.1 hx;simp only[Lh,Dh,hx,BO,mf,Dc]
theorem mg(f:FuncId)(az:List AV)(own:List Nat)(xs:List AV):mf C K fr ops b n al l i dst ρ e h bs ds Q f az own (some xs)=Dc C K fr ops b n al l i az dst e h bs ds Q (BB K f xs own):=by
 simp only[mf,Dc,RF]
theorem gx(az:List AV)(v:AV)(h':AD)(hv:flat v=true):Dc C K fr ops b n al l i az dst e h bs ds Q (.ok (.ret v,h'))=Fw C K fr ops b n al l (i+1) ⟨Ch e dst v,h,bs,ds⟩ Q:=by
 simp only[Dc,DZ,A8,hv,BX]
theorem rB(az:List AV)(v:AV)(h':AD)(hv:flat v=true):Dc C K fr ops b n al l i az dst e h bs ds Q (.ok (.f9 v,h'))=(al i=true∧Q (.f9 v) ⟨e,h,b+n,ds⟩):=by
 simp only[Dc,DZ,hv,BX]
theorem qz(az:List AV)(v:AV)(h':AD)(x:Id×Obj)(hv:flat v=false)(hx:Bf v h'=some x):Dc C K fr ops b n al l i az dst e h bs ds Q (.ok (.ret v,h'))=Fw C K fr ops b n al l (i+1) ⟨Ch e dst v,x::h,bs,ds⟩ Q:=by
 simp only[Dc,DZ,A8,hv,Hs,hx,An,BX]
theorem rA(az:List AV)(v:AV)(h':AD)(hv:flat v=false)(hx:Bf v h'=none):Dc C K fr ops b n al l i az dst e h bs ds Q (.ok (.ret v,h'))=(KF fr.ce (az.flatMap (mark h.get))=true∧Fw C K fr ops b n al l (i+1) ⟨Ch e dst v,h'++h.puts (az.flatMap (mark h.get)),bs,ds⟩ Q):=by
 simp only[Dc,DZ,A8,hv,Hs,hx,An,Bt];cases hw:KF fr.ce (az.flatMap (mark h.get))<;>simp[BX]
end
def iv(h:AD)(π:List Nat)(raw:Bool)(Post:Ad→AD→Prop):Option AV→Prop
 |some v=>match raw with
  |true=>Post (.ret v) h
  |false=>match π with
   |[]=>match X2 h.get v with
    |some v'=>Post (.ret v') []
    |none=>False
   |_=>Post (.ret v) h
 |none=>False
def TX(C:Cj)(e:Bn)(h:AD)(rs:List ResultVar):Option AV:=match Nb (Cu C ⟨e,h,0,[]⟩) rs with
 |some []=>some (.ge [])
 |some [v]=>some v
 |some vs=>some (.ge vs)
 |none=>none
def KN(C:Cj)(rs:List ResultVar)(π:List Nat)(raw:Bool)(e:Bn)(Post:Ad→AD→Prop):E (Option AV×AD)→Prop
 |.ok (none,h)=>iv h π raw Post (TX C e h rs)
 |.ok (some v,h)=>Post (.f9 v) h
 |.err _=>False
def Sb(C:Cj)(ce:Option (List Nat))(rs:List ResultVar)(π:List Nat)(raw:Bool)(Post:Ad→AD→Prop):Ds→St→Prop
 |.ret,st=>KN C rs π raw st.env Post (DD C ce st.defs none st.heap)
 |.normal,st=>KN C rs π raw st.env Post (DD C ce st.defs none st.heap)
 |.f9 v,st=>KN C rs π raw st.env Post (DD C ce st.defs (some v) st.heap)
 |_,_=>False
theorem Aj{f:FuncId}{fn:Func}{c:Code}{rs:List ResultVar}{args:List AV}{h:AD}{π:List Nat}{raw:Bool}{ce:Option (List Nat)}{Post:Ad→AD→Prop}(hg:C.i6 f=true)(hf:P.funcs[f]? =some fn)(hb:fn.body=some c)(hr:fn.results.toList=rs)(hl:Nat.ble args.length fn.ntmps=true)
 (hw:Wp C (KL P C) {f,π,raw,ce,nt:=fn.ntmps} 0 c ⟨Ed 0 args,h,0,[]⟩ (Sb C ce rs π raw Post)): ∃o h',KL P C (.fn f) args h π raw ce=.ok (o,h')∧Post o h':=by
 obtain⟨n,o,st',h1,h2⟩:=hw;subst hr;have hres: ∀h'',JI C fn {st' with heap:=h''}=TX C st'.env h'' fn.results.toList:=fun h''=>by
  unfold JI TX;have e:Cu C {st' with heap:=h''}=Cu C ⟨st'.env,h'',0,[]⟩:=funext fun r=>by cases r<;>rfl
  rw[e];rfl
 have key: ∀z,KN C fn.results.toList π raw st'.env Post z→ ∃o h',TL C f fn π raw st' z=.ok (o,h')∧Post o h':=by
  intro z hz;cases z with
  |err l=>exact hz.elim
  |ok r=>
   obtain⟨p,h''⟩:=r;cases p with
   |some v=>exact⟨.f9 v,h'',rfl,hz⟩
   |none=>
    simp only[KN]at hz;simp only[TL,hres];cases hv:TX C st'.env h'' fn.results.toList with
    |none=>rw[hv]at hz;exact hz.elim
    |some v=>
     rw[hv]at hz;simp only[iv]at hz;simp only[KM];cases raw with
     |true=>exact⟨_,_,rfl,hz⟩
     |false=>
      simp only at hz⊢;split at hz
      .split at hz
       .rename_i v' hv';rw[hv'];exact⟨_,_,rfl,hz⟩
       .exact hz.elim
      .exact⟨_,_,by split<;>first|rfl|contradiction,hz⟩
 have fin: ∃o' h',uU C ce f fn π raw (.ok (o,st'))=.ok (o',h')∧Post o' h':=by
  cases o with
  |exit k=>exact h2.elim
  |ret=>exact key _ h2
  |normal=>exact key _ h2
  |f9 v=>exact key _ h2
 obtain⟨o',h',e,hp⟩:=fin;refine⟨o',h',ADS hg (n:=n) ?_,hp⟩;unfold Pn;simp only[hf,hb,hl,h1];exact e
variable{f:FuncId}{fn:Func}{c:Code}{rs:List ResultVar}{args:List AV}{π:List Nat}{raw:Bool}{ce:Option (List Nat)}
theorem AGC{h:AD}{o:Ad}{h0:AD}(hg:C.i6 f=true)(hf:P.funcs[f]? =some fn)(hb:fn.body=some c)(hr:fn.results.toList=rs)(hl:Nat.ble args.length fn.ntmps=true)
 (hw:Wp C (KL P C) {f,π,raw,ce,nt:=fn.ntmps} 0 c ⟨Ed 0 args,h,0,[]⟩ (Sb C ce rs π raw fun o' h'=>o'=o∧h'=h0)):KL P C (.fn f) args h π raw ce=.ok (o,h0):=by
 obtain⟨o',h',e,rfl,rfl⟩:=Aj hg hf hb hr hl hw;exact e
theorem Ae{r:Ad×AD}(hg:C.i6 f=true)(hf:P.funcs[f]? =some fn)(hb:fn.body=some c)(hr:fn.results.toList=rs)(hl:Nat.ble args.length fn.ntmps=true)
 (hw:Wp C (KL P C) {f,π,raw:=false,ce:=none,nt:=fn.ntmps} 0 c ⟨Ed 0 args,[],0,[]⟩ (Sb C none rs π false fun o' h'=>nrm (o',h')=r)):BB (KL P C) f args π=.ok r:=by
 obtain⟨o',h',e,h2⟩:=Aj hg hf hb hr hl hw;unfold BB;rw[e,←h2]
theorem ACm(v:AV)(h:AD):nrm (.ret v,h)=(.ret v,h):=rfl
theorem ACk(v:AV)(h:AD):nrm (.f9 v,h)=(.f9 v,[]):=rfl
def MM(C:Cj)(K:AO)(fr:Fr)(b:Nat)(x:Code)(Q:Ds→St→Prop):Ds→St→Prop
 |.normal,st=>Wp C K fr b (.loop x) st Q
 |o,st=>Q o st
def Wb(C:Cj)(K:AO)(fr:Fr)(b:Nat)(x:Code)(st:St)(Q:Ds→St→Prop):Prop:=Wp C K fr b x st (MM C K fr b x Q)
theorem ADL(x:Code)(st:St):Wp C K fr b (.loop x) st Q=Wb C K fr b x (Et C fr b st) Q:=by
 refine propext ⟨fun⟨n,o,st',h,hq⟩=>?_,fun⟨n,o,st',h,hq⟩=>?_⟩
 .cases n with
  |zero=>simp[BQ]at h
  |succ n=>
   simp only[BQ,K9]at h;cases hx:BQ C K fr n b x (Et C fr b st)with
   |err e=>rw[hx]at h;cases h
   |ok r=>
    rw[hx]at h;obtain⟨o1,st1⟩:=r;refine⟨n,o1,st1,hx,?_⟩;cases o1<;>simp only[DY]at h
    .exact⟨n,o,st',h,hq⟩
    all_goals (cases h;exact hq)
 .cases o with
  |normal=>
   obtain⟨m,o2,st2,h2,hq2⟩:=hq;refine⟨max n m+1,o2,st2,?_,hq2⟩;simp only[BQ,K9,M7 h (LI n m),DY,M7 h2 (Ms n m)]
  |_=>exact⟨n+1,_,st',by simp only[BQ,K9,h,DY],hq⟩
theorem XT(x:Code)(st:St):MM C K fr b x Q .normal st=Wp C K fr b (.loop x) st Q:=rfl
theorem eO(x:Code)(k:Nat)(st:St):MM C K fr b x Q (.exit k) st=Q (.exit k) st:=rfl
theorem pY(x:Code)(st:St):MM C K fr b x Q .ret st=Q .ret st:=rfl
theorem pX(x:Code)(v:AV)(st:St):MM C K fr b x Q (.f9 v) st=Q (.f9 v) st:=rfl
theorem C7(x:Code)(st:St):Wb C K fr b x st Q=Wp C K fr b x st (MM C K fr b x Q):=rfl
structure AA(p:Prop):Prop where
 out:p
variable{α:Type}
theorem rounds{x:Code}(S:α→St)(Inv:α→Prop)(m:α→Nat)(a:α)(h0:Inv a)(step: ∀a,Inv a→AA (∀a',m a'<m a→Inv a'→Wb C K fr b x (S a') Q)→Wp C K fr b x (S a) (MM C K fr b x Q)):Wb C K fr b x (S a) Q:=by
 suffices h: ∀k a,m a<k→Inv a→Wb C K fr b x (S a) Q from h _ a (Nat.lt_succ_self _) h0
 intro k;induction k with
 |zero=>intro a ha;omega
 |succ k ih=>exact fun a ha hi=>step a hi ⟨fun a' h1 h2=>ih a' (by omega) h2⟩
variable{P:Program}{C:Cj}{K:AO}{fr:Fr}{b n i:Nat}{Q:Ds→St→Prop}
variable{ops:Array Oper}{al:Nat→Bool}{l:List Oper}{e:Bn}{h:AD}{bs:Nat}{ds:List Df}{ps:List (Nat×Nat)}{fps:List Fp}
def LK(e:Bn):Option (Option Tmp)→AV
 |some (some t)=>e.get t
 |_=>.undef
def QE(ops:Array Oper)(e:Bn)(j:Nat):AV:=LK e ((ops[j]?).map (·.dst))
theorem Zc(e:Bn)(t:Tmp):LK e (some (some t))=e.get t:=rfl
theorem dv(l:List Oper)(e:Bn)(j:Nat):QE l.toArray e j=LK e ((l[j]?).map (·.dst)):=by
 simp only[QE,OR]
theorem ACr(dst:Option Tmp)(op:Op)(ty:TypeId)(pos:String)(af:Array Edge)(j:Nat)(want:Bool):
 Fw C K fr ops b n al (⟨dst,op,ty,pos,af,some (j,want)⟩::l) i ⟨e,h,bs,ds⟩ Q=C8 C K fr ops b n al l i dst op ⟨e,h,bs,ds⟩ want Q (QE ops e j):=by
 rw[Vp];simp only[CY,NA,QE];cases hj:ops[j]? with
 |none=>simp[LK,C8,BX]
 |some o=>
  cases hd:o.dst with
  |none=>simp[LK,C8,BX,hd]
  |some t=>
   simp only[I7,hd,Es,LK];cases hv:Bn.get e t with
   |d x=>cases x with
    |bool c=>
     simp only[C8];cases(c==want)<;>simp only[BX,A8]
    |_=>rfl
   |ge vs=>cases vs<;>simp only[C8,BX,A8]
   |_=>rfl
theorem get_cons(k:Nat)(v:AV)(e:Bn)(t:Nat):Bn.get ((k,v)::e) t=if k=t then v else Bn.get e t:=by
 rw[Bn.get];cases h:Nat.beq k t with
 |true=>rw[D0 (D3 h)]
 |false=>rw[CI (Pl h)]
theorem rI(e:Bn)(t:Tmp)(v:AV):Ch e (some t) v=(t,v)::e:=rfl
theorem rH(e:Bn)(v:AV):Ch e none v=e:=rfl
theorem AEG(e:Nat→AV)(t:Tmp):ev e (.tmp t)=e t:=rfl
theorem AAP(e:Nat→AV)(f:FuncId):ev e (.func f)=.fn f [] []:=rfl
theorem AEF(e:Nat→AV)(k:IntKind)(m:Int):ev e (.const (.int k m))=.d (.int k m):=rfl
theorem AAO(e:Nat→AV)(c:Bool):ev e (.const (.bool c))=.d (.bool c):=rfl
theorem lr(e:Nat→AV)(s:ByteArray):ev e (.const (.string s))=.d (.str s):=rfl
theorem AAU(e:Nat→AV):ev e (.const (.slice none 0 0))=.co:=rfl
theorem AAT(e:Nat→AV):ev e (.const (.pointer none))=.d .wl:=rfl
theorem AAQ(e:Nat→AV):ev e (.const .nilFunc)=.d .jp:=rfl
theorem AAR(e:Nat→AV):ev e (.const .nilIface)=.d .of:=rfl
theorem AAS(e:Nat→AV):ev e (.const (.map none))=.d .v6:=rfl
theorem cB(δ:AD):KF none δ=true:=by cases δ<;>rfl
theorem AGL(k:IntKind)(a c:Int):Fu .add k a c=some (.d (.int k (k.wrap (a+c)))):=rfl
theorem AGU(k:IntKind)(a c:Int):Fu .sub k a c=some (.d (.int k (k.wrap (a-c)))):=rfl
theorem AGR(k:IntKind)(a c:Int):Fu .mul k a c=some (.d (.int k (k.wrap (a*c)))):=rfl
theorem AGM(k:IntKind)(a c:Int):Fu .eql k a c=some (.d (.bool (decide (a=c)))):=by
 simp only[Fu];congr
theorem AGS(k:IntKind)(a c:Int):Fu .neq k a c=some (.d (.bool (!decide (a=c)))):=by
 simp only[Fu];congr
theorem AGQ(k:IntKind)(a c:Int):Fu .lss k a c=some (.d (.bool (decide (a<c)))):=rfl
theorem AGP(k:IntKind)(a c:Int):Fu .leq k a c=some (.d (.bool (decide (a≤c)))):=rfl
theorem AGO(k:IntKind)(a c:Int):Fu .gtr k a c=some (.d (.bool (decide (c<a)))):=rfl
theorem AGN(k:IntKind)(a c:Int):Fu .geq k a c=some (.d (.bool (decide (c≤a)))):=rfl
theorem AGT(k:IntKind)(a c:Int):Fu .rem k a c=if c=0 then none else some (.d (.int k (a.tmod c))):=rfl
theorem AG6(op:BinOp)(k:IntKind)(a c:Int)(t:Option TI):HP op (.d (.int k a)) (.d (.int k c)) t=Fu op k a c:=by
 simp only[HP,F2]
variable{st:St}{p:Prop}
theorem lJ{x y:Code} [Decidable p](h1:p→Wp C K fr b x st Q)(h2: ¬p→Wp C K fr b y st Q):L5 C K fr b x y st Q (.d (.bool (decide p))):=by
 by_cases hp:p
 .rw[Ci hp];exact h1 hp
 .rw[By hp];exact h2 hp
theorem lK(x y:Code)(st:St)(t:Bool):L5 C K fr b x y st Q (.d (.bool (!t)))=L5 C K fr b y x st Q (.d (.bool t)):=by
 cases t<;>rfl
variable{dst:Option Tmp}{want:Bool}
theorem dt{op:Op} [Decidable p](h1:p→C8 C K fr ops b n al l i dst op st want Q (.d (.bool true)))(h2: ¬p→C8 C K fr ops b n al l i dst op st want Q (.d (.bool false))):C8 C K fr ops b n al l i dst op st want Q (.d (.bool (decide p))):=by
 by_cases hp:p
 .rw[Ci hp];exact h1 hp
 .rw[By hp];exact h2 hp
theorem du(dst:Option Tmp)(op:Op)(want:Bool):C8 C K fr ops b n al l i dst op ⟨e,h,bs,ds⟩ want Q (.ge [])=Fw C K fr ops b n al l (i+1) ⟨Ch e dst (.ge []),h,bs,ds⟩ Q:=rfl
def uH(C:Cj)(K:AO)(fr:Fr)(ops:Array Oper)(b n id:Nat)(l:List Oper)(st:St)(Q:Ds→St→Prop):List (Nat×Nat)→Prop
 |[]=>Fw C K fr ops b n (fun i=>C.alone fr.f id i) l 0 st Q
 |p::ps=>Gp C K fr ops b n (fun i=>C.alone fr.f id i) (p::ps) [] l 0 st Q
theorem zS(id:Nat)(ops:Array Oper)(e:Bn)(h:AD)(bs:Nat)(ds:List Df):Wp C K fr b (.region id ops true) ⟨e,h,bs,ds⟩ Q=uH C K fr ops bs ops.size id ops.toList ⟨e,h,bs,ds⟩ Q (C.d8 fr.f id):=by
 cases hp:C.d8 fr.f id with
 |nil=>rw[zR id ops e h bs ds hp];rfl
 |cons p ps=>rw[ADJ id ops e h bs ds hp];rfl
theorem lg(id:Nat)(st:St):uH C K fr ops b n id l st Q []=Fw C K fr ops b n (fun i=>C.alone fr.f id i) l 0 st Q:=rfl
theorem dA(id:Nat)(st:St)(p:Nat×Nat):uH C K fr ops b n id l st Q (p::ps)=Gp C K fr ops b n (fun i=>C.alone fr.f id i) (p::ps) [] l 0 st Q:=rfl
variable{Post:Ad→AD→Prop}
theorem uX:Sb C ce rs π raw Post .ret ⟨e,h,bs,ds⟩=KN C rs π raw e Post (DD C ce ds none h):=rfl
theorem Yv:Sb C ce rs π raw Post .normal ⟨e,h,bs,ds⟩=KN C rs π raw e Post (DD C ce ds none h):=rfl
theorem uV(v:AV):Sb C ce rs π raw Post (.f9 v) ⟨e,h,bs,ds⟩=KN C rs π raw e Post (DD C ce ds (some v) h):=rfl
theorem nk(ce:Option (List Nat))(p:Option AV)(h:AD):DD C ce [] p h=.ok (p,h):=rfl
theorem S0(ce:Option (List Nat))(p:Option AV)(h:AD)(id:Id)(l:List Df):DD C ce (.mark id::l) p h=DD C ce l p h:=rfl
theorem eD:KN C rs π raw e Post (.ok (none,h))=iv h π raw Post (TX C e h rs):=rfl
theorem eC(v:AV):KN C rs π raw e Post (.ok (some v,h))=Post (.f9 v) h:=rfl
theorem zK(v:AV):iv h π true Post (some v)=Post (.ret v) h:=rfl
theorem zJ{k:Nat}(v:AV):iv h (k::π) false Post (some v)=Post (.ret v) h:=rfl
def AET(Post:Ad→AD→Prop):Option AV→Prop
 |some v=>Post (.ret v) []
 |none=>False
theorem zI(v:AV):iv h [] false Post (some v)=AET Post (X2 h.get v):=by
 simp only[iv];cases X2 h.get v<;>rfl
theorem mh(v:AV):AET Post (some v)=Post (.ret v) []:=rfl
theorem rV:TX C e h []=some (.ge []):=rfl
theorem yY(t:Tmp):TX C e h [.tmp t]=some (e.get t):=rfl
theorem rU(r r':ResultVar)(rs:List ResultVar):TX C e h (r::r'::rs)=(Nb (Cu C ⟨e,h,0,[]⟩) (r::r'::rs)).map .ge:=by
 unfold TX;simp only[Nb];cases Cu C ⟨e,h,0,[]⟩ r with
 |none=>rfl
 |some y=>cases Cu C ⟨e,h,0,[]⟩ r' with
  |none=>rfl
  |some z=>cases Nb (Cu C ⟨e,h,0,[]⟩) rs<;>rfl
theorem rR(a:Tmp)(t:TypeId):TX C e h [.cell a t]=(C.T t).bind fun i=>Jb h.get i (e.get a):=by
 unfold TX;simp only[Nb,Cu];cases(C.T t).bind fun i=>Jb h.get i (e.get a)<;>rfl
theorem Ue(t:Tmp):Cu C ⟨e,h,bs,ds⟩ (.tmp t)=some (e.get t):=rfl
theorem TZ(a:Tmp)(t:TypeId):Cu C ⟨e,h,bs,ds⟩ (.cell a t)=(C.T t).bind fun i=>Jb h.get i (e.get a):=rfl
variable{β:Type}
theorem xP(f:α→Option β):Nb f []=some []:=rfl
theorem pd(f:α→Option β)(x:α)(l:List α):Nb f (x::l)=(f x).bind fun y=>(Nb f l).map (y:: ·):=by
 simp only[Nb];cases f x with
 |none=>rfl
 |some y=>cases Nb f l<;>rfl
theorem mz(dst:Option Tmp)(op:Op)(st:St)(t:Bool):C8 C K fr ops b n al l i dst op st true Q (.d (.bool (!t)))=C8 C K fr ops b n al l i dst op st false Q (.d (.bool t)):=by
 cases t<;>rfl
theorem my(dst:Option Tmp)(op:Op)(st:St)(t:Bool):C8 C K fr ops b n al l i dst op st false Q (.d (.bool (!t)))=C8 C K fr ops b n al l i dst op st true Q (.d (.bool t)):=by
 cases t<;>rfl
theorem AAt(g:G)(vs:List AV):X2 g (.ge vs)=(Dy g vs).map .ge:=rfl
theorem AGh(g:G)(x:Aa):X2 g (.d x)=some (.d x):=rfl
theorem AAn(g:G)(cs:List AV):X2 g (.agg cs)=(G5 g cs).map .agg:=rfl
theorem vQ(g:G):X2 g .co=some (.d (.be [])):=rfl
theorem AAo(g:G):X2 g .emp=some (.d (.be [])):=rfl
theorem AAr(g:G)(id:Id)(off m:Nat):X2 g (.eq id off m)=(Dv g (.eq id off m)).map .d:=rfl
theorem is_self: ∀(a:Id),Id.is a a=true
 |[]=>rfl
 |n::l=>by simp[Id.is,is_self l]
theorem ABE(n m:Nat)(l k:Id):Id.is (n::l) (m::k)=if n=m then Id.is l k else false:=by
 rw[Id.is];cases h:Nat.beq n m with
 |true=>rw[D0 (D3 h)]
 |false=>rw[CI (Pl h)]
theorem Zl(m:Nat)(k:Id):Id.is [] (m::k)=false:=rfl
theorem Zk(m:Nat)(k:Id):Id.is (m::k) []=false:=rfl
theorem vg(id:Id):AD.get [] id=none:=rfl
theorem Bo(k:Id)(o:Obj)(h:AD)(id:Id):AD.get ((k,o)::h) id=if Id.is k id=true then some o else AD.get h id:=by
 rw[AD.get];cases Id.is k id<;>rfl
theorem jy(id:Id)(o:Obj):AD.put [] id o=[(id,o)]:=rfl
theorem bH(k:Id)(x:Obj)(h:AD)(id:Id)(o:Obj):AD.put ((k,x)::h) id o=if Id.is k id=true then(k,o)::h else(k,x)::AD.put h id o:=by
 rw[AD.put];cases Id.is k id<;>rfl
theorem puts_cons(h:AD)(p:Id×Obj)(δ:AD):AD.puts h (p::δ)=AD.puts (h.put p.1 p.2) δ:=rfl
theorem puts_nil(h:AD):AD.puts h []=h:=rfl
def Wk(π:List Nat)(e:Bn)(h:AD)(l:List Id):St:=
 {env:=e.map fun p=>(p.1,Gm (Dn π l 0) p.2),heap:=DP h (Dn π l 0) l,base:=l.length,defs:=[]}
def G7:Bn→List Id
 |[]=>[]
 |p::e=>AF p.2++G7 e
theorem AA8(e:Bn):(e.flatMap fun p=>AF p.2)=G7 e:=by
 induction e with
 |nil=>rfl
 |cons p e ih=>rw[D5,ih];rfl
def J4(e:Bn):List Nat→Bn
 |[]=>[]
 |t::l=>(t,e.get t)::J4 e l
theorem S4(e:Bn)(l:List Nat):(l.map fun t=>(t,e.get t))=J4 e l:=by
 induction l with
 |nil=>rfl
 |cons p e ih=>rw[Cs,ih];rfl
def Nq(π:List Nat)(h:AD)(e:Bn):St:=Wk π e h (CP h 1000 (E6 [] (G7 e)) 0)
theorem Mx(f:FuncId)(π:List Nat)(ce:Option (List Nat))(wp:Bool)(nt:Nat):Et C ⟨f,π,false,ce,wp,nt⟩ b ⟨e,h,bs,[]⟩=Nq π h (J4 e (C.live f b)):=by
 simp only[Et,S4,AA8,Nq,Wk];rfl
theorem kq(f:FuncId)(π:List Nat)(ce:Option (List Nat))(wp:Bool)(nt:Nat):Et C ⟨f,π,true,ce,wp,nt⟩ b ⟨e,h,bs,ds⟩=⟨J4 e (C.live f b),h,bs,ds⟩:=by
 simp only[Et,S4];rfl
theorem ca(d:Df):Et C fr b ⟨e,h,bs,d::ds⟩=⟨J4 e (C.live fr.f b),h,bs,d::ds⟩:=by
 simp only[Et,S4,List.isEmpty_cons,Ol,Bool.or_true,F2]
theorem s5(l:List Id)(id:Id):Lf l id=if (l.any (Id.is id))=true then l else l++[id]:=by
 rw[Lf];cases l.any (Id.is id)<;>rfl
theorem yV(h:AD)(n:Nat)(l:List Id)(i:Nat):CP h (n+1) l i=match l[i]? with
 |some id=>CP h n (E6 l (Fv (h.get id))) (i+1)
 |none=>l:=rfl
def Tm(id:Id):Nat:=match id with|0::_=>0|_=>1
theorem TB(π:List Nat)(x:Id)(r:List Id)(n:Nat)(id:Id):Dn π (x::r) n id=if Id.is x id=true then some (Tm id::n::π)else Dn π r (n+1) id:=by
 have:Dn π (x::r) n id=match Id.is x id with|true=>some (Tm id::n::π)|false=>Dn π r (n+1) id:=by
  conv=>lhs;unfold Dn
  unfold Tm;cases id with
  |nil=>rfl
  |cons a l=>cases a<;>rfl
 rw[this];cases Id.is x id<;>rfl
theorem sE(l:Id):Tm (0::l)=0:=rfl
theorem sC(l:Id):Tm (1::l)=1:=rfl
def S6(sz:Nat):Option (List Aa)→Option CU
 |some c=>if c.length=sz then some ⟨.rg c,[]⟩else none
 |none=>none
theorem AA9(g:G)(m:Int)(es:List (List Aa))(j:TI)(hm:0≤m):Nk g m (.d (.be es)) j=S6 j.size es[m.toNat]? :=by
 simp only[Nk,D0 hm];cases es[m.toNat]? with
 |none=>rfl
 |some c=>
  simp only[S6];cases h:Nat.beq c.length j.size with
  |true=>rw[D0 (D3 h)]
  |false=>rw[CI (Pl h)]
theorem ABA(g:G)(m:Int)(id:Id)(off len:Nat)(j:TI)(hm:0≤m):Nk g m (.eq id off len) j=if m.toNat<len then(match g id with
        |some (.d9 sz es)=>if sz=j.size∧off+m.toNat<es.length then some ⟨.i7 id (off+m.toNat) 0,[]⟩else none
        |some (.i5 sz es)=>if sz=j.size∧off+m.toNat<es.length then some ⟨.i7 id (off+m.toNat) 0,[]⟩else none
        |some (.arr sz es)=>if sz=j.size∧off+m.toNat<es.length then some ⟨.i7 id (off+m.toNat) 0,[]⟩else none
        |_=>none)else none:=by
 simp only[Nk,D0 hm];rfl
theorem pb(sz:Nat)(c:List Aa):S6 sz (some c)=if c.length=sz then some ⟨.rg c,[]⟩else none:=rfl
variable{j:Nat}
theorem qw{s:ByteArray}{f:UInt8→CU}(hj:j<s.data.toList.length)(hx: ∀x,s.data.toList[j]? =some x→Bw C K fr ops b n al l i dst e h bs ds Q (some (f x))):Bw C K fr ops b n al l i dst e h bs ds Q (Option.map f s.data.toList[j]?):=by
 have:=hx s.data.toList[j] (BY hj)
 rwa [BY hj]
theorem qu{f:α→List Aa}{l':List α}{sz:Nat}(hj:j<l'.length)(hx: ∀x,l'[j]? =some x→Bw C K fr ops b n al l i dst e h bs ds Q (S6 sz (some (f x)))):Bw C K fr ops b n al l i dst e h bs ds Q (S6 sz (Option.map f l'[j]?)):=by
 have:=hx l'[j] (BY hj)
 rwa [BY hj]
theorem AER(g:G)(x:Aa):FQ g (.d x)=some x:=rfl
theorem mO(g:G):FQ g .co=some (.be []):=rfl
theorem vG(g:G):FQ g .emp=some (.be []):=rfl
theorem AES(g:G)(x:Aa):Dv g (.d x)=some x:=rfl
theorem mU(g:G):Dv g .co=some (.be []):=rfl
theorem vJ(g:G):Dv g .emp=some (.be []):=rfl
theorem vL(g:G)(id:Id)(off:Nat):Dv g (.ptr id off)=none:=rfl
theorem AAk(g:G)(id:Id):Dv g (.mp id)=none:=rfl
theorem vM(g:G)(id:Id):Dv g (.wn id)=none:=rfl
theorem AAj(g:G)(f:FuncId)(a c:List AV):Dv g (.fn f a c)=none:=rfl
def ZU(g:G)(off m:Nat):Option Obj→Option Aa
 |some (.arr _ es)=>(C6 g es).bind fun ds=>(Js ds off m).map .be
 |some (.d9 _ es)=>(Js es off m).map .be
 |some (.i5 _ es)=>(Js es off m).map .be
 |_=>none
theorem vK(g:G)(id:Id)(off m:Nat):Dv g (.eq id off m)=ZU g off m (g id):=by
 simp only[Dv,FQ];cases h:g id with
 |none=>rfl
 |some o=>cases o with
  |arr sz es=>
   simp only[ZU];cases C6 g es<;>rfl
  |_=>rfl
theorem mc(g:G)(off m sz:Nat)(es:List (List AV)):ZU g off m (some (.arr sz es))=(C6 g es).bind fun ds=>(Js ds off m).map .be:=rfl
theorem dh(g:G)(off m sz:Nat)(es:List (List Aa)):ZU g off m (some (.d9 sz es))=(Js es off m).map .be:=rfl
theorem me(g:G)(off m sz:Nat)(es:List (List Aa)):ZU g off m (some (.i5 sz es))=(Js es off m).map .be:=rfl
theorem mV(g:G):G5 g []=some []:=rfl
def Ny:Option Aa→Option (List AV)→Option (List AV)
 |some x,some xs=>some (.d x::xs)
 |_,_=>none
theorem ZQ(x:Aa)(xs:List AV):Ny (some x) (some xs)=some (.d x::xs):=rfl
theorem ZP(xs:Option (List AV)):Ny none xs=none:=rfl
theorem da(g:G)(v:AV)(vs:List AV):G5 g (v::vs)=Ny (Dv g v) (G5 g vs):=by
 simp only[G5];cases Dv g v<;>cases G5 g vs<;>rfl
def VM:Option AV→Option (List AV)→Option (List AV)
 |some x,some xs=>some (x::xs)
 |_,_=>none
theorem dc(x:AV)(xs:List AV):VM (some x) (some xs)=some (x::xs):=rfl
theorem db(xs:Option (List AV)):VM none xs=none:=rfl
theorem ZS(x:Option AV):VM x none=none:=by cases x<;>rfl
theorem vO(g:G):Dy g []=some []:=by simp only[Dy]
theorem ma(g:G)(v:AV)(vs:List AV):Dy g (v::vs)=VM (Ej g v) (Dy g vs):=by
 simp only[Dy];cases Ej g v<;>cases Dy g vs<;>rfl
theorem AEQ(g:G)(x:Aa):Ej g (.d x)=some (.d x):=rfl
theorem vA(g:G)(cs:List AV):Ej g (.agg cs)=(G5 g cs).map .agg:=rfl
theorem mN(g:G):Ej g .co=some (.d (.be [])):=rfl
theorem vB(g:G):Ej g .emp=some (.d (.be [])):=rfl
theorem vE(g:G)(id:Id)(off:Nat):Ej g (.ptr id off)=none:=rfl
theorem AAi(g:G)(id:Id):Ej g (.mp id)=none:=rfl
theorem vF(g:G)(id:Id):Ej g (.wn id)=none:=rfl
theorem AAh(g:G)(f:FuncId):Ej g (.fn f [] [])=some (.fn f [] []):=rfl
theorem vD(g:G)(id:Id)(off m:Nat):Ej g (.eq id off m)=(Dv g (.eq id off m)).map .d:=rfl
theorem ZH(g:G)(t:TypeId)(cs:List AV):Ej g (.iface t (.agg cs))=(G5 g cs).map fun c=>.iface t (.agg c):=rfl
theorem ZI(g:G)(t:TypeId)(x:Aa):Ej g (.iface t (.d x))=some (.iface t (.d x)):=rfl
theorem AEO(x:Aa):flat (.d x)=EU x:=by cases x<;>rfl
theorem mL:flat .co=true:=by simp[flat]
theorem ur(cs:List AV):flat (.agg cs)=Fi cs:=by cases cs<;>rfl
theorem ux(cs:List AV):flat (.ge cs)=Fi cs:=by cases cs<;>rfl
theorem uu(id:Id)(off m:Nat):flat (.eq id off m)=false:=by cases id<;>rfl
theorem uw(id:Id)(off:Nat):flat (.ptr id off)=false:=by cases id<;>rfl
theorem Y9(t:TypeId)(cs:List AV):flat (.iface t (.agg cs))=Fi cs:=by cases cs<;>rfl
theorem ZA(t:TypeId)(x:Aa):flat (.iface t (.d x))=EU x:=by cases x<;>rfl
theorem mH:Fi []=true:=rfl
theorem AAd(x:Aa)(vs:List AV):Fi (.d x::vs)=(EU x&&Fi vs):=rfl
theorem mG(x:List AV)(vs:List AV):Fi (.agg x::vs)=false:=by simp only[Fi]
theorem mI(id:Id)(off m:Nat)(vs:List AV):Fi (.eq id off m::vs)=false:=by simp only[Fi]
theorem dS(vs:List AV):Fi (.co::vs)=false:=by simp only[Fi]
theorem AAf(id:Id):flat (.mp id)=false:=by simp only[flat]
theorem AAe(f:FuncId)(a c:List AV):flat (.fn f a c)=false:=by simp only[flat]
theorem Y6(vs:List AV)(h:AD):Bf (.ge vs) h=none:=by simp only[Bf]
theorem Y3(vs:List AV)(h:AD):Bf (.agg vs) h=none:=by simp only[Bf]
theorem Y5(id:Id)(off:Nat)(h:AD):Bf (.ptr id off) h=none:=by simp only[Bf]
theorem dK(id:Id)(h:AD):Bf (.mp id) h=none:=by simp only[Bf]
theorem l9(x:Aa)(h:AD):Bf (.d x) h=none:=by simp only[Bf]
theorem dJ(f:FuncId)(a c:List AV)(h:AD):Bf (.fn f a c) h=none:=by simp only[Bf]
theorem mC(k:IntKind)(m:Int):EU (.int k m)=true:=rfl
theorem dM(c:Bool):EU (.bool c)=true:=rfl
theorem mF(c:ByteArray):EU (.str c)=true:=rfl
theorem mE(c:List (List Aa)):EU (.be c)=false:=rfl
theorem dR:EU .wl=true:=rfl
theorem dP:EU .of=true:=rfl
theorem dN:EU .jp=true:=rfl
theorem dQ:EU .v6=true:=rfl
theorem kv(cs:List AV):AV.cells (.agg cs)=cs:=rfl
theorem zx(x:Aa):AV.cells (.d x)=[.d x]:=rfl
theorem ck:AV.cells .co=[.co]:=rfl
theorem lB:AV.cells .emp=[.emp]:=rfl
theorem lD(id:Id)(off m:Nat):AV.cells (.eq id off m)=[.eq id off m]:=rfl
theorem lF(id:Id)(off:Nat):AV.cells (.ptr id off)=[.ptr id off]:=rfl
theorem cg(id:Id)(k off:Nat):AV.cells (.i7 id k off)=[.i7 id k off]:=rfl
theorem tc(f:FuncId)(a c:List AV):AV.cells (.fn f a c)=[.fn f a c]:=rfl
theorem td(id:Id):AV.cells (.mp id)=[.mp id]:=rfl
theorem Yb(t:TypeId)(v:AV):AV.cells (.iface t v)=[.iface t v]:=rfl
theorem cj(c:List Aa):AV.cells (.rg c)=[.rg c]:=rfl
theorem AEA(x:Aa):AV.isCell (.d x)=true:=rfl
theorem ku:AV.isCell .co=true:=rfl
theorem tV:AV.isCell .emp=true:=rfl
theorem tW(id:Id)(off m:Nat):AV.isCell (.eq id off m)=true:=rfl
theorem tX(id:Id)(off:Nat):AV.isCell (.ptr id off)=true:=rfl
theorem kr(id:Id)(k off:Nat):AV.isCell (.i7 id k off)=true:=rfl
theorem zv(f:FuncId)(a c:List AV):AV.isCell (.fn f a c)=true:=rfl
theorem zw(id:Id):AV.isCell (.mp id)=true:=rfl
theorem cf(t:TypeId)(v:AV):AV.isCell (.iface t v)=true:=rfl
theorem AFo(a c:List AV)(i:TI):HP .eql (.agg a) (.agg c) (some i)=(Hz i.kind (.agg a) (.agg c)).map fun t=>.d (.bool t):=by
 simp only[HP];cases Hz i.kind (.agg a) (.agg c)<;>rfl
theorem AFp(a c:List AV)(i:TI):HP .neq (.agg a) (.agg c) (some i)=(Hz i.kind (.agg a) (.agg c)).map fun t=>.d (.bool (!t)):=by
 simp only[HP];cases Hz i.kind (.agg a) (.agg c)<;>rfl
theorem kU(ks:List TK)(a c:List AV):Hz (.flat ks) (.agg a) (.agg c)=Eh ks a c:=rfl
theorem Ya:Eh [] [] []=some true:=rfl
def AGK:Option Bool→Option Bool→Option Bool
 |some a,some c=>some (a&&c)
 |_,_=>none
theorem kK(a c:Bool):AGK (some a) (some c)=some (a&&c):=rfl
theorem Wu(t:TK)(ts:List TK)(x y:AV)(xs ys:List AV):Eh (t::ts) (x::xs) (y::ys)=AGK (Gz t x y) (Eh ts xs ys):=by
 simp only[Eh];cases Gz t x y<;>cases Eh ts xs ys<;>rfl
theorem cc(k:IntKind)(a c:Int):Gz .int (.d (.int k a)) (.d (.int k c))=some (decide (a=c)):=by
 simp only[Gz,F2];congr
theorem YY(a c:Bool):Gz .bool (.d (.bool a)) (.d (.bool c))=some (a==c):=rfl
theorem cd(a c:ByteArray):Gz .str (.d (.str a)) (.d (.str c))=some (a==c):=rfl
theorem AFt(a c:ByteArray)(i:TI):HP .lss (.d (.str a)) (.d (.str c)) (some i)=some (.d (.bool (Op.bytesLess a.toList c.toList))):=by
 simp only[HP];cases Hz i.kind (.d (.str a)) (.d (.str c))<;>rfl
theorem ADE(a c:ByteArray)(i:TI):HP .leq (.d (.str a)) (.d (.str c)) (some i)=some (.d (.bool (Op.bytesLess a.toList c.toList||a.toList==c.toList))):=by
 simp only[HP];cases Hz i.kind (.d (.str a)) (.d (.str c))<;>rfl
theorem AFs(a c:ByteArray)(i:TI):HP .eql (.d (.str a)) (.d (.str c)) (some i)=(Hz i.kind (.d (.str a)) (.d (.str c))).map fun t=>.d (.bool t):=by
 simp only[HP];cases Hz i.kind (.d (.str a)) (.d (.str c))<;>rfl
theorem ADA(a c:Bool)(i:TI):HP .eql (.d (.bool a)) (.d (.bool c)) (some i)=(Hz i.kind (.d (.bool a)) (.d (.bool c))).map fun t=>.d (.bool t):=by
 simp only[HP];cases Hz i.kind (.d (.bool a)) (.d (.bool c))<;>rfl
theorem zH(t:TypeId)(v:AV)(i:TI):HP .neq (.iface t v) (.d .of) (some i)=(Hz i.kind (.iface t v) (.d .of)).map fun t=>.d (.bool (!t)):=by
 simp only[HP];cases Hz i.kind (.iface t v) (.d .of)<;>rfl
theorem nY(v:Value):Zj (.const v)=true:=rfl
theorem ABD(t:Tmp):Zj (.tmp t)=false:=rfl
theorem vu(f:FuncId):Zj (.func f)=false:=rfl
theorem zp(c:Bool)(op:BinOp)(x y:AV)(t:Option TI):kc c op x y t=orV (HP op x y t) (xp c op x y t):=rfl
theorem yD(v:AV)(r:Option AV):orV (some v) r=some v:=rfl
theorem yC(r:Option AV):orV none r=r:=rfl
def AFV:TK→BinOp→Option AV
 |.iface,.eql=>some (.d (.bool true))
 |.iface,.neq=>some (.d (.bool false))
 |_,_=>none
theorem xj:AFV .iface .eql=some (.d (.bool true)):=rfl
theorem xl:AFV .iface .neq=some (.d (.bool false)):=rfl
theorem xq(op:BinOp)(i:TI):xp true op (.d .of) (.d .of) (some i)=AFV i.kind op:=by
 obtain⟨k⟩:=i;cases k<;>cases op<;>rfl
theorem AFr(op:BinOp)(i:TI):HP op (.d .of) (.d .of) (some i)=none:=by
 obtain⟨k⟩:=i;cases k<;>cases op<;>rfl
theorem tG(a c:ByteArray):Hz .str (.d (.str a)) (.d (.str c))=some (a==c):=rfl
theorem kT(a c:Bool):Hz .bool (.d (.bool a)) (.d (.bool c))=some (a==c):=rfl
theorem cV(t:TypeId)(v:AV):Hz .iface (.iface t v) (.d .of)=some false:=rfl
theorem AG5(f:FuncId)(a c:List AV)(i:TI):HP .neq (.fn f a c) (.d .jp) (some i)=(Hz i.kind (.fn f a c) (.d .jp)).map fun t=>.d (.bool (!t)):=by
 simp only[HP];cases Hz i.kind (.fn f a c) (.d .jp)<;>rfl
theorem ADB(i:TI):HP .neq (.d .jp) (.d .jp) (some i)=(Hz i.kind (.d .jp) (.d .jp)).map fun t=>.d (.bool (!t)):=by
 simp only[HP];cases Hz i.kind (.d .jp) (.d .jp)<;>rfl
theorem zo(f:FuncId)(a c:List AV):Hz .func (.fn f a c) (.d .jp)=some false:=rfl
theorem kY:Hz .func (.d .jp) (.d .jp)=some true:=rfl
theorem mj(g:G)(t:TypeId)(v:AV):X2 g (.iface t v)=Ej g (.iface t v):=by simp only[X2]
theorem AAs(g:G)(id:Id)(off:Nat):X2 g (.ptr id off)=none:=rfl
attribute [go_sem] AFt ADE AFs ADA zH nY ABD vu zp yD yC xj xl xq AFr tG kT cV AG5 ADB zo kY mj AAs
attribute [go_sem] AFo AFp kU Ya kK Wu cc YY cd
theorem Gx(a c:Nat):Nat.ble a c=decide (a≤c):=by
 cases h:Nat.ble a c with
 |true=>exact(Ci (F7 h)).symm
 |false=>exact(By (fun h1=>by rw[Pu h1]at h;cases h)).symm
theorem Wj(a c:Nat):Nat.blt a c=decide (a<c):=Gx (a+1) c
theorem Hg(a c:Nat):Nat.beq a c=decide (a=c):=by
 cases h:Nat.beq a c with
 |true=>exact(Ci (D3 h)).symm
 |false=>exact(By (Pl h)).symm
theorem QH{a:Nat}(h:a≤1073741824):(a≤BD)=True:=eq_true (by unfold BD;omega)
attribute [go_sem] Gx Wj QH G0 List.replicate_succ List.replicate_zero List.flatten_cons List.flatten_nil Bool.and_self
theorem ak(t:TypeId)(u:AV)(hu:flat (.iface t u)=true):BX C K fr ops b n al l i Q (GL ⟨e,h,bs,ds⟩ (.iface t u))=(al i=true∧Q (.f9 (.iface t u)) ⟨e,h,b+n,ds⟩):=by
 simp only[GL,hu,BX]
def CC(v:AV)(t:Bool):E (Ad×AD):=if t=true then .ok (.ret (.ge []),[])else .ok (.f9 v,[])
theorem LZ(v:AV):CC v true=.ok (.ret (.ge []),[]):=rfl
theorem KE(v:AV):CC v false=.ok (.f9 v,[]):=rfl
variable{az:List AV}{v:AV}{t:Bool}
theorem gy(h1:t=true→Dc C K fr ops b n al l i az dst e h bs ds Q (CC v true))(h2:t=false→Dc C K fr ops b n al l i az dst e h bs ds Q (CC v false)):Dc C K fr ops b n al l i az dst e h bs ds Q (CC v t):=by
 cases t
 .exact h2 rfl
 .exact h1 rfl
theorem bF [Decidable p](h1:p→Dc C K fr ops b n al l i az dst e h bs ds Q (CC v true))(h2: ¬p→Dc C K fr ops b n al l i az dst e h bs ds Q (CC v false)):Dc C K fr ops b n al l i az dst e h bs ds Q (CC v (decide p)):=by
 by_cases hp:p
 .rw[Ci hp];exact h1 hp
 .rw[By hp];exact h2 hp
attribute [go_sem] Nat.add_assoc
attribute [go_sem] ACm ACk Prod.mk.injEq ak LZ KE rB rA
attribute [go_sem] AFv ADI zQ ADM AFu ADK sJ bd rl yk yj UI cX cW YR cr Yj yB qE ACr nF mu nD mw AEV vT AEW AAu AGi AAw XG AEU AA2 dj AAv AEX AAy vS di mq vU ZY vV ZX AA1 ZV ZW AAz mn mm AA0 AAx AA3 tP mg Mb gh rI rH AEG AAP AEF AAO lr AAU AAT AAQ AAR AAS get_cons dv Zc Ed OC J8 Q9 J9 Cn LR Iw Gb ey jw Eg NN C9 LQ HV Gl Z9 aA AA9 ABA pb XR Jb CG Js Fk AG6 AGL AGU AGR AGM AGS AGQ AGP AGO AGN AGT cB uX Yv uV nk S0 eD eC zK zJ zI mh rV yY rU rR Ue TZ xP pd mz my du AAt AGh AAn vQ AAo AAr Oi lK decide_true decide_false Bool.not_true Bool.not_false zS lg dA ei p7 gx Option.isSome_some kv zx ck lB lD lF cg tc td Yb cj AEA ku tV tW tX kr zv zw cf EW Cr puts_cons puts_nil jy bH vg Bo is_self ABE Zl Zk ADL XT eO pY pX Mx kq ca Nq Wk G7 J4 s5 E6 yV TB sE sC Gm IJ Gd DP Fv AF Az List.any_nil List.any_cons Bool.or_false Bool.false_or Bool.or_true Bool.true_or Bool.false_and Bool.and_false Int.toNat_natCast Int.natCast_nonneg List.getElem?_map List.getElem?_nil AER mO vG AES mU vJ vL AAk vM AAj vK mc dh me mV ZQ ZP da dc db ZS vO ma AEQ vA mN vB vE AAi vF AAh vD ZH ZI AEO mL ur ux uu uw Y9 ZA mH AAd mG mI dS AAf AAe Y6 Y3 Y5 dK l9 dJ List.flatMap_cons List.flatMap_nil mC dM mF mE dR dP dN dQ List.foldl_cons List.foldl_nil List.map_cons List.map_nil List.length_cons List.length_nil List.length_map List.length_append List.length_singleton List.append_assoc List.all_cons List.all_nil Option.map_some Option.bind_some List.getElem?_cons_zero List.getElem?_cons_succ List.take_succ_cons List.take_zero List.drop_succ_cons List.drop_zero List.append_nil List.nil_append List.cons_append List.size_toArray Bool.and_true Bool.true_and true_and and_true
variable{P:Program}{C:Cj}{K:AO}{fr:Fr}{b n i:Nat}{Q:Ds→St→Prop}
variable{ops:Array Oper}{al:Nat→Bool}{l:List Oper}{e:Bn}{h:AD}{bs:Nat}{ds:List Df}{ps:List (Nat×Nat)}{fps:List Fp}
def B8(C:Cj)(K:AO)(fr:Fr)(ops:Array Oper)(b n:Nat)(al:Nat→Bool)(ps:List (Nat×Nat))(fps:List Fp)(l:List Oper)(i:Nat)(Q:Ds→St→Prop):HI→Prop
 |.ok st fp=>Gp C K fr ops b n al ps (fps++[fp]) l (i+1) st Q
 |.f9 v st=>al i=true∧Dp fps ps=true∧Q (.f9 v) {st with base:=b+n}
 |.err _=>False
def DH(C:Cj)(K:AO)(fr:Fr)(ops:Array Oper)(b n:Nat)(al:Nat→Bool)(ps:List (Nat×Nat))(fps:List Fp)(l:List Oper)(i:Nat)(dst:Option Tmp)(e:Bn)(h:AD)(bs:Nat)(ds:List Df)(Q:Ds→St→Prop)(rd:List Id):Option CU→Prop
 |some x=>KF fr.ce x.δ=true∧Gp C K fr ops b n al ps (fps++[⟨some rd,some (x.δ.map (·.1))⟩]) l (i+1) ⟨Ch e dst x.v,h.puts x.δ,bs,ds⟩ Q
 |none=>False
theorem yA:Gp C K fr ops b n al ps fps [] i ⟨e,h,bs,ds⟩ Q=(Dp fps ps=true∧Q .normal ⟨e,h,b+n,ds⟩):=by
 simp only[Gp,DB,D6]
theorem Vo(o:Oper)(st:St):Gp C K fr ops b n al ps fps (o::l) i st Q=B8 C K fr ops b n al ps fps l i Q (CY C K fr ops ((b+i)::fr.π) o st):=by
 unfold Gp;simp only[DB,Ho];cases hs:CY C K fr ops ((b+i)::fr.π) o st with
 |err e=>rfl
 |f9 v st'=>
  simp only[B8];cases al i<;>simp
 |ok st' fp=>
  simp only[B8,Gp];cases hr:DB C K fr ops b al l (i+1) st' with
  |err e=>rfl
  |ok r=>
   obtain⟨⟨o,st2⟩,fps'⟩:=r;cases o<;>simp only[Wv,D9,F3,HM]
def DW(C:Cj)(K:AO)(fr:Fr)(ops:Array Oper)(b n:Nat)(al:Nat→Bool)(ps:List (Nat×Nat))(fps:List Fp)(l:List Oper)(i:Nat)(dst:Option Tmp)(op:Op)(st:St)(want:Bool)(Q:Ds→St→Prop):AV→Prop
 |.d (.bool t)=>match t==want with
  |true=>B8 C K fr ops b n al ps fps l i Q (A6 C K fr ((b+i)::fr.π) op dst st)
  |false=>Gp C K fr ops b n al ps (fps++[⟨some [],some []⟩]) l (i+1) {st with env:=Ch st.env dst (.ge [])} Q
 |.ge []=>Gp C K fr ops b n al ps (fps++[⟨some [],some []⟩]) l (i+1) {st with env:=Ch st.env dst (.ge [])} Q
 |_=>False
theorem yL(dst:Option Tmp)(op:Op)(ty:TypeId)(pos:String)(af:Array Edge)(j:Nat)(want:Bool):
 Gp C K fr ops b n al ps fps (⟨dst,op,ty,pos,af,some (j,want)⟩::l) i ⟨e,h,bs,ds⟩ Q=DW C K fr ops b n al ps fps l i dst op ⟨e,h,bs,ds⟩ want Q (QE ops e j):=by
 rw[Vo];simp only[CY,NA,QE];cases hj:ops[j]? with
 |none=>simp[LK,DW,B8]
 |some o=>
  cases hd:o.dst with
  |none=>simp[LK,DW,B8,hd]
  |some t=>
   simp only[I7,hd,Es,LK];cases hv:Bn.get e t with
   |d x=>cases x with
    |bool c=>
     simp only[DW];cases(c==want)<;>simp only[B8,A8]
    |_=>rfl
   |ge vs=>cases vs<;>simp only[DW,B8,A8]
   |_=>rfl
theorem nK(dst:Option Tmp)(op:Op)(st:St):DW C K fr ops b n al ps fps l i dst op st true Q (.d (.bool true))=B8 C K fr ops b n al ps fps l i Q (A6 C K fr ((b+i)::fr.π) op dst st):=rfl
theorem nG(dst:Option Tmp)(op:Op)(st:St):DW C K fr ops b n al ps fps l i dst op st false Q (.d (.bool false))=B8 C K fr ops b n al ps fps l i Q (A6 C K fr ((b+i)::fr.π) op dst st):=rfl
theorem nJ(dst:Option Tmp)(op:Op):DW C K fr ops b n al ps fps l i dst op ⟨e,h,bs,ds⟩ true Q (.d (.bool false))=Gp C K fr ops b n al ps (fps++[⟨some [],some []⟩]) l (i+1) ⟨Ch e dst (.ge []),h,bs,ds⟩ Q:=rfl
theorem nH(dst:Option Tmp)(op:Op):DW C K fr ops b n al ps fps l i dst op ⟨e,h,bs,ds⟩ false Q (.d (.bool true))=Gp C K fr ops b n al ps (fps++[⟨some [],some []⟩]) l (i+1) ⟨Ch e dst (.ge []),h,bs,ds⟩ Q:=rfl
theorem dx(dst:Option Tmp)(op:Op)(want:Bool):DW C K fr ops b n al ps fps l i dst op ⟨e,h,bs,ds⟩ want Q (.ge [])=Gp C K fr ops b n al ps (fps++[⟨some [],some []⟩]) l (i+1) ⟨Ch e dst (.ge []),h,bs,ds⟩ Q:=rfl
theorem XK{op:Op}(h1:t=true→DW C K fr ops b n al ps fps l i dst op st want Q (.d (.bool true)))(h2:t=false→DW C K fr ops b n al ps fps l i dst op st want Q (.d (.bool false))):DW C K fr ops b n al ps fps l i dst op st want Q (.d (.bool t)):=by
 cases t
 .exact h2 rfl
 .exact h1 rfl
theorem dw{op:Op} [Decidable p](h1:p→DW C K fr ops b n al ps fps l i dst op st want Q (.d (.bool true)))(h2: ¬p→DW C K fr ops b n al ps fps l i dst op st want Q (.d (.bool false))):DW C K fr ops b n al ps fps l i dst op st want Q (.d (.bool (decide p))):=by
 by_cases hp:p
 .rw[Ci hp];exact h1 hp
 .rw[By hp];exact h2 hp
theorem nI(dst:Option Tmp)(op:Op)(st:St)(t:Bool):DW C K fr ops b n al ps fps l i dst op st false Q (.d (.bool (!t)))=DW C K fr ops b n al ps fps l i dst op st true Q (.d (.bool t)):=by
 cases t<;>rfl
theorem qD(dst:Option Tmp)(op:Op)(ty:TypeId)(pos:String)(af:Array Edge)(st:St):
 Gp C K fr ops b n al ps fps (⟨dst,op,ty,pos,af,none⟩::l) i st Q=B8 C K fr ops b n al ps fps l i Q (A6 C K fr ((b+i)::fr.π) op dst st):=by
 rw[Vo];simp only[CY,NA]
theorem Bj(dst:Option Tmp)(op:Op)(r:Option CU):B8 C K fr ops b n al ps fps l i Q (DV fr op dst ⟨e,h,bs,ds⟩ r)=DH C K fr ops b n al ps fps l i dst e h bs ds Q (Ff e.get h.get op) r:=by
 cases r with
 |none=>rfl
 |some x=>
  simp only[DV,DH,KM,Bt,A8];cases hw:KF fr.ce x.δ with
  |false=>simp[B8]
  |true=>
   simp only[TY,MF,B8]
theorem Ma(dst:Option Tmp)(v:AV)(rd:List Id):DH C K fr ops b n al ps fps l i dst e h bs ds Q rd (some ⟨v,[]⟩)=Gp C K fr ops b n al ps (fps++[⟨some rd,some []⟩]) l (i+1) ⟨Ch e dst v,h,bs,ds⟩ Q:=by
 have:KF fr.ce []=true:=by cases hp:fr.ce<;>rfl
 simp only[DH,this,TY];rfl
theorem gd(dst:Option Tmp)(v:AV)(x:Id×Obj)(δ:AD)(rd:List Id):DH C K fr ops b n al ps fps l i dst e h bs ds Q rd (some ⟨v,x::δ⟩)=(KF fr.ce (x::δ)=true∧Gp C K fr ops b n al ps (fps++[⟨some rd,some (x.1::δ.map (·.1))⟩]) l (i+1) ⟨Ch e dst v,h.puts (x::δ),bs,ds⟩ Q):=rfl
section
variable(dst:Option Tmp)(ρ:List Nat)
theorem AEL(x:Operand):B8 C K fr ops b n al ps fps l i Q (A6 C K fr ρ (.move x) dst ⟨e,h,bs,ds⟩)=Gp C K fr ops b n al ps (fps++[⟨some [],some []⟩]) l (i+1) ⟨Ch e dst (ev e.get x),h,bs,ds⟩ Q:=by
 simp only[A6,evalOp,Bj,Ma,Ff]
theorem uh(x:Operand):B8 C K fr ops b n al ps fps l i Q (A6 C K fr ρ (.assign x) dst ⟨e,h,bs,ds⟩)=Gp C K fr ops b n al ps (fps++[⟨some [],some []⟩]) l (i+1) ⟨Ch e dst (ev e.get x),h,bs,ds⟩ Q:=by
 simp only[A6,evalOp,Bj,Ma,Ff]
theorem AEM(c x y:Operand):B8 C K fr ops b n al ps fps l i Q (A6 C K fr ρ (.pick c x y) dst ⟨e,h,bs,ds⟩)=DH C K fr ops b n al ps fps l i dst e h bs ds Q ([]) (OC (ev e.get c) (ev e.get x) (ev e.get y)):=by
 simp only[A6,evalOp,Bj,Ff,Dq,Op.operands,D5,Gt,D6]
theorem AAX(t:TypeId):B8 C K fr ops b n al ps fps l i Q (A6 C K fr ρ (.alloc t) dst ⟨e,h,bs,ds⟩)=DH C K fr ops b n al ps fps l i dst e h bs ds Q ([]) (J8 ρ (C.T t)):=by
 simp only[A6,evalOp,Bj,Ff,Dq,Op.operands,D5,Gt,D6]
theorem AGf(t:TypeId)(x:Operand):B8 C K fr ops b n al ps fps l i Q (A6 C K fr ρ (.box t x) dst ⟨e,h,bs,ds⟩)=DH C K fr ops b n al ps fps l i dst e h bs ds Q ([]) (Q9 ρ (ev e.get x) (C.T t)):=by
 simp only[A6,evalOp,Bj,Ff,Dq,Op.operands,D5,Gt,D6]
theorem AAZ(t:TypeId)(p:Array (Nat×Operand)):B8 C K fr ops b n al ps fps l i Q (A6 C K fr ρ (.build t p) dst ⟨e,h,bs,ds⟩)=DH C K fr ops b n al ps fps l i dst e h bs ds Q ([]) (J9 (EW e.get p) (C.T t)):=by
 simp only[A6,evalOp,Bj,Ff,Dq,Op.operands,D5,Gt,D6]
theorem XB(t:TypeId)(m:Nat)(p:Array (Nat×Operand)):B8 C K fr ops b n al ps fps l i Q (A6 C K fr ρ (.buildSlice t m p) dst ⟨e,h,bs,ds⟩)=DH C K fr ops b n al ps fps l i dst e h bs ds Q (Ff e.get h.get (.buildSlice t m p)) (Cn C.T h.get ρ m (EW e.get p) (C.T t)):=by
 simp only[A6,evalOp,Bj]
theorem AEK(t:TypeId)(a:Operand):B8 C K fr ops b n al ps fps l i Q (A6 C K fr ρ (.load t a) dst ⟨e,h,bs,ds⟩)=DH C K fr ops b n al ps fps l i dst e h bs ds Q (AF (ev e.get a)) (LR h.get (ev e.get a) (C.T t)):=by
 simp only[A6,evalOp,Bj,Ff,Dq,Op.operands,D5,Gt,D6]
theorem AAb(t:TypeId)(a x:Operand):B8 C K fr ops b n al ps fps l i Q (A6 C K fr ρ (.store t a x) dst ⟨e,h,bs,ds⟩)=DH C K fr ops b n al ps fps l i dst e h bs ds Q (AF (ev e.get a)++AF (ev e.get x)) (Iw h.get (ev e.get a) (ev e.get x) (C.T t)):=by
 simp only[A6,evalOp,Bj,Ff,Dq,Op.operands,D5,Gt,D6]
theorem dF(x:Operand):B8 C K fr ops b n al ps fps l i Q (A6 C K fr ρ (.nilCheck x) dst ⟨e,h,bs,ds⟩)=DH C K fr ops b n al ps fps l i dst e h bs ds Q ([]) (Gb (ev e.get x)):=by
 simp only[A6,evalOp,Bj,Ff,Dq,Op.operands,D5,Gt,D6]
theorem AAY(op:BinOp)(t:TypeId)(x y:Operand)(u:TypeId):B8 C K fr ops b n al ps fps l i Q (A6 C K fr ρ (.binOp op t x y u) dst ⟨e,h,bs,ds⟩)=DH C K fr ops b n al ps fps l i dst e h bs ds Q ([]) ((kc (Zj x||Zj y) op (ev e.get x) (ev e.get y) (C.T t)).map (⟨·,[]⟩)):=by
 simp only[A6,evalOp,Bj,Ff,Dq,Op.operands,D5,Gt,D6]
theorem AEN(op:UnOp)(t:TypeId)(x:Operand):B8 C K fr ops b n al ps fps l i Q (A6 C K fr ρ (.unOp op t x) dst ⟨e,h,bs,ds⟩)=DH C K fr ops b n al ps fps l i dst e h bs ds Q ([]) (ey op (ev e.get x)):=by
 simp only[A6,evalOp,Bj,Ff,Dq,Op.operands,D5,Gt,D6]
theorem dE(f:Fn)(first cap:Array Operand):B8 C K fr ops b n al ps fps l i Q (A6 C K fr ρ (.makeFunc f first cap) dst ⟨e,h,bs,ds⟩)=DH C K fr ops b n al ps fps l i dst e h bs ds Q ([]) (Ga f (first.toList.map (ev e.get)) (cap.toList.map (ev e.get))):=by
 simp only[A6,evalOp,Bj,Ff,Dq,Op.operands,D5,Gt,D6]
theorem Y0(t:TypeId)(x y:Operand):B8 C K fr ops b n al ps fps l i Q (A6 C K fr ρ (.makeSlice t x y) dst ⟨e,h,bs,ds⟩)=DH C K fr ops b n al ps fps l i dst e h bs ds Q ([]) (Cx C.T h.get ρ (ev e.get x) (ev e.get y) (C.T t)):=by
 simp only[A6,evalOp,Bj,Ff,Dq,Op.operands,D5,Gt,D6]
theorem Yy(t:TypeId)(x:Operand)(k:Nat):B8 C K fr ops b n al ps fps l i Q (A6 C K fr ρ (.fieldAddr t x k) dst ⟨e,h,bs,ds⟩)=DH C K fr ops b n al ps fps l i dst e h bs ds Q ([]) (Eg k (ev e.get x) (C.T t)):=by
 simp only[A6,evalOp,Bj,Ff,Dq,Op.operands,D5,Gt,D6]
theorem Yz(t:TypeId)(x y:Operand):B8 C K fr ops b n al ps fps l i Q (A6 C K fr ρ (.indexAddr t x y) dst ⟨e,h,bs,ds⟩)=DH C K fr ops b n al ps fps l i dst e h bs ds Q (AF (ev e.get x)++AF (ev e.get y)) (C9 C.T h.get (ev e.get x) (ev e.get y) (C.T t)):=by
 simp only[A6,evalOp,Bj,Ff,Dq,Op.operands,D5,Gt,D6]
theorem l8(x:Operand)(k:Nat):B8 C K fr ops b n al ps fps l i Q (A6 C K fr ρ (.extract x k) dst ⟨e,h,bs,ds⟩)=DH C K fr ops b n al ps fps l i dst e h bs ds Q ([]) (HV k (ev e.get x)):=by
 simp only[A6,evalOp,Bj,Ff,Dq,Op.operands,D5,Gt,D6]
theorem l7(f:Builtin)(az:Array Operand)(ts:Array TypeId):B8 C K fr ops b n al ps fps l i Q (A6 C K fr ρ (.call ⟨.builtin f,az,ts⟩) dst ⟨e,h,bs,ds⟩)=DH C K fr ops b n al ps fps l i dst e h bs ds Q (Ff e.get h.get (.call ⟨.builtin f,az,ts⟩)) (Gl C.T h.get ρ f (az.toList.map (ev e.get)) ts.toList):=by
 simp only[A6,KP,Bj]
theorem AAa(x:Operand):B8 C K fr ops b n al ps fps l i Q (A6 C K fr ρ (.panic x) dst ⟨e,h,bs,ds⟩)=B8 C K fr ops b n al ps fps l i Q (GL ⟨e,h,bs,ds⟩ (ev e.get x)):=rfl
def Db(C:Cj)(K:AO)(fr:Fr)(ops:Array Oper)(b n:Nat)(al:Nat→Bool)(ps:List (Nat×Nat))(fps:List Fp)(l:List Oper)(i:Nat)(az:List AV)(dst:Option Tmp)(e:Bn)(h:AD)(bs:Nat)(ds:List Df)(Q:Ds→St→Prop)(r:E (Ad×AD)):Prop:=
 B8 C K fr ops b n al ps fps l i Q (DZ fr az dst ⟨e,h,bs,ds⟩ r)
def YT(C:Cj)(K:AO)(fr:Fr)(ops:Array Oper)(b n:Nat)(al:Nat→Bool)(ps:List (Nat×Nat))(fps:List Fp)(l:List Oper)(i:Nat)(dst:Option Tmp)(ρ:List Nat)(e:Bn)(h:AD)(bs:Nat)(ds:List Df)(Q:Ds→St→Prop)(args:List AV):AV→Prop
 |fv=>B8 C K fr ops b n al ps fps l i Q (EK C K fr ρ fv args dst ⟨e,h,bs,ds⟩)
theorem AAc(f:Operand)(az:Array Operand)(ts:Array TypeId):B8 C K fr ops b n al ps fps l i Q (A6 C K fr ρ (.call ⟨.value f,az,ts⟩) dst ⟨e,h,bs,ds⟩)=YT C K fr ops b n al ps fps l i dst ρ e h bs ds Q (az.toList.map (ev e.get)) (ev e.get f):=rfl
def Lg(C:Cj)(K:AO)(fr:Fr)(ops:Array Oper)(b n:Nat)(al:Nat→Bool)(ps:List (Nat×Nat))(fps:List Fp)(l:List Oper)(i:Nat)(dst:Option Tmp)(ρ:List Nat)(e:Bn)(h:AD)(bs:Nat)(ds:List Df)(Q:Ds→St→Prop)(f:FuncId)(az:List AV)(m:Mode):Prop:=
 B8 C K fr ops b n al ps fps l i Q (Dh K fr ρ f az dst ⟨e,h,bs,ds⟩ m)
theorem tM(f:FuncId)(first cap args:List AV):YT C K fr ops b n al ps fps l i dst ρ e h bs ds Q args (.fn f first cap)=Lg C K fr ops b n al ps fps l i dst ρ e h bs ds Q f (first++args++cap) (C.mode f):=by
 simp only[YT,Lg,EK,BO]
def mY(C:Cj)(K:AO)(fr:Fr)(ops:Array Oper)(b n:Nat)(al:Nat→Bool)(ps:List (Nat×Nat))(fps:List Fp)(l:List Oper)(i:Nat)(dst:Option Tmp)(e:Bn)(h:AD)(bs:Nat)(ds:List Df)(Q:Ds→St→Prop)(f:FuncId)(az:List AV)(own:List Nat):Option (List AV)→Prop
 |some xs=>Db C K fr ops b n al ps fps l i az dst e h bs ds Q (K (.fn f) xs [] own false none)
 |none=>False
theorem eg(f:FuncId)(az:List AV)(hx:(Dy h.get az).isSome):Lg C K fr ops b n al ps fps l i dst ρ e h bs ds Q f az .auto=mY C K fr ops b n al ps fps l i dst e h bs ds Q f az [] (Dy h.get az):=by
 obtain⟨xs,hx⟩:=Is.1 hx;simp only[Lg,Dh,hx,BO,mY,Db]
theorem py(f:FuncId)(az:List AV)(hx:(Dy h.get az).isSome):Lg C K fr ops b n al ps fps l i dst ρ e h bs ds Q f az .own=mY C K fr ops b n al ps fps l i dst e h bs ds Q f az ρ (Dy h.get az):=by
 obtain⟨xs,hx⟩:=Is.1 hx;simp only[Lg,Dh,hx,BO,mY,Db]
theorem mZ(f:FuncId)(az:List AV)(own:List Nat)(xs:List AV):mY C K fr ops b n al ps fps l i dst e h bs ds Q f az own (some xs)=Db C K fr ops b n al ps fps l i az dst e h bs ds Q (BB K f xs own):=by
 simp only[mY,Db,RF]
theorem gn(az:List AV)(v:AV)(h':AD)(hv:flat v=true):Db C K fr ops b n al ps fps l i az dst e h bs ds Q (.ok (.ret v,h'))=Gp C K fr ops b n al ps (fps++[⟨some (Cz h.get (Az az)),some []⟩]) l (i+1) ⟨Ch e dst v,h,bs,ds⟩ Q:=by
 simp only[Db,DZ,A8,hv,B8]
theorem Vv(az:List AV)(v:AV)(h':AD)(hv:flat v=true):Db C K fr ops b n al ps fps l i az dst e h bs ds Q (.ok (.f9 v,h'))=(al i=true∧Dp fps ps=true∧Q (.f9 v) ⟨e,h,b+n,ds⟩):=by
 simp only[Db,DZ,hv,B8]
theorem qy(az:List AV)(v:AV)(h':AD)(x:Id×Obj)(hv:flat v=false)(hx:Bf v h'=some x):Db C K fr ops b n al ps fps l i az dst e h bs ds Q (.ok (.ret v,h'))=Gp C K fr ops b n al ps (fps++[⟨some (Cz h.get (Az az)),some [x.1]⟩]) l (i+1) ⟨Ch e dst v,x::h,bs,ds⟩ Q:=by
 simp only[Db,DZ,A8,hv,Hs,hx,An,B8]
theorem Vu(az:List AV)(v:AV)(h':AD)(hv:flat v=false)(hx:Bf v h'=none):Db C K fr ops b n al ps fps l i az dst e h bs ds Q (.ok (.ret v,h'))=(KF fr.ce (az.flatMap (mark h.get))=true∧Gp C K fr ops b n al ps (fps++[⟨some (Cz h.get (Az az)),some ((az.flatMap (mark h.get)).map (·.1)++h'.map (·.1))⟩]) l (i+1) ⟨Ch e dst v,h'++h.puts (az.flatMap (mark h.get)),bs,ds⟩ Q):=by
 simp only[Db,DZ,A8,hv,Hs,hx,An,Bt];cases hw:KF fr.ce (az.flatMap (mark h.get))<;>simp[B8]
end
variable{α:Type}{f:α→List Aa}{sz:Nat}{dst:Option Tmp}
theorem qt{l':List α}{j:Nat}{rd:List Id}(hj:j<l'.length)(hx: ∀x,l'[j]? =some x→DH C K fr ops b n al ps fps l i dst e h bs ds Q rd (S6 sz (some (f x)))):DH C K fr ops b n al ps fps l i dst e h bs ds Q rd (S6 sz (Option.map f l'[j]?)):=by
 have:=hx l'[j] (BY hj)
 rwa [BY hj]
theorem aj(fps:List Fp):Dp fps []=true:=rfl
def s9:Option Fp→Option Fp→Bool
 |some a,some c=>a.apart c
 |_,_=>true
theorem YH(a c:Fp):s9 (some a) (some c)=a.apart c:=rfl
theorem Xe(fps:List Fp)(i j:Nat)(l:List (Nat×Nat)):Dp fps ((i,j)::l)=(s9 fps[i]? fps[j]? &&Dp fps l):=by
 simp only[Dp,D4];rfl
theorem Yo(g:G):Cz g []=[]:=rfl
theorem kL(x:Option (List Id)):Abs.apart (some []) x=true:=by cases x<;>simp[Abs.apart]
theorem cR(x:Option (List Id)):Abs.apart x (some [])=true:=by
 unfold Abs.apart;split<;>first|rfl|simp_all
theorem Ud(g:G)(e:Nat→AV)(t:TypeId)(m:Nat)(p:Array (Nat×Operand)):Ff e g (.buildSlice t m p)=(p.toList.map (·.2)).flatMap fun y=>AF (ev e y):=by
 simp only[Ff,Dq,Op.operands]
theorem AFe(g:G)(e:Nat→AV)(az:Array Operand)(ts:Array TypeId):Ff e g (.call ⟨.builtin .len,az,ts⟩)=az.toList.flatMap fun y=>AF (ev e y):=by
 simp[Ff,Dq,Op.operands,Call.operands]
theorem rM(g:G)(e:Nat→AV)(az:Array Operand)(ts:Array TypeId):Ff e g (.call ⟨.builtin .append,az,ts⟩)=Cz g (az.toList.flatMap fun y=>AF (ev e y)):=by
 simp[Ff,Dq,Op.operands,Call.operands]
theorem AFf(g:G)(e:Nat→AV)(az:Array Operand)(ts:Array TypeId):Ff e g (.call ⟨.builtin .max,az,ts⟩)=[]:=rfl
theorem AFg(g:G)(e:Nat→AV)(az:Array Operand)(ts:Array TypeId):Ff e g (.call ⟨.builtin .min,az,ts⟩)=[]:=rfl
attribute [go_sem] Vv Vu
attribute [go_sem] yA yL nK nG nJ nH nI dx qD Ma gd AEL uh AEM AAX AGf AAZ XB AEK AAb dF AAY AEN dE Y0 Yy Yz l8 l7 AAa AAc tM eg py mZ gn aj YH Xe Yo kL cR Ud AFe rM AFf AFg Fp.apart List.flatMap_cons List.flatMap_nil
variable{P:Program}{C:Cj}{K:AO}{fr:Fr}{b n i:Nat}{Q:Ds→St→Prop}
variable{ops:Array Oper}{al:Nat→Bool}{l:List Oper}{e:Bn}{h:AD}{bs:Nat}{ds:List Df}
theorem is_iff: ∀{a b:Id},Id.is a b=true↔a=b:=fun{a b}=>⟨Id.is_eq,fun h=>by subst h;exact is_self a⟩
theorem AE{a b:Id}(h:a≠b):Id.is a b=false:=by
 cases hx:Id.is a b with
 |false=>rfl
 |true=>exact absurd (is_iff.1 hx) h
variable{ρ:Id}
theorem under_iff: ∀{id:Id},Id.under ρ id=true↔ρ<:+id
 |[]=>by
  simp only[Id.under,is_iff,List.suffix_nil]
 |m::l=>by
  rw[IT];unfold Id.under;cases hx:Id.is ρ (m::l)with
  |true=>simp[is_iff.1 hx]
  |false=>
   have:ρ≠m::l:=fun h=>by rw[is_iff.2 h]at hx;cases hx
   simp only[this,false_or];exact under_iff
theorem ED{id:Id}(h: ¬ρ<:+id):Id.under ρ id=false:=by
 cases hx:Id.under ρ id with
 |false=>rfl
 |true=>exact absurd (under_iff.1 hx) h
theorem get_put(h:AD)(id:Id)(o:Obj)(id':Id):AD.get (AD.put h id o) id'=if Id.is id id'=true then some o else AD.get h id':=by
 induction h with
 |nil=>simp only[jy,Bo]
 |cons p h ih=>
  obtain⟨k,x⟩:=p;rw[bH];by_cases hk:Id.is k id=true
  .rw[D0 hk,Bo,Bo];have:=is_iff.1 hk;subst this;split<;>rfl
  .rw[CI hk,Bo,Bo,ih];by_cases h1:Id.is k id'=true
   .rw[D0 h1,D0 h1];have:=is_iff.1 h1;subst this;rw[CI fun h2=>hk (is_iff.2 (is_iff.1 h2).symm)]
   .rw[CI h1,CI h1]
theorem Sr(q:Id→Bool)(h:AD)(id:Id)(hq:q id=true):AD.get (List.filter (fun p=>q p.1) h) id=AD.get h id:=by
 induction h with
 |nil=>rfl
 |cons p h ih=>
  obtain⟨k,x⟩:=p;rw[Bo,SP];by_cases hk:Id.is k id=true
  .have:=is_iff.1 hk;subst this;simp only[hq,F2,Bo,hk]
  .rw[CI hk,←ih];split
   .rw[Bo,CI hk]
   .rfl
theorem AU(ρ:List Nat)(h:AD)(id:Id)(hid:Id.under ρ id=false):AD.get (gc ρ h) id=AD.get h id:=by
 refine Sr (fun id=>match id with|0::l=> !Id.under ρ l|_=>true) h id ?_
 split
 .rename_i l;have: ¬ρ<:+l:=fun h1=>by
   have:=under_iff.2 (h1.trans (Ex 0 l));rw[hid]at this;cases this
  rw[ED this];rfl
 .rfl
def Uc(C:Cj)(K:AO)(fr:Fr)(ops:Array Oper)(b n:Nat)(al:Nat→Bool)(l:List Oper)(i:Nat)(dst:Option Tmp)(ρ:List Nat)(e:Bn)(h:AD)(bs:Nat)(ds:List Df)(Q:Ds→St→Prop):E (Ad×AD)→Prop
 |.ok (.ret v,h')=>Fw C K fr ops b n al l (i+1) ⟨Ch e dst v,gc ρ h',bs,ds⟩ Q
 |.ok (.f9 v,h')=>al i=true∧Q (.f9 v) ⟨e,gc ρ h',b+n,ds⟩
 |.err _=>False
theorem Qh(dst:Option Tmp)(ρ:List Nat)(r:E (Ad×AD)):BX C K fr ops b n al l i Q (ER ρ dst ⟨e,h,bs,ds⟩ r)=Uc C K fr ops b n al l i dst ρ e h bs ds Q r:=by
 cases r with
 |err l=>rfl
 |ok r=>
  obtain⟨o,h'⟩:=r;cases o<;>simp only[ER,A8,An,BX,Uc]
theorem yS(dst:Option Tmp)(ρ:List Nat)(v:AV)(h':AD):Uc C K fr ops b n al l i dst ρ e h bs ds Q (.ok (.ret v,h'))=Fw C K fr ops b n al l (i+1) ⟨Ch e dst v,gc ρ h',bs,ds⟩ Q:=rfl
theorem yR(dst:Option Tmp)(ρ:List Nat)(v:AV)(h':AD):Uc C K fr ops b n al l i dst ρ e h bs ds Q (.ok (.f9 v,h'))=(al i=true∧Q (.f9 v) ⟨e,gc ρ h',b+n,ds⟩):=rfl
theorem p8(dst:Option Tmp)(ρ:List Nat)(f:FuncId)(az:List AV):Lh C K fr ops b n al l i dst ρ e h bs ds Q f az .raw=Uc C K fr ops b n al l i dst ρ e h bs ds Q (K (.fn f) az h ρ true fr.ce):=by
 simp only[Lh,Dh,Qh]
theorem AZ{Post:Ad→AD→Prop}{ρ:List Nat}{q:E (Ad×AD)}(hk: ∃o h',q=.ok (o,h')∧Post o h')(hn: ∀o h',Post o h'→Uc C K fr ops b n al l i dst ρ e h bs ds Q (.ok (o,h'))):Uc C K fr ops b n al l i dst ρ e h bs ds Q q:=by
 obtain⟨o,h',e,hp⟩:=hk;rw[e];exact hn o h' hp
def y8(v:AV):Option AV→AV
 |some u=>u
 |none=>v
theorem y9(g:G):Mm g []=[]:=rfl
theorem sF(g:G)(v:AV)(vs:List AV):Mm g (v::vs)=y8 v (Ej g v)::Mm g vs:=by
 simp only[Mm,Cs];cases Ej g v<;>rfl
theorem ir(v u:AV):y8 v (some u)=u:=rfl
theorem iq(v:AV):y8 v none=v:=rfl
theorem eo(dst:Option Tmp)(ρ:List Nat)(f:FuncId)(az:List AV)(hx:(Dy h.get az).isNone):Lh C K fr ops b n al l i dst ρ e h bs ds Q f az .auto=(KF fr.ce (az.flatMap (mark h.get))=true∧Uc C K fr ops b n al l i dst ρ e h bs ds Q (K (.fn f) (Mm h.get az) (h.puts (az.flatMap (mark h.get))) ρ true fr.ce)):=by
 have hx:Dy h.get az=none:=by simpa using hx
 simp only[Lh,Dh,hx,FK,BO,Bt,An];cases hw:KF fr.ce (az.flatMap (mark h.get))with
 |true=>simp only[Qh,TY]
 |false=>simp[BX]
def roP(C:Cj)(K:AO)(fr:Fr)(ops:Array Oper)(b n:Nat)(al:Nat→Bool)(l:List Oper)(i:Nat)(dst:Option Tmp)(e:Bn)(h:AD)(bs:Nat)(ds:List Df)(Q:Ds→St→Prop):E (Ad×AD)→Prop
 |.ok (.ret v,_)=>flat v=true∧Fw C K fr ops b n al l (i+1) ⟨Ch e dst v,h,bs,ds⟩ Q
 |.ok (.f9 v,_)=>flat v=true∧al i=true∧Q (.f9 v) ⟨e,h,b+n,ds⟩
 |.err _=>False
theorem xc(dst:Option Tmp)(ρ:List Nat)(f:FuncId)(az:List AV)(hx:(Dy h.get az).isNone):Lh C K fr ops b n al l i dst ρ e h bs ds Q f az .ro=roP C K fr ops b n al l i dst e h bs ds Q (K (.fn f) (Mm h.get az) (h.puts (az.flatMap (mark h.get))) ρ true (some ρ)):=by
 have hx:Dy h.get az=none:=by simpa using hx
 simp only[Lh,Dh,hx,FK,BO,Bt,An];cases K (.fn f) (Mm h.get az) (h.puts (az.flatMap (mark h.get))) ρ true (some ρ)with
 |err l=>rfl
 |ok r=>
  obtain⟨o,h'⟩:=r;cases o<;>simp only[Pg,roP,A8]<;>split<;>simp_all [BX]
theorem AEg(g:G)(x:Aa):mark g (.d x)=[]:=rfl
theorem pr(g:G):mark g .co=[]:=rfl
theorem xX(g:G):mark g .emp=[]:=rfl
theorem xZ(g:G)(id:Id)(off:Nat):mark g (.ptr id off)=[]:=rfl
theorem ABN(g:G)(f:FuncId)(a c:List AV):mark g (.fn f a c)=[]:=rfl
theorem ABO(g:G)(id:Id):mark g (.mp id)=[]:=rfl
theorem xY(g:G)(id:Id)(off m:Nat):mark g (.eq id off m)=Fj g (.eq id off m):=by simp only[mark,Kp,D5,Gt,D6]
def xT(g:G):List AV→AD
 |[]=>[]
 |v::vs=>Fj g v++xT g vs
theorem xV(g:G)(cs:List AV):mark g (.agg cs)=xT g cs:=by
 simp only[mark,Kp];induction cs with
 |nil=>rfl
 |cons v vs ih=>rw[D5,ih];rfl
theorem ABL(g:G)(x:Aa):Fj g (.d x)=[]:=rfl
theorem eY(g:G):Fj g .co=[]:=rfl
theorem pg(g:G):Fj g .emp=[]:=rfl
theorem pj(g:G)(id:Id)(off:Nat):Fj g (.ptr id off)=[]:=rfl
theorem sG(n:Nat)(ρ:Id):Id.under (n::ρ) []=false:=ED (by simp)
theorem iu(ρ:Id)(n:Nat)(l:Id):Id.under ρ (n::l)=if Id.is ρ (n::l)=true then true else Id.under ρ l:=by
 conv=>lhs;unfold Id.under
 cases Id.is ρ (n::l)<;>rfl
theorem cA(n:Nat)(ρ:Id):Id.under (n::ρ) ρ=false:=ED fun h=>by
 have:=h.length_le;simp at this;omega
theorem AG{id:Id}(h:Id.under ρ id=false)(n:Nat):Id.under (n::ρ) id=false:=ED fun h1=>by
 rw[under_iff.2 ((Ex n ρ).trans h1)]at h;cases h
theorem AH{ρ id:Id}(h:Id.under ρ id=false)(a n:Nat):Id.is (a::n::ρ) id=false:=AE fun h1=>by
 subst h1;rw[under_iff.2 ((Ex n ρ).trans (Ex a _))]at h;cases h
theorem Ak{ρ id:Id}(h:Id.under ρ id=false)(a n:Nat):Id.is id (a::n::ρ)=false:=AE fun h1=>by
 subst h1;rw[under_iff.2 ((Ex n ρ).trans (Ex a _))]at h;cases h
theorem AEY(ρ:List Nat):gc ρ []=[]:=rfl
theorem AA4(ρ:List Nat)(l:Id)(o:Obj)(h:AD):gc ρ ((0::l,o)::h)=if Id.under ρ l=true then gc ρ h else(0::l,o)::gc ρ h:=by
 simp only[gc,SP];cases Id.under ρ l<;>rfl
theorem AEZ(ρ:List Nat)(l:Id)(o:Obj)(h:AD):gc ρ ((1::l,o)::h)=(1::l,o)::gc ρ h:=rfl
attribute [go_sem] AEY AA4 AEZ
def Wz(C:Cj)(K:AO)(fr:Fr)(ops:Array Oper)(b n:Nat)(al:Nat→Bool)(l:List Oper)(i:Nat)(dst:Option Tmp)(e:Bn)(h:AD)(bs:Nat)(ds:List Df)(Q:Ds→St→Prop)(az:List AV):AV→Prop
 |.fn g [] []=>Fw C K fr ops b n al l (i+1) ⟨Ch e dst .undef,h,bs,.call g az::ds⟩ Q
 |_=>False
theorem bp(dst:Option Tmp)(f:Operand)(az:Array Operand)(ts:Array TypeId)(hr:fr.wp=false):BX C K fr ops b n al l i Q (Hl fr e.get ⟨.value f,az,ts⟩ dst ⟨e,h,bs,ds⟩)=Wz C K fr ops b n al l i dst e h bs ds Q (az.toList.map (ev e.get)) (ev e.get f):=by
 simp only[Hl,hr];cases ev e.get f with
 |fn g a c=>
  cases a with
  |nil=>cases c<;>simp only[Wz,BX]
  |cons x l=>simp only[Wz,BX]
 |_=>rfl
theorem lV(dst:Option Tmp)(az:List AV)(g:FuncId):Wz C K fr ops b n al l i dst e h bs ds Q az (.fn g [] [])=Fw C K fr ops b n al l (i+1) ⟨Ch e dst .undef,h,bs,.call g az::ds⟩ Q:=rfl
def eE(C:Cj)(ce:Option (List Nat))(l:List Df)(h:AD)(id:Id):Option (List AV)→E (Option AV×AD)
 |some cs=>DD C ce l none (h.put id (.box cs))
 |none=>.err [20]
def XQ(C:Cj)(ce:Option (List Nat))(l:List Df)(h:AD)(id:Id)(off:Nat)(k:IntKind)(m:Int):Option Obj→E (Option AV×AD)
 |some (.box cs)=>eE C ce l h id (CG cs off [.d (.int k m)])
 |_=>.err [21]
variable{ce:Option (List Nat)}{l:List Df}{h:AD}{off:Nat}{k:IntKind}{m:Int}
theorem PH{f:FuncId}{t:TypeId}{id:Id}(hc:C.pp f=some t)(hw:KF ce [(id,.box [])]=true):DD C ce (.call f [.ptr id off]::l) (some (.iface t (.agg [.d (.int k m)]))) h=XQ C ce l h id off k m (h.get id):=by
 simp only[DD,hc,hw,Nat.beq_refl,MD,XQ,eE];cases h.get id with
 |none=>rfl
 |some o=>cases o with
  |box cs=>simp only;cases CG cs off [.d (.int k m)]<;>rfl
  |_=>rfl
theorem eF{f:FuncId}{id:Id}(hc:(C.pp f).isSome=true):DD C ce (.call f [.ptr id off]::l) none h=DD C ce l none h:=by
 obtain⟨t,ht⟩:=Is.1 hc;simp only[DD,ht]
attribute [go_sem] bp lV XQ eE PH eF
attribute [go_sem] LP IE Ga HX Hr IC appMix
attribute [go_sem] AU sG iu cA
attribute [go_sem] get_put yS yR p8 y9 sF ir iq eo Option.isNone_some Option.isNone_none xc AEg pr xX xZ ABN ABO xV xT ABL eY pg pj
def vN:Option (List Aa)→Option (List (List Aa))→Option (List (List Aa))
 |some x,some xs=>some (x::xs)
 |_,_=>none
theorem ZR(x:List Aa)(xs:List (List Aa)):vN (some x) (some xs)=some (x::xs):=rfl
theorem mX(g:G):C6 g []=some []:=rfl
theorem So(g:G)(v:List AV)(vs:List (List AV)):C6 g (v::vs)=vN (C2 g v) (C6 g vs):=by
 simp only[C6];cases C2 g v<;>cases C6 g vs<;>rfl
def vI:Option Aa→Option (List Aa)→Option (List Aa)
 |some x,some xs=>some (x::xs)
 |_,_=>none
theorem ZM(x:Aa)(xs:List Aa):vI (some x) (some xs)=some (x::xs):=rfl
theorem mR(g:G):C2 g []=some []:=rfl
theorem Sm(g:G)(v:AV)(vs:List AV):C2 g (v::vs)=vI (FQ g v) (C2 g vs):=by
 simp only[C2];cases FQ g v<;>cases C2 g vs<;>rfl
def vP(off m:Nat):Option Obj→Option Aa
 |some (.d9 _ es)=>(Js es off m).map .be
 |some (.i5 _ es)=>(Js es off m).map .be
 |_=>none
theorem vH(g:G)(id:Id)(off m:Nat):FQ g (.eq id off m)=vP off m (g id):=by
 simp only[FQ];cases g id with
 |none=>rfl
 |some o=>cases o<;>rfl
theorem dg(off m sz:Nat)(es:List (List Aa)):vP off m (some (.d9 sz es))=(Js es off m).map .be:=rfl
theorem mb(off m sz:Nat)(es:List (List Aa)):vP off m (some (.i5 sz es))=(Js es off m).map .be:=rfl
theorem Sn(g:G)(l:List Aa):C2 g (l.map .d)=some l:=by
 induction l with
 |nil=>rfl
 |cons x l ih=>rw[Cs,Sm,ih];rfl
theorem JY(g:G)(l:List (List Aa)):C6 g (l.map (·.map .d))=some l:=by
 induction l with
 |nil=>rfl
 |cons x l ih=>rw[Cs,So,ih,Sn];rfl
theorem ed(g:G):B5 g []=[]:=rfl
theorem Q3(g:G)(v:AV)(vs:List AV):B5 g (v::vs)=J5 g v++B5 g vs:=rfl
theorem ABM(g:G)(x:Aa):J5 g (.d x)=[]:=rfl
theorem ec(g:G):J5 g .co=[]:=rfl
theorem pn(g:G):J5 g .emp=[]:=rfl
def xU(id:Id):Option Obj→AD
 |some (.d9 sz es)=>[(id,.i5 sz es)]
 |_=>[]
theorem po(g:G)(id:Id)(off m:Nat):J5 g (.eq id off m)=xU id (g id):=by
 simp only[J5];cases g id with
 |none=>rfl
 |some o=>cases o<;>rfl
theorem ee(id:Id)(sz:Nat)(es:List (List Aa)):xU id (some (.d9 sz es))=[(id,.i5 sz es)]:=rfl
theorem pq(id:Id)(sz:Nat)(es:List (List Aa)):xU id (some (.i5 sz es))=[]:=rfl
theorem Q4(g:G)(l:List Aa):B5 g (l.map .d)=[]:=by
 induction l with
 |nil=>rfl
 |cons x l ih=>rw[Cs,Q3,ih];rfl
theorem IA(g:G)(l:List (List Aa)):(l.map (·.map AV.d)).flatMap (B5 g)=[]:=by
 induction l with
 |nil=>rfl
 |cons x l ih=>rw[Cs,D5,ih,Q4];rfl
def FB(sz:Nat):List (List AV)→Bool
 |[]=>true
 |e::es=>decide (e.length=sz)&&(e.all AV.isCell&&FB sz es)
theorem bh(sz:Nat):FB sz []=true:=by simp only[FB]
theorem Iy(sz:Nat)(e:List AV)(es:List (List AV)):FB sz (e::es)=(decide (e.length=sz)&&(e.all AV.isCell&&FB sz es)):=by simp only[FB]
theorem OM(sz:Nat)(es:List (List AV)):(es.all fun e=>e.length==sz&&e.all AV.isCell)=FB sz es:=by
 induction es with
 |nil=>rfl
 |cons e es ih=>rw[D4,ih,Iy,Bool.and_assoc];rfl
theorem ct(l:List Aa):(l.map AV.d).all AV.isCell=true:=by
 induction l with
 |nil=>rfl
 |cons x l ih=>rw[Cs,D4,ih];rfl
def AFU(newId:Id)(sz n:Nat)(marks:AD):Option (List (List Aa))→Option CU
 |some ds=>some ⟨.eq (1::newId) 0 n,marks++[(1::newId,.d9 sz ds)]⟩
 |none=>none
def xh(g:G)(newId:Id)(sz:Nat)(es:List (List AV)):Bool→Option CU
 |true=>some ⟨.eq (1::newId) 0 es.length,[(1::newId,.arr sz es)]⟩
 |false=>AFU newId sz es.length (es.flatMap (B5 g)) (C6 g es)
def AFT(g:G)(newId:Id)(sz:Nat)(mix:Bool)(es:List (List AV)):Bool→Option CU
 |true=>xh g newId sz es mix
 |false=>none
theorem Vf(g:G)(newId:Id)(j:TI)(es:List (List AV)):newArr g newId j es=AFT g newId j.size j.mix es (FB j.size es&&decide (0<j.size)&&decide (es.length≤BD)):=by
 unfold newArr;rw[OM,Gx,Wj];cases(FB j.size es&&decide (0<j.size)&&decide (es.length≤BD))with
 |false=>rfl
 |true=>
  simp only[AFT];cases j.mix with
  |true=>rfl
  |false=>simp only[xh];cases C6 g es<;>rfl
theorem Ve(g:G)(newId:Id)(sz:Nat)(mix:Bool)(es:List (List AV)):AFT g newId sz mix es true=xh g newId sz es mix:=rfl
theorem qB(g:G)(newId:Id)(sz:Nat)(es:List (List AV)):xh g newId sz es true=some ⟨.eq (1::newId) 0 es.length,[(1::newId,.arr sz es)]⟩:=rfl
theorem TA(g:G)(newId:Id)(sz:Nat)(es:List (List AV)):xh g newId sz es false=AFU newId sz es.length (es.flatMap (B5 g)) (C6 g es):=rfl
theorem Vg(newId:Id)(sz n:Nat)(marks:AD)(ds:List (List Aa)):AFU newId sz n marks (some ds)=some ⟨.eq (1::newId) 0 n,marks++[(1::newId,.d9 sz ds)]⟩:=rfl
def cY(g:G)(newId:Id)(j:TI)(n:Nat):Option (List AV)→Option CU
 |some cs=>if n*j.size≤16777216∧j.zero.length=j.size then newArr g newId j (G0 j.size n cs)else none
 |none=>none
theorem UK(g:G)(newId:Id)(j:TI):Gy g newId 0 [] j=some ⟨.emp,[]⟩:=rfl
theorem UJ(g:G)(newId:Id)(n:Nat)(ps:List (Nat×AV))(j:TI):Gy g newId (n+1) ps j=cY g newId j (n+1) (Cr (fun k=>some (k*j.size,j.size)) ((List.replicate (n+1) j.zero).flatten) ps):=by
 unfold Gy;cases Cr (fun k=>some (k*j.size,j.size)) ((List.replicate (n+1) j.zero).flatten) ps with
 |none=>rfl
 |some cs=>
  simp only[cY,Gx];have e:(2 ^ 24:Nat)=16777216:=by decide
  rw[e];by_cases h1:(n+1)*j.size≤16777216
  .by_cases h2:j.zero.length=j.size
   .simp[h1,h2]
   .have h3:(j.zero.length==j.size)=false:=by simpa using h2
    simp[h1,h2,h3]
  .simp[h1]
theorem YS(g:G)(newId:Id)(j:TI)(n:Nat)(cs:List AV):cY g newId j n (some cs)=if n*j.size≤16777216∧j.zero.length=j.size then newArr g newId j (G0 j.size n cs)else none:=rfl
def tC(s:AV):Option CU:=match s with
 |.co=>some ⟨.co,[]⟩
 |.emp=>some ⟨.emp,[]⟩
 |.eq id off n=>some ⟨.eq id off n,[]⟩
 |_=>none
theorem kN:tC .co=some ⟨.co,[]⟩:=rfl
theorem tD:tC .emp=some ⟨.emp,[]⟩:=rfl
theorem YM(id:Id)(off n:Nat):tC (.eq id off n)=some ⟨.eq id off n,[]⟩:=rfl
def AD6(g:G)(newId:Id)(j:TI)(s:AV)(src:List (List AV)):Bool→Option CU
 |true=>appTo g newId j s src
 |false=>none
def UG(g:G)(newId:Id)(j:TI)(s:AV):Option (List (List AV))→Option CU
 |none=>none
 |some []=>tC s
 |some (e::es)=>AD6 g newId j s (e::es) (FB j.size (e::es)&&decide ((e::es).length≤BD)&&decide (0<j.size))
theorem cU(g:G)(newId:Id)(j:TI)(s x:AV):appendV g newId j s x=UG g newId j s (Du g x):=by
 unfold appendV;cases Du g x with
 |none=>rfl
 |some src=>
  cases src with
  |nil=>cases s<;>rfl
  |cons e es=>
   simp only[UG,←OM,Gx,Wj];cases((e::es).all (fun e=>e.length==j.size&&e.all AV.isCell)&&decide ((e::es).length≤BD)&&decide (0<j.size))<;>rfl
theorem YJ(g:G)(newId:Id)(j:TI)(s:AV):UG g newId j s (some [])=tC s:=rfl
theorem Ur(g:G)(newId:Id)(j:TI)(s:AV)(e:List AV)(es:List (List AV)):UG g newId j s (some (e::es))=AD6 g newId j s (e::es) (FB j.size (e::es)&&decide ((e::es).length≤BD)&&decide (0<j.size)):=rfl
theorem Uq(g:G)(newId:Id)(j:TI)(s:AV)(src:List (List AV)):AD6 g newId j s src true=appTo g newId j s src:=rfl
def YK(newId:Id)(id:Id)(off n sz:Nat)(es:List (List Aa))(marks:AD)(ds:List (List Aa)):Option (List (List Aa))→Option CU
 |some es'=>some ⟨.eq id off (n+ds.length),marks++[(id,.d9 sz es')]⟩
 |none=>if off=0∧n+ds.length≤BD then some ⟨.eq (1::newId) 0 (n+ds.length),marks++[(id,.i5 0 []),(1::newId,.d9 sz (es.take n++ds))]⟩else none
def AD7(newId:Id)(id:Id)(off n sz:Nat)(es:List (List Aa))(marks:AD):Option (List (List Aa))→Option CU
 |some ds=>if MY id marks=true then YK newId id off n sz es marks ds (CG es (off+n) ds)else none
 |none=>none
theorem SD(g:G)(newId:Id)(id:Id)(off n sz:Nat)(es:List (List Aa))(src:List (List AV)):appIn g newId id off n sz es src=AD7 newId id off n sz es (src.flatMap (B5 g)) (C6 g src):=by
 unfold appIn AD7;cases C6 g src with
 |none=>rfl
 |some ds=>
  cases MY id (src.flatMap (B5 g))with
  |false=>rfl
  |true=>
   simp only[F2,YK];cases CG es (off+n) ds with
   |some es'=>rfl
   |none=>
    simp only[Hg,Gx];by_cases h1:off=0<;>by_cases h2:n+ds.length≤BD<;>simp[h1,h2]
theorem P0(newId:Id)(id:Id)(off n sz:Nat)(es:List (List Aa))(marks:AD)(ds:List (List Aa)):AD7 newId id off n sz es marks (some ds)=if MY id marks=true then YK newId id off n sz es marks ds (CG es (off+n) ds)else none:=rfl
theorem SC(newId:Id)(id:Id)(off n sz:Nat)(es:List (List Aa))(marks:AD)(ds es':List (List Aa)):YK newId id off n sz es marks ds (some es')=some ⟨.eq id off (n+ds.length),marks++[(id,.d9 sz es')]⟩:=rfl
theorem SB(newId:Id)(id:Id)(off n sz:Nat)(es:List (List Aa))(marks:AD)(ds:List (List Aa)):YK newId id off n sz es marks ds none=if off=0∧n+ds.length≤BD then some ⟨.eq (1::newId) 0 (n+ds.length),marks++[(id,.i5 0 []),(1::newId,.d9 sz (es.take n++ds))]⟩else none:=rfl
theorem QQ(id:Id):MY id []=true:=by simp[MY]
def tA(g:G)(newId:Id)(j:TI)(id:Id)(off n:Nat)(src:List (List AV)):Option Obj→Option CU
 |some (.d9 sz es)=>if sz=j.size∧off+n≤es.length then appIn g newId id off n sz es src else none
 |some (.arr sz es)=>if sz=j.size∧off+n≤es.length then appMix newId id off n sz es src else none
 |_=>none
theorem SE(g:G)(newId:Id)(j:TI)(src:List (List AV)):appTo g newId j .co src=newArr g newId j src:=rfl
theorem kO(g:G)(newId:Id)(j:TI)(src:List (List AV)):appTo g newId j .emp src=newArr g newId j src:=rfl
theorem P2(g:G)(newId:Id)(j:TI)(id:Id)(off n:Nat)(src:List (List AV)):appTo g newId j (.eq id off n) src=tA g newId j id off n src (g id):=by
 simp only[appTo];cases g id with
 |none=>rfl
 |some o=>
  cases o with
  |d9 sz es=>
   simp only[tA,Hg,Gx];by_cases h1:sz=j.size<;>by_cases h2:off+n≤es.length<;>simp[h1,h2]
  |arr sz es=>
   simp only[tA,Hg,Gx];by_cases h1:sz=j.size<;>by_cases h2:off+n≤es.length<;>simp[h1,h2]
  |_=>rfl
theorem P1(g:G)(newId:Id)(j:TI)(id:Id)(off n:Nat)(src:List (List AV))(sz:Nat)(es:List (List Aa)):tA g newId j id off n src (some (.d9 sz es))=if sz=j.size∧off+n≤es.length then appIn g newId id off n sz es src else none:=rfl
theorem tB(g:G)(newId:Id)(j:TI)(id:Id)(off n:Nat)(src:List (List AV))(sz:Nat)(es:List (List AV)):tA g newId j id off n src (some (.arr sz es))=if sz=j.size∧off+n≤es.length then appMix newId id off n sz es src else none:=rfl
theorem ll(g:G)(es:List (List Aa)):Du g (.d (.be es))=some (es.map (·.map .d)):=rfl
theorem dB(g:G):Du g .co=some []:=rfl
theorem lj(g:G):Du g .emp=some []:=rfl
def AC0(off n:Nat):Option Obj→Option (List (List AV))
 |some (.d9 _ es)=>Js (es.map (·.map .d)) off n
 |some (.i5 _ es)=>Js (es.map (·.map .d)) off n
 |some (.arr _ es)=>Js es off n
 |_=>none
theorem ln(g:G)(id:Id)(off n:Nat):Du g (.eq id off n)=AC0 off n (g id):=by
 simp only[Du];cases g id with
 |none=>rfl
 |some o=>cases o<;>rfl
theorem rj(off n sz:Nat)(es:List (List Aa)):AC0 off n (some (.d9 sz es))=Js (es.map (·.map .d)) off n:=rfl
theorem yg(off n sz:Nat)(es:List (List Aa)):AC0 off n (some (.i5 sz es))=Js (es.map (·.map .d)) off n:=rfl
theorem yf(off n sz:Nat)(es:List (List AV)):AC0 off n (some (.arr sz es))=Js es off n:=rfl
def xM(ok:Bool)(r:Option AV):Option TI→Option CU
 |some j=>LL ok r j
 |none=>none
def jq(T:TypeId→Option TI)(i:TI)(ok:Bool):Option (Option AV)→Option CU
 |some r=>xM ok r (T i.elem)
 |none=>none
def jo(T:TypeId→Option TI)(x:Aa)(ok:Bool)(i:TI):Option Obj→Option CU
 |some (.map es)=>jq T i ok (C4 es x)
 |_=>none
def jm(T:TypeId→Option TI)(g:G)(id:Id)(x:Aa)(ok:Bool)(i:TI):Bool→Option CU
 |true=>jo T x ok i (g id)
 |false=>none
def xJ(T:TypeId→Option TI)(g:G)(id:Id)(x:Aa)(ok:Bool)(i:TI):TK→Option TI→Option CU
 |.map,some kt=>jm T g id x ok i (J3 kt.kind x)
 |_,_=>none
theorem Z8(T:TypeId→Option TI)(g:G)(id:Id)(x:Aa)(ok:Bool)(i:TI):FW T g (.mp id) (.d x) ok (some i)=xJ T g id x ok i i.kind (T i.key):=by
 unfold FW;simp only[L6];cases hk:i.kind with
 |map=>
  cases T i.key with
  |none=>rfl
  |some kt=>
   simp only[xJ];cases J3 kt.kind x with
   |false=>rfl
   |true=>
    simp only[jm];cases g id with
    |none=>rfl
    |some o=>
     cases o with
     |map es=>
      simp only[jo];cases C4 es x with
      |none=>rfl
      |some r=>
       simp only[jq];cases T i.elem<;>rfl
     |_=>rfl
 |_=>rfl
theorem pR(T:TypeId→Option TI)(g:G)(id:Id)(x:Aa)(ok:Bool)(i kt:TI):xJ T g id x ok i .map (some kt)=jm T g id x ok i (J3 kt.kind x):=rfl
theorem eJ(T:TypeId→Option TI)(g:G)(id:Id)(x:Aa)(ok:Bool)(i:TI):jm T g id x ok i true=jo T x ok i (g id):=rfl
theorem pS(T:TypeId→Option TI)(x:Aa)(ok:Bool)(i:TI)(es:List (Aa×AV)):jo T x ok i (some (.map es))=jq T i ok (C4 es x):=rfl
theorem eK(T:TypeId→Option TI)(ok:Bool)(i:TI)(r:Option AV):jq T i ok (some r)=xM ok r (T i.elem):=rfl
theorem eN(ok:Bool)(r:Option AV)(j:TI):xM ok r (some j)=LL ok r j:=rfl
theorem xK(v:AV)(j:TI):LL false (some v) j=some ⟨v,[]⟩:=by
 unfold LL;cases Fk j.agg j.zero<;>rfl
def xN(ok:Bool):Option AV→Option CU
 |some z=>match ok with
  |true=>some ⟨.ge [z,.d (.bool false)],[]⟩
  |false=>some ⟨z,[]⟩
 |none=>none
theorem xL(ok:Bool)(j:TI):LL ok none j=xN ok (Fk j.agg j.zero):=by
 unfold LL;cases Fk j.agg j.zero<;>cases ok<;>rfl
theorem ABI(z:AV):xN true (some z)=some ⟨.ge [z,.d (.bool false)],[]⟩:=rfl
theorem ABH(z:AV):xN false (some z)=some ⟨z,[]⟩:=rfl
theorem eT(x:Aa):C4 [] x=some none:=rfl
attribute [go_sem] Z8 pR eJ pS eK eN xK xL ABI ABH J3 eT
variable{g:G}
theorem Th{l:List α}(hf: ∀a,(f a).length=sz)(h0:0≤m)(hm:m≤l.length):ET g .slice sz (.d (.be (l.map f))) none (some (.d (.int k m))) none=some (.d (.be ((l.take m.toNat).map f))):=by
 have hb:EH none (some (.d (.int k m))) none (l.map f).length=some (0,m.toNat,none):=by
  simp[EH,HQ,IZ,h0]
 have he:Mz sz (l.map f)=true:=by
  cases l with
  |nil=>rfl
  |cons a l=>simp only[Cs,Mz,Hg,Ap];exact hf a
 show Qe sz (l.map f) (EH none (some (.d (.int k m))) none (l.map f).length)=_;rw[hb];have hr:Nat.ble m.toNat (l.map f).length=true:=by rw[Gx];simp;omega
 simp only[Qe,hr,he,NO,List.drop_zero,Nat.sub_zero,List.map_take]
def stP(id:Id)(off:Nat)(cells:List AV):Option Obj→Option CU
 |some (.box cs)=>(CG cs off cells).map fun cs'=>⟨.undef,[(id,.box cs')]⟩
 |_=>none
def iZ(id:Id)(k off sz:Nat)(es:List (List Aa))(marks:AD):Option (List Aa)→Option (List Aa)→Option CU
 |some e,some ds=>if MY id marks=true then(CG e off ds).map fun e'=>⟨.undef,marks++[(id,.d9 sz (es.set k e'))]⟩else none
 |_,_=>none
def stA(id:Id)(k off sz:Nat)(es:List (List AV))(cells:List AV):Option (List AV)→Option CU
 |some e=>(CG e off cells).map fun e'=>⟨.undef,[(id,.arr sz (es.set k e'))]⟩
 |none=>none
def stE(g:G)(id:Id)(k off:Nat)(cells:List AV):Option Obj→Option CU
 |some (.d9 sz es)=>iZ id k off sz es (B5 g cells) es[k]? (C2 g cells)
 |some (.arr sz es)=>stA id k off sz es cells es[k]?
 |_=>none
theorem r8(g:G)(i:TI)(id:Id)(off:Nat)(v:AV):Jn g i (.ptr id off) v=if v.cells.length=i.size∧v.cells.all AV.isCell=true then stP id off v.cells (g id)else none:=by
 unfold Jn;by_cases h:v.cells.length=i.size∧v.cells.all AV.isCell=true
 .have:(v.cells.length==i.size&&v.cells.all AV.isCell)=true:=by simp[h.1,h.2]
  rw[this,D0 h];simp only;cases g id with
  |none=>rfl
  |some o=>cases o<;>rfl
 .have:(v.cells.length==i.size&&v.cells.all AV.isCell)=false:=by
   rw[RC];by_cases h1:v.cells.length=i.size
   .exact .inr (by simpa using fun h2=>h ⟨h1,h2⟩)
   .exact .inl (by simpa using h1)
  rw[this,CI h]
theorem il(g:G)(i:TI)(id:Id)(k off:Nat)(v:AV):Jn g i (.i7 id k off) v=if v.cells.length=i.size∧v.cells.all AV.isCell=true then stE g id k off v.cells (g id)else none:=by
 unfold Jn;by_cases h:v.cells.length=i.size∧v.cells.all AV.isCell=true
 .have:(v.cells.length==i.size&&v.cells.all AV.isCell)=true:=by simp[h.1,h.2]
  rw[this,D0 h];simp only;cases g id with
  |none=>rfl
  |some o=>
   cases o with
   |d9 sz es=>
    simp only[stE,iZ];cases es[k]? with
    |none=>cases C2 g v.cells<;>rfl
    |some e=>
     cases C2 g v.cells with
     |none=>rfl
     |some ds=>cases MY id (B5 g v.cells)<;>rfl
   |arr sz es=>
    simp only[stE,stA];cases es[k]? <;>rfl
   |_=>rfl
 .have:(v.cells.length==i.size&&v.cells.all AV.isCell)=false:=by
   rw[RC];by_cases h1:v.cells.length=i.size
   .exact .inr (by simpa using fun h2=>h ⟨h1,h2⟩)
   .exact .inl (by simpa using h1)
  rw[this,CI h]
theorem AC5(id:Id)(off:Nat)(cells cs:List AV):stP id off cells (some (.box cs))=(CG cs off cells).map fun cs'=>⟨.undef,[(id,.box cs')]⟩:=rfl
theorem yr(g:G)(id:Id)(k off sz:Nat)(cells:List AV)(es:List (List Aa)):stE g id k off cells (some (.d9 sz es))=iZ id k off sz es (B5 g cells) es[k]? (C2 g cells):=rfl
theorem AC4(g:G)(id:Id)(k off sz:Nat)(cells:List AV)(es:List (List AV)):stE g id k off cells (some (.arr sz es))=stA id k off sz es cells es[k]? :=rfl
theorem yq(id:Id)(k off sz:Nat)(es:List (List Aa))(marks:AD)(e ds:List Aa):iZ id k off sz es marks (some e) (some ds)=if MY id marks=true then(CG e off ds).map fun e'=>⟨.undef,marks++[(id,.d9 sz (es.set k e'))]⟩else none:=rfl
theorem yp(id:Id)(k off sz:Nat)(es:List (List AV))(cells e:List AV):stA id k off sz es cells (some e)=(CG e off cells).map fun e'=>⟨.undef,[(id,.arr sz (es.set k e'))]⟩:=rfl
attribute [go_sem] r8 il AC5 yr AC4 yq yp
def mkS(g:G)(newId:Id)(n:Int):TK→Option TI→Option CU
 |.slice,some j=>if 0≤n∧n≤BD then GP g newId n.toNat j else none
 |_,_=>none
theorem ABK(T:TypeId→Option TI)(g:G)(newId:Id)(k k':IntKind)(n:Int)(i:TI):Cx T g newId (.d (.int k n)) (.d (.int k' n)) (some i)=mkS g newId n i.kind (T i.elem):=by
 obtain⟨kd,sz,ag,st,z,fl,el,ky,mx⟩:=i;unfold Cx;simp only;cases kd with
 |slice=>
  cases T el with
  |none=>rfl
  |some j=>simp only[mkS,TY]
 |_=>rfl
theorem AEl(g:G)(newId:Id)(n:Int)(j:TI):mkS g newId n .slice (some j)=if 0≤n∧n≤BD then GP g newId n.toNat j else none:=rfl
def zi:List AV→Option (List Aa)
 |[]=>some []
 |.d x::l=>(zi l).map (x:: ·)
 |_=>none
theorem YE: ∀{l:List AV} {ds:List Aa},zi l=some ds→l=ds.map .d
 |[],ds,h=>by cases h;rfl
 |v::l,ds,h=>by
  cases v<;>simp[zi]at h;obtain⟨ds',h1,rfl⟩:=h;rw[YE h1];rfl
theorem QK{newId:Id}{n:Nat}{j:TI}{zs:List Aa}(hn:0<n)(hmax:n≤BD)(hz:zi j.zero=some zs)(hl:j.zero.length=j.size)(h0:0<j.size)(hm:j.mix=false):GP g newId n j=some ⟨.eq (1::newId) 0 n,[(1::newId,.d9 j.size (List.replicate n zs))]⟩:=by
 obtain⟨m,rfl⟩: ∃m,n=m+1:=⟨n-1,by omega⟩;have e:=YE hz;have e2:List.replicate (m+1) j.zero=(List.replicate (m+1) zs).map (·.map AV.d):=by rw[OP,e]
 show newArr g newId j (List.replicate (m+1) j.zero)=_;rw[Vf,e2];have h1:FB j.size ((List.replicate (m+1) zs).map (·.map AV.d))=true:=by
  have hz2:zs.length=j.size:=by rw[←hl,e];simp
  generalize m+1=k;induction k with
  |zero=>simp[FB]
  |succ k ih=>rw[RW,Cs,Iy,ih,ct,BI,hz2];simp
 rw[h1,Ci h0];have h2:((List.replicate (m+1) zs).map (·.map AV.d)).length≤BD:=by simpa using hmax
 rw[Ci h2,hm];simp only[NO,Ve,TA,JY,IA,Vg,HM,BI,I0]
theorem pc(g:G)(newId:Id)(j:TI):GP g newId 0 j=some ⟨.emp,[]⟩:=rfl
theorem PG{n:Nat}(h:n≤1073741824):((n:Int)≤(BD:Int))=True:=eq_true (by unfold BD;omega)
attribute [go_sem] ABK AEl pc Nat.zero_add
attribute [go_sem] Option.map_none ZR mX So ZM mR Sm vH dg mb Sn JY ed Q3 ABM ec pn po ee pq Q4 IA bh Iy Vf Ve qB TA Vg UK UJ YS kN tD YM cU YJ Ur Uq SD P0 SC SB QQ SE kO P2 P1 tB ll dB lj ln rj yg yf Nat.one_mul Nat.mul_one Nat.reduceMul
end Go.Abs
namespace Go.Abs
variable{C:Cj}{K:AO}{fr:Fr}{bl:Nat}{Q:Ds→St→Prop}
theorem JS{α:Type}{l:List α}{i:Nat}{x:α}(h:l[i]? =some x):l.drop i=x::l.drop (i+1):=by
 have hi:=(BE.1 h).1;rw[List.drop_eq_getElem_cons hi];congr 1;have:=BY hi;rw[h]at this;injection this with this
 exact this.symm
theorem Ah{α β:Type}{x:Code}(l:List α)(S:Nat→β→St)(Inv:Nat→List α→β→Prop)(b0:β)(h0:Inv 0 l b0)
 (step: ∀(i:Nat) (y:α) (b:β),l[i]? =some y→i<l.length→(i:Int)<(l.length:Int)→Inv i (y::l.drop (i+1)) b→AA (∀b',Inv (i+1) (l.drop (i+1)) b'→Wb C K fr bl x (S (i+1) b') Q)→Wp C K fr bl x (S i b) (MM C K fr bl x Q))
 (done: ∀(i:Nat) (b:β),AA (i=l.length)→ ¬(i:Int)<(l.length:Int)→Inv i [] b→Wp C K fr bl x (S i b) (MM C K fr bl x Q)):Wb C K fr bl x (S 0 b0) Q:=by
 refine rounds (S:=fun a:Nat×β=>S a.1 a.2) (Inv:=fun a=>a.1≤l.length∧Inv a.1 (l.drop a.1) a.2) (m:=fun a=>l.length-a.1) (a:=(0,b0)) ⟨by simp,by simpa using h0⟩ ?_;rintro⟨i,b⟩ ⟨h1,h2⟩ IH;dsimp only at*;by_cases hi:i<l.length
 .obtain⟨y,hy⟩: ∃y,l[i]? =some y:=⟨_,BY hi⟩;rw[JS hy]at h2;exact step i y b hy hi (by omega) h2 ⟨fun b' hb=>IH.out (i+1,b') (by dsimp only;omega) ⟨by dsimp only;omega,hb⟩⟩
 .have:i=l.length:=by omega
  rw[D7 (by omega)]at h2;exact done i b ⟨this⟩ (by omega) h2
end Go.Abs
namespace Go.Abs
variable{C:Cj}{K:AO}{fr:Fr}{bl:Nat}{Q:Ds→St→Prop}
theorem AX{α β:Type}{x:Code}(l:List α)(m:Int)(S:Int→Nat→β→St)(Inv:Nat→List α→β→Prop)(b0:β)(hm:m=l.length)(h0:Inv 0 l b0)
 (step: ∀(i:Nat) (y:α) (b:β),l[i]? =some y→i<l.length→(i:Int)<m→Inv i (y::l.drop (i+1)) b→AA (∀b',Inv (i+1) (l.drop (i+1)) b'→Wb C K fr bl x (S m (i+1) b') Q)→Wp C K fr bl x (S m i b) (MM C K fr bl x Q))
 (done: ∀(i:Nat) (b:β),AA (i=l.length)→ ¬(i:Int)<m→Inv i [] b→Wp C K fr bl x (S m i b) (MM C K fr bl x Q)):Wb C K fr bl x (S m 0 b0) Q:=
 Ah l (S m) Inv b0 h0 (fun i y b h1 h2 h3 h4 h5=>step i y b h1 h2 (by omega) h4 h5) (fun i b h1 h2 h3=>done i b h1 (by have:=h1.out;omega) h3)
end Go.Abs
namespace Go.Abs
variable{P:Program}{C:Cj}
theorem GJ{f:FuncId}{fn:Func}{c:Code}{rs:List ResultVar}{args:List AV}{π:List Nat}{Post:Ad×AD→Prop}(hg:C.i6 f=true)(hf:P.funcs[f]? =some fn)(hb:fn.body=some c)(hr:fn.results.toList=rs)(hl:Nat.ble args.length fn.ntmps=true)
 (hw:Wp C (KL P C) {f,π,raw:=false,ce:=none,nt:=fn.ntmps} 0 c ⟨Ed 0 args,[],0,[]⟩ (Sb C none rs π false fun o' h'=>Post (nrm (o',h')))): ∃r,BB (KL P C) f args π=.ok r∧Post r:=by
 obtain⟨o',h',e,h2⟩:=Aj hg hf hb hr hl hw;unfold BB;rw[e];exact⟨_,rfl,h2⟩
end Go.Abs
namespace Go.Abs
variable{C:Cj}{K:AO}{fr:Fr}{bl:Nat}{Q:Ds→St→Prop}
end Go.Abs
namespace Go.Abs
variable{P:Program}{C:Cj}{K:AO}{fr:Fr}{b n i:Nat}{Q:Ds→St→Prop}
variable{ops:Array Oper}{al:Nat→Bool}{l:List Oper}{e:Bn}{h:AD}{bs:Nat}{ds:List Df}{ps:List (Nat×Nat)}{fps:List Fp}{ρ:List Nat}{dst:Option Tmp}
def AEj(C:Cj)(K:AO)(fr:Fr)(ops:Array Oper)(b n:Nat)(al:Nat→Bool)(l:List Oper)(i:Nat)(dst:Option Tmp)(ρ:List Nat)(e:Bn)(h:AD)(bs:Nat)(ds:List Df)(Q:Ds→St→Prop)(args:List AV)(v:AV):Option FuncId→Prop
 |some f=>SK C K fr ops b n al l i dst ρ e h bs ds Q args (.fn f [v] [])
 |none=>False
def AH1(C:Cj)(K:AO)(fr:Fr)(ops:Array Oper)(b n:Nat)(al:Nat→Bool)(l:List Oper)(i:Nat)(dst:Option Tmp)(ρ:List Nat)(e:Bn)(h:AD)(bs:Nat)(ds:List Df)(Q:Ds→St→Prop)(m:String)(args:List AV):AV→Prop
 |.iface t v=>AEj C K fr ops b n al l i dst ρ e h bs ds Q args v (C.meth t m)
 |_=>False
theorem dz(m:String)(args:List AV)(t:TypeId)(v:AV):AH1 C K fr ops b n al l i dst ρ e h bs ds Q m args (.iface t v)=AEj C K fr ops b n al l i dst ρ e h bs ds Q args v (C.meth t m):=rfl
theorem pw(args:List AV)(v:AV)(f:FuncId):AEj C K fr ops b n al l i dst ρ e h bs ds Q args v (some f)=SK C K fr ops b n al l i dst ρ e h bs ds Q args (.fn f [v] []):=rfl
def AEi(C:Cj)(K:AO)(fr:Fr)(ops:Array Oper)(b n:Nat)(al:Nat→Bool)(ps:List (Nat×Nat))(fps:List Fp)(l:List Oper)(i:Nat)(dst:Option Tmp)(ρ:List Nat)(e:Bn)(h:AD)(bs:Nat)(ds:List Df)(Q:Ds→St→Prop)(args:List AV)(v:AV):Option FuncId→Prop
 |some f=>YT C K fr ops b n al ps fps l i dst ρ e h bs ds Q args (.fn f [v] [])
 |none=>False
def AEb(C:Cj)(K:AO)(fr:Fr)(ops:Array Oper)(b n:Nat)(al:Nat→Bool)(ps:List (Nat×Nat))(fps:List Fp)(l:List Oper)(i:Nat)(dst:Option Tmp)(ρ:List Nat)(e:Bn)(h:AD)(bs:Nat)(ds:List Df)(Q:Ds→St→Prop)(m:String)(args:List AV):AV→Prop
 |.iface t v=>AEi C K fr ops b n al ps fps l i dst ρ e h bs ds Q args v (C.meth t m)
 |_=>False
theorem uj(r:Operand)(m:String)(az:Array Operand)(ts:Array TypeId):B8 C K fr ops b n al ps fps l i Q (A6 C K fr ρ (.call ⟨.invoke r m,az,ts⟩) dst ⟨e,h,bs,ds⟩)=AEb C K fr ops b n al ps fps l i dst ρ e h bs ds Q m (az.toList.map (ev e.get)) (ev e.get r):=by
 simp only[A6];cases ev e.get r with
 |iface t v=>
  simp only[GB,AEb];cases C.meth t m with
  |none=>rfl
  |some f=>rfl
 |_=>rfl
theorem dy(m:String)(args:List AV)(t:TypeId)(v:AV):AEb C K fr ops b n al ps fps l i dst ρ e h bs ds Q m args (.iface t v)=AEi C K fr ops b n al ps fps l i dst ρ e h bs ds Q args v (C.meth t m):=rfl
theorem pt(args:List AV)(v:AV)(f:FuncId):AEi C K fr ops b n al ps fps l i dst ρ e h bs ds Q args v (some f)=YT C K fr ops b n al ps fps l i dst ρ e h bs ds Q args (.fn f [v] []):=rfl
def TU(C:Cj)(K:AO)(fr:Fr)(ops:Array Oper)(b n:Nat)(al:Nat→Bool)(ps:List (Nat×Nat))(fps:List Fp)(l:List Oper)(i:Nat)(dst:Option Tmp)(ρ:List Nat)(e:Bn)(h:AD)(bs:Nat)(ds:List Df)(Q:Ds→St→Prop):E (Ad×AD)→Prop
 |.ok (.ret v,h')=>Gp C K fr ops b n al ps (fps++[⟨none,some (U9 h (gc ρ h'))⟩]) l (i+1) ⟨Ch e dst v,gc ρ h',bs,ds⟩ Q
 |.ok (.f9 v,h')=>al i=true∧Dp fps ps=true∧Q (.f9 v) ⟨e,gc ρ h',b+n,ds⟩
 |.err _=>False
theorem rr(dst:Option Tmp)(ρ:List Nat)(r:E (Ad×AD)):B8 C K fr ops b n al ps fps l i Q (ER ρ dst ⟨e,h,bs,ds⟩ r)=TU C K fr ops b n al ps fps l i dst ρ e h bs ds Q r:=by
 cases r with
 |err l=>rfl
 |ok r=>
  obtain⟨o,h'⟩:=r;cases o<;>simp only[ER,A8,An,B8,TU]
theorem yQ(dst:Option Tmp)(ρ:List Nat)(v:AV)(h':AD):TU C K fr ops b n al ps fps l i dst ρ e h bs ds Q (.ok (.ret v,h'))=Gp C K fr ops b n al ps (fps++[⟨none,some (U9 h (gc ρ h'))⟩]) l (i+1) ⟨Ch e dst v,gc ρ h',bs,ds⟩ Q:=rfl
theorem yP(dst:Option Tmp)(ρ:List Nat)(v:AV)(h':AD):TU C K fr ops b n al ps fps l i dst ρ e h bs ds Q (.ok (.f9 v,h'))=(al i=true∧Dp fps ps=true∧Q (.f9 v) ⟨e,gc ρ h',b+n,ds⟩):=rfl
theorem p6(dst:Option Tmp)(ρ:List Nat)(f:FuncId)(az:List AV):Lg C K fr ops b n al ps fps l i dst ρ e h bs ds Q f az .raw=TU C K fr ops b n al ps fps l i dst ρ e h bs ds Q (K (.fn f) az h ρ true fr.ce):=by
 simp only[Lg,Dh,rr]
variable{dst:Option Tmp}
theorem E3{Post:Ad→AD→Prop}{ρ:List Nat}{q:E (Ad×AD)}(hk: ∃o h',q=.ok (o,h')∧Post o h')(hn: ∀o h',Post o h'→TU C K fr ops b n al ps fps l i dst ρ e h bs ds Q (.ok (o,h'))):TU C K fr ops b n al ps fps l i dst ρ e h bs ds Q q:=by
 obtain⟨o,h',e,hp⟩:=hk;rw[e];exact hn o h' hp
theorem eh(dst:Option Tmp)(ρ:List Nat)(f:FuncId)(az:List AV)(hx:(Dy h.get az).isNone):Lg C K fr ops b n al ps fps l i dst ρ e h bs ds Q f az .auto=(KF fr.ce (az.flatMap (mark h.get))=true∧TU C K fr ops b n al ps fps l i dst ρ e h bs ds Q (K (.fn f) (Mm h.get az) (h.puts (az.flatMap (mark h.get))) ρ true fr.ce)):=by
 have hx:Dy h.get az=none:=by simpa using hx
 simp only[Lg,Dh,hx,FK,BO,Bt,An];cases hw:KF fr.ce (az.flatMap (mark h.get))with
 |true=>
  simp only[TY];cases K (.fn f) (Mm h.get az) (h.puts (az.flatMap (mark h.get))) ρ true fr.ce with
  |err l=>rfl
  |ok r=>
   obtain⟨o,h'⟩:=r;cases o<;>simp only[ER,A8,An,B8,TU]
 |false=>simp[B8]
variable{az:List AV}{v:AV}{p:Prop}
theorem Xi [Decidable p](h1: ¬p→Dc C K fr ops b n al l i az dst e h bs ds Q (CC v true))(h2:p→Dc C K fr ops b n al l i az dst e h bs ds Q (CC v false)):Dc C K fr ops b n al l i az dst e h bs ds Q (CC v (!decide p)):=by
 by_cases hp:p
 .rw[Ci hp];exact h2 hp
 .rw[By hp];exact h1 hp
theorem Xh [Decidable p](h1: ¬p→Db C K fr ops b n al ps fps l i az dst e h bs ds Q (CC v true))(h2:p→Db C K fr ops b n al ps fps l i az dst e h bs ds Q (CC v false)):Db C K fr ops b n al ps fps l i az dst e h bs ds Q (CC v (!decide p)):=by
 by_cases hp:p
 .rw[Ci hp];exact h2 hp
 .rw[By hp];exact h1 hp
theorem gp{t:Bool}(h1:t=true→Db C K fr ops b n al ps fps l i az dst e h bs ds Q (CC v true))(h2:t=false→Db C K fr ops b n al ps fps l i az dst e h bs ds Q (CC v false)):Db C K fr ops b n al ps fps l i az dst e h bs ds Q (CC v t):=by
 cases t
 .exact h2 rfl
 .exact h1 rfl
theorem bD [Decidable p](h1:p→Db C K fr ops b n al ps fps l i az dst e h bs ds Q (CC v true))(h2: ¬p→Db C K fr ops b n al ps fps l i az dst e h bs ds Q (CC v false)):Db C K fr ops b n al ps fps l i az dst e h bs ds Q (CC v (decide p)):=by
 by_cases hp:p
 .rw[Ci hp];exact h1 hp
 .rw[By hp];exact h2 hp
theorem cT(a b:List Id):Abs.apart (some a) (some b)=a.all fun x=>b.all fun y=> !Id.is x y:=by
 have key: ∀(x:Id) (m:List Id),(!m.contains x)=m.all fun y=> !Id.is x y:=fun x m=>by
  rw[Lc];simp only[HU,DO];constructor
  .intro h y hy;exact AE fun e=>by subst e;simp[hy]at h
  .intro h;cases hc:m.contains x with
   |false=>rfl
   |true=>
    have:=h x (by simpa using hc);rw[is_self]at this;cases this
 unfold Abs.apart;split
 .rename_i h;cases h;rfl
 .rename_i h1 h2;cases h1;simp
 .rename_i h1 h2;cases h1;cases h2;simp only[key]
 .simp_all
theorem EY(ρ:List Nat)(h:AD)(l:Id):AD.get (gc ρ h) (1::l)=AD.get h (1::l):=Sr (fun id=>match id with|0::l=> !Id.under ρ l|_=>true) h (1::l) rfl
theorem PA(a b:AD)(id:Id):AD.get (a++b) id=(match AD.get a id with|some o=>some o|none=>AD.get b id):=by
 induction a with
 |nil=>rfl
 |cons p a ih=>
  obtain⟨k,x⟩:=p;rw[F3,Bo,Bo];split
  .rfl
  .exact ih
variable{a b:AD}
theorem BW{id:Id}(h:AD.get a id=none):AD.get (a++b) id=AD.get b id:=by rw[PA,h]
theorem CT{id:Id}{o:Obj}(h:AD.get a id=some o):AD.get (a++b) id=some o:=by rw[PA,h]
theorem vC(g:G)(f:FuncId)(a:List AV)(x:AV)(c:List AV):Ej g (.fn f a (x::c))=none:=by cases a<;>rfl
attribute [go_sem] EY vC
attribute [go_sem] cT dz pw uj dy pt yQ yP p6 eh Vv Vu
attribute [go_sem_proc] Nat.reduceEqDiff Nat.reduceAdd Nat.reduceSub Nat.reduceBEq Nat.reduceLeDiff Nat.reduceLT reduceCtorEq Int.reduceEq Int.reduceLT Int.reduceLE Int.reduceNeg Int.reduceToNat Int.reduceAdd Int.reduceSub
attribute [go_sem_proc ↓] reduceIte
attribute [go_sem] Int.cast_ofNat_Int Int.zero_add Nat.le_refl
class Sp(G:Prop)(P N A B:outParam Prop):Prop where
 go:(P→A)→(N→B)→G
theorem sx{G P N A B:Prop} [s:Sp G P N A B](h1:P→A)(h2:N→B):G:=s.go h1 h2
class Sq(G:Prop)(α:outParam Type)(H:outParam Prop)(R M A:outParam (α→Prop)):Prop where
 go:H→(∀x,R x→M x→A x)→G
theorem sy{G:Prop}{α:Type}{H:Prop}{R M A:α→Prop} [s:Sq G α H R M A](h1:H)(h2: ∀x,R x→M x→A x):G:=s.go h1 h2
theorem au{G:Prop}(h:G:=by(repeat' (first|simp only[go_sem, *]|(refine sx ?_ ?_<;>intro hc)|refine sy (by omega) fun x hx hm=>?_|simp(disch:=first|assumption|omega) only[wrap_id,QH,PG,slice_int]))):G:=h
theorem af{G:Prop}(h:G:=by(repeat' (first|simp only[go_sem, *,AM]|(refine sx ?_ ?_<;>intro hc)|refine sy (by omega) fun x hx hm=>?_|simp(disch:=first|assumption|omega) only[wrap_id,QH,PG,slice_int]))):G:=h
variable{R:Prop}
theorem aw{G:Prop}(h:R)(e:AA R→G:=by intro q;(repeat' (first|simp only[go_sem, *]|(refine sx ?_ ?_<;>intro hc)|refine sy (by omega) fun x hx hm=>?_|simp(disch:=first|assumption|omega) only[wrap_id,QH,PG,slice_int]));exact q.out):G:=e ⟨h⟩
theorem ax{G:Prop}(h:R)(e:AA R→G:=by intro q;(repeat' (first|simp only[go_sem, *,AM]|(refine sx ?_ ?_<;>intro hc)|refine sy (by omega) fun x hx hm=>?_|simp(disch:=first|assumption|omega) only[wrap_id,QH,PG,slice_int]));exact q.out):G:=e ⟨h⟩
variable{C:Cj}{K:AO}{fr:Fr}{b n i:Nat}{Q:Ds→St→Prop}
variable{ops:Array Oper}{al:Nat→Bool}{l:List Oper}{e:Bn}{h:AD}{bs:Nat}{ds:List Df}{ps:List (Nat×Nat)}{fps:List Fp}{dst:Option Tmp}{st:St}{op:Op}{want:Bool}{az:List AV}{v:AV}{t:Bool}{p:Prop}{x y:Code}
instance(priority:=2000) [Decidable p]:Sp (L5 C K fr b x y st Q (.d (.bool (decide p)))) p (¬p) (Wp C K fr b x st Q) (Wp C K fr b y st Q):=⟨lJ⟩
instance(priority:=2000) [Decidable p]:Sp (C8 C K fr ops b n al l i dst op st want Q (.d (.bool (decide p)))) p (¬p) (C8 C K fr ops b n al l i dst op st want Q (.d (.bool true))) (C8 C K fr ops b n al l i dst op st want Q (.d (.bool false))):=⟨dt⟩
instance:Sp (L5 C K fr b x y st Q (.d (.bool t))) (t=true) (t=false) (Wp C K fr b x st Q) (Wp C K fr b y st Q):=⟨Yk⟩
instance:Sp (C8 C K fr ops b n al l i dst op st want Q (.d (.bool t))) (t=true) (t=false) (C8 C K fr ops b n al l i dst op st want Q (.d (.bool true))) (C8 C K fr ops b n al l i dst op st want Q (.d (.bool false))):=⟨XJ⟩
instance(priority:=2000) [Decidable p]:Sp (DW C K fr ops b n al ps fps l i dst op st want Q (.d (.bool (decide p)))) p (¬p) (DW C K fr ops b n al ps fps l i dst op st want Q (.d (.bool true))) (DW C K fr ops b n al ps fps l i dst op st want Q (.d (.bool false))):=⟨dw⟩
instance:Sp (DW C K fr ops b n al ps fps l i dst op st want Q (.d (.bool t))) (t=true) (t=false) (DW C K fr ops b n al ps fps l i dst op st want Q (.d (.bool true))) (DW C K fr ops b n al ps fps l i dst op st want Q (.d (.bool false))):=⟨XK⟩
instance(priority:=2000) [Decidable p]:Sp (Dc C K fr ops b n al l i az dst e h bs ds Q (CC v (decide p))) p (¬p) (Dc C K fr ops b n al l i az dst e h bs ds Q (CC v true)) (Dc C K fr ops b n al l i az dst e h bs ds Q (CC v false)):=⟨bF⟩
instance(priority:=2000) [Decidable p]:Sp (Dc C K fr ops b n al l i az dst e h bs ds Q (CC v (!decide p))) (¬p) p (Dc C K fr ops b n al l i az dst e h bs ds Q (CC v true)) (Dc C K fr ops b n al l i az dst e h bs ds Q (CC v false)):=⟨Xi⟩
instance:Sp (Dc C K fr ops b n al l i az dst e h bs ds Q (CC v t)) (t=true) (t=false) (Dc C K fr ops b n al l i az dst e h bs ds Q (CC v true)) (Dc C K fr ops b n al l i az dst e h bs ds Q (CC v false)):=⟨gy⟩
instance(priority:=2000) [Decidable p]:Sp (Db C K fr ops b n al ps fps l i az dst e h bs ds Q (CC v (decide p))) p (¬p) (Db C K fr ops b n al ps fps l i az dst e h bs ds Q (CC v true)) (Db C K fr ops b n al ps fps l i az dst e h bs ds Q (CC v false)):=⟨bD⟩
instance(priority:=2000) [Decidable p]:Sp (Db C K fr ops b n al ps fps l i az dst e h bs ds Q (CC v (!decide p))) (¬p) p (Db C K fr ops b n al ps fps l i az dst e h bs ds Q (CC v true)) (Db C K fr ops b n al ps fps l i az dst e h bs ds Q (CC v false)):=⟨Xh⟩
instance:Sp (Db C K fr ops b n al ps fps l i az dst e h bs ds Q (CC v t)) (t=true) (t=false) (Db C K fr ops b n al ps fps l i az dst e h bs ds Q (CC v true)) (Db C K fr ops b n al ps fps l i az dst e h bs ds Q (CC v false)):=⟨gp⟩
instance{α:Type}{f:α→List Aa}{l':List α}{sz j:Nat}:Sq (Bw C K fr ops b n al l i dst e h bs ds Q (S6 sz (Option.map f l'[j]?))) α (j<l'.length) (fun x=>l'[j]? =some x) (fun x=>x∈l') (fun x=>Bw C K fr ops b n al l i dst e h bs ds Q (S6 sz (some (f x)))):=⟨fun h1 h2=>qu h1 fun x hx=>h2 x hx (Ac hx)⟩
instance{α:Type}{f:α→List Aa}{l':List α}{sz j:Nat}{rd:List Id}:Sq (DH C K fr ops b n al ps fps l i dst e h bs ds Q rd (S6 sz (Option.map f l'[j]?))) α (j<l'.length) (fun x=>l'[j]? =some x) (fun x=>x∈l') (fun x=>DH C K fr ops b n al ps fps l i dst e h bs ds Q rd (S6 sz (some (f x)))):=⟨fun h1 h2=>qt h1 fun x hx=>h2 x hx (Ac hx)⟩
instance{s:ByteArray}{j:Nat}{f:UInt8→CU}:Sq (Bw C K fr ops b n al l i dst e h bs ds Q (Option.map f s.data.toList[j]?)) UInt8 (j<s.data.toList.length) (fun x=>s.data.toList[j]? =some x) (fun x=>x∈s.data.toList) (fun x=>Bw C K fr ops b n al l i dst e h bs ds Q (some (f x))):=⟨fun h1 h2=>qw h1 fun x hx=>h2 x hx (Ac hx)⟩
end Go.Abs
namespace Go.Proofs
open Go Go.Abs
theorem T3:cfg.T 3=(.some ⟨.int,1,false,false,[(.d (.int .i64 0))],[],0,0,false⟩):=by kernel_rfl
theorem T4:cfg.T 4=(.some ⟨.bool,1,false,false,[(.d (.bool false))],[],0,0,false⟩):=by kernel_rfl
theorem T5:cfg.T 5=(.some ⟨.int,1,false,false,[(.d (.int .u8 0))],[],0,0,false⟩):=by kernel_rfl
theorem T9:cfg.T 9=(.some ⟨.str,1,false,false,[(.d (.str ⟨#[]⟩))],[],0,0,false⟩):=by kernel_rfl
theorem T22:cfg.T 22=(.some ⟨.slice,1,false,false,[.co],[],9,0,false⟩):=by kernel_rfl
theorem T23:cfg.T 23=(.some ⟨.slice,1,false,false,[.co],[],140,0,false⟩):=by kernel_rfl
theorem T24:cfg.T 24=(.some ⟨.slice,1,false,false,[.co],[],147,0,false⟩):=by kernel_rfl
theorem T26:cfg.T 26=(.some ⟨.other,4,true,true,[.co,.co,.co,(.d (.int .i64 0))],[(0,1,false),(1,1,false),(2,1,false),(3,1,false)],0,0,false⟩):=by kernel_rfl
theorem T27:cfg.T 27=(.some ⟨.slice,1,false,false,[.co],[],66,0,false⟩):=by kernel_rfl
theorem T28:cfg.T 28=(.some ⟨.slice,1,false,false,[.co],[],114,0,false⟩):=by kernel_rfl
theorem T29:cfg.T 29=(.some ⟨.slice,1,false,false,[.co],[],69,0,false⟩):=by kernel_rfl
theorem T30:cfg.T 30=(.some ⟨.slice,1,false,false,[.co],[],127,0,false⟩):=by kernel_rfl
theorem T32:cfg.T 32=(.some ⟨.other,4,true,true,[.co,.co,.co,.co],[(0,1,false),(1,1,false),(2,1,false),(3,1,false)],0,0,false⟩):=by kernel_rfl
theorem T33:cfg.T 33=(.some ⟨.int,1,false,false,[(.d (.int .i64 0))],[],0,0,false⟩):=by kernel_rfl
theorem T36:cfg.T 36=(.some ⟨.slice,1,false,false,[.co],[],3,0,false⟩):=by kernel_rfl
theorem T38:cfg.T 38=(.some ⟨.other,4,true,true,[(.d (.int .i64 0)),(.d (.int .i64 0)),(.d (.int .i64 0)),.co],[(0,1,false),(1,1,false),(2,1,false),(3,1,false)],0,0,false⟩):=by kernel_rfl
theorem T44:cfg.T 44=(.some ⟨.slice,1,false,false,[.co],[],78,0,false⟩):=by kernel_rfl
theorem T63:cfg.T 63=(.some ⟨.slice,1,false,false,[.co],[],38,0,false⟩):=by kernel_rfl
theorem T66:cfg.T 66=(.some ⟨(.flat [.int,.bool]),2,true,true,[(.d (.int .i64 0)),(.d (.bool false))],[(0,1,false),(1,1,false)],0,0,false⟩):=by kernel_rfl
theorem T67:cfg.T 67=(.some ⟨.slice,1,false,false,[.co],[],73,0,false⟩):=by kernel_rfl
theorem T69:cfg.T 69=(.some ⟨.other,4,true,true,[(.d (.int .i64 0)),(.d (.int .i64 0)),(.d (.int .i64 0)),.co],[(0,1,false),(1,1,false),(2,1,false),(3,1,false)],0,0,true⟩):=by kernel_rfl
theorem T71:cfg.T 71=(.some ⟨.slice,1,false,false,[.co],[],88,0,false⟩):=by kernel_rfl
theorem T73:cfg.T 73=(.some ⟨.other,1,true,true,[.co],[(0,1,false)],0,0,false⟩):=by kernel_rfl
theorem T78:cfg.T 78=(.some ⟨.other,5,true,true,[(.d (.int .i64 0)),(.d (.int .i64 0)),(.d (.int .i64 0)),(.d (.int .i64 0)),.co],[(0,1,false),(1,1,false),(2,1,false),(3,1,false),(4,1,false)],0,0,false⟩):=by kernel_rfl
theorem T82:cfg.T 82=(.some ⟨.int,1,false,false,[(.d (.int .i64 0))],[],0,0,false⟩):=by kernel_rfl
theorem T83:cfg.T 83=(.some ⟨.slice,1,false,false,[.co],[],85,0,false⟩):=by kernel_rfl
theorem T85:cfg.T 85=(.some ⟨.other,3,true,true,[(.d (.int .i64 0)),(.d (.int .i64 0)),.co],[(0,1,false),(1,1,false),(2,1,false)],0,0,false⟩):=by kernel_rfl
theorem T86:cfg.T 86=(.some ⟨.int,1,false,false,[(.d (.int .i64 0))],[],0,0,false⟩):=by kernel_rfl
theorem T88:cfg.T 88=(.some ⟨(.flat [.int,.int]),2,true,true,[(.d (.int .i64 0)),(.d (.int .i64 0))],[(0,1,false),(1,1,false)],0,0,false⟩):=by kernel_rfl
theorem AHU:cfg.T 114=(.some ⟨.other,3,true,true,[(.d (.int .i64 0)),(.d (.int .i64 0)),.co],[(0,1,false),(1,1,false),(2,1,false)],0,0,false⟩):=by kernel_rfl
theorem AHV:cfg.T 118=(.some ⟨.ptr,1,false,false,[(.d .wl)],[],0,0,false⟩):=by kernel_rfl
theorem AHW:cfg.T 122=(.some ⟨.map,1,false,false,[(.d .v6)],[],198,138,false⟩):=by kernel_rfl
theorem AHX:cfg.T 124=(.some ⟨.other,13,true,true,[.co,.co,.co,.co,.co,.co,.co,(.d (.int .i64 0)),.co,.co,(.d .v6),.co,(.d (.int .i64 0))],[(0,4,true),(4,4,true),(8,1,false),(9,1,false),(10,1,false),(11,1,false),(12,1,false)],0,0,false⟩):=by kernel_rfl
theorem AHY:cfg.T 127=(.some ⟨.other,3,true,true,[(.d (.int .i64 0)),(.d (.int .i64 0)),.co],[(0,1,false),(1,1,false),(2,1,false)],0,0,false⟩):=by kernel_rfl
theorem AHZ:cfg.T 138=(.some ⟨.int,1,false,false,[(.d (.int .i64 0))],[],0,0,false⟩):=by kernel_rfl
theorem AHa:cfg.T 140=(.some ⟨.other,4,true,true,[(.d (.int .i64 0)),(.d (.int .i64 0)),.co,.co],[(0,1,false),(1,1,false),(2,1,false),(3,1,false)],0,0,false⟩):=by kernel_rfl
theorem AHb:cfg.T 143=(.some ⟨.slice,1,false,false,[.co],[],187,0,false⟩):=by kernel_rfl
theorem AHc:cfg.T 144=(.some ⟨.slice,1,false,false,[.co],[],189,0,false⟩):=by kernel_rfl
theorem AHd:cfg.T 145=(.some ⟨.slice,1,false,false,[.co],[],151,0,false⟩):=by kernel_rfl
theorem AHe:cfg.T 147=(.some ⟨.other,3,true,true,[.co,.co,.co],[(0,1,false),(1,1,false),(2,1,false)],0,0,false⟩):=by kernel_rfl
theorem AHf:cfg.T 151=(.some ⟨.other,3,true,true,[(.d (.int .i64 0)),.co,(.d (.int .i64 0))],[(0,1,false),(1,1,false),(2,1,false)],0,0,false⟩):=by kernel_rfl
theorem AHg:cfg.T 162=(.some ⟨.other,8,true,true,[.co,.co,.co,(.d (.int .i64 0)),.co,.co,.co,(.d (.bool false))],[(0,4,true),(4,1,false),(5,1,false),(6,1,false),(7,1,false)],0,0,false⟩):=by kernel_rfl
theorem AHh:cfg.T 177=(.some ⟨(.flat [.int]),1,true,true,[(.d (.int .i64 0))],[(0,1,false)],0,0,false⟩):=by kernel_rfl
theorem AHi:cfg.T 180=(.some ⟨.func,1,false,false,[(.d .jp)],[],0,0,false⟩):=by kernel_rfl
theorem AHj:cfg.T 187=(.some ⟨(.flat [.int,.int]),2,true,true,[(.d (.int .i64 0)),(.d (.int .i64 0))],[(0,1,false),(1,1,false)],0,0,false⟩):=by kernel_rfl
theorem AHk:cfg.T 189=(.some ⟨(.flat [.int,.int]),2,true,true,[(.d (.int .i64 0)),(.d (.int .i64 0))],[(0,1,false),(1,1,false)],0,0,false⟩):=by kernel_rfl
theorem AHl:cfg.T 198=(.some ⟨.func,1,false,false,[(.d .jp)],[],0,0,false⟩):=by kernel_rfl
theorem AHm:cfg.T 201=(.some ⟨.other,3,true,true,[(.d (.int .i64 0)),(.d (.int .i64 0)),.co],[(0,1,false),(1,1,false),(2,1,false)],0,0,false⟩):=by kernel_rfl
theorem AHn:cfg.T 246=(.some ⟨.slice,1,false,false,[.co],[],4,0,false⟩):=by kernel_rfl
theorem AHo:cfg.T 248=(.some ⟨.other,7,true,true,[.co,.co,.co,(.d (.int .i64 0)),.co,.co,.co],[(0,4,true),(4,1,false),(5,1,false),(6,1,false)],0,0,false⟩):=by kernel_rfl
theorem AHp:cfg.T 249=(.some ⟨.func,1,false,false,[(.d .jp)],[],0,0,false⟩):=by kernel_rfl
theorem AHq:cfg.T 289=(.some ⟨(.flat [.int]),1,true,true,[(.d (.int .i64 0))],[(0,1,false)],0,0,false⟩):=by kernel_rfl
theorem ADx:cfg.T 300=(.some ⟨.map,1,false,false,[(.d .v6)],[],4,9,false⟩):=by kernel_rfl
theorem AHr:cfg.T 303=(.some ⟨.iface,1,false,false,[(.d .of)],[],0,0,false⟩):=by kernel_rfl
theorem AHs:cfg.T 307=(.some ⟨(.flat []),0,true,true,[],[],0,0,false⟩):=by kernel_rfl
theorem AHt:cfg.T 308=(.some ⟨(.flat []),0,true,true,[],[],0,0,false⟩):=by kernel_rfl
theorem AHu:cfg.T 309=(.some ⟨(.flat []),0,true,true,[],[],0,0,false⟩):=by kernel_rfl
theorem AHv:cfg.T 310=(.some ⟨(.flat []),0,true,true,[],[],0,0,false⟩):=by kernel_rfl
theorem AHw:cfg.T 311=(.some ⟨.func,1,false,false,[(.d .jp)],[],0,0,false⟩):=by kernel_rfl
theorem AHx:cfg.T 314=(.some ⟨.int,1,false,false,[(.d (.int .i64 0))],[],0,0,false⟩):=by kernel_rfl
theorem ADy:cfg.T 315=(.some ⟨.map,1,false,false,[(.d .v6)],[],4,3,false⟩):=by kernel_rfl
theorem qf:cfg.d8 7 13=[(0,13),(1,13),(4,13),(5,13),(9,13)]:=by kernel_rfl
theorem qg:cfg.d8 7 15=[(5,6)]:=by kernel_rfl
theorem qh:cfg.d8 7 23=[]:=by kernel_rfl
theorem AEm:cfg.mode 15=.auto:=by kernel_rfl
theorem AEn:cfg.mode 17=.auto:=by kernel_rfl
theorem AEo:cfg.mode 19=.auto:=by kernel_rfl
theorem AEp:cfg.mode 20=.auto:=by kernel_rfl
theorem AEq:cfg.mode 21=.auto:=by kernel_rfl
theorem qG:cfg.d8 21 7=[(4,8),(7,8)]:=by kernel_rfl
theorem qH:cfg.d8 21 8=[(1,2)]:=by kernel_rfl
theorem AEr:cfg.mode 29=.auto:=by kernel_rfl
theorem qI:cfg.d8 29 6=[]:=by kernel_rfl
theorem wG:cfg.live 29 0=[0,1,5]:=by kernel_rfl
theorem AEs:cfg.mode 31=.auto:=by kernel_rfl
theorem fk:cfg.d8 31 11=[(7,8)]:=by kernel_rfl
theorem wH:cfg.live 31 0=[1,2,3,4,5,6,18,19]:=by kernel_rfl
theorem AEt:cfg.mode 32=.auto:=by kernel_rfl
theorem qJ:cfg.d8 32 6=[]:=by kernel_rfl
theorem fm:cfg.d8 32 15=[]:=by kernel_rfl
theorem wI:cfg.live 32 0=[2,3,5]:=by kernel_rfl
theorem wJ:cfg.live 32 2=[2,3,6,7]:=by kernel_rfl
theorem AEu:cfg.mode 33=.auto:=by kernel_rfl
theorem qK:cfg.d8 33 4=[]:=by kernel_rfl
theorem wK:cfg.live 33 0=[0,3,5]:=by kernel_rfl
theorem AEv:cfg.mode 34=.auto:=by kernel_rfl
theorem qL:cfg.d8 34 5=[]:=by kernel_rfl
theorem fo:cfg.d8 34 11=[]:=by kernel_rfl
theorem AEw:cfg.mode 35=.auto:=by kernel_rfl
theorem qM:cfg.d8 35 6=[]:=by kernel_rfl
theorem fq:cfg.d8 35 11=[]:=by kernel_rfl
theorem ft:cfg.d8 35 16=[]:=by kernel_rfl
theorem wM:cfg.live 35 0=[2,3,5]:=by kernel_rfl
theorem wO:cfg.live 35 2=[2,3,6]:=by kernel_rfl
theorem wQ:cfg.live 35 4=[2,3,7]:=by kernel_rfl
theorem AEx:cfg.mode 36=.auto:=by kernel_rfl
theorem qN:cfg.d8 36 1=[]:=by kernel_rfl
theorem qO:cfg.d8 36 3=[(1,16),(3,16),(5,16),(6,16),(8,16),(9,16),(11,16),(13,16),(14,16),(15,16)]:=by kernel_rfl
theorem qP:cfg.d8 36 7=[]:=by kernel_rfl
theorem wU:cfg.live 36 0=[3,5,6,9,10]:=by kernel_rfl
theorem AEy:cfg.mode 37=.auto:=by kernel_rfl
theorem qQ:cfg.d8 37 6=[]:=by kernel_rfl
theorem wV:cfg.live 37 0=[0,1,5]:=by kernel_rfl
theorem AEz:cfg.mode 38=.auto:=by kernel_rfl
theorem wX:cfg.live 38 0=[1,2,3]:=by kernel_rfl
theorem AE0:cfg.mode 44=.auto:=by kernel_rfl
theorem AE1:cfg.mode 51=.own:=by kernel_rfl
theorem qS:cfg.d8 52 9=[]:=by kernel_rfl
theorem fu:cfg.d8 52 12=[(4,9)]:=by kernel_rfl
theorem fw:cfg.d8 52 17=[(5,9)]:=by kernel_rfl
theorem wY:cfg.live 52 0=[0,3,13,18,19,20,102,103,104,105,106,107,108,109]:=by kernel_rfl
theorem wZ:cfg.live 52 2=[0,3,13,40,41,42,102,103,104,105,106,107,108,109]:=by kernel_rfl
theorem wa:cfg.live 52 4=[0,3,6,7,13,40,41,42,56,57,58,102,103,104,105,106,107,108,109]:=by kernel_rfl
theorem wb:cfg.live 52 6=[0,3,6,7,8,10,13,40,41,42,56,57,58,77,78,79,102,103,104,105,106,107,108,109]:=by kernel_rfl
theorem AE2:cfg.mode 54=.auto:=by kernel_rfl
theorem AE3:cfg.mode 55=.auto:=by kernel_rfl
theorem qT:cfg.d8 55 4=[(4,9),(6,9),(7,9),(8,9)]:=by kernel_rfl
theorem qU:cfg.d8 55 5=[]:=by kernel_rfl
theorem qV:cfg.d8 55 6=[(4,9),(6,9),(7,9),(8,9)]:=by kernel_rfl
theorem fx:cfg.d8 55 11=[]:=by kernel_rfl
theorem fy:cfg.d8 55 12=[]:=by kernel_rfl
theorem fz:cfg.d8 55 14=[]:=by kernel_rfl
theorem gD:cfg.d8 55 15=[]:=by kernel_rfl
theorem Wg:cfg.alone 55 15 9=true:=by kernel_rfl
theorem AE4:cfg.mode 57=.auto:=by kernel_rfl
theorem qW:cfg.d8 57 6=[]:=by kernel_rfl
theorem wc:cfg.live 57 0=[0,1,5]:=by kernel_rfl
theorem AE5:cfg.mode 58=.auto:=by kernel_rfl
theorem AE6:cfg.mode 61=.auto:=by kernel_rfl
theorem we:cfg.live 61 0=[0,17,18]:=by kernel_rfl
theorem wg:cfg.live 61 2=[0,3,4,17,18]:=by kernel_rfl
theorem AE7:cfg.mode 62=.auto:=by kernel_rfl
theorem AE8:cfg.mode 63=.auto:=by kernel_rfl
theorem wh:cfg.live 63 0=[0,1,2]:=by kernel_rfl
theorem AE9:cfg.mode 64=.auto:=by kernel_rfl
theorem wi:cfg.live 64 0=[1,3]:=by kernel_rfl
theorem wj:cfg.live 64 2=[1,3,4,5]:=by kernel_rfl
theorem AFA:cfg.mode 65=.own:=by kernel_rfl
theorem qX:cfg.d8 65 3=[(0,5)]:=by kernel_rfl
theorem qY:cfg.d8 65 8=[]:=by kernel_rfl
theorem wk:cfg.live 65 0=[3,5,25,26,27]:=by kernel_rfl
theorem AFB:cfg.mode 66=.auto:=by kernel_rfl
theorem qZ:cfg.d8 66 2=[]:=by kernel_rfl
theorem AFC:cfg.mode 67=.auto:=by kernel_rfl
theorem qa:cfg.d8 67 7=[]:=by kernel_rfl
theorem gF:cfg.d8 67 19=[]:=by kernel_rfl
theorem wm:cfg.live 67 0=[2,3,5,6,7,8]:=by kernel_rfl
theorem wo:cfg.live 67 2=[2,3,5,6,7,8,9,10,11,12]:=by kernel_rfl
theorem wq:cfg.live 67 4=[2,3,5,6,7,8,10,14]:=by kernel_rfl
theorem AFD:cfg.mode 68=.auto:=by kernel_rfl
theorem AFE:cfg.mode 69=.auto:=by kernel_rfl
theorem AFF:cfg.mode 70=.auto:=by kernel_rfl
theorem qb:cfg.d8 70 4=[]:=by kernel_rfl
theorem wu:cfg.live 70 0=[2,3,4,7]:=by kernel_rfl
theorem AFG:cfg.mode 71=.auto:=by kernel_rfl
theorem AFH:cfg.mode 72=.auto:=by kernel_rfl
theorem qc:cfg.d8 72 4=[(1,6)]:=by kernel_rfl
theorem gH:cfg.d8 72 11=[]:=by kernel_rfl
theorem wv:cfg.live 72 0=[5,9,11,12,13,14]:=by kernel_rfl
theorem AFI:cfg.mode 73=.raw:=by kernel_rfl
theorem wx:cfg.live 73 0=[0,1,2,3,4,11]:=by kernel_rfl
theorem AFJ:cfg.mode 75=.auto:=by kernel_rfl
theorem qe:cfg.d8 75 6=[(5,8),(6,8),(5,9),(6,9),(5,10),(6,10)]:=by kernel_rfl
theorem AFK:cfg.mode 76=.auto:=by kernel_rfl
theorem AFL:cfg.mode 83=.own:=by kernel_rfl
theorem qi:cfg.d8 83 8=[]:=by kernel_rfl
theorem gI:cfg.d8 83 13=[(6,8),(6,9),(4,10),(5,10),(6,10),(6,12),(10,12),(6,13),(10,13),(4,14),(5,14),(6,14),(8,14),(9,14),(10,14),(8,17),(9,17),(10,17),(12,17),(13,17),(14,17),(12,20),(13,20),(14,20)]:=by kernel_rfl
theorem wy:cfg.live 83 0=[1,3,4]:=by kernel_rfl
theorem wz:cfg.live 83 2=[1,3,5]:=by kernel_rfl
theorem xA:cfg.live 83 4=[3,6]:=by kernel_rfl
theorem xB:cfg.live 83 6=[3,7]:=by kernel_rfl
theorem AFM:cfg.mode 91=.ro:=by kernel_rfl
theorem qj:cfg.d8 91 5=[]:=by kernel_rfl
theorem gJ:cfg.d8 91 11=[]:=by kernel_rfl
theorem gK:cfg.d8 91 13=[]:=by kernel_rfl
theorem gL:cfg.d8 91 14=[(4,9),(6,9),(7,9),(8,9)]:=by kernel_rfl
theorem gM:cfg.d8 91 30=[(12,17)]:=by kernel_rfl
theorem gN:cfg.d8 91 31=[]:=by kernel_rfl
theorem gP:cfg.d8 91 38=[]:=by kernel_rfl
theorem gR:cfg.d8 91 45=[]:=by kernel_rfl
theorem gU:cfg.d8 91 46=[]:=by kernel_rfl
theorem gV:cfg.d8 91 51=[]:=by kernel_rfl
theorem xC:cfg.live 91 0=[0,65,66,67]:=by kernel_rfl
theorem xD:cfg.live 91 2=[0,4,5,92,93,94]:=by kernel_rfl
theorem xE:cfg.live 91 4=[0,4,5,6,7,8,9,92,93,94,155,156]:=by kernel_rfl
theorem xF:cfg.live 91 6=[0,4,5,6,7,8,9,92,93,94,172,173]:=by kernel_rfl
theorem xH:cfg.live 91 8=[0,4,5,6,7,8,92,93,94,192,193,194]:=by kernel_rfl
theorem pO:cfg.live 91 10=[0,4,5,6,7,8,13,92,93,94,192,193,194,255,256,257]:=by kernel_rfl
theorem pQ:cfg.live 91 12=[0,303,304,305]:=by kernel_rfl
theorem Wh:cfg.alone 91 5 15=true:=by kernel_rfl
theorem UA:cfg.alone 91 11 14=true:=by kernel_rfl
theorem UB:cfg.alone 91 13 11=true:=by kernel_rfl
theorem UC:cfg.alone 91 30 20=true:=by kernel_rfl
theorem UD:cfg.alone 91 31 23=true:=by kernel_rfl
theorem UE:cfg.alone 91 45 27=true:=by kernel_rfl
theorem UF:cfg.alone 91 51 11=true:=by kernel_rfl
theorem AFN:cfg.mode 92=.own:=by kernel_rfl
theorem qk:cfg.d8 92 1=[(2,4),(2,7),(5,7),(2,10),(5,10),(8,10)]:=by kernel_rfl
theorem AFO:cfg.mode 93=.ro:=by kernel_rfl
theorem ql:cfg.d8 93 1=[(4,9),(6,9),(7,9),(8,9)]:=by kernel_rfl
theorem qm:cfg.d8 93 8=[]:=by kernel_rfl
theorem qn:cfg.d8 93 9=[]:=by kernel_rfl
theorem AFP:cfg.mode 94=.ro:=by kernel_rfl
theorem AFQ:cfg.mode 95=.ro:=by kernel_rfl
theorem qo:cfg.d8 95 1=[(4,9),(6,9),(7,9),(8,9)]:=by kernel_rfl
theorem AFR:cfg.mode 96=.own:=by kernel_rfl
theorem AFS:cfg.mode 99=.auto:=by kernel_rfl
theorem qp:cfg.d8 99 6=[]:=by kernel_rfl
theorem xI:cfg.live 99 0=[0,1,12,13]:=by kernel_rfl
theorem ABR:cfg.mode 100=.auto:=by kernel_rfl
theorem fA:cfg.d8 100 1=[(4,9),(6,9),(7,9),(8,9)]:=by kernel_rfl
theorem fB:cfg.d8 100 2=[(4,14),(6,14),(7,14),(9,14),(11,14),(12,14),(13,14)]:=by kernel_rfl
theorem fC:cfg.d8 100 7=[(4,8)]:=by kernel_rfl
theorem fE:cfg.d8 100 8=[]:=by kernel_rfl
theorem fF:cfg.d8 100 9=[]:=by kernel_rfl
theorem aE:cfg.d8 100 13=[(2,6),(2,8)]:=by kernel_rfl
theorem nm:cfg.live 100 0=[0,3,4,5,6,35,36,37]:=by kernel_rfl
theorem Tu:cfg.alone 100 13 9=true:=by kernel_rfl
theorem ABT:cfg.mode 101=.raw:=by kernel_rfl
theorem fG:cfg.d8 101 5=[]:=by kernel_rfl
theorem ABU:cfg.mode 102=.auto:=by kernel_rfl
theorem fH:cfg.d8 102 8=[(0,7)]:=by kernel_rfl
theorem aG:cfg.d8 102 12=[]:=by kernel_rfl
theorem nn:cfg.live 102 0=[1,2,15,16]:=by kernel_rfl
theorem np:cfg.live 102 2=[2,51,52,53]:=by kernel_rfl
theorem ABV:cfg.mode 103=.auto:=by kernel_rfl
theorem fI:cfg.d8 103 0=[(4,10),(4,12)]:=by kernel_rfl
theorem ABW:cfg.mode 107=.auto:=by kernel_rfl
theorem ABX:cfg.mode 109=.auto:=by kernel_rfl
theorem ABY:cfg.mode 110=.auto:=by kernel_rfl
theorem fJ:cfg.d8 110 1=[(4,9),(6,9),(7,9),(8,9)]:=by kernel_rfl
theorem aH:cfg.d8 110 13=[]:=by kernel_rfl
theorem aI:cfg.d8 110 14=[]:=by kernel_rfl
theorem nq:cfg.live 110 0=[0,3,4,5,20,21,22]:=by kernel_rfl
theorem ABZ:cfg.mode 111=.auto:=by kernel_rfl
theorem fK:cfg.d8 111 1=[]:=by kernel_rfl
theorem nr:cfg.live 111 0=[0,3,15,16,17]:=by kernel_rfl
theorem ABa:cfg.mode 112=.auto:=by kernel_rfl
theorem fL:cfg.d8 112 1=[(4,9),(6,9),(7,9),(8,9)]:=by kernel_rfl
theorem fM:cfg.d8 112 2=[(4,9),(6,9),(7,9),(8,9)]:=by kernel_rfl
theorem fO:cfg.d8 112 3=[(1,6),(3,6),(1,8),(3,8),(5,8),(6,8)]:=by kernel_rfl
theorem fP:cfg.d8 112 7=[(1,11)]:=by kernel_rfl
theorem aJ:cfg.d8 112 12=[(1,11)]:=by kernel_rfl
theorem aK:cfg.d8 112 17=[(5,17),(10,17),(11,17),(5,19)]:=by kernel_rfl
theorem aL:cfg.d8 112 22=[(5,10),(5,12)]:=by kernel_rfl
theorem aN:cfg.d8 112 24=[(5,7)]:=by kernel_rfl
theorem aO:cfg.d8 112 31=[(2,7),(7,9)]:=by kernel_rfl
theorem aQ:cfg.d8 112 33=[]:=by kernel_rfl
theorem nu:cfg.live 112 0=[0,3,4,5,6,43,44]:=by kernel_rfl
theorem n9:cfg.live 112 2=[0,3,4,5,6,64,65]:=by kernel_rfl
theorem oA:cfg.live 112 4=[0,3,4,5,6,84,85,86]:=by kernel_rfl
theorem oB:cfg.live 112 6=[0,3,4,5,6,117,118,119]:=by kernel_rfl
theorem oC:cfg.live 112 8=[0,3,4,6,175,176,177]:=by kernel_rfl
theorem R6:cfg.alone 112 31 10=true:=by kernel_rfl
theorem Tv:cfg.alone 112 33 9=true:=by kernel_rfl
theorem ABb:cfg.mode 113=.auto:=by kernel_rfl
theorem fQ:cfg.d8 113 1=[(4,9),(6,9),(7,9),(8,9)]:=by kernel_rfl
theorem fR:cfg.d8 113 2=[(2,9),(2,10),(2,12),(9,16),(10,16),(12,16),(9,18),(10,18),(12,18)]:=by kernel_rfl
theorem Tw:cfg.alone 113 2 19=true:=by kernel_rfl
theorem ABc:cfg.mode 114=.auto:=by kernel_rfl
theorem fS:cfg.d8 114 1=[(5,12),(7,12),(9,12),(5,14)]:=by kernel_rfl
theorem ABd:cfg.mode 115=.auto:=by kernel_rfl
theorem fT:cfg.d8 115 7=[]:=by kernel_rfl
theorem oD:cfg.live 115 0=[1,3,4,5]:=by kernel_rfl
theorem ABe:cfg.mode 116=.auto:=by kernel_rfl
theorem fU:cfg.d8 116 6=[(12,17)]:=by kernel_rfl
theorem aR:cfg.d8 116 11=[]:=by kernel_rfl
theorem oE:cfg.live 116 0=[5,6,11,13,14]:=by kernel_rfl
theorem ABf:cfg.mode 117=.auto:=by kernel_rfl
theorem ABg:cfg.mode 118=.auto:=by kernel_rfl
theorem ABh:cfg.mode 119=.auto:=by kernel_rfl
theorem ABi:cfg.mode 120=.auto:=by kernel_rfl
theorem ABj:cfg.mode 121=.auto:=by kernel_rfl
theorem oG:cfg.live 121 0=[1,2,5,6]:=by kernel_rfl
theorem ABk:cfg.mode 122=.auto:=by kernel_rfl
theorem oH:cfg.live 122 0=[1,3,4]:=by kernel_rfl
theorem ABl:cfg.mode 123=.auto:=by kernel_rfl
theorem ABm:cfg.mode 127=.auto:=by kernel_rfl
theorem oI:cfg.live 127 0=[0,3]:=by kernel_rfl
theorem ABn:cfg.mode 128=.auto:=by kernel_rfl
theorem fV:cfg.d8 128 6=[]:=by kernel_rfl
theorem aU:cfg.d8 128 24=[]:=by kernel_rfl
theorem oJ:cfg.live 128 0=[1,3]:=by kernel_rfl
theorem oM:cfg.live 128 2=[1,4]:=by kernel_rfl
theorem oO:cfg.live 128 4=[1,5,6]:=by kernel_rfl
theorem oQ:cfg.live 128 6=[1,5,6,7,8]:=by kernel_rfl
theorem oT:cfg.live 128 8=[1,5,6,7,8,9,10]:=by kernel_rfl
theorem eI:cfg.live 128 10=[5,11]:=by kernel_rfl
theorem ABo:cfg.mode 129=.auto:=by kernel_rfl
theorem aV:cfg.d8 129 20=[]:=by kernel_rfl
theorem aW:cfg.d8 129 22=[]:=by kernel_rfl
theorem aX:cfg.d8 129 23=[]:=by kernel_rfl
theorem aY:cfg.d8 129 24=[]:=by kernel_rfl
theorem oU:cfg.live 129 0=[0,2,6,10]:=by kernel_rfl
theorem oV:cfg.live 129 3=[0,6,11,12]:=by kernel_rfl
theorem ABp:cfg.mode 146=.ro:=by kernel_rfl
theorem ABq:cfg.mode 147=.ro:=by kernel_rfl
theorem oW:cfg.live 147 0=[0,13,14,15]:=by kernel_rfl
theorem ABr:cfg.mode 148=.own:=by kernel_rfl
theorem oX:cfg.live 148 0=[1,5,8,9,10]:=by kernel_rfl
theorem ABt:cfg.mode 150=.own:=by kernel_rfl
theorem oY:cfg.live 150 0=[1,5,8,9,10]:=by kernel_rfl
theorem fW:cfg.d8 151 1=[(1,6),(3,6)]:=by kernel_rfl
theorem ABu:cfg.mode 152=.own:=by kernel_rfl
theorem ABv:cfg.mode 153=.own:=by kernel_rfl
theorem oZ:cfg.live 153 0=[1,5,8,9,10]:=by kernel_rfl
theorem ABw:cfg.mode 154=.own:=by kernel_rfl
theorem fX:cfg.d8 154 1=[(1,8),(3,8),(5,8)]:=by kernel_rfl
theorem ABx:cfg.mode 155=.own:=by kernel_rfl
theorem ABy:cfg.mode 156=.own:=by kernel_rfl
theorem oc:cfg.live 156 0=[1,5,8,9,10]:=by kernel_rfl
theorem fY:cfg.d8 157 1=[(1,6),(3,6)]:=by kernel_rfl
theorem fZ:cfg.d8 158 4=[]:=by kernel_rfl
theorem od:cfg.live 158 0=[0,1,3]:=by kernel_rfl
theorem oe:cfg.live 158 2=[0,1,3,4]:=by kernel_rfl
theorem ABz:cfg.mode 159=.auto:=by kernel_rfl
theorem og:cfg.live 159 0=[0,3,4]:=by kernel_rfl
theorem AB0:cfg.mode 160=.own:=by kernel_rfl
theorem AB1:cfg.mode 161=.raw:=by kernel_rfl
theorem fb:cfg.d8 161 5=[]:=by kernel_rfl
theorem AB2:cfg.mode 162=.raw:=by kernel_rfl
theorem oh:cfg.live 162 0=[0,1,5,6]:=by kernel_rfl
theorem AB3:cfg.mode 163=.ro:=by kernel_rfl
theorem fc:cfg.d8 163 1=[]:=by kernel_rfl
theorem AB4:cfg.mode 165=.auto:=by kernel_rfl
theorem AB5:cfg.mode 166=.auto:=by kernel_rfl
theorem AB6:cfg.mode 167=.auto:=by kernel_rfl
theorem oj:cfg.live 167 0=[0,1,5]:=by kernel_rfl
theorem AB7:cfg.mode 168=.auto:=by kernel_rfl
theorem AB8:cfg.mode 169=.auto:=by kernel_rfl
theorem AB9:cfg.mode 170=.auto:=by kernel_rfl
theorem fe:cfg.d8 170 4=[(2,14),(4,14),(6,14)]:=by kernel_rfl
theorem om:cfg.live 170 0=[0,2,4,6]:=by kernel_rfl
theorem oo:cfg.live 170 2=[0,2,4,7]:=by kernel_rfl
theorem ACA:cfg.mode 180=.ro:=by kernel_rfl
theorem ACB:cfg.mode 181=.own:=by kernel_rfl
theorem oq:cfg.live 181 0=[1,5,8,9,10]:=by kernel_rfl
theorem ACD:cfg.mode 183=.own:=by kernel_rfl
theorem ot:cfg.live 183 0=[1,5,8,9,10]:=by kernel_rfl
theorem ACE:cfg.mode 185=.ro:=by kernel_rfl
theorem ou:cfg.live 185 0=[0,1,7,8]:=by kernel_rfl
theorem ACF:cfg.mode 186=.auto:=by kernel_rfl
theorem ACG:cfg.mode 187=.auto:=by kernel_rfl
theorem ov:cfg.live 187 0=[0,2,5,9,10]:=by kernel_rfl
theorem ACH:cfg.mode 188=.auto:=by kernel_rfl
theorem ff:cfg.d8 188 5=[]:=by kernel_rfl
theorem o5:cfg.live 188 0=[2,3,5,6]:=by kernel_rfl
theorem ACI:cfg.mode 190=.own:=by kernel_rfl
theorem fg:cfg.d8 190 7=[(0,4),(4,6),(4,7),(0,8),(2,8),(3,8),(4,8),(4,10),(8,10),(4,11),(8,11),(0,12),(2,12),(3,12),(4,12),(6,12),(7,12),(8,12)]:=by kernel_rfl
theorem o6:cfg.live 190 0=[1,24,25,26]:=by kernel_rfl
theorem ACJ:cfg.mode 199=.auto:=by kernel_rfl
theorem ACK:cfg.mode 200=.auto:=by kernel_rfl
theorem o7:cfg.live 200 0=[0,5,6]:=by kernel_rfl
theorem ACN:cfg.mode 201=.auto:=by kernel_rfl
theorem fh:cfg.d8 201 1=[]:=by kernel_rfl
theorem fj:cfg.d8 201 4=[(4,7),(5,7)]:=by kernel_rfl
theorem aZ:cfg.d8 201 14=[]:=by kernel_rfl
theorem aa:cfg.d8 201 25=[]:=by kernel_rfl
theorem ab:cfg.d8 201 26=[(4,9),(6,9),(7,9),(8,9)]:=by kernel_rfl
theorem ae:cfg.d8 201 32=[(2,6)]:=by kernel_rfl
theorem o8:cfg.live 201 1=[0,2,6,154,155,156]:=by kernel_rfl
theorem o9:cfg.live 201 3=[0,2,6,11,190,191,192]:=by kernel_rfl
theorem pB:cfg.live 201 5=[0,2,6,207,208,209]:=by kernel_rfl
theorem pC:cfg.live 201 7=[0,2,220,221,222]:=by kernel_rfl
theorem Tz:cfg.alone 201 4 10=true:=by kernel_rfl
theorem R7:cfg.alone 201 14 25=true:=by kernel_rfl
theorem Tx:cfg.alone 201 32 8=true:=by kernel_rfl
theorem ACO:cfg.mode 202=.auto:=by kernel_rfl
theorem ACP:cfg.mode 210=.own:=by kernel_rfl
theorem ACQ:cfg.mode 211=.auto:=by kernel_rfl
theorem ACR:cfg.mode 212=.auto:=by kernel_rfl
theorem ACS:cfg.mode 213=.auto:=by kernel_rfl
theorem ah:cfg.d8 213 23=[]:=by kernel_rfl
theorem pD:cfg.live 213 0=[1,2,31,32,33]:=by kernel_rfl
theorem pE:cfg.live 213 2=[1,2,52,53,54]:=by kernel_rfl
theorem pF:cfg.live 213 4=[1,2,7,72,73,74]:=by kernel_rfl
theorem pG:cfg.live 213 6=[1,2,7,9,72,73,74,94,95,96]:=by kernel_rfl
theorem R8:cfg.alone 213 23 29=true:=by kernel_rfl
theorem ACU:cfg.mode 214=.auto:=by kernel_rfl
theorem ACV:cfg.mode 215=.auto:=by kernel_rfl
theorem pH:cfg.live 215 0=[2,5,9,10,11]:=by kernel_rfl
theorem ACW:cfg.mode 216=.auto:=by kernel_rfl
theorem pJ:cfg.live 216 0=[0,1,7,8]:=by kernel_rfl
theorem ACX:cfg.mode 217=.auto:=by kernel_rfl
theorem pK:cfg.live 217 1=[1,4,73,74,75]:=by kernel_rfl
theorem ACY:cfg.mode 218=.auto:=by kernel_rfl
theorem ACZ:cfg.mode 219=.auto:=by kernel_rfl
theorem ACa:cfg.mode 220=.auto:=by kernel_rfl
theorem pN:cfg.live 220 0=[0,1,7,8]:=by kernel_rfl
theorem ACb:cfg.mode 236=.auto:=by kernel_rfl
theorem ACd:cfg.mode 237=.auto:=by kernel_rfl
theorem ACe:cfg.mode 238=.auto:=by kernel_rfl
theorem ACf:cfg.mode 239=.auto:=by kernel_rfl
theorem ACg:cfg.mode 240=.auto:=by kernel_rfl
theorem tU:cfg.pp 50=some 177:=Eq.trans (b:=cfg.pp 50) rfl (by kernel_rfl)
theorem U2:cfg.pp 189=some 289:=Eq.trans (b:=cfg.pp 189) rfl (by kernel_rfl)
attribute [go_sem] T3 T4 T5 T9 T22 T23 T24 T26 T27 T28 T29 T30 T32 T33 T36 T38 T44 T63 T66 T67 T69 T71 T73 T78 T82 T83 T85 T86 T88 AHU AHV AHW AHX AHY AHZ AHa AHb AHc AHd AHe AHf AHg AHh AHi AHj AHk AHl AHm AHn AHo AHp AHq ADx AHr AHs AHt AHu AHv AHw AHx ADy qf qg qh AEm AEn AEo AEp AEq qG qH AEr qI wG AEs fk wH AEt qJ fm wI wJ AEu qK wK AEv qL fo AEw qM fq ft wM wO wQ AEx qN qO qP wU AEy qQ wV AEz wX AE0 AE1 qS fu fw wY wZ wa wb AE2 AE3 qT qU qV fx fy fz gD Wg AE4 qW wc AE5 AE6 we wg AE7 AE8 wh AE9 wi wj AFA qX qY wk AFB qZ AFC qa gF wm wo wq AFD AFE AFF qb wu AFG AFH qc gH wv AFI wx AFJ qe AFK AFL qi gI wy wz xA xB AFM qj gJ gK gL gM gN gP gR gU gV xC xD xE xF xH pO pQ Wh UA UB UC UD UE UF AFN qk AFO ql qm qn AFP AFQ qo AFR AFS qp xI ABR fA fB fC fE fF aE nm Tu ABT fG ABU fH aG nn np ABV fI ABW ABX ABY fJ aH aI nq ABZ fK nr ABa fL fM fO fP aJ aK aL aN aO aQ nu n9 oA oB oC R6 Tv ABb fQ fR Tw ABc fS ABd fT oD ABe fU aR oE ABf ABg ABh ABi ABj oG ABk oH ABl ABm oI ABn fV aU oJ oM oO oQ oT eI ABo aV aW aX aY oU oV ABp ABq oW ABr oX ABt oY fW ABu ABv oZ ABw fX ABx ABy oc fY fZ od oe ABz og AB0 AB1 fb AB2 oh AB3 fc AB4 AB5 AB6 oj AB7 AB8 AB9 fe om oo ACA ACB oq ACD ot ACE ou ACF ACG ov ACH ff o5 ACI fg o6 ACJ ACK o7 ACN fh fj aZ aa ab ae o8 o9 pB pC Tz R7 Tx ACO ACP ACQ ACR ACS ah pD pE pF pG R8 ACU ACV pH ACW pJ ACX pK ACY ACZ ACa pN ACb ACd ACe ACf ACg tU U2
inductive Bc where
 |mk (op n:Int) (kids:List Bc)
def Bc.op:Bc→Int|.mk o _ _=>o
def Bc.n:Bc→Int|.mk _ n _=>n
def Bc.kids:Bc→List Bc|.mk _ _ k=>k
structure CV where
 kind:Int
 n:Int
 deriving DecidableEq
structure C0 where
 op:Int
 n:Int
 args:List Bc
 kids:List Int
structure Hy where
 at_:Int
 many:Int
structure Nc where
 rc:Int
 node:Int
structure FG where
 at_:Int
 d7:List Int
 node:Int
structure Bs where
 am:List Hy
 ac:List Nc
 rules:List FG
structure AL where
 free:List ByteArray
 nodes:List C0
 defs:List Bs
 main:Int
structure BS where
 rc:Int
 dead:Bool
 deriving DecidableEq
structure Al where
 f8:Int
 at_:Int
 env:List CV
structure Fo where
 group:Int
 index:Int
 at_:Int
 queue:List (List CV)
structure Fq where
 at_:Int
 node:Int
 env:List CV
structure BF where
 ac:List BS
 bv:List Al
 am:List Fo
 waits:List Fq
structure Cc where
 wait:Int
 group:Int
 i9:Int
 it:List Int
structure Ib where
 deed:Int
 at_:Int
 n:Int
 m:Int
 ol:List CV
mutual
def Bg:Bc→List Aa
 |.mk op n kids=>[.int .i64 op,.int .i64 n,.be (Re kids)]
def Re:List Bc→List (List Aa)
 |[]=>[]
 |x::l=>Bg x::Re l
end
theorem Sa: ∀l,Re l=l.map Bg
 |[]=>rfl
 |x::l=>by simp[Re,Sa l]
theorem VD(x:Bc):Bg x=[.int .i64 x.op,.int .i64 x.n,.be (x.kids.map Bg)]:=by
 cases x;simp[Bg,Sa,Bc.op,Bc.n,Bc.kids]
theorem Bc.ind{p:Bc→Prop}(h: ∀op n kids,(∀k∈kids,p k)→p (.mk op n kids)): ∀x,p x:=by
 intro x;refine Bc.rec (motive_1:=p) (motive_2:=fun l=> ∀k∈l,p k) (fun op n kids ih=>h op n kids ih) (by simp) (fun a l h1 h2 k hk=>?_) x;rcases Co.1 hk with rfl|hk
 .exact h1
 .exact h2 k hk
theorem Bc.op_mk(o n:Int)(k:List Bc):(Bc.mk o n k).op=o:=rfl
theorem Bc.n_mk(o n:Int)(k:List Bc):(Bc.mk o n k).n=n:=rfl
theorem Bc.kids_mk(o n:Int)(k:List Bc):(Bc.mk o n k).kids=k:=rfl
def AJ(n:Int):List Aa:=[.int .i64 n]
def Av(s:ByteArray):List Aa:=[.str s]
def AN(v:CV):List Aa:=[.int .i64 v.kind,.int .i64 v.n]
def Af(x:C0):List Aa:=[.int .i64 x.op,.int .i64 x.n,.be (x.args.map Bg),.be (x.kids.map AJ)]
def A3(c:Hy):List Aa:=[.int .i64 c.at_,.int .i64 c.many]
def Ao(s:Nc):List Aa:=[.int .i64 s.rc,.int .i64 s.node]
def A0(r:FG):List Aa:=[.int .i64 r.at_,.be (r.d7.map AJ),.int .i64 r.node]
def Ax(d:Bs):List Aa:=[.be (d.am.map A3),.be (d.ac.map Ao),.be (d.rules.map A0)]
def Ab(s:BS):List Aa:=[.int .i64 s.rc,.bool s.dead]
def Ar(g:Al):List Aa:=[.int .i64 g.f8,.int .i64 g.at_,.be (g.env.map AN)]
def BG(m:List CV):List Aa:=[.be (m.map AN)]
def Bm(c:Fo):List Aa:=[.int .i64 c.group,.int .i64 c.index,.int .i64 c.at_,.be (c.queue.map BG)]
def AW(w:Fq):List Aa:=[.int .i64 w.at_,.int .i64 w.node,.be (w.env.map AN)]
def SZ(x:Ib):List Aa:=[.int .i64 x.deed,.int .i64 x.at_,.int .i64 x.n,.int .i64 x.m,.be (x.ol.map AN)]
def Ei(x:Cc):List Aa:=[.int .i64 x.wait,.int .i64 x.group,.int .i64 x.i9,.be (x.it.map AJ)]
def AAL(p:AL):List Aa:=[.be (p.free.map Av),.be (p.nodes.map Af),.be (p.defs.map Ax),.int .i64 p.main]
attribute [go_sem] VD AJ Av AN Af A3 Ao A0 Ax Ab Ar BG Bm AW SZ Ei Bc.op_mk Bc.n_mk Bc.kids_mk
theorem slice_int{l:List Int}{g:G}{k:IntKind}{m:Int}(h0:0≤m)(hm:m≤l.length):ET g .slice 1 (.d (.be (l.map AJ))) none (some (.d (.int k m))) none=some (.d (.be ((l.take m.toNat).map AJ))):=Th (fun _=>rfl) h0 hm
def i64(n:Int):Prop:= -9223372036854775808≤n∧n<9223372036854775808
theorem wrap_id{n:Int}(h1: -9223372036854775808≤n)(h2:n<9223372036854775808):IntKind.i64.wrap n=n:=by
 have hb:IntKind.i64.bits=64:=rfl;have hs:IntKind.i64.signed=true:=rfl;simp only[IntKind.wrap,hb,hs,EM,Ap];have e1:(2 ^ 64:Int)=18446744073709551616:=by decide
 have e2:(2 ^ (64-1):Int)=9223372036854775808:=by decide
 rw[e1,e2];split<;>omega
def AK:=And.intro @wrap_id (And.intro @QH (And.intro @PG @slice_int))
set_option maxRecDepth 100000
set_option maxHeartbeats 2000000
def Bc.formed(size:Int):Bc→Bool
 |.mk op n kids=>
  if op=1 then decide (kids.length=0)&&(decide (-1000000000≤n)&&decide (n≤1000000000))
  else if op=2 then decide (kids.length=0)&&(decide (0≤n)&&decide (n<size))
  else if op<3 then false
  else if 7<op then false
  else if n=0 then match kids with
   |[a,b]=>a.formed size&&b.formed size
   |_=>false
  else false
theorem bz{α:Type}{kids:List α}(hk:kids.length=2): ∃a b,kids=[a,b]:=by
 rcases kids with _|⟨a,_|⟨b,_|⟨c,l⟩⟩⟩<;>simp at hk;exact⟨a,b,rfl⟩
@[go_sem] theorem AF2(size:Int)(x:Bc):BB (KL Tryz.prog cfg) 123 [.agg [.d (.int .i64 x.op),.d (.int .i64 x.n),.d (.be (x.kids.map Bg))],.d (.int .i64 size)] []=.ok (.ret (.d (.bool (x.formed size))),[]):=by
  induction x using Bc.ind with
  |h op n kids ih=>
  simp only[Bc.op_mk,Bc.n_mk,Bc.kids_mk]
  (refine Ae rfl Tryz.func123 rfl rfl rfl ?_;show Wp _ _ _ _ (Tryz.f123.body.get rfl) _ _;simp only[Tryz.f123,AS])
  rcases kids with _|⟨a,_|⟨b,_|⟨c,l⟩⟩⟩
  .clear ih
   (repeat' (first|simp only[go_sem, *]|(refine sx ?_ ?_<;>intro hc)|refine sy (by omega) fun x hx hm=>?_|simp(disch:=first|assumption|omega) only[AK]))
   all_goals grind [Bc.formed]
  .clear ih
   (repeat' (first|simp only[go_sem, *]|(refine sx ?_ ?_<;>intro hc)|refine sy (by omega) fun x hx hm=>?_|simp(disch:=first|assumption|omega) only[AK]))
   all_goals grind [Bc.formed]
  .have ha:=ih a (by simp);have hb:=ih b (by simp);clear ih
   (repeat' (first|simp only[go_sem, *]|(refine sx ?_ ?_<;>intro hc)|refine sy (by omega) fun x hx hm=>?_|simp(disch:=first|assumption|omega) only[AK]))
   all_goals grind [Bc.formed]
  .clear ih
   (repeat' (first|simp only[go_sem, *]|(refine sx ?_ ?_<;>intro hc)|refine sy (by omega) fun x hx hm=>?_|simp(disch:=first|assumption|omega) only[AK]))
   all_goals grind [Bc.formed]
@[go_sem] theorem AF5(k n:Int):BB (KL Tryz.prog cfg) 119 [.agg [.d (.int .i64 k),.d (.int .i64 n)]] []=.ok (.ret (.d (.int .i64 (if k=1 then n else 0))),[]):=by
  (refine Ae rfl Tryz.func119 rfl rfl rfl ?_;show Wp _ _ _ _ (Tryz.f119.body.get rfl) _ _;simp only[Tryz.f119,AS])
  exact au
@[go_sem] theorem AG4(t:Bool):BB (KL Tryz.prog cfg) 120 [.d (.bool t)] []=.ok (.ret (.d (.int .i64 (if t=true then 1 else 0))),[]):=by
  (refine Ae rfl Tryz.func120 rfl rfl rfl ?_;show Wp _ _ _ _ (Tryz.f120.body.get rfl) _ _;simp only[Tryz.f120,AS])
  exact au;all_goals grind
def P4(n:Int):Int:=min (max n (-1000000000)) 1000000000
def eu(v:CV):Int:=if v.kind=1 then v.n else 0
def opV(op a b:Int):Int:=if op=3 then IntKind.i64.wrap (a+b)else if op=4 then IntKind.i64.wrap (a-b)else if op=5 then IntKind.i64.wrap (a*b)else if op=6 then(if a<b then 1 else 0)else if a=b then 1 else 0
def Bc.value(env:List CV):Bc→CV
 |.mk op n kids=>
  if op=1 then⟨1,n⟩
  else if op=2 then(env[n.toNat]?).getD ⟨0,0⟩
  else match kids with
   |[a,b]=>⟨1,P4 (opV op (eu (a.value env)) (eu (b.value env)))⟩
   |_=>⟨0,0⟩
theorem WG(env:List CV)(n:Int)(kids:List Bc):(Bc.mk 1 n kids).value env=⟨1,n⟩:=by
 rcases kids with _|⟨a,_|⟨b,_|⟨c,l⟩⟩⟩<;>simp[Bc.value]
theorem Tp(env:List CV)(n:Int)(kids:List Bc):(Bc.mk 2 n kids).value env=(env[n.toNat]?).getD ⟨0,0⟩:=by
 rcases kids with _|⟨a,_|⟨b,_|⟨c,l⟩⟩⟩<;>simp[Bc.value]
theorem WE(env:List CV)(op n:Int)(a b:Bc)(h1: ¬op=1)(h2: ¬op=2):(Bc.mk op n [a,b]).value env=⟨1,P4 (opV op (eu (a.value env)) (eu (b.value env)))⟩:=by
 simp[Bc.value,h1,h2]
theorem Qy{size n:Int}{kids:List Bc}(h:(Bc.mk 2 n kids).formed size=true):0≤n∧n<size:=by
 rcases kids with _|⟨a,_|⟨b,_|⟨c,l⟩⟩⟩<;>simp[Bc.formed]at h;exact h
theorem Sk{size op n:Int}{kids:List Bc}(h:(Bc.mk op n kids).formed size=true)(h1: ¬op=1)(h2: ¬op=2):3≤op∧op≤7∧n=0∧ ∃a b,kids=[a,b]∧a.formed size=true∧b.formed size=true:=by
 rcases kids with _|⟨a,_|⟨b,_|⟨c,l⟩⟩⟩<;>simp[Bc.formed,h1,h2]at h;exact⟨h.1,h.2.1,h.2.2.1,a,b,rfl,h.2.2.2⟩
@[go_sem] theorem zL(env:List CV)(x:Bc)(hf:x.formed env.length=true):BB (KL Tryz.prog cfg) 75 [.agg [.d (.int .i64 x.op),.d (.int .i64 x.n),.d (.be (x.kids.map Bg))],.d (.be (env.map AN))] []=.ok (.ret (.agg [.d (.int .i64 (x.value env).kind),.d (.int .i64 (x.value env).n)]),[]):=by
  induction x using Bc.ind with
  |h op n kids ih=>
  simp only[Bc.op_mk,Bc.n_mk,Bc.kids_mk]
  (refine Ae rfl Tryz.func75 rfl rfl rfl ?_;show Wp _ _ _ _ (Tryz.f75.body.get rfl) _ _;simp only[Tryz.f75,AS])
  by_cases h1:op=1
  .subst h1;clear ih
   (repeat' (first|simp only[go_sem, *,WG]|(refine sx ?_ ?_<;>intro hc)|refine sy (by omega) fun x hx hm=>?_|simp(disch:=first|assumption|omega) only[AK]))
  by_cases h2:op=2
  .subst h2;clear ih;obtain⟨hn,hl⟩:=Qy hf;have hl:n.toNat<env.length:=by omega
   clear hf
   (repeat' (first|simp only[go_sem, *,Tp,F4]|(refine sx ?_ ?_<;>intro hc)|refine sy (by omega) fun x hx hm=>?_|simp(disch:=first|assumption|omega) only[AK]))
  obtain⟨h3,h4,h5,a,b,rfl,hfa,hfb⟩:=Sk hf h1 h2;have ha:=ih a (by simp) hfa;have hb:=ih b (by simp) hfb;clear ih hf;rw[WE env op n a b h1 h2];generalize a.value env=u at*;generalize b.value env=v at*
  (repeat' (first|simp only[go_sem, *]|(refine sx ?_ ?_<;>intro hc)|refine sy (by omega) fun x hx hm=>?_|simp(disch:=first|assumption|omega) only[AK]))
  all_goals grind [eu,P4,opV]
mutual
def Bc.nodesM:Bc→Int→Int
 |.mk _ _ kids,most=>FV kids 1 most
def FV:List Bc→Int→Int→Int
 |[],n,_=>n
 |k::l,n,most=>if n≤most then FV l (n+k.nodesM (most-n)) most else n
end
mutual
theorem QP: ∀(x:Bc) (most:Int),0≤most→1≤x.nodesM most∧x.nodesM most≤most+1
 |.mk op n kids,most,h=>by
  rw[Bc.nodesM];exact Vj kids 1 most (by omega) (by omega)
theorem Vj: ∀(l:List Bc) (n most:Int),1≤n→n≤most+1→1≤FV l n most∧FV l n most≤most+1
 |[],n,most,h1,h2=>by simp[FV];omega
 |k::l,n,most,h1,h2=>by
  rw[FV];split
  .rename_i h;have:=QP k (most-n) (by omega);exact Vj l _ most (by omega) (by omega)
  .omega
end
theorem Z5(l:List Bc)(n most:Int)(h: ¬n≤most):FV l n most=n:=by
 cases l<;>simp[FV,h]
variable{α:Type}{l:List α}{i:Nat}
theorem AR{x:α}(h:l[i]? =some x):l.drop i=x::l.drop (i+1):=by
 have hi:=(BE.1 h).1;rw[List.drop_eq_getElem_cons hi];congr 1;have:=BY hi;rw[h]at this;injection this with this
 exact this.symm
theorem AI{x:α}(h:l[i]? =some x):i<l.length:=(BE.1 h).1
@[go_sem] theorem Qx(x:Bc)(most:Int)(h0:0≤most)(h1:most≤60):BB (KL Tryz.prog cfg) 121 [.agg [.d (.int .i64 x.op),.d (.int .i64 x.n),.d (.be (x.kids.map Bg))],.d (.int .i64 most)] []=.ok (.ret (.d (.int .i64 (x.nodesM most))),[]):=by
  revert most
  induction x using Bc.ind with
  |h op n kids ih=>
  intro most h0 h1;simp only[Bc.op_mk,Bc.n_mk,Bc.kids_mk]at*
  (refine Ae rfl Tryz.func121 rfl rfl rfl ?_;show Wp _ _ _ _ (Tryz.f121.body.get rfl) _ _;simp only[Tryz.f121,AS])
  refine aw ?_;refine rounds (S:=fun a:Nat×Int=>⟨[(1,.d (.int .i64 most)),(2,.ptr [0,0] 0),(5,.d (.int .i64 a.2)),(6,.d (.int .i64 a.1))],[([0,0],.box [.d (.int .i64 op),.d (.int .i64 n),.d (.be (kids.map Bg))])],1,[]⟩)
   (Inv:=fun a=>a.1≤kids.length∧(a.1:Int)+1≤a.2∧a.2≤most+1∧FV kids 1 most=FV (kids.drop a.1) a.2 most) (m:=fun a=>kids.length-a.1) (a:=(0,1)) ⟨by simp,by simp,by simp;omega,by simp⟩ ?_
  rintro⟨i,c⟩ ⟨h2,h3,h4,h5⟩ IH;dsimp only at*
  (repeat' (first|simp only[go_sem, *]|(refine sx ?_ ?_<;>intro hc)|refine sy (by omega) fun x hx hm=>?_|simp(disch:=first|assumption|omega) only[AK,ih]))
  .have h6:=QP x (most-c) (by omega);have h7:FV (kids.drop i) c most=FV (kids.drop (i+1)) (c+x.nodesM (most-c)) most:=by
    rw[AR hx,FV,D0 (by assumption)]
   rw[wrap_id (by omega) (by omega)];simpa only[Int.natCast_add,Int.cast_ofNat_Int]using IH.out (i+1,c+x.nodesM (most-c)) (by dsimp only;omega) ⟨by dsimp only;omega,by dsimp only;omega,by dsimp only;omega,by dsimp only;rw[h5,h7]⟩
  .rw[Bc.nodesM,h5,Z5 _ _ _ (by assumption)]
  .rw[Bc.nodesM,h5,D7 (by omega)];rfl
mutual
def Bc.size:Bc→Nat
 |.mk _ _ kids=>1+EA kids
def EA:List Bc→Nat
 |[]=>0
 |k::l=>k.size+EA l
end
mutual
theorem Vk: ∀(x:Bc) (most:Int),0≤most→((x.size:Int)≤most→x.nodesM most=x.size)∧(most<x.size→most<x.nodesM most)
 |.mk op n kids,most,h=>by
  rw[Bc.nodesM,Bc.size];have:=Vi kids 1 most (by omega);constructor
  .intro h1;rw[this.1 (by omega)];omega
  .intro h1;exact this.2 (by omega)
theorem Vi: ∀(l:List Bc) (n most:Int),n≤most+1→(n+EA l≤most→FV l n most=n+EA l)∧(most<n+EA l→most<FV l n most)
 |[],n,most,h1=>by
  simp[FV,EA]
 |k::l,n,most,h1=>by
  rw[FV,EA];split
  .rename_i h;have h2:=Vk k (most-n) (by omega);have h3:=QP k (most-n) (by omega);have h4:=Vi l (n+k.nodesM (most-n)) most (by omega);by_cases h5:(k.size:Int)≤most-n
   .rw[h2.1 h5]at h4⊢;constructor
    .intro h6;rw[h4.1 (by omega)];omega
    .intro h6;exact h4.2 (by omega)
   .have:=h2.2 (by omega);constructor
    .intro h6;omega
    .intro h6;exact h4.2 (by omega)
  .omega
end
mutual
def Bc.depth:Bc→Nat
 |.mk _ _ kids=>EJ kids+1
def EJ:List Bc→Nat
 |[]=>0
 |k::l=>max k.depth (EJ l)
end
mutual
theorem Yq: ∀(x:Bc),x.depth≤x.size
 |.mk op n kids=>by
  rw[Bc.depth,Bc.size];have:=U6 kids;omega
theorem U6: ∀(l:List Bc),EJ l≤EA l
 |[]=>by simp[EJ,EA]
 |k::l=>by
  rw[EJ,EA];have:=Yq k;have:=U6 l;omega
end
theorem Tc{k:Bc}: ∀{l:List Bc},k∈l→k.size≤EA l
 |[],h=>by cases h
 |x::l,h=>by
  rw[EA];rcases Co.1 h with rfl|h
  .omega
  .have:=Tc h;omega
theorem Td(x:Bc):1≤x.size:=by cases x;simp[Bc.size]
theorem V5: ∀(l:List Bc),l.length≤EA l
 |[]=>by simp
 |x::l=>by
  have:=Td x;have:=V5 l;simp[EA];omega
@[go_sem] theorem ADX(x:Bc)(h0:x.size≤60):BB (KL Tryz.prog cfg) 122 [.agg [.d (.int .i64 x.op),.d (.int .i64 x.n),.d (.be (x.kids.map Bg))]] []=.ok (.ret (.d (.int .i64 x.depth)),[]):=by
  revert h0
  induction x using Bc.ind with
  |h op n kids ih=>
  intro h0;simp only[Bc.op_mk,Bc.n_mk,Bc.kids_mk]at*;have hlen:=V5 kids;have hlen2:EA kids≤59:=by rw[Bc.size]at h0;omega
  clear h0;have ih: ∀k∈kids,BB (KL Tryz.prog cfg) 122 [.agg [.d (.int .i64 k.op),.d (.int .i64 k.n),.d (.be (k.kids.map Bg))]] []=.ok (.ret (.d (.int .i64 k.depth)),[]):=fun k hk=>ih k hk (by have:=Tc hk;omega)
  (refine Ae rfl Tryz.func122 rfl rfl rfl ?_;show Wp _ _ _ _ (Tryz.f122.body.get rfl) _ _;simp only[Tryz.f122,AS])
  refine aw ?_;refine rounds (S:=fun a:Nat×Nat=>⟨[(1,.ptr [0,0] 0),(3,.d (.int .i64 a.2)),(4,.d (.int .i64 a.1))],[([0,0],.box [.d (.int .i64 op),.d (.int .i64 n),.d (.be (kids.map Bg))])],1,[]⟩)
   (Inv:=fun a=>a.1≤kids.length∧a.2≤60∧EJ kids=max a.2 (EJ (kids.drop a.1))) (m:=fun a=>kids.length-a.1) (a:=(0,0)) ⟨by simp,by simp,by simp⟩ ?_
  rintro⟨i,c⟩ ⟨h2,h3,h4⟩ IH;dsimp only at*
  (repeat' (first|simp only[go_sem, *]|(refine sx ?_ ?_<;>intro hc)|refine sy (by omega) fun x hx hm=>?_|simp(disch:=first|assumption|omega) only[AK,ih]))
  .have h5:EJ (kids.drop i)=max x.depth (EJ (kids.drop (i+1))):=by
    rw[AR hx,EJ]
   have h6:=Yq x;have h7:=Tc hm;have e:(if (x.depth:Int)>(c:Int)then(x.depth:Int)else(c:Int))=((max c x.depth:Nat):Int):=by split<;>omega
   rw[e];simpa only[Int.natCast_add,Int.cast_ofNat_Int]using IH.out (i+1,max c x.depth) (by dsimp only;omega) ⟨by dsimp only;omega,by dsimp only;omega,by dsimp only;omega⟩
  .rw[Bc.depth,h4,D7 (by omega)];simp[EJ]
def Bc.ok(size:Int)(x:Bc):Bool:=decide (x.size≤60)&&(decide (x.depth≤12)&&x.formed size)
@[go_sem] theorem AAV(size:Int)(x:Bc):BB (KL Tryz.prog cfg) 76 [.agg [.d (.int .i64 x.op),.d (.int .i64 x.n),.d (.be (x.kids.map Bg))],.d (.int .i64 size)] []=.ok (.ret (.d (.bool (x.ok size))),[]):=by
  have h1:=Vk x 60 (by omega)
  (refine Ae rfl Tryz.func76 rfl rfl rfl ?_;show Wp _ _ _ _ (Tryz.f76.body.get rfl) _ _;simp only[Tryz.f76,AS])
  by_cases hs:x.size≤60
  .have h2:=h1.1 (by omega);clear h1
   (repeat' (first|simp only[go_sem, *]|(refine sx ?_ ?_<;>intro hc)|refine sy (by omega) fun x hx hm=>?_|simp(disch:=first|assumption|omega) only[AK,Qx]))
   all_goals grind [Bc.ok]
  .have h2:=h1.2 (by omega);clear h1
   (repeat' (first|simp only[go_sem, *]|(refine sx ?_ ?_<;>intro hc)|refine sy (by omega) fun x hx hm=>?_|simp(disch:=first|assumption|omega) only[AK,Qx]))
   all_goals grind [Bc.ok]
def CV.ok(v:CV):Bool:=decide (1≤v.kind)&&(decide (v.kind≤4)&&(!decide (v.kind=1)||(decide (-1000000000≤v.n)&&decide (v.n≤1000000000))))
def CL(n:Int):AV:=.iface 177 (.agg [.d (.int .i64 n)])
theorem dV(n:Int):flat (CL n)=true:=by simp[CL,flat,Fi,EU]
attribute [go_sem] dV
@[go_sem] theorem AHF(n:Int):BB (KL Tryz.prog cfg) 107 [.d (.int .i64 n)] []=.ok (.f9 (CL n),[]):=by
  (refine Ae rfl Tryz.func107 rfl rfl rfl ?_;show Wp _ _ _ _ (Tryz.f107.body.get rfl) _ _;simp only[Tryz.f107,AS])
  (repeat' (first|simp only[go_sem, *,CL]|(refine sx ?_ ?_<;>intro hc)|refine sy (by omega) fun x hx hm=>?_|simp(disch:=first|assumption|omega) only[AK]))
@[go_sem] theorem AHS(t:Bool):BB (KL Tryz.prog cfg) 62 [.d (.bool t)] []=CC (CL 2) t:=by
  cases t
  .rw[KE]
   (refine Ae rfl Tryz.func62 rfl rfl rfl ?_;show Wp _ _ _ _ (Tryz.f62.body.get rfl) _ _;simp only[Tryz.f62,AS])
   exact au
  .rw[LZ]
   (refine Ae rfl Tryz.func62 rfl rfl rfl ?_;show Wp _ _ _ _ (Tryz.f62.body.get rfl) _ _;simp only[Tryz.f62,AS])
   exact au
def Vn(x:Bc)(size depth left:Int):Prop:=(x.size:Int)≤left∧depth+x.depth≤13∧x.formed size=true
theorem AFY(x:Bc)(size:Int):Vn x size 1 60↔x.ok size=true:=by
 simp only[Vn,Bc.ok,AP,Ap];constructor
 .rintro⟨h1,h2,h3⟩;exact⟨by omega,by omega,h3⟩
 .rintro⟨h1,h2,h3⟩;exact⟨by omega,by omega,h3⟩
def HL:AV:=.iface 289 (.agg [.d (.int .i64 2)])
theorem dU:flat HL=true:=by simp[HL,flat,Fi,EU]
@[go_sem] theorem ADh(l:List Df)(h:AD)(id:Abs.Id)(off:Nat):DD cfg none (.call 189 [.ptr id off]::l) (some HL) h=XQ cfg none l h id off .i64 2 (h.get id):=by
  rw[HL,PH U2 (cB _)]
attribute [go_sem] dU
@[go_sem] theorem AG7(t:Bool):BB (KL Tryz.prog cfg) 199 [.d (.bool t)] []=CC HL t:=by
  cases t
  .rw[KE]
   (refine Ae rfl Tryz.func199 rfl rfl rfl ?_;show Wp _ _ _ _ (Tryz.f199.body.get rfl) _ _;simp only[Tryz.f199,AS])
   (repeat' (first|simp only[go_sem, *,HL]|(refine sx ?_ ?_<;>intro hc)|refine sy (by omega) fun x hx hm=>?_|simp(disch:=first|assumption|omega) only[AK]))
  .rw[LZ]
   (refine Ae rfl Tryz.func199 rfl rfl rfl ?_;show Wp _ _ _ _ (Tryz.f199.body.get rfl) _ _;simp only[Tryz.f199,AS])
   exact au
def Mh(op:Int):AV:=
 if op=1 then .iface 314 (.d (.int .i64 0))else if op=7 then .iface 314 (.d (.int .i64 0))else if op=3 then .iface 314 (.d (.int .i64 2))else if op=2 then .iface 307 (.agg [])else if op=5 then .iface 310 (.agg [])
 else if op=6 then .iface 308 (.agg [])else if op=8 then .iface 308 (.agg [])else if op=4 then .iface 309 (.agg [])else .d .of
theorem Hb(op:Int):BB (KL Tryz.prog cfg) 211 [.d (.int .i64 op)] []=.ok (.ret (Mh op),[]):=by
 (refine Ae rfl Tryz.func211 rfl rfl rfl ?_;show Wp _ _ _ _ (Tryz.f211.body.get rfl) _ _;simp only[Tryz.f211,AS])
 (repeat' (first|simp only[go_sem, *,Mh]|(refine sx ?_ ?_<;>intro hc)|refine sy (by omega) fun x hx hm=>?_|simp(disch:=first|assumption|omega) only[AK]))
@[go_sem] theorem AHG:BB (KL Tryz.prog cfg) 236 [.agg []] []=.ok (.ret (.d (.int .i64 0)),[]):=by
  (refine Ae rfl Tryz.func236 rfl rfl rfl ?_;show Wp _ _ _ _ (Tryz.f236.body.get rfl) _ _;simp only[Tryz.f236,AS])
  exact au
@[go_sem] theorem AHH:BB (KL Tryz.prog cfg) 237 [.agg []] []=.ok (.ret (.d (.int .i64 1)),[]):=by
  (refine Ae rfl Tryz.func237 rfl rfl rfl ?_;show Wp _ _ _ _ (Tryz.f237.body.get rfl) _ _;simp only[Tryz.f237,AS])
  exact au
@[go_sem] theorem AHI:BB (KL Tryz.prog cfg) 238 [.agg []] []=.ok (.ret (.d (.int .i64 1)),[]):=by
  (refine Ae rfl Tryz.func238 rfl rfl rfl ?_;show Wp _ _ _ _ (Tryz.f238.body.get rfl) _ _;simp only[Tryz.f238,AS])
  exact au
@[go_sem] theorem AHJ:BB (KL Tryz.prog cfg) 239 [.agg []] []=.ok (.ret (.d (.int .i64 2)),[]):=by
  (refine Ae rfl Tryz.func239 rfl rfl rfl ?_;show Wp _ _ _ _ (Tryz.f239.body.get rfl) _ _;simp only[Tryz.f239,AS])
  exact au
@[go_sem] theorem AHK(n:Int):BB (KL Tryz.prog cfg) 240 [.d (.int .i64 n)] []=.ok (.ret (.d (.int .i64 n)),[]):=by
  (refine Ae rfl Tryz.func240 rfl rfl rfl ?_;show Wp _ _ _ _ (Tryz.f240.body.get rfl) _ _;simp only[Tryz.f240,AS])
  exact au
def Bs.own(d:Bs):Nat:=d.am.length+d.ac.length
theorem AFc(d:Bs)(h1:d.am.length≤1000)(h2:d.ac.length≤1000):BB (KL Tryz.prog cfg) 214 [.agg [.d (.be (d.am.map A3)),.d (.be (d.ac.map Ao)),.d (.be (d.rules.map A0))]] []=.ok (.ret (.d (.int .i64 d.own)),[]):=by
 (refine Ae rfl Tryz.func214 rfl rfl rfl ?_;show Wp _ _ _ _ (Tryz.f214.body.get rfl) _ _;simp only[Tryz.f214,AS])
 refine aw ?_;all_goals simp[Bs.own]
theorem ACo(d:Bs)(h1:d.am.length≤1000)(h2:d.ac.length≤1000):BB (KL Tryz.prog cfg) 169 [.agg [.d (.be (d.am.map A3)),.d (.be (d.ac.map Ao)),.d (.be (d.rules.map A0))]] []=.ok (.ret (.d (.int .i64 d.own)),[]):=by
 (refine Ae rfl Tryz.func169 rfl rfl rfl ?_;show Wp _ _ _ _ (Tryz.f169.body.get rfl) _ _;simp only[Tryz.f169,AS])
 refine aw ?_;all_goals simp[Bs.own]
def CR(d:Bs):List Int→Int
 |[]=>0
 |j::l=>((d.am[j.toNat]?).map Hy.many).getD 0+CR d l
def Bs.joinsOk(d:Bs)(r:FG):Prop:=r.d7.length≤3∧(∀j∈r.d7,0≤j∧j<d.am.length)∧ ∀c∈d.am,0≤c.many∧c.many≤3
variable{i:Nat}
theorem get_some{α:Type}{l:List α}(h:i<l.length): ∃y,l[i]? =some y:=⟨_,BY h⟩
theorem kg(d:Bs)(r:FG)(hj:d.joinsOk r):BB (KL Tryz.prog cfg) 215 [.agg [.d (.be (d.am.map A3)),.d (.be (d.ac.map Ao)),.d (.be (d.rules.map A0))],.agg [.d (.int .i64 r.at_),.d (.be (r.d7.map AJ)),.d (.int .i64 r.node)]] []=.ok (.ret (.d (.int .i64 (CR d r.d7))),[]):=by
 obtain⟨h1,h2',h3'⟩:=hj;have h2:=AA.mk h2';have h3:=AA.mk h3';clear h2' h3'
 (refine Ae rfl Tryz.func215 rfl rfl rfl ?_;show Wp _ _ _ _ (Tryz.f215.body.get rfl) _ _;simp only[Tryz.f215,AS])
 refine aw ?_;refine rounds (S:=fun a:Nat×Int=>⟨[(2,.ptr [0,0] 0),(5,.d (.int .i64 a.2)),(9,.d (.be (r.d7.map AJ))),(10,.d (.int .i64 r.d7.length)),(11,.d (.int .i64 a.1))],[([0,0],.box [.d (.be (d.am.map A3)),.d (.be (d.ac.map Ao)),.d (.be (d.rules.map A0))])],1,[]⟩)
  (Inv:=fun a=>a.1≤r.d7.length∧0≤a.2∧a.2≤3*a.1∧AA (CR d r.d7=a.2+CR d (r.d7.drop a.1))) (m:=fun a=>r.d7.length-a.1) (a:=(0,0)) ⟨by simp,by simp,by simp,⟨by simp⟩⟩ ?_
 rintro⟨i,c⟩ ⟨k1,k2,k3,k4⟩ IH;dsimp only at*
 (repeat' (first|simp only[go_sem, *]|(refine sx ?_ ?_<;>intro hc)|refine sy (by omega) fun x hx hm=>?_|simp(disch:=first|assumption|omega) only[AK]))
 .have hd:=h2.out x hm;obtain⟨y,hy⟩:=get_some (l:=d.am) (i:=x.toNat) (by omega);have hy3:=h3.out y (Ac hy);refine aw ?_;refine IH.out (i+1,c+y.many) (by dsimp only;omega) ⟨by dsimp only;omega,by dsimp only;omega,by dsimp only;omega,⟨?_⟩⟩;dsimp only;rw[k4.out,AR hx,CR,hy];simp only[Es,F4];omega
 .rw[k4.out,D7 (by omega),CR,Int.add_zero]
theorem ACh(d:Bs)(r:FG)(hj:d.joinsOk r):BB (KL Tryz.prog cfg) 188 [.agg [.d (.be (d.am.map A3)),.d (.be (d.ac.map Ao)),.d (.be (d.rules.map A0))],.agg [.d (.int .i64 r.at_),.d (.be (r.d7.map AJ)),.d (.int .i64 r.node)]] []=.ok (.ret (.d (.int .i64 (CR d r.d7))),[]):=by
 obtain⟨h1,h2',h3'⟩:=hj;have h2:=AA.mk h2';have h3:=AA.mk h3';clear h2' h3'
 (refine Ae rfl Tryz.func188 rfl rfl rfl ?_;show Wp _ _ _ _ (Tryz.f188.body.get rfl) _ _;simp only[Tryz.f188,AS])
 refine aw ?_;refine rounds (S:=fun a:Nat×Int=>⟨[(2,.ptr [0,0] 0),(3,.ptr [0,1] 0),(5,.d (.int .i64 a.2)),(6,.d (.int .i64 a.1))],[([0,0],.box [.d (.be (d.am.map A3)),.d (.be (d.ac.map Ao)),.d (.be (d.rules.map A0))]),([0,1],.box [.d (.int .i64 r.at_),.d (.be (r.d7.map AJ)),.d (.int .i64 r.node)])],2,[]⟩)
  (Inv:=fun a=>a.1≤r.d7.length∧0≤a.2∧a.2≤3*a.1∧AA (CR d r.d7=a.2+CR d (r.d7.drop a.1))) (m:=fun a=>r.d7.length-a.1) (a:=(0,0)) ⟨by simp,by simp,by simp,⟨by simp⟩⟩ ?_
 rintro⟨i,c⟩ ⟨k1,k2,k3,k4⟩ IH;dsimp only at*;by_cases hi:i<r.d7.length
 .obtain⟨x,hx⟩:=get_some hi;have hd:=h2.out x (Ac hx);obtain⟨y,hy⟩:=get_some (l:=d.am) (i:=x.toNat) (by omega);have hy3:=h3.out y (Ac hy);have hi':(i:Int)<r.d7.length:=by omega
  refine aw ?_;refine IH.out (i+1,c+y.many) (by dsimp only;omega) ⟨by dsimp only;omega,by dsimp only;omega,by dsimp only;omega,⟨?_⟩⟩;dsimp only;rw[k4.out,AR hx,CR,hy];simp only[Es,F4];omega
 ·(repeat' (first|simp only[go_sem, *]|(refine sx ?_ ?_<;>intro hc)|refine sy (by omega) fun x hx hm=>?_|simp(disch:=first|assumption|omega) only[AK]))
  .omega
  .rw[k4.out,D7 (by omega),CR,Int.add_zero]
def Lj(b:UInt8):Bool:=decide (97≤b.toNat)&&decide (b.toNat≤122)
def kwL:List ByteArray:=[⟨#[97,110,100]⟩,⟨#[100,101,102]⟩,⟨#[101,108,115,101]⟩,⟨#[103,111]⟩,⟨#[105,102]⟩,⟨#[105,110]⟩,⟨#[112,108,97,99,101]⟩,⟨#[115,116,111,112]⟩,⟨#[116,104,101,110]⟩,⟨#[119,97,116,99,104]⟩]
def kwM:List (Aa×AV):=kwL.map fun k=>(.str k,.d (.bool true))
def E8(s:ByteArray):Bool:=decide (1≤s.size)&&(decide (s.size≤8)&&(s.data.toList.all Lj&& !kwL.any (· ==s)))
@[go_sem] theorem AEa(l:List ByteArray)(s:ByteArray)(hl:l.length≤1000):BB (KL Tryz.prog cfg) 167 [.d (.be (l.map Av)),.d (.str s)] []=.ok (.ret (.d (.bool (l.any (· ==s)))),[]):=by
  (refine Ae rfl Tryz.func167 rfl rfl rfl ?_;show Wp _ _ _ _ (Tryz.f167.body.get rfl) _ _;simp only[Tryz.f167,AS])
  refine aw ?_;refine rounds (S:=fun i:Nat=>⟨[(0,.d (.be (l.map Av))),(1,.d (.str s)),(5,.d (.int .i64 i))],[],0,[]⟩) (Inv:=fun i=>i≤l.length∧AA (l.any (· ==s)=(l.drop i).any (· ==s))) (m:=fun i=>l.length-i) (a:=0) ⟨by simp,⟨by simp⟩⟩ ?_;rintro i ⟨k1,k2⟩ IH
  (repeat' (first|simp only[go_sem, *]|(refine sx ?_ ?_<;>intro hc)|refine sy (by omega) fun x hx hm=>?_|simp(disch:=first|assumption|omega) only[AK]))
  .rw[k2.out,AR hx,List.any_cons];simp[*]
  .refine IH.out (i+1) (by omega) ⟨by omega,⟨?_⟩⟩;rw[k2.out,AR hx,List.any_cons];simp[*]
  .rw[k2.out,D7 (by omega)];rfl
variable{s:ByteArray}
theorem S7{v:AV}: ∀{es:List (Aa×AV)},C4 es (.str s)=some none→Ec es (.str s) v=es++[(.str s,v)]
 |[],_=>rfl
 |(k,w)::es,h=>by
  unfold C4 at h;unfold Ec;split at h
  .cases h
  .rename_i hk;rw[hk];simp only[F3,No,TY];exact S7 h
  .cases h
variable{h:AD}
theorem ABC{id:Abs.Id}{es:List (Aa×AV)}(hg:h.get id=some (.map es))(hm:C4 es (.str s)=some none):mapPut cfg.T h.get (cfg.T 300) (.mp id) (.d (.str s)) (.d (.bool true))=some ⟨.undef,[(id,.map (es++[(.str s,.d (.bool true))]))]⟩:=by
 unfold mapPut;simp only[ADx,L6,T9,J3,AV.isCell,NO,hg,hm,S7 hm]
theorem vh(id:Abs.Id)(o:Abs.Obj):AD.get [(id,o)] id=some o:=by simp only[Bo,is_self,F2]
@[go_sem] theorem ADg(k:Nat)(ρ:List Nat):BB (KL Tryz.prog cfg) 210 [] (k::ρ)=.ok (.ret (.mp (1::1::k::ρ)),[(1::1::k::ρ,.map kwM)]):=by
  (refine Ae rfl Tryz.func210 rfl rfl rfl ?_;show Wp _ _ _ _ (Tryz.f210.body.get rfl) _ _;simp only[Tryz.f210,AS])
  refine aw ?_
  iterate 10 (rw[←ADx,ABC (vh _ _)];rotate_left;exact rfl;refine aw ?_)
  rfl
theorem XX: ∀(L:List ByteArray) (s:ByteArray),C4 (L.map fun k=>(Aa.str k,.d (.bool true))) (.str s)=some (if L.any (· ==s)=true then some (.d (.bool true))else none)
 |[],s=>by simp[C4]
 |k::L,s=>by
  rw[Cs,C4,HJ];cases hk:(k==s)with
  |true=>simp[hk]
  |false=>
   simp only[XX L s,List.any_cons,hk,Ip]
theorem AEe(h:(kwL.any fun x=>x==s)=true):C4 kwM (.str s)=some (some (.d (.bool true))):=by
 rw[kwM,XX,D0 h]
theorem AGp(h:(kwL.any fun x=>x==s)=false):C4 kwM (.str s)=some none:=by
 rw[kwM,XX,CI (by rw[h];simp)]
@[go_sem] theorem AH0(s:ByteArray):BB (KL Tryz.prog cfg) 167 [.d (.be [[.str ⟨#[97,110,100]⟩],[.str ⟨#[100,101,102]⟩],[.str ⟨#[101,108,115,101]⟩],[.str ⟨#[103,111]⟩],[.str ⟨#[105,102]⟩],[.str ⟨#[105,110]⟩],[.str ⟨#[112,108,97,99,101]⟩],[.str ⟨#[115,116,111,112]⟩],[.str ⟨#[116,104,101,110]⟩],[.str ⟨#[119,97,116,99,104]⟩]]),.d (.str s)] []=.ok (.ret (.d (.bool (kwL.any (· ==s)))),[]):=AEa kwL s (by decide)
variable{b:UInt8}
theorem QJ(h: ¬(97≤b.toNat∧b.toNat≤122)):Lj b=false:=by
 simp only[Lj,RC,Rc];omega
theorem XV(h:97≤b.toNat∧b.toNat≤122):Lj b=true:=by
 simp only[Lj,AP,Ap];exact h
theorem xg(s:ByteArray):BB (KL Tryz.prog cfg) 127 [.d (.str s)] []=.ok (.ret (.d (.bool (E8 s))),[]):=by
 have hsz:s.data.toList.length=s.size:=by cases s;rfl
 (refine Ae rfl Tryz.func127 rfl rfl rfl ?_;show Wp _ _ _ _ (Tryz.f127.body.get rfl) _ _;simp only[Tryz.f127,AS])
 (repeat' (first|simp only[go_sem, *]|(refine sx ?_ ?_<;>intro hc)|refine sy (by omega) fun x hx hm=>?_|simp(disch:=first|assumption|omega) only[AK]))
 .rw[E8,By (by omega)];rfl
 .rw[E8,By (p:=s.size≤8) (by omega),CO,GS]
 have h1:1≤s.size:=by omega
 have h8:s.size≤8:=by omega
 refine rounds (S:=fun i:Nat=>⟨[(0,.d (.str s)),(3,.d (.int .i64 i))],[],0,[]⟩) (Inv:=fun i=>i≤s.size∧AA (s.data.toList.all Lj=(s.data.toList.drop i).all Lj)) (m:=fun i=>s.size-i) (a:=0) ⟨by simp,⟨by simp⟩⟩ ?_;rintro i ⟨k1,k2⟩ IH
 (repeat' (first|simp only[go_sem, *]|(refine sx ?_ ?_<;>intro hc)|refine sy (by omega) fun x hx hm=>?_|simp(disch:=first|assumption|omega) only[AK]))
 .have:s.data.toList.all Lj=false:=by rw[k2.out,AR hx,D4,QJ (by omega)];rfl
  simp[E8,this]
 .have:s.data.toList.all Lj=false:=by rw[k2.out,AR hx,D4,QJ (by omega)];rfl
  simp[E8,this]
 .refine IH.out (i+1) (by omega) ⟨by omega,⟨?_⟩⟩;rw[k2.out,AR hx,D4,XV (by omega)];rfl
 .have:s.data.toList.all Lj=true:=by rw[k2.out,D7 (by omega)];rfl
  simp[E8,this,h1,h8]
theorem ACi(s:ByteArray)(hs:s.size≤9223372036854775807):BB (KL Tryz.prog cfg) 200 [.d (.str s)] []=.ok (.ret (.d (.bool (E8 s))),[]):=by
 have hsz:s.data.toList.length=s.size:=by cases s;rfl
 (refine Ae rfl Tryz.func200 rfl rfl rfl ?_;show Wp _ _ _ _ (Tryz.f200.body.get rfl) _ _;simp only[Tryz.f200,AS])
 refine aw ?_;refine rounds (S:=fun i:Nat=>⟨[(0,.d (.str s)),(5,.d (.int .i64 s.size)),(6,.d (.int .i64 i))],[],0,[]⟩) (Inv:=fun i=>i≤s.size∧AA (s.data.toList.all Lj=(s.data.toList.drop i).all Lj)) (m:=fun i=>s.size-i) (a:=0) ⟨by simp,⟨by simp⟩⟩ ?_;rintro i ⟨k1,k2⟩ IH;cases hk:kwL.any (· ==s)with
 |false=>
  (repeat' (first|simp only[go_sem, *,AGp hk]|(refine sx ?_ ?_<;>intro hc)|refine sy (by omega) fun x hx hm=>?_|simp(disch:=first|assumption|omega) only[AK]))
  .have:s.data.toList.all Lj=false:=by rw[k2.out,AR hx,D4,QJ (by omega)];rfl
   simp[E8,this]
  .have:s.data.toList.all Lj=false:=by rw[k2.out,AR hx,D4,QJ (by omega)];rfl
   simp[E8,this]
  .refine IH.out (i+1) (by omega) ⟨by omega,⟨?_⟩⟩;rw[k2.out,AR hx,D4,XV (by omega)];rfl
  .have:s.data.toList.all Lj=true:=by rw[k2.out,D7 (by omega)];rfl
   have h1:1≤s.size:=by omega
   have h8:s.size≤8:=by omega
   simp[E8,this,h1,h8,hk]
  .rw[E8,By (p:=s.size≤8) (by omega),CO,GS]
  .rw[E8,By (by omega)];rfl
 |true=>
  (repeat' (first|simp only[go_sem, *,AEe hk]|(refine sx ?_ ?_<;>intro hc)|refine sy (by omega) fun x hx hm=>?_|simp(disch:=first|assumption|omega) only[AK]))
  .have:s.data.toList.all Lj=false:=by rw[k2.out,AR hx,D4,QJ (by omega)];rfl
   simp[E8,this]
  .have:s.data.toList.all Lj=false:=by rw[k2.out,AR hx,D4,QJ (by omega)];rfl
   simp[E8,this]
  .refine IH.out (i+1) (by omega) ⟨by omega,⟨?_⟩⟩;rw[k2.out,AR hx,D4,XV (by omega)];rfl
  .have:s.data.toList.all Lj=true:=by rw[k2.out,D7 (by omega)];rfl
   have h1:1≤s.size:=by omega
   have h8:s.size≤8:=by omega
   simp[E8,this,h1,h8,hk]
  .rw[E8,By (p:=s.size≤8) (by omega),CO,GS]
  .rw[E8,By (by omega)];rfl
set_option maxHeartbeats 4000000
def UY(x:Int):List Int→Int→Int
 |[],_=> -1
 |y::l,i=>if x=y then i else UY x l (i+1)
@[go_sem] theorem AGl(l:List Int)(v:Int)(hl:l.length≤1000000):BB (KL Tryz.prog cfg) 220 [.d (.be (l.map AJ)),.d (.int .i64 v)] []=.ok (.ret (.d (.int .i64 (UY v l 0))),[]):=by
  (refine Ae rfl Tryz.func220 rfl rfl rfl ?_;show Wp _ _ _ _ (Tryz.f220.body.get rfl) _ _;simp only[Tryz.f220,AS])
  refine aw ?_;refine rounds (S:=fun i:Nat=>⟨[(0,.d (.be (l.map AJ))),(1,.d (.int .i64 v)),(7,.d (.int .i64 l.length)),(8,.d (.int .i64 i))],[],0,[]⟩) (Inv:=fun i=>i≤l.length∧AA (UY v l 0=UY v (l.drop i) i)) (m:=fun i=>l.length-i) (a:=0) ⟨by simp,⟨by simp⟩⟩ ?_;rintro i ⟨k1,k2⟩ IH
  (repeat' (first|simp only[go_sem, *]|(refine sx ?_ ?_<;>intro hc)|refine sy (by omega) fun x hx hm=>?_|simp(disch:=first|assumption|omega) only[AK]))
  .subst hc;rw[k2.out,AR hx,UY,D0 rfl]
  .refine IH.out (i+1) (by omega) ⟨by omega,⟨?_⟩⟩;rw[k2.out,AR hx,UY,CI (by assumption)];rfl
  .rw[k2.out,D7 (by omega),UY]
theorem Zi(v:Int): ∀(l:List Int) (i:Int),0≤i→(0≤UY v l i↔v∈l)
 |[],i,h=>by simp[UY]
 |y::l,i,h=>by
  rw[UY];split
  .rename_i e;simp[e,h]
  .rename_i e;rw[Zi v l (i+1) (by omega)];simp[e]
@[go_sem] theorem Yl(l:List Int)(v:Int)(hl:l.length≤1000000):BB (KL Tryz.prog cfg) 219 [.d (.be (l.map AJ)),.d (.int .i64 v)] []=.ok (.ret (.d (.bool (decide (v∈l)))),[]):=by
  have h:=Zi v l 0 (by omega)
  (refine Ae rfl Tryz.func219 rfl rfl rfl ?_;show Wp _ _ _ _ (Tryz.f219.body.get rfl) _ _;simp only[Tryz.f219,AS])
  exact au
theorem a8(d:Bs)(n:Int)(h:AD)(π:List Nat)(id:Abs.Id)(hg:h.get id=some (.box [.d (.be (d.am.map A3)),.d (.be (d.ac.map Ao)),.d (.be (d.rules.map A0))])):
 ∃o h',KL Tryz.prog cfg (.fn 218) [.d (.int .i64 n),.ptr id 0] h π true none=.ok (o,h')∧h'=h∧o=if 0≤n∧n≤d.ac.length then .ret (.ge [])else .f9 HL:=by
 (refine Aj rfl Tryz.func218 rfl rfl rfl ?_;show Wp _ _ _ _ (Tryz.f218.body.get rfl) _ _;simp only[Tryz.f218,AS])
 (repeat' (first|simp only[go_sem, *]|(refine sx ?_ ?_<;>intro hc)|refine sy (by omega) fun x hx hm=>?_|simp(disch:=first|assumption|omega) only[AK]))
 all_goals simp
def Cl(d:Bs)(c:Hy):Bool:=decide (0≤c.at_∧c.at_≤d.ac.length)&&(decide (0≤c.many)&&decide (c.many≤3))
def DF:Nat→List Nc→Bool
 |_,[]=>true
 |i,s::l=>decide (0≤s.rc)&&(decide (s.rc≤i)&&DF (i+1) l)
def GX(d:Bs)(r:FG)(i:Nat)(c:Int):Bool:=decide (0≤c)&&(decide (c<d.am.length)&&(decide (((d.am[c.toNat]?).map Hy.at_).getD 0=r.at_)&& !decide (c∈r.d7.take i)))
def joinsOk(d:Bs)(r:FG):Nat→List Int→Bool
 |_,[]=>true
 |i,c::l=>GX d r i c&&joinsOk d r (i+1) l
def Bd(d:Bs)(r:FG):Bool:=decide (0≤r.at_∧r.at_≤d.ac.length)&&(decide (0<r.d7.length)&&(decide (r.d7.length≤3)&&joinsOk d r 0 r.d7))
def PE(l:List Int)(c:Int):List Int:=if c∈l then l else l++[c]
def Gf(l:List Int):List (Aa×AV):=l.map fun c=>(.int .i64 c,.d (.bool true))
def GR(l:List Int)(rs:List FG):List Int:=rs.foldl (fun l r=>r.d7.foldl PE l) l
def Bs.okG(d:Bs):Bool:=decide (d.am.length≤30)&&(decide (d.ac.length≤30)&&(decide (d.rules.length≤30)&&(d.am.all (Cl d)&&(DF 0 d.ac&&(d.rules.all (Bd d)&&decide ((GR [] d.rules).length=d.am.length))))))
def IV(v:AV)(t:Bool):Ad×AD:=if t=true then(.ret (.ge []),[])else(.f9 v,[])
theorem jA(v:AV):IV v true=(.ret (.ge []),[]):=rfl
theorem DC(v:AV):IV v false=(.f9 v,[]):=rfl
theorem Tq(v:AV)(t:Bool):CC v t=.ok (IV v t):=by cases t<;>rfl
theorem ic(st:List Int)(c:Int):C4 (Gf st) (.int .i64 c)=some (if c∈st then some (.d (.bool true))else none):=by
 induction st with
 |nil=>rfl
 |cons a st ih=>
  show C4 ((.int .i64 a,.d (.bool true))::Gf st) _=_;rw[C4,HJ];simp only[F2];by_cases h:a=c
  .subst h;simp
  .have h1:(a==c)=false:=by simpa using h
   have h2: ¬c=a:=fun e=>h e.symm;rw[h1,ih];simp[h2]
theorem ie(st:List Int)(c:Int):Ec (Gf st) (.int .i64 c) (.d (.bool true))=Gf (PE st c):=by
 induction st with
 |nil=>rfl
 |cons a st ih=>
  show Ec ((.int .i64 a,.d (.bool true))::Gf st) _ _=_;rw[Ec,HJ];simp only[F2];by_cases h:a=c
  .subst h;simp[PE,Gf]
  .have h1:(a==c)=false:=by simpa using h
   have h2: ¬c=a:=fun e=>h e.symm;rw[h1];simp only;rw[ih];simp only[PE,Co,h2,false_or];split<;>rfl
theorem ABB{id:Abs.Id}{st:List Int}{c:Int}(hg:h.get id=some (.map (Gf st))):mapPut cfg.T h.get (cfg.T 315) (.mp id) (.d (.int .i64 c)) (.d (.bool true))=some ⟨.undef,[(id,.map (Gf (PE st c)))]⟩:=by
 unfold mapPut;simp only[ADy,L6,T3,J3,AV.isCell,NO,hg,ic,ie]
@[go_sem] theorem AFl(st:List Int):(Gf st).flatMap (fun p=>AF p.2)=[]:=by
  induction st with
  |nil=>rfl
  |cons a st ih=>exact ih
@[go_sem] theorem AFm(ν:Abs.Id→Option Abs.Id)(st:List Int):(Gf st).map (fun p=>(p.1,Gm ν p.2))=Gf st:=by
  induction st with
  |nil=>rfl
  |cons a st ih=>exact congrArg (List.cons _) ih
variable{d:Bs}
theorem ew(h:d.am.all (Cl d)=false):d.okG=false:=by simp only[Bs.okG,h,CO,GS]
theorem xw(h:DF 0 d.ac=false):d.okG=false:=by simp only[Bs.okG,h,CO,GS]
theorem Xb(h:d.rules.all (Bd d)=false):d.okG=false:=by simp only[Bs.okG,h,CO,GS]
theorem AFZ(h: ¬(GR [] d.rules).length=d.am.length):d.okG=false:=by simp only[Bs.okG,By h,GS]
theorem AED(d:Bs):BB (KL Tryz.prog cfg) 213 [.agg [.d (.be (d.am.map A3)),.d (.be (d.ac.map Ao)),.d (.be (d.rules.map A0))]] []=.ok (IV HL d.okG):=by
 (refine Ae rfl Tryz.func213 rfl rfl rfl ?_;show Wp _ _ _ _ (Tryz.f213.body.get rfl) _ _;simp only[Tryz.f213,AS])
 (repeat' (first|simp only[go_sem, *]|(refine sx ?_ ?_<;>intro hc)|refine sy (by omega) fun x hx hm=>?_|simp(disch:=first|assumption|omega) only[AK]))
 all_goals try(rw[show d.okG=false by simp[Bs.okG];omega,DC])
 have c1:d.am.length≤30:=by omega
 have c2:d.ac.length≤30:=by omega
 have c3:d.rules.length≤30:=by omega
 refine rounds (S:=fun i:Nat=>⟨[(1,.ptr [0,0] 0),(2,.fn 218 [] [.ptr [0,0] 0]),(31,.d (.be (d.am.map A3))),(32,.d (.int .i64 d.am.length)),(33,.d (.int .i64 i))],[([0,0],.box [.d (.be (d.am.map A3)),.d (.be (d.ac.map Ao)),.d (.be (d.rules.map A0))])],1,[]⟩)
  (Inv:=fun i=>i≤d.am.length∧AA (d.am.all (Cl d)=(d.am.drop i).all (Cl d))) (m:=fun i=>d.am.length-i) (a:=0) ⟨by simp,⟨by simp⟩⟩ ?_
 clear hc;rintro i ⟨k1,k2⟩ IH
 (repeat' (first|simp only[go_sem, *]|(refine sx ?_ ?_<;>intro hc)|refine sy (by omega) fun x hx hm=>?_|simp(disch:=first|assumption|omega) only[AK]))
 .refine AZ (a8 d x.at_ _ _ _ ?_) (fun o1 g1 p1=>?_)
  .simp only[go_sem]
  obtain⟨rfl,rfl⟩:=p1;by_cases kp:0≤x.at_∧x.at_≤d.ac.length
  .rw[D0 kp]
   (repeat' (first|simp only[go_sem, *]|(refine sx ?_ ?_<;>intro hc)|refine sy (by omega) fun x hx hm=>?_|simp(disch:=first|assumption|omega) only[AK]))
   .refine IH.out (i+1) (by omega) ⟨by omega,⟨?_⟩⟩;rw[k2.out,AR hx,D4,show Cl d x=true by simp[Cl, *],EM]
   .rw[ew,DC];rw[k2.out,AR hx,D4,show Cl d x=false by simp[Cl, *],CO]
   .rw[ew,DC];rw[k2.out,AR hx,D4,show Cl d x=false by simp[Cl, *],CO]
  .rw[CI kp];refine aw ?_;rw[ew,DC];rw[k2.out,AR hx,D4,show Cl d x=false by simp only[Cl,By kp,CO],CO]
 have hch:d.am.all (Cl d)=true:=by rw[k2.out,D7 (by omega)];rfl
 clear hc k1 k2 IH i;refine rounds (S:=fun i:Nat=>⟨[(1,.ptr [0,0] 0),(2,.fn 218 [] [.ptr [0,0] 0]),(52,.d (.be (d.ac.map Ao))),(53,.d (.int .i64 d.ac.length)),(54,.d (.int .i64 i))],[([0,0],.box [.d (.be (d.am.map A3)),.d (.be (d.ac.map Ao)),.d (.be (d.rules.map A0))])],1,[]⟩)
  (Inv:=fun i=>i≤d.ac.length∧AA (DF 0 d.ac=DF i (d.ac.drop i))) (m:=fun i=>d.ac.length-i) (a:=0) ⟨by simp,⟨by simp⟩⟩ ?_
 rintro i ⟨k1,k2⟩ IH
 (repeat' (first|simp only[go_sem, *]|(refine sx ?_ ?_<;>intro hc)|refine sy (by omega) fun x hx hm=>?_|simp(disch:=first|assumption|omega) only[AK]))
 .refine IH.out (i+1) (by omega) ⟨by omega,⟨?_⟩⟩;rw[k2.out,AR hx,DF];simp[*]
 .rw[xw,DC];rw[k2.out,AR hx,DF];simp[*]
 .rw[xw,DC];rw[k2.out,AR hx,DF];simp[*]
 have hsp:DF 0 d.ac=true:=by rw[k2.out,D7 (by omega)];rfl
 clear hc k1 k2 IH i;refine rounds (S:=fun a:Nat×List Int=>⟨[(1,.ptr [0,0] 0),(2,.fn 218 [] [.ptr [0,0] 0]),(7,.mp [1,1]),(72,.d (.be (d.rules.map A0))),(73,.d (.int .i64 d.rules.length)),(74,.d (.int .i64 a.1))],[([0,0],.box [.d (.be (d.am.map A3)),.d (.be (d.ac.map Ao)),.d (.be (d.rules.map A0))]),([1,1],.map (Gf a.2))],2,[]⟩)
  (Inv:=fun a=>a.1≤d.rules.length∧AA (d.rules.all (Bd d)=(d.rules.drop a.1).all (Bd d))∧AA (GR [] d.rules=GR a.2 (d.rules.drop a.1))) (m:=fun a=>d.rules.length-a.1) (a:=(0,[])) ⟨by simp,⟨by simp⟩,⟨by simp⟩⟩ ?_
 rintro⟨i,st⟩ ⟨k1,k2,k3⟩ IH;dsimp only at*;by_cases hi:i<d.rules.length
 .obtain⟨r,hx⟩:=get_some hi;have hi':(i:Int)<d.rules.length:=by omega
  refine aw ?_;refine AZ (a8 d r.at_ _ _ _ ?_) (fun o1 g1 p1=>?_)
  .simp only[go_sem]
  obtain⟨rfl,rfl⟩:=p1;by_cases kp:0≤r.at_∧r.at_≤d.ac.length
  .rw[D0 kp]
   (repeat' (first|simp only[go_sem, *]|(refine sx ?_ ?_<;>intro hc)|refine sy (by omega) fun x hx hm=>?_|simp(disch:=first|assumption|omega) only[AK]))
   ·
    refine rounds (S:=fun a:Nat×List Int=>⟨[(1,.ptr [0,0] 0),(2,.fn 218 [] [.ptr [0,0] 0]),(7,.mp [1,1]),(9,.ptr [0,2] 0),(72,.d (.be (d.rules.map A0))),(73,.d (.int .i64 d.rules.length)),(74,.d (.int .i64 i)),(94,.d (.be (r.d7.map AJ))),(95,.d (.int .i64 r.d7.length)),(96,.d (.int .i64 a.1))],[([0,0],.box [.d (.be (d.am.map A3)),.d (.be (d.ac.map Ao)),.d (.be (d.rules.map A0))]),([1,1],.map (Gf a.2)),([0,2],.box [.d (.int .i64 r.at_),.d (.be (r.d7.map AJ)),.d (.int .i64 r.node)])],3,[]⟩)
     (Inv:=fun a=>a.1≤r.d7.length∧AA (joinsOk d r 0 r.d7=joinsOk d r a.1 (r.d7.drop a.1))∧AA (GR [] d.rules=GR ((r.d7.drop a.1).foldl PE a.2) (d.rules.drop (i+1)))) (m:=fun a=>r.d7.length-a.1) (a:=(0,st)) ⟨by simp,⟨by simp⟩,⟨by rw[k3.out,AR hx];rfl⟩⟩ ?_
    rintro⟨k,st2⟩ ⟨j1,j2,j3⟩ IH2;dsimp only at*;by_cases hk:k<r.d7.length
    .obtain⟨c,hy⟩:=get_some hk;have hk':(k:Int)<r.d7.length:=by omega
     have hlt:(r.d7.take k).length≤1000000:=by simp;omega
     have hbad:AA (GX d r k c=false→(Ad.f9 HL,([]:AD))=IV HL d.okG):=.mk fun hb=>by
      have hj:joinsOk d r 0 r.d7=false:=by rw[j2.out,AR hy,joinsOk,hb,CO]
      rw[Xb,DC];rw[k2.out,AR hx,D4,show Bd d r=false by simp only[Bd,hj,GS],CO]
     by_cases hc0:0≤c
     .by_cases hc1:c<d.am.length
      .obtain⟨y,hyc⟩:=get_some (l:=d.am) (i:=c.toNat) (by omega);have hjo:GX d r k c=(decide (y.at_=r.at_)&& !decide (c∈r.d7.take k)):=by
        simp only[GX,hyc,Es,F4,Ci hc0,Ci hc1,EM]
       (repeat' (first|simp only[go_sem, *]|(refine sx ?_ ?_<;>intro hc)|refine sy (by omega) fun x hx hm=>?_|simp(disch:=first|assumption|omega) only[AK,Yl]))
       .rw[←ADy,ABB (st:=st2) (by simp only[go_sem])];refine aw ?_;refine IH2.out (k+1,PE st2 c) (by dsimp only;omega) ⟨by dsimp only;omega,⟨?_⟩,⟨?_⟩⟩
        .dsimp only;rw[j2.out,AR hy,joinsOk,hjo];simp only[*,decide_true,decide_false,OS,Ol,EM,CO]
        .dsimp only;rw[j3.out,AR hy,Md]
       .exact hbad.out (by rw[hjo];simp only[*,decide_true,decide_false,OS,Ol,EM,CO])
       .exact hbad.out (by rw[hjo,By (by assumption),CO])
      .refine aw ?_;exact hbad.out (by simp only[GX,By hc1,CO,GS])
     .refine aw ?_;exact hbad.out (by simp only[GX,By hc0,CO])
    .have hk': ¬(k:Int)<r.d7.length:=by omega
     refine aw ?_;refine IH.out (i+1,st2) (by dsimp only;omega) ⟨by dsimp only;omega,⟨?_⟩,⟨?_⟩⟩
     .dsimp only;rw[k2.out,AR hx,D4,show Bd d r=true by
       rw[D7 (by omega)]at j2;simp only[Bd,Ci kp,j2.out,joinsOk];simp;omega,EM]
     .dsimp only;rw[j3.out,D7 (by omega)];rfl
   .rw[Xb,DC];rw[k2.out,AR hx,D4,show Bd d r=false by simp[Bd];omega,CO]
   .rw[Xb,DC];rw[k2.out,AR hx,D4,show Bd d r=false by simp[Bd];omega,CO]
  .rw[CI kp];refine aw ?_;rw[Xb,DC];rw[k2.out,AR hx,D4,show Bd d r=false by simp only[Bd,By kp,CO],CO]
 .have hi': ¬(i:Int)<d.rules.length:=by omega
  have hru:d.rules.all (Bd d)=true:=by rw[k2.out,D7 (by omega)];rfl
  have hst:(GR [] d.rules).length=(Gf st).length:=by
   rw[k3.out,D7 (by omega)];simp[GR,Gf]
  (repeat' (first|simp only[go_sem, *]|(refine sx ?_ ?_<;>intro hc)|refine sy (by omega) fun x hx hm=>?_|simp(disch:=first|assumption|omega) only[AK]))
  .rw[show d.okG=true by
    simp only[Bs.okG,hch,hsp,hru,Ci c1,Ci c2,Ci c3,EM,Ap];omega,jA]
  .rw[AFZ (by omega),DC]
def Cf(t:Bool):List Aa:=[.bool t]
attribute [go_sem] Cf
def OY(u:List Bool)(c:Int):List Bool:=u.set c.toNat true
def Mo(u:List Bool)(rs:List FG):List Bool:=rs.foldl (fun u r=>r.d7.foldl OY u) u
def Bs.okR(d:Bs):Bool:=decide (d.am.length≤30)&&(decide (d.ac.length≤30)&&(decide (d.rules.length≤30)&&(d.am.all (Cl d)&&(DF 0 d.ac&&(d.rules.all (Bd d)&&(Mo (List.replicate d.am.length false) d.rules).all id)))))
theorem Xc(h:d.am.all (Cl d)=false):d.okR=false:=by simp only[Bs.okR,h,CO,GS]
theorem xx(h:DF 0 d.ac=false):d.okR=false:=by simp only[Bs.okR,h,CO,GS]
theorem QS(h:d.rules.all (Bd d)=false):d.okR=false:=by simp only[Bs.okR,h,CO,GS]
theorem AFa(h:(Mo (List.replicate d.am.length false) d.rules).all id=false):d.okR=false:=by simp only[Bs.okR,h,GS]
theorem z9(d:Bs):BB (KL Tryz.prog cfg) 128 [.agg [.d (.be (d.am.map A3)),.d (.be (d.ac.map Ao)),.d (.be (d.rules.map A0))]] []=.ok (.ret (.d (.bool d.okR)),[]):=by
 (refine Ae rfl Tryz.func128 rfl rfl rfl ?_;show Wp _ _ _ _ (Tryz.f128.body.get rfl) _ _;simp only[Tryz.f128,AS])
 (repeat' (first|simp only[go_sem, *]|(refine sx ?_ ?_<;>intro hc)|refine sy (by omega) fun x hx hm=>?_|simp(disch:=first|assumption|omega) only[AK]))
 all_goals try(rw[show d.okR=false by simp[Bs.okR];omega])
 have c1:d.am.length≤30:=by omega
 have c2:d.ac.length≤30:=by omega
 have c3:d.rules.length≤30:=by omega
 refine rounds (S:=fun i:Nat=>⟨[(1,.ptr [0,0] 0),(3,.d (.int .i64 i))],[([0,0],.box [.d (.be (d.am.map A3)),.d (.be (d.ac.map Ao)),.d (.be (d.rules.map A0))])],1,[]⟩)
  (Inv:=fun i=>i≤d.am.length∧AA (d.am.all (Cl d)=(d.am.drop i).all (Cl d))) (m:=fun i=>d.am.length-i) (a:=0) ⟨by simp,⟨by simp⟩⟩ ?_
 clear hc;rintro i ⟨k1,k2⟩ IH
 (repeat' (first|simp only[go_sem, *]|(refine sx ?_ ?_<;>intro hc)|refine sy (by omega) fun x hx hm=>?_|simp(disch:=first|assumption|omega) only[AK]))
 .rw[Xc];rw[k2.out,AR hx,D4,show Cl d x=false by simp[Cl];omega,CO]
 .rw[Xc];rw[k2.out,AR hx,D4,show Cl d x=false by simp[Cl];omega,CO]
 .rw[Xc];rw[k2.out,AR hx,D4,show Cl d x=false by simp[Cl];omega,CO]
 .rw[Xc];rw[k2.out,AR hx,D4,show Cl d x=false by simp[Cl];omega,CO]
 .refine IH.out (i+1) (by omega) ⟨by omega,⟨?_⟩⟩;rw[k2.out,AR hx,D4,show Cl d x=true by simp[Cl];omega,EM]
 have hch:d.am.all (Cl d)=true:=by rw[k2.out,D7 (by omega)];rfl
 clear hc k1 k2 IH i;refine rounds (S:=fun i:Nat=>⟨[(1,.ptr [0,0] 0),(4,.d (.int .i64 i))],[([0,0],.box [.d (.be (d.am.map A3)),.d (.be (d.ac.map Ao)),.d (.be (d.rules.map A0))])],1,[]⟩)
  (Inv:=fun i=>i≤d.ac.length∧AA (DF 0 d.ac=DF i (d.ac.drop i))) (m:=fun i=>d.ac.length-i) (a:=0) ⟨by simp,⟨by simp⟩⟩ ?_
 rintro i ⟨k1,k2⟩ IH
 (repeat' (first|simp only[go_sem, *]|(refine sx ?_ ?_<;>intro hc)|refine sy (by omega) fun x hx hm=>?_|simp(disch:=first|assumption|omega) only[AK]))
 .rw[xx];rw[k2.out,AR hx,DF];simp;omega
 .rw[xx];rw[k2.out,AR hx,DF];simp;omega
 .refine IH.out (i+1) (by omega) ⟨by omega,⟨?_⟩⟩;rw[k2.out,AR hx,DF,Ci (by omega),Ci (by omega),EM,EM]
 have hsp:DF 0 d.ac=true:=by rw[k2.out,D7 (by omega)];rfl
 by_cases hz:d.am=[]
 .rw[hz];clear hc k1 k2 IH;refine aw ?_;rw[C7];have hcl:d.am.length=0:=by rw[hz];rfl
  rcases hr:d.rules with _|⟨r,rs⟩
  .refine aw ?_;rw[C7];refine aw ?_;rw[show d.okR=true by
    simp only[Bs.okR,hch,hsp,hr,hz,Mo];simp;exact c2]
  .have hno:AA (Bd d r=false→false=d.okR):=.mk fun h=>by
    rw[QS];rw[hr,D4,h,CO]
   clear hch;rcases hj:r.d7 with _|⟨c,cs⟩
   ·(repeat' (first|simp only[go_sem, *]|(refine sx ?_ ?_<;>intro hc)|refine sy (by omega) fun x hx hm=>?_|simp(disch:=first|assumption|omega) only[AK]))
    all_goals first|(rw[←hno.out (by simp[Bd,hj])];done)|(exfalso;omega)
   .have hno:=AA.mk (hno.out (by
     have:joinsOk d r 0 r.d7=false:=by
      rw[hj,joinsOk,GX,hcl];by_cases h0:0≤c
      .rw[By (p:=c<((0:Nat):Int)) (by omega)];simp
      .rw[By h0];simp
     simp only[Bd,this,GS]))
    (repeat' (first|simp only[go_sem, *]|(refine sx ?_ ?_<;>intro hc)|refine sy (by omega) fun x hx hm=>?_|simp(disch:=first|assumption|omega) only[AK]))
    all_goals try first|(rw[←hno.out];done)|(exfalso;omega)
    rw[C7]
    (repeat' (first|simp only[go_sem, *]|(refine sx ?_ ?_<;>intro hc)|refine sy (by omega) fun x hx hm=>?_|simp(disch:=first|assumption|omega) only[AK]))
    all_goals first|(rw[←hno.out];done)|(exfalso;omega)
 have hpos:0<d.am.length:=List.length_pos_iff.2 hz;rw[QK (zs:=[.bool false]) hpos (by unfold BD;omega) rfl rfl (by decide) rfl];clear hc k1 k2 IH;refine aw ?_;have hrep:(List.replicate d.am.length [Aa.bool false])=(List.replicate d.am.length false).map Cf:=by rw[OP];rfl
 rw[hrep];have hul:(List.replicate d.am.length false).length=d.am.length:=I0;refine rounds (S:=fun a:Nat×List Bool=>⟨[(1,.ptr [0,0] 0),(5,.eq [1,1] 0 d.am.length),(6,.d (.int .i64 a.1))],[([0,0],.box [.d (.be (d.am.map A3)),.d (.be (d.ac.map Ao)),.d (.be (d.rules.map A0))]),([1,1],.d9 1 (a.2.map Cf))],2,[]⟩)
  (Inv:=fun a=>a.1≤d.rules.length∧a.2.length=d.am.length∧AA (d.rules.all (Bd d)=(d.rules.drop a.1).all (Bd d))∧AA (Mo (List.replicate d.am.length false) d.rules=Mo a.2 (d.rules.drop a.1))) (m:=fun a=>d.rules.length-a.1) (a:=(0,List.replicate d.am.length false)) ⟨by simp,hul,⟨by simp⟩,⟨by simp⟩⟩ ?_
 clear hrep hul;rintro⟨i,u⟩ ⟨k1,k0,k2,k3⟩ IH;dsimp only at*;by_cases hi:i<d.rules.length
 .obtain⟨r,hx⟩:=get_some hi;have hi':(i:Int)<d.rules.length:=by omega
  (repeat' (first|simp only[go_sem, *]|(refine sx ?_ ?_<;>intro hc)|refine sy (by omega) fun x hx hm=>?_|simp(disch:=first|assumption|omega) only[AK]))
  .rw[QS];rw[k2.out,AR hx,D4,show Bd d r=false by simp[Bd];omega,CO]
  .rw[QS];rw[k2.out,AR hx,D4,show Bd d r=false by simp[Bd];omega,CO]
  .rw[QS];rw[k2.out,AR hx,D4,show Bd d r=false by simp[Bd];omega,CO]
  .rw[QS];rw[k2.out,AR hx,D4,show Bd d r=false by simp[Bd];omega,CO]
  refine rounds (S:=fun a:Nat×List Bool=>⟨[(1,.ptr [0,0] 0),(5,.eq [1,1] 0 d.am.length),(6,.d (.int .i64 i)),(7,.ptr [0,2] 0),(8,.d (.int .i64 a.1))],[([0,0],.box [.d (.be (d.am.map A3)),.d (.be (d.ac.map Ao)),.d (.be (d.rules.map A0))]),([1,1],.d9 1 (a.2.map Cf)),([0,2],.box [.d (.int .i64 r.at_),.d (.be (r.d7.map AJ)),.d (.int .i64 r.node)])],3,[]⟩)
   (Inv:=fun a=>a.1≤r.d7.length∧a.2.length=d.am.length∧AA (joinsOk d r 0 r.d7=joinsOk d r a.1 (r.d7.drop a.1))∧AA (Mo (List.replicate d.am.length false) d.rules=Mo ((r.d7.drop a.1).foldl OY a.2) (d.rules.drop (i+1)))) (m:=fun a=>r.d7.length-a.1) (a:=(0,u)) ⟨by simp,k0,⟨by simp⟩,⟨by rw[k3.out,AR hx];rfl⟩⟩ ?_
  rintro⟨k,u2⟩ ⟨j1,j0,j2,j3⟩ IH2;dsimp only at*;by_cases hk:k<r.d7.length
  .obtain⟨c,hy⟩:=get_some hk;have hk':(k:Int)<r.d7.length:=by omega
   have hbad:AA (GX d r k c=false→false=d.okR):=.mk fun hb=>by
    have hj:joinsOk d r 0 r.d7=false:=by rw[j2.out,AR hy,joinsOk,hb,CO]
    rw[QS];rw[k2.out,AR hx,D4,show Bd d r=false by simp only[Bd,hj,GS],CO]
   by_cases hc0:c<0
   .refine aw ?_;rw[←hbad.out (by simp only[GX,By (show¬0≤c by omega),CO])]
   by_cases hc1:(d.am.length:Int)≤c
   .refine aw ?_;rw[←hbad.out (by simp only[GX,By (show¬c<d.am.length by omega),CO,GS])]
   obtain⟨y,hyc⟩:=get_some (l:=d.am) (i:=c.toNat) (by omega);have hjo:GX d r k c=(decide (y.at_=r.at_)&& !decide (c∈r.d7.take k)):=by
    simp only[GX,hyc,Es,F4,Ci (show 0≤c by omega),Ci (show c<d.am.length by omega),EM]
   have hc2:0≤c:=by omega
   (repeat' (first|simp only[go_sem, *]|(refine sx ?_ ?_<;>intro hc)|refine sy (by omega) fun x hx hm=>?_|simp(disch:=first|assumption|omega) only[AK]))
   .refine rounds (S:=fun m:Nat=>⟨[(1,.ptr [0,0] 0),(5,.eq [1,1] 0 d.am.length),(6,.d (.int .i64 i)),(7,.ptr [0,2] 0),(8,.d (.int .i64 k)),(9,.d (.int .i64 c)),(10,.d (.int .i64 m))],[([0,0],.box [.d (.be (d.am.map A3)),.d (.be (d.ac.map Ao)),.d (.be (d.rules.map A0))]),([1,1],.d9 1 (u2.map Cf)),([0,2],.box [.d (.int .i64 r.at_),.d (.be (r.d7.map AJ)),.d (.int .i64 r.node)])],3,[]⟩)
     (Inv:=fun m=>m≤k∧AA (c∉r.d7.take m)) (m:=fun m=>k-m) (a:=0) ⟨by simp,⟨by simp⟩⟩ ?_
    rintro m ⟨m1,m2⟩ IH3;by_cases hm:m<k
    .obtain⟨v,hv⟩:=get_some (l:=r.d7) (i:=m) (by omega);have hm':(m:Int)<k:=by omega
     have htk:r.d7.take (m+1)=r.d7.take m++[v]:=by rw[GC,hv];rfl
     (repeat' (first|simp only[go_sem, *]|(refine sx ?_ ?_<;>intro hc)|refine sy (by omega) fun x hx hm=>?_|simp(disch:=first|assumption|omega) only[AK]))
     .have:c∈r.d7.take k:=by
       rw[←hc];have:(r.d7.take k)[m]? =some v:=by rw[List.getElem?_take_of_lt hm,hv]
       exact Ac this
      rw[←hbad.out (by rw[hjo,Ci this];simp)]
     .refine IH3.out (m+1) (by omega) ⟨by omega,⟨?_⟩⟩;rw[htk];simp only[ES,As,not_or];exact⟨m2.out,fun h=>by simp_all⟩
    .have hm': ¬(m:Int)<k:=by omega
     have hcl:c.toNat<d.am.length:=by omega
     obtain⟨t,ht⟩:=get_some (l:=u2) (i:=c.toNat) (by omega);have hmk:m=k:=by omega
     subst hmk;refine aw ?_;have e:(u2.map Cf).set c.toNat [Aa.bool true]=(OY u2 c).map Cf:=by rw[OY,Jp];rfl
     rw[e];refine IH2.out (m+1,OY u2 c) (by dsimp only;omega) ⟨by dsimp only;omega,by simp[OY,j0],⟨?_⟩,⟨?_⟩⟩
     .dsimp only;rw[j2.out,AR hy,joinsOk,hjo,Ci (by assumption),By m2.out];rfl
     .dsimp only;rw[j3.out,AR hy,Md]
   .rw[←hbad.out (by rw[hjo,By (by assumption),CO])]
  .have hk': ¬(k:Int)<r.d7.length:=by omega
   refine aw ?_;refine IH.out (i+1,u2) (by dsimp only;omega) ⟨by dsimp only;omega,j0,⟨?_⟩,⟨?_⟩⟩
   .dsimp only;rw[k2.out,AR hx,D4,show Bd d r=true by
     rw[D7 (by omega)]at j2;simp only[Bd,j2.out,joinsOk];simp;omega,EM]
   .dsimp only;rw[j3.out,D7 (by omega)];rfl
 .have hi': ¬(i:Int)<d.rules.length:=by omega
  refine aw ?_;have hru:d.rules.all (Bd d)=true:=by rw[k2.out,D7 (by omega)];rfl
  have hus:Mo (List.replicate d.am.length false) d.rules=u:=by rw[k3.out,D7 (by omega)];rfl
  refine rounds (S:=fun i:Nat=>⟨[(5,.eq [1,0] 0 d.am.length),(11,.d (.int .i64 i))],[([1,0],.d9 1 (u.map Cf))],1,[]⟩)
   (Inv:=fun i=>i≤d.am.length∧AA (u.all id=(u.drop i).all id)) (m:=fun i=>d.am.length-i) (a:=0) ⟨by simp,⟨by simp⟩⟩ ?_
  clear k1 k2 k3 IH hi hi' i;rintro i ⟨k1,k2⟩ IH;have hus:=AA.mk hus;by_cases hi:i<d.am.length
  .obtain⟨t,ht⟩:=get_some (l:=u) (i:=i) (by omega);have hi':(i:Int)<d.am.length:=by omega
   cases t
   .refine aw ?_;rw[AFa (by rw[hus.out,k2.out,AR ht,D4];rfl)]
   .refine aw ?_;refine IH.out (i+1) (by omega) ⟨by omega,⟨?_⟩⟩;rw[k2.out,AR ht,D4];rfl
  .have hi': ¬(i:Int)<d.am.length:=by omega
   have hall:u.all id=true:=by rw[k2.out,D7 (by omega)];rfl
   refine aw ?_;rw[show d.okR=true by
    simp only[Bs.okR,hch,hsp,hru,hus.out,hall,Ci c1,Ci c2,Ci c3,NO]]
def LU(op:Int):Int×Int×Bool:=
 if op=1 then(0,0,true)else if op=7 then(0,0,true)else if op=2 then(-1,0,true)else if op=3 then(0,2,true)else if op=5 then(1,2,true)
 else if op=4 then(0,1,true)else if op=6 then(0,1,true)else if op=8 then(0,1,true)else(0,0,false)
theorem Kt(op:Int):BB (KL Tryz.prog cfg) 168 [.d (.int .i64 op)] []=.ok (.ret (.ge [.d (.int .i64 (LU op).1),.d (.int .i64 (LU op).2.1),.d (.bool (LU op).2.2)]),[]):=by
 (refine Ae rfl Tryz.func168 rfl rfl rfl ?_;show Wp _ _ _ _ (Tryz.f168.body.get rfl) _ _;simp only[Tryz.f168,AS])
 (repeat' (first|simp only[go_sem, *]|(refine sx ?_ ?_<;>intro hc)|refine sy (by omega) fun x hx hm=>?_|simp(disch:=first|assumption|omega) only[AK]))
 all_goals simp[LU, *]
structure Rv(x:Bc)(size depth n:Int)(h:AD)(π:List Nat)(idn:Abs.Id)(o:Ad)(h':AD):Prop where
 ret:Vn x size depth (60-n)→o=.ret (.ge [])∧h'.get idn=some (.box [.d (.int .i64 (n+x.size))])
 f9: ¬Vn x size depth (60-n)→o=.f9 HL
 frame: ∀id',Id.under π id'=false→Id.is idn id'=false→h'.get id'=h.get id'
variable{π:List Nat}{h':AD}
theorem Ka{x:Bc}{size depth n:Int}{id:Abs.Id}(hk: ¬Vn x size depth (60-n))(hf: ∀id',Id.under π id'=false→Id.is id id'=false→h'.get id'=h.get id'):Rv x size depth n h π id (.f9 HL) h':=⟨fun h=>absurd h hk,fun _=>rfl,hf⟩
theorem Ow{x:Bc}{size depth n:Int}{id:Abs.Id}(hk:Vn x size depth (60-n))(hg:h'.get id=some (.box [.d (.int .i64 (n+x.size))]))(hf: ∀id',Id.under π id'=false→Id.is id id'=false→h'.get id'=h.get id'):Rv x size depth n h π id (.ret (.ge [])) h':=⟨fun _=>⟨rfl,hg⟩,fun h=>absurd hk h,hf⟩
theorem z7(x:Bc): ∀(size depth n:Int) (h:AD) (π:List Nat) (idn ids idd:Abs.Id),h.get idn=some (.box [.d (.int .i64 n)])→h.get ids=some (.box [.d (.int .i64 size)])→h.get idd=some (.box [.fn 217 [] [.ptr idn 0,.ptr ids 0,.ptr idd 0]])→Id.under π idn=false→Id.under π ids=false→Id.under π idd=false→Id.is idn ids=false→Id.is idn idd=false→0≤n→n≤60→1≤depth→depth≤70→
 ∃o h',KL Tryz.prog cfg (.fn 217) [.agg [.d (.int .i64 x.op),.d (.int .i64 x.n),.d (.be (x.kids.map Bg))],.d (.int .i64 depth),.ptr idn 0,.ptr ids 0,.ptr idd 0] h π true none=.ok (o,h')∧Rv x size depth n h π idn o h':=by
 induction x using Bc.ind with
 |h op m kids ih=>
 intro size depth n h π idn ids idd hg hgs hgd hu hus hud hns hnd h1 h2 h3 h4;simp only[Bc.op_mk,Bc.n_mk,Bc.kids_mk]at*;have u1:=AH hu;have u2:=Ak hu;have u3:=AG hu;have v1:=AH hus;have v3:=AG hus;have x1:=AH hud;have x3:=AG hud;have w1:IntKind.i64.wrap (n+1)=n+1:=wrap_id (by omega) (by omega);have w2:IntKind.i64.wrap (depth+1)=depth+1:=wrap_id (by omega) (by omega)
 (refine Aj rfl Tryz.func217 rfl rfl rfl ?_;show Wp _ _ _ _ (Tryz.f217.body.get rfl) _ _;simp only[Tryz.f217,AS])
 have ih:=AA.mk ih;rcases kids with _|⟨a,_|⟨b,_|⟨c,l⟩⟩⟩
 ·(repeat' (first|simp only[go_sem, *]|(refine sx ?_ ?_<;>intro hc)|refine sy (by omega) fun x hx hm=>?_|simp(disch:=first|assumption|omega) only[AK]))
  all_goals try(rw[C7];refine aw ?_)
  all_goals first
   |omega
   |(refine Ka ?_ (fun id' e1 e2=>?_)
     .clear ih;grind [Vn,Bc.size,EA,Bc.depth,EJ,Bc.formed]
     .simp only[get_put,AH e1,e2,AM,El])
   |(refine Ow ?_ ?_ (fun id' e1 e2=>?_)
     .clear ih;grind [Vn,Bc.size,EA,Bc.depth,EJ,Bc.formed]
     .simp[get_put,is_self,Bc.size,EA]
     .simp only[get_put,AH e1,e2,AM,El])
 ·(repeat' (first|simp only[go_sem, *]|(refine sx ?_ ?_<;>intro hc)|refine sy (by omega) fun x hx hm=>?_|simp(disch:=first|assumption|omega) only[AK]))
  all_goals first
   |omega
   |(refine Ka ?_ (fun id' e1 e2=>?_)
     .clear ih;grind [Vn,Bc.size,EA,Bc.depth,EJ,Bc.formed]
     .simp only[get_put,AH e1,e2,AM,El])
   |(refine Ow ?_ ?_ (fun id' e1 e2=>?_)
     .clear ih;grind [Vn,Bc.size,EA,Bc.depth,EJ,Bc.formed]
     .simp[get_put,is_self,Bc.size,EA]
     .simp only[get_put,AH e1,e2,AM,El])
 .have iha:=AA.mk (ih.out a (by simp));have ihb:=AA.mk (ih.out b (by simp));clear ih;have sa:=Td a;have sb:=Td b
  (repeat' (first|simp only[go_sem, *]|(refine sx ?_ ?_<;>intro hc)|refine sy (by omega) fun x hx hm=>?_|simp(disch:=first|assumption|omega) only[AK]))
  all_goals try
   (refine Ka ?_ (fun id' e1 e2=>?_)
    .clear iha ihb;grind [Vn,Bc.size,EA,Bc.depth,EJ,Bc.formed]
    .simp only[get_put,AH e1,e2,AM,El])
  all_goals (rw[C7];refine aw ?_)
  all_goals
   refine AZ (iha.out size (depth+1) (n+1) _ _ idn ids idd ?_ ?_ ?_ (u3 _) (v3 _) (x3 _) hns hnd ?_ ?_ ?_ ?_) (fun o1 g1 p1=>?_)
   .simp only[go_sem,u1,hg]
   .simp only[go_sem,v1,hns,hgs,AM]
   .simp only[go_sem,x1,hnd,hgd,AM]
   .omega
   .omega
   .omega
   .omega
   have f1:=p1.frame;have s1:g1.get ids=some (.box [.d (.int .i64 size)]):=by
    rw[f1 ids (v3 _) hns];simp only[go_sem,v1,hns,hgs,AM]
   have d1:g1.get idd=some (.box [.fn 217 [] [.ptr idn 0,.ptr ids 0,.ptr idd 0]]):=by
    rw[f1 idd (x3 _) hnd];simp only[go_sem,x1,hnd,hgd,AM]
   have fr1: ∀id',Id.under π id'=false→Id.is idn id'=false→g1.get id'=h.get id':=fun id' e1 e2=>by
    rw[f1 id' (AG e1 _) e2];simp only[get_put,AH e1,e2,AM,El]
   clear f1;by_cases ka:Vn a size (depth+1) (60-(n+1))
   .obtain⟨rfl,r1⟩:=p1.ret ka;clear p1;have fr1:=AA.mk fr1;refine aw ?_;rw[C7];refine aw ?_;refine AZ (ihb.out size (depth+1) (n+1+a.size) _ _ idn ids idd ?_ ?_ ?_ (u3 _) (v3 _) (x3 _) hns hnd ?_ ?_ ?_ ?_) (fun o2 g2 p2=>?_)
    .simp only[go_sem,u1,u3,r1,AM]
    .simp only[go_sem,v1,v3,hns,s1,AM]
    .simp only[go_sem,x1,x3,hnd,d1,AM]
    .omega
    .grind [Vn]
    .omega
    .omega
    have f2:=p2.frame;have fr: ∀id',Id.under π id'=false→Id.is idn id'=false→g2.get id'=h.get id':=fun id' e1 e2=>by
     rw[f2 id' (AG e1 _) e2];simp only[get_put,AH e1,AU _ _ _ (AG e1 _),fr1.out id' e1 e2,AM,El]
    have fr:=AA.mk fr;clear f2 fr1;by_cases kb:Vn b size (depth+1) (60-(n+1+a.size))
    .obtain⟨rfl,r2⟩:=p2.ret kb;clear p2;refine aw ?_;rw[C7];refine aw ?_;refine Ow ?_ ?_ fun id' e1 e2=>?_
     .clear iha ihb fr;grind [Vn,Bc.size,EA,Bc.depth,EJ,Bc.formed]
     .rw[AU _ _ _ (u3 _),r2];simp[Bc.size,EA];omega
     .rw[AU _ _ _ (AG e1 _),fr.out id' e1 e2]
    .obtain rfl:=p2.f9 kb;clear p2;refine aw ?_;refine Ka ?_ fun id' e1 e2=>?_
     .clear iha ihb fr;grind [Vn,Bc.size,EA,Bc.depth,EJ,Bc.formed]
     .rw[AU _ _ _ (AG e1 _),fr.out id' e1 e2]
   .obtain rfl:=p1.f9 ka;clear p1;refine aw ?_;refine Ka ?_ (fun id' e1 e2=>?_)
    .clear iha ihb;grind [Vn,Bc.size,EA,Bc.depth,EJ,Bc.formed]
    .rw[AU _ _ _ (AG e1 _),fr1 id' e1 e2]
 ·(repeat' (first|simp only[go_sem, *]|(refine sx ?_ ?_<;>intro hc)|refine sy (by omega) fun x hx hm=>?_|simp(disch:=first|assumption|omega) only[AK]))
  all_goals first
   |omega
   |(refine Ka ?_ (fun id' e1 e2=>?_)
     .clear ih;grind [Vn,Bc.size,EA,Bc.depth,EJ,Bc.formed]
     .simp only[get_put,AH e1,e2,AM,El])
   |(refine Ow ?_ ?_ (fun id' e1 e2=>?_)
     .clear ih;grind [Vn,Bc.size,EA,Bc.depth,EJ,Bc.formed]
     .simp[get_put,is_self,Bc.size,EA]
     .simp only[get_put,AH e1,e2,AM,El])
theorem AEH(x:Bc)(size:Int):BB (KL Tryz.prog cfg) 212 [.agg [.d (.int .i64 x.op),.d (.int .i64 x.n),.d (.be (x.kids.map Bg))],.d (.int .i64 size)] []=.ok (IV HL (x.ok size)):=by
 (refine Ae rfl Tryz.func212 rfl rfl rfl ?_;show Wp _ _ _ _ (Tryz.f212.body.get rfl) _ _;simp only[Tryz.f212,AS])
 refine aw ?_;refine AZ (z7 x size 1 0 _ _ [0,2] [0,1] [0,4] rfl rfl rfl rfl rfl rfl rfl rfl ?_ ?_ ?_ ?_) (fun o1 g1 p1=>?_)
 .omega
 .omega
 .omega
 .omega
 have e:Vn x size 1 (60-0)↔x.ok size=true:=AFY x size;cases hx:x.ok size with
 |true=>
  obtain⟨rfl,r1⟩:=p1.ret (e.2 hx);clear p1;refine aw ?_;rfl
 |false=>
  obtain rfl:=p1.f9 (fun h=>by rw[e.1 h]at hx;cases hx);clear p1;refine aw ?_;rfl
def DX(op:Int):Option Nat:=
 if op=1 then some 0 else if op=7 then some 0 else if op=3 then some 2 else if op=2 then some 0 else if op=5 then some 2
 else if op=6 then some 1 else if op=8 then some 1 else if op=4 then some 1 else none
def E7(x:C0):Bool:=if x.op=2 then decide (x.args.length≤3)else if x.op=5 then decide (x.args.length=1)else decide (x.args.length=0)
def XZ(p:AL)(size:Int)(x:C0):Bool:=if x.op=2∨x.op=6∨x.op=8 then decide (0≤x.n∧x.n<size)else if x.op=4 then decide (0≤x.n∧x.n<p.defs.length)else decide (x.n=0)
def Cy(p:AL)(size:Int)(x:C0):Bool:=decide (DX x.op=some x.kids.length)&&(XZ p size x&&(E7 x&&x.args.all (Bc.ok size)))
structure BT where
 ci:List Int
 met:List Bool
 defs:List Bool
def CK(f:Int→Int→BT→Option BT):List (Int×Int)→BT→Option BT
 |[],st=>some st
 |(n,s)::l,st=>match f n s st with
  |some st'=>CK f l st'
  |none=>none
def Cp(d:Bs)(size:Int)(l:List FG):List (Int×Int):=l.map fun r=>(r.node,size+CR d r.d7)
def CQ(size:Int)(l:List Nc):List (Int×Int):=l.map fun s=>(s.node,size)
def CM(size:Int)(l:List Int):List (Int×Int):=l.map fun k=>(k,size)
def RU(p:AL)(size:Int)(x:C0)(st:BT):Option (List (Int×Int)×BT):=
 if x.op=4 then match p.defs[x.n.toNat]? with
  |some d=>if st.defs[x.n.toNat]? =some false∧d.okG=true then some (Cp d (size+d.own) d.rules++(CQ (size+d.own) d.ac++CM (size+d.own) x.kids),{st with defs:=st.defs.set x.n.toNat true})else none
  |none=>none
 else some (CM size x.kids,st)
def BT.meet(st:BT)(n size:Int):BT:={st with ci:=st.ci.set n.toNat size,met:=st.met.set n.toNat true}
def BH(p:AL):Nat→Int→Int→BT→Option BT
 |0,_,_,_=>none
 |k+1,n,size,st=>
  if 0≤n∧st.met[n.toNat]? =some false then
   match p.nodes[n.toNat]? with
   |some x=>if Cy p size x=true then match RU p size x (st.meet n size)with
    |some (l,st2)=>CK (BH p k) l st2
    |none=>none
    else none
   |none=>none
  else none
def bt(a b:ByteArray):Bool:=Op.bytesLess a.toList b.toList
def IY:Option ByteArray→List ByteArray→Bool
 |_,[]=>true
 |b,a::l=>E8 a&&((match b with|some b=>bt b a|none=>true)&&IY (some a) l)
def LA(l:List ByteArray):Bool:=IY none l
def AL.small(p:AL):Bool:=decide (p.free.length≤12)&&(decide (p.nodes.length≤60)&&decide (p.defs.length≤12))
def BT.init(p:AL):BT:=⟨List.replicate p.nodes.length 0,List.replicate p.nodes.length false,List.replicate p.defs.length false⟩
def looks(p:AL):Option BT:=
 if p.small=true∧LA p.free=true then match BH p (p.nodes.length+1) p.main p.free.length (BT.init p)with
  |some st=>if st.met.all id=true∧st.defs.all id=true then some st else none
  |none=>none
 else none
structure BT.fit(p:AL)(st:BT):Prop where
 ci:st.ci.length=p.nodes.length
 met:st.met.length=p.nodes.length
 defs:st.defs.length=p.defs.length
def EE(l:List Bool):Nat:=l.count false
theorem E5: ∀{l:List Bool} {n:Nat},l[n]? =some false→EE (l.set n true)+1=EE l
 |[],n,h=>by simp at h
 |b::l,0,h=>by
  simp only[F0,CE]at h;subst h;simp[EE]
 |b::l,n+1,h=>by
  simp only[F6]at h;have:=E5 h;cases b<;>simp[EE]at this⊢ <;>omega
theorem Mn(l:List Bool):EE l≤l.length:=List.count_le_length
variable{p:AL}{st:BT}
theorem PT(h:st.fit p)(n size:Int):(st.meet n size).fit p:=⟨by simp[BT.meet,h.ci],by simp[BT.meet,h.met],by simp[BT.meet,h.defs]⟩
theorem vt{size:Int}{x:C0}{st2:BT}{l:List (Int×Int)}(h:RU p size x st=some (l,st2)):st2.ci=st.ci∧st2.met=st.met∧st2.defs.length=st.defs.length:=by
 unfold RU at h;split at h
 .split at h
  .split at h
   .cases h;simp
   .cases h
  .cases h
 .cases h;simp
variable{f:Int→Int→BT→Option BT}
theorem P7{R:BT→BT→Prop}(hr: ∀st,R st st)(ht: ∀a b c,R a b→R b c→R a c)(hf: ∀n s st st',f n s st=some st'→R st st'): ∀{l:List (Int×Int)} {st st':BT},CK f l st=some st'→R st st'
 |[],st,st',h=>by cases h;exact hr _
 |(n,s)::l,st,st',h=>by
  rw[CK]at h;split at h
  .rename_i st1 h1;exact ht _ _ _ (hf _ _ _ _ h1) (P7 hr ht hf h)
  .cases h
structure kF(st st':BT):Prop where
 ci:st'.ci.length=st.ci.length
 met:st'.met.length=st.met.length
 defs:st'.defs.length=st.defs.length
 less:EE st'.met≤EE st.met
theorem CZ(p:AL): ∀(k:Nat) (n size:Int) (st st':BT),BH p k n size st=some st'→kF st st'
 |0,n,size,st,st',h=>by cases h
 |k+1,n,size,st,st',h=>by
  rw[BH]at h;split at h
  .rename_i hn;split at h
   .rename_i x hx;split at h
    .split at h
     .rename_i l st2 h2;have h3:=vt h2;have h4:kF st2 st':=P7 (R:=kF) (fun st=>⟨rfl,rfl,rfl,EX _⟩) (fun a b c h1 h2=>⟨h2.1.trans h1.1,h2.2.trans h1.2,h2.3.trans h1.3,IP h2.4 h1.4⟩) (CZ p k) h;have h5:=E5 hn.2;refine⟨h4.1.trans ?_,h4.2.trans ?_,h4.3.trans ?_,IP h4.4 ?_⟩
      .rw[h3.1];simp[BT.meet]
      .rw[h3.2.1];simp[BT.meet]
      .rw[h3.2.2];simp[BT.meet]
      .rw[h3.2.1];simp only[BT.meet];omega
     .cases h
    .cases h
   .cases h
  .cases h
def Ia(p:AL)(size:Int)(x:C0):Option (List (Int×Int)):=
 if x.op=4 then match p.defs[x.n.toNat]? with
  |some d=>if d.okG=true then some (Cp d (size+d.own) d.rules++(CQ (size+d.own) d.ac++CM (size+d.own) x.kids))else none
  |none=>none
 else some (CM size x.kids)
theorem K2(h: ∀c∈d.am,0≤c.many∧c.many≤3): ∀l:List Int,0≤CR d l∧CR d l≤3*l.length
 |[]=>by simp[CR]
 |j::l=>by
  have ih:=K2 h l;rw[CR];have:0≤((d.am[j.toNat]?).map Hy.many).getD 0∧((d.am[j.toNat]?).map Hy.many).getD 0≤3:=by
   cases hc:d.am[j.toNat]? with
   |none=>simp
   |some c=>simpa using h c (Ac hc)
  simp only[List.length_cons];omega
structure Od(d:Bs):Prop where
 am:d.am.length≤30
 ac:d.ac.length≤30
 rules:d.rules.length≤30
 chan: ∀c∈d.am,0≤c.at_∧c.at_≤d.ac.length∧0≤c.many∧c.many≤3
 spot:DF 0 d.ac=true
 i9: ∀r∈d.rules,Bd d r=true
 stands:(GR [] d.rules).length=d.am.length
theorem TG(h:d.okG=true):Od d:=by
 simp only[Bs.okG,AP,Ap,DO,Cl]at h;obtain⟨h1,h2,h3,h4,h5,h6,h7⟩:=h;exact⟨h1,h2,h3,fun c hc=>⟨(h4 c hc).1.1,(h4 c hc).1.2,(h4 c hc).2.1,(h4 c hc).2.2⟩,h5,h6,h7⟩
variable{r:FG}
theorem N2: ∀{i:Nat} {l:List Int},joinsOk d r i l=true→ ∀j∈l,0≤j∧j<d.am.length
 |i,[],h=>by simp
 |i,c::l,h=>by
  intro j hj;rw[joinsOk,AP]at h;rcases Co.1 hj with rfl|hj
  .have:=h.1;simp only[GX,AP,Ap]at this;exact⟨this.1,this.2.1⟩
  .exact N2 h.2 j hj
theorem OI(h:Od d)(hr:r∈d.rules):d.joinsOk r:=by
 have:=h.i9 r hr;simp only[Bd,AP,Ap]at this;exact⟨this.2.2.1,N2 this.2.2.2,fun c hc=>(h.chan c hc).2.2⟩
theorem OE(h:Od d):d.own≤60:=by
 have:=h.am;have:=h.ac;unfold Bs.own;omega
theorem sB{size:Int}{x:C0}{l:List (Int×Int)}(h:Ia p size x=some l): ∀q∈l,size≤q.2∧q.2≤size+70:=by
 unfold Ia at h;split at h
 .split at h
  .rename_i d hd;split at h
   .rename_i hk;cases h;have hk:=TG hk;have ho:=OE hk;intro q hq;simp only[ES,Cp,CQ,CM,FN]at hq;rcases hq with⟨r,hr,rfl⟩|⟨r,hr,rfl⟩|⟨r,hr,rfl⟩
    .have hj:=OI hk hr;have:=K2 hj.2.2 r.d7;have:=hj.1;dsimp only;omega
    .dsimp only;omega
    .dsimp only;omega
   .cases h
  .cases h
 .cases h;intro q hq;simp only[CM,FN]at hq;obtain⟨k,hk,rfl⟩:=hq;dsimp only;omega
def BT.has(st:BT)(q:Int×Int):Prop:=0≤q.1∧st.met[q.1.toNat]? =some true∧st.ci[q.1.toNat]? =some q.2
structure ADt(p:AL)(st:BT)(i:Nat)(x:C0):Prop where
 met:st.met[i]? =some true
 ex: ∃s l,st.ci[i]? =some s∧0≤s∧s≤5000∧Cy p s x=true∧Ia p s x=some l∧ ∀q∈l,st.has q
structure zW(p:AL)(st st':BT):Prop where
 un: ∀i:Nat,st.met[i]? =some true→st'.met[i]? =some true∧st'.ci[i]? =st.ci[i]?
 i6: ∀(i:Nat) (x:C0),st'.met[i]? =some true→st.met[i]? ≠some true→p.nodes[i]? =some x→ADt p st' i x
 defs: ∀i:Nat,st.defs[i]? =some true→st'.defs[i]? =some true
 news: ∀(i:Nat) (x:C0),st'.met[i]? =some true→st.met[i]? ≠some true→p.nodes[i]? =some x→x.op=4→st.defs[x.n.toNat]? ≠some true∧st'.defs[x.n.toNat]? =some true
 used: ∀n:Nat,st'.defs[n]? =some true→st.defs[n]? ≠some true→ ∃(i:Nat) (x:C0),p.nodes[i]? =some x∧x.op=4∧x.n.toNat=n
 diff: ∀(i j:Nat) (x y:C0),i≠j→st'.met[i]? =some true→st.met[i]? ≠some true→p.nodes[i]? =some x→x.op=4→st'.met[j]? =some true→st.met[j]? ≠some true→p.nodes[j]? =some y→y.op=4→x.n.toNat≠y.n.toNat
variable{st':BT}
theorem ve{q:Int×Int}(h:st.has q)(ha:zW p st st'):st'.has q:=by
 obtain⟨h1,h2,h3⟩:=h;have:=ha.un _ h2;exact⟨h1,this.1,by rw[this.2,h3]⟩
theorem AA6{x:C0}(h:ADt p st i x)(ha:zW p st st'):ADt p st' i x:=by
 obtain⟨h1,s,l,h2,h0,hb,h3,h4,h5⟩:=h;have:=ha.un _ h1;exact⟨this.1,s,l,by rw[this.2,h2],h0,hb,h3,h4,fun q hq=>ve (h5 q hq) ha⟩
theorem sw(p:AL)(st:BT):zW p st st:=⟨fun i h=>⟨h,rfl⟩,fun i x h1 h2=>absurd h1 h2,fun i h=>h,fun i x h1 h2=>absurd h1 h2,fun n h1 h2=>absurd h1 h2,fun i j x y h h1 h2=>absurd h1 h2⟩
theorem kH{a b c:BT}(h1:zW p a b)(h2:zW p b c):zW p a c:=by
 refine⟨fun i h=>?_,fun i x hm hn hx=>?_,fun i h=>h2.defs i (h1.defs i h),fun i x hm hn hx ho=>?_,fun n hm hn=>?_,fun i j x y hij him hin hx hox hjm hjn hy hoy=>?_⟩
 .have e1:=h1.un i h;have e2:=h2.un i e1.1;exact⟨e2.1,e2.2.trans e1.2⟩
 .by_cases hb:b.met[i]? =some true
  .exact AA6 (h1.i6 i x hb hn hx) h2
  .exact h2.i6 i x hm hb hx
 .by_cases hb:b.met[i]? =some true
  .have:=h1.news i x hb hn hx ho;exact⟨this.1,h2.defs _ this.2⟩
  .have:=h2.news i x hm hb hx ho;exact⟨fun e=>this.1 (h1.defs _ e),this.2⟩
 .by_cases hb:b.defs[n]? =some true
  .exact h1.used n hb hn
  .exact h2.used n hm hb
 .by_cases hbi:b.met[i]? =some true
  .by_cases hbj:b.met[j]? =some true
   .exact h1.diff i j x y hij hbi hin hx hox hbj hjn hy hoy
   .have e1:=h1.news i x hbi hin hx hox;have e2:=h2.news j y hjm hbj hy hoy;intro e;rw[e]at e1;exact e2.1 e1.2
  .by_cases hbj:b.met[j]? =some true
   .have e1:=h1.news j y hbj hjn hy hoy;have e2:=h2.news i x him hbi hx hox;intro e;rw[←e]at e1;exact e2.1 e1.2
   .exact h2.diff i j x y hij him hbi hx hox hjm hbj hy hoy
structure Bnd(st:BT)(u:Nat):Prop where
 len:st.ci.length=st.met.length
 less:EE st.met≤u
theorem VB{u:Nat}(hf: ∀(n s:Int) (st st':BT),Bnd st u→0≤s→s+70*u≤5000→f n s st=some st'→zW p st st'∧st'.has (n,s)∧Bnd st' u): ∀{l:List (Int×Int)} {st st':BT},Bnd st u→(∀q∈l,0≤q.2∧q.2+70*u≤5000)→CK f l st=some st'→zW p st st'∧(∀q∈l,st'.has q)∧Bnd st' u
 |[],st,st',hl,hq,h=>by cases h;exact⟨sw _ _,by simp,hl⟩
 |(n,s)::l,st,st',hl,hq,h=>by
  rw[CK]at h;split at h
  .rename_i st1 h1;have hq1:=hq (n,s) (by simp);have e1:=hf _ _ _ _ hl hq1.1 hq1.2 h1;have e2:=VB hf e1.2.2 (fun q hm=>hq q (Em _ hm)) h;refine⟨kH e1.1 e2.1,fun q hq=>?_,e2.2.2⟩;rcases Co.1 hq with rfl|hq
   .exact ve e1.2.1 e2.1
   .exact e2.2.1 q hq
  .cases h
theorem nW{p:AL}{size:Int}{x:C0}{st st2:BT}{l:List (Int×Int)}(h:RU p size x st=some (l,st2)):Ia p size x=some l∧st2.ci=st.ci∧st2.met=st.met∧(∀i:Nat,st.defs[i]? =some true→st2.defs[i]? =some true)∧(x.op=4→st.defs[x.n.toNat]? ≠some true∧st2.defs[x.n.toNat]? =some true)∧ ∀i:Nat,st2.defs[i]? =some true→st.defs[i]? ≠some true→x.op=4∧x.n.toNat=i:=by
 unfold RU at h;unfold Ia;split at h
 .rename_i h4;rw[D0 h4];split at h
  .rename_i d hd;split at h
   .rename_i hk;cases h;refine⟨by first|exact D0 hk.2|(rw[hd];exact D0 hk.2),rfl,rfl,fun i hi=>?_,fun _=>⟨by rw[hk.1];simp,?_⟩,fun i h1 h2=>⟨h4,?_⟩⟩
    .rw[He];split
     .rename_i e;subst e;rw[D0 (BE.1 hi).1]
     .exact hi
    .rw[He,D0 rfl,D0 (BE.1 hk.1).1]
    .rw[He]at h1;split at h1
     .assumption
     .exact absurd h1 h2
   .cases h
  .cases h
 .rename_i h4;rw[CI h4];cases h;exact⟨rfl,rfl,rfl,fun i h=>h,fun h=>absurd h h4,fun i h1 h2=>absurd h1 h2⟩
theorem WH(p:AL): ∀(k:Nat) (n size:Int) (st st':BT) (u:Nat),Bnd st u→0≤size→size+70*u≤5000→BH p k n size st=some st'→zW p st st'∧st'.has (n,size)∧Bnd st' u
 |0,n,size,st,st',u,_,_,_,h=>by cases h
 |k+1,n,size,st,st',u,hb,h0,hsz,h=>by
  rw[BH]at h;split at h
  .rename_i hn;split at h
   .rename_i x hx;split at h
    .rename_i hok;split at h
     .rename_i l st2 h2;have h3:=nW h2;have hlen:=hb.len;have hun:=E5 hn.2;have hul:=hb.less;obtain⟨u,rfl⟩: ∃v,u=v+1:=⟨u-1,by omega⟩;have hb2:Bnd st2 u:=⟨by rw[h3.2.1,h3.2.2.1];simp[BT.meet,hlen],by rw[h3.2.2.1];simp only[BT.meet];omega⟩;have hle:=sB h3.1;obtain⟨ha,hl,hz⟩:=VB (fun n s st st'=>WH p k n s st st' u) hb2 (fun q hq=>by have:=hle q hq;omega) h;have hlt:=(BE.1 hn.2).1;have m2: ∀i,st2.met[i]? =if n.toNat=i then some true else st.met[i]? :=fun i=>by
       rw[h3.2.2.1,BT.meet,He];split
       .rename_i e;subst e;simp[hlt]
       .rfl
      have s2: ∀i,st2.ci[i]? =if n.toNat=i then some size else st.ci[i]? :=fun i=>by
       rw[h3.2.1,BT.meet,He];split
       .rename_i e;subst e;simp[hlen,hlt]
       .rfl
      have k2:=ha.un n.toNat (by rw[m2,D0 rfl]);rw[s2,D0 rfl]at k2;refine⟨⟨fun i hi=>?_,fun i y hm hm0 hy=>?_,fun i hi=>ha.defs i (h3.2.2.2.1 i hi),fun i y hm hm0 hy ho=>?_,fun i hi hi0=>?_,fun i j y z hij him hin hy hoy hjm hjn hz hoz=>?_⟩,⟨hn.1,k2.1,k2.2⟩,hz.1,Nat.le_succ_of_le hz.2⟩
      .have hne:n.toNat≠i:=fun e=>by subst e;rw[hn.2]at hi;simp at hi
       have:=ha.un i (by rw[m2,CI hne,hi]);rw[s2,CI hne]at this;exact this
      .by_cases hne:n.toNat=i
       .subst hne;rw[hx]at hy;cases hy;exact⟨hm,size,l,k2.2,h0,by omega,hok,h3.1,hl⟩
       .exact ha.i6 i y hm (by rw[m2,CI hne];exact hm0) hy
      .by_cases hne:n.toNat=i
       .subst hne;rw[hx]at hy;cases hy;have:=h3.2.2.2.2.1 ho;exact⟨this.1,ha.defs _ this.2⟩
       .have:=ha.news i y hm (by rw[m2,CI hne];exact hm0) hy ho;exact⟨fun e=>this.1 (h3.2.2.2.1 _ e),this.2⟩
      .by_cases hd:st2.defs[i]? =some true
       .have:=h3.2.2.2.2.2 i hd hi0;exact⟨_,x,hx,this⟩
       .exact ha.used i hi hd
      .by_cases hni:n.toNat=i
       .have hnj:n.toNat≠j:=fun e=>hij (hni.symm.trans e);subst hni;rw[hx]at hy;cases hy;have e1:=h3.2.2.2.2.1 hoy;have e2:=ha.news j z hjm (by rw[m2,CI hnj];exact hjn) hz hoz;intro e;rw[e]at e1;exact e2.1 e1.2
       .by_cases hnj:n.toNat=j
        .subst hnj;rw[hx]at hz;cases hz;have e1:=h3.2.2.2.2.1 hoz;have e2:=ha.news i y him (by rw[m2,CI hni];exact hin) hy hoy;intro e;rw[←e]at e1;exact e2.1 e1.2
        .exact ha.diff i j y z hij him (by rw[m2,CI hni];exact hin) hy hoy hjm (by rw[m2,CI hnj];exact hjn) hz hoz
     .cases h
    .cases h
   .cases h
  .cases h
structure BK(p:AL)(ci:List Int):Prop where
 small:p.small=true
 len:ci.length=p.nodes.length
 main:0≤p.main∧ci[p.main.toNat]? =some (p.free.length:Int)
 node: ∀(i:Nat) (x:C0),p.nodes[i]? =some x→ ∃(s:Int) (l:List (Int×Int)),ci[i]? =some s∧0≤s∧s≤5000∧Cy p s x=true∧Ia p s x=some l∧ ∀q∈l,0≤q.1∧ci[q.1.toNat]? =some q.2
 used: ∀n:Nat,n<p.defs.length→ ∃(i:Nat) (x:C0),p.nodes[i]? =some x∧x.op=4∧x.n.toNat=n
 diff: ∀(i j:Nat) (x y:C0),i≠j→p.nodes[i]? =some x→x.op=4→p.nodes[j]? =some y→y.op=4→x.n.toNat≠y.n.toNat
theorem jI{l:List Bool}(h:l.all id=true)(hi:i<l.length):l[i]? =some true:=by
 have:=DO.1 h _ (NL hi);rw[BY hi];simpa using this
theorem CF(h:looks p=some st):BK p st.ci:=by
 unfold looks at h;split at h
 .rename_i hs;split at h
  .rename_i st' hv;split at h
   .rename_i hall;cases h;have hsm:=hs.1;simp only[AL.small,AP,Ap]at hsm;have hg:=CZ p _ _ _ _ _ hv;have hun:=Mn (BT.init p).met;have hil:(BT.init p).met.length=p.nodes.length:=by simp[BT.init]
    have ha:=WH p _ _ _ _ _ 60 ⟨by simp[BT.init],by omega⟩ (by omega) (by omega) hv;have hm:st.met.length=p.nodes.length:=by rw[hg.met];simp[BT.init]
    have hz:st.ci.length=p.nodes.length:=by rw[hg.ci];simp[BT.init]
    have hd:st.defs.length=p.defs.length:=by rw[hg.defs];simp[BT.init]
    have hmet: ∀{i x},p.nodes[i]? =some x→st.met[i]? =some true:=fun{i x} hx=>jI hall.1 (by rw[hm];exact(BE.1 hx).1);have h0: ∀i:Nat,(BT.init p).met[i]? ≠some true:=fun i=>by
     simp only[BT.init,Rd];split<;>simp
    have hd0: ∀i:Nat,(BT.init p).defs[i]? ≠some true:=fun i=>by
     simp only[BT.init,Rd];split<;>simp
    refine⟨hs.1,hz,⟨ha.2.1.1,ha.2.1.2.2⟩,fun i x hx=>?_,fun n hn=>ha.1.used n (jI hall.2 (by omega)) (hd0 n),fun i j x y hij hx hox hy hoy=>ha.1.diff i j x y hij (hmet hx) (h0 _) hx hox (hmet hy) (h0 _) hy hoy⟩;obtain⟨_,s,l,h1,hp,hb,h2,h3,h4⟩:=ha.1.i6 i x (hmet hx) (h0 _) hx;exact⟨s,l,h1,hp,hb,h2,h3,fun q hq=>⟨(h4 q hq).1,(h4 q hq).2.2⟩⟩
   .cases h
  .cases h
 .cases h
structure R2(n:Nat)(u:List Bool)(st:List Int):Prop where
 len:u.length=n
 cnt:EE u+st.length=n
 mem: ∀c:Int,0≤c→c<n→(u[c.toNat]? =some true↔c∈st)
theorem rf{n:Nat}{u:List Bool}{st:List Int}{c:Int}(h:R2 n u st)(h0:0≤c)(h1:c<n):R2 n (OY u c) (PE st c):=by
 have hl:c.toNat<u.length:=by rw[h.len];omega
 have hm:=h.mem c h0 h1;have hmem: ∀b:Int,0≤b→b<n→((OY u c)[b.toNat]? =some true↔b=c∨u[b.toNat]? =some true):=fun b hb0 hb1=>by
  rw[OY,He];split
  .rename_i e;have:b=c:=by omega
   subst this;simp[hl]
  .rename_i e;have:b≠c:=fun h=>e (by rw[h]);simp[this]
 cases hu:u[c.toNat]? with
 |none=>rw[List.getElem?_eq_none_iff]at hu;omega
 |some t=>
  cases t with
  |true=>
   have hin:=hm.1 hu;have e2:PE st c=st:=by rw[PE,D0 hin]
   have e1:OY u c=u:=by
    apply List.ext_getElem?;intro i;rw[OY,He];split
    .rename_i e;subst e;exact hu.symm
    .rfl
   rw[e1,e2];exact h
  |false=>
   have hnin:c∉st:=fun hc=>by rw[hm.2 hc]at hu;simp at hu
   have e2:PE st c=st++[c]:=by rw[PE,CI hnin]
   have hc:=E5 hu;have hh:=h.cnt;refine⟨by simp[OY,h.len],?_,fun b hb0 hb1=>?_⟩
   .rw[e2];simp only[OY,Bi,ID];omega
   .rw[hmem b hb0 hb1,e2,h.mem b hb0 hb1];simp[or_comm]
theorem RJ{n:Nat}: ∀{l:List Int} {u:List Bool} {st:List Int},R2 n u st→(∀c∈l,0≤c∧c<n)→R2 n (l.foldl OY u) (l.foldl PE st)
 |[],u,st,h,_=>h
 |c::l,u,st,h,hc=>by
  have:=hc c (by simp);exact RJ (l:=l) (rf h this.1 this.2) (fun b hb=>hc b (Em _ hb))
theorem RK{n:Nat}: ∀{l:List FG} {u:List Bool} {st:List Int},R2 n u st→(∀r∈l,∀c∈r.d7,0≤c∧c<n)→R2 n (Mo u l) (GR st l)
 |[],u,st,h,_=>h
 |r::l,u,st,h,hc=>by
  have e1:Mo u (r::l)=Mo (r.d7.foldl OY u) l:=rfl;have e2:GR st (r::l)=GR (r.d7.foldl PE st) l:=rfl;rw[e1,e2];exact RK (RJ h (hc r (by simp))) (fun b hb=>hc b (Em _ hb))
theorem Um: ∀l:List Bool,l.all id=decide (EE l=0)
 |[]=>by simp[EE]
 |b::l=>by
  rw[D4,Um l];cases b
  .simp[EE]
  .have:EE (true::l)=EE l:=by simp[EE]
   rw[this];rfl
theorem AGs(d:Bs):d.okR=d.okG:=by
 unfold Bs.okR Bs.okG;by_cases hr:d.rules.all (Bd d)=true
 .have h0:R2 d.am.length (List.replicate d.am.length false) []:=⟨by simp,by simp[EE],fun c h0 h1=>by simp[Rd]⟩;have h:=RK (l:=d.rules) h0 (fun r hr' c hc=>by
   have:=DO.1 hr r hr';simp only[Bd,AP]at this;exact N2 this.2.2.2 c hc)
  have hc:=h.cnt;rw[Um];congr 6;rw[decide_eq_decide];omega
 .rw[Kw]at hr;rw[hr];simp
def wd(id:Abs.Id)(n:Nat):AV:=if n=0 then .emp else .eq id 0 n
theorem BJ{id:Abs.Id}{n:Nat}(h:n≠0):wd id n=.eq id 0 n:=by rw[wd,CI h]
structure Xy(π:List Nat)(l sz mt df:Abs.Id):Prop where
 ul:Id.under π l=false
 us:Id.under π sz=false
 um:Id.under π mt=false
 ud:Id.under π df=false
 ls:Id.is l sz=false
 lm:Id.is l mt=false
 ld:Id.is l df=false
 sl:Id.is sz l=false
 sm:Id.is sz mt=false
 sd:Id.is sz df=false
 ml:Id.is mt l=false
 ms:Id.is mt sz=false
 md:Id.is mt df=false
 dl:Id.is df l=false
 ds:Id.is df sz=false
 dm:Id.is df mt=false
structure JK(h:AD)(p:AL)(l sz mt df:Abs.Id)(st:BT):Prop where
 box:h.get l=some (.box [.d (.be (p.free.map Av)),.d (.be (p.nodes.map Af)),.d (.be (p.defs.map Ax)),.d (.int .i64 p.main),wd sz p.nodes.length,wd mt p.nodes.length,wd df p.defs.length])
 ci:p.nodes.length≠0→h.get sz=some (.d9 1 (st.ci.map AJ))
 met:p.nodes.length≠0→h.get mt=some (.d9 1 (st.met.map Cf))
 defs:p.defs.length≠0→h.get df=some (.d9 1 (st.defs.map Cf))
structure Ry(p:AL)(l sz mt df:Abs.Id)(h:AD)(π:List Nat)(r:Option BT)(o:Ad)(h':AD):Prop where
 ret: ∀st',r=some st'→o=.ret (.ge [])∧JK h' p l sz mt df st'∧ ∀id',Id.under π id'=false→Id.is sz id'=false→Id.is mt id'=false→Id.is df id'=false→h'.get id'=h.get id'
 f9:r=none→o=.f9 HL
variable{l sz df:Abs.Id}
theorem Dk{mt:Abs.Id}{r:Option BT}(hr:r=none):Ry p l sz mt df h π r (.f9 HL) h':=⟨fun st' hs=>by{rw[hr]at hs;cases hs},fun _=>rfl⟩
@[go_sem] theorem AHL:cfg.meth 307 "cabotage/scope.kids" =some 236:=rfl
@[go_sem] theorem AHM:cfg.meth 308 "cabotage/scope.kids" =some 237:=rfl
@[go_sem] theorem AHN:cfg.meth 309 "cabotage/scope.kids" =some 238:=rfl
@[go_sem] theorem AHO:cfg.meth 310 "cabotage/scope.kids" =some 239:=rfl
@[go_sem] theorem AHP:cfg.meth 314 "cabotage/scope.kids" =some 240:=rfl
structure si(p:AL)(l sz mt df:Abs.Id)(h:AD)(π:List Nat)(L:List (Nat×Abs.Obj))(st:BT)(g:AD):Prop where
 looks:JK g p l sz mt df st
 node: ∀q∈L,g.get (0::q.1::π)=some q.2
 frame: ∀id',Id.under π id'=false→Id.is sz id'=false→Id.is mt id'=false→Id.is df id'=false→g.get id'=h.get id'
theorem Fa{mt:Abs.Id}(h:Xy π l sz mt df)(n:Nat):Xy (n::π) l sz mt df:={h with ul:=AG h.ul n,us:=AG h.us n,um:=AG h.um n,ud:=AG h.ud n}
theorem WC(i j:Nat)(π:List Nat)(h:i≠j):Id.under (i::π) (0::j::π)=false:=ED fun hs=>by
 rcases IT.1 hs with e|hs
 .have:=congrArg List.length e;simp at this
 rcases IT.1 hs with e|hs
 .simp only[No,and_true]at e;exact h e
 .have:=hs.length_le;simp at this;omega
variable{g:AD}
theorem ML{mt:Abs.Id}{ρ:List Nat}(h:JK g p l sz mt df st)(hi:Xy ρ l sz mt df):JK (gc ρ g) p l sz mt df st:=
 ⟨by rw[AU _ _ _ hi.ul];exact h.box,fun hn=>by rw[AU _ _ _ hi.us];exact h.ci hn,fun hn=>by rw[AU _ _ _ hi.um];exact h.met hn,fun hn=>by rw[AU _ _ _ hi.ud];exact h.defs hn⟩
variable{L:List (Nat×Abs.Obj)}{j:Nat}
theorem Hq{mt:Abs.Id}(hf:si p l sz mt df h π L st g)(hi:Xy π l sz mt df){o:Abs.Obj}(hj: ∀q∈L,j≠q.1):si p l sz mt df h π L st (g.put (0::j::π) o):=by
 refine⟨⟨?_,fun hn=>?_,fun hn=>?_,fun hn=>?_⟩,fun q hq=>?_,fun id' h1 h2 h3 h4=>?_⟩
 .rw[get_put,AH hi.ul];exact hf.looks.box
 .rw[get_put,AH hi.us];exact hf.looks.ci hn
 .rw[get_put,AH hi.um];exact hf.looks.met hn
 .rw[get_put,AH hi.ud];exact hf.looks.defs hn
 .have:Id.is (0::j::π) (0::q.1::π)=false:=AE fun e=>hj q hq (by simpa using e);rw[get_put,this];exact hf.node q hq
 .rw[get_put,AH h1];exact hf.frame id' h1 h2 h3 h4
theorem PY{mt:Abs.Id}{g':AD}(hf:si p l sz mt df h π L st g)(hi:Xy π l sz mt df)(hj: ∀q∈L,j≠q.1)(hl:JK g' p l sz mt df st')(hg: ∀id',Id.under (j::π) id'=false→Id.is sz id'=false→Id.is mt id'=false→Id.is df id'=false→g'.get id'=g.get id'):si p l sz mt df h π L st' (gc (j::π) g'):=by
 refine⟨ML hl (Fa hi j),fun q hq=>?_,fun id' h1 h2 h3 h4=>?_⟩
 .have hu:=WC j q.1 π (hj q hq);rw[AU _ _ _ hu,hg _ hu (Ak hi.us _ _) (Ak hi.um _ _) (Ak hi.ud _ _)];exact hf.node q hq
 .rw[AU _ _ _ (AG h1 j),hg _ (AG h1 j) h2 h3 h4];exact hf.frame id' h1 h2 h3 h4
theorem G4(h:st.fit p)(hg:kF st st'):st'.fit p:=⟨hg.ci.trans h.ci,hg.met.trans h.met,hg.defs.trans h.defs⟩
theorem uc(x:Bc)(size:Int):BB (KL Tryz.prog cfg) 212 [.agg [.d (.int .i64 x.op),.d (.int .i64 x.n),.d (.be (x.kids.map Bg))],.d (.int .i64 size)] []=CC HL (x.ok size):=by rw[AEH,Tq]
theorem Ox(d:Bs):BB (KL Tryz.prog cfg) 213 [.agg [.d (.be (d.am.map A3)),.d (.be (d.ac.map Ao)),.d (.be (d.rules.map A0))]] []=CC HL d.okG:=by rw[AED,Tq]
variable{k:Nat}
theorem OZ{n size:Int}{x:C0}(hn:0≤n)(ht:st.met[n.toNat]? =some false)(hx:p.nodes[n.toNat]? =some x):BH p (k+1) n size st=if Cy p size x=true then match RU p size x (st.meet n size)with
 |some (l,st2)=>CK (BH p k) l st2
 |none=>none
 else none:=by
 rw[BH,D0 ⟨hn,ht⟩,hx];all_goals rfl
theorem WI{n size:Int}{x:C0}(hn:0≤n)(ht:st.met[n.toNat]? =some false)(hx:p.nodes[n.toNat]? =some x)(hb:Cy p size x=false):BH p (k+1) n size st=none:=by
 rw[OZ hn ht hx,hb,CI (by simp)]
theorem MX(p:AL)(hN:p.nodes.length≤60)(n size:Int)(st:BT)(h:AD)(π:List Nat)(l sz mt df:Abs.Id)(hfit:st.fit p)(hid:Xy π l sz mt df)(hl:JK h p l sz mt df st)(hb:0≤n→n<p.nodes.length→st.met[n.toNat]? =some true):
 ∃o h',KL Tryz.prog cfg (.fn 201) [.ptr l 0,.d (.int .i64 n),.d (.int .i64 size)] h π true none=.ok (o,h')∧Ry p l sz mt df h π none o h':=by
 obtain⟨ul,us,um,ud,ls,lm,ld,sl,sm,sd,ml,ms,md,dl,ds,dm⟩:=hid;obtain⟨lbox,lsz,lmt,ldf⟩:=hl;have lsz:=AA.mk lsz;have ldf:=AA.mk ldf;have hb:=AA.mk hb;have hfm:=hfit.met
 (refine Aj rfl Tryz.func201 rfl rfl rfl ?_;show Wp _ _ _ _ (Tryz.f201.body.get rfl) _ _;simp only[Tryz.f201,AS])
 by_cases hn:0≤n
 .by_cases hn2:n<p.nodes.length
  .have hne:p.nodes.length≠0:=by omega
   have hlt:n.toNat<p.nodes.length:=by omega
   have ht:=hb.out hn hn2;have lmt:=lmt hne;rw[BJ hne,BJ hne]at lbox;refine aw ?_;exact Dk rfl
  .refine aw ?_;exact Dk rfl
 .refine aw ?_;exact Dk rfl
theorem jv(p:AL)(hN:p.nodes.length≤60)(hD:p.defs.length≤12): ∀(k:Nat) (n size:Int) (st:BT) (h:AD) (π:List Nat) (l sz mt df:Abs.Id),EE st.met≤k→st.fit p→0≤size→size+70*k≤5000→Xy π l sz mt df→JK h p l sz mt df st→
 ∃o h',KL Tryz.prog cfg (.fn 201) [.ptr l 0,.d (.int .i64 n),.d (.int .i64 size)] h π true none=.ok (o,h')∧Ry p l sz mt df h π (BH p k n size st) o h':=by
 intro k;induction k with
 |zero=>
  intro n size st h π l sz mt df hk hfit h0 hb hid hl;refine MX p hN n size st h π l sz mt df hfit hid hl fun h1 h2=>?_;obtain⟨t,ht⟩:=get_some (l:=st.met) (i:=n.toNat) (by rw[hfit.met];omega);cases t with
  |true=>exact ht
  |false=>have:=E5 ht;omega
 |succ k ih=>
 intro n size st h π l sz mt df hk hfit h0 hb hid hl;have hid2:=AA.mk hid;obtain⟨ul,us,um,ud,ls,lm,ld,sl,sm,sd,ml,ms,md,dl,ds,dm⟩:=hid;have hl2:=AA.mk hl;obtain⟨lbox,lsz,lmt,ldf⟩:=hl;have e1:=AH ul;have e2:=AH us;have e3:=AH um;have e4:=AH ud;have e5:=Ak ul;have e6:=Ak us;have e7:=Ak um;have e8:=Ak ud;by_cases hn:0≤n
 .by_cases hn2:n<p.nodes.length
  .have hne:p.nodes.length≠0:=by omega
   have hlt:n.toNat<p.nodes.length:=by omega
   obtain⟨x,hx⟩:=get_some hlt;obtain⟨t,ht⟩:=get_some (l:=st.met) (i:=n.toNat) (by rw[hfit.met];omega);obtain⟨s0,hs0⟩:=get_some (l:=st.ci) (i:=n.toNat) (by rw[hfit.ci];omega);have lmt:=lmt hne;have lsz:=lsz hne;rw[BJ hne,BJ hne]at lbox;have ih:=AA.mk ih;have ldf:=AA.mk ldf;have hfs:=hfit.ci;have hfm:=hfit.met;cases t with
   |true=>
    have e:BH p (k+1) n size st=none:=by
     rw[BH,CI];rw[ht];simp
    rw[e];exact MX p hN n size st h π l sz mt df hfit hid2.out hl2.out fun _ _=>ht
   |false=>
    (refine Aj rfl Tryz.func201 rfl rfl rfl ?_;show Wp _ _ _ _ (Tryz.f201.body.get rfl) _ _;simp only[Tryz.f201,AS])
    have hs:=AA.mk (OZ (p:=p) (k:=k) (size:=size) hn ht hx);have hbad:=AA.mk (WI (p:=p) (k:=k) (size:=size) hn ht hx);obtain⟨xo,xn,xa,xk⟩:=x;have hn0:AA (∀o o',si p l sz mt df h π [(46,o')] (st.meet n size) ((((h.put mt (.d9 1 ((List.map Cf st.met).set n.toNat [.bool true]))).put sz (.d9 1 ((List.map AJ st.ci).set n.toNat [.int .i64 size]))).put (0::46::π) o).put (0::46::π) o')):=.mk fun o o'=>by
     refine⟨⟨?_,fun _=>?_,fun _=>?_,fun hd=>?_⟩,?_,fun id' h1 h2 h3 h4=>?_⟩
     .rw[BJ hne,BJ hne];simp only[get_put,e1,sl,ml,AM,El,lbox]
     .simp only[get_put,e2,is_self,AM,El,F2,BT.meet,Jp];rfl
     .simp only[get_put,e3,sm,is_self,AM,El,F2,BT.meet,Jp];rfl
     .simp only[get_put,e4,sd,md,AM,El,BT.meet,ldf.out hd]
     .intro q hq;cases As.1 hq;simp only[get_put,is_self,F2]
     .simp only[get_put,AH h1,h2,h3,AM,El]
    by_cases o4:xo=4
    .subst o4;by_cases x0:xn<0
     ·(repeat' (first|simp only[go_sem, *,Hb,Mh]|(refine sx ?_ ?_<;>intro hc)|refine sy (by omega) fun x hx hm=>?_|simp(disch:=first|assumption|omega) only[AK]))
      all_goals try(exfalso;omega)
      all_goals (exact Dk (hbad.out (by clear e1 e2 e3 e4 e5 e6 e7 e8 lbox lmt lsz hs hbad ih hn0;grind [Cy,DX,XZ,E7])))
     by_cases x1:(p.defs.length:Int)≤xn
     ·(repeat' (first|simp only[go_sem, *,Hb,Mh]|(refine sx ?_ ?_<;>intro hc)|refine sy (by omega) fun x hx hm=>?_|simp(disch:=first|assumption|omega) only[AK]))
      all_goals try(exfalso;omega)
      all_goals (exact Dk (hbad.out (by clear e1 e2 e3 e4 e5 e6 e7 e8 lbox lmt lsz hs hbad ih hn0;grind [Cy,DX,XZ,E7])))
     have x2:0≤xn:=by omega
     have x3:xn<p.defs.length:=by omega
     have hdl:p.defs.length≠0:=by omega
     have hxlt:xn.toNat<p.defs.length:=by omega
     obtain⟨d,hd⟩:=get_some hxlt;obtain⟨t,htd⟩:=get_some (l:=st.defs) (i:=xn.toNat) (by rw[hfit.defs];omega);have hfd:=hfit.defs;have ldf2:=ldf.out hdl;rw[BJ hdl]at lbox;have hinto:RU p size ⟨4,xn,xa,xk⟩ (st.meet n size)=if st.defs[xn.toNat]? =some false∧d.okG=true then some (Cp d (size+d.own) d.rules++(CQ (size+d.own) d.ac++CM (size+d.own) xk),{st.meet n size with defs:=st.defs.set xn.toNat true})else none:=by
      rw[RU,D0 rfl,hd];rfl
     have hinto:=AA.mk hinto;have hn1:AA (∀o o' b,si p l sz mt df h π [(131,o'),(46,b)] {st.meet n size with defs:=st.defs.set xn.toNat true} (((((((h.put mt (.d9 1 ((List.map Cf st.met).set n.toNat [.bool true]))).put sz (.d9 1 ((List.map AJ st.ci).set n.toNat [.int .i64 size]))).put (0::46::π) (.box [.d (.int .i64 0),.d (.int .i64 0),.co,.co])).put (0::46::π) b).put df (.d9 1 ((List.map Cf st.defs).set xn.toNat [.bool true]))).put (0::131::π) o).put (0::131::π) o')):=.mk fun o o' b=>by
      refine⟨⟨?_,fun _=>?_,fun _=>?_,fun hd=>?_⟩,?_,fun id' h1 h2 h3 h4=>?_⟩
      .rw[BJ hne,BJ hne,BJ hdl];simp only[get_put,e1,sl,ml,dl,AM,El,lbox]
      .simp only[get_put,e2,ds,is_self,AM,El,F2,BT.meet,Jp];rfl
      .simp only[get_put,e3,sm,dm,is_self,AM,El,F2,BT.meet,Jp];rfl
      .simp only[get_put,e4,is_self,AM,El,F2,BT.meet,Jp];rfl
      .simp only[Co,F9,Lw,Gc,forall_eq];simp only[go_sem,e8]
      .simp only[get_put,AH h1,h2,h3,h4,AM,El]
     by_cases hgt:t=false∧d.okG=true
     .obtain⟨rfl,hg⟩:=hgt;have hdo:=TG hg;have c1:=hdo.am;have c2:=hdo.ac;have c3:=hdo.rules;have hown:=OE hdo;have hok:=AFc d (by omega) (by omega);have hdo:=AA.mk hdo
      (repeat' (first|simp only[go_sem, *,Hb,Mh,Ox]|(refine sx ?_ ?_<;>intro hc)|refine sy (by omega) fun x hx hm=>?_|simp(disch:=first|assumption|omega) only[AK]))
      all_goals try(exfalso;omega)
      all_goals try(exact Dk (hbad.out (by clear e1 e2 e3 e4 e5 e6 e7 e8 lbox lmt lsz hs hbad ih hn0;grind [Cy,DX,XZ,E7])))
      rw[C7]
      (repeat' (first|simp only[go_sem, *,Ox]|(refine sx ?_ ?_<;>intro hc)|refine sy (by omega) fun x hx hm=>?_|simp(disch:=first|assumption|omega) only[AK]))
      refine AX d.rules _ (fun m i a=>⟨[(0,.ptr l 0),(2,.d (.int .i64 (size+(d.own:Int)))),(6,.ptr (0::46::π) 0),(11,.ptr (0::131::π) 0),(190,.d (.be (d.rules.map A0))),(191,.d (.int .i64 m)),(192,.d (.int .i64 i))],a.1.1,a.2+144,[]⟩)
       (Inv:=fun i rest a=>si p l sz mt df h π [(131,.box [.d (.be (d.am.map A3)),.d (.be (d.ac.map Ao)),.d (.be (d.rules.map A0))]),(46,.box [.d (.int .i64 4),.d (.int .i64 xn),.d (.be (xa.map Bg)),.d (.be (xk.map AJ))])] a.1.2 a.1.1∧a.1.2.fit p∧EE a.1.2.met≤k∧AA (BH p (k+1) n size st=CK (BH p k) (Cp d (size+d.own) rest++(CQ (size+d.own) d.ac++CM (size+d.own) xk)) a.1.2)) (b0:=((_,{st.meet n size with defs:=st.defs.set xn.toNat true}),_)) ?_ ⟨hn1.out _ _ _,?_,?_,⟨?_⟩⟩ ?_ ?_
      .rfl
      .have:=PT hfit n size;exact⟨this.ci,this.met,by simp[hfit.defs]⟩
      .have:=E5 ht;simp only[BT.meet];omega
      .rw[hs.out,D0,hinto.out,D0 ⟨htd,hg⟩];have h00:((xa.length:Int)=0):=by assumption
       have hxa:xa=[]:=DL (by omega);clear e1 e2 e3 e4 e5 e6 e7 e8 lbox lmt lsz hs hbad ih hn0 hn1 hdo hinto;grind [Cy,DX,XZ,E7]
      .rintro i r ⟨⟨g,st1⟩,c⟩ hy hi him ⟨hf,hfit1,hun,hv⟩ IH;dsimp only at*;have hr1:=hf.node _ (FD ..);dsimp only at hr1;have hj:=OI hdo.out (Ac hy);have hb1:=kg d r hj;have hb2:=K2 hj.2.2 r.d7;have hb3:=hj.1;have hj:=AA.mk hj;refine aw ?_;refine E3 (ih.out r.node (size+d.own+CR d r.d7) st1 _ _ l sz mt df hun hfit1 (by omega) (by omega) (Fa hid2.out _) (Hq (Hq hf hid2.out ?_) hid2.out ?_).looks) (fun o1 g1 p1=>?_)
       .simp only[Co,F9,Lw,Gc,forall_eq];omega
       .simp only[Co,F9,Lw,Gc,forall_eq];omega
       cases hvy:BH p k r.node (size+d.own+CR d r.d7) st1 with
       |none=>
        obtain rfl:=p1.f9 hvy;clear p1;refine aw ?_;refine Dk (hv.out.trans ?_);simp only[Cp,Cs,F3,CK,hvy]
       |some st2=>
        obtain⟨rfl,hl2,hfr⟩:=p1.ret st2 hvy;have hfr:=AA.mk hfr;clear p1;refine aw ?_;have hgr:=CZ p _ _ _ _ _ hvy;refine IH.out ((_,st2),_) ⟨PY (Hq (Hq hf hid2.out ?_) hid2.out ?_) hid2.out ?_ hl2 hfr.out,G4 hfit1 hgr,IP hgr.less hun,⟨?_⟩⟩
        .simp only[Co,F9,Lw,Gc,forall_eq];omega
        .simp only[Co,F9,Lw,Gc,forall_eq];omega
        .simp only[Co,F9,Lw,Gc,forall_eq];omega
        .rw[hv.out];simp only[Cp,Cs,F3,CK,hvy]
      .rintro i ⟨⟨g,st1⟩,c⟩ hi him ⟨hf,hfit1,hun,hv⟩;dsimp only at*;have hr1:=hf.node _ (FD ..);have hr2:=hf.node _ (Em _ (FD ..));dsimp only at hr1 hr2;refine aw ?_;refine AX d.ac _ (fun m i a=>⟨[(0,.ptr l 0),(2,.d (.int .i64 (size+(d.own:Int)))),(6,.ptr (0::46::π) 0),(207,.d (.be (d.ac.map Ao))),(208,.d (.int .i64 m)),(209,.d (.int .i64 i))],a.1.1,a.2+144,[]⟩)
        (Inv:=fun i rest a=>si p l sz mt df h π [(131,.box [.d (.be (d.am.map A3)),.d (.be (d.ac.map Ao)),.d (.be (d.rules.map A0))]),(46,.box [.d (.int .i64 4),.d (.int .i64 xn),.d (.be (xa.map Bg)),.d (.be (xk.map AJ))])] a.1.2 a.1.1∧a.1.2.fit p∧EE a.1.2.met≤k∧AA (BH p (k+1) n size st=CK (BH p k) (CQ (size+d.own) rest++CM (size+d.own) xk) a.1.2)) (b0:=((g,st1),_)) rfl ⟨hf,hfit1,hun,⟨?_⟩⟩ ?_ ?_
       .exact hv.out
       .clear hf hfit1 hun hv hr1 hr2 i hi him g st1 c;rintro i r ⟨⟨g,st1⟩,c⟩ hy hi him ⟨hf,hfit1,hun,hv⟩ IH;dsimp only at*;refine aw ?_;refine AZ (ih.out r.node (size+d.own) st1 _ _ l sz mt df hun hfit1 (by omega) (by omega) (Fa hid2.out _) (Hq (Hq hf hid2.out ?_) hid2.out ?_).looks) (fun o1 g1 p1=>?_)
        .simp only[Co,F9,Lw,Gc,forall_eq];omega
        .simp only[Co,F9,Lw,Gc,forall_eq];omega
        cases hvy:BH p k r.node (size+d.own) st1 with
        |none=>
         obtain rfl:=p1.f9 hvy;clear p1;refine aw ?_;refine Dk (hv.out.trans ?_);simp only[CQ,Cs,F3,CK,hvy]
        |some st2=>
         obtain⟨rfl,hl2,hfr⟩:=p1.ret st2 hvy;have hfr:=AA.mk hfr;clear p1;refine aw ?_;have hgr:=CZ p _ _ _ _ _ hvy;refine IH.out ((_,st2),_) ⟨PY (Hq (Hq hf hid2.out ?_) hid2.out ?_) hid2.out ?_ hl2 hfr.out,G4 hfit1 hgr,IP hgr.less hun,⟨?_⟩⟩
         .simp only[Co,F9,Lw,Gc,forall_eq];omega
         .simp only[Co,F9,Lw,Gc,forall_eq];omega
         .simp only[Co,F9,Lw,Gc,forall_eq];omega
         .rw[hv.out];simp only[CQ,Cs,F3,CK,hvy]
       .clear hf hfit1 hun hv hr1 hr2 i hi him g st1 c;rintro i ⟨⟨g,st1⟩,c⟩ hi him ⟨hf,hfit1,hun,hv⟩;dsimp only at*;have hr1:=hf.node _ (FD ..);have hr2:=hf.node _ (Em _ (FD ..));dsimp only at hr1 hr2;refine aw ?_;refine AX xk _ (fun m i a=>⟨[(0,.ptr l 0),(2,.d (.int .i64 (size+(d.own:Int)))),(220,.d (.be (xk.map AJ))),(221,.d (.int .i64 m)),(222,.d (.int .i64 i))],a.1.1,a.2+144,[]⟩)
         (Inv:=fun i rest a=>si p l sz mt df h π [(131,.box [.d (.be (d.am.map A3)),.d (.be (d.ac.map Ao)),.d (.be (d.rules.map A0))]),(46,.box [.d (.int .i64 4),.d (.int .i64 xn),.d (.be (xa.map Bg)),.d (.be (xk.map AJ))])] a.1.2 a.1.1∧a.1.2.fit p∧EE a.1.2.met≤k∧AA (BH p (k+1) n size st=CK (BH p k) (CM (size+d.own) rest) a.1.2)) (b0:=((g,st1),_)) ?_ ⟨hf,hfit1,hun,⟨?_⟩⟩ ?_ ?_
        .omega
        .exact hv.out
        .clear hf hfit1 hun hv hr1 hr2 i hi him g st1 c;rintro i y ⟨⟨g,st1⟩,c⟩ hy hi him ⟨hf,hfit1,hun,hv⟩ IH;dsimp only at*;refine aw ?_;refine AZ (ih.out y (size+d.own) st1 _ _ l sz mt df hun hfit1 (by omega) (by omega) (Fa hid2.out _) hf.looks) (fun o1 g1 p1=>?_);cases hvy:BH p k y (size+d.own) st1 with
         |none=>
          obtain rfl:=p1.f9 hvy;clear p1;refine aw ?_;refine Dk (hv.out.trans ?_);simp only[CM,Cs,F3,CK,hvy]
         |some st2=>
          obtain⟨rfl,hl2,hfr⟩:=p1.ret st2 hvy;have hfr:=AA.mk hfr;clear p1;refine aw ?_;have hgr:=CZ p _ _ _ _ _ hvy;refine IH.out ((_,st2),_) ⟨PY hf hid2.out ?_ hl2 hfr.out,G4 hfit1 hgr,IP hgr.less hun,⟨?_⟩⟩
          .simp only[Co,F9,Lw,Gc,forall_eq];omega
          .rw[hv.out];simp only[CM,Cs,F3,CK,hvy]
        .clear hf hfit1 hun hv hr1 hr2 i hi him g st1 c;rintro i ⟨⟨g,st1⟩,c⟩ hi him ⟨hf,hfit1,hun,hv⟩;dsimp only at*;refine aw ?_;refine⟨fun st' hst=>?_,fun hst=>?_⟩
         .rw[hv.out]at hst;cases hst;exact⟨rfl,hf.looks,hf.frame⟩
         .rw[hv.out]at hst;cases hst
     .have hno:AA (BH p (k+1) n size st=none):=by
       refine⟨?_⟩;rw[hs.out,hinto.out,htd];split
       .rw[CI (by simpa using hgt)]
       .rfl
      cases t
      .have hg:d.okG=false:=by simpa using hgt
       (repeat' (first|simp only[go_sem, *,Hb,Mh,Ox]|(refine sx ?_ ?_<;>intro hc)|refine sy (by omega) fun x hx hm=>?_|simp(disch:=first|assumption|omega) only[AK]))
       all_goals try(exfalso;omega)
       all_goals try(exact Dk hno.out)
       rw[C7]
       (repeat' (first|simp only[go_sem, *,Ox]|(refine sx ?_ ?_<;>intro hc)|refine sy (by omega) fun x hx hm=>?_|simp(disch:=first|assumption|omega) only[AK]))
       try exact Dk hno.out
      ·(repeat' (first|simp only[go_sem, *,Hb,Mh]|(refine sx ?_ ?_<;>intro hc)|refine sy (by omega) fun x hx hm=>?_|simp(disch:=first|assumption|omega) only[AK]))
       all_goals try(exfalso;omega)
       all_goals (exact Dk hno.out)
    have hop:xo=1∨xo=7∨xo=3∨(xo=2∧3<(xa.length:Int))∨(xo=2∧ ¬3<(xa.length:Int))∨xo=5∨xo=6∨xo=8∨(¬xo=1∧ ¬xo=7∧ ¬xo=3∧ ¬xo=2∧ ¬xo=5∧ ¬xo=6∧ ¬xo=8):=by omega
    rcases hop with rfl|rfl|rfl|⟨rfl,ha⟩|⟨rfl,ha⟩|rfl|rfl|rfl|⟨n1,n2,n3,n4,n5,n6,n7⟩;all_goals ((repeat' (first|simp only[go_sem, *,Hb,Mh]|(refine sx ?_ ?_<;>intro hc)|refine sy (by omega) fun x hx hm=>?_|simp(disch:=first|assumption|omega) only[AK])))
    all_goals try(exfalso;omega)
    all_goals try(exact Dk (hbad.out (by clear e1 e2 e3 e4 e5 e6 e7 e8 lbox lmt lsz hs hbad ih hn0;grind [Cy,DX,XZ,E7])))
    all_goals
     refine AX xa _ (fun m i a=>⟨[(0,.ptr l 0),(2,.d (.int .i64 size)),(6,.ptr (0::46::π) 0),(154,.d (.be (xa.map Bg))),(155,.d (.int .i64 m)),(156,.d (.int .i64 i))],a.1,a.2+60,[]⟩)
      (Inv:=fun i rest a=>si p l sz mt df h π _ (st.meet n size) a.1∧AA (xa.all (Bc.ok size)=rest.all (Bc.ok size))) (b0:=(_,_)) ?_ ⟨hn0.out _ _,⟨rfl⟩⟩ ?_ ?_
     .omega
     .rintro i y ⟨g,c⟩ hy hi him ⟨hf,hr⟩ IH;dsimp only at*;try(exfalso;omega)
      all_goals ((repeat' (first|simp only[go_sem, *,uc]|(refine sx ?_ ?_<;>intro hc)|refine sy (by omega) fun x hx hm=>?_|simp(disch:=first|assumption|omega) only[AK])))
      all_goals first
      |exact Dk (hbad.out (by simp only[Cy,hr.out,D4, *,CO,GS]))
      |(refine IH.out (_,_) ⟨Hq (Hq hf hid2.out ?_) hid2.out ?_,⟨?_⟩⟩
        .intro q hq;cases As.1 hq;dsimp only;omega
        .intro q hq;cases As.1 hq;dsimp only;omega
        .rw[hr.out,D4];simp only[*,EM])
     .rintro i ⟨g,c⟩ hi him ⟨hf,hr⟩;dsimp only at*;have hnode:=hf.node _ (FD ..);dsimp only at hnode;refine aw ?_;refine AX xk _ (fun m i a=>⟨[(0,.ptr l 0),(2,.d (.int .i64 size)),(220,.d (.be (xk.map AJ))),(221,.d (.int .i64 m)),(222,.d (.int .i64 i))],a.1.1,a.2+60,[]⟩)
       (Inv:=fun i rest a=>si p l sz mt df h π _ a.1.2 a.1.1∧a.1.2.fit p∧EE a.1.2.met≤k∧AA (BH p (k+1) n size st=CK (BH p k) (CM size rest) a.1.2)) (b0:=((_,st.meet n size),_)) ?_ ⟨hf,PT hfit _ _,?_,⟨?_⟩⟩ ?_ ?_
      .omega
      .have:=E5 ht;simp only[BT.meet];omega
      .rw[hs.out,D0,RU]
       .rfl
       .have hall:xa.all (Bc.ok size)=true:=by rw[hr.out];rfl
        clear e1 e2 e3 e4 e5 e6 e7 e8 lbox lmt lsz hs hbad ih hn0 hf hr hnode;grind [Cy,DX,XZ,E7]
      .rintro i y ⟨⟨g,st1⟩,c⟩ hy hi him ⟨hf,hfit1,hun,hv⟩ IH;dsimp only at*;try(exfalso;omega)
       all_goals (refine aw ?_)
       all_goals
       refine AZ (ih.out y size st1 g _ l sz mt df hun hfit1 h0 (by omega) (Fa hid2.out _) hf.looks) (fun o1 g1 p1=>?_);cases hvy:BH p k y size st1 with
       |none=>
        obtain rfl:=p1.f9 hvy;clear p1;refine aw ?_;refine Dk (hv.out.trans ?_);simp only[CM,Cs,CK,hvy]
       |some st2=>
        obtain⟨rfl,hl2,hfr⟩:=p1.ret st2 hvy;have hfr:=AA.mk hfr;clear p1;refine aw ?_;have hgr:=CZ p _ _ _ _ _ hvy;refine IH.out ((_,st2),_) ⟨PY hf hid2.out ?_ hl2 hfr.out,G4 hfit1 hgr,IP hgr.less hun,⟨?_⟩⟩
        .intro q hq;cases As.1 hq;dsimp only;omega
        .rw[hv.out];simp only[CM,Cs,CK,hvy]
      .rintro i ⟨⟨g,st1⟩,c⟩ hi him ⟨hf,hfit1,hun,hv⟩;dsimp only at*;refine aw ?_;refine⟨fun st' hst=>?_,fun hst=>?_⟩
       .rw[hv.out]at hst;cases hst;exact⟨rfl,hf.looks,hf.frame⟩
       .rw[hv.out]at hst;cases hst
  .have e:BH p (k+1) n size st=none:=by
    rw[BH];split
    .rename_i hh;have:=AI hh.2;rw[hfit.met]at this;omega
    .rfl
   rw[e];exact MX p hN n size st h π l sz mt df hfit hid2.out hl2.out fun _ h=>absurd h hn2
 .have e:BH p (k+1) n size st=none:=by
   rw[BH,CI fun hh=>hn hh.1]
  rw[e];exact MX p hN n size st h π l sz mt df hfit hid2.out hl2.out fun h=>absurd h hn
def UX(x:Bool):List Bool→Int→Int
 |[],_=> -1
 |y::l,i=>if (x==y)=true then i else UX x l (i+1)
theorem Zh(v:Bool): ∀(l:List Bool) (i:Int),0≤i→(0≤UX v l i↔v∈l)
 |[],i,h=>by simp[UX]
 |y::l,i,h=>by
  rw[UX];split
  .rename_i e;have:v=y:=by simpa using e
   simp[this,h]
  .rename_i e;have: ¬v=y:=by simpa using e
   rw[Zh v l (i+1) (by omega)];simp[this]
@[go_sem] theorem AF3(l:List Bool)(v:Bool)(hl:l.length≤1000000):BB (KL Tryz.prog cfg) 216 [.d (.be (l.map Cf)),.d (.bool v)] []=.ok (.ret (.d (.int .i64 (UX v l 0))),[]):=by
  (refine Ae rfl Tryz.func216 rfl rfl rfl ?_;show Wp _ _ _ _ (Tryz.f216.body.get rfl) _ _;simp only[Tryz.f216,AS])
  refine aw ?_;refine Ah l (S:=fun i (u:Unit)=>⟨[(0,.d (.be (l.map Cf))),(1,.d (.bool v)),(7,.d (.int .i64 l.length)),(8,.d (.int .i64 i))],[],0,[]⟩) (Inv:=fun i rest _=>AA (UX v l 0=UX v rest i)) (b0:=()) ⟨rfl⟩ ?_ ?_
  .rintro i y ⟨⟩ hy hi him hr IH
   (repeat' (first|simp only[go_sem, *]|(refine sx ?_ ?_<;>intro hc)|refine sy (by omega) fun x hx hm=>?_|simp(disch:=first|assumption|omega) only[AK]))
   .rw[hr.out,UX,D0 (by assumption)]
   .refine IH.out () ⟨?_⟩;rw[hr.out,UX,CI (by simp[*])];rfl
  .rintro i ⟨⟩ hi him hr;refine aw ?_;rw[hr.out,UX]
@[go_sem] theorem K8(l:List Bool)(v:Bool)(hl:l.length≤1000000):BB (KL Tryz.prog cfg) 202 [.d (.be (l.map Cf)),.d (.bool v)] []=.ok (.ret (.d (.bool (decide (v∈l)))),[]):=by
  have h:=Zh v l 0 (by omega)
  (refine Ae rfl Tryz.func202 rfl rfl rfl ?_;show Wp _ _ _ _ (Tryz.f202.body.get rfl) _ _;simp only[Tryz.f202,AS])
  exact au
theorem Eb(g:G)(id:Abs.Id)(n:Nat)(h:0<n)(hm:n≤1073741824):GP g id n {kind:=TK.int,size:=1,agg:=false,str:=false,zero:=[.d (.int .i64 0)],flds:=[],elem:=0,key:=0,mix:=false}=some ⟨.eq (1::id) 0 n,[(1::id,.d9 1 ((List.replicate n (0:Int)).map AJ))]⟩:=by
 have e:(List.replicate n (0:Int)).map AJ=List.replicate n [.int .i64 0]:=by rw[OP];rfl
 rw[e];exact QK (zs:=[.int .i64 0]) h (by unfold BD;omega) rfl rfl (by decide) rfl
theorem Gj(g:G)(id:Abs.Id)(n:Nat)(h:0<n)(hm:n≤1073741824):GP g id n {kind:=TK.bool,size:=1,agg:=false,str:=false,zero:=[.d (.bool false)],flds:=[],elem:=0,key:=0,mix:=false}=some ⟨.eq (1::id) 0 n,[(1::id,.d9 1 ((List.replicate n false).map Cf))]⟩:=by
 have e:(List.replicate n false).map Cf=List.replicate n [.bool false]:=by rw[OP];rfl
 rw[e];exact QK (zs:=[.bool false]) h (by unfold BD;omega) rfl rfl (by decide) rfl
theorem Cq(i t j:Nat)(π:List Nat)(h:i≠j):Id.under (i::π) (t::j::π)=false:=ED fun hs=>by
 rcases IT.1 hs with e|hs
 .have:=congrArg List.length e;simp at this
 rcases IT.1 hs with e|hs
 .simp only[No,and_true]at e;exact h e
 .have:=hs.length_le;simp at this;omega
theorem Il(l:List Bool):l.all id=true↔ ¬false∈l:=by
 induction l with
 |nil=>simp
 |cons b l ih=>cases b<;>simp
theorem PO(hs:p.small=true)(hf:LA p.free=true)(hv:BH p (p.nodes.length+1) p.main p.free.length (BT.init p)=some st):looks p=if (¬false∈st.met)∧(¬false∈st.defs)then some st else none:=by
 unfold looks;rw[D0 ⟨hs,hf⟩,hv];simp only[Il]
theorem IU{id:Abs.Id}{n:Nat}(h:n=0):wd id n=.emp:=by rw[wd,D0 h]
@[go_sem] theorem zV(v:Bool):BB (KL Tryz.prog cfg) 202 [.d (.be []),.d (.bool v)] []=.ok (.ret (.d (.bool false)),[]):=by
  have:=K8 [] v (by simp);simpa using this
structure se(p:AL)(π:List Nat)(r:Ad×AD):Prop where
 f9:looks p=none→r=(.f9 HL,[])
 ret: ∀st,looks p=some st→ ∃h,r=(.ret (.ptr (0::16::π) 0),h)∧JK h p (0::16::π) (1::6::π) (1::10::π) (1::14::π) st∧ ∀id',Id.under π id'=false→h.get id'=none
theorem ABJ(p:AL)(hp: ∀s∈p.free,s.size≤maxLen)(k:Nat)(ρ:List Nat): ∃r:Ad×AD,BB (KL Tryz.prog cfg) 190 [.agg [.d (.be (p.free.map Av)),.d (.be (p.nodes.map Af)),.d (.be (p.defs.map Ax)),.d (.int .i64 p.main)]] (k::ρ)=.ok r∧se p (k::ρ) r:=by
 have hp:=AA.mk hp;by_cases hs:p.small=true
 ·(refine GJ rfl Tryz.func190 rfl rfl rfl ?_;show Wp _ _ _ _ (Tryz.f190.body.get rfl) _ _;simp only[Tryz.f190,AS])
  have hs2:=AA.mk hs;simp only[AL.small,AP,Ap]at hs;obtain⟨c1,c2,c3⟩:=hs;have c1:(p.free.length:Int)≤12:=by omega
  have c2:(p.nodes.length:Int)≤60:=by omega
  have c3:(p.defs.length:Int)≤12:=by omega
  refine aw ?_;refine AX p.free _ (S:=fun m i (u:Unit)=>⟨[(1,.ptr (0::0::k::ρ) 0),(24,.d (.be (p.free.map Av))),(25,.d (.int .i64 m)),(26,.d (.int .i64 i))],[(0::0::k::ρ,.box [.d (.be (p.free.map Av)),.d (.be (p.nodes.map Af)),.d (.be (p.defs.map Ax)),.d (.int .i64 p.main)])],1,[]⟩)
   (Inv:=fun i rest _=>AA (LA p.free=IY (if i=0 then none else p.free[i-1]?) rest)) (b0:=()) rfl ⟨rfl⟩ ?_ ?_
  .rintro i y ⟨⟩ hy hi him hr IH;have hys:=hp.out y (Ac hy);have hnm:=ACi y hys;have hbad:AA (LA p.free=false→looks p=none):=.mk fun hf=>by
    rw[looks,CI (by rw[hf];simp)]
   rcases i with _|j
   .rw[D0 rfl]at hr;have him0:(0:Int)<p.free.length:=by omega
    (repeat' (first|simp only[go_sem, *]|(refine sx ?_ ?_<;>intro hc)|refine sy (by omega) fun x hx hm=>?_|simp(disch:=first|assumption|omega) only[AK]))
    all_goals first
    |(exact⟨fun _=>rfl,fun st hst=>by rw[hbad.out (by rw[hr.out,IY];simp only[*,CO])]at hst;cases hst⟩)
    |(refine IH.out () ⟨?_⟩
      rw[hr.out,IY,CI (by omega)];simp only[*,EM];try rfl)
   .obtain⟨b,hb⟩:=get_some (l:=p.free) (i:=j) (by omega);rw[CI (by omega),Pm,hb]at hr;have w:IntKind.i64.wrap (((j+1:Nat):Int)-1)=(j:Int):=by rw[wrap_id (by omega) (by omega)];omega
    have w0: ¬((j+1:Nat):Int)=0:=by omega
    (repeat' (first|simp only[go_sem, *]|(refine sx ?_ ?_<;>intro hc)|refine sy (by omega) fun x hx hm=>?_|simp(disch:=first|assumption|omega) only[AK]))
    .refine IH.out () ⟨?_⟩;rw[hr.out,IY,CI (by omega),Pm,hy];simp only[bt, *,EM]
    .exact⟨fun _=>rfl,fun st hst=>by rw[hbad.out (by rw[hr.out,IY];simp only[bt, *,CO,GS])]at hst;cases hst⟩
    .exact⟨fun _=>rfl,fun st hst=>by rw[hbad.out (by rw[hr.out,IY];simp only[*,CO])]at hst;cases hst⟩
  .rintro i ⟨⟩ hi him hr;have hfree:AA (LA p.free=true):=⟨hr.out⟩;clear hr;by_cases hN0:p.nodes.length=0
   .have e:looks p=none:=by
     unfold looks;split
     .have:BH p (p.nodes.length+1) p.main p.free.length (BT.init p)=none:=by
       rw[BH,CI];intro hh;have:=AI hh.2;simp[BT.init]at this;omega
      rw[this]
     .rfl
    by_cases hD0:p.defs.length=0;all_goals
     (repeat' (first|simp only[go_sem, *]|(refine sx ?_ ?_<;>intro hc)|refine sy (by omega) fun x hx hm=>?_|simp(disch:=first|assumption|omega) only[AK,Eb,Gj]))
     refine AZ (MX p (by omega) p.main p.free.length (BT.init p) _ _ (0::16::k::ρ) (1::6::k::ρ) (1::10::k::ρ) (1::14::k::ρ) ⟨?_,?_,?_⟩ ?_ ⟨?_,fun h=>absurd hN0 h,fun h=>absurd hN0 h,fun _=>?_⟩ ?_) (fun o1 g1 p1=>?_)
     .simp[BT.init]
     .simp[BT.init]
     .simp[BT.init]
     .constructor<;>first|exact Cq _ _ _ _ (by decide)|simp only[go_sem]
     .simp only[wd,hN0,hD0,El,F2];simp only[go_sem]
     .first|(exact absurd hD0 ‹_›)|simp only[go_sem,BT.init]
     .omega
     obtain rfl:=p1.f9 rfl;clear p1;refine aw ?_;exact⟨fun _=>rfl,fun st hst=>by rw[e]at hst;cases hst⟩
   .by_cases hD0:p.defs.length=0
    ·(repeat' (first|simp only[go_sem, *]|(refine sx ?_ ?_<;>intro hc)|refine sy (by omega) fun x hx hm=>?_|simp(disch:=first|assumption|omega) only[AK,Eb,Gj]))
     refine AZ (jv p (by omega) (by omega) (p.nodes.length+1) p.main p.free.length (BT.init p) _ _ (0::16::k::ρ) (1::6::k::ρ) (1::10::k::ρ) (1::14::k::ρ) ?_ ⟨?_,?_,?_⟩ ?_ ?_ ?_ ⟨?_,fun _=>?_,fun _=>?_,fun _=>?_⟩) (fun o1 g1 p1=>?_)
     .have:=Mn (BT.init p).met;simp only[BT.init,I0]at*;omega
     .simp[BT.init]
     .simp[BT.init]
     .simp[BT.init]
     .omega
     .omega
     .constructor<;>first|exact Cq _ _ _ _ (by decide)|simp only[go_sem]
     .simp only[wd,hN0,hD0,El,F2];simp only[go_sem]
     .simp only[go_sem,BT.init]
     .simp only[go_sem,BT.init]
     .exact absurd hD0 ‹_›
     cases hv:BH p (p.nodes.length+1) p.main p.free.length (BT.init p)with
     |none=>
      obtain rfl:=p1.f9 hv;have e:looks p=none:=by
       unfold looks;rw[hv];split<;>rfl
      clear p1;refine aw ?_;exact⟨fun _=>rfl,fun st hst=>by rw[e]at hst;cases hst⟩
     |some st=>
      obtain⟨rfl,hl,hfr⟩:=p1.ret st hv;clear p1;have hfr:=AA.mk hfr;have hlk: ∃x,looks p=x:=⟨_,rfl⟩;obtain⟨x,hlk⟩:=hlk;have hlk:=AA.mk hlk;have hL:=ML (ρ:=24::k::ρ) hl (by constructor<;>first|exact Cq _ _ _ _ (by decide)|simp only[go_sem]);have hL:=AA.mk hL;obtain⟨b1,b2,b3,b4⟩:=hl;have b2:=b2 hN0;have b3:=b3 hN0;rw[BJ hN0,BJ hN0,IU hD0]at b1;have hg:=CZ p _ _ _ _ _ hv;have m1:st.met.length=p.nodes.length:=by rw[hg.met];simp[BT.init]
      have m2:st.defs.length=p.defs.length:=by rw[hg.defs];simp[BT.init]
      have gu: ∀(t j:Nat),24≠j→(gc (24::k::ρ) g1).get (t::j::k::ρ)=g1.get (t::j::k::ρ):=fun t j hj=>AU _ _ _ (Cq _ _ _ _ hj);have q1:=(gu 0 16 (by decide)).trans b1;have q2:=(gu 1 6 (by decide)).trans b2;have q3:=(gu 1 10 (by decide)).trans b3;clear gu;have tk1:List.take p.nodes.length (List.map Cf st.met)=List.map Cf st.met:=CS (by simp[m1]);have dn:st.defs=[]:=DL (by omega)
      (repeat' (first|simp only[go_sem, *,EX,q1,q2,q3]|(refine sx ?_ ?_<;>intro hc)|refine sy (by omega) fun x hx hm=>?_|simp(disch:=first|assumption|omega) only[AK,K8]))
      all_goals (have hlk:=hlk.out;subst hlk)
      all_goals (have hlk:=PO hs2.out hfree.out hv)
      all_goals first
      |(refine⟨fun _=>rfl,fun st' hst=>?_⟩
        rw[hlk,CI (by simp[*])]at hst;cases hst)
      |(refine⟨fun hst=>?_,fun st' hst=>?_⟩
        .rw[hlk,D0 (by simp[*])]at hst;cases hst
        .rw[hlk,D0 (by simp[*])]at hst;cases hst;refine⟨_,rfl,hL.out,fun id' hu=>?_⟩;have hu1:=AH hu;rw[AU _ _ _ (AG hu _),hfr.out id' (AG hu _) (hu1 _ _) (hu1 _ _) (hu1 _ _)];simp only[go_sem,hu1,AM])
    ·(repeat' (first|simp only[go_sem, *]|(refine sx ?_ ?_<;>intro hc)|refine sy (by omega) fun x hx hm=>?_|simp(disch:=first|assumption|omega) only[AK,Eb,Gj]))
     refine AZ (jv p (by omega) (by omega) (p.nodes.length+1) p.main p.free.length (BT.init p) _ _ (0::16::k::ρ) (1::6::k::ρ) (1::10::k::ρ) (1::14::k::ρ) ?_ ⟨?_,?_,?_⟩ ?_ ?_ ?_ ⟨?_,fun _=>?_,fun _=>?_,fun _=>?_⟩) (fun o1 g1 p1=>?_)
     .have:=Mn (BT.init p).met;simp only[BT.init,I0]at*;omega
     .simp[BT.init]
     .simp[BT.init]
     .simp[BT.init]
     .omega
     .omega
     .constructor<;>first|exact Cq _ _ _ _ (by decide)|simp only[go_sem]
     .simp only[wd,hN0,hD0,El];simp only[go_sem]
     .simp only[go_sem,BT.init]
     .simp only[go_sem,BT.init]
     .simp only[go_sem,BT.init]
     cases hv:BH p (p.nodes.length+1) p.main p.free.length (BT.init p)with
     |none=>
      obtain rfl:=p1.f9 hv;have e:looks p=none:=by
       unfold looks;rw[hv];split<;>rfl
      clear p1;refine aw ?_;exact⟨fun _=>rfl,fun st hst=>by rw[e]at hst;cases hst⟩
     |some st=>
      obtain⟨rfl,hl,hfr⟩:=p1.ret st hv;clear p1;have hfr:=AA.mk hfr;have hlk: ∃x,looks p=x:=⟨_,rfl⟩;obtain⟨x,hlk⟩:=hlk;have hlk:=AA.mk hlk;have hL:=ML (ρ:=24::k::ρ) hl (by constructor<;>first|exact Cq _ _ _ _ (by decide)|simp only[go_sem]);have hL:=AA.mk hL;obtain⟨b1,b2,b3,b4⟩:=hl;have b2:=b2 hN0;have b3:=b3 hN0;have b4:=b4 hD0;rw[BJ hN0,BJ hN0,BJ hD0]at b1;have hg:=CZ p _ _ _ _ _ hv;have m1:st.met.length=p.nodes.length:=by rw[hg.met];simp[BT.init]
      have m2:st.defs.length=p.defs.length:=by rw[hg.defs];simp[BT.init]
      have gu: ∀(t j:Nat),24≠j→(gc (24::k::ρ) g1).get (t::j::k::ρ)=g1.get (t::j::k::ρ):=fun t j hj=>AU _ _ _ (Cq _ _ _ _ hj);have q1:=(gu 0 16 (by decide)).trans b1;have q2:=(gu 1 6 (by decide)).trans b2;have q3:=(gu 1 10 (by decide)).trans b3;have q4:=(gu 1 14 (by decide)).trans b4;clear gu;have tk1:List.take p.nodes.length (List.map Cf st.met)=List.map Cf st.met:=CS (by simp[m1]);have tk2:List.take p.defs.length (List.map Cf st.defs)=List.map Cf st.defs:=CS (by simp[m2])
      (repeat' (first|simp only[go_sem, *,EX,q1,q2,q3,q4]|(refine sx ?_ ?_<;>intro hc)|refine sy (by omega) fun x hx hm=>?_|simp(disch:=first|assumption|omega) only[AK,K8]))
      all_goals (have hlk:=hlk.out;subst hlk)
      all_goals (have hlk:=PO hs2.out hfree.out hv)
      all_goals first
      |(refine⟨fun _=>rfl,fun st' hst=>?_⟩
        rw[hlk,CI (by simp[*])]at hst;cases hst)
      |(refine⟨fun hst=>?_,fun st' hst=>?_⟩
        .rw[hlk,D0 (by simp[*])]at hst;cases hst
        .rw[hlk,D0 (by simp[*])]at hst;cases hst;refine⟨_,rfl,hL.out,fun id' hu=>?_⟩;have hu1:=AH hu;rw[AU _ _ _ (AG hu _),hfr.out id' (AG hu _) (hu1 _ _) (hu1 _ _) (hu1 _ _)];simp only[go_sem,hu1,AM])
 .have e:looks p=none:=by
   unfold looks;rw[CI fun h=>hs h.1]
  have hs: ¬(p.free.length≤12∧p.nodes.length≤60∧p.defs.length≤12):=by
   intro h;apply hs;simp only[AL.small,AP,Ap];exact h
  have hs:=AA.mk hs
  (refine GJ rfl Tryz.func190 rfl rfl rfl ?_;show Wp _ _ _ _ (Tryz.f190.body.get rfl) _ _;simp only[Tryz.f190,AS])
  (repeat' (first|simp only[go_sem, *]|(refine sx ?_ ?_<;>intro hc)|refine sy (by omega) fun x hx hm=>?_|simp(disch:=first|assumption|omega) only[AK]))
  all_goals first
  |exact⟨fun _=>rfl,fun st hst=>by rw[e]at hst;cases hst⟩
  |(have hs:=hs.out;exfalso;omega)
end Go.Proofs
