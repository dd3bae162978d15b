/-
  Parts of it.
-/
import Derived.KernelRfl
import Derived.Test.YtbinfhpngacfgaaGreatDe6
import Derived.Test.YtbinfhpngacfgaaGreatDe7
import Derived.Test.YtbinfhpngacfgaaGreatDe9
set_option linter.all false
namespace Go.Abs
variable{P:Program}{C:CZ}{mix:List TypeId}
abbrev J9:=List (FuncId×List AV×AV)
def J9.look:J9→FuncId→List AV→Option AV
 |[],_,_=>none
 |(g,bs,r)::l,f,az=>match Nat.beq g f with
  |true=>match AV.sames bs az with
   |true=>some r
   |false=>J9.look l f az
  |false=>J9.look l f az
def J9.Known(P:Program)(C:CZ)(T:J9):Prop:= ∀f az r,(f,az,r)∈T→KL P C (.fn f) az [] [] false none=.ok (.ret r,[])
theorem J9.look_mem: ∀{T:J9} {f:FuncId} {az:List AV} {r:AV},T.look f az=some r→(f,az,r)∈T
 |[],_,_,_,h=>by cases h
 |(g,bs,r')::l,f,az,r,h=>by
  unfold J9.look at h;split at h
  .rename_i h1;split at h
   .rename_i h2;cases h;rw[←Dl h1,←AV.sames_eq h2];simp
   .exact FD _ (J9.look_mem h)
  .exact FD _ (J9.look_mem h)
def J9.ask(T:J9)(f:FuncId)(az:List AV):AB→List Nat→Bool→Option (List Nat)→Option AV
 |[],[],false,none=>T.look f az
 |_,_,_,_=>none
def UI(P:Program)(C:CZ)(T:J9)(m:Nat):Nat→AN
 |0=>fun _ _ _ _ _ _=>.err [25]
 |n+1=>fun t args h π raw bv=>match t with
  |.fn f=>match T.ask f args h π raw bv with
   |some r=>.ok (.ret r,[])
   |none=>match C.i5 f with
    |true=>PE P C (UI P C T m n) m f args h π raw bv
    |false=>.err [41,f]
  |.round id r=>match raw with
   |true=>G2 C (UI P C T m n) m id r args h π bv
   |false=>.err [42]
variable{T:J9}{m:Nat}
theorem Rm(hT:T.Known P C): ∀{n:Nat} {q:Qu} {r:Ae×AB},ask (UI P C T m n) q=.ok r→ask (KL P C) q=.ok r
 |0,q,r,h=>by simp[ask,UI]at h
 |n+1,⟨t,args,h,π,raw,bv⟩,r,hr=>by
  simp only[ask,UI]at hr⊢;cases t with
  |fn f=>
   simp only at hr;split at hr
   .rename_i r' hl;cases hr;unfold J9.ask at hl;split at hl
    .exact hT _ _ _ (J9.look_mem hl)
    .cases hl
   .split at hr
    .rename_i hg;obtain⟨L,hL⟩:=Nq hr;refine ABf hg (n:=m) ?_;exact hL _ m (EL _) fun q _ r' h'=>Rm hT h'
    .cases hr
  |round id lp=>
   simp only at hr;split at hr
   .rename_i hrw;obtain⟨L,hL⟩:=J4 hr;refine XM (n:=m) ?_;exact hL _ m (EL _) fun q _ r' h'=>Rm hT h'
   .cases hr
variable{f:FuncId}{az:List AV}{r:AV}
theorem Kb(hT:T.Known P C)(m n:Nat)(h:UI P C T m n (.fn f) az [] [] false none=.ok (.ret r,[])):KL P C (.fn f) az [] [] false none=.ok (.ret r,[]):=
 Rm (q:=⟨.fn f,az,[],[],false,none⟩) hT h
theorem J9.known_nil:J9.Known P C []:=fun _ _ _ h=>by cases h
theorem J9.known_cons(h:KL P C (.fn f) az [] [] false none=.ok (.ret r,[]))(hT:T.Known P C):J9.Known P C ((f,az,r)::T):=fun f' az' r' hm=>by
 rcases Ce.1 hm with h1|h1
 .cases h1;exact h
 .exact hT _ _ _ h1
variable{P:Program}{C:CZ}{K:AN}{fr:Fr}{b n i:Nat}{Q:Dx→St→Prop}
def Wp(C:CZ)(K:AN)(fr:Fr)(b:Nat)(c:Code)(st:St)(Q:Dx→St→Prop):Prop:= ∃n o st',BK C K fr n b c st=.ok (o,st')∧Q o st'
variable{c:Code}{st:St}
theorem MU{n b:Nat}{r:Dx×St}(h:BK C K fr n b c st=.ok r)(hm:n≤m):BK C K fr m b c st=.ok r:=by
 obtain⟨L,hL⟩:=MR n b c st (E.good_of h);rw[hL K m hm (fun _ _ _ h=>h),h]
def wK(C:CZ)(K:AN)(fr:Fr)(b:Nat)(y:Code)(Q:Dx→St→Prop):Dx→St→Prop
 |.normal,st=>Wp C K fr b y st Q
 |o,st=>Q o st
def Jz(id:Nat)(Q:Dx→St→Prop):Dx→St→Prop
 |.exit k,st=>match Nat.beq k id with
  |true=>Q .normal st
  |false=>Q (.exit k) st
 |o,st=>Q o st
def LV(C:CZ)(K:AN)(fr:Fr)(b:Nat)(x y:Code)(st:St)(Q:Dx→St→Prop):AV→Prop
 |.d (.bool true)=>Wp C K fr b x st Q
 |.d (.bool false)=>Wp C K fr b y st Q
 |_=>False
def Fe(C:CZ)(K:AN)(fr:Fr)(ops:Array Oper)(b n:Nat)(al:Nat→Bool)(l:List Oper)(i:Nat)(st:St)(Q:Dx→St→Prop):Prop:=
 match C3 C K fr ops b al l i st with
 |.ok ((none,st'),_)=>Q .normal {st' with base:=b+n}
 |.ok ((some v,st'),_)=>Q (.f9 v) {st' with base:=b+n}
 |.err _=>False
def Gd(C:CZ)(K:AN)(fr:Fr)(ops:Array Oper)(b n:Nat)(al:Nat→Bool)(ps:List (Nat×Nat))(fps:List Fp)(l:List Oper)(i:Nat)(st:St)(Q:Dx→St→Prop):Prop:=
 match C3 C K fr ops b al l i st with
 |.ok ((none,st'),f)=>Dg (fps++f) ps=true∧Q .normal {st' with base:=b+n}
 |.ok ((some v,st'),f)=>Dg (fps++f) ps=true∧Q (.f9 v) {st' with base:=b+n}
 |.err _=>False
theorem AD4(x y:Code)(st:St):Wp C K fr b (.seq x y) st Q=Wp C K fr b x st (wK C K fr b y Q):=by
 refine propext ⟨fun⟨n,o,st',h,hq⟩=>?_,fun⟨n,o,st',h,hq⟩=>?_⟩
 .cases n with
  |zero=>simp[BK]at h
  |succ n=>
   simp only[BK]at h;cases hx:BK C K fr n b x st with
   |err e=>rw[hx]at h;cases h
   |ok r=>
    rw[hx]at h;obtain⟨o1,st1⟩:=r;refine⟨n,o1,st1,hx,?_⟩;cases o1<;>simp only[DP]at h
    .exact⟨n,o,st',h,hq⟩
    all_goals (cases h;exact hq)
 .cases o with
  |normal=>
   obtain⟨m,o2,st2,h2,hq2⟩:=hq;refine⟨max n m+1,o2,st2,?_,hq2⟩;simp only[BK,MU h (Kw n m),DP,MU h2 (Mk n m)]
  |_=>exact⟨n+1,_,st',by simp only[BK,h,DP],hq⟩
theorem ABX(c:Operand)(x y:Code)(st:St):Wp C K fr b (.cond c x y) st Q=LV C K fr b x y st Q (ev st.env.get c):=by
 have e: ∀{v:AV} {x y:Code} (hv: ∀n,BK C K fr (n+1) b (.cond c x y) st=KH v (BK C K fr n b x st) (BK C K fr n b y st)),Wp C K fr b (.cond c x y) st Q=LV C K fr b x y st Q v:=by
  intro v x y hv;refine propext ⟨fun⟨n,o,st',h,hq⟩=>?_,fun h=>?_⟩
  .cases n with
   |zero=>simp[BK]at h
   |succ n=>
    rw[hv]at h;unfold KH at h;split at h
    .rename_i t;cases t
     .exact⟨n,o,st',h,hq⟩
     .exact⟨n,o,st',h,hq⟩
    .cases h
  .unfold LV at h;split at h
   .obtain⟨n,o,st',h,hq⟩:=h;exact⟨n+1,o,st',by rw[hv];exact h,hq⟩
   .obtain⟨n,o,st',h,hq⟩:=h;exact⟨n+1,o,st',by rw[hv];exact h,hq⟩
   .exact h.elim
 exact e fun n=>by simp only[BK]
theorem xL(id:Nat)(x:Code)(st:St):Wp C K fr b (.block id x) st Q=Wp C K fr id x st (Jz id Q):=by
 refine propext ⟨fun⟨n,o,st',h,hq⟩=>?_,fun⟨n,o,st',h,hq⟩=>?_⟩
 .cases n with
  |zero=>simp[BK]at h
  |succ n=>
   simp only[BK]at h;cases hx:BK C K fr n id x st with
   |err e=>rw[hx]at h;cases h
   |ok r=>
    rw[hx]at h;obtain⟨o1,st1⟩:=r;refine⟨n,o1,st1,hx,?_⟩;cases o1 with
    |exit k=>
     simp only[Gz]at h;simp only[Jz];split at h<;>(rename_i hk;rw[hk];cases h;exact hq)
    |_=>cases h;exact hq
 .cases o with
  |exit k=>
   simp only[Jz]at hq;cases hk:Nat.beq k id with
   |true=>
    rw[hk]at hq;exact⟨n+1,.normal,st',by simp only[BK,h,Gz,hk],hq⟩
   |false=>
    rw[hk]at hq;exact⟨n+1,.exit k,st',by simp only[BK,h,Gz,hk],hq⟩
  |_=>exact⟨n+1,_,st',by simp only[BK,h,Gz],hq⟩
theorem TD{o:Dx}{st':St}(h: ∀n,BK C K fr (n+1) b c st=.ok (o,st')):Wp C K fr b c st Q=Q o st':=by
 refine propext ⟨fun⟨n,o1,st1,h1,hq⟩=>?_,fun hq=>⟨1,o,st',h 0,hq⟩⟩;cases n with
 |zero=>simp[BK]at h1
 |succ n=>
  rw[h]at h1;cases h1;exact hq
theorem ABb(st:St):Wp C K fr b .skip st Q=Q .normal st:=TD fun _=>rfl
theorem AD3(st:St):Wp C K fr b .ret st Q=Q .ret st:=TD fun _=>rfl
theorem ABZ(id:Nat)(st:St):Wp C K fr b (.exit id) st Q=Q (.exit id) st:=TD fun _=>rfl
theorem N0(id:Nat)(ops:Array Oper)(draw:Bool)(st:St):Wp C K fr b (.region id ops draw) st Q=match EC C K fr id ops draw st with|.ok (o,st')=>Q o st'|.err _=>False:=by
 cases h:EC C K fr id ops draw st with
 |ok r=>
  obtain⟨o,st'⟩:=r;exact TD fun n=>by simp only[BK,h]
 |err e=>
  refine propext ⟨fun⟨n,o,st',h1,hq⟩=>?_,fun h=>h.elim⟩;cases n with
  |zero=>simp[BK]at h1
  |succ n=>
   simp only[BK,h]at h1;cases h1
theorem p8(id:Nat)(ops:Array Oper)(e:Bm)(h:AB)(bs:Nat)(ds:List Df):Wp C K fr b (.region id ops false) ⟨e,h,bs,ds⟩ Q=Fe C K fr ops bs ops.size (fun _=>true) ops.toList 0 ⟨e,h,bs,ds⟩ Q:=by
 rw[N0];unfold EC Fe;simp only[Ol,Bool.true_or];cases C3 C K fr ops bs (fun _=>true) ops.toList 0 ⟨e,h,bs,ds⟩with
 |err l=>rfl
 |ok r=>
  obtain⟨⟨o,st'⟩,fps⟩:=r;cases o<;>simp[KS]
theorem xM(id:Nat)(ops:Array Oper)(e:Bm)(h:AB)(bs:Nat)(ds:List Df)(hp:C.d7 fr.f id=[]):Wp C K fr b (.region id ops true) ⟨e,h,bs,ds⟩ Q=Fe C K fr ops bs ops.size (fun i=>C.alone fr.f id i) ops.toList 0 ⟨e,h,bs,ds⟩ Q:=by
 rw[N0];unfold EC Fe;simp only[OS,Ii];cases C3 C K fr ops bs (fun i=>C.alone fr.f id i) ops.toList 0 ⟨e,h,bs,ds⟩with
 |err l=>rfl
 |ok r=>
  obtain⟨⟨o,st'⟩,fps⟩:=r;cases o<;>simp[KS,hp,Dg]
theorem ABY(id:Nat)(ops:Array Oper)(e:Bm)(h:AB)(bs:Nat)(ds:List Df){ps:List (Nat×Nat)}(hp:C.d7 fr.f id=ps):Wp C K fr b (.region id ops true) ⟨e,h,bs,ds⟩ Q=Gd C K fr ops bs ops.size (fun i=>C.alone fr.f id i) ps [] ops.toList 0 ⟨e,h,bs,ds⟩ Q:=by
 rw[N0];unfold EC Gd;simp only[OS,Ii,Gc];cases C3 C K fr ops bs (fun i=>C.alone fr.f id i) ops.toList 0 ⟨e,h,bs,ds⟩with
 |err l=>rfl
 |ok r=>
  obtain⟨⟨o,st'⟩,fps⟩:=r;subst hp;cases o<;>cases hq:Dg fps (C.d7 fr.f id)<;>simp[KS,hq]
theorem aH(y:Code)(st:St):wK C K fr b y Q .normal st=Wp C K fr b y st Q:=rfl
theorem pd(y:Code)(k:Nat)(st:St):wK C K fr b y Q (.exit k) st=Q (.exit k) st:=rfl
theorem wO(y:Code)(st:St):wK C K fr b y Q .ret st=Q .ret st:=rfl
theorem wM(y:Code)(v:AV)(st:St):wK C K fr b y Q (.f9 v) st=Q (.f9 v) st:=rfl
theorem TV(id:Nat)(st:St):Jz id Q .normal st=Q .normal st:=rfl
theorem bG(id:Nat)(st:St):Jz id Q .ret st=Q .ret st:=rfl
theorem bF(id:Nat)(v:AV)(st:St):Jz id Q (.f9 v) st=Q (.f9 v) st:=rfl
theorem Xf(id:Nat)(st:St):Jz id Q (.exit id) st=Q .normal st:=by
 simp[Jz]
theorem N8(id k:Nat)(st:St)(h:Nat.beq k id=false):Jz id Q (.exit k) st=Q (.exit k) st:=by
 simp only[Jz,h]
theorem bb(x y:Code)(st:St):LV C K fr b x y st Q (.d (.bool true))=Wp C K fr b x st Q:=rfl
theorem X0(x y:Code)(st:St):LV C K fr b x y st Q (.d (.bool false))=Wp C K fr b y st Q:=rfl
variable{t:Bool}
theorem X1{x y:Code}(h1:t=true→Wp C K fr b x st Q)(h2:t=false→Wp C K fr b y st Q):LV C K fr b x y st Q (.d (.bool t)):=by
 cases t
 .exact h2 rfl
 .exact h1 rfl
variable{ops:Array Oper}{al:Nat→Bool}{l:List Oper}{e:Bm}{h:AB}{bs:Nat}{ds:List Df}{ps:List (Nat×Nat)}{fps:List Fp}
def Bo(C:CZ)(K:AN)(fr:Fr)(ops:Array Oper)(b n:Nat)(al:Nat→Bool)(l:List Oper)(i:Nat)(dst:Option Tmp)(e:Bm)(h:AB)(bs:Nat)(ds:List Df)(Q:Dx→St→Prop):Option CJ→Prop
 |some x=>Jv fr.bv x.δ=true∧Fe C K fr ops b n al l (i+1) ⟨CY e dst x.v,h.puts x.δ,bs,ds⟩ Q
 |none=>False
def BP(C:CZ)(K:AN)(fr:Fr)(ops:Array Oper)(b n:Nat)(al:Nat→Bool)(l:List Oper)(i:Nat)(Q:Dx→St→Prop):G4→Prop
 |.ok st _=>Fe C K fr ops b n al l (i+1) st Q
 |.f9 v st=>al i=true∧Q (.f9 v) {st with base:=b+n}
 |.err _=>False
theorem vP:Fe C K fr ops b n al [] i ⟨e,h,bs,ds⟩ Q=Q .normal ⟨e,h,b+n,ds⟩:=rfl
theorem VI(o:Oper)(st:St):Fe C K fr ops b n al (o::l) i st Q=BP C K fr ops b n al l i Q (CQ C K fr ops ((b+i)::fr.π) o st):=by
 unfold Fe;simp only[C3,HT];cases hs:CQ C K fr ops ((b+i)::fr.π) o st with
 |err e=>rfl
 |f9 v st'=>
  simp only[BP];cases al i<;>simp
 |ok st' fp=>
  simp only[BP,Fe];cases hr:C3 C K fr ops b al l (i+1) st' with
  |err e=>rfl
  |ok r=>
   obtain⟨⟨o,st2⟩,fps⟩:=r;cases o<;>rfl
def C0(C:CZ)(K:AN)(fr:Fr)(ops:Array Oper)(b n:Nat)(al:Nat→Bool)(l:List Oper)(i:Nat)(dst:Option Tmp)(op:Op)(st:St)(want:Bool)(Q:Dx→St→Prop):AV→Prop
 |.d (.bool t)=>match t==want with
  |true=>BP C K fr ops b n al l i Q (A4 C K fr ((b+i)::fr.π) op dst st)
  |false=>Fe C K fr ops b n al l (i+1) {st with env:=CY st.env dst (.ge [])} Q
 |.ge []=>Fe C K fr ops b n al l (i+1) {st with env:=CY st.env dst (.ge [])} Q
 |_=>False
theorem kv(dst:Option Tmp)(op:Op)(st:St):C0 C K fr ops b n al l i dst op st true Q (.d (.bool true))=BP C K fr ops b n al l i Q (A4 C K fr ((b+i)::fr.π) op dst st):=rfl
theorem kn(dst:Option Tmp)(op:Op)(st:St):C0 C K fr ops b n al l i dst op st false Q (.d (.bool false))=BP C K fr ops b n al l i Q (A4 C K fr ((b+i)::fr.π) op dst st):=rfl
theorem ku(dst:Option Tmp)(op:Op):C0 C K fr ops b n al l i dst op ⟨e,h,bs,ds⟩ true Q (.d (.bool false))=Fe C K fr ops b n al l (i+1) ⟨CY e dst (.ge []),h,bs,ds⟩ Q:=rfl
theorem ko(dst:Option Tmp)(op:Op):C0 C K fr ops b n al l i dst op ⟨e,h,bs,ds⟩ false Q (.d (.bool true))=Fe C K fr ops b n al l (i+1) ⟨CY e dst (.ge []),h,bs,ds⟩ Q:=rfl
theorem WU{dst:Option Tmp}{op:Op}{want:Bool}(h1:t=true→C0 C K fr ops b n al l i dst op st want Q (.d (.bool true)))(h2:t=false→C0 C K fr ops b n al l i dst op st want Q (.d (.bool false))):C0 C K fr ops b n al l i dst op st want Q (.d (.bool t)):=by
 cases t
 .exact h2 rfl
 .exact h1 rfl
theorem oD(dst:Option Tmp)(op:Op)(ty:TypeId)(pos:String)(af:Array Edge)(st:St):
 Fe C K fr ops b n al (⟨dst,op,ty,pos,af,none⟩::l) i st Q=BP C K fr ops b n al l i Q (A4 C K fr ((b+i)::fr.π) op dst st):=by
 rw[VI];simp only[CQ,Ma]
theorem A0(dst:Option Tmp)(op:Op)(r:Option CJ):BP C K fr ops b n al l i Q (DJ fr op dst ⟨e,h,bs,ds⟩ r)=Bo C K fr ops b n al l i dst e h bs ds Q r:=by
 cases r with
 |none=>rfl
 |some x=>
  simp only[DJ,Bo,J0,Bk,A6];cases hw:Jv fr.bv x.δ with
  |false=>simp[BP]
  |true=>
   simp only[To];have: ∀k:AB→G4,YF h x.δ k=k (h.puts x.δ):=fun k=>by
    unfold YF;split
    .rename_i hd;rw[hd];rfl
    .simp only[Af]
   rw[this];simp only[BP]
theorem L1(dst:Option Tmp)(v:AV):Bo C K fr ops b n al l i dst e h bs ds Q (some ⟨v,[]⟩)=Fe C K fr ops b n al l (i+1) ⟨CY e dst v,h,bs,ds⟩ Q:=by
 have:Jv fr.bv []=true:=by cases hp:fr.bv<;>rfl
 simp only[Bo,this,To];rfl
theorem fC(dst:Option Tmp)(v:AV)(x:Id×Obj)(δ:AB):Bo C K fr ops b n al l i dst e h bs ds Q (some ⟨v,x::δ⟩)=(Jv fr.bv (x::δ)=true∧Fe C K fr ops b n al l (i+1) ⟨CY e dst v,h.puts (x::δ),bs,ds⟩ Q):=rfl
section
variable(dst:Option Tmp)(ρ:List Nat)
theorem ACi(x:Operand):BP C K fr ops b n al l i Q (A4 C K fr ρ (.move x) dst ⟨e,h,bs,ds⟩)=Fe C K fr ops b n al l (i+1) ⟨CY e dst (ev e.get x),h,bs,ds⟩ Q:=by
 simp only[A4,evalOp,A0,L1]
theorem sv(x:Operand):BP C K fr ops b n al l i Q (A4 C K fr ρ (.assign x) dst ⟨e,h,bs,ds⟩)=Fe C K fr ops b n al l (i+1) ⟨CY e dst (ev e.get x),h,bs,ds⟩ Q:=by
 simp only[A4,evalOp,A0,L1]
theorem ACj(c x y:Operand):BP C K fr ops b n al l i Q (A4 C K fr ρ (.pick c x y) dst ⟨e,h,bs,ds⟩)=Bo C K fr ops b n al l i dst e h bs ds Q (Ni (ev e.get c) (ev e.get x) (ev e.get y)):=by
 simp only[A4,evalOp,A0]
theorem yx(t:TypeId):BP C K fr ops b n al l i Q (A4 C K fr ρ (.alloc t) dst ⟨e,h,bs,ds⟩)=Bo C K fr ops b n al l i dst e h bs ds Q (Jn ρ (C.T t)):=by
 simp only[A4,evalOp,A0]
theorem AEp(t:TypeId)(x:Operand):BP C K fr ops b n al l i Q (A4 C K fr ρ (.box t x) dst ⟨e,h,bs,ds⟩)=Bo C K fr ops b n al l i dst e h bs ds Q (QY ρ (ev e.get x) (C.T t)):=by
 simp only[A4,evalOp,A0]
theorem y6(t:TypeId)(p:Array (Nat×Operand)):BP C K fr ops b n al l i Q (A4 C K fr ρ (.build t p) dst ⟨e,h,bs,ds⟩)=Bo C K fr ops b n al l i dst e h bs ds Q (Jo (EI e.get p) (C.T t)):=by
 simp only[A4,evalOp,A0]
theorem WM(t:TypeId)(m:Nat)(p:Array (Nat×Operand)):BP C K fr ops b n al l i Q (A4 C K fr ρ (.buildSlice t m p) dst ⟨e,h,bs,ds⟩)=Bo C K fr ops b n al l i dst e h bs ds Q (Cd C.T h.get ρ m (EI e.get p) (C.T t)):=by
 simp only[A4,evalOp,A0]
theorem ACh(t:TypeId)(a:Operand):BP C K fr ops b n al l i Q (A4 C K fr ρ (.load t a) dst ⟨e,h,bs,ds⟩)=Bo C K fr ops b n al l i dst e h bs ds Q (Kz h.get (ev e.get a) (C.T t)):=by
 simp only[A4,evalOp,A0]
theorem zC(t:TypeId)(a x:Operand):BP C K fr ops b n al l i Q (A4 C K fr ρ (.store t a x) dst ⟨e,h,bs,ds⟩)=Bo C K fr ops b n al l i dst e h bs ds Q (IX h.get (ev e.get a) (ev e.get x) (C.T t)):=by
 simp only[A4,evalOp,A0]
theorem cX(x:Operand):BP C K fr ops b n al l i Q (A4 C K fr ρ (.nilCheck x) dst ⟨e,h,bs,ds⟩)=Bo C K fr ops b n al l i dst e h bs ds Q (GM (ev e.get x)):=by
 simp only[A4,evalOp,A0]
theorem yz(op:BinOp)(t:TypeId)(x y:Operand)(u:TypeId):BP C K fr ops b n al l i Q (A4 C K fr ρ (.binOp op t x y u) dst ⟨e,h,bs,ds⟩)=Bo C K fr ops b n al l i dst e h bs ds Q ((iz (Yy x||Yy y) op (ev e.get x) (ev e.get y) (C.T t)).map (⟨·,[]⟩)):=by
 simp only[A4,evalOp,A0]
theorem ACk(op:UnOp)(t:TypeId)(x:Operand):BP C K fr ops b n al l i Q (A4 C K fr ρ (.unOp op t x) dst ⟨e,h,bs,ds⟩)=Bo C K fr ops b n al l i dst e h bs ds Q (oB op (ev e.get x)):=by
 simp only[A4,evalOp,A0]
theorem y8(t:TypeId)(x:Operand):BP C K fr ops b n al l i Q (A4 C K fr ρ (.makeInterface t x) dst ⟨e,h,bs,ds⟩)=Bo C K fr ops b n al l i dst e h bs ds Q (Kx t (ev e.get x) (C.T t)):=by
 simp only[A4,evalOp,A0]
theorem su(x:Operand)(t u:TypeId):BP C K fr ops b n al l i Q (A4 C K fr ρ (.typeAssert x t u true) dst ⟨e,h,bs,ds⟩)=Bo C K fr ops b n al l i dst e h bs ds Q (Hs u (ev e.get x) (C.T u)):=by
 simp only[A4,evalOp,A0]
theorem cW(f:Fn)(first cap:Array Operand):BP C K fr ops b n al l i Q (A4 C K fr ρ (.makeFunc f first cap) dst ⟨e,h,bs,ds⟩)=Bo C K fr ops b n al l i dst e h bs ds Q (GL f (first.toList.map (ev e.get)) (cap.toList.map (ev e.get))):=by
 simp only[A4,evalOp,A0]
theorem kg(t:TypeId)(r:Option Operand):BP C K fr ops b n al l i Q (A4 C K fr ρ (.makeMap t r) dst ⟨e,h,bs,ds⟩)=Bo C K fr ops b n al l i dst e h bs ds Q (HG ρ r):=by
 simp only[A4,evalOp,A0]
theorem sw(t:TypeId)(m k v:Operand):BP C K fr ops b n al l i Q (A4 C K fr ρ (.insert t m k v) dst ⟨e,h,bs,ds⟩)=Bo C K fr ops b n al l i dst e h bs ds Q (mapPut C.T h.get (C.T t) (ev e.get m) (ev e.get k) (ev e.get v)):=by
 simp only[A4,evalOp,A0]
theorem Yn(t:TypeId)(m k v:Operand):BP C K fr ops b n al l i Q (A4 C K fr ρ (.mapUpdate t m k v) dst ⟨e,h,bs,ds⟩)=Bo C K fr ops b n al l i dst e h bs ds Q (mapPut C.T h.get (C.T t) (ev e.get m) (ev e.get k) (ev e.get v)):=by
 simp only[A4,evalOp,A0]
theorem s5(t:TypeId)(m k:Operand)(ok:Bool):BP C K fr ops b n al l i Q (A4 C K fr ρ (.lookup t m k ok) dst ⟨e,h,bs,ds⟩)=Bo C K fr ops b n al l i dst e h bs ds Q (FI C.T h.get (ev e.get m) (ev e.get k) ok (C.T t)):=by
 simp only[A4,evalOp,A0]
theorem Ym(t:TypeId)(x y:Operand):BP C K fr ops b n al l i Q (A4 C K fr ρ (.makeSlice t x y) dst ⟨e,h,bs,ds⟩)=Bo C K fr ops b n al l i dst e h bs ds Q (Cn C.T h.get ρ (ev e.get x) (ev e.get y) (C.T t)):=by
 simp only[A4,evalOp,A0]
theorem zB(t:TypeId)(x:Operand)(lo hi mx:Option Operand):BP C K fr ops b n al l i Q (A4 C K fr ρ (.slice t x lo hi mx) dst ⟨e,h,bs,ds⟩)=Bo C K fr ops b n al l i dst e h bs ds Q (Gy C.T h.get (ev e.get x) (lo.map (ev e.get)) (hi.map (ev e.get)) (mx.map (ev e.get)) (C.T t)):=by
 simp only[A4,evalOp,A0]
theorem Yk(t:TypeId)(x:Operand)(k:Nat):BP C K fr ops b n al l i Q (A4 C K fr ρ (.fieldAddr t x k) dst ⟨e,h,bs,ds⟩)=Bo C K fr ops b n al l i dst e h bs ds Q (EY k (ev e.get x) (C.T t)):=by
 simp only[A4,evalOp,A0]
theorem Yl(t:TypeId)(x y:Operand):BP C K fr ops b n al l i Q (A4 C K fr ρ (.indexAddr t x y) dst ⟨e,h,bs,ds⟩)=Bo C K fr ops b n al l i dst e h bs ds Q (C1 C.T h.get (ev e.get x) (ev e.get y) (C.T t)):=by
 simp only[A4,evalOp,A0]
theorem y9(t:TypeId)(x y:Operand):BP C K fr ops b n al l i Q (A4 C K fr ρ (.index t x y) dst ⟨e,h,bs,ds⟩)=Bo C K fr ops b n al l i dst e h bs ds Q (Ky (ev e.get x) (ev e.get y) (C.T t)):=by
 simp only[A4,evalOp,A0]
theorem kf(x:Operand)(k:Nat):BP C K fr ops b n al l i Q (A4 C K fr ρ (.extract x k) dst ⟨e,h,bs,ds⟩)=Bo C K fr ops b n al l i dst e h bs ds Q (HF k (ev e.get x)):=by
 simp only[A4,evalOp,A0]
theorem kc(f:Builtin)(az:Array Operand)(ts:Array TypeId):BP C K fr ops b n al l i Q (A4 C K fr ρ (.call ⟨.builtin f,az,ts⟩) dst ⟨e,h,bs,ds⟩)=Bo C K fr ops b n al l i dst e h bs ds Q (GX C.T h.get ρ f (az.toList.map (ev e.get)) ts.toList):=by
 simp only[A4,J3,A0]
theorem zA(x:Operand):BP C K fr ops b n al l i Q (A4 C K fr ρ (.panic x) dst ⟨e,h,bs,ds⟩)=BP C K fr ops b n al l i Q (Fw ⟨e,h,bs,ds⟩ (ev e.get x)):=rfl
theorem y7(c:Call):BP C K fr ops b n al l i Q (A4 C K fr ρ (.defer c) dst ⟨e,h,bs,ds⟩)=BP C K fr ops b n al l i Q (HQ fr e.get c dst ⟨e,h,bs,ds⟩):=rfl
def DU(C:CZ)(K:AN)(fr:Fr)(ops:Array Oper)(b n:Nat)(al:Nat→Bool)(l:List Oper)(i:Nat)(az:List AV)(dst:Option Tmp)(e:Bm)(h:AB)(bs:Nat)(ds:List Df)(Q:Dx→St→Prop)(r:E (Ae×AB)):Prop:=
 BP C K fr ops b n al l i Q (DQ fr az dst ⟨e,h,bs,ds⟩ r)
def Rl(C:CZ)(K:AN)(fr:Fr)(ops:Array Oper)(b n:Nat)(al:Nat→Bool)(l:List Oper)(i:Nat)(dst:Option Tmp)(ρ:List Nat)(e:Bm)(h:AB)(bs:Nat)(ds:List Df)(Q:Dx→St→Prop)(args:List AV):AV→Prop
 |fv=>BP C K fr ops b n al l i Q (EB C K fr ρ fv args dst ⟨e,h,bs,ds⟩)
theorem zD(f:Operand)(az:Array Operand)(ts:Array TypeId):BP C K fr ops b n al l i Q (A4 C K fr ρ (.call ⟨.value f,az,ts⟩) dst ⟨e,h,bs,ds⟩)=Rl C K fr ops b n al l i dst ρ e h bs ds Q (az.toList.map (ev e.get)) (ev e.get f):=rfl
def nrm:Ae×AB→Ae×AB
 |(.ret v,h)=>(.ret v,h)
 |(.f9 v,_)=>(.f9 v,[])
def BJ(K:AN)(f:FuncId)(xs:List AV)(own:List Nat):E (Ae×AB):=match K (.fn f) xs [] own false none with
 |.ok r=>.ok (nrm r)
 |.err l=>.err l
theorem qq{K:AN}{f:FuncId}{xs:List AV}{own:List Nat}{v:AV}{h:AB}(hk:BJ K f xs own=.ok (.ret v,h)):K (.fn f) xs [] own false none=.ok (.ret v,h):=by
 unfold BJ at hk;split at hk
 .rename_i r hr;obtain⟨o,h'⟩:=r;cases o with
  |ret u=>simp only[nrm,E.ok.injEq]at hk;rw[hr,hk]
  |f9 u=>simp[nrm]at hk
 .cases hk
theorem Qc(fr:Fr)(az:List AV)(dst:Option Tmp)(st:St)(f:FuncId)(xs:List AV)(own:List Nat):DQ fr az dst st (K (.fn f) xs [] own false none)=DQ fr az dst st (BJ K f xs own):=by
 unfold BJ;cases K (.fn f) xs [] own false none with
 |err l=>rfl
 |ok r=>
  obtain⟨o,h⟩:=r;cases o<;>rfl
def K8(C:CZ)(K:AN)(fr:Fr)(ops:Array Oper)(b n:Nat)(al:Nat→Bool)(l:List Oper)(i:Nat)(dst:Option Tmp)(ρ:List Nat)(e:Bm)(h:AB)(bs:Nat)(ds:List Df)(Q:Dx→St→Prop)(f:FuncId)(az:List AV)(m:Mode):Prop:=
 BP C K fr ops b n al l i Q (DX K fr ρ f az dst ⟨e,h,bs,ds⟩ m)
theorem rE(f:FuncId)(first cap args:List AV):Rl C K fr ops b n al l i dst ρ e h bs ds Q args (.fn f first cap)=K8 C K fr ops b n al l i dst ρ e h bs ds Q f (first++args++cap) (C.mode f):=by
 simp only[Rl,K8,EB,BH]
def kU(C:CZ)(K:AN)(fr:Fr)(ops:Array Oper)(b n:Nat)(al:Nat→Bool)(l:List Oper)(i:Nat)(dst:Option Tmp)(ρ:List Nat)(e:Bm)(h:AB)(bs:Nat)(ds:List Df)(Q:Dx→St→Prop)(f:FuncId)(az:List AV)(own:List Nat):Option (List AV)→Prop
 |some xs=>DU C K fr ops b n al l i az dst e h bs ds Q (K (.fn f) xs [] own false none)
 |none=>False
theorem dP(f:FuncId)(az:List AV)(hx:(Dr h.get az).isSome):K8 C K fr ops b n al l i dst ρ e h bs ds Q f az .auto=kU C K fr ops b n al l i dst ρ e h bs ds Q f az [] (Dr h.get az):=by
 obtain⟨xs,hx⟩:=Ip.1 hx;simp only[K8,DX,hx,BH,kU,DU]
theorem nr(f:FuncId)(az:List AV)(hx:(Dr h.get az).isSome):K8 C K fr ops b n al l i dst ρ e h bs ds Q f az .own=kU C K fr ops b n al l i dst ρ e h bs ds Q f az ρ (Dr h.get az):=by
 obtain⟨xs,hx⟩:=Ip.1 hx;simp only[K8,DX,hx,BH,kU,DU]
theorem kV(f:FuncId)(az:List AV)(own:List Nat)(xs:List AV):kU C K fr ops b n al l i dst ρ e h bs ds Q f az own (some xs)=DU C K fr ops b n al l i az dst e h bs ds Q (BJ K f xs own):=by
 simp only[kU,DU,Qc]
theorem fI(az:List AV)(v:AV)(h':AB)(hv:flat v=true):DU C K fr ops b n al l i az dst e h bs ds Q (.ok (.ret v,h'))=Fe C K fr ops b n al l (i+1) ⟨CY e dst v,h,bs,ds⟩ Q:=by
 simp only[DU,DQ,A6,hv,BP]
theorem pB(az:List AV)(v:AV)(h':AB)(hv:flat v=true):DU C K fr ops b n al l i az dst e h bs ds Q (.ok (.f9 v,h'))=(al i=true∧Q (.f9 v) ⟨e,h,b+n,ds⟩):=by
 simp only[DU,DQ,hv,BP]
theorem o8(az:List AV)(v:AV)(h':AB)(x:Id×Obj)(hv:flat v=false)(hx:BT v h'=some x):DU C K fr ops b n al l i az dst e h bs ds Q (.ok (.ret v,h'))=Fe C K fr ops b n al l (i+1) ⟨CY e dst v,x::h,bs,ds⟩ Q:=by
 simp only[DU,DQ,A6,hv,HY,hx,Af,BP]
theorem o9(az:List AV)(v:AV)(h':AB)(hv:flat v=false)(hx:BT v h'=none):DU C K fr ops b n al l i az dst e h bs ds Q (.ok (.ret v,h'))=(Jv fr.bv (az.flatMap (mark h.get))=true∧Fe C K fr ops b n al l (i+1) ⟨CY e dst v,h'++h.puts (az.flatMap (mark h.get)),bs,ds⟩ Q):=by
 simp only[DU,DQ,A6,hv,HY,hx,Af,Bk];cases hw:Jv fr.bv (az.flatMap (mark h.get))<;>simp[BP]
end
def fy(h:AB)(π:List Nat)(raw:Bool)(Post:Ae→AB→Prop):Option AV→Prop
 |some v=>match raw with
  |true=>Post (.ret v) h
  |false=>match π with
   |[]=>match XJ h.get v with
    |some v'=>Post (.ret v') []
    |none=>False
   |_=>Post (.ret v) h
 |none=>False
def Sv(C:CZ)(e:Bm)(h:AB)(rs:List ResultVar):Option AV:=match M0 (Ck C ⟨e,h,0,[]⟩) rs with
 |some []=>some (.ge [])
 |some [v]=>some v
 |some vs=>some (.ge vs)
 |none=>none
def J1(C:CZ)(rs:List ResultVar)(π:List Nat)(raw:Bool)(e:Bm)(Post:Ae→AB→Prop):E (Option AV×AB)→Prop
 |.ok (none,h)=>fy h π raw Post (Sv C e h rs)
 |.ok (some v,h)=>Post (.f9 v) h
 |.err _=>False
def R4(C:CZ)(bv:Option (List Nat))(rs:List ResultVar)(π:List Nat)(raw:Bool)(Post:Ae→AB→Prop):Dx→St→Prop
 |.ret,st=>J1 C rs π raw st.env Post (C5 C bv st.defs none st.heap)
 |.normal,st=>J1 C rs π raw st.env Post (C5 C bv st.defs none st.heap)
 |.f9 v,st=>J1 C rs π raw st.env Post (C5 C bv st.defs (some v) st.heap)
 |_,_=>False
theorem Ah{f:FuncId}{fn:Func}{c:Code}{rs:List ResultVar}{args:List AV}{h:AB}{π:List Nat}{raw:Bool}{bv:Option (List Nat)}{Post:Ae→AB→Prop}(hg:C.i5 f=true)(hf:P.funcs[f]? =some fn)(hb:fn.body=some c)(hr:fn.results.toList=rs)(hl:Nat.ble args.length fn.ntmps=true)
 (hw:Wp C (KL P C) {f,π,raw,bv,nt:=fn.ntmps} 0 c ⟨ET 0 args,h,0,[]⟩ (R4 C bv rs π raw Post)): ∃o h',KL P C (.fn f) args h π raw bv=.ok (o,h')∧Post o h':=by
 obtain⟨n,o,st',h1,h2⟩:=hw;subst hr;have hres: ∀h'',Il C fn {st' with heap:=h''}=Sv C st'.env h'' fn.results.toList:=fun h''=>by
  unfold Il Sv;have e:Ck C {st' with heap:=h''}=Ck C ⟨st'.env,h'',0,[]⟩:=funext fun r=>by cases r<;>rfl
  rw[e];rfl
 have key: ∀z,J1 C fn.results.toList π raw st'.env Post z→ ∃o h',Sg C f fn π raw st' z=.ok (o,h')∧Post o h':=by
  intro z hz;cases z with
  |err l=>exact hz.elim
  |ok r=>
   obtain⟨p,h''⟩:=r;cases p with
   |some v=>exact⟨.f9 v,h'',rfl,hz⟩
   |none=>
    simp only[J1]at hz;simp only[Sg,hres];cases hv:Sv C st'.env h'' fn.results.toList with
    |none=>rw[hv]at hz;exact hz.elim
    |some v=>
     rw[hv]at hz;simp only[fy]at hz;simp only[J0];cases raw with
     |true=>exact⟨_,_,rfl,hz⟩
     |false=>
      simp only at hz⊢;split at hz
      .split at hz
       .rename_i v' hv';rw[hv'];exact⟨_,_,rfl,hz⟩
       .exact hz.elim
      .exact⟨_,_,by split<;>first|rfl|contradiction,hz⟩
 have fin: ∃o' h',r6 C bv f fn π raw (.ok (o,st'))=.ok (o',h')∧Post o' h':=by
  cases o with
  |exit k=>exact h2.elim
  |ret=>exact key _ h2
  |normal=>exact key _ h2
  |f9 v=>exact key _ h2
 obtain⟨o',h',e,hp⟩:=fin;refine⟨o',h',ABf hg (n:=n) ?_,hp⟩;unfold PE;simp only[hf,hb,hl,h1];exact e
variable{f:FuncId}{fn:Func}{c:Code}{rs:List ResultVar}{args:List AV}{π:List Nat}{raw:Bool}{bv:Option (List Nat)}
theorem AEM{h:AB}{o:Ae}{h0:AB}(hg:C.i5 f=true)(hf:P.funcs[f]? =some fn)(hb:fn.body=some c)(hr:fn.results.toList=rs)(hl:Nat.ble args.length fn.ntmps=true)
 (hw:Wp C (KL P C) {f,π,raw,bv,nt:=fn.ntmps} 0 c ⟨ET 0 args,h,0,[]⟩ (R4 C bv rs π raw fun o' h'=>o'=o∧h'=h0)):KL P C (.fn f) args h π raw bv=.ok (o,h0):=by
 obtain⟨o',h',e,rfl,rfl⟩:=Ah hg hf hb hr hl hw;exact e
theorem Ar{r:Ae×AB}(hg:C.i5 f=true)(hf:P.funcs[f]? =some fn)(hb:fn.body=some c)(hr:fn.results.toList=rs)(hl:Nat.ble args.length fn.ntmps=true)
 (hw:Wp C (KL P C) {f,π,raw:=false,bv:=none,nt:=fn.ntmps} 0 c ⟨ET 0 args,[],0,[]⟩ (R4 C none rs π false fun o' h'=>nrm (o',h')=r)):BJ (KL P C) f args π=.ok r:=by
 obtain⟨o',h',e,h2⟩:=Ah hg hf hb hr hl hw;unfold BJ;rw[e,←h2]
theorem AA5(v:AV)(h:AB):nrm (.ret v,h)=(.ret v,h):=rfl
theorem AA4(v:AV)(h:AB):nrm (.f9 v,h)=(.f9 v,[]):=rfl
def Ll(C:CZ)(K:AN)(fr:Fr)(b:Nat)(x:Code)(Q:Dx→St→Prop):Dx→St→Prop
 |.normal,st=>Wp C K fr b (.loop x) st Q
 |o,st=>Q o st
def ia(C:CZ)(K:AN)(fr:Fr)(b:Nat)(x:Code)(st:St)(Q:Dx→St→Prop):Prop:=Wp C K fr b x st (Ll C K fr b x Q)
theorem ABa(x:Code)(st:St):Wp C K fr b (.loop x) st Q=ia C K fr b x (E8 C fr b st) Q:=by
 refine propext ⟨fun⟨n,o,st',h,hq⟩=>?_,fun⟨n,o,st',h,hq⟩=>?_⟩
 .cases n with
  |zero=>simp[BK]at h
  |succ n=>
   simp only[BK,Km]at h;cases hx:BK C K fr n b x (E8 C fr b st)with
   |err e=>rw[hx]at h;cases h
   |ok r=>
    rw[hx]at h;obtain⟨o1,st1⟩:=r;refine⟨n,o1,st1,hx,?_⟩;cases o1<;>simp only[DP]at h
    .exact⟨n,o,st',h,hq⟩
    all_goals (cases h;exact hq)
 .cases o with
  |normal=>
   obtain⟨m,o2,st2,h2,hq2⟩:=hq;refine⟨max n m+1,o2,st2,?_,hq2⟩;simp only[BK,Km,MU h (Kw n m),DP,MU h2 (Mk n m)]
  |_=>exact⟨n+1,_,st',by simp only[BK,Km,h,DP],hq⟩
theorem Wg(x:Code)(st:St):Ll C K fr b x Q .normal st=Wp C K fr b (.loop x) st Q:=rfl
theorem cz(x:Code)(k:Nat)(st:St):Ll C K fr b x Q (.exit k) st=Q (.exit k) st:=rfl
theorem nN(x:Code)(st:St):Ll C K fr b x Q .ret st=Q .ret st:=rfl
theorem nK(x:Code)(v:AV)(st:St):Ll C K fr b x Q (.f9 v) st=Q (.f9 v) st:=rfl
theorem Cy(x:Code)(st:St):ia C K fr b x st Q=Wp C K fr b x st (Ll C K fr b x Q):=rfl
structure AA(p:Prop):Prop where
 out:p
variable{α:Type}
theorem rounds{x:Code}(S:α→St)(Inv:α→Prop)(m:α→Nat)(a:α)(h0:Inv a)(step: ∀a,Inv a→AA (∀a',m a'<m a→Inv a'→ia C K fr b x (S a') Q)→Wp C K fr b x (S a) (Ll C K fr b x Q)):ia C K fr b x (S a) Q:=by
 suffices h: ∀k a,m a<k→Inv a→ia C K fr b x (S a) Q from h _ a (Nat.lt_succ_self _) h0
 intro k;induction k with
 |zero=>intro a ha;omega
 |succ k ih=>exact fun a ha hi=>step a hi ⟨fun a' h1 h2=>ih a' (by omega) h2⟩
variable{P:Program}{C:CZ}{K:AN}{fr:Fr}{b n i:Nat}{Q:Dx→St→Prop}
variable{ops:Array Oper}{al:Nat→Bool}{l:List Oper}{e:Bm}{h:AB}{bs:Nat}{ds:List Df}{ps:List (Nat×Nat)}{fps:List Fp}
def Ks(e:Bm):Option (Option Tmp)→AV
 |some (some t)=>e.get t
 |_=>.undef
def Pg(ops:Array Oper)(e:Bm)(j:Nat):AV:=Ks e ((ops[j]?).map (·.dst))
theorem Yr(e:Bm)(t:Tmp):Ks e (some (some t))=e.get t:=rfl
theorem cc(l:List Oper)(e:Bm)(j:Nat):Pg l.toArray e j=Ks e ((l[j]?).map (·.dst)):=by
 simp only[Pg,OR]
theorem AA9(dst:Option Tmp)(op:Op)(ty:TypeId)(pos:String)(af:Array Edge)(j:Nat)(want:Bool):
 Fe C K fr ops b n al (⟨dst,op,ty,pos,af,some (j,want)⟩::l) i ⟨e,h,bs,ds⟩ Q=C0 C K fr ops b n al l i dst op ⟨e,h,bs,ds⟩ want Q (Pg ops e j):=by
 rw[VI];simp only[CQ,Ma,Pg];cases hj:ops[j]? with
 |none=>simp[Ks,C0,BP]
 |some o=>
  cases hd:o.dst with
  |none=>simp[Ks,C0,BP,hd]
  |some t=>
   simp only[I7,hd,El,Ks];cases hv:Bm.get e t with
   |d x=>cases x with
    |bool c=>
     simp only[C0];cases(c==want)<;>simp only[BP,A6]
    |_=>rfl
   |ge vs=>cases vs<;>simp only[C0,BP,A6]
   |_=>rfl
theorem get_cons(k:Nat)(v:AV)(e:Bm)(t:Nat):Bm.get ((k,v)::e) t=if k=t then v else Bm.get e t:=by
 rw[Bm.get];cases h:Nat.beq k t with
 |true=>rw[DO (Dl h)]
 |false=>rw[CS (PM h)]
theorem pF(e:Bm)(t:Tmp)(v:AV):CY e (some t) v=(t,v)::e:=rfl
theorem pE(e:Bm)(v:AV):CY e none v=e:=rfl
theorem ACS(e:Nat→AV)(t:Tmp):ev e (.tmp t)=e t:=rfl
theorem yO(e:Nat→AV)(f:FuncId):ev e (.func f)=.fn f [] []:=rfl
theorem ACR(e:Nat→AV)(k:IntKind)(m:Int):ev e (.const (.int k m))=.d (.int k m):=rfl
theorem yN(e:Nat→AV)(c:Bool):ev e (.const (.bool c))=.d (.bool c):=rfl
theorem ju(e:Nat→AV)(s:ByteArray):ev e (.const (.string s))=.d (.str s):=rfl
theorem yT(e:Nat→AV):ev e (.const (.slice none 0 0))=.ci:=rfl
theorem yS(e:Nat→AV):ev e (.const (.pointer none))=.d .un:=rfl
theorem yP(e:Nat→AV):ev e (.const .nilFunc)=.d .i7:=rfl
theorem yQ(e:Nat→AV):ev e (.const .nilIface)=.d .kw:=rfl
theorem yR(e:Nat→AV):ev e (.const (.map none))=.d .rx:=rfl
theorem ab(δ:AB):Jv none δ=true:=by cases δ<;>rfl
theorem AEU(k:IntKind)(a c:Int):Fc .add k a c=some (.d (.int k (k.wrap (a+c)))):=rfl
theorem AEd(k:IntKind)(a c:Int):Fc .sub k a c=some (.d (.int k (k.wrap (a-c)))):=rfl
theorem AEa(k:IntKind)(a c:Int):Fc .mul k a c=some (.d (.int k (k.wrap (a*c)))):=rfl
theorem AEV(k:IntKind)(a c:Int):Fc .eql k a c=some (.d (.bool (decide (a=c)))):=by
 simp only[Fc];congr
theorem AEb(k:IntKind)(a c:Int):Fc .neq k a c=some (.d (.bool (!decide (a=c)))):=by
 simp only[Fc];congr
theorem AEZ(k:IntKind)(a c:Int):Fc .lss k a c=some (.d (.bool (decide (a<c)))):=rfl
theorem AEY(k:IntKind)(a c:Int):Fc .leq k a c=some (.d (.bool (decide (a≤c)))):=rfl
theorem AEX(k:IntKind)(a c:Int):Fc .gtr k a c=some (.d (.bool (decide (c<a)))):=rfl
theorem AEW(k:IntKind)(a c:Int):Fc .geq k a c=some (.d (.bool (decide (c≤a)))):=rfl
theorem AEc(k:IntKind)(a c:Int):Fc .rem k a c=if c=0 then none else some (.d (.int k (a.tmod c))):=rfl
theorem AFC(op:BinOp)(k:IntKind)(a c:Int)(t:Option TI):HA op (.d (.int k a)) (.d (.int k c)) t=Fc op k a c:=by
 simp only[HA,F3]
variable{st:St}
theorem jO{x y:Code}{p:Prop} [Decidable p](h1:p→Wp C K fr b x st Q)(h2: ¬p→Wp C K fr b y st Q):LV C K fr b x y st Q (.d (.bool (decide p))):=by
 by_cases hp:p
 .rw[Co hp];exact h1 hp
 .rw[CE hp];exact h2 hp
theorem jQ(x y:Code)(st:St)(t:Bool):LV C K fr b x y st Q (.d (.bool (!t)))=LV C K fr b y x st Q (.d (.bool t)):=by
 cases t<;>rfl
variable{dst:Option Tmp}{want:Bool}
theorem ca{op:Op}{p:Prop} [Decidable p](h1:p→C0 C K fr ops b n al l i dst op st want Q (.d (.bool true)))(h2: ¬p→C0 C K fr ops b n al l i dst op st want Q (.d (.bool false))):C0 C K fr ops b n al l i dst op st want Q (.d (.bool (decide p))):=by
 by_cases hp:p
 .rw[Co hp];exact h1 hp
 .rw[CE hp];exact h2 hp
theorem cb(dst:Option Tmp)(op:Op)(want:Bool):C0 C K fr ops b n al l i dst op ⟨e,h,bs,ds⟩ want Q (.ge [])=Fe C K fr ops b n al l (i+1) ⟨CY e dst (.ge []),h,bs,ds⟩ Q:=rfl
def rp(C:CZ)(K:AN)(fr:Fr)(ops:Array Oper)(b n id:Nat)(l:List Oper)(st:St)(Q:Dx→St→Prop):List (Nat×Nat)→Prop
 |[]=>Fe C K fr ops b n (fun i=>C.alone fr.f id i) l 0 st Q
 |p::ps=>Gd C K fr ops b n (fun i=>C.alone fr.f id i) (p::ps) [] l 0 st Q
theorem xN(id:Nat)(ops:Array Oper)(e:Bm)(h:AB)(bs:Nat)(ds:List Df):Wp C K fr b (.region id ops true) ⟨e,h,bs,ds⟩ Q=rp C K fr ops bs ops.size id ops.toList ⟨e,h,bs,ds⟩ Q (C.d7 fr.f id):=by
 cases hp:C.d7 fr.f id with
 |nil=>rw[xM id ops e h bs ds hp];rfl
 |cons p ps=>rw[ABY id ops e h bs ds hp];rfl
theorem jh(id:Nat)(st:St):rp C K fr ops b n id l st Q []=Fe C K fr ops b n (fun i=>C.alone fr.f id i) l 0 st Q:=rfl
theorem bm(id:Nat)(st:St)(p:Nat×Nat):rp C K fr ops b n id l st Q (p::ps)=Gd C K fr ops b n (fun i=>C.alone fr.f id i) (p::ps) [] l 0 st Q:=rfl
variable{Post:Ae→AB→Prop}
theorem r8:R4 C bv rs π raw Post .ret ⟨e,h,bs,ds⟩=J1 C rs π raw e Post (C5 C bv ds none h):=rfl
theorem YD:R4 C bv rs π raw Post .normal ⟨e,h,bs,ds⟩=J1 C rs π raw e Post (C5 C bv ds none h):=rfl
theorem r7(v:AV):R4 C bv rs π raw Post (.f9 v) ⟨e,h,bs,ds⟩=J1 C rs π raw e Post (C5 C bv ds (some v) h):=rfl
theorem lQ(bv:Option (List Nat))(p:Option AV)(h:AB):C5 C bv [] p h=.ok (p,h):=rfl
theorem SQ(bv:Option (List Nat))(p:Option AV)(h:AB)(id:Id)(l:List Df):C5 C bv (.mark id::l) p h=C5 C bv l p h:=rfl
theorem cp:J1 C rs π raw e Post (.ok (none,h))=fy h π raw Post (Sv C e h rs):=rfl
theorem cn(v:AV):J1 C rs π raw e Post (.ok (some v,h))=Post (.f9 v) h:=rfl
theorem xE(v:AV):fy h π true Post (some v)=Post (.ret v) h:=rfl
theorem xD{k:Nat}(v:AV):fy h (k::π) false Post (some v)=Post (.ret v) h:=rfl
def ACg(Post:Ae→AB→Prop):Option AV→Prop
 |some v=>Post (.ret v) []
 |none=>False
theorem xC(v:AV):fy h [] false Post (some v)=ACg Post (XJ h.get v):=by
 simp only[fy];cases XJ h.get v<;>rfl
theorem kY(v:AV):ACg Post (some v)=Post (.ret v) []:=rfl
theorem pS:Sv C e h []=some (.ge []):=rfl
theorem v5(t:Tmp):Sv C e h [.tmp t]=some (e.get t):=rfl
theorem pR(r r':ResultVar)(rs:List ResultVar):Sv C e h (r::r'::rs)=(M0 (Ck C ⟨e,h,0,[]⟩) (r::r'::rs)).map .ge:=by
 unfold Sv;simp only[M0];cases Ck C ⟨e,h,0,[]⟩ r with
 |none=>rfl
 |some y=>cases Ck C ⟨e,h,0,[]⟩ r' with
  |none=>rfl
  |some z=>cases M0 (Ck C ⟨e,h,0,[]⟩) rs<;>rfl
theorem pQ(a:Tmp)(t:TypeId):Sv C e h [.cell a t]=(C.T t).bind fun i=>JH h.get i (e.get a):=by
 unfold Sv;simp only[M0,Ck];cases(C.T t).bind fun i=>JH h.get i (e.get a)<;>rfl
theorem Tp(t:Tmp):Ck C ⟨e,h,bs,ds⟩ (.tmp t)=some (e.get t):=rfl
theorem Sw(a:Tmp)(t:TypeId):Ck C ⟨e,h,bs,ds⟩ (.cell a t)=(C.T t).bind fun i=>JH h.get i (e.get a):=rfl
variable{β:Type}
theorem ue(f:α→Option β):M0 f []=some []:=rfl
theorem nU(f:α→Option β)(x:α)(l:List α):M0 f (x::l)=(f x).bind fun y=>(M0 f l).map (y:: ·):=by
 simp only[M0];cases f x with
 |none=>rfl
 |some y=>cases M0 f l<;>rfl
theorem kr(dst:Option Tmp)(op:Op)(st:St)(t:Bool):C0 C K fr ops b n al l i dst op st true Q (.d (.bool (!t)))=C0 C K fr ops b n al l i dst op st false Q (.d (.bool t)):=by
 cases t<;>rfl
theorem kq(dst:Option Tmp)(op:Op)(st:St)(t:Bool):C0 C K fr ops b n al l i dst op st false Q (.d (.bool (!t)))=C0 C K fr ops b n al l i dst op st true Q (.d (.bool t)):=by
 cases t<;>rfl
theorem yw(g:G)(vs:List AV):XJ g (.ge vs)=(Dr g vs).map .ge:=rfl
theorem AEo(g:G)(x:AZ):XJ g (.d x)=some (.d x):=rfl
theorem yo(g:G)(cs:List AV):XJ g (.agg cs)=(Gv g cs).map .agg:=rfl
theorem sq(g:G):XJ g .ci=some (.d (.be [])):=rfl
theorem yp(g:G):XJ g .emp=some (.d (.be [])):=rfl
theorem yu(g:G)(id:Id)(off m:Nat):XJ g (.em id off m)=(Dn g (.em id off m)).map .d:=rfl
theorem is_self: ∀(a:Id),Id.is a a=true
 |[]=>rfl
 |n::l=>by simp[Id.is,is_self l]
theorem zP(n m:Nat)(l k:Id):Id.is (n::l) (m::k)=if n=m then Id.is l k else false:=by
 rw[Id.is];cases h:Nat.beq n m with
 |true=>rw[DO (Dl h)]
 |false=>rw[CS (PM h)]
theorem Y0(m:Nat)(k:Id):Id.is [] (m::k)=false:=rfl
theorem Yz(m:Nat)(k:Id):Id.is (m::k) []=false:=rfl
theorem tB(id:Id):AB.get [] id=none:=rfl
theorem Bd(k:Id)(o:Obj)(h:AB)(id:Id):AB.get ((k,o)::h) id=if Id.is k id=true then some o else AB.get h id:=by
 rw[AB.get];cases Id.is k id<;>rfl
theorem iL(id:Id)(o:Obj):AB.put [] id o=[(id,o)]:=rfl
theorem Zy(k:Id)(x:Obj)(h:AB)(id:Id)(o:Obj):AB.put ((k,x)::h) id o=if Id.is k id=true then(k,o)::h else(k,x)::AB.put h id o:=by
 rw[AB.put];cases Id.is k id<;>rfl
theorem puts_cons(h:AB)(p:Id×Obj)(δ:AB):AB.puts h (p::δ)=AB.puts (h.put p.1 p.2) δ:=rfl
theorem puts_nil(h:AB):AB.puts h []=h:=rfl
def Vs(π:List Nat)(e:Bm)(h:AB)(l:List Id):St:=
 {env:=e.map fun p=>(p.1,Mr (De π l 0) p.2),heap:=DE h (De π l 0) l,base:=l.length,defs:=[]}
def Tf:Bm→List Id
 |[]=>[]
 |p::e=>AD p.2++Tf e
theorem zJ(e:Bm):(e.flatMap fun p=>AD p.2)=Tf e:=by
 induction e with
 |nil=>rfl
 |cons p e ih=>rw[D2,ih];rfl
def Om(e:Bm):List Nat→Bm
 |[]=>[]
 |t::l=>(t,e.get t)::Om e l
theorem SS(e:Bm)(l:List Nat):(l.map fun t=>(t,e.get t))=Om e l:=by
 induction l with
 |nil=>rfl
 |cons p e ih=>rw[D8,ih];rfl
def NK(π:List Nat)(h:AB)(e:Bm):St:=Vs π e h (CB h 1000 (Ey [] (Tf e)) 0)
theorem UJ(f:FuncId)(π:List Nat)(bv:Option (List Nat))(wl:Bool)(nt:Nat):E8 C ⟨f,π,false,bv,wl,nt⟩ b ⟨e,h,bs,[]⟩=NK π h (Om e (C.live f b)):=by
 simp only[E8,SS,zJ,NK,Vs];rfl
theorem jG(f:FuncId)(π:List Nat)(bv:Option (List Nat))(wl:Bool)(nt:Nat):E8 C ⟨f,π,true,bv,wl,nt⟩ b ⟨e,h,bs,ds⟩=⟨Om e (C.live f b),h,bs,ds⟩:=by
 simp only[E8,SS];rfl
theorem bK(d:Df):E8 C fr b ⟨e,h,bs,d::ds⟩=⟨Om e (C.live fr.f b),h,bs,d::ds⟩:=by
 simp only[E8,SS,List.isEmpty_cons,Ol,Bool.or_true,F3]
theorem qg(l:List Id)(id:Id):K6 l id=if (l.any (Id.is id))=true then l else l++[id]:=by
 rw[K6];cases l.any (Id.is id)<;>rfl
theorem vu(h:AB)(n:Nat)(l:List Id)(i:Nat):CB h (n+1) l i=match l[i]? with
 |some id=>CB h n (Ey l (JM (h.get id))) (i+1)
 |none=>l:=rfl
def S8(id:Id):Nat:=match id with|0::_=>0|_=>1
theorem Sa(π:List Nat)(x:Id)(r:List Id)(n:Nat)(id:Id):De π (x::r) n id=if Id.is x id=true then some (S8 id::n::π)else De π r (n+1) id:=by
 have:De π (x::r) n id=match Id.is x id with|true=>some (S8 id::n::π)|false=>De π r (n+1) id:=by
  conv=>lhs;unfold De
  unfold S8;cases id with
  |nil=>rfl
  |cons a l=>cases a<;>rfl
 rw[this];cases Id.is x id<;>rfl
theorem px(l:Id):S8 (0::l)=0:=rfl
theorem pw(l:Id):S8 (1::l)=1:=rfl
def SV(sz:Nat):Option (List AZ)→Option CJ
 |some c=>if c.length=sz then some ⟨.pp c,[]⟩else none
 |none=>none
theorem zK(g:G)(m:Int)(es:List (List AZ))(j:TI)(hm:0≤m):NG g m (.d (.be es)) j=SV j.size es[m.toNat]? :=by
 simp only[NG,DO hm];cases es[m.toNat]? with
 |none=>rfl
 |some c=>
  simp only[SV];cases h:Nat.beq c.length j.size with
  |true=>rw[DO (Dl h)]
  |false=>rw[CS (PM h)]
theorem zL(g:G)(m:Int)(id:Id)(off len:Nat)(j:TI)(hm:0≤m):NG g m (.em id off len) j=if m.toNat<len then(match g id with
        |some (.co sz es)=>if sz=j.size∧off+m.toNat<es.length then some ⟨.i6 id (off+m.toNat) 0,[]⟩else none
        |some (.it sz es)=>if sz=j.size∧off+m.toNat<es.length then some ⟨.i6 id (off+m.toNat) 0,[]⟩else none
        |some (.arr sz es)=>if sz=j.size∧off+m.toNat<es.length then some ⟨.i6 id (off+m.toNat) 0,[]⟩else none
        |_=>none)else none:=by
 simp only[NG,DO hm];rfl
theorem nR(sz:Nat)(c:List AZ):SV sz (some c)=if c.length=sz then some ⟨.pp c,[]⟩else none:=rfl
variable{j:Nat}
theorem o5{s:ByteArray}{f:UInt8→CJ}(hj:j<s.data.toList.length)(hx: ∀x,s.data.toList[j]? =some x→Bo C K fr ops b n al l i dst e h bs ds Q (some (f x))):Bo C K fr ops b n al l i dst e h bs ds Q (Option.map f s.data.toList[j]?):=by
 have:=hx s.data.toList[j] (BY hj)
 rwa [BY hj]
theorem ov{f:α→List AZ}{l':List α}{sz:Nat}(hj:j<l'.length)(hx: ∀x,l'[j]? =some x→Bo C K fr ops b n al l i dst e h bs ds Q (SV sz (some (f x)))):Bo C K fr ops b n al l i dst e h bs ds Q (SV sz (Option.map f l'[j]?)):=by
 have:=hx l'[j] (BY hj)
 rwa [BY hj]
theorem ACe(g:G)(x:AZ):FB g (.d x)=some x:=rfl
theorem kH(g:G):FB g .ci=some (.be []):=rfl
theorem sY(g:G):FB g .emp=some (.be []):=rfl
theorem ACf(g:G)(x:AZ):Dn g (.d x)=some x:=rfl
theorem kJ(g:G):Dn g .ci=some (.be []):=rfl
theorem sf(g:G):Dn g .emp=some (.be []):=rfl
theorem si(g:G)(id:Id)(off:Nat):Dn g (.ptr id off)=none:=rfl
theorem yl(g:G)(id:Id):Dn g (.mp id)=none:=rfl
theorem sj(g:G)(id:Id):Dn g (.v6 id)=none:=rfl
theorem yk(g:G)(f:FuncId)(a c:List AV):Dn g (.fn f a c)=none:=rfl
def Yj(g:G)(off m:Nat):Option Obj→Option AZ
 |some (.arr _ es)=>(Cx g es).bind fun ds=>(JZ ds off m).map .be
 |some (.co _ es)=>(JZ es off m).map .be
 |some (.it _ es)=>(JZ es off m).map .be
 |_=>none
theorem sh(g:G)(id:Id)(off m:Nat):Dn g (.em id off m)=Yj g off m (g id):=by
 simp only[Dn,FB];cases h:g id with
 |none=>rfl
 |some o=>cases o with
  |arr sz es=>
   simp only[Yj];cases Cx g es<;>rfl
  |_=>rfl
theorem kR(g:G)(off m sz:Nat)(es:List (List AV)):Yj g off m (some (.arr sz es))=(Cx g es).bind fun ds=>(JZ ds off m).map .be:=rfl
theorem cV(g:G)(off m sz:Nat)(es:List (List AZ)):Yj g off m (some (.co sz es))=(JZ es off m).map .be:=rfl
theorem kT(g:G)(off m sz:Nat)(es:List (List AZ)):Yj g off m (some (.it sz es))=(JZ es off m).map .be:=rfl
theorem kK(g:G):Gv g []=some []:=rfl
def NV:Option AZ→Option (List AV)→Option (List AV)
 |some x,some xs=>some (.d x::xs)
 |_,_=>none
theorem Yf(x:AZ)(xs:List AV):NV (some x) (some xs)=some (.d x::xs):=rfl
theorem Ye(xs:Option (List AV)):NV none xs=none:=rfl
theorem cQ(g:G)(v:AV)(vs:List AV):Gv g (v::vs)=NV (Dn g v) (Gv g vs):=by
 simp only[Gv];cases Dn g v<;>cases Gv g vs<;>rfl
def Uj:Option AV→Option (List AV)→Option (List AV)
 |some x,some xs=>some (x::xs)
 |_,_=>none
theorem cT(x:AV)(xs:List AV):Uj (some x) (some xs)=some (x::xs):=rfl
theorem cR(xs:Option (List AV)):Uj none xs=none:=rfl
theorem Yh(x:Option AV):Uj x none=none:=by cases x<;>rfl
theorem sn(g:G):Dr g []=some []:=by simp only[Dr]
theorem kO(g:G)(v:AV)(vs:List AV):Dr g (v::vs)=Uj (Ed g v) (Dr g vs):=by
 simp only[Dr];cases Ed g v<;>cases Dr g vs<;>rfl
theorem ACd(g:G)(x:AZ):Ed g (.d x)=some (.d x):=rfl
theorem sQ(g:G)(cs:List AV):Ed g (.agg cs)=(Gv g cs).map .agg:=rfl
theorem kG(g:G):Ed g .ci=some (.d (.be [])):=rfl
theorem sR(g:G):Ed g .emp=some (.d (.be [])):=rfl
theorem sV(g:G)(id:Id)(off:Nat):Ed g (.ptr id off)=none:=rfl
theorem yj(g:G)(id:Id):Ed g (.mp id)=none:=rfl
theorem sX(g:G)(id:Id):Ed g (.v6 id)=none:=rfl
theorem yi(g:G)(f:FuncId):Ed g (.fn f [] [])=some (.fn f [] []):=rfl
theorem sU(g:G)(id:Id)(off m:Nat):Ed g (.em id off m)=(Dn g (.em id off m)).map .d:=rfl
theorem YY(g:G)(t:TypeId)(cs:List AV):Ed g (.iface t (.agg cs))=(Gv g cs).map fun c=>.iface t (.agg c):=rfl
theorem YZ(g:G)(t:TypeId)(x:AZ):Ed g (.iface t (.d x))=some (.iface t (.d x)):=rfl
theorem ACa(x:AZ):flat (.d x)=EH x:=by cases x<;>rfl
theorem kE:flat .ci=true:=by simp[flat]
theorem sJ(cs:List AV):flat (.agg cs)=FV cs:=by cases cs<;>rfl
theorem sM(cs:List AV):flat (.ge cs)=FV cs:=by cases cs<;>rfl
theorem sK(id:Id)(off m:Nat):flat (.em id off m)=false:=by cases id<;>rfl
theorem sL(id:Id)(off:Nat):flat (.ptr id off)=false:=by cases id<;>rfl
theorem YQ(t:TypeId)(cs:List AV):flat (.iface t (.agg cs))=FV cs:=by cases cs<;>rfl
theorem YR(t:TypeId)(x:AZ):flat (.iface t (.d x))=EH x:=by cases x<;>rfl
theorem kB:FV []=true:=rfl
theorem ye(x:AZ)(vs:List AV):FV (.d x::vs)=(EH x&&FV vs):=rfl
theorem kA(x:List AV)(vs:List AV):FV (.agg x::vs)=false:=by simp only[FV]
theorem kC(id:Id)(off m:Nat)(vs:List AV):FV (.em id off m::vs)=false:=by simp only[FV]
theorem cG(vs:List AV):FV (.ci::vs)=false:=by simp only[FV]
theorem yg(id:Id):flat (.mp id)=false:=by simp only[flat]
theorem yf(f:FuncId)(a c:List AV):flat (.fn f a c)=false:=by simp only[flat]
theorem YN(vs:List AV)(h:AB):BT (.ge vs) h=none:=by simp only[BT]
theorem YK(vs:List AV)(h:AB):BT (.agg vs) h=none:=by simp only[BT]
theorem YM(id:Id)(off:Nat)(h:AB):BT (.ptr id off) h=none:=by simp only[BT]
theorem b9(id:Id)(h:AB):BT (.mp id) h=none:=by simp only[BT]
theorem j6(x:AZ)(h:AB):BT (.d x) h=none:=by simp only[BT]
theorem bz(f:FuncId)(a c:List AV)(h:AB):BT (.fn f a c) h=none:=by simp only[BT]
theorem j7(k:IntKind)(m:Int):EH (.int k m)=true:=rfl
theorem cA(c:Bool):EH (.bool c)=true:=rfl
theorem j9(c:ByteArray):EH (.str c)=true:=rfl
theorem j8(c:List (List AZ)):EH (.be c)=false:=rfl
theorem cF:EH .un=true:=rfl
theorem cC:EH .kw=true:=rfl
theorem cB:EH .i7=true:=rfl
theorem cD:EH .rx=true:=rfl
theorem jJ(cs:List AV):AV.cells (.agg cs)=cs:=rfl
theorem xu(x:AZ):AV.cells (.d x)=[.d x]:=rfl
theorem bT:AV.cells .ci=[.ci]:=rfl
theorem jK:AV.cells .emp=[.emp]:=rfl
theorem jL(id:Id)(off m:Nat):AV.cells (.em id off m)=[.em id off m]:=rfl
theorem jM(id:Id)(off:Nat):AV.cells (.ptr id off)=[.ptr id off]:=rfl
theorem bP(id:Id)(k off:Nat):AV.cells (.i6 id k off)=[.i6 id k off]:=rfl
theorem rN(f:FuncId)(a c:List AV):AV.cells (.fn f a c)=[.fn f a c]:=rfl
theorem rP(id:Id):AV.cells (.mp id)=[.mp id]:=rfl
theorem Xq(t:TypeId)(v:AV):AV.cells (.iface t v)=[.iface t v]:=rfl
theorem bR(c:List AZ):AV.cells (.pp c)=[.pp c]:=rfl
theorem ACN(x:AZ):AV.isCell (.d x)=true:=rfl
theorem jI:AV.isCell .ci=true:=rfl
theorem rJ:AV.isCell .emp=true:=rfl
theorem rK(id:Id)(off m:Nat):AV.isCell (.em id off m)=true:=rfl
theorem rL(id:Id)(off:Nat):AV.isCell (.ptr id off)=true:=rfl
theorem jH(id:Id)(k off:Nat):AV.isCell (.i6 id k off)=true:=rfl
theorem xq(f:FuncId)(a c:List AV):AV.isCell (.fn f a c)=true:=rfl
theorem xr(id:Id):AV.isCell (.mp id)=true:=rfl
theorem bO(t:TypeId)(v:AV):AV.isCell (.iface t v)=true:=rfl
theorem ADx(a c:List AV)(i:TI):HA .eql (.agg a) (.agg c) (some i)=(Hc i.kind (.agg a) (.agg c)).map fun t=>.d (.bool t):=by
 simp only[HA];cases Hc i.kind (.agg a) (.agg c)<;>rfl
theorem ADy(a c:List AV)(i:TI):HA .neq (.agg a) (.agg c) (some i)=(Hc i.kind (.agg a) (.agg c)).map fun t=>.d (.bool (!t)):=by
 simp only[HA];cases Hc i.kind (.agg a) (.agg c)<;>rfl
theorem iv(ks:List TK)(a c:List AV):Hc (.flat ks) (.agg a) (.agg c)=Eb ks a c:=rfl
theorem Xp:Eb [] [] []=some true:=rfl
def AET:Option Bool→Option Bool→Option Bool
 |some a,some c=>some (a&&c)
 |_,_=>none
theorem ig(a c:Bool):AET (some a) (some c)=some (a&&c):=rfl
theorem Vv(t:TK)(ts:List TK)(x y:AV)(xs ys:List AV):Eb (t::ts) (x::xs) (y::ys)=AET (Gm t x y) (Eb ts xs ys):=by
 simp only[Eb];cases Gm t x y<;>cases Eb ts xs ys<;>rfl
theorem bM(k:IntKind)(a c:Int):Gm .int (.d (.int k a)) (.d (.int k c))=some (decide (a=c)):=by
 simp only[Gm,F3];congr
theorem Xn(a c:Bool):Gm .bool (.d (.bool a)) (.d (.bool c))=some (a==c):=rfl
theorem bN(a c:ByteArray):Gm .str (.d (.str a)) (.d (.str c))=some (a==c):=rfl
theorem AD2(a c:ByteArray)(i:TI):HA .lss (.d (.str a)) (.d (.str c)) (some i)=some (.d (.bool (Op.bytesLess a.toList c.toList))):=by
 simp only[HA];cases Hc i.kind (.d (.str a)) (.d (.str c))<;>rfl
theorem ABT(a c:ByteArray)(i:TI):HA .leq (.d (.str a)) (.d (.str c)) (some i)=some (.d (.bool (Op.bytesLess a.toList c.toList||a.toList==c.toList))):=by
 simp only[HA];cases Hc i.kind (.d (.str a)) (.d (.str c))<;>rfl
theorem AD1(a c:ByteArray)(i:TI):HA .eql (.d (.str a)) (.d (.str c)) (some i)=(Hc i.kind (.d (.str a)) (.d (.str c))).map fun t=>.d (.bool t):=by
 simp only[HA];cases Hc i.kind (.d (.str a)) (.d (.str c))<;>rfl
theorem ABQ(a c:Bool)(i:TI):HA .eql (.d (.bool a)) (.d (.bool c)) (some i)=(Hc i.kind (.d (.bool a)) (.d (.bool c))).map fun t=>.d (.bool t):=by
 simp only[HA];cases Hc i.kind (.d (.bool a)) (.d (.bool c))<;>rfl
theorem xB(t:TypeId)(v:AV)(i:TI):HA .neq (.iface t v) (.d .kw) (some i)=(Hc i.kind (.iface t v) (.d .kw)).map fun t=>.d (.bool (!t)):=by
 simp only[HA];cases Hc i.kind (.iface t v) (.d .kw)<;>rfl
theorem lN(v:Value):Yy (.const v)=true:=rfl
theorem zO(t:Tmp):Yy (.tmp t)=false:=rfl
theorem tJ(f:FuncId):Yy (.func f)=false:=rfl
theorem xj(c:Bool)(op:BinOp)(x y:AV)(t:Option TI):iz c op x y t=orV (HA op x y t) (vG c op x y t):=rfl
theorem vR(v:AV)(r:Option AV):orV (some v) r=some v:=rfl
theorem vQ(r:Option AV):orV none r=r:=rfl
def ADe:TK→BinOp→Option AV
 |.iface,.eql=>some (.d (.bool true))
 |.iface,.neq=>some (.d (.bool false))
 |_,_=>none
theorem vD:ADe .iface .eql=some (.d (.bool true)):=rfl
theorem vE:ADe .iface .neq=some (.d (.bool false)):=rfl
theorem vH(op:BinOp)(i:TI):vG true op (.d .kw) (.d .kw) (some i)=ADe i.kind op:=by
 obtain⟨k⟩:=i;cases k<;>cases op<;>rfl
theorem AD0(op:BinOp)(i:TI):HA op (.d .kw) (.d .kw) (some i)=none:=by
 obtain⟨k⟩:=i;cases k<;>cases op<;>rfl
theorem qt(a c:ByteArray):Hc .str (.d (.str a)) (.d (.str c))=some (a==c):=rfl
theorem iu(a c:Bool):Hc .bool (.d (.bool a)) (.d (.bool c))=some (a==c):=rfl
theorem bD(t:TypeId)(v:AV):Hc .iface (.iface t v) (.d .kw)=some false:=rfl
theorem AFB(f:FuncId)(a c:List AV)(i:TI):HA .neq (.fn f a c) (.d .i7) (some i)=(Hc i.kind (.fn f a c) (.d .i7)).map fun t=>.d (.bool (!t)):=by
 simp only[HA];cases Hc i.kind (.fn f a c) (.d .i7)<;>rfl
theorem ABR(i:TI):HA .neq (.d .i7) (.d .i7) (some i)=(Hc i.kind (.d .i7) (.d .i7)).map fun t=>.d (.bool (!t)):=by
 simp only[HA];cases Hc i.kind (.d .i7) (.d .i7)<;>rfl
theorem xi(f:FuncId)(a c:List AV):Hc .func (.fn f a c) (.d .i7)=some false:=rfl
theorem iw:Hc .func (.d .i7) (.d .i7)=some true:=rfl
theorem kZ(g:G)(t:TypeId)(v:AV):XJ g (.iface t v)=Ed g (.iface t v):=by simp only[XJ]
theorem yv(g:G)(id:Id)(off:Nat):XJ g (.ptr id off)=none:=rfl
attribute [go_sem] AD2 ABT AD1 ABQ xB lN zO tJ xj vR vQ vD vE vH AD0 qt iu bD AFB ABR xi iw kZ yv
attribute [go_sem] ADx ADy iv Xp ig Vv bM Xn bN
theorem Gj(a c:Nat):Nat.ble a c=decide (a≤c):=by
 cases h:Nat.ble a c with
 |true=>exact(Co (F6 h)).symm
 |false=>exact(CE (fun h1=>by rw[OL h1]at h;cases h)).symm
theorem Vq(a c:Nat):Nat.blt a c=decide (a<c):=Gj (a+1) c
theorem HL(a c:Nat):Nat.beq a c=decide (a=c):=by
 cases h:Nat.beq a c with
 |true=>exact(Co (Dl h)).symm
 |false=>exact(CE (PM h)).symm
theorem Pk{a:Nat}(h:a≤1073741824):(a≤BA)=True:=eq_true (by unfold BA;omega)
attribute [go_sem] Gj Vq Pk Gn List.replicate_succ List.replicate_zero List.flatten_cons List.flatten_nil Bool.and_self
theorem Zn(t:TypeId)(u:AV)(hu:flat (.iface t u)=true):BP C K fr ops b n al l i Q (Fw ⟨e,h,bs,ds⟩ (.iface t u))=(al i=true∧Q (.f9 (.iface t u)) ⟨e,h,b+n,ds⟩):=by
 simp only[Fw,hu,BP]
def B4(v:AV)(t:Bool):E (Ae×AB):=if t=true then .ok (.ret (.ge []),[])else .ok (.f9 v,[])
theorem K2(v:AV):B4 v true=.ok (.ret (.ge []),[]):=rfl
theorem Ju(v:AV):B4 v false=.ok (.f9 v,[]):=rfl
variable{az:List AV}{v:AV}{t:Bool}
theorem fJ(h1:t=true→DU C K fr ops b n al l i az dst e h bs ds Q (B4 v true))(h2:t=false→DU C K fr ops b n al l i az dst e h bs ds Q (B4 v false)):DU C K fr ops b n al l i az dst e h bs ds Q (B4 v t):=by
 cases t
 .exact h2 rfl
 .exact h1 rfl
theorem Zw{p:Prop} [Decidable p](h1:p→DU C K fr ops b n al l i az dst e h bs ds Q (B4 v true))(h2: ¬p→DU C K fr ops b n al l i az dst e h bs ds Q (B4 v false)):DU C K fr ops b n al l i az dst e h bs ds Q (B4 v (decide p)):=by
 by_cases hp:p
 .rw[Co hp];exact h1 hp
 .rw[CE hp];exact h2 hp
attribute [go_sem] Nat.add_assoc
attribute [go_sem] AA5 AA4 Prod.mk.injEq Zn K2 Ju pB o9
attribute [go_sem] AD4 ABX xL ABb AD3 ABZ p8 aH pd wO wM TV bG bF Xf bb X0 vP oD AA9 kv kn ku ko ACi sv ACj yx AEp y6 WM ACh zC cX yz ACk y8 su cW kg sw Yn s5 Ym zB Yk Yl y9 kf kc zA y7 zD rE kV L1 fC pF pE ACS yO ACR yN ju yT yS yP yQ yR get_cons cc Yr ET Ni Jn QY Jo Cd Kz IX GM oB iJ EY Mm C1 Ky HF GX ZN ZO zK zL nR We JH B6 JZ FX AFC AEU AEd AEa AEV AEb AEZ AEY AEX AEW AEc ab r8 YD r7 lQ SQ cp cn xE xD xC kY pS v5 pR pQ Tp Sw ue nU kr kq cb yw AEo yo sq yp yu N6 jQ decide_true decide_false Bool.not_true Bool.not_false xN jh bm dP nr fI Option.isSome_some jJ xu bT jK jL jM bP rN rP Xq bR ACN jI rJ rK rL jH xq xr bO EI Ch puts_cons puts_nil iL Zy tB Bd is_self zP Y0 Yz ABa Wg cz nN nK UJ jG bK NK Vs Tf Om qg Ey vu Sa px pw Mr JQ JR DE JM AD A5 List.any_nil List.any_cons Bool.or_false Bool.false_or Bool.or_true Bool.true_or Bool.false_and Bool.and_false Int.toNat_natCast Int.natCast_nonneg List.getElem?_map List.getElem?_nil ACe kH sY ACf kJ sf si yl sj yk sh kR cV kT kK Yf Ye cQ cT cR Yh sn kO ACd sQ kG sR sV yj sX yi sU YY YZ ACa kE sJ sM sK sL YQ YR kB ye kA kC cG yg yf YN YK YM b9 j6 bz List.flatMap_cons List.flatMap_nil j7 cA j9 j8 cF cC cB cD List.foldl_cons List.foldl_nil List.map_cons List.map_nil List.length_cons List.length_nil List.length_map List.length_append List.length_singleton List.append_assoc List.all_cons List.all_nil Option.map_some Option.bind_some List.getElem?_cons_zero List.getElem?_cons_succ List.take_succ_cons List.take_zero List.drop_succ_cons List.drop_zero List.append_nil List.nil_append List.cons_append List.size_toArray Bool.and_true Bool.true_and true_and and_true
variable{P:Program}{C:CZ}{K:AN}{fr:Fr}{b n i:Nat}{Q:Dx→St→Prop}
variable{ops:Array Oper}{al:Nat→Bool}{l:List Oper}{e:Bm}{h:AB}{bs:Nat}{ds:List Df}{ps:List (Nat×Nat)}{fps:List Fp}
def Bu(C:CZ)(K:AN)(fr:Fr)(ops:Array Oper)(b n:Nat)(al:Nat→Bool)(ps:List (Nat×Nat))(fps:List Fp)(l:List Oper)(i:Nat)(Q:Dx→St→Prop):G4→Prop
 |.ok st fp=>Gd C K fr ops b n al ps (fps++[fp]) l (i+1) st Q
 |.f9 v st=>al i=true∧Dg fps ps=true∧Q (.f9 v) {st with base:=b+n}
 |.err _=>False
def C8(C:CZ)(K:AN)(fr:Fr)(ops:Array Oper)(b n:Nat)(al:Nat→Bool)(ps:List (Nat×Nat))(fps:List Fp)(l:List Oper)(i:Nat)(dst:Option Tmp)(e:Bm)(h:AB)(bs:Nat)(ds:List Df)(Q:Dx→St→Prop)(rd:List Id):Option CJ→Prop
 |some x=>Jv fr.bv x.δ=true∧Gd C K fr ops b n al ps (fps++[⟨some rd,some (x.δ.map (·.1))⟩]) l (i+1) ⟨CY e dst x.v,h.puts x.δ,bs,ds⟩ Q
 |none=>False
theorem vO:Gd C K fr ops b n al ps fps [] i ⟨e,h,bs,ds⟩ Q=(Dg fps ps=true∧Q .normal ⟨e,h,b+n,ds⟩):=by
 simp only[Gd,C3,D9]
theorem VH(o:Oper)(st:St):Gd C K fr ops b n al ps fps (o::l) i st Q=Bu C K fr ops b n al ps fps l i Q (CQ C K fr ops ((b+i)::fr.π) o st):=by
 unfold Gd;simp only[C3,HT];cases hs:CQ C K fr ops ((b+i)::fr.π) o st with
 |err e=>rfl
 |f9 v st'=>
  simp only[Bu];cases al i<;>simp
 |ok st' fp=>
  simp only[Bu,Gd];cases hr:C3 C K fr ops b al l (i+1) st' with
  |err e=>rfl
  |ok r=>
   obtain⟨⟨o,st2⟩,fps'⟩:=r;cases o<;>simp only[Vw,EM,FN,Gc]
def DM(C:CZ)(K:AN)(fr:Fr)(ops:Array Oper)(b n:Nat)(al:Nat→Bool)(ps:List (Nat×Nat))(fps:List Fp)(l:List Oper)(i:Nat)(dst:Option Tmp)(op:Op)(st:St)(want:Bool)(Q:Dx→St→Prop):AV→Prop
 |.d (.bool t)=>match t==want with
  |true=>Bu C K fr ops b n al ps fps l i Q (A4 C K fr ((b+i)::fr.π) op dst st)
  |false=>Gd C K fr ops b n al ps (fps++[⟨some [],some []⟩]) l (i+1) {st with env:=CY st.env dst (.ge [])} Q
 |.ge []=>Gd C K fr ops b n al ps (fps++[⟨some [],some []⟩]) l (i+1) {st with env:=CY st.env dst (.ge [])} Q
 |_=>False
theorem vd(dst:Option Tmp)(op:Op)(ty:TypeId)(pos:String)(af:Array Edge)(j:Nat)(want:Bool):
 Gd C K fr ops b n al ps fps (⟨dst,op,ty,pos,af,some (j,want)⟩::l) i ⟨e,h,bs,ds⟩ Q=DM C K fr ops b n al ps fps l i dst op ⟨e,h,bs,ds⟩ want Q (Pg ops e j):=by
 rw[VH];simp only[CQ,Ma,Pg];cases hj:ops[j]? with
 |none=>simp[Ks,DM,Bu]
 |some o=>
  cases hd:o.dst with
  |none=>simp[Ks,DM,Bu,hd]
  |some t=>
   simp only[I7,hd,El,Ks];cases hv:Bm.get e t with
   |d x=>cases x with
    |bool c=>
     simp only[DM];cases(c==want)<;>simp only[Bu,A6]
    |_=>rfl
   |ge vs=>cases vs<;>simp only[DM,Bu,A6]
   |_=>rfl
theorem k9(dst:Option Tmp)(op:Op)(st:St):DM C K fr ops b n al ps fps l i dst op st true Q (.d (.bool true))=Bu C K fr ops b n al ps fps l i Q (A4 C K fr ((b+i)::fr.π) op dst st):=rfl
theorem kx(dst:Option Tmp)(op:Op)(st:St):DM C K fr ops b n al ps fps l i dst op st false Q (.d (.bool false))=Bu C K fr ops b n al ps fps l i Q (A4 C K fr ((b+i)::fr.π) op dst st):=rfl
theorem k8(dst:Option Tmp)(op:Op):DM C K fr ops b n al ps fps l i dst op ⟨e,h,bs,ds⟩ true Q (.d (.bool false))=Gd C K fr ops b n al ps (fps++[⟨some [],some []⟩]) l (i+1) ⟨CY e dst (.ge []),h,bs,ds⟩ Q:=rfl
theorem k6(dst:Option Tmp)(op:Op):DM C K fr ops b n al ps fps l i dst op ⟨e,h,bs,ds⟩ false Q (.d (.bool true))=Gd C K fr ops b n al ps (fps++[⟨some [],some []⟩]) l (i+1) ⟨CY e dst (.ge []),h,bs,ds⟩ Q:=rfl
theorem cf(dst:Option Tmp)(op:Op)(want:Bool):DM C K fr ops b n al ps fps l i dst op ⟨e,h,bs,ds⟩ want Q (.ge [])=Gd C K fr ops b n al ps (fps++[⟨some [],some []⟩]) l (i+1) ⟨CY e dst (.ge []),h,bs,ds⟩ Q:=rfl
theorem WV{op:Op}(h1:t=true→DM C K fr ops b n al ps fps l i dst op st want Q (.d (.bool true)))(h2:t=false→DM C K fr ops b n al ps fps l i dst op st want Q (.d (.bool false))):DM C K fr ops b n al ps fps l i dst op st want Q (.d (.bool t)):=by
 cases t
 .exact h2 rfl
 .exact h1 rfl
theorem cd{op:Op}{p:Prop} [Decidable p](h1:p→DM C K fr ops b n al ps fps l i dst op st want Q (.d (.bool true)))(h2: ¬p→DM C K fr ops b n al ps fps l i dst op st want Q (.d (.bool false))):DM C K fr ops b n al ps fps l i dst op st want Q (.d (.bool (decide p))):=by
 by_cases hp:p
 .rw[Co hp];exact h1 hp
 .rw[CE hp];exact h2 hp
theorem k7(dst:Option Tmp)(op:Op)(st:St)(t:Bool):DM C K fr ops b n al ps fps l i dst op st false Q (.d (.bool (!t)))=DM C K fr ops b n al ps fps l i dst op st true Q (.d (.bool t)):=by
 cases t<;>rfl
theorem oC(dst:Option Tmp)(op:Op)(ty:TypeId)(pos:String)(af:Array Edge)(st:St):
 Gd C K fr ops b n al ps fps (⟨dst,op,ty,pos,af,none⟩::l) i st Q=Bu C K fr ops b n al ps fps l i Q (A4 C K fr ((b+i)::fr.π) op dst st):=by
 rw[VH];simp only[CQ,Ma]
theorem Ba(dst:Option Tmp)(op:Op)(r:Option CJ):Bu C K fr ops b n al ps fps l i Q (DJ fr op dst ⟨e,h,bs,ds⟩ r)=C8 C K fr ops b n al ps fps l i dst e h bs ds Q (E5 e.get h.get op) r:=by
 cases r with
 |none=>rfl
 |some x=>
  simp only[DJ,C8,J0,Bk,A6];cases hw:Jv fr.bv x.δ with
  |false=>simp[Bu]
  |true=>
   simp only[To,Lf,Bu]
theorem L0(dst:Option Tmp)(v:AV)(rd:List Id):C8 C K fr ops b n al ps fps l i dst e h bs ds Q rd (some ⟨v,[]⟩)=Gd C K fr ops b n al ps (fps++[⟨some rd,some []⟩]) l (i+1) ⟨CY e dst v,h,bs,ds⟩ Q:=by
 have:Jv fr.bv []=true:=by cases hp:fr.bv<;>rfl
 simp only[C8,this,To];rfl
theorem fB(dst:Option Tmp)(v:AV)(x:Id×Obj)(δ:AB)(rd:List Id):C8 C K fr ops b n al ps fps l i dst e h bs ds Q rd (some ⟨v,x::δ⟩)=(Jv fr.bv (x::δ)=true∧Gd C K fr ops b n al ps (fps++[⟨some rd,some (x.1::δ.map (·.1))⟩]) l (i+1) ⟨CY e dst v,h.puts (x::δ),bs,ds⟩ Q):=rfl
section
variable(dst:Option Tmp)(ρ:List Nat)
theorem ACY(x:Operand):Bu C K fr ops b n al ps fps l i Q (A4 C K fr ρ (.move x) dst ⟨e,h,bs,ds⟩)=Gd C K fr ops b n al ps (fps++[⟨some [],some []⟩]) l (i+1) ⟨CY e dst (ev e.get x),h,bs,ds⟩ Q:=by
 simp only[A4,evalOp,Ba,L0,E5]
theorem sE(x:Operand):Bu C K fr ops b n al ps fps l i Q (A4 C K fr ρ (.assign x) dst ⟨e,h,bs,ds⟩)=Gd C K fr ops b n al ps (fps++[⟨some [],some []⟩]) l (i+1) ⟨CY e dst (ev e.get x),h,bs,ds⟩ Q:=by
 simp only[A4,evalOp,Ba,L0,E5]
theorem ACZ(c x y:Operand):Bu C K fr ops b n al ps fps l i Q (A4 C K fr ρ (.pick c x y) dst ⟨e,h,bs,ds⟩)=C8 C K fr ops b n al ps fps l i dst e h bs ds Q ([]) (Ni (ev e.get c) (ev e.get x) (ev e.get y)):=by
 simp only[A4,evalOp,Ba,E5,Di,Op.operands,D2,GS,D9]
theorem yW(t:TypeId):Bu C K fr ops b n al ps fps l i Q (A4 C K fr ρ (.alloc t) dst ⟨e,h,bs,ds⟩)=C8 C K fr ops b n al ps fps l i dst e h bs ds Q ([]) (Jn ρ (C.T t)):=by
 simp only[A4,evalOp,Ba,E5,Di,Op.operands,D2,GS,D9]
theorem AEn(t:TypeId)(x:Operand):Bu C K fr ops b n al ps fps l i Q (A4 C K fr ρ (.box t x) dst ⟨e,h,bs,ds⟩)=C8 C K fr ops b n al ps fps l i dst e h bs ds Q ([]) (QY ρ (ev e.get x) (C.T t)):=by
 simp only[A4,evalOp,Ba,E5,Di,Op.operands,D2,GS,D9]
theorem yY(t:TypeId)(p:Array (Nat×Operand)):Bu C K fr ops b n al ps fps l i Q (A4 C K fr ρ (.build t p) dst ⟨e,h,bs,ds⟩)=C8 C K fr ops b n al ps fps l i dst e h bs ds Q ([]) (Jo (EI e.get p) (C.T t)):=by
 simp only[A4,evalOp,Ba,E5,Di,Op.operands,D2,GS,D9]
theorem WH(t:TypeId)(m:Nat)(p:Array (Nat×Operand)):Bu C K fr ops b n al ps fps l i Q (A4 C K fr ρ (.buildSlice t m p) dst ⟨e,h,bs,ds⟩)=C8 C K fr ops b n al ps fps l i dst e h bs ds Q (E5 e.get h.get (.buildSlice t m p)) (Cd C.T h.get ρ m (EI e.get p) (C.T t)):=by
 simp only[A4,evalOp,Ba]
theorem ACX(t:TypeId)(a:Operand):Bu C K fr ops b n al ps fps l i Q (A4 C K fr ρ (.load t a) dst ⟨e,h,bs,ds⟩)=C8 C K fr ops b n al ps fps l i dst e h bs ds Q (AD (ev e.get a)) (Kz h.get (ev e.get a) (C.T t)):=by
 simp only[A4,evalOp,Ba,E5,Di,Op.operands,D2,GS,D9]
theorem yb(t:TypeId)(a x:Operand):Bu C K fr ops b n al ps fps l i Q (A4 C K fr ρ (.store t a x) dst ⟨e,h,bs,ds⟩)=C8 C K fr ops b n al ps fps l i dst e h bs ds Q (AD (ev e.get a)++AD (ev e.get x)) (IX h.get (ev e.get a) (ev e.get x) (C.T t)):=by
 simp only[A4,evalOp,Ba,E5,Di,Op.operands,D2,GS,D9]
theorem br(x:Operand):Bu C K fr ops b n al ps fps l i Q (A4 C K fr ρ (.nilCheck x) dst ⟨e,h,bs,ds⟩)=C8 C K fr ops b n al ps fps l i dst e h bs ds Q ([]) (GM (ev e.get x)):=by
 simp only[A4,evalOp,Ba,E5,Di,Op.operands,D2,GS,D9]
theorem yX(op:BinOp)(t:TypeId)(x y:Operand)(u:TypeId):Bu C K fr ops b n al ps fps l i Q (A4 C K fr ρ (.binOp op t x y u) dst ⟨e,h,bs,ds⟩)=C8 C K fr ops b n al ps fps l i dst e h bs ds Q ([]) ((iz (Yy x||Yy y) op (ev e.get x) (ev e.get y) (C.T t)).map (⟨·,[]⟩)):=by
 simp only[A4,evalOp,Ba,E5,Di,Op.operands,D2,GS,D9]
theorem bq(f:Fn)(first cap:Array Operand):Bu C K fr ops b n al ps fps l i Q (A4 C K fr ρ (.makeFunc f first cap) dst ⟨e,h,bs,ds⟩)=C8 C K fr ops b n al ps fps l i dst e h bs ds Q ([]) (GL f (first.toList.map (ev e.get)) (cap.toList.map (ev e.get))):=by
 simp only[A4,evalOp,Ba,E5,Di,Op.operands,D2,GS,D9]
theorem YI(t:TypeId)(x y:Operand):Bu C K fr ops b n al ps fps l i Q (A4 C K fr ρ (.makeSlice t x y) dst ⟨e,h,bs,ds⟩)=C8 C K fr ops b n al ps fps l i dst e h bs ds Q ([]) (Cn C.T h.get ρ (ev e.get x) (ev e.get y) (C.T t)):=by
 simp only[A4,evalOp,Ba,E5,Di,Op.operands,D2,GS,D9]
theorem ya(t:TypeId)(x:Operand)(lo hi mx:Option Operand):Bu C K fr ops b n al ps fps l i Q (A4 C K fr ρ (.slice t x lo hi mx) dst ⟨e,h,bs,ds⟩)=C8 C K fr ops b n al ps fps l i dst e h bs ds Q (E5 e.get h.get (.slice t x lo hi mx)) (Gy C.T h.get (ev e.get x) (lo.map (ev e.get)) (hi.map (ev e.get)) (mx.map (ev e.get)) (C.T t)):=by
 simp only[A4,evalOp,Ba]
theorem YG(t:TypeId)(x:Operand)(k:Nat):Bu C K fr ops b n al ps fps l i Q (A4 C K fr ρ (.fieldAddr t x k) dst ⟨e,h,bs,ds⟩)=C8 C K fr ops b n al ps fps l i dst e h bs ds Q ([]) (EY k (ev e.get x) (C.T t)):=by
 simp only[A4,evalOp,Ba,E5,Di,Op.operands,D2,GS,D9]
theorem YH(t:TypeId)(x y:Operand):Bu C K fr ops b n al ps fps l i Q (A4 C K fr ρ (.indexAddr t x y) dst ⟨e,h,bs,ds⟩)=C8 C K fr ops b n al ps fps l i dst e h bs ds Q (AD (ev e.get x)++AD (ev e.get y)) (C1 C.T h.get (ev e.get x) (ev e.get y) (C.T t)):=by
 simp only[A4,evalOp,Ba,E5,Di,Op.operands,D2,GS,D9]
theorem j5(x:Operand)(k:Nat):Bu C K fr ops b n al ps fps l i Q (A4 C K fr ρ (.extract x k) dst ⟨e,h,bs,ds⟩)=C8 C K fr ops b n al ps fps l i dst e h bs ds Q ([]) (HF k (ev e.get x)):=by
 simp only[A4,evalOp,Ba,E5,Di,Op.operands,D2,GS,D9]
theorem j4(f:Builtin)(az:Array Operand)(ts:Array TypeId):Bu C K fr ops b n al ps fps l i Q (A4 C K fr ρ (.call ⟨.builtin f,az,ts⟩) dst ⟨e,h,bs,ds⟩)=C8 C K fr ops b n al ps fps l i dst e h bs ds Q (E5 e.get h.get (.call ⟨.builtin f,az,ts⟩)) (GX C.T h.get ρ f (az.toList.map (ev e.get)) ts.toList):=by
 simp only[A4,J3,Ba]
theorem yZ(x:Operand):Bu C K fr ops b n al ps fps l i Q (A4 C K fr ρ (.panic x) dst ⟨e,h,bs,ds⟩)=Bu C K fr ops b n al ps fps l i Q (Fw ⟨e,h,bs,ds⟩ (ev e.get x)):=rfl
def DT(C:CZ)(K:AN)(fr:Fr)(ops:Array Oper)(b n:Nat)(al:Nat→Bool)(ps:List (Nat×Nat))(fps:List Fp)(l:List Oper)(i:Nat)(az:List AV)(dst:Option Tmp)(e:Bm)(h:AB)(bs:Nat)(ds:List Df)(Q:Dx→St→Prop)(r:E (Ae×AB)):Prop:=
 Bu C K fr ops b n al ps fps l i Q (DQ fr az dst ⟨e,h,bs,ds⟩ r)
def Xh(C:CZ)(K:AN)(fr:Fr)(ops:Array Oper)(b n:Nat)(al:Nat→Bool)(ps:List (Nat×Nat))(fps:List Fp)(l:List Oper)(i:Nat)(dst:Option Tmp)(ρ:List Nat)(e:Bm)(h:AB)(bs:Nat)(ds:List Df)(Q:Dx→St→Prop)(args:List AV):AV→Prop
 |fv=>Bu C K fr ops b n al ps fps l i Q (EB C K fr ρ fv args dst ⟨e,h,bs,ds⟩)
theorem yc(f:Operand)(az:Array Operand)(ts:Array TypeId):Bu C K fr ops b n al ps fps l i Q (A4 C K fr ρ (.call ⟨.value f,az,ts⟩) dst ⟨e,h,bs,ds⟩)=Xh C K fr ops b n al ps fps l i dst ρ e h bs ds Q (az.toList.map (ev e.get)) (ev e.get f):=rfl
def K7(C:CZ)(K:AN)(fr:Fr)(ops:Array Oper)(b n:Nat)(al:Nat→Bool)(ps:List (Nat×Nat))(fps:List Fp)(l:List Oper)(i:Nat)(dst:Option Tmp)(ρ:List Nat)(e:Bm)(h:AB)(bs:Nat)(ds:List Df)(Q:Dx→St→Prop)(f:FuncId)(az:List AV)(m:Mode):Prop:=
 Bu C K fr ops b n al ps fps l i Q (DX K fr ρ f az dst ⟨e,h,bs,ds⟩ m)
theorem rA(f:FuncId)(first cap args:List AV):Xh C K fr ops b n al ps fps l i dst ρ e h bs ds Q args (.fn f first cap)=K7 C K fr ops b n al ps fps l i dst ρ e h bs ds Q f (first++args++cap) (C.mode f):=by
 simp only[Xh,K7,EB,BH]
def kM(C:CZ)(K:AN)(fr:Fr)(ops:Array Oper)(b n:Nat)(al:Nat→Bool)(ps:List (Nat×Nat))(fps:List Fp)(l:List Oper)(i:Nat)(dst:Option Tmp)(e:Bm)(h:AB)(bs:Nat)(ds:List Df)(Q:Dx→St→Prop)(f:FuncId)(az:List AV)(own:List Nat):Option (List AV)→Prop
 |some xs=>DT C K fr ops b n al ps fps l i az dst e h bs ds Q (K (.fn f) xs [] own false none)
 |none=>False
theorem dM(f:FuncId)(az:List AV)(hx:(Dr h.get az).isSome):K7 C K fr ops b n al ps fps l i dst ρ e h bs ds Q f az .auto=kM C K fr ops b n al ps fps l i dst e h bs ds Q f az [] (Dr h.get az):=by
 obtain⟨xs,hx⟩:=Ip.1 hx;simp only[K7,DX,hx,BH,kM,DT]
theorem np(f:FuncId)(az:List AV)(hx:(Dr h.get az).isSome):K7 C K fr ops b n al ps fps l i dst ρ e h bs ds Q f az .own=kM C K fr ops b n al ps fps l i dst e h bs ds Q f az ρ (Dr h.get az):=by
 obtain⟨xs,hx⟩:=Ip.1 hx;simp only[K7,DX,hx,BH,kM,DT]
theorem kN(f:FuncId)(az:List AV)(own:List Nat)(xs:List AV):kM C K fr ops b n al ps fps l i dst e h bs ds Q f az own (some xs)=DT C K fr ops b n al ps fps l i az dst e h bs ds Q (BJ K f xs own):=by
 simp only[kM,DT,Qc]
theorem fF(az:List AV)(v:AV)(h':AB)(hv:flat v=true):DT C K fr ops b n al ps fps l i az dst e h bs ds Q (.ok (.ret v,h'))=Gd C K fr ops b n al ps (fps++[⟨some (Cp h.get (A5 az)),some []⟩]) l (i+1) ⟨CY e dst v,h,bs,ds⟩ Q:=by
 simp only[DT,DQ,A6,hv,Bu]
theorem VN(az:List AV)(v:AV)(h':AB)(hv:flat v=true):DT C K fr ops b n al ps fps l i az dst e h bs ds Q (.ok (.f9 v,h'))=(al i=true∧Dg fps ps=true∧Q (.f9 v) ⟨e,h,b+n,ds⟩):=by
 simp only[DT,DQ,hv,Bu]
theorem o7(az:List AV)(v:AV)(h':AB)(x:Id×Obj)(hv:flat v=false)(hx:BT v h'=some x):DT C K fr ops b n al ps fps l i az dst e h bs ds Q (.ok (.ret v,h'))=Gd C K fr ops b n al ps (fps++[⟨some (Cp h.get (A5 az)),some [x.1]⟩]) l (i+1) ⟨CY e dst v,x::h,bs,ds⟩ Q:=by
 simp only[DT,DQ,A6,hv,HY,hx,Af,Bu]
theorem VM(az:List AV)(v:AV)(h':AB)(hv:flat v=false)(hx:BT v h'=none):DT C K fr ops b n al ps fps l i az dst e h bs ds Q (.ok (.ret v,h'))=(Jv fr.bv (az.flatMap (mark h.get))=true∧Gd C K fr ops b n al ps (fps++[⟨some (Cp h.get (A5 az)),some ((az.flatMap (mark h.get)).map (·.1)++h'.map (·.1))⟩]) l (i+1) ⟨CY e dst v,h'++h.puts (az.flatMap (mark h.get)),bs,ds⟩ Q):=by
 simp only[DT,DQ,A6,hv,HY,hx,Af,Bk];cases hw:Jv fr.bv (az.flatMap (mark h.get))<;>simp[Bu]
end
variable{α:Type}{f:α→List AZ}{sz:Nat}{dst:Option Tmp}
theorem ou{l':List α}{j:Nat}{rd:List Id}(hj:j<l'.length)(hx: ∀x,l'[j]? =some x→C8 C K fr ops b n al ps fps l i dst e h bs ds Q rd (SV sz (some (f x)))):C8 C K fr ops b n al ps fps l i dst e h bs ds Q rd (SV sz (Option.map f l'[j]?)):=by
 have:=hx l'[j] (BY hj)
 rwa [BY hj]
theorem Zm(fps:List Fp):Dg fps []=true:=rfl
def qj:Option Fp→Option Fp→Bool
 |some a,some c=>a.apart c
 |_,_=>true
theorem XV(a c:Fp):qj (some a) (some c)=a.apart c:=rfl
theorem Wy(fps:List Fp)(i j:Nat)(l:List (Nat×Nat)):Dg fps ((i,j)::l)=(qj fps[i]? fps[j]? &&Dg fps l):=by
 simp only[Dg,D3];rfl
theorem X5(g:G):Cp g []=[]:=rfl
theorem ij(x:Option (List Id)):Abs.apart (some []) x=true:=by cases x<;>simp[Abs.apart]
theorem a9(x:Option (List Id)):Abs.apart x (some [])=true:=by
 unfold Abs.apart;split<;>first|rfl|simp_all
theorem Tn(g:G)(e:Nat→AV)(t:TypeId)(m:Nat)(p:Array (Nat×Operand)):E5 e g (.buildSlice t m p)=(p.toList.map (·.2)).flatMap fun y=>AD (ev e y):=by
 simp only[E5,Di,Op.operands]
theorem vt(g:G)(e:Nat→AV)(t:TypeId)(x:Operand)(lo hi mx:Option Operand):E5 e g (.slice t x lo hi mx)=(x::(lo.toList++hi.toList++mx.toList)).flatMap fun y=>AD (ev e y):=by
 simp[E5,Di,Op.operands]
theorem ADn(g:G)(e:Nat→AV)(az:Array Operand)(ts:Array TypeId):E5 e g (.call ⟨.builtin .len,az,ts⟩)=az.toList.flatMap fun y=>AD (ev e y):=by
 simp[E5,Di,Op.operands,Call.operands]
theorem pJ(g:G)(e:Nat→AV)(az:Array Operand)(ts:Array TypeId):E5 e g (.call ⟨.builtin .append,az,ts⟩)=Cp g (az.toList.flatMap fun y=>AD (ev e y)):=by
 simp[E5,Di,Op.operands,Call.operands]
theorem ADo(g:G)(e:Nat→AV)(az:Array Operand)(ts:Array TypeId):E5 e g (.call ⟨.builtin .max,az,ts⟩)=[]:=rfl
theorem ADp(g:G)(e:Nat→AV)(az:Array Operand)(ts:Array TypeId):E5 e g (.call ⟨.builtin .min,az,ts⟩)=[]:=rfl
attribute [go_sem] VN VM
attribute [go_sem] vO vd k9 kx k8 k6 k7 cf oC L0 fB ACY sE ACZ yW AEn yY WH ACX yb br yX bq YI ya YG YH j5 j4 yZ yc rA dM np kN fF Zm XV Wy X5 ij a9 Tn vt ADn pJ ADo ADp Fp.apart List.flatMap_cons List.flatMap_nil
variable{P:Program}{C:CZ}{K:AN}{fr:Fr}{b n i:Nat}{Q:Dx→St→Prop}
variable{ops:Array Oper}{al:Nat→Bool}{l:List Oper}{e:Bm}{h:AB}{bs:Nat}{ds:List Df}
theorem is_iff: ∀{a b:Id},Id.is a b=true↔a=b:=fun{a b}=>⟨Id.is_eq,fun h=>by subst h;exact is_self a⟩
theorem AE{a b:Id}(h:a≠b):Id.is a b=false:=by
 cases hx:Id.is a b with
 |false=>rfl
 |true=>exact absurd (is_iff.1 hx) h
variable{ρ:Id}
theorem under_iff: ∀{id:Id},Id.under ρ id=true↔ρ<:+id
 |[]=>by
  simp only[Id.under,is_iff,List.suffix_nil]
 |m::l=>by
  rw[ID];unfold Id.under;cases hx:Id.is ρ (m::l)with
  |true=>simp[is_iff.1 hx]
  |false=>
   have:ρ≠m::l:=fun h=>by rw[is_iff.2 h]at hx;cases hx
   simp only[this,false_or];exact under_iff
theorem EZ{id:Id}(h: ¬ρ<:+id):Id.under ρ id=false:=by
 cases hx:Id.under ρ id with
 |false=>rfl
 |true=>exact absurd (under_iff.1 hx) h
theorem get_put(h:AB)(id:Id)(o:Obj)(id':Id):AB.get (AB.put h id o) id'=if Id.is id id'=true then some o else AB.get h id':=by
 induction h with
 |nil=>simp only[iL,Bd]
 |cons p h ih=>
  obtain⟨k,x⟩:=p;rw[Zy];by_cases hk:Id.is k id=true
  .rw[DO hk,Bd,Bd];have:=is_iff.1 hk;subst this;split<;>rfl
  .rw[CS hk,Bd,Bd,ih];by_cases h1:Id.is k id'=true
   .rw[DO h1,DO h1];have:=is_iff.1 h1;subst this;rw[CS fun h2=>hk (is_iff.2 (is_iff.1 h2).symm)]
   .rw[CS h1,CS h1]
theorem SH(q:Id→Bool)(h:AB)(id:Id)(hq:q id=true):AB.get (List.filter (fun p=>q p.1) h) id=AB.get h id:=by
 induction h with
 |nil=>rfl
 |cons p h ih=>
  obtain⟨k,x⟩:=p;rw[Bd,Rx];by_cases hk:Id.is k id=true
  .have:=is_iff.1 hk;subst this;simp only[hq,F3,Bd,hk]
  .rw[CS hk,←ih];split
   .rw[Bd,CS hk]
   .rfl
theorem Ab(ρ:List Nat)(h:AB)(id:Id)(hid:Id.under ρ id=false):AB.get (gc ρ h) id=AB.get h id:=by
 refine SH (fun id=>match id with|0::l=> !Id.under ρ l|_=>true) h id ?_
 split
 .rename_i l;have: ¬ρ<:+l:=fun h1=>by
   have:=under_iff.2 (h1.trans (Es 0 l));rw[hid]at this;cases this
  rw[EZ this];rfl
 .rfl
def Tm(C:CZ)(K:AN)(fr:Fr)(ops:Array Oper)(b n:Nat)(al:Nat→Bool)(l:List Oper)(i:Nat)(dst:Option Tmp)(ρ:List Nat)(e:Bm)(h:AB)(bs:Nat)(ds:List Df)(Q:Dx→St→Prop):E (Ae×AB)→Prop
 |.ok (.ret v,h')=>Fe C K fr ops b n al l (i+1) ⟨CY e dst v,gc ρ h',bs,ds⟩ Q
 |.ok (.f9 v,h')=>al i=true∧Q (.f9 v) ⟨e,gc ρ h',b+n,ds⟩
 |.err _=>False
theorem P9(dst:Option Tmp)(ρ:List Nat)(r:E (Ae×AB)):BP C K fr ops b n al l i Q (EG ρ dst ⟨e,h,bs,ds⟩ r)=Tm C K fr ops b n al l i dst ρ e h bs ds Q r:=by
 cases r with
 |err l=>rfl
 |ok r=>
  obtain⟨o,h'⟩:=r;cases o<;>simp only[EG,A6,Af,BP,Tm]
theorem vo(dst:Option Tmp)(ρ:List Nat)(v:AV)(h':AB):Tm C K fr ops b n al l i dst ρ e h bs ds Q (.ok (.ret v,h'))=Fe C K fr ops b n al l (i+1) ⟨CY e dst v,gc ρ h',bs,ds⟩ Q:=rfl
theorem vn(dst:Option Tmp)(ρ:List Nat)(v:AV)(h':AB):Tm C K fr ops b n al l i dst ρ e h bs ds Q (.ok (.f9 v,h'))=(al i=true∧Q (.f9 v) ⟨e,gc ρ h',b+n,ds⟩):=rfl
theorem nu(dst:Option Tmp)(ρ:List Nat)(f:FuncId)(az:List AV):K8 C K fr ops b n al l i dst ρ e h bs ds Q f az .raw=Tm C K fr ops b n al l i dst ρ e h bs ds Q (K (.fn f) az h ρ true fr.bv):=by
 simp only[K8,DX,P9]
theorem AX{Post:Ae→AB→Prop}{ρ:List Nat}{q:E (Ae×AB)}(hk: ∃o h',q=.ok (o,h')∧Post o h')(hn: ∀o h',Post o h'→Tm C K fr ops b n al l i dst ρ e h bs ds Q (.ok (o,h'))):Tm C K fr ops b n al l i dst ρ e h bs ds Q q:=by
 obtain⟨o,h',e,hp⟩:=hk;rw[e];exact hn o h' hp
def wm(v:AV):Option AV→AV
 |some u=>u
 |none=>v
theorem wo(g:G):ME g []=[]:=rfl
theorem py(g:G)(v:AV)(vs:List AV):ME g (v::vs)=wm v (Ed g v)::ME g vs:=by
 simp only[ME,D8];cases Ed g v<;>rfl
theorem fw(v u:AV):wm v (some u)=u:=rfl
theorem fu(v:AV):wm v none=v:=rfl
theorem dQ(dst:Option Tmp)(ρ:List Nat)(f:FuncId)(az:List AV)(hx:(Dr h.get az).isNone):K8 C K fr ops b n al l i dst ρ e h bs ds Q f az .auto=(Jv fr.bv (az.flatMap (mark h.get))=true∧Tm C K fr ops b n al l i dst ρ e h bs ds Q (K (.fn f) (ME h.get az) (h.puts (az.flatMap (mark h.get))) ρ true fr.bv)):=by
 have hx:Dr h.get az=none:=by simpa using hx
 simp only[K8,DX,hx,E7,BH,Bk,Af];cases hw:Jv fr.bv (az.flatMap (mark h.get))with
 |true=>simp only[P9,To]
 |false=>simp[BP]
def roP(C:CZ)(K:AN)(fr:Fr)(ops:Array Oper)(b n:Nat)(al:Nat→Bool)(l:List Oper)(i:Nat)(dst:Option Tmp)(e:Bm)(h:AB)(bs:Nat)(ds:List Df)(Q:Dx→St→Prop):E (Ae×AB)→Prop
 |.ok (.ret v,_)=>flat v=true∧Fe C K fr ops b n al l (i+1) ⟨CY e dst v,h,bs,ds⟩ Q
 |.ok (.f9 v,_)=>flat v=true∧al i=true∧Q (.f9 v) ⟨e,h,b+n,ds⟩
 |.err _=>False
theorem ux(dst:Option Tmp)(ρ:List Nat)(f:FuncId)(az:List AV)(hx:(Dr h.get az).isNone):K8 C K fr ops b n al l i dst ρ e h bs ds Q f az .ro=roP C K fr ops b n al l i dst e h bs ds Q (K (.fn f) (ME h.get az) (h.puts (az.flatMap (mark h.get))) ρ true (some ρ)):=by
 have hx:Dr h.get az=none:=by simpa using hx
 simp only[K8,DX,hx,E7,BH,Bk,Af];cases K (.fn f) (ME h.get az) (h.puts (az.flatMap (mark h.get))) ρ true (some ρ)with
 |err l=>rfl
 |ok r=>
  obtain⟨o,h'⟩:=r;cases o<;>simp only[PA,roP,A6]<;>split<;>simp_all [BP]
theorem ACv(g:G)(x:AZ):mark g (.d x)=[]:=rfl
theorem nj(g:G):mark g .ci=[]:=rfl
theorem uq(g:G):mark g .emp=[]:=rfl
theorem uu(g:G)(id:Id)(off:Nat):mark g (.ptr id off)=[]:=rfl
theorem zf(g:G)(f:FuncId)(a c:List AV):mark g (.fn f a c)=[]:=rfl
theorem zg(g:G)(id:Id):mark g (.mp id)=[]:=rfl
theorem ur(g:G)(id:Id)(off m:Nat):mark g (.em id off m)=FW g (.em id off m):=by simp only[mark,KT,D2,GS,D9]
def uj(g:G):List AV→AB
 |[]=>[]
 |v::vs=>FW g v++uj g vs
theorem uo(g:G)(cs:List AV):mark g (.agg cs)=uj g cs:=by
 simp only[mark,KT];induction cs with
 |nil=>rfl
 |cons v vs ih=>rw[D2,ih];rfl
theorem za(g:G)(x:AZ):FW g (.d x)=[]:=rfl
theorem dF(g:G):FW g .ci=[]:=rfl
theorem nY(g:G):FW g .emp=[]:=rfl
theorem na(g:G)(id:Id)(off:Nat):FW g (.ptr id off)=[]:=rfl
theorem fx(ρ:Id)(n:Nat)(l:Id):Id.under ρ (n::l)=if Id.is ρ (n::l)=true then true else Id.under ρ l:=by
 conv=>lhs;unfold Id.under
 cases Id.is ρ (n::l)<;>rfl
theorem aa(n:Nat)(ρ:Id):Id.under (n::ρ) ρ=false:=EZ fun h=>by
 have:=h.length_le;simp at this;omega
theorem AF{id:Id}(h:Id.under ρ id=false)(n:Nat):Id.under (n::ρ) id=false:=EZ fun h1=>by
 rw[under_iff.2 ((Es n ρ).trans h1)]at h;cases h
theorem AG{ρ id:Id}(h:Id.under ρ id=false)(a n:Nat):Id.is (a::n::ρ) id=false:=AE fun h1=>by
 subst h1;rw[under_iff.2 ((Es n ρ).trans (Es a _))]at h;cases h
theorem Al{ρ id:Id}(h:Id.under ρ id=false)(a n:Nat):Id.is id (a::n::ρ)=false:=AE fun h1=>by
 subst h1;rw[under_iff.2 ((Es n ρ).trans (Es a _))]at h;cases h
theorem ACm(ρ:List Nat):gc ρ []=[]:=rfl
theorem zE(ρ:List Nat)(l:Id)(o:Obj)(h:AB):gc ρ ((0::l,o)::h)=if Id.under ρ l=true then gc ρ h else(0::l,o)::gc ρ h:=by
 simp only[gc,Rx];cases Id.under ρ l<;>rfl
theorem ACn(ρ:List Nat)(l:Id)(o:Obj)(h:AB):gc ρ ((1::l,o)::h)=(1::l,o)::gc ρ h:=rfl
attribute [go_sem] ACm zE ACn
def V5(C:CZ)(K:AN)(fr:Fr)(ops:Array Oper)(b n:Nat)(al:Nat→Bool)(l:List Oper)(i:Nat)(dst:Option Tmp)(e:Bm)(h:AB)(bs:Nat)(ds:List Df)(Q:Dx→St→Prop)(az:List AV):AV→Prop
 |.fn g [] []=>Fe C K fr ops b n al l (i+1) ⟨CY e dst .undef,h,bs,.call g az::ds⟩ Q
 |_=>False
theorem aU(dst:Option Tmp)(f:Operand)(az:Array Operand)(ts:Array TypeId)(hr:fr.wl=false):BP C K fr ops b n al l i Q (HQ fr e.get ⟨.value f,az,ts⟩ dst ⟨e,h,bs,ds⟩)=V5 C K fr ops b n al l i dst e h bs ds Q (az.toList.map (ev e.get)) (ev e.get f):=by
 simp only[HQ,hr];cases ev e.get f with
 |fn g a c=>
  cases a with
  |nil=>cases c<;>simp only[V5,BP]
  |cons x l=>simp only[V5,BP]
 |_=>rfl
theorem jY(dst:Option Tmp)(az:List AV)(g:FuncId):V5 C K fr ops b n al l i dst e h bs ds Q az (.fn g [] [])=Fe C K fr ops b n al l (i+1) ⟨CY e dst .undef,h,bs,.call g az::ds⟩ Q:=rfl
def cq(C:CZ)(bv:Option (List Nat))(l:List Df)(h:AB)(id:Id):Option (List AV)→E (Option AV×AB)
 |some cs=>C5 C bv l none (h.put id (.box cs))
 |none=>.err [20]
def Wc(C:CZ)(bv:Option (List Nat))(l:List Df)(h:AB)(id:Id)(off:Nat)(k:IntKind)(m:Int):Option Obj→E (Option AV×AB)
 |some (.box cs)=>cq C bv l h id (B6 cs off [.d (.int k m)])
 |_=>.err [21]
variable{bv:Option (List Nat)}{l:List Df}{h:AB}{off:Nat}{k:IntKind}{m:Int}
theorem Oh{f:FuncId}{t:TypeId}{id:Id}(hc:C.ol f=some t)(hw:Jv bv [(id,.box [])]=true):C5 C bv (.call f [.ptr id off]::l) (some (.iface t (.agg [.d (.int k m)]))) h=Wc C bv l h id off k m (h.get id):=by
 simp only[C5,hc,hw,Nat.beq_refl,Lt,Wc,cq];cases h.get id with
 |none=>rfl
 |some o=>cases o with
  |box cs=>simp only;cases B6 cs off [.d (.int k m)]<;>rfl
  |_=>rfl
theorem cr{f:FuncId}{id:Id}(hc:(C.ol f).isSome=true):C5 C bv (.call f [.ptr id off]::l) none h=C5 C bv l none h:=by
 obtain⟨t,ht⟩:=Ip.1 hc;simp only[C5,ht]
attribute [go_sem] aU jY Wc cq Oh cr
attribute [go_sem] Kx Hs GL HG Gy Hr appMix
attribute [go_sem] Ab fx aa
attribute [go_sem] get_put vo vn nu wo py fw fu dQ Option.isNone_some Option.isNone_none ux ACv nj uq uu zf zg uo uj za dF nY na
def sk:Option (List AZ)→Option (List (List AZ))→Option (List (List AZ))
 |some x,some xs=>some (x::xs)
 |_,_=>none
theorem Yg(x:List AZ)(xs:List (List AZ)):sk (some x) (some xs)=some (x::xs):=rfl
theorem kL(g:G):Cx g []=some []:=rfl
theorem SG(g:G)(v:List AV)(vs:List (List AV)):Cx g (v::vs)=sk (Ct g v) (Cx g vs):=by
 simp only[Cx];cases Ct g v<;>cases Cx g vs<;>rfl
def sc:Option AZ→Option (List AZ)→Option (List AZ)
 |some x,some xs=>some (x::xs)
 |_,_=>none
theorem Yc(x:AZ)(xs:List AZ):sc (some x) (some xs)=some (x::xs):=rfl
theorem kI(g:G):Ct g []=some []:=rfl
theorem SE(g:G)(v:AV)(vs:List AV):Ct g (v::vs)=sc (FB g v) (Ct g vs):=by
 simp only[Ct];cases FB g v<;>cases Ct g vs<;>rfl
def so(off m:Nat):Option Obj→Option AZ
 |some (.co _ es)=>(JZ es off m).map .be
 |some (.it _ es)=>(JZ es off m).map .be
 |_=>none
theorem sZ(g:G)(id:Id)(off m:Nat):FB g (.em id off m)=so off m (g id):=by
 simp only[FB];cases g id with
 |none=>rfl
 |some o=>cases o<;>rfl
theorem cU(off m sz:Nat)(es:List (List AZ)):so off m (some (.co sz es))=(JZ es off m).map .be:=rfl
theorem kQ(off m sz:Nat)(es:List (List AZ)):so off m (some (.it sz es))=(JZ es off m).map .be:=rfl
theorem SF(g:G)(l:List AZ):Ct g (l.map .d)=some l:=by
 induction l with
 |nil=>rfl
 |cons x l ih=>rw[D8,SE,ih];rfl
theorem JE(g:G)(l:List (List AZ)):Cx g (l.map (·.map .d))=some l:=by
 induction l with
 |nil=>rfl
 |cons x l ih=>rw[D8,SG,ih,SF];rfl
theorem dI(g:G):Bs g []=[]:=rfl
theorem QT(g:G)(v:AV)(vs:List AV):Bs g (v::vs)=Jk g v++Bs g vs:=rfl
theorem zb(g:G)(x:AZ):Jk g (.d x)=[]:=rfl
theorem dH(g:G):Jk g .ci=[]:=rfl
theorem nf(g:G):Jk g .emp=[]:=rfl
def uk(id:Id):Option Obj→AB
 |some (.co sz es)=>[(id,.it sz es)]
 |_=>[]
theorem nh(g:G)(id:Id)(off m:Nat):Jk g (.em id off m)=uk id (g id):=by
 simp only[Jk];cases g id with
 |none=>rfl
 |some o=>cases o<;>rfl
theorem dJ(id:Id)(sz:Nat)(es:List (List AZ)):uk id (some (.co sz es))=[(id,.it sz es)]:=rfl
theorem ni(id:Id)(sz:Nat)(es:List (List AZ)):uk id (some (.it sz es))=[]:=rfl
theorem QU(g:G)(l:List AZ):Bs g (l.map .d)=[]:=by
 induction l with
 |nil=>rfl
 |cons x l ih=>rw[D8,QT,ih];rfl
theorem Ho(g:G)(l:List (List AZ)):(l.map (·.map AV.d)).flatMap (Bs g)=[]:=by
 induction l with
 |nil=>rfl
 |cons x l ih=>rw[D8,D2,ih,QU];rfl
def E4(sz:Nat):List (List AV)→Bool
 |[]=>true
 |e::es=>decide (e.length=sz)&&(e.all AV.isCell&&E4 sz es)
theorem aK(sz:Nat):E4 sz []=true:=by simp only[E4]
theorem IY(sz:Nat)(e:List AV)(es:List (List AV)):E4 sz (e::es)=(decide (e.length=sz)&&(e.all AV.isCell&&E4 sz es)):=by simp only[E4]
theorem Nr(sz:Nat)(es:List (List AV)):(es.all fun e=>e.length==sz&&e.all AV.isCell)=E4 sz es:=by
 induction es with
 |nil=>rfl
 |cons e es ih=>rw[D3,ih,IY,Bool.and_assoc];rfl
theorem bc(l:List AZ):(l.map AV.d).all AV.isCell=true:=by
 induction l with
 |nil=>rfl
 |cons x l ih=>rw[D8,D3,ih];rfl
def ADb(newId:Id)(sz n:Nat)(marks:AB):Option (List (List AZ))→Option CJ
 |some ds=>some ⟨.em (1::newId) 0 n,marks++[(1::newId,.co sz ds)]⟩
 |none=>none
def vC(g:G)(newId:Id)(sz:Nat)(es:List (List AV)):Bool→Option CJ
 |true=>some ⟨.em (1::newId) 0 es.length,[(1::newId,.arr sz es)]⟩
 |false=>ADb newId sz es.length (es.flatMap (Bs g)) (Cx g es)
def ADa(g:G)(newId:Id)(sz:Nat)(mix:Bool)(es:List (List AV)):Bool→Option CJ
 |true=>vC g newId sz es mix
 |false=>none
theorem U7(g:G)(newId:Id)(j:TI)(es:List (List AV)):newArr g newId j es=ADa g newId j.size j.mix es (E4 j.size es&&decide (0<j.size)&&decide (es.length≤BA)):=by
 unfold newArr;rw[Nr,Gj,Vq];cases(E4 j.size es&&decide (0<j.size)&&decide (es.length≤BA))with
 |false=>rfl
 |true=>
  simp only[ADa];cases j.mix with
  |true=>rfl
  |false=>simp only[vC];cases Cx g es<;>rfl
theorem U6(g:G)(newId:Id)(sz:Nat)(mix:Bool)(es:List (List AV)):ADa g newId sz mix es true=vC g newId sz es mix:=rfl
theorem n9(g:G)(newId:Id)(sz:Nat)(es:List (List AV)):vC g newId sz es true=some ⟨.em (1::newId) 0 es.length,[(1::newId,.arr sz es)]⟩:=rfl
theorem SZ(g:G)(newId:Id)(sz:Nat)(es:List (List AV)):vC g newId sz es false=ADb newId sz es.length (es.flatMap (Bs g)) (Cx g es):=rfl
theorem U9(newId:Id)(sz n:Nat)(marks:AB)(ds:List (List AZ)):ADb newId sz n marks (some ds)=some ⟨.em (1::newId) 0 n,marks++[(1::newId,.co sz ds)]⟩:=rfl
def bH(g:G)(newId:Id)(j:TI)(n:Nat):Option (List AV)→Option CJ
 |some cs=>if n*j.size≤16777216∧j.zero.length=j.size then newArr g newId j (Gn j.size n cs)else none
 |none=>none
theorem TX(g:G)(newId:Id)(j:TI):Gl g newId 0 [] j=some ⟨.emp,[]⟩:=rfl
theorem TW(g:G)(newId:Id)(n:Nat)(ps:List (Nat×AV))(j:TI):Gl g newId (n+1) ps j=bH g newId j (n+1) (Ch (fun k=>some (k*j.size,j.size)) ((List.replicate (n+1) j.zero).flatten) ps):=by
 unfold Gl;cases Ch (fun k=>some (k*j.size,j.size)) ((List.replicate (n+1) j.zero).flatten) ps with
 |none=>rfl
 |some cs=>
  simp only[bH,Gj];have e:(2 ^ 24:Nat)=16777216:=by decide
  rw[e];by_cases h1:(n+1)*j.size≤16777216
  .by_cases h2:j.zero.length=j.size
   .simp[h1,h2]
   .have h3:(j.zero.length==j.size)=false:=by simpa using h2
    simp[h1,h2,h3]
  .simp[h1]
theorem Xg(g:G)(newId:Id)(j:TI)(n:Nat)(cs:List AV):bH g newId j n (some cs)=if n*j.size≤16777216∧j.zero.length=j.size then newArr g newId j (Gn j.size n cs)else none:=rfl
def qm(s:AV):Option CJ:=match s with
 |.ci=>some ⟨.ci,[]⟩
 |.emp=>some ⟨.emp,[]⟩
 |.em id off n=>some ⟨.em id off n,[]⟩
 |_=>none
theorem ik:qm .ci=some ⟨.ci,[]⟩:=rfl
theorem qn:qm .emp=some ⟨.emp,[]⟩:=rfl
theorem Xa(id:Id)(off n:Nat):qm (.em id off n)=some ⟨.em id off n,[]⟩:=rfl
def ACH(g:G)(newId:Id)(j:TI)(s:AV)(src:List (List AV)):Bool→Option CJ
 |true=>appTo g newId j s src
 |false=>none
def TT(g:G)(newId:Id)(j:TI)(s:AV):Option (List (List AV))→Option CJ
 |none=>none
 |some []=>qm s
 |some (e::es)=>ACH g newId j s (e::es) (E4 j.size (e::es)&&decide ((e::es).length≤BA)&&decide (0<j.size))
theorem bC(g:G)(newId:Id)(j:TI)(s x:AV):appendV g newId j s x=TT g newId j s (Dm g x):=by
 unfold appendV;cases Dm g x with
 |none=>rfl
 |some src=>
  cases src with
  |nil=>cases s<;>rfl
  |cons e es=>
   simp only[TT,←Nr,Gj,Vq];cases((e::es).all (fun e=>e.length==j.size&&e.all AV.isCell)&&decide ((e::es).length≤BA)&&decide (0<j.size))<;>rfl
theorem XX(g:G)(newId:Id)(j:TI)(s:AV):TT g newId j s (some [])=qm s:=rfl
theorem UA(g:G)(newId:Id)(j:TI)(s:AV)(e:List AV)(es:List (List AV)):TT g newId j s (some (e::es))=ACH g newId j s (e::es) (E4 j.size (e::es)&&decide ((e::es).length≤BA)&&decide (0<j.size)):=rfl
theorem Tz(g:G)(newId:Id)(j:TI)(s:AV)(src:List (List AV)):ACH g newId j s src true=appTo g newId j s src:=rfl
def XY(newId:Id)(id:Id)(off n sz:Nat)(es:List (List AZ))(marks:AB)(ds:List (List AZ)):Option (List (List AZ))→Option CJ
 |some es'=>some ⟨.em id off (n+ds.length),marks++[(id,.co sz es')]⟩
 |none=>if off=0∧n+ds.length≤BA then some ⟨.em (1::newId) 0 (n+ds.length),marks++[(id,.it 0 []),(1::newId,.co sz (es.take n++ds))]⟩else none
def ACI(newId:Id)(id:Id)(off n sz:Nat)(es:List (List AZ))(marks:AB):Option (List (List AZ))→Option CJ
 |some ds=>if Lx id marks=true then XY newId id off n sz es marks ds (B6 es (off+n) ds)else none
 |none=>none
theorem Rb(g:G)(newId:Id)(id:Id)(off n sz:Nat)(es:List (List AZ))(src:List (List AV)):appIn g newId id off n sz es src=ACI newId id off n sz es (src.flatMap (Bs g)) (Cx g src):=by
 unfold appIn ACI;cases Cx g src with
 |none=>rfl
 |some ds=>
  cases Lx id (src.flatMap (Bs g))with
  |false=>rfl
  |true=>
   simp only[F3,XY];cases B6 es (off+n) ds with
   |some es'=>rfl
   |none=>
    simp only[HL,Gj];by_cases h1:off=0<;>by_cases h2:n+ds.length≤BA<;>simp[h1,h2]
theorem PR(newId:Id)(id:Id)(off n sz:Nat)(es:List (List AZ))(marks:AB)(ds:List (List AZ)):ACI newId id off n sz es marks (some ds)=if Lx id marks=true then XY newId id off n sz es marks ds (B6 es (off+n) ds)else none:=rfl
theorem Ra(newId:Id)(id:Id)(off n sz:Nat)(es:List (List AZ))(marks:AB)(ds es':List (List AZ)):XY newId id off n sz es marks ds (some es')=some ⟨.em id off (n+ds.length),marks++[(id,.co sz es')]⟩:=rfl
theorem RZ(newId:Id)(id:Id)(off n sz:Nat)(es:List (List AZ))(marks:AB)(ds:List (List AZ)):XY newId id off n sz es marks ds none=if off=0∧n+ds.length≤BA then some ⟨.em (1::newId) 0 (n+ds.length),marks++[(id,.it 0 []),(1::newId,.co sz (es.take n++ds))]⟩else none:=rfl
theorem Pv(id:Id):Lx id []=true:=by simp[Lx]
def qk(g:G)(newId:Id)(j:TI)(id:Id)(off n:Nat)(src:List (List AV)):Option Obj→Option CJ
 |some (.co sz es)=>if sz=j.size∧off+n≤es.length then appIn g newId id off n sz es src else none
 |some (.arr sz es)=>if sz=j.size∧off+n≤es.length then appMix newId id off n sz es src else none
 |_=>none
theorem Re(g:G)(newId:Id)(j:TI)(src:List (List AV)):appTo g newId j .ci src=newArr g newId j src:=rfl
theorem il(g:G)(newId:Id)(j:TI)(src:List (List AV)):appTo g newId j .emp src=newArr g newId j src:=rfl
theorem PT(g:G)(newId:Id)(j:TI)(id:Id)(off n:Nat)(src:List (List AV)):appTo g newId j (.em id off n) src=qk g newId j id off n src (g id):=by
 simp only[appTo];cases g id with
 |none=>rfl
 |some o=>
  cases o with
  |co sz es=>
   simp only[qk,HL,Gj];by_cases h1:sz=j.size<;>by_cases h2:off+n≤es.length<;>simp[h1,h2]
  |arr sz es=>
   simp only[qk,HL,Gj];by_cases h1:sz=j.size<;>by_cases h2:off+n≤es.length<;>simp[h1,h2]
  |_=>rfl
theorem PS(g:G)(newId:Id)(j:TI)(id:Id)(off n:Nat)(src:List (List AV))(sz:Nat)(es:List (List AZ)):qk g newId j id off n src (some (.co sz es))=if sz=j.size∧off+n≤es.length then appIn g newId id off n sz es src else none:=rfl
theorem ql(g:G)(newId:Id)(j:TI)(id:Id)(off n:Nat)(src:List (List AV))(sz:Nat)(es:List (List AV)):qk g newId j id off n src (some (.arr sz es))=if sz=j.size∧off+n≤es.length then appMix newId id off n sz es src else none:=rfl
theorem jq(g:G)(es:List (List AZ)):Dm g (.d (.be es))=some (es.map (·.map .d)):=rfl
theorem bn(g:G):Dm g .ci=some []:=rfl
theorem jm(g:G):Dm g .emp=some []:=rfl
def ABH(off n:Nat):Option Obj→Option (List (List AV))
 |some (.co _ es)=>JZ (es.map (·.map .d)) off n
 |some (.it _ es)=>JZ (es.map (·.map .d)) off n
 |some (.arr _ es)=>JZ es off n
 |_=>none
theorem jr(g:G)(id:Id)(off n:Nat):Dm g (.em id off n)=ABH off n (g id):=by
 simp only[Dm];cases g id with
 |none=>rfl
 |some o=>cases o<;>rfl
theorem pb(off n sz:Nat)(es:List (List AZ)):ABH off n (some (.co sz es))=JZ (es.map (·.map .d)) off n:=rfl
theorem wI(off n sz:Nat)(es:List (List AZ)):ABH off n (some (.it sz es))=JZ (es.map (·.map .d)) off n:=rfl
theorem wH(off n sz:Nat)(es:List (List AV)):ABH off n (some (.arr sz es))=JZ es off n:=rfl
def uY(ok:Bool)(r:Option AV):Option TI→Option CJ
 |some j=>Kt ok r j
 |none=>none
def iB(T:TypeId→Option TI)(i:TI)(ok:Bool):Option (Option AV)→Option CJ
 |some r=>uY ok r (T i.elem)
 |none=>none
def hZ(T:TypeId→Option TI)(x:AZ)(ok:Bool)(i:TI):Option Obj→Option CJ
 |some (.map es)=>iB T i ok (Cv es x)
 |_=>none
def hQ(T:TypeId→Option TI)(g:G)(id:Id)(x:AZ)(ok:Bool)(i:TI):Bool→Option CJ
 |true=>hZ T x ok i (g id)
 |false=>none
def uU(T:TypeId→Option TI)(g:G)(id:Id)(x:AZ)(ok:Bool)(i:TI):TK→Option TI→Option CJ
 |.map,some kt=>hQ T g id x ok i (Jj kt.kind x)
 |_,_=>none
theorem ZM(T:TypeId→Option TI)(g:G)(id:Id)(x:AZ)(ok:Bool)(i:TI):FI T g (.mp id) (.d x) ok (some i)=uU T g id x ok i i.kind (T i.key):=by
 unfold FI;simp only[LX];cases hk:i.kind with
 |map=>
  cases T i.key with
  |none=>rfl
  |some kt=>
   simp only[uU];cases Jj kt.kind x with
   |false=>rfl
   |true=>
    simp only[hQ];cases g id with
    |none=>rfl
    |some o=>
     cases o with
     |map es=>
      simp only[hZ];cases Cv es x with
      |none=>rfl
      |some r=>
       simp only[iB];cases T i.elem<;>rfl
     |_=>rfl
 |_=>rfl
theorem nF(T:TypeId→Option TI)(g:G)(id:Id)(x:AZ)(ok:Bool)(i kt:TI):uU T g id x ok i .map (some kt)=hQ T g id x ok i (Jj kt.kind x):=rfl
theorem cv(T:TypeId→Option TI)(g:G)(id:Id)(x:AZ)(ok:Bool)(i:TI):hQ T g id x ok i true=hZ T x ok i (g id):=rfl
theorem nG(T:TypeId→Option TI)(x:AZ)(ok:Bool)(i:TI)(es:List (AZ×AV)):hZ T x ok i (some (.map es))=iB T i ok (Cv es x):=rfl
theorem cw(T:TypeId→Option TI)(ok:Bool)(i:TI)(r:Option AV):iB T i ok (some r)=uY ok r (T i.elem):=rfl
theorem cy(ok:Bool)(r:Option AV)(j:TI):uY ok r (some j)=Kt ok r j:=rfl
theorem uV(v:AV)(j:TI):Kt false (some v) j=some ⟨v,[]⟩:=by
 unfold Kt;cases FX j.agg j.zero<;>rfl
def uZ(ok:Bool):Option AV→Option CJ
 |some z=>match ok with
  |true=>some ⟨.ge [z,.d (.bool false)],[]⟩
  |false=>some ⟨z,[]⟩
 |none=>none
theorem uX(ok:Bool)(j:TI):Kt ok none j=uZ ok (FX j.agg j.zero):=by
 unfold Kt;cases FX j.agg j.zero<;>cases ok<;>rfl
theorem zV(z:AV):uZ true (some z)=some ⟨.ge [z,.d (.bool false)],[]⟩:=rfl
theorem zU(z:AV):uZ false (some z)=some ⟨z,[]⟩:=rfl
theorem dB(x:AZ):Cv [] x=some none:=rfl
attribute [go_sem] ZM nF cv nG cw cy uV uX zV zU Jj dB
variable{g:G}
theorem fe{l:List α}(hf: ∀a,(f a).length=sz)(h0:0≤m)(hm:m≤l.length):EU g .slice sz (.d (.be (l.map f))) none (some (.d (.int k m))) none=some (.d (.be ((l.take m.toNat).map f))):=by
 have hb:DI none (some (.d (.int k m))) none (l.map f).length=some (0,m.toNat,none):=by
  simp[DI,Gk,HC,h0]
 have he:Kl sz (l.map f)=true:=by
  cases l with
  |nil=>rfl
  |cons a l=>simp only[D8,Kl,HL,Ap];exact hf a
 show L9 sz (l.map f) (DI none (some (.d (.int k m))) none (l.map f).length)=_;rw[hb];have hr:Nat.ble m.toNat (l.map f).length=true:=by rw[Gj];simp;omega
 simp only[L9,hr,he,Lw,List.drop_zero,Nat.sub_zero,S1]
def stP(id:Id)(off:Nat)(cells:List AV):Option Obj→Option CJ
 |some (.box cs)=>(B6 cs off cells).map fun cs'=>⟨.undef,[(id,.box cs')]⟩
 |_=>none
def stD(id:Id)(k off sz:Nat)(es:List (List AZ))(marks:AB):Option (List AZ)→Option (List AZ)→Option CJ
 |some e,some ds=>if Lx id marks=true then(B6 e off ds).map fun e'=>⟨.undef,marks++[(id,.co sz (es.set k e'))]⟩else none
 |_,_=>none
def stA(id:Id)(k off sz:Nat)(es:List (List AV))(cells:List AV):Option (List AV)→Option CJ
 |some e=>(B6 e off cells).map fun e'=>⟨.undef,[(id,.arr sz (es.set k e'))]⟩
 |none=>none
def stE(g:G)(id:Id)(k off:Nat)(cells:List AV):Option Obj→Option CJ
 |some (.co sz es)=>stD id k off sz es (Bs g cells) es[k]? (Ct g cells)
 |some (.arr sz es)=>stA id k off sz es cells es[k]?
 |_=>none
theorem pq(g:G)(i:TI)(id:Id)(off:Nat)(v:AV):JW g i (.ptr id off) v=if v.cells.length=i.size∧v.cells.all AV.isCell=true then stP id off v.cells (g id)else none:=by
 unfold JW;by_cases h:v.cells.length=i.size∧v.cells.all AV.isCell=true
 .have:(v.cells.length==i.size&&v.cells.all AV.isCell)=true:=by simp[h.1,h.2]
  rw[this,DO h];simp only;cases g id with
  |none=>rfl
  |some o=>cases o<;>rfl
 .have:(v.cells.length==i.size&&v.cells.all AV.isCell)=false:=by
   rw[QR];by_cases h1:v.cells.length=i.size
   .exact .inr (by simpa using fun h2=>h ⟨h1,h2⟩)
   .exact .inl (by simpa using h1)
  rw[this,CS h]
theorem ft(g:G)(i:TI)(id:Id)(k off:Nat)(v:AV):JW g i (.i6 id k off) v=if v.cells.length=i.size∧v.cells.all AV.isCell=true then stE g id k off v.cells (g id)else none:=by
 unfold JW;by_cases h:v.cells.length=i.size∧v.cells.all AV.isCell=true
 .have:(v.cells.length==i.size&&v.cells.all AV.isCell)=true:=by simp[h.1,h.2]
  rw[this,DO h];simp only;cases g id with
  |none=>rfl
  |some o=>
   cases o with
   |co sz es=>
    simp only[stE,stD];cases es[k]? with
    |none=>cases Ct g v.cells<;>rfl
    |some e=>
     cases Ct g v.cells with
     |none=>rfl
     |some ds=>cases Lx id (Bs g v.cells)<;>rfl
   |arr sz es=>
    simp only[stE,stA];cases es[k]? <;>rfl
   |_=>rfl
 .have:(v.cells.length==i.size&&v.cells.all AV.isCell)=false:=by
   rw[QR];by_cases h1:v.cells.length=i.size
   .exact .inr (by simpa using fun h2=>h ⟨h1,h2⟩)
   .exact .inl (by simpa using h1)
  rw[this,CS h]
theorem ABL(id:Id)(off:Nat)(cells cs:List AV):stP id off cells (some (.box cs))=(B6 cs off cells).map fun cs'=>⟨.undef,[(id,.box cs')]⟩:=rfl
theorem wa(g:G)(id:Id)(k off sz:Nat)(cells:List AV)(es:List (List AZ)):stE g id k off cells (some (.co sz es))=stD id k off sz es (Bs g cells) es[k]? (Ct g cells):=rfl
theorem ABK(g:G)(id:Id)(k off sz:Nat)(cells:List AV)(es:List (List AV)):stE g id k off cells (some (.arr sz es))=stA id k off sz es cells es[k]? :=rfl
theorem wZ(id:Id)(k off sz:Nat)(es:List (List AZ))(marks:AB)(e ds:List AZ):stD id k off sz es marks (some e) (some ds)=if Lx id marks=true then(B6 e off ds).map fun e'=>⟨.undef,marks++[(id,.co sz (es.set k e'))]⟩else none:=rfl
theorem wY(id:Id)(k off sz:Nat)(es:List (List AV))(cells e:List AV):stA id k off sz es cells (some e)=(B6 e off cells).map fun e'=>⟨.undef,[(id,.arr sz (es.set k e'))]⟩:=rfl
attribute [go_sem] pq ft ABL wa ABK wZ wY
def mkS(g:G)(newId:Id)(n:Int):TK→Option TI→Option CJ
 |.slice,some j=>if 0≤n∧n≤BA then Fz g newId n.toNat j else none
 |_,_=>none
theorem zZ(T:TypeId→Option TI)(g:G)(newId:Id)(k k':IntKind)(n:Int)(i:TI):Cn T g newId (.d (.int k n)) (.d (.int k' n)) (some i)=mkS g newId n i.kind (T i.elem):=by
 obtain⟨kd,sz,ag,st,z,fl,el,ky,mx⟩:=i;unfold Cn;simp only;cases kd with
 |slice=>
  cases T el with
  |none=>rfl
  |some j=>simp only[mkS,To]
 |_=>rfl
theorem AC0(g:G)(newId:Id)(n:Int)(j:TI):mkS g newId n .slice (some j)=if 0≤n∧n≤BA then Fz g newId n.toNat j else none:=rfl
def xc:List AV→Option (List AZ)
 |[]=>some []
 |.d x::l=>(xc l).map (x:: ·)
 |_=>none
theorem XT: ∀{l:List AV} {ds:List AZ},xc l=some ds→l=ds.map .d
 |[],ds,h=>by cases h;rfl
 |v::l,ds,h=>by
  cases v<;>simp[xc]at h;obtain⟨ds',h1,rfl⟩:=h;rw[XT h1];rfl
theorem Po{newId:Id}{n:Nat}{j:TI}{zs:List AZ}(hn:0<n)(hmax:n≤BA)(hz:xc j.zero=some zs)(hl:j.zero.length=j.size)(h0:0<j.size)(hm:j.mix=false):Fz g newId n j=some ⟨.em (1::newId) 0 n,[(1::newId,.co j.size (List.replicate n zs))]⟩:=by
 obtain⟨m,rfl⟩: ∃m,n=m+1:=⟨n-1,by omega⟩;have e:=XT hz;have e2:List.replicate (m+1) j.zero=(List.replicate (m+1) zs).map (·.map AV.d):=by rw[OP,e]
 show newArr g newId j (List.replicate (m+1) j.zero)=_;rw[U7,e2];have h1:E4 j.size ((List.replicate (m+1) zs).map (·.map AV.d))=true:=by
  have hz2:zs.length=j.size:=by rw[←hl,e];simp
  generalize m+1=k;induction k with
  |zero=>simp[E4]
  |succ k ih=>rw[RT,D8,IY,ih,bc,BI,hz2];simp
 rw[h1,Co h0];have h2:((List.replicate (m+1) zs).map (·.map AV.d)).length≤BA:=by simpa using hmax
 rw[Co h2,hm];simp only[Lw,U6,SZ,JE,Ho,U9,Gc,BI,I0]
theorem nT(g:G)(newId:Id)(j:TI):Fz g newId 0 j=some ⟨.emp,[]⟩:=rfl
theorem Og{n:Nat}(h:n≤1073741824):((n:Int)≤(BA:Int))=True:=eq_true (by unfold BA;omega)
attribute [go_sem] zZ AC0 nT Nat.zero_add
attribute [go_sem] Option.map_none Yg kL SG Yc kI SE sZ cU kQ SF JE dI QT zb dH nf nh dJ ni QU Ho aK IY U7 U6 n9 SZ U9 TX TW Xg ik qn Xa bC XX UA Tz Rb PR Ra RZ Pv Re il PT PS ql jq bn jm jr pb wI wH Nat.one_mul Nat.mul_one Nat.reduceMul
end Go.Abs
namespace Go.Abs
variable{C:CZ}{K:AN}{fr:Fr}{bl:Nat}{Q:Dx→St→Prop}
theorem Iz{α:Type}{l:List α}{i:Nat}{x:α}(h:l[i]? =some x):l.drop i=x::l.drop (i+1):=by
 have hi:=(BE.1 h).1;rw[RS hi];congr 1;have:=BY hi;rw[h]at this;injection this with this
 exact this.symm
theorem Aw{α β:Type}{x:Code}(l:List α)(S:Nat→β→St)(Inv:Nat→List α→β→Prop)(b0:β)(h0:Inv 0 l b0)
 (step: ∀(i:Nat) (y:α) (b:β),l[i]? =some y→i<l.length→(i:Int)<(l.length:Int)→Inv i (y::l.drop (i+1)) b→AA (∀b',Inv (i+1) (l.drop (i+1)) b'→ia C K fr bl x (S (i+1) b') Q)→Wp C K fr bl x (S i b) (Ll C K fr bl x Q))
 (done: ∀(i:Nat) (b:β),AA (i=l.length)→ ¬(i:Int)<(l.length:Int)→Inv i [] b→Wp C K fr bl x (S i b) (Ll C K fr bl x Q)):ia C K fr bl x (S 0 b0) Q:=by
 refine rounds (S:=fun a:Nat×β=>S a.1 a.2) (Inv:=fun a=>a.1≤l.length∧Inv a.1 (l.drop a.1) a.2) (m:=fun a=>l.length-a.1) (a:=(0,b0)) ⟨by simp,by simpa using h0⟩ ?_;rintro⟨i,b⟩ ⟨h1,h2⟩ IH;dsimp only at*;by_cases hi:i<l.length
 .obtain⟨y,hy⟩: ∃y,l[i]? =some y:=⟨_,BY hi⟩;rw[Iz hy]at h2;exact step i y b hy hi (by omega) h2 ⟨fun b' hb=>IH.out (i+1,b') (by dsimp only;omega) ⟨by dsimp only;omega,hb⟩⟩
 .have:i=l.length:=by omega
  rw[D5 (by omega)]at h2;exact done i b ⟨this⟩ (by omega) h2
end Go.Abs
namespace Go.Abs
variable{C:CZ}{K:AN}{fr:Fr}{bl:Nat}{Q:Dx→St→Prop}
theorem AY{α β:Type}{x:Code}(l:List α)(m:Int)(S:Int→Nat→β→St)(Inv:Nat→List α→β→Prop)(b0:β)(hm:m=l.length)(h0:Inv 0 l b0)
 (step: ∀(i:Nat) (y:α) (b:β),l[i]? =some y→i<l.length→(i:Int)<m→Inv i (y::l.drop (i+1)) b→AA (∀b',Inv (i+1) (l.drop (i+1)) b'→ia C K fr bl x (S m (i+1) b') Q)→Wp C K fr bl x (S m i b) (Ll C K fr bl x Q))
 (done: ∀(i:Nat) (b:β),AA (i=l.length)→ ¬(i:Int)<m→Inv i [] b→Wp C K fr bl x (S m i b) (Ll C K fr bl x Q)):ia C K fr bl x (S m 0 b0) Q:=
 Aw l (S m) Inv b0 h0 (fun i y b h1 h2 h3 h4 h5=>step i y b h1 h2 (by omega) h4 h5) (fun i b h1 h2 h3=>done i b h1 (by have:=h1.out;omega) h3)
end Go.Abs
namespace Go.Abs
variable{P:Program}{C:CZ}
theorem Ft{f:FuncId}{fn:Func}{c:Code}{rs:List ResultVar}{args:List AV}{π:List Nat}{Post:Ae×AB→Prop}(hg:C.i5 f=true)(hf:P.funcs[f]? =some fn)(hb:fn.body=some c)(hr:fn.results.toList=rs)(hl:Nat.ble args.length fn.ntmps=true)
 (hw:Wp C (KL P C) {f,π,raw:=false,bv:=none,nt:=fn.ntmps} 0 c ⟨ET 0 args,[],0,[]⟩ (R4 C none rs π false fun o' h'=>Post (nrm (o',h')))): ∃r,BJ (KL P C) f args π=.ok r∧Post r:=by
 obtain⟨o',h',e,h2⟩:=Ah hg hf hb hr hl hw;unfold BJ;rw[e];exact⟨_,rfl,h2⟩
end Go.Abs
namespace Go.Abs
variable{C:CZ}{K:AN}{fr:Fr}{bl:Nat}{Q:Dx→St→Prop}
end Go.Abs
namespace Go.Abs
variable{P:Program}{C:CZ}{K:AN}{fr:Fr}{b n i:Nat}{Q:Dx→St→Prop}
variable{ops:Array Oper}{al:Nat→Bool}{l:List Oper}{e:Bm}{h:AB}{bs:Nat}{ds:List Df}{ps:List (Nat×Nat)}{fps:List Fp}{ρ:List Nat}{dst:Option Tmp}
def ACy(C:CZ)(K:AN)(fr:Fr)(ops:Array Oper)(b n:Nat)(al:Nat→Bool)(l:List Oper)(i:Nat)(dst:Option Tmp)(ρ:List Nat)(e:Bm)(h:AB)(bs:Nat)(ds:List Df)(Q:Dx→St→Prop)(args:List AV)(v:AV):Option FuncId→Prop
 |some f=>Rl C K fr ops b n al l i dst ρ e h bs ds Q args (.fn f [v] [])
 |none=>False
def AF9(C:CZ)(K:AN)(fr:Fr)(ops:Array Oper)(b n:Nat)(al:Nat→Bool)(l:List Oper)(i:Nat)(dst:Option Tmp)(ρ:List Nat)(e:Bm)(h:AB)(bs:Nat)(ds:List Df)(Q:Dx→St→Prop)(m:String)(args:List AV):AV→Prop
 |.iface t v=>ACy C K fr ops b n al l i dst ρ e h bs ds Q args v (C.wp t m)
 |_=>False
theorem cj(m:String)(args:List AV)(t:TypeId)(v:AV):AF9 C K fr ops b n al l i dst ρ e h bs ds Q m args (.iface t v)=ACy C K fr ops b n al l i dst ρ e h bs ds Q args v (C.wp t m):=rfl
theorem nm(args:List AV)(v:AV)(f:FuncId):ACy C K fr ops b n al l i dst ρ e h bs ds Q args v (some f)=Rl C K fr ops b n al l i dst ρ e h bs ds Q args (.fn f [v] []):=rfl
def ACx(C:CZ)(K:AN)(fr:Fr)(ops:Array Oper)(b n:Nat)(al:Nat→Bool)(ps:List (Nat×Nat))(fps:List Fp)(l:List Oper)(i:Nat)(dst:Option Tmp)(ρ:List Nat)(e:Bm)(h:AB)(bs:Nat)(ds:List Df)(Q:Dx→St→Prop)(args:List AV)(v:AV):Option FuncId→Prop
 |some f=>Xh C K fr ops b n al ps fps l i dst ρ e h bs ds Q args (.fn f [v] [])
 |none=>False
def ACp(C:CZ)(K:AN)(fr:Fr)(ops:Array Oper)(b n:Nat)(al:Nat→Bool)(ps:List (Nat×Nat))(fps:List Fp)(l:List Oper)(i:Nat)(dst:Option Tmp)(ρ:List Nat)(e:Bm)(h:AB)(bs:Nat)(ds:List Df)(Q:Dx→St→Prop)(m:String)(args:List AV):AV→Prop
 |.iface t v=>ACx C K fr ops b n al ps fps l i dst ρ e h bs ds Q args v (C.wp t m)
 |_=>False
theorem sF(r:Operand)(m:String)(az:Array Operand)(ts:Array TypeId):Bu C K fr ops b n al ps fps l i Q (A4 C K fr ρ (.call ⟨.invoke r m,az,ts⟩) dst ⟨e,h,bs,ds⟩)=ACp C K fr ops b n al ps fps l i dst ρ e h bs ds Q m (az.toList.map (ev e.get)) (ev e.get r):=by
 simp only[A4];cases ev e.get r with
 |iface t v=>
  simp only[Fk,ACp];cases C.wp t m with
  |none=>rfl
  |some f=>rfl
 |_=>rfl
theorem cg(m:String)(args:List AV)(t:TypeId)(v:AV):ACp C K fr ops b n al ps fps l i dst ρ e h bs ds Q m args (.iface t v)=ACx C K fr ops b n al ps fps l i dst ρ e h bs ds Q args v (C.wp t m):=rfl
theorem nk(args:List AV)(v:AV)(f:FuncId):ACx C K fr ops b n al ps fps l i dst ρ e h bs ds Q args v (some f)=Xh C K fr ops b n al ps fps l i dst ρ e h bs ds Q args (.fn f [v] []):=rfl
def Sr(C:CZ)(K:AN)(fr:Fr)(ops:Array Oper)(b n:Nat)(al:Nat→Bool)(ps:List (Nat×Nat))(fps:List Fp)(l:List Oper)(i:Nat)(dst:Option Tmp)(ρ:List Nat)(e:Bm)(h:AB)(bs:Nat)(ds:List Df)(Q:Dx→St→Prop):E (Ae×AB)→Prop
 |.ok (.ret v,h')=>Gd C K fr ops b n al ps (fps++[⟨none,some (UW h (gc ρ h'))⟩]) l (i+1) ⟨CY e dst v,gc ρ h',bs,ds⟩ Q
 |.ok (.f9 v,h')=>al i=true∧Dg fps ps=true∧Q (.f9 v) ⟨e,gc ρ h',b+n,ds⟩
 |.err _=>False
theorem ph(dst:Option Tmp)(ρ:List Nat)(r:E (Ae×AB)):Bu C K fr ops b n al ps fps l i Q (EG ρ dst ⟨e,h,bs,ds⟩ r)=Sr C K fr ops b n al ps fps l i dst ρ e h bs ds Q r:=by
 cases r with
 |err l=>rfl
 |ok r=>
  obtain⟨o,h'⟩:=r;cases o<;>simp only[EG,A6,Af,Bu,Sr]
theorem vj(dst:Option Tmp)(ρ:List Nat)(v:AV)(h':AB):Sr C K fr ops b n al ps fps l i dst ρ e h bs ds Q (.ok (.ret v,h'))=Gd C K fr ops b n al ps (fps++[⟨none,some (UW h (gc ρ h'))⟩]) l (i+1) ⟨CY e dst v,gc ρ h',bs,ds⟩ Q:=rfl
theorem vh(dst:Option Tmp)(ρ:List Nat)(v:AV)(h':AB):Sr C K fr ops b n al ps fps l i dst ρ e h bs ds Q (.ok (.f9 v,h'))=(al i=true∧Dg fps ps=true∧Q (.f9 v) ⟨e,gc ρ h',b+n,ds⟩):=rfl
theorem nq(dst:Option Tmp)(ρ:List Nat)(f:FuncId)(az:List AV):K7 C K fr ops b n al ps fps l i dst ρ e h bs ds Q f az .raw=Sr C K fr ops b n al ps fps l i dst ρ e h bs ds Q (K (.fn f) az h ρ true fr.bv):=by
 simp only[K7,DX,ph]
variable{dst:Option Tmp}
theorem Eu{Post:Ae→AB→Prop}{ρ:List Nat}{q:E (Ae×AB)}(hk: ∃o h',q=.ok (o,h')∧Post o h')(hn: ∀o h',Post o h'→Sr C K fr ops b n al ps fps l i dst ρ e h bs ds Q (.ok (o,h'))):Sr C K fr ops b n al ps fps l i dst ρ e h bs ds Q q:=by
 obtain⟨o,h',e,hp⟩:=hk;rw[e];exact hn o h' hp
theorem dN(dst:Option Tmp)(ρ:List Nat)(f:FuncId)(az:List AV)(hx:(Dr h.get az).isNone):K7 C K fr ops b n al ps fps l i dst ρ e h bs ds Q f az .auto=(Jv fr.bv (az.flatMap (mark h.get))=true∧Sr C K fr ops b n al ps fps l i dst ρ e h bs ds Q (K (.fn f) (ME h.get az) (h.puts (az.flatMap (mark h.get))) ρ true fr.bv)):=by
 have hx:Dr h.get az=none:=by simpa using hx
 simp only[K7,DX,hx,E7,BH,Bk,Af];cases hw:Jv fr.bv (az.flatMap (mark h.get))with
 |true=>
  simp only[To];cases K (.fn f) (ME h.get az) (h.puts (az.flatMap (mark h.get))) ρ true fr.bv with
  |err l=>rfl
  |ok r=>
   obtain⟨o,h'⟩:=r;cases o<;>simp only[EG,A6,Af,Bu,Sr]
 |false=>simp[Bu]
variable{az:List AV}{v:AV}
theorem W3{p:Prop} [Decidable p](h1: ¬p→DU C K fr ops b n al l i az dst e h bs ds Q (B4 v true))(h2:p→DU C K fr ops b n al l i az dst e h bs ds Q (B4 v false)):DU C K fr ops b n al l i az dst e h bs ds Q (B4 v (!decide p)):=by
 by_cases hp:p
 .rw[Co hp];exact h2 hp
 .rw[CE hp];exact h1 hp
theorem W2{p:Prop} [Decidable p](h1: ¬p→DT C K fr ops b n al ps fps l i az dst e h bs ds Q (B4 v true))(h2:p→DT C K fr ops b n al ps fps l i az dst e h bs ds Q (B4 v false)):DT C K fr ops b n al ps fps l i az dst e h bs ds Q (B4 v (!decide p)):=by
 by_cases hp:p
 .rw[Co hp];exact h2 hp
 .rw[CE hp];exact h1 hp
theorem fG{t:Bool}(h1:t=true→DT C K fr ops b n al ps fps l i az dst e h bs ds Q (B4 v true))(h2:t=false→DT C K fr ops b n al ps fps l i az dst e h bs ds Q (B4 v false)):DT C K fr ops b n al ps fps l i az dst e h bs ds Q (B4 v t):=by
 cases t
 .exact h2 rfl
 .exact h1 rfl
theorem Zv{p:Prop} [Decidable p](h1:p→DT C K fr ops b n al ps fps l i az dst e h bs ds Q (B4 v true))(h2: ¬p→DT C K fr ops b n al ps fps l i az dst e h bs ds Q (B4 v false)):DT C K fr ops b n al ps fps l i az dst e h bs ds Q (B4 v (decide p)):=by
 by_cases hp:p
 .rw[Co hp];exact h1 hp
 .rw[CE hp];exact h2 hp
theorem bB(a b:List Id):Abs.apart (some a) (some b)=a.all fun x=>b.all fun y=> !Id.is x y:=by
 have key: ∀(x:Id) (m:List Id),(!m.contains x)=m.all fun y=> !Id.is x y:=fun x m=>by
  rw[Nl];simp only[Gs,Ci];constructor
  .intro h y hy;exact AE fun e=>by subst e;simp[hy]at h
  .intro h;cases hc:m.contains x with
   |false=>rfl
   |true=>
    have:=h x (by simpa using hc);rw[is_self]at this;cases this
 unfold Abs.apart;split
 .rename_i h;cases h;rfl
 .rename_i h1 h2;cases h1;simp
 .rename_i h1 h2;cases h1;cases h2;simp only[key]
 .simp_all
theorem E2(ρ:List Nat)(h:AB)(l:Id):AB.get (gc ρ h) (1::l)=AB.get h (1::l):=SH (fun id=>match id with|0::l=> !Id.under ρ l|_=>true) h (1::l) rfl
theorem OY(a b:AB)(id:Id):AB.get (a++b) id=(match AB.get a id with|some o=>some o|none=>AB.get b id):=by
 induction a with
 |nil=>rfl
 |cons p a ih=>
  obtain⟨k,x⟩:=p;rw[FN,Bd,Bd];split
  .rfl
  .exact ih
variable{a b:AB}
theorem Bb{id:Id}(h:AB.get a id=none):AB.get (a++b) id=AB.get b id:=by rw[OY,h]
theorem DK{id:Id}{o:Obj}(h:AB.get a id=some o):AB.get (a++b) id=some o:=by rw[OY,h]
theorem sS(g:G)(f:FuncId)(a:List AV)(x:AV)(c:List AV):Ed g (.fn f a (x::c))=none:=by cases a<;>rfl
attribute [go_sem] E2 sS
attribute [go_sem] bB cj nm sF cg nk vj vh nq dN VN VM
attribute [go_sem_proc] Nat.reduceEqDiff Nat.reduceAdd Nat.reduceSub Nat.reduceBEq Nat.reduceLeDiff Nat.reduceLT reduceCtorEq Int.reduceEq Int.reduceLT Int.reduceLE Int.reduceNeg Int.reduceToNat Int.reduceAdd Int.reduceSub
attribute [go_sem_proc ↓] reduceIte
attribute [go_sem] Int.cast_ofNat_Int Int.zero_add Nat.le_refl
class Sp(G:Prop)(P N A B:outParam Prop):Prop where
 go:(P→A)→(N→B)→G
theorem sx{G P N A B:Prop} [s:Sp G P N A B](h1:P→A)(h2:N→B):G:=s.go h1 h2
class Sq(G:Prop)(α:outParam Type)(H:outParam Prop)(R M A:outParam (α→Prop)):Prop where
 go:H→(∀x,R x→M x→A x)→G
theorem sy{G:Prop}{α:Type}{H:Prop}{R M A:α→Prop} [s:Sq G α H R M A](h1:H)(h2: ∀x,R x→M x→A x):G:=s.go h1 h2
theorem au{G:Prop}(h:G:=by(repeat' (first|simp only[go_sem, *]|(refine sx ?_ ?_<;>intro hc)|refine sy (by omega) fun x hx hm=>?_|simp(disch:=first|assumption|omega) only[wrap_id,Pk,Og,slice_int]))):G:=h
theorem af{G:Prop}(h:G:=by(repeat' (first|simp only[go_sem, *,AM]|(refine sx ?_ ?_<;>intro hc)|refine sy (by omega) fun x hx hm=>?_|simp(disch:=first|assumption|omega) only[wrap_id,Pk,Og,slice_int]))):G:=h
variable{R:Prop}
theorem aw{G:Prop}(h:R)(e:AA R→G:=by intro q;(repeat' (first|simp only[go_sem, *]|(refine sx ?_ ?_<;>intro hc)|refine sy (by omega) fun x hx hm=>?_|simp(disch:=first|assumption|omega) only[wrap_id,Pk,Og,slice_int]));exact q.out):G:=e ⟨h⟩
theorem ax{G:Prop}(h:R)(e:AA R→G:=by intro q;(repeat' (first|simp only[go_sem, *,AM]|(refine sx ?_ ?_<;>intro hc)|refine sy (by omega) fun x hx hm=>?_|simp(disch:=first|assumption|omega) only[wrap_id,Pk,Og,slice_int]));exact q.out):G:=e ⟨h⟩
variable{C:CZ}{K:AN}{fr:Fr}{b n i:Nat}{Q:Dx→St→Prop}
variable{ops:Array Oper}{al:Nat→Bool}{l:List Oper}{e:Bm}{h:AB}{bs:Nat}{ds:List Df}{ps:List (Nat×Nat)}{fps:List Fp}{dst:Option Tmp}{st:St}{op:Op}{want:Bool}{az:List AV}{v:AV}{t:Bool}{p:Prop}{x y:Code}
instance(priority:=2000) [Decidable p]:Sp (LV C K fr b x y st Q (.d (.bool (decide p)))) p (¬p) (Wp C K fr b x st Q) (Wp C K fr b y st Q):=⟨jO⟩
instance(priority:=2000) [Decidable p]:Sp (C0 C K fr ops b n al l i dst op st want Q (.d (.bool (decide p)))) p (¬p) (C0 C K fr ops b n al l i dst op st want Q (.d (.bool true))) (C0 C K fr ops b n al l i dst op st want Q (.d (.bool false))):=⟨ca⟩
instance:Sp (LV C K fr b x y st Q (.d (.bool t))) (t=true) (t=false) (Wp C K fr b x st Q) (Wp C K fr b y st Q):=⟨X1⟩
instance:Sp (C0 C K fr ops b n al l i dst op st want Q (.d (.bool t))) (t=true) (t=false) (C0 C K fr ops b n al l i dst op st want Q (.d (.bool true))) (C0 C K fr ops b n al l i dst op st want Q (.d (.bool false))):=⟨WU⟩
instance(priority:=2000) [Decidable p]:Sp (DM C K fr ops b n al ps fps l i dst op st want Q (.d (.bool (decide p)))) p (¬p) (DM C K fr ops b n al ps fps l i dst op st want Q (.d (.bool true))) (DM C K fr ops b n al ps fps l i dst op st want Q (.d (.bool false))):=⟨cd⟩
instance:Sp (DM C K fr ops b n al ps fps l i dst op st want Q (.d (.bool t))) (t=true) (t=false) (DM C K fr ops b n al ps fps l i dst op st want Q (.d (.bool true))) (DM C K fr ops b n al ps fps l i dst op st want Q (.d (.bool false))):=⟨WV⟩
instance(priority:=2000) [Decidable p]:Sp (DU C K fr ops b n al l i az dst e h bs ds Q (B4 v (decide p))) p (¬p) (DU C K fr ops b n al l i az dst e h bs ds Q (B4 v true)) (DU C K fr ops b n al l i az dst e h bs ds Q (B4 v false)):=⟨Zw⟩
instance(priority:=2000) [Decidable p]:Sp (DU C K fr ops b n al l i az dst e h bs ds Q (B4 v (!decide p))) (¬p) p (DU C K fr ops b n al l i az dst e h bs ds Q (B4 v true)) (DU C K fr ops b n al l i az dst e h bs ds Q (B4 v false)):=⟨W3⟩
instance:Sp (DU C K fr ops b n al l i az dst e h bs ds Q (B4 v t)) (t=true) (t=false) (DU C K fr ops b n al l i az dst e h bs ds Q (B4 v true)) (DU C K fr ops b n al l i az dst e h bs ds Q (B4 v false)):=⟨fJ⟩
instance(priority:=2000) [Decidable p]:Sp (DT C K fr ops b n al ps fps l i az dst e h bs ds Q (B4 v (decide p))) p (¬p) (DT C K fr ops b n al ps fps l i az dst e h bs ds Q (B4 v true)) (DT C K fr ops b n al ps fps l i az dst e h bs ds Q (B4 v false)):=⟨Zv⟩
instance(priority:=2000) [Decidable p]:Sp (DT C K fr ops b n al ps fps l i az dst e h bs ds Q (B4 v (!decide p))) (¬p) p (DT C K fr ops b n al ps fps l i az dst e h bs ds Q (B4 v true)) (DT C K fr ops b n al ps fps l i az dst e h bs ds Q (B4 v false)):=⟨W2⟩
instance:Sp (DT C K fr ops b n al ps fps l i az dst e h bs ds Q (B4 v t)) (t=true) (t=false) (DT C K fr ops b n al ps fps l i az dst e h bs ds Q (B4 v true)) (DT C K fr ops b n al ps fps l i az dst e h bs ds Q (B4 v false)):=⟨fG⟩
instance{α:Type}{f:α→List AZ}{l':List α}{sz j:Nat}:Sq (Bo C K fr ops b n al l i dst e h bs ds Q (SV sz (Option.map f l'[j]?))) α (j<l'.length) (fun x=>l'[j]? =some x) (fun x=>x∈l') (fun x=>Bo C K fr ops b n al l i dst e h bs ds Q (SV sz (some (f x)))):=⟨fun h1 h2=>ov h1 fun x hx=>h2 x hx (Ac hx)⟩
instance{α:Type}{f:α→List AZ}{l':List α}{sz j:Nat}{rd:List Id}:Sq (C8 C K fr ops b n al ps fps l i dst e h bs ds Q rd (SV sz (Option.map f l'[j]?))) α (j<l'.length) (fun x=>l'[j]? =some x) (fun x=>x∈l') (fun x=>C8 C K fr ops b n al ps fps l i dst e h bs ds Q rd (SV sz (some (f x)))):=⟨fun h1 h2=>ou h1 fun x hx=>h2 x hx (Ac hx)⟩
instance{s:ByteArray}{j:Nat}{f:UInt8→CJ}:Sq (Bo C K fr ops b n al l i dst e h bs ds Q (Option.map f s.data.toList[j]?)) UInt8 (j<s.data.toList.length) (fun x=>s.data.toList[j]? =some x) (fun x=>x∈s.data.toList) (fun x=>Bo C K fr ops b n al l i dst e h bs ds Q (some (f x))):=⟨fun h1 h2=>o5 h1 fun x hx=>h2 x hx (Ac hx)⟩
theorem Qi(sz:Nat)(es:List (List AZ))(h: ∀e∈es,e.length=sz):E4 sz (es.map fun e=>e.map .d)=true:=by
 induction es with
 |nil=>rfl
 |cons e es ih=>
  rw[D8,IY,ih fun e he=>h e (FD _ he)];simp[h e (by simp),AV.isCell]
theorem MN(g:G)(newId:Id)(j:TI)(s:AV)(es:List (List AZ))(h0:0<j.size)(h: ∀e∈es,e.length=j.size)(hn:es≠ [])(hl:es.length≤BA):TT g newId j s (some (es.map fun e=>e.map .d))=appTo g newId j s (es.map fun e=>e.map .d):=by
 cases es with
 |nil=>exact absurd rfl hn
 |cons e es=>
  have hs:=Qi j.size (e::es) h;rw[D8]at hs⊢;rw[UA,hs];have:(e.map AV.d::es.map fun e=>e.map AV.d).length≤BA:=by simpa using hl
  simp only[this,h0,decide_true,Lw,Tz]
theorem QX(g:G)(newId:Id)(j:TI)(es:List (List AZ))(hm:j.mix=false)(h0:0<j.size)(h: ∀e∈es,e.length=j.size)(hl:es.length≤BA):newArr g newId j (es.map fun e=>e.map .d)=some ⟨.em (1::newId) 0 es.length,[(1::newId,.co j.size es)]⟩:=by
 have h1:((es.map fun e=>e.map AV.d).all fun e=>e.length==j.size&&e.all AV.isCell)=true:=by
  rw[Nr];exact Qi _ _ h
 have h2:Nat.blt 0 j.size=true:=by rw[TY];exact h0
 have h3:Nat.ble es.length BA=true:=OL hl;unfold newArr;rw[h1];simp only[BI,h2,h3,Lw,hm,JE,Ho,Gc]
theorem xe(g:G)(newId:Id)(j:TI)(es:List (List AZ))(hm:j.mix=false)(h0:0<j.size)(h: ∀e∈es,e.length=j.size)(hn:es≠ [])(hl:es.length≤BA):TT g newId j .emp (some (es.map fun e=>e.map .d))=some ⟨.em (1::newId) 0 es.length,[(1::newId,.co j.size es)]⟩:=by
 rw[MN g newId j .emp es h0 h hn hl];exact QX g newId j es hm h0 h hl
end Go.Abs
namespace Go.Proofs
open Go Go.Abs
theorem T3:cfg.T 3=(.some ⟨.int,1,false,false,[(.d (.int .i64 0))],[],0,0,false⟩):=by kernel_rfl
theorem T4:cfg.T 4=(.some ⟨.bool,1,false,false,[(.d (.bool false))],[],0,0,false⟩):=by kernel_rfl
theorem T5:cfg.T 5=(.some ⟨.int,1,false,false,[(.d (.int .u8 0))],[],0,0,false⟩):=by kernel_rfl
theorem T9:cfg.T 9=(.some ⟨.str,1,false,false,[(.d (.str ⟨#[]⟩))],[],0,0,false⟩):=by kernel_rfl
theorem T22:cfg.T 22=(.some ⟨.slice,1,false,false,[.ci],[],9,0,false⟩):=by kernel_rfl
theorem T23:cfg.T 23=(.some ⟨.slice,1,false,false,[.ci],[],140,0,false⟩):=by kernel_rfl
theorem T24:cfg.T 24=(.some ⟨.slice,1,false,false,[.ci],[],147,0,false⟩):=by kernel_rfl
theorem T26:cfg.T 26=(.some ⟨.other,4,true,true,[.ci,.ci,.ci,(.d (.int .i64 0))],[(0,1,false),(1,1,false),(2,1,false),(3,1,false)],0,0,false⟩):=by kernel_rfl
theorem T27:cfg.T 27=(.some ⟨.slice,1,false,false,[.ci],[],66,0,false⟩):=by kernel_rfl
theorem T28:cfg.T 28=(.some ⟨.slice,1,false,false,[.ci],[],114,0,false⟩):=by kernel_rfl
theorem T29:cfg.T 29=(.some ⟨.slice,1,false,false,[.ci],[],69,0,false⟩):=by kernel_rfl
theorem T30:cfg.T 30=(.some ⟨.slice,1,false,false,[.ci],[],127,0,false⟩):=by kernel_rfl
theorem T32:cfg.T 32=(.some ⟨.other,4,true,true,[.ci,.ci,.ci,.ci],[(0,1,false),(1,1,false),(2,1,false),(3,1,false)],0,0,false⟩):=by kernel_rfl
theorem T33:cfg.T 33=(.some ⟨.int,1,false,false,[(.d (.int .i64 0))],[],0,0,false⟩):=by kernel_rfl
theorem T36:cfg.T 36=(.some ⟨.slice,1,false,false,[.ci],[],3,0,false⟩):=by kernel_rfl
theorem T38:cfg.T 38=(.some ⟨.other,4,true,true,[(.d (.int .i64 0)),(.d (.int .i64 0)),(.d (.int .i64 0)),.ci],[(0,1,false),(1,1,false),(2,1,false),(3,1,false)],0,0,false⟩):=by kernel_rfl
theorem T44:cfg.T 44=(.some ⟨.slice,1,false,false,[.ci],[],78,0,false⟩):=by kernel_rfl
theorem T63:cfg.T 63=(.some ⟨.slice,1,false,false,[.ci],[],38,0,false⟩):=by kernel_rfl
theorem T66:cfg.T 66=(.some ⟨(.flat [.int,.bool]),2,true,true,[(.d (.int .i64 0)),(.d (.bool false))],[(0,1,false),(1,1,false)],0,0,false⟩):=by kernel_rfl
theorem T67:cfg.T 67=(.some ⟨.slice,1,false,false,[.ci],[],73,0,false⟩):=by kernel_rfl
theorem T69:cfg.T 69=(.some ⟨.other,4,true,true,[(.d (.int .i64 0)),(.d (.int .i64 0)),(.d (.int .i64 0)),.ci],[(0,1,false),(1,1,false),(2,1,false),(3,1,false)],0,0,true⟩):=by kernel_rfl
theorem T71:cfg.T 71=(.some ⟨.slice,1,false,false,[.ci],[],88,0,false⟩):=by kernel_rfl
theorem T73:cfg.T 73=(.some ⟨.other,1,true,true,[.ci],[(0,1,false)],0,0,false⟩):=by kernel_rfl
theorem T76:cfg.T 76=(.some ⟨.int,1,false,false,[(.d (.int .i64 0))],[],0,0,false⟩):=by kernel_rfl
theorem T78:cfg.T 78=(.some ⟨.other,5,true,true,[(.d (.int .i64 0)),(.d (.int .i64 0)),(.d (.int .i64 0)),(.d (.int .i64 0)),.ci],[(0,1,false),(1,1,false),(2,1,false),(3,1,false),(4,1,false)],0,0,false⟩):=by kernel_rfl
theorem T82:cfg.T 82=(.some ⟨.int,1,false,false,[(.d (.int .i64 0))],[],0,0,false⟩):=by kernel_rfl
theorem T83:cfg.T 83=(.some ⟨.slice,1,false,false,[.ci],[],85,0,false⟩):=by kernel_rfl
theorem T85:cfg.T 85=(.some ⟨.other,3,true,true,[(.d (.int .i64 0)),(.d (.int .i64 0)),.ci],[(0,1,false),(1,1,false),(2,1,false)],0,0,false⟩):=by kernel_rfl
theorem T86:cfg.T 86=(.some ⟨.int,1,false,false,[(.d (.int .i64 0))],[],0,0,false⟩):=by kernel_rfl
theorem T88:cfg.T 88=(.some ⟨(.flat [.int,.int]),2,true,true,[(.d (.int .i64 0)),(.d (.int .i64 0))],[(0,1,false),(1,1,false)],0,0,false⟩):=by kernel_rfl
theorem AFc:cfg.T 114=(.some ⟨.other,3,true,true,[(.d (.int .i64 0)),(.d (.int .i64 0)),.ci],[(0,1,false),(1,1,false),(2,1,false)],0,0,false⟩):=by kernel_rfl
theorem AFd:cfg.T 118=(.some ⟨.ptr,1,false,false,[(.d .un)],[],0,0,false⟩):=by kernel_rfl
theorem AFe:cfg.T 122=(.some ⟨.map,1,false,false,[(.d .rx)],[],198,138,false⟩):=by kernel_rfl
theorem AFf:cfg.T 124=(.some ⟨.other,13,true,true,[.ci,.ci,.ci,.ci,.ci,.ci,.ci,(.d (.int .i64 0)),.ci,.ci,(.d .rx),.ci,(.d (.int .i64 0))],[(0,4,true),(4,4,true),(8,1,false),(9,1,false),(10,1,false),(11,1,false),(12,1,false)],0,0,false⟩):=by kernel_rfl
theorem AFg:cfg.T 127=(.some ⟨.other,3,true,true,[(.d (.int .i64 0)),(.d (.int .i64 0)),.ci],[(0,1,false),(1,1,false),(2,1,false)],0,0,false⟩):=by kernel_rfl
theorem AFh:cfg.T 138=(.some ⟨.int,1,false,false,[(.d (.int .i64 0))],[],0,0,false⟩):=by kernel_rfl
theorem AFi:cfg.T 140=(.some ⟨.other,4,true,true,[(.d (.int .i64 0)),(.d (.int .i64 0)),.ci,.ci],[(0,1,false),(1,1,false),(2,1,false),(3,1,false)],0,0,false⟩):=by kernel_rfl
theorem AFj:cfg.T 143=(.some ⟨.slice,1,false,false,[.ci],[],187,0,false⟩):=by kernel_rfl
theorem AFk:cfg.T 144=(.some ⟨.slice,1,false,false,[.ci],[],189,0,false⟩):=by kernel_rfl
theorem AFl:cfg.T 145=(.some ⟨.slice,1,false,false,[.ci],[],151,0,false⟩):=by kernel_rfl
theorem AFm:cfg.T 147=(.some ⟨.other,3,true,true,[.ci,.ci,.ci],[(0,1,false),(1,1,false),(2,1,false)],0,0,false⟩):=by kernel_rfl
theorem AFn:cfg.T 151=(.some ⟨.other,3,true,true,[(.d (.int .i64 0)),.ci,(.d (.int .i64 0))],[(0,1,false),(1,1,false),(2,1,false)],0,0,false⟩):=by kernel_rfl
theorem AFo:cfg.T 162=(.some ⟨.other,8,true,true,[.ci,.ci,.ci,(.d (.int .i64 0)),.ci,.ci,.ci,(.d (.bool false))],[(0,4,true),(4,1,false),(5,1,false),(6,1,false),(7,1,false)],0,0,false⟩):=by kernel_rfl
theorem AFp:cfg.T 177=(.some ⟨(.flat [.int]),1,true,true,[(.d (.int .i64 0))],[(0,1,false)],0,0,false⟩):=by kernel_rfl
theorem AFq:cfg.T 180=(.some ⟨.func,1,false,false,[(.d .i7)],[],0,0,false⟩):=by kernel_rfl
theorem AFr:cfg.T 187=(.some ⟨(.flat [.int,.int]),2,true,true,[(.d (.int .i64 0)),(.d (.int .i64 0))],[(0,1,false),(1,1,false)],0,0,false⟩):=by kernel_rfl
theorem AFs:cfg.T 189=(.some ⟨(.flat [.int,.int]),2,true,true,[(.d (.int .i64 0)),(.d (.int .i64 0))],[(0,1,false),(1,1,false)],0,0,false⟩):=by kernel_rfl
theorem AFt:cfg.T 198=(.some ⟨.func,1,false,false,[(.d .i7)],[],0,0,false⟩):=by kernel_rfl
theorem AFu:cfg.T 201=(.some ⟨.other,3,true,true,[(.d (.int .i64 0)),(.d (.int .i64 0)),.ci],[(0,1,false),(1,1,false),(2,1,false)],0,0,false⟩):=by kernel_rfl
theorem AFv:cfg.T 246=(.some ⟨.slice,1,false,false,[.ci],[],4,0,false⟩):=by kernel_rfl
theorem AFw:cfg.T 248=(.some ⟨.other,7,true,true,[.ci,.ci,.ci,(.d (.int .i64 0)),.ci,.ci,.ci],[(0,4,true),(4,1,false),(5,1,false),(6,1,false)],0,0,false⟩):=by kernel_rfl
theorem AFx:cfg.T 249=(.some ⟨.func,1,false,false,[(.d .i7)],[],0,0,false⟩):=by kernel_rfl
theorem AFy:cfg.T 289=(.some ⟨(.flat [.int]),1,true,true,[(.d (.int .i64 0))],[(0,1,false)],0,0,false⟩):=by kernel_rfl
theorem AB7:cfg.T 300=(.some ⟨.map,1,false,false,[(.d .rx)],[],4,9,false⟩):=by kernel_rfl
theorem AFz:cfg.T 303=(.some ⟨.iface,1,false,false,[(.d .kw)],[],0,0,false⟩):=by kernel_rfl
theorem AF0:cfg.T 307=(.some ⟨(.flat []),0,true,true,[],[],0,0,false⟩):=by kernel_rfl
theorem AF1:cfg.T 308=(.some ⟨(.flat []),0,true,true,[],[],0,0,false⟩):=by kernel_rfl
theorem AF2:cfg.T 309=(.some ⟨(.flat []),0,true,true,[],[],0,0,false⟩):=by kernel_rfl
theorem AF3:cfg.T 310=(.some ⟨(.flat []),0,true,true,[],[],0,0,false⟩):=by kernel_rfl
theorem AF4:cfg.T 311=(.some ⟨.func,1,false,false,[(.d .i7)],[],0,0,false⟩):=by kernel_rfl
theorem AF5:cfg.T 314=(.some ⟨.int,1,false,false,[(.d (.int .i64 0))],[],0,0,false⟩):=by kernel_rfl
theorem AB8:cfg.T 315=(.some ⟨.map,1,false,false,[(.d .rx)],[],4,3,false⟩):=by kernel_rfl
theorem vS:cfg.d7 8 9=[(0,12),(1,12),(6,12),(7,12)]:=by kernel_rfl
theorem od:cfg.d7 8 25=[]:=by kernel_rfl
theorem zR:cfg.live 8 0=[1,2,5,8]:=by kernel_rfl
theorem zS:cfg.live 8 2=[1,2,5,8,9,10,12]:=by kernel_rfl
theorem AC1:cfg.mode 20=.auto:=by kernel_rfl
theorem AC2:cfg.mode 23=.auto:=by kernel_rfl
theorem oG:cfg.d7 23 6=[]:=by kernel_rfl
theorem eP:cfg.d7 23 11=[]:=by kernel_rfl
theorem eR:cfg.d7 23 16=[]:=by kernel_rfl
theorem eT:cfg.d7 23 21=[]:=by kernel_rfl
theorem tU:cfg.live 23 0=[2,3,5]:=by kernel_rfl
theorem tV:cfg.live 23 2=[2,3,6]:=by kernel_rfl
theorem tW:cfg.live 23 4=[2,3,7]:=by kernel_rfl
theorem tX:cfg.live 23 6=[2,3,8]:=by kernel_rfl
theorem AC3:cfg.mode 25=.auto:=by kernel_rfl
theorem eU:cfg.d7 25 11=[(7,8)]:=by kernel_rfl
theorem tZ:cfg.live 25 0=[6,7,8,9,19,20,21]:=by kernel_rfl
theorem AC4:cfg.mode 30=.auto:=by kernel_rfl
theorem AC5:cfg.mode 31=.auto:=by kernel_rfl
theorem eV:cfg.d7 31 11=[(7,8)]:=by kernel_rfl
theorem tb:cfg.live 31 0=[1,2,3,4,5,6,18,19]:=by kernel_rfl
theorem AC6:cfg.mode 32=.auto:=by kernel_rfl
theorem oH:cfg.d7 32 6=[]:=by kernel_rfl
theorem eW:cfg.d7 32 15=[]:=by kernel_rfl
theorem tc:cfg.live 32 0=[2,3,5]:=by kernel_rfl
theorem td:cfg.live 32 2=[2,3,6,7]:=by kernel_rfl
theorem AC7:cfg.mode 37=.auto:=by kernel_rfl
theorem oI:cfg.d7 37 6=[]:=by kernel_rfl
theorem te:cfg.live 37 0=[0,1,5]:=by kernel_rfl
theorem AC8:cfg.mode 38=.auto:=by kernel_rfl
theorem tf:cfg.live 38 0=[1,2,3]:=by kernel_rfl
theorem AC9:cfg.mode 44=.auto:=by kernel_rfl
theorem ADA:cfg.mode 51=.own:=by kernel_rfl
theorem oJ:cfg.d7 52 9=[]:=by kernel_rfl
theorem eY:cfg.d7 52 12=[(4,9)]:=by kernel_rfl
theorem eZ:cfg.d7 52 17=[(5,9)]:=by kernel_rfl
theorem tg:cfg.live 52 0=[0,3,13,18,19,20,102,103,104,105,106,107,108,109]:=by kernel_rfl
theorem th:cfg.live 52 2=[0,3,13,40,41,42,102,103,104,105,106,107,108,109]:=by kernel_rfl
theorem tj:cfg.live 52 4=[0,3,6,7,13,40,41,42,56,57,58,102,103,104,105,106,107,108,109]:=by kernel_rfl
theorem tl:cfg.live 52 6=[0,3,6,7,8,10,13,40,41,42,56,57,58,77,78,79,102,103,104,105,106,107,108,109]:=by kernel_rfl
theorem ADB:cfg.mode 55=.auto:=by kernel_rfl
theorem oM:cfg.d7 55 4=[(4,9),(6,9),(7,9),(8,9)]:=by kernel_rfl
theorem oO:cfg.d7 55 5=[]:=by kernel_rfl
theorem oQ:cfg.d7 55 6=[(4,9),(6,9),(7,9),(8,9)]:=by kernel_rfl
theorem ec:cfg.d7 55 11=[]:=by kernel_rfl
theorem ed:cfg.d7 55 12=[]:=by kernel_rfl
theorem ee:cfg.d7 55 14=[]:=by kernel_rfl
theorem ef:cfg.d7 55 15=[]:=by kernel_rfl
theorem Vn:cfg.alone 55 15 9=true:=by kernel_rfl
theorem ADE:cfg.mode 57=.auto:=by kernel_rfl
theorem oT:cfg.d7 57 6=[]:=by kernel_rfl
theorem tm:cfg.live 57 0=[0,1,5]:=by kernel_rfl
theorem ADF:cfg.mode 58=.auto:=by kernel_rfl
theorem ADG:cfg.mode 59=.raw:=by kernel_rfl
theorem ADH:cfg.mode 61=.auto:=by kernel_rfl
theorem tn:cfg.live 61 0=[0,17,18]:=by kernel_rfl
theorem tp:cfg.live 61 2=[0,3,4,17,18]:=by kernel_rfl
theorem ADI:cfg.mode 62=.auto:=by kernel_rfl
theorem ADJ:cfg.mode 63=.auto:=by kernel_rfl
theorem tq:cfg.live 63 0=[0,1,2]:=by kernel_rfl
theorem ADK:cfg.mode 64=.auto:=by kernel_rfl
theorem tr:cfg.live 64 0=[1,3]:=by kernel_rfl
theorem tt:cfg.live 64 2=[1,3,4,5]:=by kernel_rfl
theorem ADL:cfg.mode 65=.own:=by kernel_rfl
theorem oU:cfg.d7 65 3=[(0,5)]:=by kernel_rfl
theorem oV:cfg.d7 65 8=[]:=by kernel_rfl
theorem tu:cfg.live 65 0=[3,5,25,26,27]:=by kernel_rfl
theorem ADM:cfg.mode 66=.auto:=by kernel_rfl
theorem oW:cfg.d7 66 2=[]:=by kernel_rfl
theorem ADN:cfg.mode 67=.auto:=by kernel_rfl
theorem oX:cfg.d7 67 7=[]:=by kernel_rfl
theorem eg:cfg.d7 67 19=[]:=by kernel_rfl
theorem tv:cfg.live 67 0=[2,3,5,6,7,8]:=by kernel_rfl
theorem tw:cfg.live 67 2=[2,3,5,6,7,8,9,10,11,12]:=by kernel_rfl
theorem tx:cfg.live 67 4=[2,3,5,6,7,8,10,14]:=by kernel_rfl
theorem ADO:cfg.mode 68=.auto:=by kernel_rfl
theorem ADP:cfg.mode 69=.auto:=by kernel_rfl
theorem ADQ:cfg.mode 70=.auto:=by kernel_rfl
theorem oY:cfg.d7 70 4=[]:=by kernel_rfl
theorem tz:cfg.live 70 0=[2,3,4,7]:=by kernel_rfl
theorem ADR:cfg.mode 75=.auto:=by kernel_rfl
theorem oZ:cfg.d7 75 6=[(5,8),(6,8),(5,9),(6,9),(5,10),(6,10)]:=by kernel_rfl
theorem ADS:cfg.mode 76=.auto:=by kernel_rfl
theorem ADT:cfg.mode 83=.own:=by kernel_rfl
theorem oc:cfg.d7 83 8=[]:=by kernel_rfl
theorem eh:cfg.d7 83 13=[(6,8),(6,9),(4,10),(5,10),(6,10),(6,12),(10,12),(6,13),(10,13),(4,14),(5,14),(6,14),(8,14),(9,14),(10,14),(8,17),(9,17),(10,17),(12,17),(13,17),(14,17),(12,20),(13,20),(14,20)]:=by kernel_rfl
theorem uD:cfg.live 83 0=[1,3,4]:=by kernel_rfl
theorem uE:cfg.live 83 2=[1,3,5]:=by kernel_rfl
theorem uF:cfg.live 83 4=[3,6]:=by kernel_rfl
theorem uH:cfg.live 83 6=[3,7]:=by kernel_rfl
theorem ADU:cfg.mode 91=.ro:=by kernel_rfl
theorem oe:cfg.d7 91 5=[]:=by kernel_rfl
theorem ei:cfg.d7 91 11=[]:=by kernel_rfl
theorem eo:cfg.d7 91 13=[]:=by kernel_rfl
theorem ep:cfg.d7 91 14=[(4,9),(6,9),(7,9),(8,9)]:=by kernel_rfl
theorem er:cfg.d7 91 30=[(12,17)]:=by kernel_rfl
theorem et:cfg.d7 91 31=[]:=by kernel_rfl
theorem eu:cfg.d7 91 38=[]:=by kernel_rfl
theorem ew:cfg.d7 91 45=[]:=by kernel_rfl
theorem ey:cfg.d7 91 46=[]:=by kernel_rfl
theorem ez:cfg.d7 91 51=[]:=by kernel_rfl
theorem uI:cfg.live 91 0=[0,65,66,67]:=by kernel_rfl
theorem uJ:cfg.live 91 2=[0,4,5,92,93,94]:=by kernel_rfl
theorem uK:cfg.live 91 4=[0,4,5,6,7,8,9,92,93,94,155,156]:=by kernel_rfl
theorem uO:cfg.live 91 6=[0,4,5,6,7,8,9,92,93,94,172,173]:=by kernel_rfl
theorem uR:cfg.live 91 8=[0,4,5,6,7,8,92,93,94,192,193,194]:=by kernel_rfl
theorem my:cfg.live 91 10=[0,4,5,6,7,8,13,92,93,94,192,193,194,255,256,257]:=by kernel_rfl
theorem mz:cfg.live 91 12=[0,303,304,305]:=by kernel_rfl
theorem Vo:cfg.alone 91 5 15=true:=by kernel_rfl
theorem TM:cfg.alone 91 11 14=true:=by kernel_rfl
theorem TN:cfg.alone 91 13 11=true:=by kernel_rfl
theorem TP:cfg.alone 91 30 20=true:=by kernel_rfl
theorem TQ:cfg.alone 91 31 23=true:=by kernel_rfl
theorem TR:cfg.alone 91 45 27=true:=by kernel_rfl
theorem TS:cfg.alone 91 51 11=true:=by kernel_rfl
theorem ADV:cfg.mode 92=.own:=by kernel_rfl
theorem og:cfg.d7 92 1=[(2,4),(2,7),(5,7),(2,10),(5,10),(8,10)]:=by kernel_rfl
theorem ADW:cfg.mode 93=.ro:=by kernel_rfl
theorem oh:cfg.d7 93 1=[(4,9),(6,9),(7,9),(8,9)]:=by kernel_rfl
theorem oj:cfg.d7 93 8=[]:=by kernel_rfl
theorem om:cfg.d7 93 9=[]:=by kernel_rfl
theorem ADX:cfg.mode 94=.ro:=by kernel_rfl
theorem ADY:cfg.mode 95=.ro:=by kernel_rfl
theorem oo:cfg.d7 95 1=[(4,9),(6,9),(7,9),(8,9)]:=by kernel_rfl
theorem ADZ:cfg.mode 96=.own:=by kernel_rfl
theorem zj:cfg.mode 100=.auto:=by kernel_rfl
theorem dY:cfg.d7 100 1=[(4,9),(6,9),(7,9),(8,9)]:=by kernel_rfl
theorem dZ:cfg.d7 100 2=[(4,14),(6,14),(7,14),(9,14),(11,14),(12,14),(13,14)]:=by kernel_rfl
theorem da:cfg.d7 100 7=[(4,8)]:=by kernel_rfl
theorem db:cfg.d7 100 8=[]:=by kernel_rfl
theorem dc:cfg.d7 100 9=[]:=by kernel_rfl
theorem ZR:cfg.d7 100 13=[(2,6),(2,8)]:=by kernel_rfl
theorem lR:cfg.live 100 0=[0,3,4,5,6,35,36,37]:=by kernel_rfl
theorem TF:cfg.alone 100 13 9=true:=by kernel_rfl
theorem zk:cfg.mode 101=.raw:=by kernel_rfl
theorem dg:cfg.d7 101 5=[]:=by kernel_rfl
theorem zl:cfg.mode 102=.auto:=by kernel_rfl
theorem dh:cfg.d7 102 8=[(0,7)]:=by kernel_rfl
theorem ZS:cfg.d7 102 12=[]:=by kernel_rfl
theorem lU:cfg.live 102 0=[1,2,15,16]:=by kernel_rfl
theorem lV:cfg.live 102 2=[2,51,52,53]:=by kernel_rfl
theorem zm:cfg.mode 103=.auto:=by kernel_rfl
theorem di:cfg.d7 103 0=[(4,10),(4,12)]:=by kernel_rfl
theorem zn:cfg.mode 107=.auto:=by kernel_rfl
theorem zo:cfg.mode 108=.raw:=by kernel_rfl
theorem zp:cfg.mode 109=.auto:=by kernel_rfl
theorem zq:cfg.mode 110=.auto:=by kernel_rfl
theorem dj:cfg.d7 110 1=[(4,9),(6,9),(7,9),(8,9)]:=by kernel_rfl
theorem ZT:cfg.d7 110 13=[]:=by kernel_rfl
theorem ZU:cfg.d7 110 14=[]:=by kernel_rfl
theorem lY:cfg.live 110 0=[0,3,4,5,20,21,22]:=by kernel_rfl
theorem zr:cfg.mode 111=.auto:=by kernel_rfl
theorem dk:cfg.d7 111 1=[]:=by kernel_rfl
theorem lZ:cfg.live 111 0=[0,3,15,16,17]:=by kernel_rfl
theorem zt:cfg.mode 112=.auto:=by kernel_rfl
theorem dp:cfg.d7 112 1=[(4,9),(6,9),(7,9),(8,9)]:=by kernel_rfl
theorem dt:cfg.d7 112 2=[(4,9),(6,9),(7,9),(8,9)]:=by kernel_rfl
theorem du:cfg.d7 112 3=[(1,6),(3,6),(1,8),(3,8),(5,8),(6,8)]:=by kernel_rfl
theorem dv:cfg.d7 112 7=[(1,11)]:=by kernel_rfl
theorem ZV:cfg.d7 112 12=[(1,11)]:=by kernel_rfl
theorem ZW:cfg.d7 112 17=[(5,17),(10,17),(11,17),(5,19)]:=by kernel_rfl
theorem ZX:cfg.d7 112 22=[(5,10),(5,12)]:=by kernel_rfl
theorem ZY:cfg.d7 112 24=[(5,7)]:=by kernel_rfl
theorem ZZ:cfg.d7 112 31=[(2,7),(7,9)]:=by kernel_rfl
theorem Za:cfg.d7 112 33=[]:=by kernel_rfl
theorem la:cfg.live 112 0=[0,3,4,5,6,43,44]:=by kernel_rfl
theorem lf:cfg.live 112 2=[0,3,4,5,6,64,65]:=by kernel_rfl
theorem lg:cfg.live 112 4=[0,3,4,5,6,84,85,86]:=by kernel_rfl
theorem lh:cfg.live 112 6=[0,3,4,5,6,117,118,119]:=by kernel_rfl
theorem lj:cfg.live 112 8=[0,3,4,6,175,176,177]:=by kernel_rfl
theorem RP:cfg.alone 112 31 10=true:=by kernel_rfl
theorem TG:cfg.alone 112 33 9=true:=by kernel_rfl
theorem zu:cfg.mode 113=.auto:=by kernel_rfl
theorem dw:cfg.d7 113 1=[(4,9),(6,9),(7,9),(8,9)]:=by kernel_rfl
theorem dx:cfg.d7 113 2=[(2,9),(2,10),(2,12),(9,16),(10,16),(12,16),(9,18),(10,18),(12,18)]:=by kernel_rfl
theorem TH:cfg.alone 113 2 19=true:=by kernel_rfl
theorem zv:cfg.mode 114=.auto:=by kernel_rfl
theorem dy:cfg.d7 114 1=[(5,12),(7,12),(9,12),(5,14)]:=by kernel_rfl
theorem zw:cfg.mode 115=.auto:=by kernel_rfl
theorem dz:cfg.d7 115 7=[]:=by kernel_rfl
theorem lk:cfg.live 115 0=[1,3,4,5]:=by kernel_rfl
theorem zx:cfg.mode 116=.auto:=by kernel_rfl
theorem eA:cfg.d7 116 6=[(12,17)]:=by kernel_rfl
theorem Zb:cfg.d7 116 11=[]:=by kernel_rfl
theorem ll:cfg.live 116 0=[5,6,11,13,14]:=by kernel_rfl
theorem zy:cfg.mode 117=.auto:=by kernel_rfl
theorem z5:cfg.mode 118=.auto:=by kernel_rfl
theorem z6:cfg.mode 119=.auto:=by kernel_rfl
theorem z7:cfg.mode 120=.auto:=by kernel_rfl
theorem z8:cfg.mode 121=.auto:=by kernel_rfl
theorem ln:cfg.live 121 0=[1,2,5,6]:=by kernel_rfl
theorem z9:cfg.mode 122=.auto:=by kernel_rfl
theorem lq:cfg.live 122 0=[1,3,4]:=by kernel_rfl
theorem AAA:cfg.mode 123=.auto:=by kernel_rfl
theorem AAB:cfg.mode 127=.auto:=by kernel_rfl
theorem lr:cfg.live 127 0=[0,3]:=by kernel_rfl
theorem AAC:cfg.mode 128=.auto:=by kernel_rfl
theorem eB:cfg.d7 128 6=[]:=by kernel_rfl
theorem Zc:cfg.d7 128 24=[]:=by kernel_rfl
theorem lu:cfg.live 128 0=[1,3]:=by kernel_rfl
theorem lv:cfg.live 128 2=[1,4]:=by kernel_rfl
theorem ly:cfg.live 128 4=[1,5,6]:=by kernel_rfl
theorem l6:cfg.live 128 6=[1,5,6,7,8]:=by kernel_rfl
theorem l7:cfg.live 128 8=[1,5,6,7,8,9,10]:=by kernel_rfl
theorem cu:cfg.live 128 10=[5,11]:=by kernel_rfl
theorem AAD:cfg.mode 129=.auto:=by kernel_rfl
theorem Zd:cfg.d7 129 20=[]:=by kernel_rfl
theorem Ze:cfg.d7 129 22=[]:=by kernel_rfl
theorem Zf:cfg.d7 129 23=[]:=by kernel_rfl
theorem Zg:cfg.d7 129 24=[]:=by kernel_rfl
theorem l8:cfg.live 129 0=[0,2,6,10]:=by kernel_rfl
theorem l9:cfg.live 129 3=[0,6,11,12]:=by kernel_rfl
theorem AAE:cfg.mode 146=.ro:=by kernel_rfl
theorem AAF:cfg.mode 147=.ro:=by kernel_rfl
theorem mC:cfg.live 147 0=[0,13,14,15]:=by kernel_rfl
theorem AAG:cfg.mode 148=.own:=by kernel_rfl
theorem mE:cfg.live 148 0=[1,5,8,9,10]:=by kernel_rfl
theorem AAH:cfg.mode 150=.own:=by kernel_rfl
theorem mF:cfg.live 150 0=[1,5,8,9,10]:=by kernel_rfl
theorem eC:cfg.d7 151 1=[(1,6),(3,6)]:=by kernel_rfl
theorem AAI:cfg.mode 152=.own:=by kernel_rfl
theorem AAJ:cfg.mode 153=.own:=by kernel_rfl
theorem mG:cfg.live 153 0=[1,5,8,9,10]:=by kernel_rfl
theorem AAK:cfg.mode 154=.own:=by kernel_rfl
theorem eD:cfg.d7 154 1=[(1,8),(3,8),(5,8)]:=by kernel_rfl
theorem AAL:cfg.mode 155=.own:=by kernel_rfl
theorem AAM:cfg.mode 156=.own:=by kernel_rfl
theorem mH:cfg.live 156 0=[1,5,8,9,10]:=by kernel_rfl
theorem eE:cfg.d7 157 1=[(1,6),(3,6)]:=by kernel_rfl
theorem eF:cfg.d7 158 4=[]:=by kernel_rfl
theorem mI:cfg.live 158 0=[0,1,3]:=by kernel_rfl
theorem mJ:cfg.live 158 2=[0,1,3,4]:=by kernel_rfl
theorem AAN:cfg.mode 159=.auto:=by kernel_rfl
theorem mL:cfg.live 159 0=[0,3,4]:=by kernel_rfl
theorem AAO:cfg.mode 160=.own:=by kernel_rfl
theorem AAP:cfg.mode 161=.raw:=by kernel_rfl
theorem eG:cfg.d7 161 5=[]:=by kernel_rfl
theorem AAQ:cfg.mode 162=.raw:=by kernel_rfl
theorem mM:cfg.live 162 0=[0,1,5,6]:=by kernel_rfl
theorem AAR:cfg.mode 163=.ro:=by kernel_rfl
theorem eH:cfg.d7 163 1=[]:=by kernel_rfl
theorem AAS:cfg.mode 165=.auto:=by kernel_rfl
theorem AAT:cfg.mode 166=.auto:=by kernel_rfl
theorem AAU:cfg.mode 167=.auto:=by kernel_rfl
theorem mN:cfg.live 167 0=[0,1,5]:=by kernel_rfl
theorem AAV:cfg.mode 168=.auto:=by kernel_rfl
theorem AAW:cfg.mode 169=.auto:=by kernel_rfl
theorem AAX:cfg.mode 170=.auto:=by kernel_rfl
theorem eI:cfg.d7 170 4=[(2,14),(4,14),(6,14)]:=by kernel_rfl
theorem mO:cfg.live 170 0=[0,2,4,6]:=by kernel_rfl
theorem mR:cfg.live 170 2=[0,2,4,7]:=by kernel_rfl
theorem AAY:cfg.mode 180=.ro:=by kernel_rfl
theorem AAZ:cfg.mode 181=.own:=by kernel_rfl
theorem mU:cfg.live 181 0=[1,5,8,9,10]:=by kernel_rfl
theorem AAa:cfg.mode 183=.own:=by kernel_rfl
theorem mV:cfg.live 183 0=[1,5,8,9,10]:=by kernel_rfl
theorem AAb:cfg.mode 185=.ro:=by kernel_rfl
theorem mX:cfg.live 185 0=[0,1,7,8]:=by kernel_rfl
theorem AAc:cfg.mode 186=.auto:=by kernel_rfl
theorem AAd:cfg.mode 187=.auto:=by kernel_rfl
theorem mY:cfg.live 187 0=[0,2,5,9,10]:=by kernel_rfl
theorem AAe:cfg.mode 188=.auto:=by kernel_rfl
theorem eJ:cfg.d7 188 5=[]:=by kernel_rfl
theorem mZ:cfg.live 188 0=[2,3,5,6]:=by kernel_rfl
theorem AAf:cfg.mode 190=.own:=by kernel_rfl
theorem eK:cfg.d7 190 7=[(0,4),(4,6),(4,7),(0,8),(2,8),(3,8),(4,8),(4,10),(8,10),(4,11),(8,11),(0,12),(2,12),(3,12),(4,12),(6,12),(7,12),(8,12)]:=by kernel_rfl
theorem ma:cfg.live 190 0=[1,24,25,26]:=by kernel_rfl
theorem AAg:cfg.mode 199=.auto:=by kernel_rfl
theorem AAh:cfg.mode 200=.auto:=by kernel_rfl
theorem mb:cfg.live 200 0=[0,5,6]:=by kernel_rfl
theorem AAi:cfg.mode 201=.auto:=by kernel_rfl
theorem eN:cfg.d7 201 1=[]:=by kernel_rfl
theorem eO:cfg.d7 201 4=[(4,7),(5,7)]:=by kernel_rfl
theorem Zh:cfg.d7 201 14=[]:=by kernel_rfl
theorem Zi:cfg.d7 201 25=[]:=by kernel_rfl
theorem Zj:cfg.d7 201 26=[(4,9),(6,9),(7,9),(8,9)]:=by kernel_rfl
theorem Zk:cfg.d7 201 32=[(2,6)]:=by kernel_rfl
theorem mc:cfg.live 201 1=[0,2,6,154,155,156]:=by kernel_rfl
theorem me:cfg.live 201 3=[0,2,6,11,190,191,192]:=by kernel_rfl
theorem mf:cfg.live 201 5=[0,2,6,207,208,209]:=by kernel_rfl
theorem mg:cfg.live 201 7=[0,2,220,221,222]:=by kernel_rfl
theorem TL:cfg.alone 201 4 10=true:=by kernel_rfl
theorem RQ:cfg.alone 201 14 25=true:=by kernel_rfl
theorem TJ:cfg.alone 201 32 8=true:=by kernel_rfl
theorem AAj:cfg.mode 202=.auto:=by kernel_rfl
theorem AAk:cfg.mode 210=.own:=by kernel_rfl
theorem AAl:cfg.mode 211=.auto:=by kernel_rfl
theorem AAm:cfg.mode 212=.auto:=by kernel_rfl
theorem AAn:cfg.mode 213=.auto:=by kernel_rfl
theorem Zl:cfg.d7 213 23=[]:=by kernel_rfl
theorem mh:cfg.live 213 0=[1,2,31,32,33]:=by kernel_rfl
theorem mj:cfg.live 213 2=[1,2,52,53,54]:=by kernel_rfl
theorem mm:cfg.live 213 4=[1,2,7,72,73,74]:=by kernel_rfl
theorem mn:cfg.live 213 6=[1,2,7,9,72,73,74,94,95,96]:=by kernel_rfl
theorem RR:cfg.alone 213 23 29=true:=by kernel_rfl
theorem AAo:cfg.mode 214=.auto:=by kernel_rfl
theorem AAp:cfg.mode 215=.auto:=by kernel_rfl
theorem mq:cfg.live 215 0=[2,5,9,10,11]:=by kernel_rfl
theorem AAq:cfg.mode 216=.auto:=by kernel_rfl
theorem mr:cfg.live 216 0=[0,1,7,8]:=by kernel_rfl
theorem AAr:cfg.mode 217=.auto:=by kernel_rfl
theorem mu:cfg.live 217 1=[1,4,73,74,75]:=by kernel_rfl
theorem AAs:cfg.mode 218=.auto:=by kernel_rfl
theorem AAt:cfg.mode 219=.auto:=by kernel_rfl
theorem AAu:cfg.mode 220=.auto:=by kernel_rfl
theorem mw:cfg.live 220 0=[0,1,7,8]:=by kernel_rfl
theorem AAv:cfg.mode 236=.auto:=by kernel_rfl
theorem AAw:cfg.mode 237=.auto:=by kernel_rfl
theorem AAx:cfg.mode 238=.auto:=by kernel_rfl
theorem AAy:cfg.mode 239=.auto:=by kernel_rfl
theorem AAz:cfg.mode 240=.auto:=by kernel_rfl
theorem rI:cfg.ol 50=some 177:=Eq.trans (b:=cfg.ol 50) rfl (by kernel_rfl)
theorem UK:cfg.ol 189=some 289:=Eq.trans (b:=cfg.ol 189) rfl (by kernel_rfl)
attribute [go_sem] T3 T4 T5 T9 T22 T23 T24 T26 T27 T28 T29 T30 T32 T33 T36 T38 T44 T63 T66 T67 T69 T71 T73 T76 T78 T82 T83 T85 T86 T88 AFc AFd AFe AFf AFg AFh AFi AFj AFk AFl AFm AFn AFo AFp AFq AFr AFs AFt AFu AFv AFw AFx AFy AB7 AFz AF0 AF1 AF2 AF3 AF4 AF5 AB8 vS od zR zS AC1 AC2 oG eP eR eT tU tV tW tX AC3 eU tZ AC4 AC5 eV tb AC6 oH eW tc td AC7 oI te AC8 tf AC9 ADA oJ eY eZ tg th tj tl ADB oM oO oQ ec ed ee ef Vn ADE oT tm ADF ADG ADH tn tp ADI ADJ tq ADK tr tt ADL oU oV tu ADM oW ADN oX eg tv tw tx ADO ADP ADQ oY tz ADR oZ ADS ADT oc eh uD uE uF uH ADU oe ei eo ep er et eu ew ey ez uI uJ uK uO uR my mz Vo TM TN TP TQ TR TS ADV og ADW oh oj om ADX ADY oo ADZ zj dY dZ da db dc ZR lR TF zk dg zl dh ZS lU lV zm di zn zo zp zq dj ZT ZU lY zr dk lZ zt dp dt du dv ZV ZW ZX ZY ZZ Za la lf lg lh lj RP TG zu dw dx TH zv dy zw dz lk zx eA Zb ll zy z5 z6 z7 z8 ln z9 lq AAA AAB lr AAC eB Zc lu lv ly l6 l7 cu AAD Zd Ze Zf Zg l8 l9 AAE AAF mC AAG mE AAH mF eC AAI AAJ mG AAK eD AAL AAM mH eE eF mI mJ AAN mL AAO AAP eG AAQ mM AAR eH AAS AAT AAU mN AAV AAW AAX eI mO mR AAY AAZ mU AAa mV AAb mX AAc AAd mY AAe eJ mZ AAf eK ma AAg AAh mb AAi eN eO Zh Zi Zj Zk mc me mf mg TL RQ TJ AAj AAk AAl AAm AAn Zl mh mj mm mn RR AAo AAp mq AAq mr AAr mu AAs AAt AAu mw AAv AAw AAx AAy AAz rI UK
inductive BS where
 |mk (op n:Int) (kids:List BS)
def BS.op:BS→Int|.mk o _ _=>o
def BS.n:BS→Int|.mk _ n _=>n
def BS.kids:BS→List BS|.mk _ _ k=>k
structure CT where
 kind:Int
 n:Int
 deriving DecidableEq
structure Cq where
 op:Int
 n:Int
 args:List BS
 kids:List Int
structure Hb where
 at_:Int
 many:Int
structure M6 where
 of:Int
 node:Int
structure Fi where
 at_:Int
 d8:List Int
 node:Int
structure Bq where
 am:List Hb
 ac:List M6
 rules:List Fi
structure AI where
 free:List ByteArray
 nodes:List Cq
 defs:List Bq
 main:Int
structure BL where
 of:Int
 dead:Bool
 deriving DecidableEq
structure Ao where
 eq:Int
 at_:Int
 env:List CT
structure GR where
 group:Int
 index:Int
 at_:Int
 queue:List (List CT)
structure GI where
 at_:Int
 node:Int
 env:List CT
structure BM where
 ac:List BL
 bi:List Ao
 am:List GR
 waits:List GI
structure FY where
 wait:Int
 group:Int
 ut:Int
 picks:List Int
structure EK where
 wt:Int
 at_:Int
 n:Int
 m:Int
 jp:List CT
mutual
def BU:BS→List AZ
 |.mk op n kids=>[.int .i64 op,.int .i64 n,.be (Qw kids)]
def Qw:List BS→List (List AZ)
 |[]=>[]
 |x::l=>BU x::Qw l
end
theorem R3: ∀l,Qw l=l.map BU
 |[]=>rfl
 |x::l=>by simp[Qw,R3 l]
theorem Ua(x:BS):BU x=[.int .i64 x.op,.int .i64 x.n,.be (x.kids.map BU)]:=by
 cases x;simp[BU,R3,BS.op,BS.n,BS.kids]
theorem BS.ind{p:BS→Prop}(h: ∀op n kids,(∀k∈kids,p k)→p (.mk op n kids)): ∀x,p x:=by
 intro x;refine BS.rec (motive_1:=p) (motive_2:=fun l=> ∀k∈l,p k) (fun op n kids ih=>h op n kids ih) (by simp) (fun a l h1 h2 k hk=>?_) x;rcases Ce.1 hk with rfl|hk
 .exact h1
 .exact h2 k hk
theorem BS.op_mk(o n:Int)(k:List BS):(BS.mk o n k).op=o:=rfl
theorem BS.n_mk(o n:Int)(k:List BS):(BS.mk o n k).n=n:=rfl
theorem BS.kids_mk(o n:Int)(k:List BS):(BS.mk o n k).kids=k:=rfl
def AK(n:Int):List AZ:=[.int .i64 n]
def Av(s:ByteArray):List AZ:=[.str s]
def AL(v:CT):List AZ:=[.int .i64 v.kind,.int .i64 v.n]
def Ad(x:Cq):List AZ:=[.int .i64 x.op,.int .i64 x.n,.be (x.args.map BU),.be (x.kids.map AK)]
def Az(c:Hb):List AZ:=[.int .i64 c.at_,.int .i64 c.many]
def Aj(s:M6):List AZ:=[.int .i64 s.of,.int .i64 s.node]
def Ay(r:Fi):List AZ:=[.int .i64 r.at_,.be (r.d8.map AK),.int .i64 r.node]
def Ax(d:Bq):List AZ:=[.be (d.am.map Az),.be (d.ac.map Aj),.be (d.rules.map Ay)]
def Aa(s:BL):List AZ:=[.int .i64 s.of,.bool s.dead]
def An(g:Ao):List AZ:=[.int .i64 g.eq,.int .i64 g.at_,.be (g.env.map AL)]
def BW(m:List CT):List AZ:=[.be (m.map AL)]
def Bc(c:GR):List AZ:=[.int .i64 c.group,.int .i64 c.index,.int .i64 c.at_,.be (c.queue.map BW)]
def AU(w:GI):List AZ:=[.int .i64 w.at_,.int .i64 w.node,.be (w.env.map AL)]
def OI(x:EK):List AZ:=[.int .i64 x.wt,.int .i64 x.at_,.int .i64 x.n,.int .i64 x.m,.be (x.jp.map AL)]
def E1(x:FY):List AZ:=[.int .i64 x.wait,.int .i64 x.group,.int .i64 x.ut,.be (x.picks.map AK)]
def yJ(p:AI):List AZ:=[.be (p.free.map Av),.be (p.nodes.map Ad),.be (p.defs.map Ax),.int .i64 p.main]
attribute [go_sem] Ua AK Av AL Ad Az Aj Ay Ax Aa An BW Bc AU OI E1 BS.op_mk BS.n_mk BS.kids_mk
theorem slice_int{l:List Int}{g:G}{k:IntKind}{m:Int}(h0:0≤m)(hm:m≤l.length):EU g .slice 1 (.d (.be (l.map AK))) none (some (.d (.int k m))) none=some (.d (.be ((l.take m.toNat).map AK))):=fe (fun _=>rfl) h0 hm
def i64(n:Int):Prop:= -9223372036854775808≤n∧n<9223372036854775808
theorem wrap_id{n:Int}(h1: -9223372036854775808≤n)(h2:n<9223372036854775808):IntKind.i64.wrap n=n:=by
 have hb:IntKind.i64.bits=64:=rfl;have hs:IntKind.i64.signed=true:=rfl;simp only[IntKind.wrap,hb,hs,D7,Ap];have e1:(2 ^ 64:Int)=18446744073709551616:=by decide
 have e2:(2 ^ (64-1):Int)=9223372036854775808:=by decide
 rw[e1,e2];split<;>omega
def AJ:=And.intro @wrap_id (And.intro @Pk (And.intro @Og @slice_int))
end Go.Proofs
namespace Go.Proofs
open Go Go.Abs
def BF(l:List BL)(i:Int):Int:=((l[i.toNat]?).map BL.of).getD 0
def Dd(l:List BL)(i:Int):Prop:=0≤i∧i<l.length
instance(l:List BL)(i:Int):Decidable (Dd l i):=by unfold Dd;infer_instance
def A7(l:List BL):Nat→Int→Bool
 |0,at_=>decide (at_=0)
 |k+1,at_=>decide (at_=0)||(decide (Dd l (BF l at_))&&A7 l k (BF l at_))
theorem FA(l:List BL)(k:Nat):A7 l k 0=true:=by cases k<;>simp[A7]
theorem NN(l:List BL): ∀(k:Nat) (i:Int),A7 l k i=true→A7 l (k+1) i=true
 |0,i,h=>by simp[A7]at h;subst h;exact FA _ _
 |k+1,i,h=>by
  rw[A7]at h⊢;by_cases h0:i=0
  .simp[h0]
  .simp only[h0,decide_false,Ii,AP]at h⊢;exact⟨h.1,NN l k _ h.2⟩
variable{l:List BL}{i:Int}{k:Nat}
theorem KC{m:Nat}(h:k≤m)(hc:A7 l k i=true):A7 l m i=true:=by
 induction h with
 |refl=>exact hc
 |step _ ih=>exact NN l _ i ih
theorem vV: ∀(n:Nat) (l:List Nat),l.Nodup→(∀x∈l,x<n)→l.length≤n
 |0,l,_,h=>by
  cases l with
  |nil=>simp
  |cons a l=>exact absurd (h a (by simp)) (by omega)
 |n+1,l,hn,h=>by
  have h1:=vV n (l.erase n) (hn.erase n) (fun x hx=>by
   have hx2:=(List.Nodup.mem_erase_iff hn).1 hx;have:=h x hx2.2;omega)
  by_cases hm:n∈l
  .rw[List.length_erase_of_mem hm]at h1;omega
  .rw[List.erase_of_not_mem hm]at h1;omega
theorem Rr(l:List BL)(hl:0<l.length): ∀(k:Nat) (i:Int),Dd l i→A7 l k i=true→(∀j,j<k→A7 l j i=false)→ ∃p:List Nat,p.length=k+1∧p.Nodup∧(∀x∈p,x<l.length)∧ ∀x∈p,∃j,j≤k∧A7 l j x=true∧ ∀m,m<j→A7 l m x=false
 |0,i,hi,hc,hm=>⟨[0],rfl,by simp,by simp[hl],by
  intro x hx;cases As.1 hx;exact⟨0,EL _,FA _ _,fun m hm=>by omega⟩⟩
 |k+1,i,hi,hc,hm=>by
  have h0: ¬i=0:=fun h=>by
   have:=hm 0 (by omega);rw[h,FA]at this;cases this
  have hc2:=hc;rw[A7]at hc2;simp only[h0,decide_false,Ii,AP,Ap]at hc2;obtain⟨p,hp1,hp2,hp3,hp4⟩:=Rr l hl k (BF l i) hc2.1 hc2.2 (fun j hj=>by
   have:=hm (j+1) (by omega);rw[A7]at this;simp only[h0,decide_false,Ii,QR,Rc]at this;rcases this with h|h
   .exact absurd hc2.1 h
   .exact h)
  refine⟨i.toNat::p,by simp[hp1],?_,?_,?_⟩
  .refine List.nodup_cons.2 ⟨fun hmem=>?_,hp2⟩;obtain⟨j,hj1,hj2,_⟩:=hp4 _ hmem;have hcast:((i.toNat:Nat):Int)=i:=PL hi.1;rw[hcast]at hj2;have:=hm j (by omega);rw[hj2]at this;cases this
  .intro x hx;rcases Ce.1 hx with rfl|hx
   .have:=hi.1;have:=hi.2;omega
   .exact hp3 x hx
  .intro x hx;rcases Ce.1 hx with rfl|hx
   .have hcast:((i.toNat:Nat):Int)=i:=PL hi.1;rw[hcast];exact⟨k+1,EL _,hc,hm⟩
   .obtain⟨j,hj1,hj2⟩:=hp4 x hx;exact⟨j,by omega,hj2⟩
theorem UQ: ∀{k:Nat},A7 l k i=true→ ∃m,m≤k∧A7 l m i=true∧ ∀j,j<m→A7 l j i=false
 |0,h=>⟨0,EL _,h,fun j hj=>by omega⟩
 |k+1,h=>by
  cases hk:A7 l k i with
  |true=>
   obtain⟨m,h1,h2,h3⟩:=UQ hk;exact⟨m,by omega,h2,h3⟩
  |false=>
   refine⟨k+1,EL _,h,fun j hj=>?_⟩;cases hj2:A7 l j i with
   |false=>rfl
   |true=>
    have:=KC (show j≤k by omega) hj2;rw[hk]at this;cases this
theorem LU(hi:Dd l i)(h:A7 l k i=true):A7 l (l.length-1) i=true:=by
 have hl:0<l.length:=by have:=hi.1;have:=hi.2;omega
 obtain⟨m,_,h2,h3⟩:=UQ h;obtain⟨p,hp1,hp2,hp3,_⟩:=Rr l hl m i hi h2 h3;have:=vV l.length p hp2 hp3;exact KC (by omega) h2
theorem bX(hi:Dd l i):A7 l (l.length+1) i=A7 l l.length i:=by
 cases h:A7 l l.length i with
 |true=>exact NN _ _ _ h
 |false=>
  cases h2:A7 l (l.length+1) i with
  |false=>rfl
  |true=>
   have:=KC (show l.length-1≤l.length by omega) (LU hi h2);rw[h]at this;cases this
def Ej(l:List BL):Nat→Nat→Bool
 |_,0=>true
 |i,n+1=>A7 l l.length i&&Ej l (i+1) n
def GZ(l:List BL):Bool:=decide (0<l.length)&&(decide (BF l 0= -1)&&Ej l 0 l.length)
theorem Kj(l:List BL): ∀(n i:Nat),Ej l i n=true↔ ∀j,i≤j→j<i+n→A7 l l.length j=true
 |0,i=>by simp[Ej];intro j h1 h2;omega
 |n+1,i=>by
  rw[Ej,AP,Kj l n (i+1)];constructor
  .rintro⟨h1,h2⟩ j h3 h4;by_cases h5:j=i
   .subst h5;exact h1
   .exact h2 j (by omega) (by omega)
  .intro h;exact⟨h i (by omega) (by omega),fun j h1 h2=>h j (by omega) (by omega)⟩
def QD(l:List BL):Nat→Int→List Int
 |0,b=>[b]
 |k+1,b=>if b=0 then [0]else b::QD l k (BF l b)
theorem RU(l:List BL): ∀(k m:Nat) (b:Int),A7 l k b=true→k≤m→QD l m b=QD l k b
 |0,m,b,h,hm=>by
  simp[A7]at h;subst h;cases m<;>simp[QD]
 |k+1,m,b,h,hm=>by
  obtain⟨m,rfl⟩: ∃j,m=j+1:=⟨m-1,by omega⟩;rw[QD,QD];split
  .rfl
  .rename_i h0;rw[A7]at h;simp only[h0,decide_false,Ii,AP]at h;rw[RU l k m _ h.2 (by omega)]
def CF(l:List BL)(b a:Int):Bool:=decide (a∈QD l l.length b)
structure GG(l:List BL):Prop where
 pos:0<l.length
 top:BF l 0= -1
 pm: ∀i,Dd l i→A7 l l.length i=true
theorem PH(h:GZ l=true):GG l:=by
 simp only[GZ,AP,Ap]at h;refine⟨h.1,h.2.1,fun i hi=>?_⟩;have:=(Kj l l.length 0).1 h.2.2 i.toNat (by omega) (by have:=hi.1;have:=hi.2;omega)
 rwa [PL hi.1]at this
theorem wq(h:GG l):GZ l=true:=by
 simp only[GZ,AP,Ap];refine⟨h.pos,h.top,(Kj l l.length 0).2 fun j h1 h2=>h.pm j ⟨by omega,by omega⟩⟩
end Go.Proofs
namespace Go.Proofs
open Go Go.Abs
def CT.inB(p:AI)(nc ns:Nat)(v:CT):Bool:=
 if v.kind=1 then decide (-1000000000≤v.n)&&decide (v.n≤1000000000)else if v.kind=2 then decide (0≤v.n)&&decide (v.n<p.free.length)
 else if v.kind=3 then decide (0≤v.n)&&decide (v.n<nc)else if v.kind=4 then decide (0≤v.n)&&decide (v.n<ns)else false
variable{l:List BL}{k:Nat}{b:Int}
theorem gP(h: ¬b=0)(hc:A7 l (k+1) b=true):QD l (k+1) b=b::QD l k (BF l b):=by
 rw[QD,CS h]
theorem E9(h: ¬b=0)(hc:A7 l (k+1) b=true):Dd l (BF l b)∧A7 l k (BF l b)=true:=by
 rw[A7]at hc;simp only[h,decide_false,Ii,AP,Ap]at hc;exact hc
end Go.Proofs
namespace Go.Proofs
open Go Go.Abs
theorem RV(l:List BL)(k:Nat)(c:Int):c∈QD l k c:=by
 cases k with
 |zero=>simp[QD]
 |succ k=>
  rw[QD];split
  .rename_i h;simp[h]
  .simp
theorem XU(l:List BL)(k:Nat):QD l k 0=[0]:=by cases k<;>simp[QD]
end Go.Proofs
namespace Go.Proofs
open Go Go.Abs
set_option maxRecDepth 100000
set_option maxHeartbeats 2000000
def BS.formed(size:Int):BS→Bool
 |.mk op n kids=>
  if op=1 then decide (kids.length=0)&&(decide (-1000000000≤n)&&decide (n≤1000000000))
  else if op=2 then decide (kids.length=0)&&(decide (0≤n)&&decide (n<size))
  else if op<3 then false
  else if 7<op then false
  else if n=0 then match kids with
   |[a,b]=>a.formed size&&b.formed size
   |_=>false
  else false
theorem aZ{α:Type}{kids:List α}(hk:kids.length=2): ∃a b,kids=[a,b]:=by
 rcases kids with _|⟨a,_|⟨b,_|⟨c,l⟩⟩⟩<;>simp at hk;exact⟨a,b,rfl⟩
@[go_sem] theorem AEB(size:Int)(x:BS):BJ (KL Tryz.prog cfg) 123 [.agg [.d (.int .i64 x.op),.d (.int .i64 x.n),.d (.be (x.kids.map BU))],.d (.int .i64 size)] []=.ok (.ret (.d (.bool (x.formed size))),[]):=by
  induction x using BS.ind with
  |h op n kids ih=>
  simp only[BS.op_mk,BS.n_mk,BS.kids_mk]
  (refine Ar rfl Tryz.func123 rfl rfl rfl ?_;show Wp _ _ _ _ (Tryz.f123.body.get rfl) _ _;simp only[Tryz.f123,AS])
  rcases kids with _|⟨a,_|⟨b,_|⟨c,l⟩⟩⟩
  .clear ih
   (repeat' (first|simp only[go_sem, *]|(refine sx ?_ ?_<;>intro hc)|refine sy (by omega) fun x hx hm=>?_|simp(disch:=first|assumption|omega) only[AJ]))
   all_goals grind [BS.formed]
  .clear ih
   (repeat' (first|simp only[go_sem, *]|(refine sx ?_ ?_<;>intro hc)|refine sy (by omega) fun x hx hm=>?_|simp(disch:=first|assumption|omega) only[AJ]))
   all_goals grind [BS.formed]
  .have ha:=ih a (by simp);have hb:=ih b (by simp);clear ih
   (repeat' (first|simp only[go_sem, *]|(refine sx ?_ ?_<;>intro hc)|refine sy (by omega) fun x hx hm=>?_|simp(disch:=first|assumption|omega) only[AJ]))
   all_goals grind [BS.formed]
  .clear ih
   (repeat' (first|simp only[go_sem, *]|(refine sx ?_ ?_<;>intro hc)|refine sy (by omega) fun x hx hm=>?_|simp(disch:=first|assumption|omega) only[AJ]))
   all_goals grind [BS.formed]
@[go_sem] theorem AEE(k n:Int):BJ (KL Tryz.prog cfg) 119 [.agg [.d (.int .i64 k),.d (.int .i64 n)]] []=.ok (.ret (.d (.int .i64 (if k=1 then n else 0))),[]):=by
  (refine Ar rfl Tryz.func119 rfl rfl rfl ?_;show Wp _ _ _ _ (Tryz.f119.body.get rfl) _ _;simp only[Tryz.f119,AS])
  exact au
@[go_sem] theorem AFA(t:Bool):BJ (KL Tryz.prog cfg) 120 [.d (.bool t)] []=.ok (.ret (.d (.int .i64 (if t=true then 1 else 0))),[]):=by
  (refine Ar rfl Tryz.func120 rfl rfl rfl ?_;show Wp _ _ _ _ (Tryz.f120.body.get rfl) _ _;simp only[Tryz.f120,AS])
  exact au;all_goals grind
def PW(n:Int):Int:=min (max n (-1000000000)) 1000000000
def dU(v:CT):Int:=if v.kind=1 then v.n else 0
def opV(op a b:Int):Int:=if op=3 then IntKind.i64.wrap (a+b)else if op=4 then IntKind.i64.wrap (a-b)else if op=5 then IntKind.i64.wrap (a*b)else if op=6 then(if a<b then 1 else 0)else if a=b then 1 else 0
def BS.value(env:List CT):BS→CT
 |.mk op n kids=>
  if op=1 then⟨1,n⟩
  else if op=2 then(env[n.toNat]?).getD ⟨0,0⟩
  else match kids with
   |[a,b]=>⟨1,PW (opV op (dU (a.value env)) (dU (b.value env)))⟩
   |_=>⟨0,0⟩
theorem VZ(env:List CT)(n:Int)(kids:List BS):(BS.mk 1 n kids).value env=⟨1,n⟩:=by
 rcases kids with _|⟨a,_|⟨b,_|⟨c,l⟩⟩⟩<;>simp[BS.value]
theorem TA(env:List CT)(n:Int)(kids:List BS):(BS.mk 2 n kids).value env=(env[n.toNat]?).getD ⟨0,0⟩:=by
 rcases kids with _|⟨a,_|⟨b,_|⟨c,l⟩⟩⟩<;>simp[BS.value]
theorem VY(env:List CT)(op n:Int)(a b:BS)(h1: ¬op=1)(h2: ¬op=2):(BS.mk op n [a,b]).value env=⟨1,PW (opV op (dU (a.value env)) (dU (b.value env)))⟩:=by
 simp[BS.value,h1,h2]
theorem QN{size n:Int}{kids:List BS}(h:(BS.mk 2 n kids).formed size=true):0≤n∧n<size:=by
 rcases kids with _|⟨a,_|⟨b,_|⟨c,l⟩⟩⟩<;>simp[BS.formed]at h;exact h
theorem SC{size op n:Int}{kids:List BS}(h:(BS.mk op n kids).formed size=true)(h1: ¬op=1)(h2: ¬op=2):3≤op∧op≤7∧n=0∧ ∃a b,kids=[a,b]∧a.formed size=true∧b.formed size=true:=by
 rcases kids with _|⟨a,_|⟨b,_|⟨c,l⟩⟩⟩<;>simp[BS.formed,h1,h2]at h;exact⟨h.1,h.2.1,h.2.2.1,a,b,rfl,h.2.2.2⟩
@[go_sem] theorem xF(env:List CT)(x:BS)(hf:x.formed env.length=true):BJ (KL Tryz.prog cfg) 75 [.agg [.d (.int .i64 x.op),.d (.int .i64 x.n),.d (.be (x.kids.map BU))],.d (.be (env.map AL))] []=.ok (.ret (.agg [.d (.int .i64 (x.value env).kind),.d (.int .i64 (x.value env).n)]),[]):=by
  induction x using BS.ind with
  |h op n kids ih=>
  simp only[BS.op_mk,BS.n_mk,BS.kids_mk]
  (refine Ar rfl Tryz.func75 rfl rfl rfl ?_;show Wp _ _ _ _ (Tryz.f75.body.get rfl) _ _;simp only[Tryz.f75,AS])
  by_cases h1:op=1
  .subst h1;clear ih
   (repeat' (first|simp only[go_sem, *,VZ]|(refine sx ?_ ?_<;>intro hc)|refine sy (by omega) fun x hx hm=>?_|simp(disch:=first|assumption|omega) only[AJ]))
  by_cases h2:op=2
  .subst h2;clear ih;obtain⟨hn,hl⟩:=QN hf;have hl:n.toNat<env.length:=by omega
   clear hf
   (repeat' (first|simp only[go_sem, *,TA,F5]|(refine sx ?_ ?_<;>intro hc)|refine sy (by omega) fun x hx hm=>?_|simp(disch:=first|assumption|omega) only[AJ]))
  obtain⟨h3,h4,h5,a,b,rfl,hfa,hfb⟩:=SC hf h1 h2;have ha:=ih a (by simp) hfa;have hb:=ih b (by simp) hfb;clear ih hf;rw[VY env op n a b h1 h2];generalize a.value env=u at*;generalize b.value env=v at*
  (repeat' (first|simp only[go_sem, *]|(refine sx ?_ ?_<;>intro hc)|refine sy (by omega) fun x hx hm=>?_|simp(disch:=first|assumption|omega) only[AJ]))
  all_goals grind [dU,PW,opV]
mutual
def BS.nodesM:BS→Int→Int
 |.mk _ _ kids,most=>FH kids 1 most
def FH:List BS→Int→Int→Int
 |[],n,_=>n
 |k::l,n,most=>if n≤most then FH l (n+k.nodesM (most-n)) most else n
end
mutual
theorem Pt: ∀(x:BS) (most:Int),0≤most→1≤x.nodesM most∧x.nodesM most≤most+1
 |.mk op n kids,most,h=>by
  rw[BS.nodesM];exact VC kids 1 most (by omega) (by omega)
theorem VC: ∀(l:List BS) (n most:Int),1≤n→n≤most+1→1≤FH l n most∧FH l n most≤most+1
 |[],n,most,h1,h2=>by simp[FH];omega
 |k::l,n,most,h1,h2=>by
  rw[FH];split
  .rename_i h;have:=Pt k (most-n) (by omega);exact VC l _ most (by omega) (by omega)
  .omega
end
theorem ZJ(l:List BS)(n most:Int)(h: ¬n≤most):FH l n most=n:=by
 cases l<;>simp[FH,h]
variable{α:Type}{l:List α}{i:Nat}
theorem AO{x:α}(h:l[i]? =some x):l.drop i=x::l.drop (i+1):=by
 have hi:=(BE.1 h).1;rw[RS hi];congr 1;have:=BY hi;rw[h]at this;injection this with this
 exact this.symm
theorem AH{x:α}(h:l[i]? =some x):i<l.length:=(BE.1 h).1
@[go_sem] theorem QM(x:BS)(most:Int)(h0:0≤most)(h1:most≤60):BJ (KL Tryz.prog cfg) 121 [.agg [.d (.int .i64 x.op),.d (.int .i64 x.n),.d (.be (x.kids.map BU))],.d (.int .i64 most)] []=.ok (.ret (.d (.int .i64 (x.nodesM most))),[]):=by
  revert most
  induction x using BS.ind with
  |h op n kids ih=>
  intro most h0 h1;simp only[BS.op_mk,BS.n_mk,BS.kids_mk]at*
  (refine Ar rfl Tryz.func121 rfl rfl rfl ?_;show Wp _ _ _ _ (Tryz.f121.body.get rfl) _ _;simp only[Tryz.f121,AS])
  refine aw ?_;refine rounds (S:=fun a:Nat×Int=>⟨[(1,.d (.int .i64 most)),(2,.ptr [0,0] 0),(5,.d (.int .i64 a.2)),(6,.d (.int .i64 a.1))],[([0,0],.box [.d (.int .i64 op),.d (.int .i64 n),.d (.be (kids.map BU))])],1,[]⟩)
   (Inv:=fun a=>a.1≤kids.length∧(a.1:Int)+1≤a.2∧a.2≤most+1∧FH kids 1 most=FH (kids.drop a.1) a.2 most) (m:=fun a=>kids.length-a.1) (a:=(0,1)) ⟨by simp,by simp,by simp;omega,by simp⟩ ?_
  rintro⟨i,c⟩ ⟨h2,h3,h4,h5⟩ IH;dsimp only at*
  (repeat' (first|simp only[go_sem, *]|(refine sx ?_ ?_<;>intro hc)|refine sy (by omega) fun x hx hm=>?_|simp(disch:=first|assumption|omega) only[AJ,ih]))
  .have h6:=Pt x (most-c) (by omega);have h7:FH (kids.drop i) c most=FH (kids.drop (i+1)) (c+x.nodesM (most-c)) most:=by
    rw[AO hx,FH,DO (by assumption)]
   rw[wrap_id (by omega) (by omega)];simpa only[Int.natCast_add,Int.cast_ofNat_Int]using IH.out (i+1,c+x.nodesM (most-c)) (by dsimp only;omega) ⟨by dsimp only;omega,by dsimp only;omega,by dsimp only;omega,by dsimp only;rw[h5,h7]⟩
  .rw[BS.nodesM,h5,ZJ _ _ _ (by assumption)]
  .rw[BS.nodesM,h5,D5 (by omega)];rfl
mutual
def BS.size:BS→Nat
 |.mk _ _ kids=>1+Du kids
def Du:List BS→Nat
 |[]=>0
 |k::l=>k.size+Du l
end
mutual
theorem VD: ∀(x:BS) (most:Int),0≤most→((x.size:Int)≤most→x.nodesM most=x.size)∧(most<x.size→most<x.nodesM most)
 |.mk op n kids,most,h=>by
  rw[BS.nodesM,BS.size];have:=VB kids 1 most (by omega);constructor
  .intro h1;rw[this.1 (by omega)];omega
  .intro h1;exact this.2 (by omega)
theorem VB: ∀(l:List BS) (n most:Int),n≤most+1→(n+Du l≤most→FH l n most=n+Du l)∧(most<n+Du l→most<FH l n most)
 |[],n,most,h1=>by
  simp[FH,Du]
 |k::l,n,most,h1=>by
  rw[FH,Du];split
  .rename_i h;have h2:=VD k (most-n) (by omega);have h3:=Pt k (most-n) (by omega);have h4:=VB l (n+k.nodesM (most-n)) most (by omega);by_cases h5:(k.size:Int)≤most-n
   .rw[h2.1 h5]at h4⊢;constructor
    .intro h6;rw[h4.1 (by omega)];omega
    .intro h6;exact h4.2 (by omega)
   .have:=h2.2 (by omega);constructor
    .intro h6;omega
    .intro h6;exact h4.2 (by omega)
  .omega
end
mutual
def BS.depth:BS→Nat
 |.mk _ _ kids=>EA kids+1
def EA:List BS→Nat
 |[]=>0
 |k::l=>max k.depth (EA l)
end
mutual
theorem X7: ∀(x:BS),x.depth≤x.size
 |.mk op n kids=>by
  rw[BS.depth,BS.size];have:=UR kids;omega
theorem UR: ∀(l:List BS),EA l≤Du l
 |[]=>by simp[EA,Du]
 |k::l=>by
  rw[EA,Du];have:=X7 k;have:=UR l;omega
end
theorem Sz{k:BS}: ∀{l:List BS},k∈l→k.size≤Du l
 |[],h=>by cases h
 |x::l,h=>by
  rw[Du];rcases Ce.1 h with rfl|h
  .omega
  .have:=Sz h;omega
theorem S0(x:BS):1≤x.size:=by cases x;simp[BS.size]
theorem VQ: ∀(l:List BS),l.length≤Du l
 |[]=>by simp
 |x::l=>by
  have:=S0 x;have:=VQ l;simp[Du];omega
@[go_sem] theorem ABk(x:BS)(h0:x.size≤60):BJ (KL Tryz.prog cfg) 122 [.agg [.d (.int .i64 x.op),.d (.int .i64 x.n),.d (.be (x.kids.map BU))]] []=.ok (.ret (.d (.int .i64 x.depth)),[]):=by
  revert h0
  induction x using BS.ind with
  |h op n kids ih=>
  intro h0;simp only[BS.op_mk,BS.n_mk,BS.kids_mk]at*;have hlen:=VQ kids;have hlen2:Du kids≤59:=by rw[BS.size]at h0;omega
  clear h0;have ih: ∀k∈kids,BJ (KL Tryz.prog cfg) 122 [.agg [.d (.int .i64 k.op),.d (.int .i64 k.n),.d (.be (k.kids.map BU))]] []=.ok (.ret (.d (.int .i64 k.depth)),[]):=fun k hk=>ih k hk (by have:=Sz hk;omega)
  (refine Ar rfl Tryz.func122 rfl rfl rfl ?_;show Wp _ _ _ _ (Tryz.f122.body.get rfl) _ _;simp only[Tryz.f122,AS])
  refine aw ?_;refine rounds (S:=fun a:Nat×Nat=>⟨[(1,.ptr [0,0] 0),(3,.d (.int .i64 a.2)),(4,.d (.int .i64 a.1))],[([0,0],.box [.d (.int .i64 op),.d (.int .i64 n),.d (.be (kids.map BU))])],1,[]⟩)
   (Inv:=fun a=>a.1≤kids.length∧a.2≤60∧EA kids=max a.2 (EA (kids.drop a.1))) (m:=fun a=>kids.length-a.1) (a:=(0,0)) ⟨by simp,by simp,by simp⟩ ?_
  rintro⟨i,c⟩ ⟨h2,h3,h4⟩ IH;dsimp only at*
  (repeat' (first|simp only[go_sem, *]|(refine sx ?_ ?_<;>intro hc)|refine sy (by omega) fun x hx hm=>?_|simp(disch:=first|assumption|omega) only[AJ,ih]))
  .have h5:EA (kids.drop i)=max x.depth (EA (kids.drop (i+1))):=by
    rw[AO hx,EA]
   have h6:=X7 x;have h7:=Sz hm;have e:(if (x.depth:Int)>(c:Int)then(x.depth:Int)else(c:Int))=((max c x.depth:Nat):Int):=by split<;>omega
   rw[e];simpa only[Int.natCast_add,Int.cast_ofNat_Int]using IH.out (i+1,max c x.depth) (by dsimp only;omega) ⟨by dsimp only;omega,by dsimp only;omega,by dsimp only;omega⟩
  .rw[BS.depth,h4,D5 (by omega)];simp[EA]
def BS.ok(size:Int)(x:BS):Bool:=decide (x.size≤60)&&(decide (x.depth≤12)&&x.formed size)
@[go_sem] theorem yU(size:Int)(x:BS):BJ (KL Tryz.prog cfg) 76 [.agg [.d (.int .i64 x.op),.d (.int .i64 x.n),.d (.be (x.kids.map BU))],.d (.int .i64 size)] []=.ok (.ret (.d (.bool (x.ok size))),[]):=by
  have h1:=VD x 60 (by omega)
  (refine Ar rfl Tryz.func76 rfl rfl rfl ?_;show Wp _ _ _ _ (Tryz.f76.body.get rfl) _ _;simp only[Tryz.f76,AS])
  by_cases hs:x.size≤60
  .have h2:=h1.1 (by omega);clear h1
   (repeat' (first|simp only[go_sem, *]|(refine sx ?_ ?_<;>intro hc)|refine sy (by omega) fun x hx hm=>?_|simp(disch:=first|assumption|omega) only[AJ,QM]))
   all_goals grind [BS.ok]
  .have h2:=h1.2 (by omega);clear h1
   (repeat' (first|simp only[go_sem, *]|(refine sx ?_ ?_<;>intro hc)|refine sy (by omega) fun x hx hm=>?_|simp(disch:=first|assumption|omega) only[AJ,QM]))
   all_goals grind [BS.ok]
def CT.ok(v:CT):Bool:=decide (1≤v.kind)&&(decide (v.kind≤4)&&(!decide (v.kind=1)||(decide (-1000000000≤v.n)&&decide (v.n≤1000000000))))
def G7:AV:=.iface 289 (.agg [.d (.int .i64 2)])
theorem cJ:flat G7=true:=by simp[G7,flat,FV,EH]
@[go_sem] theorem ABt(l:List Df)(h:AB)(id:Abs.Id)(off:Nat):C5 cfg none (.call 189 [.ptr id off]::l) (some G7) h=Wc cfg none l h id off .i64 2 (h.get id):=by
  rw[G7,Oh UK (ab _)]
attribute [go_sem] cJ
@[go_sem] theorem AFD(t:Bool):BJ (KL Tryz.prog cfg) 199 [.d (.bool t)] []=B4 G7 t:=by
  cases t
  .rw[Ju]
   (refine Ar rfl Tryz.func199 rfl rfl rfl ?_;show Wp _ _ _ _ (Tryz.f199.body.get rfl) _ _;simp only[Tryz.f199,AS])
   (repeat' (first|simp only[go_sem, *,G7]|(refine sx ?_ ?_<;>intro hc)|refine sy (by omega) fun x hx hm=>?_|simp(disch:=first|assumption|omega) only[AJ]))
  .rw[K2]
   (refine Ar rfl Tryz.func199 rfl rfl rfl ?_;show Wp _ _ _ _ (Tryz.f199.body.get rfl) _ _;simp only[Tryz.f199,AS])
   exact au
def L8(op:Int):AV:=
 if op=1 then .iface 314 (.d (.int .i64 0))else if op=7 then .iface 314 (.d (.int .i64 0))else if op=3 then .iface 314 (.d (.int .i64 2))else if op=2 then .iface 307 (.agg [])else if op=5 then .iface 310 (.agg [])
 else if op=6 then .iface 308 (.agg [])else if op=8 then .iface 308 (.agg [])else if op=4 then .iface 309 (.agg [])else .d .kw
theorem HK(op:Int):BJ (KL Tryz.prog cfg) 211 [.d (.int .i64 op)] []=.ok (.ret (L8 op),[]):=by
 (refine Ar rfl Tryz.func211 rfl rfl rfl ?_;show Wp _ _ _ _ (Tryz.f211.body.get rfl) _ _;simp only[Tryz.f211,AS])
 (repeat' (first|simp only[go_sem, *,L8]|(refine sx ?_ ?_<;>intro hc)|refine sy (by omega) fun x hx hm=>?_|simp(disch:=first|assumption|omega) only[AJ]))
@[go_sem] theorem AFM:BJ (KL Tryz.prog cfg) 236 [.agg []] []=.ok (.ret (.d (.int .i64 0)),[]):=by
  (refine Ar rfl Tryz.func236 rfl rfl rfl ?_;show Wp _ _ _ _ (Tryz.f236.body.get rfl) _ _;simp only[Tryz.f236,AS])
  exact au
@[go_sem] theorem AFN:BJ (KL Tryz.prog cfg) 237 [.agg []] []=.ok (.ret (.d (.int .i64 1)),[]):=by
  (refine Ar rfl Tryz.func237 rfl rfl rfl ?_;show Wp _ _ _ _ (Tryz.f237.body.get rfl) _ _;simp only[Tryz.f237,AS])
  exact au
@[go_sem] theorem AFO:BJ (KL Tryz.prog cfg) 238 [.agg []] []=.ok (.ret (.d (.int .i64 1)),[]):=by
  (refine Ar rfl Tryz.func238 rfl rfl rfl ?_;show Wp _ _ _ _ (Tryz.f238.body.get rfl) _ _;simp only[Tryz.f238,AS])
  exact au
@[go_sem] theorem AFP:BJ (KL Tryz.prog cfg) 239 [.agg []] []=.ok (.ret (.d (.int .i64 2)),[]):=by
  (refine Ar rfl Tryz.func239 rfl rfl rfl ?_;show Wp _ _ _ _ (Tryz.f239.body.get rfl) _ _;simp only[Tryz.f239,AS])
  exact au
@[go_sem] theorem AFQ(n:Int):BJ (KL Tryz.prog cfg) 240 [.d (.int .i64 n)] []=.ok (.ret (.d (.int .i64 n)),[]):=by
  (refine Ar rfl Tryz.func240 rfl rfl rfl ?_;show Wp _ _ _ _ (Tryz.f240.body.get rfl) _ _;simp only[Tryz.f240,AS])
  exact au
def Bq.own(d:Bq):Nat:=d.am.length+d.ac.length
theorem ADl(d:Bq)(h1:d.am.length≤1000)(h2:d.ac.length≤1000):BJ (KL Tryz.prog cfg) 214 [.agg [.d (.be (d.am.map Az)),.d (.be (d.ac.map Aj)),.d (.be (d.rules.map Ay))]] []=.ok (.ret (.d (.int .i64 d.own)),[]):=by
 (refine Ar rfl Tryz.func214 rfl rfl rfl ?_;show Wp _ _ _ _ (Tryz.f214.body.get rfl) _ _;simp only[Tryz.f214,AS])
 refine aw ?_;all_goals simp[Bq.own]
theorem AA6(d:Bq)(h1:d.am.length≤1000)(h2:d.ac.length≤1000):BJ (KL Tryz.prog cfg) 169 [.agg [.d (.be (d.am.map Az)),.d (.be (d.ac.map Aj)),.d (.be (d.rules.map Ay))]] []=.ok (.ret (.d (.int .i64 d.own)),[]):=by
 (refine Ar rfl Tryz.func169 rfl rfl rfl ?_;show Wp _ _ _ _ (Tryz.f169.body.get rfl) _ _;simp only[Tryz.f169,AS])
 refine aw ?_;all_goals simp[Bq.own]
def CH(d:Bq):List Int→Int
 |[]=>0
 |j::l=>((d.am[j.toNat]?).map Hb.many).getD 0+CH d l
def Bq.joinsOk(d:Bq)(r:Fi):Prop:=r.d8.length≤3∧(∀j∈r.d8,0≤j∧j<d.am.length)∧ ∀c∈d.am,0≤c.many∧c.many≤3
variable{i:Nat}
theorem get_some{α:Type}{l:List α}(h:i<l.length): ∃y,l[i]? =some y:=⟨_,BY h⟩
theorem jB(d:Bq)(r:Fi)(hj:d.joinsOk r):BJ (KL Tryz.prog cfg) 215 [.agg [.d (.be (d.am.map Az)),.d (.be (d.ac.map Aj)),.d (.be (d.rules.map Ay))],.agg [.d (.int .i64 r.at_),.d (.be (r.d8.map AK)),.d (.int .i64 r.node)]] []=.ok (.ret (.d (.int .i64 (CH d r.d8))),[]):=by
 obtain⟨h1,h2',h3'⟩:=hj;have h2:=AA.mk h2';have h3:=AA.mk h3';clear h2' h3'
 (refine Ar rfl Tryz.func215 rfl rfl rfl ?_;show Wp _ _ _ _ (Tryz.f215.body.get rfl) _ _;simp only[Tryz.f215,AS])
 refine aw ?_;refine rounds (S:=fun a:Nat×Int=>⟨[(2,.ptr [0,0] 0),(5,.d (.int .i64 a.2)),(9,.d (.be (r.d8.map AK))),(10,.d (.int .i64 r.d8.length)),(11,.d (.int .i64 a.1))],[([0,0],.box [.d (.be (d.am.map Az)),.d (.be (d.ac.map Aj)),.d (.be (d.rules.map Ay))])],1,[]⟩)
  (Inv:=fun a=>a.1≤r.d8.length∧0≤a.2∧a.2≤3*a.1∧AA (CH d r.d8=a.2+CH d (r.d8.drop a.1))) (m:=fun a=>r.d8.length-a.1) (a:=(0,0)) ⟨by simp,by simp,by simp,⟨by simp⟩⟩ ?_
 rintro⟨i,c⟩ ⟨k1,k2,k3,k4⟩ IH;dsimp only at*
 (repeat' (first|simp only[go_sem, *]|(refine sx ?_ ?_<;>intro hc)|refine sy (by omega) fun x hx hm=>?_|simp(disch:=first|assumption|omega) only[AJ]))
 .have hd:=h2.out x hm;obtain⟨y,hy⟩:=get_some (l:=d.am) (i:=x.toNat) (by omega);have hy3:=h3.out y (Ac hy);refine aw ?_;refine IH.out (i+1,c+y.many) (by dsimp only;omega) ⟨by dsimp only;omega,by dsimp only;omega,by dsimp only;omega,⟨?_⟩⟩;dsimp only;rw[k4.out,AO hx,CH,hy];simp only[El,F5];omega
 .rw[k4.out,D5 (by omega),CH,Int.add_zero]
theorem AA0(d:Bq)(r:Fi)(hj:d.joinsOk r):BJ (KL Tryz.prog cfg) 188 [.agg [.d (.be (d.am.map Az)),.d (.be (d.ac.map Aj)),.d (.be (d.rules.map Ay))],.agg [.d (.int .i64 r.at_),.d (.be (r.d8.map AK)),.d (.int .i64 r.node)]] []=.ok (.ret (.d (.int .i64 (CH d r.d8))),[]):=by
 obtain⟨h1,h2',h3'⟩:=hj;have h2:=AA.mk h2';have h3:=AA.mk h3';clear h2' h3'
 (refine Ar rfl Tryz.func188 rfl rfl rfl ?_;show Wp _ _ _ _ (Tryz.f188.body.get rfl) _ _;simp only[Tryz.f188,AS])
 refine aw ?_;refine rounds (S:=fun a:Nat×Int=>⟨[(2,.ptr [0,0] 0),(3,.ptr [0,1] 0),(5,.d (.int .i64 a.2)),(6,.d (.int .i64 a.1))],[([0,0],.box [.d (.be (d.am.map Az)),.d (.be (d.ac.map Aj)),.d (.be (d.rules.map Ay))]),([0,1],.box [.d (.int .i64 r.at_),.d (.be (r.d8.map AK)),.d (.int .i64 r.node)])],2,[]⟩)
  (Inv:=fun a=>a.1≤r.d8.length∧0≤a.2∧a.2≤3*a.1∧AA (CH d r.d8=a.2+CH d (r.d8.drop a.1))) (m:=fun a=>r.d8.length-a.1) (a:=(0,0)) ⟨by simp,by simp,by simp,⟨by simp⟩⟩ ?_
 rintro⟨i,c⟩ ⟨k1,k2,k3,k4⟩ IH;dsimp only at*;by_cases hi:i<r.d8.length
 .obtain⟨x,hx⟩:=get_some hi;have hd:=h2.out x (Ac hx);obtain⟨y,hy⟩:=get_some (l:=d.am) (i:=x.toNat) (by omega);have hy3:=h3.out y (Ac hy);have hi':(i:Int)<r.d8.length:=by omega
  refine aw ?_;refine IH.out (i+1,c+y.many) (by dsimp only;omega) ⟨by dsimp only;omega,by dsimp only;omega,by dsimp only;omega,⟨?_⟩⟩;dsimp only;rw[k4.out,AO hx,CH,hy];simp only[El,F5];omega
 ·(repeat' (first|simp only[go_sem, *]|(refine sx ?_ ?_<;>intro hc)|refine sy (by omega) fun x hx hm=>?_|simp(disch:=first|assumption|omega) only[AJ]))
  .omega
  .rw[k4.out,D5 (by omega),CH,Int.add_zero]
def LA(b:UInt8):Bool:=decide (97≤b.toNat)&&decide (b.toNat≤122)
def kwL:List ByteArray:=[⟨#[97,110,100]⟩,⟨#[100,101,102]⟩,⟨#[101,108,115,101]⟩,⟨#[103,111]⟩,⟨#[105,102]⟩,⟨#[105,110]⟩,⟨#[112,108,97,99,101]⟩,⟨#[115,116,111,112]⟩,⟨#[116,104,101,110]⟩,⟨#[119,97,116,99,104]⟩]
def kwM:List (AZ×AV):=kwL.map fun k=>(.str k,.d (.bool true))
def Ez(s:ByteArray):Bool:=decide (1≤s.size)&&(decide (s.size≤8)&&(s.data.toList.all LA&& !kwL.any (· ==s)))
@[go_sem] theorem ACo(l:List ByteArray)(s:ByteArray)(hl:l.length≤1000):BJ (KL Tryz.prog cfg) 167 [.d (.be (l.map Av)),.d (.str s)] []=.ok (.ret (.d (.bool (l.any (· ==s)))),[]):=by
  (refine Ar rfl Tryz.func167 rfl rfl rfl ?_;show Wp _ _ _ _ (Tryz.f167.body.get rfl) _ _;simp only[Tryz.f167,AS])
  refine aw ?_;refine rounds (S:=fun i:Nat=>⟨[(0,.d (.be (l.map Av))),(1,.d (.str s)),(5,.d (.int .i64 i))],[],0,[]⟩) (Inv:=fun i=>i≤l.length∧AA (l.any (· ==s)=(l.drop i).any (· ==s))) (m:=fun i=>l.length-i) (a:=0) ⟨by simp,⟨by simp⟩⟩ ?_;rintro i ⟨k1,k2⟩ IH
  (repeat' (first|simp only[go_sem, *]|(refine sx ?_ ?_<;>intro hc)|refine sy (by omega) fun x hx hm=>?_|simp(disch:=first|assumption|omega) only[AJ]))
  .rw[k2.out,AO hx,List.any_cons];simp[*]
  .refine IH.out (i+1) (by omega) ⟨by omega,⟨?_⟩⟩;rw[k2.out,AO hx,List.any_cons];simp[*]
  .rw[k2.out,D5 (by omega)];rfl
variable{s:ByteArray}
theorem SW{v:AV}: ∀{es:List (AZ×AV)},Cv es (.str s)=some none→ER es (.str s) v=es++[(.str s,v)]
 |[],_=>rfl
 |(k,w)::es,h=>by
  unfold Cv at h;unfold ER;split at h
  .cases h
  .rename_i hk;rw[hk];simp only[FN,NO,To];exact SW h
  .cases h
variable{h:AB}
theorem zN{id:Abs.Id}{es:List (AZ×AV)}(hg:h.get id=some (.map es))(hm:Cv es (.str s)=some none):mapPut cfg.T h.get (cfg.T 300) (.mp id) (.d (.str s)) (.d (.bool true))=some ⟨.undef,[(id,.map (es++[(.str s,.d (.bool true))]))]⟩:=by
 unfold mapPut;simp only[AB7,LX,T9,Jj,AV.isCell,Lw,hg,hm,SW hm]
theorem tC(id:Abs.Id)(o:Abs.Obj):AB.get [(id,o)] id=some o:=by simp only[Bd,is_self,F3]
@[go_sem] theorem ABr(k:Nat)(ρ:List Nat):BJ (KL Tryz.prog cfg) 210 [] (k::ρ)=.ok (.ret (.mp (1::1::k::ρ)),[(1::1::k::ρ,.map kwM)]):=by
  (refine Ar rfl Tryz.func210 rfl rfl rfl ?_;show Wp _ _ _ _ (Tryz.f210.body.get rfl) _ _;simp only[Tryz.f210,AS])
  refine aw ?_
  iterate 10 (rw[←AB7,zN (tC _ _)];rotate_left;exact rfl;refine aw ?_)
  rfl
theorem Wj: ∀(L:List ByteArray) (s:ByteArray),Cv (L.map fun k=>(AZ.str k,.d (.bool true))) (.str s)=some (if L.any (· ==s)=true then some (.d (.bool true))else none)
 |[],s=>by simp[Cv]
 |k::L,s=>by
  rw[D8,Cv,G5];cases hk:(k==s)with
  |true=>simp[hk]
  |false=>
   simp only[Wj L s,List.any_cons,hk,Ii]
theorem ACs(h:(kwL.any fun x=>x==s)=true):Cv kwM (.str s)=some (some (.d (.bool true))):=by
 rw[kwM,Wj,DO h]
theorem AEw(h:(kwL.any fun x=>x==s)=false):Cv kwM (.str s)=some none:=by
 rw[kwM,Wj,CS (by rw[h];simp)]
@[go_sem] theorem AF8(s:ByteArray):BJ (KL Tryz.prog cfg) 167 [.d (.be [[.str ⟨#[97,110,100]⟩],[.str ⟨#[100,101,102]⟩],[.str ⟨#[101,108,115,101]⟩],[.str ⟨#[103,111]⟩],[.str ⟨#[105,102]⟩],[.str ⟨#[105,110]⟩],[.str ⟨#[112,108,97,99,101]⟩],[.str ⟨#[115,116,111,112]⟩],[.str ⟨#[116,104,101,110]⟩],[.str ⟨#[119,97,116,99,104]⟩]]),.d (.str s)] []=.ok (.ret (.d (.bool (kwL.any (· ==s)))),[]):=ACo kwL s (by decide)
variable{b:UInt8}
theorem Pn(h: ¬(97≤b.toNat∧b.toNat≤122)):LA b=false:=by
 simp only[LA,QR,Rc];omega
theorem Wh(h:97≤b.toNat∧b.toNat≤122):LA b=true:=by
 simp only[LA,AP,Ap];exact h
theorem vB(s:ByteArray):BJ (KL Tryz.prog cfg) 127 [.d (.str s)] []=.ok (.ret (.d (.bool (Ez s))),[]):=by
 have hsz:s.data.toList.length=s.size:=by cases s;rfl
 (refine Ar rfl Tryz.func127 rfl rfl rfl ?_;show Wp _ _ _ _ (Tryz.f127.body.get rfl) _ _;simp only[Tryz.f127,AS])
 (repeat' (first|simp only[go_sem, *]|(refine sx ?_ ?_<;>intro hc)|refine sy (by omega) fun x hx hm=>?_|simp(disch:=first|assumption|omega) only[AJ]))
 .rw[Ez,CE (by omega)];rfl
 .rw[Ez,CE (p:=s.size≤8) (by omega),By,GC]
 have h1:1≤s.size:=by omega
 have h8:s.size≤8:=by omega
 refine rounds (S:=fun i:Nat=>⟨[(0,.d (.str s)),(3,.d (.int .i64 i))],[],0,[]⟩) (Inv:=fun i=>i≤s.size∧AA (s.data.toList.all LA=(s.data.toList.drop i).all LA)) (m:=fun i=>s.size-i) (a:=0) ⟨by simp,⟨by simp⟩⟩ ?_;rintro i ⟨k1,k2⟩ IH
 (repeat' (first|simp only[go_sem, *]|(refine sx ?_ ?_<;>intro hc)|refine sy (by omega) fun x hx hm=>?_|simp(disch:=first|assumption|omega) only[AJ]))
 .have:s.data.toList.all LA=false:=by rw[k2.out,AO hx,D3,Pn (by omega)];rfl
  simp[Ez,this]
 .have:s.data.toList.all LA=false:=by rw[k2.out,AO hx,D3,Pn (by omega)];rfl
  simp[Ez,this]
 .refine IH.out (i+1) (by omega) ⟨by omega,⟨?_⟩⟩;rw[k2.out,AO hx,D3,Wh (by omega)];rfl
 .have:s.data.toList.all LA=true:=by rw[k2.out,D5 (by omega)];rfl
  simp[Ez,this,h1,h8]
theorem AA1(s:ByteArray)(hs:s.size≤9223372036854775807):BJ (KL Tryz.prog cfg) 200 [.d (.str s)] []=.ok (.ret (.d (.bool (Ez s))),[]):=by
 have hsz:s.data.toList.length=s.size:=by cases s;rfl
 (refine Ar rfl Tryz.func200 rfl rfl rfl ?_;show Wp _ _ _ _ (Tryz.f200.body.get rfl) _ _;simp only[Tryz.f200,AS])
 refine aw ?_;refine rounds (S:=fun i:Nat=>⟨[(0,.d (.str s)),(5,.d (.int .i64 s.size)),(6,.d (.int .i64 i))],[],0,[]⟩) (Inv:=fun i=>i≤s.size∧AA (s.data.toList.all LA=(s.data.toList.drop i).all LA)) (m:=fun i=>s.size-i) (a:=0) ⟨by simp,⟨by simp⟩⟩ ?_;rintro i ⟨k1,k2⟩ IH;cases hk:kwL.any (· ==s)with
 |false=>
  (repeat' (first|simp only[go_sem, *,AEw hk]|(refine sx ?_ ?_<;>intro hc)|refine sy (by omega) fun x hx hm=>?_|simp(disch:=first|assumption|omega) only[AJ]))
  .have:s.data.toList.all LA=false:=by rw[k2.out,AO hx,D3,Pn (by omega)];rfl
   simp[Ez,this]
  .have:s.data.toList.all LA=false:=by rw[k2.out,AO hx,D3,Pn (by omega)];rfl
   simp[Ez,this]
  .refine IH.out (i+1) (by omega) ⟨by omega,⟨?_⟩⟩;rw[k2.out,AO hx,D3,Wh (by omega)];rfl
  .have:s.data.toList.all LA=true:=by rw[k2.out,D5 (by omega)];rfl
   have h1:1≤s.size:=by omega
   have h8:s.size≤8:=by omega
   simp[Ez,this,h1,h8,hk]
  .rw[Ez,CE (p:=s.size≤8) (by omega),By,GC]
  .rw[Ez,CE (by omega)];rfl
 |true=>
  (repeat' (first|simp only[go_sem, *,ACs hk]|(refine sx ?_ ?_<;>intro hc)|refine sy (by omega) fun x hx hm=>?_|simp(disch:=first|assumption|omega) only[AJ]))
  .have:s.data.toList.all LA=false:=by rw[k2.out,AO hx,D3,Pn (by omega)];rfl
   simp[Ez,this]
  .have:s.data.toList.all LA=false:=by rw[k2.out,AO hx,D3,Pn (by omega)];rfl
   simp[Ez,this]
  .refine IH.out (i+1) (by omega) ⟨by omega,⟨?_⟩⟩;rw[k2.out,AO hx,D3,Wh (by omega)];rfl
  .have:s.data.toList.all LA=true:=by rw[k2.out,D5 (by omega)];rfl
   have h1:1≤s.size:=by omega
   have h8:s.size≤8:=by omega
   simp[Ez,this,h1,h8,hk]
  .rw[Ez,CE (p:=s.size≤8) (by omega),By,GC]
  .rw[Ez,CE (by omega)];rfl
set_option maxHeartbeats 4000000
def Th(x:Int):List Int→Int→Int
 |[],_=> -1
 |y::l,i=>if x=y then i else Th x l (i+1)
@[go_sem] theorem AEs(l:List Int)(v:Int)(hl:l.length≤1000000):BJ (KL Tryz.prog cfg) 220 [.d (.be (l.map AK)),.d (.int .i64 v)] []=.ok (.ret (.d (.int .i64 (Th v l 0))),[]):=by
  (refine Ar rfl Tryz.func220 rfl rfl rfl ?_;show Wp _ _ _ _ (Tryz.f220.body.get rfl) _ _;simp only[Tryz.f220,AS])
  refine aw ?_;refine rounds (S:=fun i:Nat=>⟨[(0,.d (.be (l.map AK))),(1,.d (.int .i64 v)),(7,.d (.int .i64 l.length)),(8,.d (.int .i64 i))],[],0,[]⟩) (Inv:=fun i=>i≤l.length∧AA (Th v l 0=Th v (l.drop i) i)) (m:=fun i=>l.length-i) (a:=0) ⟨by simp,⟨by simp⟩⟩ ?_;rintro i ⟨k1,k2⟩ IH
  (repeat' (first|simp only[go_sem, *]|(refine sx ?_ ?_<;>intro hc)|refine sy (by omega) fun x hx hm=>?_|simp(disch:=first|assumption|omega) only[AJ]))
  .subst hc;rw[k2.out,AO hx,Th,DO rfl]
  .refine IH.out (i+1) (by omega) ⟨by omega,⟨?_⟩⟩;rw[k2.out,AO hx,Th,CS (by assumption)];rfl
  .rw[k2.out,D5 (by omega),Th]
theorem Yw(v:Int): ∀(l:List Int) (i:Int),0≤i→(0≤Th v l i↔v∈l)
 |[],i,h=>by simp[Th]
 |y::l,i,h=>by
  rw[Th];split
  .rename_i e;simp[e,h]
  .rename_i e;rw[Yw v l (i+1) (by omega)];simp[e]
@[go_sem] theorem X2(l:List Int)(v:Int)(hl:l.length≤1000000):BJ (KL Tryz.prog cfg) 219 [.d (.be (l.map AK)),.d (.int .i64 v)] []=.ok (.ret (.d (.bool (decide (v∈l)))),[]):=by
  have h:=Yw v l 0 (by omega)
  (refine Ar rfl Tryz.func219 rfl rfl rfl ?_;show Wp _ _ _ _ (Tryz.f219.body.get rfl) _ _;simp only[Tryz.f219,AS])
  exact au
theorem Zt(d:Bq)(n:Int)(h:AB)(π:List Nat)(id:Abs.Id)(hg:h.get id=some (.box [.d (.be (d.am.map Az)),.d (.be (d.ac.map Aj)),.d (.be (d.rules.map Ay))])):
 ∃o h',KL Tryz.prog cfg (.fn 218) [.d (.int .i64 n),.ptr id 0] h π true none=.ok (o,h')∧h'=h∧o=if 0≤n∧n≤d.ac.length then .ret (.ge [])else .f9 G7:=by
 (refine Ah rfl Tryz.func218 rfl rfl rfl ?_;show Wp _ _ _ _ (Tryz.f218.body.get rfl) _ _;simp only[Tryz.f218,AS])
 (repeat' (first|simp only[go_sem, *]|(refine sx ?_ ?_<;>intro hc)|refine sy (by omega) fun x hx hm=>?_|simp(disch:=first|assumption|omega) only[AJ]))
 all_goals simp
def Ca(d:Bq)(c:Hb):Bool:=decide (0≤c.at_∧c.at_≤d.ac.length)&&(decide (0≤c.many)&&decide (c.many≤3))
def C6:Nat→List M6→Bool
 |_,[]=>true
 |i,s::l=>decide (0≤s.of)&&(decide (s.of≤i)&&C6 (i+1) l)
def GJ(d:Bq)(r:Fi)(i:Nat)(c:Int):Bool:=decide (0≤c)&&(decide (c<d.am.length)&&(decide (((d.am[c.toNat]?).map Hb.at_).getD 0=r.at_)&& !decide (c∈r.d8.take i)))
def joinsOk(d:Bq)(r:Fi):Nat→List Int→Bool
 |_,[]=>true
 |i,c::l=>GJ d r i c&&joinsOk d r (i+1) l
def BX(d:Bq)(r:Fi):Bool:=decide (0≤r.at_∧r.at_≤d.ac.length)&&(decide (0<r.d8.length)&&(decide (r.d8.length≤3)&&joinsOk d r 0 r.d8))
def Oc(l:List Int)(c:Int):List Int:=if c∈l then l else l++[c]
def GP(l:List Int):List (AZ×AV):=l.map fun c=>(.int .i64 c,.d (.bool true))
def GB(l:List Int)(rs:List Fi):List Int:=rs.foldl (fun l r=>r.d8.foldl Oc l) l
def Bq.okG(d:Bq):Bool:=decide (d.am.length≤30)&&(decide (d.ac.length≤30)&&(decide (d.rules.length≤30)&&(d.am.all (Ca d)&&(C6 0 d.ac&&(d.rules.all (BX d)&&decide ((GB [] d.rules).length=d.am.length))))))
def H6(v:AV)(t:Bool):Ae×AB:=if t=true then(.ret (.ge []),[])else(.f9 v,[])
theorem gF(v:AV):H6 v true=(.ret (.ge []),[]):=rfl
theorem C4(v:AV):H6 v false=(.f9 v,[]):=rfl
theorem TB(v:AV)(t:Bool):B4 v t=.ok (H6 v t):=by cases t<;>rfl
theorem fk(st:List Int)(c:Int):Cv (GP st) (.int .i64 c)=some (if c∈st then some (.d (.bool true))else none):=by
 induction st with
 |nil=>rfl
 |cons a st ih=>
  show Cv ((.int .i64 a,.d (.bool true))::GP st) _=_;rw[Cv,G5];simp only[F3];by_cases h:a=c
  .subst h;simp
  .have h1:(a==c)=false:=by simpa using h
   have h2: ¬c=a:=fun e=>h e.symm;rw[h1,ih];simp[h2]
theorem fm(st:List Int)(c:Int):ER (GP st) (.int .i64 c) (.d (.bool true))=GP (Oc st c):=by
 induction st with
 |nil=>rfl
 |cons a st ih=>
  show ER ((.int .i64 a,.d (.bool true))::GP st) _ _=_;rw[ER,G5];simp only[F3];by_cases h:a=c
  .subst h;simp[Oc,GP]
  .have h1:(a==c)=false:=by simpa using h
   have h2: ¬c=a:=fun e=>h e.symm;rw[h1];simp only;rw[ih];simp only[Oc,Ce,h2,false_or];split<;>rfl
theorem zM{id:Abs.Id}{st:List Int}{c:Int}(hg:h.get id=some (.map (GP st))):mapPut cfg.T h.get (cfg.T 315) (.mp id) (.d (.int .i64 c)) (.d (.bool true))=some ⟨.undef,[(id,.map (GP (Oc st c)))]⟩:=by
 unfold mapPut;simp only[AB8,LX,T3,Jj,AV.isCell,Lw,hg,fk,fm]
@[go_sem] theorem ADu(st:List Int):(GP st).flatMap (fun p=>AD p.2)=[]:=by
  induction st with
  |nil=>rfl
  |cons a st ih=>exact ih
@[go_sem] theorem ADv(ν:Abs.Id→Option Abs.Id)(st:List Int):(GP st).map (fun p=>(p.1,Mr ν p.2))=GP st:=by
  induction st with
  |nil=>rfl
  |cons a st ih=>exact congrArg (List.cons _) ih
theorem dV{d:Bq}(h:d.am.all (Ca d)=false):d.okG=false:=by simp only[Bq.okG,h,By,GC]
theorem vK{d:Bq}(h:C6 0 d.ac=false):d.okG=false:=by simp only[Bq.okG,h,By,GC]
theorem Wu{d:Bq}(h:d.rules.all (BX d)=false):d.okG=false:=by simp only[Bq.okG,h,By,GC]
theorem ADi{d:Bq}(h: ¬(GB [] d.rules).length=d.am.length):d.okG=false:=by simp only[Bq.okG,CE h,GC]
theorem ACQ(d:Bq):BJ (KL Tryz.prog cfg) 213 [.agg [.d (.be (d.am.map Az)),.d (.be (d.ac.map Aj)),.d (.be (d.rules.map Ay))]] []=.ok (H6 G7 d.okG):=by
 (refine Ar rfl Tryz.func213 rfl rfl rfl ?_;show Wp _ _ _ _ (Tryz.f213.body.get rfl) _ _;simp only[Tryz.f213,AS])
 (repeat' (first|simp only[go_sem, *]|(refine sx ?_ ?_<;>intro hc)|refine sy (by omega) fun x hx hm=>?_|simp(disch:=first|assumption|omega) only[AJ]))
 all_goals try(rw[show d.okG=false by simp[Bq.okG];omega,C4])
 have c1:d.am.length≤30:=by omega
 have c2:d.ac.length≤30:=by omega
 have c3:d.rules.length≤30:=by omega
 refine rounds (S:=fun i:Nat=>⟨[(1,.ptr [0,0] 0),(2,.fn 218 [] [.ptr [0,0] 0]),(31,.d (.be (d.am.map Az))),(32,.d (.int .i64 d.am.length)),(33,.d (.int .i64 i))],[([0,0],.box [.d (.be (d.am.map Az)),.d (.be (d.ac.map Aj)),.d (.be (d.rules.map Ay))])],1,[]⟩)
  (Inv:=fun i=>i≤d.am.length∧AA (d.am.all (Ca d)=(d.am.drop i).all (Ca d))) (m:=fun i=>d.am.length-i) (a:=0) ⟨by simp,⟨by simp⟩⟩ ?_
 clear hc;rintro i ⟨k1,k2⟩ IH
 (repeat' (first|simp only[go_sem, *]|(refine sx ?_ ?_<;>intro hc)|refine sy (by omega) fun x hx hm=>?_|simp(disch:=first|assumption|omega) only[AJ]))
 .refine AX (Zt d x.at_ _ _ _ ?_) (fun o1 g1 p1=>?_)
  .simp only[go_sem]
  obtain⟨rfl,rfl⟩:=p1;by_cases kp:0≤x.at_∧x.at_≤d.ac.length
  .rw[DO kp]
   (repeat' (first|simp only[go_sem, *]|(refine sx ?_ ?_<;>intro hc)|refine sy (by omega) fun x hx hm=>?_|simp(disch:=first|assumption|omega) only[AJ]))
   .refine IH.out (i+1) (by omega) ⟨by omega,⟨?_⟩⟩;rw[k2.out,AO hx,D3,show Ca d x=true by simp[Ca, *],D7]
   .rw[dV,C4];rw[k2.out,AO hx,D3,show Ca d x=false by simp[Ca, *],By]
   .rw[dV,C4];rw[k2.out,AO hx,D3,show Ca d x=false by simp[Ca, *],By]
  .rw[CS kp];refine aw ?_;rw[dV,C4];rw[k2.out,AO hx,D3,show Ca d x=false by simp only[Ca,CE kp,By],By]
 have hch:d.am.all (Ca d)=true:=by rw[k2.out,D5 (by omega)];rfl
 clear hc k1 k2 IH i;refine rounds (S:=fun i:Nat=>⟨[(1,.ptr [0,0] 0),(2,.fn 218 [] [.ptr [0,0] 0]),(52,.d (.be (d.ac.map Aj))),(53,.d (.int .i64 d.ac.length)),(54,.d (.int .i64 i))],[([0,0],.box [.d (.be (d.am.map Az)),.d (.be (d.ac.map Aj)),.d (.be (d.rules.map Ay))])],1,[]⟩)
  (Inv:=fun i=>i≤d.ac.length∧AA (C6 0 d.ac=C6 i (d.ac.drop i))) (m:=fun i=>d.ac.length-i) (a:=0) ⟨by simp,⟨by simp⟩⟩ ?_
 rintro i ⟨k1,k2⟩ IH
 (repeat' (first|simp only[go_sem, *]|(refine sx ?_ ?_<;>intro hc)|refine sy (by omega) fun x hx hm=>?_|simp(disch:=first|assumption|omega) only[AJ]))
 .refine IH.out (i+1) (by omega) ⟨by omega,⟨?_⟩⟩;rw[k2.out,AO hx,C6];simp[*]
 .rw[vK,C4];rw[k2.out,AO hx,C6];simp[*]
 .rw[vK,C4];rw[k2.out,AO hx,C6];simp[*]
 have hsp:C6 0 d.ac=true:=by rw[k2.out,D5 (by omega)];rfl
 clear hc k1 k2 IH i;refine rounds (S:=fun a:Nat×List Int=>⟨[(1,.ptr [0,0] 0),(2,.fn 218 [] [.ptr [0,0] 0]),(7,.mp [1,1]),(72,.d (.be (d.rules.map Ay))),(73,.d (.int .i64 d.rules.length)),(74,.d (.int .i64 a.1))],[([0,0],.box [.d (.be (d.am.map Az)),.d (.be (d.ac.map Aj)),.d (.be (d.rules.map Ay))]),([1,1],.map (GP a.2))],2,[]⟩)
  (Inv:=fun a=>a.1≤d.rules.length∧AA (d.rules.all (BX d)=(d.rules.drop a.1).all (BX d))∧AA (GB [] d.rules=GB a.2 (d.rules.drop a.1))) (m:=fun a=>d.rules.length-a.1) (a:=(0,[])) ⟨by simp,⟨by simp⟩,⟨by simp⟩⟩ ?_
 rintro⟨i,st⟩ ⟨k1,k2,k3⟩ IH;dsimp only at*;by_cases hi:i<d.rules.length
 .obtain⟨r,hx⟩:=get_some hi;have hi':(i:Int)<d.rules.length:=by omega
  refine aw ?_;refine AX (Zt d r.at_ _ _ _ ?_) (fun o1 g1 p1=>?_)
  .simp only[go_sem]
  obtain⟨rfl,rfl⟩:=p1;by_cases kp:0≤r.at_∧r.at_≤d.ac.length
  .rw[DO kp]
   (repeat' (first|simp only[go_sem, *]|(refine sx ?_ ?_<;>intro hc)|refine sy (by omega) fun x hx hm=>?_|simp(disch:=first|assumption|omega) only[AJ]))
   ·
    refine rounds (S:=fun a:Nat×List Int=>⟨[(1,.ptr [0,0] 0),(2,.fn 218 [] [.ptr [0,0] 0]),(7,.mp [1,1]),(9,.ptr [0,2] 0),(72,.d (.be (d.rules.map Ay))),(73,.d (.int .i64 d.rules.length)),(74,.d (.int .i64 i)),(94,.d (.be (r.d8.map AK))),(95,.d (.int .i64 r.d8.length)),(96,.d (.int .i64 a.1))],[([0,0],.box [.d (.be (d.am.map Az)),.d (.be (d.ac.map Aj)),.d (.be (d.rules.map Ay))]),([1,1],.map (GP a.2)),([0,2],.box [.d (.int .i64 r.at_),.d (.be (r.d8.map AK)),.d (.int .i64 r.node)])],3,[]⟩)
     (Inv:=fun a=>a.1≤r.d8.length∧AA (joinsOk d r 0 r.d8=joinsOk d r a.1 (r.d8.drop a.1))∧AA (GB [] d.rules=GB ((r.d8.drop a.1).foldl Oc a.2) (d.rules.drop (i+1)))) (m:=fun a=>r.d8.length-a.1) (a:=(0,st)) ⟨by simp,⟨by simp⟩,⟨by rw[k3.out,AO hx];rfl⟩⟩ ?_
    rintro⟨k,st2⟩ ⟨j1,j2,j3⟩ IH2;dsimp only at*;by_cases hk:k<r.d8.length
    .obtain⟨c,hy⟩:=get_some hk;have hk':(k:Int)<r.d8.length:=by omega
     have hlt:(r.d8.take k).length≤1000000:=by simp;omega
     have hbad:AA (GJ d r k c=false→(Ae.f9 G7,([]:AB))=H6 G7 d.okG):=.mk fun hb=>by
      have hj:joinsOk d r 0 r.d8=false:=by rw[j2.out,AO hy,joinsOk,hb,By]
      rw[Wu,C4];rw[k2.out,AO hx,D3,show BX d r=false by simp only[BX,hj,GC],By]
     by_cases hc0:0≤c
     .by_cases hc1:c<d.am.length
      .obtain⟨y,hyc⟩:=get_some (l:=d.am) (i:=c.toNat) (by omega);have hjo:GJ d r k c=(decide (y.at_=r.at_)&& !decide (c∈r.d8.take k)):=by
        simp only[GJ,hyc,El,F5,Co hc0,Co hc1,D7]
       (repeat' (first|simp only[go_sem, *]|(refine sx ?_ ?_<;>intro hc)|refine sy (by omega) fun x hx hm=>?_|simp(disch:=first|assumption|omega) only[AJ,X2]))
       .rw[←AB8,zM (st:=st2) (by simp only[go_sem])];refine aw ?_;refine IH2.out (k+1,Oc st2 c) (by dsimp only;omega) ⟨by dsimp only;omega,⟨?_⟩,⟨?_⟩⟩
        .dsimp only;rw[j2.out,AO hy,joinsOk,hjo];simp only[*,decide_true,decide_false,OS,Ol,D7,By]
        .dsimp only;rw[j3.out,AO hy,MP]
       .exact hbad.out (by rw[hjo];simp only[*,decide_true,decide_false,OS,Ol,D7,By])
       .exact hbad.out (by rw[hjo,CE (by assumption),By])
      .refine aw ?_;exact hbad.out (by simp only[GJ,CE hc1,By,GC])
     .refine aw ?_;exact hbad.out (by simp only[GJ,CE hc0,By])
    .have hk': ¬(k:Int)<r.d8.length:=by omega
     refine aw ?_;refine IH.out (i+1,st2) (by dsimp only;omega) ⟨by dsimp only;omega,⟨?_⟩,⟨?_⟩⟩
     .dsimp only;rw[k2.out,AO hx,D3,show BX d r=true by
       rw[D5 (by omega)]at j2;simp only[BX,Co kp,j2.out,joinsOk];simp;omega,D7]
     .dsimp only;rw[j3.out,D5 (by omega)];rfl
   .rw[Wu,C4];rw[k2.out,AO hx,D3,show BX d r=false by simp[BX];omega,By]
   .rw[Wu,C4];rw[k2.out,AO hx,D3,show BX d r=false by simp[BX];omega,By]
  .rw[CS kp];refine aw ?_;rw[Wu,C4];rw[k2.out,AO hx,D3,show BX d r=false by simp only[BX,CE kp,By],By]
 .have hi': ¬(i:Int)<d.rules.length:=by omega
  have hru:d.rules.all (BX d)=true:=by rw[k2.out,D5 (by omega)];rfl
  have hst:(GB [] d.rules).length=(GP st).length:=by
   rw[k3.out,D5 (by omega)];simp[GB,GP]
  (repeat' (first|simp only[go_sem, *]|(refine sx ?_ ?_<;>intro hc)|refine sy (by omega) fun x hx hm=>?_|simp(disch:=first|assumption|omega) only[AJ]))
  .rw[show d.okG=true by
    simp only[Bq.okG,hch,hsp,hru,Co c1,Co c2,Co c3,D7,Ap];omega,gF]
  .rw[ADi (by omega),C4]
def CX(t:Bool):List AZ:=[.bool t]
attribute [go_sem] CX
def Nx(u:List Bool)(c:Int):List Bool:=u.set c.toNat true
def MG(u:List Bool)(rs:List Fi):List Bool:=rs.foldl (fun u r=>r.d8.foldl Nx u) u
def Bq.okR(d:Bq):Bool:=decide (d.am.length≤30)&&(decide (d.ac.length≤30)&&(decide (d.rules.length≤30)&&(d.am.all (Ca d)&&(C6 0 d.ac&&(d.rules.all (BX d)&&(MG (List.replicate d.am.length false) d.rules).all id)))))
theorem Wv{d:Bq}(h:d.am.all (Ca d)=false):d.okR=false:=by simp only[Bq.okR,h,By,GC]
theorem vL{d:Bq}(h:C6 0 d.ac=false):d.okR=false:=by simp only[Bq.okR,h,By,GC]
theorem Pw{d:Bq}(h:d.rules.all (BX d)=false):d.okR=false:=by simp only[Bq.okR,h,By,GC]
theorem ADj{d:Bq}(h:(MG (List.replicate d.am.length false) d.rules).all id=false):d.okR=false:=by simp only[Bq.okR,h,GC]
theorem xy(d:Bq):BJ (KL Tryz.prog cfg) 128 [.agg [.d (.be (d.am.map Az)),.d (.be (d.ac.map Aj)),.d (.be (d.rules.map Ay))]] []=.ok (.ret (.d (.bool d.okR)),[]):=by
 (refine Ar rfl Tryz.func128 rfl rfl rfl ?_;show Wp _ _ _ _ (Tryz.f128.body.get rfl) _ _;simp only[Tryz.f128,AS])
 (repeat' (first|simp only[go_sem, *]|(refine sx ?_ ?_<;>intro hc)|refine sy (by omega) fun x hx hm=>?_|simp(disch:=first|assumption|omega) only[AJ]))
 all_goals try(rw[show d.okR=false by simp[Bq.okR];omega])
 have c1:d.am.length≤30:=by omega
 have c2:d.ac.length≤30:=by omega
 have c3:d.rules.length≤30:=by omega
 refine rounds (S:=fun i:Nat=>⟨[(1,.ptr [0,0] 0),(3,.d (.int .i64 i))],[([0,0],.box [.d (.be (d.am.map Az)),.d (.be (d.ac.map Aj)),.d (.be (d.rules.map Ay))])],1,[]⟩)
  (Inv:=fun i=>i≤d.am.length∧AA (d.am.all (Ca d)=(d.am.drop i).all (Ca d))) (m:=fun i=>d.am.length-i) (a:=0) ⟨by simp,⟨by simp⟩⟩ ?_
 clear hc;rintro i ⟨k1,k2⟩ IH
 (repeat' (first|simp only[go_sem, *]|(refine sx ?_ ?_<;>intro hc)|refine sy (by omega) fun x hx hm=>?_|simp(disch:=first|assumption|omega) only[AJ]))
 .rw[Wv];rw[k2.out,AO hx,D3,show Ca d x=false by simp[Ca];omega,By]
 .rw[Wv];rw[k2.out,AO hx,D3,show Ca d x=false by simp[Ca];omega,By]
 .rw[Wv];rw[k2.out,AO hx,D3,show Ca d x=false by simp[Ca];omega,By]
 .rw[Wv];rw[k2.out,AO hx,D3,show Ca d x=false by simp[Ca];omega,By]
 .refine IH.out (i+1) (by omega) ⟨by omega,⟨?_⟩⟩;rw[k2.out,AO hx,D3,show Ca d x=true by simp[Ca];omega,D7]
 have hch:d.am.all (Ca d)=true:=by rw[k2.out,D5 (by omega)];rfl
 clear hc k1 k2 IH i;refine rounds (S:=fun i:Nat=>⟨[(1,.ptr [0,0] 0),(4,.d (.int .i64 i))],[([0,0],.box [.d (.be (d.am.map Az)),.d (.be (d.ac.map Aj)),.d (.be (d.rules.map Ay))])],1,[]⟩)
  (Inv:=fun i=>i≤d.ac.length∧AA (C6 0 d.ac=C6 i (d.ac.drop i))) (m:=fun i=>d.ac.length-i) (a:=0) ⟨by simp,⟨by simp⟩⟩ ?_
 rintro i ⟨k1,k2⟩ IH
 (repeat' (first|simp only[go_sem, *]|(refine sx ?_ ?_<;>intro hc)|refine sy (by omega) fun x hx hm=>?_|simp(disch:=first|assumption|omega) only[AJ]))
 .rw[vL];rw[k2.out,AO hx,C6];simp;omega
 .rw[vL];rw[k2.out,AO hx,C6];simp;omega
 .refine IH.out (i+1) (by omega) ⟨by omega,⟨?_⟩⟩;rw[k2.out,AO hx,C6,Co (by omega),Co (by omega),D7,D7]
 have hsp:C6 0 d.ac=true:=by rw[k2.out,D5 (by omega)];rfl
 by_cases hz:d.am=[]
 .rw[hz];clear hc k1 k2 IH;refine aw ?_;rw[Cy];have hcl:d.am.length=0:=by rw[hz];rfl
  rcases hr:d.rules with _|⟨r,rs⟩
  .refine aw ?_;rw[Cy];refine aw ?_;rw[show d.okR=true by
    simp only[Bq.okR,hch,hsp,hr,hz,MG];simp;exact c2]
  .have hno:AA (BX d r=false→false=d.okR):=.mk fun h=>by
    rw[Pw];rw[hr,D3,h,By]
   clear hch;rcases hj:r.d8 with _|⟨c,cs⟩
   ·(repeat' (first|simp only[go_sem, *]|(refine sx ?_ ?_<;>intro hc)|refine sy (by omega) fun x hx hm=>?_|simp(disch:=first|assumption|omega) only[AJ]))
    all_goals first|(rw[←hno.out (by simp[BX,hj])];done)|(exfalso;omega)
   .have hno:=AA.mk (hno.out (by
     have:joinsOk d r 0 r.d8=false:=by
      rw[hj,joinsOk,GJ,hcl];by_cases h0:0≤c
      .rw[CE (p:=c<((0:Nat):Int)) (by omega)];simp
      .rw[CE h0];simp
     simp only[BX,this,GC]))
    (repeat' (first|simp only[go_sem, *]|(refine sx ?_ ?_<;>intro hc)|refine sy (by omega) fun x hx hm=>?_|simp(disch:=first|assumption|omega) only[AJ]))
    all_goals try first|(rw[←hno.out];done)|(exfalso;omega)
    rw[Cy]
    (repeat' (first|simp only[go_sem, *]|(refine sx ?_ ?_<;>intro hc)|refine sy (by omega) fun x hx hm=>?_|simp(disch:=first|assumption|omega) only[AJ]))
    all_goals first|(rw[←hno.out];done)|(exfalso;omega)
 have hpos:0<d.am.length:=List.length_pos_iff.2 hz;rw[Po (zs:=[.bool false]) hpos (by unfold BA;omega) rfl rfl (by decide) rfl];clear hc k1 k2 IH;refine aw ?_;have hrep:(List.replicate d.am.length [AZ.bool false])=(List.replicate d.am.length false).map CX:=by rw[OP];rfl
 rw[hrep];have hul:(List.replicate d.am.length false).length=d.am.length:=I0;refine rounds (S:=fun a:Nat×List Bool=>⟨[(1,.ptr [0,0] 0),(5,.em [1,1] 0 d.am.length),(6,.d (.int .i64 a.1))],[([0,0],.box [.d (.be (d.am.map Az)),.d (.be (d.ac.map Aj)),.d (.be (d.rules.map Ay))]),([1,1],.co 1 (a.2.map CX))],2,[]⟩)
  (Inv:=fun a=>a.1≤d.rules.length∧a.2.length=d.am.length∧AA (d.rules.all (BX d)=(d.rules.drop a.1).all (BX d))∧AA (MG (List.replicate d.am.length false) d.rules=MG a.2 (d.rules.drop a.1))) (m:=fun a=>d.rules.length-a.1) (a:=(0,List.replicate d.am.length false)) ⟨by simp,hul,⟨by simp⟩,⟨by simp⟩⟩ ?_
 clear hrep hul;rintro⟨i,u⟩ ⟨k1,k0,k2,k3⟩ IH;dsimp only at*;by_cases hi:i<d.rules.length
 .obtain⟨r,hx⟩:=get_some hi;have hi':(i:Int)<d.rules.length:=by omega
  (repeat' (first|simp only[go_sem, *]|(refine sx ?_ ?_<;>intro hc)|refine sy (by omega) fun x hx hm=>?_|simp(disch:=first|assumption|omega) only[AJ]))
  .rw[Pw];rw[k2.out,AO hx,D3,show BX d r=false by simp[BX];omega,By]
  .rw[Pw];rw[k2.out,AO hx,D3,show BX d r=false by simp[BX];omega,By]
  .rw[Pw];rw[k2.out,AO hx,D3,show BX d r=false by simp[BX];omega,By]
  .rw[Pw];rw[k2.out,AO hx,D3,show BX d r=false by simp[BX];omega,By]
  refine rounds (S:=fun a:Nat×List Bool=>⟨[(1,.ptr [0,0] 0),(5,.em [1,1] 0 d.am.length),(6,.d (.int .i64 i)),(7,.ptr [0,2] 0),(8,.d (.int .i64 a.1))],[([0,0],.box [.d (.be (d.am.map Az)),.d (.be (d.ac.map Aj)),.d (.be (d.rules.map Ay))]),([1,1],.co 1 (a.2.map CX)),([0,2],.box [.d (.int .i64 r.at_),.d (.be (r.d8.map AK)),.d (.int .i64 r.node)])],3,[]⟩)
   (Inv:=fun a=>a.1≤r.d8.length∧a.2.length=d.am.length∧AA (joinsOk d r 0 r.d8=joinsOk d r a.1 (r.d8.drop a.1))∧AA (MG (List.replicate d.am.length false) d.rules=MG ((r.d8.drop a.1).foldl Nx a.2) (d.rules.drop (i+1)))) (m:=fun a=>r.d8.length-a.1) (a:=(0,u)) ⟨by simp,k0,⟨by simp⟩,⟨by rw[k3.out,AO hx];rfl⟩⟩ ?_
  rintro⟨k,u2⟩ ⟨j1,j0,j2,j3⟩ IH2;dsimp only at*;by_cases hk:k<r.d8.length
  .obtain⟨c,hy⟩:=get_some hk;have hk':(k:Int)<r.d8.length:=by omega
   have hbad:AA (GJ d r k c=false→false=d.okR):=.mk fun hb=>by
    have hj:joinsOk d r 0 r.d8=false:=by rw[j2.out,AO hy,joinsOk,hb,By]
    rw[Pw];rw[k2.out,AO hx,D3,show BX d r=false by simp only[BX,hj,GC],By]
   by_cases hc0:c<0
   .refine aw ?_;rw[←hbad.out (by simp only[GJ,CE (show¬0≤c by omega),By])]
   by_cases hc1:(d.am.length:Int)≤c
   .refine aw ?_;rw[←hbad.out (by simp only[GJ,CE (show¬c<d.am.length by omega),By,GC])]
   obtain⟨y,hyc⟩:=get_some (l:=d.am) (i:=c.toNat) (by omega);have hjo:GJ d r k c=(decide (y.at_=r.at_)&& !decide (c∈r.d8.take k)):=by
    simp only[GJ,hyc,El,F5,Co (show 0≤c by omega),Co (show c<d.am.length by omega),D7]
   have hc2:0≤c:=by omega
   (repeat' (first|simp only[go_sem, *]|(refine sx ?_ ?_<;>intro hc)|refine sy (by omega) fun x hx hm=>?_|simp(disch:=first|assumption|omega) only[AJ]))
   .refine rounds (S:=fun m:Nat=>⟨[(1,.ptr [0,0] 0),(5,.em [1,1] 0 d.am.length),(6,.d (.int .i64 i)),(7,.ptr [0,2] 0),(8,.d (.int .i64 k)),(9,.d (.int .i64 c)),(10,.d (.int .i64 m))],[([0,0],.box [.d (.be (d.am.map Az)),.d (.be (d.ac.map Aj)),.d (.be (d.rules.map Ay))]),([1,1],.co 1 (u2.map CX)),([0,2],.box [.d (.int .i64 r.at_),.d (.be (r.d8.map AK)),.d (.int .i64 r.node)])],3,[]⟩)
     (Inv:=fun m=>m≤k∧AA (c∉r.d8.take m)) (m:=fun m=>k-m) (a:=0) ⟨by simp,⟨by simp⟩⟩ ?_
    rintro m ⟨m1,m2⟩ IH3;by_cases hm:m<k
    .obtain⟨v,hv⟩:=get_some (l:=r.d8) (i:=m) (by omega);have hm':(m:Int)<k:=by omega
     have htk:r.d8.take (m+1)=r.d8.take m++[v]:=by rw[Is,hv];rfl
     (repeat' (first|simp only[go_sem, *]|(refine sx ?_ ?_<;>intro hc)|refine sy (by omega) fun x hx hm=>?_|simp(disch:=first|assumption|omega) only[AJ]))
     .have:c∈r.d8.take k:=by
       rw[←hc];have:(r.d8.take k)[m]? =some v:=by rw[List.getElem?_take_of_lt hm,hv]
       exact Ac this
      rw[←hbad.out (by rw[hjo,Co this];simp)]
     .refine IH3.out (m+1) (by omega) ⟨by omega,⟨?_⟩⟩;rw[htk];simp only[EX,As,not_or];exact⟨m2.out,fun h=>by simp_all⟩
    .have hm': ¬(m:Int)<k:=by omega
     have hcl:c.toNat<d.am.length:=by omega
     obtain⟨t,ht⟩:=get_some (l:=u2) (i:=c.toNat) (by omega);have hmk:m=k:=by omega
     subst hmk;refine aw ?_;have e:(u2.map CX).set c.toNat [AZ.bool true]=(Nx u2 c).map CX:=by rw[Nx,JP];rfl
     rw[e];refine IH2.out (m+1,Nx u2 c) (by dsimp only;omega) ⟨by dsimp only;omega,by simp[Nx,j0],⟨?_⟩,⟨?_⟩⟩
     .dsimp only;rw[j2.out,AO hy,joinsOk,hjo,Co (by assumption),CE m2.out];rfl
     .dsimp only;rw[j3.out,AO hy,MP]
   .rw[←hbad.out (by rw[hjo,CE (by assumption),By])]
  .have hk': ¬(k:Int)<r.d8.length:=by omega
   refine aw ?_;refine IH.out (i+1,u2) (by dsimp only;omega) ⟨by dsimp only;omega,j0,⟨?_⟩,⟨?_⟩⟩
   .dsimp only;rw[k2.out,AO hx,D3,show BX d r=true by
     rw[D5 (by omega)]at j2;simp only[BX,j2.out,joinsOk];simp;omega,D7]
   .dsimp only;rw[j3.out,D5 (by omega)];rfl
 .have hi': ¬(i:Int)<d.rules.length:=by omega
  refine aw ?_;have hru:d.rules.all (BX d)=true:=by rw[k2.out,D5 (by omega)];rfl
  have hus:MG (List.replicate d.am.length false) d.rules=u:=by rw[k3.out,D5 (by omega)];rfl
  refine rounds (S:=fun i:Nat=>⟨[(5,.em [1,0] 0 d.am.length),(11,.d (.int .i64 i))],[([1,0],.co 1 (u.map CX))],1,[]⟩)
   (Inv:=fun i=>i≤d.am.length∧AA (u.all id=(u.drop i).all id)) (m:=fun i=>d.am.length-i) (a:=0) ⟨by simp,⟨by simp⟩⟩ ?_
  clear k1 k2 k3 IH hi hi' i;rintro i ⟨k1,k2⟩ IH;have hus:=AA.mk hus;by_cases hi:i<d.am.length
  .obtain⟨t,ht⟩:=get_some (l:=u) (i:=i) (by omega);have hi':(i:Int)<d.am.length:=by omega
   cases t
   .refine aw ?_;rw[ADj (by rw[hus.out,k2.out,AO ht,D3];rfl)]
   .refine aw ?_;refine IH.out (i+1) (by omega) ⟨by omega,⟨?_⟩⟩;rw[k2.out,AO ht,D3];rfl
  .have hi': ¬(i:Int)<d.am.length:=by omega
   have hall:u.all id=true:=by rw[k2.out,D5 (by omega)];rfl
   refine aw ?_;rw[show d.okR=true by
    simp only[Bq.okR,hch,hsp,hru,hus.out,hall,Co c1,Co c2,Co c3,Lw]]
def DN(op:Int):Option Nat:=
 if op=1 then some 0 else if op=7 then some 0 else if op=3 then some 2 else if op=2 then some 0 else if op=5 then some 2
 else if op=6 then some 1 else if op=8 then some 1 else if op=4 then some 1 else none
def Ea(x:Cq):Bool:=if x.op=2 then decide (x.args.length≤3)else if x.op=5 then decide (x.args.length=1)else decide (x.args.length=0)
def Wo(p:AI)(size:Int)(x:Cq):Bool:=if x.op=2∨x.op=6∨x.op=8 then decide (0≤x.n∧x.n<size)else if x.op=4 then decide (0≤x.n∧x.n<p.defs.length)else decide (x.n=0)
def Cc(p:AI)(size:Int)(x:Cq):Bool:=decide (DN x.op=some x.kids.length)&&(Wo p size x&&(Ea x&&x.args.all (BS.ok size)))
structure BN where
 ce:List Int
 met:List Bool
 defs:List Bool
def B8(f:Int→Int→BN→Option BN):List (Int×Int)→BN→Option BN
 |[],st=>some st
 |(n,s)::l,st=>match f n s st with
  |some st'=>B8 f l st'
  |none=>none
def Cf(d:Bq)(size:Int)(l:List Fi):List (Int×Int):=l.map fun r=>(r.node,size+CH d r.d8)
def CG(size:Int)(l:List M6):List (Int×Int):=l.map fun s=>(s.node,size)
def B9(size:Int)(l:List Int):List (Int×Int):=l.map fun k=>(k,size)
def Qo(p:AI)(size:Int)(x:Cq)(st:BN):Option (List (Int×Int)×BN):=
 if x.op=4 then match p.defs[x.n.toNat]? with
  |some d=>if st.defs[x.n.toNat]? =some false∧d.okG=true then some (Cf d (size+d.own) d.rules++(CG (size+d.own) d.ac++B9 (size+d.own) x.kids),{st with defs:=st.defs.set x.n.toNat true})else none
  |none=>none
 else some (B9 size x.kids,st)
def BN.meet(st:BN)(n size:Int):BN:={st with ce:=st.ce.set n.toNat size,met:=st.met.set n.toNat true}
def BB(p:AI):Nat→Int→Int→BN→Option BN
 |0,_,_,_=>none
 |k+1,n,size,st=>
  if 0≤n∧st.met[n.toNat]? =some false then
   match p.nodes[n.toNat]? with
   |some x=>if Cc p size x=true then match Qo p size x (st.meet n size)with
    |some (l,st2)=>B8 (BB p k) l st2
    |none=>none
    else none
   |none=>none
  else none
def aW(a b:ByteArray):Bool:=Op.bytesLess a.toList b.toList
def H9:Option ByteArray→List ByteArray→Bool
 |_,[]=>true
 |b,a::l=>Ez a&&((match b with|some b=>aW b a|none=>true)&&H9 (some a) l)
def Kn(l:List ByteArray):Bool:=H9 none l
def AI.small(p:AI):Bool:=decide (p.free.length≤12)&&(decide (p.nodes.length≤60)&&decide (p.defs.length≤12))
def BN.init(p:AI):BN:=⟨List.replicate p.nodes.length 0,List.replicate p.nodes.length false,List.replicate p.defs.length false⟩
def looks(p:AI):Option BN:=
 if p.small=true∧Kn p.free=true then match BB p (p.nodes.length+1) p.main p.free.length (BN.init p)with
  |some st=>if st.met.all id=true∧st.defs.all id=true then some st else none
  |none=>none
 else none
structure BN.fit(p:AI)(st:BN):Prop where
 ce:st.ce.length=p.nodes.length
 met:st.met.length=p.nodes.length
 defs:st.defs.length=p.defs.length
def Dw(l:List Bool):Nat:=l.count false
theorem Ew: ∀{l:List Bool} {n:Nat},l[n]? =some false→Dw (l.set n true)+1=Dw l
 |[],n,h=>by simp at h
 |b::l,0,h=>by
  simp only[Ex,Bv]at h;subst h;simp[Dw]
 |b::l,n+1,h=>by
  simp only[F4]at h;have:=Ew h;cases b<;>simp[Dw]at this⊢ <;>omega
theorem MF(l:List Bool):Dw l≤l.length:=List.count_le_length
variable{st:BN}
theorem Ow{p:AI}(h:st.fit p)(n size:Int):(st.meet n size).fit p:=⟨by simp[BN.meet,h.ce],by simp[BN.meet,h.met],by simp[BN.meet,h.defs]⟩
variable{l:List (Int×Int)}
theorem tI{p:AI}{size:Int}{x:Cq}{st2:BN}(h:Qo p size x st=some (l,st2)):st2.ce=st.ce∧st2.met=st.met∧st2.defs.length=st.defs.length:=by
 unfold Qo at h;split at h
 .split at h
  .split at h
   .cases h;simp
   .cases h
  .cases h
 .cases h;simp
variable{f:Int→Int→BN→Option BN}
theorem Pa{R:BN→BN→Prop}(hr: ∀st,R st st)(ht: ∀a b c,R a b→R b c→R a c)(hf: ∀n s st st',f n s st=some st'→R st st'): ∀{l:List (Int×Int)} {st st':BN},B8 f l st=some st'→R st st'
 |[],st,st',h=>by cases h;exact hr _
 |(n,s)::l,st,st',h=>by
  rw[B8]at h;split at h
  .rename_i st1 h1;exact ht _ _ _ (hf _ _ _ _ h1) (Pa hr ht hf h)
  .cases h
structure iY(st st':BN):Prop where
 ce:st'.ce.length=st.ce.length
 met:st'.met.length=st.met.length
 defs:st'.defs.length=st.defs.length
 less:Dw st'.met≤Dw st.met
theorem CR(p:AI): ∀(k:Nat) (n size:Int) (st st':BN),BB p k n size st=some st'→iY st st'
 |0,n,size,st,st',h=>by cases h
 |k+1,n,size,st,st',h=>by
  rw[BB]at h;split at h
  .rename_i hn;split at h
   .rename_i x hx;split at h
    .split at h
     .rename_i l st2 h2;have h3:=tI h2;have h4:iY st2 st':=Pa (R:=iY) (fun st=>⟨rfl,rfl,rfl,EL _⟩) (fun a b c h1 h2=>⟨h2.1.trans h1.1,h2.2.trans h1.2,h2.3.trans h1.3,Hm h2.4 h1.4⟩) (CR p k) h;have h5:=Ew hn.2;refine⟨h4.1.trans ?_,h4.2.trans ?_,h4.3.trans ?_,Hm h4.4 ?_⟩
      .rw[h3.1];simp[BN.meet]
      .rw[h3.2.1];simp[BN.meet]
      .rw[h3.2.2];simp[BN.meet]
      .rw[h3.2.1];simp only[BN.meet];omega
     .cases h
    .cases h
   .cases h
  .cases h
def IA(p:AI)(size:Int)(x:Cq):Option (List (Int×Int)):=
 if x.op=4 then match p.defs[x.n.toNat]? with
  |some d=>if d.okG=true then some (Cf d (size+d.own) d.rules++(CG (size+d.own) d.ac++B9 (size+d.own) x.kids))else none
  |none=>none
 else some (B9 size x.kids)
theorem Kf{d:Bq}(h: ∀c∈d.am,0≤c.many∧c.many≤3): ∀l:List Int,0≤CH d l∧CH d l≤3*l.length
 |[]=>by simp[CH]
 |j::l=>by
  have ih:=Kf h l;rw[CH];have:0≤((d.am[j.toNat]?).map Hb.many).getD 0∧((d.am[j.toNat]?).map Hb.many).getD 0≤3:=by
   cases hc:d.am[j.toNat]? with
   |none=>simp
   |some c=>simpa using h c (Ac hc)
  simp only[List.length_cons];omega
structure N2(d:Bq):Prop where
 am:d.am.length≤30
 ac:d.ac.length≤30
 rules:d.rules.length≤30
 chan: ∀c∈d.am,0≤c.at_∧c.at_≤d.ac.length∧0≤c.many∧c.many≤3
 spot:C6 0 d.ac=true
 ut: ∀r∈d.rules,BX d r=true
 stands:(GB [] d.rules).length=d.am.length
theorem Sd{d:Bq}(h:d.okG=true):N2 d:=by
 simp only[Bq.okG,AP,Ap,Ci,Ca]at h;obtain⟨h1,h2,h3,h4,h5,h6,h7⟩:=h;exact⟨h1,h2,h3,fun c hc=>⟨(h4 c hc).1.1,(h4 c hc).1.2,(h4 c hc).2.1,(h4 c hc).2.2⟩,h5,h6,h7⟩
variable{r:Fi}
theorem NZ{d:Bq}: ∀{i:Nat} {l:List Int},joinsOk d r i l=true→ ∀j∈l,0≤j∧j<d.am.length
 |i,[],h=>by simp
 |i,c::l,h=>by
  intro j hj;rw[joinsOk,AP]at h;rcases Ce.1 hj with rfl|hj
  .have:=h.1;simp only[GJ,AP,Ap]at this;exact⟨this.1,this.2.1⟩
  .exact NZ h.2 j hj
theorem Np{d:Bq}(h:N2 d)(hr:r∈d.rules):d.joinsOk r:=by
 have:=h.ut r hr;simp only[BX,AP,Ap]at this;exact⟨this.2.2.1,NZ this.2.2.2,fun c hc=>(h.chan c hc).2.2⟩
theorem Nk{d:Bq}(h:N2 d):d.own≤60:=by
 have:=h.am;have:=h.ac;unfold Bq.own;omega
theorem pt{p:AI}{size:Int}{x:Cq}(h:IA p size x=some l): ∀q∈l,size≤q.2∧q.2≤size+70:=by
 unfold IA at h;split at h
 .split at h
  .rename_i d hd;split at h
   .rename_i hk;cases h;have hk:=Sd hk;have ho:=Nk hk;intro q hq;simp only[EX,Cf,CG,B9,F0]at hq;rcases hq with⟨r,hr,rfl⟩|⟨r,hr,rfl⟩|⟨r,hr,rfl⟩
    .have hj:=Np hk hr;have:=Kf hj.2.2 r.d8;have:=hj.1;dsimp only;omega
    .dsimp only;omega
    .dsimp only;omega
   .cases h
  .cases h
 .cases h;intro q hq;simp only[B9,F0]at hq;obtain⟨k,hk,rfl⟩:=hq;dsimp only;omega
def BN.has(st:BN)(q:Int×Int):Prop:=0≤q.1∧st.met[q.1.toNat]? =some true∧st.ce[q.1.toNat]? =some q.2
structure AB2(p:AI)(st:BN)(i:Nat)(x:Cq):Prop where
 met:st.met[i]? =some true
 ex: ∃s l,st.ce[i]? =some s∧0≤s∧s≤5000∧Cc p s x=true∧IA p s x=some l∧ ∀q∈l,st.has q
structure xR(p:AI)(st st':BN):Prop where
 rg: ∀i:Nat,st.met[i]? =some true→st'.met[i]? =some true∧st'.ce[i]? =st.ce[i]?
 i5: ∀(i:Nat) (x:Cq),st'.met[i]? =some true→st.met[i]? ≠some true→p.nodes[i]? =some x→AB2 p st' i x
 defs: ∀i:Nat,st.defs[i]? =some true→st'.defs[i]? =some true
 news: ∀(i:Nat) (x:Cq),st'.met[i]? =some true→st.met[i]? ≠some true→p.nodes[i]? =some x→x.op=4→st.defs[x.n.toNat]? ≠some true∧st'.defs[x.n.toNat]? =some true
 used: ∀n:Nat,st'.defs[n]? =some true→st.defs[n]? ≠some true→ ∃(i:Nat) (x:Cq),p.nodes[i]? =some x∧x.op=4∧x.n.toNat=n
 diff: ∀(i j:Nat) (x y:Cq),i≠j→st'.met[i]? =some true→st.met[i]? ≠some true→p.nodes[i]? =some x→x.op=4→st'.met[j]? =some true→st.met[j]? ≠some true→p.nodes[j]? =some y→y.op=4→x.n.toNat≠y.n.toNat
variable{st':BN}
theorem s9{p:AI}{q:Int×Int}(h:st.has q)(ha:xR p st st'):st'.has q:=by
 obtain⟨h1,h2,h3⟩:=h;have:=ha.rg _ h2;exact⟨h1,this.1,by rw[this.2,h3]⟩
theorem zH{p:AI}{x:Cq}(h:AB2 p st i x)(ha:xR p st st'):AB2 p st' i x:=by
 obtain⟨h1,s,l,h2,h0,hb,h3,h4,h5⟩:=h;have:=ha.rg _ h1;exact⟨this.1,s,l,by rw[this.2,h2],h0,hb,h3,h4,fun q hq=>s9 (h5 q hq) ha⟩
theorem qf(p:AI)(st:BN):xR p st st:=⟨fun i h=>⟨h,rfl⟩,fun i x h1 h2=>absurd h1 h2,fun i h=>h,fun i x h1 h2=>absurd h1 h2,fun n h1 h2=>absurd h1 h2,fun i j x y h h1 h2=>absurd h1 h2⟩
theorem ib{p:AI}{a b c:BN}(h1:xR p a b)(h2:xR p b c):xR p a c:=by
 refine⟨fun i h=>?_,fun i x hm hn hx=>?_,fun i h=>h2.defs i (h1.defs i h),fun i x hm hn hx ho=>?_,fun n hm hn=>?_,fun i j x y hij him hin hx hox hjm hjn hy hoy=>?_⟩
 .have e1:=h1.rg i h;have e2:=h2.rg i e1.1;exact⟨e2.1,e2.2.trans e1.2⟩
 .by_cases hb:b.met[i]? =some true
  .exact zH (h1.i5 i x hb hn hx) h2
  .exact h2.i5 i x hm hb hx
 .by_cases hb:b.met[i]? =some true
  .have:=h1.news i x hb hn hx ho;exact⟨this.1,h2.defs _ this.2⟩
  .have:=h2.news i x hm hb hx ho;exact⟨fun e=>this.1 (h1.defs _ e),this.2⟩
 .by_cases hb:b.defs[n]? =some true
  .exact h1.used n hb hn
  .exact h2.used n hm hb
 .by_cases hbi:b.met[i]? =some true
  .by_cases hbj:b.met[j]? =some true
   .exact h1.diff i j x y hij hbi hin hx hox hbj hjn hy hoy
   .have e1:=h1.news i x hbi hin hx hox;have e2:=h2.news j y hjm hbj hy hoy;intro e;rw[e]at e1;exact e2.1 e1.2
  .by_cases hbj:b.met[j]? =some true
   .have e1:=h1.news j y hbj hjn hy hoy;have e2:=h2.news i x him hbi hx hox;intro e;rw[←e]at e1;exact e2.1 e1.2
   .exact h2.diff i j x y hij him hbi hx hox hjm hbj hy hoy
structure Bnd(st:BN)(u:Nat):Prop where
 len:st.ce.length=st.met.length
 less:Dw st.met≤u
theorem UY{p:AI}{u:Nat}(hf: ∀(n s:Int) (st st':BN),Bnd st u→0≤s→s+70*u≤5000→f n s st=some st'→xR p st st'∧st'.has (n,s)∧Bnd st' u): ∀{l:List (Int×Int)} {st st':BN},Bnd st u→(∀q∈l,0≤q.2∧q.2+70*u≤5000)→B8 f l st=some st'→xR p st st'∧(∀q∈l,st'.has q)∧Bnd st' u
 |[],st,st',hl,hq,h=>by cases h;exact⟨qf _ _,by simp,hl⟩
 |(n,s)::l,st,st',hl,hq,h=>by
  rw[B8]at h;split at h
  .rename_i st1 h1;have hq1:=hq (n,s) (by simp);have e1:=hf _ _ _ _ hl hq1.1 hq1.2 h1;have e2:=UY hf e1.2.2 (fun q hm=>hq q (FD _ hm)) h;refine⟨ib e1.1 e2.1,fun q hq=>?_,e2.2.2⟩;rcases Ce.1 hq with rfl|hq
   .exact s9 e1.2.1 e2.1
   .exact e2.2.1 q hq
  .cases h
theorem lL{p:AI}{size:Int}{x:Cq}{st st2:BN}{l:List (Int×Int)}(h:Qo p size x st=some (l,st2)):IA p size x=some l∧st2.ce=st.ce∧st2.met=st.met∧(∀i:Nat,st.defs[i]? =some true→st2.defs[i]? =some true)∧(x.op=4→st.defs[x.n.toNat]? ≠some true∧st2.defs[x.n.toNat]? =some true)∧ ∀i:Nat,st2.defs[i]? =some true→st.defs[i]? ≠some true→x.op=4∧x.n.toNat=i:=by
 unfold Qo at h;unfold IA;split at h
 .rename_i h4;rw[DO h4];split at h
  .rename_i d hd;split at h
   .rename_i hk;cases h;refine⟨by first|exact DO hk.2|(rw[hd];exact DO hk.2),rfl,rfl,fun i hi=>?_,fun _=>⟨by rw[hk.1];simp,?_⟩,fun i h1 h2=>⟨h4,?_⟩⟩
    .rw[HW];split
     .rename_i e;subst e;rw[DO (BE.1 hi).1]
     .exact hi
    .rw[HW,DO rfl,DO (BE.1 hk.1).1]
    .rw[HW]at h1;split at h1
     .assumption
     .exact absurd h1 h2
   .cases h
  .cases h
 .rename_i h4;rw[CS h4];cases h;exact⟨rfl,rfl,rfl,fun i h=>h,fun h=>absurd h h4,fun i h1 h2=>absurd h1 h2⟩
theorem Va(p:AI): ∀(k:Nat) (n size:Int) (st st':BN) (u:Nat),Bnd st u→0≤size→size+70*u≤5000→BB p k n size st=some st'→xR p st st'∧st'.has (n,size)∧Bnd st' u
 |0,n,size,st,st',u,_,_,_,h=>by cases h
 |k+1,n,size,st,st',u,hb,h0,hsz,h=>by
  rw[BB]at h;split at h
  .rename_i hn;split at h
   .rename_i x hx;split at h
    .rename_i hok;split at h
     .rename_i l st2 h2;have h3:=lL h2;have hlen:=hb.len;have hun:=Ew hn.2;have hul:=hb.less;obtain⟨u,rfl⟩: ∃v,u=v+1:=⟨u-1,by omega⟩;have hb2:Bnd st2 u:=⟨by rw[h3.2.1,h3.2.2.1];simp[BN.meet,hlen],by rw[h3.2.2.1];simp only[BN.meet];omega⟩;have hle:=pt h3.1;obtain⟨ha,hl,hz⟩:=UY (fun n s st st'=>Va p k n s st st' u) hb2 (fun q hq=>by have:=hle q hq;omega) h;have hlt:=(BE.1 hn.2).1;have m2: ∀i,st2.met[i]? =if n.toNat=i then some true else st.met[i]? :=fun i=>by
       rw[h3.2.2.1,BN.meet,HW];split
       .rename_i e;subst e;simp[hlt]
       .rfl
      have s2: ∀i,st2.ce[i]? =if n.toNat=i then some size else st.ce[i]? :=fun i=>by
       rw[h3.2.1,BN.meet,HW];split
       .rename_i e;subst e;simp[hlen,hlt]
       .rfl
      have k2:=ha.rg n.toNat (by rw[m2,DO rfl]);rw[s2,DO rfl]at k2;refine⟨⟨fun i hi=>?_,fun i y hm hm0 hy=>?_,fun i hi=>ha.defs i (h3.2.2.2.1 i hi),fun i y hm hm0 hy ho=>?_,fun i hi hi0=>?_,fun i j y z hij him hin hy hoy hjm hjn hz hoz=>?_⟩,⟨hn.1,k2.1,k2.2⟩,hz.1,Nat.le_succ_of_le hz.2⟩
      .have hne:n.toNat≠i:=fun e=>by subst e;rw[hn.2]at hi;simp at hi
       have:=ha.rg i (by rw[m2,CS hne,hi]);rw[s2,CS hne]at this;exact this
      .by_cases hne:n.toNat=i
       .subst hne;rw[hx]at hy;cases hy;exact⟨hm,size,l,k2.2,h0,by omega,hok,h3.1,hl⟩
       .exact ha.i5 i y hm (by rw[m2,CS hne];exact hm0) hy
      .by_cases hne:n.toNat=i
       .subst hne;rw[hx]at hy;cases hy;have:=h3.2.2.2.2.1 ho;exact⟨this.1,ha.defs _ this.2⟩
       .have:=ha.news i y hm (by rw[m2,CS hne];exact hm0) hy ho;exact⟨fun e=>this.1 (h3.2.2.2.1 _ e),this.2⟩
      .by_cases hd:st2.defs[i]? =some true
       .have:=h3.2.2.2.2.2 i hd hi0;exact⟨_,x,hx,this⟩
       .exact ha.used i hi hd
      .by_cases hni:n.toNat=i
       .have hnj:n.toNat≠j:=fun e=>hij (hni.symm.trans e);subst hni;rw[hx]at hy;cases hy;have e1:=h3.2.2.2.2.1 hoy;have e2:=ha.news j z hjm (by rw[m2,CS hnj];exact hjn) hz hoz;intro e;rw[e]at e1;exact e2.1 e1.2
       .by_cases hnj:n.toNat=j
        .subst hnj;rw[hx]at hz;cases hz;have e1:=h3.2.2.2.2.1 hoz;have e2:=ha.news i y him (by rw[m2,CS hni];exact hin) hy hoy;intro e;rw[←e]at e1;exact e2.1 e1.2
        .exact ha.diff i j y z hij him (by rw[m2,CS hni];exact hin) hy hoy hjm (by rw[m2,CS hnj];exact hjn) hz hoz
     .cases h
    .cases h
   .cases h
  .cases h
structure BD(p:AI)(ce:List Int):Prop where
 small:p.small=true
 len:ce.length=p.nodes.length
 main:0≤p.main∧ce[p.main.toNat]? =some (p.free.length:Int)
 node: ∀(i:Nat) (x:Cq),p.nodes[i]? =some x→ ∃(s:Int) (l:List (Int×Int)),ce[i]? =some s∧0≤s∧s≤5000∧Cc p s x=true∧IA p s x=some l∧ ∀q∈l,0≤q.1∧ce[q.1.toNat]? =some q.2
 used: ∀n:Nat,n<p.defs.length→ ∃(i:Nat) (x:Cq),p.nodes[i]? =some x∧x.op=4∧x.n.toNat=n
 diff: ∀(i j:Nat) (x y:Cq),i≠j→p.nodes[i]? =some x→x.op=4→p.nodes[j]? =some y→y.op=4→x.n.toNat≠y.n.toNat
theorem gN{l:List Bool}(h:l.all id=true)(hi:i<l.length):l[i]? =some true:=by
 have:=Ci.1 h _ (Ms hi);rw[BY hi];simpa using this
theorem B5{p:AI}(h:looks p=some st):BD p st.ce:=by
 unfold looks at h;split at h
 .rename_i hs;split at h
  .rename_i st' hv;split at h
   .rename_i hall;cases h;have hsm:=hs.1;simp only[AI.small,AP,Ap]at hsm;have hg:=CR p _ _ _ _ _ hv;have hun:=MF (BN.init p).met;have hil:(BN.init p).met.length=p.nodes.length:=by simp[BN.init]
    have ha:=Va p _ _ _ _ _ 60 ⟨by simp[BN.init],by omega⟩ (by omega) (by omega) hv;have hm:st.met.length=p.nodes.length:=by rw[hg.met];simp[BN.init]
    have hz:st.ce.length=p.nodes.length:=by rw[hg.ce];simp[BN.init]
    have hd:st.defs.length=p.defs.length:=by rw[hg.defs];simp[BN.init]
    have hmet: ∀{i x},p.nodes[i]? =some x→st.met[i]? =some true:=fun{i x} hx=>gN hall.1 (by rw[hm];exact(BE.1 hx).1);have h0: ∀i:Nat,(BN.init p).met[i]? ≠some true:=fun i=>by
     simp only[BN.init,Rd];split<;>simp
    have hd0: ∀i:Nat,(BN.init p).defs[i]? ≠some true:=fun i=>by
     simp only[BN.init,Rd];split<;>simp
    refine⟨hs.1,hz,⟨ha.2.1.1,ha.2.1.2.2⟩,fun i x hx=>?_,fun n hn=>ha.1.used n (gN hall.2 (by omega)) (hd0 n),fun i j x y hij hx hox hy hoy=>ha.1.diff i j x y hij (hmet hx) (h0 _) hx hox (hmet hy) (h0 _) hy hoy⟩;obtain⟨_,s,l,h1,hp,hb,h2,h3,h4⟩:=ha.1.i5 i x (hmet hx) (h0 _) hx;exact⟨s,l,h1,hp,hb,h2,h3,fun q hq=>⟨(h4 q hq).1,(h4 q hq).2.2⟩⟩
   .cases h
  .cases h
 .cases h
structure RI(n:Nat)(u:List Bool)(st:List Int):Prop where
 len:u.length=n
 cnt:Dw u+st.length=n
 mem: ∀c:Int,0≤c→c<n→(u[c.toNat]? =some true↔c∈st)
theorem pZ{n:Nat}{u:List Bool}{st:List Int}{c:Int}(h:RI n u st)(h0:0≤c)(h1:c<n):RI n (Nx u c) (Oc st c):=by
 have hl:c.toNat<u.length:=by rw[h.len];omega
 have hm:=h.mem c h0 h1;have hmem: ∀b:Int,0≤b→b<n→((Nx u c)[b.toNat]? =some true↔b=c∨u[b.toNat]? =some true):=fun b hb0 hb1=>by
  rw[Nx,HW];split
  .rename_i e;have:b=c:=by omega
   subst this;simp[hl]
  .rename_i e;have:b≠c:=fun h=>e (by rw[h]);simp[this]
 cases hu:u[c.toNat]? with
 |none=>rw[List.getElem?_eq_none_iff]at hu;omega
 |some t=>
  cases t with
  |true=>
   have hin:=hm.1 hu;have e2:Oc st c=st:=by rw[Oc,DO hin]
   have e1:Nx u c=u:=by
    apply List.ext_getElem?;intro i;rw[Nx,HW];split
    .rename_i e;subst e;exact hu.symm
    .rfl
   rw[e1,e2];exact h
  |false=>
   have hnin:c∉st:=fun hc=>by rw[hm.2 hc]at hu;simp at hu
   have e2:Oc st c=st++[c]:=by rw[Oc,CS hnin]
   have hc:=Ew hu;have hh:=h.cnt;refine⟨by simp[Nx,h.len],?_,fun b hb0 hb1=>?_⟩
   .rw[e2];simp only[Nx,CI,II];omega
   .rw[hmem b hb0 hb1,e2,h.mem b hb0 hb1];simp[or_comm]
theorem Qg{n:Nat}: ∀{l:List Int} {u:List Bool} {st:List Int},RI n u st→(∀c∈l,0≤c∧c<n)→RI n (l.foldl Nx u) (l.foldl Oc st)
 |[],u,st,h,_=>h
 |c::l,u,st,h,hc=>by
  have:=hc c (by simp);exact Qg (l:=l) (pZ h this.1 this.2) (fun b hb=>hc b (FD _ hb))
theorem Qh{n:Nat}: ∀{l:List Fi} {u:List Bool} {st:List Int},RI n u st→(∀r∈l,∀c∈r.d8,0≤c∧c<n)→RI n (MG u l) (GB st l)
 |[],u,st,h,_=>h
 |r::l,u,st,h,hc=>by
  have e1:MG u (r::l)=MG (r.d8.foldl Nx u) l:=rfl;have e2:GB st (r::l)=GB (r.d8.foldl Oc st) l:=rfl;rw[e1,e2];exact Qh (Qg h (hc r (by simp))) (fun b hb=>hc b (FD _ hb))
theorem Tw: ∀l:List Bool,l.all id=decide (Dw l=0)
 |[]=>by simp[Dw]
 |b::l=>by
  rw[D3,Tw l];cases b
  .simp[Dw]
  .have:Dw (true::l)=Dw l:=by simp[Dw]
   rw[this];rfl
theorem AEz(d:Bq):d.okR=d.okG:=by
 unfold Bq.okR Bq.okG;by_cases hr:d.rules.all (BX d)=true
 .have h0:RI d.am.length (List.replicate d.am.length false) []:=⟨by simp,by simp[Dw],fun c h0 h1=>by simp[Rd]⟩;have h:=Qh (l:=d.rules) h0 (fun r hr' c hc=>by
   have:=Ci.1 hr r hr';simp only[BX,AP]at this;exact NZ this.2.2.2 c hc)
  have hc:=h.cnt;rw[Tw];congr 6;rw[decide_eq_decide];omega
 .rw[KW]at hr;rw[hr];simp
end Go.Proofs
namespace Go.Proofs
open Go Go.Abs
def Oe(ce:List Int)(x:Cq):Int:=((x.kids[0]?).map fun k=>(ce[k.toNat]?).getD 0).getD 0
def En(ce:List Int):List Int→List Cq→List Int
 |out,[]=>out
 |out,x::l=>En ce (if x.op=4 then out.set x.n.toNat (Oe ce x)else out) l
def BQ(p:AI)(ce:List Int):List Int:=En ce (List.replicate p.defs.length 0) p.nodes
theorem IU(ce:List Int): ∀(l:List Cq) (out:List Int),(En ce out l).length=out.length
 |[],out=>rfl
 |x::l,out=>by
  rw[En,IU ce l];split<;>simp
theorem OZ(ce:List Int)(n:Nat)(v:Int): ∀(l:List Cq) (out:List Int),n<out.length→(∀x∈l,x.op=4→x.n.toNat=n→Oe ce x=v)→(out[n]? =some v∨ ∃x∈l,x.op=4∧x.n.toNat=n)→(En ce out l)[n]? =some v
 |[],out,hn,h1,h2=>by
  rcases h2 with h|⟨x,hx,_⟩
  .exact h
  .cases hx
 |x::l,out,hn,h1,h2=>by
  rw[En];refine OZ ce n v l _ (by split<;>simpa using hn) (fun y hy=>h1 y (FD _ hy)) ?_;by_cases hx:x.op=4∧x.n.toNat=n
  .left;rw[DO hx.1,HW,DO hx.2,hx.2,DO hn,h1 x (by simp) hx.1 hx.2]
  .rcases h2 with h|⟨y,hy,hyo⟩
   .left;split
    .rename_i ho;rw[HW,CS fun e=>hx ⟨ho,e⟩];exact h
    .exact h
   .rcases Ce.1 hy with rfl|hy
    .exact absurd hyo hx
    .exact .inr ⟨y,hy,hyo⟩
structure xX(p:AI)(ce:List Int)(n:Nat)(d:Bq):Prop where
 ok:N2 d
 node: ∃(i:Nat) (x:Cq) (s:Int),p.nodes[i]? =some x∧x.op=4∧x.n.toNat=n∧ce[i]? =some s∧0≤s∧s≤5000∧(BQ p ce)[n]? =some (s+d.own)∧(∀r∈d.rules,0≤r.node∧ce[r.node.toNat]? =some (s+d.own+CH d r.d8))∧(∀y∈d.ac,0≤y.node∧ce[y.node.toNat]? =some (s+d.own))∧ ∃k,x.kids=[k]∧0≤k∧ce[k.toNat]? =some (s+d.own)
theorem CD{p:AI}{ce:List Int}(h:BD p ce){n:Nat}{d:Bq}(hd:p.defs[n]? =some d):xX p ce n d:=by
 have hn:=(BE.1 hd).1;obtain⟨i,x,hx,hxo,hxn⟩:=h.used n hn;obtain⟨s,l,hs,h0,hb,hok,hl,hq⟩:=h.node i x hx;have hl2:=hl;rw[IA,DO hxo,hxn,hd]at hl2;dsimp only at hl2;split at hl2
 .rename_i hg;cases hl2;have hkids: ∃k,x.kids=[k]:=by
   simp only[Cc,AP,Ap]at hok;have:=hok.1;rw[hxo]at this;simp only[DN]at this;have:x.kids.length=1:=by simpa using this.symm
   match hk:x.kids,this with
   |[k],_=>exact⟨k,rfl⟩
  obtain⟨k,hk⟩:=hkids;have hkq:0≤k∧ce[k.toNat]? =some (s+d.own):=hq (k,s+d.own) (by simp[B9,hk]);refine⟨Sd hg,i,x,s,hx,hxo,hxn,hs,h0,hb,?_,fun r hr=>?_,fun y hy=>?_,k,hk,hkq⟩
  .refine OZ ce n _ p.nodes _ (by simpa using hn) (fun y hy hyo hyn=>?_) (.inr ⟨x,Ac hx,hxo,hxn⟩);obtain⟨j,hj⟩:=IF hy;by_cases hij:i=j
   .subst hij;rw[hx]at hj;cases hj;simp[Oe,hk,hkq.2]
   .exact absurd (hxn.trans hyn.symm) (h.diff i j x y hij hx hxo hj hyo)
  .exact hq (r.node,s+d.own+CH d r.d8) (by simp only[Cf,EX,F0];exact .inl ⟨r,hr,rfl⟩)
  .exact hq (y.node,s+d.own) (by simp only[CG,EX,F0];exact .inr (.inl ⟨y,hy,rfl⟩))
 .cases hl2
def Ao.own(d:Bq)(g:Ao)(ch:Bool)(n:Int):Int:=((g.env[g.env.length-d.ac.length-(if ch then d.am.length else 0)+n.toNat]?).map CT.n).getD 0
def Ao.place(d:Bq)(g:Ao)(n:Int):Int:=if n=0 then g.at_ else g.own d false (n-1)
def AW(l:List BL)(i:Int):Bool:=((l[i.toNat]?).map BL.dead).getD false
def E3(p:AI)(nc ns:Nat)(many:Int)(m:List CT):Bool:=decide ((m.length:Int)=many)&&m.all (CT.inB p nc ns)
def M9(p:AI)(s:BM)(d:Bq)(g:Ao)(i j:Nat)(q:GR)(ch:Hb):Bool:=
 decide (q.group=i)&&(decide (q.index=j)&&(decide (q.at_=g.place d ch.at_)&&(decide (q.queue.length≤12)&&((decide (q.queue.length=0)|| !AW s.ac q.at_)&&q.queue.all (E3 p s.am.length s.ac.length ch.many)))))
def KB(p:AI)(s:BM)(d:Bq)(g:Ao)(i j a:Nat)(ch:Hb):Bool:=match s.am[a]? with|some q=>M9 p s d g i j q ch|none=>false
def Dz(p:AI)(s:BM)(d:Bq)(g:Ao)(i c:Nat):Nat→List Hb→Bool
 |_,[]=>true
 |j,ch::l=>KB p s d g i j (c+j) ch&&Dz p s d g i c (j+1) l
def Ef(c k:Nat)(d:Bq):List CT:=(List.range' c d.am.length).map (fun(j:Nat)=>⟨3,(j:Int)⟩)++(List.range' k d.ac.length).map (fun(j:Nat)=>⟨4,(j:Int)⟩)
def C7(d:Bq)(c k:Nat)(g:Ao):Bool:=decide (g.env.drop (g.env.length-d.am.length-d.ac.length)=Ef c k d)
def JG(p:AI)(gs:List Int)(s:BM)(i c k:Nat)(g:Ao)(d:Bq):Bool:=
 decide (Dd s.ac g.at_)&&(decide ((g.env.length:Int)=(gs[g.eq.toNat]?).getD 0)&&(g.env.all (CT.inB p s.am.length s.ac.length)&&(C7 d c k g&&Dz p s d g i c 0 d.am)))
def AI.def? (p:AI)(n:Int):Option Bq:=if 0≤n then p.defs[n.toNat]? else none
def Br(p:AI)(gs:List Int)(s:BM):Nat→Nat→Nat→List Ao→Bool
 |_,c,k,[]=>decide (c=s.am.length)&&decide (k=s.ac.length)
 |i,c,k,g::l=>match p.def? g.eq with
  |some d=>JG p gs s i c k g d&&Br p gs s (i+1) (c+d.am.length) (k+d.ac.length) l
  |none=>false
def DS(op:Int):Bool:=decide (op=6)||(decide (op=7)||decide (op=8))
def Bz(p:AI)(ce:List Int)(s:BM)(w:GI):Bool:=
 decide (Dd s.ac w.at_)&&(!AW s.ac w.at_&&(decide (0≤w.node)&&((match p.nodes[w.node.toNat]? with|some x=>DS x.op|none=>false)&&(decide ((w.env.length:Int)=(ce[w.node.toNat]?).getD 0)&&w.env.all (CT.inB p s.am.length s.ac.length)))))
def Fa(l:List BL):List BL→Bool
 |[]=>true
 |x::m=>(x.dead|| !AW l x.of)&&Fa l m
def BM.small(s:BM):Bool:=decide (s.ac.length≤24)&&(decide (s.bi.length≤40)&&(decide (s.am.length≤60)&&decide (s.waits.length≤40)))
def DG(p:AI)(ce:List Int)(s:BM):Bool:=
 s.small&&(GZ s.ac&&(Fa s.ac (s.ac.drop 1)&&(Br p (BQ p ce) s 0 0 1 s.bi&&s.waits.all (Bz p ce s))))
end Go.Proofs
namespace Go.Proofs
open Go Go.Abs
theorem LY{p:AI}{ce:List Int}(h:BD p ce){i:Nat}{x:Cq}(hx:p.nodes[i]? =some x)(ho:x.op=4):0≤x.n∧x.n<p.defs.length∧ ∃k v,x.kids=[k]∧0≤k∧ce[k.toNat]? =some v∧Oe ce x=v∧0≤v∧v≤5070:=by
 obtain⟨s,l,hs,h0,hb,hok,hl,hq⟩:=h.node i x hx;simp only[Cc,AP,Ap]at hok;have hn:=hok.2.1;rw[Wo,CS (by rw[ho];decide),DO ho]at hn;have hn:=of_decide_eq_true hn;refine⟨hn.1,hn.2,?_⟩;have hk:=hok.1;rw[ho]at hk;simp only[DN]at hk;have hkl:x.kids.length=1:=by simpa using hk.symm
 match hkk:x.kids,hkl with
 |[k],_=>
  have hl2:=hl;rw[IA,DO ho]at hl2;split at hl2
  .rename_i d hd;split at hl2
   .rename_i hg;cases hl2;have hkq:0≤k∧ce[k.toNat]? =some (s+d.own):=hq (k,s+d.own) (by simp[B9,hkk]);have:=Nk (Sd hg);exact⟨k,s+d.own,rfl,hkq.1,hkq.2,by simp[Oe,hkk,hkq.2],by omega,by omega⟩
   .cases hl2
  .cases hl2
end Go.Proofs
namespace Go.Proofs
open Go Go.Abs
theorem JJ(c k:Nat)(d:Bq):(Ef c k d).length=d.own:=by simp[Ef,Bq.own]
variable{j:Nat}
theorem Ln(c k:Nat)(d:Bq)(h:j<d.am.length):(Ef c k d)[j]? =some ⟨3,(c:Int)+(j:Int)⟩:=by
 rw[Ef,Be (by simpa using h),D1,List.getElem?_range' h];simp
theorem Lo(c k:Nat)(d:Bq)(h:j<d.ac.length):(Ef c k d)[d.am.length+j]? =some ⟨4,(k:Int)+(j:Int)⟩:=by
 rw[Ef,CO (by simp)];simp only[BI,List.length_range'];rw[Nat.add_sub_cancel_left,D1,List.getElem?_range' h];simp
variable{c k:Nat}{g:Ao}
theorem ZB{d:Bq}(h:C7 d c k g=true)(j:Nat):g.env[g.env.length-d.am.length-d.ac.length+j]? =(Ef c k d)[j]? :=by
 have h:=of_decide_eq_true h;rw[←h,HE]
theorem U2{d:Bq}(h:C7 d c k g=true)(hj:j<d.am.length):g.env[g.env.length-d.am.length-d.ac.length+j]? =some ⟨3,(c:Int)+(j:Int)⟩:=by
 rw[ZB h,Ln _ _ _ hj]
theorem U3{d:Bq}(h:C7 d c k g=true)(he:d.own≤g.env.length)(hj:j<d.ac.length):g.env[g.env.length-d.ac.length+j]? =some ⟨4,(k:Int)+(j:Int)⟩:=by
 unfold Bq.own at he;have:=ZB h (d.am.length+j);rw[Lo _ _ _ hj]at this;rw[←this];congr 1;omega
theorem Sk{d:Bq}(h:C7 d c k g=true)(he:d.own≤g.env.length){n:Int}(h1:1≤n)(h2:n≤d.ac.length):g.place d n=(k:Int)+(n-1):=by
 rw[Ao.place,CS (by omega),Ao.own];simp only[AM,ES,Nat.sub_zero];rw[U3 h he (j:=(n-1).toNat) (by omega)];simp only[El,F5];omega
theorem Lz{d:Bq}(h:C7 d c k g=true){n:Int}(h1:0≤n)(h2:n<d.am.length):g.own d true n=(c:Int)+n:=by
 rw[Ao.own];simp only[F3];have:=U2 h (j:=n.toNat) (by omega);rw[show g.env.length-d.ac.length-d.am.length+n.toNat=g.env.length-d.am.length-d.ac.length+n.toNat by omega,this];simp only[El,F5];omega
theorem O5{p:AI}{s:BM}{d:Bq}(h:C7 d c k g=true)(he:d.own≤g.env.length)(hat:Dd s.ac g.at_)(hv:g.env.all (CT.inB p s.am.length s.ac.length)=true){n:Int}(h1:0≤n)(h2:n≤d.ac.length):Dd s.ac (g.place d n):=by
 by_cases h0:n=0
 .rw[Ao.place,DO h0];exact hat
 .rw[Sk h he (by omega) h2];have hg:=U3 h he (j:=(n-1).toNat) (by omega);have:=Ci.1 hv _ (Ac hg);simp[CT.inB]at this;have e:((n-1).toNat:Int)=n-1:=PL (by omega);constructor
  .omega
  .omega
theorem rq{d:Bq}(he:d.own≤g.env.length){i:Nat}(hi:i<d.own): ∃v,g.env[g.env.length-d.am.length-d.ac.length+i]? =some v∧g.env.drop (g.env.length-d.am.length-d.ac.length+i)=v::g.env.drop (g.env.length-d.am.length-d.ac.length+(i+1)):=by
 unfold Bq.own at*;obtain⟨v,hv⟩:=get_some (l:=g.env) (i:=g.env.length-d.am.length-d.ac.length+i) (by omega);exact⟨v,hv,AO hv⟩
structure CK where
 d9:BM
 ev:List EK
 work:Int
structure Ga where
 node:Int
 at_:Int
 env:List CT
def CN{α:Type}(l:List α)(i:Int):List α:=l.take i.toNat++l.drop (i.toNat+1)
def IE(l:List CT)(i:Int):CT:=(l[i.toNat]?).getD ⟨0,0⟩
def EE(p:AI)(s:BM)(q:GR):Int:=(((s.bi[q.group.toNat]?).bind fun g=>(p.defs[g.eq.toNat]?).bind fun d=>d.am[q.index.toNat]?).map Hb.many).getD 0
def Xz(s:BM)(n:Int)(q:GR)(l:List CT):Option BM:=if q.queue.length<12 then some {s with am:=s.am.set n.toNat {q with queue:=q.queue++[l]}}else none
def P6(p:AI)(s:BM)(n:Int)(l:List CT):Option BM:=match s.am[n.toNat]? with
 |some q=>if AW s.ac q.at_=false∧EE p s q=l.length then Xz s n q l else some s
 |none=>some s
def AGC(at_ n:Int)(l:List CT):EK:=⟨5,at_,n,0,l⟩
def Ec(p:AI)(x:Cq)(j:Ga)(st:CK):Option CK:=
 let l:=x.args.map (·.value j.env)
 let to:=IE j.env x.n
 if to.kind=2 then some {st with ev:=st.ev++[AGC j.at_ to.n l]}
 else if to.kind=3 then(P6 p st.d9 to.n l).map fun s=>{st with d9:=s}else some st
def FG(d:Bq)(g:Ao)(i:Nat):Nat→List Hb→List GR
 |_,[]=>[]
 |k,c::l=>⟨i,k,g.place d c.at_,[]⟩::FG d g i (k+1) l
def DC(d:Bq)(g:Ao)(l:List M6):List BL:=l.map fun y=>⟨g.place d y.of,false⟩
def Ak(s:BM)(d:Bq)(n:Int)(j:Ga):Ao:=⟨n,j.at_,j.env++Ef s.am.length s.ac.length d⟩
def CM(s:BM)(d:Bq)(g:Ao):BM:={s with bi:=s.bi++[g],am:=s.am++FG d g s.bi.length 0 d.am,ac:=s.ac++DC d g d.ac}
def Dc(d:Bq)(g:Ao):Nat→List M6→List Ga
 |_,[]=>[]
 |k,y::l=>⟨y.node,g.place d (k+1),g.env⟩::Dc d g (k+1) l
def Bj(x:Cq)(k:Nat)(at_:Int)(env:List CT):List Ga:=match x.kids[k]? with
 |some n=>[⟨n,at_,env⟩]
 |none=>[]
def Hh(p:AI)(x:Cq)(j:Ga)(st:CK):Option (CK×List Ga):=match p.defs[x.n.toNat]? with
 |some d=>
  let g:=Ak st.d9 d x.n j
  let s:=CM st.d9 d g
  if s.am.length≤60∧s.ac.length≤24∧s.bi.length≤40 then some ({st with d9:=s},Dc d g 0 d.ac++Bj x 0 j.at_ g.env)else none
 |none=>none
def Ur(x:Cq)(env:List CT):Nat:=match x.args[0]? with
 |some e=>if (e.value env).kind=1∧(e.value env).n≠0 then 0 else 1
 |none=>1
def IL(j:Ga)(st:CK):Option CK:=if st.d9.waits.length<40 then some {st with d9:={st.d9 with waits:=st.d9.waits++[⟨j.at_,j.node,j.env⟩]}}else none
def Jd(p:AI)(j:Ga)(st:CK):Option (CK×List Ga):=match p.nodes[j.node.toNat]? with
 |some x=>
  if x.op=2 then(Ec p x j st).map fun st=>(st,[])
  else if x.op=3 then some (st,Bj x 0 j.at_ j.env++Bj x 1 j.at_ j.env)
  else if x.op=4 then Hh p x j st
  else if x.op=5 then some (st,Bj x (Ur x j.env) j.at_ j.env)
  else if DS x.op=true then(IL j st).map fun st=>(st,[])
  else some (st,[])
 |none=>none
def Bn(f:Ga→CK→Option CK):List Ga→CK→Option CK
 |[],st=>some st
 |j::l,st=>(f j st).bind (Bn f l)
def NQ(f:Ga→CK→Option CK):Option (CK×List Ga)→Option CK
 |some (st,js)=>Bn f js st
 |none=>none
def Fb(p:AI):Nat→Ga→CK→Option CK
 |0,_,_=>none
 |k+1,j,st=>if st.work<400 then NQ (Fb p k) (Jd p j {st with work:=st.work+1})else none
def lc(p:AI)(s:BM)(w:GI):Bool:=match p.nodes[w.node.toNat]? with
 |some x=>if x.op=7 then true else
  let v:=IE w.env x.n
  if v.kind=4 then(if x.op=8 then AW s.ac v.n else decide (w.at_≠0)&&(!AW s.ac v.n&& !CF s.ac v.n w.at_))else false
 |none=>false
def Dp(p:AI)(s:BM):Nat→List GI→List FY
 |_,[]=>[]
 |i,w::l=>(if lc p s w=true then [⟨i,0,0,[]⟩]else [])++Dp p s (i+1) l
def Ds:List Nat→List (List Int)
 |[]=>[[]]
 |n::l=>(List.range n).flatMap fun(i:Nat)=>(Ds l).map fun t=>(i:Int)::t
def Tl(s:BM)(c:Int):Nat:=((s.am[c.toNat]?).map fun q=>q.queue.length).getD 0
def B7(s:BM)(d:Bq)(g:Ao)(r:Fi):List Nat:=r.d8.map fun c=>Tl s (g.own d true c)
def Ev(s:BM)(d:Bq)(g:Ao)(r:Fi):List (List Int):=if AW s.ac (g.place d r.at_)=true then []else Ds (B7 s d g r)
def CV(s:BM)(d:Bq)(g:Ao)(i:Nat):Nat→List Fi→List FY
 |_,[]=>[]
 |k,r::l=>((Ev s d g r).map fun t=>⟨-1,i,k,t⟩)++CV s d g i (k+1) l
def DY(p:AI)(s:BM):Nat→List Ao→List FY
 |_,[]=>[]
 |i,g::l=>(match p.def? g.eq with|some d=>CV s d g i 0 d.rules|none=>[])++DY p s (i+1) l
def Cz(p:AI)(s:BM):List FY:=Dp p s 0 s.waits++DY p s 0 s.bi
def FU(s:BM)(c:Int)(k:Int):List CT×BM:=match s.am[c.toNat]? with
 |some q=>(((q.queue[k.toNat]?).getD []),{s with am:=s.am.set c.toNat {q with queue:=CN q.queue k}})
 |none=>([],s)
def BO(d:Bq)(g:Ao):List Int→List Int→BM→List CT×BM
 |c::cs,k::ks,s=>((FU s (g.own d true c) k).1++(BO d g cs ks (FU s (g.own d true c) k).2).1,(BO d g cs ks (FU s (g.own d true c) k).2).2)
 |_,_,s=>([],s)
def O8(p:AI)(x:FY)(d:Bq)(g:Ao)(r:Fi)(s:BM):Option CK:=
 let t:=BO d g r.d8 x.picks s
 let at_:=g.place d r.at_
 Fb p 401 ⟨r.node,at_,g.env++t.1⟩ ⟨t.2,[⟨1,at_,x.group,x.ut,t.1⟩],0⟩
def Z2(p:AI)(s:BM)(x:FY):Option CK:=match s.bi[x.group.toNat]? with
 |some g=>match p.defs[g.eq.toNat]? with
  |some d=>match d.rules[x.ut.toNat]? with
   |some r=>O8 p x d g r s
   |none=>none
  |none=>none
 |none=>none
def Gp(l:List BL)(at_:Int):Nat→List BL→List BL
 |_,[]=>[]
 |i,x::m=>{x with dead:=x.dead||CF l i at_}::Gp l at_ (i+1) m
def PZ(s:BM)(at_:Int):BM:=
 let l:=Gp s.ac at_ 0 s.ac
 {ac:=l,bi:=s.bi,am:=s.am.map fun q=>if AW l q.at_=true then{q with queue:=[]}else q,waits:=s.waits.filter fun w=> !AW l w.at_}
def GY(l:List BL)(i n:Int):List BL:=match l[i.toNat]? with
 |some x=>l.set i.toNat {x with of:=n}
 |none=>l
def J7(p:AI)(s:BM)(w:GI)(x:Cq):Option CK:=
 let n:=(IE w.env x.n).n
 if x.op=7 then some ⟨PZ s w.at_,[⟨3,w.at_,0,0,[]⟩],0⟩
 else if x.op=6 then Bn (Fb p 401) (Bj x 0 w.at_ w.env) ⟨{s with ac:=GY s.ac w.at_ n},[⟨2,w.at_,n,0,[]⟩],0⟩
 else Bn (Fb p 401) (Bj x 0 w.at_ w.env) ⟨s,[⟨4,w.at_,n,0,[]⟩],0⟩
def MI(p:AI)(s:BM)(i:Int):Option CK:=match s.waits[i.toNat]? with
 |some w=>match p.nodes[w.node.toNat]? with
  |some x=>J7 p {s with waits:=CN s.waits i} w x
  |none=>none
 |none=>none
def EO(p:AI)(s:BM)(x:FY):Option CK:=if x.wait<0 then Z2 p s x else MI p s x.wait
def DA:BM:=⟨[⟨-1,false⟩],[],[],[]⟩
def Bw(n:Nat):List CT:=(List.range n).map fun(i:Nat)=>⟨2,(i:Int)⟩
def Je(p:AI):Option CK:=Fb p 401 ⟨p.main,0,Bw p.free.length⟩ ⟨DA,[],0⟩
def Ht(l:List FY)(k:Int):Option FY:=l[(max k 0).toNat % l.length]?
def Jr(p:AI):List Int→BM→List EK→Option (BM×List EK)
 |[],s,ev=>some (s,ev)
 |k::ks,s,ev=>match Ht (Cz p s) k with
  |some x=>match EO p s x with
   |some m=>Jr p ks m.d9 (ev++m.ev)
   |none=>none
  |none=>some (s,ev)
structure gK(p:AI)(s:BM)(q:GR):Prop where
 at_:Dd s.ac q.at_
 g0:0≤q.group
 i0:0≤q.index
 ex: ∃g d ch,s.bi[q.group.toNat]? =some g∧0≤g.eq∧p.defs[g.eq.toNat]? =some d∧d.am[q.index.toNat]? =some ch
 len:q.queue.length≤12
end Go.Proofs
namespace Go.Abs
theorem dA(k:IntKind)(a b:Int)(v:AV)(es:List (AZ×AV)):Cv ((.int k a,v)::es) (.int k b)=if a=b then some (some v)else Cv es (.int k b):=by
 rw[Cv];by_cases h:a=b
 .have hb:(a==b)=decide (a=b):=by rw[Nl];simp
  simp[G5,h,hb]
 .have hb:(a==b)=decide (a=b):=by rw[Nl];simp
  simp[G5,h,hb]
attribute [go_sem] dA
end Go.Abs
namespace Go.Proofs
open Go Go.Abs
def IB:List (AZ×AV):=[(.int .i64 2,.fn 110 [] []),(.int .i64 3,.fn 111 [] []),(.int .i64 4,.fn 112 [] []),(.int .i64 5,.fn 113 [] []),(.int .i64 6,.fn 114 [] []),(.int .i64 7,.fn 114 [] []),(.int .i64 8,.fn 114 [] [])]
def A3(x:GR)(v:AV):List AV:=[.d (.int .i64 x.group),.d (.int .i64 x.index),.d (.int .i64 x.at_),v]
end Go.Proofs
namespace Go.Proofs
open Go Go.Abs
set_option maxRecDepth 100000
set_option maxHeartbeats 2000000
def CL(n:Int):AV:=.iface 177 (.agg [.d (.int .i64 n)])
theorem cK(n:Int):flat (CL n)=true:=by simp[CL,flat,FV,EH]
attribute [go_sem] cK
@[go_sem] theorem AFL(n:Int):BJ (KL Tryz.prog cfg) 107 [.d (.int .i64 n)] []=.ok (.f9 (CL n),[]):=by
  (refine Ar rfl Tryz.func107 rfl rfl rfl ?_;show Wp _ _ _ _ (Tryz.f107.body.get rfl) _ _;simp only[Tryz.f107,AS])
  (repeat' (first|simp only[go_sem, *,CL]|(refine sx ?_ ?_<;>intro hc)|refine sy (by omega) fun x hx hm=>?_|simp(disch:=first|assumption|omega) only[AJ]))
@[go_sem] theorem AFZ(t:Bool):BJ (KL Tryz.prog cfg) 62 [.d (.bool t)] []=B4 (CL 2) t:=by
  cases t
  .rw[Ju]
   (refine Ar rfl Tryz.func62 rfl rfl rfl ?_;show Wp _ _ _ _ (Tryz.f62.body.get rfl) _ _;simp only[Tryz.f62,AS])
   exact au
  .rw[K2]
   (refine Ar rfl Tryz.func62 rfl rfl rfl ?_;show Wp _ _ _ _ (Tryz.f62.body.get rfl) _ _;simp only[Tryz.f62,AS])
   exact au
def VG(x:BS)(size depth left:Int):Prop:=(x.size:Int)≤left∧depth+x.depth≤13∧x.formed size=true
theorem ADh(x:BS)(size:Int):VG x size 1 60↔x.ok size=true:=by
 simp only[VG,BS.ok,AP,Ap];constructor
 .rintro⟨h1,h2,h3⟩;exact⟨by omega,by omega,h3⟩
 .rintro⟨h1,h2,h3⟩;exact⟨by omega,by omega,h3⟩
end Go.Proofs
namespace Go.Abs
variable{P:Program}{C:CZ}{K:AN}{fr:Fr}{b n i:Nat}{Q:Dx→St→Prop}
variable{ops:Array Oper}{al:Nat→Bool}{l:List Oper}{e:Bm}{h:AB}{bs:Nat}{ds:List Df}{ps:List (Nat×Nat)}{fps:List Fp}{ρ:List Nat}{dst:Option Tmp}
theorem XD(ρ:List Nat):Jv (some ρ) []=true:=rfl
theorem xJ(ρ:List Nat)(id:Id)(o:Obj)(δ:AB):Jv (some ρ) ((id,o)::δ)=(Id.under ρ id&&Jv (some ρ) δ):=rfl
theorem KY(ρ:List Nat)(a j:Nat):Id.under ρ (a::j::ρ)=true:=under_iff.2 ⟨[a,j],rfl⟩
variable{Post:Ae→Prop}{q:E (Ae×AB)}
theorem DF(hk: ∃o h',q=.ok (o,h')∧Post o)(hn: ∀o h',Post o→roP C K fr ops b n al l i dst e h bs ds Q (.ok (o,h'))):roP C K fr ops b n al l i dst e h bs ds Q q:=by
 obtain⟨o,h',e,hp⟩:=hk;rw[e];exact hn o h' hp
theorem ABF(v:AV)(h':AB):roP C K fr ops b n al l i dst e h bs ds Q (.ok (.ret v,h'))=(flat v=true∧Fe C K fr ops b n al l (i+1) ⟨CY e dst v,h,bs,ds⟩ Q):=rfl
theorem ABE(v:AV)(h':AB):roP C K fr ops b n al l i dst e h bs ds Q (.ok (.f9 v,h'))=(flat v=true∧al i=true∧Q (.f9 v) ⟨e,h,b+n,ds⟩):=rfl
def roF(C:CZ)(K:AN)(fr:Fr)(ops:Array Oper)(b n:Nat)(al:Nat→Bool)(ps:List (Nat×Nat))(fps:List Fp)(l:List Oper)(i:Nat)(dst:Option Tmp)(e:Bm)(h:AB)(bs:Nat)(ds:List Df)(Q:Dx→St→Prop):E (Ae×AB)→Prop
 |.ok (.ret v,_)=>flat v=true∧Gd C K fr ops b n al ps (fps++[⟨none,some []⟩]) l (i+1) ⟨CY e dst v,h,bs,ds⟩ Q
 |.ok (.f9 v,_)=>flat v=true∧al i=true∧Dg fps ps=true∧Q (.f9 v) ⟨e,h,b+n,ds⟩
 |.err _=>False
theorem uw(dst:Option Tmp)(ρ:List Nat)(f:FuncId)(az:List AV)(hx:(Dr h.get az).isNone):K7 C K fr ops b n al ps fps l i dst ρ e h bs ds Q f az .ro=roF C K fr ops b n al ps fps l i dst e h bs ds Q (K (.fn f) (ME h.get az) (h.puts (az.flatMap (mark h.get))) ρ true (some ρ)):=by
 have hx:Dr h.get az=none:=by simpa using hx
 simp only[K7,DX,hx,E7,BH,Bk,Af];cases K (.fn f) (ME h.get az) (h.puts (az.flatMap (mark h.get))) ρ true (some ρ)with
 |err l=>rfl
 |ok r=>
  obtain⟨o,h'⟩:=r;cases o<;>simp only[PA,roF,A6]<;>split<;>simp_all [Bu]
theorem C2(hk: ∃o h',q=.ok (o,h')∧Post o)(hn: ∀o h',Post o→roF C K fr ops b n al ps fps l i dst e h bs ds Q (.ok (o,h'))):roF C K fr ops b n al ps fps l i dst e h bs ds Q q:=by
 obtain⟨o,h',e,hp⟩:=hk;rw[e];exact hn o h' hp
theorem ABD(v:AV)(h':AB):roF C K fr ops b n al ps fps l i dst e h bs ds Q (.ok (.ret v,h'))=(flat v=true∧Gd C K fr ops b n al ps (fps++[⟨none,some []⟩]) l (i+1) ⟨CY e dst v,h,bs,ds⟩ Q):=rfl
theorem ABC(v:AV)(h':AB):roF C K fr ops b n al ps fps l i dst e h bs ds Q (.ok (.f9 v,h'))=(flat v=true∧al i=true∧Dg fps ps=true∧Q (.f9 v) ⟨e,h,b+n,ds⟩):=rfl
theorem ABW(ρ:List Nat)(a j:Nat)(o:Obj)(δ:AB):Jv (some ρ) ((a::j::ρ,o)::δ)=Jv (some ρ) δ:=by rw[xJ,KY,D7]
attribute [go_sem] XD ABW ABF ABE uw ABD ABC
end Go.Abs
namespace Go.Proofs
open Go Go.Abs
set_option maxRecDepth 100000
set_option maxHeartbeats 4000000
def JO(π:List Nat)(sz n:Nat)(es:List (List AZ)):Ae×AB:=if n=0 then(.ret .ci,[])else(.ret (.em (1::0::π) 0 n),[(1::0::π,.co sz es)])
theorem rr(f:FuncId)(hmd:cfg.mode f=.auto)(l:List BL)(hf: ∀x∈l,BJ (KL Tryz.prog cfg) f [.agg [.d (.int .i64 (x.of)),.d (.bool (x.dead))]] []=.ok (.ret (.agg [.d (.int .i64 (x.of)),.d (.bool (x.dead))]),[]))(hl:l.length≤1000000)(k:Nat)(ρ:List Nat):BJ (KL Tryz.prog cfg) 148 [.d (.be (l.map Aa)),.fn f [] []] (k::ρ)=.ok (JO (k::ρ) 2 l.length (l.map Aa)):=by
 (refine Ar rfl Tryz.func148 rfl rfl rfl ?_;show Wp _ _ _ _ (Tryz.f148.body.get rfl) _ _;simp only[Tryz.f148,AS])
 refine aw ?_;refine AY l _ (S:=fun m i (a:(AV×AB)×Nat)=>⟨[(1,.fn f [] []),(5,a.1.1),(8,.d (.be (l.map Aa))),(9,.d (.int .i64 (m))),(10,.d (.int .i64 (i)))],a.1.2,a.2,[]⟩)
  (Inv:=fun i rest a=>AA (i=0∧a=((.ci,[]),0)∨0<i∧a=((.em (1::0::k::ρ) 0 i,[(1::0::k::ρ,.co 2 ((l.take i).map Aa))]),1))) (b0:=((_,[]),_)) ?_ ⟨.inl ⟨rfl,rfl⟩⟩ ?_ ?_
 .rfl
 .rintro i x a hy hi him hv IH;have hx:=hf x (Ac hy);replace hf:=AA.mk hf;rcases hv.out with⟨rfl,rfl⟩|⟨hi0,rfl⟩
  .clear hv;have him0:(0:Int)<l.length:=him;dsimp only at*;refine aw ?_;refine IH.out ((_,_),_) ⟨.inr ⟨by omega,?_⟩⟩;rw[Jp,hy];rfl
  .clear hv;dsimp only at*;have tk:(l.take i).length=i:=by simp;omega
   have nle: ¬i+1≤i:=by omega
   refine aw ?_;refine IH.out ((_,_),_) ⟨.inr ⟨by omega,?_⟩⟩;have tk2:List.take i (List.map Aa (List.take i l))=List.map Aa (List.take i l):=DL (by simp;omega);rw[Jp,hy,tk2,D0];rfl
 .rintro i a hi him hv;replace hf:=AA.mk hf;rcases hv.out with⟨rfl,rfl⟩|⟨hi0,rfl⟩
  .clear hv;have him0: ¬(0:Int)<l.length:=him;dsimp only at*;have hl0:=AA.mk (hi.out.symm);refine aw ?_;rw[JO,DO hl0.out]
  .clear hv;dsimp only at*;by_cases h0:l.length=0
   .exfalso;have:=hi.out;omega
   .rw[JO,CS h0];have hi2:=hi.out;subst hi2;rw[Em];exact au
theorem jk(f:FuncId)(hmd:cfg.mode f=.auto)(l:List Ao)(hf: ∀x∈l,BJ (KL Tryz.prog cfg) f [.agg [.d (.int .i64 (x.eq)),.d (.int .i64 (x.at_)),.d (.be (x.env.map AL))]] []=.ok (.ret (.agg [.d (.int .i64 (x.eq)),.d (.int .i64 (x.at_)),.d (.be (x.env.map AL))]),[]))(hl:l.length≤1000000)(k:Nat)(ρ:List Nat):BJ (KL Tryz.prog cfg) 150 [.d (.be (l.map An)),.fn f [] []] (k::ρ)=.ok (JO (k::ρ) 3 l.length (l.map An)):=by
 (refine Ar rfl Tryz.func150 rfl rfl rfl ?_;show Wp _ _ _ _ (Tryz.f150.body.get rfl) _ _;simp only[Tryz.f150,AS])
 refine aw ?_;refine AY l _ (S:=fun m i (a:(AV×AB)×Nat)=>⟨[(1,.fn f [] []),(5,a.1.1),(8,.d (.be (l.map An))),(9,.d (.int .i64 (m))),(10,.d (.int .i64 (i)))],a.1.2,a.2,[]⟩)
  (Inv:=fun i rest a=>AA (i=0∧a=((.ci,[]),0)∨0<i∧a=((.em (1::0::k::ρ) 0 i,[(1::0::k::ρ,.co 3 ((l.take i).map An))]),1))) (b0:=((_,[]),_)) ?_ ⟨.inl ⟨rfl,rfl⟩⟩ ?_ ?_
 .rfl
 .rintro i x a hy hi him hv IH;have hx:=hf x (Ac hy);replace hf:=AA.mk hf;rcases hv.out with⟨rfl,rfl⟩|⟨hi0,rfl⟩
  .clear hv;have him0:(0:Int)<l.length:=him;dsimp only at*;refine aw ?_;refine IH.out ((_,_),_) ⟨.inr ⟨by omega,?_⟩⟩;rw[Jp,hy];rfl
  .clear hv;dsimp only at*;have tk:(l.take i).length=i:=by simp;omega
   have nle: ¬i+1≤i:=by omega
   refine aw ?_;refine IH.out ((_,_),_) ⟨.inr ⟨by omega,?_⟩⟩;have tk2:List.take i (List.map An (List.take i l))=List.map An (List.take i l):=DL (by simp;omega);rw[Jp,hy,tk2,D0];rfl
 .rintro i a hi him hv;replace hf:=AA.mk hf;rcases hv.out with⟨rfl,rfl⟩|⟨hi0,rfl⟩
  .clear hv;have him0: ¬(0:Int)<l.length:=him;dsimp only at*;have hl0:=AA.mk (hi.out.symm);refine aw ?_;rw[JO,DO hl0.out]
  .clear hv;dsimp only at*;by_cases h0:l.length=0
   .exfalso;have:=hi.out;omega
   .rw[JO,CS h0];have hi2:=hi.out;subst hi2;rw[Em];exact au
theorem ru(f:FuncId)(hmd:cfg.mode f=.auto)(l:List GI)(hf: ∀x∈l,BJ (KL Tryz.prog cfg) f [.agg [.d (.int .i64 (x.at_)),.d (.int .i64 (x.node)),.d (.be (x.env.map AL))]] []=.ok (.ret (.agg [.d (.int .i64 (x.at_)),.d (.int .i64 (x.node)),.d (.be (x.env.map AL))]),[]))(hl:l.length≤1000000)(k:Nat)(ρ:List Nat):BJ (KL Tryz.prog cfg) 156 [.d (.be (l.map AU)),.fn f [] []] (k::ρ)=.ok (JO (k::ρ) 3 l.length (l.map AU)):=by
 (refine Ar rfl Tryz.func156 rfl rfl rfl ?_;show Wp _ _ _ _ (Tryz.f156.body.get rfl) _ _;simp only[Tryz.f156,AS])
 refine aw ?_;refine AY l _ (S:=fun m i (a:(AV×AB)×Nat)=>⟨[(1,.fn f [] []),(5,a.1.1),(8,.d (.be (l.map AU))),(9,.d (.int .i64 (m))),(10,.d (.int .i64 (i)))],a.1.2,a.2,[]⟩)
  (Inv:=fun i rest a=>AA (i=0∧a=((.ci,[]),0)∨0<i∧a=((.em (1::0::k::ρ) 0 i,[(1::0::k::ρ,.co 3 ((l.take i).map AU))]),1))) (b0:=((_,[]),_)) ?_ ⟨.inl ⟨rfl,rfl⟩⟩ ?_ ?_
 .rfl
 .rintro i x a hy hi him hv IH;have hx:=hf x (Ac hy);replace hf:=AA.mk hf;rcases hv.out with⟨rfl,rfl⟩|⟨hi0,rfl⟩
  .clear hv;have him0:(0:Int)<l.length:=him;dsimp only at*;refine aw ?_;refine IH.out ((_,_),_) ⟨.inr ⟨by omega,?_⟩⟩;rw[Jp,hy];rfl
  .clear hv;dsimp only at*;have tk:(l.take i).length=i:=by simp;omega
   have nle: ¬i+1≤i:=by omega
   refine aw ?_;refine IH.out ((_,_),_) ⟨.inr ⟨by omega,?_⟩⟩;have tk2:List.take i (List.map AU (List.take i l))=List.map AU (List.take i l):=DL (by simp;omega);rw[Jp,hy,tk2,D0];rfl
 .rintro i a hi him hv;replace hf:=AA.mk hf;rcases hv.out with⟨rfl,rfl⟩|⟨hi0,rfl⟩
  .clear hv;have him0: ¬(0:Int)<l.length:=him;dsimp only at*;have hl0:=AA.mk (hi.out.symm);refine aw ?_;rw[JO,DO hl0.out]
  .clear hv;dsimp only at*;by_cases h0:l.length=0
   .exfalso;have:=hi.out;omega
   .rw[JO,CS h0];have hi2:=hi.out;subst hi2;rw[Em];exact au
theorem yH(f:FuncId)(hmd:cfg.mode f=.auto)(l:List CT)(hf: ∀x∈l,BJ (KL Tryz.prog cfg) f [.agg [.d (.int .i64 (x.kind)),.d (.int .i64 (x.n))]] []=.ok (.ret (.agg [.d (.int .i64 (x.kind)),.d (.int .i64 (x.n))]),[]))(hl:l.length≤1000000)(k:Nat)(ρ:List Nat):BJ (KL Tryz.prog cfg) 181 [.d (.be (l.map AL)),.fn f [] []] (k::ρ)=.ok (JO (k::ρ) 2 l.length (l.map AL)):=by
 (refine Ar rfl Tryz.func181 rfl rfl rfl ?_;show Wp _ _ _ _ (Tryz.f181.body.get rfl) _ _;simp only[Tryz.f181,AS])
 refine aw ?_;refine AY l _ (S:=fun m i (a:(AV×AB)×Nat)=>⟨[(1,.fn f [] []),(5,a.1.1),(8,.d (.be (l.map AL))),(9,.d (.int .i64 (m))),(10,.d (.int .i64 (i)))],a.1.2,a.2,[]⟩)
  (Inv:=fun i rest a=>AA (i=0∧a=((.ci,[]),0)∨0<i∧a=((.em (1::0::k::ρ) 0 i,[(1::0::k::ρ,.co 2 ((l.take i).map AL))]),1))) (b0:=((_,[]),_)) ?_ ⟨.inl ⟨rfl,rfl⟩⟩ ?_ ?_
 .rfl
 .rintro i x a hy hi him hv IH;have hx:=hf x (Ac hy);replace hf:=AA.mk hf;rcases hv.out with⟨rfl,rfl⟩|⟨hi0,rfl⟩
  .clear hv;have him0:(0:Int)<l.length:=him;dsimp only at*;refine aw ?_;refine IH.out ((_,_),_) ⟨.inr ⟨by omega,?_⟩⟩;rw[Jp,hy];rfl
  .clear hv;dsimp only at*;have tk:(l.take i).length=i:=by simp;omega
   have nle: ¬i+1≤i:=by omega
   refine aw ?_;refine IH.out ((_,_),_) ⟨.inr ⟨by omega,?_⟩⟩;have tk2:List.take i (List.map AL (List.take i l))=List.map AL (List.take i l):=DL (by simp;omega);rw[Jp,hy,tk2,D0];rfl
 .rintro i a hi him hv;replace hf:=AA.mk hf;rcases hv.out with⟨rfl,rfl⟩|⟨hi0,rfl⟩
  .clear hv;have him0: ¬(0:Int)<l.length:=him;dsimp only at*;have hl0:=AA.mk (hi.out.symm);refine aw ?_;rw[JO,DO hl0.out]
  .clear hv;dsimp only at*;by_cases h0:l.length=0
   .exfalso;have:=hi.out;omega
   .rw[JO,CS h0];have hi2:=hi.out;subst hi2;rw[Em];exact au
theorem yG(f:FuncId)(hmd:cfg.mode f=.auto)(l:List (List CT))(hf: ∀x∈l,BJ (KL Tryz.prog cfg) f [.agg [.d (.be (x.map AL))]] []=.ok (.ret (.agg [.d (.be (x.map AL))]),[]))(hl:l.length≤1000000)(k:Nat)(ρ:List Nat):BJ (KL Tryz.prog cfg) 183 [.d (.be (l.map BW)),.fn f [] []] (k::ρ)=.ok (JO (k::ρ) 1 l.length (l.map BW)):=by
 (refine Ar rfl Tryz.func183 rfl rfl rfl ?_;show Wp _ _ _ _ (Tryz.f183.body.get rfl) _ _;simp only[Tryz.f183,AS])
 refine aw ?_;refine AY l _ (S:=fun m i (a:(AV×AB)×Nat)=>⟨[(1,.fn f [] []),(5,a.1.1),(8,.d (.be (l.map BW))),(9,.d (.int .i64 (m))),(10,.d (.int .i64 (i)))],a.1.2,a.2,[]⟩)
  (Inv:=fun i rest a=>AA (i=0∧a=((.ci,[]),0)∨0<i∧a=((.em (1::0::k::ρ) 0 i,[(1::0::k::ρ,.co 1 ((l.take i).map BW))]),1))) (b0:=((_,[]),_)) ?_ ⟨.inl ⟨rfl,rfl⟩⟩ ?_ ?_
 .rfl
 .rintro i x a hy hi him hv IH;have hx:=hf x (Ac hy);replace hf:=AA.mk hf;rcases hv.out with⟨rfl,rfl⟩|⟨hi0,rfl⟩
  .clear hv;have him0:(0:Int)<l.length:=him;dsimp only at*;refine aw ?_;refine IH.out ((_,_),_) ⟨.inr ⟨by omega,?_⟩⟩;rw[Jp,hy];rfl
  .clear hv;dsimp only at*;have tk:(l.take i).length=i:=by simp;omega
   have nle: ¬i+1≤i:=by omega
   refine aw ?_;refine IH.out ((_,_),_) ⟨.inr ⟨by omega,?_⟩⟩;have tk2:List.take i (List.map BW (List.take i l))=List.map BW (List.take i l):=DL (by simp;omega);rw[Jp,hy,tk2,D0];rfl
 .rintro i a hi him hv;replace hf:=AA.mk hf;rcases hv.out with⟨rfl,rfl⟩|⟨hi0,rfl⟩
  .clear hv;have him0: ¬(0:Int)<l.length:=him;dsimp only at*;have hl0:=AA.mk (hi.out.symm);refine aw ?_;rw[JO,DO hl0.out]
  .clear hv;dsimp only at*;by_cases h0:l.length=0
   .exfalso;have:=hi.out;omega
   .rw[JO,CS h0];have hi2:=hi.out;subst hi2;rw[Em];exact au
theorem aD(x:BL):BJ (KL Tryz.prog cfg) 149 [.agg [.d (.int .i64 (x.of)),.d (.bool (x.dead))]] []=.ok (.ret (.agg [.d (.int .i64 (x.of)),.d (.bool (x.dead))]),[]):=by
 (refine Ar rfl Tryz.func149 rfl rfl rfl ?_;show Wp _ _ _ _ (Tryz.f149.body.get rfl) _ _;simp only[Tryz.f149,AS])
 exact au
theorem fb(x:CT):BJ (KL Tryz.prog cfg) 182 [.agg [.d (.int .i64 (x.kind)),.d (.int .i64 (x.n))]] []=.ok (.ret (.agg [.d (.int .i64 (x.kind)),.d (.int .i64 (x.n))]),[]):=by
 (refine Ar rfl Tryz.func182 rfl rfl rfl ?_;show Wp _ _ _ _ (Tryz.f182.body.get rfl) _ _;simp only[Tryz.f182,AS])
 exact au
end Go.Proofs
namespace Go.Abs
variable{P:Program}{C:CZ}{K:AN}{fr:Fr}{b n i:Nat}{Q:Dx→St→Prop}
variable{ops:Array Oper}{al:Nat→Bool}{l:List Oper}{e:Bm}{h:AB}{bs:Nat}{ds:List Df}{ps:List (Nat×Nat)}{fps:List Fp}{ρ:List Nat}{dst:Option Tmp}
theorem fH(az:List AV)(id:Id)(o m sz:Nat)(es:List (List AZ))(hx:BT (.em id o m) [(id,.co sz es)]=some (id,.co sz es)):DU C K fr ops b n al l i az dst e h bs ds Q (.ok (.ret (.em id o m),[(id,.co sz es)]))=Fe C K fr ops b n al l (i+1) ⟨CY e dst (.em id o m),(id,.co sz es)::h,bs,ds⟩ Q:=o8 _ az _ _ _ rfl hx
theorem fE(az:List AV)(id:Id)(o m sz:Nat)(es:List (List AZ))(hx:BT (.em id o m) [(id,.co sz es)]=some (id,.co sz es)):DT C K fr ops b n al ps fps l i az dst e h bs ds Q (.ok (.ret (.em id o m),[(id,.co sz es)]))=Gd C K fr ops b n al ps (fps++[⟨some (Cp h.get (A5 az)),some [id]⟩]) l (i+1) ⟨CY e dst (.em id o m),(id,.co sz es)::h,bs,ds⟩ Q:=o7 _ az _ _ _ rfl hx
attribute [go_sem] fH fE
end Go.Abs
namespace Go.Proofs
open Go Go.Abs
set_option maxRecDepth 100000
set_option maxHeartbeats 4000000
variable{π:List Nat}{sz:Nat}{es:List (List AZ)}
theorem Cj{n:Nat}(h:n=0):JO π sz n es=(.ret .ci,[]):=by rw[JO,DO h]
theorem DD{n:Nat}(h:n≠0):JO π sz n es=(.ret (.em (1::0::π) 0 n),[(1::0::π,.co sz es)]):=by rw[JO,CS h]
theorem GV(id:Abs.Id)(o n sz:Nat)(es:List (List AZ)):BT (.em id o n) [(id,.co sz es)]=if es.all (·.all EH)then some (id,.co sz es)else none:=by
 simp only[BT,go_sem,is_self,F3]
theorem Cm(l:List CT)(id:Abs.Id)(o n:Nat):BT (.em id o n) [(id,.co 2 (l.map AL))]=some (id,.co 2 (l.map AL)):=by
 rw[GV,DO];simp[AL,EH]
theorem Jf{l:List (List CT)}(h:l.length≠0)(id:Abs.Id)(o n:Nat):BT (.em id o n) [(id,.co 1 (l.map BW))]=none:=by
 rw[GV,CS];cases l with
 |nil=>exact absurd rfl h
 |cons x l=>simp[BW,EH]
theorem OT(l:List BL)(id:Abs.Id)(o n:Nat):BT (.em id o n) [(id,.co 2 (l.map Aa))]=some (id,.co 2 (l.map Aa)):=by
 rw[GV,DO];simp[Aa,EH]
theorem NF{l:List Ao}(h:l.length≠0)(id:Abs.Id)(o n:Nat):BT (.em id o n) [(id,.co 3 (l.map An))]=none:=by
 rw[GV,CS];cases l with
 |nil=>exact absurd rfl h
 |cons x l=>simp[An,EH]
theorem OU{l:List GI}(h:l.length≠0)(id:Abs.Id)(o n:Nat):BT (.em id o n) [(id,.co 3 (l.map AU))]=none:=by
 rw[GV,CS];cases l with
 |nil=>exact absurd rfl h
 |cons x l=>simp[AU,EH]
theorem Jt(l:List CT)(hl:l.length≤1000000)(k:Nat)(ρ:List Nat):BJ (KL Tryz.prog cfg) 152 [.d (.be (l.map AL))] (k::ρ)=.ok (JO (2::k::ρ) 2 l.length (l.map AL)):=by
 have h1:=fun k ρ=>yH 182 rfl l (fun x _=>fb x) hl k ρ;by_cases h0:l.length=0
 .rw[Cj h0];simp only[Cj h0]at h1
  (refine Ar rfl Tryz.func152 rfl rfl rfl ?_;show Wp _ _ _ _ (Tryz.f152.body.get rfl) _ _;simp only[Tryz.f152,AS])
  exact au
 .rw[DD h0];simp only[DD h0]at h1;have fa:=Cm
  (refine Ar rfl Tryz.func152 rfl rfl rfl ?_;show Wp _ _ _ _ (Tryz.f152.body.get rfl) _ _;simp only[Tryz.f152,AS])
  exact au
theorem pH(x:List CT)(hl:x.length≤1000000):BJ (KL Tryz.prog cfg) 184 [.agg [.d (.be (x.map AL))]] []=.ok (.ret (.agg [.d (.be (x.map AL))]),[]):=by
 have h1:=Jt x hl;by_cases h0:x.length=0
 .simp only[Cj h0]at h1;obtain rfl:=Cs h0;clear h0;simp only[D4]at h1
  (refine Ar rfl Tryz.func184 rfl rfl rfl ?_;show Wp _ _ _ _ (Tryz.f184.body.get rfl) _ _;simp only[Tryz.f184,AS])
  (repeat' (first|simp only[go_sem, *,D4]|(refine sx ?_ ?_<;>intro hc)|refine sy (by omega) fun x hx hm=>?_|simp(disch:=first|assumption|omega) only[AJ]))
 .simp only[DD h0]at h1;have fa:=Cm;have tk:List.take x.length (List.map AL x)=List.map AL x:=DL (by simp)
  (refine Ar rfl Tryz.func184 rfl rfl rfl ?_;show Wp _ _ _ _ (Tryz.f184.body.get rfl) _ _;simp only[Tryz.f184,AS])
  exact au
theorem vf(l:List (List CT))(hl:l.length≤1000000)(h: ∀x∈l,x.length≤1000000)(k:Nat)(ρ:List Nat):BJ (KL Tryz.prog cfg) 155 [.d (.be (l.map BW))] (k::ρ)=.ok (JO (2::k::ρ) 1 l.length (l.map BW)):=by
 have h1:=fun k ρ=>yG 184 rfl l (fun x hx=>pH x (h x hx)) hl k ρ;replace h:=AA.mk h;by_cases h0:l.length=0
 .rw[Cj h0];simp only[Cj h0]at h1
  (refine Ar rfl Tryz.func155 rfl rfl rfl ?_;show Wp _ _ _ _ (Tryz.f155.body.get rfl) _ _;simp only[Tryz.f155,AS])
  exact au
 .rw[DD h0];simp only[DD h0]at h1;have fa:=Jf h0
  (refine Ar rfl Tryz.func155 rfl rfl rfl ?_;show Wp _ _ _ _ (Tryz.f155.body.get rfl) _ _;simp only[Tryz.f155,AS])
  exact au
theorem Ru(x:Ao)(hl:x.env.length≤1000000):BJ (KL Tryz.prog cfg) 151 [.agg [.d (.int .i64 (x.eq)),.d (.int .i64 (x.at_)),.d (.be (x.env.map AL))]] []=.ok (.ret (.agg [.d (.int .i64 (x.eq)),.d (.int .i64 (x.at_)),.d (.be (x.env.map AL))]),[]):=by
 have h1:=Jt x.env hl;by_cases h0:x.env.length=0
 .simp only[Cj h0]at h1;have h2:=Cs h0;simp only[h2,D4]at h1
  (refine Ar rfl Tryz.func151 rfl rfl rfl ?_;show Wp _ _ _ _ (Tryz.f151.body.get rfl) _ _;simp only[Tryz.f151,AS])
  (repeat' (first|simp only[go_sem, *,D4]|(refine sx ?_ ?_<;>intro hc)|refine sy (by omega) fun x hx hm=>?_|simp(disch:=first|assumption|omega) only[AJ]))
 .simp only[DD h0]at h1;have fa:=Cm;have tk:List.take x.env.length (List.map AL x.env)=List.map AL x.env:=DL (by simp)
  (refine Ar rfl Tryz.func151 rfl rfl rfl ?_;show Wp _ _ _ _ (Tryz.f151.body.get rfl) _ _;simp only[Tryz.f151,AS])
  exact au
theorem Td(x:GI)(hl:x.env.length≤1000000):BJ (KL Tryz.prog cfg) 157 [.agg [.d (.int .i64 (x.at_)),.d (.int .i64 (x.node)),.d (.be (x.env.map AL))]] []=.ok (.ret (.agg [.d (.int .i64 (x.at_)),.d (.int .i64 (x.node)),.d (.be (x.env.map AL))]),[]):=by
 have h1:=Jt x.env hl;by_cases h0:x.env.length=0
 .simp only[Cj h0]at h1;have h2:=Cs h0;simp only[h2,D4]at h1
  (refine Ar rfl Tryz.func157 rfl rfl rfl ?_;show Wp _ _ _ _ (Tryz.f157.body.get rfl) _ _;simp only[Tryz.f157,AS])
  (repeat' (first|simp only[go_sem, *,D4]|(refine sx ?_ ?_<;>intro hc)|refine sy (by omega) fun x hx hm=>?_|simp(disch:=first|assumption|omega) only[AJ]))
 .simp only[DD h0]at h1;have fa:=Cm;have tk:List.take x.env.length (List.map AL x.env)=List.map AL x.env:=DL (by simp)
  (refine Ar rfl Tryz.func157 rfl rfl rfl ?_;show Wp _ _ _ _ (Tryz.f157.body.get rfl) _ _;simp only[Tryz.f157,AS])
  exact au
def Nj(π:List Nat)(x:GR):Ae×AB:=if x.queue.length=0 then(.ret (.agg (A3 x .ci)),[(0::0::π,.box (A3 x (.d (.be (x.queue.map BW))))),(0::1::π,.box (A3 x .ci))])else(.ret (.agg (A3 x (.em (1::0::2::10::π) 0 x.queue.length))),[(1::0::2::10::π,.co 1 (x.queue.map BW)),(0::0::π,.box (A3 x (.d (.be (x.queue.map BW))))),(0::1::π,.box (A3 x (.em (1::0::2::10::π) 0 x.queue.length)))])
theorem Vy(x:GR)(hl:x.queue.length≤1000000)(h: ∀y∈x.queue,y.length≤1000000)(k:Nat)(ρ:List Nat):BJ (KL Tryz.prog cfg) 154 [.agg [.d (.int .i64 (x.group)),.d (.int .i64 (x.index)),.d (.int .i64 (x.at_)),.d (.be (x.queue.map BW))]] (k::ρ)=.ok (Nj (k::ρ) x):=by
 have h1:=vf x.queue hl h;replace h:=AA.mk h;by_cases h0:x.queue.length=0
 .rw[Nj,DO h0];simp only[Cj h0]at h1
  (refine Ar rfl Tryz.func154 rfl rfl rfl ?_;show Wp _ _ _ _ (Tryz.f154.body.get rfl) _ _;simp only[Tryz.f154,AS])
  (repeat' (first|simp only[go_sem, *,A3]|(refine sx ?_ ?_<;>intro hc)|refine sy (by omega) fun x hx hm=>?_|simp(disch:=first|assumption|omega) only[AJ]))
 .rw[Nj,CS h0];simp only[DD h0]at h1;have fa:=Jf h0
  (refine Ar rfl Tryz.func154 rfl rfl rfl ?_;show Wp _ _ _ _ (Tryz.f154.body.get rfl) _ _;simp only[Tryz.f154,AS])
  (repeat' (first|simp only[go_sem, *,A3]|(refine sx ?_ ?_<;>intro hc)|refine sy (by omega) fun x hx hm=>?_|simp(disch:=first|assumption|omega) only[AJ]))
end Go.Proofs
namespace Go.Abs
variable{P:Program}{C:CZ}{K:AN}{fr:Fr}{b n i:Nat}{Q:Dx→St→Prop}
variable{ops:Array Oper}{al:Nat→Bool}{l:List Oper}{e:Bm}{h:AB}{bs:Nat}{ds:List Df}{ps:List (Nat×Nat)}{fps:List Fp}{ρ:List Nat}{dst:Option Tmp}
def ABy(Q:Dx→St→Prop)(st:St):Option Code→Prop
 |none=>Q .normal st
 |some .ret=>Q .ret st
 |some (.exit k)=>Q (.exit k) st
 |some _=>False
def VK(Q:Dx→St→Prop)(st:St):Option Obj→Prop
 |some (.loop r)=>match r.state with
  |.busy=>False
  |_=>ABy Q st r.rt
 |_=>False
def HH(ρ ρ2:List Nat)(id:Id)(e:Bm)(bs:Nat)(ds:List Df)(Q:Dx→St→Prop):E (Ae×AB)→Prop
 |.ok (.ret _,h')=>VK Q ⟨e,gc ρ (gc ρ2 h'),bs,ds⟩ (h'.get id)
 |.ok (.f9 v,h')=>Q (.f9 v) ⟨e,gc ρ (gc ρ2 h'),bs,ds⟩
 |.err _=>False
def gY(K:AN)(bv:Option (List Nat))(ρ ρ2:List Nat)(id:Id)(e:Bm)(h:AB)(bs:Nat)(ds:List Df)(Q:Dx→St→Prop):AV→Prop
 |.fn f first cap=>HH ρ ρ2 id e bs ds Q (K (.fn f) (first++[.v6 id]++cap) h ρ2 true bv)
 |_=>False
theorem ZQ(ρ ρ2:List Nat)(id:Id)(st1:St)(r:E (Ae×AB)):(match JN ρ ρ2 id st1 r with|.ok (o,st')=>Q o st'|.err _=>False)=HH ρ ρ2 id st1.env st1.base st1.defs Q r:=by
 cases r with
 |err l=>rfl
 |ok r=>
  obtain⟨o,h'⟩:=r;cases o with
  |f9 v=>simp only[JN,HH,Af]
  |ret v=>
   simp only[JN,HH,Af,VK,Wz];cases AB.get h' id with
   |none=>rfl
   |some o=>
    cases o with
    |loop r=>
     obtain⟨s,p⟩:=r;simp only;cases s<;>(try rfl)<;>
     .simp only[ABy];cases p with
      |none=>rfl
      |some c=>cases c<;>rfl
    |_=>rfl
theorem xO(g:Operand)(pz:Array Tmp)(i9 body:Code)(hr:fr.wl=false):Wp C K fr b (.rangeFunc g pz i9 body) ⟨e,h,bs,ds⟩ Q=
 gY K fr.bv (bs::fr.π) ((bs+1)::fr.π) (0::bs::fr.π) e (h.put (0::bs::fr.π) (.loop ⟨.ready,none,fr.f,e,pz.toList,i9,body,fr.nt⟩)) (bs+2) (.mark (0::bs::fr.π)::ds) Q (ev e.get g):=by
 have key:Wp C K fr b (.rangeFunc g pz i9 body) ⟨e,h,bs,ds⟩ Q=(match GU K fr g pz i9 body ⟨e,h,bs,ds⟩with|.ok (o,st')=>Q o st'|.err _=>False):=by
  cases hx:GU K fr g pz i9 body ⟨e,h,bs,ds⟩with
  |ok r=>
   obtain⟨o,st'⟩:=r;exact TD fun n=>by simp only[BK,hx]
  |err l=>
   refine propext ⟨fun⟨n,o,st',h1,hq⟩=>?_,fun h=>h.elim⟩;cases n with
   |zero=>simp[BK]at h1
   |succ n=>simp only[BK,hx]at h1;cases h1
 rw[key];unfold GU;simp only[hr,HT,Af];rw[ZQ];simp only[gY];cases ev e.get g with
 |fn f first cap=>simp only[KA,BH]
 |_=>rfl
variable{π:List Nat}{bv:Option (List Nat)}
theorem p7{f:FuncId}{raw:Bool}{nt:Nat}(g:Operand)(pz:Array Tmp)(i9 body:Code):Wp C K ⟨f,π,raw,bv,false,nt⟩ b (.rangeFunc g pz i9 body) ⟨e,h,bs,ds⟩ Q=
 gY K bv (bs::π) ((bs+1)::π) (0::bs::π) e (h.put (0::bs::π) (.loop ⟨.ready,none,f,e,pz.toList,i9,body,nt⟩)) (bs+2) (.mark (0::bs::π)::ds) Q (ev e.get g):=xO g pz i9 body rfl
variable{ρ ρ2:List Nat}
theorem rB{id:Id}(f:FuncId)(first cap:List AV):gY K bv ρ ρ2 id e h bs ds Q (.fn f first cap)=HH ρ ρ2 id e bs ds Q (K (.fn f) (first++[.v6 id]++cap) h ρ2 true bv):=rfl
variable{Post:Ae→AB→Prop}
theorem Qb{id:Id}{q:E (Ae×AB)}(hk: ∃o h',q=.ok (o,h')∧Post o h')(hn: ∀o h',Post o h'→HH ρ ρ2 id e bs ds Q (.ok (o,h'))):HH ρ ρ2 id e bs ds Q q:=by
 obtain⟨o,h',e,hp⟩:=hk;rw[e];exact hn o h' hp
theorem fM{id:Id}(v:AV)(h':AB):HH ρ ρ2 id e bs ds Q (.ok (.ret v,h'))=VK Q ⟨e,gc ρ (gc ρ2 h'),bs,ds⟩ (h'.get id):=rfl
theorem fL{id:Id}(v:AV)(h':AB):HH ρ ρ2 id e bs ds Q (.ok (.f9 v,h'))=Q (.f9 v) ⟨e,gc ρ (gc ρ2 h'),bs,ds⟩:=rfl
theorem fA(st:St)(f:FuncId)(e:Bm)(pz:List Nat)(i9 body:Code)(nt:Nat):VK Q st (some (.loop ⟨.ready,none,f,e,pz,i9,body,nt⟩))=Q .normal st:=rfl
theorem oq(st:St)(f:FuncId)(e:Bm)(pz:List Nat)(i9 body:Code)(nt:Nat):VK Q st (some (.loop ⟨.done,some .ret,f,e,pz,i9,body,nt⟩))=Q .ret st:=rfl
theorem e9(st:St)(k:Nat)(f:FuncId)(e:Bm)(pz:List Nat)(i9 body:Code)(nt:Nat):VK Q st (some (.loop ⟨.done,some (.exit k),f,e,pz,i9,body,nt⟩))=Q (.exit k) st:=rfl
def AD5(C:CZ)(K:AN)(fr:Fr)(ops:Array Oper)(b n:Nat)(al:Nat→Bool)(l:List Oper)(i:Nat)(dst:Option Tmp)(ρ:List Nat)(e:Bm)(h:AB)(bs:Nat)(ds:List Df)(Q:Dx→St→Prop)(id:Id)(az:List AV):Option Obj→Prop
 |some (.loop r)=>Tm C K fr ops b n al l i dst ρ e h bs ds Q (K (.round id r) az h ρ true fr.bv)
 |_=>False
theorem jD(id:Id)(args:List AV):Rl C K fr ops b n al l i dst ρ e h bs ds Q args (.v6 id)=AD5 C K fr ops b n al l i dst ρ e h bs ds Q id args (h.get id):=by
 simp only[Rl,EB,Jb,AD5];cases AB.get h id with
 |none=>rfl
 |some o=>cases o<;>first|rfl|simp only[P9]
theorem qA(id:Id)(args:List AV)(r:Lp):AD5 C K fr ops b n al l i dst ρ e h bs ds Q id args (some (.loop r))=Tm C K fr ops b n al l i dst ρ e h bs ds Q (K (.round id r) args h ρ true fr.bv):=rfl
def AGI(C:CZ)(K:AN)(fr:Fr)(ops:Array Oper)(b n:Nat)(al:Nat→Bool)(ps:List (Nat×Nat))(fps:List Fp)(l:List Oper)(i:Nat)(dst:Option Tmp)(ρ:List Nat)(e:Bm)(h:AB)(bs:Nat)(ds:List Df)(Q:Dx→St→Prop)(id:Id)(az:List AV):Option Obj→Prop
 |some (.loop r)=>Sr C K fr ops b n al ps fps l i dst ρ e h bs ds Q (K (.round id r) az h ρ true fr.bv)
 |_=>False
theorem p9(id:Id)(args:List AV)(r:Lp):AGI C K fr ops b n al ps fps l i dst ρ e h bs ds Q id args (some (.loop r))=Sr C K fr ops b n al ps fps l i dst ρ e h bs ds Q (K (.round id r) args h ρ true fr.bv):=rfl
def Z5(id:Id)(Post:Ae→AB→Prop)(o:Dx)(h:AB):Option Obj→Prop
 |some (.loop r)=>match o with
  |.normal=>Post (.ret (.d (.bool true))) (h.put id (.loop {r with state:=.ready,rt:=none}))
  |.ret=>Post (.ret (.d (.bool false))) (h.put id (.loop {r with state:=.done,rt:=some .ret}))
  |.exit k=>Post (.ret (.d (.bool false))) (h.put id (.loop {r with state:=.done,rt:=some (.exit k)}))
  |.f9 v=>Post (.f9 v) h
 |_=>False
def Z7(id:Id)(Post:Ae→AB→Prop):Dx→St→Prop
 |o,st=>st.defs=[]∧Z5 id Post o st.heap (st.heap.get id)
def xh(C:CZ)(K:AN)(fr:Fr)(id:Id)(body:Code)(Post:Ae→AB→Prop)(st:St):Option Obj→Prop
 |some (.loop r)=>match r.state with
  |.ready=>Wp C K fr 0 body {st with heap:=st.heap.put id (.loop {r with state:=.busy})} (Z7 id Post)
  |_=>False
 |_=>False
def ACK(C:CZ)(K:AN)(fr:Fr)(id:Id)(body:Code)(Post:Ae→AB→Prop):Dx→St→Prop
 |.normal,st=>st.defs=[]∧Jv fr.bv [(id,.box [])]=true∧xh C K fr id body Post st (st.heap.get id)
 |_,_=>False
theorem Z8(id:Id):Z7 id Post .normal ⟨e,h,bs,[]⟩=Z5 id Post .normal h (h.get id):=by simp[Z7]
theorem wB(id:Id):Z7 id Post .ret ⟨e,h,bs,[]⟩=Z5 id Post .ret h (h.get id):=by simp[Z7]
theorem wA(id:Id)(v:AV):Z7 id Post (.f9 v) ⟨e,h,bs,[]⟩=Z5 id Post (.f9 v) h (h.get id):=by simp[Z7]
theorem Z6(id:Id)(r:Lp):Z5 id Post .normal h (some (.loop r))=Post (.ret (.d (.bool true))) (h.put id (.loop ⟨.ready,none,r.f,r.env,r.params,r.i9,r.body,r.nt⟩)):=rfl
theorem v8(id:Id)(r:Lp):Z5 id Post .ret h (some (.loop r))=Post (.ret (.d (.bool false))) (h.put id (.loop ⟨.done,some .ret,r.f,r.env,r.params,r.i9,r.body,r.nt⟩)):=rfl
theorem pV(id:Id)(k:Nat)(r:Lp):Z5 id Post (.exit k) h (some (.loop r))=Post (.ret (.d (.bool false))) (h.put id (.loop ⟨.done,some (.exit k),r.f,r.env,r.params,r.i9,r.body,r.nt⟩)):=rfl
theorem v7(id:Id)(v:AV)(r:Lp):Z5 id Post (.f9 v) h (some (.loop r))=Post (.f9 v) h:=rfl
theorem Xe(id:Id)(body:Code):ACK C K fr id body Post .normal ⟨e,h,bs,[]⟩=(Jv fr.bv [(id,.box [])]=true∧xh C K fr id body Post ⟨e,h,bs,[]⟩ (h.get id)):=by simp[ACK]
theorem iq(id:Id)(body:Code)(p:Option Code)(f:FuncId)(e':Bm)(pz:List Nat)(a c:Code)(nt:Nat):xh C K fr id body Post ⟨e,h,bs,[]⟩ (some (.loop ⟨.ready,p,f,e',pz,a,c,nt⟩))=Wp C K fr 0 body ⟨e,h.put id (.loop ⟨.busy,p,f,e',pz,a,c,nt⟩),bs,[]⟩ (Z7 id Post):=rfl
theorem GN{id:Id}{r:Lp}{args:List AV}{h:AB}{e:Bm}(he:Dt r.env r.params args=some e)
 (hw:Wp C (KL P C) {f:=r.f,π,raw:=true,bv,wl:=true,nt:=r.nt} 0 r.i9 ⟨e,h,0,[]⟩ (ACK C (KL P C) {f:=r.f,π,raw:=true,bv,wl:=true,nt:=r.nt} id r.body Post)): ∃o h',KL P C (.round id r) args h π true bv=.ok (o,h')∧Post o h':=by
 obtain⟨n1,o1,st1,h1,q1⟩:=hw;cases o1 with
 |normal=>
  obtain⟨d1,w1,q1⟩:=q1;cases hg:AB.get st1.heap id with
  |none=>rw[hg]at q1;exact q1.elim
  |some ob=>
   rw[hg]at q1;cases ob with
   |loop r1=>
    simp only[xh]at q1;cases hs:r1.state with
    |ready=>
     rw[hs]at q1;obtain⟨n2,o2,st2,h2,d2,q2⟩:=q1;have fin: ∃o h',PB id (.ok (o2,st2))=.ok (o,h')∧Post o h':=by
      simp only[PB,d2];cases hg2:AB.get st2.heap id with
      |none=>rw[hg2]at q2;exact q2.elim
      |some ob2=>
       rw[hg2]at q2;cases ob2 with
       |loop r2=>
        cases o2 with
        |normal=>exact⟨_,_,rfl,q2⟩
        |ret=>exact⟨_,_,rfl,q2⟩
        |exit k=>exact⟨_,_,rfl,q2⟩
        |f9 v=>exact⟨_,_,rfl,q2⟩
       |_=>exact q2.elim
     obtain⟨o,h',e3,hp⟩:=fin;refine⟨o,h',XM (n:=max n1 n2) ?_,hp⟩;unfold G2;have h3:=MU h2 (Mk n1 n2);rw[d1]at h3;simp only[he,MU h1 (Kw n1 n2),Hx,d1,w1,hg,Mu,hs,Af];rw[h3];exact e3
    |_=>rw[hs]at q1;exact q1.elim
   |_=>exact q1.elim
 |_=>exact q1.elim
attribute [go_sem] rB fM fL fA oq e9 jD qA p9 Z8 wB wA Z6 v8 pV v7 Xe iq p7 Dt
end Go.Abs
