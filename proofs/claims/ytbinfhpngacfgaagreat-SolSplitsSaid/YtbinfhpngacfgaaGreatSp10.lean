/-
  Parts of it.
-/
import Derived.KernelRfl
import Derived.Test.YtbinfhpngacfgaaGreatSp5
import Derived.Test.YtbinfhpngacfgaaGreatSp6
import Derived.Test.YtbinfhpngacfgaaGreatSp7
import Derived.Test.YtbinfhpngacfgaaGreatSp9
set_option linter.all false
namespace Go.Abs
variable{P:Program}{C:B9}{mix:List TypeId}
abbrev Jg:=List (FuncId×List AV×AV)
def Jg.look:Jg→FuncId→List AV→Option AV
 |[],_,_=>none
 |(g,bs,r)::l,f,az=>match Nat.beq g f with
  |true=>match AV.sames bs az with
   |true=>some r
   |false=>Jg.look l f az
  |false=>Jg.look l f az
def Jg.Known(P:Program)(C:B9)(T:Jg):Prop:= ∀f az r,(f,az,r)∈T→KL P C (.fn f) az [] [] false none=.ok (.ret r,[])
theorem Jg.look_mem: ∀{T:Jg} {f:FuncId} {az:List AV} {r:AV},T.look f az=some r→(f,az,r)∈T
 |[],_,_,_,h=>by cases h
 |(g,bs,r')::l,f,az,r,h=>by
  unfold Jg.look at h;split at h
  .rename_i h1;split at h
   .rename_i h2;cases h;rw[←Co h1,←AV.sames_eq h2];simp
   .exact FD _ (Jg.look_mem h)
  .exact FD _ (Jg.look_mem h)
def Jg.ask(T:Jg)(f:FuncId)(az:List AV):AB→List Nat→Bool→Option (List Nat)→Option AV
 |[],[],false,none=>T.look f az
 |_,_,_,_=>none
def TC(P:Program)(C:B9)(T:Jg)(m:Nat):Nat→AK
 |0=>fun _ _ _ _ _ _=>.err [25]
 |n+1=>fun t args h π raw bi=>match t with
  |.fn f=>match T.ask f args h π raw bi with
   |some r=>.ok (.ret r,[])
   |none=>match C.i6 f with
    |true=>OA P C (TC P C T m n) m f args h π raw bi
    |false=>.err [41,f]
  |.round id r=>match raw with
   |true=>GQ C (TC P C T m n) m id r args h π bi
   |false=>.err [42]
variable{T:Jg}{m:Nat}
theorem QX(hT:T.Known P C): ∀{n:Nat} {q:Qu} {r:AZ×AB},ask (TC P C T m n) q=.ok r→ask (KL P C) q=.ok r
 |0,q,r,h=>by simp[ask,TC]at h
 |n+1,⟨t,args,h,π,raw,bi⟩,r,hr=>by
  simp only[ask,TC]at hr⊢;cases t with
  |fn f=>
   simp only at hr;split at hr
   .rename_i r' hl;cases hr;unfold Jg.ask at hl;split at hl
    .exact hT _ _ _ (Jg.look_mem hl)
    .cases hl
   .split at hr
    .rename_i hg;obtain⟨L,hL⟩:=Mz hr;refine zH hg (n:=m) ?_;exact hL _ m (D6 _) fun q _ r' h'=>QX hT h'
    .cases hr
  |round id lp=>
   simp only at hr;split at hr
   .rename_i hrw;obtain⟨L,hL⟩:=Jc hr;refine WB (n:=m) ?_;exact hL _ m (D6 _) fun q _ r' h'=>QX hT h'
   .cases hr
variable{f:FuncId}{az:List AV}{r:AV}
theorem J4(hT:T.Known P C)(m n:Nat)(h:TC P C T m n (.fn f) az [] [] false none=.ok (.ret r,[])):KL P C (.fn f) az [] [] false none=.ok (.ret r,[]):=
 QX (q:=⟨.fn f,az,[],[],false,none⟩) hT h
theorem Jg.known_nil:Jg.Known P C []:=fun _ _ _ h=>by cases h
theorem Jg.known_cons(h:KL P C (.fn f) az [] [] false none=.ok (.ret r,[]))(hT:T.Known P C):Jg.Known P C ((f,az,r)::T):=fun f' az' r' hm=>by
 rcases DO.1 hm with h1|h1
 .cases h1;exact h
 .exact hT _ _ _ h1
variable{P:Program}{C:B9}{K:AK}{fr:Fr}{b n i:Nat}{Q:DW→St→Prop}
def Wp(C:B9)(K:AK)(fr:Fr)(b:Nat)(c:Code)(st:St)(Q:DW→St→Prop):Prop:= ∃n o st',A4 C K fr n b c st=.ok (o,st')∧Q o st'
variable{c:Code}
theorem Lh{n b:Nat}{st:St}{r:DW×St}(h:A4 C K fr n b c st=.ok r)(hm:n≤m):A4 C K fr m b c st=.ok r:=by
 obtain⟨L,hL⟩:=Lg n b c st (E.good_of h);rw[hL K m hm (fun _ _ _ h=>h),h]
def tM(C:B9)(K:AK)(fr:Fr)(b:Nat)(y:Code)(Q:DW→St→Prop):DW→St→Prop
 |.normal,st=>Wp C K fr b y st Q
 |o,st=>Q o st
def JX(id:Nat)(Q:DW→St→Prop):DW→St→Prop
 |.exit k,st=>match Nat.beq k id with
  |true=>Q .normal st
  |false=>Q (.exit k) st
 |o,st=>Q o st
def Kr(C:B9)(K:AK)(fr:Fr)(b:Nat)(x y:Code)(st:St)(Q:DW→St→Prop):AV→Prop
 |.d (.bool true)=>Wp C K fr b x st Q
 |.d (.bool false)=>Wp C K fr b y st Q
 |_=>False
def E7(C:B9)(K:AK)(fr:Fr)(ops:Array Oper)(b n:Nat)(al:Nat→Bool)(l:List Oper)(i:Nat)(st:St)(Q:DW→St→Prop):Prop:=
 match Ch C K fr ops b al l i st with
 |.ok ((none,st'),_)=>Q .normal {st' with base:=b+n}
 |.ok ((some v,st'),_)=>Q (.f9 v) {st' with base:=b+n}
 |.err _=>False
def Fo(C:B9)(K:AK)(fr:Fr)(ops:Array Oper)(b n:Nat)(al:Nat→Bool)(ps:List (Nat×Nat))(fps:List Fp)(l:List Oper)(i:Nat)(st:St)(Q:DW→St→Prop):Prop:=
 match Ch C K fr ops b al l i st with
 |.ok ((none,st'),f)=>DE (fps++f) ps=true∧Q .normal {st' with base:=b+n}
 |.ok ((some v,st'),f)=>DE (fps++f) ps=true∧Q (.f9 v) {st' with base:=b+n}
 |.err _=>False
theorem ABQ(x y:Code)(st:St):Wp C K fr b (.seq x y) st Q=Wp C K fr b x st (tM C K fr b y Q):=by
 refine propext ⟨fun⟨n,o,st',h,hq⟩=>?_,fun⟨n,o,st',h,hq⟩=>?_⟩
 .cases n with
  |zero=>simp[A4]at h
  |succ n=>
   simp only[A4]at h;cases hx:A4 C K fr n b x st with
   |err e=>rw[hx]at h;cases h
   |ok r=>
    rw[hx]at h;obtain⟨o1,st1⟩:=r;refine⟨n,o1,st1,hx,?_⟩;cases o1<;>simp only[Cz]at h
    .exact⟨n,o,st',h,hq⟩
    all_goals (cases h;exact hq)
 .cases o with
  |normal=>
   obtain⟨m,o2,st2,h2,hq2⟩:=hq;refine⟨max n m+1,o2,st2,?_,hq2⟩;simp only[A4,Lh h (I8 n m),Cz,Lh h2 (Ls n m)]
  |_=>exact⟨n+1,_,st',by simp only[A4,h,Cz],hq⟩
theorem y8(c:Operand)(x y:Code)(st:St):Wp C K fr b (.cond c x y) st Q=Kr C K fr b x y st Q (ev st.env.get c):=by
 have e: ∀{v:AV} {x y:Code} (hv: ∀n,A4 C K fr (n+1) b (.cond c x y) st=Jm v (A4 C K fr n b x st) (A4 C K fr n b y st)),Wp C K fr b (.cond c x y) st Q=Kr C K fr b x y st Q v:=by
  intro v x y hv;refine propext ⟨fun⟨n,o,st',h,hq⟩=>?_,fun h=>?_⟩
  .cases n with
   |zero=>simp[A4]at h
   |succ n=>
    rw[hv]at h;unfold Jm at h;split at h
    .rename_i t;cases t
     .exact⟨n,o,st',h,hq⟩
     .exact⟨n,o,st',h,hq⟩
    .cases h
  .unfold Kr at h;split at h
   .obtain⟨n,o,st',h,hq⟩:=h;exact⟨n+1,o,st',by rw[hv];exact h,hq⟩
   .obtain⟨n,o,st',h,hq⟩:=h;exact⟨n+1,o,st',by rw[hv];exact h,hq⟩
   .exact h.elim
 exact e fun n=>by simp only[A4]
theorem uK(id:Nat)(x:Code)(st:St):Wp C K fr b (.block id x) st Q=Wp C K fr id x st (JX id Q):=by
 refine propext ⟨fun⟨n,o,st',h,hq⟩=>?_,fun⟨n,o,st',h,hq⟩=>?_⟩
 .cases n with
  |zero=>simp[A4]at h
  |succ n=>
   simp only[A4]at h;cases hx:A4 C K fr n id x st with
   |err e=>rw[hx]at h;cases h
   |ok r=>
    rw[hx]at h;obtain⟨o1,st1⟩:=r;refine⟨n,o1,st1,hx,?_⟩;cases o1 with
    |exit k=>
     simp only[GM]at h;simp only[JX];split at h<;>(rename_i hk;rw[hk];cases h;exact hq)
    |_=>cases h;exact hq
 .cases o with
  |exit k=>
   simp only[JX]at hq;cases hk:Nat.beq k id with
   |true=>
    rw[hk]at hq;exact⟨n+1,.normal,st',by simp only[A4,h,GM,hk],hq⟩
   |false=>
    rw[hk]at hq;exact⟨n+1,.exit k,st',by simp only[A4,h,GM,hk],hq⟩
  |_=>exact⟨n+1,_,st',by simp only[A4,h,GM],hq⟩
theorem SI{st:St}{o:DW}{st':St}(h: ∀n,A4 C K fr (n+1) b c st=.ok (o,st')):Wp C K fr b c st Q=Q o st':=by
 refine propext ⟨fun⟨n,o1,st1,h1,hq⟩=>?_,fun hq=>⟨1,o,st',h 0,hq⟩⟩;cases n with
 |zero=>simp[A4]at h1
 |succ n=>
  rw[h]at h1;cases h1;exact hq
theorem zC(st:St):Wp C K fr b .skip st Q=Q .normal st:=SI fun _=>rfl
theorem ABP(st:St):Wp C K fr b .ret st Q=Q .ret st:=SI fun _=>rfl
theorem zA(id:Nat)(st:St):Wp C K fr b (.exit id) st Q=Q (.exit id) st:=SI fun _=>rfl
theorem NA(id:Nat)(ops:Array Oper)(draw:Bool)(st:St):Wp C K fr b (.region id ops draw) st Q=match Da C K fr id ops draw st with|.ok (o,st')=>Q o st'|.err _=>False:=by
 cases h:Da C K fr id ops draw st with
 |ok r=>
  obtain⟨o,st'⟩:=r;exact SI fun n=>by simp only[A4,h]
 |err e=>
  refine propext ⟨fun⟨n,o,st',h1,hq⟩=>?_,fun h=>h.elim⟩;cases n with
  |zero=>simp[A4]at h1
  |succ n=>
   simp only[A4,h]at h1;cases h1
theorem nR(id:Nat)(ops:Array Oper)(e:BT)(h:AB)(bs:Nat)(ds:List Df):Wp C K fr b (.region id ops false) ⟨e,h,bs,ds⟩ Q=E7 C K fr ops bs ops.size (fun _=>true) ops.toList 0 ⟨e,h,bs,ds⟩ Q:=by
 rw[NA];unfold Da E7;simp only[RW,Bool.true_or];cases Ch C K fr ops bs (fun _=>true) ops.toList 0 ⟨e,h,bs,ds⟩with
 |err l=>rfl
 |ok r=>
  obtain⟨⟨o,st'⟩,fps⟩:=r;cases o<;>simp[Jx]
theorem uO(id:Nat)(ops:Array Oper)(e:BT)(h:AB)(bs:Nat)(ds:List Df)(hp:C.d8 fr.f id=[]):Wp C K fr b (.region id ops true) ⟨e,h,bs,ds⟩ Q=E7 C K fr ops bs ops.size (fun i=>C.alone fr.f id i) ops.toList 0 ⟨e,h,bs,ds⟩ Q:=by
 rw[NA];unfold Da E7;simp only[OS,It];cases Ch C K fr ops bs (fun i=>C.alone fr.f id i) ops.toList 0 ⟨e,h,bs,ds⟩with
 |err l=>rfl
 |ok r=>
  obtain⟨⟨o,st'⟩,fps⟩:=r;cases o<;>simp[Jx,hp,DE]
theorem y9(id:Nat)(ops:Array Oper)(e:BT)(h:AB)(bs:Nat)(ds:List Df){ps:List (Nat×Nat)}(hp:C.d8 fr.f id=ps):Wp C K fr b (.region id ops true) ⟨e,h,bs,ds⟩ Q=Fo C K fr ops bs ops.size (fun i=>C.alone fr.f id i) ps [] ops.toList 0 ⟨e,h,bs,ds⟩ Q:=by
 rw[NA];unfold Da Fo;simp only[OS,It,D8];cases Ch C K fr ops bs (fun i=>C.alone fr.f id i) ops.toList 0 ⟨e,h,bs,ds⟩with
 |err l=>rfl
 |ok r=>
  obtain⟨⟨o,st'⟩,fps⟩:=r;subst hp;cases o<;>cases hq:DE fps (C.d8 fr.f id)<;>simp[Jx,hq]
theorem ZA(y:Code)(st:St):tM C K fr b y Q .normal st=Wp C K fr b y st Q:=rfl
theorem mn(y:Code)(k:Nat)(st:St):tM C K fr b y Q (.exit k) st=Q (.exit k) st:=rfl
theorem tP(y:Code)(st:St):tM C K fr b y Q .ret st=Q .ret st:=rfl
theorem tN(y:Code)(v:AV)(st:St):tM C K fr b y Q (.f9 v) st=Q (.f9 v) st:=rfl
theorem SY(id:Nat)(st:St):JX id Q .normal st=Q .normal st:=rfl
theorem Zj(id:Nat)(st:St):JX id Q .ret st=Q .ret st:=rfl
theorem Zi(id:Nat)(v:AV)(st:St):JX id Q (.f9 v) st=Q (.f9 v) st:=rfl
theorem Wb(id:Nat)(st:St):JX id Q (.exit id) st=Q .normal st:=by
 simp[JX]
theorem NJ(id k:Nat)(st:St)(h:Nat.beq k id=false):JX id Q (.exit k) st=Q (.exit k) st:=by
 simp only[JX,h]
theorem Zy(x y:Code)(st:St):Kr C K fr b x y st Q (.d (.bool true))=Wp C K fr b x st Q:=rfl
theorem W6(x y:Code)(st:St):Kr C K fr b x y st Q (.d (.bool false))=Wp C K fr b y st Q:=rfl
variable{t:Bool}
theorem W7{x y:Code}{st:St}(h1:t=true→Wp C K fr b x st Q)(h2:t=false→Wp C K fr b y st Q):Kr C K fr b x y st Q (.d (.bool t)):=by
 cases t
 .exact h2 rfl
 .exact h1 rfl
variable{ops:Array Oper}{al:Nat→Bool}{l:List Oper}{e:BT}{h:AB}{bs:Nat}{ds:List Df}{ps:List (Nat×Nat)}{fps:List Fp}
def BW(C:B9)(K:AK)(fr:Fr)(ops:Array Oper)(b n:Nat)(al:Nat→Bool)(l:List Oper)(i:Nat)(dst:Option Tmp)(e:BT)(h:AB)(bs:Nat)(ds:List Df)(Q:DW→St→Prop):Option Br→Prop
 |some x=>JS fr.bi x.δ=true∧E7 C K fr ops b n al l (i+1) ⟨B8 e dst x.v,h.puts x.δ,bs,ds⟩ Q
 |none=>False
def BB(C:B9)(K:AK)(fr:Fr)(ops:Array Oper)(b n:Nat)(al:Nat→Bool)(l:List Oper)(i:Nat)(Q:DW→St→Prop):GW→Prop
 |.ok st _=>E7 C K fr ops b n al l (i+1) st Q
 |.f9 v st=>al i=true∧Q (.f9 v) {st with base:=b+n}
 |.err _=>False
theorem sU:E7 C K fr ops b n al [] i ⟨e,h,bs,ds⟩ Q=Q .normal ⟨e,h,b+n,ds⟩:=rfl
theorem UF(o:Oper)(st:St):E7 C K fr ops b n al (o::l) i st Q=BB C K fr ops b n al l i Q (Bx C K fr ops ((b+i)::fr.π) o st):=by
 unfold E7;simp only[Ch,Gz];cases hs:Bx C K fr ops ((b+i)::fr.π) o st with
 |err e=>rfl
 |f9 v st'=>
  simp only[BB];cases al i<;>simp
 |ok st' fp=>
  simp only[BB,E7];cases hr:Ch C K fr ops b al l (i+1) st' with
  |err e=>rfl
  |ok r=>
   obtain⟨⟨o,st2⟩,fps⟩:=r;cases o<;>rfl
def Cy(C:B9)(K:AK)(fr:Fr)(ops:Array Oper)(b n:Nat)(al:Nat→Bool)(l:List Oper)(i:Nat)(dst:Option Tmp)(op:Op)(st:St)(want:Bool)(Q:DW→St→Prop):AV→Prop
 |.d (.bool t)=>match t==want with
  |true=>BB C K fr ops b n al l i Q (Ay C K fr ((b+i)::fr.π) op dst st)
  |false=>E7 C K fr ops b n al l (i+1) {st with env:=B8 st.env dst (.it [])} Q
 |.it []=>E7 C K fr ops b n al l (i+1) {st with env:=B8 st.env dst (.it [])} Q
 |_=>False
theorem jE(dst:Option Tmp)(op:Op)(st:St):Cy C K fr ops b n al l i dst op st true Q (.d (.bool true))=BB C K fr ops b n al l i Q (Ay C K fr ((b+i)::fr.π) op dst st):=rfl
theorem jA(dst:Option Tmp)(op:Op)(st:St):Cy C K fr ops b n al l i dst op st false Q (.d (.bool false))=BB C K fr ops b n al l i Q (Ay C K fr ((b+i)::fr.π) op dst st):=rfl
theorem jD(dst:Option Tmp)(op:Op):Cy C K fr ops b n al l i dst op ⟨e,h,bs,ds⟩ true Q (.d (.bool false))=E7 C K fr ops b n al l (i+1) ⟨B8 e dst (.it []),h,bs,ds⟩ Q:=rfl
theorem jB(dst:Option Tmp)(op:Op):Cy C K fr ops b n al l i dst op ⟨e,h,bs,ds⟩ false Q (.d (.bool true))=E7 C K fr ops b n al l (i+1) ⟨B8 e dst (.it []),h,bs,ds⟩ Q:=rfl
theorem VN{dst:Option Tmp}{op:Op}{st:St}{want:Bool}(h1:t=true→Cy C K fr ops b n al l i dst op st want Q (.d (.bool true)))(h2:t=false→Cy C K fr ops b n al l i dst op st want Q (.d (.bool false))):Cy C K fr ops b n al l i dst op st want Q (.d (.bool t)):=by
 cases t
 .exact h2 rfl
 .exact h1 rfl
theorem lK(dst:Option Tmp)(op:Op)(ty:TypeId)(pos:String)(af:Array Edge)(st:St):
 E7 C K fr ops b n al (⟨dst,op,ty,pos,af,none⟩::l) i st Q=BB C K fr ops b n al l i Q (Ay C K fr ((b+i)::fr.π) op dst st):=by
 rw[UF];simp only[Bx,Lo]
theorem An(dst:Option Tmp)(op:Op)(r:Option Br):BB C K fr ops b n al l i Q (Cw fr op dst ⟨e,h,bs,ds⟩ r)=BW C K fr ops b n al l i dst e h bs ds Q r:=by
 cases r with
 |none=>rfl
 |some x=>
  simp only[Cw,BW,JY,BO,Aw];cases hw:JS fr.bi x.δ with
  |false=>simp[BB]
  |true=>
   simp only[Rt];have: ∀k:AB→GW,XI h x.δ k=k (h.puts x.δ):=fun k=>by
    unfold XI;split
    .rename_i hd;rw[hd];rfl
    .simp only[Aa]
   rw[this];simp only[BB]
theorem LG(dst:Option Tmp)(v:AV):BW C K fr ops b n al l i dst e h bs ds Q (some ⟨v,[]⟩)=E7 C K fr ops b n al l (i+1) ⟨B8 e dst v,h,bs,ds⟩ Q:=by
 have:JS fr.bi []=true:=by cases hp:fr.bi<;>rfl
 simp only[BW,this,Rt];rfl
theorem dE(dst:Option Tmp)(v:AV)(x:Id×Obj)(δ:AB):BW C K fr ops b n al l i dst e h bs ds Q (some ⟨v,x::δ⟩)=(JS fr.bi (x::δ)=true∧E7 C K fr ops b n al l (i+1) ⟨B8 e dst v,h.puts (x::δ),bs,ds⟩ Q):=rfl
section
variable(dst:Option Tmp)(ρ:List Nat)
theorem AAO(x:Operand):BB C K fr ops b n al l i Q (Ay C K fr ρ (.move x) dst ⟨e,h,bs,ds⟩)=E7 C K fr ops b n al l (i+1) ⟨B8 e dst (ev e.get x),h,bs,ds⟩ Q:=by
 simp only[Ay,evalOp,An,LG]
theorem qV(x:Operand):BB C K fr ops b n al l i Q (Ay C K fr ρ (.assign x) dst ⟨e,h,bs,ds⟩)=E7 C K fr ops b n al l (i+1) ⟨B8 e dst (ev e.get x),h,bs,ds⟩ Q:=by
 simp only[Ay,evalOp,An,LG]
theorem AAP(c x y:Operand):BB C K fr ops b n al l i Q (Ay C K fr ρ (.pick c x y) dst ⟨e,h,bs,ds⟩)=BW C K fr ops b n al l i dst e h bs ds Q (Mv (ev e.get c) (ev e.get x) (ev e.get y)):=by
 simp only[Ay,evalOp,An]
theorem wO(t:TypeId):BB C K fr ops b n al l i Q (Ay C K fr ρ (.alloc t) dst ⟨e,h,bs,ds⟩)=BW C K fr ops b n al l i dst e h bs ds Q (JL ρ (C.T t)):=by
 simp only[Ay,evalOp,An]
theorem ACB(t:TypeId)(x:Operand):BB C K fr ops b n al l i Q (Ay C K fr ρ (.box t x) dst ⟨e,h,bs,ds⟩)=BW C K fr ops b n al l i dst e h bs ds Q (PY ρ (ev e.get x) (C.T t)):=by
 simp only[Ay,evalOp,An]
theorem wU(t:TypeId)(p:Array (Nat×Operand)):BB C K fr ops b n al l i Q (Ay C K fr ρ (.build t p) dst ⟨e,h,bs,ds⟩)=BW C K fr ops b n al l i dst e h bs ds Q (JM (Di e.get p) (C.T t)):=by
 simp only[Ay,evalOp,An]
theorem VK(t:TypeId)(m:Nat)(p:Array (Nat×Operand)):BB C K fr ops b n al l i Q (Ay C K fr ρ (.buildSlice t m p) dst ⟨e,h,bs,ds⟩)=BW C K fr ops b n al l i dst e h bs ds Q (CB C.T h.get ρ m (Di e.get p) (C.T t)):=by
 simp only[Ay,evalOp,An]
theorem AAN(t:TypeId)(a:Operand):BB C K fr ops b n al l i Q (Ay C K fr ρ (.load t a) dst ⟨e,h,bs,ds⟩)=BW C K fr ops b n al l i dst e h bs ds Q (KQ h.get (ev e.get a) (C.T t)):=by
 simp only[Ay,evalOp,An]
theorem wb(t:TypeId)(a x:Operand):BB C K fr ops b n al l i Q (Ay C K fr ρ (.store t a x) dst ⟨e,h,bs,ds⟩)=BW C K fr ops b n al l i dst e h bs ds Q (Hn h.get (ev e.get a) (ev e.get x) (C.T t)):=by
 simp only[Ay,evalOp,An]
theorem ak(x:Operand):BB C K fr ops b n al l i Q (Ay C K fr ρ (.nilCheck x) dst ⟨e,h,bs,ds⟩)=BW C K fr ops b n al l i dst e h bs ds Q (Fb (ev e.get x)):=by
 simp only[Ay,evalOp,An]
theorem wQ(op:BinOp)(t:TypeId)(x y:Operand)(u:TypeId):BB C K fr ops b n al l i Q (Ay C K fr ρ (.binOp op t x y u) dst ⟨e,h,bs,ds⟩)=BW C K fr ops b n al l i dst e h bs ds Q ((fo (X0 x||X0 y) op (ev e.get x) (ev e.get y) (C.T t)).map (⟨·,[]⟩)):=by
 simp only[Ay,evalOp,An]
theorem AAQ(op:UnOp)(t:TypeId)(x:Operand):BB C K fr ops b n al l i Q (Ay C K fr ρ (.unOp op t x) dst ⟨e,h,bs,ds⟩)=BW C K fr ops b n al l i dst e h bs ds Q (lH op (ev e.get x)):=by
 simp only[Ay,evalOp,An]
theorem wX(t:TypeId)(x:Operand):BB C K fr ops b n al l i Q (Ay C K fr ρ (.makeInterface t x) dst ⟨e,h,bs,ds⟩)=BW C K fr ops b n al l i dst e h bs ds Q (KO t (ev e.get x) (C.T t)):=by
 simp only[Ay,evalOp,An]
theorem qU(x:Operand)(t u:TypeId):BB C K fr ops b n al l i Q (Ay C K fr ρ (.typeAssert x t u true) dst ⟨e,h,bs,ds⟩)=BW C K fr ops b n al l i dst e h bs ds Q (HI u (ev e.get x) (C.T u)):=by
 simp only[Ay,evalOp,An]
theorem aj(f:Fn)(first cap:Array Operand):BB C K fr ops b n al l i Q (Ay C K fr ρ (.makeFunc f first cap) dst ⟨e,h,bs,ds⟩)=BW C K fr ops b n al l i dst e h bs ds Q (Fa f (first.toList.map (ev e.get)) (cap.toList.map (ev e.get))):=by
 simp only[Ay,evalOp,An]
theorem iw(t:TypeId)(r:Option Operand):BB C K fr ops b n al l i Q (Ay C K fr ρ (.makeMap t r) dst ⟨e,h,bs,ds⟩)=BW C K fr ops b n al l i dst e h bs ds Q (Gj ρ r):=by
 simp only[Ay,evalOp,An]
theorem qW(t:TypeId)(m k v:Operand):BB C K fr ops b n al l i Q (Ay C K fr ρ (.insert t m k v) dst ⟨e,h,bs,ds⟩)=BW C K fr ops b n al l i dst e h bs ds Q (mapPut C.T h.get (C.T t) (ev e.get m) (ev e.get k) (ev e.get v)):=by
 simp only[Ay,evalOp,An]
theorem Xp(t:TypeId)(m k v:Operand):BB C K fr ops b n al l i Q (Ay C K fr ρ (.mapUpdate t m k v) dst ⟨e,h,bs,ds⟩)=BW C K fr ops b n al l i dst e h bs ds Q (mapPut C.T h.get (C.T t) (ev e.get m) (ev e.get k) (ev e.get v)):=by
 simp only[Ay,evalOp,An]
theorem qX(t:TypeId)(m k:Operand)(ok:Bool):BB C K fr ops b n al l i Q (Ay C K fr ρ (.lookup t m k ok) dst ⟨e,h,bs,ds⟩)=BW C K fr ops b n al l i dst e h bs ds Q (Ei C.T h.get (ev e.get m) (ev e.get k) ok (C.T t)):=by
 simp only[Ay,evalOp,An]
theorem Xo(t:TypeId)(x y:Operand):BB C K fr ops b n al l i Q (Ay C K fr ρ (.makeSlice t x y) dst ⟨e,h,bs,ds⟩)=BW C K fr ops b n al l i dst e h bs ds Q (CL C.T h.get ρ (ev e.get x) (ev e.get y) (C.T t)):=by
 simp only[Ay,evalOp,An]
theorem wa(t:TypeId)(x:Operand)(lo hi mx:Option Operand):BB C K fr ops b n al l i Q (Ay C K fr ρ (.slice t x lo hi mx) dst ⟨e,h,bs,ds⟩)=BW C K fr ops b n al l i dst e h bs ds Q (G2 C.T h.get (ev e.get x) (lo.map (ev e.get)) (hi.map (ev e.get)) (mx.map (ev e.get)) (C.T t)):=by
 simp only[Ay,evalOp,An]
theorem Xm(t:TypeId)(x:Operand)(k:Nat):BB C K fr ops b n al l i Q (Ay C K fr ρ (.fieldAddr t x k) dst ⟨e,h,bs,ds⟩)=BW C K fr ops b n al l i dst e h bs ds Q (Dv k (ev e.get x) (C.T t)):=by
 simp only[Ay,evalOp,An]
theorem Xn(t:TypeId)(x y:Operand):BB C K fr ops b n al l i Q (Ay C K fr ρ (.indexAddr t x y) dst ⟨e,h,bs,ds⟩)=BW C K fr ops b n al l i dst e h bs ds Q (Cd C.T h.get (ev e.get x) (ev e.get y) (C.T t)):=by
 simp only[Ay,evalOp,An]
theorem wY(t:TypeId)(x y:Operand):BB C K fr ops b n al l i Q (Ay C K fr ρ (.index t x y) dst ⟨e,h,bs,ds⟩)=BW C K fr ops b n al l i dst e h bs ds Q (KP (ev e.get x) (ev e.get y) (C.T t)):=by
 simp only[Ay,evalOp,An]
theorem iv(x:Operand)(k:Nat):BB C K fr ops b n al l i Q (Ay C K fr ρ (.extract x k) dst ⟨e,h,bs,ds⟩)=BW C K fr ops b n al l i dst e h bs ds Q (Hz k (ev e.get x)):=by
 simp only[Ay,evalOp,An]
theorem iu(f:Builtin)(az:Array Operand)(ts:Array TypeId):BB C K fr ops b n al l i Q (Ay C K fr ρ (.call ⟨.builtin f,az,ts⟩) dst ⟨e,h,bs,ds⟩)=BW C K fr ops b n al l i dst e h bs ds Q (Fj C.T h.get ρ f (az.toList.map (ev e.get)) ts.toList):=by
 simp only[Ay,Jb,An]
theorem wZ(x:Operand):BB C K fr ops b n al l i Q (Ay C K fr ρ (.panic x) dst ⟨e,h,bs,ds⟩)=BB C K fr ops b n al l i Q (FL ⟨e,h,bs,ds⟩ (ev e.get x)):=rfl
theorem wV(c:Call):BB C K fr ops b n al l i Q (Ay C K fr ρ (.defer c) dst ⟨e,h,bs,ds⟩)=BB C K fr ops b n al l i Q (Gw fr e.get c dst ⟨e,h,bs,ds⟩):=rfl
def C2(C:B9)(K:AK)(fr:Fr)(ops:Array Oper)(b n:Nat)(al:Nat→Bool)(l:List Oper)(i:Nat)(az:List AV)(dst:Option Tmp)(e:BT)(h:AB)(bs:Nat)(ds:List Df)(Q:DW→St→Prop)(r:E (AZ×AB)):Prop:=
 BB C K fr ops b n al l i Q (C0 fr az dst ⟨e,h,bs,ds⟩ r)
def QW(C:B9)(K:AK)(fr:Fr)(ops:Array Oper)(b n:Nat)(al:Nat→Bool)(l:List Oper)(i:Nat)(dst:Option Tmp)(ρ:List Nat)(e:BT)(h:AB)(bs:Nat)(ds:List Df)(Q:DW→St→Prop)(args:List AV):AV→Prop
 |fv=>BB C K fr ops b n al l i Q (DZ C K fr ρ fv args dst ⟨e,h,bs,ds⟩)
theorem wc(f:Operand)(az:Array Operand)(ts:Array TypeId):BB C K fr ops b n al l i Q (Ay C K fr ρ (.call ⟨.value f,az,ts⟩) dst ⟨e,h,bs,ds⟩)=QW C K fr ops b n al l i dst ρ e h bs ds Q (az.toList.map (ev e.get)) (ev e.get f):=rfl
def zT:AZ×AB→AZ×AB
 |(.ret v,h)=>(.ret v,h)
 |(.f9 v,_)=>(.f9 v,[])
def BU(K:AK)(f:FuncId)(xs:List AV)(own:List Nat):E (AZ×AB):=match K (.fn f) xs [] own false none with
 |.ok r=>.ok (zT r)
 |.err l=>.err l
theorem oZ{K:AK}{f:FuncId}{xs:List AV}{own:List Nat}{v:AV}{h:AB}(hk:BU K f xs own=.ok (.ret v,h)):K (.fn f) xs [] own false none=.ok (.ret v,h):=by
 unfold BU at hk;split at hk
 .rename_i r hr;obtain⟨o,h'⟩:=r;cases o with
  |ret u=>simp only[zT,E.ok.injEq]at hk;rw[hr,hk]
  |f9 u=>simp[zT]at hk
 .cases hk
theorem Pb(fr:Fr)(az:List AV)(dst:Option Tmp)(st:St)(f:FuncId)(xs:List AV)(own:List Nat):C0 fr az dst st (K (.fn f) xs [] own false none)=C0 fr az dst st (BU K f xs own):=by
 unfold BU;cases K (.fn f) xs [] own false none with
 |err l=>rfl
 |ok r=>
  obtain⟨o,h⟩:=r;cases o<;>rfl
def Ka(C:B9)(K:AK)(fr:Fr)(ops:Array Oper)(b n:Nat)(al:Nat→Bool)(l:List Oper)(i:Nat)(dst:Option Tmp)(ρ:List Nat)(e:BT)(h:AB)(bs:Nat)(ds:List Df)(Q:DW→St→Prop)(f:FuncId)(az:List AV)(m:Mode):Prop:=
 BB C K fr ops b n al l i Q (C5 K fr ρ f az dst ⟨e,h,bs,ds⟩ m)
theorem oq(f:FuncId)(first cap args:List AV):QW C K fr ops b n al l i dst ρ e h bs ds Q args (.fn f first cap)=Ka C K fr ops b n al l i dst ρ e h bs ds Q f (first++args++cap) (C.mode f):=by
 simp only[QW,Ka,DZ,A3]
def ik(C:B9)(K:AK)(fr:Fr)(ops:Array Oper)(b n:Nat)(al:Nat→Bool)(l:List Oper)(i:Nat)(dst:Option Tmp)(ρ:List Nat)(e:BT)(h:AB)(bs:Nat)(ds:List Df)(Q:DW→St→Prop)(f:FuncId)(az:List AV)(own:List Nat):Option (List AV)→Prop
 |some xs=>C2 C K fr ops b n al l i az dst e h bs ds Q (K (.fn f) xs [] own false none)
 |none=>False
theorem bm(f:FuncId)(az:List AV)(hx:(DQ h.get az).isSome):Ka C K fr ops b n al l i dst ρ e h bs ds Q f az .auto=ik C K fr ops b n al l i dst ρ e h bs ds Q f az [] (DQ h.get az):=by
 obtain⟨xs,hx⟩:=Ii.1 hx;simp only[Ka,C5,hx,A3,ik,C2]
theorem k6(f:FuncId)(az:List AV)(hx:(DQ h.get az).isSome):Ka C K fr ops b n al l i dst ρ e h bs ds Q f az .own=ik C K fr ops b n al l i dst ρ e h bs ds Q f az ρ (DQ h.get az):=by
 obtain⟨xs,hx⟩:=Ii.1 hx;simp only[Ka,C5,hx,A3,ik,C2]
theorem il(f:FuncId)(az:List AV)(own:List Nat)(xs:List AV):ik C K fr ops b n al l i dst ρ e h bs ds Q f az own (some xs)=C2 C K fr ops b n al l i az dst e h bs ds Q (BU K f xs own):=by
 simp only[ik,C2,Pb]
theorem dJ(az:List AV)(v:AV)(h':AB)(hv:flat v=true):C2 C K fr ops b n al l i az dst e h bs ds Q (.ok (.ret v,h'))=E7 C K fr ops b n al l (i+1) ⟨B8 e dst v,h,bs,ds⟩ Q:=by
 simp only[C2,C0,Aw,hv,BB]
theorem mE(az:List AV)(v:AV)(h':AB)(hv:flat v=true):C2 C K fr ops b n al l i az dst e h bs ds Q (.ok (.f9 v,h'))=(al i=true∧Q (.f9 v) ⟨e,h,b+n,ds⟩):=by
 simp only[C2,C0,hv,BB]
theorem l9(az:List AV)(v:AV)(h':AB)(x:Id×Obj)(hv:flat v=false)(hx:BK v h'=some x):C2 C K fr ops b n al l i az dst e h bs ds Q (.ok (.ret v,h'))=E7 C K fr ops b n al l (i+1) ⟨B8 e dst v,x::h,bs,ds⟩ Q:=by
 simp only[C2,C0,Aw,hv,G3,hx,Aa,BB]
theorem mC(az:List AV)(v:AV)(h':AB)(hv:flat v=false)(hx:BK v h'=none):C2 C K fr ops b n al l i az dst e h bs ds Q (.ok (.ret v,h'))=(JS fr.bi (az.flatMap (mark h.get))=true∧E7 C K fr ops b n al l (i+1) ⟨B8 e dst v,h'++h.puts (az.flatMap (mark h.get)),bs,ds⟩ Q):=by
 simp only[C2,C0,Aw,hv,G3,hx,Aa,BO];cases hw:JS fr.bi (az.flatMap (mark h.get))<;>simp[BB]
end
def eC(h:AB)(π:List Nat)(raw:Bool)(Post:AZ→AB→Prop):Option AV→Prop
 |some v=>match raw with
  |true=>Post (.ret v) h
  |false=>match π with
   |[]=>match V8 h.get v with
    |some v'=>Post (.ret v') []
    |none=>False
   |_=>Post (.ret v) h
 |none=>False
def Rv(C:B9)(e:BT)(h:AB)(rs:List ResultVar):Option AV:=match MF (CJ C ⟨e,h,0,[]⟩) rs with
 |some []=>some (.it [])
 |some [v]=>some v
 |some vs=>some (.it vs)
 |none=>none
def JZ(C:B9)(rs:List ResultVar)(π:List Nat)(raw:Bool)(e:BT)(Post:AZ→AB→Prop):E (Option AV×AB)→Prop
 |.ok (none,h)=>eC h π raw Post (Rv C e h rs)
 |.ok (some v,h)=>Post (.f9 v) h
 |.err _=>False
def Qn(C:B9)(bi:Option (List Nat))(rs:List ResultVar)(π:List Nat)(raw:Bool)(Post:AZ→AB→Prop):DW→St→Prop
 |.ret,st=>JZ C rs π raw st.env Post (Cl C bi st.defs none st.heap)
 |.normal,st=>JZ C rs π raw st.env Post (Cl C bi st.defs none st.heap)
 |.f9 v,st=>JZ C rs π raw st.env Post (Cl C bi st.defs (some v) st.heap)
 |_,_=>False
theorem Af{f:FuncId}{fn:Func}{c:Code}{rs:List ResultVar}{args:List AV}{h:AB}{π:List Nat}{raw:Bool}{bi:Option (List Nat)}{Post:AZ→AB→Prop}(hg:C.i6 f=true)(hf:P.funcs[f]? =some fn)(hb:fn.body=some c)(hr:fn.results.toList=rs)(hl:Nat.ble args.length fn.ntmps=true)
 (hw:Wp C (KL P C) {f,π,raw,bi,nt:=fn.ntmps} 0 c ⟨Dp 0 args,h,0,[]⟩ (Qn C bi rs π raw Post)): ∃o h',KL P C (.fn f) args h π raw bi=.ok (o,h')∧Post o h':=by
 obtain⟨n,o,st',h1,h2⟩:=hw;subst hr;have hres: ∀h'',H0 C fn {st' with heap:=h''}=Rv C st'.env h'' fn.results.toList:=fun h''=>by
  unfold H0 Rv;have e:CJ C {st' with heap:=h''}=CJ C ⟨st'.env,h'',0,[]⟩:=funext fun r=>by cases r<;>rfl
  rw[e];rfl
 have key: ∀z,JZ C fn.results.toList π raw st'.env Post z→ ∃o h',Rb C f fn π raw st' z=.ok (o,h')∧Post o h':=by
  intro z hz;cases z with
  |err l=>exact hz.elim
  |ok r=>
   obtain⟨p,h''⟩:=r;cases p with
   |some v=>exact⟨.f9 v,h'',rfl,hz⟩
   |none=>
    simp only[JZ]at hz;simp only[Rb,hres];cases hv:Rv C st'.env h'' fn.results.toList with
    |none=>rw[hv]at hz;exact hz.elim
    |some v=>
     rw[hv]at hz;simp only[eC]at hz;simp only[JY];cases raw with
     |true=>exact⟨_,_,rfl,hz⟩
     |false=>
      simp only at hz⊢;split at hz
      .split at hz
       .rename_i v' hv';rw[hv'];exact⟨_,_,rfl,hz⟩
       .exact hz.elim
      .exact⟨_,_,by split<;>first|rfl|contradiction,hz⟩
 have fin: ∃o' h',pe C bi f fn π raw (.ok (o,st'))=.ok (o',h')∧Post o' h':=by
  cases o with
  |exit k=>exact h2.elim
  |ret=>exact key _ h2
  |normal=>exact key _ h2
  |f9 v=>exact key _ h2
 obtain⟨o',h',e,hp⟩:=fin;refine⟨o',h',zH hg (n:=n) ?_,hp⟩;unfold OA;simp only[hf,hb,hl,h1];exact e
variable{f:FuncId}{fn:Func}{c:Code}{rs:List ResultVar}{args:List AV}{π:List Nat}{raw:Bool}{bi:Option (List Nat)}
theorem ABh{h:AB}{o:AZ}{h0:AB}(hg:C.i6 f=true)(hf:P.funcs[f]? =some fn)(hb:fn.body=some c)(hr:fn.results.toList=rs)(hl:Nat.ble args.length fn.ntmps=true)
 (hw:Wp C (KL P C) {f,π,raw,bi,nt:=fn.ntmps} 0 c ⟨Dp 0 args,h,0,[]⟩ (Qn C bi rs π raw fun o' h'=>o'=o∧h'=h0)):KL P C (.fn f) args h π raw bi=.ok (o,h0):=by
 obtain⟨o',h',e,rfl,rfl⟩:=Af hg hf hb hr hl hw;exact e
theorem Ao{r:AZ×AB}(hg:C.i6 f=true)(hf:P.funcs[f]? =some fn)(hb:fn.body=some c)(hr:fn.results.toList=rs)(hl:Nat.ble args.length fn.ntmps=true)
 (hw:Wp C (KL P C) {f,π,raw:=false,bi:=none,nt:=fn.ntmps} 0 c ⟨Dp 0 args,[],0,[]⟩ (Qn C none rs π false fun o' h'=>zT (o',h')=r)):BU (KL P C) f args π=.ok r:=by
 obtain⟨o',h',e,h2⟩:=Af hg hf hb hr hl hw;unfold BU;rw[e,←h2]
theorem yb(v:AV)(h:AB):zT (.ret v,h)=(.ret v,h):=rfl
theorem ya(v:AV)(h:AB):zT (.f9 v,h)=(.f9 v,[]):=rfl
def K5(C:B9)(K:AK)(fr:Fr)(b:Nat)(x:Code)(Q:DW→St→Prop):DW→St→Prop
 |.normal,st=>Wp C K fr b (.loop x) st Q
 |o,st=>Q o st
def oG(C:B9)(K:AK)(fr:Fr)(b:Nat)(x:Code)(st:St)(Q:DW→St→Prop):Prop:=Wp C K fr b x st (K5 C K fr b x Q)
theorem zB(x:Code)(st:St):Wp C K fr b (.loop x) st Q=oG C K fr b x (Eb C fr b st) Q:=by
 refine propext ⟨fun⟨n,o,st',h,hq⟩=>?_,fun⟨n,o,st',h,hq⟩=>?_⟩
 .cases n with
  |zero=>simp[A4]at h
  |succ n=>
   simp only[A4,KC]at h;cases hx:A4 C K fr n b x (Eb C fr b st)with
   |err e=>rw[hx]at h;cases h
   |ok r=>
    rw[hx]at h;obtain⟨o1,st1⟩:=r;refine⟨n,o1,st1,hx,?_⟩;cases o1<;>simp only[Cz]at h
    .exact⟨n,o,st',h,hq⟩
    all_goals (cases h;exact hq)
 .cases o with
  |normal=>
   obtain⟨m,o2,st2,h2,hq2⟩:=hq;refine⟨max n m+1,o2,st2,?_,hq2⟩;simp only[A4,KC,Lh h (I8 n m),Cz,Lh h2 (Ls n m)]
  |_=>exact⟨n+1,_,st',by simp only[A4,KC,h,Cz],hq⟩
theorem VY(x:Code)(st:St):K5 C K fr b x Q .normal st=Wp C K fr b (.loop x) st Q:=rfl
theorem bR(x:Code)(k:Nat)(st:St):K5 C K fr b x Q (.exit k) st=Q (.exit k) st:=rfl
theorem kO(x:Code)(st:St):K5 C K fr b x Q .ret st=Q .ret st:=rfl
theorem kN(x:Code)(v:AV)(st:St):K5 C K fr b x Q (.f9 v) st=Q (.f9 v) st:=rfl
theorem La(x:Code)(st:St):oG C K fr b x st Q=Wp C K fr b x st (K5 C K fr b x Q):=rfl
structure AA(p:Prop):Prop where
 out:p
variable{α:Type}
theorem rounds{x:Code}(S:α→St)(Inv:α→Prop)(m:α→Nat)(a:α)(h0:Inv a)(step: ∀a,Inv a→AA (∀a',m a'<m a→Inv a'→oG C K fr b x (S a') Q)→Wp C K fr b x (S a) (K5 C K fr b x Q)):oG C K fr b x (S a) Q:=by
 suffices h: ∀k a,m a<k→Inv a→oG C K fr b x (S a) Q from h _ a (Nat.lt_succ_self _) h0
 intro k;induction k with
 |zero=>intro a ha;omega
 |succ k ih=>exact fun a ha hi=>step a hi ⟨fun a' h1 h2=>ih a' (by omega) h2⟩
variable{P:Program}{C:B9}{K:AK}{fr:Fr}{b n i:Nat}{Q:DW→St→Prop}
variable{ops:Array Oper}{al:Nat→Bool}{l:List Oper}{e:BT}{h:AB}{bs:Nat}{ds:List Df}{ps:List (Nat×Nat)}{fps:List Fp}
def KH(e:BT):Option (Option Tmp)→AV
 |some (some t)=>e.get t
 |_=>.undef
def Ob(ops:Array Oper)(e:BT)(j:Nat):AV:=KH e ((ops[j]?).map (·.dst))
theorem Xu(e:BT)(t:Tmp):KH e (some (some t))=e.get t:=rfl
theorem ay(l:List Oper)(e:BT)(j:Nat):Ob l.toArray e j=KH e ((l[j]?).map (·.dst)):=by
 simp only[Ob,Nl]
theorem ye(dst:Option Tmp)(op:Op)(ty:TypeId)(pos:String)(af:Array Edge)(j:Nat)(want:Bool):
 E7 C K fr ops b n al (⟨dst,op,ty,pos,af,some (j,want)⟩::l) i ⟨e,h,bs,ds⟩ Q=Cy C K fr ops b n al l i dst op ⟨e,h,bs,ds⟩ want Q (Ob ops e j):=by
 rw[UF];simp only[Bx,Lo,Ob];cases hj:ops[j]? with
 |none=>simp[KH,Cy,BB]
 |some o=>
  cases hd:o.dst with
  |none=>simp[KH,Cy,BB,hd]
  |some t=>
   simp only[IT,hd,D9,KH];cases hv:BT.get e t with
   |d x=>cases x with
    |bool c=>
     simp only[Cy];cases(c==want)<;>simp only[BB,Aw]
    |_=>rfl
   |it vs=>cases vs<;>simp only[Cy,BB,Aw]
   |_=>rfl
theorem get_cons(k:Nat)(v:AV)(e:BT)(t:Nat):BT.get ((k,v)::e) t=if k=t then v else BT.get e t:=by
 rw[BT.get];cases h:Nat.beq k t with
 |true=>rw[D1 (Co h)]
 |false=>rw[Ci (Ok h)]
theorem mI(e:BT)(t:Tmp)(v:AV):B8 e (some t) v=(t,v)::e:=rfl
theorem mH(e:BT)(v:AV):B8 e none v=e:=rfl
theorem AAA(e:Nat→AV)(t:Tmp):ev e (.tmp t)=e t:=rfl
theorem vX(e:Nat→AV)(f:FuncId):ev e (.func f)=.fn f [] []:=rfl
theorem z9(e:Nat→AV)(k:IntKind)(m:Int):ev e (.const (.int k m))=.d (.int k m):=rfl
theorem vW(e:Nat→AV)(c:Bool):ev e (.const (.bool c))=.d (.bool c):=rfl
theorem hP(e:Nat→AV)(s:ByteArray):ev e (.const (.string s))=.d (.str s):=rfl
theorem vf(e:Nat→AV):ev e (.const (.slice none 0 0))=.co:=rfl
theorem ve(e:Nat→AV):ev e (.const (.pointer none))=.d .ut:=rfl
theorem vY(e:Nat→AV):ev e (.const .nilFunc)=.d .i9:=rfl
theorem vZ(e:Nat→AV):ev e (.const .nilIface)=.d .lc:=rfl
theorem vd(e:Nat→AV):ev e (.const (.map none))=.d .rc:=rfl
theorem ZS(δ:AB):JS none δ=true:=by cases δ<;>rfl
theorem ABp(k:IntKind)(a c:Int):E5 .add k a c=some (.d (.int k (k.wrap (a+c)))):=rfl
theorem ABz(k:IntKind)(a c:Int):E5 .sub k a c=some (.d (.int k (k.wrap (a-c)))):=rfl
theorem ABw(k:IntKind)(a c:Int):E5 .mul k a c=some (.d (.int k (k.wrap (a*c)))):=rfl
theorem ABq(k:IntKind)(a c:Int):E5 .eql k a c=some (.d (.bool (decide (a=c)))):=by
 simp only[E5];congr
theorem ABx(k:IntKind)(a c:Int):E5 .neq k a c=some (.d (.bool (!decide (a=c)))):=by
 simp only[E5];congr
theorem ABv(k:IntKind)(a c:Int):E5 .lss k a c=some (.d (.bool (decide (a<c)))):=rfl
theorem ABu(k:IntKind)(a c:Int):E5 .leq k a c=some (.d (.bool (decide (a≤c)))):=rfl
theorem ABt(k:IntKind)(a c:Int):E5 .gtr k a c=some (.d (.bool (decide (c<a)))):=rfl
theorem ABr(k:IntKind)(a c:Int):E5 .geq k a c=some (.d (.bool (decide (c≤a)))):=rfl
theorem ABy(k:IntKind)(a c:Int):E5 .rem k a c=if c=0 then none else some (.d (.int k (a.tmod c))):=rfl
theorem ACg(op:BinOp)(k:IntKind)(a c:Int)(t:Option TI):IB op (.d (.int k a)) (.d (.int k c)) t=E5 op k a c:=by
 simp only[IB,F5]
theorem gM{x y:Code}{st:St}{p:Prop} [Decidable p](h1:p→Wp C K fr b x st Q)(h2: ¬p→Wp C K fr b y st Q):Kr C K fr b x y st Q (.d (.bool (decide p))):=by
 by_cases hp:p
 .rw[D7 hp];exact h1 hp
 .rw[D4 hp];exact h2 hp
theorem gN(x y:Code)(st:St)(t:Bool):Kr C K fr b x y st Q (.d (.bool (!t)))=Kr C K fr b y x st Q (.d (.bool t)):=by
 cases t<;>rfl
variable{dst:Option Tmp}{want:Bool}
theorem ao{op:Op}{st:St}{p:Prop} [Decidable p](h1:p→Cy C K fr ops b n al l i dst op st want Q (.d (.bool true)))(h2: ¬p→Cy C K fr ops b n al l i dst op st want Q (.d (.bool false))):Cy C K fr ops b n al l i dst op st want Q (.d (.bool (decide p))):=by
 by_cases hp:p
 .rw[D7 hp];exact h1 hp
 .rw[D4 hp];exact h2 hp
theorem aq(dst:Option Tmp)(op:Op)(want:Bool):Cy C K fr ops b n al l i dst op ⟨e,h,bs,ds⟩ want Q (.it [])=E7 C K fr ops b n al l (i+1) ⟨B8 e dst (.it []),h,bs,ds⟩ Q:=rfl
def pZ(C:B9)(K:AK)(fr:Fr)(ops:Array Oper)(b n id:Nat)(l:List Oper)(st:St)(Q:DW→St→Prop):List (Nat×Nat)→Prop
 |[]=>E7 C K fr ops b n (fun i=>C.alone fr.f id i) l 0 st Q
 |p::ps=>Fo C K fr ops b n (fun i=>C.alone fr.f id i) (p::ps) [] l 0 st Q
theorem uR(id:Nat)(ops:Array Oper)(e:BT)(h:AB)(bs:Nat)(ds:List Df):Wp C K fr b (.region id ops true) ⟨e,h,bs,ds⟩ Q=pZ C K fr ops bs ops.size id ops.toList ⟨e,h,bs,ds⟩ Q (C.d8 fr.f id):=by
 cases hp:C.d8 fr.f id with
 |nil=>rw[uO id ops e h bs ds hp];rfl
 |cons p ps=>rw[y9 id ops e h bs ds hp];rfl
theorem gq(id:Nat)(st:St):pZ C K fr ops b n id l st Q []=E7 C K fr ops b n (fun i=>C.alone fr.f id i) l 0 st Q:=rfl
theorem Z5(id:Nat)(st:St)(p:Nat×Nat):pZ C K fr ops b n id l st Q (p::ps)=Fo C K fr ops b n (fun i=>C.alone fr.f id i) (p::ps) [] l 0 st Q:=rfl
variable{Post:AZ→AB→Prop}
theorem pg:Qn C bi rs π raw Post .ret ⟨e,h,bs,ds⟩=JZ C rs π raw e Post (Cl C bi ds none h):=rfl
theorem XG:Qn C bi rs π raw Post .normal ⟨e,h,bs,ds⟩=JZ C rs π raw e Post (Cl C bi ds none h):=rfl
theorem pf(v:AV):Qn C bi rs π raw Post (.f9 v) ⟨e,h,bs,ds⟩=JZ C rs π raw e Post (Cl C bi ds (some v) h):=rfl
theorem jQ(bi:Option (List Nat))(p:Option AV)(h:AB):Cl C bi [] p h=.ok (p,h):=rfl
theorem RH(bi:Option (List Nat))(p:Option AV)(h:AB)(id:Id)(l:List Df):Cl C bi (.mark id::l) p h=Cl C bi l p h:=rfl
theorem bJ:JZ C rs π raw e Post (.ok (none,h))=eC h π raw Post (Rv C e h rs):=rfl
theorem bH(v:AV):JZ C rs π raw e Post (.ok (some v,h))=Post (.f9 v) h:=rfl
theorem uD(v:AV):eC h π true Post (some v)=Post (.ret v) h:=rfl
theorem tz{k:Nat}(v:AV):eC h (k::π) false Post (some v)=Post (.ret v) h:=rfl
def AAM(Post:AZ→AB→Prop):Option AV→Prop
 |some v=>Post (.ret v) []
 |none=>False
theorem tx(v:AV):eC h [] false Post (some v)=AAM Post (V8 h.get v):=by
 simp only[eC];cases V8 h.get v<;>rfl
theorem iq(v:AV):AAM Post (some v)=Post (.ret v) []:=rfl
theorem mb:Rv C e h []=some (.it []):=rfl
theorem tA(t:Tmp):Rv C e h [.tmp t]=some (e.get t):=rfl
theorem ma(r r':ResultVar)(rs:List ResultVar):Rv C e h (r::r'::rs)=(MF (CJ C ⟨e,h,0,[]⟩) (r::r'::rs)).map .it:=by
 unfold Rv;simp only[MF];cases CJ C ⟨e,h,0,[]⟩ r with
 |none=>rfl
 |some y=>cases CJ C ⟨e,h,0,[]⟩ r' with
  |none=>rfl
  |some z=>cases MF (CJ C ⟨e,h,0,[]⟩) rs<;>rfl
theorem mZ(a:Tmp)(t:TypeId):Rv C e h [.cell a t]=(C.T t).bind fun i=>IW h.get i (e.get a):=by
 unfold Rv;simp only[MF,CJ];cases(C.T t).bind fun i=>IW h.get i (e.get a)<;>rfl
theorem Ss(t:Tmp):CJ C ⟨e,h,bs,ds⟩ (.tmp t)=some (e.get t):=rfl
theorem Ry(a:Tmp)(t:TypeId):CJ C ⟨e,h,bs,ds⟩ (.cell a t)=(C.T t).bind fun i=>IW h.get i (e.get a):=rfl
variable{β:Type}
theorem rp(f:α→Option β):MF f []=some []:=rfl
theorem kU(f:α→Option β)(x:α)(l:List α):MF f (x::l)=(f x).bind fun y=>(MF f l).map (y:: ·):=by
 simp only[MF];cases f x with
 |none=>rfl
 |some y=>cases MF f l<;>rfl
theorem jC(dst:Option Tmp)(op:Op)(st:St)(t:Bool):Cy C K fr ops b n al l i dst op st true Q (.d (.bool (!t)))=Cy C K fr ops b n al l i dst op st false Q (.d (.bool t)):=by
 cases t<;>rfl
theorem wM(g:G)(vs:List AV):V8 g (.it vs)=(DQ g vs).map .it:=rfl
theorem ACA(g:G)(x:AR):V8 g (.d x)=some (.d x):=rfl
theorem wE(g:G)(cs:List AV):V8 g (.agg cs)=(GJ g cs).map .agg:=rfl
theorem qS(g:G):V8 g .co=some (.d (.ce [])):=rfl
theorem wG(g:G):V8 g .emp=some (.d (.ce [])):=rfl
theorem wJ(g:G)(id:Id)(off m:Nat):V8 g (.f8 id off m)=(DJ g (.f8 id off m)).map .d:=rfl
theorem is_self: ∀(a:Id),Id.is a a=true
 |[]=>rfl
 |n::l=>by simp[Id.is,is_self l]
theorem wx(n m:Nat)(l k:Id):Id.is (n::l) (m::k)=if n=m then Id.is l k else false:=by
 rw[Id.is];cases h:Nat.beq n m with
 |true=>rw[D1 (Co h)]
 |false=>rw[Ci (Ok h)]
theorem X2(m:Nat)(k:Id):Id.is [] (m::k)=false:=rfl
theorem X1(m:Nat)(k:Id):Id.is (m::k) []=false:=rfl
theorem qf(id:Id):AB.get [] id=none:=rfl
theorem BL(k:Id)(o:Obj)(h:AB)(id:Id):AB.get ((k,o)::h) id=if Id.is k id=true then some o else AB.get h id:=by
 rw[AB.get];cases Id.is k id<;>rfl
theorem fK(id:Id)(o:Obj):AB.put [] id o=[(id,o)]:=rfl
theorem Yu(k:Id)(x:Obj)(h:AB)(id:Id)(o:Obj):AB.put ((k,x)::h) id o=if Id.is k id=true then(k,o)::h else(k,x)::AB.put h id o:=by
 rw[AB.put];cases Id.is k id<;>rfl
theorem puts_cons(h:AB)(p:Id×Obj)(δ:AB):AB.puts h (p::δ)=AB.puts (h.put p.1 p.2) δ:=rfl
theorem puts_nil(h:AB):AB.puts h []=h:=rfl
def Uy(π:List Nat)(e:BT)(h:AB)(l:List Id):St:=
 {env:=e.map fun p=>(p.1,L7 (DD π l 0) p.2),heap:=Ct h (DD π l 0) l,base:=l.length,defs:=[]}
def Sg:BT→List Id
 |[]=>[]
 |p::e=>AD p.2++Sg e
theorem wk(e:BT):(e.flatMap fun p=>AD p.2)=Sg e:=by
 induction e with
 |nil=>rfl
 |cons p e ih=>rw[D0,ih];rfl
def Nr(e:BT):List Nat→BT
 |[]=>[]
 |t::l=>(t,e.get t)::Nr e l
theorem RJ(e:BT)(l:List Nat):(l.map fun t=>(t,e.get t))=Nr e l:=by
 induction l with
 |nil=>rfl
 |cons p e ih=>rw[El,ih];rfl
def MY(π:List Nat)(h:AB)(e:BT):St:=Uy π e h (Bm h 1000 (ER [] (Sg e)) 0)
theorem TD(f:FuncId)(π:List Nat)(bi:Option (List Nat))(wn:Bool)(nt:Nat):Eb C ⟨f,π,false,bi,wn,nt⟩ b ⟨e,h,bs,[]⟩=MY π h (Nr e (C.live f b)):=by
 simp only[Eb,RJ,wk,MY,Uy];rfl
theorem fz(f:FuncId)(π:List Nat)(bi:Option (List Nat))(wn:Bool)(nt:Nat):Eb C ⟨f,π,true,bi,wn,nt⟩ b ⟨e,h,bs,ds⟩=⟨Nr e (C.live f b),h,bs,ds⟩:=by
 simp only[Eb,RJ];rfl
theorem Zm(d:Df):Eb C fr b ⟨e,h,bs,d::ds⟩=⟨Nr e (C.live fr.f b),h,bs,d::ds⟩:=by
 simp only[Eb,RJ,List.isEmpty_cons,RW,Bool.or_true,F5]
theorem oI(l:List Id)(id:Id):KX l id=if (l.any (Id.is id))=true then l else l++[id]:=by
 rw[KX];cases l.any (Id.is id)<;>rfl
theorem s7(h:AB)(n:Nat)(l:List Id)(i:Nat):Bm h (n+1) l i=match l[i]? with
 |some id=>Bm h n (ER l (Ib (h.get id))) (i+1)
 |none=>l:=rfl
def SA(id:Id):Nat:=match id with|0::_=>0|_=>1
theorem RU(π:List Nat)(x:Id)(r:List Id)(n:Nat)(id:Id):DD π (x::r) n id=if Id.is x id=true then some (SA id::n::π)else DD π r (n+1) id:=by
 have:DD π (x::r) n id=match Id.is x id with|true=>some (SA id::n::π)|false=>DD π r (n+1) id:=by
  conv=>lhs;unfold DD
  unfold SA;cases id with
  |nil=>rfl
  |cons a l=>cases a<;>rfl
 rw[this];cases Id.is x id<;>rfl
theorem nH(l:Id):SA (0::l)=0:=rfl
theorem nG(l:Id):SA (1::l)=1:=rfl
def RL(sz:Nat):Option (List AR)→Option Br
 |some c=>if c.length=sz then some ⟨.ol c,[]⟩else none
 |none=>none
theorem wm(g:G)(m:Int)(es:List (List AR))(j:TI)(hm:0≤m):MO g m (.d (.ce es)) j=RL j.size es[m.toNat]? :=by
 simp only[MO,D1 hm];cases es[m.toNat]? with
 |none=>rfl
 |some c=>
  simp only[RL];cases h:Nat.beq c.length j.size with
  |true=>rw[D1 (Co h)]
  |false=>rw[Ci (Ok h)]
theorem wo(g:G)(m:Int)(id:Id)(off len:Nat)(j:TI)(hm:0≤m):MO g m (.f8 id off len) j=if m.toNat<len then(match g id with
        |some (.d7 sz es)=>if sz=j.size∧off+m.toNat<es.length then some ⟨.i7 id (off+m.toNat) 0,[]⟩else none
        |some (.i5 sz es)=>if sz=j.size∧off+m.toNat<es.length then some ⟨.i7 id (off+m.toNat) 0,[]⟩else none
        |some (.arr sz es)=>if sz=j.size∧off+m.toNat<es.length then some ⟨.i7 id (off+m.toNat) 0,[]⟩else none
        |_=>none)else none:=by
 simp only[MO,D1 hm];rfl
theorem kR(sz:Nat)(c:List AR):RL sz (some c)=if c.length=sz then some ⟨.ol c,[]⟩else none:=rfl
variable{j:Nat}
theorem l6{s:ByteArray}{f:UInt8→Br}(hj:j<s.data.toList.length)(hx: ∀x,s.data.toList[j]? =some x→BW C K fr ops b n al l i dst e h bs ds Q (some (f x))):BW C K fr ops b n al l i dst e h bs ds Q (Option.map f s.data.toList[j]?):=by
 have:=hx s.data.toList[j] (BV hj)
 rwa [BV hj]
theorem ly{f:α→List AR}{l':List α}{sz:Nat}(hj:j<l'.length)(hx: ∀x,l'[j]? =some x→BW C K fr ops b n al l i dst e h bs ds Q (RL sz (some (f x)))):BW C K fr ops b n al l i dst e h bs ds Q (RL sz (Option.map f l'[j]?)):=by
 have:=hx l'[j] (BV hj)
 rwa [BV hj]
theorem AAK(g:G)(x:AR):Ee g (.d x)=some x:=rfl
theorem iV(g:G):Ee g .co=some (.ce []):=rfl
theorem qG(g:G):Ee g .emp=some (.ce []):=rfl
theorem AAL(g:G)(x:AR):DJ g (.d x)=some x:=rfl
theorem iX(g:G):DJ g .co=some (.ce []):=rfl
theorem qK(g:G):DJ g .emp=some (.ce []):=rfl
theorem qM(g:G)(id:Id)(off:Nat):DJ g (.ptr id off)=none:=rfl
theorem wA(g:G)(id:Id):DJ g (.mp id)=none:=rfl
theorem qN(g:G)(id:Id):DJ g (.v6 id)=none:=rfl
theorem v8(g:G)(f:FuncId)(a c:List AV):DJ g (.fn f a c)=none:=rfl
def Xl(g:G)(off m:Nat):Option Obj→Option AR
 |some (.arr _ es)=>(Cb g es).bind fun ds=>(Ix ds off m).map .ce
 |some (.d7 _ es)=>(Ix es off m).map .ce
 |some (.i5 _ es)=>(Ix es off m).map .ce
 |_=>none
theorem qL(g:G)(id:Id)(off m:Nat):DJ g (.f8 id off m)=Xl g off m (g id):=by
 simp only[DJ,Ee];cases h:g id with
 |none=>rfl
 |some o=>cases o with
  |arr sz es=>
   simp only[Xl];cases Cb g es<;>rfl
  |_=>rfl
theorem ig(g:G)(off m sz:Nat)(es:List (List AV)):Xl g off m (some (.arr sz es))=(Cb g es).bind fun ds=>(Ix ds off m).map .ce:=rfl
theorem ai(g:G)(off m sz:Nat)(es:List (List AR)):Xl g off m (some (.d7 sz es))=(Ix es off m).map .ce:=rfl
theorem ij(g:G)(off m sz:Nat)(es:List (List AR)):Xl g off m (some (.i5 sz es))=(Ix es off m).map .ce:=rfl
theorem iY(g:G):GJ g []=some []:=rfl
def Mf:Option AR→Option (List AV)→Option (List AV)
 |some x,some xs=>some (.d x::xs)
 |_,_=>none
theorem Xh(x:AR)(xs:List AV):Mf (some x) (some xs)=some (.d x::xs):=rfl
theorem Xg(xs:Option (List AV)):Mf none xs=none:=rfl
theorem aY(g:G)(v:AV)(vs:List AV):GJ g (v::vs)=Mf (DJ g v) (GJ g vs):=by
 simp only[GJ];cases DJ g v<;>cases GJ g vs<;>rfl
def Tb:Option AV→Option (List AV)→Option (List AV)
 |some x,some xs=>some (x::xs)
 |_,_=>none
theorem ae(x:AV)(xs:List AV):Tb (some x) (some xs)=some (x::xs):=rfl
theorem aZ(xs:Option (List AV)):Tb none xs=none:=rfl
theorem Xj(x:Option AV):Tb x none=none:=by cases x<;>rfl
theorem qP(g:G):DQ g []=some []:=by simp only[DQ]
theorem ic(g:G)(v:AV)(vs:List AV):DQ g (v::vs)=Tb (Dz g v) (DQ g vs):=by
 simp only[DQ];cases Dz g v<;>cases DQ g vs<;>rfl
theorem AAJ(g:G)(x:AR):Dz g (.d x)=some (.d x):=rfl
theorem p9(g:G)(cs:List AV):Dz g (.agg cs)=(GJ g cs).map .agg:=rfl
theorem iU(g:G):Dz g .co=some (.d (.ce [])):=rfl
theorem qA(g:G):Dz g .emp=some (.d (.ce [])):=rfl
theorem qD(g:G)(id:Id)(off:Nat):Dz g (.ptr id off)=none:=rfl
theorem v7(g:G)(id:Id):Dz g (.mp id)=none:=rfl
theorem qF(g:G)(id:Id):Dz g (.v6 id)=none:=rfl
theorem v5(g:G)(f:FuncId):Dz g (.fn f [] [])=some (.fn f [] []):=rfl
theorem qC(g:G)(id:Id)(off m:Nat):Dz g (.f8 id off m)=(DJ g (.f8 id off m)).map .d:=rfl
theorem Xa(g:G)(t:TypeId)(cs:List AV):Dz g (.iface t (.agg cs))=(GJ g cs).map fun c=>.iface t (.agg c):=rfl
theorem Xb(g:G)(t:TypeId)(x:AR):Dz g (.iface t (.d x))=some (.iface t (.d x)):=rfl
theorem AAH(x:AR):flat (.d x)=Dg x:=by cases x<;>rfl
theorem iR:flat .co=true:=by simp[flat]
theorem pw(cs:List AV):flat (.agg cs)=E0 cs:=by cases cs<;>rfl
theorem p6(cs:List AV):flat (.it cs)=E0 cs:=by cases cs<;>rfl
theorem px(id:Id)(off m:Nat):flat (.f8 id off m)=false:=by cases id<;>rfl
theorem py(id:Id)(off:Nat):flat (.ptr id off)=false:=by cases id<;>rfl
theorem XT(t:TypeId)(cs:List AV):flat (.iface t (.agg cs))=E0 cs:=by cases cs<;>rfl
theorem XU(t:TypeId)(x:AR):flat (.iface t (.d x))=Dg x:=by cases x<;>rfl
theorem iL:E0 []=true:=rfl
theorem vt(x:AR)(vs:List AV):E0 (.d x::vs)=(Dg x&&E0 vs):=rfl
theorem iK(x:List AV)(vs:List AV):E0 (.agg x::vs)=false:=by simp only[E0]
theorem iM(id:Id)(off m:Nat)(vs:List AV):E0 (.f8 id off m::vs)=false:=by simp only[E0]
theorem aN(vs:List AV):E0 (.co::vs)=false:=by simp only[E0]
theorem vw(id:Id):flat (.mp id)=false:=by simp only[flat]
theorem vu(f:FuncId)(a c:List AV):flat (.fn f a c)=false:=by simp only[flat]
theorem XP(vs:List AV)(h:AB):BK (.it vs) h=none:=by simp only[BK]
theorem XM(vs:List AV)(h:AB):BK (.agg vs) h=none:=by simp only[BK]
theorem XO(id:Id)(off:Nat)(h:AB):BK (.ptr id off) h=none:=by simp only[BK]
theorem aG(id:Id)(h:AB):BK (.mp id) h=none:=by simp only[BK]
theorem aE(f:FuncId)(a c:List AV)(h:AB):BK (.fn f a c) h=none:=by simp only[BK]
theorem iG(k:IntKind)(m:Int):Dg (.int k m)=true:=rfl
theorem aH(c:Bool):Dg (.bool c)=true:=rfl
theorem iJ(c:ByteArray):Dg (.str c)=true:=rfl
theorem iH(c:List (List AR)):Dg (.ce c)=false:=rfl
theorem aL:Dg .ut=true:=rfl
theorem aJ:Dg .lc=true:=rfl
theorem aI:Dg .i9=true:=rfl
theorem aK:Dg .rc=true:=rfl
theorem gH(cs:List AV):AV.cells (.agg cs)=cs:=rfl
theorem vF(x:AR):AV.cells (.d x)=[.d x]:=rfl
theorem Zt:AV.cells .co=[.co]:=rfl
theorem gI:AV.cells .emp=[.emp]:=rfl
theorem gJ(id:Id)(off m:Nat):AV.cells (.f8 id off m)=[.f8 id off m]:=rfl
theorem gK(id:Id)(off:Nat):AV.cells (.ptr id off)=[.ptr id off]:=rfl
theorem Zr(id:Id)(k off:Nat):AV.cells (.i7 id k off)=[.i7 id k off]:=rfl
theorem o9(f:FuncId)(a c:List AV):AV.cells (.fn f a c)=[.fn f a c]:=rfl
theorem pB(id:Id):AV.cells (.mp id)=[.mp id]:=rfl
theorem Wv(t:TypeId)(v:AV):AV.cells (.iface t v)=[.iface t v]:=rfl
theorem Zs(c:List AR):AV.cells (.ol c)=[.ol c]:=rfl
theorem zx(x:AR):AV.isCell (.d x)=true:=rfl
theorem gF:AV.isCell .co=true:=rfl
theorem o5:AV.isCell .emp=true:=rfl
theorem o6(id:Id)(off m:Nat):AV.isCell (.f8 id off m)=true:=rfl
theorem o7(id:Id)(off:Nat):AV.isCell (.ptr id off)=true:=rfl
theorem gD(id:Id)(k off:Nat):AV.isCell (.i7 id k off)=true:=rfl
theorem vD(f:FuncId)(a c:List AV):AV.isCell (.fn f a c)=true:=rfl
theorem vE(id:Id):AV.isCell (.mp id)=true:=rfl
theorem Zq(t:TypeId)(v:AV):AV.isCell (.iface t v)=true:=rfl
theorem ABK(a c:List AV)(i:TI):IB .eql (.agg a) (.agg c) (some i)=(IA i.kind (.agg a) (.agg c)).map fun t=>.d (.bool t):=by
 simp only[IB];cases IA i.kind (.agg a) (.agg c)<;>rfl
theorem ABL(a c:List AV)(i:TI):IB .neq (.agg a) (.agg c) (some i)=(IA i.kind (.agg a) (.agg c)).map fun t=>.d (.bool (!t)):=by
 simp only[IB];cases IA i.kind (.agg a) (.agg c)<;>rfl
theorem fj(ks:List TK)(a c:List AV):IA (.flat ks) (.agg a) (.agg c)=Dx ks a c:=rfl
theorem Wu:Dx [] [] []=some true:=rfl
def ABo:Option Bool→Option Bool→Option Bool
 |some a,some c=>some (a&&c)
 |_,_=>none
theorem fY(a c:Bool):ABo (some a) (some c)=some (a&&c):=rfl
theorem U1(t:TK)(ts:List TK)(x y:AV)(xs ys:List AV):Dx (t::ts) (x::xs) (y::ys)=ABo (Fy t x y) (Dx ts xs ys):=by
 simp only[Dx];cases Fy t x y<;>cases Dx ts xs ys<;>rfl
theorem Zo(k:IntKind)(a c:Int):Fy .int (.d (.int k a)) (.d (.int k c))=some (decide (a=c)):=by
 simp only[Fy,F5];congr
theorem Wo(a c:Bool):Fy .bool (.d (.bool a)) (.d (.bool c))=some (a==c):=rfl
theorem Zp(a c:ByteArray):Fy .str (.d (.str a)) (.d (.str c))=some (a==c):=rfl
theorem ABO(a c:ByteArray)(i:TI):IB .lss (.d (.str a)) (.d (.str c)) (some i)=some (.d (.bool (Op.bytesLess a.toList c.toList))):=by
 simp only[IB];cases IA i.kind (.d (.str a)) (.d (.str c))<;>rfl
theorem yx(a c:Bool)(i:TI):IB .eql (.d (.bool a)) (.d (.bool c)) (some i)=(IA i.kind (.d (.bool a)) (.d (.bool c))).map fun t=>.d (.bool t):=by
 simp only[IB];cases IA i.kind (.d (.bool a)) (.d (.bool c))<;>rfl
theorem tw(t:TypeId)(v:AV)(i:TI):IB .neq (.iface t v) (.d .lc) (some i)=(IA i.kind (.iface t v) (.d .lc)).map fun t=>.d (.bool (!t)):=by
 simp only[IB];cases IA i.kind (.iface t v) (.d .lc)<;>rfl
theorem jM(v:Value):X0 (.const v)=true:=rfl
theorem wv(t:Tmp):X0 (.tmp t)=false:=rfl
theorem qn(f:FuncId):X0 (.func f)=false:=rfl
theorem uz(c:Bool)(op:BinOp)(x y:AV)(t:Option TI):fo c op x y t=orV (IB op x y t) (sK c op x y t):=rfl
theorem sW(v:AV)(r:Option AV):orV (some v) r=some v:=rfl
theorem sV(r:Option AV):orV none r=r:=rfl
def AA2:TK→BinOp→Option AV
 |.iface,.eql=>some (.d (.bool true))
 |.iface,.neq=>some (.d (.bool false))
 |_,_=>none
theorem sH:AA2 .iface .eql=some (.d (.bool true)):=rfl
theorem sI:AA2 .iface .neq=some (.d (.bool false)):=rfl
theorem sL(op:BinOp)(i:TI):sK true op (.d .lc) (.d .lc) (some i)=AA2 i.kind op:=by
 obtain⟨k⟩:=i;cases k<;>cases op<;>rfl
theorem ABN(op:BinOp)(i:TI):IB op (.d .lc) (.d .lc) (some i)=none:=by
 obtain⟨k⟩:=i;cases k<;>cases op<;>rfl
theorem oc(a c:ByteArray):IA .str (.d (.str a)) (.d (.str c))=some (a==c):=rfl
theorem fh(a c:Bool):IA .bool (.d (.bool a)) (.d (.bool c))=some (a==c):=rfl
theorem Zh(t:TypeId)(v:AV):IA .iface (.iface t v) (.d .lc)=some false:=rfl
theorem ACf(f:FuncId)(a c:List AV)(i:TI):IB .neq (.fn f a c) (.d .i9) (some i)=(IA i.kind (.fn f a c) (.d .i9)).map fun t=>.d (.bool (!t)):=by
 simp only[IB];cases IA i.kind (.fn f a c) (.d .i9)<;>rfl
theorem yy(i:TI):IB .neq (.d .i9) (.d .i9) (some i)=(IA i.kind (.d .i9) (.d .i9)).map fun t=>.d (.bool (!t)):=by
 simp only[IB];cases IA i.kind (.d .i9) (.d .i9)<;>rfl
theorem uy(f:FuncId)(a c:List AV):IA .func (.fn f a c) (.d .i9)=some false:=rfl
theorem fk:IA .func (.d .i9) (.d .i9)=some true:=rfl
theorem ir(g:G)(t:TypeId)(v:AV):V8 g (.iface t v)=Dz g (.iface t v):=by simp only[V8]
theorem wK(g:G)(id:Id)(off:Nat):V8 g (.ptr id off)=none:=rfl
attribute [go_sem] ABO yx tw jM wv qn uz sW sV sH sI sL ABN oc fh Zh ACf yy uy fk ir wK
attribute [go_sem] ABK ABL fj Wu fY U1 Zo Wo Zp
theorem Fw(a c:Nat):Nat.ble a c=decide (a≤c):=by
 cases h:Nat.ble a c with
 |true=>exact(D7 (F2 h)).symm
 |false=>exact(D4 (fun h1=>by rw[On h1]at h;cases h)).symm
theorem Uw(a c:Nat):Nat.blt a c=decide (a<c):=Fw (a+1) c
theorem Gq(a c:Nat):Nat.beq a c=decide (a=c):=by
 cases h:Nat.beq a c with
 |true=>exact(D7 (Co h)).symm
 |false=>exact(D4 (Ok h)).symm
theorem Oe{a:Nat}(h:a≤1073741824):(a≤Az)=True:=eq_true (by unfold Az;omega)
attribute [go_sem] Fw Uw Oe GB List.replicate_succ List.replicate_zero List.flatten_cons List.flatten_nil Bool.and_self
theorem Yj(t:TypeId)(u:AV)(hu:flat (.iface t u)=true):BB C K fr ops b n al l i Q (FL ⟨e,h,bs,ds⟩ (.iface t u))=(al i=true∧Q (.f9 (.iface t u)) ⟨e,h,b+n,ds⟩):=by
 simp only[FL,hu,BB]
def Bf(v:AV)(t:Bool):E (AZ×AB):=if t=true then .ok (.ret (.it []),[])else .ok (.f9 v,[])
theorem KS(v:AV):Bf v true=.ok (.ret (.it []),[]):=rfl
theorem JR(v:AV):Bf v false=.ok (.f9 v,[]):=rfl
variable{az:List AV}{t:Bool}
theorem dK{v:AV}(h1:t=true→C2 C K fr ops b n al l i az dst e h bs ds Q (Bf v true))(h2:t=false→C2 C K fr ops b n al l i az dst e h bs ds Q (Bf v false)):C2 C K fr ops b n al l i az dst e h bs ds Q (Bf v t):=by
 cases t
 .exact h2 rfl
 .exact h1 rfl
theorem Ys{v:AV}{p:Prop} [Decidable p](h1:p→C2 C K fr ops b n al l i az dst e h bs ds Q (Bf v true))(h2: ¬p→C2 C K fr ops b n al l i az dst e h bs ds Q (Bf v false)):C2 C K fr ops b n al l i az dst e h bs ds Q (Bf v (decide p)):=by
 by_cases hp:p
 .rw[D7 hp];exact h1 hp
 .rw[D4 hp];exact h2 hp
attribute [go_sem] Nat.add_assoc
attribute [go_sem] yb ya Prod.mk.injEq Yj KS JR mE mC
attribute [go_sem] ABQ y8 uK zC ABP zA nR ZA mn tP tN SY Zj Zi Wb Zy W6 sU lK ye jE jA jD jB AAO qV AAP wO ACB wU VK AAN wb ak wQ AAQ wX qU aj iw qW Xp qX Xo wa Xm Xn wY iv iu wZ wV wc oq il LG dE mI mH AAA vX z9 vW hP vf ve vY vZ vd get_cons ay Xu Dp Mv JL PY JM CB KQ Hn Fb lH fI Dv L1 Cd KP Hz Fj YP YQ wm wo kR VX IW Bj Ix E2 ACg ABp ABz ABw ABq ABx ABv ABu ABt ABr ABy ZS pg XG pf jQ RH bJ bH uD tz tx iq mb tA ma mZ Ss Ry rp kU jC aq wM ACA wE qS wG wJ NH gN decide_true decide_false Bool.not_true Bool.not_false uR gq Z5 bm k6 dJ Option.isSome_some gH vF Zt gI gJ gK Zr o9 pB Wv Zs zx gF o5 o6 o7 gD vD vE Zq Di CG puts_cons puts_nil fK Yu qf BL is_self wx X2 X1 zB VY bR kO kN TD fz Zm MY Uy Sg Nr oI ER s7 RU nH nG L7 Ig Ih Ct Ib AD Au List.any_nil List.any_cons Bool.or_false Bool.false_or Bool.or_true Bool.true_or Bool.false_and Bool.and_false Int.toNat_natCast Int.natCast_nonneg List.getElem?_map List.getElem?_nil AAK iV qG AAL iX qK qM wA qN v8 qL ig ai ij iY Xh Xg aY ae aZ Xj qP ic AAJ p9 iU qA qD v7 qF v5 qC Xa Xb AAH iR pw p6 px py XT XU iL vt iK iM aN vw vu XP XM XO aG aE List.flatMap_cons List.flatMap_nil iG aH iJ iH aL aJ aI aK List.foldl_cons List.foldl_nil List.map_cons List.map_nil List.length_cons List.length_nil List.length_map List.length_append List.length_singleton List.append_assoc List.all_cons List.all_nil Option.map_some Option.bind_some List.getElem?_cons_zero List.getElem?_cons_succ List.take_succ_cons List.take_zero List.drop_succ_cons List.drop_zero List.append_nil List.nil_append List.cons_append List.size_toArray Bool.and_true Bool.true_and true_and and_true
variable{P:Program}{C:B9}{K:AK}{fr:Fr}{b n i:Nat}{Q:DW→St→Prop}
variable{ops:Array Oper}{al:Nat→Bool}{l:List Oper}{e:BT}{h:AB}{bs:Nat}{ds:List Df}{ps:List (Nat×Nat)}{fps:List Fp}
def Bd(C:B9)(K:AK)(fr:Fr)(ops:Array Oper)(b n:Nat)(al:Nat→Bool)(ps:List (Nat×Nat))(fps:List Fp)(l:List Oper)(i:Nat)(Q:DW→St→Prop):GW→Prop
 |.ok st fp=>Fo C K fr ops b n al ps (fps++[fp]) l (i+1) st Q
 |.f9 v st=>al i=true∧DE fps ps=true∧Q (.f9 v) {st with base:=b+n}
 |.err _=>False
def C8(C:B9)(K:AK)(fr:Fr)(ops:Array Oper)(b n:Nat)(al:Nat→Bool)(ps:List (Nat×Nat))(fps:List Fp)(l:List Oper)(i:Nat)(dst:Option Tmp)(e:BT)(h:AB)(bs:Nat)(ds:List Df)(Q:DW→St→Prop)(rd:List Id):Option Br→Prop
 |some x=>JS fr.bi x.δ=true∧Fo C K fr ops b n al ps (fps++[⟨some rd,some (x.δ.map (·.1))⟩]) l (i+1) ⟨B8 e dst x.v,h.puts x.δ,bs,ds⟩ Q
 |none=>False
theorem sS:Fo C K fr ops b n al ps fps [] i ⟨e,h,bs,ds⟩ Q=(DE fps ps=true∧Q .normal ⟨e,h,b+n,ds⟩):=by
 simp only[Fo,Ch,CS]
theorem UE(o:Oper)(st:St):Fo C K fr ops b n al ps fps (o::l) i st Q=Bd C K fr ops b n al ps fps l i Q (Bx C K fr ops ((b+i)::fr.π) o st):=by
 unfold Fo;simp only[Ch,Gz];cases hs:Bx C K fr ops ((b+i)::fr.π) o st with
 |err e=>rfl
 |f9 v st'=>
  simp only[Bd];cases al i<;>simp
 |ok st' fp=>
  simp only[Bd,Fo];cases hr:Ch C K fr ops b al l (i+1) st' with
  |err e=>rfl
  |ok r=>
   obtain⟨⟨o,st2⟩,fps'⟩:=r;cases o<;>simp only[U2,D3,Ge,D8]
def DK(C:B9)(K:AK)(fr:Fr)(ops:Array Oper)(b n:Nat)(al:Nat→Bool)(ps:List (Nat×Nat))(fps:List Fp)(l:List Oper)(i:Nat)(dst:Option Tmp)(op:Op)(st:St)(want:Bool)(Q:DW→St→Prop):AV→Prop
 |.d (.bool t)=>match t==want with
  |true=>Bd C K fr ops b n al ps fps l i Q (Ay C K fr ((b+i)::fr.π) op dst st)
  |false=>Fo C K fr ops b n al ps (fps++[⟨some [],some []⟩]) l (i+1) {st with env:=B8 st.env dst (.it [])} Q
 |.it []=>Fo C K fr ops b n al ps (fps++[⟨some [],some []⟩]) l (i+1) {st with env:=B8 st.env dst (.it [])} Q
 |_=>False
theorem sk(dst:Option Tmp)(op:Op)(ty:TypeId)(pos:String)(af:Array Edge)(j:Nat)(want:Bool):
 Fo C K fr ops b n al ps fps (⟨dst,op,ty,pos,af,some (j,want)⟩::l) i ⟨e,h,bs,ds⟩ Q=DK C K fr ops b n al ps fps l i dst op ⟨e,h,bs,ds⟩ want Q (Ob ops e j):=by
 rw[UE];simp only[Bx,Lo,Ob];cases hj:ops[j]? with
 |none=>simp[KH,DK,Bd]
 |some o=>
  cases hd:o.dst with
  |none=>simp[KH,DK,Bd,hd]
  |some t=>
   simp only[IT,hd,D9,KH];cases hv:BT.get e t with
   |d x=>cases x with
    |bool c=>
     simp only[DK];cases(c==want)<;>simp only[Bd,Aw]
    |_=>rfl
   |it vs=>cases vs<;>simp only[DK,Bd,Aw]
   |_=>rfl
theorem jI(dst:Option Tmp)(op:Op)(st:St):DK C K fr ops b n al ps fps l i dst op st true Q (.d (.bool true))=Bd C K fr ops b n al ps fps l i Q (Ay C K fr ((b+i)::fr.π) op dst st):=rfl
theorem jF(dst:Option Tmp)(op:Op)(st:St):DK C K fr ops b n al ps fps l i dst op st false Q (.d (.bool false))=Bd C K fr ops b n al ps fps l i Q (Ay C K fr ((b+i)::fr.π) op dst st):=rfl
theorem jH(dst:Option Tmp)(op:Op):DK C K fr ops b n al ps fps l i dst op ⟨e,h,bs,ds⟩ true Q (.d (.bool false))=Fo C K fr ops b n al ps (fps++[⟨some [],some []⟩]) l (i+1) ⟨B8 e dst (.it []),h,bs,ds⟩ Q:=rfl
theorem jG(dst:Option Tmp)(op:Op):DK C K fr ops b n al ps fps l i dst op ⟨e,h,bs,ds⟩ false Q (.d (.bool true))=Fo C K fr ops b n al ps (fps++[⟨some [],some []⟩]) l (i+1) ⟨B8 e dst (.it []),h,bs,ds⟩ Q:=rfl
theorem a9(dst:Option Tmp)(op:Op)(want:Bool):DK C K fr ops b n al ps fps l i dst op ⟨e,h,bs,ds⟩ want Q (.it [])=Fo C K fr ops b n al ps (fps++[⟨some [],some []⟩]) l (i+1) ⟨B8 e dst (.it []),h,bs,ds⟩ Q:=rfl
theorem VO{op:Op}{st:St}(h1:t=true→DK C K fr ops b n al ps fps l i dst op st want Q (.d (.bool true)))(h2:t=false→DK C K fr ops b n al ps fps l i dst op st want Q (.d (.bool false))):DK C K fr ops b n al ps fps l i dst op st want Q (.d (.bool t)):=by
 cases t
 .exact h2 rfl
 .exact h1 rfl
theorem a8{op:Op}{st:St}{p:Prop} [Decidable p](h1:p→DK C K fr ops b n al ps fps l i dst op st want Q (.d (.bool true)))(h2: ¬p→DK C K fr ops b n al ps fps l i dst op st want Q (.d (.bool false))):DK C K fr ops b n al ps fps l i dst op st want Q (.d (.bool (decide p))):=by
 by_cases hp:p
 .rw[D7 hp];exact h1 hp
 .rw[D4 hp];exact h2 hp
theorem lJ(dst:Option Tmp)(op:Op)(ty:TypeId)(pos:String)(af:Array Edge)(st:St):
 Fo C K fr ops b n al ps fps (⟨dst,op,ty,pos,af,none⟩::l) i st Q=Bd C K fr ops b n al ps fps l i Q (Ay C K fr ((b+i)::fr.π) op dst st):=by
 rw[UE];simp only[Bx,Lo]
theorem BS(dst:Option Tmp)(op:Op)(r:Option Br):Bd C K fr ops b n al ps fps l i Q (Cw fr op dst ⟨e,h,bs,ds⟩ r)=C8 C K fr ops b n al ps fps l i dst e h bs ds Q (FI e.get h.get op) r:=by
 cases r with
 |none=>rfl
 |some x=>
  simp only[Cw,C8,JY,BO,Aw];cases hw:JS fr.bi x.δ with
  |false=>simp[Bd]
  |true=>
   simp only[Rt,Kz,Bd]
theorem LF(dst:Option Tmp)(v:AV)(rd:List Id):C8 C K fr ops b n al ps fps l i dst e h bs ds Q rd (some ⟨v,[]⟩)=Fo C K fr ops b n al ps (fps++[⟨some rd,some []⟩]) l (i+1) ⟨B8 e dst v,h,bs,ds⟩ Q:=by
 have:JS fr.bi []=true:=by cases hp:fr.bi<;>rfl
 simp only[C8,this,Rt];rfl
theorem dD(dst:Option Tmp)(v:AV)(x:Id×Obj)(δ:AB)(rd:List Id):C8 C K fr ops b n al ps fps l i dst e h bs ds Q rd (some ⟨v,x::δ⟩)=(JS fr.bi (x::δ)=true∧Fo C K fr ops b n al ps (fps++[⟨some rd,some (x.1::δ.map (·.1))⟩]) l (i+1) ⟨B8 e dst v,h.puts (x::δ),bs,ds⟩ Q):=rfl
section
variable(dst:Option Tmp)(ρ:List Nat)
theorem AAF(x:Operand):Bd C K fr ops b n al ps fps l i Q (Ay C K fr ρ (.move x) dst ⟨e,h,bs,ds⟩)=Fo C K fr ops b n al ps (fps++[⟨some [],some []⟩]) l (i+1) ⟨B8 e dst (ev e.get x),h,bs,ds⟩ Q:=by
 simp only[Ay,evalOp,BS,LF,FI]
theorem pn(x:Operand):Bd C K fr ops b n al ps fps l i Q (Ay C K fr ρ (.assign x) dst ⟨e,h,bs,ds⟩)=Fo C K fr ops b n al ps (fps++[⟨some [],some []⟩]) l (i+1) ⟨B8 e dst (ev e.get x),h,bs,ds⟩ Q:=by
 simp only[Ay,evalOp,BS,LF,FI]
theorem AAG(c x y:Operand):Bd C K fr ops b n al ps fps l i Q (Ay C K fr ρ (.pick c x y) dst ⟨e,h,bs,ds⟩)=C8 C K fr ops b n al ps fps l i dst e h bs ds Q ([]) (Mv (ev e.get c) (ev e.get x) (ev e.get y)):=by
 simp only[Ay,evalOp,BS,FI,Dh,Op.operands,D0,Gc,CS]
theorem vh(t:TypeId):Bd C K fr ops b n al ps fps l i Q (Ay C K fr ρ (.alloc t) dst ⟨e,h,bs,ds⟩)=C8 C K fr ops b n al ps fps l i dst e h bs ds Q ([]) (JL ρ (C.T t)):=by
 simp only[Ay,evalOp,BS,FI,Dh,Op.operands,D0,Gc,CS]
theorem AB9(t:TypeId)(x:Operand):Bd C K fr ops b n al ps fps l i Q (Ay C K fr ρ (.box t x) dst ⟨e,h,bs,ds⟩)=C8 C K fr ops b n al ps fps l i dst e h bs ds Q ([]) (PY ρ (ev e.get x) (C.T t)):=by
 simp only[Ay,evalOp,BS,FI,Dh,Op.operands,D0,Gc,CS]
theorem vn(t:TypeId)(p:Array (Nat×Operand)):Bd C K fr ops b n al ps fps l i Q (Ay C K fr ρ (.build t p) dst ⟨e,h,bs,ds⟩)=C8 C K fr ops b n al ps fps l i dst e h bs ds Q ([]) (JM (Di e.get p) (C.T t)):=by
 simp only[Ay,evalOp,BS,FI,Dh,Op.operands,D0,Gc,CS]
theorem VG(t:TypeId)(m:Nat)(p:Array (Nat×Operand)):Bd C K fr ops b n al ps fps l i Q (Ay C K fr ρ (.buildSlice t m p) dst ⟨e,h,bs,ds⟩)=C8 C K fr ops b n al ps fps l i dst e h bs ds Q (FI e.get h.get (.buildSlice t m p)) (CB C.T h.get ρ m (Di e.get p) (C.T t)):=by
 simp only[Ay,evalOp,BS]
theorem AAE(t:TypeId)(a:Operand):Bd C K fr ops b n al ps fps l i Q (Ay C K fr ρ (.load t a) dst ⟨e,h,bs,ds⟩)=C8 C K fr ops b n al ps fps l i dst e h bs ds Q (AD (ev e.get a)) (KQ h.get (ev e.get a) (C.T t)):=by
 simp only[Ay,evalOp,BS,FI,Dh,Op.operands,D0,Gc,CS]
theorem vp(t:TypeId)(a x:Operand):Bd C K fr ops b n al ps fps l i Q (Ay C K fr ρ (.store t a x) dst ⟨e,h,bs,ds⟩)=C8 C K fr ops b n al ps fps l i dst e h bs ds Q (AD (ev e.get a)++AD (ev e.get x)) (Hn h.get (ev e.get a) (ev e.get x) (C.T t)):=by
 simp only[Ay,evalOp,BS,FI,Dh,Op.operands,D0,Gc,CS]
theorem aA(x:Operand):Bd C K fr ops b n al ps fps l i Q (Ay C K fr ρ (.nilCheck x) dst ⟨e,h,bs,ds⟩)=C8 C K fr ops b n al ps fps l i dst e h bs ds Q ([]) (Fb (ev e.get x)):=by
 simp only[Ay,evalOp,BS,FI,Dh,Op.operands,D0,Gc,CS]
theorem vj(op:BinOp)(t:TypeId)(x y:Operand)(u:TypeId):Bd C K fr ops b n al ps fps l i Q (Ay C K fr ρ (.binOp op t x y u) dst ⟨e,h,bs,ds⟩)=C8 C K fr ops b n al ps fps l i dst e h bs ds Q ([]) ((fo (X0 x||X0 y) op (ev e.get x) (ev e.get y) (C.T t)).map (⟨·,[]⟩)):=by
 simp only[Ay,evalOp,BS,FI,Dh,Op.operands,D0,Gc,CS]
theorem Z9(f:Fn)(first cap:Array Operand):Bd C K fr ops b n al ps fps l i Q (Ay C K fr ρ (.makeFunc f first cap) dst ⟨e,h,bs,ds⟩)=C8 C K fr ops b n al ps fps l i dst e h bs ds Q ([]) (Fa f (first.toList.map (ev e.get)) (cap.toList.map (ev e.get))):=by
 simp only[Ay,evalOp,BS,FI,Dh,Op.operands,D0,Gc,CS]
theorem XL(t:TypeId)(x y:Operand):Bd C K fr ops b n al ps fps l i Q (Ay C K fr ρ (.makeSlice t x y) dst ⟨e,h,bs,ds⟩)=C8 C K fr ops b n al ps fps l i dst e h bs ds Q ([]) (CL C.T h.get ρ (ev e.get x) (ev e.get y) (C.T t)):=by
 simp only[Ay,evalOp,BS,FI,Dh,Op.operands,D0,Gc,CS]
theorem XJ(t:TypeId)(x:Operand)(k:Nat):Bd C K fr ops b n al ps fps l i Q (Ay C K fr ρ (.fieldAddr t x k) dst ⟨e,h,bs,ds⟩)=C8 C K fr ops b n al ps fps l i dst e h bs ds Q ([]) (Dv k (ev e.get x) (C.T t)):=by
 simp only[Ay,evalOp,BS,FI,Dh,Op.operands,D0,Gc,CS]
theorem XK(t:TypeId)(x y:Operand):Bd C K fr ops b n al ps fps l i Q (Ay C K fr ρ (.indexAddr t x y) dst ⟨e,h,bs,ds⟩)=C8 C K fr ops b n al ps fps l i dst e h bs ds Q (AD (ev e.get x)++AD (ev e.get y)) (Cd C.T h.get (ev e.get x) (ev e.get y) (C.T t)):=by
 simp only[Ay,evalOp,BS,FI,Dh,Op.operands,D0,Gc,CS]
theorem iE(f:Builtin)(az:Array Operand)(ts:Array TypeId):Bd C K fr ops b n al ps fps l i Q (Ay C K fr ρ (.call ⟨.builtin f,az,ts⟩) dst ⟨e,h,bs,ds⟩)=C8 C K fr ops b n al ps fps l i dst e h bs ds Q (FI e.get h.get (.call ⟨.builtin f,az,ts⟩)) (Fj C.T h.get ρ f (az.toList.map (ev e.get)) ts.toList):=by
 simp only[Ay,Jb,BS]
theorem vo(x:Operand):Bd C K fr ops b n al ps fps l i Q (Ay C K fr ρ (.panic x) dst ⟨e,h,bs,ds⟩)=Bd C K fr ops b n al ps fps l i Q (FL ⟨e,h,bs,ds⟩ (ev e.get x)):=rfl
def C1(C:B9)(K:AK)(fr:Fr)(ops:Array Oper)(b n:Nat)(al:Nat→Bool)(ps:List (Nat×Nat))(fps:List Fp)(l:List Oper)(i:Nat)(az:List AV)(dst:Option Tmp)(e:BT)(h:AB)(bs:Nat)(ds:List Df)(Q:DW→St→Prop)(r:E (AZ×AB)):Prop:=
 Bd C K fr ops b n al ps fps l i Q (C0 fr az dst ⟨e,h,bs,ds⟩ r)
def We(C:B9)(K:AK)(fr:Fr)(ops:Array Oper)(b n:Nat)(al:Nat→Bool)(ps:List (Nat×Nat))(fps:List Fp)(l:List Oper)(i:Nat)(dst:Option Tmp)(ρ:List Nat)(e:BT)(h:AB)(bs:Nat)(ds:List Df)(Q:DW→St→Prop)(args:List AV):AV→Prop
 |fv=>Bd C K fr ops b n al ps fps l i Q (DZ C K fr ρ fv args dst ⟨e,h,bs,ds⟩)
theorem vq(f:Operand)(az:Array Operand)(ts:Array TypeId):Bd C K fr ops b n al ps fps l i Q (Ay C K fr ρ (.call ⟨.value f,az,ts⟩) dst ⟨e,h,bs,ds⟩)=We C K fr ops b n al ps fps l i dst ρ e h bs ds Q (az.toList.map (ev e.get)) (ev e.get f):=rfl
def KZ(C:B9)(K:AK)(fr:Fr)(ops:Array Oper)(b n:Nat)(al:Nat→Bool)(ps:List (Nat×Nat))(fps:List Fp)(l:List Oper)(i:Nat)(dst:Option Tmp)(ρ:List Nat)(e:BT)(h:AB)(bs:Nat)(ds:List Df)(Q:DW→St→Prop)(f:FuncId)(az:List AV)(m:Mode):Prop:=
 Bd C K fr ops b n al ps fps l i Q (C5 K fr ρ f az dst ⟨e,h,bs,ds⟩ m)
theorem om(f:FuncId)(first cap args:List AV):We C K fr ops b n al ps fps l i dst ρ e h bs ds Q args (.fn f first cap)=KZ C K fr ops b n al ps fps l i dst ρ e h bs ds Q f (first++args++cap) (C.mode f):=by
 simp only[We,KZ,DZ,A3]
def ia(C:B9)(K:AK)(fr:Fr)(ops:Array Oper)(b n:Nat)(al:Nat→Bool)(ps:List (Nat×Nat))(fps:List Fp)(l:List Oper)(i:Nat)(dst:Option Tmp)(e:BT)(h:AB)(bs:Nat)(ds:List Df)(Q:DW→St→Prop)(f:FuncId)(az:List AV)(own:List Nat):Option (List AV)→Prop
 |some xs=>C1 C K fr ops b n al ps fps l i az dst e h bs ds Q (K (.fn f) xs [] own false none)
 |none=>False
theorem bj(f:FuncId)(az:List AV)(hx:(DQ h.get az).isSome):KZ C K fr ops b n al ps fps l i dst ρ e h bs ds Q f az .auto=ia C K fr ops b n al ps fps l i dst e h bs ds Q f az [] (DQ h.get az):=by
 obtain⟨xs,hx⟩:=Ii.1 hx;simp only[KZ,C5,hx,A3,ia,C1]
theorem kv(f:FuncId)(az:List AV)(hx:(DQ h.get az).isSome):KZ C K fr ops b n al ps fps l i dst ρ e h bs ds Q f az .own=ia C K fr ops b n al ps fps l i dst e h bs ds Q f az ρ (DQ h.get az):=by
 obtain⟨xs,hx⟩:=Ii.1 hx;simp only[KZ,C5,hx,A3,ia,C1]
theorem ib(f:FuncId)(az:List AV)(own:List Nat)(xs:List AV):ia C K fr ops b n al ps fps l i dst e h bs ds Q f az own (some xs)=C1 C K fr ops b n al ps fps l i az dst e h bs ds Q (BU K f xs own):=by
 simp only[ia,C1,Pb]
theorem dG(az:List AV)(v:AV)(h':AB)(hv:flat v=true):C1 C K fr ops b n al ps fps l i az dst e h bs ds Q (.ok (.ret v,h'))=Fo C K fr ops b n al ps (fps++[⟨some (CN h.get (Au az)),some []⟩]) l (i+1) ⟨B8 e dst v,h,bs,ds⟩ Q:=by
 simp only[C1,C0,Aw,hv,Bd]
theorem UK(az:List AV)(v:AV)(h':AB)(hv:flat v=true):C1 C K fr ops b n al ps fps l i az dst e h bs ds Q (.ok (.f9 v,h'))=(al i=true∧DE fps ps=true∧Q (.f9 v) ⟨e,h,b+n,ds⟩):=by
 simp only[C1,C0,hv,Bd]
theorem l8(az:List AV)(v:AV)(h':AB)(x:Id×Obj)(hv:flat v=false)(hx:BK v h'=some x):C1 C K fr ops b n al ps fps l i az dst e h bs ds Q (.ok (.ret v,h'))=Fo C K fr ops b n al ps (fps++[⟨some (CN h.get (Au az)),some [x.1]⟩]) l (i+1) ⟨B8 e dst v,x::h,bs,ds⟩ Q:=by
 simp only[C1,C0,Aw,hv,G3,hx,Aa,Bd]
theorem UJ(az:List AV)(v:AV)(h':AB)(hv:flat v=false)(hx:BK v h'=none):C1 C K fr ops b n al ps fps l i az dst e h bs ds Q (.ok (.ret v,h'))=(JS fr.bi (az.flatMap (mark h.get))=true∧Fo C K fr ops b n al ps (fps++[⟨some (CN h.get (Au az)),some ((az.flatMap (mark h.get)).map (·.1)++h'.map (·.1))⟩]) l (i+1) ⟨B8 e dst v,h'++h.puts (az.flatMap (mark h.get)),bs,ds⟩ Q):=by
 simp only[C1,C0,Aw,hv,G3,hx,Aa,BO];cases hw:JS fr.bi (az.flatMap (mark h.get))<;>simp[Bd]
end
variable{α:Type}{f:α→List AR}{dst:Option Tmp}
theorem lv{l':List α}{sz j:Nat}{rd:List Id}(hj:j<l'.length)(hx: ∀x,l'[j]? =some x→C8 C K fr ops b n al ps fps l i dst e h bs ds Q rd (RL sz (some (f x)))):C8 C K fr ops b n al ps fps l i dst e h bs ds Q rd (RL sz (Option.map f l'[j]?)):=by
 have:=hx l'[j] (BV hj)
 rwa [BV hj]
theorem Yi(fps:List Fp):DE fps []=true:=rfl
def oQ:Option Fp→Option Fp→Bool
 |some a,some c=>a.apart c
 |_,_=>true
theorem WK(a c:Fp):oQ (some a) (some c)=a.apart c:=rfl
theorem Vh(fps:List Fp)(i j:Nat)(l:List (Nat×Nat)):DE fps ((i,j)::l)=(oQ fps[i]? fps[j]? &&DE fps l):=by
 simp only[DE,F0];rfl
theorem XA(g:G):CN g []=[]:=rfl
theorem fZ(x:Option (List Id)):Abs.apart (some []) x=true:=by cases x<;>simp[Abs.apart]
theorem Ze(x:Option (List Id)):Abs.apart x (some [])=true:=by
 unfold Abs.apart;split<;>first|rfl|simp_all
theorem Sr(g:G)(e:Nat→AV)(t:TypeId)(m:Nat)(p:Array (Nat×Operand)):FI e g (.buildSlice t m p)=(p.toList.map (·.2)).flatMap fun y=>AD (ev e y):=by
 simp only[FI,Dh,Op.operands]
theorem ABA(g:G)(e:Nat→AV)(az:Array Operand)(ts:Array TypeId):FI e g (.call ⟨.builtin .len,az,ts⟩)=az.toList.flatMap fun y=>AD (ev e y):=by
 simp[FI,Dh,Op.operands,Call.operands]
theorem mM(g:G)(e:Nat→AV)(az:Array Operand)(ts:Array TypeId):FI e g (.call ⟨.builtin .append,az,ts⟩)=CN g (az.toList.flatMap fun y=>AD (ev e y)):=by
 simp[FI,Dh,Op.operands,Call.operands]
theorem ABB(g:G)(e:Nat→AV)(az:Array Operand)(ts:Array TypeId):FI e g (.call ⟨.builtin .max,az,ts⟩)=[]:=rfl
theorem ABC(g:G)(e:Nat→AV)(az:Array Operand)(ts:Array TypeId):FI e g (.call ⟨.builtin .min,az,ts⟩)=[]:=rfl
attribute [go_sem] UK UJ
attribute [go_sem] sS sk jI jF jH jG a9 lJ LF dD AAF pn AAG vh AB9 vn VG AAE vp aA vj Z9 XL XJ XK iE vo vq om bj kv ib dG Yi WK Vh XA fZ Ze Sr ABA mM ABB ABC Fp.apart List.flatMap_cons List.flatMap_nil
variable{P:Program}{C:B9}{K:AK}{fr:Fr}{b n i:Nat}{Q:DW→St→Prop}
variable{ops:Array Oper}{al:Nat→Bool}{l:List Oper}{e:BT}{h:AB}{bs:Nat}{ds:List Df}
theorem is_iff: ∀{a b:Id},Id.is a b=true↔a=b:=fun{a b}=>⟨Id.is_eq,fun h=>by subst h;exact is_self a⟩
theorem AE{a b:Id}(h:a≠b):Id.is a b=false:=by
 cases hx:Id.is a b with
 |false=>rfl
 |true=>exact absurd (is_iff.1 hx) h
variable{ρ:Id}
theorem under_iff: ∀{id:Id},Id.under ρ id=true↔ρ<:+id
 |[]=>by
  simp only[Id.under,is_iff,List.suffix_nil]
 |m::l=>by
  rw[HM];unfold Id.under;cases hx:Id.is ρ (m::l)with
  |true=>simp[is_iff.1 hx]
  |false=>
   have:ρ≠m::l:=fun h=>by rw[is_iff.2 h]at hx;cases hx
   simp only[this,false_or];exact under_iff
theorem Dw{id:Id}(h: ¬ρ<:+id):Id.under ρ id=false:=by
 cases hx:Id.under ρ id with
 |false=>rfl
 |true=>exact absurd (under_iff.1 hx) h
theorem get_put(h:AB)(id:Id)(o:Obj)(id':Id):AB.get (AB.put h id o) id'=if Id.is id id'=true then some o else AB.get h id':=by
 induction h with
 |nil=>simp only[fK,BL]
 |cons p h ih=>
  obtain⟨k,x⟩:=p;rw[Yu];by_cases hk:Id.is k id=true
  .rw[D1 hk,BL,BL];have:=is_iff.1 hk;subst this;split<;>rfl
  .rw[Ci hk,BL,BL,ih];by_cases h1:Id.is k id'=true
   .rw[D1 h1,D1 h1];have:=is_iff.1 h1;subst this;rw[Ci fun h2=>hk (is_iff.2 (is_iff.1 h2).symm)]
   .rw[Ci h1,Ci h1]
theorem Q4(q:Id→Bool)(h:AB)(id:Id)(hq:q id=true):AB.get (List.filter (fun p=>q p.1) h) id=AB.get h id:=by
 induction h with
 |nil=>rfl
 |cons p h ih=>
  obtain⟨k,x⟩:=p;rw[BL,Rd];by_cases hk:Id.is k id=true
  .have:=is_iff.1 hk;subst this;simp only[hq,F5,BL,hk]
  .rw[Ci hk,←ih];split
   .rw[BL,Ci hk]
   .rfl
theorem Al(ρ:List Nat)(h:AB)(id:Id)(hid:Id.under ρ id=false):AB.get (gc ρ h) id=AB.get h id:=by
 refine Q4 (fun id=>match id with|0::l=> !Id.under ρ l|_=>true) h id ?_
 split
 .rename_i l;have: ¬ρ<:+l:=fun h1=>by
   have:=under_iff.2 (h1.trans (ES 0 l));rw[hid]at this;cases this
  rw[Dw this];rfl
 .rfl
def So(C:B9)(K:AK)(fr:Fr)(ops:Array Oper)(b n:Nat)(al:Nat→Bool)(l:List Oper)(i:Nat)(dst:Option Tmp)(ρ:List Nat)(e:BT)(h:AB)(bs:Nat)(ds:List Df)(Q:DW→St→Prop):E (AZ×AB)→Prop
 |.ok (.ret v,h')=>E7 C K fr ops b n al l (i+1) ⟨B8 e dst v,gc ρ h',bs,ds⟩ Q
 |.ok (.f9 v,h')=>al i=true∧Q (.f9 v) ⟨e,gc ρ h',b+n,ds⟩
 |.err _=>False
theorem O6(dst:Option Tmp)(ρ:List Nat)(r:E (AZ×AB)):BB C K fr ops b n al l i Q (De ρ dst ⟨e,h,bs,ds⟩ r)=So C K fr ops b n al l i dst ρ e h bs ds Q r:=by
 cases r with
 |err l=>rfl
 |ok r=>
  obtain⟨o,h'⟩:=r;cases o<;>simp only[De,Aw,Aa,BB,So]
theorem sw(dst:Option Tmp)(ρ:List Nat)(v:AV)(h':AB):So C K fr ops b n al l i dst ρ e h bs ds Q (.ok (.ret v,h'))=E7 C K fr ops b n al l (i+1) ⟨B8 e dst v,gc ρ h',bs,ds⟩ Q:=rfl
theorem sv(dst:Option Tmp)(ρ:List Nat)(v:AV)(h':AB):So C K fr ops b n al l i dst ρ e h bs ds Q (.ok (.f9 v,h'))=(al i=true∧Q (.f9 v) ⟨e,gc ρ h',b+n,ds⟩):=rfl
theorem k7(dst:Option Tmp)(ρ:List Nat)(f:FuncId)(az:List AV):Ka C K fr ops b n al l i dst ρ e h bs ds Q f az .raw=So C K fr ops b n al l i dst ρ e h bs ds Q (K (.fn f) az h ρ true fr.bi):=by
 simp only[Ka,C5,O6]
theorem AY{Post:AZ→AB→Prop}{ρ:List Nat}{q:E (AZ×AB)}(hk: ∃o h',q=.ok (o,h')∧Post o h')(hn: ∀o h',Post o h'→So C K fr ops b n al l i dst ρ e h bs ds Q (.ok (o,h'))):So C K fr ops b n al l i dst ρ e h bs ds Q q:=by
 obtain⟨o,h',e,hp⟩:=hk;rw[e];exact hn o h' hp
def tm(v:AV):Option AV→AV
 |some u=>u
 |none=>v
theorem tn(g:G):LV g []=[]:=rfl
theorem nI(g:G)(v:AV)(vs:List AV):LV g (v::vs)=tm v (Dz g v)::LV g vs:=by
 simp only[LV,El];cases Dz g v<;>rfl
theorem eA(v u:AV):tm v (some u)=u:=rfl
theorem dz(v:AV):tm v none=v:=rfl
theorem bn(dst:Option Tmp)(ρ:List Nat)(f:FuncId)(az:List AV)(hx:(DQ h.get az).isNone):Ka C K fr ops b n al l i dst ρ e h bs ds Q f az .auto=(JS fr.bi (az.flatMap (mark h.get))=true∧So C K fr ops b n al l i dst ρ e h bs ds Q (K (.fn f) (LV h.get az) (h.puts (az.flatMap (mark h.get))) ρ true fr.bi)):=by
 have hx:DQ h.get az=none:=by simpa using hx
 simp only[Ka,C5,hx,Ea,A3,BO,Aa];cases hw:JS fr.bi (az.flatMap (mark h.get))with
 |true=>simp only[O6,Rt]
 |false=>simp[BB]
def roP(C:B9)(K:AK)(fr:Fr)(ops:Array Oper)(b n:Nat)(al:Nat→Bool)(l:List Oper)(i:Nat)(dst:Option Tmp)(e:BT)(h:AB)(bs:Nat)(ds:List Df)(Q:DW→St→Prop):E (AZ×AB)→Prop
 |.ok (.ret v,_)=>flat v=true∧E7 C K fr ops b n al l (i+1) ⟨B8 e dst v,h,bs,ds⟩ Q
 |.ok (.f9 v,_)=>flat v=true∧al i=true∧Q (.f9 v) ⟨e,h,b+n,ds⟩
 |.err _=>False
theorem sB(dst:Option Tmp)(ρ:List Nat)(f:FuncId)(az:List AV)(hx:(DQ h.get az).isNone):Ka C K fr ops b n al l i dst ρ e h bs ds Q f az .ro=roP C K fr ops b n al l i dst e h bs ds Q (K (.fn f) (LV h.get az) (h.puts (az.flatMap (mark h.get))) ρ true (some ρ)):=by
 have hx:DQ h.get az=none:=by simpa using hx
 simp only[Ka,C5,hx,Ea,A3,BO,Aa];cases K (.fn f) (LV h.get az) (h.puts (az.flatMap (mark h.get))) ρ true (some ρ)with
 |err l=>rfl
 |ok r=>
  obtain⟨o,h'⟩:=r;cases o<;>simp only[N7,roP,Aw]<;>split<;>simp_all [BB]
theorem AAX(g:G)(x:AR):mark g (.d x)=[]:=rfl
theorem ko(g:G):mark g .co=[]:=rfl
theorem r6(g:G):mark g .emp=[]:=rfl
theorem r8(g:G)(id:Id)(off:Nat):mark g (.ptr id off)=[]:=rfl
theorem xF(g:G)(f:FuncId)(a c:List AV):mark g (.fn f a c)=[]:=rfl
theorem xH(g:G)(id:Id):mark g (.mp id)=[]:=rfl
theorem r7(g:G)(id:Id)(off m:Nat):mark g (.f8 id off m)=E1 g (.f8 id off m):=by simp only[mark,Jy,D0,Gc,CS]
def ru(g:G):List AV→AB
 |[]=>[]
 |v::vs=>E1 g v++ru g vs
theorem rz(g:G)(cs:List AV):mark g (.agg cs)=ru g cs:=by
 simp only[mark,Jy];induction cs with
 |nil=>rfl
 |cons v vs ih=>rw[D0,ih];rfl
theorem xD(g:G)(x:AR):E1 g (.d x)=[]:=rfl
theorem bb(g:G):E1 g .co=[]:=rfl
theorem kZ(g:G):E1 g .emp=[]:=rfl
theorem kf(g:G)(id:Id)(off:Nat):E1 g (.ptr id off)=[]:=rfl
theorem eB(ρ:Id)(n:Nat)(l:Id):Id.under ρ (n::l)=if Id.is ρ (n::l)=true then true else Id.under ρ l:=by
 conv=>lhs;unfold Id.under
 cases Id.is ρ (n::l)<;>rfl
theorem ZR(n:Nat)(ρ:Id):Id.under (n::ρ) ρ=false:=Dw fun h=>by
 have:=h.length_le;simp at this;omega
theorem AF{id:Id}(h:Id.under ρ id=false)(n:Nat):Id.under (n::ρ) id=false:=Dw fun h1=>by
 rw[under_iff.2 ((ES n ρ).trans h1)]at h;cases h
theorem AG{ρ id:Id}(h:Id.under ρ id=false)(a n:Nat):Id.is (a::n::ρ) id=false:=AE fun h1=>by
 subst h1;rw[under_iff.2 ((ES n ρ).trans (ES a _))]at h;cases h
theorem Av{ρ id:Id}(h:Id.under ρ id=false)(a n:Nat):Id.is id (a::n::ρ)=false:=AE fun h1=>by
 subst h1;rw[under_iff.2 ((ES n ρ).trans (ES a _))]at h;cases h
theorem AAR(ρ:List Nat):gc ρ []=[]:=rfl
theorem we(ρ:List Nat)(l:Id)(o:Obj)(h:AB):gc ρ ((0::l,o)::h)=if Id.under ρ l=true then gc ρ h else(0::l,o)::gc ρ h:=by
 simp only[gc,Rd];cases Id.under ρ l<;>rfl
theorem AAS(ρ:List Nat)(l:Id)(o:Obj)(h:AB):gc ρ ((1::l,o)::h)=(1::l,o)::gc ρ h:=rfl
attribute [go_sem] AAR we AAS
def U5(C:B9)(K:AK)(fr:Fr)(ops:Array Oper)(b n:Nat)(al:Nat→Bool)(l:List Oper)(i:Nat)(dst:Option Tmp)(e:BT)(h:AB)(bs:Nat)(ds:List Df)(Q:DW→St→Prop)(az:List AV):AV→Prop
 |.fn g [] []=>E7 C K fr ops b n al l (i+1) ⟨B8 e dst .undef,h,bs,.call g az::ds⟩ Q
 |_=>False
theorem ZL(dst:Option Tmp)(f:Operand)(az:Array Operand)(ts:Array TypeId)(hr:fr.wn=false):BB C K fr ops b n al l i Q (Gw fr e.get ⟨.value f,az,ts⟩ dst ⟨e,h,bs,ds⟩)=U5 C K fr ops b n al l i dst e h bs ds Q (az.toList.map (ev e.get)) (ev e.get f):=by
 simp only[Gw,hr];cases ev e.get f with
 |fn g a c=>
  cases a with
  |nil=>cases c<;>simp only[U5,BB]
  |cons x l=>simp only[U5,BB]
 |_=>rfl
theorem gd(dst:Option Tmp)(az:List AV)(g:FuncId):U5 C K fr ops b n al l i dst e h bs ds Q az (.fn g [] [])=E7 C K fr ops b n al l (i+1) ⟨B8 e dst .undef,h,bs,.call g az::ds⟩ Q:=rfl
def bK(C:B9)(bi:Option (List Nat))(l:List Df)(h:AB)(id:Id):Option (List AV)→E (Option AV×AB)
 |some cs=>Cl C bi l none (h.put id (.box cs))
 |none=>.err [20]
def VW(C:B9)(bi:Option (List Nat))(l:List Df)(h:AB)(id:Id)(off:Nat)(k:IntKind)(m:Int):Option Obj→E (Option AV×AB)
 |some (.box cs)=>bK C bi l h id (Bj cs off [.d (.int k m)])
 |_=>.err [21]
variable{bi:Option (List Nat)}{l:List Df}{h:AB}{off:Nat}{k:IntKind}{m:Int}
theorem Nn{f:FuncId}{t:TypeId}{id:Id}(hc:C.of f=some t)(hw:JS bi [(id,.box [])]=true):Cl C bi (.call f [.ptr id off]::l) (some (.iface t (.agg [.d (.int k m)]))) h=VW C bi l h id off k m (h.get id):=by
 simp only[Cl,hc,hw,Nat.beq_refl,Bool.and_true,VW,bK];cases h.get id with
 |none=>rfl
 |some o=>cases o with
  |box cs=>simp only;cases Bj cs off [.d (.int k m)]<;>rfl
  |_=>rfl
theorem bL{f:FuncId}{id:Id}(hc:(C.of f).isSome=true):Cl C bi (.call f [.ptr id off]::l) none h=Cl C bi l none h:=by
 obtain⟨t,ht⟩:=Ii.1 hc;simp only[Cl,ht]
attribute [go_sem] ZL gd VW bK Nn bL
attribute [go_sem] KO HI Fa Gj G2 HH appMix
attribute [go_sem] Al eB ZR
attribute [go_sem] get_put sw sv k7 tn nI eA dz bn Option.isNone_some Option.isNone_none sB AAX ko r6 r8 xF xH rz ru xD bb kZ kf
def qO:Option (List AR)→Option (List (List AR))→Option (List (List AR))
 |some x,some xs=>some (x::xs)
 |_,_=>none
theorem Xi(x:List AR)(xs:List (List AR)):qO (some x) (some xs)=some (x::xs):=rfl
theorem iZ(g:G):Cb g []=some []:=rfl
theorem Q3(g:G)(v:List AV)(vs:List (List AV)):Cb g (v::vs)=qO (CU g v) (Cb g vs):=by
 simp only[Cb];cases CU g v<;>cases Cb g vs<;>rfl
def qI:Option AR→Option (List AR)→Option (List AR)
 |some x,some xs=>some (x::xs)
 |_,_=>none
theorem Xe(x:AR)(xs:List AR):qI (some x) (some xs)=some (x::xs):=rfl
theorem iW(g:G):CU g []=some []:=rfl
theorem Q1(g:G)(v:AV)(vs:List AV):CU g (v::vs)=qI (Ee g v) (CU g vs):=by
 simp only[CU];cases Ee g v<;>cases CU g vs<;>rfl
def qQ(off m:Nat):Option Obj→Option AR
 |some (.d7 _ es)=>(Ix es off m).map .ce
 |some (.i5 _ es)=>(Ix es off m).map .ce
 |_=>none
theorem qH(g:G)(id:Id)(off m:Nat):Ee g (.f8 id off m)=qQ off m (g id):=by
 simp only[Ee];cases g id with
 |none=>rfl
 |some o=>cases o<;>rfl
theorem ah(off m sz:Nat)(es:List (List AR)):qQ off m (some (.d7 sz es))=(Ix es off m).map .ce:=rfl
theorem ie(off m sz:Nat)(es:List (List AR)):qQ off m (some (.i5 sz es))=(Ix es off m).map .ce:=rfl
theorem Q2(g:G)(l:List AR):CU g (l.map .d)=some l:=by
 induction l with
 |nil=>rfl
 |cons x l ih=>rw[El,Q1,ih];rfl
theorem IU(g:G)(l:List (List AR)):Cb g (l.map (·.map .d))=some l:=by
 induction l with
 |nil=>rfl
 |cons x l ih=>rw[El,Q3,ih,Q2];rfl
theorem bf(g:G):Ba g []=[]:=rfl
theorem PQ(g:G)(v:AV)(vs:List AV):Ba g (v::vs)=JI g v++Ba g vs:=rfl
theorem xE(g:G)(x:AR):JI g (.d x)=[]:=rfl
theorem bd(g:G):JI g .co=[]:=rfl
theorem kh(g:G):JI g .emp=[]:=rfl
def ry(id:Id):Option Obj→AB
 |some (.d7 sz es)=>[(id,.i5 sz es)]
 |_=>[]
theorem kj(g:G)(id:Id)(off m:Nat):JI g (.f8 id off m)=ry id (g id):=by
 simp only[JI];cases g id with
 |none=>rfl
 |some o=>cases o<;>rfl
theorem bg(id:Id)(sz:Nat)(es:List (List AR)):ry id (some (.d7 sz es))=[(id,.i5 sz es)]:=rfl
theorem kn(id:Id)(sz:Nat)(es:List (List AR)):ry id (some (.i5 sz es))=[]:=rfl
theorem PR(g:G)(l:List AR):Ba g (l.map .d)=[]:=by
 induction l with
 |nil=>rfl
 |cons x l ih=>rw[El,PQ,ih];rfl
theorem HF(g:G)(l:List (List AR)):(l.map (·.map AV.d)).flatMap (Ba g)=[]:=by
 induction l with
 |nil=>rfl
 |cons x l ih=>rw[El,D0,ih,PR];rfl
def EY(sz:Nat):List (List AV)→Bool
 |[]=>true
 |e::es=>decide (e.length=sz)&&(e.all AV.isCell&&EY sz es)
theorem ZE(sz:Nat):EY sz []=true:=by simp only[EY]
theorem Ho(sz:Nat)(e:List AV)(es:List (List AV)):EY sz (e::es)=(decide (e.length=sz)&&(e.all AV.isCell&&EY sz es)):=by simp only[EY]
theorem M0(sz:Nat)(es:List (List AV)):(es.all fun e=>e.length==sz&&e.all AV.isCell)=EY sz es:=by
 induction es with
 |nil=>rfl
 |cons e es ih=>rw[F0,ih,Ho,Bool.and_assoc];rfl
theorem Zz(l:List AR):(l.map AV.d).all AV.isCell=true:=by
 induction l with
 |nil=>rfl
 |cons x l ih=>rw[El,F0,ih];rfl
def AA1(newId:Id)(sz n:Nat)(marks:AB):Option (List (List AR))→Option Br
 |some ds=>some ⟨.f8 (1::newId) 0 n,marks++[(1::newId,.d7 sz ds)]⟩
 |none=>none
def sG(g:G)(newId:Id)(sz:Nat)(es:List (List AV)):Bool→Option Br
 |true=>some ⟨.f8 (1::newId) 0 es.length,[(1::newId,.arr sz es)]⟩
 |false=>AA1 newId sz es.length (es.flatMap (Ba g)) (Cb g es)
def AA0(g:G)(newId:Id)(sz:Nat)(mix:Bool)(es:List (List AV)):Bool→Option Br
 |true=>sG g newId sz es mix
 |false=>none
theorem Tx(g:G)(newId:Id)(j:TI)(es:List (List AV)):newArr g newId j es=AA0 g newId j.size j.mix es (EY j.size es&&decide (0<j.size)&&decide (es.length≤Az)):=by
 unfold newArr;rw[M0,Fw,Uw];cases(EY j.size es&&decide (0<j.size)&&decide (es.length≤Az))with
 |false=>rfl
 |true=>
  simp only[AA0];cases j.mix with
  |true=>rfl
  |false=>simp only[sG];cases Cb g es<;>rfl
theorem Tw(g:G)(newId:Id)(sz:Nat)(mix:Bool)(es:List (List AV)):AA0 g newId sz mix es true=sG g newId sz es mix:=rfl
theorem lD(g:G)(newId:Id)(sz:Nat)(es:List (List AV)):sG g newId sz es true=some ⟨.f8 (1::newId) 0 es.length,[(1::newId,.arr sz es)]⟩:=rfl
theorem RR(g:G)(newId:Id)(sz:Nat)(es:List (List AV)):sG g newId sz es false=AA1 newId sz es.length (es.flatMap (Ba g)) (Cb g es):=rfl
theorem Tz(newId:Id)(sz n:Nat)(marks:AB)(ds:List (List AR)):AA1 newId sz n marks (some ds)=some ⟨.f8 (1::newId) 0 n,marks++[(1::newId,.d7 sz ds)]⟩:=rfl
def Zk(g:G)(newId:Id)(j:TI)(n:Nat):Option (List AV)→Option Br
 |some cs=>if n*j.size≤16777216∧j.zero.length=j.size then newArr g newId j (GB j.size n cs)else none
 |none=>none
theorem Sa(g:G)(newId:Id)(j:TI):Fx g newId 0 [] j=some ⟨.emp,[]⟩:=rfl
theorem SZ(g:G)(newId:Id)(n:Nat)(ps:List (Nat×AV))(j:TI):Fx g newId (n+1) ps j=Zk g newId j (n+1) (CG (fun k=>some (k*j.size,j.size)) ((List.replicate (n+1) j.zero).flatten) ps):=by
 unfold Fx;cases CG (fun k=>some (k*j.size,j.size)) ((List.replicate (n+1) j.zero).flatten) ps with
 |none=>rfl
 |some cs=>
  simp only[Zk,Fw];have e:(2 ^ 24:Nat)=16777216:=by decide
  rw[e];by_cases h1:(n+1)*j.size≤16777216
  .by_cases h2:j.zero.length=j.size
   .simp[h1,h2]
   .have h3:(j.zero.length==j.size)=false:=by simpa using h2
    simp[h1,h2,h3]
  .simp[h1]
theorem Wc(g:G)(newId:Id)(j:TI)(n:Nat)(cs:List AV):Zk g newId j n (some cs)=if n*j.size≤16777216∧j.zero.length=j.size then newArr g newId j (GB j.size n cs)else none:=rfl
def oV(s:AV):Option Br:=match s with
 |.co=>some ⟨.co,[]⟩
 |.emp=>some ⟨.emp,[]⟩
 |.f8 id off n=>some ⟨.f8 id off n,[]⟩
 |_=>none
theorem fb:oV .co=some ⟨.co,[]⟩:=rfl
theorem oW:oV .emp=some ⟨.emp,[]⟩:=rfl
theorem WV(id:Id)(off n:Nat):oV (.f8 id off n)=some ⟨.f8 id off n,[]⟩:=rfl
def zt(g:G)(newId:Id)(j:TI)(s:AV)(src:List (List AV)):Bool→Option Br
 |true=>appTo g newId j s src
 |false=>none
def Pn(g:G)(newId:Id)(j:TI)(s:AV):Option (List (List AV))→Option Br
 |none=>none
 |some []=>oV s
 |some (e::es)=>zt g newId j s (e::es) (EY j.size (e::es)&&decide ((e::es).length≤Az)&&decide (0<j.size))
theorem Zg(g:G)(newId:Id)(j:TI)(s x:AV):appendV g newId j s x=Pn g newId j s (DI g x):=by
 unfold appendV;cases DI g x with
 |none=>rfl
 |some src=>
  cases src with
  |nil=>cases s<;>rfl
  |cons e es=>
   simp only[Pn,←M0,Fw,Uw];cases((e::es).all (fun e=>e.length==j.size&&e.all AV.isCell)&&decide ((e::es).length≤Az)&&decide (0<j.size))<;>rfl
theorem WO(g:G)(newId:Id)(j:TI)(s:AV):Pn g newId j s (some [])=oV s:=rfl
theorem S4(g:G)(newId:Id)(j:TI)(s:AV)(e:List AV)(es:List (List AV)):Pn g newId j s (some (e::es))=zt g newId j s (e::es) (EY j.size (e::es)&&decide ((e::es).length≤Az)&&decide (0<j.size)):=rfl
theorem S3(g:G)(newId:Id)(j:TI)(s:AV)(src:List (List AV)):zt g newId j s src true=appTo g newId j s src:=rfl
def WQ(newId:Id)(id:Id)(off n sz:Nat)(es:List (List AR))(marks:AB)(ds:List (List AR)):Option (List (List AR))→Option Br
 |some es'=>some ⟨.f8 id off (n+ds.length),marks++[(id,.d7 sz es')]⟩
 |none=>if off=0∧n+ds.length≤Az then some ⟨.f8 (1::newId) 0 (n+ds.length),marks++[(id,.i5 0 []),(1::newId,.d7 sz (es.take n++ds))]⟩else none
def zu(newId:Id)(id:Id)(off n sz:Nat)(es:List (List AR))(marks:AB):Option (List (List AR))→Option Br
 |some ds=>if LA id marks=true then WQ newId id off n sz es marks ds (Bj es (off+n) ds)else none
 |none=>none
theorem QN(g:G)(newId:Id)(id:Id)(off n sz:Nat)(es:List (List AR))(src:List (List AV)):appIn g newId id off n sz es src=zu newId id off n sz es (src.flatMap (Ba g)) (Cb g src):=by
 unfold appIn zu;cases Cb g src with
 |none=>rfl
 |some ds=>
  cases LA id (src.flatMap (Ba g))with
  |false=>rfl
  |true=>
   simp only[F5,WQ];cases Bj es (off+n) ds with
   |some es'=>rfl
   |none=>
    simp only[Gq,Fw];by_cases h1:off=0<;>by_cases h2:n+ds.length≤Az<;>simp[h1,h2]
theorem OI(newId:Id)(id:Id)(off n sz:Nat)(es:List (List AR))(marks:AB)(ds:List (List AR)):zu newId id off n sz es marks (some ds)=if LA id marks=true then WQ newId id off n sz es marks ds (Bj es (off+n) ds)else none:=rfl
theorem QM(newId:Id)(id:Id)(off n sz:Nat)(es:List (List AR))(marks:AB)(ds es':List (List AR)):WQ newId id off n sz es marks ds (some es')=some ⟨.f8 id off (n+ds.length),marks++[(id,.d7 sz es')]⟩:=rfl
theorem QL(newId:Id)(id:Id)(off n sz:Nat)(es:List (List AR))(marks:AB)(ds:List (List AR)):WQ newId id off n sz es marks ds none=if off=0∧n+ds.length≤Az then some ⟨.f8 (1::newId) 0 (n+ds.length),marks++[(id,.i5 0 []),(1::newId,.d7 sz (es.take n++ds))]⟩else none:=rfl
theorem Oq(id:Id):LA id []=true:=by simp[LA]
def oT(g:G)(newId:Id)(j:TI)(id:Id)(off n:Nat)(src:List (List AV)):Option Obj→Option Br
 |some (.d7 sz es)=>if sz=j.size∧off+n≤es.length then appIn g newId id off n sz es src else none
 |some (.arr sz es)=>if sz=j.size∧off+n≤es.length then appMix newId id off n sz es src else none
 |_=>none
theorem QO(g:G)(newId:Id)(j:TI)(src:List (List AV)):appTo g newId j .co src=newArr g newId j src:=rfl
theorem fc(g:G)(newId:Id)(j:TI)(src:List (List AV)):appTo g newId j .emp src=newArr g newId j src:=rfl
theorem OM(g:G)(newId:Id)(j:TI)(id:Id)(off n:Nat)(src:List (List AV)):appTo g newId j (.f8 id off n) src=oT g newId j id off n src (g id):=by
 simp only[appTo];cases g id with
 |none=>rfl
 |some o=>
  cases o with
  |d7 sz es=>
   simp only[oT,Gq,Fw];by_cases h1:sz=j.size<;>by_cases h2:off+n≤es.length<;>simp[h1,h2]
  |arr sz es=>
   simp only[oT,Gq,Fw];by_cases h1:sz=j.size<;>by_cases h2:off+n≤es.length<;>simp[h1,h2]
  |_=>rfl
theorem OJ(g:G)(newId:Id)(j:TI)(id:Id)(off n:Nat)(src:List (List AV))(sz:Nat)(es:List (List AR)):oT g newId j id off n src (some (.d7 sz es))=if sz=j.size∧off+n≤es.length then appIn g newId id off n sz es src else none:=rfl
theorem oU(g:G)(newId:Id)(j:TI)(id:Id)(off n:Nat)(src:List (List AV))(sz:Nat)(es:List (List AV)):oT g newId j id off n src (some (.arr sz es))=if sz=j.size∧off+n≤es.length then appMix newId id off n sz es src else none:=rfl
theorem g8(g:G)(es:List (List AR)):DI g (.d (.ce es))=some (es.map (·.map .d)):=rfl
theorem Z6(g:G):DI g .co=some []:=rfl
theorem gx(g:G):DI g .emp=some []:=rfl
def ym(off n:Nat):Option Obj→Option (List (List AV))
 |some (.d7 _ es)=>Ix (es.map (·.map .d)) off n
 |some (.i5 _ es)=>Ix (es.map (·.map .d)) off n
 |some (.arr _ es)=>Ix es off n
 |_=>none
theorem g9(g:G)(id:Id)(off n:Nat):DI g (.f8 id off n)=ym off n (g id):=by
 simp only[DI];cases g id with
 |none=>rfl
 |some o=>cases o<;>rfl
theorem mj(off n sz:Nat)(es:List (List AR)):ym off n (some (.d7 sz es))=Ix (es.map (·.map .d)) off n:=rfl
theorem tK(off n sz:Nat)(es:List (List AR)):ym off n (some (.i5 sz es))=Ix (es.map (·.map .d)) off n:=rfl
theorem tJ(off n sz:Nat)(es:List (List AV)):ym off n (some (.arr sz es))=Ix es off n:=rfl
def rl(ok:Bool)(r:Option AV):Option TI→Option Br
 |some j=>KK ok r j
 |none=>none
def fB(T:TypeId→Option TI)(i:TI)(ok:Bool):Option (Option AV)→Option Br
 |some r=>rl ok r (T i.elem)
 |none=>none
def fA(T:TypeId→Option TI)(x:AR)(ok:Bool)(i:TI):Option Obj→Option Br
 |some (.map es)=>fB T i ok (Ca es x)
 |_=>none
def e9(T:TypeId→Option TI)(g:G)(id:Id)(x:AR)(ok:Bool)(i:TI):Bool→Option Br
 |true=>fA T x ok i (g id)
 |false=>none
def rh(T:TypeId→Option TI)(g:G)(id:Id)(x:AR)(ok:Bool)(i:TI):TK→Option TI→Option Br
 |.map,some kt=>e9 T g id x ok i (JH kt.kind x)
 |_,_=>none
theorem YO(T:TypeId→Option TI)(g:G)(id:Id)(x:AR)(ok:Bool)(i:TI):Ei T g (.mp id) (.d x) ok (some i)=rh T g id x ok i i.kind (T i.key):=by
 unfold Ei;simp only[Ks];cases hk:i.kind with
 |map=>
  cases T i.key with
  |none=>rfl
  |some kt=>
   simp only[rh];cases JH kt.kind x with
   |false=>rfl
   |true=>
    simp only[e9];cases g id with
    |none=>rfl
    |some o=>
     cases o with
     |map es=>
      simp only[fA];cases Ca es x with
      |none=>rfl
      |some r=>
       simp only[fB];cases T i.elem<;>rfl
     |_=>rfl
 |_=>rfl
theorem kI(T:TypeId→Option TI)(g:G)(id:Id)(x:AR)(ok:Bool)(i kt:TI):rh T g id x ok i .map (some kt)=e9 T g id x ok i (JH kt.kind x):=rfl
theorem bN(T:TypeId→Option TI)(g:G)(id:Id)(x:AR)(ok:Bool)(i:TI):e9 T g id x ok i true=fA T x ok i (g id):=rfl
theorem kJ(T:TypeId→Option TI)(x:AR)(ok:Bool)(i:TI)(es:List (AR×AV)):fA T x ok i (some (.map es))=fB T i ok (Ca es x):=rfl
theorem bO(T:TypeId→Option TI)(ok:Bool)(i:TI)(r:Option AV):fB T i ok (some r)=rl ok r (T i.elem):=rfl
theorem bP(ok:Bool)(r:Option AV)(j:TI):rl ok r (some j)=KK ok r j:=rfl
theorem rj(v:AV)(j:TI):KK false (some v) j=some ⟨v,[]⟩:=by
 unfold KK;cases E2 j.agg j.zero<;>rfl
def rm(ok:Bool):Option AV→Option Br
 |some z=>match ok with
  |true=>some ⟨.it [z,.d (.bool false)],[]⟩
  |false=>some ⟨z,[]⟩
 |none=>none
theorem rk(ok:Bool)(j:TI):KK ok none j=rm ok (E2 j.agg j.zero):=by
 unfold KK;cases E2 j.agg j.zero<;>cases ok<;>rfl
theorem w7(z:AV):rm true (some z)=some ⟨.it [z,.d (.bool false)],[]⟩:=rfl
theorem w6(z:AV):rm false (some z)=some ⟨z,[]⟩:=rfl
theorem bW(x:AR):Ca [] x=some none:=rfl
attribute [go_sem] YO kI bN kJ bO bP rj rk w7 w6 JH bW
variable{g:G}
theorem dj{l:List α}{sz:Nat}(hf: ∀a,(f a).length=sz)(h0:0≤m)(hm:m≤l.length):ET g .slice sz (.d (.ce (l.map f))) none (some (.d (.int k m))) none=some (.d (.ce ((l.take m.toNat).map f))):=by
 have hb:DY none (some (.d (.int k m))) none (l.map f).length=some (0,m.toNat,none):=by
  simp[DY,Gg,HX,h0]
 have he:Lf sz (l.map f)=true:=by
  cases l with
  |nil=>rfl
  |cons a l=>simp only[El,Lf,Gq,Ap];exact hf a
 show O2 sz (l.map f) (DY none (some (.d (.int k m))) none (l.map f).length)=_;rw[hb];have hr:Nat.ble m.toNat (l.map f).length=true:=by rw[Fw];simp;omega
 simp only[O2,hr,he,OF,List.drop_zero,Nat.sub_zero,List.map_take]
def stP(id:Id)(off:Nat)(cells:List AV):Option Obj→Option Br
 |some (.box cs)=>(Bj cs off cells).map fun cs'=>⟨.undef,[(id,.box cs')]⟩
 |_=>none
def stD(id:Id)(k off sz:Nat)(es:List (List AR))(marks:AB):Option (List AR)→Option (List AR)→Option Br
 |some e,some ds=>if LA id marks=true then(Bj e off ds).map fun e'=>⟨.undef,marks++[(id,.d7 sz (es.set k e'))]⟩else none
 |_,_=>none
def stA(id:Id)(k off sz:Nat)(es:List (List AV))(cells:List AV):Option (List AV)→Option Br
 |some e=>(Bj e off cells).map fun e'=>⟨.undef,[(id,.arr sz (es.set k e'))]⟩
 |none=>none
def stE(g:G)(id:Id)(k off:Nat)(cells:List AV):Option Obj→Option Br
 |some (.d7 sz es)=>stD id k off sz es (Ba g cells) es[k]? (CU g cells)
 |some (.arr sz es)=>stA id k off sz es cells es[k]?
 |_=>none
theorem nD(g:G)(i:TI)(id:Id)(off:Nat)(v:AV):Iq g i (.ptr id off) v=if v.cells.length=i.size∧v.cells.all AV.isCell=true then stP id off v.cells (g id)else none:=by
 unfold Iq;by_cases h:v.cells.length=i.size∧v.cells.all AV.isCell=true
 .have:(v.cells.length==i.size&&v.cells.all AV.isCell)=true:=by simp[h.1,h.2]
  rw[this,D1 h];simp only;cases g id with
  |none=>rfl
  |some o=>cases o<;>rfl
 .have:(v.cells.length==i.size&&v.cells.all AV.isCell)=false:=by
   rw[PL];by_cases h1:v.cells.length=i.size
   .exact .inr (by simpa using fun h2=>h ⟨h1,h2⟩)
   .exact .inl (by simpa using h1)
  rw[this,Ci h]
theorem dy(g:G)(i:TI)(id:Id)(k off:Nat)(v:AV):Iq g i (.i7 id k off) v=if v.cells.length=i.size∧v.cells.all AV.isCell=true then stE g id k off v.cells (g id)else none:=by
 unfold Iq;by_cases h:v.cells.length=i.size∧v.cells.all AV.isCell=true
 .have:(v.cells.length==i.size&&v.cells.all AV.isCell)=true:=by simp[h.1,h.2]
  rw[this,D1 h];simp only;cases g id with
  |none=>rfl
  |some o=>
   cases o with
   |d7 sz es=>
    simp only[stE,stD];cases es[k]? with
    |none=>cases CU g v.cells<;>rfl
    |some e=>
     cases CU g v.cells with
     |none=>rfl
     |some ds=>cases LA id (Ba g v.cells)<;>rfl
   |arr sz es=>
    simp only[stE,stA];cases es[k]? <;>rfl
   |_=>rfl
 .have:(v.cells.length==i.size&&v.cells.all AV.isCell)=false:=by
   rw[PL];by_cases h1:v.cells.length=i.size
   .exact .inr (by simpa using fun h2=>h ⟨h1,h2⟩)
   .exact .inl (by simpa using h1)
  rw[this,Ci h]
theorem yq(id:Id)(off:Nat)(cells cs:List AV):stP id off cells (some (.box cs))=(Bj cs off cells).map fun cs'=>⟨.undef,[(id,.box cs')]⟩:=rfl
theorem tZ(g:G)(id:Id)(k off sz:Nat)(cells:List AV)(es:List (List AR)):stE g id k off cells (some (.d7 sz es))=stD id k off sz es (Ba g cells) es[k]? (CU g cells):=rfl
theorem yp(g:G)(id:Id)(k off sz:Nat)(cells:List AV)(es:List (List AV)):stE g id k off cells (some (.arr sz es))=stA id k off sz es cells es[k]? :=rfl
theorem tX(id:Id)(k off sz:Nat)(es:List (List AR))(marks:AB)(e ds:List AR):stD id k off sz es marks (some e) (some ds)=if LA id marks=true then(Bj e off ds).map fun e'=>⟨.undef,marks++[(id,.d7 sz (es.set k e'))]⟩else none:=rfl
theorem tW(id:Id)(k off sz:Nat)(es:List (List AV))(cells e:List AV):stA id k off sz es cells (some e)=(Bj e off cells).map fun e'=>⟨.undef,[(id,.arr sz (es.set k e'))]⟩:=rfl
attribute [go_sem] nD dy yq tZ yp tX tW
def mkS(g:G)(newId:Id)(n:Int):TK→Option TI→Option Br
 |.slice,some j=>if 0≤n∧n≤Az then FO g newId n.toNat j else none
 |_,_=>none
theorem xC(T:TypeId→Option TI)(g:G)(newId:Id)(k k':IntKind)(n:Int)(i:TI):CL T g newId (.d (.int k n)) (.d (.int k' n)) (some i)=mkS g newId n i.kind (T i.elem):=by
 obtain⟨kd,sz,ag,st,z,fl,el,ky,mx⟩:=i;unfold CL;simp only;cases kd with
 |slice=>
  cases T el with
  |none=>rfl
  |some j=>simp only[mkS,Rt]
 |_=>rfl
theorem AAc(g:G)(newId:Id)(n:Int)(j:TI):mkS g newId n .slice (some j)=if 0≤n∧n≤Az then FO g newId n.toNat j else none:=rfl
def uq:List AV→Option (List AR)
 |[]=>some []
 |.d x::l=>(uq l).map (x:: ·)
 |_=>none
theorem WJ: ∀{l:List AV} {ds:List AR},uq l=some ds→l=ds.map .d
 |[],ds,h=>by cases h;rfl
 |v::l,ds,h=>by
  cases v<;>simp[uq]at h;obtain⟨ds',h1,rfl⟩:=h;rw[WJ h1];rfl
theorem Tp{newId:Id}{n:Nat}{j:TI}{zs:List AR}(hn:0<n)(hmax:n≤Az)(hz:uq j.zero=some zs)(hl:j.zero.length=j.size)(h0:0<j.size)(hm:j.mix=false):FO g newId n j=some ⟨.f8 (1::newId) 0 n,[(1::newId,.d7 j.size (List.replicate n zs))]⟩:=by
 obtain⟨m,rfl⟩: ∃m,n=m+1:=⟨n-1,by omega⟩;have e:=WJ hz;have e2:List.replicate (m+1) j.zero=(List.replicate (m+1) zs).map (·.map AV.d):=by rw[List.map_replicate,e]
 show newArr g newId j (List.replicate (m+1) j.zero)=_;rw[Tx,e2];have h1:EY j.size ((List.replicate (m+1) zs).map (·.map AV.d))=true:=by
  have hz2:zs.length=j.size:=by rw[←hl,e];simp
  generalize m+1=k;induction k with
  |zero=>simp[EY]
  |succ k ih=>rw[QR,El,Ho,ih,Zz,BY,hz2];simp
 rw[h1,D7 h0];have h2:((List.replicate (m+1) zs).map (·.map AV.d)).length≤Az:=by simpa using hmax
 rw[D7 h2,hm];simp only[OF,Tw,RR,IU,HF,Tz,D8,BY,Lc]
theorem kT(g:G)(newId:Id)(j:TI):FO g newId 0 j=some ⟨.emp,[]⟩:=rfl
theorem Nm{n:Nat}(h:n≤1073741824):((n:Int)≤(Az:Int))=True:=eq_true (by unfold Az;omega)
attribute [go_sem] xC AAc kT Nat.zero_add
attribute [go_sem] Option.map_none Xi iZ Q3 Xe iW Q1 qH ah ie Q2 IU bf PQ xE bd kh kj bg kn PR HF ZE Ho Tx Tw lD RR Tz Sa SZ Wc fb oW WV Zg WO S4 S3 QN OI QM QL Oq QO fc OM OJ oU g8 Z6 gx g9 mj tK tJ Nat.one_mul Nat.mul_one Nat.reduceMul
end Go.Abs
namespace Go.Abs
variable{C:B9}{K:AK}{fr:Fr}{bl:Nat}{Q:DW→St→Prop}
theorem IK{α:Type}{l:List α}{i:Nat}{x:α}(h:l[i]? =some x):l.drop i=x::l.drop (i+1):=by
 have hi:=(BE.1 h).1;rw[List.drop_eq_getElem_cons hi];congr 1;have:=BV hi;rw[h]at this;injection this with this
 exact this.symm
theorem Cg{α β:Type}{x:Code}(l:List α)(S:Nat→β→St)(Inv:Nat→List α→β→Prop)(b0:β)(h0:Inv 0 l b0)
 (step: ∀(i:Nat) (y:α) (b:β),l[i]? =some y→i<l.length→(i:Int)<(l.length:Int)→Inv i (y::l.drop (i+1)) b→AA (∀b',Inv (i+1) (l.drop (i+1)) b'→oG C K fr bl x (S (i+1) b') Q)→Wp C K fr bl x (S i b) (K5 C K fr bl x Q))
 (done: ∀(i:Nat) (b:β),AA (i=l.length)→ ¬(i:Int)<(l.length:Int)→Inv i [] b→Wp C K fr bl x (S i b) (K5 C K fr bl x Q)):oG C K fr bl x (S 0 b0) Q:=by
 refine rounds (S:=fun a:Nat×β=>S a.1 a.2) (Inv:=fun a=>a.1≤l.length∧Inv a.1 (l.drop a.1) a.2) (m:=fun a=>l.length-a.1) (a:=(0,b0)) ⟨by simp,by simpa using h0⟩ ?_;rintro⟨i,b⟩ ⟨h1,h2⟩ IH;dsimp only at*;by_cases hi:i<l.length
 .obtain⟨y,hy⟩: ∃y,l[i]? =some y:=⟨_,BV hi⟩;rw[IK hy]at h2;exact step i y b hy hi (by omega) h2 ⟨fun b' hb=>IH.out (i+1,b') (by dsimp only;omega) ⟨by dsimp only;omega,hb⟩⟩
 .have:i=l.length:=by omega
  rw[F6 (by omega)]at h2;exact done i b ⟨this⟩ (by omega) h2
end Go.Abs
namespace Go.Abs
variable{C:B9}{K:AK}{fr:Fr}{bl:Nat}{Q:DW→St→Prop}
theorem AU{α β:Type}{x:Code}(l:List α)(m:Int)(S:Int→Nat→β→St)(Inv:Nat→List α→β→Prop)(b0:β)(hm:m=l.length)(h0:Inv 0 l b0)
 (step: ∀(i:Nat) (y:α) (b:β),l[i]? =some y→i<l.length→(i:Int)<m→Inv i (y::l.drop (i+1)) b→AA (∀b',Inv (i+1) (l.drop (i+1)) b'→oG C K fr bl x (S m (i+1) b') Q)→Wp C K fr bl x (S m i b) (K5 C K fr bl x Q))
 (done: ∀(i:Nat) (b:β),AA (i=l.length)→ ¬(i:Int)<m→Inv i [] b→Wp C K fr bl x (S m i b) (K5 C K fr bl x Q)):oG C K fr bl x (S m 0 b0) Q:=
 Cg l (S m) Inv b0 h0 (fun i y b h1 h2 h3 h4 h5=>step i y b h1 h2 (by omega) h4 h5) (fun i b h1 h2 h3=>done i b h1 (by have:=h1.out;omega) h3)
end Go.Abs
namespace Go.Abs
variable{P:Program}{C:B9}
theorem Gp{f:FuncId}{fn:Func}{c:Code}{rs:List ResultVar}{args:List AV}{π:List Nat}{Post:AZ×AB→Prop}(hg:C.i6 f=true)(hf:P.funcs[f]? =some fn)(hb:fn.body=some c)(hr:fn.results.toList=rs)(hl:Nat.ble args.length fn.ntmps=true)
 (hw:Wp C (KL P C) {f,π,raw:=false,bi:=none,nt:=fn.ntmps} 0 c ⟨Dp 0 args,[],0,[]⟩ (Qn C none rs π false fun o' h'=>Post (zT (o',h')))): ∃r,BU (KL P C) f args π=.ok r∧Post r:=by
 obtain⟨o',h',e,h2⟩:=Af hg hf hb hr hl hw;unfold BU;rw[e];exact⟨_,rfl,h2⟩
end Go.Abs
namespace Go.Abs
variable{C:B9}{K:AK}{fr:Fr}{bl:Nat}{Q:DW→St→Prop}
end Go.Abs
namespace Go.Abs
variable{P:Program}{C:B9}{K:AK}{fr:Fr}{b n i:Nat}{Q:DW→St→Prop}
variable{ops:Array Oper}{al:Nat→Bool}{l:List Oper}{e:BT}{h:AB}{bs:Nat}{ds:List Df}{ps:List (Nat×Nat)}{fps:List Fp}{ρ:List Nat}{dst:Option Tmp}
def AAa(C:B9)(K:AK)(fr:Fr)(ops:Array Oper)(b n:Nat)(al:Nat→Bool)(l:List Oper)(i:Nat)(dst:Option Tmp)(ρ:List Nat)(e:BT)(h:AB)(bs:Nat)(ds:List Df)(Q:DW→St→Prop)(args:List AV)(v:AV):Option FuncId→Prop
 |some f=>QW C K fr ops b n al l i dst ρ e h bs ds Q args (.fn f [v] [])
 |none=>False
def ADi(C:B9)(K:AK)(fr:Fr)(ops:Array Oper)(b n:Nat)(al:Nat→Bool)(l:List Oper)(i:Nat)(dst:Option Tmp)(ρ:List Nat)(e:BT)(h:AB)(bs:Nat)(ds:List Df)(Q:DW→St→Prop)(m:String)(args:List AV):AV→Prop
 |.iface t v=>AAa C K fr ops b n al l i dst ρ e h bs ds Q args v (C.wp t m)
 |_=>False
theorem bD(m:String)(args:List AV)(t:TypeId)(v:AV):ADi C K fr ops b n al l i dst ρ e h bs ds Q m args (.iface t v)=AAa C K fr ops b n al l i dst ρ e h bs ds Q args v (C.wp t m):=rfl
theorem kr(args:List AV)(v:AV)(f:FuncId):AAa C K fr ops b n al l i dst ρ e h bs ds Q args v (some f)=QW C K fr ops b n al l i dst ρ e h bs ds Q args (.fn f [v] []):=rfl
def AAZ(C:B9)(K:AK)(fr:Fr)(ops:Array Oper)(b n:Nat)(al:Nat→Bool)(ps:List (Nat×Nat))(fps:List Fp)(l:List Oper)(i:Nat)(dst:Option Tmp)(ρ:List Nat)(e:BT)(h:AB)(bs:Nat)(ds:List Df)(Q:DW→St→Prop)(args:List AV)(v:AV):Option FuncId→Prop
 |some f=>We C K fr ops b n al ps fps l i dst ρ e h bs ds Q args (.fn f [v] [])
 |none=>False
def AAT(C:B9)(K:AK)(fr:Fr)(ops:Array Oper)(b n:Nat)(al:Nat→Bool)(ps:List (Nat×Nat))(fps:List Fp)(l:List Oper)(i:Nat)(dst:Option Tmp)(ρ:List Nat)(e:BT)(h:AB)(bs:Nat)(ds:List Df)(Q:DW→St→Prop)(m:String)(args:List AV):AV→Prop
 |.iface t v=>AAZ C K fr ops b n al ps fps l i dst ρ e h bs ds Q args v (C.wp t m)
 |_=>False
theorem po(r:Operand)(m:String)(az:Array Operand)(ts:Array TypeId):Bd C K fr ops b n al ps fps l i Q (Ay C K fr ρ (.call ⟨.invoke r m,az,ts⟩) dst ⟨e,h,bs,ds⟩)=AAT C K fr ops b n al ps fps l i dst ρ e h bs ds Q m (az.toList.map (ev e.get)) (ev e.get r):=by
 simp only[Ay];cases ev e.get r with
 |iface t v=>
  simp only[FE,AAT];cases C.wp t m with
  |none=>rfl
  |some f=>rfl
 |_=>rfl
theorem bC(m:String)(args:List AV)(t:TypeId)(v:AV):AAT C K fr ops b n al ps fps l i dst ρ e h bs ds Q m args (.iface t v)=AAZ C K fr ops b n al ps fps l i dst ρ e h bs ds Q args v (C.wp t m):=rfl
theorem kq(args:List AV)(v:AV)(f:FuncId):AAZ C K fr ops b n al ps fps l i dst ρ e h bs ds Q args v (some f)=We C K fr ops b n al ps fps l i dst ρ e h bs ds Q args (.fn f [v] []):=rfl
def Rq(C:B9)(K:AK)(fr:Fr)(ops:Array Oper)(b n:Nat)(al:Nat→Bool)(ps:List (Nat×Nat))(fps:List Fp)(l:List Oper)(i:Nat)(dst:Option Tmp)(ρ:List Nat)(e:BT)(h:AB)(bs:Nat)(ds:List Df)(Q:DW→St→Prop):E (AZ×AB)→Prop
 |.ok (.ret v,h')=>Fo C K fr ops b n al ps (fps++[⟨none,some (TL h (gc ρ h'))⟩]) l (i+1) ⟨B8 e dst v,gc ρ h',bs,ds⟩ Q
 |.ok (.f9 v,h')=>al i=true∧DE fps ps=true∧Q (.f9 v) ⟨e,gc ρ h',b+n,ds⟩
 |.err _=>False
theorem mu(dst:Option Tmp)(ρ:List Nat)(r:E (AZ×AB)):Bd C K fr ops b n al ps fps l i Q (De ρ dst ⟨e,h,bs,ds⟩ r)=Rq C K fr ops b n al ps fps l i dst ρ e h bs ds Q r:=by
 cases r with
 |err l=>rfl
 |ok r=>
  obtain⟨o,h'⟩:=r;cases o<;>simp only[De,Aw,Aa,Bd,Rq]
theorem su(dst:Option Tmp)(ρ:List Nat)(v:AV)(h':AB):Rq C K fr ops b n al ps fps l i dst ρ e h bs ds Q (.ok (.ret v,h'))=Fo C K fr ops b n al ps (fps++[⟨none,some (TL h (gc ρ h'))⟩]) l (i+1) ⟨B8 e dst v,gc ρ h',bs,ds⟩ Q:=rfl
theorem sr(dst:Option Tmp)(ρ:List Nat)(v:AV)(h':AB):Rq C K fr ops b n al ps fps l i dst ρ e h bs ds Q (.ok (.f9 v,h'))=(al i=true∧DE fps ps=true∧Q (.f9 v) ⟨e,gc ρ h',b+n,ds⟩):=rfl
theorem kx(dst:Option Tmp)(ρ:List Nat)(f:FuncId)(az:List AV):KZ C K fr ops b n al ps fps l i dst ρ e h bs ds Q f az .raw=Rq C K fr ops b n al ps fps l i dst ρ e h bs ds Q (K (.fn f) az h ρ true fr.bi):=by
 simp only[KZ,C5,mu]
variable{dst:Option Tmp}
theorem Ew{Post:AZ→AB→Prop}{ρ:List Nat}{q:E (AZ×AB)}(hk: ∃o h',q=.ok (o,h')∧Post o h')(hn: ∀o h',Post o h'→Rq C K fr ops b n al ps fps l i dst ρ e h bs ds Q (.ok (o,h'))):Rq C K fr ops b n al ps fps l i dst ρ e h bs ds Q q:=by
 obtain⟨o,h',e,hp⟩:=hk;rw[e];exact hn o h' hp
theorem bk(dst:Option Tmp)(ρ:List Nat)(f:FuncId)(az:List AV)(hx:(DQ h.get az).isNone):KZ C K fr ops b n al ps fps l i dst ρ e h bs ds Q f az .auto=(JS fr.bi (az.flatMap (mark h.get))=true∧Rq C K fr ops b n al ps fps l i dst ρ e h bs ds Q (K (.fn f) (LV h.get az) (h.puts (az.flatMap (mark h.get))) ρ true fr.bi)):=by
 have hx:DQ h.get az=none:=by simpa using hx
 simp only[KZ,C5,hx,Ea,A3,BO,Aa];cases hw:JS fr.bi (az.flatMap (mark h.get))with
 |true=>
  simp only[Rt];cases K (.fn f) (LV h.get az) (h.puts (az.flatMap (mark h.get))) ρ true fr.bi with
  |err l=>rfl
  |ok r=>
   obtain⟨o,h'⟩:=r;cases o<;>simp only[De,Aw,Aa,Bd,Rq]
 |false=>simp[Bd]
variable{az:List AV}
theorem Vl{v:AV}{p:Prop} [Decidable p](h1: ¬p→C2 C K fr ops b n al l i az dst e h bs ds Q (Bf v true))(h2:p→C2 C K fr ops b n al l i az dst e h bs ds Q (Bf v false)):C2 C K fr ops b n al l i az dst e h bs ds Q (Bf v (!decide p)):=by
 by_cases hp:p
 .rw[D7 hp];exact h2 hp
 .rw[D4 hp];exact h1 hp
theorem Vk{v:AV}{p:Prop} [Decidable p](h1: ¬p→C1 C K fr ops b n al ps fps l i az dst e h bs ds Q (Bf v true))(h2:p→C1 C K fr ops b n al ps fps l i az dst e h bs ds Q (Bf v false)):C1 C K fr ops b n al ps fps l i az dst e h bs ds Q (Bf v (!decide p)):=by
 by_cases hp:p
 .rw[D7 hp];exact h2 hp
 .rw[D4 hp];exact h1 hp
theorem dH{v:AV}{t:Bool}(h1:t=true→C1 C K fr ops b n al ps fps l i az dst e h bs ds Q (Bf v true))(h2:t=false→C1 C K fr ops b n al ps fps l i az dst e h bs ds Q (Bf v false)):C1 C K fr ops b n al ps fps l i az dst e h bs ds Q (Bf v t):=by
 cases t
 .exact h2 rfl
 .exact h1 rfl
theorem Yr{v:AV}{p:Prop} [Decidable p](h1:p→C1 C K fr ops b n al ps fps l i az dst e h bs ds Q (Bf v true))(h2: ¬p→C1 C K fr ops b n al ps fps l i az dst e h bs ds Q (Bf v false)):C1 C K fr ops b n al ps fps l i az dst e h bs ds Q (Bf v (decide p)):=by
 by_cases hp:p
 .rw[D7 hp];exact h1 hp
 .rw[D4 hp];exact h2 hp
theorem Zf(a b:List Id):Abs.apart (some a) (some b)=a.all fun x=>b.all fun y=> !Id.is x y:=by
 have key: ∀(x:Id) (m:List Id),(!m.contains x)=m.all fun y=> !Id.is x y:=fun x m=>by
  rw[OP];simp only[GS,Ce];constructor
  .intro h y hy;exact AE fun e=>by subst e;simp[hy]at h
  .intro h;cases hc:m.contains x with
   |false=>rfl
   |true=>
    have:=h x (by simpa using hc);rw[is_self]at this;cases this
 unfold Abs.apart;split
 .rename_i h;cases h;rfl
 .rename_i h1 h2;cases h1;simp
 .rename_i h1 h2;cases h1;cases h2;simp only[key]
 .simp_all
theorem FM(ρ:List Nat)(h:AB)(l:Id):AB.get (gc ρ h) (1::l)=AB.get h (1::l):=Q4 (fun id=>match id with|0::l=> !Id.under ρ l|_=>true) h (1::l) rfl
theorem er(a b:AB)(id:Id):AB.get (a++b) id=(match AB.get a id with|some o=>some o|none=>AB.get b id):=by
 induction a with
 |nil=>rfl
 |cons p a ih=>
  obtain⟨k,x⟩:=p;rw[Ge,BL,BL];split
  .rfl
  .exact ih
variable{a b:AB}
theorem BH{id:Id}(h:AB.get a id=none):AB.get (a++b) id=AB.get b id:=by rw[er,h]
theorem Cx{id:Id}{o:Obj}(h:AB.get a id=some o):AB.get (a++b) id=some o:=by rw[er,h]
theorem qB(g:G)(f:FuncId)(a:List AV)(x:AV)(c:List AV):Dz g (.fn f a (x::c))=none:=by cases a<;>rfl
attribute [go_sem] FM qB
attribute [go_sem] Zf bD kr po bC kq su sr kx bk UK UJ
attribute [go_sem_proc] Nat.reduceEqDiff Nat.reduceAdd Nat.reduceSub Nat.reduceBEq Nat.reduceLeDiff Nat.reduceLT reduceCtorEq Int.reduceEq Int.reduceLT Int.reduceLE Int.reduceNeg Int.reduceToNat Int.reduceAdd Int.reduceSub
attribute [go_sem_proc ↓] reduceIte
attribute [go_sem] Int.cast_ofNat_Int Int.zero_add Nat.le_refl
class Sp(G:Prop)(P N A B:outParam Prop):Prop where
 go:(P→A)→(N→B)→G
theorem sx{G P N A B:Prop} [s:Sp G P N A B](h1:P→A)(h2:N→B):G:=s.go h1 h2
class Sq(G:Prop)(α:outParam Type)(H:outParam Prop)(R M A:outParam (α→Prop)):Prop where
 go:H→(∀x,R x→M x→A x)→G
theorem sy{G:Prop}{α:Type}{H:Prop}{R M A:α→Prop} [s:Sq G α H R M A](h1:H)(h2: ∀x,R x→M x→A x):G:=s.go h1 h2
theorem au{G:Prop}(h:G:=by(repeat' (first|simp only[go_sem, *]|(refine sx ?_ ?_<;>intro hc)|refine sy (by omega) fun x hx hm=>?_|simp(disch:=first|assumption|omega) only[wrap_id,Oe,Nm,slice_int]))):G:=h
theorem af{G:Prop}(h:G:=by(repeat' (first|simp only[go_sem, *,AM]|(refine sx ?_ ?_<;>intro hc)|refine sy (by omega) fun x hx hm=>?_|simp(disch:=first|assumption|omega) only[wrap_id,Oe,Nm,slice_int]))):G:=h
variable{R:Prop}
theorem aw{G:Prop}(h:R)(e:AA R→G:=by intro q;(repeat' (first|simp only[go_sem, *]|(refine sx ?_ ?_<;>intro hc)|refine sy (by omega) fun x hx hm=>?_|simp(disch:=first|assumption|omega) only[wrap_id,Oe,Nm,slice_int]));exact q.out):G:=e ⟨h⟩
theorem ax{G:Prop}(h:R)(e:AA R→G:=by intro q;(repeat' (first|simp only[go_sem, *,AM]|(refine sx ?_ ?_<;>intro hc)|refine sy (by omega) fun x hx hm=>?_|simp(disch:=first|assumption|omega) only[wrap_id,Oe,Nm,slice_int]));exact q.out):G:=e ⟨h⟩
variable{C:B9}{K:AK}{fr:Fr}{b n i:Nat}{Q:DW→St→Prop}
variable{ops:Array Oper}{al:Nat→Bool}{l:List Oper}{e:BT}{h:AB}{bs:Nat}{ds:List Df}{ps:List (Nat×Nat)}{fps:List Fp}{dst:Option Tmp}{st:St}{op:Op}{want:Bool}{az:List AV}{v:AV}{t:Bool}{p:Prop}{x y:Code}
instance(priority:=2000) [Decidable p]:Sp (Kr C K fr b x y st Q (.d (.bool (decide p)))) p (¬p) (Wp C K fr b x st Q) (Wp C K fr b y st Q):=⟨gM⟩
instance(priority:=2000) [Decidable p]:Sp (Cy C K fr ops b n al l i dst op st want Q (.d (.bool (decide p)))) p (¬p) (Cy C K fr ops b n al l i dst op st want Q (.d (.bool true))) (Cy C K fr ops b n al l i dst op st want Q (.d (.bool false))):=⟨ao⟩
instance:Sp (Kr C K fr b x y st Q (.d (.bool t))) (t=true) (t=false) (Wp C K fr b x st Q) (Wp C K fr b y st Q):=⟨W7⟩
instance:Sp (Cy C K fr ops b n al l i dst op st want Q (.d (.bool t))) (t=true) (t=false) (Cy C K fr ops b n al l i dst op st want Q (.d (.bool true))) (Cy C K fr ops b n al l i dst op st want Q (.d (.bool false))):=⟨VN⟩
instance(priority:=2000) [Decidable p]:Sp (DK C K fr ops b n al ps fps l i dst op st want Q (.d (.bool (decide p)))) p (¬p) (DK C K fr ops b n al ps fps l i dst op st want Q (.d (.bool true))) (DK C K fr ops b n al ps fps l i dst op st want Q (.d (.bool false))):=⟨a8⟩
instance:Sp (DK C K fr ops b n al ps fps l i dst op st want Q (.d (.bool t))) (t=true) (t=false) (DK C K fr ops b n al ps fps l i dst op st want Q (.d (.bool true))) (DK C K fr ops b n al ps fps l i dst op st want Q (.d (.bool false))):=⟨VO⟩
instance(priority:=2000) [Decidable p]:Sp (C2 C K fr ops b n al l i az dst e h bs ds Q (Bf v (decide p))) p (¬p) (C2 C K fr ops b n al l i az dst e h bs ds Q (Bf v true)) (C2 C K fr ops b n al l i az dst e h bs ds Q (Bf v false)):=⟨Ys⟩
instance(priority:=2000) [Decidable p]:Sp (C2 C K fr ops b n al l i az dst e h bs ds Q (Bf v (!decide p))) (¬p) p (C2 C K fr ops b n al l i az dst e h bs ds Q (Bf v true)) (C2 C K fr ops b n al l i az dst e h bs ds Q (Bf v false)):=⟨Vl⟩
instance:Sp (C2 C K fr ops b n al l i az dst e h bs ds Q (Bf v t)) (t=true) (t=false) (C2 C K fr ops b n al l i az dst e h bs ds Q (Bf v true)) (C2 C K fr ops b n al l i az dst e h bs ds Q (Bf v false)):=⟨dK⟩
instance(priority:=2000) [Decidable p]:Sp (C1 C K fr ops b n al ps fps l i az dst e h bs ds Q (Bf v (decide p))) p (¬p) (C1 C K fr ops b n al ps fps l i az dst e h bs ds Q (Bf v true)) (C1 C K fr ops b n al ps fps l i az dst e h bs ds Q (Bf v false)):=⟨Yr⟩
instance(priority:=2000) [Decidable p]:Sp (C1 C K fr ops b n al ps fps l i az dst e h bs ds Q (Bf v (!decide p))) (¬p) p (C1 C K fr ops b n al ps fps l i az dst e h bs ds Q (Bf v true)) (C1 C K fr ops b n al ps fps l i az dst e h bs ds Q (Bf v false)):=⟨Vk⟩
instance:Sp (C1 C K fr ops b n al ps fps l i az dst e h bs ds Q (Bf v t)) (t=true) (t=false) (C1 C K fr ops b n al ps fps l i az dst e h bs ds Q (Bf v true)) (C1 C K fr ops b n al ps fps l i az dst e h bs ds Q (Bf v false)):=⟨dH⟩
instance{α:Type}{f:α→List AR}{l':List α}{sz j:Nat}:Sq (BW C K fr ops b n al l i dst e h bs ds Q (RL sz (Option.map f l'[j]?))) α (j<l'.length) (fun x=>l'[j]? =some x) (fun x=>x∈l') (fun x=>BW C K fr ops b n al l i dst e h bs ds Q (RL sz (some (f x)))):=⟨fun h1 h2=>ly h1 fun x hx=>h2 x hx (Ac hx)⟩
instance{α:Type}{f:α→List AR}{l':List α}{sz j:Nat}{rd:List Id}:Sq (C8 C K fr ops b n al ps fps l i dst e h bs ds Q rd (RL sz (Option.map f l'[j]?))) α (j<l'.length) (fun x=>l'[j]? =some x) (fun x=>x∈l') (fun x=>C8 C K fr ops b n al ps fps l i dst e h bs ds Q rd (RL sz (some (f x)))):=⟨fun h1 h2=>lv h1 fun x hx=>h2 x hx (Ac hx)⟩
instance{s:ByteArray}{j:Nat}{f:UInt8→Br}:Sq (BW C K fr ops b n al l i dst e h bs ds Q (Option.map f s.data.toList[j]?)) UInt8 (j<s.data.toList.length) (fun x=>s.data.toList[j]? =some x) (fun x=>x∈s.data.toList) (fun x=>BW C K fr ops b n al l i dst e h bs ds Q (some (f x))):=⟨fun h1 h2=>l6 h1 fun x hx=>h2 x hx (Ac hx)⟩
theorem Pe(sz:Nat)(es:List (List AR))(h: ∀e∈es,e.length=sz):EY sz (es.map fun e=>e.map .d)=true:=by
 induction es with
 |nil=>rfl
 |cons e es ih=>
  rw[El,Ho,ih fun e he=>h e (FD _ he)];simp[h e (by simp),AV.isCell]
theorem Lb(g:G)(newId:Id)(j:TI)(s:AV)(es:List (List AR))(h0:0<j.size)(h: ∀e∈es,e.length=j.size)(hn:es≠ [])(hl:es.length≤Az):Pn g newId j s (some (es.map fun e=>e.map .d))=appTo g newId j s (es.map fun e=>e.map .d):=by
 cases es with
 |nil=>exact absurd rfl hn
 |cons e es=>
  have hs:=Pe j.size (e::es) h;rw[El]at hs⊢;rw[S4,hs];have:(e.map AV.d::es.map fun e=>e.map AV.d).length≤Az:=by simpa using hl
  simp only[this,h0,decide_true,OF,S3]
theorem PX(g:G)(newId:Id)(j:TI)(es:List (List AR))(hm:j.mix=false)(h0:0<j.size)(h: ∀e∈es,e.length=j.size)(hl:es.length≤Az):newArr g newId j (es.map fun e=>e.map .d)=some ⟨.f8 (1::newId) 0 es.length,[(1::newId,.d7 j.size es)]⟩:=by
 have h1:((es.map fun e=>e.map AV.d).all fun e=>e.length==j.size&&e.all AV.isCell)=true:=by
  rw[M0];exact Pe _ _ h
 have h2:Nat.blt 0 j.size=true:=by rw[Rs];exact h0
 have h3:Nat.ble es.length Az=true:=On hl;unfold newArr;rw[h1];simp only[BY,h2,h3,OF,hm,IU,HF,D8]
theorem eO(g:G)(newId:Id)(j:TI)(es:List (List AR))(hm:j.mix=false)(h0:0<j.size)(h: ∀e∈es,e.length=j.size)(hn:es≠ [])(hl:es.length≤Az):Pn g newId j .emp (some (es.map fun e=>e.map .d))=some ⟨.f8 (1::newId) 0 es.length,[(1::newId,.d7 j.size es)]⟩:=by
 rw[Lb g newId j .emp es h0 h hn hl];exact PX g newId j es hm h0 h hl
end Go.Abs
namespace Go.Proofs
open Go Go.Abs
theorem T3:cfg.T 3=(.some ⟨.int,1,false,false,[(.d (.int .i64 0))],[],0,0,false⟩):=by kernel_rfl
theorem T4:cfg.T 4=(.some ⟨.bool,1,false,false,[(.d (.bool false))],[],0,0,false⟩):=by kernel_rfl
theorem T5:cfg.T 5=(.some ⟨.int,1,false,false,[(.d (.int .u8 0))],[],0,0,false⟩):=by kernel_rfl
theorem T9:cfg.T 9=(.some ⟨.str,1,false,false,[(.d (.str ⟨#[]⟩))],[],0,0,false⟩):=by kernel_rfl
theorem T22:cfg.T 22=(.some ⟨.slice,1,false,false,[.co],[],9,0,false⟩):=by kernel_rfl
theorem T23:cfg.T 23=(.some ⟨.slice,1,false,false,[.co],[],140,0,false⟩):=by kernel_rfl
theorem T24:cfg.T 24=(.some ⟨.slice,1,false,false,[.co],[],147,0,false⟩):=by kernel_rfl
theorem T26:cfg.T 26=(.some ⟨.other,4,true,true,[.co,.co,.co,(.d (.int .i64 0))],[(0,1,false),(1,1,false),(2,1,false),(3,1,false)],0,0,false⟩):=by kernel_rfl
theorem T27:cfg.T 27=(.some ⟨.slice,1,false,false,[.co],[],66,0,false⟩):=by kernel_rfl
theorem T28:cfg.T 28=(.some ⟨.slice,1,false,false,[.co],[],114,0,false⟩):=by kernel_rfl
theorem T29:cfg.T 29=(.some ⟨.slice,1,false,false,[.co],[],69,0,false⟩):=by kernel_rfl
theorem T30:cfg.T 30=(.some ⟨.slice,1,false,false,[.co],[],127,0,false⟩):=by kernel_rfl
theorem T32:cfg.T 32=(.some ⟨.other,4,true,true,[.co,.co,.co,.co],[(0,1,false),(1,1,false),(2,1,false),(3,1,false)],0,0,false⟩):=by kernel_rfl
theorem T33:cfg.T 33=(.some ⟨.int,1,false,false,[(.d (.int .i64 0))],[],0,0,false⟩):=by kernel_rfl
theorem T36:cfg.T 36=(.some ⟨.slice,1,false,false,[.co],[],3,0,false⟩):=by kernel_rfl
theorem T38:cfg.T 38=(.some ⟨.other,4,true,true,[(.d (.int .i64 0)),(.d (.int .i64 0)),(.d (.int .i64 0)),.co],[(0,1,false),(1,1,false),(2,1,false),(3,1,false)],0,0,false⟩):=by kernel_rfl
theorem T44:cfg.T 44=(.some ⟨.slice,1,false,false,[.co],[],78,0,false⟩):=by kernel_rfl
theorem T57:cfg.T 57=(.some ⟨.arr 2,2,true,false,[.co,.co],[],36,0,false⟩):=by kernel_rfl
theorem T63:cfg.T 63=(.some ⟨.slice,1,false,false,[.co],[],38,0,false⟩):=by kernel_rfl
theorem T66:cfg.T 66=(.some ⟨(.flat [.int,.bool]),2,true,true,[(.d (.int .i64 0)),(.d (.bool false))],[(0,1,false),(1,1,false)],0,0,false⟩):=by kernel_rfl
theorem T67:cfg.T 67=(.some ⟨.slice,1,false,false,[.co],[],73,0,false⟩):=by kernel_rfl
theorem T69:cfg.T 69=(.some ⟨.other,4,true,true,[(.d (.int .i64 0)),(.d (.int .i64 0)),(.d (.int .i64 0)),.co],[(0,1,false),(1,1,false),(2,1,false),(3,1,false)],0,0,true⟩):=by kernel_rfl
theorem T71:cfg.T 71=(.some ⟨.slice,1,false,false,[.co],[],88,0,false⟩):=by kernel_rfl
theorem T73:cfg.T 73=(.some ⟨.other,1,true,true,[.co],[(0,1,false)],0,0,false⟩):=by kernel_rfl
theorem T76:cfg.T 76=(.some ⟨.int,1,false,false,[(.d (.int .i64 0))],[],0,0,false⟩):=by kernel_rfl
theorem T78:cfg.T 78=(.some ⟨.other,5,true,true,[(.d (.int .i64 0)),(.d (.int .i64 0)),(.d (.int .i64 0)),(.d (.int .i64 0)),.co],[(0,1,false),(1,1,false),(2,1,false),(3,1,false),(4,1,false)],0,0,false⟩):=by kernel_rfl
theorem T82:cfg.T 82=(.some ⟨.int,1,false,false,[(.d (.int .i64 0))],[],0,0,false⟩):=by kernel_rfl
theorem T83:cfg.T 83=(.some ⟨.slice,1,false,false,[.co],[],85,0,false⟩):=by kernel_rfl
theorem T85:cfg.T 85=(.some ⟨.other,3,true,true,[(.d (.int .i64 0)),(.d (.int .i64 0)),.co],[(0,1,false),(1,1,false),(2,1,false)],0,0,false⟩):=by kernel_rfl
theorem T86:cfg.T 86=(.some ⟨.int,1,false,false,[(.d (.int .i64 0))],[],0,0,false⟩):=by kernel_rfl
theorem T88:cfg.T 88=(.some ⟨(.flat [.int,.int]),2,true,true,[(.d (.int .i64 0)),(.d (.int .i64 0))],[(0,1,false),(1,1,false)],0,0,false⟩):=by kernel_rfl
theorem AC9:cfg.T 114=(.some ⟨.other,3,true,true,[(.d (.int .i64 0)),(.d (.int .i64 0)),.co],[(0,1,false),(1,1,false),(2,1,false)],0,0,false⟩):=by kernel_rfl
theorem ADA:cfg.T 118=(.some ⟨.ptr,1,false,false,[(.d .ut)],[],0,0,false⟩):=by kernel_rfl
theorem ADB:cfg.T 122=(.some ⟨.map,1,false,false,[(.d .rc)],[],198,138,false⟩):=by kernel_rfl
theorem ADE:cfg.T 124=(.some ⟨.other,13,true,true,[.co,.co,.co,.co,.co,.co,.co,(.d (.int .i64 0)),.co,.co,(.d .rc),.co,(.d (.int .i64 0))],[(0,4,true),(4,4,true),(8,1,false),(9,1,false),(10,1,false),(11,1,false),(12,1,false)],0,0,false⟩):=by kernel_rfl
theorem ADF:cfg.T 127=(.some ⟨.other,3,true,true,[(.d (.int .i64 0)),(.d (.int .i64 0)),.co],[(0,1,false),(1,1,false),(2,1,false)],0,0,false⟩):=by kernel_rfl
theorem ADG:cfg.T 138=(.some ⟨.int,1,false,false,[(.d (.int .i64 0))],[],0,0,false⟩):=by kernel_rfl
theorem ADH:cfg.T 140=(.some ⟨.other,4,true,true,[(.d (.int .i64 0)),(.d (.int .i64 0)),.co,.co],[(0,1,false),(1,1,false),(2,1,false),(3,1,false)],0,0,false⟩):=by kernel_rfl
theorem ADI:cfg.T 143=(.some ⟨.slice,1,false,false,[.co],[],187,0,false⟩):=by kernel_rfl
theorem ADJ:cfg.T 144=(.some ⟨.slice,1,false,false,[.co],[],189,0,false⟩):=by kernel_rfl
theorem ADK:cfg.T 145=(.some ⟨.slice,1,false,false,[.co],[],151,0,false⟩):=by kernel_rfl
theorem ADL:cfg.T 147=(.some ⟨.other,3,true,true,[.co,.co,.co],[(0,1,false),(1,1,false),(2,1,false)],0,0,false⟩):=by kernel_rfl
theorem ADM:cfg.T 151=(.some ⟨.other,3,true,true,[(.d (.int .i64 0)),.co,(.d (.int .i64 0))],[(0,1,false),(1,1,false),(2,1,false)],0,0,false⟩):=by kernel_rfl
theorem ADN:cfg.T 177=(.some ⟨(.flat [.int]),1,true,true,[(.d (.int .i64 0))],[(0,1,false)],0,0,false⟩):=by kernel_rfl
theorem ADO:cfg.T 180=(.some ⟨.func,1,false,false,[(.d .i9)],[],0,0,false⟩):=by kernel_rfl
theorem ADP:cfg.T 187=(.some ⟨(.flat [.int,.int]),2,true,true,[(.d (.int .i64 0)),(.d (.int .i64 0))],[(0,1,false),(1,1,false)],0,0,false⟩):=by kernel_rfl
theorem ADQ:cfg.T 189=(.some ⟨(.flat [.int,.int]),2,true,true,[(.d (.int .i64 0)),(.d (.int .i64 0))],[(0,1,false),(1,1,false)],0,0,false⟩):=by kernel_rfl
theorem ADR:cfg.T 198=(.some ⟨.func,1,false,false,[(.d .i9)],[],0,0,false⟩):=by kernel_rfl
theorem ADS:cfg.T 201=(.some ⟨.other,3,true,true,[(.d (.int .i64 0)),(.d (.int .i64 0)),.co],[(0,1,false),(1,1,false),(2,1,false)],0,0,false⟩):=by kernel_rfl
theorem ADT:cfg.T 246=(.some ⟨.slice,1,false,false,[.co],[],4,0,false⟩):=by kernel_rfl
theorem ADU:cfg.T 248=(.some ⟨.other,7,true,true,[.co,.co,.co,(.d (.int .i64 0)),.co,.co,.co],[(0,4,true),(4,1,false),(5,1,false),(6,1,false)],0,0,false⟩):=by kernel_rfl
theorem ADV:cfg.T 249=(.some ⟨.func,1,false,false,[(.d .i9)],[],0,0,false⟩):=by kernel_rfl
theorem ADW:cfg.T 289=(.some ⟨(.flat [.int]),1,true,true,[(.d (.int .i64 0))],[(0,1,false)],0,0,false⟩):=by kernel_rfl
theorem zj:cfg.T 300=(.some ⟨.map,1,false,false,[(.d .rc)],[],4,9,false⟩):=by kernel_rfl
theorem ADX:cfg.T 303=(.some ⟨.iface,1,false,false,[(.d .lc)],[],0,0,false⟩):=by kernel_rfl
theorem ADY:cfg.T 307=(.some ⟨(.flat []),0,true,true,[],[],0,0,false⟩):=by kernel_rfl
theorem ADZ:cfg.T 308=(.some ⟨(.flat []),0,true,true,[],[],0,0,false⟩):=by kernel_rfl
theorem ADa:cfg.T 309=(.some ⟨(.flat []),0,true,true,[],[],0,0,false⟩):=by kernel_rfl
theorem ADb:cfg.T 310=(.some ⟨(.flat []),0,true,true,[],[],0,0,false⟩):=by kernel_rfl
theorem ADe:cfg.T 311=(.some ⟨.func,1,false,false,[(.d .i9)],[],0,0,false⟩):=by kernel_rfl
theorem ADf:cfg.T 314=(.some ⟨.int,1,false,false,[(.d (.int .i64 0))],[],0,0,false⟩):=by kernel_rfl
theorem zk:cfg.T 315=(.some ⟨.map,1,false,false,[(.d .rc)],[],4,3,false⟩):=by kernel_rfl
theorem sX:cfg.d8 6 4=[(0,1),(0,2),(0,4),(3,4),(0,5),(3,5)]:=by kernel_rfl
theorem AAd:cfg.mode 20=.auto:=by kernel_rfl
theorem AAe:cfg.mode 23=.auto:=by kernel_rfl
theorem lN:cfg.d8 23 6=[]:=by kernel_rfl
theorem cc:cfg.d8 23 11=[]:=by kernel_rfl
theorem cd:cfg.d8 23 16=[]:=by kernel_rfl
theorem cf:cfg.d8 23 21=[]:=by kernel_rfl
theorem rB:cfg.live 23 0=[2,3,5]:=by kernel_rfl
theorem rE:cfg.live 23 2=[2,3,6]:=by kernel_rfl
theorem rF:cfg.live 23 4=[2,3,7]:=by kernel_rfl
theorem rH:cfg.live 23 6=[2,3,8]:=by kernel_rfl
theorem AAf:cfg.mode 24=.auto:=by kernel_rfl
theorem lO:cfg.d8 24 6=[]:=by kernel_rfl
theorem rI:cfg.live 24 0=[0,1,5]:=by kernel_rfl
theorem AAg:cfg.mode 25=.auto:=by kernel_rfl
theorem cg:cfg.d8 25 11=[(7,8)]:=by kernel_rfl
theorem rJ:cfg.live 25 0=[6,7,8,9,19,20,21]:=by kernel_rfl
theorem AAh:cfg.mode 30=.auto:=by kernel_rfl
theorem AAi:cfg.mode 37=.auto:=by kernel_rfl
theorem lP:cfg.d8 37 6=[]:=by kernel_rfl
theorem rK:cfg.live 37 0=[0,1,5]:=by kernel_rfl
theorem AAj:cfg.mode 51=.own:=by kernel_rfl
theorem lQ:cfg.d8 52 9=[]:=by kernel_rfl
theorem cj:cfg.d8 52 12=[(4,9)]:=by kernel_rfl
theorem ck:cfg.d8 52 17=[(5,9)]:=by kernel_rfl
theorem rL:cfg.live 52 0=[0,3,13,18,19,20,102,103,104,105,106,107,108,109]:=by kernel_rfl
theorem rM:cfg.live 52 2=[0,3,13,40,41,42,102,103,104,105,106,107,108,109]:=by kernel_rfl
theorem rN:cfg.live 52 4=[0,3,6,7,13,40,41,42,56,57,58,102,103,104,105,106,107,108,109]:=by kernel_rfl
theorem rP:cfg.live 52 6=[0,3,6,7,8,10,13,40,41,42,56,57,58,77,78,79,102,103,104,105,106,107,108,109]:=by kernel_rfl
theorem AAk:cfg.mode 55=.auto:=by kernel_rfl
theorem lR:cfg.d8 55 4=[(4,9),(6,9),(7,9),(8,9)]:=by kernel_rfl
theorem lU:cfg.d8 55 5=[]:=by kernel_rfl
theorem lV:cfg.d8 55 6=[(4,9),(6,9),(7,9),(8,9)]:=by kernel_rfl
theorem cm:cfg.d8 55 11=[]:=by kernel_rfl
theorem cn:cfg.d8 55 12=[]:=by kernel_rfl
theorem cp:cfg.d8 55 14=[]:=by kernel_rfl
theorem cq:cfg.d8 55 15=[]:=by kernel_rfl
theorem Uq:cfg.alone 55 15 9=true:=by kernel_rfl
theorem AAl:cfg.mode 57=.auto:=by kernel_rfl
theorem lY:cfg.d8 57 6=[]:=by kernel_rfl
theorem rQ:cfg.live 57 0=[0,1,5]:=by kernel_rfl
theorem AAm:cfg.mode 58=.auto:=by kernel_rfl
theorem AAn:cfg.mode 59=.raw:=by kernel_rfl
theorem AAo:cfg.mode 61=.auto:=by kernel_rfl
theorem rR:cfg.live 61 0=[0,17,18]:=by kernel_rfl
theorem rU:cfg.live 61 2=[0,3,4,17,18]:=by kernel_rfl
theorem AAp:cfg.mode 62=.auto:=by kernel_rfl
theorem AAq:cfg.mode 63=.auto:=by kernel_rfl
theorem rV:cfg.live 63 0=[0,1,2]:=by kernel_rfl
theorem AAr:cfg.mode 65=.own:=by kernel_rfl
theorem lZ:cfg.d8 65 3=[(0,5)]:=by kernel_rfl
theorem la:cfg.d8 65 8=[]:=by kernel_rfl
theorem rY:cfg.live 65 0=[3,5,25,26,27]:=by kernel_rfl
theorem AAs:cfg.mode 66=.auto:=by kernel_rfl
theorem lf:cfg.d8 66 2=[]:=by kernel_rfl
theorem AAt:cfg.mode 75=.auto:=by kernel_rfl
theorem lg:cfg.d8 75 6=[(5,8),(6,8),(5,9),(6,9),(5,10),(6,10)]:=by kernel_rfl
theorem AAu:cfg.mode 91=.ro:=by kernel_rfl
theorem lh:cfg.d8 91 5=[]:=by kernel_rfl
theorem cr:cfg.d8 91 11=[]:=by kernel_rfl
theorem ct:cfg.d8 91 13=[]:=by kernel_rfl
theorem cu:cfg.d8 91 14=[(4,9),(6,9),(7,9),(8,9)]:=by kernel_rfl
theorem cv:cfg.d8 91 30=[(12,17)]:=by kernel_rfl
theorem cw:cfg.d8 91 31=[]:=by kernel_rfl
theorem cy:cfg.d8 91 38=[]:=by kernel_rfl
theorem cz:cfg.d8 91 45=[]:=by kernel_rfl
theorem c9:cfg.d8 91 46=[]:=by kernel_rfl
theorem dA:cfg.d8 91 51=[]:=by kernel_rfl
theorem rZ:cfg.live 91 0=[0,65,66,67]:=by kernel_rfl
theorem ra:cfg.live 91 2=[0,4,5,92,93,94]:=by kernel_rfl
theorem rb:cfg.live 91 4=[0,4,5,6,7,8,9,92,93,94,155,156]:=by kernel_rfl
theorem re:cfg.live 91 6=[0,4,5,6,7,8,9,92,93,94,172,173]:=by kernel_rfl
theorem rf:cfg.live 91 8=[0,4,5,6,7,8,92,93,94,192,193,194]:=by kernel_rfl
theorem kF:cfg.live 91 10=[0,4,5,6,7,8,13,92,93,94,192,193,194,255,256,257]:=by kernel_rfl
theorem kG:cfg.live 91 12=[0,303,304,305]:=by kernel_rfl
theorem Ur:cfg.alone 91 5 15=true:=by kernel_rfl
theorem SQ:cfg.alone 91 11 14=true:=by kernel_rfl
theorem SR:cfg.alone 91 13 11=true:=by kernel_rfl
theorem SS:cfg.alone 91 30 20=true:=by kernel_rfl
theorem SU:cfg.alone 91 31 23=true:=by kernel_rfl
theorem SV:cfg.alone 91 45 27=true:=by kernel_rfl
theorem SW:cfg.alone 91 51 11=true:=by kernel_rfl
theorem AAv:cfg.mode 92=.own:=by kernel_rfl
theorem lj:cfg.d8 92 1=[(2,4),(2,7),(5,7),(2,10),(5,10),(8,10)]:=by kernel_rfl
theorem AAw:cfg.mode 93=.ro:=by kernel_rfl
theorem lk:cfg.d8 93 1=[(4,9),(6,9),(7,9),(8,9)]:=by kernel_rfl
theorem ll:cfg.d8 93 8=[]:=by kernel_rfl
theorem ln:cfg.d8 93 9=[]:=by kernel_rfl
theorem AAx:cfg.mode 94=.ro:=by kernel_rfl
theorem AAy:cfg.mode 95=.ro:=by kernel_rfl
theorem lq:cfg.d8 95 1=[(4,9),(6,9),(7,9),(8,9)]:=by kernel_rfl
theorem AAz:cfg.mode 96=.own:=by kernel_rfl
theorem xK:cfg.mode 100=.auto:=by kernel_rfl
theorem bz:cfg.d8 100 1=[(4,9),(6,9),(7,9),(8,9)]:=by kernel_rfl
theorem b9:cfg.d8 100 2=[(4,14),(6,14),(7,14),(9,14),(11,14),(12,14),(13,14)]:=by kernel_rfl
theorem cA:cfg.d8 100 7=[(4,8)]:=by kernel_rfl
theorem cB:cfg.d8 100 8=[]:=by kernel_rfl
theorem cC:cfg.d8 100 9=[]:=by kernel_rfl
theorem YT:cfg.d8 100 13=[(2,6),(2,8)]:=by kernel_rfl
theorem jR:cfg.live 100 0=[0,3,4,5,6,35,36,37]:=by kernel_rfl
theorem SK:cfg.alone 100 13 9=true:=by kernel_rfl
theorem xL:cfg.mode 101=.raw:=by kernel_rfl
theorem cD:cfg.d8 101 5=[]:=by kernel_rfl
theorem xM:cfg.mode 102=.auto:=by kernel_rfl
theorem cF:cfg.d8 102 8=[(0,7)]:=by kernel_rfl
theorem YU:cfg.d8 102 12=[]:=by kernel_rfl
theorem jS:cfg.live 102 0=[1,2,15,16]:=by kernel_rfl
theorem jT:cfg.live 102 2=[2,51,52,53]:=by kernel_rfl
theorem xN:cfg.mode 103=.auto:=by kernel_rfl
theorem cG:cfg.d8 103 0=[(4,10),(4,12)]:=by kernel_rfl
theorem xO:cfg.mode 107=.auto:=by kernel_rfl
theorem xP:cfg.mode 108=.raw:=by kernel_rfl
theorem xQ:cfg.mode 109=.auto:=by kernel_rfl
theorem xR:cfg.mode 110=.auto:=by kernel_rfl
theorem cH:cfg.d8 110 1=[(4,9),(6,9),(7,9),(8,9)]:=by kernel_rfl
theorem YV:cfg.d8 110 13=[]:=by kernel_rfl
theorem YW:cfg.d8 110 14=[]:=by kernel_rfl
theorem jU:cfg.live 110 0=[0,3,4,5,20,21,22]:=by kernel_rfl
theorem xT:cfg.mode 111=.auto:=by kernel_rfl
theorem cJ:cfg.d8 111 1=[]:=by kernel_rfl
theorem jV:cfg.live 111 0=[0,3,15,16,17]:=by kernel_rfl
theorem xU:cfg.mode 112=.auto:=by kernel_rfl
theorem cK:cfg.d8 112 1=[(4,9),(6,9),(7,9),(8,9)]:=by kernel_rfl
theorem cL:cfg.d8 112 2=[(4,9),(6,9),(7,9),(8,9)]:=by kernel_rfl
theorem cM:cfg.d8 112 3=[(1,6),(3,6),(1,8),(3,8),(5,8),(6,8)]:=by kernel_rfl
theorem cN:cfg.d8 112 7=[(1,11)]:=by kernel_rfl
theorem YX:cfg.d8 112 12=[(1,11)]:=by kernel_rfl
theorem YY:cfg.d8 112 17=[(5,17),(10,17),(11,17),(5,19)]:=by kernel_rfl
theorem YZ:cfg.d8 112 22=[(5,10),(5,12)]:=by kernel_rfl
theorem Ya:cfg.d8 112 24=[(5,7)]:=by kernel_rfl
theorem Yb:cfg.d8 112 31=[(2,7),(7,9)]:=by kernel_rfl
theorem Yc:cfg.d8 112 33=[]:=by kernel_rfl
theorem jW:cfg.live 112 0=[0,3,4,5,6,43,44]:=by kernel_rfl
theorem jX:cfg.live 112 2=[0,3,4,5,6,64,65]:=by kernel_rfl
theorem jY:cfg.live 112 4=[0,3,4,5,6,84,85,86]:=by kernel_rfl
theorem jZ:cfg.live 112 6=[0,3,4,5,6,117,118,119]:=by kernel_rfl
theorem jb:cfg.live 112 8=[0,3,4,6,175,176,177]:=by kernel_rfl
theorem QG:cfg.alone 112 31 10=true:=by kernel_rfl
theorem SL:cfg.alone 112 33 9=true:=by kernel_rfl
theorem xV:cfg.mode 113=.auto:=by kernel_rfl
theorem cP:cfg.d8 113 1=[(4,9),(6,9),(7,9),(8,9)]:=by kernel_rfl
theorem cQ:cfg.d8 113 2=[(2,9),(2,10),(2,12),(9,16),(10,16),(12,16),(9,18),(10,18),(12,18)]:=by kernel_rfl
theorem SM:cfg.alone 113 2 19=true:=by kernel_rfl
theorem xX:cfg.mode 114=.auto:=by kernel_rfl
theorem cR:cfg.d8 114 1=[(5,12),(7,12),(9,12),(5,14)]:=by kernel_rfl
theorem xY:cfg.mode 119=.auto:=by kernel_rfl
theorem xZ:cfg.mode 120=.auto:=by kernel_rfl
theorem xb:cfg.mode 146=.ro:=by kernel_rfl
theorem xc:cfg.mode 147=.ro:=by kernel_rfl
theorem jc:cfg.live 147 0=[0,13,14,15]:=by kernel_rfl
theorem xd:cfg.mode 148=.own:=by kernel_rfl
theorem je:cfg.live 148 0=[1,5,8,9,10]:=by kernel_rfl
theorem xe:cfg.mode 150=.own:=by kernel_rfl
theorem jf:cfg.live 150 0=[1,5,8,9,10]:=by kernel_rfl
theorem cT:cfg.d8 151 1=[(1,6),(3,6)]:=by kernel_rfl
theorem xf:cfg.mode 152=.own:=by kernel_rfl
theorem xg:cfg.mode 153=.own:=by kernel_rfl
theorem jg:cfg.live 153 0=[1,5,8,9,10]:=by kernel_rfl
theorem xh:cfg.mode 154=.own:=by kernel_rfl
theorem cU:cfg.d8 154 1=[(1,8),(3,8),(5,8)]:=by kernel_rfl
theorem xi:cfg.mode 155=.own:=by kernel_rfl
theorem xj:cfg.mode 156=.own:=by kernel_rfl
theorem jh:cfg.live 156 0=[1,5,8,9,10]:=by kernel_rfl
theorem cV:cfg.d8 157 1=[(1,6),(3,6)]:=by kernel_rfl
theorem cW:cfg.d8 158 4=[]:=by kernel_rfl
theorem jk:cfg.live 158 0=[0,1,3]:=by kernel_rfl
theorem jm:cfg.live 158 2=[0,1,3,4]:=by kernel_rfl
theorem xl:cfg.mode 159=.auto:=by kernel_rfl
theorem jo:cfg.live 159 0=[0,3,4]:=by kernel_rfl
theorem xm:cfg.mode 160=.own:=by kernel_rfl
theorem xp:cfg.mode 161=.raw:=by kernel_rfl
theorem cX:cfg.d8 161 5=[]:=by kernel_rfl
theorem xq:cfg.mode 162=.raw:=by kernel_rfl
theorem jq:cfg.live 162 0=[0,1,5,6]:=by kernel_rfl
theorem xr:cfg.mode 163=.ro:=by kernel_rfl
theorem cY:cfg.d8 163 1=[]:=by kernel_rfl
theorem xu:cfg.mode 165=.auto:=by kernel_rfl
theorem xv:cfg.mode 166=.auto:=by kernel_rfl
theorem xw:cfg.mode 180=.ro:=by kernel_rfl
theorem xx:cfg.mode 181=.own:=by kernel_rfl
theorem jr:cfg.live 181 0=[1,5,8,9,10]:=by kernel_rfl
theorem xy:cfg.mode 183=.own:=by kernel_rfl
theorem jt:cfg.live 183 0=[1,5,8,9,10]:=by kernel_rfl
theorem xz:cfg.mode 185=.ro:=by kernel_rfl
theorem ju:cfg.live 185 0=[0,1,7,8]:=by kernel_rfl
theorem yA:cfg.mode 186=.auto:=by kernel_rfl
theorem yB:cfg.mode 187=.auto:=by kernel_rfl
theorem jv:cfg.live 187 0=[0,2,5,9,10]:=by kernel_rfl
theorem yC:cfg.mode 190=.own:=by kernel_rfl
theorem cZ:cfg.d8 190 7=[(0,4),(4,6),(4,7),(0,8),(2,8),(3,8),(4,8),(4,10),(8,10),(4,11),(8,11),(0,12),(2,12),(3,12),(4,12),(6,12),(7,12),(8,12)]:=by kernel_rfl
theorem jw:cfg.live 190 0=[1,24,25,26]:=by kernel_rfl
theorem yD:cfg.mode 199=.auto:=by kernel_rfl
theorem yE:cfg.mode 200=.auto:=by kernel_rfl
theorem jx:cfg.live 200 0=[0,5,6]:=by kernel_rfl
theorem yF:cfg.mode 201=.auto:=by kernel_rfl
theorem ca:cfg.d8 201 1=[]:=by kernel_rfl
theorem cb:cfg.d8 201 4=[(4,7),(5,7)]:=by kernel_rfl
theorem Yd:cfg.d8 201 14=[]:=by kernel_rfl
theorem Ye:cfg.d8 201 25=[]:=by kernel_rfl
theorem Yf:cfg.d8 201 26=[(4,9),(6,9),(7,9),(8,9)]:=by kernel_rfl
theorem Yg:cfg.d8 201 32=[(2,6)]:=by kernel_rfl
theorem jy:cfg.live 201 1=[0,2,6,154,155,156]:=by kernel_rfl
theorem j4:cfg.live 201 3=[0,2,6,11,190,191,192]:=by kernel_rfl
theorem j5:cfg.live 201 5=[0,2,6,207,208,209]:=by kernel_rfl
theorem j6:cfg.live 201 7=[0,2,220,221,222]:=by kernel_rfl
theorem SO:cfg.alone 201 4 10=true:=by kernel_rfl
theorem QH:cfg.alone 201 14 25=true:=by kernel_rfl
theorem SN:cfg.alone 201 32 8=true:=by kernel_rfl
theorem yG:cfg.mode 202=.auto:=by kernel_rfl
theorem yH:cfg.mode 210=.own:=by kernel_rfl
theorem yI:cfg.mode 211=.auto:=by kernel_rfl
theorem yJ:cfg.mode 212=.auto:=by kernel_rfl
theorem yK:cfg.mode 213=.auto:=by kernel_rfl
theorem Yh:cfg.d8 213 23=[]:=by kernel_rfl
theorem j7:cfg.live 213 0=[1,2,31,32,33]:=by kernel_rfl
theorem j8:cfg.live 213 2=[1,2,52,53,54]:=by kernel_rfl
theorem j9:cfg.live 213 4=[1,2,7,72,73,74]:=by kernel_rfl
theorem kA:cfg.live 213 6=[1,2,7,9,72,73,74,94,95,96]:=by kernel_rfl
theorem QI:cfg.alone 213 23 29=true:=by kernel_rfl
theorem yL:cfg.mode 214=.auto:=by kernel_rfl
theorem yM:cfg.mode 215=.auto:=by kernel_rfl
theorem kB:cfg.live 215 0=[2,5,9,10,11]:=by kernel_rfl
theorem yN:cfg.mode 216=.auto:=by kernel_rfl
theorem kC:cfg.live 216 0=[0,1,7,8]:=by kernel_rfl
theorem yO:cfg.mode 217=.auto:=by kernel_rfl
theorem kD:cfg.live 217 1=[1,4,73,74,75]:=by kernel_rfl
theorem yP:cfg.mode 218=.auto:=by kernel_rfl
theorem yQ:cfg.mode 219=.auto:=by kernel_rfl
theorem yR:cfg.mode 220=.auto:=by kernel_rfl
theorem kE:cfg.live 220 0=[0,1,7,8]:=by kernel_rfl
theorem yS:cfg.mode 236=.auto:=by kernel_rfl
theorem yT:cfg.mode 237=.auto:=by kernel_rfl
theorem yU:cfg.mode 238=.auto:=by kernel_rfl
theorem yV:cfg.mode 239=.auto:=by kernel_rfl
theorem yW:cfg.mode 240=.auto:=by kernel_rfl
theorem ov:cfg.of 50=some 177:=Eq.trans (b:=cfg.of 50) rfl (by kernel_rfl)
theorem TE:cfg.of 189=some 289:=Eq.trans (b:=cfg.of 189) rfl (by kernel_rfl)
attribute [go_sem] T3 T4 T5 T9 T22 T23 T24 T26 T27 T28 T29 T30 T32 T33 T36 T38 T44 T57 T63 T66 T67 T69 T71 T73 T76 T78 T82 T83 T85 T86 T88 AC9 ADA ADB ADE ADF ADG ADH ADI ADJ ADK ADL ADM ADN ADO ADP ADQ ADR ADS ADT ADU ADV ADW zj ADX ADY ADZ ADa ADb ADe ADf zk sX AAd AAe lN cc cd cf rB rE rF rH AAf lO rI AAg cg rJ AAh AAi lP rK AAj lQ cj ck rL rM rN rP AAk lR lU lV cm cn cp cq Uq AAl lY rQ AAm AAn AAo rR rU AAp AAq rV AAr lZ la rY AAs lf AAt lg AAu lh cr ct cu cv cw cy cz c9 dA rZ ra rb re rf kF kG Ur SQ SR SS SU SV SW AAv lj AAw lk ll ln AAx AAy lq AAz xK bz b9 cA cB cC YT jR SK xL cD xM cF YU jS jT xN cG xO xP xQ xR cH YV YW jU xT cJ jV xU cK cL cM cN YX YY YZ Ya Yb Yc jW jX jY jZ jb QG SL xV cP cQ SM xX cR xY xZ xb xc jc xd je xe jf cT xf xg jg xh cU xi xj jh cV cW jk jm xl jo xm xp cX xq jq xr cY xu xv xw xx jr xy jt xz ju yA yB jv yC cZ jw yD yE jx yF ca cb Yd Ye Yf Yg jy j4 j5 j6 SO QH SN yG yH yI yJ yK Yh j7 j8 j9 kA QI yL yM kB yN kC yO kD yP yQ yR kE yS yT yU yV yW ov TE
inductive Bt where
 |mk (op n:Int) (kids:List Bt)
def Bt.op:Bt→Int|.mk o _ _=>o
def Bt.n:Bt→Int|.mk _ n _=>n
def Bt.kids:Bt→List Bt|.mk _ _ k=>k
structure CW where
 kind:Int
 n:Int
 deriving DecidableEq
structure CR where
 op:Int
 n:Int
 args:List Bt
 kids:List Int
structure HS where
 at_:Int
 many:Int
structure MG where
 un:Int
 node:Int
structure GX where
 at_:Int
 eq:List Int
 node:Int
structure CF where
 be:List HS
 ac:List MG
 rules:List GX
structure AI where
 free:List ByteArray
 nodes:List CR
 defs:List CF
 main:Int
structure A7 where
 un:Int
 dead:Bool
 deriving DecidableEq
structure Ak where
 ge:Int
 at_:Int
 env:List CW
structure Fg where
 group:Int
 index:Int
 at_:Int
 queue:List (List CW)
structure Fk where
 at_:Int
 node:Int
 env:List CW
structure A9 where
 ac:List A7
 bv:List Ak
 be:List Fg
 waits:List Fk
structure FU where
 wait:Int
 group:Int
 wd:Int
 picks:List Int
structure Du where
 deed:Int
 at_:Int
 n:Int
 m:Int
 kw:List CW
mutual
def Bp:Bt→List AR
 |.mk op n kids=>[.int .i64 op,.int .i64 n,.ce (Pt kids)]
def Pt:List Bt→List (List AR)
 |[]=>[]
 |x::l=>Bp x::Pt l
end
theorem Ql: ∀l,Pt l=l.map Bp
 |[]=>rfl
 |x::l=>by simp[Pt,Ql l]
theorem TR(x:Bt):Bp x=[.int .i64 x.op,.int .i64 x.n,.ce (x.kids.map Bp)]:=by
 cases x;simp[Bp,Ql,Bt.op,Bt.n,Bt.kids]
theorem Bt.ind{p:Bt→Prop}(h: ∀op n kids,(∀k∈kids,p k)→p (.mk op n kids)): ∀x,p x:=by
 intro x;refine Bt.rec (motive_1:=p) (motive_2:=fun l=> ∀k∈l,p k) (fun op n kids ih=>h op n kids ih) (by simp) (fun a l h1 h2 k hk=>?_) x;rcases DO.1 hk with rfl|hk
 .exact h1
 .exact h2 k hk
theorem Bt.op_mk(o n:Int)(k:List Bt):(Bt.mk o n k).op=o:=rfl
theorem Bt.n_mk(o n:Int)(k:List Bt):(Bt.mk o n k).n=n:=rfl
theorem Bt.kids_mk(o n:Int)(k:List Bt):(Bt.mk o n k).kids=k:=rfl
def AL(n:Int):List AR:=[.int .i64 n]
def CM(s:ByteArray):List AR:=[.str s]
def AJ(v:CW):List AR:=[.int .i64 v.kind,.int .i64 v.n]
def Bg(x:CR):List AR:=[.int .i64 x.op,.int .i64 x.n,.ce (x.args.map Bp),.ce (x.kids.map AL)]
def BJ(c:HS):List AR:=[.int .i64 c.at_,.int .i64 c.many]
def A6(s:MG):List AR:=[.int .i64 s.un,.int .i64 s.node]
def BG(r:GX):List AR:=[.int .i64 r.at_,.ce (r.eq.map AL),.int .i64 r.node]
def CX(d:CF):List AR:=[.ce (d.be.map BJ),.ce (d.ac.map A6),.ce (d.rules.map BG)]
def Aj(s:A7):List AR:=[.int .i64 s.un,.bool s.dead]
def A8(g:Ak):List AR:=[.int .i64 g.ge,.int .i64 g.at_,.ce (g.env.map AJ)]
def BF(m:List CW):List AR:=[.ce (m.map AJ)]
def Cm(c:Fg):List AR:=[.int .i64 c.group,.int .i64 c.index,.int .i64 c.at_,.ce (c.queue.map BF)]
def AO(w:Fk):List AR:=[.int .i64 w.at_,.int .i64 w.node,.ce (w.env.map AJ)]
def EG(x:Du):List AR:=[.int .i64 x.deed,.int .i64 x.at_,.int .i64 x.n,.int .i64 x.m,.ce (x.kw.map AJ)]
def EW(x:FU):List AR:=[.int .i64 x.wait,.int .i64 x.group,.int .i64 x.wd,.ce (x.picks.map AL)]
def vS(p:AI):List AR:=[.ce (p.free.map CM),.ce (p.nodes.map Bg),.ce (p.defs.map CX),.int .i64 p.main]
def z7(s:A9):List AR:=[.ce (s.ac.map Aj),.ce (s.bv.map A8),.ce (s.be.map Cm),.ce (s.waits.map AO)]
attribute [go_sem] TR AL CM AJ Bg BJ A6 BG CX Aj A8 BF Cm AO EG EW Bt.op_mk Bt.n_mk Bt.kids_mk
theorem slice_int{l:List Int}{g:G}{k:IntKind}{m:Int}(h0:0≤m)(hm:m≤l.length):ET g .slice 1 (.d (.ce (l.map AL))) none (some (.d (.int k m))) none=some (.d (.ce ((l.take m.toNat).map AL))):=dj (fun _=>rfl) h0 hm
def i64(n:Int):Prop:= -9223372036854775808≤n∧n<9223372036854775808
theorem wrap_id{n:Int}(h1: -9223372036854775808≤n)(h2:n<9223372036854775808):IntKind.i64.wrap n=n:=by
 have hb:IntKind.i64.bits=64:=rfl;have hs:IntKind.i64.signed=true:=rfl;simp only[IntKind.wrap,hb,hs,F1,Ap];have e1:(2 ^ 64:Int)=18446744073709551616:=by decide
 have e2:(2 ^ (64-1):Int)=9223372036854775808:=by decide
 rw[e1,e2];split<;>omega
def AN:=And.intro @wrap_id (And.intro @Oe (And.intro @Nm @slice_int))
end Go.Proofs
namespace Go.Proofs
open Go Go.Abs
def A5(l:List A7)(i:Int):Int:=((l[i.toNat]?).map A7.un).getD 0
def En(l:List A7)(i:Int):Prop:=0≤i∧i<l.length
instance(l:List A7)(i:Int):Decidable (En l i):=by unfold En;infer_instance
def BA(l:List A7):Nat→Int→Bool
 |0,at_=>decide (at_=0)
 |k+1,at_=>decide (at_=0)||(decide (En l (A5 l at_))&&BA l k (A5 l at_))
theorem FW(l:List A7)(k:Nat):BA l k 0=true:=by cases k<;>simp[BA]
theorem Qd(l:List A7): ∀(k:Nat) (i:Int),BA l k i=true→BA l (k+1) i=true
 |0,i,h=>by simp[BA]at h;subst h;exact FW _ _
 |k+1,i,h=>by
  rw[BA]at h⊢;by_cases h0:i=0
  .simp[h0]
  .simp only[h0,decide_false,It,AP]at h⊢;exact⟨h.1,Qd l k _ h.2⟩
variable{l:List A7}{k:Nat}
theorem Kq{i:Int}{m:Nat}(h:k≤m)(hc:BA l k i=true):BA l m i=true:=by
 induction h with
 |refl=>exact hc
 |step _ ih=>exact Qd l _ i ih
theorem se: ∀(n:Nat) (l:List Nat),l.Nodup→(∀x∈l,x<n)→l.length≤n
 |0,l,_,h=>by
  cases l with
  |nil=>simp
  |cons a l=>exact absurd (h a (by simp)) (by omega)
 |n+1,l,hn,h=>by
  have h1:=se n (l.erase n) (hn.erase n) (fun x hx=>by
   have hx2:=(List.Nodup.mem_erase_iff hn).1 hx;have:=h x hx2.2;omega)
  by_cases hm:n∈l
  .rw[List.length_erase_of_mem hm]at h1;omega
  .rw[List.erase_of_not_mem hm]at h1;omega
theorem Qc(l:List A7)(hl:0<l.length): ∀(k:Nat) (i:Int),En l i→BA l k i=true→(∀j,j<k→BA l j i=false)→ ∃p:List Nat,p.length=k+1∧p.Nodup∧(∀x∈p,x<l.length)∧ ∀x∈p,∃j,j≤k∧BA l j x=true∧ ∀m,m<j→BA l m x=false
 |0,i,hi,hc,hm=>⟨[0],rfl,by simp,by simp[hl],by
  intro x hx;cases As.1 hx;exact⟨0,D6 _,FW _ _,fun m hm=>by omega⟩⟩
 |k+1,i,hi,hc,hm=>by
  have h0: ¬i=0:=fun h=>by
   have:=hm 0 (by omega);rw[h,FW]at this;cases this
  have hc2:=hc;rw[BA]at hc2;simp only[h0,decide_false,It,AP,Ap]at hc2;obtain⟨p,hp1,hp2,hp3,hp4⟩:=Qc l hl k (A5 l i) hc2.1 hc2.2 (fun j hj=>by
   have:=hm (j+1) (by omega);rw[BA]at this;simp only[h0,decide_false,It,PL,RD]at this;rcases this with h|h
   .exact absurd hc2.1 h
   .exact h)
  refine⟨i.toNat::p,by simp[hp1],?_,?_,?_⟩
  .refine List.nodup_cons.2 ⟨fun hmem=>?_,hp2⟩;obtain⟨j,hj1,hj2,_⟩:=hp4 _ hmem;have hcast:((i.toNat:Nat):Int)=i:=OR hi.1;rw[hcast]at hj2;have:=hm j (by omega);rw[hj2]at this;cases this
  .intro x hx;rcases DO.1 hx with rfl|hx
   .have:=hi.1;have:=hi.2;omega
   .exact hp3 x hx
  .intro x hx;rcases DO.1 hx with rfl|hx
   .have hcast:((i.toNat:Nat):Int)=i:=OR hi.1;rw[hcast];exact⟨k+1,D6 _,hc,hm⟩
   .obtain⟨j,hj1,hj2⟩:=hp4 x hx;exact⟨j,by omega,hj2⟩
theorem TH{i:Int}: ∀{k:Nat},BA l k i=true→ ∃m,m≤k∧BA l m i=true∧ ∀j,j<m→BA l j i=false
 |0,h=>⟨0,D6 _,h,fun j hj=>by omega⟩
 |k+1,h=>by
  cases hk:BA l k i with
  |true=>
   obtain⟨m,h1,h2,h3⟩:=TH hk;exact⟨m,by omega,h2,h3⟩
  |false=>
   refine⟨k+1,D6 _,h,fun j hj=>?_⟩;cases hj2:BA l j i with
   |false=>rfl
   |true=>
    have:=Kq (show j≤k by omega) hj2;rw[hk]at this;cases this
theorem PE{i:Int}(hi:En l i)(h:BA l k i=true):BA l (l.length-1) i=true:=by
 have hl:0<l.length:=by have:=hi.1;have:=hi.2;omega
 obtain⟨m,_,h2,h3⟩:=TH h;obtain⟨p,hp1,hp2,hp3,_⟩:=Qc l hl m i hi h2 h3;have:=se l.length p hp2 hp3;exact Kq (by omega) h2
def IE(l:List A7):Nat→Nat→Bool
 |_,0=>true
 |i,n+1=>BA l l.length i&&IE l (i+1) n
def Iu(l:List A7):Bool:=decide (0<l.length)&&(decide (A5 l 0= -1)&&IE l 0 l.length)
theorem KA(l:List A7): ∀(n i:Nat),IE l i n=true↔ ∀j,i≤j→j<i+n→BA l l.length j=true
 |0,i=>by simp[IE];intro j h1 h2;omega
 |n+1,i=>by
  rw[IE,AP,KA l n (i+1)];constructor
  .rintro⟨h1,h2⟩ j h3 h4;by_cases h5:j=i
   .subst h5;exact h1
   .exact h2 j (by omega) (by omega)
  .intro h;exact⟨h i (by omega) (by omega),fun j h1 h2=>h j (by omega) (by omega)⟩
def Pk(l:List A7):Nat→Int→List Int
 |0,b=>[b]
 |k+1,b=>if b=0 then [0]else b::Pk l k (A5 l b)
theorem QJ(l:List A7): ∀(k m:Nat) (b:Int),BA l k b=true→k≤m→Pk l m b=Pk l k b
 |0,m,b,h,hm=>by
  simp[BA]at h;subst h;cases m<;>simp[Pk]
 |k+1,m,b,h,hm=>by
  obtain⟨m,rfl⟩: ∃j,m=j+1:=⟨m-1,by omega⟩;rw[Pk,Pk];split
  .rfl
  .rename_i h0;rw[BA]at h;simp only[h0,decide_false,It,AP]at h;rw[QJ l k m _ h.2 (by omega)]
def Cc(l:List A7)(b a:Int):Bool:=decide (a∈Pk l l.length b)
structure Fu(l:List A7):Prop where
 pos:0<l.length
 top:A5 l 0= -1
 rx: ∀i,En l i→BA l l.length i=true
theorem ZP(h:Iu l=true):Fu l:=by
 simp only[Iu,AP,Ap]at h;refine⟨h.1,h.2.1,fun i hi=>?_⟩;have:=(KA l l.length 0).1 h.2.2 i.toNat (by omega) (by have:=hi.1;have:=hi.2;omega)
 rwa [OR hi.1]at this
theorem tp(h:Fu l):Iu l=true:=by
 simp only[Iu,AP,Ap];refine⟨h.pos,h.top,(KA l l.length 0).2 fun j h1 h2=>h.rx j ⟨by omega,by omega⟩⟩
end Go.Proofs
namespace Go.Proofs
open Go Go.Abs
def CW.inB(p:AI)(nc ns:Nat)(v:CW):Bool:=
 if v.kind=1 then decide (-1000000000≤v.n)&&decide (v.n≤1000000000)else if v.kind=2 then decide (0≤v.n)&&decide (v.n<p.free.length)
 else if v.kind=3 then decide (0≤v.n)&&decide (v.n<nc)else if v.kind=4 then decide (0≤v.n)&&decide (v.n<ns)else false
variable{l:List A7}{k:Nat}{b:Int}
theorem uw(h: ¬b=0)(hc:BA l (k+1) b=true):Pk l (k+1) b=b::Pk l k (A5 l b):=by
 rw[Pk,Ci h]
theorem Gh(h: ¬b=0)(hc:BA l (k+1) b=true):En l (A5 l b)∧BA l k (A5 l b)=true:=by
 rw[BA]at hc;simp only[h,decide_false,It,AP,Ap]at hc;exact hc
end Go.Proofs
namespace Go.Proofs
open Go Go.Abs
theorem oM(l:List A7)(k:Nat)(c:Int):c∈Pk l k c:=by
 cases k with
 |zero=>simp[Pk]
 |succ k=>
  rw[Pk];split
  .rename_i h;simp[h]
  .simp
theorem oO(l:List A7)(k:Nat):Pk l k 0=[0]:=by cases k<;>simp[Pk]
end Go.Proofs
namespace Go.Proofs
open Go Go.Abs
set_option maxRecDepth 100000
set_option maxHeartbeats 2000000
def Bt.formed(size:Int):Bt→Bool
 |.mk op n kids=>
  if op=1 then decide (kids.length=0)&&(decide (-1000000000≤n)&&decide (n≤1000000000))
  else if op=2 then decide (kids.length=0)&&(decide (0≤n)&&decide (n<size))
  else if op<3 then false
  else if 7<op then false
  else if n=0 then match kids with
   |[a,b]=>a.formed size&&b.formed size
   |_=>false
  else false
theorem ZQ{α:Type}{kids:List α}(hk:kids.length=2): ∃a b,kids=[a,b]:=by
 rcases kids with _|⟨a,_|⟨b,_|⟨c,l⟩⟩⟩<;>simp at hk;exact⟨a,b,rfl⟩
@[go_sem] theorem ABb(k n:Int):BU (KL Tryz.prog cfg) 119 [.agg [.d (.int .i64 k),.d (.int .i64 n)]] []=.ok (.ret (.d (.int .i64 (if k=1 then n else 0))),[]):=by
  (refine Ao rfl Tryz.func119 rfl rfl rfl ?_;show Wp _ _ _ _ (Tryz.f119.body.get rfl) _ _;simp only[Tryz.f119,AS])
  exact au
@[go_sem] theorem ACe(t:Bool):BU (KL Tryz.prog cfg) 120 [.d (.bool t)] []=.ok (.ret (.d (.int .i64 (if t=true then 1 else 0))),[]):=by
  (refine Ao rfl Tryz.func120 rfl rfl rfl ?_;show Wp _ _ _ _ (Tryz.f120.body.get rfl) _ _;simp only[Tryz.f120,AS])
  exact au;all_goals grind
def OT(n:Int):Int:=min (max n (-1000000000)) 1000000000
def br(v:CW):Int:=if v.kind=1 then v.n else 0
def opV(op a b:Int):Int:=if op=3 then IntKind.i64.wrap (a+b)else if op=4 then IntKind.i64.wrap (a-b)else if op=5 then IntKind.i64.wrap (a*b)else if op=6 then(if a<b then 1 else 0)else if a=b then 1 else 0
def Bt.value(env:List CW):Bt→CW
 |.mk op n kids=>
  if op=1 then⟨1,n⟩
  else if op=2 then(env[n.toNat]?).getD ⟨0,0⟩
  else match kids with
   |[a,b]=>⟨1,OT (opV op (br (a.value env)) (br (b.value env)))⟩
   |_=>⟨0,0⟩
theorem UZ(env:List CW)(n:Int)(kids:List Bt):(Bt.mk 1 n kids).value env=⟨1,n⟩:=by
 rcases kids with _|⟨a,_|⟨b,_|⟨c,l⟩⟩⟩<;>simp[Bt.value]
theorem SD(env:List CW)(n:Int)(kids:List Bt):(Bt.mk 2 n kids).value env=(env[n.toNat]?).getD ⟨0,0⟩:=by
 rcases kids with _|⟨a,_|⟨b,_|⟨c,l⟩⟩⟩<;>simp[Bt.value]
theorem UY(env:List CW)(op n:Int)(a b:Bt)(h1: ¬op=1)(h2: ¬op=2):(Bt.mk op n [a,b]).value env=⟨1,OT (opV op (br (a.value env)) (br (b.value env)))⟩:=by
 simp[Bt.value,h1,h2]
theorem PJ{size n:Int}{kids:List Bt}(h:(Bt.mk 2 n kids).formed size=true):0≤n∧n<size:=by
 rcases kids with _|⟨a,_|⟨b,_|⟨c,l⟩⟩⟩<;>simp[Bt.formed]at h;exact h
theorem Qy{size op n:Int}{kids:List Bt}(h:(Bt.mk op n kids).formed size=true)(h1: ¬op=1)(h2: ¬op=2):3≤op∧op≤7∧n=0∧ ∃a b,kids=[a,b]∧a.formed size=true∧b.formed size=true:=by
 rcases kids with _|⟨a,_|⟨b,_|⟨c,l⟩⟩⟩<;>simp[Bt.formed,h1,h2]at h;exact⟨h.1,h.2.1,h.2.2.1,a,b,rfl,h.2.2.2⟩
@[go_sem] theorem uE(env:List CW)(x:Bt)(hf:x.formed env.length=true):BU (KL Tryz.prog cfg) 75 [.agg [.d (.int .i64 x.op),.d (.int .i64 x.n),.d (.ce (x.kids.map Bp))],.d (.ce (env.map AJ))] []=.ok (.ret (.agg [.d (.int .i64 (x.value env).kind),.d (.int .i64 (x.value env).n)]),[]):=by
  induction x using Bt.ind with
  |h op n kids ih=>
  simp only[Bt.op_mk,Bt.n_mk,Bt.kids_mk]
  (refine Ao rfl Tryz.func75 rfl rfl rfl ?_;show Wp _ _ _ _ (Tryz.f75.body.get rfl) _ _;simp only[Tryz.f75,AS])
  by_cases h1:op=1
  .subst h1;clear ih
   (repeat' (first|simp only[go_sem, *,UZ]|(refine sx ?_ ?_<;>intro hc)|refine sy (by omega) fun x hx hm=>?_|simp(disch:=first|assumption|omega) only[AN]))
  by_cases h2:op=2
  .subst h2;clear ih;obtain⟨hn,hl⟩:=PJ hf;have hl:n.toNat<env.length:=by omega
   clear hf
   (repeat' (first|simp only[go_sem, *,SD,F4]|(refine sx ?_ ?_<;>intro hc)|refine sy (by omega) fun x hx hm=>?_|simp(disch:=first|assumption|omega) only[AN]))
  obtain⟨h3,h4,h5,a,b,rfl,hfa,hfb⟩:=Qy hf h1 h2;have ha:=ih a (by simp) hfa;have hb:=ih b (by simp) hfb;clear ih hf;rw[UY env op n a b h1 h2];generalize a.value env=u at*;generalize b.value env=v at*
  (repeat' (first|simp only[go_sem, *]|(refine sx ?_ ?_<;>intro hc)|refine sy (by omega) fun x hx hm=>?_|simp(disch:=first|assumption|omega) only[AN]))
  all_goals grind [br,OT,opV]
theorem Ae{α:Type}{l:List α}{i:Nat}{x:α}(h:l[i]? =some x):l.drop i=x::l.drop (i+1):=by
 have hi:=(BE.1 h).1;rw[List.drop_eq_getElem_cons hi];congr 1;have:=BV hi;rw[h]at this;injection this with this
 exact this.symm
theorem AH{α:Type}{l:List α}{i:Nat}{x:α}(h:l[i]? =some x):i<l.length:=(BE.1 h).1
mutual
def Bt.size:Bt→Nat
 |.mk _ _ kids=>1+Hc kids
def Hc:List Bt→Nat
 |[]=>0
 |k::l=>k.size+Hc l
end
mutual
def Bt.depth:Bt→Nat
 |.mk _ _ kids=>HV kids+1
def HV:List Bt→Nat
 |[]=>0
 |k::l=>max k.depth (HV l)
end
theorem ZD(x:Bt):1≤x.size:=by cases x;simp[Bt.size]
def Bt.ok(size:Int)(x:Bt):Bool:=decide (x.size≤60)&&(decide (x.depth≤12)&&x.formed size)
def CW.ok(v:CW):Bool:=decide (1≤v.kind)&&(decide (v.kind≤4)&&(!decide (v.kind=1)||(decide (-1000000000≤v.n)&&decide (v.n≤1000000000))))
def Ga:AV:=.iface 289 (.agg [.d (.int .i64 2)])
theorem aQ:flat Ga=true:=by simp[Ga,flat,E0,Dg]
@[go_sem] theorem zS(l:List Df)(h:AB)(id:Abs.Id)(off:Nat):Cl cfg none (.call 189 [.ptr id off]::l) (some Ga) h=VW cfg none l h id off .i64 2 (h.get id):=by
  rw[Ga,Nn TE (ZS _)]
attribute [go_sem] aQ
@[go_sem] theorem ACh(t:Bool):BU (KL Tryz.prog cfg) 199 [.d (.bool t)] []=Bf Ga t:=by
  cases t
  .rw[JR]
   (refine Ao rfl Tryz.func199 rfl rfl rfl ?_;show Wp _ _ _ _ (Tryz.f199.body.get rfl) _ _;simp only[Tryz.f199,AS])
   (repeat' (first|simp only[go_sem, *,Ga]|(refine sx ?_ ?_<;>intro hc)|refine sy (by omega) fun x hx hm=>?_|simp(disch:=first|assumption|omega) only[AN]))
  .rw[KS]
   (refine Ao rfl Tryz.func199 rfl rfl rfl ?_;show Wp _ _ _ _ (Tryz.f199.body.get rfl) _ _;simp only[Tryz.f199,AS])
   exact au
def LP(op:Int):AV:=
 if op=1 then .iface 314 (.d (.int .i64 0))else if op=7 then .iface 314 (.d (.int .i64 0))else if op=3 then .iface 314 (.d (.int .i64 2))else if op=2 then .iface 307 (.agg [])else if op=5 then .iface 310 (.agg [])
 else if op=6 then .iface 308 (.agg [])else if op=8 then .iface 308 (.agg [])else if op=4 then .iface 309 (.agg [])else .d .lc
theorem Gn(op:Int):BU (KL Tryz.prog cfg) 211 [.d (.int .i64 op)] []=.ok (.ret (LP op),[]):=by
 (refine Ao rfl Tryz.func211 rfl rfl rfl ?_;show Wp _ _ _ _ (Tryz.f211.body.get rfl) _ _;simp only[Tryz.f211,AS])
 (repeat' (first|simp only[go_sem, *,LP]|(refine sx ?_ ?_<;>intro hc)|refine sy (by omega) fun x hx hm=>?_|simp(disch:=first|assumption|omega) only[AN]))
@[go_sem] theorem ACr:BU (KL Tryz.prog cfg) 236 [.agg []] []=.ok (.ret (.d (.int .i64 0)),[]):=by
  (refine Ao rfl Tryz.func236 rfl rfl rfl ?_;show Wp _ _ _ _ (Tryz.f236.body.get rfl) _ _;simp only[Tryz.f236,AS])
  exact au
@[go_sem] theorem ACs:BU (KL Tryz.prog cfg) 237 [.agg []] []=.ok (.ret (.d (.int .i64 1)),[]):=by
  (refine Ao rfl Tryz.func237 rfl rfl rfl ?_;show Wp _ _ _ _ (Tryz.f237.body.get rfl) _ _;simp only[Tryz.f237,AS])
  exact au
@[go_sem] theorem ACu:BU (KL Tryz.prog cfg) 238 [.agg []] []=.ok (.ret (.d (.int .i64 1)),[]):=by
  (refine Ao rfl Tryz.func238 rfl rfl rfl ?_;show Wp _ _ _ _ (Tryz.f238.body.get rfl) _ _;simp only[Tryz.f238,AS])
  exact au
@[go_sem] theorem ACv:BU (KL Tryz.prog cfg) 239 [.agg []] []=.ok (.ret (.d (.int .i64 2)),[]):=by
  (refine Ao rfl Tryz.func239 rfl rfl rfl ?_;show Wp _ _ _ _ (Tryz.f239.body.get rfl) _ _;simp only[Tryz.f239,AS])
  exact au
@[go_sem] theorem ACw(n:Int):BU (KL Tryz.prog cfg) 240 [.d (.int .i64 n)] []=.ok (.ret (.d (.int .i64 n)),[]):=by
  (refine Ao rfl Tryz.func240 rfl rfl rfl ?_;show Wp _ _ _ _ (Tryz.f240.body.get rfl) _ _;simp only[Tryz.f240,AS])
  exact au
def CF.own(d:CF):Nat:=d.be.length+d.ac.length
theorem AA8(d:CF)(h1:d.be.length≤1000)(h2:d.ac.length≤1000):BU (KL Tryz.prog cfg) 214 [.agg [.d (.ce (d.be.map BJ)),.d (.ce (d.ac.map A6)),.d (.ce (d.rules.map BG))]] []=.ok (.ret (.d (.int .i64 d.own)),[]):=by
 (refine Ao rfl Tryz.func214 rfl rfl rfl ?_;show Wp _ _ _ _ (Tryz.f214.body.get rfl) _ _;simp only[Tryz.f214,AS])
 refine aw ?_;all_goals simp[CF.own]
def DB(d:CF):List Int→Int
 |[]=>0
 |j::l=>((d.be[j.toNat]?).map HS.many).getD 0+DB d l
def CF.joinsOk(d:CF)(r:GX):Prop:=r.eq.length≤3∧(∀j∈r.eq,0≤j∧j<d.be.length)∧ ∀c∈d.be,0≤c.many∧c.many≤3
theorem get_some{α:Type}{l:List α}{i:Nat}(h:i<l.length): ∃y,l[i]? =some y:=⟨_,BV h⟩
theorem ft(d:CF)(r:GX)(hj:d.joinsOk r):BU (KL Tryz.prog cfg) 215 [.agg [.d (.ce (d.be.map BJ)),.d (.ce (d.ac.map A6)),.d (.ce (d.rules.map BG))],.agg [.d (.int .i64 r.at_),.d (.ce (r.eq.map AL)),.d (.int .i64 r.node)]] []=.ok (.ret (.d (.int .i64 (DB d r.eq))),[]):=by
 obtain⟨h1,h2',h3'⟩:=hj;have h2:=AA.mk h2';have h3:=AA.mk h3';clear h2' h3'
 (refine Ao rfl Tryz.func215 rfl rfl rfl ?_;show Wp _ _ _ _ (Tryz.f215.body.get rfl) _ _;simp only[Tryz.f215,AS])
 refine aw ?_;refine rounds (S:=fun a:Nat×Int=>⟨[(2,.ptr [0,0] 0),(5,.d (.int .i64 a.2)),(9,.d (.ce (r.eq.map AL))),(10,.d (.int .i64 r.eq.length)),(11,.d (.int .i64 a.1))],[([0,0],.box [.d (.ce (d.be.map BJ)),.d (.ce (d.ac.map A6)),.d (.ce (d.rules.map BG))])],1,[]⟩)
  (Inv:=fun a=>a.1≤r.eq.length∧0≤a.2∧a.2≤3*a.1∧AA (DB d r.eq=a.2+DB d (r.eq.drop a.1))) (m:=fun a=>r.eq.length-a.1) (a:=(0,0)) ⟨by simp,by simp,by simp,⟨by simp⟩⟩ ?_
 rintro⟨i,c⟩ ⟨k1,k2,k3,k4⟩ IH;dsimp only at*
 (repeat' (first|simp only[go_sem, *]|(refine sx ?_ ?_<;>intro hc)|refine sy (by omega) fun x hx hm=>?_|simp(disch:=first|assumption|omega) only[AN]))
 .have hd:=h2.out x hm;obtain⟨y,hy⟩:=get_some (l:=d.be) (i:=x.toNat) (by omega);have hy3:=h3.out y (Ac hy);refine aw ?_;refine IH.out (i+1,c+y.many) (by dsimp only;omega) ⟨by dsimp only;omega,by dsimp only;omega,by dsimp only;omega,⟨?_⟩⟩;dsimp only;rw[k4.out,Ae hx,DB,hy];simp only[D9,F4];omega
 .rw[k4.out,F6 (by omega),DB,Int.add_zero]
def Og(b:UInt8):Bool:=decide (97≤b.toNat)&&decide (b.toNat≤122)
def kwL:List ByteArray:=[⟨#[97,110,100]⟩,⟨#[100,101,102]⟩,⟨#[101,108,115,101]⟩,⟨#[103,111]⟩,⟨#[105,102]⟩,⟨#[105,110]⟩,⟨#[112,108,97,99,101]⟩,⟨#[115,116,111,112]⟩,⟨#[116,104,101,110]⟩,⟨#[119,97,116,99,104]⟩]
def kwM:List (AR×AV):=kwL.map fun k=>(.str k,.d (.bool true))
def HY(s:ByteArray):Bool:=decide (1≤s.size)&&(decide (s.size≤8)&&(s.data.toList.all Og&& !kwL.any (· ==s)))
variable{s:ByteArray}
theorem RM{v:AV}: ∀{es:List (AR×AV)},Ca es (.str s)=some none→Dm es (.str s) v=es++[(.str s,v)]
 |[],_=>rfl
 |(k,w)::es,h=>by
  unfold Ca at h;unfold Dm;split at h
  .cases h
  .rename_i hk;rw[hk];simp only[Ge,Md,Rt];exact RM h
  .cases h
variable{h:AB}
theorem wu{id:Abs.Id}{es:List (AR×AV)}(hg:h.get id=some (.map es))(hm:Ca es (.str s)=some none):mapPut cfg.T h.get (cfg.T 300) (.mp id) (.d (.str s)) (.d (.bool true))=some ⟨.undef,[(id,.map (es++[(.str s,.d (.bool true))]))]⟩:=by
 unfold mapPut;simp only[zj,Ks,T9,JH,AV.isCell,OF,hg,hm,RM hm]
theorem qg(id:Abs.Id)(o:Abs.Obj):AB.get [(id,o)] id=some o:=by simp only[BL,is_self,F5]
@[go_sem] theorem zR(k:Nat)(ρ:List Nat):BU (KL Tryz.prog cfg) 210 [] (k::ρ)=.ok (.ret (.mp (1::1::k::ρ)),[(1::1::k::ρ,.map kwM)]):=by
  (refine Ao rfl Tryz.func210 rfl rfl rfl ?_;show Wp _ _ _ _ (Tryz.f210.body.get rfl) _ _;simp only[Tryz.f210,AS])
  refine aw ?_
  iterate 10 (rw[←zj,wu (qg _ _)];rotate_left;exact rfl;refine aw ?_)
  rfl
theorem Vb: ∀(L:List ByteArray) (s:ByteArray),Ca (L.map fun k=>(AR.str k,.d (.bool true))) (.str s)=some (if L.any (· ==s)=true then some (.d (.bool true))else none)
 |[],s=>by simp[Ca]
 |k::L,s=>by
  rw[El,Ca,GY];cases hk:(k==s)with
  |true=>simp[hk]
  |false=>
   simp only[Vb L s,List.any_cons,hk,It]
theorem AAV(h:(kwL.any fun x=>x==s)=true):Ca kwM (.str s)=some (some (.d (.bool true))):=by
 rw[kwM,Vb,D1 h]
theorem ACK(h:(kwL.any fun x=>x==s)=false):Ca kwM (.str s)=some none:=by
 rw[kwM,Vb,Ci (by rw[h];simp)]
variable{b:UInt8}
theorem VZ(h: ¬(97≤b.toNat∧b.toNat≤122)):Og b=false:=by
 simp only[Og,PL,RD];omega
theorem fC(h:97≤b.toNat∧b.toNat≤122):Og b=true:=by
 simp only[Og,AP,Ap];exact h
theorem yX(s:ByteArray)(hs:s.size≤9223372036854775807):BU (KL Tryz.prog cfg) 200 [.d (.str s)] []=.ok (.ret (.d (.bool (HY s))),[]):=by
 have hsz:s.data.toList.length=s.size:=by cases s;rfl
 (refine Ao rfl Tryz.func200 rfl rfl rfl ?_;show Wp _ _ _ _ (Tryz.f200.body.get rfl) _ _;simp only[Tryz.f200,AS])
 refine aw ?_;refine rounds (S:=fun i:Nat=>⟨[(0,.d (.str s)),(5,.d (.int .i64 s.size)),(6,.d (.int .i64 i))],[],0,[]⟩) (Inv:=fun i=>i≤s.size∧AA (s.data.toList.all Og=(s.data.toList.drop i).all Og)) (m:=fun i=>s.size-i) (a:=0) ⟨by simp,⟨by simp⟩⟩ ?_;rintro i ⟨k1,k2⟩ IH;cases hk:kwL.any (· ==s)with
 |false=>
  (repeat' (first|simp only[go_sem, *,ACK hk]|(refine sx ?_ ?_<;>intro hc)|refine sy (by omega) fun x hx hm=>?_|simp(disch:=first|assumption|omega) only[AN]))
  .have:s.data.toList.all Og=false:=by rw[k2.out,Ae hx,F0,VZ (by omega)];rfl
   simp[HY,this]
  .have:s.data.toList.all Og=false:=by rw[k2.out,Ae hx,F0,VZ (by omega)];rfl
   simp[HY,this]
  .refine IH.out (i+1) (by omega) ⟨by omega,⟨?_⟩⟩;rw[k2.out,Ae hx,F0,fC (by omega)];rfl
  .have:s.data.toList.all Og=true:=by rw[k2.out,F6 (by omega)];rfl
   have h1:1≤s.size:=by omega
   have h8:s.size≤8:=by omega
   simp[HY,this,h1,h8,hk]
  .rw[HY,D4 (p:=s.size≤8) (by omega),EL,I3]
  .rw[HY,D4 (by omega)];rfl
 |true=>
  (repeat' (first|simp only[go_sem, *,AAV hk]|(refine sx ?_ ?_<;>intro hc)|refine sy (by omega) fun x hx hm=>?_|simp(disch:=first|assumption|omega) only[AN]))
  .have:s.data.toList.all Og=false:=by rw[k2.out,Ae hx,F0,VZ (by omega)];rfl
   simp[HY,this]
  .have:s.data.toList.all Og=false:=by rw[k2.out,Ae hx,F0,VZ (by omega)];rfl
   simp[HY,this]
  .refine IH.out (i+1) (by omega) ⟨by omega,⟨?_⟩⟩;rw[k2.out,Ae hx,F0,fC (by omega)];rfl
  .have:s.data.toList.all Og=true:=by rw[k2.out,F6 (by omega)];rfl
   have h1:1≤s.size:=by omega
   have h8:s.size≤8:=by omega
   simp[HY,this,h1,h8,hk]
  .rw[HY,D4 (p:=s.size≤8) (by omega),EL,I3]
  .rw[HY,D4 (by omega)];rfl
set_option maxHeartbeats 4000000
def Sj(x:Int):List Int→Int→Int
 |[],_=> -1
 |y::l,i=>if x=y then i else Sj x l (i+1)
@[go_sem] theorem ACF(l:List Int)(v:Int)(hl:l.length≤1000000):BU (KL Tryz.prog cfg) 220 [.d (.ce (l.map AL)),.d (.int .i64 v)] []=.ok (.ret (.d (.int .i64 (Sj v l 0))),[]):=by
  (refine Ao rfl Tryz.func220 rfl rfl rfl ?_;show Wp _ _ _ _ (Tryz.f220.body.get rfl) _ _;simp only[Tryz.f220,AS])
  refine aw ?_;refine rounds (S:=fun i:Nat=>⟨[(0,.d (.ce (l.map AL))),(1,.d (.int .i64 v)),(7,.d (.int .i64 l.length)),(8,.d (.int .i64 i))],[],0,[]⟩) (Inv:=fun i=>i≤l.length∧AA (Sj v l 0=Sj v (l.drop i) i)) (m:=fun i=>l.length-i) (a:=0) ⟨by simp,⟨by simp⟩⟩ ?_;rintro i ⟨k1,k2⟩ IH
  (repeat' (first|simp only[go_sem, *]|(refine sx ?_ ?_<;>intro hc)|refine sy (by omega) fun x hx hm=>?_|simp(disch:=first|assumption|omega) only[AN]))
  .subst hc;rw[k2.out,Ae hx,Sj,D1 rfl]
  .refine IH.out (i+1) (by omega) ⟨by omega,⟨?_⟩⟩;rw[k2.out,Ae hx,Sj,Ci (by assumption)];rfl
  .rw[k2.out,F6 (by omega),Sj]
theorem Xz(v:Int): ∀(l:List Int) (i:Int),0≤i→(0≤Sj v l i↔v∈l)
 |[],i,h=>by simp[Sj]
 |y::l,i,h=>by
  rw[Sj];split
  .rename_i e;simp[e,h]
  .rename_i e;rw[Xz v l (i+1) (by omega)];simp[e]
@[go_sem] theorem W8(l:List Int)(v:Int)(hl:l.length≤1000000):BU (KL Tryz.prog cfg) 219 [.d (.ce (l.map AL)),.d (.int .i64 v)] []=.ok (.ret (.d (.bool (decide (v∈l)))),[]):=by
  have h:=Xz v l 0 (by omega)
  (refine Ao rfl Tryz.func219 rfl rfl rfl ?_;show Wp _ _ _ _ (Tryz.f219.body.get rfl) _ _;simp only[Tryz.f219,AS])
  exact au
theorem Yo(d:CF)(n:Int)(h:AB)(π:List Nat)(id:Abs.Id)(hg:h.get id=some (.box [.d (.ce (d.be.map BJ)),.d (.ce (d.ac.map A6)),.d (.ce (d.rules.map BG))])):
 ∃o h',KL Tryz.prog cfg (.fn 218) [.d (.int .i64 n),.ptr id 0] h π true none=.ok (o,h')∧h'=h∧o=if 0≤n∧n≤d.ac.length then .ret (.it [])else .f9 Ga:=by
 (refine Af rfl Tryz.func218 rfl rfl rfl ?_;show Wp _ _ _ _ (Tryz.f218.body.get rfl) _ _;simp only[Tryz.f218,AS])
 (repeat' (first|simp only[go_sem, *]|(refine sx ?_ ?_<;>intro hc)|refine sy (by omega) fun x hx hm=>?_|simp(disch:=first|assumption|omega) only[AN]))
 all_goals simp
def Fz(d:CF)(c:HS):Bool:=decide (0≤c.at_∧c.at_≤d.ac.length)&&(decide (0≤c.many)&&decide (c.many≤3))
def FQ:Nat→List MG→Bool
 |_,[]=>true
 |i,s::l=>decide (0≤s.un)&&(decide (s.un≤i)&&FQ (i+1) l)
def KJ(d:CF)(r:GX)(i:Nat)(c:Int):Bool:=decide (0≤c)&&(decide (c<d.be.length)&&(decide (((d.be[c.toNat]?).map HS.at_).getD 0=r.at_)&& !decide (c∈r.eq.take i)))
def joinsOk(d:CF)(r:GX):Nat→List Int→Bool
 |_,[]=>true
 |i,c::l=>KJ d r i c&&joinsOk d r (i+1) l
def Dq(d:CF)(r:GX):Bool:=decide (0≤r.at_∧r.at_≤d.ac.length)&&(decide (0<r.eq.length)&&(decide (r.eq.length≤3)&&joinsOk d r 0 r.eq))
def bB(l:List Int)(c:Int):List Int:=if c∈l then l else l++[c]
def Fe(l:List Int):List (AR×AV):=l.map fun c=>(.int .i64 c,.d (.bool true))
def Hp(l:List Int)(rs:List GX):List Int:=rs.foldl (fun l r=>r.eq.foldl bB l) l
def CF.okG(d:CF):Bool:=decide (d.be.length≤30)&&(decide (d.ac.length≤30)&&(decide (d.rules.length≤30)&&(d.be.all (Fz d)&&(FQ 0 d.ac&&(d.rules.all (Dq d)&&decide ((Hp [] d.rules).length=d.be.length))))))
def HQ(v:AV)(t:Bool):AZ×AB:=if t=true then(.ret (.it []),[])else(.f9 v,[])
theorem eE(v:AV):HQ v true=(.ret (.it []),[]):=rfl
theorem Ck(v:AV):HQ v false=(.f9 v,[]):=rfl
theorem SG(v:AV)(t:Bool):Bf v t=.ok (HQ v t):=by cases t<;>rfl
theorem du(st:List Int)(c:Int):Ca (Fe st) (.int .i64 c)=some (if c∈st then some (.d (.bool true))else none):=by
 induction st with
 |nil=>rfl
 |cons a st ih=>
  show Ca ((.int .i64 a,.d (.bool true))::Fe st) _=_;rw[Ca,GY];simp only[F5];by_cases h:a=c
  .subst h;simp
  .have h1:(a==c)=false:=by simpa using h
   have h2: ¬c=a:=fun e=>h e.symm;rw[h1,ih];simp[h2]
theorem dv(st:List Int)(c:Int):Dm (Fe st) (.int .i64 c) (.d (.bool true))=Fe (bB st c):=by
 induction st with
 |nil=>rfl
 |cons a st ih=>
  show Dm ((.int .i64 a,.d (.bool true))::Fe st) _ _=_;rw[Dm,GY];simp only[F5];by_cases h:a=c
  .subst h;simp[bB,Fe]
  .have h1:(a==c)=false:=by simpa using h
   have h2: ¬c=a:=fun e=>h e.symm;rw[h1];simp only;rw[ih];simp only[bB,DO,h2,false_or];split<;>rfl
theorem wq{id:Abs.Id}{st:List Int}{c:Int}(hg:h.get id=some (.map (Fe st))):mapPut cfg.T h.get (cfg.T 315) (.mp id) (.d (.int .i64 c)) (.d (.bool true))=some ⟨.undef,[(id,.map (Fe (bB st c)))]⟩:=by
 unfold mapPut;simp only[zk,Ks,T3,JH,AV.isCell,OF,hg,du,dv]
@[go_sem] theorem ABH(st:List Int):(Fe st).flatMap (fun p=>AD p.2)=[]:=by
  induction st with
  |nil=>rfl
  |cons a st ih=>exact ih
@[go_sem] theorem ABI(ν:Abs.Id→Option Abs.Id)(st:List Int):(Fe st).map (fun p=>(p.1,L7 ν p.2))=Fe st:=by
  induction st with
  |nil=>rfl
  |cons a st ih=>exact congrArg (List.cons _) ih
theorem bt{d:CF}(h:d.be.all (Fz d)=false):d.okG=false:=by simp only[CF.okG,h,EL,I3]
theorem sO{d:CF}(h:FQ 0 d.ac=false):d.okG=false:=by simp only[CF.okG,h,EL,I3]
theorem Vf{d:CF}(h:d.rules.all (Dq d)=false):d.okG=false:=by simp only[CF.okG,h,EL,I3]
theorem AA6{d:CF}(h: ¬(Hp [] d.rules).length=d.be.length):d.okG=false:=by simp only[CF.okG,D4 h,I3]
theorem z6(d:CF):BU (KL Tryz.prog cfg) 213 [.agg [.d (.ce (d.be.map BJ)),.d (.ce (d.ac.map A6)),.d (.ce (d.rules.map BG))]] []=.ok (HQ Ga d.okG):=by
 (refine Ao rfl Tryz.func213 rfl rfl rfl ?_;show Wp _ _ _ _ (Tryz.f213.body.get rfl) _ _;simp only[Tryz.f213,AS])
 (repeat' (first|simp only[go_sem, *]|(refine sx ?_ ?_<;>intro hc)|refine sy (by omega) fun x hx hm=>?_|simp(disch:=first|assumption|omega) only[AN]))
 all_goals try(rw[show d.okG=false by simp[CF.okG];omega,Ck])
 have c1:d.be.length≤30:=by omega
 have c2:d.ac.length≤30:=by omega
 have c3:d.rules.length≤30:=by omega
 refine rounds (S:=fun i:Nat=>⟨[(1,.ptr [0,0] 0),(2,.fn 218 [] [.ptr [0,0] 0]),(31,.d (.ce (d.be.map BJ))),(32,.d (.int .i64 d.be.length)),(33,.d (.int .i64 i))],[([0,0],.box [.d (.ce (d.be.map BJ)),.d (.ce (d.ac.map A6)),.d (.ce (d.rules.map BG))])],1,[]⟩)
  (Inv:=fun i=>i≤d.be.length∧AA (d.be.all (Fz d)=(d.be.drop i).all (Fz d))) (m:=fun i=>d.be.length-i) (a:=0) ⟨by simp,⟨by simp⟩⟩ ?_
 clear hc;rintro i ⟨k1,k2⟩ IH
 (repeat' (first|simp only[go_sem, *]|(refine sx ?_ ?_<;>intro hc)|refine sy (by omega) fun x hx hm=>?_|simp(disch:=first|assumption|omega) only[AN]))
 .refine AY (Yo d x.at_ _ _ _ ?_) (fun o1 g1 p1=>?_)
  .simp only[go_sem]
  obtain⟨rfl,rfl⟩:=p1;by_cases kp:0≤x.at_∧x.at_≤d.ac.length
  .rw[D1 kp]
   (repeat' (first|simp only[go_sem, *]|(refine sx ?_ ?_<;>intro hc)|refine sy (by omega) fun x hx hm=>?_|simp(disch:=first|assumption|omega) only[AN]))
   .refine IH.out (i+1) (by omega) ⟨by omega,⟨?_⟩⟩;rw[k2.out,Ae hx,F0,show Fz d x=true by simp[Fz, *],F1]
   .rw[bt,Ck];rw[k2.out,Ae hx,F0,show Fz d x=false by simp[Fz, *],EL]
   .rw[bt,Ck];rw[k2.out,Ae hx,F0,show Fz d x=false by simp[Fz, *],EL]
  .rw[Ci kp];refine aw ?_;rw[bt,Ck];rw[k2.out,Ae hx,F0,show Fz d x=false by simp only[Fz,D4 kp,EL],EL]
 have hch:d.be.all (Fz d)=true:=by rw[k2.out,F6 (by omega)];rfl
 clear hc k1 k2 IH i;refine rounds (S:=fun i:Nat=>⟨[(1,.ptr [0,0] 0),(2,.fn 218 [] [.ptr [0,0] 0]),(52,.d (.ce (d.ac.map A6))),(53,.d (.int .i64 d.ac.length)),(54,.d (.int .i64 i))],[([0,0],.box [.d (.ce (d.be.map BJ)),.d (.ce (d.ac.map A6)),.d (.ce (d.rules.map BG))])],1,[]⟩)
  (Inv:=fun i=>i≤d.ac.length∧AA (FQ 0 d.ac=FQ i (d.ac.drop i))) (m:=fun i=>d.ac.length-i) (a:=0) ⟨by simp,⟨by simp⟩⟩ ?_
 rintro i ⟨k1,k2⟩ IH
 (repeat' (first|simp only[go_sem, *]|(refine sx ?_ ?_<;>intro hc)|refine sy (by omega) fun x hx hm=>?_|simp(disch:=first|assumption|omega) only[AN]))
 .refine IH.out (i+1) (by omega) ⟨by omega,⟨?_⟩⟩;rw[k2.out,Ae hx,FQ];simp[*]
 .rw[sO,Ck];rw[k2.out,Ae hx,FQ];simp[*]
 .rw[sO,Ck];rw[k2.out,Ae hx,FQ];simp[*]
 have hsp:FQ 0 d.ac=true:=by rw[k2.out,F6 (by omega)];rfl
 clear hc k1 k2 IH i;refine rounds (S:=fun a:Nat×List Int=>⟨[(1,.ptr [0,0] 0),(2,.fn 218 [] [.ptr [0,0] 0]),(7,.mp [1,1]),(72,.d (.ce (d.rules.map BG))),(73,.d (.int .i64 d.rules.length)),(74,.d (.int .i64 a.1))],[([0,0],.box [.d (.ce (d.be.map BJ)),.d (.ce (d.ac.map A6)),.d (.ce (d.rules.map BG))]),([1,1],.map (Fe a.2))],2,[]⟩)
  (Inv:=fun a=>a.1≤d.rules.length∧AA (d.rules.all (Dq d)=(d.rules.drop a.1).all (Dq d))∧AA (Hp [] d.rules=Hp a.2 (d.rules.drop a.1))) (m:=fun a=>d.rules.length-a.1) (a:=(0,[])) ⟨by simp,⟨by simp⟩,⟨by simp⟩⟩ ?_
 rintro⟨i,st⟩ ⟨k1,k2,k3⟩ IH;dsimp only at*;by_cases hi:i<d.rules.length
 .obtain⟨r,hx⟩:=get_some hi;have hi':(i:Int)<d.rules.length:=by omega
  refine aw ?_;refine AY (Yo d r.at_ _ _ _ ?_) (fun o1 g1 p1=>?_)
  .simp only[go_sem]
  obtain⟨rfl,rfl⟩:=p1;by_cases kp:0≤r.at_∧r.at_≤d.ac.length
  .rw[D1 kp]
   (repeat' (first|simp only[go_sem, *]|(refine sx ?_ ?_<;>intro hc)|refine sy (by omega) fun x hx hm=>?_|simp(disch:=first|assumption|omega) only[AN]))
   ·
    refine rounds (S:=fun a:Nat×List Int=>⟨[(1,.ptr [0,0] 0),(2,.fn 218 [] [.ptr [0,0] 0]),(7,.mp [1,1]),(9,.ptr [0,2] 0),(72,.d (.ce (d.rules.map BG))),(73,.d (.int .i64 d.rules.length)),(74,.d (.int .i64 i)),(94,.d (.ce (r.eq.map AL))),(95,.d (.int .i64 r.eq.length)),(96,.d (.int .i64 a.1))],[([0,0],.box [.d (.ce (d.be.map BJ)),.d (.ce (d.ac.map A6)),.d (.ce (d.rules.map BG))]),([1,1],.map (Fe a.2)),([0,2],.box [.d (.int .i64 r.at_),.d (.ce (r.eq.map AL)),.d (.int .i64 r.node)])],3,[]⟩)
     (Inv:=fun a=>a.1≤r.eq.length∧AA (joinsOk d r 0 r.eq=joinsOk d r a.1 (r.eq.drop a.1))∧AA (Hp [] d.rules=Hp ((r.eq.drop a.1).foldl bB a.2) (d.rules.drop (i+1)))) (m:=fun a=>r.eq.length-a.1) (a:=(0,st)) ⟨by simp,⟨by simp⟩,⟨by rw[k3.out,Ae hx];rfl⟩⟩ ?_
    rintro⟨k,st2⟩ ⟨j1,j2,j3⟩ IH2;dsimp only at*;by_cases hk:k<r.eq.length
    .obtain⟨c,hy⟩:=get_some hk;have hk':(k:Int)<r.eq.length:=by omega
     have hlt:(r.eq.take k).length≤1000000:=by simp;omega
     have hbad:AA (KJ d r k c=false→(AZ.f9 Ga,([]:AB))=HQ Ga d.okG):=.mk fun hb=>by
      have hj:joinsOk d r 0 r.eq=false:=by rw[j2.out,Ae hy,joinsOk,hb,EL]
      rw[Vf,Ck];rw[k2.out,Ae hx,F0,show Dq d r=false by simp only[Dq,hj,I3],EL]
     by_cases hc0:0≤c
     .by_cases hc1:c<d.be.length
      .obtain⟨y,hyc⟩:=get_some (l:=d.be) (i:=c.toNat) (by omega);have hjo:KJ d r k c=(decide (y.at_=r.at_)&& !decide (c∈r.eq.take k)):=by
        simp only[KJ,hyc,D9,F4,D7 hc0,D7 hc1,F1]
       (repeat' (first|simp only[go_sem, *]|(refine sx ?_ ?_<;>intro hc)|refine sy (by omega) fun x hx hm=>?_|simp(disch:=first|assumption|omega) only[AN,W8]))
       .rw[←zk,wq (st:=st2) (by simp only[go_sem])];refine aw ?_;refine IH2.out (k+1,bB st2 c) (by dsimp only;omega) ⟨by dsimp only;omega,⟨?_⟩,⟨?_⟩⟩
        .dsimp only;rw[j2.out,Ae hy,joinsOk,hjo];simp only[*,decide_true,decide_false,OS,RW,F1,EL]
        .dsimp only;rw[j3.out,Ae hy,MT]
       .exact hbad.out (by rw[hjo];simp only[*,decide_true,decide_false,OS,RW,F1,EL])
       .exact hbad.out (by rw[hjo,D4 (by assumption),EL])
      .refine aw ?_;exact hbad.out (by simp only[KJ,D4 hc1,EL,I3])
     .refine aw ?_;exact hbad.out (by simp only[KJ,D4 hc0,EL])
    .have hk': ¬(k:Int)<r.eq.length:=by omega
     refine aw ?_;refine IH.out (i+1,st2) (by dsimp only;omega) ⟨by dsimp only;omega,⟨?_⟩,⟨?_⟩⟩
     .dsimp only;rw[k2.out,Ae hx,F0,show Dq d r=true by
       rw[F6 (by omega)]at j2;simp only[Dq,D7 kp,j2.out,joinsOk];simp;omega,F1]
     .dsimp only;rw[j3.out,F6 (by omega)];rfl
   .rw[Vf,Ck];rw[k2.out,Ae hx,F0,show Dq d r=false by simp[Dq];omega,EL]
   .rw[Vf,Ck];rw[k2.out,Ae hx,F0,show Dq d r=false by simp[Dq];omega,EL]
  .rw[Ci kp];refine aw ?_;rw[Vf,Ck];rw[k2.out,Ae hx,F0,show Dq d r=false by simp only[Dq,D4 kp,EL],EL]
 .have hi': ¬(i:Int)<d.rules.length:=by omega
  have hru:d.rules.all (Dq d)=true:=by rw[k2.out,F6 (by omega)];rfl
  have hst:(Hp [] d.rules).length=(Fe st).length:=by
   rw[k3.out,F6 (by omega)];simp[Hp,Fe]
  (repeat' (first|simp only[go_sem, *]|(refine sx ?_ ?_<;>intro hc)|refine sy (by omega) fun x hx hm=>?_|simp(disch:=first|assumption|omega) only[AN]))
  .rw[show d.okG=true by
    simp only[CF.okG,hch,hsp,hru,D7 c1,D7 c2,D7 c3,F1,Ap];omega,eE]
  .rw[AA6 (by omega),Ck]
def DP(t:Bool):List AR:=[.bool t]
attribute [go_sem] DP
def FY(op:Int):Option Nat:=
 if op=1 then some 0 else if op=7 then some 0 else if op=3 then some 2 else if op=2 then some 0 else if op=5 then some 2
 else if op=6 then some 1 else if op=8 then some 1 else if op=4 then some 1 else none
def JW(x:CR):Bool:=if x.op=2 then decide (x.args.length≤3)else if x.op=5 then decide (x.args.length=1)else decide (x.args.length=0)
def uY(p:AI)(size:Int)(x:CR):Bool:=if x.op=2∨x.op=6∨x.op=8 then decide (0≤x.n∧x.n<size)else if x.op=4 then decide (0≤x.n∧x.n<p.defs.length)else decide (x.n=0)
def Dn(p:AI)(size:Int)(x:CR):Bool:=decide (FY x.op=some x.kids.length)&&(uY p size x&&(JW x&&x.args.all (Bt.ok size)))
structure Bo where
 ci:List Int
 met:List Bool
 defs:List Bool
def GG(f:Int→Int→Bo→Option Bo):List (Int×Int)→Bo→Option Bo
 |[],st=>some st
 |(n,s)::l,st=>match f n s st with
  |some st'=>GG f l st'
  |none=>none
def HL(d:CF)(size:Int)(l:List GX):List (Int×Int):=l.map fun r=>(r.node,size+DB d r.eq)
def GU(size:Int)(l:List MG):List (Int×Int):=l.map fun s=>(s.node,size)
def DC(size:Int)(l:List Int):List (Int×Int):=l.map fun k=>(k,size)
def VQ(p:AI)(size:Int)(x:CR)(st:Bo):Option (List (Int×Int)×Bo):=
 if x.op=4 then match p.defs[x.n.toNat]? with
  |some d=>if st.defs[x.n.toNat]? =some false∧d.okG=true then some (HL d (size+d.own) d.rules++(GU (size+d.own) d.ac++DC (size+d.own) x.kids),{st with defs:=st.defs.set x.n.toNat true})else none
  |none=>none
 else some (DC size x.kids,st)
def Bo.meet(st:Bo)(n size:Int):Bo:={st with ci:=st.ci.set n.toNat size,met:=st.met.set n.toNat true}
def Cj(p:AI):Nat→Int→Int→Bo→Option Bo
 |0,_,_,_=>none
 |k+1,n,size,st=>
  if 0≤n∧st.met[n.toNat]? =some false then
   match p.nodes[n.toNat]? with
   |some x=>if Dn p size x=true then match VQ p size x (st.meet n size)with
    |some (l,st2)=>GG (Cj p k) l st2
    |none=>none
    else none
   |none=>none
  else none
def tg(a b:ByteArray):Bool:=Op.bytesLess a.toList b.toList
def K1:Option ByteArray→List ByteArray→Bool
 |_,[]=>true
 |b,a::l=>HY a&&((match b with|some b=>tg b a|none=>true)&&K1 (some a) l)
def Qz(l:List ByteArray):Bool:=K1 none l
def AI.small(p:AI):Bool:=decide (p.free.length≤12)&&(decide (p.nodes.length≤60)&&decide (p.defs.length≤12))
def Bo.init(p:AI):Bo:=⟨List.replicate p.nodes.length 0,List.replicate p.nodes.length false,List.replicate p.defs.length false⟩
def looks(p:AI):Option Bo:=
 if p.small=true∧Qz p.free=true then match Cj p (p.nodes.length+1) p.main p.free.length (Bo.init p)with
  |some st=>if st.met.all id=true∧st.defs.all id=true then some st else none
  |none=>none
 else none
structure Bo.fit(p:AI)(st:Bo):Prop where
 ci:st.ci.length=p.nodes.length
 met:st.met.length=p.nodes.length
 defs:st.defs.length=p.defs.length
def J1(l:List Bool):Nat:=l.count false
theorem H5: ∀{l:List Bool} {n:Nat},l[n]? =some false→J1 (l.set n true)+1=J1 l
 |[],n,h=>by simp at h
 |b::l,0,h=>by
  simp only[Es,Bi]at h;subst h;simp[J1]
 |b::l,n+1,h=>by
  simp only[FN]at h;have:=H5 h;cases b<;>simp[J1]at this⊢ <;>omega
theorem SB(l:List Bool):J1 l≤l.length:=List.count_le_length
theorem YD{p:AI}{st:Bo}(h:st.fit p)(n size:Int):(st.meet n size).fit p:=⟨by simp[Bo.meet,h.ci],by simp[Bo.meet,h.met],by simp[Bo.meet,h.defs]⟩
variable{l:List (Int×Int)}
theorem qm{p:AI}{size:Int}{x:CR}{st st2:Bo}(h:VQ p size x st=some (l,st2)):st2.ci=st.ci∧st2.met=st.met∧st2.defs.length=st.defs.length:=by
 unfold VQ at h;split at h
 .split at h
  .split at h
   .cases h;simp
   .cases h
  .cases h
 .cases h;simp
variable{f:Int→Int→Bo→Option Bo}
theorem TP{R:Bo→Bo→Prop}(hr: ∀st,R st st)(ht: ∀a b c,R a b→R b c→R a c)(hf: ∀n s st st',f n s st=some st'→R st st'): ∀{l:List (Int×Int)} {st st':Bo},GG f l st=some st'→R st st'
 |[],st,st',h=>by cases h;exact hr _
 |(n,s)::l,st,st',h=>by
  rw[GG]at h;split at h
  .rename_i st1 h1;exact ht _ _ _ (hf _ _ _ _ h1) (TP hr ht hf h)
  .cases h
structure uj(st st':Bo):Prop where
 ci:st'.ci.length=st.ci.length
 met:st'.met.length=st.met.length
 defs:st'.defs.length=st.defs.length
 less:J1 st'.met≤J1 st.met
theorem Ej(p:AI): ∀(k:Nat) (n size:Int) (st st':Bo),Cj p k n size st=some st'→uj st st'
 |0,n,size,st,st',h=>by cases h
 |k+1,n,size,st,st',h=>by
  rw[Cj]at h;split at h
  .rename_i hn;split at h
   .rename_i x hx;split at h
    .split at h
     .rename_i l st2 h2;have h3:=qm h2;have h4:uj st2 st':=TP (R:=uj) (fun st=>⟨rfl,rfl,rfl,D6 _⟩) (fun a b c h1 h2=>⟨h2.1.trans h1.1,h2.2.trans h1.2,h2.3.trans h1.3,IP h2.4 h1.4⟩) (Ej p k) h;have h5:=H5 hn.2;refine⟨h4.1.trans ?_,h4.2.trans ?_,h4.3.trans ?_,IP h4.4 ?_⟩
      .rw[h3.1];simp[Bo.meet]
      .rw[h3.2.1];simp[Bo.meet]
      .rw[h3.2.2];simp[Bo.meet]
      .rw[h3.2.1];simp only[Bo.meet];omega
     .cases h
    .cases h
   .cases h
  .cases h
def Ir(p:AI)(size:Int)(x:CR):Option (List (Int×Int)):=
 if x.op=4 then match p.defs[x.n.toNat]? with
  |some d=>if d.okG=true then some (HL d (size+d.own) d.rules++(GU (size+d.own) d.ac++DC (size+d.own) x.kids))else none
  |none=>none
 else some (DC size x.kids)
theorem MX{d:CF}(h: ∀c∈d.be,0≤c.many∧c.many≤3): ∀l:List Int,0≤DB d l∧DB d l≤3*l.length
 |[]=>by simp[DB]
 |j::l=>by
  have ih:=MX h l;rw[DB];have:0≤((d.be[j.toNat]?).map HS.many).getD 0∧((d.be[j.toNat]?).map HS.many).getD 0≤3:=by
   cases hc:d.be[j.toNat]? with
   |none=>simp
   |some c=>simpa using h c (Ac hc)
  simp only[List.length_cons];omega
structure P9(d:CF):Prop where
 be:d.be.length≤30
 ac:d.ac.length≤30
 rules:d.rules.length≤30
 chan: ∀c∈d.be,0≤c.at_∧c.at_≤d.ac.length∧0≤c.many∧c.many≤3
 spot:FQ 0 d.ac=true
 wd: ∀r∈d.rules,Dq d r=true
 stands:(Hp [] d.rules).length=d.be.length
theorem Ve{d:CF}(h:d.okG=true):P9 d:=by
 simp only[CF.okG,AP,Ap,Ce,Fz]at h;obtain⟨h1,h2,h3,h4,h5,h6,h7⟩:=h;exact⟨h1,h2,h3,fun c hc=>⟨(h4 c hc).1.1,(h4 c hc).1.2,(h4 c hc).2.1,(h4 c hc).2.2⟩,h5,h6,h7⟩
variable{r:GX}
theorem RB{d:CF}: ∀{i:Nat} {l:List Int},joinsOk d r i l=true→ ∀j∈l,0≤j∧j<d.be.length
 |i,[],h=>by simp
 |i,c::l,h=>by
  intro j hj;rw[joinsOk,AP]at h;rcases DO.1 hj with rfl|hj
  .have:=h.1;simp only[KJ,AP,Ap]at this;exact⟨this.1,this.2.1⟩
  .exact RB h.2 j hj
theorem R0{d:CF}(h:P9 d)(hr:r∈d.rules):d.joinsOk r:=by
 have:=h.wd r hr;simp only[Dq,AP,Ap]at this;exact⟨this.2.2.1,RB this.2.2.2,fun c hc=>(h.chan c hc).2.2⟩
theorem Re{d:CF}(h:P9 d):d.own≤60:=by
 have:=h.be;have:=h.ac;unfold CF.own;omega
theorem nF{p:AI}{size:Int}{x:CR}(h:Ir p size x=some l): ∀q∈l,size≤q.2∧q.2≤size+70:=by
 unfold Ir at h;split at h
 .split at h
  .rename_i d hd;split at h
   .rename_i hk;cases h;have hk:=Ve hk;have ho:=Re hk;intro q hq;simp only[D5,HL,GU,DC,Em]at hq;rcases hq with⟨r,hr,rfl⟩|⟨r,hr,rfl⟩|⟨r,hr,rfl⟩
    .have hj:=R0 hk hr;have:=MX hj.2.2 r.eq;have:=hj.1;dsimp only;omega
    .dsimp only;omega
    .dsimp only;omega
   .cases h
  .cases h
 .cases h;intro q hq;simp only[DC,Em]at hq;obtain⟨k,hk,rfl⟩:=hq;dsimp only;omega
def Bo.has(st:Bo)(q:Int×Int):Prop:=0≤q.1∧st.met[q.1.toNat]? =some true∧st.ci[q.1.toNat]? =some q.2
structure zb(p:AI)(st:Bo)(i:Nat)(x:CR):Prop where
 met:st.met[i]? =some true
 ex: ∃s l,st.ci[i]? =some s∧0≤s∧s≤5000∧Dn p s x=true∧Ir p s x=some l∧ ∀q∈l,st.has q
structure uZ(p:AI)(st st':Bo):Prop where
 rg: ∀i:Nat,st.met[i]? =some true→st'.met[i]? =some true∧st'.ci[i]? =st.ci[i]?
 i6: ∀(i:Nat) (x:CR),st'.met[i]? =some true→st.met[i]? ≠some true→p.nodes[i]? =some x→zb p st' i x
 defs: ∀i:Nat,st.defs[i]? =some true→st'.defs[i]? =some true
 news: ∀(i:Nat) (x:CR),st'.met[i]? =some true→st.met[i]? ≠some true→p.nodes[i]? =some x→x.op=4→st.defs[x.n.toNat]? ≠some true∧st'.defs[x.n.toNat]? =some true
 used: ∀n:Nat,st'.defs[n]? =some true→st.defs[n]? ≠some true→ ∃(i:Nat) (x:CR),p.nodes[i]? =some x∧x.op=4∧x.n.toNat=n
 diff: ∀(i j:Nat) (x y:CR),i≠j→st'.met[i]? =some true→st.met[i]? ≠some true→p.nodes[i]? =some x→x.op=4→st'.met[j]? =some true→st.met[j]? ≠some true→p.nodes[j]? =some y→y.op=4→x.n.toNat≠y.n.toNat
variable{st':Bo}
theorem qc{p:AI}{st:Bo}{q:Int×Int}(h:st.has q)(ha:uZ p st st'):st'.has q:=by
 obtain⟨h1,h2,h3⟩:=h;have:=ha.rg _ h2;exact⟨h1,this.1,by rw[this.2,h3]⟩
theorem wi{p:AI}{st:Bo}{i:Nat}{x:CR}(h:zb p st i x)(ha:uZ p st st'):zb p st' i x:=by
 obtain⟨h1,s,l,h2,h0,hb,h3,h4,h5⟩:=h;have:=ha.rg _ h1;exact⟨this.1,s,l,by rw[this.2,h2],h0,hb,h3,h4,fun q hq=>qc (h5 q hq) ha⟩
theorem oH(p:AI)(st:Bo):uZ p st st:=⟨fun i h=>⟨h,rfl⟩,fun i x h1 h2=>absurd h1 h2,fun i h=>h,fun i x h1 h2=>absurd h1 h2,fun n h1 h2=>absurd h1 h2,fun i j x y h h1 h2=>absurd h1 h2⟩
theorem fV{p:AI}{a b c:Bo}(h1:uZ p a b)(h2:uZ p b c):uZ p a c:=by
 refine⟨fun i h=>?_,fun i x hm hn hx=>?_,fun i h=>h2.defs i (h1.defs i h),fun i x hm hn hx ho=>?_,fun n hm hn=>?_,fun i j x y hij him hin hx hox hjm hjn hy hoy=>?_⟩
 .have e1:=h1.rg i h;have e2:=h2.rg i e1.1;exact⟨e2.1,e2.2.trans e1.2⟩
 .by_cases hb:b.met[i]? =some true
  .exact wi (h1.i6 i x hb hn hx) h2
  .exact h2.i6 i x hm hb hx
 .by_cases hb:b.met[i]? =some true
  .have:=h1.news i x hb hn hx ho;exact⟨this.1,h2.defs _ this.2⟩
  .have:=h2.news i x hm hb hx ho;exact⟨fun e=>this.1 (h1.defs _ e),this.2⟩
 .by_cases hb:b.defs[n]? =some true
  .exact h1.used n hb hn
  .exact h2.used n hm hb
 .by_cases hbi:b.met[i]? =some true
  .by_cases hbj:b.met[j]? =some true
   .exact h1.diff i j x y hij hbi hin hx hox hbj hjn hy hoy
   .have e1:=h1.news i x hbi hin hx hox;have e2:=h2.news j y hjm hbj hy hoy;intro e;rw[e]at e1;exact e2.1 e1.2
  .by_cases hbj:b.met[j]? =some true
   .have e1:=h1.news j y hbj hjn hy hoy;have e2:=h2.news i x him hbi hx hox;intro e;rw[←e]at e1;exact e2.1 e1.2
   .exact h2.diff i j x y hij him hbi hx hox hjm hbj hy hoy
structure zZ(st:Bo)(u:Nat):Prop where
 len:st.ci.length=st.met.length
 less:J1 st.met≤u
theorem TN{p:AI}{u:Nat}(hf: ∀(n s:Int) (st st':Bo),zZ st u→0≤s→s+70*u≤5000→f n s st=some st'→uZ p st st'∧st'.has (n,s)∧zZ st' u): ∀{l:List (Int×Int)} {st st':Bo},zZ st u→(∀q∈l,0≤q.2∧q.2+70*u≤5000)→GG f l st=some st'→uZ p st st'∧(∀q∈l,st'.has q)∧zZ st' u
 |[],st,st',hl,hq,h=>by cases h;exact⟨oH _ _,by simp,hl⟩
 |(n,s)::l,st,st',hl,hq,h=>by
  rw[GG]at h;split at h
  .rename_i st1 h1;have hq1:=hq (n,s) (by simp);have e1:=hf _ _ _ _ hl hq1.1 hq1.2 h1;have e2:=TN hf e1.2.2 (fun q hm=>hq q (FD _ hm)) h;refine⟨fV e1.1 e2.1,fun q hq=>?_,e2.2.2⟩;rcases DO.1 hq with rfl|hq
   .exact qc e1.2.1 e2.1
   .exact e2.2.1 q hq
  .cases h
theorem jL{p:AI}{size:Int}{x:CR}{st st2:Bo}{l:List (Int×Int)}(h:VQ p size x st=some (l,st2)):Ir p size x=some l∧st2.ci=st.ci∧st2.met=st.met∧(∀i:Nat,st.defs[i]? =some true→st2.defs[i]? =some true)∧(x.op=4→st.defs[x.n.toNat]? ≠some true∧st2.defs[x.n.toNat]? =some true)∧ ∀i:Nat,st2.defs[i]? =some true→st.defs[i]? ≠some true→x.op=4∧x.n.toNat=i:=by
 unfold VQ at h;unfold Ir;split at h
 .rename_i h4;rw[D1 h4];split at h
  .rename_i d hd;split at h
   .rename_i hk;cases h;refine⟨by first|exact D1 hk.2|(rw[hd];exact D1 hk.2),rfl,rfl,fun i hi=>?_,fun _=>⟨by rw[hk.1];simp,?_⟩,fun i h1 h2=>⟨h4,?_⟩⟩
    .rw[HU];split
     .rename_i e;subst e;rw[D1 (BE.1 hi).1]
     .exact hi
    .rw[HU,D1 rfl,D1 (BE.1 hk.1).1]
    .rw[HU]at h1;split at h1
     .assumption
     .exact absurd h1 h2
   .cases h
  .cases h
 .rename_i h4;rw[Ci h4];cases h;exact⟨rfl,rfl,rfl,fun i h=>h,fun h=>absurd h h4,fun i h1 h2=>absurd h1 h2⟩
theorem Ua(p:AI): ∀(k:Nat) (n size:Int) (st st':Bo) (u:Nat),zZ st u→0≤size→size+70*u≤5000→Cj p k n size st=some st'→uZ p st st'∧st'.has (n,size)∧zZ st' u
 |0,n,size,st,st',u,_,_,_,h=>by cases h
 |k+1,n,size,st,st',u,hb,h0,hsz,h=>by
  rw[Cj]at h;split at h
  .rename_i hn;split at h
   .rename_i x hx;split at h
    .rename_i hok;split at h
     .rename_i l st2 h2;have h3:=jL h2;have hlen:=hb.len;have hun:=H5 hn.2;have hul:=hb.less;obtain⟨u,rfl⟩: ∃v,u=v+1:=⟨u-1,by omega⟩;have hb2:zZ st2 u:=⟨by rw[h3.2.1,h3.2.2.1];simp[Bo.meet,hlen],by rw[h3.2.2.1];simp only[Bo.meet];omega⟩;have hle:=nF h3.1;obtain⟨ha,hl,hz⟩:=TN (fun n s st st'=>Ua p k n s st st' u) hb2 (fun q hq=>by have:=hle q hq;omega) h;have hlt:=(BE.1 hn.2).1;have m2: ∀i,st2.met[i]? =if n.toNat=i then some true else st.met[i]? :=fun i=>by
       rw[h3.2.2.1,Bo.meet,HU];split
       .rename_i e;subst e;simp[hlt]
       .rfl
      have s2: ∀i,st2.ci[i]? =if n.toNat=i then some size else st.ci[i]? :=fun i=>by
       rw[h3.2.1,Bo.meet,HU];split
       .rename_i e;subst e;simp[hlen,hlt]
       .rfl
      have k2:=ha.rg n.toNat (by rw[m2,D1 rfl]);rw[s2,D1 rfl]at k2;refine⟨⟨fun i hi=>?_,fun i y hm hm0 hy=>?_,fun i hi=>ha.defs i (h3.2.2.2.1 i hi),fun i y hm hm0 hy ho=>?_,fun i hi hi0=>?_,fun i j y z hij him hin hy hoy hjm hjn hz hoz=>?_⟩,⟨hn.1,k2.1,k2.2⟩,hz.1,Nat.le_succ_of_le hz.2⟩
      .have hne:n.toNat≠i:=fun e=>by subst e;rw[hn.2]at hi;simp at hi
       have:=ha.rg i (by rw[m2,Ci hne,hi]);rw[s2,Ci hne]at this;exact this
      .by_cases hne:n.toNat=i
       .subst hne;rw[hx]at hy;cases hy;exact⟨hm,size,l,k2.2,h0,by omega,hok,h3.1,hl⟩
       .exact ha.i6 i y hm (by rw[m2,Ci hne];exact hm0) hy
      .by_cases hne:n.toNat=i
       .subst hne;rw[hx]at hy;cases hy;have:=h3.2.2.2.2.1 ho;exact⟨this.1,ha.defs _ this.2⟩
       .have:=ha.news i y hm (by rw[m2,Ci hne];exact hm0) hy ho;exact⟨fun e=>this.1 (h3.2.2.2.1 _ e),this.2⟩
      .by_cases hd:st2.defs[i]? =some true
       .have:=h3.2.2.2.2.2 i hd hi0;exact⟨_,x,hx,this⟩
       .exact ha.used i hi hd
      .by_cases hni:n.toNat=i
       .have hnj:n.toNat≠j:=fun e=>hij (hni.symm.trans e);subst hni;rw[hx]at hy;cases hy;have e1:=h3.2.2.2.2.1 hoy;have e2:=ha.news j z hjm (by rw[m2,Ci hnj];exact hjn) hz hoz;intro e;rw[e]at e1;exact e2.1 e1.2
       .by_cases hnj:n.toNat=j
        .subst hnj;rw[hx]at hz;cases hz;have e1:=h3.2.2.2.2.1 hoz;have e2:=ha.news i y him (by rw[m2,Ci hni];exact hin) hy hoy;intro e;rw[←e]at e1;exact e2.1 e1.2
        .exact ha.diff i j y z hij him (by rw[m2,Ci hni];exact hin) hy hoy hjm (by rw[m2,Ci hnj];exact hjn) hz hoz
     .cases h
    .cases h
   .cases h
  .cases h
structure BC(p:AI)(ci:List Int):Prop where
 small:p.small=true
 len:ci.length=p.nodes.length
 main:0≤p.main∧ci[p.main.toNat]? =some (p.free.length:Int)
 node: ∀(i:Nat) (x:CR),p.nodes[i]? =some x→ ∃(s:Int) (l:List (Int×Int)),ci[i]? =some s∧0≤s∧s≤5000∧Dn p s x=true∧Ir p s x=some l∧ ∀q∈l,0≤q.1∧ci[q.1.toNat]? =some q.2
 used: ∀n:Nat,n<p.defs.length→ ∃(i:Nat) (x:CR),p.nodes[i]? =some x∧x.op=4∧x.n.toNat=n
 diff: ∀(i j:Nat) (x y:CR),i≠j→p.nodes[i]? =some x→x.op=4→p.nodes[j]? =some y→y.op=4→x.n.toNat≠y.n.toNat
theorem eN{l:List Bool}(h:l.all id=true){i:Nat}(hi:i<l.length):l[i]? =some true:=by
 have:=Ce.1 h _ (MD hi);rw[BV hi];simpa using this
theorem Et{p:AI}{st:Bo}(h:looks p=some st):BC p st.ci:=by
 unfold looks at h;split at h
 .rename_i hs;split at h
  .rename_i st' hv;split at h
   .rename_i hall;cases h;have hsm:=hs.1;simp only[AI.small,AP,Ap]at hsm;have hg:=Ej p _ _ _ _ _ hv;have hun:=SB (Bo.init p).met;have hil:(Bo.init p).met.length=p.nodes.length:=by simp[Bo.init]
    have ha:=Ua p _ _ _ _ _ 60 ⟨by simp[Bo.init],by omega⟩ (by omega) (by omega) hv;have hm:st.met.length=p.nodes.length:=by rw[hg.met];simp[Bo.init]
    have hz:st.ci.length=p.nodes.length:=by rw[hg.ci];simp[Bo.init]
    have hd:st.defs.length=p.defs.length:=by rw[hg.defs];simp[Bo.init]
    have hmet: ∀{i x},p.nodes[i]? =some x→st.met[i]? =some true:=fun{i x} hx=>eN hall.1 (by rw[hm];exact(BE.1 hx).1);have h0: ∀i:Nat,(Bo.init p).met[i]? ≠some true:=fun i=>by
     simp only[Bo.init,List.getElem?_replicate];split<;>simp
    have hd0: ∀i:Nat,(Bo.init p).defs[i]? ≠some true:=fun i=>by
     simp only[Bo.init,List.getElem?_replicate];split<;>simp
    refine⟨hs.1,hz,⟨ha.2.1.1,ha.2.1.2.2⟩,fun i x hx=>?_,fun n hn=>ha.1.used n (eN hall.2 (by omega)) (hd0 n),fun i j x y hij hx hox hy hoy=>ha.1.diff i j x y hij (hmet hx) (h0 _) hx hox (hmet hy) (h0 _) hy hoy⟩;obtain⟨_,s,l,h1,hp,hb,h2,h3,h4⟩:=ha.1.i6 i x (hmet hx) (h0 _) hx;exact⟨s,l,h1,hp,hb,h2,h3,fun q hq=>⟨(h4 q hq).1,(h4 q hq).2.2⟩⟩
   .cases h
  .cases h
 .cases h
end Go.Proofs
namespace Go.Proofs
open Go Go.Abs
def Nk(ci:List Int)(x:CR):Int:=((x.kids[0]?).map fun k=>(ci[k.toNat]?).getD 0).getD 0
def GK(ci:List Int):List Int→List CR→List Int
 |out,[]=>out
 |out,x::l=>GK ci (if x.op=4 then out.set x.n.toNat (Nk ci x)else out) l
def Bs(p:AI)(ci:List Int):List Int:=GK ci (List.replicate p.defs.length 0) p.nodes
theorem Ng(ci:List Int): ∀(l:List CR) (out:List Int),(GK ci out l).length=out.length
 |[],out=>rfl
 |x::l,out=>by
  rw[GK,Ng ci l];split<;>simp
theorem Nf(ci:List Int)(n:Nat)(v:Int): ∀(l:List CR) (out:List Int),n<out.length→(∀x∈l,x.op=4→x.n.toNat=n→Nk ci x=v)→(out[n]? =some v∨ ∃x∈l,x.op=4∧x.n.toNat=n)→(GK ci out l)[n]? =some v
 |[],out,hn,h1,h2=>by
  rcases h2 with h|⟨x,hx,_⟩
  .exact h
  .cases hx
 |x::l,out,hn,h1,h2=>by
  rw[GK];refine Nf ci n v l _ (by split<;>simpa using hn) (fun y hy=>h1 y (FD _ hy)) ?_;by_cases hx:x.op=4∧x.n.toNat=n
  .left;rw[D1 hx.1,HU,D1 hx.2,hx.2,D1 hn,h1 x (by simp) hx.1 hx.2]
  .rcases h2 with h|⟨y,hy,hyo⟩
   .left;split
    .rename_i ho;rw[HU,Ci fun e=>hx ⟨ho,e⟩];exact h
    .exact h
   .rcases DO.1 hy with rfl|hy
    .exact absurd hyo hx
    .exact .inr ⟨y,hy,hyo⟩
structure uf(p:AI)(ci:List Int)(n:Nat)(d:CF):Prop where
 ok:P9 d
 node: ∃(i:Nat) (x:CR) (s:Int),p.nodes[i]? =some x∧x.op=4∧x.n.toNat=n∧ci[i]? =some s∧0≤s∧s≤5000∧(Bs p ci)[n]? =some (s+d.own)∧(∀r∈d.rules,0≤r.node∧ci[r.node.toNat]? =some (s+d.own+DB d r.eq))∧(∀y∈d.ac,0≤y.node∧ci[y.node.toNat]? =some (s+d.own))∧ ∃k,x.kids=[k]∧0≤k∧ci[k.toNat]? =some (s+d.own)
theorem B3{p:AI}{ci:List Int}(h:BC p ci){n:Nat}{d:CF}(hd:p.defs[n]? =some d):uf p ci n d:=by
 have hn:=(BE.1 hd).1;obtain⟨i,x,hx,hxo,hxn⟩:=h.used n hn;obtain⟨s,l,hs,h0,hb,hok,hl,hq⟩:=h.node i x hx;have hl2:=hl;rw[Ir,D1 hxo,hxn,hd]at hl2;dsimp only at hl2;split at hl2
 .rename_i hg;cases hl2;have hkids: ∃k,x.kids=[k]:=by
   simp only[Dn,AP,Ap]at hok;have:=hok.1;rw[hxo]at this;simp only[FY]at this;have:x.kids.length=1:=by simpa using this.symm
   match hk:x.kids,this with
   |[k],_=>exact⟨k,rfl⟩
  obtain⟨k,hk⟩:=hkids;have hkq:0≤k∧ci[k.toNat]? =some (s+d.own):=hq (k,s+d.own) (by simp[DC,hk]);refine⟨Ve hg,i,x,s,hx,hxo,hxn,hs,h0,hb,?_,fun r hr=>?_,fun y hy=>?_,k,hk,hkq⟩
  .refine Nf ci n _ p.nodes _ (by simpa using hn) (fun y hy hyo hyn=>?_) (.inr ⟨x,Ac hx,hxo,hxn⟩);obtain⟨j,hj⟩:=Hm hy;by_cases hij:i=j
   .subst hij;rw[hx]at hj;cases hj;simp[Nk,hk,hkq.2]
   .exact absurd (hxn.trans hyn.symm) (h.diff i j x y hij hx hxo hj hyo)
  .exact hq (r.node,s+d.own+DB d r.eq) (by simp only[HL,D5,Em];exact .inl ⟨r,hr,rfl⟩)
  .exact hq (y.node,s+d.own) (by simp only[GU,D5,Em];exact .inr (.inl ⟨y,hy,rfl⟩))
 .cases hl2
def Ak.own(d:CF)(g:Ak)(ch:Bool)(n:Int):Int:=((g.env[g.env.length-d.ac.length-(if ch then d.be.length else 0)+n.toNat]?).map CW.n).getD 0
def Ak.place(d:CF)(g:Ak)(n:Int):Int:=if n=0 then g.at_ else g.own d false (n-1)
def AX(l:List A7)(i:Int):Bool:=((l[i.toNat]?).map A7.dead).getD false
def Ha(p:AI)(nc ns:Nat)(many:Int)(m:List CW):Bool:=decide ((m.length:Int)=many)&&m.all (CW.inB p nc ns)
def PC(p:AI)(s:A9)(d:CF)(g:Ak)(i j:Nat)(q:Fg)(ch:HS):Bool:=
 decide (q.group=i)&&(decide (q.index=j)&&(decide (q.at_=g.place d ch.at_)&&(decide (q.queue.length≤12)&&((decide (q.queue.length=0)|| !AX s.ac q.at_)&&q.queue.all (Ha p s.be.length s.ac.length ch.many)))))
def MI(p:AI)(s:A9)(d:CF)(g:Ak)(i j a:Nat)(ch:HS):Bool:=match s.be[a]? with|some q=>PC p s d g i j q ch|none=>false
def GA(p:AI)(s:A9)(d:CF)(g:Ak)(i c:Nat):Nat→List HS→Bool
 |_,[]=>true
 |j,ch::l=>MI p s d g i j (c+j) ch&&GA p s d g i c (j+1) l
def E6(c k:Nat)(d:CF):List CW:=(List.range' c d.be.length).map (fun(j:Nat)=>⟨3,(j:Int)⟩)++(List.range' k d.ac.length).map (fun(j:Nat)=>⟨4,(j:Int)⟩)
def EB(d:CF)(c k:Nat)(g:Ak):Bool:=decide (g.env.drop (g.env.length-d.be.length-d.ac.length)=E6 c k d)
def KY(p:AI)(gs:List Int)(s:A9)(i c k:Nat)(g:Ak)(d:CF):Bool:=
 decide (En s.ac g.at_)&&(decide ((g.env.length:Int)=(gs[g.ge.toNat]?).getD 0)&&(g.env.all (CW.inB p s.be.length s.ac.length)&&(EB d c k g&&GA p s d g i c 0 d.be)))
def AI.def? (p:AI)(n:Int):Option CF:=if 0≤n then p.defs[n.toNat]? else none
def E4(p:AI)(gs:List Int)(s:A9):Nat→Nat→Nat→List Ak→Bool
 |_,c,k,[]=>decide (c=s.be.length)&&decide (k=s.ac.length)
 |i,c,k,g::l=>match p.def? g.ge with
  |some d=>KY p gs s i c k g d&&E4 p gs s (i+1) (c+d.be.length) (k+d.ac.length) l
  |none=>false
def EZ(op:Int):Bool:=decide (op=6)||(decide (op=7)||decide (op=8))
def CD(p:AI)(ci:List Int)(s:A9)(w:Fk):Bool:=
 decide (En s.ac w.at_)&&(!AX s.ac w.at_&&(decide (0≤w.node)&&((match p.nodes[w.node.toNat]? with|some x=>EZ x.op|none=>false)&&(decide ((w.env.length:Int)=(ci[w.node.toNat]?).getD 0)&&w.env.all (CW.inB p s.be.length s.ac.length)))))
def IJ(l:List A7):List A7→Bool
 |[]=>true
 |x::m=>(x.dead|| !AX l x.un)&&IJ l m
def A9.small(s:A9):Bool:=decide (s.ac.length≤24)&&(decide (s.bv.length≤40)&&(decide (s.be.length≤60)&&decide (s.waits.length≤40)))
def Dr(p:AI)(ci:List Int)(s:A9):Bool:=
 s.small&&(Iu s.ac&&(IJ s.ac (s.ac.drop 1)&&(E4 p (Bs p ci) s 0 0 1 s.bv&&s.waits.all (CD p ci s))))
end Go.Proofs
namespace Go.Proofs
open Go Go.Abs
theorem Qh{p:AI}{ci:List Int}(h:BC p ci){i:Nat}{x:CR}(hx:p.nodes[i]? =some x)(ho:x.op=4):0≤x.n∧x.n<p.defs.length∧ ∃k v,x.kids=[k]∧0≤k∧ci[k.toNat]? =some v∧Nk ci x=v∧0≤v∧v≤5070:=by
 obtain⟨s,l,hs,h0,hb,hok,hl,hq⟩:=h.node i x hx;simp only[Dn,AP,Ap]at hok;have hn:=hok.2.1;rw[uY,Ci (by rw[ho];decide),D1 ho]at hn;have hn:=of_decide_eq_true hn;refine⟨hn.1,hn.2,?_⟩;have hk:=hok.1;rw[ho]at hk;simp only[FY]at hk;have hkl:x.kids.length=1:=by simpa using hk.symm
 match hkk:x.kids,hkl with
 |[k],_=>
  have hl2:=hl;rw[Ir,D1 ho]at hl2;split at hl2
  .rename_i d hd;split at hl2
   .rename_i hg;cases hl2;have hkq:0≤k∧ci[k.toNat]? =some (s+d.own):=hq (k,s+d.own) (by simp[DC,hkk]);have:=Re (Ve hg);exact⟨k,s+d.own,rfl,hkq.1,hkq.2,by simp[Nk,hkk,hkq.2],by omega,by omega⟩
   .cases hl2
  .cases hl2
end Go.Proofs
namespace Go.Proofs
open Go Go.Abs
theorem Mr(c k:Nat)(d:CF):(E6 c k d).length=d.own:=by simp[E6,CF.own]
variable{j:Nat}
theorem PS(c k:Nat)(d:CF)(h:j<d.be.length):(E6 c k d)[j]? =some ⟨3,(c:Int)+(j:Int)⟩:=by
 rw[E6,Be (by simpa using h),Cs,List.getElem?_range' h];simp
theorem PT(c k:Nat)(d:CF)(h:j<d.ac.length):(E6 c k d)[d.be.length+j]? =some ⟨4,(k:Int)+(j:Int)⟩:=by
 rw[E6,CI (by simp)];simp only[BY,List.length_range'];rw[Nat.add_sub_cancel_left,Cs,List.getElem?_range' h];simp
variable{c k:Nat}{g:Ak}
theorem YF{d:CF}(h:EB d c k g=true)(j:Nat):g.env[g.env.length-d.be.length-d.ac.length+j]? =(E6 c k d)[j]? :=by
 have h:=of_decide_eq_true h;rw[←h,Gs]
theorem Ts{d:CF}(h:EB d c k g=true)(hj:j<d.be.length):g.env[g.env.length-d.be.length-d.ac.length+j]? =some ⟨3,(c:Int)+(j:Int)⟩:=by
 rw[YF h,PS _ _ _ hj]
theorem Tt{d:CF}(h:EB d c k g=true)(he:d.own≤g.env.length)(hj:j<d.ac.length):g.env[g.env.length-d.ac.length+j]? =some ⟨4,(k:Int)+(j:Int)⟩:=by
 unfold CF.own at he;have:=YF h (d.be.length+j);rw[PT _ _ _ hj]at this;rw[←this];congr 1;omega
theorem Rj{d:CF}(h:EB d c k g=true)(he:d.own≤g.env.length){n:Int}(h1:1≤n)(h2:n≤d.ac.length):g.place d n=(k:Int)+(n-1):=by
 rw[Ak.place,Ci (by omega),Ak.own];simp only[AM,Ex,Nat.sub_zero];rw[Tt h he (j:=(n-1).toNat) (by omega)];simp only[D9,F4];omega
theorem LD{d:CF}(h:EB d c k g=true){n:Int}(h1:0≤n)(h2:n<d.be.length):g.own d true n=(c:Int)+n:=by
 rw[Ak.own];simp only[F5];have:=Ts h (j:=n.toNat) (by omega);rw[show g.env.length-d.ac.length-d.be.length+n.toNat=g.env.length-d.be.length-d.ac.length+n.toNat by omega,this];simp only[D9,F4];omega
theorem Ri{p:AI}{s:A9}{d:CF}(h:EB d c k g=true)(he:d.own≤g.env.length)(hat:En s.ac g.at_)(hv:g.env.all (CW.inB p s.be.length s.ac.length)=true){n:Int}(h1:0≤n)(h2:n≤d.ac.length):En s.ac (g.place d n):=by
 by_cases h0:n=0
 .rw[Ak.place,D1 h0];exact hat
 .rw[Rj h he (by omega) h2];have hg:=Tt h he (j:=(n-1).toNat) (by omega);have:=Ce.1 hv _ (Ac hg);simp[CW.inB]at this;have e:((n-1).toNat:Int)=n-1:=OR (by omega);constructor
  .omega
  .omega
structure B7 where
 d9:A9
 ev:List Du
 work:Int
structure Fq where
 node:Int
 at_:Int
 env:List CW
def CY{α:Type}(l:List α)(i:Int):List α:=l.take i.toNat++l.drop (i.toNat+1)
def Hb(l:List CW)(i:Int):CW:=(l[i.toNat]?).getD ⟨0,0⟩
def Dc(p:AI)(s:A9)(q:Fg):Int:=(((s.bv[q.group.toNat]?).bind fun g=>(p.defs[g.ge.toNat]?).bind fun d=>d.be[q.index.toNat]?).map HS.many).getD 0
def W5(s:A9)(n:Int)(q:Fg)(l:List CW):Option A9:=if q.queue.length<12 then some {s with be:=s.be.set n.toNat {q with queue:=q.queue++[l]}}else none
def O1(p:AI)(s:A9)(n:Int)(l:List CW):Option A9:=match s.be[n.toNat]? with
 |some q=>if AX s.ac q.at_=false∧Dc p s q=l.length then W5 s n q l else some s
 |none=>some s
def ADl(at_ n:Int)(l:List CW):Du:=⟨5,at_,n,0,l⟩
def Dy(p:AI)(x:CR)(j:Fq)(st:B7):Option B7:=
 let l:=x.args.map (·.value j.env)
 let to:=Hb j.env x.n
 if to.kind=2 then some {st with ev:=st.ev++[ADl j.at_ to.n l]}
 else if to.kind=3 then(O1 p st.d9 to.n l).map fun s=>{st with d9:=s}else some st
def Eh(d:CF)(g:Ak)(i:Nat):Nat→List HS→List Fg
 |_,[]=>[]
 |k,c::l=>⟨i,k,g.place d c.at_,[]⟩::Eh d g i (k+1) l
def Cq(d:CF)(g:Ak)(l:List MG):List A7:=l.map fun y=>⟨g.place d y.un,false⟩
def Ad(s:A9)(d:CF)(n:Int)(j:Fq):Ak:=⟨n,j.at_,j.env++E6 s.be.length s.ac.length d⟩
def Bu(s:A9)(d:CF)(g:Ak):A9:={s with bv:=s.bv++[g],be:=s.be++Eh d g s.bv.length 0 d.be,ac:=s.ac++Cq d g d.ac}
def DA(d:CF)(g:Ak):Nat→List MG→List Fq
 |_,[]=>[]
 |k,y::l=>⟨y.node,g.place d (k+1),g.env⟩::DA d g (k+1) l
def BN(x:CR)(k:Nat)(at_:Int)(env:List CW):List Fq:=match x.kids[k]? with
 |some n=>[⟨n,at_,env⟩]
 |none=>[]
def G9(p:AI)(x:CR)(j:Fq)(st:B7):Option (B7×List Fq):=match p.defs[x.n.toNat]? with
 |some d=>
  let g:=Ad st.d9 d x.n j
  let s:=Bu st.d9 d g
  if s.be.length≤60∧s.ac.length≤24∧s.bv.length≤40 then some ({st with d9:=s},DA d g 0 d.ac++BN x 0 j.at_ g.env)else none
 |none=>none
def Tg(x:CR)(env:List CW):Nat:=match x.args[0]? with
 |some e=>if (e.value env).kind=1∧(e.value env).n≠0 then 0 else 1
 |none=>1
def Hh(j:Fq)(st:B7):Option B7:=if st.d9.waits.length<40 then some {st with d9:={st.d9 with waits:=st.d9.waits++[⟨j.at_,j.node,j.env⟩]}}else none
def JC(p:AI)(j:Fq)(st:B7):Option (B7×List Fq):=match p.nodes[j.node.toNat]? with
 |some x=>
  if x.op=2 then(Dy p x j st).map fun st=>(st,[])
  else if x.op=3 then some (st,BN x 0 j.at_ j.env++BN x 1 j.at_ j.env)
  else if x.op=4 then G9 p x j st
  else if x.op=5 then some (st,BN x (Tg x j.env) j.at_ j.env)
  else if EZ x.op=true then(Hh j st).map fun st=>(st,[])
  else some (st,[])
 |none=>none
def BZ(f:Fq→B7→Option B7):List Fq→B7→Option B7
 |[],st=>some st
 |j::l,st=>(f j st).bind (BZ f l)
def Mb(f:Fq→B7→Option B7):Option (B7×List Fq)→Option B7
 |some (st,js)=>BZ f js st
 |none=>none
def FX(p:AI):Nat→Fq→B7→Option B7
 |0,_,_=>none
 |k+1,j,st=>if st.work<400 then Mb (FX p k) (JC p j {st with work:=st.work+1})else none
def pm(p:AI)(s:A9)(w:Fk):Bool:=match p.nodes[w.node.toNat]? with
 |some x=>if x.op=7 then true else
  let v:=Hb w.env x.n
  if v.kind=4 then(if x.op=8 then AX s.ac v.n else decide (w.at_≠0)&&(!AX s.ac v.n&& !Cc s.ac v.n w.at_))else false
 |none=>false
def DM(p:AI)(s:A9):Nat→List Fk→List FU
 |_,[]=>[]
 |i,w::l=>(if pm p s w=true then [⟨i,0,0,[]⟩]else [])++DM p s (i+1) l
def DS:List Nat→List (List Int)
 |[]=>[[]]
 |n::l=>(List.range n).flatMap fun(i:Nat)=>(DS l).map fun t=>(i:Int)::t
def Sn(s:A9)(c:Int):Nat:=((s.be[c.toNat]?).map fun q=>q.queue.length).getD 0
def Bq(s:A9)(d:CF)(g:Ak)(r:GX):List Nat:=r.eq.map fun c=>Sn s (g.own d true c)
def EP(s:A9)(d:CF)(g:Ak)(r:GX):List (List Int):=if AX s.ac (g.place d r.at_)=true then []else DS (Bq s d g r)
def B5(s:A9)(d:CF)(g:Ak)(i:Nat):Nat→List GX→List FU
 |_,[]=>[]
 |k,r::l=>((EP s d g r).map fun t=>⟨-1,i,k,t⟩)++B5 s d g i (k+1) l
def C6(p:AI)(s:A9):Nat→List Ak→List FU
 |_,[]=>[]
 |i,g::l=>(match p.def? g.ge with|some d=>B5 s d g i 0 d.rules|none=>[])++C6 p s (i+1) l
def CC(p:AI)(s:A9):List FU:=DM p s 0 s.waits++C6 p s 0 s.bv
def Ez(s:A9)(c:Int)(k:Int):List CW×A9:=match s.be[c.toNat]? with
 |some q=>(((q.queue[k.toNat]?).getD []),{s with be:=s.be.set c.toNat {q with queue:=CY q.queue k}})
 |none=>([],s)
def BQ(d:CF)(g:Ak):List Int→List Int→A9→List CW×A9
 |c::cs,k::ks,s=>((Ez s (g.own d true c) k).1++(BQ d g cs ks (Ez s (g.own d true c) k).2).1,(BQ d g cs ks (Ez s (g.own d true c) k).2).2)
 |_,_,s=>([],s)
def P3(p:AI)(x:FU)(d:CF)(g:Ak)(r:GX)(s:A9):Option B7:=
 let t:=BQ d g r.eq x.picks s
 let at_:=g.place d r.at_
 FX p 401 ⟨r.node,at_,g.env++t.1⟩ ⟨t.2,[⟨1,at_,x.group,x.wd,t.1⟩],0⟩
def fL(p:AI)(s:A9)(x:FU):Option B7:=match s.bv[x.group.toNat]? with
 |some g=>match p.defs[g.ge.toNat]? with
  |some d=>match d.rules[x.wd.toNat]? with
   |some r=>P3 p x d g r s
   |none=>none
  |none=>none
 |none=>none
def GF(l:List A7)(at_:Int):Nat→List A7→List A7
 |_,[]=>[]
 |i,x::m=>{x with dead:=x.dead||Cc l i at_}::GF l at_ (i+1) m
def OW(s:A9)(at_:Int):A9:=
 let l:=GF s.ac at_ 0 s.ac
 {ac:=l,bv:=s.bv,be:=s.be.map fun q=>if AX l q.at_=true then{q with queue:=[]}else q,waits:=s.waits.filter fun w=> !AX l w.at_}
def Gd(l:List A7)(i n:Int):List A7:=match l[i.toNat]? with
 |some x=>l.set i.toNat {x with un:=n}
 |none=>l
def LX(p:AI)(s:A9)(w:Fk)(x:CR):Option B7:=
 let n:=(Hb w.env x.n).n
 if x.op=7 then some ⟨OW s w.at_,[⟨3,w.at_,0,0,[]⟩],0⟩
 else if x.op=6 then BZ (FX p 401) (BN x 0 w.at_ w.env) ⟨{s with ac:=Gd s.ac w.at_ n},[⟨2,w.at_,n,0,[]⟩],0⟩
 else BZ (FX p 401) (BN x 0 w.at_ w.env) ⟨s,[⟨4,w.at_,n,0,[]⟩],0⟩
def OE(p:AI)(s:A9)(i:Int):Option B7:=match s.waits[i.toNat]? with
 |some w=>match p.nodes[w.node.toNat]? with
  |some x=>LX p {s with waits:=CY s.waits i} w x
  |none=>none
 |none=>none
def Ed(p:AI)(s:A9)(x:FU):Option B7:=if x.wait<0 then fL p s x else OE p s x.wait
def EI(l:List FU)(k:Int):Option FU:=l[(max k 0).toNat % l.length]?
def DU(p:AI):List Int→A9→List Du→Option (A9×List Du)
 |[],s,ev=>some (s,ev)
 |k::ks,s,ev=>match EI (CC p s) k with
  |some x=>match Ed p s x with
   |some m=>DU p ks m.d9 (ev++m.ev)
   |none=>none
  |none=>some (s,ev)
structure eI(p:AI)(s:A9)(q:Fg):Prop where
 at_:En s.ac q.at_
 g0:0≤q.group
 i0:0≤q.index
 ex: ∃g d ch,s.bv[q.group.toNat]? =some g∧0≤g.ge∧p.defs[g.ge.toNat]? =some d∧d.be[q.index.toNat]? =some ch
 len:q.queue.length≤12
end Go.Proofs
namespace Go.Abs
theorem bU(k:IntKind)(a b:Int)(v:AV)(es:List (AR×AV)):Ca ((.int k a,v)::es) (.int k b)=if a=b then some (some v)else Ca es (.int k b):=by
 rw[Ca];by_cases h:a=b
 .have hb:(a==b)=decide (a=b):=by rw[OP];simp
  simp[GY,h,hb]
 .have hb:(a==b)=decide (a=b):=by rw[OP];simp
  simp[GY,h,hb]
attribute [go_sem] bU
end Go.Abs
namespace Go.Proofs
open Go Go.Abs
def Iz:List (AR×AV):=[(.int .i64 2,.fn 110 [] []),(.int .i64 3,.fn 111 [] []),(.int .i64 4,.fn 112 [] []),(.int .i64 5,.fn 113 [] []),(.int .i64 6,.fn 114 [] []),(.int .i64 7,.fn 114 [] []),(.int .i64 8,.fn 114 [] [])]
def Aq(x:Fg)(v:AV):List AV:=[.d (.int .i64 x.group),.d (.int .i64 x.index),.d (.int .i64 x.at_),v]
end Go.Proofs
namespace Go.Proofs
open Go Go.Abs
set_option maxRecDepth 100000
set_option maxHeartbeats 2000000
def CA(n:Int):AV:=.iface 177 (.agg [.d (.int .i64 n)])
theorem aR(n:Int):flat (CA n)=true:=by simp[CA,flat,E0,Dg]
attribute [go_sem] aR
@[go_sem] theorem ACq(n:Int):BU (KL Tryz.prog cfg) 107 [.d (.int .i64 n)] []=.ok (.f9 (CA n),[]):=by
  (refine Ao rfl Tryz.func107 rfl rfl rfl ?_;show Wp _ _ _ _ (Tryz.f107.body.get rfl) _ _;simp only[Tryz.f107,AS])
  (repeat' (first|simp only[go_sem, *,CA]|(refine sx ?_ ?_<;>intro hc)|refine sy (by omega) fun x hx hm=>?_|simp(disch:=first|assumption|omega) only[AN]))
@[go_sem] theorem AC6(t:Bool):BU (KL Tryz.prog cfg) 62 [.d (.bool t)] []=Bf (CA 2) t:=by
  cases t
  .rw[JR]
   (refine Ao rfl Tryz.func62 rfl rfl rfl ?_;show Wp _ _ _ _ (Tryz.f62.body.get rfl) _ _;simp only[Tryz.f62,AS])
   exact au
  .rw[KS]
   (refine Ao rfl Tryz.func62 rfl rfl rfl ?_;show Wp _ _ _ _ (Tryz.f62.body.get rfl) _ _;simp only[Tryz.f62,AS])
   exact au
def UD(x:Bt)(size depth left:Int):Prop:=(x.size:Int)≤left∧depth+x.depth≤13∧x.formed size=true
theorem AA5(x:Bt)(size:Int):UD x size 1 60↔x.ok size=true:=by
 simp only[UD,Bt.ok,AP,Ap];constructor
 .rintro⟨h1,h2,h3⟩;exact⟨by omega,by omega,h3⟩
 .rintro⟨h1,h2,h3⟩;exact⟨by omega,by omega,h3⟩
end Go.Proofs
namespace Go.Abs
variable{P:Program}{C:B9}{K:AK}{fr:Fr}{b n i:Nat}{Q:DW→St→Prop}
variable{ops:Array Oper}{al:Nat→Bool}{l:List Oper}{e:BT}{h:AB}{bs:Nat}{ds:List Df}{ps:List (Nat×Nat)}{fps:List Fp}{ρ:List Nat}{dst:Option Tmp}
theorem Vy(ρ:List Nat):JS (some ρ) []=true:=rfl
theorem uI(ρ:List Nat)(id:Id)(o:Obj)(δ:AB):JS (some ρ) ((id,o)::δ)=(Id.under ρ id&&JS (some ρ) δ):=rfl
theorem J0(ρ:List Nat)(a j:Nat):Id.under ρ (a::j::ρ)=true:=under_iff.2 ⟨[a,j],rfl⟩
theorem Cu{Post:AZ→Prop}{q:E (AZ×AB)}(hk: ∃o h',q=.ok (o,h')∧Post o)(hn: ∀o h',Post o→roP C K fr ops b n al l i dst e h bs ds Q (.ok (o,h'))):roP C K fr ops b n al l i dst e h bs ds Q q:=by
 obtain⟨o,h',e,hp⟩:=hk;rw[e];exact hn o h' hp
theorem yk(v:AV)(h':AB):roP C K fr ops b n al l i dst e h bs ds Q (.ok (.ret v,h'))=(flat v=true∧E7 C K fr ops b n al l (i+1) ⟨B8 e dst v,h,bs,ds⟩ Q):=rfl
theorem yj(v:AV)(h':AB):roP C K fr ops b n al l i dst e h bs ds Q (.ok (.f9 v,h'))=(flat v=true∧al i=true∧Q (.f9 v) ⟨e,h,b+n,ds⟩):=rfl
def roF(C:B9)(K:AK)(fr:Fr)(ops:Array Oper)(b n:Nat)(al:Nat→Bool)(ps:List (Nat×Nat))(fps:List Fp)(l:List Oper)(i:Nat)(dst:Option Tmp)(e:BT)(h:AB)(bs:Nat)(ds:List Df)(Q:DW→St→Prop):E (AZ×AB)→Prop
 |.ok (.ret v,_)=>flat v=true∧Fo C K fr ops b n al ps (fps++[⟨none,some []⟩]) l (i+1) ⟨B8 e dst v,h,bs,ds⟩ Q
 |.ok (.f9 v,_)=>flat v=true∧al i=true∧DE fps ps=true∧Q (.f9 v) ⟨e,h,b+n,ds⟩
 |.err _=>False
theorem r9(dst:Option Tmp)(ρ:List Nat)(f:FuncId)(az:List AV)(hx:(DQ h.get az).isNone):KZ C K fr ops b n al ps fps l i dst ρ e h bs ds Q f az .ro=roF C K fr ops b n al ps fps l i dst e h bs ds Q (K (.fn f) (LV h.get az) (h.puts (az.flatMap (mark h.get))) ρ true (some ρ)):=by
 have hx:DQ h.get az=none:=by simpa using hx
 simp only[KZ,C5,hx,Ea,A3,BO,Aa];cases K (.fn f) (LV h.get az) (h.puts (az.flatMap (mark h.get))) ρ true (some ρ)with
 |err l=>rfl
 |ok r=>
  obtain⟨o,h'⟩:=r;cases o<;>simp only[N7,roF,Aw]<;>split<;>simp_all [Bd]
theorem Cf{Post:AZ→Prop}{q:E (AZ×AB)}(hk: ∃o h',q=.ok (o,h')∧Post o)(hn: ∀o h',Post o→roF C K fr ops b n al ps fps l i dst e h bs ds Q (.ok (o,h'))):roF C K fr ops b n al ps fps l i dst e h bs ds Q q:=by
 obtain⟨o,h',e,hp⟩:=hk;rw[e];exact hn o h' hp
theorem yi(v:AV)(h':AB):roF C K fr ops b n al ps fps l i dst e h bs ds Q (.ok (.ret v,h'))=(flat v=true∧Fo C K fr ops b n al ps (fps++[⟨none,some []⟩]) l (i+1) ⟨B8 e dst v,h,bs,ds⟩ Q):=rfl
theorem yh(v:AV)(h':AB):roF C K fr ops b n al ps fps l i dst e h bs ds Q (.ok (.f9 v,h'))=(flat v=true∧al i=true∧DE fps ps=true∧Q (.f9 v) ⟨e,h,b+n,ds⟩):=rfl
theorem y7(ρ:List Nat)(a j:Nat)(o:Obj)(δ:AB):JS (some ρ) ((a::j::ρ,o)::δ)=JS (some ρ) δ:=by rw[uI,J0,F1]
attribute [go_sem] Vy y7 yk yj r9 yi yh
end Go.Abs
namespace Go.Proofs
open Go Go.Abs
set_option maxRecDepth 100000
set_option maxHeartbeats 4000000
def Ie(π:List Nat)(sz n:Nat)(es:List (List AR)):AZ×AB:=if n=0 then(.ret .co,[])else(.ret (.f8 (1::0::π) 0 n),[(1::0::π,.d7 sz es)])
theorem pa(f:FuncId)(hmd:cfg.mode f=.auto)(l:List A7)(hf: ∀x∈l,BU (KL Tryz.prog cfg) f [.agg [.d (.int .i64 (x.un)),.d (.bool (x.dead))]] []=.ok (.ret (.agg [.d (.int .i64 (x.un)),.d (.bool (x.dead))]),[]))(hl:l.length≤1000000)(k:Nat)(ρ:List Nat):BU (KL Tryz.prog cfg) 148 [.d (.ce (l.map Aj)),.fn f [] []] (k::ρ)=.ok (Ie (k::ρ) 2 l.length (l.map Aj)):=by
 (refine Ao rfl Tryz.func148 rfl rfl rfl ?_;show Wp _ _ _ _ (Tryz.f148.body.get rfl) _ _;simp only[Tryz.f148,AS])
 refine aw ?_;refine AU l _ (S:=fun m i (a:(AV×AB)×Nat)=>⟨[(1,.fn f [] []),(5,a.1.1),(8,.d (.ce (l.map Aj))),(9,.d (.int .i64 (m))),(10,.d (.int .i64 (i)))],a.1.2,a.2,[]⟩)
  (Inv:=fun i rest a=>AA (i=0∧a=((.co,[]),0)∨0<i∧a=((.f8 (1::0::k::ρ) 0 i,[(1::0::k::ρ,.d7 2 ((l.take i).map Aj))]),1))) (b0:=((_,[]),_)) ?_ ⟨.inl ⟨rfl,rfl⟩⟩ ?_ ?_
 .rfl
 .rintro i x a hy hi him hv IH;have hx:=hf x (Ac hy);replace hf:=AA.mk hf;rcases hv.out with⟨rfl,rfl⟩|⟨hi0,rfl⟩
  .clear hv;have him0:(0:Int)<l.length:=him;dsimp only at*;refine aw ?_;refine IH.out ((_,_),_) ⟨.inr ⟨by omega,?_⟩⟩;rw[I7,hy];rfl
  .clear hv;dsimp only at*;have tk:(l.take i).length=i:=by simp;omega
   have nle: ¬i+1≤i:=by omega
   refine aw ?_;refine IH.out ((_,_),_) ⟨.inr ⟨by omega,?_⟩⟩;have tk2:List.take i (List.map Aj (List.take i l))=List.map Aj (List.take i l):=DL (by simp;omega);rw[I7,hy,tk2,By];rfl
 .rintro i a hi him hv;replace hf:=AA.mk hf;rcases hv.out with⟨rfl,rfl⟩|⟨hi0,rfl⟩
  .clear hv;have him0: ¬(0:Int)<l.length:=him;dsimp only at*;have hl0:=AA.mk (hi.out.symm);refine aw ?_;rw[Ie,D1 hl0.out]
  .clear hv;dsimp only at*;by_cases h0:l.length=0
   .exfalso;have:=hi.out;omega
   .rw[Ie,Ci h0];have hi2:=hi.out;subst hi2;rw[EM];exact au
theorem gv(f:FuncId)(hmd:cfg.mode f=.auto)(l:List Ak)(hf: ∀x∈l,BU (KL Tryz.prog cfg) f [.agg [.d (.int .i64 (x.ge)),.d (.int .i64 (x.at_)),.d (.ce (x.env.map AJ))]] []=.ok (.ret (.agg [.d (.int .i64 (x.ge)),.d (.int .i64 (x.at_)),.d (.ce (x.env.map AJ))]),[]))(hl:l.length≤1000000)(k:Nat)(ρ:List Nat):BU (KL Tryz.prog cfg) 150 [.d (.ce (l.map A8)),.fn f [] []] (k::ρ)=.ok (Ie (k::ρ) 3 l.length (l.map A8)):=by
 (refine Ao rfl Tryz.func150 rfl rfl rfl ?_;show Wp _ _ _ _ (Tryz.f150.body.get rfl) _ _;simp only[Tryz.f150,AS])
 refine aw ?_;refine AU l _ (S:=fun m i (a:(AV×AB)×Nat)=>⟨[(1,.fn f [] []),(5,a.1.1),(8,.d (.ce (l.map A8))),(9,.d (.int .i64 (m))),(10,.d (.int .i64 (i)))],a.1.2,a.2,[]⟩)
  (Inv:=fun i rest a=>AA (i=0∧a=((.co,[]),0)∨0<i∧a=((.f8 (1::0::k::ρ) 0 i,[(1::0::k::ρ,.d7 3 ((l.take i).map A8))]),1))) (b0:=((_,[]),_)) ?_ ⟨.inl ⟨rfl,rfl⟩⟩ ?_ ?_
 .rfl
 .rintro i x a hy hi him hv IH;have hx:=hf x (Ac hy);replace hf:=AA.mk hf;rcases hv.out with⟨rfl,rfl⟩|⟨hi0,rfl⟩
  .clear hv;have him0:(0:Int)<l.length:=him;dsimp only at*;refine aw ?_;refine IH.out ((_,_),_) ⟨.inr ⟨by omega,?_⟩⟩;rw[I7,hy];rfl
  .clear hv;dsimp only at*;have tk:(l.take i).length=i:=by simp;omega
   have nle: ¬i+1≤i:=by omega
   refine aw ?_;refine IH.out ((_,_),_) ⟨.inr ⟨by omega,?_⟩⟩;have tk2:List.take i (List.map A8 (List.take i l))=List.map A8 (List.take i l):=DL (by simp;omega);rw[I7,hy,tk2,By];rfl
 .rintro i a hi him hv;replace hf:=AA.mk hf;rcases hv.out with⟨rfl,rfl⟩|⟨hi0,rfl⟩
  .clear hv;have him0: ¬(0:Int)<l.length:=him;dsimp only at*;have hl0:=AA.mk (hi.out.symm);refine aw ?_;rw[Ie,D1 hl0.out]
  .clear hv;dsimp only at*;by_cases h0:l.length=0
   .exfalso;have:=hi.out;omega
   .rw[Ie,Ci h0];have hi2:=hi.out;subst hi2;rw[EM];exact au
theorem pb(f:FuncId)(hmd:cfg.mode f=.auto)(l:List Fk)(hf: ∀x∈l,BU (KL Tryz.prog cfg) f [.agg [.d (.int .i64 (x.at_)),.d (.int .i64 (x.node)),.d (.ce (x.env.map AJ))]] []=.ok (.ret (.agg [.d (.int .i64 (x.at_)),.d (.int .i64 (x.node)),.d (.ce (x.env.map AJ))]),[]))(hl:l.length≤1000000)(k:Nat)(ρ:List Nat):BU (KL Tryz.prog cfg) 156 [.d (.ce (l.map AO)),.fn f [] []] (k::ρ)=.ok (Ie (k::ρ) 3 l.length (l.map AO)):=by
 (refine Ao rfl Tryz.func156 rfl rfl rfl ?_;show Wp _ _ _ _ (Tryz.f156.body.get rfl) _ _;simp only[Tryz.f156,AS])
 refine aw ?_;refine AU l _ (S:=fun m i (a:(AV×AB)×Nat)=>⟨[(1,.fn f [] []),(5,a.1.1),(8,.d (.ce (l.map AO))),(9,.d (.int .i64 (m))),(10,.d (.int .i64 (i)))],a.1.2,a.2,[]⟩)
  (Inv:=fun i rest a=>AA (i=0∧a=((.co,[]),0)∨0<i∧a=((.f8 (1::0::k::ρ) 0 i,[(1::0::k::ρ,.d7 3 ((l.take i).map AO))]),1))) (b0:=((_,[]),_)) ?_ ⟨.inl ⟨rfl,rfl⟩⟩ ?_ ?_
 .rfl
 .rintro i x a hy hi him hv IH;have hx:=hf x (Ac hy);replace hf:=AA.mk hf;rcases hv.out with⟨rfl,rfl⟩|⟨hi0,rfl⟩
  .clear hv;have him0:(0:Int)<l.length:=him;dsimp only at*;refine aw ?_;refine IH.out ((_,_),_) ⟨.inr ⟨by omega,?_⟩⟩;rw[I7,hy];rfl
  .clear hv;dsimp only at*;have tk:(l.take i).length=i:=by simp;omega
   have nle: ¬i+1≤i:=by omega
   refine aw ?_;refine IH.out ((_,_),_) ⟨.inr ⟨by omega,?_⟩⟩;have tk2:List.take i (List.map AO (List.take i l))=List.map AO (List.take i l):=DL (by simp;omega);rw[I7,hy,tk2,By];rfl
 .rintro i a hi him hv;replace hf:=AA.mk hf;rcases hv.out with⟨rfl,rfl⟩|⟨hi0,rfl⟩
  .clear hv;have him0: ¬(0:Int)<l.length:=him;dsimp only at*;have hl0:=AA.mk (hi.out.symm);refine aw ?_;rw[Ie,D1 hl0.out]
  .clear hv;dsimp only at*;by_cases h0:l.length=0
   .exfalso;have:=hi.out;omega
   .rw[Ie,Ci h0];have hi2:=hi.out;subst hi2;rw[EM];exact au
theorem vQ(f:FuncId)(hmd:cfg.mode f=.auto)(l:List CW)(hf: ∀x∈l,BU (KL Tryz.prog cfg) f [.agg [.d (.int .i64 (x.kind)),.d (.int .i64 (x.n))]] []=.ok (.ret (.agg [.d (.int .i64 (x.kind)),.d (.int .i64 (x.n))]),[]))(hl:l.length≤1000000)(k:Nat)(ρ:List Nat):BU (KL Tryz.prog cfg) 181 [.d (.ce (l.map AJ)),.fn f [] []] (k::ρ)=.ok (Ie (k::ρ) 2 l.length (l.map AJ)):=by
 (refine Ao rfl Tryz.func181 rfl rfl rfl ?_;show Wp _ _ _ _ (Tryz.f181.body.get rfl) _ _;simp only[Tryz.f181,AS])
 refine aw ?_;refine AU l _ (S:=fun m i (a:(AV×AB)×Nat)=>⟨[(1,.fn f [] []),(5,a.1.1),(8,.d (.ce (l.map AJ))),(9,.d (.int .i64 (m))),(10,.d (.int .i64 (i)))],a.1.2,a.2,[]⟩)
  (Inv:=fun i rest a=>AA (i=0∧a=((.co,[]),0)∨0<i∧a=((.f8 (1::0::k::ρ) 0 i,[(1::0::k::ρ,.d7 2 ((l.take i).map AJ))]),1))) (b0:=((_,[]),_)) ?_ ⟨.inl ⟨rfl,rfl⟩⟩ ?_ ?_
 .rfl
 .rintro i x a hy hi him hv IH;have hx:=hf x (Ac hy);replace hf:=AA.mk hf;rcases hv.out with⟨rfl,rfl⟩|⟨hi0,rfl⟩
  .clear hv;have him0:(0:Int)<l.length:=him;dsimp only at*;refine aw ?_;refine IH.out ((_,_),_) ⟨.inr ⟨by omega,?_⟩⟩;rw[I7,hy];rfl
  .clear hv;dsimp only at*;have tk:(l.take i).length=i:=by simp;omega
   have nle: ¬i+1≤i:=by omega
   refine aw ?_;refine IH.out ((_,_),_) ⟨.inr ⟨by omega,?_⟩⟩;have tk2:List.take i (List.map AJ (List.take i l))=List.map AJ (List.take i l):=DL (by simp;omega);rw[I7,hy,tk2,By];rfl
 .rintro i a hi him hv;replace hf:=AA.mk hf;rcases hv.out with⟨rfl,rfl⟩|⟨hi0,rfl⟩
  .clear hv;have him0: ¬(0:Int)<l.length:=him;dsimp only at*;have hl0:=AA.mk (hi.out.symm);refine aw ?_;rw[Ie,D1 hl0.out]
  .clear hv;dsimp only at*;by_cases h0:l.length=0
   .exfalso;have:=hi.out;omega
   .rw[Ie,Ci h0];have hi2:=hi.out;subst hi2;rw[EM];exact au
theorem vP(f:FuncId)(hmd:cfg.mode f=.auto)(l:List (List CW))(hf: ∀x∈l,BU (KL Tryz.prog cfg) f [.agg [.d (.ce (x.map AJ))]] []=.ok (.ret (.agg [.d (.ce (x.map AJ))]),[]))(hl:l.length≤1000000)(k:Nat)(ρ:List Nat):BU (KL Tryz.prog cfg) 183 [.d (.ce (l.map BF)),.fn f [] []] (k::ρ)=.ok (Ie (k::ρ) 1 l.length (l.map BF)):=by
 (refine Ao rfl Tryz.func183 rfl rfl rfl ?_;show Wp _ _ _ _ (Tryz.f183.body.get rfl) _ _;simp only[Tryz.f183,AS])
 refine aw ?_;refine AU l _ (S:=fun m i (a:(AV×AB)×Nat)=>⟨[(1,.fn f [] []),(5,a.1.1),(8,.d (.ce (l.map BF))),(9,.d (.int .i64 (m))),(10,.d (.int .i64 (i)))],a.1.2,a.2,[]⟩)
  (Inv:=fun i rest a=>AA (i=0∧a=((.co,[]),0)∨0<i∧a=((.f8 (1::0::k::ρ) 0 i,[(1::0::k::ρ,.d7 1 ((l.take i).map BF))]),1))) (b0:=((_,[]),_)) ?_ ⟨.inl ⟨rfl,rfl⟩⟩ ?_ ?_
 .rfl
 .rintro i x a hy hi him hv IH;have hx:=hf x (Ac hy);replace hf:=AA.mk hf;rcases hv.out with⟨rfl,rfl⟩|⟨hi0,rfl⟩
  .clear hv;have him0:(0:Int)<l.length:=him;dsimp only at*;refine aw ?_;refine IH.out ((_,_),_) ⟨.inr ⟨by omega,?_⟩⟩;rw[I7,hy];rfl
  .clear hv;dsimp only at*;have tk:(l.take i).length=i:=by simp;omega
   have nle: ¬i+1≤i:=by omega
   refine aw ?_;refine IH.out ((_,_),_) ⟨.inr ⟨by omega,?_⟩⟩;have tk2:List.take i (List.map BF (List.take i l))=List.map BF (List.take i l):=DL (by simp;omega);rw[I7,hy,tk2,By];rfl
 .rintro i a hi him hv;replace hf:=AA.mk hf;rcases hv.out with⟨rfl,rfl⟩|⟨hi0,rfl⟩
  .clear hv;have him0: ¬(0:Int)<l.length:=him;dsimp only at*;have hl0:=AA.mk (hi.out.symm);refine aw ?_;rw[Ie,D1 hl0.out]
  .clear hv;dsimp only at*;by_cases h0:l.length=0
   .exfalso;have:=hi.out;omega
   .rw[Ie,Ci h0];have hi2:=hi.out;subst hi2;rw[EM];exact au
theorem Y7(x:A7):BU (KL Tryz.prog cfg) 149 [.agg [.d (.int .i64 (x.un)),.d (.bool (x.dead))]] []=.ok (.ret (.agg [.d (.int .i64 (x.un)),.d (.bool (x.dead))]),[]):=by
 (refine Ao rfl Tryz.func149 rfl rfl rfl ?_;show Wp _ _ _ _ (Tryz.f149.body.get rfl) _ _;simp only[Tryz.f149,AS])
 exact au
theorem dh(x:CW):BU (KL Tryz.prog cfg) 182 [.agg [.d (.int .i64 (x.kind)),.d (.int .i64 (x.n))]] []=.ok (.ret (.agg [.d (.int .i64 (x.kind)),.d (.int .i64 (x.n))]),[]):=by
 (refine Ao rfl Tryz.func182 rfl rfl rfl ?_;show Wp _ _ _ _ (Tryz.f182.body.get rfl) _ _;simp only[Tryz.f182,AS])
 exact au
end Go.Proofs
namespace Go.Abs
variable{P:Program}{C:B9}{K:AK}{fr:Fr}{b n i:Nat}{Q:DW→St→Prop}
variable{ops:Array Oper}{al:Nat→Bool}{l:List Oper}{e:BT}{h:AB}{bs:Nat}{ds:List Df}{ps:List (Nat×Nat)}{fps:List Fp}{ρ:List Nat}{dst:Option Tmp}
theorem dI(az:List AV)(id:Id)(o m sz:Nat)(es:List (List AR))(hx:BK (.f8 id o m) [(id,.d7 sz es)]=some (id,.d7 sz es)):C2 C K fr ops b n al l i az dst e h bs ds Q (.ok (.ret (.f8 id o m),[(id,.d7 sz es)]))=E7 C K fr ops b n al l (i+1) ⟨B8 e dst (.f8 id o m),(id,.d7 sz es)::h,bs,ds⟩ Q:=l9 _ az _ _ _ rfl hx
theorem dF(az:List AV)(id:Id)(o m sz:Nat)(es:List (List AR))(hx:BK (.f8 id o m) [(id,.d7 sz es)]=some (id,.d7 sz es)):C1 C K fr ops b n al ps fps l i az dst e h bs ds Q (.ok (.ret (.f8 id o m),[(id,.d7 sz es)]))=Fo C K fr ops b n al ps (fps++[⟨some (CN h.get (Au az)),some [id]⟩]) l (i+1) ⟨B8 e dst (.f8 id o m),(id,.d7 sz es)::h,bs,ds⟩ Q:=l8 _ az _ _ _ rfl hx
attribute [go_sem] dI dF
end Go.Abs
namespace Go.Proofs
open Go Go.Abs
set_option maxRecDepth 100000
set_option maxHeartbeats 4000000
variable{π:List Nat}{es:List (List AR)}
theorem CH{sz n:Nat}(h:n=0):Ie π sz n es=(.ret .co,[]):=by rw[Ie,D1 h]
theorem Cr{sz n:Nat}(h:n≠0):Ie π sz n es=(.ret (.f8 (1::0::π) 0 n),[(1::0::π,.d7 sz es)]):=by rw[Ie,Ci h]
theorem Fi(id:Abs.Id)(o n sz:Nat)(es:List (List AR)):BK (.f8 id o n) [(id,.d7 sz es)]=if es.all (·.all Dg)then some (id,.d7 sz es)else none:=by
 simp only[BK,go_sem,is_self,F5]
theorem CK(l:List CW)(id:Abs.Id)(o n:Nat):BK (.f8 id o n) [(id,.d7 2 (l.map AJ))]=some (id,.d7 2 (l.map AJ)):=by
 rw[Fi,D1];simp[AJ,Dg]
theorem JD{l:List (List CW)}(h:l.length≠0)(id:Abs.Id)(o n:Nat):BK (.f8 id o n) [(id,.d7 1 (l.map BF))]=none:=by
 rw[Fi,Ci];cases l with
 |nil=>exact absurd rfl h
 |cons x l=>simp[BF,Dg]
theorem NZ(l:List A7)(id:Abs.Id)(o n:Nat):BK (.f8 id o n) [(id,.d7 2 (l.map Aj))]=some (id,.d7 2 (l.map Aj)):=by
 rw[Fi,D1];simp[Aj,Dg]
theorem MN{l:List Ak}(h:l.length≠0)(id:Abs.Id)(o n:Nat):BK (.f8 id o n) [(id,.d7 3 (l.map A8))]=none:=by
 rw[Fi,Ci];cases l with
 |nil=>exact absurd rfl h
 |cons x l=>simp[A8,Dg]
theorem Na{l:List Fk}(h:l.length≠0)(id:Abs.Id)(o n:Nat):BK (.f8 id o n) [(id,.d7 3 (l.map AO))]=none:=by
 rw[Fi,Ci];cases l with
 |nil=>exact absurd rfl h
 |cons x l=>simp[AO,Dg]
theorem JQ(l:List CW)(hl:l.length≤1000000)(k:Nat)(ρ:List Nat):BU (KL Tryz.prog cfg) 152 [.d (.ce (l.map AJ))] (k::ρ)=.ok (Ie (2::k::ρ) 2 l.length (l.map AJ)):=by
 have h1:=fun k ρ=>vQ 182 rfl l (fun x _=>dh x) hl k ρ;by_cases h0:l.length=0
 .rw[CH h0];simp only[CH h0]at h1
  (refine Ao rfl Tryz.func152 rfl rfl rfl ?_;show Wp _ _ _ _ (Tryz.f152.body.get rfl) _ _;simp only[Tryz.f152,AS])
  exact au
 .rw[Cr h0];simp only[Cr h0]at h1;have fa:=CK
  (refine Ao rfl Tryz.func152 rfl rfl rfl ?_;show Wp _ _ _ _ (Tryz.f152.body.get rfl) _ _;simp only[Tryz.f152,AS])
  exact au
theorem mL(x:List CW)(hl:x.length≤1000000):BU (KL Tryz.prog cfg) 184 [.agg [.d (.ce (x.map AJ))]] []=.ok (.ret (.agg [.d (.ce (x.map AJ))]),[]):=by
 have h1:=JQ x hl;by_cases h0:x.length=0
 .simp only[CH h0]at h1;obtain rfl:=Dl h0;clear h0;simp only[CO]at h1
  (refine Ao rfl Tryz.func184 rfl rfl rfl ?_;show Wp _ _ _ _ (Tryz.f184.body.get rfl) _ _;simp only[Tryz.f184,AS])
  (repeat' (first|simp only[go_sem, *,CO]|(refine sx ?_ ?_<;>intro hc)|refine sy (by omega) fun x hx hm=>?_|simp(disch:=first|assumption|omega) only[AN]))
 .simp only[Cr h0]at h1;have fa:=CK;have tk:List.take x.length (List.map AJ x)=List.map AJ x:=DL (by simp)
  (refine Ao rfl Tryz.func184 rfl rfl rfl ?_;show Wp _ _ _ _ (Tryz.f184.body.get rfl) _ _;simp only[Tryz.f184,AS])
  exact au
theorem so(l:List (List CW))(hl:l.length≤1000000)(h: ∀x∈l,x.length≤1000000)(k:Nat)(ρ:List Nat):BU (KL Tryz.prog cfg) 155 [.d (.ce (l.map BF))] (k::ρ)=.ok (Ie (2::k::ρ) 1 l.length (l.map BF)):=by
 have h1:=fun k ρ=>vP 184 rfl l (fun x hx=>mL x (h x hx)) hl k ρ;replace h:=AA.mk h;by_cases h0:l.length=0
 .rw[CH h0];simp only[CH h0]at h1
  (refine Ao rfl Tryz.func155 rfl rfl rfl ?_;show Wp _ _ _ _ (Tryz.f155.body.get rfl) _ _;simp only[Tryz.f155,AS])
  exact au
 .rw[Cr h0];simp only[Cr h0]at h1;have fa:=JD h0
  (refine Ao rfl Tryz.func155 rfl rfl rfl ?_;show Wp _ _ _ _ (Tryz.f155.body.get rfl) _ _;simp only[Tryz.f155,AS])
  exact au
theorem Qe(x:Ak)(hl:x.env.length≤1000000):BU (KL Tryz.prog cfg) 151 [.agg [.d (.int .i64 (x.ge)),.d (.int .i64 (x.at_)),.d (.ce (x.env.map AJ))]] []=.ok (.ret (.agg [.d (.int .i64 (x.ge)),.d (.int .i64 (x.at_)),.d (.ce (x.env.map AJ))]),[]):=by
 have h1:=JQ x.env hl;by_cases h0:x.env.length=0
 .simp only[CH h0]at h1;have h2:=Dl h0;simp only[h2,CO]at h1
  (refine Ao rfl Tryz.func151 rfl rfl rfl ?_;show Wp _ _ _ _ (Tryz.f151.body.get rfl) _ _;simp only[Tryz.f151,AS])
  (repeat' (first|simp only[go_sem, *,CO]|(refine sx ?_ ?_<;>intro hc)|refine sy (by omega) fun x hx hm=>?_|simp(disch:=first|assumption|omega) only[AN]))
 .simp only[Cr h0]at h1;have fa:=CK;have tk:List.take x.env.length (List.map AJ x.env)=List.map AJ x.env:=DL (by simp)
  (refine Ao rfl Tryz.func151 rfl rfl rfl ?_;show Wp _ _ _ _ (Tryz.f151.body.get rfl) _ _;simp only[Tryz.f151,AS])
  exact au
theorem Sf(x:Fk)(hl:x.env.length≤1000000):BU (KL Tryz.prog cfg) 157 [.agg [.d (.int .i64 (x.at_)),.d (.int .i64 (x.node)),.d (.ce (x.env.map AJ))]] []=.ok (.ret (.agg [.d (.int .i64 (x.at_)),.d (.int .i64 (x.node)),.d (.ce (x.env.map AJ))]),[]):=by
 have h1:=JQ x.env hl;by_cases h0:x.env.length=0
 .simp only[CH h0]at h1;have h2:=Dl h0;simp only[h2,CO]at h1
  (refine Ao rfl Tryz.func157 rfl rfl rfl ?_;show Wp _ _ _ _ (Tryz.f157.body.get rfl) _ _;simp only[Tryz.f157,AS])
  (repeat' (first|simp only[go_sem, *,CO]|(refine sx ?_ ?_<;>intro hc)|refine sy (by omega) fun x hx hm=>?_|simp(disch:=first|assumption|omega) only[AN]))
 .simp only[Cr h0]at h1;have fa:=CK;have tk:List.take x.env.length (List.map AJ x.env)=List.map AJ x.env:=DL (by simp)
  (refine Ao rfl Tryz.func157 rfl rfl rfl ?_;show Wp _ _ _ _ (Tryz.f157.body.get rfl) _ _;simp only[Tryz.f157,AS])
  exact au
def Mw(π:List Nat)(x:Fg):AZ×AB:=if x.queue.length=0 then(.ret (.agg (Aq x .co)),[(0::0::π,.box (Aq x (.d (.ce (x.queue.map BF))))),(0::1::π,.box (Aq x .co))])else(.ret (.agg (Aq x (.f8 (1::0::2::10::π) 0 x.queue.length))),[(1::0::2::10::π,.d7 1 (x.queue.map BF)),(0::0::π,.box (Aq x (.d (.ce (x.queue.map BF))))),(0::1::π,.box (Aq x (.f8 (1::0::2::10::π) 0 x.queue.length)))])
theorem U3(x:Fg)(hl:x.queue.length≤1000000)(h: ∀y∈x.queue,y.length≤1000000)(k:Nat)(ρ:List Nat):BU (KL Tryz.prog cfg) 154 [.agg [.d (.int .i64 (x.group)),.d (.int .i64 (x.index)),.d (.int .i64 (x.at_)),.d (.ce (x.queue.map BF))]] (k::ρ)=.ok (Mw (k::ρ) x):=by
 have h1:=so x.queue hl h;replace h:=AA.mk h;by_cases h0:x.queue.length=0
 .rw[Mw,D1 h0];simp only[CH h0]at h1
  (refine Ao rfl Tryz.func154 rfl rfl rfl ?_;show Wp _ _ _ _ (Tryz.f154.body.get rfl) _ _;simp only[Tryz.f154,AS])
  (repeat' (first|simp only[go_sem, *,Aq]|(refine sx ?_ ?_<;>intro hc)|refine sy (by omega) fun x hx hm=>?_|simp(disch:=first|assumption|omega) only[AN]))
 .rw[Mw,Ci h0];simp only[Cr h0]at h1;have fa:=JD h0
  (refine Ao rfl Tryz.func154 rfl rfl rfl ?_;show Wp _ _ _ _ (Tryz.f154.body.get rfl) _ _;simp only[Tryz.f154,AS])
  (repeat' (first|simp only[go_sem, *,Aq]|(refine sx ?_ ?_<;>intro hc)|refine sy (by omega) fun x hx hm=>?_|simp(disch:=first|assumption|omega) only[AN]))
end Go.Proofs
namespace Go.Abs
variable{P:Program}{C:B9}{K:AK}{fr:Fr}{b n i:Nat}{Q:DW→St→Prop}
variable{ops:Array Oper}{al:Nat→Bool}{l:List Oper}{e:BT}{h:AB}{bs:Nat}{ds:List Df}{ps:List (Nat×Nat)}{fps:List Fp}{ρ:List Nat}{dst:Option Tmp}
def zX(Q:DW→St→Prop)(st:St):Option Code→Prop
 |none=>Q .normal st
 |some .ret=>Q .ret st
 |some (.exit k)=>Q (.exit k) st
 |some _=>False
def UH(Q:DW→St→Prop)(st:St):Option Obj→Prop
 |some (.loop r)=>match r.state with
  |.busy=>False
  |_=>zX Q st r.rt
 |_=>False
def Gk(ρ ρ2:List Nat)(id:Id)(e:BT)(bs:Nat)(ds:List Df)(Q:DW→St→Prop):E (AZ×AB)→Prop
 |.ok (.ret _,h')=>UH Q ⟨e,gc ρ (gc ρ2 h'),bs,ds⟩ (h'.get id)
 |.ok (.f9 v,h')=>Q (.f9 v) ⟨e,gc ρ (gc ρ2 h'),bs,ds⟩
 |.err _=>False
def eV(K:AK)(bi:Option (List Nat))(ρ ρ2:List Nat)(id:Id)(e:BT)(h:AB)(bs:Nat)(ds:List Df)(Q:DW→St→Prop):AV→Prop
 |.fn f first cap=>Gk ρ ρ2 id e bs ds Q (K (.fn f) (first++[.v6 id]++cap) h ρ2 true bi)
 |_=>False
theorem YS(ρ ρ2:List Nat)(id:Id)(st1:St)(r:E (AZ×AB)):(match Ic ρ ρ2 id st1 r with|.ok (o,st')=>Q o st'|.err _=>False)=Gk ρ ρ2 id st1.env st1.base st1.defs Q r:=by
 cases r with
 |err l=>rfl
 |ok r=>
  obtain⟨o,h'⟩:=r;cases o with
  |f9 v=>simp only[Ic,Gk,Aa]
  |ret v=>
   simp only[Ic,Gk,Aa,UH,Vi];cases AB.get h' id with
   |none=>rfl
   |some o=>
    cases o with
    |loop r=>
     obtain⟨s,p⟩:=r;simp only;cases s<;>(try rfl)<;>
     .simp only[zX];cases p with
      |none=>rfl
      |some c=>cases c<;>rfl
    |_=>rfl
theorem uU(g:Operand)(pz:Array Tmp)(jp body:Code)(hr:fr.wn=false):Wp C K fr b (.rangeFunc g pz jp body) ⟨e,h,bs,ds⟩ Q=
 eV K fr.bi (bs::fr.π) ((bs+1)::fr.π) (0::bs::fr.π) e (h.put (0::bs::fr.π) (.loop ⟨.ready,none,fr.f,e,pz.toList,jp,body,fr.nt⟩)) (bs+2) (.mark (0::bs::fr.π)::ds) Q (ev e.get g):=by
 have key:Wp C K fr b (.rangeFunc g pz jp body) ⟨e,h,bs,ds⟩ Q=(match Fh K fr g pz jp body ⟨e,h,bs,ds⟩with|.ok (o,st')=>Q o st'|.err _=>False):=by
  cases hx:Fh K fr g pz jp body ⟨e,h,bs,ds⟩with
  |ok r=>
   obtain⟨o,st'⟩:=r;exact SI fun n=>by simp only[A4,hx]
  |err l=>
   refine propext ⟨fun⟨n,o,st',h1,hq⟩=>?_,fun h=>h.elim⟩;cases n with
   |zero=>simp[A4]at h1
   |succ n=>simp only[A4,hx]at h1;cases h1
 rw[key];unfold Fh;simp only[hr,Gz,Aa];rw[YS];simp only[eV];cases ev e.get g with
 |fn f first cap=>simp only[Jh,A3]
 |_=>rfl
variable{π:List Nat}{bi:Option (List Nat)}
theorem nP{f:FuncId}{raw:Bool}{nt:Nat}(g:Operand)(pz:Array Tmp)(jp body:Code):Wp C K ⟨f,π,raw,bi,false,nt⟩ b (.rangeFunc g pz jp body) ⟨e,h,bs,ds⟩ Q=
 eV K bi (bs::π) ((bs+1)::π) (0::bs::π) e (h.put (0::bs::π) (.loop ⟨.ready,none,f,e,pz.toList,jp,body,nt⟩)) (bs+2) (.mark (0::bs::π)::ds) Q (ev e.get g):=uU g pz jp body rfl
variable{ρ ρ2:List Nat}
theorem oo{id:Id}(f:FuncId)(first cap:List AV):eV K bi ρ ρ2 id e h bs ds Q (.fn f first cap)=Gk ρ ρ2 id e bs ds Q (K (.fn f) (first++[.v6 id]++cap) h ρ2 true bi):=rfl
variable{Post:AZ→AB→Prop}
theorem Pa{id:Id}{q:E (AZ×AB)}(hk: ∃o h',q=.ok (o,h')∧Post o h')(hn: ∀o h',Post o h'→Gk ρ ρ2 id e bs ds Q (.ok (o,h'))):Gk ρ ρ2 id e bs ds Q q:=by
 obtain⟨o,h',e,hp⟩:=hk;rw[e];exact hn o h' hp
theorem dP{id:Id}(v:AV)(h':AB):Gk ρ ρ2 id e bs ds Q (.ok (.ret v,h'))=UH Q ⟨e,gc ρ (gc ρ2 h'),bs,ds⟩ (h'.get id):=rfl
theorem dN{id:Id}(v:AV)(h':AB):Gk ρ ρ2 id e bs ds Q (.ok (.f9 v,h'))=Q (.f9 v) ⟨e,gc ρ (gc ρ2 h'),bs,ds⟩:=rfl
theorem dC(st:St)(f:FuncId)(e:BT)(pz:List Nat)(jp body:Code)(nt:Nat):UH Q st (some (.loop ⟨.ready,none,f,e,pz,jp,body,nt⟩))=Q .normal st:=rfl
theorem lr(st:St)(f:FuncId)(e:BT)(pz:List Nat)(jp body:Code)(nt:Nat):UH Q st (some (.loop ⟨.done,some .ret,f,e,pz,jp,body,nt⟩))=Q .ret st:=rfl
theorem dB(st:St)(k:Nat)(f:FuncId)(e:BT)(pz:List Nat)(jp body:Code)(nt:Nat):UH Q st (some (.loop ⟨.done,some (.exit k),f,e,pz,jp,body,nt⟩))=Q (.exit k) st:=rfl
def ABR(C:B9)(K:AK)(fr:Fr)(ops:Array Oper)(b n:Nat)(al:Nat→Bool)(l:List Oper)(i:Nat)(dst:Option Tmp)(ρ:List Nat)(e:BT)(h:AB)(bs:Nat)(ds:List Df)(Q:DW→St→Prop)(id:Id)(az:List AV):Option Obj→Prop
 |some (.loop r)=>So C K fr ops b n al l i dst ρ e h bs ds Q (K (.round id r) az h ρ true fr.bi)
 |_=>False
theorem fw(id:Id)(args:List AV):QW C K fr ops b n al l i dst ρ e h bs ds Q args (.v6 id)=ABR C K fr ops b n al l i dst ρ e h bs ds Q id args (h.get id):=by
 simp only[QW,DZ,JA,ABR];cases AB.get h id with
 |none=>rfl
 |some o=>cases o<;>first|rfl|simp only[O6]
theorem nU(id:Id)(args:List AV)(r:Lp):ABR C K fr ops b n al l i dst ρ e h bs ds Q id args (some (.loop r))=So C K fr ops b n al l i dst ρ e h bs ds Q (K (.round id r) args h ρ true fr.bi):=rfl
def ADt(C:B9)(K:AK)(fr:Fr)(ops:Array Oper)(b n:Nat)(al:Nat→Bool)(ps:List (Nat×Nat))(fps:List Fp)(l:List Oper)(i:Nat)(dst:Option Tmp)(ρ:List Nat)(e:BT)(h:AB)(bs:Nat)(ds:List Df)(Q:DW→St→Prop)(id:Id)(az:List AV):Option Obj→Prop
 |some (.loop r)=>Rq C K fr ops b n al ps fps l i dst ρ e h bs ds Q (K (.round id r) az h ρ true fr.bi)
 |_=>False
theorem nT(id:Id)(args:List AV)(r:Lp):ADt C K fr ops b n al ps fps l i dst ρ e h bs ds Q id args (some (.loop r))=Rq C K fr ops b n al ps fps l i dst ρ e h bs ds Q (K (.round id r) args h ρ true fr.bi):=rfl
def Y0(id:Id)(Post:AZ→AB→Prop)(o:DW)(h:AB):Option Obj→Prop
 |some (.loop r)=>match o with
  |.normal=>Post (.ret (.d (.bool true))) (h.put id (.loop {r with state:=.ready,rt:=none}))
  |.ret=>Post (.ret (.d (.bool false))) (h.put id (.loop {r with state:=.done,rt:=some .ret}))
  |.exit k=>Post (.ret (.d (.bool false))) (h.put id (.loop {r with state:=.done,rt:=some (.exit k)}))
  |.f9 v=>Post (.f9 v) h
 |_=>False
def Y2(id:Id)(Post:AZ→AB→Prop):DW→St→Prop
 |o,st=>st.defs=[]∧Y0 id Post o st.heap (st.heap.get id)
def ux(C:B9)(K:AK)(fr:Fr)(id:Id)(body:Code)(Post:AZ→AB→Prop)(st:St):Option Obj→Prop
 |some (.loop r)=>match r.state with
  |.ready=>Wp C K fr 0 body {st with heap:=st.heap.put id (.loop {r with state:=.busy})} (Y2 id Post)
  |_=>False
 |_=>False
def zw(C:B9)(K:AK)(fr:Fr)(id:Id)(body:Code)(Post:AZ→AB→Prop):DW→St→Prop
 |.normal,st=>st.defs=[]∧JS fr.bi [(id,.box [])]=true∧ux C K fr id body Post st (st.heap.get id)
 |_,_=>False
theorem Y3(id:Id):Y2 id Post .normal ⟨e,h,bs,[]⟩=Y0 id Post .normal h (h.get id):=by simp[Y2]
theorem tE(id:Id):Y2 id Post .ret ⟨e,h,bs,[]⟩=Y0 id Post .ret h (h.get id):=by simp[Y2]
theorem tD(id:Id)(v:AV):Y2 id Post (.f9 v) ⟨e,h,bs,[]⟩=Y0 id Post (.f9 v) h (h.get id):=by simp[Y2]
theorem Y1(id:Id)(r:Lp):Y0 id Post .normal h (some (.loop r))=Post (.ret (.d (.bool true))) (h.put id (.loop ⟨.ready,none,r.f,r.env,r.params,r.jp,r.body,r.nt⟩)):=rfl
theorem tC(id:Id)(r:Lp):Y0 id Post .ret h (some (.loop r))=Post (.ret (.d (.bool false))) (h.put id (.loop ⟨.done,some .ret,r.f,r.env,r.params,r.jp,r.body,r.nt⟩)):=rfl
theorem me(id:Id)(k:Nat)(r:Lp):Y0 id Post (.exit k) h (some (.loop r))=Post (.ret (.d (.bool false))) (h.put id (.loop ⟨.done,some (.exit k),r.f,r.env,r.params,r.jp,r.body,r.nt⟩)):=rfl
theorem tB(id:Id)(v:AV)(r:Lp):Y0 id Post (.f9 v) h (some (.loop r))=Post (.f9 v) h:=rfl
theorem Wa(id:Id)(body:Code):zw C K fr id body Post .normal ⟨e,h,bs,[]⟩=(JS fr.bi [(id,.box [])]=true∧ux C K fr id body Post ⟨e,h,bs,[]⟩ (h.get id)):=by simp[zw]
theorem ff(id:Id)(body:Code)(p:Option Code)(f:FuncId)(e':BT)(pz:List Nat)(a c:Code)(nt:Nat):ux C K fr id body Post ⟨e,h,bs,[]⟩ (some (.loop ⟨.ready,p,f,e',pz,a,c,nt⟩))=Wp C K fr 0 body ⟨e,h.put id (.loop ⟨.busy,p,f,e',pz,a,c,nt⟩),bs,[]⟩ (Y2 id Post):=rfl
theorem Fc{id:Id}{r:Lp}{args:List AV}{h:AB}{e:BT}(he:DT r.env r.params args=some e)
 (hw:Wp C (KL P C) {f:=r.f,π,raw:=true,bi,wn:=true,nt:=r.nt} 0 r.jp ⟨e,h,0,[]⟩ (zw C (KL P C) {f:=r.f,π,raw:=true,bi,wn:=true,nt:=r.nt} id r.body Post)): ∃o h',KL P C (.round id r) args h π true bi=.ok (o,h')∧Post o h':=by
 obtain⟨n1,o1,st1,h1,q1⟩:=hw;cases o1 with
 |normal=>
  obtain⟨d1,w1,q1⟩:=q1;cases hg:AB.get st1.heap id with
  |none=>rw[hg]at q1;exact q1.elim
  |some ob=>
   rw[hg]at q1;cases ob with
   |loop r1=>
    simp only[ux]at q1;cases hs:r1.state with
    |ready=>
     rw[hs]at q1;obtain⟨n2,o2,st2,h2,d2,q2⟩:=q1;have fin: ∃o h',N8 id (.ok (o2,st2))=.ok (o,h')∧Post o h':=by
      simp only[N8,d2];cases hg2:AB.get st2.heap id with
      |none=>rw[hg2]at q2;exact q2.elim
      |some ob2=>
       rw[hg2]at q2;cases ob2 with
       |loop r2=>
        cases o2 with
        |normal=>exact⟨_,_,rfl,q2⟩
        |ret=>exact⟨_,_,rfl,q2⟩
        |exit k=>exact⟨_,_,rfl,q2⟩
        |f9 v=>exact⟨_,_,rfl,q2⟩
       |_=>exact q2.elim
     obtain⟨o,h',e3,hp⟩:=fin;refine⟨o,h',WB (n:=max n1 n2) ?_,hp⟩;unfold GQ;have h3:=Lh h2 (Ls n1 n2);rw[d1]at h3;simp only[he,Lh h1 (I8 n1 n2),HK,d1,w1,hg,L8,hs,Aa];rw[h3];exact e3
    |_=>rw[hs]at q1;exact q1.elim
   |_=>exact q1.elim
 |_=>exact q1.elim
attribute [go_sem] oo dP dN dC lr dB fw nU nT Y3 tE tD Y1 tC me tB Wa ff nP DT
end Go.Abs
namespace Go.Abs
variable{α β:Type}
theorem OC(f:α→β)(l:List α):List.take l.length (l.map f)=l.map f:=DL (by simp)
theorem Vu(f:α→β)(l:List α)(x:List β):List.take l.length (l.map f++x)=l.map f:=by rw[Lt (by simp),OC]
theorem VB(f:α→β)(l:List α)(y:β)(x:List β):List.drop (l.length+1) (l.map f++y::x)=x:=by rw[List.drop_append];simp
def rr(g:G)(id:Id):Option Obj→AB
 |some (.d7 sz es)=>[(id,.i5 sz es)]
 |some (.arr sz es)=>match Cb g es with
  |some ds=>(id,.i5 sz ds)::es.flatMap (Ba g)
  |none=>[]
 |_=>[]
theorem kc(g:G)(id:Id)(off n:Nat):E1 g (.f8 id off n)=rr g id (g id):=by
 simp only[E1];cases g id with
 |none=>rfl
 |some o=>cases o<;>rfl
theorem bc(g:G)(id:Id)(sz:Nat)(es:List (List AR)):rr g id (some (.d7 sz es))=[(id,.i5 sz es)]:=rfl
theorem kg(g:G)(id:Id)(sz:Nat)(es:List (List AR)):rr g id (some (.i5 sz es))=[]:=rfl
attribute [go_sem] r7 kc bc kg
attribute [go_sem] OC Vu VB Nat.le_add_right Nat.le_add_left Nat.add_le_add_iff_left Nat.not_succ_le_self Nat.add_lt_add_iff_left
end Go.Abs
namespace Go.Proofs
open Go Go.Abs
variable{ρ:Abs.Id}
theorem Dj{id:Abs.Id}(h:Id.under ρ id=false)(a b c n:Nat):Id.is (a::b::c::n::ρ) id=false:=AG (AF (AF h n) c) a b
theorem Jw{id:Abs.Id}(h:Id.under ρ id=false)(a b c n:Nat):Id.is id (a::b::c::n::ρ)=false:=Av (AF (AF h n) c) a b
variable{π:List Nat}
theorem Ab(l:List Nat):Id.under π (l++π)=true:=under_iff.2 ⟨l,rfl⟩
def Kc(g:AB)(sz:Nat)(v:AV)(es:List (List AR)):Prop:=(v=.co∧es=[])∨ ∃id x,v=.f8 id 0 es.length∧g.get id=some (.d7 sz (es++x))
structure zF(g:AB)(rows:List (List AV))(l:List Fg):Prop where
 len:rows.length=l.length
 row: ∀(j:Nat) (q:Fg),l[j]? =some q→ ∃v,rows[j]? =some (Aq q v)∧Kc g 1 v (q.queue.map BF)
def ue(g:AB)(v:AV)(rows:List (List AV)):Prop:=(v=.co∧rows=[])∨ ∃id,v=.f8 id 0 rows.length∧g.get id=some (.arr 4 rows)
structure MV where
 s:Nat→AV
 v3:AV
 v9:AV
 pp:Abs.Id
 rows:List (List AV)
def Ff:Nat→Nat
 |0=>2
 |1=>3
 |2=>3
 |_=>5
def Ax(st:B7):Nat→List (List AR)
 |0=>st.d9.ac.map Aj
 |1=>st.d9.bv.map A8
 |2=>st.d9.waits.map AO
 |_=>st.ev.map EG
def MV.ii(V:MV)(i:Nat)(v:AV):MV:={V with s:=fun j=>if j=i then v else V.s j}
def MV.ids(V:MV)(m:Abs.Id):List Abs.Id:=m::V.pp::(AD (V.s 0)++(AD (V.s 1)++(AD (V.s 2)++(AD (V.s 3)++(AD V.v3++V.rows.flatMap Au)))))
def Ah(p:AI)(sz:List Int)(V:MV)(w:Int):List AV:=[V.s 0,V.s 1,V.v3,V.s 2,.d (.ce (p.free.map CM)),.d (.ce (p.nodes.map Bg)),.d (.ce (p.defs.map CX)),.d (.int .i64 p.main),.d (.ce (sz.map AL)),V.v9,.mp V.pp,V.s 3,.d (.int .i64 w)]
structure Dt(p:AI)(sz:List Int)(h:AB)(m:Abs.Id)(V:MV)(st:B7):Prop where
 box:h.get m=some (.box (Ah p sz V st.work))
 pp:h.get V.pp=some (.map Iz)
 sl: ∀i,i<4→Kc h (Ff i) (V.s i) (Ax st i)
 arr:ue h V.v3 V.rows
 be:zF h V.rows st.d9.be
 gw: ∀id∈AD (V.s 1),id∉AD (V.s 2)
 qd:(V.rows.flatMap Au).Nodup
structure Ug(N:Abs.Id→Bool)(m:Abs.Id)(V V':MV)(h h':AB):Prop where
 ids: ∀id∈V'.ids m,id∈V.ids m∨(N id=true∧ ∃l,id=1::l)
 frame: ∀id,id∉V.ids m→N id=false→h'.get id=h.get id
abbrev zJ(π:List Nat):=Ug (Id.under π)
abbrev MR(p:AI)(sz:List Int)(N:Abs.Id→Bool)(m:Abs.Id)(V:MV)(h:AB)(st:B7)(h':AB):Prop:= ∃V',Dt p sz h' m V' st∧Ug N m V V' h h'
abbrev ABi(p:AI)(sz:List Int)(π:List Nat):=MR p sz (Id.under π)
abbrev Kd(N:Abs.Id→Bool)(V:MV)(m:Abs.Id):Prop:= ∀id∈V.ids m,N id=false
abbrev Bn(π:List Nat):=Kd (Id.under π)
variable{m:Abs.Id}
theorem Bn.ext{V:MV}(h:Bn π V m)(n:Nat):Bn (n::π) V m:=fun id hid=>AF (h id hid) n
def Eo(p:AI)(sz:List Int)(π:List Nat)(m:Abs.Id)(V:MV)(h:AB):Option B7→AZ→AB→Prop
 |some st,o,h'=>o=.ret (.it [])∧ABi p sz π m V h st h'
 |none,o,h'=>o=.f9 (CA 3)∧ ∀id,id∉V.ids m→Id.under π id=false→h'.get id=h.get id
variable{g:AB}{es:List (List AR)}
theorem BP{sz n:Nat}{id:Abs.Id}(x:List (List AR))(hn:n=es.length)(hg:g.get id=some (.d7 sz (es++x))):Kc g sz (.f8 id 0 n) es:=.inr ⟨id,x,by rw[hn],hg⟩
variable{g':AB}
theorem C9{sz:Nat}{v:AV}(h:Kc g sz v es)(hg: ∀id∈AD v,g'.get id=g.get id):Kc g' sz v es:=by
 rcases h with h|⟨id,x,rfl,h⟩
 .exact .inl h
 .exact .inr ⟨id,x,rfl,by rw[hg id (by simp[AD])];exact h⟩
theorem ED{g:AB}{sz:Nat}{v:AV}{es:List (List AR)}(h:Kc g sz v es){id:Abs.Id}(hi:id∈AD v): ∃x,g.get id=some (.d7 sz x):=by
 rcases h with⟨rfl,_⟩|⟨id2,x,rfl,h⟩
 .simp[AD]at hi
 .simp[AD]at hi;subst hi;exact⟨_,h⟩
variable{rows:List (List AV)}
theorem Kp{v:AV}(h:ue g v rows)(hg: ∀id∈AD v,g'.get id=g.get id):ue g' v rows:=by
 rcases h with h|⟨id,rfl,h⟩
 .exact .inl h
 .exact .inr ⟨id,rfl,by rw[hg id (by simp[AD])];exact h⟩
theorem Gu{g:AB}{v:AV}{rows:List (List AV)}(h:ue g v rows){id:Abs.Id}(hi:id∈AD v):g.get id=some (.arr 4 rows):=by
 rcases h with⟨rfl,_⟩|⟨id2,rfl,h⟩
 .simp[AD]at hi
 .simp[AD]at hi;subst hi;exact h
theorem BX(x:Fg)(v:AV):Au (Aq x v)=AD v:=by simp[Aq,Au,AD]
variable{l:List Fg}
theorem Ko(h:zF g rows l)(hg: ∀id∈rows.flatMap Au,g'.get id=g.get id):zF g' rows l:=by
 refine⟨h.len,fun j q hq=>?_⟩;obtain⟨v,h1,h2⟩:=h.row j q hq;exact⟨v,h1,C9 h2 fun id hid=>hg id (Bv.2 ⟨_,Ac h1,by rw[BX];exact hid⟩)⟩
theorem J9(h:zF g rows l){id:Abs.Id}(hi:id∈rows.flatMap Au): ∃x,g.get id=some (.d7 1 x):=by
 obtain⟨row,hr,hid⟩:=Bv.1 hi;obtain⟨j,hj⟩:=Hm hr;have hjl:=(BE.1 hj).1;obtain⟨x,hx⟩:=get_some (l:=l) (i:=j) (by rw[←h.len];exact hjl);obtain⟨v,hv,hq⟩:=h.row j x hx;rw[hj]at hv;cases hv;rw[BX]at hid;exact ED hq hid
theorem MV.mem(V:MV)(m id:Abs.Id):id∈V.ids m↔id=m∨id=V.pp∨(∃i,i<4∧id∈AD (V.s i))∨id∈AD V.v3∨id∈V.rows.flatMap Au:=by
 simp only[MV.ids,DO,D5];constructor
 .rintro(h|h|h|h|h|h|h|h)
  .exact .inl h
  .exact .inr (.inl h)
  .exact .inr (.inr (.inl ⟨0,by omega,h⟩))
  .exact .inr (.inr (.inl ⟨1,by omega,h⟩))
  .exact .inr (.inr (.inl ⟨2,by omega,h⟩))
  .exact .inr (.inr (.inl ⟨3,by omega,h⟩))
  .exact .inr (.inr (.inr (.inl h)))
  .exact .inr (.inr (.inr (.inr h)))
 .rintro(h|h|⟨i,hi,h⟩|h|h)
  .simp[h]
  .simp[h]
  .match i,hi with
   |0,_=>simp[h]
   |1,_=>simp[h]
   |2,_=>simp[h]
   |3,_=>simp[h]
  .simp[h]
  .simp only[h,or_true]
theorem MV.m_mem(V:MV)(m:Abs.Id):m∈V.ids m:=(V.mem m m).2 (.inl rfl)
theorem MV.acts_mem(V:MV)(m:Abs.Id):V.pp∈V.ids m:=(V.mem m _).2 (.inr (.inl rfl))
theorem MV.s_mem(V:MV)(m:Abs.Id){i:Nat}(hi:i<4){id:Abs.Id}(h:id∈AD (V.s i)):id∈V.ids m:=(V.mem m _).2 (.inr (.inr (.inl ⟨i,hi,h⟩)))
theorem MV.v3_mem(V:MV)(m:Abs.Id){id:Abs.Id}(h:id∈AD V.v3):id∈V.ids m:=(V.mem m _).2 (.inr (.inr (.inr (.inl h))))
theorem MV.row_mem(V:MV)(m:Abs.Id){id:Abs.Id}(h:id∈V.rows.flatMap Au):id∈V.ids m:=(V.mem m _).2 (.inr (.inr (.inr (.inr h))))
variable{h h':AB}
theorem B4{p:AI}{sz:List Int}{V:MV}{st:B7}(hM:Dt p sz h m V st)(hg: ∀id∈V.ids m,h'.get id=h.get id):Dt p sz h' m V st:=
 ⟨by rw[hg _ (V.m_mem m)];exact hM.box,by rw[hg _ (V.acts_mem m)];exact hM.pp,fun i hi=>C9 (hM.sl i hi) fun id hid=>hg id (V.s_mem m hi hid),Kp hM.arr fun id hid=>hg id (V.v3_mem m hid),Ko hM.be fun id hid=>hg id (V.row_mem m hid),hM.gw,hM.qd⟩
theorem fF{p:AI}{sz:List Int}{V V0:MV}{st:B7}{ρ:List Nat}{h0:AB}(hM:Dt p sz h m V st)(hK:zJ π m V0 V h0 h)(hu:Bn ρ V0 m):Dt p sz (gc ρ h) m V st:=by
 refine B4 hM fun id hid=>?_;rcases hK.ids id hid with h|⟨_,l,rfl⟩
 .exact Al _ _ _ (hu id h)
 .exact FM _ _ _
theorem BD{n:Nat}{id:Abs.Id}(h:Id.under (n::π) id=true):Id.under π id=true:=by
 rw[under_iff]at*;exact(ES n π).trans h
theorem qw{V:MV}(hk: ∀id,Id.under π id=false→h'.get id=h.get id):zJ π m V V h h':=⟨fun id h=>.inl h,fun id _ hu=>hk id hu⟩
theorem Dd{p:AI}{sz:List Int}{V:MV}{st:B7}(hM:Dt p sz h m V st)(hu:Bn π V m)(hk: ∀id,Id.under π id=false→h'.get id=h.get id):Dt p sz h' m V st:=B4 hM fun id hid=>hk id (hu id hid)
theorem Tv{p:AI}{sz:List Int}{N:Abs.Id→Bool}{h h':AB}{m:Abs.Id}{V:MV}{st st':B7}(hM:Dt p sz h m V st)(hu:Kd N V m)
 (hb:h'.get m=some (.box (Ah p sz V st'.work))) (hd:st'.d9=st.d9∧st'.ev=st.ev) (hk: ∀id,id≠m→N id=false→h'.get id=h.get id):Dt p sz h' m V st'∧Ug N m V V h h':=by
 have hne: ∀id,(∀cs,h.get id≠some (.box cs))→id≠m:=fun id hh e=>hh _ (by subst e;exact hM.box);have hda: ∀i,Ax st' i=Ax st i:=fun i=>by
  unfold Ax;rw[hd.1,hd.2]
 have hg: ∀id∈V.ids m,(∀cs,h.get id≠some (.box cs))→h'.get id=h.get id:=fun id h1 h2=>hk id (hne id h2) (hu id h1);refine⟨⟨hb,?_,fun i hi=>?_,?_,?_,hM.gw,hM.qd⟩,fun id h=>.inl h,fun id h1 h2=>hk id (fun e=>h1 (by rw[e];exact V.m_mem m)) h2⟩
 .rw[hg _ (V.acts_mem m) (by rw[hM.pp];simp)];exact hM.pp
 .rw[hda];refine C9 (hM.sl i hi) fun id hid=>hg id (V.s_mem m hi hid) ?_;obtain⟨x,hx⟩:=ED (hM.sl i hi) hid;rw[hx];simp
 .refine Kp hM.arr fun id hid=>hg id (V.v3_mem m hid) ?_;rw[Gu hM.arr hid];simp
 .rw[hd.1];refine Ko hM.be fun id hid=>hg id (V.row_mem m hid) ?_;obtain⟨x,hx⟩:=J9 hM.be hid;rw[hx];simp
variable{st':B7}
theorem ACD{st:B7}(hs:st'.d9=st.d9): ∀j,j<4→j≠3→Ax st' j=Ax st j
 |0,_,_|1,_,_|2,_,_=>by simp[Ax,hs]
 |3,_,h=>absurd rfl h
theorem qi{st:B7}(h0:st'.d9.ac=st.d9.ac)(h1:st'.d9.bv=st.d9.bv)(h3:st'.ev=st.ev): ∀j,j<4→j≠2→Ax st' j=Ax st j
 |0,_,_|1,_,_|3,_,_=>by simp[Ax,h0,h1,h3]
 |2,_,h=>absurd rfl h
theorem ACE{st:B7}(h0:st'.d9.ac=st.d9.ac)(h2:st'.d9.waits=st.d9.waits)(h3:st'.ev=st.ev): ∀j,j<4→j≠1→Ax st' j=Ax st j
 |0,_,_|2,_,_|3,_,_=>by simp[Ax,h0,h2,h3]
 |1,_,h=>absurd rfl h
theorem qh{st:B7}(h1:st'.d9.bv=st.d9.bv)(h2:st'.d9.waits=st.d9.waits)(h3:st'.ev=st.ev): ∀j,j<4→j≠0→Ax st' j=Ax st j
 |1,_,_|2,_,_|3,_,_=>by simp[Ax,h1,h2,h3]
 |0,_,h=>absurd rfl h
theorem tu(V:MV)(i:Nat)(v:AV)(j:Nat):(V.ii i v).s j=if j=i then v else V.s j:=rfl
theorem YJ{p:AI}{sz:List Int}{N:Abs.Id→Bool}{h h':AB}{m:Abs.Id}{V:MV}{st st':B7}(i:Nat){v:AV}(hi:i<4)(hM:Dt p sz h m V st)(hu:Kd N V m)
 (hb:h'.get m=some (.box (Ah p sz (V.ii i v) st'.work))) (hs:Kc h' (Ff i) v (Ax st' i)) (ho: ∀j,j<4→j≠i→Ax st' j=Ax st j) (hc:st'.d9.be=st.d9.be)
 (hv:AD v=AD (V.s i)∨ ∀id∈AD v,N id=true∧ ∃l,id=1::l) (hk: ∀id,id≠m→id∉AD (V.s i)→N id=false→h'.get id=h.get id):Dt p sz h' m (V.ii i v) st'∧Ug N m V (V.ii i v) h h':=by
 have hne: ∀id,(∀cs,h.get id≠some (.box cs))→id≠m:=fun id hh e=>hh _ (by subst e;exact hM.box);have hg: ∀id∈V.ids m,(∀cs,h.get id≠some (.box cs))→id∉AD (V.s i)→h'.get id=h.get id:=fun id h1 h2 h3=>hk id (hne id h2) h3 (hu id h1);have hvi: ∀id∈AD v,id∈AD (V.s i)∨(N id=true∧ ∃l,id=1::l):=fun id hid=>by
  rcases hv with e|e
  .rw[e]at hid;exact .inl hid
  .exact .inr (e id hid)
 have key: ∀j,j<4→j≠i→ ∀id∈AD (V.s j),id∉AD (V.s i):=fun j hj hji id hid hh=>by
  obtain⟨x,hx⟩:=ED (hM.sl j hj) hid;obtain⟨y,hy⟩:=ED (hM.sl i hi) hh;rw[hx]at hy;have hsz:Ff j=Ff i:=by
   simp only[Bi,Obj.d7.injEq]at hy;exact hy.1
  have h12:(j=1∧i=2)∨(j=2∧i=1):=by
   match i,j,hi,hj with
   |0,0,_,_|1,1,_,_|2,2,_,_|3,3,_,_=>omega
   |0,1,_,_|0,2,_,_|0,3,_,_|1,0,_,_|1,3,_,_|2,0,_,_|2,3,_,_|3,0,_,_|3,1,_,_|3,2,_,_=>simp[Ff]at hsz
   |1,2,_,_|2,1,_,_=>omega
  rcases h12 with⟨rfl,rfl⟩|⟨rfl,rfl⟩
  .exact hM.gw id hid hh
  .exact hM.gw id hh hid
 refine⟨⟨hb,?_,fun j hj=>?_,?_,?_,fun id h1 h2=>?_,hM.qd⟩,fun id hid=>?_,fun id h1 h2=>?_⟩
 .show h'.get V.pp=_;rw[hg _ (V.acts_mem m) (by rw[hM.pp];simp) fun hh=>?_]
  .exact hM.pp
  .obtain⟨x,hx⟩:=ED (hM.sl i hi) hh;rw[hM.pp]at hx;cases hx
 .rw[tu];by_cases hji:j=i
  .rw[D1 hji,hji];exact hs
  .rw[Ci hji,ho j hj hji];refine C9 (hM.sl j hj) fun id hid=>hg id (V.s_mem m hj hid) ?_ (key j hj hji id hid);obtain⟨x,hx⟩:=ED (hM.sl j hj) hid;rw[hx];simp
 .refine Kp hM.arr fun id hid=>hg id (V.v3_mem m hid) ?_ fun hh=>?_
  .rw[Gu hM.arr hid];simp
  .obtain⟨x,hx⟩:=ED (hM.sl i hi) hh;rw[Gu hM.arr hid]at hx;cases hx
 .rw[hc];refine Ko hM.be fun id hid=>hg id (V.row_mem m hid) ?_ fun hh=>?_
  .obtain⟨x,hx⟩:=J9 hM.be hid;rw[hx];simp
  .obtain⟨x,hx⟩:=ED (hM.sl i hi) hh;obtain⟨y,hy⟩:=J9 hM.be hid;rw[hx]at hy
   match i,hi with
   |0,_|1,_|2,_|3,_=>simp[Ff]at hy
 .rw[tu]at h1 h2;have o1: ∀id∈AD (V.s 1),N id=false:=fun id hid=>hu id (V.s_mem m (by omega) hid);have o2: ∀id∈AD (V.s 2),N id=false:=fun id hid=>hu id (V.s_mem m (by omega) hid);by_cases e1:1=i
  .subst e1;rw[D1 rfl]at h1;rw[Ci (by omega)]at h2;rcases hvi id h1 with hh|hh
   .exact hM.gw id hh h2
   .rw[o2 id h2]at hh;cases hh.1
  .rw[Ci e1]at h1;by_cases e2:2=i
   .subst e2;rw[D1 rfl]at h2;rcases hvi id h2 with hh|hh
    .exact hM.gw id h1 hh
    .rw[o1 id h1]at hh;cases hh.1
   .rw[Ci e2]at h2;exact hM.gw id h1 h2
 .rcases((V.ii i v).mem m id).1 hid with hh|hh|⟨j,hj,hh⟩|hh|hh
  .exact .inl ((V.mem m id).2 (.inl hh))
  .exact .inl ((V.mem m id).2 (.inr (.inl hh)))
  .rw[tu]at hh;by_cases hji:j=i
   .rw[D1 hji]at hh;exact(hvi id hh).imp_left fun h=>V.s_mem m hi h
   .rw[Ci hji]at hh;exact .inl (V.s_mem m hj hh)
  .exact .inl (V.v3_mem m hh)
  .exact .inl (V.row_mem m hh)
 .exact hk id (fun e=>h1 (by rw[e];exact V.m_mem m)) (fun hh=>h1 (V.s_mem m hi hh)) h2
variable{N:Abs.Id→Bool}
theorem HP{p:AI}{sz:List Int}{V:MV}{st:B7}(i:Nat)(hi:i<4)(hM:Dt p sz h m V st)(hu:Kd N V m)
 (ho: ∀j,j<4→j≠i→Ax st' j=Ax st j) (hc:st'.d9.be=st.d9.be) (v:AV) (h':AB) (a1:h'.get m=some (.box (Ah p sz (V.ii i v) st'.work))) (a2:Kc h' (Ff i) v (Ax st' i)) (a3:AD v=AD (V.s i)∨ ∀id∈AD v,N id=true∧ ∃l,id=1::l) (a4: ∀id,Id.is m id=false→(∀id2∈AD (V.s i),Id.is id2 id=false)→N id=false→h'.get id=h.get id):MR p sz N m V h st' h':=
 ⟨_,YJ i hi hM hu a1 a2 ho hc a3 fun id b1 b2 b3=>a4 id (AE fun e=>b1 e.symm) (fun id2 hid=>AE fun e=>b2 (by rw[←e];exact hid)) b3⟩
theorem PW{p:AI}{sz:List Int}{V:MV}{st:B7}(hp:MR p sz N m V h st h'): ∀id,id∉V.ids m→N id=false→h'.get id=h.get id:=by
 obtain⟨_,_,hK⟩:=hp;exact hK.frame
end Go.Proofs
namespace Go.Abs
theorem ABM(es:List (List AR))(hn:0<es.length)(i:TI)(hk:i.kind=.slice):IB .eql (.d (.ce es)) .co (some i)=some (.d (.bool false)):=by
 cases es with
 |nil=>simp at hn
 |cons e es=>simp only[IB,hk,IA]
attribute [go_sem] ABM
end Go.Abs
namespace Go.Proofs
open Go Go.Abs
theorem oX(t:List Int)(n:Nat)(hn:n=t.length)(h0:0<n)(h1:n≤1000000): ∀(g:G) (newId:Abs.Id) (j:TI),j.mix=false→j.size=1→Pn g newId j .emp (some ((t.map AL).map fun x=>x.map AV.d))=some ⟨.f8 (1::newId) 0 n,[(1::newId,.d7 1 (t.map AL))]⟩:=fun g newId j hm hs=>by
 have:=eO g newId j (t.map AL) hm (by omega) (fun e he=>by
  obtain⟨x,_,rfl⟩:=Em.1 he;rw[hs];rfl) (fun e=>by rw[F9.1 e]at hn;simp at hn;omega) (by simp[Az];omega)
 rw[this,BY,hn,hs]
theorem G0{g0:AB}{s0:Nat}{v:AV}{es:List (List AR)}(h:Kc g0 s0 v es)(g:G):VX g .slice v=some es.length:=by
 rcases h with⟨rfl,rfl⟩|⟨id,x,rfl,_⟩<;>rfl
theorem Pz{g0:AB}{v:AV}{rows:List (List AV)}(h:ue g0 v rows)(g:G):VX g .slice v=some rows.length:=by
 rcases h with⟨rfl,rfl⟩|⟨id,rfl,_⟩<;>rfl
end Go.Proofs
namespace Go.Abs
variable{g:G}{s:Nat}{es:List (List AR)}
theorem L9{id:Id}(h:g id=some (.d7 s es)){n:Nat}{lo hi mx:Option AV}{l r:Nat}{m:Option Nat}(hb:DY lo hi mx n=some (l,r,m))(hr:r≤es.length)(hm:m.getD r≤es.length)(h0:0<es.length):ET g .slice s (.f8 id 0 n) lo hi mx=m.elim (some (.f8 id l (r-l))) fun m=>if m=l then some .emp else some .undef:=by
 show M6 g s id 0 (DY lo hi mx n)=_;rw[hb];simp only[M6,h,aD,I1];have e1:Nat.beq s s=true:=Nat.beq_refl s;have e2:Nat.ble (m.getD r) es.length=true:=On hm;have e3:Nat.ble r es.length=true:=On hr;have e4:Nat.blt 0 es.length=true:=by rw[Rs];exact h0
 rw[e1,e2,e3,e4];cases m with
 |none=>rfl
 |some m=>
  simp only[OF,Gq];by_cases e:m=l<;>simp[e]
variable{a b:Int}
theorem fQ{id:Id}{n:Nat}(h:g id=some (.d7 s es)){m:Int}(h0:0≤a)(h1:a≤b)(h2:b≤m)(h3:m≤es.length)(h4:a<m):ET g .slice s (.f8 id 0 n) (some (.d (.int .i64 a))) (some (.d (.int .i64 b))) (some (.d (.int .i64 m)))=some .undef:=by
 rw[L9 h (l:=a.toNat) (r:=b.toNat) (m:=some m.toNat) (by simp[DY,Gg,HX,h0,h1,h2]) (by omega) (by simp;omega) (by omega)];simp only[Option.elim_some];rw[Ci (by omega)]
theorem R6{id:Id}{n:Nat}(h:g id=some (.d7 s es))(h0:0≤a)(h1:a≤n)(h2:n≤es.length)(h3:0<es.length):ET g .slice s (.f8 id 0 n) (some (.d (.int .i64 a))) none none=some (.f8 id a.toNat (n-a.toNat)):=by
 rw[L9 h (l:=a.toNat) (r:=n) (m:=none) (by simp[DY,Gg,HX,h0,h1]) h2 h2 h3];rfl
theorem R5{id:Id}{n:Nat}(h:g id=some (.d7 s es))(h0:0≤b)(h1:b≤es.length)(h3:0<es.length):ET g .slice s (.f8 id 0 n) none (some (.d (.int .i64 b))) none=some (.f8 id 0 b.toNat):=by
 rw[L9 h (l:=0) (r:=b.toNat) (m:=none) (by simp[DY,Gg,HX,h0]) (by omega) (by simp;omega) h3];rfl
theorem MA{id:Id}{n:Nat}(h:g id=some (.d7 s es))(h0:0≤a)(h1:a≤b)(h2:b≤es.length)(h3:0<es.length):ET g .slice s (.f8 id 0 n) (some (.d (.int .i64 a))) (some (.d (.int .i64 b))) none=some (.f8 id a.toNat (b.toNat-a.toNat)):=by
 rw[L9 h (l:=a.toNat) (r:=b.toNat) (m:=none) (by simp[DY,Gg,HX,h0,h1]) (by omega) (by simp;omega) h3];rfl
theorem R8{α:Type}{es ds:List α}{i:Nat}(h:i+ds.length≤es.length):Bj es i ds=some (es.take i++ds++es.drop (i+ds.length)):=by
 unfold Bj;rw[D1 (by first|exact h|simpa using h)]
theorem eP{sz:Nat}(ds:List (List AR))(hn:ds≠ [])(hs: ∀e∈ds,e.length=sz)(h0:0<sz)(hl:ds.length≤1000000)(g:G)(newId:Id)(j:TI)(hm:j.mix=false)(hj:j.size=sz):Pn g newId j .co (some (ds.map fun x=>x.map AV.d))=some ⟨.f8 (1::newId) 0 ds.length,[(1::newId,.d7 sz ds)]⟩:=by
 rw[Lb g newId j .co ds (by omega) (fun e he=>by rw[hj];exact hs e he) hn (by simp[Az];omega),QO,PX g newId j ds hm (by omega) (fun e he=>by rw[hj];exact hs e he) (by simp[Az];omega),hj]
theorem QP{sz:Nat}{id:Id}(es ds:List (List AR))(hn:ds≠ [])(hs: ∀e∈ds,e.length=sz)(h0:0<sz)(hl:es.length+ds.length≤1000000)(n:Nat)(he:n=es.length)(g:G)(newId:Id)(j:TI)(hj:j.size=sz)(h:g id=some (.d7 sz es)):Pn g newId j (.f8 id 0 n) (some (ds.map fun x=>x.map AV.d))=some ⟨.f8 (1::newId) 0 (n+ds.length),[(id,.i5 0 []),(1::newId,.d7 sz (es++ds))]⟩:=by
 have hp:Bj es (0+n) ds=none:=by
  unfold Bj;rw[Ci];have:0<ds.length:=List.length_pos_iff.2 hn;omega
 rw[Lb g newId j _ ds (by omega) (fun e he=>by rw[hj];exact hs e he) hn (by simp[Az];omega),OM,h,OJ,D1 ⟨hj.symm,by omega⟩,QN,IU,HF,OI,Oq,D1 rfl,hp,QL,D1 ⟨rfl,by simp[Az];omega⟩,he,EM];rfl
theorem S6{g:G}{id:Id}{sz:Nat}{es x:List (List AR)}{a n:Nat}(h:g id=some (.d7 sz (es++x)))(hn:n=es.length)(ha:a<n)(hs: ∀e∈es,e.length=sz)(h0:0<sz)(hl:n≤1000000)(newId:Id)(j:TI)(hj:j.size=sz):
 Pn g newId j (.f8 id 0 a) (some (List.take (n-(a+1)) (List.drop (a+1) ((es++x).map fun e=>e.map AV.d))))=some ⟨.f8 id 0 (n-1),if a+1=n then []else [(id,.d7 sz (es.take a++(es.drop (a+1)++(es.drop (n-1)++x))))]⟩:=by
 subst hn;have e1:List.take (es.length-(a+1)) (List.drop (a+1) ((es++x).map fun e=>e.map AV.d))=(es.drop (a+1)).map fun e=>e.map AV.d:=by
  rw[←List.map_drop,←List.map_take,List.drop_append_of_le_length (by omega),Lt (by simp),DL (by simp)]
 rw[e1];by_cases hz:a+1=es.length
 .rw[RS (by omega),CO,WO,WV,D1 hz];congr 2;exact congrArg _ (by omega)
 .have hne:es.drop (a+1)≠ []:=fun e=>by rw[OL]at e;omega
  have hds: ∀e∈es.drop (a+1),e.length=j.size:=fun e he=>by rw[hj];exact hs e (Jp he)
  rw[Lb g newId j _ _ (by omega) hds hne (by simp[Az];omega),OM,h,OJ,D1 ⟨hj.symm,by simp;omega⟩,QN,IU,HF,OI,Oq,D1 rfl,R8 (by simp;omega),QM,Ci hz];simp only[I1,D8,I2];congr 2
  .exact congrArg _ (by omega)
  .rw[Lt (by omega),List.drop_append_of_le_length (by omega),show a+(es.length-(a+1))=es.length-1 by omega,D3]
theorem W4{id:Id}{sz off n:Nat}{z:List AR}{j:TI}(h:g id=some (.d7 sz es))(hj:j.size=sz)(hz:CU (fun _=>none) j.zero=some z)(hl:z.length=sz)(hc:(j.zero.length=sz∧j.zero.all AV.isCell=true)∧0<sz)(hn:off+n≤es.length):Gv g id off n j=some ⟨.undef,[(id,.d7 sz (es.take off++(List.replicate n z++es.drop (off+n))))]⟩:=by
 unfold Gv;rw[h];simp only[hz];rw[D1 ⟨hl,by rw[hc.1.1,hj],hc.1.2,hc.2⟩,R8 (by simpa using hn)];simp[D3]
def Zv(g:G)(id:Id)(off n:Nat):Option TI→Option Br
 |some j=>Gv g id off n j
 |none=>none
theorem YM(T:TypeId→Option TI)(g:G)(i:TI)(id:Id)(off:Nat)(hk:i.kind=.slice):FP T g (some i) (.f8 id off 1)=Zv g id off 1 (T i.elem):=by
 unfold FP;simp only[hk];cases T i.elem<;>rfl
theorem W3(g:G)(id:Id)(off n:Nat)(j:TI):Zv g id off n (some j)=Gv g id off n j:=rfl
attribute [go_sem] YM W3
theorem Qb{es x:List (List AR)}{a sz:Nat}{z:List AR}{zs:List AV}(L:List (List AR))(ha:a<es.length)(hL:L=es.take a++(es.drop (a+1)++(es.drop (es.length-1)++x)))(hz:CU (fun _=>none) zs=some z)(hl:z.length=sz)(hc:(zs.length=sz∧zs.all AV.isCell=true)∧0<sz){id:Id}(g:G)(j:TI)(h:g id=some (.d7 sz L))(hj:j.size=sz)(hj2:j.zero=zs):Gv g id (es.length-1) 1 j=some ⟨.undef,[(id,.d7 sz (es.take a++(es.drop (a+1)++(z::x))))]⟩:=by
 subst hj2 hL;have hl1:(es.take a).length=a:=by rw[He];omega
 have hl2:(es.drop (a+1)).length=es.length-1-a:=by rw[I2];omega
 have hl3:(es.drop (es.length-1)).length=1:=by rw[I2];omega
 rw[W4 h hj hz hl hc (by simp only[CE,hl1,hl2,hl3];omega)];congr 5;have e1:es.take a++(es.drop (a+1)++(es.drop (es.length-1)++x))=(es.take a++es.drop (a+1))++(es.drop (es.length-1)++x):=by simp
 have e2:(es.take a++es.drop (a+1)).length=es.length-1:=by rw[CE,hl1,hl2];omega
 rw[e1,List.take_left' e2];have e3:(es.take a++es.drop (a+1))++(es.drop (es.length-1)++x)=((es.take a++es.drop (a+1))++es.drop (es.length-1))++x:=(D3 ..).symm;rw[e3,List.drop_left' (l₁:=(es.take a++es.drop (a+1))++es.drop (es.length-1)) (by rw[CE,e2,hl3])];simp
end Go.Abs
namespace Go.Proofs
open Go Go.Abs
set_option maxRecDepth 100000
set_option maxHeartbeats 4000000
theorem NP{h:AB}{π:List Nat}{id:Abs.Id}{es x:List (List AR)}{n a:Nat}(hm:h.get id=some (.d7 1 (es++x)))(hu:Id.under π id=false)(hn:n=es.length)(ha:a<n)(hs: ∀e∈es,e.length=1)(hl:n≤1000000):
 ∃o h',KL Tryz.prog cfg (.fn 161) [.f8 id 0 n,.d (.int .i64 (a)),.d (.int .i64 ((a:Int)+1))] h π true none=.ok (o,h')∧o=.ret (.f8 id 0 (n-1))∧(∃y,h'.get id=some (.d7 1 (es.take a++es.drop (a+1)++y)))∧ ∀i,Id.is id i=false→h'.get i=h.get i:=by
 subst hn;have w1:IntKind.i64.wrap ((a:Int)+1)=(a:Int)+1:=wrap_id (by omega) (by omega);have q1:=AG hu;have c1:=fQ (g:=h.get) (n:=es.length) hm (a:=a) (b:=(a:Int)+1) (m:=es.length) (by omega) (by omega) (by omega) (by simp;omega) (by omega);have c2:=R5 (g:=h.get) (n:=es.length) hm (b:=a) (by omega) (by simp;omega) (by simp;omega);have c3:=R6 (g:=h.get) (n:=es.length) hm (a:=(a:Int)+1) (by omega) (by omega) (by simp) (by simp;omega);have t1:((a:Int)).toNat=a:=rfl;have t2:((a:Int)+1).toNat=a+1:=by omega
 rw[t1]at c2;rw[t2]at c3;have c4:=S6 hm rfl ha hs (by decide) hl;replace hs:=AA.mk hs;have hle:a+(1+(es.length-(a+1)))≤es.length+x.length:=by omega
 have hd: ¬(a:Int)=(a:Int)+1:=by omega
 (refine Af rfl Tryz.func161 rfl rfl rfl ?_;show Wp _ _ _ _ (Tryz.f161.body.get rfl) _ _;simp only[Tryz.f161,AS])
 have w2:es.length-(es.length-1)=1:=by omega
 have c6:=fun L hL=>Qb (es:=es) (x:=x) (sz:=1) (z:=[.ce []]) (zs:=[.co]) L ha hL rfl rfl ⟨⟨rfl,rfl⟩,by decide⟩ (id:=id);by_cases hz:a+1=es.length
 .rw[D1 hz]at c4;have c5:=fun(g:G) (hg:g id=some (.d7 1 (es++x)))=>MA (n:=es.length-1) hg (a:=((es.length-1:Nat):Int)) (b:=es.length) (by omega) (by omega) (by simp;omega) (by simp;omega);simp only[F7,w2]at c5;have c6:=c6 (es++x) (by rw[←D3,show es.length-1=a by omega,RS (show es.length≤a+1 by omega)];simp[←D3]);replace hz:=AA.mk hz;refine aw ?_;exact⟨⟨_,rfl⟩,fun i hi=>by simp[hi]⟩
 .rw[Ci hz]at c4;have c5:=fun(g:G) (hg:g id=some (.d7 1 (es.take a++(es.drop (a+1)++(es.drop (es.length-1)++x)))))=>MA (n:=es.length-1) hg (a:=((es.length-1:Nat):Int)) (b:=es.length) (by omega) (by omega) (by simp;omega) (by simp;omega);simp only[F7,w2]at c5;have c6:=c6 _ rfl;refine aw ?_;exact⟨⟨_,rfl⟩,fun i hi=>by simp[hi]⟩
theorem U6{h:AB}{π:List Nat}{id:Abs.Id}{es x:List (List AR)}{n a:Nat}(hm:h.get id=some (.d7 3 (es++x)))(hu:Id.under π id=false)(hn:n=es.length)(ha:a<n)(hs: ∀e∈es,e.length=3)(hl:n≤1000000):
 ∃o h',KL Tryz.prog cfg (.fn 101) [.f8 id 0 n,.d (.int .i64 (a)),.d (.int .i64 ((a:Int)+1))] h π true none=.ok (o,h')∧o=.ret (.f8 id 0 (n-1))∧(∃y,h'.get id=some (.d7 3 (es.take a++es.drop (a+1)++y)))∧ ∀i,Id.is id i=false→h'.get i=h.get i:=by
 subst hn;have w1:IntKind.i64.wrap ((a:Int)+1)=(a:Int)+1:=wrap_id (by omega) (by omega);have q1:=AG hu;have c1:=fQ (g:=h.get) (n:=es.length) hm (a:=a) (b:=(a:Int)+1) (m:=es.length) (by omega) (by omega) (by omega) (by simp;omega) (by omega);have c2:=R5 (g:=h.get) (n:=es.length) hm (b:=a) (by omega) (by simp;omega) (by simp;omega);have c3:=R6 (g:=h.get) (n:=es.length) hm (a:=(a:Int)+1) (by omega) (by omega) (by simp) (by simp;omega);have t1:((a:Int)).toNat=a:=rfl;have t2:((a:Int)+1).toNat=a+1:=by omega
 rw[t1]at c2;rw[t2]at c3;have c4:=S6 hm rfl ha hs (by decide) hl;replace hs:=AA.mk hs;have hle:a+(1+(es.length-(a+1)))≤es.length+x.length:=by omega
 have hd: ¬(a:Int)=(a:Int)+1:=by omega
 (refine Af rfl Tryz.func101 rfl rfl rfl ?_;show Wp _ _ _ _ (Tryz.f101.body.get rfl) _ _;simp only[Tryz.f101,AS])
 have w2:es.length-(es.length-1)=1:=by omega
 have c6:=fun L hL=>Qb (es:=es) (x:=x) (sz:=3) (z:=[.int .i64 0,.int .i64 0,.ce []]) (zs:=[.d (.int .i64 0),.d (.int .i64 0),.co]) L ha hL rfl rfl ⟨⟨rfl,rfl⟩,by decide⟩ (id:=id);by_cases hz:a+1=es.length
 .rw[D1 hz]at c4;have c5:=fun(g:G) (hg:g id=some (.d7 3 (es++x)))=>MA (n:=es.length-1) hg (a:=((es.length-1:Nat):Int)) (b:=es.length) (by omega) (by omega) (by simp;omega) (by simp;omega);simp only[F7,w2]at c5;have c6:=c6 (es++x) (by rw[←D3,show es.length-1=a by omega,RS (show es.length≤a+1 by omega)];simp[←D3]);replace hz:=AA.mk hz;refine aw ?_;exact⟨⟨_,rfl⟩,fun i hi=>by simp[hi]⟩
 .rw[Ci hz]at c4;have c5:=fun(g:G) (hg:g id=some (.d7 3 (es.take a++(es.drop (a+1)++(es.drop (es.length-1)++x)))))=>MA (n:=es.length-1) hg (a:=((es.length-1:Nat):Int)) (b:=es.length) (by omega) (by omega) (by simp;omega) (by simp;omega);simp only[F7,w2]at c5;have c6:=c6 _ rfl;refine aw ?_;exact⟨⟨_,rfl⟩,fun i hi=>by simp[hi]⟩
end Go.Proofs
namespace Go.Abs
theorem fW(l:List Id)(x y:Id):y∈KX l x↔y∈l∨y=x:=by
 unfold KX;split
 .rename_i h;obtain⟨z,hz,e⟩:=Rg.1 h;have:x=z:=is_iff.1 e;subst this;constructor
  .exact .inl
  .rintro(h|rfl)
   .exact h
   .exact hz
 .simp
theorem WI{l:List Id}(h:l.Nodup)(x:Id):(KX l x).Nodup:=by
 unfold KX;split
 .exact h
 .rename_i hx;rw[KW];refine⟨h,by simp,fun a ha b hb=>?_⟩;rw[As]at hb;subst hb;rintro rfl;have:l.any (Id.is a)=true:=Rg.2 ⟨a,ha,is_self a⟩;rw[this]at hx;cases hx
theorem fX(l:List Id)(x:Id): ∃m,KX l x=l++m:=by
 unfold KX;split
 .exact⟨[],by simp⟩
 .exact⟨[x],rfl⟩
theorem Gf: ∀(new l:List Id) (y:Id),y∈ER l new↔y∈l∨y∈new
 |[],l,y=>by simp[ER]
 |x::new,l,y=>by
  have:=Gf new (KX l x) y;unfold ER at*;rw[MT,this,fW,DO,or_assoc]
theorem J5: ∀(new:List Id) {l:List Id},l.Nodup→(ER l new).Nodup
 |[],l,h=>h
 |x::new,l,h=>J5 new (WI h x)
theorem QF: ∀(new l:List Id),∃m,ER l new=l++m
 |[],l=>⟨[],by simp[ER]⟩
 |x::new,l=>by
  obtain⟨m,hm⟩:=fX l x;obtain⟨m2,hm2⟩:=QF new (KX l x);refine⟨m++m2,?_⟩;have:ER l (x::new)=ER (KX l x) new:=rfl;rw[this,hm2,hm,D3]
theorem Rr(h:AB)(M:List Id)(hc: ∀x∈M,∀y∈Ib (h.get x),y∈M): ∀(n:Nat) (l:List Id) (i:Nat),l.Nodup→(∀x∈l,x∈M)→(∀j x,j<i→l[j]? =some x→ ∀y∈Ib (h.get x),y∈l)→M.length≤i+n→
 (Bm h n l i).Nodup∧(∀x∈Bm h n l i,x∈M)∧(∀x∈l,x∈Bm h n l i)∧ ∀x∈Bm h n l i,∀y∈Ib (h.get x),y∈Bm h n l i
 |0,l,i,hn,hm,hd,hi=>by
  have e:Bm h 0 l i=l:=rfl;rw[e];refine⟨hn,hm,fun x hx=>hx,fun x hx y hy=>?_⟩;obtain⟨j,hj⟩:=Hm hx;have h1:=hn.length_le_of_subset (l₂:=M) hm;have h2:=(BE.1 hj).1;exact hd j x (by omega) hj y hy
 |n+1,l,i,hn,hm,hd,hi=>by
  cases hl:l[i]? with
  |none=>
   have e:Bm h (n+1) l i=l:=by rw[Bm,hl]
   rw[e];refine⟨hn,hm,fun x hx=>hx,fun x hx y hy=>?_⟩;obtain⟨j,hj⟩:=Hm hx;have h1:=List.getElem?_eq_none_iff.1 hl;have h2:=(BE.1 hj).1;exact hd j x (by omega) hj y hy
  |some id=>
   have e:Bm h (n+1) l i=Bm h n (ER l (Ib (h.get id))) (i+1):=by rw[Bm,hl]
   rw[e];have hid:=Ac hl;obtain⟨m,hm2⟩:=QF (Ib (h.get id)) l;have ih:=Rr h M hc n (ER l (Ib (h.get id))) (i+1) (J5 _ hn) (fun x hx=>by
    rcases(Gf _ _ _).1 hx with hx|hx
    .exact hm x hx
    .exact hc id (hm id hid) x hx) (fun j x hj hx y hy=>by
    rw[Gf];by_cases hji:j=i
    .subst hji;rw[hm2,Be (BE.1 hl).1,hl]at hx;cases hx;exact .inr hy
    .have hil:=(BE.1 hl).1;rw[hm2,Be (by omega)]at hx;exact .inl (hd j x (by omega) hx y hy)) (by omega)
   exact⟨ih.1,ih.2.1,fun x hx=>ih.2.2.1 x ((Gf _ _ _).2 (.inl hx)),ih.2.2.2⟩
theorem Hl(π:List Nat): ∀(l:List Id) (n:Nat) (x:Id),x∈l→ ∃j,DD π l n x=some (SA x::(n+j)::π)∧j<l.length
 |y::l,n,x,hx=>by
  rw[RU];by_cases h:Id.is y x=true
  .rw[D1 h];exact⟨0,rfl,by simp⟩
  .rw[Ci h];have hx2:x∈l:=by
    rcases DO.1 hx with rfl|hx
    .exact absurd (is_self _) h
    .exact hx
   obtain⟨j,hj,hlt⟩:=Hl π l (n+1) x hx2;exact⟨j+1,by rw[hj];congr 3;omega,by simp;omega⟩
theorem Yl(h:AB)(ν:Id→Option Id)(hinj: ∀x y z,ν x=some z→ν y=some z→x=y){x z:Id}{o:Obj}(hz:ν x=some z)(ho:h.get x=some o): ∀(l:List Id),x∈l→(Ct h ν l).get z=some (Ih ν o)
 |y::l,hx=>by
  by_cases hxy:y=x
  .subst hxy;rw[Ct,ho,hz,BL,is_self,D1 rfl]
  .have hx2:x∈l:=by
    rcases DO.1 hx with rfl|hx
    .exact absurd rfl hxy
    .exact hx
   have ih:=Yl h ν hinj hz ho l hx2;rw[Ct];split
   .rename_i o' z' h1 h2;rw[BL,AE (fun e=>hxy (hinj _ _ _ h2 (by rw[e];exact hz))),Ci (by simp)];exact ih
   .exact ih
structure Ren(π:List Nat)(h:AB)(e:BT)(ν:Id→Option Id)(h':AB)(n:Nat):Prop where
 env: ∀x∈Sg e,∃z,ν x=some z
 name: ∀x z,ν x=some z→ ∃j,j<n∧z=SA x::j::π
 inj: ∀x y z,ν x=some z→ν y=some z→x=y
 get: ∀x z o,ν x=some z→h.get x=some o→h'.get z=some (Ih ν o)
 deep: ∀x z,ν x=some z→ ∀y∈Ib (h.get x),∃z',ν y=some z'
 only: ∀z o,h'.get z=some o→ ∃x,ν x=some z
theorem Wi(π:List Nat)(h:AB)(e:BT)(M:List Id)(hM:M.length≤1000)(he: ∀x∈Sg e,x∈M)(hc: ∀x∈M,∀y∈Ib (h.get x),y∈M):
 ∃ν h' n,MY π h e=⟨e.map fun p=>(p.1,L7 ν p.2),h',n,[]⟩∧n≤M.length∧Ren π h e ν h' n:=by
 obtain⟨r1,r2,r3,r4⟩:=Rr h M hc 1000 (ER [] (Sg e)) 0 (J5 _ .nil) (fun x hx=>by
  rcases(Gf _ _ _).1 hx with hx|hx
  .cases hx
  .exact he x hx) (fun j x hj=>by omega) (by omega)
 unfold MY Uy;generalize Bm h 1000 (ER [] (Sg e)) 0=L at*;refine⟨DD π L 0,Ct h (DD π L 0) L,L.length,rfl,r1.length_le_of_subset r2,?_,?_,fun x y z=>K7,fun x z o hz ho=>?_,fun x z hz y hy=>?_,fun z o hz=>?_⟩
 .intro x hx;obtain⟨j,hj,_⟩:=Hl π L 0 x (r3 x ((Gf _ _ _).2 (.inr hx)));exact⟨_,hj⟩
 .intro x z hz;obtain⟨j,t,h1,h2⟩:=EC hz;obtain⟨j2,h3,h4⟩:=Hl π L 0 x (Ac h1);rw[hz]at h3;cases h3;exact⟨0+j2,by omega,rfl⟩
 .obtain⟨j,t,h1,h2⟩:=EC hz;exact Yl h _ (fun x y z=>K7) hz ho L (Ac h1)
 .obtain⟨j,t,h1,h2⟩:=EC hz;obtain⟨j2,h3,h4⟩:=Hl π L 0 y (r4 x (Ac h1) y hy);exact⟨_,h3⟩
 .obtain⟨x,o,_,h2,_⟩:=EO hz;exact⟨x,h2⟩
end Go.Abs
