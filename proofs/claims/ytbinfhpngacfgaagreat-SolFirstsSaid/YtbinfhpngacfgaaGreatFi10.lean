/-
  Parts of it.
-/
import Derived.KernelRfl
import Derived.Test.YtbinfhpngacfgaaGreatFi6
import Derived.Test.YtbinfhpngacfgaaGreatFi7
import Derived.Test.YtbinfhpngacfgaaGreatFi9
set_option linter.all false
namespace Go.Abs
variable{P:Program}{C:CA}{mix:List TypeId}
abbrev JG:=List (FuncId×List AV×AV)
def JG.look:JG→FuncId→List AV→Option AV
 |[],_,_=>none
 |(g,bs,r)::l,f,az=>match Nat.beq g f with
  |true=>match AV.sames bs az with
   |true=>some r
   |false=>JG.look l f az
  |false=>JG.look l f az
def JG.Known(P:Program)(C:CA)(T:JG):Prop:= ∀f az r,(f,az,r)∈T→KL P C (.fn f) az [] [] false none=.ok (.ret r,[])
theorem JG.look_mem: ∀{T:JG} {f:FuncId} {az:List AV} {r:AV},T.look f az=some r→(f,az,r)∈T
 |[],_,_,_,h=>by cases h
 |(g,bs,r')::l,f,az,r,h=>by
  unfold JG.look at h;split at h
  .rename_i h1;split at h
   .rename_i h2;cases h;rw[←Co h1,←AV.sames_eq h2];simp
   .exact EX _ (JG.look_mem h)
  .exact EX _ (JG.look_mem h)
def JG.ask(T:JG)(f:FuncId)(az:List AV):AB→List Nat→Bool→Option (List Nat)→Option AV
 |[],[],false,none=>T.look f az
 |_,_,_,_=>none
def IU(P:Program)(C:CA)(T:JG)(m:Nat):Nat→AJ
 |0=>fun _ _ _ _ _ _=>.err [25]
 |n+1=>fun t args h π raw bi=>match t with
  |.fn f=>match T.ask f args h π raw bi with
   |some r=>.ok (.ret r,[])
   |none=>match C.ii f with
    |true=>Nm P C (IU P C T m n) m f args h π raw bi
    |false=>.err [41,f]
  |.round id r=>match raw with
   |true=>G0 C (IU P C T m n) m id r args h π bi
   |false=>.err [42]
variable{T:JG}{m:Nat}
theorem Pz(hT:T.Known P C): ∀{n:Nat} {q:Qu} {r:Ae×AB},ask (IU P C T m n) q=.ok r→ask (KL P C) q=.ok r
 |0,q,r,h=>by simp[ask,IU]at h
 |n+1,⟨t,args,h,π,raw,bi⟩,r,hr=>by
  simp only[ask,IU]at hr⊢;cases t with
  |fn f=>
   simp only at hr;split at hr
   .rename_i r' hl;cases hr;unfold JG.ask at hl;split at hl
    .exact hT _ _ _ (JG.look_mem hl)
    .cases hl
   .split at hr
    .rename_i hg;obtain⟨L,hL⟩:=MW hr;refine vo hg (n:=m) ?_;exact hL _ m (El _) fun q _ r' h'=>Pz hT h'
    .cases hr
  |round id lp=>
   simp only at hr;split at hr
   .rename_i hrw;obtain⟨L,hL⟩:=JC hr;refine ko (n:=m) ?_;exact hL _ m (El _) fun q _ r' h'=>Pz hT h'
   .cases hr
variable{f:FuncId}{az:List AV}{r:AV}
theorem Jh(hT:T.Known P C)(m n:Nat)(h:IU P C T m n (.fn f) az [] [] false none=.ok (.ret r,[])):KL P C (.fn f) az [] [] false none=.ok (.ret r,[]):=
 Pz (q:=⟨.fn f,az,[],[],false,none⟩) hT h
theorem JG.known_nil:JG.Known P C []:=fun _ _ _ h=>by cases h
theorem JG.known_cons(h:KL P C (.fn f) az [] [] false none=.ok (.ret r,[]))(hT:T.Known P C):JG.Known P C ((f,az,r)::T):=fun f' az' r' hm=>by
 rcases DL.1 hm with h1|h1
 .cases h1;exact h
 .exact hT _ _ _ h1
variable{P:Program}{C:CA}{K:AJ}{fr:Fr}{b n i:Nat}{Q:Dc→St→Prop}
def Wp(C:CA)(K:AJ)(fr:Fr)(b:Nat)(c:Code)(st:St)(Q:Dc→St→Prop):Prop:= ∃n o st',BC C K fr n b c st=.ok (o,st')∧Q o st'
variable{c:Code}
theorem PR{n b:Nat}{st:St}{r:Dc×St}(h:BC C K fr n b c st=.ok r)(hm:n≤m):BC C K fr m b c st=.ok r:=by
 obtain⟨L,hL⟩:=LO n b c st (E.good_of h);rw[hL K m hm (fun _ _ _ h=>h),h]
def qB(C:CA)(K:AJ)(fr:Fr)(b:Nat)(y:Code)(Q:Dc→St→Prop):Dc→St→Prop
 |.normal,st=>Wp C K fr b y st Q
 |o,st=>Q o st
def KV(id:Nat)(Q:Dc→St→Prop):Dc→St→Prop
 |.exit k,st=>match Nat.beq k id with
  |true=>Q .normal st
  |false=>Q (.exit k) st
 |o,st=>Q o st
def KY(C:CA)(K:AJ)(fr:Fr)(b:Nat)(x y:Code)(st:St)(Q:Dc→St→Prop):AV→Prop
 |.d (.bool true)=>Wp C K fr b x st Q
 |.d (.bool false)=>Wp C K fr b y st Q
 |_=>False
def Ez(C:CA)(K:AJ)(fr:Fr)(ops:Array Oper)(b n:Nat)(al:Nat→Bool)(l:List Oper)(i:Nat)(st:St)(Q:Dc→St→Prop):Prop:=
 match Cl C K fr ops b al l i st with
 |.ok ((none,st'),_)=>Q .normal {st' with base:=b+n}
 |.ok ((some v,st'),_)=>Q (.em v) {st' with base:=b+n}
 |.err _=>False
def FV(C:CA)(K:AJ)(fr:Fr)(ops:Array Oper)(b n:Nat)(al:Nat→Bool)(ps:List (Nat×Nat))(fps:List Fp)(l:List Oper)(i:Nat)(st:St)(Q:Dc→St→Prop):Prop:=
 match Cl C K fr ops b al l i st with
 |.ok ((none,st'),f)=>DC (fps++f) ps=true∧Q .normal {st' with base:=b+n}
 |.ok ((some v,st'),f)=>DC (fps++f) ps=true∧Q (.em v) {st' with base:=b+n}
 |.err _=>False
theorem yr(x y:Code)(st:St):Wp C K fr b (.seq x y) st Q=Wp C K fr b x st (qB C K fr b y Q):=by
 refine propext ⟨fun⟨n,o,st',h,hq⟩=>?_,fun⟨n,o,st',h,hq⟩=>?_⟩
 .cases n with
  |zero=>simp[BC]at h
  |succ n=>
   simp only[BC]at h;cases hx:BC C K fr n b x st with
   |err e=>rw[hx]at h;cases h
   |ok r=>
    rw[hx]at h;obtain⟨o1,st1⟩:=r;refine⟨n,o1,st1,hx,?_⟩;cases o1<;>simp only[C2]at h
    .exact⟨n,o,st',h,hq⟩
    all_goals (cases h;exact hq)
 .cases o with
  |normal=>
   obtain⟨m,o2,st2,h2,hq2⟩:=hq;refine⟨max n m+1,o2,st2,?_,hq2⟩;simp only[BC,PR h (LI n m),C2,PR h2 (Mp n m)]
  |_=>exact⟨n+1,_,st',by simp only[BC,h,C2],hq⟩
theorem vd(c:Operand)(x y:Code)(st:St):Wp C K fr b (.cond c x y) st Q=KY C K fr b x y st Q (ev st.env.get c):=by
 have e: ∀{v:AV} {x y:Code} (hv: ∀n,BC C K fr (n+1) b (.cond c x y) st=JM v (BC C K fr n b x st) (BC C K fr n b y st)),Wp C K fr b (.cond c x y) st Q=KY C K fr b x y st Q v:=by
  intro v x y hv;refine propext ⟨fun⟨n,o,st',h,hq⟩=>?_,fun h=>?_⟩
  .cases n with
   |zero=>simp[BC]at h
   |succ n=>
    rw[hv]at h;unfold JM at h;split at h
    .rename_i t;cases t
     .exact⟨n,o,st',h,hq⟩
     .exact⟨n,o,st',h,hq⟩
    .cases h
  .unfold KY at h;split at h
   .obtain⟨n,o,st',h,hq⟩:=h;exact⟨n+1,o,st',by rw[hv];exact h,hq⟩
   .obtain⟨n,o,st',h,hq⟩:=h;exact⟨n+1,o,st',by rw[hv];exact h,hq⟩
   .exact h.elim
 exact e fun n=>by simp only[BC]
theorem qg(id:Nat)(x:Code)(st:St):Wp C K fr b (.block id x) st Q=Wp C K fr id x st (KV id Q):=by
 refine propext ⟨fun⟨n,o,st',h,hq⟩=>?_,fun⟨n,o,st',h,hq⟩=>?_⟩
 .cases n with
  |zero=>simp[BC]at h
  |succ n=>
   simp only[BC]at h;cases hx:BC C K fr n id x st with
   |err e=>rw[hx]at h;cases h
   |ok r=>
    rw[hx]at h;obtain⟨o1,st1⟩:=r;refine⟨n,o1,st1,hx,?_⟩;cases o1 with
    |exit k=>
     simp only[Fq]at h;simp only[KV];split at h<;>(rename_i hk;rw[hk];cases h;exact hq)
    |_=>cases h;exact hq
 .cases o with
  |exit k=>
   simp only[KV]at hq;cases hk:Nat.beq k id with
   |true=>
    rw[hk]at hq;exact⟨n+1,.normal,st',by simp only[BC,h,Fq,hk],hq⟩
   |false=>
    rw[hk]at hq;exact⟨n+1,.exit k,st',by simp only[BC,h,Fq,hk],hq⟩
  |_=>exact⟨n+1,_,st',by simp only[BC,h,Fq],hq⟩
theorem Uf{st:St}{o:Dc}{st':St}(h: ∀n,BC C K fr (n+1) b c st=.ok (o,st')):Wp C K fr b c st Q=Q o st':=by
 refine propext ⟨fun⟨n,o1,st1,h1,hq⟩=>?_,fun hq=>⟨1,o,st',h 0,hq⟩⟩;cases n with
 |zero=>simp[BC]at h1
 |succ n=>
  rw[h]at h1;cases h1;exact hq
theorem vh(st:St):Wp C K fr b .skip st Q=Q .normal st:=Uf fun _=>rfl
theorem yq(st:St):Wp C K fr b .ret st Q=Q .ret st:=Uf fun _=>rfl
theorem vf(id:Nat)(st:St):Wp C K fr b (.exit id) st Q=Q (.exit id) st:=Uf fun _=>rfl
theorem Mg(id:Nat)(ops:Array Oper)(draw:Bool)(st:St):Wp C K fr b (.region id ops draw) st Q=match DY C K fr id ops draw st with|.ok (o,st')=>Q o st'|.err _=>False:=by
 cases h:DY C K fr id ops draw st with
 |ok r=>
  obtain⟨o,st'⟩:=r;exact Uf fun n=>by simp only[BC,h]
 |err e=>
  refine propext ⟨fun⟨n,o,st',h1,hq⟩=>?_,fun h=>h.elim⟩;cases n with
  |zero=>simp[BC]at h1
  |succ n=>
   simp only[BC,h]at h1;cases h1
theorem kO(id:Nat)(ops:Array Oper)(e:CB)(h:AB)(bs:Nat)(ds:List Df):Wp C K fr b (.region id ops false) ⟨e,h,bs,ds⟩ Q=Ez C K fr ops bs ops.size (fun _=>true) ops.toList 0 ⟨e,h,bs,ds⟩ Q:=by
 rw[Mg];unfold DY Ez;simp only[OK,Bool.true_or];cases Cl C K fr ops bs (fun _=>true) ops.toList 0 ⟨e,h,bs,ds⟩with
 |err l=>rfl
 |ok r=>
  obtain⟨⟨o,st'⟩,fps⟩:=r;cases o<;>simp[JY]
theorem qh(id:Nat)(ops:Array Oper)(e:CB)(h:AB)(bs:Nat)(ds:List Df)(hp:C.co fr.f id=[]):Wp C K fr b (.region id ops true) ⟨e,h,bs,ds⟩ Q=Ez C K fr ops bs ops.size (fun i=>C.alone fr.f id i) ops.toList 0 ⟨e,h,bs,ds⟩ Q:=by
 rw[Mg];unfold DY Ez;simp only[Nl,Ip];cases Cl C K fr ops bs (fun i=>C.alone fr.f id i) ops.toList 0 ⟨e,h,bs,ds⟩with
 |err l=>rfl
 |ok r=>
  obtain⟨⟨o,st'⟩,fps⟩:=r;cases o<;>simp[JY,hp,DC]
theorem ve(id:Nat)(ops:Array Oper)(e:CB)(h:AB)(bs:Nat)(ds:List Df){ps:List (Nat×Nat)}(hp:C.co fr.f id=ps):Wp C K fr b (.region id ops true) ⟨e,h,bs,ds⟩ Q=FV C K fr ops bs ops.size (fun i=>C.alone fr.f id i) ps [] ops.toList 0 ⟨e,h,bs,ds⟩ Q:=by
 rw[Mg];unfold DY FV;simp only[Nl,Ip,Ex];cases Cl C K fr ops bs (fun i=>C.alone fr.f id i) ops.toList 0 ⟨e,h,bs,ds⟩with
 |err l=>rfl
 |ok r=>
  obtain⟨⟨o,st'⟩,fps⟩:=r;subst hp;cases o<;>cases hq:DC fps (C.co fr.f id)<;>simp[JY,hq]
theorem X9(y:Code)(st:St):qB C K fr b y Q .normal st=Wp C K fr b y st Q:=rfl
theorem kA(y:Code)(k:Nat)(st:St):qB C K fr b y Q (.exit k) st=Q (.exit k) st:=rfl
theorem qD(y:Code)(st:St):qB C K fr b y Q .ret st=Q .ret st:=rfl
theorem qC(y:Code)(v:AV)(st:St):qB C K fr b y Q (.em v) st=Q (.em v) st:=rfl
theorem RQ(id:Nat)(st:St):KV id Q .normal st=Q .normal st:=rfl
theorem Yi(id:Nat)(st:St):KV id Q .ret st=Q .ret st:=rfl
theorem Yh(id:Nat)(v:AV)(st:St):KV id Q (.em v) st=Q (.em v) st:=rfl
theorem U6(id:Nat)(st:St):KV id Q (.exit id) st=Q .normal st:=by
 simp[KV]
theorem Yu(x y:Code)(st:St):KY C K fr b x y st Q (.d (.bool true))=Wp C K fr b x st Q:=rfl
theorem VQ(x y:Code)(st:St):KY C K fr b x y st Q (.d (.bool false))=Wp C K fr b y st Q:=rfl
variable{t:Bool}
theorem VS{x y:Code}{st:St}(h1:t=true→Wp C K fr b x st Q)(h2:t=false→Wp C K fr b y st Q):KY C K fr b x y st Q (.d (.bool t)):=by
 cases t
 .exact h2 rfl
 .exact h1 rfl
variable{ops:Array Oper}{al:Nat→Bool}{l:List Oper}{e:CB}{h:AB}{bs:Nat}{ds:List Df}{ps:List (Nat×Nat)}{fps:List Fp}
def BZ(C:CA)(K:AJ)(fr:Fr)(ops:Array Oper)(b n:Nat)(al:Nat→Bool)(l:List Oper)(i:Nat)(dst:Option Tmp)(e:CB)(h:AB)(bs:Nat)(ds:List Df)(Q:Dc→St→Prop):Option Bw→Prop
 |some x=>JE fr.bi x.δ=true∧Ez C K fr ops b n al l (i+1) ⟨B8 e dst x.v,h.puts x.δ,bs,ds⟩ Q
 |none=>False
def BL(C:CA)(K:AJ)(fr:Fr)(ops:Array Oper)(b n:Nat)(al:Nat→Bool)(l:List Oper)(i:Nat)(Q:Dc→St→Prop):Fx→Prop
 |.ok st _=>Ez C K fr ops b n al l (i+1) st Q
 |.em v st=>al i=true∧Q (.em v) {st with base:=b+n}
 |.err _=>False
theorem pW:Ez C K fr ops b n al [] i ⟨e,h,bs,ds⟩ Q=Q .normal ⟨e,h,b+n,ds⟩:=rfl
theorem So(o:Oper)(st:St):Ez C K fr ops b n al (o::l) i st Q=BL C K fr ops b n al l i Q (B2 C K fr ops ((b+i)::fr.π) o st):=by
 unfold Ez;simp only[Cl,HN];cases hs:B2 C K fr ops ((b+i)::fr.π) o st with
 |err e=>rfl
 |em v st'=>
  simp only[BL];cases al i<;>simp
 |ok st' fp=>
  simp only[BL,Ez];cases hr:Cl C K fr ops b al l (i+1) st' with
  |err e=>rfl
  |ok r=>
   obtain⟨⟨o,st2⟩,fps⟩:=r;cases o<;>rfl
def Cj(C:CA)(K:AJ)(fr:Fr)(ops:Array Oper)(b n:Nat)(al:Nat→Bool)(l:List Oper)(i:Nat)(dst:Option Tmp)(op:Op)(st:St)(want:Bool)(Q:Dc→St→Prop):AV→Prop
 |.d (.bool t)=>match t==want with
  |true=>BL C K fr ops b n al l i Q (Ax C K fr ((b+i)::fr.π) op dst st)
  |false=>Ez C K fr ops b n al l (i+1) {st with env:=B8 st.env dst (.f8 [])} Q
 |.f8 []=>Ez C K fr ops b n al l (i+1) {st with env:=B8 st.env dst (.f8 [])} Q
 |_=>False
theorem fW(dst:Option Tmp)(op:Op)(st:St):Cj C K fr ops b n al l i dst op st true Q (.d (.bool true))=BL C K fr ops b n al l i Q (Ax C K fr ((b+i)::fr.π) op dst st):=rfl
theorem fR(dst:Option Tmp)(op:Op)(st:St):Cj C K fr ops b n al l i dst op st false Q (.d (.bool false))=BL C K fr ops b n al l i Q (Ax C K fr ((b+i)::fr.π) op dst st):=rfl
theorem fV(dst:Option Tmp)(op:Op):Cj C K fr ops b n al l i dst op ⟨e,h,bs,ds⟩ true Q (.d (.bool false))=Ez C K fr ops b n al l (i+1) ⟨B8 e dst (.f8 []),h,bs,ds⟩ Q:=rfl
theorem fS(dst:Option Tmp)(op:Op):Cj C K fr ops b n al l i dst op ⟨e,h,bs,ds⟩ false Q (.d (.bool true))=Ez C K fr ops b n al l (i+1) ⟨B8 e dst (.f8 []),h,bs,ds⟩ Q:=rfl
theorem Ti{dst:Option Tmp}{op:Op}{st:St}{want:Bool}(h1:t=true→Cj C K fr ops b n al l i dst op st want Q (.d (.bool true)))(h2:t=false→Cj C K fr ops b n al l i dst op st want Q (.d (.bool false))):Cj C K fr ops b n al l i dst op st want Q (.d (.bool t)):=by
 cases t
 .exact h2 rfl
 .exact h1 rfl
theorem jF(dst:Option Tmp)(op:Op)(ty:TypeId)(pos:String)(af:Array Edge)(st:St):
 Ez C K fr ops b n al (⟨dst,op,ty,pos,af,none⟩::l) i st Q=BL C K fr ops b n al l i Q (Ax C K fr ((b+i)::fr.π) op dst st):=by
 rw[So];simp only[B2,LX]
theorem An(dst:Option Tmp)(op:Op)(r:Option Bw):BL C K fr ops b n al l i Q (Cx fr op dst ⟨e,h,bs,ds⟩ r)=BZ C K fr ops b n al l i dst e h bs ds Q r:=by
 cases r with
 |none=>rfl
 |some x=>
  simp only[Cx,BZ,Iy,BW,Aw];cases hw:JE fr.bi x.δ with
  |false=>simp[BL]
  |true=>
   simp only[RX];have: ∀k:AB→Fx,Vh h x.δ k=k (h.puts x.δ):=fun k=>by
    unfold Vh;split
    .rename_i hd;rw[hd];rfl
    .simp only[Ak]
   rw[this];simp only[BL]
theorem Kz(dst:Option Tmp)(v:AV):BZ C K fr ops b n al l i dst e h bs ds Q (some ⟨v,[]⟩)=Ez C K fr ops b n al l (i+1) ⟨B8 e dst v,h,bs,ds⟩ Q:=by
 have:JE fr.bi []=true:=by cases hp:fr.bi<;>rfl
 simp only[BZ,this,RX];rfl
theorem bQ(dst:Option Tmp)(v:AV)(x:Id×Obj)(δ:AB):BZ C K fr ops b n al l i dst e h bs ds Q (some ⟨v,x::δ⟩)=(JE fr.bi (x::δ)=true∧Ez C K fr ops b n al l (i+1) ⟨B8 e dst v,h.puts (x::δ),bs,ds⟩ Q):=rfl
section
variable(dst:Option Tmp)(ρ:List Nat)
theorem xO(x:Operand):BL C K fr ops b n al l i Q (Ax C K fr ρ (.move x) dst ⟨e,h,bs,ds⟩)=Ez C K fr ops b n al l (i+1) ⟨B8 e dst (ev e.get x),h,bs,ds⟩ Q:=by
 simp only[Ax,evalOp,An,Kz]
theorem nV(x:Operand):BL C K fr ops b n al l i Q (Ax C K fr ρ (.assign x) dst ⟨e,h,bs,ds⟩)=Ez C K fr ops b n al l (i+1) ⟨B8 e dst (ev e.get x),h,bs,ds⟩ Q:=by
 simp only[Ax,evalOp,An,Kz]
theorem xP(c x y:Operand):BL C K fr ops b n al l i Q (Ax C K fr ρ (.pick c x y) dst ⟨e,h,bs,ds⟩)=BZ C K fr ops b n al l i dst e h bs ds Q (MO (ev e.get c) (ev e.get x) (ev e.get y)):=by
 simp only[Ax,evalOp,An]
theorem sO(t:TypeId):BL C K fr ops b n al l i Q (Ax C K fr ρ (.alloc t) dst ⟨e,h,bs,ds⟩)=BZ C K fr ops b n al l i dst e h bs ds Q (Ih ρ (C.T t)):=by
 simp only[Ax,evalOp,An]
theorem zn(t:TypeId)(x:Operand):BL C K fr ops b n al l i Q (Ax C K fr ρ (.box t x) dst ⟨e,h,bs,ds⟩)=BZ C K fr ops b n al l i dst e h bs ds Q (O1 ρ (ev e.get x) (C.T t)):=by
 simp only[Ax,evalOp,An]
theorem sR(t:TypeId)(p:Array (Nat×Operand)):BL C K fr ops b n al l i Q (Ax C K fr ρ (.build t p) dst ⟨e,h,bs,ds⟩)=BZ C K fr ops b n al l i dst e h bs ds Q (Ij (Dd e.get p) (C.T t)):=by
 simp only[Ax,evalOp,An]
theorem Tf(t:TypeId)(m:Nat)(p:Array (Nat×Operand)):BL C K fr ops b n al l i Q (Ax C K fr ρ (.buildSlice t m p) dst ⟨e,h,bs,ds⟩)=BZ C K fr ops b n al l i dst e h bs ds Q (CJ C.T h.get ρ m (Dd e.get p) (C.T t)):=by
 simp only[Ax,evalOp,An]
theorem xN(t:TypeId)(a:Operand):BL C K fr ops b n al l i Q (Ax C K fr ρ (.load t a) dst ⟨e,h,bs,ds⟩)=BZ C K fr ops b n al l i dst e h bs ds Q (J8 h.get (ev e.get a) (C.T t)):=by
 simp only[Ax,evalOp,An]
theorem sY(t:TypeId)(a x:Operand):BL C K fr ops b n al l i Q (Ax C K fr ρ (.store t a x) dst ⟨e,h,bs,ds⟩)=BZ C K fr ops b n al l i dst e h bs ds Q (HT h.get (ev e.get a) (ev e.get x) (C.T t)):=by
 simp only[Ax,evalOp,An]
theorem ZX(x:Operand):BL C K fr ops b n al l i Q (Ax C K fr ρ (.nilCheck x) dst ⟨e,h,bs,ds⟩)=BZ C K fr ops b n al l i dst e h bs ds Q (FO (ev e.get x)):=by
 simp only[Ax,evalOp,An]
theorem sQ(op:BinOp)(t:TypeId)(x y:Operand)(u:TypeId):BL C K fr ops b n al l i Q (Ax C K fr ρ (.binOp op t x y u) dst ⟨e,h,bs,ds⟩)=BZ C K fr ops b n al l i dst e h bs ds Q ((da (Wh x||Wh y) op (ev e.get x) (ev e.get y) (C.T t)).map (⟨·,[]⟩)):=by
 simp only[Ax,evalOp,An]
theorem xQ(op:UnOp)(t:TypeId)(x:Operand):BL C K fr ops b n al l i Q (Ax C K fr ρ (.unOp op t x) dst ⟨e,h,bs,ds⟩)=BZ C K fr ops b n al l i dst e h bs ds Q (jD op (ev e.get x)):=by
 simp only[Ax,evalOp,An]
theorem sU(t:TypeId)(x:Operand):BL C K fr ops b n al l i Q (Ax C K fr ρ (.makeInterface t x) dst ⟨e,h,bs,ds⟩)=BZ C K fr ops b n al l i dst e h bs ds Q (J6 t (ev e.get x) (C.T t)):=by
 simp only[Ax,evalOp,An]
theorem nU(x:Operand)(t u:TypeId):BL C K fr ops b n al l i Q (Ax C K fr ρ (.typeAssert x t u true) dst ⟨e,h,bs,ds⟩)=BZ C K fr ops b n al l i dst e h bs ds Q (Gy u (ev e.get x) (C.T u)):=by
 simp only[Ax,evalOp,An]
theorem ZW(f:Fn)(first cap:Array Operand):BL C K fr ops b n al l i Q (Ax C K fr ρ (.makeFunc f first cap) dst ⟨e,h,bs,ds⟩)=BZ C K fr ops b n al l i dst e h bs ds Q (GM f (first.toList.map (ev e.get)) (cap.toList.map (ev e.get))):=by
 simp only[Ax,evalOp,An]
theorem fP(t:TypeId)(r:Option Operand):BL C K fr ops b n al l i Q (Ax C K fr ρ (.makeMap t r) dst ⟨e,h,bs,ds⟩)=BZ C K fr ops b n al l i dst e h bs ds Q (GN ρ r):=by
 simp only[Ax,evalOp,An]
theorem nW(t:TypeId)(m k v:Operand):BL C K fr ops b n al l i Q (Ax C K fr ρ (.insert t m k v) dst ⟨e,h,bs,ds⟩)=BZ C K fr ops b n al l i dst e h bs ds Q (mapPut C.T h.get (C.T t) (ev e.get m) (ev e.get k) (ev e.get v)):=by
 simp only[Ax,evalOp,An]
theorem WU(t:TypeId)(m k v:Operand):BL C K fr ops b n al l i Q (Ax C K fr ρ (.mapUpdate t m k v) dst ⟨e,h,bs,ds⟩)=BZ C K fr ops b n al l i dst e h bs ds Q (mapPut C.T h.get (C.T t) (ev e.get m) (ev e.get k) (ev e.get v)):=by
 simp only[Ax,evalOp,An]
theorem nX(t:TypeId)(m k:Operand)(ok:Bool):BL C K fr ops b n al l i Q (Ax C K fr ρ (.lookup t m k ok) dst ⟨e,h,bs,ds⟩)=BZ C K fr ops b n al l i dst e h bs ds Q (Ef C.T h.get (ev e.get m) (ev e.get k) ok (C.T t)):=by
 simp only[Ax,evalOp,An]
theorem WQ(t:TypeId)(x y:Operand):BL C K fr ops b n al l i Q (Ax C K fr ρ (.makeSlice t x y) dst ⟨e,h,bs,ds⟩)=BZ C K fr ops b n al l i dst e h bs ds Q (CR C.T h.get ρ (ev e.get x) (ev e.get y) (C.T t)):=by
 simp only[Ax,evalOp,An]
theorem sX(t:TypeId)(x:Operand)(lo hi mx:Option Operand):BL C K fr ops b n al l i Q (Ax C K fr ρ (.slice t x lo hi mx) dst ⟨e,h,bs,ds⟩)=BZ C K fr ops b n al l i dst e h bs ds Q (Gd C.T h.get (ev e.get x) (lo.map (ev e.get)) (hi.map (ev e.get)) (mx.map (ev e.get)) (C.T t)):=by
 simp only[Ax,evalOp,An]
theorem WM(t:TypeId)(x:Operand)(k:Nat):BL C K fr ops b n al l i Q (Ax C K fr ρ (.fieldAddr t x k) dst ⟨e,h,bs,ds⟩)=BZ C K fr ops b n al l i dst e h bs ds Q (Dt k (ev e.get x) (C.T t)):=by
 simp only[Ax,evalOp,An]
theorem WO(t:TypeId)(x y:Operand):BL C K fr ops b n al l i Q (Ax C K fr ρ (.indexAddr t x y) dst ⟨e,h,bs,ds⟩)=BZ C K fr ops b n al l i dst e h bs ds Q (Ck C.T h.get (ev e.get x) (ev e.get y) (C.T t)):=by
 simp only[Ax,evalOp,An]
theorem sV(t:TypeId)(x y:Operand):BL C K fr ops b n al l i Q (Ax C K fr ρ (.index t x y) dst ⟨e,h,bs,ds⟩)=BZ C K fr ops b n al l i dst e h bs ds Q (J7 (ev e.get x) (ev e.get y) (C.T t)):=by
 simp only[Ax,evalOp,An]
theorem fO(x:Operand)(k:Nat):BL C K fr ops b n al l i Q (Ax C K fr ρ (.extract x k) dst ⟨e,h,bs,ds⟩)=BZ C K fr ops b n al l i dst e h bs ds Q (Hi k (ev e.get x)):=by
 simp only[Ax,evalOp,An]
theorem fM(f:Builtin)(az:Array Operand)(ts:Array TypeId):BL C K fr ops b n al l i Q (Ax C K fr ρ (.call ⟨.builtin f,az,ts⟩) dst ⟨e,h,bs,ds⟩)=BZ C K fr ops b n al l i dst e h bs ds Q (FT C.T h.get ρ f (az.toList.map (ev e.get)) ts.toList):=by
 simp only[Ax,JB,An]
theorem sW(x:Operand):BL C K fr ops b n al l i Q (Ax C K fr ρ (.panic x) dst ⟨e,h,bs,ds⟩)=BL C K fr ops b n al l i Q (FC ⟨e,h,bs,ds⟩ (ev e.get x)):=rfl
theorem sS(c:Call):BL C K fr ops b n al l i Q (Ax C K fr ρ (.defer c) dst ⟨e,h,bs,ds⟩)=BL C K fr ops b n al l i Q (GX fr e.get c dst ⟨e,h,bs,ds⟩):=rfl
def C5(C:CA)(K:AJ)(fr:Fr)(ops:Array Oper)(b n:Nat)(al:Nat→Bool)(l:List Oper)(i:Nat)(az:List AV)(dst:Option Tmp)(e:CB)(h:AB)(bs:Nat)(ds:List Df)(Q:Dc→St→Prop)(r:E (Ae×AB)):Prop:=
 BL C K fr ops b n al l i Q (C3 fr az dst ⟨e,h,bs,ds⟩ r)
def VB(C:CA)(K:AJ)(fr:Fr)(ops:Array Oper)(b n:Nat)(al:Nat→Bool)(l:List Oper)(i:Nat)(dst:Option Tmp)(ρ:List Nat)(e:CB)(h:AB)(bs:Nat)(ds:List Df)(Q:Dc→St→Prop)(args:List AV):AV→Prop
 |fv=>BL C K fr ops b n al l i Q (De C K fr ρ fv args dst ⟨e,h,bs,ds⟩)
theorem sZ(f:Operand)(az:Array Operand)(ts:Array TypeId):BL C K fr ops b n al l i Q (Ax C K fr ρ (.call ⟨.value f,az,ts⟩) dst ⟨e,h,bs,ds⟩)=VB C K fr ops b n al l i dst ρ e h bs ds Q (az.toList.map (ev e.get)) (ev e.get f):=rfl
def uy:Ae×AB→Ae×AB
 |(.ret v,h)=>(.ret v,h)
 |(.em v,_)=>(.em v,[])
def BJ(K:AJ)(f:FuncId)(xs:List AV)(own:List Nat):E (Ae×AB):=match K (.fn f) xs [] own false none with
 |.ok r=>.ok (uy r)
 |.err l=>.err l
theorem lj{K:AJ}{f:FuncId}{xs:List AV}{own:List Nat}{v:AV}{h:AB}(hk:BJ K f xs own=.ok (.ret v,h)):K (.fn f) xs [] own false none=.ok (.ret v,h):=by
 unfold BJ at hk;split at hk
 .rename_i r hr;obtain⟨o,h'⟩:=r;cases o with
  |ret u=>simp only[uy,E.ok.injEq]at hk;rw[hr,hk]
  |em u=>simp[uy]at hk
 .cases hk
theorem O4(fr:Fr)(az:List AV)(dst:Option Tmp)(st:St)(f:FuncId)(xs:List AV)(own:List Nat):C3 fr az dst st (K (.fn f) xs [] own false none)=C3 fr az dst st (BJ K f xs own):=by
 unfold BJ;cases K (.fn f) xs [] own false none with
 |err l=>rfl
 |ok r=>
  obtain⟨o,h⟩:=r;cases o<;>rfl
def L0(C:CA)(K:AJ)(fr:Fr)(ops:Array Oper)(b n:Nat)(al:Nat→Bool)(l:List Oper)(i:Nat)(dst:Option Tmp)(ρ:List Nat)(e:CB)(h:AB)(bs:Nat)(ds:List Df)(Q:Dc→St→Prop)(f:FuncId)(az:List AV)(m:Mode):Prop:=
 BL C K fr ops b n al l i Q (DW K fr ρ f az dst ⟨e,h,bs,ds⟩ m)
theorem lx(f:FuncId)(first cap args:List AV):VB C K fr ops b n al l i dst ρ e h bs ds Q args (.fn f first cap)=L0 C K fr ops b n al l i dst ρ e h bs ds Q f (first++args++cap) (C.mode f):=by
 simp only[VB,L0,De,BA]
def fI(C:CA)(K:AJ)(fr:Fr)(ops:Array Oper)(b n:Nat)(al:Nat→Bool)(l:List Oper)(i:Nat)(dst:Option Tmp)(ρ:List Nat)(e:CB)(h:AB)(bs:Nat)(ds:List Df)(Q:Dc→St→Prop)(f:FuncId)(az:List AV)(own:List Nat):Option (List AV)→Prop
 |some xs=>C5 C K fr ops b n al l i az dst e h bs ds Q (K (.fn f) xs [] own false none)
 |none=>False
theorem Z7(f:FuncId)(az:List AV)(hx:(DM h.get az).isSome):L0 C K fr ops b n al l i dst ρ e h bs ds Q f az .auto=fI C K fr ops b n al l i dst ρ e h bs ds Q f az [] (DM h.get az):=by
 obtain⟨xs,hx⟩:=Ii.1 hx;simp only[L0,DW,hx,BA,fI,C5]
theorem iy(f:FuncId)(az:List AV)(hx:(DM h.get az).isSome):L0 C K fr ops b n al l i dst ρ e h bs ds Q f az .own=fI C K fr ops b n al l i dst ρ e h bs ds Q f az ρ (DM h.get az):=by
 obtain⟨xs,hx⟩:=Ii.1 hx;simp only[L0,DW,hx,BA,fI,C5]
theorem fJ(f:FuncId)(az:List AV)(own:List Nat)(xs:List AV):fI C K fr ops b n al l i dst ρ e h bs ds Q f az own (some xs)=C5 C K fr ops b n al l i az dst e h bs ds Q (BJ K f xs own):=by
 simp only[fI,C5,O4]
theorem bW(az:List AV)(v:AV)(h':AB)(hv:flat v=true):C5 C K fr ops b n al l i az dst e h bs ds Q (.ok (.ret v,h'))=Ez C K fr ops b n al l (i+1) ⟨B8 e dst v,h,bs,ds⟩ Q:=by
 simp only[C5,C3,Aw,hv,BL]
theorem jh(az:List AV)(v:AV)(h':AB)(hv:flat v=true):C5 C K fr ops b n al l i az dst e h bs ds Q (.ok (.em v,h'))=(al i=true∧Q (.em v) ⟨e,h,b+n,ds⟩):=by
 simp only[C5,C3,hv,BL]
theorem jf(az:List AV)(v:AV)(h':AB)(x:Id×Obj)(hv:flat v=false)(hx:Ba v h'=some x):C5 C K fr ops b n al l i az dst e h bs ds Q (.ok (.ret v,h'))=Ez C K fr ops b n al l (i+1) ⟨B8 e dst v,x::h,bs,ds⟩ Q:=by
 simp only[C5,C3,Aw,hv,Gf,hx,Ak,BL]
theorem jg(az:List AV)(v:AV)(h':AB)(hv:flat v=false)(hx:Ba v h'=none):C5 C K fr ops b n al l i az dst e h bs ds Q (.ok (.ret v,h'))=(JE fr.bi (az.flatMap (mark h.get))=true∧Ez C K fr ops b n al l (i+1) ⟨B8 e dst v,h'++h.puts (az.flatMap (mark h.get)),bs,ds⟩ Q):=by
 simp only[C5,C3,Aw,hv,Gf,hx,Ak,BW];cases hw:JE fr.bi (az.flatMap (mark h.get))<;>simp[BL]
end
def b9(h:AB)(π:List Nat)(raw:Bool)(Post:Ae→AB→Prop):Option AV→Prop
 |some v=>match raw with
  |true=>Post (.ret v) h
  |false=>match π with
   |[]=>match Uk h.get v with
    |some v'=>Post (.ret v') []
    |none=>False
   |_=>Post (.ret v) h
 |none=>False
def Qw(C:CA)(e:CB)(h:AB)(rs:List ResultVar):Option AV:=match Ln (CN C ⟨e,h,0,[]⟩) rs with
 |some []=>some (.f8 [])
 |some [v]=>some v
 |some vs=>some (.f8 vs)
 |none=>none
def Iz(C:CA)(rs:List ResultVar)(π:List Nat)(raw:Bool)(e:CB)(Post:Ae→AB→Prop):E (Option AV×AB)→Prop
 |.ok (none,h)=>b9 h π raw Post (Qw C e h rs)
 |.ok (some v,h)=>Post (.em v) h
 |.err _=>False
def Ka(C:CA)(bi:Option (List Nat))(rs:List ResultVar)(π:List Nat)(raw:Bool)(Post:Ae→AB→Prop):Dc→St→Prop
 |.ret,st=>Iz C rs π raw st.env Post (Cp C bi st.defs none st.heap)
 |.normal,st=>Iz C rs π raw st.env Post (Cp C bi st.defs none st.heap)
 |.em v,st=>Iz C rs π raw st.env Post (Cp C bi st.defs (some v) st.heap)
 |_,_=>False
theorem Aa{f:FuncId}{fn:Func}{c:Code}{rs:List ResultVar}{args:List AV}{h:AB}{π:List Nat}{raw:Bool}{bi:Option (List Nat)}{Post:Ae→AB→Prop}(hg:C.ii f=true)(hf:P.funcs[f]? =some fn)(hb:fn.body=some c)(hr:fn.results.toList=rs)(hl:Nat.ble args.length fn.ntmps=true)
 (hw:Wp C (KL P C) {f,π,raw,bi,nt:=fn.ntmps} 0 c ⟨Dn 0 args,h,0,[]⟩ (Ka C bi rs π raw Post)): ∃o h',KL P C (.fn f) args h π raw bi=.ok (o,h')∧Post o h':=by
 obtain⟨n,o,st',h1,h2⟩:=hw;subst hr;have hres: ∀h'',Hj C fn {st' with heap:=h''}=Qw C st'.env h'' fn.results.toList:=fun h''=>by
  unfold Hj Qw;have e:CN C {st' with heap:=h''}=CN C ⟨st'.env,h'',0,[]⟩:=funext fun r=>by cases r<;>rfl
  rw[e];rfl
 have key: ∀z,Iz C fn.results.toList π raw st'.env Post z→ ∃o h',Qk C f fn π raw st' z=.ok (o,h')∧Post o h':=by
  intro z hz;cases z with
  |err l=>exact hz.elim
  |ok r=>
   obtain⟨p,h''⟩:=r;cases p with
   |some v=>exact⟨.em v,h'',rfl,hz⟩
   |none=>
    simp only[Iz]at hz;simp only[Qk,hres];cases hv:Qw C st'.env h'' fn.results.toList with
    |none=>rw[hv]at hz;exact hz.elim
    |some v=>
     rw[hv]at hz;simp only[b9]at hz;simp only[Iy];cases raw with
     |true=>exact⟨_,_,rfl,hz⟩
     |false=>
      simp only at hz⊢;split at hz
      .split at hz
       .rename_i v' hv';rw[hv'];exact⟨_,_,rfl,hz⟩
       .exact hz.elim
      .exact⟨_,_,by split<;>first|rfl|contradiction,hz⟩
 have fin: ∃o' h',mU C bi f fn π raw (.ok (o,st'))=.ok (o',h')∧Post o' h':=by
  cases o with
  |exit k=>exact h2.elim
  |ret=>exact key _ h2
  |normal=>exact key _ h2
  |em v=>exact key _ h2
 obtain⟨o',h',e,hp⟩:=fin;refine⟨o',h',vo hg (n:=n) ?_,hp⟩;unfold Nm;simp only[hf,hb,hl,h1];exact e
variable{f:FuncId}{fn:Func}{c:Code}{rs:List ResultVar}{args:List AV}{π:List Nat}{raw:Bool}{bi:Option (List Nat)}
theorem zF{h:AB}{o:Ae}{h0:AB}(hg:C.ii f=true)(hf:P.funcs[f]? =some fn)(hb:fn.body=some c)(hr:fn.results.toList=rs)(hl:Nat.ble args.length fn.ntmps=true)
 (hw:Wp C (KL P C) {f,π,raw,bi,nt:=fn.ntmps} 0 c ⟨Dn 0 args,h,0,[]⟩ (Ka C bi rs π raw fun o' h'=>o'=o∧h'=h0)):KL P C (.fn f) args h π raw bi=.ok (o,h0):=by
 obtain⟨o',h',e,rfl,rfl⟩:=Aa hg hf hb hr hl hw;exact e
theorem Ao{r:Ae×AB}(hg:C.ii f=true)(hf:P.funcs[f]? =some fn)(hb:fn.body=some c)(hr:fn.results.toList=rs)(hl:Nat.ble args.length fn.ntmps=true)
 (hw:Wp C (KL P C) {f,π,raw:=false,bi:=none,nt:=fn.ntmps} 0 c ⟨Dn 0 args,[],0,[]⟩ (Ka C none rs π false fun o' h'=>uy (o',h')=r)):BJ (KL P C) f args π=.ok r:=by
 obtain⟨o',h',e,h2⟩:=Aa hg hf hb hr hl hw;unfold BJ;rw[e,←h2]
theorem u0(v:AV)(h:AB):uy (.ret v,h)=(.ret v,h):=rfl
theorem uz(v:AV)(h:AB):uy (.em v,h)=(.em v,[]):=rfl
def Ko(C:CA)(K:AJ)(fr:Fr)(b:Nat)(x:Code)(Q:Dc→St→Prop):Dc→St→Prop
 |.normal,st=>Wp C K fr b (.loop x) st Q
 |o,st=>Q o st
def dF(C:CA)(K:AJ)(fr:Fr)(b:Nat)(x:Code)(st:St)(Q:Dc→St→Prop):Prop:=Wp C K fr b x st (Ko C K fr b x Q)
theorem vg(x:Code)(st:St):Wp C K fr b (.loop x) st Q=dF C K fr b x (Ea C fr b st) Q:=by
 refine propext ⟨fun⟨n,o,st',h,hq⟩=>?_,fun⟨n,o,st',h,hq⟩=>?_⟩
 .cases n with
  |zero=>simp[BC]at h
  |succ n=>
   simp only[BC,Jv]at h;cases hx:BC C K fr n b x (Ea C fr b st)with
   |err e=>rw[hx]at h;cases h
   |ok r=>
    rw[hx]at h;obtain⟨o1,st1⟩:=r;refine⟨n,o1,st1,hx,?_⟩;cases o1<;>simp only[C2]at h
    .exact⟨n,o,st',h,hq⟩
    all_goals (cases h;exact hq)
 .cases o with
  |normal=>
   obtain⟨m,o2,st2,h2,hq2⟩:=hq;refine⟨max n m+1,o2,st2,?_,hq2⟩;simp only[BC,Jv,PR h (LI n m),C2,PR h2 (Mp n m)]
  |_=>exact⟨n+1,_,st',by simp only[BC,Jv,h,C2],hq⟩
theorem Tt(x:Code)(st:St):Ko C K fr b x Q .normal st=Wp C K fr b (.loop x) st Q:=rfl
theorem Zs(x:Code)(k:Nat)(st:St):Ko C K fr b x Q (.exit k) st=Q (.exit k) st:=rfl
theorem iU(x:Code)(st:St):Ko C K fr b x Q .ret st=Q .ret st:=rfl
theorem iR(x:Code)(v:AV)(st:St):Ko C K fr b x Q (.em v) st=Q (.em v) st:=rfl
theorem Cf(x:Code)(st:St):dF C K fr b x st Q=Wp C K fr b x st (Ko C K fr b x Q):=rfl
structure AA(p:Prop):Prop where
 out:p
variable{α:Type}
theorem rounds{x:Code}(S:α→St)(Inv:α→Prop)(m:α→Nat)(a:α)(h0:Inv a)(step: ∀a,Inv a→AA (∀a',m a'<m a→Inv a'→dF C K fr b x (S a') Q)→Wp C K fr b x (S a) (Ko C K fr b x Q)):dF C K fr b x (S a) Q:=by
 suffices h: ∀k a,m a<k→Inv a→dF C K fr b x (S a) Q from h _ a (Nat.lt_succ_self _) h0
 intro k;induction k with
 |zero=>intro a ha;omega
 |succ k ih=>exact fun a ha hi=>step a hi ⟨fun a' h1 h2=>ih a' (by omega) h2⟩
variable{P:Program}{C:CA}{K:AJ}{fr:Fr}{b n i:Nat}{Q:Dc→St→Prop}
variable{ops:Array Oper}{al:Nat→Bool}{l:List Oper}{e:CB}{h:AB}{bs:Nat}{ds:List Df}{ps:List (Nat×Nat)}{fps:List Fp}
def J1(e:CB):Option (Option Tmp)→AV
 |some (some t)=>e.get t
 |_=>.undef
def N5(ops:Array Oper)(e:CB)(j:Nat):AV:=J1 e ((ops[j]?).map (·.dst))
theorem WZ(e:CB)(t:Tmp):J1 e (some (some t))=e.get t:=rfl
theorem Zb(l:List Oper)(e:CB)(j:Nat):N5 l.toArray e j=J1 e ((l[j]?).map (·.dst)):=by
 simp only[N5,NL]
theorem vE(dst:Option Tmp)(op:Op)(ty:TypeId)(pos:String)(af:Array Edge)(j:Nat)(want:Bool):
 Ez C K fr ops b n al (⟨dst,op,ty,pos,af,some (j,want)⟩::l) i ⟨e,h,bs,ds⟩ Q=Cj C K fr ops b n al l i dst op ⟨e,h,bs,ds⟩ want Q (N5 ops e j):=by
 rw[So];simp only[B2,LX,N5];cases hj:ops[j]? with
 |none=>simp[J1,Cj,BL]
 |some o=>
  cases hd:o.dst with
  |none=>simp[J1,Cj,BL,hd]
  |some t=>
   simp only[IP,hd,F1,J1];cases hv:CB.get e t with
   |d x=>cases x with
    |bool c=>
     simp only[Cj];cases(c==want)<;>simp only[BL,Aw]
    |_=>rfl
   |f8 vs=>cases vs<;>simp only[Cj,BL,Aw]
   |_=>rfl
theorem get_cons(k:Nat)(v:AV)(e:CB)(t:Nat):CB.get ((k,v)::e) t=if k=t then v else CB.get e t:=by
 rw[CB.get];cases h:Nat.beq k t with
 |true=>rw[D7 (Co h)]
 |false=>rw[D3 (OR h)]
theorem jo(e:CB)(t:Tmp)(v:AV):B8 e (some t) v=(t,v)::e:=rfl
theorem jm(e:CB)(v:AV):B8 e none v=e:=rfl
theorem xA(e:Nat→AV)(t:Tmp):ev e (.tmp t)=e t:=rfl
theorem re(e:Nat→AV)(f:FuncId):ev e (.func f)=.fn f [] []:=rfl
theorem w7(e:Nat→AV)(k:IntKind)(m:Int):ev e (.const (.int k m))=.d (.int k m):=rfl
theorem rb(e:Nat→AV)(c:Bool):ev e (.const (.bool c))=.d (.bool c):=rfl
theorem eU(e:Nat→AV)(s:ByteArray):ev e (.const (.string s))=.d (.str s):=rfl
theorem rl(e:Nat→AV):ev e (.const (.slice none 0 0))=.ci:=rfl
theorem rk(e:Nat→AV):ev e (.const (.pointer none))=.d .qr:=rfl
theorem rf(e:Nat→AV):ev e (.const .nilFunc)=.d .i7:=rfl
theorem rh(e:Nat→AV):ev e (.const .nilIface)=.d .i9:=rfl
theorem rj(e:Nat→AV):ev e (.const (.map none))=.d .nl:=rfl
theorem YO(δ:AB):JE none δ=true:=by cases δ<;>rfl
theorem zO(k:IntKind)(a c:Int):Ey .add k a c=some (.d (.int k (k.wrap (a+c)))):=rfl
theorem zX(k:IntKind)(a c:Int):Ey .sub k a c=some (.d (.int k (k.wrap (a-c)))):=rfl
theorem zU(k:IntKind)(a c:Int):Ey .mul k a c=some (.d (.int k (k.wrap (a*c)))):=rfl
theorem zP(k:IntKind)(a c:Int):Ey .eql k a c=some (.d (.bool (decide (a=c)))):=by
 simp only[Ey];congr
theorem zV(k:IntKind)(a c:Int):Ey .neq k a c=some (.d (.bool (!decide (a=c)))):=by
 simp only[Ey];congr
theorem zT(k:IntKind)(a c:Int):Ey .lss k a c=some (.d (.bool (decide (a<c)))):=rfl
theorem zS(k:IntKind)(a c:Int):Ey .leq k a c=some (.d (.bool (decide (a≤c)))):=rfl
theorem zR(k:IntKind)(a c:Int):Ey .gtr k a c=some (.d (.bool (decide (c<a)))):=rfl
theorem zQ(k:IntKind)(a c:Int):Ey .geq k a c=some (.d (.bool (decide (c≤a)))):=rfl
theorem zW(k:IntKind)(a c:Int):Ey .rem k a c=if c=0 then none else some (.d (.int k (a.tmod c))):=rfl
theorem AAK(op:BinOp)(k:IntKind)(a c:Int)(t:Option TI):G8 op (.d (.int k a)) (.d (.int k c)) t=Ey op k a c:=by
 simp only[G8,F3]
theorem dy{x y:Code}{st:St}{p:Prop} [Decidable p](h1:p→Wp C K fr b x st Q)(h2: ¬p→Wp C K fr b y st Q):KY C K fr b x y st Q (.d (.bool (decide p))):=by
 by_cases hp:p
 .rw[DO hp];exact h1 hp
 .rw[Cs hp];exact h2 hp
theorem dz(x y:Code)(st:St)(t:Bool):KY C K fr b x y st Q (.d (.bool (!t)))=KY C K fr b y x st Q (.d (.bool t)):=by
 cases t<;>rfl
variable{dst:Option Tmp}{want:Bool}
theorem ZZ{op:Op}{st:St}{p:Prop} [Decidable p](h1:p→Cj C K fr ops b n al l i dst op st want Q (.d (.bool true)))(h2: ¬p→Cj C K fr ops b n al l i dst op st want Q (.d (.bool false))):Cj C K fr ops b n al l i dst op st want Q (.d (.bool (decide p))):=by
 by_cases hp:p
 .rw[DO hp];exact h1 hp
 .rw[Cs hp];exact h2 hp
theorem Za(dst:Option Tmp)(op:Op)(want:Bool):Cj C K fr ops b n al l i dst op ⟨e,h,bs,ds⟩ want Q (.f8 [])=Ez C K fr ops b n al l (i+1) ⟨B8 e dst (.f8 []),h,bs,ds⟩ Q:=rfl
def mL(C:CA)(K:AJ)(fr:Fr)(ops:Array Oper)(b n id:Nat)(l:List Oper)(st:St)(Q:Dc→St→Prop):List (Nat×Nat)→Prop
 |[]=>Ez C K fr ops b n (fun i=>C.alone fr.f id i) l 0 st Q
 |p::ps=>FV C K fr ops b n (fun i=>C.alone fr.f id i) (p::ps) [] l 0 st Q
theorem qi(id:Nat)(ops:Array Oper)(e:CB)(h:AB)(bs:Nat)(ds:List Df):Wp C K fr b (.region id ops true) ⟨e,h,bs,ds⟩ Q=mL C K fr ops bs ops.size id ops.toList ⟨e,h,bs,ds⟩ Q (C.co fr.f id):=by
 cases hp:C.co fr.f id with
 |nil=>rw[qh id ops e h bs ds hp];rfl
 |cons p ps=>rw[ve id ops e h bs ds hp];rfl
theorem eJ(id:Nat)(st:St):mL C K fr ops b n id l st Q []=Ez C K fr ops b n (fun i=>C.alone fr.f id i) l 0 st Q:=rfl
theorem Y5(id:Nat)(st:St)(p:Nat×Nat):mL C K fr ops b n id l st Q (p::ps)=FV C K fr ops b n (fun i=>C.alone fr.f id i) (p::ps) [] l 0 st Q:=rfl
variable{Post:Ae→AB→Prop}
theorem mX:Ka C bi rs π raw Post .ret ⟨e,h,bs,ds⟩=Iz C rs π raw e Post (Cp C bi ds none h):=rfl
theorem Ve:Ka C bi rs π raw Post .normal ⟨e,h,bs,ds⟩=Iz C rs π raw e Post (Cp C bi ds none h):=rfl
theorem mV(v:AV):Ka C bi rs π raw Post (.em v) ⟨e,h,bs,ds⟩=Iz C rs π raw e Post (Cp C bi ds (some v) h):=rfl
theorem fk(bi:Option (List Nat))(p:Option AV)(h:AB):Cp C bi [] p h=.ok (p,h):=rfl
theorem QW(bi:Option (List Nat))(p:Option AV)(h:AB)(id:Id)(l:List Df):Cp C bi (.mark id::l) p h=Cp C bi l p h:=rfl
theorem Zk:Iz C rs π raw e Post (.ok (none,h))=b9 h π raw Post (Qw C e h rs):=rfl
theorem Zj(v:AV):Iz C rs π raw e Post (.ok (some v,h))=Post (.em v) h:=rfl
theorem qa(v:AV):b9 h π true Post (some v)=Post (.ret v) h:=rfl
theorem qZ{k:Nat}(v:AV):b9 h (k::π) false Post (some v)=Post (.ret v) h:=rfl
def sG(Post:Ae→AB→Prop):Option AV→Prop
 |some v=>Post (.ret v) []
 |none=>False
theorem qY(v:AV):b9 h [] false Post (some v)=sG Post (Uk h.get v):=by
 simp only[b9];cases Uk h.get v<;>rfl
theorem fK(v:AV):sG Post (some v)=Post (.ret v) []:=rfl
theorem jy:Qw C e h []=some (.f8 []):=rfl
theorem px(t:Tmp):Qw C e h [.tmp t]=some (e.get t):=rfl
theorem jx(r r':ResultVar)(rs:List ResultVar):Qw C e h (r::r'::rs)=(Ln (CN C ⟨e,h,0,[]⟩) (r::r'::rs)).map .f8:=by
 unfold Qw;simp only[Ln];cases CN C ⟨e,h,0,[]⟩ r with
 |none=>rfl
 |some y=>cases CN C ⟨e,h,0,[]⟩ r' with
  |none=>rfl
  |some z=>cases Ln (CN C ⟨e,h,0,[]⟩) rs<;>rfl
theorem jw(a:Tmp)(t:TypeId):Qw C e h [.cell a t]=(C.T t).bind fun i=>H4 h.get i (e.get a):=by
 unfold Qw;simp only[Ln,CN];cases(C.T t).bind fun i=>H4 h.get i (e.get a)<;>rfl
theorem Rm(t:Tmp):CN C ⟨e,h,bs,ds⟩ (.tmp t)=some (e.get t):=rfl
theorem Qx(a:Tmp)(t:TypeId):CN C ⟨e,h,bs,ds⟩ (.cell a t)=(C.T t).bind fun i=>H4 h.get i (e.get a):=rfl
variable{β:Type}
theorem oo(f:α→Option β):Ln f []=some []:=rfl
theorem iX(f:α→Option β)(x:α)(l:List α):Ln f (x::l)=(f x).bind fun y=>(Ln f l).map (y:: ·):=by
 simp only[Ln];cases f x with
 |none=>rfl
 |some y=>cases Ln f l<;>rfl
theorem fU(dst:Option Tmp)(op:Op)(st:St)(t:Bool):Cj C K fr ops b n al l i dst op st true Q (.d (.bool (!t)))=Cj C K fr ops b n al l i dst op st false Q (.d (.bool t)):=by
 cases t<;>rfl
theorem fT(dst:Option Tmp)(op:Op)(st:St)(t:Bool):Cj C K fr ops b n al l i dst op st false Q (.d (.bool (!t)))=Cj C K fr ops b n al l i dst op st true Q (.d (.bool t)):=by
 cases t<;>rfl
theorem sN(g:G)(vs:List AV):Uk g (.f8 vs)=(DM g vs).map .f8:=rfl
theorem zm(g:G)(x:AU):Uk g (.d x)=some (.d x):=rfl
theorem sH(g:G)(cs:List AV):Uk g (.agg cs)=(Fm g cs).map .agg:=rfl
theorem nS(g:G):Uk g .ci=some (.d (.be [])):=rfl
theorem sI(g:G):Uk g .emp=some (.d (.be [])):=rfl
theorem sL(g:G)(id:Id)(off m:Nat):Uk g (.d8 id off m)=(Cu g (.d8 id off m)).map .d:=rfl
theorem is_self: ∀(a:Id),Id.is a a=true
 |[]=>rfl
 |n::l=>by simp[Id.is,is_self l]
theorem su(n m:Nat)(l k:Id):Id.is (n::l) (m::k)=if n=m then Id.is l k else false:=by
 rw[Id.is];cases h:Nat.beq n m with
 |true=>rw[D7 (Co h)]
 |false=>rw[D3 (OR h)]
theorem Wj(m:Nat)(k:Id):Id.is [] (m::k)=false:=rfl
theorem Wi(m:Nat)(k:Id):Id.is (m::k) []=false:=rfl
theorem nd(id:Id):AB.get [] id=none:=rfl
theorem Bo(k:Id)(o:Obj)(h:AB)(id:Id):AB.get ((k,o)::h) id=if Id.is k id=true then some o else AB.get h id:=by
 rw[AB.get];cases Id.is k id<;>rfl
theorem cq(id:Id)(o:Obj):AB.put [] id o=[(id,o)]:=rfl
theorem Xw(k:Id)(x:Obj)(h:AB)(id:Id)(o:Obj):AB.put ((k,x)::h) id o=if Id.is k id=true then(k,o)::h else(k,x)::AB.put h id o:=by
 rw[AB.put];cases Id.is k id<;>rfl
theorem puts_cons(h:AB)(p:Id×Obj)(δ:AB):AB.puts h (p::δ)=AB.puts (h.put p.1 p.2) δ:=rfl
theorem puts_nil(h:AB):AB.puts h []=h:=rfl
def TM(π:List Nat)(e:CB)(h:AB)(l:List Id):St:=
 {env:=e.map fun p=>(p.1,Lj (DB π l 0) p.2),heap:=Cv h (DB π l 0) l,base:=l.length,defs:=[]}
def Re:CB→List Id
 |[]=>[]
 |p::e=>AD p.2++Re e
theorem sj(e:CB):(e.flatMap fun p=>AD p.2)=Re e:=by
 induction e with
 |nil=>rfl
 |cons p e ih=>rw[D2,ih];rfl
def NQ(e:CB):List Nat→CB
 |[]=>[]
 |t::l=>(t,e.get t)::NQ e l
theorem QY(e:CB)(l:List Nat):(l.map fun t=>(t,e.get t))=NQ e l:=by
 induction l with
 |nil=>rfl
 |cons p e ih=>rw[Ci,ih];rfl
def L6(π:List Nat)(h:AB)(e:CB):St:=TM π e h (Bp h 1000 (EN [] (Re e)) 0)
theorem R8(f:FuncId)(π:List Nat)(bi:Option (List Nat))(v6:Bool)(nt:Nat):Ea C ⟨f,π,false,bi,v6,nt⟩ b ⟨e,h,bs,[]⟩=L6 π h (NQ e (C.live f b)):=by
 simp only[Ea,QY,sj,L6,TM];rfl
theorem dj(f:FuncId)(π:List Nat)(bi:Option (List Nat))(v6:Bool)(nt:Nat):Ea C ⟨f,π,true,bi,v6,nt⟩ b ⟨e,h,bs,ds⟩=⟨NQ e (C.live f b),h,bs,ds⟩:=by
 simp only[Ea,QY];rfl
theorem Yl(d:Df):Ea C fr b ⟨e,h,bs,d::ds⟩=⟨NQ e (C.live fr.f b),h,bs,d::ds⟩:=by
 simp only[Ea,QY,List.isEmpty_cons,OK,Bool.or_true,F3]
theorem lO(l:List Id)(id:Id):KH l id=if (l.any (Id.is id))=true then l else l++[id]:=by
 rw[KH];cases l.any (Id.is id)<;>rfl
theorem pt(h:AB)(n:Nat)(l:List Id)(i:Nat):Bp h (n+1) l i=match l[i]? with
 |some id=>Bp h n (EN l (H6 (h.get id))) (i+1)
 |none=>l:=rfl
def Q6(id:Id):Nat:=match id with|0::_=>0|_=>1
theorem Qe(π:List Nat)(x:Id)(r:List Id)(n:Nat)(id:Id):DB π (x::r) n id=if Id.is x id=true then some (Q6 id::n::π)else DB π r (n+1) id:=by
 have:DB π (x::r) n id=match Id.is x id with|true=>some (Q6 id::n::π)|false=>DB π r (n+1) id:=by
  conv=>lhs;unfold DB
  unfold Q6;cases id with
  |nil=>rfl
  |cons a l=>cases a<;>rfl
 rw[this];cases Id.is x id<;>rfl
theorem kK(l:Id):Q6 (0::l)=0:=rfl
theorem kJ(l:Id):Q6 (1::l)=1:=rfl
def Qa(sz:Nat):Option (List AU)→Option Bw
 |some c=>if c.length=sz then some ⟨.kw c,[]⟩else none
 |none=>none
theorem sk(g:G)(m:Int)(es:List (List AU))(j:TI)(hm:0≤m):Ly g m (.d (.be es)) j=Qa j.size es[m.toNat]? :=by
 simp only[Ly,D7 hm];cases es[m.toNat]? with
 |none=>rfl
 |some c=>
  simp only[Qa];cases h:Nat.beq c.length j.size with
  |true=>rw[D7 (Co h)]
  |false=>rw[D3 (OR h)]
theorem sn(g:G)(m:Int)(id:Id)(off len:Nat)(j:TI)(hm:0≤m):Ly g m (.d8 id off len) j=if m.toNat<len then(match g id with
        |some (.d6 sz es)=>if sz=j.size∧off+m.toNat<es.length then some ⟨.ip id (off+m.toNat) 0,[]⟩else none
        |some (.it sz es)=>if sz=j.size∧off+m.toNat<es.length then some ⟨.ip id (off+m.toNat) 0,[]⟩else none
        |some (.arr sz es)=>if sz=j.size∧off+m.toNat<es.length then some ⟨.ip id (off+m.toNat) 0,[]⟩else none
        |_=>none)else none:=by
 simp only[Ly,D7 hm];rfl
theorem iV(sz:Nat)(c:List AU):Qa sz (some c)=if c.length=sz then some ⟨.kw c,[]⟩else none:=rfl
variable{j:Nat}
theorem jb{s:ByteArray}{f:UInt8→Bw}(hj:j<s.data.toList.length)(hx: ∀x,s.data.toList[j]? =some x→BZ C K fr ops b n al l i dst e h bs ds Q (some (f x))):BZ C K fr ops b n al l i dst e h bs ds Q (Option.map f s.data.toList[j]?):=by
 have:=hx s.data.toList[j] (BY hj)
 rwa [BY hj]
theorem jZ{f:α→List AU}{l':List α}{sz:Nat}(hj:j<l'.length)(hx: ∀x,l'[j]? =some x→BZ C K fr ops b n al l i dst e h bs ds Q (Qa sz (some (f x)))):BZ C K fr ops b n al l i dst e h bs ds Q (Qa sz (Option.map f l'[j]?)):=by
 have:=hx l'[j] (BY hj)
 rwa [BY hj]
theorem xL(g:G)(x:AU):EW g (.d x)=some x:=rfl
theorem ew(g:G):EW g .ci=some (.be []):=rfl
theorem nF(g:G):EW g .emp=some (.be []):=rfl
theorem xM(g:G)(x:AU):Cu g (.d x)=some x:=rfl
theorem ez(g:G):Cu g .ci=some (.be []):=rfl
theorem nJ(g:G):Cu g .emp=some (.be []):=rfl
theorem nM(g:G)(id:Id)(off:Nat):Cu g (.ptr id off)=none:=rfl
theorem sD(g:G)(id:Id):Cu g (.mp id)=none:=rfl
theorem nN(g:G)(id:Id):Cu g (.un id)=none:=rfl
theorem sC(g:G)(f:FuncId)(a c:List AV):Cu g (.fn f a c)=none:=rfl
def WK(g:G)(off m:Nat):Option Obj→Option AU
 |some (.arr _ es)=>(Cd g es).bind fun ds=>(IM ds off m).map .be
 |some (.d6 _ es)=>(IM es off m).map .be
 |some (.it _ es)=>(IM es off m).map .be
 |_=>none
theorem nK(g:G)(id:Id)(off m:Nat):Cu g (.d8 id off m)=WK g off m (g id):=by
 simp only[Cu,EW];cases h:g id with
 |none=>rfl
 |some o=>cases o with
  |arr sz es=>
   simp only[WK];cases Cd g es<;>rfl
  |_=>rfl
theorem fG(g:G)(off m sz:Nat)(es:List (List AV)):WK g off m (some (.arr sz es))=(Cd g es).bind fun ds=>(IM ds off m).map .be:=rfl
theorem ZV(g:G)(off m sz:Nat)(es:List (List AU)):WK g off m (some (.d6 sz es))=(IM es off m).map .be:=rfl
theorem fH(g:G)(off m sz:Nat)(es:List (List AU)):WK g off m (some (.it sz es))=(IM es off m).map .be:=rfl
theorem e9(g:G):Fm g []=some []:=rfl
def H0:Option AU→Option (List AV)→Option (List AV)
 |some x,some xs=>some (.d x::xs)
 |_,_=>none
theorem WG(x:AU)(xs:List AV):H0 (some x) (some xs)=some (.d x::xs):=rfl
theorem WE(xs:Option (List AV)):H0 none xs=none:=rfl
theorem ZR(g:G)(v:AV)(vs:List AV):Fm g (v::vs)=H0 (Cu g v) (Fm g vs):=by
 simp only[Fm];cases Cu g v<;>cases Fm g vs<;>rfl
def Ou:Option AV→Option (List AV)→Option (List AV)
 |some x,some xs=>some (x::xs)
 |_,_=>none
theorem ZT(x:AV)(xs:List AV):Ou (some x) (some xs)=some (x::xs):=rfl
theorem ZS(xs:Option (List AV)):Ou none xs=none:=rfl
theorem WI(x:Option AV):Ou x none=none:=by cases x<;>rfl
theorem nQ(g:G):DM g []=some []:=by simp only[DM]
theorem fE(g:G)(v:AV)(vs:List AV):DM g (v::vs)=Ou (Di g v) (DM g vs):=by
 simp only[DM];cases Di g v<;>cases DM g vs<;>rfl
theorem xK(g:G)(x:AU):Di g (.d x)=some (.d x):=rfl
theorem my(g:G)(cs:List AV):Di g (.agg cs)=(Fm g cs).map .agg:=rfl
theorem eu(g:G):Di g .ci=some (.d (.be [])):=rfl
theorem mz(g:G):Di g .emp=some (.d (.be [])):=rfl
theorem nB(g:G)(id:Id)(off:Nat):Di g (.ptr id off)=none:=rfl
theorem sB(g:G)(id:Id):Di g (.mp id)=none:=rfl
theorem nD(g:G)(id:Id):Di g (.un id)=none:=rfl
theorem r9(g:G)(f:FuncId):Di g (.fn f [] [])=some (.fn f [] []):=rfl
theorem nA(g:G)(id:Id)(off m:Nat):Di g (.d8 id off m)=(Cu g (.d8 id off m)).map .d:=rfl
theorem Vz(g:G)(t:TypeId)(cs:List AV):Di g (.iface t (.agg cs))=(Fm g cs).map fun c=>.iface t (.agg c):=rfl
theorem V5(g:G)(t:TypeId)(x:AU):Di g (.iface t (.d x))=some (.iface t (.d x)):=rfl
theorem xI(x:AU):flat (.d x)=Dh x:=by cases x<;>rfl
theorem et:flat .ci=true:=by simp[flat]
theorem mj:flat .emp=true:=by simp[flat]
theorem mh(cs:List AV):flat (.agg cs)=Et cs:=by cases cs<;>rfl
theorem mq(cs:List AV):flat (.f8 cs)=Et cs:=by cases cs<;>rfl
theorem mm(id:Id)(off m:Nat):flat (.d8 id off m)=false:=by cases id<;>rfl
theorem mn(id:Id)(off:Nat):flat (.ptr id off)=false:=by cases id<;>rfl
theorem Vr(t:TypeId)(cs:List AV):flat (.iface t (.agg cs))=Et cs:=by cases cs<;>rfl
theorem Vs(t:TypeId)(x:AU):flat (.iface t (.d x))=Dh x:=by cases x<;>rfl
theorem eo:Et []=true:=rfl
theorem r6(x:AU)(vs:List AV):Et (.d x::vs)=(Dh x&&Et vs):=rfl
theorem ei(x:List AV)(vs:List AV):Et (.agg x::vs)=false:=by simp only[Et]
theorem ep(id:Id)(off m:Nat)(vs:List AV):Et (.d8 id off m::vs)=false:=by simp only[Et]
theorem ZJ(vs:List AV):Et (.ci::vs)=false:=by simp only[Et]
theorem r7(id:Id):flat (.mp id)=false:=by simp only[flat]
theorem Vo(vs:List AV)(h:AB):Ba (.f8 vs) h=none:=by simp only[Ba]
theorem Vm(vs:List AV)(h:AB):Ba (.agg vs) h=none:=by simp only[Ba]
theorem Vn(id:Id)(off:Nat)(h:AB):Ba (.ptr id off) h=none:=by simp only[Ba]
theorem ZD(id:Id)(h:AB):Ba (.mp id) h=none:=by simp only[Ba]
theorem ef(k:IntKind)(m:Int):Dh (.int k m)=true:=rfl
theorem ZE(c:Bool):Dh (.bool c)=true:=rfl
theorem eh(c:ByteArray):Dh (.str c)=true:=rfl
theorem eg(c:List (List AU)):Dh (.be c)=false:=rfl
theorem ZI:Dh .qr=true:=rfl
theorem ZG:Dh .i9=true:=rfl
theorem ZF:Dh .i7=true:=rfl
theorem ZH:Dh .nl=true:=rfl
theorem dt(cs:List AV):AV.cells (.agg cs)=cs:=rfl
theorem rI(x:AU):AV.cells (.d x)=[.d x]:=rfl
theorem Ys:AV.cells .ci=[.ci]:=rfl
theorem du:AV.cells .emp=[.emp]:=rfl
theorem dv(id:Id)(off m:Nat):AV.cells (.d8 id off m)=[.d8 id off m]:=rfl
theorem dw(id:Id)(off:Nat):AV.cells (.ptr id off)=[.ptr id off]:=rfl
theorem Yq(id:Id)(k off:Nat):AV.cells (.ip id k off)=[.ip id k off]:=rfl
theorem mB(f:FuncId)(a c:List AV):AV.cells (.fn f a c)=[.fn f a c]:=rfl
theorem mC(id:Id):AV.cells (.mp id)=[.mp id]:=rfl
theorem VJ(t:TypeId)(v:AV):AV.cells (.iface t v)=[.iface t v]:=rfl
theorem Yr(c:List AU):AV.cells (.kw c)=[.kw c]:=rfl
theorem wu(x:AU):AV.isCell (.d x)=true:=rfl
theorem dp:AV.isCell .ci=true:=rfl
theorem l6:AV.isCell .emp=true:=rfl
theorem l7(id:Id)(off m:Nat):AV.isCell (.d8 id off m)=true:=rfl
theorem l8(id:Id)(off:Nat):AV.isCell (.ptr id off)=true:=rfl
theorem dk(id:Id)(k off:Nat):AV.isCell (.ip id k off)=true:=rfl
theorem rF(f:FuncId)(a c:List AV):AV.isCell (.fn f a c)=true:=rfl
theorem rH(id:Id):AV.isCell (.mp id)=true:=rfl
theorem Yp(t:TypeId)(v:AV):AV.isCell (.iface t v)=true:=rfl
theorem yk(a c:List AV)(i:TI):G8 .eql (.agg a) (.agg c) (some i)=(G7 i.kind (.agg a) (.agg c)).map fun t=>.d (.bool t):=by
 simp only[G8];cases G7 i.kind (.agg a) (.agg c)<;>rfl
theorem yl(a c:List AV)(i:TI):G8 .neq (.agg a) (.agg c) (some i)=(G7 i.kind (.agg a) (.agg c)).map fun t=>.d (.bool (!t)):=by
 simp only[G8];cases G7 i.kind (.agg a) (.agg c)<;>rfl
theorem dX(ks:List TK)(a c:List AV):G7 (.flat ks) (.agg a) (.agg c)=Dv ks a c:=rfl
theorem VI:Dv [] [] []=some true:=rfl
def zN:Option Bool→Option Bool→Option Bool
 |some a,some c=>some (a&&c)
 |_,_=>none
theorem dJ(a c:Bool):zN (some a) (some c)=some (a&&c):=rfl
theorem TQ(t:TK)(ts:List TK)(x y:AV)(xs ys:List AV):Dv (t::ts) (x::xs) (y::ys)=zN (Ff t x y) (Dv ts xs ys):=by
 simp only[Dv];cases Ff t x y<;>cases Dv ts xs ys<;>rfl
theorem Yn(k:IntKind)(a c:Int):Ff .int (.d (.int k a)) (.d (.int k c))=some (decide (a=c)):=by
 simp only[Ff,F3];congr
theorem VG(a c:Bool):Ff .bool (.d (.bool a)) (.d (.bool c))=some (a==c):=rfl
theorem Yo(a c:ByteArray):Ff .str (.d (.str a)) (.d (.str c))=some (a==c):=rfl
theorem yo(a c:ByteArray)(i:TI):G8 .lss (.d (.str a)) (.d (.str c)) (some i)=some (.d (.bool (Op.bytesLess a.toList c.toList))):=by
 simp only[G8];cases G7 i.kind (.d (.str a)) (.d (.str c))<;>rfl
theorem vW(a c:ByteArray)(i:TI):G8 .leq (.d (.str a)) (.d (.str c)) (some i)=some (.d (.bool (Op.bytesLess a.toList c.toList||a.toList==c.toList))):=by
 simp only[G8];cases G7 i.kind (.d (.str a)) (.d (.str c))<;>rfl
theorem yn(a c:ByteArray)(i:TI):G8 .eql (.d (.str a)) (.d (.str c)) (some i)=(G7 i.kind (.d (.str a)) (.d (.str c))).map fun t=>.d (.bool t):=by
 simp only[G8];cases G7 i.kind (.d (.str a)) (.d (.str c))<;>rfl
theorem vU(a c:Bool)(i:TI):G8 .eql (.d (.bool a)) (.d (.bool c)) (some i)=(G7 i.kind (.d (.bool a)) (.d (.bool c))).map fun t=>.d (.bool t):=by
 simp only[G8];cases G7 i.kind (.d (.bool a)) (.d (.bool c))<;>rfl
theorem qX(t:TypeId)(v:AV)(i:TI):G8 .neq (.iface t v) (.d .i9) (some i)=(G7 i.kind (.iface t v) (.d .i9)).map fun t=>.d (.bool (!t)):=by
 simp only[G8];cases G7 i.kind (.iface t v) (.d .i9)<;>rfl
theorem fg(v:Value):Wh (.const v)=true:=rfl
theorem sr(t:Tmp):Wh (.tmp t)=false:=rfl
theorem nn(f:FuncId):Wh (.func f)=false:=rfl
theorem qz(c:Bool)(op:BinOp)(x y:AV)(t:Option TI):da c op x y t=zy (G8 op x y t) (pN c op x y t):=rfl
theorem pY(v:AV)(r:Option AV):zy (some v) r=some v:=rfl
theorem pX(r:Option AV):zy none r=r:=rfl
def yP:TK→BinOp→Option AV
 |.iface,.eql=>some (.d (.bool true))
 |.iface,.neq=>some (.d (.bool false))
 |_,_=>none
theorem pH:yP .iface .eql=some (.d (.bool true)):=rfl
theorem pJ:yP .iface .neq=some (.d (.bool false)):=rfl
theorem pO(op:BinOp)(i:TI):pN true op (.d .i9) (.d .i9) (some i)=yP i.kind op:=by
 obtain⟨k⟩:=i;cases k<;>cases op<;>rfl
theorem ym(op:BinOp)(i:TI):G8 op (.d .i9) (.d .i9) (some i)=none:=by
 obtain⟨k⟩:=i;cases k<;>cases op<;>rfl
theorem lk(a c:ByteArray):G7 .str (.d (.str a)) (.d (.str c))=some (a==c):=rfl
theorem dW(a c:Bool):G7 .bool (.d (.bool a)) (.d (.bool c))=some (a==c):=rfl
theorem Yg(t:TypeId)(v:AV):G7 .iface (.iface t v) (.d .i9)=some false:=rfl
theorem AAJ(f:FuncId)(a c:List AV)(i:TI):G8 .neq (.fn f a c) (.d .i7) (some i)=(G7 i.kind (.fn f a c) (.d .i7)).map fun t=>.d (.bool (!t)):=by
 simp only[G8];cases G7 i.kind (.fn f a c) (.d .i7)<;>rfl
theorem vV(i:TI):G8 .neq (.d .i7) (.d .i7) (some i)=(G7 i.kind (.d .i7) (.d .i7)).map fun t=>.d (.bool (!t)):=by
 simp only[G8];cases G7 i.kind (.d .i7) (.d .i7)<;>rfl
theorem qy(f:FuncId)(a c:List AV):G7 .func (.fn f a c) (.d .i7)=some false:=rfl
theorem dY:G7 .func (.d .i7) (.d .i7)=some true:=rfl
theorem fL(g:G)(t:TypeId)(v:AV):Uk g (.iface t v)=Di g (.iface t v):=by simp only[Uk]
theorem sM(g:G)(id:Id)(off:Nat):Uk g (.ptr id off)=none:=rfl
attribute [go_sem] yo vW yn vU qX fg sr nn qz pY pX pH pJ pO ym lk dW Yg AAJ vV qy dY fL sM
attribute [go_sem] yk yl dX VI dJ TQ Yn VG Yo
theorem Fc(a c:Nat):Nat.ble a c=decide (a≤c):=by
 cases h:Nat.ble a c with
 |true=>exact(DO (F4 h)).symm
 |false=>exact(Cs (fun h1=>by rw[Nat.ble_eq_true_of_le h1]at h;cases h)).symm
theorem TJ(a c:Nat):Nat.blt a c=decide (a<c):=Fc (a+1) c
theorem HJ(a c:Nat):Nat.beq a c=decide (a=c):=by
 cases h:Nat.beq a c with
 |true=>exact(DO (Co h)).symm
 |false=>exact(Cs (OR h)).symm
theorem N6{a:Nat}(h:a≤1073741824):(a≤BD)=True:=eq_true (by unfold BD;omega)
attribute [go_sem] Fc TJ N6 Fh List.replicate_succ List.replicate_zero List.flatten_cons List.flatten_nil Bool.and_self
theorem Xl(t:TypeId)(u:AV)(hu:flat (.iface t u)=true):BL C K fr ops b n al l i Q (FC ⟨e,h,bs,ds⟩ (.iface t u))=(al i=true∧Q (.em (.iface t u)) ⟨e,h,b+n,ds⟩):=by
 simp only[FC,hu,BL]
def Bg(v:AV)(t:Bool):E (Ae×AB):=if t=true then .ok (.ret (.f8 []),[])else .ok (.em v,[])
theorem KB(v:AV):Bg v true=.ok (.ret (.f8 []),[]):=rfl
theorem Iq(v:AV):Bg v false=.ok (.em v,[]):=rfl
variable{az:List AV}{t:Bool}
theorem bX{v:AV}(h1:t=true→C5 C K fr ops b n al l i az dst e h bs ds Q (Bg v true))(h2:t=false→C5 C K fr ops b n al l i az dst e h bs ds Q (Bg v false)):C5 C K fr ops b n al l i az dst e h bs ds Q (Bg v t):=by
 cases t
 .exact h2 rfl
 .exact h1 rfl
theorem Xu{v:AV}{p:Prop} [Decidable p](h1:p→C5 C K fr ops b n al l i az dst e h bs ds Q (Bg v true))(h2: ¬p→C5 C K fr ops b n al l i az dst e h bs ds Q (Bg v false)):C5 C K fr ops b n al l i az dst e h bs ds Q (Bg v (decide p)):=by
 by_cases hp:p
 .rw[DO hp];exact h1 hp
 .rw[Cs hp];exact h2 hp
attribute [go_sem] Nat.add_assoc
attribute [go_sem] u0 uz Prod.mk.injEq Xl KB Iq jh jg
attribute [go_sem] yr vd qg vh yq vf kO X9 kA qD qC RQ Yi Yh U6 Yu VQ pW jF vE fW fR fV fS xO nV xP sO zn sR Tf xN sY ZX sQ xQ sU nU ZW fP nW WU nX WQ sX WM WO sV fO fM sW sS sZ lx fJ Kz bQ jo jm xA re w7 rb eU rl rk rf rh rj get_cons Zb WZ Dn MO Ih O1 Ij CJ J8 HT FO jD cm Dt Lf Ck J7 Hi FT XD XE sk sn iV Ts H4 B9 IM Ev AAK zO zX zU zP zV zT zS zR zQ zW YO mX Ve mV fk QW Zk Zj qa qZ qY fK jy px jx jw Rm Qx oo iX fU fT Za sN zm sH nS sI sL Mm dz decide_true decide_false Bool.not_true Bool.not_false qi eJ Y5 Z7 iy bW Option.isSome_some dt rI Ys du dv dw Yq mB mC VJ Yr wu dp l6 l7 l8 dk rF rH Yp Dd CM puts_cons puts_nil cq Xw nd Bo is_self su Wj Wi vg Tt Zs iU iR R8 dj Yl L6 TM Re NQ lO EN pt Qe kK kJ Lj H8 H9 Cv H6 AD A5 List.any_nil List.any_cons Bool.or_false Bool.false_or Bool.or_true Bool.true_or Bool.false_and Bool.and_false Int.toNat_natCast Int.natCast_nonneg List.getElem?_map List.getElem?_nil xL ew nF xM ez nJ nM sD nN sC nK fG ZV fH e9 WG WE ZR ZT ZS WI nQ fE xK my eu mz nB sB nD r9 nA Vz V5 xI et mj mh mq mm mn Vr Vs eo r6 ei ep ZJ r7 Vo Vm Vn ZD List.flatMap_cons List.flatMap_nil ef ZE eh eg ZI ZG ZF ZH List.foldl_cons List.foldl_nil List.map_cons List.map_nil List.length_cons List.length_nil List.length_map List.length_append List.length_singleton List.append_assoc List.all_cons List.all_nil Option.map_some Option.bind_some List.getElem?_cons_zero List.getElem?_cons_succ List.take_succ_cons List.take_zero List.drop_succ_cons List.drop_zero List.append_nil List.nil_append List.cons_append List.size_toArray Bool.and_true Bool.true_and true_and and_true
variable{P:Program}{C:CA}{K:AJ}{fr:Fr}{b n i:Nat}{Q:Dc→St→Prop}
variable{ops:Array Oper}{al:Nat→Bool}{l:List Oper}{e:CB}{h:AB}{bs:Nat}{ds:List Df}{ps:List (Nat×Nat)}{fps:List Fp}
def Bu(C:CA)(K:AJ)(fr:Fr)(ops:Array Oper)(b n:Nat)(al:Nat→Bool)(ps:List (Nat×Nat))(fps:List Fp)(l:List Oper)(i:Nat)(Q:Dc→St→Prop):Fx→Prop
 |.ok st fp=>FV C K fr ops b n al ps (fps++[fp]) l (i+1) st Q
 |.em v st=>al i=true∧DC fps ps=true∧Q (.em v) {st with base:=b+n}
 |.err _=>False
def DI(C:CA)(K:AJ)(fr:Fr)(ops:Array Oper)(b n:Nat)(al:Nat→Bool)(ps:List (Nat×Nat))(fps:List Fp)(l:List Oper)(i:Nat)(dst:Option Tmp)(e:CB)(h:AB)(bs:Nat)(ds:List Df)(Q:Dc→St→Prop)(rd:List Id):Option Bw→Prop
 |some x=>JE fr.bi x.δ=true∧FV C K fr ops b n al ps (fps++[⟨some rd,some (x.δ.map (·.1))⟩]) l (i+1) ⟨B8 e dst x.v,h.puts x.δ,bs,ds⟩ Q
 |none=>False
theorem pV:FV C K fr ops b n al ps fps [] i ⟨e,h,bs,ds⟩ Q=(DC fps ps=true∧Q .normal ⟨e,h,b+n,ds⟩):=by
 simp only[FV,Cl,EL]
theorem Sn(o:Oper)(st:St):FV C K fr ops b n al ps fps (o::l) i st Q=Bu C K fr ops b n al ps fps l i Q (B2 C K fr ops ((b+i)::fr.π) o st):=by
 unfold FV;simp only[Cl,HN];cases hs:B2 C K fr ops ((b+i)::fr.π) o st with
 |err e=>rfl
 |em v st'=>
  simp only[Bu];cases al i<;>simp
 |ok st' fp=>
  simp only[Bu,FV];cases hr:Cl C K fr ops b al l (i+1) st' with
  |err e=>rfl
  |ok r=>
   obtain⟨⟨o,st2⟩,fps'⟩:=r;cases o<;>simp only[TR,ES,Es,Ex]
def DH(C:CA)(K:AJ)(fr:Fr)(ops:Array Oper)(b n:Nat)(al:Nat→Bool)(ps:List (Nat×Nat))(fps:List Fp)(l:List Oper)(i:Nat)(dst:Option Tmp)(op:Op)(st:St)(want:Bool)(Q:Dc→St→Prop):AV→Prop
 |.d (.bool t)=>match t==want with
  |true=>Bu C K fr ops b n al ps fps l i Q (Ax C K fr ((b+i)::fr.π) op dst st)
  |false=>FV C K fr ops b n al ps (fps++[⟨some [],some []⟩]) l (i+1) {st with env:=B8 st.env dst (.f8 [])} Q
 |.f8 []=>FV C K fr ops b n al ps (fps++[⟨some [],some []⟩]) l (i+1) {st with env:=B8 st.env dst (.f8 [])} Q
 |_=>False
theorem pe(dst:Option Tmp)(op:Op)(ty:TypeId)(pos:String)(af:Array Edge)(j:Nat)(want:Bool):
 FV C K fr ops b n al ps fps (⟨dst,op,ty,pos,af,some (j,want)⟩::l) i ⟨e,h,bs,ds⟩ Q=DH C K fr ops b n al ps fps l i dst op ⟨e,h,bs,ds⟩ want Q (N5 ops e j):=by
 rw[Sn];simp only[B2,LX,N5];cases hj:ops[j]? with
 |none=>simp[J1,DH,Bu]
 |some o=>
  cases hd:o.dst with
  |none=>simp[J1,DH,Bu,hd]
  |some t=>
   simp only[IP,hd,F1,J1];cases hv:CB.get e t with
   |d x=>cases x with
    |bool c=>
     simp only[DH];cases(c==want)<;>simp only[Bu,Aw]
    |_=>rfl
   |f8 vs=>cases vs<;>simp only[DH,Bu,Aw]
   |_=>rfl
theorem fb(dst:Option Tmp)(op:Op)(st:St):DH C K fr ops b n al ps fps l i dst op st true Q (.d (.bool true))=Bu C K fr ops b n al ps fps l i Q (Ax C K fr ((b+i)::fr.π) op dst st):=rfl
theorem fX(dst:Option Tmp)(op:Op)(st:St):DH C K fr ops b n al ps fps l i dst op st false Q (.d (.bool false))=Bu C K fr ops b n al ps fps l i Q (Ax C K fr ((b+i)::fr.π) op dst st):=rfl
theorem fZ(dst:Option Tmp)(op:Op):DH C K fr ops b n al ps fps l i dst op ⟨e,h,bs,ds⟩ true Q (.d (.bool false))=FV C K fr ops b n al ps (fps++[⟨some [],some []⟩]) l (i+1) ⟨B8 e dst (.f8 []),h,bs,ds⟩ Q:=rfl
theorem fY(dst:Option Tmp)(op:Op):DH C K fr ops b n al ps fps l i dst op ⟨e,h,bs,ds⟩ false Q (.d (.bool true))=FV C K fr ops b n al ps (fps++[⟨some [],some []⟩]) l (i+1) ⟨B8 e dst (.f8 []),h,bs,ds⟩ Q:=rfl
theorem Zd(dst:Option Tmp)(op:Op)(want:Bool):DH C K fr ops b n al ps fps l i dst op ⟨e,h,bs,ds⟩ want Q (.f8 [])=FV C K fr ops b n al ps (fps++[⟨some [],some []⟩]) l (i+1) ⟨B8 e dst (.f8 []),h,bs,ds⟩ Q:=rfl
theorem Tj{op:Op}{st:St}(h1:t=true→DH C K fr ops b n al ps fps l i dst op st want Q (.d (.bool true)))(h2:t=false→DH C K fr ops b n al ps fps l i dst op st want Q (.d (.bool false))):DH C K fr ops b n al ps fps l i dst op st want Q (.d (.bool t)):=by
 cases t
 .exact h2 rfl
 .exact h1 rfl
theorem Zc{op:Op}{st:St}{p:Prop} [Decidable p](h1:p→DH C K fr ops b n al ps fps l i dst op st want Q (.d (.bool true)))(h2: ¬p→DH C K fr ops b n al ps fps l i dst op st want Q (.d (.bool false))):DH C K fr ops b n al ps fps l i dst op st want Q (.d (.bool (decide p))):=by
 by_cases hp:p
 .rw[DO hp];exact h1 hp
 .rw[Cs hp];exact h2 hp
theorem jE(dst:Option Tmp)(op:Op)(ty:TypeId)(pos:String)(af:Array Edge)(st:St):
 FV C K fr ops b n al ps fps (⟨dst,op,ty,pos,af,none⟩::l) i st Q=Bu C K fr ops b n al ps fps l i Q (Ax C K fr ((b+i)::fr.π) op dst st):=by
 rw[Sn];simp only[B2,LX]
theorem Bd(dst:Option Tmp)(op:Op)(r:Option Bw):Bu C K fr ops b n al ps fps l i Q (Cx fr op dst ⟨e,h,bs,ds⟩ r)=DI C K fr ops b n al ps fps l i dst e h bs ds Q (FP e.get h.get op) r:=by
 cases r with
 |none=>rfl
 |some x=>
  simp only[Cx,DI,Iy,BW,Aw];cases hw:JE fr.bi x.δ with
  |false=>simp[Bu]
  |true=>
   simp only[RX,Kc,Bu]
theorem Ky(dst:Option Tmp)(v:AV)(rd:List Id):DI C K fr ops b n al ps fps l i dst e h bs ds Q rd (some ⟨v,[]⟩)=FV C K fr ops b n al ps (fps++[⟨some rd,some []⟩]) l (i+1) ⟨B8 e dst v,h,bs,ds⟩ Q:=by
 have:JE fr.bi []=true:=by cases hp:fr.bi<;>rfl
 simp only[DI,this,RX];rfl
theorem bP(dst:Option Tmp)(v:AV)(x:Id×Obj)(δ:AB)(rd:List Id):DI C K fr ops b n al ps fps l i dst e h bs ds Q rd (some ⟨v,x::δ⟩)=(JE fr.bi (x::δ)=true∧FV C K fr ops b n al ps (fps++[⟨some rd,some (x.1::δ.map (·.1))⟩]) l (i+1) ⟨B8 e dst v,h.puts (x::δ),bs,ds⟩ Q):=rfl
section
variable(dst:Option Tmp)(ρ:List Nat)
theorem xF(x:Operand):Bu C K fr ops b n al ps fps l i Q (Ax C K fr ρ (.move x) dst ⟨e,h,bs,ds⟩)=FV C K fr ops b n al ps (fps++[⟨some [],some []⟩]) l (i+1) ⟨B8 e dst (ev e.get x),h,bs,ds⟩ Q:=by
 simp only[Ax,evalOp,Bd,Ky,FP]
theorem mc(x:Operand):Bu C K fr ops b n al ps fps l i Q (Ax C K fr ρ (.assign x) dst ⟨e,h,bs,ds⟩)=FV C K fr ops b n al ps (fps++[⟨some [],some []⟩]) l (i+1) ⟨B8 e dst (ev e.get x),h,bs,ds⟩ Q:=by
 simp only[Ax,evalOp,Bd,Ky,FP]
theorem xH(c x y:Operand):Bu C K fr ops b n al ps fps l i Q (Ax C K fr ρ (.pick c x y) dst ⟨e,h,bs,ds⟩)=DI C K fr ops b n al ps fps l i dst e h bs ds Q ([]) (MO (ev e.get c) (ev e.get x) (ev e.get y)):=by
 simp only[Ax,evalOp,Bd,FP,Dk,Op.operands,D2,HE,EL]
theorem rp(t:TypeId):Bu C K fr ops b n al ps fps l i Q (Ax C K fr ρ (.alloc t) dst ⟨e,h,bs,ds⟩)=DI C K fr ops b n al ps fps l i dst e h bs ds Q ([]) (Ih ρ (C.T t)):=by
 simp only[Ax,evalOp,Bd,FP,Dk,Op.operands,D2,HE,EL]
theorem zk(t:TypeId)(x:Operand):Bu C K fr ops b n al ps fps l i Q (Ax C K fr ρ (.box t x) dst ⟨e,h,bs,ds⟩)=DI C K fr ops b n al ps fps l i dst e h bs ds Q ([]) (O1 ρ (ev e.get x) (C.T t)):=by
 simp only[Ax,evalOp,Bd,FP,Dk,Op.operands,D2,HE,EL]
theorem rr(t:TypeId)(p:Array (Nat×Operand)):Bu C K fr ops b n al ps fps l i Q (Ax C K fr ρ (.build t p) dst ⟨e,h,bs,ds⟩)=DI C K fr ops b n al ps fps l i dst e h bs ds Q ([]) (Ij (Dd e.get p) (C.T t)):=by
 simp only[Ax,evalOp,Bd,FP,Dk,Op.operands,D2,HE,EL]
theorem Tb(t:TypeId)(m:Nat)(p:Array (Nat×Operand)):Bu C K fr ops b n al ps fps l i Q (Ax C K fr ρ (.buildSlice t m p) dst ⟨e,h,bs,ds⟩)=DI C K fr ops b n al ps fps l i dst e h bs ds Q (FP e.get h.get (.buildSlice t m p)) (CJ C.T h.get ρ m (Dd e.get p) (C.T t)):=by
 simp only[Ax,evalOp,Bd]
theorem xE(t:TypeId)(a:Operand):Bu C K fr ops b n al ps fps l i Q (Ax C K fr ρ (.load t a) dst ⟨e,h,bs,ds⟩)=DI C K fr ops b n al ps fps l i dst e h bs ds Q (AD (ev e.get a)) (J8 h.get (ev e.get a) (C.T t)):=by
 simp only[Ax,evalOp,Bd,FP,Dk,Op.operands,D2,HE,EL]
theorem ry(t:TypeId)(a x:Operand):Bu C K fr ops b n al ps fps l i Q (Ax C K fr ρ (.store t a x) dst ⟨e,h,bs,ds⟩)=DI C K fr ops b n al ps fps l i dst e h bs ds Q (AD (ev e.get a)++AD (ev e.get x)) (HT h.get (ev e.get a) (ev e.get x) (C.T t)):=by
 simp only[Ax,evalOp,Bd,FP,Dk,Op.operands,D2,HE,EL]
theorem ZA(x:Operand):Bu C K fr ops b n al ps fps l i Q (Ax C K fr ρ (.nilCheck x) dst ⟨e,h,bs,ds⟩)=DI C K fr ops b n al ps fps l i dst e h bs ds Q ([]) (FO (ev e.get x)):=by
 simp only[Ax,evalOp,Bd,FP,Dk,Op.operands,D2,HE,EL]
theorem rq(op:BinOp)(t:TypeId)(x y:Operand)(u:TypeId):Bu C K fr ops b n al ps fps l i Q (Ax C K fr ρ (.binOp op t x y u) dst ⟨e,h,bs,ds⟩)=DI C K fr ops b n al ps fps l i dst e h bs ds Q ([]) ((da (Wh x||Wh y) op (ev e.get x) (ev e.get y) (C.T t)).map (⟨·,[]⟩)):=by
 simp only[Ax,evalOp,Bd,FP,Dk,Op.operands,D2,HE,EL]
theorem Vk(t:TypeId)(x y:Operand):Bu C K fr ops b n al ps fps l i Q (Ax C K fr ρ (.makeSlice t x y) dst ⟨e,h,bs,ds⟩)=DI C K fr ops b n al ps fps l i dst e h bs ds Q ([]) (CR C.T h.get ρ (ev e.get x) (ev e.get y) (C.T t)):=by
 simp only[Ax,evalOp,Bd,FP,Dk,Op.operands,D2,HE,EL]
theorem Vi(t:TypeId)(x:Operand)(k:Nat):Bu C K fr ops b n al ps fps l i Q (Ax C K fr ρ (.fieldAddr t x k) dst ⟨e,h,bs,ds⟩)=DI C K fr ops b n al ps fps l i dst e h bs ds Q ([]) (Dt k (ev e.get x) (C.T t)):=by
 simp only[Ax,evalOp,Bd,FP,Dk,Op.operands,D2,HE,EL]
theorem Vj(t:TypeId)(x y:Operand):Bu C K fr ops b n al ps fps l i Q (Ax C K fr ρ (.indexAddr t x y) dst ⟨e,h,bs,ds⟩)=DI C K fr ops b n al ps fps l i dst e h bs ds Q (AD (ev e.get x)++AD (ev e.get y)) (Ck C.T h.get (ev e.get x) (ev e.get y) (C.T t)):=by
 simp only[Ax,evalOp,Bd,FP,Dk,Op.operands,D2,HE,EL]
theorem ec(f:Builtin)(az:Array Operand)(ts:Array TypeId):Bu C K fr ops b n al ps fps l i Q (Ax C K fr ρ (.call ⟨.builtin f,az,ts⟩) dst ⟨e,h,bs,ds⟩)=DI C K fr ops b n al ps fps l i dst e h bs ds Q (FP e.get h.get (.call ⟨.builtin f,az,ts⟩)) (FT C.T h.get ρ f (az.toList.map (ev e.get)) ts.toList):=by
 simp only[Ax,JB,Bd]
theorem ru(x:Operand):Bu C K fr ops b n al ps fps l i Q (Ax C K fr ρ (.panic x) dst ⟨e,h,bs,ds⟩)=Bu C K fr ops b n al ps fps l i Q (FC ⟨e,h,bs,ds⟩ (ev e.get x)):=rfl
def C4(C:CA)(K:AJ)(fr:Fr)(ops:Array Oper)(b n:Nat)(al:Nat→Bool)(ps:List (Nat×Nat))(fps:List Fp)(l:List Oper)(i:Nat)(az:List AV)(dst:Option Tmp)(e:CB)(h:AB)(bs:Nat)(ds:List Df)(Q:Dc→St→Prop)(r:E (Ae×AB)):Prop:=
 Bu C K fr ops b n al ps fps l i Q (C3 fr az dst ⟨e,h,bs,ds⟩ r)
def U9(C:CA)(K:AJ)(fr:Fr)(ops:Array Oper)(b n:Nat)(al:Nat→Bool)(ps:List (Nat×Nat))(fps:List Fp)(l:List Oper)(i:Nat)(dst:Option Tmp)(ρ:List Nat)(e:CB)(h:AB)(bs:Nat)(ds:List Df)(Q:Dc→St→Prop)(args:List AV):AV→Prop
 |fv=>Bu C K fr ops b n al ps fps l i Q (De C K fr ρ fv args dst ⟨e,h,bs,ds⟩)
theorem rz(f:Operand)(az:Array Operand)(ts:Array TypeId):Bu C K fr ops b n al ps fps l i Q (Ax C K fr ρ (.call ⟨.value f,az,ts⟩) dst ⟨e,h,bs,ds⟩)=U9 C K fr ops b n al ps fps l i dst ρ e h bs ds Q (az.toList.map (ev e.get)) (ev e.get f):=rfl
def Lz(C:CA)(K:AJ)(fr:Fr)(ops:Array Oper)(b n:Nat)(al:Nat→Bool)(ps:List (Nat×Nat))(fps:List Fp)(l:List Oper)(i:Nat)(dst:Option Tmp)(ρ:List Nat)(e:CB)(h:AB)(bs:Nat)(ds:List Df)(Q:Dc→St→Prop)(f:FuncId)(az:List AV)(m:Mode):Prop:=
 Bu C K fr ops b n al ps fps l i Q (DW K fr ρ f az dst ⟨e,h,bs,ds⟩ m)
theorem lu(f:FuncId)(first cap args:List AV):U9 C K fr ops b n al ps fps l i dst ρ e h bs ds Q args (.fn f first cap)=Lz C K fr ops b n al ps fps l i dst ρ e h bs ds Q f (first++args++cap) (C.mode f):=by
 simp only[U9,Lz,De,BA]
def fB(C:CA)(K:AJ)(fr:Fr)(ops:Array Oper)(b n:Nat)(al:Nat→Bool)(ps:List (Nat×Nat))(fps:List Fp)(l:List Oper)(i:Nat)(dst:Option Tmp)(e:CB)(h:AB)(bs:Nat)(ds:List Df)(Q:Dc→St→Prop)(f:FuncId)(az:List AV)(own:List Nat):Option (List AV)→Prop
 |some xs=>C4 C K fr ops b n al ps fps l i az dst e h bs ds Q (K (.fn f) xs [] own false none)
 |none=>False
theorem Z5(f:FuncId)(az:List AV)(hx:(DM h.get az).isSome):Lz C K fr ops b n al ps fps l i dst ρ e h bs ds Q f az .auto=fB C K fr ops b n al ps fps l i dst e h bs ds Q f az [] (DM h.get az):=by
 obtain⟨xs,hx⟩:=Ii.1 hx;simp only[Lz,DW,hx,BA,fB,C4]
theorem iw(f:FuncId)(az:List AV)(hx:(DM h.get az).isSome):Lz C K fr ops b n al ps fps l i dst ρ e h bs ds Q f az .own=fB C K fr ops b n al ps fps l i dst e h bs ds Q f az ρ (DM h.get az):=by
 obtain⟨xs,hx⟩:=Ii.1 hx;simp only[Lz,DW,hx,BA,fB,C4]
theorem fC(f:FuncId)(az:List AV)(own:List Nat)(xs:List AV):fB C K fr ops b n al ps fps l i dst e h bs ds Q f az own (some xs)=C4 C K fr ops b n al ps fps l i az dst e h bs ds Q (BJ K f xs own):=by
 simp only[fB,C4,O4]
theorem bS(az:List AV)(v:AV)(h':AB)(hv:flat v=true):C4 C K fr ops b n al ps fps l i az dst e h bs ds Q (.ok (.ret v,h'))=FV C K fr ops b n al ps (fps++[⟨some (CX h.get (A5 az)),some []⟩]) l (i+1) ⟨B8 e dst v,h,bs,ds⟩ Q:=by
 simp only[C4,C3,Aw,hv,Bu]
theorem Sw(az:List AV)(v:AV)(h':AB)(hv:flat v=true):C4 C K fr ops b n al ps fps l i az dst e h bs ds Q (.ok (.em v,h'))=(al i=true∧DC fps ps=true∧Q (.em v) ⟨e,h,b+n,ds⟩):=by
 simp only[C4,C3,hv,Bu]
theorem je(az:List AV)(v:AV)(h':AB)(x:Id×Obj)(hv:flat v=false)(hx:Ba v h'=some x):C4 C K fr ops b n al ps fps l i az dst e h bs ds Q (.ok (.ret v,h'))=FV C K fr ops b n al ps (fps++[⟨some (CX h.get (A5 az)),some [x.1]⟩]) l (i+1) ⟨B8 e dst v,x::h,bs,ds⟩ Q:=by
 simp only[C4,C3,Aw,hv,Gf,hx,Ak,Bu]
theorem Sv(az:List AV)(v:AV)(h':AB)(hv:flat v=false)(hx:Ba v h'=none):C4 C K fr ops b n al ps fps l i az dst e h bs ds Q (.ok (.ret v,h'))=(JE fr.bi (az.flatMap (mark h.get))=true∧FV C K fr ops b n al ps (fps++[⟨some (CX h.get (A5 az)),some ((az.flatMap (mark h.get)).map (·.1)++h'.map (·.1))⟩]) l (i+1) ⟨B8 e dst v,h'++h.puts (az.flatMap (mark h.get)),bs,ds⟩ Q):=by
 simp only[C4,C3,Aw,hv,Gf,hx,Ak,BW];cases hw:JE fr.bi (az.flatMap (mark h.get))<;>simp[Bu]
end
variable{α:Type}{f:α→List AU}{sz:Nat}{dst:Option Tmp}
theorem jY{l':List α}{j:Nat}{rd:List Id}(hj:j<l'.length)(hx: ∀x,l'[j]? =some x→DI C K fr ops b n al ps fps l i dst e h bs ds Q rd (Qa sz (some (f x)))):DI C K fr ops b n al ps fps l i dst e h bs ds Q rd (Qa sz (Option.map f l'[j]?)):=by
 have:=hx l'[j] (BY hj)
 rwa [BY hj]
theorem Xk(fps:List Fp):DC fps []=true:=rfl
def lQ:Option Fp→Option Fp→Bool
 |some a,some c=>a.apart c
 |_,_=>true
theorem U0(a c:Fp):lQ (some a) (some c)=a.apart c:=rfl
theorem UD(fps:List Fp)(i j:Nat)(l:List (Nat×Nat)):DC fps ((i,j)::l)=(lQ fps[i]? fps[j]? &&DC fps l):=by
 simp only[DC,D0];rfl
theorem VV(g:G):CX g []=[]:=rfl
theorem dK(x:Option (List Id)):Abs.apart (some []) x=true:=by cases x<;>simp[Abs.apart]
theorem YZ(x:Option (List Id)):Abs.apart x (some [])=true:=by
 unfold Abs.apart;split<;>first|rfl|simp_all
theorem Rl(g:G)(e:Nat→AV)(t:TypeId)(m:Nat)(p:Array (Nat×Operand)):FP e g (.buildSlice t m p)=(p.toList.map (·.2)).flatMap fun y=>AD (ev e y):=by
 simp only[FP,Dk,Op.operands]
theorem yb(g:G)(e:Nat→AV)(az:Array Operand)(ts:Array TypeId):FP e g (.call ⟨.builtin .len,az,ts⟩)=az.toList.flatMap fun y=>AD (ev e y):=by
 simp[FP,Dk,Op.operands,Call.operands]
theorem jr(g:G)(e:Nat→AV)(az:Array Operand)(ts:Array TypeId):FP e g (.call ⟨.builtin .append,az,ts⟩)=CX g (az.toList.flatMap fun y=>AD (ev e y)):=by
 simp[FP,Dk,Op.operands,Call.operands]
theorem yc(g:G)(e:Nat→AV)(az:Array Operand)(ts:Array TypeId):FP e g (.call ⟨.builtin .max,az,ts⟩)=[]:=rfl
theorem yd(g:G)(e:Nat→AV)(az:Array Operand)(ts:Array TypeId):FP e g (.call ⟨.builtin .min,az,ts⟩)=[]:=rfl
attribute [go_sem] Sw Sv
attribute [go_sem] pV pe fb fX fZ fY Zd jE Ky bP xF mc xH rp zk rr Tb xE ry ZA rq Vk Vi Vj ec ru rz lu Z5 iw fC bS Xk U0 UD VV dK YZ Rl yb jr yc yd Fp.apart List.flatMap_cons List.flatMap_nil
variable{P:Program}{C:CA}{K:AJ}{fr:Fr}{b n i:Nat}{Q:Dc→St→Prop}
variable{ops:Array Oper}{al:Nat→Bool}{l:List Oper}{e:CB}{h:AB}{bs:Nat}{ds:List Df}
theorem is_iff: ∀{a b:Id},Id.is a b=true↔a=b:=fun{a b}=>⟨Id.is_eq,fun h=>by subst h;exact is_self a⟩
theorem AF{a b:Id}(h:a≠b):Id.is a b=false:=by
 cases hx:Id.is a b with
 |false=>rfl
 |true=>exact absurd (is_iff.1 hx) h
variable{ρ:Id}
theorem under_iff: ∀{id:Id},Id.under ρ id=true↔ρ<:+id
 |[]=>by
  simp only[Id.under,is_iff,List.suffix_nil]
 |m::l=>by
  rw[He];unfold Id.under;cases hx:Id.is ρ (m::l)with
  |true=>simp[is_iff.1 hx]
  |false=>
   have:ρ≠m::l:=fun h=>by rw[is_iff.2 h]at hx;cases hx
   simp only[this,false_or];exact under_iff
theorem Du{id:Id}(h: ¬ρ<:+id):Id.under ρ id=false:=by
 cases hx:Id.under ρ id with
 |false=>rfl
 |true=>exact absurd (under_iff.1 hx) h
theorem get_put(h:AB)(id:Id)(o:Obj)(id':Id):AB.get (AB.put h id o) id'=if Id.is id id'=true then some o else AB.get h id':=by
 induction h with
 |nil=>simp only[cq,Bo]
 |cons p h ih=>
  obtain⟨k,x⟩:=p;rw[Xw];by_cases hk:Id.is k id=true
  .rw[D7 hk,Bo,Bo];have:=is_iff.1 hk;subst this;split<;>rfl
  .rw[D3 hk,Bo,Bo,ih];by_cases h1:Id.is k id'=true
   .rw[D7 h1,D7 h1];have:=is_iff.1 h1;subst this;rw[D3 fun h2=>hk (is_iff.2 (is_iff.1 h2).symm)]
   .rw[D3 h1,D3 h1]
theorem QQ(q:Id→Bool)(h:AB)(id:Id)(hq:q id=true):AB.get (List.filter (fun p=>q p.1) h) id=AB.get h id:=by
 induction h with
 |nil=>rfl
 |cons p h ih=>
  obtain⟨k,x⟩:=p;rw[Bo,List.filter_cons];by_cases hk:Id.is k id=true
  .have:=is_iff.1 hk;subst this;simp only[hq,F3,Bo,hk]
  .rw[D3 hk,←ih];split
   .rw[Bo,D3 hk]
   .rfl
theorem Ag(ρ:List Nat)(h:AB)(id:Id)(hid:Id.under ρ id=false):AB.get (gc ρ h) id=AB.get h id:=by
 refine QQ (fun id=>match id with|0::l=> !Id.under ρ l|_=>true) h id ?_
 split
 .rename_i l;have: ¬ρ<:+l:=fun h1=>by
   have:=under_iff.2 (h1.trans (EM 0 l));rw[hid]at this;cases this
  rw[Du this];rfl
 .rfl
def UJ(C:CA)(K:AJ)(fr:Fr)(ops:Array Oper)(b n:Nat)(al:Nat→Bool)(l:List Oper)(i:Nat)(dst:Option Tmp)(ρ:List Nat)(e:CB)(h:AB)(bs:Nat)(ds:List Df)(Q:Dc→St→Prop):E (Ae×AB)→Prop
 |.ok (.ret v,h')=>Ez C K fr ops b n al l (i+1) ⟨B8 e dst v,gc ρ h',bs,ds⟩ Q
 |.ok (.em v,h')=>al i=true∧Q (.em v) ⟨e,gc ρ h',b+n,ds⟩
 |.err _=>False
theorem kF(dst:Option Tmp)(ρ:List Nat)(r:E (Ae×AB)):BL C K fr ops b n al l i Q (EB ρ dst ⟨e,h,bs,ds⟩ r)=UJ C K fr ops b n al l i dst ρ e h bs ds Q r:=by
 cases r with
 |err l=>rfl
 |ok r=>
  obtain⟨o,h'⟩:=r;cases o<;>simp only[EB,Aw,Ak,BL,UJ]
theorem po(dst:Option Tmp)(ρ:List Nat)(v:AV)(h':AB):UJ C K fr ops b n al l i dst ρ e h bs ds Q (.ok (.ret v,h'))=Ez C K fr ops b n al l (i+1) ⟨B8 e dst v,gc ρ h',bs,ds⟩ Q:=rfl
theorem pn(dst:Option Tmp)(ρ:List Nat)(v:AV)(h':AB):UJ C K fr ops b n al l i dst ρ e h bs ds Q (.ok (.em v,h'))=(al i=true∧Q (.em v) ⟨e,gc ρ h',b+n,ds⟩):=rfl
theorem AW{Post:Ae→AB→Prop}{ρ:List Nat}{q:E (Ae×AB)}(hk: ∃o h',q=.ok (o,h')∧Post o h')(hn: ∀o h',Post o h'→UJ C K fr ops b n al l i dst ρ e h bs ds Q (.ok (o,h'))):UJ C K fr ops b n al l i dst ρ e h bs ds Q q:=by
 obtain⟨o,h',e,hp⟩:=hk;rw[e];exact hn o h' hp
def qO(v:AV):Option AV→AV
 |some u=>u
 |none=>v
theorem qP(g:G):K9 g []=[]:=rfl
theorem kL(g:G)(v:AV)(vs:List AV):K9 g (v::vs)=qO v (Di g v)::K9 g vs:=by
 simp only[K9,Ci];cases Di g v<;>rfl
theorem b7(v u:AV):qO v (some u)=u:=rfl
theorem b6(v:AV):qO v none=v:=rfl
theorem Z8(dst:Option Tmp)(ρ:List Nat)(f:FuncId)(az:List AV)(hx:(DM h.get az).isNone):L0 C K fr ops b n al l i dst ρ e h bs ds Q f az .auto=(JE fr.bi (az.flatMap (mark h.get))=true∧UJ C K fr ops b n al l i dst ρ e h bs ds Q (K (.fn f) (K9 h.get az) (h.puts (az.flatMap (mark h.get))) ρ true fr.bi)):=by
 have hx:DM h.get az=none:=by simpa using hx
 simp only[L0,DW,hx,EZ,BA,BW,Ak];cases hw:JE fr.bi (az.flatMap (mark h.get))with
 |true=>simp only[kF,RX]
 |false=>simp[BL]
def zB(C:CA)(K:AJ)(fr:Fr)(ops:Array Oper)(b n:Nat)(al:Nat→Bool)(l:List Oper)(i:Nat)(dst:Option Tmp)(e:CB)(h:AB)(bs:Nat)(ds:List Df)(Q:Dc→St→Prop):E (Ae×AB)→Prop
 |.ok (.ret v,_)=>flat v=true∧Ez C K fr ops b n al l (i+1) ⟨B8 e dst v,h,bs,ds⟩ Q
 |.ok (.em v,_)=>flat v=true∧al i=true∧Q (.em v) ⟨e,h,b+n,ds⟩
 |.err _=>False
theorem o9(dst:Option Tmp)(ρ:List Nat)(f:FuncId)(az:List AV)(hx:(DM h.get az).isNone):L0 C K fr ops b n al l i dst ρ e h bs ds Q f az .ro=zB C K fr ops b n al l i dst e h bs ds Q (K (.fn f) (K9 h.get az) (h.puts (az.flatMap (mark h.get))) ρ true (some ρ)):=by
 have hx:DM h.get az=none:=by simpa using hx
 simp only[L0,DW,hx,EZ,BA,BW,Ak];cases K (.fn f) (K9 h.get az) (h.puts (az.flatMap (mark h.get))) ρ true (some ρ)with
 |err l=>rfl
 |ok r=>
  obtain⟨o,h'⟩:=r;cases o<;>simp only[Nj,zB,Aw]<;>split<;>simp_all [BL]
theorem xb(g:G)(x:AU):mark g (.d x)=[]:=rfl
theorem il(g:G):mark g .ci=[]:=rfl
theorem o5(g:G):mark g .emp=[]:=rfl
theorem o7(g:G)(id:Id)(off:Nat):mark g (.ptr id off)=[]:=rfl
theorem tB(g:G)(f:FuncId)(a c:List AV):mark g (.fn f a c)=[]:=rfl
theorem tC(g:G)(id:Id):mark g (.mp id)=[]:=rfl
theorem o6(g:G)(id:Id)(off m:Nat):mark g (.d8 id off m)=Eu g (.d8 id off m):=by simp only[mark,JZ,D2,HE,EL]
def ou(g:G):List AV→AB
 |[]=>[]
 |v::vs=>Eu g v++ou g vs
theorem o0(g:G)(cs:List AV):mark g (.agg cs)=ou g cs:=by
 simp only[mark,JZ];induction cs with
 |nil=>rfl
 |cons v vs ih=>rw[D2,ih];rfl
theorem s9(g:G)(x:AU):Eu g (.d x)=[]:=rfl
theorem Zz(g:G):Eu g .ci=[]:=rfl
theorem ia(g:G):Eu g .emp=[]:=rfl
theorem ic(g:G)(id:Id)(off:Nat):Eu g (.ptr id off)=[]:=rfl
theorem b8(ρ:Id)(n:Nat)(l:Id):Id.under ρ (n::l)=if Id.is ρ (n::l)=true then true else Id.under ρ l:=by
 conv=>lhs;unfold Id.under
 cases Id.is ρ (n::l)<;>rfl
theorem YM(n:Nat)(ρ:Id):Id.under (n::ρ) ρ=false:=Du fun h=>by
 have:=h.length_le;simp at this;omega
theorem AH{id:Id}(h:Id.under ρ id=false)(n:Nat):Id.under (n::ρ) id=false:=Du fun h1=>by
 rw[under_iff.2 ((EM n ρ).trans h1)]at h;cases h
theorem AE{ρ id:Id}(h:Id.under ρ id=false)(a n:Nat):Id.is (a::n::ρ) id=false:=AF fun h1=>by
 subst h1;rw[under_iff.2 ((EM n ρ).trans (EM a _))]at h;cases h
theorem AZ{ρ id:Id}(h:Id.under ρ id=false)(a n:Nat):Id.is id (a::n::ρ)=false:=AF fun h1=>by
 subst h1;rw[under_iff.2 ((EM n ρ).trans (EM a _))]at h;cases h
theorem xR(ρ:List Nat):gc ρ []=[]:=rfl
theorem sc(ρ:List Nat)(l:Id)(o:Obj)(h:AB):gc ρ ((0::l,o)::h)=if Id.under ρ l=true then gc ρ h else(0::l,o)::gc ρ h:=by
 simp only[gc,List.filter_cons];cases Id.under ρ l<;>rfl
theorem xT(ρ:List Nat)(l:Id)(o:Obj)(h:AB):gc ρ ((1::l,o)::h)=(1::l,o)::gc ρ h:=rfl
attribute [go_sem] xR sc xT
def TT(C:CA)(K:AJ)(fr:Fr)(ops:Array Oper)(b n:Nat)(al:Nat→Bool)(l:List Oper)(i:Nat)(dst:Option Tmp)(e:CB)(h:AB)(bs:Nat)(ds:List Df)(Q:Dc→St→Prop)(az:List AV):AV→Prop
 |.fn g [] []=>Ez C K fr ops b n al l (i+1) ⟨B8 e dst .undef,h,bs,.call g az::ds⟩ Q
 |_=>False
theorem YH(dst:Option Tmp)(f:Operand)(az:Array Operand)(ts:Array TypeId)(hr:fr.v6=false):BL C K fr ops b n al l i Q (GX fr e.get ⟨.value f,az,ts⟩ dst ⟨e,h,bs,ds⟩)=TT C K fr ops b n al l i dst e h bs ds Q (az.toList.map (ev e.get)) (ev e.get f):=by
 simp only[GX,hr];cases ev e.get f with
 |fn g a c=>
  cases a with
  |nil=>cases c<;>simp only[TT,BL]
  |cons x l=>simp only[TT,BL]
 |_=>rfl
theorem eE(dst:Option Tmp)(az:List AV)(g:FuncId):TT C K fr ops b n al l i dst e h bs ds Q az (.fn g [] [])=Ez C K fr ops b n al l (i+1) ⟨B8 e dst .undef,h,bs,.call g az::ds⟩ Q:=rfl
def Zl(C:CA)(bi:Option (List Nat))(l:List Df)(h:AB)(id:Id):Option (List AV)→E (Option AV×AB)
 |some cs=>Cp C bi l none (h.put id (.box cs))
 |none=>.err [20]
def Tr(C:CA)(bi:Option (List Nat))(l:List Df)(h:AB)(id:Id)(off:Nat)(k:IntKind)(m:Int):Option Obj→E (Option AV×AB)
 |some (.box cs)=>Zl C bi l h id (B9 cs off [.d (.int k m)])
 |_=>.err [21]
variable{bi:Option (List Nat)}{l:List Df}{h:AB}{off:Nat}{k:IntKind}{m:Int}
theorem NM{f:FuncId}{t:TypeId}{id:Id}(hc:C.lc f=some t)(hw:JE bi [(id,.box [])]=true):Cp C bi (.call f [.ptr id off]::l) (some (.iface t (.agg [.d (.int k m)]))) h=Tr C bi l h id off k m (h.get id):=by
 simp only[Cp,hc,hw,Nat.beq_refl,MK,Tr,Zl];cases h.get id with
 |none=>rfl
 |some o=>cases o with
  |box cs=>simp only;cases B9 cs off [.d (.int k m)]<;>rfl
  |_=>rfl
theorem Zm{f:FuncId}{id:Id}(hc:(C.lc f).isSome=true):Cp C bi (.call f [.ptr id off]::l) none h=Cp C bi l none h:=by
 obtain⟨t,ht⟩:=Ii.1 hc;simp only[Cp,ht]
attribute [go_sem] YH eE Tr Zl NM Zm
attribute [go_sem] J6 Gy GM GN Gd Gx appMix
attribute [go_sem] Ag b8 YM
attribute [go_sem] get_put po pn qP kL b7 b6 Z8 Option.isNone_some Option.isNone_none o9 xb il o5 o7 tB tC o0 ou s9 Zz ia ic
def nP:Option (List AU)→Option (List (List AU))→Option (List (List AU))
 |some x,some xs=>some (x::xs)
 |_,_=>none
theorem WH(x:List AU)(xs:List (List AU)):nP (some x) (some xs)=some (x::xs):=rfl
theorem fA(g:G):Cd g []=some []:=rfl
theorem QP(g:G)(v:List AV)(vs:List (List AV)):Cd g (v::vs)=nP (Ch g v) (Cd g vs):=by
 simp only[Cd];cases Ch g v<;>cases Cd g vs<;>rfl
def nI:Option AU→Option (List AU)→Option (List AU)
 |some x,some xs=>some (x::xs)
 |_,_=>none
theorem WA(x:AU)(xs:List AU):nI (some x) (some xs)=some (x::xs):=rfl
theorem ey(g:G):Ch g []=some []:=rfl
theorem QM(g:G)(v:AV)(vs:List AV):Ch g (v::vs)=nI (EW g v) (Ch g vs):=by
 simp only[Ch];cases EW g v<;>cases Ch g vs<;>rfl
def nR(off m:Nat):Option Obj→Option AU
 |some (.d6 _ es)=>(IM es off m).map .be
 |some (.it _ es)=>(IM es off m).map .be
 |_=>none
theorem nG(g:G)(id:Id)(off m:Nat):EW g (.d8 id off m)=nR off m (g id):=by
 simp only[EW];cases g id with
 |none=>rfl
 |some o=>cases o<;>rfl
theorem ZU(off m sz:Nat)(es:List (List AU)):nR off m (some (.d6 sz es))=(IM es off m).map .be:=rfl
theorem fF(off m sz:Nat)(es:List (List AU)):nR off m (some (.it sz es))=(IM es off m).map .be:=rfl
theorem QN(g:G)(l:List AU):Ch g (l.map .d)=some l:=by
 induction l with
 |nil=>rfl
 |cons x l ih=>rw[Ci,QM,ih];rfl
theorem MB(g:G)(l:List (List AU)):Cd g (l.map (·.map .d))=some l:=by
 induction l with
 |nil=>rfl
 |cons x l ih=>rw[Ci,QP,ih,QN];rfl
theorem Z2(g:G):Bb g []=[]:=rfl
theorem Ow(g:G)(v:AV)(vs:List AV):Bb g (v::vs)=Ie g v++Bb g vs:=rfl
theorem tA(g:G)(x:AU):Ie g (.d x)=[]:=rfl
theorem Z1(g:G):Ie g .ci=[]:=rfl
theorem ig(g:G):Ie g .emp=[]:=rfl
def ov(id:Id):Option Obj→AB
 |some (.d6 sz es)=>[(id,.it sz es)]
 |_=>[]
theorem ij(g:G)(id:Id)(off m:Nat):Ie g (.d8 id off m)=ov id (g id):=by
 simp only[Ie];cases g id with
 |none=>rfl
 |some o=>cases o<;>rfl
theorem Z3(id:Id)(sz:Nat)(es:List (List AU)):ov id (some (.d6 sz es))=[(id,.it sz es)]:=rfl
theorem ik(id:Id)(sz:Nat)(es:List (List AU)):ov id (some (.it sz es))=[]:=rfl
theorem Ox(g:G)(l:List AU):Bb g (l.map .d)=[]:=by
 induction l with
 |nil=>rfl
 |cons x l ih=>rw[Ci,Ow,ih];rfl
theorem Kp(g:G)(l:List (List AU)):(l.map (·.map AV.d)).flatMap (Bb g)=[]:=by
 induction l with
 |nil=>rfl
 |cons x l ih=>rw[Ci,D2,ih,Ox];rfl
def EV(sz:Nat):List (List AV)→Bool
 |[]=>true
 |e::es=>decide (e.length=sz)&&(e.all AV.isCell&&EV sz es)
theorem YB(sz:Nat):EV sz []=true:=by simp only[EV]
theorem HV(sz:Nat)(e:List AV)(es:List (List AV)):EV sz (e::es)=(decide (e.length=sz)&&(e.all AV.isCell&&EV sz es)):=by simp only[EV]
theorem MX(sz:Nat)(es:List (List AV)):(es.all fun e=>e.length==sz&&e.all AV.isCell)=EV sz es:=by
 induction es with
 |nil=>rfl
 |cons e es ih=>rw[D0,ih,HV,Bool.and_assoc];rfl
theorem Yv(l:List AU):(l.map AV.d).all AV.isCell=true:=by
 induction l with
 |nil=>rfl
 |cons x l ih=>rw[Ci,D0,ih];rfl
def yO(newId:Id)(sz n:Nat)(marks:AB):Option (List (List AU))→Option Bw
 |some ds=>some ⟨.d8 (1::newId) 0 n,marks++[(1::newId,.d6 sz ds)]⟩
 |none=>none
def pG(g:G)(newId:Id)(sz:Nat)(es:List (List AV)):Bool→Option Bw
 |true=>some ⟨.d8 (1::newId) 0 es.length,[(1::newId,.arr sz es)]⟩
 |false=>yO newId sz es.length (es.flatMap (Bb g)) (Cd g es)
def yN(g:G)(newId:Id)(sz:Nat)(mix:Bool)(es:List (List AV)):Bool→Option Bw
 |true=>pG g newId sz es mix
 |false=>none
theorem Se(g:G)(newId:Id)(j:TI)(es:List (List AV)):newArr g newId j es=yN g newId j.size j.mix es (EV j.size es&&decide (0<j.size)&&decide (es.length≤BD)):=by
 unfold newArr;rw[MX,Fc,TJ];cases(EV j.size es&&decide (0<j.size)&&decide (es.length≤BD))with
 |false=>rfl
 |true=>
  simp only[yN];cases j.mix with
  |true=>rfl
  |false=>simp only[pG];cases Cd g es<;>rfl
theorem Sd(g:G)(newId:Id)(sz:Nat)(mix:Bool)(es:List (List AV)):yN g newId sz mix es true=pG g newId sz es mix:=rfl
theorem jB(g:G)(newId:Id)(sz:Nat)(es:List (List AV)):pG g newId sz es true=some ⟨.d8 (1::newId) 0 es.length,[(1::newId,.arr sz es)]⟩:=rfl
theorem Qd(g:G)(newId:Id)(sz:Nat)(es:List (List AV)):pG g newId sz es false=yO newId sz es.length (es.flatMap (Bb g)) (Cd g es):=rfl
theorem Sf(newId:Id)(sz n:Nat)(marks:AB)(ds:List (List AU)):yO newId sz n marks (some ds)=some ⟨.d8 (1::newId) 0 n,marks++[(1::newId,.d6 sz ds)]⟩:=rfl
def Yj(g:G)(newId:Id)(j:TI)(n:Nat):Option (List AV)→Option Bw
 |some cs=>if n*j.size≤16777216∧j.zero.length=j.size then newArr g newId j (Fh j.size n cs)else none
 |none=>none
theorem RU(g:G)(newId:Id)(j:TI):Fe g newId 0 [] j=some ⟨.emp,[]⟩:=rfl
theorem RR(g:G)(newId:Id)(n:Nat)(ps:List (Nat×AV))(j:TI):Fe g newId (n+1) ps j=Yj g newId j (n+1) (CM (fun k=>some (k*j.size,j.size)) ((List.replicate (n+1) j.zero).flatten) ps):=by
 unfold Fe;cases CM (fun k=>some (k*j.size,j.size)) ((List.replicate (n+1) j.zero).flatten) ps with
 |none=>rfl
 |some cs=>
  simp only[Yj,Fc];have e:(2 ^ 24:Nat)=16777216:=by decide
  rw[e];by_cases h1:(n+1)*j.size≤16777216
  .by_cases h2:j.zero.length=j.size
   .simp[h1,h2]
   .have h3:(j.zero.length==j.size)=false:=by simpa using h2
    simp[h1,h2,h3]
  .simp[h1]
theorem U7(g:G)(newId:Id)(j:TI)(n:Nat)(cs:List AV):Yj g newId j n (some cs)=if n*j.size≤16777216∧j.zero.length=j.size then newArr g newId j (Fh j.size n cs)else none:=rfl
def lZ(s:AV):Option Bw:=match s with
 |.ci=>some ⟨.ci,[]⟩
 |.emp=>some ⟨.emp,[]⟩
 |.d8 id off n=>some ⟨.d8 id off n,[]⟩
 |_=>none
theorem dQ:lZ .ci=some ⟨.ci,[]⟩:=rfl
theorem la:lZ .emp=some ⟨.emp,[]⟩:=rfl
theorem lf(id:Id)(off n:Nat):lZ (.d8 id off n)=some ⟨.d8 id off n,[]⟩:=rfl
def wm(g:G)(newId:Id)(j:TI)(s:AV)(src:List (List AV)):Bool→Option Bw
 |true=>appTo g newId j s src
 |false=>none
def Yb(g:G)(newId:Id)(j:TI)(s:AV):Option (List (List AV))→Option Bw
 |none=>none
 |some []=>lZ s
 |some (e::es)=>wm g newId j s (e::es) (EV j.size (e::es)&&decide ((e::es).length≤BD)&&decide (0<j.size))
theorem Yf(g:G)(newId:Id)(j:TI)(s x:AV):appendV g newId j s x=Yb g newId j s (DG g x):=by
 unfold appendV;cases DG g x with
 |none=>rfl
 |some src=>
  cases src with
  |nil=>cases s<;>rfl
  |cons e es=>
   simp only[Yb,←MX,Fc,TJ];cases((e::es).all (fun e=>e.length==j.size&&e.all AV.isCell)&&decide ((e::es).length≤BD)&&decide (0<j.size))<;>rfl
theorem lU(g:G)(newId:Id)(j:TI)(s:AV):Yb g newId j s (some [])=lZ s:=rfl
theorem R1(g:G)(newId:Id)(j:TI)(s:AV)(e:List AV)(es:List (List AV)):Yb g newId j s (some (e::es))=wm g newId j s (e::es) (EV j.size (e::es)&&decide ((e::es).length≤BD)&&decide (0<j.size)):=rfl
theorem R0(g:G)(newId:Id)(j:TI)(s:AV)(src:List (List AV)):wm g newId j s src true=appTo g newId j s src:=rfl
def U2(newId:Id)(id:Id)(off n sz:Nat)(es:List (List AU))(marks:AB)(ds:List (List AU)):Option (List (List AU))→Option Bw
 |some es'=>some ⟨.d8 id off (n+ds.length),marks++[(id,.d6 sz es')]⟩
 |none=>if off=0∧n+ds.length≤BD then some ⟨.d8 (1::newId) 0 (n+ds.length),marks++[(id,.it 0 []),(1::newId,.d6 sz (es.take n++ds))]⟩else none
def wo(newId:Id)(id:Id)(off n sz:Nat)(es:List (List AU))(marks:AB):Option (List (List AU))→Option Bw
 |some ds=>if Kv id marks=true then U2 newId id off n sz es marks ds (B9 es (off+n) ds)else none
 |none=>none
theorem lV(g:G)(newId:Id)(id:Id)(off n sz:Nat)(es:List (List AU))(src:List (List AV)):appIn g newId id off n sz es src=wo newId id off n sz es (src.flatMap (Bb g)) (Cd g src):=by
 unfold appIn wo;cases Cd g src with
 |none=>rfl
 |some ds=>
  cases Kv id (src.flatMap (Bb g))with
  |false=>rfl
  |true=>
   simp only[F3,U2];cases B9 es (off+n) ds with
   |some es'=>rfl
   |none=>
    simp only[HJ,Fc];by_cases h1:off=0<;>by_cases h2:n+ds.length≤BD<;>simp[h1,h2]
theorem dN(newId:Id)(id:Id)(off n sz:Nat)(es:List (List AU))(marks:AB)(ds:List (List AU)):wo newId id off n sz es marks (some ds)=if Kv id marks=true then U2 newId id off n sz es marks ds (B9 es (off+n) ds)else none:=rfl
theorem Yd(newId:Id)(id:Id)(off n sz:Nat)(es:List (List AU))(marks:AB)(ds es':List (List AU)):U2 newId id off n sz es marks ds (some es')=some ⟨.d8 id off (n+ds.length),marks++[(id,.d6 sz es')]⟩:=rfl
theorem Yc(newId:Id)(id:Id)(off n sz:Nat)(es:List (List AU))(marks:AB)(ds:List (List AU)):U2 newId id off n sz es marks ds none=if off=0∧n+ds.length≤BD then some ⟨.d8 (1::newId) 0 (n+ds.length),marks++[(id,.it 0 []),(1::newId,.d6 sz (es.take n++ds))]⟩else none:=rfl
theorem jC(id:Id):Kv id []=true:=by simp[Kv]
def lX(g:G)(newId:Id)(j:TI)(id:Id)(off n:Nat)(src:List (List AV)):Option Obj→Option Bw
 |some (.d6 sz es)=>if sz=j.size∧off+n≤es.length then appIn g newId id off n sz es src else none
 |some (.arr sz es)=>if sz=j.size∧off+n≤es.length then appMix newId id off n sz es src else none
 |_=>none
theorem Ye(g:G)(newId:Id)(j:TI)(src:List (List AV)):appTo g newId j .ci src=newArr g newId j src:=rfl
theorem dR(g:G)(newId:Id)(j:TI)(src:List (List AV)):appTo g newId j .emp src=newArr g newId j src:=rfl
theorem dS(g:G)(newId:Id)(j:TI)(id:Id)(off n:Nat)(src:List (List AV)):appTo g newId j (.d8 id off n) src=lX g newId j id off n src (g id):=by
 simp only[appTo];cases g id with
 |none=>rfl
 |some o=>
  cases o with
  |d6 sz es=>
   simp only[lX,HJ,Fc];by_cases h1:sz=j.size<;>by_cases h2:off+n≤es.length<;>simp[h1,h2]
  |arr sz es=>
   simp only[lX,HJ,Fc];by_cases h1:sz=j.size<;>by_cases h2:off+n≤es.length<;>simp[h1,h2]
  |_=>rfl
theorem dP(g:G)(newId:Id)(j:TI)(id:Id)(off n:Nat)(src:List (List AV))(sz:Nat)(es:List (List AU)):lX g newId j id off n src (some (.d6 sz es))=if sz=j.size∧off+n≤es.length then appIn g newId id off n sz es src else none:=rfl
theorem lY(g:G)(newId:Id)(j:TI)(id:Id)(off n:Nat)(src:List (List AV))(sz:Nat)(es:List (List AV)):lX g newId j id off n src (some (.arr sz es))=if sz=j.size∧off+n≤es.length then appMix newId id off n sz es src else none:=rfl
theorem eP(g:G)(es:List (List AU)):DG g (.d (.be es))=some (es.map (·.map .d)):=rfl
theorem Y6(g:G):DG g .ci=some []:=rfl
theorem eN(g:G):DG g .emp=some []:=rfl
def vM(off n:Nat):Option Obj→Option (List (List AV))
 |some (.d6 _ es)=>IM (es.map (·.map .d)) off n
 |some (.it _ es)=>IM (es.map (·.map .d)) off n
 |some (.arr _ es)=>IM es off n
 |_=>none
theorem eR(g:G)(id:Id)(off n:Nat):DG g (.d8 id off n)=vM off n (g id):=by
 simp only[DG];cases g id with
 |none=>rfl
 |some o=>cases o<;>rfl
theorem j8(off n sz:Nat)(es:List (List AU)):vM off n (some (.d6 sz es))=IM (es.map (·.map .d)) off n:=rfl
theorem p8(off n sz:Nat)(es:List (List AU)):vM off n (some (.it sz es))=IM (es.map (·.map .d)) off n:=rfl
theorem p7(off n sz:Nat)(es:List (List AV)):vM off n (some (.arr sz es))=IM es off n:=rfl
def oh(ok:Bool)(r:Option AV):Option TI→Option Bw
 |some j=>J4 ok r j
 |none=>none
def cg(T:TypeId→Option TI)(i:TI)(ok:Bool):Option (Option AV)→Option Bw
 |some r=>oh ok r (T i.elem)
 |none=>none
def cf(T:TypeId→Option TI)(x:AU)(ok:Bool)(i:TI):Option Obj→Option Bw
 |some (.map es)=>cg T i ok (Cb es x)
 |_=>none
def cd(T:TypeId→Option TI)(g:G)(id:Id)(x:AU)(ok:Bool)(i:TI):Bool→Option Bw
 |true=>cf T x ok i (g id)
 |false=>none
def od(T:TypeId→Option TI)(g:G)(id:Id)(x:AU)(ok:Bool)(i:TI):TK→Option TI→Option Bw
 |.map,some kt=>cd T g id x ok i (Ia kt.kind x)
 |_,_=>none
theorem XC(T:TypeId→Option TI)(g:G)(id:Id)(x:AU)(ok:Bool)(i:TI):Ef T g (.mp id) (.d x) ok (some i)=od T g id x ok i i.kind (T i.key):=by
 unfold Ef;simp only[KZ];cases hk:i.kind with
 |map=>
  cases T i.key with
  |none=>rfl
  |some kt=>
   simp only[od];cases Ia kt.kind x with
   |false=>rfl
   |true=>
    simp only[cd];cases g id with
    |none=>rfl
    |some o=>
     cases o with
     |map es=>
      simp only[cf];cases Cb es x with
      |none=>rfl
      |some r=>
       simp only[cg];cases T i.elem<;>rfl
     |_=>rfl
 |_=>rfl
theorem iJ(T:TypeId→Option TI)(g:G)(id:Id)(x:AU)(ok:Bool)(i kt:TI):od T g id x ok i .map (some kt)=cd T g id x ok i (Ia kt.kind x):=rfl
theorem Zp(T:TypeId→Option TI)(g:G)(id:Id)(x:AU)(ok:Bool)(i:TI):cd T g id x ok i true=cf T x ok i (g id):=rfl
theorem iK(T:TypeId→Option TI)(x:AU)(ok:Bool)(i:TI)(es:List (AU×AV)):cf T x ok i (some (.map es))=cg T i ok (Cb es x):=rfl
theorem Zq(T:TypeId→Option TI)(ok:Bool)(i:TI)(r:Option AV):cg T i ok (some r)=oh ok r (T i.elem):=rfl
theorem Zr(ok:Bool)(r:Option AV)(j:TI):oh ok r (some j)=J4 ok r j:=rfl
theorem oe(v:AV)(j:TI):J4 false (some v) j=some ⟨v,[]⟩:=by
 unfold J4;cases Ev j.agg j.zero<;>rfl
def oj(ok:Bool):Option AV→Option Bw
 |some z=>match ok with
  |true=>some ⟨.f8 [z,.d (.bool false)],[]⟩
  |false=>some ⟨z,[]⟩
 |none=>none
theorem og(ok:Bool)(j:TI):J4 ok none j=oj ok (Ev j.agg j.zero):=by
 unfold J4;cases Ev j.agg j.zero<;>cases ok<;>rfl
theorem s6(z:AV):oj true (some z)=some ⟨.f8 [z,.d (.bool false)],[]⟩:=rfl
theorem s5(z:AV):oj false (some z)=some ⟨z,[]⟩:=rfl
theorem Zv(x:AU):Cb [] x=some none:=rfl
attribute [go_sem] XC iJ Zp iK Zq Zr oe og s6 s5 Ia Zv
variable{g:G}
theorem br{l:List α}(hf: ∀a,(f a).length=sz)(h0:0≤m)(hm:m≤l.length):GU g .slice sz (.d (.be (l.map f))) none (some (.d (.int k m))) none=some (.d (.be ((l.take m.toNat).map f))):=by
 have hb:FL none (some (.d (.int k m))) none (l.map f).length=some (0,m.toNat,none):=by
  simp[FL,Jl,Kj,h0]
 have he:LN sz (l.map f)=true:=by
  cases l with
  |nil=>rfl
  |cons a l=>simp only[Ci,LN,HJ,As];exact hf a
 show OU sz (l.map f) (FL none (some (.d (.int k m))) none (l.map f).length)=_;rw[hb];have hr:Nat.ble m.toNat (l.map f).length=true:=by rw[Fc];simp;omega
 simp only[OU,hr,he,No,List.drop_zero,Nat.sub_zero,List.map_take]
def stP(id:Id)(off:Nat)(cells:List AV):Option Obj→Option Bw
 |some (.box cs)=>(B9 cs off cells).map fun cs'=>⟨.undef,[(id,.box cs')]⟩
 |_=>none
def stD(id:Id)(k off sz:Nat)(es:List (List AU))(marks:AB):Option (List AU)→Option (List AU)→Option Bw
 |some e,some ds=>if Kv id marks=true then(B9 e off ds).map fun e'=>⟨.undef,marks++[(id,.d6 sz (es.set k e'))]⟩else none
 |_,_=>none
def stA(id:Id)(k off sz:Nat)(es:List (List AV))(cells:List AV):Option (List AV)→Option Bw
 |some e=>(B9 e off cells).map fun e'=>⟨.undef,[(id,.arr sz (es.set k e'))]⟩
 |none=>none
def stE(g:G)(id:Id)(k off:Nat)(cells:List AV):Option Obj→Option Bw
 |some (.d6 sz es)=>stD id k off sz es (Bb g cells) es[k]? (Ch g cells)
 |some (.arr sz es)=>stA id k off sz es cells es[k]?
 |_=>none
theorem kG(g:G)(i:TI)(id:Id)(off:Nat)(v:AV):IG g i (.ptr id off) v=if v.cells.length=i.size∧v.cells.all AV.isCell=true then stP id off v.cells (g id)else none:=by
 unfold IG;by_cases h:v.cells.length=i.size∧v.cells.all AV.isCell=true
 .have:(v.cells.length==i.size&&v.cells.all AV.isCell)=true:=by simp[h.1,h.2]
  rw[this,D7 h];simp only;cases g id with
  |none=>rfl
  |some o=>cases o<;>rfl
 .have:(v.cells.length==i.size&&v.cells.all AV.isCell)=false:=by
   rw[On];by_cases h1:v.cells.length=i.size
   .exact .inr (by simpa using fun h2=>h ⟨h1,h2⟩)
   .exact .inl (by simpa using h1)
  rw[this,D3 h]
theorem b5(g:G)(i:TI)(id:Id)(k off:Nat)(v:AV):IG g i (.ip id k off) v=if v.cells.length=i.size∧v.cells.all AV.isCell=true then stE g id k off v.cells (g id)else none:=by
 unfold IG;by_cases h:v.cells.length=i.size∧v.cells.all AV.isCell=true
 .have:(v.cells.length==i.size&&v.cells.all AV.isCell)=true:=by simp[h.1,h.2]
  rw[this,D7 h];simp only;cases g id with
  |none=>rfl
  |some o=>
   cases o with
   |d6 sz es=>
    simp only[stE,stD];cases es[k]? with
    |none=>cases Ch g v.cells<;>rfl
    |some e=>
     cases Ch g v.cells with
     |none=>rfl
     |some ds=>cases Kv id (Bb g v.cells)<;>rfl
   |arr sz es=>
    simp only[stE,stA];cases es[k]? <;>rfl
   |_=>rfl
 .have:(v.cells.length==i.size&&v.cells.all AV.isCell)=false:=by
   rw[On];by_cases h1:v.cells.length=i.size
   .exact .inr (by simpa using fun h2=>h ⟨h1,h2⟩)
   .exact .inl (by simpa using h1)
  rw[this,D3 h]
theorem vQ(id:Id)(off:Nat)(cells cs:List AV):stP id off cells (some (.box cs))=(B9 cs off cells).map fun cs'=>⟨.undef,[(id,.box cs')]⟩:=rfl
theorem qK(g:G)(id:Id)(k off sz:Nat)(cells:List AV)(es:List (List AU)):stE g id k off cells (some (.d6 sz es))=stD id k off sz es (Bb g cells) es[k]? (Ch g cells):=rfl
theorem vP(g:G)(id:Id)(k off sz:Nat)(cells:List AV)(es:List (List AV)):stE g id k off cells (some (.arr sz es))=stA id k off sz es cells es[k]? :=rfl
theorem qJ(id:Id)(k off sz:Nat)(es:List (List AU))(marks:AB)(e ds:List AU):stD id k off sz es marks (some e) (some ds)=if Kv id marks=true then(B9 e off ds).map fun e'=>⟨.undef,marks++[(id,.d6 sz (es.set k e'))]⟩else none:=rfl
theorem qI(id:Id)(k off sz:Nat)(es:List (List AV))(cells e:List AV):stA id k off sz es cells (some e)=(B9 e off cells).map fun e'=>⟨.undef,[(id,.arr sz (es.set k e'))]⟩:=rfl
attribute [go_sem] kG b5 vQ qK vP qJ qI
def mkS(g:G)(newId:Id)(n:Int):TK→Option TI→Option Bw
 |.slice,some j=>if 0≤n∧n≤BD then FG g newId n.toNat j else none
 |_,_=>none
theorem s8(T:TypeId→Option TI)(g:G)(newId:Id)(k k':IntKind)(n:Int)(i:TI):CR T g newId (.d (.int k n)) (.d (.int k' n)) (some i)=mkS g newId n i.kind (T i.elem):=by
 obtain⟨kd,sz,ag,st,z,fl,el,ky,mx⟩:=i;unfold CR;simp only;cases kd with
 |slice=>
  cases T el with
  |none=>rfl
  |some j=>simp only[mkS,RX]
 |_=>rfl
theorem xg(g:G)(newId:Id)(n:Int)(j:TI):mkS g newId n .slice (some j)=if 0≤n∧n≤BD then FG g newId n.toNat j else none:=rfl
def qu:List AV→Option (List AU)
 |[]=>some []
 |.d x::l=>(qu l).map (x:: ·)
 |_=>none
theorem Uz: ∀{l:List AV} {ds:List AU},qu l=some ds→l=ds.map .d
 |[],ds,h=>by cases h;rfl
 |v::l,ds,h=>by
  cases v<;>simp[qu]at h;obtain⟨ds',h1,rfl⟩:=h;rw[Uz h1];rfl
theorem N8{newId:Id}{n:Nat}{j:TI}{zs:List AU}(hn:0<n)(hmax:n≤BD)(hz:qu j.zero=some zs)(hl:j.zero.length=j.size)(h0:0<j.size)(hm:j.mix=false):FG g newId n j=some ⟨.d8 (1::newId) 0 n,[(1::newId,.d6 j.size (List.replicate n zs))]⟩:=by
 obtain⟨m,rfl⟩: ∃m,n=m+1:=⟨n-1,by omega⟩;have e:=Uz hz;have e2:List.replicate (m+1) j.zero=(List.replicate (m+1) zs).map (·.map AV.d):=by rw[Mt,e]
 show newArr g newId j (List.replicate (m+1) j.zero)=_;rw[Se,e2];have h1:EV j.size ((List.replicate (m+1) zs).map (·.map AV.d))=true:=by
  have hz2:zs.length=j.size:=by rw[←hl,e];simp
  generalize m+1=k;induction k with
  |zero=>simp[EV]
  |succ k ih=>rw[List.replicate_succ,Ci,HV,ih,Yv,Bi,hz2];simp
 rw[h1,DO h0];have h2:((List.replicate (m+1) zs).map (·.map AV.d)).length≤BD:=by simpa using hmax
 rw[DO h2,hm];simp only[No,Sd,Qd,MB,Kp,Sf,Ex,Bi,It]
theorem iW(g:G)(newId:Id)(j:TI):FG g newId 0 j=some ⟨.emp,[]⟩:=rfl
theorem NK{n:Nat}(h:n≤1073741824):((n:Int)≤(BD:Int))=True:=eq_true (by unfold BD;omega)
attribute [go_sem] s8 xg iW Nat.zero_add
attribute [go_sem] Option.map_none WH fA QP WA ey QM nG ZU fF QN MB Z2 Ow tA Z1 ig ij Z3 ik Ox Kp YB HV Se Sd jB Qd Sf RU RR U7 dQ la lf Yf lU R1 R0 lV dN Yd Yc jC Ye dR dS dP lY eP Y6 eN eR j8 p8 p7 Nat.one_mul Nat.mul_one Nat.reduceMul
end Go.Abs
namespace Go.Proofs
open Go Go.Abs
theorem T3:cfg.T 3=(.some ⟨.int,1,false,false,[(.d (.int .i64 0))],[],0,0,false⟩):=by kernel_rfl
theorem T4:cfg.T 4=(.some ⟨.bool,1,false,false,[(.d (.bool false))],[],0,0,false⟩):=by kernel_rfl
theorem T5:cfg.T 5=(.some ⟨.int,1,false,false,[(.d (.int .u8 0))],[],0,0,false⟩):=by kernel_rfl
theorem T9:cfg.T 9=(.some ⟨.str,1,false,false,[(.d (.str ⟨#[]⟩))],[],0,0,false⟩):=by kernel_rfl
theorem T22:cfg.T 22=(.some ⟨.slice,1,false,false,[.ci],[],9,0,false⟩):=by kernel_rfl
theorem T23:cfg.T 23=(.some ⟨.slice,1,false,false,[.ci],[],140,0,false⟩):=by kernel_rfl
theorem T24:cfg.T 24=(.some ⟨.slice,1,false,false,[.ci],[],147,0,false⟩):=by kernel_rfl
theorem T26:cfg.T 26=(.some ⟨.other,4,true,true,[.ci,.ci,.ci,(.d (.int .i64 0))],[(0,1,false),(1,1,false),(2,1,false),(3,1,false)],0,0,false⟩):=by kernel_rfl
theorem T27:cfg.T 27=(.some ⟨.slice,1,false,false,[.ci],[],66,0,false⟩):=by kernel_rfl
theorem T28:cfg.T 28=(.some ⟨.slice,1,false,false,[.ci],[],114,0,false⟩):=by kernel_rfl
theorem T29:cfg.T 29=(.some ⟨.slice,1,false,false,[.ci],[],69,0,false⟩):=by kernel_rfl
theorem T30:cfg.T 30=(.some ⟨.slice,1,false,false,[.ci],[],127,0,false⟩):=by kernel_rfl
theorem T32:cfg.T 32=(.some ⟨.other,4,true,true,[.ci,.ci,.ci,.ci],[(0,1,false),(1,1,false),(2,1,false),(3,1,false)],0,0,false⟩):=by kernel_rfl
theorem T33:cfg.T 33=(.some ⟨.int,1,false,false,[(.d (.int .i64 0))],[],0,0,false⟩):=by kernel_rfl
theorem T36:cfg.T 36=(.some ⟨.slice,1,false,false,[.ci],[],3,0,false⟩):=by kernel_rfl
theorem T44:cfg.T 44=(.some ⟨.slice,1,false,false,[.ci],[],78,0,false⟩):=by kernel_rfl
theorem T66:cfg.T 66=(.some ⟨(.flat [.int,.bool]),2,true,true,[(.d (.int .i64 0)),(.d (.bool false))],[(0,1,false),(1,1,false)],0,0,false⟩):=by kernel_rfl
theorem T67:cfg.T 67=(.some ⟨.slice,1,false,false,[.ci],[],73,0,false⟩):=by kernel_rfl
theorem T69:cfg.T 69=(.some ⟨.other,4,true,true,[(.d (.int .i64 0)),(.d (.int .i64 0)),(.d (.int .i64 0)),.ci],[(0,1,false),(1,1,false),(2,1,false),(3,1,false)],0,0,true⟩):=by kernel_rfl
theorem T71:cfg.T 71=(.some ⟨.slice,1,false,false,[.ci],[],88,0,false⟩):=by kernel_rfl
theorem T73:cfg.T 73=(.some ⟨.other,1,true,true,[.ci],[(0,1,false)],0,0,false⟩):=by kernel_rfl
theorem T76:cfg.T 76=(.some ⟨.int,1,false,false,[(.d (.int .i64 0))],[],0,0,false⟩):=by kernel_rfl
theorem T78:cfg.T 78=(.some ⟨.other,5,true,true,[(.d (.int .i64 0)),(.d (.int .i64 0)),(.d (.int .i64 0)),(.d (.int .i64 0)),.ci],[(0,1,false),(1,1,false),(2,1,false),(3,1,false),(4,1,false)],0,0,false⟩):=by kernel_rfl
theorem T82:cfg.T 82=(.some ⟨.int,1,false,false,[(.d (.int .i64 0))],[],0,0,false⟩):=by kernel_rfl
theorem T83:cfg.T 83=(.some ⟨.slice,1,false,false,[.ci],[],85,0,false⟩):=by kernel_rfl
theorem T85:cfg.T 85=(.some ⟨.other,3,true,true,[(.d (.int .i64 0)),(.d (.int .i64 0)),.ci],[(0,1,false),(1,1,false),(2,1,false)],0,0,false⟩):=by kernel_rfl
theorem T86:cfg.T 86=(.some ⟨.int,1,false,false,[(.d (.int .i64 0))],[],0,0,false⟩):=by kernel_rfl
theorem T88:cfg.T 88=(.some ⟨(.flat [.int,.int]),2,true,true,[(.d (.int .i64 0)),(.d (.int .i64 0))],[(0,1,false),(1,1,false)],0,0,false⟩):=by kernel_rfl
theorem AAk:cfg.T 114=(.some ⟨.other,3,true,true,[(.d (.int .i64 0)),(.d (.int .i64 0)),.ci],[(0,1,false),(1,1,false),(2,1,false)],0,0,false⟩):=by kernel_rfl
theorem AAl:cfg.T 122=(.some ⟨.map,1,false,false,[(.d .nl)],[],198,138,false⟩):=by kernel_rfl
theorem AAm:cfg.T 124=(.some ⟨.other,13,true,true,[.ci,.ci,.ci,.ci,.ci,.ci,.ci,(.d (.int .i64 0)),.ci,.ci,(.d .nl),.ci,(.d (.int .i64 0))],[(0,4,true),(4,4,true),(8,1,false),(9,1,false),(10,1,false),(11,1,false),(12,1,false)],0,0,false⟩):=by kernel_rfl
theorem AAn:cfg.T 127=(.some ⟨.other,3,true,true,[(.d (.int .i64 0)),(.d (.int .i64 0)),.ci],[(0,1,false),(1,1,false),(2,1,false)],0,0,false⟩):=by kernel_rfl
theorem AAo:cfg.T 138=(.some ⟨.int,1,false,false,[(.d (.int .i64 0))],[],0,0,false⟩):=by kernel_rfl
theorem AAp:cfg.T 140=(.some ⟨.other,4,true,true,[(.d (.int .i64 0)),(.d (.int .i64 0)),.ci,.ci],[(0,1,false),(1,1,false),(2,1,false),(3,1,false)],0,0,false⟩):=by kernel_rfl
theorem AAq:cfg.T 143=(.some ⟨.slice,1,false,false,[.ci],[],187,0,false⟩):=by kernel_rfl
theorem AAr:cfg.T 144=(.some ⟨.slice,1,false,false,[.ci],[],189,0,false⟩):=by kernel_rfl
theorem AAs:cfg.T 145=(.some ⟨.slice,1,false,false,[.ci],[],151,0,false⟩):=by kernel_rfl
theorem AAt:cfg.T 147=(.some ⟨.other,3,true,true,[.ci,.ci,.ci],[(0,1,false),(1,1,false),(2,1,false)],0,0,false⟩):=by kernel_rfl
theorem AAu:cfg.T 151=(.some ⟨.other,3,true,true,[(.d (.int .i64 0)),.ci,(.d (.int .i64 0))],[(0,1,false),(1,1,false),(2,1,false)],0,0,false⟩):=by kernel_rfl
theorem AAv:cfg.T 162=(.some ⟨.other,8,true,true,[.ci,.ci,.ci,(.d (.int .i64 0)),.ci,.ci,.ci,(.d (.bool false))],[(0,4,true),(4,1,false),(5,1,false),(6,1,false),(7,1,false)],0,0,false⟩):=by kernel_rfl
theorem AAw:cfg.T 171=(.some ⟨.other,11,true,true,[.ci,.ci,.ci,(.d (.int .i64 0)),.ci,.ci,.ci,.ci,.ci,(.d (.int .i64 0)),(.d (.bool false))],[(0,4,true),(4,4,true),(8,1,false),(9,1,false),(10,1,false)],0,0,false⟩):=by kernel_rfl
theorem AAx:cfg.T 177=(.some ⟨(.flat [.int]),1,true,true,[(.d (.int .i64 0))],[(0,1,false)],0,0,false⟩):=by kernel_rfl
theorem AAy:cfg.T 187=(.some ⟨(.flat [.int,.int]),2,true,true,[(.d (.int .i64 0)),(.d (.int .i64 0))],[(0,1,false),(1,1,false)],0,0,false⟩):=by kernel_rfl
theorem AAz:cfg.T 189=(.some ⟨(.flat [.int,.int]),2,true,true,[(.d (.int .i64 0)),(.d (.int .i64 0))],[(0,1,false),(1,1,false)],0,0,false⟩):=by kernel_rfl
theorem AA0:cfg.T 198=(.some ⟨.func,1,false,false,[(.d .i7)],[],0,0,false⟩):=by kernel_rfl
theorem AA1:cfg.T 201=(.some ⟨.other,3,true,true,[(.d (.int .i64 0)),(.d (.int .i64 0)),.ci],[(0,1,false),(1,1,false),(2,1,false)],0,0,false⟩):=by kernel_rfl
theorem AA2:cfg.T 246=(.some ⟨.slice,1,false,false,[.ci],[],4,0,false⟩):=by kernel_rfl
theorem AA3:cfg.T 248=(.some ⟨.other,7,true,true,[.ci,.ci,.ci,(.d (.int .i64 0)),.ci,.ci,.ci],[(0,4,true),(4,1,false),(5,1,false),(6,1,false)],0,0,false⟩):=by kernel_rfl
theorem AA4:cfg.T 249=(.some ⟨.func,1,false,false,[(.d .i7)],[],0,0,false⟩):=by kernel_rfl
theorem AA5:cfg.T 289=(.some ⟨(.flat [.int]),1,true,true,[(.d (.int .i64 0))],[(0,1,false)],0,0,false⟩):=by kernel_rfl
theorem wa:cfg.T 300=(.some ⟨.map,1,false,false,[(.d .nl)],[],4,9,false⟩):=by kernel_rfl
theorem AA6:cfg.T 303=(.some ⟨.iface,1,false,false,[(.d .i9)],[],0,0,false⟩):=by kernel_rfl
theorem AA7:cfg.T 307=(.some ⟨(.flat []),0,true,true,[],[],0,0,false⟩):=by kernel_rfl
theorem AA8:cfg.T 308=(.some ⟨(.flat []),0,true,true,[],[],0,0,false⟩):=by kernel_rfl
theorem AA9:cfg.T 309=(.some ⟨(.flat []),0,true,true,[],[],0,0,false⟩):=by kernel_rfl
theorem ABA:cfg.T 310=(.some ⟨(.flat []),0,true,true,[],[],0,0,false⟩):=by kernel_rfl
theorem ABB:cfg.T 311=(.some ⟨.func,1,false,false,[(.d .i7)],[],0,0,false⟩):=by kernel_rfl
theorem ABC:cfg.T 314=(.some ⟨.int,1,false,false,[(.d (.int .i64 0))],[],0,0,false⟩):=by kernel_rfl
theorem wb:cfg.T 315=(.some ⟨.map,1,false,false,[(.d .nl)],[],4,3,false⟩):=by kernel_rfl
theorem xh:cfg.mode 20=.auto:=by kernel_rfl
theorem xi:cfg.mode 23=.auto:=by kernel_rfl
theorem jH:cfg.co 23 6=[]:=by kernel_rfl
theorem aq:cfg.co 23 11=[]:=by kernel_rfl
theorem ay:cfg.co 23 16=[]:=by kernel_rfl
theorem a8:cfg.co 23 21=[]:=by kernel_rfl
theorem n9:cfg.live 23 0=[2,3,5]:=by kernel_rfl
theorem oA:cfg.live 23 2=[2,3,6]:=by kernel_rfl
theorem oB:cfg.live 23 4=[2,3,7]:=by kernel_rfl
theorem oC:cfg.live 23 6=[2,3,8]:=by kernel_rfl
theorem xj:cfg.mode 24=.auto:=by kernel_rfl
theorem jI:cfg.co 24 6=[]:=by kernel_rfl
theorem oD:cfg.live 24 0=[0,1,5]:=by kernel_rfl
theorem xl:cfg.mode 31=.auto:=by kernel_rfl
theorem a9:cfg.co 31 11=[(7,8)]:=by kernel_rfl
theorem oE:cfg.live 31 0=[1,2,3,4,5,6,18,19]:=by kernel_rfl
theorem xm:cfg.mode 37=.auto:=by kernel_rfl
theorem jJ:cfg.co 37 6=[]:=by kernel_rfl
theorem oG:cfg.live 37 0=[0,1,5]:=by kernel_rfl
theorem xp:cfg.mode 39=.auto:=by kernel_rfl
theorem xq:cfg.mode 40=.auto:=by kernel_rfl
theorem xr:cfg.mode 44=.auto:=by kernel_rfl
theorem xu:cfg.mode 46=.auto:=by kernel_rfl
theorem oH:cfg.live 46 0=[1,2,5,6,7]:=by kernel_rfl
theorem xv:cfg.mode 51=.own:=by kernel_rfl
theorem xw:cfg.mode 57=.auto:=by kernel_rfl
theorem jK:cfg.co 57 6=[]:=by kernel_rfl
theorem oI:cfg.live 57 0=[0,1,5]:=by kernel_rfl
theorem xx:cfg.mode 58=.auto:=by kernel_rfl
theorem xy:cfg.mode 61=.auto:=by kernel_rfl
theorem oJ:cfg.live 61 0=[0,17,18]:=by kernel_rfl
theorem oM:cfg.live 61 2=[0,3,4,17,18]:=by kernel_rfl
theorem xz:cfg.mode 62=.auto:=by kernel_rfl
theorem yA:cfg.mode 65=.own:=by kernel_rfl
theorem jL:cfg.co 65 3=[(0,5)]:=by kernel_rfl
theorem jM:cfg.co 65 8=[]:=by kernel_rfl
theorem oO:cfg.live 65 0=[3,5,25,26,27]:=by kernel_rfl
theorem yB:cfg.mode 66=.auto:=by kernel_rfl
theorem jN:cfg.co 66 2=[]:=by kernel_rfl
theorem yC:cfg.mode 75=.auto:=by kernel_rfl
theorem jO:cfg.co 75 6=[(5,8),(6,8),(5,9),(6,9),(5,10),(6,10)]:=by kernel_rfl
theorem yD:cfg.mode 76=.auto:=by kernel_rfl
theorem yE:cfg.mode 77=.auto:=by kernel_rfl
theorem yF:cfg.mode 78=.auto:=by kernel_rfl
theorem jQ:cfg.co 78 6=[(5,8),(6,8),(5,9),(6,9),(5,10),(6,10)]:=by kernel_rfl
theorem yG:cfg.mode 83=.own:=by kernel_rfl
theorem jR:cfg.co 83 8=[]:=by kernel_rfl
theorem bA:cfg.co 83 13=[(6,8),(6,9),(4,10),(5,10),(6,10),(6,12),(10,12),(6,13),(10,13),(4,14),(5,14),(6,14),(8,14),(9,14),(10,14),(8,17),(9,17),(10,17),(12,17),(13,17),(14,17),(12,20),(13,20),(14,20)]:=by kernel_rfl
theorem oQ:cfg.live 83 0=[1,3,4]:=by kernel_rfl
theorem oT:cfg.live 83 2=[1,3,5]:=by kernel_rfl
theorem oU:cfg.live 83 4=[3,6]:=by kernel_rfl
theorem oV:cfg.live 83 6=[3,7]:=by kernel_rfl
theorem yH:cfg.mode 87=.auto:=by kernel_rfl
theorem bB:cfg.co 87 19=[(5,9),(5,11)]:=by kernel_rfl
theorem yI:cfg.mode 88=.auto:=by kernel_rfl
theorem jS:cfg.co 88 3=[(7,8)]:=by kernel_rfl
theorem yJ:cfg.mode 91=.ro:=by kernel_rfl
theorem jT:cfg.co 91 5=[]:=by kernel_rfl
theorem bC:cfg.co 91 11=[]:=by kernel_rfl
theorem bD:cfg.co 91 13=[]:=by kernel_rfl
theorem bF:cfg.co 91 14=[(4,9),(6,9),(7,9),(8,9)]:=by kernel_rfl
theorem bG:cfg.co 91 30=[(12,17)]:=by kernel_rfl
theorem bH:cfg.co 91 31=[]:=by kernel_rfl
theorem bJ:cfg.co 91 38=[]:=by kernel_rfl
theorem bK:cfg.co 91 45=[]:=by kernel_rfl
theorem bL:cfg.co 91 46=[]:=by kernel_rfl
theorem bM:cfg.co 91 51=[]:=by kernel_rfl
theorem oW:cfg.live 91 0=[0,65,66,67]:=by kernel_rfl
theorem oX:cfg.live 91 2=[0,4,5,92,93,94]:=by kernel_rfl
theorem oY:cfg.live 91 4=[0,4,5,6,7,8,9,92,93,94,155,156]:=by kernel_rfl
theorem oZ:cfg.live 91 6=[0,4,5,6,7,8,9,92,93,94,172,173]:=by kernel_rfl
theorem oc:cfg.live 91 8=[0,4,5,6,7,8,92,93,94,192,193,194]:=by kernel_rfl
theorem iE:cfg.live 91 10=[0,4,5,6,7,8,13,92,93,94,192,193,194,255,256,257]:=by kernel_rfl
theorem iG:cfg.live 91 12=[0,303,304,305]:=by kernel_rfl
theorem TG:cfg.alone 91 5 15=true:=by kernel_rfl
theorem RI:cfg.alone 91 11 14=true:=by kernel_rfl
theorem RJ:cfg.alone 91 13 11=true:=by kernel_rfl
theorem RK:cfg.alone 91 30 20=true:=by kernel_rfl
theorem RL:cfg.alone 91 31 23=true:=by kernel_rfl
theorem RM:cfg.alone 91 45 27=true:=by kernel_rfl
theorem RN:cfg.alone 91 51 11=true:=by kernel_rfl
theorem yK:cfg.mode 92=.own:=by kernel_rfl
theorem jU:cfg.co 92 1=[(2,4),(2,7),(5,7),(2,10),(5,10),(8,10)]:=by kernel_rfl
theorem yL:cfg.mode 94=.ro:=by kernel_rfl
theorem yM:cfg.mode 95=.ro:=by kernel_rfl
theorem jV:cfg.co 95 1=[(4,9),(6,9),(7,9),(8,9)]:=by kernel_rfl
theorem tF:cfg.mode 103=.auto:=by kernel_rfl
theorem aI:cfg.co 103 0=[(4,10),(4,12)]:=by kernel_rfl
theorem tG:cfg.mode 107=.auto:=by kernel_rfl
theorem tH:cfg.mode 109=.auto:=by kernel_rfl
theorem tI:cfg.mode 110=.auto:=by kernel_rfl
theorem aJ:cfg.co 110 1=[(4,9),(6,9),(7,9),(8,9)]:=by kernel_rfl
theorem XH:cfg.co 110 13=[]:=by kernel_rfl
theorem XI:cfg.co 110 14=[]:=by kernel_rfl
theorem fm:cfg.live 110 0=[0,3,4,5,20,21,22]:=by kernel_rfl
theorem tJ:cfg.mode 111=.auto:=by kernel_rfl
theorem aK:cfg.co 111 1=[]:=by kernel_rfl
theorem fo:cfg.live 111 0=[0,3,15,16,17]:=by kernel_rfl
theorem tK:cfg.mode 112=.auto:=by kernel_rfl
theorem aL:cfg.co 112 1=[(4,9),(6,9),(7,9),(8,9)]:=by kernel_rfl
theorem aN:cfg.co 112 2=[(4,9),(6,9),(7,9),(8,9)]:=by kernel_rfl
theorem aO:cfg.co 112 3=[(1,6),(3,6),(1,8),(3,8),(5,8),(6,8)]:=by kernel_rfl
theorem aQ:cfg.co 112 7=[(1,11)]:=by kernel_rfl
theorem XJ:cfg.co 112 12=[(1,11)]:=by kernel_rfl
theorem XK:cfg.co 112 17=[(5,17),(10,17),(11,17),(5,19)]:=by kernel_rfl
theorem XL:cfg.co 112 22=[(5,10),(5,12)]:=by kernel_rfl
theorem XM:cfg.co 112 24=[(5,7)]:=by kernel_rfl
theorem XN:cfg.co 112 31=[(2,7),(7,9)]:=by kernel_rfl
theorem XO:cfg.co 112 33=[]:=by kernel_rfl
theorem fq:cfg.live 112 0=[0,3,4,5,6,43,44]:=by kernel_rfl
theorem ft:cfg.live 112 2=[0,3,4,5,6,64,65]:=by kernel_rfl
theorem fu:cfg.live 112 4=[0,3,4,5,6,84,85,86]:=by kernel_rfl
theorem fw:cfg.live 112 6=[0,3,4,5,6,117,118,119]:=by kernel_rfl
theorem fx:cfg.live 112 8=[0,3,4,6,175,176,177]:=by kernel_rfl
theorem Pq:cfg.alone 112 31 10=true:=by kernel_rfl
theorem RB:cfg.alone 112 33 9=true:=by kernel_rfl
theorem tL:cfg.mode 113=.auto:=by kernel_rfl
theorem aR:cfg.co 113 1=[(4,9),(6,9),(7,9),(8,9)]:=by kernel_rfl
theorem aU:cfg.co 113 2=[(2,9),(2,10),(2,12),(9,16),(10,16),(12,16),(9,18),(10,18),(12,18)]:=by kernel_rfl
theorem RE:cfg.alone 113 2 19=true:=by kernel_rfl
theorem tM:cfg.mode 114=.auto:=by kernel_rfl
theorem aV:cfg.co 114 1=[(5,12),(7,12),(9,12),(5,14)]:=by kernel_rfl
theorem tN:cfg.mode 118=.auto:=by kernel_rfl
theorem tP:cfg.mode 119=.auto:=by kernel_rfl
theorem tQ:cfg.mode 120=.auto:=by kernel_rfl
theorem tR:cfg.mode 121=.auto:=by kernel_rfl
theorem fy:cfg.live 121 0=[1,2,5,6]:=by kernel_rfl
theorem tS:cfg.mode 122=.auto:=by kernel_rfl
theorem fz:cfg.live 122 0=[1,3,4]:=by kernel_rfl
theorem tT:cfg.mode 123=.auto:=by kernel_rfl
theorem tU:cfg.mode 124=.auto:=by kernel_rfl
theorem tV:cfg.mode 127=.auto:=by kernel_rfl
theorem gB:cfg.live 127 0=[0,3]:=by kernel_rfl
theorem tW:cfg.mode 128=.auto:=by kernel_rfl
theorem aW:cfg.co 128 6=[]:=by kernel_rfl
theorem XP:cfg.co 128 24=[]:=by kernel_rfl
theorem gD:cfg.live 128 0=[1,3]:=by kernel_rfl
theorem gF:cfg.live 128 2=[1,4]:=by kernel_rfl
theorem gH:cfg.live 128 4=[1,5,6]:=by kernel_rfl
theorem gI:cfg.live 128 6=[1,5,6,7,8]:=by kernel_rfl
theorem gJ:cfg.live 128 8=[1,5,6,7,8,9,10]:=by kernel_rfl
theorem Zo:cfg.live 128 10=[5,11]:=by kernel_rfl
theorem tX:cfg.mode 129=.auto:=by kernel_rfl
theorem XQ:cfg.co 129 20=[]:=by kernel_rfl
theorem XR:cfg.co 129 22=[]:=by kernel_rfl
theorem XT:cfg.co 129 23=[]:=by kernel_rfl
theorem XU:cfg.co 129 24=[]:=by kernel_rfl
theorem gK:cfg.live 129 0=[0,2,6,10]:=by kernel_rfl
theorem gL:cfg.live 129 3=[0,6,11,12]:=by kernel_rfl
theorem tZ:cfg.mode 143=.auto:=by kernel_rfl
theorem aX:cfg.co 143 8=[(4,10)]:=by kernel_rfl
theorem XV:cfg.co 143 10=[(4,9),(6,9),(7,9),(8,9)]:=by kernel_rfl
theorem XW:cfg.co 143 11=[(4,9),(6,9),(7,9),(8,9)]:=by kernel_rfl
theorem XX:cfg.co 143 12=[]:=by kernel_rfl
theorem XY:cfg.co 143 13=[(4,11),(6,11),(8,11),(4,12),(6,12)]:=by kernel_rfl
theorem gM:cfg.live 143 0=[0,2,3,5,8,9]:=by kernel_rfl
theorem tb:cfg.mode 144=.auto:=by kernel_rfl
theorem aY:cfg.co 144 1=[(4,9),(6,9),(7,9),(8,9)]:=by kernel_rfl
theorem aZ:cfg.co 144 2=[(1,4),(1,6),(4,6)]:=by kernel_rfl
theorem aa:cfg.co 144 6=[(1,11)]:=by kernel_rfl
theorem XZ:cfg.co 144 10=[(1,11)]:=by kernel_rfl
theorem Xa:cfg.co 144 14=[(5,24),(10,24),(11,24),(5,26)]:=by kernel_rfl
theorem Xb:cfg.co 144 18=[(5,17),(5,19)]:=by kernel_rfl
theorem Xc:cfg.co 144 19=[(5,7)]:=by kernel_rfl
theorem Xd:cfg.co 144 24=[(2,14),(4,14),(6,14),(14,16)]:=by kernel_rfl
theorem Xe:cfg.co 144 25=[]:=by kernel_rfl
theorem gN:cfg.live 144 0=[0,2,5,8,9,10]:=by kernel_rfl
theorem gP:cfg.live 144 2=[0,2,5,8,9,11]:=by kernel_rfl
theorem gR:cfg.live 144 4=[0,2,5,8,9,12]:=by kernel_rfl
theorem gU:cfg.live 144 6=[0,2,5,8,9,13]:=by kernel_rfl
theorem gV:cfg.live 144 8=[0,2,5,8,9,14]:=by kernel_rfl
theorem tc:cfg.mode 145=.own:=by kernel_rfl
theorem td:cfg.mode 146=.ro:=by kernel_rfl
theorem te:cfg.mode 147=.ro:=by kernel_rfl
theorem gX:cfg.live 147 0=[0,13,14,15]:=by kernel_rfl
theorem tf:cfg.mode 148=.own:=by kernel_rfl
theorem gY:cfg.live 148 0=[1,5,8,9,10]:=by kernel_rfl
theorem tg:cfg.mode 150=.own:=by kernel_rfl
theorem gZ:cfg.live 150 0=[1,5,8,9,10]:=by kernel_rfl
theorem ab:cfg.co 151 1=[(1,6),(3,6)]:=by kernel_rfl
theorem th:cfg.mode 152=.own:=by kernel_rfl
theorem tj:cfg.mode 153=.own:=by kernel_rfl
theorem ga:cfg.live 153 0=[1,5,8,9,10]:=by kernel_rfl
theorem tl:cfg.mode 154=.own:=by kernel_rfl
theorem ae:cfg.co 154 1=[(1,8),(3,8),(5,8)]:=by kernel_rfl
theorem tm:cfg.mode 155=.own:=by kernel_rfl
theorem tn:cfg.mode 156=.own:=by kernel_rfl
theorem gd:cfg.live 156 0=[1,5,8,9,10]:=by kernel_rfl
theorem ah:cfg.co 157 1=[(1,6),(3,6)]:=by kernel_rfl
theorem tp:cfg.mode 165=.auto:=by kernel_rfl
theorem tq:cfg.mode 166=.auto:=by kernel_rfl
theorem tr:cfg.mode 167=.auto:=by kernel_rfl
theorem gg:cfg.live 167 0=[0,1,5]:=by kernel_rfl
theorem tt:cfg.mode 168=.auto:=by kernel_rfl
theorem tu:cfg.mode 169=.auto:=by kernel_rfl
theorem tv:cfg.mode 170=.auto:=by kernel_rfl
theorem ai:cfg.co 170 4=[(2,14),(4,14),(6,14)]:=by kernel_rfl
theorem gh:cfg.live 170 0=[0,2,4,6]:=by kernel_rfl
theorem gj:cfg.live 170 2=[0,2,4,7]:=by kernel_rfl
theorem tw:cfg.mode 180=.ro:=by kernel_rfl
theorem tx:cfg.mode 181=.own:=by kernel_rfl
theorem gk:cfg.live 181 0=[1,5,8,9,10]:=by kernel_rfl
theorem tz:cfg.mode 183=.own:=by kernel_rfl
theorem gl:cfg.live 183 0=[1,5,8,9,10]:=by kernel_rfl
theorem uB:cfg.mode 186=.auto:=by kernel_rfl
theorem uC:cfg.mode 187=.auto:=by kernel_rfl
theorem gn:cfg.live 187 0=[0,2,5,9,10]:=by kernel_rfl
theorem uD:cfg.mode 188=.auto:=by kernel_rfl
theorem aj:cfg.co 188 5=[]:=by kernel_rfl
theorem gp:cfg.live 188 0=[2,3,5,6]:=by kernel_rfl
theorem uF:cfg.mode 190=.own:=by kernel_rfl
theorem ak:cfg.co 190 7=[(0,4),(4,6),(4,7),(0,8),(2,8),(3,8),(4,8),(4,10),(8,10),(4,11),(8,11),(0,12),(2,12),(3,12),(4,12),(6,12),(7,12),(8,12)]:=by kernel_rfl
theorem gq:cfg.live 190 0=[1,24,25,26]:=by kernel_rfl
theorem uH:cfg.mode 199=.auto:=by kernel_rfl
theorem uI:cfg.mode 200=.auto:=by kernel_rfl
theorem gv:cfg.live 200 0=[0,5,6]:=by kernel_rfl
theorem uJ:cfg.mode 201=.auto:=by kernel_rfl
theorem an:cfg.co 201 1=[]:=by kernel_rfl
theorem ao:cfg.co 201 4=[(4,7),(5,7)]:=by kernel_rfl
theorem Xf:cfg.co 201 14=[]:=by kernel_rfl
theorem Xg:cfg.co 201 25=[]:=by kernel_rfl
theorem Xh:cfg.co 201 26=[(4,9),(6,9),(7,9),(8,9)]:=by kernel_rfl
theorem Xi:cfg.co 201 32=[(2,6)]:=by kernel_rfl
theorem gx:cfg.live 201 1=[0,2,6,154,155,156]:=by kernel_rfl
theorem gy:cfg.live 201 3=[0,2,6,11,190,191,192]:=by kernel_rfl
theorem g8:cfg.live 201 5=[0,2,6,207,208,209]:=by kernel_rfl
theorem g9:cfg.live 201 7=[0,2,220,221,222]:=by kernel_rfl
theorem RH:cfg.alone 201 4 10=true:=by kernel_rfl
theorem Pr:cfg.alone 201 14 25=true:=by kernel_rfl
theorem RF:cfg.alone 201 32 8=true:=by kernel_rfl
theorem uK:cfg.mode 202=.auto:=by kernel_rfl
theorem uM:cfg.mode 210=.own:=by kernel_rfl
theorem uO:cfg.mode 211=.auto:=by kernel_rfl
theorem uR:cfg.mode 212=.auto:=by kernel_rfl
theorem uU:cfg.mode 213=.auto:=by kernel_rfl
theorem Xj:cfg.co 213 23=[]:=by kernel_rfl
theorem hB:cfg.live 213 0=[1,2,31,32,33]:=by kernel_rfl
theorem hO:cfg.live 213 2=[1,2,52,53,54]:=by kernel_rfl
theorem hP:cfg.live 213 4=[1,2,7,72,73,74]:=by kernel_rfl
theorem hQ:cfg.live 213 6=[1,2,7,9,72,73,74,94,95,96]:=by kernel_rfl
theorem Ps:cfg.alone 213 23 29=true:=by kernel_rfl
theorem uV:cfg.mode 214=.auto:=by kernel_rfl
theorem uX:cfg.mode 215=.auto:=by kernel_rfl
theorem hY:cfg.live 215 0=[2,5,9,10,11]:=by kernel_rfl
theorem uY:cfg.mode 216=.auto:=by kernel_rfl
theorem hZ:cfg.live 216 0=[0,1,7,8]:=by kernel_rfl
theorem uZ:cfg.mode 217=.auto:=by kernel_rfl
theorem iB:cfg.live 217 1=[1,4,73,74,75]:=by kernel_rfl
theorem uc:cfg.mode 218=.auto:=by kernel_rfl
theorem ue:cfg.mode 219=.auto:=by kernel_rfl
theorem uf:cfg.mode 220=.auto:=by kernel_rfl
theorem iC:cfg.live 220 0=[0,1,7,8]:=by kernel_rfl
theorem uh:cfg.mode 236=.auto:=by kernel_rfl
theorem uj:cfg.mode 237=.auto:=by kernel_rfl
theorem uk:cfg.mode 238=.auto:=by kernel_rfl
theorem uo:cfg.mode 239=.auto:=by kernel_rfl
theorem uq:cfg.mode 240=.auto:=by kernel_rfl
theorem l5:cfg.lc 50=some 177:=Eq.trans (b:=cfg.lc 50) rfl (by kernel_rfl)
theorem R9:cfg.lc 189=some 289:=Eq.trans (b:=cfg.lc 189) rfl (by kernel_rfl)
attribute [go_sem] T3 T4 T5 T9 T22 T23 T24 T26 T27 T28 T29 T30 T32 T33 T36 T44 T66 T67 T69 T71 T73 T76 T78 T82 T83 T85 T86 T88 AAk AAl AAm AAn AAo AAp AAq AAr AAs AAt AAu AAv AAw AAx AAy AAz AA0 AA1 AA2 AA3 AA4 AA5 wa AA6 AA7 AA8 AA9 ABA ABB ABC wb xh xi jH aq ay a8 n9 oA oB oC xj jI oD xl a9 oE xm jJ oG xp xq xr xu oH xv xw jK oI xx xy oJ oM xz yA jL jM oO yB jN yC jO yD yE yF jQ yG jR bA oQ oT oU oV yH bB yI jS yJ jT bC bD bF bG bH bJ bK bL bM oW oX oY oZ oc iE iG TG RI RJ RK RL RM RN yK jU yL yM jV tF aI tG tH tI aJ XH XI fm tJ aK fo tK aL aN aO aQ XJ XK XL XM XN XO fq ft fu fw fx Pq RB tL aR aU RE tM aV tN tP tQ tR fy tS fz tT tU tV gB tW aW XP gD gF gH gI gJ Zo tX XQ XR XT XU gK gL tZ aX XV XW XX XY gM tb aY aZ aa XZ Xa Xb Xc Xd Xe gN gP gR gU gV tc td te gX tf gY tg gZ ab th tj ga tl ae tm tn gd ah tp tq tr gg tt tu tv ai gh gj tw tx gk tz gl uB uC gn uD aj gp uF ak gq uH uI gv uJ an ao Xf Xg Xh Xi gx gy g8 g9 RH Pr RF uK uM uO uR uU Xj hB hO hP hQ Ps uV uX hY uY hZ uZ iB uc ue uf iC uh uj uk uo uq l5 R9
inductive BM where
 |mk (op n:Int) (kids:List BM)
def BM.op:BM→Int|.mk o _ _=>o
def BM.n:BM→Int|.mk _ n _=>n
def BM.kids:BM→List BM|.mk _ _ k=>k
structure CZ where
 kind:Int
 n:Int
 deriving DecidableEq
structure CT where
 op:Int
 n:Int
 args:List BM
 kids:List Int
structure Ir where
 at_:Int
 many:Int
structure Lo where
 pp:Int
 node:Int
structure L2 where
 at_:Int
 d9:List Int
 node:Int
structure Bz where
 ac:List Ir
 am:List Lo
 rules:List L2
structure AK where
 free:List ByteArray
 nodes:List CT
 defs:List Bz
 main:Int
structure Cr where
 pp:Int
 dead:Bool
 deriving DecidableEq
structure Ay where
 eq:Int
 at_:Int
 env:List CZ
structure HY where
 group:Int
 index:Int
 at_:Int
 queue:List (List CZ)
structure L4 where
 at_:Int
 node:Int
 env:List CZ
structure CW where
 am:List Cr
 ce:List Ay
 ac:List HY
 waits:List L4
structure Uw where
 wait:Int
 group:Int
 rule:Int
 picks:List Int
structure KD where
 deed:Int
 at_:Int
 n:Int
 m:Int
 of:List CZ
mutual
def Av:BM→List AU
 |.mk op n kids=>[.int .i64 op,.int .i64 n,.be (PN kids)]
def PN:List BM→List (List AU)
 |[]=>[]
 |x::l=>Av x::PN l
end
theorem QC: ∀l,PN l=l.map Av
 |[]=>rfl
 |x::l=>by simp[PN,QC l]
theorem SH(x:BM):Av x=[.int .i64 x.op,.int .i64 x.n,.be (x.kids.map Av)]:=by
 cases x;simp[Av,QC,BM.op,BM.n,BM.kids]
theorem BM.ind{p:BM→Prop}(h: ∀op n kids,(∀k∈kids,p k)→p (.mk op n kids)): ∀x,p x:=by
 intro x;refine BM.rec (motive_1:=p) (motive_2:=fun l=> ∀k∈l,p k) (fun op n kids ih=>h op n kids ih) (by simp) (fun a l h1 h2 k hk=>?_) x;rcases DL.1 hk with rfl|hk
 .exact h1
 .exact h2 k hk
theorem BM.op_mk(o n:Int)(k:List BM):(BM.mk o n k).op=o:=rfl
theorem BM.n_mk(o n:Int)(k:List BM):(BM.mk o n k).n=n:=rfl
theorem BM.kids_mk(o n:Int)(k:List BM):(BM.mk o n k).kids=k:=rfl
def AO(n:Int):List AU:=[.int .i64 n]
def A0(s:ByteArray):List AU:=[.str s]
def AI(v:CZ):List AU:=[.int .i64 v.kind,.int .i64 v.n]
def Al(x:CT):List AU:=[.int .i64 x.op,.int .i64 x.n,.be (x.args.map Av),.be (x.kids.map AO)]
def Ab(c:Ir):List AU:=[.int .i64 c.at_,.int .i64 c.many]
def AR(s:Lo):List AU:=[.int .i64 s.pp,.int .i64 s.node]
def Af(r:L2):List AU:=[.int .i64 r.at_,.be (r.d9.map AO),.int .i64 r.node]
def A8(d:Bz):List AU:=[.be (d.ac.map Ab),.be (d.am.map AR),.be (d.rules.map Af)]
def A9(s:Cr):List AU:=[.int .i64 s.pp,.bool s.dead]
def BG(g:Ay):List AU:=[.int .i64 g.eq,.int .i64 g.at_,.be (g.env.map AI)]
def CU(m:List CZ):List AU:=[.be (m.map AI)]
def Cy(c:HY):List AU:=[.int .i64 c.group,.int .i64 c.index,.int .i64 c.at_,.be (c.queue.map CU)]
def Bh(w:L4):List AU:=[.int .i64 w.at_,.int .i64 w.node,.be (w.env.map AI)]
def Hx(x:KD):List AU:=[.int .i64 x.deed,.int .i64 x.at_,.int .i64 x.n,.int .i64 x.m,.be (x.of.map AI)]
def rY(p:AK):List AU:=[.be (p.free.map A0),.be (p.nodes.map Al),.be (p.defs.map A8),.int .i64 p.main]
attribute [go_sem] SH AO A0 AI Al Ab AR Af A8 A9 BG CU Cy Bh Hx BM.op_mk BM.n_mk BM.kids_mk
theorem slice_int{l:List Int}{g:G}{k:IntKind}{m:Int}(h0:0≤m)(hm:m≤l.length):GU g .slice 1 (.d (.be (l.map AO))) none (some (.d (.int k m))) none=some (.d (.be ((l.take m.toNat).map AO))):=br (fun _=>rfl) h0 hm
def i64(n:Int):Prop:= -9223372036854775808≤n∧n<9223372036854775808
theorem wrap_id{n:Int}(h1: -9223372036854775808≤n)(h2:n<9223372036854775808):IntKind.i64.wrap n=n:=by
 have hb:IntKind.i64.bits=64:=rfl;have hs:IntKind.i64.signed=true:=rfl;simp only[IntKind.wrap,hb,hs,F0,As];have e1:(2 ^ 64:Int)=18446744073709551616:=by decide
 have e2:(2 ^ (64-1):Int)=9223372036854775808:=by decide
 rw[e1,e2];split<;>omega
def AG:=And.intro @wrap_id (And.intro @N6 (And.intro @NK @slice_int))
end Go.Proofs
namespace Go.Proofs
open Go Go.Abs
def EA(l:List Cr)(i:Int):Int:=((l[i.toNat]?).map Cr.pp).getD 0
def KK(l:List Cr)(i:Int):Prop:=0≤i∧i<l.length
instance(l:List Cr)(i:Int):Decidable (KK l i):=by unfold KK;infer_instance
def CH(l:List Cr):Nat→Int→Bool
 |0,at_=>decide (at_=0)
 |k+1,at_=>decide (at_=0)||(decide (KK l (EA l at_))&&CH l k (EA l at_))
theorem Jt(l:List Cr)(k:Nat):CH l k 0=true:=by cases k<;>simp[CH]
theorem P5(l:List Cr): ∀(k:Nat) (i:Int),CH l k i=true→CH l (k+1) i=true
 |0,i,h=>by simp[CH]at h;subst h;exact Jt _ _
 |k+1,i,h=>by
  rw[CH]at h⊢;by_cases h0:i=0
  .simp[h0]
  .simp only[h0,decide_false,Ip,AS]at h⊢;exact⟨h.1,P5 l k _ h.2⟩
variable{l:List Cr}{k:Nat}
theorem Mw{i:Int}{m:Nat}(h:k≤m)(hc:CH l k i=true):CH l m i=true:=by
 induction h with
 |refl=>exact hc
 |step _ ih=>exact P5 l _ i ih
theorem pZ: ∀(n:Nat) (l:List Nat),l.Nodup→(∀x∈l,x<n)→l.length≤n
 |0,l,_,h=>by
  cases l with
  |nil=>simp
  |cons a l=>exact absurd (h a (by simp)) (by omega)
 |n+1,l,hn,h=>by
  have h1:=pZ n (l.erase n) (hn.erase n) (fun x hx=>by
   have hx2:=(List.Nodup.mem_erase_iff hn).1 hx;have:=h x hx2.2;omega)
  by_cases hm:n∈l
  .rw[List.length_erase_of_mem hm]at h1;omega
  .rw[List.erase_of_not_mem hm]at h1;omega
theorem P3(l:List Cr)(hl:0<l.length): ∀(k:Nat) (i:Int),KK l i→CH l k i=true→(∀j,j<k→CH l j i=false)→ ∃p:List Nat,p.length=k+1∧p.Nodup∧(∀x∈p,x<l.length)∧ ∀x∈p,∃j,j≤k∧CH l j x=true∧ ∀m,m<j→CH l m x=false
 |0,i,hi,hc,hm=>⟨[0],rfl,by simp,by simp[hl],by
  intro x hx;cases Ac.1 hx;exact⟨0,El _,Jt _ _,fun m hm=>by omega⟩⟩
 |k+1,i,hi,hc,hm=>by
  have h0: ¬i=0:=fun h=>by
   have:=hm 0 (by omega);rw[h,Jt]at this;cases this
  have hc2:=hc;rw[CH]at hc2;simp only[h0,decide_false,Ip,AS,As]at hc2;obtain⟨p,hp1,hp2,hp3,hp4⟩:=P3 l hl k (EA l i) hc2.1 hc2.2 (fun j hj=>by
   have:=hm (j+1) (by omega);rw[CH]at this;simp only[h0,decide_false,Ip,On,decide_eq_false_iff_not]at this;rcases this with h|h
   .exact absurd hc2.1 h
   .exact h)
  refine⟨i.toNat::p,by simp[hp1],?_,?_,?_⟩
  .refine List.nodup_cons.2 ⟨fun hmem=>?_,hp2⟩;obtain⟨j,hj1,hj2,_⟩:=hp4 _ hmem;have hcast:((i.toNat:Nat):Int)=i:=Pp hi.1;rw[hcast]at hj2;have:=hm j (by omega);rw[hj2]at this;cases this
  .intro x hx;rcases DL.1 hx with rfl|hx
   .have:=hi.1;have:=hi.2;omega
   .exact hp3 x hx
  .intro x hx;rcases DL.1 hx with rfl|hx
   .have hcast:((i.toNat:Nat):Int)=i:=Pp hi.1;rw[hcast];exact⟨k+1,El _,hc,hm⟩
   .obtain⟨j,hj1,hj2⟩:=hp4 x hx;exact⟨j,by omega,hj2⟩
theorem SC{i:Int}: ∀{k:Nat},CH l k i=true→ ∃m,m≤k∧CH l m i=true∧ ∀j,j<m→CH l j i=false
 |0,h=>⟨0,El _,h,fun j hj=>by omega⟩
 |k+1,h=>by
  cases hk:CH l k i with
  |true=>
   obtain⟨m,h1,h2,h3⟩:=SC hk;exact⟨m,by omega,h2,h3⟩
  |false=>
   refine⟨k+1,El _,h,fun j hj=>?_⟩;cases hj2:CH l j i with
   |false=>rfl
   |true=>
    have:=Mw (show j≤k by omega) hj2;rw[hk]at this;cases this
theorem VP{i:Int}(hi:KK l i)(h:CH l k i=true):CH l (l.length-1) i=true:=by
 have hl:0<l.length:=by have:=hi.1;have:=hi.2;omega
 obtain⟨m,_,h2,h3⟩:=SC h;obtain⟨p,hp1,hp2,hp3,_⟩:=P3 l hl m i hi h2 h3;have:=pZ l.length p hp2 hp3;exact Mw (by omega) h2
def Hr(l:List Cr):Nat→Nat→Bool
 |_,0=>true
 |i,n+1=>CH l l.length i&&Hr l (i+1) n
def IJ(l:List Cr):Bool:=decide (0<l.length)&&(decide (EA l 0= -1)&&Hr l 0 l.length)
theorem Js(l:List Cr): ∀(n i:Nat),Hr l i n=true↔ ∀j,i≤j→j<i+n→CH l l.length j=true
 |0,i=>by simp[Hr];intro j h1 h2;omega
 |n+1,i=>by
  rw[Hr,AS,Js l n (i+1)];constructor
  .rintro⟨h1,h2⟩ j h3 h4;by_cases h5:j=i
   .subst h5;exact h1
   .exact h2 j (by omega) (by omega)
  .intro h;exact⟨h i (by omega) (by omega),fun j h1 h2=>h j (by omega) (by omega)⟩
def anc(l:List Cr):Nat→Int→List Int
 |0,b=>[b]
 |k+1,b=>if b=0 then [0]else b::anc l k (EA l b)
def nk(l:List Cr)(b a:Int):Bool:=decide (a∈anc l l.length b)
structure Pk(l:List Cr):Prop where
 pos:0<l.length
 top:EA l 0= -1
 ws: ∀i,KK l i→CH l l.length i=true
theorem YL(h:IJ l=true):Pk l:=by
 simp only[IJ,AS,As]at h;refine⟨h.1,h.2.1,fun i hi=>?_⟩;have:=(Js l l.length 0).1 h.2.2 i.toNat (by omega) (by have:=hi.1;have:=hi.2;omega)
 rwa [Pp hi.1]at this
theorem qQ(h:Pk l):IJ l=true:=by
 simp only[IJ,AS,As];refine⟨h.pos,h.top,(Js l l.length 0).2 fun j h1 h2=>h.ws j ⟨by omega,by omega⟩⟩
end Go.Proofs
namespace Go.Proofs
open Go Go.Abs
def CZ.inB(p:AK)(nc ns:Nat)(v:CZ):Bool:=
 if v.kind=1 then decide (-1000000000≤v.n)&&decide (v.n≤1000000000)else if v.kind=2 then decide (0≤v.n)&&decide (v.n<p.free.length)
 else if v.kind=3 then decide (0≤v.n)&&decide (v.n<nc)else if v.kind=4 then decide (0≤v.n)&&decide (v.n<ns)else false
theorem P4{l:List Cr}{k:Nat}{b:Int}(h: ¬b=0)(hc:CH l (k+1) b=true):KK l (EA l b)∧CH l k (EA l b)=true:=by
 rw[CH]at hc;simp only[h,decide_false,Ip,AS,As]at hc;exact hc
end Go.Proofs
namespace Go.Proofs
open Go Go.Abs
end Go.Proofs
namespace Go.Abs
variable{C:CA}{K:AJ}{fr:Fr}{bl:Nat}{Q:Dc→St→Prop}
theorem Hv{α:Type}{l:List α}{i:Nat}{x:α}(h:l[i]? =some x):l.drop i=x::l.drop (i+1):=by
 have hi:=(BE.1 h).1;rw[List.drop_eq_getElem_cons hi];congr 1;have:=BY hi;rw[h]at this;injection this with this
 exact this.symm
theorem Au{α β:Type}{x:Code}(l:List α)(S:Nat→β→St)(Inv:Nat→List α→β→Prop)(b0:β)(h0:Inv 0 l b0)
 (step: ∀(i:Nat) (y:α) (b:β),l[i]? =some y→i<l.length→(i:Int)<(l.length:Int)→Inv i (y::l.drop (i+1)) b→AA (∀b',Inv (i+1) (l.drop (i+1)) b'→dF C K fr bl x (S (i+1) b') Q)→Wp C K fr bl x (S i b) (Ko C K fr bl x Q))
 (done: ∀(i:Nat) (b:β),AA (i=l.length)→ ¬(i:Int)<(l.length:Int)→Inv i [] b→Wp C K fr bl x (S i b) (Ko C K fr bl x Q)):dF C K fr bl x (S 0 b0) Q:=by
 refine rounds (S:=fun a:Nat×β=>S a.1 a.2) (Inv:=fun a=>a.1≤l.length∧Inv a.1 (l.drop a.1) a.2) (m:=fun a=>l.length-a.1) (a:=(0,b0)) ⟨by simp,by simpa using h0⟩ ?_;rintro⟨i,b⟩ ⟨h1,h2⟩ IH;dsimp only at*;by_cases hi:i<l.length
 .obtain⟨y,hy⟩: ∃y,l[i]? =some y:=⟨_,BY hi⟩;rw[Hv hy]at h2;exact step i y b hy hi (by omega) h2 ⟨fun b' hb=>IH.out (i+1,b') (by dsimp only;omega) ⟨by dsimp only;omega,hb⟩⟩
 .have:i=l.length:=by omega
  rw[D1 (by omega)]at h2;exact done i b ⟨this⟩ (by omega) h2
end Go.Abs
namespace Go.Abs
variable{C:CA}{K:AJ}{fr:Fr}{bl:Nat}{Q:Dc→St→Prop}
theorem AY{α β:Type}{x:Code}(l:List α)(m:Int)(S:Int→Nat→β→St)(Inv:Nat→List α→β→Prop)(b0:β)(hm:m=l.length)(h0:Inv 0 l b0)
 (step: ∀(i:Nat) (y:α) (b:β),l[i]? =some y→i<l.length→(i:Int)<m→Inv i (y::l.drop (i+1)) b→AA (∀b',Inv (i+1) (l.drop (i+1)) b'→dF C K fr bl x (S m (i+1) b') Q)→Wp C K fr bl x (S m i b) (Ko C K fr bl x Q))
 (done: ∀(i:Nat) (b:β),AA (i=l.length)→ ¬(i:Int)<m→Inv i [] b→Wp C K fr bl x (S m i b) (Ko C K fr bl x Q)):dF C K fr bl x (S m 0 b0) Q:=
 Au l (S m) Inv b0 h0 (fun i y b h1 h2 h3 h4 h5=>step i y b h1 h2 (by omega) h4 h5) (fun i b h1 h2 h3=>done i b h1 (by have:=h1.out;omega) h3)
end Go.Abs
namespace Go.Abs
variable{P:Program}{C:CA}
theorem FA{f:FuncId}{fn:Func}{c:Code}{rs:List ResultVar}{args:List AV}{π:List Nat}{Post:Ae×AB→Prop}(hg:C.ii f=true)(hf:P.funcs[f]? =some fn)(hb:fn.body=some c)(hr:fn.results.toList=rs)(hl:Nat.ble args.length fn.ntmps=true)
 (hw:Wp C (KL P C) {f,π,raw:=false,bi:=none,nt:=fn.ntmps} 0 c ⟨Dn 0 args,[],0,[]⟩ (Ka C none rs π false fun o' h'=>Post (uy (o',h')))): ∃r,BJ (KL P C) f args π=.ok r∧Post r:=by
 obtain⟨o',h',e,h2⟩:=Aa hg hf hb hr hl hw;unfold BJ;rw[e];exact⟨_,rfl,h2⟩
end Go.Abs
namespace Go.Abs
variable{C:CA}{K:AJ}{fr:Fr}{bl:Nat}{Q:Dc→St→Prop}
end Go.Abs
namespace Go.Abs
variable{P:Program}{C:CA}{K:AJ}{fr:Fr}{b n i:Nat}{Q:Dc→St→Prop}
variable{ops:Array Oper}{al:Nat→Bool}{l:List Oper}{e:CB}{h:AB}{bs:Nat}{ds:List Df}{ps:List (Nat×Nat)}{fps:List Fp}{ρ:List Nat}{dst:Option Tmp}
def xe(C:CA)(K:AJ)(fr:Fr)(ops:Array Oper)(b n:Nat)(al:Nat→Bool)(l:List Oper)(i:Nat)(dst:Option Tmp)(ρ:List Nat)(e:CB)(h:AB)(bs:Nat)(ds:List Df)(Q:Dc→St→Prop)(args:List AV)(v:AV):Option FuncId→Prop
 |some f=>VB C K fr ops b n al l i dst ρ e h bs ds Q args (.fn f [v] [])
 |none=>False
def ABI(C:CA)(K:AJ)(fr:Fr)(ops:Array Oper)(b n:Nat)(al:Nat→Bool)(l:List Oper)(i:Nat)(dst:Option Tmp)(ρ:List Nat)(e:CB)(h:AB)(bs:Nat)(ds:List Df)(Q:Dc→St→Prop)(m:String)(args:List AV):AV→Prop
 |.iface t v=>xe C K fr ops b n al l i dst ρ e h bs ds Q args v (C.rx t m)
 |_=>False
theorem Zf(m:String)(args:List AV)(t:TypeId)(v:AV):ABI C K fr ops b n al l i dst ρ e h bs ds Q m args (.iface t v)=xe C K fr ops b n al l i dst ρ e h bs ds Q args v (C.rx t m):=rfl
theorem iu(args:List AV)(v:AV)(f:FuncId):xe C K fr ops b n al l i dst ρ e h bs ds Q args v (some f)=VB C K fr ops b n al l i dst ρ e h bs ds Q args (.fn f [v] []):=rfl
def xd(C:CA)(K:AJ)(fr:Fr)(ops:Array Oper)(b n:Nat)(al:Nat→Bool)(ps:List (Nat×Nat))(fps:List Fp)(l:List Oper)(i:Nat)(dst:Option Tmp)(ρ:List Nat)(e:CB)(h:AB)(bs:Nat)(ds:List Df)(Q:Dc→St→Prop)(args:List AV)(v:AV):Option FuncId→Prop
 |some f=>U9 C K fr ops b n al ps fps l i dst ρ e h bs ds Q args (.fn f [v] [])
 |none=>False
def xV(C:CA)(K:AJ)(fr:Fr)(ops:Array Oper)(b n:Nat)(al:Nat→Bool)(ps:List (Nat×Nat))(fps:List Fp)(l:List Oper)(i:Nat)(dst:Option Tmp)(ρ:List Nat)(e:CB)(h:AB)(bs:Nat)(ds:List Df)(Q:Dc→St→Prop)(m:String)(args:List AV):AV→Prop
 |.iface t v=>xd C K fr ops b n al ps fps l i dst ρ e h bs ds Q args v (C.rx t m)
 |_=>False
theorem me(r:Operand)(m:String)(az:Array Operand)(ts:Array TypeId):Bu C K fr ops b n al ps fps l i Q (Ax C K fr ρ (.call ⟨.invoke r m,az,ts⟩) dst ⟨e,h,bs,ds⟩)=xV C K fr ops b n al ps fps l i dst ρ e h bs ds Q m (az.toList.map (ev e.get)) (ev e.get r):=by
 simp only[Ax];cases ev e.get r with
 |iface t v=>
  simp only[E3,xV];cases C.rx t m with
  |none=>rfl
  |some f=>rfl
 |_=>rfl
theorem Ze(m:String)(args:List AV)(t:TypeId)(v:AV):xV C K fr ops b n al ps fps l i dst ρ e h bs ds Q m args (.iface t v)=xd C K fr ops b n al ps fps l i dst ρ e h bs ds Q args v (C.rx t m):=rfl
theorem ir(args:List AV)(v:AV)(f:FuncId):xd C K fr ops b n al ps fps l i dst ρ e h bs ds Q args v (some f)=U9 C K fr ops b n al ps fps l i dst ρ e h bs ds Q args (.fn f [v] []):=rfl
def X0(C:CA)(K:AJ)(fr:Fr)(ops:Array Oper)(b n:Nat)(al:Nat→Bool)(ps:List (Nat×Nat))(fps:List Fp)(l:List Oper)(i:Nat)(dst:Option Tmp)(ρ:List Nat)(e:CB)(h:AB)(bs:Nat)(ds:List Df)(Q:Dc→St→Prop):E (Ae×AB)→Prop
 |.ok (.ret v,h')=>FV C K fr ops b n al ps (fps++[⟨none,some (VZ h (gc ρ h'))⟩]) l (i+1) ⟨B8 e dst v,gc ρ h',bs,ds⟩ Q
 |.ok (.em v,h')=>al i=true∧DC fps ps=true∧Q (.em v) ⟨e,gc ρ h',b+n,ds⟩
 |.err _=>False
theorem pk(dst:Option Tmp)(ρ:List Nat)(v:AV)(h':AB):X0 C K fr ops b n al ps fps l i dst ρ e h bs ds Q (.ok (.ret v,h'))=FV C K fr ops b n al ps (fps++[⟨none,some (VZ h (gc ρ h'))⟩]) l (i+1) ⟨B8 e dst v,gc ρ h',bs,ds⟩ Q:=rfl
theorem pj(dst:Option Tmp)(ρ:List Nat)(v:AV)(h':AB):X0 C K fr ops b n al ps fps l i dst ρ e h bs ds Q (.ok (.em v,h'))=(al i=true∧DC fps ps=true∧Q (.em v) ⟨e,gc ρ h',b+n,ds⟩):=rfl
variable{dst:Option Tmp}
theorem FU{Post:Ae→AB→Prop}{ρ:List Nat}{q:E (Ae×AB)}(hk: ∃o h',q=.ok (o,h')∧Post o h')(hn: ∀o h',Post o h'→X0 C K fr ops b n al ps fps l i dst ρ e h bs ds Q (.ok (o,h'))):X0 C K fr ops b n al ps fps l i dst ρ e h bs ds Q q:=by
 obtain⟨o,h',e,hp⟩:=hk;rw[e];exact hn o h' hp
theorem Z6(dst:Option Tmp)(ρ:List Nat)(f:FuncId)(az:List AV)(hx:(DM h.get az).isNone):Lz C K fr ops b n al ps fps l i dst ρ e h bs ds Q f az .auto=(JE fr.bi (az.flatMap (mark h.get))=true∧X0 C K fr ops b n al ps fps l i dst ρ e h bs ds Q (K (.fn f) (K9 h.get az) (h.puts (az.flatMap (mark h.get))) ρ true fr.bi)):=by
 have hx:DM h.get az=none:=by simpa using hx
 simp only[Lz,DW,hx,EZ,BA,BW,Ak];cases hw:JE fr.bi (az.flatMap (mark h.get))with
 |true=>
  simp only[RX];cases K (.fn f) (K9 h.get az) (h.puts (az.flatMap (mark h.get))) ρ true fr.bi with
  |err l=>rfl
  |ok r=>
   obtain⟨o,h'⟩:=r;cases o<;>simp only[EB,Aw,Ak,Bu,X0]
 |false=>simp[Bu]
variable{az:List AV}
theorem UH{v:AV}{p:Prop} [Decidable p](h1: ¬p→C5 C K fr ops b n al l i az dst e h bs ds Q (Bg v true))(h2:p→C5 C K fr ops b n al l i az dst e h bs ds Q (Bg v false)):C5 C K fr ops b n al l i az dst e h bs ds Q (Bg v (!decide p)):=by
 by_cases hp:p
 .rw[DO hp];exact h2 hp
 .rw[Cs hp];exact h1 hp
theorem UG{v:AV}{p:Prop} [Decidable p](h1: ¬p→C4 C K fr ops b n al ps fps l i az dst e h bs ds Q (Bg v true))(h2:p→C4 C K fr ops b n al ps fps l i az dst e h bs ds Q (Bg v false)):C4 C K fr ops b n al ps fps l i az dst e h bs ds Q (Bg v (!decide p)):=by
 by_cases hp:p
 .rw[DO hp];exact h2 hp
 .rw[Cs hp];exact h1 hp
theorem bT{v:AV}{t:Bool}(h1:t=true→C4 C K fr ops b n al ps fps l i az dst e h bs ds Q (Bg v true))(h2:t=false→C4 C K fr ops b n al ps fps l i az dst e h bs ds Q (Bg v false)):C4 C K fr ops b n al ps fps l i az dst e h bs ds Q (Bg v t):=by
 cases t
 .exact h2 rfl
 .exact h1 rfl
theorem Xt{v:AV}{p:Prop} [Decidable p](h1:p→C4 C K fr ops b n al ps fps l i az dst e h bs ds Q (Bg v true))(h2: ¬p→C4 C K fr ops b n al ps fps l i az dst e h bs ds Q (Bg v false)):C4 C K fr ops b n al ps fps l i az dst e h bs ds Q (Bg v (decide p)):=by
 by_cases hp:p
 .rw[DO hp];exact h1 hp
 .rw[Cs hp];exact h2 hp
theorem Ya(a b:List Id):Abs.apart (some a) (some b)=a.all fun x=>b.all fun y=> !Id.is x y:=by
 have key: ∀(x:Id) (m:List Id),(!m.contains x)=m.all fun y=> !Id.is x y:=fun x m=>by
  rw[OP];simp only[I1,CO];constructor
  .intro h y hy;exact AF fun e=>by subst e;simp[hy]at h
  .intro h;cases hc:m.contains x with
   |false=>rfl
   |true=>
    have:=h x (by simpa using hc);rw[is_self]at this;cases this
 unfold Abs.apart;split
 .rename_i h;cases h;rfl
 .rename_i h1 h2;cases h1;simp
 .rename_i h1 h2;cases h1;cases h2;simp only[key]
 .simp_all
theorem LV(ρ:List Nat)(h:AB)(l:Id):AB.get (gc ρ h) (1::l)=AB.get h (1::l):=QQ (fun id=>match id with|0::l=> !Id.under ρ l|_=>true) h (1::l) rfl
theorem PV(a b:AB)(id:Id):AB.get (a++b) id=(match AB.get a id with|some o=>some o|none=>AB.get b id):=by
 induction a with
 |nil=>rfl
 |cons p a ih=>
  obtain⟨k,x⟩:=p;rw[Es,Bo,Bo];split
  .rfl
  .exact ih
variable{a b:AB}
theorem BK{id:Id}(h:AB.get a id=none):AB.get (a++b) id=AB.get b id:=by rw[PV,h]
theorem DN{id:Id}{o:Obj}(h:AB.get a id=some o):AB.get (a++b) id=some o:=by rw[PV,h]
theorem m0(g:G)(f:FuncId)(a:List AV)(x:AV)(c:List AV):Di g (.fn f a (x::c))=none:=by cases a<;>rfl
attribute [go_sem] LV m0
attribute [go_sem] Ya Zf iu me Ze ir pk pj Z6 Sw Sv
attribute [go_sem_proc] Nat.reduceEqDiff Nat.reduceAdd Nat.reduceSub Nat.reduceBEq Nat.reduceLeDiff Nat.reduceLT reduceCtorEq Int.reduceEq Int.reduceLT Int.reduceLE Int.reduceNeg Int.reduceToNat Int.reduceAdd Int.reduceSub
attribute [go_sem_proc ↓] reduceIte
attribute [go_sem] Int.cast_ofNat_Int Int.zero_add Nat.le_refl
class Sp(G:Prop)(P N A B:outParam Prop):Prop where
 go:(P→A)→(N→B)→G
theorem sx{G P N A B:Prop} [s:Sp G P N A B](h1:P→A)(h2:N→B):G:=s.go h1 h2
class Sq(G:Prop)(α:outParam Type)(H:outParam Prop)(R M A:outParam (α→Prop)):Prop where
 go:H→(∀x,R x→M x→A x)→G
theorem sy{G:Prop}{α:Type}{H:Prop}{R M A:α→Prop} [s:Sq G α H R M A](h1:H)(h2: ∀x,R x→M x→A x):G:=s.go h1 h2
theorem au{G:Prop}(h:G:=by(repeat' (first|simp only[go_sem, *]|(refine sx ?_ ?_<;>intro hc)|refine sy (by omega) fun x hx hm=>?_|simp(disch:=first|assumption|omega) only[wrap_id,N6,NK,slice_int]))):G:=h
theorem af{G:Prop}(h:G:=by(repeat' (first|simp only[go_sem, *,AM]|(refine sx ?_ ?_<;>intro hc)|refine sy (by omega) fun x hx hm=>?_|simp(disch:=first|assumption|omega) only[wrap_id,N6,NK,slice_int]))):G:=h
variable{R:Prop}
theorem aw{G:Prop}(h:R)(e:AA R→G:=by intro q;(repeat' (first|simp only[go_sem, *]|(refine sx ?_ ?_<;>intro hc)|refine sy (by omega) fun x hx hm=>?_|simp(disch:=first|assumption|omega) only[wrap_id,N6,NK,slice_int]));exact q.out):G:=e ⟨h⟩
theorem ax{G:Prop}(h:R)(e:AA R→G:=by intro q;(repeat' (first|simp only[go_sem, *,AM]|(refine sx ?_ ?_<;>intro hc)|refine sy (by omega) fun x hx hm=>?_|simp(disch:=first|assumption|omega) only[wrap_id,N6,NK,slice_int]));exact q.out):G:=e ⟨h⟩
variable{C:CA}{K:AJ}{fr:Fr}{b n i:Nat}{Q:Dc→St→Prop}
variable{ops:Array Oper}{al:Nat→Bool}{l:List Oper}{e:CB}{h:AB}{bs:Nat}{ds:List Df}{ps:List (Nat×Nat)}{fps:List Fp}{dst:Option Tmp}{st:St}{op:Op}{want:Bool}{az:List AV}{v:AV}{t:Bool}{p:Prop}{x y:Code}
instance(priority:=2000) [Decidable p]:Sp (KY C K fr b x y st Q (.d (.bool (decide p)))) p (¬p) (Wp C K fr b x st Q) (Wp C K fr b y st Q):=⟨dy⟩
instance(priority:=2000) [Decidable p]:Sp (Cj C K fr ops b n al l i dst op st want Q (.d (.bool (decide p)))) p (¬p) (Cj C K fr ops b n al l i dst op st want Q (.d (.bool true))) (Cj C K fr ops b n al l i dst op st want Q (.d (.bool false))):=⟨ZZ⟩
instance:Sp (KY C K fr b x y st Q (.d (.bool t))) (t=true) (t=false) (Wp C K fr b x st Q) (Wp C K fr b y st Q):=⟨VS⟩
instance:Sp (Cj C K fr ops b n al l i dst op st want Q (.d (.bool t))) (t=true) (t=false) (Cj C K fr ops b n al l i dst op st want Q (.d (.bool true))) (Cj C K fr ops b n al l i dst op st want Q (.d (.bool false))):=⟨Ti⟩
instance(priority:=2000) [Decidable p]:Sp (DH C K fr ops b n al ps fps l i dst op st want Q (.d (.bool (decide p)))) p (¬p) (DH C K fr ops b n al ps fps l i dst op st want Q (.d (.bool true))) (DH C K fr ops b n al ps fps l i dst op st want Q (.d (.bool false))):=⟨Zc⟩
instance:Sp (DH C K fr ops b n al ps fps l i dst op st want Q (.d (.bool t))) (t=true) (t=false) (DH C K fr ops b n al ps fps l i dst op st want Q (.d (.bool true))) (DH C K fr ops b n al ps fps l i dst op st want Q (.d (.bool false))):=⟨Tj⟩
instance(priority:=2000) [Decidable p]:Sp (C5 C K fr ops b n al l i az dst e h bs ds Q (Bg v (decide p))) p (¬p) (C5 C K fr ops b n al l i az dst e h bs ds Q (Bg v true)) (C5 C K fr ops b n al l i az dst e h bs ds Q (Bg v false)):=⟨Xu⟩
instance(priority:=2000) [Decidable p]:Sp (C5 C K fr ops b n al l i az dst e h bs ds Q (Bg v (!decide p))) (¬p) p (C5 C K fr ops b n al l i az dst e h bs ds Q (Bg v true)) (C5 C K fr ops b n al l i az dst e h bs ds Q (Bg v false)):=⟨UH⟩
instance:Sp (C5 C K fr ops b n al l i az dst e h bs ds Q (Bg v t)) (t=true) (t=false) (C5 C K fr ops b n al l i az dst e h bs ds Q (Bg v true)) (C5 C K fr ops b n al l i az dst e h bs ds Q (Bg v false)):=⟨bX⟩
instance(priority:=2000) [Decidable p]:Sp (C4 C K fr ops b n al ps fps l i az dst e h bs ds Q (Bg v (decide p))) p (¬p) (C4 C K fr ops b n al ps fps l i az dst e h bs ds Q (Bg v true)) (C4 C K fr ops b n al ps fps l i az dst e h bs ds Q (Bg v false)):=⟨Xt⟩
instance(priority:=2000) [Decidable p]:Sp (C4 C K fr ops b n al ps fps l i az dst e h bs ds Q (Bg v (!decide p))) (¬p) p (C4 C K fr ops b n al ps fps l i az dst e h bs ds Q (Bg v true)) (C4 C K fr ops b n al ps fps l i az dst e h bs ds Q (Bg v false)):=⟨UG⟩
instance:Sp (C4 C K fr ops b n al ps fps l i az dst e h bs ds Q (Bg v t)) (t=true) (t=false) (C4 C K fr ops b n al ps fps l i az dst e h bs ds Q (Bg v true)) (C4 C K fr ops b n al ps fps l i az dst e h bs ds Q (Bg v false)):=⟨bT⟩
instance{α:Type}{f:α→List AU}{l':List α}{sz j:Nat}:Sq (BZ C K fr ops b n al l i dst e h bs ds Q (Qa sz (Option.map f l'[j]?))) α (j<l'.length) (fun x=>l'[j]? =some x) (fun x=>x∈l') (fun x=>BZ C K fr ops b n al l i dst e h bs ds Q (Qa sz (some (f x)))):=⟨fun h1 h2=>jZ h1 fun x hx=>h2 x hx (Ap hx)⟩
instance{α:Type}{f:α→List AU}{l':List α}{sz j:Nat}{rd:List Id}:Sq (DI C K fr ops b n al ps fps l i dst e h bs ds Q rd (Qa sz (Option.map f l'[j]?))) α (j<l'.length) (fun x=>l'[j]? =some x) (fun x=>x∈l') (fun x=>DI C K fr ops b n al ps fps l i dst e h bs ds Q rd (Qa sz (some (f x)))):=⟨fun h1 h2=>jY h1 fun x hx=>h2 x hx (Ap hx)⟩
instance{s:ByteArray}{j:Nat}{f:UInt8→Bw}:Sq (BZ C K fr ops b n al l i dst e h bs ds Q (Option.map f s.data.toList[j]?)) UInt8 (j<s.data.toList.length) (fun x=>s.data.toList[j]? =some x) (fun x=>x∈s.data.toList) (fun x=>BZ C K fr ops b n al l i dst e h bs ds Q (some (f x))):=⟨fun h1 h2=>jb h1 fun x hx=>h2 x hx (Ap hx)⟩
end Go.Abs
namespace Go.Proofs
open Go Go.Abs
set_option maxRecDepth 100000
set_option maxHeartbeats 2000000
def BM.formed(size:Int):BM→Bool
 |.mk op n kids=>
  if op=1 then decide (kids.length=0)&&(decide (-1000000000≤n)&&decide (n≤1000000000))
  else if op=2 then decide (kids.length=0)&&(decide (0≤n)&&decide (n<size))
  else if op<3 then false
  else if 7<op then false
  else if n=0 then match kids with
   |[a,b]=>a.formed size&&b.formed size
   |_=>false
  else false
theorem Nr{α:Type}{kids:List α}(hk:kids.length=2): ∃a b,kids=[a,b]:=by
 rcases kids with _|⟨a,_|⟨b,_|⟨c,l⟩⟩⟩<;>simp at hk;exact⟨a,b,rfl⟩
@[go_sem] theorem yz(size:Int)(x:BM):BJ (KL Tryz.prog cfg) 123 [.agg [.d (.int .i64 x.op),.d (.int .i64 x.n),.d (.be (x.kids.map Av))],.d (.int .i64 size)] []=.ok (.ret (.d (.bool (x.formed size))),[]):=by
  induction x using BM.ind with
  |h op n kids ih=>
  simp only[BM.op_mk,BM.n_mk,BM.kids_mk]
  (refine Ao rfl Tryz.func123 rfl rfl rfl ?_;show Wp _ _ _ _ (Tryz.f123.body.get rfl) _ _;simp only[Tryz.f123,AP])
  rcases kids with _|⟨a,_|⟨b,_|⟨c,l⟩⟩⟩
  .clear ih
   (repeat' (first|simp only[go_sem, *]|(refine sx ?_ ?_<;>intro hc)|refine sy (by omega) fun x hx hm=>?_|simp(disch:=first|assumption|omega) only[AG]))
   all_goals grind [BM.formed]
  .clear ih
   (repeat' (first|simp only[go_sem, *]|(refine sx ?_ ?_<;>intro hc)|refine sy (by omega) fun x hx hm=>?_|simp(disch:=first|assumption|omega) only[AG]))
   all_goals grind [BM.formed]
  .have ha:=ih a (by simp);have hb:=ih b (by simp);clear ih
   (repeat' (first|simp only[go_sem, *]|(refine sx ?_ ?_<;>intro hc)|refine sy (by omega) fun x hx hm=>?_|simp(disch:=first|assumption|omega) only[AG]))
   all_goals grind [BM.formed]
  .clear ih
   (repeat' (first|simp only[go_sem, *]|(refine sx ?_ ?_<;>intro hc)|refine sy (by omega) fun x hx hm=>?_|simp(disch:=first|assumption|omega) only[AG]))
   all_goals grind [BM.formed]
@[go_sem] theorem y8(k n:Int):BJ (KL Tryz.prog cfg) 119 [.agg [.d (.int .i64 k),.d (.int .i64 n)]] []=.ok (.ret (.d (.int .i64 (if k=1 then n else 0))),[]):=by
  (refine Ao rfl Tryz.func119 rfl rfl rfl ?_;show Wp _ _ _ _ (Tryz.f119.body.get rfl) _ _;simp only[Tryz.f119,AP])
  exact au
@[go_sem] theorem yT(k n:Int):BJ (KL Tryz.prog cfg) 124 [.agg [.d (.int .i64 k),.d (.int .i64 n)]] []=.ok (.ret (.d (.int .i64 (if k=1 then n else 0))),[]):=by
  (refine Ao rfl Tryz.func124 rfl rfl rfl ?_;show Wp _ _ _ _ (Tryz.f124.body.get rfl) _ _;simp only[Tryz.f124,AP])
  exact au
@[go_sem] theorem AAI(t:Bool):BJ (KL Tryz.prog cfg) 120 [.d (.bool t)] []=.ok (.ret (.d (.int .i64 (if t=true then 1 else 0))),[]):=by
  (refine Ao rfl Tryz.func120 rfl rfl rfl ?_;show Wp _ _ _ _ (Tryz.f120.body.get rfl) _ _;simp only[Tryz.f120,AP])
  exact au;all_goals grind
def Jr(n:Int):Int:=min (max n (-1000000000)) 1000000000
@[go_sem] theorem yx(n:Int):BJ (KL Tryz.prog cfg) 77 [.d (.int .i64 n)] []=.ok (.ret (.d (.int .i64 (Jr n))),[]):=by
  (refine Ao rfl Tryz.func77 rfl rfl rfl ?_;show Wp _ _ _ _ (Tryz.f77.body.get rfl) _ _;simp only[Tryz.f77,AP])
  refine aw ?_;all_goals grind [Jr]
def XB(v:CZ):Int:=if v.kind=1 then v.n else 0
def zx(op a b:Int):Int:=if op=3 then IntKind.i64.wrap (a+b)else if op=4 then IntKind.i64.wrap (a-b)else if op=5 then IntKind.i64.wrap (a*b)else if op=6 then(if a<b then 1 else 0)else if a=b then 1 else 0
def BM.value(env:List CZ):BM→CZ
 |.mk op n kids=>
  if op=1 then⟨1,n⟩
  else if op=2 then(env[n.toNat]?).getD ⟨0,0⟩
  else match kids with
   |[a,b]=>⟨1,Jr (zx op (XB (a.value env)) (XB (b.value env)))⟩
   |_=>⟨0,0⟩
theorem OZ(env:List CZ)(n:Int)(kids:List BM):(BM.mk 1 n kids).value env=⟨1,n⟩:=by
 rcases kids with _|⟨a,_|⟨b,_|⟨c,l⟩⟩⟩<;>simp[BM.value]
theorem Me(env:List CZ)(n:Int)(kids:List BM):(BM.mk 2 n kids).value env=(env[n.toNat]?).getD ⟨0,0⟩:=by
 rcases kids with _|⟨a,_|⟨b,_|⟨c,l⟩⟩⟩<;>simp[BM.value]
theorem OY(env:List CZ)(op n:Int)(a b:BM)(h1: ¬op=1)(h2: ¬op=2):(BM.mk op n [a,b]).value env=⟨1,Jr (zx op (XB (a.value env)) (XB (b.value env)))⟩:=by
 simp[BM.value,h1,h2]
theorem Kf{size n:Int}{kids:List BM}(h:(BM.mk 2 n kids).formed size=true):0≤n∧n<size:=by
 rcases kids with _|⟨a,_|⟨b,_|⟨c,l⟩⟩⟩<;>simp[BM.formed]at h;exact h
theorem L9{size op n:Int}{kids:List BM}(h:(BM.mk op n kids).formed size=true)(h1: ¬op=1)(h2: ¬op=2):3≤op∧op≤7∧n=0∧ ∃a b,kids=[a,b]∧a.formed size=true∧b.formed size=true:=by
 rcases kids with _|⟨a,_|⟨b,_|⟨c,l⟩⟩⟩<;>simp[BM.formed,h1,h2]at h;exact⟨h.1,h.2.1,h.2.2.1,a,b,rfl,h.2.2.2⟩
@[go_sem] theorem kM(env:List CZ)(x:BM)(hf:x.formed env.length=true):BJ (KL Tryz.prog cfg) 78 [.agg [.d (.int .i64 x.op),.d (.int .i64 x.n),.d (.be (x.kids.map Av))],.d (.be (env.map AI))] []=.ok (.ret (.agg [.d (.int .i64 (x.value env).kind),.d (.int .i64 (x.value env).n)]),[]):=by
  induction x using BM.ind with
  |h op n kids ih=>
  simp only[BM.op_mk,BM.n_mk,BM.kids_mk]
  (refine Ao rfl Tryz.func78 rfl rfl rfl ?_;show Wp _ _ _ _ (Tryz.f78.body.get rfl) _ _;simp only[Tryz.f78,AP])
  by_cases h1:op=1
  .subst h1;clear ih
   (repeat' (first|simp only[go_sem, *,OZ]|(refine sx ?_ ?_<;>intro hc)|refine sy (by omega) fun x hx hm=>?_|simp(disch:=first|assumption|omega) only[AG]))
  by_cases h2:op=2
  .subst h2;clear ih;obtain⟨hn,hl⟩:=Kf hf;have hl:n.toNat<env.length:=by omega
   clear hf
   (repeat' (first|simp only[go_sem, *,Me,GS]|(refine sx ?_ ?_<;>intro hc)|refine sy (by omega) fun x hx hm=>?_|simp(disch:=first|assumption|omega) only[AG]))
  obtain⟨h3,h4,h5,a,b,rfl,hfa,hfb⟩:=L9 hf h1 h2;have ha:=ih a (by simp) hfa;have hb:=ih b (by simp) hfb;clear ih hf;rw[OY env op n a b h1 h2];generalize a.value env=u at*;generalize b.value env=v at*
  (repeat' (first|simp only[go_sem, *]|(refine sx ?_ ?_<;>intro hc)|refine sy (by omega) fun x hx hm=>?_|simp(disch:=first|assumption|omega) only[AG]))
  all_goals grind [XB,Jr,zx]
@[go_sem] theorem qb(env:List CZ)(x:BM)(hf:x.formed env.length=true):BJ (KL Tryz.prog cfg) 75 [.agg [.d (.int .i64 x.op),.d (.int .i64 x.n),.d (.be (x.kids.map Av))],.d (.be (env.map AI))] []=.ok (.ret (.agg [.d (.int .i64 (x.value env).kind),.d (.int .i64 (x.value env).n)]),[]):=by
  induction x using BM.ind with
  |h op n kids ih=>
  simp only[BM.op_mk,BM.n_mk,BM.kids_mk]
  (refine Ao rfl Tryz.func75 rfl rfl rfl ?_;show Wp _ _ _ _ (Tryz.f75.body.get rfl) _ _;simp only[Tryz.f75,AP])
  by_cases h1:op=1
  .subst h1;clear ih
   (repeat' (first|simp only[go_sem, *,OZ]|(refine sx ?_ ?_<;>intro hc)|refine sy (by omega) fun x hx hm=>?_|simp(disch:=first|assumption|omega) only[AG]))
  by_cases h2:op=2
  .subst h2;clear ih;obtain⟨hn,hl⟩:=Kf hf;have hl:n.toNat<env.length:=by omega
   clear hf
   (repeat' (first|simp only[go_sem, *,Me,GS]|(refine sx ?_ ?_<;>intro hc)|refine sy (by omega) fun x hx hm=>?_|simp(disch:=first|assumption|omega) only[AG]))
  obtain⟨h3,h4,h5,a,b,rfl,hfa,hfb⟩:=L9 hf h1 h2;have ha:=ih a (by simp) hfa;have hb:=ih b (by simp) hfb;clear ih hf;rw[OY env op n a b h1 h2];generalize a.value env=u at*;generalize b.value env=v at*
  (repeat' (first|simp only[go_sem, *]|(refine sx ?_ ?_<;>intro hc)|refine sy (by omega) fun x hx hm=>?_|simp(disch:=first|assumption|omega) only[AG]))
  all_goals grind [XB,Jr,zx]
mutual
def BM.nodesM:BM→Int→Int
 |.mk _ _ kids,most=>Ee kids 1 most
def Ee:List BM→Int→Int→Int
 |[],n,_=>n
 |k::l,n,most=>if n≤most then Ee l (n+k.nodesM (most-n)) most else n
end
mutual
theorem OC: ∀(x:BM) (most:Int),0≤most→1≤x.nodesM most∧x.nodesM most≤most+1
 |.mk op n kids,most,h=>by
  rw[BM.nodesM];exact Si kids 1 most (by omega) (by omega)
theorem Si: ∀(l:List BM) (n most:Int),1≤n→n≤most+1→1≤Ee l n most∧Ee l n most≤most+1
 |[],n,most,h1,h2=>by simp[Ee];omega
 |k::l,n,most,h1,h2=>by
  rw[Ee];split
  .rename_i h;have:=OC k (most-n) (by omega);exact Si l _ most (by omega) (by omega)
  .omega
end
theorem XA(l:List BM)(n most:Int)(h: ¬n≤most):Ee l n most=n:=by
 cases l<;>simp[Ee,h]
variable{α:Type}{l:List α}
theorem AN{i:Nat}{x:α}(h:l[i]? =some x):l.drop i=x::l.drop (i+1):=by
 have hi:=(BE.1 h).1;rw[List.drop_eq_getElem_cons hi];congr 1;have:=BY hi;rw[h]at this;injection this with this
 exact this.symm
theorem AL{i:Nat}{x:α}(h:l[i]? =some x):i<l.length:=(BE.1 h).1
@[go_sem] theorem Oo(x:BM)(most:Int)(h0:0≤most)(h1:most≤60):BJ (KL Tryz.prog cfg) 121 [.agg [.d (.int .i64 x.op),.d (.int .i64 x.n),.d (.be (x.kids.map Av))],.d (.int .i64 most)] []=.ok (.ret (.d (.int .i64 (x.nodesM most))),[]):=by
  revert most
  induction x using BM.ind with
  |h op n kids ih=>
  intro most h0 h1;simp only[BM.op_mk,BM.n_mk,BM.kids_mk]at*
  (refine Ao rfl Tryz.func121 rfl rfl rfl ?_;show Wp _ _ _ _ (Tryz.f121.body.get rfl) _ _;simp only[Tryz.f121,AP])
  refine aw ?_;refine rounds (S:=fun a:Nat×Int=>⟨[(1,.d (.int .i64 most)),(2,.ptr [0,0] 0),(5,.d (.int .i64 a.2)),(6,.d (.int .i64 a.1))],[([0,0],.box [.d (.int .i64 op),.d (.int .i64 n),.d (.be (kids.map Av))])],1,[]⟩)
   (Inv:=fun a=>a.1≤kids.length∧(a.1:Int)+1≤a.2∧a.2≤most+1∧Ee kids 1 most=Ee (kids.drop a.1) a.2 most) (m:=fun a=>kids.length-a.1) (a:=(0,1)) ⟨by simp,by simp,by simp;omega,by simp⟩ ?_
  rintro⟨i,c⟩ ⟨h2,h3,h4,h5⟩ IH;dsimp only at*
  (repeat' (first|simp only[go_sem, *]|(refine sx ?_ ?_<;>intro hc)|refine sy (by omega) fun x hx hm=>?_|simp(disch:=first|assumption|omega) only[AG,ih]))
  .have h6:=OC x (most-c) (by omega);have h7:Ee (kids.drop i) c most=Ee (kids.drop (i+1)) (c+x.nodesM (most-c)) most:=by
    rw[AN hx,Ee,D7 (by assumption)]
   rw[wrap_id (by omega) (by omega)];simpa only[Int.natCast_add,Int.cast_ofNat_Int]using IH.out (i+1,c+x.nodesM (most-c)) (by dsimp only;omega) ⟨by dsimp only;omega,by dsimp only;omega,by dsimp only;omega,by dsimp only;rw[h5,h7]⟩
  .rw[BM.nodesM,h5,XA _ _ _ (by assumption)]
  .rw[BM.nodesM,h5,D1 (by omega)];rfl
mutual
def BM.size:BM→Nat
 |.mk _ _ kids=>1+DQ kids
def DQ:List BM→Nat
 |[]=>0
 |k::l=>k.size+DQ l
end
mutual
theorem Sj: ∀(x:BM) (most:Int),0≤most→((x.size:Int)≤most→x.nodesM most=x.size)∧(most<x.size→most<x.nodesM most)
 |.mk op n kids,most,h=>by
  rw[BM.nodesM,BM.size];have:=Sg kids 1 most (by omega);constructor
  .intro h1;rw[this.1 (by omega)];omega
  .intro h1;exact this.2 (by omega)
theorem Sg: ∀(l:List BM) (n most:Int),n≤most+1→(n+DQ l≤most→Ee l n most=n+DQ l)∧(most<n+DQ l→most<Ee l n most)
 |[],n,most,h1=>by
  simp[Ee,DQ]
 |k::l,n,most,h1=>by
  rw[Ee,DQ];split
  .rename_i h;have h2:=Sj k (most-n) (by omega);have h3:=OC k (most-n) (by omega);have h4:=Sg l (n+k.nodesM (most-n)) most (by omega);by_cases h5:(k.size:Int)≤most-n
   .rw[h2.1 h5]at h4⊢;constructor
    .intro h6;rw[h4.1 (by omega)];omega
    .intro h6;exact h4.2 (by omega)
   .have:=h2.2 (by omega);constructor
    .intro h6;omega
    .intro h6;exact h4.2 (by omega)
  .omega
end
mutual
def BM.depth:BM→Nat
 |.mk _ _ kids=>DX kids+1
def DX:List BM→Nat
 |[]=>0
 |k::l=>max k.depth (DX l)
end
mutual
theorem VX: ∀(x:BM),x.depth≤x.size
 |.mk op n kids=>by
  rw[BM.depth,BM.size];have:=SD kids;omega
theorem SD: ∀(l:List BM),DX l≤DQ l
 |[]=>by simp[DX,DQ]
 |k::l=>by
  rw[DX,DQ];have:=VX k;have:=SD l;omega
end
theorem Qz{k:BM}: ∀{l:List BM},k∈l→k.size≤DQ l
 |[],h=>by cases h
 |x::l,h=>by
  rw[DQ];rcases DL.1 h with rfl|h
  .omega
  .have:=Qz h;omega
theorem Q0(x:BM):1≤x.size:=by cases x;simp[BM.size]
theorem Sz: ∀(l:List BM),l.length≤DQ l
 |[]=>by simp
 |x::l=>by
  have:=Q0 x;have:=Sz l;simp[DQ];omega
@[go_sem] theorem vu(x:BM)(h0:x.size≤60):BJ (KL Tryz.prog cfg) 122 [.agg [.d (.int .i64 x.op),.d (.int .i64 x.n),.d (.be (x.kids.map Av))]] []=.ok (.ret (.d (.int .i64 x.depth)),[]):=by
  revert h0
  induction x using BM.ind with
  |h op n kids ih=>
  intro h0;simp only[BM.op_mk,BM.n_mk,BM.kids_mk]at*;have hlen:=Sz kids;have hlen2:DQ kids≤59:=by rw[BM.size]at h0;omega
  clear h0;have ih: ∀k∈kids,BJ (KL Tryz.prog cfg) 122 [.agg [.d (.int .i64 k.op),.d (.int .i64 k.n),.d (.be (k.kids.map Av))]] []=.ok (.ret (.d (.int .i64 k.depth)),[]):=fun k hk=>ih k hk (by have:=Qz hk;omega)
  (refine Ao rfl Tryz.func122 rfl rfl rfl ?_;show Wp _ _ _ _ (Tryz.f122.body.get rfl) _ _;simp only[Tryz.f122,AP])
  refine aw ?_;refine rounds (S:=fun a:Nat×Nat=>⟨[(1,.ptr [0,0] 0),(3,.d (.int .i64 a.2)),(4,.d (.int .i64 a.1))],[([0,0],.box [.d (.int .i64 op),.d (.int .i64 n),.d (.be (kids.map Av))])],1,[]⟩)
   (Inv:=fun a=>a.1≤kids.length∧a.2≤60∧DX kids=max a.2 (DX (kids.drop a.1))) (m:=fun a=>kids.length-a.1) (a:=(0,0)) ⟨by simp,by simp,by simp⟩ ?_
  rintro⟨i,c⟩ ⟨h2,h3,h4⟩ IH;dsimp only at*
  (repeat' (first|simp only[go_sem, *]|(refine sx ?_ ?_<;>intro hc)|refine sy (by omega) fun x hx hm=>?_|simp(disch:=first|assumption|omega) only[AG,ih]))
  .have h5:DX (kids.drop i)=max x.depth (DX (kids.drop (i+1))):=by
    rw[AN hx,DX]
   have h6:=VX x;have h7:=Qz hm;have e:(if (x.depth:Int)>(c:Int)then(x.depth:Int)else(c:Int))=((max c x.depth:Nat):Int):=by split<;>omega
   rw[e];simpa only[Int.natCast_add,Int.cast_ofNat_Int]using IH.out (i+1,max c x.depth) (by dsimp only;omega) ⟨by dsimp only;omega,by dsimp only;omega,by dsimp only;omega⟩
  .rw[BM.depth,h4,D1 (by omega)];simp[DX]
def BM.ok(size:Int)(x:BM):Bool:=decide (x.size≤60)&&(decide (x.depth≤12)&&x.formed size)
@[go_sem] theorem rm(size:Int)(x:BM):BJ (KL Tryz.prog cfg) 76 [.agg [.d (.int .i64 x.op),.d (.int .i64 x.n),.d (.be (x.kids.map Av))],.d (.int .i64 size)] []=.ok (.ret (.d (.bool (x.ok size))),[]):=by
  have h1:=Sj x 60 (by omega)
  (refine Ao rfl Tryz.func76 rfl rfl rfl ?_;show Wp _ _ _ _ (Tryz.f76.body.get rfl) _ _;simp only[Tryz.f76,AP])
  by_cases hs:x.size≤60
  .have h2:=h1.1 (by omega);clear h1
   (repeat' (first|simp only[go_sem, *]|(refine sx ?_ ?_<;>intro hc)|refine sy (by omega) fun x hx hm=>?_|simp(disch:=first|assumption|omega) only[AG,Oo]))
   all_goals grind [BM.ok]
  .have h2:=h1.2 (by omega);clear h1
   (repeat' (first|simp only[go_sem, *]|(refine sx ?_ ?_<;>intro hc)|refine sy (by omega) fun x hx hm=>?_|simp(disch:=first|assumption|omega) only[AG,Oo]))
   all_goals grind [BM.ok]
def CZ.ok(v:CZ):Bool:=decide (1≤v.kind)&&(decide (v.kind≤4)&&(!decide (v.kind=1)||(decide (-1000000000≤v.n)&&decide (v.n≤1000000000))))
def GB:AV:=.iface 289 (.agg [.d (.int .i64 2)])
theorem ZL:flat GB=true:=by simp[GB,flat,Et,Dh]
@[go_sem] theorem wI(l:List Df)(h:AB)(id:Abs.Id)(off:Nat):Cp cfg none (.call 189 [.ptr id off]::l) (some GB) h=Tr cfg none l h id off .i64 2 (h.get id):=by
  rw[GB,NM R9 (YO _)]
attribute [go_sem] ZL
@[go_sem] theorem AAL(t:Bool):BJ (KL Tryz.prog cfg) 199 [.d (.bool t)] []=Bg GB t:=by
  cases t
  .rw[Iq]
   (refine Ao rfl Tryz.func199 rfl rfl rfl ?_;show Wp _ _ _ _ (Tryz.f199.body.get rfl) _ _;simp only[Tryz.f199,AP])
   (repeat' (first|simp only[go_sem, *,GB]|(refine sx ?_ ?_<;>intro hc)|refine sy (by omega) fun x hx hm=>?_|simp(disch:=first|assumption|omega) only[AG]))
  .rw[KB]
   (refine Ao rfl Tryz.func199 rfl rfl rfl ?_;show Wp _ _ _ _ (Tryz.f199.body.get rfl) _ _;simp only[Tryz.f199,AP])
   exact au
def K5(op:Int):AV:=
 if op=1 then .iface 314 (.d (.int .i64 0))else if op=7 then .iface 314 (.d (.int .i64 0))else if op=3 then .iface 314 (.d (.int .i64 2))else if op=2 then .iface 307 (.agg [])else if op=5 then .iface 310 (.agg [])
 else if op=6 then .iface 308 (.agg [])else if op=8 then .iface 308 (.agg [])else if op=4 then .iface 309 (.agg [])else .d .i9
theorem GR(op:Int):BJ (KL Tryz.prog cfg) 211 [.d (.int .i64 op)] []=.ok (.ret (K5 op),[]):=by
 (refine Ao rfl Tryz.func211 rfl rfl rfl ?_;show Wp _ _ _ _ (Tryz.f211.body.get rfl) _ _;simp only[Tryz.f211,AP])
 (repeat' (first|simp only[go_sem, *,K5]|(refine sx ?_ ?_<;>intro hc)|refine sy (by omega) fun x hx hm=>?_|simp(disch:=first|assumption|omega) only[AG]))
@[go_sem] theorem AAW:BJ (KL Tryz.prog cfg) 236 [.agg []] []=.ok (.ret (.d (.int .i64 0)),[]):=by
  (refine Ao rfl Tryz.func236 rfl rfl rfl ?_;show Wp _ _ _ _ (Tryz.f236.body.get rfl) _ _;simp only[Tryz.f236,AP])
  exact au
@[go_sem] theorem AAX:BJ (KL Tryz.prog cfg) 237 [.agg []] []=.ok (.ret (.d (.int .i64 1)),[]):=by
  (refine Ao rfl Tryz.func237 rfl rfl rfl ?_;show Wp _ _ _ _ (Tryz.f237.body.get rfl) _ _;simp only[Tryz.f237,AP])
  exact au
@[go_sem] theorem AAY:BJ (KL Tryz.prog cfg) 238 [.agg []] []=.ok (.ret (.d (.int .i64 1)),[]):=by
  (refine Ao rfl Tryz.func238 rfl rfl rfl ?_;show Wp _ _ _ _ (Tryz.f238.body.get rfl) _ _;simp only[Tryz.f238,AP])
  exact au
@[go_sem] theorem AAZ:BJ (KL Tryz.prog cfg) 239 [.agg []] []=.ok (.ret (.d (.int .i64 2)),[]):=by
  (refine Ao rfl Tryz.func239 rfl rfl rfl ?_;show Wp _ _ _ _ (Tryz.f239.body.get rfl) _ _;simp only[Tryz.f239,AP])
  exact au
@[go_sem] theorem AAa(n:Int):BJ (KL Tryz.prog cfg) 240 [.d (.int .i64 n)] []=.ok (.ret (.d (.int .i64 n)),[]):=by
  (refine Ao rfl Tryz.func240 rfl rfl rfl ?_;show Wp _ _ _ _ (Tryz.f240.body.get rfl) _ _;simp only[Tryz.f240,AP])
  exact au
def Bz.own(d:Bz):Nat:=d.ac.length+d.am.length
theorem yY(d:Bz)(h1:d.ac.length≤1000)(h2:d.am.length≤1000):BJ (KL Tryz.prog cfg) 214 [.agg [.d (.be (d.ac.map Ab)),.d (.be (d.am.map AR)),.d (.be (d.rules.map Af))]] []=.ok (.ret (.d (.int .i64 d.own)),[]):=by
 (refine Ao rfl Tryz.func214 rfl rfl rfl ?_;show Wp _ _ _ _ (Tryz.f214.body.get rfl) _ _;simp only[Tryz.f214,AP])
 refine aw ?_;all_goals simp[Bz.own]
theorem vA(d:Bz)(h1:d.ac.length≤1000)(h2:d.am.length≤1000):BJ (KL Tryz.prog cfg) 169 [.agg [.d (.be (d.ac.map Ab)),.d (.be (d.am.map AR)),.d (.be (d.rules.map Af))]] []=.ok (.ret (.d (.int .i64 d.own)),[]):=by
 (refine Ao rfl Tryz.func169 rfl rfl rfl ?_;show Wp _ _ _ _ (Tryz.f169.body.get rfl) _ _;simp only[Tryz.f169,AP])
 refine aw ?_;all_goals simp[Bz.own]
def CD(d:Bz):List Int→Int
 |[]=>0
 |j::l=>((d.ac[j.toNat]?).map Ir.many).getD 0+CD d l
def Bz.joinsOk(d:Bz)(r:L2):Prop:=r.d9.length≤3∧(∀j∈r.d9,0≤j∧j<d.ac.length)∧ ∀c∈d.ac,0≤c.many∧c.many≤3
theorem get_some{α:Type}{l:List α}{i:Nat}(h:i<l.length): ∃y,l[i]? =some y:=⟨_,BY h⟩
theorem dc(d:Bz)(r:L2)(hj:d.joinsOk r):BJ (KL Tryz.prog cfg) 215 [.agg [.d (.be (d.ac.map Ab)),.d (.be (d.am.map AR)),.d (.be (d.rules.map Af))],.agg [.d (.int .i64 r.at_),.d (.be (r.d9.map AO)),.d (.int .i64 r.node)]] []=.ok (.ret (.d (.int .i64 (CD d r.d9))),[]):=by
 obtain⟨h1,h2',h3'⟩:=hj;have h2:=AA.mk h2';have h3:=AA.mk h3';clear h2' h3'
 (refine Ao rfl Tryz.func215 rfl rfl rfl ?_;show Wp _ _ _ _ (Tryz.f215.body.get rfl) _ _;simp only[Tryz.f215,AP])
 refine aw ?_;refine rounds (S:=fun a:Nat×Int=>⟨[(2,.ptr [0,0] 0),(5,.d (.int .i64 a.2)),(9,.d (.be (r.d9.map AO))),(10,.d (.int .i64 r.d9.length)),(11,.d (.int .i64 a.1))],[([0,0],.box [.d (.be (d.ac.map Ab)),.d (.be (d.am.map AR)),.d (.be (d.rules.map Af))])],1,[]⟩)
  (Inv:=fun a=>a.1≤r.d9.length∧0≤a.2∧a.2≤3*a.1∧AA (CD d r.d9=a.2+CD d (r.d9.drop a.1))) (m:=fun a=>r.d9.length-a.1) (a:=(0,0)) ⟨by simp,by simp,by simp,⟨by simp⟩⟩ ?_
 rintro⟨i,c⟩ ⟨k1,k2,k3,k4⟩ IH;dsimp only at*
 (repeat' (first|simp only[go_sem, *]|(refine sx ?_ ?_<;>intro hc)|refine sy (by omega) fun x hx hm=>?_|simp(disch:=first|assumption|omega) only[AG]))
 .have hd:=h2.out x hm;obtain⟨y,hy⟩:=get_some (l:=d.ac) (i:=x.toNat) (by omega);have hy3:=h3.out y (Ap hy);refine aw ?_;refine IH.out (i+1,c+y.many) (by dsimp only;omega) ⟨by dsimp only;omega,by dsimp only;omega,by dsimp only;omega,⟨?_⟩⟩;dsimp only;rw[k4.out,AN hx,CD,hy];simp only[F1,GS];omega
 .rw[k4.out,D1 (by omega),CD,Int.add_zero]
theorem ur(d:Bz)(r:L2)(hj:d.joinsOk r):BJ (KL Tryz.prog cfg) 188 [.agg [.d (.be (d.ac.map Ab)),.d (.be (d.am.map AR)),.d (.be (d.rules.map Af))],.agg [.d (.int .i64 r.at_),.d (.be (r.d9.map AO)),.d (.int .i64 r.node)]] []=.ok (.ret (.d (.int .i64 (CD d r.d9))),[]):=by
 obtain⟨h1,h2',h3'⟩:=hj;have h2:=AA.mk h2';have h3:=AA.mk h3';clear h2' h3'
 (refine Ao rfl Tryz.func188 rfl rfl rfl ?_;show Wp _ _ _ _ (Tryz.f188.body.get rfl) _ _;simp only[Tryz.f188,AP])
 refine aw ?_;refine rounds (S:=fun a:Nat×Int=>⟨[(2,.ptr [0,0] 0),(3,.ptr [0,1] 0),(5,.d (.int .i64 a.2)),(6,.d (.int .i64 a.1))],[([0,0],.box [.d (.be (d.ac.map Ab)),.d (.be (d.am.map AR)),.d (.be (d.rules.map Af))]),([0,1],.box [.d (.int .i64 r.at_),.d (.be (r.d9.map AO)),.d (.int .i64 r.node)])],2,[]⟩)
  (Inv:=fun a=>a.1≤r.d9.length∧0≤a.2∧a.2≤3*a.1∧AA (CD d r.d9=a.2+CD d (r.d9.drop a.1))) (m:=fun a=>r.d9.length-a.1) (a:=(0,0)) ⟨by simp,by simp,by simp,⟨by simp⟩⟩ ?_
 rintro⟨i,c⟩ ⟨k1,k2,k3,k4⟩ IH;dsimp only at*;by_cases hi:i<r.d9.length
 .obtain⟨x,hx⟩:=get_some hi;have hd:=h2.out x (Ap hx);obtain⟨y,hy⟩:=get_some (l:=d.ac) (i:=x.toNat) (by omega);have hy3:=h3.out y (Ap hy);have hi':(i:Int)<r.d9.length:=by omega
  refine aw ?_;refine IH.out (i+1,c+y.many) (by dsimp only;omega) ⟨by dsimp only;omega,by dsimp only;omega,by dsimp only;omega,⟨?_⟩⟩;dsimp only;rw[k4.out,AN hx,CD,hy];simp only[F1,GS];omega
 ·(repeat' (first|simp only[go_sem, *]|(refine sx ?_ ?_<;>intro hc)|refine sy (by omega) fun x hx hm=>?_|simp(disch:=first|assumption|omega) only[AG]))
  .omega
  .rw[k4.out,D1 (by omega),CD,Int.add_zero]
def KJ(b:UInt8):Bool:=decide (97≤b.toNat)&&decide (b.toNat≤122)
def xX:List ByteArray:=[⟨#[97,110,100]⟩,⟨#[100,101,102]⟩,⟨#[101,108,115,101]⟩,⟨#[103,111]⟩,⟨#[105,102]⟩,⟨#[105,110]⟩,⟨#[112,108,97,99,101]⟩,⟨#[115,116,111,112]⟩,⟨#[116,104,101,110]⟩,⟨#[119,97,116,99,104]⟩]
def zr:List (AU×AV):=xX.map fun k=>(.str k,.d (.bool true))
def EP(s:ByteArray):Bool:=decide (1≤s.size)&&(decide (s.size≤8)&&(s.data.toList.all KJ&& !xX.any (· ==s)))
@[go_sem] theorem xU(l:List ByteArray)(s:ByteArray)(hl:l.length≤1000):BJ (KL Tryz.prog cfg) 167 [.d (.be (l.map A0)),.d (.str s)] []=.ok (.ret (.d (.bool (l.any (· ==s)))),[]):=by
  (refine Ao rfl Tryz.func167 rfl rfl rfl ?_;show Wp _ _ _ _ (Tryz.f167.body.get rfl) _ _;simp only[Tryz.f167,AP])
  refine aw ?_;refine rounds (S:=fun i:Nat=>⟨[(0,.d (.be (l.map A0))),(1,.d (.str s)),(5,.d (.int .i64 i))],[],0,[]⟩) (Inv:=fun i=>i≤l.length∧AA (l.any (· ==s)=(l.drop i).any (· ==s))) (m:=fun i=>l.length-i) (a:=0) ⟨by simp,⟨by simp⟩⟩ ?_;rintro i ⟨k1,k2⟩ IH
  (repeat' (first|simp only[go_sem, *]|(refine sx ?_ ?_<;>intro hc)|refine sy (by omega) fun x hx hm=>?_|simp(disch:=first|assumption|omega) only[AG]))
  .rw[k2.out,AN hx,List.any_cons];simp[*]
  .refine IH.out (i+1) (by omega) ⟨by omega,⟨?_⟩⟩;rw[k2.out,AN hx,List.any_cons];simp[*]
  .rw[k2.out,D1 (by omega)];rfl
variable{s:ByteArray}
theorem Qb{v:AV}: ∀{es:List (AU×AV)},Cb es (.str s)=some none→Dj es (.str s) v=es++[(.str s,v)]
 |[],_=>rfl
 |(k,w)::es,h=>by
  unfold Cb at h;unfold Dj;split at h
  .cases h
  .rename_i hk;rw[hk];simp only[Es,Ok,RX];exact Qb h
  .cases h
variable{h:AB}
theorem sq{id:Abs.Id}{es:List (AU×AV)}(hg:h.get id=some (.map es))(hm:Cb es (.str s)=some none):mapPut cfg.T h.get (cfg.T 300) (.mp id) (.d (.str s)) (.d (.bool true))=some ⟨.undef,[(id,.map (es++[(.str s,.d (.bool true))]))]⟩:=by
 unfold mapPut;simp only[wa,KZ,T9,Ia,AV.isCell,No,hg,hm,Qb hm]
theorem nf(id:Abs.Id)(o:Abs.Obj):AB.get [(id,o)] id=some o:=by simp only[Bo,is_self,F3]
@[go_sem] theorem wH(k:Nat)(ρ:List Nat):BJ (KL Tryz.prog cfg) 210 [] (k::ρ)=.ok (.ret (.mp (1::1::k::ρ)),[(1::1::k::ρ,.map zr)]):=by
  (refine Ao rfl Tryz.func210 rfl rfl rfl ?_;show Wp _ _ _ _ (Tryz.f210.body.get rfl) _ _;simp only[Tryz.f210,AP])
  refine aw ?_
  iterate 10 (rw[←wa,sq (nf _ _)];rotate_left;exact rfl;refine aw ?_)
  rfl
theorem Tx: ∀(L:List ByteArray) (s:ByteArray),Cb (L.map fun k=>(AU.str k,.d (.bool true))) (.str s)=some (if L.any (· ==s)=true then some (.d (.bool true))else none)
 |[],s=>by simp[Cb]
 |k::L,s=>by
  rw[Ci,Cb,Fz];cases hk:(k==s)with
  |true=>simp[hk]
  |false=>
   simp only[Tx L s,List.any_cons,hk,Ip]
theorem xY(h:(xX.any fun x=>x==s)=true):Cb zr (.str s)=some (some (.d (.bool true))):=by
 rw[zr,Tx,D7 h]
theorem zt(h:(xX.any fun x=>x==s)=false):Cb zr (.str s)=some none:=by
 rw[zr,Tx,D3 (by rw[h];simp)]
@[go_sem] theorem ABH(s:ByteArray):BJ (KL Tryz.prog cfg) 167 [.d (.be [[.str ⟨#[97,110,100]⟩],[.str ⟨#[100,101,102]⟩],[.str ⟨#[101,108,115,101]⟩],[.str ⟨#[103,111]⟩],[.str ⟨#[105,102]⟩],[.str ⟨#[105,110]⟩],[.str ⟨#[112,108,97,99,101]⟩],[.str ⟨#[115,116,111,112]⟩],[.str ⟨#[116,104,101,110]⟩],[.str ⟨#[119,97,116,99,104]⟩]]),.d (.str s)] []=.ok (.ret (.d (.bool (xX.any (· ==s)))),[]):=xU xX s (by decide)
variable{b:UInt8}
theorem N7(h: ¬(97≤b.toNat∧b.toNat≤122)):KJ b=false:=by
 simp only[KJ,On,decide_eq_false_iff_not];omega
theorem Tu(h:97≤b.toNat∧b.toNat≤122):KJ b=true:=by
 simp only[KJ,AS,As];exact h
theorem pE(s:ByteArray):BJ (KL Tryz.prog cfg) 127 [.d (.str s)] []=.ok (.ret (.d (.bool (EP s))),[]):=by
 have hsz:s.data.toList.length=s.size:=by cases s;rfl
 (refine Ao rfl Tryz.func127 rfl rfl rfl ?_;show Wp _ _ _ _ (Tryz.f127.body.get rfl) _ _;simp only[Tryz.f127,AP])
 (repeat' (first|simp only[go_sem, *]|(refine sx ?_ ?_<;>intro hc)|refine sy (by omega) fun x hx hm=>?_|simp(disch:=first|assumption|omega) only[AG]))
 .rw[EP,Cs (by omega)];rfl
 .rw[EP,Cs (p:=s.size≤8) (by omega),Ce,Gs]
 have h1:1≤s.size:=by omega
 have h8:s.size≤8:=by omega
 refine rounds (S:=fun i:Nat=>⟨[(0,.d (.str s)),(3,.d (.int .i64 i))],[],0,[]⟩) (Inv:=fun i=>i≤s.size∧AA (s.data.toList.all KJ=(s.data.toList.drop i).all KJ)) (m:=fun i=>s.size-i) (a:=0) ⟨by simp,⟨by simp⟩⟩ ?_;rintro i ⟨k1,k2⟩ IH
 (repeat' (first|simp only[go_sem, *]|(refine sx ?_ ?_<;>intro hc)|refine sy (by omega) fun x hx hm=>?_|simp(disch:=first|assumption|omega) only[AG]))
 .have:s.data.toList.all KJ=false:=by rw[k2.out,AN hx,D0,N7 (by omega)];rfl
  simp[EP,this]
 .have:s.data.toList.all KJ=false:=by rw[k2.out,AN hx,D0,N7 (by omega)];rfl
  simp[EP,this]
 .refine IH.out (i+1) (by omega) ⟨by omega,⟨?_⟩⟩;rw[k2.out,AN hx,D0,Tu (by omega)];rfl
 .have:s.data.toList.all KJ=true:=by rw[k2.out,D1 (by omega)];rfl
  simp[EP,this,h1,h8]
theorem uw(s:ByteArray)(hs:s.size≤9223372036854775807):BJ (KL Tryz.prog cfg) 200 [.d (.str s)] []=.ok (.ret (.d (.bool (EP s))),[]):=by
 have hsz:s.data.toList.length=s.size:=by cases s;rfl
 (refine Ao rfl Tryz.func200 rfl rfl rfl ?_;show Wp _ _ _ _ (Tryz.f200.body.get rfl) _ _;simp only[Tryz.f200,AP])
 refine aw ?_;refine rounds (S:=fun i:Nat=>⟨[(0,.d (.str s)),(5,.d (.int .i64 s.size)),(6,.d (.int .i64 i))],[],0,[]⟩) (Inv:=fun i=>i≤s.size∧AA (s.data.toList.all KJ=(s.data.toList.drop i).all KJ)) (m:=fun i=>s.size-i) (a:=0) ⟨by simp,⟨by simp⟩⟩ ?_;rintro i ⟨k1,k2⟩ IH;cases hk:xX.any (· ==s)with
 |false=>
  (repeat' (first|simp only[go_sem, *,zt hk]|(refine sx ?_ ?_<;>intro hc)|refine sy (by omega) fun x hx hm=>?_|simp(disch:=first|assumption|omega) only[AG]))
  .have:s.data.toList.all KJ=false:=by rw[k2.out,AN hx,D0,N7 (by omega)];rfl
   simp[EP,this]
  .have:s.data.toList.all KJ=false:=by rw[k2.out,AN hx,D0,N7 (by omega)];rfl
   simp[EP,this]
  .refine IH.out (i+1) (by omega) ⟨by omega,⟨?_⟩⟩;rw[k2.out,AN hx,D0,Tu (by omega)];rfl
  .have:s.data.toList.all KJ=true:=by rw[k2.out,D1 (by omega)];rfl
   have h1:1≤s.size:=by omega
   have h8:s.size≤8:=by omega
   simp[EP,this,h1,h8,hk]
  .rw[EP,Cs (p:=s.size≤8) (by omega),Ce,Gs]
  .rw[EP,Cs (by omega)];rfl
 |true=>
  (repeat' (first|simp only[go_sem, *,xY hk]|(refine sx ?_ ?_<;>intro hc)|refine sy (by omega) fun x hx hm=>?_|simp(disch:=first|assumption|omega) only[AG]))
  .have:s.data.toList.all KJ=false:=by rw[k2.out,AN hx,D0,N7 (by omega)];rfl
   simp[EP,this]
  .have:s.data.toList.all KJ=false:=by rw[k2.out,AN hx,D0,N7 (by omega)];rfl
   simp[EP,this]
  .refine IH.out (i+1) (by omega) ⟨by omega,⟨?_⟩⟩;rw[k2.out,AN hx,D0,Tu (by omega)];rfl
  .have:s.data.toList.all KJ=true:=by rw[k2.out,D1 (by omega)];rfl
   have h1:1≤s.size:=by omega
   have h8:s.size≤8:=by omega
   simp[EP,this,h1,h8,hk]
  .rw[EP,Cs (p:=s.size≤8) (by omega),Ce,Gs]
  .rw[EP,Cs (by omega)];rfl
set_option maxHeartbeats 4000000
def Rh(x:Int):List Int→Int→Int
 |[],_=> -1
 |y::l,i=>if x=y then i else Rh x l (i+1)
@[go_sem] theorem zo(l:List Int)(v:Int)(hl:l.length≤1000000):BJ (KL Tryz.prog cfg) 220 [.d (.be (l.map AO)),.d (.int .i64 v)] []=.ok (.ret (.d (.int .i64 (Rh v l 0))),[]):=by
  (refine Ao rfl Tryz.func220 rfl rfl rfl ?_;show Wp _ _ _ _ (Tryz.f220.body.get rfl) _ _;simp only[Tryz.f220,AP])
  refine aw ?_;refine rounds (S:=fun i:Nat=>⟨[(0,.d (.be (l.map AO))),(1,.d (.int .i64 v)),(7,.d (.int .i64 l.length)),(8,.d (.int .i64 i))],[],0,[]⟩) (Inv:=fun i=>i≤l.length∧AA (Rh v l 0=Rh v (l.drop i) i)) (m:=fun i=>l.length-i) (a:=0) ⟨by simp,⟨by simp⟩⟩ ?_;rintro i ⟨k1,k2⟩ IH
  (repeat' (first|simp only[go_sem, *]|(refine sx ?_ ?_<;>intro hc)|refine sy (by omega) fun x hx hm=>?_|simp(disch:=first|assumption|omega) only[AG]))
  .subst hc;rw[k2.out,AN hx,Rh,D7 rfl]
  .refine IH.out (i+1) (by omega) ⟨by omega,⟨?_⟩⟩;rw[k2.out,AN hx,Rh,D3 (by assumption)];rfl
  .rw[k2.out,D1 (by omega),Rh]
theorem Wg(v:Int): ∀(l:List Int) (i:Int),0≤i→(0≤Rh v l i↔v∈l)
 |[],i,h=>by simp[Rh]
 |y::l,i,h=>by
  rw[Rh];split
  .rename_i e;simp[e,h]
  .rename_i e;rw[Wg v l (i+1) (by omega)];simp[e]
@[go_sem] theorem VT(l:List Int)(v:Int)(hl:l.length≤1000000):BJ (KL Tryz.prog cfg) 219 [.d (.be (l.map AO)),.d (.int .i64 v)] []=.ok (.ret (.d (.bool (decide (v∈l)))),[]):=by
  have h:=Wg v l 0 (by omega)
  (refine Ao rfl Tryz.func219 rfl rfl rfl ?_;show Wp _ _ _ _ (Tryz.f219.body.get rfl) _ _;simp only[Tryz.f219,AP])
  exact au
theorem Xq(d:Bz)(n:Int)(h:AB)(π:List Nat)(id:Abs.Id)(hg:h.get id=some (.box [.d (.be (d.ac.map Ab)),.d (.be (d.am.map AR)),.d (.be (d.rules.map Af))])):
 ∃o h',KL Tryz.prog cfg (.fn 218) [.d (.int .i64 n),.ptr id 0] h π true none=.ok (o,h')∧h'=h∧o=if 0≤n∧n≤d.am.length then .ret (.f8 [])else .em GB:=by
 (refine Aa rfl Tryz.func218 rfl rfl rfl ?_;show Wp _ _ _ _ (Tryz.f218.body.get rfl) _ _;simp only[Tryz.f218,AP])
 (repeat' (first|simp only[go_sem, *]|(refine sx ?_ ?_<;>intro hc)|refine sy (by omega) fun x hx hm=>?_|simp(disch:=first|assumption|omega) only[AG]))
 all_goals simp
def CG(d:Bz)(c:Ir):Bool:=decide (0≤c.at_∧c.at_≤d.am.length)&&(decide (0≤c.many)&&decide (c.many≤3))
def Cq:Nat→List Lo→Bool
 |_,[]=>true
 |i,s::l=>decide (0≤s.pp)&&(decide (s.pp≤i)&&Cq (i+1) l)
def GI(d:Bz)(r:L2)(i:Nat)(c:Int):Bool:=decide (0≤c)&&(decide (c<d.ac.length)&&(decide (((d.ac[c.toNat]?).map Ir.at_).getD 0=r.at_)&& !decide (c∈r.d9.take i)))
def joinsOk(d:Bz)(r:L2):Nat→List Int→Bool
 |_,[]=>true
 |i,c::l=>GI d r i c&&joinsOk d r (i+1) l
def BR(d:Bz)(r:L2):Bool:=decide (0≤r.at_∧r.at_≤d.am.length)&&(decide (0<r.d9.length)&&(decide (r.d9.length≤3)&&joinsOk d r 0 r.d9))
def NI(l:List Int)(c:Int):List Int:=if c∈l then l else l++[c]
def FQ(l:List Int):List (AU×AV):=l.map fun c=>(.int .i64 c,.d (.bool true))
def FH(l:List Int)(rs:List L2):List Int:=rs.foldl (fun l r=>r.d9.foldl NI l) l
def Bz.okG(d:Bz):Bool:=decide (d.ac.length≤30)&&(decide (d.am.length≤30)&&(decide (d.rules.length≤30)&&(d.ac.all (CG d)&&(Cq 0 d.am&&(d.rules.all (BR d)&&decide ((FH [] d.rules).length=d.ac.length))))))
def G6(v:AV)(t:Bool):Ae×AB:=if t=true then(.ret (.f8 []),[])else(.em v,[])
theorem cB(v:AV):G6 v true=(.ret (.f8 []),[]):=rfl
theorem Cn(v:AV):G6 v false=(.em v,[]):=rfl
theorem Q8(v:AV)(t:Bool):Bg v t=.ok (G6 v t):=by cases t<;>rfl
theorem bw(st:List Int)(c:Int):Cb (FQ st) (.int .i64 c)=some (if c∈st then some (.d (.bool true))else none):=by
 induction st with
 |nil=>rfl
 |cons a st ih=>
  show Cb ((.int .i64 a,.d (.bool true))::FQ st) _=_;rw[Cb,Fz];simp only[F3];by_cases h:a=c
  .subst h;simp
  .have h1:(a==c)=false:=by simpa using h
   have h2: ¬c=a:=fun e=>h e.symm;rw[h1,ih];simp[h2]
theorem bz(st:List Int)(c:Int):Dj (FQ st) (.int .i64 c) (.d (.bool true))=FQ (NI st c):=by
 induction st with
 |nil=>rfl
 |cons a st ih=>
  show Dj ((.int .i64 a,.d (.bool true))::FQ st) _ _=_;rw[Dj,Fz];simp only[F3];by_cases h:a=c
  .subst h;simp[NI,FQ]
  .have h1:(a==c)=false:=by simpa using h
   have h2: ¬c=a:=fun e=>h e.symm;rw[h1];simp only;rw[ih];simp only[NI,DL,h2,false_or];split<;>rfl
theorem so{id:Abs.Id}{st:List Int}{c:Int}(hg:h.get id=some (.map (FQ st))):mapPut cfg.T h.get (cfg.T 315) (.mp id) (.d (.int .i64 c)) (.d (.bool true))=some ⟨.undef,[(id,.map (FQ (NI st c)))]⟩:=by
 unfold mapPut;simp only[wb,KZ,T3,Ia,AV.isCell,No,hg,bw,bz]
@[go_sem] theorem yh(st:List Int):(FQ st).flatMap (fun p=>AD p.2)=[]:=by
  induction st with
  |nil=>rfl
  |cons a st ih=>exact ih
@[go_sem] theorem yi(ν:Abs.Id→Option Abs.Id)(st:List Int):(FQ st).map (fun p=>(p.1,Lj ν p.2))=FQ st:=by
  induction st with
  |nil=>rfl
  |cons a st ih=>exact congrArg (List.cons _) ih
theorem aD{d:Bz}(h:d.ac.all (CG d)=false):d.okG=false:=by simp only[Bz.okG,h,Ce,Gs]
theorem pR{d:Bz}(h:Cq 0 d.am=false):d.okG=false:=by simp only[Bz.okG,h,Ce,Gs]
theorem UB{d:Bz}(h:d.rules.all (BR d)=false):d.okG=false:=by simp only[Bz.okG,h,Ce,Gs]
theorem yV{d:Bz}(h: ¬(FH [] d.rules).length=d.ac.length):d.okG=false:=by simp only[Bz.okG,Cs h,Gs]
theorem wz(d:Bz):BJ (KL Tryz.prog cfg) 213 [.agg [.d (.be (d.ac.map Ab)),.d (.be (d.am.map AR)),.d (.be (d.rules.map Af))]] []=.ok (G6 GB d.okG):=by
 (refine Ao rfl Tryz.func213 rfl rfl rfl ?_;show Wp _ _ _ _ (Tryz.f213.body.get rfl) _ _;simp only[Tryz.f213,AP])
 (repeat' (first|simp only[go_sem, *]|(refine sx ?_ ?_<;>intro hc)|refine sy (by omega) fun x hx hm=>?_|simp(disch:=first|assumption|omega) only[AG]))
 all_goals try(rw[show d.okG=false by simp[Bz.okG];omega,Cn])
 have c1:d.ac.length≤30:=by omega
 have c2:d.am.length≤30:=by omega
 have c3:d.rules.length≤30:=by omega
 refine rounds (S:=fun i:Nat=>⟨[(1,.ptr [0,0] 0),(2,.fn 218 [] [.ptr [0,0] 0]),(31,.d (.be (d.ac.map Ab))),(32,.d (.int .i64 d.ac.length)),(33,.d (.int .i64 i))],[([0,0],.box [.d (.be (d.ac.map Ab)),.d (.be (d.am.map AR)),.d (.be (d.rules.map Af))])],1,[]⟩)
  (Inv:=fun i=>i≤d.ac.length∧AA (d.ac.all (CG d)=(d.ac.drop i).all (CG d))) (m:=fun i=>d.ac.length-i) (a:=0) ⟨by simp,⟨by simp⟩⟩ ?_
 clear hc;rintro i ⟨k1,k2⟩ IH
 (repeat' (first|simp only[go_sem, *]|(refine sx ?_ ?_<;>intro hc)|refine sy (by omega) fun x hx hm=>?_|simp(disch:=first|assumption|omega) only[AG]))
 .refine AW (Xq d x.at_ _ _ _ ?_) (fun o1 g1 p1=>?_)
  .simp only[go_sem]
  obtain⟨rfl,rfl⟩:=p1;by_cases kp:0≤x.at_∧x.at_≤d.am.length
  .rw[D7 kp]
   (repeat' (first|simp only[go_sem, *]|(refine sx ?_ ?_<;>intro hc)|refine sy (by omega) fun x hx hm=>?_|simp(disch:=first|assumption|omega) only[AG]))
   .refine IH.out (i+1) (by omega) ⟨by omega,⟨?_⟩⟩;rw[k2.out,AN hx,D0,show CG d x=true by simp[CG, *],F0]
   .rw[aD,Cn];rw[k2.out,AN hx,D0,show CG d x=false by simp[CG, *],Ce]
   .rw[aD,Cn];rw[k2.out,AN hx,D0,show CG d x=false by simp[CG, *],Ce]
  .rw[D3 kp];refine aw ?_;rw[aD,Cn];rw[k2.out,AN hx,D0,show CG d x=false by simp only[CG,Cs kp,Ce],Ce]
 have hch:d.ac.all (CG d)=true:=by rw[k2.out,D1 (by omega)];rfl
 clear hc k1 k2 IH i;refine rounds (S:=fun i:Nat=>⟨[(1,.ptr [0,0] 0),(2,.fn 218 [] [.ptr [0,0] 0]),(52,.d (.be (d.am.map AR))),(53,.d (.int .i64 d.am.length)),(54,.d (.int .i64 i))],[([0,0],.box [.d (.be (d.ac.map Ab)),.d (.be (d.am.map AR)),.d (.be (d.rules.map Af))])],1,[]⟩)
  (Inv:=fun i=>i≤d.am.length∧AA (Cq 0 d.am=Cq i (d.am.drop i))) (m:=fun i=>d.am.length-i) (a:=0) ⟨by simp,⟨by simp⟩⟩ ?_
 rintro i ⟨k1,k2⟩ IH
 (repeat' (first|simp only[go_sem, *]|(refine sx ?_ ?_<;>intro hc)|refine sy (by omega) fun x hx hm=>?_|simp(disch:=first|assumption|omega) only[AG]))
 .refine IH.out (i+1) (by omega) ⟨by omega,⟨?_⟩⟩;rw[k2.out,AN hx,Cq];simp[*]
 .rw[pR,Cn];rw[k2.out,AN hx,Cq];simp[*]
 .rw[pR,Cn];rw[k2.out,AN hx,Cq];simp[*]
 have hsp:Cq 0 d.am=true:=by rw[k2.out,D1 (by omega)];rfl
 clear hc k1 k2 IH i;refine rounds (S:=fun a:Nat×List Int=>⟨[(1,.ptr [0,0] 0),(2,.fn 218 [] [.ptr [0,0] 0]),(7,.mp [1,1]),(72,.d (.be (d.rules.map Af))),(73,.d (.int .i64 d.rules.length)),(74,.d (.int .i64 a.1))],[([0,0],.box [.d (.be (d.ac.map Ab)),.d (.be (d.am.map AR)),.d (.be (d.rules.map Af))]),([1,1],.map (FQ a.2))],2,[]⟩)
  (Inv:=fun a=>a.1≤d.rules.length∧AA (d.rules.all (BR d)=(d.rules.drop a.1).all (BR d))∧AA (FH [] d.rules=FH a.2 (d.rules.drop a.1))) (m:=fun a=>d.rules.length-a.1) (a:=(0,[])) ⟨by simp,⟨by simp⟩,⟨by simp⟩⟩ ?_
 rintro⟨i,st⟩ ⟨k1,k2,k3⟩ IH;dsimp only at*;by_cases hi:i<d.rules.length
 .obtain⟨r,hx⟩:=get_some hi;have hi':(i:Int)<d.rules.length:=by omega
  refine aw ?_;refine AW (Xq d r.at_ _ _ _ ?_) (fun o1 g1 p1=>?_)
  .simp only[go_sem]
  obtain⟨rfl,rfl⟩:=p1;by_cases kp:0≤r.at_∧r.at_≤d.am.length
  .rw[D7 kp]
   (repeat' (first|simp only[go_sem, *]|(refine sx ?_ ?_<;>intro hc)|refine sy (by omega) fun x hx hm=>?_|simp(disch:=first|assumption|omega) only[AG]))
   ·
    refine rounds (S:=fun a:Nat×List Int=>⟨[(1,.ptr [0,0] 0),(2,.fn 218 [] [.ptr [0,0] 0]),(7,.mp [1,1]),(9,.ptr [0,2] 0),(72,.d (.be (d.rules.map Af))),(73,.d (.int .i64 d.rules.length)),(74,.d (.int .i64 i)),(94,.d (.be (r.d9.map AO))),(95,.d (.int .i64 r.d9.length)),(96,.d (.int .i64 a.1))],[([0,0],.box [.d (.be (d.ac.map Ab)),.d (.be (d.am.map AR)),.d (.be (d.rules.map Af))]),([1,1],.map (FQ a.2)),([0,2],.box [.d (.int .i64 r.at_),.d (.be (r.d9.map AO)),.d (.int .i64 r.node)])],3,[]⟩)
     (Inv:=fun a=>a.1≤r.d9.length∧AA (joinsOk d r 0 r.d9=joinsOk d r a.1 (r.d9.drop a.1))∧AA (FH [] d.rules=FH ((r.d9.drop a.1).foldl NI a.2) (d.rules.drop (i+1)))) (m:=fun a=>r.d9.length-a.1) (a:=(0,st)) ⟨by simp,⟨by simp⟩,⟨by rw[k3.out,AN hx];rfl⟩⟩ ?_
    rintro⟨k,st2⟩ ⟨j1,j2,j3⟩ IH2;dsimp only at*;by_cases hk:k<r.d9.length
    .obtain⟨c,hy⟩:=get_some hk;have hk':(k:Int)<r.d9.length:=by omega
     have hlt:(r.d9.take k).length≤1000000:=by simp;omega
     have hbad:AA (GI d r k c=false→(Ae.em GB,([]:AB))=G6 GB d.okG):=.mk fun hb=>by
      have hj:joinsOk d r 0 r.d9=false:=by rw[j2.out,AN hy,joinsOk,hb,Ce]
      rw[UB,Cn];rw[k2.out,AN hx,D0,show BR d r=false by simp only[BR,hj,Gs],Ce]
     by_cases hc0:0≤c
     .by_cases hc1:c<d.ac.length
      .obtain⟨y,hyc⟩:=get_some (l:=d.ac) (i:=c.toNat) (by omega);have hjo:GI d r k c=(decide (y.at_=r.at_)&& !decide (c∈r.d9.take k)):=by
        simp only[GI,hyc,F1,GS,DO hc0,DO hc1,F0]
       (repeat' (first|simp only[go_sem, *]|(refine sx ?_ ?_<;>intro hc)|refine sy (by omega) fun x hx hm=>?_|simp(disch:=first|assumption|omega) only[AG,VT]))
       .rw[←wb,so (st:=st2) (by simp only[go_sem])];refine aw ?_;refine IH2.out (k+1,NI st2 c) (by dsimp only;omega) ⟨by dsimp only;omega,⟨?_⟩,⟨?_⟩⟩
        .dsimp only;rw[j2.out,AN hy,joinsOk,hjo];simp only[*,decide_true,decide_false,Nl,OK,F0,Ce]
        .dsimp only;rw[j3.out,AN hy,MT]
       .exact hbad.out (by rw[hjo];simp only[*,decide_true,decide_false,Nl,OK,F0,Ce])
       .exact hbad.out (by rw[hjo,Cs (by assumption),Ce])
      .refine aw ?_;exact hbad.out (by simp only[GI,Cs hc1,Ce,Gs])
     .refine aw ?_;exact hbad.out (by simp only[GI,Cs hc0,Ce])
    .have hk': ¬(k:Int)<r.d9.length:=by omega
     refine aw ?_;refine IH.out (i+1,st2) (by dsimp only;omega) ⟨by dsimp only;omega,⟨?_⟩,⟨?_⟩⟩
     .dsimp only;rw[k2.out,AN hx,D0,show BR d r=true by
       rw[D1 (by omega)]at j2;simp only[BR,DO kp,j2.out,joinsOk];simp;omega,F0]
     .dsimp only;rw[j3.out,D1 (by omega)];rfl
   .rw[UB,Cn];rw[k2.out,AN hx,D0,show BR d r=false by simp[BR];omega,Ce]
   .rw[UB,Cn];rw[k2.out,AN hx,D0,show BR d r=false by simp[BR];omega,Ce]
  .rw[D3 kp];refine aw ?_;rw[UB,Cn];rw[k2.out,AN hx,D0,show BR d r=false by simp only[BR,Cs kp,Ce],Ce]
 .have hi': ¬(i:Int)<d.rules.length:=by omega
  have hru:d.rules.all (BR d)=true:=by rw[k2.out,D1 (by omega)];rfl
  have hst:(FH [] d.rules).length=(FQ st).length:=by
   rw[k3.out,D1 (by omega)];simp[FH,FQ]
  (repeat' (first|simp only[go_sem, *]|(refine sx ?_ ?_<;>intro hc)|refine sy (by omega) fun x hx hm=>?_|simp(disch:=first|assumption|omega) only[AG]))
  .rw[show d.okG=true by
    simp only[Bz.okG,hch,hsp,hru,DO c1,DO c2,DO c3,F0,As];omega,cB]
  .rw[yV (by omega),Cn]
def B7(t:Bool):List AU:=[.bool t]
attribute [go_sem] B7
def Mc(u:List Bool)(c:Int):List Bool:=u.set c.toNat true
def LB(u:List Bool)(rs:List L2):List Bool:=rs.foldl (fun u r=>r.d9.foldl Mc u) u
def Bz.okR(d:Bz):Bool:=decide (d.ac.length≤30)&&(decide (d.am.length≤30)&&(decide (d.rules.length≤30)&&(d.ac.all (CG d)&&(Cq 0 d.am&&(d.rules.all (BR d)&&(LB (List.replicate d.ac.length false) d.rules).all id)))))
theorem UC{d:Bz}(h:d.ac.all (CG d)=false):d.okR=false:=by simp only[Bz.okR,h,Ce,Gs]
theorem pS{d:Bz}(h:Cq 0 d.am=false):d.okR=false:=by simp only[Bz.okR,h,Ce,Gs]
theorem OD{d:Bz}(h:d.rules.all (BR d)=false):d.okR=false:=by simp only[Bz.okR,h,Ce,Gs]
theorem yW{d:Bz}(h:(LB (List.replicate d.ac.length false) d.rules).all id=false):d.okR=false:=by simp only[Bz.okR,h,Gs]
theorem rL(d:Bz):BJ (KL Tryz.prog cfg) 128 [.agg [.d (.be (d.ac.map Ab)),.d (.be (d.am.map AR)),.d (.be (d.rules.map Af))]] []=.ok (.ret (.d (.bool d.okR)),[]):=by
 (refine Ao rfl Tryz.func128 rfl rfl rfl ?_;show Wp _ _ _ _ (Tryz.f128.body.get rfl) _ _;simp only[Tryz.f128,AP])
 (repeat' (first|simp only[go_sem, *]|(refine sx ?_ ?_<;>intro hc)|refine sy (by omega) fun x hx hm=>?_|simp(disch:=first|assumption|omega) only[AG]))
 all_goals try(rw[show d.okR=false by simp[Bz.okR];omega])
 have c1:d.ac.length≤30:=by omega
 have c2:d.am.length≤30:=by omega
 have c3:d.rules.length≤30:=by omega
 refine rounds (S:=fun i:Nat=>⟨[(1,.ptr [0,0] 0),(3,.d (.int .i64 i))],[([0,0],.box [.d (.be (d.ac.map Ab)),.d (.be (d.am.map AR)),.d (.be (d.rules.map Af))])],1,[]⟩)
  (Inv:=fun i=>i≤d.ac.length∧AA (d.ac.all (CG d)=(d.ac.drop i).all (CG d))) (m:=fun i=>d.ac.length-i) (a:=0) ⟨by simp,⟨by simp⟩⟩ ?_
 clear hc;rintro i ⟨k1,k2⟩ IH
 (repeat' (first|simp only[go_sem, *]|(refine sx ?_ ?_<;>intro hc)|refine sy (by omega) fun x hx hm=>?_|simp(disch:=first|assumption|omega) only[AG]))
 .rw[UC];rw[k2.out,AN hx,D0,show CG d x=false by simp[CG];omega,Ce]
 .rw[UC];rw[k2.out,AN hx,D0,show CG d x=false by simp[CG];omega,Ce]
 .rw[UC];rw[k2.out,AN hx,D0,show CG d x=false by simp[CG];omega,Ce]
 .rw[UC];rw[k2.out,AN hx,D0,show CG d x=false by simp[CG];omega,Ce]
 .refine IH.out (i+1) (by omega) ⟨by omega,⟨?_⟩⟩;rw[k2.out,AN hx,D0,show CG d x=true by simp[CG];omega,F0]
 have hch:d.ac.all (CG d)=true:=by rw[k2.out,D1 (by omega)];rfl
 clear hc k1 k2 IH i;refine rounds (S:=fun i:Nat=>⟨[(1,.ptr [0,0] 0),(4,.d (.int .i64 i))],[([0,0],.box [.d (.be (d.ac.map Ab)),.d (.be (d.am.map AR)),.d (.be (d.rules.map Af))])],1,[]⟩)
  (Inv:=fun i=>i≤d.am.length∧AA (Cq 0 d.am=Cq i (d.am.drop i))) (m:=fun i=>d.am.length-i) (a:=0) ⟨by simp,⟨by simp⟩⟩ ?_
 rintro i ⟨k1,k2⟩ IH
 (repeat' (first|simp only[go_sem, *]|(refine sx ?_ ?_<;>intro hc)|refine sy (by omega) fun x hx hm=>?_|simp(disch:=first|assumption|omega) only[AG]))
 .rw[pS];rw[k2.out,AN hx,Cq];simp;omega
 .rw[pS];rw[k2.out,AN hx,Cq];simp;omega
 .refine IH.out (i+1) (by omega) ⟨by omega,⟨?_⟩⟩;rw[k2.out,AN hx,Cq,DO (by omega),DO (by omega),F0,F0]
 have hsp:Cq 0 d.am=true:=by rw[k2.out,D1 (by omega)];rfl
 by_cases hz:d.ac=[]
 .rw[hz];clear hc k1 k2 IH;refine aw ?_;rw[Cf];have hcl:d.ac.length=0:=by rw[hz];rfl
  rcases hr:d.rules with _|⟨r,rs⟩
  .refine aw ?_;rw[Cf];refine aw ?_;rw[show d.okR=true by
    simp only[Bz.okR,hch,hsp,hr,hz,LB];simp;exact c2]
  .have hno:AA (BR d r=false→false=d.okR):=.mk fun h=>by
    rw[OD];rw[hr,D0,h,Ce]
   clear hch;rcases hj:r.d9 with _|⟨c,cs⟩
   ·(repeat' (first|simp only[go_sem, *]|(refine sx ?_ ?_<;>intro hc)|refine sy (by omega) fun x hx hm=>?_|simp(disch:=first|assumption|omega) only[AG]))
    all_goals first|(rw[←hno.out (by simp[BR,hj])];done)|(exfalso;omega)
   .have hno:=AA.mk (hno.out (by
     have:joinsOk d r 0 r.d9=false:=by
      rw[hj,joinsOk,GI,hcl];by_cases h0:0≤c
      .rw[Cs (p:=c<((0:Nat):Int)) (by omega)];simp
      .rw[Cs h0];simp
     simp only[BR,this,Gs]))
    (repeat' (first|simp only[go_sem, *]|(refine sx ?_ ?_<;>intro hc)|refine sy (by omega) fun x hx hm=>?_|simp(disch:=first|assumption|omega) only[AG]))
    all_goals try first|(rw[←hno.out];done)|(exfalso;omega)
    rw[Cf]
    (repeat' (first|simp only[go_sem, *]|(refine sx ?_ ?_<;>intro hc)|refine sy (by omega) fun x hx hm=>?_|simp(disch:=first|assumption|omega) only[AG]))
    all_goals first|(rw[←hno.out];done)|(exfalso;omega)
 have hpos:0<d.ac.length:=List.length_pos_iff.2 hz;rw[N8 (zs:=[.bool false]) hpos (by unfold BD;omega) rfl rfl (by decide) rfl];clear hc k1 k2 IH;refine aw ?_;have hrep:(List.replicate d.ac.length [AU.bool false])=(List.replicate d.ac.length false).map B7:=by rw[Mt];rfl
 rw[hrep];have hul:(List.replicate d.ac.length false).length=d.ac.length:=It;refine rounds (S:=fun a:Nat×List Bool=>⟨[(1,.ptr [0,0] 0),(5,.d8 [1,1] 0 d.ac.length),(6,.d (.int .i64 a.1))],[([0,0],.box [.d (.be (d.ac.map Ab)),.d (.be (d.am.map AR)),.d (.be (d.rules.map Af))]),([1,1],.d6 1 (a.2.map B7))],2,[]⟩)
  (Inv:=fun a=>a.1≤d.rules.length∧a.2.length=d.ac.length∧AA (d.rules.all (BR d)=(d.rules.drop a.1).all (BR d))∧AA (LB (List.replicate d.ac.length false) d.rules=LB a.2 (d.rules.drop a.1))) (m:=fun a=>d.rules.length-a.1) (a:=(0,List.replicate d.ac.length false)) ⟨by simp,hul,⟨by simp⟩,⟨by simp⟩⟩ ?_
 clear hrep hul;rintro⟨i,u⟩ ⟨k1,k0,k2,k3⟩ IH;dsimp only at*;by_cases hi:i<d.rules.length
 .obtain⟨r,hx⟩:=get_some hi;have hi':(i:Int)<d.rules.length:=by omega
  (repeat' (first|simp only[go_sem, *]|(refine sx ?_ ?_<;>intro hc)|refine sy (by omega) fun x hx hm=>?_|simp(disch:=first|assumption|omega) only[AG]))
  .rw[OD];rw[k2.out,AN hx,D0,show BR d r=false by simp[BR];omega,Ce]
  .rw[OD];rw[k2.out,AN hx,D0,show BR d r=false by simp[BR];omega,Ce]
  .rw[OD];rw[k2.out,AN hx,D0,show BR d r=false by simp[BR];omega,Ce]
  .rw[OD];rw[k2.out,AN hx,D0,show BR d r=false by simp[BR];omega,Ce]
  refine rounds (S:=fun a:Nat×List Bool=>⟨[(1,.ptr [0,0] 0),(5,.d8 [1,1] 0 d.ac.length),(6,.d (.int .i64 i)),(7,.ptr [0,2] 0),(8,.d (.int .i64 a.1))],[([0,0],.box [.d (.be (d.ac.map Ab)),.d (.be (d.am.map AR)),.d (.be (d.rules.map Af))]),([1,1],.d6 1 (a.2.map B7)),([0,2],.box [.d (.int .i64 r.at_),.d (.be (r.d9.map AO)),.d (.int .i64 r.node)])],3,[]⟩)
   (Inv:=fun a=>a.1≤r.d9.length∧a.2.length=d.ac.length∧AA (joinsOk d r 0 r.d9=joinsOk d r a.1 (r.d9.drop a.1))∧AA (LB (List.replicate d.ac.length false) d.rules=LB ((r.d9.drop a.1).foldl Mc a.2) (d.rules.drop (i+1)))) (m:=fun a=>r.d9.length-a.1) (a:=(0,u)) ⟨by simp,k0,⟨by simp⟩,⟨by rw[k3.out,AN hx];rfl⟩⟩ ?_
  rintro⟨k,u2⟩ ⟨j1,j0,j2,j3⟩ IH2;dsimp only at*;by_cases hk:k<r.d9.length
  .obtain⟨c,hy⟩:=get_some hk;have hk':(k:Int)<r.d9.length:=by omega
   have hbad:AA (GI d r k c=false→false=d.okR):=.mk fun hb=>by
    have hj:joinsOk d r 0 r.d9=false:=by rw[j2.out,AN hy,joinsOk,hb,Ce]
    rw[OD];rw[k2.out,AN hx,D0,show BR d r=false by simp only[BR,hj,Gs],Ce]
   by_cases hc0:c<0
   .refine aw ?_;rw[←hbad.out (by simp only[GI,Cs (show¬0≤c by omega),Ce])]
   by_cases hc1:(d.ac.length:Int)≤c
   .refine aw ?_;rw[←hbad.out (by simp only[GI,Cs (show¬c<d.ac.length by omega),Ce,Gs])]
   obtain⟨y,hyc⟩:=get_some (l:=d.ac) (i:=c.toNat) (by omega);have hjo:GI d r k c=(decide (y.at_=r.at_)&& !decide (c∈r.d9.take k)):=by
    simp only[GI,hyc,F1,GS,DO (show 0≤c by omega),DO (show c<d.ac.length by omega),F0]
   have hc2:0≤c:=by omega
   (repeat' (first|simp only[go_sem, *]|(refine sx ?_ ?_<;>intro hc)|refine sy (by omega) fun x hx hm=>?_|simp(disch:=first|assumption|omega) only[AG]))
   .refine rounds (S:=fun m:Nat=>⟨[(1,.ptr [0,0] 0),(5,.d8 [1,1] 0 d.ac.length),(6,.d (.int .i64 i)),(7,.ptr [0,2] 0),(8,.d (.int .i64 k)),(9,.d (.int .i64 c)),(10,.d (.int .i64 m))],[([0,0],.box [.d (.be (d.ac.map Ab)),.d (.be (d.am.map AR)),.d (.be (d.rules.map Af))]),([1,1],.d6 1 (u2.map B7)),([0,2],.box [.d (.int .i64 r.at_),.d (.be (r.d9.map AO)),.d (.int .i64 r.node)])],3,[]⟩)
     (Inv:=fun m=>m≤k∧AA (c∉r.d9.take m)) (m:=fun m=>k-m) (a:=0) ⟨by simp,⟨by simp⟩⟩ ?_
    rintro m ⟨m1,m2⟩ IH3;by_cases hm:m<k
    .obtain⟨v,hv⟩:=get_some (l:=r.d9) (i:=m) (by omega);have hm':(m:Int)<k:=by omega
     have htk:r.d9.take (m+1)=r.d9.take m++[v]:=by rw[I5,hv];rfl
     (repeat' (first|simp only[go_sem, *]|(refine sx ?_ ?_<;>intro hc)|refine sy (by omega) fun x hx hm=>?_|simp(disch:=first|assumption|omega) only[AG]))
     .have:c∈r.d9.take k:=by
       rw[←hc];have:(r.d9.take k)[m]? =some v:=by rw[List.getElem?_take_of_lt hm,hv]
       exact Ap this
      rw[←hbad.out (by rw[hjo,DO this];simp)]
     .refine IH3.out (m+1) (by omega) ⟨by omega,⟨?_⟩⟩;rw[htk];simp only[F2,Ac,not_or];exact⟨m2.out,fun h=>by simp_all⟩
    .have hm': ¬(m:Int)<k:=by omega
     have hcl:c.toNat<d.ac.length:=by omega
     obtain⟨t,ht⟩:=get_some (l:=u2) (i:=c.toNat) (by omega);have hmk:m=k:=by omega
     subst hmk;refine aw ?_;have e:(u2.map B7).set c.toNat [AU.bool true]=(Mc u2 c).map B7:=by rw[Mc,Ms];rfl
     rw[e];refine IH2.out (m+1,Mc u2 c) (by dsimp only;omega) ⟨by dsimp only;omega,by simp[Mc,j0],⟨?_⟩,⟨?_⟩⟩
     .dsimp only;rw[j2.out,AN hy,joinsOk,hjo,DO (by assumption),Cs m2.out];rfl
     .dsimp only;rw[j3.out,AN hy,MT]
   .rw[←hbad.out (by rw[hjo,Cs (by assumption),Ce])]
  .have hk': ¬(k:Int)<r.d9.length:=by omega
   refine aw ?_;refine IH.out (i+1,u2) (by dsimp only;omega) ⟨by dsimp only;omega,j0,⟨?_⟩,⟨?_⟩⟩
   .dsimp only;rw[k2.out,AN hx,D0,show BR d r=true by
     rw[D1 (by omega)]at j2;simp only[BR,j2.out,joinsOk];simp;omega,F0]
   .dsimp only;rw[j3.out,D1 (by omega)];rfl
 .have hi': ¬(i:Int)<d.rules.length:=by omega
  refine aw ?_;have hru:d.rules.all (BR d)=true:=by rw[k2.out,D1 (by omega)];rfl
  have hus:LB (List.replicate d.ac.length false) d.rules=u:=by rw[k3.out,D1 (by omega)];rfl
  refine rounds (S:=fun i:Nat=>⟨[(5,.d8 [1,0] 0 d.ac.length),(11,.d (.int .i64 i))],[([1,0],.d6 1 (u.map B7))],1,[]⟩)
   (Inv:=fun i=>i≤d.ac.length∧AA (u.all id=(u.drop i).all id)) (m:=fun i=>d.ac.length-i) (a:=0) ⟨by simp,⟨by simp⟩⟩ ?_
  clear k1 k2 k3 IH hi hi' i;rintro i ⟨k1,k2⟩ IH;have hus:=AA.mk hus;by_cases hi:i<d.ac.length
  .obtain⟨t,ht⟩:=get_some (l:=u) (i:=i) (by omega);have hi':(i:Int)<d.ac.length:=by omega
   cases t
   .refine aw ?_;rw[yW (by rw[hus.out,k2.out,AN ht,D0];rfl)]
   .refine aw ?_;refine IH.out (i+1) (by omega) ⟨by omega,⟨?_⟩⟩;rw[k2.out,AN ht,D0];rfl
  .have hi': ¬(i:Int)<d.ac.length:=by omega
   have hall:u.all id=true:=by rw[k2.out,D1 (by omega)];rfl
   refine aw ?_;rw[show d.okR=true by
    simp only[Bz.okR,hch,hsp,hru,hus.out,hall,DO c1,DO c2,DO c3,No]]
def Cz(op:Int):Option Nat:=
 if op=1 then some 0 else if op=7 then some 0 else if op=3 then some 2 else if op=2 then some 0 else if op=5 then some 2
 else if op=6 then some 1 else if op=8 then some 1 else if op=4 then some 1 else none
def DV(x:CT):Bool:=if x.op=2 then decide (x.args.length≤3)else if x.op=5 then decide (x.args.length=1)else decide (x.args.length=0)
def UA(p:AK)(size:Int)(x:CT):Bool:=if x.op=2∨x.op=6∨x.op=8 then decide (0≤x.n∧x.n<size)else if x.op=4 then decide (0≤x.n∧x.n<p.defs.length)else decide (x.n=0)
def CV(p:AK)(size:Int)(x:CT):Bool:=decide (Cz x.op=some x.kids.length)&&(UA p size x&&(DV x&&x.args.all (BM.ok size)))
structure BF where
 bv:List Int
 met:List Bool
 defs:List Bool
def Bl(f:Int→Int→BF→Option BF):List (Int×Int)→BF→Option BF
 |[],st=>some st
 |(n,s)::l,st=>match f n s st with
  |some st'=>Bl f l st'
  |none=>none
def CK(d:Bz)(size:Int)(l:List L2):List (Int×Int):=l.map fun r=>(r.node,size+CD d r.d9)
def Bt(size:Int)(l:List Lo):List (Int×Int):=l.map fun s=>(s.node,size)
def Bm(size:Int)(l:List Int):List (Int×Int):=l.map fun k=>(k,size)
def PH(p:AK)(size:Int)(x:CT)(st:BF):Option (List (Int×Int)×BF):=
 if x.op=4 then match p.defs[x.n.toNat]? with
  |some d=>if st.defs[x.n.toNat]? =some false∧d.okG=true then some (CK d (size+d.own) d.rules++(Bt (size+d.own) d.am++Bm (size+d.own) x.kids),{st with defs:=st.defs.set x.n.toNat true})else none
  |none=>none
 else some (Bm size x.kids,st)
def BF.meet(st:BF)(n size:Int):BF:={st with bv:=st.bv.set n.toNat size,met:=st.met.set n.toNat true}
def Az(p:AK):Nat→Int→Int→BF→Option BF
 |0,_,_,_=>none
 |k+1,n,size,st=>
  if 0≤n∧st.met[n.toNat]? =some false then
   match p.nodes[n.toNat]? with
   |some x=>if CV p size x=true then match PH p size x (st.meet n size)with
    |some (l,st2)=>Bl (Az p k) l st2
    |none=>none
    else none
   |none=>none
  else none
def YJ(a b:ByteArray):Bool:=Op.bytesLess a.toList b.toList
def HA:Option ByteArray→List ByteArray→Bool
 |_,[]=>true
 |b,a::l=>EP a&&((match b with|some b=>YJ b a|none=>true)&&HA (some a) l)
def Jw(l:List ByteArray):Bool:=HA none l
def AK.small(p:AK):Bool:=decide (p.free.length≤12)&&(decide (p.nodes.length≤60)&&decide (p.defs.length≤12))
def BF.init(p:AK):BF:=⟨List.replicate p.nodes.length 0,List.replicate p.nodes.length false,List.replicate p.defs.length false⟩
def looks(p:AK):Option BF:=
 if p.small=true∧Jw p.free=true then match Az p (p.nodes.length+1) p.main p.free.length (BF.init p)with
  |some st=>if st.met.all id=true∧st.defs.all id=true then some st else none
  |none=>none
 else none
structure BF.fit(p:AK)(st:BF):Prop where
 bv:st.bv.length=p.nodes.length
 met:st.met.length=p.nodes.length
 defs:st.defs.length=p.defs.length
def DT(l:List Bool):Nat:=l.count false
theorem EK: ∀{l:List Bool} {n:Nat},l[n]? =some false→DT (l.set n true)+1=DT l
 |[],n,h=>by simp at h
 |b::l,0,h=>by
  simp only[F7,CI]at h;subst h;simp[DT]
 |b::l,n+1,h=>by
  simp only[GC]at h;have:=EK h;cases b<;>simp[DT]at this⊢ <;>omega
theorem LA(l:List Bool):DT l≤l.length:=List.count_le_length
theorem NY{p:AK}{st:BF}(h:st.fit p)(n size:Int):(st.meet n size).fit p:=⟨by simp[BF.meet,h.bv],by simp[BF.meet,h.met],by simp[BF.meet,h.defs]⟩
variable{l:List (Int×Int)}
theorem nm{p:AK}{size:Int}{x:CT}{st st2:BF}(h:PH p size x st=some (l,st2)):st2.bv=st.bv∧st2.met=st.met∧st2.defs.length=st.defs.length:=by
 unfold PH at h;split at h
 .split at h
  .split at h
   .cases h;simp
   .cases h
  .cases h
 .cases h;simp
variable{f:Int→Int→BF→Option BF}
theorem N1{R:BF→BF→Prop}(hr: ∀st,R st st)(ht: ∀a b c,R a b→R b c→R a c)(hf: ∀n s st st',f n s st=some st'→R st st'): ∀{l:List (Int×Int)} {st st':BF},Bl f l st=some st'→R st st'
 |[],st,st',h=>by cases h;exact hr _
 |(n,s)::l,st,st',h=>by
  rw[Bl]at h;split at h
  .rename_i st1 h1;exact ht _ _ _ (hf _ _ _ _ h1) (N1 hr ht hf h)
  .cases h
structure dB(st st':BF):Prop where
 bv:st'.bv.length=st.bv.length
 met:st'.met.length=st.met.length
 defs:st'.defs.length=st.defs.length
 less:DT st'.met≤DT st.met
theorem B3(p:AK): ∀(k:Nat) (n size:Int) (st st':BF),Az p k n size st=some st'→dB st st'
 |0,n,size,st,st',h=>by cases h
 |k+1,n,size,st,st',h=>by
  rw[Az]at h;split at h
  .rename_i hn;split at h
   .rename_i x hx;split at h
    .split at h
     .rename_i l st2 h2;have h3:=nm h2;have h4:dB st2 st':=N1 (R:=dB) (fun st=>⟨rfl,rfl,rfl,El _⟩) (fun a b c h1 h2=>⟨h2.1.trans h1.1,h2.2.trans h1.2,h2.3.trans h1.3,Hw h2.4 h1.4⟩) (B3 p k) h;have h5:=EK hn.2;refine⟨h4.1.trans ?_,h4.2.trans ?_,h4.3.trans ?_,Hw h4.4 ?_⟩
      .rw[h3.1];simp[BF.meet]
      .rw[h3.2.1];simp[BF.meet]
      .rw[h3.2.2];simp[BF.meet]
      .rw[h3.2.1];simp only[BF.meet];omega
     .cases h
    .cases h
   .cases h
  .cases h
def HD(p:AK)(size:Int)(x:CT):Option (List (Int×Int)):=
 if x.op=4 then match p.defs[x.n.toNat]? with
  |some d=>if d.okG=true then some (CK d (size+d.own) d.rules++(Bt (size+d.own) d.am++Bm (size+d.own) x.kids))else none
  |none=>none
 else some (Bm size x.kids)
theorem Jm{d:Bz}(h: ∀c∈d.ac,0≤c.many∧c.many≤3): ∀l:List Int,0≤CD d l∧CD d l≤3*l.length
 |[]=>by simp[CD]
 |j::l=>by
  have ih:=Jm h l;rw[CD];have:0≤((d.ac[j.toNat]?).map Ir.many).getD 0∧((d.ac[j.toNat]?).map Ir.many).getD 0≤3:=by
   cases hc:d.ac[j.toNat]? with
   |none=>simp
   |some c=>simpa using h c (Ap hc)
  simp only[Gc];omega
structure Rq(d:Bz):Prop where
 ac:d.ac.length≤30
 am:d.am.length≤30
 rules:d.rules.length≤30
 chan: ∀c∈d.ac,0≤c.at_∧c.at_≤d.am.length∧0≤c.many∧c.many≤3
 spot:Cq 0 d.am=true
 rule: ∀r∈d.rules,BR d r=true
 stands:(FH [] d.rules).length=d.ac.length
theorem Qh{d:Bz}(h:d.okG=true):Rq d:=by
 simp only[Bz.okG,AS,As,CO,CG]at h;obtain⟨h1,h2,h3,h4,h5,h6,h7⟩:=h;exact⟨h1,h2,h3,fun c hc=>⟨(h4 c hc).1.1,(h4 c hc).1.2,(h4 c hc).2.1,(h4 c hc).2.2⟩,h5,h6,h7⟩
variable{r:L2}
theorem MF{d:Bz}: ∀{i:Nat} {l:List Int},joinsOk d r i l=true→ ∀j∈l,0≤j∧j<d.ac.length
 |i,[],h=>by simp
 |i,c::l,h=>by
  intro j hj;rw[joinsOk,AS]at h;rcases DL.1 hj with rfl|hj
  .have:=h.1;simp only[GI,AS,As]at this;exact⟨this.1,this.2.1⟩
  .exact MF h.2 j hj
theorem MU{d:Bz}(h:Rq d)(hr:r∈d.rules):d.joinsOk r:=by
 have:=h.rule r hr;simp only[BR,AS,As]at this;exact⟨this.2.2.1,MF this.2.2.2,fun c hc=>(h.chan c hc).2.2⟩
theorem OE{d:Bz}(h:Rq d):d.own≤60:=by
 have:=h.ac;have:=h.am;unfold Bz.own;omega
theorem kI{p:AK}{size:Int}{x:CT}(h:HD p size x=some l): ∀q∈l,size≤q.2∧q.2≤size+70:=by
 unfold HD at h;split at h
 .split at h
  .rename_i d hd;split at h
   .rename_i hk;cases h;have hk:=Qh hk;have ho:=OE hk;intro q hq;simp only[F2,CK,Bt,Bm,ID]at hq;rcases hq with⟨r,hr,rfl⟩|⟨r,hr,rfl⟩|⟨r,hr,rfl⟩
    .have hj:=MU hk hr;have:=Jm hj.2.2 r.d9;have:=hj.1;dsimp only;omega
    .dsimp only;omega
    .dsimp only;omega
   .cases h
  .cases h
 .cases h;intro q hq;simp only[Bm,ID]at hq;obtain⟨k,hk,rfl⟩:=hq;dsimp only;omega
def BF.has(st:BF)(q:Int×Int):Prop:=0≤q.1∧st.met[q.1.toNat]? =some true∧st.bv[q.1.toNat]? =some q.2
structure wV(p:AK)(st:BF)(i:Nat)(x:CT):Prop where
 met:st.met[i]? =some true
 ex: ∃s l,st.bv[i]? =some s∧0≤s∧s≤5000∧CV p s x=true∧HD p s x=some l∧ ∀q∈l,st.has q
structure ql(p:AK)(st st':BF):Prop where
 ne: ∀i:Nat,st.met[i]? =some true→st'.met[i]? =some true∧st'.bv[i]? =st.bv[i]?
 ii: ∀(i:Nat) (x:CT),st'.met[i]? =some true→st.met[i]? ≠some true→p.nodes[i]? =some x→wV p st' i x
 defs: ∀i:Nat,st.defs[i]? =some true→st'.defs[i]? =some true
 news: ∀(i:Nat) (x:CT),st'.met[i]? =some true→st.met[i]? ≠some true→p.nodes[i]? =some x→x.op=4→st.defs[x.n.toNat]? ≠some true∧st'.defs[x.n.toNat]? =some true
 used: ∀n:Nat,st'.defs[n]? =some true→st.defs[n]? ≠some true→ ∃(i:Nat) (x:CT),p.nodes[i]? =some x∧x.op=4∧x.n.toNat=n
 diff: ∀(i j:Nat) (x y:CT),i≠j→st'.met[i]? =some true→st.met[i]? ≠some true→p.nodes[i]? =some x→x.op=4→st'.met[j]? =some true→st.met[j]? ≠some true→p.nodes[j]? =some y→y.op=4→x.n.toNat≠y.n.toNat
variable{st':BF}
theorem na{p:AK}{st:BF}{q:Int×Int}(h:st.has q)(ha:ql p st st'):st'.has q:=by
 obtain⟨h1,h2,h3⟩:=h;have:=ha.ne _ h2;exact⟨h1,this.1,by rw[this.2,h3]⟩
theorem sf{p:AK}{st:BF}{i:Nat}{x:CT}(h:wV p st i x)(ha:ql p st st'):wV p st' i x:=by
 obtain⟨h1,s,l,h2,h0,hb,h3,h4,h5⟩:=h;have:=ha.ne _ h1;exact⟨this.1,s,l,by rw[this.2,h2],h0,hb,h3,h4,fun q hq=>na (h5 q hq) ha⟩
theorem lN(p:AK)(st:BF):ql p st st:=⟨fun i h=>⟨h,rfl⟩,fun i x h1 h2=>absurd h1 h2,fun i h=>h,fun i x h1 h2=>absurd h1 h2,fun n h1 h2=>absurd h1 h2,fun i j x y h h1 h2=>absurd h1 h2⟩
theorem dG{p:AK}{a b c:BF}(h1:ql p a b)(h2:ql p b c):ql p a c:=by
 refine⟨fun i h=>?_,fun i x hm hn hx=>?_,fun i h=>h2.defs i (h1.defs i h),fun i x hm hn hx ho=>?_,fun n hm hn=>?_,fun i j x y hij him hin hx hox hjm hjn hy hoy=>?_⟩
 .have e1:=h1.ne i h;have e2:=h2.ne i e1.1;exact⟨e2.1,e2.2.trans e1.2⟩
 .by_cases hb:b.met[i]? =some true
  .exact sf (h1.ii i x hb hn hx) h2
  .exact h2.ii i x hm hb hx
 .by_cases hb:b.met[i]? =some true
  .have:=h1.news i x hb hn hx ho;exact⟨this.1,h2.defs _ this.2⟩
  .have:=h2.news i x hm hb hx ho;exact⟨fun e=>this.1 (h1.defs _ e),this.2⟩
 .by_cases hb:b.defs[n]? =some true
  .exact h1.used n hb hn
  .exact h2.used n hm hb
 .by_cases hbi:b.met[i]? =some true
  .by_cases hbj:b.met[j]? =some true
   .exact h1.diff i j x y hij hbi hin hx hox hbj hjn hy hoy
   .have e1:=h1.news i x hbi hin hx hox;have e2:=h2.news j y hjm hbj hy hoy;intro e;rw[e]at e1;exact e2.1 e1.2
  .by_cases hbj:b.met[j]? =some true
   .have e1:=h1.news j y hbj hjn hy hoy;have e2:=h2.news i x him hbi hx hox;intro e;rw[←e]at e1;exact e2.1 e1.2
   .exact h2.diff i j x y hij him hbi hx hox hjm hbj hy hoy
structure wO(st:BF)(u:Nat):Prop where
 len:st.bv.length=st.met.length
 less:DT st.met≤u
theorem SF{p:AK}{u:Nat}(hf: ∀(n s:Int) (st st':BF),wO st u→0≤s→s+70*u≤5000→f n s st=some st'→ql p st st'∧st'.has (n,s)∧wO st' u): ∀{l:List (Int×Int)} {st st':BF},wO st u→(∀q∈l,0≤q.2∧q.2+70*u≤5000)→Bl f l st=some st'→ql p st st'∧(∀q∈l,st'.has q)∧wO st' u
 |[],st,st',hl,hq,h=>by cases h;exact⟨lN _ _,by simp,hl⟩
 |(n,s)::l,st,st',hl,hq,h=>by
  rw[Bl]at h;split at h
  .rename_i st1 h1;have hq1:=hq (n,s) (by simp);have e1:=hf _ _ _ _ hl hq1.1 hq1.2 h1;have e2:=SF hf e1.2.2 (fun q hm=>hq q (EX _ hm)) h;refine⟨dG e1.1 e2.1,fun q hq=>?_,e2.2.2⟩;rcases DL.1 hq with rfl|hq
   .exact na e1.2.1 e2.1
   .exact e2.2.1 q hq
  .cases h
theorem ff{p:AK}{size:Int}{x:CT}{st st2:BF}{l:List (Int×Int)}(h:PH p size x st=some (l,st2)):HD p size x=some l∧st2.bv=st.bv∧st2.met=st.met∧(∀i:Nat,st.defs[i]? =some true→st2.defs[i]? =some true)∧(x.op=4→st.defs[x.n.toNat]? ≠some true∧st2.defs[x.n.toNat]? =some true)∧ ∀i:Nat,st2.defs[i]? =some true→st.defs[i]? ≠some true→x.op=4∧x.n.toNat=i:=by
 unfold PH at h;unfold HD;split at h
 .rename_i h4;rw[D7 h4];split at h
  .rename_i d hd;split at h
   .rename_i hk;cases h;refine⟨by first|exact D7 hk.2|(rw[hd];exact D7 hk.2),rfl,rfl,fun i hi=>?_,fun _=>⟨by rw[hk.1];simp,?_⟩,fun i h1 h2=>⟨h4,?_⟩⟩
    .rw[IS];split
     .rename_i e;subst e;rw[D7 (BE.1 hi).1]
     .exact hi
    .rw[IS,D7 rfl,D7 (BE.1 hk.1).1]
    .rw[IS]at h1;split at h1
     .assumption
     .exact absurd h1 h2
   .cases h
  .cases h
 .rename_i h4;rw[D3 h4];cases h;exact⟨rfl,rfl,rfl,fun i h=>h,fun h=>absurd h h4,fun i h1 h2=>absurd h1 h2⟩
theorem S6(p:AK): ∀(k:Nat) (n size:Int) (st st':BF) (u:Nat),wO st u→0≤size→size+70*u≤5000→Az p k n size st=some st'→ql p st st'∧st'.has (n,size)∧wO st' u
 |0,n,size,st,st',u,_,_,_,h=>by cases h
 |k+1,n,size,st,st',u,hb,h0,hsz,h=>by
  rw[Az]at h;split at h
  .rename_i hn;split at h
   .rename_i x hx;split at h
    .rename_i hok;split at h
     .rename_i l st2 h2;have h3:=ff h2;have hlen:=hb.len;have hun:=EK hn.2;have hul:=hb.less;obtain⟨u,rfl⟩: ∃v,u=v+1:=⟨u-1,by omega⟩;have hb2:wO st2 u:=⟨by rw[h3.2.1,h3.2.2.1];simp[BF.meet,hlen],by rw[h3.2.2.1];simp only[BF.meet];omega⟩;have hle:=kI h3.1;obtain⟨ha,hl,hz⟩:=SF (fun n s st st'=>S6 p k n s st st' u) hb2 (fun q hq=>by have:=hle q hq;omega) h;have hlt:=(BE.1 hn.2).1;have m2: ∀i,st2.met[i]? =if n.toNat=i then some true else st.met[i]? :=fun i=>by
       rw[h3.2.2.1,BF.meet,IS];split
       .rename_i e;subst e;simp[hlt]
       .rfl
      have s2: ∀i,st2.bv[i]? =if n.toNat=i then some size else st.bv[i]? :=fun i=>by
       rw[h3.2.1,BF.meet,IS];split
       .rename_i e;subst e;simp[hlen,hlt]
       .rfl
      have k2:=ha.ne n.toNat (by rw[m2,D7 rfl]);rw[s2,D7 rfl]at k2;refine⟨⟨fun i hi=>?_,fun i y hm hm0 hy=>?_,fun i hi=>ha.defs i (h3.2.2.2.1 i hi),fun i y hm hm0 hy ho=>?_,fun i hi hi0=>?_,fun i j y z hij him hin hy hoy hjm hjn hz hoz=>?_⟩,⟨hn.1,k2.1,k2.2⟩,hz.1,Nat.le_succ_of_le hz.2⟩
      .have hne:n.toNat≠i:=fun e=>by subst e;rw[hn.2]at hi;simp at hi
       have:=ha.ne i (by rw[m2,D3 hne,hi]);rw[s2,D3 hne]at this;exact this
      .by_cases hne:n.toNat=i
       .subst hne;rw[hx]at hy;cases hy;exact⟨hm,size,l,k2.2,h0,by omega,hok,h3.1,hl⟩
       .exact ha.ii i y hm (by rw[m2,D3 hne];exact hm0) hy
      .by_cases hne:n.toNat=i
       .subst hne;rw[hx]at hy;cases hy;have:=h3.2.2.2.2.1 ho;exact⟨this.1,ha.defs _ this.2⟩
       .have:=ha.news i y hm (by rw[m2,D3 hne];exact hm0) hy ho;exact⟨fun e=>this.1 (h3.2.2.2.1 _ e),this.2⟩
      .by_cases hd:st2.defs[i]? =some true
       .have:=h3.2.2.2.2.2 i hd hi0;exact⟨_,x,hx,this⟩
       .exact ha.used i hi hd
      .by_cases hni:n.toNat=i
       .have hnj:n.toNat≠j:=fun e=>hij (hni.symm.trans e);subst hni;rw[hx]at hy;cases hy;have e1:=h3.2.2.2.2.1 hoy;have e2:=ha.news j z hjm (by rw[m2,D3 hnj];exact hjn) hz hoz;intro e;rw[e]at e1;exact e2.1 e1.2
       .by_cases hnj:n.toNat=j
        .subst hnj;rw[hx]at hz;cases hz;have e1:=h3.2.2.2.2.1 hoz;have e2:=ha.news i y him (by rw[m2,D3 hni];exact hin) hy hoy;intro e;rw[←e]at e1;exact e2.1 e1.2
        .exact ha.diff i j y z hij him (by rw[m2,D3 hni];exact hin) hy hoy hjm (by rw[m2,D3 hnj];exact hjn) hz hoz
     .cases h
    .cases h
   .cases h
  .cases h
structure Bq(p:AK)(bv:List Int):Prop where
 small:p.small=true
 len:bv.length=p.nodes.length
 main:0≤p.main∧bv[p.main.toNat]? =some (p.free.length:Int)
 node: ∀(i:Nat) (x:CT),p.nodes[i]? =some x→ ∃(s:Int) (l:List (Int×Int)),bv[i]? =some s∧0≤s∧s≤5000∧CV p s x=true∧HD p s x=some l∧ ∀q∈l,0≤q.1∧bv[q.1.toNat]? =some q.2
 used: ∀n:Nat,n<p.defs.length→ ∃(i:Nat) (x:CT),p.nodes[i]? =some x∧x.op=4∧x.n.toNat=n
 diff: ∀(i j:Nat) (x y:CT),i≠j→p.nodes[i]? =some x→x.op=4→p.nodes[j]? =some y→y.op=4→x.n.toNat≠y.n.toNat
theorem cK{l:List Bool}(h:l.all id=true){i:Nat}(hi:i<l.length):l[i]? =some true:=by
 have:=CO.1 h _ (Lt hi);rw[BY hi];simpa using this
theorem C0{p:AK}{st:BF}(h:looks p=some st):Bq p st.bv:=by
 unfold looks at h;split at h
 .rename_i hs;split at h
  .rename_i st' hv;split at h
   .rename_i hall;cases h;have hsm:=hs.1;simp only[AK.small,AS,As]at hsm;have hg:=B3 p _ _ _ _ _ hv;have hun:=LA (BF.init p).met;have hil:(BF.init p).met.length=p.nodes.length:=by simp[BF.init]
    have ha:=S6 p _ _ _ _ _ 60 ⟨by simp[BF.init],by omega⟩ (by omega) (by omega) hv;have hm:st.met.length=p.nodes.length:=by rw[hg.met];simp[BF.init]
    have hz:st.bv.length=p.nodes.length:=by rw[hg.bv];simp[BF.init]
    have hd:st.defs.length=p.defs.length:=by rw[hg.defs];simp[BF.init]
    have hmet: ∀{i x},p.nodes[i]? =some x→st.met[i]? =some true:=fun{i x} hx=>cK hall.1 (by rw[hm];exact(BE.1 hx).1);have h0: ∀i:Nat,(BF.init p).met[i]? ≠some true:=fun i=>by
     simp only[BF.init,RC];split<;>simp
    have hd0: ∀i:Nat,(BF.init p).defs[i]? ≠some true:=fun i=>by
     simp only[BF.init,RC];split<;>simp
    refine⟨hs.1,hz,⟨ha.2.1.1,ha.2.1.2.2⟩,fun i x hx=>?_,fun n hn=>ha.1.used n (cK hall.2 (by omega)) (hd0 n),fun i j x y hij hx hox hy hoy=>ha.1.diff i j x y hij (hmet hx) (h0 _) hx hox (hmet hy) (h0 _) hy hoy⟩;obtain⟨_,s,l,h1,hp,hb,h2,h3,h4⟩:=ha.1.ii i x (hmet hx) (h0 _) hx;exact⟨s,l,h1,hp,hb,h2,h3,fun q hq=>⟨(h4 q hq).1,(h4 q hq).2.2⟩⟩
   .cases h
  .cases h
 .cases h
structure Pj(n:Nat)(u:List Bool)(st:List Int):Prop where
 len:u.length=n
 cnt:DT u+st.length=n
 mem: ∀c:Int,0≤c→c<n→(u[c.toNat]? =some true↔c∈st)
theorem j7{n:Nat}{u:List Bool}{st:List Int}{c:Int}(h:Pj n u st)(h0:0≤c)(h1:c<n):Pj n (Mc u c) (NI st c):=by
 have hl:c.toNat<u.length:=by rw[h.len];omega
 have hm:=h.mem c h0 h1;have hmem: ∀b:Int,0≤b→b<n→((Mc u c)[b.toNat]? =some true↔b=c∨u[b.toNat]? =some true):=fun b hb0 hb1=>by
  rw[Mc,IS];split
  .rename_i e;have:b=c:=by omega
   subst this;simp[hl]
  .rename_i e;have:b≠c:=fun h=>e (by rw[h]);simp[this]
 cases hu:u[c.toNat]? with
 |none=>rw[List.getElem?_eq_none_iff]at hu;omega
 |some t=>
  cases t with
  |true=>
   have hin:=hm.1 hu;have e2:NI st c=st:=by rw[NI,D7 hin]
   have e1:Mc u c=u:=by
    apply List.ext_getElem?;intro i;rw[Mc,IS];split
    .rename_i e;subst e;exact hu.symm
    .rfl
   rw[e1,e2];exact h
  |false=>
   have hnin:c∉st:=fun hc=>by rw[hm.2 hc]at hu;simp at hu
   have e2:NI st c=st++[c]:=by rw[NI,D3 hnin]
   have hc:=EK hu;have hh:=h.cnt;refine⟨by simp[Mc,h.len],?_,fun b hb0 hb1=>?_⟩
   .rw[e2];simp only[Mc,D9,IF];omega
   .rw[hmem b hb0 hb1,e2,h.mem b hb0 hb1];simp[or_comm]
theorem O7{n:Nat}: ∀{l:List Int} {u:List Bool} {st:List Int},Pj n u st→(∀c∈l,0≤c∧c<n)→Pj n (l.foldl Mc u) (l.foldl NI st)
 |[],u,st,h,_=>h
 |c::l,u,st,h,hc=>by
  have:=hc c (by simp);exact O7 (l:=l) (j7 h this.1 this.2) (fun b hb=>hc b (EX _ hb))
theorem O8{n:Nat}: ∀{l:List L2} {u:List Bool} {st:List Int},Pj n u st→(∀r∈l,∀c∈r.d9,0≤c∧c<n)→Pj n (LB u l) (FH st l)
 |[],u,st,h,_=>h
 |r::l,u,st,h,hc=>by
  have e1:LB u (r::l)=LB (r.d9.foldl Mc u) l:=rfl;have e2:FH st (r::l)=FH (r.d9.foldl NI st) l:=rfl;rw[e1,e2];exact O8 (O7 h (hc r (by simp))) (fun b hb=>hc b (EX _ hb))
theorem Rz: ∀l:List Bool,l.all id=decide (DT l=0)
 |[]=>by simp[DT]
 |b::l=>by
  rw[D0,Rz l];cases b
  .simp[DT]
  .have:DT (true::l)=DT l:=by simp[DT]
   rw[this];rfl
theorem zw(d:Bz):d.okR=d.okG:=by
 unfold Bz.okR Bz.okG;by_cases hr:d.rules.all (BR d)=true
 .have h0:Pj d.ac.length (List.replicate d.ac.length false) []:=⟨by simp,by simp[DT],fun c h0 h1=>by simp[RC]⟩;have h:=O8 (l:=d.rules) h0 (fun r hr' c hc=>by
   have:=CO.1 hr r hr';simp only[BR,AS]at this;exact MF this.2.2.2 c hc)
  have hc:=h.cnt;rw[Rz];congr 6;rw[decide_eq_decide];omega
 .rw[Lw]at hr;rw[hr];simp
end Go.Proofs
namespace Go.Proofs
open Go Go.Abs
def NJ(bv:List Int)(x:CT):Int:=((x.kids[0]?).map fun k=>(bv[k.toNat]?).getD 0).getD 0
def Fo(bv:List Int):List Int→List CT→List Int
 |out,[]=>out
 |out,x::l=>Fo bv (if x.op=4 then out.set x.n.toNat (NJ bv x)else out) l
def Bx(p:AK)(bv:List Int):List Int:=Fo bv (List.replicate p.defs.length 0) p.nodes
theorem ND(bv:List Int): ∀(l:List CT) (out:List Int),(Fo bv out l).length=out.length
 |[],out=>rfl
 |x::l,out=>by
  rw[Fo,ND bv l];split<;>simp
theorem NB(bv:List Int)(n:Nat)(v:Int): ∀(l:List CT) (out:List Int),n<out.length→(∀x∈l,x.op=4→x.n.toNat=n→NJ bv x=v)→(out[n]? =some v∨ ∃x∈l,x.op=4∧x.n.toNat=n)→(Fo bv out l)[n]? =some v
 |[],out,hn,h1,h2=>by
  rcases h2 with h|⟨x,hx,_⟩
  .exact h
  .cases hx
 |x::l,out,hn,h1,h2=>by
  rw[Fo];refine NB bv n v l _ (by split<;>simpa using hn) (fun y hy=>h1 y (EX _ hy)) ?_;by_cases hx:x.op=4∧x.n.toNat=n
  .left;rw[D7 hx.1,IS,D7 hx.2,hx.2,D7 hn,h1 x (by simp) hx.1 hx.2]
  .rcases h2 with h|⟨y,hy,hyo⟩
   .left;split
    .rename_i ho;rw[IS,D3 fun e=>hx ⟨ho,e⟩];exact h
    .exact h
   .rcases DL.1 hy with rfl|hy
    .exact absurd hyo hx
    .exact .inr ⟨y,hy,hyo⟩
structure qp(p:AK)(bv:List Int)(n:Nat)(d:Bz):Prop where
 ok:Rq d
 node: ∃(i:Nat) (x:CT) (s:Int),p.nodes[i]? =some x∧x.op=4∧x.n.toNat=n∧bv[i]? =some s∧0≤s∧s≤5000∧(Bx p bv)[n]? =some (s+d.own)∧(∀r∈d.rules,0≤r.node∧bv[r.node.toNat]? =some (s+d.own+CD d r.d9))∧(∀y∈d.am,0≤y.node∧bv[y.node.toNat]? =some (s+d.own))∧ ∃k,x.kids=[k]∧0≤k∧bv[k.toNat]? =some (s+d.own)
theorem My{p:AK}{bv:List Int}(h:Bq p bv){n:Nat}{d:Bz}(hd:p.defs[n]? =some d):qp p bv n d:=by
 have hn:=(BE.1 hd).1;obtain⟨i,x,hx,hxo,hxn⟩:=h.used n hn;obtain⟨s,l,hs,h0,hb,hok,hl,hq⟩:=h.node i x hx;have hl2:=hl;rw[HD,D7 hxo,hxn,hd]at hl2;dsimp only at hl2;split at hl2
 .rename_i hg;cases hl2;have hkids: ∃k,x.kids=[k]:=by
   simp only[CV,AS,As]at hok;have:=hok.1;rw[hxo]at this;simp only[Cz]at this;have:x.kids.length=1:=by simpa using this.symm
   match hk:x.kids,this with
   |[k],_=>exact⟨k,rfl⟩
  obtain⟨k,hk⟩:=hkids;have hkq:0≤k∧bv[k.toNat]? =some (s+d.own):=hq (k,s+d.own) (by simp[Bm,hk]);refine⟨Qh hg,i,x,s,hx,hxo,hxn,hs,h0,hb,?_,fun r hr=>?_,fun y hy=>?_,k,hk,hkq⟩
  .refine NB bv n _ p.nodes _ (by simpa using hn) (fun y hy hyo hyn=>?_) (.inr ⟨x,Ap hx,hxo,hxn⟩);obtain⟨j,hj⟩:=Hm hy;by_cases hij:i=j
   .subst hij;rw[hx]at hj;cases hj;simp[NJ,hk,hkq.2]
   .exact absurd (hxn.trans hyn.symm) (h.diff i j x y hij hx hxo hj hyo)
  .exact hq (r.node,s+d.own+CD d r.d9) (by simp only[CK,F2,ID];exact .inl ⟨r,hr,rfl⟩)
  .exact hq (y.node,s+d.own) (by simp only[Bt,F2,ID];exact .inr (.inl ⟨y,hy,rfl⟩))
 .cases hl2
def Ay.own(d:Bz)(g:Ay)(ch:Bool)(n:Int):Int:=((g.env[g.env.length-d.am.length-(if ch then d.ac.length else 0)+n.toNat]?).map CZ.n).getD 0
def Ay.place(d:Bz)(g:Ay)(n:Int):Int:=if n=0 then g.at_ else g.own d false (n-1)
def BU(l:List Cr)(i:Int):Bool:=((l[i.toNat]?).map Cr.dead).getD false
def Ig(p:AK)(nc ns:Nat)(many:Int)(m:List CZ):Bool:=decide ((m.length:Int)=many)&&m.all (CZ.inB p nc ns)
def cN(p:AK)(s:CW)(d:Bz)(g:Ay)(i j:Nat)(q:HY)(ch:Ir):Bool:=
 decide (q.group=i)&&(decide (q.index=j)&&(decide (q.at_=g.place d ch.at_)&&(decide (q.queue.length≤12)&&((decide (q.queue.length=0)|| !BU s.am q.at_)&&q.queue.all (Ig p s.ac.length s.am.length ch.many)))))
def Mq(p:AK)(s:CW)(d:Bz)(g:Ay)(i j a:Nat)(ch:Ir):Bool:=match s.ac[a]? with|some q=>cN p s d g i j q ch|none=>false
def Fg(p:AK)(s:CW)(d:Bz)(g:Ay)(i c:Nat):Nat→List Ir→Bool
 |_,[]=>true
 |j,ch::l=>Mq p s d g i j (c+j) ch&&Fg p s d g i c (j+1) l
def Ed(c k:Nat)(d:Bz):List CZ:=(List.range' c d.ac.length).map (fun(j:Nat)=>⟨3,(j:Int)⟩)++(List.range' k d.am.length).map (fun(j:Nat)=>⟨4,(j:Int)⟩)
def EO(d:Bz)(c k:Nat)(g:Ay):Bool:=decide (g.env.drop (g.env.length-d.ac.length-d.am.length)=Ed c k d)
def Ki(p:AK)(gs:List Int)(s:CW)(i c k:Nat)(g:Ay)(d:Bz):Bool:=
 decide (KK s.am g.at_)&&(decide ((g.env.length:Int)=(gs[g.eq.toNat]?).getD 0)&&(g.env.all (CZ.inB p s.ac.length s.am.length)&&(EO d c k g&&Fg p s d g i c 0 d.ac)))
def AK.def? (p:AK)(n:Int):Option Bz:=if 0≤n then p.defs[n.toNat]? else none
def Ew(p:AK)(gs:List Int)(s:CW):Nat→Nat→Nat→List Ay→Bool
 |_,c,k,[]=>decide (c=s.ac.length)&&decide (k=s.am.length)
 |i,c,k,g::l=>match p.def? g.eq with
  |some d=>Ki p gs s i c k g d&&Ew p gs s (i+1) (c+d.ac.length) (k+d.am.length) l
  |none=>false
def ED(op:Int):Bool:=decide (op=6)||(decide (op=7)||decide (op=8))
def Db(p:AK)(bv:List Int)(s:CW)(w:L4):Bool:=
 decide (KK s.am w.at_)&&(!BU s.am w.at_&&(decide (0≤w.node)&&((match p.nodes[w.node.toNat]? with|some x=>ED x.op|none=>false)&&(decide ((w.env.length:Int)=(bv[w.node.toNat]?).getD 0)&&w.env.all (CZ.inB p s.ac.length s.am.length)))))
def Ht(l:List Cr):List Cr→Bool
 |[]=>true
 |x::m=>(x.dead|| !BU l x.pp)&&Ht l m
def CW.small(s:CW):Bool:=decide (s.am.length≤24)&&(decide (s.ce.length≤40)&&(decide (s.ac.length≤60)&&decide (s.waits.length≤40)))
def EG(p:AK)(bv:List Int)(s:CW):Bool:=
 s.small&&(IJ s.am&&(Ht s.am (s.am.drop 1)&&(Ew p (Bx p bv) s 0 0 1 s.ce&&s.waits.all (Db p bv s))))
end Go.Proofs
namespace Go.Proofs
open Go Go.Abs
theorem P7{p:AK}{bv:List Int}(h:Bq p bv){i:Nat}{x:CT}(hx:p.nodes[i]? =some x)(ho:x.op=4):0≤x.n∧x.n<p.defs.length∧ ∃k v,x.kids=[k]∧0≤k∧bv[k.toNat]? =some v∧NJ bv x=v∧0≤v∧v≤5070:=by
 obtain⟨s,l,hs,h0,hb,hok,hl,hq⟩:=h.node i x hx;simp only[CV,AS,As]at hok;have hn:=hok.2.1;rw[UA,D3 (by rw[ho];decide),D7 ho]at hn;have hn:=of_decide_eq_true hn;refine⟨hn.1,hn.2,?_⟩;have hk:=hok.1;rw[ho]at hk;simp only[Cz]at hk;have hkl:x.kids.length=1:=by simpa using hk.symm
 match hkk:x.kids,hkl with
 |[k],_=>
  have hl2:=hl;rw[HD,D7 ho]at hl2;split at hl2
  .rename_i d hd;split at hl2
   .rename_i hg;cases hl2;have hkq:0≤k∧bv[k.toNat]? =some (s+d.own):=hq (k,s+d.own) (by simp[Bm,hkk]);have:=OE (Qh hg);exact⟨k,s+d.own,rfl,hkq.1,hkq.2,by simp[NJ,hkk,hkq.2],by omega,by omega⟩
   .cases hl2
  .cases hl2
end Go.Proofs
namespace Go.Proofs
open Go Go.Abs
theorem MM(c k:Nat)(d:Bz):(Ed c k d).length=d.own:=by simp[Ed,Bz.own]
variable{j:Nat}
theorem Oy(c k:Nat)(d:Bz)(h:j<d.ac.length):(Ed c k d)[j]? =some ⟨3,(c:Int)+(j:Int)⟩:=by
 rw[Ed,Bv (by simpa using h),D5,List.getElem?_range' h];simp
theorem Oz(c k:Nat)(d:Bz)(h:j<d.am.length):(Ed c k d)[d.ac.length+j]? =some ⟨4,(k:Int)+(j:Int)⟩:=by
 rw[Ed,CS (by simp)];simp only[Bi,List.length_range'];rw[Nat.add_sub_cancel_left,D5,List.getElem?_range' h];simp
variable{c k:Nat}{g:Ay}
theorem W4{d:Bz}(h:EO d c k g=true)(j:Nat):g.env[g.env.length-d.ac.length-d.am.length+j]? =(Ed c k d)[j]? :=by
 have h:=of_decide_eq_true h;rw[←h,IT]
theorem iv{d:Bz}(h:EO d c k g=true)(hj:j<d.ac.length):g.env[g.env.length-d.ac.length-d.am.length+j]? =some ⟨3,(c:Int)+(j:Int)⟩:=by
 rw[W4 h,Oy _ _ _ hj]
theorem Sb{d:Bz}(h:EO d c k g=true)(he:d.own≤g.env.length)(hj:j<d.am.length):g.env[g.env.length-d.am.length+j]? =some ⟨4,(k:Int)+(j:Int)⟩:=by
 unfold Bz.own at he;have:=W4 h (d.ac.length+j);rw[Oz _ _ _ hj]at this;rw[←this];congr 1;omega
theorem Qo{d:Bz}(h:EO d c k g=true)(he:d.own≤g.env.length){n:Int}(h1:1≤n)(h2:n≤d.am.length):g.place d n=(k:Int)+(n-1):=by
 rw[Ay.place,D3 (by omega),Ay.own];simp only[AM,D8,Nat.sub_zero];rw[Sb h he (j:=(n-1).toNat) (by omega)];simp only[F1,GS];omega
theorem Xp{p:AK}{s:CW}{d:Bz}(h:EO d c k g=true)(he:d.own≤g.env.length)(hat:KK s.am g.at_)(hv:g.env.all (CZ.inB p s.ac.length s.am.length)=true){n:Int}(h1:0≤n)(h2:n≤d.am.length):KK s.am (g.place d n):=by
 by_cases h0:n=0
 .rw[Ay.place,D7 h0];exact hat
 .rw[Qo h he (by omega) h2];have hg:=Sb h he (j:=(n-1).toNat) (by omega);have:=CO.1 hv _ (Ap hg);simp[CZ.inB]at this;have e:((n-1).toNat:Int)=n-1:=Pp (by omega);constructor
  .omega
  .omega
structure CC where
 d7:CW
 ev:List KD
 work:Int
structure FW where
 node:Int
 at_:Int
 env:List CZ
def mY{α:Type}(l:List α)(i:Int):List α:=l.take i.toNat++l.drop (i.toNat+1)
def Nc(l:List CZ)(i:Int):CZ:=(l[i.toNat]?).getD ⟨0,0⟩
def HB(p:AK)(s:CW)(q:HY):Int:=(((s.ce[q.group.toNat]?).bind fun g=>(p.defs[g.eq.toNat]?).bind fun d=>d.ac[q.index.toNat]?).map Ir.many).getD 0
def Oh(s:CW)(n:Int)(q:HY)(l:List CZ):Option CW:=if q.queue.length<12 then some {s with ac:=s.ac.set n.toNat {q with queue:=q.queue++[l]}}else none
def K3(p:AK)(s:CW)(n:Int)(l:List CZ):Option CW:=match s.ac[n.toNat]? with
 |some q=>if BU s.am q.at_=false∧HB p s q=l.length then Oh s n q l else some s
 |none=>some s
def ABL(at_ n:Int)(l:List CZ):KD:=⟨5,at_,n,0,l⟩
def B0(p:AK)(x:CT)(j:FW)(st:CC):Option CC:=
 let l:=x.args.map (·.value j.env)
 let to:=Nc j.env x.n
 if to.kind=2 then some {st with ev:=st.ev++[ABL j.at_ to.n l]}
 else if to.kind=3 then(K3 p st.d7 to.n l).map fun s=>{st with d7:=s}else some st
def EE(d:Bz)(g:Ay)(i:Nat):Nat→List Ir→List HY
 |_,[]=>[]
 |k,c::l=>⟨i,k,g.place d c.at_,[]⟩::EE d g i (k+1) l
def CY(d:Bz)(g:Ay)(l:List Lo):List Cr:=l.map fun y=>⟨g.place d y.pp,false⟩
def AX(s:CW)(d:Bz)(n:Int)(j:FW):Ay:=⟨n,j.at_,j.env++Ed s.ac.length s.am.length d⟩
def BN(s:CW)(d:Bz)(g:Ay):CW:={s with ce:=s.ce++[g],ac:=s.ac++EE d g s.ce.length 0 d.ac,am:=s.am++CY d g d.am}
def BP(d:Bz)(g:Ay):Nat→List Lo→List FW
 |_,[]=>[]
 |k,y::l=>⟨y.node,g.place d (k+1),g.env⟩::BP d g (k+1) l
def A6(x:CT)(k:Nat)(at_:Int)(env:List CZ):List FW:=match x.kids[k]? with
 |some n=>[⟨n,at_,env⟩]
 |none=>[]
def Ds(p:AK)(x:CT)(j:FW)(st:CC):Option (CC×List FW):=match p.defs[x.n.toNat]? with
 |some d=>
  let g:=AX st.d7 d x.n j
  let s:=BN st.d7 d g
  if s.ac.length≤60∧s.am.length≤24∧s.ce.length≤40 then some ({st with d7:=s},BP d g 0 d.am++A6 x 0 j.at_ g.env)else none
 |none=>none
def NH(x:CT)(env:List CZ):Nat:=match x.args[0]? with
 |some e=>if (e.value env).kind=1∧(e.value env).n≠0 then 0 else 1
 |none=>1
def Dw(j:FW)(st:CC):Option CC:=if st.d7.waits.length<40 then some {st with d7:={st.d7 with waits:=st.d7.waits++[⟨j.at_,j.node,j.env⟩]}}else none
def JK(p:AK)(j:FW)(st:CC):Option (CC×List FW):=match p.nodes[j.node.toNat]? with
 |some x=>
  if x.op=2 then(B0 p x j st).map fun st=>(st,[])
  else if x.op=3 then some (st,A6 x 0 j.at_ j.env++A6 x 1 j.at_ j.env)
  else if x.op=4 then Ds p x j st
  else if x.op=5 then some (st,A6 x (NH x j.env) j.at_ j.env)
  else if ED x.op=true then(Dw j st).map fun st=>(st,[])
  else some (st,[])
 |none=>none
def Bj(f:FW→CC→Option CC):List FW→CC→Option CC
 |[],st=>some st
 |j::l,st=>(f j st).bind (Bj f l)
def Fy(f:FW→CC→Option CC):Option (CC×List FW)→Option CC
 |some (st,js)=>Bj f js st
 |none=>none
def Dg(p:AK):Nat→FW→CC→Option CC
 |0,_,_=>none
 |k+1,j,st=>if st.work<400 then Fy (Dg p k) (JK p j {st with work:=st.work+1})else none
def rt(p:AK)(s:CW)(w:L4):Bool:=match p.nodes[w.node.toNat]? with
 |some x=>if x.op=7 then true else
  let v:=Nc w.env x.n
  if v.kind=4 then(if x.op=8 then BU s.am v.n else decide (w.at_≠0)&&(!BU s.am v.n&& !nk s.am v.n w.at_))else false
 |none=>false
def UZ(s:CW)(c:Int)(k:Int):List CZ×CW:=match s.ac[c.toNat]? with
 |some q=>(((q.queue[k.toNat]?).getD []),{s with ac:=s.ac.set c.toNat {q with queue:=mY q.queue k}})
 |none=>([],s)
def UY(d:Bz)(g:Ay):List Int→List Int→CW→List CZ×CW
 |c::cs,k::ks,s=>((UZ s (g.own d true c) k).1++(UY d g cs ks (UZ s (g.own d true c) k).2).1,(UY d g cs ks (UZ s (g.own d true c) k).2).2)
 |_,_,s=>([],s)
def vF(p:AK)(x:Uw)(d:Bz)(g:Ay)(r:L2)(s:CW):Option CC:=
 let t:=UY d g r.d9 x.picks s
 let at_:=g.place d r.at_
 Dg p 401 ⟨r.node,at_,g.env++t.1⟩ ⟨t.2,[⟨1,at_,x.group,x.rule,t.1⟩],0⟩
def z8(p:AK)(s:CW)(x:Uw):Option CC:=match s.ce[x.group.toNat]? with
 |some g=>match p.defs[g.eq.toNat]? with
  |some d=>match d.rules[x.rule.toNat]? with
   |some r=>vF p x d g r s
   |none=>none
  |none=>none
 |none=>none
def VY(l:List Cr)(at_:Int):Nat→List Cr→List Cr
 |_,[]=>[]
 |i,x::m=>{x with dead:=x.dead||nk l i at_}::VY l at_ (i+1) m
def ABF(s:CW)(at_:Int):CW:=
 let l:=VY s.am at_ 0 s.am
 {am:=l,ce:=s.ce,ac:=s.ac.map fun q=>if BU l q.at_=true then{q with queue:=[]}else q,waits:=s.waits.filter fun w=> !BU l w.at_}
def AAA(l:List Cr)(i n:Int):List Cr:=match l[i.toNat]? with
 |some x=>l.set i.toNat {x with pp:=n}
 |none=>l
def yp(p:AK)(s:CW)(w:L4)(x:CT):Option CC:=
 let n:=(Nc w.env x.n).n
 if x.op=7 then some ⟨ABF s w.at_,[⟨3,w.at_,0,0,[]⟩],0⟩
 else if x.op=6 then Bj (Dg p 401) (A6 x 0 w.at_ w.env) ⟨{s with am:=AAA s.am w.at_ n},[⟨2,w.at_,n,0,[]⟩],0⟩
 else Bj (Dg p 401) (A6 x 0 w.at_ w.env) ⟨s,[⟨4,w.at_,n,0,[]⟩],0⟩
def qc(p:AK)(s:CW)(i:Int):Option CC:=match s.waits[i.toNat]? with
 |some w=>match p.nodes[w.node.toNat]? with
  |some x=>yp p {s with waits:=mY s.waits i} w x
  |none=>none
 |none=>none
def w6(p:AK)(s:CW)(x:Uw):Option CC:=if x.wait<0 then z8 p s x else qc p s x.wait
def Bs:CW:=⟨[⟨-1,false⟩],[],[],[]⟩
def A2(n:Nat):List CZ:=(List.range n).map fun(i:Nat)=>⟨2,(i:Int)⟩
def ET(p:AK):Option CC:=Dg p 401 ⟨p.main,0,A2 p.free.length⟩ ⟨Bs,[],0⟩
structure S9(p:AK)(s:CW)(q:HY):Prop where
 at_:KK s.am q.at_
 g0:0≤q.group
 i0:0≤q.index
 ex: ∃g d ch,s.ce[q.group.toNat]? =some g∧0≤g.eq∧p.defs[g.eq.toNat]? =some d∧d.ac[q.index.toNat]? =some ch
 len:q.queue.length≤12
end Go.Proofs
namespace Go.Abs
theorem Zu(k:IntKind)(a b:Int)(v:AV)(es:List (AU×AV)):Cb ((.int k a,v)::es) (.int k b)=if a=b then some (some v)else Cb es (.int k b):=by
 rw[Cb];by_cases h:a=b
 .have hb:(a==b)=decide (a=b):=by rw[OP];simp
  simp[Fz,h,hb]
 .have hb:(a==b)=decide (a=b):=by rw[OP];simp
  simp[Fz,h,hb]
attribute [go_sem] Zu
end Go.Abs
namespace Go.Proofs
open Go Go.Abs
def Fa:List (AU×AV):=[(.int .i64 2,.fn 110 [] []),(.int .i64 3,.fn 111 [] []),(.int .i64 4,.fn 112 [] []),(.int .i64 5,.fn 113 [] []),(.int .i64 6,.fn 114 [] []),(.int .i64 7,.fn 114 [] []),(.int .i64 8,.fn 114 [] [])]
def Ah(x:HY)(v:AV):List AV:=[.d (.int .i64 x.group),.d (.int .i64 x.index),.d (.int .i64 x.at_),v]
end Go.Proofs
namespace Go.Proofs
open Go Go.Abs
set_option maxRecDepth 100000
set_option maxHeartbeats 2000000
def CQ(n:Int):AV:=.iface 177 (.agg [.d (.int .i64 n)])
theorem ZM(n:Int):flat (CQ n)=true:=by simp[CQ,flat,Et,Dh]
attribute [go_sem] ZM
@[go_sem] theorem AAV(n:Int):BJ (KL Tryz.prog cfg) 107 [.d (.int .i64 n)] []=.ok (.em (CQ n),[]):=by
  (refine Ao rfl Tryz.func107 rfl rfl rfl ?_;show Wp _ _ _ _ (Tryz.f107.body.get rfl) _ _;simp only[Tryz.f107,AP])
  (repeat' (first|simp only[go_sem, *,CQ]|(refine sx ?_ ?_<;>intro hc)|refine sy (by omega) fun x hx hm=>?_|simp(disch:=first|assumption|omega) only[AG]))
@[go_sem] theorem AAi(t:Bool):BJ (KL Tryz.prog cfg) 62 [.d (.bool t)] []=Bg (CQ 2) t:=by
  cases t
  .rw[Iq]
   (refine Ao rfl Tryz.func62 rfl rfl rfl ?_;show Wp _ _ _ _ (Tryz.f62.body.get rfl) _ _;simp only[Tryz.f62,AP])
   exact au
  .rw[KB]
   (refine Ao rfl Tryz.func62 rfl rfl rfl ?_;show Wp _ _ _ _ (Tryz.f62.body.get rfl) _ _;simp only[Tryz.f62,AP])
   exact au
def Sm(x:BM)(size depth left:Int):Prop:=(x.size:Int)≤left∧depth+x.depth≤13∧x.formed size=true
theorem yU(x:BM)(size:Int):Sm x size 1 60↔x.ok size=true:=by
 simp only[Sm,BM.ok,AS,As];constructor
 .rintro⟨h1,h2,h3⟩;exact⟨by omega,by omega,h3⟩
 .rintro⟨h1,h2,h3⟩;exact⟨by omega,by omega,h3⟩
end Go.Proofs
namespace Go.Abs
variable{P:Program}{C:CA}{K:AJ}{fr:Fr}{b n i:Nat}{Q:Dc→St→Prop}
variable{ops:Array Oper}{al:Nat→Bool}{l:List Oper}{e:CB}{h:AB}{bs:Nat}{ds:List Df}{ps:List (Nat×Nat)}{fps:List Fp}{ρ:List Nat}{dst:Option Tmp}
theorem Ud(ρ:List Nat):JE (some ρ) []=true:=rfl
theorem qf(ρ:List Nat)(id:Id)(o:Obj)(δ:AB):JE (some ρ) ((id,o)::δ)=(Id.under ρ id&&JE (some ρ) δ):=rfl
theorem Jd(ρ:List Nat)(a j:Nat):Id.under ρ (a::j::ρ)=true:=under_iff.2 ⟨[a,j],rfl⟩
theorem Fu{Post:Ae→Prop}{q:E (Ae×AB)}(hk: ∃o h',q=.ok (o,h')∧Post o)(hn: ∀o h',Post o→zB C K fr ops b n al l i dst e h bs ds Q (.ok (o,h'))):zB C K fr ops b n al l i dst e h bs ds Q q:=by
 obtain⟨o,h',e,hp⟩:=hk;rw[e];exact hn o h' hp
theorem vL(v:AV)(h':AB):zB C K fr ops b n al l i dst e h bs ds Q (.ok (.ret v,h'))=(flat v=true∧Ez C K fr ops b n al l (i+1) ⟨B8 e dst v,h,bs,ds⟩ Q):=rfl
theorem vK(v:AV)(h':AB):zB C K fr ops b n al l i dst e h bs ds Q (.ok (.em v,h'))=(flat v=true∧al i=true∧Q (.em v) ⟨e,h,b+n,ds⟩):=rfl
def zA(C:CA)(K:AJ)(fr:Fr)(ops:Array Oper)(b n:Nat)(al:Nat→Bool)(ps:List (Nat×Nat))(fps:List Fp)(l:List Oper)(i:Nat)(dst:Option Tmp)(e:CB)(h:AB)(bs:Nat)(ds:List Df)(Q:Dc→St→Prop):E (Ae×AB)→Prop
 |.ok (.ret v,_)=>flat v=true∧FV C K fr ops b n al ps (fps++[⟨none,some []⟩]) l (i+1) ⟨B8 e dst v,h,bs,ds⟩ Q
 |.ok (.em v,_)=>flat v=true∧al i=true∧DC fps ps=true∧Q (.em v) ⟨e,h,b+n,ds⟩
 |.err _=>False
theorem o8(dst:Option Tmp)(ρ:List Nat)(f:FuncId)(az:List AV)(hx:(DM h.get az).isNone):Lz C K fr ops b n al ps fps l i dst ρ e h bs ds Q f az .ro=zA C K fr ops b n al ps fps l i dst e h bs ds Q (K (.fn f) (K9 h.get az) (h.puts (az.flatMap (mark h.get))) ρ true (some ρ)):=by
 have hx:DM h.get az=none:=by simpa using hx
 simp only[Lz,DW,hx,EZ,BA,BW,Ak];cases K (.fn f) (K9 h.get az) (h.puts (az.flatMap (mark h.get))) ρ true (some ρ)with
 |err l=>rfl
 |ok r=>
  obtain⟨o,h'⟩:=r;cases o<;>simp only[Nj,zA,Aw]<;>split<;>simp_all [Bu]
theorem Eg{Post:Ae→Prop}{q:E (Ae×AB)}(hk: ∃o h',q=.ok (o,h')∧Post o)(hn: ∀o h',Post o→zA C K fr ops b n al ps fps l i dst e h bs ds Q (.ok (o,h'))):zA C K fr ops b n al ps fps l i dst e h bs ds Q q:=by
 obtain⟨o,h',e,hp⟩:=hk;rw[e];exact hn o h' hp
theorem vJ(v:AV)(h':AB):zA C K fr ops b n al ps fps l i dst e h bs ds Q (.ok (.ret v,h'))=(flat v=true∧FV C K fr ops b n al ps (fps++[⟨none,some []⟩]) l (i+1) ⟨B8 e dst v,h,bs,ds⟩ Q):=rfl
theorem vI(v:AV)(h':AB):zA C K fr ops b n al ps fps l i dst e h bs ds Q (.ok (.em v,h'))=(flat v=true∧al i=true∧DC fps ps=true∧Q (.em v) ⟨e,h,b+n,ds⟩):=rfl
theorem vZ(ρ:List Nat)(a j:Nat)(o:Obj)(δ:AB):JE (some ρ) ((a::j::ρ,o)::δ)=JE (some ρ) δ:=by rw[qf,Jd,F0]
attribute [go_sem] Ud vZ vL vK o8 vJ vI
end Go.Abs
namespace Go.Proofs
open Go Go.Abs
set_option maxRecDepth 100000
set_option maxHeartbeats 4000000
def H7(π:List Nat)(sz n:Nat)(es:List (List AU)):Ae×AB:=if n=0 then(.ret .ci,[])else(.ret (.d8 (1::0::π) 0 n),[(1::0::π,.d6 sz es)])
theorem mM(f:FuncId)(hmd:cfg.mode f=.auto)(l:List Cr)(hf: ∀x∈l,BJ (KL Tryz.prog cfg) f [.agg [.d (.int .i64 (x.pp)),.d (.bool (x.dead))]] []=.ok (.ret (.agg [.d (.int .i64 (x.pp)),.d (.bool (x.dead))]),[]))(hl:l.length≤1000000)(k:Nat)(ρ:List Nat):BJ (KL Tryz.prog cfg) 148 [.d (.be (l.map A9)),.fn f [] []] (k::ρ)=.ok (H7 (k::ρ) 2 l.length (l.map A9)):=by
 (refine Ao rfl Tryz.func148 rfl rfl rfl ?_;show Wp _ _ _ _ (Tryz.f148.body.get rfl) _ _;simp only[Tryz.f148,AP])
 refine aw ?_;refine AY l _ (S:=fun m i (a:(AV×AB)×Nat)=>⟨[(1,.fn f [] []),(5,a.1.1),(8,.d (.be (l.map A9))),(9,.d (.int .i64 (m))),(10,.d (.int .i64 (i)))],a.1.2,a.2,[]⟩)
  (Inv:=fun i rest a=>AA (i=0∧a=((.ci,[]),0)∨0<i∧a=((.d8 (1::0::k::ρ) 0 i,[(1::0::k::ρ,.d6 2 ((l.take i).map A9))]),1))) (b0:=((_,[]),_)) ?_ ⟨.inl ⟨rfl,rfl⟩⟩ ?_ ?_
 .rfl
 .rintro i x a hy hi him hv IH;have hx:=hf x (Ap hy);replace hf:=AA.mk hf;rcases hv.out with⟨rfl,rfl⟩|⟨hi0,rfl⟩
  .clear hv;have him0:(0:Int)<l.length:=him;dsimp only at*;refine aw ?_;refine IH.out ((_,_),_) ⟨.inr ⟨by omega,?_⟩⟩;rw[I3,hy];rfl
  .clear hv;dsimp only at*;have tk:(l.take i).length=i:=by simp;omega
   have nle: ¬i+1≤i:=by omega
   refine aw ?_;refine IH.out ((_,_),_) ⟨.inr ⟨by omega,?_⟩⟩;have tk2:List.take i (List.map A9 (List.take i l))=List.map A9 (List.take i l):=D6 (by simp;omega);rw[I3,hy,tk2,BV];rfl
 .rintro i a hi him hv;replace hf:=AA.mk hf;rcases hv.out with⟨rfl,rfl⟩|⟨hi0,rfl⟩
  .clear hv;have him0: ¬(0:Int)<l.length:=him;dsimp only at*;have hl0:=AA.mk (hi.out.symm);refine aw ?_;rw[H7,D7 hl0.out]
  .clear hv;dsimp only at*;by_cases h0:l.length=0
   .exfalso;have:=hi.out;omega
   .rw[H7,D3 h0];have hi2:=hi.out;subst hi2;rw[D4];exact au
theorem eK(f:FuncId)(hmd:cfg.mode f=.auto)(l:List Ay)(hf: ∀x∈l,BJ (KL Tryz.prog cfg) f [.agg [.d (.int .i64 (x.eq)),.d (.int .i64 (x.at_)),.d (.be (x.env.map AI))]] []=.ok (.ret (.agg [.d (.int .i64 (x.eq)),.d (.int .i64 (x.at_)),.d (.be (x.env.map AI))]),[]))(hl:l.length≤1000000)(k:Nat)(ρ:List Nat):BJ (KL Tryz.prog cfg) 150 [.d (.be (l.map BG)),.fn f [] []] (k::ρ)=.ok (H7 (k::ρ) 3 l.length (l.map BG)):=by
 (refine Ao rfl Tryz.func150 rfl rfl rfl ?_;show Wp _ _ _ _ (Tryz.f150.body.get rfl) _ _;simp only[Tryz.f150,AP])
 refine aw ?_;refine AY l _ (S:=fun m i (a:(AV×AB)×Nat)=>⟨[(1,.fn f [] []),(5,a.1.1),(8,.d (.be (l.map BG))),(9,.d (.int .i64 (m))),(10,.d (.int .i64 (i)))],a.1.2,a.2,[]⟩)
  (Inv:=fun i rest a=>AA (i=0∧a=((.ci,[]),0)∨0<i∧a=((.d8 (1::0::k::ρ) 0 i,[(1::0::k::ρ,.d6 3 ((l.take i).map BG))]),1))) (b0:=((_,[]),_)) ?_ ⟨.inl ⟨rfl,rfl⟩⟩ ?_ ?_
 .rfl
 .rintro i x a hy hi him hv IH;have hx:=hf x (Ap hy);replace hf:=AA.mk hf;rcases hv.out with⟨rfl,rfl⟩|⟨hi0,rfl⟩
  .clear hv;have him0:(0:Int)<l.length:=him;dsimp only at*;refine aw ?_;refine IH.out ((_,_),_) ⟨.inr ⟨by omega,?_⟩⟩;rw[I3,hy];rfl
  .clear hv;dsimp only at*;have tk:(l.take i).length=i:=by simp;omega
   have nle: ¬i+1≤i:=by omega
   refine aw ?_;refine IH.out ((_,_),_) ⟨.inr ⟨by omega,?_⟩⟩;have tk2:List.take i (List.map BG (List.take i l))=List.map BG (List.take i l):=D6 (by simp;omega);rw[I3,hy,tk2,BV];rfl
 .rintro i a hi him hv;replace hf:=AA.mk hf;rcases hv.out with⟨rfl,rfl⟩|⟨hi0,rfl⟩
  .clear hv;have him0: ¬(0:Int)<l.length:=him;dsimp only at*;have hl0:=AA.mk (hi.out.symm);refine aw ?_;rw[H7,D7 hl0.out]
  .clear hv;dsimp only at*;by_cases h0:l.length=0
   .exfalso;have:=hi.out;omega
   .rw[H7,D3 h0];have hi2:=hi.out;subst hi2;rw[D4];exact au
theorem mN(f:FuncId)(hmd:cfg.mode f=.auto)(l:List L4)(hf: ∀x∈l,BJ (KL Tryz.prog cfg) f [.agg [.d (.int .i64 (x.at_)),.d (.int .i64 (x.node)),.d (.be (x.env.map AI))]] []=.ok (.ret (.agg [.d (.int .i64 (x.at_)),.d (.int .i64 (x.node)),.d (.be (x.env.map AI))]),[]))(hl:l.length≤1000000)(k:Nat)(ρ:List Nat):BJ (KL Tryz.prog cfg) 156 [.d (.be (l.map Bh)),.fn f [] []] (k::ρ)=.ok (H7 (k::ρ) 3 l.length (l.map Bh)):=by
 (refine Ao rfl Tryz.func156 rfl rfl rfl ?_;show Wp _ _ _ _ (Tryz.f156.body.get rfl) _ _;simp only[Tryz.f156,AP])
 refine aw ?_;refine AY l _ (S:=fun m i (a:(AV×AB)×Nat)=>⟨[(1,.fn f [] []),(5,a.1.1),(8,.d (.be (l.map Bh))),(9,.d (.int .i64 (m))),(10,.d (.int .i64 (i)))],a.1.2,a.2,[]⟩)
  (Inv:=fun i rest a=>AA (i=0∧a=((.ci,[]),0)∨0<i∧a=((.d8 (1::0::k::ρ) 0 i,[(1::0::k::ρ,.d6 3 ((l.take i).map Bh))]),1))) (b0:=((_,[]),_)) ?_ ⟨.inl ⟨rfl,rfl⟩⟩ ?_ ?_
 .rfl
 .rintro i x a hy hi him hv IH;have hx:=hf x (Ap hy);replace hf:=AA.mk hf;rcases hv.out with⟨rfl,rfl⟩|⟨hi0,rfl⟩
  .clear hv;have him0:(0:Int)<l.length:=him;dsimp only at*;refine aw ?_;refine IH.out ((_,_),_) ⟨.inr ⟨by omega,?_⟩⟩;rw[I3,hy];rfl
  .clear hv;dsimp only at*;have tk:(l.take i).length=i:=by simp;omega
   have nle: ¬i+1≤i:=by omega
   refine aw ?_;refine IH.out ((_,_),_) ⟨.inr ⟨by omega,?_⟩⟩;have tk2:List.take i (List.map Bh (List.take i l))=List.map Bh (List.take i l):=D6 (by simp;omega);rw[I3,hy,tk2,BV];rfl
 .rintro i a hi him hv;replace hf:=AA.mk hf;rcases hv.out with⟨rfl,rfl⟩|⟨hi0,rfl⟩
  .clear hv;have him0: ¬(0:Int)<l.length:=him;dsimp only at*;have hl0:=AA.mk (hi.out.symm);refine aw ?_;rw[H7,D7 hl0.out]
  .clear hv;dsimp only at*;by_cases h0:l.length=0
   .exfalso;have:=hi.out;omega
   .rw[H7,D3 h0];have hi2:=hi.out;subst hi2;rw[D4];exact au
theorem rU(f:FuncId)(hmd:cfg.mode f=.auto)(l:List CZ)(hf: ∀x∈l,BJ (KL Tryz.prog cfg) f [.agg [.d (.int .i64 (x.kind)),.d (.int .i64 (x.n))]] []=.ok (.ret (.agg [.d (.int .i64 (x.kind)),.d (.int .i64 (x.n))]),[]))(hl:l.length≤1000000)(k:Nat)(ρ:List Nat):BJ (KL Tryz.prog cfg) 181 [.d (.be (l.map AI)),.fn f [] []] (k::ρ)=.ok (H7 (k::ρ) 2 l.length (l.map AI)):=by
 (refine Ao rfl Tryz.func181 rfl rfl rfl ?_;show Wp _ _ _ _ (Tryz.f181.body.get rfl) _ _;simp only[Tryz.f181,AP])
 refine aw ?_;refine AY l _ (S:=fun m i (a:(AV×AB)×Nat)=>⟨[(1,.fn f [] []),(5,a.1.1),(8,.d (.be (l.map AI))),(9,.d (.int .i64 (m))),(10,.d (.int .i64 (i)))],a.1.2,a.2,[]⟩)
  (Inv:=fun i rest a=>AA (i=0∧a=((.ci,[]),0)∨0<i∧a=((.d8 (1::0::k::ρ) 0 i,[(1::0::k::ρ,.d6 2 ((l.take i).map AI))]),1))) (b0:=((_,[]),_)) ?_ ⟨.inl ⟨rfl,rfl⟩⟩ ?_ ?_
 .rfl
 .rintro i x a hy hi him hv IH;have hx:=hf x (Ap hy);replace hf:=AA.mk hf;rcases hv.out with⟨rfl,rfl⟩|⟨hi0,rfl⟩
  .clear hv;have him0:(0:Int)<l.length:=him;dsimp only at*;refine aw ?_;refine IH.out ((_,_),_) ⟨.inr ⟨by omega,?_⟩⟩;rw[I3,hy];rfl
  .clear hv;dsimp only at*;have tk:(l.take i).length=i:=by simp;omega
   have nle: ¬i+1≤i:=by omega
   refine aw ?_;refine IH.out ((_,_),_) ⟨.inr ⟨by omega,?_⟩⟩;have tk2:List.take i (List.map AI (List.take i l))=List.map AI (List.take i l):=D6 (by simp;omega);rw[I3,hy,tk2,BV];rfl
 .rintro i a hi him hv;replace hf:=AA.mk hf;rcases hv.out with⟨rfl,rfl⟩|⟨hi0,rfl⟩
  .clear hv;have him0: ¬(0:Int)<l.length:=him;dsimp only at*;have hl0:=AA.mk (hi.out.symm);refine aw ?_;rw[H7,D7 hl0.out]
  .clear hv;dsimp only at*;by_cases h0:l.length=0
   .exfalso;have:=hi.out;omega
   .rw[H7,D3 h0];have hi2:=hi.out;subst hi2;rw[D4];exact au
theorem rR(f:FuncId)(hmd:cfg.mode f=.auto)(l:List (List CZ))(hf: ∀x∈l,BJ (KL Tryz.prog cfg) f [.agg [.d (.be (x.map AI))]] []=.ok (.ret (.agg [.d (.be (x.map AI))]),[]))(hl:l.length≤1000000)(k:Nat)(ρ:List Nat):BJ (KL Tryz.prog cfg) 183 [.d (.be (l.map CU)),.fn f [] []] (k::ρ)=.ok (H7 (k::ρ) 1 l.length (l.map CU)):=by
 (refine Ao rfl Tryz.func183 rfl rfl rfl ?_;show Wp _ _ _ _ (Tryz.f183.body.get rfl) _ _;simp only[Tryz.f183,AP])
 refine aw ?_;refine AY l _ (S:=fun m i (a:(AV×AB)×Nat)=>⟨[(1,.fn f [] []),(5,a.1.1),(8,.d (.be (l.map CU))),(9,.d (.int .i64 (m))),(10,.d (.int .i64 (i)))],a.1.2,a.2,[]⟩)
  (Inv:=fun i rest a=>AA (i=0∧a=((.ci,[]),0)∨0<i∧a=((.d8 (1::0::k::ρ) 0 i,[(1::0::k::ρ,.d6 1 ((l.take i).map CU))]),1))) (b0:=((_,[]),_)) ?_ ⟨.inl ⟨rfl,rfl⟩⟩ ?_ ?_
 .rfl
 .rintro i x a hy hi him hv IH;have hx:=hf x (Ap hy);replace hf:=AA.mk hf;rcases hv.out with⟨rfl,rfl⟩|⟨hi0,rfl⟩
  .clear hv;have him0:(0:Int)<l.length:=him;dsimp only at*;refine aw ?_;refine IH.out ((_,_),_) ⟨.inr ⟨by omega,?_⟩⟩;rw[I3,hy];rfl
  .clear hv;dsimp only at*;have tk:(l.take i).length=i:=by simp;omega
   have nle: ¬i+1≤i:=by omega
   refine aw ?_;refine IH.out ((_,_),_) ⟨.inr ⟨by omega,?_⟩⟩;have tk2:List.take i (List.map CU (List.take i l))=List.map CU (List.take i l):=D6 (by simp;omega);rw[I3,hy,tk2,BV];rfl
 .rintro i a hi him hv;replace hf:=AA.mk hf;rcases hv.out with⟨rfl,rfl⟩|⟨hi0,rfl⟩
  .clear hv;have him0: ¬(0:Int)<l.length:=him;dsimp only at*;have hl0:=AA.mk (hi.out.symm);refine aw ?_;rw[H7,D7 hl0.out]
  .clear hv;dsimp only at*;by_cases h0:l.length=0
   .exfalso;have:=hi.out;omega
   .rw[H7,D3 h0];have hi2:=hi.out;subst hi2;rw[D4];exact au
theorem X8(x:Cr):BJ (KL Tryz.prog cfg) 149 [.agg [.d (.int .i64 (x.pp)),.d (.bool (x.dead))]] []=.ok (.ret (.agg [.d (.int .i64 (x.pp)),.d (.bool (x.dead))]),[]):=by
 (refine Ao rfl Tryz.func149 rfl rfl rfl ?_;show Wp _ _ _ _ (Tryz.f149.body.get rfl) _ _;simp only[Tryz.f149,AP])
 exact au
theorem bp(x:CZ):BJ (KL Tryz.prog cfg) 182 [.agg [.d (.int .i64 (x.kind)),.d (.int .i64 (x.n))]] []=.ok (.ret (.agg [.d (.int .i64 (x.kind)),.d (.int .i64 (x.n))]),[]):=by
 (refine Ao rfl Tryz.func182 rfl rfl rfl ?_;show Wp _ _ _ _ (Tryz.f182.body.get rfl) _ _;simp only[Tryz.f182,AP])
 exact au
end Go.Proofs
namespace Go.Abs
variable{P:Program}{C:CA}{K:AJ}{fr:Fr}{b n i:Nat}{Q:Dc→St→Prop}
variable{ops:Array Oper}{al:Nat→Bool}{l:List Oper}{e:CB}{h:AB}{bs:Nat}{ds:List Df}{ps:List (Nat×Nat)}{fps:List Fp}{ρ:List Nat}{dst:Option Tmp}
theorem bU(az:List AV)(id:Id)(o m sz:Nat)(es:List (List AU))(hx:Ba (.d8 id o m) [(id,.d6 sz es)]=some (id,.d6 sz es)):C5 C K fr ops b n al l i az dst e h bs ds Q (.ok (.ret (.d8 id o m),[(id,.d6 sz es)]))=Ez C K fr ops b n al l (i+1) ⟨B8 e dst (.d8 id o m),(id,.d6 sz es)::h,bs,ds⟩ Q:=jf _ az _ _ _ rfl hx
theorem bR(az:List AV)(id:Id)(o m sz:Nat)(es:List (List AU))(hx:Ba (.d8 id o m) [(id,.d6 sz es)]=some (id,.d6 sz es)):C4 C K fr ops b n al ps fps l i az dst e h bs ds Q (.ok (.ret (.d8 id o m),[(id,.d6 sz es)]))=FV C K fr ops b n al ps (fps++[⟨some (CX h.get (A5 az)),some [id]⟩]) l (i+1) ⟨B8 e dst (.d8 id o m),(id,.d6 sz es)::h,bs,ds⟩ Q:=je _ az _ _ _ rfl hx
attribute [go_sem] bU bR
end Go.Abs
namespace Go.Proofs
open Go Go.Abs
set_option maxRecDepth 100000
set_option maxHeartbeats 4000000
variable{π:List Nat}{sz:Nat}{es:List (List AU)}
theorem C7{n:Nat}(h:n=0):H7 π sz n es=(.ret .ci,[]):=by rw[H7,D7 h]
theorem Dm{n:Nat}(h:n≠0):H7 π sz n es=(.ret (.d8 (1::0::π) 0 n),[(1::0::π,.d6 sz es)]):=by rw[H7,D3 h]
theorem Gp(id:Abs.Id)(o n sz:Nat)(es:List (List AU)):Ba (.d8 id o n) [(id,.d6 sz es)]=if es.all (·.all Dh)then some (id,.d6 sz es)else none:=by
 simp only[Ba,go_sem,is_self,F3]
theorem CP(l:List CZ)(id:Abs.Id)(o n:Nat):Ba (.d8 id o n) [(id,.d6 2 (l.map AI))]=some (id,.d6 2 (l.map AI)):=by
 rw[Gp,D7];simp[AI,Dh]
theorem IW{l:List (List CZ)}(h:l.length≠0)(id:Abs.Id)(o n:Nat):Ba (.d8 id o n) [(id,.d6 1 (l.map CU))]=none:=by
 rw[Gp,D3];cases l with
 |nil=>exact absurd rfl h
 |cons x l=>simp[CU,Dh]
theorem M7(l:List Cr)(id:Abs.Id)(o n:Nat):Ba (.d8 id o n) [(id,.d6 2 (l.map A9))]=some (id,.d6 2 (l.map A9)):=by
 rw[Gp,D7];simp[A9,Dh]
theorem Lx{l:List Ay}(h:l.length≠0)(id:Abs.Id)(o n:Nat):Ba (.d8 id o n) [(id,.d6 3 (l.map BG))]=none:=by
 rw[Gp,D3];cases l with
 |nil=>exact absurd rfl h
 |cons x l=>simp[BG,Dh]
theorem M8{l:List L4}(h:l.length≠0)(id:Abs.Id)(o n:Nat):Ba (.d8 id o n) [(id,.d6 3 (l.map Bh))]=none:=by
 rw[Gp,D3];cases l with
 |nil=>exact absurd rfl h
 |cons x l=>simp[Bh,Dh]
theorem Lk(l:List CZ)(hl:l.length≤1000000)(k:Nat)(ρ:List Nat):BJ (KL Tryz.prog cfg) 152 [.d (.be (l.map AI))] (k::ρ)=.ok (H7 (2::k::ρ) 2 l.length (l.map AI)):=by
 have h1:=fun k ρ=>rU 182 rfl l (fun x _=>bp x) hl k ρ;by_cases h0:l.length=0
 .rw[C7 h0];simp only[C7 h0]at h1
  (refine Ao rfl Tryz.func152 rfl rfl rfl ?_;show Wp _ _ _ _ (Tryz.f152.body.get rfl) _ _;simp only[Tryz.f152,AP])
  exact au
 .rw[Dm h0];simp only[Dm h0]at h1;have fa:=CP
  (refine Ao rfl Tryz.func152 rfl rfl rfl ?_;show Wp _ _ _ _ (Tryz.f152.body.get rfl) _ _;simp only[Tryz.f152,AP])
  exact au
theorem jq(x:List CZ)(hl:x.length≤1000000):BJ (KL Tryz.prog cfg) 184 [.agg [.d (.be (x.map AI))]] []=.ok (.ret (.agg [.d (.be (x.map AI))]),[]):=by
 have h1:=Lk x hl;by_cases h0:x.length=0
 .simp only[C7 h0]at h1;obtain rfl:=CE h0;clear h0;simp only[Be]at h1
  (refine Ao rfl Tryz.func184 rfl rfl rfl ?_;show Wp _ _ _ _ (Tryz.f184.body.get rfl) _ _;simp only[Tryz.f184,AP])
  (repeat' (first|simp only[go_sem, *,Be]|(refine sx ?_ ?_<;>intro hc)|refine sy (by omega) fun x hx hm=>?_|simp(disch:=first|assumption|omega) only[AG]))
 .simp only[Dm h0]at h1;have fa:=CP;have tk:List.take x.length (List.map AI x)=List.map AI x:=D6 (by simp)
  (refine Ao rfl Tryz.func184 rfl rfl rfl ?_;show Wp _ _ _ _ (Tryz.f184.body.get rfl) _ _;simp only[Tryz.f184,AP])
  exact au
theorem pg(l:List (List CZ))(hl:l.length≤1000000)(h: ∀x∈l,x.length≤1000000)(k:Nat)(ρ:List Nat):BJ (KL Tryz.prog cfg) 155 [.d (.be (l.map CU))] (k::ρ)=.ok (H7 (2::k::ρ) 1 l.length (l.map CU)):=by
 have h1:=fun k ρ=>rR 184 rfl l (fun x hx=>jq x (h x hx)) hl k ρ;replace h:=AA.mk h;by_cases h0:l.length=0
 .rw[C7 h0];simp only[C7 h0]at h1
  (refine Ao rfl Tryz.func155 rfl rfl rfl ?_;show Wp _ _ _ _ (Tryz.f155.body.get rfl) _ _;simp only[Tryz.f155,AP])
  exact au
 .rw[Dm h0];simp only[Dm h0]at h1;have fa:=IW h0
  (refine Ao rfl Tryz.func155 rfl rfl rfl ?_;show Wp _ _ _ _ (Tryz.f155.body.get rfl) _ _;simp only[Tryz.f155,AP])
  exact au
theorem P6(x:Ay)(hl:x.env.length≤1000000):BJ (KL Tryz.prog cfg) 151 [.agg [.d (.int .i64 (x.eq)),.d (.int .i64 (x.at_)),.d (.be (x.env.map AI))]] []=.ok (.ret (.agg [.d (.int .i64 (x.eq)),.d (.int .i64 (x.at_)),.d (.be (x.env.map AI))]),[]):=by
 have h1:=Lk x.env hl;by_cases h0:x.env.length=0
 .simp only[C7 h0]at h1;have h2:=CE h0;simp only[h2,Be]at h1
  (refine Ao rfl Tryz.func151 rfl rfl rfl ?_;show Wp _ _ _ _ (Tryz.f151.body.get rfl) _ _;simp only[Tryz.f151,AP])
  (repeat' (first|simp only[go_sem, *,Be]|(refine sx ?_ ?_<;>intro hc)|refine sy (by omega) fun x hx hm=>?_|simp(disch:=first|assumption|omega) only[AG]))
 .simp only[Dm h0]at h1;have fa:=CP;have tk:List.take x.env.length (List.map AI x.env)=List.map AI x.env:=D6 (by simp)
  (refine Ao rfl Tryz.func151 rfl rfl rfl ?_;show Wp _ _ _ _ (Tryz.f151.body.get rfl) _ _;simp only[Tryz.f151,AP])
  exact au
theorem Rb(x:L4)(hl:x.env.length≤1000000):BJ (KL Tryz.prog cfg) 157 [.agg [.d (.int .i64 (x.at_)),.d (.int .i64 (x.node)),.d (.be (x.env.map AI))]] []=.ok (.ret (.agg [.d (.int .i64 (x.at_)),.d (.int .i64 (x.node)),.d (.be (x.env.map AI))]),[]):=by
 have h1:=Lk x.env hl;by_cases h0:x.env.length=0
 .simp only[C7 h0]at h1;have h2:=CE h0;simp only[h2,Be]at h1
  (refine Ao rfl Tryz.func157 rfl rfl rfl ?_;show Wp _ _ _ _ (Tryz.f157.body.get rfl) _ _;simp only[Tryz.f157,AP])
  (repeat' (first|simp only[go_sem, *,Be]|(refine sx ?_ ?_<;>intro hc)|refine sy (by omega) fun x hx hm=>?_|simp(disch:=first|assumption|omega) only[AG]))
 .simp only[Dm h0]at h1;have fa:=CP;have tk:List.take x.env.length (List.map AI x.env)=List.map AI x.env:=D6 (by simp)
  (refine Ao rfl Tryz.func157 rfl rfl rfl ?_;show Wp _ _ _ _ (Tryz.f157.body.get rfl) _ _;simp only[Tryz.f157,AP])
  exact au
def MQ(π:List Nat)(x:HY):Ae×AB:=if x.queue.length=0 then(.ret (.agg (Ah x .ci)),[(0::0::π,.box (Ah x (.d (.be (x.queue.map CU))))),(0::1::π,.box (Ah x .ci))])else(.ret (.agg (Ah x (.d8 (1::0::2::10::π) 0 x.queue.length))),[(1::0::2::10::π,.d6 1 (x.queue.map CU)),(0::0::π,.box (Ah x (.d (.be (x.queue.map CU))))),(0::1::π,.box (Ah x (.d8 (1::0::2::10::π) 0 x.queue.length)))])
theorem TS(x:HY)(hl:x.queue.length≤1000000)(h: ∀y∈x.queue,y.length≤1000000)(k:Nat)(ρ:List Nat):BJ (KL Tryz.prog cfg) 154 [.agg [.d (.int .i64 (x.group)),.d (.int .i64 (x.index)),.d (.int .i64 (x.at_)),.d (.be (x.queue.map CU))]] (k::ρ)=.ok (MQ (k::ρ) x):=by
 have h1:=pg x.queue hl h;replace h:=AA.mk h;by_cases h0:x.queue.length=0
 .rw[MQ,D7 h0];simp only[C7 h0]at h1
  (refine Ao rfl Tryz.func154 rfl rfl rfl ?_;show Wp _ _ _ _ (Tryz.f154.body.get rfl) _ _;simp only[Tryz.f154,AP])
  (repeat' (first|simp only[go_sem, *,Ah]|(refine sx ?_ ?_<;>intro hc)|refine sy (by omega) fun x hx hm=>?_|simp(disch:=first|assumption|omega) only[AG]))
 .rw[MQ,D3 h0];simp only[Dm h0]at h1;have fa:=IW h0
  (refine Ao rfl Tryz.func154 rfl rfl rfl ?_;show Wp _ _ _ _ (Tryz.f154.body.get rfl) _ _;simp only[Tryz.f154,AP])
  (repeat' (first|simp only[go_sem, *,Ah]|(refine sx ?_ ?_<;>intro hc)|refine sy (by omega) fun x hx hm=>?_|simp(disch:=first|assumption|omega) only[AG]))
end Go.Proofs
namespace Go.Abs
variable{P:Program}{C:CA}{K:AJ}{fr:Fr}{b n i:Nat}{Q:Dc→St→Prop}
variable{ops:Array Oper}{al:Nat→Bool}{l:List Oper}{e:CB}{h:AB}{bs:Nat}{ds:List Df}{ps:List (Nat×Nat)}{fps:List Fp}{ρ:List Nat}{dst:Option Tmp}
def z6(Q:Dc→St→Prop)(st:St):Option Code→Prop
 |none=>Q .normal st
 |some .ret=>Q .ret st
 |some (.exit k)=>Q (.exit k) st
 |some _=>False
def Xn(Q:Dc→St→Prop)(st:St):Option Obj→Prop
 |some (.loop r)=>match r.state with
  |.busy=>False
  |_=>z6 Q st r.pm
 |_=>False
def UI(ρ ρ2:List Nat)(id:Id)(e:CB)(bs:Nat)(ds:List Df)(Q:Dc→St→Prop):E (Ae×AB)→Prop
 |.ok (.ret _,h')=>Xn Q ⟨e,gc ρ (gc ρ2 h'),bs,ds⟩ (h'.get id)
 |.ok (.em v,h')=>Q (.em v) ⟨e,gc ρ (gc ρ2 h'),bs,ds⟩
 |.err _=>False
def zY(K:AJ)(bi:Option (List Nat))(ρ ρ2:List Nat)(id:Id)(e:CB)(h:AB)(bs:Nat)(ds:List Df)(Q:Dc→St→Prop):AV→Prop
 |.fn f first cap=>UI ρ ρ2 id e bs ds Q (K (.fn f) (first++[.un id]++cap) h ρ2 true bi)
 |_=>False
variable{ρ ρ2:List Nat}
theorem lv{bi:Option (List Nat)}{id:Id}(f:FuncId)(first cap:List AV):zY K bi ρ ρ2 id e h bs ds Q (.fn f first cap)=UI ρ ρ2 id e bs ds Q (K (.fn f) (first++[.un id]++cap) h ρ2 true bi):=rfl
theorem bb{id:Id}(v:AV)(h':AB):UI ρ ρ2 id e bs ds Q (.ok (.ret v,h'))=Xn Q ⟨e,gc ρ (gc ρ2 h'),bs,ds⟩ (h'.get id):=rfl
theorem ba{id:Id}(v:AV)(h':AB):UI ρ ρ2 id e bs ds Q (.ok (.em v,h'))=Q (.em v) ⟨e,gc ρ (gc ρ2 h'),bs,ds⟩:=rfl
theorem bO(st:St)(f:FuncId)(e:CB)(pz:List Nat)(jp body:Code)(nt:Nat):Xn Q st (some (.loop ⟨.ready,none,f,e,pz,jp,body,nt⟩))=Q .normal st:=rfl
theorem jW(st:St)(f:FuncId)(e:CB)(pz:List Nat)(jp body:Code)(nt:Nat):Xn Q st (some (.loop ⟨.done,some .ret,f,e,pz,jp,body,nt⟩))=Q .ret st:=rfl
theorem bN(st:St)(k:Nat)(f:FuncId)(e:CB)(pz:List Nat)(jp body:Code)(nt:Nat):Xn Q st (some (.loop ⟨.done,some (.exit k),f,e,pz,jp,body,nt⟩))=Q (.exit k) st:=rfl
def ABP(C:CA)(K:AJ)(fr:Fr)(ops:Array Oper)(b n:Nat)(al:Nat→Bool)(l:List Oper)(i:Nat)(dst:Option Tmp)(ρ:List Nat)(e:CB)(h:AB)(bs:Nat)(ds:List Df)(Q:Dc→St→Prop)(id:Id)(az:List AV):Option Obj→Prop
 |some (.loop r)=>UJ C K fr ops b n al l i dst ρ e h bs ds Q (K (.round id r) az h ρ true fr.bi)
 |_=>False
theorem kR(id:Id)(args:List AV)(r:Lp):ABP C K fr ops b n al l i dst ρ e h bs ds Q id args (some (.loop r))=UJ C K fr ops b n al l i dst ρ e h bs ds Q (K (.round id r) args h ρ true fr.bi):=rfl
def ABO(C:CA)(K:AJ)(fr:Fr)(ops:Array Oper)(b n:Nat)(al:Nat→Bool)(ps:List (Nat×Nat))(fps:List Fp)(l:List Oper)(i:Nat)(dst:Option Tmp)(ρ:List Nat)(e:CB)(h:AB)(bs:Nat)(ds:List Df)(Q:Dc→St→Prop)(id:Id)(az:List AV):Option Obj→Prop
 |some (.loop r)=>X0 C K fr ops b n al ps fps l i dst ρ e h bs ds Q (K (.round id r) az h ρ true fr.bi)
 |_=>False
theorem kQ(id:Id)(args:List AV)(r:Lp):ABO C K fr ops b n al ps fps l i dst ρ e h bs ds Q id args (some (.loop r))=X0 C K fr ops b n al ps fps l i dst ρ e h bs ds Q (K (.round id r) args h ρ true fr.bi):=rfl
def py(id:Id)(Post:Ae→AB→Prop)(o:Dc)(h:AB):Option Obj→Prop
 |some (.loop r)=>match o with
  |.normal=>Post (.ret (.d (.bool true))) (h.put id (.loop {r with state:=.ready,pm:=none}))
  |.ret=>Post (.ret (.d (.bool false))) (h.put id (.loop {r with state:=.done,pm:=some .ret}))
  |.exit k=>Post (.ret (.d (.bool false))) (h.put id (.loop {r with state:=.done,pm:=some (.exit k)}))
  |.em v=>Post (.em v) h
 |_=>False
def z9(id:Id)(Post:Ae→AB→Prop):Dc→St→Prop
 |o,st=>st.defs=[]∧py id Post o st.heap (st.heap.get id)
def ABE(C:CA)(K:AJ)(fr:Fr)(id:Id)(body:Code)(Post:Ae→AB→Prop)(st:St):Option Obj→Prop
 |some (.loop r)=>match r.state with
  |.ready=>Wp C K fr 0 body {st with heap:=st.heap.put id (.loop {r with state:=.busy})} (z9 id Post)
  |_=>False
 |_=>False
variable{Post:Ae→AB→Prop}
theorem X2(id:Id)(r:Lp):py id Post .normal h (some (.loop r))=Post (.ret (.d (.bool true))) (h.put id (.loop ⟨.ready,none,r.f,r.env,r.params,r.jp,r.body,r.nt⟩)):=rfl
theorem p5(id:Id)(r:Lp):py id Post .ret h (some (.loop r))=Post (.ret (.d (.bool false))) (h.put id (.loop ⟨.done,some .ret,r.f,r.env,r.params,r.jp,r.body,r.nt⟩)):=rfl
theorem j4(id:Id)(k:Nat)(r:Lp):py id Post (.exit k) h (some (.loop r))=Post (.ret (.d (.bool false))) (h.put id (.loop ⟨.done,some (.exit k),r.f,r.env,r.params,r.jp,r.body,r.nt⟩)):=rfl
theorem p0(id:Id)(v:AV)(r:Lp):py id Post (.em v) h (some (.loop r))=Post (.em v) h:=rfl
theorem dU(id:Id)(body:Code)(p:Option Code)(f:FuncId)(e':CB)(pz:List Nat)(a c:Code)(nt:Nat):ABE C K fr id body Post ⟨e,h,bs,[]⟩ (some (.loop ⟨.ready,p,f,e',pz,a,c,nt⟩))=Wp C K fr 0 body ⟨e,h.put id (.loop ⟨.busy,p,f,e',pz,a,c,nt⟩),bs,[]⟩ (z9 id Post):=rfl
attribute [go_sem] lv bb ba bO jW bN kR kQ X2 p5 j4 p0 dU Dp
end Go.Abs
namespace Go.Abs
variable{α β:Type}
theorem Nq(f:α→β)(l:List α):List.take l.length (l.map f)=l.map f:=D6 (by simp)
theorem Ua(f:α→β)(l:List α)(x:List β):List.take l.length (l.map f++x)=l.map f:=by rw[Lm (by simp),Nq]
theorem TW(f:α→β)(l:List α)(y:β)(x:List β):List.drop (l.length+1) (l.map f++y::x)=x:=by rw[List.drop_append];simp
def ot(g:G)(id:Id):Option Obj→AB
 |some (.d6 sz es)=>[(id,.it sz es)]
 |some (.arr sz es)=>match Cd g es with
  |some ds=>(id,.it sz ds)::es.flatMap (Bb g)
  |none=>[]
 |_=>[]
theorem ib(g:G)(id:Id)(off n:Nat):Eu g (.d8 id off n)=ot g id (g id):=by
 simp only[Eu];cases g id with
 |none=>rfl
 |some o=>cases o<;>rfl
theorem Z0(g:G)(id:Id)(sz:Nat)(es:List (List AU)):ot g id (some (.d6 sz es))=[(id,.it sz es)]:=rfl
theorem ie(g:G)(id:Id)(sz:Nat)(es:List (List AU)):ot g id (some (.it sz es))=[]:=rfl
attribute [go_sem] o6 ib Z0 ie
attribute [go_sem] Nq Ua TW Nat.le_add_right Nat.le_add_left Nat.add_le_add_iff_left Nat.not_succ_le_self Nat.add_lt_add_iff_left
end Go.Abs
namespace Go.Proofs
open Go Go.Abs
variable{ρ:Abs.Id}
theorem C1{id:Abs.Id}(h:Id.under ρ id=false)(a b c n:Nat):Id.is (a::b::c::n::ρ) id=false:=AE (AH (AH h n) c) a b
theorem Gw{id:Abs.Id}(h:Id.under ρ id=false)(a b c n:Nat):Id.is id (a::b::c::n::ρ)=false:=AZ (AH (AH h n) c) a b
variable{π:List Nat}
theorem A4(l:List Nat):Id.under π (l++π)=true:=under_iff.2 ⟨l,rfl⟩
def Nv(g:AB)(sz:Nat)(v:AV)(es:List (List AU)):Prop:=(v=.ci∧es=[])∨ ∃id x,v=.d8 id 0 es.length∧g.get id=some (.d6 sz (es++x))
def vt(g:AB)(sz:Nat)(v:AV)(es:List (List AU)):Prop:=Nv g sz v es∨(v=.emp∧es=[])
abbrev Nw(c:Bool)(i:Nat)(g:AB)(sz:Nat)(v:AV)(es:List (List AU)):Prop:=match c,i with
 |false,2=>vt g sz v es
 |_,_=>Nv g sz v es
structure YT(c:Bool)(g:AB)(rows:List (List AV))(l:List HY):Prop where
 len:rows.length=l.length
 row: ∀(j:Nat) (q:HY),l[j]? =some q→ ∃v,rows[j]? =some (Ah q v)∧Nw c 2 g 1 v (q.queue.map CU)
abbrev Chs:=YT true
def qo(g:AB)(v:AV)(rows:List (List AV)):Prop:=(v=.ci∧rows=[])∨ ∃id,v=.d8 id 0 rows.length∧g.get id=some (.arr 4 rows)
structure MV where
 s:Nat→AV
 v3:AV
 v9:AV
 rc:Abs.Id
 rows:List (List AV)
def Er:Nat→Nat
 |0=>2
 |1=>3
 |2=>3
 |_=>5
def Ad(st:CC):Nat→List (List AU)
 |0=>st.d7.am.map A9
 |1=>st.d7.ce.map BG
 |2=>st.d7.waits.map Bh
 |_=>st.ev.map Hx
def MV.f9(V:MV)(i:Nat)(v:AV):MV:={V with s:=fun j=>if j=i then v else V.s j}
def MV.ids(V:MV)(m:Abs.Id):List Abs.Id:=m::V.rc::(AD (V.s 0)++(AD (V.s 1)++(AD (V.s 2)++(AD (V.s 3)++(AD V.v3++V.rows.flatMap A5)))))
def BS(p:AK)(sz:List Int)(V:MV)(w:Int):List AV:=[V.s 0,V.s 1,V.v3,V.s 2,.d (.be (p.free.map A0)),.d (.be (p.nodes.map Al)),.d (.be (p.defs.map A8)),.d (.int .i64 p.main),.d (.be (sz.map AO)),V.v9,.mp V.rc,V.s 3,.d (.int .i64 w)]
structure EY(B:MV→Int→List AV)(c:Bool)(h:AB)(m:Abs.Id)(V:MV)(st:CC):Prop where
 box:h.get m=some (.box (B V st.work))
 act0:(V.rc=m∧c=false)∨h.get V.rc=some (.map Fa)
 sl: ∀i,i<4→Nw c i h (Er i) (V.s i) (Ad st i)
 arr:qo h V.v3 V.rows
 ac:YT c h V.rows st.d7.ac
 gw: ∀id∈AD (V.s 1),id∉AD (V.s 2)
 qd:(V.rows.flatMap A5).Nodup
 inv: ∀(V:MV) (rows:List (List AV)) (w:Int),B {V with rows:=rows} w=B V w
abbrev KP(p:AK)(sz:List Int):=EY (BS p sz) true
variable{h:AB}{m:Abs.Id}
theorem EY.rc{B:MV→Int→List AV}{V:MV}{st:CC}(hM:EY B true h m V st):h.get V.rc=some (.map Fa):=hM.act0.resolve_left fun e=>by cases e.2
variable{c:Bool}{h':AB}
theorem LG{B:MV→Int→List AV}{V:MV}{st:CC}(hM:EY B c h m V st)(hk:V.rc≠m→h.get V.rc=some (.map Fa)→h'.get V.rc=h.get V.rc):(V.rc=m∧c=false)∨h'.get V.rc=some (.map Fa):=by
 rcases hM.act0 with e|e
 .exact .inl e
 .exact .inr ((hk (fun e2=>by rw[e2,hM.box]at e;cases e) e).trans e)
structure TB(N:Abs.Id→Bool)(m:Abs.Id)(V V':MV)(h h':AB):Prop where
 ids: ∀id∈V'.ids m,id∈V.ids m∨(N id=true∧ ∃l,id=1::l)
 frame: ∀id,id∉V.ids m→N id=false→h'.get id=h.get id
abbrev vq(π:List Nat):=TB (Id.under π)
abbrev Ji(B:MV→Int→List AV)(c:Bool)(N:Abs.Id→Bool)(m:Abs.Id)(V:MV)(h:AB)(st:CC)(h':AB):Prop:= ∃V',EY B c h' m V' st∧TB N m V V' h h'
abbrev wY(p:AK)(sz:List Int):=Ji (BS p sz) true
abbrev zG(p:AK)(sz:List Int)(π:List Nat):=wY p sz (Id.under π)
abbrev KM(N:Abs.Id→Bool)(V:MV)(m:Abs.Id):Prop:= ∀id∈V.ids m,N id=false
abbrev B4(π:List Nat):=KM (Id.under π)
theorem B4.ext{V:MV}(h:B4 π V m)(n:Nat):B4 (n::π) V m:=fun id hid=>AH (h id hid) n
def GF(p:AK)(sz:List Int)(π:List Nat)(m:Abs.Id)(V:MV)(h:AB):Option CC→Ae→AB→Prop
 |some st,o,h'=>o=.ret (.f8 [])∧zG p sz π m V h st h'
 |none,o,h'=>o=.em (CQ 3)∧ ∀id,id∉V.ids m→Id.under π id=false→h'.get id=h.get id
variable{g:AB}{sz:Nat}{es:List (List AU)}
theorem Aq{n:Nat}{id:Abs.Id}(x:List (List AU))(hn:n=es.length)(hg:g.get id=some (.d6 sz (es++x))):Nv g sz (.d8 id 0 n) es:=.inr ⟨id,x,by rw[hn],hg⟩
variable{g':AB}
theorem K6{v:AV}(h:Nv g sz v es)(hg: ∀id∈AD v,g'.get id=g.get id):Nv g' sz v es:=by
 rcases h with h|⟨id,x,rfl,h⟩
 .exact .inl h
 .exact .inr ⟨id,x,rfl,by rw[hg id (by simp[AD])];exact h⟩
theorem PZ{g:AB}{sz:Nat}{v:AV}{es:List (List AU)}(h:Nv g sz v es){id:Abs.Id}(hi:id∈AD v): ∃x,g.get id=some (.d6 sz x):=by
 rcases h with⟨rfl,_⟩|⟨id2,x,rfl,h⟩
 .simp[AD]at hi
 .simp[AD]at hi;subst hi;exact⟨_,h⟩
theorem MY{i:Nat}{v:AV}(h:Nv g sz v es):Nw c i g sz v es:=by
 unfold Nw;split
 .exact .inl h
 .exact h
theorem Q1{i:Nat}{v:AV}(h:Nw c i g sz v es):vt g sz v es:=by
 unfold Nw at h;split at h
 .exact h
 .exact .inl h
theorem IC{i:Nat}{v:AV}(h:Nw c i g sz v es)(hg: ∀id∈AD v,g'.get id=g.get id):Nw c i g' sz v es:=by
 unfold Nw at*;split at h
 .exact h.imp_left fun h=>K6 h hg
 .exact K6 h hg
theorem Fv{i:Nat}{v:AV}(h:Nw c i g sz v es){id:Abs.Id}(hi:id∈AD v): ∃x,g.get id=some (.d6 sz x):=by
 rcases Q1 h with h|⟨rfl,_⟩
 .exact PZ h hi
 .simp[AD]at hi
variable{rows:List (List AV)}
theorem Mv{v:AV}(h:qo g v rows)(hg: ∀id∈AD v,g'.get id=g.get id):qo g' v rows:=by
 rcases h with h|⟨id,rfl,h⟩
 .exact .inl h
 .exact .inr ⟨id,rfl,by rw[hg id (by simp[AD])];exact h⟩
theorem GW{g:AB}{v:AV}{rows:List (List AV)}(h:qo g v rows){id:Abs.Id}(hi:id∈AD v):g.get id=some (.arr 4 rows):=by
 rcases h with⟨rfl,_⟩|⟨id2,rfl,h⟩
 .simp[AD]at hi
 .simp[AD]at hi;subst hi;exact h
theorem Cc(x:HY)(v:AV):A5 (Ah x v)=AD v:=by simp[Ah,A5,AD]
variable{l:List HY}
theorem Mr(h:YT c g rows l)(hg: ∀id∈rows.flatMap A5,g'.get id=g.get id):YT c g' rows l:=by
 refine⟨h.len,fun j q hq=>?_⟩;obtain⟨v,h1,h2⟩:=h.row j q hq;exact⟨v,h1,IC h2 fun id hid=>hg id (By.2 ⟨_,Ap h1,by rw[Cc];exact hid⟩)⟩
theorem LK(h:YT c g rows l){id:Abs.Id}(hi:id∈rows.flatMap A5): ∃x,g.get id=some (.d6 1 x):=by
 obtain⟨row,hr,hid⟩:=By.1 hi;obtain⟨j,hj⟩:=Hm hr;have hjl:=(BE.1 hj).1;obtain⟨x,hx⟩:=get_some (l:=l) (i:=j) (by rw[←h.len];exact hjl);obtain⟨v,hv,hq⟩:=h.row j x hx;rw[hj]at hv;cases hv;rw[Cc]at hid;exact Fv hq hid
theorem MV.mem(V:MV)(m id:Abs.Id):id∈V.ids m↔id=m∨id=V.rc∨(∃i,i<4∧id∈AD (V.s i))∨id∈AD V.v3∨id∈V.rows.flatMap A5:=by
 simp only[MV.ids,DL,F2];constructor
 .rintro(h|h|h|h|h|h|h|h)
  .exact .inl h
  .exact .inr (.inl h)
  .exact .inr (.inr (.inl ⟨0,by omega,h⟩))
  .exact .inr (.inr (.inl ⟨1,by omega,h⟩))
  .exact .inr (.inr (.inl ⟨2,by omega,h⟩))
  .exact .inr (.inr (.inl ⟨3,by omega,h⟩))
  .exact .inr (.inr (.inr (.inl h)))
  .exact .inr (.inr (.inr (.inr h)))
 .rintro(h|h|⟨i,hi,h⟩|h|h)
  .simp[h]
  .simp[h]
  .match i,hi with
   |0,_=>simp[h]
   |1,_=>simp[h]
   |2,_=>simp[h]
   |3,_=>simp[h]
  .simp[h]
  .simp only[h,or_true]
theorem MV.m_mem(V:MV)(m:Abs.Id):m∈V.ids m:=(V.mem m m).2 (.inl rfl)
theorem MV.acts_mem(V:MV)(m:Abs.Id):V.rc∈V.ids m:=(V.mem m _).2 (.inr (.inl rfl))
theorem MV.s_mem(V:MV)(m:Abs.Id){i:Nat}(hi:i<4){id:Abs.Id}(h:id∈AD (V.s i)):id∈V.ids m:=(V.mem m _).2 (.inr (.inr (.inl ⟨i,hi,h⟩)))
theorem MV.v3_mem(V:MV)(m:Abs.Id){id:Abs.Id}(h:id∈AD V.v3):id∈V.ids m:=(V.mem m _).2 (.inr (.inr (.inr (.inl h))))
theorem MV.row_mem(V:MV)(m:Abs.Id){id:Abs.Id}(h:id∈V.rows.flatMap A5):id∈V.ids m:=(V.mem m _).2 (.inr (.inr (.inr (.inr h))))
theorem DJ{B:MV→Int→List AV}{V:MV}{st:CC}(hM:EY B c h m V st)(hg: ∀id∈V.ids m,h'.get id=h.get id):EY B c h' m V st:=
 ⟨by rw[hg _ (V.m_mem m)];exact hM.box,LG hM fun _ _=>hg _ (V.acts_mem m),fun i hi=>IC (hM.sl i hi) fun id hid=>hg id (V.s_mem m hi hid),Mv hM.arr fun id hid=>hg id (V.v3_mem m hid),Mr hM.ac fun id hid=>hg id (V.row_mem m hid),hM.gw,hM.qd,hM.inv⟩
theorem PW{B:MV→Int→List AV}{V V0:MV}{st:CC}{ρ:List Nat}{h0:AB}(hM:EY B c h m V st)(hK:vq π m V0 V h0 h)(hu:B4 ρ V0 m):EY B c (gc ρ h) m V st:=by
 refine DJ hM fun id hid=>?_;rcases hK.ids id hid with h|⟨_,l,rfl⟩
 .exact Ag _ _ _ (hu id h)
 .exact LV _ _ _
theorem BB{n:Nat}{id:Abs.Id}(h:Id.under (n::π) id=true):Id.under π id=true:=by
 rw[under_iff]at*;exact(EM n π).trans h
theorem Wo{V:MV}(hk: ∀id,Id.under π id=false→h'.get id=h.get id):vq π m V V h h':=⟨fun id h=>.inl h,fun id _ hu=>hk id hu⟩
theorem GL{B:MV→Int→List AV}{V:MV}{st:CC}(hM:EY B c h m V st)(hu:B4 π V m)(hk: ∀id,Id.under π id=false→h'.get id=h.get id):EY B c h' m V st:=DJ hM fun id hid=>hk id (hu id hid)
theorem Sc{B:MV→Int→List AV}{c:Bool}{N:Abs.Id→Bool}{h h':AB}{m:Abs.Id}{V:MV}{st st':CC}(hM:EY B c h m V st)(hu:KM N V m)
 (hb:h'.get m=some (.box (B V st'.work))) (hd:st'.d7=st.d7∧st'.ev=st.ev) (hk: ∀id,id≠m→N id=false→h'.get id=h.get id):EY B c h' m V st'∧TB N m V V h h':=by
 have hne: ∀id,(∀cs,h.get id≠some (.box cs))→id≠m:=fun id hh e=>hh _ (by subst e;exact hM.box);have hda: ∀i,Ad st' i=Ad st i:=fun i=>by
  unfold Ad;rw[hd.1,hd.2]
 have hg: ∀id∈V.ids m,(∀cs,h.get id≠some (.box cs))→h'.get id=h.get id:=fun id h1 h2=>hk id (hne id h2) (hu id h1);refine⟨⟨hb,?_,fun i hi=>?_,?_,?_,hM.gw,hM.qd,hM.inv⟩,fun id h=>.inl h,fun id h1 h2=>hk id (fun e=>h1 (by rw[e];exact V.m_mem m)) h2⟩
 .exact LG hM fun e _=>hk _ e (hu _ (V.acts_mem m))
 .rw[hda];refine IC (hM.sl i hi) fun id hid=>hg id (V.s_mem m hi hid) ?_;obtain⟨x,hx⟩:=Fv (hM.sl i hi) hid;rw[hx];simp
 .refine Mv hM.arr fun id hid=>hg id (V.v3_mem m hid) ?_;rw[GW hM.arr hid];simp
 .rw[hd.1];refine Mr hM.ac fun id hid=>hg id (V.row_mem m hid) ?_;obtain⟨x,hx⟩:=LK hM.ac hid;rw[hx];simp
variable{st':CC}
theorem v8{st:CC}(hs:st'.d7=st.d7): ∀j,j<4→j≠3→Ad st' j=Ad st j
 |0,_,_|1,_,_|2,_,_=>by simp[Ad,hs]
 |3,_,h=>absurd rfl h
theorem wC{st:CC}(h0:st'.d7.am=st.d7.am)(h1:st'.d7.ce=st.d7.ce)(h3:st'.ev=st.ev): ∀j,j<4→j≠2→Ad st' j=Ad st j
 |0,_,_|1,_,_|3,_,_=>by simp[Ad,h0,h1,h3]
 |2,_,h=>absurd rfl h
theorem wA{st:CC}(h0:st'.d7.am=st.d7.am)(h2:st'.d7.waits=st.d7.waits)(h3:st'.ev=st.ev): ∀j,j<4→j≠1→Ad st' j=Ad st j
 |0,_,_|2,_,_|3,_,_=>by simp[Ad,h0,h2,h3]
 |1,_,h=>absurd rfl h
theorem wB{st:CC}(h1:st'.d7.ce=st.d7.ce)(h2:st'.d7.waits=st.d7.waits)(h3:st'.ev=st.ev): ∀j,j<4→j≠0→Ad st' j=Ad st j
 |1,_,_|2,_,_|3,_,_=>by simp[Ad,h1,h2,h3]
 |0,_,h=>absurd rfl h
theorem qV(V:MV)(i:Nat)(v:AV)(j:Nat):(V.f9 i v).s j=if j=i then v else V.s j:=rfl
theorem W5{B:MV→Int→List AV}{c:Bool}{N:Abs.Id→Bool}{h h':AB}{m:Abs.Id}{V:MV}{st st':CC}(i:Nat){v:AV}(hi:i<4)(hM:EY B c h m V st)(hu:KM N V m)
 (hb:h'.get m=some (.box (B (V.f9 i v) st'.work))) (hs:Nw c i h' (Er i) v (Ad st' i)) (ho: ∀j,j<4→j≠i→Ad st' j=Ad st j) (hc:st'.d7.ac=st.d7.ac)
 (hv:AD v=AD (V.s i)∨ ∀id∈AD v,N id=true∧ ∃l,id=1::l) (hk: ∀id,id≠m→id∉AD (V.s i)→N id=false→h'.get id=h.get id):EY B c h' m (V.f9 i v) st'∧TB N m V (V.f9 i v) h h':=by
 have hne: ∀id,(∀cs,h.get id≠some (.box cs))→id≠m:=fun id hh e=>hh _ (by subst e;exact hM.box);have hg: ∀id∈V.ids m,(∀cs,h.get id≠some (.box cs))→id∉AD (V.s i)→h'.get id=h.get id:=fun id h1 h2 h3=>hk id (hne id h2) h3 (hu id h1);have hvi: ∀id∈AD v,id∈AD (V.s i)∨(N id=true∧ ∃l,id=1::l):=fun id hid=>by
  rcases hv with e|e
  .rw[e]at hid;exact .inl hid
  .exact .inr (e id hid)
 have key: ∀j,j<4→j≠i→ ∀id∈AD (V.s j),id∉AD (V.s i):=fun j hj hji id hid hh=>by
  obtain⟨x,hx⟩:=Fv (hM.sl j hj) hid;obtain⟨y,hy⟩:=Fv (hM.sl i hi) hh;rw[hx]at hy;have hsz:Er j=Er i:=by
   simp only[CI,Obj.d6.injEq]at hy;exact hy.1
  have h12:(j=1∧i=2)∨(j=2∧i=1):=by
   match i,j,hi,hj with
   |0,0,_,_|1,1,_,_|2,2,_,_|3,3,_,_=>omega
   |0,1,_,_|0,2,_,_|0,3,_,_|1,0,_,_|1,3,_,_|2,0,_,_|2,3,_,_|3,0,_,_|3,1,_,_|3,2,_,_=>simp[Er]at hsz
   |1,2,_,_|2,1,_,_=>omega
  rcases h12 with⟨rfl,rfl⟩|⟨rfl,rfl⟩
  .exact hM.gw id hid hh
  .exact hM.gw id hh hid
 refine⟨⟨hb,?_,fun j hj=>?_,?_,?_,fun id h1 h2=>?_,hM.qd,hM.inv⟩,fun id hid=>?_,fun id h1 h2=>?_⟩
 .show(V.rc=m∧c=false)∨h'.get V.rc=_;refine LG hM fun e ea=>hk _ e (fun hh=>?_) (hu _ (V.acts_mem m));obtain⟨x,hx⟩:=Fv (hM.sl i hi) hh;rw[ea]at hx;cases hx
 .rw[qV];by_cases hji:j=i
  .rw[D7 hji,hji];exact hs
  .rw[D3 hji,ho j hj hji];refine IC (hM.sl j hj) fun id hid=>hg id (V.s_mem m hj hid) ?_ (key j hj hji id hid);obtain⟨x,hx⟩:=Fv (hM.sl j hj) hid;rw[hx];simp
 .refine Mv hM.arr fun id hid=>hg id (V.v3_mem m hid) ?_ fun hh=>?_
  .rw[GW hM.arr hid];simp
  .obtain⟨x,hx⟩:=Fv (hM.sl i hi) hh;rw[GW hM.arr hid]at hx;cases hx
 .rw[hc];refine Mr hM.ac fun id hid=>hg id (V.row_mem m hid) ?_ fun hh=>?_
  .obtain⟨x,hx⟩:=LK hM.ac hid;rw[hx];simp
  .obtain⟨x,hx⟩:=Fv (hM.sl i hi) hh;obtain⟨y,hy⟩:=LK hM.ac hid;rw[hx]at hy
   match i,hi with
   |0,_|1,_|2,_|3,_=>simp[Er]at hy
 .rw[qV]at h1 h2;have o1: ∀id∈AD (V.s 1),N id=false:=fun id hid=>hu id (V.s_mem m (by omega) hid);have o2: ∀id∈AD (V.s 2),N id=false:=fun id hid=>hu id (V.s_mem m (by omega) hid);by_cases e1:1=i
  .subst e1;rw[D7 rfl]at h1;rw[D3 (by omega)]at h2;rcases hvi id h1 with hh|hh
   .exact hM.gw id hh h2
   .rw[o2 id h2]at hh;cases hh.1
  .rw[D3 e1]at h1;by_cases e2:2=i
   .subst e2;rw[D7 rfl]at h2;rcases hvi id h2 with hh|hh
    .exact hM.gw id h1 hh
    .rw[o1 id h1]at hh;cases hh.1
   .rw[D3 e2]at h2;exact hM.gw id h1 h2
 .rcases((V.f9 i v).mem m id).1 hid with hh|hh|⟨j,hj,hh⟩|hh|hh
  .exact .inl ((V.mem m id).2 (.inl hh))
  .exact .inl ((V.mem m id).2 (.inr (.inl hh)))
  .rw[qV]at hh;by_cases hji:j=i
   .rw[D7 hji]at hh;exact(hvi id hh).imp_left fun h=>V.s_mem m hi h
   .rw[D3 hji]at hh;exact .inl (V.s_mem m hj hh)
  .exact .inl (V.v3_mem m hh)
  .exact .inl (V.row_mem m hh)
 .exact hk id (fun e=>h1 (by rw[e];exact V.m_mem m)) (fun hh=>h1 (V.s_mem m hi hh)) h2
variable{N:Abs.Id→Bool}
theorem G4{B:MV→Int→List AV}{V:MV}{st:CC}(i:Nat)(hi:i<4)(hM:EY B c h m V st)(hu:KM N V m)
 (ho: ∀j,j<4→j≠i→Ad st' j=Ad st j) (hc:st'.d7.ac=st.d7.ac) (v:AV) (h':AB) (a1:h'.get m=some (.box (B (V.f9 i v) st'.work))) (a2:Nw c i h' (Er i) v (Ad st' i)) (a3:AD v=AD (V.s i)∨ ∀id∈AD v,N id=true∧ ∃l,id=1::l) (a4: ∀id,Id.is m id=false→(∀id2∈AD (V.s i),Id.is id2 id=false)→N id=false→h'.get id=h.get id):Ji B c N m V h st' h':=
 ⟨_,W5 i hi hM hu a1 a2 ho hc a3 fun id b1 b2 b3=>a4 id (AF fun e=>b1 e.symm) (fun id2 hid=>AF fun e=>b2 (by rw[←e];exact hid)) b3⟩
theorem Kq{B:MV→Int→List AV}{V:MV}{st:CC}(hp:Ji B c N m V h st h'): ∀id,id∉V.ids m→N id=false→h'.get id=h.get id:=by
 obtain⟨_,_,hK⟩:=hp;exact hK.frame
end Go.Proofs
