/-
  Parts: EngI2 EngWp EngSim EngSimF EngRaw EngSimA EngRnd EngInv EngAb EngSimB SolT SolTab SolData SolM1 SolV1 SolV2 SolS1 SolS2 SolS3 SolS4 SolP3 SolP4 SolP5 SolM2 SolM3 SolN1 SolN0 SolV3 SolV4 EngRo SolC1 SolC2 EngRng SolR1 SolI0 SolJ1.
-/
import Derived.KernelRfl
import Derived.Test.YtbinfhpngacfgaaGreatSt6
import Derived.Test.YtbinfhpngacfgaaGreatSt7
import Derived.Test.YtbinfhpngacfgaaGreatSt9
set_option linter.all false
set_option linter.unusedSimpArgs false
set_option linter.unusedVariables false
namespace Go.Abs
variable{P:Program}{C:CG}{mix:List TypeId}
abbrev Je:=List (FuncId×List AV×AV)
def Je.look:Je→FuncId→List AV→Option AV
 |[],_,_=>none
 |(g,bs,r)::l,f,az=>match Nat.beq g f with
  |true=>match AV.sames bs az with
   |true=>some r
   |false=>Je.look l f az
  |false=>Je.look l f az
def Je.Known(P:Program)(C:CG)(T:Je):Prop:= ∀f az r,(f,az,r)∈T→KL P C (.fn f) az [] [] false none=.ok (.ret r,[])
theorem Je.look_mem: ∀{T:Je} {f:FuncId} {az:List AV} {r:AV},T.look f az=some r→(f,az,r)∈T
 |[],_,_,_,h=>by cases h
 |(g,bs,r')::l,f,az,r,h=>by
  unfold Je.look at h;split at h
  .rename_i h1;split at h
   .rename_i h2;cases h;rw[←Nat.eq_of_beq_eq_true h1,←AV.sames_eq h2];simp
   .exact List.mem_cons_of_mem _ (Je.look_mem h)
  .exact List.mem_cons_of_mem _ (Je.look_mem h)
def Je.ask(T:Je)(f:FuncId)(az:List AV):AB→List Nat→Bool→Option (List Nat)→Option AV
 |[],[],false,none=>T.look f az
 |_,_,_,_=>none
def TA(P:Program)(C:CG)(T:Je)(m:Nat):Nat→AL
 |0=>fun _ _ _ _ _ _=>.err [25]
 |n+1=>fun t args h π raw prot=>match t with
  |.fn f=>match T.ask f args h π raw prot with
   |some r=>.ok (.ret r,[])
   |none=>match C.good f with
    |true=>N8 P C (TA P C T m n) m f args h π raw prot
    |false=>.err [41,f]
  |.round id r=>match raw with
   |true=>GM C (TA P C T m n) m id r args h π prot
   |false=>.err [42]
theorem QZ{T:Je}(hT:T.Known P C){m:Nat}: ∀{n:Nat} {q:Qu} {r:AZ×AB},ask (TA P C T m n) q=.ok r→ask (KL P C) q=.ok r
 |0,q,r,h=>by simp[ask,TA]at h
 |n+1,⟨t,args,h,π,raw,prot⟩,r,hr=>by
  simp only[ask,TA]at hr⊢;cases t with
  |fn f=>
   simp only at hr;split at hr
   .rename_i r' hl;cases hr;unfold Je.ask at hl;split at hl
    .exact hT _ _ _ (Je.look_mem hl)
    .cases hl
   .split at hr
    .rename_i hg;obtain⟨L,hL⟩:=M0 hr;refine zS hg (n:=m) ?_;exact hL _ m (Nat.le_refl _) fun q _ r' h'=>QZ hT h'
    .cases hr
  |round id lp=>
   simp only at hr;split at hr
   .rename_i hrw;obtain⟨L,hL⟩:=Ja hr;refine V7 (n:=m) ?_;exact hL _ m (Nat.le_refl _) fun q _ r' h'=>QZ hT h'
   .cases hr
theorem J2{T:Je}(hT:T.Known P C)(m n:Nat){f:FuncId}{az:List AV}{r:AV}(h:TA P C T m n (.fn f) az [] [] false none=.ok (.ret r,[])):KL P C (.fn f) az [] [] false none=.ok (.ret r,[]):=
 QZ (q:=⟨.fn f,az,[],[],false,none⟩) hT h
theorem Je.known_nil:Je.Known P C []:=fun _ _ _ h=>by cases h
theorem Je.known_cons{T:Je}{f:FuncId}{az:List AV}{r:AV}(h:KL P C (.fn f) az [] [] false none=.ok (.ret r,[]))(hT:T.Known P C):Je.Known P C ((f,az,r)::T):=fun f' az' r' hm=>by
 rcases List.mem_cons.1 hm with h1|h1
 .cases h1;exact h
 .exact hT _ _ _ h1
end Go.Abs
namespace Go.Abs
variable{P:Program}{C:CG}{K:AL}{fr:Fr}{b n i:Nat}{Q:DX→St→Prop}
def Wp(C:CG)(K:AL)(fr:Fr)(b:Nat)(c:Code)(st:St)(Q:DX→St→Prop):Prop:= ∃n o st',A7 C K fr n b c st=.ok (o,st')∧Q o st'
theorem Lj{n m b:Nat}{c:Code}{st:St}{r:DX×St}(h:A7 C K fr n b c st=.ok r)(hm:n≤m):A7 C K fr m b c st=.ok r:=by
 obtain⟨L,hL⟩:=Lh n b c st (E.good_of h);rw[hL K m hm (fun _ _ _ h=>h),h]
def tX(C:CG)(K:AL)(fr:Fr)(b:Nat)(y:Code)(Q:DX→St→Prop):DX→St→Prop
 |.normal,st=>Wp C K fr b y st Q
 |o,st=>Q o st
def Kl(id:Nat)(Q:DX→St→Prop):DX→St→Prop
 |.exit k,st=>match Nat.beq k id with
  |true=>Q .normal st
  |false=>Q (.exit k) st
 |o,st=>Q o st
def Kq(C:CG)(K:AL)(fr:Fr)(b:Nat)(x y:Code)(st:St)(Q:DX→St→Prop):AV→Prop
 |.d (.bool true)=>Wp C K fr b x st Q
 |.d (.bool false)=>Wp C K fr b y st Q
 |_=>False
def E3(C:CG)(K:AL)(fr:Fr)(ops:Array Oper)(b n:Nat)(al:Nat→Bool)(l:List Oper)(i:Nat)(st:St)(Q:DX→St→Prop):Prop:=
 match Cn C K fr ops b al l i st with
 |.ok ((none,st'),_)=>Q .normal {st' with base:=b+n}
 |.ok ((some v,st'),_)=>Q (.pan v) {st' with base:=b+n}
 |.err _=>False
def Fi(C:CG)(K:AL)(fr:Fr)(ops:Array Oper)(b n:Nat)(al:Nat→Bool)(ps:List (Nat×Nat))(fps:List Fp)(l:List Oper)(i:Nat)(st:St)(Q:DX→St→Prop):Prop:=
 match Cn C K fr ops b al l i st with
 |.ok ((none,st'),f)=>DI (fps++f) ps=true∧Q .normal {st' with base:=b+n}
 |.ok ((some v,st'),f)=>DI (fps++f) ps=true∧Q (.pan v) {st' with base:=b+n}
 |.err _=>False
theorem ABk(x y:Code)(st:St):Wp C K fr b (.seq x y) st Q=Wp C K fr b x st (tX C K fr b y Q):=by
 refine propext ⟨fun⟨n,o,st',h,hq⟩=>?_,fun⟨n,o,st',h,hq⟩=>?_⟩
 .cases n with
  |zero=>simp[A7]at h
  |succ n=>
   simp only[A7]at h;cases hx:A7 C K fr n b x st with
   |err e=>rw[hx]at h;cases h
   |ok r=>
    rw[hx]at h;obtain⟨o1,st1⟩:=r;refine⟨n,o1,st1,hx,?_⟩;cases o1<;>simp only[C4]at h
    .exact⟨n,o,st',h,hq⟩
    all_goals (cases h;exact hq)
 .cases o with
  |normal=>
   obtain⟨m,o2,st2,h2,hq2⟩:=hq;refine⟨max n m+1,o2,st2,?_,hq2⟩;simp only[A7,Lj h (Nat.le_max_left n m),C4,Lj h2 (Nat.le_max_right n m)]
  |_=>exact⟨n+1,_,st',by simp only[A7,h,C4],hq⟩
theorem zJ(c:Operand)(x y:Code)(st:St):Wp C K fr b (.cond c x y) st Q=Kq C K fr b x y st Q (ev st.env.get c):=by
 have e: ∀{v:AV} {x y:Code} (hv: ∀n,A7 C K fr (n+1) b (.cond c x y) st=Jl v (A7 C K fr n b x st) (A7 C K fr n b y st)),Wp C K fr b (.cond c x y) st Q=Kq C K fr b x y st Q v:=by
  intro v x y hv;refine propext ⟨fun⟨n,o,st',h,hq⟩=>?_,fun h=>?_⟩
  .cases n with
   |zero=>simp[A7]at h
   |succ n=>
    rw[hv]at h;unfold Jl at h;split at h
    .rename_i t;cases t
     .exact⟨n,o,st',h,hq⟩
     .exact⟨n,o,st',h,hq⟩
    .cases h
  .unfold Kq at h;split at h
   .obtain⟨n,o,st',h,hq⟩:=h;exact⟨n+1,o,st',by rw[hv];exact h,hq⟩
   .obtain⟨n,o,st',h,hq⟩:=h;exact⟨n+1,o,st',by rw[hv];exact h,hq⟩
   .exact h.elim
 exact e fun n=>by simp only[A7]
theorem uc(id:Nat)(x:Code)(st:St):Wp C K fr b (.block id x) st Q=Wp C K fr id x st (Kl id Q):=by
 refine propext ⟨fun⟨n,o,st',h,hq⟩=>?_,fun⟨n,o,st',h,hq⟩=>?_⟩
 .cases n with
  |zero=>simp[A7]at h
  |succ n=>
   simp only[A7]at h;cases hx:A7 C K fr n id x st with
   |err e=>rw[hx]at h;cases h
   |ok r=>
    rw[hx]at h;obtain⟨o1,st1⟩:=r;refine⟨n,o1,st1,hx,?_⟩;cases o1 with
    |exit k=>
     simp only[GI]at h;simp only[Kl];split at h<;>(rename_i hk;rw[hk];cases h;exact hq)
    |_=>cases h;exact hq
 .cases o with
  |exit k=>
   simp only[Kl]at hq;cases hk:Nat.beq k id with
   |true=>
    rw[hk]at hq;exact⟨n+1,.normal,st',by simp only[A7,h,GI,hk],hq⟩
   |false=>
    rw[hk]at hq;exact⟨n+1,.exit k,st',by simp only[A7,h,GI,hk],hq⟩
  |_=>exact⟨n+1,_,st',by simp only[A7,h,GI],hq⟩
theorem SI{c:Code}{st:St}{o:DX}{st':St}(h: ∀n,A7 C K fr (n+1) b c st=.ok (o,st')):Wp C K fr b c st Q=Q o st':=by
 refine propext ⟨fun⟨n,o1,st1,h1,hq⟩=>?_,fun hq=>⟨1,o,st',h 0,hq⟩⟩;cases n with
 |zero=>simp[A7]at h1
 |succ n=>
  rw[h]at h1;cases h1;exact hq
theorem zN(st:St):Wp C K fr b .skip st Q=Q .normal st:=SI fun _=>rfl
theorem ABj(st:St):Wp C K fr b .ret st Q=Q .ret st:=SI fun _=>rfl
theorem zL(id:Nat)(st:St):Wp C K fr b (.exit id) st Q=Q (.exit id) st:=SI fun _=>rfl
theorem M8(id:Nat)(ops:Array Oper)(draw:Bool)(st:St):Wp C K fr b (.region id ops draw) st Q=match Db C K fr id ops draw st with|.ok (o,st')=>Q o st'|.err _=>False:=by
 cases h:Db C K fr id ops draw st with
 |ok r=>
  obtain⟨o,st'⟩:=r;exact SI fun n=>by simp only[A7,h]
 |err e=>
  refine propext ⟨fun⟨n,o,st',h1,hq⟩=>?_,fun h=>h.elim⟩;cases n with
  |zero=>simp[A7]at h1
  |succ n=>
   simp only[A7,h]at h1;cases h1
theorem nq(id:Nat)(ops:Array Oper)(e:BS)(h:AB)(bs:Nat)(ds:List Df):Wp C K fr b (.region id ops false) ⟨e,h,bs,ds⟩ Q=E3 C K fr ops bs ops.size (fun _=>true) ops.toList 0 ⟨e,h,bs,ds⟩ Q:=by
 rw[M8];unfold Db E3;simp only[Bool.not_false,Bool.true_or];cases Cn C K fr ops bs (fun _=>true) ops.toList 0 ⟨e,h,bs,ds⟩with
 |err l=>rfl
 |ok r=>
  obtain⟨⟨o,st'⟩,fps⟩:=r;cases o<;>simp[Jv]
theorem ue(id:Nat)(ops:Array Oper)(e:BS)(h:AB)(bs:Nat)(ds:List Df)(hp:C.pairs fr.f id=[]):Wp C K fr b (.region id ops true) ⟨e,h,bs,ds⟩ Q=E3 C K fr ops bs ops.size (fun i=>C.alone fr.f id i) ops.toList 0 ⟨e,h,bs,ds⟩ Q:=by
 rw[M8];unfold Db E3;simp only[Bool.not_true,Bool.false_or];cases Cn C K fr ops bs (fun i=>C.alone fr.f id i) ops.toList 0 ⟨e,h,bs,ds⟩with
 |err l=>rfl
 |ok r=>
  obtain⟨⟨o,st'⟩,fps⟩:=r;cases o<;>simp[Jv,hp,DI]
theorem zK(id:Nat)(ops:Array Oper)(e:BS)(h:AB)(bs:Nat)(ds:List Df){ps:List (Nat×Nat)}(hp:C.pairs fr.f id=ps):Wp C K fr b (.region id ops true) ⟨e,h,bs,ds⟩ Q=Fi C K fr ops bs ops.size (fun i=>C.alone fr.f id i) ps [] ops.toList 0 ⟨e,h,bs,ds⟩ Q:=by
 rw[M8];unfold Db Fi;simp only[Bool.not_true,Bool.false_or,List.nil_append];cases Cn C K fr ops bs (fun i=>C.alone fr.f id i) ops.toList 0 ⟨e,h,bs,ds⟩with
 |err l=>rfl
 |ok r=>
  obtain⟨⟨o,st'⟩,fps⟩:=r;subst hp;cases o<;>cases hq:DI fps (C.pairs fr.f id)<;>simp[Jv,hq]
theorem ZB(y:Code)(st:St):tX C K fr b y Q .normal st=Wp C K fr b y st Q:=rfl
theorem nI(y:Code)(k:Nat)(st:St):tX C K fr b y Q (.exit k) st=Q (.exit k) st:=rfl
theorem tb(y:Code)(st:St):tX C K fr b y Q .ret st=Q .ret st:=rfl
theorem tZ(y:Code)(v:AV)(st:St):tX C K fr b y Q (.pan v) st=Q (.pan v) st:=rfl
theorem SZ(id:Nat)(st:St):Kl id Q .normal st=Q .normal st:=rfl
theorem Zk(id:Nat)(st:St):Kl id Q .ret st=Q .ret st:=rfl
theorem Zj(id:Nat)(v:AV)(st:St):Kl id Q (.pan v) st=Q (.pan v) st:=rfl
theorem WZ(id:Nat)(st:St):Kl id Q (.exit id) st=Q .normal st:=by
 simp[Kl]
theorem Zy(x y:Code)(st:St):Kq C K fr b x y st Q (.d (.bool true))=Wp C K fr b x st Q:=rfl
theorem W4(x y:Code)(st:St):Kq C K fr b x y st Q (.d (.bool false))=Wp C K fr b y st Q:=rfl
theorem W5{x y:Code}{st:St}{t:Bool}(h1:t=true→Wp C K fr b x st Q)(h2:t=false→Wp C K fr b y st Q):Kq C K fr b x y st Q (.d (.bool t)):=by
 cases t
 .exact h2 rfl
 .exact h1 rfl
variable{ops:Array Oper}{al:Nat→Bool}{l:List Oper}{e:BS}{h:AB}{bs:Nat}{ds:List Df}{ps:List (Nat×Nat)}{fps:List Fp}
def Ba(C:CG)(K:AL)(fr:Fr)(ops:Array Oper)(b n:Nat)(al:Nat→Bool)(l:List Oper)(i:Nat)(dst:Option Tmp)(e:BS)(h:AB)(bs:Nat)(ds:List Df)(Q:DX→St→Prop):Option Bz→Prop
 |some x=>JS fr.prot x.δ=true∧E3 C K fr ops b n al l (i+1) ⟨CD e dst x.v,h.puts x.δ,bs,ds⟩ Q
 |none=>False
def BF(C:CG)(K:AL)(fr:Fr)(ops:Array Oper)(b n:Nat)(al:Nat→Bool)(l:List Oper)(i:Nat)(Q:DX→St→Prop):GR→Prop
 |.ok st _=>E3 C K fr ops b n al l (i+1) st Q
 |.pan v st=>al i=true∧Q (.pan v) {st with base:=b+n}
 |.err _=>False
theorem sq:E3 C K fr ops b n al [] i ⟨e,h,bs,ds⟩ Q=Q .normal ⟨e,h,b+n,ds⟩:=rfl
theorem UA(o:Oper)(st:St):E3 C K fr ops b n al (o::l) i st Q=BF C K fr ops b n al l i Q (B8 C K fr ops ((b+i)::fr.π) o st):=by
 unfold E3;simp only[Cn,Gx];cases hs:B8 C K fr ops ((b+i)::fr.π) o st with
 |err e=>rfl
 |pan v st'=>
  simp only[BF];cases al i<;>simp
 |ok st' fp=>
  simp only[BF,E3];cases hr:Cn C K fr ops b al l (i+1) st' with
  |err e=>rfl
  |ok r=>
   obtain⟨⟨o,st2⟩,fps⟩:=r;cases o<;>rfl
def C3(C:CG)(K:AL)(fr:Fr)(ops:Array Oper)(b n:Nat)(al:Nat→Bool)(l:List Oper)(i:Nat)(dst:Option Tmp)(op:Op)(st:St)(want:Bool)(Q:DX→St→Prop):AV→Prop
 |.d (.bool t)=>match t==want with
  |true=>BF C K fr ops b n al l i Q (Az C K fr ((b+i)::fr.π) op dst st)
  |false=>E3 C K fr ops b n al l (i+1) {st with env:=CD st.env dst (.tup [])} Q
 |.tup []=>E3 C K fr ops b n al l (i+1) {st with env:=CD st.env dst (.tup [])} Q
 |_=>False
theorem jK(dst:Option Tmp)(op:Op)(st:St):C3 C K fr ops b n al l i dst op st true Q (.d (.bool true))=BF C K fr ops b n al l i Q (Az C K fr ((b+i)::fr.π) op dst st):=rfl
theorem jG(dst:Option Tmp)(op:Op)(st:St):C3 C K fr ops b n al l i dst op st false Q (.d (.bool false))=BF C K fr ops b n al l i Q (Az C K fr ((b+i)::fr.π) op dst st):=rfl
theorem jJ(dst:Option Tmp)(op:Op):C3 C K fr ops b n al l i dst op ⟨e,h,bs,ds⟩ true Q (.d (.bool false))=E3 C K fr ops b n al l (i+1) ⟨CD e dst (.tup []),h,bs,ds⟩ Q:=rfl
theorem jH(dst:Option Tmp)(op:Op):C3 C K fr ops b n al l i dst op ⟨e,h,bs,ds⟩ false Q (.d (.bool true))=E3 C K fr ops b n al l (i+1) ⟨CD e dst (.tup []),h,bs,ds⟩ Q:=rfl
theorem VH{dst:Option Tmp}{op:Op}{st:St}{want t:Bool}(h1:t=true→C3 C K fr ops b n al l i dst op st want Q (.d (.bool true)))(h2:t=false→C3 C K fr ops b n al l i dst op st want Q (.d (.bool false))):C3 C K fr ops b n al l i dst op st want Q (.d (.bool t)):=by
 cases t
 .exact h2 rfl
 .exact h1 rfl
theorem lZ(dst:Option Tmp)(op:Op)(ty:TypeId)(pos:String)(af:Array Edge)(st:St):
 E3 C K fr ops b n al (⟨dst,op,ty,pos,af,none⟩::l) i st Q=BF C K fr ops b n al l i Q (Az C K fr ((b+i)::fr.π) op dst st):=by
 rw[UA];simp only[B8,Lq]
theorem An(dst:Option Tmp)(op:Op)(r:Option Bz):BF C K fr ops b n al l i Q (C2 fr op dst ⟨e,h,bs,ds⟩ r)=Ba C K fr ops b n al l i dst e h bs ds Q r:=by
 cases r with
 |none=>rfl
 |some x=>
  simp only[C2,Ba,JW,BT,Av];cases hw:JS fr.prot x.δ with
  |false=>simp[BF]
  |true=>
   simp only[true_and];have: ∀k:AB→GR,XH h x.δ k=k (h.puts x.δ):=fun k=>by
    unfold XH;split
    .rename_i hd;rw[hd];rfl
    .simp only[Aa]
   rw[this];simp only[BF]
theorem LJ(dst:Option Tmp)(v:AV):Ba C K fr ops b n al l i dst e h bs ds Q (some ⟨v,[]⟩)=E3 C K fr ops b n al l (i+1) ⟨CD e dst v,h,bs,ds⟩ Q:=by
 have:JS fr.prot []=true:=by cases hp:fr.prot<;>rfl
 simp only[Ba,this,true_and];rfl
theorem dH(dst:Option Tmp)(v:AV)(x:Id×Obj)(δ:AB):Ba C K fr ops b n al l i dst e h bs ds Q (some ⟨v,x::δ⟩)=(JS fr.prot (x::δ)=true∧E3 C K fr ops b n al l (i+1) ⟨CD e dst v,h.puts (x::δ),bs,ds⟩ Q):=rfl
section
variable(dst:Option Tmp)(ρ:List Nat)
theorem AAa(x:Operand):BF C K fr ops b n al l i Q (Az C K fr ρ (.move x) dst ⟨e,h,bs,ds⟩)=E3 C K fr ops b n al l (i+1) ⟨CD e dst (ev e.get x),h,bs,ds⟩ Q:=by
 simp only[Az,evalOp,An,LJ]
theorem qm(x:Operand):BF C K fr ops b n al l i Q (Az C K fr ρ (.assign x) dst ⟨e,h,bs,ds⟩)=E3 C K fr ops b n al l (i+1) ⟨CD e dst (ev e.get x),h,bs,ds⟩ Q:=by
 simp only[Az,evalOp,An,LJ]
theorem AAb(c x y:Operand):BF C K fr ops b n al l i Q (Az C K fr ρ (.pick c x y) dst ⟨e,h,bs,ds⟩)=Ba C K fr ops b n al l i dst e h bs ds Q (Mw (ev e.get c) (ev e.get x) (ev e.get y)):=by
 simp only[Az,evalOp,An]
theorem wb(t:TypeId):BF C K fr ops b n al l i Q (Az C K fr ρ (.alloc t) dst ⟨e,h,bs,ds⟩)=Ba C K fr ops b n al l i dst e h bs ds Q (JL ρ (C.T t)):=by
 simp only[Az,evalOp,An]
theorem ACZ(t:TypeId)(x:Operand):BF C K fr ops b n al l i Q (Az C K fr ρ (.box t x) dst ⟨e,h,bs,ds⟩)=Ba C K fr ops b n al l i dst e h bs ds Q (Pc ρ (ev e.get x) (C.T t)):=by
 simp only[Az,evalOp,An]
theorem we(t:TypeId)(p:Array (Nat×Operand)):BF C K fr ops b n al l i Q (Az C K fr ρ (.build t p) dst ⟨e,h,bs,ds⟩)=Ba C K fr ops b n al l i dst e h bs ds Q (JM (Di e.get p) (C.T t)):=by
 simp only[Az,evalOp,An]
theorem VE(t:TypeId)(m:Nat)(p:Array (Nat×Operand)):BF C K fr ops b n al l i Q (Az C K fr ρ (.buildSlice t m p) dst ⟨e,h,bs,ds⟩)=Ba C K fr ops b n al l i dst e h bs ds Q (CN C.T h.get ρ m (Di e.get p) (C.T t)):=by
 simp only[Az,evalOp,An]
theorem AAZ(t:TypeId)(a:Operand):BF C K fr ops b n al l i Q (Az C K fr ρ (.load t a) dst ⟨e,h,bs,ds⟩)=Ba C K fr ops b n al l i dst e h bs ds Q (KR h.get (ev e.get a) (C.T t)):=by
 simp only[Az,evalOp,An]
theorem wm(t:TypeId)(a x:Operand):BF C K fr ops b n al l i Q (Az C K fr ρ (.store t a x) dst ⟨e,h,bs,ds⟩)=Ba C K fr ops b n al l i dst e h bs ds Q (Ho h.get (ev e.get a) (ev e.get x) (C.T t)):=by
 simp only[Az,evalOp,An]
theorem an(x:Operand):BF C K fr ops b n al l i Q (Az C K fr ρ (.nilCheck x) dst ⟨e,h,bs,ds⟩)=Ba C K fr ops b n al l i dst e h bs ds Q (FX (ev e.get x)):=by
 simp only[Az,evalOp,An]
theorem wc(op:BinOp)(t:TypeId)(x y:Operand)(u:TypeId):BF C K fr ops b n al l i Q (Az C K fr ρ (.binOp op t x y u) dst ⟨e,h,bs,ds⟩)=Ba C K fr ops b n al l i dst e h bs ds Q ((fu (Xz x||Xz y) op (ev e.get x) (ev e.get y) (C.T t)).map (⟨·,[]⟩)):=by
 simp only[Az,evalOp,An]
theorem AAc(op:UnOp)(t:TypeId)(x:Operand):BF C K fr ops b n al l i Q (Az C K fr ρ (.unOp op t x) dst ⟨e,h,bs,ds⟩)=Ba C K fr ops b n al l i dst e h bs ds Q (lX op (ev e.get x)):=by
 simp only[Az,evalOp,An]
theorem wh(t:TypeId)(x:Operand):BF C K fr ops b n al l i Q (Az C K fr ρ (.makeInterface t x) dst ⟨e,h,bs,ds⟩)=Ba C K fr ops b n al l i dst e h bs ds Q (KP t (ev e.get x) (C.T t)):=by
 simp only[Az,evalOp,An]
theorem ql(x:Operand)(t u:TypeId):BF C K fr ops b n al l i Q (Az C K fr ρ (.typeAssert x t u true) dst ⟨e,h,bs,ds⟩)=Ba C K fr ops b n al l i dst e h bs ds Q (HD u (ev e.get x) (C.T u)):=by
 simp only[Az,evalOp,An]
theorem ak(f:Fn)(first cap:Array Operand):BF C K fr ops b n al l i Q (Az C K fr ρ (.makeFunc f first cap) dst ⟨e,h,bs,ds⟩)=Ba C K fr ops b n al l i dst e h bs ds Q (FW f (first.toList.map (ev e.get)) (cap.toList.map (ev e.get))):=by
 simp only[Az,evalOp,An]
theorem jE(t:TypeId)(r:Option Operand):BF C K fr ops b n al l i Q (Az C K fr ρ (.makeMap t r) dst ⟨e,h,bs,ds⟩)=Ba C K fr ops b n al l i dst e h bs ds Q (Gg ρ r):=by
 simp only[Az,evalOp,An]
theorem qn(t:TypeId)(m k v:Operand):BF C K fr ops b n al l i Q (Az C K fr ρ (.insert t m k v) dst ⟨e,h,bs,ds⟩)=Ba C K fr ops b n al l i dst e h bs ds Q (mapPut C.T h.get (C.T t) (ev e.get m) (ev e.get k) (ev e.get v)):=by
 simp only[Az,evalOp,An]
theorem Xo(t:TypeId)(m k v:Operand):BF C K fr ops b n al l i Q (Az C K fr ρ (.mapUpdate t m k v) dst ⟨e,h,bs,ds⟩)=Ba C K fr ops b n al l i dst e h bs ds Q (mapPut C.T h.get (C.T t) (ev e.get m) (ev e.get k) (ev e.get v)):=by
 simp only[Az,evalOp,An]
theorem qo(t:TypeId)(m k:Operand)(ok:Bool):BF C K fr ops b n al l i Q (Az C K fr ρ (.lookup t m k ok) dst ⟨e,h,bs,ds⟩)=Ba C K fr ops b n al l i dst e h bs ds Q (Ee C.T h.get (ev e.get m) (ev e.get k) ok (C.T t)):=by
 simp only[Az,evalOp,An]
theorem Xn(t:TypeId)(x y:Operand):BF C K fr ops b n al l i Q (Az C K fr ρ (.makeSlice t x y) dst ⟨e,h,bs,ds⟩)=Ba C K fr ops b n al l i dst e h bs ds Q (CW C.T h.get ρ (ev e.get x) (ev e.get y) (C.T t)):=by
 simp only[Az,evalOp,An]
theorem wk(t:TypeId)(x:Operand)(lo hi mx:Option Operand):BF C K fr ops b n al l i Q (Az C K fr ρ (.slice t x lo hi mx) dst ⟨e,h,bs,ds⟩)=Ba C K fr ops b n al l i dst e h bs ds Q (G0 C.T h.get (ev e.get x) (lo.map (ev e.get)) (hi.map (ev e.get)) (mx.map (ev e.get)) (C.T t)):=by
 simp only[Az,evalOp,An]
theorem Xl(t:TypeId)(x:Operand)(k:Nat):BF C K fr ops b n al l i Q (Az C K fr ρ (.fieldAddr t x k) dst ⟨e,h,bs,ds⟩)=Ba C K fr ops b n al l i dst e h bs ds Q (Dw k (ev e.get x) (C.T t)):=by
 simp only[Az,evalOp,An]
theorem Xm(t:TypeId)(x y:Operand):BF C K fr ops b n al l i Q (Az C K fr ρ (.indexAddr t x y) dst ⟨e,h,bs,ds⟩)=Ba C K fr ops b n al l i dst e h bs ds Q (Cl C.T h.get (ev e.get x) (ev e.get y) (C.T t)):=by
 simp only[Az,evalOp,An]
theorem wi(t:TypeId)(x y:Operand):BF C K fr ops b n al l i Q (Az C K fr ρ (.index t x y) dst ⟨e,h,bs,ds⟩)=Ba C K fr ops b n al l i dst e h bs ds Q (KQ (ev e.get x) (ev e.get y) (C.T t)):=by
 simp only[Az,evalOp,An]
theorem jD(x:Operand)(k:Nat):BF C K fr ops b n al l i Q (Az C K fr ρ (.extract x k) dst ⟨e,h,bs,ds⟩)=Ba C K fr ops b n al l i dst e h bs ds Q (H0 k (ev e.get x)):=by
 simp only[Az,evalOp,An]
theorem jC(f:Builtin)(az:Array Operand)(ts:Array TypeId):BF C K fr ops b n al l i Q (Az C K fr ρ (.call ⟨.builtin f,az,ts⟩) dst ⟨e,h,bs,ds⟩)=Ba C K fr ops b n al l i dst e h bs ds Q (Ff C.T h.get ρ f (az.toList.map (ev e.get)) ts.toList):=by
 simp only[Az,JZ,An]
theorem wj(x:Operand):BF C K fr ops b n al l i Q (Az C K fr ρ (.panic x) dst ⟨e,h,bs,ds⟩)=BF C K fr ops b n al l i Q (FH ⟨e,h,bs,ds⟩ (ev e.get x)):=rfl
theorem wg(c:Call):BF C K fr ops b n al l i Q (Az C K fr ρ (.defer c) dst ⟨e,h,bs,ds⟩)=BF C K fr ops b n al l i Q (Gv fr e.get c dst ⟨e,h,bs,ds⟩):=rfl
def C7(C:CG)(K:AL)(fr:Fr)(ops:Array Oper)(b n:Nat)(al:Nat→Bool)(l:List Oper)(i:Nat)(az:List AV)(dst:Option Tmp)(e:BS)(h:AB)(bs:Nat)(ds:List Df)(Q:DX→St→Prop)(r:E (AZ×AB)):Prop:=
 BF C K fr ops b n al l i Q (C5 fr az dst ⟨e,h,bs,ds⟩ r)
def QY(C:CG)(K:AL)(fr:Fr)(ops:Array Oper)(b n:Nat)(al:Nat→Bool)(l:List Oper)(i:Nat)(dst:Option Tmp)(ρ:List Nat)(e:BS)(h:AB)(bs:Nat)(ds:List Df)(Q:DX→St→Prop)(args:List AV):AV→Prop
 |fv=>BF C K fr ops b n al l i Q (Da C K fr ρ fv args dst ⟨e,h,bs,ds⟩)
theorem wo(f:Operand)(az:Array Operand)(ts:Array TypeId):BF C K fr ops b n al l i Q (Az C K fr ρ (.call ⟨.value f,az,ts⟩) dst ⟨e,h,bs,ds⟩)=QY C K fr ops b n al l i dst ρ e h bs ds Q (az.toList.map (ev e.get)) (ev e.get f):=rfl
def nrm:AZ×AB→AZ×AB
 |(.ret v,h)=>(.ret v,h)
 |(.pan v,_)=>(.pan v,[])
def BM(K:AL)(f:FuncId)(xs:List AV)(own:List Nat):E (AZ×AB):=match K (.fn f) xs [] own false none with
 |.ok r=>.ok (nrm r)
 |.err l=>.err l
theorem o7{K:AL}{f:FuncId}{xs:List AV}{own:List Nat}{v:AV}{h:AB}(hk:BM K f xs own=.ok (.ret v,h)):K (.fn f) xs [] own false none=.ok (.ret v,h):=by
 unfold BM at hk;split at hk
 .rename_i r hr;obtain⟨o,h'⟩:=r;cases o with
  |ret u=>simp only[nrm,E.ok.injEq]at hk;rw[hr,hk]
  |pan u=>simp[nrm]at hk
 .cases hk
theorem Pf(fr:Fr)(az:List AV)(dst:Option Tmp)(st:St)(f:FuncId)(xs:List AV)(own:List Nat):C5 fr az dst st (K (.fn f) xs [] own false none)=C5 fr az dst st (BM K f xs own):=by
 unfold BM;cases K (.fn f) xs [] own false none with
 |err l=>rfl
 |ok r=>
  obtain⟨o,h⟩:=r;cases o<;>rfl
def Kb(C:CG)(K:AL)(fr:Fr)(ops:Array Oper)(b n:Nat)(al:Nat→Bool)(l:List Oper)(i:Nat)(dst:Option Tmp)(ρ:List Nat)(e:BS)(h:AB)(bs:Nat)(ds:List Df)(Q:DX→St→Prop)(f:FuncId)(az:List AV)(m:Mode):Prop:=
 BF C K fr ops b n al l i Q (DB K fr ρ f az dst ⟨e,h,bs,ds⟩ m)
theorem pH(f:FuncId)(first cap args:List AV):QY C K fr ops b n al l i dst ρ e h bs ds Q args (.fn f first cap)=Kb C K fr ops b n al l i dst ρ e h bs ds Q f (first++args++cap) (C.mode f):=by
 simp only[QY,Kb,Da,A6]
def iy(C:CG)(K:AL)(fr:Fr)(ops:Array Oper)(b n:Nat)(al:Nat→Bool)(l:List Oper)(i:Nat)(dst:Option Tmp)(ρ:List Nat)(e:BS)(h:AB)(bs:Nat)(ds:List Df)(Q:DX→St→Prop)(f:FuncId)(az:List AV)(own:List Nat):Option (List AV)→Prop
 |some xs=>C7 C K fr ops b n al l i az dst e h bs ds Q (K (.fn f) xs [] own false none)
 |none=>False
theorem bo(f:FuncId)(az:List AV)(hx:(DT h.get az).isSome):Kb C K fr ops b n al l i dst ρ e h bs ds Q f az .auto=iy C K fr ops b n al l i dst ρ e h bs ds Q f az [] (DT h.get az):=by
 obtain⟨xs,hx⟩:=Option.isSome_iff_exists.1 hx;simp only[Kb,DB,hx,A6,iy,C7]
theorem lO(f:FuncId)(az:List AV)(hx:(DT h.get az).isSome):Kb C K fr ops b n al l i dst ρ e h bs ds Q f az .own=iy C K fr ops b n al l i dst ρ e h bs ds Q f az ρ (DT h.get az):=by
 obtain⟨xs,hx⟩:=Option.isSome_iff_exists.1 hx;simp only[Kb,DB,hx,A6,iy,C7]
theorem iz(f:FuncId)(az:List AV)(own:List Nat)(xs:List AV):iy C K fr ops b n al l i dst ρ e h bs ds Q f az own (some xs)=C7 C K fr ops b n al l i az dst e h bs ds Q (BM K f xs own):=by
 simp only[iy,C7,Pf]
theorem dN(az:List AV)(v:AV)(h':AB)(hv:flat v=true):C7 C K fr ops b n al l i az dst e h bs ds Q (.ok (.ret v,h'))=E3 C K fr ops b n al l (i+1) ⟨CD e dst v,h,bs,ds⟩ Q:=by
 simp only[C7,C5,Av,hv,BF]
theorem mV(az:List AV)(v:AV)(h':AB)(hv:flat v=true):C7 C K fr ops b n al l i az dst e h bs ds Q (.ok (.pan v,h'))=(al i=true∧Q (.pan v) ⟨e,h,b+n,ds⟩):=by
 simp only[C7,C5,hv,BF]
theorem mR(az:List AV)(v:AV)(h':AB)(x:Id×Obj)(hv:flat v=false)(hx:BL v h'=some x):C7 C K fr ops b n al l i az dst e h bs ds Q (.ok (.ret v,h'))=E3 C K fr ops b n al l (i+1) ⟨CD e dst v,x::h,bs,ds⟩ Q:=by
 simp only[C7,C5,Av,hv,G1,hx,Aa,BF]
theorem mU(az:List AV)(v:AV)(h':AB)(hv:flat v=false)(hx:BL v h'=none):C7 C K fr ops b n al l i az dst e h bs ds Q (.ok (.ret v,h'))=(JS fr.prot (az.flatMap (mark h.get))=true∧E3 C K fr ops b n al l (i+1) ⟨CD e dst v,h'++h.puts (az.flatMap (mark h.get)),bs,ds⟩ Q):=by
 simp only[C7,C5,Av,hv,G1,hx,Aa,BT];cases hw:JS fr.prot (az.flatMap (mark h.get))<;>simp[BF]
end
def eF(h:AB)(π:List Nat)(raw:Bool)(Post:AZ→AB→Prop):Option AV→Prop
 |some v=>match raw with
  |true=>Post (.ret v) h
  |false=>match π with
   |[]=>match Vy h.get v with
    |some v'=>Post (.ret v') []
    |none=>False
   |_=>Post (.ret v) h
 |none=>False
def Ry(C:CG)(e:BS)(h:AB)(rs:List ResultVar):Option AV:=match MG (CT C ⟨e,h,0,[]⟩) rs with
 |some []=>some (.tup [])
 |some [v]=>some v
 |some vs=>some (.tup vs)
 |none=>none
def JX(C:CG)(rs:List ResultVar)(π:List Nat)(raw:Bool)(e:BS)(Post:AZ→AB→Prop):E (Option AV×AB)→Prop
 |.ok (none,h)=>eF h π raw Post (Ry C e h rs)
 |.ok (some v,h)=>Post (.pan v) h
 |.err _=>False
def Qp(C:CG)(prot:Option (List Nat))(rs:List ResultVar)(π:List Nat)(raw:Bool)(Post:AZ→AB→Prop):DX→St→Prop
 |.ret,st=>JX C rs π raw st.env Post (Cr C prot st.defs none st.heap)
 |.normal,st=>JX C rs π raw st.env Post (Cr C prot st.defs none st.heap)
 |.pan v,st=>JX C rs π raw st.env Post (Cr C prot st.defs (some v) st.heap)
 |_,_=>False
theorem Ak{f:FuncId}{fn:Func}{c:Code}{rs:List ResultVar}{args:List AV}{h:AB}{π:List Nat}{raw:Bool}{prot:Option (List Nat)}{Post:AZ→AB→Prop}(hg:C.good f=true)(hf:P.funcs[f]? =some fn)(hb:fn.body=some c)(hr:fn.results.toList=rs)(hl:Nat.ble args.length fn.ntmps=true)
 (hw:Wp C (KL P C) {f,π,raw,prot,nt:=fn.ntmps} 0 c ⟨Dr 0 args,h,0,[]⟩ (Qp C prot rs π raw Post)): ∃o h',KL P C (.fn f) args h π raw prot=.ok (o,h')∧Post o h':=by
 obtain⟨n,o,st',h1,h2⟩:=hw;subst hr;have hres: ∀h'',H5 C fn {st' with heap:=h''}=Ry C st'.env h'' fn.results.toList:=fun h''=>by
  unfold H5 Ry;have e:CT C {st' with heap:=h''}=CT C ⟨st'.env,h'',0,[]⟩:=funext fun r=>by cases r<;>rfl
  rw[e];rfl
 have key: ∀z,JX C fn.results.toList π raw st'.env Post z→ ∃o h',Rf C f fn π raw st' z=.ok (o,h')∧Post o h':=by
  intro z hz;cases z with
  |err l=>exact hz.elim
  |ok r=>
   obtain⟨p,h''⟩:=r;cases p with
   |some v=>exact⟨.pan v,h'',rfl,hz⟩
   |none=>
    simp only[JX]at hz;simp only[Rf,hres];cases hv:Ry C st'.env h'' fn.results.toList with
    |none=>rw[hv]at hz;exact hz.elim
    |some v=>
     rw[hv]at hz;simp only[eF]at hz;simp only[JW];cases raw with
     |true=>exact⟨_,_,rfl,hz⟩
     |false=>
      simp only at hz⊢;split at hz
      .split at hz
       .rename_i v' hv';rw[hv'];exact⟨_,_,rfl,hz⟩
       .exact hz.elim
      .exact⟨_,_,by split<;>first|rfl|contradiction,hz⟩
 have fin: ∃o' h',p7 C prot f fn π raw (.ok (o,st'))=.ok (o',h')∧Post o' h':=by
  cases o with
  |exit k=>exact h2.elim
  |ret=>exact key _ h2
  |normal=>exact key _ h2
  |pan v=>exact key _ h2
 obtain⟨o',h',e,hp⟩:=fin;refine⟨o',h',zS hg (n:=n) ?_,hp⟩;unfold N8;simp only[hf,hb,hl,h1];exact e
theorem AB2{f:FuncId}{fn:Func}{c:Code}{rs:List ResultVar}{args:List AV}{h:AB}{π:List Nat}{raw:Bool}{prot:Option (List Nat)}{o:AZ}{h0:AB}(hg:C.good f=true)(hf:P.funcs[f]? =some fn)(hb:fn.body=some c)(hr:fn.results.toList=rs)(hl:Nat.ble args.length fn.ntmps=true)
 (hw:Wp C (KL P C) {f,π,raw,prot,nt:=fn.ntmps} 0 c ⟨Dr 0 args,h,0,[]⟩ (Qp C prot rs π raw fun o' h'=>o'=o∧h'=h0)):KL P C (.fn f) args h π raw prot=.ok (o,h0):=by
 obtain⟨o',h',e,rfl,rfl⟩:=Ak hg hf hb hr hl hw;exact e
theorem Ay{f:FuncId}{fn:Func}{c:Code}{rs:List ResultVar}{args:List AV}{π:List Nat}{r:AZ×AB}(hg:C.good f=true)(hf:P.funcs[f]? =some fn)(hb:fn.body=some c)(hr:fn.results.toList=rs)(hl:Nat.ble args.length fn.ntmps=true)
 (hw:Wp C (KL P C) {f,π,raw:=false,prot:=none,nt:=fn.ntmps} 0 c ⟨Dr 0 args,[],0,[]⟩ (Qp C none rs π false fun o' h'=>nrm (o',h')=r)):BM (KL P C) f args π=.ok r:=by
 obtain⟨o',h',e,h2⟩:=Ak hg hf hb hr hl hw;unfold BM;rw[e,←h2]
theorem yl(v:AV)(h:AB):nrm (.ret v,h)=(.ret v,h):=rfl
theorem yk(v:AV)(h:AB):nrm (.pan v,h)=(.pan v,[]):=rfl
def K7(C:CG)(K:AL)(fr:Fr)(b:Nat)(x:Code)(Q:DX→St→Prop):DX→St→Prop
 |.normal,st=>Wp C K fr b (.loop x) st Q
 |o,st=>Q o st
def fY(C:CG)(K:AL)(fr:Fr)(b:Nat)(x:Code)(st:St)(Q:DX→St→Prop):Prop:=Wp C K fr b x st (K7 C K fr b x Q)
theorem zM(x:Code)(st:St):Wp C K fr b (.loop x) st Q=fY C K fr b x (EP C fr b st) Q:=by
 refine propext ⟨fun⟨n,o,st',h,hq⟩=>?_,fun⟨n,o,st',h,hq⟩=>?_⟩
 .cases n with
  |zero=>simp[A7]at h
  |succ n=>
   simp only[A7,KD]at h;cases hx:A7 C K fr n b x (EP C fr b st)with
   |err e=>rw[hx]at h;cases h
   |ok r=>
    rw[hx]at h;obtain⟨o1,st1⟩:=r;refine⟨n,o1,st1,hx,?_⟩;cases o1<;>simp only[C4]at h
    .exact⟨n,o,st',h,hq⟩
    all_goals (cases h;exact hq)
 .cases o with
  |normal=>
   obtain⟨m,o2,st2,h2,hq2⟩:=hq;refine⟨max n m+1,o2,st2,?_,hq2⟩;simp only[A7,KD,Lj h (Nat.le_max_left n m),C4,Lj h2 (Nat.le_max_right n m)]
  |_=>exact⟨n+1,_,st',by simp only[A7,KD,h,C4],hq⟩
theorem VT(x:Code)(st:St):K7 C K fr b x Q .normal st=Wp C K fr b (.loop x) st Q:=rfl
theorem bU(x:Code)(k:Nat)(st:St):K7 C K fr b x Q (.exit k) st=Q (.exit k) st:=rfl
theorem kZ(x:Code)(st:St):K7 C K fr b x Q .ret st=Q .ret st:=rfl
theorem kY(x:Code)(v:AV)(st:St):K7 C K fr b x Q (.pan v) st=Q (.pan v) st:=rfl
theorem Lb(x:Code)(st:St):fY C K fr b x st Q=Wp C K fr b x st (K7 C K fr b x Q):=rfl
structure AA(p:Prop):Prop where
 out:p
theorem rounds{α:Type}{x:Code}(S:α→St)(Inv:α→Prop)(m:α→Nat)(a:α)(h0:Inv a)(step: ∀a,Inv a→AA (∀a',m a'<m a→Inv a'→fY C K fr b x (S a') Q)→Wp C K fr b x (S a) (K7 C K fr b x Q)):fY C K fr b x (S a) Q:=by
 suffices h: ∀k a,m a<k→Inv a→fY C K fr b x (S a) Q from h _ a (Nat.lt_succ_self _) h0
 intro k;induction k with
 |zero=>intro a ha;omega
 |succ k ih=>exact fun a ha hi=>step a hi ⟨fun a' h1 h2=>ih a' (by omega) h2⟩
end Go.Abs
namespace Go.Abs
variable{P:Program}{C:CG}{K:AL}{fr:Fr}{b n i:Nat}{Q:DX→St→Prop}
variable{ops:Array Oper}{al:Nat→Bool}{l:List Oper}{e:BS}{h:AB}{bs:Nat}{ds:List Df}{ps:List (Nat×Nat)}{fps:List Fp}
def KI(e:BS):Option (Option Tmp)→AV
 |some (some t)=>e.get t
 |_=>.undef
def Oc(ops:Array Oper)(e:BS)(j:Nat):AV:=KI e ((ops[j]?).map (·.dst))
theorem Xt(e:BS)(t:Tmp):KI e (some (some t))=e.get t:=rfl
theorem a8(l:List Oper)(e:BS)(j:Nat):Oc l.toArray e j=KI e ((l[j]?).map (·.dst)):=by
 simp only[Oc,List.getElem?_toArray]
theorem yp(dst:Option Tmp)(op:Op)(ty:TypeId)(pos:String)(af:Array Edge)(j:Nat)(want:Bool):
 E3 C K fr ops b n al (⟨dst,op,ty,pos,af,some (j,want)⟩::l) i ⟨e,h,bs,ds⟩ Q=C3 C K fr ops b n al l i dst op ⟨e,h,bs,ds⟩ want Q (Oc ops e j):=by
 rw[UA];simp only[B8,Lq,Oc];cases hj:ops[j]? with
 |none=>simp[KI,C3,BF]
 |some o=>
  cases hd:o.dst with
  |none=>simp[KI,C3,BF,hd]
  |some t=>
   simp only[Option.bind_some,hd,Option.map_some,KI];cases hv:BS.get e t with
   |d x=>cases x with
    |bool c=>
     simp only[C3];cases(c==want)<;>simp only[BF,Av]
    |_=>rfl
   |tup vs=>cases vs<;>simp only[C3,BF,Av]
   |_=>rfl
theorem get_cons(k:Nat)(v:AV)(e:BS)(t:Nat):BS.get ((k,v)::e) t=if k=t then v else BS.get e t:=by
 rw[BS.get];cases h:Nat.beq k t with
 |true=>rw[if_pos (Nat.eq_of_beq_eq_true h)]
 |false=>rw[if_neg (Nat.ne_of_beq_eq_false h)]
theorem ma(e:BS)(t:Tmp)(v:AV):CD e (some t) v=(t,v)::e:=rfl
theorem mZ(e:BS)(v:AV):CD e none v=e:=rfl
theorem AAN(e:Nat→AV)(t:Tmp):ev e (.tmp t)=e t:=rfl
theorem vj(e:Nat→AV)(f:FuncId):ev e (.func f)=.fn f [] []:=rfl
theorem AAM(e:Nat→AV)(k:IntKind)(m:Int):ev e (.const (.int k m))=.d (.int k m):=rfl
theorem vh(e:Nat→AV)(c:Bool):ev e (.const (.bool c))=.d (.bool c):=rfl
theorem iE(e:Nat→AV)(s:ByteArray):ev e (.const (.string s))=.d (.str s):=rfl
theorem vt(e:Nat→AV):ev e (.const (.slice none 0 0))=.nils:=rfl
theorem vq(e:Nat→AV):ev e (.const (.pointer none))=.d .nilp:=rfl
theorem vn(e:Nat→AV):ev e (.const .nilFunc)=.d .nilf:=rfl
theorem vo(e:Nat→AV):ev e (.const .nilIface)=.d .nili:=rfl
theorem vp(e:Nat→AV):ev e (.const (.map none))=.d .nilm:=rfl
theorem ZU(δ:AB):JS none δ=true:=by cases δ<;>rfl
theorem AB9(k:IntKind)(a c:Int):E1 .add k a c=some (.d (.int k (k.wrap (a+c)))):=rfl
theorem ACJ(k:IntKind)(a c:Int):E1 .sub k a c=some (.d (.int k (k.wrap (a-c)))):=rfl
theorem ACG(k:IntKind)(a c:Int):E1 .mul k a c=some (.d (.int k (k.wrap (a*c)))):=rfl
theorem ACA(k:IntKind)(a c:Int):E1 .eql k a c=some (.d (.bool (decide (a=c)))):=by
 simp only[E1];congr
theorem ACH(k:IntKind)(a c:Int):E1 .neq k a c=some (.d (.bool (!decide (a=c)))):=by
 simp only[E1];congr
theorem ACF(k:IntKind)(a c:Int):E1 .lss k a c=some (.d (.bool (decide (a<c)))):=rfl
theorem ACE(k:IntKind)(a c:Int):E1 .leq k a c=some (.d (.bool (decide (a≤c)))):=rfl
theorem ACD(k:IntKind)(a c:Int):E1 .gtr k a c=some (.d (.bool (decide (c<a)))):=rfl
theorem ACB(k:IntKind)(a c:Int):E1 .geq k a c=some (.d (.bool (decide (c≤a)))):=rfl
theorem ACI(k:IntKind)(a c:Int):E1 .rem k a c=if c=0 then none else some (.d (.int k (a.tmod c))):=rfl
theorem AC1(op:BinOp)(k:IntKind)(a c:Int)(t:Option TI):IE op (.d (.int k a)) (.d (.int k c)) t=E1 op k a c:=by
 simp only[IE,if_true]
theorem gR{x y:Code}{st:St}{p:Prop} [Decidable p](h1:p→Wp C K fr b x st Q)(h2: ¬p→Wp C K fr b y st Q):Kq C K fr b x y st Q (.d (.bool (decide p))):=by
 by_cases hp:p
 .rw[decide_eq_true hp];exact h1 hp
 .rw[decide_eq_false hp];exact h2 hp
theorem gU(x y:Code)(st:St)(t:Bool):Kq C K fr b x y st Q (.d (.bool (!t)))=Kq C K fr b y x st Q (.d (.bool t)):=by
 cases t<;>rfl
theorem aq{dst:Option Tmp}{op:Op}{st:St}{want:Bool}{p:Prop} [Decidable p](h1:p→C3 C K fr ops b n al l i dst op st want Q (.d (.bool true)))(h2: ¬p→C3 C K fr ops b n al l i dst op st want Q (.d (.bool false))):C3 C K fr ops b n al l i dst op st want Q (.d (.bool (decide p))):=by
 by_cases hp:p
 .rw[decide_eq_true hp];exact h1 hp
 .rw[decide_eq_false hp];exact h2 hp
theorem ay(dst:Option Tmp)(op:Op)(want:Bool):C3 C K fr ops b n al l i dst op ⟨e,h,bs,ds⟩ want Q (.tup [])=E3 C K fr ops b n al l (i+1) ⟨CD e dst (.tup []),h,bs,ds⟩ Q:=rfl
def pt(C:CG)(K:AL)(fr:Fr)(ops:Array Oper)(b n id:Nat)(l:List Oper)(st:St)(Q:DX→St→Prop):List (Nat×Nat)→Prop
 |[]=>E3 C K fr ops b n (fun i=>C.alone fr.f id i) l 0 st Q
 |p::ps=>Fi C K fr ops b n (fun i=>C.alone fr.f id i) (p::ps) [] l 0 st Q
theorem uf(id:Nat)(ops:Array Oper)(e:BS)(h:AB)(bs:Nat)(ds:List Df):Wp C K fr b (.region id ops true) ⟨e,h,bs,ds⟩ Q=pt C K fr ops bs ops.size id ops.toList ⟨e,h,bs,ds⟩ Q (C.pairs fr.f id):=by
 cases hp:C.pairs fr.f id with
 |nil=>rw[ue id ops e h bs ds hp];rfl
 |cons p ps=>rw[zK id ops e h bs ds hp];rfl
theorem g8(id:Nat)(st:St):pt C K fr ops b n id l st Q []=E3 C K fr ops b n (fun i=>C.alone fr.f id i) l 0 st Q:=rfl
theorem Z6(id:Nat)(st:St)(p:Nat×Nat):pt C K fr ops b n id l st Q (p::ps)=Fi C K fr ops b n (fun i=>C.alone fr.f id i) (p::ps) [] l 0 st Q:=rfl
theorem p9{prot:Option (List Nat)}{rs:List ResultVar}{π:List Nat}{raw:Bool}{Post:AZ→AB→Prop}:Qp C prot rs π raw Post .ret ⟨e,h,bs,ds⟩=JX C rs π raw e Post (Cr C prot ds none h):=rfl
theorem XF{prot:Option (List Nat)}{rs:List ResultVar}{π:List Nat}{raw:Bool}{Post:AZ→AB→Prop}:Qp C prot rs π raw Post .normal ⟨e,h,bs,ds⟩=JX C rs π raw e Post (Cr C prot ds none h):=rfl
theorem p8{prot:Option (List Nat)}{rs:List ResultVar}{π:List Nat}{raw:Bool}{Post:AZ→AB→Prop}(v:AV):Qp C prot rs π raw Post (.pan v) ⟨e,h,bs,ds⟩=JX C rs π raw e Post (Cr C prot ds (some v) h):=rfl
theorem jW(prot:Option (List Nat))(p:Option AV)(h:AB):Cr C prot [] p h=.ok (p,h):=rfl
theorem RI(prot:Option (List Nat))(p:Option AV)(h:AB)(id:Id)(l:List Df):Cr C prot (.mark id::l) p h=Cr C prot l p h:=rfl
theorem bL{rs:List ResultVar}{π:List Nat}{raw:Bool}{Post:AZ→AB→Prop}:JX C rs π raw e Post (.ok (none,h))=eF h π raw Post (Ry C e h rs):=rfl
theorem bK{rs:List ResultVar}{π:List Nat}{raw:Bool}{Post:AZ→AB→Prop}(v:AV):JX C rs π raw e Post (.ok (some v,h))=Post (.pan v) h:=rfl
theorem uR{π:List Nat}{Post:AZ→AB→Prop}(v:AV):eF h π true Post (some v)=Post (.ret v) h:=rfl
theorem uO{k:Nat}{π:List Nat}{Post:AZ→AB→Prop}(v:AV):eF h (k::π) false Post (some v)=Post (.ret v) h:=rfl
def ACX(Post:AZ→AB→Prop):Option AV→Prop
 |some v=>Post (.ret v) []
 |none=>False
theorem uK{Post:AZ→AB→Prop}(v:AV):eF h [] false Post (some v)=ACX Post (Vy h.get v):=by
 simp only[eF];cases Vy h.get v<;>rfl
theorem jA{Post:AZ→AB→Prop}(v:AV):ACX Post (some v)=Post (.ret v) []:=rfl
theorem mu:Ry C e h []=some (.tup []):=rfl
theorem tN(t:Tmp):Ry C e h [.tmp t]=some (e.get t):=rfl
theorem mr(r r':ResultVar)(rs:List ResultVar):Ry C e h (r::r'::rs)=(MG (CT C ⟨e,h,0,[]⟩) (r::r'::rs)).map .tup:=by
 unfold Ry;simp only[MG];cases CT C ⟨e,h,0,[]⟩ r with
 |none=>rfl
 |some y=>cases CT C ⟨e,h,0,[]⟩ r' with
  |none=>rfl
  |some z=>cases MG (CT C ⟨e,h,0,[]⟩) rs<;>rfl
theorem mq(a:Tmp)(t:TypeId):Ry C e h [.cell a t]=(C.T t).bind fun i=>IY h.get i (e.get a):=by
 unfold Ry;simp only[MG,CT];cases(C.T t).bind fun i=>IY h.get i (e.get a)<;>rfl
theorem Ss(t:Tmp):CT C ⟨e,h,bs,ds⟩ (.tmp t)=some (e.get t):=rfl
theorem Rz(a:Tmp)(t:TypeId):CT C ⟨e,h,bs,ds⟩ (.cell a t)=(C.T t).bind fun i=>IY h.get i (e.get a):=rfl
theorem sI{α β:Type}(f:α→Option β):MG f []=some []:=rfl
theorem kh{α β:Type}(f:α→Option β)(x:α)(l:List α):MG f (x::l)=(f x).bind fun y=>(MG f l).map (y:: ·):=by
 simp only[MG];cases f x with
 |none=>rfl
 |some y=>cases MG f l<;>rfl
theorem jI(dst:Option Tmp)(op:Op)(st:St)(t:Bool):C3 C K fr ops b n al l i dst op st true Q (.d (.bool (!t)))=C3 C K fr ops b n al l i dst op st false Q (.d (.bool t)):=by
 cases t<;>rfl
theorem wa(g:G)(vs:List AV):Vy g (.tup vs)=(DT g vs).map .tup:=rfl
theorem ACY(g:G)(x:AW):Vy g (.d x)=some (.d x):=rfl
theorem wQ(g:G)(cs:List AV):Vy g (.agg cs)=(GD g cs).map .agg:=rfl
theorem qj(g:G):Vy g .nils=some (.d (.lst [])):=rfl
theorem wU(g:G):Vy g .emp=some (.d (.lst [])):=rfl
theorem wY(g:G)(id:Id)(off m:Nat):Vy g (.osl id off m)=(Dp g (.osl id off m)).map .d:=rfl
theorem is_self: ∀(a:Id),Id.is a a=true
 |[]=>rfl
 |n::l=>by simp[Id.is,is_self l]
theorem xD(n m:Nat)(l k:Id):Id.is (n::l) (m::k)=if n=m then Id.is l k else false:=by
 rw[Id.is];cases h:Nat.beq n m with
 |true=>rw[if_pos (Nat.eq_of_beq_eq_true h)]
 |false=>rw[if_neg (Nat.ne_of_beq_eq_false h)]
theorem X1(m:Nat)(k:Id):Id.is [] (m::k)=false:=rfl
theorem X0(m:Nat)(k:Id):Id.is (m::k) []=false:=rfl
theorem qy(id:Id):AB.get [] id=none:=rfl
theorem BN(k:Id)(o:Obj)(h:AB)(id:Id):AB.get ((k,o)::h) id=if Id.is k id=true then some o else AB.get h id:=by
 rw[AB.get];cases Id.is k id<;>rfl
theorem fP(id:Id)(o:Obj):AB.put [] id o=[(id,o)]:=rfl
theorem Yu(k:Id)(x:Obj)(h:AB)(id:Id)(o:Obj):AB.put ((k,x)::h) id o=if Id.is k id=true then(k,o)::h else(k,x)::AB.put h id o:=by
 rw[AB.put];cases Id.is k id<;>rfl
theorem puts_cons(h:AB)(p:Id×Obj)(δ:AB):AB.puts h (p::δ)=AB.puts (h.put p.1 p.2) δ:=rfl
theorem puts_nil(h:AB):AB.puts h []=h:=rfl
def Uo(π:List Nat)(e:BS)(h:AB)(l:List Id):St:=
 {env:=e.map fun p=>(p.1,Ih (DH π l 0) p.2),heap:=Cz h (DH π l 0) l,base:=l.length,defs:=[]}
def Gf:BS→List Id
 |[]=>[]
 |p::e=>AE p.2++Gf e
theorem wz(e:BS):(e.flatMap fun p=>AE p.2)=Gf e:=by
 induction e with
 |nil=>rfl
 |cons p e ih=>rw[List.flatMap_cons,ih];rfl
def K5(e:BS):List Nat→BS
 |[]=>[]
 |t::l=>(t,e.get t)::K5 e l
theorem RK(e:BS)(l:List Nat):(l.map fun t=>(t,e.get t))=K5 e l:=by
 induction l with
 |nil=>rfl
 |cons p e ih=>rw[List.map_cons,ih];rfl
def MZ(π:List Nat)(h:AB)(e:BS):St:=Uo π e h (Br h 1000 (EK [] (Gf e)) 0)
theorem OQ(f:FuncId)(π:List Nat)(prot:Option (List Nat))(rnd:Bool)(nt:Nat):EP C ⟨f,π,false,prot,rnd,nt⟩ b ⟨e,h,bs,[]⟩=MZ π h (K5 e (C.live f b)):=by
 simp only[EP,RK,wz,MZ,Uo];rfl
theorem gH(f:FuncId)(π:List Nat)(prot:Option (List Nat))(rnd:Bool)(nt:Nat):EP C ⟨f,π,true,prot,rnd,nt⟩ b ⟨e,h,bs,ds⟩=⟨K5 e (C.live f b),h,bs,ds⟩:=by
 simp only[EP,RK];rfl
theorem Zn(d:Df):EP C fr b ⟨e,h,bs,d::ds⟩=⟨K5 e (C.live fr.f b),h,bs,d::ds⟩:=by
 simp only[EP,RK,List.isEmpty_cons,Bool.not_false,Bool.or_true,if_true]
theorem og(l:List Id)(id:Id):KY l id=if (l.any (Id.is id))=true then l else l++[id]:=by
 rw[KY];cases l.any (Id.is id)<;>rfl
theorem tJ(h:AB)(n:Nat)(l:List Id)(i:Nat):Br h (n+1) l i=match l[i]? with
 |some id=>Br h n (EK l (FV (h.get id))) (i+1)
 |none=>l:=rfl
def R9(id:Id):Nat:=match id with|0::_=>0|_=>1
theorem RV(π:List Nat)(x:Id)(r:List Id)(n:Nat)(id:Id):DH π (x::r) n id=if Id.is x id=true then some (R9 id::n::π)else DH π r (n+1) id:=by
 have:DH π (x::r) n id=match Id.is x id with|true=>some (R9 id::n::π)|false=>DH π r (n+1) id:=by
  conv=>lhs;unfold DH
  unfold R9;cases id with
  |nil=>rfl
  |cons a l=>cases a<;>rfl
 rw[this];cases Id.is x id<;>rfl
theorem nf(l:Id):R9 (0::l)=0:=rfl
theorem nd(l:Id):R9 (1::l)=1:=rfl
def RM(sz:Nat):Option (List AW)→Option Bz
 |some c=>if c.length=sz then some ⟨.iptr c,[]⟩else none
 |none=>none
theorem w6(g:G)(m:Int)(es:List (List AW))(j:TI)(hm:0≤m):MQ g m (.d (.lst es)) j=RM j.size es[m.toNat]? :=by
 simp only[MQ,if_pos hm];cases es[m.toNat]? with
 |none=>rfl
 |some c=>
  simp only[RM];cases h:Nat.beq c.length j.size with
  |true=>rw[if_pos (Nat.eq_of_beq_eq_true h)]
  |false=>rw[if_neg (Nat.ne_of_beq_eq_false h)]
theorem w7(g:G)(m:Int)(id:Id)(off len:Nat)(j:TI)(hm:0≤m):MQ g m (.osl id off len) j=if m.toNat<len then(match g id with
        |some (.darr sz es)=>if sz=j.size∧off+m.toNat<es.length then some ⟨.eptr id (off+m.toNat) 0,[]⟩else none
        |some (.fro sz es)=>if sz=j.size∧off+m.toNat<es.length then some ⟨.eptr id (off+m.toNat) 0,[]⟩else none
        |some (.arr sz es)=>if sz=j.size∧off+m.toNat<es.length then some ⟨.eptr id (off+m.toNat) 0,[]⟩else none
        |_=>none)else none:=by
 simp only[MQ,if_pos hm];rfl
theorem kf(sz:Nat)(c:List AW):RM sz (some c)=if c.length=sz then some ⟨.iptr c,[]⟩else none:=rfl
theorem mM{s:ByteArray}{j:Nat}{dst:Option Tmp}{f:UInt8→Bz}(hj:j<s.data.toList.length)(hx: ∀x,s.data.toList[j]? =some x→Ba C K fr ops b n al l i dst e h bs ds Q (some (f x))):Ba C K fr ops b n al l i dst e h bs ds Q (Option.map f s.data.toList[j]?):=by
 have:=hx s.data.toList[j] (List.getElem?_eq_getElem hj)
 rwa [List.getElem?_eq_getElem hj]
theorem mL{α:Type}{f:α→List AW}{l':List α}{sz j:Nat}{dst:Option Tmp}(hj:j<l'.length)(hx: ∀x,l'[j]? =some x→Ba C K fr ops b n al l i dst e h bs ds Q (RM sz (some (f x)))):Ba C K fr ops b n al l i dst e h bs ds Q (RM sz (Option.map f l'[j]?)):=by
 have:=hx l'[j] (List.getElem?_eq_getElem hj)
 rwa [List.getElem?_eq_getElem hj]
theorem AAX(g:G)(x:AW):Ea g (.d x)=some x:=rfl
theorem ic(g:G):Ea g .nils=some (.lst []):=rfl
theorem qX(g:G):Ea g .emp=some (.lst []):=rfl
theorem AAY(g:G)(x:AW):Dp g (.d x)=some x:=rfl
theorem ig(g:G):Dp g .nils=some (.lst []):=rfl
theorem qb(g:G):Dp g .emp=some (.lst []):=rfl
theorem qe(g:G)(id:Id)(off:Nat):Dp g (.ptr id off)=none:=rfl
theorem wK(g:G)(id:Id):Dp g (.mp id)=none:=rfl
theorem qf(g:G)(id:Id):Dp g (.yld id)=none:=rfl
theorem wJ(g:G)(f:FuncId)(a c:List AV):Dp g (.fn f a c)=none:=rfl
def Xk(g:G)(off m:Nat):Option Obj→Option AW
 |some (.arr _ es)=>(Cj g es).bind fun ds=>(Iw ds off m).map .lst
 |some (.darr _ es)=>(Iw es off m).map .lst
 |some (.fro _ es)=>(Iw es off m).map .lst
 |_=>none
theorem qc(g:G)(id:Id)(off m:Nat):Dp g (.osl id off m)=Xk g off m (g id):=by
 simp only[Dp,Ea];cases h:g id with
 |none=>rfl
 |some o=>cases o with
  |arr sz es=>
   simp only[Xk];cases Cj g es<;>rfl
  |_=>rfl
theorem iv(g:G)(off m sz:Nat)(es:List (List AV)):Xk g off m (some (.arr sz es))=(Cj g es).bind fun ds=>(Iw ds off m).map .lst:=rfl
theorem aj(g:G)(off m sz:Nat)(es:List (List AW)):Xk g off m (some (.darr sz es))=(Iw es off m).map .lst:=rfl
theorem iw(g:G)(off m sz:Nat)(es:List (List AW)):Xk g off m (some (.fro sz es))=(Iw es off m).map .lst:=rfl
theorem ij(g:G):GD g []=some []:=rfl
def aZ:Option AW→Option (List AV)→Option (List AV)
 |some x,some xs=>some (.d x::xs)
 |_,_=>none
theorem Xg(x:AW)(xs:List AV):aZ (some x) (some xs)=some (.d x::xs):=rfl
theorem Xf(xs:Option (List AV)):aZ none xs=none:=rfl
theorem aa(g:G)(v:AV)(vs:List AV):GD g (v::vs)=aZ (Dp g v) (GD g vs):=by
 simp only[GD];cases Dp g v<;>cases GD g vs<;>rfl
def ew:Option AV→Option (List AV)→Option (List AV)
 |some x,some xs=>some (x::xs)
 |_,_=>none
theorem ae(x:AV)(xs:List AV):ew (some x) (some xs)=some (x::xs):=rfl
theorem ab(xs:Option (List AV)):ew none xs=none:=rfl
theorem Xi(x:Option AV):ew x none=none:=by cases x<;>rfl
theorem qh(g:G):DT g []=some []:=by simp only[DT]
theorem ir(g:G)(v:AV)(vs:List AV):DT g (v::vs)=ew (EF g v) (DT g vs):=by
 simp only[DT];cases EF g v<;>cases DT g vs<;>rfl
theorem AAW(g:G)(x:AW):EF g (.d x)=some (.d x):=rfl
theorem qP(g:G)(cs:List AV):EF g (.agg cs)=(GD g cs).map .agg:=rfl
theorem iZ(g:G):EF g .nils=some (.d (.lst [])):=rfl
theorem qQ(g:G):EF g .emp=some (.d (.lst [])):=rfl
theorem qU(g:G)(id:Id)(off:Nat):EF g (.ptr id off)=none:=rfl
theorem wI(g:G)(id:Id):EF g (.mp id)=none:=rfl
theorem qW(g:G)(id:Id):EF g (.yld id)=none:=rfl
theorem wH(g:G)(f:FuncId):EF g (.fn f [] [])=some (.fn f [] []):=rfl
theorem qT(g:G)(id:Id)(off m:Nat):EF g (.osl id off m)=(Dp g (.osl id off m)).map .d:=rfl
theorem XZ(g:G)(t:TypeId)(cs:List AV):EF g (.iface t (.agg cs))=(GD g cs).map fun c=>.iface t (.agg c):=rfl
theorem Xa(g:G)(t:TypeId)(x:AW):EF g (.iface t (.d x))=some (.iface t (.d x)):=rfl
theorem AAU(x:AW):flat (.d x)=Dg x:=by cases x<;>rfl
theorem iY:flat .nils=true:=by simp[flat]
theorem qJ(cs:List AV):flat (.agg cs)=Ev cs:=by cases cs<;>rfl
theorem qM(cs:List AV):flat (.tup cs)=Ev cs:=by cases cs<;>rfl
theorem qK(id:Id)(off m:Nat):flat (.osl id off m)=false:=by cases id<;>rfl
theorem qL(id:Id)(off:Nat):flat (.ptr id off)=false:=by cases id<;>rfl
theorem XR(t:TypeId)(cs:List AV):flat (.iface t (.agg cs))=Ev cs:=by cases cs<;>rfl
theorem XT(t:TypeId)(x:AW):flat (.iface t (.d x))=Dg x:=by cases x<;>rfl
theorem iV:Ev []=true:=rfl
theorem wB(x:AW)(vs:List AV):Ev (.d x::vs)=(Dg x&&Ev vs):=rfl
theorem iU(x:List AV)(vs:List AV):Ev (.agg x::vs)=false:=by simp only[Ev]
theorem iW(id:Id)(off m:Nat)(vs:List AV):Ev (.osl id off m::vs)=false:=by simp only[Ev]
theorem aO(vs:List AV):Ev (.nils::vs)=false:=by simp only[Ev]
theorem wE(id:Id):flat (.mp id)=false:=by simp only[flat]
theorem wC(f:FuncId)(a c:List AV):flat (.fn f a c)=false:=by simp only[flat]
theorem XO(vs:List AV)(h:AB):BL (.tup vs) h=none:=by simp only[BL]
theorem XL(vs:List AV)(h:AB):BL (.agg vs) h=none:=by simp only[BL]
theorem XN(id:Id)(off:Nat)(h:AB):BL (.ptr id off) h=none:=by simp only[BL]
theorem aH(id:Id)(h:AB):BL (.mp id) h=none:=by simp only[BL]
theorem aG(f:FuncId)(a c:List AV)(h:AB):BL (.fn f a c) h=none:=by simp only[BL]
theorem iM(k:IntKind)(m:Int):Dg (.int k m)=true:=rfl
theorem aI(c:Bool):Dg (.bool c)=true:=rfl
theorem iR(c:ByteArray):Dg (.str c)=true:=rfl
theorem iQ(c:List (List AW)):Dg (.lst c)=false:=rfl
theorem aN:Dg .nilp=true:=rfl
theorem aK:Dg .nili=true:=rfl
theorem aJ:Dg .nilf=true:=rfl
theorem aL:Dg .nilm=true:=rfl
theorem gK(cs:List AV):AV.cells (.agg cs)=cs:=rfl
theorem vO(x:AW):AV.cells (.d x)=[.d x]:=rfl
theorem Zu:AV.cells .nils=[.nils]:=rfl
theorem gL:AV.cells .emp=[.emp]:=rfl
theorem gM(id:Id)(off m:Nat):AV.cells (.osl id off m)=[.osl id off m]:=rfl
theorem gN(id:Id)(off:Nat):AV.cells (.ptr id off)=[.ptr id off]:=rfl
theorem Zs(id:Id)(k off:Nat):AV.cells (.eptr id k off)=[.eptr id k off]:=rfl
theorem pT(f:FuncId)(a c:List AV):AV.cells (.fn f a c)=[.fn f a c]:=rfl
theorem pV(id:Id):AV.cells (.mp id)=[.mp id]:=rfl
theorem Wo(t:TypeId)(v:AV):AV.cells (.iface t v)=[.iface t v]:=rfl
theorem Zt(c:List AW):AV.cells (.iptr c)=[.iptr c]:=rfl
theorem AAG(x:AW):AV.isCell (.d x)=true:=rfl
theorem gJ:AV.isCell .nils=true:=rfl
theorem pO:AV.isCell .emp=true:=rfl
theorem pQ(id:Id)(off m:Nat):AV.isCell (.osl id off m)=true:=rfl
theorem pR(id:Id)(off:Nat):AV.isCell (.ptr id off)=true:=rfl
theorem gI(id:Id)(k off:Nat):AV.isCell (.eptr id k off)=true:=rfl
theorem vM(f:FuncId)(a c:List AV):AV.isCell (.fn f a c)=true:=rfl
theorem vN(id:Id):AV.isCell (.mp id)=true:=rfl
theorem Zr(t:TypeId)(v:AV):AV.isCell (.iface t v)=true:=rfl
theorem ABe(a c:List AV)(i:TI):IE .eql (.agg a) (.agg c) (some i)=(IC i.kind (.agg a) (.agg c)).map fun t=>.d (.bool t):=by
 simp only[IE];cases IC i.kind (.agg a) (.agg c)<;>rfl
theorem ABf(a c:List AV)(i:TI):IE .neq (.agg a) (.agg c) (some i)=(IC i.kind (.agg a) (.agg c)).map fun t=>.d (.bool (!t)):=by
 simp only[IE];cases IC i.kind (.agg a) (.agg c)<;>rfl
theorem fo(ks:List TK)(a c:List AV):IC (.flat ks) (.agg a) (.agg c)=Dx ks a c:=rfl
theorem Wk:Dx [] [] []=some true:=rfl
def AB8:Option Bool→Option Bool→Option Bool
 |some a,some c=>some (a&&c)
 |_,_=>none
theorem fe(a c:Bool):AB8 (some a) (some c)=some (a&&c):=rfl
theorem Uu(t:TK)(ts:List TK)(x y:AV)(xs ys:List AV):Dx (t::ts) (x::xs) (y::ys)=AB8 (Fu t x y) (Dx ts xs ys):=by
 simp only[Dx];cases Fu t x y<;>cases Dx ts xs ys<;>rfl
theorem Zp(k:IntKind)(a c:Int):Fu .int (.d (.int k a)) (.d (.int k c))=some (decide (a=c)):=by
 simp only[Fu,if_true];congr
theorem Wi(a c:Bool):Fu .bool (.d (.bool a)) (.d (.bool c))=some (a==c):=rfl
theorem Zq(a c:ByteArray):Fu .str (.d (.str a)) (.d (.str c))=some (a==c):=rfl
theorem ABi(a c:ByteArray)(i:TI):IE .lss (.d (.str a)) (.d (.str c)) (some i)=some (.d (.bool (Op.bytesLess a.toList c.toList))):=by
 simp only[IE];cases IC i.kind (.d (.str a)) (.d (.str c))<;>rfl
theorem zE(a c:Bool)(i:TI):IE .eql (.d (.bool a)) (.d (.bool c)) (some i)=(IC i.kind (.d (.bool a)) (.d (.bool c))).map fun t=>.d (.bool t):=by
 simp only[IE];cases IC i.kind (.d (.bool a)) (.d (.bool c))<;>rfl
theorem uJ(t:TypeId)(v:AV)(i:TI):IE .neq (.iface t v) (.d .nili) (some i)=(IC i.kind (.iface t v) (.d .nili)).map fun t=>.d (.bool (!t)):=by
 simp only[IE];cases IC i.kind (.iface t v) (.d .nili)<;>rfl
theorem jT(v:Value):Xz (.const v)=true:=rfl
theorem xC(t:Tmp):Xz (.tmp t)=false:=rfl
theorem rJ(f:FuncId):Xz (.func f)=false:=rfl
theorem vI(c:Bool)(op:BinOp)(x y:AV)(t:Option TI):fu c op x y t=orV (IE op x y t) (sf c op x y t):=rfl
theorem su(v:AV)(r:Option AV):orV (some v) r=some v:=rfl
theorem sr(r:Option AV):orV none r=r:=rfl
def ABJ:TK→BinOp→Option AV
 |.iface,.eql=>some (.d (.bool true))
 |.iface,.neq=>some (.d (.bool false))
 |_,_=>none
theorem sZ:ABJ .iface .eql=some (.d (.bool true)):=rfl
theorem sc:ABJ .iface .neq=some (.d (.bool false)):=rfl
theorem sh(op:BinOp)(i:TI):sf true op (.d .nili) (.d .nili) (some i)=ABJ i.kind op:=by
 obtain⟨k⟩:=i;cases k<;>cases op<;>rfl
theorem ABh(op:BinOp)(i:TI):IE op (.d .nili) (.d .nili) (some i)=none:=by
 obtain⟨k⟩:=i;cases k<;>cases op<;>rfl
theorem o8(a c:ByteArray):IC .str (.d (.str a)) (.d (.str c))=some (a==c):=rfl
theorem fm(a c:Bool):IC .bool (.d (.bool a)) (.d (.bool c))=some (a==c):=rfl
theorem Zi(t:TypeId)(v:AV):IC .iface (.iface t v) (.d .nili)=some false:=rfl
theorem AC0(f:FuncId)(a c:List AV)(i:TI):IE .neq (.fn f a c) (.d .nilf) (some i)=(IC i.kind (.fn f a c) (.d .nilf)).map fun t=>.d (.bool (!t)):=by
 simp only[IE];cases IC i.kind (.fn f a c) (.d .nilf)<;>rfl
theorem zF(i:TI):IE .neq (.d .nilf) (.d .nilf) (some i)=(IC i.kind (.d .nilf) (.d .nilf)).map fun t=>.d (.bool (!t)):=by
 simp only[IE];cases IC i.kind (.d .nilf) (.d .nilf)<;>rfl
theorem vH(f:FuncId)(a c:List AV):IC .func (.fn f a c) (.d .nilf)=some false:=rfl
theorem fq:IC .func (.d .nilf) (.d .nilf)=some true:=rfl
theorem jB(g:G)(t:TypeId)(v:AV):Vy g (.iface t v)=EF g (.iface t v):=by simp only[Vy]
theorem wZ(g:G)(id:Id)(off:Nat):Vy g (.ptr id off)=none:=rfl
attribute [go_sem] ABi zE uJ jT xC rJ vI su sr sZ sc sh ABh o8 fm Zi AC0 zF vH fq jB wZ
attribute [go_sem] ABe ABf fo Wk fe Uu Zp Wi Zq
theorem Fs(a c:Nat):Nat.ble a c=decide (a≤c):=by
 cases h:Nat.ble a c with
 |true=>exact(decide_eq_true (Nat.le_of_ble_eq_true h)).symm
 |false=>exact(decide_eq_false (fun h1=>by rw[Nat.ble_eq_true_of_le h1]at h;cases h)).symm
theorem Um(a c:Nat):Nat.blt a c=decide (a<c):=Fs (a+1) c
theorem Gn(a c:Nat):Nat.beq a c=decide (a=c):=by
 cases h:Nat.beq a c with
 |true=>exact(decide_eq_true (Nat.eq_of_beq_eq_true h)).symm
 |false=>exact(decide_eq_false (Nat.ne_of_beq_eq_false h)).symm
theorem AK{a:Nat}(h:a≤1073741824):(a≤A4)=True:=eq_true (by unfold A4;omega)
attribute [go_sem] Fs Um AK Fx List.replicate_succ List.replicate_zero List.flatten_cons List.flatten_nil Bool.and_self
theorem Yj(t:TypeId)(u:AV)(hu:flat (.iface t u)=true):BF C K fr ops b n al l i Q (FH ⟨e,h,bs,ds⟩ (.iface t u))=(al i=true∧Q (.pan (.iface t u)) ⟨e,h,b+n,ds⟩):=by
 simp only[FH,hu,BF]
def Bl(v:AV)(t:Bool):E (AZ×AB):=if t=true then .ok (.ret (.tup []),[])else .ok (.pan v,[])
theorem KT(v:AV):Bl v true=.ok (.ret (.tup []),[]):=rfl
theorem JR(v:AV):Bl v false=.ok (.pan v,[]):=rfl
theorem dP{dst:Option Tmp}{az:List AV}{v:AV}{t:Bool}(h1:t=true→C7 C K fr ops b n al l i az dst e h bs ds Q (Bl v true))(h2:t=false→C7 C K fr ops b n al l i az dst e h bs ds Q (Bl v false)):C7 C K fr ops b n al l i az dst e h bs ds Q (Bl v t):=by
 cases t
 .exact h2 rfl
 .exact h1 rfl
theorem Ys{dst:Option Tmp}{az:List AV}{v:AV}{p:Prop} [Decidable p](h1:p→C7 C K fr ops b n al l i az dst e h bs ds Q (Bl v true))(h2: ¬p→C7 C K fr ops b n al l i az dst e h bs ds Q (Bl v false)):C7 C K fr ops b n al l i az dst e h bs ds Q (Bl v (decide p)):=by
 by_cases hp:p
 .rw[decide_eq_true hp];exact h1 hp
 .rw[decide_eq_false hp];exact h2 hp
attribute [go_sem] Nat.add_assoc
attribute [go_sem] yl yk Prod.mk.injEq Yj KT JR mV mU
attribute [go_sem] ABk zJ uc zN ABj zL nq ZB nI tb tZ SZ Zk Zj WZ Zy W4 sq lZ yp jK jG jJ jH AAa qm AAb wb ACZ we VE AAZ wm an wc AAc wh ql ak jE qn Xo qo Xn wk Xl Xm wi jD jC wj wg wo pH iz LJ dH ma mZ AAN vj AAM vh iE vt vq vn vo vp get_cons a8 Xt Dr Mw JL Pc JM CN KR Ho FX lX fM Dw L5 Cl KQ H0 Ff YP YQ w6 w7 kf VS IY Bm Iw Ey AC1 AB9 ACJ ACG ACA ACH ACF ACE ACD ACB ACI ZU p9 XF p8 jW RI bL bK uR uO uK jA mu tN mr mq Ss Rz sI kh jI ay wa ACY wQ qj wU wY NF gU decide_true decide_false Bool.not_true Bool.not_false uf g8 Z6 bo lO dN Option.isSome_some gK vO Zu gL gM gN Zs pT pV Wo Zt AAG gJ pO pQ pR gI vM vN Zr Di CQ puts_cons puts_nil fP Yu qy BN is_self xD X1 X0 zM VT bU kZ kY OQ gH Zn MZ Uo Gf K5 og EK tJ RV nf nd Ih HG GL Cz FV AE Al List.any_nil List.any_cons Bool.or_false Bool.false_or Bool.or_true Bool.true_or Bool.false_and Bool.and_false Int.toNat_natCast Int.natCast_nonneg List.getElem?_map List.getElem?_nil AAX ic qX AAY ig qb qe wK qf wJ qc iv aj iw ij Xg Xf aa ae ab Xi qh ir AAW qP iZ qQ qU wI qW wH qT XZ Xa AAU iY qJ qM qK qL XR XT iV wB iU iW aO wE wC XO XL XN aH aG List.flatMap_cons List.flatMap_nil iM aI iR iQ aN aK aJ aL List.foldl_cons List.foldl_nil List.map_cons List.map_nil List.length_cons List.length_nil List.length_map List.length_append List.length_singleton List.append_assoc List.all_cons List.all_nil Option.map_some Option.bind_some List.getElem?_cons_zero List.getElem?_cons_succ List.take_succ_cons List.take_zero List.drop_succ_cons List.drop_zero List.append_nil List.nil_append List.cons_append List.size_toArray Bool.and_true Bool.true_and true_and and_true
end Go.Abs
namespace Go.Abs
variable{P:Program}{C:CG}{K:AL}{fr:Fr}{b n i:Nat}{Q:DX→St→Prop}
variable{ops:Array Oper}{al:Nat→Bool}{l:List Oper}{e:BS}{h:AB}{bs:Nat}{ds:List Df}{ps:List (Nat×Nat)}{fps:List Fp}
def Bk(C:CG)(K:AL)(fr:Fr)(ops:Array Oper)(b n:Nat)(al:Nat→Bool)(ps:List (Nat×Nat))(fps:List Fp)(l:List Oper)(i:Nat)(Q:DX→St→Prop):GR→Prop
 |.ok st fp=>Fi C K fr ops b n al ps (fps++[fp]) l (i+1) st Q
 |.pan v st=>al i=true∧DI fps ps=true∧Q (.pan v) {st with base:=b+n}
 |.err _=>False
def DD(C:CG)(K:AL)(fr:Fr)(ops:Array Oper)(b n:Nat)(al:Nat→Bool)(ps:List (Nat×Nat))(fps:List Fp)(l:List Oper)(i:Nat)(dst:Option Tmp)(e:BS)(h:AB)(bs:Nat)(ds:List Df)(Q:DX→St→Prop)(rd:List Id):Option Bz→Prop
 |some x=>JS fr.prot x.δ=true∧Fi C K fr ops b n al ps (fps++[⟨some rd,some (x.δ.map (·.1))⟩]) l (i+1) ⟨CD e dst x.v,h.puts x.δ,bs,ds⟩ Q
 |none=>False
theorem so:Fi C K fr ops b n al ps fps [] i ⟨e,h,bs,ds⟩ Q=(DI fps ps=true∧Q .normal ⟨e,h,b+n,ds⟩):=by
 simp only[Fi,Cn,List.append_nil]
theorem Tz(o:Oper)(st:St):Fi C K fr ops b n al ps fps (o::l) i st Q=Bk C K fr ops b n al ps fps l i Q (B8 C K fr ops ((b+i)::fr.π) o st):=by
 unfold Fi;simp only[Cn,Gx];cases hs:B8 C K fr ops ((b+i)::fr.π) o st with
 |err e=>rfl
 |pan v st'=>
  simp only[Bk];cases al i<;>simp
 |ok st' fp=>
  simp only[Bk,Fi];cases hr:Cn C K fr ops b al l (i+1) st' with
  |err e=>rfl
  |ok r=>
   obtain⟨⟨o,st2⟩,fps'⟩:=r;cases o<;>simp only[Uv,List.append_assoc,List.cons_append,List.nil_append]
def DP(C:CG)(K:AL)(fr:Fr)(ops:Array Oper)(b n:Nat)(al:Nat→Bool)(ps:List (Nat×Nat))(fps:List Fp)(l:List Oper)(i:Nat)(dst:Option Tmp)(op:Op)(st:St)(want:Bool)(Q:DX→St→Prop):AV→Prop
 |.d (.bool t)=>match t==want with
  |true=>Bk C K fr ops b n al ps fps l i Q (Az C K fr ((b+i)::fr.π) op dst st)
  |false=>Fi C K fr ops b n al ps (fps++[⟨some [],some []⟩]) l (i+1) {st with env:=CD st.env dst (.tup [])} Q
 |.tup []=>Fi C K fr ops b n al ps (fps++[⟨some [],some []⟩]) l (i+1) {st with env:=CD st.env dst (.tup [])} Q
 |_=>False
theorem s9(dst:Option Tmp)(op:Op)(ty:TypeId)(pos:String)(af:Array Edge)(j:Nat)(want:Bool):
 Fi C K fr ops b n al ps fps (⟨dst,op,ty,pos,af,some (j,want)⟩::l) i ⟨e,h,bs,ds⟩ Q=DP C K fr ops b n al ps fps l i dst op ⟨e,h,bs,ds⟩ want Q (Oc ops e j):=by
 rw[Tz];simp only[B8,Lq,Oc];cases hj:ops[j]? with
 |none=>simp[KI,DP,Bk]
 |some o=>
  cases hd:o.dst with
  |none=>simp[KI,DP,Bk,hd]
  |some t=>
   simp only[Option.bind_some,hd,Option.map_some,KI];cases hv:BS.get e t with
   |d x=>cases x with
    |bool c=>
     simp only[DP];cases(c==want)<;>simp only[Bk,Av]
    |_=>rfl
   |tup vs=>cases vs<;>simp only[DP,Bk,Av]
   |_=>rfl
theorem jO(dst:Option Tmp)(op:Op)(st:St):DP C K fr ops b n al ps fps l i dst op st true Q (.d (.bool true))=Bk C K fr ops b n al ps fps l i Q (Az C K fr ((b+i)::fr.π) op dst st):=rfl
theorem jL(dst:Option Tmp)(op:Op)(st:St):DP C K fr ops b n al ps fps l i dst op st false Q (.d (.bool false))=Bk C K fr ops b n al ps fps l i Q (Az C K fr ((b+i)::fr.π) op dst st):=rfl
theorem jN(dst:Option Tmp)(op:Op):DP C K fr ops b n al ps fps l i dst op ⟨e,h,bs,ds⟩ true Q (.d (.bool false))=Fi C K fr ops b n al ps (fps++[⟨some [],some []⟩]) l (i+1) ⟨CD e dst (.tup []),h,bs,ds⟩ Q:=rfl
theorem jM(dst:Option Tmp)(op:Op):DP C K fr ops b n al ps fps l i dst op ⟨e,h,bs,ds⟩ false Q (.d (.bool true))=Fi C K fr ops b n al ps (fps++[⟨some [],some []⟩]) l (i+1) ⟨CD e dst (.tup []),h,bs,ds⟩ Q:=rfl
theorem bC(dst:Option Tmp)(op:Op)(want:Bool):DP C K fr ops b n al ps fps l i dst op ⟨e,h,bs,ds⟩ want Q (.tup [])=Fi C K fr ops b n al ps (fps++[⟨some [],some []⟩]) l (i+1) ⟨CD e dst (.tup []),h,bs,ds⟩ Q:=rfl
theorem VI{dst:Option Tmp}{op:Op}{st:St}{want t:Bool}(h1:t=true→DP C K fr ops b n al ps fps l i dst op st want Q (.d (.bool true)))(h2:t=false→DP C K fr ops b n al ps fps l i dst op st want Q (.d (.bool false))):DP C K fr ops b n al ps fps l i dst op st want Q (.d (.bool t)):=by
 cases t
 .exact h2 rfl
 .exact h1 rfl
theorem bB{dst:Option Tmp}{op:Op}{st:St}{want:Bool}{p:Prop} [Decidable p](h1:p→DP C K fr ops b n al ps fps l i dst op st want Q (.d (.bool true)))(h2: ¬p→DP C K fr ops b n al ps fps l i dst op st want Q (.d (.bool false))):DP C K fr ops b n al ps fps l i dst op st want Q (.d (.bool (decide p))):=by
 by_cases hp:p
 .rw[decide_eq_true hp];exact h1 hp
 .rw[decide_eq_false hp];exact h2 hp
theorem lY(dst:Option Tmp)(op:Op)(ty:TypeId)(pos:String)(af:Array Edge)(st:St):
 Fi C K fr ops b n al ps fps (⟨dst,op,ty,pos,af,none⟩::l) i st Q=Bk C K fr ops b n al ps fps l i Q (Az C K fr ((b+i)::fr.π) op dst st):=by
 rw[Tz];simp only[B8,Lq]
theorem BZ(dst:Option Tmp)(op:Op)(r:Option Bz):Bk C K fr ops b n al ps fps l i Q (C2 fr op dst ⟨e,h,bs,ds⟩ r)=DD C K fr ops b n al ps fps l i dst e h bs ds Q (FC e.get h.get op) r:=by
 cases r with
 |none=>rfl
 |some x=>
  simp only[C2,DD,JW,BT,Av];cases hw:JS fr.prot x.δ with
  |false=>simp[Bk]
  |true=>
   simp only[true_and,Kz,Bk]
theorem LH(dst:Option Tmp)(v:AV)(rd:List Id):DD C K fr ops b n al ps fps l i dst e h bs ds Q rd (some ⟨v,[]⟩)=Fi C K fr ops b n al ps (fps++[⟨some rd,some []⟩]) l (i+1) ⟨CD e dst v,h,bs,ds⟩ Q:=by
 have:JS fr.prot []=true:=by cases hp:fr.prot<;>rfl
 simp only[DD,this,true_and];rfl
theorem dG(dst:Option Tmp)(v:AV)(x:Id×Obj)(δ:AB)(rd:List Id):DD C K fr ops b n al ps fps l i dst e h bs ds Q rd (some ⟨v,x::δ⟩)=(JS fr.prot (x::δ)=true∧Fi C K fr ops b n al ps (fps++[⟨some rd,some (x.1::δ.map (·.1))⟩]) l (i+1) ⟨CD e dst v,h.puts (x::δ),bs,ds⟩ Q):=rfl
section
variable(dst:Option Tmp)(ρ:List Nat)
theorem AAS(x:Operand):Bk C K fr ops b n al ps fps l i Q (Az C K fr ρ (.move x) dst ⟨e,h,bs,ds⟩)=Fi C K fr ops b n al ps (fps++[⟨some [],some []⟩]) l (i+1) ⟨CD e dst (ev e.get x),h,bs,ds⟩ Q:=by
 simp only[Az,evalOp,BZ,LH,FC]
theorem qE(x:Operand):Bk C K fr ops b n al ps fps l i Q (Az C K fr ρ (.assign x) dst ⟨e,h,bs,ds⟩)=Fi C K fr ops b n al ps (fps++[⟨some [],some []⟩]) l (i+1) ⟨CD e dst (ev e.get x),h,bs,ds⟩ Q:=by
 simp only[Az,evalOp,BZ,LH,FC]
theorem AAT(c x y:Operand):Bk C K fr ops b n al ps fps l i Q (Az C K fr ρ (.pick c x y) dst ⟨e,h,bs,ds⟩)=DD C K fr ops b n al ps fps l i dst e h bs ds Q ([]) (Mw (ev e.get c) (ev e.get x) (ev e.get y)):=by
 simp only[Az,evalOp,BZ,FC,Dh,Op.operands,List.flatMap_cons,List.flatMap_nil,List.append_nil]
theorem vw(t:TypeId):Bk C K fr ops b n al ps fps l i Q (Az C K fr ρ (.alloc t) dst ⟨e,h,bs,ds⟩)=DD C K fr ops b n al ps fps l i dst e h bs ds Q ([]) (JL ρ (C.T t)):=by
 simp only[Az,evalOp,BZ,FC,Dh,Op.operands,List.flatMap_cons,List.flatMap_nil,List.append_nil]
theorem ACW(t:TypeId)(x:Operand):Bk C K fr ops b n al ps fps l i Q (Az C K fr ρ (.box t x) dst ⟨e,h,bs,ds⟩)=DD C K fr ops b n al ps fps l i dst e h bs ds Q ([]) (Pc ρ (ev e.get x) (C.T t)):=by
 simp only[Az,evalOp,BZ,FC,Dh,Op.operands,List.flatMap_cons,List.flatMap_nil,List.append_nil]
theorem v5(t:TypeId)(p:Array (Nat×Operand)):Bk C K fr ops b n al ps fps l i Q (Az C K fr ρ (.build t p) dst ⟨e,h,bs,ds⟩)=DD C K fr ops b n al ps fps l i dst e h bs ds Q ([]) (JM (Di e.get p) (C.T t)):=by
 simp only[Az,evalOp,BZ,FC,Dh,Op.operands,List.flatMap_cons,List.flatMap_nil,List.append_nil]
theorem VA(t:TypeId)(m:Nat)(p:Array (Nat×Operand)):Bk C K fr ops b n al ps fps l i Q (Az C K fr ρ (.buildSlice t m p) dst ⟨e,h,bs,ds⟩)=DD C K fr ops b n al ps fps l i dst e h bs ds Q (FC e.get h.get (.buildSlice t m p)) (CN C.T h.get ρ m (Di e.get p) (C.T t)):=by
 simp only[Az,evalOp,BZ]
theorem AAR(t:TypeId)(a:Operand):Bk C K fr ops b n al ps fps l i Q (Az C K fr ρ (.load t a) dst ⟨e,h,bs,ds⟩)=DD C K fr ops b n al ps fps l i dst e h bs ds Q (AE (ev e.get a)) (KR h.get (ev e.get a) (C.T t)):=by
 simp only[Az,evalOp,BZ,FC,Dh,Op.operands,List.flatMap_cons,List.flatMap_nil,List.append_nil]
theorem v8(t:TypeId)(a x:Operand):Bk C K fr ops b n al ps fps l i Q (Az C K fr ρ (.store t a x) dst ⟨e,h,bs,ds⟩)=DD C K fr ops b n al ps fps l i dst e h bs ds Q (AE (ev e.get a)++AE (ev e.get x)) (Ho h.get (ev e.get a) (ev e.get x) (C.T t)):=by
 simp only[Az,evalOp,BZ,FC,Dh,Op.operands,List.flatMap_cons,List.flatMap_nil,List.append_nil]
theorem aB(x:Operand):Bk C K fr ops b n al ps fps l i Q (Az C K fr ρ (.nilCheck x) dst ⟨e,h,bs,ds⟩)=DD C K fr ops b n al ps fps l i dst e h bs ds Q ([]) (FX (ev e.get x)):=by
 simp only[Az,evalOp,BZ,FC,Dh,Op.operands,List.flatMap_cons,List.flatMap_nil,List.append_nil]
theorem vz(op:BinOp)(t:TypeId)(x y:Operand)(u:TypeId):Bk C K fr ops b n al ps fps l i Q (Az C K fr ρ (.binOp op t x y u) dst ⟨e,h,bs,ds⟩)=DD C K fr ops b n al ps fps l i dst e h bs ds Q ([]) ((fu (Xz x||Xz y) op (ev e.get x) (ev e.get y) (C.T t)).map (⟨·,[]⟩)):=by
 simp only[Az,evalOp,BZ,FC,Dh,Op.operands,List.flatMap_cons,List.flatMap_nil,List.append_nil]
theorem aA(f:Fn)(first cap:Array Operand):Bk C K fr ops b n al ps fps l i Q (Az C K fr ρ (.makeFunc f first cap) dst ⟨e,h,bs,ds⟩)=DD C K fr ops b n al ps fps l i dst e h bs ds Q ([]) (FW f (first.toList.map (ev e.get)) (cap.toList.map (ev e.get))):=by
 simp only[Az,evalOp,BZ,FC,Dh,Op.operands,List.flatMap_cons,List.flatMap_nil,List.append_nil]
theorem XK(t:TypeId)(x y:Operand):Bk C K fr ops b n al ps fps l i Q (Az C K fr ρ (.makeSlice t x y) dst ⟨e,h,bs,ds⟩)=DD C K fr ops b n al ps fps l i dst e h bs ds Q ([]) (CW C.T h.get ρ (ev e.get x) (ev e.get y) (C.T t)):=by
 simp only[Az,evalOp,BZ,FC,Dh,Op.operands,List.flatMap_cons,List.flatMap_nil,List.append_nil]
theorem XI(t:TypeId)(x:Operand)(k:Nat):Bk C K fr ops b n al ps fps l i Q (Az C K fr ρ (.fieldAddr t x k) dst ⟨e,h,bs,ds⟩)=DD C K fr ops b n al ps fps l i dst e h bs ds Q ([]) (Dw k (ev e.get x) (C.T t)):=by
 simp only[Az,evalOp,BZ,FC,Dh,Op.operands,List.flatMap_cons,List.flatMap_nil,List.append_nil]
theorem XJ(t:TypeId)(x y:Operand):Bk C K fr ops b n al ps fps l i Q (Az C K fr ρ (.indexAddr t x y) dst ⟨e,h,bs,ds⟩)=DD C K fr ops b n al ps fps l i dst e h bs ds Q (AE (ev e.get x)++AE (ev e.get y)) (Cl C.T h.get (ev e.get x) (ev e.get y) (C.T t)):=by
 simp only[Az,evalOp,BZ,FC,Dh,Op.operands,List.flatMap_cons,List.flatMap_nil,List.append_nil]
theorem iL(f:Builtin)(az:Array Operand)(ts:Array TypeId):Bk C K fr ops b n al ps fps l i Q (Az C K fr ρ (.call ⟨.builtin f,az,ts⟩) dst ⟨e,h,bs,ds⟩)=DD C K fr ops b n al ps fps l i dst e h bs ds Q (FC e.get h.get (.call ⟨.builtin f,az,ts⟩)) (Ff C.T h.get ρ f (az.toList.map (ev e.get)) ts.toList):=by
 simp only[Az,JZ,BZ]
theorem v7(x:Operand):Bk C K fr ops b n al ps fps l i Q (Az C K fr ρ (.panic x) dst ⟨e,h,bs,ds⟩)=Bk C K fr ops b n al ps fps l i Q (FH ⟨e,h,bs,ds⟩ (ev e.get x)):=rfl
def C6(C:CG)(K:AL)(fr:Fr)(ops:Array Oper)(b n:Nat)(al:Nat→Bool)(ps:List (Nat×Nat))(fps:List Fp)(l:List Oper)(i:Nat)(az:List AV)(dst:Option Tmp)(e:BS)(h:AB)(bs:Nat)(ds:List Df)(Q:DX→St→Prop)(r:E (AZ×AB)):Prop:=
 Bk C K fr ops b n al ps fps l i Q (C5 fr az dst ⟨e,h,bs,ds⟩ r)
def Wb(C:CG)(K:AL)(fr:Fr)(ops:Array Oper)(b n:Nat)(al:Nat→Bool)(ps:List (Nat×Nat))(fps:List Fp)(l:List Oper)(i:Nat)(dst:Option Tmp)(ρ:List Nat)(e:BS)(h:AB)(bs:Nat)(ds:List Df)(Q:DX→St→Prop)(args:List AV):AV→Prop
 |fv=>Bk C K fr ops b n al ps fps l i Q (Da C K fr ρ fv args dst ⟨e,h,bs,ds⟩)
theorem wA(f:Operand)(az:Array Operand)(ts:Array TypeId):Bk C K fr ops b n al ps fps l i Q (Az C K fr ρ (.call ⟨.value f,az,ts⟩) dst ⟨e,h,bs,ds⟩)=Wb C K fr ops b n al ps fps l i dst ρ e h bs ds Q (az.toList.map (ev e.get)) (ev e.get f):=rfl
def Ka(C:CG)(K:AL)(fr:Fr)(ops:Array Oper)(b n:Nat)(al:Nat→Bool)(ps:List (Nat×Nat))(fps:List Fp)(l:List Oper)(i:Nat)(dst:Option Tmp)(ρ:List Nat)(e:BS)(h:AB)(bs:Nat)(ds:List Df)(Q:DX→St→Prop)(f:FuncId)(az:List AV)(m:Mode):Prop:=
 Bk C K fr ops b n al ps fps l i Q (DB K fr ρ f az dst ⟨e,h,bs,ds⟩ m)
theorem pF(f:FuncId)(first cap args:List AV):Wb C K fr ops b n al ps fps l i dst ρ e h bs ds Q args (.fn f first cap)=Ka C K fr ops b n al ps fps l i dst ρ e h bs ds Q f (first++args++cap) (C.mode f):=by
 simp only[Wb,Ka,Da,A6]
def il(C:CG)(K:AL)(fr:Fr)(ops:Array Oper)(b n:Nat)(al:Nat→Bool)(ps:List (Nat×Nat))(fps:List Fp)(l:List Oper)(i:Nat)(dst:Option Tmp)(e:BS)(h:AB)(bs:Nat)(ds:List Df)(Q:DX→St→Prop)(f:FuncId)(az:List AV)(own:List Nat):Option (List AV)→Prop
 |some xs=>C6 C K fr ops b n al ps fps l i az dst e h bs ds Q (K (.fn f) xs [] own false none)
 |none=>False
theorem bm(f:FuncId)(az:List AV)(hx:(DT h.get az).isSome):Ka C K fr ops b n al ps fps l i dst ρ e h bs ds Q f az .auto=il C K fr ops b n al ps fps l i dst e h bs ds Q f az [] (DT h.get az):=by
 obtain⟨xs,hx⟩:=Option.isSome_iff_exists.1 hx;simp only[Ka,DB,hx,A6,il,C6]
theorem lL(f:FuncId)(az:List AV)(hx:(DT h.get az).isSome):Ka C K fr ops b n al ps fps l i dst ρ e h bs ds Q f az .own=il C K fr ops b n al ps fps l i dst e h bs ds Q f az ρ (DT h.get az):=by
 obtain⟨xs,hx⟩:=Option.isSome_iff_exists.1 hx;simp only[Ka,DB,hx,A6,il,C6]
theorem iq(f:FuncId)(az:List AV)(own:List Nat)(xs:List AV):il C K fr ops b n al ps fps l i dst e h bs ds Q f az own (some xs)=C6 C K fr ops b n al ps fps l i az dst e h bs ds Q (BM K f xs own):=by
 simp only[il,C6,Pf]
theorem dJ(az:List AV)(v:AV)(h':AB)(hv:flat v=true):C6 C K fr ops b n al ps fps l i az dst e h bs ds Q (.ok (.ret v,h'))=Fi C K fr ops b n al ps (fps++[⟨some (CX h.get (Al az)),some []⟩]) l (i+1) ⟨CD e dst v,h,bs,ds⟩ Q:=by
 simp only[C6,C5,Av,hv,Bk]
theorem UF(az:List AV)(v:AV)(h':AB)(hv:flat v=true):C6 C K fr ops b n al ps fps l i az dst e h bs ds Q (.ok (.pan v,h'))=(al i=true∧DI fps ps=true∧Q (.pan v) ⟨e,h,b+n,ds⟩):=by
 simp only[C6,C5,hv,Bk]
theorem mO(az:List AV)(v:AV)(h':AB)(x:Id×Obj)(hv:flat v=false)(hx:BL v h'=some x):C6 C K fr ops b n al ps fps l i az dst e h bs ds Q (.ok (.ret v,h'))=Fi C K fr ops b n al ps (fps++[⟨some (CX h.get (Al az)),some [x.1]⟩]) l (i+1) ⟨CD e dst v,x::h,bs,ds⟩ Q:=by
 simp only[C6,C5,Av,hv,G1,hx,Aa,Bk]
theorem UE(az:List AV)(v:AV)(h':AB)(hv:flat v=false)(hx:BL v h'=none):C6 C K fr ops b n al ps fps l i az dst e h bs ds Q (.ok (.ret v,h'))=(JS fr.prot (az.flatMap (mark h.get))=true∧Fi C K fr ops b n al ps (fps++[⟨some (CX h.get (Al az)),some ((az.flatMap (mark h.get)).map (·.1)++h'.map (·.1))⟩]) l (i+1) ⟨CD e dst v,h'++h.puts (az.flatMap (mark h.get)),bs,ds⟩ Q):=by
 simp only[C6,C5,Av,hv,G1,hx,Aa,BT];cases hw:JS fr.prot (az.flatMap (mark h.get))<;>simp[Bk]
end
theorem mJ{α:Type}{f:α→List AW}{l':List α}{sz j:Nat}{dst:Option Tmp}{rd:List Id}(hj:j<l'.length)(hx: ∀x,l'[j]? =some x→DD C K fr ops b n al ps fps l i dst e h bs ds Q rd (RM sz (some (f x)))):DD C K fr ops b n al ps fps l i dst e h bs ds Q rd (RM sz (Option.map f l'[j]?)):=by
 have:=hx l'[j] (List.getElem?_eq_getElem hj)
 rwa [List.getElem?_eq_getElem hj]
theorem Yi(fps:List Fp):DI fps []=true:=rfl
def oo:Option Fp→Option Fp→Bool
 |some a,some c=>a.apart c
 |_,_=>true
theorem WI(a c:Fp):oo (some a) (some c)=a.apart c:=rfl
theorem Vc(fps:List Fp)(i j:Nat)(l:List (Nat×Nat)):DI fps ((i,j)::l)=(oo fps[i]? fps[j]? &&DI fps l):=by
 simp only[DI,List.all_cons];rfl
theorem W9(g:G):CX g []=[]:=rfl
theorem ff(x:Option (List Id)):Abs.apart (some []) x=true:=by cases x<;>simp[Abs.apart]
theorem Zf(x:Option (List Id)):Abs.apart x (some [])=true:=by
 unfold Abs.apart;split<;>first|rfl|simp_all
theorem Sr(g:G)(e:Nat→AV)(t:TypeId)(m:Nat)(p:Array (Nat×Operand)):FC e g (.buildSlice t m p)=(p.toList.map (·.2)).flatMap fun y=>AE (ev e y):=by
 simp only[FC,Dh,Op.operands]
theorem ABT(g:G)(e:Nat→AV)(az:Array Operand)(ts:Array TypeId):FC e g (.call ⟨.builtin .len,az,ts⟩)=az.toList.flatMap fun y=>AE (ev e y):=by
 simp[FC,Dh,Op.operands,Call.operands]
theorem me(g:G)(e:Nat→AV)(az:Array Operand)(ts:Array TypeId):FC e g (.call ⟨.builtin .append,az,ts⟩)=CX g (az.toList.flatMap fun y=>AE (ev e y)):=by
 simp[FC,Dh,Op.operands,Call.operands]
theorem ABU(g:G)(e:Nat→AV)(az:Array Operand)(ts:Array TypeId):FC e g (.call ⟨.builtin .max,az,ts⟩)=[]:=rfl
theorem ABV(g:G)(e:Nat→AV)(az:Array Operand)(ts:Array TypeId):FC e g (.call ⟨.builtin .min,az,ts⟩)=[]:=rfl
attribute [go_sem] UF UE
attribute [go_sem] so s9 jO jL jN jM bC lY LH dG AAS qE AAT vw ACW v5 VA AAR v8 aB vz aA XK XI XJ iL v7 wA pF bm lL iq dJ Yi WI Vc W9 ff Zf Sr ABT me ABU ABV Fp.apart List.flatMap_cons List.flatMap_nil
end Go.Abs
namespace Go.Abs
variable{P:Program}{C:CG}{K:AL}{fr:Fr}{b n i:Nat}{Q:DX→St→Prop}
variable{ops:Array Oper}{al:Nat→Bool}{l:List Oper}{e:BS}{h:AB}{bs:Nat}{ds:List Df}
theorem is_iff: ∀{a b:Id},Id.is a b=true↔a=b:=fun{a b}=>⟨Id.is_eq,fun h=>by subst h;exact is_self a⟩
theorem AD{a b:Id}(h:a≠b):Id.is a b=false:=by
 cases hx:Id.is a b with
 |false=>rfl
 |true=>exact absurd (is_iff.1 hx) h
theorem under_iff{ρ:Id}: ∀{id:Id},Id.under ρ id=true↔ρ<:+id
 |[]=>by
  simp only[Id.under,is_iff,List.suffix_nil]
 |m::l=>by
  rw[List.suffix_cons_iff];unfold Id.under;cases hx:Id.is ρ (m::l)with
  |true=>simp[is_iff.1 hx]
  |false=>
   have:ρ≠m::l:=fun h=>by rw[is_iff.2 h]at hx;cases hx
   simp only[this,false_or];exact under_iff
theorem DW{ρ id:Id}(h: ¬ρ<:+id):Id.under ρ id=false:=by
 cases hx:Id.under ρ id with
 |false=>rfl
 |true=>exact absurd (under_iff.1 hx) h
theorem get_put(h:AB)(id:Id)(o:Obj)(id':Id):AB.get (AB.put h id o) id'=if Id.is id id'=true then some o else AB.get h id':=by
 induction h with
 |nil=>simp only[fP,BN]
 |cons p h ih=>
  obtain⟨k,x⟩:=p;rw[Yu];by_cases hk:Id.is k id=true
  .rw[if_pos hk,BN,BN];have:=is_iff.1 hk;subst this;split<;>rfl
  .rw[if_neg hk,BN,BN,ih];by_cases h1:Id.is k id'=true
   .rw[if_pos h1,if_pos h1];have:=is_iff.1 h1;subst this;rw[if_neg fun h2=>hk (is_iff.2 (is_iff.1 h2).symm)]
   .rw[if_neg h1,if_neg h1]
theorem Q6(q:Id→Bool)(h:AB)(id:Id)(hq:q id=true):AB.get (List.filter (fun p=>q p.1) h) id=AB.get h id:=by
 induction h with
 |nil=>rfl
 |cons p h ih=>
  obtain⟨k,x⟩:=p;rw[BN,List.filter_cons];by_cases hk:Id.is k id=true
  .have:=is_iff.1 hk;subst this;simp only[hq,if_true,BN,hk]
  .rw[if_neg hk,←ih];split
   .rw[BN,if_neg hk]
   .rfl
theorem AU(ρ:List Nat)(h:AB)(id:Id)(hid:Id.under ρ id=false):AB.get (gc ρ h) id=AB.get h id:=by
 refine Q6 (fun id=>match id with|0::l=> !Id.under ρ l|_=>true) h id ?_
 split
 .rename_i l;have: ¬ρ<:+l:=fun h1=>by
   have:=under_iff.2 (h1.trans (List.suffix_cons 0 l));rw[hid]at this;cases this
  rw[DW this];rfl
 .rfl
def So(C:CG)(K:AL)(fr:Fr)(ops:Array Oper)(b n:Nat)(al:Nat→Bool)(l:List Oper)(i:Nat)(dst:Option Tmp)(ρ:List Nat)(e:BS)(h:AB)(bs:Nat)(ds:List Df)(Q:DX→St→Prop):E (AZ×AB)→Prop
 |.ok (.ret v,h')=>E3 C K fr ops b n al l (i+1) ⟨CD e dst v,gc ρ h',bs,ds⟩ Q
 |.ok (.pan v,h')=>al i=true∧Q (.pan v) ⟨e,gc ρ h',b+n,ds⟩
 |.err _=>False
theorem O6(dst:Option Tmp)(ρ:List Nat)(r:E (AZ×AB)):BF C K fr ops b n al l i Q (De ρ dst ⟨e,h,bs,ds⟩ r)=So C K fr ops b n al l i dst ρ e h bs ds Q r:=by
 cases r with
 |err l=>rfl
 |ok r=>
  obtain⟨o,h'⟩:=r;cases o<;>simp only[De,Av,Aa,BF,So]
theorem tG(dst:Option Tmp)(ρ:List Nat)(v:AV)(h':AB):So C K fr ops b n al l i dst ρ e h bs ds Q (.ok (.ret v,h'))=E3 C K fr ops b n al l (i+1) ⟨CD e dst v,gc ρ h',bs,ds⟩ Q:=rfl
theorem tF(dst:Option Tmp)(ρ:List Nat)(v:AV)(h':AB):So C K fr ops b n al l i dst ρ e h bs ds Q (.ok (.pan v,h'))=(al i=true∧Q (.pan v) ⟨e,gc ρ h',b+n,ds⟩):=rfl
theorem lP(dst:Option Tmp)(ρ:List Nat)(f:FuncId)(az:List AV):Kb C K fr ops b n al l i dst ρ e h bs ds Q f az .raw=So C K fr ops b n al l i dst ρ e h bs ds Q (K (.fn f) az h ρ true fr.prot):=by
 simp only[Kb,DB,O6]
theorem Ab{Post:AZ→AB→Prop}{dst:Option Tmp}{ρ:List Nat}{q:E (AZ×AB)}(hk: ∃o h',q=.ok (o,h')∧Post o h')(hn: ∀o h',Post o h'→So C K fr ops b n al l i dst ρ e h bs ds Q (.ok (o,h'))):So C K fr ops b n al l i dst ρ e h bs ds Q q:=by
 obtain⟨o,h',e,hp⟩:=hk;rw[e];exact hn o h' hp
def tw(v:AV):Option AV→AV
 |some u=>u
 |none=>v
theorem tx(g:G):LY g []=[]:=rfl
theorem nh(g:G)(v:AV)(vs:List AV):LY g (v::vs)=tw v (EF g v)::LY g vs:=by
 simp only[LY,List.map_cons];cases EF g v<;>rfl
theorem eD(v u:AV):tw v (some u)=u:=rfl
theorem eC(v:AV):tw v none=v:=rfl
theorem bp(dst:Option Tmp)(ρ:List Nat)(f:FuncId)(az:List AV)(hx:(DT h.get az).isNone):Kb C K fr ops b n al l i dst ρ e h bs ds Q f az .auto=(JS fr.prot (az.flatMap (mark h.get))=true∧So C K fr ops b n al l i dst ρ e h bs ds Q (K (.fn f) (LY h.get az) (h.puts (az.flatMap (mark h.get))) ρ true fr.prot)):=by
 have hx:DT h.get az=none:=by simpa using hx
 simp only[Kb,DB,hx,EW,A6,BT,Aa];cases hw:JS fr.prot (az.flatMap (mark h.get))with
 |true=>simp only[O6,true_and]
 |false=>simp[BF]
def roP(C:CG)(K:AL)(fr:Fr)(ops:Array Oper)(b n:Nat)(al:Nat→Bool)(l:List Oper)(i:Nat)(dst:Option Tmp)(e:BS)(h:AB)(bs:Nat)(ds:List Df)(Q:DX→St→Prop):E (AZ×AB)→Prop
 |.ok (.ret v,_)=>flat v=true∧E3 C K fr ops b n al l (i+1) ⟨CD e dst v,h,bs,ds⟩ Q
 |.ok (.pan v,_)=>flat v=true∧al i=true∧Q (.pan v) ⟨e,h,b+n,ds⟩
 |.err _=>False
theorem sU(dst:Option Tmp)(ρ:List Nat)(f:FuncId)(az:List AV)(hx:(DT h.get az).isNone):Kb C K fr ops b n al l i dst ρ e h bs ds Q f az .ro=roP C K fr ops b n al l i dst e h bs ds Q (K (.fn f) (LY h.get az) (h.puts (az.flatMap (mark h.get))) ρ true (some ρ)):=by
 have hx:DT h.get az=none:=by simpa using hx
 simp only[Kb,DB,hx,EW,A6,BT,Aa];cases K (.fn f) (LY h.get az) (h.puts (az.flatMap (mark h.get))) ρ true (some ρ)with
 |err l=>rfl
 |ok r=>
  obtain⟨o,h'⟩:=r;cases o<;>simp only[N3,roP,Av]<;>split<;>simp_all [BF]
theorem AAj(g:G)(x:AW):mark g (.d x)=[]:=rfl
theorem lF(g:G):mark g .nils=[]:=rfl
theorem sO(g:G):mark g .emp=[]:=rfl
theorem sR(g:G)(id:Id)(off:Nat):mark g (.ptr id off)=[]:=rfl
theorem xO(g:G)(f:FuncId)(a c:List AV):mark g (.fn f a c)=[]:=rfl
theorem xP(g:G)(id:Id):mark g (.mp id)=[]:=rfl
theorem sQ(g:G)(id:Id)(off m:Nat):mark g (.osl id off m)=Ew g (.osl id off m):=by simp only[mark,Jw,List.flatMap_cons,List.flatMap_nil,List.append_nil]
def sL(g:G):List AV→AB
 |[]=>[]
 |v::vs=>Ew g v++sL g vs
theorem sN(g:G)(cs:List AV):mark g (.agg cs)=sL g cs:=by
 simp only[mark,Jw];induction cs with
 |nil=>rfl
 |cons v vs ih=>rw[List.flatMap_cons,ih];rfl
theorem xM(g:G)(x:AW):Ew g (.d x)=[]:=rfl
theorem bd(g:G):Ew g .nils=[]:=rfl
theorem ko(g:G):Ew g .emp=[]:=rfl
theorem kr(g:G)(id:Id)(off:Nat):Ew g (.ptr id off)=[]:=rfl
theorem nk(n:Nat)(ρ:Id):Id.under (n::ρ) []=false:=DW (by simp)
theorem eE(ρ:Id)(n:Nat)(l:Id):Id.under ρ (n::l)=if Id.is ρ (n::l)=true then true else Id.under ρ l:=by
 conv=>lhs;unfold Id.under
 cases Id.is ρ (n::l)<;>rfl
theorem ZT(n:Nat)(ρ:Id):Id.under (n::ρ) ρ=false:=DW fun h=>by
 have:=h.length_le;simp at this;omega
theorem AF{ρ id:Id}(h:Id.under ρ id=false)(n:Nat):Id.under (n::ρ) id=false:=DW fun h1=>by
 rw[under_iff.2 ((List.suffix_cons n ρ).trans h1)]at h;cases h
theorem AG{ρ id:Id}(h:Id.under ρ id=false)(a n:Nat):Id.is (a::n::ρ) id=false:=AD fun h1=>by
 subst h1;rw[under_iff.2 ((List.suffix_cons n ρ).trans (List.suffix_cons a _))]at h;cases h
theorem Ar{ρ id:Id}(h:Id.under ρ id=false)(a n:Nat):Id.is id (a::n::ρ)=false:=AD fun h1=>by
 subst h1;rw[under_iff.2 ((List.suffix_cons n ρ).trans (List.suffix_cons a _))]at h;cases h
theorem AAd(ρ:List Nat):gc ρ []=[]:=rfl
theorem wq(ρ:List Nat)(l:Id)(o:Obj)(h:AB):gc ρ ((0::l,o)::h)=if Id.under ρ l=true then gc ρ h else(0::l,o)::gc ρ h:=by
 simp only[gc,List.filter_cons];cases Id.under ρ l<;>rfl
theorem AAe(ρ:List Nat)(l:Id)(o:Obj)(h:AB):gc ρ ((1::l,o)::h)=(1::l,o)::gc ρ h:=rfl
attribute [go_sem] AAd wq AAe
def Uy(C:CG)(K:AL)(fr:Fr)(ops:Array Oper)(b n:Nat)(al:Nat→Bool)(l:List Oper)(i:Nat)(dst:Option Tmp)(e:BS)(h:AB)(bs:Nat)(ds:List Df)(Q:DX→St→Prop)(az:List AV):AV→Prop
 |.fn g [] []=>E3 C K fr ops b n al l (i+1) ⟨CD e dst .undef,h,bs,.call g az::ds⟩ Q
 |_=>False
theorem ZL(dst:Option Tmp)(f:Operand)(az:Array Operand)(ts:Array TypeId)(hr:fr.rnd=false):BF C K fr ops b n al l i Q (Gv fr e.get ⟨.value f,az,ts⟩ dst ⟨e,h,bs,ds⟩)=Uy C K fr ops b n al l i dst e h bs ds Q (az.toList.map (ev e.get)) (ev e.get f):=by
 simp only[Gv,hr];cases ev e.get f with
 |fn g a c=>
  cases a with
  |nil=>cases c<;>simp only[Uy,BF]
  |cons x l=>simp only[Uy,BF]
 |_=>rfl
theorem gl(dst:Option Tmp)(az:List AV)(g:FuncId):Uy C K fr ops b n al l i dst e h bs ds Q az (.fn g [] [])=E3 C K fr ops b n al l (i+1) ⟨CD e dst .undef,h,bs,.call g az::ds⟩ Q:=rfl
def bM(C:CG)(prot:Option (List Nat))(l:List Df)(h:AB)(id:Id):Option (List AV)→E (Option AV×AB)
 |some cs=>Cr C prot l none (h.put id (.box cs))
 |none=>.err [20]
def VQ(C:CG)(prot:Option (List Nat))(l:List Df)(h:AB)(id:Id)(off:Nat)(k:IntKind)(m:Int):Option Obj→E (Option AV×AB)
 |some (.box cs)=>bM C prot l h id (Bm cs off [.d (.int k m)])
 |_=>.err [21]
theorem Nj{prot:Option (List Nat)}{l:List Df}{h:AB}{f:FuncId}{t:TypeId}{id:Id}{off:Nat}{k:IntKind}{m:Int}(hc:C.caught f=some t)(hw:JS prot [(id,.box [])]=true):Cr C prot (.call f [.ptr id off]::l) (some (.iface t (.agg [.d (.int k m)]))) h=VQ C prot l h id off k m (h.get id):=by
 simp only[Cr,hc,hw,Nat.beq_refl,Bool.and_true,VQ,bM];cases h.get id with
 |none=>rfl
 |some o=>cases o with
  |box cs=>simp only;cases Bm cs off [.d (.int k m)]<;>rfl
  |_=>rfl
theorem bN{prot:Option (List Nat)}{l:List Df}{h:AB}{f:FuncId}{id:Id}{off:Nat}(hc:(C.caught f).isSome=true):Cr C prot (.call f [.ptr id off]::l) none h=Cr C prot l none h:=by
 obtain⟨t,ht⟩:=Option.isSome_iff_exists.1 hc;simp only[Cr,ht]
attribute [go_sem] ZL gl VQ bM Nj bN
attribute [go_sem] KP HD FW Gg G0 HC appMix
attribute [go_sem] AU nk eE ZT
attribute [go_sem] get_put tG tF lP tx nh eD eC bp Option.isNone_some Option.isNone_none sU AAj lF sO sR xO xP sN sL xM bd ko kr
end Go.Abs
namespace Go.Abs
def qg:Option (List AW)→Option (List (List AW))→Option (List (List AW))
 |some x,some xs=>some (x::xs)
 |_,_=>none
theorem Xh(x:List AW)(xs:List (List AW)):qg (some x) (some xs)=some (x::xs):=rfl
theorem ik(g:G):Cj g []=some []:=rfl
theorem Q5(g:G)(v:List AV)(vs:List (List AV)):Cj g (v::vs)=qg (Cb g v) (Cj g vs):=by
 simp only[Cj];cases Cb g v<;>cases Cj g vs<;>rfl
def qZ:Option AW→Option (List AW)→Option (List AW)
 |some x,some xs=>some (x::xs)
 |_,_=>none
theorem Xd(x:AW)(xs:List AW):qZ (some x) (some xs)=some (x::xs):=rfl
theorem ie(g:G):Cb g []=some []:=rfl
theorem Q3(g:G)(v:AV)(vs:List AV):Cb g (v::vs)=qZ (Ea g v) (Cb g vs):=by
 simp only[Cb];cases Ea g v<;>cases Cb g vs<;>rfl
def qi(off m:Nat):Option Obj→Option AW
 |some (.darr _ es)=>(Iw es off m).map .lst
 |some (.fro _ es)=>(Iw es off m).map .lst
 |_=>none
theorem qY(g:G)(id:Id)(off m:Nat):Ea g (.osl id off m)=qi off m (g id):=by
 simp only[Ea];cases g id with
 |none=>rfl
 |some o=>cases o<;>rfl
theorem ah(off m sz:Nat)(es:List (List AW)):qi off m (some (.darr sz es))=(Iw es off m).map .lst:=rfl
theorem iu(off m sz:Nat)(es:List (List AW)):qi off m (some (.fro sz es))=(Iw es off m).map .lst:=rfl
theorem Q4(g:G)(l:List AW):Cb g (l.map .d)=some l:=by
 induction l with
 |nil=>rfl
 |cons x l ih=>rw[List.map_cons,Q3,ih];rfl
theorem IW(g:G)(l:List (List AW)):Cj g (l.map (·.map .d))=some l:=by
 induction l with
 |nil=>rfl
 |cons x l ih=>rw[List.map_cons,Q5,ih,Q4];rfl
theorem bh(g:G):Bd g []=[]:=rfl
theorem PT(g:G)(v:AV)(vs:List AV):Bd g (v::vs)=JI g v++Bd g vs:=rfl
theorem xN(g:G)(x:AW):JI g (.d x)=[]:=rfl
theorem bg(g:G):JI g .nils=[]:=rfl
theorem kv(g:G):JI g .emp=[]:=rfl
def sM(id:Id):Option Obj→AB
 |some (.darr sz es)=>[(id,.fro sz es)]
 |_=>[]
theorem lB(g:G)(id:Id)(off m:Nat):JI g (.osl id off m)=sM id (g id):=by
 simp only[JI];cases g id with
 |none=>rfl
 |some o=>cases o<;>rfl
theorem bj(id:Id)(sz:Nat)(es:List (List AW)):sM id (some (.darr sz es))=[(id,.fro sz es)]:=rfl
theorem lD(id:Id)(sz:Nat)(es:List (List AW)):sM id (some (.fro sz es))=[]:=rfl
theorem PV(g:G)(l:List AW):Bd g (l.map .d)=[]:=by
 induction l with
 |nil=>rfl
 |cons x l ih=>rw[List.map_cons,PT,ih];rfl
theorem HA(g:G)(l:List (List AW)):(l.map (·.map AV.d)).flatMap (Bd g)=[]:=by
 induction l with
 |nil=>rfl
 |cons x l ih=>rw[List.map_cons,List.flatMap_cons,ih,PV];rfl
def ER(sz:Nat):List (List AV)→Bool
 |[]=>true
 |e::es=>decide (e.length=sz)&&(e.all AV.isCell&&ER sz es)
theorem ZF(sz:Nat):ER sz []=true:=by simp only[ER]
theorem Hp(sz:Nat)(e:List AV)(es:List (List AV)):ER sz (e::es)=(decide (e.length=sz)&&(e.all AV.isCell&&ER sz es)):=by simp only[ER]
theorem M1(sz:Nat)(es:List (List AV)):(es.all fun e=>e.length==sz&&e.all AV.isCell)=ER sz es:=by
 induction es with
 |nil=>rfl
 |cons e es ih=>rw[List.all_cons,ih,Hp,Bool.and_assoc];rfl
theorem Zz(l:List AW):(l.map AV.d).all AV.isCell=true:=by
 induction l with
 |nil=>rfl
 |cons x l ih=>rw[List.map_cons,List.all_cons,ih];rfl
def ABI(newId:Id)(sz n:Nat)(marks:AB):Option (List (List AW))→Option Bz
 |some ds=>some ⟨.osl (1::newId) 0 n,marks++[(1::newId,.darr sz ds)]⟩
 |none=>none
def sY(g:G)(newId:Id)(sz:Nat)(es:List (List AV)):Bool→Option Bz
 |true=>some ⟨.osl (1::newId) 0 es.length,[(1::newId,.arr sz es)]⟩
 |false=>ABI newId sz es.length (es.flatMap (Bd g)) (Cj g es)
def ABH(g:G)(newId:Id)(sz:Nat)(mix:Bool)(es:List (List AV)):Bool→Option Bz
 |true=>sY g newId sz es mix
 |false=>none
theorem Ts(g:G)(newId:Id)(j:TI)(es:List (List AV)):newArr g newId j es=ABH g newId j.size j.mix es (ER j.size es&&decide (0<j.size)&&decide (es.length≤A4)):=by
 unfold newArr;rw[M1,Fs,Um];cases(ER j.size es&&decide (0<j.size)&&decide (es.length≤A4))with
 |false=>rfl
 |true=>
  simp only[ABH];cases j.mix with
  |true=>rfl
  |false=>simp only[sY];cases Cj g es<;>rfl
theorem Tr(g:G)(newId:Id)(sz:Nat)(mix:Bool)(es:List (List AV)):ABH g newId sz mix es true=sY g newId sz es mix:=rfl
theorem lU(g:G)(newId:Id)(sz:Nat)(es:List (List AV)):sY g newId sz es true=some ⟨.osl (1::newId) 0 es.length,[(1::newId,.arr sz es)]⟩:=rfl
theorem RU(g:G)(newId:Id)(sz:Nat)(es:List (List AV)):sY g newId sz es false=ABI newId sz es.length (es.flatMap (Bd g)) (Cj g es):=rfl
theorem Tt(newId:Id)(sz n:Nat)(marks:AB)(ds:List (List AW)):ABI newId sz n marks (some ds)=some ⟨.osl (1::newId) 0 n,marks++[(1::newId,.darr sz ds)]⟩:=rfl
def Zl(g:G)(newId:Id)(j:TI)(n:Nat):Option (List AV)→Option Bz
 |some cs=>if n*j.size≤16777216∧j.zero.length=j.size then newArr g newId j (Fx j.size n cs)else none
 |none=>none
theorem Sb(g:G)(newId:Id)(j:TI):Ft g newId 0 [] j=some ⟨.emp,[]⟩:=rfl
theorem Sa(g:G)(newId:Id)(n:Nat)(ps:List (Nat×AV))(j:TI):Ft g newId (n+1) ps j=Zl g newId j (n+1) (CQ (fun k=>some (k*j.size,j.size)) ((List.replicate (n+1) j.zero).flatten) ps):=by
 unfold Ft;cases CQ (fun k=>some (k*j.size,j.size)) ((List.replicate (n+1) j.zero).flatten) ps with
 |none=>rfl
 |some cs=>
  simp only[Zl,Fs];have e:(2 ^ 24:Nat)=16777216:=by decide
  rw[e];by_cases h1:(n+1)*j.size≤16777216
  .by_cases h2:j.zero.length=j.size
   .simp[h1,h2]
   .have h3:(j.zero.length==j.size)=false:=by simpa using h2
    simp[h1,h2,h3]
  .simp[h1]
theorem Wa(g:G)(newId:Id)(j:TI)(n:Nat)(cs:List AV):Zl g newId j n (some cs)=if n*j.size≤16777216∧j.zero.length=j.size then newArr g newId j (Fx j.size n cs)else none:=rfl
def ou(s:AV):Option Bz:=match s with
 |.nils=>some ⟨.nils,[]⟩
 |.emp=>some ⟨.emp,[]⟩
 |.osl id off n=>some ⟨.osl id off n,[]⟩
 |_=>none
theorem fg:ou .nils=some ⟨.nils,[]⟩:=rfl
theorem ov:ou .emp=some ⟨.emp,[]⟩:=rfl
theorem WQ(id:Id)(off n:Nat):ou (.osl id off n)=some ⟨.osl id off n,[]⟩:=rfl
def AAC(g:G)(newId:Id)(j:TI)(s:AV)(src:List (List AV)):Bool→Option Bz
 |true=>appTo g newId j s src
 |false=>none
def SX(g:G)(newId:Id)(j:TI)(s:AV):Option (List (List AV))→Option Bz
 |none=>none
 |some []=>ou s
 |some (e::es)=>AAC g newId j s (e::es) (ER j.size (e::es)&&decide ((e::es).length≤A4)&&decide (0<j.size))
theorem Zh(g:G)(newId:Id)(j:TI)(s x:AV):appendV g newId j s x=SX g newId j s (DN g x):=by
 unfold appendV;cases DN g x with
 |none=>rfl
 |some src=>
  cases src with
  |nil=>cases s<;>rfl
  |cons e es=>
   simp only[SX,←M1,Fs,Um];cases((e::es).all (fun e=>e.length==j.size&&e.all AV.isCell)&&decide ((e::es).length≤A4)&&decide (0<j.size))<;>rfl
theorem WK(g:G)(newId:Id)(j:TI)(s:AV):SX g newId j s (some [])=ou s:=rfl
theorem Sz(g:G)(newId:Id)(j:TI)(s:AV)(e:List AV)(es:List (List AV)):SX g newId j s (some (e::es))=AAC g newId j s (e::es) (ER j.size (e::es)&&decide ((e::es).length≤A4)&&decide (0<j.size)):=rfl
theorem Sy(g:G)(newId:Id)(j:TI)(s:AV)(src:List (List AV)):AAC g newId j s src true=appTo g newId j s src:=rfl
def WM(newId:Id)(id:Id)(off n sz:Nat)(es:List (List AW))(marks:AB)(ds:List (List AW)):Option (List (List AW))→Option Bz
 |some es'=>some ⟨.osl id off (n+ds.length),marks++[(id,.darr sz es')]⟩
 |none=>if off=0∧n+ds.length≤A4 then some ⟨.osl (1::newId) 0 (n+ds.length),marks++[(id,.fro 0 []),(1::newId,.darr sz (es.take n++ds))]⟩else none
def AAD(newId:Id)(id:Id)(off n sz:Nat)(es:List (List AW))(marks:AB):Option (List (List AW))→Option Bz
 |some ds=>if LD id marks=true then WM newId id off n sz es marks ds (Bm es (off+n) ds)else none
 |none=>none
theorem QQ(g:G)(newId:Id)(id:Id)(off n sz:Nat)(es:List (List AW))(src:List (List AV)):appIn g newId id off n sz es src=AAD newId id off n sz es (src.flatMap (Bd g)) (Cj g src):=by
 unfold appIn AAD;cases Cj g src with
 |none=>rfl
 |some ds=>
  cases LD id (src.flatMap (Bd g))with
  |false=>rfl
  |true=>
   simp only[if_true,WM];cases Bm es (off+n) ds with
   |some es'=>rfl
   |none=>
    simp only[Gn,Fs];by_cases h1:off=0<;>by_cases h2:n+ds.length≤A4<;>simp[h1,h2]
theorem OH(newId:Id)(id:Id)(off n sz:Nat)(es:List (List AW))(marks:AB)(ds:List (List AW)):AAD newId id off n sz es marks (some ds)=if LD id marks=true then WM newId id off n sz es marks ds (Bm es (off+n) ds)else none:=rfl
theorem QP(newId:Id)(id:Id)(off n sz:Nat)(es:List (List AW))(marks:AB)(ds es':List (List AW)):WM newId id off n sz es marks ds (some es')=some ⟨.osl id off (n+ds.length),marks++[(id,.darr sz es')]⟩:=rfl
theorem QO(newId:Id)(id:Id)(off n sz:Nat)(es:List (List AW))(marks:AB)(ds:List (List AW)):WM newId id off n sz es marks ds none=if off=0∧n+ds.length≤A4 then some ⟨.osl (1::newId) 0 (n+ds.length),marks++[(id,.fro 0 []),(1::newId,.darr sz (es.take n++ds))]⟩else none:=rfl
theorem Oq(id:Id):LD id []=true:=by simp[LD]
def oq(g:G)(newId:Id)(j:TI)(id:Id)(off n:Nat)(src:List (List AV)):Option Obj→Option Bz
 |some (.darr sz es)=>if sz=j.size∧off+n≤es.length then appIn g newId id off n sz es src else none
 |some (.arr sz es)=>if sz=j.size∧off+n≤es.length then appMix newId id off n sz es src else none
 |_=>none
theorem QS(g:G)(newId:Id)(j:TI)(src:List (List AV)):appTo g newId j .nils src=newArr g newId j src:=rfl
theorem fh(g:G)(newId:Id)(j:TI)(src:List (List AV)):appTo g newId j .emp src=newArr g newId j src:=rfl
theorem OJ(g:G)(newId:Id)(j:TI)(id:Id)(off n:Nat)(src:List (List AV)):appTo g newId j (.osl id off n) src=oq g newId j id off n src (g id):=by
 simp only[appTo];cases g id with
 |none=>rfl
 |some o=>
  cases o with
  |darr sz es=>
   simp only[oq,Gn,Fs];by_cases h1:sz=j.size<;>by_cases h2:off+n≤es.length<;>simp[h1,h2]
  |arr sz es=>
   simp only[oq,Gn,Fs];by_cases h1:sz=j.size<;>by_cases h2:off+n≤es.length<;>simp[h1,h2]
  |_=>rfl
theorem OI(g:G)(newId:Id)(j:TI)(id:Id)(off n:Nat)(src:List (List AV))(sz:Nat)(es:List (List AW)):oq g newId j id off n src (some (.darr sz es))=if sz=j.size∧off+n≤es.length then appIn g newId id off n sz es src else none:=rfl
theorem ot(g:G)(newId:Id)(j:TI)(id:Id)(off n:Nat)(src:List (List AV))(sz:Nat)(es:List (List AV)):oq g newId j id off n src (some (.arr sz es))=if sz=j.size∧off+n≤es.length then appMix newId id off n sz es src else none:=rfl
theorem hZ(g:G)(es:List (List AW)):DN g (.d (.lst es))=some (es.map (·.map .d)):=rfl
theorem Z7(g:G):DN g .nils=some []:=rfl
theorem hP(g:G):DN g .emp=some []:=rfl
def yz(off n:Nat):Option Obj→Option (List (List AV))
 |some (.darr _ es)=>Iw (es.map (·.map .d)) off n
 |some (.fro _ es)=>Iw (es.map (·.map .d)) off n
 |some (.arr _ es)=>Iw es off n
 |_=>none
theorem iB(g:G)(id:Id)(off n:Nat):DN g (.osl id off n)=yz off n (g id):=by
 simp only[DN];cases g id with
 |none=>rfl
 |some o=>cases o<;>rfl
theorem nG(off n sz:Nat)(es:List (List AW)):yz off n (some (.darr sz es))=Iw (es.map (·.map .d)) off n:=rfl
theorem tW(off n sz:Nat)(es:List (List AW)):yz off n (some (.fro sz es))=Iw (es.map (·.map .d)) off n:=rfl
theorem tV(off n sz:Nat)(es:List (List AV)):yz off n (some (.arr sz es))=Iw es off n:=rfl
def sE(ok:Bool)(r:Option AV):Option TI→Option Bz
 |some j=>KM ok r j
 |none=>none
def fG(T:TypeId→Option TI)(i:TI)(ok:Bool):Option (Option AV)→Option Bz
 |some r=>sE ok r (T i.elem)
 |none=>none
def fF(T:TypeId→Option TI)(x:AW)(ok:Bool)(i:TI):Option Obj→Option Bz
 |some (.map es)=>fG T i ok (Ch es x)
 |_=>none
def fE(T:TypeId→Option TI)(g:G)(id:Id)(x:AW)(ok:Bool)(i:TI):Bool→Option Bz
 |true=>fF T x ok i (g id)
 |false=>none
def r9(T:TypeId→Option TI)(g:G)(id:Id)(x:AW)(ok:Bool)(i:TI):TK→Option TI→Option Bz
 |.map,some kt=>fE T g id x ok i (JH kt.kind x)
 |_,_=>none
theorem YO(T:TypeId→Option TI)(g:G)(id:Id)(x:AW)(ok:Bool)(i:TI):Ee T g (.mp id) (.d x) ok (some i)=r9 T g id x ok i i.kind (T i.key):=by
 unfold Ee;simp only[Kr];cases hk:i.kind with
 |map=>
  cases T i.key with
  |none=>rfl
  |some kt=>
   simp only[r9];cases JH kt.kind x with
   |false=>rfl
   |true=>
    simp only[fE];cases g id with
    |none=>rfl
    |some o=>
     cases o with
     |map es=>
      simp only[fF];cases Ch es x with
      |none=>rfl
      |some r=>
       simp only[fG];cases T i.elem<;>rfl
     |_=>rfl
 |_=>rfl
theorem kO(T:TypeId→Option TI)(g:G)(id:Id)(x:AW)(ok:Bool)(i kt:TI):r9 T g id x ok i .map (some kt)=fE T g id x ok i (JH kt.kind x):=rfl
theorem bP(T:TypeId→Option TI)(g:G)(id:Id)(x:AW)(ok:Bool)(i:TI):fE T g id x ok i true=fF T x ok i (g id):=rfl
theorem kQ(T:TypeId→Option TI)(x:AW)(ok:Bool)(i:TI)(es:List (AW×AV)):fF T x ok i (some (.map es))=fG T i ok (Ch es x):=rfl
theorem bR(T:TypeId→Option TI)(ok:Bool)(i:TI)(r:Option AV):fG T i ok (some r)=sE ok r (T i.elem):=rfl
theorem bT(ok:Bool)(r:Option AV)(j:TI):sE ok r (some j)=KM ok r j:=rfl
theorem sB(v:AV)(j:TI):KM false (some v) j=some ⟨v,[]⟩:=by
 unfold KM;cases Ey j.agg j.zero<;>rfl
def sF(ok:Bool):Option AV→Option Bz
 |some z=>match ok with
  |true=>some ⟨.tup [z,.d (.bool false)],[]⟩
  |false=>some ⟨z,[]⟩
 |none=>none
theorem sC(ok:Bool)(j:TI):KM ok none j=sF ok (Ey j.agg j.zero):=by
 unfold KM;cases Ey j.agg j.zero<;>cases ok<;>rfl
theorem xI(z:AV):sF true (some z)=some ⟨.tup [z,.d (.bool false)],[]⟩:=rfl
theorem xH(z:AV):sF false (some z)=some ⟨z,[]⟩:=rfl
theorem bZ(x:AW):Ch [] x=some none:=rfl
attribute [go_sem] YO kO bP kQ bR bT sB sC xI xH JH bZ
theorem dp{α:Type}{f:α→List AW}{l:List α}{g:G}{sz:Nat}{k:IntKind}{m:Int}(hf: ∀a,(f a).length=sz)(h0:0≤m)(hm:m≤l.length):EN g .slice sz (.d (.lst (l.map f))) none (some (.d (.int k m))) none=some (.d (.lst ((l.take m.toNat).map f))):=by
 have hb:DZ none (some (.d (.int k m))) none (l.map f).length=some (0,m.toNat,none):=by
  simp[DZ,Ga,HT,h0]
 have he:Lg sz (l.map f)=true:=by
  cases l with
  |nil=>rfl
  |cons a l=>simp only[List.map_cons,Lg,Gn,decide_eq_true_eq];exact hf a
 show O2 sz (l.map f) (DZ none (some (.d (.int k m))) none (l.map f).length)=_;rw[hb];have hr:Nat.ble m.toNat (l.map f).length=true:=by rw[Fs];simp;omega
 simp only[O2,hr,he,Bool.and_self,List.drop_zero,Nat.sub_zero,List.map_take]
def stP(id:Id)(off:Nat)(cells:List AV):Option Obj→Option Bz
 |some (.box cs)=>(Bm cs off cells).map fun cs'=>⟨.undef,[(id,.box cs')]⟩
 |_=>none
def stD(id:Id)(k off sz:Nat)(es:List (List AW))(marks:AB):Option (List AW)→Option (List AW)→Option Bz
 |some e,some ds=>if LD id marks=true then(Bm e off ds).map fun e'=>⟨.undef,marks++[(id,.darr sz (es.set k e'))]⟩else none
 |_,_=>none
def stA(id:Id)(k off sz:Nat)(es:List (List AV))(cells:List AV):Option (List AV)→Option Bz
 |some e=>(Bm e off cells).map fun e'=>⟨.undef,[(id,.arr sz (es.set k e'))]⟩
 |none=>none
def stE(g:G)(id:Id)(k off:Nat)(cells:List AV):Option Obj→Option Bz
 |some (.darr sz es)=>stD id k off sz es (Bd g cells) es[k]? (Cb g cells)
 |some (.arr sz es)=>stA id k off sz es cells es[k]?
 |_=>none
theorem nY(g:G)(i:TI)(id:Id)(off:Nat)(v:AV):Im g i (.ptr id off) v=if v.cells.length=i.size∧v.cells.all AV.isCell=true then stP id off v.cells (g id)else none:=by
 unfold Im;by_cases h:v.cells.length=i.size∧v.cells.all AV.isCell=true
 .have:(v.cells.length==i.size&&v.cells.all AV.isCell)=true:=by simp[h.1,h.2]
  rw[this,if_pos h];simp only;cases g id with
  |none=>rfl
  |some o=>cases o<;>rfl
 .have:(v.cells.length==i.size&&v.cells.all AV.isCell)=false:=by
   rw[Bool.and_eq_false_iff];by_cases h1:v.cells.length=i.size
   .exact .inr (by simpa using fun h2=>h ⟨h1,h2⟩)
   .exact .inl (by simpa using h1)
  rw[this,if_neg h]
theorem eB(g:G)(i:TI)(id:Id)(k off:Nat)(v:AV):Im g i (.eptr id k off) v=if v.cells.length=i.size∧v.cells.all AV.isCell=true then stE g id k off v.cells (g id)else none:=by
 unfold Im;by_cases h:v.cells.length=i.size∧v.cells.all AV.isCell=true
 .have:(v.cells.length==i.size&&v.cells.all AV.isCell)=true:=by simp[h.1,h.2]
  rw[this,if_pos h];simp only;cases g id with
  |none=>rfl
  |some o=>
   cases o with
   |darr sz es=>
    simp only[stE,stD];cases es[k]? with
    |none=>cases Cb g v.cells<;>rfl
    |some e=>
     cases Cb g v.cells with
     |none=>rfl
     |some ds=>cases LD id (Bd g v.cells)<;>rfl
   |arr sz es=>
    simp only[stE,stA];cases es[k]? <;>rfl
   |_=>rfl
 .have:(v.cells.length==i.size&&v.cells.all AV.isCell)=false:=by
   rw[Bool.and_eq_false_iff];by_cases h1:v.cells.length=i.size
   .exact .inr (by simpa using fun h2=>h ⟨h1,h2⟩)
   .exact .inl (by simpa using h1)
  rw[this,if_neg h]
theorem y9(id:Id)(off:Nat)(cells cs:List AV):stP id off cells (some (.box cs))=(Bm cs off cells).map fun cs'=>⟨.undef,[(id,.box cs')]⟩:=rfl
theorem tl(g:G)(id:Id)(k off sz:Nat)(cells:List AV)(es:List (List AW)):stE g id k off cells (some (.darr sz es))=stD id k off sz es (Bd g cells) es[k]? (Cb g cells):=rfl
theorem y8(g:G)(id:Id)(k off sz:Nat)(cells:List AV)(es:List (List AV)):stE g id k off cells (some (.arr sz es))=stA id k off sz es cells es[k]? :=rfl
theorem tj(id:Id)(k off sz:Nat)(es:List (List AW))(marks:AB)(e ds:List AW):stD id k off sz es marks (some e) (some ds)=if LD id marks=true then(Bm e off ds).map fun e'=>⟨.undef,marks++[(id,.darr sz (es.set k e'))]⟩else none:=rfl
theorem th(id:Id)(k off sz:Nat)(es:List (List AV))(cells e:List AV):stA id k off sz es cells (some e)=(Bm e off cells).map fun e'=>⟨.undef,[(id,.arr sz (es.set k e'))]⟩:=rfl
attribute [go_sem] nY eB y9 tl y8 tj th
def mkS(g:G)(newId:Id)(n:Int):TK→Option TI→Option Bz
 |.slice,some j=>if 0≤n∧n≤A4 then FJ g newId n.toNat j else none
 |_,_=>none
theorem xL(T:TypeId→Option TI)(g:G)(newId:Id)(k k':IntKind)(n:Int)(i:TI):CW T g newId (.d (.int k n)) (.d (.int k' n)) (some i)=mkS g newId n i.kind (T i.elem):=by
 obtain⟨kd,sz,ag,st,z,fl,el,ky,mx⟩:=i;unfold CW;simp only;cases kd with
 |slice=>
  cases T el with
  |none=>rfl
  |some j=>simp only[mkS,true_and]
 |_=>rfl
theorem AAo(g:G)(newId:Id)(n:Int)(j:TI):mkS g newId n .slice (some j)=if 0≤n∧n≤A4 then FJ g newId n.toNat j else none:=rfl
def vB:List AV→Option (List AW)
 |[]=>some []
 |.d x::l=>(vB l).map (x:: ·)
 |_=>none
theorem WH: ∀{l:List AV} {ds:List AW},vB l=some ds→l=ds.map .d
 |[],ds,h=>by cases h;rfl
 |v::l,ds,h=>by
  cases v<;>simp[vB]at h;obtain⟨ds',h1,rfl⟩:=h;rw[WH h1];rfl
theorem Tj{g:G}{newId:Id}{n:Nat}{j:TI}{zs:List AW}(hn:0<n)(hmax:n≤A4)(hz:vB j.zero=some zs)(hl:j.zero.length=j.size)(h0:0<j.size)(hm:j.mix=false):FJ g newId n j=some ⟨.osl (1::newId) 0 n,[(1::newId,.darr j.size (List.replicate n zs))]⟩:=by
 obtain⟨m,rfl⟩: ∃m,n=m+1:=⟨n-1,by omega⟩;have e:=WH hz;have e2:List.replicate (m+1) j.zero=(List.replicate (m+1) zs).map (·.map AV.d):=by rw[List.map_replicate,e]
 show newArr g newId j (List.replicate (m+1) j.zero)=_;rw[Ts,e2];have h1:ER j.size ((List.replicate (m+1) zs).map (·.map AV.d))=true:=by
  have hz2:zs.length=j.size:=by rw[←hl,e];simp
  generalize m+1=k;induction k with
  |zero=>simp[ER]
  |succ k ih=>rw[List.replicate_succ,List.map_cons,Hp,ih,Zz,List.length_map,hz2];simp
 rw[h1,decide_eq_true h0];have h2:((List.replicate (m+1) zs).map (·.map AV.d)).length≤A4:=by simpa using hmax
 rw[decide_eq_true h2,hm];simp only[Bool.and_self,Tr,RU,IW,HA,Tt,List.nil_append,List.length_map,List.length_replicate]
theorem kg(g:G)(newId:Id)(j:TI):FJ g newId 0 j=some ⟨.emp,[]⟩:=rfl
theorem AH{n:Nat}(h:n≤1073741824):((n:Int)≤(A4:Int))=True:=eq_true (by unfold A4;omega)
attribute [go_sem] xL AAo kg Nat.zero_add
attribute [go_sem] Option.map_none Xh ik Q5 Xd ie Q3 qY ah iu Q4 IW bh PT xN bg kv lB bj lD PV HA ZF Hp Ts Tr lU RU Tt Sb Sa Wa fg ov WQ Zh WK Sz Sy QQ OH QP QO Oq QS fh OJ OI ot hZ Z7 hP iB nG tW tV Nat.one_mul Nat.mul_one Nat.reduceMul
end Go.Abs
namespace Go.Abs
variable{C:CG}{K:AL}{fr:Fr}{bl:Nat}{Q:DX→St→Prop}
theorem IM{α:Type}{l:List α}{i:Nat}{x:α}(h:l[i]? =some x):l.drop i=x::l.drop (i+1):=by
 have hi:=(List.getElem?_eq_some_iff.1 h).1;rw[List.drop_eq_getElem_cons hi];congr 1;have:=List.getElem?_eq_getElem hi;rw[h]at this;injection this with this
 exact this.symm
theorem C8{α β:Type}{x:Code}(l:List α)(S:Nat→β→St)(Inv:Nat→List α→β→Prop)(b0:β)(h0:Inv 0 l b0)
 (step: ∀(i:Nat) (y:α) (b:β),l[i]? =some y→i<l.length→(i:Int)<(l.length:Int)→Inv i (y::l.drop (i+1)) b→AA (∀b',Inv (i+1) (l.drop (i+1)) b'→fY C K fr bl x (S (i+1) b') Q)→Wp C K fr bl x (S i b) (K7 C K fr bl x Q))
 (done: ∀(i:Nat) (b:β),AA (i=l.length)→ ¬(i:Int)<(l.length:Int)→Inv i [] b→Wp C K fr bl x (S i b) (K7 C K fr bl x Q)):fY C K fr bl x (S 0 b0) Q:=by
 refine rounds (S:=fun a:Nat×β=>S a.1 a.2) (Inv:=fun a=>a.1≤l.length∧Inv a.1 (l.drop a.1) a.2) (m:=fun a=>l.length-a.1) (a:=(0,b0)) ⟨by simp,by simpa using h0⟩ ?_;rintro⟨i,b⟩ ⟨h1,h2⟩ IH;dsimp only at*;by_cases hi:i<l.length
 .obtain⟨y,hy⟩: ∃y,l[i]? =some y:=⟨_,List.getElem?_eq_getElem hi⟩;rw[IM hy]at h2;exact step i y b hy hi (by omega) h2 ⟨fun b' hb=>IH.out (i+1,b') (by dsimp only;omega) ⟨by dsimp only;omega,hb⟩⟩
 .have:i=l.length:=by omega
  rw[List.drop_eq_nil_of_le (by omega)]at h2;exact done i b ⟨this⟩ (by omega) h2
end Go.Abs
namespace Go.Abs
variable{C:CG}{K:AL}{fr:Fr}{bl:Nat}{Q:DX→St→Prop}
theorem AX{α β:Type}{x:Code}(l:List α)(m:Int)(S:Int→Nat→β→St)(Inv:Nat→List α→β→Prop)(b0:β)(hm:m=l.length)(h0:Inv 0 l b0)
 (step: ∀(i:Nat) (y:α) (b:β),l[i]? =some y→i<l.length→(i:Int)<m→Inv i (y::l.drop (i+1)) b→AA (∀b',Inv (i+1) (l.drop (i+1)) b'→fY C K fr bl x (S m (i+1) b') Q)→Wp C K fr bl x (S m i b) (K7 C K fr bl x Q))
 (done: ∀(i:Nat) (b:β),AA (i=l.length)→ ¬(i:Int)<m→Inv i [] b→Wp C K fr bl x (S m i b) (K7 C K fr bl x Q)):fY C K fr bl x (S m 0 b0) Q:=
 C8 l (S m) Inv b0 h0 (fun i y b h1 h2 h3 h4 h5=>step i y b h1 h2 (by omega) h4 h5) (fun i b h1 h2 h3=>done i b h1 (by have:=h1.out;omega) h3)
end Go.Abs
namespace Go.Abs
variable{P:Program}{C:CG}
theorem Gm{f:FuncId}{fn:Func}{c:Code}{rs:List ResultVar}{args:List AV}{π:List Nat}{Post:AZ×AB→Prop}(hg:C.good f=true)(hf:P.funcs[f]? =some fn)(hb:fn.body=some c)(hr:fn.results.toList=rs)(hl:Nat.ble args.length fn.ntmps=true)
 (hw:Wp C (KL P C) {f,π,raw:=false,prot:=none,nt:=fn.ntmps} 0 c ⟨Dr 0 args,[],0,[]⟩ (Qp C none rs π false fun o' h'=>Post (nrm (o',h')))): ∃r,BM (KL P C) f args π=.ok r∧Post r:=by
 obtain⟨o',h',e,h2⟩:=Ak hg hf hb hr hl hw;unfold BM;rw[e];exact⟨_,rfl,h2⟩
end Go.Abs
namespace Go.Abs
variable{C:CG}{K:AL}{fr:Fr}{bl:Nat}{Q:DX→St→Prop}
end Go.Abs
namespace Go.Abs
variable{P:Program}{C:CG}{K:AL}{fr:Fr}{b n i:Nat}{Q:DX→St→Prop}
variable{ops:Array Oper}{al:Nat→Bool}{l:List Oper}{e:BS}{h:AB}{bs:Nat}{ds:List Df}{ps:List (Nat×Nat)}{fps:List Fp}{ρ:List Nat}{dst:Option Tmp}
def AAm(C:CG)(K:AL)(fr:Fr)(ops:Array Oper)(b n:Nat)(al:Nat→Bool)(l:List Oper)(i:Nat)(dst:Option Tmp)(ρ:List Nat)(e:BS)(h:AB)(bs:Nat)(ds:List Df)(Q:DX→St→Prop)(args:List AV)(v:AV):Option FuncId→Prop
 |some f=>QY C K fr ops b n al l i dst ρ e h bs ds Q args (.fn f [v] [])
 |none=>False
def AD0(C:CG)(K:AL)(fr:Fr)(ops:Array Oper)(b n:Nat)(al:Nat→Bool)(l:List Oper)(i:Nat)(dst:Option Tmp)(ρ:List Nat)(e:BS)(h:AB)(bs:Nat)(ds:List Df)(Q:DX→St→Prop)(m:String)(args:List AV):AV→Prop
 |.iface t v=>AAm C K fr ops b n al l i dst ρ e h bs ds Q args v (C.meth t m)
 |_=>False
theorem bG(m:String)(args:List AV)(t:TypeId)(v:AV):AD0 C K fr ops b n al l i dst ρ e h bs ds Q m args (.iface t v)=AAm C K fr ops b n al l i dst ρ e h bs ds Q args v (C.meth t m):=rfl
theorem lJ(args:List AV)(v:AV)(f:FuncId):AAm C K fr ops b n al l i dst ρ e h bs ds Q args v (some f)=QY C K fr ops b n al l i dst ρ e h bs ds Q args (.fn f [v] []):=rfl
def AAl(C:CG)(K:AL)(fr:Fr)(ops:Array Oper)(b n:Nat)(al:Nat→Bool)(ps:List (Nat×Nat))(fps:List Fp)(l:List Oper)(i:Nat)(dst:Option Tmp)(ρ:List Nat)(e:BS)(h:AB)(bs:Nat)(ds:List Df)(Q:DX→St→Prop)(args:List AV)(v:AV):Option FuncId→Prop
 |some f=>Wb C K fr ops b n al ps fps l i dst ρ e h bs ds Q args (.fn f [v] [])
 |none=>False
def AAf(C:CG)(K:AL)(fr:Fr)(ops:Array Oper)(b n:Nat)(al:Nat→Bool)(ps:List (Nat×Nat))(fps:List Fp)(l:List Oper)(i:Nat)(dst:Option Tmp)(ρ:List Nat)(e:BS)(h:AB)(bs:Nat)(ds:List Df)(Q:DX→St→Prop)(m:String)(args:List AV):AV→Prop
 |.iface t v=>AAl C K fr ops b n al ps fps l i dst ρ e h bs ds Q args v (C.meth t m)
 |_=>False
theorem qF(r:Operand)(m:String)(az:Array Operand)(ts:Array TypeId):Bk C K fr ops b n al ps fps l i Q (Az C K fr ρ (.call ⟨.invoke r m,az,ts⟩) dst ⟨e,h,bs,ds⟩)=AAf C K fr ops b n al ps fps l i dst ρ e h bs ds Q m (az.toList.map (ev e.get)) (ev e.get r):=by
 simp only[Az];cases ev e.get r with
 |iface t v=>
  simp only[E9,AAf];cases C.meth t m with
  |none=>rfl
  |some f=>rfl
 |_=>rfl
theorem bF(m:String)(args:List AV)(t:TypeId)(v:AV):AAf C K fr ops b n al ps fps l i dst ρ e h bs ds Q m args (.iface t v)=AAl C K fr ops b n al ps fps l i dst ρ e h bs ds Q args v (C.meth t m):=rfl
theorem lH(args:List AV)(v:AV)(f:FuncId):AAl C K fr ops b n al ps fps l i dst ρ e h bs ds Q args v (some f)=Wb C K fr ops b n al ps fps l i dst ρ e h bs ds Q args (.fn f [v] []):=rfl
def Rr(C:CG)(K:AL)(fr:Fr)(ops:Array Oper)(b n:Nat)(al:Nat→Bool)(ps:List (Nat×Nat))(fps:List Fp)(l:List Oper)(i:Nat)(dst:Option Tmp)(ρ:List Nat)(e:BS)(h:AB)(bs:Nat)(ds:List Df)(Q:DX→St→Prop):E (AZ×AB)→Prop
 |.ok (.ret v,h')=>Fi C K fr ops b n al ps (fps++[⟨none,some (TG h (gc ρ h'))⟩]) l (i+1) ⟨CD e dst v,gc ρ h',bs,ds⟩ Q
 |.ok (.pan v,h')=>al i=true∧DI fps ps=true∧Q (.pan v) ⟨e,gc ρ h',b+n,ds⟩
 |.err _=>False
theorem nP(dst:Option Tmp)(ρ:List Nat)(r:E (AZ×AB)):Bk C K fr ops b n al ps fps l i Q (De ρ dst ⟨e,h,bs,ds⟩ r)=Rr C K fr ops b n al ps fps l i dst ρ e h bs ds Q r:=by
 cases r with
 |err l=>rfl
 |ok r=>
  obtain⟨o,h'⟩:=r;cases o<;>simp only[De,Av,Aa,Bk,Rr]
theorem tE(dst:Option Tmp)(ρ:List Nat)(v:AV)(h':AB):Rr C K fr ops b n al ps fps l i dst ρ e h bs ds Q (.ok (.ret v,h'))=Fi C K fr ops b n al ps (fps++[⟨none,some (TG h (gc ρ h'))⟩]) l (i+1) ⟨CD e dst v,gc ρ h',bs,ds⟩ Q:=rfl
theorem tD(dst:Option Tmp)(ρ:List Nat)(v:AV)(h':AB):Rr C K fr ops b n al ps fps l i dst ρ e h bs ds Q (.ok (.pan v,h'))=(al i=true∧DI fps ps=true∧Q (.pan v) ⟨e,gc ρ h',b+n,ds⟩):=rfl
theorem lN(dst:Option Tmp)(ρ:List Nat)(f:FuncId)(az:List AV):Ka C K fr ops b n al ps fps l i dst ρ e h bs ds Q f az .raw=Rr C K fr ops b n al ps fps l i dst ρ e h bs ds Q (K (.fn f) az h ρ true fr.prot):=by
 simp only[Ka,DB,nP]
theorem Ep{Post:AZ→AB→Prop}{dst:Option Tmp}{ρ:List Nat}{q:E (AZ×AB)}(hk: ∃o h',q=.ok (o,h')∧Post o h')(hn: ∀o h',Post o h'→Rr C K fr ops b n al ps fps l i dst ρ e h bs ds Q (.ok (o,h'))):Rr C K fr ops b n al ps fps l i dst ρ e h bs ds Q q:=by
 obtain⟨o,h',e,hp⟩:=hk;rw[e];exact hn o h' hp
theorem bn(dst:Option Tmp)(ρ:List Nat)(f:FuncId)(az:List AV)(hx:(DT h.get az).isNone):Ka C K fr ops b n al ps fps l i dst ρ e h bs ds Q f az .auto=(JS fr.prot (az.flatMap (mark h.get))=true∧Rr C K fr ops b n al ps fps l i dst ρ e h bs ds Q (K (.fn f) (LY h.get az) (h.puts (az.flatMap (mark h.get))) ρ true fr.prot)):=by
 have hx:DT h.get az=none:=by simpa using hx
 simp only[Ka,DB,hx,EW,A6,BT,Aa];cases hw:JS fr.prot (az.flatMap (mark h.get))with
 |true=>
  simp only[true_and];cases K (.fn f) (LY h.get az) (h.puts (az.flatMap (mark h.get))) ρ true fr.prot with
  |err l=>rfl
  |ok r=>
   obtain⟨o,h'⟩:=r;cases o<;>simp only[De,Av,Aa,Bk,Rr]
 |false=>simp[Bk]
theorem Vg{dst:Option Tmp}{az:List AV}{v:AV}{p:Prop} [Decidable p](h1: ¬p→C7 C K fr ops b n al l i az dst e h bs ds Q (Bl v true))(h2:p→C7 C K fr ops b n al l i az dst e h bs ds Q (Bl v false)):C7 C K fr ops b n al l i az dst e h bs ds Q (Bl v (!decide p)):=by
 by_cases hp:p
 .rw[decide_eq_true hp];exact h2 hp
 .rw[decide_eq_false hp];exact h1 hp
theorem Vf{dst:Option Tmp}{az:List AV}{v:AV}{p:Prop} [Decidable p](h1: ¬p→C6 C K fr ops b n al ps fps l i az dst e h bs ds Q (Bl v true))(h2:p→C6 C K fr ops b n al ps fps l i az dst e h bs ds Q (Bl v false)):C6 C K fr ops b n al ps fps l i az dst e h bs ds Q (Bl v (!decide p)):=by
 by_cases hp:p
 .rw[decide_eq_true hp];exact h2 hp
 .rw[decide_eq_false hp];exact h1 hp
theorem dK{dst:Option Tmp}{az:List AV}{v:AV}{t:Bool}(h1:t=true→C6 C K fr ops b n al ps fps l i az dst e h bs ds Q (Bl v true))(h2:t=false→C6 C K fr ops b n al ps fps l i az dst e h bs ds Q (Bl v false)):C6 C K fr ops b n al ps fps l i az dst e h bs ds Q (Bl v t):=by
 cases t
 .exact h2 rfl
 .exact h1 rfl
theorem Yr{dst:Option Tmp}{az:List AV}{v:AV}{p:Prop} [Decidable p](h1:p→C6 C K fr ops b n al ps fps l i az dst e h bs ds Q (Bl v true))(h2: ¬p→C6 C K fr ops b n al ps fps l i az dst e h bs ds Q (Bl v false)):C6 C K fr ops b n al ps fps l i az dst e h bs ds Q (Bl v (decide p)):=by
 by_cases hp:p
 .rw[decide_eq_true hp];exact h1 hp
 .rw[decide_eq_false hp];exact h2 hp
theorem Zg(a b:List Id):Abs.apart (some a) (some b)=a.all fun x=>b.all fun y=> !Id.is x y:=by
 have key: ∀(x:Id) (m:List Id),(!m.contains x)=m.all fun y=> !Id.is x y:=fun x m=>by
  rw[Bool.eq_iff_iff];simp only[Bool.not_eq_true',List.all_eq_true];constructor
  .intro h y hy;exact AD fun e=>by subst e;simp[hy]at h
  .intro h;cases hc:m.contains x with
   |false=>rfl
   |true=>
    have:=h x (by simpa using hc);rw[is_self]at this;cases this
 unfold Abs.apart;split
 .rename_i h;cases h;rfl
 .rename_i h1 h2;cases h1;simp
 .rename_i h1 h2;cases h1;cases h2;simp only[key]
 .simp_all
theorem GF(ρ:List Nat)(h:AB)(l:Id):AB.get (gc ρ h) (1::l)=AB.get h (1::l):=Q6 (fun id=>match id with|0::l=> !Id.under ρ l|_=>true) h (1::l) rfl
theorem ey(a b:AB)(id:Id):AB.get (a++b) id=(match AB.get a id with|some o=>some o|none=>AB.get b id):=by
 induction a with
 |nil=>rfl
 |cons p a ih=>
  obtain⟨k,x⟩:=p;rw[List.cons_append,BN,BN];split
  .rfl
  .exact ih
theorem A0{a b:AB}{id:Id}(h:AB.get a id=none):AB.get (a++b) id=AB.get b id:=by rw[ey,h]
theorem Bw{a b:AB}{id:Id}{o:Obj}(h:AB.get a id=some o):AB.get (a++b) id=some o:=by rw[ey,h]
theorem qS(g:G)(f:FuncId)(a:List AV)(x:AV)(c:List AV):EF g (.fn f a (x::c))=none:=by cases a<;>rfl
attribute [go_sem] GF qS
attribute [go_sem] Zg bG lJ qF bF lH tE tD lN bn UF UE
end Go.Abs
namespace Go.Abs
attribute [go_sem_proc] Nat.reduceEqDiff Nat.reduceAdd Nat.reduceSub Nat.reduceBEq Nat.reduceLeDiff Nat.reduceLT reduceCtorEq Int.reduceEq Int.reduceLT Int.reduceLE Int.reduceNeg Int.reduceToNat Int.reduceAdd Int.reduceSub
attribute [go_sem_proc ↓] reduceIte
attribute [go_sem] Int.cast_ofNat_Int Int.zero_add Nat.le_refl
class Sp(G:Prop)(P N A B:outParam Prop):Prop where
 go:(P→A)→(N→B)→G
theorem sx{G P N A B:Prop} [s:Sp G P N A B](h1:P→A)(h2:N→B):G:=s.go h1 h2
class Sq(G:Prop)(α:outParam Type)(H:outParam Prop)(R M A:outParam (α→Prop)):Prop where
 go:H→(∀x,R x→M x→A x)→G
theorem sy{G:Prop}{α:Type}{H:Prop}{R M A:α→Prop} [s:Sq G α H R M A](h1:H)(h2: ∀x,R x→M x→A x):G:=s.go h1 h2
theorem au{G:Prop}(h:G:=by(repeat' (first|simp only[go_sem, *]|(refine sx ?_ ?_<;>intro hc)|refine sy (by omega) fun x hx hm=>?_|simp(disch:=first|assumption|omega) only[wrap_id,AK,AH,slice_int]))):G:=h
theorem af{G:Prop}(h:G:=by(repeat' (first|simp only[go_sem, *,Bool.false_eq_true]|(refine sx ?_ ?_<;>intro hc)|refine sy (by omega) fun x hx hm=>?_|simp(disch:=first|assumption|omega) only[wrap_id,AK,AH,slice_int]))):G:=h
theorem aw{G R:Prop}(h:R)(e:AA R→G:=by intro q;(repeat' (first|simp only[go_sem, *]|(refine sx ?_ ?_<;>intro hc)|refine sy (by omega) fun x hx hm=>?_|simp(disch:=first|assumption|omega) only[wrap_id,AK,AH,slice_int]));exact q.out):G:=e ⟨h⟩
theorem ax{G R:Prop}(h:R)(e:AA R→G:=by intro q;(repeat' (first|simp only[go_sem, *,Bool.false_eq_true]|(refine sx ?_ ?_<;>intro hc)|refine sy (by omega) fun x hx hm=>?_|simp(disch:=first|assumption|omega) only[wrap_id,AK,AH,slice_int]));exact q.out):G:=e ⟨h⟩
variable{C:CG}{K:AL}{fr:Fr}{b n i:Nat}{Q:DX→St→Prop}
variable{ops:Array Oper}{al:Nat→Bool}{l:List Oper}{e:BS}{h:AB}{bs:Nat}{ds:List Df}{ps:List (Nat×Nat)}{fps:List Fp}{dst:Option Tmp}{st:St}{op:Op}{want:Bool}{az:List AV}{v:AV}{t:Bool}{p:Prop}{x y:Code}
instance(priority:=2000) [Decidable p]:Sp (Kq C K fr b x y st Q (.d (.bool (decide p)))) p (¬p) (Wp C K fr b x st Q) (Wp C K fr b y st Q):=⟨gR⟩
instance(priority:=2000) [Decidable p]:Sp (C3 C K fr ops b n al l i dst op st want Q (.d (.bool (decide p)))) p (¬p) (C3 C K fr ops b n al l i dst op st want Q (.d (.bool true))) (C3 C K fr ops b n al l i dst op st want Q (.d (.bool false))):=⟨aq⟩
instance:Sp (Kq C K fr b x y st Q (.d (.bool t))) (t=true) (t=false) (Wp C K fr b x st Q) (Wp C K fr b y st Q):=⟨W5⟩
instance:Sp (C3 C K fr ops b n al l i dst op st want Q (.d (.bool t))) (t=true) (t=false) (C3 C K fr ops b n al l i dst op st want Q (.d (.bool true))) (C3 C K fr ops b n al l i dst op st want Q (.d (.bool false))):=⟨VH⟩
instance(priority:=2000) [Decidable p]:Sp (DP C K fr ops b n al ps fps l i dst op st want Q (.d (.bool (decide p)))) p (¬p) (DP C K fr ops b n al ps fps l i dst op st want Q (.d (.bool true))) (DP C K fr ops b n al ps fps l i dst op st want Q (.d (.bool false))):=⟨bB⟩
instance:Sp (DP C K fr ops b n al ps fps l i dst op st want Q (.d (.bool t))) (t=true) (t=false) (DP C K fr ops b n al ps fps l i dst op st want Q (.d (.bool true))) (DP C K fr ops b n al ps fps l i dst op st want Q (.d (.bool false))):=⟨VI⟩
instance(priority:=2000) [Decidable p]:Sp (C7 C K fr ops b n al l i az dst e h bs ds Q (Bl v (decide p))) p (¬p) (C7 C K fr ops b n al l i az dst e h bs ds Q (Bl v true)) (C7 C K fr ops b n al l i az dst e h bs ds Q (Bl v false)):=⟨Ys⟩
instance(priority:=2000) [Decidable p]:Sp (C7 C K fr ops b n al l i az dst e h bs ds Q (Bl v (!decide p))) (¬p) p (C7 C K fr ops b n al l i az dst e h bs ds Q (Bl v true)) (C7 C K fr ops b n al l i az dst e h bs ds Q (Bl v false)):=⟨Vg⟩
instance:Sp (C7 C K fr ops b n al l i az dst e h bs ds Q (Bl v t)) (t=true) (t=false) (C7 C K fr ops b n al l i az dst e h bs ds Q (Bl v true)) (C7 C K fr ops b n al l i az dst e h bs ds Q (Bl v false)):=⟨dP⟩
instance(priority:=2000) [Decidable p]:Sp (C6 C K fr ops b n al ps fps l i az dst e h bs ds Q (Bl v (decide p))) p (¬p) (C6 C K fr ops b n al ps fps l i az dst e h bs ds Q (Bl v true)) (C6 C K fr ops b n al ps fps l i az dst e h bs ds Q (Bl v false)):=⟨Yr⟩
instance(priority:=2000) [Decidable p]:Sp (C6 C K fr ops b n al ps fps l i az dst e h bs ds Q (Bl v (!decide p))) (¬p) p (C6 C K fr ops b n al ps fps l i az dst e h bs ds Q (Bl v true)) (C6 C K fr ops b n al ps fps l i az dst e h bs ds Q (Bl v false)):=⟨Vf⟩
instance:Sp (C6 C K fr ops b n al ps fps l i az dst e h bs ds Q (Bl v t)) (t=true) (t=false) (C6 C K fr ops b n al ps fps l i az dst e h bs ds Q (Bl v true)) (C6 C K fr ops b n al ps fps l i az dst e h bs ds Q (Bl v false)):=⟨dK⟩
instance{α:Type}{f:α→List AW}{l':List α}{sz j:Nat}:Sq (Ba C K fr ops b n al l i dst e h bs ds Q (RM sz (Option.map f l'[j]?))) α (j<l'.length) (fun x=>l'[j]? =some x) (fun x=>x∈l') (fun x=>Ba C K fr ops b n al l i dst e h bs ds Q (RM sz (some (f x)))):=⟨fun h1 h2=>mL h1 fun x hx=>h2 x hx (List.mem_of_getElem? hx)⟩
instance{α:Type}{f:α→List AW}{l':List α}{sz j:Nat}{rd:List Id}:Sq (DD C K fr ops b n al ps fps l i dst e h bs ds Q rd (RM sz (Option.map f l'[j]?))) α (j<l'.length) (fun x=>l'[j]? =some x) (fun x=>x∈l') (fun x=>DD C K fr ops b n al ps fps l i dst e h bs ds Q rd (RM sz (some (f x)))):=⟨fun h1 h2=>mJ h1 fun x hx=>h2 x hx (List.mem_of_getElem? hx)⟩
instance{s:ByteArray}{j:Nat}{f:UInt8→Bz}:Sq (Ba C K fr ops b n al l i dst e h bs ds Q (Option.map f s.data.toList[j]?)) UInt8 (j<s.data.toList.length) (fun x=>s.data.toList[j]? =some x) (fun x=>x∈s.data.toList) (fun x=>Ba C K fr ops b n al l i dst e h bs ds Q (some (f x))):=⟨fun h1 h2=>mM h1 fun x hx=>h2 x hx (List.mem_of_getElem? hx)⟩
end Go.Abs
namespace Go.Abs
theorem Pj(sz:Nat)(es:List (List AW))(h: ∀e∈es,e.length=sz):ER sz (es.map fun e=>e.map .d)=true:=by
 induction es with
 |nil=>rfl
 |cons e es ih=>
  rw[List.map_cons,Hp,ih fun e he=>h e (List.mem_cons_of_mem _ he)];simp[h e (by simp),AV.isCell]
theorem Ld(g:G)(newId:Id)(j:TI)(s:AV)(es:List (List AW))(h0:0<j.size)(h: ∀e∈es,e.length=j.size)(hn:es≠ [])(hl:es.length≤A4):SX g newId j s (some (es.map fun e=>e.map .d))=appTo g newId j s (es.map fun e=>e.map .d):=by
 cases es with
 |nil=>exact absurd rfl hn
 |cons e es=>
  have hs:=Pj j.size (e::es) h;rw[List.map_cons]at hs⊢;rw[Sz,hs];have:(e.map AV.d::es.map fun e=>e.map AV.d).length≤A4:=by simpa using hl
  simp only[this,h0,decide_true,Bool.and_self,Sy]
theorem Pa(g:G)(newId:Id)(j:TI)(es:List (List AW))(hm:j.mix=false)(h0:0<j.size)(h: ∀e∈es,e.length=j.size)(hl:es.length≤A4):newArr g newId j (es.map fun e=>e.map .d)=some ⟨.osl (1::newId) 0 es.length,[(1::newId,.darr j.size es)]⟩:=by
 have h1:((es.map fun e=>e.map AV.d).all fun e=>e.length==j.size&&e.all AV.isCell)=true:=by
  rw[M1];exact Pj _ _ h
 have h2:Nat.blt 0 j.size=true:=by rw[Nat.blt_eq];exact h0
 have h3:Nat.ble es.length A4=true:=Nat.ble_eq_true_of_le hl;unfold newArr;rw[h1];simp only[List.length_map,h2,h3,Bool.and_self,hm,IW,HA,List.nil_append]
theorem vF(g:G)(newId:Id)(j:TI)(es:List (List AW))(hm:j.mix=false)(h0:0<j.size)(h: ∀e∈es,e.length=j.size)(hn:es≠ [])(hl:es.length≤A4):SX g newId j .emp (some (es.map fun e=>e.map .d))=some ⟨.osl (1::newId) 0 es.length,[(1::newId,.darr j.size es)]⟩:=by
 rw[Ld g newId j .emp es h0 h hn hl];exact Pa g newId j es hm h0 h hl
end Go.Abs
namespace Go.Proofs
open Go Go.Abs
theorem T3:cfg.T 3=(.some ⟨.int,1,false,false,[(.d (.int .i64 0))],[],0,0,false⟩):=by kernel_rfl
theorem T4:cfg.T 4=(.some ⟨.bool,1,false,false,[(.d (.bool false))],[],0,0,false⟩):=by kernel_rfl
theorem T5:cfg.T 5=(.some ⟨.int,1,false,false,[(.d (.int .u8 0))],[],0,0,false⟩):=by kernel_rfl
theorem T9:cfg.T 9=(.some ⟨.str,1,false,false,[(.d (.str ⟨#[]⟩))],[],0,0,false⟩):=by kernel_rfl
theorem T22:cfg.T 22=(.some ⟨.slice,1,false,false,[.nils],[],9,0,false⟩):=by kernel_rfl
theorem T23:cfg.T 23=(.some ⟨.slice,1,false,false,[.nils],[],140,0,false⟩):=by kernel_rfl
theorem T24:cfg.T 24=(.some ⟨.slice,1,false,false,[.nils],[],147,0,false⟩):=by kernel_rfl
theorem T26:cfg.T 26=(.some ⟨.other,4,true,true,[.nils,.nils,.nils,(.d (.int .i64 0))],[(0,1,false),(1,1,false),(2,1,false),(3,1,false)],0,0,false⟩):=by kernel_rfl
theorem T27:cfg.T 27=(.some ⟨.slice,1,false,false,[.nils],[],66,0,false⟩):=by kernel_rfl
theorem T28:cfg.T 28=(.some ⟨.slice,1,false,false,[.nils],[],114,0,false⟩):=by kernel_rfl
theorem T29:cfg.T 29=(.some ⟨.slice,1,false,false,[.nils],[],69,0,false⟩):=by kernel_rfl
theorem T30:cfg.T 30=(.some ⟨.slice,1,false,false,[.nils],[],127,0,false⟩):=by kernel_rfl
theorem T32:cfg.T 32=(.some ⟨.other,4,true,true,[.nils,.nils,.nils,.nils],[(0,1,false),(1,1,false),(2,1,false),(3,1,false)],0,0,false⟩):=by kernel_rfl
theorem T33:cfg.T 33=(.some ⟨.int,1,false,false,[(.d (.int .i64 0))],[],0,0,false⟩):=by kernel_rfl
theorem T36:cfg.T 36=(.some ⟨.slice,1,false,false,[.nils],[],3,0,false⟩):=by kernel_rfl
theorem T38:cfg.T 38=(.some ⟨.other,4,true,true,[(.d (.int .i64 0)),(.d (.int .i64 0)),(.d (.int .i64 0)),.nils],[(0,1,false),(1,1,false),(2,1,false),(3,1,false)],0,0,false⟩):=by kernel_rfl
theorem T44:cfg.T 44=(.some ⟨.slice,1,false,false,[.nils],[],78,0,false⟩):=by kernel_rfl
theorem T63:cfg.T 63=(.some ⟨.slice,1,false,false,[.nils],[],38,0,false⟩):=by kernel_rfl
theorem T66:cfg.T 66=(.some ⟨(.flat [.int,.bool]),2,true,true,[(.d (.int .i64 0)),(.d (.bool false))],[(0,1,false),(1,1,false)],0,0,false⟩):=by kernel_rfl
theorem T67:cfg.T 67=(.some ⟨.slice,1,false,false,[.nils],[],73,0,false⟩):=by kernel_rfl
theorem T69:cfg.T 69=(.some ⟨.other,4,true,true,[(.d (.int .i64 0)),(.d (.int .i64 0)),(.d (.int .i64 0)),.nils],[(0,1,false),(1,1,false),(2,1,false),(3,1,false)],0,0,true⟩):=by kernel_rfl
theorem T71:cfg.T 71=(.some ⟨.slice,1,false,false,[.nils],[],88,0,false⟩):=by kernel_rfl
theorem T73:cfg.T 73=(.some ⟨.other,1,true,true,[.nils],[(0,1,false)],0,0,false⟩):=by kernel_rfl
theorem T78:cfg.T 78=(.some ⟨.other,5,true,true,[(.d (.int .i64 0)),(.d (.int .i64 0)),(.d (.int .i64 0)),(.d (.int .i64 0)),.nils],[(0,1,false),(1,1,false),(2,1,false),(3,1,false),(4,1,false)],0,0,false⟩):=by kernel_rfl
theorem T82:cfg.T 82=(.some ⟨.int,1,false,false,[(.d (.int .i64 0))],[],0,0,false⟩):=by kernel_rfl
theorem T83:cfg.T 83=(.some ⟨.slice,1,false,false,[.nils],[],85,0,false⟩):=by kernel_rfl
theorem T85:cfg.T 85=(.some ⟨.other,3,true,true,[(.d (.int .i64 0)),(.d (.int .i64 0)),.nils],[(0,1,false),(1,1,false),(2,1,false)],0,0,false⟩):=by kernel_rfl
theorem T86:cfg.T 86=(.some ⟨.int,1,false,false,[(.d (.int .i64 0))],[],0,0,false⟩):=by kernel_rfl
theorem T88:cfg.T 88=(.some ⟨(.flat [.int,.int]),2,true,true,[(.d (.int .i64 0)),(.d (.int .i64 0))],[(0,1,false),(1,1,false)],0,0,false⟩):=by kernel_rfl
theorem ADT:cfg.T 114=(.some ⟨.other,3,true,true,[(.d (.int .i64 0)),(.d (.int .i64 0)),.nils],[(0,1,false),(1,1,false),(2,1,false)],0,0,false⟩):=by kernel_rfl
theorem ADU:cfg.T 118=(.some ⟨.ptr,1,false,false,[(.d .nilp)],[],0,0,false⟩):=by kernel_rfl
theorem ADV:cfg.T 122=(.some ⟨.map,1,false,false,[(.d .nilm)],[],198,138,false⟩):=by kernel_rfl
theorem ADW:cfg.T 124=(.some ⟨.other,13,true,true,[.nils,.nils,.nils,.nils,.nils,.nils,.nils,(.d (.int .i64 0)),.nils,.nils,(.d .nilm),.nils,(.d (.int .i64 0))],[(0,4,true),(4,4,true),(8,1,false),(9,1,false),(10,1,false),(11,1,false),(12,1,false)],0,0,false⟩):=by kernel_rfl
theorem ADX:cfg.T 127=(.some ⟨.other,3,true,true,[(.d (.int .i64 0)),(.d (.int .i64 0)),.nils],[(0,1,false),(1,1,false),(2,1,false)],0,0,false⟩):=by kernel_rfl
theorem ADY:cfg.T 138=(.some ⟨.int,1,false,false,[(.d (.int .i64 0))],[],0,0,false⟩):=by kernel_rfl
theorem ADZ:cfg.T 140=(.some ⟨.other,4,true,true,[(.d (.int .i64 0)),(.d (.int .i64 0)),.nils,.nils],[(0,1,false),(1,1,false),(2,1,false),(3,1,false)],0,0,false⟩):=by kernel_rfl
theorem ADa:cfg.T 143=(.some ⟨.slice,1,false,false,[.nils],[],187,0,false⟩):=by kernel_rfl
theorem ADb:cfg.T 144=(.some ⟨.slice,1,false,false,[.nils],[],189,0,false⟩):=by kernel_rfl
theorem ADe:cfg.T 145=(.some ⟨.slice,1,false,false,[.nils],[],151,0,false⟩):=by kernel_rfl
theorem ADf:cfg.T 147=(.some ⟨.other,3,true,true,[.nils,.nils,.nils],[(0,1,false),(1,1,false),(2,1,false)],0,0,false⟩):=by kernel_rfl
theorem ADg:cfg.T 151=(.some ⟨.other,3,true,true,[(.d (.int .i64 0)),.nils,(.d (.int .i64 0))],[(0,1,false),(1,1,false),(2,1,false)],0,0,false⟩):=by kernel_rfl
theorem ADh:cfg.T 177=(.some ⟨(.flat [.int]),1,true,true,[(.d (.int .i64 0))],[(0,1,false)],0,0,false⟩):=by kernel_rfl
theorem ADi:cfg.T 180=(.some ⟨.func,1,false,false,[(.d .nilf)],[],0,0,false⟩):=by kernel_rfl
theorem ADj:cfg.T 187=(.some ⟨(.flat [.int,.int]),2,true,true,[(.d (.int .i64 0)),(.d (.int .i64 0))],[(0,1,false),(1,1,false)],0,0,false⟩):=by kernel_rfl
theorem ADk:cfg.T 189=(.some ⟨(.flat [.int,.int]),2,true,true,[(.d (.int .i64 0)),(.d (.int .i64 0))],[(0,1,false),(1,1,false)],0,0,false⟩):=by kernel_rfl
theorem ADl:cfg.T 198=(.some ⟨.func,1,false,false,[(.d .nilf)],[],0,0,false⟩):=by kernel_rfl
theorem ADm:cfg.T 201=(.some ⟨.other,3,true,true,[(.d (.int .i64 0)),(.d (.int .i64 0)),.nils],[(0,1,false),(1,1,false),(2,1,false)],0,0,false⟩):=by kernel_rfl
theorem ADn:cfg.T 246=(.some ⟨.slice,1,false,false,[.nils],[],4,0,false⟩):=by kernel_rfl
theorem ADo:cfg.T 248=(.some ⟨.other,7,true,true,[.nils,.nils,.nils,(.d (.int .i64 0)),.nils,.nils,.nils],[(0,4,true),(4,1,false),(5,1,false),(6,1,false)],0,0,false⟩):=by kernel_rfl
theorem ADp:cfg.T 249=(.some ⟨.func,1,false,false,[(.d .nilf)],[],0,0,false⟩):=by kernel_rfl
theorem ADq:cfg.T 289=(.some ⟨(.flat [.int]),1,true,true,[(.d (.int .i64 0))],[(0,1,false)],0,0,false⟩):=by kernel_rfl
theorem zx:cfg.T 300=(.some ⟨.map,1,false,false,[(.d .nilm)],[],4,9,false⟩):=by kernel_rfl
theorem ADr:cfg.T 303=(.some ⟨.iface,1,false,false,[(.d .nili)],[],0,0,false⟩):=by kernel_rfl
theorem ADs:cfg.T 307=(.some ⟨(.flat []),0,true,true,[],[],0,0,false⟩):=by kernel_rfl
theorem ADt:cfg.T 308=(.some ⟨(.flat []),0,true,true,[],[],0,0,false⟩):=by kernel_rfl
theorem ADu:cfg.T 309=(.some ⟨(.flat []),0,true,true,[],[],0,0,false⟩):=by kernel_rfl
theorem ADv:cfg.T 310=(.some ⟨(.flat []),0,true,true,[],[],0,0,false⟩):=by kernel_rfl
theorem ADw:cfg.T 311=(.some ⟨.func,1,false,false,[(.d .nilf)],[],0,0,false⟩):=by kernel_rfl
theorem ADx:cfg.T 314=(.some ⟨.int,1,false,false,[(.d (.int .i64 0))],[],0,0,false⟩):=by kernel_rfl
theorem zy:cfg.T 315=(.some ⟨.map,1,false,false,[(.d .nilm)],[],4,3,false⟩):=by kernel_rfl
end Go.Proofs
namespace Go.Proofs
open Go Go.Abs
theorem cW:cfg.pairs 11 14=[]:=by kernel_rfl
theorem AAp:cfg.mode 15=.auto:=by kernel_rfl
theorem AAq:cfg.mode 17=.auto:=by kernel_rfl
theorem AAr:cfg.mode 19=.auto:=by kernel_rfl
theorem AAs:cfg.mode 20=.auto:=by kernel_rfl
theorem AAt:cfg.mode 21=.auto:=by kernel_rfl
theorem lf:cfg.pairs 21 7=[(4,8),(7,8)]:=by kernel_rfl
theorem lg:cfg.pairs 21 8=[(1,2)]:=by kernel_rfl
theorem AAu:cfg.mode 23=.auto:=by kernel_rfl
theorem lh:cfg.pairs 23 6=[]:=by kernel_rfl
theorem cj:cfg.pairs 23 11=[]:=by kernel_rfl
theorem ck:cfg.pairs 23 16=[]:=by kernel_rfl
theorem cm:cfg.pairs 23 21=[]:=by kernel_rfl
theorem rY:cfg.live 23 0=[2,3,5]:=by kernel_rfl
theorem rZ:cfg.live 23 2=[2,3,6]:=by kernel_rfl
theorem ra:cfg.live 23 4=[2,3,7]:=by kernel_rfl
theorem rb:cfg.live 23 6=[2,3,8]:=by kernel_rfl
theorem AAv:cfg.mode 29=.auto:=by kernel_rfl
theorem lj:cfg.pairs 29 6=[]:=by kernel_rfl
theorem re:cfg.live 29 0=[0,1,5]:=by kernel_rfl
theorem AAw:cfg.mode 30=.auto:=by kernel_rfl
theorem AAx:cfg.mode 37=.auto:=by kernel_rfl
theorem lk:cfg.pairs 37 6=[]:=by kernel_rfl
theorem rf:cfg.live 37 0=[0,1,5]:=by kernel_rfl
theorem AAy:cfg.mode 39=.auto:=by kernel_rfl
theorem AAz:cfg.mode 51=.own:=by kernel_rfl
theorem ll:cfg.pairs 52 9=[]:=by kernel_rfl
theorem cn:cfg.pairs 52 12=[(4,9)]:=by kernel_rfl
theorem cp:cfg.pairs 52 17=[(5,9)]:=by kernel_rfl
theorem rh:cfg.live 52 0=[0,3,13,18,19,20,102,103,104,105,106,107,108,109]:=by kernel_rfl
theorem rj:cfg.live 52 2=[0,3,13,40,41,42,102,103,104,105,106,107,108,109]:=by kernel_rfl
theorem rk:cfg.live 52 4=[0,3,6,7,13,40,41,42,56,57,58,102,103,104,105,106,107,108,109]:=by kernel_rfl
theorem rl:cfg.live 52 6=[0,3,6,7,8,10,13,40,41,42,56,57,58,77,78,79,102,103,104,105,106,107,108,109]:=by kernel_rfl
theorem AA0:cfg.mode 54=.auto:=by kernel_rfl
theorem AA1:cfg.mode 55=.auto:=by kernel_rfl
theorem ln:cfg.pairs 55 4=[(4,9),(6,9),(7,9),(8,9)]:=by kernel_rfl
theorem lq:cfg.pairs 55 5=[]:=by kernel_rfl
theorem lr:cfg.pairs 55 6=[(4,9),(6,9),(7,9),(8,9)]:=by kernel_rfl
theorem cq:cfg.pairs 55 11=[]:=by kernel_rfl
theorem cr:cfg.pairs 55 12=[]:=by kernel_rfl
theorem ct:cfg.pairs 55 14=[]:=by kernel_rfl
theorem cu:cfg.pairs 55 15=[]:=by kernel_rfl
theorem Ui:cfg.alone 55 15 9=true:=by kernel_rfl
theorem AA2:cfg.mode 57=.auto:=by kernel_rfl
theorem lu:cfg.pairs 57 6=[]:=by kernel_rfl
theorem rm:cfg.live 57 0=[0,1,5]:=by kernel_rfl
theorem AA3:cfg.mode 58=.auto:=by kernel_rfl
theorem AA4:cfg.mode 61=.auto:=by kernel_rfl
theorem rn:cfg.live 61 0=[0,17,18]:=by kernel_rfl
theorem rp:cfg.live 61 2=[0,3,4,17,18]:=by kernel_rfl
theorem AA5:cfg.mode 62=.auto:=by kernel_rfl
theorem AA6:cfg.mode 63=.auto:=by kernel_rfl
theorem rq:cfg.live 63 0=[0,1,2]:=by kernel_rfl
theorem AA7:cfg.mode 65=.own:=by kernel_rfl
theorem ly:cfg.pairs 65 3=[(0,5)]:=by kernel_rfl
theorem l6:cfg.pairs 65 8=[]:=by kernel_rfl
theorem rr:cfg.live 65 0=[3,5,25,26,27]:=by kernel_rfl
theorem AA8:cfg.mode 66=.auto:=by kernel_rfl
theorem l7:cfg.pairs 66 2=[]:=by kernel_rfl
theorem AA9:cfg.mode 75=.auto:=by kernel_rfl
theorem l8:cfg.pairs 75 6=[(5,8),(6,8),(5,9),(6,9),(5,10),(6,10)]:=by kernel_rfl
theorem ABA:cfg.mode 91=.ro:=by kernel_rfl
theorem l9:cfg.pairs 91 5=[]:=by kernel_rfl
theorem cv:cfg.pairs 91 11=[]:=by kernel_rfl
theorem cw:cfg.pairs 91 13=[]:=by kernel_rfl
theorem cy:cfg.pairs 91 14=[(4,9),(6,9),(7,9),(8,9)]:=by kernel_rfl
theorem cz:cfg.pairs 91 30=[(12,17)]:=by kernel_rfl
theorem c9:cfg.pairs 91 31=[]:=by kernel_rfl
theorem dA:cfg.pairs 91 38=[]:=by kernel_rfl
theorem dB:cfg.pairs 91 45=[]:=by kernel_rfl
theorem dC:cfg.pairs 91 46=[]:=by kernel_rfl
theorem dD:cfg.pairs 91 51=[]:=by kernel_rfl
theorem ru:cfg.live 91 0=[0,65,66,67]:=by kernel_rfl
theorem ry:cfg.live 91 2=[0,4,5,92,93,94]:=by kernel_rfl
theorem rz:cfg.live 91 4=[0,4,5,6,7,8,9,92,93,94,155,156]:=by kernel_rfl
theorem r6:cfg.live 91 6=[0,4,5,6,7,8,9,92,93,94,172,173]:=by kernel_rfl
theorem r7:cfg.live 91 8=[0,4,5,6,7,8,92,93,94,192,193,194]:=by kernel_rfl
theorem kL:cfg.live 91 10=[0,4,5,6,7,8,13,92,93,94,192,193,194,255,256,257]:=by kernel_rfl
theorem kN:cfg.live 91 12=[0,303,304,305]:=by kernel_rfl
theorem Uj:cfg.alone 91 5 15=true:=by kernel_rfl
theorem SQ:cfg.alone 91 11 14=true:=by kernel_rfl
theorem SR:cfg.alone 91 13 11=true:=by kernel_rfl
theorem SS:cfg.alone 91 30 20=true:=by kernel_rfl
theorem SU:cfg.alone 91 31 23=true:=by kernel_rfl
theorem SV:cfg.alone 91 45 27=true:=by kernel_rfl
theorem SW:cfg.alone 91 51 11=true:=by kernel_rfl
theorem ABB:cfg.mode 92=.own:=by kernel_rfl
theorem mB:cfg.pairs 92 1=[(2,4),(2,7),(5,7),(2,10),(5,10),(8,10)]:=by kernel_rfl
theorem ABC:cfg.mode 93=.ro:=by kernel_rfl
theorem mC:cfg.pairs 93 1=[(4,9),(6,9),(7,9),(8,9)]:=by kernel_rfl
theorem mE:cfg.pairs 93 8=[]:=by kernel_rfl
theorem mF:cfg.pairs 93 9=[]:=by kernel_rfl
theorem ABD:cfg.mode 94=.ro:=by kernel_rfl
theorem ABE:cfg.mode 95=.ro:=by kernel_rfl
theorem mG:cfg.pairs 95 1=[(4,9),(6,9),(7,9),(8,9)]:=by kernel_rfl
theorem ABF:cfg.mode 96=.own:=by kernel_rfl
theorem ABG:cfg.mode 99=.auto:=by kernel_rfl
theorem mH:cfg.pairs 99 6=[]:=by kernel_rfl
theorem r8:cfg.live 99 0=[0,1,12,13]:=by kernel_rfl
theorem xT:cfg.mode 100=.auto:=by kernel_rfl
theorem cB:cfg.pairs 100 1=[(4,9),(6,9),(7,9),(8,9)]:=by kernel_rfl
theorem cC:cfg.pairs 100 2=[(4,14),(6,14),(7,14),(9,14),(11,14),(12,14),(13,14)]:=by kernel_rfl
theorem cD:cfg.pairs 100 7=[(4,8)]:=by kernel_rfl
theorem cF:cfg.pairs 100 8=[]:=by kernel_rfl
theorem cG:cfg.pairs 100 9=[]:=by kernel_rfl
theorem YT:cfg.pairs 100 13=[(2,6),(2,8)]:=by kernel_rfl
theorem jX:cfg.live 100 0=[0,3,4,5,6,35,36,37]:=by kernel_rfl
theorem SK:cfg.alone 100 13 9=true:=by kernel_rfl
theorem xU:cfg.mode 101=.raw:=by kernel_rfl
theorem cH:cfg.pairs 101 5=[]:=by kernel_rfl
theorem xV:cfg.mode 102=.auto:=by kernel_rfl
theorem cJ:cfg.pairs 102 8=[(0,7)]:=by kernel_rfl
theorem YU:cfg.pairs 102 12=[]:=by kernel_rfl
theorem jY:cfg.live 102 0=[1,2,15,16]:=by kernel_rfl
theorem jZ:cfg.live 102 2=[2,51,52,53]:=by kernel_rfl
theorem xX:cfg.mode 103=.auto:=by kernel_rfl
theorem cK:cfg.pairs 103 0=[(4,10),(4,12)]:=by kernel_rfl
theorem xY:cfg.mode 107=.auto:=by kernel_rfl
theorem xZ:cfg.mode 109=.auto:=by kernel_rfl
theorem xb:cfg.mode 110=.auto:=by kernel_rfl
theorem cL:cfg.pairs 110 1=[(4,9),(6,9),(7,9),(8,9)]:=by kernel_rfl
theorem YV:cfg.pairs 110 13=[]:=by kernel_rfl
theorem YW:cfg.pairs 110 14=[]:=by kernel_rfl
theorem jb:cfg.live 110 0=[0,3,4,5,20,21,22]:=by kernel_rfl
theorem xc:cfg.mode 111=.auto:=by kernel_rfl
theorem cM:cfg.pairs 111 1=[]:=by kernel_rfl
theorem jc:cfg.live 111 0=[0,3,15,16,17]:=by kernel_rfl
theorem xd:cfg.mode 112=.auto:=by kernel_rfl
theorem cN:cfg.pairs 112 1=[(4,9),(6,9),(7,9),(8,9)]:=by kernel_rfl
theorem cP:cfg.pairs 112 2=[(4,9),(6,9),(7,9),(8,9)]:=by kernel_rfl
theorem cQ:cfg.pairs 112 3=[(1,6),(3,6),(1,8),(3,8),(5,8),(6,8)]:=by kernel_rfl
theorem cR:cfg.pairs 112 7=[(1,11)]:=by kernel_rfl
theorem YX:cfg.pairs 112 12=[(1,11)]:=by kernel_rfl
theorem YY:cfg.pairs 112 17=[(5,17),(10,17),(11,17),(5,19)]:=by kernel_rfl
theorem YZ:cfg.pairs 112 22=[(5,10),(5,12)]:=by kernel_rfl
theorem Ya:cfg.pairs 112 24=[(5,7)]:=by kernel_rfl
theorem Yb:cfg.pairs 112 31=[(2,7),(7,9)]:=by kernel_rfl
theorem Yc:cfg.pairs 112 33=[]:=by kernel_rfl
theorem je:cfg.live 112 0=[0,3,4,5,6,43,44]:=by kernel_rfl
theorem jf:cfg.live 112 2=[0,3,4,5,6,64,65]:=by kernel_rfl
theorem jg:cfg.live 112 4=[0,3,4,5,6,84,85,86]:=by kernel_rfl
theorem jh:cfg.live 112 6=[0,3,4,5,6,117,118,119]:=by kernel_rfl
theorem jk:cfg.live 112 8=[0,3,4,6,175,176,177]:=by kernel_rfl
theorem QJ:cfg.alone 112 31 10=true:=by kernel_rfl
theorem SL:cfg.alone 112 33 9=true:=by kernel_rfl
theorem xe:cfg.mode 113=.auto:=by kernel_rfl
theorem cT:cfg.pairs 113 1=[(4,9),(6,9),(7,9),(8,9)]:=by kernel_rfl
theorem cU:cfg.pairs 113 2=[(2,9),(2,10),(2,12),(9,16),(10,16),(12,16),(9,18),(10,18),(12,18)]:=by kernel_rfl
theorem SM:cfg.alone 113 2 19=true:=by kernel_rfl
theorem xf:cfg.mode 114=.auto:=by kernel_rfl
theorem cV:cfg.pairs 114 1=[(5,12),(7,12),(9,12),(5,14)]:=by kernel_rfl
theorem xg:cfg.mode 119=.auto:=by kernel_rfl
theorem xh:cfg.mode 120=.auto:=by kernel_rfl
theorem xj:cfg.mode 146=.ro:=by kernel_rfl
theorem xl:cfg.mode 147=.ro:=by kernel_rfl
theorem jm:cfg.live 147 0=[0,13,14,15]:=by kernel_rfl
theorem xm:cfg.mode 148=.own:=by kernel_rfl
theorem jo:cfg.live 148 0=[1,5,8,9,10]:=by kernel_rfl
theorem xp:cfg.mode 150=.own:=by kernel_rfl
theorem jq:cfg.live 150 0=[1,5,8,9,10]:=by kernel_rfl
theorem cX:cfg.pairs 151 1=[(1,6),(3,6)]:=by kernel_rfl
theorem xq:cfg.mode 152=.own:=by kernel_rfl
theorem xr:cfg.mode 153=.own:=by kernel_rfl
theorem jr:cfg.live 153 0=[1,5,8,9,10]:=by kernel_rfl
theorem xu:cfg.mode 154=.own:=by kernel_rfl
theorem cY:cfg.pairs 154 1=[(1,8),(3,8),(5,8)]:=by kernel_rfl
theorem xw:cfg.mode 155=.own:=by kernel_rfl
theorem xx:cfg.mode 156=.own:=by kernel_rfl
theorem jt:cfg.live 156 0=[1,5,8,9,10]:=by kernel_rfl
theorem cZ:cfg.pairs 157 1=[(1,6),(3,6)]:=by kernel_rfl
theorem ca:cfg.pairs 158 4=[]:=by kernel_rfl
theorem ju:cfg.live 158 0=[0,1,3]:=by kernel_rfl
theorem jv:cfg.live 158 2=[0,1,3,4]:=by kernel_rfl
theorem xy:cfg.mode 159=.auto:=by kernel_rfl
theorem jw:cfg.live 159 0=[0,3,4]:=by kernel_rfl
theorem xz:cfg.mode 160=.own:=by kernel_rfl
theorem yA:cfg.mode 161=.raw:=by kernel_rfl
theorem cb:cfg.pairs 161 5=[]:=by kernel_rfl
theorem yB:cfg.mode 162=.raw:=by kernel_rfl
theorem jx:cfg.live 162 0=[0,1,5,6]:=by kernel_rfl
theorem yC:cfg.mode 163=.ro:=by kernel_rfl
theorem cc:cfg.pairs 163 1=[]:=by kernel_rfl
theorem yD:cfg.mode 165=.auto:=by kernel_rfl
theorem yE:cfg.mode 166=.auto:=by kernel_rfl
theorem yF:cfg.mode 180=.ro:=by kernel_rfl
theorem yG:cfg.mode 181=.own:=by kernel_rfl
theorem jy:cfg.live 181 0=[1,5,8,9,10]:=by kernel_rfl
theorem yH:cfg.mode 183=.own:=by kernel_rfl
theorem j4:cfg.live 183 0=[1,5,8,9,10]:=by kernel_rfl
theorem yI:cfg.mode 185=.ro:=by kernel_rfl
theorem j5:cfg.live 185 0=[0,1,7,8]:=by kernel_rfl
theorem yJ:cfg.mode 186=.auto:=by kernel_rfl
theorem yK:cfg.mode 187=.auto:=by kernel_rfl
theorem j6:cfg.live 187 0=[0,2,5,9,10]:=by kernel_rfl
theorem yL:cfg.mode 190=.own:=by kernel_rfl
theorem cd:cfg.pairs 190 7=[(0,4),(4,6),(4,7),(0,8),(2,8),(3,8),(4,8),(4,10),(8,10),(4,11),(8,11),(0,12),(2,12),(3,12),(4,12),(6,12),(7,12),(8,12)]:=by kernel_rfl
theorem j7:cfg.live 190 0=[1,24,25,26]:=by kernel_rfl
theorem yM:cfg.mode 199=.auto:=by kernel_rfl
theorem yN:cfg.mode 200=.auto:=by kernel_rfl
theorem j8:cfg.live 200 0=[0,5,6]:=by kernel_rfl
theorem yO:cfg.mode 201=.auto:=by kernel_rfl
theorem cf:cfg.pairs 201 1=[]:=by kernel_rfl
theorem cg:cfg.pairs 201 4=[(4,7),(5,7)]:=by kernel_rfl
theorem Yd:cfg.pairs 201 14=[]:=by kernel_rfl
theorem Ye:cfg.pairs 201 25=[]:=by kernel_rfl
theorem Yf:cfg.pairs 201 26=[(4,9),(6,9),(7,9),(8,9)]:=by kernel_rfl
theorem Yg:cfg.pairs 201 32=[(2,6)]:=by kernel_rfl
theorem j9:cfg.live 201 1=[0,2,6,154,155,156]:=by kernel_rfl
theorem kA:cfg.live 201 3=[0,2,6,11,190,191,192]:=by kernel_rfl
theorem kB:cfg.live 201 5=[0,2,6,207,208,209]:=by kernel_rfl
theorem kC:cfg.live 201 7=[0,2,220,221,222]:=by kernel_rfl
theorem SO:cfg.alone 201 4 10=true:=by kernel_rfl
theorem QK:cfg.alone 201 14 25=true:=by kernel_rfl
theorem SN:cfg.alone 201 32 8=true:=by kernel_rfl
theorem yP:cfg.mode 202=.auto:=by kernel_rfl
theorem yQ:cfg.mode 210=.own:=by kernel_rfl
theorem yR:cfg.mode 211=.auto:=by kernel_rfl
theorem yS:cfg.mode 212=.auto:=by kernel_rfl
theorem yT:cfg.mode 213=.auto:=by kernel_rfl
theorem Yh:cfg.pairs 213 23=[]:=by kernel_rfl
theorem kD:cfg.live 213 0=[1,2,31,32,33]:=by kernel_rfl
theorem kE:cfg.live 213 2=[1,2,52,53,54]:=by kernel_rfl
theorem kF:cfg.live 213 4=[1,2,7,72,73,74]:=by kernel_rfl
theorem kG:cfg.live 213 6=[1,2,7,9,72,73,74,94,95,96]:=by kernel_rfl
theorem QL:cfg.alone 213 23 29=true:=by kernel_rfl
theorem yU:cfg.mode 214=.auto:=by kernel_rfl
theorem yV:cfg.mode 215=.auto:=by kernel_rfl
theorem kH:cfg.live 215 0=[2,5,9,10,11]:=by kernel_rfl
theorem yW:cfg.mode 216=.auto:=by kernel_rfl
theorem kI:cfg.live 216 0=[0,1,7,8]:=by kernel_rfl
theorem yX:cfg.mode 217=.auto:=by kernel_rfl
theorem kJ:cfg.live 217 1=[1,4,73,74,75]:=by kernel_rfl
theorem yY:cfg.mode 218=.auto:=by kernel_rfl
theorem yZ:cfg.mode 219=.auto:=by kernel_rfl
theorem ya:cfg.mode 220=.auto:=by kernel_rfl
theorem kK:cfg.live 220 0=[0,1,7,8]:=by kernel_rfl
theorem yb:cfg.mode 236=.auto:=by kernel_rfl
theorem yc:cfg.mode 237=.auto:=by kernel_rfl
theorem yd:cfg.mode 238=.auto:=by kernel_rfl
theorem ye:cfg.mode 239=.auto:=by kernel_rfl
theorem yf:cfg.mode 240=.auto:=by kernel_rfl
theorem pN:cfg.caught 50=some 177:=Eq.trans (b:=cfg.caught 50) rfl (by kernel_rfl)
theorem TB:cfg.caught 189=some 289:=Eq.trans (b:=cfg.caught 189) rfl (by kernel_rfl)
attribute [go_sem] T3 T4 T5 T9 T22 T23 T24 T26 T27 T28 T29 T30 T32 T33 T36 T38 T44 T63 T66 T67 T69 T71 T73 T78 T82 T83 T85 T86 T88 ADT ADU ADV ADW ADX ADY ADZ ADa ADb ADe ADf ADg ADh ADi ADj ADk ADl ADm ADn ADo ADp ADq zx ADr ADs ADt ADu ADv ADw ADx zy cW AAp AAq AAr AAs AAt lf lg AAu lh cj ck cm rY rZ ra rb AAv lj re AAw AAx lk rf AAy AAz ll cn cp rh rj rk rl AA0 AA1 ln lq lr cq cr ct cu Ui AA2 lu rm AA3 AA4 rn rp AA5 AA6 rq AA7 ly l6 rr AA8 l7 AA9 l8 ABA l9 cv cw cy cz c9 dA dB dC dD ru ry rz r6 r7 kL kN Uj SQ SR SS SU SV SW ABB mB ABC mC mE mF ABD ABE mG ABF ABG mH r8 xT cB cC cD cF cG YT jX SK xU cH xV cJ YU jY jZ xX cK xY xZ xb cL YV YW jb xc cM jc xd cN cP cQ cR YX YY YZ Ya Yb Yc je jf jg jh jk QJ SL xe cT cU SM xf cV xg xh xj xl jm xm jo xp jq cX xq xr jr xu cY xw xx jt cZ ca ju jv xy jw xz yA cb yB jx yC cc yD yE yF yG jy yH j4 yI j5 yJ yK j6 yL cd j7 yM yN j8 yO cf cg Yd Ye Yf Yg j9 kA kB kC SO QK SN yP yQ yR yS yT Yh kD kE kF kG QL yU yV kH yW kI yX kJ yY yZ ya kK yb yc yd ye yf pN TB
end Go.Proofs
namespace Go.Proofs
open Go Go.Abs
inductive B4 where
 |mk (op n:Int) (kids:List B4)
def B4.op:B4→Int|.mk o _ _=>o
def B4.n:B4→Int|.mk _ n _=>n
def B4.kids:B4→List B4|.mk _ _ k=>k
structure Cc where
 kind:Int
 n:Int
 deriving DecidableEq
structure Cd where
 op:Int
 n:Int
 args:List B4
 kids:List Int
structure HP where
 at_:Int
 many:Int
structure MH where
 in_:Int
 node:Int
structure FP where
 at_:Int
 joins:List Int
 node:Int
structure CH where
 chans:List HP
 spots:List MH
 rules:List FP
structure AJ where
 free:List ByteArray
 nodes:List Cd
 defs:List CH
 main:Int
structure BC where
 in_:Int
 dead:Bool
 deriving DecidableEq
structure Ah where
 def_:Int
 at_:Int
 env:List Cc
structure Fa where
 group:Int
 index:Int
 at_:Int
 queue:List (List Cc)
structure E7 where
 at_:Int
 node:Int
 env:List Cc
structure A8 where
 spots:List BC
 groups:List Ah
 chans:List Fa
 waits:List E7
structure CJ where
 wait:Int
 group:Int
 rule:Int
 picks:List Int
structure Iy where
 deed:Int
 at_:Int
 n:Int
 m:Int
 vals:List Cc
mutual
def Bs:B4→List AW
 |.mk op n kids=>[.int .i64 op,.int .i64 n,.lst (Pw kids)]
def Pw:List B4→List (List AW)
 |[]=>[]
 |x::l=>Bs x::Pw l
end
theorem Qo: ∀l,Pw l=l.map Bs
 |[]=>rfl
 |x::l=>by simp[Pw,Qo l]
theorem TN(x:B4):Bs x=[.int .i64 x.op,.int .i64 x.n,.lst (x.kids.map Bs)]:=by
 cases x;simp[Bs,Qo,B4.op,B4.n,B4.kids]
theorem B4.ind{p:B4→Prop}(h: ∀op n kids,(∀k∈kids,p k)→p (.mk op n kids)): ∀x,p x:=by
 intro x;refine B4.rec (motive_1:=p) (motive_2:=fun l=> ∀k∈l,p k) (fun op n kids ih=>h op n kids ih) (by simp) (fun a l h1 h2 k hk=>?_) x;rcases List.mem_cons.1 hk with rfl|hk
 .exact h1
 .exact h2 k hk
theorem B4.op_mk(o n:Int)(k:List B4):(B4.mk o n k).op=o:=rfl
theorem B4.n_mk(o n:Int)(k:List B4):(B4.mk o n k).n=n:=rfl
theorem B4.kids_mk(o n:Int)(k:List B4):(B4.mk o n k).kids=k:=rfl
def AO(n:Int):List AW:=[.int .i64 n]
def Bt(s:ByteArray):List AW:=[.str s]
def AN(v:Cc):List AW:=[.int .i64 v.kind,.int .i64 v.n]
def BQ(x:Cd):List AW:=[.int .i64 x.op,.int .i64 x.n,.lst (x.args.map Bs),.lst (x.kids.map AO)]
def BK(c:HP):List AW:=[.int .i64 c.at_,.int .i64 c.many]
def BB(s:MH):List AW:=[.int .i64 s.in_,.int .i64 s.node]
def BJ(r:FP):List AW:=[.int .i64 r.at_,.lst (r.joins.map AO),.int .i64 r.node]
def B6(d:CH):List AW:=[.lst (d.chans.map BK),.lst (d.spots.map BB),.lst (d.rules.map BJ)]
def Af(s:BC):List AW:=[.int .i64 s.in_,.bool s.dead]
def A3(g:Ah):List AW:=[.int .i64 g.def_,.int .i64 g.at_,.lst (g.env.map AN)]
def BG(m:List Cc):List AW:=[.lst (m.map AN)]
def CK(c:Fa):List AW:=[.int .i64 c.group,.int .i64 c.index,.int .i64 c.at_,.lst (c.queue.map BG)]
def AR(w:E7):List AW:=[.int .i64 w.at_,.int .i64 w.node,.lst (w.env.map AN)]
def Qn(x:Iy):List AW:=[.int .i64 x.deed,.int .i64 x.at_,.int .i64 x.n,.int .i64 x.m,.lst (x.vals.map AN)]
def KC(x:CJ):List AW:=[.int .i64 x.wait,.int .i64 x.group,.int .i64 x.rule,.lst (x.picks.map AO)]
def ve(p:AJ):List AW:=[.lst (p.free.map Bt),.lst (p.nodes.map BQ),.lst (p.defs.map B6),.int .i64 p.main]
def AAL(s:A8):List AW:=[.lst (s.spots.map Af),.lst (s.groups.map A3),.lst (s.chans.map CK),.lst (s.waits.map AR)]
attribute [go_sem] TN AO Bt AN BQ BK BB BJ B6 Af A3 BG CK AR Qn KC B4.op_mk B4.n_mk B4.kids_mk
theorem slice_int{l:List Int}{g:G}{k:IntKind}{m:Int}(h0:0≤m)(hm:m≤l.length):EN g .slice 1 (.d (.lst (l.map AO))) none (some (.d (.int k m))) none=some (.d (.lst ((l.take m.toNat).map AO))):=dp (fun _=>rfl) h0 hm
def i64(n:Int):Prop:= -9223372036854775808≤n∧n<9223372036854775808
theorem wrap_id{n:Int}(h1: -9223372036854775808≤n)(h2:n<9223372036854775808):IntKind.i64.wrap n=n:=by
 have hb:IntKind.i64.bits=64:=rfl;have hs:IntKind.i64.signed=true:=rfl;simp only[IntKind.wrap,hb,hs,Bool.true_and,decide_eq_true_eq];have e1:(2 ^ 64:Int)=18446744073709551616:=by decide
 have e2:(2 ^ (64-1):Int)=9223372036854775808:=by decide
 rw[e1,e2];split<;>omega
end Go.Proofs
namespace Go.Proofs
open Go Go.Abs
def A9(l:List BC)(i:Int):Int:=((l[i.toNat]?).map BC.in_).getD 0
def Ei(l:List BC)(i:Int):Prop:=0≤i∧i<l.length
instance(l:List BC)(i:Int):Decidable (Ei l i):=by unfold Ei;infer_instance
def BD(l:List BC):Nat→Int→Bool
 |0,at_=>decide (at_=0)
 |k+1,at_=>decide (at_=0)||(decide (Ei l (A9 l at_))&&BD l k (A9 l at_))
theorem FR(l:List BC)(k:Nat):BD l k 0=true:=by cases k<;>simp[BD]
theorem Qe(l:List BC): ∀(k:Nat) (i:Int),BD l k i=true→BD l (k+1) i=true
 |0,i,h=>by simp[BD]at h;subst h;exact FR _ _
 |k+1,i,h=>by
  rw[BD]at h⊢;by_cases h0:i=0
  .simp[h0]
  .simp only[h0,decide_false,Bool.false_or,Bool.and_eq_true]at h⊢;exact⟨h.1,Qe l k _ h.2⟩
theorem Kp{l:List BC}{i:Int}{k m:Nat}(h:k≤m)(hc:BD l k i=true):BD l m i=true:=by
 induction h with
 |refl=>exact hc
 |step _ ih=>exact Qe l _ i ih
theorem sw: ∀(n:Nat) (l:List Nat),l.Nodup→(∀x∈l,x<n)→l.length≤n
 |0,l,_,h=>by
  cases l with
  |nil=>simp
  |cons a l=>exact absurd (h a (by simp)) (by omega)
 |n+1,l,hn,h=>by
  have h1:=sw n (l.erase n) (hn.erase n) (fun x hx=>by
   have hx2:=(List.Nodup.mem_erase_iff hn).1 hx;have:=h x hx2.2;omega)
  by_cases hm:n∈l
  .rw[List.length_erase_of_mem hm]at h1;omega
  .rw[List.erase_of_not_mem hm]at h1;omega
theorem Qd(l:List BC)(hl:0<l.length): ∀(k:Nat) (i:Int),Ei l i→BD l k i=true→(∀j,j<k→BD l j i=false)→ ∃p:List Nat,p.length=k+1∧p.Nodup∧(∀x∈p,x<l.length)∧ ∀x∈p,∃j,j≤k∧BD l j x=true∧ ∀m,m<j→BD l m x=false
 |0,i,hi,hc,hm=>⟨[0],rfl,by simp,by simp[hl],by
  intro x hx;cases List.mem_singleton.1 hx;exact⟨0,Nat.le_refl _,FR _ _,fun m hm=>by omega⟩⟩
 |k+1,i,hi,hc,hm=>by
  have h0: ¬i=0:=fun h=>by
   have:=hm 0 (by omega);rw[h,FR]at this;cases this
  have hc2:=hc;rw[BD]at hc2;simp only[h0,decide_false,Bool.false_or,Bool.and_eq_true,decide_eq_true_eq]at hc2;obtain⟨p,hp1,hp2,hp3,hp4⟩:=Qd l hl k (A9 l i) hc2.1 hc2.2 (fun j hj=>by
   have:=hm (j+1) (by omega);rw[BD]at this;simp only[h0,decide_false,Bool.false_or,Bool.and_eq_false_iff,decide_eq_false_iff_not]at this;rcases this with h|h
   .exact absurd hc2.1 h
   .exact h)
  refine⟨i.toNat::p,by simp[hp1],?_,?_,?_⟩
  .refine List.nodup_cons.2 ⟨fun hmem=>?_,hp2⟩;obtain⟨j,hj1,hj2,_⟩:=hp4 _ hmem;have hcast:((i.toNat:Nat):Int)=i:=Int.toNat_of_nonneg hi.1;rw[hcast]at hj2;have:=hm j (by omega);rw[hj2]at this;cases this
  .intro x hx;rcases List.mem_cons.1 hx with rfl|hx
   .have:=hi.1;have:=hi.2;omega
   .exact hp3 x hx
  .intro x hx;rcases List.mem_cons.1 hx with rfl|hx
   .have hcast:((i.toNat:Nat):Int)=i:=Int.toNat_of_nonneg hi.1;rw[hcast];exact⟨k+1,Nat.le_refl _,hc,hm⟩
   .obtain⟨j,hj1,hj2⟩:=hp4 x hx;exact⟨j,by omega,hj2⟩
theorem TE{l:List BC}{i:Int}: ∀{k:Nat},BD l k i=true→ ∃m,m≤k∧BD l m i=true∧ ∀j,j<m→BD l j i=false
 |0,h=>⟨0,Nat.le_refl _,h,fun j hj=>by omega⟩
 |k+1,h=>by
  cases hk:BD l k i with
  |true=>
   obtain⟨m,h1,h2,h3⟩:=TE hk;exact⟨m,by omega,h2,h3⟩
  |false=>
   refine⟨k+1,Nat.le_refl _,h,fun j hj=>?_⟩;cases hj2:BD l j i with
   |false=>rfl
   |true=>
    have:=Kp (show j≤k by omega) hj2;rw[hk]at this;cases this
theorem PH{l:List BC}{i:Int}{k:Nat}(hi:Ei l i)(h:BD l k i=true):BD l (l.length-1) i=true:=by
 have hl:0<l.length:=by have:=hi.1;have:=hi.2;omega
 obtain⟨m,_,h2,h3⟩:=TE h;obtain⟨p,hp1,hp2,hp3,_⟩:=Qd l hl m i hi h2 h3;have:=sw l.length p hp2 hp3;exact Kp (by omega) h2
def IJ(l:List BC):Nat→Nat→Bool
 |_,0=>true
 |i,n+1=>BD l l.length i&&IJ l (i+1) n
def Ir(l:List BC):Bool:=decide (0<l.length)&&(decide (A9 l 0= -1)&&IJ l 0 l.length)
theorem J9(l:List BC): ∀(n i:Nat),IJ l i n=true↔ ∀j,i≤j→j<i+n→BD l l.length j=true
 |0,i=>by simp[IJ];intro j h1 h2;omega
 |n+1,i=>by
  rw[IJ,Bool.and_eq_true,J9 l n (i+1)];constructor
  .rintro⟨h1,h2⟩ j h3 h4;by_cases h5:j=i
   .subst h5;exact h1
   .exact h2 j (by omega) (by omega)
  .intro h;exact⟨h i (by omega) (by omega),fun j h1 h2=>h j (by omega) (by omega)⟩
def Pr(l:List BC):Nat→Int→List Int
 |0,b=>[b]
 |k+1,b=>if b=0 then [0]else b::Pr l k (A9 l b)
theorem QM(l:List BC): ∀(k m:Nat) (b:Int),BD l k b=true→k≤m→Pr l m b=Pr l k b
 |0,m,b,h,hm=>by
  simp[BD]at h;subst h;cases m<;>simp[Pr]
 |k+1,m,b,h,hm=>by
  obtain⟨m,rfl⟩: ∃j,m=j+1:=⟨m-1,by omega⟩;rw[Pr,Pr];split
  .rfl
  .rename_i h0;rw[BD]at h;simp only[h0,decide_false,Bool.false_or,Bool.and_eq_true]at h;rw[QM l k m _ h.2 (by omega)]
def Ck(l:List BC)(b a:Int):Bool:=decide (a∈Pr l l.length b)
structure Fo(l:List BC):Prop where
 pos:0<l.length
 top:A9 l 0= -1
 climbs: ∀i,Ei l i→BD l l.length i=true
theorem ZR{l:List BC}(h:Ir l=true):Fo l:=by
 simp only[Ir,Bool.and_eq_true,decide_eq_true_eq]at h;refine⟨h.1,h.2.1,fun i hi=>?_⟩;have:=(J9 l l.length 0).1 h.2.2 i.toNat (by omega) (by have:=hi.1;have:=hi.2;omega)
 rwa [Int.toNat_of_nonneg hi.1]at this
theorem tz{l:List BC}(h:Fo l):Ir l=true:=by
 simp only[Ir,Bool.and_eq_true,decide_eq_true_eq];refine⟨h.pos,h.top,(J9 l l.length 0).2 fun j h1 h2=>h.climbs j ⟨by omega,by omega⟩⟩
end Go.Proofs
namespace Go.Proofs
open Go Go.Abs
def Cc.inB(p:AJ)(nc ns:Nat)(v:Cc):Bool:=
 if v.kind=1 then decide (-1000000000≤v.n)&&decide (v.n≤1000000000)else if v.kind=2 then decide (0≤v.n)&&decide (v.n<p.free.length)
 else if v.kind=3 then decide (0≤v.n)&&decide (v.n<nc)else if v.kind=4 then decide (0≤v.n)&&decide (v.n<ns)else false
theorem vE{l:List BC}{k:Nat}{b:Int}(h: ¬b=0)(hc:BD l (k+1) b=true):Pr l (k+1) b=b::Pr l k (A9 l b):=by
 rw[Pr,if_neg h]
theorem Gb{l:List BC}{k:Nat}{b:Int}(h: ¬b=0)(hc:BD l (k+1) b=true):Ei l (A9 l b)∧BD l k (A9 l b)=true:=by
 rw[BD]at hc;simp only[h,decide_false,Bool.false_or,Bool.and_eq_true,decide_eq_true_eq]at hc;exact hc
end Go.Proofs
namespace Go.Proofs
open Go Go.Abs
theorem oj(l:List BC)(k:Nat)(c:Int):c∈Pr l k c:=by
 cases k with
 |zero=>simp[Pr]
 |succ k=>
  rw[Pr];split
  .rename_i h;simp[h]
  .simp
theorem om(l:List BC)(k:Nat):Pr l k 0=[0]:=by cases k<;>simp[Pr]
end Go.Proofs
namespace Go.Proofs
open Go Go.Abs
set_option maxRecDepth 100000
set_option maxHeartbeats 2000000
def B4.formed(size:Int):B4→Bool
 |.mk op n kids=>
  if op=1 then decide (kids.length=0)&&(decide (-1000000000≤n)&&decide (n≤1000000000))
  else if op=2 then decide (kids.length=0)&&(decide (0≤n)&&decide (n<size))
  else if op<3 then false
  else if 7<op then false
  else if n=0 then match kids with
   |[a,b]=>a.formed size&&b.formed size
   |_=>false
  else false
theorem ZS{α:Type}{kids:List α}(hk:kids.length=2): ∃a b,kids=[a,b]:=by
 rcases kids with _|⟨a,_|⟨b,_|⟨c,l⟩⟩⟩<;>simp at hk;exact⟨a,b,rfl⟩
@[go_sem] theorem ABv(k n:Int):BM (KL Tryz.prog cfg) 119 [.agg [.d (.int .i64 k),.d (.int .i64 n)]] []=.ok (.ret (.d (.int .i64 (if k=1 then n else 0))),[]):=by
  (refine Ay rfl Tryz.func119 rfl rfl rfl ?_;show Wp _ _ _ _ (Tryz.f119.body.get rfl) _ _;simp only[Tryz.f119,Option.get_some])
  exact au
@[go_sem] theorem ACz(t:Bool):BM (KL Tryz.prog cfg) 120 [.d (.bool t)] []=.ok (.ret (.d (.int .i64 (if t=true then 1 else 0))),[]):=by
  (refine Ay rfl Tryz.func120 rfl rfl rfl ?_;show Wp _ _ _ _ (Tryz.f120.body.get rfl) _ _;simp only[Tryz.f120,Option.get_some])
  exact au;all_goals grind
def OT(n:Int):Int:=min (max n (-1000000000)) 1000000000
def bu(v:Cc):Int:=if v.kind=1 then v.n else 0
def opV(op a b:Int):Int:=if op=3 then IntKind.i64.wrap (a+b)else if op=4 then IntKind.i64.wrap (a-b)else if op=5 then IntKind.i64.wrap (a*b)else if op=6 then(if a<b then 1 else 0)else if a=b then 1 else 0
def B4.value(env:List Cc):B4→Cc
 |.mk op n kids=>
  if op=1 then⟨1,n⟩
  else if op=2 then(env[n.toNat]?).getD ⟨0,0⟩
  else match kids with
   |[a,b]=>⟨1,OT (opV op (bu (a.value env)) (bu (b.value env)))⟩
   |_=>⟨0,0⟩
theorem UU(env:List Cc)(n:Int)(kids:List B4):(B4.mk 1 n kids).value env=⟨1,n⟩:=by
 rcases kids with _|⟨a,_|⟨b,_|⟨c,l⟩⟩⟩<;>simp[B4.value]
theorem SC(env:List Cc)(n:Int)(kids:List B4):(B4.mk 2 n kids).value env=(env[n.toNat]?).getD ⟨0,0⟩:=by
 rcases kids with _|⟨a,_|⟨b,_|⟨c,l⟩⟩⟩<;>simp[B4.value]
theorem UR(env:List Cc)(op n:Int)(a b:B4)(h1: ¬op=1)(h2: ¬op=2):(B4.mk op n [a,b]).value env=⟨1,OT (opV op (bu (a.value env)) (bu (b.value env)))⟩:=by
 simp[B4.value,h1,h2]
theorem PO{size n:Int}{kids:List B4}(h:(B4.mk 2 n kids).formed size=true):0≤n∧n<size:=by
 rcases kids with _|⟨a,_|⟨b,_|⟨c,l⟩⟩⟩<;>simp[B4.formed]at h;exact h
theorem Q0{size op n:Int}{kids:List B4}(h:(B4.mk op n kids).formed size=true)(h1: ¬op=1)(h2: ¬op=2):3≤op∧op≤7∧n=0∧ ∃a b,kids=[a,b]∧a.formed size=true∧b.formed size=true:=by
 rcases kids with _|⟨a,_|⟨b,_|⟨c,l⟩⟩⟩<;>simp[B4.formed,h1,h2]at h;exact⟨h.1,h.2.1,h.2.2.1,a,b,rfl,h.2.2.2⟩
end Go.Proofs
namespace Go.Proofs
open Go Go.Abs
set_option maxRecDepth 100000
set_option maxHeartbeats 2000000
@[go_sem] theorem uU(env:List Cc)(x:B4)(hf:x.formed env.length=true):BM (KL Tryz.prog cfg) 75 [.agg [.d (.int .i64 x.op),.d (.int .i64 x.n),.d (.lst (x.kids.map Bs))],.d (.lst (env.map AN))] []=.ok (.ret (.agg [.d (.int .i64 (x.value env).kind),.d (.int .i64 (x.value env).n)]),[]):=by
  induction x using B4.ind with
  |h op n kids ih=>
  simp only[B4.op_mk,B4.n_mk,B4.kids_mk]
  (refine Ay rfl Tryz.func75 rfl rfl rfl ?_;show Wp _ _ _ _ (Tryz.f75.body.get rfl) _ _;simp only[Tryz.f75,Option.get_some])
  by_cases h1:op=1
  .subst h1;clear ih
   (repeat' (first|simp only[go_sem, *,UU]|(refine sx ?_ ?_<;>intro hc)|refine sy (by omega) fun x hx hm=>?_|simp(disch:=first|assumption|omega) only[wrap_id,AK,AH,slice_int]))
  by_cases h2:op=2
  .subst h2;clear ih;obtain⟨hn,hl⟩:=PO hf;have hl:n.toNat<env.length:=by omega
   clear hf
   (repeat' (first|simp only[go_sem, *,SC,Option.getD_some]|(refine sx ?_ ?_<;>intro hc)|refine sy (by omega) fun x hx hm=>?_|simp(disch:=first|assumption|omega) only[wrap_id,AK,AH,slice_int]))
  obtain⟨h3,h4,h5,a,b,rfl,hfa,hfb⟩:=Q0 hf h1 h2;have ha:=ih a (by simp) hfa;have hb:=ih b (by simp) hfb;clear ih hf;rw[UR env op n a b h1 h2];generalize a.value env=u at*;generalize b.value env=v at*
  (repeat' (first|simp only[go_sem, *]|(refine sx ?_ ?_<;>intro hc)|refine sy (by omega) fun x hx hm=>?_|simp(disch:=first|assumption|omega) only[wrap_id,AK,AH,slice_int]))
  all_goals grind [bu,OT,opV]
theorem Ae{α:Type}{l:List α}{i:Nat}{x:α}(h:l[i]? =some x):l.drop i=x::l.drop (i+1):=by
 have hi:=(List.getElem?_eq_some_iff.1 h).1;rw[List.drop_eq_getElem_cons hi];congr 1;have:=List.getElem?_eq_getElem hi;rw[h]at this;injection this with this
 exact this.symm
theorem AI{α:Type}{l:List α}{i:Nat}{x:α}(h:l[i]? =some x):i<l.length:=(List.getElem?_eq_some_iff.1 h).1
mutual
def B4.size:B4→Nat
 |.mk _ _ kids=>1+Hf kids
def Hf:List B4→Nat
 |[]=>0
 |k::l=>k.size+Hf l
end
mutual
def B4.depth:B4→Nat
 |.mk _ _ kids=>HS kids+1
def HS:List B4→Nat
 |[]=>0
 |k::l=>max k.depth (HS l)
end
theorem ZE(x:B4):1≤x.size:=by cases x;simp[B4.size]
def B4.ok(size:Int)(x:B4):Bool:=decide (x.size≤60)&&(decide (x.depth≤12)&&x.formed size)
def Cc.ok(v:Cc):Bool:=decide (1≤v.kind)&&(decide (v.kind≤4)&&(!decide (v.kind=1)||(decide (-1000000000≤v.n)&&decide (v.n≤1000000000))))
end Go.Proofs
namespace Go.Proofs
open Go Go.Abs
set_option maxRecDepth 100000
set_option maxHeartbeats 2000000
def GW:AV:=.iface 289 (.agg [.d (.int .i64 2)])
theorem aR:flat GW=true:=by simp[GW,flat,Ev,Dg]
@[go_sem] theorem zg(l:List Df)(h:AB)(id:Abs.Id)(off:Nat):Cr cfg none (.call 189 [.ptr id off]::l) (some GW) h=VQ cfg none l h id off .i64 2 (h.get id):=by
  rw[GW,Nj TB (ZU _)]
attribute [go_sem] aR
@[go_sem] theorem AC2(t:Bool):BM (KL Tryz.prog cfg) 199 [.d (.bool t)] []=Bl GW t:=by
  cases t
  .rw[JR]
   (refine Ay rfl Tryz.func199 rfl rfl rfl ?_;show Wp _ _ _ _ (Tryz.f199.body.get rfl) _ _;simp only[Tryz.f199,Option.get_some])
   (repeat' (first|simp only[go_sem, *,GW]|(refine sx ?_ ?_<;>intro hc)|refine sy (by omega) fun x hx hm=>?_|simp(disch:=first|assumption|omega) only[wrap_id,AK,AH,slice_int]))
  .rw[KT]
   (refine Ay rfl Tryz.func199 rfl rfl rfl ?_;show Wp _ _ _ _ (Tryz.f199.body.get rfl) _ _;simp only[Tryz.f199,Option.get_some])
   exact au
def LR(op:Int):AV:=
 if op=1 then .iface 314 (.d (.int .i64 0))else if op=7 then .iface 314 (.d (.int .i64 0))else if op=3 then .iface 314 (.d (.int .i64 2))else if op=2 then .iface 307 (.agg [])else if op=5 then .iface 310 (.agg [])
 else if op=6 then .iface 308 (.agg [])else if op=8 then .iface 308 (.agg [])else if op=4 then .iface 309 (.agg [])else .d .nili
theorem Gk(op:Int):BM (KL Tryz.prog cfg) 211 [.d (.int .i64 op)] []=.ok (.ret (LR op),[]):=by
 (refine Ay rfl Tryz.func211 rfl rfl rfl ?_;show Wp _ _ _ _ (Tryz.f211.body.get rfl) _ _;simp only[Tryz.f211,Option.get_some])
 (repeat' (first|simp only[go_sem, *,LR]|(refine sx ?_ ?_<;>intro hc)|refine sy (by omega) fun x hx hm=>?_|simp(disch:=first|assumption|omega) only[wrap_id,AK,AH,slice_int]))
@[go_sem] theorem ADB:BM (KL Tryz.prog cfg) 236 [.agg []] []=.ok (.ret (.d (.int .i64 0)),[]):=by
  (refine Ay rfl Tryz.func236 rfl rfl rfl ?_;show Wp _ _ _ _ (Tryz.f236.body.get rfl) _ _;simp only[Tryz.f236,Option.get_some])
  exact au
@[go_sem] theorem ADE:BM (KL Tryz.prog cfg) 237 [.agg []] []=.ok (.ret (.d (.int .i64 1)),[]):=by
  (refine Ay rfl Tryz.func237 rfl rfl rfl ?_;show Wp _ _ _ _ (Tryz.f237.body.get rfl) _ _;simp only[Tryz.f237,Option.get_some])
  exact au
@[go_sem] theorem ADF:BM (KL Tryz.prog cfg) 238 [.agg []] []=.ok (.ret (.d (.int .i64 1)),[]):=by
  (refine Ay rfl Tryz.func238 rfl rfl rfl ?_;show Wp _ _ _ _ (Tryz.f238.body.get rfl) _ _;simp only[Tryz.f238,Option.get_some])
  exact au
@[go_sem] theorem ADG:BM (KL Tryz.prog cfg) 239 [.agg []] []=.ok (.ret (.d (.int .i64 2)),[]):=by
  (refine Ay rfl Tryz.func239 rfl rfl rfl ?_;show Wp _ _ _ _ (Tryz.f239.body.get rfl) _ _;simp only[Tryz.f239,Option.get_some])
  exact au
@[go_sem] theorem ADH(n:Int):BM (KL Tryz.prog cfg) 240 [.d (.int .i64 n)] []=.ok (.ret (.d (.int .i64 n)),[]):=by
  (refine Ay rfl Tryz.func240 rfl rfl rfl ?_;show Wp _ _ _ _ (Tryz.f240.body.get rfl) _ _;simp only[Tryz.f240,Option.get_some])
  exact au
def CH.own(d:CH):Nat:=d.chans.length+d.spots.length
theorem ABQ(d:CH)(h1:d.chans.length≤1000)(h2:d.spots.length≤1000):BM (KL Tryz.prog cfg) 214 [.agg [.d (.lst (d.chans.map BK)),.d (.lst (d.spots.map BB)),.d (.lst (d.rules.map BJ))]] []=.ok (.ret (.d (.int .i64 d.own)),[]):=by
 (refine Ay rfl Tryz.func214 rfl rfl rfl ?_;show Wp _ _ _ _ (Tryz.f214.body.get rfl) _ _;simp only[Tryz.f214,Option.get_some])
 refine aw ?_;all_goals simp[CH.own]
end Go.Proofs
namespace Go.Proofs
open Go Go.Abs
set_option maxRecDepth 100000
set_option maxHeartbeats 2000000
def DF(d:CH):List Int→Int
 |[]=>0
 |j::l=>((d.chans[j.toNat]?).map HP.many).getD 0+DF d l
def CH.joinsOk(d:CH)(r:FP):Prop:=r.joins.length≤3∧(∀j∈r.joins,0≤j∧j<d.chans.length)∧ ∀c∈d.chans,0≤c.many∧c.many≤3
theorem get_some{α:Type}{l:List α}{i:Nat}(h:i<l.length): ∃y,l[i]? =some y:=⟨_,List.getElem?_eq_getElem h⟩
theorem fx(d:CH)(r:FP)(hj:d.joinsOk r):BM (KL Tryz.prog cfg) 215 [.agg [.d (.lst (d.chans.map BK)),.d (.lst (d.spots.map BB)),.d (.lst (d.rules.map BJ))],.agg [.d (.int .i64 r.at_),.d (.lst (r.joins.map AO)),.d (.int .i64 r.node)]] []=.ok (.ret (.d (.int .i64 (DF d r.joins))),[]):=by
 obtain⟨h1,h2',h3'⟩:=hj;have h2:=AA.mk h2';have h3:=AA.mk h3';clear h2' h3'
 (refine Ay rfl Tryz.func215 rfl rfl rfl ?_;show Wp _ _ _ _ (Tryz.f215.body.get rfl) _ _;simp only[Tryz.f215,Option.get_some])
 refine aw ?_;refine rounds (S:=fun a:Nat×Int=>⟨[(2,.ptr [0,0] 0),(5,.d (.int .i64 a.2)),(9,.d (.lst (r.joins.map AO))),(10,.d (.int .i64 r.joins.length)),(11,.d (.int .i64 a.1))],[([0,0],.box [.d (.lst (d.chans.map BK)),.d (.lst (d.spots.map BB)),.d (.lst (d.rules.map BJ))])],1,[]⟩)
  (Inv:=fun a=>a.1≤r.joins.length∧0≤a.2∧a.2≤3*a.1∧AA (DF d r.joins=a.2+DF d (r.joins.drop a.1))) (m:=fun a=>r.joins.length-a.1) (a:=(0,0)) ⟨by simp,by simp,by simp,⟨by simp⟩⟩ ?_
 rintro⟨i,c⟩ ⟨k1,k2,k3,k4⟩ IH;dsimp only at*
 (repeat' (first|simp only[go_sem, *]|(refine sx ?_ ?_<;>intro hc)|refine sy (by omega) fun x hx hm=>?_|simp(disch:=first|assumption|omega) only[wrap_id,AK,AH,slice_int]))
 .have hd:=h2.out x hm;obtain⟨y,hy⟩:=get_some (l:=d.chans) (i:=x.toNat) (by omega);have hy3:=h3.out y (List.mem_of_getElem? hy);refine aw ?_;refine IH.out (i+1,c+y.many) (by dsimp only;omega) ⟨by dsimp only;omega,by dsimp only;omega,by dsimp only;omega,⟨?_⟩⟩;dsimp only;rw[k4.out,Ae hx,DF,hy];simp only[Option.map_some,Option.getD_some];omega
 .rw[k4.out,List.drop_eq_nil_of_le (by omega),DF,Int.add_zero]
def Og(b:UInt8):Bool:=decide (97≤b.toNat)&&decide (b.toNat≤122)
def kwL:List ByteArray:=[⟨#[97,110,100]⟩,⟨#[100,101,102]⟩,⟨#[101,108,115,101]⟩,⟨#[103,111]⟩,⟨#[105,102]⟩,⟨#[105,110]⟩,⟨#[112,108,97,99,101]⟩,⟨#[115,116,111,112]⟩,⟨#[116,104,101,110]⟩,⟨#[119,97,116,99,104]⟩]
def kwM:List (AW×AV):=kwL.map fun k=>(.str k,.d (.bool true))
def HV(s:ByteArray):Bool:=decide (1≤s.size)&&(decide (s.size≤8)&&(s.data.toList.all Og&& !kwL.any (· ==s)))
theorem RN{s:ByteArray}{v:AV}: ∀{es:List (AW×AV)},Ch es (.str s)=some none→Dq es (.str s) v=es++[(.str s,v)]
 |[],_=>rfl
 |(k,w)::es,h=>by
  unfold Ch at h;unfold Dq;split at h
  .cases h
  .rename_i hk;rw[hk];simp only[List.cons_append,List.cons.injEq,true_and];exact RN h
  .cases h
theorem xB{id:Abs.Id}{es:List (AW×AV)}{s:ByteArray}{h:AB}(hg:h.get id=some (.map es))(hm:Ch es (.str s)=some none):mapPut cfg.T h.get (cfg.T 300) (.mp id) (.d (.str s)) (.d (.bool true))=some ⟨.undef,[(id,.map (es++[(.str s,.d (.bool true))]))]⟩:=by
 unfold mapPut;simp only[zx,Kr,T9,JH,AV.isCell,Bool.and_self,hg,hm,RN hm]
theorem qz(id:Abs.Id)(o:Abs.Obj):AB.get [(id,o)] id=some o:=by simp only[BN,is_self,if_true]
@[go_sem] theorem zf(k:Nat)(ρ:List Nat):BM (KL Tryz.prog cfg) 210 [] (k::ρ)=.ok (.ret (.mp (1::1::k::ρ)),[(1::1::k::ρ,.map kwM)]):=by
  (refine Ay rfl Tryz.func210 rfl rfl rfl ?_;show Wp _ _ _ _ (Tryz.f210.body.get rfl) _ _;simp only[Tryz.f210,Option.get_some])
  refine aw ?_
  iterate 10 (rw[←zx,xB (qz _ _)];rotate_left;exact rfl;refine aw ?_)
  rfl
theorem VX: ∀(L:List ByteArray) (s:ByteArray),Ch (L.map fun k=>(AW.str k,.d (.bool true))) (.str s)=some (if L.any (· ==s)=true then some (.d (.bool true))else none)
 |[],s=>by simp[Ch]
 |k::L,s=>by
  rw[List.map_cons,Ch,GU];cases hk:(k==s)with
  |true=>simp[hk]
  |false=>
   simp only[VX L s,List.any_cons,hk,Bool.false_or]
theorem AAh{s:ByteArray}(h:(kwL.any fun x=>x==s)=true):Ch kwM (.str s)=some (some (.d (.bool true))):=by
 rw[kwM,VX,if_pos h]
theorem ACi{s:ByteArray}(h:(kwL.any fun x=>x==s)=false):Ch kwM (.str s)=some none:=by
 rw[kwM,VX,if_neg (by rw[h];simp)]
theorem VV{b:UInt8}(h: ¬(97≤b.toNat∧b.toNat≤122)):Og b=false:=by
 simp only[Og,Bool.and_eq_false_iff,decide_eq_false_iff_not];omega
theorem fH{b:UInt8}(h:97≤b.toNat∧b.toNat≤122):Og b=true:=by
 simp only[Og,Bool.and_eq_true,decide_eq_true_eq];exact h
theorem yg(s:ByteArray)(hs:s.size≤9223372036854775807):BM (KL Tryz.prog cfg) 200 [.d (.str s)] []=.ok (.ret (.d (.bool (HV s))),[]):=by
 have hsz:s.data.toList.length=s.size:=by cases s;rfl
 (refine Ay rfl Tryz.func200 rfl rfl rfl ?_;show Wp _ _ _ _ (Tryz.f200.body.get rfl) _ _;simp only[Tryz.f200,Option.get_some])
 refine aw ?_;refine rounds (S:=fun i:Nat=>⟨[(0,.d (.str s)),(5,.d (.int .i64 s.size)),(6,.d (.int .i64 i))],[],0,[]⟩) (Inv:=fun i=>i≤s.size∧AA (s.data.toList.all Og=(s.data.toList.drop i).all Og)) (m:=fun i=>s.size-i) (a:=0) ⟨by simp,⟨by simp⟩⟩ ?_;rintro i ⟨k1,k2⟩ IH;cases hk:kwL.any (· ==s)with
 |false=>
  (repeat' (first|simp only[go_sem, *,ACi hk]|(refine sx ?_ ?_<;>intro hc)|refine sy (by omega) fun x hx hm=>?_|simp(disch:=first|assumption|omega) only[wrap_id,AK,AH,slice_int]))
  .have:s.data.toList.all Og=false:=by rw[k2.out,Ae hx,List.all_cons,VV (by omega)];rfl
   simp[HV,this]
  .have:s.data.toList.all Og=false:=by rw[k2.out,Ae hx,List.all_cons,VV (by omega)];rfl
   simp[HV,this]
  .refine IH.out (i+1) (by omega) ⟨by omega,⟨?_⟩⟩;rw[k2.out,Ae hx,List.all_cons,fH (by omega)];rfl
  .have:s.data.toList.all Og=true:=by rw[k2.out,List.drop_eq_nil_of_le (by omega)];rfl
   have h1:1≤s.size:=by omega
   have h8:s.size≤8:=by omega
   simp[HV,this,h1,h8,hk]
  .rw[HV,decide_eq_false (p:=s.size≤8) (by omega),Bool.false_and,Bool.and_false]
  .rw[HV,decide_eq_false (by omega)];rfl
 |true=>
  (repeat' (first|simp only[go_sem, *,AAh hk]|(refine sx ?_ ?_<;>intro hc)|refine sy (by omega) fun x hx hm=>?_|simp(disch:=first|assumption|omega) only[wrap_id,AK,AH,slice_int]))
  .have:s.data.toList.all Og=false:=by rw[k2.out,Ae hx,List.all_cons,VV (by omega)];rfl
   simp[HV,this]
  .have:s.data.toList.all Og=false:=by rw[k2.out,Ae hx,List.all_cons,VV (by omega)];rfl
   simp[HV,this]
  .refine IH.out (i+1) (by omega) ⟨by omega,⟨?_⟩⟩;rw[k2.out,Ae hx,List.all_cons,fH (by omega)];rfl
  .have:s.data.toList.all Og=true:=by rw[k2.out,List.drop_eq_nil_of_le (by omega)];rfl
   have h1:1≤s.size:=by omega
   have h8:s.size≤8:=by omega
   simp[HV,this,h1,h8,hk]
  .rw[HV,decide_eq_false (p:=s.size≤8) (by omega),Bool.false_and,Bool.and_false]
  .rw[HV,decide_eq_false (by omega)];rfl
end Go.Proofs
namespace Go.Proofs
open Go Go.Abs
set_option maxRecDepth 100000
set_option maxHeartbeats 4000000
def Sj(x:Int):List Int→Int→Int
 |[],_=> -1
 |y::l,i=>if x=y then i else Sj x l (i+1)
@[go_sem] theorem ACd(l:List Int)(v:Int)(hl:l.length≤1000000):BM (KL Tryz.prog cfg) 220 [.d (.lst (l.map AO)),.d (.int .i64 v)] []=.ok (.ret (.d (.int .i64 (Sj v l 0))),[]):=by
  (refine Ay rfl Tryz.func220 rfl rfl rfl ?_;show Wp _ _ _ _ (Tryz.f220.body.get rfl) _ _;simp only[Tryz.f220,Option.get_some])
  refine aw ?_;refine rounds (S:=fun i:Nat=>⟨[(0,.d (.lst (l.map AO))),(1,.d (.int .i64 v)),(7,.d (.int .i64 l.length)),(8,.d (.int .i64 i))],[],0,[]⟩) (Inv:=fun i=>i≤l.length∧AA (Sj v l 0=Sj v (l.drop i) i)) (m:=fun i=>l.length-i) (a:=0) ⟨by simp,⟨by simp⟩⟩ ?_;rintro i ⟨k1,k2⟩ IH
  (repeat' (first|simp only[go_sem, *]|(refine sx ?_ ?_<;>intro hc)|refine sy (by omega) fun x hx hm=>?_|simp(disch:=first|assumption|omega) only[wrap_id,AK,AH,slice_int]))
  .subst hc;rw[k2.out,Ae hx,Sj,if_pos rfl]
  .refine IH.out (i+1) (by omega) ⟨by omega,⟨?_⟩⟩;rw[k2.out,Ae hx,Sj,if_neg (by assumption)];rfl
  .rw[k2.out,List.drop_eq_nil_of_le (by omega),Sj]
theorem Xy(v:Int): ∀(l:List Int) (i:Int),0≤i→(0≤Sj v l i↔v∈l)
 |[],i,h=>by simp[Sj]
 |y::l,i,h=>by
  rw[Sj];split
  .rename_i e;simp[e,h]
  .rename_i e;rw[Xy v l (i+1) (by omega)];simp[e]
@[go_sem] theorem W6(l:List Int)(v:Int)(hl:l.length≤1000000):BM (KL Tryz.prog cfg) 219 [.d (.lst (l.map AO)),.d (.int .i64 v)] []=.ok (.ret (.d (.bool (decide (v∈l)))),[]):=by
  have h:=Xy v l 0 (by omega)
  (refine Ay rfl Tryz.func219 rfl rfl rfl ?_;show Wp _ _ _ _ (Tryz.f219.body.get rfl) _ _;simp only[Tryz.f219,Option.get_some])
  exact au
theorem Yo(d:CH)(n:Int)(h:AB)(π:List Nat)(id:Abs.Id)(hg:h.get id=some (.box [.d (.lst (d.chans.map BK)),.d (.lst (d.spots.map BB)),.d (.lst (d.rules.map BJ))])):
 ∃o h',KL Tryz.prog cfg (.fn 218) [.d (.int .i64 n),.ptr id 0] h π true none=.ok (o,h')∧h'=h∧o=if 0≤n∧n≤d.spots.length then .ret (.tup [])else .pan GW:=by
 (refine Ak rfl Tryz.func218 rfl rfl rfl ?_;show Wp _ _ _ _ (Tryz.f218.body.get rfl) _ _;simp only[Tryz.f218,Option.get_some])
 (repeat' (first|simp only[go_sem, *]|(refine sx ?_ ?_<;>intro hc)|refine sy (by omega) fun x hx hm=>?_|simp(disch:=first|assumption|omega) only[wrap_id,AK,AH,slice_int]))
 all_goals simp
def Fv(d:CH)(c:HP):Bool:=decide (0≤c.at_∧c.at_≤d.spots.length)&&(decide (0≤c.many)&&decide (c.many≤3))
def FL:Nat→List MH→Bool
 |_,[]=>true
 |i,s::l=>decide (0≤s.in_)&&(decide (s.in_≤i)&&FL (i+1) l)
def KK(d:CH)(r:FP)(i:Nat)(c:Int):Bool:=decide (0≤c)&&(decide (c<d.chans.length)&&(decide (((d.chans[c.toNat]?).map HP.at_).getD 0=r.at_)&& !decide (c∈r.joins.take i)))
def joinsOk(d:CH)(r:FP):Nat→List Int→Bool
 |_,[]=>true
 |i,c::l=>KK d r i c&&joinsOk d r (i+1) l
def Ds(d:CH)(r:FP):Bool:=decide (0≤r.at_∧r.at_≤d.spots.length)&&(decide (0<r.joins.length)&&(decide (r.joins.length≤3)&&joinsOk d r 0 r.joins))
def bD(l:List Int)(c:Int):List Int:=if c∈l then l else l++[c]
def FY(l:List Int):List (AW×AV):=l.map fun c=>(.int .i64 c,.d (.bool true))
def Hq(l:List Int)(rs:List FP):List Int:=rs.foldl (fun l r=>r.joins.foldl bD l) l
def CH.okG(d:CH):Bool:=decide (d.chans.length≤30)&&(decide (d.spots.length≤30)&&(decide (d.rules.length≤30)&&(d.chans.all (Fv d)&&(FL 0 d.spots&&(d.rules.all (Ds d)&&decide ((Hq [] d.rules).length=d.chans.length))))))
def HO(v:AV)(t:Bool):AZ×AB:=if t=true then(.ret (.tup []),[])else(.pan v,[])
theorem eH(v:AV):HO v true=(.ret (.tup []),[]):=rfl
theorem Cq(v:AV):HO v false=(.pan v,[]):=rfl
theorem SG(v:AV)(t:Bool):Bl v t=.ok (HO v t):=by cases t<;>rfl
theorem dw(st:List Int)(c:Int):Ch (FY st) (.int .i64 c)=some (if c∈st then some (.d (.bool true))else none):=by
 induction st with
 |nil=>rfl
 |cons a st ih=>
  show Ch ((.int .i64 a,.d (.bool true))::FY st) _=_;rw[Ch,GU];simp only[if_true];by_cases h:a=c
  .subst h;simp
  .have h1:(a==c)=false:=by simpa using h
   have h2: ¬c=a:=fun e=>h e.symm;rw[h1,ih];simp[h2]
theorem dx(st:List Int)(c:Int):Dq (FY st) (.int .i64 c) (.d (.bool true))=FY (bD st c):=by
 induction st with
 |nil=>rfl
 |cons a st ih=>
  show Dq ((.int .i64 a,.d (.bool true))::FY st) _ _=_;rw[Dq,GU];simp only[if_true];by_cases h:a=c
  .subst h;simp[bD,FY]
  .have h1:(a==c)=false:=by simpa using h
   have h2: ¬c=a:=fun e=>h e.symm;rw[h1];simp only;rw[ih];simp only[bD,List.mem_cons,h2,false_or];split<;>rfl
theorem xA{id:Abs.Id}{st:List Int}{c:Int}{h:AB}(hg:h.get id=some (.map (FY st))):mapPut cfg.T h.get (cfg.T 315) (.mp id) (.d (.int .i64 c)) (.d (.bool true))=some ⟨.undef,[(id,.map (FY (bD st c)))]⟩:=by
 unfold mapPut;simp only[zy,Kr,T3,JH,AV.isCell,Bool.and_self,hg,dw,dx]
@[go_sem] theorem ABb(st:List Int):(FY st).flatMap (fun p=>AE p.2)=[]:=by
  induction st with
  |nil=>rfl
  |cons a st ih=>exact ih
@[go_sem] theorem ABc(ν:Abs.Id→Option Abs.Id)(st:List Int):(FY st).map (fun p=>(p.1,Ih ν p.2))=FY st:=by
  induction st with
  |nil=>rfl
  |cons a st ih=>exact congrArg (List.cons _) ih
theorem bw{d:CH}(h:d.chans.all (Fv d)=false):d.okG=false:=by simp only[CH.okG,h,Bool.false_and,Bool.and_false]
theorem sj{d:CH}(h:FL 0 d.spots=false):d.okG=false:=by simp only[CH.okG,h,Bool.false_and,Bool.and_false]
theorem Va{d:CH}(h:d.rules.all (Ds d)=false):d.okG=false:=by simp only[CH.okG,h,Bool.false_and,Bool.and_false]
theorem ABO{d:CH}(h: ¬(Hq [] d.rules).length=d.chans.length):d.okG=false:=by simp only[CH.okG,decide_eq_false h,Bool.and_false]
theorem AAJ(d:CH):BM (KL Tryz.prog cfg) 213 [.agg [.d (.lst (d.chans.map BK)),.d (.lst (d.spots.map BB)),.d (.lst (d.rules.map BJ))]] []=.ok (HO GW d.okG):=by
 (refine Ay rfl Tryz.func213 rfl rfl rfl ?_;show Wp _ _ _ _ (Tryz.f213.body.get rfl) _ _;simp only[Tryz.f213,Option.get_some])
 (repeat' (first|simp only[go_sem, *]|(refine sx ?_ ?_<;>intro hc)|refine sy (by omega) fun x hx hm=>?_|simp(disch:=first|assumption|omega) only[wrap_id,AK,AH,slice_int]))
 all_goals try(rw[show d.okG=false by simp[CH.okG];omega,Cq])
 have c1:d.chans.length≤30:=by omega
 have c2:d.spots.length≤30:=by omega
 have c3:d.rules.length≤30:=by omega
 refine rounds (S:=fun i:Nat=>⟨[(1,.ptr [0,0] 0),(2,.fn 218 [] [.ptr [0,0] 0]),(31,.d (.lst (d.chans.map BK))),(32,.d (.int .i64 d.chans.length)),(33,.d (.int .i64 i))],[([0,0],.box [.d (.lst (d.chans.map BK)),.d (.lst (d.spots.map BB)),.d (.lst (d.rules.map BJ))])],1,[]⟩)
  (Inv:=fun i=>i≤d.chans.length∧AA (d.chans.all (Fv d)=(d.chans.drop i).all (Fv d))) (m:=fun i=>d.chans.length-i) (a:=0) ⟨by simp,⟨by simp⟩⟩ ?_
 clear hc;rintro i ⟨k1,k2⟩ IH
 (repeat' (first|simp only[go_sem, *]|(refine sx ?_ ?_<;>intro hc)|refine sy (by omega) fun x hx hm=>?_|simp(disch:=first|assumption|omega) only[wrap_id,AK,AH,slice_int]))
 .refine Ab (Yo d x.at_ _ _ _ ?_) (fun o1 g1 p1=>?_)
  .simp only[go_sem]
  obtain⟨rfl,rfl⟩:=p1;by_cases kp:0≤x.at_∧x.at_≤d.spots.length
  .rw[if_pos kp]
   (repeat' (first|simp only[go_sem, *]|(refine sx ?_ ?_<;>intro hc)|refine sy (by omega) fun x hx hm=>?_|simp(disch:=first|assumption|omega) only[wrap_id,AK,AH,slice_int]))
   .refine IH.out (i+1) (by omega) ⟨by omega,⟨?_⟩⟩;rw[k2.out,Ae hx,List.all_cons,show Fv d x=true by simp[Fv, *],Bool.true_and]
   .rw[bw,Cq];rw[k2.out,Ae hx,List.all_cons,show Fv d x=false by simp[Fv, *],Bool.false_and]
   .rw[bw,Cq];rw[k2.out,Ae hx,List.all_cons,show Fv d x=false by simp[Fv, *],Bool.false_and]
  .rw[if_neg kp];refine aw ?_;rw[bw,Cq];rw[k2.out,Ae hx,List.all_cons,show Fv d x=false by simp only[Fv,decide_eq_false kp,Bool.false_and],Bool.false_and]
 have hch:d.chans.all (Fv d)=true:=by rw[k2.out,List.drop_eq_nil_of_le (by omega)];rfl
 clear hc k1 k2 IH i;refine rounds (S:=fun i:Nat=>⟨[(1,.ptr [0,0] 0),(2,.fn 218 [] [.ptr [0,0] 0]),(52,.d (.lst (d.spots.map BB))),(53,.d (.int .i64 d.spots.length)),(54,.d (.int .i64 i))],[([0,0],.box [.d (.lst (d.chans.map BK)),.d (.lst (d.spots.map BB)),.d (.lst (d.rules.map BJ))])],1,[]⟩)
  (Inv:=fun i=>i≤d.spots.length∧AA (FL 0 d.spots=FL i (d.spots.drop i))) (m:=fun i=>d.spots.length-i) (a:=0) ⟨by simp,⟨by simp⟩⟩ ?_
 rintro i ⟨k1,k2⟩ IH
 (repeat' (first|simp only[go_sem, *]|(refine sx ?_ ?_<;>intro hc)|refine sy (by omega) fun x hx hm=>?_|simp(disch:=first|assumption|omega) only[wrap_id,AK,AH,slice_int]))
 .refine IH.out (i+1) (by omega) ⟨by omega,⟨?_⟩⟩;rw[k2.out,Ae hx,FL];simp[*]
 .rw[sj,Cq];rw[k2.out,Ae hx,FL];simp[*]
 .rw[sj,Cq];rw[k2.out,Ae hx,FL];simp[*]
 have hsp:FL 0 d.spots=true:=by rw[k2.out,List.drop_eq_nil_of_le (by omega)];rfl
 clear hc k1 k2 IH i;refine rounds (S:=fun a:Nat×List Int=>⟨[(1,.ptr [0,0] 0),(2,.fn 218 [] [.ptr [0,0] 0]),(7,.mp [1,1]),(72,.d (.lst (d.rules.map BJ))),(73,.d (.int .i64 d.rules.length)),(74,.d (.int .i64 a.1))],[([0,0],.box [.d (.lst (d.chans.map BK)),.d (.lst (d.spots.map BB)),.d (.lst (d.rules.map BJ))]),([1,1],.map (FY a.2))],2,[]⟩)
  (Inv:=fun a=>a.1≤d.rules.length∧AA (d.rules.all (Ds d)=(d.rules.drop a.1).all (Ds d))∧AA (Hq [] d.rules=Hq a.2 (d.rules.drop a.1))) (m:=fun a=>d.rules.length-a.1) (a:=(0,[])) ⟨by simp,⟨by simp⟩,⟨by simp⟩⟩ ?_
 rintro⟨i,st⟩ ⟨k1,k2,k3⟩ IH;dsimp only at*;by_cases hi:i<d.rules.length
 .obtain⟨r,hx⟩:=get_some hi;have hi':(i:Int)<d.rules.length:=by omega
  refine aw ?_;refine Ab (Yo d r.at_ _ _ _ ?_) (fun o1 g1 p1=>?_)
  .simp only[go_sem]
  obtain⟨rfl,rfl⟩:=p1;by_cases kp:0≤r.at_∧r.at_≤d.spots.length
  .rw[if_pos kp]
   (repeat' (first|simp only[go_sem, *]|(refine sx ?_ ?_<;>intro hc)|refine sy (by omega) fun x hx hm=>?_|simp(disch:=first|assumption|omega) only[wrap_id,AK,AH,slice_int]))
   ·
    refine rounds (S:=fun a:Nat×List Int=>⟨[(1,.ptr [0,0] 0),(2,.fn 218 [] [.ptr [0,0] 0]),(7,.mp [1,1]),(9,.ptr [0,2] 0),(72,.d (.lst (d.rules.map BJ))),(73,.d (.int .i64 d.rules.length)),(74,.d (.int .i64 i)),(94,.d (.lst (r.joins.map AO))),(95,.d (.int .i64 r.joins.length)),(96,.d (.int .i64 a.1))],[([0,0],.box [.d (.lst (d.chans.map BK)),.d (.lst (d.spots.map BB)),.d (.lst (d.rules.map BJ))]),([1,1],.map (FY a.2)),([0,2],.box [.d (.int .i64 r.at_),.d (.lst (r.joins.map AO)),.d (.int .i64 r.node)])],3,[]⟩)
     (Inv:=fun a=>a.1≤r.joins.length∧AA (joinsOk d r 0 r.joins=joinsOk d r a.1 (r.joins.drop a.1))∧AA (Hq [] d.rules=Hq ((r.joins.drop a.1).foldl bD a.2) (d.rules.drop (i+1)))) (m:=fun a=>r.joins.length-a.1) (a:=(0,st)) ⟨by simp,⟨by simp⟩,⟨by rw[k3.out,Ae hx];rfl⟩⟩ ?_
    rintro⟨k,st2⟩ ⟨j1,j2,j3⟩ IH2;dsimp only at*;by_cases hk:k<r.joins.length
    .obtain⟨c,hy⟩:=get_some hk;have hk':(k:Int)<r.joins.length:=by omega
     have hlt:(r.joins.take k).length≤1000000:=by simp;omega
     have hbad:AA (KK d r k c=false→(AZ.pan GW,([]:AB))=HO GW d.okG):=.mk fun hb=>by
      have hj:joinsOk d r 0 r.joins=false:=by rw[j2.out,Ae hy,joinsOk,hb,Bool.false_and]
      rw[Va,Cq];rw[k2.out,Ae hx,List.all_cons,show Ds d r=false by simp only[Ds,hj,Bool.and_false],Bool.false_and]
     by_cases hc0:0≤c
     .by_cases hc1:c<d.chans.length
      .obtain⟨y,hyc⟩:=get_some (l:=d.chans) (i:=c.toNat) (by omega);have hjo:KK d r k c=(decide (y.at_=r.at_)&& !decide (c∈r.joins.take k)):=by
        simp only[KK,hyc,Option.map_some,Option.getD_some,decide_eq_true hc0,decide_eq_true hc1,Bool.true_and]
       (repeat' (first|simp only[go_sem, *]|(refine sx ?_ ?_<;>intro hc)|refine sy (by omega) fun x hx hm=>?_|simp(disch:=first|assumption|omega) only[wrap_id,AK,AH,slice_int,W6]))
       .rw[←zy,xA (st:=st2) (by simp only[go_sem])];refine aw ?_;refine IH2.out (k+1,bD st2 c) (by dsimp only;omega) ⟨by dsimp only;omega,⟨?_⟩,⟨?_⟩⟩
        .dsimp only;rw[j2.out,Ae hy,joinsOk,hjo];simp only[*,decide_true,decide_false,Bool.not_true,Bool.not_false,Bool.true_and,Bool.false_and]
        .dsimp only;rw[j3.out,Ae hy,List.foldl_cons]
       .exact hbad.out (by rw[hjo];simp only[*,decide_true,decide_false,Bool.not_true,Bool.not_false,Bool.true_and,Bool.false_and])
       .exact hbad.out (by rw[hjo,decide_eq_false (by assumption),Bool.false_and])
      .refine aw ?_;exact hbad.out (by simp only[KK,decide_eq_false hc1,Bool.false_and,Bool.and_false])
     .refine aw ?_;exact hbad.out (by simp only[KK,decide_eq_false hc0,Bool.false_and])
    .have hk': ¬(k:Int)<r.joins.length:=by omega
     refine aw ?_;refine IH.out (i+1,st2) (by dsimp only;omega) ⟨by dsimp only;omega,⟨?_⟩,⟨?_⟩⟩
     .dsimp only;rw[k2.out,Ae hx,List.all_cons,show Ds d r=true by
       rw[List.drop_eq_nil_of_le (by omega)]at j2;simp only[Ds,decide_eq_true kp,j2.out,joinsOk];simp;omega,Bool.true_and]
     .dsimp only;rw[j3.out,List.drop_eq_nil_of_le (by omega)];rfl
   .rw[Va,Cq];rw[k2.out,Ae hx,List.all_cons,show Ds d r=false by simp[Ds];omega,Bool.false_and]
   .rw[Va,Cq];rw[k2.out,Ae hx,List.all_cons,show Ds d r=false by simp[Ds];omega,Bool.false_and]
  .rw[if_neg kp];refine aw ?_;rw[Va,Cq];rw[k2.out,Ae hx,List.all_cons,show Ds d r=false by simp only[Ds,decide_eq_false kp,Bool.false_and],Bool.false_and]
 .have hi': ¬(i:Int)<d.rules.length:=by omega
  have hru:d.rules.all (Ds d)=true:=by rw[k2.out,List.drop_eq_nil_of_le (by omega)];rfl
  have hst:(Hq [] d.rules).length=(FY st).length:=by
   rw[k3.out,List.drop_eq_nil_of_le (by omega)];simp[Hq,FY]
  (repeat' (first|simp only[go_sem, *]|(refine sx ?_ ?_<;>intro hc)|refine sy (by omega) fun x hx hm=>?_|simp(disch:=first|assumption|omega) only[wrap_id,AK,AH,slice_int]))
  .rw[show d.okG=true by
    simp only[CH.okG,hch,hsp,hru,decide_eq_true c1,decide_eq_true c2,decide_eq_true c3,Bool.true_and,decide_eq_true_eq];omega,eH]
  .rw[ABO (by omega),Cq]
end Go.Proofs
namespace Go.Proofs
open Go Go.Abs
set_option maxRecDepth 100000
set_option maxHeartbeats 4000000
def DS(t:Bool):List AW:=[.bool t]
attribute [go_sem] DS
end Go.Proofs
namespace Go.Proofs
open Go Go.Abs
def FT(op:Int):Option Nat:=
 if op=1 then some 0 else if op=7 then some 0 else if op=3 then some 2 else if op=2 then some 0 else if op=5 then some 2
 else if op=6 then some 1 else if op=8 then some 1 else if op=4 then some 1 else none
def J5(x:Cd):Bool:=if x.op=2 then decide (x.args.length≤3)else if x.op=5 then decide (x.args.length=1)else decide (x.args.length=0)
def uo(p:AJ)(size:Int)(x:Cd):Bool:=if x.op=2∨x.op=6∨x.op=8 then decide (0≤x.n∧x.n<size)else if x.op=4 then decide (0≤x.n∧x.n<p.defs.length)else decide (x.n=0)
def EC(p:AJ)(size:Int)(x:Cd):Bool:=decide (FT x.op=some x.kids.length)&&(uo p size x&&(J5 x&&x.args.all (B4.ok size)))
structure Bu where
 sizes:List Int
 met:List Bool
 defs:List Bool
def Fz(f:Int→Int→Bu→Option Bu):List (Int×Int)→Bu→Option Bu
 |[],st=>some st
 |(n,s)::l,st=>match f n s st with
  |some st'=>Fz f l st'
  |none=>none
def HI(d:CH)(size:Int)(l:List FP):List (Int×Int):=l.map fun r=>(r.node,size+DF d r.joins)
def GP(size:Int)(l:List MH):List (Int×Int):=l.map fun s=>(s.node,size)
def DG(size:Int)(l:List Int):List (Int×Int):=l.map fun k=>(k,size)
def VK(p:AJ)(size:Int)(x:Cd)(st:Bu):Option (List (Int×Int)×Bu):=
 if x.op=4 then match p.defs[x.n.toNat]? with
  |some d=>if st.defs[x.n.toNat]? =some false∧d.okG=true then some (HI d (size+d.own) d.rules++(GP (size+d.own) d.spots++DG (size+d.own) x.kids),{st with defs:=st.defs.set x.n.toNat true})else none
  |none=>none
 else some (DG size x.kids,st)
def Bu.meet(st:Bu)(n size:Int):Bu:={st with sizes:=st.sizes.set n.toNat size,met:=st.met.set n.toNat true}
def Cp(p:AJ):Nat→Int→Int→Bu→Option Bu
 |0,_,_,_=>none
 |k+1,n,size,st=>
  if 0≤n∧st.met[n.toNat]? =some false then
   match p.nodes[n.toNat]? with
   |some x=>if EC p size x=true then match VK p size x (st.meet n size)with
    |some (l,st2)=>Fz (Cp p k) l st2
    |none=>none
    else none
   |none=>none
  else none
def tt(a b:ByteArray):Bool:=Op.bytesLess a.toList b.toList
def K1:Option ByteArray→List ByteArray→Bool
 |_,[]=>true
 |b,a::l=>HV a&&((match b with|some b=>tt b a|none=>true)&&K1 (some a) l)
def Q1(l:List ByteArray):Bool:=K1 none l
def AJ.small(p:AJ):Bool:=decide (p.free.length≤12)&&(decide (p.nodes.length≤60)&&decide (p.defs.length≤12))
def Bu.init(p:AJ):Bu:=⟨List.replicate p.nodes.length 0,List.replicate p.nodes.length false,List.replicate p.defs.length false⟩
def looks(p:AJ):Option Bu:=
 if p.small=true∧Q1 p.free=true then match Cp p (p.nodes.length+1) p.main p.free.length (Bu.init p)with
  |some st=>if st.met.all id=true∧st.defs.all id=true then some st else none
  |none=>none
 else none
structure Bu.fit(p:AJ)(st:Bu):Prop where
 sizes:st.sizes.length=p.nodes.length
 met:st.met.length=p.nodes.length
 defs:st.defs.length=p.defs.length
def Jz(l:List Bool):Nat:=l.count false
theorem H6: ∀{l:List Bool} {n:Nat},l[n]? =some false→Jz (l.set n true)+1=Jz l
 |[],n,h=>by simp at h
 |b::l,0,h=>by
  simp only[List.getElem?_cons_zero,Option.some.injEq]at h;subst h;simp[Jz]
 |b::l,n+1,h=>by
  simp only[List.getElem?_cons_succ]at h;have:=H6 h;cases b<;>simp[Jz]at this⊢ <;>omega
theorem SA(l:List Bool):Jz l≤l.length:=List.count_le_length
theorem YC{p:AJ}{st:Bu}(h:st.fit p)(n size:Int):(st.meet n size).fit p:=⟨by simp[Bu.meet,h.sizes],by simp[Bu.meet,h.met],by simp[Bu.meet,h.defs]⟩
theorem rI{p:AJ}{size:Int}{x:Cd}{st st2:Bu}{l:List (Int×Int)}(h:VK p size x st=some (l,st2)):st2.sizes=st.sizes∧st2.met=st.met∧st2.defs.length=st.defs.length:=by
 unfold VK at h;split at h
 .split at h
  .split at h
   .cases h;simp
   .cases h
  .cases h
 .cases h;simp
theorem TL{f:Int→Int→Bu→Option Bu}{R:Bu→Bu→Prop}(hr: ∀st,R st st)(ht: ∀a b c,R a b→R b c→R a c)(hf: ∀n s st st',f n s st=some st'→R st st'): ∀{l:List (Int×Int)} {st st':Bu},Fz f l st=some st'→R st st'
 |[],st,st',h=>by cases h;exact hr _
 |(n,s)::l,st,st',h=>by
  rw[Fz]at h;split at h
  .rename_i st1 h1;exact ht _ _ _ (hf _ _ _ _ h1) (TL hr ht hf h)
  .cases h
structure ux(st st':Bu):Prop where
 sizes:st'.sizes.length=st.sizes.length
 met:st'.met.length=st.met.length
 defs:st'.defs.length=st.defs.length
 less:Jz st'.met≤Jz st.met
theorem Eg(p:AJ): ∀(k:Nat) (n size:Int) (st st':Bu),Cp p k n size st=some st'→ux st st'
 |0,n,size,st,st',h=>by cases h
 |k+1,n,size,st,st',h=>by
  rw[Cp]at h;split at h
  .rename_i hn;split at h
   .rename_i x hx;split at h
    .split at h
     .rename_i l st2 h2;have h3:=rI h2;have h4:ux st2 st':=TL (R:=ux) (fun st=>⟨rfl,rfl,rfl,Nat.le_refl _⟩) (fun a b c h1 h2=>⟨h2.1.trans h1.1,h2.2.trans h1.2,h2.3.trans h1.3,Nat.le_trans h2.4 h1.4⟩) (Eg p k) h;have h5:=H6 hn.2;refine⟨h4.1.trans ?_,h4.2.trans ?_,h4.3.trans ?_,Nat.le_trans h4.4 ?_⟩
      .rw[h3.1];simp[Bu.meet]
      .rw[h3.2.1];simp[Bu.meet]
      .rw[h3.2.2];simp[Bu.meet]
      .rw[h3.2.1];simp only[Bu.meet];omega
     .cases h
    .cases h
   .cases h
  .cases h
end Go.Proofs
namespace Go.Proofs
open Go Go.Abs
def Iq(p:AJ)(size:Int)(x:Cd):Option (List (Int×Int)):=
 if x.op=4 then match p.defs[x.n.toNat]? with
  |some d=>if d.okG=true then some (HI d (size+d.own) d.rules++(GP (size+d.own) d.spots++DG (size+d.own) x.kids))else none
  |none=>none
 else some (DG size x.kids)
theorem MY{d:CH}(h: ∀c∈d.chans,0≤c.many∧c.many≤3): ∀l:List Int,0≤DF d l∧DF d l≤3*l.length
 |[]=>by simp[DF]
 |j::l=>by
  have ih:=MY h l;rw[DF];have:0≤((d.chans[j.toNat]?).map HP.many).getD 0∧((d.chans[j.toNat]?).map HP.many).getD 0≤3:=by
   cases hc:d.chans[j.toNat]? with
   |none=>simp
   |some c=>simpa using h c (List.mem_of_getElem? hc)
  simp only[List.length_cons];omega
structure QC(d:CH):Prop where
 chans:d.chans.length≤30
 spots:d.spots.length≤30
 rules:d.rules.length≤30
 chan: ∀c∈d.chans,0≤c.at_∧c.at_≤d.spots.length∧0≤c.many∧c.many≤3
 spot:FL 0 d.spots=true
 rule: ∀r∈d.rules,Ds d r=true
 stands:(Hq [] d.rules).length=d.chans.length
theorem VZ{d:CH}(h:d.okG=true):QC d:=by
 simp only[CH.okG,Bool.and_eq_true,decide_eq_true_eq,List.all_eq_true,Fv]at h;obtain⟨h1,h2,h3,h4,h5,h6,h7⟩:=h;exact⟨h1,h2,h3,fun c hc=>⟨(h4 c hc).1.1,(h4 c hc).1.2,(h4 c hc).2.1,(h4 c hc).2.2⟩,h5,h6,h7⟩
theorem RE{d:CH}{r:FP}: ∀{i:Nat} {l:List Int},joinsOk d r i l=true→ ∀j∈l,0≤j∧j<d.chans.length
 |i,[],h=>by simp
 |i,c::l,h=>by
  intro j hj;rw[joinsOk,Bool.and_eq_true]at h;rcases List.mem_cons.1 hj with rfl|hj
  .have:=h.1;simp only[KK,Bool.and_eq_true,decide_eq_true_eq]at this;exact⟨this.1,this.2.1⟩
  .exact RE h.2 j hj
theorem R0{d:CH}{r:FP}(h:QC d)(hr:r∈d.rules):d.joinsOk r:=by
 have:=h.rule r hr;simp only[Ds,Bool.and_eq_true,decide_eq_true_eq]at this;exact⟨this.2.2.1,RE this.2.2.2,fun c hc=>(h.chan c hc).2.2⟩
theorem Rh{d:CH}(h:QC d):d.own≤60:=by
 have:=h.chans;have:=h.spots;unfold CH.own;omega
theorem nZ{p:AJ}{size:Int}{x:Cd}{l:List (Int×Int)}(h:Iq p size x=some l): ∀q∈l,size≤q.2∧q.2≤size+70:=by
 unfold Iq at h;split at h
 .split at h
  .rename_i d hd;split at h
   .rename_i hk;cases h;have hk:=VZ hk;have ho:=Rh hk;intro q hq;simp only[List.mem_append,HI,GP,DG,List.mem_map]at hq;rcases hq with⟨r,hr,rfl⟩|⟨r,hr,rfl⟩|⟨r,hr,rfl⟩
    .have hj:=R0 hk hr;have:=MY hj.2.2 r.joins;have:=hj.1;dsimp only;omega
    .dsimp only;omega
    .dsimp only;omega
   .cases h
  .cases h
 .cases h;intro q hq;simp only[DG,List.mem_map]at hq;obtain⟨k,hk,rfl⟩:=hq;dsimp only;omega
def Bu.has(st:Bu)(q:Int×Int):Prop:=0≤q.1∧st.met[q.1.toNat]? =some true∧st.sizes[q.1.toNat]? =some q.2
structure zq(p:AJ)(st:Bu)(i:Nat)(x:Cd):Prop where
 met:st.met[i]? =some true
 ex: ∃s l,st.sizes[i]? =some s∧0≤s∧s≤5000∧EC p s x=true∧Iq p s x=some l∧ ∀q∈l,st.has q
structure uq(p:AJ)(st st':Bu):Prop where
 keep: ∀i:Nat,st.met[i]? =some true→st'.met[i]? =some true∧st'.sizes[i]? =st.sizes[i]?
 good: ∀(i:Nat) (x:Cd),st'.met[i]? =some true→st.met[i]? ≠some true→p.nodes[i]? =some x→zq p st' i x
 defs: ∀i:Nat,st.defs[i]? =some true→st'.defs[i]? =some true
 news: ∀(i:Nat) (x:Cd),st'.met[i]? =some true→st.met[i]? ≠some true→p.nodes[i]? =some x→x.op=4→st.defs[x.n.toNat]? ≠some true∧st'.defs[x.n.toNat]? =some true
 used: ∀n:Nat,st'.defs[n]? =some true→st.defs[n]? ≠some true→ ∃(i:Nat) (x:Cd),p.nodes[i]? =some x∧x.op=4∧x.n.toNat=n
 diff: ∀(i j:Nat) (x y:Cd),i≠j→st'.met[i]? =some true→st.met[i]? ≠some true→p.nodes[i]? =some x→x.op=4→st'.met[j]? =some true→st.met[j]? ≠some true→p.nodes[j]? =some y→y.op=4→x.n.toNat≠y.n.toNat
theorem qw{p:AJ}{st st':Bu}{q:Int×Int}(h:st.has q)(ha:uq p st st'):st'.has q:=by
 obtain⟨h1,h2,h3⟩:=h;have:=ha.keep _ h2;exact⟨h1,this.1,by rw[this.2,h3]⟩
theorem wx{p:AJ}{st st':Bu}{i:Nat}{x:Cd}(h:zq p st i x)(ha:uq p st st'):zq p st' i x:=by
 obtain⟨h1,s,l,h2,h0,hb,h3,h4,h5⟩:=h;have:=ha.keep _ h1;exact⟨this.1,s,l,by rw[this.2,h2],h0,hb,h3,h4,fun q hq=>qw (h5 q hq) ha⟩
theorem oe(p:AJ)(st:Bu):uq p st st:=⟨fun i h=>⟨h,rfl⟩,fun i x h1 h2=>absurd h1 h2,fun i h=>h,fun i x h1 h2=>absurd h1 h2,fun n h1 h2=>absurd h1 h2,fun i j x y h h1 h2=>absurd h1 h2⟩
theorem fZ{p:AJ}{a b c:Bu}(h1:uq p a b)(h2:uq p b c):uq p a c:=by
 refine⟨fun i h=>?_,fun i x hm hn hx=>?_,fun i h=>h2.defs i (h1.defs i h),fun i x hm hn hx ho=>?_,fun n hm hn=>?_,fun i j x y hij him hin hx hox hjm hjn hy hoy=>?_⟩
 .have e1:=h1.keep i h;have e2:=h2.keep i e1.1;exact⟨e2.1,e2.2.trans e1.2⟩
 .by_cases hb:b.met[i]? =some true
  .exact wx (h1.good i x hb hn hx) h2
  .exact h2.good i x hm hb hx
 .by_cases hb:b.met[i]? =some true
  .have:=h1.news i x hb hn hx ho;exact⟨this.1,h2.defs _ this.2⟩
  .have:=h2.news i x hm hb hx ho;exact⟨fun e=>this.1 (h1.defs _ e),this.2⟩
 .by_cases hb:b.defs[n]? =some true
  .exact h1.used n hb hn
  .exact h2.used n hm hb
 .by_cases hbi:b.met[i]? =some true
  .by_cases hbj:b.met[j]? =some true
   .exact h1.diff i j x y hij hbi hin hx hox hbj hjn hy hoy
   .have e1:=h1.news i x hbi hin hx hox;have e2:=h2.news j y hjm hbj hy hoy;intro e;rw[e]at e1;exact e2.1 e1.2
  .by_cases hbj:b.met[j]? =some true
   .have e1:=h1.news j y hbj hjn hy hoy;have e2:=h2.news i x him hbi hx hox;intro e;rw[←e]at e1;exact e2.1 e1.2
   .exact h2.diff i j x y hij him hbi hx hox hjm hbj hy hoy
structure zm(st:Bu)(u:Nat):Prop where
 len:st.sizes.length=st.met.length
 less:Jz st.met≤u
theorem TJ{p:AJ}{f:Int→Int→Bu→Option Bu}{u:Nat}(hf: ∀(n s:Int) (st st':Bu),zm st u→0≤s→s+70*u≤5000→f n s st=some st'→uq p st st'∧st'.has (n,s)∧zm st' u): ∀{l:List (Int×Int)} {st st':Bu},zm st u→(∀q∈l,0≤q.2∧q.2+70*u≤5000)→Fz f l st=some st'→uq p st st'∧(∀q∈l,st'.has q)∧zm st' u
 |[],st,st',hl,hq,h=>by cases h;exact⟨oe _ _,by simp,hl⟩
 |(n,s)::l,st,st',hl,hq,h=>by
  rw[Fz]at h;split at h
  .rename_i st1 h1;have hq1:=hq (n,s) (by simp);have e1:=hf _ _ _ _ hl hq1.1 hq1.2 h1;have e2:=TJ hf e1.2.2 (fun q hm=>hq q (List.mem_cons_of_mem _ hm)) h;refine⟨fZ e1.1 e2.1,fun q hq=>?_,e2.2.2⟩;rcases List.mem_cons.1 hq with rfl|hq
   .exact qw e1.2.1 e2.1
   .exact e2.2.1 q hq
  .cases h
theorem jS{p:AJ}{size:Int}{x:Cd}{st st2:Bu}{l:List (Int×Int)}(h:VK p size x st=some (l,st2)):Iq p size x=some l∧st2.sizes=st.sizes∧st2.met=st.met∧(∀i:Nat,st.defs[i]? =some true→st2.defs[i]? =some true)∧(x.op=4→st.defs[x.n.toNat]? ≠some true∧st2.defs[x.n.toNat]? =some true)∧ ∀i:Nat,st2.defs[i]? =some true→st.defs[i]? ≠some true→x.op=4∧x.n.toNat=i:=by
 unfold VK at h;unfold Iq;split at h
 .rename_i h4;rw[if_pos h4];split at h
  .rename_i d hd;split at h
   .rename_i hk;cases h;refine⟨by first|exact if_pos hk.2|(rw[hd];exact if_pos hk.2),rfl,rfl,fun i hi=>?_,fun _=>⟨by rw[hk.1];simp,?_⟩,fun i h1 h2=>⟨h4,?_⟩⟩
    .rw[List.getElem?_set];split
     .rename_i e;subst e;rw[if_pos (List.getElem?_eq_some_iff.1 hi).1]
     .exact hi
    .rw[List.getElem?_set,if_pos rfl,if_pos (List.getElem?_eq_some_iff.1 hk.1).1]
    .rw[List.getElem?_set]at h1;split at h1
     .assumption
     .exact absurd h1 h2
   .cases h
  .cases h
 .rename_i h4;rw[if_neg h4];cases h;exact⟨rfl,rfl,rfl,fun i h=>h,fun h=>absurd h h4,fun i h1 h2=>absurd h1 h2⟩
theorem UW(p:AJ): ∀(k:Nat) (n size:Int) (st st':Bu) (u:Nat),zm st u→0≤size→size+70*u≤5000→Cp p k n size st=some st'→uq p st st'∧st'.has (n,size)∧zm st' u
 |0,n,size,st,st',u,_,_,_,h=>by cases h
 |k+1,n,size,st,st',u,hb,h0,hsz,h=>by
  rw[Cp]at h;split at h
  .rename_i hn;split at h
   .rename_i x hx;split at h
    .rename_i hok;split at h
     .rename_i l st2 h2;have h3:=jS h2;have hlen:=hb.len;have hun:=H6 hn.2;have hul:=hb.less;obtain⟨u,rfl⟩: ∃v,u=v+1:=⟨u-1,by omega⟩;have hb2:zm st2 u:=⟨by rw[h3.2.1,h3.2.2.1];simp[Bu.meet,hlen],by rw[h3.2.2.1];simp only[Bu.meet];omega⟩;have hle:=nZ h3.1;obtain⟨ha,hl,hz⟩:=TJ (fun n s st st'=>UW p k n s st st' u) hb2 (fun q hq=>by have:=hle q hq;omega) h;have hlt:=(List.getElem?_eq_some_iff.1 hn.2).1;have m2: ∀i,st2.met[i]? =if n.toNat=i then some true else st.met[i]? :=fun i=>by
       rw[h3.2.2.1,Bu.meet,List.getElem?_set];split
       .rename_i e;subst e;simp[hlt]
       .rfl
      have s2: ∀i,st2.sizes[i]? =if n.toNat=i then some size else st.sizes[i]? :=fun i=>by
       rw[h3.2.1,Bu.meet,List.getElem?_set];split
       .rename_i e;subst e;simp[hlen,hlt]
       .rfl
      have k2:=ha.keep n.toNat (by rw[m2,if_pos rfl]);rw[s2,if_pos rfl]at k2;refine⟨⟨fun i hi=>?_,fun i y hm hm0 hy=>?_,fun i hi=>ha.defs i (h3.2.2.2.1 i hi),fun i y hm hm0 hy ho=>?_,fun i hi hi0=>?_,fun i j y z hij him hin hy hoy hjm hjn hz hoz=>?_⟩,⟨hn.1,k2.1,k2.2⟩,hz.1,Nat.le_succ_of_le hz.2⟩
      .have hne:n.toNat≠i:=fun e=>by subst e;rw[hn.2]at hi;simp at hi
       have:=ha.keep i (by rw[m2,if_neg hne,hi]);rw[s2,if_neg hne]at this;exact this
      .by_cases hne:n.toNat=i
       .subst hne;rw[hx]at hy;cases hy;exact⟨hm,size,l,k2.2,h0,by omega,hok,h3.1,hl⟩
       .exact ha.good i y hm (by rw[m2,if_neg hne];exact hm0) hy
      .by_cases hne:n.toNat=i
       .subst hne;rw[hx]at hy;cases hy;have:=h3.2.2.2.2.1 ho;exact⟨this.1,ha.defs _ this.2⟩
       .have:=ha.news i y hm (by rw[m2,if_neg hne];exact hm0) hy ho;exact⟨fun e=>this.1 (h3.2.2.2.1 _ e),this.2⟩
      .by_cases hd:st2.defs[i]? =some true
       .have:=h3.2.2.2.2.2 i hd hi0;exact⟨_,x,hx,this⟩
       .exact ha.used i hi hd
      .by_cases hni:n.toNat=i
       .have hnj:n.toNat≠j:=fun e=>hij (hni.symm.trans e);subst hni;rw[hx]at hy;cases hy;have e1:=h3.2.2.2.2.1 hoy;have e2:=ha.news j z hjm (by rw[m2,if_neg hnj];exact hjn) hz hoz;intro e;rw[e]at e1;exact e2.1 e1.2
       .by_cases hnj:n.toNat=j
        .subst hnj;rw[hx]at hz;cases hz;have e1:=h3.2.2.2.2.1 hoz;have e2:=ha.news i y him (by rw[m2,if_neg hni];exact hin) hy hoy;intro e;rw[←e]at e1;exact e2.1 e1.2
        .exact ha.diff i j y z hij him (by rw[m2,if_neg hni];exact hin) hy hoy hjm (by rw[m2,if_neg hnj];exact hjn) hz hoz
     .cases h
    .cases h
   .cases h
  .cases h
structure BO(p:AJ)(sizes:List Int):Prop where
 small:p.small=true
 len:sizes.length=p.nodes.length
 main:0≤p.main∧sizes[p.main.toNat]? =some (p.free.length:Int)
 node: ∀(i:Nat) (x:Cd),p.nodes[i]? =some x→ ∃(s:Int) (l:List (Int×Int)),sizes[i]? =some s∧0≤s∧s≤5000∧EC p s x=true∧Iq p s x=some l∧ ∀q∈l,0≤q.1∧sizes[q.1.toNat]? =some q.2
 used: ∀n:Nat,n<p.defs.length→ ∃(i:Nat) (x:Cd),p.nodes[i]? =some x∧x.op=4∧x.n.toNat=n
 diff: ∀(i j:Nat) (x y:Cd),i≠j→p.nodes[i]? =some x→x.op=4→p.nodes[j]? =some y→y.op=4→x.n.toNat≠y.n.toNat
theorem eT{l:List Bool}(h:l.all id=true){i:Nat}(hi:i<l.length):l[i]? =some true:=by
 have:=List.all_eq_true.1 h _ (List.getElem_mem hi);rw[List.getElem?_eq_getElem hi];simpa using this
theorem Ek{p:AJ}{st:Bu}(h:looks p=some st):BO p st.sizes:=by
 unfold looks at h;split at h
 .rename_i hs;split at h
  .rename_i st' hv;split at h
   .rename_i hall;cases h;have hsm:=hs.1;simp only[AJ.small,Bool.and_eq_true,decide_eq_true_eq]at hsm;have hg:=Eg p _ _ _ _ _ hv;have hun:=SA (Bu.init p).met;have hil:(Bu.init p).met.length=p.nodes.length:=by simp[Bu.init]
    have ha:=UW p _ _ _ _ _ 60 ⟨by simp[Bu.init],by omega⟩ (by omega) (by omega) hv;have hm:st.met.length=p.nodes.length:=by rw[hg.met];simp[Bu.init]
    have hz:st.sizes.length=p.nodes.length:=by rw[hg.sizes];simp[Bu.init]
    have hd:st.defs.length=p.defs.length:=by rw[hg.defs];simp[Bu.init]
    have hmet: ∀{i x},p.nodes[i]? =some x→st.met[i]? =some true:=fun{i x} hx=>eT hall.1 (by rw[hm];exact(List.getElem?_eq_some_iff.1 hx).1);have h0: ∀i:Nat,(Bu.init p).met[i]? ≠some true:=fun i=>by
     simp only[Bu.init,List.getElem?_replicate];split<;>simp
    have hd0: ∀i:Nat,(Bu.init p).defs[i]? ≠some true:=fun i=>by
     simp only[Bu.init,List.getElem?_replicate];split<;>simp
    refine⟨hs.1,hz,⟨ha.2.1.1,ha.2.1.2.2⟩,fun i x hx=>?_,fun n hn=>ha.1.used n (eT hall.2 (by omega)) (hd0 n),fun i j x y hij hx hox hy hoy=>ha.1.diff i j x y hij (hmet hx) (h0 _) hx hox (hmet hy) (h0 _) hy hoy⟩;obtain⟨_,s,l,h1,hp,hb,h2,h3,h4⟩:=ha.1.good i x (hmet hx) (h0 _) hx;exact⟨s,l,h1,hp,hb,h2,h3,fun q hq=>⟨(h4 q hq).1,(h4 q hq).2.2⟩⟩
   .cases h
  .cases h
 .cases h
end Go.Proofs
namespace Go.Proofs
open Go Go.Abs
end Go.Proofs
namespace Go.Proofs
open Go Go.Abs
def Ni(sizes:List Int)(x:Cd):Int:=((x.kids[0]?).map fun k=>(sizes[k.toNat]?).getD 0).getD 0
def GG(sizes:List Int):List Int→List Cd→List Int
 |out,[]=>out
 |out,x::l=>GG sizes (if x.op=4 then out.set x.n.toNat (Ni sizes x)else out) l
def Bx(p:AJ)(sizes:List Int):List Int:=GG sizes (List.replicate p.defs.length 0) p.nodes
theorem Nd(sizes:List Int): ∀(l:List Cd) (out:List Int),(GG sizes out l).length=out.length
 |[],out=>rfl
 |x::l,out=>by
  rw[GG,Nd sizes l];split<;>simp
theorem Nc(sizes:List Int)(n:Nat)(v:Int): ∀(l:List Cd) (out:List Int),n<out.length→(∀x∈l,x.op=4→x.n.toNat=n→Ni sizes x=v)→(out[n]? =some v∨ ∃x∈l,x.op=4∧x.n.toNat=n)→(GG sizes out l)[n]? =some v
 |[],out,hn,h1,h2=>by
  rcases h2 with h|⟨x,hx,_⟩
  .exact h
  .cases hx
 |x::l,out,hn,h1,h2=>by
  rw[GG];refine Nc sizes n v l _ (by split<;>simpa using hn) (fun y hy=>h1 y (List.mem_cons_of_mem _ hy)) ?_;by_cases hx:x.op=4∧x.n.toNat=n
  .left;rw[if_pos hx.1,List.getElem?_set,if_pos hx.2,hx.2,if_pos hn,h1 x (by simp) hx.1 hx.2]
  .rcases h2 with h|⟨y,hy,hyo⟩
   .left;split
    .rename_i ho;rw[List.getElem?_set,if_neg fun e=>hx ⟨ho,e⟩];exact h
    .exact h
   .rcases List.mem_cons.1 hy with rfl|hy
    .exact absurd hyo hx
    .exact .inr ⟨y,hy,hyo⟩
structure uw(p:AJ)(sizes:List Int)(n:Nat)(d:CH):Prop where
 ok:QC d
 node: ∃(i:Nat) (x:Cd) (s:Int),p.nodes[i]? =some x∧x.op=4∧x.n.toNat=n∧sizes[i]? =some s∧0≤s∧s≤5000∧(Bx p sizes)[n]? =some (s+d.own)∧(∀r∈d.rules,0≤r.node∧sizes[r.node.toNat]? =some (s+d.own+DF d r.joins))∧(∀y∈d.spots,0≤y.node∧sizes[y.node.toNat]? =some (s+d.own))∧ ∃k,x.kids=[k]∧0≤k∧sizes[k.toNat]? =some (s+d.own)
theorem CA{p:AJ}{sizes:List Int}(h:BO p sizes){n:Nat}{d:CH}(hd:p.defs[n]? =some d):uw p sizes n d:=by
 have hn:=(List.getElem?_eq_some_iff.1 hd).1;obtain⟨i,x,hx,hxo,hxn⟩:=h.used n hn;obtain⟨s,l,hs,h0,hb,hok,hl,hq⟩:=h.node i x hx;have hl2:=hl;rw[Iq,if_pos hxo,hxn,hd]at hl2;dsimp only at hl2;split at hl2
 .rename_i hg;cases hl2;have hkids: ∃k,x.kids=[k]:=by
   simp only[EC,Bool.and_eq_true,decide_eq_true_eq]at hok;have:=hok.1;rw[hxo]at this;simp only[FT]at this;have:x.kids.length=1:=by simpa using this.symm
   match hk:x.kids,this with
   |[k],_=>exact⟨k,rfl⟩
  obtain⟨k,hk⟩:=hkids;have hkq:0≤k∧sizes[k.toNat]? =some (s+d.own):=hq (k,s+d.own) (by simp[DG,hk]);refine⟨VZ hg,i,x,s,hx,hxo,hxn,hs,h0,hb,?_,fun r hr=>?_,fun y hy=>?_,k,hk,hkq⟩
  .refine Nc sizes n _ p.nodes _ (by simpa using hn) (fun y hy hyo hyn=>?_) (.inr ⟨x,List.mem_of_getElem? hx,hxo,hxn⟩);obtain⟨j,hj⟩:=List.getElem?_of_mem hy;by_cases hij:i=j
   .subst hij;rw[hx]at hj;cases hj;simp[Ni,hk,hkq.2]
   .exact absurd (hxn.trans hyn.symm) (h.diff i j x y hij hx hxo hj hyo)
  .exact hq (r.node,s+d.own+DF d r.joins) (by simp only[HI,List.mem_append,List.mem_map];exact .inl ⟨r,hr,rfl⟩)
  .exact hq (y.node,s+d.own) (by simp only[GP,List.mem_append,List.mem_map];exact .inr (.inl ⟨y,hy,rfl⟩))
 .cases hl2
def Ah.own(d:CH)(g:Ah)(ch:Bool)(n:Int):Int:=((g.env[g.env.length-d.spots.length-(if ch then d.chans.length else 0)+n.toNat]?).map Cc.n).getD 0
def Ah.place(d:CH)(g:Ah)(n:Int):Int:=if n=0 then g.at_ else g.own d false (n-1)
def AY(l:List BC)(i:Int):Bool:=((l[i.toNat]?).map BC.dead).getD false
def Hb(p:AJ)(nc ns:Nat)(many:Int)(m:List Cc):Bool:=decide ((m.length:Int)=many)&&m.all (Cc.inB p nc ns)
def PF(p:AJ)(s:A8)(d:CH)(g:Ah)(i j:Nat)(q:Fa)(ch:HP):Bool:=
 decide (q.group=i)&&(decide (q.index=j)&&(decide (q.at_=g.place d ch.at_)&&(decide (q.queue.length≤12)&&((decide (q.queue.length=0)|| !AY s.spots q.at_)&&q.queue.all (Hb p s.chans.length s.spots.length ch.many)))))
def MJ(p:AJ)(s:A8)(d:CH)(g:Ah)(i j a:Nat)(ch:HP):Bool:=match s.chans[a]? with|some q=>PF p s d g i j q ch|none=>false
def Fw(p:AJ)(s:A8)(d:CH)(g:Ah)(i c:Nat):Nat→List HP→Bool
 |_,[]=>true
 |j,ch::l=>MJ p s d g i j (c+j) ch&&Fw p s d g i c (j+1) l
def E2(c k:Nat)(d:CH):List Cc:=(List.range' c d.chans.length).map (fun(j:Nat)=>⟨3,(j:Int)⟩)++(List.range' k d.spots.length).map (fun(j:Nat)=>⟨4,(j:Int)⟩)
def Dz(d:CH)(c k:Nat)(g:Ah):Bool:=decide (g.env.drop (g.env.length-d.chans.length-d.spots.length)=E2 c k d)
def KZ(p:AJ)(gs:List Int)(s:A8)(i c k:Nat)(g:Ah)(d:CH):Bool:=
 decide (Ei s.spots g.at_)&&(decide ((g.env.length:Int)=(gs[g.def_.toNat]?).getD 0)&&(g.env.all (Cc.inB p s.chans.length s.spots.length)&&(Dz d c k g&&Fw p s d g i c 0 d.chans)))
def AJ.def? (p:AJ)(n:Int):Option CH:=if 0≤n then p.defs[n.toNat]? else none
def E0(p:AJ)(gs:List Int)(s:A8):Nat→Nat→Nat→List Ah→Bool
 |_,c,k,[]=>decide (c=s.chans.length)&&decide (k=s.spots.length)
 |i,c,k,g::l=>match p.def? g.def_ with
  |some d=>KZ p gs s i c k g d&&E0 p gs s (i+1) (c+d.chans.length) (k+d.spots.length) l
  |none=>false
def ET(op:Int):Bool:=decide (op=6)||(decide (op=7)||decide (op=8))
def CP(p:AJ)(sizes:List Int)(s:A8)(w:E7):Bool:=
 decide (Ei s.spots w.at_)&&(!AY s.spots w.at_&&(decide (0≤w.node)&&((match p.nodes[w.node.toNat]? with|some x=>ET x.op|none=>false)&&(decide ((w.env.length:Int)=(sizes[w.node.toNat]?).getD 0)&&w.env.all (Cc.inB p s.chans.length s.spots.length)))))
def IL(l:List BC):List BC→Bool
 |[]=>true
 |x::m=>(x.dead|| !AY l x.in_)&&IL l m
def A8.small(s:A8):Bool:=decide (s.spots.length≤24)&&(decide (s.groups.length≤40)&&(decide (s.chans.length≤60)&&decide (s.waits.length≤40)))
def Du(p:AJ)(sizes:List Int)(s:A8):Bool:=
 s.small&&(Ir s.spots&&(IL s.spots (s.spots.drop 1)&&(E0 p (Bx p sizes) s 0 0 1 s.groups&&s.waits.all (CP p sizes s))))
end Go.Proofs
namespace Go.Proofs
open Go Go.Abs
theorem Qi{p:AJ}{sizes:List Int}(h:BO p sizes){i:Nat}{x:Cd}(hx:p.nodes[i]? =some x)(ho:x.op=4):0≤x.n∧x.n<p.defs.length∧ ∃k v,x.kids=[k]∧0≤k∧sizes[k.toNat]? =some v∧Ni sizes x=v∧0≤v∧v≤5070:=by
 obtain⟨s,l,hs,h0,hb,hok,hl,hq⟩:=h.node i x hx;simp only[EC,Bool.and_eq_true,decide_eq_true_eq]at hok;have hn:=hok.2.1;rw[uo,if_neg (by rw[ho];decide),if_pos ho]at hn;have hn:=of_decide_eq_true hn;refine⟨hn.1,hn.2,?_⟩;have hk:=hok.1;rw[ho]at hk;simp only[FT]at hk;have hkl:x.kids.length=1:=by simpa using hk.symm
 match hkk:x.kids,hkl with
 |[k],_=>
  have hl2:=hl;rw[Iq,if_pos ho]at hl2;split at hl2
  .rename_i d hd;split at hl2
   .rename_i hg;cases hl2;have hkq:0≤k∧sizes[k.toNat]? =some (s+d.own):=hq (k,s+d.own) (by simp[DG,hkk]);have:=Rh (VZ hg);exact⟨k,s+d.own,rfl,hkq.1,hkq.2,by simp[Ni,hkk,hkq.2],by omega,by omega⟩
   .cases hl2
  .cases hl2
end Go.Proofs
namespace Go.Proofs
open Go Go.Abs
theorem Mr(c k:Nat)(d:CH):(E2 c k d).length=d.own:=by simp[E2,CH.own]
theorem PW(c k:Nat)(d:CH){j:Nat}(h:j<d.chans.length):(E2 c k d)[j]? =some ⟨3,(c:Int)+(j:Int)⟩:=by
 rw[E2,List.getElem?_append_left (by simpa using h),List.getElem?_map,List.getElem?_range' h];simp
theorem PX(c k:Nat)(d:CH){j:Nat}(h:j<d.spots.length):(E2 c k d)[d.chans.length+j]? =some ⟨4,(k:Int)+(j:Int)⟩:=by
 rw[E2,List.getElem?_append_right (by simp)];simp only[List.length_map,List.length_range'];rw[Nat.add_sub_cancel_left,List.getElem?_map,List.getElem?_range' h];simp
theorem YE{d:CH}{c k:Nat}{g:Ah}(h:Dz d c k g=true)(j:Nat):g.env[g.env.length-d.chans.length-d.spots.length+j]? =(E2 c k d)[j]? :=by
 have h:=of_decide_eq_true h;rw[←h,List.getElem?_drop]
theorem Tm{d:CH}{c k:Nat}{g:Ah}(h:Dz d c k g=true){j:Nat}(hj:j<d.chans.length):g.env[g.env.length-d.chans.length-d.spots.length+j]? =some ⟨3,(c:Int)+(j:Int)⟩:=by
 rw[YE h,PW _ _ _ hj]
theorem Tn{d:CH}{c k:Nat}{g:Ah}(h:Dz d c k g=true)(he:d.own≤g.env.length){j:Nat}(hj:j<d.spots.length):g.env[g.env.length-d.spots.length+j]? =some ⟨4,(k:Int)+(j:Int)⟩:=by
 unfold CH.own at he;have:=YE h (d.chans.length+j);rw[PX _ _ _ hj]at this;rw[←this];congr 1;omega
theorem Rl{d:CH}{c k:Nat}{g:Ah}(h:Dz d c k g=true)(he:d.own≤g.env.length){n:Int}(h1:1≤n)(h2:n≤d.spots.length):g.place d n=(k:Int)+(n-1):=by
 rw[Ah.place,if_neg (by omega),Ah.own];simp only[Bool.false_eq_true,if_false,Nat.sub_zero];rw[Tn h he (j:=(n-1).toNat) (by omega)];simp only[Option.map_some,Option.getD_some];omega
theorem LG{d:CH}{c k:Nat}{g:Ah}(h:Dz d c k g=true){n:Int}(h1:0≤n)(h2:n<d.chans.length):g.own d true n=(c:Int)+n:=by
 rw[Ah.own];simp only[if_true];have:=Tm h (j:=n.toNat) (by omega);rw[show g.env.length-d.spots.length-d.chans.length+n.toNat=g.env.length-d.chans.length-d.spots.length+n.toNat by omega,this];simp only[Option.map_some,Option.getD_some];omega
theorem Rk{p:AJ}{s:A8}{d:CH}{c k:Nat}{g:Ah}(h:Dz d c k g=true)(he:d.own≤g.env.length)(hat:Ei s.spots g.at_)(hv:g.env.all (Cc.inB p s.chans.length s.spots.length)=true){n:Int}(h1:0≤n)(h2:n≤d.spots.length):Ei s.spots (g.place d n):=by
 by_cases h0:n=0
 .rw[Ah.place,if_pos h0];exact hat
 .rw[Rl h he (by omega) h2];have hg:=Tn h he (j:=(n-1).toNat) (by omega);have:=List.all_eq_true.1 hv _ (List.mem_of_getElem? hg);simp[Cc.inB]at this;have e:((n-1).toNat:Int)=n-1:=Int.toNat_of_nonneg (by omega);constructor
  .omega
  .omega
end Go.Proofs
namespace Go.Proofs
open Go Go.Abs
structure CU where
 sol:A8
 ev:List Iy
 work:Int
structure Gl where
 node:Int
 at_:Int
 env:List Cc
def Cf{α:Type}(l:List α)(i:Int):List α:=l.take i.toNat++l.drop (i.toNat+1)
def Hc(l:List Cc)(i:Int):Cc:=(l[i.toNat]?).getD ⟨0,0⟩
def Dd(p:AJ)(s:A8)(q:Fa):Int:=(((s.groups[q.group.toNat]?).bind fun g=>(p.defs[g.def_.toNat]?).bind fun d=>d.chans[q.index.toNat]?).map HP.many).getD 0
def W3(s:A8)(n:Int)(q:Fa)(l:List Cc):Option A8:=if q.queue.length<12 then some {s with chans:=s.chans.set n.toNat {q with queue:=q.queue++[l]}}else none
def O1(p:AJ)(s:A8)(n:Int)(l:List Cc):Option A8:=match s.chans[n.toNat]? with
 |some q=>if AY s.spots q.at_=false∧Dd p s q=l.length then W3 s n q l else some s
 |none=>some s
def AD3(at_ n:Int)(l:List Cc):Iy:=⟨5,at_,n,0,l⟩
def EZ(p:AJ)(x:Cd)(j:Gl)(st:CU):Option CU:=
 let l:=x.args.map (·.value j.env)
 let to:=Hc j.env x.n
 if to.kind=2 then some {st with ev:=st.ev++[AD3 j.at_ to.n l]}
 else if to.kind=3 then(O1 p st.sol to.n l).map fun s=>{st with sol:=s}else some st
def Ed(d:CH)(g:Ah)(i:Nat):Nat→List HP→List Fa
 |_,[]=>[]
 |k,c::l=>⟨i,k,g.place d c.at_,[]⟩::Ed d g i (k+1) l
def Cx(d:CH)(g:Ah)(l:List MH):List BC:=l.map fun y=>⟨g.place d y.in_,false⟩
def Ad(s:A8)(d:CH)(n:Int)(j:Gl):Ah:=⟨n,j.at_,j.env++E2 s.chans.length s.spots.length d⟩
def B5(s:A8)(d:CH)(g:Ah):A8:={s with groups:=s.groups++[g],chans:=s.chans++Ed d g s.groups.length 0 d.chans,spots:=s.spots++Cx d g d.spots}
def DE(d:CH)(g:Ah):Nat→List MH→List Gl
 |_,[]=>[]
 |k,y::l=>⟨y.node,g.place d (k+1),g.env⟩::DE d g (k+1) l
def BR(x:Cd)(k:Nat)(at_:Int)(env:List Cc):List Gl:=match x.kids[k]? with
 |some n=>[⟨n,at_,env⟩]
 |none=>[]
def HZ(p:AJ)(x:Cd)(j:Gl)(st:CU):Option (CU×List Gl):=match p.defs[x.n.toNat]? with
 |some d=>
  let g:=Ad st.sol d x.n j
  let s:=B5 st.sol d g
  if s.chans.length≤60∧s.spots.length≤24∧s.groups.length≤40 then some ({st with sol:=s},DE d g 0 d.spots++BR x 0 j.at_ g.env)else none
 |none=>none
def Tc(x:Cd)(env:List Cc):Nat:=match x.args[0]? with
 |some e=>if (e.value env).kind=1∧(e.value env).n≠0 then 0 else 1
 |none=>1
def JC(j:Gl)(st:CU):Option CU:=if st.sol.waits.length<40 then some {st with sol:={st.sol with waits:=st.sol.waits++[⟨j.at_,j.node,j.env⟩]}}else none
def Ku(p:AJ)(j:Gl)(st:CU):Option (CU×List Gl):=match p.nodes[j.node.toNat]? with
 |some x=>
  if x.op=2 then(EZ p x j st).map fun st=>(st,[])
  else if x.op=3 then some (st,BR x 0 j.at_ j.env++BR x 1 j.at_ j.env)
  else if x.op=4 then HZ p x j st
  else if x.op=5 then some (st,BR x (Tc x j.env) j.at_ j.env)
  else if ET x.op=true then(JC j st).map fun st=>(st,[])
  else some (st,[])
 |none=>none
def Bo(f:Gl→CU→Option CU):List Gl→CU→Option CU
 |[],st=>some st
 |j::l,st=>(f j st).bind (Bo f l)
def Mc(f:Gl→CU→Option CU):Option (CU×List Gl)→Option CU
 |some (st,js)=>Bo f js st
 |none=>none
def Fg(p:AJ):Nat→Gl→CU→Option CU
 |0,_,_=>none
 |k+1,j,st=>if st.work<400 then Mc (Fg p k) (Ku p j {st with work:=st.work+1})else none
def goes(p:AJ)(s:A8)(w:E7):Bool:=match p.nodes[w.node.toNat]? with
 |some x=>if x.op=7 then true else
  let v:=Hc w.env x.n
  if v.kind=4 then(if x.op=8 then AY s.spots v.n else decide (w.at_≠0)&&(!AY s.spots v.n&& !Ck s.spots v.n w.at_))else false
 |none=>false
def CC(p:AJ)(s:A8):Nat→List E7→List CJ
 |_,[]=>[]
 |i,w::l=>(if goes p s w=true then [⟨i,0,0,[]⟩]else [])++CC p s (i+1) l
def Ct:List Nat→List (List Int)
 |[]=>[[]]
 |n::l=>(List.range n).flatMap fun(i:Nat)=>(Ct l).map fun t=>(i:Int)::t
def Sn(s:A8)(c:Int):Nat:=((s.chans[c.toNat]?).map fun q=>q.queue.length).getD 0
def Bn(s:A8)(d:CH)(g:Ah)(r:FP):List Nat:=r.joins.map fun c=>Sn s (g.own d true c)
def DQ(s:A8)(d:CH)(g:Ah)(r:FP):List (List Int):=if AY s.spots (g.place d r.at_)=true then []else Ct (Bn s d g r)
def BX(s:A8)(d:CH)(g:Ah)(i:Nat):Nat→List FP→List CJ
 |_,[]=>[]
 |k,r::l=>((DQ s d g r).map fun t=>⟨-1,i,k,t⟩)++BX s d g i (k+1) l
def CL(p:AJ)(s:A8):Nat→List Ah→List CJ
 |_,[]=>[]
 |i,g::l=>(match p.def? g.def_ with|some d=>BX s d g i 0 d.rules|none=>[])++CL p s (i+1) l
def Au(p:AJ)(s:A8):List CJ:=CC p s 0 s.waits++CL p s 0 s.groups
def Et(s:A8)(c:Int)(k:Int):List Cc×A8:=match s.chans[c.toNat]? with
 |some q=>(((q.queue[k.toNat]?).getD []),{s with chans:=s.chans.set c.toNat {q with queue:=Cf q.queue k}})
 |none=>([],s)
def Bc(d:CH)(g:Ah):List Int→List Int→A8→List Cc×A8
 |c::cs,k::ks,s=>((Et s (g.own d true c) k).1++(Bc d g cs ks (Et s (g.own d true c) k).2).1,(Bc d g cs ks (Et s (g.own d true c) k).2).2)
 |_,_,s=>([],s)
def Vh(p:AJ)(x:CJ)(d:CH)(g:Ah)(r:FP)(s:A8):Option CU:=
 let t:=Bc d g r.joins x.picks s
 let at_:=g.place d r.at_
 Fg p 401 ⟨r.node,at_,g.env++t.1⟩ ⟨t.2,[⟨1,at_,x.group,x.rule,t.1⟩],0⟩
def tK(p:AJ)(s:A8)(x:CJ):Option CU:=match s.groups[x.group.toNat]? with
 |some g=>match p.defs[g.def_.toNat]? with
  |some d=>match d.rules[x.rule.toNat]? with
   |some r=>Vh p x d g r s
   |none=>none
  |none=>none
 |none=>none
def Fy(l:List BC)(at_:Int):Nat→List BC→List BC
 |_,[]=>[]
 |i,x::m=>{x with dead:=x.dead||Ck l i at_}::Fy l at_ (i+1) m
def OW(s:A8)(at_:Int):A8:=
 let l:=Fy s.spots at_ 0 s.spots
 {spots:=l,groups:=s.groups,chans:=s.chans.map fun q=>if AY l q.at_=true then{q with queue:=[]}else q,waits:=s.waits.filter fun w=> !AY l w.at_}
def GY(l:List BC)(i n:Int):List BC:=match l[i.toNat]? with
 |some x=>l.set i.toNat {x with in_:=n}
 |none=>l
def M7(p:AJ)(s:A8)(w:E7)(x:Cd):Option CU:=
 let n:=(Hc w.env x.n).n
 if x.op=7 then some ⟨OW s w.at_,[⟨3,w.at_,0,0,[]⟩],0⟩
 else if x.op=6 then Bo (Fg p 401) (BR x 0 w.at_ w.env) ⟨{s with spots:=GY s.spots w.at_ n},[⟨2,w.at_,n,0,[]⟩],0⟩
 else Bo (Fg p 401) (BR x 0 w.at_ w.env) ⟨s,[⟨4,w.at_,n,0,[]⟩],0⟩
def SE(p:AJ)(s:A8)(i:Int):Option CU:=match s.waits[i.toNat]? with
 |some w=>match p.nodes[w.node.toNat]? with
  |some x=>M7 p {s with waits:=Cf s.waits i} w x
  |none=>none
 |none=>none
def Dn(p:AJ)(s:A8)(x:CJ):Option CU:=if x.wait<0 then tK p s x else SE p s x.wait
structure eN(p:AJ)(s:A8)(q:Fa):Prop where
 at_:Ei s.spots q.at_
 g0:0≤q.group
 i0:0≤q.index
 ex: ∃g d ch,s.groups[q.group.toNat]? =some g∧0≤g.def_∧p.defs[g.def_.toNat]? =some d∧d.chans[q.index.toNat]? =some ch
 len:q.queue.length≤12
end Go.Proofs
namespace Go.Abs
theorem bX(k:IntKind)(a b:Int)(v:AV)(es:List (AW×AV)):Ch ((.int k a,v)::es) (.int k b)=if a=b then some (some v)else Ch es (.int k b):=by
 rw[Ch];by_cases h:a=b
 .have hb:(a==b)=decide (a=b):=by rw[Bool.eq_iff_iff];simp
  simp[GU,h,hb]
 .have hb:(a==b)=decide (a=b):=by rw[Bool.eq_iff_iff];simp
  simp[GU,h,hb]
attribute [go_sem] bX
end Go.Abs
namespace Go.Proofs
open Go Go.Abs
def Iz:List (AW×AV):=[(.int .i64 2,.fn 110 [] []),(.int .i64 3,.fn 111 [] []),(.int .i64 4,.fn 112 [] []),(.int .i64 5,.fn 113 [] []),(.int .i64 6,.fn 114 [] []),(.int .i64 7,.fn 114 [] []),(.int .i64 8,.fn 114 [] [])]
def Aq(x:Fa)(v:AV):List AV:=[.d (.int .i64 x.group),.d (.int .i64 x.index),.d (.int .i64 x.at_),v]
end Go.Proofs
namespace Go.Proofs
open Go Go.Abs
set_option maxRecDepth 100000
set_option maxHeartbeats 2000000
def B3(n:Int):AV:=.iface 177 (.agg [.d (.int .i64 n)])
theorem aU(n:Int):flat (B3 n)=true:=by simp[B3,flat,Ev,Dg]
attribute [go_sem] aU
@[go_sem] theorem ADA(n:Int):BM (KL Tryz.prog cfg) 107 [.d (.int .i64 n)] []=.ok (.pan (B3 n),[]):=by
  (refine Ay rfl Tryz.func107 rfl rfl rfl ?_;show Wp _ _ _ _ (Tryz.f107.body.get rfl) _ _;simp only[Tryz.f107,Option.get_some])
  (repeat' (first|simp only[go_sem, *,B3]|(refine sx ?_ ?_<;>intro hc)|refine sy (by omega) fun x hx hm=>?_|simp(disch:=first|assumption|omega) only[wrap_id,AK,AH,slice_int]))
@[go_sem] theorem ADQ(t:Bool):BM (KL Tryz.prog cfg) 62 [.d (.bool t)] []=Bl (B3 2) t:=by
  cases t
  .rw[JR]
   (refine Ay rfl Tryz.func62 rfl rfl rfl ?_;show Wp _ _ _ _ (Tryz.f62.body.get rfl) _ _;simp only[Tryz.f62,Option.get_some])
   exact au
  .rw[KT]
   (refine Ay rfl Tryz.func62 rfl rfl rfl ?_;show Wp _ _ _ _ (Tryz.f62.body.get rfl) _ _;simp only[Tryz.f62,Option.get_some])
   exact au
def Tx(x:B4)(size depth left:Int):Prop:=(x.size:Int)≤left∧depth+x.depth≤13∧x.formed size=true
end Go.Proofs
namespace Go.Proofs
open Go Go.Abs
set_option maxRecDepth 100000
set_option maxHeartbeats 2000000
theorem ABN(x:B4)(size:Int):Tx x size 1 60↔x.ok size=true:=by
 simp only[Tx,B4.ok,Bool.and_eq_true,decide_eq_true_eq];constructor
 .rintro⟨h1,h2,h3⟩;exact⟨by omega,by omega,h3⟩
 .rintro⟨h1,h2,h3⟩;exact⟨by omega,by omega,h3⟩
end Go.Proofs
namespace Go.Abs
variable{P:Program}{C:CG}{K:AL}{fr:Fr}{b n i:Nat}{Q:DX→St→Prop}
variable{ops:Array Oper}{al:Nat→Bool}{l:List Oper}{e:BS}{h:AB}{bs:Nat}{ds:List Df}{ps:List (Nat×Nat)}{fps:List Fp}{ρ:List Nat}{dst:Option Tmp}
theorem Vt(ρ:List Nat):JS (some ρ) []=true:=rfl
theorem uY(ρ:List Nat)(id:Id)(o:Obj)(δ:AB):JS (some ρ) ((id,o)::δ)=(Id.under ρ id&&JS (some ρ) δ):=rfl
theorem Jy(ρ:List Nat)(a j:Nat):Id.under ρ (a::j::ρ)=true:=under_iff.2 ⟨[a,j],rfl⟩
theorem C0{Post:AZ→Prop}{q:E (AZ×AB)}(hk: ∃o h',q=.ok (o,h')∧Post o)(hn: ∀o h',Post o→roP C K fr ops b n al l i dst e h bs ds Q (.ok (o,h'))):roP C K fr ops b n al l i dst e h bs ds Q q:=by
 obtain⟨o,h',e,hp⟩:=hk;rw[e];exact hn o h' hp
theorem yx(v:AV)(h':AB):roP C K fr ops b n al l i dst e h bs ds Q (.ok (.ret v,h'))=(flat v=true∧E3 C K fr ops b n al l (i+1) ⟨CD e dst v,h,bs,ds⟩ Q):=rfl
theorem yw(v:AV)(h':AB):roP C K fr ops b n al l i dst e h bs ds Q (.ok (.pan v,h'))=(flat v=true∧al i=true∧Q (.pan v) ⟨e,h,b+n,ds⟩):=rfl
def roF(C:CG)(K:AL)(fr:Fr)(ops:Array Oper)(b n:Nat)(al:Nat→Bool)(ps:List (Nat×Nat))(fps:List Fp)(l:List Oper)(i:Nat)(dst:Option Tmp)(e:BS)(h:AB)(bs:Nat)(ds:List Df)(Q:DX→St→Prop):E (AZ×AB)→Prop
 |.ok (.ret v,_)=>flat v=true∧Fi C K fr ops b n al ps (fps++[⟨none,some []⟩]) l (i+1) ⟨CD e dst v,h,bs,ds⟩ Q
 |.ok (.pan v,_)=>flat v=true∧al i=true∧DI fps ps=true∧Q (.pan v) ⟨e,h,b+n,ds⟩
 |.err _=>False
theorem sS(dst:Option Tmp)(ρ:List Nat)(f:FuncId)(az:List AV)(hx:(DT h.get az).isNone):Ka C K fr ops b n al ps fps l i dst ρ e h bs ds Q f az .ro=roF C K fr ops b n al ps fps l i dst e h bs ds Q (K (.fn f) (LY h.get az) (h.puts (az.flatMap (mark h.get))) ρ true (some ρ)):=by
 have hx:DT h.get az=none:=by simpa using hx
 simp only[Ka,DB,hx,EW,A6,BT,Aa];cases K (.fn f) (LY h.get az) (h.puts (az.flatMap (mark h.get))) ρ true (some ρ)with
 |err l=>rfl
 |ok r=>
  obtain⟨o,h'⟩:=r;cases o<;>simp only[N3,roF,Av]<;>split<;>simp_all [Bk]
theorem Cm{Post:AZ→Prop}{q:E (AZ×AB)}(hk: ∃o h',q=.ok (o,h')∧Post o)(hn: ∀o h',Post o→roF C K fr ops b n al ps fps l i dst e h bs ds Q (.ok (o,h'))):roF C K fr ops b n al ps fps l i dst e h bs ds Q q:=by
 obtain⟨o,h',e,hp⟩:=hk;rw[e];exact hn o h' hp
theorem yv(v:AV)(h':AB):roF C K fr ops b n al ps fps l i dst e h bs ds Q (.ok (.ret v,h'))=(flat v=true∧Fi C K fr ops b n al ps (fps++[⟨none,some []⟩]) l (i+1) ⟨CD e dst v,h,bs,ds⟩ Q):=rfl
theorem yu(v:AV)(h':AB):roF C K fr ops b n al ps fps l i dst e h bs ds Q (.ok (.pan v,h'))=(flat v=true∧al i=true∧DI fps ps=true∧Q (.pan v) ⟨e,h,b+n,ds⟩):=rfl
theorem zI(ρ:List Nat)(a j:Nat)(o:Obj)(δ:AB):JS (some ρ) ((a::j::ρ,o)::δ)=JS (some ρ) δ:=by rw[uY,Jy,Bool.true_and]
attribute [go_sem] Vt zI yx yw sS yv yu
end Go.Abs
namespace Go.Proofs
open Go Go.Abs
set_option maxRecDepth 100000
set_option maxHeartbeats 4000000
def Ig(π:List Nat)(sz n:Nat)(es:List (List AW)):AZ×AB:=if n=0 then(.ret .nils,[])else(.ret (.osl (1::0::π) 0 n),[(1::0::π,.darr sz es)])
theorem pw(f:FuncId)(hmd:cfg.mode f=.auto)(l:List BC)(hf: ∀x∈l,BM (KL Tryz.prog cfg) f [.agg [.d (.int .i64 (x.in_)),.d (.bool (x.dead))]] []=.ok (.ret (.agg [.d (.int .i64 (x.in_)),.d (.bool (x.dead))]),[]))(hl:l.length≤1000000)(k:Nat)(ρ:List Nat):BM (KL Tryz.prog cfg) 148 [.d (.lst (l.map Af)),.fn f [] []] (k::ρ)=.ok (Ig (k::ρ) 2 l.length (l.map Af)):=by
 (refine Ay rfl Tryz.func148 rfl rfl rfl ?_;show Wp _ _ _ _ (Tryz.f148.body.get rfl) _ _;simp only[Tryz.f148,Option.get_some])
 refine aw ?_;refine AX l _ (S:=fun m i (a:(AV×AB)×Nat)=>⟨[(1,.fn f [] []),(5,a.1.1),(8,.d (.lst (l.map Af))),(9,.d (.int .i64 (m))),(10,.d (.int .i64 (i)))],a.1.2,a.2,[]⟩)
  (Inv:=fun i rest a=>AA (i=0∧a=((.nils,[]),0)∨0<i∧a=((.osl (1::0::k::ρ) 0 i,[(1::0::k::ρ,.darr 2 ((l.take i).map Af))]),1))) (b0:=((_,[]),_)) ?_ ⟨.inl ⟨rfl,rfl⟩⟩ ?_ ?_
 .rfl
 .rintro i x a hy hi him hv IH;have hx:=hf x (List.mem_of_getElem? hy);replace hf:=AA.mk hf;rcases hv.out with⟨rfl,rfl⟩|⟨hi0,rfl⟩
  .clear hv;have him0:(0:Int)<l.length:=him;dsimp only at*;refine aw ?_;refine IH.out ((_,_),_) ⟨.inr ⟨by omega,?_⟩⟩;rw[List.take_succ,hy];rfl
  .clear hv;dsimp only at*;have tk:(l.take i).length=i:=by simp;omega
   have nle: ¬i+1≤i:=by omega
   refine aw ?_;refine IH.out ((_,_),_) ⟨.inr ⟨by omega,?_⟩⟩;have tk2:List.take i (List.map Af (List.take i l))=List.map Af (List.take i l):=List.take_of_length_le (by simp;omega);rw[List.take_succ,hy,tk2,List.map_append];rfl
 .rintro i a hi him hv;replace hf:=AA.mk hf;rcases hv.out with⟨rfl,rfl⟩|⟨hi0,rfl⟩
  .clear hv;have him0: ¬(0:Int)<l.length:=him;dsimp only at*;have hl0:=AA.mk (hi.out.symm);refine aw ?_;rw[Ig,if_pos hl0.out]
  .clear hv;dsimp only at*;by_cases h0:l.length=0
   .exfalso;have:=hi.out;omega
   .rw[Ig,if_neg h0];have hi2:=hi.out;subst hi2;rw[List.take_length];exact au
theorem hO(f:FuncId)(hmd:cfg.mode f=.auto)(l:List Ah)(hf: ∀x∈l,BM (KL Tryz.prog cfg) f [.agg [.d (.int .i64 (x.def_)),.d (.int .i64 (x.at_)),.d (.lst (x.env.map AN))]] []=.ok (.ret (.agg [.d (.int .i64 (x.def_)),.d (.int .i64 (x.at_)),.d (.lst (x.env.map AN))]),[]))(hl:l.length≤1000000)(k:Nat)(ρ:List Nat):BM (KL Tryz.prog cfg) 150 [.d (.lst (l.map A3)),.fn f [] []] (k::ρ)=.ok (Ig (k::ρ) 3 l.length (l.map A3)):=by
 (refine Ay rfl Tryz.func150 rfl rfl rfl ?_;show Wp _ _ _ _ (Tryz.f150.body.get rfl) _ _;simp only[Tryz.f150,Option.get_some])
 refine aw ?_;refine AX l _ (S:=fun m i (a:(AV×AB)×Nat)=>⟨[(1,.fn f [] []),(5,a.1.1),(8,.d (.lst (l.map A3))),(9,.d (.int .i64 (m))),(10,.d (.int .i64 (i)))],a.1.2,a.2,[]⟩)
  (Inv:=fun i rest a=>AA (i=0∧a=((.nils,[]),0)∨0<i∧a=((.osl (1::0::k::ρ) 0 i,[(1::0::k::ρ,.darr 3 ((l.take i).map A3))]),1))) (b0:=((_,[]),_)) ?_ ⟨.inl ⟨rfl,rfl⟩⟩ ?_ ?_
 .rfl
 .rintro i x a hy hi him hv IH;have hx:=hf x (List.mem_of_getElem? hy);replace hf:=AA.mk hf;rcases hv.out with⟨rfl,rfl⟩|⟨hi0,rfl⟩
  .clear hv;have him0:(0:Int)<l.length:=him;dsimp only at*;refine aw ?_;refine IH.out ((_,_),_) ⟨.inr ⟨by omega,?_⟩⟩;rw[List.take_succ,hy];rfl
  .clear hv;dsimp only at*;have tk:(l.take i).length=i:=by simp;omega
   have nle: ¬i+1≤i:=by omega
   refine aw ?_;refine IH.out ((_,_),_) ⟨.inr ⟨by omega,?_⟩⟩;have tk2:List.take i (List.map A3 (List.take i l))=List.map A3 (List.take i l):=List.take_of_length_le (by simp;omega);rw[List.take_succ,hy,tk2,List.map_append];rfl
 .rintro i a hi him hv;replace hf:=AA.mk hf;rcases hv.out with⟨rfl,rfl⟩|⟨hi0,rfl⟩
  .clear hv;have him0: ¬(0:Int)<l.length:=him;dsimp only at*;have hl0:=AA.mk (hi.out.symm);refine aw ?_;rw[Ig,if_pos hl0.out]
  .clear hv;dsimp only at*;by_cases h0:l.length=0
   .exfalso;have:=hi.out;omega
   .rw[Ig,if_neg h0];have hi2:=hi.out;subst hi2;rw[List.take_length];exact au
theorem px(f:FuncId)(hmd:cfg.mode f=.auto)(l:List E7)(hf: ∀x∈l,BM (KL Tryz.prog cfg) f [.agg [.d (.int .i64 (x.at_)),.d (.int .i64 (x.node)),.d (.lst (x.env.map AN))]] []=.ok (.ret (.agg [.d (.int .i64 (x.at_)),.d (.int .i64 (x.node)),.d (.lst (x.env.map AN))]),[]))(hl:l.length≤1000000)(k:Nat)(ρ:List Nat):BM (KL Tryz.prog cfg) 156 [.d (.lst (l.map AR)),.fn f [] []] (k::ρ)=.ok (Ig (k::ρ) 3 l.length (l.map AR)):=by
 (refine Ay rfl Tryz.func156 rfl rfl rfl ?_;show Wp _ _ _ _ (Tryz.f156.body.get rfl) _ _;simp only[Tryz.f156,Option.get_some])
 refine aw ?_;refine AX l _ (S:=fun m i (a:(AV×AB)×Nat)=>⟨[(1,.fn f [] []),(5,a.1.1),(8,.d (.lst (l.map AR))),(9,.d (.int .i64 (m))),(10,.d (.int .i64 (i)))],a.1.2,a.2,[]⟩)
  (Inv:=fun i rest a=>AA (i=0∧a=((.nils,[]),0)∨0<i∧a=((.osl (1::0::k::ρ) 0 i,[(1::0::k::ρ,.darr 3 ((l.take i).map AR))]),1))) (b0:=((_,[]),_)) ?_ ⟨.inl ⟨rfl,rfl⟩⟩ ?_ ?_
 .rfl
 .rintro i x a hy hi him hv IH;have hx:=hf x (List.mem_of_getElem? hy);replace hf:=AA.mk hf;rcases hv.out with⟨rfl,rfl⟩|⟨hi0,rfl⟩
  .clear hv;have him0:(0:Int)<l.length:=him;dsimp only at*;refine aw ?_;refine IH.out ((_,_),_) ⟨.inr ⟨by omega,?_⟩⟩;rw[List.take_succ,hy];rfl
  .clear hv;dsimp only at*;have tk:(l.take i).length=i:=by simp;omega
   have nle: ¬i+1≤i:=by omega
   refine aw ?_;refine IH.out ((_,_),_) ⟨.inr ⟨by omega,?_⟩⟩;have tk2:List.take i (List.map AR (List.take i l))=List.map AR (List.take i l):=List.take_of_length_le (by simp;omega);rw[List.take_succ,hy,tk2,List.map_append];rfl
 .rintro i a hi him hv;replace hf:=AA.mk hf;rcases hv.out with⟨rfl,rfl⟩|⟨hi0,rfl⟩
  .clear hv;have him0: ¬(0:Int)<l.length:=him;dsimp only at*;have hl0:=AA.mk (hi.out.symm);refine aw ?_;rw[Ig,if_pos hl0.out]
  .clear hv;dsimp only at*;by_cases h0:l.length=0
   .exfalso;have:=hi.out;omega
   .rw[Ig,if_neg h0];have hi2:=hi.out;subst hi2;rw[List.take_length];exact au
theorem vZ(f:FuncId)(hmd:cfg.mode f=.auto)(l:List Cc)(hf: ∀x∈l,BM (KL Tryz.prog cfg) f [.agg [.d (.int .i64 (x.kind)),.d (.int .i64 (x.n))]] []=.ok (.ret (.agg [.d (.int .i64 (x.kind)),.d (.int .i64 (x.n))]),[]))(hl:l.length≤1000000)(k:Nat)(ρ:List Nat):BM (KL Tryz.prog cfg) 181 [.d (.lst (l.map AN)),.fn f [] []] (k::ρ)=.ok (Ig (k::ρ) 2 l.length (l.map AN)):=by
 (refine Ay rfl Tryz.func181 rfl rfl rfl ?_;show Wp _ _ _ _ (Tryz.f181.body.get rfl) _ _;simp only[Tryz.f181,Option.get_some])
 refine aw ?_;refine AX l _ (S:=fun m i (a:(AV×AB)×Nat)=>⟨[(1,.fn f [] []),(5,a.1.1),(8,.d (.lst (l.map AN))),(9,.d (.int .i64 (m))),(10,.d (.int .i64 (i)))],a.1.2,a.2,[]⟩)
  (Inv:=fun i rest a=>AA (i=0∧a=((.nils,[]),0)∨0<i∧a=((.osl (1::0::k::ρ) 0 i,[(1::0::k::ρ,.darr 2 ((l.take i).map AN))]),1))) (b0:=((_,[]),_)) ?_ ⟨.inl ⟨rfl,rfl⟩⟩ ?_ ?_
 .rfl
 .rintro i x a hy hi him hv IH;have hx:=hf x (List.mem_of_getElem? hy);replace hf:=AA.mk hf;rcases hv.out with⟨rfl,rfl⟩|⟨hi0,rfl⟩
  .clear hv;have him0:(0:Int)<l.length:=him;dsimp only at*;refine aw ?_;refine IH.out ((_,_),_) ⟨.inr ⟨by omega,?_⟩⟩;rw[List.take_succ,hy];rfl
  .clear hv;dsimp only at*;have tk:(l.take i).length=i:=by simp;omega
   have nle: ¬i+1≤i:=by omega
   refine aw ?_;refine IH.out ((_,_),_) ⟨.inr ⟨by omega,?_⟩⟩;have tk2:List.take i (List.map AN (List.take i l))=List.map AN (List.take i l):=List.take_of_length_le (by simp;omega);rw[List.take_succ,hy,tk2,List.map_append];rfl
 .rintro i a hi him hv;replace hf:=AA.mk hf;rcases hv.out with⟨rfl,rfl⟩|⟨hi0,rfl⟩
  .clear hv;have him0: ¬(0:Int)<l.length:=him;dsimp only at*;have hl0:=AA.mk (hi.out.symm);refine aw ?_;rw[Ig,if_pos hl0.out]
  .clear hv;dsimp only at*;by_cases h0:l.length=0
   .exfalso;have:=hi.out;omega
   .rw[Ig,if_neg h0];have hi2:=hi.out;subst hi2;rw[List.take_length];exact au
theorem vY(f:FuncId)(hmd:cfg.mode f=.auto)(l:List (List Cc))(hf: ∀x∈l,BM (KL Tryz.prog cfg) f [.agg [.d (.lst (x.map AN))]] []=.ok (.ret (.agg [.d (.lst (x.map AN))]),[]))(hl:l.length≤1000000)(k:Nat)(ρ:List Nat):BM (KL Tryz.prog cfg) 183 [.d (.lst (l.map BG)),.fn f [] []] (k::ρ)=.ok (Ig (k::ρ) 1 l.length (l.map BG)):=by
 (refine Ay rfl Tryz.func183 rfl rfl rfl ?_;show Wp _ _ _ _ (Tryz.f183.body.get rfl) _ _;simp only[Tryz.f183,Option.get_some])
 refine aw ?_;refine AX l _ (S:=fun m i (a:(AV×AB)×Nat)=>⟨[(1,.fn f [] []),(5,a.1.1),(8,.d (.lst (l.map BG))),(9,.d (.int .i64 (m))),(10,.d (.int .i64 (i)))],a.1.2,a.2,[]⟩)
  (Inv:=fun i rest a=>AA (i=0∧a=((.nils,[]),0)∨0<i∧a=((.osl (1::0::k::ρ) 0 i,[(1::0::k::ρ,.darr 1 ((l.take i).map BG))]),1))) (b0:=((_,[]),_)) ?_ ⟨.inl ⟨rfl,rfl⟩⟩ ?_ ?_
 .rfl
 .rintro i x a hy hi him hv IH;have hx:=hf x (List.mem_of_getElem? hy);replace hf:=AA.mk hf;rcases hv.out with⟨rfl,rfl⟩|⟨hi0,rfl⟩
  .clear hv;have him0:(0:Int)<l.length:=him;dsimp only at*;refine aw ?_;refine IH.out ((_,_),_) ⟨.inr ⟨by omega,?_⟩⟩;rw[List.take_succ,hy];rfl
  .clear hv;dsimp only at*;have tk:(l.take i).length=i:=by simp;omega
   have nle: ¬i+1≤i:=by omega
   refine aw ?_;refine IH.out ((_,_),_) ⟨.inr ⟨by omega,?_⟩⟩;have tk2:List.take i (List.map BG (List.take i l))=List.map BG (List.take i l):=List.take_of_length_le (by simp;omega);rw[List.take_succ,hy,tk2,List.map_append];rfl
 .rintro i a hi him hv;replace hf:=AA.mk hf;rcases hv.out with⟨rfl,rfl⟩|⟨hi0,rfl⟩
  .clear hv;have him0: ¬(0:Int)<l.length:=him;dsimp only at*;have hl0:=AA.mk (hi.out.symm);refine aw ?_;rw[Ig,if_pos hl0.out]
  .clear hv;dsimp only at*;by_cases h0:l.length=0
   .exfalso;have:=hi.out;omega
   .rw[Ig,if_neg h0];have hi2:=hi.out;subst hi2;rw[List.take_length];exact au
theorem Y8(x:BC):BM (KL Tryz.prog cfg) 149 [.agg [.d (.int .i64 (x.in_)),.d (.bool (x.dead))]] []=.ok (.ret (.agg [.d (.int .i64 (x.in_)),.d (.bool (x.dead))]),[]):=by
 (refine Ay rfl Tryz.func149 rfl rfl rfl ?_;show Wp _ _ _ _ (Tryz.f149.body.get rfl) _ _;simp only[Tryz.f149,Option.get_some])
 exact au
theorem dj(x:Cc):BM (KL Tryz.prog cfg) 182 [.agg [.d (.int .i64 (x.kind)),.d (.int .i64 (x.n))]] []=.ok (.ret (.agg [.d (.int .i64 (x.kind)),.d (.int .i64 (x.n))]),[]):=by
 (refine Ay rfl Tryz.func182 rfl rfl rfl ?_;show Wp _ _ _ _ (Tryz.f182.body.get rfl) _ _;simp only[Tryz.f182,Option.get_some])
 exact au
end Go.Proofs
namespace Go.Abs
variable{P:Program}{C:CG}{K:AL}{fr:Fr}{b n i:Nat}{Q:DX→St→Prop}
variable{ops:Array Oper}{al:Nat→Bool}{l:List Oper}{e:BS}{h:AB}{bs:Nat}{ds:List Df}{ps:List (Nat×Nat)}{fps:List Fp}{ρ:List Nat}{dst:Option Tmp}
theorem dM(az:List AV)(id:Id)(o m sz:Nat)(es:List (List AW))(hx:BL (.osl id o m) [(id,.darr sz es)]=some (id,.darr sz es)):C7 C K fr ops b n al l i az dst e h bs ds Q (.ok (.ret (.osl id o m),[(id,.darr sz es)]))=E3 C K fr ops b n al l (i+1) ⟨CD e dst (.osl id o m),(id,.darr sz es)::h,bs,ds⟩ Q:=mR _ az _ _ _ rfl hx
theorem dI(az:List AV)(id:Id)(o m sz:Nat)(es:List (List AW))(hx:BL (.osl id o m) [(id,.darr sz es)]=some (id,.darr sz es)):C6 C K fr ops b n al ps fps l i az dst e h bs ds Q (.ok (.ret (.osl id o m),[(id,.darr sz es)]))=Fi C K fr ops b n al ps (fps++[⟨some (CX h.get (Al az)),some [id]⟩]) l (i+1) ⟨CD e dst (.osl id o m),(id,.darr sz es)::h,bs,ds⟩ Q:=mO _ az _ _ _ rfl hx
attribute [go_sem] dM dI
end Go.Abs
namespace Go.Proofs
open Go Go.Abs
set_option maxRecDepth 100000
set_option maxHeartbeats 4000000
theorem CR{π:List Nat}{sz n:Nat}{es:List (List AW)}(h:n=0):Ig π sz n es=(.ret .nils,[]):=by rw[Ig,if_pos h]
theorem Cy{π:List Nat}{sz n:Nat}{es:List (List AW)}(h:n≠0):Ig π sz n es=(.ret (.osl (1::0::π) 0 n),[(1::0::π,.darr sz es)]):=by rw[Ig,if_neg h]
theorem Fe(id:Abs.Id)(o n sz:Nat)(es:List (List AW)):BL (.osl id o n) [(id,.darr sz es)]=if es.all (·.all Dg)then some (id,.darr sz es)else none:=by
 simp only[BL,go_sem,is_self,if_true]
theorem CV(l:List Cc)(id:Abs.Id)(o n:Nat):BL (.osl id o n) [(id,.darr 2 (l.map AN))]=some (id,.darr 2 (l.map AN)):=by
 rw[Fe,if_pos];simp[AN,Dg]
theorem JD{l:List (List Cc)}(h:l.length≠0)(id:Abs.Id)(o n:Nat):BL (.osl id o n) [(id,.darr 1 (l.map BG))]=none:=by
 rw[Fe,if_neg];cases l with
 |nil=>exact absurd rfl h
 |cons x l=>simp[BG,Dg]
theorem NX(l:List BC)(id:Abs.Id)(o n:Nat):BL (.osl id o n) [(id,.darr 2 (l.map Af))]=some (id,.darr 2 (l.map Af)):=by
 rw[Fe,if_pos];simp[Af,Dg]
theorem MO{l:List Ah}(h:l.length≠0)(id:Abs.Id)(o n:Nat):BL (.osl id o n) [(id,.darr 3 (l.map A3))]=none:=by
 rw[Fe,if_neg];cases l with
 |nil=>exact absurd rfl h
 |cons x l=>simp[A3,Dg]
theorem NY{l:List E7}(h:l.length≠0)(id:Abs.Id)(o n:Nat):BL (.osl id o n) [(id,.darr 3 (l.map AR))]=none:=by
 rw[Fe,if_neg];cases l with
 |nil=>exact absurd rfl h
 |cons x l=>simp[AR,Dg]
theorem JQ(l:List Cc)(hl:l.length≤1000000)(k:Nat)(ρ:List Nat):BM (KL Tryz.prog cfg) 152 [.d (.lst (l.map AN))] (k::ρ)=.ok (Ig (2::k::ρ) 2 l.length (l.map AN)):=by
 have h1:=fun k ρ=>vZ 182 rfl l (fun x _=>dj x) hl k ρ;by_cases h0:l.length=0
 .rw[CR h0];simp only[CR h0]at h1
  (refine Ay rfl Tryz.func152 rfl rfl rfl ?_;show Wp _ _ _ _ (Tryz.f152.body.get rfl) _ _;simp only[Tryz.f152,Option.get_some])
  exact au
 .rw[Cy h0];simp only[Cy h0]at h1;have fa:=CV
  (refine Ay rfl Tryz.func152 rfl rfl rfl ?_;show Wp _ _ _ _ (Tryz.f152.body.get rfl) _ _;simp only[Tryz.f152,Option.get_some])
  exact au
theorem mc(x:List Cc)(hl:x.length≤1000000):BM (KL Tryz.prog cfg) 184 [.agg [.d (.lst (x.map AN))]] []=.ok (.ret (.agg [.d (.lst (x.map AN))]),[]):=by
 have h1:=JQ x hl;by_cases h0:x.length=0
 .simp only[CR h0]at h1;obtain rfl:=List.eq_nil_of_length_eq_zero h0;clear h0;simp only[List.map_nil]at h1
  (refine Ay rfl Tryz.func184 rfl rfl rfl ?_;show Wp _ _ _ _ (Tryz.f184.body.get rfl) _ _;simp only[Tryz.f184,Option.get_some])
  (repeat' (first|simp only[go_sem, *,List.map_nil]|(refine sx ?_ ?_<;>intro hc)|refine sy (by omega) fun x hx hm=>?_|simp(disch:=first|assumption|omega) only[wrap_id,AK,AH,slice_int]))
 .simp only[Cy h0]at h1;have fa:=CV;have tk:List.take x.length (List.map AN x)=List.map AN x:=List.take_of_length_le (by simp)
  (refine Ay rfl Tryz.func184 rfl rfl rfl ?_;show Wp _ _ _ _ (Tryz.f184.body.get rfl) _ _;simp only[Tryz.f184,Option.get_some])
  exact au
theorem tB(l:List (List Cc))(hl:l.length≤1000000)(h: ∀x∈l,x.length≤1000000)(k:Nat)(ρ:List Nat):BM (KL Tryz.prog cfg) 155 [.d (.lst (l.map BG))] (k::ρ)=.ok (Ig (2::k::ρ) 1 l.length (l.map BG)):=by
 have h1:=fun k ρ=>vY 184 rfl l (fun x hx=>mc x (h x hx)) hl k ρ;replace h:=AA.mk h;by_cases h0:l.length=0
 .rw[CR h0];simp only[CR h0]at h1
  (refine Ay rfl Tryz.func155 rfl rfl rfl ?_;show Wp _ _ _ _ (Tryz.f155.body.get rfl) _ _;simp only[Tryz.f155,Option.get_some])
  exact au
 .rw[Cy h0];simp only[Cy h0]at h1;have fa:=JD h0
  (refine Ay rfl Tryz.func155 rfl rfl rfl ?_;show Wp _ _ _ _ (Tryz.f155.body.get rfl) _ _;simp only[Tryz.f155,Option.get_some])
  exact au
theorem Qf(x:Ah)(hl:x.env.length≤1000000):BM (KL Tryz.prog cfg) 151 [.agg [.d (.int .i64 (x.def_)),.d (.int .i64 (x.at_)),.d (.lst (x.env.map AN))]] []=.ok (.ret (.agg [.d (.int .i64 (x.def_)),.d (.int .i64 (x.at_)),.d (.lst (x.env.map AN))]),[]):=by
 have h1:=JQ x.env hl;by_cases h0:x.env.length=0
 .simp only[CR h0]at h1;have h2:=List.eq_nil_of_length_eq_zero h0;simp only[h2,List.map_nil]at h1
  (refine Ay rfl Tryz.func151 rfl rfl rfl ?_;show Wp _ _ _ _ (Tryz.f151.body.get rfl) _ _;simp only[Tryz.f151,Option.get_some])
  (repeat' (first|simp only[go_sem, *,List.map_nil]|(refine sx ?_ ?_<;>intro hc)|refine sy (by omega) fun x hx hm=>?_|simp(disch:=first|assumption|omega) only[wrap_id,AK,AH,slice_int]))
 .simp only[Cy h0]at h1;have fa:=CV;have tk:List.take x.env.length (List.map AN x.env)=List.map AN x.env:=List.take_of_length_le (by simp)
  (refine Ay rfl Tryz.func151 rfl rfl rfl ?_;show Wp _ _ _ _ (Tryz.f151.body.get rfl) _ _;simp only[Tryz.f151,Option.get_some])
  exact au
theorem Sg(x:E7)(hl:x.env.length≤1000000):BM (KL Tryz.prog cfg) 157 [.agg [.d (.int .i64 (x.at_)),.d (.int .i64 (x.node)),.d (.lst (x.env.map AN))]] []=.ok (.ret (.agg [.d (.int .i64 (x.at_)),.d (.int .i64 (x.node)),.d (.lst (x.env.map AN))]),[]):=by
 have h1:=JQ x.env hl;by_cases h0:x.env.length=0
 .simp only[CR h0]at h1;have h2:=List.eq_nil_of_length_eq_zero h0;simp only[h2,List.map_nil]at h1
  (refine Ay rfl Tryz.func157 rfl rfl rfl ?_;show Wp _ _ _ _ (Tryz.f157.body.get rfl) _ _;simp only[Tryz.f157,Option.get_some])
  (repeat' (first|simp only[go_sem, *,List.map_nil]|(refine sx ?_ ?_<;>intro hc)|refine sy (by omega) fun x hx hm=>?_|simp(disch:=first|assumption|omega) only[wrap_id,AK,AH,slice_int]))
 .simp only[Cy h0]at h1;have fa:=CV;have tk:List.take x.env.length (List.map AN x.env)=List.map AN x.env:=List.take_of_length_le (by simp)
  (refine Ay rfl Tryz.func157 rfl rfl rfl ?_;show Wp _ _ _ _ (Tryz.f157.body.get rfl) _ _;simp only[Tryz.f157,Option.get_some])
  exact au
def Mx(π:List Nat)(x:Fa):AZ×AB:=if x.queue.length=0 then(.ret (.agg (Aq x .nils)),[(0::0::π,.box (Aq x (.d (.lst (x.queue.map BG))))),(0::1::π,.box (Aq x .nils))])else(.ret (.agg (Aq x (.osl (1::0::2::10::π) 0 x.queue.length))),[(1::0::2::10::π,.darr 1 (x.queue.map BG)),(0::0::π,.box (Aq x (.d (.lst (x.queue.map BG))))),(0::1::π,.box (Aq x (.osl (1::0::2::10::π) 0 x.queue.length)))])
theorem Uw(x:Fa)(hl:x.queue.length≤1000000)(h: ∀y∈x.queue,y.length≤1000000)(k:Nat)(ρ:List Nat):BM (KL Tryz.prog cfg) 154 [.agg [.d (.int .i64 (x.group)),.d (.int .i64 (x.index)),.d (.int .i64 (x.at_)),.d (.lst (x.queue.map BG))]] (k::ρ)=.ok (Mx (k::ρ) x):=by
 have h1:=tB x.queue hl h;replace h:=AA.mk h;by_cases h0:x.queue.length=0
 .rw[Mx,if_pos h0];simp only[CR h0]at h1
  (refine Ay rfl Tryz.func154 rfl rfl rfl ?_;show Wp _ _ _ _ (Tryz.f154.body.get rfl) _ _;simp only[Tryz.f154,Option.get_some])
  (repeat' (first|simp only[go_sem, *,Aq]|(refine sx ?_ ?_<;>intro hc)|refine sy (by omega) fun x hx hm=>?_|simp(disch:=first|assumption|omega) only[wrap_id,AK,AH,slice_int]))
 .rw[Mx,if_neg h0];simp only[Cy h0]at h1;have fa:=JD h0
  (refine Ay rfl Tryz.func154 rfl rfl rfl ?_;show Wp _ _ _ _ (Tryz.f154.body.get rfl) _ _;simp only[Tryz.f154,Option.get_some])
  (repeat' (first|simp only[go_sem, *,Aq]|(refine sx ?_ ?_<;>intro hc)|refine sy (by omega) fun x hx hm=>?_|simp(disch:=first|assumption|omega) only[wrap_id,AK,AH,slice_int]))
end Go.Proofs
namespace Go.Abs
variable{P:Program}{C:CG}{K:AL}{fr:Fr}{b n i:Nat}{Q:DX→St→Prop}
variable{ops:Array Oper}{al:Nat→Bool}{l:List Oper}{e:BS}{h:AB}{bs:Nat}{ds:List Df}{ps:List (Nat×Nat)}{fps:List Fp}{ρ:List Nat}{dst:Option Tmp}
def zk(Q:DX→St→Prop)(st:St):Option Code→Prop
 |none=>Q .normal st
 |some .ret=>Q .ret st
 |some (.exit k)=>Q (.exit k) st
 |some _=>False
def UC(Q:DX→St→Prop)(st:St):Option Obj→Prop
 |some (.loop r)=>match r.state with
  |.busy=>False
  |_=>zk Q st r.pend
 |_=>False
def Gh(ρ ρ2:List Nat)(id:Id)(e:BS)(bs:Nat)(ds:List Df)(Q:DX→St→Prop):E (AZ×AB)→Prop
 |.ok (.ret _,h')=>UC Q ⟨e,gc ρ (gc ρ2 h'),bs,ds⟩ (h'.get id)
 |.ok (.pan v,h')=>Q (.pan v) ⟨e,gc ρ (gc ρ2 h'),bs,ds⟩
 |.err _=>False
def eZ(K:AL)(prot:Option (List Nat))(ρ ρ2:List Nat)(id:Id)(e:BS)(h:AB)(bs:Nat)(ds:List Df)(Q:DX→St→Prop):AV→Prop
 |.fn f first cap=>Gh ρ ρ2 id e bs ds Q (K (.fn f) (first++[.yld id]++cap) h ρ2 true prot)
 |_=>False
theorem YS(ρ ρ2:List Nat)(id:Id)(st1:St)(r:E (AZ×AB)):(match Ie ρ ρ2 id st1 r with|.ok (o,st')=>Q o st'|.err _=>False)=Gh ρ ρ2 id st1.env st1.base st1.defs Q r:=by
 cases r with
 |err l=>rfl
 |ok r=>
  obtain⟨o,h'⟩:=r;cases o with
  |pan v=>simp only[Ie,Gh,Aa]
  |ret v=>
   simp only[Ie,Gh,Aa,UC,Vd];cases AB.get h' id with
   |none=>rfl
   |some o=>
    cases o with
    |loop r=>
     obtain⟨s,p⟩:=r;simp only;cases s<;>(try rfl)<;>
     .simp only[zk];cases p with
      |none=>rfl
      |some c=>cases c<;>rfl
    |_=>rfl
theorem uh(g:Operand)(pz:Array Tmp)(asg body:Code)(hr:fr.rnd=false):Wp C K fr b (.rangeFunc g pz asg body) ⟨e,h,bs,ds⟩ Q=
 eZ K fr.prot (bs::fr.π) ((bs+1)::fr.π) (0::bs::fr.π) e (h.put (0::bs::fr.π) (.loop ⟨.ready,none,fr.f,e,pz.toList,asg,body,fr.nt⟩)) (bs+2) (.mark (0::bs::fr.π)::ds) Q (ev e.get g):=by
 have key:Wp C K fr b (.rangeFunc g pz asg body) ⟨e,h,bs,ds⟩ Q=(match Fc K fr g pz asg body ⟨e,h,bs,ds⟩with|.ok (o,st')=>Q o st'|.err _=>False):=by
  cases hx:Fc K fr g pz asg body ⟨e,h,bs,ds⟩with
  |ok r=>
   obtain⟨o,st'⟩:=r;exact SI fun n=>by simp only[A7,hx]
  |err l=>
   refine propext ⟨fun⟨n,o,st',h1,hq⟩=>?_,fun h=>h.elim⟩;cases n with
   |zero=>simp[A7]at h1
   |succ n=>simp only[A7,hx]at h1;cases h1
 rw[key];unfold Fc;simp only[hr,Gx,Aa];rw[YS];simp only[eZ];cases ev e.get g with
 |fn f first cap=>simp only[Jf,A6]
 |_=>rfl
theorem np{f:FuncId}{π:List Nat}{raw:Bool}{prot:Option (List Nat)}{nt:Nat}(g:Operand)(pz:Array Tmp)(asg body:Code):Wp C K ⟨f,π,raw,prot,false,nt⟩ b (.rangeFunc g pz asg body) ⟨e,h,bs,ds⟩ Q=
 eZ K prot (bs::π) ((bs+1)::π) (0::bs::π) e (h.put (0::bs::π) (.loop ⟨.ready,none,f,e,pz.toList,asg,body,nt⟩)) (bs+2) (.mark (0::bs::π)::ds) Q (ev e.get g):=uh g pz asg body rfl
theorem pG{prot:Option (List Nat)}{ρ ρ2:List Nat}{id:Id}(f:FuncId)(first cap:List AV):eZ K prot ρ ρ2 id e h bs ds Q (.fn f first cap)=Gh ρ ρ2 id e bs ds Q (K (.fn f) (first++[.yld id]++cap) h ρ2 true prot):=rfl
theorem JN{Post:AZ→AB→Prop}{ρ ρ2:List Nat}{id:Id}{q:E (AZ×AB)}(hk: ∃o h',q=.ok (o,h')∧Post o h')(hn: ∀o h',Post o h'→Gh ρ ρ2 id e bs ds Q (.ok (o,h'))):Gh ρ ρ2 id e bs ds Q q:=by
 obtain⟨o,h',e,hp⟩:=hk;rw[e];exact hn o h' hp
theorem dS{ρ ρ2:List Nat}{id:Id}(v:AV)(h':AB):Gh ρ ρ2 id e bs ds Q (.ok (.ret v,h'))=UC Q ⟨e,gc ρ (gc ρ2 h'),bs,ds⟩ (h'.get id):=rfl
theorem dR{ρ ρ2:List Nat}{id:Id}(v:AV)(h':AB):Gh ρ ρ2 id e bs ds Q (.ok (.pan v,h'))=Q (.pan v) ⟨e,gc ρ (gc ρ2 h'),bs,ds⟩:=rfl
theorem dF(st:St)(f:FuncId)(e:BS)(pz:List Nat)(asg body:Code)(nt:Nat):UC Q st (some (.loop ⟨.ready,none,f,e,pz,asg,body,nt⟩))=Q .normal st:=rfl
theorem mI(st:St)(f:FuncId)(e:BS)(pz:List Nat)(asg body:Code)(nt:Nat):UC Q st (some (.loop ⟨.done,some .ret,f,e,pz,asg,body,nt⟩))=Q .ret st:=rfl
theorem dE(st:St)(k:Nat)(f:FuncId)(e:BS)(pz:List Nat)(asg body:Code)(nt:Nat):UC Q st (some (.loop ⟨.done,some (.exit k),f,e,pz,asg,body,nt⟩))=Q (.exit k) st:=rfl
def ABl(C:CG)(K:AL)(fr:Fr)(ops:Array Oper)(b n:Nat)(al:Nat→Bool)(l:List Oper)(i:Nat)(dst:Option Tmp)(ρ:List Nat)(e:BS)(h:AB)(bs:Nat)(ds:List Df)(Q:DX→St→Prop)(id:Id)(az:List AV):Option Obj→Prop
 |some (.loop r)=>So C K fr ops b n al l i dst ρ e h bs ds Q (K (.round id r) az h ρ true fr.prot)
 |_=>False
theorem fz(id:Id)(args:List AV):QY C K fr ops b n al l i dst ρ e h bs ds Q args (.yld id)=ABl C K fr ops b n al l i dst ρ e h bs ds Q id args (h.get id):=by
 simp only[QY,Da,JA,ABl];cases AB.get h id with
 |none=>rfl
 |some o=>cases o<;>first|rfl|simp only[O6]
theorem nu(id:Id)(args:List AV)(r:Lp):ABl C K fr ops b n al l i dst ρ e h bs ds Q id args (some (.loop r))=So C K fr ops b n al l i dst ρ e h bs ds Q (K (.round id r) args h ρ true fr.prot):=rfl
def AEA(C:CG)(K:AL)(fr:Fr)(ops:Array Oper)(b n:Nat)(al:Nat→Bool)(ps:List (Nat×Nat))(fps:List Fp)(l:List Oper)(i:Nat)(dst:Option Tmp)(ρ:List Nat)(e:BS)(h:AB)(bs:Nat)(ds:List Df)(Q:DX→St→Prop)(id:Id)(az:List AV):Option Obj→Prop
 |some (.loop r)=>Rr C K fr ops b n al ps fps l i dst ρ e h bs ds Q (K (.round id r) az h ρ true fr.prot)
 |_=>False
theorem nr(id:Id)(args:List AV)(r:Lp):AEA C K fr ops b n al ps fps l i dst ρ e h bs ds Q id args (some (.loop r))=Rr C K fr ops b n al ps fps l i dst ρ e h bs ds Q (K (.round id r) args h ρ true fr.prot):=rfl
def Y0(id:Id)(Post:AZ→AB→Prop)(o:DX)(h:AB):Option Obj→Prop
 |some (.loop r)=>match o with
  |.normal=>Post (.ret (.d (.bool true))) (h.put id (.loop {r with state:=.ready,pend:=none}))
  |.ret=>Post (.ret (.d (.bool false))) (h.put id (.loop {r with state:=.done,pend:=some .ret}))
  |.exit k=>Post (.ret (.d (.bool false))) (h.put id (.loop {r with state:=.done,pend:=some (.exit k)}))
  |.pan v=>Post (.pan v) h
 |_=>False
def Y2(id:Id)(Post:AZ→AB→Prop):DX→St→Prop
 |o,st=>st.defs=[]∧Y0 id Post o st.heap (st.heap.get id)
def vG(C:CG)(K:AL)(fr:Fr)(id:Id)(body:Code)(Post:AZ→AB→Prop)(st:St):Option Obj→Prop
 |some (.loop r)=>match r.state with
  |.ready=>Wp C K fr 0 body {st with heap:=st.heap.put id (.loop {r with state:=.busy})} (Y2 id Post)
  |_=>False
 |_=>False
def AAF(C:CG)(K:AL)(fr:Fr)(id:Id)(body:Code)(Post:AZ→AB→Prop):DX→St→Prop
 |.normal,st=>st.defs=[]∧JS fr.prot [(id,.box [])]=true∧vG C K fr id body Post st (st.heap.get id)
 |_,_=>False
theorem Y3{Post:AZ→AB→Prop}(id:Id):Y2 id Post .normal ⟨e,h,bs,[]⟩=Y0 id Post .normal h (h.get id):=by simp[Y2]
theorem tS{Post:AZ→AB→Prop}(id:Id):Y2 id Post .ret ⟨e,h,bs,[]⟩=Y0 id Post .ret h (h.get id):=by simp[Y2]
theorem tR{Post:AZ→AB→Prop}(id:Id)(v:AV):Y2 id Post (.pan v) ⟨e,h,bs,[]⟩=Y0 id Post (.pan v) h (h.get id):=by simp[Y2]
theorem Y1{Post:AZ→AB→Prop}(id:Id)(r:Lp):Y0 id Post .normal h (some (.loop r))=Post (.ret (.d (.bool true))) (h.put id (.loop ⟨.ready,none,r.f,r.env,r.params,r.asg,r.body,r.nt⟩)):=rfl
theorem tQ{Post:AZ→AB→Prop}(id:Id)(r:Lp):Y0 id Post .ret h (some (.loop r))=Post (.ret (.d (.bool false))) (h.put id (.loop ⟨.done,some .ret,r.f,r.env,r.params,r.asg,r.body,r.nt⟩)):=rfl
theorem my{Post:AZ→AB→Prop}(id:Id)(k:Nat)(r:Lp):Y0 id Post (.exit k) h (some (.loop r))=Post (.ret (.d (.bool false))) (h.put id (.loop ⟨.done,some (.exit k),r.f,r.env,r.params,r.asg,r.body,r.nt⟩)):=rfl
theorem tP{Post:AZ→AB→Prop}(id:Id)(v:AV)(r:Lp):Y0 id Post (.pan v) h (some (.loop r))=Post (.pan v) h:=rfl
theorem WY{Post:AZ→AB→Prop}(id:Id)(body:Code):AAF C K fr id body Post .normal ⟨e,h,bs,[]⟩=(JS fr.prot [(id,.box [])]=true∧vG C K fr id body Post ⟨e,h,bs,[]⟩ (h.get id)):=by simp[AAF]
theorem fj{Post:AZ→AB→Prop}(id:Id)(body:Code)(p:Option Code)(f:FuncId)(e':BS)(pz:List Nat)(a c:Code)(nt:Nat):vG C K fr id body Post ⟨e,h,bs,[]⟩ (some (.loop ⟨.ready,p,f,e',pz,a,c,nt⟩))=Wp C K fr 0 body ⟨e,h.put id (.loop ⟨.busy,p,f,e',pz,a,c,nt⟩),bs,[]⟩ (Y2 id Post):=rfl
theorem Ef{id:Id}{r:Lp}{args:List AV}{h:AB}{π:List Nat}{prot:Option (List Nat)}{Post:AZ→AB→Prop}{e:BS}(he:DU r.env r.params args=some e)
 (hw:Wp C (KL P C) {f:=r.f,π,raw:=true,prot,rnd:=true,nt:=r.nt} 0 r.asg ⟨e,h,0,[]⟩ (AAF C (KL P C) {f:=r.f,π,raw:=true,prot,rnd:=true,nt:=r.nt} id r.body Post)): ∃o h',KL P C (.round id r) args h π true prot=.ok (o,h')∧Post o h':=by
 obtain⟨n1,o1,st1,h1,q1⟩:=hw;cases o1 with
 |normal=>
  obtain⟨d1,w1,q1⟩:=q1;cases hg:AB.get st1.heap id with
  |none=>rw[hg]at q1;exact q1.elim
  |some ob=>
   rw[hg]at q1;cases ob with
   |loop r1=>
    simp only[vG]at q1;cases hs:r1.state with
    |ready=>
     rw[hs]at q1;obtain⟨n2,o2,st2,h2,d2,q2⟩:=q1;have fin: ∃o h',N4 id (.ok (o2,st2))=.ok (o,h')∧Post o h':=by
      simp only[N4,d2];cases hg2:AB.get st2.heap id with
      |none=>rw[hg2]at q2;exact q2.elim
      |some ob2=>
       rw[hg2]at q2;cases ob2 with
       |loop r2=>
        cases o2 with
        |normal=>exact⟨_,_,rfl,q2⟩
        |ret=>exact⟨_,_,rfl,q2⟩
        |exit k=>exact⟨_,_,rfl,q2⟩
        |pan v=>exact⟨_,_,rfl,q2⟩
       |_=>exact q2.elim
     obtain⟨o,h',e3,hp⟩:=fin;refine⟨o,h',V7 (n:=max n1 n2) ?_,hp⟩;unfold GM;have h3:=Lj h2 (Nat.le_max_right n1 n2);rw[d1]at h3;simp only[he,Lj h1 (Nat.le_max_left n1 n2),HH,d1,w1,hg,L9,hs,Aa];rw[h3];exact e3
    |_=>rw[hs]at q1;exact q1.elim
   |_=>exact q1.elim
 |_=>exact q1.elim
attribute [go_sem] pG dS dR dF mI dE fz nu nr Y3 tS tR Y1 tQ my tP WY fj np DU
end Go.Abs
namespace Go.Abs
theorem OA{α β:Type}(f:α→β)(l:List α):List.take l.length (l.map f)=l.map f:=List.take_of_length_le (by simp)
theorem Vq{α β:Type}(f:α→β)(l:List α)(x:List β):List.take l.length (l.map f++x)=l.map f:=by rw[List.take_append_of_le_length (by simp),OA]
theorem U4{α β:Type}(f:α→β)(l:List α)(y:β)(x:List β):List.drop (l.length+1) (l.map f++y::x)=x:=by rw[List.drop_append];simp
def sK(g:G)(id:Id):Option Obj→AB
 |some (.darr sz es)=>[(id,.fro sz es)]
 |some (.arr sz es)=>match Cj g es with
  |some ds=>(id,.fro sz ds)::es.flatMap (Bd g)
  |none=>[]
 |_=>[]
theorem kq(g:G)(id:Id)(off n:Nat):Ew g (.osl id off n)=sK g id (g id):=by
 simp only[Ew];cases g id with
 |none=>rfl
 |some o=>cases o<;>rfl
theorem bf(g:G)(id:Id)(sz:Nat)(es:List (List AW)):sK g id (some (.darr sz es))=[(id,.fro sz es)]:=rfl
theorem ku(g:G)(id:Id)(sz:Nat)(es:List (List AW)):sK g id (some (.fro sz es))=[]:=rfl
attribute [go_sem] sQ kq bf ku
attribute [go_sem] OA Vq U4 Nat.le_add_right Nat.le_add_left Nat.add_le_add_iff_left Nat.not_succ_le_self Nat.add_lt_add_iff_left
end Go.Abs
namespace Go.Proofs
open Go Go.Abs
theorem Dj{ρ id:Abs.Id}(h:Id.under ρ id=false)(a b c n:Nat):Id.is (a::b::c::n::ρ) id=false:=AG (AF (AF h n) c) a b
theorem Ju{ρ id:Abs.Id}(h:Id.under ρ id=false)(a b c n:Nat):Id.is id (a::b::c::n::ρ)=false:=Ar (AF (AF h n) c) a b
theorem Ao{π:List Nat}(l:List Nat):Id.under π (l++π)=true:=under_iff.2 ⟨l,rfl⟩
def Kc(g:AB)(sz:Nat)(v:AV)(es:List (List AW)):Prop:=(v=.nils∧es=[])∨ ∃id x,v=.osl id 0 es.length∧g.get id=some (.darr sz (es++x))
structure zQ(g:AB)(rows:List (List AV))(l:List Fa):Prop where
 len:rows.length=l.length
 row: ∀(j:Nat) (q:Fa),l[j]? =some q→ ∃v,rows[j]? =some (Aq q v)∧Kc g 1 v (q.queue.map BG)
def uu(g:AB)(v:AV)(rows:List (List AV)):Prop:=(v=.nils∧rows=[])∨ ∃id,v=.osl id 0 rows.length∧g.get id=some (.arr 4 rows)
structure MV where
 s:Nat→AV
 v3:AV
 v9:AV
 acts:Abs.Id
 rows:List (List AV)
def FZ:Nat→Nat
 |0=>2
 |1=>3
 |2=>3
 |_=>5
def Aw(st:CU):Nat→List (List AW)
 |0=>st.sol.spots.map Af
 |1=>st.sol.groups.map A3
 |2=>st.sol.waits.map AR
 |_=>st.ev.map Qn
def MV.upd(V:MV)(i:Nat)(v:AV):MV:={V with s:=fun j=>if j=i then v else V.s j}
def MV.ids(V:MV)(m:Abs.Id):List Abs.Id:=m::V.acts::(AE (V.s 0)++(AE (V.s 1)++(AE (V.s 2)++(AE (V.s 3)++(AE V.v3++V.rows.flatMap Al)))))
def Aj(p:AJ)(sz:List Int)(V:MV)(w:Int):List AV:=[V.s 0,V.s 1,V.v3,V.s 2,.d (.lst (p.free.map Bt)),.d (.lst (p.nodes.map BQ)),.d (.lst (p.defs.map B6)),.d (.int .i64 p.main),.d (.lst (sz.map AO)),V.v9,.mp V.acts,V.s 3,.d (.int .i64 w)]
structure EE(p:AJ)(sz:List Int)(h:AB)(m:Abs.Id)(V:MV)(st:CU):Prop where
 box:h.get m=some (.box (Aj p sz V st.work))
 acts:h.get V.acts=some (.map Iz)
 sl: ∀i,i<4→Kc h (FZ i) (V.s i) (Aw st i)
 arr:uu h V.v3 V.rows
 chans:zQ h V.rows st.sol.chans
 gw: ∀id∈AE (V.s 1),id∉AE (V.s 2)
 qd:(V.rows.flatMap Al).Nodup
structure Uc(N:Abs.Id→Bool)(m:Abs.Id)(V V':MV)(h h':AB):Prop where
 ids: ∀id∈V'.ids m,id∈V.ids m∨(N id=true∧ ∃l,id=1::l)
 frame: ∀id,id∉V.ids m→N id=false→h'.get id=h.get id
abbrev zU(π:List Nat):=Uc (Id.under π)
abbrev MU(p:AJ)(sz:List Int)(N:Abs.Id→Bool)(m:Abs.Id)(V:MV)(h:AB)(st:CU)(h':AB):Prop:= ∃V',EE p sz h' m V' st∧Uc N m V V' h h'
abbrev AB3(p:AJ)(sz:List Int)(π:List Nat):=MU p sz (Id.under π)
abbrev Ke(N:Abs.Id→Bool)(V:MV)(m:Abs.Id):Prop:= ∀id∈V.ids m,N id=false
abbrev CF(π:List Nat):=Ke (Id.under π)
theorem CF.ext{π:List Nat}{V:MV}{m:Abs.Id}(h:CF π V m)(n:Nat):CF (n::π) V m:=fun id hid=>AF (h id hid) n
def EU(p:AJ)(sz:List Int)(π:List Nat)(m:Abs.Id)(V:MV)(h:AB):Option CU→AZ→AB→Prop
 |some st,o,h'=>o=.ret (.tup [])∧AB3 p sz π m V h st h'
 |none,o,h'=>o=.pan (B3 3)∧ ∀id,id∉V.ids m→Id.under π id=false→h'.get id=h.get id
theorem BU{g:AB}{sz n:Nat}{id:Abs.Id}{es:List (List AW)}(x:List (List AW))(hn:n=es.length)(hg:g.get id=some (.darr sz (es++x))):Kc g sz (.osl id 0 n) es:=.inr ⟨id,x,by rw[hn],hg⟩
theorem Dt{g g':AB}{sz:Nat}{v:AV}{es:List (List AW)}(h:Kc g sz v es)(hg: ∀id∈AE v,g'.get id=g.get id):Kc g' sz v es:=by
 rcases h with h|⟨id,x,rfl,h⟩
 .exact .inl h
 .exact .inr ⟨id,x,rfl,by rw[hg id (by simp[AE])];exact h⟩
theorem Dk{g:AB}{sz:Nat}{v:AV}{es:List (List AW)}(h:Kc g sz v es){id:Abs.Id}(hi:id∈AE v): ∃x,g.get id=some (.darr sz x):=by
 rcases h with⟨rfl,_⟩|⟨id2,x,rfl,h⟩
 .simp[AE]at hi
 .simp[AE]at hi;subst hi;exact⟨_,h⟩
theorem Ko{g g':AB}{v:AV}{rows:List (List AV)}(h:uu g v rows)(hg: ∀id∈AE v,g'.get id=g.get id):uu g' v rows:=by
 rcases h with h|⟨id,rfl,h⟩
 .exact .inl h
 .exact .inr ⟨id,rfl,by rw[hg id (by simp[AE])];exact h⟩
theorem Gq{g:AB}{v:AV}{rows:List (List AV)}(h:uu g v rows){id:Abs.Id}(hi:id∈AE v):g.get id=some (.arr 4 rows):=by
 rcases h with⟨rfl,_⟩|⟨id2,rfl,h⟩
 .simp[AE]at hi
 .simp[AE]at hi;subst hi;exact h
theorem Bb(x:Fa)(v:AV):Al (Aq x v)=AE v:=by simp[Aq,Al,AE]
theorem Kn{g g':AB}{rows:List (List AV)}{l:List Fa}(h:zQ g rows l)(hg: ∀id∈rows.flatMap Al,g'.get id=g.get id):zQ g' rows l:=by
 refine⟨h.len,fun j q hq=>?_⟩;obtain⟨v,h1,h2⟩:=h.row j q hq;exact⟨v,h1,Dt h2 fun id hid=>hg id (List.mem_flatMap.2 ⟨_,List.mem_of_getElem? h1,by rw[Bb];exact hid⟩)⟩
theorem J8{g:AB}{rows:List (List AV)}{l:List Fa}(h:zQ g rows l){id:Abs.Id}(hi:id∈rows.flatMap Al): ∃x,g.get id=some (.darr 1 x):=by
 obtain⟨row,hr,hid⟩:=List.mem_flatMap.1 hi;obtain⟨j,hj⟩:=List.getElem?_of_mem hr;have hjl:=(List.getElem?_eq_some_iff.1 hj).1;obtain⟨x,hx⟩:=get_some (l:=l) (i:=j) (by rw[←h.len];exact hjl);obtain⟨v,hv,hq⟩:=h.row j x hx;rw[hj]at hv;cases hv;rw[Bb]at hid;exact Dk hq hid
theorem MV.mem(V:MV)(m id:Abs.Id):id∈V.ids m↔id=m∨id=V.acts∨(∃i,i<4∧id∈AE (V.s i))∨id∈AE V.v3∨id∈V.rows.flatMap Al:=by
 simp only[MV.ids,List.mem_cons,List.mem_append];constructor
 .rintro(h|h|h|h|h|h|h|h)
  .exact .inl h
  .exact .inr (.inl h)
  .exact .inr (.inr (.inl ⟨0,by omega,h⟩))
  .exact .inr (.inr (.inl ⟨1,by omega,h⟩))
  .exact .inr (.inr (.inl ⟨2,by omega,h⟩))
  .exact .inr (.inr (.inl ⟨3,by omega,h⟩))
  .exact .inr (.inr (.inr (.inl h)))
  .exact .inr (.inr (.inr (.inr h)))
 .rintro(h|h|⟨i,hi,h⟩|h|h)
  .simp[h]
  .simp[h]
  .match i,hi with
   |0,_=>simp[h]
   |1,_=>simp[h]
   |2,_=>simp[h]
   |3,_=>simp[h]
  .simp[h]
  .simp only[h,or_true]
theorem MV.m_mem(V:MV)(m:Abs.Id):m∈V.ids m:=(V.mem m m).2 (.inl rfl)
theorem MV.acts_mem(V:MV)(m:Abs.Id):V.acts∈V.ids m:=(V.mem m _).2 (.inr (.inl rfl))
theorem MV.s_mem(V:MV)(m:Abs.Id){i:Nat}(hi:i<4){id:Abs.Id}(h:id∈AE (V.s i)):id∈V.ids m:=(V.mem m _).2 (.inr (.inr (.inl ⟨i,hi,h⟩)))
theorem MV.v3_mem(V:MV)(m:Abs.Id){id:Abs.Id}(h:id∈AE V.v3):id∈V.ids m:=(V.mem m _).2 (.inr (.inr (.inr (.inl h))))
theorem MV.row_mem(V:MV)(m:Abs.Id){id:Abs.Id}(h:id∈V.rows.flatMap Al):id∈V.ids m:=(V.mem m _).2 (.inr (.inr (.inr (.inr h))))
theorem Bg{p:AJ}{sz:List Int}{h h':AB}{m:Abs.Id}{V:MV}{st:CU}(hM:EE p sz h m V st)(hg: ∀id∈V.ids m,h'.get id=h.get id):EE p sz h' m V st:=
 ⟨by rw[hg _ (V.m_mem m)];exact hM.box,by rw[hg _ (V.acts_mem m)];exact hM.acts,fun i hi=>Dt (hM.sl i hi) fun id hid=>hg id (V.s_mem m hi hid),Ko hM.arr fun id hid=>hg id (V.v3_mem m hid),Kn hM.chans fun id hid=>hg id (V.row_mem m hid),hM.gw,hM.qd⟩
theorem fJ{p:AJ}{sz:List Int}{h:AB}{m:Abs.Id}{V V0:MV}{st:CU}{π ρ:List Nat}{h0:AB}(hM:EE p sz h m V st)(hK:zU π m V0 V h0 h)(hu:CF ρ V0 m):EE p sz (gc ρ h) m V st:=by
 refine Bg hM fun id hid=>?_;rcases hK.ids id hid with h|⟨_,l,rfl⟩
 .exact AU _ _ _ (hu id h)
 .exact GF _ _ _
theorem BH{π:List Nat}{n:Nat}{id:Abs.Id}(h:Id.under (n::π) id=true):Id.under π id=true:=by
 rw[under_iff]at*;exact(List.suffix_cons n π).trans h
theorem rQ{π:List Nat}{m:Abs.Id}{V:MV}{h h':AB}(hk: ∀id,Id.under π id=false→h'.get id=h.get id):zU π m V V h h':=⟨fun id h=>.inl h,fun id _ hu=>hk id hu⟩
theorem EA{p:AJ}{sz:List Int}{π:List Nat}{h h':AB}{m:Abs.Id}{V:MV}{st:CU}(hM:EE p sz h m V st)(hu:CF π V m)(hk: ∀id,Id.under π id=false→h'.get id=h.get id):EE p sz h' m V st:=Bg hM fun id hid=>hk id (hu id hid)
theorem Tq{p:AJ}{sz:List Int}{N:Abs.Id→Bool}{h h':AB}{m:Abs.Id}{V:MV}{st st':CU}(hM:EE p sz h m V st)(hu:Ke N V m)
 (hb:h'.get m=some (.box (Aj p sz V st'.work))) (hd:st'.sol=st.sol∧st'.ev=st.ev) (hk: ∀id,id≠m→N id=false→h'.get id=h.get id):EE p sz h' m V st'∧Uc N m V V h h':=by
 have hne: ∀id,(∀cs,h.get id≠some (.box cs))→id≠m:=fun id hh e=>hh _ (by subst e;exact hM.box);have hda: ∀i,Aw st' i=Aw st i:=fun i=>by
  unfold Aw;rw[hd.1,hd.2]
 have hg: ∀id∈V.ids m,(∀cs,h.get id≠some (.box cs))→h'.get id=h.get id:=fun id h1 h2=>hk id (hne id h2) (hu id h1);refine⟨⟨hb,?_,fun i hi=>?_,?_,?_,hM.gw,hM.qd⟩,fun id h=>.inl h,fun id h1 h2=>hk id (fun e=>h1 (by rw[e];exact V.m_mem m)) h2⟩
 .rw[hg _ (V.acts_mem m) (by rw[hM.acts];simp)];exact hM.acts
 .rw[hda];refine Dt (hM.sl i hi) fun id hid=>hg id (V.s_mem m hi hid) ?_;obtain⟨x,hx⟩:=Dk (hM.sl i hi) hid;rw[hx];simp
 .refine Ko hM.arr fun id hid=>hg id (V.v3_mem m hid) ?_;rw[Gq hM.arr hid];simp
 .rw[hd.1];refine Kn hM.chans fun id hid=>hg id (V.row_mem m hid) ?_;obtain⟨x,hx⟩:=J8 hM.chans hid;rw[hx];simp
theorem ACa{st st':CU}(hs:st'.sol=st.sol): ∀j,j<4→j≠3→Aw st' j=Aw st j
 |0,_,_|1,_,_|2,_,_=>by simp[Aw,hs]
 |3,_,h=>absurd rfl h
theorem rB{st st':CU}(h0:st'.sol.spots=st.sol.spots)(h1:st'.sol.groups=st.sol.groups)(h3:st'.ev=st.ev): ∀j,j<4→j≠2→Aw st' j=Aw st j
 |0,_,_|1,_,_|3,_,_=>by simp[Aw,h0,h1,h3]
 |2,_,h=>absurd rfl h
theorem ACb{st st':CU}(h0:st'.sol.spots=st.sol.spots)(h2:st'.sol.waits=st.sol.waits)(h3:st'.ev=st.ev): ∀j,j<4→j≠1→Aw st' j=Aw st j
 |0,_,_|2,_,_|3,_,_=>by simp[Aw,h0,h2,h3]
 |1,_,h=>absurd rfl h
theorem rA{st st':CU}(h1:st'.sol.groups=st.sol.groups)(h2:st'.sol.waits=st.sol.waits)(h3:st'.ev=st.ev): ∀j,j<4→j≠0→Aw st' j=Aw st j
 |1,_,_|2,_,_|3,_,_=>by simp[Aw,h1,h2,h3]
 |0,_,h=>absurd rfl h
theorem uH(V:MV)(i:Nat)(v:AV)(j:Nat):(V.upd i v).s j=if j=i then v else V.s j:=rfl
theorem YI{p:AJ}{sz:List Int}{N:Abs.Id→Bool}{h h':AB}{m:Abs.Id}{V:MV}{st st':CU}(i:Nat){v:AV}(hi:i<4)(hM:EE p sz h m V st)(hu:Ke N V m)
 (hb:h'.get m=some (.box (Aj p sz (V.upd i v) st'.work))) (hs:Kc h' (FZ i) v (Aw st' i)) (ho: ∀j,j<4→j≠i→Aw st' j=Aw st j) (hc:st'.sol.chans=st.sol.chans)
 (hv:AE v=AE (V.s i)∨ ∀id∈AE v,N id=true∧ ∃l,id=1::l) (hk: ∀id,id≠m→id∉AE (V.s i)→N id=false→h'.get id=h.get id):EE p sz h' m (V.upd i v) st'∧Uc N m V (V.upd i v) h h':=by
 have hne: ∀id,(∀cs,h.get id≠some (.box cs))→id≠m:=fun id hh e=>hh _ (by subst e;exact hM.box);have hg: ∀id∈V.ids m,(∀cs,h.get id≠some (.box cs))→id∉AE (V.s i)→h'.get id=h.get id:=fun id h1 h2 h3=>hk id (hne id h2) h3 (hu id h1);have hvi: ∀id∈AE v,id∈AE (V.s i)∨(N id=true∧ ∃l,id=1::l):=fun id hid=>by
  rcases hv with e|e
  .rw[e]at hid;exact .inl hid
  .exact .inr (e id hid)
 have key: ∀j,j<4→j≠i→ ∀id∈AE (V.s j),id∉AE (V.s i):=fun j hj hji id hid hh=>by
  obtain⟨x,hx⟩:=Dk (hM.sl j hj) hid;obtain⟨y,hy⟩:=Dk (hM.sl i hi) hh;rw[hx]at hy;have hsz:FZ j=FZ i:=by
   simp only[Option.some.injEq,Obj.darr.injEq]at hy;exact hy.1
  have h12:(j=1∧i=2)∨(j=2∧i=1):=by
   match i,j,hi,hj with
   |0,0,_,_|1,1,_,_|2,2,_,_|3,3,_,_=>omega
   |0,1,_,_|0,2,_,_|0,3,_,_|1,0,_,_|1,3,_,_|2,0,_,_|2,3,_,_|3,0,_,_|3,1,_,_|3,2,_,_=>simp[FZ]at hsz
   |1,2,_,_|2,1,_,_=>omega
  rcases h12 with⟨rfl,rfl⟩|⟨rfl,rfl⟩
  .exact hM.gw id hid hh
  .exact hM.gw id hh hid
 refine⟨⟨hb,?_,fun j hj=>?_,?_,?_,fun id h1 h2=>?_,hM.qd⟩,fun id hid=>?_,fun id h1 h2=>?_⟩
 .show h'.get V.acts=_;rw[hg _ (V.acts_mem m) (by rw[hM.acts];simp) fun hh=>?_]
  .exact hM.acts
  .obtain⟨x,hx⟩:=Dk (hM.sl i hi) hh;rw[hM.acts]at hx;cases hx
 .rw[uH];by_cases hji:j=i
  .rw[if_pos hji,hji];exact hs
  .rw[if_neg hji,ho j hj hji];refine Dt (hM.sl j hj) fun id hid=>hg id (V.s_mem m hj hid) ?_ (key j hj hji id hid);obtain⟨x,hx⟩:=Dk (hM.sl j hj) hid;rw[hx];simp
 .refine Ko hM.arr fun id hid=>hg id (V.v3_mem m hid) ?_ fun hh=>?_
  .rw[Gq hM.arr hid];simp
  .obtain⟨x,hx⟩:=Dk (hM.sl i hi) hh;rw[Gq hM.arr hid]at hx;cases hx
 .rw[hc];refine Kn hM.chans fun id hid=>hg id (V.row_mem m hid) ?_ fun hh=>?_
  .obtain⟨x,hx⟩:=J8 hM.chans hid;rw[hx];simp
  .obtain⟨x,hx⟩:=Dk (hM.sl i hi) hh;obtain⟨y,hy⟩:=J8 hM.chans hid;rw[hx]at hy
   match i,hi with
   |0,_|1,_|2,_|3,_=>simp[FZ]at hy
 .rw[uH]at h1 h2;have o1: ∀id∈AE (V.s 1),N id=false:=fun id hid=>hu id (V.s_mem m (by omega) hid);have o2: ∀id∈AE (V.s 2),N id=false:=fun id hid=>hu id (V.s_mem m (by omega) hid);by_cases e1:1=i
  .subst e1;rw[if_pos rfl]at h1;rw[if_neg (by omega)]at h2;rcases hvi id h1 with hh|hh
   .exact hM.gw id hh h2
   .rw[o2 id h2]at hh;cases hh.1
  .rw[if_neg e1]at h1;by_cases e2:2=i
   .subst e2;rw[if_pos rfl]at h2;rcases hvi id h2 with hh|hh
    .exact hM.gw id h1 hh
    .rw[o1 id h1]at hh;cases hh.1
   .rw[if_neg e2]at h2;exact hM.gw id h1 h2
 .rcases((V.upd i v).mem m id).1 hid with hh|hh|⟨j,hj,hh⟩|hh|hh
  .exact .inl ((V.mem m id).2 (.inl hh))
  .exact .inl ((V.mem m id).2 (.inr (.inl hh)))
  .rw[uH]at hh;by_cases hji:j=i
   .rw[if_pos hji]at hh;exact(hvi id hh).imp_left fun h=>V.s_mem m hi h
   .rw[if_neg hji]at hh;exact .inl (V.s_mem m hj hh)
  .exact .inl (V.v3_mem m hh)
  .exact .inl (V.row_mem m hh)
 .exact hk id (fun e=>h1 (by rw[e];exact V.m_mem m)) (fun hh=>h1 (V.s_mem m hi hh)) h2
theorem HL{p:AJ}{sz:List Int}{N:Abs.Id→Bool}{h:AB}{m:Abs.Id}{V:MV}{st st':CU}(i:Nat)(hi:i<4)(hM:EE p sz h m V st)(hu:Ke N V m)
 (ho: ∀j,j<4→j≠i→Aw st' j=Aw st j) (hc:st'.sol.chans=st.sol.chans) (v:AV) (h':AB) (a1:h'.get m=some (.box (Aj p sz (V.upd i v) st'.work))) (a2:Kc h' (FZ i) v (Aw st' i)) (a3:AE v=AE (V.s i)∨ ∀id∈AE v,N id=true∧ ∃l,id=1::l) (a4: ∀id,Id.is m id=false→(∀id2∈AE (V.s i),Id.is id2 id=false)→N id=false→h'.get id=h.get id):MU p sz N m V h st' h':=
 ⟨_,YI i hi hM hu a1 a2 ho hc a3 fun id b1 b2 b3=>a4 id (AD fun e=>b1 e.symm) (fun id2 hid=>AD fun e=>b2 (by rw[←e];exact hid)) b3⟩
theorem PZ{p:AJ}{sz:List Int}{N:Abs.Id→Bool}{h h':AB}{m:Abs.Id}{V:MV}{st:CU}(hp:MU p sz N m V h st h'): ∀id,id∉V.ids m→N id=false→h'.get id=h.get id:=by
 obtain⟨_,_,hK⟩:=hp;exact hK.frame
end Go.Proofs
namespace Go.Abs
theorem ABg(es:List (List AW))(hn:0<es.length)(i:TI)(hk:i.kind=.slice):IE .eql (.d (.lst es)) .nils (some i)=some (.d (.bool false)):=by
 cases es with
 |nil=>simp at hn
 |cons e es=>simp only[IE,hk,IC]
attribute [go_sem] ABg
end Go.Abs
namespace Go.Proofs
open Go Go.Abs
theorem o5(t:List Int)(n:Nat)(hn:n=t.length)(h0:0<n)(h1:n≤1000000): ∀(g:G) (newId:Abs.Id) (j:TI),j.mix=false→j.size=1→SX g newId j .emp (some ((t.map AO).map fun x=>x.map AV.d))=some ⟨.osl (1::newId) 0 n,[(1::newId,.darr 1 (t.map AO))]⟩:=fun g newId j hm hs=>by
 have:=vF g newId j (t.map AO) hm (by omega) (fun e he=>by
  obtain⟨x,_,rfl⟩:=List.mem_map.1 he;rw[hs];rfl) (fun e=>by rw[List.map_eq_nil_iff.1 e]at hn;simp at hn;omega) (by simp[A4];omega)
 rw[this,List.length_map,hn,hs]
theorem Gy{g0:AB}{s0:Nat}{v:AV}{es:List (List AW)}(h:Kc g0 s0 v es)(g:G):VS g .slice v=some es.length:=by
 rcases h with⟨rfl,rfl⟩|⟨id,x,rfl,_⟩<;>rfl
theorem P2{g0:AB}{v:AV}{rows:List (List AV)}(h:uu g0 v rows)(g:G):VS g .slice v=some rows.length:=by
 rcases h with⟨rfl,rfl⟩|⟨id,rfl,_⟩<;>rfl
end Go.Proofs
namespace Go.Abs
theorem MB{g:G}{id:Id}{s:Nat}{es:List (List AW)}(h:g id=some (.darr s es)){n:Nat}{lo hi mx:Option AV}{l r:Nat}{m:Option Nat}(hb:DZ lo hi mx n=some (l,r,m))(hr:r≤es.length)(hm:m.getD r≤es.length)(h0:0<es.length):EN g .slice s (.osl id 0 n) lo hi mx=m.elim (some (.osl id l (r-l))) fun m=>if m=l then some .emp else some .undef:=by
 show M3 g s id 0 (DZ lo hi mx n)=_;rw[hb];simp only[M3,h,aE,Nat.zero_add];have e1:Nat.beq s s=true:=Nat.beq_refl s;have e2:Nat.ble (m.getD r) es.length=true:=Nat.ble_eq_true_of_le hm;have e3:Nat.ble r es.length=true:=Nat.ble_eq_true_of_le hr;have e4:Nat.blt 0 es.length=true:=by rw[Nat.blt_eq];exact h0
 rw[e1,e2,e3,e4];cases m with
 |none=>rfl
 |some m=>
  simp only[Bool.and_self,Gn];by_cases e:m=l<;>simp[e]
theorem fR{g:G}{id:Id}{s n:Nat}{es:List (List AW)}(h:g id=some (.darr s es)){a b m:Int}(h0:0≤a)(h1:a≤b)(h2:b≤m)(h3:m≤es.length)(h4:a<m):EN g .slice s (.osl id 0 n) (some (.d (.int .i64 a))) (some (.d (.int .i64 b))) (some (.d (.int .i64 m)))=some .undef:=by
 rw[MB h (l:=a.toNat) (r:=b.toNat) (m:=some m.toNat) (by simp[DZ,Ga,HT,h0,h1,h2]) (by omega) (by simp;omega) (by omega)];simp only[Option.elim_some];rw[if_neg (by omega)]
theorem R5{g:G}{id:Id}{s n:Nat}{es:List (List AW)}(h:g id=some (.darr s es)){a:Int}(h0:0≤a)(h1:a≤n)(h2:n≤es.length)(h3:0<es.length):EN g .slice s (.osl id 0 n) (some (.d (.int .i64 a))) none none=some (.osl id a.toNat (n-a.toNat)):=by
 rw[MB h (l:=a.toNat) (r:=n) (m:=none) (by simp[DZ,Ga,HT,h0,h1]) h2 h2 h3];rfl
theorem R4{g:G}{id:Id}{s n:Nat}{es:List (List AW)}(h:g id=some (.darr s es)){b:Int}(h0:0≤b)(h1:b≤es.length)(h3:0<es.length):EN g .slice s (.osl id 0 n) none (some (.d (.int .i64 b))) none=some (.osl id 0 b.toNat):=by
 rw[MB h (l:=0) (r:=b.toNat) (m:=none) (by simp[DZ,Ga,HT,h0]) (by omega) (by simp;omega) h3];rfl
theorem MC{g:G}{id:Id}{s n:Nat}{es:List (List AW)}(h:g id=some (.darr s es)){a b:Int}(h0:0≤a)(h1:a≤b)(h2:b≤es.length)(h3:0<es.length):EN g .slice s (.osl id 0 n) (some (.d (.int .i64 a))) (some (.d (.int .i64 b))) none=some (.osl id a.toNat (b.toNat-a.toNat)):=by
 rw[MB h (l:=a.toNat) (r:=b.toNat) (m:=none) (by simp[DZ,Ga,HT,h0,h1]) (by omega) (by simp;omega) h3];rfl
theorem R6{α:Type}{es ds:List α}{i:Nat}(h:i+ds.length≤es.length):Bm es i ds=some (es.take i++ds++es.drop (i+ds.length)):=by
 unfold Bm;rw[if_pos (by first|exact h|simpa using h)]
theorem eU{sz:Nat}(ds:List (List AW))(hn:ds≠ [])(hs: ∀e∈ds,e.length=sz)(h0:0<sz)(hl:ds.length≤1000000)(g:G)(newId:Id)(j:TI)(hm:j.mix=false)(hj:j.size=sz):SX g newId j .nils (some (ds.map fun x=>x.map AV.d))=some ⟨.osl (1::newId) 0 ds.length,[(1::newId,.darr sz ds)]⟩:=by
 rw[Ld g newId j .nils ds (by omega) (fun e he=>by rw[hj];exact hs e he) hn (by simp[A4];omega),QS,Pa g newId j ds hm (by omega) (fun e he=>by rw[hj];exact hs e he) (by simp[A4];omega),hj]
theorem WV{sz:Nat}{id:Id}(es ds:List (List AW))(hn:ds≠ [])(hs: ∀e∈ds,e.length=sz)(h0:0<sz)(hl:es.length+ds.length≤1000000)(n:Nat)(he:n=es.length)(g:G)(newId:Id)(j:TI)(hj:j.size=sz)(h:g id=some (.darr sz es)):SX g newId j (.osl id 0 n) (some (ds.map fun x=>x.map AV.d))=some ⟨.osl (1::newId) 0 (n+ds.length),[(id,.fro 0 []),(1::newId,.darr sz (es++ds))]⟩:=by
 have hp:Bm es (0+n) ds=none:=by
  unfold Bm;rw[if_neg];have:0<ds.length:=List.length_pos_iff.2 hn;omega
 rw[Ld g newId j _ ds (by omega) (fun e he=>by rw[hj];exact hs e he) hn (by simp[A4];omega),OJ,h,OI,if_pos ⟨hj.symm,by omega⟩,QQ,IW,HA,OH,Oq,if_pos rfl,hp,QO,if_pos ⟨rfl,by simp[A4];omega⟩,he,List.take_length];rfl
theorem S3{g:G}{id:Id}{sz:Nat}{es x:List (List AW)}{a n:Nat}(h:g id=some (.darr sz (es++x)))(hn:n=es.length)(ha:a<n)(hs: ∀e∈es,e.length=sz)(h0:0<sz)(hl:n≤1000000)(newId:Id)(j:TI)(hj:j.size=sz):
 SX g newId j (.osl id 0 a) (some (List.take (n-(a+1)) (List.drop (a+1) ((es++x).map fun e=>e.map AV.d))))=some ⟨.osl id 0 (n-1),if a+1=n then []else [(id,.darr sz (es.take a++(es.drop (a+1)++(es.drop (n-1)++x))))]⟩:=by
 subst hn;have e1:List.take (es.length-(a+1)) (List.drop (a+1) ((es++x).map fun e=>e.map AV.d))=(es.drop (a+1)).map fun e=>e.map AV.d:=by
  rw[←List.map_drop,←List.map_take,List.drop_append_of_le_length (by omega),List.take_append_of_le_length (by simp),List.take_of_length_le (by simp)]
 rw[e1];by_cases hz:a+1=es.length
 .rw[List.drop_of_length_le (by omega),List.map_nil,WK,WQ,if_pos hz];congr 2;exact congrArg _ (by omega)
 .have hne:es.drop (a+1)≠ []:=fun e=>by rw[List.drop_eq_nil_iff]at e;omega
  have hds: ∀e∈es.drop (a+1),e.length=j.size:=fun e he=>by rw[hj];exact hs e (List.mem_of_mem_drop he)
  rw[Ld g newId j _ _ (by omega) hds hne (by simp[A4];omega),OJ,h,OI,if_pos ⟨hj.symm,by simp;omega⟩,QQ,IW,HA,OH,Oq,if_pos rfl,R6 (by simp;omega),QP,if_neg hz];simp only[Nat.zero_add,List.nil_append,List.length_drop];congr 2
  .exact congrArg _ (by omega)
  .rw[List.take_append_of_le_length (by omega),List.drop_append_of_le_length (by omega),show a+(es.length-(a+1))=es.length-1 by omega,List.append_assoc]
theorem W2{g:G}{id:Id}{sz off n:Nat}{es:List (List AW)}{z:List AW}{j:TI}(h:g id=some (.darr sz es))(hj:j.size=sz)(hz:Cb (fun _=>none) j.zero=some z)(hl:z.length=sz)(hc:(j.zero.length=sz∧j.zero.all AV.isCell=true)∧0<sz)(hn:off+n≤es.length):Gr g id off n j=some ⟨.undef,[(id,.darr sz (es.take off++(List.replicate n z++es.drop (off+n))))]⟩:=by
 unfold Gr;rw[h];simp only[hz];rw[if_pos ⟨hl,by rw[hc.1.1,hj],hc.1.2,hc.2⟩,R6 (by simpa using hn)];simp[List.append_assoc]
def Zw(g:G)(id:Id)(off n:Nat):Option TI→Option Bz
 |some j=>Gr g id off n j
 |none=>none
theorem YM(T:TypeId→Option TI)(g:G)(i:TI)(id:Id)(off:Nat)(hk:i.kind=.slice):FK T g (some i) (.osl id off 1)=Zw g id off 1 (T i.elem):=by
 unfold FK;simp only[hk];cases T i.elem<;>rfl
theorem W1(g:G)(id:Id)(off n:Nat)(j:TI):Zw g id off n (some j)=Gr g id off n j:=rfl
attribute [go_sem] YM W1
theorem Qc{es x:List (List AW)}{a sz:Nat}{z:List AW}{zs:List AV}(L:List (List AW))(ha:a<es.length)(hL:L=es.take a++(es.drop (a+1)++(es.drop (es.length-1)++x)))(hz:Cb (fun _=>none) zs=some z)(hl:z.length=sz)(hc:(zs.length=sz∧zs.all AV.isCell=true)∧0<sz){id:Id}(g:G)(j:TI)(h:g id=some (.darr sz L))(hj:j.size=sz)(hj2:j.zero=zs):Gr g id (es.length-1) 1 j=some ⟨.undef,[(id,.darr sz (es.take a++(es.drop (a+1)++(z::x))))]⟩:=by
 subst hj2 hL;have hl1:(es.take a).length=a:=by rw[List.length_take];omega
 have hl2:(es.drop (a+1)).length=es.length-1-a:=by rw[List.length_drop];omega
 have hl3:(es.drop (es.length-1)).length=1:=by rw[List.length_drop];omega
 rw[W2 h hj hz hl hc (by simp only[List.length_append,hl1,hl2,hl3];omega)];congr 5;have e1:es.take a++(es.drop (a+1)++(es.drop (es.length-1)++x))=(es.take a++es.drop (a+1))++(es.drop (es.length-1)++x):=by simp
 have e2:(es.take a++es.drop (a+1)).length=es.length-1:=by rw[List.length_append,hl1,hl2];omega
 rw[e1,List.take_left' e2];have e3:(es.take a++es.drop (a+1))++(es.drop (es.length-1)++x)=((es.take a++es.drop (a+1))++es.drop (es.length-1))++x:=(List.append_assoc ..).symm;rw[e3,List.drop_left' (l₁:=(es.take a++es.drop (a+1))++es.drop (es.length-1)) (by rw[List.length_append,e2,hl3])];simp
end Go.Abs
