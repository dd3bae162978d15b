/-
  Parts: EngI2 EngWp EngSim EngSimF EngRaw EngSimA EngRnd EngInv EngAb EngSimB SolT SolTab SolData SolM1 SolV1 SolV2 SolS1 SolS2 SolS3 SolS4 SolP3 SolP4 SolP5 SolM2 SolM3 SolN1 SolN0 SolV3 SolV4 EngRo SolC1 SolC2 EngRng SolR1 SolI0.
-/
import Derived.KernelRfl
import Derived.Test.YtbinfhpngacfgaaGreatCo6
import Derived.Test.YtbinfhpngacfgaaGreatCo7
import Derived.Test.YtbinfhpngacfgaaGreatCo9
set_option linter.all false
set_option linter.unusedSimpArgs false
set_option linter.unusedVariables false
namespace Go.Abs
variable{P:Program}{C:Bk}{mix:List TypeId}
abbrev G2:=List (FuncId×List AV×AV)
def G2.look:G2→FuncId→List AV→Option AV
 |[],_,_=>none
 |(g,bs,r)::l,f,az=>match Nat.beq g f with
  |true=>match AV.sames bs az with
   |true=>some r
   |false=>G2.look l f az
  |false=>G2.look l f az
def G2.Known(P:Program)(C:Bk)(T:G2):Prop:= ∀f az r,(f,az,r)∈T→KL P C (.fn f) az [] [] false none=.ok (.ret r,[])
theorem G2.look_mem: ∀{T:G2} {f:FuncId} {az:List AV} {r:AV},T.look f az=some r→(f,az,r)∈T
 |[],_,_,_,h=>by cases h
 |(g,bs,r')::l,f,az,r,h=>by
  unfold G2.look at h;split at h
  .rename_i h1;split at h
   .rename_i h2;cases h;rw[←Nat.eq_of_beq_eq_true h1,←AV.sames_eq h2];simp
   .exact List.mem_cons_of_mem _ (G2.look_mem h)
  .exact List.mem_cons_of_mem _ (G2.look_mem h)
def G2.ask(T:G2)(f:FuncId)(az:List AV):AB→List Nat→Bool→Option (List Nat)→Option AV
 |[],[],false,none=>T.look f az
 |_,_,_,_=>none
def O7(P:Program)(C:Bk)(T:G2)(m:Nat):Nat→AH
 |0=>fun _ _ _ _ _ _=>.err [25]
 |n+1=>fun t args h π raw prot=>match t with
  |.fn f=>match T.ask f args h π raw prot with
   |some r=>.ok (.ret r,[])
   |none=>match C.good f with
    |true=>KT P C (O7 P C T m n) m f args h π raw prot
    |false=>.err [41,f]
  |.round id r=>match raw with
   |true=>Eb C (O7 P C T m n) m id r args h π prot
   |false=>.err [42]
theorem MT{T:G2}(hT:T.Known P C){m:Nat}: ∀{n:Nat} {q:Qu} {r:AQ×AB},ask (O7 P C T m n) q=.ok r→ask (KL P C) q=.ok r
 |0,q,r,h=>by simp[ask,O7]at h
 |n+1,⟨t,args,h,π,raw,prot⟩,r,hr=>by
  simp only[ask,O7]at hr⊢;cases t with
  |fn f=>
   simp only at hr;split at hr
   .rename_i r' hl;cases hr;unfold G2.ask at hl;split at hl
    .exact hT _ _ _ (G2.look_mem hl)
    .cases hl
   .split at hr
    .rename_i hg;obtain⟨L,hL⟩:=Jo hr;refine mi hg (n:=m) ?_;exact hL _ m (Nat.le_refl _) fun q _ r' h'=>MT hT h'
    .cases hr
  |round id lp=>
   simp only at hr;split at hr
   .rename_i hrw;obtain⟨L,hL⟩:=Gz hr;refine SU (n:=m) ?_;exact hL _ m (Nat.le_refl _) fun q _ r' h'=>MT hT h'
   .cases hr
theorem HN{T:G2}(hT:T.Known P C)(m n:Nat){f:FuncId}{az:List AV}{r:AV}(h:O7 P C T m n (.fn f) az [] [] false none=.ok (.ret r,[])):KL P C (.fn f) az [] [] false none=.ok (.ret r,[]):=
 MT (q:=⟨.fn f,az,[],[],false,none⟩) hT h
theorem G2.known_nil:G2.Known P C []:=fun _ _ _ h=>by cases h
theorem G2.known_cons{T:G2}{f:FuncId}{az:List AV}{r:AV}(h:KL P C (.fn f) az [] [] false none=.ok (.ret r,[]))(hT:T.Known P C):G2.Known P C ((f,az,r)::T):=fun f' az' r' hm=>by
 rcases List.mem_cons.1 hm with h1|h1
 .cases h1;exact h
 .exact hT _ _ _ h1
end Go.Abs
namespace Go.Abs
variable{P:Program}{C:Bk}{K:AH}{fr:Fr}{b n i:Nat}{Q:Cq→St→Prop}
def Wp(C:Bk)(K:AH)(fr:Fr)(b:Nat)(c:Code)(st:St)(Q:Cq→St→Prop):Prop:= ∃n o st',Ar C K fr n b c st=.ok (o,st')∧Q o st'
theorem JC{n m b:Nat}{c:Code}{st:St}{r:Cq×St}(h:Ar C K fr n b c st=.ok r)(hm:n≤m):Ar C K fr m b c st=.ok r:=by
 obtain⟨L,hL⟩:=I2 n b c st (E.good_of h);rw[hL K m hm (fun _ _ _ h=>h),h]
def et(C:Bk)(K:AH)(fr:Fr)(b:Nat)(y:Code)(Q:Cq→St→Prop):Cq→St→Prop
 |.normal,st=>Wp C K fr b y st Q
 |o,st=>Q o st
def H4(id:Nat)(Q:Cq→St→Prop):Cq→St→Prop
 |.exit k,st=>match Nat.beq k id with
  |true=>Q .normal st
  |false=>Q (.exit k) st
 |o,st=>Q o st
def H5(C:Bk)(K:AH)(fr:Fr)(b:Nat)(x y:Code)(st:St)(Q:Cq→St→Prop):AV→Prop
 |.d (.bool true)=>Wp C K fr b x st Q
 |.d (.bool false)=>Wp C K fr b y st Q
 |_=>False
def Dt(C:Bk)(K:AH)(fr:Fr)(ops:Array Oper)(b n:Nat)(al:Nat→Bool)(l:List Oper)(i:Nat)(st:St)(Q:Cq→St→Prop):Prop:=
 match B7 C K fr ops b al l i st with
 |.ok ((none,st'),_)=>Q .normal {st' with base:=b+n}
 |.ok ((some v,st'),_)=>Q (.pan v) {st' with base:=b+n}
 |.err _=>False
def ET(C:Bk)(K:AH)(fr:Fr)(ops:Array Oper)(b n:Nat)(al:Nat→Bool)(ps:List (Nat×Nat))(fps:List Fp)(l:List Oper)(i:Nat)(st:St)(Q:Cq→St→Prop):Prop:=
 match B7 C K fr ops b al l i st with
 |.ok ((none,st'),f)=>Cc (fps++f) ps=true∧Q .normal {st' with base:=b+n}
 |.ok ((some v,st'),f)=>Cc (fps++f) ps=true∧Q (.pan v) {st' with base:=b+n}
 |.err _=>False
theorem nF(x y:Code)(st:St):Wp C K fr b (.seq x y) st Q=Wp C K fr b x st (et C K fr b y Q):=by
 refine propext ⟨fun⟨n,o,st',h,hq⟩=>?_,fun⟨n,o,st',h,hq⟩=>?_⟩
 .cases n with
  |zero=>simp[Ar]at h
  |succ n=>
   simp only[Ar]at h;cases hx:Ar C K fr n b x st with
   |err e=>rw[hx]at h;cases h
   |ok r=>
    rw[hx]at h;obtain⟨o1,st1⟩:=r;refine⟨n,o1,st1,hx,?_⟩;cases o1<;>simp only[CN]at h
    .exact⟨n,o,st',h,hq⟩
    all_goals (cases h;exact hq)
 .cases o with
  |normal=>
   obtain⟨m,o2,st2,h2,hq2⟩:=hq;refine⟨max n m+1,o2,st2,?_,hq2⟩;simp only[Ar,JC h (Nat.le_max_left n m),CN,JC h2 (Nat.le_max_right n m)]
  |_=>exact⟨n+1,_,st',by simp only[Ar,h,CN],hq⟩
theorem lV(c:Operand)(x y:Code)(st:St):Wp C K fr b (.cond c x y) st Q=H5 C K fr b x y st Q (ev st.env.get c):=by
 have e: ∀{v:AV} {x y:Code} (hv: ∀n,Ar C K fr (n+1) b (.cond c x y) st=G7 v (Ar C K fr n b x st) (Ar C K fr n b y st)),Wp C K fr b (.cond c x y) st Q=H5 C K fr b x y st Q v:=by
  intro v x y hv;refine propext ⟨fun⟨n,o,st',h,hq⟩=>?_,fun h=>?_⟩
  .cases n with
   |zero=>simp[Ar]at h
   |succ n=>
    rw[hv]at h;unfold G7 at h;split at h
    .rename_i t;cases t
     .exact⟨n,o,st',h,hq⟩
     .exact⟨n,o,st',h,hq⟩
    .cases h
  .unfold H5 at h;split at h
   .obtain⟨n,o,st',h,hq⟩:=h;exact⟨n+1,o,st',by rw[hv];exact h,hq⟩
   .obtain⟨n,o,st',h,hq⟩:=h;exact⟨n+1,o,st',by rw[hv];exact h,hq⟩
   .exact h.elim
 exact e fun n=>by simp only[Ar]
theorem gM(id:Nat)(x:Code)(st:St):Wp C K fr b (.block id x) st Q=Wp C K fr id x st (H4 id Q):=by
 refine propext ⟨fun⟨n,o,st',h,hq⟩=>?_,fun⟨n,o,st',h,hq⟩=>?_⟩
 .cases n with
  |zero=>simp[Ar]at h
  |succ n=>
   simp only[Ar]at h;cases hx:Ar C K fr n id x st with
   |err e=>rw[hx]at h;cases h
   |ok r=>
    rw[hx]at h;obtain⟨o1,st1⟩:=r;refine⟨n,o1,st1,hx,?_⟩;cases o1 with
    |exit k=>
     simp only[Ee]at h;simp only[H4];split at h<;>(rename_i hk;rw[hk];cases h;exact hq)
    |_=>cases h;exact hq
 .cases o with
  |exit k=>
   simp only[H4]at hq;cases hk:Nat.beq k id with
   |true=>
    rw[hk]at hq;exact⟨n+1,.normal,st',by simp only[Ar,h,Ee,hk],hq⟩
   |false=>
    rw[hk]at hq;exact⟨n+1,.exit k,st',by simp only[Ar,h,Ee,hk],hq⟩
  |_=>exact⟨n+1,_,st',by simp only[Ar,h,Ee],hq⟩
theorem Ng{c:Code}{st:St}{o:Cq}{st':St}(h: ∀n,Ar C K fr (n+1) b c st=.ok (o,st')):Wp C K fr b c st Q=Q o st':=by
 refine propext ⟨fun⟨n,o1,st1,h1,hq⟩=>?_,fun hq=>⟨1,o,st',h 0,hq⟩⟩;cases n with
 |zero=>simp[Ar]at h1
 |succ n=>
  rw[h]at h1;cases h1;exact hq
theorem iL(st:St):Wp C K fr b .skip st Q=Q .normal st:=Ng fun _=>rfl
theorem pZ(st:St):Wp C K fr b .ret st Q=Q .ret st:=Ng fun _=>rfl
theorem it(id:Nat)(st:St):Wp C K fr b (.exit id) st Q=Q (.exit id) st:=Ng fun _=>rfl
theorem Jt(id:Nat)(ops:Array Oper)(draw:Bool)(st:St):Wp C K fr b (.region id ops draw) st Q=match Cp C K fr id ops draw st with|.ok (o,st')=>Q o st'|.err _=>False:=by
 cases h:Cp C K fr id ops draw st with
 |ok r=>
  obtain⟨o,st'⟩:=r;exact Ng fun n=>by simp only[Ar,h]
 |err e=>
  refine propext ⟨fun⟨n,o,st',h1,hq⟩=>?_,fun h=>h.elim⟩;cases n with
  |zero=>simp[Ar]at h1
  |succ n=>
   simp only[Ar,h]at h1;cases h1
theorem Z7(id:Nat)(ops:Array Oper)(e:BI)(h:AB)(bs:Nat)(ds:List Df):Wp C K fr b (.region id ops false) ⟨e,h,bs,ds⟩ Q=Dt C K fr ops bs ops.size (fun _=>true) ops.toList 0 ⟨e,h,bs,ds⟩ Q:=by
 rw[Jt];unfold Cp Dt;simp only[Bool.not_false,Bool.true_or];cases B7 C K fr ops bs (fun _=>true) ops.toList 0 ⟨e,h,bs,ds⟩with
 |err l=>rfl
 |ok r=>
  obtain⟨⟨o,st'⟩,fps⟩:=r;cases o<;>simp[HE]
theorem cQ(id:Nat)(ops:Array Oper)(e:BI)(h:AB)(bs:Nat)(ds:List Df)(hp:C.pairs fr.f id=[]):Wp C K fr b (.region id ops true) ⟨e,h,bs,ds⟩ Q=Dt C K fr ops bs ops.size (fun i=>C.alone fr.f id i) ops.toList 0 ⟨e,h,bs,ds⟩ Q:=by
 rw[Jt];unfold Cp Dt;simp only[Bool.not_true,Bool.false_or];cases B7 C K fr ops bs (fun i=>C.alone fr.f id i) ops.toList 0 ⟨e,h,bs,ds⟩with
 |err l=>rfl
 |ok r=>
  obtain⟨⟨o,st'⟩,fps⟩:=r;cases o<;>simp[HE,hp,Cc]
theorem jf(id:Nat)(ops:Array Oper)(e:BI)(h:AB)(bs:Nat)(ds:List Df){ps:List (Nat×Nat)}(hp:C.pairs fr.f id=ps):Wp C K fr b (.region id ops true) ⟨e,h,bs,ds⟩ Q=ET C K fr ops bs ops.size (fun i=>C.alone fr.f id i) ps [] ops.toList 0 ⟨e,h,bs,ds⟩ Q:=by
 rw[Jt];unfold Cp ET;simp only[Bool.not_true,Bool.false_or,List.nil_append];cases B7 C K fr ops bs (fun i=>C.alone fr.f id i) ops.toList 0 ⟨e,h,bs,ds⟩with
 |err l=>rfl
 |ok r=>
  obtain⟨⟨o,st'⟩,fps⟩:=r;subst hp;cases o<;>cases hq:Cc fps (C.pairs fr.f id)<;>simp[HE,hq]
theorem SC(y:Code)(st:St):et C K fr b y Q .normal st=Wp C K fr b y st Q:=rfl
theorem Xk(y:Code)(k:Nat)(st:St):et C K fr b y Q (.exit k) st=Q (.exit k) st:=rfl
theorem d8(y:Code)(st:St):et C K fr b y Q .ret st=Q .ret st:=rfl
theorem gd(y:Code)(v:AV)(st:St):et C K fr b y Q (.pan v) st=Q (.pan v) st:=rfl
theorem Nr(id:Nat)(st:St):H4 id Q .normal st=Q .normal st:=rfl
theorem WH(id:Nat)(st:St):H4 id Q .ret st=Q .ret st:=rfl
theorem Tx(id:Nat)(v:AV)(st:St):H4 id Q (.pan v) st=Q (.pan v) st:=rfl
theorem Qt(id:Nat)(st:St):H4 id Q (.exit id) st=Q .normal st:=by
 simp[H4]
theorem Va(x y:Code)(st:St):H5 C K fr b x y st Q (.d (.bool true))=Wp C K fr b x st Q:=rfl
theorem RT(x y:Code)(st:St):H5 C K fr b x y st Q (.d (.bool false))=Wp C K fr b y st Q:=rfl
theorem RF{x y:Code}{st:St}{t:Bool}(h1:t=true→Wp C K fr b x st Q)(h2:t=false→Wp C K fr b y st Q):H5 C K fr b x y st Q (.d (.bool t)):=by
 cases t
 .exact h2 rfl
 .exact h1 rfl
variable{ops:Array Oper}{al:Nat→Bool}{l:List Oper}{e:BI}{h:AB}{bs:Nat}{ds:List Df}{ps:List (Nat×Nat)}{fps:List Fp}
def BG(C:Bk)(K:AH)(fr:Fr)(ops:Array Oper)(b n:Nat)(al:Nat→Bool)(l:List Oper)(i:Nat)(dst:Option Tmp)(e:BI)(h:AB)(bs:Nat)(ds:List Df)(Q:Cq→St→Prop):Option Bf→Prop
 |some x=>GW fr.prot x.δ=true∧Dt C K fr ops b n al l (i+1) ⟨Bi e dst x.v,h.puts x.δ,bs,ds⟩ Q
 |none=>False
def Az(C:Bk)(K:AH)(fr:Fr)(ops:Array Oper)(b n:Nat)(al:Nat→Bool)(l:List Oper)(i:Nat)(Q:Cq→St→Prop):Em→Prop
 |.ok st _=>Dt C K fr ops b n al l (i+1) st Q
 |.pan v st=>al i=true∧Q (.pan v) {st with base:=b+n}
 |.err _=>False
theorem eo:Dt C K fr ops b n al [] i ⟨e,h,bs,ds⟩ Q=Q .normal ⟨e,h,b+n,ds⟩:=rfl
theorem OE(o:Oper)(st:St):Dt C K fr ops b n al (o::l) i st Q=Az C K fr ops b n al l i Q (Bc C K fr ops ((b+i)::fr.π) o st):=by
 unfold Dt;simp only[B7,FE];cases hs:Bc C K fr ops ((b+i)::fr.π) o st with
 |err e=>rfl
 |pan v st'=>
  simp only[Az];cases al i<;>simp
 |ok st' fp=>
  simp only[Az,Dt];cases hr:B7 C K fr ops b al l (i+1) st' with
  |err e=>rfl
  |ok r=>
   obtain⟨⟨o,st2⟩,fps⟩:=r;cases o<;>rfl
def CB(C:Bk)(K:AH)(fr:Fr)(ops:Array Oper)(b n:Nat)(al:Nat→Bool)(l:List Oper)(i:Nat)(dst:Option Tmp)(op:Op)(st:St)(want:Bool)(Q:Cq→St→Prop):AV→Prop
 |.d (.bool t)=>match t==want with
  |true=>Az C K fr ops b n al l i Q (Ai C K fr ((b+i)::fr.π) op dst st)
  |false=>Dt C K fr ops b n al l (i+1) {st with env:=Bi st.env dst (.tup [])} Q
 |.tup []=>Dt C K fr ops b n al l (i+1) {st with env:=Bi st.env dst (.tup [])} Q
 |_=>False
theorem bS(dst:Option Tmp)(op:Op)(st:St):CB C K fr ops b n al l i dst op st true Q (.d (.bool true))=Az C K fr ops b n al l i Q (Ai C K fr ((b+i)::fr.π) op dst st):=rfl
theorem XJ(dst:Option Tmp)(op:Op)(st:St):CB C K fr ops b n al l i dst op st false Q (.d (.bool false))=Az C K fr ops b n al l i Q (Ai C K fr ((b+i)::fr.π) op dst st):=rfl
theorem aJ(dst:Option Tmp)(op:Op):CB C K fr ops b n al l i dst op ⟨e,h,bs,ds⟩ true Q (.d (.bool false))=Dt C K fr ops b n al l (i+1) ⟨Bi e dst (.tup []),h,bs,ds⟩ Q:=rfl
theorem Yp(dst:Option Tmp)(op:Op):CB C K fr ops b n al l i dst op ⟨e,h,bs,ds⟩ false Q (.d (.bool true))=Dt C K fr ops b n al l (i+1) ⟨Bi e dst (.tup []),h,bs,ds⟩ Q:=rfl
theorem Po{dst:Option Tmp}{op:Op}{st:St}{want t:Bool}(h1:t=true→CB C K fr ops b n al l i dst op st want Q (.d (.bool true)))(h2:t=false→CB C K fr ops b n al l i dst op st want Q (.d (.bool false))):CB C K fr ops b n al l i dst op st want Q (.d (.bool t)):=by
 cases t
 .exact h2 rfl
 .exact h1 rfl
theorem Xl(dst:Option Tmp)(op:Op)(ty:TypeId)(pos:String)(af:Array Edge)(st:St):
 Dt C K fr ops b n al (⟨dst,op,ty,pos,af,none⟩::l) i st Q=Az C K fr ops b n al l i Q (Ai C K fr ((b+i)::fr.π) op dst st):=by
 rw[OE];simp only[Bc,I0]
theorem AZ(dst:Option Tmp)(op:Op)(r:Option Bf):Az C K fr ops b n al l i Q (CQ fr op dst ⟨e,h,bs,ds⟩ r)=BG C K fr ops b n al l i dst e h bs ds Q r:=by
 cases r with
 |none=>rfl
 |some x=>
  simp only[CQ,BG,Gu,BD,Ah];cases hw:GW fr.prot x.δ with
  |false=>simp[Az]
  |true=>
   simp only[true_and];have: ∀k:AB→Em,SK h x.δ k=k (h.puts x.δ):=fun k=>by
    unfold SK;split
    .rename_i hd;rw[hd];rfl
    .simp only[AR]
   rw[this];simp only[Az]
theorem Ib(dst:Option Tmp)(v:AV):BG C K fr ops b n al l i dst e h bs ds Q (some ⟨v,[]⟩)=Dt C K fr ops b n al l (i+1) ⟨Bi e dst v,h,bs,ds⟩ Q:=by
 have:GW fr.prot []=true:=by cases hp:fr.prot<;>rfl
 simp only[BG,this,true_and];rfl
theorem T2(dst:Option Tmp)(v:AV)(x:Id×Obj)(δ:AB):BG C K fr ops b n al l i dst e h bs ds Q (some ⟨v,x::δ⟩)=(GW fr.prot (x::δ)=true∧Dt C K fr ops b n al l (i+1) ⟨Bi e dst v,h.puts (x::δ),bs,ds⟩ Q):=rfl
section
variable(dst:Option Tmp)(ρ:List Nat)
theorem nX(x:Operand):Az C K fr ops b n al l i Q (Ai C K fr ρ (.move x) dst ⟨e,h,bs,ds⟩)=Dt C K fr ops b n al l (i+1) ⟨Bi e dst (ev e.get x),h,bs,ds⟩ Q:=by
 simp only[Ai,evalOp,AZ,Ib]
theorem dc(x:Operand):Az C K fr ops b n al l i Q (Ai C K fr ρ (.assign x) dst ⟨e,h,bs,ds⟩)=Dt C K fr ops b n al l (i+1) ⟨Bi e dst (ev e.get x),h,bs,ds⟩ Q:=by
 simp only[Ai,evalOp,AZ,Ib]
theorem oW(c x y:Operand):Az C K fr ops b n al l i Q (Ai C K fr ρ (.pick c x y) dst ⟨e,h,bs,ds⟩)=BG C K fr ops b n al l i dst e h bs ds Q (JT (ev e.get c) (ev e.get x) (ev e.get y)):=by
 simp only[Ai,evalOp,AZ]
theorem jR(t:TypeId):Az C K fr ops b n al l i Q (Ai C K fr ρ (.alloc t) dst ⟨e,h,bs,ds⟩)=BG C K fr ops b n al l i dst e h bs ds Q (GZ ρ (C.T t)):=by
 simp only[Ai,evalOp,AZ]
theorem qO(t:TypeId)(x:Operand):Az C K fr ops b n al l i Q (Ai C K fr ρ (.box t x) dst ⟨e,h,bs,ds⟩)=BG C K fr ops b n al l i dst e h bs ds Q (LY ρ (ev e.get x) (C.T t)):=by
 simp only[Ai,evalOp,AZ]
theorem kY(t:TypeId)(p:Array (Nat×Operand)):Az C K fr ops b n al l i Q (Ai C K fr ρ (.build t p) dst ⟨e,h,bs,ds⟩)=BG C K fr ops b n al l i dst e h bs ds Q (Gk (Cx e.get p) (C.T t)):=by
 simp only[Ai,evalOp,AZ]
theorem Pf(t:TypeId)(m:Nat)(p:Array (Nat×Operand)):Az C K fr ops b n al l i Q (Ai C K fr ρ (.buildSlice t m p) dst ⟨e,h,bs,ds⟩)=BG C K fr ops b n al l i dst e h bs ds Q (Bq C.T h.get ρ m (Cx e.get p) (C.T t)):=by
 simp only[Ai,evalOp,AZ]
theorem oj(t:TypeId)(a:Operand):Az C K fr ops b n al l i Q (Ai C K fr ρ (.load t a) dst ⟨e,h,bs,ds⟩)=BG C K fr ops b n al l i dst e h bs ds Q (HL h.get (ev e.get a) (C.T t)):=by
 simp only[Ai,evalOp,AZ]
theorem lY(t:TypeId)(a x:Operand):Az C K fr ops b n al l i Q (Ai C K fr ρ (.store t a x) dst ⟨e,h,bs,ds⟩)=BG C K fr ops b n al l i dst e h bs ds Q (Fj h.get (ev e.get a) (ev e.get x) (C.T t)):=by
 simp only[Ai,evalOp,AZ]
theorem Tp(x:Operand):Az C K fr ops b n al l i Q (Ai C K fr ρ (.nilCheck x) dst ⟨e,h,bs,ds⟩)=BG C K fr ops b n al l i dst e h bs ds Q (EI (ev e.get x)):=by
 simp only[Ai,evalOp,AZ]
theorem jT(op:BinOp)(t:TypeId)(x y:Operand)(u:TypeId):Az C K fr ops b n al l i Q (Ai C K fr ρ (.binOp op t x y u) dst ⟨e,h,bs,ds⟩)=BG C K fr ops b n al l i dst e h bs ds Q ((YH (RG x||RG y) op (ev e.get x) (ev e.get y) (C.T t)).map (⟨·,[]⟩)):=by
 simp only[Ai,evalOp,AZ]
theorem nY(op:UnOp)(t:TypeId)(x:Operand):Az C K fr ops b n al l i Q (Ai C K fr ρ (.unOp op t x) dst ⟨e,h,bs,ds⟩)=BG C K fr ops b n al l i dst e h bs ds Q (Zw op (ev e.get x)):=by
 simp only[Ai,evalOp,AZ]
theorem kQ(t:TypeId)(x:Operand):Az C K fr ops b n al l i Q (Ai C K fr ρ (.makeInterface t x) dst ⟨e,h,bs,ds⟩)=BG C K fr ops b n al l i dst e h bs ds Q (Hi t (ev e.get x) (C.T t)):=by
 simp only[Ai,evalOp,AZ]
theorem eE(x:Operand)(t u:TypeId):Az C K fr ops b n al l i Q (Ai C K fr ρ (.typeAssert x t u true) dst ⟨e,h,bs,ds⟩)=BG C K fr ops b n al l i dst e h bs ds Q (FG u (ev e.get x) (C.T u)):=by
 simp only[Ai,evalOp,AZ]
theorem Vf(f:Fn)(first cap:Array Operand):Az C K fr ops b n al l i Q (Ai C K fr ρ (.makeFunc f first cap) dst ⟨e,h,bs,ds⟩)=BG C K fr ops b n al l i dst e h bs ds Q (Ev f (first.toList.map (ev e.get)) (cap.toList.map (ev e.get))):=by
 simp only[Ai,evalOp,AZ]
theorem Xz(t:TypeId)(r:Option Operand):Az C K fr ops b n al l i Q (Ai C K fr ρ (.makeMap t r) dst ⟨e,h,bs,ds⟩)=BG C K fr ops b n al l i dst e h bs ds Q (Ex ρ r):=by
 simp only[Ai,evalOp,AZ]
theorem dg(t:TypeId)(m k v:Operand):Az C K fr ops b n al l i Q (Ai C K fr ρ (.insert t m k v) dst ⟨e,h,bs,ds⟩)=BG C K fr ops b n al l i dst e h bs ds Q (mapPut C.T h.get (C.T t) (ev e.get m) (ev e.get k) (ev e.get v)):=by
 simp only[Ai,evalOp,AZ]
theorem SQ(t:TypeId)(m k v:Operand):Az C K fr ops b n al l i Q (Ai C K fr ρ (.mapUpdate t m k v) dst ⟨e,h,bs,ds⟩)=BG C K fr ops b n al l i dst e h bs ds Q (mapPut C.T h.get (C.T t) (ev e.get m) (ev e.get k) (ev e.get v)):=by
 simp only[Ai,evalOp,AZ]
theorem gO(t:TypeId)(m k:Operand)(ok:Bool):Az C K fr ops b n al l i Q (Ai C K fr ρ (.lookup t m k ok) dst ⟨e,h,bs,ds⟩)=BG C K fr ops b n al l i dst e h bs ds Q (Da C.T h.get (ev e.get m) (ev e.get k) ok (C.T t)):=by
 simp only[Ai,evalOp,AZ]
theorem Q0(t:TypeId)(x y:Operand):Az C K fr ops b n al l i Q (Ai C K fr ρ (.makeSlice t x y) dst ⟨e,h,bs,ds⟩)=BG C K fr ops b n al l i dst e h bs ds Q (Bw C.T h.get ρ (ev e.get x) (ev e.get y) (C.T t)):=by
 simp only[Ai,evalOp,AZ]
theorem kG(t:TypeId)(x:Operand)(lo hi mx:Option Operand):Az C K fr ops b n al l i Q (Ai C K fr ρ (.slice t x lo hi mx) dst ⟨e,h,bs,ds⟩)=BG C K fr ops b n al l i dst e h bs ds Q (FC C.T h.get (ev e.get x) (lo.map (ev e.get)) (hi.map (ev e.get)) (mx.map (ev e.get)) (C.T t)):=by
 simp only[Ai,evalOp,AZ]
theorem RC(t:TypeId)(x:Operand)(k:Nat):Az C K fr ops b n al l i Q (Ai C K fr ρ (.fieldAddr t x k) dst ⟨e,h,bs,ds⟩)=BG C K fr ops b n al l i dst e h bs ds Q (C5 k (ev e.get x) (C.T t)):=by
 simp only[Ai,evalOp,AZ]
theorem So(t:TypeId)(x y:Operand):Az C K fr ops b n al l i Q (Ai C K fr ρ (.indexAddr t x y) dst ⟨e,h,bs,ds⟩)=BG C K fr ops b n al l i dst e h bs ds Q (CA C.T h.get (ev e.get x) (ev e.get y) (C.T t)):=by
 simp only[Ai,evalOp,AZ]
theorem mI(t:TypeId)(x y:Operand):Az C K fr ops b n al l i Q (Ai C K fr ρ (.index t x y) dst ⟨e,h,bs,ds⟩)=BG C K fr ops b n al l i dst e h bs ds Q (HI (ev e.get x) (ev e.get y) (C.T t)):=by
 simp only[Ai,evalOp,AZ]
theorem bH(x:Operand)(k:Nat):Az C K fr ops b n al l i Q (Ai C K fr ρ (.extract x k) dst ⟨e,h,bs,ds⟩)=BG C K fr ops b n al l i dst e h bs ds Q (Fw k (ev e.get x)):=by
 simp only[Ai,evalOp,AZ]
theorem XE(f:Builtin)(az:Array Operand)(ts:Array TypeId):Az C K fr ops b n al l i Q (Ai C K fr ρ (.call ⟨.builtin f,az,ts⟩) dst ⟨e,h,bs,ds⟩)=BG C K fr ops b n al l i dst e h bs ds Q (ER C.T h.get ρ f (az.toList.map (ev e.get)) ts.toList):=by
 simp only[Ai,Gy,AZ]
theorem mK(x:Operand):Az C K fr ops b n al l i Q (Ai C K fr ρ (.panic x) dst ⟨e,h,bs,ds⟩)=Az C K fr ops b n al l i Q (EA ⟨e,h,bs,ds⟩ (ev e.get x)):=rfl
theorem j8(c:Call):Az C K fr ops b n al l i Q (Ai C K fr ρ (.defer c) dst ⟨e,h,bs,ds⟩)=Az C K fr ops b n al l i Q (E8 fr e.get c dst ⟨e,h,bs,ds⟩):=rfl
def CT(C:Bk)(K:AH)(fr:Fr)(ops:Array Oper)(b n:Nat)(al:Nat→Bool)(l:List Oper)(i:Nat)(az:List AV)(dst:Option Tmp)(e:BI)(h:AB)(bs:Nat)(ds:List Df)(Q:Cq→St→Prop)(r:E (AQ×AB)):Prop:=
 Az C K fr ops b n al l i Q (CP fr az dst ⟨e,h,bs,ds⟩ r)
def M8(C:Bk)(K:AH)(fr:Fr)(ops:Array Oper)(b n:Nat)(al:Nat→Bool)(l:List Oper)(i:Nat)(dst:Option Tmp)(ρ:List Nat)(e:BI)(h:AB)(bs:Nat)(ds:List Df)(Q:Cq→St→Prop)(args:List AV):AV→Prop
 |fv=>Az C K fr ops b n al l i Q (Cr C K fr ρ fv args dst ⟨e,h,bs,ds⟩)
theorem iu(f:Operand)(az:Array Operand)(ts:Array TypeId):Az C K fr ops b n al l i Q (Ai C K fr ρ (.call ⟨.value f,az,ts⟩) dst ⟨e,h,bs,ds⟩)=M8 C K fr ops b n al l i dst ρ e h bs ds Q (az.toList.map (ev e.get)) (ev e.get f):=rfl
def nS:AQ×AB→AQ×AB
 |(.ret v,h)=>(.ret v,h)
 |(.pan v,_)=>(.pan v,[])
def Au(K:AH)(f:FuncId)(xs:List AV)(own:List Nat):E (AQ×AB):=match K (.fn f) xs [] own false none with
 |.ok r=>.ok (nS r)
 |.err l=>.err l
theorem dW{K:AH}{f:FuncId}{xs:List AV}{own:List Nat}{v:AV}{h:AB}(hk:Au K f xs own=.ok (.ret v,h)):K (.fn f) xs [] own false none=.ok (.ret v,h):=by
 unfold Au at hk;split at hk
 .rename_i r hr;obtain⟨o,h'⟩:=r;cases o with
  |ret u=>simp only[nS,E.ok.injEq]at hk;rw[hr,hk]
  |pan u=>simp[nS]at hk
 .cases hk
theorem Li(fr:Fr)(az:List AV)(dst:Option Tmp)(st:St)(f:FuncId)(xs:List AV)(own:List Nat):CP fr az dst st (K (.fn f) xs [] own false none)=CP fr az dst st (Au K f xs own):=by
 unfold Au;cases K (.fn f) xs [] own false none with
 |err l=>rfl
 |ok r=>
  obtain⟨o,h⟩:=r;cases o<;>rfl
def Hr(C:Bk)(K:AH)(fr:Fr)(ops:Array Oper)(b n:Nat)(al:Nat→Bool)(l:List Oper)(i:Nat)(dst:Option Tmp)(ρ:List Nat)(e:BI)(h:AB)(bs:Nat)(ds:List Df)(Q:Cq→St→Prop)(f:FuncId)(az:List AV)(m:Mode):Prop:=
 Az C K fr ops b n al l i Q (Cf K fr ρ f az dst ⟨e,h,bs,ds⟩ m)
theorem d7(f:FuncId)(first cap args:List AV):M8 C K fr ops b n al l i dst ρ e h bs ds Q args (.fn f first cap)=Hr C K fr ops b n al l i dst ρ e h bs ds Q f (first++args++cap) (C.mode f):=by
 simp only[M8,Hr,Cr,Aq]
def Zs(C:Bk)(K:AH)(fr:Fr)(ops:Array Oper)(b n:Nat)(al:Nat→Bool)(l:List Oper)(i:Nat)(dst:Option Tmp)(ρ:List Nat)(e:BI)(h:AB)(bs:Nat)(ds:List Df)(Q:Cq→St→Prop)(f:FuncId)(az:List AV)(own:List Nat):Option (List AV)→Prop
 |some xs=>CT C K fr ops b n al l i az dst e h bs ds Q (K (.fn f) xs [] own false none)
 |none=>False
theorem Tb(f:FuncId)(az:List AV)(hx:(Cn h.get az).isSome):Hr C K fr ops b n al l i dst ρ e h bs ds Q f az .auto=Zs C K fr ops b n al l i dst ρ e h bs ds Q f az [] (Cn h.get az):=by
 obtain⟨xs,hx⟩:=Option.isSome_iff_exists.1 hx;simp only[Hr,Cf,hx,Aq,Zs,CT]
theorem ZC(f:FuncId)(az:List AV)(hx:(Cn h.get az).isSome):Hr C K fr ops b n al l i dst ρ e h bs ds Q f az .own=Zs C K fr ops b n al l i dst ρ e h bs ds Q f az ρ (Cn h.get az):=by
 obtain⟨xs,hx⟩:=Option.isSome_iff_exists.1 hx;simp only[Hr,Cf,hx,Aq,Zs,CT]
theorem Yh(f:FuncId)(az:List AV)(own:List Nat)(xs:List AV):Zs C K fr ops b n al l i dst ρ e h bs ds Q f az own (some xs)=CT C K fr ops b n al l i az dst e h bs ds Q (Au K f xs own):=by
 simp only[Zs,CT,Li]
theorem VG(az:List AV)(v:AV)(h':AB)(hv:flat v=true):CT C K fr ops b n al l i az dst e h bs ds Q (.ok (.ret v,h'))=Dt C K fr ops b n al l (i+1) ⟨Bi e dst v,h,bs,ds⟩ Q:=by
 simp only[CT,CP,Ah,hv,Az]
theorem Yn(az:List AV)(v:AV)(h':AB)(hv:flat v=true):CT C K fr ops b n al l i az dst e h bs ds Q (.ok (.pan v,h'))=(al i=true∧Q (.pan v) ⟨e,h,b+n,ds⟩):=by
 simp only[CT,CP,hv,Az]
theorem bV(az:List AV)(v:AV)(h':AB)(x:Id×Obj)(hv:flat v=false)(hx:A6 v h'=some x):CT C K fr ops b n al l i az dst e h bs ds Q (.ok (.ret v,h'))=Dt C K fr ops b n al l (i+1) ⟨Bi e dst v,x::h,bs,ds⟩ Q:=by
 simp only[CT,CP,Ah,hv,E7,hx,AR,Az]
theorem ac(az:List AV)(v:AV)(h':AB)(hv:flat v=false)(hx:A6 v h'=none):CT C K fr ops b n al l i az dst e h bs ds Q (.ok (.ret v,h'))=(GW fr.prot (az.flatMap (mark h.get))=true∧Dt C K fr ops b n al l (i+1) ⟨Bi e dst v,h'++h.puts (az.flatMap (mark h.get)),bs,ds⟩ Q):=by
 simp only[CT,CP,Ah,hv,E7,hx,AR,BD];cases hw:GW fr.prot (az.flatMap (mark h.get))<;>simp[Az]
end
def VE(h:AB)(π:List Nat)(raw:Bool)(Post:AQ→AB→Prop):Option AV→Prop
 |some v=>match raw with
  |true=>Post (.ret v) h
  |false=>match π with
   |[]=>match QT h.get v with
    |some v'=>Post (.ret v') []
    |none=>False
   |_=>Post (.ret v) h
 |none=>False
def MF(C:Bk)(e:BI)(h:AB)(rs:List ResultVar):Option AV:=match JF (Bu C ⟨e,h,0,[]⟩) rs with
 |some []=>some (.tup [])
 |some [v]=>some v
 |some vs=>some (.tup vs)
 |none=>none
def Gx(C:Bk)(rs:List ResultVar)(π:List Nat)(raw:Bool)(e:BI)(Post:AQ→AB→Prop):E (Option AV×AB)→Prop
 |.ok (none,h)=>VE h π raw Post (MF C e h rs)
 |.ok (some v,h)=>Post (.pan v) h
 |.err _=>False
def VT(C:Bk)(prot:Option (List Nat))(rs:List ResultVar)(π:List Nat)(raw:Bool)(Post:AQ→AB→Prop):Cq→St→Prop
 |.ret,st=>Gx C rs π raw st.env Post (CD C prot st.defs none st.heap)
 |.normal,st=>Gx C rs π raw st.env Post (CD C prot st.defs none st.heap)
 |.pan v,st=>Gx C rs π raw st.env Post (CD C prot st.defs (some v) st.heap)
 |_,_=>False
theorem A0{f:FuncId}{fn:Func}{c:Code}{rs:List ResultVar}{args:List AV}{h:AB}{π:List Nat}{raw:Bool}{prot:Option (List Nat)}{Post:AQ→AB→Prop}(hg:C.good f=true)(hf:P.funcs[f]? =some fn)(hb:fn.body=some c)(hr:fn.results.toList=rs)(hl:Nat.ble args.length fn.ntmps=true)
 (hw:Wp C (KL P C) {f,π,raw,prot,nt:=fn.ntmps} 0 c ⟨Cz 0 args,h,0,[]⟩ (VT C prot rs π raw Post)): ∃o h',KL P C (.fn f) args h π raw prot=.ok (o,h')∧Post o h':=by
 obtain⟨n,o,st',h1,h2⟩:=hw;subst hr;have hres: ∀h'',Fz C fn {st' with heap:=h''}=MF C st'.env h'' fn.results.toList:=fun h''=>by
  unfold Fz MF;have e:Bu C {st' with heap:=h''}=Bu C ⟨st'.env,h'',0,[]⟩:=funext fun r=>by cases r<;>rfl
  rw[e];rfl
 have key: ∀z,Gx C fn.results.toList π raw st'.env Post z→ ∃o h',ND C f fn π raw st' z=.ok (o,h')∧Post o h':=by
  intro z hz;cases z with
  |err l=>exact hz.elim
  |ok r=>
   obtain⟨p,h''⟩:=r;cases p with
   |some v=>exact⟨.pan v,h'',rfl,hz⟩
   |none=>
    simp only[Gx]at hz;simp only[ND,hres];cases hv:MF C st'.env h'' fn.results.toList with
    |none=>rw[hv]at hz;exact hz.elim
    |some v=>
     rw[hv]at hz;simp only[VE]at hz;simp only[Gu];cases raw with
     |true=>exact⟨_,_,rfl,hz⟩
     |false=>
      simp only at hz⊢;split at hz
      .split at hz
       .rename_i v' hv';rw[hv'];exact⟨_,_,rfl,hz⟩
       .exact hz.elim
      .exact⟨_,_,by split<;>first|rfl|contradiction,hz⟩
 have fin: ∃o' h',ep C prot f fn π raw (.ok (o,st'))=.ok (o',h')∧Post o' h':=by
  cases o with
  |exit k=>exact h2.elim
  |ret=>exact key _ h2
  |normal=>exact key _ h2
  |pan v=>exact key _ h2
 obtain⟨o',h',e,hp⟩:=fin;refine⟨o',h',mi hg (n:=n) ?_,hp⟩;unfold KT;simp only[hf,hb,hl,h1];exact e
theorem qx{f:FuncId}{fn:Func}{c:Code}{rs:List ResultVar}{args:List AV}{h:AB}{π:List Nat}{raw:Bool}{prot:Option (List Nat)}{o:AQ}{h0:AB}(hg:C.good f=true)(hf:P.funcs[f]? =some fn)(hb:fn.body=some c)(hr:fn.results.toList=rs)(hl:Nat.ble args.length fn.ntmps=true)
 (hw:Wp C (KL P C) {f,π,raw,prot,nt:=fn.ntmps} 0 c ⟨Cz 0 args,h,0,[]⟩ (VT C prot rs π raw fun o' h'=>o'=o∧h'=h0)):KL P C (.fn f) args h π raw prot=.ok (o,h0):=by
 obtain⟨o',h',e,rfl,rfl⟩:=A0 hg hf hb hr hl hw;exact e
theorem AU{f:FuncId}{fn:Func}{c:Code}{rs:List ResultVar}{args:List AV}{π:List Nat}{r:AQ×AB}(hg:C.good f=true)(hf:P.funcs[f]? =some fn)(hb:fn.body=some c)(hr:fn.results.toList=rs)(hl:Nat.ble args.length fn.ntmps=true)
 (hw:Wp C (KL P C) {f,π,raw:=false,prot:=none,nt:=fn.ntmps} 0 c ⟨Cz 0 args,[],0,[]⟩ (VT C none rs π false fun o' h'=>nS (o',h')=r)):Au (KL P C) f args π=.ok r:=by
 obtain⟨o',h',e,h2⟩:=A0 hg hf hb hr hl hw;unfold Au;rw[e,←h2]
theorem jm(v:AV)(h:AB):nS (.ret v,h)=(.ret v,h):=rfl
theorem lf(v:AV)(h:AB):nS (.pan v,h)=(.pan v,[]):=rfl
def IT(C:Bk)(K:AH)(fr:Fr)(b:Nat)(x:Code)(Q:Cq→St→Prop):Cq→St→Prop
 |.normal,st=>Wp C K fr b (.loop x) st Q
 |o,st=>Q o st
def ZT(C:Bk)(K:AH)(fr:Fr)(b:Nat)(x:Code)(st:St)(Q:Cq→St→Prop):Prop:=Wp C K fr b x st (IT C K fr b x Q)
theorem lM(x:Code)(st:St):Wp C K fr b (.loop x) st Q=ZT C K fr b x (DS C fr b st) Q:=by
 refine propext ⟨fun⟨n,o,st',h,hq⟩=>?_,fun⟨n,o,st',h,hq⟩=>?_⟩
 .cases n with
  |zero=>simp[Ar]at h
  |succ n=>
   simp only[Ar,HK]at h;cases hx:Ar C K fr n b x (DS C fr b st)with
   |err e=>rw[hx]at h;cases h
   |ok r=>
    rw[hx]at h;obtain⟨o1,st1⟩:=r;refine⟨n,o1,st1,hx,?_⟩;cases o1<;>simp only[CN]at h
    .exact⟨n,o,st',h,hq⟩
    all_goals (cases h;exact hq)
 .cases o with
  |normal=>
   obtain⟨m,o2,st2,h2,hq2⟩:=hq;refine⟨max n m+1,o2,st2,?_,hq2⟩;simp only[Ar,HK,JC h (Nat.le_max_left n m),CN,JC h2 (Nat.le_max_right n m)]
  |_=>exact⟨n+1,_,st',by simp only[Ar,HK,h,CN],hq⟩
theorem Pv(x:Code)(st:St):IT C K fr b x Q .normal st=Wp C K fr b (.loop x) st Q:=rfl
theorem UO(x:Code)(k:Nat)(st:St):IT C K fr b x Q (.exit k) st=Q (.exit k) st:=rfl
theorem bJ(x:Code)(st:St):IT C K fr b x Q .ret st=Q .ret st:=rfl
theorem Ys(x:Code)(v:AV)(st:St):IT C K fr b x Q (.pan v) st=Q (.pan v) st:=rfl
theorem B5(x:Code)(st:St):ZT C K fr b x st Q=Wp C K fr b x st (IT C K fr b x Q):=rfl
structure AA(p:Prop):Prop where
 out:p
theorem rounds{α:Type}{x:Code}(S:α→St)(Inv:α→Prop)(m:α→Nat)(a:α)(h0:Inv a)(step: ∀a,Inv a→AA (∀a',m a'<m a→Inv a'→ZT C K fr b x (S a') Q)→Wp C K fr b x (S a) (IT C K fr b x Q)):ZT C K fr b x (S a) Q:=by
 suffices h: ∀k a,m a<k→Inv a→ZT C K fr b x (S a) Q from h _ a (Nat.lt_succ_self _) h0
 intro k;induction k with
 |zero=>intro a ha;omega
 |succ k ih=>exact fun a ha hi=>step a hi ⟨fun a' h1 h2=>ih a' (by omega) h2⟩
end Go.Abs
namespace Go.Abs
variable{P:Program}{C:Bk}{K:AH}{fr:Fr}{b n i:Nat}{Q:Cq→St→Prop}
variable{ops:Array Oper}{al:Nat→Bool}{l:List Oper}{e:BI}{h:AB}{bs:Nat}{ds:List Df}{ps:List (Nat×Nat)}{fps:List Fp}
def HW(e:BI):Option (Option Tmp)→AV
 |some (some t)=>e.get t
 |_=>.undef
def K3(ops:Array Oper)(e:BI)(j:Nat):AV:=HW e ((ops[j]?).map (·.dst))
theorem RJ(e:BI)(t:Tmp):HW e (some (some t))=e.get t:=rfl
theorem UQ(l:List Oper)(e:BI)(j:Nat):K3 l.toArray e j=HW e ((l[j]?).map (·.dst)):=by
 simp only[K3,List.getElem?_toArray]
theorem jH(dst:Option Tmp)(op:Op)(ty:TypeId)(pos:String)(af:Array Edge)(j:Nat)(want:Bool):
 Dt C K fr ops b n al (⟨dst,op,ty,pos,af,some (j,want)⟩::l) i ⟨e,h,bs,ds⟩ Q=CB C K fr ops b n al l i dst op ⟨e,h,bs,ds⟩ want Q (K3 ops e j):=by
 rw[OE];simp only[Bc,I0,K3];cases hj:ops[j]? with
 |none=>simp[HW,CB,Az]
 |some o=>
  cases hd:o.dst with
  |none=>simp[HW,CB,Az,hd]
  |some t=>
   simp only[Option.bind_some,hd,Option.map_some,HW];cases hv:BI.get e t with
   |d x=>cases x with
    |bool c=>
     simp only[CB];cases(c==want)<;>simp only[Az,Ah]
    |_=>rfl
   |tup vs=>cases vs<;>simp only[CB,Az,Ah]
   |_=>rfl
theorem get_cons(k:Nat)(v:AV)(e:BI)(t:Nat):BI.get ((k,v)::e) t=if k=t then v else BI.get e t:=by
 rw[BI.get];cases h:Nat.beq k t with
 |true=>rw[if_pos (Nat.eq_of_beq_eq_true h)]
 |false=>rw[if_neg (Nat.ne_of_beq_eq_false h)]
theorem Yg(e:BI)(t:Tmp)(v:AV):Bi e (some t) v=(t,v)::e:=rfl
theorem aK(e:BI)(v:AV):Bi e none v=e:=rfl
theorem oG(e:Nat→AV)(t:Tmp):ev e (.tmp t)=e t:=rfl
theorem lF(e:Nat→AV)(f:FuncId):ev e (.func f)=.fn f [] []:=rfl
theorem pE(e:Nat→AV)(k:IntKind)(m:Int):ev e (.const (.int k m))=.d (.int k m):=rfl
theorem iM(e:Nat→AV)(c:Bool):ev e (.const (.bool c))=.d (.bool c):=rfl
theorem Yl(e:Nat→AV)(s:ByteArray):ev e (.const (.string s))=.d (.str s):=rfl
theorem kK(e:Nat→AV):ev e (.const (.slice none 0 0))=.nils:=rfl
theorem jL(e:Nat→AV):ev e (.const (.pointer none))=.d .nilp:=rfl
theorem jn(e:Nat→AV):ev e (.const .nilFunc)=.d .nilf:=rfl
theorem mD(e:Nat→AV):ev e (.const .nilIface)=.d .nili:=rfl
theorem mO(e:Nat→AV):ev e (.const (.map none))=.d .nilm:=rfl
theorem Rq(δ:AB):GW none δ=true:=by cases δ<;>rfl
theorem qq(k:IntKind)(a c:Int):Dw .add k a c=some (.d (.int k (k.wrap (a+c)))):=rfl
theorem qY(k:IntKind)(a c:Int):Dw .sub k a c=some (.d (.int k (k.wrap (a-c)))):=rfl
theorem rK(k:IntKind)(a c:Int):Dw .mul k a c=some (.d (.int k (k.wrap (a*c)))):=rfl
theorem qQ(k:IntKind)(a c:Int):Dw .eql k a c=some (.d (.bool (decide (a=c)))):=by
 simp only[Dw];congr
theorem qN(k:IntKind)(a c:Int):Dw .neq k a c=some (.d (.bool (!decide (a=c)))):=by
 simp only[Dw];congr
theorem rL(k:IntKind)(a c:Int):Dw .lss k a c=some (.d (.bool (decide (a<c)))):=rfl
theorem qS(k:IntKind)(a c:Int):Dw .leq k a c=some (.d (.bool (decide (a≤c)))):=rfl
theorem qM(k:IntKind)(a c:Int):Dw .gtr k a c=some (.d (.bool (decide (c<a)))):=rfl
theorem qF(k:IntKind)(a c:Int):Dw .geq k a c=some (.d (.bool (decide (c≤a)))):=rfl
theorem qZ(k:IntKind)(a c:Int):Dw .rem k a c=if c=0 then none else some (.d (.int k (a.tmod c))):=rfl
theorem qJ(op:BinOp)(k:IntKind)(a c:Int)(t:Option TI):F2 op (.d (.int k a)) (.d (.int k c)) t=Dw op k a c:=by
 simp only[F2,if_true]
theorem Yq{x y:Code}{st:St}{p:Prop} [Decidable p](h1:p→Wp C K fr b x st Q)(h2: ¬p→Wp C K fr b y st Q):H5 C K fr b x y st Q (.d (.bool (decide p))):=by
 by_cases hp:p
 .rw[decide_eq_true hp];exact h1 hp
 .rw[decide_eq_false hp];exact h2 hp
theorem ZB(x y:Code)(st:St)(t:Bool):H5 C K fr b x y st Q (.d (.bool (!t)))=H5 C K fr b y x st Q (.d (.bool t)):=by
 cases t<;>rfl
theorem U5{dst:Option Tmp}{op:Op}{st:St}{want:Bool}{p:Prop} [Decidable p](h1:p→CB C K fr ops b n al l i dst op st want Q (.d (.bool true)))(h2: ¬p→CB C K fr ops b n al l i dst op st want Q (.d (.bool false))):CB C K fr ops b n al l i dst op st want Q (.d (.bool (decide p))):=by
 by_cases hp:p
 .rw[decide_eq_true hp];exact h1 hp
 .rw[decide_eq_false hp];exact h2 hp
theorem WD(dst:Option Tmp)(op:Op)(want:Bool):CB C K fr ops b n al l i dst op ⟨e,h,bs,ds⟩ want Q (.tup [])=Dt C K fr ops b n al l (i+1) ⟨Bi e dst (.tup []),h,bs,ds⟩ Q:=rfl
def fh(C:Bk)(K:AH)(fr:Fr)(ops:Array Oper)(b n id:Nat)(l:List Oper)(st:St)(Q:Cq→St→Prop):List (Nat×Nat)→Prop
 |[]=>Dt C K fr ops b n (fun i=>C.alone fr.f id i) l 0 st Q
 |p::ps=>ET C K fr ops b n (fun i=>C.alone fr.f id i) (p::ps) [] l 0 st Q
theorem fU(id:Nat)(ops:Array Oper)(e:BI)(h:AB)(bs:Nat)(ds:List Df):Wp C K fr b (.region id ops true) ⟨e,h,bs,ds⟩ Q=fh C K fr ops bs ops.size id ops.toList ⟨e,h,bs,ds⟩ Q (C.pairs fr.f id):=by
 cases hp:C.pairs fr.f id with
 |nil=>rw[cQ id ops e h bs ds hp];rfl
 |cons p ps=>rw[jf id ops e h bs ds hp];rfl
theorem bB(id:Nat)(st:St):fh C K fr ops b n id l st Q []=Dt C K fr ops b n (fun i=>C.alone fr.f id i) l 0 st Q:=rfl
theorem Tm(id:Nat)(st:St)(p:Nat×Nat):fh C K fr ops b n id l st Q (p::ps)=ET C K fr ops b n (fun i=>C.alone fr.f id i) (p::ps) [] l 0 st Q:=rfl
theorem eg{prot:Option (List Nat)}{rs:List ResultVar}{π:List Nat}{raw:Bool}{Post:AQ→AB→Prop}:VT C prot rs π raw Post .ret ⟨e,h,bs,ds⟩=Gx C rs π raw e Post (CD C prot ds none h):=rfl
theorem Qn{prot:Option (List Nat)}{rs:List ResultVar}{π:List Nat}{raw:Bool}{Post:AQ→AB→Prop}:VT C prot rs π raw Post .normal ⟨e,h,bs,ds⟩=Gx C rs π raw e Post (CD C prot ds none h):=rfl
theorem eW{prot:Option (List Nat)}{rs:List ResultVar}{π:List Nat}{raw:Bool}{Post:AQ→AB→Prop}(v:AV):VT C prot rs π raw Post (.pan v) ⟨e,h,bs,ds⟩=Gx C rs π raw e Post (CD C prot ds (some v) h):=rfl
theorem Zr(prot:Option (List Nat))(p:Option AV)(h:AB):CD C prot [] p h=.ok (p,h):=rfl
theorem MY(prot:Option (List Nat))(p:Option AV)(h:AB)(id:Id)(l:List Df):CD C prot (.mark id::l) p h=CD C prot l p h:=rfl
theorem VL{rs:List ResultVar}{π:List Nat}{raw:Bool}{Post:AQ→AB→Prop}:Gx C rs π raw e Post (.ok (none,h))=VE h π raw Post (MF C e h rs):=rfl
theorem WG{rs:List ResultVar}{π:List Nat}{raw:Bool}{Post:AQ→AB→Prop}(v:AV):Gx C rs π raw e Post (.ok (some v,h))=Post (.pan v) h:=rfl
theorem ft{π:List Nat}{Post:AQ→AB→Prop}(v:AV):VE h π true Post (some v)=Post (.ret v) h:=rfl
theorem be{k:Nat}{π:List Nat}{Post:AQ→AB→Prop}(v:AV):VE h (k::π) false Post (some v)=Post (.ret v) h:=rfl
def qU(Post:AQ→AB→Prop):Option AV→Prop
 |some v=>Post (.ret v) []
 |none=>False
theorem hZ{Post:AQ→AB→Prop}(v:AV):VE h [] false Post (some v)=qU Post (QT h.get v):=by
 simp only[VE];cases QT h.get v<;>rfl
theorem Xt{Post:AQ→AB→Prop}(v:AV):qU Post (some v)=Post (.ret v) []:=rfl
theorem ZA:MF C e h []=some (.tup []):=rfl
theorem ez(t:Tmp):MF C e h [.tmp t]=some (e.get t):=rfl
theorem aQ(r r':ResultVar)(rs:List ResultVar):MF C e h (r::r'::rs)=(JF (Bu C ⟨e,h,0,[]⟩) (r::r'::rs)).map .tup:=by
 unfold MF;simp only[JF];cases Bu C ⟨e,h,0,[]⟩ r with
 |none=>rfl
 |some y=>cases Bu C ⟨e,h,0,[]⟩ r' with
  |none=>rfl
  |some z=>cases JF (Bu C ⟨e,h,0,[]⟩) rs<;>rfl
theorem bN(a:Tmp)(t:TypeId):MF C e h [.cell a t]=(C.T t).bind fun i=>F4 h.get i (e.get a):=by
 unfold MF;simp only[JF,Bu];cases(C.T t).bind fun i=>F4 h.get i (e.get a)<;>rfl
theorem Nv(t:Tmp):Bu C ⟨e,h,bs,ds⟩ (.tmp t)=some (e.get t):=rfl
theorem NA(a:Tmp)(t:TypeId):Bu C ⟨e,h,bs,ds⟩ (.cell a t)=(C.T t).bind fun i=>F4 h.get i (e.get a):=rfl
theorem ci{α β:Type}(f:α→Option β):JF f []=some []:=rfl
theorem bW{α β:Type}(f:α→Option β)(x:α)(l:List α):JF f (x::l)=(f x).bind fun y=>(JF f l).map (y:: ·):=by
 simp only[JF];cases f x with
 |none=>rfl
 |some y=>cases JF f l<;>rfl
theorem Y4(dst:Option Tmp)(op:Op)(st:St)(t:Bool):CB C K fr ops b n al l i dst op st true Q (.d (.bool (!t)))=CB C K fr ops b n al l i dst op st false Q (.d (.bool t)):=by
 cases t<;>rfl
theorem bU(dst:Option Tmp)(op:Op)(st:St)(t:Bool):CB C K fr ops b n al l i dst op st false Q (.d (.bool (!t)))=CB C K fr ops b n al l i dst op st true Q (.d (.bool t)):=by
 cases t<;>rfl
theorem mE(g:G)(vs:List AV):QT g (.tup vs)=(Cn g vs).map .tup:=rfl
theorem rG(g:G)(x:AN):QT g (.d x)=some (.d x):=rfl
theorem im(g:G)(cs:List AV):QT g (.agg cs)=(Ek g cs).map .agg:=rfl
theorem gR(g:G):QT g .nils=some (.d (.lst [])):=rfl
theorem jy(g:G):QT g .emp=some (.d (.lst [])):=rfl
theorem iH(g:G)(id:Id)(off m:Nat):QT g (.osl id off m)=(DM g (.osl id off m)).map .d:=rfl
theorem is_self: ∀(a:Id),Id.is a a=true
 |[]=>rfl
 |n::l=>by simp[Id.is,is_self l]
theorem jJ(n m:Nat)(l k:Id):Id.is (n::l) (m::k)=if n=m then Id.is l k else false:=by
 rw[Id.is];cases h:Nat.beq n m with
 |true=>rw[if_pos (Nat.eq_of_beq_eq_true h)]
 |false=>rw[if_neg (Nat.ne_of_beq_eq_false h)]
theorem Qw(m:Nat)(k:Id):Id.is [] (m::k)=false:=rfl
theorem Rg(m:Nat)(k:Id):Id.is (m::k) []=false:=rfl
theorem c8(id:Id):AB.get [] id=none:=rfl
theorem BA(k:Id)(o:Obj)(h:AB)(id:Id):AB.get ((k,o)::h) id=if Id.is k id=true then some o else AB.get h id:=by
 rw[AB.get];cases Id.is k id<;>rfl
theorem WY(id:Id)(o:Obj):AB.put [] id o=[(id,o)]:=rfl
theorem QY(k:Id)(x:Obj)(h:AB)(id:Id)(o:Obj):AB.put ((k,x)::h) id o=if Id.is k id=true then(k,o)::h else(k,x)::AB.put h id o:=by
 rw[AB.put];cases Id.is k id<;>rfl
theorem puts_cons(h:AB)(p:Id×Obj)(δ:AB):AB.puts h (p::δ)=AB.puts (h.put p.1 p.2) δ:=rfl
theorem puts_nil(h:AB):AB.puts h []=h:=rfl
def QB(π:List Nat)(e:BI)(h:AB)(l:List Id):St:=
 {env:=e.map fun p=>(p.1,GQ (Cb π l 0) p.2),heap:=CH h (Cb π l 0) l,base:=l.length,defs:=[]}
def Hx:BI→List Id
 |[]=>[]
 |p::e=>AE p.2++Hx e
theorem ii(e:BI):(e.flatMap fun p=>AE p.2)=Hx e:=by
 induction e with
 |nil=>rfl
 |cons p e ih=>rw[List.flatMap_cons,ih];rfl
def JL(e:BI):List Nat→BI
 |[]=>[]
 |t::l=>(t,e.get t)::JL e l
theorem NG(e:BI)(l:List Nat):(l.map fun t=>(t,e.get t))=JL e l:=by
 induction l with
 |nil=>rfl
 |cons p e ih=>rw[List.map_cons,ih];rfl
def JR(π:List Nat)(h:AB)(e:BI):St:=QB π e h (BU h 1000 (DQ [] (Hx e)) 0)
theorem Kt(f:FuncId)(π:List Nat)(prot:Option (List Nat))(rnd:Bool)(nt:Nat):DS C ⟨f,π,false,prot,rnd,nt⟩ b ⟨e,h,bs,[]⟩=JR π h (JL e (C.live f b)):=by
 simp only[DS,NG,ii,JR,QB];rfl
theorem bE(f:FuncId)(π:List Nat)(prot:Option (List Nat))(rnd:Bool)(nt:Nat):DS C ⟨f,π,true,prot,rnd,nt⟩ b ⟨e,h,bs,ds⟩=⟨JL e (C.live f b),h,bs,ds⟩:=by
 simp only[DS,NG];rfl
theorem Vi(d:Df):DS C fr b ⟨e,h,bs,d::ds⟩=⟨JL e (C.live fr.f b),h,bs,d::ds⟩:=by
 simp only[DS,NG,List.isEmpty_cons,Bool.not_false,Bool.or_true,if_true]
theorem dy(l:List Id)(id:Id):Hq l id=if (l.any (Id.is id))=true then l else l++[id]:=by
 rw[Hq];cases l.any (Id.is id)<;>rfl
theorem em(h:AB)(n:Nat)(l:List Id)(i:Nat):BU h (n+1) l i=match l[i]? with
 |some id=>BU h n (DQ l (Eg (h.get id))) (i+1)
 |none=>l:=rfl
def Nk(id:Id):Nat:=match id with|0::_=>0|_=>1
theorem NI(π:List Nat)(x:Id)(r:List Id)(n:Nat)(id:Id):Cb π (x::r) n id=if Id.is x id=true then some (Nk id::n::π)else Cb π r (n+1) id:=by
 have:Cb π (x::r) n id=match Id.is x id with|true=>some (Nk id::n::π)|false=>Cb π r (n+1) id:=by
  conv=>lhs;unfold Cb
  unfold Nk;cases id with
  |nil=>rfl
  |cons a l=>cases a<;>rfl
 rw[this];cases Id.is x id<;>rfl
theorem ZZ(l:Id):Nk (0::l)=0:=rfl
theorem Yk(l:Id):Nk (1::l)=1:=rfl
def MA(sz:Nat):Option (List AN)→Option Bf
 |some c=>if c.length=sz then some ⟨.iptr c,[]⟩else none
 |none=>none
theorem ij(g:G)(m:Int)(es:List (List AN))(j:TI)(hm:0≤m):JJ g m (.d (.lst es)) j=MA j.size es[m.toNat]? :=by
 simp only[JJ,if_pos hm];cases es[m.toNat]? with
 |none=>rfl
 |some c=>
  simp only[MA];cases h:Nat.beq c.length j.size with
  |true=>rw[if_pos (Nat.eq_of_beq_eq_true h)]
  |false=>rw[if_neg (Nat.ne_of_beq_eq_false h)]
theorem ip(g:G)(m:Int)(id:Id)(off len:Nat)(j:TI)(hm:0≤m):JJ g m (.osl id off len) j=if m.toNat<len then(match g id with
        |some (.darr sz es)=>if sz=j.size∧off+m.toNat<es.length then some ⟨.eptr id (off+m.toNat) 0,[]⟩else none
        |some (.fro sz es)=>if sz=j.size∧off+m.toNat<es.length then some ⟨.eptr id (off+m.toNat) 0,[]⟩else none
        |some (.arr sz es)=>if sz=j.size∧off+m.toNat<es.length then some ⟨.eptr id (off+m.toNat) 0,[]⟩else none
        |_=>none)else none:=by
 simp only[JJ,if_pos hm];rfl
theorem Z5(sz:Nat)(c:List AN):MA sz (some c)=if c.length=sz then some ⟨.iptr c,[]⟩else none:=rfl
theorem Yc{s:ByteArray}{j:Nat}{dst:Option Tmp}{f:UInt8→Bf}(hj:j<s.data.toList.length)(hx: ∀x,s.data.toList[j]? =some x→BG C K fr ops b n al l i dst e h bs ds Q (some (f x))):BG C K fr ops b n al l i dst e h bs ds Q (Option.map f s.data.toList[j]?):=by
 have:=hx s.data.toList[j] (List.getElem?_eq_getElem hj)
 rwa [List.getElem?_eq_getElem hj]
theorem YA{α:Type}{f:α→List AN}{l':List α}{sz j:Nat}{dst:Option Tmp}(hj:j<l'.length)(hx: ∀x,l'[j]? =some x→BG C K fr ops b n al l i dst e h bs ds Q (MA sz (some (f x)))):BG C K fr ops b n al l i dst e h bs ds Q (MA sz (Option.map f l'[j]?)):=by
 have:=hx l'[j] (List.getElem?_eq_getElem hj)
 rwa [List.getElem?_eq_getElem hj]
theorem pk(g:G)(x:AN):D7 g (.d x)=some x:=rfl
theorem XY(g:G):D7 g .nils=some (.lst []):=rfl
theorem fT(g:G):D7 g .emp=some (.lst []):=rfl
theorem pj(g:G)(x:AN):DM g (.d x)=some x:=rfl
theorem Z6(g:G):DM g .nils=some (.lst []):=rfl
theorem gC(g:G):DM g .emp=some (.lst []):=rfl
theorem fo(g:G)(id:Id)(off:Nat):DM g (.ptr id off)=none:=rfl
theorem jX(g:G)(id:Id):DM g (.mp id)=none:=rfl
theorem fN(g:G)(id:Id):DM g (.yld id)=none:=rfl
theorem jF(g:G)(f:FuncId)(a c:List AV):DM g (.fn f a c)=none:=rfl
def SZ(g:G)(off m:Nat):Option Obj→Option AN
 |some (.arr _ es)=>(CC g es).bind fun ds=>(Gq ds off m).map .lst
 |some (.darr _ es)=>(Gq es off m).map .lst
 |some (.fro _ es)=>(Gq es off m).map .lst
 |_=>none
theorem bg(g:G)(id:Id)(off m:Nat):DM g (.osl id off m)=SZ g off m (g id):=by
 simp only[DM,D7];cases h:g id with
 |none=>rfl
 |some o=>cases o with
  |arr sz es=>
   simp only[SZ];cases CC g es<;>rfl
  |_=>rfl
theorem aY(g:G)(off m sz:Nat)(es:List (List AV)):SZ g off m (some (.arr sz es))=(CC g es).bind fun ds=>(Gq ds off m).map .lst:=rfl
theorem VX(g:G)(off m sz:Nat)(es:List (List AN)):SZ g off m (some (.darr sz es))=(Gq es off m).map .lst:=rfl
theorem XX(g:G)(off m sz:Nat)(es:List (List AN)):SZ g off m (some (.fro sz es))=(Gq es off m).map .lst:=rfl
theorem YY(g:G):Ek g []=some []:=rfl
def V3:Option AN→Option (List AV)→Option (List AV)
 |some x,some xs=>some (.d x::xs)
 |_,_=>none
theorem Q5(x:AN)(xs:List AV):V3 (some x) (some xs)=some (.d x::xs):=rfl
theorem SL(xs:Option (List AV)):V3 none xs=none:=rfl
theorem Tn(g:G)(v:AV)(vs:List AV):Ek g (v::vs)=V3 (DM g v) (Ek g vs):=by
 simp only[Ek];cases DM g v<;>cases Ek g vs<;>rfl
def Ww:Option AV→Option (List AV)→Option (List AV)
 |some x,some xs=>some (x::xs)
 |_,_=>none
theorem Vu(x:AV)(xs:List AV):Ww (some x) (some xs)=some (x::xs):=rfl
theorem Uw(xs:Option (List AV)):Ww none xs=none:=rfl
theorem SD(x:Option AV):Ww x none=none:=by cases x<;>rfl
theorem bz(g:G):Cn g []=some []:=by simp only[Cn]
theorem ah(g:G)(v:AV)(vs:List AV):Cn g (v::vs)=Ww (DW g v) (Cn g vs):=by
 simp only[Cn];cases DW g v<;>cases Cn g vs<;>rfl
theorem nH(g:G)(x:AN):DW g (.d x)=some (.d x):=rfl
theorem eI(g:G)(cs:List AV):DW g (.agg cs)=(Ek g cs).map .agg:=rfl
theorem Yz(g:G):DW g .nils=some (.d (.lst [])):=rfl
theorem fb(g:G):DW g .emp=some (.d (.lst [])):=rfl
theorem fQ(g:G)(id:Id)(off:Nat):DW g (.ptr id off)=none:=rfl
theorem jM(g:G)(id:Id):DW g (.mp id)=none:=rfl
theorem eA(g:G)(id:Id):DW g (.yld id)=none:=rfl
theorem l8(g:G)(f:FuncId):DW g (.fn f [] [])=some (.fn f [] []):=rfl
theorem hY(g:G)(id:Id)(off m:Nat):DW g (.osl id off m)=(DM g (.osl id off m)).map .d:=rfl
theorem TM(g:G)(t:TypeId)(cs:List AV):DW g (.iface t (.agg cs))=(Ek g cs).map fun c=>.iface t (.agg c):=rfl
theorem Sw(g:G)(t:TypeId)(x:AN):DW g (.iface t (.d x))=some (.iface t (.d x)):=rfl
theorem pM(x:AN):flat (.d x)=Cw x:=by cases x<;>rfl
theorem ZG:flat .nils=true:=by simp[flat]
theorem gN(cs:List AV):flat (.agg cs)=Dr cs:=by cases cs<;>rfl
theorem bq(cs:List AV):flat (.tup cs)=Dr cs:=by cases cs<;>rfl
theorem gm(id:Id)(off m:Nat):flat (.osl id off m)=false:=by cases id<;>rfl
theorem eM(id:Id)(off:Nat):flat (.ptr id off)=false:=by cases id<;>rfl
theorem Sj(t:TypeId)(cs:List AV):flat (.iface t (.agg cs))=Dr cs:=by cases cs<;>rfl
theorem Qb(t:TypeId)(x:AN):flat (.iface t (.d x))=Cw x:=by cases x<;>rfl
theorem Y0:Dr []=true:=rfl
theorem jb(x:AN)(vs:List AV):Dr (.d x::vs)=(Cw x&&Dr vs):=rfl
theorem Za(x:List AV)(vs:List AV):Dr (.agg x::vs)=false:=by simp only[Dr]
theorem aB(id:Id)(off m:Nat)(vs:List AV):Dr (.osl id off m::vs)=false:=by simp only[Dr]
theorem UX(vs:List AV):Dr (.nils::vs)=false:=by simp only[Dr]
theorem jg(id:Id):flat (.mp id)=false:=by simp only[flat]
theorem ku(f:FuncId)(a c:List AV):flat (.fn f a c)=false:=by simp only[flat]
theorem Sx(vs:List AV)(h:AB):A6 (.tup vs) h=none:=by simp only[A6]
theorem RA(vs:List AV)(h:AB):A6 (.agg vs) h=none:=by simp only[A6]
theorem RV(id:Id)(off:Nat)(h:AB):A6 (.ptr id off) h=none:=by simp only[A6]
theorem Tu(id:Id)(h:AB):A6 (.mp id) h=none:=by simp only[A6]
theorem Zv(x:AN)(h:AB):A6 (.d x) h=none:=by simp only[A6]
theorem Vg(f:FuncId)(a c:List AV)(h:AB):A6 (.fn f a c) h=none:=by simp only[A6]
theorem Y6(k:IntKind)(m:Int):Cw (.int k m)=true:=rfl
theorem Tf(c:Bool):Cw (.bool c)=true:=rfl
theorem YI(c:ByteArray):Cw (.str c)=true:=rfl
theorem YX(c:List (List AN)):Cw (.lst c)=false:=rfl
theorem U9:Cw .nilp=true:=rfl
theorem TV:Cw .nili=true:=rfl
theorem Vk:Cw .nilf=true:=rfl
theorem V6:Cw .nilm=true:=rfl
theorem aE(cs:List AV):AV.cells (.agg cs)=cs:=rfl
theorem iQ(x:AN):AV.cells (.d x)=[.d x]:=rfl
theorem Ty:AV.cells .nils=[.nils]:=rfl
theorem Zg:AV.cells .emp=[.emp]:=rfl
theorem YB(id:Id)(off m:Nat):AV.cells (.osl id off m)=[.osl id off m]:=rfl
theorem Zy(id:Id)(off:Nat):AV.cells (.ptr id off)=[.ptr id off]:=rfl
theorem UJ(id:Id)(k off:Nat):AV.cells (.eptr id k off)=[.eptr id k off]:=rfl
theorem eO(f:FuncId)(a c:List AV):AV.cells (.fn f a c)=[.fn f a c]:=rfl
theorem fV(id:Id):AV.cells (.mp id)=[.mp id]:=rfl
theorem Rv(t:TypeId)(v:AV):AV.cells (.iface t v)=[.iface t v]:=rfl
theorem TX(c:List AN):AV.cells (.iptr c)=[.iptr c]:=rfl
theorem nl(x:AN):AV.isCell (.d x)=true:=rfl
theorem Xf:AV.isCell .nils=true:=rfl
theorem cz:AV.isCell .emp=true:=rfl
theorem fz(id:Id)(off m:Nat):AV.isCell (.osl id off m)=true:=rfl
theorem ce(id:Id)(off:Nat):AV.isCell (.ptr id off)=true:=rfl
theorem bQ(id:Id)(k off:Nat):AV.isCell (.eptr id k off)=true:=rfl
theorem jP(f:FuncId)(a c:List AV):AV.isCell (.fn f a c)=true:=rfl
theorem lk(id:Id):AV.isCell (.mp id)=true:=rfl
theorem V5(t:TypeId)(v:AV):AV.isCell (.iface t v)=true:=rfl
theorem ot(a c:List AV)(i:TI):F2 .eql (.agg a) (.agg c) (some i)=(GR i.kind (.agg a) (.agg c)).map fun t=>.d (.bool t):=by
 simp only[F2];cases GR i.kind (.agg a) (.agg c)<;>rfl
theorem om(a c:List AV)(i:TI):F2 .neq (.agg a) (.agg c) (some i)=(GR i.kind (.agg a) (.agg c)).map fun t=>.d (.bool (!t)):=by
 simp only[F2];cases GR i.kind (.agg a) (.agg c)<;>rfl
theorem ae(ks:List TK)(a c:List AV):GR (.flat ks) (.agg a) (.agg c)=C7 ks a c:=rfl
theorem S5:C7 [] [] []=some true:=rfl
def qW:Option Bool→Option Bool→Option Bool
 |some a,some c=>some (a&&c)
 |_,_=>none
theorem Xd(a c:Bool):qW (some a) (some c)=some (a&&c):=rfl
theorem QG(t:TK)(ts:List TK)(x y:AV)(xs ys:List AV):C7 (t::ts) (x::xs) (y::ys)=qW (Ei t x y) (C7 ts xs ys):=by
 simp only[C7];cases Ei t x y<;>cases C7 ts xs ys<;>rfl
theorem Vq(k:IntKind)(a c:Int):Ei .int (.d (.int k a)) (.d (.int k c))=some (decide (a=c)):=by
 simp only[Ei,if_true];congr
theorem S6(a c:Bool):Ei .bool (.d (.bool a)) (.d (.bool c))=some (a==c):=rfl
theorem UL(a c:ByteArray):Ei .str (.d (.str a)) (.d (.str c))=some (a==c):=rfl
theorem pp(a c:ByteArray)(i:TI):F2 .lss (.d (.str a)) (.d (.str c)) (some i)=some (.d (.bool (Op.bytesLess a.toList c.toList))):=by
 simp only[F2];cases GR i.kind (.d (.str a)) (.d (.str c))<;>rfl
theorem kf(a c:ByteArray)(i:TI):F2 .leq (.d (.str a)) (.d (.str c)) (some i)=some (.d (.bool (Op.bytesLess a.toList c.toList||a.toList==c.toList))):=by
 simp only[F2];cases GR i.kind (.d (.str a)) (.d (.str c))<;>rfl
theorem pS(a c:ByteArray)(i:TI):F2 .eql (.d (.str a)) (.d (.str c)) (some i)=(GR i.kind (.d (.str a)) (.d (.str c))).map fun t=>.d (.bool t):=by
 simp only[F2];cases GR i.kind (.d (.str a)) (.d (.str c))<;>rfl
theorem mT(a c:Bool)(i:TI):F2 .eql (.d (.bool a)) (.d (.bool c)) (some i)=(GR i.kind (.d (.bool a)) (.d (.bool c))).map fun t=>.d (.bool t):=by
 simp only[F2];cases GR i.kind (.d (.bool a)) (.d (.bool c))<;>rfl
theorem bv(t:TypeId)(v:AV)(i:TI):F2 .neq (.iface t v) (.d .nili) (some i)=(GR i.kind (.iface t v) (.d .nili)).map fun t=>.d (.bool (!t)):=by
 simp only[F2];cases GR i.kind (.iface t v) (.d .nili)<;>rfl
theorem YW(v:Value):RG (.const v)=true:=rfl
theorem ll(t:Tmp):RG (.tmp t)=false:=rfl
theorem gl(f:FuncId):RG (.func f)=false:=rfl
theorem kj(c:Bool)(op:BinOp)(x y:AV)(t:Option TI):YH c op x y t=qz (F2 op x y t) (fI c op x y t):=rfl
theorem bn(v:AV)(r:Option AV):qz (some v) r=some v:=rfl
theorem fx(r:Option AV):qz none r=r:=rfl
def o7:TK→BinOp→Option AV
 |.iface,.eql=>some (.d (.bool true))
 |.iface,.neq=>some (.d (.bool false))
 |_,_=>none
theorem cV:o7 .iface .eql=some (.d (.bool true)):=rfl
theorem cB:o7 .iface .neq=some (.d (.bool false)):=rfl
theorem cC(op:BinOp)(i:TI):fI true op (.d .nili) (.d .nili) (some i)=o7 i.kind op:=by
 obtain⟨k⟩:=i;cases k<;>cases op<;>rfl
theorem pT(op:BinOp)(i:TI):F2 op (.d .nili) (.d .nili) (some i)=none:=by
 obtain⟨k⟩:=i;cases k<;>cases op<;>rfl
theorem b8(a c:ByteArray):GR .str (.d (.str a)) (.d (.str c))=some (a==c):=rfl
theorem bM(a c:Bool):GR .bool (.d (.bool a)) (.d (.bool c))=some (a==c):=rfl
theorem VV(t:TypeId)(v:AV):GR .iface (.iface t v) (.d .nili)=some false:=rfl
theorem jk(f:FuncId)(a c:List AV):GR .func (.fn f a c) (.d .nilf)=some false:=rfl
theorem ZK:GR .func (.d .nilf) (.d .nilf)=some true:=rfl
theorem aW(g:G)(t:TypeId)(v:AV):QT g (.iface t v)=DW g (.iface t v):=by simp only[QT]
theorem jo(g:G)(id:Id)(off:Nat):QT g (.ptr id off)=none:=rfl
attribute [go_sem] pp kf pS mT bv YW ll gl kj bn fx cV cB cC pT b8 bM VV jk ZK aW jo
attribute [go_sem] ot om ae S5 Xd QG Vq S6 UL
theorem El(a c:Nat):Nat.ble a c=decide (a≤c):=by
 cases h:Nat.ble a c with
 |true=>exact(decide_eq_true (Nat.le_of_ble_eq_true h)).symm
 |false=>exact(decide_eq_false (fun h1=>by rw[Nat.ble_eq_true_of_le h1]at h;cases h)).symm
theorem P2(a c:Nat):Nat.blt a c=decide (a<c):=El (a+1) c
theorem Ff(a c:Nat):Nat.beq a c=decide (a=c):=by
 cases h:Nat.beq a c with
 |true=>exact(decide_eq_true (Nat.eq_of_beq_eq_true h)).symm
 |false=>exact(decide_eq_false (Nat.ne_of_beq_eq_false h)).symm
theorem AF{a:Nat}(h:a≤1073741824):(a≤Ay)=True:=eq_true (by unfold Ay;omega)
attribute [go_sem] El P2 AF Ea List.replicate_succ List.replicate_zero List.flatten_cons List.flatten_nil Bool.and_self
theorem SE(t:TypeId)(u:AV)(hu:flat (.iface t u)=true):Az C K fr ops b n al l i Q (EA ⟨e,h,bs,ds⟩ (.iface t u))=(al i=true∧Q (.pan (.iface t u)) ⟨e,h,b+n,ds⟩):=by
 simp only[EA,hu,Az]
def BR(v:AV)(t:Bool):E (AQ×AB):=if t=true then .ok (.ret (.tup []),[])else .ok (.pan v,[])
theorem JV(v:AV):BR v true=.ok (.ret (.tup []),[]):=rfl
theorem Ii(v:AV):BR v false=.ok (.pan v,[]):=rfl
theorem Te{dst:Option Tmp}{az:List AV}{v:AV}{t:Bool}(h1:t=true→CT C K fr ops b n al l i az dst e h bs ds Q (BR v true))(h2:t=false→CT C K fr ops b n al l i az dst e h bs ds Q (BR v false)):CT C K fr ops b n al l i az dst e h bs ds Q (BR v t):=by
 cases t
 .exact h2 rfl
 .exact h1 rfl
theorem RM{dst:Option Tmp}{az:List AV}{v:AV}{p:Prop} [Decidable p](h1:p→CT C K fr ops b n al l i az dst e h bs ds Q (BR v true))(h2: ¬p→CT C K fr ops b n al l i az dst e h bs ds Q (BR v false)):CT C K fr ops b n al l i az dst e h bs ds Q (BR v (decide p)):=by
 by_cases hp:p
 .rw[decide_eq_true hp];exact h1 hp
 .rw[decide_eq_false hp];exact h2 hp
attribute [go_sem] Nat.add_assoc
attribute [go_sem] jm lf Prod.mk.injEq SE JV Ii Yn ac
attribute [go_sem] nF lV gM iL pZ it Z7 SC Xk d8 gd Nr WH Tx Qt Va RT eo Xl jH bS XJ aJ Yp nX dc oW jR qO kY Pf oj lY Tp jT nY kQ eE Vf Xz dg SQ gO Q0 kG RC So mI bH XE mK j8 iu d7 Yh Ib T2 Yg aK oG lF pE iM Yl kK jL jn mD mO get_cons UQ RJ Cz JT GZ LY Gk Bq HL Fj EI Zw W5 C5 Ix CA HI Fw ER RZ S0 ij ip Z5 RN F4 Bj Gq Dq qJ qq qY rK qQ qN rL qS qM qF qZ Rq eg Qn eW Zr MY VL WG ft be hZ Xt ZA ez aQ bN Nv NA ci bW Y4 bU WD mE rG im gR jy iH KN ZB decide_true decide_false Bool.not_true Bool.not_false fU bB Tm Tb ZC VG Option.isSome_some aE iQ Ty Zg YB Zy UJ eO fV Rv TX nl Xf cz fz ce bQ jP lk V5 Cx Bv puts_cons puts_nil WY QY c8 BA is_self jJ Qw Rg lM Pv UO bJ Ys Kt bE Vi JR QB Hx JL dy DQ em NI ZZ Yk GQ Fk Eu CH Eg AE An List.any_nil List.any_cons Bool.or_false Bool.false_or Bool.or_true Bool.true_or Bool.false_and Bool.and_false Int.toNat_natCast Int.natCast_nonneg List.getElem?_map List.getElem?_nil pk XY fT pj Z6 gC fo jX fN jF bg aY VX XX YY Q5 SL Tn Vu Uw SD bz ah nH eI Yz fb fQ jM eA l8 hY TM Sw pM ZG gN bq gm eM Sj Qb Y0 jb Za aB UX jg ku Sx RA RV Tu Zv Vg List.flatMap_cons List.flatMap_nil Y6 Tf YI YX U9 TV Vk V6 List.foldl_cons List.foldl_nil List.map_cons List.map_nil List.length_cons List.length_nil List.length_map List.length_append List.length_singleton List.append_assoc List.all_cons List.all_nil Option.map_some Option.bind_some List.getElem?_cons_zero List.getElem?_cons_succ List.take_succ_cons List.take_zero List.drop_succ_cons List.drop_zero List.append_nil List.nil_append List.cons_append List.size_toArray Bool.and_true Bool.true_and true_and and_true
end Go.Abs
namespace Go.Abs
variable{P:Program}{C:Bk}{K:AH}{fr:Fr}{b n i:Nat}{Q:Cq→St→Prop}
variable{ops:Array Oper}{al:Nat→Bool}{l:List Oper}{e:BI}{h:AB}{bs:Nat}{ds:List Df}{ps:List (Nat×Nat)}{fps:List Fp}
def BX(C:Bk)(K:AH)(fr:Fr)(ops:Array Oper)(b n:Nat)(al:Nat→Bool)(ps:List (Nat×Nat))(fps:List Fp)(l:List Oper)(i:Nat)(Q:Cq→St→Prop):Em→Prop
 |.ok st fp=>ET C K fr ops b n al ps (fps++[fp]) l (i+1) st Q
 |.pan v st=>al i=true∧Cc fps ps=true∧Q (.pan v) {st with base:=b+n}
 |.err _=>False
def Cd(C:Bk)(K:AH)(fr:Fr)(ops:Array Oper)(b n:Nat)(al:Nat→Bool)(ps:List (Nat×Nat))(fps:List Fp)(l:List Oper)(i:Nat)(dst:Option Tmp)(e:BI)(h:AB)(bs:Nat)(ds:List Df)(Q:Cq→St→Prop)(rd:List Id):Option Bf→Prop
 |some x=>GW fr.prot x.δ=true∧ET C K fr ops b n al ps (fps++[⟨some rd,some (x.δ.map (·.1))⟩]) l (i+1) ⟨Bi e dst x.v,h.puts x.δ,bs,ds⟩ Q
 |none=>False
theorem dL:ET C K fr ops b n al ps fps [] i ⟨e,h,bs,ds⟩ Q=(Cc fps ps=true∧Q .normal ⟨e,h,b+n,ds⟩):=by
 simp only[ET,B7,List.append_nil]
theorem OT(o:Oper)(st:St):ET C K fr ops b n al ps fps (o::l) i st Q=BX C K fr ops b n al ps fps l i Q (Bc C K fr ops ((b+i)::fr.π) o st):=by
 unfold ET;simp only[B7,FE];cases hs:Bc C K fr ops ((b+i)::fr.π) o st with
 |err e=>rfl
 |pan v st'=>
  simp only[BX];cases al i<;>simp
 |ok st' fp=>
  simp only[BX,ET];cases hr:B7 C K fr ops b al l (i+1) st' with
  |err e=>rfl
  |ok r=>
   obtain⟨⟨o,st2⟩,fps'⟩:=r;cases o<;>simp only[Pt,List.append_assoc,List.cons_append,List.nil_append]
def CM(C:Bk)(K:AH)(fr:Fr)(ops:Array Oper)(b n:Nat)(al:Nat→Bool)(ps:List (Nat×Nat))(fps:List Fp)(l:List Oper)(i:Nat)(dst:Option Tmp)(op:Op)(st:St)(want:Bool)(Q:Cq→St→Prop):AV→Prop
 |.d (.bool t)=>match t==want with
  |true=>BX C K fr ops b n al ps fps l i Q (Ai C K fr ((b+i)::fr.π) op dst st)
  |false=>ET C K fr ops b n al ps (fps++[⟨some [],some []⟩]) l (i+1) {st with env:=Bi st.env dst (.tup [])} Q
 |.tup []=>ET C K fr ops b n al ps (fps++[⟨some [],some []⟩]) l (i+1) {st with env:=Bi st.env dst (.tup [])} Q
 |_=>False
theorem gY(dst:Option Tmp)(op:Op)(ty:TypeId)(pos:String)(af:Array Edge)(j:Nat)(want:Bool):
 ET C K fr ops b n al ps fps (⟨dst,op,ty,pos,af,some (j,want)⟩::l) i ⟨e,h,bs,ds⟩ Q=CM C K fr ops b n al ps fps l i dst op ⟨e,h,bs,ds⟩ want Q (K3 ops e j):=by
 rw[OT];simp only[Bc,I0,K3];cases hj:ops[j]? with
 |none=>simp[HW,CM,BX]
 |some o=>
  cases hd:o.dst with
  |none=>simp[HW,CM,BX,hd]
  |some t=>
   simp only[Option.bind_some,hd,Option.map_some,HW];cases hv:BI.get e t with
   |d x=>cases x with
    |bool c=>
     simp only[CM];cases(c==want)<;>simp only[BX,Ah]
    |_=>rfl
   |tup vs=>cases vs<;>simp only[CM,BX,Ah]
   |_=>rfl
theorem Yr(dst:Option Tmp)(op:Op)(st:St):CM C K fr ops b n al ps fps l i dst op st true Q (.d (.bool true))=BX C K fr ops b n al ps fps l i Q (Ai C K fr ((b+i)::fr.π) op dst st):=rfl
theorem Z0(dst:Option Tmp)(op:Op)(st:St):CM C K fr ops b n al ps fps l i dst op st false Q (.d (.bool false))=BX C K fr ops b n al ps fps l i Q (Ai C K fr ((b+i)::fr.π) op dst st):=rfl
theorem YG(dst:Option Tmp)(op:Op):CM C K fr ops b n al ps fps l i dst op ⟨e,h,bs,ds⟩ true Q (.d (.bool false))=ET C K fr ops b n al ps (fps++[⟨some [],some []⟩]) l (i+1) ⟨Bi e dst (.tup []),h,bs,ds⟩ Q:=rfl
theorem Ya(dst:Option Tmp)(op:Op):CM C K fr ops b n al ps fps l i dst op ⟨e,h,bs,ds⟩ false Q (.d (.bool true))=ET C K fr ops b n al ps (fps++[⟨some [],some []⟩]) l (i+1) ⟨Bi e dst (.tup []),h,bs,ds⟩ Q:=rfl
theorem UZ(dst:Option Tmp)(op:Op)(want:Bool):CM C K fr ops b n al ps fps l i dst op ⟨e,h,bs,ds⟩ want Q (.tup [])=ET C K fr ops b n al ps (fps++[⟨some [],some []⟩]) l (i+1) ⟨Bi e dst (.tup []),h,bs,ds⟩ Q:=rfl
theorem QH{dst:Option Tmp}{op:Op}{st:St}{want t:Bool}(h1:t=true→CM C K fr ops b n al ps fps l i dst op st want Q (.d (.bool true)))(h2:t=false→CM C K fr ops b n al ps fps l i dst op st want Q (.d (.bool false))):CM C K fr ops b n al ps fps l i dst op st want Q (.d (.bool t)):=by
 cases t
 .exact h2 rfl
 .exact h1 rfl
theorem Uj{dst:Option Tmp}{op:Op}{st:St}{want:Bool}{p:Prop} [Decidable p](h1:p→CM C K fr ops b n al ps fps l i dst op st want Q (.d (.bool true)))(h2: ¬p→CM C K fr ops b n al ps fps l i dst op st want Q (.d (.bool false))):CM C K fr ops b n al ps fps l i dst op st want Q (.d (.bool (decide p))):=by
 by_cases hp:p
 .rw[decide_eq_true hp];exact h1 hp
 .rw[decide_eq_false hp];exact h2 hp
theorem aG(dst:Option Tmp)(op:Op)(st:St)(t:Bool):CM C K fr ops b n al ps fps l i dst op st false Q (.d (.bool (!t)))=CM C K fr ops b n al ps fps l i dst op st true Q (.d (.bool t)):=by
 cases t<;>rfl
theorem Yw(dst:Option Tmp)(op:Op)(ty:TypeId)(pos:String)(af:Array Edge)(st:St):
 ET C K fr ops b n al ps fps (⟨dst,op,ty,pos,af,none⟩::l) i st Q=BX C K fr ops b n al ps fps l i Q (Ai C K fr ((b+i)::fr.π) op dst st):=by
 rw[OT];simp only[Bc,I0]
theorem BN(dst:Option Tmp)(op:Op)(r:Option Bf):BX C K fr ops b n al ps fps l i Q (CQ fr op dst ⟨e,h,bs,ds⟩ r)=Cd C K fr ops b n al ps fps l i dst e h bs ds Q (EE e.get h.get op) r:=by
 cases r with
 |none=>rfl
 |some x=>
  simp only[CQ,Cd,Gu,BD,Ah];cases hw:GW fr.prot x.δ with
  |false=>simp[BX]
  |true=>
   simp only[true_and,IQ,BX]
theorem IX(dst:Option Tmp)(v:AV)(rd:List Id):Cd C K fr ops b n al ps fps l i dst e h bs ds Q rd (some ⟨v,[]⟩)=ET C K fr ops b n al ps (fps++[⟨some rd,some []⟩]) l (i+1) ⟨Bi e dst v,h,bs,ds⟩ Q:=by
 have:GW fr.prot []=true:=by cases hp:fr.prot<;>rfl
 simp only[Cd,this,true_and];rfl
theorem Uy(dst:Option Tmp)(v:AV)(x:Id×Obj)(δ:AB)(rd:List Id):Cd C K fr ops b n al ps fps l i dst e h bs ds Q rd (some ⟨v,x::δ⟩)=(GW fr.prot (x::δ)=true∧ET C K fr ops b n al ps (fps++[⟨some rd,some (x.1::δ.map (·.1))⟩]) l (i+1) ⟨Bi e dst v,h.puts (x::δ),bs,ds⟩ Q):=rfl
section
variable(dst:Option Tmp)(ρ:List Nat)
theorem nn(x:Operand):BX C K fr ops b n al ps fps l i Q (Ai C K fr ρ (.move x) dst ⟨e,h,bs,ds⟩)=ET C K fr ops b n al ps (fps++[⟨some [],some []⟩]) l (i+1) ⟨Bi e dst (ev e.get x),h,bs,ds⟩ Q:=by
 simp only[Ai,evalOp,BN,IX,EE]
theorem cS(x:Operand):BX C K fr ops b n al ps fps l i Q (Ai C K fr ρ (.assign x) dst ⟨e,h,bs,ds⟩)=ET C K fr ops b n al ps (fps++[⟨some [],some []⟩]) l (i+1) ⟨Bi e dst (ev e.get x),h,bs,ds⟩ Q:=by
 simp only[Ai,evalOp,BN,IX,EE]
theorem np(c x y:Operand):BX C K fr ops b n al ps fps l i Q (Ai C K fr ρ (.pick c x y) dst ⟨e,h,bs,ds⟩)=Cd C K fr ops b n al ps fps l i dst e h bs ds Q ([]) (JT (ev e.get c) (ev e.get x) (ev e.get y)):=by
 simp only[Ai,evalOp,BN,EE,C0,Op.operands,List.flatMap_cons,List.flatMap_nil,List.append_nil]
theorem iw(t:TypeId):BX C K fr ops b n al ps fps l i Q (Ai C K fr ρ (.alloc t) dst ⟨e,h,bs,ds⟩)=Cd C K fr ops b n al ps fps l i dst e h bs ds Q ([]) (GZ ρ (C.T t)):=by
 simp only[Ai,evalOp,BN,EE,C0,Op.operands,List.flatMap_cons,List.flatMap_nil,List.append_nil]
theorem rM(t:TypeId)(x:Operand):BX C K fr ops b n al ps fps l i Q (Ai C K fr ρ (.box t x) dst ⟨e,h,bs,ds⟩)=Cd C K fr ops b n al ps fps l i dst e h bs ds Q ([]) (LY ρ (ev e.get x) (C.T t)):=by
 simp only[Ai,evalOp,BN,EE,C0,Op.operands,List.flatMap_cons,List.flatMap_nil,List.append_nil]
theorem mH(t:TypeId)(p:Array (Nat×Operand)):BX C K fr ops b n al ps fps l i Q (Ai C K fr ρ (.build t p) dst ⟨e,h,bs,ds⟩)=Cd C K fr ops b n al ps fps l i dst e h bs ds Q ([]) (Gk (Cx e.get p) (C.T t)):=by
 simp only[Ai,evalOp,BN,EE,C0,Op.operands,List.flatMap_cons,List.flatMap_nil,List.append_nil]
theorem P4(t:TypeId)(m:Nat)(p:Array (Nat×Operand)):BX C K fr ops b n al ps fps l i Q (Ai C K fr ρ (.buildSlice t m p) dst ⟨e,h,bs,ds⟩)=Cd C K fr ops b n al ps fps l i dst e h bs ds Q (EE e.get h.get (.buildSlice t m p)) (Bq C.T h.get ρ m (Cx e.get p) (C.T t)):=by
 simp only[Ai,evalOp,BN]
theorem oM(t:TypeId)(a:Operand):BX C K fr ops b n al ps fps l i Q (Ai C K fr ρ (.load t a) dst ⟨e,h,bs,ds⟩)=Cd C K fr ops b n al ps fps l i dst e h bs ds Q (AE (ev e.get a)) (HL h.get (ev e.get a) (C.T t)):=by
 simp only[Ai,evalOp,BN,EE,C0,Op.operands,List.flatMap_cons,List.flatMap_nil,List.append_nil]
theorem ln(t:TypeId)(a x:Operand):BX C K fr ops b n al ps fps l i Q (Ai C K fr ρ (.store t a x) dst ⟨e,h,bs,ds⟩)=Cd C K fr ops b n al ps fps l i dst e h bs ds Q (AE (ev e.get a)++AE (ev e.get x)) (Fj h.get (ev e.get a) (ev e.get x) (C.T t)):=by
 simp only[Ai,evalOp,BN,EE,C0,Op.operands,List.flatMap_cons,List.flatMap_nil,List.append_nil]
theorem WL(x:Operand):BX C K fr ops b n al ps fps l i Q (Ai C K fr ρ (.nilCheck x) dst ⟨e,h,bs,ds⟩)=Cd C K fr ops b n al ps fps l i dst e h bs ds Q ([]) (EI (ev e.get x)):=by
 simp only[Ai,evalOp,BN,EE,C0,Op.operands,List.flatMap_cons,List.flatMap_nil,List.append_nil]
theorem i6(op:BinOp)(t:TypeId)(x y:Operand)(u:TypeId):BX C K fr ops b n al ps fps l i Q (Ai C K fr ρ (.binOp op t x y u) dst ⟨e,h,bs,ds⟩)=Cd C K fr ops b n al ps fps l i dst e h bs ds Q ([]) ((YH (RG x||RG y) op (ev e.get x) (ev e.get y) (C.T t)).map (⟨·,[]⟩)):=by
 simp only[Ai,evalOp,BN,EE,C0,Op.operands,List.flatMap_cons,List.flatMap_nil,List.append_nil]
theorem Qq(t:TypeId)(x y:Operand):BX C K fr ops b n al ps fps l i Q (Ai C K fr ρ (.makeSlice t x y) dst ⟨e,h,bs,ds⟩)=Cd C K fr ops b n al ps fps l i dst e h bs ds Q ([]) (Bw C.T h.get ρ (ev e.get x) (ev e.get y) (C.T t)):=by
 simp only[Ai,evalOp,BN,EE,C0,Op.operands,List.flatMap_cons,List.flatMap_nil,List.append_nil]
theorem Q8(t:TypeId)(x:Operand)(k:Nat):BX C K fr ops b n al ps fps l i Q (Ai C K fr ρ (.fieldAddr t x k) dst ⟨e,h,bs,ds⟩)=Cd C K fr ops b n al ps fps l i dst e h bs ds Q ([]) (C5 k (ev e.get x) (C.T t)):=by
 simp only[Ai,evalOp,BN,EE,C0,Op.operands,List.flatMap_cons,List.flatMap_nil,List.append_nil]
theorem S9(t:TypeId)(x y:Operand):BX C K fr ops b n al ps fps l i Q (Ai C K fr ρ (.indexAddr t x y) dst ⟨e,h,bs,ds⟩)=Cd C K fr ops b n al ps fps l i dst e h bs ds Q (AE (ev e.get x)++AE (ev e.get y)) (CA C.T h.get (ev e.get x) (ev e.get y) (C.T t)):=by
 simp only[Ai,evalOp,BN,EE,C0,Op.operands,List.flatMap_cons,List.flatMap_nil,List.append_nil]
theorem Y5(f:Builtin)(az:Array Operand)(ts:Array TypeId):BX C K fr ops b n al ps fps l i Q (Ai C K fr ρ (.call ⟨.builtin f,az,ts⟩) dst ⟨e,h,bs,ds⟩)=Cd C K fr ops b n al ps fps l i dst e h bs ds Q (EE e.get h.get (.call ⟨.builtin f,az,ts⟩)) (ER C.T h.get ρ f (az.toList.map (ev e.get)) ts.toList):=by
 simp only[Ai,Gy,BN]
theorem lL(x:Operand):BX C K fr ops b n al ps fps l i Q (Ai C K fr ρ (.panic x) dst ⟨e,h,bs,ds⟩)=BX C K fr ops b n al ps fps l i Q (EA ⟨e,h,bs,ds⟩ (ev e.get x)):=rfl
def CS(C:Bk)(K:AH)(fr:Fr)(ops:Array Oper)(b n:Nat)(al:Nat→Bool)(ps:List (Nat×Nat))(fps:List Fp)(l:List Oper)(i:Nat)(az:List AV)(dst:Option Tmp)(e:BI)(h:AB)(bs:Nat)(ds:List Df)(Q:Cq→St→Prop)(r:E (AQ×AB)):Prop:=
 BX C K fr ops b n al ps fps l i Q (CP fr az dst ⟨e,h,bs,ds⟩ r)
def TS(C:Bk)(K:AH)(fr:Fr)(ops:Array Oper)(b n:Nat)(al:Nat→Bool)(ps:List (Nat×Nat))(fps:List Fp)(l:List Oper)(i:Nat)(dst:Option Tmp)(ρ:List Nat)(e:BI)(h:AB)(bs:Nat)(ds:List Df)(Q:Cq→St→Prop)(args:List AV):AV→Prop
 |fv=>BX C K fr ops b n al ps fps l i Q (Cr C K fr ρ fv args dst ⟨e,h,bs,ds⟩)
theorem kI(f:Operand)(az:Array Operand)(ts:Array TypeId):BX C K fr ops b n al ps fps l i Q (Ai C K fr ρ (.call ⟨.value f,az,ts⟩) dst ⟨e,h,bs,ds⟩)=TS C K fr ops b n al ps fps l i dst ρ e h bs ds Q (az.toList.map (ev e.get)) (ev e.get f):=rfl
def JM(C:Bk)(K:AH)(fr:Fr)(ops:Array Oper)(b n:Nat)(al:Nat→Bool)(ps:List (Nat×Nat))(fps:List Fp)(l:List Oper)(i:Nat)(dst:Option Tmp)(ρ:List Nat)(e:BI)(h:AB)(bs:Nat)(ds:List Df)(Q:Cq→St→Prop)(f:FuncId)(az:List AV)(m:Mode):Prop:=
 BX C K fr ops b n al ps fps l i Q (Cf K fr ρ f az dst ⟨e,h,bs,ds⟩ m)
theorem bw(f:FuncId)(first cap args:List AV):TS C K fr ops b n al ps fps l i dst ρ e h bs ds Q args (.fn f first cap)=JM C K fr ops b n al ps fps l i dst ρ e h bs ds Q f (first++args++cap) (C.mode f):=by
 simp only[TS,JM,Cr,Aq]
def Xq(C:Bk)(K:AH)(fr:Fr)(ops:Array Oper)(b n:Nat)(al:Nat→Bool)(ps:List (Nat×Nat))(fps:List Fp)(l:List Oper)(i:Nat)(dst:Option Tmp)(e:BI)(h:AB)(bs:Nat)(ds:List Df)(Q:Cq→St→Prop)(f:FuncId)(az:List AV)(own:List Nat):Option (List AV)→Prop
 |some xs=>CS C K fr ops b n al ps fps l i az dst e h bs ds Q (K (.fn f) xs [] own false none)
 |none=>False
theorem VB(f:FuncId)(az:List AV)(hx:(Cn h.get az).isSome):JM C K fr ops b n al ps fps l i dst ρ e h bs ds Q f az .auto=Xq C K fr ops b n al ps fps l i dst e h bs ds Q f az [] (Cn h.get az):=by
 obtain⟨xs,hx⟩:=Option.isSome_iff_exists.1 hx;simp only[JM,Cf,hx,Aq,Xq,CS]
theorem Xi(f:FuncId)(az:List AV)(hx:(Cn h.get az).isSome):JM C K fr ops b n al ps fps l i dst ρ e h bs ds Q f az .own=Xq C K fr ops b n al ps fps l i dst e h bs ds Q f az ρ (Cn h.get az):=by
 obtain⟨xs,hx⟩:=Option.isSome_iff_exists.1 hx;simp only[JM,Cf,hx,Aq,Xq,CS]
theorem aR(f:FuncId)(az:List AV)(own:List Nat)(xs:List AV):Xq C K fr ops b n al ps fps l i dst e h bs ds Q f az own (some xs)=CS C K fr ops b n al ps fps l i az dst e h bs ds Q (Au K f xs own):=by
 simp only[Xq,CS,Li]
theorem VA(az:List AV)(v:AV)(h':AB)(hv:flat v=true):CS C K fr ops b n al ps fps l i az dst e h bs ds Q (.ok (.ret v,h'))=ET C K fr ops b n al ps (fps++[⟨some (B1 h.get (An az)),some []⟩]) l (i+1) ⟨Bi e dst v,h,bs,ds⟩ Q:=by
 simp only[CS,CP,Ah,hv,BX]
theorem Ou(az:List AV)(v:AV)(h':AB)(hv:flat v=true):CS C K fr ops b n al ps fps l i az dst e h bs ds Q (.ok (.pan v,h'))=(al i=true∧Cc fps ps=true∧Q (.pan v) ⟨e,h,b+n,ds⟩):=by
 simp only[CS,CP,hv,BX]
theorem Zh(az:List AV)(v:AV)(h':AB)(x:Id×Obj)(hv:flat v=false)(hx:A6 v h'=some x):CS C K fr ops b n al ps fps l i az dst e h bs ds Q (.ok (.ret v,h'))=ET C K fr ops b n al ps (fps++[⟨some (B1 h.get (An az)),some [x.1]⟩]) l (i+1) ⟨Bi e dst v,x::h,bs,ds⟩ Q:=by
 simp only[CS,CP,Ah,hv,E7,hx,AR,BX]
theorem OG(az:List AV)(v:AV)(h':AB)(hv:flat v=false)(hx:A6 v h'=none):CS C K fr ops b n al ps fps l i az dst e h bs ds Q (.ok (.ret v,h'))=(GW fr.prot (az.flatMap (mark h.get))=true∧ET C K fr ops b n al ps (fps++[⟨some (B1 h.get (An az)),some ((az.flatMap (mark h.get)).map (·.1)++h'.map (·.1))⟩]) l (i+1) ⟨Bi e dst v,h'++h.puts (az.flatMap (mark h.get)),bs,ds⟩ Q):=by
 simp only[CS,CP,Ah,hv,E7,hx,AR,BD];cases hw:GW fr.prot (az.flatMap (mark h.get))<;>simp[BX]
end
theorem bL{α:Type}{f:α→List AN}{l':List α}{sz j:Nat}{dst:Option Tmp}{rd:List Id}(hj:j<l'.length)(hx: ∀x,l'[j]? =some x→Cd C K fr ops b n al ps fps l i dst e h bs ds Q rd (MA sz (some (f x)))):Cd C K fr ops b n al ps fps l i dst e h bs ds Q rd (MA sz (Option.map f l'[j]?)):=by
 have:=hx l'[j] (List.getElem?_eq_getElem hj)
 rwa [List.getElem?_eq_getElem hj]
theorem R0(fps:List Fp):Cc fps []=true:=rfl
def cr:Option Fp→Option Fp→Bool
 |some a,some c=>a.apart c
 |_,_=>true
theorem R2(a c:Fp):cr (some a) (some c)=a.apart c:=rfl
theorem PR(fps:List Fp)(i j:Nat)(l:List (Nat×Nat)):Cc fps ((i,j)::l)=(cr fps[i]? fps[j]? &&Cc fps l):=by
 simp only[Cc,List.all_cons];rfl
theorem TN(g:G):B1 g []=[]:=rfl
theorem XG(x:Option (List Id)):Abs.apart (some []) x=true:=by cases x<;>simp[Abs.apart]
theorem Uh(x:Option (List Id)):Abs.apart x (some [])=true:=by
 unfold Abs.apart;split<;>first|rfl|simp_all
theorem Ny(g:G)(e:Nat→AV)(t:TypeId)(m:Nat)(p:Array (Nat×Operand)):EE e g (.buildSlice t m p)=(p.toList.map (·.2)).flatMap fun y=>AE (ev e y):=by
 simp only[EE,C0,Op.operands]
theorem oJ(g:G)(e:Nat→AV)(az:Array Operand)(ts:Array TypeId):EE e g (.call ⟨.builtin .len,az,ts⟩)=az.toList.flatMap fun y=>AE (ev e y):=by
 simp[EE,C0,Op.operands,Call.operands]
theorem Yi(g:G)(e:Nat→AV)(az:Array Operand)(ts:Array TypeId):EE e g (.call ⟨.builtin .append,az,ts⟩)=B1 g (az.toList.flatMap fun y=>AE (ev e y)):=by
 simp[EE,C0,Op.operands,Call.operands]
theorem oE(g:G)(e:Nat→AV)(az:Array Operand)(ts:Array TypeId):EE e g (.call ⟨.builtin .max,az,ts⟩)=[]:=rfl
theorem oK(g:G)(e:Nat→AV)(az:Array Operand)(ts:Array TypeId):EE e g (.call ⟨.builtin .min,az,ts⟩)=[]:=rfl
attribute [go_sem] Ou OG
attribute [go_sem] dL gY Yr Z0 YG Ya aG UZ Yw IX Uy nn cS np iw rM mH P4 oM ln WL i6 Qq Q8 S9 Y5 lL kI bw VB Xi aR VA R0 R2 PR TN XG Uh Ny oJ Yi oE oK Fp.apart List.flatMap_cons List.flatMap_nil
end Go.Abs
namespace Go.Abs
variable{P:Program}{C:Bk}{K:AH}{fr:Fr}{b n i:Nat}{Q:Cq→St→Prop}
variable{ops:Array Oper}{al:Nat→Bool}{l:List Oper}{e:BI}{h:AB}{bs:Nat}{ds:List Df}
theorem is_iff: ∀{a b:Id},Id.is a b=true↔a=b:=fun{a b}=>⟨Id.is_eq,fun h=>by subst h;exact is_self a⟩
theorem AM{a b:Id}(h:a≠b):Id.is a b=false:=by
 cases hx:Id.is a b with
 |false=>rfl
 |true=>exact absurd (is_iff.1 hx) h
theorem under_iff{ρ:Id}: ∀{id:Id},Id.under ρ id=true↔ρ<:+id
 |[]=>by
  simp only[Id.under,is_iff,List.suffix_nil]
 |m::l=>by
  rw[List.suffix_cons_iff];unfold Id.under;cases hx:Id.is ρ (m::l)with
  |true=>simp[is_iff.1 hx]
  |false=>
   have:ρ≠m::l:=fun h=>by rw[is_iff.2 h]at hx;cases hx
   simp only[this,false_or];exact under_iff
theorem C6{ρ id:Id}(h: ¬ρ<:+id):Id.under ρ id=false:=by
 cases hx:Id.under ρ id with
 |false=>rfl
 |true=>exact absurd (under_iff.1 hx) h
theorem get_put(h:AB)(id:Id)(o:Obj)(id':Id):AB.get (AB.put h id o) id'=if Id.is id id'=true then some o else AB.get h id':=by
 induction h with
 |nil=>simp only[WY,BA]
 |cons p h ih=>
  obtain⟨k,x⟩:=p;rw[QY];by_cases hk:Id.is k id=true
  .rw[if_pos hk,BA,BA];have:=is_iff.1 hk;subst this;split<;>rfl
  .rw[if_neg hk,BA,BA,ih];by_cases h1:Id.is k id'=true
   .rw[if_pos h1,if_pos h1];have:=is_iff.1 h1;subst this;rw[if_neg fun h2=>hk (is_iff.2 (is_iff.1 h2).symm)]
   .rw[if_neg h1,if_neg h1]
theorem Nh(q:Id→Bool)(h:AB)(id:Id)(hq:q id=true):AB.get (List.filter (fun p=>q p.1) h) id=AB.get h id:=by
 induction h with
 |nil=>rfl
 |cons p h ih=>
  obtain⟨k,x⟩:=p;rw[BA,List.filter_cons];by_cases hk:Id.is k id=true
  .have:=is_iff.1 hk;subst this;simp only[hq,if_true,BA,hk]
  .rw[if_neg hk,←ih];split
   .rw[BA,if_neg hk]
   .rfl
theorem Aj(ρ:List Nat)(h:AB)(id:Id)(hid:Id.under ρ id=false):AB.get (gc ρ h) id=AB.get h id:=by
 refine Nh (fun id=>match id with|0::l=> !Id.under ρ l|_=>true) h id ?_
 split
 .rename_i l;have: ¬ρ<:+l:=fun h1=>by
   have:=under_iff.2 (h1.trans (List.suffix_cons 0 l));rw[hid]at this;cases this
  rw[C6 this];rfl
 .rfl
def OD(C:Bk)(K:AH)(fr:Fr)(ops:Array Oper)(b n:Nat)(al:Nat→Bool)(l:List Oper)(i:Nat)(dst:Option Tmp)(ρ:List Nat)(e:BI)(h:AB)(bs:Nat)(ds:List Df)(Q:Cq→St→Prop):E (AQ×AB)→Prop
 |.ok (.ret v,h')=>Dt C K fr ops b n al l (i+1) ⟨Bi e dst v,gc ρ h',bs,ds⟩ Q
 |.ok (.pan v,h')=>al i=true∧Q (.pan v) ⟨e,gc ρ h',b+n,ds⟩
 |.err _=>False
theorem K2(dst:Option Tmp)(ρ:List Nat)(r:E (AQ×AB)):Az C K fr ops b n al l i Q (DA ρ dst ⟨e,h,bs,ds⟩ r)=OD C K fr ops b n al l i dst ρ e h bs ds Q r:=by
 cases r with
 |err l=>rfl
 |ok r=>
  obtain⟨o,h'⟩:=r;cases o<;>simp only[DA,Ah,AR,Az,OD]
theorem fe(dst:Option Tmp)(ρ:List Nat)(v:AV)(h':AB):OD C K fr ops b n al l i dst ρ e h bs ds Q (.ok (.ret v,h'))=Dt C K fr ops b n al l (i+1) ⟨Bi e dst v,gc ρ h',bs,ds⟩ Q:=rfl
theorem eC(dst:Option Tmp)(ρ:List Nat)(v:AV)(h':AB):OD C K fr ops b n al l i dst ρ e h bs ds Q (.ok (.pan v,h'))=(al i=true∧Q (.pan v) ⟨e,gc ρ h',b+n,ds⟩):=rfl
theorem Zb(dst:Option Tmp)(ρ:List Nat)(f:FuncId)(az:List AV):Hr C K fr ops b n al l i dst ρ e h bs ds Q f az .raw=OD C K fr ops b n al l i dst ρ e h bs ds Q (K (.fn f) az h ρ true fr.prot):=by
 simp only[Hr,Cf,K2]
theorem Ax{Post:AQ→AB→Prop}{dst:Option Tmp}{ρ:List Nat}{q:E (AQ×AB)}(hk: ∃o h',q=.ok (o,h')∧Post o h')(hn: ∀o h',Post o h'→OD C K fr ops b n al l i dst ρ e h bs ds Q (.ok (o,h'))):OD C K fr ops b n al l i dst ρ e h bs ds Q q:=by
 obtain⟨o,h',e,hp⟩:=hk;rw[e];exact hn o h' hp
def gV(v:AV):Option AV→AV
 |some u=>u
 |none=>v
theorem cY(g:G):IB g []=[]:=rfl
theorem Y1(g:G)(v:AV)(vs:List AV):IB g (v::vs)=gV v (DW g v)::IB g vs:=by
 simp only[IB,List.map_cons];cases DW g v<;>rfl
theorem UU(v u:AV):gV v (some u)=u:=rfl
theorem VM(v:AV):gV v none=v:=rfl
theorem Ug(dst:Option Tmp)(ρ:List Nat)(f:FuncId)(az:List AV)(hx:(Cn h.get az).isNone):Hr C K fr ops b n al l i dst ρ e h bs ds Q f az .auto=(GW fr.prot (az.flatMap (mark h.get))=true∧OD C K fr ops b n al l i dst ρ e h bs ds Q (K (.fn f) (IB h.get az) (h.puts (az.flatMap (mark h.get))) ρ true fr.prot)):=by
 have hx:Cn h.get az=none:=by simpa using hx
 simp only[Hr,Cf,hx,Dh,Aq,BD,AR];cases hw:GW fr.prot (az.flatMap (mark h.get))with
 |true=>simp only[K2,true_and]
 |false=>simp[Az]
def p8(C:Bk)(K:AH)(fr:Fr)(ops:Array Oper)(b n:Nat)(al:Nat→Bool)(l:List Oper)(i:Nat)(dst:Option Tmp)(e:BI)(h:AB)(bs:Nat)(ds:List Df)(Q:Cq→St→Prop):E (AQ×AB)→Prop
 |.ok (.ret v,_)=>flat v=true∧Dt C K fr ops b n al l (i+1) ⟨Bi e dst v,h,bs,ds⟩ Q
 |.ok (.pan v,_)=>flat v=true∧al i=true∧Q (.pan v) ⟨e,h,b+n,ds⟩
 |.err _=>False
theorem dQ(dst:Option Tmp)(ρ:List Nat)(f:FuncId)(az:List AV)(hx:(Cn h.get az).isNone):Hr C K fr ops b n al l i dst ρ e h bs ds Q f az .ro=p8 C K fr ops b n al l i dst e h bs ds Q (K (.fn f) (IB h.get az) (h.puts (az.flatMap (mark h.get))) ρ true (some ρ)):=by
 have hx:Cn h.get az=none:=by simpa using hx
 simp only[Hr,Cf,hx,Dh,Aq,BD,AR];cases K (.fn f) (IB h.get az) (h.puts (az.flatMap (mark h.get))) ρ true (some ρ)with
 |err l=>rfl
 |ok r=>
  obtain⟨o,h'⟩:=r;cases o<;>simp only[Ke,p8,Ah]<;>split<;>simp_all [Az]
theorem oA(g:G)(x:AN):mark g (.d x)=[]:=rfl
theorem Xh(g:G):mark g .nils=[]:=rfl
theorem gG(g:G):mark g .emp=[]:=rfl
theorem cE(g:G)(id:Id)(off:Nat):mark g (.ptr id off)=[]:=rfl
theorem mU(g:G)(f:FuncId)(a c:List AV):mark g (.fn f a c)=[]:=rfl
theorem jE(g:G)(id:Id):mark g (.mp id)=[]:=rfl
theorem fC(g:G)(id:Id)(off m:Nat):mark g (.osl id off m)=Ds g (.osl id off m):=by simp only[mark,G8,List.flatMap_cons,List.flatMap_nil,List.append_nil]
def cX(g:G):List AV→AB
 |[]=>[]
 |v::vs=>Ds g v++cX g vs
theorem ed(g:G)(cs:List AV):mark g (.agg cs)=cX g cs:=by
 simp only[mark,G8];induction cs with
 |nil=>rfl
 |cons v vs ih=>rw[List.flatMap_cons,ih];rfl
theorem kV(g:G)(x:AN):Ds g (.d x)=[]:=rfl
theorem WB(g:G):Ds g .nils=[]:=rfl
theorem Zm(g:G):Ds g .emp=[]:=rfl
theorem Ze(g:G)(id:Id)(off:Nat):Ds g (.ptr id off)=[]:=rfl
theorem VP(ρ:Id)(n:Nat)(l:Id):Id.under ρ (n::l)=if Id.is ρ (n::l)=true then true else Id.under ρ l:=by
 conv=>lhs;unfold Id.under
 cases Id.is ρ (n::l)<;>rfl
theorem Sy(n:Nat)(ρ:Id):Id.under (n::ρ) ρ=false:=C6 fun h=>by
 have:=h.length_le;simp at this;omega
theorem AD{ρ id:Id}(h:Id.under ρ id=false)(n:Nat):Id.under (n::ρ) id=false:=C6 fun h1=>by
 rw[under_iff.2 ((List.suffix_cons n ρ).trans h1)]at h;cases h
theorem AI{ρ id:Id}(h:Id.under ρ id=false)(a n:Nat):Id.is (a::n::ρ) id=false:=AM fun h1=>by
 subst h1;rw[under_iff.2 ((List.suffix_cons n ρ).trans (List.suffix_cons a _))]at h;cases h
theorem Ao{ρ id:Id}(h:Id.under ρ id=false)(a n:Nat):Id.is id (a::n::ρ)=false:=AM fun h1=>by
 subst h1;rw[under_iff.2 ((List.suffix_cons n ρ).trans (List.suffix_cons a _))]at h;cases h
theorem mw(ρ:List Nat):gc ρ []=[]:=rfl
theorem iY(ρ:List Nat)(l:Id)(o:Obj)(h:AB):gc ρ ((0::l,o)::h)=if Id.under ρ l=true then gc ρ h else(0::l,o)::gc ρ h:=by
 simp only[gc,List.filter_cons];cases Id.under ρ l<;>rfl
theorem pF(ρ:List Nat)(l:Id)(o:Obj)(h:AB):gc ρ ((1::l,o)::h)=(1::l,o)::gc ρ h:=rfl
attribute [go_sem] mw iY pF
def Pz(C:Bk)(K:AH)(fr:Fr)(ops:Array Oper)(b n:Nat)(al:Nat→Bool)(l:List Oper)(i:Nat)(dst:Option Tmp)(e:BI)(h:AB)(bs:Nat)(ds:List Df)(Q:Cq→St→Prop)(az:List AV):AV→Prop
 |.fn g [] []=>Dt C K fr ops b n al l (i+1) ⟨Bi e dst .undef,h,bs,.call g az::ds⟩ Q
 |_=>False
theorem Rs(dst:Option Tmp)(f:Operand)(az:Array Operand)(ts:Array TypeId)(hr:fr.rnd=false):Az C K fr ops b n al l i Q (E8 fr e.get ⟨.value f,az,ts⟩ dst ⟨e,h,bs,ds⟩)=Pz C K fr ops b n al l i dst e h bs ds Q (az.toList.map (ev e.get)) (ev e.get f):=by
 simp only[E8,hr];cases ev e.get f with
 |fn g a c=>
  cases a with
  |nil=>cases c<;>simp only[Pz,Az]
  |cons x l=>simp only[Pz,Az]
 |_=>rfl
theorem bC(dst:Option Tmp)(az:List AV)(g:FuncId):Pz C K fr ops b n al l i dst e h bs ds Q az (.fn g [] [])=Dt C K fr ops b n al l (i+1) ⟨Bi e dst .undef,h,bs,.call g az::ds⟩ Q:=rfl
def Vd(C:Bk)(prot:Option (List Nat))(l:List Df)(h:AB)(id:Id):Option (List AV)→E (Option AV×AB)
 |some cs=>CD C prot l none (h.put id (.box cs))
 |none=>.err [20]
def P0(C:Bk)(prot:Option (List Nat))(l:List Df)(h:AB)(id:Id)(off:Nat)(k:IntKind)(m:Int):Option Obj→E (Option AV×AB)
 |some (.box cs)=>Vd C prot l h id (Bj cs off [.d (.int k m)])
 |_=>.err [21]
theorem J8{prot:Option (List Nat)}{l:List Df}{h:AB}{f:FuncId}{t:TypeId}{id:Id}{off:Nat}{k:IntKind}{m:Int}(hc:C.caught f=some t)(hw:GW prot [(id,.box [])]=true):CD C prot (.call f [.ptr id off]::l) (some (.iface t (.agg [.d (.int k m)]))) h=P0 C prot l h id off k m (h.get id):=by
 simp only[CD,hc,hw,Nat.beq_refl,Bool.and_true,P0,Vd];cases h.get id with
 |none=>rfl
 |some o=>cases o with
  |box cs=>simp only;cases Bj cs off [.d (.int k m)]<;>rfl
  |_=>rfl
theorem Tr{prot:Option (List Nat)}{l:List Df}{h:AB}{f:FuncId}{id:Id}{off:Nat}(hc:(C.caught f).isSome=true):CD C prot (.call f [.ptr id off]::l) none h=CD C prot l none h:=by
 obtain⟨t,ht⟩:=Option.isSome_iff_exists.1 hc;simp only[CD,ht]
attribute [go_sem] Rs bC P0 Vd J8 Tr
attribute [go_sem] Hi FG Ev Ex FC FL appMix
attribute [go_sem] Aj VP Sy
attribute [go_sem] get_put fe eC Zb cY Y1 UU VM Ug Option.isNone_some Option.isNone_none dQ oA Xh gG cE mU jE ed cX kV WB Zm Ze
end Go.Abs
namespace Go.Abs
def gj:Option (List AN)→Option (List (List AN))→Option (List (List AN))
 |some x,some xs=>some (x::xs)
 |_,_=>none
theorem Ra(x:List AN)(xs:List (List AN)):gj (some x) (some xs)=some (x::xs):=rfl
theorem Y8(g:G):CC g []=some []:=rfl
theorem NM(g:G)(v:List AV)(vs:List (List AV)):CC g (v::vs)=gj (CK g v) (CC g vs):=by
 simp only[CC];cases CK g v<;>cases CC g vs<;>rfl
def fP:Option AN→Option (List AN)→Option (List AN)
 |some x,some xs=>some (x::xs)
 |_,_=>none
theorem R9(x:AN)(xs:List AN):fP (some x) (some xs)=some (x::xs):=rfl
theorem Xw(g:G):CK g []=some []:=rfl
theorem MD(g:G)(v:AV)(vs:List AV):CK g (v::vs)=fP (D7 g v) (CK g vs):=by
 simp only[CK];cases D7 g v<;>cases CK g vs<;>rfl
def hP(off m:Nat):Option Obj→Option AN
 |some (.darr _ es)=>(Gq es off m).map .lst
 |some (.fro _ es)=>(Gq es off m).map .lst
 |_=>none
theorem gQ(g:G)(id:Id)(off m:Nat):D7 g (.osl id off m)=hP off m (g id):=by
 simp only[D7];cases g id with
 |none=>rfl
 |some o=>cases o<;>rfl
theorem WS(off m sz:Nat)(es:List (List AN)):hP off m (some (.darr sz es))=(Gq es off m).map .lst:=rfl
theorem Yu(off m sz:Nat)(es:List (List AN)):hP off m (some (.fro sz es))=(Gq es off m).map .lst:=rfl
theorem Nd(g:G)(l:List AN):CK g (l.map .d)=some l:=by
 induction l with
 |nil=>rfl
 |cons x l ih=>rw[List.map_cons,MD,ih];rfl
theorem Js(g:G)(l:List (List AN)):CC g (l.map (·.map .d))=some l:=by
 induction l with
 |nil=>rfl
 |cons x l ih=>rw[List.map_cons,NM,ih,Nd];rfl
theorem Vc(g:G):BJ g []=[]:=rfl
theorem LX(g:G)(v:AV)(vs:List AV):BJ g (v::vs)=Gh g v++BJ g vs:=rfl
theorem jZ(g:G)(x:AN):Gh g (.d x)=[]:=rfl
theorem UV(g:G):Gh g .nils=[]:=rfl
theorem YS(g:G):Gh g .emp=[]:=rfl
def bm(id:Id):Option Obj→AB
 |some (.darr sz es)=>[(id,.fro sz es)]
 |_=>[]
theorem Xy(g:G)(id:Id)(off m:Nat):Gh g (.osl id off m)=bm id (g id):=by
 simp only[Gh];cases g id with
 |none=>rfl
 |some o=>cases o<;>rfl
theorem Ta(id:Id)(sz:Nat)(es:List (List AN)):bm id (some (.darr sz es))=[(id,.fro sz es)]:=rfl
theorem bI(id:Id)(sz:Nat)(es:List (List AN)):bm id (some (.fro sz es))=[]:=rfl
theorem LS(g:G)(l:List AN):BJ g (l.map .d)=[]:=by
 induction l with
 |nil=>rfl
 |cons x l ih=>rw[List.map_cons,LX,ih];rfl
theorem IA(g:G)(l:List (List AN)):(l.map (·.map AV.d)).flatMap (BJ g)=[]:=by
 induction l with
 |nil=>rfl
 |cons x l ih=>rw[List.map_cons,List.flatMap_cons,ih,LS];rfl
def DT(sz:Nat):List (List AV)→Bool
 |[]=>true
 |e::es=>decide (e.length=sz)&&(e.all AV.isCell&&DT sz es)
theorem TO(sz:Nat):DT sz []=true:=by simp only[DT]
theorem Fg(sz:Nat)(e:List AV)(es:List (List AV)):DT sz (e::es)=(decide (e.length=sz)&&(e.all AV.isCell&&DT sz es)):=by simp only[DT]
theorem Jm(sz:Nat)(es:List (List AV)):(es.all fun e=>e.length==sz&&e.all AV.isCell)=DT sz es:=by
 induction es with
 |nil=>rfl
 |cons e es ih=>rw[List.all_cons,ih,Fg,Bool.and_assoc];rfl
theorem U1(l:List AN):(l.map AV.d).all AV.isCell=true:=by
 induction l with
 |nil=>rfl
 |cons x l ih=>rw[List.map_cons,List.all_cons,ih];rfl
def oC(newId:Id)(sz n:Nat)(marks:AB):Option (List (List AN))→Option Bf
 |some ds=>some ⟨.osl (1::newId) 0 n,marks++[(1::newId,.darr sz ds)]⟩
 |none=>none
def dK(g:G)(newId:Id)(sz:Nat)(es:List (List AV)):Bool→Option Bf
 |true=>some ⟨.osl (1::newId) 0 es.length,[(1::newId,.arr sz es)]⟩
 |false=>oC newId sz es.length (es.flatMap (BJ g)) (CC g es)
def o9(g:G)(newId:Id)(sz:Nat)(mix:Bool)(es:List (List AV)):Bool→Option Bf
 |true=>dK g newId sz es mix
 |false=>none
theorem PP(g:G)(newId:Id)(j:TI)(es:List (List AV)):newArr g newId j es=o9 g newId j.size j.mix es (DT j.size es&&decide (0<j.size)&&decide (es.length≤Ay)):=by
 unfold newArr;rw[Jm,El,P2];cases(DT j.size es&&decide (0<j.size)&&decide (es.length≤Ay))with
 |false=>rfl
 |true=>
  simp only[o9];cases j.mix with
  |true=>rfl
  |false=>simp only[dK];cases CC g es<;>rfl
theorem Ol(g:G)(newId:Id)(sz:Nat)(mix:Bool)(es:List (List AV)):o9 g newId sz mix es true=dK g newId sz es mix:=rfl
theorem ba(g:G)(newId:Id)(sz:Nat)(es:List (List AV)):dK g newId sz es true=some ⟨.osl (1::newId) 0 es.length,[(1::newId,.arr sz es)]⟩:=rfl
theorem Ml(g:G)(newId:Id)(sz:Nat)(es:List (List AV)):dK g newId sz es false=oC newId sz es.length (es.flatMap (BJ g)) (CC g es):=rfl
theorem OS(newId:Id)(sz n:Nat)(marks:AB)(ds:List (List AN)):oC newId sz n marks (some ds)=some ⟨.osl (1::newId) 0 n,marks++[(1::newId,.darr sz ds)]⟩:=rfl
def Tz(g:G)(newId:Id)(j:TI)(n:Nat):Option (List AV)→Option Bf
 |some cs=>if n*j.size≤16777216∧j.zero.length=j.size then newArr g newId j (Ea j.size n cs)else none
 |none=>none
theorem N5(g:G)(newId:Id)(j:TI):EZ g newId 0 [] j=some ⟨.emp,[]⟩:=rfl
theorem Nt(g:G)(newId:Id)(n:Nat)(ps:List (Nat×AV))(j:TI):EZ g newId (n+1) ps j=Tz g newId j (n+1) (Bv (fun k=>some (k*j.size,j.size)) ((List.replicate (n+1) j.zero).flatten) ps):=by
 unfold EZ;cases Bv (fun k=>some (k*j.size,j.size)) ((List.replicate (n+1) j.zero).flatten) ps with
 |none=>rfl
 |some cs=>
  simp only[Tz,El];have e:(2 ^ 24:Nat)=16777216:=by decide
  rw[e];by_cases h1:(n+1)*j.size≤16777216
  .by_cases h2:j.zero.length=j.size
   .simp[h1,h2]
   .have h3:(j.zero.length==j.size)=false:=by simpa using h2
    simp[h1,h2,h3]
  .simp[h1]
theorem Rf(g:G)(newId:Id)(j:TI)(n:Nat)(cs:List AV):Tz g newId j n (some cs)=if n*j.size≤16777216∧j.zero.length=j.size then newArr g newId j (Ea j.size n cs)else none:=rfl
def fg(s:AV):Option Bf:=match s with
 |.nils=>some ⟨.nils,[]⟩
 |.emp=>some ⟨.emp,[]⟩
 |.osl id off n=>some ⟨.osl id off n,[]⟩
 |_=>none
theorem Yy:fg .nils=some ⟨.nils,[]⟩:=rfl
theorem bt:fg .emp=some ⟨.emp,[]⟩:=rfl
theorem gn(id:Id)(off n:Nat):fg (.osl id off n)=some ⟨.osl id off n,[]⟩:=rfl
def n8(g:G)(newId:Id)(j:TI)(s:AV)(src:List (List AV)):Bool→Option Bf
 |true=>appTo g newId j s src
 |false=>none
def Td(g:G)(newId:Id)(j:TI)(s:AV):Option (List (List AV))→Option Bf
 |none=>none
 |some []=>fg s
 |some (e::es)=>n8 g newId j s (e::es) (DT j.size (e::es)&&decide ((e::es).length≤Ay)&&decide (0<j.size))
theorem Ul(g:G)(newId:Id)(j:TI)(s x:AV):appendV g newId j s x=Td g newId j s (Ch g x):=by
 unfold appendV;cases Ch g x with
 |none=>rfl
 |some src=>
  cases src with
  |nil=>cases s<;>rfl
  |cons e es=>
   simp only[Td,←Jm,El,P2];cases((e::es).all (fun e=>e.length==j.size&&e.all AV.isCell)&&decide ((e::es).length≤Ay)&&decide (0<j.size))<;>rfl
theorem fj(g:G)(newId:Id)(j:TI)(s:AV):Td g newId j s (some [])=fg s:=rfl
theorem O3(g:G)(newId:Id)(j:TI)(s:AV)(e:List AV)(es:List (List AV)):Td g newId j s (some (e::es))=n8 g newId j s (e::es) (DT j.size (e::es)&&decide ((e::es).length≤Ay)&&decide (0<j.size)):=rfl
theorem OH(g:G)(newId:Id)(j:TI)(s:AV)(src:List (List AV)):n8 g newId j s src true=appTo g newId j s src:=rfl
def Q2(newId:Id)(id:Id)(off n sz:Nat)(es:List (List AN))(marks:AB)(ds:List (List AN)):Option (List (List AN))→Option Bf
 |some es'=>some ⟨.osl id off (n+ds.length),marks++[(id,.darr sz es')]⟩
 |none=>if off=0∧n+ds.length≤Ay then some ⟨.osl (1::newId) 0 (n+ds.length),marks++[(id,.fro 0 []),(1::newId,.darr sz (es.take n++ds))]⟩else none
def oU(newId:Id)(id:Id)(off n sz:Nat)(es:List (List AN))(marks:AB):Option (List (List AN))→Option Bf
 |some ds=>if H0 id marks=true then Q2 newId id off n sz es marks ds (Bj es (off+n) ds)else none
 |none=>none
theorem bu(g:G)(newId:Id)(id:Id)(off n sz:Nat)(es:List (List AN))(src:List (List AV)):appIn g newId id off n sz es src=oU newId id off n sz es (src.flatMap (BJ g)) (CC g src):=by
 unfold appIn oU;cases CC g src with
 |none=>rfl
 |some ds=>
  cases H0 id (src.flatMap (BJ g))with
  |false=>rfl
  |true=>
   simp only[if_true,Q2];cases Bj es (off+n) ds with
   |some es'=>rfl
   |none=>
    simp only[Ff,El];by_cases h1:off=0<;>by_cases h2:n+ds.length≤Ay<;>simp[h1,h2]
theorem aq(newId:Id)(id:Id)(off n sz:Nat)(es:List (List AN))(marks:AB)(ds:List (List AN)):oU newId id off n sz es marks (some ds)=if H0 id marks=true then Q2 newId id off n sz es marks ds (Bj es (off+n) ds)else none:=rfl
theorem WF(newId:Id)(id:Id)(off n sz:Nat)(es:List (List AN))(marks:AB)(ds es':List (List AN)):Q2 newId id off n sz es marks ds (some es')=some ⟨.osl id off (n+ds.length),marks++[(id,.darr sz es')]⟩:=rfl
theorem VS(newId:Id)(id:Id)(off n sz:Nat)(es:List (List AN))(marks:AB)(ds:List (List AN)):Q2 newId id off n sz es marks ds none=if off=0∧n+ds.length≤Ay then some ⟨.osl (1::newId) 0 (n+ds.length),marks++[(id,.fro 0 []),(1::newId,.darr sz (es.take n++ds))]⟩else none:=rfl
theorem X4(id:Id):H0 id []=true:=by simp[H0]
def dE(g:G)(newId:Id)(j:TI)(id:Id)(off n:Nat)(src:List (List AV)):Option Obj→Option Bf
 |some (.darr sz es)=>if sz=j.size∧off+n≤es.length then appIn g newId id off n sz es src else none
 |some (.arr sz es)=>if sz=j.size∧off+n≤es.length then appMix newId id off n sz es src else none
 |_=>none
theorem T8(g:G)(newId:Id)(j:TI)(src:List (List AV)):appTo g newId j .nils src=newArr g newId j src:=rfl
theorem aj(g:G)(newId:Id)(j:TI)(src:List (List AV)):appTo g newId j .emp src=newArr g newId j src:=rfl
theorem Xn(g:G)(newId:Id)(j:TI)(id:Id)(off n:Nat)(src:List (List AV)):appTo g newId j (.osl id off n) src=dE g newId j id off n src (g id):=by
 simp only[appTo];cases g id with
 |none=>rfl
 |some o=>
  cases o with
  |darr sz es=>
   simp only[dE,Ff,El];by_cases h1:sz=j.size<;>by_cases h2:off+n≤es.length<;>simp[h1,h2]
  |arr sz es=>
   simp only[dE,Ff,El];by_cases h1:sz=j.size<;>by_cases h2:off+n≤es.length<;>simp[h1,h2]
  |_=>rfl
theorem X7(g:G)(newId:Id)(j:TI)(id:Id)(off n:Nat)(src:List (List AV))(sz:Nat)(es:List (List AN)):dE g newId j id off n src (some (.darr sz es))=if sz=j.size∧off+n≤es.length then appIn g newId id off n sz es src else none:=rfl
theorem fM(g:G)(newId:Id)(j:TI)(id:Id)(off n:Nat)(src:List (List AV))(sz:Nat)(es:List (List AV)):dE g newId j id off n src (some (.arr sz es))=if sz=j.size∧off+n≤es.length then appMix newId id off n sz es src else none:=rfl
theorem aa(g:G)(es:List (List AN)):Ch g (.d (.lst es))=some (es.map (·.map .d)):=rfl
theorem US(g:G):Ch g .nils=some []:=rfl
theorem ab(g:G):Ch g .emp=some []:=rfl
def kT(off n:Nat):Option Obj→Option (List (List AV))
 |some (.darr _ es)=>Gq (es.map (·.map .d)) off n
 |some (.fro _ es)=>Gq (es.map (·.map .d)) off n
 |some (.arr _ es)=>Gq es off n
 |_=>none
theorem YD(g:G)(id:Id)(off n:Nat):Ch g (.osl id off n)=kT off n (g id):=by
 simp only[Ch];cases g id with
 |none=>rfl
 |some o=>cases o<;>rfl
theorem ZV(off n sz:Nat)(es:List (List AN)):kT off n (some (.darr sz es))=Gq (es.map (·.map .d)) off n:=rfl
theorem cy(off n sz:Nat)(es:List (List AN)):kT off n (some (.fro sz es))=Gq (es.map (·.map .d)) off n:=rfl
theorem fy(off n sz:Nat)(es:List (List AV)):kT off n (some (.arr sz es))=Gq es off n:=rfl
def cF(ok:Bool)(r:Option AV):Option TI→Option Bf
 |some j=>HO ok r j
 |none=>none
def W4(T:TypeId→Option TI)(i:TI)(ok:Bool):Option (Option AV)→Option Bf
 |some r=>cF ok r (T i.elem)
 |none=>none
def We(T:TypeId→Option TI)(x:AN)(ok:Bool)(i:TI):Option Obj→Option Bf
 |some (.map es)=>W4 T i ok (B4 es x)
 |_=>none
def XB(T:TypeId→Option TI)(g:G)(id:Id)(x:AN)(ok:Bool)(i:TI):Bool→Option Bf
 |true=>We T x ok i (g id)
 |false=>none
def b7(T:TypeId→Option TI)(g:G)(id:Id)(x:AN)(ok:Bool)(i:TI):TK→Option TI→Option Bf
 |.map,some kt=>XB T g id x ok i (Gl kt.kind x)
 |_,_=>none
theorem S3(T:TypeId→Option TI)(g:G)(id:Id)(x:AN)(ok:Bool)(i:TI):Da T g (.mp id) (.d x) ok (some i)=b7 T g id x ok i i.kind (T i.key):=by
 unfold Da;simp only[IR];cases hk:i.kind with
 |map=>
  cases T i.key with
  |none=>rfl
  |some kt=>
   simp only[b7];cases Gl kt.kind x with
   |false=>rfl
   |true=>
    simp only[XB];cases g id with
    |none=>rfl
    |some o=>
     cases o with
     |map es=>
      simp only[We];cases B4 es x with
      |none=>rfl
      |some r=>
       simp only[W4];cases T i.elem<;>rfl
     |_=>rfl
 |_=>rfl
theorem YU(T:TypeId→Option TI)(g:G)(id:Id)(x:AN)(ok:Bool)(i kt:TI):b7 T g id x ok i .map (some kt)=XB T g id x ok i (Gl kt.kind x):=rfl
theorem VK(T:TypeId→Option TI)(g:G)(id:Id)(x:AN)(ok:Bool)(i:TI):XB T g id x ok i true=We T x ok i (g id):=rfl
theorem ZQ(T:TypeId→Option TI)(x:AN)(ok:Bool)(i:TI)(es:List (AN×AV)):We T x ok i (some (.map es))=W4 T i ok (B4 es x):=rfl
theorem Uk(T:TypeId→Option TI)(ok:Bool)(i:TI)(r:Option AV):W4 T i ok (some r)=cF ok r (T i.elem):=rfl
theorem TW(ok:Bool)(r:Option AV)(j:TI):cF ok r (some j)=HO ok r j:=rfl
theorem eB(v:AV)(j:TI):HO false (some v) j=some ⟨v,[]⟩:=by
 unfold HO;cases Dq j.agg j.zero<;>rfl
def cp(ok:Bool):Option AV→Option Bf
 |some z=>match ok with
  |true=>some ⟨.tup [z,.d (.bool false)],[]⟩
  |false=>some ⟨z,[]⟩
 |none=>none
theorem gi(ok:Bool)(j:TI):HO ok none j=cp ok (Dq j.agg j.zero):=by
 unfold HO;cases Dq j.agg j.zero<;>cases ok<;>rfl
theorem kR(z:AV):cp true (some z)=some ⟨.tup [z,.d (.bool false)],[]⟩:=rfl
theorem kF(z:AV):cp false (some z)=some ⟨z,[]⟩:=rfl
theorem VF(x:AN):B4 [] x=some none:=rfl
attribute [go_sem] S3 YU VK ZQ Uk TW eB gi kR kF Gl VF
theorem UF{α:Type}{f:α→List AN}{l:List α}{g:G}{sz:Nat}{k:IntKind}{m:Int}(hf: ∀a,(f a).length=sz)(h0:0≤m)(hm:m≤l.length):E1 g .slice sz (.d (.lst (l.map f))) none (some (.d (.int k m))) none=some (.d (.lst ((l.take m.toNat).map f))):=by
 have hb:EF none (some (.d (.int k m))) none (l.map f).length=some (0,m.toNat,none):=by
  simp[EF,Hg,IL,h0]
 have he:I4 sz (l.map f)=true:=by
  cases l with
  |nil=>rfl
  |cons a l=>simp only[List.map_cons,I4,Ff,decide_eq_true_eq];exact hf a
 show Ku sz (l.map f) (EF none (some (.d (.int k m))) none (l.map f).length)=_;rw[hb];have hr:Nat.ble m.toNat (l.map f).length=true:=by rw[El];simp;omega
 simp only[Ku,hr,he,Bool.and_self,List.drop_zero,Nat.sub_zero,List.map_take]
def si(id:Id)(off:Nat)(cells:List AV):Option Obj→Option Bf
 |some (.box cs)=>(Bj cs off cells).map fun cs'=>⟨.undef,[(id,.box cs')]⟩
 |_=>none
def ra(id:Id)(k off sz:Nat)(es:List (List AN))(marks:AB):Option (List AN)→Option (List AN)→Option Bf
 |some e,some ds=>if H0 id marks=true then(Bj e off ds).map fun e'=>⟨.undef,marks++[(id,.darr sz (es.set k e'))]⟩else none
 |_,_=>none
def rk(id:Id)(k off sz:Nat)(es:List (List AV))(cells:List AV):Option (List AV)→Option Bf
 |some e=>(Bj e off cells).map fun e'=>⟨.undef,[(id,.arr sz (es.set k e'))]⟩
 |none=>none
def rN(g:G)(id:Id)(k off:Nat)(cells:List AV):Option Obj→Option Bf
 |some (.darr sz es)=>ra id k off sz es (BJ g cells) es[k]? (CK g cells)
 |some (.arr sz es)=>rk id k off sz es cells es[k]?
 |_=>none
theorem XP(g:G)(i:TI)(id:Id)(off:Nat)(v:AV):F6 g i (.ptr id off) v=if v.cells.length=i.size∧v.cells.all AV.isCell=true then si id off v.cells (g id)else none:=by
 unfold F6;by_cases h:v.cells.length=i.size∧v.cells.all AV.isCell=true
 .have:(v.cells.length==i.size&&v.cells.all AV.isCell)=true:=by simp[h.1,h.2]
  rw[this,if_pos h];simp only;cases g id with
  |none=>rfl
  |some o=>cases o<;>rfl
 .have:(v.cells.length==i.size&&v.cells.all AV.isCell)=false:=by
   rw[Bool.and_eq_false_iff];by_cases h1:v.cells.length=i.size
   .exact .inr (by simpa using fun h2=>h ⟨h1,h2⟩)
   .exact .inl (by simpa using h1)
  rw[this,if_neg h]
theorem To(g:G)(i:TI)(id:Id)(k off:Nat)(v:AV):F6 g i (.eptr id k off) v=if v.cells.length=i.size∧v.cells.all AV.isCell=true then rN g id k off v.cells (g id)else none:=by
 unfold F6;by_cases h:v.cells.length=i.size∧v.cells.all AV.isCell=true
 .have:(v.cells.length==i.size&&v.cells.all AV.isCell)=true:=by simp[h.1,h.2]
  rw[this,if_pos h];simp only;cases g id with
  |none=>rfl
  |some o=>
   cases o with
   |darr sz es=>
    simp only[rN,ra];cases es[k]? with
    |none=>cases CK g v.cells<;>rfl
    |some e=>
     cases CK g v.cells with
     |none=>rfl
     |some ds=>cases H0 id (BJ g v.cells)<;>rfl
   |arr sz es=>
    simp only[rN,rk];cases es[k]? <;>rfl
   |_=>rfl
 .have:(v.cells.length==i.size&&v.cells.all AV.isCell)=false:=by
   rw[Bool.and_eq_false_iff];by_cases h1:v.cells.length=i.size
   .exact .inr (by simpa using fun h2=>h ⟨h1,h2⟩)
   .exact .inl (by simpa using h1)
  rw[this,if_neg h]
theorem jU(id:Id)(off:Nat)(cells cs:List AV):si id off cells (some (.box cs))=(Bj cs off cells).map fun cs'=>⟨.undef,[(id,.box cs')]⟩:=rfl
theorem cM(g:G)(id:Id)(k off sz:Nat)(cells:List AV)(es:List (List AN)):rN g id k off cells (some (.darr sz es))=ra id k off sz es (BJ g cells) es[k]? (CK g cells):=rfl
theorem lK(g:G)(id:Id)(k off sz:Nat)(cells:List AV)(es:List (List AV)):rN g id k off cells (some (.arr sz es))=rk id k off sz es cells es[k]? :=rfl
theorem fD(id:Id)(k off sz:Nat)(es:List (List AN))(marks:AB)(e ds:List AN):ra id k off sz es marks (some e) (some ds)=if H0 id marks=true then(Bj e off ds).map fun e'=>⟨.undef,marks++[(id,.darr sz (es.set k e'))]⟩else none:=rfl
theorem ew(id:Id)(k off sz:Nat)(es:List (List AV))(cells e:List AV):rk id k off sz es cells (some e)=(Bj e off cells).map fun e'=>⟨.undef,[(id,.arr sz (es.set k e'))]⟩:=rfl
attribute [go_sem] XP To jU cM lK fD ew
def rt(g:G)(newId:Id)(n:Int):TK→Option TI→Option Bf
 |.slice,some j=>if 0≤n∧n≤Ay then ED g newId n.toNat j else none
 |_,_=>none
theorem jw(T:TypeId→Option TI)(g:G)(newId:Id)(k k':IntKind)(n:Int)(i:TI):Bw T g newId (.d (.int k n)) (.d (.int k' n)) (some i)=rt g newId n i.kind (T i.elem):=by
 obtain⟨kd,sz,ag,st,z,fl,el,ky,mx⟩:=i;unfold Bw;simp only;cases kd with
 |slice=>
  cases T el with
  |none=>rfl
  |some j=>simp only[rt,true_and]
 |_=>rfl
theorem nV(g:G)(newId:Id)(n:Int)(j:TI):rt g newId n .slice (some j)=if 0≤n∧n≤Ay then ED g newId n.toNat j else none:=rfl
def jN:List AV→Option (List AN)
 |[]=>some []
 |.d x::l=>(jN l).map (x:: ·)
 |_=>none
theorem TB: ∀{l:List AV} {ds:List AN},jN l=some ds→l=ds.map .d
 |[],ds,h=>by cases h;rfl
 |v::l,ds,h=>by
  cases v<;>simp[jN]at h;obtain⟨ds',h1,rfl⟩:=h;rw[TB h1];rfl
theorem LK{g:G}{newId:Id}{n:Nat}{j:TI}{zs:List AN}(hn:0<n)(hmax:n≤Ay)(hz:jN j.zero=some zs)(hl:j.zero.length=j.size)(h0:0<j.size)(hm:j.mix=false):ED g newId n j=some ⟨.osl (1::newId) 0 n,[(1::newId,.darr j.size (List.replicate n zs))]⟩:=by
 obtain⟨m,rfl⟩: ∃m,n=m+1:=⟨n-1,by omega⟩;have e:=TB hz;have e2:List.replicate (m+1) j.zero=(List.replicate (m+1) zs).map (·.map AV.d):=by rw[List.map_replicate,e]
 show newArr g newId j (List.replicate (m+1) j.zero)=_;rw[PP,e2];have h1:DT j.size ((List.replicate (m+1) zs).map (·.map AV.d))=true:=by
  have hz2:zs.length=j.size:=by rw[←hl,e];simp
  generalize m+1=k;induction k with
  |zero=>simp[DT]
  |succ k ih=>rw[List.replicate_succ,List.map_cons,Fg,ih,U1,List.length_map,hz2];simp
 rw[h1,decide_eq_true h0];have h2:((List.replicate (m+1) zs).map (·.map AV.d)).length≤Ay:=by simpa using hmax
 rw[decide_eq_true h2,hm];simp only[Bool.and_self,Ol,Ml,Js,IA,OS,List.nil_append,List.length_map,List.length_replicate]
theorem Z1(g:G)(newId:Id)(j:TI):ED g newId 0 j=some ⟨.emp,[]⟩:=rfl
theorem AC{n:Nat}(h:n≤1073741824):((n:Int)≤(Ay:Int))=True:=eq_true (by unfold Ay;omega)
attribute [go_sem] jw nV Z1 Nat.zero_add
attribute [go_sem] Option.map_none Ra Y8 NM R9 Xw MD gQ WS Yu Nd Js Vc LX jZ UV YS Xy Ta bI LS IA TO Fg PP Ol ba Ml OS N5 Nt Rf Yy bt gn Ul fj O3 OH bu aq WF VS X4 T8 aj Xn X7 fM aa US ab YD ZV cy fy Nat.one_mul Nat.mul_one Nat.reduceMul
end Go.Abs
namespace Go.Abs
variable{C:Bk}{K:AH}{fr:Fr}{bl:Nat}{Q:Cq→St→Prop}
theorem GA{α:Type}{l:List α}{i:Nat}{x:α}(h:l[i]? =some x):l.drop i=x::l.drop (i+1):=by
 have hi:=(List.getElem?_eq_some_iff.1 h).1;rw[List.drop_eq_getElem_cons hi];congr 1;have:=List.getElem?_eq_getElem hi;rw[h]at this;injection this with this
 exact this.symm
theorem Ad{α β:Type}{x:Code}(l:List α)(S:Nat→β→St)(Inv:Nat→List α→β→Prop)(b0:β)(h0:Inv 0 l b0)
 (step: ∀(i:Nat) (y:α) (b:β),l[i]? =some y→i<l.length→(i:Int)<(l.length:Int)→Inv i (y::l.drop (i+1)) b→AA (∀b',Inv (i+1) (l.drop (i+1)) b'→ZT C K fr bl x (S (i+1) b') Q)→Wp C K fr bl x (S i b) (IT C K fr bl x Q))
 (done: ∀(i:Nat) (b:β),AA (i=l.length)→ ¬(i:Int)<(l.length:Int)→Inv i [] b→Wp C K fr bl x (S i b) (IT C K fr bl x Q)):ZT C K fr bl x (S 0 b0) Q:=by
 refine rounds (S:=fun a:Nat×β=>S a.1 a.2) (Inv:=fun a=>a.1≤l.length∧Inv a.1 (l.drop a.1) a.2) (m:=fun a=>l.length-a.1) (a:=(0,b0)) ⟨by simp,by simpa using h0⟩ ?_;rintro⟨i,b⟩ ⟨h1,h2⟩ IH;dsimp only at*;by_cases hi:i<l.length
 .obtain⟨y,hy⟩: ∃y,l[i]? =some y:=⟨_,List.getElem?_eq_getElem hi⟩;rw[GA hy]at h2;exact step i y b hy hi (by omega) h2 ⟨fun b' hb=>IH.out (i+1,b') (by dsimp only;omega) ⟨by dsimp only;omega,hb⟩⟩
 .have:i=l.length:=by omega
  rw[List.drop_eq_nil_of_le (by omega)]at h2;exact done i b ⟨this⟩ (by omega) h2
end Go.Abs
namespace Go.Abs
variable{C:Bk}{K:AH}{fr:Fr}{bl:Nat}{Q:Cq→St→Prop}
theorem AO{α β:Type}{x:Code}(l:List α)(m:Int)(S:Int→Nat→β→St)(Inv:Nat→List α→β→Prop)(b0:β)(hm:m=l.length)(h0:Inv 0 l b0)
 (step: ∀(i:Nat) (y:α) (b:β),l[i]? =some y→i<l.length→(i:Int)<m→Inv i (y::l.drop (i+1)) b→AA (∀b',Inv (i+1) (l.drop (i+1)) b'→ZT C K fr bl x (S m (i+1) b') Q)→Wp C K fr bl x (S m i b) (IT C K fr bl x Q))
 (done: ∀(i:Nat) (b:β),AA (i=l.length)→ ¬(i:Int)<m→Inv i [] b→Wp C K fr bl x (S m i b) (IT C K fr bl x Q)):ZT C K fr bl x (S m 0 b0) Q:=
 Ad l (S m) Inv b0 h0 (fun i y b h1 h2 h3 h4 h5=>step i y b h1 h2 (by omega) h4 h5) (fun i b h1 h2 h3=>done i b h1 (by have:=h1.out;omega) h3)
end Go.Abs
namespace Go.Abs
variable{P:Program}{C:Bk}
theorem EB{f:FuncId}{fn:Func}{c:Code}{rs:List ResultVar}{args:List AV}{π:List Nat}{Post:AQ×AB→Prop}(hg:C.good f=true)(hf:P.funcs[f]? =some fn)(hb:fn.body=some c)(hr:fn.results.toList=rs)(hl:Nat.ble args.length fn.ntmps=true)
 (hw:Wp C (KL P C) {f,π,raw:=false,prot:=none,nt:=fn.ntmps} 0 c ⟨Cz 0 args,[],0,[]⟩ (VT C none rs π false fun o' h'=>Post (nS (o',h')))): ∃r,Au (KL P C) f args π=.ok r∧Post r:=by
 obtain⟨o',h',e,h2⟩:=A0 hg hf hb hr hl hw;unfold Au;rw[e];exact⟨_,rfl,h2⟩
end Go.Abs
namespace Go.Abs
variable{C:Bk}{K:AH}{fr:Fr}{bl:Nat}{Q:Cq→St→Prop}
end Go.Abs
namespace Go.Abs
variable{P:Program}{C:Bk}{K:AH}{fr:Fr}{b n i:Nat}{Q:Cq→St→Prop}
variable{ops:Array Oper}{al:Nat→Bool}{l:List Oper}{e:BI}{h:AB}{bs:Nat}{ds:List Df}{ps:List (Nat×Nat)}{fps:List Fp}{ρ:List Nat}{dst:Option Tmp}
def nM(C:Bk)(K:AH)(fr:Fr)(ops:Array Oper)(b n:Nat)(al:Nat→Bool)(l:List Oper)(i:Nat)(dst:Option Tmp)(ρ:List Nat)(e:BI)(h:AB)(bs:Nat)(ds:List Df)(Q:Cq→St→Prop)(args:List AV)(v:AV):Option FuncId→Prop
 |some f=>M8 C K fr ops b n al l i dst ρ e h bs ds Q args (.fn f [v] [])
 |none=>False
def sB(C:Bk)(K:AH)(fr:Fr)(ops:Array Oper)(b n:Nat)(al:Nat→Bool)(l:List Oper)(i:Nat)(dst:Option Tmp)(ρ:List Nat)(e:BI)(h:AB)(bs:Nat)(ds:List Df)(Q:Cq→St→Prop)(m:String)(args:List AV):AV→Prop
 |.iface t v=>nM C K fr ops b n al l i dst ρ e h bs ds Q args v (C.meth t m)
 |_=>False
theorem WT(m:String)(args:List AV)(t:TypeId)(v:AV):sB C K fr ops b n al l i dst ρ e h bs ds Q m args (.iface t v)=nM C K fr ops b n al l i dst ρ e h bs ds Q args v (C.meth t m):=rfl
theorem aA(args:List AV)(v:AV)(f:FuncId):nM C K fr ops b n al l i dst ρ e h bs ds Q args v (some f)=M8 C K fr ops b n al l i dst ρ e h bs ds Q args (.fn f [v] []):=rfl
def mr(C:Bk)(K:AH)(fr:Fr)(ops:Array Oper)(b n:Nat)(al:Nat→Bool)(ps:List (Nat×Nat))(fps:List Fp)(l:List Oper)(i:Nat)(dst:Option Tmp)(ρ:List Nat)(e:BI)(h:AB)(bs:Nat)(ds:List Df)(Q:Cq→St→Prop)(args:List AV)(v:AV):Option FuncId→Prop
 |some f=>TS C K fr ops b n al ps fps l i dst ρ e h bs ds Q args (.fn f [v] [])
 |none=>False
def nf(C:Bk)(K:AH)(fr:Fr)(ops:Array Oper)(b n:Nat)(al:Nat→Bool)(ps:List (Nat×Nat))(fps:List Fp)(l:List Oper)(i:Nat)(dst:Option Tmp)(ρ:List Nat)(e:BI)(h:AB)(bs:Nat)(ds:List Df)(Q:Cq→St→Prop)(m:String)(args:List AV):AV→Prop
 |.iface t v=>mr C K fr ops b n al ps fps l i dst ρ e h bs ds Q args v (C.meth t m)
 |_=>False
theorem cJ(r:Operand)(m:String)(az:Array Operand)(ts:Array TypeId):BX C K fr ops b n al ps fps l i Q (Ai C K fr ρ (.call ⟨.invoke r m,az,ts⟩) dst ⟨e,h,bs,ds⟩)=nf C K fr ops b n al ps fps l i dst ρ e h bs ds Q m (az.toList.map (ev e.get)) (ev e.get r):=by
 simp only[Ai];cases ev e.get r with
 |iface t v=>
  simp only[D2,nf];cases C.meth t m with
  |none=>rfl
  |some f=>rfl
 |_=>rfl
theorem Vr(m:String)(args:List AV)(t:TypeId)(v:AV):nf C K fr ops b n al ps fps l i dst ρ e h bs ds Q m args (.iface t v)=mr C K fr ops b n al ps fps l i dst ρ e h bs ds Q args v (C.meth t m):=rfl
theorem YE(args:List AV)(v:AV)(f:FuncId):mr C K fr ops b n al ps fps l i dst ρ e h bs ds Q args v (some f)=TS C K fr ops b n al ps fps l i dst ρ e h bs ds Q args (.fn f [v] []):=rfl
def TL(C:Bk)(K:AH)(fr:Fr)(ops:Array Oper)(b n:Nat)(al:Nat→Bool)(ps:List (Nat×Nat))(fps:List Fp)(l:List Oper)(i:Nat)(dst:Option Tmp)(ρ:List Nat)(e:BI)(h:AB)(bs:Nat)(ds:List Df)(Q:Cq→St→Prop):E (AQ×AB)→Prop
 |.ok (.ret v,h')=>ET C K fr ops b n al ps (fps++[⟨none,some (Qp h (gc ρ h'))⟩]) l (i+1) ⟨Bi e dst v,gc ρ h',bs,ds⟩ Q
 |.ok (.pan v,h')=>al i=true∧Cc fps ps=true∧Q (.pan v) ⟨e,gc ρ h',b+n,ds⟩
 |.err _=>False
theorem iE(dst:Option Tmp)(ρ:List Nat)(v:AV)(h':AB):TL C K fr ops b n al ps fps l i dst ρ e h bs ds Q (.ok (.ret v,h'))=ET C K fr ops b n al ps (fps++[⟨none,some (Qp h (gc ρ h'))⟩]) l (i+1) ⟨Bi e dst v,gc ρ h',bs,ds⟩ Q:=rfl
theorem fZ(dst:Option Tmp)(ρ:List Nat)(v:AV)(h':AB):TL C K fr ops b n al ps fps l i dst ρ e h bs ds Q (.ok (.pan v,h'))=(al i=true∧Cc fps ps=true∧Q (.pan v) ⟨e,gc ρ h',b+n,ds⟩):=rfl
theorem PF{Post:AQ→AB→Prop}{dst:Option Tmp}{ρ:List Nat}{q:E (AQ×AB)}(hk: ∃o h',q=.ok (o,h')∧Post o h')(hn: ∀o h',Post o h'→TL C K fr ops b n al ps fps l i dst ρ e h bs ds Q (.ok (o,h'))):TL C K fr ops b n al ps fps l i dst ρ e h bs ds Q q:=by
 obtain⟨o,h',e,hp⟩:=hk;rw[e];exact hn o h' hp
theorem WP(dst:Option Tmp)(ρ:List Nat)(f:FuncId)(az:List AV)(hx:(Cn h.get az).isNone):JM C K fr ops b n al ps fps l i dst ρ e h bs ds Q f az .auto=(GW fr.prot (az.flatMap (mark h.get))=true∧TL C K fr ops b n al ps fps l i dst ρ e h bs ds Q (K (.fn f) (IB h.get az) (h.puts (az.flatMap (mark h.get))) ρ true fr.prot)):=by
 have hx:Cn h.get az=none:=by simpa using hx
 simp only[JM,Cf,hx,Dh,Aq,BD,AR];cases hw:GW fr.prot (az.flatMap (mark h.get))with
 |true=>
  simp only[true_and];cases K (.fn f) (IB h.get az) (h.puts (az.flatMap (mark h.get))) ρ true fr.prot with
  |err l=>rfl
  |ok r=>
   obtain⟨o,h'⟩:=r;cases o<;>simp only[DA,Ah,AR,BX,TL]
 |false=>simp[BX]
theorem Py{dst:Option Tmp}{az:List AV}{v:AV}{p:Prop} [Decidable p](h1: ¬p→CT C K fr ops b n al l i az dst e h bs ds Q (BR v true))(h2:p→CT C K fr ops b n al l i az dst e h bs ds Q (BR v false)):CT C K fr ops b n al l i az dst e h bs ds Q (BR v (!decide p)):=by
 by_cases hp:p
 .rw[decide_eq_true hp];exact h2 hp
 .rw[decide_eq_false hp];exact h1 hp
theorem QJ{dst:Option Tmp}{az:List AV}{v:AV}{p:Prop} [Decidable p](h1: ¬p→CS C K fr ops b n al ps fps l i az dst e h bs ds Q (BR v true))(h2:p→CS C K fr ops b n al ps fps l i az dst e h bs ds Q (BR v false)):CS C K fr ops b n al ps fps l i az dst e h bs ds Q (BR v (!decide p)):=by
 by_cases hp:p
 .rw[decide_eq_true hp];exact h2 hp
 .rw[decide_eq_false hp];exact h1 hp
theorem WM{dst:Option Tmp}{az:List AV}{v:AV}{t:Bool}(h1:t=true→CS C K fr ops b n al ps fps l i az dst e h bs ds Q (BR v true))(h2:t=false→CS C K fr ops b n al ps fps l i az dst e h bs ds Q (BR v false)):CS C K fr ops b n al ps fps l i az dst e h bs ds Q (BR v t):=by
 cases t
 .exact h2 rfl
 .exact h1 rfl
theorem Qr{dst:Option Tmp}{az:List AV}{v:AV}{p:Prop} [Decidable p](h1:p→CS C K fr ops b n al ps fps l i az dst e h bs ds Q (BR v true))(h2: ¬p→CS C K fr ops b n al ps fps l i az dst e h bs ds Q (BR v false)):CS C K fr ops b n al ps fps l i az dst e h bs ds Q (BR v (decide p)):=by
 by_cases hp:p
 .rw[decide_eq_true hp];exact h1 hp
 .rw[decide_eq_false hp];exact h2 hp
theorem WK(a b:List Id):Abs.apart (some a) (some b)=a.all fun x=>b.all fun y=> !Id.is x y:=by
 have key: ∀(x:Id) (m:List Id),(!m.contains x)=m.all fun y=> !Id.is x y:=fun x m=>by
  rw[Bool.eq_iff_iff];simp only[Bool.not_eq_true',List.all_eq_true];constructor
  .intro h y hy;exact AM fun e=>by subst e;simp[hy]at h
  .intro h;cases hc:m.contains x with
   |false=>rfl
   |true=>
    have:=h x (by simpa using hc);rw[is_self]at this;cases this
 unfold Abs.apart;split
 .rename_i h;cases h;rfl
 .rename_i h1 h2;cases h1;simp
 .rename_i h1 h2;cases h1;cases h2;simp only[key]
 .simp_all
theorem Gp(ρ:List Nat)(h:AB)(l:Id):AB.get (gc ρ h) (1::l)=AB.get h (1::l):=Nh (fun id=>match id with|0::l=> !Id.under ρ l|_=>true) h (1::l) rfl
theorem KU(a b:AB)(id:Id):AB.get (a++b) id=(match AB.get a id with|some o=>some o|none=>AB.get b id):=by
 induction a with
 |nil=>rfl
 |cons p a ih=>
  obtain⟨k,x⟩:=p;rw[List.cons_append,BA,BA];split
  .rfl
  .exact ih
theorem A2{a b:AB}{id:Id}(h:AB.get a id=none):AB.get (a++b) id=AB.get b id:=by rw[KU,h]
theorem B6{a b:AB}{id:Id}{o:Obj}(h:AB.get a id=some o):AB.get (a++b) id=some o:=by rw[KU,h]
theorem hQ(g:G)(f:FuncId)(a:List AV)(x:AV)(c:List AV):DW g (.fn f a (x::c))=none:=by cases a<;>rfl
attribute [go_sem] Gp hQ
attribute [go_sem] WK WT aA cJ Vr YE iE fZ WP Ou OG
end Go.Abs
namespace Go.Abs
attribute [go_sem_proc] Nat.reduceEqDiff Nat.reduceAdd Nat.reduceSub Nat.reduceBEq Nat.reduceLeDiff Nat.reduceLT reduceCtorEq Int.reduceEq Int.reduceLT Int.reduceLE Int.reduceNeg Int.reduceToNat Int.reduceAdd Int.reduceSub
attribute [go_sem_proc ↓] reduceIte
attribute [go_sem] Int.cast_ofNat_Int Int.zero_add Nat.le_refl
class Sp(G:Prop)(P N A B:outParam Prop):Prop where
 go:(P→A)→(N→B)→G
theorem sx{G P N A B:Prop} [s:Sp G P N A B](h1:P→A)(h2:N→B):G:=s.go h1 h2
class Sq(G:Prop)(α:outParam Type)(H:outParam Prop)(R M A:outParam (α→Prop)):Prop where
 go:H→(∀x,R x→M x→A x)→G
theorem sy{G:Prop}{α:Type}{H:Prop}{R M A:α→Prop} [s:Sq G α H R M A](h1:H)(h2: ∀x,R x→M x→A x):G:=s.go h1 h2
theorem au{G:Prop}(h:G:=by(repeat' (first|simp only[go_sem, *]|(refine sx ?_ ?_<;>intro hc)|refine sy (by omega) fun x hx hm=>?_|simp(disch:=first|assumption|omega) only[wrap_id,AF,AC,slice_int]))):G:=h
theorem af{G:Prop}(h:G:=by(repeat' (first|simp only[go_sem, *,Bool.false_eq_true]|(refine sx ?_ ?_<;>intro hc)|refine sy (by omega) fun x hx hm=>?_|simp(disch:=first|assumption|omega) only[wrap_id,AF,AC,slice_int]))):G:=h
theorem aw{G R:Prop}(h:R)(e:AA R→G:=by intro q;(repeat' (first|simp only[go_sem, *]|(refine sx ?_ ?_<;>intro hc)|refine sy (by omega) fun x hx hm=>?_|simp(disch:=first|assumption|omega) only[wrap_id,AF,AC,slice_int]));exact q.out):G:=e ⟨h⟩
theorem ax{G R:Prop}(h:R)(e:AA R→G:=by intro q;(repeat' (first|simp only[go_sem, *,Bool.false_eq_true]|(refine sx ?_ ?_<;>intro hc)|refine sy (by omega) fun x hx hm=>?_|simp(disch:=first|assumption|omega) only[wrap_id,AF,AC,slice_int]));exact q.out):G:=e ⟨h⟩
variable{C:Bk}{K:AH}{fr:Fr}{b n i:Nat}{Q:Cq→St→Prop}
variable{ops:Array Oper}{al:Nat→Bool}{l:List Oper}{e:BI}{h:AB}{bs:Nat}{ds:List Df}{ps:List (Nat×Nat)}{fps:List Fp}{dst:Option Tmp}{st:St}{op:Op}{want:Bool}{az:List AV}{v:AV}{t:Bool}{p:Prop}{x y:Code}
instance(priority:=2000) [Decidable p]:Sp (H5 C K fr b x y st Q (.d (.bool (decide p)))) p (¬p) (Wp C K fr b x st Q) (Wp C K fr b y st Q):=⟨Yq⟩
instance(priority:=2000) [Decidable p]:Sp (CB C K fr ops b n al l i dst op st want Q (.d (.bool (decide p)))) p (¬p) (CB C K fr ops b n al l i dst op st want Q (.d (.bool true))) (CB C K fr ops b n al l i dst op st want Q (.d (.bool false))):=⟨U5⟩
instance:Sp (H5 C K fr b x y st Q (.d (.bool t))) (t=true) (t=false) (Wp C K fr b x st Q) (Wp C K fr b y st Q):=⟨RF⟩
instance:Sp (CB C K fr ops b n al l i dst op st want Q (.d (.bool t))) (t=true) (t=false) (CB C K fr ops b n al l i dst op st want Q (.d (.bool true))) (CB C K fr ops b n al l i dst op st want Q (.d (.bool false))):=⟨Po⟩
instance(priority:=2000) [Decidable p]:Sp (CM C K fr ops b n al ps fps l i dst op st want Q (.d (.bool (decide p)))) p (¬p) (CM C K fr ops b n al ps fps l i dst op st want Q (.d (.bool true))) (CM C K fr ops b n al ps fps l i dst op st want Q (.d (.bool false))):=⟨Uj⟩
instance:Sp (CM C K fr ops b n al ps fps l i dst op st want Q (.d (.bool t))) (t=true) (t=false) (CM C K fr ops b n al ps fps l i dst op st want Q (.d (.bool true))) (CM C K fr ops b n al ps fps l i dst op st want Q (.d (.bool false))):=⟨QH⟩
instance(priority:=2000) [Decidable p]:Sp (CT C K fr ops b n al l i az dst e h bs ds Q (BR v (decide p))) p (¬p) (CT C K fr ops b n al l i az dst e h bs ds Q (BR v true)) (CT C K fr ops b n al l i az dst e h bs ds Q (BR v false)):=⟨RM⟩
instance(priority:=2000) [Decidable p]:Sp (CT C K fr ops b n al l i az dst e h bs ds Q (BR v (!decide p))) (¬p) p (CT C K fr ops b n al l i az dst e h bs ds Q (BR v true)) (CT C K fr ops b n al l i az dst e h bs ds Q (BR v false)):=⟨Py⟩
instance:Sp (CT C K fr ops b n al l i az dst e h bs ds Q (BR v t)) (t=true) (t=false) (CT C K fr ops b n al l i az dst e h bs ds Q (BR v true)) (CT C K fr ops b n al l i az dst e h bs ds Q (BR v false)):=⟨Te⟩
instance(priority:=2000) [Decidable p]:Sp (CS C K fr ops b n al ps fps l i az dst e h bs ds Q (BR v (decide p))) p (¬p) (CS C K fr ops b n al ps fps l i az dst e h bs ds Q (BR v true)) (CS C K fr ops b n al ps fps l i az dst e h bs ds Q (BR v false)):=⟨Qr⟩
instance(priority:=2000) [Decidable p]:Sp (CS C K fr ops b n al ps fps l i az dst e h bs ds Q (BR v (!decide p))) (¬p) p (CS C K fr ops b n al ps fps l i az dst e h bs ds Q (BR v true)) (CS C K fr ops b n al ps fps l i az dst e h bs ds Q (BR v false)):=⟨QJ⟩
instance:Sp (CS C K fr ops b n al ps fps l i az dst e h bs ds Q (BR v t)) (t=true) (t=false) (CS C K fr ops b n al ps fps l i az dst e h bs ds Q (BR v true)) (CS C K fr ops b n al ps fps l i az dst e h bs ds Q (BR v false)):=⟨WM⟩
instance{α:Type}{f:α→List AN}{l':List α}{sz j:Nat}:Sq (BG C K fr ops b n al l i dst e h bs ds Q (MA sz (Option.map f l'[j]?))) α (j<l'.length) (fun x=>l'[j]? =some x) (fun x=>x∈l') (fun x=>BG C K fr ops b n al l i dst e h bs ds Q (MA sz (some (f x)))):=⟨fun h1 h2=>YA h1 fun x hx=>h2 x hx (List.mem_of_getElem? hx)⟩
instance{α:Type}{f:α→List AN}{l':List α}{sz j:Nat}{rd:List Id}:Sq (Cd C K fr ops b n al ps fps l i dst e h bs ds Q rd (MA sz (Option.map f l'[j]?))) α (j<l'.length) (fun x=>l'[j]? =some x) (fun x=>x∈l') (fun x=>Cd C K fr ops b n al ps fps l i dst e h bs ds Q rd (MA sz (some (f x)))):=⟨fun h1 h2=>bL h1 fun x hx=>h2 x hx (List.mem_of_getElem? hx)⟩
instance{s:ByteArray}{j:Nat}{f:UInt8→Bf}:Sq (BG C K fr ops b n al l i dst e h bs ds Q (Option.map f s.data.toList[j]?)) UInt8 (j<s.data.toList.length) (fun x=>s.data.toList[j]? =some x) (fun x=>x∈s.data.toList) (fun x=>BG C K fr ops b n al l i dst e h bs ds Q (some (f x))):=⟨fun h1 h2=>Yc h1 fun x hx=>h2 x hx (List.mem_of_getElem? hx)⟩
end Go.Abs
namespace Go.Abs
theorem Ln(sz:Nat)(es:List (List AN))(h: ∀e∈es,e.length=sz):DT sz (es.map fun e=>e.map .d)=true:=by
 induction es with
 |nil=>rfl
 |cons e es ih=>
  rw[List.map_cons,Fg,ih fun e he=>h e (List.mem_cons_of_mem _ he)];simp[h e (by simp),AV.isCell]
theorem YK(g:G)(newId:Id)(j:TI)(s:AV)(es:List (List AN))(h0:0<j.size)(h: ∀e∈es,e.length=j.size)(hn:es≠ [])(hl:es.length≤Ay):Td g newId j s (some (es.map fun e=>e.map .d))=appTo g newId j s (es.map fun e=>e.map .d):=by
 cases es with
 |nil=>exact absurd rfl hn
 |cons e es=>
  have hs:=Ln j.size (e::es) h;rw[List.map_cons]at hs⊢;rw[O3,hs];have:(e.map AV.d::es.map fun e=>e.map AV.d).length≤Ay:=by simpa using hl
  simp only[this,h0,decide_true,Bool.and_self,OH]
theorem Qf(g:G)(newId:Id)(j:TI)(es:List (List AN))(hm:j.mix=false)(h0:0<j.size)(h: ∀e∈es,e.length=j.size)(hl:es.length≤Ay):newArr g newId j (es.map fun e=>e.map .d)=some ⟨.osl (1::newId) 0 es.length,[(1::newId,.darr j.size es)]⟩:=by
 have h1:((es.map fun e=>e.map AV.d).all fun e=>e.length==j.size&&e.all AV.isCell)=true:=by
  rw[Jm];exact Ln _ _ h
 have h2:Nat.blt 0 j.size=true:=by rw[Nat.blt_eq];exact h0
 have h3:Nat.ble es.length Ay=true:=Nat.ble_eq_true_of_le hl;unfold newArr;rw[h1];simp only[List.length_map,h2,h3,Bool.and_self,hm,Js,IA,List.nil_append]
theorem j4(g:G)(newId:Id)(j:TI)(es:List (List AN))(hm:j.mix=false)(h0:0<j.size)(h: ∀e∈es,e.length=j.size)(hn:es≠ [])(hl:es.length≤Ay):Td g newId j .emp (some (es.map fun e=>e.map .d))=some ⟨.osl (1::newId) 0 es.length,[(1::newId,.darr j.size es)]⟩:=by
 rw[YK g newId j .emp es h0 h hn hl];exact Qf g newId j es hm h0 h hl
end Go.Abs
namespace Go.Proofs
open Go Go.Abs
theorem T3:cfg.T 3=(.some ⟨.int,1,false,false,[(.d (.int .i64 0))],[],0,0,false⟩):=by kernel_rfl
theorem T4:cfg.T 4=(.some ⟨.bool,1,false,false,[(.d (.bool false))],[],0,0,false⟩):=by kernel_rfl
theorem T5:cfg.T 5=(.some ⟨.int,1,false,false,[(.d (.int .u8 0))],[],0,0,false⟩):=by kernel_rfl
theorem T9:cfg.T 9=(.some ⟨.str,1,false,false,[(.d (.str ⟨#[]⟩))],[],0,0,false⟩):=by kernel_rfl
theorem s8:cfg.T 22=(.some ⟨.slice,1,false,false,[.nils],[],9,0,false⟩):=by kernel_rfl
theorem s5:cfg.T 23=(.some ⟨.slice,1,false,false,[.nils],[],140,0,false⟩):=by kernel_rfl
theorem tJ:cfg.T 24=(.some ⟨.slice,1,false,false,[.nils],[],147,0,false⟩):=by kernel_rfl
theorem tO:cfg.T 26=(.some ⟨.other,4,true,true,[.nils,.nils,.nils,(.d (.int .i64 0))],[(0,1,false),(1,1,false),(2,1,false),(3,1,false)],0,0,false⟩):=by kernel_rfl
theorem su:cfg.T 27=(.some ⟨.slice,1,false,false,[.nils],[],66,0,false⟩):=by kernel_rfl
theorem s6:cfg.T 28=(.some ⟨.slice,1,false,false,[.nils],[],114,0,false⟩):=by kernel_rfl
theorem tC:cfg.T 29=(.some ⟨.slice,1,false,false,[.nils],[],69,0,false⟩):=by kernel_rfl
theorem tB:cfg.T 30=(.some ⟨.slice,1,false,false,[.nils],[],127,0,false⟩):=by kernel_rfl
theorem tK:cfg.T 32=(.some ⟨.other,4,true,true,[.nils,.nils,.nils,.nils],[(0,1,false),(1,1,false),(2,1,false),(3,1,false)],0,0,false⟩):=by kernel_rfl
theorem tE:cfg.T 33=(.some ⟨.int,1,false,false,[(.d (.int .i64 0))],[],0,0,false⟩):=by kernel_rfl
theorem so:cfg.T 36=(.some ⟨.slice,1,false,false,[.nils],[],3,0,false⟩):=by kernel_rfl
theorem sr:cfg.T 38=(.some ⟨.other,4,true,true,[(.d (.int .i64 0)),(.d (.int .i64 0)),(.d (.int .i64 0)),.nils],[(0,1,false),(1,1,false),(2,1,false),(3,1,false)],0,0,false⟩):=by kernel_rfl
theorem tF:cfg.T 63=(.some ⟨.slice,1,false,false,[.nils],[],38,0,false⟩):=by kernel_rfl
theorem s7:cfg.T 66=(.some ⟨(.flat [.int,.bool]),2,true,true,[(.d (.int .i64 0)),(.d (.bool false))],[(0,1,false),(1,1,false)],0,0,false⟩):=by kernel_rfl
theorem tG:cfg.T 67=(.some ⟨.slice,1,false,false,[.nils],[],73,0,false⟩):=by kernel_rfl
theorem s9:cfg.T 69=(.some ⟨.other,4,true,true,[(.d (.int .i64 0)),(.d (.int .i64 0)),(.d (.int .i64 0)),.nils],[(0,1,false),(1,1,false),(2,1,false),(3,1,false)],0,0,true⟩):=by kernel_rfl
theorem tA:cfg.T 71=(.some ⟨.slice,1,false,false,[.nils],[],88,0,false⟩):=by kernel_rfl
theorem tM:cfg.T 73=(.some ⟨.other,1,true,true,[.nils],[(0,1,false)],0,0,false⟩):=by kernel_rfl
theorem tD:cfg.T 82=(.some ⟨.int,1,false,false,[(.d (.int .i64 0))],[],0,0,false⟩):=by kernel_rfl
theorem tP:cfg.T 83=(.some ⟨.slice,1,false,false,[.nils],[],85,0,false⟩):=by kernel_rfl
theorem sv:cfg.T 85=(.some ⟨.other,3,true,true,[(.d (.int .i64 0)),(.d (.int .i64 0)),.nils],[(0,1,false),(1,1,false),(2,1,false)],0,0,false⟩):=by kernel_rfl
theorem sn:cfg.T 86=(.some ⟨.int,1,false,false,[(.d (.int .i64 0))],[],0,0,false⟩):=by kernel_rfl
theorem tN:cfg.T 88=(.some ⟨(.flat [.int,.int]),2,true,true,[(.d (.int .i64 0)),(.d (.int .i64 0))],[(0,1,false),(1,1,false)],0,0,false⟩):=by kernel_rfl
theorem rz:cfg.T 114=(.some ⟨.other,3,true,true,[(.d (.int .i64 0)),(.d (.int .i64 0)),.nils],[(0,1,false),(1,1,false),(2,1,false)],0,0,false⟩):=by kernel_rfl
theorem ru:cfg.T 122=(.some ⟨.map,1,false,false,[(.d .nilm)],[],198,138,false⟩):=by kernel_rfl
theorem sK:cfg.T 124=(.some ⟨.other,13,true,true,[.nils,.nils,.nils,.nils,.nils,.nils,.nils,(.d (.int .i64 0)),.nils,.nils,(.d .nilm),.nils,(.d (.int .i64 0))],[(0,4,true),(4,4,true),(8,1,false),(9,1,false),(10,1,false),(11,1,false),(12,1,false)],0,0,false⟩):=by kernel_rfl
theorem sN:cfg.T 127=(.some ⟨.other,3,true,true,[(.d (.int .i64 0)),(.d (.int .i64 0)),.nils],[(0,1,false),(1,1,false),(2,1,false)],0,0,false⟩):=by kernel_rfl
theorem sW:cfg.T 138=(.some ⟨.int,1,false,false,[(.d (.int .i64 0))],[],0,0,false⟩):=by kernel_rfl
theorem rq:cfg.T 140=(.some ⟨.other,4,true,true,[(.d (.int .i64 0)),(.d (.int .i64 0)),.nils,.nils],[(0,1,false),(1,1,false),(2,1,false),(3,1,false)],0,0,false⟩):=by kernel_rfl
theorem sg:cfg.T 143=(.some ⟨.slice,1,false,false,[.nils],[],187,0,false⟩):=by kernel_rfl
theorem sR:cfg.T 144=(.some ⟨.slice,1,false,false,[.nils],[],189,0,false⟩):=by kernel_rfl
theorem sX:cfg.T 145=(.some ⟨.slice,1,false,false,[.nils],[],151,0,false⟩):=by kernel_rfl
theorem sG:cfg.T 147=(.some ⟨.other,3,true,true,[.nils,.nils,.nils],[(0,1,false),(1,1,false),(2,1,false)],0,0,false⟩):=by kernel_rfl
theorem sF:cfg.T 151=(.some ⟨.other,3,true,true,[(.d (.int .i64 0)),.nils,(.d (.int .i64 0))],[(0,1,false),(1,1,false),(2,1,false)],0,0,false⟩):=by kernel_rfl
theorem sH:cfg.T 162=(.some ⟨.other,8,true,true,[.nils,.nils,.nils,(.d (.int .i64 0)),.nils,.nils,.nils,(.d (.bool false))],[(0,4,true),(4,1,false),(5,1,false),(6,1,false),(7,1,false)],0,0,false⟩):=by kernel_rfl
theorem r7:cfg.T 177=(.some ⟨(.flat [.int]),1,true,true,[(.d (.int .i64 0))],[(0,1,false)],0,0,false⟩):=by kernel_rfl
theorem sT:cfg.T 180=(.some ⟨.func,1,false,false,[(.d .nilf)],[],0,0,false⟩):=by kernel_rfl
theorem sY:cfg.T 187=(.some ⟨(.flat [.int,.int]),2,true,true,[(.d (.int .i64 0)),(.d (.int .i64 0))],[(0,1,false),(1,1,false)],0,0,false⟩):=by kernel_rfl
theorem r8:cfg.T 189=(.some ⟨(.flat [.int,.int]),2,true,true,[(.d (.int .i64 0)),(.d (.int .i64 0))],[(0,1,false),(1,1,false)],0,0,false⟩):=by kernel_rfl
theorem sO:cfg.T 246=(.some ⟨.slice,1,false,false,[.nils],[],4,0,false⟩):=by kernel_rfl
theorem ry:cfg.T 248=(.some ⟨.other,7,true,true,[.nils,.nils,.nils,(.d (.int .i64 0)),.nils,.nils,.nils],[(0,4,true),(4,1,false),(5,1,false),(6,1,false)],0,0,false⟩):=by kernel_rfl
theorem sZ:cfg.T 249=(.some ⟨.func,1,false,false,[(.d .nilf)],[],0,0,false⟩):=by kernel_rfl
theorem sh:cfg.T 289=(.some ⟨(.flat [.int]),1,true,true,[(.d (.int .i64 0))],[(0,1,false)],0,0,false⟩):=by kernel_rfl
theorem pQ:cfg.T 300=(.some ⟨.map,1,false,false,[(.d .nilm)],[],4,9,false⟩):=by kernel_rfl
theorem sM:cfg.T 303=(.some ⟨.iface,1,false,false,[(.d .nili)],[],0,0,false⟩):=by kernel_rfl
theorem sV:cfg.T 307=(.some ⟨(.flat []),0,true,true,[],[],0,0,false⟩):=by kernel_rfl
theorem rm:cfg.T 308=(.some ⟨(.flat []),0,true,true,[],[],0,0,false⟩):=by kernel_rfl
theorem rp:cfg.T 309=(.some ⟨(.flat []),0,true,true,[],[],0,0,false⟩):=by kernel_rfl
theorem sS:cfg.T 310=(.some ⟨(.flat []),0,true,true,[],[],0,0,false⟩):=by kernel_rfl
theorem sI:cfg.T 311=(.some ⟨.func,1,false,false,[(.d .nilf)],[],0,0,false⟩):=by kernel_rfl
theorem rr:cfg.T 314=(.some ⟨.int,1,false,false,[(.d (.int .i64 0))],[],0,0,false⟩):=by kernel_rfl
theorem nP:cfg.T 315=(.some ⟨.map,1,false,false,[(.d .nilm)],[],4,3,false⟩):=by kernel_rfl
end Go.Proofs
namespace Go.Proofs
open Go Go.Abs
theorem nm:cfg.mode 15=.auto:=by kernel_rfl
theorem pO:cfg.mode 16=.auto:=by kernel_rfl
theorem oB:cfg.mode 17=.auto:=by kernel_rfl
theorem oN:cfg.mode 18=.auto:=by kernel_rfl
theorem pX:cfg.mode 19=.auto:=by kernel_rfl
theorem od:cfg.mode 20=.auto:=by kernel_rfl
theorem n9:cfg.mode 29=.auto:=by kernel_rfl
theorem ZD:cfg.pairs 29 6=[]:=by kernel_rfl
theorem f9:cfg.live 29 0=[0,1,5]:=by kernel_rfl
theorem mu:cfg.mode 32=.auto:=by kernel_rfl
theorem bZ:cfg.pairs 32 6=[]:=by kernel_rfl
theorem VO:cfg.pairs 32 15=[]:=by kernel_rfl
theorem dS:cfg.live 32 0=[2,3,5]:=by kernel_rfl
theorem dC:cfg.live 32 2=[2,3,6,7]:=by kernel_rfl
theorem ol:cfg.mode 34=.auto:=by kernel_rfl
theorem aX:cfg.pairs 34 5=[]:=by kernel_rfl
theorem Vn:cfg.pairs 34 11=[]:=by kernel_rfl
theorem pN:cfg.mode 38=.auto:=by kernel_rfl
theorem fF:cfg.live 38 0=[1,2,3]:=by kernel_rfl
theorem og:cfg.mode 44=.auto:=by kernel_rfl
theorem oD:cfg.mode 51=.own:=by kernel_rfl
theorem Zz:cfg.pairs 52 9=[]:=by kernel_rfl
theorem Tv:cfg.pairs 52 12=[(4,9)]:=by kernel_rfl
theorem UH:cfg.pairs 52 17=[(5,9)]:=by kernel_rfl
theorem dV:cfg.live 52 0=[0,3,13,18,19,20,102,103,104,105,106,107,108,109]:=by kernel_rfl
theorem fq:cfg.live 52 2=[0,3,13,40,41,42,102,103,104,105,106,107,108,109]:=by kernel_rfl
theorem cL:cfg.live 52 4=[0,3,6,7,13,40,41,42,56,57,58,102,103,104,105,106,107,108,109]:=by kernel_rfl
theorem dP:cfg.live 52 6=[0,3,6,7,8,10,13,40,41,42,56,57,58,77,78,79,102,103,104,105,106,107,108,109]:=by kernel_rfl
theorem nx:cfg.mode 61=.auto:=by kernel_rfl
theorem iA:cfg.live 61 0=[0,17,18]:=by kernel_rfl
theorem fH:cfg.live 61 2=[0,3,4,17,18]:=by kernel_rfl
theorem pd:cfg.mode 62=.auto:=by kernel_rfl
theorem nk:cfg.mode 63=.auto:=by kernel_rfl
theorem dJ:cfg.live 63 0=[0,1,2]:=by kernel_rfl
theorem nG:cfg.mode 64=.auto:=by kernel_rfl
theorem ck:cfg.live 64 0=[1,3]:=by kernel_rfl
theorem fO:cfg.live 64 2=[1,3,4,5]:=by kernel_rfl
theorem pD:cfg.mode 65=.own:=by kernel_rfl
theorem aU:cfg.pairs 65 3=[(0,5)]:=by kernel_rfl
theorem Y9:cfg.pairs 65 8=[]:=by kernel_rfl
theorem fk:cfg.live 65 0=[3,5,25,26,27]:=by kernel_rfl
theorem nh:cfg.mode 67=.auto:=by kernel_rfl
theorem X5:cfg.pairs 67 7=[]:=by kernel_rfl
theorem Ts:cfg.pairs 67 19=[]:=by kernel_rfl
theorem dB:cfg.live 67 0=[2,3,5,6,7,8]:=by kernel_rfl
theorem ec:cfg.live 67 2=[2,3,5,6,7,8,9,10,11,12]:=by kernel_rfl
theorem du:cfg.live 67 4=[2,3,5,6,7,8,10,14]:=by kernel_rfl
theorem nd:cfg.mode 68=.auto:=by kernel_rfl
theorem nO:cfg.mode 69=.auto:=by kernel_rfl
theorem pn:cfg.mode 70=.auto:=by kernel_rfl
theorem aD:cfg.pairs 70 4=[]:=by kernel_rfl
theorem eH:cfg.live 70 0=[2,3,4,7]:=by kernel_rfl
theorem oq:cfg.mode 71=.auto:=by kernel_rfl
theorem o6:cfg.mode 72=.auto:=by kernel_rfl
theorem YC:cfg.pairs 72 4=[(1,6)]:=by kernel_rfl
theorem Tq:cfg.pairs 72 11=[]:=by kernel_rfl
theorem dv:cfg.live 72 0=[5,9,11,12,13,14]:=by kernel_rfl
theorem oQ:cfg.mode 73=.raw:=by kernel_rfl
theorem fW:cfg.live 73 0=[0,1,2,3,4,11]:=by kernel_rfl
theorem nR:cfg.mode 76=.auto:=by kernel_rfl
theorem pB:cfg.mode 83=.own:=by kernel_rfl
theorem aN:cfg.pairs 83 8=[]:=by kernel_rfl
theorem U4:cfg.pairs 83 13=[(6,8),(6,9),(4,10),(5,10),(6,10),(6,12),(10,12),(6,13),(10,13),(4,14),(5,14),(6,14),(8,14),(9,14),(10,14),(8,17),(9,17),(10,17),(12,17),(13,17),(14,17),(12,20),(13,20),(14,20)]:=by kernel_rfl
theorem gy:cfg.live 83 0=[1,3,4]:=by kernel_rfl
theorem d9:cfg.live 83 2=[1,3,5]:=by kernel_rfl
theorem gI:cfg.live 83 4=[3,6]:=by kernel_rfl
theorem cT:cfg.live 83 6=[3,7]:=by kernel_rfl
theorem my:cfg.mode 91=.ro:=by kernel_rfl
theorem Zj:cfg.pairs 91 5=[]:=by kernel_rfl
theorem Uf:cfg.pairs 91 11=[]:=by kernel_rfl
theorem U3:cfg.pairs 91 13=[]:=by kernel_rfl
theorem V9:cfg.pairs 91 14=[(4,9),(6,9),(7,9),(8,9)]:=by kernel_rfl
theorem Ui:cfg.pairs 91 30=[(12,17)]:=by kernel_rfl
theorem Ur:cfg.pairs 91 31=[]:=by kernel_rfl
theorem V1:cfg.pairs 91 38=[]:=by kernel_rfl
theorem UK:cfg.pairs 91 45=[]:=by kernel_rfl
theorem UD:cfg.pairs 91 46=[]:=by kernel_rfl
theorem UA:cfg.pairs 91 51=[]:=by kernel_rfl
theorem cc:cfg.live 91 0=[0,65,66,67]:=by kernel_rfl
theorem dF:cfg.live 91 2=[0,4,5,92,93,94]:=by kernel_rfl
theorem cZ:cfg.live 91 4=[0,4,5,6,7,8,9,92,93,94,155,156]:=by kernel_rfl
theorem fR:cfg.live 91 6=[0,4,5,6,7,8,9,92,93,94,172,173]:=by kernel_rfl
theorem cj:cfg.live 91 8=[0,4,5,6,7,8,92,93,94,192,193,194]:=by kernel_rfl
theorem Zc:cfg.live 91 10=[0,4,5,6,7,8,13,92,93,94,192,193,194,255,256,257]:=by kernel_rfl
theorem Yx:cfg.live 91 12=[0,303,304,305]:=by kernel_rfl
theorem Pl:cfg.alone 91 5 15=true:=by kernel_rfl
theorem Np:cfg.alone 91 11 14=true:=by kernel_rfl
theorem N1:cfg.alone 91 13 11=true:=by kernel_rfl
theorem Nn:cfg.alone 91 30 20=true:=by kernel_rfl
theorem N2:cfg.alone 91 31 23=true:=by kernel_rfl
theorem Ns:cfg.alone 91 45 27=true:=by kernel_rfl
theorem N4:cfg.alone 91 51 11=true:=by kernel_rfl
theorem o5:cfg.mode 92=.own:=by kernel_rfl
theorem Ym:cfg.pairs 92 1=[(2,4),(2,7),(5,7),(2,10),(5,10),(8,10)]:=by kernel_rfl
theorem nL:cfg.mode 93=.ro:=by kernel_rfl
theorem ZH:cfg.pairs 93 1=[(4,9),(6,9),(7,9),(8,9)]:=by kernel_rfl
theorem Yt:cfg.pairs 93 8=[]:=by kernel_rfl
theorem bA:cfg.pairs 93 9=[]:=by kernel_rfl
theorem nQ:cfg.mode 94=.ro:=by kernel_rfl
theorem oV:cfg.mode 95=.ro:=by kernel_rfl
theorem bF:cfg.pairs 95 1=[(4,9),(6,9),(7,9),(8,9)]:=by kernel_rfl
theorem pb:cfg.mode 96=.own:=by kernel_rfl
theorem mR:cfg.mode 107=.auto:=by kernel_rfl
theorem ja:cfg.mode 109=.auto:=by kernel_rfl
theorem kq:cfg.mode 115=.auto:=by kernel_rfl
theorem Tg:cfg.pairs 115 7=[]:=by kernel_rfl
theorem bG:cfg.live 115 0=[1,3,4,5]:=by kernel_rfl
theorem kn:cfg.mode 116=.auto:=by kernel_rfl
theorem UT:cfg.pairs 116 6=[(12,17)]:=by kernel_rfl
theorem QZ:cfg.pairs 116 11=[]:=by kernel_rfl
theorem YN:cfg.live 116 0=[5,6,11,13,14]:=by kernel_rfl
theorem l7:cfg.mode 117=.auto:=by kernel_rfl
theorem mC:cfg.mode 118=.auto:=by kernel_rfl
theorem lU:cfg.mode 121=.auto:=by kernel_rfl
theorem XS:cfg.live 121 0=[1,2,5,6]:=by kernel_rfl
theorem jS:cfg.mode 122=.auto:=by kernel_rfl
theorem YJ:cfg.live 122 0=[1,3,4]:=by kernel_rfl
theorem l6:cfg.mode 123=.auto:=by kernel_rfl
theorem i7:cfg.mode 127=.auto:=by kernel_rfl
theorem aO:cfg.live 127 0=[0,3]:=by kernel_rfl
theorem ju:cfg.mode 128=.auto:=by kernel_rfl
theorem V7:cfg.pairs 128 6=[]:=by kernel_rfl
theorem S4:cfg.pairs 128 24=[]:=by kernel_rfl
theorem X8:cfg.live 128 0=[1,3]:=by kernel_rfl
theorem Xr:cfg.live 128 2=[1,4]:=by kernel_rfl
theorem bK:cfg.live 128 4=[1,5,6]:=by kernel_rfl
theorem ZX:cfg.live 128 6=[1,5,6,7,8]:=by kernel_rfl
theorem Zq:cfg.live 128 8=[1,5,6,7,8,9,10]:=by kernel_rfl
theorem Un:cfg.live 128 10=[5,11]:=by kernel_rfl
theorem j5:cfg.mode 129=.auto:=by kernel_rfl
theorem Qd:cfg.pairs 129 20=[]:=by kernel_rfl
theorem R6:cfg.pairs 129 22=[]:=by kernel_rfl
theorem Q6:cfg.pairs 129 23=[]:=by kernel_rfl
theorem RQ:cfg.pairs 129 24=[]:=by kernel_rfl
theorem YP:cfg.live 129 0=[0,2,6,10]:=by kernel_rfl
theorem Y3:cfg.live 129 3=[0,6,11,12]:=by kernel_rfl
theorem kM:cfg.mode 146=.ro:=by kernel_rfl
theorem kr:cfg.mode 147=.ro:=by kernel_rfl
theorem Xp:cfg.live 147 0=[0,13,14,15]:=by kernel_rfl
theorem mJ:cfg.mode 148=.own:=by kernel_rfl
theorem Z2:cfg.live 148 0=[1,5,8,9,10]:=by kernel_rfl
theorem iU:cfg.mode 150=.own:=by kernel_rfl
theorem YT:cfg.live 150 0=[1,5,8,9,10]:=by kernel_rfl
theorem Ue:cfg.pairs 151 1=[(1,6),(3,6)]:=by kernel_rfl
theorem la:cfg.mode 152=.own:=by kernel_rfl
theorem i5:cfg.mode 153=.own:=by kernel_rfl
theorem aI:cfg.live 153 0=[1,5,8,9,10]:=by kernel_rfl
theorem kc:cfg.mode 154=.own:=by kernel_rfl
theorem VI:cfg.pairs 154 1=[(1,8),(3,8),(5,8)]:=by kernel_rfl
theorem ir:cfg.mode 155=.own:=by kernel_rfl
theorem j6:cfg.mode 156=.own:=by kernel_rfl
theorem ZJ:cfg.live 156 0=[1,5,8,9,10]:=by kernel_rfl
theorem WE:cfg.pairs 157 1=[(1,6),(3,6)]:=by kernel_rfl
theorem Up:cfg.pairs 158 4=[]:=by kernel_rfl
theorem ZN:cfg.live 158 0=[0,1,3]:=by kernel_rfl
theorem ZS:cfg.live 158 2=[0,1,3,4]:=by kernel_rfl
theorem iP:cfg.mode 159=.auto:=by kernel_rfl
theorem X9:cfg.live 159 0=[0,3,4]:=by kernel_rfl
theorem jx:cfg.mode 160=.own:=by kernel_rfl
theorem kO:cfg.mode 165=.auto:=by kernel_rfl
theorem i9:cfg.mode 166=.auto:=by kernel_rfl
theorem mL:cfg.mode 167=.auto:=by kernel_rfl
theorem XM:cfg.live 167 0=[0,1,5]:=by kernel_rfl
theorem iO:cfg.mode 168=.auto:=by kernel_rfl
theorem ie:cfg.mode 169=.auto:=by kernel_rfl
theorem lh:cfg.mode 170=.auto:=by kernel_rfl
theorem U2:cfg.pairs 170 4=[(2,14),(4,14),(6,14)]:=by kernel_rfl
theorem bD:cfg.live 170 0=[0,2,4,6]:=by kernel_rfl
theorem Zl:cfg.live 170 2=[0,2,4,7]:=by kernel_rfl
theorem ik:cfg.mode 180=.ro:=by kernel_rfl
theorem iv:cfg.mode 181=.own:=by kernel_rfl
theorem Yj:cfg.live 181 0=[1,5,8,9,10]:=by kernel_rfl
theorem lz:cfg.mode 183=.own:=by kernel_rfl
theorem YF:cfg.live 183 0=[1,5,8,9,10]:=by kernel_rfl
theorem jI:cfg.mode 186=.auto:=by kernel_rfl
theorem iI:cfg.mode 187=.auto:=by kernel_rfl
theorem ZF:cfg.live 187 0=[0,2,5,9,10]:=by kernel_rfl
theorem ig:cfg.mode 188=.auto:=by kernel_rfl
theorem VC:cfg.pairs 188 5=[]:=by kernel_rfl
theorem XF:cfg.live 188 0=[2,3,5,6]:=by kernel_rfl
theorem kB:cfg.mode 190=.own:=by kernel_rfl
theorem Vh:cfg.pairs 190 7=[(0,4),(4,6),(4,7),(0,8),(2,8),(3,8),(4,8),(4,10),(8,10),(4,11),(8,11),(0,12),(2,12),(3,12),(4,12),(6,12),(7,12),(8,12)]:=by kernel_rfl
theorem X6:cfg.live 190 0=[1,24,25,26]:=by kernel_rfl
theorem lv:cfg.mode 199=.auto:=by kernel_rfl
theorem kl:cfg.mode 200=.auto:=by kernel_rfl
theorem ZY:cfg.live 200 0=[0,5,6]:=by kernel_rfl
theorem l9:cfg.mode 201=.auto:=by kernel_rfl
theorem VJ:cfg.pairs 201 1=[]:=by kernel_rfl
theorem UM:cfg.pairs 201 4=[(4,7),(5,7)]:=by kernel_rfl
theorem Sv:cfg.pairs 201 14=[]:=by kernel_rfl
theorem Su:cfg.pairs 201 25=[]:=by kernel_rfl
theorem Sz:cfg.pairs 201 26=[(4,9),(6,9),(7,9),(8,9)]:=by kernel_rfl
theorem Qs:cfg.pairs 201 32=[(2,6)]:=by kernel_rfl
theorem XT:cfg.live 201 1=[0,2,6,154,155,156]:=by kernel_rfl
theorem Yf:cfg.live 201 3=[0,2,6,11,190,191,192]:=by kernel_rfl
theorem ak:cfg.live 201 5=[0,2,6,207,208,209]:=by kernel_rfl
theorem ao:cfg.live 201 7=[0,2,220,221,222]:=by kernel_rfl
theorem Nu:cfg.alone 201 4 10=true:=by kernel_rfl
theorem M7:cfg.alone 201 14 25=true:=by kernel_rfl
theorem Nx:cfg.alone 201 32 8=true:=by kernel_rfl
theorem kx:cfg.mode 202=.auto:=by kernel_rfl
theorem j7:cfg.mode 210=.own:=by kernel_rfl
theorem lZ:cfg.mode 211=.auto:=by kernel_rfl
theorem kC:cfg.mode 212=.auto:=by kernel_rfl
theorem lD:cfg.mode 213=.auto:=by kernel_rfl
theorem Rd:cfg.pairs 213 23=[]:=by kernel_rfl
theorem XH:cfg.live 213 0=[1,2,31,32,33]:=by kernel_rfl
theorem XR:cfg.live 213 2=[1,2,52,53,54]:=by kernel_rfl
theorem Y2:cfg.live 213 4=[1,2,7,72,73,74]:=by kernel_rfl
theorem YV:cfg.live 213 6=[1,2,7,9,72,73,74,94,95,96]:=by kernel_rfl
theorem My:cfg.alone 213 23 29=true:=by kernel_rfl
theorem jO:cfg.mode 214=.auto:=by kernel_rfl
theorem iZ:cfg.mode 215=.auto:=by kernel_rfl
theorem a8:cfg.live 215 0=[2,5,9,10,11]:=by kernel_rfl
theorem iK:cfg.mode 216=.auto:=by kernel_rfl
theorem ZL:cfg.live 216 0=[0,1,7,8]:=by kernel_rfl
theorem jG:cfg.mode 217=.auto:=by kernel_rfl
theorem Zd:cfg.live 217 1=[1,4,73,74,75]:=by kernel_rfl
theorem je:cfg.mode 218=.auto:=by kernel_rfl
theorem iW:cfg.mode 219=.auto:=by kernel_rfl
theorem il:cfg.mode 220=.auto:=by kernel_rfl
theorem Z4:cfg.live 220 0=[0,1,7,8]:=by kernel_rfl
theorem kU:cfg.mode 236=.auto:=by kernel_rfl
theorem lj:cfg.mode 237=.auto:=by kernel_rfl
theorem lC:cfg.mode 238=.auto:=by kernel_rfl
theorem iT:cfg.mode 239=.auto:=by kernel_rfl
theorem kD:cfg.mode 240=.auto:=by kernel_rfl
theorem gL:cfg.caught 50=some 177:=Eq.trans (b:=cfg.caught 50) rfl (by kernel_rfl)
theorem Ok:cfg.caught 189=some 289:=Eq.trans (b:=cfg.caught 189) rfl (by kernel_rfl)
attribute [go_sem] T3 T4 T5 T9 s8 s5 tJ tO su s6 tC tB tK tE so sr tF s7 tG s9 tA tM tD tP sv sn tN rz ru sK sN sW rq sg sR sX sG sF sH r7 sT sY r8 sO ry sZ sh pQ sM sV rm rp sS sI rr nP nm pO oB oN pX od n9 ZD f9 mu bZ VO dS dC ol aX Vn pN fF og oD Zz Tv UH dV fq cL dP nx iA fH pd nk dJ nG ck fO pD aU Y9 fk nh X5 Ts dB ec du nd nO pn aD eH oq o6 YC Tq dv oQ fW nR pB aN U4 gy d9 gI cT my Zj Uf U3 V9 Ui Ur V1 UK UD UA cc dF cZ fR cj Zc Yx Pl Np N1 Nn N2 Ns N4 o5 Ym nL ZH Yt bA nQ oV bF pb mR ja kq Tg bG kn UT QZ YN l7 mC lU XS jS YJ l6 i7 aO ju V7 S4 X8 Xr bK ZX Zq Un j5 Qd R6 Q6 RQ YP Y3 kM kr Xp mJ Z2 iU YT Ue la i5 aI kc VI ir j6 ZJ WE Up ZN ZS iP X9 jx kO i9 mL XM iO ie lh U2 bD Zl ik iv Yj lz YF jI iI ZF ig VC XF kB Vh X6 lv kl ZY l9 VJ UM Sv Su Sz Qs XT Yf ak ao Nu M7 Nx kx j7 lZ kC lD Rd XH XR Y2 YV My jO iZ a8 iK ZL jG Zd je iW il Z4 kU lj lC iT kD gL Ok
end Go.Proofs
namespace Go.Proofs
open Go Go.Abs
inductive BH where
 |mk (op n:Int) (kids:List BH)
def BH.op:BH→Int|.mk o _ _=>o
def BH.n:BH→Int|.mk _ n _=>n
def BH.kids:BH→List BH|.mk _ _ k=>k
structure DU where
 kind:Int
 n:Int
 deriving DecidableEq
structure DZ where
 op:Int
 n:Int
 args:List BH
 kids:List Int
structure Hy where
 at_:Int
 many:Int
structure M9 where
 in_:Int
 node:Int
structure Ey where
 at_:Int
 joins:List Int
 node:Int
structure Ba where
 chans:List Hy
 spots:List M9
 rules:List Ey
structure AL where
 free:List ByteArray
 nodes:List DZ
 defs:List Ba
 main:Int
structure Ck where
 in_:Int
 dead:Bool
 deriving DecidableEq
structure Ae where
 def_:Int
 at_:Int
 env:List DU
structure Je where
 group:Int
 index:Int
 at_:Int
 queue:List (List DU)
structure Hs where
 at_:Int
 node:Int
 env:List DU
structure Bz where
 spots:List Ck
 groups:List Ae
 chans:List Je
 waits:List Hs
structure C9 where
 wait:Int
 group:Int
 rule:Int
 picks:List Int
structure cm where
 deed:Int
 at_:Int
 n:Int
 m:Int
 vals:List DU
mutual
def B9:BH→List AN
 |.mk op n kids=>[.int .i64 op,.int .i64 n,.lst (L2 kids)]
def L2:List BH→List (List AN)
 |[]=>[]
 |x::l=>B9 x::L2 l
end
theorem MB: ∀l,L2 l=l.map B9
 |[]=>rfl
 |x::l=>by simp[L2,MB l]
theorem Oj(x:BH):B9 x=[.int .i64 x.op,.int .i64 x.n,.lst (x.kids.map B9)]:=by
 cases x;simp[B9,MB,BH.op,BH.n,BH.kids]
theorem BH.ind{p:BH→Prop}(h: ∀op n kids,(∀k∈kids,p k)→p (.mk op n kids)): ∀x,p x:=by
 intro x;refine BH.rec (motive_1:=p) (motive_2:=fun l=> ∀k∈l,p k) (fun op n kids ih=>h op n kids ih) (by simp) (fun a l h1 h2 k hk=>?_) x;rcases List.mem_cons.1 hk with rfl|hk
 .exact h1
 .exact h2 k hk
theorem BH.op_mk(o n:Int)(k:List BH):(BH.mk o n k).op=o:=rfl
theorem BH.n_mk(o n:Int)(k:List BH):(BH.mk o n k).n=n:=rfl
theorem BH.kids_mk(o n:Int)(k:List BH):(BH.mk o n k).kids=k:=rfl
def AG(n:Int):List AN:=[.int .i64 n]
def AY(s:ByteArray):List AN:=[.str s]
def Ac(v:DU):List AN:=[.int .i64 v.kind,.int .i64 v.n]
def AP(x:DZ):List AN:=[.int .i64 x.op,.int .i64 x.n,.lst (x.args.map B9),.lst (x.kids.map AG)]
def Av(c:Hy):List AN:=[.int .i64 c.at_,.int .i64 c.many]
def Af(s:M9):List AN:=[.int .i64 s.in_,.int .i64 s.node]
def Am(r:Ey):List AN:=[.int .i64 r.at_,.lst (r.joins.map AG),.int .i64 r.node]
def Ab(d:Ba):List AN:=[.lst (d.chans.map Av),.lst (d.spots.map Af),.lst (d.rules.map Am)]
def AX(s:Ck):List AN:=[.int .i64 s.in_,.bool s.dead]
def Aa(g:Ae):List AN:=[.int .i64 g.def_,.int .i64 g.at_,.lst (g.env.map Ac)]
def CW(m:List DU):List AN:=[.lst (m.map Ac)]
def Bp(c:Je):List AN:=[.int .i64 c.group,.int .i64 c.index,.int .i64 c.at_,.lst (c.queue.map CW)]
def A3(w:Hs):List AN:=[.int .i64 w.at_,.int .i64 w.node,.lst (w.env.map Ac)]
def RE(x:cm):List AN:=[.int .i64 x.deed,.int .i64 x.at_,.int .i64 x.n,.int .i64 x.m,.lst (x.vals.map Ac)]
def Dn(x:C9):List AN:=[.int .i64 x.wait,.int .i64 x.group,.int .i64 x.rule,.lst (x.picks.map AG)]
def jY(p:AL):List AN:=[.lst (p.free.map AY),.lst (p.nodes.map AP),.lst (p.defs.map Ab),.int .i64 p.main]
def oS(s:Bz):List AN:=[.lst (s.spots.map AX),.lst (s.groups.map Aa),.lst (s.chans.map Bp),.lst (s.waits.map A3)]
attribute [go_sem] Oj AG AY Ac AP Av Af Am Ab AX Aa CW Bp A3 RE Dn BH.op_mk BH.n_mk BH.kids_mk
theorem slice_int{l:List Int}{g:G}{k:IntKind}{m:Int}(h0:0≤m)(hm:m≤l.length):E1 g .slice 1 (.d (.lst (l.map AG))) none (some (.d (.int k m))) none=some (.d (.lst ((l.take m.toNat).map AG))):=UF (fun _=>rfl) h0 hm
def i64(n:Int):Prop:= -9223372036854775808≤n∧n<9223372036854775808
theorem wrap_id{n:Int}(h1: -9223372036854775808≤n)(h2:n<9223372036854775808):IntKind.i64.wrap n=n:=by
 have hb:IntKind.i64.bits=64:=rfl;have hs:IntKind.i64.signed=true:=rfl;simp only[IntKind.wrap,hb,hs,Bool.true_and,decide_eq_true_eq];have e1:(2 ^ 64:Int)=18446744073709551616:=by decide
 have e2:(2 ^ (64-1):Int)=9223372036854775808:=by decide
 rw[e1,e2];split<;>omega
end Go.Proofs
namespace Go.Proofs
open Go Go.Abs
def Ct(l:List Ck)(i:Int):Int:=((l[i.toNat]?).map Ck.in_).getD 0
def Fe(l:List Ck)(i:Int):Prop:=0≤i∧i<l.length
instance(l:List Ck)(i:Int):Decidable (Fe l i):=by unfold Fe;infer_instance
def A7(l:List Ck):Nat→Int→Bool
 |0,at_=>decide (at_=0)
 |k+1,at_=>decide (at_=0)||(decide (Fe l (Ct l at_))&&A7 l k (Ct l at_))
theorem F9(l:List Ck)(k:Nat):A7 l k 0=true:=by cases k<;>simp[A7]
theorem JU(l:List Ck): ∀(k:Nat) (i:Int),A7 l k i=true→A7 l (k+1) i=true
 |0,i,h=>by simp[A7]at h;subst h;exact F9 _ _
 |k+1,i,h=>by
  rw[A7]at h⊢;by_cases h0:i=0
  .simp[h0]
  .simp only[h0,decide_false,Bool.false_or,Bool.and_eq_true]at h⊢;exact⟨h.1,JU l k _ h.2⟩
theorem IE{l:List Ck}{i:Int}{k m:Nat}(h:k≤m)(hc:A7 l k i=true):A7 l m i=true:=by
 induction h with
 |refl=>exact hc
 |step _ ih=>exact JU l _ i ih
theorem dA: ∀(n:Nat) (l:List Nat),l.Nodup→(∀x∈l,x<n)→l.length≤n
 |0,l,_,h=>by
  cases l with
  |nil=>simp
  |cons a l=>exact absurd (h a (by simp)) (by omega)
 |n+1,l,hn,h=>by
  have h1:=dA n (l.erase n) (hn.erase n) (fun x hx=>by
   have hx2:=(List.Nodup.mem_erase_iff hn).1 hx;have:=h x hx2.2;omega)
  by_cases hm:n∈l
  .rw[List.length_erase_of_mem hm]at h1;omega
  .rw[List.erase_of_not_mem hm]at h1;omega
theorem MU(l:List Ck)(hl:0<l.length): ∀(k:Nat) (i:Int),Fe l i→A7 l k i=true→(∀j,j<k→A7 l j i=false)→ ∃p:List Nat,p.length=k+1∧p.Nodup∧(∀x∈p,x<l.length)∧ ∀x∈p,∃j,j≤k∧A7 l j x=true∧ ∀m,m<j→A7 l m x=false
 |0,i,hi,hc,hm=>⟨[0],rfl,by simp,by simp[hl],by
  intro x hx;cases List.mem_singleton.1 hx;exact⟨0,Nat.le_refl _,F9 _ _,fun m hm=>by omega⟩⟩
 |k+1,i,hi,hc,hm=>by
  have h0: ¬i=0:=fun h=>by
   have:=hm 0 (by omega);rw[h,F9]at this;cases this
  have hc2:=hc;rw[A7]at hc2;simp only[h0,decide_false,Bool.false_or,Bool.and_eq_true,decide_eq_true_eq]at hc2;obtain⟨p,hp1,hp2,hp3,hp4⟩:=MU l hl k (Ct l i) hc2.1 hc2.2 (fun j hj=>by
   have:=hm (j+1) (by omega);rw[A7]at this;simp only[h0,decide_false,Bool.false_or,Bool.and_eq_false_iff,decide_eq_false_iff_not]at this;rcases this with h|h
   .exact absurd hc2.1 h
   .exact h)
  refine⟨i.toNat::p,by simp[hp1],?_,?_,?_⟩
  .refine List.nodup_cons.2 ⟨fun hmem=>?_,hp2⟩;obtain⟨j,hj1,hj2,_⟩:=hp4 _ hmem;have hcast:((i.toNat:Nat):Int)=i:=Int.toNat_of_nonneg hi.1;rw[hcast]at hj2;have:=hm j (by omega);rw[hj2]at this;cases this
  .intro x hx;rcases List.mem_cons.1 hx with rfl|hx
   .have:=hi.1;have:=hi.2;omega
   .exact hp3 x hx
  .intro x hx;rcases List.mem_cons.1 hx with rfl|hx
   .have hcast:((i.toNat:Nat):Int)=i:=Int.toNat_of_nonneg hi.1;rw[hcast];exact⟨k+1,Nat.le_refl _,hc,hm⟩
   .obtain⟨j,hj1,hj2⟩:=hp4 x hx;exact⟨j,by omega,hj2⟩
theorem PK{l:List Ck}{i:Int}: ∀{k:Nat},A7 l k i=true→ ∃m,m≤k∧A7 l m i=true∧ ∀j,j<m→A7 l j i=false
 |0,h=>⟨0,Nat.le_refl _,h,fun j hj=>by omega⟩
 |k+1,h=>by
  cases hk:A7 l k i with
  |true=>
   obtain⟨m,h1,h2,h3⟩:=PK hk;exact⟨m,by omega,h2,h3⟩
  |false=>
   refine⟨k+1,Nat.le_refl _,h,fun j hj=>?_⟩;cases hj2:A7 l j i with
   |false=>rfl
   |true=>
    have:=IE (show j≤k by omega) hj2;rw[hk]at this;cases this
theorem LV{l:List Ck}{i:Int}{k:Nat}(hi:Fe l i)(h:A7 l k i=true):A7 l (l.length-1) i=true:=by
 have hl:0<l.length:=by have:=hi.1;have:=hi.2;omega
 obtain⟨m,_,h2,h3⟩:=PK h;obtain⟨p,hp1,hp2,hp3,_⟩:=MU l hl m i hi h2 h3;have:=dA l.length p hp2 hp3;exact IE (by omega) h2
theorem UP{l:List Ck}{i:Int}(hi:Fe l i):A7 l (l.length+1) i=A7 l l.length i:=by
 cases h:A7 l l.length i with
 |true=>exact JU _ _ _ h
 |false=>
  cases h2:A7 l (l.length+1) i with
  |false=>rfl
  |true=>
   have:=IE (show l.length-1≤l.length by omega) (LV hi h2);rw[h]at this;cases this
def DH(l:List Ck):Nat→Nat→Bool
 |_,0=>true
 |i,n+1=>A7 l l.length i&&DH l (i+1) n
def Eo(l:List Ck):Bool:=decide (0<l.length)&&(decide (Ct l 0= -1)&&DH l 0 l.length)
theorem J0(l:List Ck): ∀(n i:Nat),DH l i n=true↔ ∀j,i≤j→j<i+n→A7 l l.length j=true
 |0,i=>by simp[DH];intro j h1 h2;omega
 |n+1,i=>by
  rw[DH,Bool.and_eq_true,J0 l n (i+1)];constructor
  .rintro⟨h1,h2⟩ j h3 h4;by_cases h5:j=i
   .subst h5;exact h1
   .exact h2 j (by omega) (by omega)
  .intro h;exact⟨h i (by omega) (by omega),fun j h1 h2=>h j (by omega) (by omega)⟩
def bb(l:List Ck):Nat→Int→List Int
 |0,b=>[b]
 |k+1,b=>if b=0 then [0]else b::bb l k (Ct l b)
def Ih(l:List Ck)(b a:Int):Bool:=decide (a∈bb l l.length b)
structure Mz(l:List Ck):Prop where
 pos:0<l.length
 top:Ct l 0= -1
 climbs: ∀i,Fe l i→A7 l l.length i=true
theorem MN{l:List Ck}(h:Eo l=true):Mz l:=by
 simp only[Eo,Bool.and_eq_true,decide_eq_true_eq]at h;refine⟨h.1,h.2.1,fun i hi=>?_⟩;have:=(J0 l l.length 0).1 h.2.2 i.toNat (by omega) (by have:=hi.1;have:=hi.2;omega)
 rwa [Int.toNat_of_nonneg hi.1]at this
end Go.Proofs
namespace Go.Proofs
open Go Go.Abs
def DU.inB(p:AL)(nc ns:Nat)(v:DU):Bool:=
 if v.kind=1 then decide (-1000000000≤v.n)&&decide (v.n≤1000000000)else if v.kind=2 then decide (0≤v.n)&&decide (v.n<p.free.length)
 else if v.kind=3 then decide (0≤v.n)&&decide (v.n<nc)else if v.kind=4 then decide (0≤v.n)&&decide (v.n<ns)else false
theorem Wq{l:List Ck}{k:Nat}{b:Int}(h: ¬b=0)(hc:A7 l (k+1) b=true):bb l (k+1) b=b::bb l k (Ct l b):=by
 rw[bb,if_neg h]
theorem HQ{l:List Ck}{k:Nat}{b:Int}(h: ¬b=0)(hc:A7 l (k+1) b=true):Fe l (Ct l b)∧A7 l k (Ct l b)=true:=by
 rw[A7]at hc;simp only[h,decide_false,Bool.false_or,Bool.and_eq_true,decide_eq_true_eq]at hc;exact hc
end Go.Proofs
namespace Go.Proofs
open Go Go.Abs
theorem Qk(l:List Ck)(k:Nat)(c:Int):c∈bb l k c:=by
 cases k with
 |zero=>simp[bb]
 |succ k=>
  rw[bb];split
  .rename_i h;simp[h]
  .simp
theorem Se(l:List Ck)(k:Nat):bb l k 0=[0]:=by cases k<;>simp[bb]
end Go.Proofs
namespace Go.Proofs
open Go Go.Abs
set_option maxRecDepth 100000
set_option maxHeartbeats 2000000
def BH.formed(size:Int):BH→Bool
 |.mk op n kids=>
  if op=1 then decide (kids.length=0)&&(decide (-1000000000≤n)&&decide (n≤1000000000))
  else if op=2 then decide (kids.length=0)&&(decide (0≤n)&&decide (n<size))
  else if op<3 then false
  else if 7<op then false
  else if n=0 then match kids with
   |[a,b]=>a.formed size&&b.formed size
   |_=>false
  else false
@[go_sem] theorem pr(size:Int)(x:BH):Au (KL Tryz.prog cfg) 123 [.agg [.d (.int .i64 x.op),.d (.int .i64 x.n),.d (.lst (x.kids.map B9))],.d (.int .i64 size)] []=.ok (.ret (.d (.bool (x.formed size))),[]):=by
  induction x using BH.ind with
  |h op n kids ih=>
  simp only[BH.op_mk,BH.n_mk,BH.kids_mk]
  (refine AU rfl Tryz.func123 rfl rfl rfl ?_;show Wp _ _ _ _ (Tryz.f123.body.get rfl) _ _;simp only[Tryz.f123,Option.get_some])
  rcases kids with _|⟨a,_|⟨b,_|⟨c,l⟩⟩⟩
  .clear ih
   (repeat' (first|simp only[go_sem, *]|(refine sx ?_ ?_<;>intro hc)|refine sy (by omega) fun x hx hm=>?_|simp(disch:=first|assumption|omega) only[wrap_id,AF,AC,slice_int]))
   all_goals grind [BH.formed]
  .clear ih
   (repeat' (first|simp only[go_sem, *]|(refine sx ?_ ?_<;>intro hc)|refine sy (by omega) fun x hx hm=>?_|simp(disch:=first|assumption|omega) only[wrap_id,AF,AC,slice_int]))
   all_goals grind [BH.formed]
  .have ha:=ih a (by simp);have hb:=ih b (by simp);clear ih
   (repeat' (first|simp only[go_sem, *]|(refine sx ?_ ?_<;>intro hc)|refine sy (by omega) fun x hx hm=>?_|simp(disch:=first|assumption|omega) only[wrap_id,AF,AC,slice_int]))
   all_goals grind [BH.formed]
  .clear ih
   (repeat' (first|simp only[go_sem, *]|(refine sx ?_ ?_<;>intro hc)|refine sy (by omega) fun x hx hm=>?_|simp(disch:=first|assumption|omega) only[wrap_id,AF,AC,slice_int]))
   all_goals grind [BH.formed]
def pV(n:Int):Int:=min (max n (-1000000000)) 1000000000
def qa(v:DU):Int:=if v.kind=1 then v.n else 0
def tH(op a b:Int):Int:=if op=3 then IntKind.i64.wrap (a+b)else if op=4 then IntKind.i64.wrap (a-b)else if op=5 then IntKind.i64.wrap (a*b)else if op=6 then(if a<b then 1 else 0)else if a=b then 1 else 0
def BH.value(env:List DU):BH→DU
 |.mk op n kids=>
  if op=1 then⟨1,n⟩
  else if op=2 then(env[n.toNat]?).getD ⟨0,0⟩
  else match kids with
   |[a,b]=>⟨1,pV (tH op (qa (a.value env)) (qa (b.value env)))⟩
   |_=>⟨0,0⟩
end Go.Proofs
namespace Go.Proofs
open Go Go.Abs
set_option maxRecDepth 100000
set_option maxHeartbeats 2000000
mutual
def BH.nodesM:BH→Int→Int
 |.mk _ _ kids,most=>DX kids 1 most
def DX:List BH→Int→Int→Int
 |[],n,_=>n
 |k::l,n,most=>if n≤most then DX l (n+k.nodesM (most-n)) most else n
end
mutual
theorem LC: ∀(x:BH) (most:Int),0≤most→1≤x.nodesM most∧x.nodesM most≤most+1
 |.mk op n kids,most,h=>by
  rw[BH.nodesM];exact PQ kids 1 most (by omega) (by omega)
theorem PQ: ∀(l:List BH) (n most:Int),1≤n→n≤most+1→1≤DX l n most∧DX l n most≤most+1
 |[],n,most,h1,h2=>by simp[DX];omega
 |k::l,n,most,h1,h2=>by
  rw[DX];split
  .rename_i h;have:=LC k (most-n) (by omega);exact PQ l _ most (by omega) (by omega)
  .omega
end
theorem Qm(l:List BH)(n most:Int)(h: ¬n≤most):DX l n most=n:=by
 cases l<;>simp[DX,h]
theorem AJ{α:Type}{l:List α}{i:Nat}{x:α}(h:l[i]? =some x):l.drop i=x::l.drop (i+1):=by
 have hi:=(List.getElem?_eq_some_iff.1 h).1;rw[List.drop_eq_getElem_cons hi];congr 1;have:=List.getElem?_eq_getElem hi;rw[h]at this;injection this with this
 exact this.symm
theorem AK{α:Type}{l:List α}{i:Nat}{x:α}(h:l[i]? =some x):i<l.length:=(List.getElem?_eq_some_iff.1 h).1
@[go_sem] theorem LR(x:BH)(most:Int)(h0:0≤most)(h1:most≤60):Au (KL Tryz.prog cfg) 121 [.agg [.d (.int .i64 x.op),.d (.int .i64 x.n),.d (.lst (x.kids.map B9))],.d (.int .i64 most)] []=.ok (.ret (.d (.int .i64 (x.nodesM most))),[]):=by
  revert most
  induction x using BH.ind with
  |h op n kids ih=>
  intro most h0 h1;simp only[BH.op_mk,BH.n_mk,BH.kids_mk]at*
  (refine AU rfl Tryz.func121 rfl rfl rfl ?_;show Wp _ _ _ _ (Tryz.f121.body.get rfl) _ _;simp only[Tryz.f121,Option.get_some])
  refine aw ?_;refine rounds (S:=fun a:Nat×Int=>⟨[(1,.d (.int .i64 most)),(2,.ptr [0,0] 0),(5,.d (.int .i64 a.2)),(6,.d (.int .i64 a.1))],[([0,0],.box [.d (.int .i64 op),.d (.int .i64 n),.d (.lst (kids.map B9))])],1,[]⟩)
   (Inv:=fun a=>a.1≤kids.length∧(a.1:Int)+1≤a.2∧a.2≤most+1∧DX kids 1 most=DX (kids.drop a.1) a.2 most) (m:=fun a=>kids.length-a.1) (a:=(0,1)) ⟨by simp,by simp,by simp;omega,by simp⟩ ?_
  rintro⟨i,c⟩ ⟨h2,h3,h4,h5⟩ IH;dsimp only at*
  (repeat' (first|simp only[go_sem, *]|(refine sx ?_ ?_<;>intro hc)|refine sy (by omega) fun x hx hm=>?_|simp(disch:=first|assumption|omega) only[wrap_id,AF,AC,slice_int,ih]))
  .have h6:=LC x (most-c) (by omega);have h7:DX (kids.drop i) c most=DX (kids.drop (i+1)) (c+x.nodesM (most-c)) most:=by
    rw[AJ hx,DX,if_pos (by assumption)]
   rw[wrap_id (by omega) (by omega)];simpa only[Int.natCast_add,Int.cast_ofNat_Int]using IH.out (i+1,c+x.nodesM (most-c)) (by dsimp only;omega) ⟨by dsimp only;omega,by dsimp only;omega,by dsimp only;omega,by dsimp only;rw[h5,h7]⟩
  .rw[BH.nodesM,h5,Qm _ _ _ (by assumption)]
  .rw[BH.nodesM,h5,List.drop_eq_nil_of_le (by omega)];rfl
mutual
def BH.size:BH→Nat
 |.mk _ _ kids=>1+Cl kids
def Cl:List BH→Nat
 |[]=>0
 |k::l=>k.size+Cl l
end
mutual
theorem Ov: ∀(x:BH) (most:Int),0≤most→((x.size:Int)≤most→x.nodesM most=x.size)∧(most<x.size→most<x.nodesM most)
 |.mk op n kids,most,h=>by
  rw[BH.nodesM,BH.size];have:=O0 kids 1 most (by omega);constructor
  .intro h1;rw[this.1 (by omega)];omega
  .intro h1;exact this.2 (by omega)
theorem O0: ∀(l:List BH) (n most:Int),n≤most+1→(n+Cl l≤most→DX l n most=n+Cl l)∧(most<n+Cl l→most<DX l n most)
 |[],n,most,h1=>by
  simp[DX,Cl]
 |k::l,n,most,h1=>by
  rw[DX,Cl];split
  .rename_i h;have h2:=Ov k (most-n) (by omega);have h3:=LC k (most-n) (by omega);have h4:=O0 l (n+k.nodesM (most-n)) most (by omega);by_cases h5:(k.size:Int)≤most-n
   .rw[h2.1 h5]at h4⊢;constructor
    .intro h6;rw[h4.1 (by omega)];omega
    .intro h6;exact h4.2 (by omega)
   .have:=h2.2 (by omega);constructor
    .intro h6;omega
    .intro h6;exact h4.2 (by omega)
  .omega
end
mutual
def BH.depth:BH→Nat
 |.mk _ _ kids=>Cs kids+1
def Cs:List BH→Nat
 |[]=>0
 |k::l=>max k.depth (Cs l)
end
mutual
theorem Qh: ∀(x:BH),x.depth≤x.size
 |.mk op n kids=>by
  rw[BH.depth,BH.size];have:=Ob kids;omega
theorem Ob: ∀(l:List BH),Cs l≤Cl l
 |[]=>by simp[Cs,Cl]
 |k::l=>by
  rw[Cs,Cl];have:=Qh k;have:=Ob l;omega
end
theorem NO{k:BH}: ∀{l:List BH},k∈l→k.size≤Cl l
 |[],h=>by cases h
 |x::l,h=>by
  rw[Cl];rcases List.mem_cons.1 h with rfl|h
  .omega
  .have:=NO h;omega
theorem Md(x:BH):1≤x.size:=by cases x;simp[BH.size]
theorem PG: ∀(l:List BH),l.length≤Cl l
 |[]=>by simp
 |x::l=>by
  have:=Md x;have:=PG l;simp[Cl];omega
@[go_sem] theorem mm(x:BH)(h0:x.size≤60):Au (KL Tryz.prog cfg) 122 [.agg [.d (.int .i64 x.op),.d (.int .i64 x.n),.d (.lst (x.kids.map B9))]] []=.ok (.ret (.d (.int .i64 x.depth)),[]):=by
  revert h0
  induction x using BH.ind with
  |h op n kids ih=>
  intro h0;simp only[BH.op_mk,BH.n_mk,BH.kids_mk]at*;have hlen:=PG kids;have hlen2:Cl kids≤59:=by rw[BH.size]at h0;omega
  clear h0;have ih: ∀k∈kids,Au (KL Tryz.prog cfg) 122 [.agg [.d (.int .i64 k.op),.d (.int .i64 k.n),.d (.lst (k.kids.map B9))]] []=.ok (.ret (.d (.int .i64 k.depth)),[]):=fun k hk=>ih k hk (by have:=NO hk;omega)
  (refine AU rfl Tryz.func122 rfl rfl rfl ?_;show Wp _ _ _ _ (Tryz.f122.body.get rfl) _ _;simp only[Tryz.f122,Option.get_some])
  refine aw ?_;refine rounds (S:=fun a:Nat×Nat=>⟨[(1,.ptr [0,0] 0),(3,.d (.int .i64 a.2)),(4,.d (.int .i64 a.1))],[([0,0],.box [.d (.int .i64 op),.d (.int .i64 n),.d (.lst (kids.map B9))])],1,[]⟩)
   (Inv:=fun a=>a.1≤kids.length∧a.2≤60∧Cs kids=max a.2 (Cs (kids.drop a.1))) (m:=fun a=>kids.length-a.1) (a:=(0,0)) ⟨by simp,by simp,by simp⟩ ?_
  rintro⟨i,c⟩ ⟨h2,h3,h4⟩ IH;dsimp only at*
  (repeat' (first|simp only[go_sem, *]|(refine sx ?_ ?_<;>intro hc)|refine sy (by omega) fun x hx hm=>?_|simp(disch:=first|assumption|omega) only[wrap_id,AF,AC,slice_int,ih]))
  .have h5:Cs (kids.drop i)=max x.depth (Cs (kids.drop (i+1))):=by
    rw[AJ hx,Cs]
   have h6:=Qh x;have h7:=NO hm;have e:(if (x.depth:Int)>(c:Int)then(x.depth:Int)else(c:Int))=((max c x.depth:Nat):Int):=by split<;>omega
   rw[e];simpa only[Int.natCast_add,Int.cast_ofNat_Int]using IH.out (i+1,max c x.depth) (by dsimp only;omega) ⟨by dsimp only;omega,by dsimp only;omega,by dsimp only;omega⟩
  .rw[BH.depth,h4,List.drop_eq_nil_of_le (by omega)];simp[Cs]
def BH.ok(size:Int)(x:BH):Bool:=decide (x.size≤60)&&(decide (x.depth≤12)&&x.formed size)
@[go_sem] theorem iX(size:Int)(x:BH):Au (KL Tryz.prog cfg) 76 [.agg [.d (.int .i64 x.op),.d (.int .i64 x.n),.d (.lst (x.kids.map B9))],.d (.int .i64 size)] []=.ok (.ret (.d (.bool (x.ok size))),[]):=by
  have h1:=Ov x 60 (by omega)
  (refine AU rfl Tryz.func76 rfl rfl rfl ?_;show Wp _ _ _ _ (Tryz.f76.body.get rfl) _ _;simp only[Tryz.f76,Option.get_some])
  by_cases hs:x.size≤60
  .have h2:=h1.1 (by omega);clear h1
   (repeat' (first|simp only[go_sem, *]|(refine sx ?_ ?_<;>intro hc)|refine sy (by omega) fun x hx hm=>?_|simp(disch:=first|assumption|omega) only[wrap_id,AF,AC,slice_int,LR]))
   all_goals grind [BH.ok]
  .have h2:=h1.2 (by omega);clear h1
   (repeat' (first|simp only[go_sem, *]|(refine sx ?_ ?_<;>intro hc)|refine sy (by omega) fun x hx hm=>?_|simp(disch:=first|assumption|omega) only[wrap_id,AF,AC,slice_int,LR]))
   all_goals grind [BH.ok]
def DU.ok(v:DU):Bool:=decide (1≤v.kind)&&(decide (v.kind≤4)&&(!decide (v.kind=1)||(decide (-1000000000≤v.n)&&decide (v.n≤1000000000))))
end Go.Proofs
namespace Go.Proofs
open Go Go.Abs
set_option maxRecDepth 100000
set_option maxHeartbeats 2000000
def Es:AV:=.iface 289 (.agg [.d (.int .i64 2)])
theorem VY:flat Es=true:=by simp[Es,flat,Dr,Cw]
@[go_sem] theorem mY(l:List Df)(h:AB)(id:Abs.Id)(off:Nat):CD cfg none (.call 189 [.ptr id off]::l) (some Es) h=P0 cfg none l h id off .i64 2 (h.get id):=by
  rw[Es,J8 Ok (Rq _)]
attribute [go_sem] VY
@[go_sem] theorem qk(t:Bool):Au (KL Tryz.prog cfg) 199 [.d (.bool t)] []=BR Es t:=by
  cases t
  .rw[Ii]
   (refine AU rfl Tryz.func199 rfl rfl rfl ?_;show Wp _ _ _ _ (Tryz.f199.body.get rfl) _ _;simp only[Tryz.f199,Option.get_some])
   (repeat' (first|simp only[go_sem, *,Es]|(refine sx ?_ ?_<;>intro hc)|refine sy (by omega) fun x hx hm=>?_|simp(disch:=first|assumption|omega) only[wrap_id,AF,AC,slice_int]))
  .rw[JV]
   (refine AU rfl Tryz.func199 rfl rfl rfl ?_;show Wp _ _ _ _ (Tryz.f199.body.get rfl) _ _;simp only[Tryz.f199,Option.get_some])
   exact au
def H3(op:Int):AV:=
 if op=1 then .iface 314 (.d (.int .i64 0))else if op=7 then .iface 314 (.d (.int .i64 0))else if op=3 then .iface 314 (.d (.int .i64 2))else if op=2 then .iface 307 (.agg [])else if op=5 then .iface 310 (.agg [])
 else if op=6 then .iface 308 (.agg [])else if op=8 then .iface 308 (.agg [])else if op=4 then .iface 309 (.agg [])else .d .nili
theorem E0(op:Int):Au (KL Tryz.prog cfg) 211 [.d (.int .i64 op)] []=.ok (.ret (H3 op),[]):=by
 (refine AU rfl Tryz.func211 rfl rfl rfl ?_;show Wp _ _ _ _ (Tryz.f211.body.get rfl) _ _;simp only[Tryz.f211,Option.get_some])
 (repeat' (first|simp only[go_sem, *,H3]|(refine sx ?_ ?_<;>intro hc)|refine sy (by omega) fun x hx hm=>?_|simp(disch:=first|assumption|omega) only[wrap_id,AF,AC,slice_int]))
@[go_sem] theorem rZ:Au (KL Tryz.prog cfg) 236 [.agg []] []=.ok (.ret (.d (.int .i64 0)),[]):=by
  (refine AU rfl Tryz.func236 rfl rfl rfl ?_;show Wp _ _ _ _ (Tryz.f236.body.get rfl) _ _;simp only[Tryz.f236,Option.get_some])
  exact au
@[go_sem] theorem re:Au (KL Tryz.prog cfg) 237 [.agg []] []=.ok (.ret (.d (.int .i64 1)),[]):=by
  (refine AU rfl Tryz.func237 rfl rfl rfl ?_;show Wp _ _ _ _ (Tryz.f237.body.get rfl) _ _;simp only[Tryz.f237,Option.get_some])
  exact au
@[go_sem] theorem rU:Au (KL Tryz.prog cfg) 238 [.agg []] []=.ok (.ret (.d (.int .i64 1)),[]):=by
  (refine AU rfl Tryz.func238 rfl rfl rfl ?_;show Wp _ _ _ _ (Tryz.f238.body.get rfl) _ _;simp only[Tryz.f238,Option.get_some])
  exact au
@[go_sem] theorem rY:Au (KL Tryz.prog cfg) 239 [.agg []] []=.ok (.ret (.d (.int .i64 2)),[]):=by
  (refine AU rfl Tryz.func239 rfl rfl rfl ?_;show Wp _ _ _ _ (Tryz.f239.body.get rfl) _ _;simp only[Tryz.f239,Option.get_some])
  exact au
@[go_sem] theorem rc(n:Int):Au (KL Tryz.prog cfg) 240 [.d (.int .i64 n)] []=.ok (.ret (.d (.int .i64 n)),[]):=by
  (refine AU rfl Tryz.func240 rfl rfl rfl ?_;show Wp _ _ _ _ (Tryz.f240.body.get rfl) _ _;simp only[Tryz.f240,Option.get_some])
  exact au
def Ba.own(d:Ba):Nat:=d.chans.length+d.spots.length
theorem nN(d:Ba)(h1:d.chans.length≤1000)(h2:d.spots.length≤1000):Au (KL Tryz.prog cfg) 214 [.agg [.d (.lst (d.chans.map Av)),.d (.lst (d.spots.map Af)),.d (.lst (d.rules.map Am))]] []=.ok (.ret (.d (.int .i64 d.own)),[]):=by
 (refine AU rfl Tryz.func214 rfl rfl rfl ?_;show Wp _ _ _ _ (Tryz.f214.body.get rfl) _ _;simp only[Tryz.f214,Option.get_some])
 refine aw ?_;all_goals simp[Ba.own]
theorem mB(d:Ba)(h1:d.chans.length≤1000)(h2:d.spots.length≤1000):Au (KL Tryz.prog cfg) 169 [.agg [.d (.lst (d.chans.map Av)),.d (.lst (d.spots.map Af)),.d (.lst (d.rules.map Am))]] []=.ok (.ret (.d (.int .i64 d.own)),[]):=by
 (refine AU rfl Tryz.func169 rfl rfl rfl ?_;show Wp _ _ _ _ (Tryz.f169.body.get rfl) _ _;simp only[Tryz.f169,Option.get_some])
 refine aw ?_;all_goals simp[Ba.own]
end Go.Proofs
namespace Go.Proofs
open Go Go.Abs
set_option maxRecDepth 100000
set_option maxHeartbeats 2000000
def Bn(d:Ba):List Int→Int
 |[]=>0
 |j::l=>((d.chans[j.toNat]?).map Hy.many).getD 0+Bn d l
def Ba.joinsOk(d:Ba)(r:Ey):Prop:=r.joins.length≤3∧(∀j∈r.joins,0≤j∧j<d.chans.length)∧ ∀c∈d.chans,0≤c.many∧c.many≤3
theorem get_some{α:Type}{l:List α}{i:Nat}(h:i<l.length): ∃y,l[i]? =some y:=⟨_,List.getElem?_eq_getElem h⟩
theorem bT(d:Ba)(r:Ey)(hj:d.joinsOk r):Au (KL Tryz.prog cfg) 215 [.agg [.d (.lst (d.chans.map Av)),.d (.lst (d.spots.map Af)),.d (.lst (d.rules.map Am))],.agg [.d (.int .i64 r.at_),.d (.lst (r.joins.map AG)),.d (.int .i64 r.node)]] []=.ok (.ret (.d (.int .i64 (Bn d r.joins))),[]):=by
 obtain⟨h1,h2',h3'⟩:=hj;have h2:=AA.mk h2';have h3:=AA.mk h3';clear h2' h3'
 (refine AU rfl Tryz.func215 rfl rfl rfl ?_;show Wp _ _ _ _ (Tryz.f215.body.get rfl) _ _;simp only[Tryz.f215,Option.get_some])
 refine aw ?_;refine rounds (S:=fun a:Nat×Int=>⟨[(2,.ptr [0,0] 0),(5,.d (.int .i64 a.2)),(9,.d (.lst (r.joins.map AG))),(10,.d (.int .i64 r.joins.length)),(11,.d (.int .i64 a.1))],[([0,0],.box [.d (.lst (d.chans.map Av)),.d (.lst (d.spots.map Af)),.d (.lst (d.rules.map Am))])],1,[]⟩)
  (Inv:=fun a=>a.1≤r.joins.length∧0≤a.2∧a.2≤3*a.1∧AA (Bn d r.joins=a.2+Bn d (r.joins.drop a.1))) (m:=fun a=>r.joins.length-a.1) (a:=(0,0)) ⟨by simp,by simp,by simp,⟨by simp⟩⟩ ?_
 rintro⟨i,c⟩ ⟨k1,k2,k3,k4⟩ IH;dsimp only at*
 (repeat' (first|simp only[go_sem, *]|(refine sx ?_ ?_<;>intro hc)|refine sy (by omega) fun x hx hm=>?_|simp(disch:=first|assumption|omega) only[wrap_id,AF,AC,slice_int]))
 .have hd:=h2.out x hm;obtain⟨y,hy⟩:=get_some (l:=d.chans) (i:=x.toNat) (by omega);have hy3:=h3.out y (List.mem_of_getElem? hy);refine aw ?_;refine IH.out (i+1,c+y.many) (by dsimp only;omega) ⟨by dsimp only;omega,by dsimp only;omega,by dsimp only;omega,⟨?_⟩⟩;dsimp only;rw[k4.out,AJ hx,Bn,hy];simp only[Option.map_some,Option.getD_some];omega
 .rw[k4.out,List.drop_eq_nil_of_le (by omega),Bn,Int.add_zero]
theorem jB(d:Ba)(r:Ey)(hj:d.joinsOk r):Au (KL Tryz.prog cfg) 188 [.agg [.d (.lst (d.chans.map Av)),.d (.lst (d.spots.map Af)),.d (.lst (d.rules.map Am))],.agg [.d (.int .i64 r.at_),.d (.lst (r.joins.map AG)),.d (.int .i64 r.node)]] []=.ok (.ret (.d (.int .i64 (Bn d r.joins))),[]):=by
 obtain⟨h1,h2',h3'⟩:=hj;have h2:=AA.mk h2';have h3:=AA.mk h3';clear h2' h3'
 (refine AU rfl Tryz.func188 rfl rfl rfl ?_;show Wp _ _ _ _ (Tryz.f188.body.get rfl) _ _;simp only[Tryz.f188,Option.get_some])
 refine aw ?_;refine rounds (S:=fun a:Nat×Int=>⟨[(2,.ptr [0,0] 0),(3,.ptr [0,1] 0),(5,.d (.int .i64 a.2)),(6,.d (.int .i64 a.1))],[([0,0],.box [.d (.lst (d.chans.map Av)),.d (.lst (d.spots.map Af)),.d (.lst (d.rules.map Am))]),([0,1],.box [.d (.int .i64 r.at_),.d (.lst (r.joins.map AG)),.d (.int .i64 r.node)])],2,[]⟩)
  (Inv:=fun a=>a.1≤r.joins.length∧0≤a.2∧a.2≤3*a.1∧AA (Bn d r.joins=a.2+Bn d (r.joins.drop a.1))) (m:=fun a=>r.joins.length-a.1) (a:=(0,0)) ⟨by simp,by simp,by simp,⟨by simp⟩⟩ ?_
 rintro⟨i,c⟩ ⟨k1,k2,k3,k4⟩ IH;dsimp only at*;by_cases hi:i<r.joins.length
 .obtain⟨x,hx⟩:=get_some hi;have hd:=h2.out x (List.mem_of_getElem? hx);obtain⟨y,hy⟩:=get_some (l:=d.chans) (i:=x.toNat) (by omega);have hy3:=h3.out y (List.mem_of_getElem? hy);have hi':(i:Int)<r.joins.length:=by omega
  refine aw ?_;refine IH.out (i+1,c+y.many) (by dsimp only;omega) ⟨by dsimp only;omega,by dsimp only;omega,by dsimp only;omega,⟨?_⟩⟩;dsimp only;rw[k4.out,AJ hx,Bn,hy];simp only[Option.map_some,Option.getD_some];omega
 ·(repeat' (first|simp only[go_sem, *]|(refine sx ?_ ?_<;>intro hc)|refine sy (by omega) fun x hx hm=>?_|simp(disch:=first|assumption|omega) only[wrap_id,AF,AC,slice_int]))
  .omega
  .rw[k4.out,List.drop_eq_nil_of_le (by omega),Bn,Int.add_zero]
def Ht(b:UInt8):Bool:=decide (97≤b.toNat)&&decide (b.toNat≤122)
def po:List ByteArray:=[⟨#[97,110,100]⟩,⟨#[100,101,102]⟩,⟨#[101,108,115,101]⟩,⟨#[103,111]⟩,⟨#[105,102]⟩,⟨#[105,110]⟩,⟨#[112,108,97,99,101]⟩,⟨#[115,116,111,112]⟩,⟨#[116,104,101,110]⟩,⟨#[119,97,116,99,104]⟩]
def rC:List (AN×AV):=po.map fun k=>(.str k,.d (.bool true))
def DL(s:ByteArray):Bool:=decide (1≤s.size)&&(decide (s.size≤8)&&(s.data.toList.all Ht&& !po.any (· ==s)))
@[go_sem] theorem nZ(l:List ByteArray)(s:ByteArray)(hl:l.length≤1000):Au (KL Tryz.prog cfg) 167 [.d (.lst (l.map AY)),.d (.str s)] []=.ok (.ret (.d (.bool (l.any (· ==s)))),[]):=by
  (refine AU rfl Tryz.func167 rfl rfl rfl ?_;show Wp _ _ _ _ (Tryz.f167.body.get rfl) _ _;simp only[Tryz.f167,Option.get_some])
  refine aw ?_;refine rounds (S:=fun i:Nat=>⟨[(0,.d (.lst (l.map AY))),(1,.d (.str s)),(5,.d (.int .i64 i))],[],0,[]⟩) (Inv:=fun i=>i≤l.length∧AA (l.any (· ==s)=(l.drop i).any (· ==s))) (m:=fun i=>l.length-i) (a:=0) ⟨by simp,⟨by simp⟩⟩ ?_;rintro i ⟨k1,k2⟩ IH
  (repeat' (first|simp only[go_sem, *]|(refine sx ?_ ?_<;>intro hc)|refine sy (by omega) fun x hx hm=>?_|simp(disch:=first|assumption|omega) only[wrap_id,AF,AC,slice_int]))
  .rw[k2.out,AJ hx,List.any_cons];simp[*]
  .refine IH.out (i+1) (by omega) ⟨by omega,⟨?_⟩⟩;rw[k2.out,AJ hx,List.any_cons];simp[*]
  .rw[k2.out,List.drop_eq_nil_of_le (by omega)];rfl
theorem NC{s:ByteArray}{v:AV}: ∀{es:List (AN×AV)},B4 es (.str s)=some none→C2 es (.str s) v=es++[(.str s,v)]
 |[],_=>rfl
 |(k,w)::es,h=>by
  unfold B4 at h;unfold C2;split at h
  .cases h
  .rename_i hk;rw[hk];simp only[List.cons_append,List.cons.injEq,true_and];exact NC h
  .cases h
theorem jA{id:Abs.Id}{es:List (AN×AV)}{s:ByteArray}{h:AB}(hg:h.get id=some (.map es))(hm:B4 es (.str s)=some none):mapPut cfg.T h.get (cfg.T 300) (.mp id) (.d (.str s)) (.d (.bool true))=some ⟨.undef,[(id,.map (es++[(.str s,.d (.bool true))]))]⟩:=by
 unfold mapPut;simp only[pQ,IR,T9,Gl,AV.isCell,Bool.and_self,hg,hm,NC hm]
theorem hU(id:Abs.Id)(o:Abs.Obj):AB.get [(id,o)] id=some o:=by simp only[BA,is_self,if_true]
@[go_sem] theorem mn(k:Nat)(ρ:List Nat):Au (KL Tryz.prog cfg) 210 [] (k::ρ)=.ok (.ret (.mp (1::1::k::ρ)),[(1::1::k::ρ,.map rC)]):=by
  (refine AU rfl Tryz.func210 rfl rfl rfl ?_;show Wp _ _ _ _ (Tryz.f210.body.get rfl) _ _;simp only[Tryz.f210,Option.get_some])
  refine aw ?_
  iterate 10 (rw[←pQ,jA (hU _ _)];rotate_left;exact rfl;refine aw ?_)
  rfl
theorem PU: ∀(L:List ByteArray) (s:ByteArray),B4 (L.map fun k=>(AN.str k,.d (.bool true))) (.str s)=some (if L.any (· ==s)=true then some (.d (.bool true))else none)
 |[],s=>by simp[B4]
 |k::L,s=>by
  rw[List.map_cons,B4,Er];cases hk:(k==s)with
  |true=>simp[hk]
  |false=>
   simp only[PU L s,List.any_cons,hk,Bool.false_or]
theorem pm{s:ByteArray}(h:(po.any fun x=>x==s)=true):B4 rC (.str s)=some (some (.d (.bool true))):=by
 rw[rC,PU,if_pos h]
theorem qj{s:ByteArray}(h:(po.any fun x=>x==s)=false):B4 rC (.str s)=some none:=by
 rw[rC,PU,if_neg (by rw[h];simp)]
@[go_sem] theorem sQ(s:ByteArray):Au (KL Tryz.prog cfg) 167 [.d (.lst [[.str ⟨#[97,110,100]⟩],[.str ⟨#[100,101,102]⟩],[.str ⟨#[101,108,115,101]⟩],[.str ⟨#[103,111]⟩],[.str ⟨#[105,102]⟩],[.str ⟨#[105,110]⟩],[.str ⟨#[112,108,97,99,101]⟩],[.str ⟨#[115,116,111,112]⟩],[.str ⟨#[116,104,101,110]⟩],[.str ⟨#[119,97,116,99,104]⟩]]),.d (.str s)] []=.ok (.ret (.d (.bool (po.any (· ==s)))),[]):=nZ po s (by decide)
theorem LI{b:UInt8}(h: ¬(97≤b.toNat∧b.toNat≤122)):Ht b=false:=by
 simp only[Ht,Bool.and_eq_false_iff,decide_eq_false_iff_not];omega
theorem PW{b:UInt8}(h:97≤b.toNat∧b.toNat≤122):Ht b=true:=by
 simp only[Ht,Bool.and_eq_true,decide_eq_true_eq];exact h
theorem eY(s:ByteArray):Au (KL Tryz.prog cfg) 127 [.d (.str s)] []=.ok (.ret (.d (.bool (DL s))),[]):=by
 have hsz:s.data.toList.length=s.size:=by cases s;rfl
 (refine AU rfl Tryz.func127 rfl rfl rfl ?_;show Wp _ _ _ _ (Tryz.f127.body.get rfl) _ _;simp only[Tryz.f127,Option.get_some])
 (repeat' (first|simp only[go_sem, *]|(refine sx ?_ ?_<;>intro hc)|refine sy (by omega) fun x hx hm=>?_|simp(disch:=first|assumption|omega) only[wrap_id,AF,AC,slice_int]))
 .rw[DL,decide_eq_false (by omega)];rfl
 .rw[DL,decide_eq_false (p:=s.size≤8) (by omega),Bool.false_and,Bool.and_false]
 have h1:1≤s.size:=by omega
 have h8:s.size≤8:=by omega
 refine rounds (S:=fun i:Nat=>⟨[(0,.d (.str s)),(3,.d (.int .i64 i))],[],0,[]⟩) (Inv:=fun i=>i≤s.size∧AA (s.data.toList.all Ht=(s.data.toList.drop i).all Ht)) (m:=fun i=>s.size-i) (a:=0) ⟨by simp,⟨by simp⟩⟩ ?_;rintro i ⟨k1,k2⟩ IH
 (repeat' (first|simp only[go_sem, *]|(refine sx ?_ ?_<;>intro hc)|refine sy (by omega) fun x hx hm=>?_|simp(disch:=first|assumption|omega) only[wrap_id,AF,AC,slice_int]))
 .have:s.data.toList.all Ht=false:=by rw[k2.out,AJ hx,List.all_cons,LI (by omega)];rfl
  simp[DL,this]
 .have:s.data.toList.all Ht=false:=by rw[k2.out,AJ hx,List.all_cons,LI (by omega)];rfl
  simp[DL,this]
 .refine IH.out (i+1) (by omega) ⟨by omega,⟨?_⟩⟩;rw[k2.out,AJ hx,List.all_cons,PW (by omega)];rfl
 .have:s.data.toList.all Ht=true:=by rw[k2.out,List.drop_eq_nil_of_le (by omega)];rfl
  simp[DL,this,h1,h8]
theorem lG(s:ByteArray)(hs:s.size≤9223372036854775807):Au (KL Tryz.prog cfg) 200 [.d (.str s)] []=.ok (.ret (.d (.bool (DL s))),[]):=by
 have hsz:s.data.toList.length=s.size:=by cases s;rfl
 (refine AU rfl Tryz.func200 rfl rfl rfl ?_;show Wp _ _ _ _ (Tryz.f200.body.get rfl) _ _;simp only[Tryz.f200,Option.get_some])
 refine aw ?_;refine rounds (S:=fun i:Nat=>⟨[(0,.d (.str s)),(5,.d (.int .i64 s.size)),(6,.d (.int .i64 i))],[],0,[]⟩) (Inv:=fun i=>i≤s.size∧AA (s.data.toList.all Ht=(s.data.toList.drop i).all Ht)) (m:=fun i=>s.size-i) (a:=0) ⟨by simp,⟨by simp⟩⟩ ?_;rintro i ⟨k1,k2⟩ IH;cases hk:po.any (· ==s)with
 |false=>
  (repeat' (first|simp only[go_sem, *,qj hk]|(refine sx ?_ ?_<;>intro hc)|refine sy (by omega) fun x hx hm=>?_|simp(disch:=first|assumption|omega) only[wrap_id,AF,AC,slice_int]))
  .have:s.data.toList.all Ht=false:=by rw[k2.out,AJ hx,List.all_cons,LI (by omega)];rfl
   simp[DL,this]
  .have:s.data.toList.all Ht=false:=by rw[k2.out,AJ hx,List.all_cons,LI (by omega)];rfl
   simp[DL,this]
  .refine IH.out (i+1) (by omega) ⟨by omega,⟨?_⟩⟩;rw[k2.out,AJ hx,List.all_cons,PW (by omega)];rfl
  .have:s.data.toList.all Ht=true:=by rw[k2.out,List.drop_eq_nil_of_le (by omega)];rfl
   have h1:1≤s.size:=by omega
   have h8:s.size≤8:=by omega
   simp[DL,this,h1,h8,hk]
  .rw[DL,decide_eq_false (p:=s.size≤8) (by omega),Bool.false_and,Bool.and_false]
  .rw[DL,decide_eq_false (by omega)];rfl
 |true=>
  (repeat' (first|simp only[go_sem, *,pm hk]|(refine sx ?_ ?_<;>intro hc)|refine sy (by omega) fun x hx hm=>?_|simp(disch:=first|assumption|omega) only[wrap_id,AF,AC,slice_int]))
  .have:s.data.toList.all Ht=false:=by rw[k2.out,AJ hx,List.all_cons,LI (by omega)];rfl
   simp[DL,this]
  .have:s.data.toList.all Ht=false:=by rw[k2.out,AJ hx,List.all_cons,LI (by omega)];rfl
   simp[DL,this]
  .refine IH.out (i+1) (by omega) ⟨by omega,⟨?_⟩⟩;rw[k2.out,AJ hx,List.all_cons,PW (by omega)];rfl
  .have:s.data.toList.all Ht=true:=by rw[k2.out,List.drop_eq_nil_of_le (by omega)];rfl
   have h1:1≤s.size:=by omega
   have h8:s.size≤8:=by omega
   simp[DL,this,h1,h8,hk]
  .rw[DL,decide_eq_false (p:=s.size≤8) (by omega),Bool.false_and,Bool.and_false]
  .rw[DL,decide_eq_false (by omega)];rfl
end Go.Proofs
namespace Go.Proofs
open Go Go.Abs
set_option maxRecDepth 100000
set_option maxHeartbeats 4000000
def Nm(x:Int):List Int→Int→Int
 |[],_=> -1
 |y::l,i=>if x=y then i else Nm x l (i+1)
@[go_sem] theorem qH(l:List Int)(v:Int)(hl:l.length≤1000000):Au (KL Tryz.prog cfg) 220 [.d (.lst (l.map AG)),.d (.int .i64 v)] []=.ok (.ret (.d (.int .i64 (Nm v l 0))),[]):=by
  (refine AU rfl Tryz.func220 rfl rfl rfl ?_;show Wp _ _ _ _ (Tryz.f220.body.get rfl) _ _;simp only[Tryz.f220,Option.get_some])
  refine aw ?_;refine rounds (S:=fun i:Nat=>⟨[(0,.d (.lst (l.map AG))),(1,.d (.int .i64 v)),(7,.d (.int .i64 l.length)),(8,.d (.int .i64 i))],[],0,[]⟩) (Inv:=fun i=>i≤l.length∧AA (Nm v l 0=Nm v (l.drop i) i)) (m:=fun i=>l.length-i) (a:=0) ⟨by simp,⟨by simp⟩⟩ ?_;rintro i ⟨k1,k2⟩ IH
  (repeat' (first|simp only[go_sem, *]|(refine sx ?_ ?_<;>intro hc)|refine sy (by omega) fun x hx hm=>?_|simp(disch:=first|assumption|omega) only[wrap_id,AF,AC,slice_int]))
  .subst hc;rw[k2.out,AJ hx,Nm,if_pos rfl]
  .refine IH.out (i+1) (by omega) ⟨by omega,⟨?_⟩⟩;rw[k2.out,AJ hx,Nm,if_neg (by assumption)];rfl
  .rw[k2.out,List.drop_eq_nil_of_le (by omega),Nm]
theorem RR(v:Int): ∀(l:List Int) (i:Int),0≤i→(0≤Nm v l i↔v∈l)
 |[],i,h=>by simp[Nm]
 |y::l,i,h=>by
  rw[Nm];split
  .rename_i e;simp[e,h]
  .rename_i e;rw[RR v l (i+1) (by omega)];simp[e]
@[go_sem] theorem SS(l:List Int)(v:Int)(hl:l.length≤1000000):Au (KL Tryz.prog cfg) 219 [.d (.lst (l.map AG)),.d (.int .i64 v)] []=.ok (.ret (.d (.bool (decide (v∈l)))),[]):=by
  have h:=RR v l 0 (by omega)
  (refine AU rfl Tryz.func219 rfl rfl rfl ?_;show Wp _ _ _ _ (Tryz.f219.body.get rfl) _ _;simp only[Tryz.f219,Option.get_some])
  exact au
theorem RP(d:Ba)(n:Int)(h:AB)(π:List Nat)(id:Abs.Id)(hg:h.get id=some (.box [.d (.lst (d.chans.map Av)),.d (.lst (d.spots.map Af)),.d (.lst (d.rules.map Am))])):
 ∃o h',KL Tryz.prog cfg (.fn 218) [.d (.int .i64 n),.ptr id 0] h π true none=.ok (o,h')∧h'=h∧o=if 0≤n∧n≤d.spots.length then .ret (.tup [])else .pan Es:=by
 (refine A0 rfl Tryz.func218 rfl rfl rfl ?_;show Wp _ _ _ _ (Tryz.f218.body.get rfl) _ _;simp only[Tryz.f218,Option.get_some])
 (repeat' (first|simp only[go_sem, *]|(refine sx ?_ ?_<;>intro hc)|refine sy (by omega) fun x hx hm=>?_|simp(disch:=first|assumption|omega) only[wrap_id,AF,AC,slice_int]))
 all_goals simp
def Bt(d:Ba)(c:Hy):Bool:=decide (0≤c.at_∧c.at_≤d.spots.length)&&(decide (0≤c.many)&&decide (c.many≤3))
def CE:Nat→List M9→Bool
 |_,[]=>true
 |i,s::l=>decide (0≤s.in_)&&(decide (s.in_≤i)&&CE (i+1) l)
def EU(d:Ba)(r:Ey)(i:Nat)(c:Int):Bool:=decide (0≤c)&&(decide (c<d.chans.length)&&(decide (((d.chans[c.toNat]?).map Hy.at_).getD 0=r.at_)&& !decide (c∈r.joins.take i)))
def joinsOk(d:Ba)(r:Ey):Nat→List Int→Bool
 |_,[]=>true
 |i,c::l=>EU d r i c&&joinsOk d r (i+1) l
def A9(d:Ba)(r:Ey):Bool:=decide (0≤r.at_∧r.at_≤d.spots.length)&&(decide (0<r.joins.length)&&(decide (r.joins.length≤3)&&joinsOk d r 0 r.joins))
def Kk(l:List Int)(c:Int):List Int:=if c∈l then l else l++[c]
def EH(l:List Int):List (AN×AV):=l.map fun c=>(.int .i64 c,.d (.bool true))
def EC(l:List Int)(rs:List Ey):List Int:=rs.foldl (fun l r=>r.joins.foldl Kk l) l
def Ba.okG(d:Ba):Bool:=decide (d.chans.length≤30)&&(decide (d.spots.length≤30)&&(decide (d.rules.length≤30)&&(d.chans.all (Bt d)&&(CE 0 d.spots&&(d.rules.all (A9 d)&&decide ((EC [] d.rules).length=d.chans.length))))))
def FQ(v:AV)(t:Bool):AQ×AB:=if t=true then(.ret (.tup []),[])else(.pan v,[])
theorem UG(v:AV):FQ v true=(.ret (.tup []),[]):=rfl
theorem B8(v:AV):FQ v false=(.pan v,[]):=rfl
theorem MO(v:AV)(t:Bool):BR v t=.ok (FQ v t):=by cases t<;>rfl
theorem Tk(st:List Int)(c:Int):B4 (EH st) (.int .i64 c)=some (if c∈st then some (.d (.bool true))else none):=by
 induction st with
 |nil=>rfl
 |cons a st ih=>
  show B4 ((.int .i64 a,.d (.bool true))::EH st) _=_;rw[B4,Er];simp only[if_true];by_cases h:a=c
  .subst h;simp
  .have h1:(a==c)=false:=by simpa using h
   have h2: ¬c=a:=fun e=>h e.symm;rw[h1,ih];simp[h2]
theorem Uz(st:List Int)(c:Int):C2 (EH st) (.int .i64 c) (.d (.bool true))=EH (Kk st c):=by
 induction st with
 |nil=>rfl
 |cons a st ih=>
  show C2 ((.int .i64 a,.d (.bool true))::EH st) _ _=_;rw[C2,Er];simp only[if_true];by_cases h:a=c
  .subst h;simp[Kk,EH]
  .have h1:(a==c)=false:=by simpa using h
   have h2: ¬c=a:=fun e=>h e.symm;rw[h1];simp only;rw[ih];simp only[Kk,List.mem_cons,h2,false_or];split<;>rfl
theorem jr{id:Abs.Id}{st:List Int}{c:Int}{h:AB}(hg:h.get id=some (.map (EH st))):mapPut cfg.T h.get (cfg.T 315) (.mp id) (.d (.int .i64 c)) (.d (.bool true))=some ⟨.undef,[(id,.map (EH (Kk st c)))]⟩:=by
 unfold mapPut;simp only[nP,IR,T3,Gl,AV.isCell,Bool.and_self,hg,Tk,Uz]
@[go_sem] theorem pU(st:List Int):(EH st).flatMap (fun p=>AE p.2)=[]:=by
  induction st with
  |nil=>rfl
  |cons a st ih=>exact ih
@[go_sem] theorem nW(ν:Abs.Id→Option Abs.Id)(st:List Int):(EH st).map (fun p=>(p.1,GQ ν p.2))=EH st:=by
  induction st with
  |nil=>rfl
  |cons a st ih=>exact congrArg (List.cons _) ih
theorem Um{d:Ba}(h:d.chans.all (Bt d)=false):d.okG=false:=by simp only[Ba.okG,h,Bool.false_and,Bool.and_false]
theorem cv{d:Ba}(h:CE 0 d.spots=false):d.okG=false:=by simp only[Ba.okG,h,Bool.false_and,Bool.and_false]
theorem Pe{d:Ba}(h:d.rules.all (A9 d)=false):d.okG=false:=by simp only[Ba.okG,h,Bool.false_and,Bool.and_false]
theorem oP{d:Ba}(h: ¬(EC [] d.rules).length=d.chans.length):d.okG=false:=by simp only[Ba.okG,decide_eq_false h,Bool.and_false]
theorem pJ(d:Ba):Au (KL Tryz.prog cfg) 213 [.agg [.d (.lst (d.chans.map Av)),.d (.lst (d.spots.map Af)),.d (.lst (d.rules.map Am))]] []=.ok (FQ Es d.okG):=by
 (refine AU rfl Tryz.func213 rfl rfl rfl ?_;show Wp _ _ _ _ (Tryz.f213.body.get rfl) _ _;simp only[Tryz.f213,Option.get_some])
 (repeat' (first|simp only[go_sem, *]|(refine sx ?_ ?_<;>intro hc)|refine sy (by omega) fun x hx hm=>?_|simp(disch:=first|assumption|omega) only[wrap_id,AF,AC,slice_int]))
 all_goals try(rw[show d.okG=false by simp[Ba.okG];omega,B8])
 have c1:d.chans.length≤30:=by omega
 have c2:d.spots.length≤30:=by omega
 have c3:d.rules.length≤30:=by omega
 refine rounds (S:=fun i:Nat=>⟨[(1,.ptr [0,0] 0),(2,.fn 218 [] [.ptr [0,0] 0]),(31,.d (.lst (d.chans.map Av))),(32,.d (.int .i64 d.chans.length)),(33,.d (.int .i64 i))],[([0,0],.box [.d (.lst (d.chans.map Av)),.d (.lst (d.spots.map Af)),.d (.lst (d.rules.map Am))])],1,[]⟩)
  (Inv:=fun i=>i≤d.chans.length∧AA (d.chans.all (Bt d)=(d.chans.drop i).all (Bt d))) (m:=fun i=>d.chans.length-i) (a:=0) ⟨by simp,⟨by simp⟩⟩ ?_
 clear hc;rintro i ⟨k1,k2⟩ IH
 (repeat' (first|simp only[go_sem, *]|(refine sx ?_ ?_<;>intro hc)|refine sy (by omega) fun x hx hm=>?_|simp(disch:=first|assumption|omega) only[wrap_id,AF,AC,slice_int]))
 .refine Ax (RP d x.at_ _ _ _ ?_) (fun o1 g1 p1=>?_)
  .simp only[go_sem]
  obtain⟨rfl,rfl⟩:=p1;by_cases kp:0≤x.at_∧x.at_≤d.spots.length
  .rw[if_pos kp]
   (repeat' (first|simp only[go_sem, *]|(refine sx ?_ ?_<;>intro hc)|refine sy (by omega) fun x hx hm=>?_|simp(disch:=first|assumption|omega) only[wrap_id,AF,AC,slice_int]))
   .refine IH.out (i+1) (by omega) ⟨by omega,⟨?_⟩⟩;rw[k2.out,AJ hx,List.all_cons,show Bt d x=true by simp[Bt, *],Bool.true_and]
   .rw[Um,B8];rw[k2.out,AJ hx,List.all_cons,show Bt d x=false by simp[Bt, *],Bool.false_and]
   .rw[Um,B8];rw[k2.out,AJ hx,List.all_cons,show Bt d x=false by simp[Bt, *],Bool.false_and]
  .rw[if_neg kp];refine aw ?_;rw[Um,B8];rw[k2.out,AJ hx,List.all_cons,show Bt d x=false by simp only[Bt,decide_eq_false kp,Bool.false_and],Bool.false_and]
 have hch:d.chans.all (Bt d)=true:=by rw[k2.out,List.drop_eq_nil_of_le (by omega)];rfl
 clear hc k1 k2 IH i;refine rounds (S:=fun i:Nat=>⟨[(1,.ptr [0,0] 0),(2,.fn 218 [] [.ptr [0,0] 0]),(52,.d (.lst (d.spots.map Af))),(53,.d (.int .i64 d.spots.length)),(54,.d (.int .i64 i))],[([0,0],.box [.d (.lst (d.chans.map Av)),.d (.lst (d.spots.map Af)),.d (.lst (d.rules.map Am))])],1,[]⟩)
  (Inv:=fun i=>i≤d.spots.length∧AA (CE 0 d.spots=CE i (d.spots.drop i))) (m:=fun i=>d.spots.length-i) (a:=0) ⟨by simp,⟨by simp⟩⟩ ?_
 rintro i ⟨k1,k2⟩ IH
 (repeat' (first|simp only[go_sem, *]|(refine sx ?_ ?_<;>intro hc)|refine sy (by omega) fun x hx hm=>?_|simp(disch:=first|assumption|omega) only[wrap_id,AF,AC,slice_int]))
 .refine IH.out (i+1) (by omega) ⟨by omega,⟨?_⟩⟩;rw[k2.out,AJ hx,CE];simp[*]
 .rw[cv,B8];rw[k2.out,AJ hx,CE];simp[*]
 .rw[cv,B8];rw[k2.out,AJ hx,CE];simp[*]
 have hsp:CE 0 d.spots=true:=by rw[k2.out,List.drop_eq_nil_of_le (by omega)];rfl
 clear hc k1 k2 IH i;refine rounds (S:=fun a:Nat×List Int=>⟨[(1,.ptr [0,0] 0),(2,.fn 218 [] [.ptr [0,0] 0]),(7,.mp [1,1]),(72,.d (.lst (d.rules.map Am))),(73,.d (.int .i64 d.rules.length)),(74,.d (.int .i64 a.1))],[([0,0],.box [.d (.lst (d.chans.map Av)),.d (.lst (d.spots.map Af)),.d (.lst (d.rules.map Am))]),([1,1],.map (EH a.2))],2,[]⟩)
  (Inv:=fun a=>a.1≤d.rules.length∧AA (d.rules.all (A9 d)=(d.rules.drop a.1).all (A9 d))∧AA (EC [] d.rules=EC a.2 (d.rules.drop a.1))) (m:=fun a=>d.rules.length-a.1) (a:=(0,[])) ⟨by simp,⟨by simp⟩,⟨by simp⟩⟩ ?_
 rintro⟨i,st⟩ ⟨k1,k2,k3⟩ IH;dsimp only at*;by_cases hi:i<d.rules.length
 .obtain⟨r,hx⟩:=get_some hi;have hi':(i:Int)<d.rules.length:=by omega
  refine aw ?_;refine Ax (RP d r.at_ _ _ _ ?_) (fun o1 g1 p1=>?_)
  .simp only[go_sem]
  obtain⟨rfl,rfl⟩:=p1;by_cases kp:0≤r.at_∧r.at_≤d.spots.length
  .rw[if_pos kp]
   (repeat' (first|simp only[go_sem, *]|(refine sx ?_ ?_<;>intro hc)|refine sy (by omega) fun x hx hm=>?_|simp(disch:=first|assumption|omega) only[wrap_id,AF,AC,slice_int]))
   ·
    refine rounds (S:=fun a:Nat×List Int=>⟨[(1,.ptr [0,0] 0),(2,.fn 218 [] [.ptr [0,0] 0]),(7,.mp [1,1]),(9,.ptr [0,2] 0),(72,.d (.lst (d.rules.map Am))),(73,.d (.int .i64 d.rules.length)),(74,.d (.int .i64 i)),(94,.d (.lst (r.joins.map AG))),(95,.d (.int .i64 r.joins.length)),(96,.d (.int .i64 a.1))],[([0,0],.box [.d (.lst (d.chans.map Av)),.d (.lst (d.spots.map Af)),.d (.lst (d.rules.map Am))]),([1,1],.map (EH a.2)),([0,2],.box [.d (.int .i64 r.at_),.d (.lst (r.joins.map AG)),.d (.int .i64 r.node)])],3,[]⟩)
     (Inv:=fun a=>a.1≤r.joins.length∧AA (joinsOk d r 0 r.joins=joinsOk d r a.1 (r.joins.drop a.1))∧AA (EC [] d.rules=EC ((r.joins.drop a.1).foldl Kk a.2) (d.rules.drop (i+1)))) (m:=fun a=>r.joins.length-a.1) (a:=(0,st)) ⟨by simp,⟨by simp⟩,⟨by rw[k3.out,AJ hx];rfl⟩⟩ ?_
    rintro⟨k,st2⟩ ⟨j1,j2,j3⟩ IH2;dsimp only at*;by_cases hk:k<r.joins.length
    .obtain⟨c,hy⟩:=get_some hk;have hk':(k:Int)<r.joins.length:=by omega
     have hlt:(r.joins.take k).length≤1000000:=by simp;omega
     have hbad:AA (EU d r k c=false→(AQ.pan Es,([]:AB))=FQ Es d.okG):=.mk fun hb=>by
      have hj:joinsOk d r 0 r.joins=false:=by rw[j2.out,AJ hy,joinsOk,hb,Bool.false_and]
      rw[Pe,B8];rw[k2.out,AJ hx,List.all_cons,show A9 d r=false by simp only[A9,hj,Bool.and_false],Bool.false_and]
     by_cases hc0:0≤c
     .by_cases hc1:c<d.chans.length
      .obtain⟨y,hyc⟩:=get_some (l:=d.chans) (i:=c.toNat) (by omega);have hjo:EU d r k c=(decide (y.at_=r.at_)&& !decide (c∈r.joins.take k)):=by
        simp only[EU,hyc,Option.map_some,Option.getD_some,decide_eq_true hc0,decide_eq_true hc1,Bool.true_and]
       (repeat' (first|simp only[go_sem, *]|(refine sx ?_ ?_<;>intro hc)|refine sy (by omega) fun x hx hm=>?_|simp(disch:=first|assumption|omega) only[wrap_id,AF,AC,slice_int,SS]))
       .rw[←nP,jr (st:=st2) (by simp only[go_sem])];refine aw ?_;refine IH2.out (k+1,Kk st2 c) (by dsimp only;omega) ⟨by dsimp only;omega,⟨?_⟩,⟨?_⟩⟩
        .dsimp only;rw[j2.out,AJ hy,joinsOk,hjo];simp only[*,decide_true,decide_false,Bool.not_true,Bool.not_false,Bool.true_and,Bool.false_and]
        .dsimp only;rw[j3.out,AJ hy,List.foldl_cons]
       .exact hbad.out (by rw[hjo];simp only[*,decide_true,decide_false,Bool.not_true,Bool.not_false,Bool.true_and,Bool.false_and])
       .exact hbad.out (by rw[hjo,decide_eq_false (by assumption),Bool.false_and])
      .refine aw ?_;exact hbad.out (by simp only[EU,decide_eq_false hc1,Bool.false_and,Bool.and_false])
     .refine aw ?_;exact hbad.out (by simp only[EU,decide_eq_false hc0,Bool.false_and])
    .have hk': ¬(k:Int)<r.joins.length:=by omega
     refine aw ?_;refine IH.out (i+1,st2) (by dsimp only;omega) ⟨by dsimp only;omega,⟨?_⟩,⟨?_⟩⟩
     .dsimp only;rw[k2.out,AJ hx,List.all_cons,show A9 d r=true by
       rw[List.drop_eq_nil_of_le (by omega)]at j2;simp only[A9,decide_eq_true kp,j2.out,joinsOk];simp;omega,Bool.true_and]
     .dsimp only;rw[j3.out,List.drop_eq_nil_of_le (by omega)];rfl
   .rw[Pe,B8];rw[k2.out,AJ hx,List.all_cons,show A9 d r=false by simp[A9];omega,Bool.false_and]
   .rw[Pe,B8];rw[k2.out,AJ hx,List.all_cons,show A9 d r=false by simp[A9];omega,Bool.false_and]
  .rw[if_neg kp];refine aw ?_;rw[Pe,B8];rw[k2.out,AJ hx,List.all_cons,show A9 d r=false by simp only[A9,decide_eq_false kp,Bool.false_and],Bool.false_and]
 .have hi': ¬(i:Int)<d.rules.length:=by omega
  have hru:d.rules.all (A9 d)=true:=by rw[k2.out,List.drop_eq_nil_of_le (by omega)];rfl
  have hst:(EC [] d.rules).length=(EH st).length:=by
   rw[k3.out,List.drop_eq_nil_of_le (by omega)];simp[EC,EH]
  (repeat' (first|simp only[go_sem, *]|(refine sx ?_ ?_<;>intro hc)|refine sy (by omega) fun x hx hm=>?_|simp(disch:=first|assumption|omega) only[wrap_id,AF,AC,slice_int]))
  .rw[show d.okG=true by
    simp only[Ba.okG,hch,hsp,hru,decide_eq_true c1,decide_eq_true c2,decide_eq_true c3,Bool.true_and,decide_eq_true_eq];omega,UG]
  .rw[oP (by omega),B8]
end Go.Proofs
namespace Go.Proofs
open Go Go.Abs
set_option maxRecDepth 100000
set_option maxHeartbeats 4000000
def Bh(t:Bool):List AN:=[.bool t]
attribute [go_sem] Bh
def JP(u:List Bool)(c:Int):List Bool:=u.set c.toNat true
def IJ(u:List Bool)(rs:List Ey):List Bool:=rs.foldl (fun u r=>r.joins.foldl JP u) u
def Ba.okR(d:Ba):Bool:=decide (d.chans.length≤30)&&(decide (d.spots.length≤30)&&(decide (d.rules.length≤30)&&(d.chans.all (Bt d)&&(CE 0 d.spots&&(d.rules.all (A9 d)&&(IJ (List.replicate d.chans.length false) d.rules).all id)))))
theorem QR{d:Ba}(h:d.chans.all (Bt d)=false):d.okR=false:=by simp only[Ba.okR,h,Bool.false_and,Bool.and_false]
theorem dN{d:Ba}(h:CE 0 d.spots=false):d.okR=false:=by simp only[Ba.okR,h,Bool.false_and,Bool.and_false]
theorem K5{d:Ba}(h:d.rules.all (A9 d)=false):d.okR=false:=by simp only[Ba.okR,h,Bool.false_and,Bool.and_false]
theorem oT{d:Ba}(h:(IJ (List.replicate d.chans.length false) d.rules).all id=false):d.okR=false:=by simp only[Ba.okR,h,Bool.and_false]
theorem kh(d:Ba):Au (KL Tryz.prog cfg) 128 [.agg [.d (.lst (d.chans.map Av)),.d (.lst (d.spots.map Af)),.d (.lst (d.rules.map Am))]] []=.ok (.ret (.d (.bool d.okR)),[]):=by
 (refine AU rfl Tryz.func128 rfl rfl rfl ?_;show Wp _ _ _ _ (Tryz.f128.body.get rfl) _ _;simp only[Tryz.f128,Option.get_some])
 (repeat' (first|simp only[go_sem, *]|(refine sx ?_ ?_<;>intro hc)|refine sy (by omega) fun x hx hm=>?_|simp(disch:=first|assumption|omega) only[wrap_id,AF,AC,slice_int]))
 all_goals try(rw[show d.okR=false by simp[Ba.okR];omega])
 have c1:d.chans.length≤30:=by omega
 have c2:d.spots.length≤30:=by omega
 have c3:d.rules.length≤30:=by omega
 refine rounds (S:=fun i:Nat=>⟨[(1,.ptr [0,0] 0),(3,.d (.int .i64 i))],[([0,0],.box [.d (.lst (d.chans.map Av)),.d (.lst (d.spots.map Af)),.d (.lst (d.rules.map Am))])],1,[]⟩)
  (Inv:=fun i=>i≤d.chans.length∧AA (d.chans.all (Bt d)=(d.chans.drop i).all (Bt d))) (m:=fun i=>d.chans.length-i) (a:=0) ⟨by simp,⟨by simp⟩⟩ ?_
 clear hc;rintro i ⟨k1,k2⟩ IH
 (repeat' (first|simp only[go_sem, *]|(refine sx ?_ ?_<;>intro hc)|refine sy (by omega) fun x hx hm=>?_|simp(disch:=first|assumption|omega) only[wrap_id,AF,AC,slice_int]))
 .rw[QR];rw[k2.out,AJ hx,List.all_cons,show Bt d x=false by simp[Bt];omega,Bool.false_and]
 .rw[QR];rw[k2.out,AJ hx,List.all_cons,show Bt d x=false by simp[Bt];omega,Bool.false_and]
 .rw[QR];rw[k2.out,AJ hx,List.all_cons,show Bt d x=false by simp[Bt];omega,Bool.false_and]
 .rw[QR];rw[k2.out,AJ hx,List.all_cons,show Bt d x=false by simp[Bt];omega,Bool.false_and]
 .refine IH.out (i+1) (by omega) ⟨by omega,⟨?_⟩⟩;rw[k2.out,AJ hx,List.all_cons,show Bt d x=true by simp[Bt];omega,Bool.true_and]
 have hch:d.chans.all (Bt d)=true:=by rw[k2.out,List.drop_eq_nil_of_le (by omega)];rfl
 clear hc k1 k2 IH i;refine rounds (S:=fun i:Nat=>⟨[(1,.ptr [0,0] 0),(4,.d (.int .i64 i))],[([0,0],.box [.d (.lst (d.chans.map Av)),.d (.lst (d.spots.map Af)),.d (.lst (d.rules.map Am))])],1,[]⟩)
  (Inv:=fun i=>i≤d.spots.length∧AA (CE 0 d.spots=CE i (d.spots.drop i))) (m:=fun i=>d.spots.length-i) (a:=0) ⟨by simp,⟨by simp⟩⟩ ?_
 rintro i ⟨k1,k2⟩ IH
 (repeat' (first|simp only[go_sem, *]|(refine sx ?_ ?_<;>intro hc)|refine sy (by omega) fun x hx hm=>?_|simp(disch:=first|assumption|omega) only[wrap_id,AF,AC,slice_int]))
 .rw[dN];rw[k2.out,AJ hx,CE];simp;omega
 .rw[dN];rw[k2.out,AJ hx,CE];simp;omega
 .refine IH.out (i+1) (by omega) ⟨by omega,⟨?_⟩⟩;rw[k2.out,AJ hx,CE,decide_eq_true (by omega),decide_eq_true (by omega),Bool.true_and,Bool.true_and]
 have hsp:CE 0 d.spots=true:=by rw[k2.out,List.drop_eq_nil_of_le (by omega)];rfl
 by_cases hz:d.chans=[]
 .rw[hz];clear hc k1 k2 IH;refine aw ?_;rw[B5];have hcl:d.chans.length=0:=by rw[hz];rfl
  rcases hr:d.rules with _|⟨r,rs⟩
  .refine aw ?_;rw[B5];refine aw ?_;rw[show d.okR=true by
    simp only[Ba.okR,hch,hsp,hr,hz,IJ];simp;exact c2]
  .have hno:AA (A9 d r=false→false=d.okR):=.mk fun h=>by
    rw[K5];rw[hr,List.all_cons,h,Bool.false_and]
   clear hch;rcases hj:r.joins with _|⟨c,cs⟩
   ·(repeat' (first|simp only[go_sem, *]|(refine sx ?_ ?_<;>intro hc)|refine sy (by omega) fun x hx hm=>?_|simp(disch:=first|assumption|omega) only[wrap_id,AF,AC,slice_int]))
    all_goals first|(rw[←hno.out (by simp[A9,hj])];done)|(exfalso;omega)
   .have hno:=AA.mk (hno.out (by
     have:joinsOk d r 0 r.joins=false:=by
      rw[hj,joinsOk,EU,hcl];by_cases h0:0≤c
      .rw[decide_eq_false (p:=c<((0:Nat):Int)) (by omega)];simp
      .rw[decide_eq_false h0];simp
     simp only[A9,this,Bool.and_false]))
    (repeat' (first|simp only[go_sem, *]|(refine sx ?_ ?_<;>intro hc)|refine sy (by omega) fun x hx hm=>?_|simp(disch:=first|assumption|omega) only[wrap_id,AF,AC,slice_int]))
    all_goals try first|(rw[←hno.out];done)|(exfalso;omega)
    rw[B5]
    (repeat' (first|simp only[go_sem, *]|(refine sx ?_ ?_<;>intro hc)|refine sy (by omega) fun x hx hm=>?_|simp(disch:=first|assumption|omega) only[wrap_id,AF,AC,slice_int]))
    all_goals first|(rw[←hno.out];done)|(exfalso;omega)
 have hpos:0<d.chans.length:=List.length_pos_iff.2 hz;rw[LK (zs:=[.bool false]) hpos (by unfold Ay;omega) rfl rfl (by decide) rfl];clear hc k1 k2 IH;refine aw ?_;have hrep:(List.replicate d.chans.length [AN.bool false])=(List.replicate d.chans.length false).map Bh:=by rw[List.map_replicate];rfl
 rw[hrep];have hul:(List.replicate d.chans.length false).length=d.chans.length:=List.length_replicate;refine rounds (S:=fun a:Nat×List Bool=>⟨[(1,.ptr [0,0] 0),(5,.osl [1,1] 0 d.chans.length),(6,.d (.int .i64 a.1))],[([0,0],.box [.d (.lst (d.chans.map Av)),.d (.lst (d.spots.map Af)),.d (.lst (d.rules.map Am))]),([1,1],.darr 1 (a.2.map Bh))],2,[]⟩)
  (Inv:=fun a=>a.1≤d.rules.length∧a.2.length=d.chans.length∧AA (d.rules.all (A9 d)=(d.rules.drop a.1).all (A9 d))∧AA (IJ (List.replicate d.chans.length false) d.rules=IJ a.2 (d.rules.drop a.1))) (m:=fun a=>d.rules.length-a.1) (a:=(0,List.replicate d.chans.length false)) ⟨by simp,hul,⟨by simp⟩,⟨by simp⟩⟩ ?_
 clear hrep hul;rintro⟨i,u⟩ ⟨k1,k0,k2,k3⟩ IH;dsimp only at*;by_cases hi:i<d.rules.length
 .obtain⟨r,hx⟩:=get_some hi;have hi':(i:Int)<d.rules.length:=by omega
  (repeat' (first|simp only[go_sem, *]|(refine sx ?_ ?_<;>intro hc)|refine sy (by omega) fun x hx hm=>?_|simp(disch:=first|assumption|omega) only[wrap_id,AF,AC,slice_int]))
  .rw[K5];rw[k2.out,AJ hx,List.all_cons,show A9 d r=false by simp[A9];omega,Bool.false_and]
  .rw[K5];rw[k2.out,AJ hx,List.all_cons,show A9 d r=false by simp[A9];omega,Bool.false_and]
  .rw[K5];rw[k2.out,AJ hx,List.all_cons,show A9 d r=false by simp[A9];omega,Bool.false_and]
  .rw[K5];rw[k2.out,AJ hx,List.all_cons,show A9 d r=false by simp[A9];omega,Bool.false_and]
  refine rounds (S:=fun a:Nat×List Bool=>⟨[(1,.ptr [0,0] 0),(5,.osl [1,1] 0 d.chans.length),(6,.d (.int .i64 i)),(7,.ptr [0,2] 0),(8,.d (.int .i64 a.1))],[([0,0],.box [.d (.lst (d.chans.map Av)),.d (.lst (d.spots.map Af)),.d (.lst (d.rules.map Am))]),([1,1],.darr 1 (a.2.map Bh)),([0,2],.box [.d (.int .i64 r.at_),.d (.lst (r.joins.map AG)),.d (.int .i64 r.node)])],3,[]⟩)
   (Inv:=fun a=>a.1≤r.joins.length∧a.2.length=d.chans.length∧AA (joinsOk d r 0 r.joins=joinsOk d r a.1 (r.joins.drop a.1))∧AA (IJ (List.replicate d.chans.length false) d.rules=IJ ((r.joins.drop a.1).foldl JP a.2) (d.rules.drop (i+1)))) (m:=fun a=>r.joins.length-a.1) (a:=(0,u)) ⟨by simp,k0,⟨by simp⟩,⟨by rw[k3.out,AJ hx];rfl⟩⟩ ?_
  rintro⟨k,u2⟩ ⟨j1,j0,j2,j3⟩ IH2;dsimp only at*;by_cases hk:k<r.joins.length
  .obtain⟨c,hy⟩:=get_some hk;have hk':(k:Int)<r.joins.length:=by omega
   have hbad:AA (EU d r k c=false→false=d.okR):=.mk fun hb=>by
    have hj:joinsOk d r 0 r.joins=false:=by rw[j2.out,AJ hy,joinsOk,hb,Bool.false_and]
    rw[K5];rw[k2.out,AJ hx,List.all_cons,show A9 d r=false by simp only[A9,hj,Bool.and_false],Bool.false_and]
   by_cases hc0:c<0
   .refine aw ?_;rw[←hbad.out (by simp only[EU,decide_eq_false (show¬0≤c by omega),Bool.false_and])]
   by_cases hc1:(d.chans.length:Int)≤c
   .refine aw ?_;rw[←hbad.out (by simp only[EU,decide_eq_false (show¬c<d.chans.length by omega),Bool.false_and,Bool.and_false])]
   obtain⟨y,hyc⟩:=get_some (l:=d.chans) (i:=c.toNat) (by omega);have hjo:EU d r k c=(decide (y.at_=r.at_)&& !decide (c∈r.joins.take k)):=by
    simp only[EU,hyc,Option.map_some,Option.getD_some,decide_eq_true (show 0≤c by omega),decide_eq_true (show c<d.chans.length by omega),Bool.true_and]
   have hc2:0≤c:=by omega
   (repeat' (first|simp only[go_sem, *]|(refine sx ?_ ?_<;>intro hc)|refine sy (by omega) fun x hx hm=>?_|simp(disch:=first|assumption|omega) only[wrap_id,AF,AC,slice_int]))
   .refine rounds (S:=fun m:Nat=>⟨[(1,.ptr [0,0] 0),(5,.osl [1,1] 0 d.chans.length),(6,.d (.int .i64 i)),(7,.ptr [0,2] 0),(8,.d (.int .i64 k)),(9,.d (.int .i64 c)),(10,.d (.int .i64 m))],[([0,0],.box [.d (.lst (d.chans.map Av)),.d (.lst (d.spots.map Af)),.d (.lst (d.rules.map Am))]),([1,1],.darr 1 (u2.map Bh)),([0,2],.box [.d (.int .i64 r.at_),.d (.lst (r.joins.map AG)),.d (.int .i64 r.node)])],3,[]⟩)
     (Inv:=fun m=>m≤k∧AA (c∉r.joins.take m)) (m:=fun m=>k-m) (a:=0) ⟨by simp,⟨by simp⟩⟩ ?_
    rintro m ⟨m1,m2⟩ IH3;by_cases hm:m<k
    .obtain⟨v,hv⟩:=get_some (l:=r.joins) (i:=m) (by omega);have hm':(m:Int)<k:=by omega
     have htk:r.joins.take (m+1)=r.joins.take m++[v]:=by rw[List.take_add_one,hv];rfl
     (repeat' (first|simp only[go_sem, *]|(refine sx ?_ ?_<;>intro hc)|refine sy (by omega) fun x hx hm=>?_|simp(disch:=first|assumption|omega) only[wrap_id,AF,AC,slice_int]))
     .have:c∈r.joins.take k:=by
       rw[←hc];have:(r.joins.take k)[m]? =some v:=by rw[List.getElem?_take_of_lt hm,hv]
       exact List.mem_of_getElem? this
      rw[←hbad.out (by rw[hjo,decide_eq_true this];simp)]
     .refine IH3.out (m+1) (by omega) ⟨by omega,⟨?_⟩⟩;rw[htk];simp only[List.mem_append,List.mem_singleton,not_or];exact⟨m2.out,fun h=>by simp_all⟩
    .have hm': ¬(m:Int)<k:=by omega
     have hcl:c.toNat<d.chans.length:=by omega
     obtain⟨t,ht⟩:=get_some (l:=u2) (i:=c.toNat) (by omega);have hmk:m=k:=by omega
     subst hmk;refine aw ?_;have e:(u2.map Bh).set c.toNat [AN.bool true]=(JP u2 c).map Bh:=by rw[JP,List.map_set];rfl
     rw[e];refine IH2.out (m+1,JP u2 c) (by dsimp only;omega) ⟨by dsimp only;omega,by simp[JP,j0],⟨?_⟩,⟨?_⟩⟩
     .dsimp only;rw[j2.out,AJ hy,joinsOk,hjo,decide_eq_true (by assumption),decide_eq_false m2.out];rfl
     .dsimp only;rw[j3.out,AJ hy,List.foldl_cons]
   .rw[←hbad.out (by rw[hjo,decide_eq_false (by assumption),Bool.false_and])]
  .have hk': ¬(k:Int)<r.joins.length:=by omega
   refine aw ?_;refine IH.out (i+1,u2) (by dsimp only;omega) ⟨by dsimp only;omega,j0,⟨?_⟩,⟨?_⟩⟩
   .dsimp only;rw[k2.out,AJ hx,List.all_cons,show A9 d r=true by
     rw[List.drop_eq_nil_of_le (by omega)]at j2;simp only[A9,j2.out,joinsOk];simp;omega,Bool.true_and]
   .dsimp only;rw[j3.out,List.drop_eq_nil_of_le (by omega)];rfl
 .have hi': ¬(i:Int)<d.rules.length:=by omega
  refine aw ?_;have hru:d.rules.all (A9 d)=true:=by rw[k2.out,List.drop_eq_nil_of_le (by omega)];rfl
  have hus:IJ (List.replicate d.chans.length false) d.rules=u:=by rw[k3.out,List.drop_eq_nil_of_le (by omega)];rfl
  refine rounds (S:=fun i:Nat=>⟨[(5,.osl [1,0] 0 d.chans.length),(11,.d (.int .i64 i))],[([1,0],.darr 1 (u.map Bh))],1,[]⟩)
   (Inv:=fun i=>i≤d.chans.length∧AA (u.all id=(u.drop i).all id)) (m:=fun i=>d.chans.length-i) (a:=0) ⟨by simp,⟨by simp⟩⟩ ?_
  clear k1 k2 k3 IH hi hi' i;rintro i ⟨k1,k2⟩ IH;have hus:=AA.mk hus;by_cases hi:i<d.chans.length
  .obtain⟨t,ht⟩:=get_some (l:=u) (i:=i) (by omega);have hi':(i:Int)<d.chans.length:=by omega
   cases t
   .refine aw ?_;rw[oT (by rw[hus.out,k2.out,AJ ht,List.all_cons];rfl)]
   .refine aw ?_;refine IH.out (i+1) (by omega) ⟨by omega,⟨?_⟩⟩;rw[k2.out,AJ ht,List.all_cons];rfl
  .have hi': ¬(i:Int)<d.chans.length:=by omega
   have hall:u.all id=true:=by rw[k2.out,List.drop_eq_nil_of_le (by omega)];rfl
   refine aw ?_;rw[show d.okR=true by
    simp only[Ba.okR,hch,hsp,hru,hus.out,hall,decide_eq_true c1,decide_eq_true c2,decide_eq_true c3,Bool.and_self]]
end Go.Proofs
namespace Go.Proofs
open Go Go.Abs
def DP(op:Int):Option Nat:=
 if op=1 then some 0 else if op=7 then some 0 else if op=3 then some 2 else if op=2 then some 0 else if op=5 then some 2
 else if op=6 then some 1 else if op=8 then some 1 else if op=4 then some 1 else none
def Dv(x:DZ):Bool:=if x.op=2 then decide (x.args.length≤3)else if x.op=5 then decide (x.args.length=1)else decide (x.args.length=0)
def QU(p:AL)(size:Int)(x:DZ):Bool:=if x.op=2∨x.op=6∨x.op=8 then decide (0≤x.n∧x.n<size)else if x.op=4 then decide (0≤x.n∧x.n<p.defs.length)else decide (x.n=0)
def CL(p:AL)(size:Int)(x:DZ):Bool:=decide (DP x.op=some x.kids.length)&&(QU p size x&&(Dv x&&x.args.all (BH.ok size)))
structure Aw where
 sizes:List Int
 met:List Bool
 defs:List Bool
def BT(f:Int→Int→Aw→Option Aw):List (Int×Int)→Aw→Option Aw
 |[],st=>some st
 |(n,s)::l,st=>match f n s st with
  |some st'=>BT f l st'
  |none=>none
def Bm(d:Ba)(size:Int)(l:List Ey):List (Int×Int):=l.map fun r=>(r.node,size+Bn d r.joins)
def BW(size:Int)(l:List M9):List (Int×Int):=l.map fun s=>(s.node,size)
def BZ(size:Int)(l:List Int):List (Int×Int):=l.map fun k=>(k,size)
def Lx(p:AL)(size:Int)(x:DZ)(st:Aw):Option (List (Int×Int)×Aw):=
 if x.op=4 then match p.defs[x.n.toNat]? with
  |some d=>if st.defs[x.n.toNat]? =some false∧d.okG=true then some (Bm d (size+d.own) d.rules++(BW (size+d.own) d.spots++BZ (size+d.own) x.kids),{st with defs:=st.defs.set x.n.toNat true})else none
  |none=>none
 else some (BZ size x.kids,st)
def Aw.meet(st:Aw)(n size:Int):Aw:={st with sizes:=st.sizes.set n.toNat size,met:=st.met.set n.toNat true}
def Ak(p:AL):Nat→Int→Int→Aw→Option Aw
 |0,_,_,_=>none
 |k+1,n,size,st=>
  if 0≤n∧st.met[n.toNat]? =some false then
   match p.nodes[n.toNat]? with
   |some x=>if CL p size x=true then match Lx p size x (st.meet n size)with
    |some (l,st2)=>BT (Ak p k) l st2
    |none=>none
    else none
   |none=>none
  else none
def Rj(a b:ByteArray):Bool:=Op.bytesLess a.toList b.toList
def FV:Option ByteArray→List ByteArray→Bool
 |_,[]=>true
 |b,a::l=>DL a&&((match b with|some b=>Rj b a|none=>true)&&FV (some a) l)
def HJ(l:List ByteArray):Bool:=FV none l
def AL.small(p:AL):Bool:=decide (p.free.length≤12)&&(decide (p.nodes.length≤60)&&decide (p.defs.length≤12))
def Aw.init(p:AL):Aw:=⟨List.replicate p.nodes.length 0,List.replicate p.nodes.length false,List.replicate p.defs.length false⟩
def looks(p:AL):Option Aw:=
 if p.small=true∧HJ p.free=true then match Ak p (p.nodes.length+1) p.main p.free.length (Aw.init p)with
  |some st=>if st.met.all id=true∧st.defs.all id=true then some st else none
  |none=>none
 else none
structure Aw.fit(p:AL)(st:Aw):Prop where
 sizes:st.sizes.length=p.nodes.length
 met:st.met.length=p.nodes.length
 defs:st.defs.length=p.defs.length
def Ci(l:List Bool):Nat:=l.count false
theorem DK: ∀{l:List Bool} {n:Nat},l[n]? =some false→Ci (l.set n true)+1=Ci l
 |[],n,h=>by simp at h
 |b::l,0,h=>by
  simp only[List.getElem?_cons_zero,Option.some.injEq]at h;subst h;simp[Ci]
 |b::l,n+1,h=>by
  simp only[List.getElem?_cons_succ]at h;have:=DK h;cases b<;>simp[Ci]at this⊢ <;>omega
theorem Iu(l:List Bool):Ci l≤l.length:=List.count_le_length
theorem KQ{p:AL}{st:Aw}(h:st.fit p)(n size:Int):(st.meet n size).fit p:=⟨by simp[Aw.meet,h.sizes],by simp[Aw.meet,h.met],by simp[Aw.meet,h.defs]⟩
theorem iC{p:AL}{size:Int}{x:DZ}{st st2:Aw}{l:List (Int×Int)}(h:Lx p size x st=some (l,st2)):st2.sizes=st.sizes∧st2.met=st.met∧st2.defs.length=st.defs.length:=by
 unfold Lx at h;split at h
 .split at h
  .split at h
   .cases h;simp
   .cases h
  .cases h
 .cases h;simp
theorem K8{f:Int→Int→Aw→Option Aw}{R:Aw→Aw→Prop}(hr: ∀st,R st st)(ht: ∀a b c,R a b→R b c→R a c)(hf: ∀n s st st',f n s st=some st'→R st st'): ∀{l:List (Int×Int)} {st st':Aw},BT f l st=some st'→R st st'
 |[],st,st',h=>by cases h;exact hr _
 |(n,s)::l,st,st',h=>by
  rw[BT]at h;split at h
  .rename_i st1 h1;exact ht _ _ _ (hf _ _ _ _ h1) (K8 hr ht hf h)
  .cases h
structure Z8(st st':Aw):Prop where
 sizes:st'.sizes.length=st.sizes.length
 met:st'.met.length=st.met.length
 defs:st'.defs.length=st.defs.length
 less:Ci st'.met≤Ci st.met
theorem Be(p:AL): ∀(k:Nat) (n size:Int) (st st':Aw),Ak p k n size st=some st'→Z8 st st'
 |0,n,size,st,st',h=>by cases h
 |k+1,n,size,st,st',h=>by
  rw[Ak]at h;split at h
  .rename_i hn;split at h
   .rename_i x hx;split at h
    .split at h
     .rename_i l st2 h2;have h3:=iC h2;have h4:Z8 st2 st':=K8 (R:=Z8) (fun st=>⟨rfl,rfl,rfl,Nat.le_refl _⟩) (fun a b c h1 h2=>⟨h2.1.trans h1.1,h2.2.trans h1.2,h2.3.trans h1.3,Nat.le_trans h2.4 h1.4⟩) (Be p k) h;have h5:=DK hn.2;refine⟨h4.1.trans ?_,h4.2.trans ?_,h4.3.trans ?_,Nat.le_trans h4.4 ?_⟩
      .rw[h3.1];simp[Aw.meet]
      .rw[h3.2.1];simp[Aw.meet]
      .rw[h3.2.2];simp[Aw.meet]
      .rw[h3.2.1];simp only[Aw.meet];omega
     .cases h
    .cases h
   .cases h
  .cases h
end Go.Proofs
namespace Go.Proofs
open Go Go.Abs
def HX(p:AL)(size:Int)(x:DZ):Option (List (Int×Int)):=
 if x.op=4 then match p.defs[x.n.toNat]? with
  |some d=>if d.okG=true then some (Bm d (size+d.own) d.rules++(BW (size+d.own) d.spots++BZ (size+d.own) x.kids))else none
  |none=>none
 else some (BZ size x.kids)
theorem HY{d:Ba}(h: ∀c∈d.chans,0≤c.many∧c.many≤3): ∀l:List Int,0≤Bn d l∧Bn d l≤3*l.length
 |[]=>by simp[Bn]
 |j::l=>by
  have ih:=HY h l;rw[Bn];have:0≤((d.chans[j.toNat]?).map Hy.many).getD 0∧((d.chans[j.toNat]?).map Hy.many).getD 0≤3:=by
   cases hc:d.chans[j.toNat]? with
   |none=>simp
   |some c=>simpa using h c (List.mem_of_getElem? hc)
  simp only[List.length_cons];omega
structure Nb(d:Ba):Prop where
 chans:d.chans.length≤30
 spots:d.spots.length≤30
 rules:d.rules.length≤30
 chan: ∀c∈d.chans,0≤c.at_∧c.at_≤d.spots.length∧0≤c.many∧c.many≤3
 spot:CE 0 d.spots=true
 rule: ∀r∈d.rules,A9 d r=true
 stands:(EC [] d.rules).length=d.chans.length
theorem Mv{d:Ba}(h:d.okG=true):Nb d:=by
 simp only[Ba.okG,Bool.and_eq_true,decide_eq_true_eq,List.all_eq_true,Bt]at h;obtain⟨h1,h2,h3,h4,h5,h6,h7⟩:=h;exact⟨h1,h2,h3,fun c hc=>⟨(h4 c hc).1.1,(h4 c hc).1.2,(h4 c hc).2.1,(h4 c hc).2.2⟩,h5,h6,h7⟩
theorem Jf{d:Ba}{r:Ey}: ∀{i:Nat} {l:List Int},joinsOk d r i l=true→ ∀j∈l,0≤j∧j<d.chans.length
 |i,[],h=>by simp
 |i,c::l,h=>by
  intro j hj;rw[joinsOk,Bool.and_eq_true]at h;rcases List.mem_cons.1 hj with rfl|hj
  .have:=h.1;simp only[EU,Bool.and_eq_true,decide_eq_true_eq]at this;exact⟨this.1,this.2.1⟩
  .exact Jf h.2 j hj
theorem JW{d:Ba}{r:Ey}(h:Nb d)(hr:r∈d.rules):d.joinsOk r:=by
 have:=h.rule r hr;simp only[A9,Bool.and_eq_true,decide_eq_true_eq]at this;exact⟨this.2.2.1,Jf this.2.2.2,fun c hc=>(h.chan c hc).2.2⟩
theorem Jh{d:Ba}(h:Nb d):d.own≤60:=by
 have:=h.chans;have:=h.spots;unfold Ba.own;omega
theorem Yd{p:AL}{size:Int}{x:DZ}{l:List (Int×Int)}(h:HX p size x=some l): ∀q∈l,size≤q.2∧q.2≤size+70:=by
 unfold HX at h;split at h
 .split at h
  .rename_i d hd;split at h
   .rename_i hk;cases h;have hk:=Mv hk;have ho:=Jh hk;intro q hq;simp only[List.mem_append,Bm,BW,BZ,List.mem_map]at hq;rcases hq with⟨r,hr,rfl⟩|⟨r,hr,rfl⟩|⟨r,hr,rfl⟩
    .have hj:=JW hk hr;have:=HY hj.2.2 r.joins;have:=hj.1;dsimp only;omega
    .dsimp only;omega
    .dsimp only;omega
   .cases h
  .cases h
 .cases h;intro q hq;simp only[BZ,List.mem_map]at hq;obtain⟨k,hk,rfl⟩:=hq;dsimp only;omega
def Aw.has(st:Aw)(q:Int×Int):Prop:=0≤q.1∧st.met[q.1.toNat]? =some true∧st.sizes[q.1.toNat]? =some q.2
structure pK(p:AL)(st:Aw)(i:Nat)(x:DZ):Prop where
 met:st.met[i]? =some true
 ex: ∃s l,st.sizes[i]? =some s∧0≤s∧s≤5000∧CL p s x=true∧HX p s x=some l∧ ∀q∈l,st.has q
structure jC(p:AL)(st st':Aw):Prop where
 keep: ∀i:Nat,st.met[i]? =some true→st'.met[i]? =some true∧st'.sizes[i]? =st.sizes[i]?
 good: ∀(i:Nat) (x:DZ),st'.met[i]? =some true→st.met[i]? ≠some true→p.nodes[i]? =some x→pK p st' i x
 defs: ∀i:Nat,st.defs[i]? =some true→st'.defs[i]? =some true
 news: ∀(i:Nat) (x:DZ),st'.met[i]? =some true→st.met[i]? ≠some true→p.nodes[i]? =some x→x.op=4→st.defs[x.n.toNat]? ≠some true∧st'.defs[x.n.toNat]? =some true
 used: ∀n:Nat,st'.defs[n]? =some true→st.defs[n]? ≠some true→ ∃(i:Nat) (x:DZ),p.nodes[i]? =some x∧x.op=4∧x.n.toNat=n
 diff: ∀(i j:Nat) (x y:DZ),i≠j→st'.met[i]? =some true→st.met[i]? ≠some true→p.nodes[i]? =some x→x.op=4→st'.met[j]? =some true→st.met[j]? ≠some true→p.nodes[j]? =some y→y.op=4→x.n.toNat≠y.n.toNat
theorem b5{p:AL}{st st':Aw}{q:Int×Int}(h:st.has q)(ha:jC p st st'):st'.has q:=by
 obtain⟨h1,h2,h3⟩:=h;have:=ha.keep _ h2;exact⟨h1,this.1,by rw[this.2,h3]⟩
theorem mS{p:AL}{st st':Aw}{i:Nat}{x:DZ}(h:pK p st i x)(ha:jC p st st'):pK p st' i x:=by
 obtain⟨h1,s,l,h2,h0,hb,h3,h4,h5⟩:=h;have:=ha.keep _ h1;exact⟨this.1,s,l,by rw[this.2,h2],h0,hb,h3,h4,fun q hq=>b5 (h5 q hq) ha⟩
theorem cN(p:AL)(st:Aw):jC p st st:=⟨fun i h=>⟨h,rfl⟩,fun i x h1 h2=>absurd h1 h2,fun i h=>h,fun i x h1 h2=>absurd h1 h2,fun n h1 h2=>absurd h1 h2,fun i j x y h h1 h2=>absurd h1 h2⟩
theorem Ye{p:AL}{a b c:Aw}(h1:jC p a b)(h2:jC p b c):jC p a c:=by
 refine⟨fun i h=>?_,fun i x hm hn hx=>?_,fun i h=>h2.defs i (h1.defs i h),fun i x hm hn hx ho=>?_,fun n hm hn=>?_,fun i j x y hij him hin hx hox hjm hjn hy hoy=>?_⟩
 .have e1:=h1.keep i h;have e2:=h2.keep i e1.1;exact⟨e2.1,e2.2.trans e1.2⟩
 .by_cases hb:b.met[i]? =some true
  .exact mS (h1.good i x hb hn hx) h2
  .exact h2.good i x hm hb hx
 .by_cases hb:b.met[i]? =some true
  .have:=h1.news i x hb hn hx ho;exact⟨this.1,h2.defs _ this.2⟩
  .have:=h2.news i x hm hb hx ho;exact⟨fun e=>this.1 (h1.defs _ e),this.2⟩
 .by_cases hb:b.defs[n]? =some true
  .exact h1.used n hb hn
  .exact h2.used n hm hb
 .by_cases hbi:b.met[i]? =some true
  .by_cases hbj:b.met[j]? =some true
   .exact h1.diff i j x y hij hbi hin hx hox hbj hjn hy hoy
   .have e1:=h1.news i x hbi hin hx hox;have e2:=h2.news j y hjm hbj hy hoy;intro e;rw[e]at e1;exact e2.1 e1.2
  .by_cases hbj:b.met[j]? =some true
   .have e1:=h1.news j y hbj hjn hy hoy;have e2:=h2.news i x him hbi hx hox;intro e;rw[←e]at e1;exact e2.1 e1.2
   .exact h2.diff i j x y hij him hbi hx hox hjm hbj hy hoy
structure pe(st:Aw)(u:Nat):Prop where
 len:st.sizes.length=st.met.length
 less:Ci st.met≤u
theorem Oh{p:AL}{f:Int→Int→Aw→Option Aw}{u:Nat}(hf: ∀(n s:Int) (st st':Aw),pe st u→0≤s→s+70*u≤5000→f n s st=some st'→jC p st st'∧st'.has (n,s)∧pe st' u): ∀{l:List (Int×Int)} {st st':Aw},pe st u→(∀q∈l,0≤q.2∧q.2+70*u≤5000)→BT f l st=some st'→jC p st st'∧(∀q∈l,st'.has q)∧pe st' u
 |[],st,st',hl,hq,h=>by cases h;exact⟨cN _ _,by simp,hl⟩
 |(n,s)::l,st,st',hl,hq,h=>by
  rw[BT]at h;split at h
  .rename_i st1 h1;have hq1:=hq (n,s) (by simp);have e1:=hf _ _ _ _ hl hq1.1 hq1.2 h1;have e2:=Oh hf e1.2.2 (fun q hm=>hq q (List.mem_cons_of_mem _ hm)) h;refine⟨Ye e1.1 e2.1,fun q hq=>?_,e2.2.2⟩;rcases List.mem_cons.1 hq with rfl|hq
   .exact b5 e1.2.1 e2.1
   .exact e2.2.1 q hq
  .cases h
theorem X0{p:AL}{size:Int}{x:DZ}{st st2:Aw}{l:List (Int×Int)}(h:Lx p size x st=some (l,st2)):HX p size x=some l∧st2.sizes=st.sizes∧st2.met=st.met∧(∀i:Nat,st.defs[i]? =some true→st2.defs[i]? =some true)∧(x.op=4→st.defs[x.n.toNat]? ≠some true∧st2.defs[x.n.toNat]? =some true)∧ ∀i:Nat,st2.defs[i]? =some true→st.defs[i]? ≠some true→x.op=4∧x.n.toNat=i:=by
 unfold Lx at h;unfold HX;split at h
 .rename_i h4;rw[if_pos h4];split at h
  .rename_i d hd;split at h
   .rename_i hk;cases h;refine⟨by first|exact if_pos hk.2|(rw[hd];exact if_pos hk.2),rfl,rfl,fun i hi=>?_,fun _=>⟨by rw[hk.1];simp,?_⟩,fun i h1 h2=>⟨h4,?_⟩⟩
    .rw[List.getElem?_set];split
     .rename_i e;subst e;rw[if_pos (List.getElem?_eq_some_iff.1 hi).1]
     .exact hi
    .rw[List.getElem?_set,if_pos rfl,if_pos (List.getElem?_eq_some_iff.1 hk.1).1]
    .rw[List.getElem?_set]at h1;split at h1
     .assumption
     .exact absurd h1 h2
   .cases h
  .cases h
 .rename_i h4;rw[if_neg h4];cases h;exact⟨rfl,rfl,rfl,fun i h=>h,fun h=>absurd h h4,fun i h1 h2=>absurd h1 h2⟩
theorem Oq(p:AL): ∀(k:Nat) (n size:Int) (st st':Aw) (u:Nat),pe st u→0≤size→size+70*u≤5000→Ak p k n size st=some st'→jC p st st'∧st'.has (n,size)∧pe st' u
 |0,n,size,st,st',u,_,_,_,h=>by cases h
 |k+1,n,size,st,st',u,hb,h0,hsz,h=>by
  rw[Ak]at h;split at h
  .rename_i hn;split at h
   .rename_i x hx;split at h
    .rename_i hok;split at h
     .rename_i l st2 h2;have h3:=X0 h2;have hlen:=hb.len;have hun:=DK hn.2;have hul:=hb.less;obtain⟨u,rfl⟩: ∃v,u=v+1:=⟨u-1,by omega⟩;have hb2:pe st2 u:=⟨by rw[h3.2.1,h3.2.2.1];simp[Aw.meet,hlen],by rw[h3.2.2.1];simp only[Aw.meet];omega⟩;have hle:=Yd h3.1;obtain⟨ha,hl,hz⟩:=Oh (fun n s st st'=>Oq p k n s st st' u) hb2 (fun q hq=>by have:=hle q hq;omega) h;have hlt:=(List.getElem?_eq_some_iff.1 hn.2).1;have m2: ∀i,st2.met[i]? =if n.toNat=i then some true else st.met[i]? :=fun i=>by
       rw[h3.2.2.1,Aw.meet,List.getElem?_set];split
       .rename_i e;subst e;simp[hlt]
       .rfl
      have s2: ∀i,st2.sizes[i]? =if n.toNat=i then some size else st.sizes[i]? :=fun i=>by
       rw[h3.2.1,Aw.meet,List.getElem?_set];split
       .rename_i e;subst e;simp[hlen,hlt]
       .rfl
      have k2:=ha.keep n.toNat (by rw[m2,if_pos rfl]);rw[s2,if_pos rfl]at k2;refine⟨⟨fun i hi=>?_,fun i y hm hm0 hy=>?_,fun i hi=>ha.defs i (h3.2.2.2.1 i hi),fun i y hm hm0 hy ho=>?_,fun i hi hi0=>?_,fun i j y z hij him hin hy hoy hjm hjn hz hoz=>?_⟩,⟨hn.1,k2.1,k2.2⟩,hz.1,Nat.le_succ_of_le hz.2⟩
      .have hne:n.toNat≠i:=fun e=>by subst e;rw[hn.2]at hi;simp at hi
       have:=ha.keep i (by rw[m2,if_neg hne,hi]);rw[s2,if_neg hne]at this;exact this
      .by_cases hne:n.toNat=i
       .subst hne;rw[hx]at hy;cases hy;exact⟨hm,size,l,k2.2,h0,by omega,hok,h3.1,hl⟩
       .exact ha.good i y hm (by rw[m2,if_neg hne];exact hm0) hy
      .by_cases hne:n.toNat=i
       .subst hne;rw[hx]at hy;cases hy;have:=h3.2.2.2.2.1 ho;exact⟨this.1,ha.defs _ this.2⟩
       .have:=ha.news i y hm (by rw[m2,if_neg hne];exact hm0) hy ho;exact⟨fun e=>this.1 (h3.2.2.2.1 _ e),this.2⟩
      .by_cases hd:st2.defs[i]? =some true
       .have:=h3.2.2.2.2.2 i hd hi0;exact⟨_,x,hx,this⟩
       .exact ha.used i hi hd
      .by_cases hni:n.toNat=i
       .have hnj:n.toNat≠j:=fun e=>hij (hni.symm.trans e);subst hni;rw[hx]at hy;cases hy;have e1:=h3.2.2.2.2.1 hoy;have e2:=ha.news j z hjm (by rw[m2,if_neg hnj];exact hjn) hz hoz;intro e;rw[e]at e1;exact e2.1 e1.2
       .by_cases hnj:n.toNat=j
        .subst hnj;rw[hx]at hz;cases hz;have e1:=h3.2.2.2.2.1 hoz;have e2:=ha.news i y him (by rw[m2,if_neg hni];exact hin) hy hoy;intro e;rw[←e]at e1;exact e2.1 e1.2
        .exact ha.diff i j y z hij him (by rw[m2,if_neg hni];exact hin) hy hoy hjm (by rw[m2,if_neg hnj];exact hjn) hz hoz
     .cases h
    .cases h
   .cases h
  .cases h
structure Dz(p:AL)(sizes:List Int):Prop where
 small:p.small=true
 len:sizes.length=p.nodes.length
 main:0≤p.main∧sizes[p.main.toNat]? =some (p.free.length:Int)
 node: ∀(i:Nat) (x:DZ),p.nodes[i]? =some x→ ∃(s:Int) (l:List (Int×Int)),sizes[i]? =some s∧0≤s∧s≤5000∧CL p s x=true∧HX p s x=some l∧ ∀q∈l,0≤q.1∧sizes[q.1.toNat]? =some q.2
 used: ∀n:Nat,n<p.defs.length→ ∃(i:Nat) (x:DZ),p.nodes[i]? =some x∧x.op=4∧x.n.toNat=n
 diff: ∀(i j:Nat) (x y:DZ),i≠j→p.nodes[i]? =some x→x.op=4→p.nodes[j]? =some y→y.op=4→x.n.toNat≠y.n.toNat
theorem Wf{l:List Bool}(h:l.all id=true){i:Nat}(hi:i<l.length):l[i]? =some true:=by
 have:=List.all_eq_true.1 h _ (List.getElem_mem hi);rw[List.getElem?_eq_getElem hi];simpa using this
theorem Bo{p:AL}{st:Aw}(h:looks p=some st):Dz p st.sizes:=by
 unfold looks at h;split at h
 .rename_i hs;split at h
  .rename_i st' hv;split at h
   .rename_i hall;cases h;have hsm:=hs.1;simp only[AL.small,Bool.and_eq_true,decide_eq_true_eq]at hsm;have hg:=Be p _ _ _ _ _ hv;have hun:=Iu (Aw.init p).met;have hil:(Aw.init p).met.length=p.nodes.length:=by simp[Aw.init]
    have ha:=Oq p _ _ _ _ _ 60 ⟨by simp[Aw.init],by omega⟩ (by omega) (by omega) hv;have hm:st.met.length=p.nodes.length:=by rw[hg.met];simp[Aw.init]
    have hz:st.sizes.length=p.nodes.length:=by rw[hg.sizes];simp[Aw.init]
    have hd:st.defs.length=p.defs.length:=by rw[hg.defs];simp[Aw.init]
    have hmet: ∀{i x},p.nodes[i]? =some x→st.met[i]? =some true:=fun{i x} hx=>Wf hall.1 (by rw[hm];exact(List.getElem?_eq_some_iff.1 hx).1);have h0: ∀i:Nat,(Aw.init p).met[i]? ≠some true:=fun i=>by
     simp only[Aw.init,List.getElem?_replicate];split<;>simp
    have hd0: ∀i:Nat,(Aw.init p).defs[i]? ≠some true:=fun i=>by
     simp only[Aw.init,List.getElem?_replicate];split<;>simp
    refine⟨hs.1,hz,⟨ha.2.1.1,ha.2.1.2.2⟩,fun i x hx=>?_,fun n hn=>ha.1.used n (Wf hall.2 (by omega)) (hd0 n),fun i j x y hij hx hox hy hoy=>ha.1.diff i j x y hij (hmet hx) (h0 _) hx hox (hmet hy) (h0 _) hy hoy⟩;obtain⟨_,s,l,h1,hp,hb,h2,h3,h4⟩:=ha.1.good i x (hmet hx) (h0 _) hx;exact⟨s,l,h1,hp,hb,h2,h3,fun q hq=>⟨(h4 q hq).1,(h4 q hq).2.2⟩⟩
   .cases h
  .cases h
 .cases h
end Go.Proofs
namespace Go.Proofs
open Go Go.Abs
structure M1(n:Nat)(u:List Bool)(st:List Int):Prop where
 len:u.length=n
 cnt:Ci u+st.length=n
 mem: ∀c:Int,0≤c→c<n→(u[c.toNat]? =some true↔c∈st)
theorem ZU{n:Nat}{u:List Bool}{st:List Int}{c:Int}(h:M1 n u st)(h0:0≤c)(h1:c<n):M1 n (JP u c) (Kk st c):=by
 have hl:c.toNat<u.length:=by rw[h.len];omega
 have hm:=h.mem c h0 h1;have hmem: ∀b:Int,0≤b→b<n→((JP u c)[b.toNat]? =some true↔b=c∨u[b.toNat]? =some true):=fun b hb0 hb1=>by
  rw[JP,List.getElem?_set];split
  .rename_i e;have:b=c:=by omega
   subst this;simp[hl]
  .rename_i e;have:b≠c:=fun h=>e (by rw[h]);simp[this]
 cases hu:u[c.toNat]? with
 |none=>rw[List.getElem?_eq_none_iff]at hu;omega
 |some t=>
  cases t with
  |true=>
   have hin:=hm.1 hu;have e2:Kk st c=st:=by rw[Kk,if_pos hin]
   have e1:JP u c=u:=by
    apply List.ext_getElem?;intro i;rw[JP,List.getElem?_set];split
    .rename_i e;subst e;exact hu.symm
    .rfl
   rw[e1,e2];exact h
  |false=>
   have hnin:c∉st:=fun hc=>by rw[hm.2 hc]at hu;simp at hu
   have e2:Kk st c=st++[c]:=by rw[Kk,if_neg hnin]
   have hc:=DK hu;have hh:=h.cnt;refine⟨by simp[JP,h.len],?_,fun b hb0 hb1=>?_⟩
   .rw[e2];simp only[JP,List.length_append,List.length_singleton];omega
   .rw[hmem b hb0 hb1,e2,h.mem b hb0 hb1];simp[or_comm]
theorem Lm{n:Nat}: ∀{l:List Int} {u:List Bool} {st:List Int},M1 n u st→(∀c∈l,0≤c∧c<n)→M1 n (l.foldl JP u) (l.foldl Kk st)
 |[],u,st,h,_=>h
 |c::l,u,st,h,hc=>by
  have:=hc c (by simp);exact Lm (l:=l) (ZU h this.1 this.2) (fun b hb=>hc b (List.mem_cons_of_mem _ hb))
theorem Lq{n:Nat}: ∀{l:List Ey} {u:List Bool} {st:List Int},M1 n u st→(∀r∈l,∀c∈r.joins,0≤c∧c<n)→M1 n (IJ u l) (EC st l)
 |[],u,st,h,_=>h
 |r::l,u,st,h,hc=>by
  have e1:IJ u (r::l)=IJ (r.joins.foldl JP u) l:=rfl;have e2:EC st (r::l)=EC (r.joins.foldl Kk st) l:=rfl;rw[e1,e2];exact Lq (Lm h (hc r (by simp))) (fun b hb=>hc b (List.mem_cons_of_mem _ hb))
theorem OP: ∀l:List Bool,l.all id=decide (Ci l=0)
 |[]=>by simp[Ci]
 |b::l=>by
  rw[List.all_cons,OP l];cases b
  .simp[Ci]
  .have:Ci (true::l)=Ci l:=by simp[Ci]
   rw[this];rfl
theorem rA(d:Ba):d.okR=d.okG:=by
 unfold Ba.okR Ba.okG;by_cases hr:d.rules.all (A9 d)=true
 .have h0:M1 d.chans.length (List.replicate d.chans.length false) []:=⟨by simp,by simp[Ci],fun c h0 h1=>by simp[List.getElem?_replicate]⟩;have h:=Lq (l:=d.rules) h0 (fun r hr' c hc=>by
   have:=List.all_eq_true.1 hr r hr';simp only[A9,Bool.and_eq_true]at this;exact Jf this.2.2.2 c hc)
  have hc:=h.cnt;rw[OP];congr 6;rw[decide_eq_decide];omega
 .rw[Bool.not_eq_true]at hr;rw[hr];simp
end Go.Proofs
namespace Go.Proofs
open Go Go.Abs
def J9(sizes:List Int)(x:DZ):Int:=((x.kids[0]?).map fun k=>(sizes[k.toNat]?).getD 0).getD 0
def DE(sizes:List Int):List Int→List DZ→List Int
 |out,[]=>out
 |out,x::l=>DE sizes (if x.op=4 then out.set x.n.toNat (J9 sizes x)else out) l
def A4(p:AL)(sizes:List Int):List Int:=DE sizes (List.replicate p.defs.length 0) p.nodes
theorem Fd(sizes:List Int): ∀(l:List DZ) (out:List Int),(DE sizes out l).length=out.length
 |[],out=>rfl
 |x::l,out=>by
  rw[DE,Fd sizes l];split<;>simp
theorem KE(sizes:List Int)(n:Nat)(v:Int): ∀(l:List DZ) (out:List Int),n<out.length→(∀x∈l,x.op=4→x.n.toNat=n→J9 sizes x=v)→(out[n]? =some v∨ ∃x∈l,x.op=4∧x.n.toNat=n)→(DE sizes out l)[n]? =some v
 |[],out,hn,h1,h2=>by
  rcases h2 with h|⟨x,hx,_⟩
  .exact h
  .cases hx
 |x::l,out,hn,h1,h2=>by
  rw[DE];refine KE sizes n v l _ (by split<;>simpa using hn) (fun y hy=>h1 y (List.mem_cons_of_mem _ hy)) ?_;by_cases hx:x.op=4∧x.n.toNat=n
  .left;rw[if_pos hx.1,List.getElem?_set,if_pos hx.2,hx.2,if_pos hn,h1 x (by simp) hx.1 hx.2]
  .rcases h2 with h|⟨y,hy,hyo⟩
   .left;split
    .rename_i ho;rw[List.getElem?_set,if_neg fun e=>hx ⟨ho,e⟩];exact h
    .exact h
   .rcases List.mem_cons.1 hy with rfl|hy
    .exact absurd hyo hx
    .exact .inr ⟨y,hy,hyo⟩
structure lX(p:AL)(sizes:List Int)(n:Nat)(d:Ba):Prop where
 ok:Nb d
 node: ∃(i:Nat) (x:DZ) (s:Int),p.nodes[i]? =some x∧x.op=4∧x.n.toNat=n∧sizes[i]? =some s∧0≤s∧s≤5000∧(A4 p sizes)[n]? =some (s+d.own)∧(∀r∈d.rules,0≤r.node∧sizes[r.node.toNat]? =some (s+d.own+Bn d r.joins))∧(∀y∈d.spots,0≤y.node∧sizes[y.node.toNat]? =some (s+d.own))∧ ∃k,x.kids=[k]∧0≤k∧sizes[k.toNat]? =some (s+d.own)
theorem C4{p:AL}{sizes:List Int}(h:Dz p sizes){n:Nat}{d:Ba}(hd:p.defs[n]? =some d):lX p sizes n d:=by
 have hn:=(List.getElem?_eq_some_iff.1 hd).1;obtain⟨i,x,hx,hxo,hxn⟩:=h.used n hn;obtain⟨s,l,hs,h0,hb,hok,hl,hq⟩:=h.node i x hx;have hl2:=hl;rw[HX,if_pos hxo,hxn,hd]at hl2;dsimp only at hl2;split at hl2
 .rename_i hg;cases hl2;have hkids: ∃k,x.kids=[k]:=by
   simp only[CL,Bool.and_eq_true,decide_eq_true_eq]at hok;have:=hok.1;rw[hxo]at this;simp only[DP]at this;have:x.kids.length=1:=by simpa using this.symm
   match hk:x.kids,this with
   |[k],_=>exact⟨k,rfl⟩
  obtain⟨k,hk⟩:=hkids;have hkq:0≤k∧sizes[k.toNat]? =some (s+d.own):=hq (k,s+d.own) (by simp[BZ,hk]);refine⟨Mv hg,i,x,s,hx,hxo,hxn,hs,h0,hb,?_,fun r hr=>?_,fun y hy=>?_,k,hk,hkq⟩
  .refine KE sizes n _ p.nodes _ (by simpa using hn) (fun y hy hyo hyn=>?_) (.inr ⟨x,List.mem_of_getElem? hx,hxo,hxn⟩);obtain⟨j,hj⟩:=List.getElem?_of_mem hy;by_cases hij:i=j
   .subst hij;rw[hx]at hj;cases hj;simp[J9,hk,hkq.2]
   .exact absurd (hxn.trans hyn.symm) (h.diff i j x y hij hx hxo hj hyo)
  .exact hq (r.node,s+d.own+Bn d r.joins) (by simp only[Bm,List.mem_append,List.mem_map];exact .inl ⟨r,hr,rfl⟩)
  .exact hq (y.node,s+d.own) (by simp only[BW,List.mem_append,List.mem_map];exact .inr (.inl ⟨y,hy,rfl⟩))
 .cases hl2
def Ae.own(d:Ba)(g:Ae)(ch:Bool)(n:Int):Int:=((g.env[g.env.length-d.spots.length-(if ch then d.chans.length else 0)+n.toNat]?).map DU.n).getD 0
def Ae.place(d:Ba)(g:Ae)(n:Int):Int:=if n=0 then g.at_ else g.own d false (n-1)
def A5(l:List Ck)(i:Int):Bool:=((l[i.toNat]?).map Ck.dead).getD false
def FI(p:AL)(nc ns:Nat)(many:Int)(m:List DU):Bool:=decide ((m.length:Int)=many)&&m.all (DU.inB p nc ns)
def KI(p:AL)(s:Bz)(d:Ba)(g:Ae)(i j:Nat)(q:Je)(ch:Hy):Bool:=
 decide (q.group=i)&&(decide (q.index=j)&&(decide (q.at_=g.place d ch.at_)&&(decide (q.queue.length≤12)&&((decide (q.queue.length=0)|| !A5 s.spots q.at_)&&q.queue.all (FI p s.chans.length s.spots.length ch.many)))))
def Hp(p:AL)(s:Bz)(d:Ba)(g:Ae)(i j a:Nat)(ch:Hy):Bool:=match s.chans[a]? with|some q=>KI p s d g i j q ch|none=>false
def Co(p:AL)(s:Bz)(d:Ba)(g:Ae)(i c:Nat):Nat→List Hy→Bool
 |_,[]=>true
 |j,ch::l=>Hp p s d g i j (c+j) ch&&Co p s d g i c (j+1) l
def DN(c k:Nat)(d:Ba):List DU:=(List.range' c d.chans.length).map (fun(j:Nat)=>⟨3,(j:Int)⟩)++(List.range' k d.spots.length).map (fun(j:Nat)=>⟨4,(j:Int)⟩)
def CF(d:Ba)(c k:Nat)(g:Ae):Bool:=decide (g.env.drop (g.env.length-d.chans.length-d.spots.length)=DN c k d)
def GV(p:AL)(gs:List Int)(s:Bz)(i c k:Nat)(g:Ae)(d:Ba):Bool:=
 decide (Fe s.spots g.at_)&&(decide ((g.env.length:Int)=(gs[g.def_.toNat]?).getD 0)&&(g.env.all (DU.inB p s.chans.length s.spots.length)&&(CF d c k g&&Co p s d g i c 0 d.chans)))
def AL.def? (p:AL)(n:Int):Option Ba:=if 0≤n then p.defs[n.toNat]? else none
def BK(p:AL)(gs:List Int)(s:Bz):Nat→Nat→Nat→List Ae→Bool
 |_,c,k,[]=>decide (c=s.chans.length)&&decide (k=s.spots.length)
 |i,c,k,g::l=>match p.def? g.def_ with
  |some d=>GV p gs s i c k g d&&BK p gs s (i+1) (c+d.chans.length) (k+d.spots.length) l
  |none=>false
def Dk(op:Int):Bool:=decide (op=6)||(decide (op=7)||decide (op=8))
def CY(p:AL)(sizes:List Int)(s:Bz)(w:Hs):Bool:=
 decide (Fe s.spots w.at_)&&(!A5 s.spots w.at_&&(decide (0≤w.node)&&((match p.nodes[w.node.toNat]? with|some x=>Dk x.op|none=>false)&&(decide ((w.env.length:Int)=(sizes[w.node.toNat]?).getD 0)&&w.env.all (DU.inB p s.chans.length s.spots.length)))))
def Du(l:List Ck):List Ck→Bool
 |[]=>true
 |x::m=>(x.dead|| !A5 l x.in_)&&Du l m
def Bz.small(s:Bz):Bool:=decide (s.spots.length≤24)&&(decide (s.groups.length≤40)&&(decide (s.chans.length≤60)&&decide (s.waits.length≤40)))
def CX(p:AL)(sizes:List Int)(s:Bz):Bool:=
 s.small&&(Eo s.spots&&(Du s.spots (s.spots.drop 1)&&(BK p (A4 p sizes) s 0 0 1 s.groups&&s.waits.all (CY p sizes s))))
end Go.Proofs
namespace Go.Proofs
open Go Go.Abs
theorem Kg{p:AL}{sizes:List Int}(h:Dz p sizes){i:Nat}{x:DZ}(hx:p.nodes[i]? =some x)(ho:x.op=4):0≤x.n∧x.n<p.defs.length∧ ∃k v,x.kids=[k]∧0≤k∧sizes[k.toNat]? =some v∧J9 sizes x=v∧0≤v∧v≤5070:=by
 obtain⟨s,l,hs,h0,hb,hok,hl,hq⟩:=h.node i x hx;simp only[CL,Bool.and_eq_true,decide_eq_true_eq]at hok;have hn:=hok.2.1;rw[QU,if_neg (by rw[ho];decide),if_pos ho]at hn;have hn:=of_decide_eq_true hn;refine⟨hn.1,hn.2,?_⟩;have hk:=hok.1;rw[ho]at hk;simp only[DP]at hk;have hkl:x.kids.length=1:=by simpa using hk.symm
 match hkk:x.kids,hkl with
 |[k],_=>
  have hl2:=hl;rw[HX,if_pos ho]at hl2;split at hl2
  .rename_i d hd;split at hl2
   .rename_i hg;cases hl2;have hkq:0≤k∧sizes[k.toNat]? =some (s+d.own):=hq (k,s+d.own) (by simp[BZ,hkk]);have:=Jh (Mv hg);exact⟨k,s+d.own,rfl,hkq.1,hkq.2,by simp[J9,hkk,hkq.2],by omega,by omega⟩
   .cases hl2
  .cases hl2
end Go.Proofs
namespace Go.Proofs
open Go Go.Abs
theorem GB(c k:Nat)(d:Ba):(DN c k d).length=d.own:=by simp[DN,Ba.own]
theorem IV(c k:Nat)(d:Ba){j:Nat}(h:j<d.chans.length):(DN c k d)[j]? =some ⟨3,(c:Int)+(j:Int)⟩:=by
 rw[DN,List.getElem?_append_left (by simpa using h),List.getElem?_map,List.getElem?_range' h];simp
theorem Iv(c k:Nat)(d:Ba){j:Nat}(h:j<d.spots.length):(DN c k d)[d.chans.length+j]? =some ⟨4,(k:Int)+(j:Int)⟩:=by
 rw[DN,List.getElem?_append_right (by simp)];simp only[List.length_map,List.length_range'];rw[Nat.add_sub_cancel_left,List.getElem?_map,List.getElem?_range' h];simp
theorem SR{d:Ba}{c k:Nat}{g:Ae}(h:CF d c k g=true)(j:Nat):g.env[g.env.length-d.chans.length-d.spots.length+j]? =(DN c k d)[j]? :=by
 have h:=of_decide_eq_true h;rw[←h,List.getElem?_drop]
theorem OO{d:Ba}{c k:Nat}{g:Ae}(h:CF d c k g=true){j:Nat}(hj:j<d.chans.length):g.env[g.env.length-d.chans.length-d.spots.length+j]? =some ⟨3,(c:Int)+(j:Int)⟩:=by
 rw[SR h,IV _ _ _ hj]
theorem OY{d:Ba}{c k:Nat}{g:Ae}(h:CF d c k g=true)(he:d.own≤g.env.length){j:Nat}(hj:j<d.spots.length):g.env[g.env.length-d.spots.length+j]? =some ⟨4,(k:Int)+(j:Int)⟩:=by
 unfold Ba.own at he;have:=SR h (d.chans.length+j);rw[Iv _ _ _ hj]at this;rw[←this];congr 1;omega
theorem MP{d:Ba}{c k:Nat}{g:Ae}(h:CF d c k g=true)(he:d.own≤g.env.length){n:Int}(h1:1≤n)(h2:n≤d.spots.length):g.place d n=(k:Int)+(n-1):=by
 rw[Ae.place,if_neg (by omega),Ae.own];simp only[Bool.false_eq_true,if_false,Nat.sub_zero];rw[OY h he (j:=(n-1).toNat) (by omega)];simp only[Option.map_some,Option.getD_some];omega
theorem dj{d:Ba}{c k:Nat}{g:Ae}(h:CF d c k g=true){n:Int}(h1:0≤n)(h2:n<d.chans.length):g.own d true n=(c:Int)+n:=by
 rw[Ae.own];simp only[if_true];have:=OO h (j:=n.toNat) (by omega);rw[show g.env.length-d.spots.length-d.chans.length+n.toNat=g.env.length-d.chans.length-d.spots.length+n.toNat by omega,this];simp only[Option.map_some,Option.getD_some];omega
theorem Mf{p:AL}{s:Bz}{d:Ba}{c k:Nat}{g:Ae}(h:CF d c k g=true)(he:d.own≤g.env.length)(hat:Fe s.spots g.at_)(hv:g.env.all (DU.inB p s.chans.length s.spots.length)=true){n:Int}(h1:0≤n)(h2:n≤d.spots.length):Fe s.spots (g.place d n):=by
 by_cases h0:n=0
 .rw[Ae.place,if_pos h0];exact hat
 .rw[MP h he (by omega) h2];have hg:=OY h he (j:=(n-1).toNat) (by omega);have:=List.all_eq_true.1 hv _ (List.mem_of_getElem? hg);simp[DU.inB]at this;have e:((n-1).toNat:Int)=n-1:=Int.toNat_of_nonneg (by omega);constructor
  .omega
  .omega
theorem cP{g:Ae}{d:Ba}(he:d.own≤g.env.length){i:Nat}(hi:i<d.own): ∃v,g.env[g.env.length-d.chans.length-d.spots.length+i]? =some v∧g.env.drop (g.env.length-d.chans.length-d.spots.length+i)=v::g.env.drop (g.env.length-d.chans.length-d.spots.length+(i+1)):=by
 unfold Ba.own at*;obtain⟨v,hv⟩:=get_some (l:=g.env) (i:=g.env.length-d.chans.length-d.spots.length+i) (by omega);exact⟨v,hv,AJ hv⟩
end Go.Proofs
namespace Go.Proofs
open Go Go.Abs
structure QL where
 sol:Bz
 ev:List cm
 work:Int
structure qL where
 node:Int
 at_:Int
 env:List DU
def NS(l:List DU)(i:Int):DU:=(l[i.toNat]?).getD ⟨0,0⟩
def U6(p:AL)(s:Bz)(q:Je):Int:=(((s.groups[q.group.toNat]?).bind fun g=>(p.defs[g.def_.toNat]?).bind fun d=>d.chans[q.index.toNat]?).map Hy.many).getD 0
def Qc(d:Ba)(g:Ae)(i:Nat):Nat→List Hy→List Je
 |_,[]=>[]
 |k,c::l=>⟨i,k,g.place d c.at_,[]⟩::Qc d g i (k+1) l
def Dd(d:Ba)(g:Ae)(l:List M9):List Ck:=l.map fun y=>⟨g.place d y.in_,false⟩
def Bl(s:Bz)(d:Ba)(n:Int)(j:qL):Ae:=⟨n,j.at_,j.env++DN s.chans.length s.spots.length d⟩
def oe(s:Bz)(d:Ba)(g:Ae):Bz:={s with groups:=s.groups++[g],chans:=s.chans++Qc d g s.groups.length 0 d.chans,spots:=s.spots++Dd d g d.spots}
def goes(p:AL)(s:Bz)(w:Hs):Bool:=match p.nodes[w.node.toNat]? with
 |some x=>if x.op=7 then true else
  let v:=NS w.env x.n
  if v.kind=4 then(if x.op=8 then A5 s.spots v.n else decide (w.at_≠0)&&(!A5 s.spots v.n&& !Ih s.spots v.n w.at_))else false
 |none=>false
def BQ(p:AL)(s:Bz):Nat→List Hs→List C9
 |_,[]=>[]
 |i,w::l=>(if goes p s w=true then [⟨i,0,0,[]⟩]else [])++BQ p s (i+1) l
def BB:List Nat→List (List Int)
 |[]=>[[]]
 |n::l=>(List.range n).flatMap fun(i:Nat)=>(BB l).map fun t=>(i:Int)::t
def Hw(s:Bz)(c:Int):Nat:=((s.chans[c.toNat]?).map fun q=>q.queue.length).getD 0
def BO(s:Bz)(d:Ba)(g:Ae)(r:Ey):List Nat:=r.joins.map fun c=>Hw s (g.own d true c)
def CV(s:Bz)(d:Ba)(g:Ae)(r:Ey):List (List Int):=if A5 s.spots (g.place d r.at_)=true then []else BB (BO s d g r)
def BM(s:Bz)(d:Ba)(g:Ae)(i:Nat):Nat→List Ey→List C9
 |_,[]=>[]
 |k,r::l=>((CV s d g r).map fun t=>⟨-1,i,k,t⟩)++BM s d g i (k+1) l
def Bg(p:AL)(s:Bz):Nat→List Ae→List C9
 |_,[]=>[]
 |i,g::l=>(match p.def? g.def_ with|some d=>BM s d g i 0 d.rules|none=>[])++Bg p s (i+1) l
def BE(p:AL)(s:Bz):List C9:=BQ p s 0 s.waits++Bg p s 0 s.groups
end Go.Proofs
namespace Go.Abs
theorem Ve(k:IntKind)(a b:Int)(v:AV)(es:List (AN×AV)):B4 ((.int k a,v)::es) (.int k b)=if a=b then some (some v)else B4 es (.int k b):=by
 rw[B4];by_cases h:a=b
 .have hb:(a==b)=decide (a=b):=by rw[Bool.eq_iff_iff];simp
  simp[Er,h,hb]
 .have hb:(a==b)=decide (a=b):=by rw[Bool.eq_iff_iff];simp
  simp[Er,h,hb]
attribute [go_sem] Ve
end Go.Abs
namespace Go.Proofs
open Go Go.Abs
def LQ:List (AN×AV):=[(.int .i64 2,.fn 110 [] []),(.int .i64 3,.fn 111 [] []),(.int .i64 4,.fn 112 [] []),(.int .i64 5,.fn 113 [] []),(.int .i64 6,.fn 114 [] []),(.int .i64 7,.fn 114 [] []),(.int .i64 8,.fn 114 [] [])]
def Bx(x:Je)(v:AV):List AV:=[.d (.int .i64 x.group),.d (.int .i64 x.index),.d (.int .i64 x.at_),v]
end Go.Proofs
namespace Go.Proofs
open Go Go.Abs
set_option maxRecDepth 100000
set_option maxHeartbeats 2000000
def CI(n:Int):AV:=.iface 177 (.agg [.d (.int .i64 n)])
theorem WC(n:Int):flat (CI n)=true:=by simp[CI,flat,Dr,Cw]
attribute [go_sem] WC
@[go_sem] theorem rh(n:Int):Au (KL Tryz.prog cfg) 107 [.d (.int .i64 n)] []=.ok (.pan (CI n),[]):=by
  (refine AU rfl Tryz.func107 rfl rfl rfl ?_;show Wp _ _ _ _ (Tryz.f107.body.get rfl) _ _;simp only[Tryz.f107,Option.get_some])
  (repeat' (first|simp only[go_sem, *,CI]|(refine sx ?_ ?_<;>intro hc)|refine sy (by omega) fun x hx hm=>?_|simp(disch:=first|assumption|omega) only[wrap_id,AF,AC,slice_int]))
@[go_sem] theorem rg(t:Bool):Au (KL Tryz.prog cfg) 62 [.d (.bool t)] []=BR (CI 2) t:=by
  cases t
  .rw[Ii]
   (refine AU rfl Tryz.func62 rfl rfl rfl ?_;show Wp _ _ _ _ (Tryz.f62.body.get rfl) _ _;simp only[Tryz.f62,Option.get_some])
   exact au
  .rw[JV]
   (refine AU rfl Tryz.func62 rfl rfl rfl ?_;show Wp _ _ _ _ (Tryz.f62.body.get rfl) _ _;simp only[Tryz.f62,Option.get_some])
   exact au
def Oa(x:BH)(size depth left:Int):Prop:=(x.size:Int)≤left∧depth+x.depth≤13∧x.formed size=true
end Go.Proofs
namespace Go.Proofs
open Go Go.Abs
set_option maxRecDepth 100000
set_option maxHeartbeats 2000000
theorem oY(x:BH)(size:Int):Oa x size 1 60↔x.ok size=true:=by
 simp only[Oa,BH.ok,Bool.and_eq_true,decide_eq_true_eq];constructor
 .rintro⟨h1,h2,h3⟩;exact⟨by omega,by omega,h3⟩
 .rintro⟨h1,h2,h3⟩;exact⟨by omega,by omega,h3⟩
end Go.Proofs
namespace Go.Abs
variable{P:Program}{C:Bk}{K:AH}{fr:Fr}{b n i:Nat}{Q:Cq→St→Prop}
variable{ops:Array Oper}{al:Nat→Bool}{l:List Oper}{e:BI}{h:AB}{bs:Nat}{ds:List Df}{ps:List (Nat×Nat)}{fps:List Fp}{ρ:List Nat}{dst:Option Tmp}
theorem Pr(ρ:List Nat):GW (some ρ) []=true:=rfl
theorem f0(ρ:List Nat)(id:Id)(o:Obj)(δ:AB):GW (some ρ) ((id,o)::δ)=(Id.under ρ id&&GW (some ρ) δ):=rfl
theorem G3(ρ:List Nat)(a j:Nat):Id.under ρ (a::j::ρ)=true:=under_iff.2 ⟨[a,j],rfl⟩
theorem D0{Post:AQ→Prop}{q:E (AQ×AB)}(hk: ∃o h',q=.ok (o,h')∧Post o)(hn: ∀o h',Post o→p8 C K fr ops b n al l i dst e h bs ds Q (.ok (o,h'))):p8 C K fr ops b n al l i dst e h bs ds Q q:=by
 obtain⟨o,h',e,hp⟩:=hk;rw[e];exact hn o h' hp
theorem jK(v:AV)(h':AB):p8 C K fr ops b n al l i dst e h bs ds Q (.ok (.ret v,h'))=(flat v=true∧Dt C K fr ops b n al l (i+1) ⟨Bi e dst v,h,bs,ds⟩ Q):=rfl
theorem mF(v:AV)(h':AB):p8 C K fr ops b n al l i dst e h bs ds Q (.ok (.pan v,h'))=(flat v=true∧al i=true∧Q (.pan v) ⟨e,h,b+n,ds⟩):=rfl
def qB(C:Bk)(K:AH)(fr:Fr)(ops:Array Oper)(b n:Nat)(al:Nat→Bool)(ps:List (Nat×Nat))(fps:List Fp)(l:List Oper)(i:Nat)(dst:Option Tmp)(e:BI)(h:AB)(bs:Nat)(ds:List Df)(Q:Cq→St→Prop):E (AQ×AB)→Prop
 |.ok (.ret v,_)=>flat v=true∧ET C K fr ops b n al ps (fps++[⟨none,some []⟩]) l (i+1) ⟨Bi e dst v,h,bs,ds⟩ Q
 |.ok (.pan v,_)=>flat v=true∧al i=true∧Cc fps ps=true∧Q (.pan v) ⟨e,h,b+n,ds⟩
 |.err _=>False
theorem eS(dst:Option Tmp)(ρ:List Nat)(f:FuncId)(az:List AV)(hx:(Cn h.get az).isNone):JM C K fr ops b n al ps fps l i dst ρ e h bs ds Q f az .ro=qB C K fr ops b n al ps fps l i dst e h bs ds Q (K (.fn f) (IB h.get az) (h.puts (az.flatMap (mark h.get))) ρ true (some ρ)):=by
 have hx:Cn h.get az=none:=by simpa using hx
 simp only[JM,Cf,hx,Dh,Aq,BD,AR];cases K (.fn f) (IB h.get az) (h.puts (az.flatMap (mark h.get))) ρ true (some ρ)with
 |err l=>rfl
 |ok r=>
  obtain⟨o,h'⟩:=r;cases o<;>simp only[Ke,qB,Ah]<;>split<;>simp_all [BX]
theorem KX{Post:AQ→Prop}{q:E (AQ×AB)}(hk: ∃o h',q=.ok (o,h')∧Post o)(hn: ∀o h',Post o→qB C K fr ops b n al ps fps l i dst e h bs ds Q (.ok (o,h'))):qB C K fr ops b n al ps fps l i dst e h bs ds Q q:=by
 obtain⟨o,h',e,hp⟩:=hk;rw[e];exact hn o h' hp
theorem lr(v:AV)(h':AB):qB C K fr ops b n al ps fps l i dst e h bs ds Q (.ok (.ret v,h'))=(flat v=true∧ET C K fr ops b n al ps (fps++[⟨none,some []⟩]) l (i+1) ⟨Bi e dst v,h,bs,ds⟩ Q):=rfl
theorem lI(v:AV)(h':AB):qB C K fr ops b n al ps fps l i dst e h bs ds Q (.ok (.pan v,h'))=(flat v=true∧al i=true∧Cc fps ps=true∧Q (.pan v) ⟨e,h,b+n,ds⟩):=rfl
theorem jv(ρ:List Nat)(a j:Nat)(o:Obj)(δ:AB):GW (some ρ) ((a::j::ρ,o)::δ)=GW (some ρ) δ:=by rw[f0,G3,Bool.true_and]
attribute [go_sem] Pr jv jK mF eS lr lI
end Go.Abs
namespace Go.Proofs
open Go Go.Abs
set_option maxRecDepth 100000
set_option maxHeartbeats 4000000
def F1(π:List Nat)(sz n:Nat)(es:List (List AN)):AQ×AB:=if n=0 then(.ret .nils,[])else(.ret (.osl (1::0::π) 0 n),[(1::0::π,.darr sz es)])
theorem fG(f:FuncId)(hmd:cfg.mode f=.auto)(l:List Ck)(hf: ∀x∈l,Au (KL Tryz.prog cfg) f [.agg [.d (.int .i64 (x.in_)),.d (.bool (x.dead))]] []=.ok (.ret (.agg [.d (.int .i64 (x.in_)),.d (.bool (x.dead))]),[]))(hl:l.length≤1000000)(k:Nat)(ρ:List Nat):Au (KL Tryz.prog cfg) 148 [.d (.lst (l.map AX)),.fn f [] []] (k::ρ)=.ok (F1 (k::ρ) 2 l.length (l.map AX)):=by
 (refine AU rfl Tryz.func148 rfl rfl rfl ?_;show Wp _ _ _ _ (Tryz.f148.body.get rfl) _ _;simp only[Tryz.f148,Option.get_some])
 refine aw ?_;refine AO l _ (S:=fun m i (a:(AV×AB)×Nat)=>⟨[(1,.fn f [] []),(5,a.1.1),(8,.d (.lst (l.map AX))),(9,.d (.int .i64 (m))),(10,.d (.int .i64 (i)))],a.1.2,a.2,[]⟩)
  (Inv:=fun i rest a=>AA (i=0∧a=((.nils,[]),0)∨0<i∧a=((.osl (1::0::k::ρ) 0 i,[(1::0::k::ρ,.darr 2 ((l.take i).map AX))]),1))) (b0:=((_,[]),_)) ?_ ⟨.inl ⟨rfl,rfl⟩⟩ ?_ ?_
 .rfl
 .rintro i x a hy hi him hv IH;have hx:=hf x (List.mem_of_getElem? hy);replace hf:=AA.mk hf;rcases hv.out with⟨rfl,rfl⟩|⟨hi0,rfl⟩
  .clear hv;have him0:(0:Int)<l.length:=him;dsimp only at*;refine aw ?_;refine IH.out ((_,_),_) ⟨.inr ⟨by omega,?_⟩⟩;rw[List.take_succ,hy];rfl
  .clear hv;dsimp only at*;have tk:(l.take i).length=i:=by simp;omega
   have nle: ¬i+1≤i:=by omega
   refine aw ?_;refine IH.out ((_,_),_) ⟨.inr ⟨by omega,?_⟩⟩;have tk2:List.take i (List.map AX (List.take i l))=List.map AX (List.take i l):=List.take_of_length_le (by simp;omega);rw[List.take_succ,hy,tk2,List.map_append];rfl
 .rintro i a hi him hv;replace hf:=AA.mk hf;rcases hv.out with⟨rfl,rfl⟩|⟨hi0,rfl⟩
  .clear hv;have him0: ¬(0:Int)<l.length:=him;dsimp only at*;have hl0:=AA.mk (hi.out.symm);refine aw ?_;rw[F1,if_pos hl0.out]
  .clear hv;dsimp only at*;by_cases h0:l.length=0
   .exfalso;have:=hi.out;omega
   .rw[F1,if_neg h0];have hi2:=hi.out;subst hi2;rw[List.take_length];exact au
theorem Xc(f:FuncId)(hmd:cfg.mode f=.auto)(l:List Ae)(hf: ∀x∈l,Au (KL Tryz.prog cfg) f [.agg [.d (.int .i64 (x.def_)),.d (.int .i64 (x.at_)),.d (.lst (x.env.map Ac))]] []=.ok (.ret (.agg [.d (.int .i64 (x.def_)),.d (.int .i64 (x.at_)),.d (.lst (x.env.map Ac))]),[]))(hl:l.length≤1000000)(k:Nat)(ρ:List Nat):Au (KL Tryz.prog cfg) 150 [.d (.lst (l.map Aa)),.fn f [] []] (k::ρ)=.ok (F1 (k::ρ) 3 l.length (l.map Aa)):=by
 (refine AU rfl Tryz.func150 rfl rfl rfl ?_;show Wp _ _ _ _ (Tryz.f150.body.get rfl) _ _;simp only[Tryz.f150,Option.get_some])
 refine aw ?_;refine AO l _ (S:=fun m i (a:(AV×AB)×Nat)=>⟨[(1,.fn f [] []),(5,a.1.1),(8,.d (.lst (l.map Aa))),(9,.d (.int .i64 (m))),(10,.d (.int .i64 (i)))],a.1.2,a.2,[]⟩)
  (Inv:=fun i rest a=>AA (i=0∧a=((.nils,[]),0)∨0<i∧a=((.osl (1::0::k::ρ) 0 i,[(1::0::k::ρ,.darr 3 ((l.take i).map Aa))]),1))) (b0:=((_,[]),_)) ?_ ⟨.inl ⟨rfl,rfl⟩⟩ ?_ ?_
 .rfl
 .rintro i x a hy hi him hv IH;have hx:=hf x (List.mem_of_getElem? hy);replace hf:=AA.mk hf;rcases hv.out with⟨rfl,rfl⟩|⟨hi0,rfl⟩
  .clear hv;have him0:(0:Int)<l.length:=him;dsimp only at*;refine aw ?_;refine IH.out ((_,_),_) ⟨.inr ⟨by omega,?_⟩⟩;rw[List.take_succ,hy];rfl
  .clear hv;dsimp only at*;have tk:(l.take i).length=i:=by simp;omega
   have nle: ¬i+1≤i:=by omega
   refine aw ?_;refine IH.out ((_,_),_) ⟨.inr ⟨by omega,?_⟩⟩;have tk2:List.take i (List.map Aa (List.take i l))=List.map Aa (List.take i l):=List.take_of_length_le (by simp;omega);rw[List.take_succ,hy,tk2,List.map_append];rfl
 .rintro i a hi him hv;replace hf:=AA.mk hf;rcases hv.out with⟨rfl,rfl⟩|⟨hi0,rfl⟩
  .clear hv;have him0: ¬(0:Int)<l.length:=him;dsimp only at*;have hl0:=AA.mk (hi.out.symm);refine aw ?_;rw[F1,if_pos hl0.out]
  .clear hv;dsimp only at*;by_cases h0:l.length=0
   .exfalso;have:=hi.out;omega
   .rw[F1,if_neg h0];have hi2:=hi.out;subst hi2;rw[List.take_length];exact au
theorem c9(f:FuncId)(hmd:cfg.mode f=.auto)(l:List Hs)(hf: ∀x∈l,Au (KL Tryz.prog cfg) f [.agg [.d (.int .i64 (x.at_)),.d (.int .i64 (x.node)),.d (.lst (x.env.map Ac))]] []=.ok (.ret (.agg [.d (.int .i64 (x.at_)),.d (.int .i64 (x.node)),.d (.lst (x.env.map Ac))]),[]))(hl:l.length≤1000000)(k:Nat)(ρ:List Nat):Au (KL Tryz.prog cfg) 156 [.d (.lst (l.map A3)),.fn f [] []] (k::ρ)=.ok (F1 (k::ρ) 3 l.length (l.map A3)):=by
 (refine AU rfl Tryz.func156 rfl rfl rfl ?_;show Wp _ _ _ _ (Tryz.f156.body.get rfl) _ _;simp only[Tryz.f156,Option.get_some])
 refine aw ?_;refine AO l _ (S:=fun m i (a:(AV×AB)×Nat)=>⟨[(1,.fn f [] []),(5,a.1.1),(8,.d (.lst (l.map A3))),(9,.d (.int .i64 (m))),(10,.d (.int .i64 (i)))],a.1.2,a.2,[]⟩)
  (Inv:=fun i rest a=>AA (i=0∧a=((.nils,[]),0)∨0<i∧a=((.osl (1::0::k::ρ) 0 i,[(1::0::k::ρ,.darr 3 ((l.take i).map A3))]),1))) (b0:=((_,[]),_)) ?_ ⟨.inl ⟨rfl,rfl⟩⟩ ?_ ?_
 .rfl
 .rintro i x a hy hi him hv IH;have hx:=hf x (List.mem_of_getElem? hy);replace hf:=AA.mk hf;rcases hv.out with⟨rfl,rfl⟩|⟨hi0,rfl⟩
  .clear hv;have him0:(0:Int)<l.length:=him;dsimp only at*;refine aw ?_;refine IH.out ((_,_),_) ⟨.inr ⟨by omega,?_⟩⟩;rw[List.take_succ,hy];rfl
  .clear hv;dsimp only at*;have tk:(l.take i).length=i:=by simp;omega
   have nle: ¬i+1≤i:=by omega
   refine aw ?_;refine IH.out ((_,_),_) ⟨.inr ⟨by omega,?_⟩⟩;have tk2:List.take i (List.map A3 (List.take i l))=List.map A3 (List.take i l):=List.take_of_length_le (by simp;omega);rw[List.take_succ,hy,tk2,List.map_append];rfl
 .rintro i a hi him hv;replace hf:=AA.mk hf;rcases hv.out with⟨rfl,rfl⟩|⟨hi0,rfl⟩
  .clear hv;have him0: ¬(0:Int)<l.length:=him;dsimp only at*;have hl0:=AA.mk (hi.out.symm);refine aw ?_;rw[F1,if_pos hl0.out]
  .clear hv;dsimp only at*;by_cases h0:l.length=0
   .exfalso;have:=hi.out;omega
   .rw[F1,if_neg h0];have hi2:=hi.out;subst hi2;rw[List.take_length];exact au
theorem kW(f:FuncId)(hmd:cfg.mode f=.auto)(l:List DU)(hf: ∀x∈l,Au (KL Tryz.prog cfg) f [.agg [.d (.int .i64 (x.kind)),.d (.int .i64 (x.n))]] []=.ok (.ret (.agg [.d (.int .i64 (x.kind)),.d (.int .i64 (x.n))]),[]))(hl:l.length≤1000000)(k:Nat)(ρ:List Nat):Au (KL Tryz.prog cfg) 181 [.d (.lst (l.map Ac)),.fn f [] []] (k::ρ)=.ok (F1 (k::ρ) 2 l.length (l.map Ac)):=by
 (refine AU rfl Tryz.func181 rfl rfl rfl ?_;show Wp _ _ _ _ (Tryz.f181.body.get rfl) _ _;simp only[Tryz.f181,Option.get_some])
 refine aw ?_;refine AO l _ (S:=fun m i (a:(AV×AB)×Nat)=>⟨[(1,.fn f [] []),(5,a.1.1),(8,.d (.lst (l.map Ac))),(9,.d (.int .i64 (m))),(10,.d (.int .i64 (i)))],a.1.2,a.2,[]⟩)
  (Inv:=fun i rest a=>AA (i=0∧a=((.nils,[]),0)∨0<i∧a=((.osl (1::0::k::ρ) 0 i,[(1::0::k::ρ,.darr 2 ((l.take i).map Ac))]),1))) (b0:=((_,[]),_)) ?_ ⟨.inl ⟨rfl,rfl⟩⟩ ?_ ?_
 .rfl
 .rintro i x a hy hi him hv IH;have hx:=hf x (List.mem_of_getElem? hy);replace hf:=AA.mk hf;rcases hv.out with⟨rfl,rfl⟩|⟨hi0,rfl⟩
  .clear hv;have him0:(0:Int)<l.length:=him;dsimp only at*;refine aw ?_;refine IH.out ((_,_),_) ⟨.inr ⟨by omega,?_⟩⟩;rw[List.take_succ,hy];rfl
  .clear hv;dsimp only at*;have tk:(l.take i).length=i:=by simp;omega
   have nle: ¬i+1≤i:=by omega
   refine aw ?_;refine IH.out ((_,_),_) ⟨.inr ⟨by omega,?_⟩⟩;have tk2:List.take i (List.map Ac (List.take i l))=List.map Ac (List.take i l):=List.take_of_length_le (by simp;omega);rw[List.take_succ,hy,tk2,List.map_append];rfl
 .rintro i a hi him hv;replace hf:=AA.mk hf;rcases hv.out with⟨rfl,rfl⟩|⟨hi0,rfl⟩
  .clear hv;have him0: ¬(0:Int)<l.length:=him;dsimp only at*;have hl0:=AA.mk (hi.out.symm);refine aw ?_;rw[F1,if_pos hl0.out]
  .clear hv;dsimp only at*;by_cases h0:l.length=0
   .exfalso;have:=hi.out;omega
   .rw[F1,if_neg h0];have hi2:=hi.out;subst hi2;rw[List.take_length];exact au
theorem kA(f:FuncId)(hmd:cfg.mode f=.auto)(l:List (List DU))(hf: ∀x∈l,Au (KL Tryz.prog cfg) f [.agg [.d (.lst (x.map Ac))]] []=.ok (.ret (.agg [.d (.lst (x.map Ac))]),[]))(hl:l.length≤1000000)(k:Nat)(ρ:List Nat):Au (KL Tryz.prog cfg) 183 [.d (.lst (l.map CW)),.fn f [] []] (k::ρ)=.ok (F1 (k::ρ) 1 l.length (l.map CW)):=by
 (refine AU rfl Tryz.func183 rfl rfl rfl ?_;show Wp _ _ _ _ (Tryz.f183.body.get rfl) _ _;simp only[Tryz.f183,Option.get_some])
 refine aw ?_;refine AO l _ (S:=fun m i (a:(AV×AB)×Nat)=>⟨[(1,.fn f [] []),(5,a.1.1),(8,.d (.lst (l.map CW))),(9,.d (.int .i64 (m))),(10,.d (.int .i64 (i)))],a.1.2,a.2,[]⟩)
  (Inv:=fun i rest a=>AA (i=0∧a=((.nils,[]),0)∨0<i∧a=((.osl (1::0::k::ρ) 0 i,[(1::0::k::ρ,.darr 1 ((l.take i).map CW))]),1))) (b0:=((_,[]),_)) ?_ ⟨.inl ⟨rfl,rfl⟩⟩ ?_ ?_
 .rfl
 .rintro i x a hy hi him hv IH;have hx:=hf x (List.mem_of_getElem? hy);replace hf:=AA.mk hf;rcases hv.out with⟨rfl,rfl⟩|⟨hi0,rfl⟩
  .clear hv;have him0:(0:Int)<l.length:=him;dsimp only at*;refine aw ?_;refine IH.out ((_,_),_) ⟨.inr ⟨by omega,?_⟩⟩;rw[List.take_succ,hy];rfl
  .clear hv;dsimp only at*;have tk:(l.take i).length=i:=by simp;omega
   have nle: ¬i+1≤i:=by omega
   refine aw ?_;refine IH.out ((_,_),_) ⟨.inr ⟨by omega,?_⟩⟩;have tk2:List.take i (List.map CW (List.take i l))=List.map CW (List.take i l):=List.take_of_length_le (by simp;omega);rw[List.take_succ,hy,tk2,List.map_append];rfl
 .rintro i a hi him hv;replace hf:=AA.mk hf;rcases hv.out with⟨rfl,rfl⟩|⟨hi0,rfl⟩
  .clear hv;have him0: ¬(0:Int)<l.length:=him;dsimp only at*;have hl0:=AA.mk (hi.out.symm);refine aw ?_;rw[F1,if_pos hl0.out]
  .clear hv;dsimp only at*;by_cases h0:l.length=0
   .exfalso;have:=hi.out;omega
   .rw[F1,if_neg h0];have hi2:=hi.out;subst hi2;rw[List.take_length];exact au
theorem Qv(x:Ck):Au (KL Tryz.prog cfg) 149 [.agg [.d (.int .i64 (x.in_)),.d (.bool (x.dead))]] []=.ok (.ret (.agg [.d (.int .i64 (x.in_)),.d (.bool (x.dead))]),[]):=by
 (refine AU rfl Tryz.func149 rfl rfl rfl ?_;show Wp _ _ _ _ (Tryz.f149.body.get rfl) _ _;simp only[Tryz.f149,Option.get_some])
 exact au
theorem V2(x:DU):Au (KL Tryz.prog cfg) 182 [.agg [.d (.int .i64 (x.kind)),.d (.int .i64 (x.n))]] []=.ok (.ret (.agg [.d (.int .i64 (x.kind)),.d (.int .i64 (x.n))]),[]):=by
 (refine AU rfl Tryz.func182 rfl rfl rfl ?_;show Wp _ _ _ _ (Tryz.f182.body.get rfl) _ _;simp only[Tryz.f182,Option.get_some])
 exact au
end Go.Proofs
namespace Go.Abs
variable{P:Program}{C:Bk}{K:AH}{fr:Fr}{b n i:Nat}{Q:Cq→St→Prop}
variable{ops:Array Oper}{al:Nat→Bool}{l:List Oper}{e:BI}{h:AB}{bs:Nat}{ds:List Df}{ps:List (Nat×Nat)}{fps:List Fp}{ρ:List Nat}{dst:Option Tmp}
theorem VU(az:List AV)(id:Id)(o m sz:Nat)(es:List (List AN))(hx:A6 (.osl id o m) [(id,.darr sz es)]=some (id,.darr sz es)):CT C K fr ops b n al l i az dst e h bs ds Q (.ok (.ret (.osl id o m),[(id,.darr sz es)]))=Dt C K fr ops b n al l (i+1) ⟨Bi e dst (.osl id o m),(id,.darr sz es)::h,bs,ds⟩ Q:=bV _ az _ _ _ rfl hx
theorem V4(az:List AV)(id:Id)(o m sz:Nat)(es:List (List AN))(hx:A6 (.osl id o m) [(id,.darr sz es)]=some (id,.darr sz es)):CS C K fr ops b n al ps fps l i az dst e h bs ds Q (.ok (.ret (.osl id o m),[(id,.darr sz es)]))=ET C K fr ops b n al ps (fps++[⟨some (B1 h.get (An az)),some [id]⟩]) l (i+1) ⟨Bi e dst (.osl id o m),(id,.darr sz es)::h,bs,ds⟩ Q:=Zh _ az _ _ _ rfl hx
attribute [go_sem] VU V4
end Go.Abs
namespace Go.Proofs
open Go Go.Abs
set_option maxRecDepth 100000
set_option maxHeartbeats 4000000
theorem EK{π:List Nat}{sz n:Nat}{es:List (List AN)}(h:n=0):F1 π sz n es=(.ret .nils,[]):=by rw[F1,if_pos h]
theorem FT{π:List Nat}{sz n:Nat}{es:List (List AN)}(h:n≠0):F1 π sz n es=(.ret (.osl (1::0::π) 0 n),[(1::0::π,.darr sz es)]):=by rw[F1,if_neg h]
theorem EM(id:Abs.Id)(o n sz:Nat)(es:List (List AN)):A6 (.osl id o n) [(id,.darr sz es)]=if es.all (·.all Cw)then some (id,.darr sz es)else none:=by
 simp only[A6,go_sem,is_self,if_true]
theorem Gc(l:List DU)(id:Abs.Id)(o n:Nat):A6 (.osl id o n) [(id,.darr 2 (l.map Ac))]=some (id,.darr 2 (l.map Ac)):=by
 rw[EM,if_pos];simp[Ac,Cw]
theorem Gi{l:List (List DU)}(h:l.length≠0)(id:Abs.Id)(o n:Nat):A6 (.osl id o n) [(id,.darr 1 (l.map CW))]=none:=by
 rw[EM,if_neg];cases l with
 |nil=>exact absurd rfl h
 |cons x l=>simp[CW,Cw]
theorem Ka(l:List Ck)(id:Abs.Id)(o n:Nat):A6 (.osl id o n) [(id,.darr 2 (l.map AX))]=some (id,.darr 2 (l.map AX)):=by
 rw[EM,if_pos];simp[AX,Cw]
theorem JK{l:List Ae}(h:l.length≠0)(id:Abs.Id)(o n:Nat):A6 (.osl id o n) [(id,.darr 3 (l.map Aa))]=none:=by
 rw[EM,if_neg];cases l with
 |nil=>exact absurd rfl h
 |cons x l=>simp[Aa,Cw]
theorem KZ{l:List Hs}(h:l.length≠0)(id:Abs.Id)(o n:Nat):A6 (.osl id o n) [(id,.darr 3 (l.map A3))]=none:=by
 rw[EM,if_neg];cases l with
 |nil=>exact absurd rfl h
 |cons x l=>simp[A3,Cw]
theorem P5(l:List DU)(hl:l.length≤1000000)(k:Nat)(ρ:List Nat):Au (KL Tryz.prog cfg) 152 [.d (.lst (l.map Ac))] (k::ρ)=.ok (F1 (2::k::ρ) 2 l.length (l.map Ac)):=by
 have h1:=fun k ρ=>kW 182 rfl l (fun x _=>V2 x) hl k ρ;by_cases h0:l.length=0
 .rw[EK h0];simp only[EK h0]at h1
  (refine AU rfl Tryz.func152 rfl rfl rfl ?_;show Wp _ _ _ _ (Tryz.f152.body.get rfl) _ _;simp only[Tryz.f152,Option.get_some])
  exact au
 .rw[FT h0];simp only[FT h0]at h1;have fa:=Gc
  (refine AU rfl Tryz.func152 rfl rfl rfl ?_;show Wp _ _ _ _ (Tryz.f152.body.get rfl) _ _;simp only[Tryz.f152,Option.get_some])
  exact au
theorem Xb(x:List DU)(hl:x.length≤1000000):Au (KL Tryz.prog cfg) 184 [.agg [.d (.lst (x.map Ac))]] []=.ok (.ret (.agg [.d (.lst (x.map Ac))]),[]):=by
 have h1:=P5 x hl;by_cases h0:x.length=0
 .simp only[EK h0]at h1;obtain rfl:=List.eq_nil_of_length_eq_zero h0;clear h0;simp only[List.map_nil]at h1
  (refine AU rfl Tryz.func184 rfl rfl rfl ?_;show Wp _ _ _ _ (Tryz.f184.body.get rfl) _ _;simp only[Tryz.f184,Option.get_some])
  (repeat' (first|simp only[go_sem, *,List.map_nil]|(refine sx ?_ ?_<;>intro hc)|refine sy (by omega) fun x hx hm=>?_|simp(disch:=first|assumption|omega) only[wrap_id,AF,AC,slice_int]))
 .simp only[FT h0]at h1;have fa:=Gc;have tk:List.take x.length (List.map Ac x)=List.map Ac x:=List.take_of_length_le (by simp)
  (refine AU rfl Tryz.func184 rfl rfl rfl ?_;show Wp _ _ _ _ (Tryz.f184.body.get rfl) _ _;simp only[Tryz.f184,Option.get_some])
  exact au
theorem fS(l:List (List DU))(hl:l.length≤1000000)(h: ∀x∈l,x.length≤1000000)(k:Nat)(ρ:List Nat):Au (KL Tryz.prog cfg) 155 [.d (.lst (l.map CW))] (k::ρ)=.ok (F1 (2::k::ρ) 1 l.length (l.map CW)):=by
 have h1:=fun k ρ=>kA 184 rfl l (fun x hx=>Xb x (h x hx)) hl k ρ;replace h:=AA.mk h;by_cases h0:l.length=0
 .rw[EK h0];simp only[EK h0]at h1
  (refine AU rfl Tryz.func155 rfl rfl rfl ?_;show Wp _ _ _ _ (Tryz.f155.body.get rfl) _ _;simp only[Tryz.f155,Option.get_some])
  exact au
 .rw[FT h0];simp only[FT h0]at h1;have fa:=Gi h0
  (refine AU rfl Tryz.func155 rfl rfl rfl ?_;show Wp _ _ _ _ (Tryz.f155.body.get rfl) _ _;simp only[Tryz.f155,Option.get_some])
  exact au
theorem NN(x:Ae)(hl:x.env.length≤1000000):Au (KL Tryz.prog cfg) 151 [.agg [.d (.int .i64 (x.def_)),.d (.int .i64 (x.at_)),.d (.lst (x.env.map Ac))]] []=.ok (.ret (.agg [.d (.int .i64 (x.def_)),.d (.int .i64 (x.at_)),.d (.lst (x.env.map Ac))]),[]):=by
 have h1:=P5 x.env hl;by_cases h0:x.env.length=0
 .simp only[EK h0]at h1;have h2:=List.eq_nil_of_length_eq_zero h0;simp only[h2,List.map_nil]at h1
  (refine AU rfl Tryz.func151 rfl rfl rfl ?_;show Wp _ _ _ _ (Tryz.f151.body.get rfl) _ _;simp only[Tryz.f151,Option.get_some])
  (repeat' (first|simp only[go_sem, *,List.map_nil]|(refine sx ?_ ?_<;>intro hc)|refine sy (by omega) fun x hx hm=>?_|simp(disch:=first|assumption|omega) only[wrap_id,AF,AC,slice_int]))
 .simp only[FT h0]at h1;have fa:=Gc;have tk:List.take x.env.length (List.map Ac x.env)=List.map Ac x.env:=List.take_of_length_le (by simp)
  (refine AU rfl Tryz.func151 rfl rfl rfl ?_;show Wp _ _ _ _ (Tryz.f151.body.get rfl) _ _;simp only[Tryz.f151,Option.get_some])
  exact au
theorem OB(x:Hs)(hl:x.env.length≤1000000):Au (KL Tryz.prog cfg) 157 [.agg [.d (.int .i64 (x.at_)),.d (.int .i64 (x.node)),.d (.lst (x.env.map Ac))]] []=.ok (.ret (.agg [.d (.int .i64 (x.at_)),.d (.int .i64 (x.node)),.d (.lst (x.env.map Ac))]),[]):=by
 have h1:=P5 x.env hl;by_cases h0:x.env.length=0
 .simp only[EK h0]at h1;have h2:=List.eq_nil_of_length_eq_zero h0;simp only[h2,List.map_nil]at h1
  (refine AU rfl Tryz.func157 rfl rfl rfl ?_;show Wp _ _ _ _ (Tryz.f157.body.get rfl) _ _;simp only[Tryz.f157,Option.get_some])
  (repeat' (first|simp only[go_sem, *,List.map_nil]|(refine sx ?_ ?_<;>intro hc)|refine sy (by omega) fun x hx hm=>?_|simp(disch:=first|assumption|omega) only[wrap_id,AF,AC,slice_int]))
 .simp only[FT h0]at h1;have fa:=Gc;have tk:List.take x.env.length (List.map Ac x.env)=List.map Ac x.env:=List.take_of_length_le (by simp)
  (refine AU rfl Tryz.func157 rfl rfl rfl ?_;show Wp _ _ _ _ (Tryz.f157.body.get rfl) _ _;simp only[Tryz.f157,Option.get_some])
  exact au
def Jv(π:List Nat)(x:Je):AQ×AB:=if x.queue.length=0 then(.ret (.agg (Bx x .nils)),[(0::0::π,.box (Bx x (.d (.lst (x.queue.map CW))))),(0::1::π,.box (Bx x .nils))])else(.ret (.agg (Bx x (.osl (1::0::2::10::π) 0 x.queue.length))),[(1::0::2::10::π,.darr 1 (x.queue.map CW)),(0::0::π,.box (Bx x (.d (.lst (x.queue.map CW))))),(0::1::π,.box (Bx x (.osl (1::0::2::10::π) 0 x.queue.length)))])
theorem Ps(x:Je)(hl:x.queue.length≤1000000)(h: ∀y∈x.queue,y.length≤1000000)(k:Nat)(ρ:List Nat):Au (KL Tryz.prog cfg) 154 [.agg [.d (.int .i64 (x.group)),.d (.int .i64 (x.index)),.d (.int .i64 (x.at_)),.d (.lst (x.queue.map CW))]] (k::ρ)=.ok (Jv (k::ρ) x):=by
 have h1:=fS x.queue hl h;replace h:=AA.mk h;by_cases h0:x.queue.length=0
 .rw[Jv,if_pos h0];simp only[EK h0]at h1
  (refine AU rfl Tryz.func154 rfl rfl rfl ?_;show Wp _ _ _ _ (Tryz.f154.body.get rfl) _ _;simp only[Tryz.f154,Option.get_some])
  (repeat' (first|simp only[go_sem, *,Bx]|(refine sx ?_ ?_<;>intro hc)|refine sy (by omega) fun x hx hm=>?_|simp(disch:=first|assumption|omega) only[wrap_id,AF,AC,slice_int]))
 .rw[Jv,if_neg h0];simp only[FT h0]at h1;have fa:=Gi h0
  (refine AU rfl Tryz.func154 rfl rfl rfl ?_;show Wp _ _ _ _ (Tryz.f154.body.get rfl) _ _;simp only[Tryz.f154,Option.get_some])
  (repeat' (first|simp only[go_sem, *,Bx]|(refine sx ?_ ?_<;>intro hc)|refine sy (by omega) fun x hx hm=>?_|simp(disch:=first|assumption|omega) only[wrap_id,AF,AC,slice_int]))
end Go.Proofs
namespace Go.Abs
variable{P:Program}{C:Bk}{K:AH}{fr:Fr}{b n i:Nat}{Q:Cq→St→Prop}
variable{ops:Array Oper}{al:Nat→Bool}{l:List Oper}{e:BI}{h:AB}{bs:Nat}{ds:List Df}{ps:List (Nat×Nat)}{fps:List Fp}{ρ:List Nat}{dst:Option Tmp}
def mq(Q:Cq→St→Prop)(st:St):Option Code→Prop
 |none=>Q .normal st
 |some .ret=>Q .ret st
 |some (.exit k)=>Q (.exit k) st
 |some _=>False
def OZ(Q:Cq→St→Prop)(st:St):Option Obj→Prop
 |some (.loop r)=>match r.state with
  |.busy=>False
  |_=>mq Q st r.pend
 |_=>False
def Ez(ρ ρ2:List Nat)(id:Id)(e:BI)(bs:Nat)(ds:List Df)(Q:Cq→St→Prop):E (AQ×AB)→Prop
 |.ok (.ret _,h')=>OZ Q ⟨e,gc ρ (gc ρ2 h'),bs,ds⟩ (h'.get id)
 |.ok (.pan v,h')=>Q (.pan v) ⟨e,gc ρ (gc ρ2 h'),bs,ds⟩
 |.err _=>False
def Wn(K:AH)(prot:Option (List Nat))(ρ ρ2:List Nat)(id:Id)(e:BI)(h:AB)(bs:Nat)(ds:List Df)(Q:Cq→St→Prop):AV→Prop
 |.fn f first cap=>Ez ρ ρ2 id e bs ds Q (K (.fn f) (first++[.yld id]++cap) h ρ2 true prot)
 |_=>False
theorem Rc(ρ ρ2:List Nat)(id:Id)(st1:St)(r:E (AQ×AB)):(match F3 ρ ρ2 id st1 r with|.ok (o,st')=>Q o st'|.err _=>False)=Ez ρ ρ2 id st1.env st1.base st1.defs Q r:=by
 cases r with
 |err l=>rfl
 |ok r=>
  obtain⟨o,h'⟩:=r;cases o with
  |pan v=>simp only[F3,Ez,AR]
  |ret v=>
   simp only[F3,Ez,AR,OZ,Pp];cases AB.get h' id with
   |none=>rfl
   |some o=>
    cases o with
    |loop r=>
     obtain⟨s,p⟩:=r;simp only;cases s<;>(try rfl)<;>
     .simp only[mq];cases p with
      |none=>rfl
      |some c=>cases c<;>rfl
    |_=>rfl
theorem cO(g:Operand)(pz:Array Tmp)(asg body:Code)(hr:fr.rnd=false):Wp C K fr b (.rangeFunc g pz asg body) ⟨e,h,bs,ds⟩ Q=
 Wn K fr.prot (bs::fr.π) ((bs+1)::fr.π) (0::bs::fr.π) e (h.put (0::bs::fr.π) (.loop ⟨.ready,none,fr.f,e,pz.toList,asg,body,fr.nt⟩)) (bs+2) (.mark (0::bs::fr.π)::ds) Q (ev e.get g):=by
 have key:Wp C K fr b (.rangeFunc g pz asg body) ⟨e,h,bs,ds⟩ Q=(match ES K fr g pz asg body ⟨e,h,bs,ds⟩with|.ok (o,st')=>Q o st'|.err _=>False):=by
  cases hx:ES K fr g pz asg body ⟨e,h,bs,ds⟩with
  |ok r=>
   obtain⟨o,st'⟩:=r;exact Ng fun n=>by simp only[Ar,hx]
  |err l=>
   refine propext ⟨fun⟨n,o,st',h1,hq⟩=>?_,fun h=>h.elim⟩;cases n with
   |zero=>simp[Ar]at h1
   |succ n=>simp only[Ar,hx]at h1;cases h1
 rw[key];unfold ES;simp only[hr,FE,AR];rw[Rc];simp only[Wn];cases ev e.get g with
 |fn f first cap=>simp only[G1,Aq]
 |_=>rfl
theorem YQ{f:FuncId}{π:List Nat}{raw:Bool}{prot:Option (List Nat)}{nt:Nat}(g:Operand)(pz:Array Tmp)(asg body:Code):Wp C K ⟨f,π,raw,prot,false,nt⟩ b (.rangeFunc g pz asg body) ⟨e,h,bs,ds⟩ Q=
 Wn K prot (bs::π) ((bs+1)::π) (0::bs::π) e (h.put (0::bs::π) (.loop ⟨.ready,none,f,e,pz.toList,asg,body,nt⟩)) (bs+2) (.mark (0::bs::π)::ds) Q (ev e.get g):=cO g pz asg body rfl
theorem cW{prot:Option (List Nat)}{ρ ρ2:List Nat}{id:Id}(f:FuncId)(first cap:List AV):Wn K prot ρ ρ2 id e h bs ds Q (.fn f first cap)=Ez ρ ρ2 id e bs ds Q (K (.fn f) (first++[.yld id]++cap) h ρ2 true prot):=rfl
theorem Io{Post:AQ→AB→Prop}{ρ ρ2:List Nat}{id:Id}{q:E (AQ×AB)}(hk: ∃o h',q=.ok (o,h')∧Post o h')(hn: ∀o h',Post o h'→Ez ρ ρ2 id e bs ds Q (.ok (o,h'))):Ez ρ ρ2 id e bs ds Q q:=by
 obtain⟨o,h',e,hp⟩:=hk;rw[e];exact hn o h' hp
theorem Ux{ρ ρ2:List Nat}{id:Id}(v:AV)(h':AB):Ez ρ ρ2 id e bs ds Q (.ok (.ret v,h'))=OZ Q ⟨e,gc ρ (gc ρ2 h'),bs,ds⟩ (h'.get id):=rfl
theorem T6{ρ ρ2:List Nat}{id:Id}(v:AV)(h':AB):Ez ρ ρ2 id e bs ds Q (.ok (.pan v,h'))=Q (.pan v) ⟨e,gc ρ (gc ρ2 h'),bs,ds⟩:=rfl
theorem Tw(st:St)(f:FuncId)(e:BI)(pz:List Nat)(asg body:Code)(nt:Nat):OZ Q st (some (.loop ⟨.ready,none,f,e,pz,asg,body,nt⟩))=Q .normal st:=rfl
theorem ay(st:St)(f:FuncId)(e:BI)(pz:List Nat)(asg body:Code)(nt:Nat):OZ Q st (some (.loop ⟨.done,some .ret,f,e,pz,asg,body,nt⟩))=Q .ret st:=rfl
theorem VN(st:St)(k:Nat)(f:FuncId)(e:BI)(pz:List Nat)(asg body:Code)(nt:Nat):OZ Q st (some (.loop ⟨.done,some (.exit k),f,e,pz,asg,body,nt⟩))=Q (.exit k) st:=rfl
def nT(C:Bk)(K:AH)(fr:Fr)(ops:Array Oper)(b n:Nat)(al:Nat→Bool)(l:List Oper)(i:Nat)(dst:Option Tmp)(ρ:List Nat)(e:BI)(h:AB)(bs:Nat)(ds:List Df)(Q:Cq→St→Prop)(id:Id)(az:List AV):Option Obj→Prop
 |some (.loop r)=>OD C K fr ops b n al l i dst ρ e h bs ds Q (K (.round id r) az h ρ true fr.prot)
 |_=>False
theorem Yo(id:Id)(args:List AV):M8 C K fr ops b n al l i dst ρ e h bs ds Q args (.yld id)=nT C K fr ops b n al l i dst ρ e h bs ds Q id args (h.get id):=by
 simp only[M8,Cr,Gb,nT];cases AB.get h id with
 |none=>rfl
 |some o=>cases o<;>first|rfl|simp only[K2]
theorem XU(id:Id)(args:List AV)(r:Lp):nT C K fr ops b n al l i dst ρ e h bs ds Q id args (some (.loop r))=OD C K fr ops b n al l i dst ρ e h bs ds Q (K (.round id r) args h ρ true fr.prot):=rfl
def rl(C:Bk)(K:AH)(fr:Fr)(ops:Array Oper)(b n:Nat)(al:Nat→Bool)(ps:List (Nat×Nat))(fps:List Fp)(l:List Oper)(i:Nat)(dst:Option Tmp)(ρ:List Nat)(e:BI)(h:AB)(bs:Nat)(ds:List Df)(Q:Cq→St→Prop)(id:Id)(az:List AV):Option Obj→Prop
 |some (.loop r)=>TL C K fr ops b n al ps fps l i dst ρ e h bs ds Q (K (.round id r) az h ρ true fr.prot)
 |_=>False
theorem YM(id:Id)(args:List AV)(r:Lp):rl C K fr ops b n al ps fps l i dst ρ e h bs ds Q id args (some (.loop r))=TL C K fr ops b n al ps fps l i dst ρ e h bs ds Q (K (.round id r) args h ρ true fr.prot):=rfl
def SA(id:Id)(Post:AQ→AB→Prop)(o:Cq)(h:AB):Option Obj→Prop
 |some (.loop r)=>match o with
  |.normal=>Post (.ret (.d (.bool true))) (h.put id (.loop {r with state:=.ready,pend:=none}))
  |.ret=>Post (.ret (.d (.bool false))) (h.put id (.loop {r with state:=.done,pend:=some .ret}))
  |.exit k=>Post (.ret (.d (.bool false))) (h.put id (.loop {r with state:=.done,pend:=some (.exit k)}))
  |.pan v=>Post (.pan v) h
 |_=>False
def Rp(id:Id)(Post:AQ→AB→Prop):Cq→St→Prop
 |o,st=>st.defs=[]∧SA id Post o st.heap (st.heap.get id)
def ic(C:Bk)(K:AH)(fr:Fr)(id:Id)(body:Code)(Post:AQ→AB→Prop)(st:St):Option Obj→Prop
 |some (.loop r)=>match r.state with
  |.ready=>Wp C K fr 0 body {st with heap:=st.heap.put id (.loop {r with state:=.busy})} (Rp id Post)
  |_=>False
 |_=>False
def nu(C:Bk)(K:AH)(fr:Fr)(id:Id)(body:Code)(Post:AQ→AB→Prop):Cq→St→Prop
 |.normal,st=>st.defs=[]∧GW fr.prot [(id,.box [])]=true∧ic C K fr id body Post st (st.heap.get id)
 |_,_=>False
theorem SB{Post:AQ→AB→Prop}(id:Id):Rp id Post .normal ⟨e,h,bs,[]⟩=SA id Post .normal h (h.get id):=by simp[Rp]
theorem da{Post:AQ→AB→Prop}(id:Id):Rp id Post .ret ⟨e,h,bs,[]⟩=SA id Post .ret h (h.get id):=by simp[Rp]
theorem cD{Post:AQ→AB→Prop}(id:Id)(v:AV):Rp id Post (.pan v) ⟨e,h,bs,[]⟩=SA id Post (.pan v) h (h.get id):=by simp[Rp]
theorem Sk{Post:AQ→AB→Prop}(id:Id)(r:Lp):SA id Post .normal h (some (.loop r))=Post (.ret (.d (.bool true))) (h.put id (.loop ⟨.ready,none,r.f,r.env,r.params,r.asg,r.body,r.nt⟩)):=rfl
theorem di{Post:AQ→AB→Prop}(id:Id)(r:Lp):SA id Post .ret h (some (.loop r))=Post (.ret (.d (.bool false))) (h.put id (.loop ⟨.done,some .ret,r.f,r.env,r.params,r.asg,r.body,r.nt⟩)):=rfl
theorem Xe{Post:AQ→AB→Prop}(id:Id)(k:Nat)(r:Lp):SA id Post (.exit k) h (some (.loop r))=Post (.ret (.d (.bool false))) (h.put id (.loop ⟨.done,some (.exit k),r.f,r.env,r.params,r.asg,r.body,r.nt⟩)):=rfl
theorem eV{Post:AQ→AB→Prop}(id:Id)(v:AV)(r:Lp):SA id Post (.pan v) h (some (.loop r))=Post (.pan v) h:=rfl
theorem Sn{Post:AQ→AB→Prop}(id:Id)(body:Code):nu C K fr id body Post .normal ⟨e,h,bs,[]⟩=(GW fr.prot [(id,.box [])]=true∧ic C K fr id body Post ⟨e,h,bs,[]⟩ (h.get id)):=by simp[nu]
theorem Z9{Post:AQ→AB→Prop}(id:Id)(body:Code)(p:Option Code)(f:FuncId)(e':BI)(pz:List Nat)(a c:Code)(nt:Nat):ic C K fr id body Post ⟨e,h,bs,[]⟩ (some (.loop ⟨.ready,p,f,e',pz,a,c,nt⟩))=Wp C K fr 0 body ⟨e,h.put id (.loop ⟨.busy,p,f,e',pz,a,c,nt⟩),bs,[]⟩ (Rp id Post):=rfl
theorem Ha{id:Id}{r:Lp}{args:List AV}{h:AB}{π:List Nat}{prot:Option (List Nat)}{Post:AQ→AB→Prop}{e:BI}(he:Cm r.env r.params args=some e)
 (hw:Wp C (KL P C) {f:=r.f,π,raw:=true,prot,rnd:=true,nt:=r.nt} 0 r.asg ⟨e,h,0,[]⟩ (nu C (KL P C) {f:=r.f,π,raw:=true,prot,rnd:=true,nt:=r.nt} id r.body Post)): ∃o h',KL P C (.round id r) args h π true prot=.ok (o,h')∧Post o h':=by
 obtain⟨n1,o1,st1,h1,q1⟩:=hw;cases o1 with
 |normal=>
  obtain⟨d1,w1,q1⟩:=q1;cases hg:AB.get st1.heap id with
  |none=>rw[hg]at q1;exact q1.elim
  |some ob=>
   rw[hg]at q1;cases ob with
   |loop r1=>
    simp only[ic]at q1;cases hs:r1.state with
    |ready=>
     rw[hs]at q1;obtain⟨n2,o2,st2,h2,d2,q2⟩:=q1;have fin: ∃o h',KR id (.ok (o2,st2))=.ok (o,h')∧Post o h':=by
      simp only[KR,d2];cases hg2:AB.get st2.heap id with
      |none=>rw[hg2]at q2;exact q2.elim
      |some ob2=>
       rw[hg2]at q2;cases ob2 with
       |loop r2=>
        cases o2 with
        |normal=>exact⟨_,_,rfl,q2⟩
        |ret=>exact⟨_,_,rfl,q2⟩
        |exit k=>exact⟨_,_,rfl,q2⟩
        |pan v=>exact⟨_,_,rfl,q2⟩
       |_=>exact q2.elim
     obtain⟨o,h',e3,hp⟩:=fin;refine⟨o,h',SU (n:=max n1 n2) ?_,hp⟩;unfold Eb;have h3:=JC h2 (Nat.le_max_right n1 n2);rw[d1]at h3;simp only[he,JC h1 (Nat.le_max_left n1 n2),FP,d1,w1,hg,I7,hs,AR];rw[h3];exact e3
    |_=>rw[hs]at q1;exact q1.elim
   |_=>exact q1.elim
 |_=>exact q1.elim
attribute [go_sem] cW Ux T6 Tw ay VN Yo XU YM SB da cD Sk di Xe eV Sn Z9 YQ Cm
end Go.Abs
namespace Go.Abs
theorem Ki{α β:Type}(f:α→β)(l:List α):List.take l.length (l.map f)=l.map f:=List.take_of_length_le (by simp)
theorem KA{α β:Type}(f:α→β)(l:List α)(x:List β):List.take l.length (l.map f++x)=l.map f:=by rw[List.take_append_of_le_length (by simp),Ki]
theorem Pj{α β:Type}(f:α→β)(l:List α)(y:β)(x:List β):List.drop (l.length+1) (l.map f++y::x)=x:=by rw[List.drop_append];simp
def dh(g:G)(id:Id):Option Obj→AB
 |some (.darr sz es)=>[(id,.fro sz es)]
 |some (.arr sz es)=>match CC g es with
  |some ds=>(id,.fro sz ds)::es.flatMap (BJ g)
  |none=>[]
 |_=>[]
theorem XL(g:G)(id:Id)(off n:Nat):Ds g (.osl id off n)=dh g id (g id):=by
 simp only[Ds];cases g id with
 |none=>rfl
 |some o=>cases o<;>rfl
theorem T1(g:G)(id:Id)(sz:Nat)(es:List (List AN)):dh g id (some (.darr sz es))=[(id,.fro sz es)]:=rfl
theorem aH(g:G)(id:Id)(sz:Nat)(es:List (List AN)):dh g id (some (.fro sz es))=[]:=rfl
attribute [go_sem] fC XL T1 aH
attribute [go_sem] Ki KA Pj Nat.le_add_right Nat.le_add_left Nat.add_le_add_iff_left Nat.not_succ_le_self Nat.add_lt_add_iff_left
end Go.Abs
namespace Go.Proofs
open Go Go.Abs
theorem jh{ρ id:Abs.Id}(h:Id.under ρ id=false)(a b c n:Nat):Id.is (a::b::c::n::ρ) id=false:=AI (AD (AD h n) c) a b
theorem Dm{π:List Nat}(l:List Nat):Id.under π (l++π)=true:=under_iff.2 ⟨l,rfl⟩
def Nl(g:AB)(sz:Nat)(v:AV)(es:List (List AN)):Prop:=(v=.nils∧es=[])∨ ∃id x,v=.osl id 0 es.length∧g.get id=some (.darr sz (es++x))
structure p9(g:AB)(rows:List (List AV))(l:List Je):Prop where
 len:rows.length=l.length
 row: ∀(j:Nat) (q:Je),l[j]? =some q→ ∃v,rows[j]? =some (Bx q v)∧Nl g 1 v (q.queue.map CW)
def qR(g:AB)(v:AV)(rows:List (List AV)):Prop:=(v=.nils∧rows=[])∨ ∃id,v=.osl id 0 rows.length∧g.get id=some (.arr 4 rows)
structure MV where
 s:Nat→AV
 v3:AV
 v9:AV
 acts:Abs.Id
 rows:List (List AV)
def ca:Nat→Nat
 |0=>2
 |1=>3
 |2=>3
 |_=>5
def WA(st:QL):Nat→List (List AN)
 |0=>st.sol.spots.map AX
 |1=>st.sol.groups.map Aa
 |2=>st.sol.waits.map A3
 |_=>st.ev.map RE
def MV.upd(V:MV)(i:Nat)(v:AV):MV:={V with s:=fun j=>if j=i then v else V.s j}
def MV.ids(V:MV)(m:Abs.Id):List Abs.Id:=m::V.acts::(AE (V.s 0)++(AE (V.s 1)++(AE (V.s 2)++(AE (V.s 3)++(AE V.v3++V.rows.flatMap An)))))
def JI(p:AL)(sz:List Int)(V:MV)(w:Int):List AV:=[V.s 0,V.s 1,V.v3,V.s 2,.d (.lst (p.free.map AY)),.d (.lst (p.nodes.map AP)),.d (.lst (p.defs.map Ab)),.d (.int .i64 p.main),.d (.lst (sz.map AG)),V.v9,.mp V.acts,V.s 3,.d (.int .i64 w)]
structure Jn(p:AL)(sz:List Int)(h:AB)(m:Abs.Id)(V:MV)(st:QL):Prop where
 box:h.get m=some (.box (JI p sz V st.work))
 acts:h.get V.acts=some (.map LQ)
 sl: ∀i,i<4→Nl h (ca i) (V.s i) (WA st i)
 arr:qR h V.v3 V.rows
 chans:p9 h V.rows st.sol.chans
 gw: ∀id∈AE (V.s 1),id∉AE (V.s 2)
 qd:(V.rows.flatMap An).Nodup
structure ei(N:Abs.Id→Bool)(m:Abs.Id)(V V':MV)(h h':AB):Prop where
 ids: ∀id∈V'.ids m,id∈V.ids m∨(N id=true∧ ∃l,id=1::l)
 frame: ∀id,id∉V.ids m→N id=false→h'.get id=h.get id
abbrev qi(π:List Nat):=ei (Id.under π)
abbrev pc(p:AL)(sz:List Int)(N:Abs.Id→Bool)(m:Abs.Id)(V:MV)(h:AB)(st:QL)(h':AB):Prop:= ∃V',Jn p sz h' m V' st∧ei N m V V' h h'
abbrev qm(p:AL)(sz:List Int)(π:List Nat):=pc p sz (Id.under π)
abbrev oH(N:Abs.Id→Bool)(V:MV)(m:Abs.Id):Prop:= ∀id∈V.ids m,N id=false
abbrev GM(π:List Nat):=oH (Id.under π)
theorem GM.ext{π:List Nat}{V:MV}{m:Abs.Id}(h:GM π V m)(n:Nat):GM (n::π) V m:=fun id hid=>AD (h id hid) n
def ee(p:AL)(sz:List Int)(π:List Nat)(m:Abs.Id)(V:MV)(h:AB):Option QL→AQ→AB→Prop
 |some st,o,h'=>o=.ret (.tup [])∧qm p sz π m V h st h'
 |none,o,h'=>o=.pan (CI 3)∧ ∀id,id∉V.ids m→Id.under π id=false→h'.get id=h.get id
theorem GH{g:AB}{sz n:Nat}{id:Abs.Id}{es:List (List AN)}(x:List (List AN))(hn:n=es.length)(hg:g.get id=some (.darr sz (es++x))):Nl g sz (.osl id 0 n) es:=.inr ⟨id,x,by rw[hn],hg⟩
theorem GK{g g':AB}{sz:Nat}{v:AV}{es:List (List AN)}(h:Nl g sz v es)(hg: ∀id∈AE v,g'.get id=g.get id):Nl g' sz v es:=by
 rcases h with h|⟨id,x,rfl,h⟩
 .exact .inl h
 .exact .inr ⟨id,x,rfl,by rw[hg id (by simp[AE])];exact h⟩
theorem HS{g:AB}{sz:Nat}{v:AV}{es:List (List AN)}(h:Nl g sz v es){id:Abs.Id}(hi:id∈AE v): ∃x,g.get id=some (.darr sz x):=by
 rcases h with⟨rfl,_⟩|⟨id2,x,rfl,h⟩
 .simp[AE]at hi
 .simp[AE]at hi;subst hi;exact⟨_,h⟩
theorem MX{g g':AB}{v:AV}{rows:List (List AV)}(h:qR g v rows)(hg: ∀id∈AE v,g'.get id=g.get id):qR g' v rows:=by
 rcases h with h|⟨id,rfl,h⟩
 .exact .inl h
 .exact .inr ⟨id,rfl,by rw[hg id (by simp[AE])];exact h⟩
theorem W9{g:AB}{v:AV}{rows:List (List AV)}(h:qR g v rows){id:Abs.Id}(hi:id∈AE v):g.get id=some (.arr 4 rows):=by
 rcases h with⟨rfl,_⟩|⟨id2,rfl,h⟩
 .simp[AE]at hi
 .simp[AE]at hi;subst hi;exact h
theorem Mw(x:Je)(v:AV):An (Bx x v)=AE v:=by simp[Bx,An,AE]
theorem MG{g g':AB}{rows:List (List AV)}{l:List Je}(h:p9 g rows l)(hg: ∀id∈rows.flatMap An,g'.get id=g.get id):p9 g' rows l:=by
 refine⟨h.len,fun j q hq=>?_⟩;obtain⟨v,h1,h2⟩:=h.row j q hq;exact⟨v,h1,GK h2 fun id hid=>hg id (List.mem_flatMap.2 ⟨_,List.mem_of_getElem? h1,by rw[Mw];exact hid⟩)⟩
theorem Wj{g:AB}{rows:List (List AV)}{l:List Je}(h:p9 g rows l){id:Abs.Id}(hi:id∈rows.flatMap An): ∃x,g.get id=some (.darr 1 x):=by
 obtain⟨row,hr,hid⟩:=List.mem_flatMap.1 hi;obtain⟨j,hj⟩:=List.getElem?_of_mem hr;have hjl:=(List.getElem?_eq_some_iff.1 hj).1;obtain⟨x,hx⟩:=get_some (l:=l) (i:=j) (by rw[←h.len];exact hjl);obtain⟨v,hv,hq⟩:=h.row j x hx;rw[hj]at hv;cases hv;rw[Mw]at hid;exact HS hq hid
theorem MV.mem(V:MV)(m id:Abs.Id):id∈V.ids m↔id=m∨id=V.acts∨(∃i,i<4∧id∈AE (V.s i))∨id∈AE V.v3∨id∈V.rows.flatMap An:=by
 simp only[MV.ids,List.mem_cons,List.mem_append];constructor
 .rintro(h|h|h|h|h|h|h|h)
  .exact .inl h
  .exact .inr (.inl h)
  .exact .inr (.inr (.inl ⟨0,by omega,h⟩))
  .exact .inr (.inr (.inl ⟨1,by omega,h⟩))
  .exact .inr (.inr (.inl ⟨2,by omega,h⟩))
  .exact .inr (.inr (.inl ⟨3,by omega,h⟩))
  .exact .inr (.inr (.inr (.inl h)))
  .exact .inr (.inr (.inr (.inr h)))
 .rintro(h|h|⟨i,hi,h⟩|h|h)
  .simp[h]
  .simp[h]
  .match i,hi with
   |0,_=>simp[h]
   |1,_=>simp[h]
   |2,_=>simp[h]
   |3,_=>simp[h]
  .simp[h]
  .simp only[h,or_true]
theorem MV.m_mem(V:MV)(m:Abs.Id):m∈V.ids m:=(V.mem m m).2 (.inl rfl)
theorem MV.acts_mem(V:MV)(m:Abs.Id):V.acts∈V.ids m:=(V.mem m _).2 (.inr (.inl rfl))
theorem MV.s_mem(V:MV)(m:Abs.Id){i:Nat}(hi:i<4){id:Abs.Id}(h:id∈AE (V.s i)):id∈V.ids m:=(V.mem m _).2 (.inr (.inr (.inl ⟨i,hi,h⟩)))
theorem MV.v3_mem(V:MV)(m:Abs.Id){id:Abs.Id}(h:id∈AE V.v3):id∈V.ids m:=(V.mem m _).2 (.inr (.inr (.inr (.inl h))))
theorem MV.row_mem(V:MV)(m:Abs.Id){id:Abs.Id}(h:id∈V.rows.flatMap An):id∈V.ids m:=(V.mem m _).2 (.inr (.inr (.inr (.inr h))))
theorem EL{p:AL}{sz:List Int}{h h':AB}{m:Abs.Id}{V:MV}{st:QL}(hM:Jn p sz h m V st)(hg: ∀id∈V.ids m,h'.get id=h.get id):Jn p sz h' m V st:=
 ⟨by rw[hg _ (V.m_mem m)];exact hM.box,by rw[hg _ (V.acts_mem m)];exact hM.acts,fun i hi=>GK (hM.sl i hi) fun id hid=>hg id (V.s_mem m hi hid),MX hM.arr fun id hid=>hg id (V.v3_mem m hid),MG hM.chans fun id hid=>hg id (V.row_mem m hid),hM.gw,hM.qd⟩
theorem jQ{p:AL}{sz:List Int}{h:AB}{m:Abs.Id}{V V0:MV}{st:QL}{π ρ:List Nat}{h0:AB}(hM:Jn p sz h m V st)(hK:qi π m V0 V h0 h)(hu:GM ρ V0 m):Jn p sz (gc ρ h) m V st:=by
 refine EL hM fun id hid=>?_;rcases hK.ids id hid with h|⟨_,l,rfl⟩
 .exact Aj _ _ _ (hu id h)
 .exact Gp _ _ _
theorem DY{π:List Nat}{n:Nat}{id:Abs.Id}(h:Id.under (n::π) id=true):Id.under π id=true:=by
 rw[under_iff]at*;exact(List.suffix_cons n π).trans h
theorem T0{p:AL}{sz:List Int}{π:List Nat}{h h':AB}{m:Abs.Id}{V:MV}{st:QL}(hM:Jn p sz h m V st)(hu:GM π V m)(hk: ∀id,Id.under π id=false→h'.get id=h.get id):Jn p sz h' m V st:=EL hM fun id hid=>hk id (hu id hid)
end Go.Proofs
namespace Go.Abs
theorem nA(es:List (List AN))(hn:0<es.length)(i:TI)(hk:i.kind=.slice):F2 .eql (.d (.lst es)) .nils (some i)=some (.d (.bool false)):=by
 cases es with
 |nil=>simp at hn
 |cons e es=>simp only[F2,hk,GR]
attribute [go_sem] nA
end Go.Abs
namespace Go.Proofs
open Go Go.Abs
theorem MJ(t:List Int)(n:Nat)(hn:n=t.length)(h0:0<n)(h1:n≤1000000): ∀(g:G) (newId:Abs.Id) (j:TI),j.mix=false→j.size=1→Td g newId j .emp (some ((t.map AG).map fun x=>x.map AV.d))=some ⟨.osl (1::newId) 0 n,[(1::newId,.darr 1 (t.map AG))]⟩:=fun g newId j hm hs=>by
 have:=j4 g newId j (t.map AG) hm (by omega) (fun e he=>by
  obtain⟨x,_,rfl⟩:=List.mem_map.1 he;rw[hs];rfl) (fun e=>by rw[List.map_eq_nil_iff.1 e]at hn;simp at hn;omega) (by simp[Ay];omega)
 rw[this,List.length_map,hn,hs]
theorem PD(t:List Int)(tx:List (List AN))(n:Nat)(hn:n=t.length):List.take n ((t.map AG++tx).map fun x=>x.map AV.d)=(t.map AG).map fun x=>x.map AV.d:=by
 rw[List.map_append,List.take_append_of_le_length (by simp[hn]),List.take_of_length_le (by simp[hn])]
theorem L4{g0:AB}{s0:Nat}{v:AV}{es:List (List AN)}(h:Nl g0 s0 v es)(g:G):RN g .slice v=some es.length:=by
 rcases h with⟨rfl,rfl⟩|⟨id,x,rfl,_⟩<;>rfl
end Go.Proofs
