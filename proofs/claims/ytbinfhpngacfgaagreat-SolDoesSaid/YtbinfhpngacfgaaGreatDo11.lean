/- Parts of it. -/
import Derived.Test.YtbinfhpngacfgaaGreatDo10
set_option linter.all false
namespace Go
theorem zEU{p:Prop}(h:p:=by constructor<;>first|exact DM _ _ _ _ AK|simp only[go_sem]):p:=h
theorem zEX{p:Prop}(h:p:=by simp[IV]):p:=h
theorem zEZ{p:Prop}(h:p:=by clear U K M N X Y Z ac J Q T I A F w s;grind [DB,Dh,W8,E0]):p:=h
theorem zEe{p:Prop}(h:p:=by clear Y Z ac ad a5 a6 a7 a1 S az a0 V L J a2;grind [DB,Dh,W8,E0]):p:=h
theorem zEj{p:Prop}(h:p:=by simp[BG];omega):p:=h
theorem zEl{p:Prop}(h:p:=by simp[*]):p:=h
theorem zE5{p:Prop}(h:p:=by rw[K.out]at f;cases f):p:=h
theorem zFD{p:Prop}(h:p:=by simpa using e):p:=h
theorem zFJ{p:Prop}(h:p:=by rw[B.met];omega):p:=h
theorem zFR{p:Prop}(h:p:=by rw[e];exact V.m_mem m):p:=h
theorem zFW{p:Prop}(h:p:=by rw[j.out];rfl):p:=h
theorem zFZ{p:Prop}(h:p:=by rw[wrap_id AA AA];omega):p:=h
theorem zFb{p:Prop}(h:p:=by rw[As,F1];omega):p:=h
end Go
namespace Go
theorem zAK{p:Prop}(h:p:=by
 have q:c.toNat<l.length:=AA;obtain⟨s,v⟩:=get_some q;have j:=AH.mk (Ky v)
 (repeat' (first|simp only[go_sem, *]|(refine sx ?_ ?_<;>intro p)|refine sy AA fun x w r=>?_|simp(disch:=first|assumption|omega) only[AU]))
 .rw[f.out,D1 (by rw[←show c=a by assumption];exact ZM _ _ _)]
 .by_cases h:c=0
  .subst h;have u:s.rc= -1:=by rw[←j.out];exact o.top
   rw[u];refine IH.out (-1,0) (by dsimp only;rw[D5 rfl,Co AK];omega) (.inr ⟨rfl,rfl,⟨?_⟩⟩);rw[f.out,ZN,Ci];simp only[Ac];omega
  .rcases k with _|k
   .simp[Bd,h]at i
   .have g:=GQ h i;rw[j.out]at g;have:=g.1.1;refine IH.out (s.rc,k) (by dsimp only;rw[Co AA,Co AA];omega) (.inl ⟨g.1,g.2,⟨?_⟩⟩);rw[f.out,jO h i,j.out];have t: ¬a=c:=fun e=>AA;simp only[D0,t,false_or]):p:=h
theorem zAQ{p:Prop}(h:p:=by simp only[D0,Gc,MP,HE,forall_eq];omega):p:=h
theorem zAZ{p:Prop}(h:p:=by
 (repeat' (first|simp only[go_sem, *]|(refine sx ?_ ?_<;>intro B)|refine sy AA fun x F C=>?_|simp(disch:=first|assumption|omega) only[AU]))
 all_goals first
  |omega
  |(refine LY ?_ (fun f e g=>?_)
    .clear p;grind [XI,Bu.size,Et,Bu.depth,E3,Bu.formed]
    .simp only[get_put,AJ e,g,AM,FD])
  |(refine Px ?_ ?_ (fun f e g=>?_)
    .clear p;grind [XI,Bu.size,Et,Bu.depth,E3,Bu.formed]
    .simp[get_put,is_self,Bu.size,Et]
    .simp only[get_put,AJ e,g,AM,FD])):p:=h
theorem zAd{p:Prop}(h:p:=by
 (repeat' (first|simp only[go_sem, *,Lu,MW]|(refine sx ?_ ?_<;>intro bs)|refine sy AA fun x a4 bx=>?_|simp(disch:=first|assumption|omega) only[AU]))
 all_goals try(exact Ga (w.out _ _) r.out (s.out _) (A.out zEZ))
 rw[Dd];refine aw ?_;exact Ga (w.out _ _) r.out (s.out _) (A.out zEZ)):p:=h
theorem zAi{p:Prop}(h:p:=by
 rcases It.1 a with e|a
 .have:=congrArg List.length e;simp at this
 rcases It.1 a with e|a
 .simp only[Mt,and_true]at e;exact h e
 .have:=a.length_le;simp at this;omega):p:=h
theorem zAk{p:Prop}(h:p:=by grind [XI,Bu.size,Et,Bu.depth,E3,Bu.formed]):p:=h
theorem zAm{p:Prop}(h:p:=by constructor<;>first|exact DM _ _ _ _ AK|simp only[go_sem]):p:=h
theorem zAq{p:Prop}(h:p:=by
 (repeat' (first|simp only[go_sem, *,Ih,Ni]|(refine sx ?_ ?_<;>intro ag)|refine sy AA fun x P ar=>?_|simp(disch:=first|assumption|omega) only[AU]))
 all_goals try(exfalso;omega)
 all_goals (exact EW (L.out zEe))):p:=h
theorem zAs{p:Prop}(h:p:=by (repeat' (first|simp only[go_sem, *,LJ]|(refine sx ?_ ?_<;>intro e)|refine sy AA fun x g f=>?_|simp(disch:=first|assumption|omega) only[AU]))):p:=h
theorem zAy{p:Prop}(h:p:=by
 have: ¬((¬false∈st.met)∧(¬false∈st.defs)):=fun h=>by
  rw[←Jn,←Jn]at h;have:=a.out;rw[h.1,h.2]at this;cases this
 rw[Co this]at u;exact⟨fun _=>⟨_,_,_,_,_,_,_,_,_,rfl,by(simp only[go_sem];try rfl)⟩,fun st f=>(by rw[u]at f;cases f)⟩):p:=h
theorem zA9{p:Prop}(h:p:=by
 refine aw ?_;rw[Dd]
 (repeat' (first|simp only[go_sem, *]|(refine sx ?_ ?_<;>intro R)|refine sy AA fun x Z X=>?_|simp(disch:=first|assumption|omega) only[AU]))
 all_goals exact Gl e (y.out rfl)):p:=h
theorem zBA{p:Prop}(h:p:=by simp only[ET,slv,g,t,FD,F7];simp only[go_sem]):p:=h
theorem zBV{p:Prop}(h:p:=by
 (repeat' (first|simp only[go_sem, *,Pf]|(refine sx ?_ ?_<;>intro o)|refine sy AA fun x e u=>?_|simp(disch:=first|assumption|omega) only[AU]))
 all_goals rw[a.out]):p:=h
theorem zBX{p:Prop}(h:p:=by
 (repeat' (first|simp only[go_sem, *]|(refine sx ?_ ?_<;>intro o)|refine sy AA fun x e u=>?_|simp(disch:=first|assumption|omega) only[AU]))
 all_goals rw[a.out]):p:=h
theorem zBa{p:Prop}(h:p:=by
 (repeat' (first|simp only[go_sem, *]|(refine sx ?_ ?_<;>intro p)|refine sy AA fun x w r=>?_|simp(disch:=first|assumption|omega) only[AU]))
 .omega
 .rw[f.out]):p:=h
theorem zBe{p:Prop}(h:p:=by exact⟨_,by(simp only[go_sem];rfl)⟩):p:=h
theorem zBg{p:Prop}(h:p:=by
 obtain rfl:=g.ge n;have e:looks p=none:=by
  unfold looks;rw[n];split<;>rfl
 clear g;refine aw ?_;exact⟨fun _=>rfl,fun st a=>by rw[e]at a;cases a⟩):p:=h
theorem zBk{p:Prop}(h:p:=by have:=Nr (Bo.init p).met;simp only[Bo.init,I7]at*;omega):p:=h
theorem zBl{p:Prop}(h:p:=by
 rw[c]
 (repeat' (first|simp only[go_sem, *,QF]|(refine sx ?_ ?_<;>intro g)|refine sy AA fun x j i=>?_|simp(disch:=first|assumption|omega) only[AU]))):p:=h
theorem zBq{p:Prop}(h:p:=by exact⟨_,by(simp only[go_sem];try rfl)⟩):p:=h
theorem zBr{p:Prop}(h:p:=by simp only[go_sem,q,AM]):p:=h
theorem zBs{p:Prop}(h:p:=by
 have:Bg p (p.nodes.length+1) p.main p.free.length (Bo.init p)=none:=by
  rw[Bg,Co];intro U;have:=AL U.2;simp[Bo.init]at this;omega
 rw[this]):p:=h
theorem zB2{p:Prop}(h:p:=by
 rcases c.arr with f|⟨f,Z,rfl,m⟩
 .exact .inl f
 .exact .inr ⟨f,Z,rfl,by rw[k Z (BP.2 BJ) _ m (l Z _ m AG) AG];exact m⟩):p:=h
theorem zB7{p:Prop}(h:p:=by rw[D4];intro v b;obtain⟨i,a,rfl⟩:=F2.1 b;have:=List.mem_range'_1.1 a;simp only[Cl.inB,Int.reduceEq,F7,FD,AP,Ap];omega):p:=h
theorem zCD{p:Prop}(h:p:=by obtain⟨q,r⟩:=Eh c.rep a;exact k id (BP.2 (.inr (.inr (.inr (.inr (.inr (.inr (.inr a)))))))) _ r (l id _ r AG) AG):p:=h
theorem zCG{p:Prop}(h:p:=by refine aw ?_;refine a2.out ((_,_),_) ⟨kD f r.out (s.out _) AG,⟨?_⟩⟩;rw[b2.out,D9];cases Bu.ok size y<;>simp):p:=h
theorem zCU{p:Prop}(h:p:=by simp only[go_sem,Bo.init]):p:=h
theorem zCV{p:Prop}(h:p:=by exact f id (BP.2 zEd) _ this (l id _ this AG) AG):p:=h
theorem zCc{p:Prop}(h:p:=by
 have Q:AH (CX p gs s 0 0 1 s.ce=false):=⟨by
  rw[I.out,q.out,Ci m];simp⟩
 refine aw ?_;rw[Q.out]):p:=h
theorem zCi{p:Prop}(h:p:=by have q:=AJ h2;have ag:Id.is av id=false:=AF fun e=>F (by simp[AE,e]);simp only[go_sem,q,ag,AM]):p:=h
theorem zCp{p:Prop}(h:p:=by
 rcases j with j|j
 .exact u.apart K j AA
 .simp only[AE,Ac]at j;subst j;exact Ik _ _ _ _ AA):p:=h
theorem zCr{p:Prop}(h:p:=by refine aw ?_;exact Gl f (V.out rfl)):p:=h
theorem zCy{p:Prop}(h:p:=by replace bi:=bi.out;clear U K M N X Y Z ac J Q T I A F w s f v C;grind [DB,Dh,W8,E0]):p:=h
theorem zC2{p:Prop}(h:p:=by exact⟨x,BP.2 (by simp[g]),h2⟩):p:=h
theorem zC6{p:Prop}(h:p:=by have:=(Ey c.s0 a).2;exact k id (BP.2 zEd) _ this (l id _ this AG) AG):p:=h
theorem zDB{p:Prop}(h:p:=by exact absurd t ‹_›):p:=h
theorem zDE{p:Prop}(h:p:=by have:=congrArg List.length e;simp at this):p:=h
theorem zDT{p:Prop}(h:p:=by refine BT Tryz.func129 ?_;refine aw ?_;exact Ga c.out i.out rfl rfl):p:=h
theorem zDd{p:Prop}(h:p:=by simp only[go_sem,Bo.init,S5]):p:=h
theorem zDf{p:Prop}(h:p:=by exact .inr (.inr (BP.2 zE2))):p:=h
theorem zDk{p:Prop}(h:p:=by simp only[V,CI];exact⟨D.out,fun id j=>.inl j,fun _ _ _=>rfl⟩):p:=h
theorem zD3{p:Prop}(h:p:=by have t:=AJ n;have u:=AI n;simp only[go_sem,t,u,s.out e n,AM]):p:=h
theorem zEG{p:Prop}(h:p:=by refine A7 Tryz.func71 ?_;exact au):p:=h
theorem zES{p:Prop}(h:p:=by simp only[AE,Ac]at j;subst j;exact⟨Ay [1,14],_,rfl⟩):p:=h
end Go
namespace Go.Abs
variable{P:Program}{C:DD}{K:Ab}{fr:Fr}{b n i:Nat}{Q:Ea→St→Prop}
variable{ops:Array Oper}{al:Nat→Bool}{l:List Oper}{e:CB}{h:AD}{bs:Nat}{ds:List Df}{ps:List (Nat×Nat)}{fps:List Fp}{ρ:List Nat}{dst:Option Tmp}
def jE(Q:Ea→St→Prop)(st:St):Option Code→Prop
 |none=>Q .normal st
 |some .ret=>Q .ret st
 |some (.exit k)=>Q (.exit k) st
 |some _=>False
def XM(Q:Ea→St→Prop)(st:St):Option Obj→Prop
 |some (.loop r)=>match r.state with
  |.busy=>False
  |_=>jE Q st r.wl
 |_=>False
def Ib(ρ ρ2:List Nat)(id:Id)(e:CB)(bs:Nat)(ds:List Df)(Q:Ea→St→Prop):E (Ax×AD)→Prop
 |.ok (.ret _,h')=>XM Q ⟨e,gc ρ (gc ρ2 h'),bs,ds⟩ (h'.get id)
 |.ok (.ge v,h')=>Q (.ge v) ⟨e,gc ρ (gc ρ2 h'),bs,ds⟩
 |.err _=>False
def jU(K:Ab)(ci:Option (List Nat))(ρ ρ2:List Nat)(id:Id)(e:CB)(h:AD)(bs:Nat)(ds:List Df)(Q:Ea→St→Prop):AV→Prop
 |.fn f first cap=>Ib ρ ρ2 id e bs ds Q (K (.fn f) (first++[.ws id]++cap) h ρ2 true ci)
 |_=>False
theorem cG(ρ ρ2:List Nat)(id:Id)(a:St)(r:E (Ax×AD)):(match KU ρ ρ2 id a r with|.ok (o,st')=>Q o st'|.err _=>False)=Ib ρ ρ2 id a.env a.base a.defs Q r:=by
 cases r with
 |err l=>rfl
 |ok r=>
  obtain⟨o,h'⟩:=r;cases o with
  |ge v=>simp only[KU,Ib,A9]
  |ret v=>
   simp only[KU,Ib,A9,XM,Yn];cases AD.get h' id with
   |none=>rfl
   |some o=>
    cases o with
    |loop r=>
     obtain⟨s,p⟩:=r;simp only;cases s<;>(try rfl)<;>
     .simp only[jE];cases p with
      |none=>rfl
      |some c=>cases c<;>rfl
    |_=>rfl
theorem xC(g:Operand)(c:Array Tmp)(pm a:Code)(k:fr.rnd=false):Wp C K fr b (.rangeFunc g c pm a) ⟨e,h,bs,ds⟩ Q=
 jU K fr.ci (bs::fr.π) ((bs+1)::fr.π) (0::bs::fr.π) e (h.put (0::bs::fr.π) (.loop ⟨.ready,none,fr.f,e,c.toList,pm,a,fr.nt⟩)) (bs+2) (.mark (0::bs::fr.π)::ds) Q (ev e.get g):=by
 have key:Wp C K fr b (.rangeFunc g c pm a) ⟨e,h,bs,ds⟩ Q=(match HV K fr g c pm a ⟨e,h,bs,ds⟩with|.ok (o,st')=>Q o st'|.err _=>False):=by
  cases j:HV K fr g c pm a ⟨e,h,bs,ds⟩with
  |ok r=>
   obtain⟨o,st'⟩:=r;exact VI fun n=>by simp only[Bm,j]
  |err l=>
   refine propext ⟨fun⟨n,o,st',i,hq⟩=>?_,fun h=>h.elim⟩;cases n with
   |zero=>simp[Bm]at i
   |succ n=>simp only[Bm,j]at i;cases i
 rw[key];unfold HV;simp only[k,Iv,A9];rw[cG];simp only[jU];cases ev e.get g with
 |fn f first cap=>simp only[LP,Bk]
 |_=>rfl
variable{π:List Nat}{ci:Option (List Nat)}
theorem qQ{f:FuncId}{raw:Bool}{nt:Nat}(g:Operand)(c:Array Tmp)(pm a:Code):Wp C K ⟨f,π,raw,ci,false,nt⟩ b (.rangeFunc g c pm a) ⟨e,h,bs,ds⟩ Q=
 jU K ci (bs::π) ((bs+1)::π) (0::bs::π) e (h.put (0::bs::π) (.loop ⟨.ready,none,f,e,c.toList,pm,a,nt⟩)) (bs+2) (.mark (0::bs::π)::ds) Q (ev e.get g):=xC g c pm a rfl
variable{ρ ρ2:List Nat}
theorem rf{id:Id}(f:FuncId)(first cap:List AV):jU K ci ρ ρ2 id e h bs ds Q (.fn f first cap)=Ib ρ ρ2 id e bs ds Q (K (.fn f) (first++[.ws id]++cap) h ρ2 true ci):=rfl
variable{Post:Ax→AD→Prop}
theorem SU{id:Id}{q:E (Ax×AD)}(a: ∃o h',q=.ok (o,h')∧Post o h')(b: ∀o h',Post o h'→Ib ρ ρ2 id e bs ds Q (.ok (o,h'))):Ib ρ ρ2 id e bs ds Q q:=by
 obtain⟨o,h',e,c⟩:=a;rw[e];exact b o h' c
theorem iE{id:Id}(v:AV)(h':AD):Ib ρ ρ2 id e bs ds Q (.ok (.ret v,h'))=XM Q ⟨e,gc ρ (gc ρ2 h'),bs,ds⟩ (h'.get id):=rfl
theorem iC{id:Id}(v:AV)(h':AD):Ib ρ ρ2 id e bs ds Q (.ok (.ge v,h'))=Q (.ge v) ⟨e,gc ρ (gc ρ2 h'),bs,ds⟩:=rfl
theorem gj(st:St)(f:FuncId)(e:CB)(b:List Nat)(pm a:Code)(nt:Nat):XM Q st (some (.loop ⟨.ready,none,f,e,b,pm,a,nt⟩))=Q .normal st:=rfl
theorem pH(st:St)(f:FuncId)(e:CB)(b:List Nat)(pm a:Code)(nt:Nat):XM Q st (some (.loop ⟨.done,some .ret,f,e,b,pm,a,nt⟩))=Q .ret st:=rfl
theorem gh(st:St)(k:Nat)(f:FuncId)(e:CB)(b:List Nat)(pm a:Code)(nt:Nat):XM Q st (some (.loop ⟨.done,some (.exit k),f,e,b,pm,a,nt⟩))=Q (.exit k) st:=rfl
def YO(C:DD)(K:Ab)(fr:Fr)(ops:Array Oper)(b n:Nat)(al:Nat→Bool)(l:List Oper)(i:Nat)(dst:Option Tmp)(ρ:List Nat)(e:CB)(h:AD)(bs:Nat)(ds:List Df)(Q:Ea→St→Prop)(id:Id)(az:List AV):Option Obj→Prop
 |some (.loop r)=>Vc C K fr ops b n al l i dst ρ e h bs ds Q (K (.round id r) az h ρ true fr.ci)
 |_=>False
theorem lJ(id:Id)(args:List AV):TZ C K fr ops b n al l i dst ρ e h bs ds Q args (.ws id)=YO C K fr ops b n al l i dst ρ e h bs ds Q id args (h.get id):=by
 simp only[TZ,E4,Kl,YO];cases AD.get h id with
 |none=>rfl
 |some o=>cases o<;>first|rfl|simp only[Ry]
theorem qU(id:Id)(args:List AV)(r:Lp):YO C K fr ops b n al l i dst ρ e h bs ds Q id args (some (.loop r))=Vc C K fr ops b n al l i dst ρ e h bs ds Q (K (.round id r) args h ρ true fr.ci):=rfl
def nW(C:DD)(K:Ab)(fr:Fr)(ops:Array Oper)(b n:Nat)(al:Nat→Bool)(ps:List (Nat×Nat))(fps:List Fp)(l:List Oper)(i:Nat)(dst:Option Tmp)(ρ:List Nat)(e:CB)(h:AD)(bs:Nat)(ds:List Df)(Q:Ea→St→Prop)(id:Id)(az:List AV):Option Obj→Prop
 |some (.loop r)=>Uv C K fr ops b n al ps fps l i dst ρ e h bs ds Q (K (.round id r) az h ρ true fr.ci)
 |_=>False
theorem qT(id:Id)(args:List AV)(r:Lp):nW C K fr ops b n al ps fps l i dst ρ e h bs ds Q id args (some (.loop r))=Uv C K fr ops b n al ps fps l i dst ρ e h bs ds Q (K (.round id r) args h ρ true fr.ci):=rfl
def cg(id:Id)(Post:Ax→AD→Prop)(o:Ea)(h:AD):Option Obj→Prop
 |some (.loop r)=>match o with
  |.normal=>Post (.ret (.d (.bool true))) (h.put id (.loop {r with state:=.ready,wl:=none}))
  |.ret=>Post (.ret (.d (.bool false))) (h.put id (.loop {r with state:=.done,wl:=some .ret}))
  |.exit k=>Post (.ret (.d (.bool false))) (h.put id (.loop {r with state:=.done,wl:=some (.exit k)}))
  |.ge v=>Post (.ge v) h
 |_=>False
def ck(id:Id)(Post:Ax→AD→Prop):Ea→St→Prop
 |o,st=>st.defs=[]∧cg id Post o st.heap (st.heap.get id)
def xU(C:DD)(K:Ab)(fr:Fr)(id:Id)(body:Code)(Post:Ax→AD→Prop)(st:St):Option Obj→Prop
 |some (.loop r)=>match r.state with
  |.ready=>Wp C K fr 0 body {st with heap:=st.heap.put id (.loop {r with state:=.busy})} (ck id Post)
  |_=>False
 |_=>False
def WA(C:DD)(K:Ab)(fr:Fr)(id:Id)(body:Code)(Post:Ax→AD→Prop):Ea→St→Prop
 |.normal,st=>st.defs=[]∧K4 fr.ci [(id,.box [])]=true∧xU C K fr id body Post st (st.heap.get id)
 |_,_=>False
theorem cm(id:Id):ck id Post .normal ⟨e,h,bs,[]⟩=cg id Post .normal h (h.get id):=by simp[ck]
theorem vt(id:Id):ck id Post .ret ⟨e,h,bs,[]⟩=cg id Post .ret h (h.get id):=by simp[ck]
theorem vp(id:Id)(v:AV):ck id Post (.ge v) ⟨e,h,bs,[]⟩=cg id Post (.ge v) h (h.get id):=by simp[ck]
theorem cj(id:Id)(r:Lp):cg id Post .normal h (some (.loop r))=Post (.ret (.d (.bool true))) (h.put id (.loop ⟨.ready,none,r.f,r.env,r.params,r.pm,r.body,r.nt⟩)):=rfl
theorem vo(id:Id)(r:Lp):cg id Post .ret h (some (.loop r))=Post (.ret (.d (.bool false))) (h.put id (.loop ⟨.done,some .ret,r.f,r.env,r.params,r.pm,r.body,r.nt⟩)):=rfl
theorem pw(id:Id)(k:Nat)(r:Lp):cg id Post (.exit k) h (some (.loop r))=Post (.ret (.d (.bool false))) (h.put id (.loop ⟨.done,some (.exit k),r.f,r.env,r.params,r.pm,r.body,r.nt⟩)):=rfl
theorem vn(id:Id)(v:AV)(r:Lp):cg id Post (.ge v) h (some (.loop r))=Post (.ge v) h:=rfl
theorem ZY(id:Id)(a:Code):WA C K fr id a Post .normal ⟨e,h,bs,[]⟩=(K4 fr.ci [(id,.box [])]=true∧xU C K fr id a Post ⟨e,h,bs,[]⟩ (h.get id)):=by simp[WA]
theorem kj(id:Id)(b:Code)(p:Option Code)(f:FuncId)(e':CB)(g:List Nat)(a c:Code)(nt:Nat):xU C K fr id b Post ⟨e,h,bs,[]⟩ (some (.loop ⟨.ready,p,f,e',g,a,c,nt⟩))=Wp C K fr 0 b ⟨e,h.put id (.loop ⟨.busy,p,f,e',g,a,c,nt⟩),bs,[]⟩ (ck id Post):=rfl
theorem KZ{id:Id}{r:Lp}{args:List AV}{h:AD}{e:CB}(y:Er r.env r.params args=some e)
 (A:Wp C (KL P C) {f:=r.f,π,raw:=true,ci,rnd:=true,nt:=r.nt} 0 r.pm ⟨e,h,0,[]⟩ (WA C (KL P C) {f:=r.f,π,raw:=true,ci,rnd:=true,nt:=r.nt} id r.body Post)): ∃o h',KL P C (.round id r) args h π true ci=.ok (o,h')∧Post o h':=by
 obtain⟨i,B,I,x,a⟩:=A;cases B with
 |normal=>
  obtain⟨l,J,a⟩:=a;cases c:AD.get I.heap id with
  |none=>rw[c]at a;exact a.elim
  |some D=>
   rw[c]at a;cases D with
   |loop H=>
    simp only[xU]at a;cases g:H.state with
    |ready=>
     rw[g]at a;obtain⟨j,q,s,h2,t,b⟩:=a;have w: ∃o h',Qj id (.ok (q,s))=.ok (o,h')∧Post o h':=by
      simp only[Qj,t];cases p:AD.get s.heap id with
      |none=>rw[p]at b;exact b.elim
      |some F=>
       rw[p]at b;cases F with
       |loop K=>
        cases q with
        |normal=>exact⟨_,_,rfl,b⟩
        |ret=>exact⟨_,_,rfl,b⟩
        |exit k=>exact⟨_,_,rfl,b⟩
        |ge v=>exact⟨_,_,rfl,b⟩
       |_=>exact b.elim
     obtain⟨o,h',u,z⟩:=w;refine⟨o,h',ZC (n:=max i j) ?_,z⟩;unfold H0;have m:=N6 h2 (Nl i j);rw[l]at m;simp only[y,N6 x (Lt i j),JY,l,J,c,OU,g,A9];rw[m];exact u
    |_=>rw[g]at a;exact a.elim
   |_=>exact a.elim
 |_=>exact a.elim
attribute [go_sem] rf iE iC gj pH gh lJ qU qT cm vt vp cj vo pw vn ZY kj qQ Er
end Go.Abs
namespace Go.Abs
variable{α β:Type}
theorem Qt(f:α→β)(l:List α):List.take l.length (l.map f)=l.map f:=By AG
theorem Qs(f:α→β)(l:List α)(x:List β):List.take l.length (l.map f++x)=l.map f:=by rw[Hw AG,Qt]
theorem YE(f:α→β)(l:List α)(y:β)(x:List β):List.drop (l.length+1) (l.map f++y::x)=x:=by rw[List.drop_append];simp
def uV(g:G)(id:Id):Option Obj→AD
 |some (.em sz es)=>[(id,.i7 sz es)]
 |some (.arr sz es)=>match Dc g es with
  |some ds=>(id,.i7 sz ds)::es.flatMap (CY g)
  |none=>[]
 |_=>[]
theorem oY(g:G)(id:Id)(off n:Nat):Gu g (.f8 id off n)=uV g id (g id):=by
 simp only[Gu];exact zBR
theorem gH(g:G)(id:Id)(sz:Nat)(es:List (List Ao)):uV g id (some (.em sz es))=[(id,.i7 sz es)]:=rfl
theorem oc(g:G)(id:Id)(sz:Nat)(es:List (List Ao)):uV g id (some (.i7 sz es))=[]:=rfl
attribute [go_sem] ue oY gH oc
attribute [go_sem] Qt Qs YE Nat.le_add_right Nat.le_add_left Nat.add_le_add_iff_left Nat.not_succ_le_self Nat.add_lt_add_iff_left
end Go.Abs
namespace Go.Proofs
open Go Go.Abs
variable{ρ:Abs.Id}
theorem Ds{id:Abs.Id}(h:Id.under ρ id=false)(a b c n:Nat):Id.is (a::b::c::n::ρ) id=false:=AJ (AI (AI h n) c) a b
theorem JS{id:Abs.Id}(h:Id.under ρ id=false)(a b c n:Nat):Id.is id (a::b::c::n::ρ)=false:=Ak (AI (AI h n) c) a b
variable{π:List Nat}
theorem Ay(l:List Nat):Id.under π (l++π)=true:=under_iff.2 ⟨l,rfl⟩
def Kg(g:AD)(sz:Nat)(v:AV)(es:List (List Ao)):Prop:=(v=.d7∧es=[])∨ ∃id x,v=.f8 id 0 es.length∧g.get id=some (.em sz (es++x))
def jK(g:AD)(sz:Nat)(v:AV)(es:List (List Ao)):Prop:=Kg g sz v es∨(v=.emp∧es=[])
abbrev Pk(c:Bool)(i:Nat)(g:AD)(sz:Nat)(v:AV)(es:List (List Ao)):Prop:=match c,i with
 |false,2=>jK g sz v es
 |_,_=>Kg g sz v es
structure dY(c:Bool)(g:AD)(rows:List (List AV))(l:List Gp):Prop where
 len:rows.length=l.length
 row: ∀(j:Nat) (q:Gp),l[j]? =some q→ ∃v,rows[j]? =some (Az q v)∧Pk c 2 g 1 v (q.queue.map BD)
abbrev gQ:=dY true
def qa(g:AD)(v:AV)(rows:List (List AV)):Prop:=(v=.d7∧rows=[])∨ ∃id,v=.f8 id 0 rows.length∧g.get id=some (.arr 4 rows)
structure MV where
 s:Nat→AV
 v3:AV
 v9:AV
 wd:Abs.Id
 rows:List (List AV)
def Dm:Nat→Nat
 |0=>2
 |1=>3
 |2=>3
 |_=>5
def Av(st:CT):Nat→List (List Ao)
 |0=>st.d8.ac.map Au
 |1=>st.d8.ce.map BF
 |2=>st.d8.waits.map Ae
 |_=>st.ev.map G4
def MV.ip(V:MV)(i:Nat)(v:AV):MV:={V with s:=fun j=>if j=i then v else V.s j}
def MV.ids(V:MV)(m:Abs.Id):List Abs.Id:=m::V.wd::(AE (V.s 0)++(AE (V.s 1)++(AE (V.s 2)++(AE (V.s 3)++(AE V.v3++V.rows.flatMap BB)))))
def BK(p:AX)(sz:List Int)(V:MV)(w:Int):List AV:=[V.s 0,V.s 1,V.v3,V.s 2,.d (.bv (p.free.map Bp)),.d (.bv (p.nodes.map Ba)),.d (.bv (p.defs.map Bw)),nI p.main,.d (.bv (sz.map AR)),V.v9,.mp V.wd,V.s 3,nI w]
structure GM(B:MV→Int→List AV)(c:Bool)(h:AD)(m:Abs.Id)(V:MV)(st:CT):Prop where
 box:h.get m=some (.box (B V st.work))
 act0:(V.wd=m∧c=false)∨h.get V.wd=some (.map JC)
 sl: ∀i,i<4→Pk c i h (Dm i) (V.s i) (Av st i)
 arr:qa h V.v3 V.rows
 be:dY c h V.rows st.d8.be
 gw: ∀id∈AE (V.s 1),id∉AE (V.s 2)
 qd:(V.rows.flatMap BB).Nodup
 inv: ∀(V:MV) (rows:List (List AV)) (w:Int),B {V with rows:=rows} w=B V w
abbrev KA(p:AX)(sz:List Int):=GM (BK p sz) true
variable{h:AD}{m:Abs.Id}
theorem GM.wd{B:MV→Int→List AV}{V:MV}{st:CT}(a:GM B true h m V st):h.get V.wd=some (.map JC):=a.act0.resolve_left fun e=>by cases e.2
variable{h':AD}
theorem LO{B:MV→Int→List AV}{c:Bool}{V:MV}{st:CT}(a:GM B c h m V st)(f:V.wd≠m→h.get V.wd=some (.map JC)→h'.get V.wd=h.get V.wd):(V.wd=m∧c=false)∨h'.get V.wd=some (.map JC):=by
 rcases a.act0 with e|e
 .exact .inl e
 .exact .inr ((f (fun b=>by rw[b,a.box]at e;cases e) e).trans e)
structure Xo(N:Abs.Id→Bool)(m:Abs.Id)(V V':MV)(h h':AD):Prop where
 ids: ∀id∈V'.ids m,id∈V.ids m∨(N id=true∧ ∃l,id=1::l)
 frame: ∀id,id∉V.ids m→N id=false→h'.get id=h.get id
abbrev hN(π:List Nat):=Xo (Id.under π)
abbrev L0(B:MV→Int→List AV)(c:Bool)(N:Abs.Id→Bool)(m:Abs.Id)(V:MV)(h:AD)(st:CT)(h':AD):Prop:= ∃V',GM B c h' m V' st∧Xo N m V V' h h'
abbrev p3(p:AX)(sz:List Int):=L0 (BK p sz) true
abbrev uW(p:AX)(sz:List Int)(π:List Nat):=p3 p sz (Id.under π)
abbrev Mh(N:Abs.Id→Bool)(V:MV)(m:Abs.Id):Prop:= ∀id∈V.ids m,N id=false
abbrev Bz(π:List Nat):=Mh (Id.under π)
theorem Bz.ext{V:MV}(h:Bz π V m)(n:Nat):Bz (n::π) V m:=fun id a=>AI (h id a) n
def GL(p:AX)(sz:List Int)(π:List Nat)(m:Abs.Id)(V:MV)(h:AD):Option CT→Ax→AD→Prop
 |some st,o,h'=>o=.ret (.ii [])∧uW p sz π m V h st h'
 |none,o,h'=>o=.ge (DH 3)∧ ∀id,id∉V.ids m→Id.under π id=false→h'.get id=h.get id
variable{g:AD}{n:Nat}{es:List (List Ao)}
theorem Aq{sz:Nat}{id:Abs.Id}(x:List (List Ao))(b:n=es.length)(a:g.get id=some (.em sz (es++x))):Kg g sz (.f8 id 0 n) es:=.inr ⟨id,x,by rw[b],a⟩
variable{g':AD}
theorem H8{sz:Nat}{v:AV}(h:Kg g sz v es)(a: ∀id∈AE v,g'.get id=g.get id):Kg g' sz v es:=by
 rcases h with h|⟨id,x,rfl,h⟩
 .exact .inl h
 .exact .inr ⟨id,x,rfl,by rw[a id BJ];exact h⟩
theorem H7{g:AD}{sz:Nat}{v:AV}{es:List (List Ao)}(h:Kg g sz v es){id:Abs.Id}(a:id∈AE v): ∃x,g.get id=some (.em sz x):=by
 rcases h with⟨rfl,_⟩|⟨b,x,rfl,h⟩
 .simp[AE]at a
 .simp[AE]at a;subst a;exact⟨_,h⟩
theorem PT{c:Bool}{i:Nat}{sz:Nat}{v:AV}(h:Kg g sz v es):Pk c i g sz v es:=by
 unfold Pk;split
 .exact .inl h
 .exact h
theorem U4{c:Bool}{i:Nat}{sz:Nat}{v:AV}(h:Pk c i g sz v es):jK g sz v es:=by
 unfold Pk at h;split at h
 .exact h
 .exact .inl h
theorem Ka{c:Bool}{i:Nat}{sz:Nat}{v:AV}(h:Pk c i g sz v es)(a: ∀id∈AE v,g'.get id=g.get id):Pk c i g' sz v es:=by
 unfold Pk at*;split at h
 .exact h.imp_left fun h=>H8 h a
 .exact H8 h a
theorem H5{c:Bool}{i:Nat}{sz:Nat}{v:AV}(h:Pk c i g sz v es){id:Abs.Id}(a:id∈AE v): ∃x,g.get id=some (.em sz x):=by
 rcases U4 h with h|⟨rfl,_⟩
 .exact H7 h a
 .simp[AE]at a
variable{rows:List (List AV)}
theorem LU{v:AV}(h:qa g v rows)(a: ∀id∈AE v,g'.get id=g.get id):qa g' v rows:=by
 rcases h with h|⟨id,rfl,h⟩
 .exact .inl h
 .exact .inr ⟨id,rfl,by rw[a id BJ];exact h⟩
theorem HA{g:AD}{v:AV}{rows:List (List AV)}(h:qa g v rows){id:Abs.Id}(a:id∈AE v):g.get id=some (.arr 4 rows):=by
 rcases h with⟨rfl,_⟩|⟨b,rfl,h⟩
 .simp[AE]at a
 .simp[AE]at a;subst a;exact h
theorem Bq(x:Gp)(v:AV):BB (Az x v)=AE v:=by simp[Az,BB,AE]
variable{l:List Gp}
theorem LR{c:Bool}(h:dY c g rows l)(b: ∀id∈rows.flatMap BB,g'.get id=g.get id):dY c g' rows l:=by
 refine⟨h.len,fun j q f=>?_⟩;obtain⟨v,a,h2⟩:=h.row j q f;exact⟨v,a,Ka h2 fun id e=>b id (CS.2 ⟨_,AS a,by rw[Bq];exact e⟩)⟩
theorem Kn{c:Bool}(h:dY c g rows l){id:Abs.Id}(f:id∈rows.flatMap BB): ∃x,g.get id=some (.em 1 x):=by
 obtain⟨row,n,a⟩:=CS.1 f;obtain⟨j,b⟩:=II n;have k:=(BV.1 b).1;obtain⟨x,o⟩:=get_some (l:=l) (i:=j) (by rw[←h.len];exact k);obtain⟨v,e,m⟩:=h.row j x o;rw[b]at e;cases e;rw[Bq]at a;exact H5 m a
theorem MV.mem(V:MV)(m id:Abs.Id):id∈V.ids m↔id=m∨id=V.wd∨(∃i,i<4∧id∈AE (V.s i))∨id∈AE V.v3∨id∈V.rows.flatMap BB:=by
 simp only[MV.ids,D0,EL];constructor
 .rintro(h|h|h|h|h|h|h|h)
  .exact .inl h
  .exact .inr (.inl h)
  .exact .inr (.inr (.inl ⟨0,AA,h⟩))
  .exact .inr (.inr (.inl ⟨1,AA,h⟩))
  .exact .inr (.inr (.inl ⟨2,AA,h⟩))
  .exact .inr (.inr (.inl ⟨3,AA,h⟩))
  .exact .inr (.inr (.inr (.inl h)))
  .exact .inr (.inr (.inr (.inr h)))
 .rintro(h|h|⟨i,hi,h⟩|h|h)
  .simp[h]
  .simp[h]
  .match i,hi with
   |0,_=>simp[h]
   |1,_=>simp[h]
   |2,_=>simp[h]
   |3,_=>simp[h]
  .simp[h]
  .simp only[h,or_true]
theorem MV.m_mem(V:MV)(m:Abs.Id):m∈V.ids m:=(V.mem m m).2 (.inl rfl)
theorem MV.acts_mem(V:MV)(m:Abs.Id):V.wd∈V.ids m:=(V.mem m _).2 (.inr (.inl rfl))
theorem MV.s_mem(V:MV)(m:Abs.Id){i:Nat}(a:i<4){id:Abs.Id}(h:id∈AE (V.s i)):id∈V.ids m:=(V.mem m _).2 (.inr (.inr (.inl ⟨i,a,h⟩)))
theorem MV.v3_mem(V:MV)(m:Abs.Id){id:Abs.Id}(h:id∈AE V.v3):id∈V.ids m:=(V.mem m _).2 (.inr (.inr (.inr (.inl h))))
theorem MV.row_mem(V:MV)(m:Abs.Id){id:Abs.Id}(h:id∈V.rows.flatMap BB):id∈V.ids m:=(V.mem m _).2 (.inr (.inr (.inr (.inr h))))
theorem Bx{B:MV→Int→List AV}{c:Bool}{V:MV}{st:CT}(a:GM B c h m V st)(b: ∀id∈V.ids m,h'.get id=h.get id):GM B c h' m V st:=
 ⟨by rw[b _ (V.m_mem m)];exact a.box,LO a fun _ _=>b _ (V.acts_mem m),fun i f=>Ka (a.sl i f) fun id e=>b id (V.s_mem m f e),LU a.arr fun id e=>b id (V.v3_mem m e),LR a.be fun id e=>b id (V.row_mem m e),a.gw,a.qd,a.inv⟩
theorem S4{B:MV→Int→List AV}{c:Bool}{V a:MV}{st:CT}{ρ:List Nat}{b:AD}(f:GM B c h m V st)(e:hN π m a V b h)(i:Bz ρ a m):GM B c (gc ρ h) m V st:=by
 refine Bx f fun id g=>?_;rcases e.ids id g with h|⟨_,l,rfl⟩
 .exact Ah _ _ _ (i id h)
 .exact HC _ _ _
theorem BM{id:Abs.Id}(h:Id.under (n::π) id=true):Id.under π id=true:=by
 rw[under_iff]at*;exact(F5 n π).trans h
theorem bO{V:MV}(a: ∀id,Id.under π id=false→h'.get id=h.get id):hN π m V V h h':=⟨fun id h=>.inl h,fun id _ b=>a id b⟩
theorem E8{B:MV→Int→List AV}{c:Bool}{V:MV}{st:CT}(a:GM B c h m V st)(f:Bz π V m)(e: ∀id,Id.under π id=false→h'.get id=h.get id):GM B c h' m V st:=Bx a fun id b=>e id (f id b)
theorem RV{B:MV→Int→List AV}{c:Bool}{N:Abs.Id→Bool}{h h':AD}{m:Abs.Id}{V:MV}{st st':CT}(a:GM B c h m V st)(o:Mh N V m)
 (p:h'.get m=some (.box (B V st'.work))) (g:st'.d8=st.d8∧st'.ev=st.ev) (l: ∀id,id≠m→N id=false→h'.get id=h.get id):GM B c h' m V st'∧Xo N m V V h h':=by
 have s: ∀id,(∀cs,h.get id≠some (.box cs))→id≠m:=fun id r e=>r _ (by subst e;exact a.box);have q: ∀i,Av st' i=Av st i:=fun i=>by
  unfold Av;rw[g.1,g.2]
 have j: ∀id∈V.ids m,(∀cs,h.get id≠some (.box cs))→h'.get id=h.get id:=fun id f h2=>l id (s id h2) (o id f);refine⟨⟨p,?_,fun i k=>?_,?_,?_,a.gw,a.qd,a.inv⟩,fun id h=>.inl h,fun id f h2=>l id (fun e=>f zFR) h2⟩
 .exact LO a fun e _=>l _ e (o _ (V.acts_mem m))
 .rw[q];refine Ka (a.sl i k) fun id b=>j id (V.s_mem m k b) ?_;obtain⟨x,n⟩:=H5 (a.sl i k) b;rw[n];simp
 .refine LU a.arr fun id b=>j id (V.v3_mem m b) ?_;rw[HA a.arr b];simp
 .rw[g.1];refine LR a.be fun id b=>j id (V.row_mem m b) ?_;obtain⟨x,n⟩:=Kn a.be b;rw[n];simp
variable{st':CT}
theorem jr{st:CT}(a:st'.d8=st.d8): ∀j,j<4→j≠3→Av st' j=Av st j
 |0,_,_|1,_,_|2,_,_=>by simp[Av,a]
 |3,_,h=>absurd rfl h
theorem Wk{st:CT}(a:st'.d8.ac=st.d8.ac)(b:st'.d8.ce=st.d8.ce)(c:st'.ev=st.ev): ∀j,j<4→j≠2→Av st' j=Av st j
 |0,_,_|1,_,_|3,_,_=>by simp[Av,a,b,c]
 |2,_,h=>absurd rfl h
theorem hX{st:CT}(a:st'.d8.ac=st.d8.ac)(h2:st'.d8.waits=st.d8.waits)(b:st'.ev=st.ev): ∀j,j<4→j≠1→Av st' j=Av st j
 |0,_,_|2,_,_|3,_,_=>by simp[Av,a,h2,b]
 |1,_,h=>absurd rfl h
theorem Wj{st:CT}(a:st'.d8.ce=st.d8.ce)(h2:st'.d8.waits=st.d8.waits)(b:st'.ev=st.ev): ∀j,j<4→j≠0→Av st' j=Av st j
 |1,_,_|2,_,_|3,_,_=>by simp[Av,a,h2,b]
 |0,_,h=>absurd rfl h
theorem wi(V:MV)(i:Nat)(v:AV)(j:Nat):(V.ip i v).s j=if j=i then v else V.s j:=rfl
theorem bm{B:MV→Int→List AV}{c:Bool}{N:Abs.Id→Bool}{h h':AD}{m:Abs.Id}{V:MV}{st st':CT}(i:Nat){v:AV}(p:i<4)(f:GM B c h m V st)(r:Mh N V m)
 (F:h'.get m=some (.box (B (V.ip i v) st'.work))) (K:Pk c i h' (Dm i) v (Av st' i)) (J: ∀j,j<4→j≠i→Av st' j=Av st j) (H:st'.d8.be=st.d8.be)
 (M:AE v=AE (V.s i)∨ ∀id∈AE v,N id=true∧ ∃l,id=1::l) (t: ∀id,id≠m→id∉AE (V.s i)→N id=false→h'.get id=h.get id):GM B c h' m (V.ip i v) st'∧Xo N m V (V.ip i v) h h':=by
 have I: ∀id,(∀cs,h.get id≠some (.box cs))→id≠m:=fun id a e=>a _ (by subst e;exact f.box);have s: ∀id∈V.ids m,(∀cs,h.get id≠some (.box cs))→id∉AE (V.s i)→h'.get id=h.get id:=fun id k h2 D=>t id (I id h2) D (r id k);have u: ∀id∈AE v,id∈AE (V.s i)∨(N id=true∧ ∃l,id=1::l):=fun id b=>by
  rcases M with e|e
  .rw[e]at b;exact .inl b
  .exact .inr (e id b)
 have key: ∀j,j<4→j≠i→ ∀id∈AE (V.s j),id∉AE (V.s i):=fun j n o id b a=>by
  obtain⟨x,g⟩:=H5 (f.sl j n) b;obtain⟨y,q⟩:=H5 (f.sl i p) a;rw[g]at q;have L:Dm j=Dm i:=by
   simp only[Cs,Obj.em.injEq]at q;exact q.1
  have C:(j=1∧i=2)∨(j=2∧i=1):=by
   match i,j,p,n with
   |0,0,_,_|1,1,_,_|2,2,_,_|3,3,_,_=>omega
   |0,1,_,_|0,2,_,_|0,3,_,_|1,0,_,_|1,3,_,_|2,0,_,_|2,3,_,_|3,0,_,_|3,1,_,_|3,2,_,_=>simp[Dm]at L
   |1,2,_,_|2,1,_,_=>omega
  rcases C with⟨rfl,rfl⟩|⟨rfl,rfl⟩
  .exact f.gw id b a
  .exact f.gw id a b
 refine⟨⟨F,?_,fun j n=>?_,?_,?_,fun id k h2=>?_,f.qd,f.inv⟩,fun id b=>?_,fun id k h2=>?_⟩
 .show(V.wd=m∧c=false)∨h'.get V.wd=_;refine LO f fun e A=>t _ e (fun a=>?_) (r _ (V.acts_mem m));obtain⟨x,g⟩:=H5 (f.sl i p) a;rw[A]at g;cases g
 .rw[wi];by_cases o:j=i
  .rw[D5 o,o];exact K
  .rw[Co o,J j n o];refine Ka (f.sl j n) fun id b=>s id (V.s_mem m n b) ?_ (key j n o id b);obtain⟨x,g⟩:=H5 (f.sl j n) b;rw[g];simp
 .refine LU f.arr fun id b=>s id (V.v3_mem m b) ?_ fun a=>?_
  .rw[HA f.arr b];simp
  .obtain⟨x,g⟩:=H5 (f.sl i p) a;rw[HA f.arr b]at g;cases g
 .rw[H];refine LR f.be fun id b=>s id (V.row_mem m b) ?_ fun a=>?_
  .obtain⟨x,g⟩:=Kn f.be b;rw[g];simp
  .obtain⟨x,g⟩:=H5 (f.sl i p) a;obtain⟨y,q⟩:=Kn f.be b;rw[g]at q
   match i,p with
   |0,_|1,_|2,_|3,_=>simp[Dm]at q
 .rw[wi]at k h2;have O: ∀id∈AE (V.s 1),N id=false:=fun id b=>r id (V.s_mem m AA b);have P: ∀id∈AE (V.s 2),N id=false:=fun id b=>r id (V.s_mem m AA b);by_cases w:1=i
  .subst w;rw[D5 rfl]at k;rw[Co AA]at h2;rcases u id k with a|a
   .exact f.gw id a h2
   .rw[P id h2]at a;cases a.1
  .rw[Co w]at k;by_cases z:2=i
   .subst z;rw[D5 rfl]at h2;rcases u id h2 with a|a
    .exact f.gw id k a
    .rw[O id k]at a;cases a.1
   .rw[Co z]at h2;exact f.gw id k h2
 .rcases((V.ip i v).mem m id).1 b with a|a|⟨j,n,a⟩|a|a
  .exact .inl ((V.mem m id).2 (.inl a))
  .exact .inl ((V.mem m id).2 (.inr (.inl a)))
  .rw[wi]at a;by_cases o:j=i
   .rw[D5 o]at a;exact(u id a).imp_left fun h=>V.s_mem m p h
   .rw[Co o]at a;exact .inl (V.s_mem m n a)
  .exact .inl (V.v3_mem m a)
  .exact .inl (V.row_mem m a)
 .exact t id (fun e=>k zFR) (fun a=>k (V.s_mem m p a)) h2
variable{N:Abs.Id→Bool}
theorem DZ{B:MV→Int→List AV}{c:Bool}{V:MV}{st:CT}(i:Nat)(r:i<4)(p:GM B c h m V st)(u:Mh N V m)
 (t: ∀j,j<4→j≠i→Av st' j=Av st j) (q:st'.d8.be=st.d8.be) (v:AV) (h':AD) (b:h'.get m=some (.box (B (V.ip i v) st'.work))) (f:Pk c i h' (Dm i) v (Av st' i)) (g:AE v=AE (V.s i)∨ ∀id∈AE v,N id=true∧ ∃l,id=1::l) (k: ∀id,Id.is m id=false→(∀a∈AE (V.s i),Id.is a id=false)→N id=false→h'.get id=h.get id):L0 B c N m V h st' h':=
 ⟨_,bm i r p u b f t q g fun id b1 n o=>k id (AF fun e=>b1 e.symm) (fun a s=>AF fun e=>n (by rw[←e];exact s)) o⟩
theorem NR{B:MV→Int→List AV}{c:Bool}{V:MV}{st:CT}(b:L0 B c N m V h st h'): ∀id,id∉V.ids m→N id=false→h'.get id=h.get id:=by
 obtain⟨_,_,a⟩:=b;exact a.frame
end Go.Proofs
namespace Go.Proofs
open Go Go.Abs
set_option maxRecDepth 100000
set_option maxHeartbeats 4000000
structure BX.Fits(s:BX):Prop where
 ac:s.ac.length≤1000000
 ce:s.ce.length≤1000000
 be:s.be.length≤60
 waits:s.waits.length≤1000000
 group: ∀x∈s.ce,x.env.length≤1000000
 chan: ∀x∈s.be,x.queue.length≤1000000∧ ∀y∈x.queue,y.length≤1000000
 wait: ∀x∈s.waits,x.env.length≤1000000
structure S9(π:List Nat)(s:BX)(v1 v2 v3 v4:AV)(rows:List (List AV))(g:AD):Prop where
 s0:Kg g 2 v1 (s.ac.map Au)
 s1:Kg g 3 v2 (s.ce.map BF)
 s2:Kg g 3 v4 (s.waits.map Ae)
 arr:qa g v3 rows
 be:gQ g rows s.be
 qd:(rows.flatMap BB).Nodup
 gw: ∀id∈AE v2,id∉AE v4
 ids: ∀id,id∈AE v1∨id∈AE v2∨id∈AE v4∨id∈AE v3∨id∈rows.flatMap BB→Id.under π id=true
 own: ∀id,Id.under π id=false→g.get id=none
def qb(π:List Nat)(s:BX)(r:Ax×AD):Prop:= ∃v1 v2 v3 v4 rows g,r=(.ret (.agg [v1,v2,v3,v4]),g)∧S9 π s v1 v2 v3 v4 rows g
variable{α:Type}{f:α→List Ao}{g:AD}
theorem PX{sz:Nat}{l:List α}(h:l.length=0):Kg g sz .d7 (l.map f):=.inl ⟨rfl,by rw[BI h];rfl⟩
theorem PW{sz:Nat}{l:List α}{id:Abs.Id}(h:g.get id=some (.em sz (l.map f))):Kg g sz (.f8 id 0 l.length) (l.map f):=Aq [] AG (by rw[CI];exact h)
theorem VE(a b c:Nat)(π:List Nat):Id.under π (a::b::c::π)=true:=under_iff.2 ⟨[a,b,c],rfl⟩
theorem Ik(i t j:Nat)(π:List Nat)(h:i≠j):Id.under (i::π) (t::j::π)=false:=Ev fun a=>by
 exact zAi
theorem Kd(i a t j:Nat)(π:List Nat)(h:i≠j):Id.under (i::π) (a::t::j::π)=false:=Ev fun b=>by
 rcases It.1 b with e|b
 .exact zDE
 have:=Ik i t j π h;rw[under_iff.2 b]at this;cases this
theorem UF: ∀{g:AD} {x:Abs.Id},x∈g.map (fun x=>x.1)→g.get x≠none
 |(k,o)::g,x,a=>by
  rw[CK];split
  .simp
  .rename_i b;rw[CO,D0]at a;rcases a with rfl|a
   .exact absurd (is_self _) b
   .exact UF a
theorem xT{id:Abs.Id}(h:g.get id=none):((g.map fun x=>x.1).all fun x=> !Id.is x id)=true:=by
 rw[D4];intro x a;rw[AF]
 .rfl
 .rintro rfl;exact UF a h
theorem rz{es:List (List AV)}{l:List Gp}(h:Fz g es l):gQ g es l:=by
 refine⟨h.len,fun j q e=>?_⟩;obtain⟨v,b,h2⟩:=h.row j q e;refine⟨v,b,?_⟩;rcases h2 with⟨a,rfl⟩|⟨a,id,rfl,c⟩
 .exact PX a
 .exact PW c
theorem lg(s:BX)(h:s.Fits)(k:Nat)(ρ:List Nat): ∃r,BU (KL Tryz.prog cfg) 92 [.agg (sC s)] (k::ρ)=.ok r∧qb (k::ρ) s r:=by
 have z:=sO 149 rfl s.ac (fun x _=>cv x) h.ac 4 (k::ρ);have h2:=l7 151 rfl s.ce (fun x l=>Tf x (h.group x l)) h.ce 7 (k::ρ);obtain⟨r,a0,ag⟩:=xw s.be h.be h.chan 10 (k::ρ);have S:=sQ 157 rfl s.waits (fun x l=>VU x (h.wait x l)) h.waits 13 (k::ρ);replace h:=AB h;rcases ag with⟨R,rfl⟩|⟨R,v,g,b,A,es,rfl,c⟩
 .by_cases p:s.ac.length=0;all_goals by_cases u:s.ce.length=0
  all_goals by_cases w:s.waits.length=0
  all_goals
   simp only[KV,p,u,w,↓reduceIte]at z h2 S;refine LK Tryz.func92 ?_
   (repeat' (first|simp only[go_sem, *,P9,Ot,QB,ne_eq,not_false_eq_true]|(refine sx ?_ ?_<;>intro X)|refine sy AA fun x l ad=>?_|simp(disch:=first|assumption|omega) only[AU]))
   refine⟨_,_,_,_,[],_,rfl,?_,?_,?_,.inl ⟨rfl,rfl⟩,⟨R.symm,fun j q f=>by rw[BI R]at f;cases f⟩,List.nodup_nil,?_,fun id a=>?_,fun id e=>?_⟩
   .first
    |exact PX p
    |(refine PW ?_;simp only[go_sem];done)
   .first
    |exact PX u
    |(refine PW ?_;simp only[go_sem];done)
   .first
    |exact PX w
    |(refine PW ?_;simp only[go_sem];done)
   .simp[AE]
   .simp only[AE,Ac,Gc,ID,MP,false_or]at a
    repeat' (rcases a with a|a)
    all_goals exact VE _ _ _ _
   .have C:=AJ e;have D:=AJ (AI e 4);have F:=AJ (AI e 7);have H:=AJ (AI e 13);simp only[go_sem,C,D,F,H,AM]
 .obtain rfl:=c.val;have B:=c.arr;have T:=c.own _ (Ik 10 0 0 (k::ρ) AK);have M:=c.own _ (Ik 10 0 1 (k::ρ) AK);have ar: ∀L,AD.get (g++L) (0::0::k::ρ)=AD.get L (0::0::k::ρ):=fun L=>B5 T;have av: ∀L,AD.get (g++L) (0::1::k::ρ)=AD.get L (0::1::k::ρ):=fun L=>B5 M;have I: ∀L,AD.get (g++L) (1::0::4::k::ρ)=AD.get L (1::0::4::k::ρ):=fun L=>B5 (c.own _ (Kd _ _ _ _ _ AK));have J: ∀L,AD.get (g++L) (1::0::7::k::ρ)=AD.get L (1::0::7::k::ρ):=fun L=>B5 (c.own _ (Kd _ _ _ _ _ AK));have K: ∀L,AD.get (g++L) (1::0::13::k::ρ)=AD.get L (1::0::13::k::ρ):=fun L=>B5 (c.own _ (Kd _ _ _ _ _ AK));have az:=xT T;have i:=c.rep;rw[D3]at i;have ac:=AB i.len;have N:g.get (1::0::13::k::ρ)=none:=c.own _ (Kd _ _ _ _ _ AK);have n: ∀{x y:Abs.Id} {o:Abs.Obj},g.get x=none→g.get y=some o→Id.is x y=false:=fun z h2=>Fk z h2;have Y:AH (Id.is (0::1::k::ρ) A=false∧Id.is (1::0::13::k::ρ) A=false∧ ∀L,AD.get (g++L) A=some (.arr 4 es)):=⟨n M B,n N B,fun L=>Cz B⟩;have Z:AH (∀id∈es.flatMap BB,Id.is (0::1::k::ρ) id=false∧Id.is (1::0::13::k::ρ) id=false∧ ∀L,AD.get (g++L) id=AD.get g id):=⟨fun id a=>by
   obtain⟨q,f⟩:=Eh i a;exact⟨n M f,n N f,fun L=>by rw[f];exact Cz f⟩⟩
  clear N n;replace i:=AB i;have V:AH (Id.under (k::ρ) A=true):=⟨by obtain⟨t,j,_,rfl⟩:=c.a;exact under_iff.2 ⟨[t,j,10],rfl⟩⟩;have W:AH (∀id∈es.flatMap BB,Id.under (k::ρ) id=true):=⟨fun id a=>by obtain⟨t,j,_,rfl⟩:=c.ids id a;exact under_iff.2 ⟨[t,j,10],rfl⟩⟩;replace c:=AB c;have ai: ∀o m,B8 (.f8 A o m) g=none:=fun o m=>by simp only[B8,B]
  by_cases p:s.ac.length=0;all_goals by_cases u:s.ce.length=0
  all_goals by_cases w:s.waits.length=0
  all_goals
   simp only[KV,p,u,w,↓reduceIte]at z h2 S;refine LK Tryz.func92 ?_
   (repeat' (first|simp only[go_sem, *,P9,Ot,QB,ne_eq,not_false_eq_true]|(refine sx ?_ ?_<;>intro X)|refine sy AA fun x l ad=>?_|simp(disch:=first|assumption|omega) only[AU]))
   refine⟨_,_,_,_,es,_,rfl,?_,?_,?_,.inr ⟨A,?_,?_⟩,rz (Ei i.out fun id a=>?_),i.out.diff,?_,fun id a=>?_,fun id e=>?_⟩
   .first
    |exact PX p
    |(refine PW ?_;simp only[go_sem,I,J,K];done)
   .first
    |exact PX u
    |(refine PW ?_;simp only[go_sem,I,J,K];done)
   .first
    |exact PX w
    |(refine PW ?_;simp only[go_sem,I,J,K];done)
   .rw[ac.out]
   .obtain⟨O,P,Q⟩:=Y.out;simp only[go_sem,O,P,Q,AM]
   .obtain⟨O,P,Q⟩:=Z.out id a;simp only[go_sem,O,P,Q,AM]
   .simp[AE]
   .simp only[AE,Ac,Gc,MP,false_or]at a
    repeat' (rcases a with a|a)
    all_goals first
    |exact VE _ _ _ _
    |exact V.out
    |exact W.out _ a
   .have C:=AJ e;have D:=AJ (AI e 4);have F:=AJ (AI e 7);have H:=AJ (AI e 13);have U: ∀L,AD.get (g++L) id=AD.get L id:=fun L=>B5 (c.out.own id (AI e 10));simp only[go_sem,C,D,F,H,U,AM]
def MW(op:Int):Int×Int×Bool:=
 if op=1 then(0,0,true)else if op=7 then(0,0,true)else if op=2 then(-1,0,true)else if op=3 then(0,2,true)else if op=5 then(1,2,true)
 else if op=4 then(0,1,true)else if op=6 then(0,1,true)else if op=8 then(0,1,true)else(0,0,false)
theorem Lu(op:Int):BU (KL Tryz.prog cfg) 168 [nI op] []=.ok (.ret (.ii [nI ((MW op).1),nI ((MW op).2.1),.d (.bool (MW op).2.2)]),[]):=by
 refine A7 Tryz.func168 ?_
 (repeat' (first|simp only[go_sem, *]|(refine sx ?_ ?_<;>intro a)|refine sy AA fun x c b=>?_|simp(disch:=first|assumption|omega) only[AU]))
 all_goals simp[MW, *]
structure TA(x:Bu)(size depth n:Int)(h:AD)(π:List Nat)(idn:Abs.Id)(o:Ax)(h':AD):Prop where
 ret:XI x size depth (60-n)→o=.ret (.ii [])∧h'.get idn=some (.box [nI (n+x.size)])
 ge: ¬XI x size depth (60-n)→o=.ge IG
 frame: ∀id',Id.under π id'=false→Id.is idn id'=false→h'.get id'=h.get id'
variable{x:Bu}{size depth n:Int}{h h':AD}{π:List Nat}
theorem LY{id:Abs.Id}(c: ¬XI x size depth (60-n))(b: ∀a,Id.under π a=false→Id.is id a=false→h'.get a=h.get a):TA x size depth n h π id (.ge IG) h':=⟨fun h=>absurd h c,fun _=>rfl,b⟩
theorem Px{id:Abs.Id}(e:XI x size depth (60-n))(c:h'.get id=some (.box [nI (n+x.size)]))(b: ∀a,Id.under π a=false→Id.is id a=false→h'.get a=h.get a):TA x size depth n h π id (.ret (.ii [])) h':=⟨fun _=>⟨rfl,c⟩,fun h=>absurd e h,b⟩
theorem xg(x:Bu): ∀(size depth n:Int) (h:AD) (π:List Nat) (i k j:Abs.Id),h.get i=some (.box [nI n])→h.get k=some (.box [nI size])→h.get j=some (.box [.fn 217 [] [.ptr i 0,.ptr k 0,.ptr j 0]])→Id.under π i=false→Id.under π k=false→Id.under π j=false→Id.is i k=false→Id.is i j=false→0≤n→n≤60→1≤depth→depth≤70→
 ∃o h',KL Tryz.prog cfg (.fn 217) [.agg [nI x.op,nI x.n,.d (.bv (x.kids.map BQ))],nI depth,.ptr i 0,.ptr k 0,.ptr j 0] h π true none=.ok (o,h')∧TA x size depth n h π i o h':=by
 induction x using Bu.ind with
 |h op m T p=>
 intro size depth n h π i k j S K J D M L r q X h2 Y Z;simp only[Bu.op_mk,Bu.n_mk,Bu.kids_mk]at*;have P:=AJ D;have ar:=Ak D;have z:=AI D;have v1:=AJ M;have v3:=AI M;have H:=AJ L;have A:=AI L;have av:IntKind.i64.wrap (n+1)=n+1:=wrap_id AA AA;have az:IntKind.i64.wrap (depth+1)=depth+1:=wrap_id AA AA;refine BT Tryz.func217 ?_;have p:=AB p;rcases T with _|⟨a,_|⟨b,_|⟨c,l⟩⟩⟩
 ·(repeat' (first|simp only[go_sem, *]|(refine sx ?_ ?_<;>intro B)|refine sy AA fun x F C=>?_|simp(disch:=first|assumption|omega) only[AU]))
  all_goals try(rw[Dd];refine aw ?_)
  all_goals first
   |omega
   |(refine LY ?_ (fun f e g=>?_)
     .clear p;exact zAk
     .simp only[get_put,AJ e,g,AM,FD])
   |(refine Px ?_ ?_ (fun f e g=>?_)
     .clear p;exact zAk
     .simp[get_put,is_self,Bu.size,Et]
     .simp only[get_put,AJ e,g,AM,FD])
 ·exact zAZ
 .have t:=AH.mk (p.out a AG);have u:=AH.mk (p.out b AG);clear p;have ag:=U3 a;have ai:=U3 b
  (repeat' (first|simp only[go_sem, *]|(refine sx ?_ ?_<;>intro B)|refine sy AA fun x F C=>?_|simp(disch:=first|assumption|omega) only[AU]))
  all_goals try
   (refine LY ?_ (fun f e g=>?_)
    .clear t u;exact zAk
    .simp only[get_put,AJ e,g,AM,FD])
  all_goals (rw[Dd];refine aw ?_)
  all_goals
   refine Ad (t.out size (depth+1) (n+1) _ _ i k j ?_ ?_ ?_ (z _) (v3 _) (A _) r q ?_ ?_ ?_ ?_) (fun ac g1 v=>?_)
   .simp only[go_sem,P,S]
   .simp only[go_sem,v1,r,K,AM]
   .simp only[go_sem,H,q,J,AM]
   .omega
   .omega
   .omega
   .omega
   have y:=v.frame;have W:g1.get k=some (.box [nI size]):=by
    rw[y k (v3 _) r];simp only[go_sem,v1,r,K,AM]
   have Q:g1.get j=some (.box [.fn 217 [] [.ptr i 0,.ptr k 0,.ptr j 0]]):=by
    rw[y j (A _) q];simp only[go_sem,H,q,J,AM]
   have s: ∀f,Id.under π f=false→Id.is i f=false→g1.get f=h.get f:=fun f e g=>by
    rw[y f (AI e _) g];simp only[get_put,AJ e,g,AM,FD]
   clear y;by_cases N:XI a size (depth+1) (60-(n+1))
   .obtain⟨rfl,U⟩:=v.ret N;clear v;have s:=AB s;refine aw ?_;rw[Dd];refine aw ?_;refine Ad (u.out size (depth+1) (n+1+a.size) _ _ i k j ?_ ?_ ?_ (z _) (v3 _) (A _) r q ?_ ?_ ?_ ?_) (fun ad R w=>?_)
    .simp only[go_sem,P,z,U,AM]
    .simp only[go_sem,v1,v3,r,W,AM]
    .simp only[go_sem,H,A,q,Q,AM]
    .omega
    .grind [XI]
    .omega
    .omega
    have I:=w.frame;have fr: ∀f,Id.under π f=false→Id.is i f=false→R.get f=h.get f:=fun f e g=>by
     rw[I f (AI e _) g];simp only[get_put,AJ e,Ah _ _ _ (AI e _),s.out f e g,AM,FD]
    have fr:=AB fr;clear I s;by_cases O:XI b size (depth+1) (60-(n+1+a.size))
    .obtain⟨rfl,V⟩:=w.ret O;clear w;refine aw ?_;rw[Dd];refine aw ?_;refine Px ?_ ?_ fun f e g=>?_
     .clear t u fr;exact zAk
     .rw[Ah _ _ _ (z _),V];simp[Bu.size,Et];omega
     .rw[Ah _ _ _ (AI e _),fr.out f e g]
    .obtain rfl:=w.ge O;clear w;refine aw ?_;refine LY ?_ fun f e g=>?_
     .clear t u fr;exact zAk
     .rw[Ah _ _ _ (AI e _),fr.out f e g]
   .obtain rfl:=v.ge N;clear v;refine aw ?_;refine LY ?_ (fun f e g=>?_)
    .clear t u;exact zAk
    .rw[Ah _ _ _ (AI e _),s f e g]
 ·exact zAZ
theorem w3(x:Bu)(size:Int):BU (KL Tryz.prog cfg) 212 [.agg [nI x.op,nI x.n,.d (.bv (x.kids.map BQ))],nI size] []=.ok (Jc IG (x.ok size)):=by
 refine A7 Tryz.func212 ?_;refine aw ?_;refine Ad (xg x size 1 0 _ _ [0,2] [0,1] [0,4] rfl rfl rfl rfl rfl rfl rfl rfl ?_ ?_ ?_ ?_) (fun c g1 a=>?_)
 .omega
 .omega
 .omega
 .omega
 have e:XI x size 1 (60-0)↔x.ok size=true:=ABt x size;cases b:x.ok size with
 |true=>
  obtain⟨rfl,f⟩:=a.ret (e.2 b);clear a;refine aw ?_;rfl
 |false=>
  obtain rfl:=a.ge (fun h=>by rw[e.1 h]at b;cases b);clear a;refine aw ?_;rfl
def slv(id:Abs.Id)(n:Nat):AV:=if n=0 then .emp else .f8 id 0 n
theorem Bh{id:Abs.Id}{n:Nat}(h:n≠0):slv id n=.f8 id 0 n:=by rw[slv,Co h]
structure Y6(π:List Nat)(l sz mt df:Abs.Id):Prop where
 ul:Id.under π l=false
 us:Id.under π sz=false
 um:Id.under π mt=false
 ud:Id.under π df=false
 ls:Id.is l sz=false
 lm:Id.is l mt=false
 ld:Id.is l df=false
 sl:Id.is sz l=false
 sm:Id.is sz mt=false
 sd:Id.is sz df=false
 ml:Id.is mt l=false
 ms:Id.is mt sz=false
 md:Id.is mt df=false
 dl:Id.is df l=false
 ds:Id.is df sz=false
 dm:Id.is df mt=false
structure J9(h:AD)(p:AX)(l sz mt df:Abs.Id)(st:Bo):Prop where
 box:h.get l=some (.box [.d (.bv (p.free.map Bp)),.d (.bv (p.nodes.map Ba)),.d (.bv (p.defs.map Bw)),nI p.main,slv sz p.nodes.length,slv mt p.nodes.length,slv df p.defs.length])
 co:p.nodes.length≠0→h.get sz=some (.em 1 (st.co.map AR))
 met:p.nodes.length≠0→h.get mt=some (.em 1 (st.met.map C9))
 defs:p.defs.length≠0→h.get df=some (.em 1 (st.defs.map C9))
structure TC(p:AX)(l sz mt df:Abs.Id)(h:AD)(π:List Nat)(r:Option Bo)(o:Ax)(h':AD):Prop where
 ret: ∀st',r=some st'→o=.ret (.ii [])∧J9 h' p l sz mt df st'∧ ∀id',Id.under π id'=false→Id.is sz id'=false→Id.is mt id'=false→Id.is df id'=false→h'.get id'=h.get id'
 ge:r=none→o=.ge IG
variable{l df:Abs.Id}{r:Option Bo}
theorem EW{p:AX}{sz mt:Abs.Id}(b:r=none):TC p l sz mt df h π r (.ge IG) h':=⟨fun st' a=>by{rw[b]at a;cases a},fun _=>rfl⟩
@[go_sem] theorem ADu:cfg.meth 307 "cabotage/scope.kids" =some 236:=rfl
@[go_sem] theorem ADv:cfg.meth 308 "cabotage/scope.kids" =some 237:=rfl
@[go_sem] theorem ADw:cfg.meth 309 "cabotage/scope.kids" =some 238:=rfl
@[go_sem] theorem ADx:cfg.meth 310 "cabotage/scope.kids" =some 239:=rfl
@[go_sem] theorem ADy:cfg.meth 314 "cabotage/scope.kids" =some 240:=rfl
structure qp(p:AX)(l sz mt df:Abs.Id)(h:AD)(π:List Nat)(L:List (Nat×Abs.Obj))(st:Bo)(g:AD):Prop where
 looks:J9 g p l sz mt df st
 node: ∀q∈L,g.get (0::q.1::π)=some q.2
 frame: ∀id',Id.under π id'=false→Id.is sz id'=false→Id.is mt id'=false→Id.is df id'=false→g.get id'=h.get id'
theorem Gh{sz mt:Abs.Id}(h:Y6 π l sz mt df)(n:Nat):Y6 (n::π) l sz mt df:={h with ul:=AI h.ul n,us:=AI h.us n,um:=AI h.um n,ud:=AI h.ud n}
theorem Xd(i j:Nat)(π:List Nat)(h:i≠j):Id.under (i::π) (0::j::π)=false:=Ev fun a=>by
 exact zAi
variable{ρ:List Nat}
theorem NM{p:AX}{sz mt:Abs.Id}{st:Bo}(h:J9 g p l sz mt df st)(b:Y6 ρ l sz mt df):J9 (gc ρ g) p l sz mt df st:=
 ⟨by rw[Ah _ _ _ b.ul];exact h.box,fun a=>by rw[Ah _ _ _ b.us];exact h.co a,fun a=>by rw[Ah _ _ _ b.um];exact h.met a,fun a=>by rw[Ah _ _ _ b.ud];exact h.defs a⟩
variable{L:List (Nat×Abs.Obj)}{j:Nat}{o:Abs.Obj}
theorem Ix{p:AX}{sz mt:Abs.Id}{st:Bo}(a:qp p l sz mt df h π L st g)(c:Y6 π l sz mt df)(n: ∀q∈L,j≠q.1):qp p l sz mt df h π L st (g.put (0::j::π) o):=by
 refine⟨⟨?_,fun b=>?_,fun b=>?_,fun b=>?_⟩,fun q i=>?_,fun r f h2 k m=>?_⟩
 .rw[get_put,AJ c.ul];exact a.looks.box
 .rw[get_put,AJ c.us];exact a.looks.co b
 .rw[get_put,AJ c.um];exact a.looks.met b
 .rw[get_put,AJ c.ud];exact a.looks.defs b
 .have:Id.is (0::j::π) (0::q.1::π)=false:=AF fun e=>n q i zFD;rw[get_put,this];exact a.node q i
 .rw[get_put,AJ f];exact a.frame r f h2 k m
variable{st':Bo}{g':AD}
theorem QZ{p:AX}{sz mt:Abs.Id}{st:Bo}(i:qp p l sz mt df h π L st g)(b:Y6 π l sz mt df)(o: ∀q∈L,j≠q.1)(r:J9 g' p l sz mt df st')(k: ∀a,Id.under (j::π) a=false→Id.is sz a=false→Id.is mt a=false→Id.is df a=false→g'.get a=g.get a):qp p l sz mt df h π L st' (gc (j::π) g'):=by
 refine⟨NM r (Gh b j),fun q m=>?_,fun a c h2 e f=>?_⟩
 .have n:=Xd j q.1 π (o q m);rw[Ah _ _ _ n,k _ n (Ak b.us _ _) (Ak b.um _ _) (Ak b.ud _ _)];exact i.node q m
 .rw[Ah _ _ _ (AI c j),k _ (AI c j) h2 e f];exact i.frame a c h2 e f
theorem Hq{p:AX}{st:Bo}(h:st.fit p)(a:kL st st'):st'.fit p:=⟨a.co.trans h.co,a.met.trans h.met,a.defs.trans h.defs⟩
theorem sY(x:Bu)(size:Int):BU (KL Tryz.prog cfg) 212 [.agg [nI x.op,nI x.n,.d (.bv (x.kids.map BQ))],nI size] []=Cg IG (x.ok size):=by rw[w3,VG]
theorem Py(d:CG):BU (KL Tryz.prog cfg) 213 [.agg [.d (.bv (d.be.map BC)),.d (.bv (d.ac.map Aw)),.d (.bv (d.rules.map BA))]] []=Cg IG d.okG:=by rw[k7,VG]
theorem Pe{p:AX}{k:Nat}{st:Bo}{x:C2}(a:0≤n)(b:st.met[n.toNat]? =some false)(c:p.nodes[n.toNat]? =some x):Bg p (k+1) n size st=if DB p size x=true then match Sk p size x (st.meet n size)with
 |some (l,st2)=>Cp (Bg p k) l st2
 |none=>none
 else none:=by
 rw[Bg,D5 ⟨a,b⟩,c];all_goals rfl
theorem Xf{p:AX}{k:Nat}{st:Bo}{x:C2}(b:0≤n)(c:st.met[n.toNat]? =some false)(e:p.nodes[n.toNat]? =some x)(a:DB p size x=false):Bg p (k+1) n size st=none:=by
 rw[Pe b c e,a,Co AG]
theorem NW(p:AX)(s:p.nodes.length≤60)(n size:Int)(st:Bo)(h:AD)(π:List Nat)(l sz mt df:Abs.Id)(g:st.fit p)(i:Y6 π l sz mt df)(j:J9 h p l sz mt df st)(a:0≤n→n<p.nodes.length→st.met[n.toNat]? =some true):
 ∃o h',KL Tryz.prog cfg (.fn 201) [.ptr l 0,nI n,nI size] h π true none=.ok (o,h')∧TC p l sz mt df h π none o h':=by
 obtain⟨ul,us,I,H,y,x,w,D,F,C,A,B,z,dl,ds,r⟩:=i;obtain⟨q,f,e,c⟩:=j;have f:=AB f;have c:=AB c;have a:=AB a;have t:=g.met;refine BT Tryz.func201 ?_;by_cases k:0≤n
 .by_cases m:n<p.nodes.length
  .have b:p.nodes.length≠0:=AA;have u:n.toNat<p.nodes.length:=AA;have v:=a.out k m;have e:=e b;rw[Bh b,Bh b]at q;refine aw ?_;exact EW rfl
  .refine aw ?_;exact EW rfl
 .refine aw ?_;exact EW rfl
theorem j8(p:AX)(bl:p.nodes.length≤60)(d1:p.defs.length≤12): ∀(k:Nat) (n size:Int) (st:Bo) (h:AD) (π:List Nat) (l sz mt df:Abs.Id),Ew st.met≤k→st.fit p→0≤size→size+70*k≤5000→Y6 π l sz mt df→J9 h p l sz mt df st→
 ∃o h',KL Tryz.prog cfg (.fn 201) [.ptr l 0,nI n,nI size] h π true none=.ok (o,h')∧TC p l sz mt df h π (Bg p k n size st) o h':=by
 intro k;induction k with
 |zero=>
  intro n size st h π l sz mt df c5 B b' c4 bs bv;refine NW p bl n size st h π l sz mt df B bs bv fun bk h2=>?_;obtain⟨t,W⟩:=get_some (l:=st.met) (i:=n.toNat) zFJ;cases t with
  |true=>exact W
  |false=>have:=Fv W;omega
 |succ k J=>
 intro n size st h π l sz mt df c5 B b' c4 bs bv;have v:=AB bs;obtain⟨ul,us,c1,c0,em,el,ej,cs,cx,dm,cp,en,dd,dl,ds,c2⟩:=bs;have N:=AB bv;obtain⟨S,a0,az,b1⟩:=bv;have Y:=AJ ul;have Z:=AJ us;have ac:=AJ c1;have ad:=AJ c0;have a5:=Ak ul;have a6:=Ak us;have a7:=Ak c1;have a1:=Ak c0;by_cases bx:0≤n
 .by_cases c7:n<p.nodes.length
  .have av:p.nodes.length≠0:=AA;have c6:n.toNat<p.nodes.length:=AA;obtain⟨x,P⟩:=get_some c6;obtain⟨t,W⟩:=get_some (l:=st.met) (i:=n.toNat) zFJ;obtain⟨s0,ea⟩:=get_some (l:=st.co) (i:=n.toNat) (by rw[B.co];omega);have az:=az av;have a0:=a0 av;rw[Bh av,Bh av]at S;have J:=AB J;have b1:=AB b1;have d8:=B.co;have d7:=B.met;cases t with
   |true=>
    have e:Bg p (k+1) n size st=none:=by
     rw[Bg,Co];rw[W];simp
    rw[e];exact NW p bl n size st h π l sz mt df B v.out N.out fun _ _=>W
   |false=>
    refine BT Tryz.func201 ?_;have V:=AH.mk (Pe (p:=p) (k:=k) (size:=size) bx W P);have L:=AH.mk (Xf (p:=p) (k:=k) (size:=size) bx W P);obtain⟨C,F,K,R⟩:=x;have a2:AH (∀o o',qp p l sz mt df h π [(46,o')] (st.meet n size) ((((h.put mt (.em 1 ((List.map C9 st.met).set n.toNat [.bool true]))).put sz (.em 1 ((List.map AR st.co).set n.toNat [.int .i64 size]))).put (0::46::π) o).put (0::46::π) o')):=.mk fun o o'=>by
     refine⟨⟨?_,fun _=>?_,fun _=>?_,fun bo=>?_⟩,?_,fun c' bk h2 b2 cc=>?_⟩
     .rw[Bh av,Bh av];simp only[get_put,Y,cs,cp,AM,FD,S]
     .simp only[get_put,Z,is_self,AM,FD,F7,Bo.meet,JP];rfl
     .simp only[get_put,ac,cx,is_self,AM,FD,F7,Bo.meet,JP];rfl
     .simp only[get_put,ad,dm,dd,AM,FD,Bo.meet,b1.out bo]
     .intro q a3;cases Ac.1 a3;simp only[get_put,is_self,F7]
     .simp only[get_put,AJ bk,h2,b2,AM,FD]
    by_cases de:C=4
    .subst de;by_cases e5:F<0
     ·exact zAq
     by_cases e6:(p.defs.length:Int)≤F
     ·exact zAq
     have e7:0≤F:=AA;have e8:F<p.defs.length:=AA;have b3:p.defs.length≠0:=AA;have c9:F.toNat<p.defs.length:=AA;obtain⟨d,bo⟩:=get_some c9;obtain⟨t,cn⟩:=get_some (l:=st.defs) (i:=F.toNat) (by rw[B.defs];omega);have d6:=B.defs;have ek:=b1.out b3;rw[Bh b3]at S;have a':Sk p size ⟨4,F,K,R⟩ (st.meet n size)=if st.defs[F.toNat]? =some false∧d.okG=true then some (DK d (size+d.own) d.rules++(Cw (size+d.own) d.ac++Cq (size+d.own) R),{st.meet n size with defs:=st.defs.set F.toNat true})else none:=by
      rw[Sk,D5 rfl,bo];rfl
     have a':=AB a';have ch:AH (∀o o' b,qp p l sz mt df h π [(131,o'),(46,b)] {st.meet n size with defs:=st.defs.set F.toNat true} (((((((h.put mt (.em 1 ((List.map C9 st.met).set n.toNat [.bool true]))).put sz (.em 1 ((List.map AR st.co).set n.toNat [.int .i64 size]))).put (0::46::π) (.box [nI 0,nI 0,.d7,.d7])).put (0::46::π) b).put df (.em 1 ((List.map C9 st.defs).set F.toNat [.bool true]))).put (0::131::π) o).put (0::131::π) o')):=.mk fun o o' b=>by
      refine⟨⟨?_,fun _=>?_,fun _=>?_,fun bo=>?_⟩,?_,fun c' bk h2 b2 cc=>?_⟩
      .rw[Bh av,Bh av,Bh b3];simp only[get_put,Y,cs,cp,dl,AM,FD,S]
      .simp only[get_put,Z,ds,is_self,AM,FD,F7,Bo.meet,JP];rfl
      .simp only[get_put,ac,cx,c2,is_self,AM,FD,F7,Bo.meet,JP];rfl
      .simp only[get_put,ad,is_self,AM,FD,F7,Bo.meet,JP];rfl
      .simp only[D0,Gc,MP,HE,forall_eq];simp only[go_sem,a1]
      .simp only[get_put,AJ bk,h2,b2,cc,AM,FD]
     by_cases b5:t=false∧d.okG=true
     .obtain⟨rfl,b4⟩:=b5;have ai:=Ug b4;have dn:=ai.be;have dq:=ai.ac;have dr:=ai.rules;have d':=PK ai;have d9:=kA d AA AA;have ai:=AB ai
      (repeat' (first|simp only[go_sem, *,Ih,Ni,Py]|(refine sx ?_ ?_<;>intro ag)|refine sy AA fun x P ar=>?_|simp(disch:=first|assumption|omega) only[AU]))
      all_goals try(exfalso;omega)
      all_goals try(exact EW (L.out zEe))
      rw[Dd]
      (repeat' (first|simp only[go_sem, *,Py]|(refine sx ?_ ?_<;>intro ag)|refine sy AA fun x P ar=>?_|simp(disch:=first|assumption|omega) only[AU]))
      refine An d.rules _ (fun m i a=>⟨[(0,.ptr l 0),(2,nI (size+(d.own:Int))),(6,.ptr (0::46::π) 0),(11,.ptr (0::131::π) 0),(190,.d (.bv (d.rules.map BA))),(191,nI m),(192,nI i)],a.1.1,a.2+144,[]⟩)
       (Inv:=fun i X a=>qp p l sz mt df h π [(131,.box [.d (.bv (d.be.map BC)),.d (.bv (d.ac.map Aw)),.d (.bv (d.rules.map BA))]),(46,.box [nI 4,nI F,.d (.bv (K.map BQ)),.d (.bv (R.map AR))])] a.1.2 a.1.1∧a.1.2.fit p∧Ew a.1.2.met≤k∧AH (Bg p (k+1) n size st=Cp (Bg p k) (DK d (size+d.own) X++(Cw (size+d.own) d.ac++Cq (size+d.own) R)) a.1.2)) (b0:=((_,{st.meet n size with defs:=st.defs.set F.toNat true}),_)) ?_ ⟨ch.out _ _ _,?_,?_,⟨?_⟩⟩ ?_ ?_
      .rfl
      .have:=QX B n size;exact⟨this.co,this.met,by simp[B.defs]⟩
      .have:=Fv W;exact zDP
      .rw[V.out,D5,a'.out,D5 ⟨cn,b4⟩];have d0:((K.length:Int)=0):=Bs;have eb:K=[]:=BI AA;clear Y Z ac ad a5 a6 a7 a1 S az a0 V L J a2 ch ai a';grind [DB,Dh,W8,E0]
      .rintro i r ⟨⟨g,z⟩,c⟩ bi H I ⟨f,u,w,j⟩ T;dsimp only at*;have U:=f.node _ (F9 ..);dsimp only at U;have bc:=PQ ai.out (AS bi);have d3:=lF d r bc;have d4:=L4 bc.2.2 r.eq;have d5:=bc.1;have bc:=AB bc;refine aw ?_;refine Ct (J.out r.node (size+d.own+Cy d r.eq) z _ _ l sz mt df w u AA AA (Gh v.out _) (Ix (Ix f v.out ?_) v.out ?_).looks) (fun b8 g1 A=>?_)
       .exact zAQ
       .exact zAQ
       cases s:Bg p k r.node (size+d.own+Cy d r.eq) z with
       |none=>
        obtain rfl:=A.ge s;clear A;refine aw ?_;refine EW (j.out.trans ?_);simp only[DK,CO,DL,Cp,s]
       |some Q=>
        obtain⟨rfl,N,D⟩:=A.ret Q s;have D:=AB D;clear A;refine aw ?_;have M:=C6 p _ _ _ _ _ s;refine T.out ((_,Q),_) ⟨QZ (Ix (Ix f v.out ?_) v.out ?_) v.out ?_ N D.out,Hq u M,IP M.less w,⟨?_⟩⟩
        .exact zAQ
        .exact zAQ
        .exact zAQ
        .rw[j.out];simp only[DK,CO,DL,Cp,s]
      .rintro i ⟨⟨g,z⟩,c⟩ H I ⟨f,u,w,j⟩;dsimp only at*;have U:=f.node _ (F9 ..);have a4:=f.node _ (F0 _ (F9 ..));dsimp only at U a4;refine aw ?_;refine An d.ac _ (fun m i a=>⟨[(0,.ptr l 0),(2,nI (size+(d.own:Int))),(6,.ptr (0::46::π) 0),(207,.d (.bv (d.ac.map Aw))),(208,nI m),(209,nI i)],a.1.1,a.2+144,[]⟩)
        (Inv:=fun i X a=>qp p l sz mt df h π [(131,.box [.d (.bv (d.be.map BC)),.d (.bv (d.ac.map Aw)),.d (.bv (d.rules.map BA))]),(46,.box [nI 4,nI F,.d (.bv (K.map BQ)),.d (.bv (R.map AR))])] a.1.2 a.1.1∧a.1.2.fit p∧Ew a.1.2.met≤k∧AH (Bg p (k+1) n size st=Cp (Bg p k) (Cw (size+d.own) X++Cq (size+d.own) R) a.1.2)) (b0:=((g,z),_)) rfl ⟨f,u,w,⟨?_⟩⟩ ?_ ?_
       .exact j.out
       .clear f u w j U a4 i H I g z c;rintro i r ⟨⟨g,z⟩,c⟩ bi H I ⟨f,u,w,j⟩ T;dsimp only at*;refine aw ?_;refine Ad (J.out r.node (size+d.own) z _ _ l sz mt df w u AA AA (Gh v.out _) (Ix (Ix f v.out ?_) v.out ?_).looks) (fun b8 g1 A=>?_)
        .exact zAQ
        .exact zAQ
        cases s:Bg p k r.node (size+d.own) z with
        |none=>
         obtain rfl:=A.ge s;clear A;refine aw ?_;refine EW (j.out.trans ?_);simp only[Cw,CO,DL,Cp,s]
        |some Q=>
         obtain⟨rfl,N,D⟩:=A.ret Q s;have D:=AB D;clear A;refine aw ?_;have M:=C6 p _ _ _ _ _ s;refine T.out ((_,Q),_) ⟨QZ (Ix (Ix f v.out ?_) v.out ?_) v.out ?_ N D.out,Hq u M,IP M.less w,⟨?_⟩⟩
         .exact zAQ
         .exact zAQ
         .exact zAQ
         .rw[j.out];simp only[Cw,CO,DL,Cp,s]
       .clear f u w j U a4 i H I g z c;rintro i ⟨⟨g,z⟩,c⟩ H I ⟨f,u,w,j⟩;dsimp only at*;have U:=f.node _ (F9 ..);have a4:=f.node _ (F0 _ (F9 ..));dsimp only at U a4;refine aw ?_;refine An R _ (fun m i a=>⟨[(0,.ptr l 0),(2,nI (size+(d.own:Int))),(220,.d (.bv (R.map AR))),(221,nI m),(222,nI i)],a.1.1,a.2+144,[]⟩)
         (Inv:=fun i X a=>qp p l sz mt df h π [(131,.box [.d (.bv (d.be.map BC)),.d (.bv (d.ac.map Aw)),.d (.bv (d.rules.map BA))]),(46,.box [nI 4,nI F,.d (.bv (K.map BQ)),.d (.bv (R.map AR))])] a.1.2 a.1.1∧a.1.2.fit p∧Ew a.1.2.met≤k∧AH (Bg p (k+1) n size st=Cp (Bg p k) (Cq (size+d.own) X) a.1.2)) (b0:=((g,z),_)) ?_ ⟨f,u,w,⟨?_⟩⟩ ?_ ?_
        .omega
        .exact j.out
        .clear f u w j U a4 i H I g z c;rintro i y ⟨⟨g,z⟩,c⟩ bi H I ⟨f,u,w,j⟩ T;dsimp only at*;refine aw ?_;refine Ad (J.out y (size+d.own) z _ _ l sz mt df w u AA AA (Gh v.out _) f.looks) (fun b8 g1 A=>?_);cases s:Bg p k y (size+d.own) z with
         |none=>
          obtain rfl:=A.ge s;clear A;refine aw ?_;refine EW (j.out.trans ?_);simp only[Cq,CO,DL,Cp,s]
         |some Q=>
          obtain⟨rfl,N,D⟩:=A.ret Q s;have D:=AB D;clear A;refine aw ?_;have M:=C6 p _ _ _ _ _ s;refine T.out ((_,Q),_) ⟨QZ f v.out ?_ N D.out,Hq u M,IP M.less w,⟨?_⟩⟩
          .exact zAQ
          .rw[j.out];simp only[Cq,CO,DL,Cp,s]
        .clear f u w j U a4 i H I g z c;rintro i ⟨⟨g,z⟩,c⟩ H I ⟨f,u,w,j⟩;dsimp only at*;refine aw ?_;refine⟨fun st' O=>?_,fun O=>?_⟩
         .rw[j.out]at O;cases O;exact⟨rfl,f.looks,f.frame⟩
         .rw[j.out]at O;cases O
     .have b7:AH (Bg p (k+1) n size st=none):=by
       refine⟨?_⟩;rw[V.out,a'.out,cn];split
       .rw[Co (by simpa using b5)]
       .rfl
      cases t
      .have b4:d.okG=false:=by simpa using b5
       (repeat' (first|simp only[go_sem, *,Ih,Ni,Py]|(refine sx ?_ ?_<;>intro ag)|refine sy AA fun x P ar=>?_|simp(disch:=first|assumption|omega) only[AU]))
       all_goals try(exfalso;omega)
       all_goals try(exact EW b7.out)
       rw[Dd]
       (repeat' (first|simp only[go_sem, *,Py]|(refine sx ?_ ?_<;>intro ag)|refine sy AA fun x P ar=>?_|simp(disch:=first|assumption|omega) only[AU]))
       try exact EW b7.out
      ·(repeat' (first|simp only[go_sem, *,Ih,Ni]|(refine sx ?_ ?_<;>intro ag)|refine sy AA fun x P ar=>?_|simp(disch:=first|assumption|omega) only[AU]))
       all_goals try(exfalso;omega)
       all_goals (exact EW b7.out)
    have c8:C=1∨C=7∨C=3∨(C=2∧3<(K.length:Int))∨(C=2∧ ¬3<(K.length:Int))∨C=5∨C=6∨C=8∨(¬C=1∧ ¬C=7∧ ¬C=3∧ ¬C=2∧ ¬C=5∧ ¬C=6∧ ¬C=8):=AA;rcases c8 with rfl|rfl|rfl|⟨rfl,c3⟩|⟨rfl,c3⟩|rfl|rfl|rfl|⟨es,ex,e0,e1,e2,e3,e4⟩;all_goals ((repeat' (first|simp only[go_sem, *,Ih,Ni]|(refine sx ?_ ?_<;>intro ag)|refine sy AA fun x P ar=>?_|simp(disch:=first|assumption|omega) only[AU])))
    all_goals try(exfalso;omega)
    all_goals try(exact EW (L.out zEe))
    all_goals
     refine An K _ (fun m i a=>⟨[(0,.ptr l 0),(2,nI size),(6,.ptr (0::46::π) 0),(154,.d (.bv (K.map BQ))),(155,nI m),(156,nI i)],a.1,a.2+60,[]⟩)
      (Inv:=fun i X a=>qp p l sz mt df h π _ (st.meet n size) a.1∧AH (K.all (Bu.ok size)=X.all (Bu.ok size))) (b0:=(_,_)) ?_ ⟨a2.out _ _,⟨rfl⟩⟩ ?_ ?_
     .omega
     .rintro i y ⟨g,c⟩ bi H I ⟨f,be⟩ T;dsimp only at*;try(exfalso;omega)
      all_goals ((repeat' (first|simp only[go_sem, *,sY]|(refine sx ?_ ?_<;>intro ag)|refine sy AA fun x P ar=>?_|simp(disch:=first|assumption|omega) only[AU])))
      all_goals first
      |exact EW (L.out (by simp only[DB,be.out,D9, *,DO,Gt]))
      |(refine T.out (_,_) ⟨Ix (Ix f v.out ?_) v.out ?_,⟨?_⟩⟩
        .intro q a3;cases Ac.1 a3;dsimp only;omega
        .intro q a3;cases Ac.1 a3;dsimp only;omega
        .rw[be.out,D9];simp only[*,FN])
     .rintro i ⟨g,c⟩ H I ⟨f,be⟩;dsimp only at*;have cl:=f.node _ (F9 ..);dsimp only at cl;refine aw ?_;refine An R _ (fun m i a=>⟨[(0,.ptr l 0),(2,nI size),(220,.d (.bv (R.map AR))),(221,nI m),(222,nI i)],a.1.1,a.2+60,[]⟩)
       (Inv:=fun i X a=>qp p l sz mt df h π _ a.1.2 a.1.1∧a.1.2.fit p∧Ew a.1.2.met≤k∧AH (Bg p (k+1) n size st=Cp (Bg p k) (Cq size X) a.1.2)) (b0:=((_,st.meet n size),_)) ?_ ⟨f,QX B _ _,?_,⟨?_⟩⟩ ?_ ?_
      .omega
      .have:=Fv W;exact zDP
      .rw[V.out,D5,Sk]
       .rfl
       .have d2:K.all (Bu.ok size)=true:=by rw[be.out];rfl
        clear Y Z ac ad a5 a6 a7 a1 S az a0 V L J a2 f be cl;grind [DB,Dh,W8,E0]
      .rintro i y ⟨⟨g,z⟩,c⟩ bi H I ⟨f,u,w,j⟩ T;dsimp only at*;try(exfalso;omega)
       all_goals (refine aw ?_)
       all_goals
       refine Ad (J.out y size z g _ l sz mt df w u b' AA (Gh v.out _) f.looks) (fun b8 g1 A=>?_);cases s:Bg p k y size z with
       |none=>
        obtain rfl:=A.ge s;clear A;refine aw ?_;refine EW (j.out.trans ?_);simp only[Cq,CO,Cp,s]
       |some Q=>
        obtain⟨rfl,N,D⟩:=A.ret Q s;have D:=AB D;clear A;refine aw ?_;have M:=C6 p _ _ _ _ _ s;refine T.out ((_,Q),_) ⟨QZ f v.out ?_ N D.out,Hq u M,IP M.less w,⟨?_⟩⟩
        .intro q a3;cases Ac.1 a3;dsimp only;omega
        .rw[j.out];simp only[Cq,CO,Cp,s]
      .rintro i ⟨⟨g,z⟩,c⟩ H I ⟨f,u,w,j⟩;dsimp only at*;refine aw ?_;refine⟨fun st' O=>?_,fun O=>?_⟩
       .rw[j.out]at O;cases O;exact⟨rfl,f.looks,f.frame⟩
       .rw[j.out]at O;cases O
  .have e:Bg p (k+1) n size st=none:=by
    rw[Bg];split
    .rename_i b6;have:=AL b6.2;rw[B.met]at this;omega
    .rfl
   rw[e];exact NW p bl n size st h π l sz mt df B v.out N.out fun _ h=>absurd h c7
 .have e:Bg p (k+1) n size st=none:=by
   rw[Bg,Co fun b6=>bx b6.1]
  rw[e];exact NW p bl n size st h π l sz mt df B v.out N.out fun h=>absurd h bx
def VW(x:Bool):List Bool→Int→Int
 |[],_=> -1
 |y::l,i=>if (x==y)=true then i else VW x l (i+1)
theorem bH(v:Bool): ∀(l:List Bool) (i:Int),0≤i→(0≤VW v l i↔v∈l)
 |[],i,h=>by simp[VW]
 |y::l,i,h=>by
  rw[VW];split
  .rename_i e;have:v=y:=by simpa using e
   simp[this,h]
  .rename_i e;have: ¬v=y:=by simpa using e
   rw[bH v l (i+1) AA];simp[this]
@[go_sem] theorem ACV(l:List Bool)(v:Bool)(h:l.length≤1000000):BU (KL Tryz.prog cfg) 216 [.d (.bv (l.map C9)),.d (.bool v)] []=.ok (.ret (nI (VW v l 0)),[]):=by
  refine A7 Tryz.func216 ?_;refine aw ?_;refine Aj l (S:=fun i (n:Unit)=>⟨[(0,.d (.bv (l.map C9))),(1,.d (.bool v)),(7,nI l.length),(8,nI i)],[],0,[]⟩) (Inv:=fun i f _=>AH (VW v l 0=VW v f i)) (b0:=()) ⟨rfl⟩ ?_ ?_
  .rintro i y ⟨⟩ m c e a b
   (repeat' (first|simp only[go_sem, *]|(refine sx ?_ ?_<;>intro g)|refine sy AA fun x k j=>?_|simp(disch:=first|assumption|omega) only[AU]))
   .rw[a.out,VW,D5 Bs]
   .refine b.out () ⟨?_⟩;rw[a.out,VW,Co zEl];rfl
  .rintro i ⟨⟩ c e a;refine aw ?_;rw[a.out,VW]
@[go_sem] theorem L8(l:List Bool)(v:Bool)(a:l.length≤1000000):BU (KL Tryz.prog cfg) 202 [.d (.bv (l.map C9)),.d (.bool v)] []=.ok (.ret (.d (.bool (decide (v∈l)))),[]):=by
  have h:=bH v l 0 AA;refine A7 Tryz.func202 ?_;exact au
theorem FL(g:G)(id:Abs.Id)(n:Nat)(h:0<n)(a:n≤1073741824):HF g id n {kind:=TK.int,size:=1,agg:=false,str:=false,zero:=[nI 0],flds:=[],elem:=0,key:=0,mix:=false}=some ⟨.f8 (1::id) 0 n,[(1::id,.em 1 ((List.replicate n (0:Int)).map AR))]⟩:=by
 have e:(List.replicate n (0:Int)).map AR=List.replicate n [.int .i64 0]:=by rw[Ol];rfl
 rw[e];exact RP (zs:=[.int .i64 0]) h zEs rfl rfl AK rfl
theorem HY(g:G)(id:Abs.Id)(n:Nat)(h:0<n)(a:n≤1073741824):HF g id n {kind:=TK.bool,size:=1,agg:=false,str:=false,zero:=[.d (.bool false)],flds:=[],elem:=0,key:=0,mix:=false}=some ⟨.f8 (1::id) 0 n,[(1::id,.em 1 ((List.replicate n false).map C9))]⟩:=by
 have e:(List.replicate n false).map C9=List.replicate n [.bool false]:=by rw[Ol];rfl
 rw[e];exact RP (zs:=[.bool false]) h zEs rfl rfl AK rfl
theorem DM(i t j:Nat)(π:List Nat)(h:i≠j):Id.under (i::π) (t::j::π)=false:=Ev fun a=>by
 exact zAi
theorem Jn(l:List Bool):l.all id=true↔ ¬false∈l:=by
 induction l with
 |nil=>simp
 |cons b l a=>cases b<;>simp
theorem QT{p:AX}{st:Bo}(b:p.small=true)(a:MC p.free=true)(c:Bg p (p.nodes.length+1) p.main p.free.length (Bo.init p)=some st):looks p=if (¬false∈st.met)∧(¬false∈st.defs)then some st else none:=by
 unfold looks;rw[D5 ⟨b,a⟩,c];simp only[Jn]
theorem Jb{id:Abs.Id}{n:Nat}(h:n=0):slv id n=.emp:=by rw[slv,D5 h]
@[go_sem] theorem xE(v:Bool):BU (KL Tryz.prog cfg) 202 [.d (.bv []),.d (.bool v)] []=.ok (.ret (.d (.bool false)),[]):=by
  have:=L8 [] v AG;simpa using this
structure ql(p:AX)(π:List Nat)(r:Ax×AD):Prop where
 ge:looks p=none→r=(.ge IG,[])
 ret: ∀st,looks p=some st→ ∃h,r=(.ret (.ptr (0::16::π) 0),h)∧J9 h p (0::16::π) (1::6::π) (1::10::π) (1::14::π) st∧ ∀id',Id.under π id'=false→h.get id'=none
theorem zK(p:AX)(P: ∀s∈p.free,s.size≤maxLen)(k:Nat)(ρ:List Nat): ∃r:Ax×AD,BU (KL Tryz.prog cfg) 190 [.agg [.d (.bv (p.free.map Bp)),.d (.bv (p.nodes.map Ba)),.d (.bv (p.defs.map Bw)),nI p.main]] (k::ρ)=.ok r∧ql p (k::ρ) r:=by
 have P:=AB P;by_cases u:p.small=true
 .refine LK Tryz.func190 ?_;have Y:=AB u;simp only[AX.small,AP,Ap]at u;obtain⟨ag,ai,ar⟩:=u;have ag:(p.free.length:Int)≤12:=AA;have ai:(p.nodes.length:Int)≤60:=AA;have ar:(p.defs.length:Int)≤12:=AA;refine aw ?_;refine An p.free _ (S:=fun m i (bi:Unit)=>⟨[(1,.ptr (0::0::k::ρ) 0),(24,.d (.bv (p.free.map Bp))),(25,nI m),(26,nI i)],[(0::0::k::ρ,.box [.d (.bv (p.free.map Bp)),.d (.bv (p.nodes.map Ba)),.d (.bv (p.defs.map Bw)),nI p.main])],1,[]⟩)
   (Inv:=fun i a5 _=>AH (MC p.free=Jg (if i=0 then none else p.free[i-1]?) a5)) (b0:=()) rfl ⟨rfl⟩ ?_ ?_
  .rintro i y ⟨⟩ Z a1 a2 q W;have a3:=P.out y (AS Z);have bc:=zV y a3;have N:AH (MC p.free=false→looks p=none):=.mk fun az=>by
    rw[looks,Co (by rw[az];simp)]
   rcases i with _|j
   .rw[D5 rfl]at q;have a':(0:Int)<p.free.length:=AA
    (repeat' (first|simp only[go_sem, *]|(refine sx ?_ ?_<;>intro D)|refine sy AA fun x J H=>?_|simp(disch:=first|assumption|omega) only[AU]))
    all_goals first
    |(exact⟨fun _=>rfl,fun st a=>by rw[N.out (by rw[q.out,Jg];simp only[*,DO])]at a;cases a⟩)
    |(refine W.out () ⟨?_⟩
      rw[q.out,Jg,Co AA];simp only[*,FN];try rfl)
   .obtain⟨b,av⟩:=get_some (l:=p.free) (i:=j) AA;rw[Co AA,RC,av]at q;have w:IntKind.i64.wrap (((j+1:Nat):Int)-1)=(j:Int):=by rw[wrap_id AA AA];omega
    have bk: ¬((j+1:Nat):Int)=0:=AA
    (repeat' (first|simp only[go_sem, *]|(refine sx ?_ ?_<;>intro D)|refine sy AA fun x J H=>?_|simp(disch:=first|assumption|omega) only[AU]))
    .refine W.out () ⟨?_⟩;rw[q.out,Jg,Co AA,RC,Z];simp only[dI, *,FN]
    .exact⟨fun _=>rfl,fun st a=>by rw[N.out (by rw[q.out,Jg];simp only[dI, *,DO,Gt])]at a;cases a⟩
    .exact⟨fun _=>rfl,fun st a=>by rw[N.out (by rw[q.out,Jg];simp only[*,DO])]at a;cases a⟩
  .rintro i ⟨⟩ a1 a2 q;have X:AH (MC p.free=true):=⟨q.out⟩;clear q;by_cases f:p.nodes.length=0
   .have e:looks p=none:=by
     unfold looks;split
     .have:Bg p (p.nodes.length+1) p.main p.free.length (Bo.init p)=none:=by
       rw[Bg,Co];intro a0;have:=AL a0.2;simp[Bo.init]at this;omega
      rw[this]
     .rfl
    by_cases v:p.defs.length=0;all_goals
     (repeat' (first|simp only[go_sem, *]|(refine sx ?_ ?_<;>intro D)|refine sy AA fun x J H=>?_|simp(disch:=first|assumption|omega) only[AU,FL,HY]))
     refine Ad (NW p AA p.main p.free.length (Bo.init p) _ _ (0::16::k::ρ) (1::6::k::ρ) (1::10::k::ρ) (1::14::k::ρ) ⟨?_,?_,?_⟩ ?_ ⟨?_,fun h=>absurd f h,fun h=>absurd f h,fun _=>?_⟩ ?_) (fun ad g1 g=>?_)
     .simp[Bo.init]
     .simp[Bo.init]
     .simp[Bo.init]
     .exact zAm
     .simp only[slv,f,v,FD,F7];simp only[go_sem]
     .first|(exact absurd v ‹_›)|simp only[go_sem,Bo.init]
     .omega
     obtain rfl:=g.ge rfl;clear g;refine aw ?_;exact⟨fun _=>rfl,fun st a=>by rw[e]at a;cases a⟩
   .by_cases v:p.defs.length=0
    ·(repeat' (first|simp only[go_sem, *]|(refine sx ?_ ?_<;>intro D)|refine sy AA fun x J H=>?_|simp(disch:=first|assumption|omega) only[AU,FL,HY]))
     refine Ad (j8 p AA AA (p.nodes.length+1) p.main p.free.length (Bo.init p) _ _ (0::16::k::ρ) (1::6::k::ρ) (1::10::k::ρ) (1::14::k::ρ) ?_ ⟨?_,?_,?_⟩ ?_ ?_ ?_ ⟨?_,fun _=>?_,fun _=>?_,fun _=>?_⟩) (fun ad g1 g=>?_)
     .exact zBk
     .simp[Bo.init]
     .simp[Bo.init]
     .simp[Bo.init]
     .omega
     .omega
     .exact zAm
     .simp only[slv,f,v,FD,F7];simp only[go_sem]
     .exact zCU
     .exact zCU
     .exact absurd v ‹_›
     cases n:Bg p (p.nodes.length+1) p.main p.free.length (Bo.init p)with
     |none=>
      exact zBg
     |some st=>
      obtain⟨rfl,L,F⟩:=g.ret st n;clear g;have F:=AB F;have c: ∃x,looks p=x:=⟨_,rfl⟩;obtain⟨x,c⟩:=c;have c:=AB c;have C:=NM (ρ:=24::k::ρ) L zEU;have C:=AB C;obtain⟨b1,A,B,M⟩:=L;have A:=A f;have B:=B f;rw[Bh f,Bh f,Jb v]at b1;have K:=C6 p _ _ _ _ _ n;have R:st.met.length=p.nodes.length:=by rw[K.met];simp[Bo.init]
      have ac:st.defs.length=p.defs.length:=by rw[K.defs];simp[Bo.init]
      have o: ∀(t j:Nat),24≠j→(gc (24::k::ρ) g1).get (t::j::k::ρ)=g1.get (t::j::k::ρ):=fun t j O=>Ah _ _ _ (DM _ _ _ _ O);have T:=(o 0 16 AK).trans b1;have U:=(o 1 6 AK).trans A;have V:=(o 1 10 AK).trans B;clear o;have a6:List.take p.nodes.length (List.map C9 st.met)=List.map C9 st.met:=By (by simp[R]);have a7:st.defs=[]:=BI AA
      (repeat' (first|simp only[go_sem, *,Es,T,U,V]|(refine sx ?_ ?_<;>intro D)|refine sy AA fun x J H=>?_|simp(disch:=first|assumption|omega) only[AU,L8]))
      all_goals (have c:=c.out;subst c)
      all_goals (have c:=QT Y.out X.out n)
      all_goals first
      |(refine⟨fun _=>rfl,fun st' a=>?_⟩
        rw[c,Co zEl]at a;cases a)
      |(refine⟨fun a=>?_,fun st' a=>?_⟩
        .rw[c,D5 zEl]at a;cases a
        .rw[c,D5 zEl]at a;cases a;refine⟨_,rfl,C.out,fun Q I=>?_⟩;have z:=AJ I;rw[Ah _ _ _ (AI I _),F.out Q (AI I _) (z _ _) (z _ _) (z _ _)];simp only[go_sem,z,AM])
    ·(repeat' (first|simp only[go_sem, *]|(refine sx ?_ ?_<;>intro D)|refine sy AA fun x J H=>?_|simp(disch:=first|assumption|omega) only[AU,FL,HY]))
     refine Ad (j8 p AA AA (p.nodes.length+1) p.main p.free.length (Bo.init p) _ _ (0::16::k::ρ) (1::6::k::ρ) (1::10::k::ρ) (1::14::k::ρ) ?_ ⟨?_,?_,?_⟩ ?_ ?_ ?_ ⟨?_,fun _=>?_,fun _=>?_,fun _=>?_⟩) (fun ad g1 g=>?_)
     .exact zBk
     .simp[Bo.init]
     .simp[Bo.init]
     .simp[Bo.init]
     .omega
     .omega
     .exact zAm
     .simp only[slv,f,v,FD];simp only[go_sem]
     .exact zCU
     .exact zCU
     .exact zCU
     cases n:Bg p (p.nodes.length+1) p.main p.free.length (Bo.init p)with
     |none=>
      exact zBg
     |some st=>
      obtain⟨rfl,L,F⟩:=g.ret st n;clear g;have F:=AB F;have c: ∃x,looks p=x:=⟨_,rfl⟩;obtain⟨x,c⟩:=c;have c:=AB c;have C:=NM (ρ:=24::k::ρ) L zEU;have C:=AB C;obtain⟨b1,A,B,M⟩:=L;have A:=A f;have B:=B f;have M:=M v;rw[Bh f,Bh f,Bh v]at b1;have K:=C6 p _ _ _ _ _ n;have R:st.met.length=p.nodes.length:=by rw[K.met];simp[Bo.init]
      have ac:st.defs.length=p.defs.length:=by rw[K.defs];simp[Bo.init]
      have o: ∀(t j:Nat),24≠j→(gc (24::k::ρ) g1).get (t::j::k::ρ)=g1.get (t::j::k::ρ):=fun t j O=>Ah _ _ _ (DM _ _ _ _ O);have T:=(o 0 16 AK).trans b1;have U:=(o 1 6 AK).trans A;have V:=(o 1 10 AK).trans B;have a4:=(o 1 14 AK).trans M;clear o;have a6:List.take p.nodes.length (List.map C9 st.met)=List.map C9 st.met:=By (by simp[R]);have be:List.take p.defs.length (List.map C9 st.defs)=List.map C9 st.defs:=By (by simp[ac])
      (repeat' (first|simp only[go_sem, *,Es,T,U,V,a4]|(refine sx ?_ ?_<;>intro D)|refine sy AA fun x J H=>?_|simp(disch:=first|assumption|omega) only[AU,L8]))
      all_goals (have c:=c.out;subst c)
      all_goals (have c:=QT Y.out X.out n)
      all_goals first
      |(refine⟨fun _=>rfl,fun st' a=>?_⟩
        rw[c,Co zEl]at a;cases a)
      |(refine⟨fun a=>?_,fun st' a=>?_⟩
        .rw[c,D5 zEl]at a;cases a
        .rw[c,D5 zEl]at a;cases a;refine⟨_,rfl,C.out,fun Q I=>?_⟩;have z:=AJ I;rw[Ah _ _ _ (AI I _),F.out Q (AI I _) (z _ _) (z _ _) (z _ _)];simp only[go_sem,z,AM])
 .have e:looks p=none:=by
   unfold looks;rw[Co fun h=>u h.1]
  have u: ¬(p.free.length≤12∧p.nodes.length≤60∧p.defs.length≤12):=by
   intro h;apply u;simp only[AX.small,AP,Ap];exact h
  have u:=AB u;refine LK Tryz.func190 ?_
  (repeat' (first|simp only[go_sem, *]|(refine sx ?_ ?_<;>intro D)|refine sy AA fun x J H=>?_|simp(disch:=first|assumption|omega) only[AU]))
  all_goals first
  |exact⟨fun _=>rfl,fun st a=>by rw[e]at a;cases a⟩
  |(have u:=u.out;exfalso;omega)
def Jf(b:Bool):List Ao:=[.int .i64 (if b then 1 else 0)]
theorem sS:Jf true=[.int .i64 1]:=rfl
theorem sR:Jf false=[.int .i64 0]:=rfl
attribute [go_sem] sS sR
def ET(p:AX)(sz ow us:Abs.Id)(bad:Bool):Abs.Obj:=.box [.d (.bv (p.free.map Bp)),.d (.bv (p.nodes.map Ba)),.d (.bv (p.defs.map Bw)),nI p.main,slv sz p.nodes.length,slv ow p.nodes.length,slv us p.defs.length,.d (.bool bad)]
structure Hf(h:AD)(p:AX)(l sz ow us:Abs.Id)(st:Bo)(bad:Bool):Prop where
 box:h.get l=some (ET p sz ow us bad)
 co:bad=false→p.nodes.length≠0→h.get sz=some (.em 1 (st.co.map AR))
 met:bad=false→p.nodes.length≠0→h.get ow=some (.em 1 (st.met.map Jf))
 defs:bad=false→p.defs.length≠0→h.get us=some (.em 1 (st.defs.map Jf))
 ks:p.nodes.length≠0→ ∃A,h.get sz=some (.em 1 A)
 km:p.nodes.length≠0→ ∃A,h.get ow=some (.em 1 A)
 kd:p.defs.length≠0→ ∃A,h.get us=some (.em 1 A)
structure TD(p:AX)(l sz ow us:Abs.Id)(h:AD)(π:List Nat)(r:Option Bo)(o:Ax)(h':AD):Prop where
 ret:o=.ret (.ii [])
 frame: ∀id',Id.under π id'=false→Id.is l id'=false→Id.is sz id'=false→Id.is ow id'=false→Id.is us id'=false→h'.get id'=h.get id'
 yes: ∀st',r=some st'→Hf h' p l sz ow us st' false
 no:r=none→ ∀AO,Hf h' p l sz ow us AO true
structure Y7(p:AX)(l sz ow us:Abs.Id)(h:AD)(π:List Nat)(L:List (Nat×Abs.Obj))(st:Bo)(bad:Bool)(g:AD):Prop where
 looks:Hf g p l sz ow us st bad
 node: ∀q∈L,g.get (0::q.1::π)=some q.2
 frame: ∀id',Id.under π id'=false→Id.is l id'=false→Id.is sz id'=false→Id.is ow id'=false→Id.is us id'=false→g.get id'=h.get id'
variable{b:Bool}
theorem IZ{p:AX}{sz mt:Abs.Id}{st:Bo}(h:Hf g p l sz mt df st b)(c:Y6 ρ l sz mt df):Hf (gc ρ g) p l sz mt df st b:=
 ⟨by rw[Ah _ _ _ c.ul];exact h.box,fun e a=>by rw[Ah _ _ _ c.us];exact h.co e a,fun e a=>by rw[Ah _ _ _ c.um];exact h.met e a,fun e a=>by rw[Ah _ _ _ c.ud];exact h.defs e a,fun a=>by rw[Ah _ _ _ c.us];exact h.ks a,fun a=>by rw[Ah _ _ _ c.um];exact h.km a,fun a=>by rw[Ah _ _ _ c.ud];exact h.kd a⟩
variable{b':Bool}
theorem kD{p:AX}{sz mt:Abs.Id}{st:Bo}(c:Y7 p l sz mt df h π L st b g)(e:Y6 π l sz mt df)(r:o=ET p sz mt df b')(i:b'=false→b=false):Y7 p l sz mt df h π L st b' (g.put l o):=by
 refine⟨⟨?_,fun f a=>?_,fun f a=>?_,fun f a=>?_,fun a=>?_,fun a=>?_,fun a=>?_⟩,fun q s=>?_,fun t k j h2 m n=>?_⟩
 .rw[get_put,is_self,r];rfl
 .rw[get_put,e.ls];exact c.looks.co (i f) a
 .rw[get_put,e.lm];exact c.looks.met (i f) a
 .rw[get_put,e.ld];exact c.looks.defs (i f) a
 .rw[get_put,e.ls];exact c.looks.ks a
 .rw[get_put,e.lm];exact c.looks.km a
 .rw[get_put,e.ld];exact c.looks.kd a
 .rw[get_put,Ak e.ul];exact c.node q s
 .rw[get_put,j];exact c.frame t k j h2 m n
theorem G7{p:AX}{sz mt:Abs.Id}{st:Bo}(m:Y7 p l sz mt df h π L st b g)(c:Y6 π l sz mt df)(s: ∀q∈L,j≠q.1)(t:Hf g' p l sz mt df st' b')(n: ∀a,Id.under (j::π) a=false→Id.is l a=false→Id.is sz a=false→Id.is mt a=false→Id.is df a=false→g'.get a=g.get a):Y7 p l sz mt df h π L st' b' (gc (j::π) g'):=by
 refine⟨IZ t (Gh c j),fun q o=>?_,fun a e f h2 i k=>?_⟩
 .have r:=Xd j q.1 π (s q o);rw[Ah _ _ _ r,n _ r (Ak c.ul _ _) (Ak c.us _ _) (Ak c.um _ _) (Ak c.ud _ _)];exact m.node q o
 .rw[Ah _ _ _ (AI e j),n _ (AI e j) f h2 i k];exact m.frame a e f h2 i k
theorem l4{p:AX}{sz mt:Abs.Id}{st:Bo}(b:Y7 p l sz mt df h π L st false g)(c:Y6 π l sz mt df)(i:Nat):Y7 p l sz mt df h π L {st with defs:=st.defs.set i true} false (g.put df (.em 1 ((st.defs.map Jf).set i [.int .i64 1]))):=by
 refine⟨⟨?_,fun e a=>?_,fun e a=>?_,fun e a=>?_,fun a=>?_,fun a=>?_,fun a=>?_⟩,fun q n=>?_,fun o k j h2 m f=>?_⟩
 .rw[get_put,c.dl];exact b.looks.box
 .rw[get_put,c.ds];exact b.looks.co e a
 .rw[get_put,c.dm];exact b.looks.met e a
 .rw[get_put,is_self,JP];rfl
 .rw[get_put,c.ds];exact b.looks.ks a
 .rw[get_put,c.dm];exact b.looks.km a
 .rw[get_put,is_self];exact⟨_,rfl⟩
 .rw[get_put,Ak c.ud];exact b.node q n
 .rw[get_put,f];exact b.frame o k j h2 m f
theorem Hf.any{p:AX}{sz b us:Abs.Id}{st AO:Bo}(a:Hf h p l sz b us st true):Hf h p l sz b us AO true:=⟨a.box,fun h=>zEW,fun h=>zEW,fun h=>zEW,a.ks,a.km,a.kd⟩
theorem Ga{p:AX}{sz mt:Abs.Id}{st:Bo}(a:Y7 p l sz mt df h π L st b g)(k:Y6 π l sz mt df)(m:o=ET p sz mt df true)(n:r=none):TD p l sz mt df h π r (.ret (.ii [])) (g.put l o):=by
 refine⟨rfl,fun q f c h2 i j=>?_,fun st' e=>?_,fun _ AO=>?_⟩
 .rw[get_put,c];exact a.frame q f c h2 i j
 .rw[n]at e;cases e
 .exact(kD (b':=true) {a with looks:={a.looks with co:=a.looks.co,met:=a.looks.met,defs:=a.looks.defs}} k m AG).looks.any
theorem Gl{p:AX}{sz mt:Abs.Id}{st:Bo}(a:Y7 p l sz mt df h π L st true g)(b:r=none):TD p l sz mt df h π r (.ret (.ii [])) g:=by
 refine⟨rfl,a.frame,fun st' e=>?_,fun _ AO=>a.looks.any⟩;rw[b]at e;cases e
theorem Rp{p:AX}{sz mt:Abs.Id}{st:Bo}(a:Y7 p l sz mt df h π L st false g)(b:r=some st):TD p l sz mt df h π r (.ret (.ii [])) g:=by
 refine⟨rfl,a.frame,fun st' e=>?_,fun e=>?_⟩
 .rw[b]at e;cases e;exact a.looks
 .rw[b]at e;cases e
theorem P4{f:Int→Int→Bo→Option Bo}: ∀{l m:List (Int×Int)} {st:Bo},Cp f (l++m) st=match Cp f l st with|some st'=>Cp f m st'|none=>none
 |[],m,st=>rfl
 |(n,s)::l,m,st=>by
  rw[DL,Cp,Cp];cases f n s st with
  |none=>rfl
  |some a=>exact P4
def ACh(p:AX)(k:Nat):Prop:= ∀(n size:Int) (st:Bo) (h:AD) (π:List Nat) (l sz ow us:Abs.Id),Ew st.met≤k→st.fit p→0≤size→size+70*k≤5000→Y6 π l sz ow us→Hf h p l sz ow us st false→
    ∃o h',KL Tryz.prog cfg (.fn 129) [.ptr l 0,nI n,nI size] h π true none=.ok (o,h')∧TD p l sz ow us h π (Bg p k n size st) o h'
theorem xh(p:AX)(a2:p.nodes.length≤60)(a1:p.defs.length≤12)(k:Nat)(L:ACh p k)(d:CG)(C:Oi d)(size:Int)(st:Bo)(h:AD)(π:List Nat)(l sz B us:Abs.Id)(V:Ew st.met≤k)(U:st.fit p)(P:0≤size)(a3:size+10+70*k≤5000)(K:Y6 π l sz B us)(w:Hf h p l sz B us st false):
 ∃o h',KL Tryz.prog cfg (.fn 170) [.ptr l 0,.agg [.d (.bv (d.be.map BC)),.d (.bv (d.ac.map Aw)),.d (.bv (d.rules.map BA))],nI size] h π true none=.ok (o,h')∧TD p l sz B us h π (Cp (Bg p k) (DK d size d.rules++Cw size d.ac) st) o h':=by
 have j:=AB K;have ad:=C.be;have ag:=C.ac;have ai:=C.rules;replace C:=AB C;replace L:=AB L;have W:=w.box;rw[ET]at W;have ar:=AJ K.ul;have av:=Ak K.ul;clear K;have T:AH (Y7 p l sz B us h π [(0,.box [.d (.bv (d.be.map BC)),.d (.bv (d.ac.map Aw)),.d (.bv (d.rules.map BA))])] st false (h.put (0::0::π) (.box [.d (.bv (d.be.map BC)),.d (.bv (d.ac.map Aw)),.d (.bv (d.rules.map BA))]))):=by
  refine⟨⟨⟨?_,fun _ t=>?_,fun _ t=>?_,fun _ t=>?_,fun t=>?_,fun t=>?_,fun t=>?_⟩,?_,fun a7 Q P h2 az a0=>?_⟩⟩
  .rw[get_put,AJ j.out.ul];exact w.box
  .rw[get_put,AJ j.out.us];exact w.co rfl t
  .rw[get_put,AJ j.out.um];exact w.met rfl t
  .rw[get_put,AJ j.out.ud];exact w.defs rfl t
  .rw[get_put,AJ j.out.us];exact w.ks t
  .rw[get_put,AJ j.out.um];exact w.km t
  .rw[get_put,AJ j.out.ud];exact w.kd t
  .intro q Y;cases Ac.1 Y;simp only[get_put,is_self,F7]
  .simp only[get_put,AJ Q,AM,FD]
 replace w:=AB w;refine BT Tryz.func170 ?_;refine aw ?_;refine Aj d.rules (S:=fun i a=>⟨[(0,.ptr l 0),(2,nI size),(4,.ptr (0::0::π) 0),(6,nI i)],a.1.1,a.2+2,[]⟩)
  (Inv:=fun i M a=> ∃b,Y7 p l sz B us h π [(0,.box [.d (.bv (d.be.map BC)),.d (.bv (d.ac.map Aw)),.d (.bv (d.rules.map BA))])] a.1.2 b a.1.1∧a.1.2.fit p∧Ew a.1.2.met≤k∧AH (b=false→Cp (Bg p k) (DK d size d.rules++Cw size d.ac) st=Cp (Bg p k) (DK d size M++Cw size d.ac) a.1.2)∧AH (b=true→Cp (Bg p k) (DK d size d.rules++Cw size d.ac) st=none)) (b0:=((_,st),_)) ?_ ?_ ?_
 .exact⟨false,T.out,U,V,⟨fun _=>rfl⟩,⟨fun h=>zEW⟩⟩
 .rintro i r ⟨⟨g,s⟩,c⟩ O H I ⟨b,e,m,n,u,y⟩ D;dsimp only at*;have z:=e.node _ (F9 ..);have A:=e.looks.box;rw[ET]at A;dsimp only at z;cases b
  .have J:=PQ C.out (AS O);have a4:=zT d r J;have a5:=L4 J.2.2 r.eq;have a6:=J.1;replace J:=AB J;refine aw ?_;refine Ct (L.out r.node (size+Cy d r.eq) s _ _ l sz B us n m AA AA (Gh j.out _) e.looks) (fun ac g1 f=>?_);obtain rfl:=f.ret;replace f:=AB f;refine aw ?_;cases v:Bg p k r.node (size+Cy d r.eq) s with
   |none=>
    refine D.out ((_,s),_) ⟨true,G7 e j.out ?_ (f.out.no v _) f.out.frame,m,n,⟨fun h=>zEW⟩,⟨fun _=>?_⟩⟩
    .exact zAQ
    .rw[u.out rfl];simp only[DK,CO,DL,Cp,v]
   |some N=>
    have F:=C6 p _ _ _ _ _ v;refine D.out ((_,N),_) ⟨false,G7 e j.out ?_ (f.out.yes _ v) f.out.frame,Hq m F,IP F.less n,⟨fun _=>?_⟩,⟨fun h=>zEW⟩⟩
    .exact zAQ
    .rw[u.out rfl];simp only[DK,CO,DL,Cp,v]
  .exact zA9
 .rintro i ⟨⟨g,s⟩,c⟩ H I ⟨b,e,m,n,u,y⟩;dsimp only at*;have z:=e.node _ (F9 ..);have A:=e.looks.box;rw[ET]at A;dsimp only at z;cases b
  .refine aw ?_;refine Aj d.ac (S:=fun i a=>⟨[(0,.ptr l 0),(2,nI size),(4,.ptr (0::0::π) 0),(7,nI i)],a.1.1,a.2+2,[]⟩)
    (Inv:=fun i M a=> ∃b,Y7 p l sz B us h π [(0,.box [.d (.bv (d.be.map BC)),.d (.bv (d.ac.map Aw)),.d (.bv (d.rules.map BA))])] a.1.2 b a.1.1∧a.1.2.fit p∧Ew a.1.2.met≤k∧AH (b=false→Cp (Bg p k) (DK d size d.rules++Cw size d.ac) st=Cp (Bg p k) (Cw size M) a.1.2)∧AH (b=true→Cp (Bg p k) (DK d size d.rules++Cw size d.ac) st=none)) (b0:=((_,s),_)) ?_ ?_ ?_
   .exact⟨false,e,m,n,⟨fun _=>u.out rfl⟩,⟨fun h=>zEW⟩⟩
   .clear e z A H I m n u y g c i s;rintro i r ⟨⟨g,s⟩,c⟩ O H I ⟨b,e,m,n,u,y⟩ D;dsimp only at*;have z:=e.node _ (F9 ..);have A:=e.looks.box;rw[ET]at A;dsimp only at z;cases b
    .refine aw ?_;refine Ad (L.out r.node size s _ _ l sz B us n m AA AA (Gh j.out _) e.looks) (fun ac g1 f=>?_);obtain rfl:=f.ret;replace f:=AB f;refine aw ?_;cases v:Bg p k r.node size s with
     |none=>
      refine D.out ((_,s),_) ⟨true,G7 e j.out ?_ (f.out.no v _) f.out.frame,m,n,⟨fun h=>zEW⟩,⟨fun _=>?_⟩⟩
      .exact zAQ
      .rw[u.out rfl];simp only[Cw,CO,DL,Cp,v]
     |some N=>
      have F:=C6 p _ _ _ _ _ v;refine D.out ((_,N),_) ⟨false,G7 e j.out ?_ (f.out.yes _ v) f.out.frame,Hq m F,IP F.less n,⟨fun _=>?_⟩,⟨fun h=>zEW⟩⟩
      .exact zAQ
      .rw[u.out rfl];simp only[Cw,CO,DL,Cp,v]
    .refine aw ?_;exact Gl e (y.out rfl)
   .clear e z A H I m n u y g c i s;rintro i ⟨⟨g,s⟩,c⟩ H I ⟨b,e,m,n,u,y⟩;dsimp only at*;have z:=e.node _ (F9 ..);have A:=e.looks.box;rw[ET]at A;dsimp only at z;cases b
    .refine aw ?_;exact Rp e (u.out rfl)
    .refine aw ?_;exact Gl e (y.out rfl)
  .exact zA9
theorem J4(p:AX)(t:p.nodes.length≤60)(n size:Int)(st:Bo)(h:AD)(π:List Nat)(l sz a us:Abs.Id)(r:st.fit p)(j:Y6 π l sz a us)(e:Hf h p l sz a us st false)(g:0≤n→n<p.nodes.length→st.met[n.toNat]? =some true):
 ∃o h',KL Tryz.prog cfg (.fn 129) [.ptr l 0,nI n,nI size] h π true none=.ok (o,h')∧TD p l sz a us h π none o h':=by
 have c:Y7 p l sz a us h π [] st false h:=⟨e,AG,fun _ _ _ _ _ _=>rfl⟩;have k: ∀b,ET p sz a us b=.box [.d (.bv (p.free.map Bp)),.d (.bv (p.nodes.map Ba)),.d (.bv (p.defs.map Bw)),nI p.main,slv sz p.nodes.length,slv a p.nodes.length,slv us p.defs.length,.d (.bool b)]:=fun b=>rfl;have m:=e.box;rw[ET]at m;have q:=e.met rfl;have s:=AJ j.ul;replace e:=AB e;replace g:=AB g;replace c:=AB c;have i:=AB j;have u:=r.met;by_cases w:n<0
 .exact zDT
 .by_cases y:(p.nodes.length:Int)≤n
  .exact zDT
  .have f:p.nodes.length≠0:=AA;have x:0≤n:=AA;have v:n.toNat<p.nodes.length:=AA;have z:=g.out AA AA;have q:=q f;rw[Bh f,Bh f]at m;have k:AH (Abs.Obj.box [.d (.bv (p.free.map Bp)),.d (.bv (p.nodes.map Ba)),.d (.bv (p.defs.map Bw)),nI p.main,.f8 sz 0 p.nodes.length,.f8 a 0 p.nodes.length,slv us p.defs.length,.d (.bool true)]=ET p sz a us true):=⟨by rw[ET,Bh f,Bh f]⟩;refine BT Tryz.func129 ?_;refine aw ?_;exact Ga c.out i.out k.out rfl
theorem bt(p:AX)(bo:p.nodes.length≤60)(dn:p.defs.length≤12)(d0: ∀d∈p.defs,d.okG=true): ∀(k:Nat) (n size:Int) (st:Bo) (h:AD) (π:List Nat) (l sz u us:Abs.Id),Ew st.met≤k→st.fit p→0≤size→size+70*k≤5000→Y6 π l sz u us→Hf h p l sz u us st false→
 ∃o h',KL Tryz.prog cfg (.fn 129) [.ptr l 0,nI n,nI size] h π true none=.ok (o,h')∧TD p l sz u us h π (Bg p k n size st) o h':=by
 intro k;induction k with
 |zero=>
  intro n size st h π l sz u us d2 B ch dq b6 b7;refine J4 p bo n size st h π l sz u us B b6 b7 fun a5 h2=>?_;obtain⟨t,ai⟩:=get_some (l:=st.met) (i:=n.toNat) zFJ;cases t with
  |true=>exact ai
  |false=>have:=Fv ai;omega
 |succ k F=>
 intro n size st h π l sz u us d2 B ch dq b6 b7;have r:=AB b6;obtain⟨ul,df,de,dd,fi,fd,e8,d8,c',c9,d6,fl,c6,dl,ds,eb⟩:=b6;have cp:=AB b7;obtain⟨J,T,Q,b3,_,_,_⟩:=b7;have U:=AJ ul;have K:=AJ df;have M:=AJ de;have N:=AJ dd;have X:=Ak ul;have Y:=Ak df;have Z:=Ak de;have ac:=Ak dd;by_cases e0:n<0
 .have e:Bg p (k+1) n size st=none:=by
   rw[Bg,Co fun c0=>AA]
  rw[e];exact J4 p bo n size st h π l sz u us B r.out cp.out fun h=>AA
 .by_cases e1:(p.nodes.length:Int)≤n
  .have e:Bg p (k+1) n size st=none:=by
    rw[Bg];split
    .rename_i c0;have:=AL c0.2;rw[B.met]at this;omega
    .rfl
   rw[e];exact J4 p bo n size st h π l sz u us B r.out cp.out fun _ h=>AA
  .have a3:p.nodes.length≠0:=AA;have c2:0≤n:=AA;have e2:n<p.nodes.length:=AA;have d3:n.toNat<p.nodes.length:=AA;obtain⟨x,a4⟩:=get_some d3;obtain⟨t,ai⟩:=get_some (l:=st.met) (i:=n.toNat) zFJ;obtain⟨s0,e5⟩:=get_some (l:=st.co) (i:=n.toNat) (by rw[B.co];omega);have Q:=Q rfl a3;have T:=T rfl a3;rw[ET,Bh a3,Bh a3]at J;replace F:=AB F;replace b3:=AB b3;have es:=B.co;have en:=B.met;cases t with
   |true=>
    have e:Bg p (k+1) n size st=none:=by
     rw[Bg,Co];rw[ai];simp
    rw[e];exact J4 p bo n size st h π l sz u us B r.out cp.out fun _ _=>ai
   |false=>
    refine BT Tryz.func129 ?_;have I:=AH.mk (Pe (p:=p) (k:=k) (size:=size) c2 ai a4);have A:=AH.mk (Xf (p:=p) (k:=k) (size:=size) c2 ai a4);obtain⟨D,z,a0,a1⟩:=x;have s:AH (∀b,Abs.Obj.box [.d (.bv (p.free.map Bp)),.d (.bv (p.nodes.map Ba)),.d (.bv (p.defs.map Bw)),nI p.main,.f8 sz 0 p.nodes.length,.f8 u 0 p.nodes.length,slv us p.defs.length,.d (.bool b)]=ET p sz u us b):=.mk fun b=>by
     rw[ET,Bh a3,Bh a3]
    have w:AH (∀o o',Y7 p l sz u us h π [(48,o')] (st.meet n size) false ((((h.put u (.em 1 ((List.map Jf st.met).set n.toNat [.int .i64 1]))).put sz (.em 1 ((List.map AR st.co).set n.toNat [.int .i64 size]))).put (0::48::π) o).put (0::48::π) o')):=.mk fun o o'=>by
     refine⟨⟨?_,fun _ _=>?_,fun _ _=>?_,fun _ bk=>?_,fun _=>?_,fun _=>?_,fun bk=>?_⟩,?_,fun e7 a5 ch h2 dm el=>?_⟩
     .rw[←s.out];simp only[get_put,U,d8,d6,AM,FD,J]
     .simp only[get_put,K,is_self,AM,FD,F7,Bo.meet,JP];rfl
     .simp only[get_put,M,c',is_self,AM,FD,F7,Bo.meet,JP];rfl
     .simp only[get_put,N,c9,c6,AM,FD,Bo.meet,b3.out rfl bk]
     .exact⟨_,by simp only[get_put,K,is_self,AM,FD,F7];rfl⟩
     .exact⟨_,by simp only[get_put,M,c',is_self,AM,FD,F7];rfl⟩
     .exact⟨_,by simp only[get_put,N,c9,c6,AM,FD,b3.out rfl bk];rfl⟩
     .intro q cs;cases Ac.1 cs;simp only[get_put,is_self,F7]
     .simp only[get_put,AJ a5,h2,dm,AM,FD]
    by_cases d7:D=4
    .subst d7;have ex: ∀{P:Prop},P→AH P:=fun h=>⟨h⟩;by_cases f3:z<0
     ·exact zAd
     by_cases f4:(p.defs.length:Int)≤z
     ·exact zAd
     have f5:0≤z:=AA;have f6:z<p.defs.length:=AA;have cl:p.defs.length≠0:=AA;have d5:z.toNat<p.defs.length:=AA;obtain⟨d,bk⟩:=get_some d5;obtain⟨t,c4⟩:=get_some (l:=st.defs) (i:=z.toNat) (by rw[B.defs];omega);have em:=B.defs;have e':=b3.out rfl cl;rw[Bh cl]at J;have cx:=d0 d (AS bk);have a6:=Ug cx;have d9:=a6.be;have d':=a6.ac;have ea:=a6.rules;have e4:=PK a6;have e3:=za d AA AA;replace a6:=AB a6;have c1:AH (Sk p size ⟨4,z,a0,a1⟩ (st.meet n size)=if st.defs[z.toNat]? =some false∧d.okG=true then some (DK d (size+d.own) d.rules++(Cw (size+d.own) d.ac++Cq (size+d.own) a1),{st.meet n size with defs:=st.defs.set z.toNat true})else none):=by
      refine⟨?_⟩;rw[Sk,D5 rfl,bk];rfl
     have bc:AH (∀b,Abs.Obj.box [.d (.bv (p.free.map Bp)),.d (.bv (p.nodes.map Ba)),.d (.bv (p.defs.map Bw)),nI p.main,.f8 sz 0 p.nodes.length,.f8 u 0 p.nodes.length,.f8 us 0 p.defs.length,.d (.bool b)]=ET p sz u us b):=.mk fun b=>by
      rw[ET,Bh a3,Bh a3,Bh cl]
     cases t with
     |true=>
      have V:AH (Bg p (k+1) n size st=none):=by
       refine⟨?_⟩;rw[I.out,c1.out,c4];split
       .rw[Co AG]
       .rfl
      (repeat' (first|simp only[go_sem, *,Lu,MW]|(refine sx ?_ ?_<;>intro bs)|refine sy AA fun x a4 bx=>?_|simp(disch:=first|assumption|omega) only[AU]))
      all_goals try(exact Ga (w.out _ _) r.out (bc.out _) V.out)
      rw[Dd];refine aw ?_;exact Ga (w.out _ _) r.out (bc.out _) V.out
     |false=>
      (repeat' (first|simp only[go_sem, *,Lu,MW]|(refine sx ?_ ?_<;>intro bs)|refine sy AA fun x a4 bx=>?_|simp(disch:=first|assumption|omega) only[AU]))
      all_goals try(exact Ga (w.out _ _) r.out (bc.out _) (A.out zEZ))
      rw[Dd];refine aw ?_;have ad:=l4 (w.out (.box [nI 0,nI 0,.d7,.d7]) (.box [nI 4,nI z,.d (.bv (a0.map BQ)),.d (.bv (a1.map AR))])) r.out z.toNat;have b5:Bo.fit p {st.meet n size with defs:=(st.meet n size).defs.set z.toNat true}:=by
       have:=QX B n size;exact⟨this.co,this.met,by simp[Bo.meet,B.defs]⟩
      have b8:Ew (st.meet n size).met≤k:=by
       have:=Fv ai;exact zDP
      have ej:(a0.length:Int)=0:=Bs;have ek:(a1.length:Int)=1:=Bs;have e6:a0=[]:=BI AA;have cc:AH (Bg p (k+1) n size st=match Cp (Bg p k) (DK d (size+d.own) d.rules++Cw (size+d.own) d.ac) {st.meet n size with defs:=(st.meet n size).defs.set z.toNat true}with|some st'=>Cp (Bg p k) (Cq (size+d.own) a1) st'|none=>none):=by
       refine⟨?_⟩;rw[I.out,D5,c1.out,D5 ⟨c4,cx⟩]
       .rw[←P4,Dl];rfl
       .clear U K M N X Y Z ac J Q T I A F w s ad b5 b8;grind [DB,Dh,W8,E0]
      refine Ad (xh p bo dn k F.out d a6.out (size+d.own) {st.meet n size with defs:=(st.meet n size).defs.set z.toNat true} _ _ l sz u us b8 b5 AA AA (Gh r.out _) ad.looks) (fun c7 g1 m=>?_)
      obtain rfl:=m.ret;have a7: ∀j,j≠48→ ∀q∈ [((48:Nat),Abs.Obj.box [nI 4,nI z,.d (.bv (a0.map BQ)),.d (.bv (a1.map AR))])],j≠q.1:=by
       intro j d1 q cs;cases Ac.1 cs;exact d1
      cases W:Cp (Bg p k) (DK d (size+d.own) d.rules++Cw (size+d.own) d.ac) {st.meet n size with defs:=(st.meet n size).defs.set z.toNat true}with
      |none=>
       have f:=G7 ad r.out (a7 168 AK) (st':=st) (b':=true) (m.no W _) m.frame;have v:=f.node _ (F9 ..);have C:=f.looks.box;rw[←bc.out]at C;dsimp only at v;replace m:=AB m;replace ad:=AB ad;replace a7:=AB a7;replace W:=AB W;refine aw ?_;rw[Dd];refine aw ?_;exact Gl f (by rw[cc.out,W.out])
      |some a'=>
       have f:=G7 ad r.out (a7 168 AK) (m.yes _ W) m.frame;have cn:kL {st.meet n size with defs:=(st.meet n size).defs.set z.toNat true} a':=RB (R:=kL) (fun st=>⟨rfl,rfl,rfl,Es _⟩) (fun a b c a5 h2=>⟨h2.1.trans a5.1,h2.2.trans a5.2,h2.3.trans a5.3,IP h2.4 a5.4⟩) (C6 p k) W
       rw[W]at cc;replace m:=AB m;replace ad:=AB ad;replace a7:=AB a7;replace W:=AB W;refine aw ?_;refine Aj a1 (S:=fun i a=>⟨[(0,.ptr l 0),(6,.ptr (0::48::π) 0),(11,nI (size+(d.own:Int))),(12,nI i)],a.1.1,a.2+170,[]⟩)
        (Inv:=fun i b4 a=> ∃b,Y7 p l sz u us h π [(48,.box [nI 4,nI z,.d (.bv (a0.map BQ)),.d (.bv (a1.map AR))])] a.1.2 b a.1.1∧a.1.2.fit p∧Ew a.1.2.met≤k∧AH (b=false→Bg p (k+1) n size st=Cp (Bg p k) (Cq (size+d.own) b4) a.1.2)∧AH (b=true→Bg p (k+1) n size st=none)) (b0:=((_,a'),_)) ?_ ?_ ?_
       .exact⟨false,f,Hq b5 cn,IP cn.less b8,⟨fun _=>cc.out⟩,⟨fun h=>zEW⟩⟩
       all_goals clear f m ad a7 W g1 cc cn a' b5 b8
       .rintro i y ⟨⟨g,az⟩,c⟩ c5 bl H ⟨b,f,ag,ar,av,V⟩ a2;dsimp only at*;have v:=f.node _ (F9 ..);have C:=f.looks.box;rw[←bc.out]at C;dsimp only at v;try simp only[*]at H
        cases b
        .refine aw ?_;refine Ad (F.out y (size+d.own) az _ _ l sz u us ar ag AA AA (Gh r.out _) f.looks) (fun c7 g1 m=>?_);obtain rfl:=m.ret;replace m:=AB m;refine aw ?_;cases O:Bg p k y (size+d.own) az with
         |none=>
          refine a2.out ((_,az),_) ⟨true,G7 f r.out ?_ (m.out.no O _) m.out.frame,ag,ar,⟨fun h=>zEW⟩,⟨fun _=>?_⟩⟩
          .exact zAQ
          .rw[av.out rfl];simp only[Cq,CO,DL,Cp,O]
         |some a'=>
          have bv:=C6 p _ _ _ _ _ O;refine a2.out ((_,a'),_) ⟨false,G7 f r.out ?_ (m.out.yes _ O) m.out.frame,Hq ag bv,IP bv.less ar,⟨fun _=>?_⟩,⟨fun h=>zEW⟩⟩
          .exact zAQ
          .rw[av.out rfl];simp only[Cq,CO,DL,Cp,O]
        .exact zCr
       .rintro i ⟨⟨g,az⟩,c⟩ bl H ⟨b,f,ag,ar,av,V⟩;dsimp only at*;have v:=f.node _ (F9 ..);have C:=f.looks.box;rw[←bc.out]at C;dsimp only at v;try simp only[*]at H
        cases b
        .refine aw ?_;exact Rp f (av.out rfl)
        .exact zCr
    have d4:D=3∨D=1∨D=7∨(D=2)∨D=5∨D=6∨D=8∨(¬D=1∧ ¬D=7∧ ¬D=3∧ ¬D=2∧ ¬D=5∧ ¬D=6∧ ¬D=8):=AA;rcases d4 with rfl|rfl|rfl|rfl|rfl|rfl|rfl|⟨fp,fr,fs,fv,f0,f1,f2⟩;all_goals ((repeat' (first|simp only[go_sem, *,Lu,MW]|(refine sx ?_ ?_<;>intro bs)|refine sy AA fun x a4 bx=>?_|simp(disch:=first|assumption|omega) only[AU])))
    all_goals try(exfalso;omega)
    all_goals try(exact Ga (w.out _ _) r.out (s.out _) (A.out zEZ))
    all_goals
     refine Aj a0 (S:=fun i a=>⟨[(0,.ptr l 0),(2,nI size),(6,.ptr (0::48::π) 0),(10,nI i)],a.1.1,a.2+60,[]⟩)
      (Inv:=fun i b4 a=>Y7 p l sz u us h π _ (st.meet n size) a.1.2 a.1.1∧AH (a0.all (Bu.ok size)=(!a.1.2&&b4.all (Bu.ok size)))) (b0:=((_,false),_)) ⟨w.out _ _,⟨rfl⟩⟩ ?_ ?_
     .rintro i y ⟨⟨g,b⟩,c⟩ c5 bl H ⟨f,b2⟩ a2;dsimp only at*;try(exfalso;omega)
      all_goals
       have v:=f.node _ (F9 ..);have C:=f.looks.box;rw[←s.out]at C;dsimp only at v;try simp only[*]at H
      all_goals
       cases b
       .exact zCG
       .exact zCG
     .rintro i ⟨⟨g,b⟩,c⟩ bl H ⟨f,b2⟩;dsimp only at*;have v:=f.node _ (F9 ..);have C:=f.looks.box;rw[←s.out]at C;dsimp only at v;try simp only[*]at H
      cases b;all_goals
       ((repeat' (first|simp only[go_sem, *]|(refine sx ?_ ?_<;>intro bs)|refine sy AA fun x a4 bx=>?_|simp(disch:=first|assumption|omega) only[AU])))
      all_goals
       have bi:AH (a0.all (Bu.ok size)=_):=b2;simp only[RT,Mk,PI,PM]at bi;obtain⟨L,be⟩: ∃L,Y7 p l sz u us h π L (st.meet n size) _ g∧ ∃o,L=[(48,o)]∧g.get (0::48::π)=some o:=⟨_,f,_,rfl,v⟩;clear f;obtain⟨f,c8,be,c3⟩:=be;have b1:=v.symm.trans c3;simp only[Cs]at b1;replace b1:=AB b1;clear c3;refine Aj a1 (S:=fun i a=>⟨[(0,.ptr l 0),(6,.ptr (0::48::π) 0),(11,nI size),(12,nI i)],a.1.1,a.2+60,[]⟩)
        (Inv:=fun i b4 a=> ∃b,Y7 p l sz u us h π L a.1.2 b a.1.1∧a.1.2.fit p∧Ew a.1.2.met≤k∧AH (b=false→Bg p (k+1) n size st=Cp (Bg p k) (Cq size b4) a.1.2)∧AH (b=true→Bg p (k+1) n size st=none)) (b0:=((_,st.meet n size),_)) ?_ ?_ ?_
       .dsimp only;refine⟨_,kD f r.out (s.out _) AG,QX B _ _,?_,⟨fun dr=>?_⟩,⟨fun dr=>?_⟩⟩
        .have:=Fv ai;exact zDP
        .rw[I.out,D5,Sk]
         .simp
         .exact zCy
        .refine A.out ?_;exact zCy
       all_goals clear f v C b2 bl H g c i bi
       .rintro i y ⟨⟨g,az⟩,c⟩ c5 bl H ⟨b,f,ag,ar,av,V⟩ a2;dsimp only at*;try(exfalso;omega)
        all_goals
         have v:=f.node (48,c8) (by rw[be];exact F9 ..);rw[←b1.out]at v;have C:=f.looks.box;rw[←s.out]at C;dsimp only at v;try simp only[*]at H
        all_goals
         cases b
         .refine aw ?_;refine Ad (F.out y size az g _ l sz u us ar ag ch AA (Gh r.out _) f.looks) (fun c7 g1 m=>?_);obtain rfl:=m.ret;replace m:=AB m;refine aw ?_;cases O:Bg p k y size az with
          |none=>
           refine a2.out ((_,az),_) ⟨true,G7 f r.out ?_ (m.out.no O _) m.out.frame,ag,ar,⟨fun h=>zEW⟩,⟨fun _=>?_⟩⟩
           .rw[be];exact zAQ
           .rw[av.out rfl];simp only[Cq,CO,Cp,O]
          |some a'=>
           have bv:=C6 p _ _ _ _ _ O;refine a2.out ((_,a'),_) ⟨false,G7 f r.out ?_ (m.out.yes _ O) m.out.frame,Hq ag bv,IP bv.less ar,⟨fun _=>?_⟩,⟨fun h=>zEW⟩⟩
           .rw[be];exact zAQ
           .rw[av.out rfl];simp only[Cq,CO,Cp,O]
         .exact zCr
       .rintro i ⟨⟨g,az⟩,c⟩ bl H ⟨b,f,ag,ar,av,V⟩;dsimp only at*;have v:=f.node (48,c8) (by rw[be];exact F9 ..);rw[←b1.out]at v;have C:=f.looks.box;rw[←s.out]at C;dsimp only at v;try simp only[*]at H
        cases b
        .refine aw ?_;exact Rp f (av.out rfl)
        .exact zCr
theorem wG{p:AX}{st:Bo}{sz mt:Abs.Id}{i:Nat}{s:Int}(c:J9 h p l sz mt df st)(g:i<p.nodes.length)(j:st.co[i]? =some s)(k:st.co.length=p.nodes.length)(π:List Nat):KL Tryz.prog cfg (.fn 166) [.ptr l 0,nI i] h π true none=.ok (.ret (nI s),h):=by
 obtain⟨b1,b,e,f⟩:=c;have a:p.nodes.length≠0:=AA;have b:=b a;rw[Bh a,Bh a]at b1;refine mQ rfl Tryz.func166 rfl rfl rfl ?_;show Wp _ _ _ _ (Tryz.f166.body.get rfl) _ _;simp only[Tryz.f166,I3];exact au
theorem Lk{p:AX}{sz mt:Abs.Id}{st:Bo}(b:J9 g p l sz mt df st)(c:Y6 π l sz mt df)(t j:Nat)(o:Abs.Obj):J9 (g.put (t::j::π) o) p l sz mt df st:=
 ⟨by rw[get_put,AJ c.ul];exact b.box,fun a=>by rw[get_put,AJ c.us];exact b.co a,fun a=>by rw[get_put,AJ c.um];exact b.met a,fun a=>by rw[get_put,AJ c.ud];exact b.defs a⟩
theorem xP(p:AX)(M:p.nodes.length≤60)(st:Bo)(h:AD)(π:List Nat)(l sz mt df a b:Abs.Id)(k:J9 h p l sz mt df st)(z:st.co.length=p.nodes.length)(f:Y6 π l sz mt df)
 (N:h.get a=some (.box [.d (.bv (p.free.map Bp)),.d (.bv (p.nodes.map Ba)),.d (.bv (p.defs.map Bw)),nI p.main])) (r:h.get b=some (.box [.fn 166 [] []])) (ac:Id.under π a=false) (J:Id.under π b=false) (R:0<p.nodes.length):
 ∃o h',KL Tryz.prog cfg (.fn 187) [.ptr l 0,.ptr a 0,.ptr b 0] h π true none=.ok (o,h')∧(∃j,o=.ret (.f8 (1::j::π) 0 p.nodes.length)∧h'.get (1::j::π)=some (.em 1 (st.co.map AR)))∧ ∀e,Id.under π e=false→h'.get e=h.get e:=by
 refine BT Tryz.func187 ?_;have f:=AB f;have k:=AB k;have T:=AB z;have H:=AJ J;have I:=AI J;refine aw ?_;refine An st.co _ (fun m i a=>⟨[(0,.ptr l 0),(2,.ptr b 0),(5,a.1.2),(9,nI m),(10,nI i)],a.1.1,a.2+6,[]⟩)
  (Inv:=fun i Y a=>AH (J9 a.1.1 p l sz mt df st)∧a.1.1.get b=some (.box [.fn 166 [] []])∧AH (∀e,Id.under π e=false→a.1.1.get e=h.get e)∧AH (i=0∧a.1.2=.d7∨ ∃j,j<a.2+6∧a.1.2=.f8 (1::j::π) 0 i∧a.1.1.get (1::j::π)=some (.em 1 ((st.co.take i).map AR)))) (b0:=((h,.d7),0)) ?_ ⟨k,r,⟨fun _ _=>rfl⟩,⟨.inl ⟨rfl,rfl⟩⟩⟩ ?_ ?_
 .omega
 .rintro i y ⟨⟨g,v⟩,c⟩ w B K ⟨k,r,s,q⟩ A;dsimp only at*;have F:=fun ρ=>wG k.out AA w z ρ;rcases q.out with⟨rfl,rfl⟩|⟨j,L,rfl,D⟩
  .clear q;have P:(0:Int)<p.nodes.length:=AA;have F: ∀ρ,KL Tryz.prog cfg (.fn 166) [.ptr l 0,nI 0] g ρ true none=.ok (.ret (nI y),g):=F;refine aw ?_;refine A.out ((_,_),_) ⟨⟨Lk (Lk (NM k.out (Gh f.out _)) f.out _ _ _) f.out _ _ _⟩,?_,⟨fun e n=>?_⟩,⟨.inr ⟨_,?_,rfl,?_⟩⟩⟩
   .simp only[go_sem,H,I,r]
   .exact zD3
   .omega
   .simp only[go_sem];rw[Li,w];rfl
  .clear q;have U: ¬c+13=j:=AA;have V: ¬c+14=j:=AA;have W: ¬c+15=j:=AA;have Z:(st.co.take i).length=i:=Aa;have X: ¬i+1≤i:=AA
   (repeat' (first|simp only[go_sem, *,Es]|(refine sx ?_ ?_<;>intro O)|refine sy AA fun x S Q=>?_|simp(disch:=first|assumption|omega) only[AU]))
   refine A.out ((_,_),_) ⟨⟨Lk (Lk (Lk (NM k.out (Gh f.out _)) f.out _ _ _) f.out _ _ _) f.out _ _ _⟩,?_,⟨fun e n=>?_⟩,⟨.inr ⟨_,?_,rfl,?_⟩⟩⟩
   .simp only[go_sem,H,I,r]
   .exact zD3
   .omega
   .simp only[go_sem];have:List.take i (List.map AR (List.take i st.co))=List.map AR (List.take i st.co):=By Aa;rw[this,Li,w,BE];rfl
 .rintro i ⟨⟨g,v⟩,c⟩ B K ⟨k,r,s,q⟩;dsimp only at*;rcases q.out with⟨rfl,rfl⟩|⟨j,L,rfl,D⟩
  .exfalso;omega
  .clear q;refine aw ?_;have C:=B.out;refine⟨⟨_,by rw[C,z],?_⟩,s.out⟩;rw[D,C,D3]
theorem FP(i t j k:Nat)(π:List Nat)(h:i≠k):Id.under (i::π) (t::j::k::π)=false:=Ev fun a=>by
 rcases It.1 a with e|a
 .exact zDE
 rcases It.1 a with e|a
 .exact zDE
 rcases It.1 a with e|a
 .simp only[Mt,and_true]at e;exact h e
 .have:=a.length_le;simp at this;omega
theorem oG{p:AX}{sz mt:Abs.Id}{st:Bo}(b:J9 g p l sz mt df st):J9 (g++h) p l sz mt df st:=⟨Cz b.box,fun a=>Cz (b.co a),fun a=>Cz (b.met a),fun a=>Cz (b.defs a)⟩
structure dg(p:AX)(o:Ax)(h':AD):Prop where
 no:looks p=none→o=.ret (.ii [.d7,nI 2])
 yes: ∀st,looks p=some st→ ∃id,o=.ret (.ii [.f8 (1::id) 0 p.nodes.length,nI 0])∧h'.get (1::id)=some (.em 1 (st.co.map AR))
theorem oE(p:AX)(l: ∀s∈p.free,s.size≤maxLen)(h:AD)(π:List Nat)(a b:Abs.Id)
 (y:h.get a=some (.box [.d (.bv (p.free.map Bp)),.d (.bv (p.nodes.map Ba)),.d (.bv (p.defs.map Bw)),nI p.main])) (z:h.get b=some (.box [.fn 166 [] []])) (u:Id.under π a=false) (v:Id.under π b=false):
 ∃o h',KL Tryz.prog cfg (.fn 186) [.agg [.d (.bv (p.free.map Bp)),.d (.bv (p.nodes.map Ba)),.d (.bv (p.defs.map Bw)),nI p.main],.fn 187 [] [.ptr a 0,.ptr b 0]] h π true none=.ok (o,h')∧dg p o h':=by
 refine BT Tryz.func186 ?_;have l:=AB l;have D:=AJ u;have t:=AI u;have v1:=AJ v;have v2:=AI v;obtain⟨r,e,m⟩:=zK p l.out 6 π;cases f:looks p with
 |none=>
  obtain rfl:=m.ge f;refine aw ?_;exact⟨fun _=>rfl,fun st c=>by rw[f]at c;cases c⟩
 |some st=>
  obtain⟨F,rfl,k,g⟩:=m.ret st f;replace g:=AB g;replace k:=AB k;have i:=AH.mk (DI f);have A:=i.out.len;have n:=i.out.small;simp only[AX.small,AP,Ap]at n;have x:0<p.nodes.length:=by
   have w:=i.out.main.2;have:=AL w;omega
  refine aw ?_;refine Ad (xP p n.2.1 st _ _ (0::16::6::π) (1::6::6::π) (1::10::6::π) (1::14::6::π) a b (oG k.out) A ?_ ?_ ?_ (t _) (v2 _) x) (fun H g1 B=>?_)
  .constructor<;>first|exact FP _ _ _ _ _ AK|simp only[go_sem]
  .rw[B5 (g.out a (t _))];simp only[go_sem,D,y,AM]
  .rw[B5 (g.out b (v2 _))];simp only[go_sem,v1,z,AM]
  obtain⟨⟨j,rfl,C⟩,fr⟩:=B;have q:=fr (0::2::π) (DM _ _ _ _ AK);rw[B5 (g.out (0::2::π) (DM _ _ _ _ AK))]at q;simp only[get_put,is_self,F7]at q;replace fr:=AB fr;refine aw ?_;refine⟨fun c=>by{rw[f]at c;cases c},fun st' c=>?_⟩;rw[f]at c;cases c;exact⟨_,rfl,by simp only[go_sem,C]⟩
def LJ:Option Bo→AV
 |none=>.ii [.d (.bv []),nI 2]
 |some st=>.ii [.d (.bv (st.co.map AR)),nI 0]
theorem xz(p:AX)(c: ∀s∈p.free,s.size≤maxLen):BU (KL Tryz.prog cfg) 165 [.agg [.d (.bv (p.free.map Bp)),.d (.bv (p.nodes.map Ba)),.d (.bv (p.defs.map Bw)),nI p.main],.fn 166 [] []] []=.ok (.ret (LJ (looks p)),[]):=by
 replace c:=AB c;refine A7 Tryz.func165 ?_;refine aw ?_;refine Ad (oE p c.out _ _ _ _ ?_ ?_ ?_ ?_) (fun i g1 a=>?_)
 .simp only[go_sem]
 .simp only[go_sem]
 .simp only[go_sem]
 .simp only[go_sem]
 cases b:looks p with
 |none=>
  obtain rfl:=a.no b;clear a
  exact zAs
 |some st=>
  obtain⟨id,rfl,j⟩:=a.yes st b;clear a;have h:=(DI b).len;have k:List.take p.nodes.length (List.map AR st.co)=List.map AR st.co:=By zE2
  (repeat' (first|simp only[go_sem, *,LJ,Es]|(refine sx ?_ ?_<;>intro e)|refine sy AA fun x g f=>?_|simp(disch:=first|assumption|omega) only[AU]))
theorem qw(p:AX)(c: ∀s∈p.free,s.size≤maxLen):BU (KL Tryz.prog cfg) 109 [.agg [.d (.bv (p.free.map Bp)),.d (.bv (p.nodes.map Ba)),.d (.bv (p.defs.map Bw)),nI p.main]] []=.ok (.ret (LJ (looks p)),[]):=by
 have a:=xz p c;clear c;refine A7 Tryz.func109 ?_;cases b:looks p with
 |none=>
  rw[b,LJ]at a
  exact zAs
 |some st=>
  rw[b,LJ]at a
  exact zAs
theorem jw: ∀(a b:List UInt8),(Op.bytesLess a b||a==b)= !Op.bytesLess b a
 |[],[]=>by simp[Op.bytesLess]
 |[],b::y=>by simp[Op.bytesLess]
 |a::x,[]=>by simp[Op.bytesLess]
 |a::x,b::y=>by
  have f:=jw x y;simp only[Op.bytesLess,List.cons_beq_cons];by_cases c:a<b
  .have h2: ¬b<a:=fun h=>by
    have:=UInt8.lt_asymm c h;exact this
   have e:(b==a)=false:=by
    simp only[beq_eq_false_iff_ne];intro h;subst h;exact UInt8.lt_irrefl _ c
   simp[c,h2,e]
  .by_cases h2:b<a
   .have e:(a==b)=false:=by
     simp only[beq_eq_false_iff_ne];intro h;subst h;exact UInt8.lt_irrefl _ h2
    simp[c,h2,e]
   .have e:a=b:=UInt8.le_antisymm (UInt8.not_lt.1 h2) (UInt8.not_lt.1 c);subst e;simp only[c,decide_false,I4,beq_self_eq_true,FN];exact f
theorem qI(a b:ByteArray):(Op.bytesLess a.toList b.toList||a.toList==b.toList)= !dI b a:=jw _ _
variable{co:List Int}
theorem aK{p:AX}(h:BO p co): ∀d∈p.defs,d.okG=true:=by
 intro d c;obtain⟨i,b⟩:=II c;obtain⟨j,x,e,g,f⟩:=h.used i (BV.1 b).1;obtain⟨s,l,_,_,_,_,a,_⟩:=h.node j x e;rw[Ji,D5 g,f,b]at a;dsimp only at a;split at a
 .assumption
 .cases a
structure xI(p:AX)(r:Ax×AD):Prop where
 no:looks p=none→ ∃h l x0 x1 x2 x3 x4 x5 x6,r=(.ret (.ptr (0::l) 0),h)∧h.get (0::l)=some (.box [x0,x1,x2,x3,x4,x5,x6,.d (.bool true)])
 yes: ∀st,looks p=some st→ ∃h l sz ow us,r=(.ret (.ptr (0::l) 0),h)∧Hf h p (0::l) (1::sz) (1::ow) (1::us) st false
theorem S5(n:Nat):(List.replicate n (0:Int)).map AR=(List.replicate n false).map Jf:=by
 rw[Ol,Ol];rfl
def AO:Bo:=⟨[],[],[]⟩
theorem rH(p:AX)(k:Nat)(ρ:List Nat): ∃r:Ax×AD,BU (KL Tryz.prog cfg) 83 [.agg [.d (.bv (p.free.map Bp)),.d (.bv (p.nodes.map Ba)),.d (.bv (p.defs.map Bw)),nI p.main]] (k::ρ)=.ok r∧xI p r:=by
 by_cases f:p.small=true
 .have ad:=AB f;simp only[AX.small,AP,Ap]at f;obtain⟨a2,T,X⟩:=f;have a3: ¬(12:Int)<p.free.length:=AA;have a4: ¬(60:Int)<p.nodes.length:=AA;have a5: ¬(12:Int)<p.defs.length:=AA;refine LK Tryz.func83 ?_;refine aw ?_;refine Aj p.free (S:=fun i b=>⟨[(1,.ptr (0::0::k::ρ) 0),(3,.ptr (0::1::k::ρ) 0),(4,nI i)],[(0::0::k::ρ,.box [.d (.bv (p.free.map Bp)),.d (.bv (p.nodes.map Ba)),.d (.bv (p.defs.map Bw)),nI p.main]),(0::1::k::ρ,.box [.d (.bv (p.free.map Bp)),.d (.bv (p.nodes.map Ba)),.d (.bv (p.defs.map Bw)),nI p.main,.d7,.d7,.d7,.d (.bool b)])],2,[]⟩)
   (Inv:=fun i D b=>AH ((!b&&Jg (if i=0 then none else p.free[i-1]?) D)=MC p.free)) (b0:=false) ⟨rfl⟩ ?_ ?_
  .rintro i y b H s n a v;have a7:=ur y;rcases i with _|j
   .rw[D5 rfl]at a;have a6:(0:Int)<p.free.length:=AA;cases b;all_goals ((repeat' (first|simp only[go_sem, *]|(refine sx ?_ ?_<;>intro I)|refine sy AA fun x u J=>?_|simp(disch:=first|assumption|omega) only[AU])))
    all_goals
     refine v.out _ ⟨?_⟩;rw[←a.out];rw[Co AA,RC,H];simp[Jg,dI, *]
   .obtain⟨q,a0⟩:=get_some (l:=p.free) (i:=j) AA;rw[Co AA,RC,a0]at a;have w:IntKind.i64.wrap (((j+1:Nat):Int)-1)=(j:Int):=by rw[wrap_id AA AA];omega
    have a':(0:Int)<((j+1:Nat):Int):=AA;cases b;all_goals ((repeat' (first|simp only[go_sem, *]|(refine sx ?_ ?_<;>intro I)|refine sy AA fun x u J=>?_|simp(disch:=first|assumption|omega) only[AU])))
    all_goals
     refine v.out _ ⟨?_⟩;rw[←a.out];rw[Co AA,RC,H];simp[Jg,qI, *]
  .rintro i b s n a;rw[Jg,Mk]at a;refine aw ?_;refine Aj p.defs (S:=fun i b=>⟨[(1,.ptr (0::0::k::ρ) 0),(3,.ptr (0::1::k::ρ) 0),(5,nI i)],[(0::0::k::ρ,.box [.d (.bv (p.free.map Bp)),.d (.bv (p.nodes.map Ba)),.d (.bv (p.defs.map Bw)),nI p.main]),(0::1::k::ρ,.box [.d (.bv (p.free.map Bp)),.d (.bv (p.nodes.map Ba)),.d (.bv (p.defs.map Bw)),nI p.main,.d7,.d7,.d7,.d (.bool b)])],2,[]⟩)
    (Inv:=fun i D b=>AH ((!b&&D.all CG.okG)=(MC p.free&&p.defs.all CG.okG))) (b0:=b) ⟨?_⟩ ?_ ?_
   .rw[←a.out]
   .clear a s n i b;rintro i y b H s n a v;have av:=xi y;rw[ADM]at av;cases b;all_goals (refine aw ?_)
    all_goals
     refine v.out _ ⟨?_⟩;rw[←a.out,D9];cases y.okG<;>simp
   .clear a s n i b;rintro i b s n a;rw[RT,Mk]at a;have P: ¬(i:Int)<0:=AA;have N:AH (b=true→looks p=none):=⟨fun ai=>by
     have a:=a.out;rw[ai]at a;cases c:looks p with
     |none=>rfl
     |some st=>
      exfalso;have az:MC p.free=true:=by
       unfold looks at c;split at c
       .rename_i h;exact h.2
       .cases c
      have ar:p.defs.all CG.okG=true:=D4.2 (aK (DI c));rw[az,ar]at a;cases a⟩
    cases b
    .have Z:AH (MC p.free=true):=⟨by have:=a.out;simp at this;exact this.1.symm▸rfl⟩;have Y:AH (∀d∈p.defs,d.okG=true):=⟨by have:=a.out;simp at this;exact this.2⟩;by_cases g:p.nodes.length=0
     .by_cases t:p.defs.length=0
      ·(repeat' (first|simp only[go_sem, *]|(refine sx ?_ ?_<;>intro I)|refine sy AA fun x u J=>?_|simp(disch:=first|assumption|omega) only[AU,FL,HY]))
       refine Ad (J4 p T p.main p.free.length (Bo.init p) _ _ (0::1::k::ρ) (1::13::k::ρ) (1::17::k::ρ) (1::21::k::ρ) ⟨?_,?_,?_⟩ ?_ ⟨?_,fun _ h=>absurd g h,fun _ h=>absurd g h,fun _ _=>?_,fun h=>absurd g h,fun h=>absurd g h,fun _=>?_⟩ ?_) (fun W g1 o=>?_)
       .simp[Bo.init]
       .simp[Bo.init]
       .simp[Bo.init]
       .exact zAm
       .exact zBA
       .exact zDB
       .exact zDB
       .omega
       obtain rfl:=o.ret;have c:=IZ (ρ:=41::k::ρ) (o.no rfl AO) zEU;have z:=c.box;rw[ET,Jb g,Jb g,Jb t]at z;have K:AH (looks p=none):=⟨by
        unfold looks;split
        .exact zBs
        .rfl⟩
       replace c:=AB c;replace o:=AB o;refine aw ?_;rw[Dd];refine aw ?_;rw[Dd];refine aw ?_;exact⟨fun _=>⟨_,_,_,_,_,_,_,_,_,rfl,by(simp only[go_sem];try rfl)⟩,fun st f=>zE5⟩
      ·(repeat' (first|simp only[go_sem, *]|(refine sx ?_ ?_<;>intro I)|refine sy AA fun x u J=>?_|simp(disch:=first|assumption|omega) only[AU,FL,HY]))
       refine Ad (J4 p T p.main p.free.length (Bo.init p) _ _ (0::1::k::ρ) (1::13::k::ρ) (1::17::k::ρ) (1::21::k::ρ) ⟨?_,?_,?_⟩ ?_ ⟨?_,fun _ h=>absurd g h,fun _ h=>absurd g h,fun _ _=>?_,fun h=>absurd g h,fun h=>absurd g h,fun _=>?_⟩ ?_) (fun W g1 o=>?_)
       .simp[Bo.init]
       .simp[Bo.init]
       .simp[Bo.init]
       .exact zAm
       .exact zBA
       .exact zDd
       .exact zBe
       .omega
       obtain rfl:=o.ret;have c:=IZ (ρ:=41::k::ρ) (o.no rfl AO) zEU;obtain⟨C,R⟩:=c.kd t;have z:=c.box;rw[ET,Jb g,Jb g,Bh t]at z;have K:AH (looks p=none):=⟨by
        unfold looks;split
        .exact zBs
        .rfl⟩
       replace c:=AB c;replace o:=AB o;refine aw ?_;rw[Dd];refine aw ?_;clear z R c o N a n P s i;refine An (List.replicate p.defs.length ()) (S:=fun _ i (_:Unit)=>⟨[(3,.ptr (0::0::k::ρ) 0),(7,nI i)],[(0::0::k::ρ,.box [.d (.bv (p.free.map Bp)),.d (.bv (p.nodes.map Ba)),.d (.bv (p.defs.map Bw)),nI p.main,.emp,.emp,.f8 (1::1::k::ρ) 0 p.defs.length,.d (.bool true)]),(1::1::k::ρ,.em 1 C)],2,[]⟩)
        (Inv:=fun i D b=>True) (b0:=()) (m:=p.defs.length) AG trivial ?_ ?_
       .rintro i y b H s n a v;refine aw ?_;exact v.out () trivial
       .rintro i b s n a;refine aw ?_;exact⟨fun _=>⟨_,_,_,_,_,_,_,_,_,rfl,by(simp only[go_sem];try rfl)⟩,fun st f=>zE5⟩
     .by_cases t:p.defs.length=0
      ·(repeat' (first|simp only[go_sem, *]|(refine sx ?_ ?_<;>intro I)|refine sy AA fun x u J=>?_|simp(disch:=first|assumption|omega) only[AU,FL,HY]))
       refine Ad (bt p T X Y.out (p.nodes.length+1) p.main p.free.length (Bo.init p) _ _ (0::1::k::ρ) (1::13::k::ρ) (1::17::k::ρ) (1::21::k::ρ) ?_ ⟨?_,?_,?_⟩ ?_ ?_ ?_ ⟨?_,fun _ _=>?_,fun _ _=>?_,fun _ _=>?_,fun _=>?_,fun _=>?_,fun _=>?_⟩) (fun W g1 o=>?_)
       .exact zBk
       .simp[Bo.init]
       .simp[Bo.init]
       .simp[Bo.init]
       .omega
       .omega
       .exact zAm
       .exact zBA
       .exact zCU
       .exact zDd
       .exact zDB
       .exact zBe
       .exact zBe
       .exact zDB
       obtain rfl:=o.ret;cases F:Bg p (p.nodes.length+1) p.main p.free.length (Bo.init p)with
       |none=>
        have c:=IZ (ρ:=41::k::ρ) (o.no F AO) zEU;obtain⟨A,L⟩:=c.ks g;obtain⟨B,M⟩:=c.km g;have z:=c.box;rw[ET,Bh g,Bh g,Jb t]at z;have K:AH (looks p=none):=⟨by
         unfold looks;rw[F];split<;>rfl⟩
        replace c:=AB c;replace o:=AB o;refine aw ?_;clear z L M c o N a n P s i;refine An (List.replicate p.nodes.length ()) (S:=fun _ i (_:Unit)=>⟨[(3,.ptr (0::0::k::ρ) 0),(6,nI i)],[(0::0::k::ρ,.box [.d (.bv (p.free.map Bp)),.d (.bv (p.nodes.map Ba)),.d (.bv (p.defs.map Bw)),nI p.main,.f8 (1::1::k::ρ) 0 p.nodes.length,.f8 (1::2::k::ρ) 0 p.nodes.length,.emp,.d (.bool true)]),(1::1::k::ρ,.em 1 (A)),(1::2::k::ρ,.em 1 (B))],3,[]⟩)
         (Inv:=fun i D b=>True) (b0:=()) (m:=p.nodes.length) AG trivial ?_ ?_
        .rintro i y b H s n a v;refine aw ?_;exact v.out () trivial
        .rintro i b s n a;refine aw ?_;rw[Dd];refine aw ?_;exact⟨fun _=>⟨_,_,_,_,_,_,_,_,_,rfl,by(simp only[go_sem];try rfl)⟩,fun st f=>zE5⟩
       |some st=>
        have c:=IZ (ρ:=41::k::ρ) (o.yes st F) zEU;have z:=c.box;have L:=c.co rfl g;have M:=c.met rfl g;rw[ET,Bh g,Bh g,Jb t]at z;replace c:=AB c;replace o:=AB o;refine aw ?_;have O:=C6 p _ _ _ _ _ F;have a1:st.met.length=p.nodes.length:=by rw[O.met];simp[Bo.init]
        have ag:st.defs.length=p.defs.length:=by rw[O.defs];simp[Bo.init]
        have V:=AH.mk (QT ad.out Z.out F);clear z L M c o N a n P s i;refine An st.met (S:=fun _ i b=>⟨[(3,.ptr (0::0::k::ρ) 0),(6,nI i)],[(0::0::k::ρ,.box [.d (.bv (p.free.map Bp)),.d (.bv (p.nodes.map Ba)),.d (.bv (p.defs.map Bw)),nI p.main,.f8 (1::1::k::ρ) 0 p.nodes.length,.f8 (1::2::k::ρ) 0 p.nodes.length,.emp,.d (.bool b)]),(1::1::k::ρ,.em 1 (st.co.map AR)),(1::2::k::ρ,.em 1 (st.met.map Jf))],3,[]⟩)
         (Inv:=fun i D b=>AH ((!b&&D.all id)=st.met.all id)) (b0:=false) (m:=p.nodes.length) AA ⟨rfl⟩ ?_ ?_
        .rintro i y b H s n a v;have ac:=Int.ofNat_lt.1 n;cases b<;>cases y;all_goals (refine aw ?_)
         all_goals
          refine v.out _ ⟨?_⟩;rw[←a.out];simp
        .rintro i b s n a;rw[RT,Mk]at a;refine aw ?_;rw[Dd];refine aw ?_;have a:AH ((!b)=(st.met.all id&&st.defs.all id)):=⟨by
          rw[a.out,BI (ag.trans t)];simp⟩
         have u:=V.out;cases b
         .have:st.met.all id=true∧st.defs.all id=true:=by have:=a.out;simp only[PM]at this;exact(AP _ _).mp this.symm
          rw[Jn,Jn]at this;rw[D5 this]at u;refine⟨fun Q=>(by rw[u]at Q;cases Q),fun st' f=>?_⟩;rw[u]at f;cases f;refine⟨_,_,1::k::ρ,2::k::ρ,3::k::ρ,rfl,⟨?_,fun _ _=>?_,fun _ _=>?_,fun _ _=>?_,fun _=>?_,fun _=>?_,fun _=>?_⟩⟩
          .exact zBA
          .simp only[go_sem]
          .simp only[go_sem]
          .exact zDB
          .exact zBq
          .exact zBq
          .exact zDB
         .exact zAy
      ·(repeat' (first|simp only[go_sem, *]|(refine sx ?_ ?_<;>intro I)|refine sy AA fun x u J=>?_|simp(disch:=first|assumption|omega) only[AU,FL,HY]))
       refine Ad (bt p T X Y.out (p.nodes.length+1) p.main p.free.length (Bo.init p) _ _ (0::1::k::ρ) (1::13::k::ρ) (1::17::k::ρ) (1::21::k::ρ) ?_ ⟨?_,?_,?_⟩ ?_ ?_ ?_ ⟨?_,fun _ _=>?_,fun _ _=>?_,fun _ _=>?_,fun _=>?_,fun _=>?_,fun _=>?_⟩) (fun W g1 o=>?_)
       .exact zBk
       .simp[Bo.init]
       .simp[Bo.init]
       .simp[Bo.init]
       .omega
       .omega
       .exact zAm
       .exact zBA
       .exact zCU
       .exact zDd
       .exact zDd
       .exact zBe
       .exact zBe
       .exact zBe
       obtain rfl:=o.ret;cases F:Bg p (p.nodes.length+1) p.main p.free.length (Bo.init p)with
       |none=>
        have c:=IZ (ρ:=41::k::ρ) (o.no F AO) zEU;obtain⟨A,L⟩:=c.ks g;obtain⟨B,M⟩:=c.km g;obtain⟨C,R⟩:=c.kd t;have z:=c.box;rw[ET,Bh g,Bh g,Bh t]at z;have K:AH (looks p=none):=⟨by
         unfold looks;rw[F];split<;>rfl⟩
        replace c:=AB c;replace o:=AB o;refine aw ?_;clear z L M R c o N a n P s i;refine An (List.replicate p.nodes.length ()) (S:=fun _ i (_:Unit)=>⟨[(3,.ptr (0::0::k::ρ) 0),(6,nI i)],[(0::0::k::ρ,.box [.d (.bv (p.free.map Bp)),.d (.bv (p.nodes.map Ba)),.d (.bv (p.defs.map Bw)),nI p.main,.f8 (1::1::k::ρ) 0 p.nodes.length,.f8 (1::2::k::ρ) 0 p.nodes.length,.f8 (1::3::k::ρ) 0 p.defs.length,.d (.bool true)]),(1::1::k::ρ,.em 1 (A)),(1::2::k::ρ,.em 1 (B)),(1::3::k::ρ,.em 1 (C))],4,[]⟩)
         (Inv:=fun i D b=>True) (b0:=()) (m:=p.nodes.length) AG trivial ?_ ?_
        .rintro i y b H s n a v;refine aw ?_;exact v.out () trivial
        .rintro i b s n a;refine aw ?_;refine An (List.replicate p.defs.length ()) (S:=fun _ i (_:Unit)=>⟨[(3,.ptr (0::0::k::ρ) 0),(7,nI i)],[(0::0::k::ρ,.box [.d (.bv (p.free.map Bp)),.d (.bv (p.nodes.map Ba)),.d (.bv (p.defs.map Bw)),nI p.main,.f8 (1::1::k::ρ) 0 p.nodes.length,.f8 (1::2::k::ρ) 0 p.nodes.length,.f8 (1::3::k::ρ) 0 p.defs.length,.d (.bool true)]),(1::1::k::ρ,.em 1 (A)),(1::2::k::ρ,.em 1 (B)),(1::3::k::ρ,.em 1 (C))],4,[]⟩)
          (Inv:=fun i D b=>True) (b0:=()) (m:=p.defs.length) AG trivial ?_ ?_
         .clear a s n i b;rintro i y b H s n a v;refine aw ?_;exact v.out () trivial
         .clear a s n i b;rintro i b s n a;refine aw ?_;exact⟨fun _=>⟨_,_,_,_,_,_,_,_,_,rfl,by(simp only[go_sem];try rfl)⟩,fun st f=>zE5⟩
       |some st=>
        have c:=IZ (ρ:=41::k::ρ) (o.yes st F) zEU;have z:=c.box;have L:=c.co rfl g;have M:=c.met rfl g;have R:=c.defs rfl t;rw[ET,Bh g,Bh g,Bh t]at z;replace c:=AB c;replace o:=AB o;refine aw ?_;have O:=C6 p _ _ _ _ _ F;have a1:st.met.length=p.nodes.length:=by rw[O.met];simp[Bo.init]
        have ag:st.defs.length=p.defs.length:=by rw[O.defs];simp[Bo.init]
        have V:=AH.mk (QT ad.out Z.out F);clear z L M R c o N a n P s i;refine An st.met (S:=fun _ i b=>⟨[(3,.ptr (0::0::k::ρ) 0),(6,nI i)],[(0::0::k::ρ,.box [.d (.bv (p.free.map Bp)),.d (.bv (p.nodes.map Ba)),.d (.bv (p.defs.map Bw)),nI p.main,.f8 (1::1::k::ρ) 0 p.nodes.length,.f8 (1::2::k::ρ) 0 p.nodes.length,.f8 (1::3::k::ρ) 0 p.defs.length,.d (.bool b)]),(1::1::k::ρ,.em 1 (st.co.map AR)),(1::2::k::ρ,.em 1 (st.met.map Jf)),(1::3::k::ρ,.em 1 (st.defs.map Jf))],4,[]⟩)
         (Inv:=fun i D b=>AH ((!b&&D.all id)=st.met.all id)) (b0:=false) (m:=p.nodes.length) AA ⟨rfl⟩ ?_ ?_
        .rintro i y b H s n a v;have ac:=Int.ofNat_lt.1 n;cases b<;>cases y;all_goals (refine aw ?_)
         all_goals
          refine v.out _ ⟨?_⟩;rw[←a.out];simp
        .rintro i b s n a;rw[RT,Mk]at a;refine aw ?_;refine An st.defs (S:=fun _ i b=>⟨[(3,.ptr (0::0::k::ρ) 0),(7,nI i)],[(0::0::k::ρ,.box [.d (.bv (p.free.map Bp)),.d (.bv (p.nodes.map Ba)),.d (.bv (p.defs.map Bw)),nI p.main,.f8 (1::1::k::ρ) 0 p.nodes.length,.f8 (1::2::k::ρ) 0 p.nodes.length,.f8 (1::3::k::ρ) 0 p.defs.length,.d (.bool b)]),(1::1::k::ρ,.em 1 (st.co.map AR)),(1::2::k::ρ,.em 1 (st.met.map Jf)),(1::3::k::ρ,.em 1 (st.defs.map Jf))],4,[]⟩)
          (Inv:=fun i D b=>AH ((!b&&D.all id)=(st.met.all id&&st.defs.all id))) (b0:=b) (m:=p.defs.length) AA ⟨?_⟩ ?_ ?_
         .rw[a.out]
         .clear a s n i b;rintro i y b H s n a v;have ac:=Int.ofNat_lt.1 n;cases b<;>cases y;all_goals (refine aw ?_)
          all_goals
           refine v.out _ ⟨?_⟩;rw[←a.out];simp
         .clear a s n i b;rintro i b s n a;rw[RT,Mk]at a;refine aw ?_;have u:=V.out;cases b
          .have:st.met.all id=true∧st.defs.all id=true:=by have:=a.out;simp only[PM]at this;exact(AP _ _).mp this.symm
           rw[Jn,Jn]at this;rw[D5 this]at u;refine⟨fun Q=>(by rw[u]at Q;cases Q),fun st' f=>?_⟩;rw[u]at f;cases f;refine⟨_,_,1::k::ρ,2::k::ρ,3::k::ρ,rfl,⟨?_,fun _ _=>?_,fun _ _=>?_,fun _ _=>?_,fun _=>?_,fun _=>?_,fun _=>?_⟩⟩
           .exact zBA
           .simp only[go_sem]
           .simp only[go_sem]
           .simp only[go_sem]
           .exact zBq
           .exact zBq
           .exact zBq
          .exact zAy
    .by_cases g:p.nodes.length=0<;>by_cases t:p.defs.length=0;all_goals ((repeat' (first|simp only[go_sem, *]|(refine sx ?_ ?_<;>intro I)|refine sy AA fun x u J=>?_|simp(disch:=first|assumption|omega) only[AU,FL,HY])))
     all_goals exact⟨fun _=>⟨_,_,_,_,_,_,_,_,_,rfl,by(simp only[go_sem];try rfl)⟩,fun st f=>(by rw[N.out rfl]at f;cases f)⟩
 .have e:looks p=none:=by
   unfold looks;rw[Co fun h=>f h.1]
  have f: ¬(p.free.length≤12∧p.nodes.length≤60∧p.defs.length≤12):=by
   intro h;apply f;simp only[AX.small,AP,Ap];exact h
  replace f:=AB f;refine LK Tryz.func83 ?_
  (repeat' (first|simp only[go_sem, *]|(refine sx ?_ ?_<;>intro I)|refine sy AA fun x u J=>?_|simp(disch:=first|assumption|omega) only[AU]))
  all_goals first
  |exact⟨fun _=>⟨_,_,_,_,_,_,_,_,_,rfl,by(simp only[go_sem];try rfl)⟩,fun st f=>(by rw[e]at f;cases f)⟩
  |(have f:=f.out;exfalso;omega)
def YH(p:AX):Int:=match looks p with|some _=>0|none=>2
theorem kJ(p:AX):BU (KL Tryz.prog cfg) 44 [.agg [.d (.bv (p.free.map Bp)),.d (.bv (p.nodes.map Ba)),.d (.bv (p.defs.map Bw)),nI p.main]] []=.ok (.ret (nI (YH p)),[]):=by
 refine A7 Tryz.func44 ?_;obtain⟨r,e,a⟩:=rH p 3 [];cases b:looks p with
 |none=>
  obtain⟨h,l,n,o,q,s,t,u,v,rfl,f⟩:=a.no b;replace a:=AB a;have c:YH p=2:=by rw[YH,b]
  exact zBl
 |some st=>
  obtain⟨h,l,sz,m,us,rfl,f⟩:=a.yes st b;have k:=f.box;rw[ET]at k;replace a:=AB a;have c:YH p=0:=by rw[YH,b]
  exact zBl
theorem TH{p:AX}{st:Bo}(g:looks p=some st):BU (KL Tryz.prog cfg) 68 [.agg [.d (.bv (p.free.map Bp)),.d (.bv (p.nodes.map Ba)),.d (.bv (p.defs.map Bw)),nI p.main]] []=.ok (.ret (.d (.bv (st.co.map AR))),[]):=by
 refine A7 Tryz.func68 ?_;obtain⟨r,e,c⟩:=rH p 3 [];obtain⟨h,l,sz,o,us,rfl,b⟩:=c.yes st g;have a:=DI g;have f:p.nodes.length≠0:=by
  have:=AL a.main.2;rw[a.len]at this;omega
 have i:=b.box;have q:=b.co rfl f;rw[ET,Bh f]at i;have s:List.take p.nodes.length (List.map AR st.co)=List.map AR st.co:=By (by simp[a.len]);have j:=a.len;replace c:=AB c;replace b:=AB b;clear a
 (repeat' (first|simp only[go_sem, *,Es,QF]|(refine sx ?_ ?_<;>intro k)|refine sy AA fun x n m=>?_|simp(disch:=first|assumption|omega) only[AU]))
theorem r3(t:Bool):Cg (DH 2) t=.ok (Jc (DH 2) t):=VG _ _
theorem Ky{l:List Bn}{i:Int}{s:Bn}(h:l[i.toNat]? =some s):Bf l i=s.rc:=by simp[Bf,h]
theorem lA(l:List Bn)(D:l.length≤1000):BU (KL Tryz.prog cfg) 61 [.d (.bv (l.map Au))] []=Cg (DH 2) (Ha l):=by
 rw[r3];refine A7 Tryz.func61 ?_;by_cases C:(0:Int)<l.length
 .obtain⟨s0,z⟩:=get_some (l:=l) (i:=0) AA;have e:Bf l 0=s0.rc:=Ky z
  (repeat' (first|simp only[go_sem, *]|(refine sx ?_ ?_<;>intro o)|refine sy AA fun x A u=>?_|simp(disch:=first|assumption|omega) only[AU]))
  .refine An l _ (S:=fun m i (_:Unit)=>⟨[(0,.d (.bv (l.map Au))),(17,nI m),(18,nI i)],[],0,[]⟩)
    (Inv:=fun i B _=>AH (Ha l=Fi l i B.length)) (b0:=()) rfl ⟨?_⟩ ?_ ?_
   .simp only[Ha];rw[D1 (show 0<l.length by omega),D1 (show Bf l 0= -1 by rw[e];assumption)];rfl
   .rintro i y _ F q r b k;rw[List.length_cons,Fi]at b;refine aw ?_;have v:=b;refine rounds (S:=fun a:Int×Nat=>⟨[(0,.d (.bv (l.map Au))),(3,nI a.1),(4,nI a.2),(17,nI l.length),(18,nI i)],[],0,[]⟩)
     (Inv:=fun a=>E7 l a.1∧a.2≤l.length∧AH (Bd l l.length i=Bd l (l.length-a.2) a.1)) (m:=fun a=>l.length+1-a.2) (a:=(i,0)) ⟨⟨AA,AA⟩,AA,⟨rfl⟩⟩ ?_
    rintro⟨at_,n⟩ ⟨⟨hr1,hr2⟩,hn,hcl⟩ IH2;dsimp only at*;have t:at_.toNat<l.length:=AA;obtain⟨s,w⟩:=get_some t;have f:=AH.mk (Ky w)
    (repeat' (first|simp only[go_sem, *]|(refine sx ?_ ?_<;>intro o)|refine sy AA fun x A u=>?_|simp(disch:=first|assumption|omega) only[AU]))
    .refine k.out () ⟨?_⟩;rw[b.out,hcl.out,show at_=0 by assumption,GR,FN]
    .refine IH2.out (s.rc,n+1) AZ ⟨⟨Bs,Bs⟩,AZ,⟨?_⟩⟩;dsimp only;rw[hcl.out];obtain⟨j,c⟩: ∃j,l.length-n=j+1:=⟨l.length-n-1,AA⟩;rw[c,show l.length-(n+1)=j by omega,Bd,f.out];simp only[Ci (show¬at_=0 by assumption),I4];rw[D1 (show E7 l s.rc from⟨Bs,Bs⟩),FN]
    all_goals
     have p:Ha l=false:=by
      rw[v.out,hcl.out];rcases Nat.eq_zero_or_pos (l.length-n)with g|g
      .rw[g,Bd];simp only[Ci (show¬at_=0 by assumption),DO]
      .obtain⟨j,c⟩: ∃j,l.length-n=j+1:=⟨l.length-n-1,AA⟩;rw[c,Bd,f.out];simp only[Ci (show¬at_=0 by assumption),I4];rw[Ci (show¬E7 l s.rc from fun h=>by have:=h.1;have:=h.2;omega),DO,DO]
     rw[p];rfl
   .rintro i _ q r b;refine aw ?_;rw[b.out];rfl
  .have:Ha l=false:=by
    simp only[Ha,e,Ci (show¬s0.rc= -1 by assumption),DO,Gt]
   rw[this];rfl
 .have:Ha l=false:=by simp[Ha];omega
  rw[this];refine aw ?_;rfl
theorem we(l:List Bn)(x y z:Ao)(H:l.length≤1000):BU (KL Tryz.prog cfg) 64 [.agg [.d (.bv (l.map Au)),.d x,.d y,.d z]] []=.ok (.ret (.d (.bool (Ha l))),[]):=by
 have b:Ha l=(decide (0<l.length)&&(decide (Bf l 0= -1)&&Fi l 0 l.length)):=rfl;replace b:=AB b;refine A7 Tryz.func64 ?_;refine aw ?_;refine Aj l (S:=fun i (_:Unit)=>⟨[(1,.ptr [0,0] 0),(3,nI i)],[([0,0],.box [.d (.bv (l.map Au)),.d x,.d y,.d z])],1,[]⟩)
  (Inv:=fun i C _=>AH (Fi l 0 l.length=Fi l i C.length)) (b0:=()) ⟨rfl⟩ ?_ ?_
 .rintro i L _ K q r c o;rw[List.length_cons,Fi]at c;refine aw ?_;refine rounds (S:=fun a:Int×Nat=>⟨[(1,.ptr [0,0] 0),(3,nI i),(4,nI a.1),(5,nI a.2)],[([0,0],.box [.d (.bv (l.map Au)),.d x,.d y,.d z])],1,[]⟩)
   (Inv:=fun a=>E7 l a.1∧a.2≤l.length+1∧AH (Bd l (l.length+1) i=Bd l (l.length+1-a.2) a.1)) (m:=fun a=>l.length+1-a.2) (a:=(i,0)) ⟨⟨AA,AA⟩,AA,⟨rfl⟩⟩ ?_
  rintro⟨at_,n⟩ ⟨⟨hr1,hr2⟩,hn,hcl⟩ IH2;dsimp only at*;have t:at_.toNat<l.length:=AA;obtain⟨s,A⟩:=get_some t;have g:=AH.mk (Ky A);have f:=AH.mk (eK (l:=l) (i:=i) ⟨AA,AA⟩);have v:AH (at_=0→Bd l l.length i=true):=⟨fun h=>by rw[←f.out,hcl.out,h,GR]⟩;have u:AH (Bd l l.length i=false→Ha l=false):=⟨fun h=>by rw[b.out,c.out,h,DO,Gt,Gt]⟩
  (repeat' (first|simp only[go_sem, *]|(refine sx ?_ ?_<;>intro F)|refine sy AA fun x J I=>?_|simp(disch:=first|assumption|omega) only[AU]))
  all_goals first
  |(refine o.out () ⟨?_⟩
    rw[c.out,v.out Bs,FN])
  |(refine IH2.out (s.rc,n+1) AZ ⟨⟨AZ,AZ⟩,AZ,⟨?_⟩⟩
    dsimp only;rw[hcl.out];obtain⟨j,e⟩: ∃j,l.length+1-n=j+1:=⟨l.length+1-n-1,AA⟩;rw[e,show l.length+1-(n+1)=j by omega,Bd,g.out];simp only[Ci (show¬at_=0 by assumption),I4];rw[D1 (show E7 l s.rc from⟨AA,AA⟩),FN])
  |(rw[u.out]
    rw[←f.out,hcl.out];rcases Nat.eq_zero_or_pos (l.length+1-n)with k|k
    .rw[k,Bd];simp only[Ci (show¬at_=0 by assumption)]
    .obtain⟨j,e⟩: ∃j,l.length+1-n=j+1:=⟨l.length+1-n-1,AA⟩;rw[e,Bd,g.out];simp only[Ci (show¬at_=0 by assumption),I4];rw[Ci (show¬E7 l s.rc from fun h=>by have:=h.1;have:=h.2;omega),DO])
 .rintro i _ q r c;have p:AH (Fi l 0 l.length=true):=⟨by rw[c.out];rfl⟩;by_cases D:(0:Int)<l.length
  .obtain⟨s0,B⟩:=get_some (l:=l) (i:=0) AA;have w:=AH.mk (show Bf l 0=s0.rc from Ky B);refine aw ?_;rw[b.out,p.out,w.out,D1 (show 0<l.length by omega),FN,Mk]
  .refine aw ?_;rw[b.out,Ci (show¬0<l.length by omega),DO]
theorem Xh(l:List Bn)(b a:Int)(A:l.length≤1000)(o:HK l)(n:E7 l b)(z:0≤a):BU (KL Tryz.prog cfg) 63 [.d (.bv (l.map Au)),nI b,nI a] []=.ok (.ret (.d (.bool (C3 l b a))),[]):=by
 refine A7 Tryz.func63 ?_;refine aw ?_;refine rounds (S:=fun c:Int×Nat=>⟨[(0,.d (.bv (l.map Au))),(1,nI c.1),(2,nI a)],[],0,[]⟩)
  (Inv:=fun c=>(E7 l c.1∧Bd l c.2 c.1=true∧AH (C3 l b a=decide (a∈R4 l c.2 c.1)))∨(c.1= -1∧c.2=0∧AH (C3 l b a=false))) (m:=fun c=>if c.1= -1 then 0 else c.2+1) (a:=(b,l.length)) (.inl ⟨n,o.rx b n,⟨rfl⟩⟩) ?_
 rintro⟨c,k⟩ hI IH;dsimp only at*;rcases hI with⟨⟨y,h2⟩,i,f⟩|⟨rfl,rfl,f⟩
 .exact zAK
 ·exact zBa
theorem Wu(l:List Bn)(x y z:Ao)(b a:Int)(C:l.length≤1000)(o:HK l)(n:E7 l b)(B:0≤a):BU (KL Tryz.prog cfg) 38 [.agg [.d (.bv (l.map Au)),.d x,.d y,.d z],nI b,nI a] []=.ok (.ret (.d (.bool (C3 l b a))),[]):=by
 refine A7 Tryz.func38 ?_;refine aw ?_;refine rounds (S:=fun c:Int×Nat=>⟨[(1,nI c.1),(2,nI a),(3,.ptr [0,0] 0)],[([0,0],.box [.d (.bv (l.map Au)),.d x,.d y,.d z])],1,[]⟩)
  (Inv:=fun c=>(E7 l c.1∧Bd l c.2 c.1=true∧AH (C3 l b a=decide (a∈R4 l c.2 c.1)))∨(c.1= -1∧c.2=0∧AH (C3 l b a=false))) (m:=fun c=>if c.1= -1 then 0 else c.2+1) (a:=(b,l.length)) (.inl ⟨n,o.rx b n,⟨rfl⟩⟩) ?_
 rintro⟨c,k⟩ hI IH;dsimp only at*;rcases hI with⟨⟨A,h2⟩,i,f⟩|⟨rfl,rfl,f⟩
 .exact zAK
 ·exact zBa
theorem jB(p:AX)(sp ch:List (List Ao))(g w:Ao)(v:Cl)(a:sp.length≤1000000)(h2:ch.length≤1000000)(b:p.free.length≤1000000):BU (KL Tryz.prog cfg) 117 [.agg (pC p),.agg [.d (.bv sp),.d g,.d (.bv ch),.d w],.agg [nI v.kind,nI v.n]] []=.ok (.ret (.d (.bool (v.inB p ch.length sp.length))),[]):=by
 refine A7 Tryz.func117 ?_
 (repeat' (first|simp only[go_sem, *]|(refine sx ?_ ?_<;>intro c)|refine sy AA fun x f e=>?_|simp(disch:=first|assumption|omega) only[AU]))
 all_goals simp[Cl.inB, *]
theorem Nu(p:AX)(sp ch:List (List Ao))(g w:Ao)(l:List Cl)(c:sp.length≤1000000)(h2:ch.length≤1000000)(e:p.free.length≤1000000)(m:l.length≤1000000):BU (KL Tryz.prog cfg) 70 [.agg (pC p),.agg [.d (.bv sp),.d g,.d (.bv ch),.d w],.d (.bv (l.map AN))] []=.ok (.ret (.d (.bool (l.all (Cl.inB p ch.length sp.length)))),[]):=by
 refine A7 Tryz.func70 ?_;refine aw ?_;refine Aj l (S:=fun i (_:Unit)=>⟨[(2,.d (.bv (l.map AN))),(3,.ptr [0,0] 0),(4,.ptr [0,1] 0),(7,nI i)],[([0,0],.box (pC p)),([0,1],.box [.d (.bv sp),.d g,.d (.bv ch),.d w])],2,[]⟩)
  (Inv:=fun i j _=>AH (l.all (Cl.inB p ch.length sp.length)=j.all (Cl.inB p ch.length sp.length))) (b0:=()) ⟨rfl⟩ ?_ ?_
 .rintro i y _ r f h a b;have o:=jB p sp ch g w y c h2 e
  (repeat' (first|simp only[go_sem, *]|(refine sx ?_ ?_<;>intro k)|refine sy AA fun x q n=>?_|simp(disch:=first|assumption|omega) only[AU]))
  all_goals first
  |(refine b.out () ⟨?_⟩;rw[a.out,D9];simp only[*,FN];done)
  |(rw[a.out,D9];simp only[*,DO];done)
 .rintro i _ f h a;refine aw ?_;rw[a.out];rfl
theorem Pf(op:Int):BU (KL Tryz.prog cfg) 69 [nI op] []=.ok (.ret (.d (.bool (DV op))),[]):=by
 refine A7 Tryz.func69 ?_
 (repeat' (first|simp only[go_sem, *]|(refine sx ?_ ?_<;>intro a)|refine sy AA fun x c b=>?_|simp(disch:=first|assumption|omega) only[AU]))
 all_goals simp[DV, *]
theorem OJ(p:AX)(g:A8)(d:CG)(n:Int)(l:0≤g.f9)(o:p.defs[g.f9.toNat]? =some d)(i:d.be.length≤30)(j:d.ac.length≤30)(c:d.own≤g.env.length)(q:g.env.length≤10000)(s:0≤n)(t:n≤d.ac.length):BU (KL Tryz.prog cfg) 118 [.agg (pC p),.agg [nI g.f9,nI g.at_,.d (.bv (g.env.map AN))],nI n] []=.ok (.ret (nI (g.place d n)),[]):=by
 unfold CG.own at c;refine A7 Tryz.func118 ?_;by_cases f:n=0
 ·(repeat' (first|simp only[go_sem, *,A8.place]|(refine sx ?_ ?_<;>intro m)|refine sy AA fun x u r=>?_|simp(disch:=first|assumption|omega) only[AU]))
 .have e:g.env.length-d.ac.length-0+(n-1).toNat<g.env.length:=AA;obtain⟨v,b⟩:=get_some e;have h:AH (g.place d n=v.n):=⟨by
   rw[A8.place,Co f,A8.own];simp only[AM,FD];rw[b];rfl⟩
  have a:((g.env.length:Int)-(d.ac.length:Int)+n-1).toNat=g.env.length-d.ac.length-0+(n-1).toNat:=AA;rw[←a]at b;replace a:=AB a;have k:0≤(g.env.length:Int)-(d.ac.length:Int)+n-1:=AA;refine aw ?_;rw[h.out]
theorem bP{p:AX}{st:Bo}(r:looks p=some st):BU (KL Tryz.prog cfg) 115 [.agg (pC p)] []=.ok (.ret (.d (.bv ((B6 p st.co).map AR))),[]):=by
 have K:=TH r;have g:=DI r;have s:=g.small;simp only[AX.small,AP,Ap]at s;obtain⟨B,C,D⟩:=s;have q:=AB g;clear g;refine A7 Tryz.func115 ?_;by_cases u:p.defs.length=0
 ·(repeat' (first|simp only[go_sem, *]|(refine sx ?_ ?_<;>intro w)|refine sy AA fun x A z=>?_|simp(disch:=first|assumption|omega) only[AU,FL]))
  refine Aj p.nodes (S:=fun i (_:Unit)=>⟨[(1,.ptr [0,0] 0),(3,.emp),(4,.d (.bv (st.co.map AR))),(5,nI i)],[([0,0],.box (pC p))],1,[]⟩)
   (Inv:=fun i t _=>True) (b0:=()) trivial ?_ ?_
  .rintro i y _ n h j _ b;have a: ¬y.op=4:=fun a=>by
    have:=M8 q.out n a;omega
   refine aw ?_;exact b.out () trivial
  .rintro i _ h j _;have:B6 p st.co=[]:=by
    refine BI ?_;rw[B6,Jq];simpa using u
   rw[this];exact au
 ·(repeat' (first|simp only[go_sem, *]|(refine sx ?_ ?_<;>intro w)|refine sy AA fun x A z=>?_|simp(disch:=first|assumption|omega) only[AU,FL]))
  refine Aj p.nodes (S:=fun i (out:List Int)=>⟨[(1,.ptr [0,0] 0),(3,.f8 [1,1] 0 p.defs.length),(4,.d (.bv (st.co.map AR))),(5,nI i)],[([0,0],.box (pC p)),([1,1],.em 1 (out.map AR))],2,[]⟩)
   (Inv:=fun i t out=>out.length=p.defs.length∧AH (B6 p st.co=Fj st.co out t)) (b0:=List.replicate p.defs.length 0) ⟨AG,⟨rfl⟩⟩ ?_ ?_
  .rintro i y out n h j ⟨c,f⟩ b;by_cases a:y.op=4
   .obtain⟨M,N,k,v,F,H,I,m,_,_⟩:=M8 q.out n a;obtain⟨o,J⟩:=get_some (l:=out) (i:=y.n.toNat) AA;have L:y.n.toNat<p.defs.length:=AA;have m:=AB m;refine aw ?_;have e:(out.map AR).set y.n.toNat [.int .i64 v]=(out.set y.n.toNat v).map AR:=by rw[JP];rfl
    rw[e];refine b.out (out.set y.n.toNat v) ⟨by simpa using c,⟨?_⟩⟩;rw[f.out,Fj,D5 a,m.out]
   .refine aw ?_;refine b.out out ⟨c,⟨?_⟩⟩;rw[f.out,Fj,Co a]
  .rintro i out h j ⟨c,f⟩;have O:List.take p.defs.length (List.map AR out)=List.map AR out:=By zFT;refine aw ?_;rw[f.out];rfl
theorem xf(p:AX)(s:BX)(g:A8)(d:CG)(ch:IL)(c i j:Nat)(r:c≤10000)(Y:i≤10000)(K:s.ce[i]? =some g)(H:0≤g.f9)(v:p.defs[g.f9.toNat]? =some d)(a:Oi d)(u:d.be[j]? =some ch)(J:d.own≤g.env.length)(N:g.env.length≤10000)(ac:0≤g.place d ch.at_)(ad:g.place d ch.at_<s.ac.length)(W:p.free.length≤12)(ag:s.ac.length≤24)(ai:s.be.length≤60):
 BU (KL Tryz.prog cfg) 116 [.agg (pC p),.agg (sC s),nI c,nI i,nI j] []=.ok (.ret (.d (.bool (LQ p s d g i j c ch))),[]):=by
 unfold LQ;have Z:=AL u;have B:=a.be;have C:=a.ac;have t:=a.chan ch (AS u);have w:=OJ p g d ch.at_ H v B C J N t.1 t.2.1;have X:=AL K;have V:=AL v;replace a:=AB a;by_cases U:(s.be.length:Int)≤c
 .rw[Kw AA];refine A7 Tryz.func116 ?_;exact au
 .have I:c<s.be.length:=AA;obtain⟨q,P⟩:=get_some I;rw[P];dsimp only;obtain⟨sp,Q⟩:=get_some (l:=s.ac) (i:=(g.place d ch.at_).toNat) AA;have f:AH (Al s.ac (g.place d ch.at_)=sp.dead):=⟨by simp[Al,Q]⟩;have e:AH (Oj p s d g i j q ch=(decide (q.group=i)&&(decide (q.index=j)&&(decide (q.at_=g.place d ch.at_)&&(decide (q.queue.length≤12)&&((decide (q.queue.length=0)|| !Al s.ac q.at_)&&q.queue.all (GF p s.be.length s.ac.length ch.many))))))):=⟨rfl⟩;refine A7 Tryz.func116 ?_
  (repeat' (first|simp only[go_sem, *]|(refine sx ?_ ?_<;>intro r)|refine sy AA fun x R O=>?_|simp(disch:=first|assumption|omega) only[AU]))
  all_goals try
   have D:=e.out;have F:=f.out;clear w e f;congr 3;grind
  all_goals
   have n:AH (Oj p s d g i j q ch=q.queue.all (GF p s.be.length s.ac.length ch.many)):=⟨by
    have D:=e.out;have F:=f.out;clear w e f;grind⟩
   refine Aj q.queue (S:=fun o (_:Unit)=>⟨[(5,.ptr [0,0] 0),(6,.ptr [0,1] 0),(11,.ptr [0,2] 0),(13,.ptr [0,3] 0),(14,nI o)],[([0,0],.box (pC p)),([0,1],.box (sC s)),([0,2],.box [nI i,nI j,nI (g.place d ch.at_),.d (.bv (q.queue.map BD))]),([0,3],.box [nI ch.at_,nI ch.many])],4,[]⟩)
    (Inv:=fun _ T _=>AH (q.queue.all (GF p s.be.length s.ac.length ch.many)=T.all (GF p s.be.length s.ac.length ch.many))) (b0:=()) ⟨rfl⟩ ?_ ?_
   .rintro o y _ ar L M b A;have m:=fun h=>Nu p (s.ac.map Au) (s.be.map DA) (.bv (s.ce.map BF)) (.bv (s.waits.map Ae)) y Aa Aa AA h;rw[As,As]at m;by_cases z:(y.length:Int)=ch.many
    .have m:=m AA;have k:AH (GF p s.be.length s.ac.length ch.many y=y.all (Cl.inB p s.be.length s.ac.length)):=⟨by
      rw[GF,D1 z,FN]⟩
     (repeat' (first|simp only[go_sem, *]|(refine sx ?_ ?_<;>intro r)|refine sy AA fun x R O=>?_|simp(disch:=first|assumption|omega) only[AU]))
     all_goals first
     |(refine A.out () ⟨?_⟩;rw[b.out,D9,k.out];simp only[*,FN];done)
     |(rw[n.out,b.out,D9,k.out];simp only[*,DO];done)
    .have k:AH (GF p s.be.length s.ac.length ch.many y=false):=⟨by
      rw[GF,Ci z,DO]⟩
     clear m;refine aw ?_;rw[n.out,b.out,D9,k.out,DO]
   .rintro o _ L M b;refine aw ?_;rw[n.out,b.out];rfl
theorem fS(p:AX)(st:Bo)(s:BX)(a0:looks p=some st)(a5:s.small=true):BU (KL Tryz.prog cfg) 67 [.agg (pC p),.agg (sC s)] []=.ok (.ret (.d (.bool (CX p (B6 p st.co) s 0 0 1 s.ce))),[]):=by
 have az:=bP a0;have ad:=AH.mk (DI a0);have a4:=ad.out.small;simp only[AX.small,AP,Ap]at a4;obtain⟨bo,cp,cs⟩:=a4;simp only[BX.small,AP,Ap]at a5;obtain⟨cl,c9,cn,dd⟩:=a5;have c2:(B6 p st.co).length=p.defs.length:=by rw[B6,Jq];simp
 generalize U:B6 p st.co=gs at*;replace U:=AB U;refine A7 Tryz.func67 ?_;refine aw ?_;refine Aj s.ce (S:=fun i (a:Nat×Nat)=>⟨[(2,.ptr [0,0] 0),(3,.ptr [0,1] 0),(5,.d (.bv (gs.map AR))),(6,nI a.1),(7,nI a.2),(8,nI i)],[([0,0],.box (pC p)),([0,1],.box (sC s))],2,[]⟩)
  (Inv:=fun i F a=>a.1≤30*i∧a.2≤30*i+1∧AH (CX p gs s 0 0 1 s.ce=CX p gs s i a.1 a.2 F)) (b0:=(0,1)) ⟨AG,AG,⟨rfl⟩⟩ ?_ ?_
 .rintro i g ⟨c,k⟩ cc b4 b6 ⟨b1,bl,D⟩ P;dsimp only at*;by_cases ds:g.f9<0
  .have T:AH (CX p gs s 0 0 1 s.ce=false):=⟨by rw[D.out,CX,AX.def?,Co AA]⟩;refine aw ?_;rw[T.out]
  by_cases d0:(p.defs.length:Int)≤g.f9
  .have T:AH (CX p gs s 0 0 1 s.ce=false):=⟨by rw[D.out,CX,AX.def?,D5 AA,Kw AA]⟩;refine aw ?_;rw[T.out]
  have bi:0≤g.f9:=AA;have bv:g.f9.toNat<p.defs.length:=AA;obtain⟨d,R⟩:=get_some bv;have z:=CA ad.out R;obtain⟨v,M⟩:=get_some (l:=gs) (i:=g.f9.toNat) AA;have c6:d.own≤v∧v≤5060:=by
   obtain⟨_,_,s0,_,_,_,_,c8,be,O,_⟩:=z.node;rw[U.out,M]at O;cases O;have:=PK z.ok;omega
  have r:AH (CX p gs s 0 0 1 s.ce=(KO p gs s i c k g d&&CX p gs s (i+1) (c+d.be.length) (k+d.ac.length) (s.ce.drop (i+1)))):=⟨by
   rw[D.out,CX,AX.def?,D5 bi,R]⟩
  have o:AH (KO p gs s i c k g d=(decide (E7 s.ac g.at_)&&(decide ((g.env.length:Int)=v)&&(g.env.all (Cl.inB p s.be.length s.ac.length)&&(Du d c k g&&E2 p s d g i c 0 d.be))))):=⟨by
   rw[KO,M];rfl⟩
  have f:=z.ok;have cx:=f.be;have c0:=f.ac;have c1:d.own=d.be.length+d.ac.length:=rfl;replace f:=AB f;replace z:=AB z;by_cases C:(g.env.length:Int)=v
  .have a7:=Nu p (s.ac.map Au) (s.be.map DA) (.bv (s.ce.map BF)) (.bv (s.waits.map Ae)) g.env Aa Aa AA AA;rw[As,As]at a7;have c5:g.env.length≤5060:=AA;have V:d.own≤g.env.length:=AA;replace C:=AB C;have c3:=AH.mk (show gs[g.f9.toNat]? =some v from M);rw[←C.out]at M;have de:IntKind.i64.wrap ((g.env.length:Int)-(d.ac.length:Int))=(g.env.length:Int)-(d.ac.length:Int):=wrap_id AA AA;have df:IntKind.i64.wrap ((g.env.length:Int)-(d.ac.length:Int)-(d.be.length:Int))=((g.env.length-d.be.length-d.ac.length:Nat):Int):=by rw[wrap_id AA AA];omega
   have dn:IntKind.i64.wrap ((d.be.length:Int)+(d.ac.length:Int))=(d.be.length:Int)+(d.ac.length:Int):=wrap_id AA AA
   (repeat' (first|simp only[go_sem, *]|(refine sx ?_ ?_<;>intro ag)|refine sy AA fun x a' a1=>?_|simp(disch:=first|assumption|omega) only[AU]))
   all_goals try
    have be:=r.out;have O:=o.out;clear az o r P;congr 3;grind [E7]
   have J:E7 s.ac g.at_:=⟨AA,AA⟩;have H:g.env.all (Cl.inB p s.be.length s.ac.length)=true:=Bs;have I:AH (CX p gs s 0 0 1 s.ce=((Du d c k g&&E2 p s d g i c 0 d.be)&&CX p gs s (i+1) (c+d.be.length) (k+d.ac.length) (s.ce.drop (i+1)))):=⟨by
    rw[r.out,o.out,D1 J,D1 C.out,H];simp⟩
   replace J:=AB J;replace H:=AB H;have a2:AH (Du d c k g=decide (g.env.drop (g.env.length-d.be.length-d.ac.length+0)=FO c k d)):=⟨rfl⟩;clear a7 o r;refine Aj (FO c k d) (S:=fun b (a:Nat×Nat)=>⟨[(2,.ptr [0,0] 0),(3,.ptr [0,1] 0),(5,.d (.bv (gs.map AR))),(6,nI a.1),(7,nI a.2),(8,nI i),(9,.ptr [0,2] 0),(10,.ptr [0,3] 0),(11,nI (((g.env.length-d.be.length-d.ac.length:Nat):Int))),(12,nI b)],[([0,0],.box (pC p)),([0,1],.box (sC s)),([0,2],.box [nI g.f9,nI g.at_,.d (.bv (g.env.map AN))]),([0,3],.box [.d (.bv (d.be.map BC)),.d (.bv (d.ac.map Aw)),.d (.bv (d.rules.map BA))])],4,[]⟩)
    (Inv:=fun b F a=>a.1=c+min b d.be.length∧a.2=k+(b-d.be.length)∧AH (Du d c k g=decide (g.env.drop (g.env.length-d.be.length-d.ac.length+b)=F))) (b0:=(c,k)) ⟨AG,AG,a2⟩ ?_ ?_
   .rintro b y ⟨c',N⟩ W A av ⟨u,w,L⟩ Z;dsimp only at*;rw[KR]at A;obtain⟨e,b',bx⟩:=sN V A;have q:AH (Du d c k g=(decide (e=y)&&decide (g.env.drop (g.env.length-d.be.length-d.ac.length+(b+1))=(FO c k d).drop (b+1)))):=⟨by
     rw[L.out,bx,MD];simp⟩
    have ac:(b:Int)<(d.be.length:Int)+(d.ac.length:Int):=AA;have Y:(((g.env.length-d.be.length-d.ac.length:Nat):Int)+(b:Int)).toNat=g.env.length-d.be.length-d.ac.length+b:=AA;rw[←Y]at b';have c7:0≤((g.env.length-d.be.length-d.ac.length:Nat):Int)+(b:Int):=AA;replace Y:=AB Y;have dm:IntKind.i64.wrap (((g.env.length-d.be.length-d.ac.length:Nat):Int)+(b:Int))=((g.env.length-d.be.length-d.ac.length:Nat):Int)+(b:Int):=wrap_id AA AA;have c4:AH (g.env.length≤10000):=⟨by have:=C.out;omega⟩;by_cases bs:b<d.be.length
    .have b3: ¬(d.be.length:Int)≤(b:Int):=AA;rw[NP _ _ _ bs]at W;cases W;obtain rfl:c'=c+b:=AA;have t:=AB w;clear u w;rw[←Int.natCast_add]at q;by_cases m:e=⟨3,((c+b:Nat):Int)⟩
     .subst m;refine aw ?_;refine Z.out (c+b+1,N) ⟨by dsimp only;have:=t.out;omega,by dsimp only;have:=t.out;omega,⟨?_⟩⟩;rw[q.out];simp
     .have b8:(decide (e.kind=3)&&decide (e.n=((c+b:Nat):Int)))=false:=by
       rw[←Lm,AP,Ap,Ap];rintro⟨h1,h2⟩;exact m (by cases e;simp_all)
      exact zCc
    .have b3:(d.be.length:Int)≤(b:Int):=AA;have bc:=NQ c k d (j:=b-d.be.length) AA;rw[show d.be.length+(b-d.be.length)=b by omega,W]at bc;cases bc;obtain rfl:N=k+(b-d.be.length):=AA;have t:=AB u;clear u w;rw[←Int.natCast_add]at q;by_cases m:e=⟨4,((k+(b-d.be.length):Nat):Int)⟩
     .subst m;refine aw ?_;refine Z.out (c',k+(b-d.be.length)+1) ⟨by dsimp only;have:=t.out;omega,by dsimp only;have:=t.out;omega,⟨?_⟩⟩;rw[q.out];simp
     .have b8:(decide (e.kind=4)&&decide (e.n=((k+(b-d.be.length):Nat):Int)))=false:=by
       rw[←Lm,AP,Ap,Ap];rintro⟨h1,h2⟩;exact m (by cases e;simp_all)
      exact zCc
   .rintro b ⟨c',N⟩ A av ⟨u,w,L⟩;dsimp only at*;have B:=A.out;rw[KR]at B;obtain rfl:c'=c+d.be.length:=AA;obtain rfl:N=k+d.ac.length:=AA;clear u w;have ac: ¬(b:Int)<(d.be.length:Int)+(d.ac.length:Int):=AA;replace B:=AB B;have a3:AH (Du d c k g=true):=⟨by
     rw[L.out,EX (by have:=B.out;omega)];simp⟩
    have ar:AH (CX p gs s 0 0 1 s.ce=(E2 p s d g i c 0 d.be&&CX p gs s (i+1) (c+d.be.length) (k+d.ac.length) (s.ce.drop (i+1)))):=⟨by
     rw[I.out,a3.out,FN]⟩
    refine aw ?_;clear L A B av ac a2 I b;refine Aj d.be (S:=fun j (_:Unit)=>⟨[(2,.ptr [0,0] 0),(3,.ptr [0,1] 0),(5,.d (.bv (gs.map AR))),(6,nI (((c+d.be.length:Nat):Int))),(7,nI (((k+d.ac.length:Nat):Int))),(8,nI i),(10,.ptr [0,2] 0),(14,nI j)],[([0,0],.box (pC p)),([0,1],.box (sC s)),([0,2],.box [.d (.bv (d.be.map BC)),.d (.bv (d.ac.map Aw)),.d (.bv (d.rules.map BA))])],3,[]⟩)
     (Inv:=fun j F _=>AH (E2 p s d g i c 0 d.be=E2 p s d g i c j F)) (b0:=()) ⟨rfl⟩ ?_ ?_
    .rintro j ch _ X b5 b7 h bk;have K:=Qe a3.out V J.out H.out (n:=ch.at_) (f.out.chan ch (AS X)).1 (f.out.chan ch (AS X)).2.1;have ai:=xf p s g d ch (c+j) i j AA AA cc bi R f.out X V AA K.1 K.2 bo cl cn;have dq:IntKind.i64.wrap (((c+d.be.length:Nat):Int)-(d.be.length:Int))=(c:Int):=by rw[wrap_id AA AA];omega
     have dr:IntKind.i64.wrap ((c:Int)+(j:Int))=((c+j:Nat):Int):=zFZ
     replace K:=AB K;rw[E2]at h;cases a6:LQ p s d g i j (c+j) ch with
     |true=>
      rw[a6]at ai h;refine aw ?_;refine bk.out () ⟨?_⟩;rw[h.out,FN]
     |false=>
      rw[a6]at ai h;refine aw ?_;rw[ar.out,h.out,DO,DO]
    .rintro j _ b5 b7 h;refine aw ?_;refine P.out (c+d.be.length,k+d.ac.length) ⟨AZ,AZ,⟨?_⟩⟩;dsimp only;rw[ar.out,h.out,E2,FN]
  ·(repeat' (first|simp only[go_sem, *]|(refine sx ?_ ?_<;>intro ag)|refine sy AA fun x a' a1=>?_|simp(disch:=first|assumption|omega) only[AU]))
   all_goals
    have be:=r.out;have O:=o.out;clear az o r P;congr 3;grind [E7]
 .rintro i ⟨c,k⟩ b4 b6 ⟨b1,bl,D⟩;dsimp only at*;have b2:AH (CX p gs s 0 0 1 s.ce=(decide (c=s.be.length)&&decide (k=s.ac.length))):=⟨by rw[D.out,CX]⟩
  (repeat' (first|simp only[go_sem, *]|(refine sx ?_ ?_<;>intro ag)|refine sy AA fun x a' a1=>?_|simp(disch:=first|assumption|omega) only[AU]))
  all_goals
   rw[b2.out];congr 3;grind
def CV(p:AX)(s:BX):Int:=match looks p with|some st=>if EA p st.co s=true then 0 else 2|none=>2
theorem kK(p:AX)(s:BX):BU (KL Tryz.prog cfg) 32 [.agg (pC p),.agg (sC s)] []=.ok (.ret (nI (CV p s)),[]):=by
 have R:=kJ p;cases g:looks p with
 |none=>
  have r:CV p s=2:=by rw[CV,g]
  have L:YH p=2:=by rw[YH,g]
  rw[L]at R;rw[r];refine A7 Tryz.func32 ?_;exact au
 |some st=>
  have L:YH p=0:=by rw[YH,g]
  rw[L]at R;have r:AH (CV p s=if EA p st.co s=true then 0 else 2):=⟨by rw[CV,g]⟩;by_cases c:s.small=true
  .have C:AH (EA p st.co s=false→CV p s=2):=⟨fun h=>by rw[r.out,h];rfl⟩;have K:=AH.mk (DI g);have X:=K.out.small;simp only[AX.small,AP,Ap]at X;obtain⟨a4,a5,a6⟩:=X;have j:AH (EA p st.co s=(Ha s.ac&&(Gw s.ac (s.ac.drop 1)&&(CX p (B6 p st.co) s 0 0 1 s.ce&&s.waits.all (Ca p st.co s))))):=⟨by rw[EA,c,FN]⟩;have U:=fS p st s g c;have be:=TH g;simp only[BX.small,AP,Ap]at c;obtain⟨bx,b1,b2,b3⟩:=c;have b4: ¬(24:Int)<s.ac.length:=AA;have b5: ¬(40:Int)<s.ce.length:=AA;have b6: ¬(60:Int)<s.be.length:=AA;have b7: ¬(40:Int)<s.waits.length:=AA;have Y:=we s.ac (.bv (s.ce.map BF)) (.bv (s.be.map DA)) (.bv (s.waits.map Ae)) AA;cases H:Ha s.ac with
   |false=>
    rw[H]at Y j;refine A7 Tryz.func32 ?_;refine aw ?_;all_goals first
    |(exfalso;omega)
    |rw[C.out zFW]
   |true=>
    rw[H,FN]at j;rw[H]at Y;have B:=VD H;have bi:=B.top;replace B:=AB B;refine A7 Tryz.func32 ?_;refine aw ?_;refine Aj (s.ac.drop 1) (S:=fun i (_:Unit)=>⟨[(2,.ptr [0,0] 0),(3,.ptr [0,1] 0),(5,nI ((i:Int)+1))],[([0,0],.box (pC p)),([0,1],.box (sC s))],2,[]⟩)
     (Inv:=fun i P _=>AH (Gw s.ac (s.ac.drop 1)=Gw s.ac P)) (b0:=()) ⟨rfl⟩ ?_ ?_
    .rintro i y _ J m F b A;rw[He]at J;rw[Io]at m;have O:((i:Int)+1).toNat=1+i:=AA;rw[←O]at J;replace O:=AB O;have V:(i:Int)+1<s.ac.length:=AA;have a7:0≤(i:Int)+1:=AA;have ar:E7 s.ac y.rc:=by
      have Q:=B.out.rx ((i:Int)+1) ⟨AA,AA⟩;obtain⟨k,ai⟩: ∃k,s.ac.length=k+1:=⟨s.ac.length-1,AA⟩;rw[ai]at Q;have h2:=(GQ AA Q).1
      rwa [Ky J]at h2
     obtain⟨bs,bv⟩:=ar;obtain⟨z,a⟩:=get_some (l:=s.ac) (i:=y.rc.toNat) AA;have q:AH (Al s.ac y.rc=z.dead):=⟨by simp[Al,a]⟩;rw[Gw]at b;cases N:y.dead<;>cases ad:z.dead;all_goals (refine aw ?_)
     all_goals first
     |(refine A.out () ⟨?_⟩;rw[b.out,q.out,N,ad];rfl)
     |(refine A.out () ⟨?_⟩;rw[b.out,N];rfl)
     |(rw[C.out (by rw[j.out,b.out,q.out,N,ad];rfl)])
    .rintro i _ m F b;have D:=m.out;rw[Io]at D;have V: ¬(i:Int)+1<s.ac.length:=AA;replace D:=AB D;rw[Gw]at b;cases M:CX p (B6 p st.co) s 0 0 1 s.ce with
     |false=>
      rw[M]at U;refine aw ?_;rw[C.out (by rw[j.out,M,DO,Gt])]
     |true=>
      rw[M]at U j;refine aw ?_;have av:=b;clear b m D F V;refine Aj s.waits (S:=fun i (_:Unit)=>⟨[(2,.ptr [0,0] 0),(3,.ptr [0,1] 0),(6,.d (.bv (st.co.map AR))),(7,nI i)],[([0,0],.box (pC p)),([0,1],.box (sC s))],2,[]⟩)
       (Inv:=fun i P _=>AH (EA p st.co s=P.all (Ca p st.co s))) (b0:=()) ⟨?_⟩ ?_ ?_
      .rw[j.out,av.out,FN,FN]
      .rintro i w _ J m F b A;have n:AH (Ca p st.co s w=(decide (E7 s.ac w.at_)&&(!Al s.ac w.at_&&(decide (0≤w.node)&&((match p.nodes[w.node.toNat]? with|some x=>DV x.op|none=>false)&&(decide ((w.env.length:Int)=(st.co[w.node.toNat]?).getD 0)&&w.env.all (Cl.inB p s.be.length s.ac.length))))))):=⟨rfl⟩
       have f:AH (Ca p st.co s w=false→CV p s=2):=⟨fun h=>C.out (by rw[b.out,D9,h,DO])⟩;by_cases a1:w.at_<0
       .have a:AH (CV p s=2):=⟨f.out (by rw[n.out,Ci (show¬E7 s.ac w.at_ from fun h=>by have:=h.1;omega)];simp)⟩;refine aw ?_;all_goals rw[a.out]
       by_cases a2:(s.ac.length:Int)≤w.at_
       .have a:AH (CV p s=2):=⟨f.out (by rw[n.out,Ci (show¬E7 s.ac w.at_ from fun h=>by have:=h.2;omega)];simp)⟩;refine aw ?_;all_goals rw[a.out]
       have a3:0≤w.at_:=AA;obtain⟨sp,az⟩:=get_some (l:=s.ac) (i:=w.at_.toNat) AA;have q:AH (Al s.ac w.at_=sp.dead):=⟨by simp[Al,az]⟩;have ag:AH (decide (E7 s.ac w.at_)=true):=⟨D1 ⟨AA,AA⟩⟩;by_cases bk:w.node<0
       .have a:AH (CV p s=2):=⟨f.out (by rw[n.out,Ci (show¬0≤w.node by omega)];simp)⟩
        exact zBX
       by_cases bl:(p.nodes.length:Int)≤w.node
       .have a:AH (CV p s=2):=⟨f.out (by rw[n.out,Kw (show p.nodes.length≤w.node.toNat by omega)];simp)⟩
        exact zBX
       have bo:0≤w.node:=AA;obtain⟨x,e⟩:=get_some (l:=p.nodes) (i:=w.node.toNat) AA;obtain⟨v,_,I,v0,v1,_⟩:=K.out.node _ x e;have a':=AB K.out.len;have bc:=AL I;by_cases t:(w.env.length:Int)=v
       .have a0:=Nu p (s.ac.map Au) (s.be.map DA) (.bv (s.ce.map BF)) (.bv (s.waits.map Ae)) w.env Aa Aa AA AA;rw[As,As]at a0;have Z:AH (Ca p st.co s w=(decide (E7 s.ac w.at_)&&(!Al s.ac w.at_&&(DV x.op&&w.env.all (Cl.inB p s.be.length s.ac.length))))):=⟨by
         rw[n.out,D1 (show 0≤w.node by omega),e,I];simp[t]⟩
        rw[←t]at I;replace t:=AB t;cases W:sp.dead with
        |true=>
         have a:AH (CV p s=2):=⟨f.out (by rw[Z.out,q.out,W];simp)⟩
         exact zBV
        |false=>
         have ac:AH (Ca p st.co s w=(DV x.op&&w.env.all (Cl.inB p s.be.length s.ac.length))):=⟨by
          rw[Z.out,ag.out,q.out,W];simp⟩
         (repeat' (first|simp only[go_sem, *,Pf]|(refine sx ?_ ?_<;>intro o)|refine sy AA fun x e u=>?_|simp(disch:=first|assumption|omega) only[AU]))
         all_goals first
         |(refine A.out () ⟨?_⟩;rw[b.out,D9,ac.out];simp only[*,FN];done)
         |(rw[f.out (by rw[ac.out];simp only[*,DO,Gt])];done)
       .have a:AH (CV p s=2):=⟨f.out (by rw[n.out,I,Ci (show¬(w.env.length:Int)=(some v).getD 0 from t)];simp)⟩
        exact zBV
      .rintro i _ m F b;have a:AH (CV p s=0):=⟨by rw[r.out,b.out];rfl⟩;refine aw ?_;rw[a.out]
  .have T:CV p s=2:=by
    rw[r.out,EA];simp[c]
   rw[T];have c:AH (¬(s.ac.length≤24∧s.ce.length≤40∧s.be.length≤60∧s.waits.length≤40)):=⟨by simpa[BX.small]using c⟩;clear T;refine A7 Tryz.func32 ?_
   (repeat' (first|simp only[go_sem, *]|(refine sx ?_ ?_<;>intro o)|refine sy AA fun x e u=>?_|simp(disch:=first|assumption|omega) only[AU]))
   all_goals (have:=c.out;exfalso;omega)
theorem V5{p:AX}{s:BX}{d:CG}{g:A8}{i c:Nat}: ∀{l:List IL} {j:Nat},E2 p s d g i c j l=true→ ∀(t:Nat) (ch:IL),l[t]? =some ch→LQ p s d g i (j+t) (c+(j+t)) ch=true
 |x::l,j,h,t,ch,ht=>by
  rw[E2,AP]at h;cases t with
  |zero=>
   simp only[F4,Cs]at ht;subst ht;exact h.1
  |succ t=>
   rw[GS]at ht;have:=V5 h.2 t ch ht
   rwa [show j+1+t=j+(t+1) by omega]at this
theorem UD{p:AX}(n:BO p co){s:BX}: ∀(l:List A8) (i c k:Nat),CX p (B6 p co) s i c k l=true→
 (∀g∈l,g.env.length≤10000)∧ ∀a,c≤a→a<s.be.length→ ∃q g d ch i j,s.be[a]? =some q∧Oj p s d g i j q ch=true∧ch.many≤3
 |[],i,c,k,h=>by
  rw[CX,AP,Ap]at h;exact⟨fun g w=>(by cases w),fun a e h2=>AA⟩
 |g::l,i,c,k,h=>by
  rw[CX]at h;cases b:p.def? g.f9 with
  |none=>rw[b]at h;cases h
  |some d=>
   rw[b]at h;simp only[AP]at h;obtain⟨e,h2⟩:=h;obtain⟨x,z⟩:=UD n l _ _ _ h2;rw[AX.def?]at b;split at b
   .rename_i B;have f:=CA n b;rw[KO]at e;simp only[AP,Ap]at e;obtain⟨_,r,_,_,v⟩:=e;obtain⟨_,_,s0,_,_,_,_,H,I,A,_⟩:=f.node;rw[A]at r;have F:=PK f.ok;simp only[GO]at r;refine⟨fun y m=>?_,fun a C u=>?_⟩
    .rcases D0.1 m with rfl|m
     .omega
     .exact x y m
    .by_cases D:a<c+d.be.length
     .obtain⟨ch,o⟩:=get_some (l:=d.be) (i:=a-c) AA;have:=V5 v (a-c) ch o;rw[show c+(0+(a-c))=a by omega,LQ]at this;cases t:s.be[a]? with
      |none=>rw[t]at this;cases this
      |some q=>
       rw[t]at this;exact⟨q,g,d,ch,_,_,rfl,this,(f.ok.chan ch (AS o)).2.2.2⟩
     .exact z a AA u
   .cases b
theorem PY{p:AX}{st:Bo}(z:looks p=some st){s:BX}(h:EA p st.co s=true):s.Fits:=by
 have c:=DI z;simp only[EA,BX.small,AP,Ap]at h;obtain⟨⟨D,F,o,H⟩,_,_,w,B⟩:=h;obtain⟨g1,r⟩:=UD c _ _ _ _ w;refine⟨AA,AA,o,AA,fun x b=>by have:=g1 x b;omega,fun x b=>?_,fun x b=>?_⟩
 .obtain⟨a,e⟩:=II b;have t:=(BV.1 e).1;obtain⟨q,g,d,ch,i,j,m,l,J⟩:=r a AA t;rw[e]at m;cases m;simp only[Oj,AP,Ap,D4]at l;obtain⟨_,_,_,I,_,u⟩:=l;refine⟨AA,fun y C=>?_⟩;have:=u y C;simp only[GF,AP,Ap]at this;omega
 .have:=D4.1 B x b;simp only[Ca,AP,Ap]at this;obtain⟨_,_,_,k,f,_⟩:=this;cases n:p.nodes[x.node.toNat]? with
  |none=>rw[n]at k;cases k
  |some y=>
   obtain⟨v,_,A,v0,v1,_⟩:=c.node _ y n;rw[A]at f;simp only[GO]at f;omega
def HP(p:AX)(l:List A8):Nat×Nat:=l.foldl (fun a g=>match p.def? g.f9 with|some d=>(a.1+d.be.length,a.2+d.ac.length)|none=>a) (0,1)
structure Mm(p:AX)(sz:List Int)(s:BX)(i:Nat)(g:A8)(d:CG):Prop where
 f9:p.def? g.f9=some d
 at_:E7 s.ac g.at_
 len:(g.env.length:Int)=((B6 p sz)[g.f9.toNat]?).getD 0
 of:g.env.all (Cl.inB p s.be.length s.ac.length)=true
 wt:Du d (HP p (s.ce.take i)).1 (HP p (s.ce.take i)).2 g=true
 be: ∀(j:Nat) ch,d.be[j]? =some ch→ ∃q,s.be[(HP p (s.ce.take i)).1+j]? =some q∧q.group=i∧q.index=j∧q.at_=g.place d ch.at_
structure Hd(p:AX)(s:BX)(q:Gp):Prop where
 len:q.queue.length≤12
 dead:q.queue.length=0∨Al s.ac q.at_=false
 msgs: ∀m∈q.queue,GF p s.be.length s.ac.length (EE p s q) m=true
structure GD(p:AX)(sz:List Int)(s:BX):Prop where
 small:s.small=true
 tree:HK s.ac
 dead: ∀(i:Nat) x,1≤i→s.ac[i]? =some x→x.dead=true∨Al s.ac x.rc=false
 grp: ∀(i:Nat) g,s.ce[i]? =some g→ ∃d,Mm p sz s i g d
 tot:HP p s.ce=(s.be.length,s.ac.length)
 que: ∀(c:Nat) q,s.be[c]? =some q→Hd p s q
 wait: ∀w∈s.waits,Ca p sz s w=true
variable{m:List Bn}
theorem Tg{l:List Bn}:Gw l m=true↔ ∀x∈m,x.dead=true∨Al l x.rc=false:=by
 induction m with
 |nil=>simp[Gw]
 |cons x m a=>
  rw[Gw,AP,a];simp only[I8,HW,D0,HE]
theorem XG(p:AX)(l:List A8)(g:A8){d:CG}(h:p.def? g.f9=some d):HP p (l++[g])=((HP p l).1+d.be.length,(HP p l).2+d.ac.length):=by
 unfold HP;rw[List.foldl_append];simp only[Ms,List.foldl_nil,h]
theorem XH{p:AX}{l:List A8}{i:Nat}{g:A8}{d:CG}(a:l[i]? =some g)(h:p.def? g.f9=some d):HP p (l.take (i+1))=((HP p (l.take i)).1+d.be.length,(HP p (l.take i)).2+d.ac.length):=by
 rw[F6,a];exact XG p _ g h
theorem Oy{p:AX}{s:BX}{d:CG}{g:A8}{i c:Nat}: ∀{l:List IL} {j:Nat},E2 p s d g i c j l=true↔ ∀(t:Nat) ch,l[t]? =some ch→LQ p s d g i (j+t) (c+(j+t)) ch=true
 |[],j=>by simp[E2]
 |x::l,j=>by
  rw[E2,AP,Oy (j:=j+1)];constructor
  .rintro⟨h1,h2⟩ t ch a;cases t with
   |zero=>
    simp only[F4,Cs]at a;subst a;exact h1
   |succ t=>
    rw[GS]at a;have:=h2 t ch a
    rwa [show j+1+t=j+(t+1) by omega]at this
  .intro h;refine⟨h 0 x rfl,fun t ch a=>?_⟩;have:=h (t+1) ch (by rw[GS];exact a)
   rwa [show j+(t+1)=j+1+t by omega]at this
theorem UE{p:AX}{sz:List Int}{s:BX}: ∀{l:List A8} {i:Nat},s.ce.drop i=l→i≤s.ce.length→
 (CX p (B6 p sz) s i (HP p (s.ce.take i)).1 (HP p (s.ce.take i)).2 l=true↔HP p s.ce=(s.be.length,s.ac.length)∧ ∀(k:Nat) g,i≤k→s.ce[k]? =some g→ ∃d,p.def? g.f9=some d∧KO p (B6 p sz) s k (HP p (s.ce.take k)).1 (HP p (s.ce.take k)).2 g d=true)
 |[],i,hd,hi=>by
  have m:s.ce.length≤i:=by
   have:=congrArg List.length hd;simp at this;omega
  rw[CX,AP,Ap,Ap,By m];constructor
  .rintro⟨a,h2⟩;exact⟨by rw[←a,←h2],fun k g n b=>by have:=AL b;omega⟩
  .rintro⟨h,_⟩;rw[h];exact⟨rfl,rfl⟩
 |g::l,i,hd,hi=>by
  have b:s.ce[i]? =some g:=by
   have:=congrArg (fun l=>l[0]?) hd;simpa using this
  have m:=AL b;have r:s.ce.drop (i+1)=l:=by
   rw[Ag b]at hd;exact(TY hd).2
  rw[CX];cases f:p.def? g.f9 with
  |none=>
   simp only[AM,false_iff];rintro⟨_,h⟩;obtain⟨d,a,_⟩:=h i g (Es _) b;rw[f]at a;cases a
  |some d=>
   have o:=UE (p:=p) (sz:=sz) (s:=s) r m;rw[XH b f]at o;simp only[AP,o];constructor
   .rintro⟨a,h2,e⟩;refine⟨h2,fun k j n c=>?_⟩;by_cases t:k=i
    .subst t;rw[b]at c;cases c;exact⟨d,f,a⟩
    .exact e k j AA c
   .rintro⟨a,h2⟩;obtain⟨u,e,q⟩:=h2 i g (Es _) b;rw[f]at e;cases e;exact⟨q,a,fun k j n c=>h2 k j AA c⟩
variable{ch:IL}
theorem MM{p:AX}{s:BX}{i:Nat}{g:A8}{d:CG}{q:Gp}(f:s.ce[i]? =some g)(a:p.def? g.f9=some d)(c:d.be[j]? =some ch)(b:q.group=i)(h2:q.index=j):EE p s q=ch.many:=by
 have e:p.defs[g.f9.toNat]? =some d:=by
  rw[AX.def?]at a;split at a
  .exact a
  .cases a
 simp[EE,b,h2,f,e,c]
theorem FX{p:AX}{d:CG}(h:p.def? n=some d):0≤n∧p.defs[n.toNat]? =some d:=by
 rw[AX.def?]at h;split at h
 .exact⟨Bs,h⟩
 .cases h
theorem jV{p:AX}{sz:List Int}{s:BX}(e: ∀(i:Nat) g,s.ce[i]? =some g→ ∃d,Mm p sz s i g d): ∀(n:Nat),n≤s.ce.length→ ∀c,c<(HP p (s.ce.take n)).1→ ∃i g d j ch,i<n∧s.ce[i]? =some g∧Mm p sz s i g d∧d.be[j]? =some ch∧c=(HP p (s.ce.take i)).1+j
 |0,_,c,h=>by simp[HP]at h
 |n+1,hn,c,h=>by
  obtain⟨g,a⟩:=get_some (l:=s.ce) (i:=n) AA;obtain⟨d,b⟩:=e n g a;rw[XH a b.f9]at h;by_cases f:c<(HP p (s.ce.take n)).1
  .obtain⟨i,g,d,j,ch,m,h2⟩:=jV e n AA c f;exact⟨i,g,d,j,ch,AA,h2⟩
  .obtain⟨ch,k⟩:=get_some (l:=d.be) (i:=c-(HP p (s.ce.take n)).1) (by dsimp only at h;omega);exact⟨n,g,d,_,ch,AA,a,b,k,AA⟩
structure bS(p:AX)(sz:List Int)(s:BX)(c:Nat)(q:Gp)(i j:Nat)(g:A8)(d:CG)(ch:IL):Prop where
 grp:s.ce[i]? =some g
 st:Mm p sz s i g d
 cha:d.be[j]? =some ch
 at_:c=(HP p (s.ce.take i)).1+j
 group:q.group=i
 index:q.index=j
 place:q.at_=g.place d ch.at_
theorem GD.chn{p:AX}{sz:List Int}{s:BX}(n: ∀(i:Nat) g,s.ce[i]? =some g→ ∃d,Mm p sz s i g d)(o:HP p s.ce=(s.be.length,s.ac.length)){c:Nat}{q:Gp}(h:s.be[c]? =some q): ∃i j g d ch,bS p sz s c q i j g d ch:=by
 obtain⟨i,g,d,j,ch,r,h2,a,b,e⟩:=jV n s.ce.length (Es _) c (by rw[D3,o];exact AL h);obtain⟨t,f,k,l,m⟩:=a.be j ch b;rw[←e,h]at f;cases f;exact⟨i,j,g,d,ch,h2,a,b,e,k,l,m⟩
theorem uC{p:AX}{sz:List Int}{s:BX}(h:EA p sz s=true):GD p sz s:=by
 simp only[EA,AP]at h;obtain⟨z,h2,A,f,B⟩:=h;have f:=(UE (p:=p) (sz:=sz) (s:=s) (l:=s.ce) (i:=0) rfl AA).1 f;have key: ∀(i:Nat) g,s.ce[i]? =some g→ ∃d,Mm p sz s i g d∧ ∀(j:Nat) ch,d.be[j]? =some ch→ ∃q,s.be[(HP p (s.ce.take i)).1+j]? =some q∧Oj p s d g i j q ch=true:=by
  intro i g k;obtain⟨d,o,a⟩:=f.2 i g AA k;simp only[KO,AP,Ap]at a;obtain⟨g1,v,w,y,n⟩:=a;have n:=Oy.1 n;have key: ∀(j:Nat) ch,d.be[j]? =some ch→ ∃q,s.be[(HP p (s.ce.take i)).1+j]? =some q∧Oj p s d g i j q ch=true:=by
   intro j ch r;have:=n j ch r;rw[I9,LQ]at this;split at this
   .rename_i q e;exact⟨q,e,this⟩
   .cases this
  refine⟨d,⟨o,g1,v,w,y,fun j ch r=>?_⟩,key⟩;obtain⟨q,e,a⟩:=key j ch r;simp only[Oj,AP,Ap]at a;exact⟨q,e,a.1,a.2.1,a.2.2.1⟩
 have t: ∀(i:Nat) g,s.ce[i]? =some g→ ∃d,Mm p sz s i g d:=fun i g k=>by
  obtain⟨d,o,_⟩:=key i g k;exact⟨d,o⟩
 refine⟨z,VD h2,fun i x k H=>Tg.1 A x ?_,t,f.1,fun c q e=>?_,D4.1 B⟩
 .rw[Ok];exact⟨i-1,by rw[He,show 1+(i-1)=i by omega];exact H⟩
 .obtain⟨i,j,g,d,ch,b⟩:=GD.chn t f.1 e;obtain⟨I,C,D⟩:=key i g b.grp;have:=C.f9;rw[b.st.f9]at this;cases this;obtain⟨J,u,a⟩:=D j ch b.cha;rw[←b.at_,e]at u;cases u;simp only[Oj,AP,Ap,I8,HW,D4]at a;exact⟨a.2.2.2.1,a.2.2.2.2.1,fun m F=>by rw[MM b.grp b.st.f9 b.cha b.group b.index];exact a.2.2.2.2.2 m F⟩
theorem il{p:AX}{sz:List Int}{s:BX}(h:GD p sz s):EA p sz s=true:=by
 simp only[EA,AP];refine⟨h.small,wc h.tree,Tg.2 fun x t=>?_,(UE (p:=p) (sz:=sz) (s:=s) (l:=s.ce) (i:=0) rfl AA).2 ⟨h.tot,fun i g b e=>?_⟩,D4.2 h.wait⟩
 .obtain⟨i,b⟩:=II t;rw[He]at b;exact h.dead _ x AA b
 .obtain⟨d,a⟩:=h.grp i g e;refine⟨d,a.f9,?_⟩;simp only[KO,AP,Ap];refine⟨a.at_,a.len,a.of,a.wt,Oy.2 fun j ch f=>?_⟩;obtain⟨q,k,n,o,u⟩:=a.be j ch f;have c:=h.que _ q k;rw[I9,LQ,k];simp only[Oj,AP,Ap,I8,HW,D4];exact⟨n,o,u,c.len,c.dead,fun m r=>by rw[←MM e a.f9 f n o];exact c.msgs m r⟩
structure Y5(s s':BX):Prop where
 sp: ∀(i:Nat) x,s.ac[i]? =some x→s'.ac[i]? =some x
 gr: ∀(i:Nat) g,s.ce[i]? =some g→s'.ce[i]? =some g
 ch: ∀(c:Nat) q,s.be[c]? =some q→ ∃l,s'.be[c]? =some {q with queue:=q.queue++l}
theorem JK(s:BX):Y5 s s:=⟨fun _ _ h=>h,fun _ _ h=>h,fun c q h=>⟨[],by simpa using h⟩⟩
theorem mL{a b c:BX}(e:Y5 a b)(h2:Y5 b c):Y5 a c:=by
 refine⟨fun i x h=>h2.sp i x (e.sp i x h),fun i x h=>h2.gr i x (e.gr i x h),fun i q h=>?_⟩;obtain⟨l,f⟩:=e.ch i q h;obtain⟨j,g⟩:=h2.ch i _ f;exact⟨l++j,by rw[g];simp⟩
theorem Wz{β:Type}{a:List α}{b:List β}(h: ∀(i:Nat) x,a[i]? =some x→ ∃y,b[i]? =some y):a.length≤b.length:=by
 by_cases f:a.length=0
 .omega
 .obtain⟨x,c⟩:=get_some (l:=a) (i:=a.length-1) AA;obtain⟨y,e⟩:=h _ x c;have:=AL e;omega
variable{s':BX}
theorem Y5.ns{s:BX}(h:Y5 s s'):s.ac.length≤s'.ac.length:=Wz fun i x a=>⟨_,h.sp i x a⟩
theorem Y5.nc{s:BX}(h:Y5 s s'):s.be.length≤s'.be.length:=Wz fun i x b=>by obtain⟨l,a⟩:=h.ch i x b;exact⟨_,a⟩
variable{nc' ns':Nat}
theorem tg{p:AX}{nc b:Nat}{v:Cl}(i:nc≤nc')(h2:b≤ns')(h:v.inB p nc b=true):v.inB p nc' ns'=true:=by
 unfold Cl.inB at*;split
 .rename_i a;simpa[a]using h
 .rename_i c;rw[Co c]at h;split
  .rename_i a;simpa[a]using h
  .rename_i e;rw[Co e]at h;split
   .rename_i a;rw[D5 a]at h;simp only[AP,Ap]at*;omega
   .rename_i f;rw[Co f]at h;split
    .rename_i a;rw[D5 a]at h;simp only[AP,Ap]at*;omega
    .rename_i g;rw[Co g]at h;exact h
theorem Hg{p:AX}{nc a:Nat}{l:List Cl}(b:nc≤nc')(h2:a≤ns')(h:l.all (Cl.inB p nc a)=true):l.all (Cl.inB p nc' ns')=true:=by
 rw[D4]at*;exact fun v c=>tg b h2 (h v c)
theorem JM{l b:List Bn}{i:Int}(h:l.length≤b.length)(a:E7 l i):E7 b i:=⟨a.1,by have:=a.2;omega⟩
theorem LX{s:BX}(h:Y5 s s'){i:Int}(a:E7 s.ac i):Al s'.ac i=Al s.ac i:=by
 obtain⟨x,b⟩:=get_some (l:=s.ac) (i:=i.toNat) zFH;rw[Al,Al,h.sp _ _ b,b]
theorem qP{p:AX}{nc h:Nat}{env:List Cl}(j:env.all (Cl.inB p nc h)=true)(x:Bu)(e:x.formed env.length=true):(x.value env).inB p nc h=true:=by
 obtain⟨op,n,m⟩:=x;by_cases f:op=1
 .subst f;rw[R0];rcases m with _|⟨a,_|⟨b,_|⟨c,l⟩⟩⟩<;>simp[Bu.formed]at e;simp[Cl.inB,e]
 by_cases h2:op=2
 .subst h2;rw[Pd];obtain⟨w,u⟩:=NH e;obtain⟨v,g⟩:=get_some (l:=env) (i:=n.toNat) AA;rw[g];exact D4.1 j v (AS g)
 obtain⟨o,q,r,a,b,rfl,s,t⟩:=O3 e f h2;rw[Rz env op n a b f h2];generalize L2 op (bw (a.value env)) (bw (b.value env))=k;have: -1000000000≤L6 k∧L6 k≤1000000000:=by unfold L6;omega
 simp[Cl.inB,this]
theorem ik{p:AX}{sz:List Int}{s:BX}(h:GD p sz s){l:List Gp}(b:l.length=s.be.length)(n: ∀(c:Nat) q,s.be[c]? =some q→ ∃m,l[c]? =some {q with queue:=m}∧Hd p s {q with queue:=m}):GD p sz {s with be:=l}:=by
 have x:=h.small;simp only[BX.small,AP,Ap]at x;refine⟨by simp only[BX.small,AP,Ap];omega,h.tree,h.dead,fun i g t=>?_,by rw[b];exact h.tot,fun c q k=>?_,fun w y=>?_⟩
 .obtain⟨d,a⟩:=h.grp i g t;refine⟨d,a.f9,a.at_,a.len,by rw[b];exact a.of,a.wt,fun j ch u=>?_⟩;obtain⟨q,r,h2⟩:=a.be j ch u;obtain⟨m,e,_⟩:=n _ q r;exact⟨_,e,h2⟩
 .obtain⟨z,o⟩:=get_some (l:=s.be) (i:=c) (by rw[←b];exact AL k);obtain⟨m,e,f⟩:=n c z o;rw[e]at k;cases k;exact⟨f.len,f.dead,fun m v=>by rw[b];exact f.msgs m v⟩
 .have:=h.wait w y;simpa only[Ca,b]using this
theorem XX{p:AX}{sz:List Int}{s:BX}(h:GD p sz s){c:Nat}{q:Gp}(b:s.be[c]? =some q){l:List (List Cl)}(g:Hd p s {q with queue:=l}):GD p sz {s with be:=s.be.set c {q with queue:=l}}:=by
 refine ik h AG fun a f h2=>?_;rw[IF];by_cases e:c=a
 .subst e;rw[b]at h2;cases h2;rw[D5 rfl,D5 (AL b)];exact⟨l,rfl,g⟩
 .rw[Co e];exact⟨f.queue,h2,h.que a f h2⟩
theorem mJ{s:BX}{c:Nat}{q:Gp}(a:s.be[c]? =some q)(l:List (List Cl)):Y5 s {s with be:=s.be.set c {q with queue:=q.queue++l}}:=by
 refine⟨fun _ _ h=>h,fun _ _ h=>h,fun b f h2=>?_⟩;dsimp only;rw[IF];by_cases e:c=b
 .subst e;rw[a]at h2;cases h2;rw[D5 rfl,D5 (AL a)];exact⟨l,rfl⟩
 .rw[Co e];exact⟨[],by simpa using h2⟩
theorem OZ{p:AX}{sz:List Int}{s:BX}(h:GD p sz s){l:List GI}(k:l.length≤40)(j: ∀w∈l,Ca p sz s w=true):GD p sz {s with waits:=l}:=by
 have f:=h.small;simp only[BX.small,AP,Ap]at f;exact⟨by simp only[BX.small,AP,Ap];omega,h.tree,h.dead,fun i g e=>by obtain⟨d,a⟩:=h.grp i g e;exact⟨d,a.f9,a.at_,a.len,a.of,a.wt,a.be⟩,h.tot,fun c q b=>by have:=h.que c q b;exact⟨this.len,this.dead,this.msgs⟩,j⟩
structure CP(p:AX)(sz:List Int)(s:BX)(j:Gq):Prop where
 n0:0≤j.node
 size:sz[j.node.toNat]? =some (j.env.length:Int)
 at_:E7 s.ac j.at_
 live:Al s.ac j.at_=false
 of:j.env.all (Cl.inB p s.be.length s.ac.length)=true
theorem MJ{p:AX}{sz:List Int}{s:BX}{j:Gq}(h:CP p sz s j)(a:Y5 s s'):CP p sz s' j:=⟨h.n0,h.size,JM a.ns h.at_,by rw[LX a h.at_];exact h.live,Hg a.nc a.ns h.of⟩
theorem JN{p:AX}{sz:List Int}{s:BX}{j:Gq}(b:BO p sz)(h:CP p sz s j): ∃x l,p.nodes[j.node.toNat]? =some x∧DB p j.env.length x=true∧Ji p j.env.length x=some l∧(∀q∈l,0≤q.1∧sz[q.1.toNat]? =some q.2)∧j.env.length≤5000:=by
 have c:=AL h.size;rw[b.len]at c;obtain⟨x,e⟩:=get_some c;obtain⟨s0,l,a,h2,k,f,g,i⟩:=b.node _ x e;rw[h.size]at a;cases a;exact⟨x,l,e,f,g,i,AA⟩
theorem LA{p:AX}{sz:List Int}{s:BX}{j:Gq}{x:C2}{l:List (Int×Int)}(h:CP p sz s j)(f: ¬x.op=4)(b:Ji p j.env.length x=some l)(g: ∀q∈l,0≤q.1∧sz[q.1.toNat]? =some q.2)(k:Nat): ∀c∈BL x k j.at_ j.env,CP p sz s c:=by
 intro c a;rw[BL]at a;split at a
 .rename_i n e;rw[Ji,Co f]at b;cases b;have:=g (n,j.env.length) (by simp only[Cq,F2];exact⟨n,AS e,rfl⟩);rw[Ac]at a;subst a;exact⟨this.1,this.2,h.at_,h.live,h.of⟩
 .cases a
theorem kB{l:List Bn}{i:Int}(a:E7 l i):Bf (l++m) i=Bf l i:=by
 have:=a.1;have:=a.2;rw[Bf,Bf,Ce AA]
theorem Q8{l:List Bn}: ∀{k:Nat} {i:Int},E7 l i→Bd l k i=true→Bd (l++m) k i=true
 |0,i,b,h=>h
 |k+1,i,b,h=>by
  rw[Bd]at h⊢;by_cases a:i=0
  .simp[a]
  .simp only[a,decide_false,I4,AP,Ap]at h⊢;rw[kB b];exact⟨JM AG h.1,Q8 h.1 h.2⟩
theorem Kb: ∀{l:List Oh} {i:Nat},Dt i l=true→ ∀(t:Nat) y,l[t]? =some y→0≤y.rc∧y.rc≤((i+t:Nat):Int)
 |x::l,i,h,t,y,ht=>by
  rw[Dt,AP,AP,Ap,Ap]at h;cases t with
  |zero=>
   simp only[F4,Cs]at ht;subst ht;exact⟨h.1,by simpa using h.2.1⟩
  |succ t=>
   rw[GS]at ht;have:=Kb h.2.2 t y ht
   rwa [show i+1+t=i+(t+1) by omega]at this
theorem Fa(d:CG)(g:A8)(i:Nat): ∀(l:List IL) (k:Nat),(Fm d g i k l).length=l.length
 |[],k=>rfl
 |c::l,k=>by simp[Fm,Fa d g i l (k+1)]
theorem JR(d:CG)(g:A8)(i:Nat): ∀(l:List IL) (k t:Nat),(Fm d g i k l)[t]? =(l[t]?).map fun c=>(⟨(i:Int),((k+t:Nat):Int),g.place d c.at_,[]⟩:Gp)
 |[],k,t=>by simp[Fm]
 |c::l,k,0=>by simp[Fm]
 |c::l,k,t+1=>by
  rw[Fm,GS,GS,JR d g i l (k+1) t];congr 1;funext c;rw[show k+1+t=k+(t+1) by omega]
theorem Qp{d:CG}{g:A8}: ∀{l:List Oh} {k:Nat} {j:Gq},j∈CH d g k l→ ∃(t:Nat) (y:Oh),l[t]? =some y∧j=⟨y.node,g.place d ((k+t:Nat)+1),g.env⟩
 |[],k,j,h=>by cases h
 |y::l,k,j,h=>by
  rw[CH]at h;rcases D0.1 h with rfl|h
  .exact⟨0,y,rfl,rfl⟩
  .obtain⟨t,y,a,h2⟩:=Qp h;exact⟨t+1,y,by rw[GS];exact a,by rw[h2,show k+1+t=k+(t+1) by omega]⟩
structure FT(p:AX)(sz:List Int)(s:BX)(j:Gq)(x:C2)(d:CG):Prop where
 ol:GD p sz s
 job:CP p sz s j
 node:p.nodes[j.node.toNat]? =some x
 op:x.op=4
 n0:0≤x.n
 f9:p.defs[x.n.toNat]? =some d
 ok:Oi d
 grp:((B6 p sz)[x.n.toNat]?)=some ((j.env.length:Int)+d.own)
 rules: ∀r∈d.rules,0≤r.node∧sz[r.node.toNat]? =some ((j.env.length:Int)+d.own+Cy d r.eq)
 ac: ∀y∈d.ac,0≤y.node∧sz[y.node.toNat]? =some ((j.env.length:Int)+d.own)
 kid: ∃k,x.kids=[k]∧0≤k∧sz[k.toNat]? =some ((j.env.length:Int)+d.own)
theorem eU{p:AX}{sz:List Int}{s:BX}{j:Gq}{x:C2}(c:BO p sz)(z:GD p sz s)(n:CP p sz s j)(a:p.nodes[j.node.toNat]? =some x)(f:x.op=4): ∃d,FT p sz s j x d:=by
 obtain⟨A,F,_⟩:=M8 c a f;obtain⟨d,h⟩:=get_some (l:=p.defs) (i:=x.n.toNat) AA;have m:=CA c h;obtain⟨i,B,s0,b,h2,t,g,C,D,u,v,w,k,o,q,r⟩:=m.node;have y:i=j.node.toNat:=by
  by_cases e:i=j.node.toNat
  .exact e
  .exact absurd t (c.diff i j.node.toNat B x e b h2 a f)
 subst y;rw[a]at b;cases b;rw[n.size]at g;cases g;exact⟨d,z,n,a,f,A,h,m.ok,u,v,w,k,o,q,r⟩
theorem Iw{p:AX}{sz:List Int}{s:BX}{i:Nat}{g:A8}{d:CG}(h:Mm p sz s i g d):d.own≤g.env.length:=by
 have a:=h.wt;rw[Du,Ap]at a;have:=congrArg List.length a;rw[KR,Io]at this;omega
theorem jW{p:AX}{sz:List Int}{s:BX}{c:Nat}{q:Gp}{i:Nat}{g:A8}{d:CG}(f:BO p sz)(a:bS p sz s c q i j g d ch):E7 s.ac q.at_:=by
 rw[a.place];have h:=CA f (FX a.st.f9).2;obtain⟨b,e,_⟩:=h.ok.chan ch (AS a.cha);exact Qe a.st.wt (Iw a.st) a.st.at_ a.st.of b e
theorem Pw{p:AX}{sz:List Int}{s:BX}(k:BO p sz)(h:GD p sz s){c:Nat}{q:Gp}(b:s.be[c]? =some q):Xk p s q:=by
 obtain⟨i,j,g,d,ch,a⟩:=GD.chn h.grp h.tot b;obtain⟨e,f⟩:=FX a.st.f9;refine⟨jW k a,by rw[a.group];omega,by rw[a.index];omega,⟨g,d,ch,by rw[a.group];exact a.grp,e,f,by rw[a.index];exact a.cha⟩,(h.que c q b).len⟩
section
variable{p:AX}{sz:List Int}{s:BX}{j:Gq}{x:C2}{d:CG}
theorem FT.env(h:FT p sz s j x d):(A6 s d x.n j).env.length=j.env.length+d.own:=by simp[A6,KR]
theorem FT.wt(h:FT p sz s j x d):Du d s.be.length s.ac.length (A6 s d x.n j)=true:=by
 have e:j.env.length+d.own-d.be.length-d.ac.length=j.env.length:=by unfold CG.own;omega
 rw[Du,Ap,h.env,e,A6,List.drop_left]
theorem FT.place(h:FT p sz s j x d){n:Int}(a:1≤n)(h2:n≤d.ac.length):(A6 s d x.n j).place d n=(s.ac.length:Int)+(n-1):=Uo h.wt (by rw[h.env];omega) a h2
theorem Uq(g:A8)(d:CG):g.place d 0=g.at_:=by simp[A8.place]
theorem Eo(d:CG)(g:A8)(l:List Oh):(DY d g l).length=l.length:=by simp[DY]
theorem FT.spot(h:FT p sz s j x d){n:Int}(g:0≤n)(h2:n≤d.ac.length):E7 (s.ac++DY d (A6 s d x.n j) d.ac) ((A6 s d x.n j).place d n)∧Al (s.ac++DY d (A6 s d x.n j) d.ac) ((A6 s d x.n j).place d n)=false:=by
 by_cases b:n=0
 .subst b;rw[Uq];have:=h.job.at_;refine⟨JM AG this,?_⟩;have a:=h.job.live;have e:(A6 s d x.n j).at_=j.at_:=rfl;rw[e];rw[Al]at a⊢;have c:=this.1;have f:=this.2;rw[Ce AA];exact a
 .rw[h.place AA h2];refine⟨⟨AA,by simp[Eo];omega⟩,?_⟩;rw[Al,D2 AA,DY,D7];cases d.ac[((s.ac.length:Int)+(n-1)).toNat-s.ac.length]? <;>rfl
theorem FT.of(h:FT p sz s j x d):(A6 s d x.n j).env.all (Cl.inB p (s.be.length+d.be.length) (s.ac.length+d.ac.length))=true:=by
 rw[A6,To,AP];refine⟨Hg AA AA h.job.of,?_⟩;rw[FO,To,AP];constructor
 .exact zB7
 .exact zB7
theorem FT.tree(h:FT p sz s j x d):HK (s.ac++DY d (A6 s d x.n j) d.ac):=by
 have a:=h.ol.tree;refine⟨by simp;have:=a.pos;omega,by rw[kB ⟨AA,by have:=a.pos;omega⟩];exact a.top,fun i b=>?_⟩;have key: ∀(n t:Nat),t<n→t<d.ac.length→ ∃k,Bd (s.ac++DY d (A6 s d x.n j) d.ac) k ((s.ac.length:Int)+t)=true:=by
  intro n;induction n with
  |zero=>intro t r;omega
  |succ n v=>
   intro t r u;obtain⟨y,f⟩:=get_some u;obtain⟨w,A⟩:=Kb h.ok.spot t y f;have q:Bf (s.ac++DY d (A6 s d x.n j) d.ac) ((s.ac.length:Int)+t)=(A6 s d x.n j).place d y.rc:=by
    rw[Bf,D2 AA,DY,D7,show((s.ac.length:Int)+t).toNat-s.ac.length=t by omega,f];rfl
   have o:=(h.spot (n:=y.rc) w AA).1;have: ∃k,Bd (s.ac++DY d (A6 s d x.n j) d.ac) k ((A6 s d x.n j).place d y.rc)=true:=by
    by_cases g:y.rc=0
    .rw[g,Uq];exact⟨_,Q8 h.job.at_ (a.rx _ h.job.at_)⟩
    .rw[h.place AA AA];have:=v (y.rc-1).toNat AA AA
     rwa [show(((y.rc-1).toNat:Nat):Int)=y.rc-1 by omega]at this
   obtain⟨k,c⟩:=this;refine⟨k+1,?_⟩;rw[Bd,q,c,D1 o];simp
 by_cases m:i<s.ac.length
 .have e:E7 s.ac i:=⟨b.1,m⟩;exact LV AG (Q8 e (a.rx i e))
 .have z:=b.1;have l:=b.2;simp only[CE,Eo]at l;obtain⟨k,c⟩:=key d.ac.length (i-s.ac.length).toNat AA AA;rw[show(s.ac.length:Int)+((i-s.ac.length).toNat:Nat)=i by omega]at c;exact LV AA (Mz b c)
theorem FT.ext(h:FT p sz s j x d):Y5 s (B3 s d (A6 s d x.n j)):=by
 refine⟨fun i y a=>?_,fun i y a=>?_,fun i y a=>⟨[],?_⟩⟩
 .show(s.ac++_)[i]? =_;rw[Ce (AL a)];exact a
 .show(s.ce++_)[i]? =_;rw[Ce (AL a)];exact a
 .show(s.be++_)[i]? =_;rw[Ce (AL a)];simpa using a
theorem uO{s s':BX}(f:Y5 s s'){q:Gp}{i j:Nat}{g:A8}{d:CG}{ch:IL}(e:s.ce[i]? =some g)(c:p.def? g.f9=some d)(b:d.be[j]? =some ch)(a:q.group=i)(h2:q.index=j):EE p s' q=EE p s q:=by
 rw[MM e c b a h2,MM (f.gr i g e) c b a h2]
theorem vL{l:List Bn}(h:HK l){i:Nat}(e:1≤i){y:Bn}(b:l[i]? =some y):E7 l y.rc:=by
 have f:=AL b;have a:=h.rx i ⟨AA,AA⟩;obtain⟨k,c⟩: ∃k,l.length=k+1:=⟨l.length-1,AA⟩;rw[c]at a;have:=(GQ AA a).1
 rwa [Bf,show((i:Nat):Int).toNat=i from rfl,b]at this
theorem uq{nc a nc' ns':Nat}{n:Int}{m:List Cl}(b:nc≤nc')(h2:a≤ns')(h:GF p nc a n m=true):GF p nc' ns' n m=true:=by
 rw[GF,AP]at*;exact⟨h.1,Hg b h2 h.2⟩
theorem wx{s s':BX}(a:Y5 s s'){w:GI}(h:Ca p sz s w=true):Ca p sz s' w=true:=by
 simp only[Ca,AP,Ap,HW]at*;obtain⟨b,h2,c,e,f,g⟩:=h;exact⟨JM a.ns b,by rw[LX a b];exact h2,c,e,f,Hg a.nc a.ns g⟩
theorem FT.sok'(S:BO p sz)(h:FT p sz s j x d)(C:(B3 s d (A6 s d x.n j)).be.length≤60∧(B3 s d (A6 s d x.n j)).ac.length≤24∧(B3 s d (A6 s d x.n j)).ce.length≤40):GD p sz (B3 s d (A6 s d x.n j)):=by
 have a:=h.ext;have M:=h.ol.small;simp only[BX.small,AP,Ap]at M;have J:p.def? x.n=some d:=by rw[AX.def?,D5 h.n0];exact h.f9
 have I:(B3 s d (A6 s d x.n j)).be.length=s.be.length+d.be.length:=by simp[B3,Fa]
 have L:(B3 s d (A6 s d x.n j)).ac.length=s.ac.length+d.ac.length:=by simp[B3,Eo]
 have D: ∀i,i≤s.ce.length→(B3 s d (A6 s d x.n j)).ce.take i=s.ce.take i:=fun i u=>Hw u;refine⟨?_,h.tree,fun i y u N=>?_,fun i g K=>?_,?_,fun c q W=>?_,fun w X=>wx a (h.ol.wait w X)⟩
 .simp only[BX.small,AP,Ap];exact⟨C.2.1,C.2.2,C.1,M.2.2.2⟩
 .by_cases t:i<s.ac.length
  .have O:s.ac[i]? =some y:=by
    have:(s.ac++DY d (A6 s d x.n j) d.ac)[i]? =some y:=N
    rwa [Ce t]at this
   rw[LX a (vL h.ol.tree u O)];exact h.ol.dead i y u O
  .right;have:(s.ac++DY d (A6 s d x.n j) d.ac)[i]? =some y:=N;rw[D2 AA,DY,D7]at this;cases e:d.ac[i-s.ac.length]? with
   |none=>rw[e]at this;cases this
   |some z=>
    rw[e]at this;cases this;obtain⟨Y,Z⟩:=Kb h.ok.spot _ z e;have:=AL e;exact(h.spot (n:=z.rc) Y AA).2
 .by_cases t:i<s.ce.length
  .have r:s.ce[i]? =some g:=by
    have:(s.ce++[A6 s d x.n j])[i]? =some g:=K
    rwa [Ce t]at this
   obtain⟨F,o⟩:=h.ol.grp i g r;refine⟨F,o.f9,JM a.ns o.at_,o.len,Hg a.nc a.ns o.of,by rw[D i AA];exact o.wt,fun k ch v=>?_⟩;obtain⟨q,P,h2,Q,R⟩:=o.be k ch v;obtain⟨l,U⟩:=a.ch _ q P;rw[D i AA];exact⟨_,U,h2,Q,R⟩
  .have r:(s.ce++[A6 s d x.n j])[i]? =some g:=K;have V:=AL r;rw[CE,I0]at V;obtain rfl:i=s.ce.length:=AA;rw[D2 AA]at r;simp only[KW,F4,Cs]at r;subst r;have H:(HP p ((B3 s d (A6 s d x.n j)).ce.take s.ce.length))=(s.be.length,s.ac.length):=by rw[D _ AA,D3,h.ol.tot]
   refine⟨d,J,JM a.ns h.job.at_,?_,by rw[I,L];exact h.of,by rw[H];exact h.wt,fun k ch v=>?_⟩
   .have:=h.grp;rw[show(A6 s d x.n j).f9=x.n from rfl,this,h.env];simp
   .rw[H];refine⟨⟨s.ce.length,k,(A6 s d x.n j).place d ch.at_,[]⟩,?_,rfl,rfl,rfl⟩;show(s.be++Fm d (A6 s d x.n j) s.ce.length 0 d.be)[s.be.length+k]? =_;rw[D2 AA,JR,show s.be.length+k-s.be.length=k by omega,v];simp
 .show HP p (s.ce++[A6 s d x.n j])=_;rw[XG p _ _ (d:=d) J,h.ol.tot,I,L]
 .have b:(s.be++Fm d (A6 s d x.n j) s.ce.length 0 d.be)[c]? =some q:=W;by_cases t:c<s.be.length
  .rw[Ce t]at b;have B:=h.ol.que c q b;obtain⟨i,k,g,F,ch,f⟩:=GD.chn h.ol.grp h.ol.tot b;have T:E7 s.ac q.at_:=jW S f;exact⟨B.len,by rw[LX a T];exact B.dead,fun m A=>by rw[uO a f.grp f.st.f9 f.cha f.group f.index];exact uq a.nc a.ns (B.msgs m A)⟩
  .rw[D2 AA,JR]at b;cases e:d.be[c-s.be.length]? with
   |none=>rw[e]at b;cases b
   |some z=>
    rw[e]at b;cases b;exact⟨AG,.inl rfl,fun m A=>by cases A⟩
end
abbrev pA(p:AX):AV:=.agg [.d (.bv (p.free.map Bp)),.d (.bv (p.nodes.map Ba)),.d (.bv (p.defs.map Bw)),nI p.main]
abbrev sA(s:BX):AV:=.agg [.d (.bv (s.ac.map Au)),.d (.bv (s.ce.map BF)),.d (.bv (s.be.map DA)),.d (.bv (s.waits.map Ae))]
structure Q2(p:AX)(sz:List Int)(s:BX)(w:GI)(x:C2):Prop where
 n0:0≤w.node
 node:p.nodes[w.node.toNat]? =some x
 op:x.op=6∨x.op=7∨x.op=8
 at_:E7 s.ac w.at_
 live:Al s.ac w.at_=false
 size:sz[w.node.toNat]? =some (w.env.length:Int)
 len:w.env.length≤5000
 n: ¬x.op=7→0≤x.n∧x.n<w.env.length
 of:w.env.all (Cl.inB p s.be.length s.ac.length)=true
variable{w:GI}
theorem Ob{p:AX}{sz:List Int}{s:BX}(o:BO p sz)(h:Ca p sz s w=true): ∃x,Q2 p sz s w x:=by
 simp only[Ca,AP,Ap,HW]at h;obtain⟨i,h2,j,a,b,k⟩:=h;cases c:p.nodes[w.node.toNat]? with
 |none=>rw[c]at a;cases a
 |some x=>
  rw[c]at a;simp only[DV,I8,Ap]at a;obtain⟨v,l,f,m,n,e,_⟩:=o.node _ x c;rw[f]at b;have b:(w.env.length:Int)=v:=b;rw[←b]at f m n e;refine⟨x,j,c,a,i,h2,f,AA,fun q=>?_,k⟩;simp only[DB,AP]at e;have g:=e.2.1;rw[W8,D5 AA]at g;exact of_decide_eq_true g
variable{x:C2}
theorem Q2.val{p:AX}{sz:List Int}{s:BX}(h:Q2 p sz s w x)(f: ¬x.op=7): ∃v,w.env[x.n.toNat]? =some v∧Hs w.env x.n=v∧(v.kind=4→E7 s.ac v.n∧ ∃y,s.ac[v.n.toNat]? =some y∧Al s.ac v.n=y.dead):=by
 have:=h.n f;obtain⟨v,a⟩:=get_some (l:=w.env) (i:=x.n.toNat) AA;refine⟨v,a,by rw[Hs,a];rfl,fun e=>?_⟩;have b:=D4.1 h.of v (AS a);simp only[Cl.inB,e,Int.reduceEq,F7,FD,AP,Ap]at b;obtain⟨y,c⟩:=get_some (l:=s.ac) (i:=v.n.toNat) AA;exact⟨b,y,c,by simp[Al,c]⟩
structure dj(p:AX)(sz:List Int)(s:BX)(g:A8)(d:CG)(r:GH):Prop where
 at0:0≤r.at_
 at1:r.at_≤d.ac.length
 place:E7 s.ac (g.place d r.at_)
 j0:0<r.eq.length
 j1:r.eq.length≤3
 join: ∀c∈r.eq,0≤c∧c<d.be.length∧0≤g.own d true c∧ ∃q,s.be[(g.own d true c).toNat]? =some q∧q.queue.length≤12∧LG s (g.own d true c)=q.queue.length
theorem bN{d:CG}{r:GH}: ∀{l:List Int} {i:Nat},joinsOk d r i l=true→ ∀c∈l,0≤c∧c<d.be.length
 |[],_,_,c,a=>by simp at a
 |x::l,i,h,c,a=>by
  rw[joinsOk]at h;simp only[HO,AP,Ap]at h;rcases D0.1 a with rfl|a
  .exact⟨h.1.1,h.1.2.1⟩
  .exact bN h.2 c a
theorem Kz{p:AX}{sz:List Int}{s:BX}{i:Nat}{g:A8}{d:CG}{r:GH}(t:BO p sz)(x:GD p sz s)(y:s.ce[i]? =some g)(a:Mm p sz s i g d)(w:r∈d.rules):dj p sz s g d r:=by
 have j:=(CA t (FX a.f9).2).ok;have k:=j.rt r w;simp only[B7,AP,Ap]at k;obtain⟨⟨h,h2⟩,m,n,o⟩:=k;refine⟨h,h2,Qe a.wt (Iw a) a.at_ a.of h h2,m,n,fun c u=>?_⟩;obtain⟨e,f⟩:=bN o c u;obtain⟨ch,v⟩:=get_some (l:=d.be) (i:=c.toNat) AA;obtain⟨q,b,_⟩:=a.be _ ch v;have j:=JW a.wt e f;have:(g.own d true c).toNat=(HP p (s.ce.take i)).1+c.toNat:=AA;refine⟨e,f,AA,q,by rw[this];exact b,(x.que _ q b).len,by rw[LG,this,b];rfl⟩
theorem SR{l:List Nat}(h:0∈l):CN l=[]:=by
 induction l with
 |nil=>simp at h
 |cons n l a=>
  rw[CN];rcases D0.1 h with h|h
  .subst h;rfl
  .simp[a h]
theorem jq{p:AX}{s:BX}(a:p.nodes[w.node.toNat]? =some x):qr p s w=if x.op=7 then true else if (Hs w.env x.n).kind=4 then(if x.op=8 then Al s.ac (Hs w.env x.n).n else decide (w.at_≠0)&&(!Al s.ac (Hs w.env x.n).n&& !C3 s.ac (Hs w.env x.n).n w.at_))else false:=by
 rw[qr,a]
theorem tU{p:AX}{sz:List Int}{s:BX}(n:BO p sz)(f:GD p sz s)(a:Q2 p sz s w x):BU (KL Tryz.prog cfg) 71 [pA p,sA s,.agg [nI w.at_,nI w.node,.d (.bv (w.env.map AN))]] []=.ok (.ret (.d (.bool (qr p s w))),[]):=by
 have c:=a.node;have t:=a.n0;have A:=AL c;rw[jq c];by_cases e:x.op=7
 .exact zEG
 obtain⟨v,z,k,b⟩:=a.val e;have⟨n0,n1⟩:=a.n e;rw[k];by_cases h:v.kind=4
 .obtain⟨i,y,B,g⟩:=b h;obtain⟨r0,l⟩:=i;have j:=f.small;simp only[BX.small,AP,Ap]at j;obtain⟨m,C⟩:=a.at_;have q:=Wu s.ac (.bv (s.ce.map BF)) (.bv (s.be.map DA)) (.bv (s.waits.map Ae)) v.n w.at_ AA f.tree ⟨r0,l⟩ m;by_cases u:x.op=8
  .rw[g];clear b;exact zEG
  .rw[g];clear b;refine A7 Tryz.func71 ?_
   (repeat' (first|simp only[go_sem, *]|(refine sx ?_ ?_<;>intro o)|refine sy AA fun x c r=>?_|simp(disch:=first|assumption|omega) only[AU]))
   all_goals simp[*]
 .clear b;exact zEG
def PD(l:List Nat):List Int:=if 0∈l then []else l.map fun(n:Nat)=>(n:Int)
def J6(s:BX)(d:CG)(g:A8)(r:GH):List Int:=if Al s.ac (g.place d r.at_)=true then []else PD (Bl s d g r)
theorem Jr{p:AX}{sz:List Int}{s:BX}{i:Nat}{g:A8}{d:CG}(b:BO p sz)(h:Mm p sz s i g d):g.env.length≤10000:=by
 have a:=CA b (FX h.f9).2;obtain⟨_,_,v,_,_,_,_,c,e,h2,_⟩:=a.node;have:=h.len;rw[h2,GO]at this;have:=a.ok.be;have:=a.ok.ac;unfold CG.own at*;omega
theorem pc{p:AX}{sz:List Int}{s:BX}(z:BO p sz)(Q:GD p sz s){i k:Nat}{g:A8}{d:CG}{r:GH}(J:s.ce[i]? =some g)(t:Mm p sz s i g d)(P:d.rules[k]? =some r):BU (KL Tryz.prog cfg) 72 [pA p,sA s,nI i,nI k] []=.ok (.ret (.d (.bv ((J6 s d g r).map AR))),[]):=by
 have f:=Kz z Q J t (AS P);obtain⟨g0,A⟩:=FX t.f9;have B:=(CA z A).ok;have w:=B.be;have I:=B.ac;have ar:=B.rules;have R:=Q.small;simp only[BX.small,AP,Ap]at R;obtain⟨bl,bo,bs,bv⟩:=R;have a1:=AL J;have a3:=AL P;have a0:=AL A;have own:=Iw t;have Y:=Jr z t;have bc:=OJ p g d r.at_ g0 A w I own Y f.at0 f.at1;obtain⟨r0,bi⟩:=f.place;obtain⟨y,Z⟩:=get_some (l:=s.ac) (i:=(g.place d r.at_).toNat) AA;have N:AH (J6 s d g r=if y.dead=true then []else PD (Bl s d g r)):=⟨by rw[J6,Al,Z];rfl⟩;have a4:AH (∀c,g.own d true c=g.own d true c):=⟨fun _=>rfl⟩;have a7:=f.j0;have a':=f.j1;replace f:=AB f;unfold CG.own at own;cases V:y.dead with
 |true=>
  rw[N.out,V];refine A7 Tryz.func72 ?_;exact au
 |false=>
  rw[N.out,V];refine A7 Tryz.func72 ?_;refine aw ?_;refine Aj r.eq (S:=fun b (a:AV×AD×Nat)=>⟨[(5,.ptr [0,0] 0),(9,.ptr [0,1] 0),(11,.ptr [0,2] 0),(12,nI ((g.env.length:Int)-(d.ac.length:Int)-(d.be.length:Int))),(13,a.1),(14,nI b)],([0,0],.box (sC s))::([0,1],.box [nI g.f9,nI g.at_,.d (.bv (g.env.map AN))])::([0,2],.box [nI r.at_,.d (.bv (r.eq.map AR)),nI r.node])::a.2.1,a.2.2,[]⟩)
   (Inv:=fun b bk a=>AH (0∉(r.eq.take b).map fun c=>LG s (g.own d true c))∧AH ((b=0∧a=(.d7,[],3))∨(0<b∧a=(.f8 [1,3] 0 b,[([1,3],.em 1 (((r.eq.take b).map fun c=>((LG s (g.own d true c):Nat):Int)).map AR))],4)))) (b0:=(.d7,[],3)) ⟨⟨AG⟩,⟨.inl ⟨rfl,rfl⟩⟩⟩ ?_ ?_
  .rintro b c a o u K ⟨m,e⟩ H;obtain⟨ad,ag,ac,q,O,be,h⟩:=f.out.join c (AS o);obtain⟨v,U⟩:=get_some (l:=g.env) (i:=g.env.length-d.ac.length-d.be.length+c.toNat) AA;have j:g.own d true c=v.n:=by rw[A8.own,D5 rfl,U];rfl
   rw[j]at ac O h;have F:((g.env.length:Int)-(d.ac.length:Int)-(d.be.length:Int)+c).toNat=g.env.length-d.ac.length-d.be.length+c.toNat:=AA;rw[←F]at U;have bx:IntKind.i64.wrap ((g.env.length:Int)-(d.ac.length:Int)-(d.be.length:Int)+c)=(g.env.length:Int)-(d.ac.length:Int)-(d.be.length:Int)+c:=wrap_id AA AA;have a6:0≤(g.env.length:Int)-(d.ac.length:Int)-(d.be.length:Int)+c:=AA;have az:=AL O;replace F:=AB F;have T:AH (((r.eq.take (b+1)).map fun c=>LG s (g.own d true c))=((r.eq.take b).map fun c=>LG s (g.own d true c))++[q.queue.length]):=⟨by rw[F6,o];simp[j,h]⟩;have D:AH (((r.eq.take (b+1)).map fun c=>((LG s (g.own d true c):Nat):Int))=((r.eq.take b).map fun c=>((LG s (g.own d true c):Nat):Int))++[(q.queue.length:Int)]):=⟨by rw[F6,o];simp[j,h]⟩;have X:AH (q.queue.length=0→PD (Bl s d g r)=[]):=⟨fun W=>by rw[PD,D5];exact F2.2 ⟨c,AS o,by rw[j,h,W]⟩⟩;replace j:=AB j;replace h:=AB h;by_cases W:(q.queue.length:Int)=0
   .rw[X.out AA];rcases e.out with⟨rfl,rfl⟩|⟨C,rfl⟩;all_goals
     clear e;dsimp only;exact au
   .rcases e.out with⟨rfl,rfl⟩|⟨C,rfl⟩
    .clear e;dsimp only;have a2:(0:Int)<r.eq.length:=K;refine aw ?_;refine H.out (.f8 [1,3] 0 1,[([1,3],.em 1 [[.int .i64 q.queue.length]])],4) ⟨⟨?_⟩,⟨.inr ⟨AA,?_⟩⟩⟩
     .rw[T.out];simp only[Rt,BY,Bi,Ac];omega
     .rw[D.out];rfl
    .clear e;obtain⟨L,n⟩: ∃L,L=(r.eq.take b).map fun c=>((LG s (g.own d true c):Nat):Int):=⟨_,rfl⟩;have ai:L.length=b:=by rw[n,As,F1];omega
     have w:List.take b (L.map AR)=L.map AR:=By Aa;have I:b+1≤4:=AA;rw[←n]at D⊢;replace n:=AB n;dsimp only;refine aw ?_;refine H.out (.f8 [1,3] 0 (b+1),[([1,3],.em 1 (L.map AR++[[.int .i64 q.queue.length]]))],4) ⟨⟨?_⟩,⟨.inr ⟨AA,?_⟩⟩⟩
     .rw[T.out];simp only[EL,Ac,not_or];exact⟨m.out,AA⟩
     .rw[D.out,BE];rfl
  .rintro b a u K ⟨m,e⟩;have u:=u.out;subst u;rw[D3]at m;rcases e.out with⟨C,rfl⟩|⟨C,rfl⟩
   .omega
   .clear e;have M:AH (PD (Bl s d g r)=r.eq.map fun c=>((LG s (g.own d true c):Nat):Int)):=⟨by rw[PD,Bl,Co m.out,List.map_map];rfl⟩;dsimp only;rw[M.out];have w:List.take r.eq.length ((r.eq.map fun c=>((LG s (g.own d true c):Nat):Int)).map AR)=(r.eq.map fun c=>((LG s (g.own d true c):Nat):Int)).map AR:=By AG;simp only[D3]
    (repeat' (first|simp only[go_sem, *,Es]|(refine sx ?_ ?_<;>intro av)|refine sy AA fun x a5 M=>?_|simp(disch:=first|assumption|omega) only[AU]))
variable{α:Type}{l:List α}{r:α}
theorem Nm{k:Nat}(h:l[k]? =some r):l=l.take k++r::l.drop (k+1):=by
 rw[←Ag h,Mp]
theorem XU{k:Nat}(h:l[k]? =some r)(r':α):l.set k r'=l.take k++r'::l.drop (k+1):=by
 have a:=AL h;rw[List.set_eq_take_append_cons_drop,D5 a]
variable{β:Type}{f:α→List β}
theorem ma(h:(l.flatMap f).Nodup){j k:Nat}{a:α}(b:l[j]? =some a)(c:l[k]? =some r)(o:j≠k){x:β}(e:x∈f a):x∉f r:=by
 intro g;rw[Nm c,Ls,EM,MT]at h;obtain⟨_,h2,m⟩:=h;rw[MT]at h2;have q:=AL c;have p:=AL b;by_cases n:j<k
 .exact m x (CS.2 ⟨a,AS (i:=j) (by rw[I6,D5 n];exact b),e⟩) x (Hm _ g) rfl
 .exact h2.2.2 x g x (CS.2 ⟨a,AS (i:=j-(k+1)) (by rw[He,show k+1+(j-(k+1))=j by omega];exact b),e⟩) rfl
variable{r':α}
theorem Tu(h:(l.flatMap f).Nodup){k:Nat}(j:l[k]? =some r)(p:(f r').Nodup)(o: ∀x∈f r',x∈f r∨x∉l.flatMap f):((l.set k r').flatMap f).Nodup:=by
 have s:=h;rw[Nm j,Ls,EM,MT]at h;obtain⟨n,h2,m⟩:=h;rw[MT]at h2;rw[XU j,Ls,EM,MT];have key: ∀x∈f r',x∉(l.take k).flatMap f∧x∉(l.drop (k+1)).flatMap f:=fun x q=>by
  rcases o x q with g|g
  .exact⟨fun e=>m x e x (Hm _ g) rfl,fun e=>h2.2.2 x g x e rfl⟩
  .rw[Nm j,Ls,EM]at g;simp only[EL,not_or]at g;exact⟨g.1,g.2.2⟩
 refine⟨n,MT.2 ⟨p,h2.2.1,fun a i b c e=>(key a i).2 (by rw[e];exact c)⟩,fun a i b c e=>?_⟩;rcases EL.1 c with c|c
 .exact(key b c).1 (by rw[←e];exact i)
 .exact m a i b (HU _ c) e
theorem Yg{k:Nat}(a:l[k]? =some r){x:β}(b:x∈(l.set k r').flatMap f):x∈l.flatMap f∨x∈f r':=by
 rw[XU a,Ls,EM]at b;rw[Nm a,Ls,EM];simp only[EL]at*;rcases b with h|h|h
 .exact .inl (.inl h)
 .exact .inr h
 .exact .inl (.inr (.inr h))
theorem SN{B:MV→Int→List AV}{c:Bool}{N:Abs.Id→Bool}{h h':AD}{m:Abs.Id}{V:MV}{st st':CT}{v3:AV}{rows:List (List AV)}(b:GM B c h m V st)(q:Mh N V m)
 (t:h'.get m=some (.box (B {V with v3:=v3,rows:=rows} st'.work))) (s:qa h' v3 rows) (u:dY c h' rows st'.d8.be) (z:(rows.flatMap BB).Nodup)
 (p: ∀id,id∈AE v3∨id∈rows.flatMap BB→(id∈AE V.v3∨id∈V.rows.flatMap BB)∨(N id=true∧ ∃l,id=1::l)) (w: ∀j,j<4→Av st' j=Av st j)
 (n: ∀id,id≠m→id∉AE V.v3→id∉V.rows.flatMap BB→N id=false→h'.get id=h.get id):L0 B c N m V h st' h':=by
 have v: ∀id,(∀cs,h.get id≠some (.box cs))→id≠m:=fun id a e=>a _ (by subst e;exact b.box);refine⟨{V with v3:=v3,rows:=rows},⟨t,?_,fun j f=>?_,s,u,b.gw,z,b.inv⟩,fun id i=>?_,fun id k h2=>n id (fun e=>k zFR) (fun e=>k (V.v3_mem m e)) (fun e=>k (V.row_mem m e)) h2⟩
 .show(V.wd=m∧c=false)∨h'.get V.wd=_;refine LO b fun e o=>n _ e (fun e=>?_) (fun e=>?_) (q _ (V.acts_mem m))
  .have:=HA b.arr e;rw[o]at this;cases this
  .obtain⟨x,g⟩:=Kn b.be e;rw[o]at g;cases g
 .rw[w j f];refine Ka (b.sl j f) fun id i=>?_;obtain⟨x,g⟩:=H5 (b.sl j f) i;refine n id (v _ (by rw[g];simp)) (fun e=>?_) (fun e=>?_) (q _ (V.s_mem m f i))
  .have:=HA b.arr e;rw[g]at this;cases this
  .obtain⟨y,r⟩:=Kn b.be e;rw[g]at r
   match j,f with
   |0,_|1,_|2,_|3,_=>simp[Dm]at r
 .rcases(({V with v3:=v3,rows:=rows}:MV).mem m id).1 i with a|a|⟨j,f,a⟩|a|a
  .exact .inl (by rw[a];exact V.m_mem m)
  .exact .inl (by rw[a];exact V.acts_mem m)
  .exact .inl (V.s_mem m f a)
  .exact(p id (.inl a)).imp_left fun e=>e.elim (V.v3_mem m) (V.row_mem m)
  .exact(p id (.inr a)).imp_left fun e=>e.elim (V.v3_mem m) (V.row_mem m)
variable{h:AD}{m:Abs.Id}
theorem Nd{B:MV→Int→List AV}{c:Bool}{N:Abs.Id→Bool}{A:Abs.Id}{V:MV}{st:CT}{k:Nat}{q:Gp}{v:AV}(g:GM B c h m V st)(y:Mh N V m)(F:V.v3=.f8 A 0 V.rows.length)(U:st.d8.be[k]? =some q)(p:V.rows[k]? =some (Az q v))(l:List (List Cl))
 (f:AV) (h':AD) (M:h'.get m=some (.box (B V st.work))) (L:h'.get A=some (.arr 4 (V.rows.set k (Az q f)))) (C:Pk c 2 h' 1 f (l.map BD)) (D:AE f=AE v∨ ∀id∈AE f,N id=true∧ ∃l,id=1::l)
 (O: ∀id,Id.is m id=false→Id.is A id=false→(∀K∈AE v,Id.is K id=false)→N id=false→h'.get id=h.get id):L0 B c N m V h {st with d8:={st.d8 with be:=st.d8.be.set k {q with queue:=l}}} h':=by
 have P:AE V.v3=[A]:=by rw[F];rfl
 have J: ∀x,x∈AE v→x∈V.rows.flatMap BB:=fun x b=>CS.2 ⟨_,AS p,by rw[Bq];exact b⟩;have H: ∀id,id≠m→id∉AE V.v3→id∉AE v→N id=false→h'.get id=h.get id:=fun id b1 s t u=>O id (AF fun e=>b1 e.symm) (AF fun e=>s (by rw[P,←e];simp)) (fun K a=>AF fun e=>t (by rw[←e];exact a)) u;have W:(AE f).Nodup∧(AE f).length≤1:=by
  rcases U4 C with(⟨rfl,_⟩|⟨i,x,rfl,_⟩)|⟨rfl,_⟩<;>simp[AE]
 have S:(V.rows.set k (Az q f)).length=V.rows.length:=AG;refine SN (v3:=V.v3) (rows:=V.rows.set k (Az q f)) g y (M.trans (by rw[←g.inv V (V.rows.set k (Az q f)) st.work])) (.inr ⟨A,by rw[S];exact F,L⟩) ⟨?_,fun j X o=>?_⟩ ?_ (fun id a=>?_) (fun j o=>by match j,o with|0,_|1,_|2,_|3,_=>rfl) fun id b1 s t u=>H id b1 s (fun e=>t (J id e)) u
 .simp[g.be.len]
 .dsimp only at o;rw[IF]at o⊢;have Q:=AL p;by_cases r:k=j
  .have R:=AL U;rw[D5 r,D5 R]at o;rw[D5 r,D5 Q];cases o;exact⟨f,rfl,C⟩
  .rw[Co r]at o⊢;obtain⟨w,z,I⟩:=g.be.row j X o;refine⟨w,z,Ka I fun id a=>?_⟩;have T:id∈V.rows.flatMap BB:=CS.2 ⟨_,AS z,by rw[Bq];exact a⟩;obtain⟨x,b⟩:=H5 I a;refine H id (fun e=>?_) (fun e=>?_) ?_ (y _ (V.row_mem m T))
   .rw[e,g.box]at b;cases b
   .rw[HA g.arr e]at b;cases b
   .have:=ma g.qd z p (fun e=>r e.symm) (x:=id) (by rw[Bq];exact a)
    rwa [Bq]at this
 .refine Tu g.qd p (by rw[Bq];exact W.1) fun x b=>?_;rw[Bq]at b⊢;rcases D with e|e
  .exact .inl (by rw[←e];exact b)
  .refine .inr fun n=>?_;have:=y _ (V.row_mem m n);rw[(e x b).1]at this;cases this
 .rcases a with a|a
  .exact .inl (.inl a)
  .rcases Yg p a with n|n
   .exact .inl (.inr n)
   .rw[Bq]at n;rcases D with e|e
    .rw[e]at n;exact .inl (.inr (J id n))
    .exact .inr (e id n)
variable{π:List Nat}{H g:AD}
theorem RQ{p:AX}{sz:List Int}{n:Nat}{V:MV}{r:Option CT}{o:Ax}(q:Bz π V m)(j: ∀id,Id.under π id=false→H.get id=h.get id)(f:GL p sz (n::π) m V H r o g):GL p sz π m V h r o (gc (n::π) g):=by
 cases r with
 |none=>exact⟨f.1,fun id c h2=>by rw[Ah _ _ _ (AI h2 n),f.2 id c (AI h2 n),j id h2]⟩
 |some st'=>
  obtain⟨c,V',k,e⟩:=f;refine⟨c,V',S4 k e (q.ext n),fun id l=>(e.ids id l).imp_right fun i=>⟨BM i.1,i.2⟩,fun id a b=>?_⟩;rw[Ah _ _ _ (AI b n),e.frame id a (AI b n),j id b]
theorem RR{p:AX}{sz:List Int}{V:MV}{st:CT}(b:KA p sz h m V st)(c:Bz π V m)(a: ∀id,Id.under π id=false→H.get id=h.get id):GL p sz π m V h (some st) (.ret (.ii [])) H:=⟨rfl,V,E8 b c a,bO a⟩
variable{es:List (List Ao)}
theorem q7{sz:Nat}{v:AV}(h:jK g sz v es)(a:es≠ []):Kg g sz v es:=h.resolve_right fun e=>a e.2
variable{y:α}
theorem ij{f:α→List Ao}{sz:Nat}{v:AV}(h:jK g sz v (l.map f)){k:Nat}(a:l[k]? =some y):Kg g sz v (l.map f):=q7 h fun e=>by rw[D6.1 e]at a;cases a
theorem XW{sz:Nat}{v:AV}(h:jK g sz v es):((v=.d7∨v=.emp)∧es=[])∨ ∃id x,v=.f8 id 0 es.length∧g.get id=some (.em sz (es++x)):=by
 rcases h with(h|h)|h
 .exact .inl ⟨.inl h.1,h.2⟩
 .exact .inr h
 .exact .inl ⟨.inr h.1,h.2⟩
theorem FC{f:α→List Ao}{sz:Nat}{v:AV}(h:Kg g sz v (l.map f)){k:Nat}(c:l[k]? =some y): ∃id a,v=.f8 id 0 l.length∧g.get id=some (.em sz (l.map f++a))∧(l.map f++a)[k]? =some (f y)∧k<l.length∧k<l.length+a.length:=by
 have b:=AL c;rcases h with⟨_,h⟩|⟨id,a,rfl,h⟩
 .rw[D6.1 h]at b;simp at b
 .exact⟨id,a,by rw[As],h,by rw[Ce zEw,D7,c];rfl,b,AA⟩
def Xt(s:BX)(e:GK):Prop:=e.deed=5∧E7 s.ac e.at_∧Al s.ac e.at_=false
structure Sn(p:AX)(sz:List Int)(st st':CT)(js:List Gq):Prop where
 ol:GD p sz st'.d8
 ext:Y5 st.d8 st'.d8
 jobs: ∀j∈js,CP p sz st'.d8 j
 work:st'.work=st.work
 ev: ∃l,st'.ev=st.ev++l∧l.length≤1∧ ∀e∈l,Xt st'.d8 e
structure K6(p:AX)(sz:List Int)(st st':CT):Prop where
 ol:GD p sz st'.d8
 ext:Y5 st.d8 st'.d8
 work:st.work≤st'.work
 top:st.work≤400→st'.work≤400
 evs: ∃l,st'.ev=st.ev++l∧(l.length:Int)≤st'.work-st.work∧ ∀e∈l,Xt st'.d8 e
theorem K6.ev{p:AX}{sz:List Int}{st st':CT}(h:K6 p sz st st'):(st'.ev.length:Int)≤st.ev.length+(st'.work-st.work):=by
 obtain⟨l,a,h2,_⟩:=h.evs;rw[a,CE];omega
theorem vw{s s':BX}(h:Y5 s s'){e:GK}(a:Xt s e):Xt s' e:=⟨a.1,JM h.ns a.2.1,by rw[LX h a.2.1];exact a.2.2⟩
theorem pO{p:AX}{sz:List Int}{st:CT}(h:GD p sz st.d8):K6 p sz st st:=⟨h,JK _,AA,fun h=>h,[],AG,AG,AG⟩
theorem Ur{p:AX}{sz:List Int}{a b c:CT}(g:K6 p sz a b)(h2:K6 p sz b c):K6 p sz a c:=by
 obtain⟨l,i,o,k⟩:=g.evs;obtain⟨m,j,q,n⟩:=h2.evs;refine⟨h2.ol,mL g.ext h2.ext,by have:=g.work;have:=h2.work;omega,fun h=>h2.top (g.top h),l++m,by rw[j,i,Dl],by rw[CE];omega,fun e f=>?_⟩;rcases EL.1 f with f|f
 .exact vw h2.ext (k e f)
 .exact n e f
section
variable{p:AX}{sz:List Int}{st:CT}{j:Gq}{x:C2}
theorem vS{s:BX}{n:Nat}{q:Gp}(f:GD p sz s)(e:s.be[n]? =some q){l:List Cl}(i:q.queue.length<12)(a:Al s.ac q.at_=false)(b:EE p s q=l.length)(g:l.all (Cl.inB p s.be.length s.ac.length)=true):Hd p s {q with queue:=q.queue++[l]}:=by
 have h:=f.que n q e;refine⟨Aa,.inr a,fun m c=>?_⟩;rcases EL.1 c with h2|h2
 .exact h.msgs m h2
 .rw[Ac]at h2;subst h2;show GF p _ _ (EE p s q) m=true;rw[GF,b,g];simp
theorem p8(b:GD p sz st.d8)(f:CP p sz st.d8 j)(l: ∀e∈x.args,e.formed j.env.length=true){st':CT}(h:Cv p x j st=some st'):Sn p sz st st' []:=by
 have i:(x.args.map (·.value j.env)).all (Cl.inB p st.d8.be.length st.d8.ac.length)=true:=by
  rw[D4];intro v i;obtain⟨e,c,rfl⟩:=F2.1 i;exact qP f.of e (l e c)
 simp only[Cv]at h;split at h
 .cases h;exact⟨b,JK _,AG,rfl,_,rfl,AG,fun e c=>by rw[Ac]at c;subst c;exact⟨rfl,f.at_,f.live⟩⟩
 split at h
 .obtain⟨s,a,rfl⟩:=Be.1 h;have key:GD p sz s∧Y5 st.d8 s:=by
   rw[MU]at a;split at a
   .rename_i q g;split at a
    .rename_i k;rw[SC]at a;split at a
     .rename_i m;cases a;exact⟨XX b g (vS b g m k.1 k.2 i),mJ g _⟩
     .cases a
    .cases a;exact⟨b,JK _⟩
   .cases a;exact⟨b,JK _⟩
  exact⟨key.1,key.2,AG,rfl,[],AG,AG,AG⟩
 .cases h;exact⟨b,JK _,AG,rfl,[],AG,AG,AG⟩
theorem Th(i:BO p sz)(v:GD p sz st.d8)(c:CP p sz st.d8 j)(z:p.nodes[j.node.toNat]? =some x)(u:x.op=4){st':CT}{o:List Gq}(h:FK p x j st=some (st',o)):Sn p sz st st' o:=by
 obtain⟨d,a⟩:=eU i v c z u;simp only[FK,a.f9]at h;split at h
 .rename_i q;cases h;have e:=a.ext;have s:(B3 st.d8 d (A6 st.d8 d x.n j)).be.length=st.d8.be.length+d.be.length:=by simp[B3,Fa]
  have w:(B3 st.d8 d (A6 st.d8 d x.n j)).ac.length=st.d8.ac.length+d.ac.length:=by simp[B3,Eo]
  have m:(A6 st.d8 d x.n j).env.all (Cl.inB p (B3 st.d8 d (A6 st.d8 d x.n j)).be.length (B3 st.d8 d (A6 st.d8 d x.n j)).ac.length)=true:=by rw[s,w];exact a.of
  have l:((A6 st.d8 d x.n j).env.length:Int)=(j.env.length:Int)+d.own:=by rw[a.env];omega
  refine⟨a.sok' i q,e,fun D b=>?_,rfl,[],AG,AG,AG⟩;rcases EL.1 b with b|b
  .obtain⟨t,y,f,rfl⟩:=Qp b;have h2:=a.ac y (AS f);have C:=AL f;have g:=a.spot (n:=((0+t:Nat):Int)+1) AA AA;exact⟨h2.1,by rw[h2.2,l],g.1,g.2,m⟩
  .obtain⟨k,r,A,B⟩:=a.kid;rw[BL,r]at b;simp only[F4,Ac]at b;subst b;exact⟨A,by rw[B,l],JM e.ns c.at_,by rw[LX e c.at_];exact c.live,m⟩
 .cases h
theorem jC(e:GD p sz st.d8)(b:CP p sz st.d8 j)(i:p.nodes[j.node.toNat]? =some x)(f:DV x.op=true){st':CT}(h:FH j st=some st'):Sn p sz st st' []:=by
 rw[FH]at h;split at h
 .rename_i k;cases h;refine⟨OZ e Aa fun w a=>?_,⟨fun _ _ h=>h,fun _ _ h=>h,fun c q g=>⟨[],by simpa using g⟩⟩,AG,rfl,[],AG,AG,AG⟩;rcases EL.1 a with a|a
  .exact e.wait w a
  .rw[Ac]at a;subst a;simp only[Ca,b.live,b.of,i,f,b.size,AP,Ap,HW,GO];exact⟨b.at_,trivial,b.n0,trivial,trivial,trivial⟩
 .cases h
theorem eY(o:BO p sz)(b:GD p sz st.d8)(c:CP p sz st.d8 j){st':CT}{r:List Gq}(h:JH p j st=some (st',r)):Sn p sz st st' r:=by
 obtain⟨x,l,m,q,w,v,_⟩:=JN o c;simp only[JH,m]at h;have n: ¬x.op=4→ ∀k,∀g∈BL x k j.at_ j.env,CP p sz st.d8 g:=fun a k=>LA c a w v k;split at h
 .rename_i a;obtain⟨s,i,e⟩:=Be.1 h;cases e;simp only[DB,AP,D4]at q;exact p8 b c (fun e t=>by have:=q.2.2.2 e t;simp only[Bu.ok,AP]at this;exact this.2.2) i
 split at h
 .rename_i a;cases h;refine⟨b,JK _,fun g f=>?_,rfl,[],AG,AG,AG⟩;rcases EL.1 f with f|f
  .exact n AA 0 g f
  .exact n AA 1 g f
 split at h
 .rename_i a;exact Th o b c m a h
 split at h
 .rename_i u a;cases h;exact⟨b,JK _,n u _,rfl,[],AG,AG,AG⟩
 split at h
 .rename_i a;obtain⟨s,i,e⟩:=Be.1 h;cases e;exact jC b c m a i
 .cases h;exact⟨b,JK _,AG,rfl,[],AG,AG,AG⟩
end
theorem RK{p:AX}{sz:List Int}{f:Gq→CT→Option CT}(b: ∀j st st',GD p sz st.d8→CP p sz st.d8 j→f j st=some st'→K6 p sz st st'): ∀(l:List Gq) (st st':CT),GD p sz st.d8→(∀j∈l,CP p sz st.d8 j)→CF f l st=some st'→K6 p sz st st'
 |[],st,st',hs,_,h=>by cases h;exact pO hs
 |j::l,st,st',hs,hj,h=>by
  rw[CF]at h;obtain⟨c,e,h2⟩:=IN.1 h;have a:=b j st c hs (hj j AG) e;exact Ur a (RK b l c st' a.ol (fun i g=>MJ (hj i (by simp[g])) a.ext) h2)
theorem JI{p:AX}{sz:List Int}(f:BO p sz): ∀(k:Nat) (j:Gq) (st st':CT),GD p sz st.d8→CP p sz st.d8 j→Eb p k j st=some st'→K6 p sz st st'
 |0,j,st,st',_,_,h=>by cases h
 |k+1,j,st,st',hs,hj,h=>by
  rw[Eb]at h;split at h
  .rename_i o;cases c:JH p j {st with work:=st.work+1}with
   |none=>rw[c]at h;cases h
   |some r=>
    obtain⟨e,m⟩:=r;rw[c]at h;have a:=eY (st:={st with work:=st.work+1}) f hs hj c
    obtain⟨l,g,n,i⟩:=a.ev;have q:e.work=st.work+1:=a.work;refine Ur (b:=e) ⟨a.ol,a.ext,AA,AA,l,g,AA,i⟩ (RK (fun j st st'=>JI f k j st st') m e st' a.ol a.jobs h)
  .cases h
theorem B9{π:List Nat}{n n':Nat}{id:Abs.Id}(h:Id.under (n::π) id=true)(h':Id.under (n'::π) id=true):n=n':=by
 rw[under_iff]at h h';have:=List.suffix_of_suffix_length_le h h' AG;have:=this.eq_of_length AG;simpa using this
structure Br(B:MV→Int→List AV)(c:Bool)(π:List Nat)(m:Abs.Id)(V:MV)(h:AD)(b:Nat)(V':MV)(st:CT)(g:AD):Prop where
 rep:GM B c g m V' st
 ids: ∀id∈V'.ids m,id∈V.ids m∨ ∃n,n<b∧Id.under (n::π) id=true∧ ∃l,id=1::l
 frame: ∀id,id∉V.ids m→Id.under π id=false→g.get id=h.get id
abbrev Gg(p:AX)(sz:List Int):=Br (BK p sz) true
section
variable{p:AX}{sz:List Int}{B:MV→Int→List AV}{c:Bool}{π:List Nat}{m:Abs.Id}{V V':MV}{h g H g1:AD}{b:Nat}{st:CT}
theorem C1{b':Nat}{id:Abs.Id}(g:Bz π V m)(c:id∈V.ids m∨ ∃n,n<b∧Id.under (n::π) id=true∧ ∃l,id=1::l)(a n:Nat)(i:b≤n):Id.is (a::n::π) id=false:=by
 rcases c with c|⟨k,h,f,_⟩
 .exact AJ (g id c) a n
 .refine AF fun e=>?_;subst e;have:=B9 f (n':=n) (under_iff.2 ⟨[a],rfl⟩);omega
theorem EU{id:Abs.Id}(g:Bz π V m)(c:id∈V.ids m∨ ∃n,n<b∧Id.under (n::π) id=true∧ ∃l,id=1::l)(a n:Nat)(f:b≤n):Id.is id (a::n::π)=false:=by
 have:=C1 (b':=b) g c a n f;exact AF fun e=>by rw[e,is_self]at this;cases this
theorem Ie(b:GM B c h m V st)(i:Bz π V m)(a: ∀id,Id.under π id=false→g.get id=h.get id):Br B c π m V h 0 V st g:=
 ⟨E8 b i a,fun id f=>.inl f,fun id _ e=>a id e⟩
theorem Br.up(a:Br B c π m V h b V' st g){b':Nat}(f:b≤b'):Br B c π m V h b' V' st g:=
 ⟨a.rep,fun id e=>(a.ids id e).imp_right fun⟨n,h1,h2⟩=>⟨n,AA,h2⟩,a.frame⟩
theorem Br.loc(l:Bz π V m)(e:Br B c π m V h b V' st g)(f: ∀id,(∀a n,b≤n→Id.is (a::n::π) id=false)→H.get id=g.get id):Br B c π m V h b V' st H:=
 ⟨Bx e.rep fun id j=>f id fun a n k=>C1 (b':=b) l (e.ids id j) a n k,e.ids,fun id i h2=>by rw[f id fun a n _=>AJ h2 a n];exact e.frame id i h2⟩
variable{n:Nat}
theorem Br.apart(i:Bz π V m)(f:Br B c π m V h b V' st g)(o:b≤n):Bz (n::π) V' m:=fun id e=>by
 rcases f.ids id e with a|⟨k,l,h2,_⟩
 .exact AI (i id a) n
 .cases j:Id.under (n::π) id with
  |false=>rfl
  |true=>
   have:=B9 h2 j;omega
theorem Br.fin(a:Gg p sz π m V h b V' st g):GL p sz π m V h (some st) (.ret (.ii [])) g:=
 ⟨rfl,V',a.rep,fun id c=>(a.ids id c).imp_right fun⟨n,_,h2,h3⟩=>⟨BM h2,h3⟩,a.frame⟩
variable{st':CT}
theorem Br.callL(t:Bz π V m)(j:Br B c π m V h b V' st H)(r:b≤n)(s:L0 B c (Id.under (n::π)) m V' H st' g1): ∃g,Br B c π m V h (n+1) g st' (gc (n::π) g1)∧ ∀id,id∉V'.ids m→Id.under (n::π) id=false→id∉g.ids m:=by
 obtain⟨g,o,i⟩:=s;have p:=j.apart t r;refine⟨g,⟨S4 o i p,fun id q=>?_,fun id f h2=>?_⟩,fun id f h2 l=>?_⟩
 .rcases i.ids id q with e|⟨f,h2⟩
  .exact(j.ids id e).imp_right fun⟨k,a,c⟩=>⟨k,AA,c⟩
  .exact .inr ⟨n,AA,f,h2⟩
 .rw[Ah _ _ _ (AI h2 n),i.frame id (fun e=>?_) (AI h2 n)]
  .exact j.frame id f h2
  .rcases j.ids id e with e|⟨k,_,l,_⟩
   .exact f e
   .rw[BM l]at h2;cases h2
 .rcases i.ids id l with e|⟨e,_⟩
  .exact f e
  .rw[h2]at e;cases e
variable{o:Ax}
theorem Br.call(g:Bz π V m)(f:Gg p sz π m V h b V' st H)(c:b≤n)(e:GL p sz (n::π) m V' H (some st') o g1): ∃a,Gg p sz π m V h (n+1) a st' (gc (n::π) g1)∧ ∀id,id∉V'.ids m→Id.under (n::π) id=false→id∉a.ids m:=f.callL g c e.2
theorem Br.ge(q:Bz π V m)(f:Gg p sz π m V h b V' st H)(l:b≤n)(j:GL p sz (n::π) m V' H none o g1):GL p sz π m V h none o (gc (n::π) g1):=by
 obtain⟨g,h2⟩:=j;refine⟨g,fun id a c=>?_⟩;rw[Ah _ _ _ (AI c n),h2 id (fun e=>?_) (AI c n)]
 .exact f.frame id a c
 .rcases f.ids id e with e|⟨k,_,i,_⟩
  .exact a e
  .rw[BM i]at c;cases c
variable{r:Option CT}
theorem W6(b:GL p sz (n::π) m V' H r o g1){id:Abs.Id}(a:id∉V'.ids m)(h2:Id.under (n::π) id=false):(gc (n::π) g1).get id=H.get id:=by
 rw[Ah _ _ _ h2];cases r with
 |none=>exact b.2 _ a h2
 |some st'=>
  obtain⟨_,e,_,c⟩:=b;exact c.frame _ a h2
theorem Dq(f:Br B c π m V h b V' st H)(g:Bz π V m)(k:Nat):0::k::π∉V'.ids m:=fun a=>by
 rcases f.ids _ a with a|⟨_,_,_,l,e⟩
 .have:=g _ a;rw[show Id.under π (0::k::π)=true from under_iff.2 ⟨[0,k],rfl⟩]at this;cases this
 .cases e
theorem BR{k:Nat}(π:List Nat)(h:k≠n):Id.under (n::π) (0::k::π)=false:=by
 cases a:Id.under (n::π) (0::k::π)with
 |false=>rfl
 |true=>
  have:=B9 a (n':=k) (under_iff.2 ⟨[0],rfl⟩);omega
theorem Br.box(i:Bz π V m)(g:Gg p sz π m V h b V' st H){k:Nat}(f:k≠n)(c:GL p sz (n::π) m V' H r o g1):(gc (n::π) g1).get (0::k::π)=H.get (0::k::π):=by
 have a:=BR π f;rw[Ah _ _ _ a];have h2:=Dq g i k;cases r with
 |none=>exact c.2 _ h2 a
 |some st'=>
  obtain⟨_,j,_,e⟩:=c;exact e.frame _ h2 a
end
def J8(p:AX)(sz:List Int)(k:Nat):Prop:= ∀(h:AD) (π:List Nat) (m:Abs.Id) (V:MV) (st:CT) (j:Gq),KA p sz h m V st→Bz π V m→GD p sz st.d8→CP p sz st.d8 j→0≤st.work→st.work≤400→401≤st.work+k→(st.ev.length:Int)≤900000+st.work→
 ∃o h',KL Tryz.prog cfg (.fn 66) [.ptr m 0,nI j.node,nI j.at_,.d (.bv (j.env.map AN))] h π true none=.ok (o,h')∧GL p sz π m V h (Eb p k j st) o h'
structure Ke(p:AX)(sz:List Int)(k:Nat)(st:CT):Prop where
 ol:GD p sz st.d8
 w0:0≤st.work
 w1:st.work≤400
 w2:401≤st.work+k
 ev:(st.ev.length:Int)≤900000+st.work
theorem Ke.post{p:AX}{sz:List Int}{k:Nat}{st st':CT}(h:Ke p sz k st)(a:K6 p sz st st'):Ke p sz k st':=⟨a.ol,by have:=a.work;have:=h.w0;omega,a.top h.w1,by have:=a.work;have:=h.w2;omega,by have:=a.ev;have:=h.ev;omega⟩
end Go.Proofs
namespace Go.Abs
theorem Sc(sz:Nat)(es:List (List Ao))(h: ∀e∈es,e.length=sz):GG sz (es.map fun e=>e.map .d)=true:=by
 induction es with
 |nil=>rfl
 |cons e es b=>
  rw[CO,Jx,b fun e a=>h e (F0 _ a)];simp[h e AG,AV.isCell]
theorem Nz(g:G)(b:Id)(j:TI)(s:AV)(es:List (List Ao))(c:0<j.size)(h: ∀e∈es,e.length=j.size)(i:es≠ [])(f:es.length≤BG):Po g b j s (some (es.map fun e=>e.map .d))=appTo g b j s (es.map fun e=>e.map .d):=by
 cases es with
 |nil=>exact absurd rfl i
 |cons e es=>
  have a:=Sc j.size (e::es) h;rw[CO]at a⊢;rw[Vp,a];have:(e.map AV.d::es.map fun e=>e.map AV.d).length≤BG:=zEY
  simp only[this,c,decide_true,ON,Vo]
theorem SO(g:G)(a:Id)(j:TI)(es:List (List Ao))(k:j.mix=false)(b:0<j.size)(h: ∀e∈es,e.length=j.size)(i:es.length≤BG):newArr g a j (es.map fun e=>e.map .d)=some ⟨.f8 (1::a) 0 es.length,[(1::a,.em j.size es)]⟩:=by
 have c:((es.map fun e=>e.map AV.d).all fun e=>e.length==j.size&&e.all AV.isCell)=true:=by
  rw[PS];exact Sc _ _ h
 have h2:Nat.blt 0 j.size=true:=by rw[UL];exact b
 have f:Nat.ble es.length BG=true:=RG i;unfold newArr;rw[c];simp only[As,h2,f,ON,k,KM,JO,Bi]
theorem Ss(g:G)(a:Id)(j:TI)(es:List (List Ao))(f:j.mix=false)(b:0<j.size)(h: ∀e∈es,e.length=j.size)(i:es≠ [])(c:es.length≤BG):Po g a j .emp (some (es.map fun e=>e.map .d))=some ⟨.f8 (1::a) 0 es.length,[(1::a,.em j.size es)]⟩:=by
 rw[Nz g a j .emp es b h i c];exact SO g a j es f b h c
end Go.Abs
namespace Go.Abs
theorem ACE(es:List (List Ao))(b:0<es.length)(i:TI)(a:i.kind=.slice):IQ .eql (.d (.bv es)) .d7 (some i)=some (.d (.bool false)):=by
 cases es with
 |nil=>simp at b
 |cons e es=>simp only[IQ,a,JD]
attribute [go_sem] ACE
end Go.Abs
namespace Go.Proofs
open Go Go.Abs
theorem TT(t:List Int)(n:Nat)(b:n=t.length)(i:0<n)(k:n≤1000000): ∀(g:G) (a:Abs.Id) (j:TI),j.mix=false→j.size=1→Po g a j .emp (some ((t.map AR).map fun x=>x.map AV.d))=some ⟨.f8 (1::a) 0 n,[(1::a,.em 1 (t.map AR))]⟩:=fun g a j h c=>by
 have:=Ss g a j (t.map AR) h AA (fun e f=>by
  obtain⟨x,_,rfl⟩:=F2.1 f;rw[c];rfl) (fun e=>by rw[D6.1 e]at b;simp at b;omega) zEj
 rw[this,As,b,c]
theorem Xc(t:List Int)(b:List (List Ao))(n:Nat)(a:n=t.length):List.take n ((t.map AR++b).map fun x=>x.map AV.d)=(t.map AR).map fun x=>x.map AV.d:=by
 rw[BE,Hw zEd,By zEd]
variable{g0:AD}{s0:Nat}{es:List (List Ao)}
theorem Ek{v:AV}(h:Kg g0 s0 v es)(g:G):VY g .slice v=some es.length:=by
 rcases h with⟨rfl,rfl⟩|⟨id,x,rfl,_⟩<;>rfl
theorem zG{v:AV}(h:jK g0 s0 v es)(g:G):VY g .slice v=some es.length:=by
 rcases h with h|⟨rfl,rfl⟩
 .exact Ek h g
 .rfl
theorem Js{v:AV}{rows:List (List AV)}(h:qa g0 v rows)(g:G):VY g .slice v=some rows.length:=by
 rcases h with⟨rfl,rfl⟩|⟨id,rfl,_⟩<;>rfl
end Go.Proofs
namespace Go.Proofs
open Go Go.Abs
set_option maxRecDepth 100000
set_option maxHeartbeats 4000000
def db(sz:Nat)(π:List Nat)(h:AD)(v:AV)(L:List (List Ao))(o:Ax)(h':AD):Prop:= ∃v',o=.ret v'∧Kg h' sz v' L∧(∀id∈AE v',id∈AE v∨(Id.under π id=true∧ ∃l,id=1::l))∧ ∀id,id∉AE v→Id.under π id=false→h'.get id=h.get id
structure GN(sz:Nat)(π:List Nat)(h:AD)(v:AV)(b:Nat)(g:AD)(w:AV)(L:List (List Ao)):Prop where
 slv:Kg g sz w L
 ids: ∀id∈AE w,id∈AE v∨ ∃n,n<b∧Id.under (n::π) id=true∧ ∃l,id=1::l
 frame: ∀id,id∉AE v→Id.under π id=false→g.get id=h.get id
section
variable{sz:Nat}{π:List Nat}{h g H g1:AD}{v w:AV}{b k:Nat}{L L':List (List Ao)}{o:Ax}
theorem GN.not(i: ∀id∈AE v,Id.under π id=false)(c:GN sz π h v b g w L){id:Abs.Id}(f:id∈AE w)(a n:Nat)(k:b≤n):Id.is (a::n::π) id=false:=by
 rcases c.ids id f with h|⟨m,j,h2,_⟩
 .exact AJ (i id h) a n
 .refine AF fun e=>?_;subst e;have:=B9 h2 (n':=n) (under_iff.2 ⟨[a],rfl⟩);omega
theorem GN.apart(e: ∀id∈AE v,Id.under π id=false)(a:GN sz π h v b g w L){id:Abs.Id}(c:id∈AE w)(j:b≤k):Id.under (k::π) id=false:=by
 rcases a.ids id c with h|⟨m,i,h2,_⟩
 .exact AI (e id h) k
 .cases f:Id.under (k::π) id with
  |false=>rfl
  |true=>
   have:=B9 h2 f;omega
theorem GN.loc(k: ∀id∈AE v,Id.under π id=false)(c:GN sz π h v b g w L)(e: ∀id,(∀a n,b≤n→Id.is (a::n::π) id=false)→H.get id=g.get id):GN sz π h v b H w L:=
 ⟨H8 c.slv fun id i=>e id fun a n j=>c.not k i a n j,c.ids,fun id f h2=>by rw[e id fun a n _=>AJ h2 a n];exact c.frame id f h2⟩
theorem GN.up(a:GN sz π h v b g w L){b':Nat}(e:b≤b'):GN sz π h v b' g w L:=⟨a.slv,fun id c=>(a.ids id c).imp_right fun⟨n,h1,h2⟩=>⟨n,AA,h2⟩,a.frame⟩
theorem GN.call(u: ∀id∈AE v,Id.under π id=false)(c:GN sz π h v b H w L)(s:b≤k)(t:db sz (k::π) H w L' o g1): ∃w',o=.ret w'∧GN sz π h v (k+1) (gc (k::π) g1) w' L':=by
 obtain⟨w',p,h2,m,q⟩:=t;have g: ∀id∈AE w',(gc (k::π) g1).get id=g1.get id:=fun id f=>by
  rcases m id f with e|⟨_,l,rfl⟩
  .exact Ah _ _ _ (c.apart u e s)
  .exact HC _ _ _
 refine⟨w',p,H8 h2 g,fun id f=>?_,fun id j a=>?_⟩
 .rcases m id f with e|e
  .exact(c.ids id e).imp_right fun⟨n,q1,i⟩=>⟨n,AA,i⟩
  .exact .inr ⟨k,AA,e⟩
 .rw[Ah _ _ _ (AI a k),q id (fun g=>?_) (AI a k)]
  .exact c.frame id j a
  .rcases c.ids id g with r|⟨n,_,i,_⟩
   .exact j r
   .rw[BM i]at a;cases a
theorem GN.fin(a:GN sz π h v b g w L):db sz π h v L (.ret w) g:=⟨w,rfl,a.slv,fun id c=>(a.ids id c).imp_right fun⟨n,_,q2,q3⟩=>⟨BM q2,q3⟩,a.frame⟩
end
theorem Re: ∀{l:List Nat},(∀n∈l,n≤12)→(CN l).length≤12 ^ l.length
 |[],_=>by simp[CN]
 |n::l,h=>by
  have a:=Re (l:=l) fun n b=>h n (F0 _ b);have h2:=h n AG;have key: ∀m,((List.range m).flatMap fun(i:Nat)=>(CN l).map fun t=>(i:Int)::t).length=m*(CN l).length:=fun m=>by
   induction m with
   |zero=>simp
   |succ m c=>rw[List.range_succ,Ls,CE,c];simp[Ii]
  rw[CN,key,List.length_cons,Nat.pow_succ,Pm];exact Nat.mul_le_mul a h2
theorem cM(r b:Int)(many:List Nat)(bi:0<many.length)(be:many.length≤3)(Z: ∀n∈many,n≤12): ∀(k:Nat) (h:AD) (π:List Nat) (v M:AV) (m:List Dp) (t:List Int),m.length+12 ^ k≤100000000→Kg h 4 v (m.map FY)→Kg h 1 M (t.map AR)→(t.length=0→M=.d7)→(∀id,id∈AE v∨id∈AE M→Id.under π id=false)→t.length+k=many.length→
 ∃o h',KL Tryz.prog cfg (.fn 73) [v,nI r,nI b,.d (.bv ((many.map fun(n:Nat)=>(n:Int)).map AR)),M] h π true none=.ok (o,h')∧db 4 π h v ((m++(CN (many.drop t.length)).map fun p=>(⟨-1,r,b,t++p⟩:Dp)).map FY) o h'
 |0,h,π,v,M,m,t,a1,D,ac,a3,C,P=>by
  have a7:many.drop t.length=[]:=EX AA;rw[a7];simp only[CN,CO,BY,CI];rcases ac with⟨rfl,R⟩|⟨L,ar,rfl,gt⟩
  .rw[D6.1 R]at P;simp at P;omega
  have ut:=C L (.inr BJ);have a':=AJ ut;have bc:=Ak ut;rw[As];have ai:t.length=many.length:=AA;have a5:0<t.length:=AA;have ap:=TT t many.length AA AA AA;have b2:=Xc t ar many.length AA;have cn:List.take many.length (t.map AR)=t.map AR:=By Aa;rcases D with⟨rfl,ad⟩|⟨av,az,rfl,cc⟩
  .have bs:=D6.1 ad;subst bs;refine BT Tryz.func73 ?_;refine aw ?_;refine⟨_,rfl,Aq [] rfl ?_,fun id j=>.inr ?_,fun id F h2=>?_⟩
   .simp only[go_sem]
   .exact zES
   .have q:=AJ h2;exact zBr
  .have a6:=C av (.inl BJ);have b6:=AJ a6;have b7:=Ak a6;rw[As];rcases az with _|⟨y,az⟩
   .refine BT Tryz.func73 ?_;refine ax ?_;refine⟨_,rfl,Aq [] AG ?_,fun id j=>.inr ?_,fun id F h2=>?_⟩
    .simp only[go_sem,BE,BY,AM]
    .exact zES
    .exact zCi
   .refine BT Tryz.func73 ?_;refine ax ?_;refine⟨_,rfl,Aq az AG ?_,fun _ h=>.inl h,fun id F h2=>?_⟩
    .simp only[go_sem,BE,BY,AM]
    .exact zCi
 |k+1,h,π,v,M,m,t,a1,D,ac,a3,C,P=>by
  have a0:=cM r b many bi be Z k;obtain⟨n,J⟩:=get_some (l:=many) (i:=t.length) AA;have ch:=Z n (AS J);have O:=Ag J;obtain⟨f,H⟩: ∃f:Nat→List Dp,f=fun i=>(List.range i).flatMap fun(c:Nat)=>(CN (many.drop (t.length+1))).map fun p=>(⟨-1,r,b,t++[(c:Int)]++p⟩:Dp):=⟨_,rfl⟩;have V:f 0=[]:=by rw[H];rfl
  have I: ∀i,f (i+1)=f i++(CN (many.drop (t.length+1))).map fun p=>(⟨-1,r,b,t++[(i:Int)]++p⟩:Dp):=fun i=>by rw[H];simp[List.range_succ]
  have W:((CN (many.drop t.length)).map fun p=>(⟨-1,r,b,t++p⟩:Dp))=f n:=by
   rw[O,CN,H,List.map_flatMap];simp[List.map_map,Function.comp_def]
  have a2: ∀i,i≤n→(f i).length≤i*12 ^ k:=fun i=>by
   induction i with
   |zero=>simp[V]
   |succ i bv=>
    intro h;have F:=bv AA;have h2:=Re (l:=many.drop (t.length+1)) fun n J=>Z n (LM J);rw[I,CE,As,Ii,Nat.one_mul];rw[show(many.drop (t.length+1)).length=k by rw[Io];omega]at h2;omega
  rw[W];have bk:(many.map fun(n:Nat)=>(n:Int))[t.length]? =some (n:Int):=by rw[D7,J];rfl
  have ai: ¬(t.length:Int)=many.length:=AA;have b3:t.length<many.length:=AA;have Q: ∀i,i<n→(m++f i).length+12 ^ k≤100000000:=fun i z=>by
   have F:=a2 i AA;have h2:(i+1)*12 ^ k≤12*12 ^ k:=HM _ AA;rw[Ii,Nat.one_mul]at h2;rw[Nat.pow_succ,Pm]at a1;rw[CE];omega
  clear a2;replace Q:=AB Q;replace O:=AB O;replace W:=AB W;replace H:=AB H;replace I:=AB I;replace C:=AB C;replace D:=AB D;have K: ∀id∈AE v,Id.under π id=false:=fun id j=>C.out id (.inl j);rcases ac with⟨rfl,R⟩|⟨L,ar,rfl,gt⟩
  .have ad:=D6.1 R;subst ad;clear R;simp only[List.length_nil,I9]at P J bk O I H;clear ai b3;have ai: ¬(0:Int)=many.length:=AA;refine BT Tryz.func73 ?_;refine aw ?_;refine An (List.range n) (n:Int) (S:=fun _ i (a:(AV×AD)×Nat)=>⟨[(0,a.1.1),(1,nI r),(2,nI b),(3,.d (.bv ((many.map fun(n:Nat)=>(n:Int)).map AR))),(4,.d7),(11,nI i)],a.1.2,a.2+7,[]⟩)
    (Inv:=fun i b1 a=>AH (GN 4 π h v (a.2+7) a.1.2 a.1.1 ((m++f i).map FY))) (b0:=((_,_),0)) AG ⟨?_⟩ ?_ ?_
   .exact zDk
   .rintro i y ⟨⟨w,g⟩,c⟩ bo z X s T;dsimp only at*;have B:i<n:=by simpa using z
    refine aw ?_;have Y: ∀id,(∀a n,c+7≤n→Id.is (a::n::π) id=false)→((g.put (1::(c+22)::π) (.em 1 [[.int .i64 i]])).put (1::(c+23)::π) (.em 1 [[.int .i64 i]])).get id=g.get id:=fun id j=>by
     rw[get_put,get_put,j _ _ AA,j _ _ AA];rfl
    have u:=s.out.loc K Y;refine Ad (a0 _ ((c+24)::π) w (.f8 (1::(c+23)::π) 0 1) (m++f i) [(i:Int)] (Q.out i B) u.slv (Aq [] rfl ?_) AG (fun id j=>?_) Aa) (fun bx g1 N=>?_)
    .simp only[go_sem]
    .exact zCp
    obtain⟨w',rfl,A⟩:=u.call K AA N;clear N;replace A:=AB A;refine aw ?_;refine T.out ((w',_),c+22) ⟨?_⟩;have U:=A.out.up (b':=c+22+7) AA
    rwa [show(m++f i++(CN (many.drop [(i:Int)].length)).map fun p=>(⟨-1,r,b,[(i:Int)]++p⟩:Dp))=m++f (i+1) by rw[I.out,←Dl];rfl]at U
   .rintro i ⟨⟨w,g⟩,c⟩ z X s;dsimp only at*;have B:i=n:=by have:=z.out;simpa using this
    subst B;refine aw ?_;exact s.out.fin
  .rw[As];have ut:=C.out L (.inr BJ);have a':=AJ ut;have bc:=Ak ut;have a5:0<t.length:=Nat.pos_of_ne_zero fun e=>by cases a3 e
   have cl:t.length≤3:=AA;have ap:=TT t t.length rfl a5 AA;have b2:=Xc t ar t.length rfl;have bl:L∉AE v:=fun e=>by
    obtain⟨x,a4⟩:=H7 D.out e;rw[gt]at a4;cases a4
   refine BT Tryz.func73 ?_;refine aw ?_;refine An (List.range n) (n:Int) (S:=fun _ i (a:(AV×AD)×Nat)=>⟨[(0,a.1.1),(1,nI r),(2,nI b),(3,.d (.bv ((many.map fun(n:Nat)=>(n:Int)).map AR))),(4,.f8 L 0 t.length),(11,nI i)],a.1.2,a.2+7,[]⟩)
    (Inv:=fun i b1 a=>AH (GN 4 π h v (a.2+7) a.1.2 a.1.1 ((m++f i).map FY))) (b0:=((_,_),0)) AG ⟨?_⟩ ?_ ?_
   .exact zDk
   .rintro i y ⟨⟨w,g⟩,c⟩ bo z X s T;dsimp only at*;have B:i<n:=by simpa using z
    have b8:=(s.out.frame L bl ut).trans gt;have Y: ∀id,(∀a n,c+7≤n→Id.is (a::n::π) id=false)→((((g.put (1::(c+20)::π) (.em 1 (t.map AR))).put (1::(c+22)::π) (.em 1 [[.int .i64 i]])).put (1::(c+20)::π) (.i7 0 [])).put (1::(c+23)::π) (.em 1 (t.map AR++[[.int .i64 i]]))).get id=g.get id:=fun id j=>by
     rw[get_put,get_put,get_put,get_put,j _ _ AA,j _ _ AA,j _ _ AA];rfl
    have u:=s.out.loc K Y;replace s:=AB u;have b4: ¬c+2=c:=AA;have b5: ¬c+3=c:=AA;refine ax ?_;refine Ad (a0 _ ((c+24)::π) w (.f8 (1::(c+23)::π) 0 (t.length+1)) (m++f i) (t++[(i:Int)]) (Q.out i B) u.slv (Aq [] AG ?_) AG (fun id j=>?_) Aa) (fun bx g1 N=>?_)
    .simp only[go_sem,BE]
    .exact zCp
    obtain⟨w',rfl,A⟩:=u.call K AA N;clear N;replace A:=AB A;refine aw ?_;refine T.out ((w',_),c+22) ⟨?_⟩;have U:=A.out.up (b':=c+22+7) AA
    rwa [show(m++f i++(CN (many.drop (t++[(i:Int)]).length)).map fun p=>(⟨-1,r,b,t++[(i:Int)]++p⟩:Dp))=m++f (i+1) by rw[I.out,←Dl,CE];rfl]at U
   .rintro i ⟨⟨w,g⟩,c⟩ z X s;dsimp only at*;have B:i=n:=by have:=z.out;simpa using this
    subst B;refine aw ?_;exact s.out.fin
theorem rj(b:Nat)(e:CB)(h:AD)(bs:Nat)(π:List Nat)(ci:Option (List Nat))(a:Bool)(nt:Nat):Fg cfg ⟨34,π,false,ci,a,nt⟩ b ⟨e,h,bs,[]⟩=K8 cfg 34 π b e h:=by
 rw[FJ];exact N0 _ _ _ _ _
attribute [go_sem 2000] rj
structure qx(p:AX)(s:BX)(A B:Abs.Id)(v:AV)(g:AD)(b:Nat)(L:List Dp):Prop where
 pa:g.get A=some (.box (pC p))
 sb:g.get B=some (.box (sC s))
 slv:Kg g 4 v (L.map FY)
 na:GB [] b A
 nb:GB [] b B
 nv: ∀id∈AE v,GB [] b id
variable{π:List Nat}{b:Nat}
theorem br{A:Abs.Id}(h:GB π b A)(t j:Nat)(c:b≤j):Id.is (t::j::π) A=false:=by
 obtain⟨f,e,a,rfl⟩:=h;exact AF Aa
theorem Ud{A:Abs.Id}(h:GB π b A)(t j:Nat)(c:b≤j):Id.is A (t::j::π)=false:=by
 obtain⟨f,e,a,rfl⟩:=h;exact AF Aa
theorem np(l:List (Nat×Ao)):IB (l.map fun y=>(y.1,AV.d y.2))=[]:=by
 induction l with
 |nil=>rfl
 |cons x l a=>simp[IB,AE,BB]at*;exact a
theorem Fh{K:Ab}{fr:Fr}{bl:Nat}{x:Code}{Q:Ea→St→Prop}{E:CB}{H:AD}{p:AX}{s:BX}{A B:Abs.Id}{v:AV}{L:List Dp}(i:List (Nat×Ao))
 (M:Lj E (cfg.live 34 bl)=(2,.ptr A 0)::(3,.ptr B 0)::(5,v)::i.map fun y=>(y.1,AV.d y.2)) (w:H.get A=some (.box (pC p))) (h2:H.get B=some (.box (sC s))) (k:Kg H 4 v (L.map FY))
 (P: ∀r t D g b,qx p s r t D g b L→Xu cfg K fr bl x ⟨(2,.ptr r 0)::(3,.ptr t 0)::(5,D)::i.map fun y=>(y.1,AV.d y.2),g,b,[]⟩ Q):Xu cfg K fr bl x (K8 cfg 34 [] bl E H) Q:=by
 rw[FJ,M];have U:(AE v).length≤1:=by rcases k with⟨rfl,_⟩|⟨id,x,rfl,_⟩<;>simp[AE]
 obtain⟨ν,h',n,N,T,f⟩:=Km [] H ((2,.ptr A 0)::(3,.ptr B 0)::(5,v)::i.map fun y=>(y.1,AV.d y.2)) (A::B::AE v) zEo (by
  intro y a;have J:=np i;have I:IB ((2,.ptr A 0)::(3,.ptr B 0)::(5,v)::i.map fun y=>(y.1,AV.d y.2))=A::B::(AE v++IB (i.map fun y=>(y.1,AV.d y.2))):=by simp[IB,BB,AE]
  rw[I,J]at a;simpa using a) (by
  intro y a z c;rcases D0.1 a with rfl|a
  .rw[w]at c;simp[FA,BB,AE]at c
  rcases D0.1 a with rfl|a
  .rw[h2]at c;simp[FA,BB,AE]at c
  .obtain⟨x,S⟩:=H7 k a;rw[S]at c;simp[FA]at c)
 obtain⟨z,c⟩:=f.env A zEf;obtain⟨F,q⟩:=f.env B zEf;have g1:=f.get A z _ c w;have u:=f.get B F _ q h2;simp[Fe,Fc,ren]at g1 u;have o: ∀x z,ν x=some z→GB [] n z:=fun x z h=>by obtain⟨j,O,rfl⟩:=f.name x z h;exact⟨_,j,O,rfl⟩
 have R: ∀l:List (Nat×Ao),(l.map fun y=>(y.1,AV.d y.2)).map (fun p=>(p.1,ren ν p.2))=l.map fun y=>(y.1,AV.d y.2):=fun l=>by simp[ren]
 rw[N,CO,CO,CO,R];have key:Kg h' 4 (ren ν v) (L.map FY)∧ ∀id∈AE (ren ν v),GB [] n id:=by
  rcases k with⟨rfl,c⟩|⟨id,x,rfl,m⟩
  .exact⟨.inl ⟨by simp[ren],c⟩,by simp[ren,AE]⟩
  .obtain⟨y,a⟩:=f.env id zEf;have m:=f.get id y _ a m;have e:ren ν (.f8 id 0 (L.map FY).length)=.f8 y 0 (L.map FY).length:=by simp[ren,a]
   rw[e];exact⟨.inr ⟨y,x,rfl,by simpa[Fe]using m⟩,fun id C=>by
    simp only[AE,Ac]at C;subst C;exact o _ _ a⟩
 have:=P z F (ren ν v) h' n ⟨g1,u,key.1,o _ _ c,o _ _ q,key.2⟩;simpa[ren,c,q]using this
variable{n:Nat}
theorem Ue{A:Abs.Id}(h:GB π b A)(c:b≤n):Id.under (n::π) A=false:=by
 obtain⟨f,e,a,rfl⟩:=h;exact Ik _ _ _ _ AA
theorem fk{p:AX}{sz:List Int}{s:BX}{g:A8}{d:CG}{r:GH}(h:dj p sz s g d r):(J6 s d g r=[]∧EO s d g r=[])∨ ∃many:List Nat,J6 s d g r=many.map (fun(n:Nat)=>(n:Int))∧EO s d g r=CN many∧0<many.length∧many.length≤3∧ ∀n∈many,n≤12:=by
 unfold J6 EO PD;by_cases a:Al s.ac (g.place d r.at_)=true
 .exact .inl ⟨by rw[D5 a],by rw[D5 a]⟩
 rw[Co a,Co a];by_cases b:0∈Bl s d g r
 .exact .inl ⟨by rw[D5 b],SR b⟩
 .refine .inr ⟨_,by rw[Co b],rfl,by simpa[Bl]using h.j0,by simpa[Bl]using h.j1,fun n i=>?_⟩;obtain⟨c,f,rfl⟩:=F2.1 i;obtain⟨_,_,_,q,_,e,h2⟩:=h.join c f;rw[h2];exact e
theorem Xg(p:AX)(s:BX): ∀(l:List GI) (i:Nat),(Ck p s i l).length≤l.length
 |[],i=>by simp[Ck]
 |w::l,i=>by
  have:=Xg p s l (i+1);rw[Ck,CE,List.length_cons];split<;>simp<;>omega
theorem dk{p:AX}{sz:List Int}{s:BX}(C:BO p sz)(u:GD p sz s):BU (KL Tryz.prog cfg) 34 [pA p,sA s] []=.ok (.ret (.d (.bv ((CD p s).map FY))),[]):=by
 have a':=u.small;simp only[BX.small,AP,Ap]at a';obtain⟨c5,c6,c7,c8⟩:=a';have az:=AH.mk (Xg p s s.waits 0);obtain⟨W,P⟩: ∃W,W=Ck p s 0 s.waits:=⟨_,rfl⟩;have b3:AH (CD p s=W++C7 p s 0 s.ce):=⟨by rw[CD,P]⟩;rw[←P]at az;replace u:=AB u;replace C:=AB C;refine A7 Tryz.func34 ?_;refine aw ?_;refine Fh [(6,.int .i64 0)] rfl (by simp only[go_sem];rfl) (by simp only[go_sem];rfl) (L:=[]) (.inl ⟨rfl,rfl⟩) fun A B v g b c=>?_;refine Aj s.waits (S:=fun i (a:Abs.Id×Abs.Id×AV×AD×Nat)=>⟨[(2,.ptr a.1 0),(3,.ptr a.2.1 0),(5,a.2.2.1),(6,nI i)],a.2.2.2.1,a.2.2.2.2,[]⟩)
  (Inv:=fun i O a=>AH (∃L,qx p s a.1 a.2.1 a.2.2.1 a.2.2.2.1 a.2.2.2.2 L∧L++Ck p s i O=W)) (b0:=(A,B,v,g,b)) ⟨_,c,by rw[P];rfl⟩ ?_ ?_
 .clear c A B v g b;rintro i w ⟨A,B,v,g,b⟩ K ad ag c Z;obtain⟨L,c,h⟩:=c.out;dsimp only at*;obtain⟨x,av⟩:=Ob C.out (u.out.wait w (AS K));have c0:=tU C.out u.out av;have m:=c.pa;have j:=c.sb;have T:=br c.na;have b6:=Ud c.na;have U:=br c.nb;have b7:=Ud c.nb;have D:L.length≤100:=by
   have:=az.out;rw[←h,CE]at this;omega
  rw[Ck]at h;replace h:=AB h;replace av:=AB av;have F:AH (∀X Y V g' b' L',L'=L++(if qr p s w=true then [⟨i,0,0,[]⟩]else [])→qx p s X Y V g' b' L'→_):=⟨fun X Y V g' b' L' b1 bx=>Z.out (X,Y,V,g',b') ⟨L',bx,by rw[←h.out,b1,Dl]⟩⟩;rcases c.slv with⟨rfl,Q⟩|⟨id,I,rfl,z⟩
  .have b4:=D6.1 Q;subst b4;replace c:=AB c
   (repeat' (first|simp only[go_sem, *]|(refine sx ?_ ?_<;>intro ac)|refine sy AA fun x t ai=>?_|simp(disch:=first|assumption|omega) only[AU]))
   .refine Fh [(6,.int .i64 (i+1))] rfl (by simp only[go_sem,T,m,AM]) (by simp only[go_sem,U,j,AM]) (L:=[⟨i,0,0,[]⟩]) (Aq [] rfl zFF) fun A B v g b o=>F.out A B v g b _ zEl o
   .exact Fh [(6,.int .i64 (i+1))] rfl m j (L:=[]) (.inl ⟨rfl,rfl⟩) fun A B v g b o=>F.out A B v g b _ zEl o
  .have bk:=br (c.nv id BJ);have c3:=Ud (c.nv id BJ);have cl:Id.is A id=false:=Fk m z;have be:Id.is id A=false:=Fk z m;have cn:Id.is B id=false:=Fk j z;have bi:Id.is id B=false:=Fk z j;rw[As];replace c:=AB c;rcases I with _|⟨y,I⟩
   ·(repeat' (first|simp only[go_sem, *,AM]|(refine sx ?_ ?_<;>intro ac)|refine sy AA fun x t ai=>?_|simp(disch:=first|assumption|omega) only[AU]))
    .refine Fh [(6,.int .i64 (i+1))] rfl (by simp only[go_sem,T,be,m,AM]) (by simp only[go_sem,U,bi,j,AM]) (L:=L++[⟨i,0,0,[]⟩]) (Aq [] AG (by simp only[go_sem,bk,BE,AM];done)) fun A B v g b o=>F.out A B v g b _ zEl o
    .exact Fh [(6,.int .i64 (i+1))] rfl m j (L:=L) (Aq [] AG z) fun A B v g b o=>F.out A B v g b _ zEl o
   ·(repeat' (first|simp only[go_sem, *,AM]|(refine sx ?_ ?_<;>intro ac)|refine sy AA fun x t ai=>?_|simp(disch:=first|assumption|omega) only[AU]))
    .refine Fh [(6,.int .i64 (i+1))] rfl (by simp only[go_sem,T,be,m,AM]) (by simp only[go_sem,U,bi,j,AM]) (L:=L++[⟨i,0,0,[]⟩]) (Aq I AG (by simp only[go_sem,bk,BE,AM];done)) fun A B v g b o=>F.out A B v g b _ zEl o
    .exact Fh [(6,.int .i64 (i+1))] rfl m j (L:=L) (Aq (y::I) AG z) fun A B v g b o=>F.out A B v g b _ zEl o
 .rintro i ⟨A,B,v,g,b⟩ ad ag c;obtain⟨L,f,h⟩:=c.out;clear c;dsimp only at*;rw[Ck,CI]at h;subst h;clear P;have m:=f.pa;have j:=f.sb;have n:=f.slv;clear f;replace n:=AB n;refine aw ?_;refine Fh [(7,.int .i64 0)] rfl m j (L:=L) n.out fun A B v g b c=>?_;clear m j n;refine Aj s.ce (S:=fun i (a:Abs.Id×Abs.Id×AV×AD×Nat)=>⟨[(2,.ptr a.1 0),(3,.ptr a.2.1 0),(5,a.2.2.1),(7,nI i)],a.2.2.2.1,a.2.2.2.2,[]⟩)
   (Inv:=fun i O a=>AH (∃L,qx p s a.1 a.2.1 a.2.2.1 a.2.2.2.1 a.2.2.2.2 L∧L++C7 p s i O=CD p s∧L.length≤40+i*60000)) (b0:=(A,B,v,g,b)) ⟨_,c,b3.out.symm,by have:=az.out;omega⟩ ?_ ?_
  .clear c A B v g b;rintro i a3 ⟨A,B,v,g,b⟩ K ad ag c Z;obtain⟨L,f,h,D⟩:=c.out;clear c;dsimp only at*;obtain⟨d,H⟩:=u.out.grp i a3 K;obtain⟨g0,a4⟩:=FX H.f9;have cs:=AL a4;have cx:=(CA C.out a4).ok.rules;have m:=f.pa;have j:=f.sb;have n:=f.slv;clear f;replace n:=AB n;rw[C7,H.f9]at h;dsimp only at h;replace h:=AB h;replace H:=AB H;refine aw ?_;refine Fh [(7,.int .i64 i),(8,.int .i64 0)] rfl m j (L:=L) n.out fun A B v g b c=>?_;clear m j n;refine Aj d.rules (S:=fun k (a:Abs.Id×Abs.Id×AV×AD×Nat)=>⟨[(2,.ptr a.1 0),(3,.ptr a.2.1 0),(5,a.2.2.1),(7,nI i),(8,nI k)],a.2.2.2.1,a.2.2.2.2,[]⟩)
    (Inv:=fun k O a=>AH (∃L,qx p s a.1 a.2.1 a.2.2.1 a.2.2.2.1 a.2.2.2.2 L∧L++(Cb s d a3 i k O++C7 p s (i+1) (s.ce.drop (i+1)))=CD p s∧L.length≤40+i*60000+k*2000)) (b0:=(A,B,v,g,b)) ⟨_,c,h.out,AA⟩ ?_ ?_
   .clear c h D A B v g b;rintro k r ⟨A,B,v,g,b⟩ a7 a5 b2 c a2;obtain⟨L,f,h,D⟩:=c.out;clear c;dsimp only at*;have a6:=pc C.out u.out K H.out a7;have m:=f.pa;have j:=f.sb;have T:=br f.na;have b6:=Ud f.na;have U:=br f.nb;have b7:=Ud f.nb;have J:=Kz C.out u.out K H.out (AS a7);rw[Cb]at h;have n:=AB f.slv;have bc:AH (∀id∈AE v,Id.under [b+27] id=false):=⟨fun id q=>Ue (f.nv id q) AA⟩;have bs:Id.under [b+27] A=false:=Ue f.na AA;have bv:Id.under [b+27] B=false:=Ue f.nb AA;replace h:=AB h;replace f:=AB f;have c1:(i:Int)<1000000:=AA;rcases fk J with⟨M,N⟩|⟨many,M,N,b5,a0,R⟩
    .rw[M]at a6;rw[N]at h;replace J:=AB J;clear M N;refine aw ?_;refine Fh [(7,.int .i64 i),(8,.int .i64 (k+1))] rfl m j (L:=L) n.out fun A B v g b o=>a2.out (A,B,v,g,b) ⟨L,o,h.out,AA⟩
    .rw[M]at a6;have c2:(0:Int)<many.length:=AA;rw[N]at h;replace J:=AB J;replace R:=AB R;clear M N;refine aw ?_;refine Ad (cM i k many b5 a0 R.out many.length g [b+27] v .d7 L [] ?_ n.out (.inl ⟨rfl,rfl⟩) (fun _=>rfl) (fun id q=>?_) AG) (fun c4 g1 b8=>?_)
     .have:12 ^ many.length≤12 ^ 3:=Nat.pow_le_pow_right AA a0;omega
     .rcases q with q|q
      .exact bc.out id q
      .simp[AE]at q
     obtain⟨V,rfl,bl,bo,a1⟩:=b8;have cc:(gc [b+27] g1).get A=_:=(Ah _ _ _ bs).trans ((a1 A (fun e=>by obtain⟨x,t⟩:=H7 n.out e;rw[m]at t;cases t) bs).trans m);have ch:(gc [b+27] g1).get B=_:=(Ah _ _ _ bv).trans ((a1 B (fun e=>by obtain⟨x,t⟩:=H7 n.out e;rw[j]at t;cases t) bv).trans j);have ar:=H8 bl (g':=gc [b+27] g1) fun id q=>by
      rcases bo id q with e|⟨_,l,rfl⟩
      .exact Ah _ _ _ (bc.out id e)
      .exact HC _ _ _
     replace ar:=AB ar;clear bl bo a1;refine aw ?_;refine Fh [(7,.int .i64 i),(8,.int .i64 (k+1))] rfl cc ch ar.out fun A B v g b o=>a2.out (A,B,v,g,b) ⟨_,o,?_,?_⟩
     .rw[←h.out];simp
     .have cp:=Re R.out;have:12 ^ many.length≤12 ^ 3:=Nat.pow_le_pow_right AA a0;simp only[CE,As,List.length_nil,List.drop_zero];omega
   .rintro k ⟨A,B,v,g,b⟩ a5 b2 c;obtain⟨L,f,h,D⟩:=c.out;clear c;dsimp only at*;have m:=f.pa;have j:=f.sb;have n:=f.slv;clear f;replace n:=AB n;refine aw ?_;refine Fh [(7,.int .i64 (i+1))] rfl m j (L:=L) n.out fun A B v g b o=>Z.out (A,B,v,g,b) ⟨L,o,by simpa[Cb]using h,by have:=a5.out;omega⟩
  .rintro i ⟨A,B,v,g,b⟩ ad ag c;obtain⟨L,f,h,D⟩:=c.out;clear c;dsimp only at*;rw[C7,CI]at h;subst h;have j:=f.sb;rcases f.slv with⟨rfl,Q⟩|⟨id,I,rfl,z⟩
   .rw[Q];clear Q f D;exact au
   .rw[As];have c9:List.take (CD p s).length ((CD p s).map FY++I)=(CD p s).map FY:=Qs _ _ _;clear f D
    (repeat' (first|simp only[go_sem, *,Es]|(refine sx ?_ ?_<;>intro ac)|refine sy AA fun x t ai=>?_|simp(disch:=first|assumption|omega) only[AU]))
theorem cd(ν:Abs.Id→Option Abs.Id): ∀cs:List Ao,Fc ν (cs.map .d)=cs.map .d
 |[]=>rfl
 |c::cs=>by rw[CO,Fc,cd ν cs];simp[ren]
theorem bF: ∀cs:List Ao,BB (cs.map .d)=[]
 |[]=>rfl
 |c::cs=>by rw[CO,BB,bF cs];rfl
theorem lL(b:Nat)(e:CB)(h:AD)(bs:Nat)(π:List Nat)(ci:Option (List Nat))(a:Bool)(nt:Nat):Fg cfg ⟨104,π,false,ci,a,nt⟩ b ⟨e,h,bs,[]⟩=K8 cfg 104 π b e h:=by
 rw[FJ];exact N0 _ _ _ _ _
attribute [go_sem 2000] lL
def Mr(g:AD)(sz:Nat)(v:AV)(es:List (List Ao)):Prop:=(es=[]∧v=.d7)∨(es≠ []∧ ∃id,v=.f8 id 0 es.length∧g.get id=some (.em sz es))
variable{g:AD}{es:List (List Ao)}
theorem Lv{sz:Nat}{v:AV}(h:Mr g sz v es):Kg g sz v es:=by
 rcases h with⟨rfl,rfl⟩|⟨_,id,rfl,a⟩
 .exact .inl ⟨rfl,rfl⟩
 .exact .inr ⟨id,[],rfl,by rw[a,CI]⟩
theorem Ey{g:AD}{sz:Nat}{v:AV}{es:List (List Ao)}(h:Mr g sz v es){id:Abs.Id}(a:id∈AE v):v=.f8 id 0 es.length∧g.get id=some (.em sz es):=by
 rcases h with⟨rfl,rfl⟩|⟨_,c,rfl,b⟩
 .cases a
 .simp only[AE,Ac]at a;subst a;exact⟨rfl,b⟩
theorem Qz{sz:Nat}{v:AV}(h:Mr g sz v es):(AE v).length≤1:=by
 rcases h with⟨rfl,rfl⟩|⟨_,b,rfl,a⟩<;>simp[AE]
variable{H:AD}
theorem FQ{sz:Nat}{v:AV}(h:Mr g sz v es)(c: ∀id∈AE v,H.get id=g.get id):Mr H sz v es:=by
 rcases h with h|⟨a,id,rfl,b⟩
 .exact .inl h
 .exact .inr ⟨a,id,rfl,by rw[c id BJ];exact b⟩
theorem Q0{H':AD}{e:CB}{ν:Abs.Id→Option Abs.Id}{sz:Nat}{v:AV}(f:M5 π H e ν H' n)(h:Mr H sz v es)(i: ∀id∈AE v,∃z,ν id=some z):Mr H' sz (ren ν v) es∧ ∀z∈AE (ren ν v),∃id∈AE v,ν id=some z:=by
 rcases h with⟨rfl,rfl⟩|⟨c,id,rfl,g⟩
 .exact⟨.inl ⟨rfl,by simp[ren]⟩,by simp[ren,AE]⟩
 .obtain⟨z,a⟩:=i id BJ;refine⟨.inr ⟨c,z,by simp[ren,a],?_⟩,fun y b=>⟨id,BJ,?_⟩⟩
  .have:=f.get id z _ a g;simpa[Fe]using this
  .simp[ren,a,AE]at b;rw[b];exact a
def IV(B R O:Abs.Id)(v1 v2 v3 v4:AV)(rows:List (List AV)):List Abs.Id:=B::R::O::(AE v1++AE v2++AE v3++AE v4++rows.flatMap BB)
variable{rows:List (List AV)}
theorem BP{B R O:Abs.Id}{v1 v2 v3 v4:AV}{x:Abs.Id}:x∈IV B R O v1 v2 v3 v4 rows↔x=B∨x=R∨x=O∨x∈AE v1∨x∈AE v2∨x∈AE v3∨x∈AE v4∨x∈rows.flatMap BB:=by
 simp only[IV,D0,EL,or_assoc]
def qX(g:AD)(v:AV)(rows:List (List AV)):Prop:=(rows=[]∧v=.d7)∨(rows≠ []∧ ∃A,v=.f8 A 0 rows.length∧g.get A=some (.arr 4 rows))
theorem ZW{v:AV}(h:qX g v rows):qa g v rows:=by
 rcases h with⟨a,h2⟩|⟨_,A,a,h2⟩
 .exact .inl ⟨h2,a⟩
 .exact .inr ⟨A,a,h2⟩
structure Vi(cs:List Ao)(s:BX)(ng nc nw:Nat)(B R O:Abs.Id)(v1 v2 v3 v4:AV)(rows:List (List AV))(g:AD):Prop where
 bx:g.get B=some (.box (cs.map .d))
 res:g.get R=some (.box [.d7,.d7,.d7,.d7])
 out:g.get O=some (.box [v1,v2,v3,v4])
 s0:Mr g 2 v1 (s.ac.map Au)
 s1:Mr g 3 v2 ((s.ce.take ng).map BF)
 arr:qX g v3 rows
 rep:Fz g rows (s.be.take nc)
 s2:Mr g 3 v4 ((s.waits.take nw).map Ae)
 gw: ∀id∈AE v2,id∉AE v4
 ro:R≠O
 bo:B≠O
structure dZ(π:List Nat)(cs:List Ao)(s:BX)(ng nc nw:Nat)(B R O:Abs.Id)(v1 v2 v3 v4:AV)(rows:List (List AV))(g:AD)(b:Nat):Prop where
 cp:Vi cs s ng nc nw B R O v1 v2 v3 v4 rows g
 nm: ∀id∈IV B R O v1 v2 v3 v4 rows,GB π b id
 own: ∀id,Id.under π id=false→g.get id=none
structure M3 where
 B:Abs.Id
 R:Abs.Id
 O:Abs.Id
 v1:AV
 v2:AV
 v3:AV
 v4:AV
 rows:List (List AV)
 g:AD
 b:Nat
section
variable{cs:List Ao}{s:BX}{ng nc nw:Nat}{B R O:Abs.Id}{v1 v2 v3 v4:AV}{rows:List (List AV)}{g H H':AD}{π:List Nat}{e:CB}{ν:Abs.Id→Option Abs.Id}{n:Nat}
theorem Vi.arrg(h:Vi cs s ng nc nw B R O v1 v2 v3 v4 rows g){id:Abs.Id}(a:id∈AE v3):v3=.f8 id 0 rows.length∧g.get id=some (.arr 4 rows):=by
 rcases h.arr with⟨_,rfl⟩|⟨_,A,rfl,b⟩
 .cases a
 .simp only[AE,Ac]at a;subst a;exact⟨rfl,b⟩
theorem Vi.chv(h:Vi cs s ng nc nw B R O v1 v2 v3 v4 rows g):qa g v3 rows:=ZW h.arr
theorem Vi.closed(h:Vi cs s ng nc nw B R O v1 v2 v3 v4 rows g): ∀x∈IV B R O v1 v2 v3 v4 rows,∀y∈FA (g.get x),y∈IV B R O v1 v2 v3 v4 rows:=fun x b y a=>by
 rcases BP.1 b with rfl|rfl|rfl|b|b|b|b|b
 .rw[h.bx]at a;simp[FA,bF]at a
 .rw[h.res]at a;simp[FA,BB,AE]at a
 .rw[h.out]at a;simp only[FA,BB,CI,EL]at a;refine BP.2 ?_;rcases a with h|h|h|h<;>simp[h]
 .rw[(Ey h.s0 b).2]at a;cases a
 .rw[(Ey h.s1 b).2]at a;cases a
 .rw[(h.arrg b).2]at a;exact BP.2 (by simp only[FA]at a;simp[a])
 .rw[(Ey h.s2 b).2]at a;cases a
 .obtain⟨q,c⟩:=Eh h.rep b;rw[c]at a;cases a
theorem Vi.small(h:Vi cs s ng nc nw B R O v1 v2 v3 v4 rows g)(j:s.be.length≤60):(IV B R O v1 v2 v3 v4 rows).length≤67:=by
 have b:=Qz h.s0;have h2:=Qz h.s1;have e:=Qz h.s2;have f:=R9 h.rep;have a:=h.rep.len;have c:(AE v3).length≤1:=by
  rcases h.arr with⟨_,rfl⟩|⟨_,A,rfl,i⟩<;>simp[AE]
 simp only[IV,List.length_cons,CE];rw[F1]at a;omega
theorem Vi.ren(h:Vi cs s ng nc nw B R O v1 v2 v3 v4 rows H)(b:M5 π H e ν H' n)(av:B∈IB e)(a0:R∈IB e)(az:O∈IB e): ∃p R' m,ν B=some p∧ν R=some R'∧ν O=some m∧dZ π cs s ng nc nw p R' m (ren ν v1) (ren ν v2) (ren ν v3) (ren ν v4) (rows.map (Fc ν)) H' n∧ ∀z∈IV p R' m (ren ν v1) (ren ν v2) (ren ν v3) (ren ν v4) (rows.map (Fc ν)),∃x∈IV B R O v1 v2 v3 v4 rows,ν x=some z:=by
 obtain⟨p,C⟩:=b.env B av;obtain⟨R',D⟩:=b.env R a0;obtain⟨m,t⟩:=b.env O az;have u: ∀id∈BB [v1,v2,v3,v4],∃z,ν id=some z:=fun id f=>b.deep O m t id (by rw[h.out];exact f);simp only[BB,CI,EL]at u;obtain⟨ac,b1⟩:=Q0 b h.s0 fun id f=>u id (.inl f);obtain⟨ad,T⟩:=Q0 b h.s1 fun id f=>u id (.inr (.inl f));obtain⟨ag,U⟩:=Q0 b h.s2 fun id f=>u id (.inr (.inr (.inr f)));have W: ∀id∈rows.flatMap BB,∃z,ν id=some z:=by
  rcases h.arr with⟨rfl,_⟩|⟨_,A,rfl,F⟩
  .intro id f;cases f
  .obtain⟨z,a⟩:=u A BJ;exact fun id f=>b.deep A z a id (by rw[F];exact f)
 obtain⟨S,bc⟩:=SA b h.rep W;have Q:qX H' (Go.Abs.ren ν v3) (rows.map (Fc ν))∧ ∀z∈AE (Go.Abs.ren ν v3),∃id∈AE v3,ν id=some z:=by
  rcases h.arr with⟨rfl,rfl⟩|⟨ar,A,rfl,F⟩
  .exact⟨.inl ⟨rfl,by simp[Go.Abs.ren]⟩,by simp[Go.Abs.ren,AE]⟩
  .obtain⟨z,a⟩:=u A BJ;refine⟨.inr ⟨by simpa using ar,z,by simp[Go.Abs.ren,a],?_⟩,fun y M=>⟨A,BJ,?_⟩⟩
   .have:=b.get A z _ a F;simpa[Fe]using this
   .simp[Go.Abs.ren,a,AE]at M;rw[M];exact a
 have ai: ∀z∈(rows.map (Fc ν)).flatMap BB,∃x∈rows.flatMap BB,ν x=some z:=fun z a=>by
  obtain⟨q,N⟩:=Eh S a;obtain⟨x,L⟩:=b.only z _ N;refine⟨x,?_,L⟩;obtain⟨r',a3,a4⟩:=CS.1 a;obtain⟨r,P,rfl⟩:=F2.1 a3;refine CS.2 ⟨r,P,?_⟩;have key: ∀l:List AV,(∀id∈BB l,∃z,ν id=some z)→(∀v∈l,(∃d,v=.d d)∨v=.d7∨ ∃id k,v=.f8 id 0 k)→z∈BB (Fc ν l)→x∈BB l:=by
   intro l;induction l with
   |nil=>intro _ _ a;simp[Fc,BB]at a
   |cons v l a5=>
    intro V J a;simp only[Fc,BB,EL]at a⊢;rcases a with a|a
    .refine .inl ?_;rcases J v AG with⟨d,rfl⟩|rfl|⟨id,k,rfl⟩
     .simp[Go.Abs.ren,AE]at a
     .simp[Go.Abs.ren,AE]at a
     .obtain⟨be,Y⟩:=V id (by simp[BB,AE]);simp[Go.Abs.ren,Y,AE]at a;subst a;rw[b.inj x id z L Y];simp[AE]
    .exact .inr (a5 (fun id f=>V id (by simp[BB,f])) (fun w K=>J w (F0 _ K)) a)
  refine key r (fun id f=>W id (CS.2 ⟨r,P,f⟩)) (fun v J=>?_) a4;obtain⟨j,I⟩:=II P;have a2:=(BV.1 I).1;obtain⟨c,a1⟩:=get_some (l:=s.be.take nc) (i:=j) (by rw[←h.rep.len];exact a2);obtain⟨w,K,N⟩:=h.rep.row j c a1;rw[I]at K;cases K;simp only[Az,D0,Gc,MP]at J;rcases J with rfl|rfl|rfl|rfl
  .exact .inl ⟨_,rfl⟩
  .exact .inl ⟨_,rfl⟩
  .exact .inl ⟨_,rfl⟩
  .rcases N with⟨_,rfl⟩|⟨_,id,rfl,_⟩
   .exact .inr (.inl rfl)
   .exact .inr (.inr ⟨_,_,rfl⟩)
 have all: ∀z∈IV p R' m (Go.Abs.ren ν v1) (Go.Abs.ren ν v2) (Go.Abs.ren ν v3) (Go.Abs.ren ν v4) (rows.map (Fc ν)),∃x∈IV B R O v1 v2 v3 v4 rows,ν x=some z:=fun z a=>by
  rcases BP.1 a with rfl|rfl|rfl|a|a|a|a|a
  .exact⟨B,by simp[IV],C⟩
  .exact⟨R,by simp[IV],D⟩
  .exact⟨O,by simp[IV],t⟩
  .obtain⟨x,g,h2⟩:=b1 z a;exact zC2
  .obtain⟨x,g,h2⟩:=T z a;exact zC2
  .obtain⟨x,g,h2⟩:=Q.2 z a;exact zC2
  .obtain⟨x,g,h2⟩:=U z a;exact zC2
  .obtain⟨x,g,h2⟩:=ai z a;exact⟨x,BP.2 (.inr (.inr (.inr (.inr (.inr (.inr (.inr g))))))),h2⟩
 refine⟨p,R',m,C,D,t,⟨⟨?_,?_,?_,ac,ad,Q.1,S,ag,fun id g h2=>?_,fun e=>?_,fun e=>?_⟩,fun id f=>?_,fun id X=>?_⟩,all⟩
 .have:=b.get B p _ C h.bx;simpa[Fe,cd]using this
 .have:=b.get R R' _ D h.res;simpa[Fe,Fc,Go.Abs.ren]using this
 .have:=b.get O m _ t h.out;simpa[Fe,Fc]using this
 .obtain⟨x,Z,a6⟩:=T id g;obtain⟨y,a7,a'⟩:=U id h2;rw[b.inj x y id a6 a']at Z;exact h.gw y Z a7
 .rw[e]at D;exact h.ro (b.inj R O m D t)
 .rw[e]at C;exact h.bo (b.inj B O m C t)
 .obtain⟨x,_,L⟩:=all id f;obtain⟨j,I,rfl⟩:=b.name x id L;exact⟨_,j,I,rfl⟩
 .cases F:H'.get id with
  |none=>rfl
  |some o=>
   obtain⟨y,M⟩:=b.only id o F;obtain⟨j,I,rfl⟩:=b.name y id M;rw[Ij]at X;cases X
end
structure q5 where
 a:M3
 Y:Abs.Id
 vq:AV
section
variable{cs:List Ao}{s:BX}{i nc nw ng b:Nat}{B R O A Q:Abs.Id}{v1 v2 v3 v4:AV}{rows:List (List AV)}{g H:AD}{π:List Nat}
theorem dZ.group(h:dZ π cs s i nc nw B R O v1 v2 v3 v4 rows g b)(u:H.get O=some (.box [v1,.f8 A 0 (i+1),v3,v4]))(x:i<s.ce.length)(t:H.get A=some (.em 3 ((s.ce.take (i+1)).map BF)))(v: ¬GB π b A)(p: ∀id,GB π b id→id≠O→id∉AE v2→H.get id=g.get id):Vi cs s (i+1) nc nw B R O v1 (.f8 A 0 (i+1)) v3 v4 rows H:=by
 have c:=h.cp;have n:((s.ce.take (i+1)).map BF).length=i+1:=zFb
 have k: ∀id∈IV B R O v1 v2 v3 v4 rows,∀o,g.get id=some o→id≠O→(∀es,o≠ .em 3 es)→H.get id=g.get id:=fun id a o j f h2=>p id (h.nm id a) f fun e=>by
  rw[(Ey c.s1 e).2]at j;exact h2 _ (Is j).symm
 have l: ∀id o,g.get id=some o→(∀cs,o≠ .box cs)→id≠O:=fun id o j f e=>by
  rw[e,c.out]at j;exact f _ (Is j).symm
 have w: ∀id∈IV B R O v1 v2 v3 v4 rows,id≠A:=fun id a e=>v (e▸h.nm id a);refine⟨?_,?_,u,FQ c.s0 fun id a=>?_,.inr ⟨fun e=>by rw[e]at n;simp at n,A,by rw[n],t⟩,?_,Ei c.rep fun id a=>?_,FQ c.s2 fun id a=>?_,fun id f h2=>?_,c.ro,c.bo⟩
 .rw[k B zEX _ c.bx c.bo AG];exact c.bx
 .rw[k R zEX _ c.res c.ro AG];exact c.res
 .exact zC6
 .exact zB2
 .exact zCD
 .have:=(Ey c.s2 a).2;exact p id (h.nm id (BP.2 zEd)) (l id _ this AG) fun e=>c.gw id e a
 .simp only[AE,Ac]at f;exact w id (BP.2 (by simp[h2])) f
theorem dZ.wait(h:dZ π cs s ng nc i B R O v1 v2 v3 v4 rows g b)(u:H.get O=some (.box [v1,v2,v3,.f8 A 0 (i+1)]))(x:i<s.waits.length)(t:H.get A=some (.em 3 ((s.waits.take (i+1)).map Ae)))(v: ¬GB π b A)(p: ∀id,GB π b id→id≠O→id∉AE v4→H.get id=g.get id):Vi cs s ng nc (i+1) B R O v1 v2 v3 (.f8 A 0 (i+1)) rows H:=by
 have c:=h.cp;have n:((s.waits.take (i+1)).map Ae).length=i+1:=zFb
 have k: ∀id∈IV B R O v1 v2 v3 v4 rows,∀o,g.get id=some o→id≠O→(∀es,o≠ .em 3 es)→H.get id=g.get id:=fun id a o j f h2=>p id (h.nm id a) f fun e=>by
  rw[(Ey c.s2 e).2]at j;exact h2 _ (Is j).symm
 have l: ∀id o,g.get id=some o→(∀cs,o≠ .box cs)→id≠O:=fun id o j f e=>by
  rw[e,c.out]at j;exact f _ (Is j).symm
 have w: ∀id∈IV B R O v1 v2 v3 v4 rows,id≠A:=fun id a e=>v (e▸h.nm id a);refine⟨?_,?_,u,FQ c.s0 fun id a=>?_,FQ c.s1 fun id a=>?_,?_,Ei c.rep fun id a=>?_,.inr ⟨fun e=>by rw[e]at n;simp at n,A,by rw[n],t⟩,fun id f h2=>?_,c.ro,c.bo⟩
 .rw[k B zEX _ c.bx c.bo AG];exact c.bx
 .rw[k R zEX _ c.res c.ro AG];exact c.res
 .exact zC6
 .have:=(Ey c.s1 a).2;exact p id (h.nm id (BP.2 zEd)) (l id _ this AG) fun e=>c.gw id a e
 .exact zB2
 .exact zCD
 .simp only[AE,Ac]at h2;exact w id (BP.2 zFU) h2
theorem Vi.pp(c:Vi cs s ng nc nw B R O v1 v2 v3 v4 rows g)(a: ∀id∈IV B R O v1 v2 v3 v4 rows,H.get id=g.get id):Vi cs s ng nc nw B R O v1 v2 v3 v4 rows H:=by
 refine⟨(a B zEX).trans c.bx,(a R zEX).trans c.res,(a O zEX).trans c.out,FQ c.s0 fun id b=>a id (BP.2 zE7),FQ c.s1 fun id b=>a id (BP.2 zE7),?_,Ei c.rep fun id b=>a id (BP.2 (.inr (.inr (.inr (.inr (.inr (.inr (.inr b)))))))),FQ c.s2 fun id b=>a id (BP.2 zE7),c.gw,c.ro,c.bo⟩;rcases c.arr with e|⟨e,Z,rfl,f⟩
 .exact .inl e
 .exact .inr ⟨e,Z,rfl,by rw[a Z (BP.2 BJ)];exact f⟩
theorem dZ.chan{c:Gp}{vq:AV}(h:dZ π cs s ng i nw B R O v1 v2 v3 v4 rows g b)(n:s.be[i]? =some c)(r:H.get O=some (.box [v1,v2,.f8 A 0 (i+1),v4]))(p:H.get A=some (.arr 4 (rows++[Az c vq])))(k:xO H vq c.queue)(t: ∀id∈AE vq,id∉rows.flatMap BB)(u: ∀id,GB π b id→id≠O→id∉AE v3→H.get id=g.get id):Vi cs s ng (i+1) nw B R O v1 v2 (.f8 A 0 (i+1)) v4 (rows++[Az c vq]) H:=by
 have w:=h.cp;have x:=(BV.1 n).1;have v:rows.length=i:=by rw[w.rep.len,F1];omega
 have f: ∀id∈IV B R O v1 v2 v3 v4 rows,∀o,g.get id=some o→id≠O→(∀es,o≠ .arr 4 es)→H.get id=g.get id:=fun id a o j m h2=>u id (h.nm id a) m fun e=>by
  rw[(w.arrg e).2]at j;exact h2 _ (Is j).symm
 have l: ∀id o,g.get id=some o→(∀cs,o≠ .box cs)→id≠O:=fun id o j m e=>by
  rw[e,w.out]at j;exact m _ (Is j).symm
 refine⟨?_,?_,r,FQ w.s0 fun id a=>?_,FQ w.s1 fun id a=>?_,.inr ⟨AG,A,by simp[v],p⟩,?_,FQ w.s2 fun id a=>?_,w.gw,w.ro,w.bo⟩
 .rw[f B zEX _ w.bx w.bo AG];exact w.bx
 .rw[f R zEX _ w.res w.ro AG];exact w.res
 .have:=(Ey w.s0 a).2;exact zCV
 .have:=(Ey w.s1 a).2;exact zCV
 .rw[show s.be.take (i+1)=s.be.take i++[c] by rw[F6,n];rfl];refine JG (Ei w.rep fun id a=>?_) k t;obtain⟨q,k⟩:=Eh w.rep a;exact f id (BP.2 (.inr (.inr (.inr (.inr (.inr (.inr (.inr a)))))))) _ k (l id _ k AG) AG
 .have:=(Ey w.s2 a).2;exact zCV
structure hB(π:List Nat)(s:BX)(v1 v2 v3 v4:AV)(rows:List (List AV))(g:AD):Prop where
 s0:Mr g 2 v1 (s.ac.map Au)
 s1:Mr g 3 v2 (s.ce.map BF)
 arr:qX g v3 rows
 rep:Fz g rows s.be
 s2:Mr g 3 v4 (s.waits.map Ae)
 cp:S9 π s v1 v2 v3 v4 rows g
theorem dZ.post(h:dZ π cs s s.ce.length s.be.length s.waits.length B R O v1 v2 v3 v4 rows g b)(bs:List AV):hB π s v1 v2 v3 v4 rows (g.put R (.box bs)):=by
 have w:=h.cp;have k: ∀x o,g.get x=some o→(∀cs,o≠ .box cs)→(g.put R (.box bs)).get x=g.get x:=fun x o p u=>by
  rw[get_put,AF fun e=>by rw[←e,w.res]at p;exact u _ (Is p).symm];rfl
 have f: ∀{sz:Nat} {v:AV} {es:List (List Ao)},Mr g sz v es→Mr (g.put R (.box bs)) sz v es:=fun h=>FQ h fun id a=>k id _ (Ey h a).2 AG;have l: ∀id,id∈IV B R O v1 v2 v3 v4 rows→Id.under π id=true:=fun id a=>by
  obtain⟨t,j,_,rfl⟩:=h.nm id a;exact Ij _ _ _
 have c:=w.s1;have h2:=w.s2;have i:=w.rep;rw[D3]at c h2 i;have n:Fz (g.put R (.box bs)) rows s.be:=Ei i fun id a=>by
  obtain⟨q,y⟩:=Eh i a;exact k id _ y AG
 have m:qX (g.put R (.box bs)) v3 rows:=by
  rcases w.arr with c|⟨r,A,c,h2⟩
  .exact .inl c
  .exact .inr ⟨r,A,c,by rw[k A _ h2 AG];exact h2⟩
 refine⟨f w.s0,f c,m,n,f h2,Lv (f w.s0),Lv (f c),Lv (f h2),ZW m,rz n,i.diff,w.gw,fun id a=>l id (BP.2 ?_),fun id a=>?_⟩
 .rcases a with h|h|h|h|h<;>simp only[h,true_or,or_true]
 .rw[get_put,AF fun e=>by rw[←e,l R zEX]at a;cases a];exact h.own id a
end
variable{K:Ab}{fr:Fr}{bl bk:Nat}{x:Code}{Q:Ea→St→Prop}{π:List Nat}{cs:List Ao}{R O:Abs.Id}{v1 v2 v3 v4:AV}{rows:List (List AV)}{H:AD}
theorem u7{f:Nat}{s:BX}{ng nc nw:Nat}{B:Abs.Id}{E:CB}(e:CB)
 (j:Lj E (cfg.live f bk)=e) (h:Vi cs s ng nc nw B R O v1 v2 v3 v4 rows H) (o:s.be.length≤60) (a: ∀y,y∈IB e↔y=B∨y=R∨y=O)
 (m: ∀ν c R' i v1 v2 v3 v4 rows g b,ν B=some c→ν R=some R'→ν O=some i→dZ π cs s ng nc nw c R' i v1 v2 v3 v4 rows g b→Xu cfg K fr bl x ⟨e.map fun p=>(p.1,ren ν p.2),g,b,[]⟩ Q):Xu cfg K fr bl x (K8 cfg f π bk E H) Q:=by
 rw[FJ,j];have z:=h.small o;obtain⟨ν,h',n,l,w,k⟩:=Km π H e (IV B R O v1 v2 v3 v4 rows) AA (fun y q=>by
  refine BP.2 ?_;rcases(a y).1 q with h|h|h<;>simp[h]) h.closed
 rw[l];obtain⟨c,R',i,r,t,u,v,_⟩:=h.ren k ((a B).2 (.inl rfl)) ((a R).2 (.inr (.inl rfl))) ((a O).2 (.inr (.inr rfl)));exact m ν _ _ _ _ _ _ _ _ h' n r t u v
theorem FW{s:BX}{ng nc nw:Nat}{B:Abs.Id}{E:CB}{k:Nat}{i:Int}
 (a:Lj E (cfg.live 104 bk)=[(1,.ptr B 0),(2,.ptr R 0),(3,.ptr O 0),(k,nI i)]) (h:Vi cs s ng nc nw B R O v1 v2 v3 v4 rows H) (e:s.be.length≤60)
 (c: ∀B R O v1 v2 v3 v4 rows g b,dZ π cs s ng nc nw B R O v1 v2 v3 v4 rows g b→Xu cfg K fr bl x ⟨[(1,.ptr B 0),(2,.ptr R 0),(3,.ptr O 0),(k,nI i)],g,b,[]⟩ Q):Xu cfg K fr bl x (K8 cfg 104 π bk E H) Q:=
 u7 _ a h e zEf fun ν _ _ _ _ _ _ _ _ g b f j l m=>by
  have:=c _ _ _ _ _ _ _ _ g b m;simpa[ren,Fc,f,j,l]using this
structure hO(π:List Nat)(cs:List Ao)(s:BX)(ng nc nw:Nat)(c:Gp)(k:Nat)(B R O Y:Abs.Id)(v1 v2 v3 v4 vq:AV)(rows:List (List AV))(g:AD)(b:Nat):Prop where
 n:dZ π cs s ng nc nw B R O v1 v2 v3 v4 rows g b
 q:g.get Y=some (.box [nI c.group,nI c.index,nI c.at_,vq])
 qs:Mr g 1 vq ((c.queue.take k).map BD)
 qn:GB π b Y
 yn:Y∉IV B R O v1 v2 v3 v4 rows
 qv: ∀id∈AE vq,GB π b id∧id∉IV B R O v1 v2 v3 v4 rows
theorem M6{s:BX}{ng nc nw:Nat}{c:Gp}{m:Nat}{B Y:Abs.Id}{vq:AV}{E:CB}{i k:Int}
 (F:Lj E (cfg.live 104 4)=[(1,.ptr B 0),(2,.ptr R 0),(3,.ptr O 0),(5,nI i),(6,.ptr Y 0),(7,nI k)]) (h:Vi cs s ng nc nw B R O v1 v2 v3 v4 rows H) (u:H.get Y=some (.box [nI c.group,nI c.index,nI c.at_,vq])) (v:Mr H 1 vq ((c.queue.take m).map BD)) (a:Y∉IV B R O v1 v2 v3 v4 rows) (J: ∀id∈AE vq,id∉IV B R O v1 v2 v3 v4 rows) (N:s.be.length≤60)
 (M: ∀B R O Y v1 v2 v3 v4 vq rows g b,hO π cs s ng nc nw c m B R O Y v1 v2 v3 v4 vq rows g b→Xu cfg K fr bl x ⟨[(1,.ptr B 0),(2,.ptr R 0),(3,.ptr O 0),(5,nI i),(6,.ptr Y 0),(7,nI k)],g,b,[]⟩ Q):Xu cfg K fr bl x (K8 cfg 104 π 4 E H) Q:=by
 rw[FJ,F];have ac:=h.small N;have X:=Qz v;obtain⟨ν,h',n,I,Z,e⟩:=Km π H [(1,.ptr B 0),(2,.ptr R 0),(3,.ptr O 0),(5,nI i),(6,.ptr Y 0),(7,nI k)] (Y::(AE vq++IV B R O v1 v2 v3 v4 rows)) (by simp only[List.length_cons,CE];omega) (by
  intro y a;simp[IB,AE,BB]at a;simp only[D0,EL];rcases a with h|h|h|h
  .exact zDf
  .exact zDf
  .exact zDf
  .exact .inl h) (by
  intro y a z f;simp only[D0,EL]at a⊢;rcases a with rfl|a|a
  .rw[u]at f;simp[FA,BB,AE]at f;exact .inr (.inl f)
  .rw[(Ey v a).2]at f;cases f
  .exact .inr (.inr (h.closed y a z f)))
 rw[I];obtain⟨V,R',W,P,S,T,U,A⟩:=h.ren e zEf zEf zEf;obtain⟨l,o⟩:=e.env Y zEf;obtain⟨C,b1⟩:=Q0 e v fun id r=>e.deep Y l o id (by rw[u];simp[FA,BB,AE,r]);have w: ∀x z,ν x=some z→GB π n z:=fun x z f=>by
  obtain⟨j,L,rfl⟩:=e.name x z f;exact⟨_,j,L,rfl⟩
 have:=M _ _ _ l _ _ _ _ (ren ν vq) _ h' n ⟨U,by
  have:=e.get Y l _ o u;simpa[Fe,Fc,ren]using this,C,w _ _ o,fun t=>by
  obtain⟨y,p,q⟩:=A l t;exact a (e.inj Y y l o q▸p),fun id r=>by
  obtain⟨x,D,h2⟩:=b1 id r;refine⟨w _ _ h2,fun t=>?_⟩;obtain⟨y,p,q⟩:=A id t;exact J x D (e.inj x y id h2 q▸p)⟩
 simpa[ren,Fc,P,S,T,o]using this
end Go.Proofs
