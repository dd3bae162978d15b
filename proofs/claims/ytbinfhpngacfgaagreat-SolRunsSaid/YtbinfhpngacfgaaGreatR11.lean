/- P -/
import Derived.Test.YtbinfhpngacfgaaGreatR10
set_option linter.all false
set_option maxRecDepth 99999
set_option maxHeartbeats 0
namespace Go
def zEX{p:Prop}(h:p:=by constructor<;>first|exact DT _ _ _ _ AZ|simp only[go_sem]):p:=h
def zEY{p:Prop}(h:p:=by simp[Hz]):p:=h
def zEd{p:Prop}(h:p:=by clear U K M N X Y Z ac J Q T I A F w s;grind [DG,Dp,Xc,FI]):p:=h
def zEh{p:Prop}(h:p:=by clear Y Z ac ad a5 a6 a7 a1 S az a0 V L J a2;grind [DG,Dp,Xc,FI]):p:=h
def zEm{p:Prop}(h:p:=by simp[BF];omega):p:=h
def zEo{p:Prop}(h:p:=by simp[*]):p:=h
def zFB{p:Prop}(h:p:=by rw[K.1]at f;cases f):p:=h
def zFF{p:Prop}(h:p:=by simpa using e):p:=h
def zFM{p:Prop}(h:p:=by rw[B.met];omega):p:=h
def zFU{p:Prop}(h:p:=by rw[e];exact V.m_mem m):p:=h
def zFa{p:Prop}(h:p:=by rw[wrap_id AA AA];omega):p:=h
def zFb{p:Prop}(h:p:=by rw[As,F2];omega):p:=h
def zFk{p:Prop}(h:p:=by rw[j.1];rfl):p:=h
end Go
namespace Go
def zAI{p:Prop}(h:p:=by
 have q:c.toNat<l.length:=AA;obtain⟨s,v⟩:=get_some q;have j:=AH.mk (LH v)
 (repeat' (first|simp only[go_sem, *]|(refine sx ?_ ?_<;>intro p)|refine sy AA fun x w r=>?_|simp(disch:=first|assumption|omega) only[AR]))
 .rw[f.1,D6 (by rw[<-show c=a by assumption];exact Zl _ _ _)]
 .by_cases h:c=0
  .subst h;have u:s.pp= -1:=by rw[<-j.1];exact o.top
   rw[u];refine IH.1 (-1,0) (by dsimp only;rw[D4 rfl,Ci AZ];omega) (.inr ⟨rfl,rfl,⟨?_⟩⟩);rw[f.1,Zm,DL];simp only[Ac];omega
  .rcases k with _|k
   .simp[Bf,h]at i
   .have g:=Gn h i;rw[j.1]at g;have:=g.1.1;refine IH.1 (s.pp,k) (by dsimp only;rw[Ci AA,Ci AA];omega) (.inl ⟨g.1,g.2,⟨?_⟩⟩);rw[f.1,jy h i,j.1];have t: ¬a=c:=fun e=>AA;simp only[D0,t,false_or]):p:=h
def zAN{p:Prop}(h:p:=by simp only[D0,Gc,Lt,HE,forall_eq];omega):p:=h
def zAU{p:Prop}(h:p:=by
 (repeat' (first|simp only[go_sem, *]|(refine sx ?_ ?_<;>intro B)|refine sy AA fun x F C=>?_|simp(disch:=first|assumption|omega) only[AR]))
 all_goals first
  |omega
  |(refine Ly ?_ (fun f e g=>?_)
    .clear p;grind [Xm,B3.size,FB,B3.depth,FM,B3.formed]
    .simp only[get_put,AI e,g,AM,FN])
  |(refine QL ?_ ?_ (fun f e g=>?_)
    .clear p;grind [Xm,B3.size,FB,B3.depth,FM,B3.formed]
    .simp[get_put,is_self,B3.size,FB]
    .simp only[get_put,AI e,g,AM,FN])):p:=h
def zAa{p:Prop}(h:p:=by
 (repeat' (first|simp only[go_sem, *,ME,Mu]|(refine sx ?_ ?_<;>intro bs)|refine sy AA fun x a4 bx=>?_|simp(disch:=first|assumption|omega) only[AR]))
 all_goals try(exact Gy (w.1 _ _) r.1 (s.1 _) (A.1 zEd))
 rw[Dj];refine aw ?_;exact Gy (w.1 _ _) r.1 (s.1 _) (A.1 zEd)):p:=h
def zAg{p:Prop}(h:p:=by
 rcases Is.1 a with e|a
 .have:=congrArg List.length e;simp at this
 rcases Is.1 a with e|a
 .simp only[Ms,and_true]at e;exact h e
 .have:=a.length_le;simp at this;omega):p:=h
def zAi{p:Prop}(h:p:=by grind [Xm,B3.size,FB,B3.depth,FM,B3.formed]):p:=h
def zAk{p:Prop}(h:p:=by constructor<;>first|exact DT _ _ _ _ AZ|simp only[go_sem]):p:=h
def zAn{p:Prop}(h:p:=by (repeat' (first|simp only[go_sem, *,Lg]|(refine sx ?_ ?_<;>intro e)|refine sy AA fun x g f=>?_|simp(disch:=first|assumption|omega) only[AR]))):p:=h
def zAo{p:Prop}(h:p:=by
 (repeat' (first|simp only[go_sem, *,JE,N5]|(refine sx ?_ ?_<;>intro ag)|refine sy AA fun x P ar=>?_|simp(disch:=first|assumption|omega) only[AR]))
 all_goals try(exfalso;omega)
 all_goals (exact Eo (L.1 zEh))):p:=h
def zAt{p:Prop}(h:p:=by
 have: ¬((¬false∈st.met)/\(¬false∈st.defs)):=fun h=>by
  rw[<-J7,<-J7]at h;have:=a.1;rw[h.1,h.2]at this;cases this
 rw[Ci this]at u;exact⟨fun _=>⟨_,_,_,_,_,_,_,_,_,rfl,by(simp only[go_sem];try rfl)⟩,fun st f=>(by rw[u]at f;cases f)⟩):p:=h
def zA8{p:Prop}(h:p:=by
 refine aw ?_;rw[Dj]
 (repeat' (first|simp only[go_sem, *]|(refine sx ?_ ?_<;>intro R)|refine sy AA fun x Z X=>?_|simp(disch:=first|assumption|omega) only[AR]))
 all_goals exact HA e (y.1 rfl)):p:=h
def zA9{p:Prop}(h:p:=by simp only[Ej,slv,g,t,FN,F6];simp only[go_sem]):p:=h
def zBQ{p:Prop}(h:p:=by have:=congrArg List.length e;simp at this):p:=h
def zBX{p:Prop}(h:p:=by
 (repeat' (first|simp only[go_sem, *,P7]|(refine sx ?_ ?_<;>intro o)|refine sy AA fun x e u=>?_|simp(disch:=first|assumption|omega) only[AR]))
 all_goals rw[a.1]):p:=h
def zBa{p:Prop}(h:p:=by
 (repeat' (first|simp only[go_sem, *]|(refine sx ?_ ?_<;>intro o)|refine sy AA fun x e u=>?_|simp(disch:=first|assumption|omega) only[AR]))
 all_goals rw[a.1]):p:=h
def zBc{p:Prop}(h:p:=by exact⟨_,by(simp only[go_sem];rfl)⟩):p:=h
def zBd{p:Prop}(h:p:=by
 (repeat' (first|simp only[go_sem, *]|(refine sx ?_ ?_<;>intro p)|refine sy AA fun x w r=>?_|simp(disch:=first|assumption|omega) only[AR]))
 .omega
 .rw[f.1]):p:=h
def zBf{p:Prop}(h:p:=by simp only[go_sem,q,AM]):p:=h
def zBi{p:Prop}(h:p:=by
 obtain rfl:=g.ge n;have e:looks p=none:=by
  unfold looks;rw[n];split<;>rfl
 clear g;refine aw ?_;exact⟨fun _=>rfl,fun st a=>by rw[e]at a;cases a⟩):p:=h
def zBl{p:Prop}(h:p:=by have:=OH (Bq.init p).met;simp only[Bq.init,I7]at*;omega):p:=h
def zBm{p:Prop}(h:p:=by
 rw[c]
 (repeat' (first|simp only[go_sem, *,Qd]|(refine sx ?_ ?_<;>intro g)|refine sy AA fun x j i=>?_|simp(disch:=first|assumption|omega) only[AR]))):p:=h
def zBr{p:Prop}(h:p:=by exact⟨_,by(simp only[go_sem];try rfl)⟩):p:=h
def zBt{p:Prop}(h:p:=by
 have:Bj p (p.nodes.length+1) p.main p.free.length (Bq.init p)=none:=by
  rw[Bj,Ci];intro U;have:=AK U.2;simp[Bq.init]at this;omega
 rw[this]):p:=h
def zB2{p:Prop}(h:p:=by
 rcases c.arr with f|⟨f,Z,rfl,m⟩
 .exact .inl f
 .exact .inr ⟨f,Z,rfl,by rw[k Z (BQ.2 BH) _ m (l Z _ m AG) AG];exact m⟩):p:=h
def zB7{p:Prop}(h:p:=by rw[D3];intro v b;obtain⟨i,a,rfl⟩:=F1.1 b;have:=List.mem_range'_1.1 a;simp only[Cm.inB,Int.reduceEq,F6,FN,AP,Ap];omega):p:=h
def zCB{p:Prop}(h:p:=by obtain⟨q,r⟩:=EY c.rep a;exact k id (BQ.2 (.inr (.inr (.inr (.inr (.inr (.inr (.inr a)))))))) _ r (l id _ r AG) AG):p:=h
def zCP{p:Prop}(h:p:=by refine aw ?_;refine a2.1 ((_,_),_) ⟨lF f r.1 (s.1 _) AG,⟨?_⟩⟩;rw[b2.1,D9];cases B3.ok size y<;>simp):p:=h
def zCT{p:Prop}(h:p:=by simp only[go_sem,Bq.init]):p:=h
def zCU{p:Prop}(h:p:=by exact f id (BQ.2 zEg) _ this (l id _ this AG) AG):p:=h
def zCf{p:Prop}(h:p:=by have q:=AI h2;have ag:Id.is av id=false:=AF fun e=>F (by simp[AE,e]);simp only[go_sem,q,ag,AM]):p:=h
def zCk{p:Prop}(h:p:=by
 have Q:AH (CZ p gs s 0 0 1 s.ce=false):=⟨by
  rw[I.1,q.1,DL m];simp⟩
 refine aw ?_;rw[Q.1]):p:=h
def zCn{p:Prop}(h:p:=by
 rcases j with j|j
 .exact u.apart K j AA
 .simp only[AE,Ac]at j;subst j;exact JG _ _ _ _ AA):p:=h
def zCz{p:Prop}(h:p:=by refine aw ?_;exact HA f (V.1 rfl)):p:=h
def zC0{p:Prop}(h:p:=by replace bi:=bi.1;clear U K M N X Y Z ac J Q T I A F w s f v C;grind [DG,Dp,Xc,FI]):p:=h
def zC1{p:Prop}(h:p:=by exact⟨x,BQ.2 (by simp[g]),h2⟩):p:=h
def zC4{p:Prop}(h:p:=by have:=(EI c.s0 a).2;exact k id (BQ.2 zEg) _ this (l id _ this AG) AG):p:=h
def zDA{p:Prop}(h:p:=by exact absurd t ‹_›):p:=h
def zDX{p:Prop}(h:p:=by simp only[go_sem,Bq.init,Ta]):p:=h
def zDZ{p:Prop}(h:p:=by exact .inr (.inr (BQ.2 zE5))):p:=h
def zDl{p:Prop}(h:p:=by refine BR Tryz.func129 ?_;refine aw ?_;exact Gy c.1 i.1 rfl rfl):p:=h
def zDs{p:Prop}(h:p:=by simp only[V,CI];exact⟨D.1,fun id j=>.inl j,fun _ _ _=>rfl⟩):p:=h
def zEB{p:Prop}(h:p:=by have t:=AI n;have u:=AJ n;simp only[go_sem,t,u,s.1 e n,AM]):p:=h
def zEF{p:Prop}(h:p:=by refine Az Tryz.func71 ?_;exact au):p:=h
def zEU{p:Prop}(h:p:=by simp only[AE,Ac]at j;subst j;exact⟨Ar [1,14],_,rfl⟩):p:=h
end Go
namespace Go.Abs
variable{P:Program}{C:DJ}{K:Ab}{fr:Fr}{b n i:Nat}{Q:Eh->St->Prop}
variable{ops:Array Oper}{al:Nat->Bool}{l:List Oper}{e:CA}{h:AD}{bs:Nat}{ds:List Df}{ps:List (Nat×Nat)}{fps:List Fp}{ρ:List Nat}{dst:Option Tmp}
def bQ(Q:Eh->St->Prop)(st:St):Option Code->Prop
 |none=>Q .normal st
 |some .ret=>Q .ret st
 |some (.exit k)=>Q (.exit k) st
 |some _=>False
def Xq(Q:Eh->St->Prop)(st:St):Option Obj->Prop
 |some (.loop r)=>match r.state with
  |.busy=>False
  |_=>bQ Q st r.v6
 |_=>False
def JA(ρ ρ2:List Nat)(id:Id)(e:CA)(bs:Nat)(ds:List Df)(Q:Eh->St->Prop):E (A8×AD)->Prop
 |.ok (.ret _,h')=>Xq Q ⟨e,gc ρ (gc ρ2 h'),bs,ds⟩ (h'.get id)
 |.ok (.ge v,h')=>Q (.ge v) ⟨e,gc ρ (gc ρ2 h'),bs,ds⟩
 |.err _=>False
def j8(K:Ab)(ci:Option (List Nat))(ρ ρ2:List Nat)(id:Id)(e:CA)(h:AD)(bs:Nat)(ds:List Df)(Q:Eh->St->Prop):AV->Prop
 |.fn f first cap=>JA ρ ρ2 id e bs ds Q (K (.fn f) (first++[.wt id]++cap) h ρ2 true ci)
 |_=>False
def ct(ρ ρ2:List Nat)(id:Id)(a:St)(r:E (A8×AD)):(match Kp ρ ρ2 id a r with|.ok (o,st')=>Q o st'|.err _=>False)=JA ρ ρ2 id a.env a.base a.defs Q r:=by
 cases r with
 |err l=>rfl
 |ok r=>
  obtain⟨o,h'⟩:=r;cases o with
  |ge v=>simp only[Kp,JA,BB]
  |ret v=>
   simp only[Kp,JA,BB,Xq,ZC];cases AD.get h' id with
   |none=>rfl
   |some o=>
    cases o with
    |loop r=>
     obtain⟨s,p⟩:=r;simp only;cases s<;>(try rfl)<;>
     .simp only[bQ];cases p with
      |none=>rfl
      |some c=>cases c<;>rfl
    |_=>rfl
def xz(g:Operand)(c:Array Tmp)(of a:Code)(k:fr.wp=false):Wp C K fr b (.rangeFunc g c of a) ⟨e,h,bs,ds⟩ Q=
 j8 K fr.ci (bs::fr.π) ((bs+1)::fr.π) (0::bs::fr.π) e (h.put (0::bs::fr.π) (.loop ⟨.ready,none,fr.f,e,c.toList,of,a,fr.nt⟩)) (bs+2) (.mark (0::bs::fr.π)::ds) Q (ev e.get g):=by
 have key:Wp C K fr b (.rangeFunc g c of a) ⟨e,h,bs,ds⟩ Q=(match Hs K fr g c of a ⟨e,h,bs,ds⟩with|.ok (o,st')=>Q o st'|.err _=>False):=by
  cases j:Hs K fr g c of a ⟨e,h,bs,ds⟩with
  |ok r=>
   obtain⟨o,st'⟩:=r;exact Vo fun n=>by simp only[Bo,j]
  |err l=>
   refine propext ⟨fun⟨n,o,st',i,hq⟩=>?_,fun h=>h.elim⟩;cases n with
   |zero=>simp[Bo]at i
   |succ n=>simp only[Bo,j]at i;cases i
 rw[key];unfold Hs;simp only[k,JM,BB];rw[ct];simp only[j8];cases ev e.get g with
 |fn f first cap=>simp only[Ln,Bn]
 |_=>rfl
variable{π:List Nat}{ci:Option (List Nat)}
def rJ{f:FuncId}{raw:Bool}{nt:Nat}(g:Operand)(c:Array Tmp)(of a:Code):Wp C K ⟨f,π,raw,ci,false,nt⟩ b (.rangeFunc g c of a) ⟨e,h,bs,ds⟩ Q=
 j8 K ci (bs::π) ((bs+1)::π) (0::bs::π) e (h.put (0::bs::π) (.loop ⟨.ready,none,f,e,c.toList,of,a,nt⟩)) (bs+2) (.mark (0::bs::π)::ds) Q (ev e.get g):=xz g c of a rfl
variable{ρ ρ2:List Nat}
theorem sX{id:Id}(f:FuncId)(first cap:List AV):j8 K ci ρ ρ2 id e h bs ds Q (.fn f first cap)=JA ρ ρ2 id e bs ds Q (K (.fn f) (first++[.wt id]++cap) h ρ2 true ci):=rfl
variable{Post:A8->AD->Prop}
def Sz{id:Id}{q:E (A8×AD)}(a: ∃o h',q=.ok (o,h')/\Post o h')(b: ∀o h',Post o h'->JA ρ ρ2 id e bs ds Q (.ok (o,h'))):JA ρ ρ2 id e bs ds Q q:=by
 obtain⟨o,h',e,c⟩:=a;rw[e];exact b o h' c
theorem jC{id:Id}(v:AV)(h':AD):JA ρ ρ2 id e bs ds Q (.ok (.ret v,h'))=Xq Q ⟨e,gc ρ (gc ρ2 h'),bs,ds⟩ (h'.get id):=rfl
theorem jB{id:Id}(v:AV)(h':AD):JA ρ ρ2 id e bs ds Q (.ok (.ge v,h'))=Q (.ge v) ⟨e,gc ρ (gc ρ2 h'),bs,ds⟩:=rfl
theorem ik(st:St)(f:FuncId)(e:CA)(b:List Nat)(of a:Code)(nt:Nat):Xq Q st (some (.loop ⟨.ready,none,f,e,b,of,a,nt⟩))=Q .normal st:=rfl
theorem p9(st:St)(f:FuncId)(e:CA)(b:List Nat)(of a:Code)(nt:Nat):Xq Q st (some (.loop ⟨.done,some .ret,f,e,b,of,a,nt⟩))=Q .ret st:=rfl
theorem ij(st:St)(k:Nat)(f:FuncId)(e:CA)(b:List Nat)(of a:Code)(nt:Nat):Xq Q st (some (.loop ⟨.done,some (.exit k),f,e,b,of,a,nt⟩))=Q (.exit k) st:=rfl
def Rr(C:DJ)(K:Ab)(fr:Fr)(ops:Array Oper)(b n:Nat)(al:Nat->Bool)(l:List Oper)(i:Nat)(dst:Option Tmp)(ρ:List Nat)(e:CA)(h:AD)(bs:Nat)(ds:List Df)(Q:Eh->St->Prop)(id:Id)(az:List AV):Option Obj->Prop
 |some (.loop r)=>WH C K fr ops b n al l i dst ρ e h bs ds Q (K (.round id r) az h ρ true fr.ci)
 |_=>False
def mG(id:Id)(args:List AV):UF C K fr ops b n al l i dst ρ e h bs ds Q args (.wt id)=Rr C K fr ops b n al l i dst ρ e h bs ds Q id args (h.get id):=by
 simp only[UF,FO,K4,Rr];cases AD.get h id with
 |none=>rfl
 |some o=>cases o<;>first|rfl|simp only[SN]
theorem rM(id:Id)(args:List AV)(r:Lp):Rr C K fr ops b n al l i dst ρ e h bs ds Q id args (some (.loop r))=WH C K fr ops b n al l i dst ρ e h bs ds Q (K (.round id r) args h ρ true fr.ci):=rfl
def AFQ(C:DJ)(K:Ab)(fr:Fr)(ops:Array Oper)(b n:Nat)(al:Nat->Bool)(ps:List (Nat×Nat))(fps:List Fp)(l:List Oper)(i:Nat)(dst:Option Tmp)(ρ:List Nat)(e:CA)(h:AD)(bs:Nat)(ds:List Df)(Q:Eh->St->Prop)(id:Id)(az:List AV):Option Obj->Prop
 |some (.loop r)=>VS C K fr ops b n al ps fps l i dst ρ e h bs ds Q (K (.round id r) az h ρ true fr.ci)
 |_=>False
theorem rL(id:Id)(args:List AV)(r:Lp):AFQ C K fr ops b n al ps fps l i dst ρ e h bs ds Q id args (some (.loop r))=VS C K fr ops b n al ps fps l i dst ρ e h bs ds Q (K (.round id r) args h ρ true fr.ci):=rfl
def dS(id:Id)(Post:A8->AD->Prop)(o:Eh)(h:AD):Option Obj->Prop
 |some (.loop r)=>match o with
  |.normal=>Post (.ret (.d (.bool true))) (h.put id (.loop {r with state:=.ready,v6:=none}))
  |.ret=>Post (.ret (.d (.bool false))) (h.put id (.loop {r with state:=.done,v6:=some .ret}))
  |.exit k=>Post (.ret (.d (.bool false))) (h.put id (.loop {r with state:=.done,v6:=some (.exit k)}))
  |.ge v=>Post (.ge v) h
 |_=>False
def dU(id:Id)(Post:A8->AD->Prop):Eh->St->Prop
 |o,st=>st.defs=[]/\dS id Post o st.heap (st.heap.get id)
def yO(C:DJ)(K:Ab)(fr:Fr)(id:Id)(body:Code)(Post:A8->AD->Prop)(st:St):Option Obj->Prop
 |some (.loop r)=>match r.state with
  |.ready=>Wp C K fr 0 body {st with heap:=st.heap.put id (.loop {r with state:=.busy})} (dU id Post)
  |_=>False
 |_=>False
def YA(C:DJ)(K:Ab)(fr:Fr)(id:Id)(body:Code)(Post:A8->AD->Prop):Eh->St->Prop
 |.normal,st=>st.defs=[]/\LQ fr.ci [(id,.box [])]=true/\yO C K fr id body Post st (st.heap.get id)
 |_,_=>False
def dV(id:Id):dU id Post .normal ⟨e,h,bs,[]⟩=dS id Post .normal h (h.get id):=by simp[dU]
def wx(id:Id):dU id Post .ret ⟨e,h,bs,[]⟩=dS id Post .ret h (h.get id):=by simp[dU]
def wv(id:Id)(v:AV):dU id Post (.ge v) ⟨e,h,bs,[]⟩=dS id Post (.ge v) h (h.get id):=by simp[dU]
theorem dT(id:Id)(r:Lp):dS id Post .normal h (some (.loop r))=Post (.ret (.d (.bool true))) (h.put id (.loop ⟨.ready,none,r.f,r.env,r.params,r.of,r.body,r.nt⟩)):=rfl
theorem wu(id:Id)(r:Lp):dS id Post .ret h (some (.loop r))=Post (.ret (.d (.bool false))) (h.put id (.loop ⟨.done,some .ret,r.f,r.env,r.params,r.of,r.body,r.nt⟩)):=rfl
theorem qc(id:Id)(k:Nat)(r:Lp):dS id Post (.exit k) h (some (.loop r))=Post (.ret (.d (.bool false))) (h.put id (.loop ⟨.done,some (.exit k),r.f,r.env,r.params,r.of,r.body,r.nt⟩)):=rfl
theorem wq(id:Id)(v:AV)(r:Lp):dS id Post (.ge v) h (some (.loop r))=Post (.ge v) h:=rfl
def Zw(id:Id)(a:Code):YA C K fr id a Post .normal ⟨e,h,bs,[]⟩=(LQ fr.ci [(id,.box [])]=true/\yO C K fr id a Post ⟨e,h,bs,[]⟩ (h.get id)):=by simp[YA]
theorem lr(id:Id)(b:Code)(p:Option Code)(f:FuncId)(e':CA)(g:List Nat)(a c:Code)(nt:Nat):yO C K fr id b Post ⟨e,h,bs,[]⟩ (some (.loop ⟨.ready,p,f,e',g,a,c,nt⟩))=Wp C K fr 0 b ⟨e,h.put id (.loop ⟨.busy,p,f,e',g,a,c,nt⟩),bs,[]⟩ (dU id Post):=rfl
def Hq{id:Id}{r:Lp}{args:List AV}{h:AD}{e:CA}(y:FA r.env r.params args=some e)
 (A:Wp C (KL P C) {f:=r.f,π,raw:=true,ci,wp:=true,nt:=r.nt} 0 r.of ⟨e,h,0,[]⟩ (YA C (KL P C) {f:=r.f,π,raw:=true,ci,wp:=true,nt:=r.nt} id r.body Post)): ∃o h',KL P C (.round id r) args h π true ci=.ok (o,h')/\Post o h':=by
 obtain⟨i,B,I,x,a⟩:=A;cases B with
 |normal=>
  obtain⟨l,J,a⟩:=a;cases c:AD.get I.heap id with
  |none=>rw[c]at a;exact a.elim
  |some D=>
   rw[c]at a;cases D with
   |loop H=>
    simp only[yO]at a;cases g:H.state with
    |ready=>
     rw[g]at a;obtain⟨j,q,s,h2,t,b⟩:=a;have w: ∃o h',Q9 id (.ok (q,s))=.ok (o,h')/\Post o h':=by
      simp only[Q9,t];cases p:AD.get s.heap id with
      |none=>rw[p]at b;exact b.elim
      |some F=>
       rw[p]at b;cases F with
       |loop K=>
        cases q with
        |normal=>exact⟨_,_,rfl,b⟩
        |ret=>exact⟨_,_,rfl,b⟩
        |exit k=>exact⟨_,_,rfl,b⟩
        |ge v=>exact⟨_,_,rfl,b⟩
       |_=>exact b.elim
     obtain⟨o,h',u,z⟩:=w;refine⟨o,h',Zd (n:=max i j) ?_,z⟩;unfold IW;have m:=Od h2 (NO i j);rw[l]at m;simp only[y,Od x (Lw i j),Jr,l,J,c,Oz,g,BB];rw[m];exact u
    |_=>rw[g]at a;exact a.elim
   |_=>exact a.elim
 |_=>exact a.elim
attribute [go_sem] sX jC jB ik p9 ij mG rM rL dV wx wv dT wu qc wq Zw lr rJ FA
end Go.Abs
namespace Go.Abs
variable{α β:Type}
def RK(f:α->β)(l:List α):List.take l.length (l.map f)=l.map f:=Bi AG
def RJ(f:α->β)(l:List α)(x:List β):List.take l.length (l.map f++x)=l.map f:=by rw[ID AG,RK]
def Yd(f:α->β)(l:List α)(y:β)(x:List β):List.drop (l.length+1) (l.map f++y::x)=x:=by rw[List.drop_append];simp
def vS(g:G)(id:Id):Option Obj->AD
 |some (.em sz es)=>[(id,.i7 sz es)]
 |some (.arr sz es)=>match C7 g es with
  |some ds=>(id,.i7 sz ds)::es.flatMap (Ca g)
  |none=>[]
 |_=>[]
def pV(g:G)(id:Id)(off n:Nat):Di g (.f8 id off n)=vS g id (g id):=by
 simp only[Di];exact zBP
theorem iJ(g:G)(id:Id)(sz:Nat)(es:List (List Al)):vS g id (some (.em sz es))=[(id,.i7 sz es)]:=rfl
theorem pY(g:G)(id:Id)(sz:Nat)(es:List (List Al)):vS g id (some (.i7 sz es))=[]:=rfl
attribute [go_sem] vX pV iJ pY
attribute [go_sem] RK RJ Yd Nat.le_add_right Nat.le_add_left Nat.add_le_add_iff_left Nat.not_succ_le_self Nat.add_lt_add_iff_left
end Go.Abs
namespace Go.Proofs
open Abs
variable{ρ:Abs.Id}
def Dx{id:Abs.Id}(h:Id.under ρ id=false)(a b c n:Nat):Id.is (a::b::c::n::ρ) id=false:=AI (AJ (AJ h n) c) a b
def Jk{id:Abs.Id}(h:Id.under ρ id=false)(a b c n:Nat):Id.is id (a::b::c::n::ρ)=false:=Aj (AJ (AJ h n) c) a b
variable{π:List Nat}
def Ar(l:List Nat):Id.under π (l++π)=true:=under_iff.2 ⟨l,rfl⟩
def KJ(g:AD)(sz:Nat)(v:AV)(es:List (List Al)):Prop:=(v=.d7/\es=[])\/ ∃id x,v=.f8 id 0 es.length/\g.get id=some (.em sz (es++x))
def jv(g:AD)(sz:Nat)(v:AV)(es:List (List Al)):Prop:=KJ g sz v es\/(v=.emp/\es=[])
abbrev QC(c:Bool)(i:Nat)(g:AD)(sz:Nat)(v:AV)(es:List (List Al)):Prop:=match c,i with
 |false,2=>jv g sz v es
 |_,_=>KJ g sz v es
structure eK(c:Bool)(g:AD)(rows:List (List AV))(l:List HD):Prop where
 len:rows.length=l.length
 row: ∀(j:Nat) (q:HD),l[j]? =some q-> ∃v,rows[j]? =some (A6 q v)/\QC c 2 g 1 v (q.queue.map BJ)
abbrev aB:=eK true
def rV(g:AD)(v:AV)(rows:List (List AV)):Prop:=(v=.d7/\rows=[])\/ ∃id,v=.f8 id 0 rows.length/\g.get id=some (.arr 4 rows)
structure MV where
 s:Nat->AV
 v3:AV
 v9:AV
 un:Abs.Id
 rows:List (List AV)
def Dt:Nat->Nat
 |0=>2
 |1=>3
 |2=>3
 |_=>5
def Ax(st:CW):Nat->List (List Al)
 |0=>st.d8.ac.map Aw
 |1=>st.d8.ce.map BG
 |2=>st.d8.waits.map Ae
 |_=>st.ev.map Dk
def MV.ip(V:MV)(i:Nat)(v:AV):MV:={V with s:=fun j=>if j=i then v else V.s j}
def MV.ids(V:MV)(m:Abs.Id):List Abs.Id:=m::V.un::(AE (V.s 0)++(AE (V.s 1)++(AE (V.s 2)++(AE (V.s 3)++(AE V.v3++V.rows.flatMap A9)))))
def BL(p:AX)(sz:List Int)(V:MV)(w:Int):List AV:=[V.s 0,V.s 1,V.v3,V.s 2,.d (.bv (p.free.map Br)),.d (.bv (p.nodes.map Bc)),.d (.bv (p.defs.map B4)),nI p.main,.d (.bv (sz.map AL)),V.v9,.mp V.un,V.s 3,nI w]
structure Gj(B:MV->Int->List AV)(c:Bool)(h:AD)(m:Abs.Id)(V:MV)(st:CW):Prop where
 box:h.get m=some (.box (B V st.work))
 act0:(V.un=m/\c=false)\/h.get V.un=some (.map JU)
 sl: ∀i,i<4->QC c i h (Dt i) (V.s i) (Ax st i)
 arr:rV h V.v3 V.rows
 be:eK c h V.rows st.d8.be
 gw: ∀id∈AE (V.s 1),id∉AE (V.s 2)
 qd:(V.rows.flatMap A9).Nodup
 inv: ∀(V:MV) (rows:List (List AV)) (w:Int),B {V with rows:=rows} w=B V w
abbrev J4(p:AX)(sz:List Int):=Gj (BL p sz) true
variable{h:AD}{m:Abs.Id}
def Gj.un{B:MV->Int->List AV}{V:MV}{st:CW}(a:Gj B true h m V st):h.get V.un=some (.map JU):=a.act0.resolve_left fun e=>by cases e.2
variable{h':AD}
def Ll{B:MV->Int->List AV}{c:Bool}{V:MV}{st:CW}(a:Gj B c h m V st)(f:V.un≠m->h.get V.un=some (.map JU)->h'.get V.un=h.get V.un):(V.un=m/\c=false)\/h'.get V.un=some (.map JU):=by
 rcases a.act0 with e|e
 .exact .inl e
 .exact .inr ((f (fun b=>by rw[b,a.box]at e;cases e) e).trans e)
structure YF(N:Abs.Id->Bool)(m:Abs.Id)(V V':MV)(h h':AD):Prop where
 ids: ∀id∈V'.ids m,id∈V.ids m\/(N id=true/\ ∃l,id=1::l)
 frame: ∀id,id∉V.ids m->N id=false->h'.get id=h.get id
abbrev gB(π:List Nat):=YF (Id.under π)
abbrev MI(B:MV->Int->List AV)(c:Bool)(N:Abs.Id->Bool)(m:Abs.Id)(V:MV)(h:AD)(st:CW)(h':AD):Prop:= ∃V',Gj B c h' m V' st/\YF N m V V' h h'
abbrev ABX(p:AX)(sz:List Int):=MI (BL p sz) true
abbrev q4(p:AX)(sz:List Int)(π:List Nat):=ABX p sz (Id.under π)
abbrev NA(N:Abs.Id->Bool)(V:MV)(m:Abs.Id):Prop:= ∀id∈V.ids m,N id=false
abbrev Bx(π:List Nat):=NA (Id.under π)
def Bx.ext{V:MV}(h:Bx π V m)(n:Nat):Bx (n::π) V m:=fun id a=>AJ (h id a) n
def G3(p:AX)(sz:List Int)(π:List Nat)(m:Abs.Id)(V:MV)(h:AD):Option CW->A8->AD->Prop
 |some st,o,h'=>o=.ret (.ii [])/\q4 p sz π m V h st h'
 |none,o,h'=>o=.ge (C5 3)/\ ∀id,id∉V.ids m->Id.under π id=false->h'.get id=h.get id
variable{g:AD}{n:Nat}{es:List (List Al)}
def Ao{sz:Nat}{id:Abs.Id}(x:List (List Al))(b:n=es.length)(a:g.get id=some (.em sz (es++x))):KJ g sz (.f8 id 0 n) es:=.inr ⟨id,x,by rw[b],a⟩
variable{g':AD}
def GM{sz:Nat}{v:AV}(h:KJ g sz v es)(a: ∀id∈AE v,g'.get id=g.get id):KJ g' sz v es:=by
 rcases h with h|⟨id,x,rfl,h⟩
 .exact .inl h
 .exact .inr ⟨id,x,rfl,by rw[a id BH];exact h⟩
def Ia{g:AD}{sz:Nat}{v:AV}{es:List (List Al)}(h:KJ g sz v es){id:Abs.Id}(a:id∈AE v): ∃x,g.get id=some (.em sz x):=by
 rcases h with⟨rfl,_⟩|⟨b,x,rfl,h⟩
 .simp[AE]at a
 .simp[AE]at a;subst a;exact⟨_,h⟩
def Pw{c:Bool}{i:Nat}{sz:Nat}{v:AV}(h:KJ g sz v es):QC c i g sz v es:=by
 unfold QC;split
 .exact .inl h
 .exact h
def Vc{c:Bool}{i:Nat}{sz:Nat}{v:AV}(h:QC c i g sz v es):jv g sz v es:=by
 unfold QC at h;split at h
 .exact h
 .exact .inl h
def Kt{c:Bool}{i:Nat}{sz:Nat}{v:AV}(h:QC c i g sz v es)(a: ∀id∈AE v,g'.get id=g.get id):QC c i g' sz v es:=by
 unfold QC at*;split at h
 .exact h.imp_left fun h=>GM h a
 .exact GM h a
def IX{c:Bool}{i:Nat}{sz:Nat}{v:AV}(h:QC c i g sz v es){id:Abs.Id}(a:id∈AE v): ∃x,g.get id=some (.em sz x):=by
 rcases Vc h with h|⟨rfl,_⟩
 .exact Ia h a
 .simp[AE]at a
variable{rows:List (List AV)}
def Lu{v:AV}(h:rV g v rows)(a: ∀id∈AE v,g'.get id=g.get id):rV g' v rows:=by
 rcases h with h|⟨id,rfl,h⟩
 .exact .inl h
 .exact .inr ⟨id,rfl,by rw[a id BH];exact h⟩
def HY{g:AD}{v:AV}{rows:List (List AV)}(h:rV g v rows){id:Abs.Id}(a:id∈AE v):g.get id=some (.arr 4 rows):=by
 rcases h with⟨rfl,_⟩|⟨b,rfl,h⟩
 .simp[AE]at a
 .simp[AE]at a;subst a;exact h
def Bs(x:HD)(v:AV):A9 (A6 x v)=AE v:=by simp[A6,A9,AE]
variable{l:List HD}
def Lr{c:Bool}(h:eK c g rows l)(b: ∀id∈rows.flatMap A9,g'.get id=g.get id):eK c g' rows l:=by
 refine⟨h.len,fun j q f=>?_⟩;obtain⟨v,a,h2⟩:=h.row j q f;exact⟨v,a,Kt h2 fun id e=>b id (CS.2 ⟨_,AS a,by rw[Bs];exact e⟩)⟩
def K5{c:Bool}(h:eK c g rows l){id:Abs.Id}(f:id∈rows.flatMap A9): ∃x,g.get id=some (.em 1 x):=by
 obtain⟨row,n,a⟩:=CS.1 f;obtain⟨j,b⟩:=II n;have k:=(BV.1 b).1;obtain⟨x,o⟩:=get_some (l:=l) (i:=j) (by rw[<-h.len];exact k);obtain⟨v,e,m⟩:=h.row j x o;rw[b]at e;cases e;rw[Bs]at a;exact IX m a
def MV.mem(V:MV)(m id:Abs.Id):id∈V.ids m↔id=m\/id=V.un\/(∃i,i<4/\id∈AE (V.s i))\/id∈AE V.v3\/id∈V.rows.flatMap A9:=by
 simp only[MV.ids,D0,EL];constructor
 .rintro(h|h|h|h|h|h|h|h)
  .exact .inl h
  .exact .inr (.inl h)
  .exact .inr (.inr (.inl ⟨0,AA,h⟩))
  .exact .inr (.inr (.inl ⟨1,AA,h⟩))
  .exact .inr (.inr (.inl ⟨2,AA,h⟩))
  .exact .inr (.inr (.inl ⟨3,AA,h⟩))
  .exact .inr (.inr (.inr (.inl h)))
  .exact .inr (.inr (.inr (.inr h)))
 .rintro(h|h|⟨i,hi,h⟩|h|h)
  .simp[h]
  .simp[h]
  .match i,hi with
   |0,_=>simp[h]
   |1,_=>simp[h]
   |2,_=>simp[h]
   |3,_=>simp[h]
  .simp[h]
  .simp only[h,or_true]
def MV.m_mem(V:MV)(m:Abs.Id):m∈V.ids m:=(V.mem m m).2 (.inl rfl)
def MV.acts_mem(V:MV)(m:Abs.Id):V.un∈V.ids m:=(V.mem m _).2 (.inr (.inl rfl))
def MV.s_mem(V:MV)(m:Abs.Id){i:Nat}(a:i<4){id:Abs.Id}(h:id∈AE (V.s i)):id∈V.ids m:=(V.mem m _).2 (.inr (.inr (.inl ⟨i,a,h⟩)))
def MV.v3_mem(V:MV)(m:Abs.Id){id:Abs.Id}(h:id∈AE V.v3):id∈V.ids m:=(V.mem m _).2 (.inr (.inr (.inr (.inl h))))
def MV.row_mem(V:MV)(m:Abs.Id){id:Abs.Id}(h:id∈V.rows.flatMap A9):id∈V.ids m:=(V.mem m _).2 (.inr (.inr (.inr (.inr h))))
def CM{B:MV->Int->List AV}{c:Bool}{V:MV}{st:CW}(a:Gj B c h m V st)(b: ∀id∈V.ids m,h'.get id=h.get id):Gj B c h' m V st:=
 ⟨by rw[b _ (V.m_mem m)];exact a.box,Ll a fun _ _=>b _ (V.acts_mem m),fun i f=>Kt (a.sl i f) fun id e=>b id (V.s_mem m f e),Lu a.arr fun id e=>b id (V.v3_mem m e),Lr a.be fun id e=>b id (V.row_mem m e),a.gw,a.qd,a.inv⟩
def TZ{B:MV->Int->List AV}{c:Bool}{V a:MV}{st:CW}{ρ:List Nat}{b:AD}(f:Gj B c h m V st)(e:gB π m a V b h)(i:Bx ρ a m):Gj B c (gc ρ h) m V st:=by
 refine CM f fun id g=>?_;rcases e.ids id g with h|⟨_,l,rfl⟩
 .exact An _ _ _ (i id h)
 .exact G5 _ _ _
def BM{id:Abs.Id}(h:Id.under (n::π) id=true):Id.under π id=true:=by
 rw[under_iff]at*;exact(F5 n π).trans h
def cB{V:MV}(a: ∀id,Id.under π id=false->h'.get id=h.get id):gB π m V V h h':=⟨fun id h=>.inl h,fun id _ b=>a id b⟩
def Ek{B:MV->Int->List AV}{c:Bool}{V:MV}{st:CW}(a:Gj B c h m V st)(f:Bx π V m)(e: ∀id,Id.under π id=false->h'.get id=h.get id):Gj B c h' m V st:=CM a fun id b=>e id (f id b)
def R3{B:MV->Int->List AV}{c:Bool}{N:Abs.Id->Bool}{h h':AD}{m:Abs.Id}{V:MV}{st st':CW}(a:Gj B c h m V st)(o:NA N V m)
 (p:h'.get m=some (.box (B V st'.work))) (g:st'.d8=st.d8/\st'.ev=st.ev) (l: ∀id,id≠m->N id=false->h'.get id=h.get id):Gj B c h' m V st'/\YF N m V V h h':=by
 have s: ∀id,(∀cs,h.get id≠some (.box cs))->id≠m:=fun id r e=>r _ (by subst e;exact a.box);have q: ∀i,Ax st' i=Ax st i:=fun i=>by
  unfold Ax;rw[g.1,g.2]
 have j: ∀id∈V.ids m,(∀cs,h.get id≠some (.box cs))->h'.get id=h.get id:=fun id f h2=>l id (s id h2) (o id f);refine⟨⟨p,?_,fun i k=>?_,?_,?_,a.gw,a.qd,a.inv⟩,fun id h=>.inl h,fun id f h2=>l id (fun e=>f zFU) h2⟩
 .exact Ll a fun e _=>l _ e (o _ (V.acts_mem m))
 .rw[q];refine Kt (a.sl i k) fun id b=>j id (V.s_mem m k b) ?_;obtain⟨x,n⟩:=IX (a.sl i k) b;rw[n];simp
 .refine Lu a.arr fun id b=>j id (V.v3_mem m b) ?_;rw[HY a.arr b];simp
 .rw[g.1];refine Lr a.be fun id b=>j id (V.row_mem m b) ?_;obtain⟨x,n⟩:=K5 a.be b;rw[n];simp
variable{st':CW}
def kU{st:CW}(a:st'.d8=st.d8): ∀j,j<4->j≠3->Ax st' j=Ax st j
 |0,_,_|1,_,_|2,_,_=>by simp[Ax,a]
 |3,_,h=>absurd rfl h
def XO{st:CW}(a:st'.d8.ac=st.d8.ac)(b:st'.d8.ce=st.d8.ce)(c:st'.ev=st.ev): ∀j,j<4->j≠2->Ax st' j=Ax st j
 |0,_,_|1,_,_|3,_,_=>by simp[Ax,a,b,c]
 |2,_,h=>absurd rfl h
def gX{st:CW}(a:st'.d8.ac=st.d8.ac)(h2:st'.d8.waits=st.d8.waits)(b:st'.ev=st.ev): ∀j,j<4->j≠1->Ax st' j=Ax st j
 |0,_,_|2,_,_|3,_,_=>by simp[Ax,a,h2,b]
 |1,_,h=>absurd rfl h
def XN{st:CW}(a:st'.d8.ce=st.d8.ce)(h2:st'.d8.waits=st.d8.waits)(b:st'.ev=st.ev): ∀j,j<4->j≠0->Ax st' j=Ax st j
 |1,_,_|2,_,_|3,_,_=>by simp[Ax,a,h2,b]
 |0,_,h=>absurd rfl h
theorem xh(V:MV)(i:Nat)(v:AV)(j:Nat):(V.ip i v).s j=if j=i then v else V.s j:=rfl
def cV{B:MV->Int->List AV}{c:Bool}{N:Abs.Id->Bool}{h h':AD}{m:Abs.Id}{V:MV}{st st':CW}(i:Nat){v:AV}(p:i<4)(f:Gj B c h m V st)(r:NA N V m)
 (F:h'.get m=some (.box (B (V.ip i v) st'.work))) (K:QC c i h' (Dt i) v (Ax st' i)) (J: ∀j,j<4->j≠i->Ax st' j=Ax st j) (H:st'.d8.be=st.d8.be)
 (M:AE v=AE (V.s i)\/ ∀id∈AE v,N id=true/\ ∃l,id=1::l) (t: ∀id,id≠m->id∉AE (V.s i)->N id=false->h'.get id=h.get id):Gj B c h' m (V.ip i v) st'/\YF N m V (V.ip i v) h h':=by
 have I: ∀id,(∀cs,h.get id≠some (.box cs))->id≠m:=fun id a e=>a _ (by subst e;exact f.box);have s: ∀id∈V.ids m,(∀cs,h.get id≠some (.box cs))->id∉AE (V.s i)->h'.get id=h.get id:=fun id k h2 D=>t id (I id h2) D (r id k);have u: ∀id∈AE v,id∈AE (V.s i)\/(N id=true/\ ∃l,id=1::l):=fun id b=>by
  rcases M with e|e
  .rw[e]at b;exact .inl b
  .exact .inr (e id b)
 have key: ∀j,j<4->j≠i-> ∀id∈AE (V.s j),id∉AE (V.s i):=fun j n o id b a=>by
  obtain⟨x,g⟩:=IX (f.sl j n) b;obtain⟨y,q⟩:=IX (f.sl i p) a;rw[g]at q;have L:Dt j=Dt i:=by
   simp only[Co,Obj.em.injEq]at q;exact q.1
  have C:(j=1/\i=2)\/(j=2/\i=1):=by
   match i,j,p,n with
   |0,0,_,_|1,1,_,_|2,2,_,_|3,3,_,_=>omega
   |0,1,_,_|0,2,_,_|0,3,_,_|1,0,_,_|1,3,_,_|2,0,_,_|2,3,_,_|3,0,_,_|3,1,_,_|3,2,_,_=>simp[Dt]at L
   |1,2,_,_|2,1,_,_=>omega
  rcases C with⟨rfl,rfl⟩|⟨rfl,rfl⟩
  .exact f.gw id b a
  .exact f.gw id a b
 refine⟨⟨F,?_,fun j n=>?_,?_,?_,fun id k h2=>?_,f.qd,f.inv⟩,fun id b=>?_,fun id k h2=>?_⟩
 .show(V.un=m/\c=false)\/h'.get V.un=_;refine Ll f fun e A=>t _ e (fun a=>?_) (r _ (V.acts_mem m));obtain⟨x,g⟩:=IX (f.sl i p) a;rw[A]at g;cases g
 .rw[xh];by_cases o:j=i
  .rw[D4 o,o];exact K
  .rw[Ci o,J j n o];refine Kt (f.sl j n) fun id b=>s id (V.s_mem m n b) ?_ (key j n o id b);obtain⟨x,g⟩:=IX (f.sl j n) b;rw[g];simp
 .refine Lu f.arr fun id b=>s id (V.v3_mem m b) ?_ fun a=>?_
  .rw[HY f.arr b];simp
  .obtain⟨x,g⟩:=IX (f.sl i p) a;rw[HY f.arr b]at g;cases g
 .rw[H];refine Lr f.be fun id b=>s id (V.row_mem m b) ?_ fun a=>?_
  .obtain⟨x,g⟩:=K5 f.be b;rw[g];simp
  .obtain⟨x,g⟩:=IX (f.sl i p) a;obtain⟨y,q⟩:=K5 f.be b;rw[g]at q
   match i,p with
   |0,_|1,_|2,_|3,_=>simp[Dt]at q
 .rw[xh]at k h2;have O: ∀id∈AE (V.s 1),N id=false:=fun id b=>r id (V.s_mem m AA b);have P: ∀id∈AE (V.s 2),N id=false:=fun id b=>r id (V.s_mem m AA b);by_cases w:1=i
  .subst w;rw[D4 rfl]at k;rw[Ci AA]at h2;rcases u id k with a|a
   .exact f.gw id a h2
   .rw[P id h2]at a;cases a.1
  .rw[Ci w]at k;by_cases z:2=i
   .subst z;rw[D4 rfl]at h2;rcases u id h2 with a|a
    .exact f.gw id k a
    .rw[O id k]at a;cases a.1
   .rw[Ci z]at h2;exact f.gw id k h2
 .rcases((V.ip i v).mem m id).1 b with a|a|⟨j,n,a⟩|a|a
  .exact .inl ((V.mem m id).2 (.inl a))
  .exact .inl ((V.mem m id).2 (.inr (.inl a)))
  .rw[xh]at a;by_cases o:j=i
   .rw[D4 o]at a;exact(u id a).imp_left fun h=>V.s_mem m p h
   .rw[Ci o]at a;exact .inl (V.s_mem m n a)
  .exact .inl (V.v3_mem m a)
  .exact .inl (V.row_mem m a)
 .exact t id (fun e=>k zFU) (fun a=>k (V.s_mem m p a)) h2
variable{N:Abs.Id->Bool}
def Dc{B:MV->Int->List AV}{c:Bool}{V:MV}{st:CW}(i:Nat)(r:i<4)(p:Gj B c h m V st)(u:NA N V m)
 (t: ∀j,j<4->j≠i->Ax st' j=Ax st j) (q:st'.d8.be=st.d8.be) (v:AV) (h':AD) (b:h'.get m=some (.box (B (V.ip i v) st'.work))) (f:QC c i h' (Dt i) v (Ax st' i)) (g:AE v=AE (V.s i)\/ ∀id∈AE v,N id=true/\ ∃l,id=1::l) (k: ∀id,Id.is m id=false->(∀a∈AE (V.s i),Id.is a id=false)->N id=false->h'.get id=h.get id):MI B c N m V h st' h':=
 ⟨_,cV i r p u b f t q g fun id b1 n o=>k id (AF fun e=>b1 e.symm) (fun a s=>AF fun e=>n (by rw[<-e];exact s)) o⟩
def Nq{B:MV->Int->List AV}{c:Bool}{V:MV}{st:CW}(b:MI B c N m V h st h'): ∀id,id∉V.ids m->N id=false->h'.get id=h.get id:=by
 obtain⟨_,_,a⟩:=b;exact a.frame
end Go.Proofs
namespace Go.Proofs
open Abs
structure BU.Fits(s:BU):Prop where
 ac:s.ac.length<=1000000
 ce:s.ce.length<=1000000
 be:s.be.length<=60
 waits:s.waits.length<=1000000
 group: ∀x∈s.ce,x.env.length<=1000000
 chan: ∀x∈s.be,x.queue.length<=1000000/\ ∀y∈x.queue,y.length<=1000000
 wait: ∀x∈s.waits,x.env.length<=1000000
structure Te(π:List Nat)(s:BU)(v1 v2 v3 v4:AV)(rows:List (List AV))(g:AD):Prop where
 s0:KJ g 2 v1 (s.ac.map Aw)
 s1:KJ g 3 v2 (s.ce.map BG)
 s2:KJ g 3 v4 (s.waits.map Ae)
 arr:rV g v3 rows
 be:aB g rows s.be
 qd:(rows.flatMap A9).Nodup
 gw: ∀id∈AE v2,id∉AE v4
 ids: ∀id,id∈AE v1\/id∈AE v2\/id∈AE v4\/id∈AE v3\/id∈rows.flatMap A9->Id.under π id=true
 own: ∀id,Id.under π id=false->g.get id=none
def rY(π:List Nat)(s:BU)(r:A8×AD):Prop:= ∃v1 v2 v3 v4 rows g,r=(.ret (.agg [v1,v2,v3,v4]),g)/\Te π s v1 v2 v3 v4 rows g
variable{α:Type}{f:α->List Al}{g:AD}
def Pz{sz:Nat}{l:List α}(h:l.length=0):KJ g sz .d7 (l.map f):=.inl ⟨rfl,by rw[BI h];rfl⟩
def Py{sz:Nat}{l:List α}{id:Abs.Id}(h:g.get id=some (.em sz (l.map f))):KJ g sz (.f8 id 0 l.length) (l.map f):=Ao [] AG (by rw[CI];exact h)
def Vk(a b c:Nat)(π:List Nat):Id.under π (a::b::c::π)=true:=under_iff.2 ⟨[a,b,c],rfl⟩
def JG(i t j:Nat)(π:List Nat)(h:i≠j):Id.under (i::π) (t::j::π)=false:=Ft fun a=>by
 exact zAg
def Kx(i a t j:Nat)(π:List Nat)(h:i≠j):Id.under (i::π) (a::t::j::π)=false:=Ft fun b=>by
 rcases Is.1 b with e|b
 .exact zBQ
 have:=JG i t j π h;rw[under_iff.2 b]at this;cases this
def Uv: ∀{g:AD} {x:Abs.Id},x∈g.map (fun x=>x.1)->g.get x≠none
 |(k,o)::g,x,a=>by
  rw[CL];split
  .simp
  .rename_i b;rw[By,D0]at a;rcases a with rfl|a
   .exact absurd (is_self _) b
   .exact Uv a
def yN{id:Abs.Id}(h:g.get id=none):((g.map fun x=>x.1).all fun x=> !Id.is x id)=true:=by
 rw[D3];intro x a;rw[AF]
 .rfl
 .rintro rfl;exact Uv a h
def YU{es:List (List AV)}{l:List HD}(h:Fu g es l):aB g es l:=by
 refine⟨h.len,fun j q e=>?_⟩;obtain⟨v,b,h2⟩:=h.row j q e;refine⟨v,b,?_⟩;rcases h2 with⟨a,rfl⟩|⟨a,id,rfl,c⟩
 .exact Pz a
 .exact Py c
def ma(s:BU)(h:s.Fits)(k:Nat)(ρ:List Nat): ∃r,BX kT 92 [.agg (sC s)] (k::ρ)=.ok r/\rY (k::ρ) s r:=by
 have z:=tH 149 rfl s.ac (fun x _=>da x) h.ac 4 (k::ρ);have h2:=mw 151 rfl s.ce (fun x l=>UM x (h.group x l)) h.ce 7 (k::ρ);obtain⟨r,a0,ag⟩:=yj s.be h.be h.chan 10 (k::ρ);have S:=tI 157 rfl s.waits (fun x l=>V7 x (h.wait x l)) h.waits 13 (k::ρ);replace h:=AB h;rcases ag with⟨R,rfl⟩|⟨R,v,g,b,A,es,rfl,c⟩
 .by_cases p:s.ac.length=0;all_goals by_cases u:s.ce.length=0
  all_goals by_cases w:s.waits.length=0
  all_goals
   simp only[Kq,p,u,w,↓reduceIte]at z h2 S;refine Lh Tryz.func92 ?_
   (repeat' (first|simp only[go_sem, *,QY,PG,QZ,ne_eq,not_false_eq_true]|(refine sx ?_ ?_<;>intro X)|refine sy AA fun x l ad=>?_|simp(disch:=first|assumption|omega) only[AR]))
   refine⟨_,_,_,_,[],_,rfl,?_,?_,?_,.inl ⟨rfl,rfl⟩,⟨R.symm,fun j q f=>by rw[BI R]at f;cases f⟩,List.nodup_nil,?_,fun id a=>?_,fun id e=>?_⟩
   .first
    |exact Pz p
    |(refine Py ?_;simp only[go_sem];done)
   .first
    |exact Pz u
    |(refine Py ?_;simp only[go_sem];done)
   .first
    |exact Pz w
    |(refine Py ?_;simp only[go_sem];done)
   .simp[AE]
   .simp only[AE,Ac,Gc,He,Lt,false_or]at a
    repeat' (rcases a with a|a)
    all_goals exact Vk _ _ _ _
   .have C:=AI e;have D:=AI (AJ e 4);have F:=AI (AJ e 7);have H:=AI (AJ e 13);simp only[go_sem,C,D,F,H,AM]
 .obtain rfl:=c.val;have B:=c.arr;have T:=c.own _ (JG 10 0 0 (k::ρ) AZ);have M:=c.own _ (JG 10 0 1 (k::ρ) AZ);have ar: ∀L,AD.get (g++L) (0::0::k::ρ)=AD.get L (0::0::k::ρ):=fun L=>Bt T;have av: ∀L,AD.get (g++L) (0::1::k::ρ)=AD.get L (0::1::k::ρ):=fun L=>Bt M;have I: ∀L,AD.get (g++L) (1::0::4::k::ρ)=AD.get L (1::0::4::k::ρ):=fun L=>Bt (c.own _ (Kx _ _ _ _ _ AZ));have J: ∀L,AD.get (g++L) (1::0::7::k::ρ)=AD.get L (1::0::7::k::ρ):=fun L=>Bt (c.own _ (Kx _ _ _ _ _ AZ));have K: ∀L,AD.get (g++L) (1::0::13::k::ρ)=AD.get L (1::0::13::k::ρ):=fun L=>Bt (c.own _ (Kx _ _ _ _ _ AZ));have az:=yN T;have i:=c.rep;rw[D2]at i;have ac:=AB i.len;have N:g.get (1::0::13::k::ρ)=none:=c.own _ (Kx _ _ _ _ _ AZ);have n: ∀{x y:Abs.Id} {o:Abs.Obj},g.get x=none->g.get y=some o->Id.is x y=false:=fun z h2=>Fi z h2;have Y:AH (Id.is (0::1::k::ρ) A=false/\Id.is (1::0::13::k::ρ) A=false/\ ∀L,AD.get (g++L) A=some (.arr 4 es)):=⟨n M B,n N B,fun L=>C3 B⟩;have Z:AH (∀id∈es.flatMap A9,Id.is (0::1::k::ρ) id=false/\Id.is (1::0::13::k::ρ) id=false/\ ∀L,AD.get (g++L) id=AD.get g id):=⟨fun id a=>by
   obtain⟨q,f⟩:=EY i a;exact⟨n M f,n N f,fun L=>by rw[f];exact C3 f⟩⟩
  clear N n;replace i:=AB i;have V:AH (Id.under (k::ρ) A=true):=⟨by obtain⟨t,j,_,rfl⟩:=c.a;exact under_iff.2 ⟨[t,j,10],rfl⟩⟩;have W:AH (∀id∈es.flatMap A9,Id.under (k::ρ) id=true):=⟨fun id a=>by obtain⟨t,j,_,rfl⟩:=c.ids id a;exact under_iff.2 ⟨[t,j,10],rfl⟩⟩;replace c:=AB c;have ai: ∀o m,CB (.f8 A o m) g=none:=fun o m=>by simp only[CB,B]
  by_cases p:s.ac.length=0;all_goals by_cases u:s.ce.length=0
  all_goals by_cases w:s.waits.length=0
  all_goals
   simp only[Kq,p,u,w,↓reduceIte]at z h2 S;refine Lh Tryz.func92 ?_
   (repeat' (first|simp only[go_sem, *,QY,PG,QZ,ne_eq,not_false_eq_true]|(refine sx ?_ ?_<;>intro X)|refine sy AA fun x l ad=>?_|simp(disch:=first|assumption|omega) only[AR]))
   refine⟨_,_,_,_,es,_,rfl,?_,?_,?_,.inr ⟨A,?_,?_⟩,YU (EK i.1 fun id a=>?_),i.1.diff,?_,fun id a=>?_,fun id e=>?_⟩
   .first
    |exact Pz p
    |(refine Py ?_;simp only[go_sem,I,J,K];done)
   .first
    |exact Pz u
    |(refine Py ?_;simp only[go_sem,I,J,K];done)
   .first
    |exact Pz w
    |(refine Py ?_;simp only[go_sem,I,J,K];done)
   .rw[ac.1]
   .obtain⟨O,P,Q⟩:=Y.1;simp only[go_sem,O,P,Q,AM]
   .obtain⟨O,P,Q⟩:=Z.1 id a;simp only[go_sem,O,P,Q,AM]
   .simp[AE]
   .simp only[AE,Ac,Gc,Lt,false_or]at a
    repeat' (rcases a with a|a)
    all_goals first
    |exact Vk _ _ _ _
    |exact V.1
    |exact W.1 _ a
   .have C:=AI e;have D:=AI (AJ e 4);have F:=AI (AJ e 7);have H:=AI (AJ e 13);have U: ∀L,AD.get (g++L) id=AD.get L id:=fun L=>Bt (c.1.own id (AJ e 10));simp only[go_sem,C,D,F,H,U,AM]
def Mu(op:Int):Int×Int×Bool:=
 if op=1 then(0,0,true)else if op=7 then(0,0,true)else if op=2 then(-1,0,true)else if op=3 then(0,2,true)else if op=5 then(1,2,true)
 else if op=4 then(0,1,true)else if op=6 then(0,1,true)else if op=8 then(0,1,true)else(0,0,false)
def ME(op:Int):BX kT 168 [nI op] []=.ok (.ret (.ii [nI ((Mu op).1),nI ((Mu op).2.1),.d (.bool (Mu op).2.2)]),[]):=by
 refine Az Tryz.func168 ?_
 (repeat' (first|simp only[go_sem, *]|(refine sx ?_ ?_<;>intro a)|refine sy AA fun x c b=>?_|simp(disch:=first|assumption|omega) only[AR]))
 all_goals simp[Mu, *]
structure Tf(x:B3)(size depth n:Int)(h:AD)(π:List Nat)(idn:Abs.Id)(o:A8)(h':AD):Prop where
 ret:Xm x size depth (60-n)->o=.ret (.ii [])/\h'.get idn=some (.box [nI (n+x.size)])
 ge: ¬Xm x size depth (60-n)->o=.ge Ih
 frame: ∀id',Id.under π id'=false->Id.is idn id'=false->h'.get id'=h.get id'
variable{x:B3}{size depth n:Int}{h h':AD}{π:List Nat}
def Ly{id:Abs.Id}(c: ¬Xm x size depth (60-n))(b: ∀a,Id.under π a=false->Id.is id a=false->h'.get a=h.get a):Tf x size depth n h π id (.ge Ih) h':=⟨fun h=>absurd h c,fun _=>rfl,b⟩
def QL{id:Abs.Id}(e:Xm x size depth (60-n))(c:h'.get id=some (.box [nI (n+x.size)]))(b: ∀a,Id.under π a=false->Id.is id a=false->h'.get a=h.get a):Tf x size depth n h π id (.ret (.ii [])) h':=⟨fun _=>⟨rfl,c⟩,fun h=>absurd e h,b⟩
def yZ(x:B3): ∀(size depth n:Int) (h:AD) (π:List Nat) (i k j:Abs.Id),h.get i=some (.box [nI n])->h.get k=some (.box [nI size])->h.get j=some (.box [.fn 217 [] [.ptr i 0,.ptr k 0,.ptr j 0]])->Id.under π i=false->Id.under π k=false->Id.under π j=false->Id.is i k=false->Id.is i j=false->0<=n->n<=60->1<=depth->depth<=70->
 ∃o h',kT (.fn 217) [.agg [nI x.op,nI x.n,.d (.bv (x.kids.map BT))],nI depth,.ptr i 0,.ptr k 0,.ptr j 0] h π true none=.ok (o,h')/\Tf x size depth n h π i o h':=by
 induction x using B3.ind with
 |h op m T p=>
 intro size depth n h π i k j S K J D M L r q X h2 Y Z;simp only[B3.op_mk,B3.n_mk,B3.kids_mk]at*;have P:=AI D;have ar:=Aj D;have z:=AJ D;have v1:=AI M;have v3:=AJ M;have H:=AI L;have A:=AJ L;have av:IntKind.i64.wrap (n+1)=n+1:=wrap_id AA AA;have az:IntKind.i64.wrap (depth+1)=depth+1:=wrap_id AA AA;refine BR Tryz.func217 ?_;have p:=AB p;rcases T with _|⟨a,_|⟨b,_|⟨c,l⟩⟩⟩
 ·(repeat' (first|simp only[go_sem, *]|(refine sx ?_ ?_<;>intro B)|refine sy AA fun x F C=>?_|simp(disch:=first|assumption|omega) only[AR]))
  all_goals try(rw[Dj];refine aw ?_)
  all_goals first
   |omega
   |(refine Ly ?_ (fun f e g=>?_)
     .clear p;exact zAi
     .simp only[get_put,AI e,g,AM,FN])
   |(refine QL ?_ ?_ (fun f e g=>?_)
     .clear p;exact zAi
     .simp[get_put,is_self,B3.size,FB]
     .simp only[get_put,AI e,g,AM,FN])
 ·exact zAU
 .have t:=AH.mk (p.1 a AG);have u:=AH.mk (p.1 b AG);clear p;have ag:=Vb a;have ai:=Vb b
  (repeat' (first|simp only[go_sem, *]|(refine sx ?_ ?_<;>intro B)|refine sy AA fun x F C=>?_|simp(disch:=first|assumption|omega) only[AR]))
  all_goals try
   (refine Ly ?_ (fun f e g=>?_)
    .clear t u;exact zAi
    .simp only[get_put,AI e,g,AM,FN])
  all_goals (rw[Dj];refine aw ?_)
  all_goals
   refine Ad (t.1 size (depth+1) (n+1) _ _ i k j ?_ ?_ ?_ (z _) (v3 _) (A _) r q ?_ ?_ ?_ ?_) (fun ac g1 v=>?_)
   .simp only[go_sem,P,S]
   .simp only[go_sem,v1,r,K,AM]
   .simp only[go_sem,H,q,J,AM]
   .omega
   .omega
   .omega
   .omega
   have y:=v.frame;have W:g1.get k=some (.box [nI size]):=by
    rw[y k (v3 _) r];simp only[go_sem,v1,r,K,AM]
   have Q:g1.get j=some (.box [.fn 217 [] [.ptr i 0,.ptr k 0,.ptr j 0]]):=by
    rw[y j (A _) q];simp only[go_sem,H,q,J,AM]
   have s: ∀f,Id.under π f=false->Id.is i f=false->g1.get f=h.get f:=fun f e g=>by
    rw[y f (AJ e _) g];simp only[get_put,AI e,g,AM,FN]
   clear y;by_cases N:Xm a size (depth+1) (60-(n+1))
   .obtain⟨rfl,U⟩:=v.ret N;clear v;have s:=AB s;refine aw ?_;rw[Dj];refine aw ?_;refine Ad (u.1 size (depth+1) (n+1+a.size) _ _ i k j ?_ ?_ ?_ (z _) (v3 _) (A _) r q ?_ ?_ ?_ ?_) (fun ad R w=>?_)
    .simp only[go_sem,P,z,U,AM]
    .simp only[go_sem,v1,v3,r,W,AM]
    .simp only[go_sem,H,A,q,Q,AM]
    .omega
    .grind [Xm]
    .omega
    .omega
    have I:=w.frame;have fr: ∀f,Id.under π f=false->Id.is i f=false->R.get f=h.get f:=fun f e g=>by
     rw[I f (AJ e _) g];simp only[get_put,AI e,An _ _ _ (AJ e _),s.1 f e g,AM,FN]
    have fr:=AB fr;clear I s;by_cases O:Xm b size (depth+1) (60-(n+1+a.size))
    .obtain⟨rfl,V⟩:=w.ret O;clear w;refine aw ?_;rw[Dj];refine aw ?_;refine QL ?_ ?_ fun f e g=>?_
     .clear t u fr;exact zAi
     .rw[An _ _ _ (z _),V];simp[B3.size,FB];omega
     .rw[An _ _ _ (AJ e _),fr.1 f e g]
    .obtain rfl:=w.ge O;clear w;refine aw ?_;refine Ly ?_ fun f e g=>?_
     .clear t u fr;exact zAi
     .rw[An _ _ _ (AJ e _),fr.1 f e g]
   .obtain rfl:=v.ge N;clear v;refine aw ?_;refine Ly ?_ (fun f e g=>?_)
    .clear t u;exact zAi
    .rw[An _ _ _ (AJ e _),s f e g]
 ·exact zAU
def ABt(x:B3)(size:Int):BX kT 212 [.agg [nI x.op,nI x.n,.d (.bv (x.kids.map BT))],nI size] []=.ok (Jv Ih (x.ok size)):=by
 refine Az Tryz.func212 ?_;refine aw ?_;refine Ad (yZ x size 1 0 _ _ [0,2] [0,1] [0,4] rfl rfl rfl rfl rfl rfl rfl rfl ?_ ?_ ?_ ?_) (fun c g1 a=>?_)
 .omega
 .omega
 .omega
 .omega
 have e:Xm x size 1 (60-0)↔x.ok size=true:=vb x size;cases b:x.ok size with
 |true=>
  obtain⟨rfl,f⟩:=a.ret (e.2 b);clear a;refine aw ?_;rfl
 |false=>
  obtain rfl:=a.ge (fun h=>by rw[e.1 h]at b;cases b);clear a;refine aw ?_;rfl
def slv(id:Abs.Id)(n:Nat):AV:=if n=0 then .emp else .f8 id 0 n
def Bk{id:Abs.Id}{n:Nat}(h:n≠0):slv id n=.f8 id 0 n:=by rw[slv,Ci h]
structure ZW(π:List Nat)(l sz mt df:Abs.Id):Prop where
 ul:Id.under π l=false
 us:Id.under π sz=false
 um:Id.under π mt=false
 ud:Id.under π df=false
 ls:Id.is l sz=false
 lm:Id.is l mt=false
 ld:Id.is l df=false
 sl:Id.is sz l=false
 sm:Id.is sz mt=false
 sd:Id.is sz df=false
 ml:Id.is mt l=false
 ms:Id.is mt sz=false
 md:Id.is mt df=false
 dl:Id.is df l=false
 ds:Id.is df sz=false
 dm:Id.is df mt=false
structure KT(h:AD)(p:AX)(l sz mt df:Abs.Id)(st:Bq):Prop where
 box:h.get l=some (.box [.d (.bv (p.free.map Br)),.d (.bv (p.nodes.map Bc)),.d (.bv (p.defs.map B4)),nI p.main,slv sz p.nodes.length,slv mt p.nodes.length,slv df p.defs.length])
 co:p.nodes.length≠0->h.get sz=some (.em 1 (st.co.map AL))
 met:p.nodes.length≠0->h.get mt=some (.em 1 (st.met.map DF))
 defs:p.defs.length≠0->h.get df=some (.em 1 (st.defs.map DF))
structure Th(p:AX)(l sz mt df:Abs.Id)(h:AD)(π:List Nat)(r:Option Bq)(o:A8)(h':AD):Prop where
 ret: ∀st',r=some st'->o=.ret (.ii [])/\KT h' p l sz mt df st'/\ ∀id',Id.under π id'=false->Id.is sz id'=false->Id.is mt id'=false->Id.is df id'=false->h'.get id'=h.get id'
 ge:r=none->o=.ge Ih
variable{l df:Abs.Id}{r:Option Bq}
def Eo{p:AX}{sz mt:Abs.Id}(b:r=none):Th p l sz mt df h π r (.ge Ih) h':=⟨fun st' a=>by{rw[b]at a;cases a},fun _=>rfl⟩
@[go_sem] theorem AEU:cfg.meth 307 "cabotage/scope.kids" =some 236:=rfl
@[go_sem] theorem AEV:cfg.meth 308 "cabotage/scope.kids" =some 237:=rfl
@[go_sem] theorem AEW:cfg.meth 309 "cabotage/scope.kids" =some 238:=rfl
@[go_sem] theorem AEX:cfg.meth 310 "cabotage/scope.kids" =some 239:=rfl
@[go_sem] theorem AEY:cfg.meth 314 "cabotage/scope.kids" =some 240:=rfl
structure rp(p:AX)(l sz mt df:Abs.Id)(h:AD)(π:List Nat)(L:List (Nat×Abs.Obj))(st:Bq)(g:AD):Prop where
 looks:KT g p l sz mt df st
 node: ∀q∈L,g.get (0::q.1::π)=some q.2
 frame: ∀id',Id.under π id'=false->Id.is sz id'=false->Id.is mt id'=false->Id.is df id'=false->g.get id'=h.get id'
def G6{sz mt:Abs.Id}(h:ZW π l sz mt df)(n:Nat):ZW (n::π) l sz mt df:={h with ul:=AJ h.ul n,us:=AJ h.us n,um:=AJ h.um n,ud:=AJ h.ud n}
def X5(i j:Nat)(π:List Nat)(h:i≠j):Id.under (i::π) (0::j::π)=false:=Ft fun a=>by
 exact zAg
variable{ρ:List Nat}
def Nk{p:AX}{sz mt:Abs.Id}{st:Bq}(h:KT g p l sz mt df st)(b:ZW ρ l sz mt df):KT (gc ρ g) p l sz mt df st:=
 ⟨by rw[An _ _ _ b.ul];exact h.box,fun a=>by rw[An _ _ _ b.us];exact h.co a,fun a=>by rw[An _ _ _ b.um];exact h.met a,fun a=>by rw[An _ _ _ b.ud];exact h.defs a⟩
variable{L:List (Nat×Abs.Obj)}{j:Nat}{o:Abs.Obj}
def JO{p:AX}{sz mt:Abs.Id}{st:Bq}(a:rp p l sz mt df h π L st g)(c:ZW π l sz mt df)(n: ∀q∈L,j≠q.1):rp p l sz mt df h π L st (g.put (0::j::π) o):=by
 refine⟨⟨?_,fun b=>?_,fun b=>?_,fun b=>?_⟩,fun q i=>?_,fun r f h2 k m=>?_⟩
 .rw[get_put,AI c.ul];exact a.looks.box
 .rw[get_put,AI c.us];exact a.looks.co b
 .rw[get_put,AI c.um];exact a.looks.met b
 .rw[get_put,AI c.ud];exact a.looks.defs b
 .have:Id.is (0::j::π) (0::q.1::π)=false:=AF fun e=>n q i zFF;rw[get_put,this];exact a.node q i
 .rw[get_put,AI f];exact a.frame r f h2 k m
variable{st':Bq}{g':AD}
def Qz{p:AX}{sz mt:Abs.Id}{st:Bq}(i:rp p l sz mt df h π L st g)(b:ZW π l sz mt df)(o: ∀q∈L,j≠q.1)(r:KT g' p l sz mt df st')(k: ∀a,Id.under (j::π) a=false->Id.is sz a=false->Id.is mt a=false->Id.is df a=false->g'.get a=g.get a):rp p l sz mt df h π L st' (gc (j::π) g'):=by
 refine⟨Nk r (G6 b j),fun q m=>?_,fun a c h2 e f=>?_⟩
 .have n:=X5 j q.1 π (o q m);rw[An _ _ _ n,k _ n (Aj b.us _ _) (Aj b.um _ _) (Aj b.ud _ _)];exact i.node q m
 .rw[An _ _ _ (AJ c j),k _ (AJ c j) h2 e f];exact i.frame a c h2 e f
def IJ{p:AX}{st:Bq}(h:st.fit p)(a:lV st st'):st'.fit p:=⟨a.co.trans h.co,a.met.trans h.met,a.defs.trans h.defs⟩
def tQ(x:B3)(size:Int):BX kT 212 [.agg [nI x.op,nI x.n,.d (.bv (x.kids.map BT))],nI size] []=Ch Ih (x.ok size):=by rw[ABt,Vm]
def QM(d:CJ):BX kT 213 [.agg [.d (.bv (d.be.map BD)),.d (.bv (d.ac.map Ay)),.d (.bv (d.rules.map BC))]] []=Ch Ih d.okG:=by rw[z1,Vm]
def P6{p:AX}{k:Nat}{st:Bq}{x:C8}(a:0<=n)(b:st.met[n.toNat]? =some false)(c:p.nodes[n.toNat]? =some x):Bj p (k+1) n size st=if DG p size x=true then match TG p size x (st.meet n size)with
 |some (l,st2)=>Cq (Bj p k) l st2
 |none=>none
 else none:=by
 rw[Bj,D4 ⟨a,b⟩,c];all_goals rfl
def X7{p:AX}{k:Nat}{st:Bq}{x:C8}(b:0<=n)(c:st.met[n.toNat]? =some false)(e:p.nodes[n.toNat]? =some x)(a:DG p size x=false):Bj p (k+1) n size st=none:=by
 rw[P6 b c e,a,Ci AG]
def Nu(p:AX)(s:p.nodes.length<=60)(n size:Int)(st:Bq)(h:AD)(π:List Nat)(l sz mt df:Abs.Id)(g:st.fit p)(i:ZW π l sz mt df)(j:KT h p l sz mt df st)(a:0<=n->n<p.nodes.length->st.met[n.toNat]? =some true):
 ∃o h',kT (.fn 201) [.ptr l 0,nI n,nI size] h π true none=.ok (o,h')/\Th p l sz mt df h π none o h':=by
 obtain⟨ul,us,I,H,y,x,w,D,F,C,A,B,z,dl,ds,r⟩:=i;obtain⟨q,f,e,c⟩:=j;have f:=AB f;have c:=AB c;have a:=AB a;have t:=g.met;refine BR Tryz.func201 ?_;by_cases k:0<=n
 .by_cases m:n<p.nodes.length
  .have b:p.nodes.length≠0:=AA;have u:n.toNat<p.nodes.length:=AA;have v:=a.1 k m;have e:=e b;rw[Bk b,Bk b]at q;refine aw ?_;exact Eo rfl
  .refine aw ?_;exact Eo rfl
 .refine aw ?_;exact Eo rfl
def kq(p:AX)(bl:p.nodes.length<=60)(d1:p.defs.length<=12): ∀(k:Nat) (n size:Int) (st:Bq) (h:AD) (π:List Nat) (l sz mt df:Abs.Id),FE st.met<=k->st.fit p->0<=size->size+70*k<=5000->ZW π l sz mt df->KT h p l sz mt df st->
 ∃o h',kT (.fn 201) [.ptr l 0,nI n,nI size] h π true none=.ok (o,h')/\Th p l sz mt df h π (Bj p k n size st) o h':=by
 intro k;induction k with
 |zero=>
  intro n size st h π l sz mt df c5 B b' c4 bs bv;refine Nu p bl n size st h π l sz mt df B bs bv fun bk h2=>?_;obtain⟨t,W⟩:=get_some (l:=st.met) (i:=n.toNat) zFM;cases t with
  |true=>exact W
  |false=>have:=GW W;omega
 |succ k J=>
 intro n size st h π l sz mt df c5 B b' c4 bs bv;have v:=AB bs;obtain⟨ul,us,c1,c0,em,el,ej,cs,cx,dm,cp,en,dd,dl,ds,c2⟩:=bs;have N:=AB bv;obtain⟨S,a0,az,b1⟩:=bv;have Y:=AI ul;have Z:=AI us;have ac:=AI c1;have ad:=AI c0;have a5:=Aj ul;have a6:=Aj us;have a7:=Aj c1;have a1:=Aj c0;by_cases bx:0<=n
 .by_cases c7:n<p.nodes.length
  .have av:p.nodes.length≠0:=AA;have c6:n.toNat<p.nodes.length:=AA;obtain⟨x,P⟩:=get_some c6;obtain⟨t,W⟩:=get_some (l:=st.met) (i:=n.toNat) zFM;obtain⟨s0,ea⟩:=get_some (l:=st.co) (i:=n.toNat) (by rw[B.co];omega);have az:=az av;have a0:=a0 av;rw[Bk av,Bk av]at S;have J:=AB J;have b1:=AB b1;have d8:=B.co;have d7:=B.met;cases t with
   |true=>
    have e:Bj p (k+1) n size st=none:=by
     rw[Bj,Ci];rw[W];simp
    rw[e];exact Nu p bl n size st h π l sz mt df B v.1 N.1 fun _ _=>W
   |false=>
    refine BR Tryz.func201 ?_;have V:=AH.mk (P6 (p:=p) (k:=k) (size:=size) bx W P);have L:=AH.mk (X7 (p:=p) (k:=k) (size:=size) bx W P);obtain⟨C,F,K,R⟩:=x;have a2:AH (∀o o',rp p l sz mt df h π [(46,o')] (st.meet n size) ((((h.put mt (.em 1 ((List.map DF st.met).set n.toNat [.bool true]))).put sz (.em 1 ((List.map AL st.co).set n.toNat [.int .i64 size]))).put (0::46::π) o).put (0::46::π) o')):=.mk fun o o'=>by
     refine⟨⟨?_,fun _=>?_,fun _=>?_,fun bo=>?_⟩,?_,fun c' bk h2 b2 cc=>?_⟩
     .rw[Bk av,Bk av];simp only[get_put,Y,cs,cp,AM,FN,S]
     .simp only[get_put,Z,is_self,AM,FN,F6,Bq.meet,JP];rfl
     .simp only[get_put,ac,cx,is_self,AM,FN,F6,Bq.meet,JP];rfl
     .simp only[get_put,ad,dm,dd,AM,FN,Bq.meet,b1.1 bo]
     .intro q a3;cases Ac.1 a3;simp only[get_put,is_self,F6]
     .simp only[get_put,AI bk,h2,b2,AM,FN]
    by_cases de:C=4
    .subst de;by_cases e5:F<0
     ·exact zAo
     by_cases e6:(p.defs.length:Int)<=F
     ·exact zAo
     have e7:0<=F:=AA;have e8:F<p.defs.length:=AA;have b3:p.defs.length≠0:=AA;have c9:F.toNat<p.defs.length:=AA;obtain⟨d,bo⟩:=get_some c9;obtain⟨t,cn⟩:=get_some (l:=st.defs) (i:=F.toNat) (by rw[B.defs];omega);have d6:=B.defs;have ek:=b1.1 b3;rw[Bk b3]at S;have a':TG p size ⟨4,F,K,R⟩ (st.meet n size)=if st.defs[F.toNat]? =some false/\d.okG=true then some (DS d (size+d.own) d.rules++(Cz (size+d.own) d.ac++Ct (size+d.own) R),{st.meet n size with defs:=st.defs.set F.toNat true})else none:=by
      rw[TG,D4 rfl,bo];rfl
     have a':=AB a';have ch:AH (∀o o' b,rp p l sz mt df h π [(131,o'),(46,b)] {st.meet n size with defs:=st.defs.set F.toNat true} (((((((h.put mt (.em 1 ((List.map DF st.met).set n.toNat [.bool true]))).put sz (.em 1 ((List.map AL st.co).set n.toNat [.int .i64 size]))).put (0::46::π) (.box [nI 0,nI 0,.d7,.d7])).put (0::46::π) b).put df (.em 1 ((List.map DF st.defs).set F.toNat [.bool true]))).put (0::131::π) o).put (0::131::π) o')):=.mk fun o o' b=>by
      refine⟨⟨?_,fun _=>?_,fun _=>?_,fun bo=>?_⟩,?_,fun c' bk h2 b2 cc=>?_⟩
      .rw[Bk av,Bk av,Bk b3];simp only[get_put,Y,cs,cp,dl,AM,FN,S]
      .simp only[get_put,Z,ds,is_self,AM,FN,F6,Bq.meet,JP];rfl
      .simp only[get_put,ac,cx,c2,is_self,AM,FN,F6,Bq.meet,JP];rfl
      .simp only[get_put,ad,is_self,AM,FN,F6,Bq.meet,JP];rfl
      .simp only[D0,Gc,Lt,HE,forall_eq];simp only[go_sem,a1]
      .simp only[get_put,AI bk,h2,b2,cc,AM,FN]
     by_cases b5:t=false/\d.okG=true
     .obtain⟨rfl,b4⟩:=b5;have ai:=VH b4;have dn:=ai.be;have dq:=ai.ac;have dr:=ai.rules;have d':=Po ai;have d9:=ze d AA AA;have ai:=AB ai
      (repeat' (first|simp only[go_sem, *,JE,N5,QM]|(refine sx ?_ ?_<;>intro ag)|refine sy AA fun x P ar=>?_|simp(disch:=first|assumption|omega) only[AR]))
      all_goals try(exfalso;omega)
      all_goals try(exact Eo (L.1 zEh))
      rw[Dj]
      (repeat' (first|simp only[go_sem, *,QM]|(refine sx ?_ ?_<;>intro ag)|refine sy AA fun x P ar=>?_|simp(disch:=first|assumption|omega) only[AR]))
      refine Aq d.rules _ (fun m i a=>⟨[(0,.ptr l 0),(2,nI (size+(d.own:Int))),(6,.ptr (0::46::π) 0),(11,.ptr (0::131::π) 0),(190,.d (.bv (d.rules.map BC))),(191,nI m),(192,nI i)],a.1.1,a.2+144,[]⟩)
       (Inv:=fun i X a=>rp p l sz mt df h π [(131,.box [.d (.bv (d.be.map BD)),.d (.bv (d.ac.map Ay)),.d (.bv (d.rules.map BC))]),(46,.box [nI 4,nI F,.d (.bv (K.map BT)),.d (.bv (R.map AL))])] a.1.2 a.1.1/\a.1.2.fit p/\FE a.1.2.met<=k/\AH (Bj p (k+1) n size st=Cq (Bj p k) (DS d (size+d.own) X++(Cz (size+d.own) d.ac++Ct (size+d.own) R)) a.1.2)) (b0:=((_,{st.meet n size with defs:=st.defs.set F.toNat true}),_)) ?_ ⟨ch.1 _ _ _,?_,?_,⟨?_⟩⟩ ?_ ?_
      .rfl
      .have:=Qx B n size;exact⟨this.co,this.met,by simp[B.defs]⟩
      .have:=GW W;exact zDN
      .rw[V.1,D4,a'.1,D4 ⟨cn,b4⟩];have d0:((K.length:Int)=0):=Bw;have eb:K=[]:=BI AA;clear Y Z ac ad a5 a6 a7 a1 S az a0 V L J a2 ch ai a';grind [DG,Dp,Xc,FI]
      .rintro i r ⟨⟨g,z⟩,c⟩ bi H I ⟨f,u,w,j⟩ T;dsimp only at*;have U:=f.node _ (F8 ..);dsimp only at U;have bc:=Ps ai.1 (AS bi);have d3:=mC d r bc;have d4:=MN bc.2.2 r.eq;have d5:=bc.1;have bc:=AB bc;refine aw ?_;refine Cv (J.1 r.node (size+d.own+C1 d r.eq) z _ _ l sz mt df w u AA AA (G6 v.1 _) (JO (JO f v.1 ?_) v.1 ?_).looks) (fun b8 g1 A=>?_)
       .exact zAN
       .exact zAN
       cases s:Bj p k r.node (size+d.own+C1 d r.eq) z with
       |none=>
        obtain rfl:=A.ge s;clear A;refine aw ?_;refine Eo (j.1.trans ?_);simp only[DS,By,Cs,Cq,s]
       |some Q=>
        obtain⟨rfl,N,D⟩:=A.ret Q s;have D:=AB D;clear A;refine aw ?_;have M:=DC p _ _ _ _ _ s;refine T.1 ((_,Q),_) ⟨Qz (JO (JO f v.1 ?_) v.1 ?_) v.1 ?_ N D.1,IJ u M,IP M.less w,⟨?_⟩⟩
        .exact zAN
        .exact zAN
        .exact zAN
        .rw[j.1];simp only[DS,By,Cs,Cq,s]
      .rintro i ⟨⟨g,z⟩,c⟩ H I ⟨f,u,w,j⟩;dsimp only at*;have U:=f.node _ (F8 ..);have a4:=f.node _ (F0 _ (F8 ..));dsimp only at U a4;refine aw ?_;refine Aq d.ac _ (fun m i a=>⟨[(0,.ptr l 0),(2,nI (size+(d.own:Int))),(6,.ptr (0::46::π) 0),(207,.d (.bv (d.ac.map Ay))),(208,nI m),(209,nI i)],a.1.1,a.2+144,[]⟩)
        (Inv:=fun i X a=>rp p l sz mt df h π [(131,.box [.d (.bv (d.be.map BD)),.d (.bv (d.ac.map Ay)),.d (.bv (d.rules.map BC))]),(46,.box [nI 4,nI F,.d (.bv (K.map BT)),.d (.bv (R.map AL))])] a.1.2 a.1.1/\a.1.2.fit p/\FE a.1.2.met<=k/\AH (Bj p (k+1) n size st=Cq (Bj p k) (Cz (size+d.own) X++Ct (size+d.own) R) a.1.2)) (b0:=((g,z),_)) rfl ⟨f,u,w,⟨?_⟩⟩ ?_ ?_
       .exact j.1
       .clear f u w j U a4 i H I g z c;rintro i r ⟨⟨g,z⟩,c⟩ bi H I ⟨f,u,w,j⟩ T;dsimp only at*;refine aw ?_;refine Ad (J.1 r.node (size+d.own) z _ _ l sz mt df w u AA AA (G6 v.1 _) (JO (JO f v.1 ?_) v.1 ?_).looks) (fun b8 g1 A=>?_)
        .exact zAN
        .exact zAN
        cases s:Bj p k r.node (size+d.own) z with
        |none=>
         obtain rfl:=A.ge s;clear A;refine aw ?_;refine Eo (j.1.trans ?_);simp only[Cz,By,Cs,Cq,s]
        |some Q=>
         obtain⟨rfl,N,D⟩:=A.ret Q s;have D:=AB D;clear A;refine aw ?_;have M:=DC p _ _ _ _ _ s;refine T.1 ((_,Q),_) ⟨Qz (JO (JO f v.1 ?_) v.1 ?_) v.1 ?_ N D.1,IJ u M,IP M.less w,⟨?_⟩⟩
         .exact zAN
         .exact zAN
         .exact zAN
         .rw[j.1];simp only[Cz,By,Cs,Cq,s]
       .clear f u w j U a4 i H I g z c;rintro i ⟨⟨g,z⟩,c⟩ H I ⟨f,u,w,j⟩;dsimp only at*;have U:=f.node _ (F8 ..);have a4:=f.node _ (F0 _ (F8 ..));dsimp only at U a4;refine aw ?_;refine Aq R _ (fun m i a=>⟨[(0,.ptr l 0),(2,nI (size+(d.own:Int))),(220,.d (.bv (R.map AL))),(221,nI m),(222,nI i)],a.1.1,a.2+144,[]⟩)
         (Inv:=fun i X a=>rp p l sz mt df h π [(131,.box [.d (.bv (d.be.map BD)),.d (.bv (d.ac.map Ay)),.d (.bv (d.rules.map BC))]),(46,.box [nI 4,nI F,.d (.bv (K.map BT)),.d (.bv (R.map AL))])] a.1.2 a.1.1/\a.1.2.fit p/\FE a.1.2.met<=k/\AH (Bj p (k+1) n size st=Cq (Bj p k) (Ct (size+d.own) X) a.1.2)) (b0:=((g,z),_)) ?_ ⟨f,u,w,⟨?_⟩⟩ ?_ ?_
        .omega
        .exact j.1
        .clear f u w j U a4 i H I g z c;rintro i y ⟨⟨g,z⟩,c⟩ bi H I ⟨f,u,w,j⟩ T;dsimp only at*;refine aw ?_;refine Ad (J.1 y (size+d.own) z _ _ l sz mt df w u AA AA (G6 v.1 _) f.looks) (fun b8 g1 A=>?_);cases s:Bj p k y (size+d.own) z with
         |none=>
          obtain rfl:=A.ge s;clear A;refine aw ?_;refine Eo (j.1.trans ?_);simp only[Ct,By,Cs,Cq,s]
         |some Q=>
          obtain⟨rfl,N,D⟩:=A.ret Q s;have D:=AB D;clear A;refine aw ?_;have M:=DC p _ _ _ _ _ s;refine T.1 ((_,Q),_) ⟨Qz f v.1 ?_ N D.1,IJ u M,IP M.less w,⟨?_⟩⟩
          .exact zAN
          .rw[j.1];simp only[Ct,By,Cs,Cq,s]
        .clear f u w j U a4 i H I g z c;rintro i ⟨⟨g,z⟩,c⟩ H I ⟨f,u,w,j⟩;dsimp only at*;refine aw ?_;refine⟨fun st' O=>?_,fun O=>?_⟩
         .rw[j.1]at O;cases O;exact⟨rfl,f.looks,f.frame⟩
         .rw[j.1]at O;cases O
     .have b7:AH (Bj p (k+1) n size st=none):=by
       refine⟨?_⟩;rw[V.1,a'.1,cn];split
       .rw[Ci (by simpa using b5)]
       .rfl
      cases t
      .have b4:d.okG=false:=by simpa using b5
       (repeat' (first|simp only[go_sem, *,JE,N5,QM]|(refine sx ?_ ?_<;>intro ag)|refine sy AA fun x P ar=>?_|simp(disch:=first|assumption|omega) only[AR]))
       all_goals try(exfalso;omega)
       all_goals try(exact Eo b7.1)
       rw[Dj]
       (repeat' (first|simp only[go_sem, *,QM]|(refine sx ?_ ?_<;>intro ag)|refine sy AA fun x P ar=>?_|simp(disch:=first|assumption|omega) only[AR]))
       try exact Eo b7.1
      ·(repeat' (first|simp only[go_sem, *,JE,N5]|(refine sx ?_ ?_<;>intro ag)|refine sy AA fun x P ar=>?_|simp(disch:=first|assumption|omega) only[AR]))
       all_goals try(exfalso;omega)
       all_goals (exact Eo b7.1)
    have c8:C=1\/C=7\/C=3\/(C=2/\3<(K.length:Int))\/(C=2/\ ¬3<(K.length:Int))\/C=5\/C=6\/C=8\/(¬C=1/\ ¬C=7/\ ¬C=3/\ ¬C=2/\ ¬C=5/\ ¬C=6/\ ¬C=8):=AA;rcases c8 with rfl|rfl|rfl|⟨rfl,c3⟩|⟨rfl,c3⟩|rfl|rfl|rfl|⟨es,ex,e0,e1,e2,e3,e4⟩;all_goals ((repeat' (first|simp only[go_sem, *,JE,N5]|(refine sx ?_ ?_<;>intro ag)|refine sy AA fun x P ar=>?_|simp(disch:=first|assumption|omega) only[AR])))
    all_goals try(exfalso;omega)
    all_goals try(exact Eo (L.1 zEh))
    all_goals
     refine Aq K _ (fun m i a=>⟨[(0,.ptr l 0),(2,nI size),(6,.ptr (0::46::π) 0),(154,.d (.bv (K.map BT))),(155,nI m),(156,nI i)],a.1,a.2+60,[]⟩)
      (Inv:=fun i X a=>rp p l sz mt df h π _ (st.meet n size) a.1/\AH (K.all (B3.ok size)=X.all (B3.ok size))) (b0:=(_,_)) ?_ ⟨a2.1 _ _,⟨rfl⟩⟩ ?_ ?_
     .omega
     .rintro i y ⟨g,c⟩ bi H I ⟨f,be⟩ T;dsimp only at*;try(exfalso;omega)
      all_goals ((repeat' (first|simp only[go_sem, *,tQ]|(refine sx ?_ ?_<;>intro ag)|refine sy AA fun x P ar=>?_|simp(disch:=first|assumption|omega) only[AR])))
      all_goals first
      |exact Eo (L.1 (by simp only[DG,be.1,D9, *,Dl,Gt]))
      |(refine T.1 (_,_) ⟨JO (JO f v.1 ?_) v.1 ?_,⟨?_⟩⟩
        .intro q a3;cases Ac.1 a3;dsimp only;omega
        .intro q a3;cases Ac.1 a3;dsimp only;omega
        .rw[be.1,D9];simp only[*,FD])
     .rintro i ⟨g,c⟩ H I ⟨f,be⟩;dsimp only at*;have cl:=f.node _ (F8 ..);dsimp only at cl;refine aw ?_;refine Aq R _ (fun m i a=>⟨[(0,.ptr l 0),(2,nI size),(220,.d (.bv (R.map AL))),(221,nI m),(222,nI i)],a.1.1,a.2+60,[]⟩)
       (Inv:=fun i X a=>rp p l sz mt df h π _ a.1.2 a.1.1/\a.1.2.fit p/\FE a.1.2.met<=k/\AH (Bj p (k+1) n size st=Cq (Bj p k) (Ct size X) a.1.2)) (b0:=((_,st.meet n size),_)) ?_ ⟨f,Qx B _ _,?_,⟨?_⟩⟩ ?_ ?_
      .omega
      .have:=GW W;exact zDN
      .rw[V.1,D4,TG]
       .rfl
       .have d2:K.all (B3.ok size)=true:=by rw[be.1];rfl
        clear Y Z ac ad a5 a6 a7 a1 S az a0 V L J a2 f be cl;grind [DG,Dp,Xc,FI]
      .rintro i y ⟨⟨g,z⟩,c⟩ bi H I ⟨f,u,w,j⟩ T;dsimp only at*;try(exfalso;omega)
       all_goals (refine aw ?_)
       all_goals
       refine Ad (J.1 y size z g _ l sz mt df w u b' AA (G6 v.1 _) f.looks) (fun b8 g1 A=>?_);cases s:Bj p k y size z with
       |none=>
        obtain rfl:=A.ge s;clear A;refine aw ?_;refine Eo (j.1.trans ?_);simp only[Ct,By,Cq,s]
       |some Q=>
        obtain⟨rfl,N,D⟩:=A.ret Q s;have D:=AB D;clear A;refine aw ?_;have M:=DC p _ _ _ _ _ s;refine T.1 ((_,Q),_) ⟨Qz f v.1 ?_ N D.1,IJ u M,IP M.less w,⟨?_⟩⟩
        .intro q a3;cases Ac.1 a3;dsimp only;omega
        .rw[j.1];simp only[Ct,By,Cq,s]
      .rintro i ⟨⟨g,z⟩,c⟩ H I ⟨f,u,w,j⟩;dsimp only at*;refine aw ?_;refine⟨fun st' O=>?_,fun O=>?_⟩
       .rw[j.1]at O;cases O;exact⟨rfl,f.looks,f.frame⟩
       .rw[j.1]at O;cases O
  .have e:Bj p (k+1) n size st=none:=by
    rw[Bj];split
    .rename_i b6;have:=AK b6.2;rw[B.met]at this;omega
    .rfl
   rw[e];exact Nu p bl n size st h π l sz mt df B v.1 N.1 fun _ h=>absurd h c7
 .have e:Bj p (k+1) n size st=none:=by
   rw[Bj,Ci fun b6=>bx b6.1]
  rw[e];exact Nu p bl n size st h π l sz mt df B v.1 N.1 fun h=>absurd h bx
def V8(x:Bool):List Bool->Int->Int
 |[],_=> -1
 |y::l,i=>if (x==y)=true then i else V8 x l (i+1)
def br(v:Bool): ∀(l:List Bool) (i:Int),0<=i->(0<=V8 v l i↔v∈l)
 |[],i,h=>by simp[V8]
 |y::l,i,h=>by
  rw[V8];split
  .rename_i e;have:v=y:=by simpa using e
   simp[this,h]
  .rename_i e;have: ¬v=y:=by simpa using e
   rw[br v l (i+1) AA];simp[this]
@[go_sem] theorem AC7(l:List Bool)(v:Bool)(h:l.length<=1000000):BX kT 216 [.d (.bv (l.map DF)),.d (.bool v)] []=.ok (.ret (nI (V8 v l 0)),[]):=by
  refine Az Tryz.func216 ?_;refine aw ?_;refine Ah l (S:=fun i (n:Unit)=>⟨[(0,.d (.bv (l.map DF))),(1,.d (.bool v)),(7,nI l.length),(8,nI i)],[],0,[]⟩) (Inv:=fun i f _=>AH (V8 v l 0=V8 v f i)) (b0:=()) ⟨rfl⟩ ?_ ?_
  .rintro i y ⟨⟩ m c e a b
   (repeat' (first|simp only[go_sem, *]|(refine sx ?_ ?_<;>intro g)|refine sy AA fun x k j=>?_|simp(disch:=first|assumption|omega) only[AR]))
   .rw[a.1,V8,D4 Bw]
   .refine b.1 () ⟨?_⟩;rw[a.1,V8,Ci zEo];rfl
  .rintro i ⟨⟩ c e a;refine aw ?_;rw[a.1,V8]
@[go_sem] theorem MU(l:List Bool)(v:Bool)(a:l.length<=1000000):BX kT 202 [.d (.bv (l.map DF)),.d (.bool v)] []=.ok (.ret (.d (.bool (decide (v∈l)))),[]):=by
  have h:=br v l 0 AA;refine Az Tryz.func202 ?_;exact au
def Ff(g:G)(id:Abs.Id)(n:Nat)(h:0<n)(a:n<=1073741824):Hb g id n {kind:=TK.int,size:=1,agg:=false,str:=false,zero:=[nI 0],flds:=[],elem:=0,key:=0,mix:=false}=some ⟨.f8 (1::id) 0 n,[(1::id,.em 1 ((List.replicate n (0:Int)).map AL))]⟩:=by
 have e:(List.replicate n (0:Int)).map AL=List.replicate n [.int .i64 0]:=by rw[Ol];rfl
 rw[e];exact Rz (zs:=[.int .i64 0]) h zEt rfl rfl AZ rfl
def Hv(g:G)(id:Abs.Id)(n:Nat)(h:0<n)(a:n<=1073741824):Hb g id n {kind:=TK.bool,size:=1,agg:=false,str:=false,zero:=[.d (.bool false)],flds:=[],elem:=0,key:=0,mix:=false}=some ⟨.f8 (1::id) 0 n,[(1::id,.em 1 ((List.replicate n false).map DF))]⟩:=by
 have e:(List.replicate n false).map DF=List.replicate n [.bool false]:=by rw[Ol];rfl
 rw[e];exact Rz (zs:=[.bool false]) h zEt rfl rfl AZ rfl
def DT(i t j:Nat)(π:List Nat)(h:i≠j):Id.under (i::π) (t::j::π)=false:=Ft fun a=>by
 exact zAg
def J7(l:List Bool):l.all id=true↔ ¬false∈l:=by
 induction l with
 |nil=>simp
 |cons b l a=>cases b<;>simp
def Qs{p:AX}{st:Bq}(b:p.small=true)(a:MZ p.free=true)(c:Bj p (p.nodes.length+1) p.main p.free.length (Bq.init p)=some st):looks p=if (¬false∈st.met)/\(¬false∈st.defs)then some st else none:=by
 unfold looks;rw[D4 ⟨b,a⟩,c];simp only[J7]
def Ju{id:Abs.Id}{n:Nat}(h:n=0):slv id n=.emp:=by rw[slv,D4 h]
@[go_sem] theorem yB(v:Bool):BX kT 202 [.d (.bv []),.d (.bool v)] []=.ok (.ret (.d (.bool false)),[]):=by
  have:=MU [] v AG;simpa using this
structure rl(p:AX)(π:List Nat)(r:A8×AD):Prop where
 ge:looks p=none->r=(.ge Ih,[])
 ret: ∀st,looks p=some st-> ∃h,r=(.ret (.ptr (0::16::π) 0),h)/\KT h p (0::16::π) (1::6::π) (1::10::π) (1::14::π) st/\ ∀id',Id.under π id'=false->h.get id'=none
def z8(p:AX)(P: ∀s∈p.free,s.size<=maxLen)(k:Nat)(ρ:List Nat): ∃r:A8×AD,BX kT 190 [.agg [.d (.bv (p.free.map Br)),.d (.bv (p.nodes.map Bc)),.d (.bv (p.defs.map B4)),nI p.main]] (k::ρ)=.ok r/\rl p (k::ρ) r:=by
 have P:=AB P;by_cases u:p.small=true
 .refine Lh Tryz.func190 ?_;have Y:=AB u;simp only[AX.small,AP,Ap]at u;obtain⟨ag,ai,ar⟩:=u;have ag:(p.free.length:Int)<=12:=AA;have ai:(p.nodes.length:Int)<=60:=AA;have ar:(p.defs.length:Int)<=12:=AA;refine aw ?_;refine Aq p.free _ (S:=fun m i (bi:Unit)=>⟨[(1,.ptr (0::0::k::ρ) 0),(24,.d (.bv (p.free.map Br))),(25,nI m),(26,nI i)],[(0::0::k::ρ,.box [.d (.bv (p.free.map Br)),.d (.bv (p.nodes.map Bc)),.d (.bv (p.defs.map B4)),nI p.main])],1,[]⟩)
   (Inv:=fun i a5 _=>AH (MZ p.free=Jz (if i=0 then none else p.free[i-1]?) a5)) (b0:=()) rfl ⟨rfl⟩ ?_ ?_
  .rintro i y ⟨⟩ Z a1 a2 q W;have a3:=P.1 y (AS Z);have bc:=sD y a3;have N:AH (MZ p.free=false->looks p=none):=.mk fun az=>by
    rw[looks,Ci (by rw[az];simp)]
   rcases i with _|j
   .rw[D4 rfl]at q;have a':(0:Int)<p.free.length:=AA
    (repeat' (first|simp only[go_sem, *]|(refine sx ?_ ?_<;>intro D)|refine sy AA fun x J H=>?_|simp(disch:=first|assumption|omega) only[AR]))
    all_goals first
    |(exact⟨fun _=>rfl,fun st a=>by rw[N.1 (by rw[q.1,Jz];simp only[*,Dl])]at a;cases a⟩)
    |(refine W.1 () ⟨?_⟩
      rw[q.1,Jz,Ci AA];simp only[*,FD];try rfl)
   .obtain⟨b,av⟩:=get_some (l:=p.free) (i:=j) AA;rw[Ci AA,RC,av]at q;have w:IntKind.i64.wrap (((j+1:Nat):Int)-1)=(j:Int):=by rw[wrap_id AA AA];omega
    have bk: ¬((j+1:Nat):Int)=0:=AA
    (repeat' (first|simp only[go_sem, *]|(refine sx ?_ ?_<;>intro D)|refine sy AA fun x J H=>?_|simp(disch:=first|assumption|omega) only[AR]))
    .refine W.1 () ⟨?_⟩;rw[q.1,Jz,Ci AA,RC,Z];simp only[dv, *,FD]
    .exact⟨fun _=>rfl,fun st a=>by rw[N.1 (by rw[q.1,Jz];simp only[dv, *,Dl,Gt])]at a;cases a⟩
    .exact⟨fun _=>rfl,fun st a=>by rw[N.1 (by rw[q.1,Jz];simp only[*,Dl])]at a;cases a⟩
  .rintro i ⟨⟩ a1 a2 q;have X:AH (MZ p.free=true):=⟨q.1⟩;clear q;by_cases f:p.nodes.length=0
   .have e:looks p=none:=by
     unfold looks;split
     .have:Bj p (p.nodes.length+1) p.main p.free.length (Bq.init p)=none:=by
       rw[Bj,Ci];intro a0;have:=AK a0.2;simp[Bq.init]at this;omega
      rw[this]
     .rfl
    by_cases v:p.defs.length=0;all_goals
     (repeat' (first|simp only[go_sem, *]|(refine sx ?_ ?_<;>intro D)|refine sy AA fun x J H=>?_|simp(disch:=first|assumption|omega) only[AR,Ff,Hv]))
     refine Ad (Nu p AA p.main p.free.length (Bq.init p) _ _ (0::16::k::ρ) (1::6::k::ρ) (1::10::k::ρ) (1::14::k::ρ) ⟨?_,?_,?_⟩ ?_ ⟨?_,fun h=>absurd f h,fun h=>absurd f h,fun _=>?_⟩ ?_) (fun ad g1 g=>?_)
     .simp[Bq.init]
     .simp[Bq.init]
     .simp[Bq.init]
     .exact zAk
     .simp only[slv,f,v,FN,F6];simp only[go_sem]
     .first|(exact absurd v ‹_›)|simp only[go_sem,Bq.init]
     .omega
     obtain rfl:=g.ge rfl;clear g;refine aw ?_;exact⟨fun _=>rfl,fun st a=>by rw[e]at a;cases a⟩
   .by_cases v:p.defs.length=0
    ·(repeat' (first|simp only[go_sem, *]|(refine sx ?_ ?_<;>intro D)|refine sy AA fun x J H=>?_|simp(disch:=first|assumption|omega) only[AR,Ff,Hv]))
     refine Ad (kq p AA AA (p.nodes.length+1) p.main p.free.length (Bq.init p) _ _ (0::16::k::ρ) (1::6::k::ρ) (1::10::k::ρ) (1::14::k::ρ) ?_ ⟨?_,?_,?_⟩ ?_ ?_ ?_ ⟨?_,fun _=>?_,fun _=>?_,fun _=>?_⟩) (fun ad g1 g=>?_)
     .exact zBl
     .simp[Bq.init]
     .simp[Bq.init]
     .simp[Bq.init]
     .omega
     .omega
     .exact zAk
     .simp only[slv,f,v,FN,F6];simp only[go_sem]
     .exact zCT
     .exact zCT
     .exact absurd v ‹_›
     cases n:Bj p (p.nodes.length+1) p.main p.free.length (Bq.init p)with
     |none=>
      exact zBi
     |some st=>
      obtain⟨rfl,L,F⟩:=g.ret st n;clear g;have F:=AB F;have c: ∃x,looks p=x:=⟨_,rfl⟩;obtain⟨x,c⟩:=c;have c:=AB c;have C:=Nk (ρ:=24::k::ρ) L zEX;have C:=AB C;obtain⟨b1,A,B,M⟩:=L;have A:=A f;have B:=B f;rw[Bk f,Bk f,Ju v]at b1;have K:=DC p _ _ _ _ _ n;have R:st.met.length=p.nodes.length:=by rw[K.met];simp[Bq.init]
      have ac:st.defs.length=p.defs.length:=by rw[K.defs];simp[Bq.init]
      have o: ∀(t j:Nat),24≠j->(gc (24::k::ρ) g1).get (t::j::k::ρ)=g1.get (t::j::k::ρ):=fun t j O=>An _ _ _ (DT _ _ _ _ O);have T:=(o 0 16 AZ).trans b1;have U:=(o 1 6 AZ).trans A;have V:=(o 1 10 AZ).trans B;clear o;have a6:List.take p.nodes.length (List.map DF st.met)=List.map DF st.met:=Bi (by simp[R]);have a7:st.defs=[]:=BI AA
      (repeat' (first|simp only[go_sem, *,Es,T,U,V]|(refine sx ?_ ?_<;>intro D)|refine sy AA fun x J H=>?_|simp(disch:=first|assumption|omega) only[AR,MU]))
      all_goals (have c:=c.1;subst c)
      all_goals (have c:=Qs Y.1 X.1 n)
      all_goals first
      |(refine⟨fun _=>rfl,fun st' a=>?_⟩
        rw[c,Ci zEo]at a;cases a)
      |(refine⟨fun a=>?_,fun st' a=>?_⟩
        .rw[c,D4 zEo]at a;cases a
        .rw[c,D4 zEo]at a;cases a;refine⟨_,rfl,C.1,fun Q I=>?_⟩;have z:=AI I;rw[An _ _ _ (AJ I _),F.1 Q (AJ I _) (z _ _) (z _ _) (z _ _)];simp only[go_sem,z,AM])
    ·(repeat' (first|simp only[go_sem, *]|(refine sx ?_ ?_<;>intro D)|refine sy AA fun x J H=>?_|simp(disch:=first|assumption|omega) only[AR,Ff,Hv]))
     refine Ad (kq p AA AA (p.nodes.length+1) p.main p.free.length (Bq.init p) _ _ (0::16::k::ρ) (1::6::k::ρ) (1::10::k::ρ) (1::14::k::ρ) ?_ ⟨?_,?_,?_⟩ ?_ ?_ ?_ ⟨?_,fun _=>?_,fun _=>?_,fun _=>?_⟩) (fun ad g1 g=>?_)
     .exact zBl
     .simp[Bq.init]
     .simp[Bq.init]
     .simp[Bq.init]
     .omega
     .omega
     .exact zAk
     .simp only[slv,f,v,FN];simp only[go_sem]
     .exact zCT
     .exact zCT
     .exact zCT
     cases n:Bj p (p.nodes.length+1) p.main p.free.length (Bq.init p)with
     |none=>
      exact zBi
     |some st=>
      obtain⟨rfl,L,F⟩:=g.ret st n;clear g;have F:=AB F;have c: ∃x,looks p=x:=⟨_,rfl⟩;obtain⟨x,c⟩:=c;have c:=AB c;have C:=Nk (ρ:=24::k::ρ) L zEX;have C:=AB C;obtain⟨b1,A,B,M⟩:=L;have A:=A f;have B:=B f;have M:=M v;rw[Bk f,Bk f,Bk v]at b1;have K:=DC p _ _ _ _ _ n;have R:st.met.length=p.nodes.length:=by rw[K.met];simp[Bq.init]
      have ac:st.defs.length=p.defs.length:=by rw[K.defs];simp[Bq.init]
      have o: ∀(t j:Nat),24≠j->(gc (24::k::ρ) g1).get (t::j::k::ρ)=g1.get (t::j::k::ρ):=fun t j O=>An _ _ _ (DT _ _ _ _ O);have T:=(o 0 16 AZ).trans b1;have U:=(o 1 6 AZ).trans A;have V:=(o 1 10 AZ).trans B;have a4:=(o 1 14 AZ).trans M;clear o;have a6:List.take p.nodes.length (List.map DF st.met)=List.map DF st.met:=Bi (by simp[R]);have be:List.take p.defs.length (List.map DF st.defs)=List.map DF st.defs:=Bi (by simp[ac])
      (repeat' (first|simp only[go_sem, *,Es,T,U,V,a4]|(refine sx ?_ ?_<;>intro D)|refine sy AA fun x J H=>?_|simp(disch:=first|assumption|omega) only[AR,MU]))
      all_goals (have c:=c.1;subst c)
      all_goals (have c:=Qs Y.1 X.1 n)
      all_goals first
      |(refine⟨fun _=>rfl,fun st' a=>?_⟩
        rw[c,Ci zEo]at a;cases a)
      |(refine⟨fun a=>?_,fun st' a=>?_⟩
        .rw[c,D4 zEo]at a;cases a
        .rw[c,D4 zEo]at a;cases a;refine⟨_,rfl,C.1,fun Q I=>?_⟩;have z:=AI I;rw[An _ _ _ (AJ I _),F.1 Q (AJ I _) (z _ _) (z _ _) (z _ _)];simp only[go_sem,z,AM])
 .have e:looks p=none:=by
   unfold looks;rw[Ci fun h=>u h.1]
  have u: ¬(p.free.length<=12/\p.nodes.length<=60/\p.defs.length<=12):=by
   intro h;apply u;simp only[AX.small,AP,Ap];exact h
  have u:=AB u;refine Lh Tryz.func190 ?_
  (repeat' (first|simp only[go_sem, *]|(refine sx ?_ ?_<;>intro D)|refine sy AA fun x J H=>?_|simp(disch:=first|assumption|omega) only[AR]))
  all_goals first
  |exact⟨fun _=>rfl,fun st a=>by rw[e]at a;cases a⟩
  |(have u:=u.1;exfalso;omega)
def Jy(b:Bool):List Al:=[.int .i64 (if b then 1 else 0)]
theorem tL:Jy true=[.int .i64 1]:=rfl
theorem tK:Jy false=[.int .i64 0]:=rfl
attribute [go_sem] tL tK
def Ej(p:AX)(sz ow us:Abs.Id)(bad:Bool):Abs.Obj:=.box [.d (.bv (p.free.map Br)),.d (.bv (p.nodes.map Bc)),.d (.bv (p.defs.map B4)),nI p.main,slv sz p.nodes.length,slv ow p.nodes.length,slv us p.defs.length,.d (.bool bad)]
structure H6(h:AD)(p:AX)(l sz ow us:Abs.Id)(st:Bq)(bad:Bool):Prop where
 box:h.get l=some (Ej p sz ow us bad)
 co:bad=false->p.nodes.length≠0->h.get sz=some (.em 1 (st.co.map AL))
 met:bad=false->p.nodes.length≠0->h.get ow=some (.em 1 (st.met.map Jy))
 defs:bad=false->p.defs.length≠0->h.get us=some (.em 1 (st.defs.map Jy))
 ks:p.nodes.length≠0-> ∃A,h.get sz=some (.em 1 A)
 km:p.nodes.length≠0-> ∃A,h.get ow=some (.em 1 A)
 kd:p.defs.length≠0-> ∃A,h.get us=some (.em 1 A)
structure Ti(p:AX)(l sz ow us:Abs.Id)(h:AD)(π:List Nat)(r:Option Bq)(o:A8)(h':AD):Prop where
 ret:o=.ret (.ii [])
 frame: ∀id',Id.under π id'=false->Id.is l id'=false->Id.is sz id'=false->Id.is ow id'=false->Id.is us id'=false->h'.get id'=h.get id'
 yes: ∀st',r=some st'->H6 h' p l sz ow us st' false
 no:r=none-> ∀AO,H6 h' p l sz ow us AO true
structure ZX(p:AX)(l sz ow us:Abs.Id)(h:AD)(π:List Nat)(L:List (Nat×Abs.Obj))(st:Bq)(bad:Bool)(g:AD):Prop where
 looks:H6 g p l sz ow us st bad
 node: ∀q∈L,g.get (0::q.1::π)=some q.2
 frame: ∀id',Id.under π id'=false->Id.is l id'=false->Id.is sz id'=false->Id.is ow id'=false->Id.is us id'=false->g.get id'=h.get id'
variable{b:Bool}
def Iw{p:AX}{sz mt:Abs.Id}{st:Bq}(h:H6 g p l sz mt df st b)(c:ZW ρ l sz mt df):H6 (gc ρ g) p l sz mt df st b:=
 ⟨by rw[An _ _ _ c.ul];exact h.box,fun e a=>by rw[An _ _ _ c.us];exact h.co e a,fun e a=>by rw[An _ _ _ c.um];exact h.met e a,fun e a=>by rw[An _ _ _ c.ud];exact h.defs e a,fun a=>by rw[An _ _ _ c.us];exact h.ks a,fun a=>by rw[An _ _ _ c.um];exact h.km a,fun a=>by rw[An _ _ _ c.ud];exact h.kd a⟩
variable{b':Bool}
def lF{p:AX}{sz mt:Abs.Id}{st:Bq}(c:ZX p l sz mt df h π L st b g)(e:ZW π l sz mt df)(r:o=Ej p sz mt df b')(i:b'=false->b=false):ZX p l sz mt df h π L st b' (g.put l o):=by
 refine⟨⟨?_,fun f a=>?_,fun f a=>?_,fun f a=>?_,fun a=>?_,fun a=>?_,fun a=>?_⟩,fun q s=>?_,fun t k j h2 m n=>?_⟩
 .rw[get_put,is_self,r];rfl
 .rw[get_put,e.ls];exact c.looks.co (i f) a
 .rw[get_put,e.lm];exact c.looks.met (i f) a
 .rw[get_put,e.ld];exact c.looks.defs (i f) a
 .rw[get_put,e.ls];exact c.looks.ks a
 .rw[get_put,e.lm];exact c.looks.km a
 .rw[get_put,e.ld];exact c.looks.kd a
 .rw[get_put,Aj e.ul];exact c.node q s
 .rw[get_put,j];exact c.frame t k j h2 m n
def HT{p:AX}{sz mt:Abs.Id}{st:Bq}(m:ZX p l sz mt df h π L st b g)(c:ZW π l sz mt df)(s: ∀q∈L,j≠q.1)(t:H6 g' p l sz mt df st' b')(n: ∀a,Id.under (j::π) a=false->Id.is l a=false->Id.is sz a=false->Id.is mt a=false->Id.is df a=false->g'.get a=g.get a):ZX p l sz mt df h π L st' b' (gc (j::π) g'):=by
 refine⟨Iw t (G6 c j),fun q o=>?_,fun a e f h2 i k=>?_⟩
 .have r:=X5 j q.1 π (s q o);rw[An _ _ _ r,n _ r (Aj c.ul _ _) (Aj c.us _ _) (Aj c.um _ _) (Aj c.ud _ _)];exact m.node q o
 .rw[An _ _ _ (AJ e j),n _ (AJ e j) f h2 i k];exact m.frame a e f h2 i k
def ACh{p:AX}{sz mt:Abs.Id}{st:Bq}(b:ZX p l sz mt df h π L st false g)(c:ZW π l sz mt df)(i:Nat):ZX p l sz mt df h π L {st with defs:=st.defs.set i true} false (g.put df (.em 1 ((st.defs.map Jy).set i [.int .i64 1]))):=by
 refine⟨⟨?_,fun e a=>?_,fun e a=>?_,fun e a=>?_,fun a=>?_,fun a=>?_,fun a=>?_⟩,fun q n=>?_,fun o k j h2 m f=>?_⟩
 .rw[get_put,c.dl];exact b.looks.box
 .rw[get_put,c.ds];exact b.looks.co e a
 .rw[get_put,c.dm];exact b.looks.met e a
 .rw[get_put,is_self,JP];rfl
 .rw[get_put,c.ds];exact b.looks.ks a
 .rw[get_put,c.dm];exact b.looks.km a
 .rw[get_put,is_self];exact⟨_,rfl⟩
 .rw[get_put,Aj c.ud];exact b.node q n
 .rw[get_put,f];exact b.frame o k j h2 m f
def H6.any{p:AX}{sz b us:Abs.Id}{st AO:Bq}(a:H6 h p l sz b us st true):H6 h p l sz b us AO true:=⟨a.box,fun h=>zEa,fun h=>zEa,fun h=>zEa,a.ks,a.km,a.kd⟩
def Gy{p:AX}{sz mt:Abs.Id}{st:Bq}(a:ZX p l sz mt df h π L st b g)(k:ZW π l sz mt df)(m:o=Ej p sz mt df true)(n:r=none):Ti p l sz mt df h π r (.ret (.ii [])) (g.put l o):=by
 refine⟨rfl,fun q f c h2 i j=>?_,fun st' e=>?_,fun _ AO=>?_⟩
 .rw[get_put,c];exact a.frame q f c h2 i j
 .rw[n]at e;cases e
 .exact(lF (b':=true) {a with looks:={a.looks with co:=a.looks.co,met:=a.looks.met,defs:=a.looks.defs}} k m AG).looks.any
def HA{p:AX}{sz mt:Abs.Id}{st:Bq}(a:ZX p l sz mt df h π L st true g)(b:r=none):Ti p l sz mt df h π r (.ret (.ii [])) g:=by
 refine⟨rfl,a.frame,fun st' e=>?_,fun _ AO=>a.looks.any⟩;rw[b]at e;cases e
def SI{p:AX}{sz mt:Abs.Id}{st:Bq}(a:ZX p l sz mt df h π L st false g)(b:r=some st):Ti p l sz mt df h π r (.ret (.ii [])) g:=by
 refine⟨rfl,a.frame,fun st' e=>?_,fun e=>?_⟩
 .rw[b]at e;cases e;exact a.looks
 .rw[b]at e;cases e
def QT{f:Int->Int->Bq->Option Bq}: ∀{l m:List (Int×Int)} {st:Bq},Cq f (l++m) st=match Cq f l st with|some st'=>Cq f m st'|none=>none
 |[],m,st=>rfl
 |(n,s)::l,m,st=>by
  rw[Cs,Cq,Cq];cases f n s st with
  |none=>rfl
  |some a=>exact QT
def o2(p:AX)(k:Nat):Prop:= ∀(n size:Int) (st:Bq) (h:AD) (π:List Nat) (l sz ow us:Abs.Id),FE st.met<=k->st.fit p->0<=size->size+70*k<=5000->ZW π l sz ow us->H6 h p l sz ow us st false->
    ∃o h',kT (.fn 129) [.ptr l 0,nI n,nI size] h π true none=.ok (o,h')/\Ti p l sz ow us h π (Bj p k n size st) o h'
def ya(p:AX)(a2:p.nodes.length<=60)(a1:p.defs.length<=12)(k:Nat)(L:o2 p k)(d:CJ)(C:PB d)(size:Int)(st:Bq)(h:AD)(π:List Nat)(l sz B us:Abs.Id)(V:FE st.met<=k)(U:st.fit p)(P:0<=size)(a3:size+10+70*k<=5000)(K:ZW π l sz B us)(w:H6 h p l sz B us st false):
 ∃o h',kT (.fn 170) [.ptr l 0,.agg [.d (.bv (d.be.map BD)),.d (.bv (d.ac.map Ay)),.d (.bv (d.rules.map BC))],nI size] h π true none=.ok (o,h')/\Ti p l sz B us h π (Cq (Bj p k) (DS d size d.rules++Cz size d.ac) st) o h':=by
 have j:=AB K;have ad:=C.be;have ag:=C.ac;have ai:=C.rules;replace C:=AB C;replace L:=AB L;have W:=w.box;rw[Ej]at W;have ar:=AI K.ul;have av:=Aj K.ul;clear K;have T:AH (ZX p l sz B us h π [(0,.box [.d (.bv (d.be.map BD)),.d (.bv (d.ac.map Ay)),.d (.bv (d.rules.map BC))])] st false (h.put (0::0::π) (.box [.d (.bv (d.be.map BD)),.d (.bv (d.ac.map Ay)),.d (.bv (d.rules.map BC))]))):=by
  refine⟨⟨⟨?_,fun _ t=>?_,fun _ t=>?_,fun _ t=>?_,fun t=>?_,fun t=>?_,fun t=>?_⟩,?_,fun a7 Q P h2 az a0=>?_⟩⟩
  .rw[get_put,AI j.1.ul];exact w.box
  .rw[get_put,AI j.1.us];exact w.co rfl t
  .rw[get_put,AI j.1.um];exact w.met rfl t
  .rw[get_put,AI j.1.ud];exact w.defs rfl t
  .rw[get_put,AI j.1.us];exact w.ks t
  .rw[get_put,AI j.1.um];exact w.km t
  .rw[get_put,AI j.1.ud];exact w.kd t
  .intro q Y;cases Ac.1 Y;simp only[get_put,is_self,F6]
  .simp only[get_put,AI Q,AM,FN]
 replace w:=AB w;refine BR Tryz.func170 ?_;refine aw ?_;refine Ah d.rules (S:=fun i a=>⟨[(0,.ptr l 0),(2,nI size),(4,.ptr (0::0::π) 0),(6,nI i)],a.1.1,a.2+2,[]⟩)
  (Inv:=fun i M a=> ∃b,ZX p l sz B us h π [(0,.box [.d (.bv (d.be.map BD)),.d (.bv (d.ac.map Ay)),.d (.bv (d.rules.map BC))])] a.1.2 b a.1.1/\a.1.2.fit p/\FE a.1.2.met<=k/\AH (b=false->Cq (Bj p k) (DS d size d.rules++Cz size d.ac) st=Cq (Bj p k) (DS d size M++Cz size d.ac) a.1.2)/\AH (b=true->Cq (Bj p k) (DS d size d.rules++Cz size d.ac) st=none)) (b0:=((_,st),_)) ?_ ?_ ?_
 .exact⟨false,T.1,U,V,⟨fun _=>rfl⟩,⟨fun h=>zEa⟩⟩
 .rintro i r ⟨⟨g,s⟩,c⟩ O H I ⟨b,e,m,n,u,y⟩ D;dsimp only at*;have z:=e.node _ (F8 ..);have A:=e.looks.box;rw[Ej]at A;dsimp only at z;cases b
  .have J:=Ps C.1 (AS O);have a4:=AAH d r J;have a5:=MN J.2.2 r.eq;have a6:=J.1;replace J:=AB J;refine aw ?_;refine Cv (L.1 r.node (size+C1 d r.eq) s _ _ l sz B us n m AA AA (G6 j.1 _) e.looks) (fun ac g1 f=>?_);obtain rfl:=f.ret;replace f:=AB f;refine aw ?_;cases v:Bj p k r.node (size+C1 d r.eq) s with
   |none=>
    refine D.1 ((_,s),_) ⟨true,HT e j.1 ?_ (f.1.no v _) f.1.frame,m,n,⟨fun h=>zEa⟩,⟨fun _=>?_⟩⟩
    .exact zAN
    .rw[u.1 rfl];simp only[DS,By,Cs,Cq,v]
   |some N=>
    have F:=DC p _ _ _ _ _ v;refine D.1 ((_,N),_) ⟨false,HT e j.1 ?_ (f.1.yes _ v) f.1.frame,IJ m F,IP F.less n,⟨fun _=>?_⟩,⟨fun h=>zEa⟩⟩
    .exact zAN
    .rw[u.1 rfl];simp only[DS,By,Cs,Cq,v]
  .exact zA8
 .rintro i ⟨⟨g,s⟩,c⟩ H I ⟨b,e,m,n,u,y⟩;dsimp only at*;have z:=e.node _ (F8 ..);have A:=e.looks.box;rw[Ej]at A;dsimp only at z;cases b
  .refine aw ?_;refine Ah d.ac (S:=fun i a=>⟨[(0,.ptr l 0),(2,nI size),(4,.ptr (0::0::π) 0),(7,nI i)],a.1.1,a.2+2,[]⟩)
    (Inv:=fun i M a=> ∃b,ZX p l sz B us h π [(0,.box [.d (.bv (d.be.map BD)),.d (.bv (d.ac.map Ay)),.d (.bv (d.rules.map BC))])] a.1.2 b a.1.1/\a.1.2.fit p/\FE a.1.2.met<=k/\AH (b=false->Cq (Bj p k) (DS d size d.rules++Cz size d.ac) st=Cq (Bj p k) (Cz size M) a.1.2)/\AH (b=true->Cq (Bj p k) (DS d size d.rules++Cz size d.ac) st=none)) (b0:=((_,s),_)) ?_ ?_ ?_
   .exact⟨false,e,m,n,⟨fun _=>u.1 rfl⟩,⟨fun h=>zEa⟩⟩
   .clear e z A H I m n u y g c i s;rintro i r ⟨⟨g,s⟩,c⟩ O H I ⟨b,e,m,n,u,y⟩ D;dsimp only at*;have z:=e.node _ (F8 ..);have A:=e.looks.box;rw[Ej]at A;dsimp only at z;cases b
    .refine aw ?_;refine Ad (L.1 r.node size s _ _ l sz B us n m AA AA (G6 j.1 _) e.looks) (fun ac g1 f=>?_);obtain rfl:=f.ret;replace f:=AB f;refine aw ?_;cases v:Bj p k r.node size s with
     |none=>
      refine D.1 ((_,s),_) ⟨true,HT e j.1 ?_ (f.1.no v _) f.1.frame,m,n,⟨fun h=>zEa⟩,⟨fun _=>?_⟩⟩
      .exact zAN
      .rw[u.1 rfl];simp only[Cz,By,Cs,Cq,v]
     |some N=>
      have F:=DC p _ _ _ _ _ v;refine D.1 ((_,N),_) ⟨false,HT e j.1 ?_ (f.1.yes _ v) f.1.frame,IJ m F,IP F.less n,⟨fun _=>?_⟩,⟨fun h=>zEa⟩⟩
      .exact zAN
      .rw[u.1 rfl];simp only[Cz,By,Cs,Cq,v]
    .refine aw ?_;exact HA e (y.1 rfl)
   .clear e z A H I m n u y g c i s;rintro i ⟨⟨g,s⟩,c⟩ H I ⟨b,e,m,n,u,y⟩;dsimp only at*;have z:=e.node _ (F8 ..);have A:=e.looks.box;rw[Ej]at A;dsimp only at z;cases b
    .refine aw ?_;exact SI e (u.1 rfl)
    .refine aw ?_;exact HA e (y.1 rfl)
  .exact zA8
theorem KP(p:AX)(t:p.nodes.length<=60)(n size:Int)(st:Bq)(h:AD)(π:List Nat)(l sz a us:Abs.Id)(r:st.fit p)(j:ZW π l sz a us)(e:H6 h p l sz a us st false)(g:0<=n->n<p.nodes.length->st.met[n.toNat]? =some true):
 ∃o h',kT (.fn 129) [.ptr l 0,nI n,nI size] h π true none=.ok (o,h')/\Ti p l sz a us h π none o h':=by
 have c:ZX p l sz a us h π [] st false h:=⟨e,AG,fun _ _ _ _ _ _=>rfl⟩;have k: ∀b,Ej p sz a us b=.box [.d (.bv (p.free.map Br)),.d (.bv (p.nodes.map Bc)),.d (.bv (p.defs.map B4)),nI p.main,slv sz p.nodes.length,slv a p.nodes.length,slv us p.defs.length,.d (.bool b)]:=fun b=>rfl;have m:=e.box;rw[Ej]at m;have q:=e.met rfl;have s:=AI j.ul;replace e:=AB e;replace g:=AB g;replace c:=AB c;have i:=AB j;have u:=r.met;by_cases w:n<0
 .exact zDl
 .by_cases y:(p.nodes.length:Int)<=n
  .exact zDl
  .have f:p.nodes.length≠0:=AA;have x:0<=n:=AA;have v:n.toNat<p.nodes.length:=AA;have z:=g.1 AA AA;have q:=q f;rw[Bk f,Bk f]at m;have k:AH (Abs.Obj.box [.d (.bv (p.free.map Br)),.d (.bv (p.nodes.map Bc)),.d (.bv (p.defs.map B4)),nI p.main,.f8 sz 0 p.nodes.length,.f8 a 0 p.nodes.length,slv us p.defs.length,.d (.bool true)]=Ej p sz a us true):=⟨by rw[Ej,Bk f,Bk f]⟩;refine BR Tryz.func129 ?_;refine aw ?_;exact Gy c.1 i.1 k.1 rfl
def ca(p:AX)(bo:p.nodes.length<=60)(dn:p.defs.length<=12)(d0: ∀d∈p.defs,d.okG=true): ∀(k:Nat) (n size:Int) (st:Bq) (h:AD) (π:List Nat) (l sz u us:Abs.Id),FE st.met<=k->st.fit p->0<=size->size+70*k<=5000->ZW π l sz u us->H6 h p l sz u us st false->
 ∃o h',kT (.fn 129) [.ptr l 0,nI n,nI size] h π true none=.ok (o,h')/\Ti p l sz u us h π (Bj p k n size st) o h':=by
 intro k;induction k with
 |zero=>
  intro n size st h π l sz u us d2 B ch dq b6 b7;refine KP p bo n size st h π l sz u us B b6 b7 fun a5 h2=>?_;obtain⟨t,ai⟩:=get_some (l:=st.met) (i:=n.toNat) zFM;cases t with
  |true=>exact ai
  |false=>have:=GW ai;omega
 |succ k F=>
 intro n size st h π l sz u us d2 B ch dq b6 b7;have r:=AB b6;obtain⟨ul,df,de,dd,fi,fd,e8,d8,c',c9,d6,fk,c6,dl,ds,eb⟩:=b6;have cp:=AB b7;obtain⟨J,T,Q,b3,_,_,_⟩:=b7;have U:=AI ul;have K:=AI df;have M:=AI de;have N:=AI dd;have X:=Aj ul;have Y:=Aj df;have Z:=Aj de;have ac:=Aj dd;by_cases e0:n<0
 .have e:Bj p (k+1) n size st=none:=by
   rw[Bj,Ci fun c0=>AA]
  rw[e];exact KP p bo n size st h π l sz u us B r.1 cp.1 fun h=>AA
 .by_cases e1:(p.nodes.length:Int)<=n
  .have e:Bj p (k+1) n size st=none:=by
    rw[Bj];split
    .rename_i c0;have:=AK c0.2;rw[B.met]at this;omega
    .rfl
   rw[e];exact KP p bo n size st h π l sz u us B r.1 cp.1 fun _ h=>AA
  .have a3:p.nodes.length≠0:=AA;have c2:0<=n:=AA;have e2:n<p.nodes.length:=AA;have d3:n.toNat<p.nodes.length:=AA;obtain⟨x,a4⟩:=get_some d3;obtain⟨t,ai⟩:=get_some (l:=st.met) (i:=n.toNat) zFM;obtain⟨s0,e5⟩:=get_some (l:=st.co) (i:=n.toNat) (by rw[B.co];omega);have Q:=Q rfl a3;have T:=T rfl a3;rw[Ej,Bk a3,Bk a3]at J;replace F:=AB F;replace b3:=AB b3;have es:=B.co;have en:=B.met;cases t with
   |true=>
    have e:Bj p (k+1) n size st=none:=by
     rw[Bj,Ci];rw[ai];simp
    rw[e];exact KP p bo n size st h π l sz u us B r.1 cp.1 fun _ _=>ai
   |false=>
    refine BR Tryz.func129 ?_;have I:=AH.mk (P6 (p:=p) (k:=k) (size:=size) c2 ai a4);have A:=AH.mk (X7 (p:=p) (k:=k) (size:=size) c2 ai a4);obtain⟨D,z,a0,a1⟩:=x;have s:AH (∀b,Abs.Obj.box [.d (.bv (p.free.map Br)),.d (.bv (p.nodes.map Bc)),.d (.bv (p.defs.map B4)),nI p.main,.f8 sz 0 p.nodes.length,.f8 u 0 p.nodes.length,slv us p.defs.length,.d (.bool b)]=Ej p sz u us b):=.mk fun b=>by
     rw[Ej,Bk a3,Bk a3]
    have w:AH (∀o o',ZX p l sz u us h π [(48,o')] (st.meet n size) false ((((h.put u (.em 1 ((List.map Jy st.met).set n.toNat [.int .i64 1]))).put sz (.em 1 ((List.map AL st.co).set n.toNat [.int .i64 size]))).put (0::48::π) o).put (0::48::π) o')):=.mk fun o o'=>by
     refine⟨⟨?_,fun _ _=>?_,fun _ _=>?_,fun _ bk=>?_,fun _=>?_,fun _=>?_,fun bk=>?_⟩,?_,fun e7 a5 ch h2 dm el=>?_⟩
     .rw[<-s.1];simp only[get_put,U,d8,d6,AM,FN,J]
     .simp only[get_put,K,is_self,AM,FN,F6,Bq.meet,JP];rfl
     .simp only[get_put,M,c',is_self,AM,FN,F6,Bq.meet,JP];rfl
     .simp only[get_put,N,c9,c6,AM,FN,Bq.meet,b3.1 rfl bk]
     .exact⟨_,by simp only[get_put,K,is_self,AM,FN,F6];rfl⟩
     .exact⟨_,by simp only[get_put,M,c',is_self,AM,FN,F6];rfl⟩
     .exact⟨_,by simp only[get_put,N,c9,c6,AM,FN,b3.1 rfl bk];rfl⟩
     .intro q cs;cases Ac.1 cs;simp only[get_put,is_self,F6]
     .simp only[get_put,AI a5,h2,dm,AM,FN]
    by_cases d7:D=4
    .subst d7;have ex: ∀{P:Prop},P->AH P:=fun h=>⟨h⟩;by_cases f2:z<0
     ·exact zAa
     by_cases f3:(p.defs.length:Int)<=z
     ·exact zAa
     have f4:0<=z:=AA;have f5:z<p.defs.length:=AA;have cl:p.defs.length≠0:=AA;have d5:z.toNat<p.defs.length:=AA;obtain⟨d,bk⟩:=get_some d5;obtain⟨t,c4⟩:=get_some (l:=st.defs) (i:=z.toNat) (by rw[B.defs];omega);have em:=B.defs;have e':=b3.1 rfl cl;rw[Bk cl]at J;have cx:=d0 d (AS bk);have a6:=VH cx;have d9:=a6.be;have d':=a6.ac;have ea:=a6.rules;have e4:=Po a6;have e3:=zc d AA AA;replace a6:=AB a6;have c1:AH (TG p size ⟨4,z,a0,a1⟩ (st.meet n size)=if st.defs[z.toNat]? =some false/\d.okG=true then some (DS d (size+d.own) d.rules++(Cz (size+d.own) d.ac++Ct (size+d.own) a1),{st.meet n size with defs:=st.defs.set z.toNat true})else none):=by
      refine⟨?_⟩;rw[TG,D4 rfl,bk];rfl
     have bc:AH (∀b,Abs.Obj.box [.d (.bv (p.free.map Br)),.d (.bv (p.nodes.map Bc)),.d (.bv (p.defs.map B4)),nI p.main,.f8 sz 0 p.nodes.length,.f8 u 0 p.nodes.length,.f8 us 0 p.defs.length,.d (.bool b)]=Ej p sz u us b):=.mk fun b=>by
      rw[Ej,Bk a3,Bk a3,Bk cl]
     cases t with
     |true=>
      have V:AH (Bj p (k+1) n size st=none):=by
       refine⟨?_⟩;rw[I.1,c1.1,c4];split
       .rw[Ci AG]
       .rfl
      (repeat' (first|simp only[go_sem, *,ME,Mu]|(refine sx ?_ ?_<;>intro bs)|refine sy AA fun x a4 bx=>?_|simp(disch:=first|assumption|omega) only[AR]))
      all_goals try(exact Gy (w.1 _ _) r.1 (bc.1 _) V.1)
      rw[Dj];refine aw ?_;exact Gy (w.1 _ _) r.1 (bc.1 _) V.1
     |false=>
      (repeat' (first|simp only[go_sem, *,ME,Mu]|(refine sx ?_ ?_<;>intro bs)|refine sy AA fun x a4 bx=>?_|simp(disch:=first|assumption|omega) only[AR]))
      all_goals try(exact Gy (w.1 _ _) r.1 (bc.1 _) (A.1 zEd))
      rw[Dj];refine aw ?_;have ad:=ACh (w.1 (.box [nI 0,nI 0,.d7,.d7]) (.box [nI 4,nI z,.d (.bv (a0.map BT)),.d (.bv (a1.map AL))])) r.1 z.toNat;have b5:Bq.fit p {st.meet n size with defs:=(st.meet n size).defs.set z.toNat true}:=by
       have:=Qx B n size;exact⟨this.co,this.met,by simp[Bq.meet,B.defs]⟩
      have b8:FE (st.meet n size).met<=k:=by
       have:=GW ai;exact zDN
      have ej:(a0.length:Int)=0:=Bw;have ek:(a1.length:Int)=1:=Bw;have e6:a0=[]:=BI AA;have cc:AH (Bj p (k+1) n size st=match Cq (Bj p k) (DS d (size+d.own) d.rules++Cz (size+d.own) d.ac) {st.meet n size with defs:=(st.meet n size).defs.set z.toNat true}with|some st'=>Cq (Bj p k) (Ct (size+d.own) a1) st'|none=>none):=by
       refine⟨?_⟩;rw[I.1,D4,c1.1,D4 ⟨c4,cx⟩]
       .rw[<-QT,DO];rfl
       .clear U K M N X Y Z ac J Q T I A F w s ad b5 b8;grind [DG,Dp,Xc,FI]
      refine Ad (ya p bo dn k F.1 d a6.1 (size+d.own) {st.meet n size with defs:=(st.meet n size).defs.set z.toNat true} _ _ l sz u us b8 b5 AA AA (G6 r.1 _) ad.looks) (fun c7 g1 m=>?_)
      obtain rfl:=m.ret;have a7: ∀j,j≠48-> ∀q∈ [((48:Nat),Abs.Obj.box [nI 4,nI z,.d (.bv (a0.map BT)),.d (.bv (a1.map AL))])],j≠q.1:=by
       intro j d1 q cs;cases Ac.1 cs;exact d1
      cases W:Cq (Bj p k) (DS d (size+d.own) d.rules++Cz (size+d.own) d.ac) {st.meet n size with defs:=(st.meet n size).defs.set z.toNat true}with
      |none=>
       have f:=HT ad r.1 (a7 168 AZ) (st':=st) (b':=true) (m.no W _) m.frame;have v:=f.node _ (F8 ..);have C:=f.looks.box;rw[<-bc.1]at C;dsimp only at v;replace m:=AB m;replace ad:=AB ad;replace a7:=AB a7;replace W:=AB W;refine aw ?_;rw[Dj];refine aw ?_;exact HA f (by rw[cc.1,W.1])
      |some a'=>
       have f:=HT ad r.1 (a7 168 AZ) (m.yes _ W) m.frame;have cn:lV {st.meet n size with defs:=(st.meet n size).defs.set z.toNat true} a':=Rj (R:=lV) (fun st=>⟨rfl,rfl,rfl,Es _⟩) (fun a b c a5 h2=>⟨h2.1.trans a5.1,h2.2.trans a5.2,h2.3.trans a5.3,IP h2.4 a5.4⟩) (DC p k) W
       rw[W]at cc;replace m:=AB m;replace ad:=AB ad;replace a7:=AB a7;replace W:=AB W;refine aw ?_;refine Ah a1 (S:=fun i a=>⟨[(0,.ptr l 0),(6,.ptr (0::48::π) 0),(11,nI (size+(d.own:Int))),(12,nI i)],a.1.1,a.2+170,[]⟩)
        (Inv:=fun i b4 a=> ∃b,ZX p l sz u us h π [(48,.box [nI 4,nI z,.d (.bv (a0.map BT)),.d (.bv (a1.map AL))])] a.1.2 b a.1.1/\a.1.2.fit p/\FE a.1.2.met<=k/\AH (b=false->Bj p (k+1) n size st=Cq (Bj p k) (Ct (size+d.own) b4) a.1.2)/\AH (b=true->Bj p (k+1) n size st=none)) (b0:=((_,a'),_)) ?_ ?_ ?_
       .exact⟨false,f,IJ b5 cn,IP cn.less b8,⟨fun _=>cc.1⟩,⟨fun h=>zEa⟩⟩
       all_goals clear f m ad a7 W g1 cc cn a' b5 b8
       .rintro i y ⟨⟨g,az⟩,c⟩ c5 bl H ⟨b,f,ag,ar,av,V⟩ a2;dsimp only at*;have v:=f.node _ (F8 ..);have C:=f.looks.box;rw[<-bc.1]at C;dsimp only at v;try simp only[*]at H
        cases b
        .refine aw ?_;refine Ad (F.1 y (size+d.own) az _ _ l sz u us ar ag AA AA (G6 r.1 _) f.looks) (fun c7 g1 m=>?_);obtain rfl:=m.ret;replace m:=AB m;refine aw ?_;cases O:Bj p k y (size+d.own) az with
         |none=>
          refine a2.1 ((_,az),_) ⟨true,HT f r.1 ?_ (m.1.no O _) m.1.frame,ag,ar,⟨fun h=>zEa⟩,⟨fun _=>?_⟩⟩
          .exact zAN
          .rw[av.1 rfl];simp only[Ct,By,Cs,Cq,O]
         |some a'=>
          have bv:=DC p _ _ _ _ _ O;refine a2.1 ((_,a'),_) ⟨false,HT f r.1 ?_ (m.1.yes _ O) m.1.frame,IJ ag bv,IP bv.less ar,⟨fun _=>?_⟩,⟨fun h=>zEa⟩⟩
          .exact zAN
          .rw[av.1 rfl];simp only[Ct,By,Cs,Cq,O]
        .exact zCz
       .rintro i ⟨⟨g,az⟩,c⟩ bl H ⟨b,f,ag,ar,av,V⟩;dsimp only at*;have v:=f.node _ (F8 ..);have C:=f.looks.box;rw[<-bc.1]at C;dsimp only at v;try simp only[*]at H
        cases b
        .refine aw ?_;exact SI f (av.1 rfl)
        .exact zCz
    have d4:D=3\/D=1\/D=7\/(D=2)\/D=5\/D=6\/D=8\/(¬D=1/\ ¬D=7/\ ¬D=3/\ ¬D=2/\ ¬D=5/\ ¬D=6/\ ¬D=8):=AA;rcases d4 with rfl|rfl|rfl|rfl|rfl|rfl|rfl|⟨fl,fp,fr,fs,fv,f0,f1⟩;all_goals ((repeat' (first|simp only[go_sem, *,ME,Mu]|(refine sx ?_ ?_<;>intro bs)|refine sy AA fun x a4 bx=>?_|simp(disch:=first|assumption|omega) only[AR])))
    all_goals try(exfalso;omega)
    all_goals try(exact Gy (w.1 _ _) r.1 (s.1 _) (A.1 zEd))
    all_goals
     refine Ah a0 (S:=fun i a=>⟨[(0,.ptr l 0),(2,nI size),(6,.ptr (0::48::π) 0),(10,nI i)],a.1.1,a.2+60,[]⟩)
      (Inv:=fun i b4 a=>ZX p l sz u us h π _ (st.meet n size) a.1.2 a.1.1/\AH (a0.all (B3.ok size)=(!a.1.2&&b4.all (B3.ok size)))) (b0:=((_,false),_)) ⟨w.1 _ _,⟨rfl⟩⟩ ?_ ?_
     .rintro i y ⟨⟨g,b⟩,c⟩ c5 bl H ⟨f,b2⟩ a2;dsimp only at*;try(exfalso;omega)
      all_goals
       have v:=f.node _ (F8 ..);have C:=f.looks.box;rw[<-s.1]at C;dsimp only at v;try simp only[*]at H
      all_goals
       cases b
       .exact zCP
       .exact zCP
     .rintro i ⟨⟨g,b⟩,c⟩ bl H ⟨f,b2⟩;dsimp only at*;have v:=f.node _ (F8 ..);have C:=f.looks.box;rw[<-s.1]at C;dsimp only at v;try simp only[*]at H
      cases b;all_goals
       ((repeat' (first|simp only[go_sem, *]|(refine sx ?_ ?_<;>intro bs)|refine sy AA fun x a4 bx=>?_|simp(disch:=first|assumption|omega) only[AR])))
      all_goals
       have bi:AH (a0.all (B3.ok size)=_):=b2;simp only[RT,Md,PI,PM]at bi;obtain⟨L,be⟩: ∃L,ZX p l sz u us h π L (st.meet n size) _ g/\ ∃o,L=[(48,o)]/\g.get (0::48::π)=some o:=⟨_,f,_,rfl,v⟩;clear f;obtain⟨f,c8,be,c3⟩:=be;have b1:=v.symm.trans c3;simp only[Co]at b1;replace b1:=AB b1;clear c3;refine Ah a1 (S:=fun i a=>⟨[(0,.ptr l 0),(6,.ptr (0::48::π) 0),(11,nI size),(12,nI i)],a.1.1,a.2+60,[]⟩)
        (Inv:=fun i b4 a=> ∃b,ZX p l sz u us h π L a.1.2 b a.1.1/\a.1.2.fit p/\FE a.1.2.met<=k/\AH (b=false->Bj p (k+1) n size st=Cq (Bj p k) (Ct size b4) a.1.2)/\AH (b=true->Bj p (k+1) n size st=none)) (b0:=((_,st.meet n size),_)) ?_ ?_ ?_
       .dsimp only;refine⟨_,lF f r.1 (s.1 _) AG,Qx B _ _,?_,⟨fun dr=>?_⟩,⟨fun dr=>?_⟩⟩
        .have:=GW ai;exact zDN
        .rw[I.1,D4,TG]
         .simp
         .exact zC0
        .refine A.1 ?_;exact zC0
       all_goals clear f v C b2 bl H g c i bi
       .rintro i y ⟨⟨g,az⟩,c⟩ c5 bl H ⟨b,f,ag,ar,av,V⟩ a2;dsimp only at*;try(exfalso;omega)
        all_goals
         have v:=f.node (48,c8) (by rw[be];exact F8 ..);rw[<-b1.1]at v;have C:=f.looks.box;rw[<-s.1]at C;dsimp only at v;try simp only[*]at H
        all_goals
         cases b
         .refine aw ?_;refine Ad (F.1 y size az g _ l sz u us ar ag ch AA (G6 r.1 _) f.looks) (fun c7 g1 m=>?_);obtain rfl:=m.ret;replace m:=AB m;refine aw ?_;cases O:Bj p k y size az with
          |none=>
           refine a2.1 ((_,az),_) ⟨true,HT f r.1 ?_ (m.1.no O _) m.1.frame,ag,ar,⟨fun h=>zEa⟩,⟨fun _=>?_⟩⟩
           .rw[be];exact zAN
           .rw[av.1 rfl];simp only[Ct,By,Cq,O]
          |some a'=>
           have bv:=DC p _ _ _ _ _ O;refine a2.1 ((_,a'),_) ⟨false,HT f r.1 ?_ (m.1.yes _ O) m.1.frame,IJ ag bv,IP bv.less ar,⟨fun _=>?_⟩,⟨fun h=>zEa⟩⟩
           .rw[be];exact zAN
           .rw[av.1 rfl];simp only[Ct,By,Cq,O]
         .exact zCz
       .rintro i ⟨⟨g,az⟩,c⟩ bl H ⟨b,f,ag,ar,av,V⟩;dsimp only at*;have v:=f.node (48,c8) (by rw[be];exact F8 ..);rw[<-b1.1]at v;have C:=f.looks.box;rw[<-s.1]at C;dsimp only at v;try simp only[*]at H
        cases b
        .refine aw ?_;exact SI f (av.1 rfl)
        .exact zCz
def xM{p:AX}{st:Bq}{sz mt:Abs.Id}{i:Nat}{s:Int}(c:KT h p l sz mt df st)(g:i<p.nodes.length)(j:st.co[i]? =some s)(k:st.co.length=p.nodes.length)(π:List Nat):kT (.fn 166) [.ptr l 0,nI i] h π true none=.ok (.ret (nI s),h):=by
 obtain⟨b1,b,e,f⟩:=c;have a:p.nodes.length≠0:=AA;have b:=b a;rw[Bk a,Bk a]at b1;refine m1 rfl Tryz.func166 rfl rfl rfl ?_;show Wp _ _ _ _ (Tryz.f166.body.get rfl) _ _;simp only[Tryz.f166,I3];exact au
def L7{p:AX}{sz mt:Abs.Id}{st:Bq}(b:KT g p l sz mt df st)(c:ZW π l sz mt df)(t j:Nat)(o:Abs.Obj):KT (g.put (t::j::π) o) p l sz mt df st:=
 ⟨by rw[get_put,AI c.ul];exact b.box,fun a=>by rw[get_put,AI c.us];exact b.co a,fun a=>by rw[get_put,AI c.um];exact b.met a,fun a=>by rw[get_put,AI c.ud];exact b.defs a⟩
def yL(p:AX)(M:p.nodes.length<=60)(st:Bq)(h:AD)(π:List Nat)(l sz mt df a b:Abs.Id)(k:KT h p l sz mt df st)(z:st.co.length=p.nodes.length)(f:ZW π l sz mt df)
 (N:h.get a=some (.box [.d (.bv (p.free.map Br)),.d (.bv (p.nodes.map Bc)),.d (.bv (p.defs.map B4)),nI p.main])) (r:h.get b=some (.box [.fn 166 [] []])) (ac:Id.under π a=false) (J:Id.under π b=false) (R:0<p.nodes.length):
 ∃o h',kT (.fn 187) [.ptr l 0,.ptr a 0,.ptr b 0] h π true none=.ok (o,h')/\(∃j,o=.ret (.f8 (1::j::π) 0 p.nodes.length)/\h'.get (1::j::π)=some (.em 1 (st.co.map AL)))/\ ∀e,Id.under π e=false->h'.get e=h.get e:=by
 refine BR Tryz.func187 ?_;have f:=AB f;have k:=AB k;have T:=AB z;have H:=AI J;have I:=AJ J;refine aw ?_;refine Aq st.co _ (fun m i a=>⟨[(0,.ptr l 0),(2,.ptr b 0),(5,a.1.2),(9,nI m),(10,nI i)],a.1.1,a.2+6,[]⟩)
  (Inv:=fun i Y a=>AH (KT a.1.1 p l sz mt df st)/\a.1.1.get b=some (.box [.fn 166 [] []])/\AH (∀e,Id.under π e=false->a.1.1.get e=h.get e)/\AH (i=0/\a.1.2=.d7\/ ∃j,j<a.2+6/\a.1.2=.f8 (1::j::π) 0 i/\a.1.1.get (1::j::π)=some (.em 1 ((st.co.take i).map AL)))) (b0:=((h,.d7),0)) ?_ ⟨k,r,⟨fun _ _=>rfl⟩,⟨.inl ⟨rfl,rfl⟩⟩⟩ ?_ ?_
 .omega
 .rintro i y ⟨⟨g,v⟩,c⟩ w B K ⟨k,r,s,q⟩ A;dsimp only at*;have F:=fun ρ=>xM k.1 AA w z ρ;rcases q.1 with⟨rfl,rfl⟩|⟨j,L,rfl,D⟩
  .clear q;have P:(0:Int)<p.nodes.length:=AA;have F: ∀ρ,kT (.fn 166) [.ptr l 0,nI 0] g ρ true none=.ok (.ret (nI y),g):=F;refine aw ?_;refine A.1 ((_,_),_) ⟨⟨L7 (L7 (Nk k.1 (G6 f.1 _)) f.1 _ _ _) f.1 _ _ _⟩,?_,⟨fun e n=>?_⟩,⟨.inr ⟨_,?_,rfl,?_⟩⟩⟩
   .simp only[go_sem,H,I,r]
   .exact zEB
   .omega
   .simp only[go_sem];rw[Li,w];rfl
  .clear q;have U: ¬c+13=j:=AA;have V: ¬c+14=j:=AA;have W: ¬c+15=j:=AA;have Z:(st.co.take i).length=i:=Aa;have X: ¬i+1<=i:=AA
   (repeat' (first|simp only[go_sem, *,Es]|(refine sx ?_ ?_<;>intro O)|refine sy AA fun x S Q=>?_|simp(disch:=first|assumption|omega) only[AR]))
   refine A.1 ((_,_),_) ⟨⟨L7 (L7 (L7 (Nk k.1 (G6 f.1 _)) f.1 _ _ _) f.1 _ _ _) f.1 _ _ _⟩,?_,⟨fun e n=>?_⟩,⟨.inr ⟨_,?_,rfl,?_⟩⟩⟩
   .simp only[go_sem,H,I,r]
   .exact zEB
   .omega
   .simp only[go_sem];have:List.take i (List.map AL (List.take i st.co))=List.map AL (List.take i st.co):=Bi Aa;rw[this,Li,w,BE];rfl
 .rintro i ⟨⟨g,v⟩,c⟩ B K ⟨k,r,s,q⟩;dsimp only at*;rcases q.1 with⟨rfl,rfl⟩|⟨j,L,rfl,D⟩
  .exfalso;omega
  .clear q;refine aw ?_;have C:=B.1;refine⟨⟨_,by rw[C,z],?_⟩,s.1⟩;rw[D,C,D2]
def Fk(i t j k:Nat)(π:List Nat)(h:i≠k):Id.under (i::π) (t::j::k::π)=false:=Ft fun a=>by
 rcases Is.1 a with e|a
 .exact zBQ
 rcases Is.1 a with e|a
 .exact zBQ
 rcases Is.1 a with e|a
 .simp only[Ms,and_true]at e;exact h e
 .have:=a.length_le;simp at this;omega
def pF{p:AX}{sz mt:Abs.Id}{st:Bq}(b:KT g p l sz mt df st):KT (g++h) p l sz mt df st:=⟨C3 b.box,fun a=>C3 (b.co a),fun a=>C3 (b.met a),fun a=>C3 (b.defs a)⟩
structure eR(p:AX)(o:A8)(h':AD):Prop where
 no:looks p=none->o=.ret (.ii [.d7,nI 2])
 yes: ∀st,looks p=some st-> ∃id,o=.ret (.ii [.f8 (1::id) 0 p.nodes.length,nI 0])/\h'.get (1::id)=some (.em 1 (st.co.map AL))
def pE(p:AX)(l: ∀s∈p.free,s.size<=maxLen)(h:AD)(π:List Nat)(a b:Abs.Id)
 (y:h.get a=some (.box [.d (.bv (p.free.map Br)),.d (.bv (p.nodes.map Bc)),.d (.bv (p.defs.map B4)),nI p.main])) (z:h.get b=some (.box [.fn 166 [] []])) (u:Id.under π a=false) (v:Id.under π b=false):
 ∃o h',kT (.fn 186) [.agg [.d (.bv (p.free.map Br)),.d (.bv (p.nodes.map Bc)),.d (.bv (p.defs.map B4)),nI p.main],.fn 187 [] [.ptr a 0,.ptr b 0]] h π true none=.ok (o,h')/\eR p o h':=by
 refine BR Tryz.func186 ?_;have l:=AB l;have D:=AI u;have t:=AJ u;have v1:=AI v;have v2:=AJ v;obtain⟨r,e,m⟩:=z8 p l.1 6 π;cases f:looks p with
 |none=>
  obtain rfl:=m.ge f;refine aw ?_;exact⟨fun _=>rfl,fun st c=>by rw[f]at c;cases c⟩
 |some st=>
  obtain⟨F,rfl,k,g⟩:=m.ret st f;replace g:=AB g;replace k:=AB k;have i:=AH.mk (DP f);have A:=i.1.len;have n:=i.1.small;simp only[AX.small,AP,Ap]at n;have x:0<p.nodes.length:=by
   have w:=i.1.main.2;have:=AK w;omega
  refine aw ?_;refine Ad (yL p n.2.1 st _ _ (0::16::6::π) (1::6::6::π) (1::10::6::π) (1::14::6::π) a b (pF k.1) A ?_ ?_ ?_ (t _) (v2 _) x) (fun H g1 B=>?_)
  .constructor<;>first|exact Fk _ _ _ _ _ AZ|simp only[go_sem]
  .rw[Bt (g.1 a (t _))];simp only[go_sem,D,y,AM]
  .rw[Bt (g.1 b (v2 _))];simp only[go_sem,v1,z,AM]
  obtain⟨⟨j,rfl,C⟩,fr⟩:=B;have q:=fr (0::2::π) (DT _ _ _ _ AZ);rw[Bt (g.1 (0::2::π) (DT _ _ _ _ AZ))]at q;simp only[get_put,is_self,F6]at q;replace fr:=AB fr;refine aw ?_;refine⟨fun c=>by{rw[f]at c;cases c},fun st' c=>?_⟩;rw[f]at c;cases c;exact⟨_,rfl,by simp only[go_sem,C]⟩
def Lg:Option Bq->AV
 |none=>.ii [.d (.bv []),nI 2]
 |some st=>.ii [.d (.bv (st.co.map AL)),nI 0]
def ym(p:AX)(c: ∀s∈p.free,s.size<=maxLen):BX kT 165 [.agg [.d (.bv (p.free.map Br)),.d (.bv (p.nodes.map Bc)),.d (.bv (p.defs.map B4)),nI p.main],.fn 166 [] []] []=.ok (.ret (Lg (looks p)),[]):=by
 replace c:=AB c;refine Az Tryz.func165 ?_;refine aw ?_;refine Ad (pE p c.1 _ _ _ _ ?_ ?_ ?_ ?_) (fun i g1 a=>?_)
 .simp only[go_sem]
 .simp only[go_sem]
 .simp only[go_sem]
 .simp only[go_sem]
 cases b:looks p with
 |none=>
  obtain rfl:=a.no b;clear a
  exact zAn
 |some st=>
  obtain⟨id,rfl,j⟩:=a.yes st b;clear a;have h:=(DP b).len;have k:List.take p.nodes.length (List.map AL st.co)=List.map AL st.co:=Bi zE5
  (repeat' (first|simp only[go_sem, *,Lg,Es]|(refine sx ?_ ?_<;>intro e)|refine sy AA fun x g f=>?_|simp(disch:=first|assumption|omega) only[AR]))
def ry(p:AX)(c: ∀s∈p.free,s.size<=maxLen):BX kT 109 [.agg [.d (.bv (p.free.map Br)),.d (.bv (p.nodes.map Bc)),.d (.bv (p.defs.map B4)),nI p.main]] []=.ok (.ret (Lg (looks p)),[]):=by
 have a:=ym p c;clear c;refine Az Tryz.func109 ?_;cases b:looks p with
 |none=>
  rw[b,Lg]at a
  exact zAn
 |some st=>
  rw[b,Lg]at a
  exact zAn
def kc: ∀(a b:List UInt8),(Op.bytesLess a b||a==b)= !Op.bytesLess b a
 |[],[]=>by simp[Op.bytesLess]
 |[],b::y=>by simp[Op.bytesLess]
 |a::x,[]=>by simp[Op.bytesLess]
 |a::x,b::y=>by
  have f:=kc x y;simp only[Op.bytesLess,List.cons_beq_cons];by_cases c:a<b
  .have h2: ¬b<a:=fun h=>by
    have:=UInt8.lt_asymm c h;exact this
   have e:(b==a)=false:=by
    simp only[beq_eq_false_iff_ne];intro h;subst h;exact UInt8.lt_irrefl _ c
   simp[c,h2,e]
  .by_cases h2:b<a
   .have e:(a==b)=false:=by
     simp only[beq_eq_false_iff_ne];intro h;subst h;exact UInt8.lt_irrefl _ h2
    simp[c,h2,e]
   .have e:a=b:=UInt8.le_antisymm (UInt8.not_lt.1 h2) (UInt8.not_lt.1 c);subst e;simp only[c,decide_false,I4,beq_self_eq_true,FD];exact f
def qx(a b:ByteArray):(Op.bytesLess a.toList b.toList||a.toList==b.toList)= !dv b a:=kc _ _
variable{co:List Int}
def bD{p:AX}(h:BP p co): ∀d∈p.defs,d.okG=true:=by
 intro d c;obtain⟨i,b⟩:=II c;obtain⟨j,x,e,g,f⟩:=h.used i (BV.1 b).1;obtain⟨s,l,_,_,_,_,a,_⟩:=h.node j x e;rw[J1,D4 g,f,b]at a;dsimp only at a;split at a
 .assumption
 .cases a
structure yD(p:AX)(r:A8×AD):Prop where
 no:looks p=none-> ∃h l x0 x1 x2 x3 x4 x5 x6,r=(.ret (.ptr (0::l) 0),h)/\h.get (0::l)=some (.box [x0,x1,x2,x3,x4,x5,x6,.d (.bool true)])
 yes: ∀st,looks p=some st-> ∃h l sz ow us,r=(.ret (.ptr (0::l) 0),h)/\H6 h p (0::l) (1::sz) (1::ow) (1::us) st false
def Ta(n:Nat):(List.replicate n (0:Int)).map AL=(List.replicate n false).map Jy:=by
 rw[Ol,Ol];rfl
def AO:Bq:=⟨[],[],[]⟩
def sE(p:AX)(k:Nat)(ρ:List Nat): ∃r:A8×AD,BX kT 83 [.agg [.d (.bv (p.free.map Br)),.d (.bv (p.nodes.map Bc)),.d (.bv (p.defs.map B4)),nI p.main]] (k::ρ)=.ok r/\yD p r:=by
 by_cases f:p.small=true
 .have ad:=AB f;simp only[AX.small,AP,Ap]at f;obtain⟨a2,T,X⟩:=f;have a3: ¬(12:Int)<p.free.length:=AA;have a4: ¬(60:Int)<p.nodes.length:=AA;have a5: ¬(12:Int)<p.defs.length:=AA;refine Lh Tryz.func83 ?_;refine aw ?_;refine Ah p.free (S:=fun i b=>⟨[(1,.ptr (0::0::k::ρ) 0),(3,.ptr (0::1::k::ρ) 0),(4,nI i)],[(0::0::k::ρ,.box [.d (.bv (p.free.map Br)),.d (.bv (p.nodes.map Bc)),.d (.bv (p.defs.map B4)),nI p.main]),(0::1::k::ρ,.box [.d (.bv (p.free.map Br)),.d (.bv (p.nodes.map Bc)),.d (.bv (p.defs.map B4)),nI p.main,.d7,.d7,.d7,.d (.bool b)])],2,[]⟩)
   (Inv:=fun i D b=>AH ((!b&&Jz (if i=0 then none else p.free[i-1]?) D)=MZ p.free)) (b0:=false) ⟨rfl⟩ ?_ ?_
  .rintro i y b H s n a v;have a7:=vh y;rcases i with _|j
   .rw[D4 rfl]at a;have a6:(0:Int)<p.free.length:=AA;cases b;all_goals ((repeat' (first|simp only[go_sem, *]|(refine sx ?_ ?_<;>intro I)|refine sy AA fun x u J=>?_|simp(disch:=first|assumption|omega) only[AR])))
    all_goals
     refine v.1 _ ⟨?_⟩;rw[<-a.1];rw[Ci AA,RC,H];simp[Jz,dv, *]
   .obtain⟨q,a0⟩:=get_some (l:=p.free) (i:=j) AA;rw[Ci AA,RC,a0]at a;have w:IntKind.i64.wrap (((j+1:Nat):Int)-1)=(j:Int):=by rw[wrap_id AA AA];omega
    have a':(0:Int)<((j+1:Nat):Int):=AA;cases b;all_goals ((repeat' (first|simp only[go_sem, *]|(refine sx ?_ ?_<;>intro I)|refine sy AA fun x u J=>?_|simp(disch:=first|assumption|omega) only[AR])))
    all_goals
     refine v.1 _ ⟨?_⟩;rw[<-a.1];rw[Ci AA,RC,H];simp[Jz,qx, *]
  .rintro i b s n a;rw[Jz,Md]at a;refine aw ?_;refine Ah p.defs (S:=fun i b=>⟨[(1,.ptr (0::0::k::ρ) 0),(3,.ptr (0::1::k::ρ) 0),(5,nI i)],[(0::0::k::ρ,.box [.d (.bv (p.free.map Br)),.d (.bv (p.nodes.map Bc)),.d (.bv (p.defs.map B4)),nI p.main]),(0::1::k::ρ,.box [.d (.bv (p.free.map Br)),.d (.bv (p.nodes.map Bc)),.d (.bv (p.defs.map B4)),nI p.main,.d7,.d7,.d7,.d (.bool b)])],2,[]⟩)
    (Inv:=fun i D b=>AH ((!b&&D.all CJ.okG)=(MZ p.free&&p.defs.all CJ.okG))) (b0:=b) ⟨?_⟩ ?_ ?_
   .rw[<-a.1]
   .clear a s n i b;rintro i y b H s n a v;have av:=yb y;rw[n5]at av;cases b;all_goals (refine aw ?_)
    all_goals
     refine v.1 _ ⟨?_⟩;rw[<-a.1,D9];cases y.okG<;>simp
   .clear a s n i b;rintro i b s n a;rw[RT,Md]at a;have P: ¬(i:Int)<0:=AA;have N:AH (b=true->looks p=none):=⟨fun ai=>by
     have a:=a.1;rw[ai]at a;cases c:looks p with
     |none=>rfl
     |some st=>
      exfalso;have az:MZ p.free=true:=by
       unfold looks at c;split at c
       .rename_i h;exact h.2
       .cases c
      have ar:p.defs.all CJ.okG=true:=D3.2 (bD (DP c));rw[az,ar]at a;cases a⟩
    cases b
    .have Z:AH (MZ p.free=true):=⟨by have:=a.1;simp at this;exact this.1.symm▸rfl⟩;have Y:AH (∀d∈p.defs,d.okG=true):=⟨by have:=a.1;simp at this;exact this.2⟩;by_cases g:p.nodes.length=0
     .by_cases t:p.defs.length=0
      ·(repeat' (first|simp only[go_sem, *]|(refine sx ?_ ?_<;>intro I)|refine sy AA fun x u J=>?_|simp(disch:=first|assumption|omega) only[AR,Ff,Hv]))
       refine Ad (KP p T p.main p.free.length (Bq.init p) _ _ (0::1::k::ρ) (1::13::k::ρ) (1::17::k::ρ) (1::21::k::ρ) ⟨?_,?_,?_⟩ ?_ ⟨?_,fun _ h=>absurd g h,fun _ h=>absurd g h,fun _ _=>?_,fun h=>absurd g h,fun h=>absurd g h,fun _=>?_⟩ ?_) (fun W g1 o=>?_)
       .simp[Bq.init]
       .simp[Bq.init]
       .simp[Bq.init]
       .exact zAk
       .exact zA9
       .exact zDA
       .exact zDA
       .omega
       obtain rfl:=o.ret;have c:=Iw (ρ:=41::k::ρ) (o.no rfl AO) zEX;have z:=c.box;rw[Ej,Ju g,Ju g,Ju t]at z;have K:AH (looks p=none):=⟨by
        unfold looks;split
        .exact zBt
        .rfl⟩
       replace c:=AB c;replace o:=AB o;refine aw ?_;rw[Dj];refine aw ?_;rw[Dj];refine aw ?_;exact⟨fun _=>⟨_,_,_,_,_,_,_,_,_,rfl,by(simp only[go_sem];try rfl)⟩,fun st f=>zFB⟩
      ·(repeat' (first|simp only[go_sem, *]|(refine sx ?_ ?_<;>intro I)|refine sy AA fun x u J=>?_|simp(disch:=first|assumption|omega) only[AR,Ff,Hv]))
       refine Ad (KP p T p.main p.free.length (Bq.init p) _ _ (0::1::k::ρ) (1::13::k::ρ) (1::17::k::ρ) (1::21::k::ρ) ⟨?_,?_,?_⟩ ?_ ⟨?_,fun _ h=>absurd g h,fun _ h=>absurd g h,fun _ _=>?_,fun h=>absurd g h,fun h=>absurd g h,fun _=>?_⟩ ?_) (fun W g1 o=>?_)
       .simp[Bq.init]
       .simp[Bq.init]
       .simp[Bq.init]
       .exact zAk
       .exact zA9
       .exact zDX
       .exact zBc
       .omega
       obtain rfl:=o.ret;have c:=Iw (ρ:=41::k::ρ) (o.no rfl AO) zEX;obtain⟨C,R⟩:=c.kd t;have z:=c.box;rw[Ej,Ju g,Ju g,Bk t]at z;have K:AH (looks p=none):=⟨by
        unfold looks;split
        .exact zBt
        .rfl⟩
       replace c:=AB c;replace o:=AB o;refine aw ?_;rw[Dj];refine aw ?_;clear z R c o N a n P s i;refine Aq (List.replicate p.defs.length ()) (S:=fun _ i (_:Unit)=>⟨[(3,.ptr (0::0::k::ρ) 0),(7,nI i)],[(0::0::k::ρ,.box [.d (.bv (p.free.map Br)),.d (.bv (p.nodes.map Bc)),.d (.bv (p.defs.map B4)),nI p.main,.emp,.emp,.f8 (1::1::k::ρ) 0 p.defs.length,.d (.bool true)]),(1::1::k::ρ,.em 1 C)],2,[]⟩)
        (Inv:=fun i D b=>True) (b0:=()) (m:=p.defs.length) AG trivial ?_ ?_
       .rintro i y b H s n a v;refine aw ?_;exact v.1 () trivial
       .rintro i b s n a;refine aw ?_;exact⟨fun _=>⟨_,_,_,_,_,_,_,_,_,rfl,by(simp only[go_sem];try rfl)⟩,fun st f=>zFB⟩
     .by_cases t:p.defs.length=0
      ·(repeat' (first|simp only[go_sem, *]|(refine sx ?_ ?_<;>intro I)|refine sy AA fun x u J=>?_|simp(disch:=first|assumption|omega) only[AR,Ff,Hv]))
       refine Ad (ca p T X Y.1 (p.nodes.length+1) p.main p.free.length (Bq.init p) _ _ (0::1::k::ρ) (1::13::k::ρ) (1::17::k::ρ) (1::21::k::ρ) ?_ ⟨?_,?_,?_⟩ ?_ ?_ ?_ ⟨?_,fun _ _=>?_,fun _ _=>?_,fun _ _=>?_,fun _=>?_,fun _=>?_,fun _=>?_⟩) (fun W g1 o=>?_)
       .exact zBl
       .simp[Bq.init]
       .simp[Bq.init]
       .simp[Bq.init]
       .omega
       .omega
       .exact zAk
       .exact zA9
       .exact zCT
       .exact zDX
       .exact zDA
       .exact zBc
       .exact zBc
       .exact zDA
       obtain rfl:=o.ret;cases F:Bj p (p.nodes.length+1) p.main p.free.length (Bq.init p)with
       |none=>
        have c:=Iw (ρ:=41::k::ρ) (o.no F AO) zEX;obtain⟨A,L⟩:=c.ks g;obtain⟨B,M⟩:=c.km g;have z:=c.box;rw[Ej,Bk g,Bk g,Ju t]at z;have K:AH (looks p=none):=⟨by
         unfold looks;rw[F];split<;>rfl⟩
        replace c:=AB c;replace o:=AB o;refine aw ?_;clear z L M c o N a n P s i;refine Aq (List.replicate p.nodes.length ()) (S:=fun _ i (_:Unit)=>⟨[(3,.ptr (0::0::k::ρ) 0),(6,nI i)],[(0::0::k::ρ,.box [.d (.bv (p.free.map Br)),.d (.bv (p.nodes.map Bc)),.d (.bv (p.defs.map B4)),nI p.main,.f8 (1::1::k::ρ) 0 p.nodes.length,.f8 (1::2::k::ρ) 0 p.nodes.length,.emp,.d (.bool true)]),(1::1::k::ρ,.em 1 (A)),(1::2::k::ρ,.em 1 (B))],3,[]⟩)
         (Inv:=fun i D b=>True) (b0:=()) (m:=p.nodes.length) AG trivial ?_ ?_
        .rintro i y b H s n a v;refine aw ?_;exact v.1 () trivial
        .rintro i b s n a;refine aw ?_;rw[Dj];refine aw ?_;exact⟨fun _=>⟨_,_,_,_,_,_,_,_,_,rfl,by(simp only[go_sem];try rfl)⟩,fun st f=>zFB⟩
       |some st=>
        have c:=Iw (ρ:=41::k::ρ) (o.yes st F) zEX;have z:=c.box;have L:=c.co rfl g;have M:=c.met rfl g;rw[Ej,Bk g,Bk g,Ju t]at z;replace c:=AB c;replace o:=AB o;refine aw ?_;have O:=DC p _ _ _ _ _ F;have a1:st.met.length=p.nodes.length:=by rw[O.met];simp[Bq.init]
        have ag:st.defs.length=p.defs.length:=by rw[O.defs];simp[Bq.init]
        have V:=AH.mk (Qs ad.1 Z.1 F);clear z L M c o N a n P s i;refine Aq st.met (S:=fun _ i b=>⟨[(3,.ptr (0::0::k::ρ) 0),(6,nI i)],[(0::0::k::ρ,.box [.d (.bv (p.free.map Br)),.d (.bv (p.nodes.map Bc)),.d (.bv (p.defs.map B4)),nI p.main,.f8 (1::1::k::ρ) 0 p.nodes.length,.f8 (1::2::k::ρ) 0 p.nodes.length,.emp,.d (.bool b)]),(1::1::k::ρ,.em 1 (st.co.map AL)),(1::2::k::ρ,.em 1 (st.met.map Jy))],3,[]⟩)
         (Inv:=fun i D b=>AH ((!b&&D.all id)=st.met.all id)) (b0:=false) (m:=p.nodes.length) AA ⟨rfl⟩ ?_ ?_
        .rintro i y b H s n a v;have ac:=Int.ofNat_lt.1 n;cases b<;>cases y;all_goals (refine aw ?_)
         all_goals
          refine v.1 _ ⟨?_⟩;rw[<-a.1];simp
        .rintro i b s n a;rw[RT,Md]at a;refine aw ?_;rw[Dj];refine aw ?_;have a:AH ((!b)=(st.met.all id&&st.defs.all id)):=⟨by
          rw[a.1,BI (ag.trans t)];simp⟩
         have u:=V.1;cases b
         .have:st.met.all id=true/\st.defs.all id=true:=by have:=a.1;simp only[PM]at this;exact(AP _ _).mp this.symm
          rw[J7,J7]at this;rw[D4 this]at u;refine⟨fun Q=>(by rw[u]at Q;cases Q),fun st' f=>?_⟩;rw[u]at f;cases f;refine⟨_,_,1::k::ρ,2::k::ρ,3::k::ρ,rfl,⟨?_,fun _ _=>?_,fun _ _=>?_,fun _ _=>?_,fun _=>?_,fun _=>?_,fun _=>?_⟩⟩
          .exact zA9
          .simp only[go_sem]
          .simp only[go_sem]
          .exact zDA
          .exact zBr
          .exact zBr
          .exact zDA
         .exact zAt
      ·(repeat' (first|simp only[go_sem, *]|(refine sx ?_ ?_<;>intro I)|refine sy AA fun x u J=>?_|simp(disch:=first|assumption|omega) only[AR,Ff,Hv]))
       refine Ad (ca p T X Y.1 (p.nodes.length+1) p.main p.free.length (Bq.init p) _ _ (0::1::k::ρ) (1::13::k::ρ) (1::17::k::ρ) (1::21::k::ρ) ?_ ⟨?_,?_,?_⟩ ?_ ?_ ?_ ⟨?_,fun _ _=>?_,fun _ _=>?_,fun _ _=>?_,fun _=>?_,fun _=>?_,fun _=>?_⟩) (fun W g1 o=>?_)
       .exact zBl
       .simp[Bq.init]
       .simp[Bq.init]
       .simp[Bq.init]
       .omega
       .omega
       .exact zAk
       .exact zA9
       .exact zCT
       .exact zDX
       .exact zDX
       .exact zBc
       .exact zBc
       .exact zBc
       obtain rfl:=o.ret;cases F:Bj p (p.nodes.length+1) p.main p.free.length (Bq.init p)with
       |none=>
        have c:=Iw (ρ:=41::k::ρ) (o.no F AO) zEX;obtain⟨A,L⟩:=c.ks g;obtain⟨B,M⟩:=c.km g;obtain⟨C,R⟩:=c.kd t;have z:=c.box;rw[Ej,Bk g,Bk g,Bk t]at z;have K:AH (looks p=none):=⟨by
         unfold looks;rw[F];split<;>rfl⟩
        replace c:=AB c;replace o:=AB o;refine aw ?_;clear z L M R c o N a n P s i;refine Aq (List.replicate p.nodes.length ()) (S:=fun _ i (_:Unit)=>⟨[(3,.ptr (0::0::k::ρ) 0),(6,nI i)],[(0::0::k::ρ,.box [.d (.bv (p.free.map Br)),.d (.bv (p.nodes.map Bc)),.d (.bv (p.defs.map B4)),nI p.main,.f8 (1::1::k::ρ) 0 p.nodes.length,.f8 (1::2::k::ρ) 0 p.nodes.length,.f8 (1::3::k::ρ) 0 p.defs.length,.d (.bool true)]),(1::1::k::ρ,.em 1 (A)),(1::2::k::ρ,.em 1 (B)),(1::3::k::ρ,.em 1 (C))],4,[]⟩)
         (Inv:=fun i D b=>True) (b0:=()) (m:=p.nodes.length) AG trivial ?_ ?_
        .rintro i y b H s n a v;refine aw ?_;exact v.1 () trivial
        .rintro i b s n a;refine aw ?_;refine Aq (List.replicate p.defs.length ()) (S:=fun _ i (_:Unit)=>⟨[(3,.ptr (0::0::k::ρ) 0),(7,nI i)],[(0::0::k::ρ,.box [.d (.bv (p.free.map Br)),.d (.bv (p.nodes.map Bc)),.d (.bv (p.defs.map B4)),nI p.main,.f8 (1::1::k::ρ) 0 p.nodes.length,.f8 (1::2::k::ρ) 0 p.nodes.length,.f8 (1::3::k::ρ) 0 p.defs.length,.d (.bool true)]),(1::1::k::ρ,.em 1 (A)),(1::2::k::ρ,.em 1 (B)),(1::3::k::ρ,.em 1 (C))],4,[]⟩)
          (Inv:=fun i D b=>True) (b0:=()) (m:=p.defs.length) AG trivial ?_ ?_
         .clear a s n i b;rintro i y b H s n a v;refine aw ?_;exact v.1 () trivial
         .clear a s n i b;rintro i b s n a;refine aw ?_;exact⟨fun _=>⟨_,_,_,_,_,_,_,_,_,rfl,by(simp only[go_sem];try rfl)⟩,fun st f=>zFB⟩
       |some st=>
        have c:=Iw (ρ:=41::k::ρ) (o.yes st F) zEX;have z:=c.box;have L:=c.co rfl g;have M:=c.met rfl g;have R:=c.defs rfl t;rw[Ej,Bk g,Bk g,Bk t]at z;replace c:=AB c;replace o:=AB o;refine aw ?_;have O:=DC p _ _ _ _ _ F;have a1:st.met.length=p.nodes.length:=by rw[O.met];simp[Bq.init]
        have ag:st.defs.length=p.defs.length:=by rw[O.defs];simp[Bq.init]
        have V:=AH.mk (Qs ad.1 Z.1 F);clear z L M R c o N a n P s i;refine Aq st.met (S:=fun _ i b=>⟨[(3,.ptr (0::0::k::ρ) 0),(6,nI i)],[(0::0::k::ρ,.box [.d (.bv (p.free.map Br)),.d (.bv (p.nodes.map Bc)),.d (.bv (p.defs.map B4)),nI p.main,.f8 (1::1::k::ρ) 0 p.nodes.length,.f8 (1::2::k::ρ) 0 p.nodes.length,.f8 (1::3::k::ρ) 0 p.defs.length,.d (.bool b)]),(1::1::k::ρ,.em 1 (st.co.map AL)),(1::2::k::ρ,.em 1 (st.met.map Jy)),(1::3::k::ρ,.em 1 (st.defs.map Jy))],4,[]⟩)
         (Inv:=fun i D b=>AH ((!b&&D.all id)=st.met.all id)) (b0:=false) (m:=p.nodes.length) AA ⟨rfl⟩ ?_ ?_
        .rintro i y b H s n a v;have ac:=Int.ofNat_lt.1 n;cases b<;>cases y;all_goals (refine aw ?_)
         all_goals
          refine v.1 _ ⟨?_⟩;rw[<-a.1];simp
        .rintro i b s n a;rw[RT,Md]at a;refine aw ?_;refine Aq st.defs (S:=fun _ i b=>⟨[(3,.ptr (0::0::k::ρ) 0),(7,nI i)],[(0::0::k::ρ,.box [.d (.bv (p.free.map Br)),.d (.bv (p.nodes.map Bc)),.d (.bv (p.defs.map B4)),nI p.main,.f8 (1::1::k::ρ) 0 p.nodes.length,.f8 (1::2::k::ρ) 0 p.nodes.length,.f8 (1::3::k::ρ) 0 p.defs.length,.d (.bool b)]),(1::1::k::ρ,.em 1 (st.co.map AL)),(1::2::k::ρ,.em 1 (st.met.map Jy)),(1::3::k::ρ,.em 1 (st.defs.map Jy))],4,[]⟩)
          (Inv:=fun i D b=>AH ((!b&&D.all id)=(st.met.all id&&st.defs.all id))) (b0:=b) (m:=p.defs.length) AA ⟨?_⟩ ?_ ?_
         .rw[a.1]
         .clear a s n i b;rintro i y b H s n a v;have ac:=Int.ofNat_lt.1 n;cases b<;>cases y;all_goals (refine aw ?_)
          all_goals
           refine v.1 _ ⟨?_⟩;rw[<-a.1];simp
         .clear a s n i b;rintro i b s n a;rw[RT,Md]at a;refine aw ?_;have u:=V.1;cases b
          .have:st.met.all id=true/\st.defs.all id=true:=by have:=a.1;simp only[PM]at this;exact(AP _ _).mp this.symm
           rw[J7,J7]at this;rw[D4 this]at u;refine⟨fun Q=>(by rw[u]at Q;cases Q),fun st' f=>?_⟩;rw[u]at f;cases f;refine⟨_,_,1::k::ρ,2::k::ρ,3::k::ρ,rfl,⟨?_,fun _ _=>?_,fun _ _=>?_,fun _ _=>?_,fun _=>?_,fun _=>?_,fun _=>?_⟩⟩
           .exact zA9
           .simp only[go_sem]
           .simp only[go_sem]
           .simp only[go_sem]
           .exact zBr
           .exact zBr
           .exact zBr
          .exact zAt
    .by_cases g:p.nodes.length=0<;>by_cases t:p.defs.length=0;all_goals ((repeat' (first|simp only[go_sem, *]|(refine sx ?_ ?_<;>intro I)|refine sy AA fun x u J=>?_|simp(disch:=first|assumption|omega) only[AR,Ff,Hv])))
     all_goals exact⟨fun _=>⟨_,_,_,_,_,_,_,_,_,rfl,by(simp only[go_sem];try rfl)⟩,fun st f=>(by rw[N.1 rfl]at f;cases f)⟩
 .have e:looks p=none:=by
   unfold looks;rw[Ci fun h=>f h.1]
  have f: ¬(p.free.length<=12/\p.nodes.length<=60/\p.defs.length<=12):=by
   intro h;apply f;simp only[AX.small,AP,Ap];exact h
  replace f:=AB f;refine Lh Tryz.func83 ?_
  (repeat' (first|simp only[go_sem, *]|(refine sx ?_ ?_<;>intro I)|refine sy AA fun x u J=>?_|simp(disch:=first|assumption|omega) only[AR]))
  all_goals first
  |exact⟨fun _=>⟨_,_,_,_,_,_,_,_,_,rfl,by(simp only[go_sem];try rfl)⟩,fun st f=>(by rw[e]at f;cases f)⟩
  |(have f:=f.1;exfalso;omega)
def Yg(p:AX):Int:=match looks p with|some _=>0|none=>2
def lR(p:AX):BX kT 44 [.agg [.d (.bv (p.free.map Br)),.d (.bv (p.nodes.map Bc)),.d (.bv (p.defs.map B4)),nI p.main]] []=.ok (.ret (nI (Yg p)),[]):=by
 refine Az Tryz.func44 ?_;obtain⟨r,e,a⟩:=sE p 3 [];cases b:looks p with
 |none=>
  obtain⟨h,l,n,o,q,s,t,u,v,rfl,f⟩:=a.no b;replace a:=AB a;have c:Yg p=2:=by rw[Yg,b]
  exact zBm
 |some st=>
  obtain⟨h,l,sz,m,us,rfl,f⟩:=a.yes st b;have k:=f.box;rw[Ej]at k;replace a:=AB a;have c:Yg p=0:=by rw[Yg,b]
  exact zBm
def Tm{p:AX}{st:Bq}(g:looks p=some st):BX kT 68 [.agg [.d (.bv (p.free.map Br)),.d (.bv (p.nodes.map Bc)),.d (.bv (p.defs.map B4)),nI p.main]] []=.ok (.ret (.d (.bv (st.co.map AL))),[]):=by
 refine Az Tryz.func68 ?_;obtain⟨r,e,c⟩:=sE p 3 [];obtain⟨h,l,sz,o,us,rfl,b⟩:=c.yes st g;have a:=DP g;have f:p.nodes.length≠0:=by
  have:=AK a.main.2;rw[a.len]at this;omega
 have i:=b.box;have q:=b.co rfl f;rw[Ej,Bk f]at i;have s:List.take p.nodes.length (List.map AL st.co)=List.map AL st.co:=Bi (by simp[a.len]);have j:=a.len;replace c:=AB c;replace b:=AB b;clear a
 (repeat' (first|simp only[go_sem, *,Es,Qd]|(refine sx ?_ ?_<;>intro k)|refine sy AA fun x n m=>?_|simp(disch:=first|assumption|omega) only[AR]))
def y1(t:Bool):Ch (C5 2) t=.ok (Jv (C5 2) t):=Vm _ _
def LH{l:List Bl}{i:Int}{s:Bl}(h:l[i.toNat]? =some s):Bh l i=s.pp:=by simp[Bh,h]
theorem lP(l:List Bl)(D:l.length<=1000):BX kT 61 [.d (.bv (l.map Aw))] []=Ch (C5 2) (GN l):=by
 rw[y1];refine Az Tryz.func61 ?_;by_cases C:(0:Int)<l.length
 .obtain⟨s0,z⟩:=get_some (l:=l) (i:=0) AA;have e:Bh l 0=s0.pp:=LH z
  (repeat' (first|simp only[go_sem, *]|(refine sx ?_ ?_<;>intro o)|refine sy AA fun x A u=>?_|simp(disch:=first|assumption|omega) only[AR]))
  .refine Aq l _ (S:=fun m i (_:Unit)=>⟨[(0,.d (.bv (l.map Aw))),(17,nI m),(18,nI i)],[],0,[]⟩)
    (Inv:=fun i B _=>AH (GN l=GI l i B.length)) (b0:=()) rfl ⟨?_⟩ ?_ ?_
   .simp only[GN];rw[D6 (show 0<l.length by omega),D6 (show Bh l 0= -1 by rw[e];assumption)];rfl
   .rintro i y _ F q r b k;rw[List.length_cons,GI]at b;refine aw ?_;have v:=b;refine rounds (S:=fun a:Int×Nat=>⟨[(0,.d (.bv (l.map Aw))),(3,nI a.1),(4,nI a.2),(17,nI l.length),(18,nI i)],[],0,[]⟩)
     (Inv:=fun a=>FT l a.1/\a.2<=l.length/\AH (Bf l l.length i=Bf l (l.length-a.2) a.1)) (m:=fun a=>l.length+1-a.2) (a:=(i,0)) ⟨⟨AA,AA⟩,AA,⟨rfl⟩⟩ ?_
    rintro⟨at_,n⟩ ⟨⟨hr1,hr2⟩,hn,hcl⟩ IH2;dsimp only at*;have t:at_.toNat<l.length:=AA;obtain⟨s,w⟩:=get_some t;have f:=AH.mk (LH w)
    (repeat' (first|simp only[go_sem, *]|(refine sx ?_ ?_<;>intro o)|refine sy AA fun x A u=>?_|simp(disch:=first|assumption|omega) only[AR]))
    .refine k.1 () ⟨?_⟩;rw[b.1,hcl.1,show at_=0 by assumption,Gp,FD]
    .refine IH2.1 (s.pp,n+1) AU ⟨⟨Bw,Bw⟩,AU,⟨?_⟩⟩;dsimp only;rw[hcl.1];obtain⟨j,c⟩: ∃j,l.length-n=j+1:=⟨l.length-n-1,AA⟩;rw[c,show l.length-(n+1)=j by omega,Bf,f.1];simp only[DL (show¬at_=0 by assumption),I4];rw[D6 (show FT l s.pp from⟨Bw,Bw⟩),FD]
    all_goals
     have p:GN l=false:=by
      rw[v.1,hcl.1];rcases Nat.eq_zero_or_pos (l.length-n)with g|g
      .rw[g,Bf];simp only[DL (show¬at_=0 by assumption),Dl]
      .obtain⟨j,c⟩: ∃j,l.length-n=j+1:=⟨l.length-n-1,AA⟩;rw[c,Bf,f.1];simp only[DL (show¬at_=0 by assumption),I4];rw[DL (show¬FT l s.pp from fun h=>by have:=h.1;have:=h.2;omega),Dl,Dl]
     rw[p];rfl
   .rintro i _ q r b;refine aw ?_;rw[b.1];rfl
  .have:GN l=false:=by
    simp only[GN,e,DL (show¬s0.pp= -1 by assumption),Dl,Gt]
   rw[this];rfl
 .have:GN l=false:=by simp[GN];omega
  rw[this];refine aw ?_;rfl
def dz(l:List Bl)(x y z:Al)(H:l.length<=1000):BX kT 64 [.agg [.d (.bv (l.map Aw)),.d x,.d y,.d z]] []=.ok (.ret (.d (.bool (GN l))),[]):=by
 have b:GN l=(decide (0<l.length)&&(decide (Bh l 0= -1)&&GI l 0 l.length)):=rfl;replace b:=AB b;refine Az Tryz.func64 ?_;refine aw ?_;refine Ah l (S:=fun i (_:Unit)=>⟨[(1,.ptr [0,0] 0),(3,nI i)],[([0,0],.box [.d (.bv (l.map Aw)),.d x,.d y,.d z])],1,[]⟩)
  (Inv:=fun i C _=>AH (GI l 0 l.length=GI l i C.length)) (b0:=()) ⟨rfl⟩ ?_ ?_
 .rintro i L _ K q r c o;rw[List.length_cons,GI]at c;refine aw ?_;refine rounds (S:=fun a:Int×Nat=>⟨[(1,.ptr [0,0] 0),(3,nI i),(4,nI a.1),(5,nI a.2)],[([0,0],.box [.d (.bv (l.map Aw)),.d x,.d y,.d z])],1,[]⟩)
   (Inv:=fun a=>FT l a.1/\a.2<=l.length+1/\AH (Bf l (l.length+1) i=Bf l (l.length+1-a.2) a.1)) (m:=fun a=>l.length+1-a.2) (a:=(i,0)) ⟨⟨AA,AA⟩,AA,⟨rfl⟩⟩ ?_
  rintro⟨at_,n⟩ ⟨⟨hr1,hr2⟩,hn,hcl⟩ IH2;dsimp only at*;have t:at_.toNat<l.length:=AA;obtain⟨s,A⟩:=get_some t;have g:=AH.mk (LH A);have f:=AH.mk (fB (l:=l) (i:=i) ⟨AA,AA⟩);have v:AH (at_=0->Bf l l.length i=true):=⟨fun h=>by rw[<-f.1,hcl.1,h,Gp]⟩;have u:AH (Bf l l.length i=false->GN l=false):=⟨fun h=>by rw[b.1,c.1,h,Dl,Gt,Gt]⟩
  (repeat' (first|simp only[go_sem, *]|(refine sx ?_ ?_<;>intro F)|refine sy AA fun x J I=>?_|simp(disch:=first|assumption|omega) only[AR]))
  all_goals first
  |(refine o.1 () ⟨?_⟩
    rw[c.1,v.1 Bw,FD])
  |(refine IH2.1 (s.pp,n+1) AU ⟨⟨AU,AU⟩,AU,⟨?_⟩⟩
    dsimp only;rw[hcl.1];obtain⟨j,e⟩: ∃j,l.length+1-n=j+1:=⟨l.length+1-n-1,AA⟩;rw[e,show l.length+1-(n+1)=j by omega,Bf,g.1];simp only[DL (show¬at_=0 by assumption),I4];rw[D6 (show FT l s.pp from⟨AA,AA⟩),FD])
  |(rw[u.1]
    rw[<-f.1,hcl.1];rcases Nat.eq_zero_or_pos (l.length+1-n)with k|k
    .rw[k,Bf];simp only[DL (show¬at_=0 by assumption)]
    .obtain⟨j,e⟩: ∃j,l.length+1-n=j+1:=⟨l.length+1-n-1,AA⟩;rw[e,Bf,g.1];simp only[DL (show¬at_=0 by assumption),I4];rw[DL (show¬FT l s.pp from fun h=>by have:=h.1;have:=h.2;omega),Dl])
 .rintro i _ q r c;have p:AH (GI l 0 l.length=true):=⟨by rw[c.1];rfl⟩;by_cases D:(0:Int)<l.length
  .obtain⟨s0,B⟩:=get_some (l:=l) (i:=0) AA;have w:=AH.mk (show Bh l 0=s0.pp from LH B);refine aw ?_;rw[b.1,p.1,w.1,D6 (show 0<l.length by omega),FD,Md]
  .refine aw ?_;rw[b.1,DL (show¬0<l.length by omega),Dl]
def SS(l:List Bl)(b a:Int)(A:l.length<=1000)(o:Hg l)(n:FT l b)(z:0<=a):BX kT 63 [.d (.bv (l.map Aw)),nI b,nI a] []=.ok (.ret (.d (.bool (CP l b a))),[]):=by
 refine Az Tryz.func63 ?_;refine aw ?_;refine rounds (S:=fun c:Int×Nat=>⟨[(0,.d (.bv (l.map Aw))),(1,nI c.1),(2,nI a)],[],0,[]⟩)
  (Inv:=fun c=>(FT l c.1/\Bf l c.2 c.1=true/\AH (CP l b a=decide (a∈SW l c.2 c.1)))\/(c.1= -1/\c.2=0/\AH (CP l b a=false))) (m:=fun c=>if c.1= -1 then 0 else c.2+1) (a:=(b,l.length)) (.inl ⟨n,o.rt b n,⟨rfl⟩⟩) ?_
 rintro⟨c,k⟩ hI IH;dsimp only at*;rcases hI with⟨⟨y,h2⟩,i,f⟩|⟨rfl,rfl,f⟩
 .exact zAI
 ·exact zBd
def Rp(l:List Bl)(x y z:Al)(b a:Int)(C:l.length<=1000)(o:Hg l)(n:FT l b)(B:0<=a):BX kT 38 [.agg [.d (.bv (l.map Aw)),.d x,.d y,.d z],nI b,nI a] []=.ok (.ret (.d (.bool (CP l b a))),[]):=by
 refine Az Tryz.func38 ?_;refine aw ?_;refine rounds (S:=fun c:Int×Nat=>⟨[(1,nI c.1),(2,nI a),(3,.ptr [0,0] 0)],[([0,0],.box [.d (.bv (l.map Aw)),.d x,.d y,.d z])],1,[]⟩)
  (Inv:=fun c=>(FT l c.1/\Bf l c.2 c.1=true/\AH (CP l b a=decide (a∈SW l c.2 c.1)))\/(c.1= -1/\c.2=0/\AH (CP l b a=false))) (m:=fun c=>if c.1= -1 then 0 else c.2+1) (a:=(b,l.length)) (.inl ⟨n,o.rt b n,⟨rfl⟩⟩) ?_
 rintro⟨c,k⟩ hI IH;dsimp only at*;rcases hI with⟨⟨A,h2⟩,i,f⟩|⟨rfl,rfl,f⟩
 .exact zAI
 ·exact zBd
def jh(p:AX)(sp ch:List (List Al))(g w:Al)(v:Cm)(a:sp.length<=1000000)(h2:ch.length<=1000000)(b:p.free.length<=1000000):BX kT 117 [.agg (pC p),.agg [.d (.bv sp),.d g,.d (.bv ch),.d w],.agg [nI v.kind,nI v.n]] []=.ok (.ret (.d (.bool (v.inB p ch.length sp.length))),[]):=by
 refine Az Tryz.func117 ?_
 (repeat' (first|simp only[go_sem, *]|(refine sx ?_ ?_<;>intro c)|refine sy AA fun x f e=>?_|simp(disch:=first|assumption|omega) only[AR]))
 all_goals simp[Cm.inB, *]
theorem OM(p:AX)(sp ch:List (List Al))(g w:Al)(l:List Cm)(c:sp.length<=1000000)(h2:ch.length<=1000000)(e:p.free.length<=1000000)(m:l.length<=1000000):BX kT 70 [.agg (pC p),.agg [.d (.bv sp),.d g,.d (.bv ch),.d w],.d (.bv (l.map AN))] []=.ok (.ret (.d (.bool (l.all (Cm.inB p ch.length sp.length)))),[]):=by
 refine Az Tryz.func70 ?_;refine aw ?_;refine Ah l (S:=fun i (_:Unit)=>⟨[(2,.d (.bv (l.map AN))),(3,.ptr [0,0] 0),(4,.ptr [0,1] 0),(7,nI i)],[([0,0],.box (pC p)),([0,1],.box [.d (.bv sp),.d g,.d (.bv ch),.d w])],2,[]⟩)
  (Inv:=fun i j _=>AH (l.all (Cm.inB p ch.length sp.length)=j.all (Cm.inB p ch.length sp.length))) (b0:=()) ⟨rfl⟩ ?_ ?_
 .rintro i y _ r f h a b;have o:=jh p sp ch g w y c h2 e
  (repeat' (first|simp only[go_sem, *]|(refine sx ?_ ?_<;>intro k)|refine sy AA fun x q n=>?_|simp(disch:=first|assumption|omega) only[AR]))
  all_goals first
  |(refine b.1 () ⟨?_⟩;rw[a.1,D9];simp only[*,FD];done)
  |(rw[a.1,D9];simp only[*,Dl];done)
 .rintro i _ f h a;refine aw ?_;rw[a.1];rfl
def P7(op:Int):BX kT 69 [nI op] []=.ok (.ret (.d (.bool (DZ op))),[]):=by
 refine Az Tryz.func69 ?_
 (repeat' (first|simp only[go_sem, *]|(refine sx ?_ ?_<;>intro a)|refine sy AA fun x c b=>?_|simp(disch:=first|assumption|omega) only[AR]))
 all_goals simp[DZ, *]
def Ou(p:AX)(g:BA)(d:CJ)(n:Int)(l:0<=g.f9)(o:p.defs[g.f9.toNat]? =some d)(i:d.be.length<=30)(j:d.ac.length<=30)(c:d.own<=g.env.length)(q:g.env.length<=10000)(s:0<=n)(t:n<=d.ac.length):BX kT 118 [.agg (pC p),.agg [nI g.f9,nI g.at_,.d (.bv (g.env.map AN))],nI n] []=.ok (.ret (nI (g.place d n)),[]):=by
 unfold CJ.own at c;refine Az Tryz.func118 ?_;by_cases f:n=0
 ·(repeat' (first|simp only[go_sem, *,BA.place]|(refine sx ?_ ?_<;>intro m)|refine sy AA fun x u r=>?_|simp(disch:=first|assumption|omega) only[AR]))
 .have e:g.env.length-d.ac.length-0+(n-1).toNat<g.env.length:=AA;obtain⟨v,b⟩:=get_some e;have h:AH (g.place d n=v.n):=⟨by
   rw[BA.place,Ci f,BA.own];simp only[AM,FN];rw[b];rfl⟩
  have a:((g.env.length:Int)-(d.ac.length:Int)+n-1).toNat=g.env.length-d.ac.length-0+(n-1).toNat:=AA;rw[<-a]at b;replace a:=AB a;have k:0<=(g.env.length:Int)-(d.ac.length:Int)+n-1:=AA;refine aw ?_;rw[h.1]
theorem cC{p:AX}{st:Bq}(r:looks p=some st):BX kT 115 [.agg (pC p)] []=.ok (.ret (.d (.bv ((B8 p st.co).map AL))),[]):=by
 have K:=Tm r;have g:=DP r;have s:=g.small;simp only[AX.small,AP,Ap]at s;obtain⟨B,C,D⟩:=s;have q:=AB g;clear g;refine Az Tryz.func115 ?_;by_cases u:p.defs.length=0
 ·(repeat' (first|simp only[go_sem, *]|(refine sx ?_ ?_<;>intro w)|refine sy AA fun x A z=>?_|simp(disch:=first|assumption|omega) only[AR,Ff]))
  refine Ah p.nodes (S:=fun i (_:Unit)=>⟨[(1,.ptr [0,0] 0),(3,.emp),(4,.d (.bv (st.co.map AL))),(5,nI i)],[([0,0],.box (pC p))],1,[]⟩)
   (Inv:=fun i t _=>True) (b0:=()) trivial ?_ ?_
  .rintro i y _ n h j _ b;have a: ¬y.op=4:=fun a=>by
    have:=NW q.1 n a;omega
   refine aw ?_;exact b.1 () trivial
  .rintro i _ h j _;have:B8 p st.co=[]:=by
    refine BI ?_;rw[B8,KA];simpa using u
   rw[this];exact au
 ·(repeat' (first|simp only[go_sem, *]|(refine sx ?_ ?_<;>intro w)|refine sy AA fun x A z=>?_|simp(disch:=first|assumption|omega) only[AR,Ff]))
  refine Ah p.nodes (S:=fun i (out:List Int)=>⟨[(1,.ptr [0,0] 0),(3,.f8 [1,1] 0 p.defs.length),(4,.d (.bv (st.co.map AL))),(5,nI i)],[([0,0],.box (pC p)),([1,1],.em 1 (out.map AL))],2,[]⟩)
   (Inv:=fun i t out=>out.length=p.defs.length/\AH (B8 p st.co=GJ st.co out t)) (b0:=List.replicate p.defs.length 0) ⟨AG,⟨rfl⟩⟩ ?_ ?_
  .rintro i y out n h j ⟨c,f⟩ b;by_cases a:y.op=4
   .obtain⟨M,N,k,v,F,H,I,m,_,_⟩:=NW q.1 n a;obtain⟨o,J⟩:=get_some (l:=out) (i:=y.n.toNat) AA;have L:y.n.toNat<p.defs.length:=AA;have m:=AB m;refine aw ?_;have e:(out.map AL).set y.n.toNat [.int .i64 v]=(out.set y.n.toNat v).map AL:=by rw[JP];rfl
    rw[e];refine b.1 (out.set y.n.toNat v) ⟨by simpa using c,⟨?_⟩⟩;rw[f.1,GJ,D4 a,m.1]
   .refine aw ?_;refine b.1 out ⟨c,⟨?_⟩⟩;rw[f.1,GJ,Ci a]
  .rintro i out h j ⟨c,f⟩;have O:List.take p.defs.length (List.map AL out)=List.map AL out:=Bi zFW;refine aw ?_;rw[f.1];rfl
theorem yX(p:AX)(s:BU)(g:BA)(d:CJ)(ch:Ik)(c i j:Nat)(r:c<=10000)(Y:i<=10000)(K:s.ce[i]? =some g)(H:0<=g.f9)(v:p.defs[g.f9.toNat]? =some d)(a:PB d)(u:d.be[j]? =some ch)(J:d.own<=g.env.length)(N:g.env.length<=10000)(ac:0<=g.place d ch.at_)(ad:g.place d ch.at_<s.ac.length)(W:p.free.length<=12)(ag:s.ac.length<=24)(ai:s.be.length<=60):
 BX kT 116 [.agg (pC p),.agg (sC s),nI c,nI i,nI j] []=.ok (.ret (.d (.bool (Lq p s d g i j c ch))),[]):=by
 unfold Lq;have Z:=AK u;have B:=a.be;have C:=a.ac;have t:=a.chan ch (AS u);have w:=Ou p g d ch.at_ H v B C J N t.1 t.2.1;have X:=AK K;have V:=AK v;replace a:=AB a;by_cases U:(s.be.length:Int)<=c
 .rw[LC AA];refine Az Tryz.func116 ?_;exact au
 .have I:c<s.be.length:=AA;obtain⟨q,P⟩:=get_some I;rw[P];dsimp only;obtain⟨sp,Q⟩:=get_some (l:=s.ac) (i:=(g.place d ch.at_).toNat) AA;have f:AH (Ak s.ac (g.place d ch.at_)=sp.dead):=⟨by simp[Ak,Q]⟩;have e:AH (PC p s d g i j q ch=(decide (q.group=i)&&(decide (q.index=j)&&(decide (q.at_=g.place d ch.at_)&&(decide (q.queue.length<=12)&&((decide (q.queue.length=0)|| !Ak s.ac q.at_)&&q.queue.all (Gb p s.be.length s.ac.length ch.many))))))):=⟨rfl⟩;refine Az Tryz.func116 ?_
  (repeat' (first|simp only[go_sem, *]|(refine sx ?_ ?_<;>intro r)|refine sy AA fun x R O=>?_|simp(disch:=first|assumption|omega) only[AR]))
  all_goals try
   have D:=e.1;have F:=f.1;clear w e f;congr 3;grind
  all_goals
   have n:AH (PC p s d g i j q ch=q.queue.all (Gb p s.be.length s.ac.length ch.many)):=⟨by
    have D:=e.1;have F:=f.1;clear w e f;grind⟩
   refine Ah q.queue (S:=fun o (_:Unit)=>⟨[(5,.ptr [0,0] 0),(6,.ptr [0,1] 0),(11,.ptr [0,2] 0),(13,.ptr [0,3] 0),(14,nI o)],[([0,0],.box (pC p)),([0,1],.box (sC s)),([0,2],.box [nI i,nI j,nI (g.place d ch.at_),.d (.bv (q.queue.map BJ))]),([0,3],.box [nI ch.at_,nI ch.many])],4,[]⟩)
    (Inv:=fun _ T _=>AH (q.queue.all (Gb p s.be.length s.ac.length ch.many)=T.all (Gb p s.be.length s.ac.length ch.many))) (b0:=()) ⟨rfl⟩ ?_ ?_
   .rintro o y _ ar L M b A;have m:=fun h=>OM p (s.ac.map Aw) (s.be.map Cy) (.bv (s.ce.map BG)) (.bv (s.waits.map Ae)) y Aa Aa AA h;rw[As,As]at m;by_cases z:(y.length:Int)=ch.many
    .have m:=m AA;have k:AH (Gb p s.be.length s.ac.length ch.many y=y.all (Cm.inB p s.be.length s.ac.length)):=⟨by
      rw[Gb,D6 z,FD]⟩
     (repeat' (first|simp only[go_sem, *]|(refine sx ?_ ?_<;>intro r)|refine sy AA fun x R O=>?_|simp(disch:=first|assumption|omega) only[AR]))
     all_goals first
     |(refine A.1 () ⟨?_⟩;rw[b.1,D9,k.1];simp only[*,FD];done)
     |(rw[n.1,b.1,D9,k.1];simp only[*,Dl];done)
    .have k:AH (Gb p s.be.length s.ac.length ch.many y=false):=⟨by
      rw[Gb,DL z,Dl]⟩
     clear m;refine aw ?_;rw[n.1,b.1,D9,k.1,Dl]
   .rintro o _ L M b;refine aw ?_;rw[n.1,b.1];rfl
def gJ(p:AX)(st:Bq)(s:BU)(a0:looks p=some st)(a5:s.small=true):BX kT 67 [.agg (pC p),.agg (sC s)] []=.ok (.ret (.d (.bool (CZ p (B8 p st.co) s 0 0 1 s.ce))),[]):=by
 have az:=cC a0;have ad:=AH.mk (DP a0);have a4:=ad.1.small;simp only[AX.small,AP,Ap]at a4;obtain⟨bo,cp,cs⟩:=a4;simp only[BU.small,AP,Ap]at a5;obtain⟨cl,c9,cn,dd⟩:=a5;have c2:(B8 p st.co).length=p.defs.length:=by rw[B8,KA];simp
 generalize U:B8 p st.co=gs at*;replace U:=AB U;refine Az Tryz.func67 ?_;refine aw ?_;refine Ah s.ce (S:=fun i (a:Nat×Nat)=>⟨[(2,.ptr [0,0] 0),(3,.ptr [0,1] 0),(5,.d (.bv (gs.map AL))),(6,nI a.1),(7,nI a.2),(8,nI i)],[([0,0],.box (pC p)),([0,1],.box (sC s))],2,[]⟩)
  (Inv:=fun i F a=>a.1<=30*i/\a.2<=30*i+1/\AH (CZ p gs s 0 0 1 s.ce=CZ p gs s i a.1 a.2 F)) (b0:=(0,1)) ⟨AG,AG,⟨rfl⟩⟩ ?_ ?_
 .rintro i g ⟨c,k⟩ cc b4 b6 ⟨b1,bl,D⟩ P;dsimp only at*;by_cases ds:g.f9<0
  .have T:AH (CZ p gs s 0 0 1 s.ce=false):=⟨by rw[D.1,CZ,AX.def?,Ci AA]⟩;refine aw ?_;rw[T.1]
  by_cases d0:(p.defs.length:Int)<=g.f9
  .have T:AH (CZ p gs s 0 0 1 s.ce=false):=⟨by rw[D.1,CZ,AX.def?,D4 AA,LC AA]⟩;refine aw ?_;rw[T.1]
  have bi:0<=g.f9:=AA;have bv:g.f9.toNat<p.defs.length:=AA;obtain⟨d,R⟩:=get_some bv;have z:=CC ad.1 R;obtain⟨v,M⟩:=get_some (l:=gs) (i:=g.f9.toNat) AA;have c6:d.own<=v/\v<=5060:=by
   obtain⟨_,_,s0,_,_,_,_,c8,be,O,_⟩:=z.node;rw[U.1,M]at O;cases O;have:=Po z.ok;omega
  have r:AH (CZ p gs s 0 0 1 s.ce=(Kh p gs s i c k g d&&CZ p gs s (i+1) (c+d.be.length) (k+d.ac.length) (s.ce.drop (i+1)))):=⟨by
   rw[D.1,CZ,AX.def?,D4 bi,R]⟩
  have o:AH (Kh p gs s i c k g d=(decide (FT s.ac g.at_)&&(decide ((g.env.length:Int)=v)&&(g.env.all (Cm.inB p s.be.length s.ac.length)&&(Dz d c k g&&FL p s d g i c 0 d.be))))):=⟨by
   rw[Kh,M];rfl⟩
  have f:=z.ok;have cx:=f.be;have c0:=f.ac;have c1:d.own=d.be.length+d.ac.length:=rfl;replace f:=AB f;replace z:=AB z;by_cases C:(g.env.length:Int)=v
  .have a7:=OM p (s.ac.map Aw) (s.be.map Cy) (.bv (s.ce.map BG)) (.bv (s.waits.map Ae)) g.env Aa Aa AA AA;rw[As,As]at a7;have c5:g.env.length<=5060:=AA;have V:d.own<=g.env.length:=AA;replace C:=AB C;have c3:=AH.mk (show gs[g.f9.toNat]? =some v from M);rw[<-C.1]at M;have de:IntKind.i64.wrap ((g.env.length:Int)-(d.ac.length:Int))=(g.env.length:Int)-(d.ac.length:Int):=wrap_id AA AA;have df:IntKind.i64.wrap ((g.env.length:Int)-(d.ac.length:Int)-(d.be.length:Int))=((g.env.length-d.be.length-d.ac.length:Nat):Int):=by rw[wrap_id AA AA];omega
   have dn:IntKind.i64.wrap ((d.be.length:Int)+(d.ac.length:Int))=(d.be.length:Int)+(d.ac.length:Int):=wrap_id AA AA
   (repeat' (first|simp only[go_sem, *]|(refine sx ?_ ?_<;>intro ag)|refine sy AA fun x a' a1=>?_|simp(disch:=first|assumption|omega) only[AR]))
   all_goals try
    have be:=r.1;have O:=o.1;clear az o r P;congr 3;grind [FT]
   have J:FT s.ac g.at_:=⟨AA,AA⟩;have H:g.env.all (Cm.inB p s.be.length s.ac.length)=true:=Bw;have I:AH (CZ p gs s 0 0 1 s.ce=((Dz d c k g&&FL p s d g i c 0 d.be)&&CZ p gs s (i+1) (c+d.be.length) (k+d.ac.length) (s.ce.drop (i+1)))):=⟨by
    rw[r.1,o.1,D6 J,D6 C.1,H];simp⟩
   replace J:=AB J;replace H:=AB H;have a2:AH (Dz d c k g=decide (g.env.drop (g.env.length-d.be.length-d.ac.length+0)=Fh c k d)):=⟨rfl⟩;clear a7 o r;refine Ah (Fh c k d) (S:=fun b (a:Nat×Nat)=>⟨[(2,.ptr [0,0] 0),(3,.ptr [0,1] 0),(5,.d (.bv (gs.map AL))),(6,nI a.1),(7,nI a.2),(8,nI i),(9,.ptr [0,2] 0),(10,.ptr [0,3] 0),(11,nI (((g.env.length-d.be.length-d.ac.length:Nat):Int))),(12,nI b)],[([0,0],.box (pC p)),([0,1],.box (sC s)),([0,2],.box [nI g.f9,nI g.at_,.d (.bv (g.env.map AN))]),([0,3],.box [.d (.bv (d.be.map BD)),.d (.bv (d.ac.map Ay)),.d (.bv (d.rules.map BC))])],4,[]⟩)
    (Inv:=fun b F a=>a.1=c+min b d.be.length/\a.2=k+(b-d.be.length)/\AH (Dz d c k g=decide (g.env.drop (g.env.length-d.be.length-d.ac.length+b)=F))) (b0:=(c,k)) ⟨AG,AG,a2⟩ ?_ ?_
   .rintro b y ⟨c',N⟩ W A av ⟨u,w,L⟩ Z;dsimp only at*;rw[Km]at A;obtain⟨e,b',bx⟩:=tG V A;have q:AH (Dz d c k g=(decide (e=y)&&decide (g.env.drop (g.env.length-d.be.length-d.ac.length+(b+1))=(Fh c k d).drop (b+1)))):=⟨by
     rw[L.1,bx,OP];simp⟩
    have ac:(b:Int)<(d.be.length:Int)+(d.ac.length:Int):=AA;have Y:(((g.env.length-d.be.length-d.ac.length:Nat):Int)+(b:Int)).toNat=g.env.length-d.be.length-d.ac.length+b:=AA;rw[<-Y]at b';have c7:0<=((g.env.length-d.be.length-d.ac.length:Nat):Int)+(b:Int):=AA;replace Y:=AB Y;have dm:IntKind.i64.wrap (((g.env.length-d.be.length-d.ac.length:Nat):Int)+(b:Int))=((g.env.length-d.be.length-d.ac.length:Nat):Int)+(b:Int):=wrap_id AA AA;have c4:AH (g.env.length<=10000):=⟨by have:=C.1;omega⟩;by_cases bs:b<d.be.length
    .have b3: ¬(d.be.length:Int)<=(b:Int):=AA;rw[Nn _ _ _ bs]at W;cases W;obtain rfl:c'=c+b:=AA;have t:=AB w;clear u w;rw[<-Int.natCast_add]at q;by_cases m:e=⟨3,((c+b:Nat):Int)⟩
     .subst m;refine aw ?_;refine Z.1 (c+b+1,N) ⟨by dsimp only;have:=t.1;omega,by dsimp only;have:=t.1;omega,⟨?_⟩⟩;rw[q.1];simp
     .have b8:(decide (e.kind=3)&&decide (e.n=((c+b:Nat):Int)))=false:=by
       rw[<-Lm,AP,Ap,Ap];rintro⟨h1,h2⟩;exact m (by cases e;simp_all)
      exact zCk
    .have b3:(d.be.length:Int)<=(b:Int):=AA;have bc:=Np c k d (j:=b-d.be.length) AA;rw[show d.be.length+(b-d.be.length)=b by omega,W]at bc;cases bc;obtain rfl:N=k+(b-d.be.length):=AA;have t:=AB u;clear u w;rw[<-Int.natCast_add]at q;by_cases m:e=⟨4,((k+(b-d.be.length):Nat):Int)⟩
     .subst m;refine aw ?_;refine Z.1 (c',k+(b-d.be.length)+1) ⟨by dsimp only;have:=t.1;omega,by dsimp only;have:=t.1;omega,⟨?_⟩⟩;rw[q.1];simp
     .have b8:(decide (e.kind=4)&&decide (e.n=((k+(b-d.be.length):Nat):Int)))=false:=by
       rw[<-Lm,AP,Ap,Ap];rintro⟨h1,h2⟩;exact m (by cases e;simp_all)
      exact zCk
   .rintro b ⟨c',N⟩ A av ⟨u,w,L⟩;dsimp only at*;have B:=A.1;rw[Km]at B;obtain rfl:c'=c+d.be.length:=AA;obtain rfl:N=k+d.ac.length:=AA;clear u w;have ac: ¬(b:Int)<(d.be.length:Int)+(d.ac.length:Int):=AA;replace B:=AB B;have a3:AH (Dz d c k g=true):=⟨by
     rw[L.1,EX (by have:=B.1;omega)];simp⟩
    have ar:AH (CZ p gs s 0 0 1 s.ce=(FL p s d g i c 0 d.be&&CZ p gs s (i+1) (c+d.be.length) (k+d.ac.length) (s.ce.drop (i+1)))):=⟨by
     rw[I.1,a3.1,FD]⟩
    refine aw ?_;clear L A B av ac a2 I b;refine Ah d.be (S:=fun j (_:Unit)=>⟨[(2,.ptr [0,0] 0),(3,.ptr [0,1] 0),(5,.d (.bv (gs.map AL))),(6,nI (((c+d.be.length:Nat):Int))),(7,nI (((k+d.ac.length:Nat):Int))),(8,nI i),(10,.ptr [0,2] 0),(14,nI j)],[([0,0],.box (pC p)),([0,1],.box (sC s)),([0,2],.box [.d (.bv (d.be.map BD)),.d (.bv (d.ac.map Ay)),.d (.bv (d.rules.map BC))])],3,[]⟩)
     (Inv:=fun j F _=>AH (FL p s d g i c 0 d.be=FL p s d g i c j F)) (b0:=()) ⟨rfl⟩ ?_ ?_
    .rintro j ch _ X b5 b7 h bk;have K:=Q4 a3.1 V J.1 H.1 (n:=ch.at_) (f.1.chan ch (AS X)).1 (f.1.chan ch (AS X)).2.1;have ai:=yX p s g d ch (c+j) i j AA AA cc bi R f.1 X V AA K.1 K.2 bo cl cn;have dq:IntKind.i64.wrap (((c+d.be.length:Nat):Int)-(d.be.length:Int))=(c:Int):=by rw[wrap_id AA AA];omega
     have dr:IntKind.i64.wrap ((c:Int)+(j:Int))=((c+j:Nat):Int):=zFa
     replace K:=AB K;rw[FL]at h;cases a6:Lq p s d g i j (c+j) ch with
     |true=>
      rw[a6]at ai h;refine aw ?_;refine bk.1 () ⟨?_⟩;rw[h.1,FD]
     |false=>
      rw[a6]at ai h;refine aw ?_;rw[ar.1,h.1,Dl,Dl]
    .rintro j _ b5 b7 h;refine aw ?_;refine P.1 (c+d.be.length,k+d.ac.length) ⟨AU,AU,⟨?_⟩⟩;dsimp only;rw[ar.1,h.1,FL,FD]
  ·(repeat' (first|simp only[go_sem, *]|(refine sx ?_ ?_<;>intro ag)|refine sy AA fun x a' a1=>?_|simp(disch:=first|assumption|omega) only[AR]))
   all_goals
    have be:=r.1;have O:=o.1;clear az o r P;congr 3;grind [FT]
 .rintro i ⟨c,k⟩ b4 b6 ⟨b1,bl,D⟩;dsimp only at*;have b2:AH (CZ p gs s 0 0 1 s.ce=(decide (c=s.be.length)&&decide (k=s.ac.length))):=⟨by rw[D.1,CZ]⟩
  (repeat' (first|simp only[go_sem, *]|(refine sx ?_ ?_<;>intro ag)|refine sy AA fun x a' a1=>?_|simp(disch:=first|assumption|omega) only[AR]))
  all_goals
   rw[b2.1];congr 3;grind
def DI(p:AX)(s:BU):Int:=match looks p with|some st=>if EH p st.co s=true then 0 else 2|none=>2
def lU(p:AX)(s:BU):BX kT 32 [.agg (pC p),.agg (sC s)] []=.ok (.ret (nI (DI p s)),[]):=by
 have R:=lR p;cases g:looks p with
 |none=>
  have r:DI p s=2:=by rw[DI,g]
  have L:Yg p=2:=by rw[Yg,g]
  rw[L]at R;rw[r];refine Az Tryz.func32 ?_;exact au
 |some st=>
  have L:Yg p=0:=by rw[Yg,g]
  rw[L]at R;have r:AH (DI p s=if EH p st.co s=true then 0 else 2):=⟨by rw[DI,g]⟩;by_cases c:s.small=true
  .have C:AH (EH p st.co s=false->DI p s=2):=⟨fun h=>by rw[r.1,h];rfl⟩;have K:=AH.mk (DP g);have X:=K.1.small;simp only[AX.small,AP,Ap]at X;obtain⟨a4,a5,a6⟩:=X;have j:AH (EH p st.co s=(GN s.ac&&(HJ s.ac (s.ac.drop 1)&&(CZ p (B8 p st.co) s 0 0 1 s.ce&&s.waits.all (Cc p st.co s))))):=⟨by rw[EH,c,FD]⟩;have U:=gJ p st s g c;have be:=Tm g;simp only[BU.small,AP,Ap]at c;obtain⟨bx,b1,b2,b3⟩:=c;have b4: ¬(24:Int)<s.ac.length:=AA;have b5: ¬(40:Int)<s.ce.length:=AA;have b6: ¬(60:Int)<s.be.length:=AA;have b7: ¬(40:Int)<s.waits.length:=AA;have Y:=dz s.ac (.bv (s.ce.map BG)) (.bv (s.be.map Cy)) (.bv (s.waits.map Ae)) AA;cases H:GN s.ac with
   |false=>
    rw[H]at Y j;refine Az Tryz.func32 ?_;refine aw ?_;all_goals first
    |(exfalso;omega)
    |rw[C.1 zFk]
   |true=>
    rw[H,FD]at j;rw[H]at Y;have B:=OG H;have bi:=B.top;replace B:=AB B;refine Az Tryz.func32 ?_;refine aw ?_;refine Ah (s.ac.drop 1) (S:=fun i (_:Unit)=>⟨[(2,.ptr [0,0] 0),(3,.ptr [0,1] 0),(5,nI ((i:Int)+1))],[([0,0],.box (pC p)),([0,1],.box (sC s))],2,[]⟩)
     (Inv:=fun i P _=>AH (HJ s.ac (s.ac.drop 1)=HJ s.ac P)) (b0:=()) ⟨rfl⟩ ?_ ?_
    .rintro i y _ J m F b A;rw[Hm]at J;rw[Ii]at m;have O:((i:Int)+1).toNat=1+i:=AA;rw[<-O]at J;replace O:=AB O;have V:(i:Int)+1<s.ac.length:=AA;have a7:0<=(i:Int)+1:=AA;have ar:FT s.ac y.pp:=by
      have Q:=B.1.rt ((i:Int)+1) ⟨AA,AA⟩;obtain⟨k,ai⟩: ∃k,s.ac.length=k+1:=⟨s.ac.length-1,AA⟩;rw[ai]at Q;have h2:=(Gn AA Q).1
      rwa [LH J]at h2
     obtain⟨bs,bv⟩:=ar;obtain⟨z,a⟩:=get_some (l:=s.ac) (i:=y.pp.toNat) AA;have q:AH (Ak s.ac y.pp=z.dead):=⟨by simp[Ak,a]⟩;rw[HJ]at b;cases N:y.dead<;>cases ad:z.dead;all_goals (refine aw ?_)
     all_goals first
     |(refine A.1 () ⟨?_⟩;rw[b.1,q.1,N,ad];rfl)
     |(refine A.1 () ⟨?_⟩;rw[b.1,N];rfl)
     |(rw[C.1 (by rw[j.1,b.1,q.1,N,ad];rfl)])
    .rintro i _ m F b;have D:=m.1;rw[Ii]at D;have V: ¬(i:Int)+1<s.ac.length:=AA;replace D:=AB D;rw[HJ]at b;cases M:CZ p (B8 p st.co) s 0 0 1 s.ce with
     |false=>
      rw[M]at U;refine aw ?_;rw[C.1 (by rw[j.1,M,Dl,Gt])]
     |true=>
      rw[M]at U j;refine aw ?_;have av:=b;clear b m D F V;refine Ah s.waits (S:=fun i (_:Unit)=>⟨[(2,.ptr [0,0] 0),(3,.ptr [0,1] 0),(6,.d (.bv (st.co.map AL))),(7,nI i)],[([0,0],.box (pC p)),([0,1],.box (sC s))],2,[]⟩)
       (Inv:=fun i P _=>AH (EH p st.co s=P.all (Cc p st.co s))) (b0:=()) ⟨?_⟩ ?_ ?_
      .rw[j.1,av.1,FD,FD]
      .rintro i w _ J m F b A;have n:AH (Cc p st.co s w=(decide (FT s.ac w.at_)&&(!Ak s.ac w.at_&&(decide (0<=w.node)&&((match p.nodes[w.node.toNat]? with|some x=>DZ x.op|none=>false)&&(decide ((w.env.length:Int)=(st.co[w.node.toNat]?).getD 0)&&w.env.all (Cm.inB p s.be.length s.ac.length))))))):=⟨rfl⟩
       have f:AH (Cc p st.co s w=false->DI p s=2):=⟨fun h=>C.1 (by rw[b.1,D9,h,Dl])⟩;by_cases a1:w.at_<0
       .have a:AH (DI p s=2):=⟨f.1 (by rw[n.1,DL (show¬FT s.ac w.at_ from fun h=>by have:=h.1;omega)];simp)⟩;refine aw ?_;all_goals rw[a.1]
       by_cases a2:(s.ac.length:Int)<=w.at_
       .have a:AH (DI p s=2):=⟨f.1 (by rw[n.1,DL (show¬FT s.ac w.at_ from fun h=>by have:=h.2;omega)];simp)⟩;refine aw ?_;all_goals rw[a.1]
       have a3:0<=w.at_:=AA;obtain⟨sp,az⟩:=get_some (l:=s.ac) (i:=w.at_.toNat) AA;have q:AH (Ak s.ac w.at_=sp.dead):=⟨by simp[Ak,az]⟩;have ag:AH (decide (FT s.ac w.at_)=true):=⟨D6 ⟨AA,AA⟩⟩;by_cases bk:w.node<0
       .have a:AH (DI p s=2):=⟨f.1 (by rw[n.1,DL (show¬0<=w.node by omega)];simp)⟩
        exact zBa
       by_cases bl:(p.nodes.length:Int)<=w.node
       .have a:AH (DI p s=2):=⟨f.1 (by rw[n.1,LC (show p.nodes.length<=w.node.toNat by omega)];simp)⟩
        exact zBa
       have bo:0<=w.node:=AA;obtain⟨x,e⟩:=get_some (l:=p.nodes) (i:=w.node.toNat) AA;obtain⟨v,_,I,v0,v1,_⟩:=K.1.node _ x e;have a':=AB K.1.len;have bc:=AK I;by_cases t:(w.env.length:Int)=v
       .have a0:=OM p (s.ac.map Aw) (s.be.map Cy) (.bv (s.ce.map BG)) (.bv (s.waits.map Ae)) w.env Aa Aa AA AA;rw[As,As]at a0;have Z:AH (Cc p st.co s w=(decide (FT s.ac w.at_)&&(!Ak s.ac w.at_&&(DZ x.op&&w.env.all (Cm.inB p s.be.length s.ac.length))))):=⟨by
         rw[n.1,D6 (show 0<=w.node by omega),e,I];simp[t]⟩
        rw[<-t]at I;replace t:=AB t;cases W:sp.dead with
        |true=>
         have a:AH (DI p s=2):=⟨f.1 (by rw[Z.1,q.1,W];simp)⟩
         exact zBX
        |false=>
         have ac:AH (Cc p st.co s w=(DZ x.op&&w.env.all (Cm.inB p s.be.length s.ac.length))):=⟨by
          rw[Z.1,ag.1,q.1,W];simp⟩
         (repeat' (first|simp only[go_sem, *,P7]|(refine sx ?_ ?_<;>intro o)|refine sy AA fun x e u=>?_|simp(disch:=first|assumption|omega) only[AR]))
         all_goals first
         |(refine A.1 () ⟨?_⟩;rw[b.1,D9,ac.1];simp only[*,FD];done)
         |(rw[f.1 (by rw[ac.1];simp only[*,Dl,Gt])];done)
       .have a:AH (DI p s=2):=⟨f.1 (by rw[n.1,I,DL (show¬(w.env.length:Int)=(some v).getD 0 from t)];simp)⟩
        exact zBX
      .rintro i _ m F b;have a:AH (DI p s=0):=⟨by rw[r.1,b.1];rfl⟩;refine aw ?_;rw[a.1]
  .have T:DI p s=2:=by
    rw[r.1,EH];simp[c]
   rw[T];have c:AH (¬(s.ac.length<=24/\s.ce.length<=40/\s.be.length<=60/\s.waits.length<=40)):=⟨by simpa[BU.small]using c⟩;clear T;refine Az Tryz.func32 ?_
   (repeat' (first|simp only[go_sem, *]|(refine sx ?_ ?_<;>intro o)|refine sy AA fun x e u=>?_|simp(disch:=first|assumption|omega) only[AR]))
   all_goals (have:=c.1;exfalso;omega)
def Wx{p:AX}{s:BU}{d:CJ}{g:BA}{i c:Nat}: ∀{l:List Ik} {j:Nat},FL p s d g i c j l=true-> ∀(t:Nat) (ch:Ik),l[t]? =some ch->Lq p s d g i (j+t) (c+(j+t)) ch=true
 |x::l,j,h,t,ch,ht=>by
  rw[FL,AP]at h;cases t with
  |zero=>
   simp only[F4,Co]at ht;subst ht;exact h.1
  |succ t=>
   rw[GS]at ht;have:=Wx h.2 t ch ht
   rwa [show j+1+t=j+(t+1) by omega]at this
def Ur{p:AX}(n:BP p co){s:BU}: ∀(l:List BA) (i c k:Nat),CZ p (B8 p co) s i c k l=true->
 (∀g∈l,g.env.length<=10000)/\ ∀a,c<=a->a<s.be.length-> ∃q g d ch i j,s.be[a]? =some q/\PC p s d g i j q ch=true/\ch.many<=3
 |[],i,c,k,h=>by
  rw[CZ,AP,Ap]at h;exact⟨fun g w=>(by cases w),fun a e h2=>AA⟩
 |g::l,i,c,k,h=>by
  rw[CZ]at h;cases b:p.def? g.f9 with
  |none=>rw[b]at h;cases h
  |some d=>
   rw[b]at h;simp only[AP]at h;obtain⟨e,h2⟩:=h;obtain⟨x,z⟩:=Ur n l _ _ _ h2;rw[AX.def?]at b;split at b
   .rename_i B;have f:=CC n b;rw[Kh]at e;simp only[AP,Ap]at e;obtain⟨_,r,_,_,v⟩:=e;obtain⟨_,_,s0,_,_,_,_,H,I,A,_⟩:=f.node;rw[A]at r;have F:=Po f.ok;simp only[GO]at r;refine⟨fun y m=>?_,fun a C u=>?_⟩
    .rcases D0.1 m with rfl|m
     .omega
     .exact x y m
    .by_cases D:a<c+d.be.length
     .obtain⟨ch,o⟩:=get_some (l:=d.be) (i:=a-c) AA;have:=Wx v (a-c) ch o;rw[show c+(0+(a-c))=a by omega,Lq]at this;cases t:s.be[a]? with
      |none=>rw[t]at this;cases this
      |some q=>
       rw[t]at this;exact⟨q,g,d,ch,_,_,rfl,this,(f.ok.chan ch (AS o)).2.2.2⟩
     .exact z a AA u
   .cases b
def P0{p:AX}{st:Bq}(z:looks p=some st){s:BU}(h:EH p st.co s=true):s.Fits:=by
 have c:=DP z;simp only[EH,BU.small,AP,Ap]at h;obtain⟨⟨D,F,o,H⟩,_,_,w,B⟩:=h;obtain⟨g1,r⟩:=Ur c _ _ _ _ w;refine⟨AA,AA,o,AA,fun x b=>by have:=g1 x b;omega,fun x b=>?_,fun x b=>?_⟩
 .obtain⟨a,e⟩:=II b;have t:=(BV.1 e).1;obtain⟨q,g,d,ch,i,j,m,l,J⟩:=r a AA t;rw[e]at m;cases m;simp only[PC,AP,Ap,D3]at l;obtain⟨_,_,_,I,_,u⟩:=l;refine⟨AA,fun y C=>?_⟩;have:=u y C;simp only[Gb,AP,Ap]at this;omega
 .have:=D3.1 B x b;simp only[Cc,AP,Ap]at this;obtain⟨_,_,_,k,f,_⟩:=this;cases n:p.nodes[x.node.toNat]? with
  |none=>rw[n]at k;cases k
  |some y=>
   obtain⟨v,_,A,v0,v1,_⟩:=c.node _ y n;rw[A]at f;simp only[GO]at f;omega
def Hn(p:AX)(l:List BA):Nat×Nat:=l.foldl (fun a g=>match p.def? g.f9 with|some d=>(a.1+d.be.length,a.2+d.ac.length)|none=>a) (0,1)
structure NG(p:AX)(sz:List Int)(s:BU)(i:Nat)(g:BA)(d:CJ):Prop where
 f9:p.def? g.f9=some d
 at_:FT s.ac g.at_
 len:(g.env.length:Int)=((B8 p sz)[g.f9.toNat]?).getD 0
 lc:g.env.all (Cm.inB p s.be.length s.ac.length)=true
 ws:Dz d (Hn p (s.ce.take i)).1 (Hn p (s.ce.take i)).2 g=true
 be: ∀(j:Nat) ch,d.be[j]? =some ch-> ∃q,s.be[(Hn p (s.ce.take i)).1+j]? =some q/\q.group=i/\q.index=j/\q.at_=g.place d ch.at_
structure ER(p:AX)(s:BU)(q:HD):Prop where
 len:q.queue.length<=12
 dead:q.queue.length=0\/Ak s.ac q.at_=false
 msgs: ∀m∈q.queue,Gb p s.be.length s.ac.length (ET p s q) m=true
structure Fo(p:AX)(sz:List Int)(s:BU):Prop where
 small:s.small=true
 tree:Hg s.ac
 dead: ∀(i:Nat) x,1<=i->s.ac[i]? =some x->x.dead=true\/Ak s.ac x.pp=false
 grp: ∀(i:Nat) g,s.ce[i]? =some g-> ∃d,NG p sz s i g d
 tot:Hn p s.ce=(s.be.length,s.ac.length)
 que: ∀(c:Nat) q,s.be[c]? =some q->ER p s q
 wait: ∀w∈s.waits,Cc p sz s w=true
variable{m:List Bl}
def UO{l:List Bl}:HJ l m=true↔ ∀x∈m,x.dead=true\/Ak l x.pp=false:=by
 induction m with
 |nil=>simp[HJ]
 |cons x m a=>
  rw[HJ,AP,a];simp only[I8,HW,D0,HE]
def Xk(p:AX)(l:List BA)(g:BA){d:CJ}(h:p.def? g.f9=some d):Hn p (l++[g])=((Hn p l).1+d.be.length,(Hn p l).2+d.ac.length):=by
 unfold Hn;rw[List.foldl_append];simp only[Mp,List.foldl_nil,h]
def Xl{p:AX}{l:List BA}{i:Nat}{g:BA}{d:CJ}(a:l[i]? =some g)(h:p.def? g.f9=some d):Hn p (l.take (i+1))=((Hn p (l.take i)).1+d.be.length,(Hn p (l.take i)).2+d.ac.length):=by
 rw[GC,a];exact Xk p _ g h
def PO{p:AX}{s:BU}{d:CJ}{g:BA}{i c:Nat}: ∀{l:List Ik} {j:Nat},FL p s d g i c j l=true↔ ∀(t:Nat) ch,l[t]? =some ch->Lq p s d g i (j+t) (c+(j+t)) ch=true
 |[],j=>by simp[FL]
 |x::l,j=>by
  rw[FL,AP,PO (j:=j+1)];constructor
  .rintro⟨h1,h2⟩ t ch a;cases t with
   |zero=>
    simp only[F4,Co]at a;subst a;exact h1
   |succ t=>
    rw[GS]at a;have:=h2 t ch a
    rwa [show j+1+t=j+(t+1) by omega]at this
  .intro h;refine⟨h 0 x rfl,fun t ch a=>?_⟩;have:=h (t+1) ch (by rw[GS];exact a)
   rwa [show j+(t+1)=j+1+t by omega]at this
def Uu{p:AX}{sz:List Int}{s:BU}: ∀{l:List BA} {i:Nat},s.ce.drop i=l->i<=s.ce.length->
 (CZ p (B8 p sz) s i (Hn p (s.ce.take i)).1 (Hn p (s.ce.take i)).2 l=true↔Hn p s.ce=(s.be.length,s.ac.length)/\ ∀(k:Nat) g,i<=k->s.ce[k]? =some g-> ∃d,p.def? g.f9=some d/\Kh p (B8 p sz) s k (Hn p (s.ce.take k)).1 (Hn p (s.ce.take k)).2 g d=true)
 |[],i,hd,hi=>by
  have m:s.ce.length<=i:=by
   have:=congrArg List.length hd;simp at this;omega
  rw[CZ,AP,Ap,Ap,Bi m];constructor
  .rintro⟨a,h2⟩;exact⟨by rw[<-a,<-h2],fun k g n b=>by have:=AK b;omega⟩
  .rintro⟨h,_⟩;rw[h];exact⟨rfl,rfl⟩
 |g::l,i,hd,hi=>by
  have b:s.ce[i]? =some g:=by
   have:=congrArg (fun l=>l[0]?) hd;simpa using this
  have m:=AK b;have r:s.ce.drop (i+1)=l:=by
   rw[Ag b]at hd;exact(To hd).2
  rw[CZ];cases f:p.def? g.f9 with
  |none=>
   simp only[AM,false_iff];rintro⟨_,h⟩;obtain⟨d,a,_⟩:=h i g (Es _) b;rw[f]at a;cases a
  |some d=>
   have o:=Uu (p:=p) (sz:=sz) (s:=s) r m;rw[Xl b f]at o;simp only[AP,o];constructor
   .rintro⟨a,h2,e⟩;refine⟨h2,fun k j n c=>?_⟩;by_cases t:k=i
    .subst t;rw[b]at c;cases c;exact⟨d,f,a⟩
    .exact e k j AA c
   .rintro⟨a,h2⟩;obtain⟨u,e,q⟩:=h2 i g (Es _) b;rw[f]at e;cases e;exact⟨q,a,fun k j n c=>h2 k j AA c⟩
variable{ch:Ik}
def Mi{p:AX}{s:BU}{i:Nat}{g:BA}{d:CJ}{q:HD}(f:s.ce[i]? =some g)(a:p.def? g.f9=some d)(c:d.be[j]? =some ch)(b:q.group=i)(h2:q.index=j):ET p s q=ch.many:=by
 have e:p.defs[g.f9.toNat]? =some d:=by
  rw[AX.def?]at a;split at a
  .exact a
  .cases a
 simp[ET,b,h2,f,e,c]
def Fx{p:AX}{d:CJ}(h:p.def? n=some d):0<=n/\p.defs[n.toNat]? =some d:=by
 rw[AX.def?]at h;split at h
 .exact⟨Bw,h⟩
 .cases h
def j9{p:AX}{sz:List Int}{s:BU}(e: ∀(i:Nat) g,s.ce[i]? =some g-> ∃d,NG p sz s i g d): ∀(n:Nat),n<=s.ce.length-> ∀c,c<(Hn p (s.ce.take n)).1-> ∃i g d j ch,i<n/\s.ce[i]? =some g/\NG p sz s i g d/\d.be[j]? =some ch/\c=(Hn p (s.ce.take i)).1+j
 |0,_,c,h=>by simp[Hn]at h
 |n+1,hn,c,h=>by
  obtain⟨g,a⟩:=get_some (l:=s.ce) (i:=n) AA;obtain⟨d,b⟩:=e n g a;rw[Xl a b.f9]at h;by_cases f:c<(Hn p (s.ce.take n)).1
  .obtain⟨i,g,d,j,ch,m,h2⟩:=j9 e n AA c f;exact⟨i,g,d,j,ch,AA,h2⟩
  .obtain⟨ch,k⟩:=get_some (l:=d.be) (i:=c-(Hn p (s.ce.take n)).1) (by dsimp only at h;omega);exact⟨n,g,d,_,ch,AA,a,b,k,AA⟩
structure gQ(p:AX)(sz:List Int)(s:BU)(c:Nat)(q:HD)(i j:Nat)(g:BA)(d:CJ)(ch:Ik):Prop where
 grp:s.ce[i]? =some g
 st:NG p sz s i g d
 cha:d.be[j]? =some ch
 at_:c=(Hn p (s.ce.take i)).1+j
 group:q.group=i
 index:q.index=j
 place:q.at_=g.place d ch.at_
def Fo.chn{p:AX}{sz:List Int}{s:BU}(n: ∀(i:Nat) g,s.ce[i]? =some g-> ∃d,NG p sz s i g d)(o:Hn p s.ce=(s.be.length,s.ac.length)){c:Nat}{q:HD}(h:s.be[c]? =some q): ∃i j g d ch,gQ p sz s c q i j g d ch:=by
 obtain⟨i,g,d,j,ch,r,h2,a,b,e⟩:=j9 n s.ce.length (Es _) c (by rw[D2,o];exact AK h);obtain⟨t,f,k,l,m⟩:=a.be j ch b;rw[<-e,h]at f;cases f;exact⟨i,j,g,d,ch,h2,a,b,e,k,l,m⟩
def uQ{p:AX}{sz:List Int}{s:BU}(h:EH p sz s=true):Fo p sz s:=by
 simp only[EH,AP]at h;obtain⟨z,h2,A,f,B⟩:=h;have f:=(Uu (p:=p) (sz:=sz) (s:=s) (l:=s.ce) (i:=0) rfl AA).1 f;have key: ∀(i:Nat) g,s.ce[i]? =some g-> ∃d,NG p sz s i g d/\ ∀(j:Nat) ch,d.be[j]? =some ch-> ∃q,s.be[(Hn p (s.ce.take i)).1+j]? =some q/\PC p s d g i j q ch=true:=by
  intro i g k;obtain⟨d,o,a⟩:=f.2 i g AA k;simp only[Kh,AP,Ap]at a;obtain⟨g1,v,w,y,n⟩:=a;have n:=PO.1 n;have key: ∀(j:Nat) ch,d.be[j]? =some ch-> ∃q,s.be[(Hn p (s.ce.take i)).1+j]? =some q/\PC p s d g i j q ch=true:=by
   intro j ch r;have:=n j ch r;rw[I9,Lq]at this;split at this
   .rename_i q e;exact⟨q,e,this⟩
   .cases this
  refine⟨d,⟨o,g1,v,w,y,fun j ch r=>?_⟩,key⟩;obtain⟨q,e,a⟩:=key j ch r;simp only[PC,AP,Ap]at a;exact⟨q,e,a.1,a.2.1,a.2.2.1⟩
 have t: ∀(i:Nat) g,s.ce[i]? =some g-> ∃d,NG p sz s i g d:=fun i g k=>by
  obtain⟨d,o,_⟩:=key i g k;exact⟨d,o⟩
 refine⟨z,OG h2,fun i x k H=>UO.1 A x ?_,t,f.1,fun c q e=>?_,D3.1 B⟩
 .rw[Ok];exact⟨i-1,by rw[Hm,show 1+(i-1)=i by omega];exact H⟩
 .obtain⟨i,j,g,d,ch,b⟩:=Fo.chn t f.1 e;obtain⟨I,C,D⟩:=key i g b.grp;have:=C.f9;rw[b.st.f9]at this;cases this;obtain⟨J,u,a⟩:=D j ch b.cha;rw[<-b.at_,e]at u;cases u;simp only[PC,AP,Ap,I8,HW,D3]at a;exact⟨a.2.2.2.1,a.2.2.2.2.1,fun m F=>by rw[Mi b.grp b.st.f9 b.cha b.group b.index];exact a.2.2.2.2.2 m F⟩
def xP{p:AX}{sz:List Int}{s:BU}(h:Fo p sz s):EH p sz s=true:=by
 simp only[EH,AP];refine⟨h.small,xe h.tree,UO.2 fun x t=>?_,(Uu (p:=p) (sz:=sz) (s:=s) (l:=s.ce) (i:=0) rfl AA).2 ⟨h.tot,fun i g b e=>?_⟩,D3.2 h.wait⟩
 .obtain⟨i,b⟩:=II t;rw[Hm]at b;exact h.dead _ x AA b
 .obtain⟨d,a⟩:=h.grp i g e;refine⟨d,a.f9,?_⟩;simp only[Kh,AP,Ap];refine⟨a.at_,a.len,a.lc,a.ws,PO.2 fun j ch f=>?_⟩;obtain⟨q,k,n,o,u⟩:=a.be j ch f;have c:=h.que _ q k;rw[I9,Lq,k];simp only[PC,AP,Ap,I8,HW,D3];exact⟨n,o,u,c.len,c.dead,fun m r=>by rw[<-Mi e a.f9 f n o];exact c.msgs m r⟩
structure ZV(s s':BU):Prop where
 sp: ∀(i:Nat) x,s.ac[i]? =some x->s'.ac[i]? =some x
 gr: ∀(i:Nat) g,s.ce[i]? =some g->s'.ce[i]? =some g
 ch: ∀(c:Nat) q,s.be[c]? =some q-> ∃l,s'.be[c]? =some {q with queue:=q.queue++l}
def Jd(s:BU):ZV s s:=⟨fun _ _ h=>h,fun _ _ h=>h,fun c q h=>⟨[],by simpa using h⟩⟩
def nN{a b c:BU}(e:ZV a b)(h2:ZV b c):ZV a c:=by
 refine⟨fun i x h=>h2.sp i x (e.sp i x h),fun i x h=>h2.gr i x (e.gr i x h),fun i q h=>?_⟩;obtain⟨l,f⟩:=e.ch i q h;obtain⟨j,g⟩:=h2.ch i _ f;exact⟨l++j,by rw[g];simp⟩
def XV{β:Type}{a:List α}{b:List β}(h: ∀(i:Nat) x,a[i]? =some x-> ∃y,b[i]? =some y):a.length<=b.length:=by
 by_cases f:a.length=0
 .omega
 .obtain⟨x,c⟩:=get_some (l:=a) (i:=a.length-1) AA;obtain⟨y,e⟩:=h _ x c;have:=AK e;omega
variable{s':BU}
def ZV.ns{s:BU}(h:ZV s s'):s.ac.length<=s'.ac.length:=XV fun i x a=>⟨_,h.sp i x a⟩
def ZV.nc{s:BU}(h:ZV s s'):s.be.length<=s'.be.length:=XV fun i x b=>by obtain⟨l,a⟩:=h.ch i x b;exact⟨_,a⟩
variable{nc' ns':Nat}
def ux{p:AX}{nc b:Nat}{v:Cm}(i:nc<=nc')(h2:b<=ns')(h:v.inB p nc b=true):v.inB p nc' ns'=true:=by
 unfold Cm.inB at*;split
 .rename_i a;simpa[a]using h
 .rename_i c;rw[Ci c]at h;split
  .rename_i a;simpa[a]using h
  .rename_i e;rw[Ci e]at h;split
   .rename_i a;rw[D4 a]at h;simp only[AP,Ap]at*;omega
   .rename_i f;rw[Ci f]at h;split
    .rename_i a;rw[D4 a]at h;simp only[AP,Ap]at*;omega
    .rename_i g;rw[Ci g]at h;exact h
def H7{p:AX}{nc a:Nat}{l:List Cm}(b:nc<=nc')(h2:a<=ns')(h:l.all (Cm.inB p nc a)=true):l.all (Cm.inB p nc' ns')=true:=by
 rw[D3]at*;exact fun v c=>ux b h2 (h v c)
def Jf{l b:List Bl}{i:Int}(h:l.length<=b.length)(a:FT l i):FT b i:=⟨a.1,by have:=a.2;omega⟩
def Lx{s:BU}(h:ZV s s'){i:Int}(a:FT s.ac i):Ak s'.ac i=Ak s.ac i:=by
 obtain⟨x,b⟩:=get_some (l:=s.ac) (i:=i.toNat) zFK;rw[Ak,Ak,h.sp _ _ b,b]
def rI{p:AX}{nc h:Nat}{env:List Cm}(j:env.all (Cm.inB p nc h)=true)(x:B3)(e:x.formed env.length=true):(x.value env).inB p nc h=true:=by
 obtain⟨op,n,m⟩:=x;by_cases f:op=1
 .subst f;rw[SQ];rcases m with _|⟨a,_|⟨b,_|⟨c,l⟩⟩⟩<;>simp[B3.formed]at e;simp[Cm.inB,e]
 by_cases h2:op=2
 .subst h2;rw[P5];obtain⟨w,u⟩:=Nd e;obtain⟨v,g⟩:=get_some (l:=env) (i:=n.toNat) AA;rw[g];exact D3.1 j v (AS g)
 obtain⟨o,q,r,a,b,rfl,s,t⟩:=PW e f h2;rw[SO env op n a b f h2];generalize H2 op (cd (a.value env)) (cd (b.value env))=k;have: -1000000000<=MQ k/\MQ k<=1000000000:=by unfold MQ;omega
 simp[Cm.inB,this]
def jW{p:AX}{sz:List Int}{s:BU}(h:Fo p sz s){l:List HD}(b:l.length=s.be.length)(n: ∀(c:Nat) q,s.be[c]? =some q-> ∃m,l[c]? =some {q with queue:=m}/\ER p s {q with queue:=m}):Fo p sz {s with be:=l}:=by
 have x:=h.small;simp only[BU.small,AP,Ap]at x;refine⟨by simp only[BU.small,AP,Ap];omega,h.tree,h.dead,fun i g t=>?_,by rw[b];exact h.tot,fun c q k=>?_,fun w y=>?_⟩
 .obtain⟨d,a⟩:=h.grp i g t;refine⟨d,a.f9,a.at_,a.len,by rw[b];exact a.lc,a.ws,fun j ch u=>?_⟩;obtain⟨q,r,h2⟩:=a.be j ch u;obtain⟨m,e,_⟩:=n _ q r;exact⟨_,e,h2⟩
 .obtain⟨z,o⟩:=get_some (l:=s.be) (i:=c) (by rw[<-b];exact AK k);obtain⟨m,e,f⟩:=n c z o;rw[e]at k;cases k;exact⟨f.len,f.dead,fun m v=>by rw[b];exact f.msgs m v⟩
 .have:=h.wait w y;simpa only[Cc,b]using this
def X0{p:AX}{sz:List Int}{s:BU}(h:Fo p sz s){c:Nat}{q:HD}(b:s.be[c]? =some q){l:List (List Cm)}(g:ER p s {q with queue:=l}):Fo p sz {s with be:=s.be.set c {q with queue:=l}}:=by
 refine jW h AG fun a f h2=>?_;rw[IF];by_cases e:c=a
 .subst e;rw[b]at h2;cases h2;rw[D4 rfl,D4 (AK b)];exact⟨l,rfl,g⟩
 .rw[Ci e];exact⟨f.queue,h2,h.que a f h2⟩
def nK{s:BU}{c:Nat}{q:HD}(a:s.be[c]? =some q)(l:List (List Cm)):ZV s {s with be:=s.be.set c {q with queue:=q.queue++l}}:=by
 refine⟨fun _ _ h=>h,fun _ _ h=>h,fun b f h2=>?_⟩;dsimp only;rw[IF];by_cases e:c=b
 .subst e;rw[a]at h2;cases h2;rw[D4 rfl,D4 (AK a)];exact⟨l,rfl⟩
 .rw[Ci e];exact⟨[],by simpa using h2⟩
def O2{p:AX}{sz:List Int}{s:BU}(h:Fo p sz s){l:List Gg}(k:l.length<=40)(j: ∀w∈l,Cc p sz s w=true):Fo p sz {s with waits:=l}:=by
 have f:=h.small;simp only[BU.small,AP,Ap]at f;exact⟨by simp only[BU.small,AP,Ap];omega,h.tree,h.dead,fun i g e=>by obtain⟨d,a⟩:=h.grp i g e;exact⟨d,a.f9,a.at_,a.len,a.lc,a.ws,a.be⟩,h.tot,fun c q b=>by have:=h.que c q b;exact⟨this.len,this.dead,this.msgs⟩,j⟩
structure CT(p:AX)(sz:List Int)(s:BU)(j:HF):Prop where
 n0:0<=j.node
 size:sz[j.node.toNat]? =some (j.env.length:Int)
 at_:FT s.ac j.at_
 live:Ak s.ac j.at_=false
 lc:j.env.all (Cm.inB p s.be.length s.ac.length)=true
def Mg{p:AX}{sz:List Int}{s:BU}{j:HF}(h:CT p sz s j)(a:ZV s s'):CT p sz s' j:=⟨h.n0,h.size,Jf a.ns h.at_,by rw[Lx a h.at_];exact h.live,H7 a.nc a.ns h.lc⟩
def Jg{p:AX}{sz:List Int}{s:BU}{j:HF}(b:BP p sz)(h:CT p sz s j): ∃x l,p.nodes[j.node.toNat]? =some x/\DG p j.env.length x=true/\J1 p j.env.length x=some l/\(∀q∈l,0<=q.1/\sz[q.1.toNat]? =some q.2)/\j.env.length<=5000:=by
 have c:=AK h.size;rw[b.len]at c;obtain⟨x,e⟩:=get_some c;obtain⟨s0,l,a,h2,k,f,g,i⟩:=b.node _ x e;rw[h.size]at a;cases a;exact⟨x,l,e,f,g,i,AA⟩
def LY{p:AX}{sz:List Int}{s:BU}{j:HF}{x:C8}{l:List (Int×Int)}(h:CT p sz s j)(f: ¬x.op=4)(b:J1 p j.env.length x=some l)(g: ∀q∈l,0<=q.1/\sz[q.1.toNat]? =some q.2)(k:Nat): ∀c∈BN x k j.at_ j.env,CT p sz s c:=by
 intro c a;rw[BN]at a;split at a
 .rename_i n e;rw[J1,Ci f]at b;cases b;have:=g (n,j.env.length) (by simp only[Ct,F1];exact⟨n,AS e,rfl⟩);rw[Ac]at a;subst a;exact⟨this.1,this.2,h.at_,h.live,h.lc⟩
 .cases a
def ku{l:List Bl}{i:Int}(a:FT l i):Bh (l++m) i=Bh l i:=by
 have:=a.1;have:=a.2;rw[Bh,Bh,Ce AA]
def Rf{l:List Bl}: ∀{k:Nat} {i:Int},FT l i->Bf l k i=true->Bf (l++m) k i=true
 |0,i,b,h=>h
 |k+1,i,b,h=>by
  rw[Bf]at h⊢;by_cases a:i=0
  .simp[a]
  .simp only[a,decide_false,I4,AP,Ap]at h⊢;rw[ku b];exact⟨Jf AG h.1,Rf h.1 h.2⟩
def Ku: ∀{l:List PA} {i:Nat},Dy i l=true-> ∀(t:Nat) y,l[t]? =some y->0<=y.pp/\y.pp<=((i+t:Nat):Int)
 |x::l,i,h,t,y,ht=>by
  rw[Dy,AP,AP,Ap,Ap]at h;cases t with
  |zero=>
   simp only[F4,Co]at ht;subst ht;exact⟨h.1,by simpa using h.2.1⟩
  |succ t=>
   rw[GS]at ht;have:=Ku h.2.2 t y ht
   rwa [show i+1+t=i+(t+1) by omega]at this
def GA(d:CJ)(g:BA)(i:Nat): ∀(l:List Ik) (k:Nat),(GK d g i k l).length=l.length
 |[],k=>rfl
 |c::l,k=>by simp[GK,GA d g i l (k+1)]
def Jj(d:CJ)(g:BA)(i:Nat): ∀(l:List Ik) (k t:Nat),(GK d g i k l)[t]? =(l[t]?).map fun c=>(⟨(i:Int),((k+t:Nat):Int),g.place d c.at_,[]⟩:HD)
 |[],k,t=>by simp[GK]
 |c::l,k,0=>by simp[GK]
 |c::l,k,t+1=>by
  rw[GK,GS,GS,Jj d g i l (k+1) t];congr 1;funext c;rw[show k+1+t=k+(t+1) by omega]
def RI{d:CJ}{g:BA}: ∀{l:List PA} {k:Nat} {j:HF},j∈CK d g k l-> ∃(t:Nat) (y:PA),l[t]? =some y/\j=⟨y.node,g.place d ((k+t:Nat)+1),g.env⟩
 |[],k,j,h=>by cases h
 |y::l,k,j,h=>by
  rw[CK]at h;rcases D0.1 h with rfl|h
  .exact⟨0,y,rfl,rfl⟩
  .obtain⟨t,y,a,h2⟩:=RI h;exact⟨t+1,y,by rw[GS];exact a,by rw[h2,show k+1+t=k+(t+1) by omega]⟩
structure Fm(p:AX)(sz:List Int)(s:BU)(j:HF)(x:C8)(d:CJ):Prop where
 qr:Fo p sz s
 job:CT p sz s j
 node:p.nodes[j.node.toNat]? =some x
 op:x.op=4
 n0:0<=x.n
 f9:p.defs[x.n.toNat]? =some d
 ok:PB d
 grp:((B8 p sz)[x.n.toNat]?)=some ((j.env.length:Int)+d.own)
 rules: ∀r∈d.rules,0<=r.node/\sz[r.node.toNat]? =some ((j.env.length:Int)+d.own+C1 d r.eq)
 ac: ∀y∈d.ac,0<=y.node/\sz[y.node.toNat]? =some ((j.env.length:Int)+d.own)
 kid: ∃k,x.kids=[k]/\0<=k/\sz[k.toNat]? =some ((j.env.length:Int)+d.own)
def fJ{p:AX}{sz:List Int}{s:BU}{j:HF}{x:C8}(c:BP p sz)(z:Fo p sz s)(n:CT p sz s j)(a:p.nodes[j.node.toNat]? =some x)(f:x.op=4): ∃d,Fm p sz s j x d:=by
 obtain⟨A,F,_⟩:=NW c a f;obtain⟨d,h⟩:=get_some (l:=p.defs) (i:=x.n.toNat) AA;have m:=CC c h;obtain⟨i,B,s0,b,h2,t,g,C,D,u,v,w,k,o,q,r⟩:=m.node;have y:i=j.node.toNat:=by
  by_cases e:i=j.node.toNat
  .exact e
  .exact absurd t (c.diff i j.node.toNat B x e b h2 a f)
 subst y;rw[a]at b;cases b;rw[n.size]at g;cases g;exact⟨d,z,n,a,f,A,h,m.ok,u,v,w,k,o,q,r⟩
def JN{p:AX}{sz:List Int}{s:BU}{i:Nat}{g:BA}{d:CJ}(h:NG p sz s i g d):d.own<=g.env.length:=by
 have a:=h.ws;rw[Dz,Ap]at a;have:=congrArg List.length a;rw[Km,Ii]at this;omega
def kB{p:AX}{sz:List Int}{s:BU}{c:Nat}{q:HD}{i:Nat}{g:BA}{d:CJ}(f:BP p sz)(a:gQ p sz s c q i j g d ch):FT s.ac q.at_:=by
 rw[a.place];have h:=CC f (Fx a.st.f9).2;obtain⟨b,e,_⟩:=h.ok.chan ch (AS a.cha);exact Q4 a.st.ws (JN a.st) a.st.at_ a.st.lc b e
def QK{p:AX}{sz:List Int}{s:BU}(k:BP p sz)(h:Fo p sz s){c:Nat}{q:HD}(b:s.be[c]? =some q):YC p s q:=by
 obtain⟨i,j,g,d,ch,a⟩:=Fo.chn h.grp h.tot b;obtain⟨e,f⟩:=Fx a.st.f9;refine⟨kB k a,by rw[a.group];omega,by rw[a.index];omega,⟨g,d,ch,by rw[a.group];exact a.grp,e,f,by rw[a.index];exact a.cha⟩,(h.que c q b).len⟩
section
variable{p:AX}{sz:List Int}{s:BU}{j:HF}{x:C8}{d:CJ}
def Fm.env(h:Fm p sz s j x d):(A7 s d x.n j).env.length=j.env.length+d.own:=by simp[A7,Km]
def Fm.ws(h:Fm p sz s j x d):Dz d s.be.length s.ac.length (A7 s d x.n j)=true:=by
 have e:j.env.length+d.own-d.be.length-d.ac.length=j.env.length:=by unfold CJ.own;omega
 rw[Dz,Ap,h.env,e,A7,List.drop_left]
def Fm.place(h:Fm p sz s j x d){n:Int}(a:1<=n)(h2:n<=d.ac.length):(A7 s d x.n j).place d n=(s.ac.length:Int)+(n-1):=VN h.ws (by rw[h.env];omega) a h2
def VO(g:BA)(d:CJ):g.place d 0=g.at_:=by simp[BA.place]
def E8(d:CJ)(g:BA)(l:List PA):(Db d g l).length=l.length:=by simp[Db]
def Fm.spot(h:Fm p sz s j x d){n:Int}(g:0<=n)(h2:n<=d.ac.length):FT (s.ac++Db d (A7 s d x.n j) d.ac) ((A7 s d x.n j).place d n)/\Ak (s.ac++Db d (A7 s d x.n j) d.ac) ((A7 s d x.n j).place d n)=false:=by
 by_cases b:n=0
 .subst b;rw[VO];have:=h.job.at_;refine⟨Jf AG this,?_⟩;have a:=h.job.live;have e:(A7 s d x.n j).at_=j.at_:=rfl;rw[e];rw[Ak]at a⊢;have c:=this.1;have f:=this.2;rw[Ce AA];exact a
 .rw[h.place AA h2];refine⟨⟨AA,by simp[E8];omega⟩,?_⟩;rw[Ak,D1 AA,Db,D7];cases d.ac[((s.ac.length:Int)+(n-1)).toNat-s.ac.length]? <;>rfl
def Fm.lc(h:Fm p sz s j x d):(A7 s d x.n j).env.all (Cm.inB p (s.be.length+d.be.length) (s.ac.length+d.ac.length))=true:=by
 rw[A7,Ty,AP];refine⟨H7 AA AA h.job.lc,?_⟩;rw[Fh,Ty,AP];constructor
 .exact zB7
 .exact zB7
def Fm.tree(h:Fm p sz s j x d):Hg (s.ac++Db d (A7 s d x.n j) d.ac):=by
 have a:=h.qr.tree;refine⟨by simp;have:=a.pos;omega,by rw[ku ⟨AA,by have:=a.pos;omega⟩];exact a.top,fun i b=>?_⟩;have key: ∀(n t:Nat),t<n->t<d.ac.length-> ∃k,Bf (s.ac++Db d (A7 s d x.n j) d.ac) k ((s.ac.length:Int)+t)=true:=by
  intro n;induction n with
  |zero=>intro t r;omega
  |succ n v=>
   intro t r u;obtain⟨y,f⟩:=get_some u;obtain⟨w,A⟩:=Ku h.ok.spot t y f;have q:Bh (s.ac++Db d (A7 s d x.n j) d.ac) ((s.ac.length:Int)+t)=(A7 s d x.n j).place d y.pp:=by
    rw[Bh,D1 AA,Db,D7,show((s.ac.length:Int)+t).toNat-s.ac.length=t by omega,f];rfl
   have o:=(h.spot (n:=y.pp) w AA).1;have: ∃k,Bf (s.ac++Db d (A7 s d x.n j) d.ac) k ((A7 s d x.n j).place d y.pp)=true:=by
    by_cases g:y.pp=0
    .rw[g,VO];exact⟨_,Rf h.job.at_ (a.rt _ h.job.at_)⟩
    .rw[h.place AA AA];have:=v (y.pp-1).toNat AA AA
     rwa [show(((y.pp-1).toNat:Nat):Int)=y.pp-1 by omega]at this
   obtain⟨k,c⟩:=this;refine⟨k+1,?_⟩;rw[Bf,q,c,D6 o];simp
 by_cases m:i<s.ac.length
 .have e:FT s.ac i:=⟨b.1,m⟩;exact Lv AG (Rf e (a.rt i e))
 .have z:=b.1;have l:=b.2;simp only[Be,E8]at l;obtain⟨k,c⟩:=key d.ac.length (i-s.ac.length).toNat AA AA;rw[show(s.ac.length:Int)+((i-s.ac.length).toNat:Nat)=i by omega]at c;exact Lv AA (NQ b c)
def Fm.ext(h:Fm p sz s j x d):ZV s (B6 s d (A7 s d x.n j)):=by
 refine⟨fun i y a=>?_,fun i y a=>?_,fun i y a=>⟨[],?_⟩⟩
 .show(s.ac++_)[i]? =_;rw[Ce (AK a)];exact a
 .show(s.ce++_)[i]? =_;rw[Ce (AK a)];exact a
 .show(s.be++_)[i]? =_;rw[Ce (AK a)];simpa using a
def vP{s s':BU}(f:ZV s s'){q:HD}{i j:Nat}{g:BA}{d:CJ}{ch:Ik}(e:s.ce[i]? =some g)(c:p.def? g.f9=some d)(b:d.be[j]? =some ch)(a:q.group=i)(h2:q.index=j):ET p s' q=ET p s q:=by
 rw[Mi e c b a h2,Mi (f.gr i g e) c b a h2]
def wI{l:List Bl}(h:Hg l){i:Nat}(e:1<=i){y:Bl}(b:l[i]? =some y):FT l y.pp:=by
 have f:=AK b;have a:=h.rt i ⟨AA,AA⟩;obtain⟨k,c⟩: ∃k,l.length=k+1:=⟨l.length-1,AA⟩;rw[c]at a;have:=(Gn AA a).1
 rwa [Bh,show((i:Nat):Int).toNat=i from rfl,b]at this
def vg{nc a nc' ns':Nat}{n:Int}{m:List Cm}(b:nc<=nc')(h2:a<=ns')(h:Gb p nc a n m=true):Gb p nc' ns' n m=true:=by
 rw[Gb,AP]at*;exact⟨h.1,H7 b h2 h.2⟩
def xu{s s':BU}(a:ZV s s'){w:Gg}(h:Cc p sz s w=true):Cc p sz s' w=true:=by
 simp only[Cc,AP,Ap,HW]at*;obtain⟨b,h2,c,e,f,g⟩:=h;exact⟨Jf a.ns b,by rw[Lx a b];exact h2,c,e,f,H7 a.nc a.ns g⟩
def Fm.sok'(S:BP p sz)(h:Fm p sz s j x d)(C:(B6 s d (A7 s d x.n j)).be.length<=60/\(B6 s d (A7 s d x.n j)).ac.length<=24/\(B6 s d (A7 s d x.n j)).ce.length<=40):Fo p sz (B6 s d (A7 s d x.n j)):=by
 have a:=h.ext;have M:=h.qr.small;simp only[BU.small,AP,Ap]at M;have J:p.def? x.n=some d:=by rw[AX.def?,D4 h.n0];exact h.f9
 have I:(B6 s d (A7 s d x.n j)).be.length=s.be.length+d.be.length:=by simp[B6,GA]
 have L:(B6 s d (A7 s d x.n j)).ac.length=s.ac.length+d.ac.length:=by simp[B6,E8]
 have D: ∀i,i<=s.ce.length->(B6 s d (A7 s d x.n j)).ce.take i=s.ce.take i:=fun i u=>ID u;refine⟨?_,h.tree,fun i y u N=>?_,fun i g K=>?_,?_,fun c q W=>?_,fun w X=>xu a (h.qr.wait w X)⟩
 .simp only[BU.small,AP,Ap];exact⟨C.2.1,C.2.2,C.1,M.2.2.2⟩
 .by_cases t:i<s.ac.length
  .have O:s.ac[i]? =some y:=by
    have:(s.ac++Db d (A7 s d x.n j) d.ac)[i]? =some y:=N
    rwa [Ce t]at this
   rw[Lx a (wI h.qr.tree u O)];exact h.qr.dead i y u O
  .right;have:(s.ac++Db d (A7 s d x.n j) d.ac)[i]? =some y:=N;rw[D1 AA,Db,D7]at this;cases e:d.ac[i-s.ac.length]? with
   |none=>rw[e]at this;cases this
   |some z=>
    rw[e]at this;cases this;obtain⟨Y,Z⟩:=Ku h.ok.spot _ z e;have:=AK e;exact(h.spot (n:=z.pp) Y AA).2
 .by_cases t:i<s.ce.length
  .have r:s.ce[i]? =some g:=by
    have:(s.ce++[A7 s d x.n j])[i]? =some g:=K
    rwa [Ce t]at this
   obtain⟨F,o⟩:=h.qr.grp i g r;refine⟨F,o.f9,Jf a.ns o.at_,o.len,H7 a.nc a.ns o.lc,by rw[D i AA];exact o.ws,fun k ch v=>?_⟩;obtain⟨q,P,h2,Q,R⟩:=o.be k ch v;obtain⟨l,U⟩:=a.ch _ q P;rw[D i AA];exact⟨_,U,h2,Q,R⟩
  .have r:(s.ce++[A7 s d x.n j])[i]? =some g:=K;have V:=AK r;rw[Be,I0]at V;obtain rfl:i=s.ce.length:=AA;rw[D1 AA]at r;simp only[Kw,F4,Co]at r;subst r;have H:(Hn p ((B6 s d (A7 s d x.n j)).ce.take s.ce.length))=(s.be.length,s.ac.length):=by rw[D _ AA,D2,h.qr.tot]
   refine⟨d,J,Jf a.ns h.job.at_,?_,by rw[I,L];exact h.lc,by rw[H];exact h.ws,fun k ch v=>?_⟩
   .have:=h.grp;rw[show(A7 s d x.n j).f9=x.n from rfl,this,h.env];simp
   .rw[H];refine⟨⟨s.ce.length,k,(A7 s d x.n j).place d ch.at_,[]⟩,?_,rfl,rfl,rfl⟩;show(s.be++GK d (A7 s d x.n j) s.ce.length 0 d.be)[s.be.length+k]? =_;rw[D1 AA,Jj,show s.be.length+k-s.be.length=k by omega,v];simp
 .show Hn p (s.ce++[A7 s d x.n j])=_;rw[Xk p _ _ (d:=d) J,h.qr.tot,I,L]
 .have b:(s.be++GK d (A7 s d x.n j) s.ce.length 0 d.be)[c]? =some q:=W;by_cases t:c<s.be.length
  .rw[Ce t]at b;have B:=h.qr.que c q b;obtain⟨i,k,g,F,ch,f⟩:=Fo.chn h.qr.grp h.qr.tot b;have T:FT s.ac q.at_:=kB S f;exact⟨B.len,by rw[Lx a T];exact B.dead,fun m A=>by rw[vP a f.grp f.st.f9 f.cha f.group f.index];exact vg a.nc a.ns (B.msgs m A)⟩
  .rw[D1 AA,Jj]at b;cases e:d.be[c-s.be.length]? with
   |none=>rw[e]at b;cases b
   |some z=>
    rw[e]at b;cases b;exact⟨AG,.inl rfl,fun m A=>by cases A⟩
end
abbrev pA(p:AX):AV:=.agg [.d (.bv (p.free.map Br)),.d (.bv (p.nodes.map Bc)),.d (.bv (p.defs.map B4)),nI p.main]
abbrev sA(s:BU):AV:=.agg [.d (.bv (s.ac.map Aw)),.d (.bv (s.ce.map BG)),.d (.bv (s.be.map Cy)),.d (.bv (s.waits.map Ae))]
structure RV(p:AX)(sz:List Int)(s:BU)(w:Gg)(x:C8):Prop where
 n0:0<=w.node
 node:p.nodes[w.node.toNat]? =some x
 op:x.op=6\/x.op=7\/x.op=8
 at_:FT s.ac w.at_
 live:Ak s.ac w.at_=false
 size:sz[w.node.toNat]? =some (w.env.length:Int)
 len:w.env.length<=5000
 n: ¬x.op=7->0<=x.n/\x.n<w.env.length
 lc:w.env.all (Cm.inB p s.be.length s.ac.length)=true
variable{w:Gg}
def O5{p:AX}{sz:List Int}{s:BU}(o:BP p sz)(h:Cc p sz s w=true): ∃x,RV p sz s w x:=by
 simp only[Cc,AP,Ap,HW]at h;obtain⟨i,h2,j,a,b,k⟩:=h;cases c:p.nodes[w.node.toNat]? with
 |none=>rw[c]at a;cases a
 |some x=>
  rw[c]at a;simp only[DZ,I8,Ap]at a;obtain⟨v,l,f,m,n,e,_⟩:=o.node _ x c;rw[f]at b;have b:(w.env.length:Int)=v:=b;rw[<-b]at f m n e;refine⟨x,j,c,a,i,h2,f,AA,fun q=>?_,k⟩;simp only[DG,AP]at e;have g:=e.2.1;rw[Xc,D4 AA]at g;exact of_decide_eq_true g
variable{x:C8}
def RV.val{p:AX}{sz:List Int}{s:BU}(h:RV p sz s w x)(f: ¬x.op=7): ∃v,w.env[x.n.toNat]? =some v/\IL w.env x.n=v/\(v.kind=4->FT s.ac v.n/\ ∃y,s.ac[v.n.toNat]? =some y/\Ak s.ac v.n=y.dead):=by
 have:=h.n f;obtain⟨v,a⟩:=get_some (l:=w.env) (i:=x.n.toNat) AA;refine⟨v,a,by rw[IL,a];rfl,fun e=>?_⟩;have b:=D3.1 h.lc v (AS a);simp only[Cm.inB,e,Int.reduceEq,F6,FN,AP,Ap]at b;obtain⟨y,c⟩:=get_some (l:=s.ac) (i:=v.n.toNat) AA;exact⟨b,y,c,by simp[Ak,c]⟩
structure eV(p:AX)(sz:List Int)(s:BU)(g:BA)(d:CJ)(r:Gf):Prop where
 at0:0<=r.at_
 at1:r.at_<=d.ac.length
 place:FT s.ac (g.place d r.at_)
 j0:0<r.eq.length
 j1:r.eq.length<=3
 join: ∀c∈r.eq,0<=c/\c<d.be.length/\0<=g.own d true c/\ ∃q,s.be[(g.own d true c).toNat]? =some q/\q.queue.length<=12/\Ld s (g.own d true c)=q.queue.length
def cA{d:CJ}{r:Gf}: ∀{l:List Int} {i:Nat},joinsOk d r i l=true-> ∀c∈l,0<=c/\c<d.be.length
 |[],_,_,c,a=>by simp at a
 |x::l,i,h,c,a=>by
  rw[joinsOk]at h;simp only[Hj,AP,Ap]at h;rcases D0.1 a with rfl|a
  .exact⟨h.1.1,h.1.2.1⟩
  .exact cA h.2 c a
def Mq{p:AX}{sz:List Int}{s:BU}{i:Nat}{g:BA}{d:CJ}{r:Gf}(t:BP p sz)(x:Fo p sz s)(y:s.ce[i]? =some g)(a:NG p sz s i g d)(w:r∈d.rules):eV p sz s g d r:=by
 have j:=(CC t (Fx a.f9).2).ok;have k:=j.wn r w;simp only[B9,AP,Ap]at k;obtain⟨⟨h,h2⟩,m,n,o⟩:=k;refine⟨h,h2,Q4 a.ws (JN a) a.at_ a.lc h h2,m,n,fun c u=>?_⟩;obtain⟨e,f⟩:=cA o c u;obtain⟨ch,v⟩:=get_some (l:=d.be) (i:=c.toNat) AA;obtain⟨q,b,_⟩:=a.be _ ch v;have j:=Jo a.ws e f;have:(g.own d true c).toNat=(Hn p (s.ce.take i)).1+c.toNat:=AA;refine⟨e,f,AA,q,by rw[this];exact b,(x.que _ q b).len,by rw[Ld,this,b];rfl⟩
def Sx{l:List Nat}(h:0∈l):CR l=[]:=by
 induction l with
 |nil=>simp at h
 |cons n l a=>
  rw[CR];rcases D0.1 h with h|h
  .subst h;rfl
  .simp[a h]
def kR{p:AX}{s:BU}(a:p.nodes[w.node.toNat]? =some x):ol p s w=if x.op=7 then true else if (IL w.env x.n).kind=4 then(if x.op=8 then Ak s.ac (IL w.env x.n).n else decide (w.at_≠0)&&(!Ak s.ac (IL w.env x.n).n&& !CP s.ac (IL w.env x.n).n w.at_))else false:=by
 rw[ol,a]
def uf{p:AX}{sz:List Int}{s:BU}(n:BP p sz)(f:Fo p sz s)(a:RV p sz s w x):BX kT 71 [pA p,sA s,.agg [nI w.at_,nI w.node,.d (.bv (w.env.map AN))]] []=.ok (.ret (.d (.bool (ol p s w))),[]):=by
 have c:=a.node;have t:=a.n0;have A:=AK c;rw[kR c];by_cases e:x.op=7
 .exact zEF
 obtain⟨v,z,k,b⟩:=a.val e;have⟨n0,n1⟩:=a.n e;rw[k];by_cases h:v.kind=4
 .obtain⟨i,y,B,g⟩:=b h;obtain⟨r0,l⟩:=i;have j:=f.small;simp only[BU.small,AP,Ap]at j;obtain⟨m,C⟩:=a.at_;have q:=Rp s.ac (.bv (s.ce.map BG)) (.bv (s.be.map Cy)) (.bv (s.waits.map Ae)) v.n w.at_ AA f.tree ⟨r0,l⟩ m;by_cases u:x.op=8
  .rw[g];clear b;exact zEF
  .rw[g];clear b;refine Az Tryz.func71 ?_
   (repeat' (first|simp only[go_sem, *]|(refine sx ?_ ?_<;>intro o)|refine sy AA fun x c r=>?_|simp(disch:=first|assumption|omega) only[AR]))
   all_goals simp[*]
 .clear b;exact zEF
def Pf(l:List Nat):List Int:=if 0∈l then []else l.map fun(n:Nat)=>(n:Int)
def KQ(s:BU)(d:CJ)(g:BA)(r:Gf):List Int:=if Ak s.ac (g.place d r.at_)=true then []else Pf (Bp s d g r)
def KB{p:AX}{sz:List Int}{s:BU}{i:Nat}{g:BA}{d:CJ}(b:BP p sz)(h:NG p sz s i g d):g.env.length<=10000:=by
 have a:=CC b (Fx h.f9).2;obtain⟨_,_,v,_,_,_,_,c,e,h2,_⟩:=a.node;have:=h.len;rw[h2,GO]at this;have:=a.ok.be;have:=a.ok.ac;unfold CJ.own at*;omega
def qO{p:AX}{sz:List Int}{s:BU}(z:BP p sz)(Q:Fo p sz s){i k:Nat}{g:BA}{d:CJ}{r:Gf}(J:s.ce[i]? =some g)(t:NG p sz s i g d)(P:d.rules[k]? =some r):BX kT 72 [pA p,sA s,nI i,nI k] []=.ok (.ret (.d (.bv ((KQ s d g r).map AL))),[]):=by
 have f:=Mq z Q J t (AS P);obtain⟨g0,A⟩:=Fx t.f9;have B:=(CC z A).ok;have w:=B.be;have I:=B.ac;have ar:=B.rules;have R:=Q.small;simp only[BU.small,AP,Ap]at R;obtain⟨bl,bo,bs,bv⟩:=R;have a1:=AK J;have a3:=AK P;have a0:=AK A;have own:=JN t;have Y:=KB z t;have bc:=Ou p g d r.at_ g0 A w I own Y f.at0 f.at1;obtain⟨r0,bi⟩:=f.place;obtain⟨y,Z⟩:=get_some (l:=s.ac) (i:=(g.place d r.at_).toNat) AA;have N:AH (KQ s d g r=if y.dead=true then []else Pf (Bp s d g r)):=⟨by rw[KQ,Ak,Z];rfl⟩;have a4:AH (∀c,g.own d true c=g.own d true c):=⟨fun _=>rfl⟩;have a7:=f.j0;have a':=f.j1;replace f:=AB f;unfold CJ.own at own;cases V:y.dead with
 |true=>
  rw[N.1,V];refine Az Tryz.func72 ?_;exact au
 |false=>
  rw[N.1,V];refine Az Tryz.func72 ?_;refine aw ?_;refine Ah r.eq (S:=fun b (a:AV×AD×Nat)=>⟨[(5,.ptr [0,0] 0),(9,.ptr [0,1] 0),(11,.ptr [0,2] 0),(12,nI ((g.env.length:Int)-(d.ac.length:Int)-(d.be.length:Int))),(13,a.1),(14,nI b)],([0,0],.box (sC s))::([0,1],.box [nI g.f9,nI g.at_,.d (.bv (g.env.map AN))])::([0,2],.box [nI r.at_,.d (.bv (r.eq.map AL)),nI r.node])::a.2.1,a.2.2,[]⟩)
   (Inv:=fun b bk a=>AH (0∉(r.eq.take b).map fun c=>Ld s (g.own d true c))/\AH ((b=0/\a=(.d7,[],3))\/(0<b/\a=(.f8 [1,3] 0 b,[([1,3],.em 1 (((r.eq.take b).map fun c=>((Ld s (g.own d true c):Nat):Int)).map AL))],4)))) (b0:=(.d7,[],3)) ⟨⟨AG⟩,⟨.inl ⟨rfl,rfl⟩⟩⟩ ?_ ?_
  .rintro b c a o u K ⟨m,e⟩ H;obtain⟨ad,ag,ac,q,O,be,h⟩:=f.1.join c (AS o);obtain⟨v,U⟩:=get_some (l:=g.env) (i:=g.env.length-d.ac.length-d.be.length+c.toNat) AA;have j:g.own d true c=v.n:=by rw[BA.own,D4 rfl,U];rfl
   rw[j]at ac O h;have F:((g.env.length:Int)-(d.ac.length:Int)-(d.be.length:Int)+c).toNat=g.env.length-d.ac.length-d.be.length+c.toNat:=AA;rw[<-F]at U;have bx:IntKind.i64.wrap ((g.env.length:Int)-(d.ac.length:Int)-(d.be.length:Int)+c)=(g.env.length:Int)-(d.ac.length:Int)-(d.be.length:Int)+c:=wrap_id AA AA;have a6:0<=(g.env.length:Int)-(d.ac.length:Int)-(d.be.length:Int)+c:=AA;have az:=AK O;replace F:=AB F;have T:AH (((r.eq.take (b+1)).map fun c=>Ld s (g.own d true c))=((r.eq.take b).map fun c=>Ld s (g.own d true c))++[q.queue.length]):=⟨by rw[GC,o];simp[j,h]⟩;have D:AH (((r.eq.take (b+1)).map fun c=>((Ld s (g.own d true c):Nat):Int))=((r.eq.take b).map fun c=>((Ld s (g.own d true c):Nat):Int))++[(q.queue.length:Int)]):=⟨by rw[GC,o];simp[j,h]⟩;have X:AH (q.queue.length=0->Pf (Bp s d g r)=[]):=⟨fun W=>by rw[Pf,D4];exact F1.2 ⟨c,AS o,by rw[j,h,W]⟩⟩;replace j:=AB j;replace h:=AB h;by_cases W:(q.queue.length:Int)=0
   .rw[X.1 AA];rcases e.1 with⟨rfl,rfl⟩|⟨C,rfl⟩;all_goals
     clear e;dsimp only;exact au
   .rcases e.1 with⟨rfl,rfl⟩|⟨C,rfl⟩
    .clear e;dsimp only;have a2:(0:Int)<r.eq.length:=K;refine aw ?_;refine H.1 (.f8 [1,3] 0 1,[([1,3],.em 1 [[.int .i64 q.queue.length]])],4) ⟨⟨?_⟩,⟨.inr ⟨AA,?_⟩⟩⟩
     .rw[T.1];simp only[Rt,BY,CE,Ac];omega
     .rw[D.1];rfl
    .clear e;obtain⟨L,n⟩: ∃L,L=(r.eq.take b).map fun c=>((Ld s (g.own d true c):Nat):Int):=⟨_,rfl⟩;have ai:L.length=b:=by rw[n,As,F2];omega
     have w:List.take b (L.map AL)=L.map AL:=Bi Aa;have I:b+1<=4:=AA;rw[<-n]at D⊢;replace n:=AB n;dsimp only;refine aw ?_;refine H.1 (.f8 [1,3] 0 (b+1),[([1,3],.em 1 (L.map AL++[[.int .i64 q.queue.length]]))],4) ⟨⟨?_⟩,⟨.inr ⟨AA,?_⟩⟩⟩
     .rw[T.1];simp only[EL,Ac,not_or];exact⟨m.1,AA⟩
     .rw[D.1,BE];rfl
  .rintro b a u K ⟨m,e⟩;have u:=u.1;subst u;rw[D2]at m;rcases e.1 with⟨C,rfl⟩|⟨C,rfl⟩
   .omega
   .clear e;have M:AH (Pf (Bp s d g r)=r.eq.map fun c=>((Ld s (g.own d true c):Nat):Int)):=⟨by rw[Pf,Bp,Ci m.1,List.map_map];rfl⟩;dsimp only;rw[M.1];have w:List.take r.eq.length ((r.eq.map fun c=>((Ld s (g.own d true c):Nat):Int)).map AL)=(r.eq.map fun c=>((Ld s (g.own d true c):Nat):Int)).map AL:=Bi AG;simp only[D2]
    (repeat' (first|simp only[go_sem, *,Es]|(refine sx ?_ ?_<;>intro av)|refine sy AA fun x a5 M=>?_|simp(disch:=first|assumption|omega) only[AR]))
variable{α:Type}{l:List α}{r:α}
def N8{k:Nat}(h:l[k]? =some r):l=l.take k++r::l.drop (k+1):=by
 rw[<-Ag h,Mk]
def Xx{k:Nat}(h:l[k]? =some r)(r':α):l.set k r'=l.take k++r'::l.drop (k+1):=by
 have a:=AK h;rw[List.set_eq_take_append_cons_drop,D4 a]
variable{β:Type}{f:α->List β}
def nn(h:(l.flatMap f).Nodup){j k:Nat}{a:α}(b:l[j]? =some a)(c:l[k]? =some r)(o:j≠k){x:β}(e:x∈f a):x∉f r:=by
 intro g;rw[N8 c,Ls,EM,MP]at h;obtain⟨_,h2,m⟩:=h;rw[MP]at h2;have q:=AK c;have p:=AK b;by_cases n:j<k
 .exact m x (CS.2 ⟨a,AS (i:=j) (by rw[I6,D4 n];exact b),e⟩) x (Hw _ g) rfl
 .exact h2.2.2 x g x (CS.2 ⟨a,AS (i:=j-(k+1)) (by rw[Hm,show k+1+(j-(k+1))=j by omega];exact b),e⟩) rfl
variable{r':α}
def Uf(h:(l.flatMap f).Nodup){k:Nat}(j:l[k]? =some r)(p:(f r').Nodup)(o: ∀x∈f r',x∈f r\/x∉l.flatMap f):((l.set k r').flatMap f).Nodup:=by
 have s:=h;rw[N8 j,Ls,EM,MP]at h;obtain⟨n,h2,m⟩:=h;rw[MP]at h2;rw[Xx j,Ls,EM,MP];have key: ∀x∈f r',x∉(l.take k).flatMap f/\x∉(l.drop (k+1)).flatMap f:=fun x q=>by
  rcases o x q with g|g
  .exact⟨fun e=>m x e x (Hw _ g) rfl,fun e=>h2.2.2 x g x e rfl⟩
  .rw[N8 j,Ls,EM]at g;simp only[EL,not_or]at g;exact⟨g.1,g.2.2⟩
 refine⟨n,MP.2 ⟨p,h2.2.1,fun a i b c e=>(key a i).2 (by rw[e];exact c)⟩,fun a i b c e=>?_⟩;rcases EL.1 c with c|c
 .exact(key b c).1 (by rw[<-e];exact i)
 .exact m a i b (HU _ c) e
def Y5{k:Nat}(a:l[k]? =some r){x:β}(b:x∈(l.set k r').flatMap f):x∈l.flatMap f\/x∈f r':=by
 rw[Xx a,Ls,EM]at b;rw[N8 a,Ls,EM];simp only[EL]at*;rcases b with h|h|h
 .exact .inl (.inl h)
 .exact .inr h
 .exact .inl (.inr (.inr h))
def Su{B:MV->Int->List AV}{c:Bool}{N:Abs.Id->Bool}{h h':AD}{m:Abs.Id}{V:MV}{st st':CW}{v3:AV}{rows:List (List AV)}(b:Gj B c h m V st)(q:NA N V m)
 (t:h'.get m=some (.box (B {V with v3:=v3,rows:=rows} st'.work))) (s:rV h' v3 rows) (u:eK c h' rows st'.d8.be) (z:(rows.flatMap A9).Nodup)
 (p: ∀id,id∈AE v3\/id∈rows.flatMap A9->(id∈AE V.v3\/id∈V.rows.flatMap A9)\/(N id=true/\ ∃l,id=1::l)) (w: ∀j,j<4->Ax st' j=Ax st j)
 (n: ∀id,id≠m->id∉AE V.v3->id∉V.rows.flatMap A9->N id=false->h'.get id=h.get id):MI B c N m V h st' h':=by
 have v: ∀id,(∀cs,h.get id≠some (.box cs))->id≠m:=fun id a e=>a _ (by subst e;exact b.box);refine⟨{V with v3:=v3,rows:=rows},⟨t,?_,fun j f=>?_,s,u,b.gw,z,b.inv⟩,fun id i=>?_,fun id k h2=>n id (fun e=>k zFU) (fun e=>k (V.v3_mem m e)) (fun e=>k (V.row_mem m e)) h2⟩
 .show(V.un=m/\c=false)\/h'.get V.un=_;refine Ll b fun e o=>n _ e (fun e=>?_) (fun e=>?_) (q _ (V.acts_mem m))
  .have:=HY b.arr e;rw[o]at this;cases this
  .obtain⟨x,g⟩:=K5 b.be e;rw[o]at g;cases g
 .rw[w j f];refine Kt (b.sl j f) fun id i=>?_;obtain⟨x,g⟩:=IX (b.sl j f) i;refine n id (v _ (by rw[g];simp)) (fun e=>?_) (fun e=>?_) (q _ (V.s_mem m f i))
  .have:=HY b.arr e;rw[g]at this;cases this
  .obtain⟨y,r⟩:=K5 b.be e;rw[g]at r
   match j,f with
   |0,_|1,_|2,_|3,_=>simp[Dt]at r
 .rcases(({V with v3:=v3,rows:=rows}:MV).mem m id).1 i with a|a|⟨j,f,a⟩|a|a
  .exact .inl (by rw[a];exact V.m_mem m)
  .exact .inl (by rw[a];exact V.acts_mem m)
  .exact .inl (V.s_mem m f a)
  .exact(p id (.inl a)).imp_left fun e=>e.elim (V.v3_mem m) (V.row_mem m)
  .exact(p id (.inr a)).imp_left fun e=>e.elim (V.v3_mem m) (V.row_mem m)
variable{h:AD}{m:Abs.Id}
def N1{B:MV->Int->List AV}{c:Bool}{N:Abs.Id->Bool}{A:Abs.Id}{V:MV}{st:CW}{k:Nat}{q:HD}{v:AV}(g:Gj B c h m V st)(y:NA N V m)(F:V.v3=.f8 A 0 V.rows.length)(U:st.d8.be[k]? =some q)(p:V.rows[k]? =some (A6 q v))(l:List (List Cm))
 (f:AV) (h':AD) (M:h'.get m=some (.box (B V st.work))) (L:h'.get A=some (.arr 4 (V.rows.set k (A6 q f)))) (C:QC c 2 h' 1 f (l.map BJ)) (D:AE f=AE v\/ ∀id∈AE f,N id=true/\ ∃l,id=1::l)
 (O: ∀id,Id.is m id=false->Id.is A id=false->(∀K∈AE v,Id.is K id=false)->N id=false->h'.get id=h.get id):MI B c N m V h {st with d8:={st.d8 with be:=st.d8.be.set k {q with queue:=l}}} h':=by
 have P:AE V.v3=[A]:=by rw[F];rfl
 have J: ∀x,x∈AE v->x∈V.rows.flatMap A9:=fun x b=>CS.2 ⟨_,AS p,by rw[Bs];exact b⟩;have H: ∀id,id≠m->id∉AE V.v3->id∉AE v->N id=false->h'.get id=h.get id:=fun id b1 s t u=>O id (AF fun e=>b1 e.symm) (AF fun e=>s (by rw[P,<-e];simp)) (fun K a=>AF fun e=>t (by rw[<-e];exact a)) u;have W:(AE f).Nodup/\(AE f).length<=1:=by
  rcases Vc C with(⟨rfl,_⟩|⟨i,x,rfl,_⟩)|⟨rfl,_⟩<;>simp[AE]
 have S:(V.rows.set k (A6 q f)).length=V.rows.length:=AG;refine Su (v3:=V.v3) (rows:=V.rows.set k (A6 q f)) g y (M.trans (by rw[<-g.inv V (V.rows.set k (A6 q f)) st.work])) (.inr ⟨A,by rw[S];exact F,L⟩) ⟨?_,fun j X o=>?_⟩ ?_ (fun id a=>?_) (fun j o=>by match j,o with|0,_|1,_|2,_|3,_=>rfl) fun id b1 s t u=>H id b1 s (fun e=>t (J id e)) u
 .simp[g.be.len]
 .dsimp only at o;rw[IF]at o⊢;have Q:=AK p;by_cases r:k=j
  .have R:=AK U;rw[D4 r,D4 R]at o;rw[D4 r,D4 Q];cases o;exact⟨f,rfl,C⟩
  .rw[Ci r]at o⊢;obtain⟨w,z,I⟩:=g.be.row j X o;refine⟨w,z,Kt I fun id a=>?_⟩;have T:id∈V.rows.flatMap A9:=CS.2 ⟨_,AS z,by rw[Bs];exact a⟩;obtain⟨x,b⟩:=IX I a;refine H id (fun e=>?_) (fun e=>?_) ?_ (y _ (V.row_mem m T))
   .rw[e,g.box]at b;cases b
   .rw[HY g.arr e]at b;cases b
   .have:=nn g.qd z p (fun e=>r e.symm) (x:=id) (by rw[Bs];exact a)
    rwa [Bs]at this
 .refine Uf g.qd p (by rw[Bs];exact W.1) fun x b=>?_;rw[Bs]at b⊢;rcases D with e|e
  .exact .inl (by rw[<-e];exact b)
  .refine .inr fun n=>?_;have:=y _ (V.row_mem m n);rw[(e x b).1]at this;cases this
 .rcases a with a|a
  .exact .inl (.inl a)
  .rcases Y5 p a with n|n
   .exact .inl (.inr n)
   .rw[Bs]at n;rcases D with e|e
    .rw[e]at n;exact .inl (.inr (J id n))
    .exact .inr (e id n)
variable{π:List Nat}{H g:AD}
def R0{p:AX}{sz:List Int}{n:Nat}{V:MV}{r:Option CW}{o:A8}(q:Bx π V m)(j: ∀id,Id.under π id=false->H.get id=h.get id)(f:G3 p sz (n::π) m V H r o g):G3 p sz π m V h r o (gc (n::π) g):=by
 cases r with
 |none=>exact⟨f.1,fun id c h2=>by rw[An _ _ _ (AJ h2 n),f.2 id c (AJ h2 n),j id h2]⟩
 |some st'=>
  obtain⟨c,V',k,e⟩:=f;refine⟨c,V',TZ k e (q.ext n),fun id l=>(e.ids id l).imp_right fun i=>⟨BM i.1,i.2⟩,fun id a b=>?_⟩;rw[An _ _ _ (AJ b n),e.frame id a (AJ b n),j id b]
def R1{p:AX}{sz:List Int}{V:MV}{st:CW}(b:J4 p sz h m V st)(c:Bx π V m)(a: ∀id,Id.under π id=false->H.get id=h.get id):G3 p sz π m V h (some st) (.ret (.ii [])) H:=⟨rfl,V,Ek b c a,cB a⟩
variable{es:List (List Al)}
def m5{sz:Nat}{v:AV}(h:jv g sz v es)(a:es≠ []):KJ g sz v es:=h.resolve_right fun e=>a e.2
variable{y:α}
def jV{f:α->List Al}{sz:Nat}{v:AV}(h:jv g sz v (l.map f)){k:Nat}(a:l[k]? =some y):KJ g sz v (l.map f):=m5 h fun e=>by rw[D5.1 e]at a;cases a
def Xz{sz:Nat}{v:AV}(h:jv g sz v es):((v=.d7\/v=.emp)/\es=[])\/ ∃id x,v=.f8 id 0 es.length/\g.get id=some (.em sz (es++x)):=by
 rcases h with(h|h)|h
 .exact .inl ⟨.inl h.1,h.2⟩
 .exact .inr h
 .exact .inl ⟨.inr h.1,h.2⟩
def FV{f:α->List Al}{sz:Nat}{v:AV}(h:KJ g sz v (l.map f)){k:Nat}(c:l[k]? =some y): ∃id a,v=.f8 id 0 l.length/\g.get id=some (.em sz (l.map f++a))/\(l.map f++a)[k]? =some (f y)/\k<l.length/\k<l.length+a.length:=by
 have b:=AK c;rcases h with⟨_,h⟩|⟨id,a,rfl,h⟩
 .rw[D5.1 h]at b;simp at b
 .exact⟨id,a,by rw[As],h,by rw[Ce zEz,D7,c];rfl,b,AA⟩
def YK(s:BU)(e:Eg):Prop:=e.deed=5/\FT s.ac e.at_/\Ak s.ac e.at_=false
structure TJ(p:AX)(sz:List Int)(st st':CW)(js:List HF):Prop where
 qr:Fo p sz st'.d8
 ext:ZV st.d8 st'.d8
 jobs: ∀j∈js,CT p sz st'.d8 j
 work:st'.work=st.work
 ev: ∃l,st'.ev=st.ev++l/\l.length<=1/\ ∀e∈l,YK st'.d8 e
structure LU(p:AX)(sz:List Int)(st st':CW):Prop where
 qr:Fo p sz st'.d8
 ext:ZV st.d8 st'.d8
 work:st.work<=st'.work
 top:st.work<=400->st'.work<=400
 evs: ∃l,st'.ev=st.ev++l/\(l.length:Int)<=st'.work-st.work/\ ∀e∈l,YK st'.d8 e
def LU.ev{p:AX}{sz:List Int}{st st':CW}(h:LU p sz st st'):(st'.ev.length:Int)<=st.ev.length+(st'.work-st.work):=by
 obtain⟨l,a,h2,_⟩:=h.evs;rw[a,Be];omega
def xC{s s':BU}(h:ZV s s'){e:Eg}(a:YK s e):YK s' e:=⟨a.1,Jf h.ns a.2.1,by rw[Lx h a.2.1];exact a.2.2⟩
def qD{p:AX}{sz:List Int}{st:CW}(h:Fo p sz st.d8):LU p sz st st:=⟨h,Jd _,AA,fun h=>h,[],AG,AG,AG⟩
def VP{p:AX}{sz:List Int}{a b c:CW}(g:LU p sz a b)(h2:LU p sz b c):LU p sz a c:=by
 obtain⟨l,i,o,k⟩:=g.evs;obtain⟨m,j,q,n⟩:=h2.evs;refine⟨h2.qr,nN g.ext h2.ext,by have:=g.work;have:=h2.work;omega,fun h=>h2.top (g.top h),l++m,by rw[j,i,DO],by rw[Be];omega,fun e f=>?_⟩;rcases EL.1 f with f|f
 .exact xC h2.ext (k e f)
 .exact n e f
section
variable{p:AX}{sz:List Int}{st:CW}{j:HF}{x:C8}
def wX{s:BU}{n:Nat}{q:HD}(f:Fo p sz s)(e:s.be[n]? =some q){l:List Cm}(i:q.queue.length<12)(a:Ak s.ac q.at_=false)(b:ET p s q=l.length)(g:l.all (Cm.inB p s.be.length s.ac.length)=true):ER p s {q with queue:=q.queue++[l]}:=by
 have h:=f.que n q e;refine⟨Aa,.inr a,fun m c=>?_⟩;rcases EL.1 c with h2|h2
 .exact h.msgs m h2
 .rw[Ac]at h2;subst h2;show Gb p _ _ (ET p s q) m=true;rw[Gb,b,g];simp
def qj(b:Fo p sz st.d8)(f:CT p sz st.d8 j)(l: ∀e∈x.args,e.formed j.env.length=true){st':CW}(h:Cx p x j st=some st'):TJ p sz st st' []:=by
 have i:(x.args.map (·.value j.env)).all (Cm.inB p st.d8.be.length st.d8.ac.length)=true:=by
  rw[D3];intro v i;obtain⟨e,c,rfl⟩:=F1.1 i;exact rI f.lc e (l e c)
 simp only[Cx]at h;split at h
 .cases h;exact⟨b,Jd _,AG,rfl,_,rfl,AG,fun e c=>by rw[Ac]at c;subst c;exact⟨rfl,f.at_,f.live⟩⟩
 split at h
 .obtain⟨s,a,rfl⟩:=Bv.1 h;have key:Fo p sz s/\ZV st.d8 s:=by
   rw[Mr]at a;split at a
   .rename_i q g;split at a
    .rename_i k;rw[Se]at a;split at a
     .rename_i m;cases a;exact⟨X0 b g (wX b g m k.1 k.2 i),nK g _⟩
     .cases a
    .cases a;exact⟨b,Jd _⟩
   .cases a;exact⟨b,Jd _⟩
  exact⟨key.1,key.2,AG,rfl,[],AG,AG,AG⟩
 .cases h;exact⟨b,Jd _,AG,rfl,[],AG,AG,AG⟩
def UQ(i:BP p sz)(v:Fo p sz st.d8)(c:CT p sz st.d8 j)(z:p.nodes[j.node.toNat]? =some x)(u:x.op=4){st':CW}{o:List HF}(h:Fb p x j st=some (st',o)):TJ p sz st st' o:=by
 obtain⟨d,a⟩:=fJ i v c z u;simp only[Fb,a.f9]at h;split at h
 .rename_i q;cases h;have e:=a.ext;have s:(B6 st.d8 d (A7 st.d8 d x.n j)).be.length=st.d8.be.length+d.be.length:=by simp[B6,GA]
  have w:(B6 st.d8 d (A7 st.d8 d x.n j)).ac.length=st.d8.ac.length+d.ac.length:=by simp[B6,E8]
  have m:(A7 st.d8 d x.n j).env.all (Cm.inB p (B6 st.d8 d (A7 st.d8 d x.n j)).be.length (B6 st.d8 d (A7 st.d8 d x.n j)).ac.length)=true:=by rw[s,w];exact a.lc
  have l:((A7 st.d8 d x.n j).env.length:Int)=(j.env.length:Int)+d.own:=by rw[a.env];omega
  refine⟨a.sok' i q,e,fun D b=>?_,rfl,[],AG,AG,AG⟩;rcases EL.1 b with b|b
  .obtain⟨t,y,f,rfl⟩:=RI b;have h2:=a.ac y (AS f);have C:=AK f;have g:=a.spot (n:=((0+t:Nat):Int)+1) AA AA;exact⟨h2.1,by rw[h2.2,l],g.1,g.2,m⟩
  .obtain⟨k,r,A,B⟩:=a.kid;rw[BN,r]at b;simp only[F4,Ac]at b;subst b;exact⟨A,by rw[B,l],Jf e.ns c.at_,by rw[Lx e c.at_];exact c.live,m⟩
 .cases h
def jk(e:Fo p sz st.d8)(b:CT p sz st.d8 j)(i:p.nodes[j.node.toNat]? =some x)(f:DZ x.op=true){st':CW}(h:FZ j st=some st'):TJ p sz st st' []:=by
 rw[FZ]at h;split at h
 .rename_i k;cases h;refine⟨O2 e Aa fun w a=>?_,⟨fun _ _ h=>h,fun _ _ h=>h,fun c q g=>⟨[],by simpa using g⟩⟩,AG,rfl,[],AG,AG,AG⟩;rcases EL.1 a with a|a
  .exact e.wait w a
  .rw[Ac]at a;subst a;simp only[Cc,b.live,b.lc,i,f,b.size,AP,Ap,HW,GO];exact⟨b.at_,trivial,b.n0,trivial,trivial,trivial⟩
 .cases h
def fM(o:BP p sz)(b:Fo p sz st.d8)(c:CT p sz st.d8 j){st':CW}{r:List HF}(h:Ja p j st=some (st',r)):TJ p sz st st' r:=by
 obtain⟨x,l,m,q,w,v,_⟩:=Jg o c;simp only[Ja,m]at h;have n: ¬x.op=4-> ∀k,∀g∈BN x k j.at_ j.env,CT p sz st.d8 g:=fun a k=>LY c a w v k;split at h
 .rename_i a;obtain⟨s,i,e⟩:=Bv.1 h;cases e;simp only[DG,AP,D3]at q;exact qj b c (fun e t=>by have:=q.2.2.2 e t;simp only[B3.ok,AP]at this;exact this.2.2) i
 split at h
 .rename_i a;cases h;refine⟨b,Jd _,fun g f=>?_,rfl,[],AG,AG,AG⟩;rcases EL.1 f with f|f
  .exact n AA 0 g f
  .exact n AA 1 g f
 split at h
 .rename_i a;exact UQ o b c m a h
 split at h
 .rename_i u a;cases h;exact⟨b,Jd _,n u _,rfl,[],AG,AG,AG⟩
 split at h
 .rename_i a;obtain⟨s,i,e⟩:=Bv.1 h;cases e;exact jk b c m a i
 .cases h;exact⟨b,Jd _,AG,rfl,[],AG,AG,AG⟩
end
def Rq{p:AX}{sz:List Int}{f:HF->CW->Option CW}(b: ∀j st st',Fo p sz st.d8->CT p sz st.d8 j->f j st=some st'->LU p sz st st'): ∀(l:List HF) (st st':CW),Fo p sz st.d8->(∀j∈l,CT p sz st.d8 j)->CH f l st=some st'->LU p sz st st'
 |[],st,st',hs,_,h=>by cases h;exact qD hs
 |j::l,st,st',hs,hj,h=>by
  rw[CH]at h;obtain⟨c,e,h2⟩:=IN.1 h;have a:=b j st c hs (hj j AG) e;exact VP a (Rq b l c st' a.qr (fun i g=>Mg (hj i (by simp[g])) a.ext) h2)
def Jb{p:AX}{sz:List Int}(f:BP p sz): ∀(k:Nat) (j:HF) (st st':CW),Fo p sz st.d8->CT p sz st.d8 j->Eu p k j st=some st'->LU p sz st st'
 |0,j,st,st',_,_,h=>by cases h
 |k+1,j,st,st',hs,hj,h=>by
  rw[Eu]at h;split at h
  .rename_i o;cases c:Ja p j {st with work:=st.work+1}with
   |none=>rw[c]at h;cases h
   |some r=>
    obtain⟨e,m⟩:=r;rw[c]at h;have a:=fM (st:={st with work:=st.work+1}) f hs hj c
    obtain⟨l,g,n,i⟩:=a.ev;have q:e.work=st.work+1:=a.work;refine VP (b:=e) ⟨a.qr,a.ext,AA,AA,l,g,AA,i⟩ (Rq (fun j st st'=>Jb f k j st st') m e st' a.qr a.jobs h)
  .cases h
def B5{π:List Nat}{n n':Nat}{id:Abs.Id}(h:Id.under (n::π) id=true)(h':Id.under (n'::π) id=true):n=n':=by
 rw[under_iff]at h h';have:=List.suffix_of_suffix_length_le h h' AG;have:=this.eq_of_length AG;simpa using this
structure Bu(B:MV->Int->List AV)(c:Bool)(π:List Nat)(m:Abs.Id)(V:MV)(h:AD)(b:Nat)(V':MV)(st:CW)(g:AD):Prop where
 rep:Gj B c g m V' st
 ids: ∀id∈V'.ids m,id∈V.ids m\/ ∃n,n<b/\Id.under (n::π) id=true/\ ∃l,id=1::l
 frame: ∀id,id∉V.ids m->Id.under π id=false->g.get id=h.get id
abbrev G4(p:AX)(sz:List Int):=Bu (BL p sz) true
section
variable{p:AX}{sz:List Int}{B:MV->Int->List AV}{c:Bool}{π:List Nat}{m:Abs.Id}{V V':MV}{h g H g1:AD}{b:Nat}{st:CW}
def C4{b':Nat}{id:Abs.Id}(g:Bx π V m)(c:id∈V.ids m\/ ∃n,n<b/\Id.under (n::π) id=true/\ ∃l,id=1::l)(a n:Nat)(i:b<=n):Id.is (a::n::π) id=false:=by
 rcases c with c|⟨k,h,f,_⟩
 .exact AI (g id c) a n
 .refine AF fun e=>?_;subst e;have:=B5 f (n':=n) (under_iff.2 ⟨[a],rfl⟩);omega
def En{id:Abs.Id}(g:Bx π V m)(c:id∈V.ids m\/ ∃n,n<b/\Id.under (n::π) id=true/\ ∃l,id=1::l)(a n:Nat)(f:b<=n):Id.is id (a::n::π)=false:=by
 have:=C4 (b':=b) g c a n f;exact AF fun e=>by rw[e,is_self]at this;cases this
def JC(b:Gj B c h m V st)(i:Bx π V m)(a: ∀id,Id.under π id=false->g.get id=h.get id):Bu B c π m V h 0 V st g:=
 ⟨Ek b i a,fun id f=>.inl f,fun id _ e=>a id e⟩
def Bu.up(a:Bu B c π m V h b V' st g){b':Nat}(f:b<=b'):Bu B c π m V h b' V' st g:=
 ⟨a.rep,fun id e=>(a.ids id e).imp_right fun⟨n,h1,h2⟩=>⟨n,AA,h2⟩,a.frame⟩
def Bu.loc(l:Bx π V m)(e:Bu B c π m V h b V' st g)(f: ∀id,(∀a n,b<=n->Id.is (a::n::π) id=false)->H.get id=g.get id):Bu B c π m V h b V' st H:=
 ⟨CM e.rep fun id j=>f id fun a n k=>C4 (b':=b) l (e.ids id j) a n k,e.ids,fun id i h2=>by rw[f id fun a n _=>AI h2 a n];exact e.frame id i h2⟩
variable{n:Nat}
def Bu.apart(i:Bx π V m)(f:Bu B c π m V h b V' st g)(o:b<=n):Bx (n::π) V' m:=fun id e=>by
 rcases f.ids id e with a|⟨k,l,h2,_⟩
 .exact AJ (i id a) n
 .cases j:Id.under (n::π) id with
  |false=>rfl
  |true=>
   have:=B5 h2 j;omega
def Bu.fin(a:G4 p sz π m V h b V' st g):G3 p sz π m V h (some st) (.ret (.ii [])) g:=
 ⟨rfl,V',a.rep,fun id c=>(a.ids id c).imp_right fun⟨n,_,h2,h3⟩=>⟨BM h2,h3⟩,a.frame⟩
variable{st':CW}
def Bu.callL(t:Bx π V m)(j:Bu B c π m V h b V' st H)(r:b<=n)(s:MI B c (Id.under (n::π)) m V' H st' g1): ∃g,Bu B c π m V h (n+1) g st' (gc (n::π) g1)/\ ∀id,id∉V'.ids m->Id.under (n::π) id=false->id∉g.ids m:=by
 obtain⟨g,o,i⟩:=s;have p:=j.apart t r;refine⟨g,⟨TZ o i p,fun id q=>?_,fun id f h2=>?_⟩,fun id f h2 l=>?_⟩
 .rcases i.ids id q with e|⟨f,h2⟩
  .exact(j.ids id e).imp_right fun⟨k,a,c⟩=>⟨k,AA,c⟩
  .exact .inr ⟨n,AA,f,h2⟩
 .rw[An _ _ _ (AJ h2 n),i.frame id (fun e=>?_) (AJ h2 n)]
  .exact j.frame id f h2
  .rcases j.ids id e with e|⟨k,_,l,_⟩
   .exact f e
   .rw[BM l]at h2;cases h2
 .rcases i.ids id l with e|⟨e,_⟩
  .exact f e
  .rw[h2]at e;cases e
variable{o:A8}
def Bu.call(g:Bx π V m)(f:G4 p sz π m V h b V' st H)(c:b<=n)(e:G3 p sz (n::π) m V' H (some st') o g1): ∃a,G4 p sz π m V h (n+1) a st' (gc (n::π) g1)/\ ∀id,id∉V'.ids m->Id.under (n::π) id=false->id∉a.ids m:=f.callL g c e.2
def Bu.ge(q:Bx π V m)(f:G4 p sz π m V h b V' st H)(l:b<=n)(j:G3 p sz (n::π) m V' H none o g1):G3 p sz π m V h none o (gc (n::π) g1):=by
 obtain⟨g,h2⟩:=j;refine⟨g,fun id a c=>?_⟩;rw[An _ _ _ (AJ c n),h2 id (fun e=>?_) (AJ c n)]
 .exact f.frame id a c
 .rcases f.ids id e with e|⟨k,_,i,_⟩
  .exact a e
  .rw[BM i]at c;cases c
variable{r:Option CW}
def Xb(b:G3 p sz (n::π) m V' H r o g1){id:Abs.Id}(a:id∉V'.ids m)(h2:Id.under (n::π) id=false):(gc (n::π) g1).get id=H.get id:=by
 rw[An _ _ _ h2];cases r with
 |none=>exact b.2 _ a h2
 |some st'=>
  obtain⟨_,e,_,c⟩:=b;exact c.frame _ a h2
def Dv(f:Bu B c π m V h b V' st H)(g:Bx π V m)(k:Nat):0::k::π∉V'.ids m:=fun a=>by
 rcases f.ids _ a with a|⟨_,_,_,l,e⟩
 .have:=g _ a;rw[show Id.under π (0::k::π)=true from under_iff.2 ⟨[0,k],rfl⟩]at this;cases this
 .cases e
def Au{k:Nat}(π:List Nat)(h:k≠n):Id.under (n::π) (0::k::π)=false:=by
 cases a:Id.under (n::π) (0::k::π)with
 |false=>rfl
 |true=>
  have:=B5 a (n':=k) (under_iff.2 ⟨[0],rfl⟩);omega
def Bu.box(i:Bx π V m)(g:G4 p sz π m V h b V' st H){k:Nat}(f:k≠n)(c:G3 p sz (n::π) m V' H r o g1):(gc (n::π) g1).get (0::k::π)=H.get (0::k::π):=by
 have a:=Au π f;rw[An _ _ _ a];have h2:=Dv g i k;cases r with
 |none=>exact c.2 _ h2 a
 |some st'=>
  obtain⟨_,j,_,e⟩:=c;exact e.frame _ h2 a
end
def KS(p:AX)(sz:List Int)(k:Nat):Prop:= ∀(h:AD) (π:List Nat) (m:Abs.Id) (V:MV) (st:CW) (j:HF),J4 p sz h m V st->Bx π V m->Fo p sz st.d8->CT p sz st.d8 j->0<=st.work->st.work<=400->401<=st.work+k->(st.ev.length:Int)<=900000+st.work->
 ∃o h',kT (.fn 66) [.ptr m 0,nI j.node,nI j.at_,.d (.bv (j.env.map AN))] h π true none=.ok (o,h')/\G3 p sz π m V h (Eu p k j st) o h'
structure Ky(p:AX)(sz:List Int)(k:Nat)(st:CW):Prop where
 qr:Fo p sz st.d8
 w0:0<=st.work
 w1:st.work<=400
 w2:401<=st.work+k
 ev:(st.ev.length:Int)<=900000+st.work
def Ky.post{p:AX}{sz:List Int}{k:Nat}{st st':CW}(h:Ky p sz k st)(a:LU p sz st st'):Ky p sz k st':=⟨a.qr,by have:=a.work;have:=h.w0;omega,a.top h.w1,by have:=a.work;have:=h.w2;omega,by have:=a.ev;have:=h.ev;omega⟩
end Go.Proofs
namespace Go.Abs
def S9(sz:Nat)(es:List (List Al))(h: ∀e∈es,e.length=sz):Gd sz (es.map fun e=>e.map .d)=true:=by
 induction es with
 |nil=>rfl
 |cons e es b=>
  rw[By,KH,b fun e a=>h e (F0 _ a)];simp[h e AG,AV.isCell]
def OV(g:G)(b:Id)(j:TI)(s:AV)(es:List (List Al))(c:0<j.size)(h: ∀e∈es,e.length=j.size)(i:es≠ [])(f:es.length<=BF):QE g b j s (some (es.map fun e=>e.map .d))=appTo g b j s (es.map fun e=>e.map .d):=by
 cases es with
 |nil=>exact absurd rfl i
 |cons e es=>
  have a:=S9 j.size (e::es) h;rw[By]at a⊢;rw[Wc,a];have:(e.map AV.d::es.map fun e=>e.map AV.d).length<=BF:=zEb
  simp only[this,c,decide_true,OL,Wb]
def Sv(g:G)(a:Id)(j:TI)(es:List (List Al))(k:j.mix=false)(b:0<j.size)(h: ∀e∈es,e.length=j.size)(i:es.length<=BF):newArr g a j (es.map fun e=>e.map .d)=some ⟨.f8 (1::a) 0 es.length,[(1::a,.em j.size es)]⟩:=by
 have c:((es.map fun e=>e.map AV.d).all fun e=>e.length==j.size&&e.all AV.isCell)=true:=by
  rw[Pv];exact S9 _ _ h
 have h2:Nat.blt 0 j.size=true:=by rw[UP];exact b
 have f:Nat.ble es.length BF=true:=RG i;unfold newArr;rw[c];simp only[As,h2,f,OL,k,Kf,Jh,CE]
def TN(g:G)(a:Id)(j:TI)(es:List (List Al))(f:j.mix=false)(b:0<j.size)(h: ∀e∈es,e.length=j.size)(i:es≠ [])(c:es.length<=BF):QE g a j .emp (some (es.map fun e=>e.map .d))=some ⟨.f8 (1::a) 0 es.length,[(1::a,.em j.size es)]⟩:=by
 rw[OV g a j .emp es b h i c];exact Sv g a j es f b h c
end Go.Abs
namespace Go.Abs
def ACu(es:List (List Al))(b:0<es.length)(i:TI)(a:i.kind=.slice):Im .eql (.d (.bv es)) .d7 (some i)=some (.d (.bool false)):=by
 cases es with
 |nil=>simp at b
 |cons e es=>simp only[Im,a,JV]
attribute [go_sem] ACu
end Go.Abs
namespace Go.Proofs
open Abs
def UA(t:List Int)(n:Nat)(b:n=t.length)(i:0<n)(k:n<=1000000): ∀(g:G) (a:Abs.Id) (j:TI),j.mix=false->j.size=1->QE g a j .emp (some ((t.map AL).map fun x=>x.map AV.d))=some ⟨.f8 (1::a) 0 n,[(1::a,.em 1 (t.map AL))]⟩:=fun g a j h c=>by
 have:=TN g a j (t.map AL) h AA (fun e f=>by
  obtain⟨x,_,rfl⟩:=F1.1 f;rw[c];rfl) (fun e=>by rw[D5.1 e]at b;simp at b;omega) zEm
 rw[this,As,b,c]
def X4(t:List Int)(b:List (List Al))(n:Nat)(a:n=t.length):List.take n ((t.map AL++b).map fun x=>x.map AV.d)=(t.map AL).map fun x=>x.map AV.d:=by
 rw[BE,ID zEg,Bi zEg]
variable{g0:AD}{s0:Nat}{es:List (List Al)}
def E6{v:AV}(h:KJ g0 s0 v es)(g:G):WB g .slice v=some es.length:=by
 rcases h with⟨rfl,rfl⟩|⟨id,x,rfl,_⟩<;>rfl
def zy{v:AV}(h:jv g0 s0 v es)(g:G):WB g .slice v=some es.length:=by
 rcases h with h|⟨rfl,rfl⟩
 .exact E6 h g
 .rfl
def KC{v:AV}{rows:List (List AV)}(h:rV g0 v rows)(g:G):WB g .slice v=some rows.length:=by
 rcases h with⟨rfl,rfl⟩|⟨id,rfl,_⟩<;>rfl
end Go.Proofs
namespace Go.Proofs
open Abs
def eO(sz:Nat)(π:List Nat)(h:AD)(v:AV)(L:List (List Al))(o:A8)(h':AD):Prop:= ∃v',o=.ret v'/\KJ h' sz v' L/\(∀id∈AE v',id∈AE v\/(Id.under π id=true/\ ∃l,id=1::l))/\ ∀id,id∉AE v->Id.under π id=false->h'.get id=h.get id
structure Gk(sz:Nat)(π:List Nat)(h:AD)(v:AV)(b:Nat)(g:AD)(w:AV)(L:List (List Al)):Prop where
 slv:KJ g sz w L
 ids: ∀id∈AE w,id∈AE v\/ ∃n,n<b/\Id.under (n::π) id=true/\ ∃l,id=1::l
 frame: ∀id,id∉AE v->Id.under π id=false->g.get id=h.get id
section
variable{sz:Nat}{π:List Nat}{h g H g1:AD}{v w:AV}{b k:Nat}{L L':List (List Al)}{o:A8}
def Gk.not(i: ∀id∈AE v,Id.under π id=false)(c:Gk sz π h v b g w L){id:Abs.Id}(f:id∈AE w)(a n:Nat)(k:b<=n):Id.is (a::n::π) id=false:=by
 rcases c.ids id f with h|⟨m,j,h2,_⟩
 .exact AI (i id h) a n
 .refine AF fun e=>?_;subst e;have:=B5 h2 (n':=n) (under_iff.2 ⟨[a],rfl⟩);omega
def Gk.apart(e: ∀id∈AE v,Id.under π id=false)(a:Gk sz π h v b g w L){id:Abs.Id}(c:id∈AE w)(j:b<=k):Id.under (k::π) id=false:=by
 rcases a.ids id c with h|⟨m,i,h2,_⟩
 .exact AJ (e id h) k
 .cases f:Id.under (k::π) id with
  |false=>rfl
  |true=>
   have:=B5 h2 f;omega
def Gk.loc(k: ∀id∈AE v,Id.under π id=false)(c:Gk sz π h v b g w L)(e: ∀id,(∀a n,b<=n->Id.is (a::n::π) id=false)->H.get id=g.get id):Gk sz π h v b H w L:=
 ⟨GM c.slv fun id i=>e id fun a n j=>c.not k i a n j,c.ids,fun id f h2=>by rw[e id fun a n _=>AI h2 a n];exact c.frame id f h2⟩
def Gk.up(a:Gk sz π h v b g w L){b':Nat}(e:b<=b'):Gk sz π h v b' g w L:=⟨a.slv,fun id c=>(a.ids id c).imp_right fun⟨n,h1,h2⟩=>⟨n,AA,h2⟩,a.frame⟩
def Gk.call(u: ∀id∈AE v,Id.under π id=false)(c:Gk sz π h v b H w L)(s:b<=k)(t:eO sz (k::π) H w L' o g1): ∃w',o=.ret w'/\Gk sz π h v (k+1) (gc (k::π) g1) w' L':=by
 obtain⟨w',p,h2,m,q⟩:=t;have g: ∀id∈AE w',(gc (k::π) g1).get id=g1.get id:=fun id f=>by
  rcases m id f with e|⟨_,l,rfl⟩
  .exact An _ _ _ (c.apart u e s)
  .exact G5 _ _ _
 refine⟨w',p,GM h2 g,fun id f=>?_,fun id j a=>?_⟩
 .rcases m id f with e|e
  .exact(c.ids id e).imp_right fun⟨n,q1,i⟩=>⟨n,AA,i⟩
  .exact .inr ⟨k,AA,e⟩
 .rw[An _ _ _ (AJ a k),q id (fun g=>?_) (AJ a k)]
  .exact c.frame id j a
  .rcases c.ids id g with r|⟨n,_,i,_⟩
   .exact j r
   .rw[BM i]at a;cases a
def Gk.fin(a:Gk sz π h v b g w L):eO sz π h v L (.ret w) g:=⟨w,rfl,a.slv,fun id c=>(a.ids id c).imp_right fun⟨n,_,q2,q3⟩=>⟨BM q2,q3⟩,a.frame⟩
end
def R8: ∀{l:List Nat},(∀n∈l,n<=12)->(CR l).length<=12 ^ l.length
 |[],_=>by simp[CR]
 |n::l,h=>by
  have a:=R8 (l:=l) fun n b=>h n (F0 _ b);have h2:=h n AG;have key: ∀m,((List.range m).flatMap fun(i:Nat)=>(CR l).map fun t=>(i:Int)::t).length=m*(CR l).length:=fun m=>by
   induction m with
   |zero=>simp
   |succ m c=>rw[List.range_succ,Ls,Be,c];simp[IT]
  rw[CR,key,List.length_cons,Nat.pow_succ,Pm];exact Nat.mul_le_mul a h2
def dA(r b:Int)(many:List Nat)(bi:0<many.length)(be:many.length<=3)(Z: ∀n∈many,n<=12): ∀(k:Nat) (h:AD) (π:List Nat) (v M:AV) (m:List FH) (t:List Int),m.length+12 ^ k<=100000000->KJ h 4 v (m.map Cr)->KJ h 1 M (t.map AL)->(t.length=0->M=.d7)->(∀id,id∈AE v\/id∈AE M->Id.under π id=false)->t.length+k=many.length->
 ∃o h',kT (.fn 73) [v,nI r,nI b,.d (.bv ((many.map fun(n:Nat)=>(n:Int)).map AL)),M] h π true none=.ok (o,h')/\eO 4 π h v ((m++(CR (many.drop t.length)).map fun p=>(⟨-1,r,b,t++p⟩:FH)).map Cr) o h'
 |0,h,π,v,M,m,t,a1,D,ac,a3,C,P=>by
  have a7:many.drop t.length=[]:=EX AA;rw[a7];simp only[CR,By,BY,CI];rcases ac with⟨rfl,R⟩|⟨L,ar,rfl,gt⟩
  .rw[D5.1 R]at P;simp at P;omega
  have ut:=C L (.inr BH);have a':=AI ut;have bc:=Aj ut;rw[As];have ai:t.length=many.length:=AA;have a5:0<t.length:=AA;have ap:=UA t many.length AA AA AA;have b2:=X4 t ar many.length AA;have cn:List.take many.length (t.map AL)=t.map AL:=Bi Aa;rcases D with⟨rfl,ad⟩|⟨av,az,rfl,cc⟩
  .have bs:=D5.1 ad;subst bs;refine BR Tryz.func73 ?_;refine aw ?_;refine⟨_,rfl,Ao [] rfl ?_,fun id j=>.inr ?_,fun id F h2=>?_⟩
   .simp only[go_sem]
   .exact zEU
   .have q:=AI h2;exact zBf
  .have a6:=C av (.inl BH);have b6:=AI a6;have b7:=Aj a6;rw[As];rcases az with _|⟨y,az⟩
   .refine BR Tryz.func73 ?_;refine ax ?_;refine⟨_,rfl,Ao [] AG ?_,fun id j=>.inr ?_,fun id F h2=>?_⟩
    .simp only[go_sem,BE,BY,AM]
    .exact zEU
    .exact zCf
   .refine BR Tryz.func73 ?_;refine ax ?_;refine⟨_,rfl,Ao az AG ?_,fun _ h=>.inl h,fun id F h2=>?_⟩
    .simp only[go_sem,BE,BY,AM]
    .exact zCf
 |k+1,h,π,v,M,m,t,a1,D,ac,a3,C,P=>by
  have a0:=dA r b many bi be Z k;obtain⟨n,J⟩:=get_some (l:=many) (i:=t.length) AA;have ch:=Z n (AS J);have O:=Ag J;obtain⟨f,H⟩: ∃f:Nat->List FH,f=fun i=>(List.range i).flatMap fun(c:Nat)=>(CR (many.drop (t.length+1))).map fun p=>(⟨-1,r,b,t++[(c:Int)]++p⟩:FH):=⟨_,rfl⟩;have V:f 0=[]:=by rw[H];rfl
  have I: ∀i,f (i+1)=f i++(CR (many.drop (t.length+1))).map fun p=>(⟨-1,r,b,t++[(i:Int)]++p⟩:FH):=fun i=>by rw[H];simp[List.range_succ]
  have W:((CR (many.drop t.length)).map fun p=>(⟨-1,r,b,t++p⟩:FH))=f n:=by
   rw[O,CR,H,List.map_flatMap];simp[List.map_map,Function.comp_def]
  have a2: ∀i,i<=n->(f i).length<=i*12 ^ k:=fun i=>by
   induction i with
   |zero=>simp[V]
   |succ i bv=>
    intro h;have F:=bv AA;have h2:=R8 (l:=many.drop (t.length+1)) fun n J=>Z n (Lc J);rw[I,Be,As,IT,Nat.one_mul];rw[show(many.drop (t.length+1)).length=k by rw[Ii];omega]at h2;omega
  rw[W];have bk:(many.map fun(n:Nat)=>(n:Int))[t.length]? =some (n:Int):=by rw[D7,J];rfl
  have ai: ¬(t.length:Int)=many.length:=AA;have b3:t.length<many.length:=AA;have Q: ∀i,i<n->(m++f i).length+12 ^ k<=100000000:=fun i z=>by
   have F:=a2 i AA;have h2:(i+1)*12 ^ k<=12*12 ^ k:=HM _ AA;rw[IT,Nat.one_mul]at h2;rw[Nat.pow_succ,Pm]at a1;rw[Be];omega
  clear a2;replace Q:=AB Q;replace O:=AB O;replace W:=AB W;replace H:=AB H;replace I:=AB I;replace C:=AB C;replace D:=AB D;have K: ∀id∈AE v,Id.under π id=false:=fun id j=>C.1 id (.inl j);rcases ac with⟨rfl,R⟩|⟨L,ar,rfl,gt⟩
  .have ad:=D5.1 R;subst ad;clear R;simp only[List.length_nil,I9]at P J bk O I H;clear ai b3;have ai: ¬(0:Int)=many.length:=AA;refine BR Tryz.func73 ?_;refine aw ?_;refine Aq (List.range n) (n:Int) (S:=fun _ i (a:(AV×AD)×Nat)=>⟨[(0,a.1.1),(1,nI r),(2,nI b),(3,.d (.bv ((many.map fun(n:Nat)=>(n:Int)).map AL))),(4,.d7),(11,nI i)],a.1.2,a.2+7,[]⟩)
    (Inv:=fun i b1 a=>AH (Gk 4 π h v (a.2+7) a.1.2 a.1.1 ((m++f i).map Cr))) (b0:=((_,_),0)) AG ⟨?_⟩ ?_ ?_
   .exact zDs
   .rintro i y ⟨⟨w,g⟩,c⟩ bo z X s T;dsimp only at*;have B:i<n:=by simpa using z
    refine aw ?_;have Y: ∀id,(∀a n,c+7<=n->Id.is (a::n::π) id=false)->((g.put (1::(c+22)::π) (.em 1 [[.int .i64 i]])).put (1::(c+23)::π) (.em 1 [[.int .i64 i]])).get id=g.get id:=fun id j=>by
     rw[get_put,get_put,j _ _ AA,j _ _ AA];rfl
    have u:=s.1.loc K Y;refine Ad (a0 _ ((c+24)::π) w (.f8 (1::(c+23)::π) 0 1) (m++f i) [(i:Int)] (Q.1 i B) u.slv (Ao [] rfl ?_) AG (fun id j=>?_) Aa) (fun bx g1 N=>?_)
    .simp only[go_sem]
    .exact zCn
    obtain⟨w',rfl,A⟩:=u.call K AA N;clear N;replace A:=AB A;refine aw ?_;refine T.1 ((w',_),c+22) ⟨?_⟩;have U:=A.1.up (b':=c+22+7) AA
    rwa [show(m++f i++(CR (many.drop [(i:Int)].length)).map fun p=>(⟨-1,r,b,[(i:Int)]++p⟩:FH))=m++f (i+1) by rw[I.1,<-DO];rfl]at U
   .rintro i ⟨⟨w,g⟩,c⟩ z X s;dsimp only at*;have B:i=n:=by have:=z.1;simpa using this
    subst B;refine aw ?_;exact s.1.fin
  .rw[As];have ut:=C.1 L (.inr BH);have a':=AI ut;have bc:=Aj ut;have a5:0<t.length:=Nat.pos_of_ne_zero fun e=>by cases a3 e
   have cl:t.length<=3:=AA;have ap:=UA t t.length rfl a5 AA;have b2:=X4 t ar t.length rfl;have bl:L∉AE v:=fun e=>by
    obtain⟨x,a4⟩:=Ia D.1 e;rw[gt]at a4;cases a4
   refine BR Tryz.func73 ?_;refine aw ?_;refine Aq (List.range n) (n:Int) (S:=fun _ i (a:(AV×AD)×Nat)=>⟨[(0,a.1.1),(1,nI r),(2,nI b),(3,.d (.bv ((many.map fun(n:Nat)=>(n:Int)).map AL))),(4,.f8 L 0 t.length),(11,nI i)],a.1.2,a.2+7,[]⟩)
    (Inv:=fun i b1 a=>AH (Gk 4 π h v (a.2+7) a.1.2 a.1.1 ((m++f i).map Cr))) (b0:=((_,_),0)) AG ⟨?_⟩ ?_ ?_
   .exact zDs
   .rintro i y ⟨⟨w,g⟩,c⟩ bo z X s T;dsimp only at*;have B:i<n:=by simpa using z
    have b8:=(s.1.frame L bl ut).trans gt;have Y: ∀id,(∀a n,c+7<=n->Id.is (a::n::π) id=false)->((((g.put (1::(c+20)::π) (.em 1 (t.map AL))).put (1::(c+22)::π) (.em 1 [[.int .i64 i]])).put (1::(c+20)::π) (.i7 0 [])).put (1::(c+23)::π) (.em 1 (t.map AL++[[.int .i64 i]]))).get id=g.get id:=fun id j=>by
     rw[get_put,get_put,get_put,get_put,j _ _ AA,j _ _ AA,j _ _ AA];rfl
    have u:=s.1.loc K Y;replace s:=AB u;have b4: ¬c+2=c:=AA;have b5: ¬c+3=c:=AA;refine ax ?_;refine Ad (a0 _ ((c+24)::π) w (.f8 (1::(c+23)::π) 0 (t.length+1)) (m++f i) (t++[(i:Int)]) (Q.1 i B) u.slv (Ao [] AG ?_) AG (fun id j=>?_) Aa) (fun bx g1 N=>?_)
    .simp only[go_sem,BE]
    .exact zCn
    obtain⟨w',rfl,A⟩:=u.call K AA N;clear N;replace A:=AB A;refine aw ?_;refine T.1 ((w',_),c+22) ⟨?_⟩;have U:=A.1.up (b':=c+22+7) AA
    rwa [show(m++f i++(CR (many.drop (t++[(i:Int)]).length)).map fun p=>(⟨-1,r,b,t++[(i:Int)]++p⟩:FH))=m++f (i+1) by rw[I.1,<-DO,Be];rfl]at U
   .rintro i ⟨⟨w,g⟩,c⟩ z X s;dsimp only at*;have B:i=n:=by have:=z.1;simpa using this
    subst B;refine aw ?_;exact s.1.fin
def sZ(b:Nat)(e:CA)(h:AD)(bs:Nat)(π:List Nat)(ci:Option (List Nat))(a:Bool)(nt:Nat):Fq cfg ⟨34,π,false,ci,a,nt⟩ b ⟨e,h,bs,[]⟩=Ir cfg 34 π b e h:=by
 exact zEE
attribute [go_sem 2000] sZ
structure rz(p:AX)(s:BU)(A B:Abs.Id)(v:AV)(g:AD)(b:Nat)(L:List FH):Prop where
 pa:g.get A=some (.box (pC p))
 sb:g.get B=some (.box (sC s))
 slv:KJ g 4 v (L.map Cr)
 na:FW [] b A
 nb:FW [] b B
 nv: ∀id∈AE v,FW [] b id
variable{π:List Nat}{b:Nat}
def cZ{A:Abs.Id}(h:FW π b A)(t j:Nat)(c:b<=j):Id.is (t::j::π) A=false:=by
 obtain⟨f,e,a,rfl⟩:=h;exact AF Aa
def VE{A:Abs.Id}(h:FW π b A)(t j:Nat)(c:b<=j):Id.is A (t::j::π)=false:=by
 obtain⟨f,e,a,rfl⟩:=h;exact AF Aa
def oo(l:List (Nat×Al)):Fz (l.map fun y=>(y.1,AV.d y.2))=[]:=by
 induction l with
 |nil=>rfl
 |cons x l a=>simp[Fz,AE,A9]at*;exact a
def GH{K:Ab}{fr:Fr}{bl:Nat}{x:Code}{Q:Eh->St->Prop}{E:CA}{H:AD}{p:AX}{s:BU}{A B:Abs.Id}{v:AV}{L:List FH}(i:List (Nat×Al))
 (M:Kj E (cfg.live 34 bl)=(2,.ptr A 0)::(3,.ptr B 0)::(5,v)::i.map fun y=>(y.1,AV.d y.2)) (w:H.get A=some (.box (pC p))) (h2:H.get B=some (.box (sC s))) (k:KJ H 4 v (L.map Cr))
 (P: ∀r t D g b,rz p s r t D g b L->Tq cfg K fr bl x ⟨(2,.ptr r 0)::(3,.ptr t 0)::(5,D)::i.map fun y=>(y.1,AV.d y.2),g,b,[]⟩ Q):Tq cfg K fr bl x (Ir cfg 34 [] bl E H) Q:=by
 rw[Ec,M];have U:(AE v).length<=1:=by rcases k with⟨rfl,_⟩|⟨id,x,rfl,_⟩<;>simp[AE]
 obtain⟨ν,h',n,N,T,f⟩:=JY [] H ((2,.ptr A 0)::(3,.ptr B 0)::(5,v)::i.map fun y=>(y.1,AV.d y.2)) (A::B::AE v) zEr (by
  intro y a;have J:=oo i;have I:Fz ((2,.ptr A 0)::(3,.ptr B 0)::(5,v)::i.map fun y=>(y.1,AV.d y.2))=A::B::(AE v++Fz (i.map fun y=>(y.1,AV.d y.2))):=by simp[Fz,A9,AE]
  rw[I,J]at a;simpa using a) (by
  intro y a z c;rcases D0.1 a with rfl|a
  .rw[w]at c;simp[Ep,A9,AE]at c
  rcases D0.1 a with rfl|a
  .rw[h2]at c;simp[Ep,A9,AE]at c
  .obtain⟨x,S⟩:=Ia k a;rw[S]at c;simp[Ep]at c)
 obtain⟨z,c⟩:=f.env A zEc;obtain⟨F,q⟩:=f.env B zEc;have g1:=f.get A z _ c w;have u:=f.get B F _ q h2;simp[E1,Fj,ren]at g1 u;have o: ∀x z,ν x=some z->FW [] n z:=fun x z h=>by obtain⟨j,O,rfl⟩:=f.name x z h;exact⟨_,j,O,rfl⟩
 have R: ∀l:List (Nat×Al),(l.map fun y=>(y.1,AV.d y.2)).map (fun p=>(p.1,ren ν p.2))=l.map fun y=>(y.1,AV.d y.2):=fun l=>by simp[ren]
 rw[N,By,By,By,R];have key:KJ h' 4 (ren ν v) (L.map Cr)/\ ∀id∈AE (ren ν v),FW [] n id:=by
  rcases k with⟨rfl,c⟩|⟨id,x,rfl,m⟩
  .exact⟨.inl ⟨by simp[ren],c⟩,by simp[ren,AE]⟩
  .obtain⟨y,a⟩:=f.env id zEc;have m:=f.get id y _ a m;have e:ren ν (.f8 id 0 (L.map Cr).length)=.f8 y 0 (L.map Cr).length:=by simp[ren,a]
   rw[e];exact⟨.inr ⟨y,x,rfl,by simpa[E1]using m⟩,fun id C=>by
    simp only[AE,Ac]at C;subst C;exact o _ _ a⟩
 have:=P z F (ren ν v) h' n ⟨g1,u,key.1,o _ _ c,o _ _ q,key.2⟩;simpa[ren,c,q]using this
variable{n:Nat}
def VF{A:Abs.Id}(h:FW π b A)(c:b<=n):Id.under (n::π) A=false:=by
 obtain⟨f,e,a,rfl⟩:=h;exact JG _ _ _ _ AA
def gl{p:AX}{sz:List Int}{s:BU}{g:BA}{d:CJ}{r:Gf}(h:eV p sz s g d r):(KQ s d g r=[]/\Ee s d g r=[])\/ ∃many:List Nat,KQ s d g r=many.map (fun(n:Nat)=>(n:Int))/\Ee s d g r=CR many/\0<many.length/\many.length<=3/\ ∀n∈many,n<=12:=by
 unfold KQ Ee Pf;by_cases a:Ak s.ac (g.place d r.at_)=true
 .exact .inl ⟨by rw[D4 a],by rw[D4 a]⟩
 rw[Ci a,Ci a];by_cases b:0∈Bp s d g r
 .exact .inl ⟨by rw[D4 b],Sx b⟩
 .refine .inr ⟨_,by rw[Ci b],rfl,by simpa[Bp]using h.j0,by simpa[Bp]using h.j1,fun n i=>?_⟩;obtain⟨c,f,rfl⟩:=F1.1 i;obtain⟨_,_,_,q,_,e,h2⟩:=h.join c f;rw[h2];exact e
def X8(p:AX)(s:BU): ∀(l:List Gg) (i:Nat),(Cl p s i l).length<=l.length
 |[],i=>by simp[Cl]
 |w::l,i=>by
  have:=X8 p s l (i+1);rw[Cl,Be,List.length_cons];split<;>simp<;>omega
def Tn{p:AX}{sz:List Int}{s:BU}(C:BP p sz)(u:Fo p sz s):BX kT 34 [pA p,sA s] []=.ok (.ret (.d (.bv ((CG p s).map Cr))),[]):=by
 have a':=u.small;simp only[BU.small,AP,Ap]at a';obtain⟨c5,c6,c7,c8⟩:=a';have az:=AH.mk (X8 p s s.waits 0);obtain⟨W,P⟩: ∃W,W=Cl p s 0 s.waits:=⟨_,rfl⟩;have b3:AH (CG p s=W++DD p s 0 s.ce):=⟨by rw[CG,P]⟩;rw[<-P]at az;replace u:=AB u;replace C:=AB C;refine Az Tryz.func34 ?_;refine aw ?_;refine GH [(6,.int .i64 0)] rfl (by simp only[go_sem];rfl) (by simp only[go_sem];rfl) (L:=[]) (.inl ⟨rfl,rfl⟩) fun A B v g b c=>?_;refine Ah s.waits (S:=fun i (a:Abs.Id×Abs.Id×AV×AD×Nat)=>⟨[(2,.ptr a.1 0),(3,.ptr a.2.1 0),(5,a.2.2.1),(6,nI i)],a.2.2.2.1,a.2.2.2.2,[]⟩)
  (Inv:=fun i O a=>AH (∃L,rz p s a.1 a.2.1 a.2.2.1 a.2.2.2.1 a.2.2.2.2 L/\L++Cl p s i O=W)) (b0:=(A,B,v,g,b)) ⟨_,c,by rw[P];rfl⟩ ?_ ?_
 .clear c A B v g b;rintro i w ⟨A,B,v,g,b⟩ K ad ag c Z;obtain⟨L,c,h⟩:=c.1;dsimp only at*;obtain⟨x,av⟩:=O5 C.1 (u.1.wait w (AS K));have c0:=uf C.1 u.1 av;have m:=c.pa;have j:=c.sb;have T:=cZ c.na;have b6:=VE c.na;have U:=cZ c.nb;have b7:=VE c.nb;have D:L.length<=100:=by
   have:=az.1;rw[<-h,Be]at this;omega
  rw[Cl]at h;replace h:=AB h;replace av:=AB av;have F:AH (∀X Y V g' b' L',L'=L++(if ol p s w=true then [⟨i,0,0,[]⟩]else [])->rz p s X Y V g' b' L'->_):=⟨fun X Y V g' b' L' b1 bx=>Z.1 (X,Y,V,g',b') ⟨L',bx,by rw[<-h.1,b1,DO]⟩⟩;rcases c.slv with⟨rfl,Q⟩|⟨id,I,rfl,z⟩
  .have b4:=D5.1 Q;subst b4;replace c:=AB c
   (repeat' (first|simp only[go_sem, *]|(refine sx ?_ ?_<;>intro ac)|refine sy AA fun x t ai=>?_|simp(disch:=first|assumption|omega) only[AR]))
   .refine GH [(6,.int .i64 (i+1))] rfl (by simp only[go_sem,T,m,AM]) (by simp only[go_sem,U,j,AM]) (L:=[⟨i,0,0,[]⟩]) (Ao [] rfl zFI) fun A B v g b o=>F.1 A B v g b _ zEo o
   .exact GH [(6,.int .i64 (i+1))] rfl m j (L:=[]) (.inl ⟨rfl,rfl⟩) fun A B v g b o=>F.1 A B v g b _ zEo o
  .have bk:=cZ (c.nv id BH);have c3:=VE (c.nv id BH);have cl:Id.is A id=false:=Fi m z;have be:Id.is id A=false:=Fi z m;have cn:Id.is B id=false:=Fi j z;have bi:Id.is id B=false:=Fi z j;rw[As];replace c:=AB c;rcases I with _|⟨y,I⟩
   ·(repeat' (first|simp only[go_sem, *,AM]|(refine sx ?_ ?_<;>intro ac)|refine sy AA fun x t ai=>?_|simp(disch:=first|assumption|omega) only[AR]))
    .refine GH [(6,.int .i64 (i+1))] rfl (by simp only[go_sem,T,be,m,AM]) (by simp only[go_sem,U,bi,j,AM]) (L:=L++[⟨i,0,0,[]⟩]) (Ao [] AG (by simp only[go_sem,bk,BE,AM];done)) fun A B v g b o=>F.1 A B v g b _ zEo o
    .exact GH [(6,.int .i64 (i+1))] rfl m j (L:=L) (Ao [] AG z) fun A B v g b o=>F.1 A B v g b _ zEo o
   ·(repeat' (first|simp only[go_sem, *,AM]|(refine sx ?_ ?_<;>intro ac)|refine sy AA fun x t ai=>?_|simp(disch:=first|assumption|omega) only[AR]))
    .refine GH [(6,.int .i64 (i+1))] rfl (by simp only[go_sem,T,be,m,AM]) (by simp only[go_sem,U,bi,j,AM]) (L:=L++[⟨i,0,0,[]⟩]) (Ao I AG (by simp only[go_sem,bk,BE,AM];done)) fun A B v g b o=>F.1 A B v g b _ zEo o
    .exact GH [(6,.int .i64 (i+1))] rfl m j (L:=L) (Ao (y::I) AG z) fun A B v g b o=>F.1 A B v g b _ zEo o
 .rintro i ⟨A,B,v,g,b⟩ ad ag c;obtain⟨L,f,h⟩:=c.1;clear c;dsimp only at*;rw[Cl,CI]at h;subst h;clear P;have m:=f.pa;have j:=f.sb;have n:=f.slv;clear f;replace n:=AB n;refine aw ?_;refine GH [(7,.int .i64 0)] rfl m j (L:=L) n.1 fun A B v g b c=>?_;clear m j n;refine Ah s.ce (S:=fun i (a:Abs.Id×Abs.Id×AV×AD×Nat)=>⟨[(2,.ptr a.1 0),(3,.ptr a.2.1 0),(5,a.2.2.1),(7,nI i)],a.2.2.2.1,a.2.2.2.2,[]⟩)
   (Inv:=fun i O a=>AH (∃L,rz p s a.1 a.2.1 a.2.2.1 a.2.2.2.1 a.2.2.2.2 L/\L++DD p s i O=CG p s/\L.length<=40+i*60000)) (b0:=(A,B,v,g,b)) ⟨_,c,b3.1.symm,by have:=az.1;omega⟩ ?_ ?_
  .clear c A B v g b;rintro i a3 ⟨A,B,v,g,b⟩ K ad ag c Z;obtain⟨L,f,h,D⟩:=c.1;clear c;dsimp only at*;obtain⟨d,H⟩:=u.1.grp i a3 K;obtain⟨g0,a4⟩:=Fx H.f9;have cs:=AK a4;have cx:=(CC C.1 a4).ok.rules;have m:=f.pa;have j:=f.sb;have n:=f.slv;clear f;replace n:=AB n;rw[DD,H.f9]at h;dsimp only at h;replace h:=AB h;replace H:=AB H;refine aw ?_;refine GH [(7,.int .i64 i),(8,.int .i64 0)] rfl m j (L:=L) n.1 fun A B v g b c=>?_;clear m j n;refine Ah d.rules (S:=fun k (a:Abs.Id×Abs.Id×AV×AD×Nat)=>⟨[(2,.ptr a.1 0),(3,.ptr a.2.1 0),(5,a.2.2.1),(7,nI i),(8,nI k)],a.2.2.2.1,a.2.2.2.2,[]⟩)
    (Inv:=fun k O a=>AH (∃L,rz p s a.1 a.2.1 a.2.2.1 a.2.2.2.1 a.2.2.2.2 L/\L++(Cd s d a3 i k O++DD p s (i+1) (s.ce.drop (i+1)))=CG p s/\L.length<=40+i*60000+k*2000)) (b0:=(A,B,v,g,b)) ⟨_,c,h.1,AA⟩ ?_ ?_
   .clear c h D A B v g b;rintro k r ⟨A,B,v,g,b⟩ a7 a5 b2 c a2;obtain⟨L,f,h,D⟩:=c.1;clear c;dsimp only at*;have a6:=qO C.1 u.1 K H.1 a7;have m:=f.pa;have j:=f.sb;have T:=cZ f.na;have b6:=VE f.na;have U:=cZ f.nb;have b7:=VE f.nb;have J:=Mq C.1 u.1 K H.1 (AS a7);rw[Cd]at h;have n:=AB f.slv;have bc:AH (∀id∈AE v,Id.under [b+27] id=false):=⟨fun id q=>VF (f.nv id q) AA⟩;have bs:Id.under [b+27] A=false:=VF f.na AA;have bv:Id.under [b+27] B=false:=VF f.nb AA;replace h:=AB h;replace f:=AB f;have c1:(i:Int)<1000000:=AA;rcases gl J with⟨M,N⟩|⟨many,M,N,b5,a0,R⟩
    .rw[M]at a6;rw[N]at h;replace J:=AB J;clear M N;refine aw ?_;refine GH [(7,.int .i64 i),(8,.int .i64 (k+1))] rfl m j (L:=L) n.1 fun A B v g b o=>a2.1 (A,B,v,g,b) ⟨L,o,h.1,AA⟩
    .rw[M]at a6;have c2:(0:Int)<many.length:=AA;rw[N]at h;replace J:=AB J;replace R:=AB R;clear M N;refine aw ?_;refine Ad (dA i k many b5 a0 R.1 many.length g [b+27] v .d7 L [] ?_ n.1 (.inl ⟨rfl,rfl⟩) (fun _=>rfl) (fun id q=>?_) AG) (fun c4 g1 b8=>?_)
     .have:12 ^ many.length<=12 ^ 3:=Nat.pow_le_pow_right AA a0;omega
     .rcases q with q|q
      .exact bc.1 id q
      .simp[AE]at q
     obtain⟨V,rfl,bl,bo,a1⟩:=b8;have cc:(gc [b+27] g1).get A=_:=(An _ _ _ bs).trans ((a1 A (fun e=>by obtain⟨x,t⟩:=Ia n.1 e;rw[m]at t;cases t) bs).trans m);have ch:(gc [b+27] g1).get B=_:=(An _ _ _ bv).trans ((a1 B (fun e=>by obtain⟨x,t⟩:=Ia n.1 e;rw[j]at t;cases t) bv).trans j);have ar:=GM bl (g':=gc [b+27] g1) fun id q=>by
      rcases bo id q with e|⟨_,l,rfl⟩
      .exact An _ _ _ (bc.1 id e)
      .exact G5 _ _ _
     replace ar:=AB ar;clear bl bo a1;refine aw ?_;refine GH [(7,.int .i64 i),(8,.int .i64 (k+1))] rfl cc ch ar.1 fun A B v g b o=>a2.1 (A,B,v,g,b) ⟨_,o,?_,?_⟩
     .rw[<-h.1];simp
     .have cp:=R8 R.1;have:12 ^ many.length<=12 ^ 3:=Nat.pow_le_pow_right AA a0;simp only[Be,As,List.length_nil,List.drop_zero];omega
   .rintro k ⟨A,B,v,g,b⟩ a5 b2 c;obtain⟨L,f,h,D⟩:=c.1;clear c;dsimp only at*;have m:=f.pa;have j:=f.sb;have n:=f.slv;clear f;replace n:=AB n;refine aw ?_;refine GH [(7,.int .i64 (i+1))] rfl m j (L:=L) n.1 fun A B v g b o=>Z.1 (A,B,v,g,b) ⟨L,o,by simpa[Cd]using h,by have:=a5.1;omega⟩
  .rintro i ⟨A,B,v,g,b⟩ ad ag c;obtain⟨L,f,h,D⟩:=c.1;clear c;dsimp only at*;rw[DD,CI]at h;subst h;have j:=f.sb;rcases f.slv with⟨rfl,Q⟩|⟨id,I,rfl,z⟩
   .rw[Q];clear Q f D;exact au
   .rw[As];have c9:List.take (CG p s).length ((CG p s).map Cr++I)=(CG p s).map Cr:=RJ _ _ _;clear f D
    (repeat' (first|simp only[go_sem, *,Es]|(refine sx ?_ ?_<;>intro ac)|refine sy AA fun x t ai=>?_|simp(disch:=first|assumption|omega) only[AR]))
def Sm(o:Abs.Obj):Prop:=Ep (some o)=[]/\ ∀ν,E1 ν o=o
def VU(ν:Abs.Id->Option Abs.Id): ∀cs:List Al,Fj ν (cs.map .d)=cs.map .d
 |[]=>rfl
 |c::cs=>by rw[By,Fj,VU ν cs];simp[ren]
def Uw: ∀cs:List Al,A9 (cs.map .d)=[]
 |[]=>rfl
 |c::cs=>by rw[By,A9,Uw cs];rfl
def kC(cs:List Al):Sm (.box (cs.map .d)):=⟨by simp[Ep,Uw],fun ν=>by simp[E1,VU]⟩
def yY(sz:Nat)(es:List (List Al)):Sm (.em sz es):=⟨rfl,fun ν=>rfl⟩
variable{H:AD}
def se{K:Ab}{fr:Fr}{f bl:Nat}{x:Code}{Q:Eh->St->Prop}{E:CA}(e:CA)(l:Kj E (cfg.live f bl)=e)(q:(Fz e).length<=1000)(k: ∀y∈Fz e,∃o,H.get y=some o/\Sm o)
 (r: ∀ν g b,(∀y∈Fz e,∃z,ν y=some z/\FW [] b z/\g.get z=H.get y)->Tq cfg K fr bl x ⟨e.map fun y=>(y.1,ren ν y.2),g,b,[]⟩ Q):Tq cfg K fr bl x (Ir cfg f [] bl E H) Q:=by
 rw[Ec,l];obtain⟨ν,h',n,m,s,i⟩:=JY [] H e (Fz e) q (fun y a=>a) (by
  intro y a z c;obtain⟨o,h,h2,_⟩:=k y a;rw[h,h2]at c;cases c)
 rw[m];refine r ν h' n fun y a=>?_;obtain⟨z,c⟩:=i.env y a;obtain⟨o,h,_,h2⟩:=k y a;refine⟨z,c,?_,?_⟩
 .obtain⟨j,p,rfl⟩:=i.name y z c;exact⟨_,j,p,rfl⟩
 .rw[h,i.get y z o c h,h2]
def mI(b:Nat)(e:CA)(h:AD)(bs:Nat)(π:List Nat)(ci:Option (List Nat))(a:Bool)(nt:Nat):Fq cfg ⟨104,π,false,ci,a,nt⟩ b ⟨e,h,bs,[]⟩=Ir cfg 104 π b e h:=by
 exact zEE
attribute [go_sem 2000] mI
def MJ(g:AD)(sz:Nat)(v:AV)(es:List (List Al)):Prop:=(es=[]/\v=.d7)\/(es≠ []/\ ∃id,v=.f8 id 0 es.length/\g.get id=some (.em sz es))
variable{g:AD}{es:List (List Al)}
def Dd{sz:Nat}{v:AV}(h:MJ g sz v es):KJ g sz v es:=by
 rcases h with⟨rfl,rfl⟩|⟨_,id,rfl,a⟩
 .exact .inl ⟨rfl,rfl⟩
 .exact .inr ⟨id,[],rfl,by rw[a,CI]⟩
def EI{g:AD}{sz:Nat}{v:AV}{es:List (List Al)}(h:MJ g sz v es){id:Abs.Id}(a:id∈AE v):v=.f8 id 0 es.length/\g.get id=some (.em sz es):=by
 rcases h with⟨rfl,rfl⟩|⟨_,c,rfl,b⟩
 .cases a
 .simp only[AE,Ac]at a;subst a;exact⟨rfl,b⟩
def RQ{sz:Nat}{v:AV}(h:MJ g sz v es):(AE v).length<=1:=by
 rcases h with⟨rfl,rfl⟩|⟨_,b,rfl,a⟩<;>simp[AE]
def E3{sz:Nat}{v:AV}(h:MJ g sz v es)(c: ∀id∈AE v,H.get id=g.get id):MJ H sz v es:=by
 rcases h with h|⟨a,id,rfl,b⟩
 .exact .inl h
 .exact .inr ⟨a,id,rfl,by rw[c id BH];exact b⟩
def RR{H':AD}{e:CA}{ν:Abs.Id->Option Abs.Id}{sz:Nat}{v:AV}(f:M4 π H e ν H' n)(h:MJ H sz v es)(i: ∀id∈AE v,∃z,ν id=some z):MJ H' sz (ren ν v) es/\ ∀z∈AE (ren ν v),∃id∈AE v,ν id=some z:=by
 rcases h with⟨rfl,rfl⟩|⟨c,id,rfl,g⟩
 .exact⟨.inl ⟨rfl,by simp[ren]⟩,by simp[ren,AE]⟩
 .obtain⟨z,a⟩:=i id BH;refine⟨.inr ⟨c,z,by simp[ren,a],?_⟩,fun y b=>⟨id,BH,?_⟩⟩
  .have:=f.get id z _ a g;simpa[E1]using this
  .simp[ren,a,AE]at b;rw[b];exact a
def Hz(B R O:Abs.Id)(v1 v2 v3 v4:AV)(rows:List (List AV)):List Abs.Id:=B::R::O::(AE v1++AE v2++AE v3++AE v4++rows.flatMap A9)
variable{rows:List (List AV)}
def BQ{B R O:Abs.Id}{v1 v2 v3 v4:AV}{x:Abs.Id}:x∈Hz B R O v1 v2 v3 v4 rows↔x=B\/x=R\/x=O\/x∈AE v1\/x∈AE v2\/x∈AE v3\/x∈AE v4\/x∈rows.flatMap A9:=by
 simp only[Hz,D0,EL,or_assoc]
def rQ(g:AD)(v:AV)(rows:List (List AV)):Prop:=(rows=[]/\v=.d7)\/(rows≠ []/\ ∃A,v=.f8 A 0 rows.length/\g.get A=some (.arr 4 rows))
def Zu{v:AV}(h:rQ g v rows):rV g v rows:=by
 rcases h with⟨a,h2⟩|⟨_,A,a,h2⟩
 .exact .inl ⟨h2,a⟩
 .exact .inr ⟨A,a,h2⟩
structure Vq(cs:List Al)(s:BU)(ng nc nw:Nat)(B R O:Abs.Id)(v1 v2 v3 v4:AV)(rows:List (List AV))(g:AD):Prop where
 bx:g.get B=some (.box (cs.map .d))
 res:g.get R=some (.box [.d7,.d7,.d7,.d7])
 out:g.get O=some (.box [v1,v2,v3,v4])
 s0:MJ g 2 v1 (s.ac.map Aw)
 s1:MJ g 3 v2 ((s.ce.take ng).map BG)
 arr:rQ g v3 rows
 rep:Fu g rows (s.be.take nc)
 s2:MJ g 3 v4 ((s.waits.take nw).map Ae)
 gw: ∀id∈AE v2,id∉AE v4
 ro:R≠O
 bo:B≠O
structure eI(π:List Nat)(cs:List Al)(s:BU)(ng nc nw:Nat)(B R O:Abs.Id)(v1 v2 v3 v4:AV)(rows:List (List AV))(g:AD)(b:Nat):Prop where
 cp:Vq cs s ng nc nw B R O v1 v2 v3 v4 rows g
 nm: ∀id∈Hz B R O v1 v2 v3 v4 rows,FW π b id
 own: ∀id,Id.under π id=false->g.get id=none
structure H4 where
 B:Abs.Id
 R:Abs.Id
 O:Abs.Id
 v1:AV
 v2:AV
 v3:AV
 v4:AV
 rows:List (List AV)
 g:AD
 b:Nat
section
variable{cs:List Al}{s:BU}{ng nc nw:Nat}{B R O:Abs.Id}{v1 v2 v3 v4:AV}{rows:List (List AV)}{g H H':AD}{π:List Nat}{e:CA}{ν:Abs.Id->Option Abs.Id}{n:Nat}
def Vq.arrg(h:Vq cs s ng nc nw B R O v1 v2 v3 v4 rows g){id:Abs.Id}(a:id∈AE v3):v3=.f8 id 0 rows.length/\g.get id=some (.arr 4 rows):=by
 rcases h.arr with⟨_,rfl⟩|⟨_,A,rfl,b⟩
 .cases a
 .simp only[AE,Ac]at a;subst a;exact⟨rfl,b⟩
def Vq.chv(h:Vq cs s ng nc nw B R O v1 v2 v3 v4 rows g):rV g v3 rows:=Zu h.arr
def Vq.closed(h:Vq cs s ng nc nw B R O v1 v2 v3 v4 rows g): ∀x∈Hz B R O v1 v2 v3 v4 rows,∀y∈Ep (g.get x),y∈Hz B R O v1 v2 v3 v4 rows:=fun x b y a=>by
 rcases BQ.1 b with rfl|rfl|rfl|b|b|b|b|b
 .rw[h.bx]at a;simp[Ep,Uw]at a
 .rw[h.res]at a;simp[Ep,A9,AE]at a
 .rw[h.out]at a;simp only[Ep,A9,CI,EL]at a;refine BQ.2 ?_;rcases a with h|h|h|h<;>simp[h]
 .rw[(EI h.s0 b).2]at a;cases a
 .rw[(EI h.s1 b).2]at a;cases a
 .rw[(h.arrg b).2]at a;exact BQ.2 (by simp only[Ep]at a;simp[a])
 .rw[(EI h.s2 b).2]at a;cases a
 .obtain⟨q,c⟩:=EY h.rep b;rw[c]at a;cases a
def Vq.small(h:Vq cs s ng nc nw B R O v1 v2 v3 v4 rows g)(j:s.be.length<=60):(Hz B R O v1 v2 v3 v4 rows).length<=67:=by
 have b:=RQ h.s0;have h2:=RQ h.s1;have e:=RQ h.s2;have f:=Sb h.rep;have a:=h.rep.len;have c:(AE v3).length<=1:=by
  rcases h.arr with⟨_,rfl⟩|⟨_,A,rfl,i⟩<;>simp[AE]
 simp only[Hz,List.length_cons,Be];rw[F2]at a;omega
def Vq.ren(h:Vq cs s ng nc nw B R O v1 v2 v3 v4 rows H)(b:M4 π H e ν H' n)(av:B∈Fz e)(a0:R∈Fz e)(az:O∈Fz e): ∃p R' m,ν B=some p/\ν R=some R'/\ν O=some m/\eI π cs s ng nc nw p R' m (ren ν v1) (ren ν v2) (ren ν v3) (ren ν v4) (rows.map (Fj ν)) H' n/\ ∀z∈Hz p R' m (ren ν v1) (ren ν v2) (ren ν v3) (ren ν v4) (rows.map (Fj ν)),∃x∈Hz B R O v1 v2 v3 v4 rows,ν x=some z:=by
 obtain⟨p,C⟩:=b.env B av;obtain⟨R',D⟩:=b.env R a0;obtain⟨m,t⟩:=b.env O az;have u: ∀id∈A9 [v1,v2,v3,v4],∃z,ν id=some z:=fun id f=>b.deep O m t id (by rw[h.out];exact f);simp only[A9,CI,EL]at u;obtain⟨ac,b1⟩:=RR b h.s0 fun id f=>u id (.inl f);obtain⟨ad,T⟩:=RR b h.s1 fun id f=>u id (.inr (.inl f));obtain⟨ag,U⟩:=RR b h.s2 fun id f=>u id (.inr (.inr (.inr f)));have W: ∀id∈rows.flatMap A9,∃z,ν id=some z:=by
  rcases h.arr with⟨rfl,_⟩|⟨_,A,rfl,F⟩
  .intro id f;cases f
  .obtain⟨z,a⟩:=u A BH;exact fun id f=>b.deep A z a id (by rw[F];exact f)
 obtain⟨S,bc⟩:=Sc b h.rep W;have Q:rQ H' (Go.Abs.ren ν v3) (rows.map (Fj ν))/\ ∀z∈AE (Go.Abs.ren ν v3),∃id∈AE v3,ν id=some z:=by
  rcases h.arr with⟨rfl,rfl⟩|⟨ar,A,rfl,F⟩
  .exact⟨.inl ⟨rfl,by simp[Go.Abs.ren]⟩,by simp[Go.Abs.ren,AE]⟩
  .obtain⟨z,a⟩:=u A BH;refine⟨.inr ⟨by simpa using ar,z,by simp[Go.Abs.ren,a],?_⟩,fun y M=>⟨A,BH,?_⟩⟩
   .have:=b.get A z _ a F;simpa[E1]using this
   .simp[Go.Abs.ren,a,AE]at M;rw[M];exact a
 have ai: ∀z∈(rows.map (Fj ν)).flatMap A9,∃x∈rows.flatMap A9,ν x=some z:=fun z a=>by
  obtain⟨q,N⟩:=EY S a;obtain⟨x,L⟩:=b.only z _ N;refine⟨x,?_,L⟩;obtain⟨r',a3,a4⟩:=CS.1 a;obtain⟨r,P,rfl⟩:=F1.1 a3;refine CS.2 ⟨r,P,?_⟩;have key: ∀l:List AV,(∀id∈A9 l,∃z,ν id=some z)->(∀v∈l,(∃d,v=.d d)\/v=.d7\/ ∃id k,v=.f8 id 0 k)->z∈A9 (Fj ν l)->x∈A9 l:=by
   intro l;induction l with
   |nil=>intro _ _ a;simp[Fj,A9]at a
   |cons v l a5=>
    intro V J a;simp only[Fj,A9,EL]at a⊢;rcases a with a|a
    .refine .inl ?_;rcases J v AG with⟨d,rfl⟩|rfl|⟨id,k,rfl⟩
     .simp[Go.Abs.ren,AE]at a
     .simp[Go.Abs.ren,AE]at a
     .obtain⟨be,Y⟩:=V id (by simp[A9,AE]);simp[Go.Abs.ren,Y,AE]at a;subst a;rw[b.inj x id z L Y];simp[AE]
    .exact .inr (a5 (fun id f=>V id (by simp[A9,f])) (fun w K=>J w (F0 _ K)) a)
  refine key r (fun id f=>W id (CS.2 ⟨r,P,f⟩)) (fun v J=>?_) a4;obtain⟨j,I⟩:=II P;have a2:=(BV.1 I).1;obtain⟨c,a1⟩:=get_some (l:=s.be.take nc) (i:=j) (by rw[<-h.rep.len];exact a2);obtain⟨w,K,N⟩:=h.rep.row j c a1;rw[I]at K;cases K;simp only[A6,D0,Gc,Lt]at J;rcases J with rfl|rfl|rfl|rfl
  .exact .inl ⟨_,rfl⟩
  .exact .inl ⟨_,rfl⟩
  .exact .inl ⟨_,rfl⟩
  .rcases N with⟨_,rfl⟩|⟨_,id,rfl,_⟩
   .exact .inr (.inl rfl)
   .exact .inr (.inr ⟨_,_,rfl⟩)
 have all: ∀z∈Hz p R' m (Go.Abs.ren ν v1) (Go.Abs.ren ν v2) (Go.Abs.ren ν v3) (Go.Abs.ren ν v4) (rows.map (Fj ν)),∃x∈Hz B R O v1 v2 v3 v4 rows,ν x=some z:=fun z a=>by
  rcases BQ.1 a with rfl|rfl|rfl|a|a|a|a|a
  .exact⟨B,by simp[Hz],C⟩
  .exact⟨R,by simp[Hz],D⟩
  .exact⟨O,by simp[Hz],t⟩
  .obtain⟨x,g,h2⟩:=b1 z a;exact zC1
  .obtain⟨x,g,h2⟩:=T z a;exact zC1
  .obtain⟨x,g,h2⟩:=Q.2 z a;exact zC1
  .obtain⟨x,g,h2⟩:=U z a;exact zC1
  .obtain⟨x,g,h2⟩:=ai z a;exact⟨x,BQ.2 (.inr (.inr (.inr (.inr (.inr (.inr (.inr g))))))),h2⟩
 refine⟨p,R',m,C,D,t,⟨⟨?_,?_,?_,ac,ad,Q.1,S,ag,fun id g h2=>?_,fun e=>?_,fun e=>?_⟩,fun id f=>?_,fun id X=>?_⟩,all⟩
 .have:=b.get B p _ C h.bx;simpa[E1,VU]using this
 .have:=b.get R R' _ D h.res;simpa[E1,Fj,Go.Abs.ren]using this
 .have:=b.get O m _ t h.out;simpa[E1,Fj]using this
 .obtain⟨x,Z,a6⟩:=T id g;obtain⟨y,a7,a'⟩:=U id h2;rw[b.inj x y id a6 a']at Z;exact h.gw y Z a7
 .rw[e]at D;exact h.ro (b.inj R O m D t)
 .rw[e]at C;exact h.bo (b.inj B O m C t)
 .obtain⟨x,_,L⟩:=all id f;obtain⟨j,I,rfl⟩:=b.name x id L;exact⟨_,j,I,rfl⟩
 .cases F:H'.get id with
  |none=>rfl
  |some o=>
   obtain⟨y,M⟩:=b.only id o F;obtain⟨j,I,rfl⟩:=b.name y id M;rw[JF]at X;cases X
end
structure y4 where
 a:H4
 Y:Abs.Id
 vq:AV
section
variable{cs:List Al}{s:BU}{i nc nw ng b:Nat}{B R O A Q:Abs.Id}{v1 v2 v3 v4:AV}{rows:List (List AV)}{g H:AD}{π:List Nat}
def eI.group(h:eI π cs s i nc nw B R O v1 v2 v3 v4 rows g b)(u:H.get O=some (.box [v1,.f8 A 0 (i+1),v3,v4]))(x:i<s.ce.length)(t:H.get A=some (.em 3 ((s.ce.take (i+1)).map BG)))(v: ¬FW π b A)(p: ∀id,FW π b id->id≠O->id∉AE v2->H.get id=g.get id):Vq cs s (i+1) nc nw B R O v1 (.f8 A 0 (i+1)) v3 v4 rows H:=by
 have c:=h.cp;have n:((s.ce.take (i+1)).map BG).length=i+1:=zFb
 have k: ∀id∈Hz B R O v1 v2 v3 v4 rows,∀o,g.get id=some o->id≠O->(∀es,o≠ .em 3 es)->H.get id=g.get id:=fun id a o j f h2=>p id (h.nm id a) f fun e=>by
  rw[(EI c.s1 e).2]at j;exact h2 _ (Ip j).symm
 have l: ∀id o,g.get id=some o->(∀cs,o≠ .box cs)->id≠O:=fun id o j f e=>by
  rw[e,c.out]at j;exact f _ (Ip j).symm
 have w: ∀id∈Hz B R O v1 v2 v3 v4 rows,id≠A:=fun id a e=>v (e▸h.nm id a);refine⟨?_,?_,u,E3 c.s0 fun id a=>?_,.inr ⟨fun e=>by rw[e]at n;simp at n,A,by rw[n],t⟩,?_,EK c.rep fun id a=>?_,E3 c.s2 fun id a=>?_,fun id f h2=>?_,c.ro,c.bo⟩
 .rw[k B zEY _ c.bx c.bo AG];exact c.bx
 .rw[k R zEY _ c.res c.ro AG];exact c.res
 .exact zC4
 .exact zB2
 .exact zCB
 .have:=(EI c.s2 a).2;exact p id (h.nm id (BQ.2 zEg)) (l id _ this AG) fun e=>c.gw id e a
 .simp only[AE,Ac]at f;exact w id (BQ.2 (by simp[h2])) f
def eI.wait(h:eI π cs s ng nc i B R O v1 v2 v3 v4 rows g b)(u:H.get O=some (.box [v1,v2,v3,.f8 A 0 (i+1)]))(x:i<s.waits.length)(t:H.get A=some (.em 3 ((s.waits.take (i+1)).map Ae)))(v: ¬FW π b A)(p: ∀id,FW π b id->id≠O->id∉AE v4->H.get id=g.get id):Vq cs s ng nc (i+1) B R O v1 v2 v3 (.f8 A 0 (i+1)) rows H:=by
 have c:=h.cp;have n:((s.waits.take (i+1)).map Ae).length=i+1:=zFb
 have k: ∀id∈Hz B R O v1 v2 v3 v4 rows,∀o,g.get id=some o->id≠O->(∀es,o≠ .em 3 es)->H.get id=g.get id:=fun id a o j f h2=>p id (h.nm id a) f fun e=>by
  rw[(EI c.s2 e).2]at j;exact h2 _ (Ip j).symm
 have l: ∀id o,g.get id=some o->(∀cs,o≠ .box cs)->id≠O:=fun id o j f e=>by
  rw[e,c.out]at j;exact f _ (Ip j).symm
 have w: ∀id∈Hz B R O v1 v2 v3 v4 rows,id≠A:=fun id a e=>v (e▸h.nm id a);refine⟨?_,?_,u,E3 c.s0 fun id a=>?_,E3 c.s1 fun id a=>?_,?_,EK c.rep fun id a=>?_,.inr ⟨fun e=>by rw[e]at n;simp at n,A,by rw[n],t⟩,fun id f h2=>?_,c.ro,c.bo⟩
 .rw[k B zEY _ c.bx c.bo AG];exact c.bx
 .rw[k R zEY _ c.res c.ro AG];exact c.res
 .exact zC4
 .have:=(EI c.s1 a).2;exact p id (h.nm id (BQ.2 zEg)) (l id _ this AG) fun e=>c.gw id a e
 .exact zB2
 .exact zCB
 .simp only[AE,Ac]at h2;exact w id (BQ.2 zFX) h2
def Vq.pm(c:Vq cs s ng nc nw B R O v1 v2 v3 v4 rows g)(a: ∀id∈Hz B R O v1 v2 v3 v4 rows,H.get id=g.get id):Vq cs s ng nc nw B R O v1 v2 v3 v4 rows H:=by
 refine⟨(a B zEY).trans c.bx,(a R zEY).trans c.res,(a O zEY).trans c.out,E3 c.s0 fun id b=>a id (BQ.2 zE9),E3 c.s1 fun id b=>a id (BQ.2 zE9),?_,EK c.rep fun id b=>a id (BQ.2 (.inr (.inr (.inr (.inr (.inr (.inr (.inr b)))))))),E3 c.s2 fun id b=>a id (BQ.2 zE9),c.gw,c.ro,c.bo⟩;rcases c.arr with e|⟨e,Z,rfl,f⟩
 .exact .inl e
 .exact .inr ⟨e,Z,rfl,by rw[a Z (BQ.2 BH)];exact f⟩
def eI.chan{c:HD}{vq:AV}(h:eI π cs s ng i nw B R O v1 v2 v3 v4 rows g b)(n:s.be[i]? =some c)(r:H.get O=some (.box [v1,v2,.f8 A 0 (i+1),v4]))(p:H.get A=some (.arr 4 (rows++[A6 c vq])))(k:yI H vq c.queue)(t: ∀id∈AE vq,id∉rows.flatMap A9)(u: ∀id,FW π b id->id≠O->id∉AE v3->H.get id=g.get id):Vq cs s ng (i+1) nw B R O v1 v2 (.f8 A 0 (i+1)) v4 (rows++[A6 c vq]) H:=by
 have w:=h.cp;have x:=(BV.1 n).1;have v:rows.length=i:=by rw[w.rep.len,F2];omega
 have f: ∀id∈Hz B R O v1 v2 v3 v4 rows,∀o,g.get id=some o->id≠O->(∀es,o≠ .arr 4 es)->H.get id=g.get id:=fun id a o j m h2=>u id (h.nm id a) m fun e=>by
  rw[(w.arrg e).2]at j;exact h2 _ (Ip j).symm
 have l: ∀id o,g.get id=some o->(∀cs,o≠ .box cs)->id≠O:=fun id o j m e=>by
  rw[e,w.out]at j;exact m _ (Ip j).symm
 refine⟨?_,?_,r,E3 w.s0 fun id a=>?_,E3 w.s1 fun id a=>?_,.inr ⟨AG,A,by simp[v],p⟩,?_,E3 w.s2 fun id a=>?_,w.gw,w.ro,w.bo⟩
 .rw[f B zEY _ w.bx w.bo AG];exact w.bx
 .rw[f R zEY _ w.res w.ro AG];exact w.res
 .have:=(EI w.s0 a).2;exact zCU
 .have:=(EI w.s1 a).2;exact zCU
 .rw[show s.be.take (i+1)=s.be.take i++[c] by rw[GC,n];rfl];refine JZ (EK w.rep fun id a=>?_) k t;obtain⟨q,k⟩:=EY w.rep a;exact f id (BQ.2 (.inr (.inr (.inr (.inr (.inr (.inr (.inr a)))))))) _ k (l id _ k AG) AG
 .have:=(EI w.s2 a).2;exact zCU
structure IY(π:List Nat)(s:BU)(v1 v2 v3 v4:AV)(rows:List (List AV))(g:AD):Prop where
 s0:MJ g 2 v1 (s.ac.map Aw)
 s1:MJ g 3 v2 (s.ce.map BG)
 arr:rQ g v3 rows
 rep:Fu g rows s.be
 s2:MJ g 3 v4 (s.waits.map Ae)
 cp:Te π s v1 v2 v3 v4 rows g
def eI.post(h:eI π cs s s.ce.length s.be.length s.waits.length B R O v1 v2 v3 v4 rows g b)(bs:List AV):IY π s v1 v2 v3 v4 rows (g.put R (.box bs)):=by
 have w:=h.cp;have k: ∀x o,g.get x=some o->(∀cs,o≠ .box cs)->(g.put R (.box bs)).get x=g.get x:=fun x o p u=>by
  rw[get_put,AF fun e=>by rw[<-e,w.res]at p;exact u _ (Ip p).symm];rfl
 have f: ∀{sz:Nat} {v:AV} {es:List (List Al)},MJ g sz v es->MJ (g.put R (.box bs)) sz v es:=fun h=>E3 h fun id a=>k id _ (EI h a).2 AG;have l: ∀id,id∈Hz B R O v1 v2 v3 v4 rows->Id.under π id=true:=fun id a=>by
  obtain⟨t,j,_,rfl⟩:=h.nm id a;exact JF _ _ _
 have c:=w.s1;have h2:=w.s2;have i:=w.rep;rw[D2]at c h2 i;have n:Fu (g.put R (.box bs)) rows s.be:=EK i fun id a=>by
  obtain⟨q,y⟩:=EY i a;exact k id _ y AG
 have m:rQ (g.put R (.box bs)) v3 rows:=by
  rcases w.arr with c|⟨r,A,c,h2⟩
  .exact .inl c
  .exact .inr ⟨r,A,c,by rw[k A _ h2 AG];exact h2⟩
 refine⟨f w.s0,f c,m,n,f h2,Dd (f w.s0),Dd (f c),Dd (f h2),Zu m,YU n,i.diff,w.gw,fun id a=>l id (BQ.2 ?_),fun id a=>?_⟩
 .rcases a with h|h|h|h|h<;>simp only[h,true_or,or_true]
 .rw[get_put,AF fun e=>by rw[<-e,l R zEY]at a;cases a];exact h.own id a
end
variable{K:Ab}{fr:Fr}{bl bk:Nat}{x:Code}{Q:Eh->St->Prop}{π:List Nat}{cs:List Al}{R O:Abs.Id}{v1 v2 v3 v4:AV}{rows:List (List AV)}{H:AD}
def sw{f:Nat}{s:BU}{ng nc nw:Nat}{B:Abs.Id}{E:CA}(e:CA)
 (j:Kj E (cfg.live f bk)=e) (h:Vq cs s ng nc nw B R O v1 v2 v3 v4 rows H) (o:s.be.length<=60) (a: ∀y,y∈Fz e↔y=B\/y=R\/y=O)
 (m: ∀ν c R' i v1 v2 v3 v4 rows g b,ν B=some c->ν R=some R'->ν O=some i->eI π cs s ng nc nw c R' i v1 v2 v3 v4 rows g b->Tq cfg K fr bl x ⟨e.map fun p=>(p.1,ren ν p.2),g,b,[]⟩ Q):Tq cfg K fr bl x (Ir cfg f π bk E H) Q:=by
 rw[Ec,j];have z:=h.small o;obtain⟨ν,h',n,l,w,k⟩:=JY π H e (Hz B R O v1 v2 v3 v4 rows) AA (fun y q=>by
  refine BQ.2 ?_;rcases(a y).1 q with h|h|h<;>simp[h]) h.closed
 rw[l];obtain⟨c,R',i,r,t,u,v,_⟩:=h.ren k ((a B).2 (.inl rfl)) ((a R).2 (.inr (.inl rfl))) ((a O).2 (.inr (.inr rfl)));exact m ν _ _ _ _ _ _ _ _ h' n r t u v
def Fw{s:BU}{ng nc nw:Nat}{B:Abs.Id}{E:CA}{k:Nat}{i:Int}
 (a:Kj E (cfg.live 104 bk)=[(1,.ptr B 0),(2,.ptr R 0),(3,.ptr O 0),(k,nI i)]) (h:Vq cs s ng nc nw B R O v1 v2 v3 v4 rows H) (e:s.be.length<=60)
 (c: ∀B R O v1 v2 v3 v4 rows g b,eI π cs s ng nc nw B R O v1 v2 v3 v4 rows g b->Tq cfg K fr bl x ⟨[(1,.ptr B 0),(2,.ptr R 0),(3,.ptr O 0),(k,nI i)],g,b,[]⟩ Q):Tq cfg K fr bl x (Ir cfg 104 π bk E H) Q:=
 sw _ a h e zEc fun ν _ _ _ _ _ _ _ _ g b f j l m=>by
  have:=c _ _ _ _ _ _ _ _ g b m;simpa[ren,Fj,f,j,l]using this
structure hK(π:List Nat)(cs:List Al)(s:BU)(ng nc nw:Nat)(c:HD)(k:Nat)(B R O Y:Abs.Id)(v1 v2 v3 v4 vq:AV)(rows:List (List AV))(g:AD)(b:Nat):Prop where
 n:eI π cs s ng nc nw B R O v1 v2 v3 v4 rows g b
 q:g.get Y=some (.box [nI c.group,nI c.index,nI c.at_,vq])
 qs:MJ g 1 vq ((c.queue.take k).map BJ)
 qn:FW π b Y
 yn:Y∉Hz B R O v1 v2 v3 v4 rows
 qv: ∀id∈AE vq,FW π b id/\id∉Hz B R O v1 v2 v3 v4 rows
def NU{s:BU}{ng nc nw:Nat}{c:HD}{m:Nat}{B Y:Abs.Id}{vq:AV}{E:CA}{i k:Int}
 (F:Kj E (cfg.live 104 4)=[(1,.ptr B 0),(2,.ptr R 0),(3,.ptr O 0),(5,nI i),(6,.ptr Y 0),(7,nI k)]) (h:Vq cs s ng nc nw B R O v1 v2 v3 v4 rows H) (u:H.get Y=some (.box [nI c.group,nI c.index,nI c.at_,vq])) (v:MJ H 1 vq ((c.queue.take m).map BJ)) (a:Y∉Hz B R O v1 v2 v3 v4 rows) (J: ∀id∈AE vq,id∉Hz B R O v1 v2 v3 v4 rows) (N:s.be.length<=60)
 (M: ∀B R O Y v1 v2 v3 v4 vq rows g b,hK π cs s ng nc nw c m B R O Y v1 v2 v3 v4 vq rows g b->Tq cfg K fr bl x ⟨[(1,.ptr B 0),(2,.ptr R 0),(3,.ptr O 0),(5,nI i),(6,.ptr Y 0),(7,nI k)],g,b,[]⟩ Q):Tq cfg K fr bl x (Ir cfg 104 π 4 E H) Q:=by
 rw[Ec,F];have ac:=h.small N;have X:=RQ v;obtain⟨ν,h',n,I,Z,e⟩:=JY π H [(1,.ptr B 0),(2,.ptr R 0),(3,.ptr O 0),(5,nI i),(6,.ptr Y 0),(7,nI k)] (Y::(AE vq++Hz B R O v1 v2 v3 v4 rows)) (by simp only[List.length_cons,Be];omega) (by
  intro y a;simp[Fz,AE,A9]at a;simp only[D0,EL];rcases a with h|h|h|h
  .exact zDZ
  .exact zDZ
  .exact zDZ
  .exact .inl h) (by
  intro y a z f;simp only[D0,EL]at a⊢;rcases a with rfl|a|a
  .rw[u]at f;simp[Ep,A9,AE]at f;exact .inr (.inl f)
  .rw[(EI v a).2]at f;cases f
  .exact .inr (.inr (h.closed y a z f)))
 rw[I];obtain⟨V,R',W,P,S,T,U,A⟩:=h.ren e zEc zEc zEc;obtain⟨l,o⟩:=e.env Y zEc;obtain⟨C,b1⟩:=RR e v fun id r=>e.deep Y l o id (by rw[u];simp[Ep,A9,AE,r]);have w: ∀x z,ν x=some z->FW π n z:=fun x z f=>by
  obtain⟨j,L,rfl⟩:=e.name x z f;exact⟨_,j,L,rfl⟩
 have:=M _ _ _ l _ _ _ _ (ren ν vq) _ h' n ⟨U,by
  have:=e.get Y l _ o u;simpa[E1,Fj,ren]using this,C,w _ _ o,fun t=>by
  obtain⟨y,p,q⟩:=A l t;exact a (e.inj Y y l o q▸p),fun id r=>by
  obtain⟨x,D,h2⟩:=b1 id r;refine⟨w _ _ h2,fun t=>?_⟩;obtain⟨y,p,q⟩:=A id t;exact J x D (e.inj x y id h2 q▸p)⟩
 simpa[ren,Fj,P,S,T,o]using this
