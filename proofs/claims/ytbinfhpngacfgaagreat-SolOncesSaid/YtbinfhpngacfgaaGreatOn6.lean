/- P -/
import Derived.LoopNIn
import Derived.Test.YtbinfhpngacfgaaGreatOn5
set_option linter.all false
open Go renaming World->G2,Value->G4,Oper->G5,TypeId->Hk,Program->H5,FuncId->IY,Code->KH,Operand->LF,Act->M3,Exit->OA,Frame->QA
open Option renaming some->J,none->I
open Bool renaming true->X,false->Z
open List renaming length->U
namespace Go
def zDD{p:Prop}(h:p:=by rw[i];exact h):p:=h
def zDE{p:Prop}(h:p:=by simpa using m):p:=h
end Go
namespace Go
variable{p:Prop}
def zA0(h:p:=by
 obtain⟨i,m,t,p⟩:=post;have Q:n=none:=by
  rcases ai with⟨a,j⟩|⟨a,j⟩|⟨v,a,j⟩
  .exact j
  .exact j
  .rw[i]at a;cases a
 subst Q;exact go t p rfl):p:=h
def zBf(h:p:=by obtain⟨c,elem,m,p,i,t,v,A,B⟩:=h;exact⟨c,elem,F m AG,p,i,t,v,A,λq x D a b=>(B q x D a b).other C⟩):p:=h
def zBn(h:p:=by exact⟨_,a1,w1,hq,up AG harr⟩):p:=h
def zBp(h:p:=by obtain⟨h,_⟩:=j;cases h):p:=h
def zBt(h:p:=by exact up (L:=L) λa g k i=>by grind [exec,U0,Ep]):p:=h
def zBv(h:p:=by obtain⟨f,j,c,i⟩:=m;exact⟨f,j,n.trans c,i⟩):p:=h
def zB3(h:p:=by exact up (L:=L) λa g k i=>by grind [exec,Ep]):p:=h
def zCA(h:p:=by exact up (L:=[]) λ_ _ _ _=>rfl):p:=h
end Go
namespace Go.Abs
variable{P:H5}{f:IY}{ro:Option Nat}{Q s:OA->M3->G2->Prop}{a:M3}{w:G2}
abbrev yf(P:H5):Machine->Prop:=Machine.fenced P Fence.wide
def CV(P:H5)(f:IY)(ro:Option Nat)(j:KH)(Q:OA->M3->G2->Prop)(a:M3)(w:G2):Prop:=
 ∀(b:QA) (h:List Item) (e:List QA),b.roundOf=ro->b.fn=f->
  ∃g c i,Q g c i/\ArrivesIn (yf P) P (lone (b.atR a (.code j::h)) e w) b h e g c i
variable{m B:Machine}
def one(h:step P m=.next B):StepsIn (yf P) P m B:=.one (fenced_wide P m) h
def head{a:Machine}(b:step P m=.next a)(c:StepsIn (yf P) P a B):StepsIn (yf P) P m B:=.head (fenced_wide P m) b c
variable{c:KH}
theorem CV.mono(h:CV P f ro c Q a w)(k:∀b a w,Q b a w->s b a w):CV P f ro c s a w:=λe l g i j=>let ⟨b,a',w',q,r⟩:=h e l g i j;⟨b,a',w',k _ _ _ q,r⟩
def CV.of_wp(g:c.wpIn (FF ro) 0 P Q a w):CV P f ro c Q a w:=λb j e h _=>g b j e h trivial λ_ i=>(by cases i)
def CV.skip(h:Q .normal a w):CV P f ro .skip Q a w:=λ_ _ _ _ _=>⟨.normal,a,w,h,one stepR_skip⟩
def CV.label{l:Nat}(h:Q .normal a w):CV P f ro (.label l) Q a w:=λ_ _ _ _ _=>⟨.normal,a,w,h,one stepR_label⟩
def CV.exit{c:Nat}(e:Q (.exit c) a w):CV P f ro (.exit c) Q a w:=λ_ g _ _ _=>⟨.exit c,a,w,e,λ_ b=>one (stepR_exit b),λ_ b=>⟨g,b,.refl _⟩⟩
def CV.ret(b:Q .ret a w):CV P f ro .ret Q a w:=λ_ e _ _ _=>⟨.ret,a,w,b,λc=>⟨_,one (stepR_ret c)⟩,λ_=>⟨e,.refl _⟩⟩
def CV.seq{h b:KH}(j:CV P f ro h (Exit.then (CV P f ro b Q) Q) a w):CV P f ro (.seq h b) Q a w:=by
 intro c g e k l;have⟨i,a1,w1,hq,harr⟩:=j c (.code b::g) e k l;have m:StepsIn (yf P) P (lone (c.atR a (.code (.seq h b)::g)) e w) (lone (c.atR a (.code h:: .code b::g)) e w):=one stepR_seq;have up:∀{i},i≠Exit.normal->ArrivesIn (yf P) P (lone (c.atR a (.code h:: .code b::g)) e w) c (.code b::g) e i a1 w1->ArrivesIn (yf P) P (lone (c.atR a (.code (.seq h b)::g)) e w) c g e i a1 w1:=λn j=>.of_steps m (.pass (x:=.code b) rfl (λ_ _=>.inl n) j)
 cases i with|normal=>have⟨e2,a2,w2,hq2,harr2⟩:=hq c g e k l;exact⟨e2,a2,w2,hq2,.of_steps (m.trans harr) harr2⟩|exit p=>exact zBn|goto q=>exact zBn|ret=>exact zBn|panic o=>exact zBn|outgrown=>exact zBn
def CV.cond{c:LF}{b g:KH}{t:Bool}(m:a.eval c=.bool t)(j:CV P f ro (if t then b else g) Q a w):CV P f ro (.cond c b g) Q a w:=λh n i k l=>let ⟨e,a',w',q,r⟩:=j h n i k l;⟨e,a',w',q,.of_steps (one (stepR_cond m)) r⟩
def CV.block{b:Nat}(n:CV P f ro c (Exit.inBlock b Q) a w):CV P f ro (.block b c) Q a w:=by
 intro l g m s t;have e:StepsIn (yf P) P (lone (l.atR a (.code (.block b c)::g)) m w) (lone (l.atR a (.code c:: .inBlock b::g)) m w):=one stepR_block;have⟨r,a1,w1,hq,harr⟩:=n l (.inBlock b::g) m s t;cases r with
 |normal=>exact⟨.normal,a1,w1,hq,e.trans (StepsIn.trans harr (one stepR_inBlock))⟩
 |exit j=>
  by_cases k:j=b
  .simp only[Exit.inBlock,k,IS]at hq;exact⟨.normal,a1,w1,hq,e.trans (harr.1 g (by simp[exitTo,k]))⟩
  .simp only[Exit.inBlock,k,Ge]at hq;have v:(b==j)=false:=by simp;exactλn=>k n.symm
   have i:exitTo j (.inBlock b::g)=exitTo j g:=by simp[exitTo,v]
   exact⟨.exit j,a1,w1,hq,λp h=>e.trans (harr.1 p zDD),
    λo h=>let ⟨k1,g1,g2⟩:=harr.2 o zDD;⟨k1,g1,e.trans g2⟩⟩
 |goto q=>
  have i:gotoIn q (.inBlock b::g)=gotoIn q g:=by simp[gotoIn]
  exact⟨_,a1,w1,hq,λp h=>e.trans (harr.1 p zDD),
   λo h=>let ⟨k1,g1,g2⟩:=harr.2 o zDD;⟨k1,g1,e.trans g2⟩⟩
 |ret=>exact⟨_,a1,w1,hq,.of_steps e harr⟩|panic x=>exact⟨_,a1,w1,hq,.of_steps e harr⟩|outgrown=>exact⟨_,a1,w1,hq,.of_steps e harr⟩
variable{j:List QA}
def qJ{b:QA}{k:List Item}:step P (lone (b.atR a (.code (.scope c)::k)) j w)=.next (lone (b.atR a (.code c:: .inScope c::k)) j w):=step_lone_go (by simp[stepG,stepG.exec,Frame.atR])
def aN{b:QA}{k:List Item}:step P (lone (b.atR a (.inScope c::k)) j w)=.next (lone (b.atR a k) j w):=step_lone_go (by simp[stepG,stepG.exec,Frame.atR])
def CV.scope(q:∀l a w,¬Q (.goto l) a w)(n:CV P f ro c Q a w):CV P f ro (.scope c) Q a w:=by
 intro g e j o p;have b:StepsIn (yf P) P (lone (g.atR a (.code (.scope c)::e)) j w) (lone (g.atR a (.code c:: .inScope c::e)) j w):=one qJ;have⟨m,a1,w1,hq,harr⟩:=n g (.inScope c::e) j o p;cases m with
 |normal=>exact⟨.normal,a1,w1,hq,b.trans (StepsIn.trans harr (one aN))⟩
 |exit i=>
  have k:exitTo i (.inScope c::e)=exitTo i e:=by simp[exitTo]
  exact⟨.exit i,a1,w1,hq,λs h=>b.trans (harr.1 s (by rw[k];exact h)),
   λr h=>let ⟨k1,g1,g2⟩:=harr.2 r (by rw[k];exact h);⟨k1,g1,b.trans g2⟩⟩
 |goto l=>exact absurd hq (q _ _ _)|ret=>exact⟨_,a1,w1,hq,.of_steps b harr⟩|panic t=>exact⟨_,a1,w1,hq,.of_steps b harr⟩|outgrown=>exact⟨_,a1,w1,hq,.of_steps b harr⟩
def Gf(P:H5)(f:IY)(ro:Option Nat)(c:KH)(Q:OA->M3->G2->Prop):Nat->M3->G2->Prop
 |0,_,_=>False|m+1,a,w=>CV P f ro c (Exit.then (Gf P f ro c Q m) Q) a w
def CV.loop(m:Nat)(k:Gf P f ro c Q m a w):CV P f ro (.loop c) Q a w:=by
 intro i l j n o;have key:∀m a w,Gf P f ro c Q m a w->∃b g h,Q b g h/\ArrivesIn (yf P) P (lone (i.atR a (.code c:: .inLoop c::l)) j w) i l j b g h:=by
  intro m;induction m with
  |zero=>intro a w k;exact k.elim
  |succ m q=>
   intro a w k;have⟨b,a1,w1,e,harr⟩:=k i (.inLoop c::l) j n o;have up:b≠Exit.normal->Q b a1 w1->∃b g h,Q b g h/\ArrivesIn (yf P) P (lone (i.atR a (.code c:: .inLoop c::l)) j w) i l j b g h:=λp e=>⟨b,a1,w1,e,.pass (x:=.inLoop c) rfl (λ_ _=>.inl p) harr⟩
   cases b with|normal=>have⟨e2,a2,w2,hq2,harr2⟩:=q a1 w1 e;exact⟨e2,a2,w2,hq2,.of_steps (StepsIn.trans harr (one stepR_inLoop)) harr2⟩|exit s=>exact up AG e|goto t=>exact up AG e|ret=>exact up AG e|panic r=>exact up AG e|outgrown=>exact up AG e
 have⟨b,g,h,e,harr⟩:=key m a w k;exact⟨b,g,h,e,.of_steps (one stepR_loop) harr⟩
variable{t:Array Tmp}{q p:KH}
def CV.range{m:LF}{e:Nat}{mark:List Deferred}{A C B:G2}{d:Deferred}{fn:IY}{args:Array G4}(r:(Instr.enterLoop f a.tmps t q p ro).run P w=.ok (e,mark) A) (K:(resolve a.eval (rangeCall m e) 0).run P A=.ok d B)(H:(invoke d.target d.args).run P B=.ok (.enter fn args) C)(D:Calls P fn args C λl k=>match l with
  |.returned _=>∃i g,(Instr.endLoop e).run P k=.ok i g/\(match i with|none=>Q .normal {a with defers:=mark++a.defers} g|some c=>CV P f ro c Q {a with defers:=mark++a.defers} g)
  |.panicked chain=>Q (.panic chain) {a with defers:=mark++a.defers} k|.outgrown=>False):CV P f ro (.rangeFunc m t q p) Q a w:=by
 intro h b j n o;rw[<-n,<-o]at r;have s:=stepR_rangeFunc (P:=P) (b:=h) (a:=a) (k:=b) (cs:=j) (w:=w) r K H;have⟨l,k,fr,hR,hsteps,hfn,hleave⟩:=(callsIn_wide (n:=0).2 D).2 (h.atR {a with defers:=mark++a.defers} (.inRangeFunc e::b)::j) (room_wide _)
 cases l with
 |outgrown=>exact hR.elim
 |returned L=>
  obtain⟨i,g,F,v⟩:=hR;have x:StepsIn (yf P) P (lone (h.atR a (.code (.rangeFunc m t q p)::b)) j w) (lone (h.atR {a with defers:=mark++a.defers} ((i.map Item.code).toList++b)) j g):=by refine head s (StepsIn.trans hsteps (head ?_ (one (stepR_endRangeFunc F))));rw[<-finish_atR_inRangeFunc e L];exact step_leave_returned hleave
  rcases i with _|c
  .exact⟨.normal,_,g,v,x⟩
  .have⟨e',a'',w5,hq,harr⟩:=v h b j n o;exact⟨e',a'',w5,hq,.of_steps x harr⟩
 |panicked chain=>refine⟨.panic chain,_,k,hR,.inRangeFunc e::b,head s (StepsIn.trans hsteps (one ?_))⟩;rw[<-Frame.raise_atR];exact step_leave_panicked hleave
variable{fn:Func}{R:Ending->G2->Prop}
def Z3{args:Array G4}(a:P.funcs[f]?=J fn)(l:fn.body=J c)(k:CV P f I c (bodyPostM Fence.wide 0 P fn R) {tmps:=args++Array.replicate (fn.ntmps-args.size) undef,defers:=[]} w):Calls P f args w R:=by
 refine callsIn_wide (n:=0).1 ⟨trivial,λj e=>?_⟩
 let b:Frame:={(default:QA)with fn:=f,kind:=.normal,roundOf:=I}
 have m:Frame.enter P f args .normal=b.atR {tmps:=args++Array.replicate (fn.ntmps-args.size) undef,defers:=[]} [.code c]:=by simp[Frame.enter,Frame.atR,a,l,b]
 have⟨i,a',w',hq,harr⟩:=k b [] j rfl rfl;rw[<-m]at harr;cases i with
 |normal=>
  have⟨e',w'',fr',hR,hs,hfn,hl⟩:=leaves_stepsInM a'.defers .returning w' {b.atR a' []with mode:=.returning} j rfl rfl rfl a rfl trivial e hq
  exact⟨e',w'',fr',hR,ComesIn.of_steps (StepsIn.trans harr (one (stepR_end rfl))) hs,hfn,hl⟩
 |ret=>
  have⟨h,g⟩:=harr.1 rfl;have⟨e',w'',fr',hR,hs,hfn,hl⟩:=leaves_stepsInM a'.defers .returning w' {b.atR a' h with mode:=.returning} j rfl rfl rfl a rfl trivial e hq
  exact⟨e',w'',fr',hR,ComesIn.of_steps g hs,hfn,hl⟩
 |panic chain=>
  obtain⟨h,g⟩:=harr;have⟨e',w'',fr',hR,hs,hfn,hl⟩:=leaves_stepsInM a'.defers (.panicking chain) w' {b.atR a' h with mode:=.panicking chain} j rfl rfl rfl a rfl trivial e hq
  exact⟨e',w'',fr',hR,ComesIn.of_steps g hs,hfn,hl⟩
 |exit n=>exact hq.elim|goto o=>exact hq.elim|outgrown=>exact⟨.outgrown,w',b,hq,harr.resolve_left (by simp[b]),rfl,trivial⟩
def ADP(P:H5)(e:Nat)(R:Ending->G2->Prop):OA->M3->G2->Prop
 |.normal,_,w=>∃b c,(Instr.endRound e I).run P w=.ok b c/\R (.returned b) c|.ret,_,w=>∃b c,(Instr.endRound e (J .ret)).run P w=.ok b c/\R (.returned b) c|.exit f,_,w=>∃b c,(Instr.endRound e (J (.exit f))).run P w=.ok b c/\R (.returned b) c|.panic chain,a,w=>a.defers=[]/\R (.panicked chain) w|_,_,_=>False
variable{i:Array G4}
def aK{e:Nat}(D:P.funcs[f]?=J fn)(v:CV P f (J e) q (Exit.then (λm r=>∃o,(Instr.beginRound e).run P r=.ok () o/\CV P f (J e) p (ADP P e R) m o) (λ_ _ _=>False)) {tmps:=i,defers:=[]} w):
 RoundIn Fence.wide 0 P e f i q p w R:=by
 refine⟨trivial,λc j _=>?_⟩
 let b:Frame:={(default:QA)with fn:=f,kind:=.normal,roundOf:=J e}
 have x:Frame.round e f i q p .normal=b.atR {tmps:=i,defers:=[]} [.code q,.beginRound,.code p]:=by simp[Frame.round,Frame.atR,b]
 have⟨s,m,r,hq,harr⟩:=v b [.beginRound,.code p] (c::j) rfl rfl;rw[<-x]at harr;cases s with
 |normal=>obtain⟨o,B,A⟩:=hq;have H:StepsIn (yf P) P (lone (b.atR m [.beginRound,.code p]) (c::j) r) (lone (b.atR m [.code p]) (c::j) o):=one (stepR_beginRound rfl B);have n:=StepsIn.trans harr H;have⟨t,a2,w3,hq2,harr2⟩:=A b [] (c::j) rfl rfl;cases t with|normal=>obtain⟨k,l,g,a⟩:=hq2;exact⟨.returned k,l,a,n.trans (StepsIn.trans harr2 (one (stepR_round_end rfl rfl g)))⟩|ret=>obtain⟨k,l,g,a⟩:=hq2;have⟨k1,h⟩:=harr2.2 rfl;exact⟨.returned k,l,a,n.trans (StepsIn.trans h (one (stepR_round_ret rfl rfl g)))⟩|exit F=>obtain⟨k,l,g,a⟩:=hq2;have⟨k1,hk,h⟩:=harr2.2 rfl rfl;exact⟨.returned k,l,a,n.trans (StepsIn.trans h (one (stepR_round_exit rfl rfl hk g)))⟩|panic chain=>obtain⟨C,a⟩:=hq2;obtain⟨L,h⟩:=harr2;refine⟨.panicked chain,w3,a,n.trans (StepsIn.trans h (one ?_))⟩;exact step_leave_panicked ⟨rfl,C,fn,D⟩|goto K=>exact hq2.elim|outgrown=>exact hq2.elim
 |exit F=>exact hq.elim|goto K=>exact hq.elim|ret=>exact hq.elim|panic chain=>exact hq.elim|outgrown=>exact hq.elim
variable{A:Nat->Prop}{P:H5}{mix:List Hk}{g k a:BF}{w l b:G2}{h r o:S}{v x:u}{ci:Option u}{e:NT}{n:M3}{ro:Option Nat}
def yU(a:DH)(f:IY)(g:KH):KH->Bool
 |.region b c d=>match a.spec f b with|some e=>e.ok c d g|none=>X
 |_=>X
def Dt(a:DH)(f:IY)(e:Nat):KH->Bool
 |.region g h i=>h.toList.all (λj=>match j.dst with|some d=>Nat.blt d e|none=>X)&&(!i||nY h (a.f9 f g) (a.alone f g))|.seq b c=>Dt a f e b&&Dt a f e c&&yU a f c b|.cond _ b c=>Dt a f e b&&Dt a f e c|.block _ b=>Dt a f e b|.loop b=>Dt a f e b|.scope b=>Dt a f e b|.rangeFunc _ t q p=>t.toList.all (λd=>Nat.blt d e)&&Dt a f e q&&Dt a f e p|_=>X
def Gp(P:H5)(C:DH)(r:Lp):Prop:=(∃fn,P.funcs[r.f]?=J fn)/\Dt C r.f r.nt r.wp=X/\Dt C r.f r.nt r.body=X/\∀t∈r.params,t<r.nt
structure UY(A:Nat->Prop)(fr:Fr)(nt:NT)(β:BF)(w:G2)(st:St)(a:M3):Prop:=
 hr:HR A β w st.heap
 s:PD A β w nt st.env.get st.defs st.heap a
 fresh:DJ β fr.π st.base
 own:fr.raw=Z->∀id,β id≠I->fr.π<:+id
 lb:nt.lb<=w.heap.size
variable{a:Fr}
def ZF(i:a.raw=Z->∀b,g b≠I->a.π<:+b)(f:CX A ci a.π g w h k l r):a.raw=Z->∀b,k b≠I->a.π<:+b:=by
 intro j b e;by_cases c:a.π<:+b
 .exact c
 .rw[f.out b c]at e;exact i j b e
def KD(A:Nat->Prop)(a:Fr)(e:NT)(g:BF)(w:G2)(h:S)(f:Di)(b:St):OA->M3->G2->Prop
 |.normal,c,l=>f=.normal/\∃k,CX A a.ci a.π g w h k l b.heap/\UY A a e k l b c|.exit m,c,l=>f=.exit m/\∃k,CX A a.ci a.π g w h k l b.heap/\UY A a e k l b c|.ret,c,l=>f=.ret/\∃k,CX A a.ci a.π g w h k l b.heap/\UY A a e k l b c|.panic chain,c,l=>∃j i k,f=.of j/\chain=[{v:=i,recovered:=Z}]/\CX A a.ci a.π g w h k l b.heap/\UY A a e k l b c/\VR k l (MS A k b.heap) j i|_,_,_=>False
variable{d8:St}
theorem KD.trans{q:Di}{o:OA}{p:M3}(n:CX A a.ci a.π g w h k l r)(m:KD A a e k l r q d8 o p b):KD A a e g w h q d8 o p b:=by cases o with|normal=>exact zBv|exit B=>exact zBv|ret=>exact zBv|panic chain=>obtain⟨x,v,j,f,s,c,i,t⟩:=m;exact⟨x,v,j,f,s,n.trans c,i,t⟩|_=>exact m.elim
variable{C:DH}{K:Ah}{fr:Fr}
def AO8:Option y->Di
 |none=>.normal|some v=>.of v
variable{b:Nat}
def WU{out:Option y}(p:fr.raw=Z->∀i,g i≠I->fr.π<:+i)(n:e.lb<=w.heap.size)(c:OA)(a:M3)(l:G2)(f:jD A fr.ci fr.π e g w h out d8 b c a l):
 KD A fr e g w h (AO8 out) {d8 with base:=b} c a l:=by
 have j:∀{k:BF},mm A fr.ci fr.π e g w h d8 b k a l->UY A fr e k l {d8 with base:=b} a:=λL=>⟨L.ws.hr,L.s,L.fresh,ZF p L.ws,Gt n L.ws.ol.size⟩
 cases c with|normal=>obtain⟨rfl,k,L⟩:=f;exact⟨rfl,k,L.ws,j L⟩|panic chain=>obtain⟨r,q,k,rfl,m,L,o⟩:=f;exact⟨r,q,k,rfl,m,L.ws,j L,o⟩|_=>exact f.elim
variable{ops:Array G5}{st:St}
def dI(l:PR P mix C)(o:EI P (Gp P C) K)(s:fr.rnd=Z->ro=I)(D:P.follows .mixedOrders=X){j:Nat}{h:Bool}{f:Di}(q:Dt C fr.f fr.nt (.region j ops h)=X) (a:EZ C K fr j ops h st=.ok (f,d8)) (m:LW (Gp P C) st.heap):
 LW (Gp P C) d8.heap/\∀(A:Nat->Prop) (e:NT) (g:BF) (w:G2) (n:M3),e.n=fr.nt->UY A fr e g w st n->CV P fr.f ro (.region j ops h) (KD A fr e g w st.heap f d8) n w:=by
 simp only[Dt,As,EL,RC,It]at q;obtain⟨x,L⟩:=q;have p:∀{e:NT},e.n=fr.nt->∀f∈ops,∀d,f.dst=J d->d<e.n:=by intro e c f F d H;have:=x f (by simpa using F);rw[H]at this;rw[c];simpa[RG]using this
 unfold EZ at a;cases i:EF C K fr ops st.base (λb=> !h||C.alone fr.f j b) ops.toList 0 st with
 |err O=>rw[i]at a;cases a
 |ok N=>
  rw[i]at a;obtain⟨⟨out,t⟩,v⟩:=N;simp only[LY]at a;split at a
  .rename_i r;have B:f=AO8 out/\d8={t with base:=st.base+ops.size}:=by
    simp only[K5]at a;rcases out with _|Q
    .simp only[E.ok.injEq,LC]at a;exact⟨a.1.symm,a.2.symm⟩
    .simp only[E.ok.injEq,LC]at a;exact⟨a.1.symm,a.2.symm⟩
   obtain⟨rfl,rfl⟩:=B;rcases h with _|_
   .have key:=λ(e:NT) (c:e.n=fr.nt)=>uu (nt:=e) (ro:=ro) l o s (p c) ops.toList 0 st t v out (F9 _) rfl m i;refine⟨(key ⟨fr.nt,0⟩ rfl).2.1,λA e g w n c b=>?_⟩;have k:=(key e c).2.2 A g w n b.hr b.s b.fresh;refine .of_wp (wpIn_region ?_);rw[List.range_eq_range'];refine O9 (WU b.own b.lb) ?_;simpa using k
   .simp only[RS,PL]at r i;have M:=vO (L.resolve_left AG);have key:=λ(e:NT) (c:e.n=fr.nt)=>AJD (nt:=e) (ro:=ro) (id:=j) l o s D M (p c) m i r;refine⟨(key ⟨fr.nt,0⟩ rfl).2.1,λA e g w n c b=>?_⟩;have k:=(key e c).2.2 A g w n b.hr b.s b.fresh;exact .of_wp (wpIn_mono k (WU b.own b.lb))
  .cases a
variable{k:Nat}{l:Loop}
def P0(h:w.heap[k]?=J (.loop l)):(Instr.getLoop k).run P w=.ok l w:=by simp[Instr.getLoop,Ju h AG]
def kh(h:w.heap[k]?=J (.loop l))(a:l.state≠ .busy):
 (Instr.endLoop k).run P w=.ok l.pending (World.nl w k (.loop {l with state:=.exhausted})):=by
 simp[Instr.endLoop,P0 h,a,IA (P:=P) h AG]
def Rk{fn:IY}:
 (Instr.enterLoop fn i t q p I).run P w=.ok (w.heap.size+1,[{target:=.collected w.heap.size,args:= #[]}])
  (World.add (World.add w (.deferred (J []))) (.loop {state:=.ready,pending:=I,fn,tmps:=i,params:=t,assign:=q,body:=p,defers:=w.heap.size})):=by
 simp[Instr.enterLoop];rfl
variable{o:Obj}
def AAk{j:u}{k:Wx}{q:Go.Obj}(H:HR A g w h)(t:h.get j=J o)(s:o.mut=X)(m:g j=J k)(O:v<:+j)(p:∀a e,r.get a=J e->h.get a=J e/\a≠j)(P:∀a,¬v<:+a->r.get a=h.get a):CX A ci v g w h g (World.nl w k.b q) r:=by
 have R:∀b,MS A g r b->MS A g h b:=by
  rintro b (c|⟨a,e,f,D,F,K,L⟩)
  .exact .inl c
  .exact .inr ⟨a,e,f,(p a e D).1,F,K,L⟩
 have B:FI A (MS A g h) w (MS A g r) (World.nl w k.b q):=⟨λb _ c=>Eu q λi=>c.elim (λc=>c (.inr ⟨j,o,k,t,s,m,i.symm⟩)) (λc=>H.out j o k t s m (i▸c)),by rw[FB];omega,λb c=>.inl (R b c),rfl,rfl⟩
 refine⟨λ_ _=>rfl,⟨λa e x=>?_,λn b Y aa V W M c=>H.inj n b Y aa V W (p _ _ M).1 (p _ _ c).1,λa f l=>by rw[FB];exact H.bnd a f l,
  λa e f x=>H.out a e f (p _ _ x).1,λb c=>by rw[FB];exact H.abnd b c⟩,B,λag C _=>⟨λb _ T=>Eu q λi=>T ⟨j,k,C.trans O,m,i.symm⟩,λ_ c=>.inl c,λa N=>P a λQ=>N (C.trans Q)⟩⟩
 have⟨g1,g2⟩:=p a e x;have⟨f,l,hr⟩:=H.obj a e g1;by_cases i:f.b=k.b
 .rcases hm':e.mut with _|_
  .cases e with|v6 ad ac=>exact⟨f,l,.inl (H.v6 t s m g1 l i)⟩|_=>simp[Obj.mut]at hm'
  .exact absurd (H.inj a j e o f k g1 t hm' s l m i) g2
 .exact⟨f,l,hr.mono (.refl g) B (H.bnd a f l) (Eu q i)⟩
def eO(P:H5)(C:DH)(f:IY)(b:Nat)(c:m5):Prop:=∀(ops:Array G5) (d:Bool) (a:KH),c.ok ops d a=X->∀(fr:Fr) (st:St) (o:Di) (d8:St),fr.f=f->Dt C f fr.nt (.region b ops d)=X->Dt C f fr.nt a=X->c.act fr st=.ok (o,d8)->LW (Gp P C) st.heap->
 LW (Gp P C) d8.heap/\∀(A:Nat->Prop) (e:NT) (g:BF) (w:G2) (n:M3) (ro:Option Nat),e.n=fr.nt->UY A fr e g w st n->CV P f ro (.seq (.region b ops d) a) (KD A fr e g w st.heap o d8) n w
def y6(P:H5)(C:DH):Prop:=∀f a b,C.spec f a=J b->eO P C f a b
variable{A:Nat->Prop}{P:H5}{a:List Hk}{e v x:BF}{w C D:G2}{h r F:S}{π H:u}{ci:Option u}{n:NT}{g:M3}{ro:Option Nat}
variable{C:DH}{K:Ah}{a:Fr}
theorem mU{b:Nat}{π:u}{h:S}:
 (∀a o,(gc (b::π) (gc ((b+1)::π) h)).get a=J o->h.get a=J o/\a≠0::b::π)/\∀a,¬π<:+a->(gc (b::π) (gc ((b+1)::π) h)).get a=h.get a:=by
 refine⟨λa o e=>⟨Qy (Qy e),λc=>?_⟩,λa g=>?_⟩
 .subst c;have c:gc (b::π) (gc ((b+1)::π) h)=(gc ((b+1)::π) h).filter λf=>SD (b::π) f.1:=rfl;rw[c,YJ (SD (b::π))]at e;grind [SD,Id.q_a]
 grind [tD,List.suffix_cons]
def bt(H:HR A e w h)(f:∀a o,r.get a=J o->h.get a=J o)(n:∀a,¬π<:+a->r.get a=h.get a):CX A ci π e w h e w r:=by
 refine⟨λ_ _=>rfl,H.less f,⟨λ_ _ _=>rfl,D2 _,λb c=>?_,rfl,rfl⟩,λs q _=>⟨λ_ _ _=>rfl,λ_ c=>.inl c,λa m=>n a λp=>m (q.trans p)⟩⟩;rcases c with c|⟨a,o,k,g,i,j,l⟩
 .exact .inl (.inl c)
 .exact .inl (.inr ⟨a,o,k,f a o g,i,j,l⟩)
variable{W:Lp->Prop}
theorem LW.put{e:u}(c:LW W h)(g:∀a,o=.loop a->W a):LW W (h.put e o):=λf a b=>by
 rw[S.q_e]at b;split at b
 .grind
 .exact c f a b
theorem AHD(cn:EI P (Gp P C) K)(de:a.rnd=Z->ro=I){m:LF}{t:Array Tmp}{q p:KH}{st d8:St}{o:Di}(cu:∃fn,P.funcs[a.f]?=J fn)(b3:Dt C a.f a.nt (.rangeFunc m t q p)=X) (i:IJ K a m t q p st=.ok (o,d8)) (cm:LW (Gp P C) st.heap):
 LW (Gp P C) d8.heap/\∀(A:Nat->Prop) (n:NT) (e:BF) (w:G2) (g:M3),n.n=a.nt->UY A a n e w st g->CV P a.f ro (.rangeFunc m t q p) (KD A a n e w st.heap o d8) g w:=by
 simp only[Dt,As,EL]at b3;obtain⟨⟨dx,cp⟩,cq⟩:=b3;unfold IJ at i;split at i
 .cases i
 .rename_i dd;have df:=de dd;subst df;simp only[K5,Bz]at i;generalize b1:({state:=.ready,pend:=I,f:=a.f,env:=st.env,params:=t.toList,wp:=q,body:=p,nt:=a.nt}:Lp)=lp at i;have dj:Gp P C lp:=by subst b1;exact⟨cu,cp,cq,λd3 d1=>by grind [Nat.blt_eq]⟩
  have a5:LW (Gp P C) (st.heap.put (0::st.base::a.π) (.loop lp)):=cm.put λa3 i=>by cases i;exact dj
  unfold NQ at i;split at i
  case h_2=>simp[MC]at i
  rename_i f first cap cv
  simp only[CM]at i;cases a4:K (.fn f) (first++[.yld (0::st.base::a.π)]++cap) (st.heap.put (0::st.base::a.π) (.loop lp)) ((st.base+1)::a.π) X a.ci with
  |err D=>rw[a4]at i;cases i
  |ok a3=>
   rw[a4]at i;have az:=cn _ _ _ _ _ _ _ a4;have a6:LW (Gp P C) (gc (st.base::a.π) (gc ((st.base+1)::a.π) a3.2)):=(az.lw (λ_ _ h=>by cases h) a5).gc.gc;have bn:=az.ent f rfl;have start:∀(A:Nat->Prop) (n:NT) (e:BF) (w:G2) (g:M3),n.n=a.nt->UY A a n e w st g->
      let l:Loop:={state:=.ready,pending:=I,fn:=a.f,tmps:=g.tmps,params:=t,assign:=q,body:=p,defers:=w.heap.size}
      let v:=World.add (World.add w (.deferred (J []))) (.loop l)
      let R:Act:={g with defers:=[{target:=.collected w.heap.size,args:= #[]}]++g.defers}
      ∃s:BF,s (0::st.base::a.π)=J ⟨w.heap.size+1,0,0⟩/\CX A a.ci a.π e w st.heap s v (st.heap.put (0::st.base::a.π) (.loop lp))/\
       PD A s v n st.env.get (.mark (0::st.base::a.π)::st.defs) (st.heap.put (0::st.base::a.π) (.loop lp)) R/\Fi s ((st.base+1)::a.π)/\DJ s a.π (st.base+1)/\
       ∀{F B:Array G4},Hg e w (MS A e st.heap) first F->Hg e w (MS A e st.heap) cap B->
        Hg s v (MS A s (st.heap.put (0::st.base::a.π) (.loop lp))) (first++[.yld (0::st.base::a.π)]++cap) (F++ #[.func (.yield (w.heap.size+1)) #[] #[]]++B):=by
    intro A n e w g ad j l v R;have b2:e (0::st.base::a.π)=none:=j.fresh st.base (D2 _) _ (FD _ _);have Hd:=j.hr.add' (.deferred (J []));have b5:(World.add w (.deferred (J []))).heap.size=w.heap.size+1:=Lk _ _;have c9:FI A (MS A e st.heap) w (MS A e st.heap) (World.add w (.deferred (J []))):=VQ _ _;have c8:FI A (MS A e st.heap) (World.add w (.deferred (J []))) (MS A (e.put (0::st.base::a.π) ⟨w.heap.size+1,0,0⟩) (st.heap.put (0::st.base::a.π) (.loop lp))) v:=ZK Hd _ (k:=⟨w.heap.size+1,0,0⟩) b5.symm
    have V:=c9.trans c8;have ac:Le e (e.put (0::st.base::a.π) ⟨w.heap.size+1,0,0⟩):=SL b2;have b9:HR A (e.put (0::st.base::a.π) ⟨w.heap.size+1,0,0⟩) v (st.heap.put (0::st.base::a.π) (.loop lp)):=by refine Hd.add b2 (k:=⟨w.heap.size+1,0,0⟩) b5.symm ?_;subst b1;refine⟨l,by grind [Mc],rfl,rfl,rfl,rfl,rfl,rfl,by rw[<-ad];exact j.s.sz,j.s.env.mono ac V⟩
    have c7:∀x,¬a.π<:+x->(e.put (0::st.base::a.π) ⟨w.heap.size+1,0,0⟩) x=e x:=λx a0=>Cq e _ λD=>a0 (by grind [List.suffix_cons])
    have bs:∀W,st.base+1<=W->Fi (e.put (0::st.base::a.π) ⟨w.heap.size+1,0,0⟩) (W::a.π):=λW c3 x a0=>by
     rw[Cq e _ λD=>?_]
     .exact j.fresh W z x a0
     grind [My]
    have c6:∀b,b<w.heap.size->v.heap[b]?=w.heap[b]? :=λb bo=>by grind [Kv]
    refine⟨_,Hp _ _ _,⟨c7,b9,V,λd5 d2 _=>⟨λb bo _=>c6 b bo,?_,λx a0=>?_⟩⟩,⟨j.s.sz,j.s.env.mono ac V,?_,j.s.defs.mono ac V,λb' cs a3 i dc=>?_⟩,bs _ (D2 _),bs,?_⟩
    .rintro b ⟨x,k,b8,bh,rfl⟩;by_cases D:x=0::st.base::a.π
     .grind [Hp]
     .rw[Cq e _ D]at bh;exact .inl ⟨x,k,b8,bh,rfl⟩
    .grind [S.q_e,List.suffix_cons]
    .refine .mark _ _ ?_ ?_ j.lb
     .grind [Kv,Mc]
     .rintro(hA|⟨x,o,k,b8,bh,u3,u4⟩)
      .have:=j.hr.abnd _ hA;omega
      .by_cases D:x=0::st.base::a.π
       .grind [Hp]
       .rw[Cq e _ D]at u3;have:=j.hr.bnd x k u3;omega
    .simp only[Target.collected.injEq]at i;subst i;have:=j.s.defs.marks b' cs _ dc;omega
    .intro F B cl H;refine Hg.append (Hg.append (cl.mono ac V) ⟨rfl,λb6 d4 bi bc a1=>?_⟩) (H.mono ac V);rcases b6 with _|b6
     .simp at bc a1;subst bc a1;exact .yld _ _ (Hp _ _ _)
     .simp at bc
   have bk:∀{A:Nat->Prop} {n:NT} {e:BF} {w:G2} {g:M3},UY A a n e w st g->∃F B,g.eval m=.func (.func f) F B/\Hg e w (MS A e st.heap) first F/\Hg e w (MS A e st.heap) cap B:=by intro A n e w g j;have a':=Ko j.s.env m;rw[cv]at a';generalize g.eval m=ag at a';cases a' with|fn _ _ _ F B dm dn a2 dq=>exact⟨F,B,rfl,⟨dm,a2⟩,⟨dn,dq⟩⟩
   obtain⟨c,H⟩:=a3;simp only at a6;have bl:∀{d8:St},d8.heap=gc (st.base::a.π) (gc ((st.base+1)::a.π) H)->d8.env=st.env->d8.base=st.base+2->d8.defs=.mark (0::st.base::a.π)::st.defs->
    ∀(A:Nat->Prop) (n:NT) (e:BF) (w:G2) (g:M3),UY A a n e w st g->∀{s r:BF} {v M av:G2} {R:M3},
     CX A a.ci a.π e w st.heap s v (st.heap.put (0::st.base::a.π) (.loop lp))->PD A s v n st.env.get (.mark (0::st.base::a.π)::st.defs) (st.heap.put (0::st.base::a.π) (.loop lp)) R->
     Fi s ((st.base+1)::a.π)->DJ s a.π (st.base+1)->CX A a.ci ((st.base+1)::a.π) s v (st.heap.put (0::st.base::a.π) (.loop lp)) r M H->
     CX A a.ci a.π r M H r av d8.heap->CX A a.ci a.π e w st.heap r av d8.heap/\UY A a n r av d8 R:=by
    intro d8 ds cc cd ch A n e w g j s r v M av R N ar Q aa L O;have m:=(N.trans (L.up (FD _ _))).trans O;have dr:=(ar.mono (L.le Q) L.ol).mono (.refl r) O.ol;refine⟨m,m.hr,by rw[cc,ch];exact dr,?_,ZF j.own m,Gt j.lb m.ol.size⟩;rw[cd];exactλW c3=>(aa W z).other z L.out
   have b4:∀{v:G2} {g:M3} {F B:Array G4} {k:Nat},g.eval m=.func (.func f) F B->(resolve g.eval (rangeCall m k) 0).run P v=.ok {target:=.fn (.func f) B,args:=F++ #[.func (.yield k) #[] #[]]} v:=by
    intro v g F B k Y;have D:(#[Operand.const (.func (.yield k) #[] #[])].map g.eval)= #[Value.func (.yield k) #[] #[]]:=by simp[Act.eval]
    unfold resolve;simp only[rangeCall];rw[D,Y];simp[Deferred.ofValue]
   cases c with
   |ret bi=>
    simp only[MC,Bz]at i;unfold gN at i;split at i
    .rename_i b7 bv;have c4:b7.state≠ .busy:=by intro D;rw[D]at i;simp at i
     have c':∃ai,b7.pend=ai/\((ai=I/\o=.normal)\/(ai=J .ret/\o=.ret)\/∃k,ai=J (.exit k)/\o=.exit k)/\
      d8={st with heap:=gc (st.base::a.π) (gc ((st.base+1)::a.π) H),base:=st.base+2,defs:=.mark (0::st.base::a.π)::st.defs}:=by
      split at i
      .cases i
      .grind
     obtain⟨ai,cx,c0,rfl⟩:=c';refine⟨a6,λA n e w g ad j=>?_⟩;have⟨s,q1,N,ar,Q,aa,hvs⟩:=start A n e w g ad j;have⟨F,B,Y,v1,v2⟩:=bk j;refine .range Rk (b4 Y) (NY bn _) ((az.rw rfl (λ_ _ h=>by cases h) a5 A s _ _ N.hr Q (hvs v1 v2)).mono ?_);rintro D M ⟨r,L,T⟩;have bx:r (0::st.base::a.π)=J ⟨w.heap.size+1,0,0⟩:=by
      rw[L.out _ λd0=>?_]
      .exact q1
      .grind [My]
     cases D with
     |returned be=>
      have⟨k3,b0,a2,t1,t2,t3,_⟩:=L.hr.obj _ _ bv;rw[bx]at b0;cases b0;have⟨c1,c2⟩:=mU (b:=st.base) (π:=a.π) (h:=H);have O:CX A a.ci a.π r M H r (World.nl M (w.heap.size+1) (.loop {a2 with state:=.exhausted})) (gc (st.base::a.π) (gc ((st.base+1)::a.π) H)):=AAk L.hr bv rfl bx ((FD _ _).trans (FD _ _)) c1 c2
      have⟨m,i4⟩:=bl (d8:={st with heap:=gc (st.base::a.π) (gc ((st.base+1)::a.π) H),base:=st.base+2,defs:=.mark (0::st.base::a.π)::st.defs}) rfl rfl rfl rfl A n e w g j N ar Q aa L O
      refine⟨_,_,kh t1 (by rw[t2];exact c4),?_⟩;generalize World.nl M (w.heap.size+1) (Go.Obj.loop {a2 with state:=.exhausted})=av at m i4⊢
      rw[t3,cx];rcases c0 with⟨rfl,rfl⟩|⟨rfl,rfl⟩|⟨k,rfl,rfl⟩
      .exact⟨rfl,r,m,i4⟩
      .exact .ret ⟨rfl,r,m,i4⟩
      .exact .exit ⟨rfl,r,m,i4⟩
     |panicked chain=>exact T.elim|outgrown=>exact T.elim
    .cases i
   |of bi=>
    simp only[MC,Bz,E.ok.injEq,LC]at i;obtain⟨rfl,rfl⟩:=i;refine⟨a6,λA n e w g ad j=>?_⟩;have⟨s,q1,N,ar,Q,aa,hvs⟩:=start A n e w g ad j;have⟨F,B,Y,v1,v2⟩:=bk j;refine .range Rk (b4 Y) (NY bn _) ((az.rw rfl (λ_ _ h=>by cases h) a5 A s _ _ N.hr Q (hvs v1 v2)).mono ?_);rintro D M ⟨r,L,T⟩;cases D with
    |returned be=>exact T.elim
    |panicked chain=>
     obtain⟨be,rfl,a1⟩:=T;have⟨c1,c2⟩:=mU (b:=st.base) (π:=a.π) (h:=H);have O:CX A a.ci a.π r M H r M (gc (st.base::a.π) (gc ((st.base+1)::a.π) H)):=bt L.hr (λx o c5=>(c1 x o c5).1) c2;have⟨m,i4⟩:=bl (d8:={st with heap:=gc (st.base::a.π) (gc ((st.base+1)::a.π) H),base:=st.base+2,defs:=.mark (0::st.base::a.π)::st.defs}) rfl rfl rfl rfl A n e w g j N ar Q aa L O
     exact⟨bi,be,r,rfl,rfl,m,i4,a1.mono (.refl r) O.ol⟩
    |outgrown=>exact T.elim
variable{A:Nat->Prop}{P:H5}{r:List Hk}{g f v:BF}{w n x:G2}{h C D:S}{F H:u}{ci:Option u}{e:NT}{a:M3}{ro:Option Nat}
variable{C:DH}{K:Ah}{fr:Fr}
variable{f:IY}
theorem Gf.mono{g:KH}{Q s:OA->M3->G2->Prop}(c:∀b a w,Q b a w->s b a w):∀{m:Nat} {a:M3} {w:G2},Gf P f ro g Q m a w->Gf P f ro g s m a w
 |0,_,_,h=>h.elim|m+1,a,w,h=>CV.mono h λb a w e=>by cases b with|normal=>exact Gf.mono c e|_=>exact c _ _ _ e
def AEA(g:∀a f,W a->W {a with env:=f})(c:LW W st.heap):LW W (Fs C fr b st).heap:=by
 unfold Fs;simp only;split
 .exact c
 .intro i a h;have⟨x,o,g1,_,g3⟩:=GV h;cases o with|loop e=>simp only[Eb,Obj.loop.injEq]at g3;rw[g3];exact g e _ (c x e g1)|_=>simp[Eb]at g3
theorem TD(bk:PR P r C)(b1:y6 P C)(a4:EI P (Gp P C) K)(a6:fr.rnd=Z->ro=I)(bv:P.follows .mixedOrders=X)(bo:∃fn,P.funcs[fr.f]?=J fn):
 ∀(F b:Nat) (c:KH) (st:St) (o:Di) (d8:St),Dt C fr.f fr.nt c=X->exec C K fr F b c st=.ok (o,d8)->LW (Gp P C) st.heap->
  LW (Gp P C) d8.heap/\∀(A:Nat->Prop) (e:NT) (g:BF) (w:G2) (a:M3),e.n=fr.nt->UY A fr e g w st a->
   CV P fr.f ro c (KD A fr e g w st.heap o d8) a w/\∀m,c=.loop m->Gf P fr.f ro m (KD A fr e g w st.heap o d8) F a w:=by
 intro F;induction F with
 |zero=>grind [exec]
 |succ F V=>
  intro b c st o d8 x f L;have plain:∀{c:KH} {o:Di} {d8:St},(∀m,c≠ .loop m)->
   (LW (Gp P C) d8.heap/\∀(A:Nat->Prop) (e:NT) (g:BF) (w:G2) (a:M3),e.n=fr.nt->UY A fr e g w st a->CV P fr.f ro c (KD A fr e g w st.heap o d8) a w)->
   LW (Gp P C) d8.heap/\∀(A:Nat->Prop) (e:NT) (g:BF) (w:G2) (a:M3),e.n=fr.nt->UY A fr e g w st a->
    CV P fr.f ro c (KD A fr e g w st.heap o d8) a w/\∀m,c=.loop m->Gf P fr.f ro m (KD A fr e g w st.heap o d8) (F+1) a w:=
   λT h=>⟨h.1,λA e g w a s i=>⟨h.2 A e g w a s i,λm D=>absurd D (T m)⟩⟩
  cases c with
  |skip=>simp only[exec,E.ok.injEq,LC]at f;obtain⟨rfl,rfl⟩:=f;exact plain AG ⟨L,λA e g w a s i=>.skip ⟨rfl,g,CX.refl i.hr,i⟩⟩|label l=>simp only[exec,E.ok.injEq,LC]at f;obtain⟨rfl,rfl⟩:=f;exact plain AG ⟨L,λA e g w a s i=>.label ⟨rfl,g,CX.refl i.hr,i⟩⟩|exit B=>simp only[exec,E.ok.injEq,LC]at f;obtain⟨rfl,rfl⟩:=f;exact plain AG ⟨L,λA e g w a s i=>.exit ⟨rfl,g,CX.refl i.hr,i⟩⟩|ret=>simp only[exec,E.ok.injEq,LC]at f;obtain⟨rfl,rfl⟩:=f;exact plain AG ⟨L,λA e g w a s i=>.ret ⟨rfl,g,CX.refl i.hr,i⟩⟩
  |seq m W=>
   simp only[Dt,As]at x;simp only[exec]at f;cases Q:O4 C fr.f m with
   |some cd=>
    rw[Q]at f;dsimp only at f;cases m with
    |region B ops d=>simp only[O4]at Q;have a0:=x.2;simp only[yU]at a0;cases a1:C.spec fr.f B with|none=>rw[a1]at Q;cases Q|some a3=>rw[a1]at Q a0;cases Q;obtain⟨a',bc⟩:=b1 fr.f B a3 a1 ops d W a0 fr st o d8 rfl x.1.1 x.1.2 f L;grind
    |_=>simp[O4]at Q
   |none=>
   rw[Q]at f;dsimp only at f;replace x:=x.1;cases D:exec C K fr F b m st with
   |err v=>rw[D]at f;cases f
   |ok aa=>
    rw[D]at f;obtain⟨H,M⟩:=aa;obtain⟨O,N⟩:=V b m st H M x.1 D L;have stop:H=o/\M=d8->o≠ .normal->LW (Gp P C) d8.heap/\∀(A:Nat->Prop) (e:NT) (g:BF) (w:G2) (a:M3),e.n=fr.nt->UY A fr e g w st a->
       CV P fr.f ro (.seq m W) (KD A fr e g w st.heap o d8) a w:=by
     rintro⟨rfl,rfl⟩ T;refine⟨O,λA e g w a s i=>.seq (CV.mono (N A e g w a s i).1 λv Y n j=>?_)⟩;cases v with|normal=>exact absurd j.1 T|_=>exact j
    cases H with
    |normal=>simp only[Ep]at f;obtain⟨az,av⟩:=V b W M o d8 x.2 f O;refine plain AG ⟨az,λA e g w a s i=>.seq (CV.mono (N A e g w a s i).1 λv Y n j=>?_)⟩;cases v with|normal=>obtain⟨_,ar,bh,b6⟩:=j;exact CV.mono (av A e ar n Y s b6).1 λv cc cm b8=>b8.trans bh|exit B=>exact zBp|ret=>exact zBp|panic chain=>obtain⟨ad,be,ar,h,_⟩:=j;cases h|_=>exact j.elim
    |exit B=>grind [Ep]|ret=>grind [Ep]|of ad=>grind [Ep]
  |cond c m W=>
   simp only[Dt,As]at x;simp only[exec]at f;unfold NZ at f;split at f
   .rename_i b9 b3;have key:∀{ag:KH},exec C K fr F b ag st=.ok (o,d8)->Dt C fr.f fr.nt ag=X->(if b9 then m else W)=ag->
     LW (Gp P C) d8.heap/\∀(A:Nat->Prop) (e:NT) (g:BF) (w:G2) (a:M3),e.n=fr.nt->UY A fr e g w st a->CV P fr.f ro (.cond c m W) (KD A fr e g w st.heap o d8) a w:=by
     intro ag b4 b0 b5;obtain⟨O,N⟩:=V b ag st o d8 b0 b4 L;refine⟨O,λA e g w a s i=>?_⟩;have a5:=Ko i.s.env c;rw[b3]at a5;refine .cond (KF a5) ?_;rw[b5];exact(N A e g w a s i).1
    grind
   .cases f
  |block B m=>
   simp only[Dt]at x;simp only[exec]at f;cases D:exec C K fr F B m st with
   |err v=>rw[D]at f;cases f
   |ok aa=>
    rw[D]at f;obtain⟨H,M⟩:=aa;obtain⟨O,N⟩:=V B m st H M x D L;have b2:M=d8/\((H=.exit B/\o=.normal)\/(H≠ .exit B/\o=H)):=by
     cases H with
     |exit k=>
      simp only[JX]at f;split at f
      .grind [Nat.eq_of_beq_eq_true]
      .rename_i v;simp only[E.ok.injEq,LC]at f;refine⟨f.2,.inr ⟨λh=>?_,f.1.symm⟩⟩;cases h;simp at v
     |normal=>grind [JX]|ret=>grind [JX]|of ad=>grind [JX]
    obtain⟨rfl,bx⟩:=b2;refine plain AG ⟨O,λA e g w a s i=>.block (CV.mono (N A e g w a s i).1 λv Y n j=>?_)⟩;rcases bx with⟨rfl,rfl⟩|⟨T,rfl⟩
    .cases v with|exit k=>obtain⟨bs,j⟩:=j;cases bs;simp only[Exit.inBlock,IS];exact⟨rfl,j⟩|normal=>exact zBp|ret=>exact zBp|panic chain=>obtain⟨ad,be,ar,h,_⟩:=j;cases h|_=>exact j.elim
    .cases v with|exit k=>have:k≠B:=λv=>T (by rw[j.1,v]);grind [Exit.inBlock]|_=>exact j
  |loop m=>
   simp only[Dt]at x;simp only[exec,U0]at f;have bl:LW (Gp P C) (Fs C fr b st).heap:=AEA (λaa v h=>h) L;cases D:exec C K fr F b m (Fs C fr b st)with
   |err v=>rw[D]at f;cases f
   |ok aa=>
    rw[D]at f;obtain⟨H,M⟩:=aa;obtain⟨O,N⟩:=V b m _ H M x D bl;have rounds:LW (Gp P C) d8.heap/\∀(A:Nat->Prop) (e:NT) (g:BF) (w:G2) (a:M3),e.n=fr.nt->UY A fr e g w st a->Gf P fr.f ro m (KD A fr e g w st.heap o d8) (F+1) a w:=by
     have start:∀{A:Nat->Prop} {e:NT} {g:BF} {w:G2} {a:M3},UY A fr e g w st a->∃R,CX A fr.ci fr.π g w st.heap R w (Fs C fr b st).heap/\UY A fr e R w (Fs C fr b st) a:=by intro A e g w a i;obtain⟨R,ai,a3,bn⟩:=AEB (C:=C) (fr:=fr) (b:=b) i.hr i.s i.fresh i.own;exact⟨R,ai,ai.hr,a3,bn,ZF i.own ai,i.lb⟩
     have stop:H=o/\M=d8->o≠ .normal->LW (Gp P C) d8.heap/\∀(A:Nat->Prop) (e:NT) (g:BF) (w:G2) (a:M3),e.n=fr.nt->UY A fr e g w st a->
      Gf P fr.f ro m (KD A fr e g w st.heap o d8) (F+1) a w:=by
      rintro⟨rfl,rfl⟩ T;refine⟨O,λA e g w a s i=>?_⟩;obtain⟨R,ac,a2⟩:=start i;refine CV.mono (N A e R w a s a2).1 λv Y n j=>?_;cases v with|normal=>exact absurd j.1 T|exit B=>exact j.trans ac|ret=>exact j.trans ac|panic chain=>exact j.trans ac|goto l=>exact j.elim|outgrown=>exact j.elim
     cases H with
     |normal=>simp only[Ep]at f;obtain⟨az,av⟩:=V b (.loop m) M o d8 x f O;refine⟨az,λA e g w a s i=>?_⟩;obtain⟨R,ac,a2⟩:=start i;refine CV.mono (N A e R w a s a2).1 λv Y n j=>?_;cases v with|normal=>obtain⟨_,b',bi,b7⟩:=j;exact Gf.mono (λv a w j=>j.trans (ac.trans bi)) ((av A e b' n Y s b7).2 m rfl)|exit B=>exact zBp|ret=>exact zBp|panic chain=>obtain⟨ad,be,ar,h,_⟩:=j;cases h|_=>exact j.elim
     |exit B=>grind [Ep]|ret=>grind [Ep]|of ad=>grind [Ep]
    exact⟨rounds.1,λA e g w a s i=>⟨.loop (F+1) (rounds.2 A e g w a s i),λW cl=>by grind⟩⟩
  |region B ops ch=>simp only[exec]at f;exact plain AG (dI bk a4 a6 bv x f L)|rangeFunc ai t q p=>simp only[exec]at f;exact plain AG (AHD a4 a6 bo x f L)|goto l=>simp[exec]at f|scope m=>simp only[Dt]at x;simp only[exec]at f;obtain⟨a',bc⟩:=V b m st o d8 x f L;exact plain AG ⟨a',λA e g w a s i=>.scope (λl a w j=>j.elim) (bc A e g w a s i).1⟩|refuse=>simp[exec]at f
variable{A:Nat->Prop}{P:H5}{n:List Hk}{e g r:BF}{w s x:G2}{h v C:S}{D F:u}{ci:Option u}{H:NT}{a:M3}{ro:Option Nat}
variable{C:DH}{K:Ah}{g:Fr}
def Nr(i:Array G4):ResultVar->Sem G4
 |.tmp t=>pure (i.getD t undef)|.cell a t=>do loadVar t (<-asAddr (i.getD a undef))
def vQ(fn:Func)(i:Array G4):results fn i=(do let vs<-fn.results.mapM (Nr i);pure (if h:vs.size=1 then vs[0]else .tuple vs)):=by unfold results;congr 1
theorem vP{C:DH}(k:PR P n C){st:St}(H:HR A e w st.heap){i:Array G4}(h:MX e w (MS A e st.heap) st.env.get λc=>i.getD c Go.undef){g:ResultVar}{j:y}(b:E1 C st g=J j):
 ∃f,(Nr i g).run P w=.ok f w/\VR e w (MS A e st.heap) j f:=by
 cases g with
 |tmp c=>simp[E1]at b;subst b;exact⟨_,rfl,h c⟩
 |cell a c=>
  simp[E1,k.T]at b;rcases ht:Cm P n c with _|l
  .rw[ht]at b;cases b
  .rw[ht]at b;have⟨ad,f,h1,h2,h3⟩:=nZ H ht (h a) b;grind [Nr,asAddr]
theorem Tz{C:DH}(c:PR P n C){st:St}(H:HR A e w st.heap){i:Array G4}(f:MX e w (MS A e st.heap) st.env.get λo=>i.getD o Go.undef):∀{l:List ResultVar} {b:List y},SO (E1 C st) l=J b->
 ∃a:List G4,(l.mapM (Nr i)).run P w=.ok a w/\Hg e w (MS A e st.heap) b a.toArray
 |[],b,h=>by simp[SO]at h;subst h;exact⟨[],rfl,rfl,λm q p g=>by simp at g⟩|q::l,b,h=>by
  simp[SO]at h;split at h
  .rename_i p t j k;cases h;have⟨A8,r1,r2⟩:=vP c H f j;have⟨a,r3,r4,r5⟩:=Tz c H f k;refine⟨A8::a,?_,by simpa using r4,λm v s g r=>?_⟩
   .rw[List.mapM_cons];grind [Sem.run_bind,Result.andThen_ok,Sem.run_pure]
   grind
  .cases h
def vR{C:DH}(h:PR P n C)(H:HR A e w st.heap)(j:MX e w (MS A e st.heap) st.env.get λm=>i.getD m Go.undef){c:y}(a:La C fn st=J c):
 ∃b,(results fn i).run P w=.ok b w/\VR e w (MS A e st.heap) c b:=by
 unfold La at a;rcases hm:SO (E1 C st) fn.results.toList with _|g
 .rw[hm]at a;cases a
 .rw[hm]at a;have⟨us,r1,r2,r3⟩:=Tz h H j hm;have k:(fn.results.mapM (Nr i)).run P w=.ok us.toArray w:=by rw[Array.mapM_eq_mapM_toList,Sem.run_map,r1,Result.andThen_ok]
  rw[vQ];simp only[Sem.run_bind,k,Result.andThen_ok,Sem.run_pure];refine⟨_,rfl,?_⟩;simp only[List.size_toArray]at r2⊢
  match g,us,a,r2,r3 with|[],[],a,_,_=>cases a;simp;exact .kw [] #[] rfl λo p f l=>by simp at l|[f],[b],a,_,r3=>cases a;simp;exact r3 0 _ _ rfl rfl|f::v2::g,b::u2::us,a,r2,r3=>cases a;rw[dif_neg AG];exact .kw _ _ (by simpa using r2) r3
variable{M:Nat->Prop}{r:Nat}{n:Go.Obj}
theorem DR.other(C:∀c j f,w.heap[r]? ≠J (.cells c j f)){i:Ar}{e:G4}(h:DR w M i e):DR (World.nl w r n) M i e:=by induction h with|int k t=>exact .int k t|bool b=>exact .bool b|str x=>exact .str x|nilp=>exact .nilp|nilf=>exact .nilf|wt=>exact .wt|nilm=>exact .nilm|lst0 a cap=>exact .lst0 a cap|co l b v cap A c elem g B q o p _ m s=>exact .co l b v cap A c elem g (by grind [Eu]) q o p s m
variable{x:y}
def VR.other(A:∀c s f,w.heap[r]? ≠J (.cells c s f)){m:G4}(h:VR e w M x m):VR e (World.nl w r n) M x m:=by induction h with|d h=>exact .d (h.other A)|d9=>exact .d9|emp a=>exact .emp a|ii l p len k a cap i N v H=>exact .ii l p len k a cap i N v H|ptr l p k i=>exact .ptr l p k i|rt l B p k i=>exact .rt l B p k i|iptr j b p c elem g C L v K=>exact .iptr j b p c elem g (by rw[Eu n λs=>A _ _ _ (s▸C)];exact C) L v λB x m o t=>(K B x m o t).other A|fn f a b D F o t _ _ O P=>exact .fn f a b D F o t O P|yld l k i=>exact .yld l k i|mp l k i=>exact .mp l k i|iface Q m R _ q=>exact .iface Q m R q|agg j c o _ q=>exact .agg j c o q|kw j c o _ q=>exact .kw j c o q|undef m=>exact .undef m
def PK.other{x:Option (List Deferred)}(N:w.heap[r]?=J (.deferred x)){k:Wx}(h:PK e w M k o):PK e (World.nl w r n) M k o:=by
 have C:∀c s f,w.heap[r]? ≠J (.cells c s f):=λc s f=>by rw[N];simp
 have F:∀{L:Go.Obj},w.heap[k.b]?=J L->(∀x,L≠ .deferred x)->(World.nl w r n).heap[k.b]?=J L:=λK aa=>by
  rw[Eu n λs=>?_]
  .exact K
  .rw[s,N]at K;exact aa x (KW K).symm
 cases o with
 |box j=>obtain⟨c,elem,m,p,i⟩:=h;exact⟨c,elem,F m AG,p,λq x D a b=>(i q x D a b).other C⟩|f8 P H=>exact zBf
 |v6 P H=>
  rcases h with h|⟨Y,c,elem,g,m,p,i,t,v,A,B⟩
  .exact .inl h
  .exact .inr ⟨Y,c,elem,g,F m AG,p,i,t,v,A,λq x D a b=>(B q x D a b).other C⟩
 |arr P H=>exact zBf|map H=>obtain⟨R,Q,m,W,l,ac,ad,p,i⟩:=h;exact⟨R,Q,F m AG,W,l,ac,ad,p,λq O s a b=>⟨(i q O s a b).1.other C,(i q O s a b).2.other C⟩⟩|loop ai=>obtain⟨l,m,p,i,t,v,A,B,V,T⟩:=h;exact⟨l,F m AG,p,i,t,v,A,B,V,λag=>(T ag).other C⟩
def HR.other{x:Option (List Deferred)}(i:w.heap[r]?=J (.deferred x))(H:HR A e w h):HR A e (World.nl w r n) h:=by refine⟨λc o g=>?_,H.inj,λc k a=>by rw[FB];exact H.bnd c k a,H.out,λb f=>by rw[FB];exact H.abnd b f⟩;have⟨k,a,h1⟩:=H.obj c o g;exact⟨k,a,h1.other i⟩
theorem CX.other{i:BF}{c:G2}{g:S}{x:Option (List Deferred)}(l:w.heap[r]?=J (.deferred x))(q:c.heap.size<=r)(a:CX A ci D i c g e w h):CX A ci D i c g e (World.nl w r n) h:=by have o:∀b,b<c.heap.size->(World.nl w r n).heap[b]?=w.heap[b]? :=λb f=>Eu n z;refine⟨a.out,a.hr.other l,⟨λb f k=>by rw[o b f];exact a.ol.pm b f k,by grind,a.ol.sub,a.ol.io⟩,λp m j=>?_⟩;have⟨k1,k2,k3⟩:=a.kept p m j;grind
def Ma.other{o:Nat}{x:Option (List Deferred)}(j:w.heap[r]?=J (.deferred x)):∀{l:List Df} {m:List Deferred},(∀g∈m,g.target≠ .collected r)->Ma o e w M l m->Ma o e (World.nl w r n) M l m
 |[],[],_,_=>trivial|d::l,g::m,hne,h=>by
  have A:∀c g f,w.heap[r]? ≠J (.cells c g f):=λc g f=>by rw[j];simp
  refine⟨?_,Ma.other j (λp B=>hne p (by simp[B])) h.2.1,h.2.2⟩;obtain⟨q,_,_⟩:=h;cases q with|mark D i s t v=>have:i≠r:=λg=>hne {target:=.collected i,args:= #[]} AG zDA;exact .mark D i (by rw[Eu n this];exact s) t v|call f args H k=>exact .call f args H ⟨k.1,λC x F a b=>(k.2 C x F a b).other A⟩
 |[],_::_,_,h=>h.elim|_::_,[],_,h=>h.elim
structure Qh(P:H5)(f:IY)(t:Hk):Prop:=
 enters:Nz P f
 quiet:∀(w:G2) (ad:Addr),CallsDIn Fence.wide 0 P f #[.pointer (J ad)] .returning w λe u' s=>(∃v,e=.returned v)/\settle u'=.returning/\w.heap.size<=s.heap.size/\(∀b,b<w.heap.size->s.heap[b]?=w.heap[b]?)/\s.os=w.os/\s.output=w.output
 loud:∀(w:G2) (b off:Nat) (k:IntKind) (n:Int) (c:Array G4) (elem:Hk),w.heap[b]?=J (.cells c elem (0,0))->off<c.size->
  CallsDIn Fence.wide 0 P f #[.pointer (J ⟨b,off,I⟩)] (.panicking [{v:=.iface t (.agg #[.int k n]),recovered:=Z}]) w λe u' s=>(∃v,e=.returned v)/\settle u'=.returning/\w.heap.size<=s.heap.size/\(∀b',b'<w.heap.size->s.heap[b']?=(World.nl w b (.cells (G6 c off [.int k n]) elem (0,0))).heap[b']?)/\s.os=w.os/\s.output=w.output
def mQ(e:BF)(w:G2)(M:Nat->Prop):Option y->FrameMode->Prop
 |none,a=>a=.returning|some c,a=>∃b,a=.panicking [{v:=b,recovered:=Z}]/\VR e w M c b
def AHj(a:w.heap[r]?=J (.deferred (J []))):(Instr.takeDeferred r).run P w=.ok [] (World.nl w r (.deferred I)):=by simp[Instr.takeDeferred,Ju (P:=P) a AG,IA (P:=P) a AG]
theorem Yn{fn:Func}{i:Array G4}{R:Ending->G2->Prop}(az:∀f o,C.caught f=J o->Qh P f o){env:Nat->y}{b5:BF}{bi:G2}{bn:S}{bc:Option y}{v:S}{lb:Nat}(bx:bi.heap.size<=lb)(e:BF)(bk:∀s M,CX A ci D b5 bi bn e s v->MX e s (MS A e v) env (λo=>i.getD o Go.undef)->mQ e s (MS A e v) bc M->LeavesInM Fence.wide 0 P fn i R [] M s):
 ∀(l:List Df) (m:List Deferred) (t:Option y) (h:S) (w:G2) (B:FrameMode),EP C ci l t h=.ok (bc,v)->Ma lb e w (MS A e h) l m->CX A ci D b5 bi bn e w h->MX e w (MS A e h) env (λo=>i.getD o Go.undef)->
  mQ e w (MS A e h) t B->LeavesInM Fence.wide 0 P fn i R m B w
 |[],[],t,h,w,B,a,_,g,he,hm=>by simp[EP]at a;grind|.mark q::l,L::m,t,h,w,B,a,hd,g,he,hm=>by
  simp[EP]at a;obtain⟨N,O,bo⟩:=hd;cases N with
  |mark _ r H be c3=>
   have Y:∀c L f,w.heap[r]? ≠J (.cells c L f):=λc L f=>by rw[H];simp
   refine⟨?_,.inl ⟨r,_,rfl,AHj H,Yn az bx e bk l m t h _ B a (O.other H λb7 cc=>bo b7 cc r rfl) (g.other H z) (λo=>(he o).other Y) ?_⟩⟩
   .rcases t with _|bh
    .rw[show B=.returning from hm];simp
    .obtain⟨ad,rfl,_⟩:=hm;simp
   .rcases t with _|bh
    .exact hm
    .obtain⟨ad,N,O⟩:=hm;exact⟨ad,N,O.other Y⟩
 |.call f args::l,L::m,t,h,w,B,a,hd,g,he,hm=>by
  obtain⟨N,O,bo⟩:=hd;cases N with
  |call _ _ ac cu=>
   simp[EP]at a;split at a
   .rename_i o q p cp;have ar:=az f o cp;obtain⟨k,rfl,Q⟩:∃k,ac= #[.pointer (J ⟨k.b,p,I⟩)]/\e q=J k:=by
     obtain⟨b8,b9⟩:=cu;have a4:0<ac.size:=by rw[<-b8];simp
     have b2:=b9 0 _ ac[0] rfl (D9 a4);generalize c2:ac[0]=x at b2;cases b2 with|ptr _ _ k Q=>grind
    have bs:(invoke (.fn (.func f) #[]) #[.pointer (J ⟨k.b,p,I⟩)]).run P w=.ok (.enter f #[.pointer (J ⟨k.b,p,I⟩)]) w:=by simp[invoke,NY ar.enters]
    have b4:∀{W:S} {ag:G2},EP C ci l I W=.ok (bc,v)->CX A ci D e w h e ag W->LeavesInM Fence.wide 0 P fn i R m .returning ag:=by intro W ag a ai;exact Yn az bx e bk l m I W ag .returning a (O.mono (.refl e) ai.ol) (g.trans ai) (he.mono (.refl e) ai.ol) rfl
    split at a
    .have cs:B=.returning:=hm;subst cs;refine⟨AG,.inr ⟨λa2=>by simp[Fence.wide]at a2,.func f, #[],f,_,rfl,bs,λ_ _=>trivial,?_⟩⟩;refine(ar.quiet w ⟨k.b,p,I⟩).mono ?_;rintro L M s ⟨⟨bh,rfl⟩,a5,a',av,a3⟩;show LeavesInM Fence.wide 0 P fn i R m (settle M) s;rw[a5];exact b4 a (Nd g.hr av a' a3)
    .rename_i c4 T V;split at a
     .rename_i a0;simp only[As]at a0;have cq:=D5 a0.1;split at a
      .rename_i j a1;split at a
       .rename_i K b1;obtain⟨ad,rfl,cv⟩:=hm;have cx:ad=.iface o (.agg #[.int T V]):=by
         cases cv with
         |iface _ _ c1 aa=>
          cases aa with
          |agg _ c ch Y=>
           have a4:0<c.size:=by rw[<-ch];simp
           have:=HJ (Y 0 _ c[0] rfl (D9 a4));rw[cq];congr 2;grind
        subst cx;have⟨k',bv,c,elem,H,be⟩:=g.hr.obj q _ a1;rw[Q]at bv;cases bv;have cl:=(Ey b1).1;simp at cl;have cn:p<c.size:=by rw[<-be.1];omega
        refine⟨AG,.inr ⟨λa2=>by simp[Fence.wide]at a2,.func f, #[],f,_,rfl,bs,λ_ _=>trivial,?_⟩⟩;refine(ar.loud w k.b p T V c elem H cn).mono ?_;rintro L M s ⟨⟨bh,rfl⟩,a5,a',av,a3⟩;show LeavesInM Fence.wide 0 P fn i R m (settle M) s;rw[a5];refine b4 a ?_;have b0:=Ho g.hr (o':=.box K) a1 rfl Q (.cells (G6 c p [.int T V]) elem (0,0));have b6:HR A e (World.nl w k.b (.cells (G6 c p [.int T V]) elem (0,0))) (h.put q (.box K)):=by
         refine g.hr.upd' a1 rfl Q ⟨_,elem,GK _ (BZ H),?_⟩;exact XX (be.mono (.refl e) b0) ⟨rfl,λb3 n c1 a6 aa=>by
          rcases b3 with _|b3
          .simp at a6 aa;subst a6 aa;exact .d (.int _ _)
          .simp at a6⟩ b1
        have c0:J4 ci [(q,Obj.box K)]=true:=by
         have:=a0.2;rcases ci with _|F
         .rfl
         .simpa[J4]using this
        have bl:CX A ci D e w h e (World.nl w k.b (.cells (G6 c p [.int T V]) elem (0,0))) (h.put q (.box K)):=IK (δ:=[(q,.box K)]) (.refl e) (λ_ cd=>.inl cd) b6 b0 ⟨λb b' cm=>Eu _ (Ne.symm (cm (q,.box K) AG k Q)),λ_ _ h=>.inl h⟩ c0
        exact bl.trans (Nd bl.hr (λb b'=>av b (by grind [FB])) (by rw[FB];exact a') a3)
       .cases a
      .cases a
     .cases a
    .cases a
   .cases a
 |[],_::_,_,_,_,_,_,h,_,_,_=>h.elim|_::_,[],_,_,_,_,_,h,_,_,_=>h.elim
variable{A:Nat->Prop}{P:H5}{F:List Hk}{e j v:BF}{w D C:G2}{h s H:S}{g K:u}{ci:Option u}{L:NT}{a:M3}{ro:Option Nat}
variable{C:DH}{K:Ah}{a:Fr}
variable{j:G}
theorem bj{b a:List y}(h:Jn j b=J a):Ab a=[]:=by have⟨q1,q2⟩:=YX h;rw[On];grind [QH,List.mem_iff_getElem?,AD]
variable{v:y}
def ABP{x:Option Ar}(h:x.map y.d=J v):AD v=[]:=by simp at h;obtain⟨n,_,rfl⟩:=h;rfl
theorem l7(h:FM j v=J x):AD x=[]:=by
 unfold FM at h;split at h
 .simp at h;obtain⟨b,a,rfl⟩:=h;exact bj a
 .cases h;rfl
 .simp at h;obtain⟨b,a,rfl⟩:=h;exact bj a
 .simp at h;obtain⟨n,_,rfl⟩:=h;rfl
 .exact ABP h
theorem AFH:∀{b a:List y},Fk j b=J a->Ab a=[]
 :=by intro x;induction x<;>grind [Fk,Ab,l7]
theorem AJh(h:frz j v=J x):AD x=[]:=by
 unfold frz at h;split at h
 .simp at h;obtain⟨b,a,rfl⟩:=h;exact AFH a
 .exact l7 h
theorem AJi(H:HR A e w h){g:G4}(f:VR e w (MS A e h) v g)(a:frz h.get v=J x):VR e w (MS A e []) x g:=by
 unfold frz at a;split at a
 .simp at a;obtain⟨o,i,rfl⟩:=a;have⟨q1,q2⟩:=bq i;cases f with|kw _ c j l=>refine .kw _ c (by rw[q1];exact j) λk x v a f=>?_;have m:k<(‹List y›:List y).length->True:=λ_=>trivial;have b:=(BI.1 a).1;rw[q1]at b;have n:=CI b;grind [mC]
 grind [mC]
def ku(P:H5)(C:DH)(f:IY):Prop:=∃fn c,P.funcs[f]?=J fn/\fn.body=J c/\Dt C f fn.ntmps c=X/\(fn.name== "runtime.NumGoroutine")=Z
structure iv(P:H5)(mix:List Hk)(C:DH):Prop:=
 cfg:PR P mix C
 mixed:P.follows .mixedOrders=X
 caught:∀f t,C.caught f=J t->Qh P f t
 spec:y6 P C
def ZG:∀(a:Nat) (c:List y) (b:Nat),(Ej a c).get b=if a<=b then c.getD (b-a) .undef else .undef
 |a,[],b=>by simp[Ej,CW.get]|a,v::c,b=>by
  simp only[Ej,CW.q_f,ZG (a+1) c b];by_cases e:a=b
  .subst e;simp
  .rw[Co e];by_cases f:a+1<=b
   .rw[D4 f,D4 z];obtain⟨k,rfl⟩:∃k,b=a+1+k:=⟨b-(a+1),z⟩;rw[show a+1+k-(a+1)=k by omega,show a+1+k-a=k+1 by omega];simp
   .rw[Co f,Co z]
theorem Tb:∀{l:List Df} {b c:Option y} {h s:S},LW W h->EP C ci l b h=.ok (c,s)->LW W s
 |[],b,c,h,s,hL,a=>by simp[EP]at a;obtain⟨rfl,rfl⟩:=a;exact hL|.mark id::l,b,c,h,s,hL,a=>by simp[EP]at a;exact Tb hL a|.call f args::l,b,c,h,s,hL,a=>by
  simp[EP]at a;split at a
  .split at a
   .exact Tb hL a
   .split at a
    .split at a
     .split at a
      .exact Tb (hL.put λ_ h=>by cases h) a
      .cases a
     .cases a
    .cases a
   .cases a
  .cases a
theorem AEz(O:iv P F C)(bh:EI P (Gp P C) K){f:IY}(bo:ku P C f){aa:Nat}{args:List y}{raw:Bool}{r:BG×S}(k:UD P C K aa f args h g raw ci=.ok r):wa P (Gp P C) (.fn f) args h g raw ci r:=by
 obtain⟨fn,c,R,ac,a',bc⟩:=bo;unfold UD at k;rw[R]at k;simp[ac]at k;split at k
 case h_2=>cases k
 rename_i a2;have a2:U args<=fn.ntmps:=GS a2;cases az:exec C K {f,π:=g,raw,ci,nt:=fn.ntmps} aa 0 c {env:=Ej 0 args,heap:=h,base:=0,defs:=[]}with
 |err Y=>rw[az]at k;cases k
 |ok ch=>
  rw[az]at k;obtain⟨o,b⟩:=ch;have bl:∃n,(o=.ret/\n=I\/o=.normal/\n=I\/∃v,o=.of v/\n=J v)/\ZD C f fn g raw b (EP C ci b.defs n b.heap)=.ok r:=by
   unfold m7 at k;simp only at k;split at k
   .grind
   .grind
   .grind
   .cases k
  obtain⟨n,ai,V⟩:=bl;cases ag:EP C ci b.defs n b.heap with
  |err Y=>rw[ag]at V;cases V
  |ok cl=>
   rw[ag]at V;obtain⟨a0,s⟩:=cl;have bn:=λbe=>TD (ro:=I) (fr:={f,π:=g,raw,ci,nt:=fn.ntmps}) O.cfg O.spec bh (λ_=>rfl) O.mixed ⟨fn,R⟩ aa 0 c _ o b a' az be;have b4:(∃v,a0=J v/\r=(.of v,s))\/(a0=I/\∃W,La C fn {b with heap:=s}=J W/\((r=(.ret W,s)/\(raw=X\/g≠ []))\/(raw=Z/\g=[]/\∃a1,frz s.get W=J a1/\r=(.ret a1,[])))):=by
    unfold ZD at V;rcases a0 with _|v
    .grind [M6]
    .grind
   have cc:∀(A:Nat->Prop) (e:BF),(raw=Z->∀x,e x≠I->g<:+x)->LW (Gp P C) h->Uc P A (.fn f) args h g ci r e:=by
    intro A e b2 T w M H bv a5;show Calls P f M w (Sj A ci g e w h r);refine Z3 R ac ?_;have cq:=a5.1.symm;have b':UY A {f,π:=g,raw,ci,nt:=fn.ntmps} ⟨fn.ntmps,w.heap.size⟩ e w {env:=Ej 0 args,heap:=h,base:=0,defs:=[]} {tmps:=M++Array.replicate (fn.ntmps-M.size) Go.undef,defers:=[]}:=by
     refine⟨H,⟨BP,λq=>?_,trivial⟩,λcd _ x ad=>bv x ((FD cd g).trans ad),b2,D2 _⟩;simp only;rw[ZG,D4 (F9 q),Nat.sub_zero];by_cases av:q<U args
     .have i:args.getD q .undef=args[q]:=by simp[av]
      have a:(M++Array.replicate (fn.ntmps-M.size) Go.undef).getD q Go.undef=M[q]'(z):=by rw[Gc,Li z,D9 z];rfl
      rw[i,a];exact a5.2 q _ _ (CI av) (D9 z)
     .have i:args.getD q .undef=.undef:=by simp[List.getElem?_eq_none (Nat.le_of_not_lt av)]
      rw[i];exact .undef _
    have b5:=((bn T).2 A ⟨fn.ntmps,w.heap.size⟩ e w _ rfl b').1;refine b5.mono λY N D post=>?_;have go:∀{m:BF} {L:FrameMode},CX A ci g e w h m D b.heap->UY A {f,π:=g,raw,ci,nt:=fn.ntmps} ⟨fn.ntmps,w.heap.size⟩ m D b N->mQ m D (MS A m b.heap) n L->
     LeavesInM Fence.wide 0 P fn N.tmps (Sj A ci g e w h r) N.defers L D:=by
     intro m L t p b0;refine Yn (C:=C) (ci:=ci) O.caught (env:=b.env.get) (lb:=w.heap.size) (D2 _) m ?_ b.defs N.defers n b.heap D L ag p.s.defs t p.s.env b0;intro cn a6 B bk a3;show LeavesIn Fence.wide 0 P fn N.tmps (Sj A ci g e w h r) [] a6 cn;rcases b4 with⟨v,rfl,rfl⟩|⟨rfl,W,b6,bi⟩
     .obtain⟨cm,rfl,b9⟩:=a3;exact⟨m,B,cm,rfl,b9⟩
     .have b8:a6=.returning:=a3;subst b8;have⟨uv,i,a⟩:=vR O.cfg (st:={b with heap:=s}) B.hr bk b6
      refine⟨uv,i,?_⟩;rcases bi with⟨rfl,_⟩|⟨_,rfl,a1,b7,rfl⟩
      .exact⟨m,B,a⟩
      .refine⟨m,B.trans (bt B.hr (λx o b1=>by simp at b1) λx ad=>absurd List.nil_suffix ad),?_⟩;exact AJi B.hr a b7
    cases Y with
    |normal=>exact zA0|ret=>exact zA0|exit x=>obtain⟨i,_⟩:=post;grind
    |panic chain=>
     obtain⟨v,L,m,i,rfl,t,p,a4⟩:=post;have Q:n=J v:=by
      rcases ai with⟨a,j⟩|⟨a,j⟩|⟨cu,a,j⟩
      .rw[i]at a;cases a
      .rw[i]at a;cases a
      .grind
     subst Q;exact go t p ⟨L,rfl,a4⟩
    |goto l=>exact post.elim|outgrown=>exact post.elim
   refine⟨λcp bs=>?_,λar _ T A e=>cc A e (λh=>by rw[ar]at h;cases h) T,λar bx b3 A=>?_,λar bx b3 cs v a4=>?_,λ_ T=>?_⟩
   .cases bs;exact⟨fn,c,R,ac,bc⟩
   .grind [LW.nil]
   .grind [AJh]
   grind [Tb,LW.nil]
variable{A:Nat->Prop}{P:H5}{s:List Hk}{e C F:BF}{w g H:G2}{h K L:S}{π D:u}{ci:Option u}{N:NT}{a:M3}{ro:Option Nat}
variable{C:DH}{K:Ah}{fr:Fr}
def zJ(h:w.heap[k]?=J (.loop l))(a:l.state=.ready):(Instr.beginRound k).run P w=.ok () (World.nl w k (.loop {l with state:=.busy})):=by simp[Instr.beginRound,P0 h,IA (P:=P) h AG,a]
def AJF(h:w.heap[k]?=J (.loop l))(j:Option KH):
 (Instr.endRound k j).run P w=.ok (.bool j.isNone) (World.nl w k (.loop {l with state:=if j.isNone then .ready else .done,pending:=j})):=by
 simp[Instr.endRound,P0 h,IA (P:=P) h AG]
def UC:∀{a:u} {b:List y} {c e:CW},FY c a b=J e->(U a)=U b
 |[],[],_,_,_=>rfl|t::a,v::b,c,e,h=>by simp[FY]at h;simp[UC h]|[],_::_,_,_,h=>by simp[FY]at h|_::_,[],_,_,h=>by simp[FY]at h
theorem sv(l:List (Nat×G4)):∀(i:Array G4),(l.foldl (λi (x:Nat×G4)=>i.setIfInBounds x.1 x.2) i).size=i.size:=by induction l with|nil=>intro i;rfl|cons x l a=>grind
theorem WZ{M:Nat->Prop}:∀{g:u} {j:List y} {us:List G4} {b f:CW} {i:Array G4},FY b g j=J f->(U j)=U us->(∀(k:Nat) (x:y) (v:G4),j[k]?=J x->us[k]?=J v->VR e w M x v)->
 (∀a∈g,a<i.size)->MX e w M b.get (λa=>i.getD a Go.undef)->MX e w M f.get λa=>((g.zip us).foldl (λi (x:Nat×G4)=>i.setIfInBounds x.1 x.2) i).getD a Go.undef
 |[],[],us,b,f,i,h,_,_,_,he=>by simp[FY]at h;subst h;simpa using he|a::g,v::j,[],b,f,i,_,hl,_,_,_=>by simp at hl|a::g,v::j,A8::us,b,f,i,h,hl,hv,ht,he=>by
  simp[FY]at h;rw[List.zip_cons_cons,Ok];refine WZ h (by simpa using hl) (λk x v l m=>hv (k+1) x v zDC zDE) (λc o=>by grind) λc=>?_;have n:=ht a AG;rw[CW.q_f];by_cases b:a=c
  .subst b;rw[D4 rfl];have:(i.setIfInBounds a A8).getD a Go.undef=A8:=by simp[n]
   show VR e w M v ((i.setIfInBounds a A8).getD a Go.undef);rw[this];exact hv 0 v A8 rfl rfl
  .rw[Co b];have:(i.setIfInBounds a A8).getD c Go.undef=i.getD c Go.undef:=by rw[Gc,Ii b,<-Gc]
   show VR e w M (CW.get _ c) ((i.setIfInBounds a A8).getD c Go.undef);rw[this];exact he c
 |[],_::_,_,_,_,_,h,_,_,_,_=>by simp[FY]at h|_::_,[],_,_,_,_,h,_,_,_,_=>by simp[FY]at h
def bu{a:u}{r:Lp}{k:Wx}(H:HR A e w h)(i:h.get a=J (.loop r))(g:e a=J k)(n:w.heap[k.b]?=J (.loop l))(v:J4 ci [(a,.box [])]=X)(f:LoopState)(c:Option KH):
 CX A ci π e w h e (World.nl w k.b (.loop {l with state:=f,pending:=c})) (h.put a (.loop {r with state:=f,pend:=c})):=by
 have o:=Ho H (o':=.loop {r with state:=f,pend:=c}) i rfl g (.loop {l with state:=f,pending:=c})
 have⟨k',m,l',p,q2,q3,q4,q5,q6,q7,q9,q8⟩:=H.obj a _ i;rw[g]at m;cases m;rw[n]at p;cases p;have q:HR A e (World.nl w k.b (.loop {l with state:=f,pending:=c})) (h.put a (.loop {r with state:=f,pend:=c})):=H.upd' i rfl g ⟨_,GK _ (BZ n),rfl,rfl,q4,q5,q6,q7,q9,q8.mono (.refl e) o⟩
 have x:J4 ci [(a,Obj.loop {r with state:=f,pend:=c})]=true:=by
  rcases ci with _|D
  .rfl
  .simpa[J4]using v
 have j:=IK (ρ:=π) (δ:=[(a,.loop {r with state:=f,pend:=c})]) (.refl e) (λ_ s=>.inl s) q o ⟨λb B t=>Eu _ (Ne.symm (t (a,.loop {r with state:=f,pend:=c}) AG k g)),λ_ _ h=>.inl h⟩ x
 exact j
theorem ph(n:iv P s C)(ac:EI P (Gp P C) K){b:u}{r:Lp}{F:Nat}{args:List y}{N:BG×S}(a:Jc C K F b r args h π ci=.ok N):
 wa P (Gp P C) (.round b r) args h π X ci N:=by
 unfold Jc at a;split at a
 case h_2=>cases a
 rename_i Y bh;have cd:=UC bh;cases a5:exec C K {f:=r.f,π,raw:=X,ci,rnd:=X,nt:=r.nt} F 0 r.wp {env:=Y,heap:=h,base:=0,defs:=[]}with
 |err Y=>grind [KS]
 |ok cx=>
  rw[a5]at a;obtain⟨c4,B⟩:=cx;unfold KS at a;split at a
  case h_2=>cases a
  rename_i c5 heq;simp at heq;obtain⟨rfl,rfl⟩:=heq;split at a
  case h_2=>cases a
  rename_i c2 bs;unfold RJ at a;split at a
  case h_2=>cases a
  rename_i m ad;split at a
  case h_2=>cases a
  rename_i ch;simp at a;cases ai:exec C K {f:=r.f,π,raw:=X,ci,rnd:=X,nt:=r.nt} F 0 r.body {B with heap:=B.heap.put b (.loop {m with state:=.busy})}with
  |err Y=>rw[ai]at a;cases a
  |ok W=>
   rw[ai]at a;obtain⟨o,O⟩:=W;unfold UB at a;simp only at a;split at a
   case h_2=>cases a
   rename_i b7;unfold pg at a;split at a
   case h_2=>cases a
   rename_i W a3;have c3:∀{c0 cv},Gp P C m->Gp P C {m with state:=c0,pend:=cv}:=λh=>h
   refine⟨λf b8=>(by cases b8),λ_ a2 az A e=>?_,λh=>zCN,λh=>zCN,λa2 az=>?_⟩
   .have⟨⟨fn,hfn⟩,hasg,hbody,hps⟩:=a2 b r rfl;intro w a6 H bi bo;refine⟨cd,λk l b9 ag cc=>?_⟩;have⟨k',D,l',bv,q2,q3,q4,q5,q6,q7,q9,q8⟩:=H.obj b _ b9;rw[ag]at D;cases D;rw[cc]at bv;cases bv;rw[q4];have bl:¬π<:+b:=λbn=>by rw[bi b bn]at ag;cases ag
    refine aK hfn ?_;rw[q6];have cl:(Jz l a6).size=r.nt:=by unfold Jz;rw[<-Array.foldl_toList,sv,q9]
    have cq:UY A {f:=r.f,π,raw:=X,ci,rnd:=X,nt:=r.nt} ⟨r.nt,w.heap.size⟩ e w {env:=Y,heap:=h,base:=0,defs:=[]} {tmps:=Jz l a6,defers:=[]}:=by refine⟨H,⟨cl,?_,trivial⟩,λcu _ b b'=>bi b ((FD cu π).trans b'),λh=>zCN,D2 _⟩;have:=WZ (us:=a6.toList) bh (by rw[bo.1];simp) (λcp x v b5 b6=>bo.2 cp x v b5 (by simpa using b6)) (λc1 cm=>by rw[q9];exact hps c1 cm) q8;unfold Jz;rw[<-Array.foldl_toList,Array.toList_zip,q5];exact this
    have⟨R,hx1⟩:=TD (ro:=J k.b) (fr:={f:=r.f,π,raw:=X,ci,rnd:=X,nt:=r.nt}) n.cfg n.spec ac (λh=>zCN) n.mixed ⟨fn,hfn⟩ F 0 r.wp _ .normal B hasg a5 az;refine(hx1 A ⟨r.nt,w.heap.size⟩ e w _ rfl cq).1.mono λar bc b1 post=>?_;cases ar with
    |normal=>
     obtain⟨_,Q,av,V⟩:=post;have a4:Q b=J k:=by rw[av.out b bl];exact ag
     have⟨k',D,l1,t1,t2,t3,t4,t5,t6,t7,t9,t8⟩:=V.hr.obj b _ ad;rw[a4]at D;cases D;refine⟨_,zJ t1 (by rw[t2];exact ch),?_⟩;have L:=bu (π:=π) V.hr ad a4 t1 bs .busy l1.pending;rw[t3]at L;have b2:({m with state:=LoopState.busy,pend:=m.pend}:Lp)={m with state:=.busy}:=rfl
     have b3:({l1 with state:=LoopState.busy,pending:=m.pend}:Loop)={l1 with state:=.busy}:=by rw[<-t3]
     rw[b2,b3]at L;have cs:UY A {f:=r.f,π,raw:=X,ci,rnd:=X,nt:=r.nt} ⟨r.nt,w.heap.size⟩ Q (World.nl b1 k.b (.loop {l1 with state:=.busy})) {B with heap:=B.heap.put b (.loop {m with state:=.busy})} bc:=⟨L.hr,V.s.mono (.refl Q) L.ol,V.fresh,λh=>zCN,Gt V.lb L.ol.size⟩
     have a0:LW (Gp P C) (B.heap.put b (.loop {m with state:=.busy})):=R.put λbx T=>by cases T;exact R b m ad
     have⟨a1,hy1⟩:=TD (ro:=J k.b) (fr:={f:=r.f,π,raw:=X,ci,rnd:=X,nt:=r.nt}) n.cfg n.spec ac (λh=>zCN) n.mixed ⟨fn,hfn⟩ F 0 r.body _ o O hbody ai a0;rw[q7];refine(hy1 A ⟨r.nt,w.heap.size⟩ Q _ bc rfl cs).1.mono λar be a' post=>?_;have aa:∀{t:BF},CX A ci π Q (World.nl b1 k.b (.loop {l1 with state:=.busy})) (B.heap.put b (.loop {m with state:=.busy})) t a' O.heap->UY A {f:=r.f,π,raw:=X,ci,rnd:=X,nt:=r.nt} ⟨r.nt,w.heap.size⟩ t a' O be->
      ∀(i:Option KH),MI b O.heap W i=.ok N->∃v g,(Instr.endRound k.b i).run P a'=.ok v g/\Sj A ci π e w h N (.returned v) g:=by
      intro t p q i M;have bk:t b=J k:=by rw[p.out b bl];exact a4
      have⟨k',D,l2,u1,u2,u3,u4,u5,u6,u7,u9,u8⟩:=q.hr.obj b _ a3;rw[bk]at D;cases D;refine⟨_,_,AJF u1 i,?_⟩;have b4:=bu (π:=π) q.hr a3 bk u1 bs (if i.isNone then .ready else .done) i;unfold MI at M;simp at M;subst M;refine⟨t,?_,.d (.bool _)⟩;have bn:(match i with|none=>LoopState.ready|some _=>LoopState.done)=(if i.isNone then LoopState.ready else LoopState.done):=by cases i<;>rfl
      have j:=((av.trans L).trans p).trans b4;rcases i with _|c
      .exact j
      .exact j
     cases ar with
     |normal=>obtain⟨rfl,t,p,q⟩:=post;exact aa p q I a|ret=>obtain⟨rfl,t,p,q⟩:=post;exact aa p q (J .ret) a|exit x=>obtain⟨rfl,t,p,q⟩:=post;exact aa p q (J (.exit x)) a
     |panic chain=>
      obtain⟨v,b0,t,rfl,rfl,p,q,cn⟩:=post;simp at a;subst a;refine⟨?_,t,(av.trans L).trans p,b0,rfl,cn⟩;have:=q.s.defs;rw[b7]at this;rcases hda:be.defers with _|⟨d,l⟩
      .rfl
      .rw[hda]at this;exact this.elim
     |goto l=>exact post.elim|outgrown=>exact post.elim
    |exit x=>obtain⟨h,_⟩:=post;cases h|ret=>obtain⟨h,_⟩:=post;cases h|panic chain=>obtain⟨v,b0,Q,h,_⟩:=post;cases h|goto l=>exact post.elim|outgrown=>exact post.elim
   .have⟨⟨fn,hfn⟩,hasg,hbody,hps⟩:=a2 b r rfl;have R:=(TD (ro:=J 0) (fr:={f:=r.f,π,raw:=X,ci,rnd:=X,nt:=r.nt}) n.cfg n.spec ac (λh=>zCN) n.mixed ⟨fn,hfn⟩ F 0 r.wp _ .normal B hasg a5 az).1;have a0:LW (Gp P C) (B.heap.put b (.loop {m with state:=.busy})):=R.put λbx T=>by cases T;exact R b m ad
    have a1:=(TD (ro:=J 0) (fr:={f:=r.f,π,raw:=X,ci,rnd:=X,nt:=r.nt}) n.cfg n.spec ac (λh=>zCN) n.mixed ⟨fn,hfn⟩ F 0 r.body _ o O hbody ai a0).1;have aa:∀i,MI b O.heap W i=.ok N->LW (Gp P C) N.2:=by intro i M;unfold MI at M;simp at M;subst M;exact a1.put λbx T=>by cases T;exact a1 b W a3
    grind
theorem Vr(c:iv P s C)(e:∀f,C.rg f=X->ku P C f)(m:Nat):∀a,EI P (Gp P C) (Kl P C m a)
 |0=>λg args h π raw ci r b=>by simp[Kl]at b|a+1=>λg args h π raw ci r b=>by have i:=Vr c e m a;grind [Kl,AEz,ph]
variable{P:H5}{C:DH}{i:List Hk}
structure Qu:=
 t:gG
 args:List y
 h:S
 π:u
 raw:Bool
 ci:Option u
def ask(K:Ah)(q:Qu):E (BG×S):=K q.t q.args q.h q.π q.raw q.ci
def RZ(K b:Ah)(L:List Qu):Prop:=∀a∈L,∀r,ask K a=.ok r->ask b a=.ok r
variable{K a:Ah}{L:List Qu}
def RZ.left{M:List Qu}(h:RZ K a (L++M)):RZ K a L:=λc b=>h c (Ip _ b)
def RZ.right{M:List Qu}(h:RZ K a (L++M)):RZ K a M:=λc b=>h c (II _ b)
def RY.rg:RY->Prop
 |.err _=>False|_=>True
def hF{b:Type}(K:Ah)(f:Ah->b)(c:b->Prop):Prop:=c (f K)->∃L,∀a,RZ K a L->f a=f K
variable{e:Type}
theorem QY{f:e->Prop}(b:Qu)(j:E (BG×S)->e)(g:∀l,¬f (j (.err l))):hF K (λK=>j (ask K b)) f:=by intro i;refine⟨[b],λa h=>?_⟩;cases c:ask K b with|err l=>grind|ok r=>simp[c,h b AG r c]
def E2{a:e->Prop}(x:e):hF K (λ_=>x) a:=λ_=>⟨[],λ_ _=>rfl⟩
variable{ρ:u}{g:Option Tmp}
def QN(l:u):¬(Fg ρ g st (.err l)).rg:=λh=>h
def gj{as:List y}(l:u):¬(FH fr as g st (.err l)).rg:=λh=>h
def vS(l:u):¬(UA g st (.err l)).rg:=λh=>h
variable{args:List y}
def Vw{a:y}:hF K (λK=>Fe C K fr ρ a args g st) RY.rg:=by
 unfold Fe;cases a with
 |yld b=>simp[Mf];cases st.heap.get b with|none=>exact E2 _|some o=>cases o with|loop r=>exact QY ⟨.round b r,args,st.heap,ρ,X,fr.ci⟩ _ QN|_=>exact E2 _
 |fn f first cap=>
  simp only[CM,E4];split
  .exact QY ⟨.fn f,_,st.heap,ρ,X,fr.ci⟩ _ QN
  .split
   .exact QY ⟨.fn f,_,[],_,Z,I⟩ _ gj
   .simp only[Gu,CM,Cv,Bz];split
    .exact QY ⟨.fn f,_,_,ρ,X,J ρ⟩ _ vS
    .split
     .exact QY ⟨.fn f,_,_,ρ,X,fr.ci⟩ _ QN
     .exact E2 _
 |_=>exact E2 _
def qG{o:G5}:hF K (λK=>DZ C K fr ops ρ o st) RY.rg:=by
 unfold DZ;cases Oa ops st.env o with|none=>exact E2 _|some b=>cases b with
  |false=>exact E2 _
  |true=>
   simp[Jj];split
   .split
    .exact Vw
    .simp[Hh];split
     .split
      .exact Vw
      .exact E2 _
     .exact E2 _
    .exact E2 _
   .exact E2 _
   .exact E2 _
   .exact E2 _
def E.rg{e:Type}:E e->Prop
 |.ok _=>True|.err _=>False
theorem Wa{K:Ah}{fr:Fr}{ops:Array G5}{b:Nat}{alone:Nat->Bool}:∀(l:List G5) (c:Nat) (st:St),hF K (λK=>EF C K fr ops b alone l c st) E.rg
 |[],c,st=>E2 _|o::l,c,st=>by
  intro e;simp[EF]at e⊢;have i:=qG (C:=C) (K:=K) (fr:=fr) (ops:=ops) (ρ:=(b+c)::fr.π) (o:=o) (st:=st);cases f:DZ C K fr ops ((b+c)::fr.π) o st with
  |err j=>simp[f]at e;exact e.elim|of v d8=>have⟨L,hL⟩:=i (by simp[f];trivial);refine⟨L,λa h=>?_⟩;grind
  |ok d8 m=>have⟨L,hL⟩:=i (by simp[f];trivial);simp[f]at e;have k:=Wa (K:=K) (fr:=fr) (ops:=ops) (b:=b) (alone:=alone) l (c+1) d8;cases g:EF C K fr ops b alone l (c+1) d8 with|err j=>simp[g]at e;exact e.elim|ok r=>have⟨M,hM⟩:=k (by simp[g];trivial);refine⟨L++M,λa h=>?_⟩;have n:=hL a h.left;have p:=hM a h.right;grind
theorem Qt:∀(s b:Nat) (c:KH) (st:St),(exec C K fr s b c st).rg->∃L,∀a g,s<=g->RZ K a L->exec C a fr g b c st=exec C K fr s b c st:=by
 intro s;induction s with
 |zero=>grind [exec,E.rg]
 |succ s D=>
  intro b c st e;have up:∀{L:List Qu},(∀a g,s<=g->RZ K a L->exec C a fr (g+1) b c st=exec C K fr (s+1) b c st)->∃L,∀a g,s+1<=g->RZ K a L->exec C a fr g b c st=exec C K fr (s+1) b c st:=by intro L h;refine⟨L,λa g k i=>?_⟩;obtain⟨m,rfl⟩:∃m,g=m+1:=⟨g-1,z⟩;exact h a m z i
  cases c with
  |skip=>exact zCA|label l=>exact zCA|exit B=>exact zCA|ret=>exact zCA|goto l=>simp[exec,E.rg]at e|scope x=>simp[exec]at e;obtain⟨L,A⟩:=D b x st e;exact up (L:=L) λa g k i=>by grind [exec]|refuse=>simp[exec,E.rg]at e
  |seq x n=>
   cases R:O4 C fr.f x with
   |some ad=>exact up (L:=[]) λa g _ _=>by simp[exec,R]
   |none=>
   simp[exec,R]at e;cases w:exec C K fr s b x st with
   |err F=>rw[w]at e;exact e.elim
   |ok r=>rw[w]at e;obtain⟨L,A⟩:=D b x st (by rw[w];trivial);obtain⟨o,W⟩:=r;cases o with|normal=>obtain⟨M,N⟩:=D b n W e;refine up (L:=L++M) λa g k i=>?_;simp[exec,R,A a g k i.left,w,Ep];exact N a g k i.right|exit B=>exact zB3|ret=>exact zB3|of v=>exact zB3
  |cond c x n=>
   simp[exec]at e;cases T:ev st.env.get c with
   |d d=>cases d with
    |bool ac=>rw[T]at e;cases ac with|true=>obtain⟨L,A⟩:=D b x st e;exact up (L:=L) λa g k i=>by grind [exec,NZ]|false=>obtain⟨L,A⟩:=D b n st e;exact up (L:=L) λa g k i=>by grind [exec,NZ]
    |_=>rw[T]at e;exact e.elim
   |_=>rw[T]at e;exact e.elim
  |block B x=>simp[exec]at e;cases w:exec C K fr s B x st with|err F=>rw[w]at e;exact e.elim|ok r=>obtain⟨L,A⟩:=D B x st (by rw[w];trivial);exact up (L:=L) λa g k i=>by grind [exec]
  |loop x=>
   simp[exec]at e;cases w:exec C K fr s b x (Fs C fr b st)with
   |err F=>rw[w]at e;exact e.elim
   |ok r=>rw[w]at e;obtain⟨L,A⟩:=D b x _ (by rw[w];trivial);obtain⟨o,W⟩:=r;cases o with|normal=>obtain⟨M,N⟩:=D b (.loop x) W e;refine up (L:=L++M) λa g k i=>?_;simp[exec,A a g k i.left,w,Ep];exact N a g k i.right|exit B=>exact zBt|ret=>exact zBt|of v=>exact zBt
  |region B ops Y=>simp[exec,EZ]at e;cases aa:EF C K fr ops st.base (λV=> !Y||C.alone fr.f B V) ops.toList 0 st with|err F=>rw[aa]at e;exact e.elim|ok r=>obtain⟨L,A⟩:=Wa (C:=C) (K:=K) (fr:=fr) (ops:=ops) (b:=st.base) (alone:=λV=> !Y||C.alone fr.f B V) ops.toList 0 st (by simp[aa];trivial);refine up (L:=L) λa g k i=>?_;grind [exec,EZ]
  |rangeFunc j t q p=>
   simp only[exec,IJ]at e⊢;cases Q:fr.rnd with
   |true=>rw[Q]at e;exact e.elim
   |false=>
    rw[Q]at e;simp only[K5,Bz,NQ]at e;cases O:ev st.env.get j with
    |fn f first cap=>rw[O]at e;simp only[CM]at e;cases P:K (.fn f) (first++[.yld (0::st.base::fr.π)]++cap) (st.heap.put (0::st.base::fr.π) (.loop {state:=.ready,pend:=I,f:=fr.f,env:=st.env,params:=t.toList,wp:=q,body:=p,nt:=fr.nt})) ((st.base+1)::fr.π) X fr.ci with|err F=>rw[P]at e;exact e.elim|ok r=>refine⟨[⟨.fn f,first++[.yld (0::st.base::fr.π)]++cap,st.heap.put (0::st.base::fr.π) (.loop {state:=.ready,pend:=I,f:=fr.f,env:=st.env,params:=t.toList,wp:=q,body:=p,nt:=fr.nt}),(st.base+1)::fr.π,X,fr.ci⟩],λa g k i=>?_⟩;obtain⟨m,rfl⟩:∃m,g=m+1:=⟨g-1,z⟩;have H:=i _ (AS.2 rfl) r P;unfold ask at H;simp only at H;simp only[exec,IJ,Q,K5,Bz,NQ,O,CM,H,P]
    |_=>rw[O]at e;exact e.elim
def E.good_of{x:E e}{r:e}(h:x=.ok r):x.rg:=by rw[h];trivial
variable{n:Nat}{h:S}{b:u}{raw:Bool}{ci:Option u}
theorem SX{r:BG×S}(e:UD P C K n f args h b raw ci=.ok r):
 ∃L,∀a g,n<=g->RZ K a L->UD P C a g f args h b raw ci=.ok r:=by
 unfold UD at e⊢;rcases j:P.funcs[f]? with _|fn
 .rw[j]at e;cases e
 .rw[j]at e;simp only at e⊢;rcases i:fn.body with _|c
  .rw[i]at e;cases e
  .rw[i]at e;simp only at e⊢;rcases hl:Nat.ble (U args) fn.ntmps with _|_
   .rw[hl]at e;cases e
   .rw[hl]at e;simp only at e⊢;cases k:exec C K {f,π:=b,raw,ci,nt:=fn.ntmps} n 0 c {env:=Ej 0 args,heap:=h,base:=0,defs:=[]}with|err l=>rw[k]at e;cases e|ok p=>have⟨L,hL⟩:=Qt n 0 c _ (E.good_of k);exact⟨L,λa g m o=>by grind⟩
variable{c:Lp}
theorem NG{g:u}{r:BG×S}(e:Jc C K n g c args h b ci=.ok r):
 ∃L,∀a f,n<=f->RZ K a L->Jc C a f g c args h b ci=.ok r:=by
 unfold Jc at e⊢;rcases he:FY c.env c.params args with _|k
 .rw[he]at e;cases e
 .rw[he]at e;simp only at e⊢;cases j:exec C K {f:=c.f,π:=b,raw:=X,ci,rnd:=X,nt:=c.nt} n 0 c.wp {env:=k,heap:=h,base:=0,defs:=[]}with
  |err k=>rw[j]at e;cases e
  |ok x=>
   have⟨L,hL⟩:=Qt n 0 c.wp _ (E.good_of j);rw[j]at e;obtain⟨o,i⟩:=x;have p:∀{r:BG×S},KS C K n g c b ci (.ok (o,i))=.ok r->∃M,∀a f,n<=f->RZ K a M->KS C a f g c b ci (.ok (o,i))=.ok r:=by
    intro r e;cases o with
    |normal=>
     simp[KS]at e⊢;rcases hd:i.defs with _|⟨d,l⟩
     .rcases hw:J4 ci [(g,.box [])]with _|_
      .grind
      .simp[hd,hw]at e⊢;unfold RJ at e⊢;rcases hg:i.heap.get g with _|w
       .grind
       .cases w with
        |loop t=>
         simp only[hg]at e⊢;cases v:t.state with
         |ready=>simp[v]at e⊢;cases s:exec C K {f:=c.f,π:=b,raw:=X,ci,rnd:=X,nt:=c.nt} n 0 c.body {i with heap:=i.heap.put g (.loop {t with state:=.busy})}with|err k=>rw[s]at e;cases e|ok A=>have⟨M,hM⟩:=Qt n 0 c.body _ (E.good_of s);exact⟨M,λa f m q=>by grind⟩
         |_=>grind
        |_=>grind
     .grind
    |_=>simp[KS]at e
   have⟨M,hM⟩:=p e;exact⟨L++M,λa f m q=>by rw[hL a f m q.left,j];exact hM a f m q.right⟩
def RZ.all(h:∀q r,ask K q=.ok r->ask a q=.ok r)(L:List Qu):RZ K a L:=λq _=>h q
def Lo{m B:Nat}(g:m<=B):∀{n e:Nat},n<=e->∀(a:Qu) (r:BG×S),ask (Kl P C m n) a=.ok r->ask (Kl P C B e) a=.ok r
 |0,e,_,a,r,h=>by simp[ask,Kl]at h|n+1,0,hn,_,_,_=>z|n+1,e+1,hn,a,r,h=>by
  have i:=Lo g (Nat.le_of_succ_le_succ hn);obtain⟨j,args,k,b,raw,ci⟩:=a;unfold ask at h⊢;simp[Kl]at h⊢;cases j with
  |fn f=>
   simp only at h⊢;rcases hg:C.rg f with _|_
   .rw[hg]at h;cases h
   .rw[hg]at h;simp only at h⊢;have⟨L,hL⟩:=SX h;exact hL _ _ g (.all i L)
  |round l c=>
   simp only at h⊢;rcases raw with _|_
   .cases h
   .simp only at h⊢;have⟨L,hL⟩:=NG h;exact hL _ _ g (.all i L)
open Classical in
noncomputable def KL(P:H5)(C:DH):Ah:=λt args h b raw ci=>if hx:∃r n,Kl P C n n t args h b raw ci=.ok r then .ok hx.choose else .err []
variable{q:Qu}
theorem AF{r:BG×S}{m:Nat}(h:ask (Kl P C m n) q=.ok r):ask (KL P C) q=.ok r:=by have a:∃r n,Kl P C n n q.t q.args q.h q.π q.raw q.ci=.ok r:=⟨r,max m n,Lo (Nat.le_max_left _ _) (To _ _) q r h⟩;unfold ask KL;rw[dif_pos a];have⟨k,hk⟩:=a.choose_spec;have b:=Lo (P:=P) (C:=C) (Nat.le_max_left m k) (Nat.le_max_left n k) q r h;have c:=Lo (P:=P) (C:=C) (To m k) (To n k) q _ hk;grind
def xn{r:BG×S}(h:ask (KL P C) q=.ok r):∃n,ask (Kl P C n n) q=.ok r:=by
 unfold ask KL at h;split at h
 .rename_i a;have⟨n,hn⟩:=a.choose_spec;simp at h;rw[h]at hn;exact⟨n,hn⟩
 .cases h
def wV(L:List Qu):∃N,∀m n,N<=m->N<=n->RZ (KL P C) (Kl P C m n) L:=by
 induction L with
 |nil=>exact⟨0,λ_ _ _ _ q i=>by cases i⟩
 |cons q L j=>
  obtain⟨N,f⟩:=j;cases c:ask (KL P C) q with
  |err l=>
   refine⟨N,λm n g h e a r b=>?_⟩;rcases DO.1 a with rfl|a
   .rw[c]at b;cases b
   .exact f m n g h e a r b
  |ok o=>
   have⟨k,hk'⟩:=xn c;refine⟨max N k,λm n g h e a r b=>?_⟩;rcases DO.1 a with rfl|a
   .rw[c]at b;cases b;exact Lo z z _ _ hk'
   .exact f m n z z e a r b
theorem uh(c:C.rg f=X){r:BG×S}(a:UD P C (KL P C) n f args h b raw ci=.ok r):
 KL P C (.fn f) args h b raw ci=.ok r:=by
 have⟨L,hL⟩:=SX a;have⟨N,hN⟩:=wV (P:=P) (C:=C) L;refine AF (q:=⟨.fn f,args,h,b,raw,ci⟩) (m:=max N n) (n:=max N n+1) ?_;grind [ask,Kl]
theorem jA{a:u}{r:BG×S}(e:Jc C (KL P C) n a c args h b ci=.ok r):
 KL P C (.round a c) args h b X ci=.ok r:=by
 have⟨L,hL⟩:=NG e;have⟨N,hN⟩:=wV (P:=P) (C:=C) L;refine AF (q:=⟨.round a c,args,h,b,X,ci⟩) (m:=max N n) (n:=max N n+1) ?_;grind [ask,Kl]
def ADF(c:iv P i C)(e:∀f,C.rg f=X->ku P C f):EI P (Gp P C) (KL P C):=by intro a args h b raw ci r g;have⟨n,hn⟩:=xn (q:=⟨a,args,h,b,raw,ci⟩) g;exact Vr c e n n a args h b raw ci r hn
