/- Parts of it. -/
import Derived.LoopNIn
import Derived.Test.YtbinfhpngacfgaaGreatDo5
set_option linter.all false
namespace Go
theorem zEz{p:Prop}(h:p:=by simpa using h2):p:=h
theorem zFV{p:Prop}(h:p:=by rw[p];exact n):p:=h
end Go
namespace Go
theorem zBW{p:Prop}(h:p:=by
 obtain⟨a,k,s,m⟩:=post;have I:p=none:=by
  rcases N with⟨h2,j⟩|⟨h2,j⟩|⟨v,h2,j⟩
  .exact j
  .exact j
  .rw[a]at h2;cases h2
 subst I;exact go s m rfl):p:=h
theorem zBn{p:Prop}(h:p:=by simp only[EF,E.ok.injEq,GC]at f;exact plain AG (stop f (by rw[←f.1];simp))):p:=h
theorem zBx{p:Prop}(h:p:=by simp only[Hv,E.ok.injEq,GC]at f;exact⟨f.2,.inr ⟨AG,f.1.symm⟩⟩):p:=h
theorem zB0{p:Prop}(h:p:=by exact up (L:=L) fun K' n' k j=>by simp only[Bm,MB,q K' n' k j,p,EF]):p:=h
theorem zB6{p:Prop}(h:p:=by simp only[EF,E.ok.injEq,GC]at f;exact stop f (by rw[←f.1];simp)):p:=h
theorem zB8{p:Prop}(h:p:=by exact up (L:=L) fun K' n' k j=>by simp only[Bm,q K' n' k j,p,EF]):p:=h
theorem zCN{p:Prop}(h:p:=by obtain⟨c,elem,j,h2,g,m,n,q,s⟩:=h;exact⟨c,elem,A j AG,h2,g,m,n,q,fun i x v a b=>(s i x v a b).other u⟩):p:=h
theorem zCh{p:Prop}(h:p:=by obtain⟨h,_⟩:=p;cases h):p:=h
theorem zCo{p:Prop}(h:p:=by obtain⟨b,c,a,i⟩:=p;exact⟨b,c,g.trans a,i⟩):p:=h
theorem zC1{p:Prop}(h:p:=by exact up (L:=[]) fun _ _ _ _=>rfl):p:=h
theorem zC4{p:Prop}(h:p:=by exact⟨_,c,g,j,up AG i⟩):p:=h
theorem zDj{p:Prop}(h:p:=by exact up (L:=L) fun K' n' k j=>by simp only[Bm,u,Lb,q K' n' k j]):p:=h
theorem zEF{p:Prop}(h:p:=by simp only[E.ok.injEq,GC]at b;exact⟨b.1.symm,b.2.symm⟩):p:=h
theorem zEP{p:Prop}(h:p:=by exact⟨_,m,o,i,.of_steps j g⟩):p:=h
theorem zEQ{p:Prop}(h:p:=by obtain⟨v,V,O,h,_⟩:=p;cases h):p:=h
end Go
namespace Go.Abs
variable{P:Program}{f:FuncId}{ro:Option Nat}{Q Q':Exit→Act→World→Prop}{a:Act}{w:World}
abbrev qW(P:Program):Machine→Prop:=Machine.fenced P Fence.wide
def Cf(P:Program)(f:FuncId)(ro:Option Nat)(c:Code)(Q:Exit→Act→World→Prop)(a:Act)(w:World):Prop:=
 ∀(b:Frame) (k:List Item) (cs:List Frame),b.roundOf=ro→b.fn=f→
  ∃e a' w',Q e a' w'∧ArrivesIn (qW P) P (lone (b.atR a (.code c::k)) cs w) b k cs e a' w'
variable{m m':Machine}
theorem one(h:step P m=.next m'):StepsIn (qW P) P m m':=.one (fenced_wide P m) h
theorem head{a:Machine}(h:step P m=.next a)(h':StepsIn (qW P) P a m'):StepsIn (qW P) P m m':=.head (fenced_wide P m) h h'
variable{c:Code}
theorem Cf.mono(h:Cf P f ro c Q a w)(i: ∀e a w,Q e a w→Q' e a w):Cf P f ro c Q' a w:=
 fun b k cs g h2=>let ⟨e,a',w',q,r⟩:=h b k cs g h2;⟨e,a',w',i _ _ _ q,r⟩
theorem Cf.of_wp(h:c.wpIn (FF ro) 0 P Q a w):Cf P f ro c Q a w:=
 fun b k cs e _=>h b k cs e trivial fun _ g=>(by cases g)
theorem Cf.skip(h:Q .normal a w):Cf P f ro .skip Q a w:=fun _ _ _ _ _=>⟨.normal,a,w,h,one stepR_skip⟩
theorem Cf.label{l:Nat}(h:Q .normal a w):Cf P f ro (.label l) Q a w:=fun _ _ _ _ _=>⟨.normal,a,w,h,one stepR_label⟩
theorem Cf.exit{id:Nat}(h:Q (.exit id) a w):Cf P f ro (.exit id) Q a w:=
 fun _ k _ _ _=>⟨.exit id,a,w,h,fun _ b=>one (stepR_exit b),fun _ b=>⟨k,b,.refl _⟩⟩
theorem Cf.ret(h:Q .ret a w):Cf P f ro .ret Q a w:=
 fun _ k _ _ _=>⟨.ret,a,w,h,fun b=>⟨_,one (stepR_ret b)⟩,fun _=>⟨k,.refl _⟩⟩
theorem Cf.seq{x y:Code}(h:Cf P f ro x (Exit.then (Cf P f ro y Q) Q) a w):Cf P f ro (.seq x y) Q a w:=by
 intro b k cs m h2;obtain⟨e,c,g,j,i⟩:=h b (.code y::k) cs m h2;have n:StepsIn (qW P) P (lone (b.atR a (.code (.seq x y)::k)) cs w) (lone (b.atR a (.code x:: .code y::k)) cs w):=one stepR_seq;have up: ∀{e},e≠Exit.normal→ArrivesIn (qW P) P (lone (b.atR a (.code x:: .code y::k)) cs w) b (.code y::k) cs e c g→ArrivesIn (qW P) P (lone (b.atR a (.code (.seq x y)::k)) cs w) b k cs e c g:=
  fun r h=>.of_steps n (.pass (x:=.code y) rfl (fun _ _=>.inl r) h)
 cases e with
 |normal=>
  obtain⟨p,o,t,s,q⟩:=j b k cs m h2;exact⟨p,o,t,s,.of_steps (n.trans i) q⟩
 |exit id=>exact zC4
 |goto l=>exact zC4
 |ret=>exact zC4
 |panic ch=>exact zC4
 |outgrown=>exact zC4
theorem Cf.cond{c:Operand}{x y:Code}{t:Bool}(i:a.eval c=.bool t)(h:Cf P f ro (if t then x else y) Q a w):Cf P f ro (.cond c x y) Q a w:=
 fun b k cs g h2=>let ⟨e,a',w',q,r⟩:=h b k cs g h2;⟨e,a',w',q,.of_steps (one (stepR_cond i)) r⟩
theorem Cf.block{id:Nat}(h:Cf P f ro c (Exit.inBlock id Q) a w):Cf P f ro (.block id c) Q a w:=by
 intro b k cs u h2;have j:StepsIn (qW P) P (lone (b.atR a (.code (.block id c)::k)) cs w) (lone (b.atR a (.code c:: .inBlock id::k)) cs w):=one stepR_block;obtain⟨e,m,o,i,g⟩:=h b (.inBlock id::k) cs u h2;cases e with
 |normal=>exact⟨.normal,m,o,i,j.trans (StepsIn.trans g (one stepR_inBlock))⟩
 |exit q=>
  by_cases r:q=id
  .simp only[Exit.inBlock,r,F7]at i;exact⟨.normal,m,o,i,j.trans (g.1 k (by simp[exitTo,r]))⟩
  .simp only[Exit.inBlock,r,FD]at i;have v:(id==q)=false:=by simp;exact fun h=>r h.symm
   have p:exitTo q (.inBlock id::k)=exitTo q k:=by simp[exitTo,v]
   exact⟨.exit q,m,o,i,fun t n=>j.trans (g.1 t zFV),
    fun s n=>let ⟨k1,g1,g2⟩:=g.2 s zFV;⟨k1,g1,j.trans g2⟩⟩
 |goto l=>
  have p:gotoIn l (.inBlock id::k)=gotoIn l k:=by simp[gotoIn]
  exact⟨_,m,o,i,fun t n=>j.trans (g.1 t zFV),
   fun s n=>let ⟨k1,g1,g2⟩:=g.2 s zFV;⟨k1,g1,j.trans g2⟩⟩
 |ret=>exact zEP
 |panic ch=>exact zEP
 |outgrown=>exact zEP
def G9(P:Program)(f:FuncId)(ro:Option Nat)(c:Code)(Q:Exit→Act→World→Prop):Nat→Act→World→Prop
 |0,_,_=>False
 |m+1,a,w=>Cf P f ro c (Exit.then (G9 P f ro c Q m) Q) a w
theorem Cf.loop(m:Nat)(h:G9 P f ro c Q m a w):Cf P f ro (.loop c) Q a w:=by
 intro b k cs r h2;have key: ∀m a w,G9 P f ro c Q m a w→ ∃e i w',Q e i w'∧ArrivesIn (qW P) P (lone (b.atR a (.code c:: .inLoop c::k)) cs w) b k cs e i w':=by
  intro m;induction m with
  |zero=>intro a w h;exact h.elim
  |succ m v=>
   intro a w h;obtain⟨e,n,o,g,j⟩:=h b (.inLoop c::k) cs r h2;have up:e≠Exit.normal→Q e n o→ ∃e i w',Q e i w'∧ArrivesIn (qW P) P (lone (b.atR a (.code c:: .inLoop c::k)) cs w) b k cs e i w':=
    fun t g=>⟨e,n,o,g,.pass (x:=.inLoop c) rfl (fun _ _=>.inl t) j⟩
   cases e with
   |normal=>
    obtain⟨q,p,y,u,s⟩:=v n o g;exact⟨q,p,y,u,.of_steps (StepsIn.trans j (one stepR_inLoop)) s⟩
   |exit id=>exact up AG g
   |goto l=>exact up AG g
   |ret=>exact up AG g
   |panic ch=>exact up AG g
   |outgrown=>exact up AG g
 obtain⟨e,i,w',g,j⟩:=key m a w h;exact⟨e,i,w',g,.of_steps (one stepR_loop) j⟩
variable{ps:Array Tmp}{pm body:Code}
theorem Cf.range{g:Operand}{l:Nat}{mark:List Deferred}{x z y:World}{d:Deferred}{fn:FuncId}{args:Array Value}
 (p:(Instr.enterLoop f a.tmps ps pm body ro).run P w=.ok (l,mark) x) (I:(resolve a.eval (rangeCall g l) 0).run P x=.ok d y)
 (F:(invoke d.target d.args).run P y=.ok (.enter fn args) z)
 (C:Calls P fn args z fun e j=>match e with
  |.returned _=> ∃i h,(Instr.endLoop l).run P j=.ok i h∧(match i with
   |none=>Q .normal {a with defers:=mark++a.defers} h
   |some c=>Cf P f ro c Q {a with defers:=mark++a.defers} h)
  |.panicked chain=>Q (.panic chain) {a with defers:=mark++a.defers} j
  |.outgrown=>False):Cf P f ro (.rangeFunc g ps pm body) Q a w:=by
 intro b k cs o h2;rw[←o,←h2]at p;have q:=stepR_rangeFunc (P:=P) (b:=b) (a:=a) (k:=k) (cs:=cs) (w:=w) p I F;obtain⟨e,j,fr,m,t,K,s⟩:=(callsIn_wide (n:=0).2 C).2 (b.atR {a with defers:=mark++a.defers} (.inRangeFunc l::k)::cs) (room_wide _)
 cases e with
 |outgrown=>exact m.elim
 |returned v=>
  obtain⟨i,h,D,r⟩:=m;have u:StepsIn (qW P) P (lone (b.atR a (.code (.rangeFunc g ps pm body)::k)) cs w) (lone (b.atR {a with defers:=mark++a.defers} ((i.map Item.code).toList++k)) cs h):=by
   refine head q (StepsIn.trans t (head ?_ (one (stepR_endRangeFunc D))));rw[←finish_atR_inRangeFunc l v];exact step_leave_returned s
  cases i with
  |none=>exact⟨.normal,_,h,r,u⟩
  |some c=>
   obtain⟨e',A,J,H,B⟩:=r b k cs o h2;exact⟨e',A,J,H,.of_steps u B⟩
 |panicked chain=>
  refine⟨.panic chain,_,j,m,.inRangeFunc l::k,head q (StepsIn.trans t (one ?_))⟩;rw[←Frame.raise_atR];exact step_leave_panicked s
variable{fn:Func}{R:Ending→World→Prop}
theorem VQ{args:Array Value}(q:P.funcs[f]? =some fn)(u:fn.body=some c)
 (h:Cf P f none c (bodyPostM Fence.wide 0 P fn R) {tmps:=args++Array.replicate (fn.ntmps-args.size) undef,defers:=[]} w):Calls P f args w R:=by
 refine callsIn_wide (n:=0).1 ⟨trivial,fun cs r=>?_⟩
 let b:Frame:={(default:Frame)with fn:=f,kind:=.normal,roundOf:=none}
 have v:Frame.enter P f args .normal=b.atR {tmps:=args++Array.replicate (fn.ntmps-args.size) undef,defers:=[]} [.code c]:=by
  simp[Frame.enter,Frame.atR,q,u,b]
 obtain⟨e,a,w',g,k⟩:=h b [] cs rfl rfl;rw[←v]at k;cases e with
 |normal=>
  obtain⟨e',w'',i,j,p,m,o⟩:=leaves_stepsInM a.defers .returning w' {b.atR a []with mode:=.returning} cs rfl rfl rfl q rfl trivial r g
  exact⟨e',w'',i,j,ComesIn.of_steps (StepsIn.trans k (one (stepR_end rfl))) p,m,o⟩
 |ret=>
  obtain⟨t,s⟩:=k.1 rfl;obtain⟨e',w'',i,j,p,m,o⟩:=leaves_stepsInM a.defers .returning w' {b.atR a t with mode:=.returning} cs rfl rfl rfl q rfl trivial r g
  exact⟨e',w'',i,j,ComesIn.of_steps s p,m,o⟩
 |panic chain=>
  obtain⟨t,s⟩:=k;obtain⟨e',w'',i,j,p,m,o⟩:=leaves_stepsInM a.defers (.panicking chain) w' {b.atR a t with mode:=.panicking chain} cs rfl rfl rfl q rfl trivial r g
  exact⟨e',w'',i,j,ComesIn.of_steps s p,m,o⟩
 |exit id=>exact g.elim
 |goto l=>exact g.elim
 |outgrown=>exact⟨.outgrown,w',b,g,k.resolve_left zE7,rfl,trivial⟩
def qu(P:Program)(l:Nat)(R:Ending→World→Prop):Exit→Act→World→Prop
 |.normal,_,w=> ∃v w',(Instr.endRound l none).run P w=.ok v w'∧R (.returned v) w'
 |.ret,_,w=> ∃v w',(Instr.endRound l (some .ret)).run P w=.ok v w'∧R (.returned v) w'
 |.exit id,_,w=> ∃v w',(Instr.endRound l (some (.exit id))).run P w=.ok v w'∧R (.returned v) w'
 |.panic chain,a,w=>a.defers=[]∧R (.panicked chain) w
 |_,_,_=>False
variable{tmps:Array Value}
theorem Vf{l:Nat}(B:P.funcs[f]? =some fn)
 (h:Cf P f (some l) pm (Exit.then (fun n r=> ∃q,(Instr.beginRound l).run P r=.ok () q∧Cf P f (some l) body (qu P l R) n q) (fun _ _ _=>False)) {tmps:=tmps,defers:=[]} w):
 RoundIn Fence.wide 0 P l f tmps pm body w R:=by
 refine⟨trivial,fun c cs _=>?_⟩
 let b:Frame:={(default:Frame)with fn:=f,kind:=.normal,roundOf:=some l}
 have x:Frame.round l f tmps pm body .normal=b.atR {tmps:=tmps,defers:=[]} [.code pm,.beginRound,.code body]:=by
  simp[Frame.round,Frame.atR,b]
 obtain⟨e,n,r,g,s⟩:=h b [.beginRound,.code body] (c::cs) rfl rfl;rw[←x]at s;cases e with
 |normal=>
  obtain⟨q,z,y⟩:=g;have F:StepsIn (qW P) P (lone (b.atR n [.beginRound,.code body]) (c::cs) r) (lone (b.atR n [.code body]) (c::cs) q):=one (stepR_beginRound rfl z);have p:=StepsIn.trans s F;obtain⟨u,I,H,i,o⟩:=y b [] (c::cs) rfl rfl;cases u with
  |normal=>
   obtain⟨v,m,j,a⟩:=i;exact⟨.returned v,m,a,p.trans (StepsIn.trans o (one (stepR_round_end rfl rfl j)))⟩
  |ret=>
   obtain⟨v,m,j,a⟩:=i;obtain⟨D,k⟩:=o.2 rfl;exact⟨.returned v,m,a,p.trans (StepsIn.trans k (one (stepR_round_ret rfl rfl j)))⟩
  |exit id=>
   obtain⟨v,m,j,a⟩:=i;obtain⟨D,C,k⟩:=o.2 rfl rfl;exact⟨.returned v,m,a,p.trans (StepsIn.trans k (one (stepR_round_exit rfl rfl C j)))⟩
  |panic chain=>
   obtain⟨A,a⟩:=i;obtain⟨J,k⟩:=o;refine⟨.panicked chain,H,a,p.trans (StepsIn.trans k (one ?_))⟩;exact step_leave_panicked ⟨rfl,A,fn,B⟩
  |goto t=>exact i.elim
  |outgrown=>exact i.elim
 |exit id=>exact g.elim
 |goto t=>exact g.elim
 |ret=>exact g.elim
 |panic chain=>exact g.elim
 |outgrown=>exact g.elim
variable{A:Nat→Prop}{P:Program}{mix:List TypeId}{β β' β'':BH}{w w' w'':World}{h h' h'':AD}{π ρ:List Nat}{ci:Option (List Nat)}{nt:NT}{a:Act}{ro:Option Nat}
def Ee(C:DD)(f:FuncId)(nt:Nat):Code→Bool
 |.region id ops draw=>ops.toList.all (fun o=>match o.dst with|some d=>Nat.blt d nt|none=>true)&&(!draw||vh ops (C.d9 f id) (C.alone f id))
 |.seq x y=>Ee C f nt x&&Ee C f nt y
 |.cond _ x y=>Ee C f nt x&&Ee C f nt y
 |.block _ x=>Ee C f nt x
 |.loop x=>Ee C f nt x
 |.rangeFunc _ ps pm body=>ps.toList.all (fun d=>Nat.blt d nt)&&Ee C f nt pm&&Ee C f nt body
 |_=>true
def G2(P:Program)(C:DD)(r:Lp):Prop:=
 (∃fn,P.funcs[r.f]? =some fn)∧Ee C r.f r.nt r.pm=true∧Ee C r.f r.nt r.body=true∧ ∀t∈r.params,t<r.nt
structure Si(A:Nat→Prop)(fr:Fr)(nt:NT)(β:BH)(w:World)(st:St)(a:Act):Prop where
 hr:HR A β w st.heap
 s:Mb A β w nt st.env.get st.defs st.heap a
 fresh:Cr β fr.π st.base
 own:fr.raw=false→ ∀id,β id≠none→fr.π<:+id
 lb:nt.lb≤w.heap.size
variable{fr:Fr}
theorem Uk(b:fr.raw=false→ ∀id,β id≠none→fr.π<:+id)(g:CL A ci fr.π β w h β' w' h'):fr.raw=false→ ∀id,β' id≠none→fr.π<:+id:=by
 intro c id a;by_cases e:fr.π<:+id
 .exact e
 .rw[g.out id e]at a;exact b c id a
def KB(A:Nat→Prop)(fr:Fr)(nt:NT)(β:BH)(w:World)(h:AD)(o:Ea)(st':St):Exit→Act→World→Prop
 |.normal,a',w'=>o=.normal∧ ∃β',CL A fr.ci fr.π β w h β' w' st'.heap∧Si A fr nt β' w' st' a'
 |.exit id,a',w'=>o=.exit id∧ ∃β',CL A fr.ci fr.π β w h β' w' st'.heap∧Si A fr nt β' w' st' a'
 |.ret,a',w'=>o=.ret∧ ∃β',CL A fr.ci fr.π β w h β' w' st'.heap∧Si A fr nt β' w' st' a'
 |.panic chain,a',w'=> ∃v u β',o=.ge v∧chain=[{v:=u,recovered:=false}]∧CL A fr.ci fr.π β w h β' w' st'.heap∧Si A fr nt β' w' st' a'∧VR β' w' (MS A β' st'.heap) v u
 |_,_,_=>False
variable{st':St}
theorem KB.trans{o:Ea}{e:Exit}{f:Act}(g:CL A fr.ci fr.π β w h β' w' h')(p:KB A fr nt β' w' h' o st' e f w''):KB A fr nt β w h o st' e f w'':=by
 cases e with
 |normal=>exact zCo
 |exit id=>exact zCo
 |ret=>exact zCo
 |panic chain=>obtain⟨v,k,c,b,h2,a,i,j⟩:=p;exact⟨v,k,c,b,h2,g.trans a,i,j⟩
 |_=>exact p.elim
variable{C:DD}{K:Ab}{fr:Fr}
def hG:Option AV→Ea
 |none=>.normal
 |some v=>.ge v
variable{b:Nat}
theorem SS{out:Option AV}(i:fr.raw=false→ ∀id,β id≠none→fr.π<:+id)(f:nt.lb≤w.heap.size)(e:Exit)(a:Act)(w':World)(p:ZF A fr.ci fr.π nt β w h out st' b e a w'):
 KB A fr nt β w h (hG out) {st' with base:=b} e a w':=by
 have c: ∀{β':BH},V3 A fr.ci fr.π nt β w h st' b β' a w'→Si A fr nt β' w' {st' with base:=b} a:=fun L=>
  ⟨L.qr.hr,L.s,L.fresh,Uk i L.qr,IP f L.qr.it.size⟩
 cases e with
 |normal=>
  obtain⟨rfl,β',L⟩:=p;exact⟨rfl,β',L.qr,c L⟩
 |panic chain=>
  obtain⟨v,j,β',rfl,h2,L,g⟩:=p;exact⟨v,j,β',rfl,h2,L.qr,c L,g⟩
 |_=>exact p.elim
variable{ops:Array Oper}{st:St}
theorem pn(j:Mi P mix C)(l:Dv P (G2 P C) K)(q:fr.rnd=false→ro=none)(y:P.follows .mixedOrders=true){id:Nat}{f:Bool}{o:Ea}
 (n:Ee C fr.f fr.nt (.region id ops f)=true) (b:E5 C K fr id ops f st=.ok (o,st')) (k:LW (G2 P C) st.heap):
 LW (G2 P C) st'.heap∧ ∀(A:Nat→Prop) (nt:NT) (β:BH) (w:World) (a:Act),nt.n=fr.nt→Si A fr nt β w st a→Cf P fr.f ro (.region id ops f) (KB A fr nt β w st.heap o st') a w:=by
 simp only[Ee,AP,D4,I8,HW]at n;obtain⟨u,D⟩:=n;have m: ∀{nt:NT},nt.n=fr.nt→ ∀o∈ops,∀d,o.dst=some d→d<nt.n:=by
  intro nt c o z d B;have:=u o (by simpa using z);rw[B]at this;rw[c];simpa[UL]using this
 unfold E5 at b;cases g:Dk C K fr ops st.base (fun i=> !f||C.alone fr.f id i) ops.toList 0 st with
 |err e=>rw[g]at b;cases b
 |ok r=>
  rw[g]at b;obtain⟨⟨out,s⟩,t⟩:=r;simp only[Lo]at b;split at b
  .rename_i p;have x:o=hG out∧st'={s with base:=st.base+ops.size}:=by
    simp only[Iv]at b;cases out with
    |none=>exact zEF
    |some v=>exact zEF
   obtain⟨rfl,rfl⟩:=x;cases f with
   |false=>
    have key:=fun(nt:NT) (c:nt.n=fr.nt)=>gZ (nt:=nt) (ro:=ro) j l q (m c) ops.toList 0 st s t out (IT _) rfl k g;refine⟨(key ⟨fr.nt,0⟩ rfl).2.1,fun A nt β w a c i=>?_⟩;have h:=(key nt c).2.2 A β w a i.hr i.s i.fresh;refine .of_wp (wpIn_region ?_);rw[List.range_eq_range'];refine MY (SS i.own i.lb) ?_;simpa using h
   |true=>
    simp only[PI,I4]at p g;have F:=iV (D.resolve_left AG);have key:=fun(nt:NT) (c:nt.n=fr.nt)=>xv (nt:=nt) (ro:=ro) (id:=id) j l q y F (m c) k g p;refine⟨(key ⟨fr.nt,0⟩ rfl).2.1,fun A nt β w a c i=>?_⟩;have h:=(key nt c).2.2 A β w a i.hr i.s i.fresh;exact .of_wp (wpIn_mono h (SS i.own i.lb))
  .cases b
variable{k:Nat}{l:Loop}
theorem NI(h:w.heap[k]? =some (.loop l)):(Instr.getLoop k).run P w=.ok l w:=by
 simp[Instr.getLoop,KN h AG]
theorem Z0(h:w.heap[k]? =some (.loop l))(a:l.state≠ .busy):
 (Instr.endLoop k).run P w=.ok l.pending (World.ip w k (.loop {l with state:=.exhausted})):=by
 simp[Instr.endLoop,NI h,a,Ig (P:=P) h AG]
theorem Om{fn:FuncId}:
 (Instr.enterLoop fn tmps ps pm body none).run P w=.ok (w.heap.size+1,[{target:=.collected w.heap.size,args:= #[]}])
  (World.add (World.add w (.deferred (some []))) (.loop {state:=.ready,pending:=none,fn,tmps,params:=ps,assign:=pm,body,defers:=w.heap.size})):=by
 simp[Instr.enterLoop];rfl
variable{o:Obj}
theorem nN{id:Id}{k:Sl}{x:Go.Obj}(H:HR A β w h)(n:h.get id=some o)(m:o.mut=true)(j:β id=some k)(C:π<:+id)(l: ∀c o',h'.get c=some o'→h.get c=some o'∧c≠id)
 (D: ∀c,¬π<:+c→h'.get c=h.get c):CL A ci π β w h β (World.ip w k.b x) h':=by
 have J: ∀b,MS A β h' b→MS A β h b:=by
  rintro b (f|⟨c,o',g,u,h2,v,y⟩)
  .exact .inl f
  .exact .inr ⟨c,o',g,(l c o' u).1,h2,v,y⟩
 have r:Ez A (MS A β h) w (MS A β h') (World.ip w k.b x):=
  ⟨fun b _ f=>Ff x fun e=>f.elim (fun f=>f (.inr ⟨id,o,k,n,m,j,e.symm⟩)) (fun f=>H.out id o k n m j (e▸f)),by rw[Fq];omega,fun b f=>.inl (J b f),rfl,rfl⟩
 refine⟨fun _ _=>rfl,⟨fun c o' p=>?_,fun a b N O L M z f=>H.inj a b N O L M (l _ _ z).1 (l _ _ f).1,fun c g i=>by rw[Fq];exact H.bnd c g i,
  fun c o' g p=>H.out c o' g (l _ _ p).1,fun b f=>by rw[Fq];exact H.abnd b f⟩,r,fun P s _=>⟨fun b _ K=>Ff x fun e=>K ⟨id,k,s.trans C,j,e.symm⟩,fun _ f=>.inl f,fun c B=>D c fun F=>B (s.trans F)⟩⟩
 obtain⟨g1,t⟩:=l c o' p;obtain⟨g,i,I⟩:=H.obj c o' g1;by_cases e:g.b=k.b
 .cases q:o'.mut with
  |true=>exact absurd (H.inj c id o' o g k g1 n q m i j e) t
  |false=>
   cases o' with
   |i7 sz es=>exact⟨g,i,.inl (H.i7 n m j g1 i e)⟩
   |_=>simp[Obj.mut]at q
 .exact⟨g,i,I.mono (.refl β) r (H.bnd c g i) (Ff x e)⟩
variable{A:Nat→Prop}{P:Program}{mix:List TypeId}{β β' β'':BH}{w w' w'':World}{h h' h'':AD}{π ρ:List Nat}{ci:Option (List Nat)}{nt:NT}{a:Act}{ro:Option Nat}
variable{C:DD}{K:Ab}{fr:Fr}
theorem a8{b:Nat}{π:List Nat}{h:AD}:
 (∀id o,(gc (b::π) (gc ((b+1)::π) h)).get id=some o→h.get id=some o∧id≠0::b::π)∧ ∀id,¬π<:+id→(gc (b::π) (gc ((b+1)::π) h)).get id=h.get id:=by
 refine⟨fun id o a=>⟨N8 (N8 a),fun e=>?_⟩,fun id c=>?_⟩
 .subst e;have e:gc (b::π) (gc ((b+1)::π) h)=(gc ((b+1)::π) h).filter fun p=>MG (b::π) p.1:=rfl;rw[e,Ts (MG (b::π))]at a;have:MG (b::π) (0::b::π)=false:=by
   simp only[MG,Bool.not_eq_false'];exact(Id.under_iff _ _).2 (List.suffix_refl _)
  rw[this]at a;simp at a
 .rcases YR (ρ:=b::π) (gc ((b+1)::π) h) id with e|⟨_,e⟩
  .rw[e];rcases YR (ρ:=(b+1)::π) h id with e|⟨_,e⟩
   .exact e
   .exact absurd ((F5 _ _).trans e) c
  .exact absurd ((F5 _ _).trans e) c
theorem Wg(H:HR A β w h)(c: ∀id o,h'.get id=some o→h.get id=some o)(j: ∀id,¬π<:+id→h'.get id=h.get id):CL A ci π β w h β w h':=by
 refine⟨fun _ _=>rfl,H.less c,⟨fun _ _ _=>rfl,Es _,fun b a=>?_,rfl,rfl⟩,fun n m _=>⟨fun _ _ _=>rfl,fun _ a=>.inl a,fun id i=>j id fun l=>i (m.trans l)⟩⟩;rcases a with a|⟨id,o,k,e,h2,f,g⟩
 .exact .inl (.inl a)
 .exact .inl (.inr ⟨id,o,k,c id o e,h2,f,g⟩)
variable{W:Lp→Prop}
theorem LW.put{id:Id}(b:LW W h)(c: ∀r,o=.loop r→W r):LW W (h.put id o):=fun e r a=>by
 rw[AD.get_put]at a;split at a
 .exact c r (Is a)
 .exact b e r a
theorem vU(b8:Dv P (G2 P C) K)(c':fr.rnd=false→ro=none){g:Operand}{ps:Array Tmp}{pm body:Code}{st st':St}{o:Ea}(cl: ∃fn,P.funcs[fr.f]? =some fn)
 (bs:Ee C fr.f fr.nt (.rangeFunc g ps pm body)=true) (m:HV K fr g ps pm body st=.ok (o,st')) (b7:LW (G2 P C) st.heap):
 LW (G2 P C) st'.heap∧ ∀(A:Nat→Prop) (nt:NT) (β:BH) (w:World) (a:Act),nt.n=fr.nt→Si A fr nt β w st a→Cf P fr.f ro (.rangeFunc g ps pm body) (KB A fr nt β w st.heap o st') a w:=by
 simp only[Ee,AP,D4]at bs;obtain⟨⟨c7,b'⟩,cc⟩:=bs;unfold HV at m;split at m
 .cases m
 .rename_i c9;have dd:=c' c9;subst dd;simp only[Iv,A9]at m;generalize bl:({state:=.ready,wl:=none,f:=fr.f,env:=st.env,params:=ps.toList,pm:=pm,body:=body,nt:=fr.nt}:Lp)=lp at m;have dm:G2 P C lp:=by
   subst bl;exact⟨cl,b',cc,fun t df=>by simpa[UL]using c7 t df⟩
  have ar:LW (G2 P C) (st.heap.put (0::st.base::fr.π) (.loop lp)):=b7.put fun r m=>by cases m;exact dm
  unfold LP at m;split at m
  case h_2=>simp[KU]at m
  rename_i f first cap cn
  simp only[Bk]at m;cases ai:K (.fn f) (first++[.ws (0::st.base::fr.π)]++cap) (st.heap.put (0::st.base::fr.π) (.loop lp)) ((st.base+1)::fr.π) true fr.ci with
  |err e=>rw[ai]at m;cases m
  |ok r=>
   rw[ai]at m;have W:=b8 _ _ _ _ _ _ _ ai;have av:LW (G2 P C) (gc (st.base::fr.π) (gc ((st.base+1)::fr.π) r.2)):=(W.lw (fun _ _ h=>by cases h) ar).gc.gc;have a':=W.ent f rfl;have start: ∀(A:Nat→Prop) (nt:NT) (β:BH) (w:World) (a:Act),nt.n=fr.nt→Si A fr nt β w st a→
      let l:Loop:={state:=.ready,pending:=none,fn:=fr.f,tmps:=a.tmps,params:=ps,assign:=pm,body:=body,defers:=w.heap.size}
      let s:=World.add (World.add w (.deferred (some []))) (.loop l)
      let I:Act:={a with defers:=[{target:=.collected w.heap.size,args:= #[]}]++a.defers}
      ∃q:BH,q (0::st.base::fr.π)=some ⟨w.heap.size+1,0,0⟩∧CL A fr.ci fr.π β w st.heap q s (st.heap.put (0::st.base::fr.π) (.loop lp))∧
       Mb A q s nt st.env.get (.mark (0::st.base::fr.π)::st.defs) (st.heap.put (0::st.base::fr.π) (.loop lp)) I∧GA q ((st.base+1)::fr.π)∧Cr q fr.π (st.base+1)∧
       ∀{y u:Array Value},HL β w (MS A β st.heap) first y→HL β w (MS A β st.heap) cap u→
        HL q s (MS A q (st.heap.put (0::st.base::fr.π) (.loop lp))) (first++[.ws (0::st.base::fr.π)]++cap) (y++ #[.func (.yield (w.heap.size+1)) #[] #[]]++u):=by
    intro A nt β w a R i l s I;have bo:β (0::st.base::fr.π)=none:=i.fresh st.base (Es _) _ (F5 _ _);have a5:=i.hr.add' (.deferred (some []));have a1:(World.add w (.deferred (some []))).heap.size=w.heap.size+1:=KC _ _;have c5:Ez A (MS A β st.heap) w (MS A β st.heap) (World.add w (.deferred (some []))):=Rh _ _;have c4:Ez A (MS A β st.heap) (World.add w (.deferred (some []))) (MS A (β.put (0::st.base::fr.π) ⟨w.heap.size+1,0,0⟩) (st.heap.put (0::st.base::fr.π) (.loop lp))) s:=
     Uu a5 _ (k:=⟨w.heap.size+1,0,0⟩) a1.symm
    have B:=c5.trans c4;have Q:Le β (β.put (0::st.base::fr.π) ⟨w.heap.size+1,0,0⟩):=PB bo;have b2:HR A (β.put (0::st.base::fr.π) ⟨w.heap.size+1,0,0⟩) s (st.heap.put (0::st.base::fr.π) (.loop lp)):=by
     refine a5.add bo (k:=⟨w.heap.size+1,0,0⟩) a1.symm ?_;subst bl;refine⟨l,by rw[←a1];exact L3 _ _,rfl,rfl,rfl,rfl,rfl,rfl,by rw[←R];exact i.s.sz,i.s.env.mono Q B⟩
    have c3: ∀id,¬fr.π<:+id→(β.put (0::st.base::fr.π) ⟨w.heap.size+1,0,0⟩) id=β id:=fun id L=>
     CR β _ fun e=>L (by rw[e];exact(F5 _ _).trans (F5 _ _))
    have bc: ∀n,st.base+1≤n→GA (β.put (0::st.base::fr.π) ⟨w.heap.size+1,0,0⟩) (n::fr.π):=fun n cx id L=>by
     rw[CR β _ fun e=>?_]
     .exact i.fresh n AA id L
     .subst e;have:=K1 L (F5 0 (st.base::fr.π));omega
    have c2: ∀b,b<w.heap.size→s.heap[b]? =w.heap[b]? :=fun b az=>by
     rw[Jm _ _ (by rw[KC];omega),Jm _ _ az]
    refine⟨_,G6 _ _ _,⟨c3,b2,B,fun d6 dn _=>⟨fun b az _=>c2 b az,?_,fun id L=>?_⟩⟩,⟨i.s.sz,i.s.env.mono Q B,?_,i.s.defs.mono Q B,fun e' ch r m c8=>?_⟩,bc _ (Es _),bc,?_⟩
    .rintro b ⟨id,k,b1,U,rfl⟩;by_cases e:id=0::st.base::fr.π
     .subst e;rw[G6]at U;cases U;exact .inr AG
     .rw[CR β _ e]at U;exact .inl ⟨id,k,b1,U,rfl⟩
    .rw[AD.get_put,Co fun e=>L (by rw[←e];exact dn.trans ((F5 _ _).trans (F5 _ _)))]
    .refine .mark _ _ ?_ ?_ i.lb
     .rw[Jm _ _ (by rw[KC];omega)];exact L3 w _
     .rintro(hA|⟨id,o,k,b1,U,Z,u4⟩)
      .have:=i.hr.abnd _ hA;omega
      .by_cases e:id=0::st.base::fr.π
       .subst e;rw[G6]at Z;cases Z;simp at u4
       .rw[CR β _ e]at Z;have:=i.hr.bnd id k Z;omega
    .simp only[Target.collected.injEq]at m;subst m;have:=i.s.defs.marks e' ch _ c8;omega
    .intro y u b6 h2;refine HL.append (HL.append (b6.mono Q B) ⟨rfl,fun j x v a3 X=>?_⟩) (h2.mono Q B);cases j with
     |zero=>simp at a3 X;subst a3 X;exact .ws _ _ (G6 _ _ _)
     |succ j=>simp at a3
   have a6: ∀{A:Nat→Prop} {nt:NT} {β:BH} {w:World} {a:Act},Si A fr nt β w st a→ ∃y u,a.eval g=.func (.func f) y u∧HL β w (MS A β st.heap) first y∧HL β w (MS A β st.heap) cap u:=by
    intro A nt β w a i;have a0:=Jk i.s.env g;rw[cn]at a0;generalize a.eval g=ag at a0;cases a0 with
    |fn _ _ _ y u dq dr Y ds=>exact⟨y,u,rfl,⟨dq,Y⟩,⟨dr,ds⟩⟩
   obtain⟨c,h2⟩:=r;simp only at av;have a7: ∀{st':St},st'.heap=gc (st.base::fr.π) (gc ((st.base+1)::fr.π) h2)→st'.env=st.env→st'.base=st.base+2→st'.defs=.mark (0::st.base::fr.π)::st.defs→
    ∀(A:Nat→Prop) (nt:NT) (β:BH) (w:World) (a:Act),Si A fr nt β w st a→ ∀{q p:BH} {s D V:World} {I:Act},
     CL A fr.ci fr.π β w st.heap q s (st.heap.put (0::st.base::fr.π) (.loop lp))→Mb A q s nt st.env.get (.mark (0::st.base::fr.π)::st.defs) (st.heap.put (0::st.base::fr.π) (.loop lp)) I→
     GA q ((st.base+1)::fr.π)→Cr q fr.π (st.base+1)→CL A fr.ci ((st.base+1)::fr.π) q s (st.heap.put (0::st.base::fr.π) (.loop lp)) p D h2→
     CL A fr.ci fr.π p D h2 p V st'.heap→CL A fr.ci fr.π β w st.heap p V st'.heap∧Si A fr nt p V st' I:=by
    intro st' d4 b3 b4 b5 A nt β w a i q p s D V I g1 T H O z F;have g:=(g1.trans (z.up (F5 _ _))).trans F;have d0:=(T.mono (z.le H) z.it).mono (.refl p) F.it;refine⟨g,g.hr,by rw[b3,b5];exact d0,?_,Uk i.own g,IP i.lb g.it.size⟩;rw[b4];exact fun n cx=>(O n AA).other AA z.out
   have bv: ∀{s:World} {a:Act} {y u:Array Value} {k:Nat},a.eval g=.func (.func f) y u→(resolve a.eval (rangeCall g k) 0).run P s=.ok {target:=.fn (.func f) u,args:=y++ #[.func (.yield k) #[] #[]]} s:=by
    intro s a y u k N;have e:(#[Operand.const (.func (.yield k) #[] #[])].map a.eval)= #[Value.func (.yield k) #[] #[]]:=by simp[Act.eval]
    unfold resolve;simp only[rangeCall];rw[e,N];simp[Deferred.ofValue]
   cases c with
   |ret v=>
    simp only[KU,A9]at m;unfold Yn at m;split at m
    .rename_i b0 be;have c0:b0.state≠ .busy:=by
      intro e;rw[e]at m;simp at m
     have c6: ∃S,b0.wl=S∧((S=none∧o=.normal)∨(S=some .ret∧o=.ret)∨ ∃k,S=some (.exit k)∧o=.exit k)∧
      st'={st with heap:=gc (st.base::fr.π) (gc ((st.base+1)::fr.π) h2),base:=st.base+2,defs:=.mark (0::st.base::fr.π)::st.defs}:=by
      split at m
      .cases m
      .split at m
       .rename_i B;simp only[E.ok.injEq,GC]at m;exact⟨none,B,.inl ⟨rfl,m.1.symm⟩,m.2.symm⟩
       .rename_i B;simp only[E.ok.injEq,GC]at m;exact⟨some .ret,B,.inr (.inl ⟨rfl,m.1.symm⟩),m.2.symm⟩
       .rename_i k B;simp only[E.ok.injEq,GC]at m;exact⟨some (.exit k),B,.inr (.inr ⟨k,rfl,m.1.symm⟩),m.2.symm⟩
       .cases m
     obtain⟨S,cp,cs,rfl⟩:=c6;refine⟨av,fun A nt β w a R i=>?_⟩;obtain⟨q,bx,g1,T,H,O,a2⟩:=start A nt β w a R i;obtain⟨y,u,N,v1,v2⟩:=a6 i;refine .range Om (bv N) (La a' _) ?_;refine(W.rw rfl (fun _ _ h=>by cases h) ar A q _ _ g1.hr H (a2 v1 v2)).mono ?_;rintro e D ⟨p,z,J⟩;have bi:p (0::st.base::fr.π)=some ⟨w.heap.size+1,0,0⟩:=by
      rw[z.out _ fun de=>?_]
      .exact bx
      .have:=K1 de (F5 0 (st.base::fr.π));omega
     cases e with
     |returned a4=>
      obtain⟨d5,bk,Y,d1,d2,d3,_⟩:=z.hr.obj _ _ be;rw[bi]at bk;cases bk;obtain⟨ac,ad⟩:=a8 (b:=st.base) (π:=fr.π) (h:=h2);have F:CL A fr.ci fr.π p D h2 p (World.ip D (w.heap.size+1) (.loop {Y with state:=.exhausted})) (gc (st.base::fr.π) (gc ((st.base+1)::fr.π) h2)):=
       nN z.hr be rfl bi ((F5 _ _).trans (F5 _ _)) ac ad
      obtain⟨g,M⟩:=a7 (st':={st with heap:=gc (st.base::fr.π) (gc ((st.base+1)::fr.π) h2),base:=st.base+2,defs:=.mark (0::st.base::fr.π)::st.defs}) rfl rfl rfl rfl A nt β w a i g1 T H O z F
      refine⟨_,_,Z0 d1 (by rw[d2];exact c0),?_⟩;generalize World.ip D (w.heap.size+1) (Go.Obj.loop {Y with state:=.exhausted})=V at g M⊢
      rw[d3,cp];rcases cs with⟨rfl,rfl⟩|⟨rfl,rfl⟩|⟨k,rfl,rfl⟩
      .exact⟨rfl,p,g,M⟩
      .exact .ret ⟨rfl,p,g,M⟩
      .exact .exit ⟨rfl,p,g,M⟩
     |panicked chain=>exact J.elim
     |outgrown=>exact J.elim
    .cases m
   |ge v=>
    simp only[KU,A9,E.ok.injEq,GC]at m;obtain⟨rfl,rfl⟩:=m;refine⟨av,fun A nt β w a R i=>?_⟩;obtain⟨q,bx,g1,T,H,O,a2⟩:=start A nt β w a R i;obtain⟨y,u,N,v1,v2⟩:=a6 i;refine .range Om (bv N) (La a' _) ?_;refine(W.rw rfl (fun _ _ h=>by cases h) ar A q _ _ g1.hr H (a2 v1 v2)).mono ?_;rintro e D ⟨p,z,J⟩;cases e with
    |returned a4=>exact J.elim
    |panicked chain=>
     obtain⟨a4,rfl,X⟩:=J;obtain⟨ac,ad⟩:=a8 (b:=st.base) (π:=fr.π) (h:=h2);have F:CL A fr.ci fr.π p D h2 p D (gc (st.base::fr.π) (gc ((st.base+1)::fr.π) h2)):=Wg z.hr (fun id o c1=>(ac id o c1).1) ad;obtain⟨g,M⟩:=a7 (st':={st with heap:=gc (st.base::fr.π) (gc ((st.base+1)::fr.π) h2),base:=st.base+2,defs:=.mark (0::st.base::fr.π)::st.defs}) rfl rfl rfl rfl A nt β w a i g1 T H O z F
     exact⟨v,a4,p,rfl,rfl,g,M,X.mono (.refl p) F.it⟩
    |outgrown=>exact J.elim
variable{A:Nat→Prop}{P:Program}{mix:List TypeId}{β β' β'':BH}{w w' w'':World}{h h' h'':AD}{π ρ:List Nat}{ci:Option (List Nat)}{nt:NT}{a:Act}{ro:Option Nat}
variable{C:DD}{K:Ab}{fr:Fr}
variable{f:FuncId}
theorem G9.mono{x:Code}{Q Q':Exit→Act→World→Prop}(b: ∀e a w,Q e a w→Q' e a w): ∀{m:Nat} {a:Act} {w:World},G9 P f ro x Q m a w→G9 P f ro x Q' m a w
 |0,_,_,h=>h.elim
 |m+1,a,w,h=>Cf.mono h fun e a w p=>by
  cases e with
  |normal=>exact G9.mono b p
  |_=>exact b _ _ _ p
theorem rk(g: ∀r e,W r→W {r with env:=e})(c:LW W st.heap):LW W (Fg C fr b st).heap:=by
 unfold Fg;simp only;split
 .exact c
 .intro id r h;obtain⟨x,o,g1,_,a⟩:=Fu h;cases o with
  |loop f=>
   simp only[Fe,Obj.loop.injEq]at a;rw[a];exact g f _ (c x f g1)
  |_=>simp[Fe]at a
theorem P6(X:Mi P mix C)(S:Dv P (G2 P C) K)(U:fr.rnd=false→ro=none)(ag:P.follows .mixedOrders=true)(ac: ∃fn,P.funcs[fr.f]? =some fn):
 ∀(n b:Nat) (c:Code) (st:St) (o:Ea) (st':St),Ee C fr.f fr.nt c=true→Bm C K fr n b c st=.ok (o,st')→LW (G2 P C) st.heap→
  LW (G2 P C) st'.heap∧ ∀(A:Nat→Prop) (nt:NT) (β:BH) (w:World) (a:Act),nt.n=fr.nt→Si A fr nt β w st a→
   Cf P fr.f ro c (KB A fr nt β w st.heap o st') a w∧ ∀x,c=.loop x→G9 P fr.f ro x (KB A fr nt β w st.heap o st') n a w:=by
 intro n;induction n with
 |zero=>intro b c st o st' _ f;simp[Bm]at f
 |succ n M=>
  intro b c st o st' m f B;have plain: ∀{c:Code} {o:Ea} {st':St},(∀x,c≠ .loop x)→
   (LW (G2 P C) st'.heap∧ ∀(A:Nat→Prop) (nt:NT) (β:BH) (w:World) (a:Act),nt.n=fr.nt→Si A fr nt β w st a→Cf P fr.f ro c (KB A fr nt β w st.heap o st') a w)→
   LW (G2 P C) st'.heap∧ ∀(A:Nat→Prop) (nt:NT) (β:BH) (w:World) (a:Act),nt.n=fr.nt→Si A fr nt β w st a→
    Cf P fr.f ro c (KB A fr nt β w st.heap o st') a w∧ ∀x,c=.loop x→G9 P fr.f ro x (KB A fr nt β w st.heap o st') (n+1) a w:=
   fun J h=>⟨h.1,fun A nt β w a j i=>⟨h.2 A nt β w a j i,fun x q=>absurd q (J x)⟩⟩
  cases c with
  |skip=>
   simp only[Bm,E.ok.injEq,GC]at f;obtain⟨rfl,rfl⟩:=f;exact plain AG ⟨B,fun A nt β w a j i=>.skip ⟨rfl,β,CL.refl i.hr,i⟩⟩
  |label l=>
   simp only[Bm,E.ok.injEq,GC]at f;obtain⟨rfl,rfl⟩:=f;exact plain AG ⟨B,fun A nt β w a j i=>.label ⟨rfl,β,CL.refl i.hr,i⟩⟩
  |exit id=>
   simp only[Bm,E.ok.injEq,GC]at f;obtain⟨rfl,rfl⟩:=f;exact plain AG ⟨B,fun A nt β w a j i=>.exit ⟨rfl,β,CL.refl i.hr,i⟩⟩
  |ret=>
   simp only[Bm,E.ok.injEq,GC]at f;obtain⟨rfl,rfl⟩:=f;exact plain AG ⟨B,fun A nt β w a j i=>.ret ⟨rfl,β,CL.refl i.hr,i⟩⟩
  |seq x y=>
   simp only[Ee,AP]at m;simp only[Bm]at f;cases q:Bm C K fr n b x st with
   |err e=>rw[q]at f;cases f
   |ok r=>
    rw[q]at f;obtain⟨u,D⟩:=r;obtain⟨H,F⟩:=M b x st u D m.1 q B;have stop:u=o∧D=st'→o≠ .normal→LW (G2 P C) st'.heap∧ ∀(A:Nat→Prop) (nt:NT) (β:BH) (w:World) (a:Act),nt.n=fr.nt→Si A fr nt β w st a→
       Cf P fr.f ro (.seq x y) (KB A fr nt β w st.heap o st') a w:=by
     rintro⟨rfl,rfl⟩ J;refine⟨H,fun A nt β w a j i=>.seq (Cf.mono (F A nt β w a j i).1 fun e L w' p=>?_)⟩;cases e with
     |normal=>exact absurd p.1 J
     |_=>exact p
    cases u with
    |normal=>
     simp only[EF]at f;obtain⟨Q,h2⟩:=M b y D o st' m.2 f H;refine plain AG ⟨Q,fun A nt β w a j i=>.seq (Cf.mono (F A nt β w a j i).1 fun e L w' p=>?_)⟩;cases e with
     |normal=>
      obtain⟨_,O,g1,a3⟩:=p;exact Cf.mono (h2 A nt O w' L j a3).1 fun e a7 bc a5=>a5.trans g1
     |exit id=>exact zCh
     |ret=>exact zCh
     |panic chain=>exact zEQ
     |_=>exact p.elim
    |exit id=>
     exact zBn
    |ret=>
     exact zBn
    |ge v=>
     exact zBn
  |cond c x y=>
   simp only[Ee,AP]at m;simp only[Bm]at f;unfold Lb at f;split at f
   .rename_i t az;have key: ∀{z:Code},Bm C K fr n b z st=.ok (o,st')→Ee C fr.f fr.nt z=true→(if t then x else y)=z→
     LW (G2 P C) st'.heap∧ ∀(A:Nat→Prop) (nt:NT) (β:BH) (w:World) (a:Act),nt.n=fr.nt→Si A fr nt β w st a→Cf P fr.f ro (.cond c x y) (KB A fr nt β w st.heap o st') a w:=by
     intro z a1 ar a2;obtain⟨H,F⟩:=M b z st o st' ar a1 B;refine⟨H,fun A nt β w a j i=>?_⟩;have T:=Jk i.s.env c;rw[az]at T;refine .cond (JE T) ?_;rw[a2];exact(F A nt β w a j i).1
    split at f
    .exact plain AG (key f m.1 rfl)
    .exact plain AG (key f m.2 rfl)
   .cases f
  |block id x=>
   simp only[Ee]at m;simp only[Bm]at f;cases q:Bm C K fr n id x st with
   |err e=>rw[q]at f;cases f
   |ok r=>
    rw[q]at f;obtain⟨u,D⟩:=r;obtain⟨H,F⟩:=M id x st u D m q B;have av:D=st'∧((u=.exit id∧o=.normal)∨(u≠ .exit id∧o=u)):=by
     cases u with
     |exit k=>
      simp only[Hv]at f;split at f
      .rename_i e;have:=D8 e;subst this;simp only[E.ok.injEq,GC]at f;exact⟨f.2,.inl ⟨rfl,f.1.symm⟩⟩
      .rename_i e;simp only[E.ok.injEq,GC]at f;refine⟨f.2,.inr ⟨fun h=>?_,f.1.symm⟩⟩;cases h;simp at e
     |normal=>exact zBx
     |ret=>exact zBx
     |ge v=>exact zBx
    obtain⟨rfl,ai⟩:=av;refine plain AG ⟨H,fun A nt β w a j i=>.block (Cf.mono (F A nt β w a j i).1 fun e L w' p=>?_)⟩;rcases ai with⟨rfl,rfl⟩|⟨J,rfl⟩
    .cases e with
     |exit k=>
      obtain⟨ad,p⟩:=p;cases ad;simp only[Exit.inBlock,F7];exact⟨rfl,p⟩
     |normal=>exact zCh
     |ret=>exact zCh
     |panic chain=>exact zEQ
     |_=>exact p.elim
    .cases e with
     |exit k=>
      have:k≠id:=fun e=>J (by rw[p.1,e]);simp only[Exit.inBlock,this,FD];exact p
     |_=>exact p
  |loop x=>
   simp only[Ee]at m;simp only[Bm,MB]at f;have Y:LW (G2 P C) (Fg C fr b st).heap:=rk (fun r e h=>h) B;cases q:Bm C K fr n b x (Fg C fr b st)with
   |err e=>rw[q]at f;cases f
   |ok r=>
    rw[q]at f;obtain⟨u,D⟩:=r;obtain⟨H,F⟩:=M b x _ u D m q Y;have rounds:LW (G2 P C) st'.heap∧ ∀(A:Nat→Prop) (nt:NT) (β:BH) (w:World) (a:Act),nt.n=fr.nt→Si A fr nt β w st a→G9 P fr.f ro x (KB A fr nt β w st.heap o st') (n+1) a w:=by
     have start: ∀{A:Nat→Prop} {nt:NT} {β:BH} {w:World} {a:Act},Si A fr nt β w st a→ ∃I,CL A fr.ci fr.π β w st.heap I w (Fg C fr b st).heap∧Si A fr nt I w (Fg C fr b st) a:=by
      intro A nt β w a i;obtain⟨I,g,s,Z⟩:=rl (C:=C) (fr:=fr) (b:=b) i.hr i.s i.fresh i.own;exact⟨I,g,g.hr,s,Z,Uk i.own g,i.lb⟩
     have stop:u=o∧D=st'→o≠ .normal→LW (G2 P C) st'.heap∧ ∀(A:Nat→Prop) (nt:NT) (β:BH) (w:World) (a:Act),nt.n=fr.nt→Si A fr nt β w st a→
      G9 P fr.f ro x (KB A fr nt β w st.heap o st') (n+1) a w:=by
      rintro⟨rfl,rfl⟩ J;refine⟨H,fun A nt β w a j i=>?_⟩;obtain⟨I,N,R⟩:=start i;refine Cf.mono (F A nt I w a j R).1 fun e L w' p=>?_;cases e with
      |normal=>exact absurd p.1 J
      |exit id=>exact p.trans N
      |ret=>exact p.trans N
      |panic chain=>exact p.trans N
      |goto l=>exact p.elim
      |outgrown=>exact p.elim
     cases u with
     |normal=>
      simp only[EF]at f;obtain⟨Q,h2⟩:=M b (.loop x) D o st' m f H;refine⟨Q,fun A nt β w a j i=>?_⟩;obtain⟨I,N,R⟩:=start i;refine Cf.mono (F A nt I w a j R).1 fun e L w' p=>?_;cases e with
      |normal=>
       obtain⟨_,a6,W,a4⟩:=p;exact G9.mono (fun e a w p=>p.trans (N.trans W)) ((h2 A nt a6 w' L j a4).2 x rfl)
      |exit id=>exact zCh
      |ret=>exact zCh
      |panic chain=>exact zEQ
      |_=>exact p.elim
     |exit id=>
      exact zB6
     |ret=>
      exact zB6
     |ge v=>
      exact zB6
    exact⟨rounds.1,fun A nt β w a j i=>⟨.loop (n+1) (rounds.2 A nt β w a j i),fun y a0=>by cases a0;exact rounds.2 A nt β w a j i⟩⟩
  |region id ops a'=>
   simp only[Bm]at f;exact plain AG (pn X S U ag m f B)
  |rangeFunc g ps pm body=>
   simp only[Bm]at f;exact plain AG (vU S U ac m f B)
  |goto l=>simp[Bm]at f
  |scope x=>simp[Bm]at f
  |refuse=>simp[Bm]at f
variable{A:Nat→Prop}{P:Program}{mix:List TypeId}{β β' β'':BH}{w w' w'':World}{h h' h'':AD}{π ρ:List Nat}{ci:Option (List Nat)}{nt:NT}{a:Act}{ro:Option Nat}
variable{C:DD}{K:Ab}{fr:Fr}
def Lr(tmps:Array Value):ResultVar→Sem Value
 |.tmp t=>pure (tmps.getD t undef)
 |.cell a t=>do loadVar t (←asAddr (tmps.getD a undef))
theorem iX(fn:Func)(tmps:Array Value):results fn tmps=(do let vs←fn.results.mapM (Lr tmps);pure (if h:vs.size=1 then vs[0]else .tuple vs)):=by
 unfold results;congr 1
theorem iW{C:DD}(l:Mi P mix C){st:St}(H:HR A β w st.heap){tmps:Array Value}(f:Kf β w (MS A β st.heap) st.env.get fun t=>tmps.getD t Go.undef){x:ResultVar}{v:AV}(b:DQ C st x=some v):
 ∃c,(Lr tmps x).run P w=.ok c w∧VR β w (MS A β st.heap) v c:=by
 cases x with
 |tmp t=>
  simp only[DQ,Cs]at b;subst b;exact⟨_,rfl,f t⟩
 |cell a t=>
  simp only[DQ,l.T]at b;cases e:CZ P mix t with
  |none=>rw[e]at b;cases b
  |some i=>
   rw[e]at b;obtain⟨g,c,h,h2,k⟩:=bW H e (f a) b;have j:tmps.getD a Go.undef=.pointer (some g):=h;exact⟨c,by simp only[Lr,Sem.run_bind];rw[j];simp[asAddr,h2],k⟩
theorem Qh{C:DD}(c:Mi P mix C){st:St}(H:HR A β w st.heap){tmps:Array Value}(e:Kf β w (MS A β st.heap) st.env.get fun t=>tmps.getD t Go.undef): ∀{l:List ResultVar} {vs:List AV},Og (DQ C st) l=some vs→
 ∃us:List Value,(l.mapM (Lr tmps)).run P w=.ok us w∧HL β w (MS A β st.heap) vs us.toArray
 |[],vs,h=>by
  simp[Og]at h;subst h;exact⟨[],rfl,rfl,fun i x v a=>by simp at a⟩
 |x::l,vs,h=>by
  simp only[Og]at h;split at h
  .rename_i v r f h2;cases h;obtain⟨o,g,j⟩:=iW c H e f;obtain⟨us,k,m,n⟩:=Qh c H e h2;refine⟨o::us,?_,by simpa using m,fun i q p a b=>?_⟩
   .rw[List.mapM_cons];simp only[Sem.run_bind,g,Result.andThen_ok,k,Sem.run_pure]
   .cases i with
    |zero=>simp at a b;subst a b;exact j
    |succ i=>exact n i q p zEg zEw
  .cases h
theorem iY{C:DD}(g:Mi P mix C)(H:HR A β w st.heap)(h:Kf β w (MS A β st.heap) st.env.get fun t=>tmps.getD t Go.undef){r:AV}(a:J7 C fn st=some r):
 ∃e,(results fn tmps).run P w=.ok e w∧VR β w (MS A β st.heap) r e:=by
 unfold J7 at a;cases f:Og (DQ C st) fn.results.toList with
 |none=>rw[f]at a;cases a
 |some vs=>
  rw[f]at a;obtain⟨us,l,c,b⟩:=Qh g H h f;have j:(fn.results.mapM (Lr tmps)).run P w=.ok us.toArray w:=by
   rw[Array.mapM_eq_mapM_toList,Sem.run_map,l,Result.andThen_ok]
  rw[iX];simp only[Sem.run_bind,j,Result.andThen_ok,Sem.run_pure];refine⟨_,rfl,?_⟩;simp only[Rd]at c⊢
  match vs,us,a,c,b with
  |[],[],a,_,_=>cases a;simp;exact .ii [] #[] rfl fun i x v k=>by simp at k
  |[v],[e],a,_,b=>cases a;simp;exact b 0 _ _ rfl rfl
  |v::v2::vs,e::u2::us,a,c,b=>
   cases a;rw[dif_neg AG];exact .ii _ _ zEp b
variable{M:Nat→Prop}{r:Nat}{y:Go.Obj}
theorem DR.other(o: ∀c e f,w.heap[r]? ≠some (.cells c e f)){x:Ao}{v:Value}(h:DR w M x v):DR (World.ip w r y) M x v:=by
 induction h with
 |int k n=>exact .int k n
 |bool b=>exact .bool b
 |str s=>exact .str s
 |wp=>exact .wp
 |lc=>exact .lc
 |rg=>exact .rg
 |wn=>exact .wn
 |lst0 a cap=>exact .lst0 a cap
 |bv es b off cap sz c elem fr g m j l _ i p=>
  exact .bv es b off cap sz c elem fr (by rw[Ff y fun e=>o _ _ _ (e▸g)];exact g) m j l p i
variable{x:AV}
theorem VR.other(n: ∀c e f,w.heap[r]? ≠some (.cells c e f)){v:Value}(h:VR β w M x v):VR β (World.ip w r y) M x v:=by
 induction h with
 |d h=>exact .d (h.other n)
 |d7=>exact .d7
 |emp a=>exact .emp a
 |f8 id off len k a cap g z m q=>exact .f8 id off len k a cap g z m q
 |ptr id off k g=>exact .ptr id off k g
 |jp id i off k g=>exact .jp id i off k g
 |v6 cs b off c elem fr o u m s=>
  exact .v6 cs b off c elem fr (by rw[Ff y fun e=>n _ _ _ (e▸o)];exact o) u m fun i x v j h2=>(s i x v j h2).other n
 |fn f a b p b' j h2 _ _ A B=>exact .fn f a b p b' j h2 A B
 |ws id k g=>exact .ws id k g
 |mp id k g=>exact .mp id k g
 |iface t v C _ l=>exact .iface t v C l
 |agg cs c j _ l=>exact .agg cs c j l
 |ii cs c j _ l=>exact .ii cs c j l
 |undef v=>exact .undef v
theorem Mo.other{x:Option (List Deferred)}(C:w.heap[r]? =some (.deferred x)){k:Sl}(h:Mo β w M k o):Mo β (World.ip w r y) M k o:=by
 have u: ∀c e f,w.heap[r]? ≠some (.cells c e f):=fun c e f=>by rw[C];simp
 have A: ∀{z:Go.Obj},w.heap[k.b]? =some z→(∀x,z≠ .deferred x)→(World.ip w r y).heap[k.b]? =some z:=fun B K=>by
  rw[Ff y fun e=>?_]
  .exact B
  .rw[e,C]at B;exact K x (Is B).symm
 cases o with
 |box cs=>obtain⟨c,elem,j,h2,g⟩:=h;exact⟨c,elem,A j AG,h2,fun i x v a b=>(g i x v a b).other u⟩
 |em sz es=>exact zCN
 |i7 sz es=>
  rcases h with h|⟨J,c,elem,fr,j,h2,g,m,n,q,s⟩
  .exact .inl h
  .exact .inr ⟨J,c,elem,fr,A j AG,h2,g,m,n,q,fun i x v a b=>(s i x v a b).other u⟩
 |arr sz es=>exact zCN
 |map es=>obtain⟨F,D,j,h2,g⟩:=h;exact⟨F,D,A j AG,h2,fun i p e a b=>⟨(g i p e a b).1.other u,(g i p e a b).2.other u⟩⟩
 |loop L=>obtain⟨l,j,h2,g,m,n,q,s,I,H⟩:=h;exact⟨l,A j AG,h2,g,m,n,q,s,I,fun t=>(H t).other u⟩
theorem HR.other{x:Option (List Deferred)}(g:w.heap[r]? =some (.deferred x))(H:HR A β w h):HR A β (World.ip w r y) h:=by
 refine⟨fun id o f=>?_,H.inj,fun id k a=>by rw[Fq];exact H.bnd id k a,H.out,fun b e=>by rw[Fq];exact H.abnd b e⟩;obtain⟨k,a,c⟩:=H.obj id o f;exact⟨k,a,c.other g⟩
theorem CL.other{i:BH}{c:World}{e:AD}{x:Option (List Deferred)}(l:w.heap[r]? =some (.deferred x))(t:c.heap.size≤r)(g:CL A ci π i c e β w h):CL A ci π i c e β (World.ip w r y) h:=by
 have f: ∀b,b<c.heap.size→(World.ip w r y).heap[b]? =w.heap[b]? :=fun b a=>Ff y AA;refine⟨g.out,g.hr.other l,⟨fun b a k=>by rw[f b a];exact g.it.pp b a k,by rw[Fq];exact g.it.size,g.it.sub,g.it.io⟩,fun s n j=>?_⟩;obtain⟨o,p,q⟩:=g.kept s n j;exact⟨fun b a m=>by rw[f b a];exact o b a m,p,q⟩
theorem Kk.other{lb:Nat}{x:Option (List Deferred)}(j:w.heap[r]? =some (.deferred x)): ∀{l:List Df} {m:List Deferred},(∀e∈m,e.target≠ .collected r)→Kk lb β w M l m→Kk lb β (World.ip w r y) M l m
 |[],[],_,_=>trivial
 |d::l,e::m,hne,h=>by
  have q: ∀c e f,w.heap[r]? ≠some (.cells c e f):=fun c e f=>by rw[j];simp
  refine⟨?_,Kk.other j (fun e' s=>hne e' (by simp[s])) h.2.1,h.2.2⟩;obtain⟨n,_,_⟩:=h;cases n with
  |mark id g h2 o p=>
   have:g≠r:=fun e=>hne {target:=.collected g,args:= #[]} AG (by simp[e]);exact .mark id g (by rw[Ff y this];exact h2) o p
  |call f args vs k=>exact .call f args vs ⟨k.1,fun i x v a b=>(k.2 i x v a b).other q⟩
 |[],_::_,_,h=>h.elim
 |_::_,[],_,h=>h.elim
structure Nx(P:Program)(f:FuncId)(t:TypeId):Prop where
 enters:Lx P f
 quiet: ∀(w:World) (ad:Addr),CallsDIn Fence.wide 0 P f #[.pointer (some ad)] .returning w fun e u' w'=>
  (∃v,e=.returned v)∧settle u'=.returning∧w.heap.size≤w'.heap.size∧(∀b,b<w.heap.size→w'.heap[b]? =w.heap[b]?)∧w'.os=w.os∧w'.output=w.output
 loud: ∀(w:World) (b off:Nat) (k:IntKind) (n:Int) (c:Array Value) (elem:TypeId),w.heap[b]? =some (.cells c elem (0,0))→off<c.size→
  CallsDIn Fence.wide 0 P f #[.pointer (some ⟨b,off,none⟩)] (.panicking [{v:=.iface t (.agg #[.int k n]),recovered:=false}]) w fun e u' w'=>
   (∃v,e=.returned v)∧settle u'=.returning∧w.heap.size≤w'.heap.size∧(∀b',b'<w.heap.size→w'.heap[b']? =(World.ip w b (.cells (G0 c off [.int k n]) elem (0,0))).heap[b']?)∧w'.os=w.os∧w'.output=w.output
def qo(β:BH)(w:World)(M:Nat→Prop):Option AV→FrameMode→Prop
 |none,u=>u=.returning
 |some v,u=> ∃vv,u=.panicking [{v:=vv,recovered:=false}]∧VR β w M v vv
theorem wZ(a:w.heap[r]? =some (.deferred (some []))):(Instr.takeDeferred r).run P w=.ok [] (World.ip w r (.deferred none)):=by
 simp[Instr.takeDeferred,KN (P:=P) a AG,Ig (P:=P) a AG]
theorem UM{fn:Func}{tmps:Array Value}{R:Ending→World→Prop}(T: ∀f t,C.un f=some t→Nx P f t){env:Nat→AV}{bc:BH}{ar:World}{av:AD}{ag:Option AV}{h':AD}{lb:Nat}(a4:ar.heap.size≤lb)(β:BH)
 (M: ∀w' z,CL A ci π bc ar av β w' h'→Kf β w' (MS A β h') env (fun t=>tmps.getD t Go.undef)→qo β w' (MS A β h') ag z→LeavesInM Fence.wide 0 P fn tmps R [] z w'):
 ∀(l:List Df) (m:List Deferred) (p:Option AV) (h:AD) (w:World) (o:FrameMode),Dr C ci l p h=.ok (ag,h')→Kk lb β w (MS A β h) l m→CL A ci π bc ar av β w h→Kf β w (MS A β h) env (fun t=>tmps.getD t Go.undef)→
  qo β w (MS A β h) p o→LeavesInM Fence.wide 0 P fn tmps R m o w
 |[],[],p,h,w,o,a,_,g,he,hm=>by
  simp only[Dr,E.ok.injEq,GC]at a;obtain⟨rfl,rfl⟩:=a;exact M w o g he hm
 |.mark id::l,e::m,p,h,w,o,a,hd,g,he,hm=>by
  simp only[Dr]at a;obtain⟨B,h2,az⟩:=hd;cases B with
  |mark _ r q ai cc=>
   have I: ∀c e f,w.heap[r]? ≠some (.cells c e f):=fun c e f=>by rw[q];simp
   refine⟨?_,.inl ⟨r,_,rfl,wZ q,UM T a4 β M l m p h _ o a (h2.other q fun e' bk=>az e' bk r rfl) (g.other q AA) (fun t=>(he t).other I) ?_⟩⟩
   .cases p with
    |none=>rw[show o=.returning from hm];simp
    |some v=>obtain⟨K,rfl,_⟩:=hm;simp
   .cases p with
    |none=>exact hm
    |some v=>obtain⟨K,B,h2⟩:=hm;exact⟨K,B,h2.other I⟩
 |.call f args::l,e::m,p,h,w,o,a,hd,g,he,hm=>by
  obtain⟨B,h2,az⟩:=hd;cases B with
  |call _ _ vs b3=>
   simp only[Dr]at a;split at a
   .rename_i t id off b0;have O:=T f t b0;obtain⟨k,rfl,u⟩: ∃k,vs= #[.pointer (some ⟨k.b,off,none⟩)]∧β id=some k:=by
     obtain⟨a0,bi⟩:=b3;have Y:0<vs.size:=by rw[←a0];simp
     have a7:=bi 0 _ vs[0] rfl (Ex Y);generalize b7:vs[0]=x at a7;cases a7 with
     |ptr _ _ k u=>
      refine⟨k,?_,u⟩;apply Array.ext
      .rw[←a0];rfl
      .intro i bo D;have:i=0:=by simp at D;exact D
       subst this;exact b7
    have a1:(invoke (.fn (.func f) #[]) #[.pointer (some ⟨k.b,off,none⟩)]).run P w=.ok (.enter f #[.pointer (some ⟨k.b,off,none⟩)]) w:=by
     simp[invoke,La O.enters]
    have a': ∀{H:AD} {L:World},Dr C ci l none H=.ok (ag,h')→CL A ci π β w h β L H→LeavesInM Fence.wide 0 P fn tmps R m .returning L:=by
     intro H L a N;exact UM T a4 β M l m none H L .returning a (h2.mono (.refl β) N.it) (g.trans N) (he.mono (.refl β) N.it) rfl
    split at a
    .have b2:o=.returning:=hm;subst b2;refine⟨AG,.inr ⟨fun W=>by simp[Fence.wide]at W,.func f, #[],f,_,rfl,a1,fun _ _=>trivial,?_⟩⟩;refine(O.quiet w ⟨k.b,off,none⟩).mono ?_;rintro e z w' ⟨⟨v,rfl⟩,Z,ad,Q,X⟩;show LeavesInM Fence.wide 0 P fn tmps R m (settle z) w';rw[Z];exact a' a (Lh g.hr Q ad X)
    .rename_i ch F n;split at a
     .rename_i U;simp only[AP]at U;have b1:=D8 U.1;split at a
      .rename_i cs V;split at a
       .rename_i s a6;obtain⟨K,rfl,b4⟩:=hm;have b5:K=.iface t (.agg #[.int F n]):=by
         cases b4 with
         |iface _ _ b8 J=>
          cases J with
          |agg _ c a3 I=>
           have Y:0<c.size:=by rw[←a3];simp
           have:=Gi (I 0 _ c[0] rfl (Ex Y));rw[b1];congr 2;apply Array.ext
           .rw[←a3];rfl
           .intro i bo D;have:i=0:=by simp at D;exact D
            subst this;assumption
        subst b5;obtain⟨b',a2,c,elem,q,ai⟩:=g.hr.obj id _ V;rw[u]at a2;cases a2;have bs:=(Eu a6).1;simp only[I0]at bs;have bx:off<c.size:=by rw[←ai.1];omega
        refine⟨AG,.inr ⟨fun W=>by simp[Fence.wide]at W,.func f, #[],f,_,rfl,a1,fun _ _=>trivial,?_⟩⟩;refine(O.loud w k.b off F n c elem q bx).mono ?_;rintro e z w' ⟨⟨v,rfl⟩,Z,ad,Q,X⟩;show LeavesInM Fence.wide 0 P fn tmps R m (settle z) w';rw[Z];refine a' a ?_;have a5:=Hy g.hr (o':=.box s) V rfl u (.cells (G0 c off [.int F n]) elem (0,0));have be:HR A β (World.ip w k.b (.cells (G0 c off [.int F n]) elem (0,0))) (h.put id (.box s)):=by
         refine g.hr.upd' V rfl u ⟨_,elem,JA _ (AL q),?_⟩;exact TJ (ai.mono (.refl β) a5) ⟨rfl,fun j y b8 ac J=>by
          cases j with
          |zero=>simp at ac J;subst ac J;exact .d (.int _ _)
          |succ j=>simp at ac⟩ a6
        have b6:K4 ci [(id,Obj.box s)]=true:=by
         have:=U.2;cases ci with
         |none=>rfl
         |some ρ=>simpa[K4]using this
        have g1:CL A ci π β w h β (World.ip w k.b (.cells (G0 c off [.int F n]) elem (0,0))) (h.put id (.box s)):=
         Kq (δ:=[(id,.box s)]) (.refl β) (fun _ bl=>.inl bl) be a5 ⟨fun b S bv=>Ff _ (Ne.symm (bv (id,.box s) AG k u)),fun _ _ h=>.inl h⟩ b6
        exact g1.trans (Lh g1.hr (fun b S=>Q b (by rw[Fq]at S;exact S)) (by rw[Fq];exact ad) X)
       .cases a
      .cases a
     .cases a
    .cases a
   .cases a
 |[],_::_,_,_,_,_,_,h,_,_,_=>h.elim
 |_::_,[],_,_,_,_,_,h,_,_,_=>h.elim
variable{A:Nat→Prop}{P:Program}{mix:List TypeId}{β β' β'':BH}{w w' w'':World}{h h' h'':AD}{π ρ:List Nat}{ci:Option (List Nat)}{nt:NT}{a:Act}{ro:Option Nat}
variable{C:DD}{K:Ab}{fr:Fr}
variable{g:G}
theorem Wb{vs c:List AV}(h:Hr g vs=some c):BB c=[]:=by
 obtain⟨j,k⟩:=O5 h;rw[List.eq_nil_iff_forall_not_mem];intro id a;obtain⟨x,f,a⟩:=NY a;obtain⟨i,b⟩:=Ok.1 f;have e:i<vs.length:=by rw[←j];exact(BV.1 b).1
 obtain⟨y,rfl,_⟩:=k i _ x (Bv e) b;simp[AE]at a
variable{v:AV}
theorem oW{x:Option Ao}(h:x.map AV.d=some v):AE v=[]:=by
 exact zC3
theorem aQ(h:FR g v=some x):AE x=[]:=by
 unfold FR at h;split at h
 .simp only[Be]at h;obtain⟨b,a,rfl⟩:=h;exact Wb a
 .cases h;rfl
 .simp only[Be]at h;obtain⟨b,a,rfl⟩:=h;exact Wb a
 .exact zC3
 .exact oW h
theorem aj{g:G}: ∀{vs a:List AV},Ej g vs=some a→BB a=[]
 |[],a,h=>by simp[Ej]at h;subst h;rfl
 |v::vs,a,h=>by
  simp only[Ej]at h;split at h
  .rename_i x c b h2;cases h;simp[BB,aQ b,aj h2]
  .cases h
theorem yf(h:Y9 g v=some x):AE x=[]:=by
 unfold Y9 at h;split at h
 .simp only[Be]at h;obtain⟨b,a,rfl⟩:=h;exact aj a
 .exact aQ h
theorem yg(H:HR A β w h){j:Value}(b:VR β w (MS A β h) v j)(a:Y9 h.get v=some x):VR β w (MS A β []) x j:=by
 unfold Y9 at a;split at a
 .simp only[Be]at a;obtain⟨o,k,rfl⟩:=a;obtain⟨g,n⟩:=RI k;cases b with
  |ii _ c m l=>
   refine .ii _ c (by rw[g];exact m) fun i x v a b=>?_;have p:i<(‹List AV›:List AV).length→True:=fun _=>trivial;have e:i<o.length:=(BV.1 a).1;rw[g]at e;have f:=Bv e;exact(aV H (l i _ v f b) (n i _ x f a)).1
 .exact(aV H b a).1
def qf(P:Program)(C:DD)(f:FuncId):Prop:= ∃fn c,P.funcs[f]? =some fn∧fn.body=some c∧Ee C f fn.ntmps c=true∧(fn.name== "runtime.NumGoroutine")=false
structure ZB(P:Program)(mix:List TypeId)(C:DD):Prop where
 cfg:Mi P mix C
 mixed:P.follows .mixedOrders=true
 un: ∀f t,C.un f=some t→Nx P f t
theorem Um: ∀(n:Nat) (vs:List AV) (t:Nat),(Dx n vs).get t=if n≤t then vs.getD (t-n) .undef else .undef
 |n,[],t=>by simp[Dx,CB.get]
 |n,v::vs,t=>by
  simp only[Dx,CB.get_cons,Um (n+1) vs t];by_cases e:n=t
  .subst e;simp
  .rw[Co e];by_cases a:n+1≤t
   .rw[D5 a,D5 AA];obtain⟨k,rfl⟩: ∃k,t=n+1+k:=⟨t-(n+1),AA⟩;rw[show n+1+k-(n+1)=k by omega,show n+1+k-n=k+1 by omega];simp
   .rw[Co a,Co AA]
theorem QP: ∀{l:List Df} {p b:Option AV} {h h':AD},LW W h→Dr C ci l p h=.ok (b,h')→LW W h'
 |[],p,b,h,h',hL,a=>by
  simp only[Dr,E.ok.injEq,GC]at a;obtain⟨rfl,rfl⟩:=a;exact hL
 |.mark id::l,p,b,h,h',hL,a=>by
  simp only[Dr]at a;exact QP hL a
 |.call f args::l,p,b,h,h',hL,a=>by
  simp only[Dr]at a;split at a
  .split at a
   .exact QP hL a
   .split at a
    .split at a
     .split at a
      .exact QP (hL.put fun _ h=>by cases h) a
      .cases a
     .cases a
    .cases a
   .cases a
  .cases a
theorem sv(L:ZB P mix C)(a3:Dv P (G2 P C) K){f:FuncId}(a6:qf P C f){R:Nat}{args:List AV}{raw:Bool}{r:Ax×AD}
 (g:Qn P C K R f args h π raw ci=.ok r):jM P (G2 P C) (.fn f) args h π raw ci r:=by
 obtain⟨fn,c,g1,S,a0,a1⟩:=a6;unfold Qn at g;rw[g1]at g;simp only[S]at g;split at g
 case h_2=>cases g
 rename_i ac;have ac:args.length≤fn.ntmps:=Ge ac;cases W:Bm C K {f,π,raw,ci,nt:=fn.ntmps} R 0 c {env:=Dx 0 args,heap:=h,base:=0,defs:=[]}with
 |err e=>rw[W]at g;cases g
 |ok b0=>
  rw[W]at g;obtain⟨o,i⟩:=b0;have a5: ∃p,(o=.ret∧p=none∨o=.normal∧p=none∨ ∃v,o=.ge v∧p=some v)∧Uj C f fn π raw i (Dr C ci i.defs p i.heap)=.ok r:=by
   unfold sU at g;simp only at g;split at g
   .exact⟨none,.inl ⟨rfl,rfl⟩,g⟩
   .exact⟨none,.inr (.inl ⟨rfl,rfl⟩),g⟩
   .exact⟨_,.inr (.inr ⟨_,rfl,rfl⟩),g⟩
   .cases g
  obtain⟨p,N,b⟩:=a5;cases M:Dr C ci i.defs p i.heap with
  |err e=>rw[M]at b;cases b
  |ok b1=>
   rw[M]at b;obtain⟨X,h'⟩:=b1;have Y:=fun a2=>P6 (ro:=none) (fr:={f,π,raw,ci,nt:=fn.ntmps}) L.cfg a3 (fun _=>rfl) L.mixed ⟨fn,g1⟩ R 0 c _ o i a0 W a2;have T:(∃v,X=some v∧r=(.ge v,h'))∨(X=none∧ ∃q,J7 C fn {i with heap:=h'}=some q∧((r=(.ret q,h')∧(raw=true∨π≠ []))∨(raw=false∧π=[]∧ ∃u,Y9 h'.get q=some u∧r=(.ret u,[])))):=by
    unfold Uj at b;cases X with
    |some v=>simp only[E.ok.injEq]at b;exact .inl ⟨v,rfl,b.symm⟩
    |none=>
     simp only at b;split at b
     .rename_i q U;simp only[K9]at b;refine .inr ⟨rfl,q,U,?_⟩;split at b
      .simp only[E.ok.injEq]at b;exact .inl ⟨b.symm,.inl rfl⟩
      .split at b
       .split at b
        .rename_i u J;simp only[E.ok.injEq]at b;exact .inr ⟨rfl,rfl,u,J,b.symm⟩
        .cases b
       .rename_i be;simp only[E.ok.injEq]at b;exact .inl ⟨b.symm,.inr fun e=>be e⟩
     .cases b
   have ar: ∀(A:Nat→Prop) (β:BH),(raw=false→ ∀id,β id≠none→π<:+id)→LW (G2 P C) h→Q1 P A (.fn f) args h π ci r β:=by
    intro A β bk B w vs H a' ai;show Calls P f vs w (Pj A ci π β w h r);refine VQ g1 S ?_;have b6:vs.size=args.length:=ai.1.symm;have bx:Si A {f,π,raw,ci,nt:=fn.ntmps} ⟨fn.ntmps,w.heap.size⟩ β w {env:=Dx 0 args,heap:=h,base:=0,defs:=[]} {tmps:=vs++Array.replicate (fn.ntmps-vs.size) Go.undef,defers:=[]}:=by
     refine⟨H,⟨Aa,fun t=>?_,trivial⟩,fun n _ id F=>a' id ((F5 n π).trans F),bk,Es _⟩;simp only;rw[Um,D5 (IT t),Nat.sub_zero];by_cases V:t<args.length
     .have a:args.getD t .undef=args[t]:=by simp[V]
      have h2:(vs++Array.replicate (fn.ntmps-vs.size) Go.undef).getD t Go.undef=vs[t]'(AA):=by
       rw[Gs,LI AA,Ex AA];rfl
      rw[a,h2];exact ai.2 t _ _ (Bv V) (Ex AA)
     .have a:args.getD t .undef=.undef:=by simp[Kw (Nat.le_of_not_lt V)]
      rw[a];exact .undef _
    have bl:=((Y B).2 A ⟨fn.ntmps,w.heap.size⟩ β w _ rfl bx).1;refine bl.mono fun e z w' post=>?_;have go: ∀{k:BH} {y:FrameMode},CL A ci π β w h k w' i.heap→Si A {f,π,raw,ci,nt:=fn.ntmps} ⟨fn.ntmps,w.heap.size⟩ k w' i z→qo k w' (MS A k i.heap) p y→
     LeavesInM Fence.wide 0 P fn z.tmps (Pj A ci π β w h r) z.defers y w':=by
     intro k y s m bc;refine UM (C:=C) (ci:=ci) L.un (env:=i.env.get) (lb:=w.heap.size) (Es _) k ?_ i.defs z.defers p i.heap w' y M m.s.defs s m.s.env bc;intro b4 av x a4 ad;show LeavesIn Fence.wide 0 P fn z.tmps (Pj A ci π β w h r) [] av b4;rcases T with⟨v,rfl,rfl⟩|⟨rfl,q,U,D⟩
     .obtain⟨b3,rfl,bs⟩:=ad;exact⟨k,x,b3,rfl,bs⟩
     .have bo:av=.returning:=ad;subst bo;obtain⟨b2,a,h2⟩:=iY L.cfg (st:={i with heap:=h'}) x.hr a4 U
      refine⟨b2,a,?_⟩;rcases D with⟨rfl,_⟩|⟨_,rfl,u,J,rfl⟩
      .exact⟨k,x,h2⟩
      .refine⟨k,x.trans (Wg x.hr (fun id o bi=>by simp at bi) fun id F=>absurd List.nil_suffix F),?_⟩;exact yg x.hr h2 J
    cases e with
    |normal=>
     exact zBW
    |ret=>
     exact zBW
    |exit id=>
     obtain⟨a,_⟩:=post;rcases N with⟨h2,_⟩|⟨h2,_⟩|⟨v,h2,_⟩<;>rw[a]at h2<;>cases h2
    |panic chain=>
     obtain⟨v,y,k,a,rfl,s,m,Q⟩:=post;have I:p=some v:=by
      rcases N with⟨h2,j⟩|⟨h2,j⟩|⟨az,h2,j⟩
      .rw[a]at h2;cases h2
      .rw[a]at h2;cases h2
      .rw[a]at h2;cases h2;exact j
     subst I;exact go s m ⟨y,rfl,Q⟩
    |goto l=>exact post.elim
    |outgrown=>exact post.elim
   refine⟨fun b5 a7=>?_,fun O _ B A β=>ar A β (fun h=>by rw[O]at h;cases h) B,fun O Z ag A=>?_,fun O Z ag bv v Q=>?_,fun _ B=>?_⟩
   .cases a7;exact⟨fn,c,g1,S,a1⟩
   .subst Z ag;exact ar A (fun _=>none) (fun _ id F=>absurd rfl F) LW.nil
   .rcases T with⟨az,_,rfl⟩|⟨_,q,_,D⟩
    .cases Q
    .rcases D with⟨_,a|a⟩|⟨_,_,u,J,rfl⟩
     .rw[O]at a;cases a
     .exact absurd bv a
     .cases Q;exact⟨yf J,rfl⟩
   .have a:=QP (Y B).1 M;rcases T with⟨az,_,rfl⟩|⟨_,q,_,D⟩
    .exact a
    .rcases D with⟨rfl,_⟩|⟨_,_,u,_,rfl⟩
     .exact a
     .exact LW.nil
variable{A:Nat→Prop}{P:Program}{mix:List TypeId}{β β' β'':BH}{w w' w'':World}{h h' h'':AD}{π ρ:List Nat}{ci:Option (List Nat)}{nt:NT}{a:Act}{ro:Option Nat}
variable{C:DD}{K:Ab}{fr:Fr}
theorem ku(h:w.heap[k]? =some (.loop l))(a:l.state=.ready):(Instr.beginRound k).run P w=.ok () (World.ip w k (.loop {l with state:=.busy})):=by
 simp[Instr.beginRound,NI h,Ig (P:=P) h AG,a]
theorem yB(h:w.heap[k]? =some (.loop l))(j:Option Code):
 (Instr.endRound k j).run P w=.ok (.bool j.isNone) (World.ip w k (.loop {l with state:=if j.isNone then .ready else .done,pending:=j})):=by
 simp[Instr.endRound,NI h,Ig (P:=P) h AG]
theorem Qk: ∀{ts:List Nat} {vs:List AV} {e e':CB},Er e ts vs=some e'→ts.length=vs.length
 |[],[],_,_,_=>rfl
 |t::ts,v::vs,e,e',h=>by
  simp only[Er]at h;simp[Qk h]
 |[],_::_,_,_,h=>by simp[Er]at h
 |_::_,[],_,_,h=>by simp[Er]at h
theorem fG(l:List (Nat×Value)): ∀(tmps:Array Value),(l.foldl (fun tmps (x:Nat×Value)=>tmps.setIfInBounds x.1 x.2) tmps).size=tmps.size:=by
 induction l with
 |nil=>intro tmps;rfl
 |cons x l a=>intro tmps;rw[Ms,a];simp
theorem SX{M:Nat→Prop}: ∀{ts:List Nat} {vs:List AV} {us:List Value} {e e':CB} {tmps:Array Value},Er e ts vs=some e'→vs.length=us.length→(∀(i:Nat) (x:AV) (v:Value),vs[i]? =some x→us[i]? =some v→VR β w M x v)→
 (∀t∈ts,t<tmps.size)→Kf β w M e.get (fun t=>tmps.getD t Go.undef)→Kf β w M e'.get fun t=>((ts.zip us).foldl (fun tmps (x:Nat×Value)=>tmps.setIfInBounds x.1 x.2) tmps).getD t Go.undef
 |[],[],us,e,e',tmps,h,_,_,_,he=>by
  simp only[Er,Cs]at h;subst h;simpa using he
 |t::ts,v::vs,[],e,e',tmps,_,hl,_,_,_=>by simp at hl
 |t::ts,v::vs,u::us,e,e',tmps,h,hl,hv,ht,he=>by
  simp only[Er]at h;rw[List.zip_cons_cons,Ms];refine SX h (by simpa using hl) (fun i x v b h2=>hv (i+1) x v zEw zEz) (fun a f=>by simp;exact ht a zFU) fun a=>?_;have c:=ht t AG;rw[CB.get_cons];by_cases e:t=a
  .subst e;rw[D5 rfl];have:(tmps.setIfInBounds t u).getD t Go.undef=u:=by simp[c]
   show VR β w M v ((tmps.setIfInBounds t u).getD t Go.undef);rw[this];exact hv 0 v u rfl rfl
  .rw[Co e];have:(tmps.setIfInBounds t u).getD a Go.undef=tmps.getD a Go.undef:=by
    rw[Gs,I1 e,←Gs]
   show VR β w M (CB.get _ a) ((tmps.setIfInBounds t u).getD a Go.undef);rw[this];exact he a
 |[],_::_,_,_,_,_,h,_,_,_,_=>by simp[Er]at h
 |_::_,[],_,_,_,_,h,_,_,_,_=>by simp[Er]at h
theorem Wh{id:Id}{r:Lp}{k:Sl}(H:HR A β w h)(c:h.get id=some (.loop r))(a:β id=some k)(f:w.heap[k.b]? =some (.loop l))(q:K4 ci [(id,.box [])]=true)(s:LoopState)(p:Option Code):
 CL A ci π β w h β (World.ip w k.b (.loop {l with state:=s,pending:=p})) (h.put id (.loop {r with state:=s,wl:=p})):=by
 have i:=Hy H (o':=.loop {r with state:=s,wl:=p}) c rfl a (.loop {l with state:=s,pending:=p})
 obtain⟨D,e,F,j,I,J,u,v,x,y,B,z⟩:=H.obj id _ c;rw[a]at e;cases e;rw[f]at j;cases j;have m:HR A β (World.ip w k.b (.loop {l with state:=s,pending:=p})) (h.put id (.loop {r with state:=s,wl:=p})):=
  H.upd' c rfl a ⟨_,JA _ (AL f),rfl,rfl,u,v,x,y,B,z.mono (.refl β) i⟩
 have t:K4 ci [(id,Obj.loop {r with state:=s,wl:=p})]=true:=by
  cases ci with
  |none=>rfl
  |some ρ=>simpa[K4]using q
 have g:=Kq (ρ:=π) (δ:=[(id,.loop {r with state:=s,wl:=p})]) (.refl β) (fun _ n=>.inl n) m i ⟨fun b C o=>Ff _ (Ne.symm (o (id,.loop {r with state:=s,wl:=p}) AG k a)),fun _ _ h=>.inl h⟩ t
 exact g
theorem cr(z:ZB P mix C)(W:Dv P (G2 P C) K){id:Id}{r:Lp}{F:Nat}{args:List AV}{M:Ax×AD}(a:H0 C K F id r args h π ci=.ok M):
 jM P (G2 P C) (.round id r) args h π true ci M:=by
 unfold H0 at a;split at a
 case h_2=>cases a
 rename_i e a5;have cp:=Qk a5;cases Z:Bm C K {f:=r.f,π,raw:=true,ci,rnd:=true,nt:=r.nt} F 0 r.pm {env:=e,heap:=h,base:=0,defs:=[]}with
 |err e=>rw[Z]at a;simp[JY]at a
 |ok dd=>
  rw[Z]at a;obtain⟨dr,y⟩:=dd;unfold JY at a;split at a
  case h_2=>cases a
  rename_i d1 heq;simp only[E.ok.injEq,GC]at heq;obtain⟨rfl,rfl⟩:=heq;split at a
  case h_2=>cases a
  rename_i df bk;unfold OU at a;split at a
  case h_2=>cases a
  rename_i b X;split at a
  case h_2=>cases a
  rename_i cs;simp only[A9]at a;cases ac:Bm C K {f:=r.f,π,raw:=true,ci,rnd:=true,nt:=r.nt} F 0 r.body {y with heap:=y.heap.put id (.loop {b with state:=.busy})}with
  |err e=>rw[ac]at a;cases a
  |ok U=>
   rw[ac]at a;obtain⟨o,N⟩:=U;unfold Qj at a;simp only at a;split at a
   case h_2=>cases a
   rename_i b8;unfold cq at a;split at a
   case h_2=>cases a
   rename_i U a0;have dm: ∀{s p},G2 P C b→G2 P C {b with state:=s,wl:=p}:=fun h=>h
   refine⟨fun f cc=>(by cases cc),fun _ ar ag A β=>?_,fun h=>zEW,fun h=>zEW,fun ar ag=>?_⟩
   .obtain⟨⟨fn,L⟩,av,az,bc⟩:=ar id r rfl;intro w vs H a6 bi;refine⟨cp,fun k l ch Y cn=>?_⟩;obtain⟨bl,B,dn,bo,ds,d0,c6,c7,c8,c9,bs,c'⟩:=H.obj id _ ch;rw[Y]at B;cases B;rw[cn]at bo;cases bo;rw[c6];have a': ¬π<:+id:=fun be=>by rw[a6 id be]at Y;cases Y
    refine Vf L ?_;rw[c8];have cx:(Ic l vs).size=r.nt:=by
     unfold Ic;rw[←Array.foldl_toList,fG,bs]
    have c4:Si A {f:=r.f,π,raw:=true,ci,rnd:=true,nt:=r.nt} ⟨r.nt,w.heap.size⟩ β w {env:=e,heap:=h,base:=0,defs:=[]} {tmps:=Ic l vs,defers:=[]}:=by
     refine⟨H,⟨cx,?_,trivial⟩,fun n _ id cl=>a6 id ((F5 n π).trans cl),fun h=>zEW,Es _⟩;have:=SX (us:=vs.toList) a5 (by rw[bi.1];simp) (fun i x v b7 h2=>bi.2 i x v b7 zEz) (fun t c0=>by rw[bs];exact bc t c0) c';unfold Ic;rw[←Array.foldl_toList,Array.toList_zip,c7];exact this
    obtain⟨Q,c2⟩:=P6 (ro:=some k.b) (fr:={f:=r.f,π,raw:=true,ci,rnd:=true,nt:=r.nt}) z.cfg W (fun h=>zEW) z.mixed ⟨fn,L⟩ F 0 r.pm _ .normal y av Z ag;refine(c2 A ⟨r.nt,w.heap.size⟩ β w _ rfl c4).1.mono fun ad a3 b3 post=>?_;cases ad with
    |normal=>
     obtain⟨_,O,g1,S⟩:=post;have a1:O id=some k:=by rw[g1.out id a'];exact Y
     obtain⟨bl,B,T,bx,de,b0,d2,d3,d4,d5,d7,d6⟩:=S.hr.obj id _ X;rw[a1]at B;cases B;refine⟨_,ku bx (by rw[de];exact cs),?_⟩;have I:=Wh (π:=π) S.hr X a1 bx bk .busy T.pending;rw[b0]at I;have b4:({b with state:=LoopState.busy,wl:=b.wl}:Lp)={b with state:=.busy}:=rfl
     have b5:({T with state:=LoopState.busy,pending:=b.wl}:Loop)={T with state:=.busy}:=by rw[←b0]
     rw[b4,b5]at I;have c5:Si A {f:=r.f,π,raw:=true,ci,rnd:=true,nt:=r.nt} ⟨r.nt,w.heap.size⟩ O (World.ip b3 k.b (.loop {T with state:=.busy})) {y with heap:=y.heap.put id (.loop {b with state:=.busy})} a3:=
      ⟨I.hr,S.s.mono (.refl O) I.it,S.fresh,fun h=>zEW,IP S.lb I.it.size⟩
     have ai:LW (G2 P C) (y.heap.put id (.loop {b with state:=.busy})):=Q.put fun bv R=>by
      cases R;exact Q id b X
     obtain⟨V,c3⟩:=P6 (ro:=some k.b) (fr:={f:=r.f,π,raw:=true,ci,rnd:=true,nt:=r.nt}) z.cfg W (fun h=>zEW) z.mixed ⟨fn,L⟩ F 0 r.body _ o N az ac ai;rw[c9];refine(c3 A ⟨r.nt,w.heap.size⟩ O _ a3 rfl c5).1.mono fun ad a4 a2 post=>?_;have D: ∀{u:BH},CL A ci π O (World.ip b3 k.b (.loop {T with state:=.busy})) (y.heap.put id (.loop {b with state:=.busy})) u a2 N.heap→Si A {f:=r.f,π,raw:=true,ci,rnd:=true,nt:=r.nt} ⟨r.nt,w.heap.size⟩ u a2 N a4→
      ∀(j:Option Code),KY id N.heap U j=.ok M→ ∃v w',(Instr.endRound k.b j).run P a2=.ok v w'∧Pj A ci π β w h M (.returned v) w':=by
      intro u m q j J;have a7:u id=some k:=by rw[m.out id a'];exact a1
      obtain⟨bl,B,dq,b2,d8,d9,d',ea,eb,ej,ek,u8⟩:=q.hr.obj id _ a0;rw[a7]at B;cases B;refine⟨_,_,yB b2 j,?_⟩;have b6:=Wh (π:=π) q.hr a0 a7 b2 bk (if j.isNone then .ready else .done) j;unfold KY at J;simp only[E.ok.injEq]at J;subst J;refine⟨u,?_,.d (.bool _)⟩;have be:(match j with|none=>LoopState.ready|some _=>LoopState.done)=(if j.isNone then LoopState.ready else LoopState.done):=by cases j<;>rfl
      have g:=((g1.trans I).trans m).trans b6;cases j with
      |none=>exact g
      |some c=>exact g
     cases ad with
     |normal=>
      obtain⟨rfl,u,m,q⟩:=post;exact D m q none a
     |ret=>
      obtain⟨rfl,u,m,q⟩:=post;exact D m q (some .ret) a
     |exit x=>
      obtain⟨rfl,u,m,q⟩:=post;exact D m q (some (.exit x)) a
     |panic chain=>
      obtain⟨v,b1,u,rfl,rfl,m,q,c1⟩:=post;simp only[E.ok.injEq]at a;subst a;refine⟨?_,u,(g1.trans I).trans m,b1,rfl,c1⟩;have:=q.s.defs;rw[b8]at this;cases b':a4.defers with
      |nil=>rfl
      |cons d l=>rw[b']at this;exact this.elim
     |goto l=>exact post.elim
     |outgrown=>exact post.elim
    |exit x=>obtain⟨h,_⟩:=post;cases h
    |ret=>obtain⟨h,_⟩:=post;cases h
    |panic chain=>obtain⟨v,b1,O,h,_⟩:=post;cases h
    |goto l=>exact post.elim
    |outgrown=>exact post.elim
   .obtain⟨⟨fn,L⟩,av,az,bc⟩:=ar id r rfl;have Q:=(P6 (ro:=some 0) (fr:={f:=r.f,π,raw:=true,ci,rnd:=true,nt:=r.nt}) z.cfg W (fun h=>zEW) z.mixed ⟨fn,L⟩ F 0 r.pm _ .normal y av Z ag).1;have ai:LW (G2 P C) (y.heap.put id (.loop {b with state:=.busy})):=Q.put fun bv R=>by
     cases R;exact Q id b X
    have V:=(P6 (ro:=some 0) (fr:={f:=r.f,π,raw:=true,ci,rnd:=true,nt:=r.nt}) z.cfg W (fun h=>zEW) z.mixed ⟨fn,L⟩ F 0 r.body _ o N az ac ai).1;have D: ∀j,KY id N.heap U j=.ok M→LW (G2 P C) M.2:=by
     intro j J;unfold KY at J;simp only[E.ok.injEq]at J;subst J;exact V.put fun bv R=>by
      cases R;exact V id U a0
    cases o with
    |normal=>exact D _ a
    |ret=>exact D _ a
    |exit x=>exact D _ a
    |ge v=>
     simp only[E.ok.injEq]at a;subst a;exact V
theorem R7(b:ZB P mix C)(c: ∀f,C.i9 f=true→qf P C f)(m:Nat): ∀n,Dv P (G2 P C) (JF P C m n)
 |0=>fun t args h π raw ci r a=>by simp[JF]at a
 |n+1=>fun t args h π raw ci r a=>by
  have e:=R7 b c m n;cases t with
  |fn f=>
   simp only[JF]at a;split at a
   .rename_i g;exact sv b e (c f g) a
   .cases a
  |round id lp=>
   simp only[JF]at a;split at a
   .exact cr b e a
   .cases a
variable{P:Program}{C:DD}{mix:List TypeId}
structure Qu where
 t:B0
 args:List AV
 h:AD
 π:List Nat
 raw:Bool
 ci:Option (List Nat)
def ask(K:Ab)(q:Qu):E (Ax×AD):=K q.t q.args q.h q.π q.raw q.ci
def Oc(K K':Ab)(L:List Qu):Prop:= ∀q∈L,∀r,ask K q=.ok r→ask K' q=.ok r
variable{K K':Ab}{L:List Qu}
theorem Oc.left{M:List Qu}(h:Oc K K' (L++M)):Oc K K' L:=fun q a=>h q (Hm _ a)
theorem Oc.right{M:List Qu}(h:Oc K K' (L++M)):Oc K K' M:=fun q a=>h q (HU _ a)
def H9.i9:H9→Prop
 |.err _=>False
 |_=>True
def qy{α:Type}(K:Ab)(f:Ab→α)(i9:α→Prop):Prop:=i9 (f K)→ ∃L,∀K',Oc K K' L→f K'=f K
variable{α:Type}
theorem Np{b:α→Prop}(q:Qu)(g:E (Ax×AD)→α)(c: ∀l,¬b (g (.err l))):qy K (fun K=>g (ask K q)) b:=by
 intro e;refine⟨[q],fun K' h=>?_⟩;cases a:ask K q with
 |err l=>exact absurd (by simpa[a]using e) (c l)
 |ok r=>simp only[a,h q AG r a]
theorem EP{a:α→Prop}(x:α):qy K (fun _=>x) a:=fun _=>⟨[],fun _ _=>rfl⟩
variable{ρ:List Nat}{dst:Option Tmp}
theorem Ng(l:List Nat): ¬(FB ρ dst st (.err l)).i9:=fun h=>h
theorem Ys{as:List AV}(l:List Nat): ¬(EH fr as dst st (.err l)).i9:=fun h=>h
theorem iZ(l:List Nat): ¬(Qi dst st (.err l)).i9:=fun h=>h
variable{args:List AV}
theorem SF{a:AV}:qy K (fun K=>E4 C K fr ρ a args dst st) H9.i9:=by
 unfold E4;cases a with
 |ws id=>
  simp only[Kl];cases st.heap.get id with
  |none=>exact EP _
  |some o=>cases o with
   |loop r=>exact Np ⟨.round id r,args,st.heap,ρ,true,fr.ci⟩ _ Ng
   |_=>exact EP _
 |fn f first cap=>
  simp only[Bk,ER];split
  .exact Np ⟨.fn f,_,st.heap,ρ,true,fr.ci⟩ _ Ng
  .split
   .exact Np ⟨.fn f,_,[],_,false,none⟩ _ Ys
   .simp only[GP,Bk,CQ,A9];split
    .exact Np ⟨.fn f,_,_,ρ,true,some ρ⟩ _ iZ
    .split
     .exact Np ⟨.fn f,_,_,ρ,true,fr.ci⟩ _ Ng
     .exact EP _
 |_=>exact EP _
theorem dE{o:Oper}:qy K (fun K=>C5 C K fr ops ρ o st) H9.i9:=by
 unfold C5;cases N9 ops st.env o with
 |none=>exact EP _
 |some b=>cases b with
  |false=>exact EP _
  |true=>
   simp only[Bc];split
   .split
    .exact SF
    .simp only[G3];split
     .split
      .exact SF
      .exact EP _
     .exact EP _
    .exact EP _
   .exact EP _
   .exact EP _
   .exact EP _
def E.i9{α:Type}:E α→Prop
 |.ok _=>True
 |.err _=>False
theorem SY{K:Ab}{fr:Fr}{ops:Array Oper}{b:Nat}{alone:Nat→Bool}: ∀(l:List Oper) (i:Nat) (st:St),qy K (fun K=>Dk C K fr ops b alone l i st) E.i9
 |[],i,st=>EP _
 |o::l,i,st=>by
  intro a;simp only[Dk,Iv]at a⊢;have k:=dE (C:=C) (K:=K) (fr:=fr) (ops:=ops) (ρ:=(b+i)::fr.π) (o:=o) (st:=st);cases c:C5 C K fr ops ((b+i)::fr.π) o st with
  |err e=>simp only[c]at a;exact a.elim
  |ge v st'=>
   obtain⟨L,f⟩:=k (by simp only[c];trivial);refine⟨L,fun K' h=>?_⟩;have:=f K' h;simp only at this;rw[this,c]
  |ok st' p=>
   obtain⟨L,f⟩:=k (by simp only[c];trivial);simp only[c]at a;have n:=SY (K:=K) (fr:=fr) (ops:=ops) (b:=b) (alone:=alone) l (i+1) st';cases g:Dk C K fr ops b alone l (i+1) st' with
   |err e=>simp only[g]at a;exact a.elim
   |ok r=>
    obtain⟨M,m⟩:=n (by simp only[g];trivial);refine⟨L++M,fun K' h=>?_⟩;have j:=f K' h.left;have h2:=m K' h.right;simp only at j h2;rw[j,c];simp only;rw[h2,g]
theorem N5: ∀(n b:Nat) (c:Code) (st:St),(Bm C K fr n b c st).i9→ ∃L,∀K' n',n≤n'→Oc K K' L→Bm C K' fr n' b c st=Bm C K fr n b c st:=by
 intro n;induction n with
 |zero=>intro b c st a;simp[Bm,E.i9]at a
 |succ n s=>
  intro b c st a;have up: ∀{L:List Qu},(∀K' n',n≤n'→Oc K K' L→Bm C K' fr (n'+1) b c st=Bm C K fr (n+1) b c st)→ ∃L,∀K' n',n+1≤n'→Oc K K' L→Bm C K' fr n' b c st=Bm C K fr (n+1) b c st:=by
   intro L h;refine⟨L,fun K' n' k j=>?_⟩;obtain⟨m,rfl⟩: ∃m,n'=m+1:=⟨n'-1,AA⟩;exact h K' m AA j
  cases c with
  |skip=>exact zC1
  |label l=>exact zC1
  |exit id=>exact zC1
  |ret=>exact zC1
  |goto l=>simp[Bm,E.i9]at a
  |scope x=>simp[Bm,E.i9]at a
  |refuse=>simp[Bm,E.i9]at a
  |seq x y=>
   simp only[Bm]at a;cases p:Bm C K fr n b x st with
   |err e=>rw[p]at a;exact a.elim
   |ok r=>
    rw[p]at a;obtain⟨L,q⟩:=s b x st (by rw[p];trivial);obtain⟨o,F⟩:=r;cases o with
    |normal=>
     obtain⟨M,z⟩:=s b y F a;refine up (L:=L++M) fun K' n' k j=>?_;simp only[Bm,q K' n' k j.left,p,EF];exact z K' n' k j.right
    |exit id=>exact zB8
    |ret=>exact zB8
    |ge v=>exact zB8
  |cond c x y=>
   simp only[Bm]at a;cases u:ev st.env.get c with
   |d d=>cases d with
    |bool t=>
     rw[u]at a;cases t with
     |true=>
      obtain⟨L,q⟩:=s b x st a;exact zDj
     |false=>
      obtain⟨L,q⟩:=s b y st a;exact zDj
    |_=>rw[u]at a;exact a.elim
   |_=>rw[u]at a;exact a.elim
  |block id x=>
   simp only[Bm]at a;cases p:Bm C K fr n id x st with
   |err e=>rw[p]at a;exact a.elim
   |ok r=>
    obtain⟨L,q⟩:=s id x st (by rw[p];trivial);exact up (L:=L) fun K' n' k j=>by simp only[Bm,q K' n' k j]
  |loop x=>
   simp only[Bm,MB]at a;cases p:Bm C K fr n b x (Fg C fr b st)with
   |err e=>rw[p]at a;exact a.elim
   |ok r=>
    rw[p]at a;obtain⟨L,q⟩:=s b x _ (by rw[p];trivial);obtain⟨o,F⟩:=r;cases o with
    |normal=>
     obtain⟨M,z⟩:=s b (.loop x) F a;refine up (L:=L++M) fun K' n' k j=>?_;simp only[Bm,MB,q K' n' k j.left,p,EF];exact z K' n' k j.right
    |exit id=>exact zB0
    |ret=>exact zB0
    |ge v=>exact zB0
  |region id ops H=>
   simp only[Bm,E5]at a;cases I:Dk C K fr ops st.base (fun i=> !H||C.alone fr.f id i) ops.toList 0 st with
   |err e=>rw[I]at a;exact a.elim
   |ok r=>
    obtain⟨L,q⟩:=SY (C:=C) (K:=K) (fr:=fr) (ops:=ops) (b:=st.base) (alone:=fun i=> !H||C.alone fr.f id i) ops.toList 0 st (by simp only[I];trivial);refine up (L:=L) fun K' n' k j=>?_;have:=q K' j;simp only at this;simp only[Bm,E5,this]
  |rangeFunc g ps pm body=>
   simp only[Bm,HV]at a⊢;cases D:fr.rnd with
   |true=>rw[D]at a;exact a.elim
   |false=>
    rw[D]at a;simp only[Iv,A9,LP]at a;cases A:ev st.env.get g with
    |fn f first cap=>
     rw[A]at a;simp only[Bk]at a;cases B:K (.fn f) (first++[.ws (0::st.base::fr.π)]++cap) (st.heap.put (0::st.base::fr.π) (.loop {state:=.ready,wl:=none,f:=fr.f,env:=st.env,params:=ps.toList,pm:=pm,body:=body,nt:=fr.nt})) ((st.base+1)::fr.π) true fr.ci with
     |err e=>rw[B]at a;exact a.elim
     |ok r=>
      refine⟨[⟨.fn f,first++[.ws (0::st.base::fr.π)]++cap,st.heap.put (0::st.base::fr.π) (.loop {state:=.ready,wl:=none,f:=fr.f,env:=st.env,params:=ps.toList,pm:=pm,body:=body,nt:=fr.nt}),(st.base+1)::fr.π,true,fr.ci⟩],fun K' n' k j=>?_⟩;obtain⟨m,rfl⟩: ∃m,n'=m+1:=⟨n'-1,AA⟩;have w:=j _ (Ac.2 rfl) r B;unfold ask at w;simp only at w;simp only[Bm,HV,D,Iv,A9,LP,A,Bk,w,B]
    |_=>rw[A]at a;exact a.elim
theorem E.good_of{x:E α}{r:α}(h:x=.ok r):x.i9:=by rw[h];trivial
variable{n:Nat}{h:AD}{π:List Nat}{raw:Bool}{ci:Option (List Nat)}
theorem PR{r:Ax×AD}(a:Qn P C K n f args h π raw ci=.ok r):
 ∃L,∀K' n',n≤n'→Oc K K' L→Qn P C K' n' f args h π raw ci=.ok r:=by
 unfold Qn at a⊢;cases g:P.funcs[f]? with
 |none=>rw[g]at a;cases a
 |some fn=>
  rw[g]at a;simp only at a⊢;cases b:fn.body with
  |none=>rw[b]at a;cases a
  |some c=>
   rw[b]at a;simp only at a⊢;cases i:Nat.ble args.length fn.ntmps with
   |false=>rw[i]at a;cases a
   |true=>
    rw[i]at a;simp only at a⊢;cases j:Bm C K {f,π,raw,ci,nt:=fn.ntmps} n 0 c {env:=Dx 0 args,heap:=h,base:=0,defs:=[]}with
    |err e=>rw[j]at a;cases a
    |ok o=>
     obtain⟨L,k⟩:=N5 n 0 c _ (E.good_of j);exact⟨L,fun K' n' l m=>by rw[k K' n' l m];exact a⟩
variable{lp:Lp}
theorem LH{id:Id}{r:Ax×AD}(a:H0 C K n id lp args h π ci=.ok r):
 ∃L,∀K' n',n≤n'→Oc K K' L→H0 C K' n' id lp args h π ci=.ok r:=by
 unfold H0 at a⊢;cases p:Er lp.env lp.params args with
 |none=>rw[p]at a;cases a
 |some e=>
  rw[p]at a;simp only at a⊢;cases i:Bm C K {f:=lp.f,π,raw:=true,ci,rnd:=true,nt:=lp.nt} n 0 lp.pm {env:=e,heap:=h,base:=0,defs:=[]}with
  |err e=>rw[i]at a;cases a
  |ok x=>
   obtain⟨L,v⟩:=N5 n 0 lp.pm _ (E.good_of i);rw[i]at a;obtain⟨o,b⟩:=x;have body: ∀{r:Ax×AD},JY C K n id lp π ci (.ok (o,b))=.ok r→ ∃M,∀K' n',n≤n'→Oc K K' M→JY C K' n' id lp π ci (.ok (o,b))=.ok r:=by
    intro r a;cases o with
    |normal=>
     simp only[JY]at a⊢;cases k:b.defs with
     |cons d l=>simp only[k]at a;cases a
     |nil=>
      cases s:K4 ci [(id,.box [])]with
      |false=>simp only[k,s]at a;cases a
      |true=>
       simp only[k,s]at a⊢;unfold OU at a⊢;cases m:b.heap.get id with
       |none=>simp only[m]at a;cases a
       |some w=>
        cases w with
        |loop u=>
         simp only[m]at a⊢;cases q:u.state with
         |ready=>
          simp only[q,A9]at a⊢;cases t:Bm C K {f:=lp.f,π,raw:=true,ci,rnd:=true,nt:=lp.nt} n 0 lp.body {b with heap:=b.heap.put id (.loop {u with state:=.busy})}with
          |err e=>rw[t]at a;cases a
          |ok y=>
           obtain⟨M,j⟩:=N5 n 0 lp.body _ (E.good_of t);exact⟨M,fun K' n' c g=>by rw[j K' n' c g];exact a⟩
         |_=>simp only[q]at a;cases a
        |_=>simp only[m]at a;cases a
    |_=>simp[JY]at a
   obtain⟨M,j⟩:=body a;exact⟨L++M,fun K' n' c g=>by rw[v K' n' c g.left,i];exact j K' n' c g.right⟩
theorem Oc.all(h: ∀q r,ask K q=.ok r→ask K' q=.ok r)(L:List Qu):Oc K K' L:=fun q _=>h q
theorem KD{m m':Nat}(b:m≤m'): ∀{n n':Nat},n≤n'→ ∀(q:Qu) (r:Ax×AD),ask (JF P C m n) q=.ok r→ask (JF P C m' n') q=.ok r
 |0,n',_,q,r,h=>by simp[ask,JF]at h
 |n+1,0,hn,_,_,_=>AA
 |n+1,n'+1,hn,q,r,h=>by
  have e:=KD b (Nat.le_of_succ_le_succ hn);obtain⟨t,args,g,π,raw,ci⟩:=q;unfold ask at h⊢;simp only[JF]at h⊢;cases t with
  |fn f=>
   simp only at h⊢;cases c:C.i9 f with
   |false=>rw[c]at h;cases h
   |true=>
    rw[c]at h;simp only at h⊢;obtain⟨L,a⟩:=PR h;exact a _ _ b (.all e L)
  |round id lp=>
   simp only at h⊢;cases raw with
   |false=>cases h
   |true=>
    simp only at h⊢;obtain⟨L,a⟩:=LH h;exact a _ _ b (.all e L)
open Classical in
noncomputable def KL(P:Program)(C:DD):Ab:=fun t args h π raw ci=>
 if hx: ∃r n,JF P C n n t args h π raw ci=.ok r then .ok hx.choose else .err []
variable{q:Qu}
theorem hQ{r:Ax×AD}{m:Nat}(h:ask (JF P C m n) q=.ok r):ask (KL P C) q=.ok r:=by
 have a: ∃r n,JF P C n n q.t q.args q.h q.π q.raw q.ci=.ok r:=⟨r,max m n,KD (Lt _ _) (Nl _ _) q r h⟩;unfold ask KL;rw[dif_pos a];obtain⟨k,c⟩:=a.choose_spec;have b:=KD (P:=P) (C:=C) (Lt m k) (Lt n k) q r h;have h2:=KD (P:=P) (C:=C) (Nl m k) (Nl n k) q _ c;rw[b]at h2;injection h2 with h2
 rw[h2]
theorem hJ{r:Ax×AD}(h:ask (KL P C) q=.ok r): ∃n,ask (JF P C n n) q=.ok r:=by
 unfold ask KL at h;split at h
 .rename_i b;obtain⟨n,a⟩:=b.choose_spec;simp only[E.ok.injEq]at h;rw[h]at a;exact⟨n,a⟩
 .cases h
theorem jJ(L:List Qu): ∃N,∀m n,N≤m→N≤n→Oc (KL P C) (JF P C m n) L:=by
 induction L with
 |nil=>exact⟨0,fun _ _ _ _ q l=>by cases l⟩
 |cons q L o=>
  obtain⟨N,g⟩:=o;cases c:ask (KL P C) q with
  |err e=>
   refine⟨N,fun m n h i f a r b=>?_⟩;rcases D0.1 a with rfl|a
   .rw[c]at b;cases b
   .exact g m n h i f a r b
  |ok r0=>
   obtain⟨k,j⟩:=hJ c;refine⟨max N k,fun m n h i f a r b=>?_⟩;rcases D0.1 a with rfl|a
   .rw[c]at b;cases b;exact KD AA AA _ _ j
   .exact g m n AA AA f a r b
theorem gA(c:C.i9 f=true){r:Ax×AD}(e:Qn P C (KL P C) n f args h π raw ci=.ok r):
 KL P C (.fn f) args h π raw ci=.ok r:=by
 obtain⟨L,a⟩:=PR e;obtain⟨N,b⟩:=jJ (P:=P) (C:=C) L;refine hQ (q:=⟨.fn f,args,h,π,raw,ci⟩) (m:=max N n) (n:=max N n+1) ?_;unfold ask;simp only[JF,c];exact a _ _ (Nl _ _) (b _ _ (Lt _ _) (Lt _ _))
theorem ZC{id:Id}{r:Ax×AD}(c:H0 C (KL P C) n id lp args h π ci=.ok r):
 KL P C (.round id lp) args h π true ci=.ok r:=by
 obtain⟨L,a⟩:=LH c;obtain⟨N,b⟩:=jJ (P:=P) (C:=C) L;refine hQ (q:=⟨.round id lp,args,h,π,true,ci⟩) (m:=max N n) (n:=max N n+1) ?_;unfold ask;simp only[JF];exact a _ _ (Nl _ _) (b _ _ (Lt _ _) (Lt _ _))
theorem qi(a:ZB P mix C)(b: ∀f,C.i9 f=true→qf P C f):Dv P (G2 P C) (KL P C):=by
 intro t args h π raw ci r e;obtain⟨n,c⟩:=hJ (q:=⟨t,args,h,π,raw,ci⟩) e;exact R7 a b n n t args h π raw ci r c
end Go.Abs
