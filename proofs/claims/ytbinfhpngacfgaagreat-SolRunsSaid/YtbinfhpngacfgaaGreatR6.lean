/- P -/
import Derived.LoopNIn
import Derived.Test.YtbinfhpngacfgaaGreatR5
set_option linter.all false
namespace Go
def zE2{p:Prop}(h:p:=by simpa using h2):p:=h
def zFY{p:Prop}(h:p:=by rw[p];exact n):p:=h
end Go
namespace Go
def zBW{p:Prop}(h:p:=by
 obtain⟨a,k,s,m⟩:=post;have I:p=none:=by
  rcases N with⟨h2,j⟩|⟨h2,j⟩|⟨v,h2,j⟩
  .exact j
  .exact j
  .rw[a]at h2;cases h2
 subst I;exact go s m rfl):p:=h
def zBn{p:Prop}(h:p:=by simp only[EU,E.ok.injEq,F9]at f;exact plain AG (stop f (by rw[<-f.1];simp))):p:=h
def zBx{p:Prop}(h:p:=by simp only[IQ,E.ok.injEq,F9]at f;exact⟨f.2,.inr ⟨AG,f.1.symm⟩⟩):p:=h
def zB0{p:Prop}(h:p:=by exact up (L:=L) fun K' n' k j=>by simp only[Bo,MY,q K' n' k j,p,EU]):p:=h
def zB6{p:Prop}(h:p:=by simp only[EU,E.ok.injEq,F9]at f;exact stop f (by rw[<-f.1];simp)):p:=h
def zB8{p:Prop}(h:p:=by exact up (L:=L) fun K' n' k j=>by simp only[Bo,q K' n' k j,p,EU]):p:=h
def zCI{p:Prop}(h:p:=by obtain⟨c,elem,j,h2,g,m,n,q,s⟩:=h;exact⟨c,elem,A j AG,h2,g,m,n,q,fun i x v a b=>(s i x v a b).other u⟩):p:=h
def zCe{p:Prop}(h:p:=by obtain⟨h,_⟩:=p;cases h):p:=h
def zCm{p:Prop}(h:p:=by obtain⟨b,c,a,i⟩:=p;exact⟨b,c,g.trans a,i⟩):p:=h
def zCy{p:Prop}(h:p:=by exact up (L:=[]) fun _ _ _ _=>rfl):p:=h
def zC3{p:Prop}(h:p:=by exact⟨_,c,g,j,up AG i⟩):p:=h
def zDe{p:Prop}(h:p:=by exact up (L:=L) fun K' n' k j=>by simp only[Bo,u,L1,q K' n' k j]):p:=h
def zED{p:Prop}(h:p:=by simp only[E.ok.injEq,F9]at b;exact⟨b.1.symm,b.2.symm⟩):p:=h
def zER{p:Prop}(h:p:=by exact⟨_,m,o,i,.of_steps j g⟩):p:=h
def zES{p:Prop}(h:p:=by obtain⟨v,V,O,h,_⟩:=p;cases h):p:=h
end Go
namespace Go.Abs
variable{P:Program}{f:FuncId}{ro:Option Nat}{Q Q':Exit->Act->World->Prop}{a:Act}{w:World}
abbrev rP(P:Program):Machine->Prop:=Machine.fenced P Fence.wide
def Cg(P:Program)(f:FuncId)(ro:Option Nat)(c:Code)(Q:Exit->Act->World->Prop)(a:Act)(w:World):Prop:=
 ∀(b:Frame) (k:List Item) (cs:List Frame),b.roundOf=ro->b.fn=f->
  ∃e a' w',Q e a' w'/\ArrivesIn (rP P) P (lone (b.atR a (.code c::k)) cs w) b k cs e a' w'
variable{m m':Machine}
def one(h:step P m=.next m'):StepsIn (rP P) P m m':=.one (fenced_wide P m) h
def head{a:Machine}(h:step P m=.next a)(h':StepsIn (rP P) P a m'):StepsIn (rP P) P m m':=.head (fenced_wide P m) h h'
variable{c:Code}
def Cg.mono(h:Cg P f ro c Q a w)(i: ∀e a w,Q e a w->Q' e a w):Cg P f ro c Q' a w:=
 fun b k cs g h2=>let ⟨e,a',w',q,r⟩:=h b k cs g h2;⟨e,a',w',i _ _ _ q,r⟩
def Cg.of_wp(h:c.wpIn (FF ro) 0 P Q a w):Cg P f ro c Q a w:=
 fun b k cs e _=>h b k cs e trivial fun _ g=>(by cases g)
def Cg.skip(h:Q .normal a w):Cg P f ro .skip Q a w:=fun _ _ _ _ _=>⟨.normal,a,w,h,one stepR_skip⟩
def Cg.label{l:Nat}(h:Q .normal a w):Cg P f ro (.label l) Q a w:=fun _ _ _ _ _=>⟨.normal,a,w,h,one stepR_label⟩
def Cg.exit{id:Nat}(h:Q (.exit id) a w):Cg P f ro (.exit id) Q a w:=
 fun _ k _ _ _=>⟨.exit id,a,w,h,fun _ b=>one (stepR_exit b),fun _ b=>⟨k,b,.refl _⟩⟩
def Cg.ret(h:Q .ret a w):Cg P f ro .ret Q a w:=
 fun _ k _ _ _=>⟨.ret,a,w,h,fun b=>⟨_,one (stepR_ret b)⟩,fun _=>⟨k,.refl _⟩⟩
def Cg.seq{x y:Code}(h:Cg P f ro x (Exit.then (Cg P f ro y Q) Q) a w):Cg P f ro (.seq x y) Q a w:=by
 intro b k cs m h2;obtain⟨e,c,g,j,i⟩:=h b (.code y::k) cs m h2;have n:StepsIn (rP P) P (lone (b.atR a (.code (.seq x y)::k)) cs w) (lone (b.atR a (.code x:: .code y::k)) cs w):=one stepR_seq;have up: ∀{e},e≠Exit.normal->ArrivesIn (rP P) P (lone (b.atR a (.code x:: .code y::k)) cs w) b (.code y::k) cs e c g->ArrivesIn (rP P) P (lone (b.atR a (.code (.seq x y)::k)) cs w) b k cs e c g:=
  fun r h=>.of_steps n (.pass (x:=.code y) rfl (fun _ _=>.inl r) h)
 cases e with
 |normal=>
  obtain⟨p,o,t,s,q⟩:=j b k cs m h2;exact⟨p,o,t,s,.of_steps (n.trans i) q⟩
 |exit id=>exact zC3
 |goto l=>exact zC3
 |ret=>exact zC3
 |panic ch=>exact zC3
 |outgrown=>exact zC3
def Cg.cond{c:Operand}{x y:Code}{t:Bool}(i:a.eval c=.bool t)(h:Cg P f ro (if t then x else y) Q a w):Cg P f ro (.cond c x y) Q a w:=
 fun b k cs g h2=>let ⟨e,a',w',q,r⟩:=h b k cs g h2;⟨e,a',w',q,.of_steps (one (stepR_cond i)) r⟩
def Cg.block{id:Nat}(h:Cg P f ro c (Exit.inBlock id Q) a w):Cg P f ro (.block id c) Q a w:=by
 intro b k cs u h2;have j:StepsIn (rP P) P (lone (b.atR a (.code (.block id c)::k)) cs w) (lone (b.atR a (.code c:: .inBlock id::k)) cs w):=one stepR_block;obtain⟨e,m,o,i,g⟩:=h b (.inBlock id::k) cs u h2;cases e with
 |normal=>exact⟨.normal,m,o,i,j.trans (StepsIn.trans g (one stepR_inBlock))⟩
 |exit q=>
  by_cases r:q=id
  .simp only[Exit.inBlock,r,F6]at i;exact⟨.normal,m,o,i,j.trans (g.1 k (by simp[exitTo,r]))⟩
  .simp only[Exit.inBlock,r,FN]at i;have v:(id==q)=false:=by simp;exact fun h=>r h.symm
   have p:exitTo q (.inBlock id::k)=exitTo q k:=by simp[exitTo,v]
   exact⟨.exit q,m,o,i,fun t n=>j.trans (g.1 t zFY),
    fun s n=>let ⟨k1,g1,g2⟩:=g.2 s zFY;⟨k1,g1,j.trans g2⟩⟩
 |goto l=>
  have p:gotoIn l (.inBlock id::k)=gotoIn l k:=by simp[gotoIn]
  exact⟨_,m,o,i,fun t n=>j.trans (g.1 t zFY),
   fun s n=>let ⟨k1,g1,g2⟩:=g.2 s zFY;⟨k1,g1,j.trans g2⟩⟩
 |ret=>exact zER
 |panic ch=>exact zER
 |outgrown=>exact zER
def HX(P:Program)(f:FuncId)(ro:Option Nat)(c:Code)(Q:Exit->Act->World->Prop):Nat->Act->World->Prop
 |0,_,_=>False
 |m+1,a,w=>Cg P f ro c (Exit.then (HX P f ro c Q m) Q) a w
def Cg.loop(m:Nat)(h:HX P f ro c Q m a w):Cg P f ro (.loop c) Q a w:=by
 intro b k cs r h2;have key: ∀m a w,HX P f ro c Q m a w-> ∃e i w',Q e i w'/\ArrivesIn (rP P) P (lone (b.atR a (.code c:: .inLoop c::k)) cs w) b k cs e i w':=by
  intro m;induction m with
  |zero=>intro a w h;exact h.elim
  |succ m v=>
   intro a w h;obtain⟨e,n,o,g,j⟩:=h b (.inLoop c::k) cs r h2;have up:e≠Exit.normal->Q e n o-> ∃e i w',Q e i w'/\ArrivesIn (rP P) P (lone (b.atR a (.code c:: .inLoop c::k)) cs w) b k cs e i w':=
    fun t g=>⟨e,n,o,g,.pass (x:=.inLoop c) rfl (fun _ _=>.inl t) j⟩
   cases e with
   |normal=>
    obtain⟨q,p,y,u,s⟩:=v n o g;exact⟨q,p,y,u,.of_steps (StepsIn.trans j (one stepR_inLoop)) s⟩
   |exit id=>exact up AG g
   |goto l=>exact up AG g
   |ret=>exact up AG g
   |panic ch=>exact up AG g
   |outgrown=>exact up AG g
 obtain⟨e,i,w',g,j⟩:=key m a w h;exact⟨e,i,w',g,.of_steps (one stepR_loop) j⟩
variable{ps:Array Tmp}{of body:Code}
def Cg.range{g:Operand}{l:Nat}{mark:List Deferred}{x z y:World}{d:Deferred}{fn:FuncId}{args:Array Value}
 (p:(Instr.enterLoop f a.tmps ps of body ro).run P w=.ok (l,mark) x) (I:(resolve a.eval (rangeCall g l) 0).run P x=.ok d y)
 (F:(invoke d.target d.args).run P y=.ok (.enter fn args) z)
 (C:Calls P fn args z fun e j=>match e with
  |.returned _=> ∃i h,(Instr.endLoop l).run P j=.ok i h/\(match i with
   |none=>Q .normal {a with defers:=mark++a.defers} h
   |some c=>Cg P f ro c Q {a with defers:=mark++a.defers} h)
  |.panicked chain=>Q (.panic chain) {a with defers:=mark++a.defers} j
  |.outgrown=>False):Cg P f ro (.rangeFunc g ps of body) Q a w:=by
 intro b k cs o h2;rw[<-o,<-h2]at p;have q:=stepR_rangeFunc (P:=P) (b:=b) (a:=a) (k:=k) (cs:=cs) (w:=w) p I F;obtain⟨e,j,fr,m,t,K,s⟩:=(callsIn_wide (n:=0).2 C).2 (b.atR {a with defers:=mark++a.defers} (.inRangeFunc l::k)::cs) (room_wide _)
 cases e with
 |outgrown=>exact m.elim
 |returned v=>
  obtain⟨i,h,D,r⟩:=m;have u:StepsIn (rP P) P (lone (b.atR a (.code (.rangeFunc g ps of body)::k)) cs w) (lone (b.atR {a with defers:=mark++a.defers} ((i.map Item.code).toList++k)) cs h):=by
   refine head q (StepsIn.trans t (head ?_ (one (stepR_endRangeFunc D))));rw[<-finish_atR_inRangeFunc l v];exact step_leave_returned s
  cases i with
  |none=>exact⟨.normal,_,h,r,u⟩
  |some c=>
   obtain⟨e',A,J,H,B⟩:=r b k cs o h2;exact⟨e',A,J,H,.of_steps u B⟩
 |panicked chain=>
  refine⟨.panic chain,_,j,m,.inRangeFunc l::k,head q (StepsIn.trans t (one ?_))⟩;rw[<-Frame.raise_atR];exact step_leave_panicked s
variable{fn:Func}{R:Ending->World->Prop}
def Vy{args:Array Value}(q:P.funcs[f]? =some fn)(u:fn.body=some c)
 (h:Cg P f none c (bodyPostM Fence.wide 0 P fn R) {tmps:=args++Array.replicate (fn.ntmps-args.size) undef,defers:=[]} w):Calls P f args w R:=by
 refine callsIn_wide (n:=0).1 ⟨trivial,fun cs r=>?_⟩
 let b:Frame:={(default:Frame)with fn:=f,kind:=.normal,roundOf:=none}
 have v:Frame.enter P f args .normal=b.atR {tmps:=args++Array.replicate (fn.ntmps-args.size) undef,defers:=[]} [.code c]:=by
  simp[Frame.enter,Frame.atR,q,u,b]
 obtain⟨e,a,w',g,k⟩:=h b [] cs rfl rfl;rw[<-v]at k;cases e with
 |normal=>
  obtain⟨e',w'',i,j,p,m,o⟩:=leaves_stepsInM a.defers .returning w' {b.atR a []with mode:=.returning} cs rfl rfl rfl q rfl trivial r g
  exact⟨e',w'',i,j,ComesIn.of_steps (StepsIn.trans k (one (stepR_end rfl))) p,m,o⟩
 |ret=>
  obtain⟨t,s⟩:=k.1 rfl;obtain⟨e',w'',i,j,p,m,o⟩:=leaves_stepsInM a.defers .returning w' {b.atR a t with mode:=.returning} cs rfl rfl rfl q rfl trivial r g
  exact⟨e',w'',i,j,ComesIn.of_steps s p,m,o⟩
 |panic chain=>
  obtain⟨t,s⟩:=k;obtain⟨e',w'',i,j,p,m,o⟩:=leaves_stepsInM a.defers (.panicking chain) w' {b.atR a t with mode:=.panicking chain} cs rfl rfl rfl q rfl trivial r g
  exact⟨e',w'',i,j,ComesIn.of_steps s p,m,o⟩
 |exit id=>exact g.elim
 |goto l=>exact g.elim
 |outgrown=>exact⟨.outgrown,w',b,g,k.resolve_left zE9,rfl,trivial⟩
def ru(P:Program)(l:Nat)(R:Ending->World->Prop):Exit->Act->World->Prop
 |.normal,_,w=> ∃v w',(Instr.endRound l none).run P w=.ok v w'/\R (.returned v) w'
 |.ret,_,w=> ∃v w',(Instr.endRound l (some .ret)).run P w=.ok v w'/\R (.returned v) w'
 |.exit id,_,w=> ∃v w',(Instr.endRound l (some (.exit id))).run P w=.ok v w'/\R (.returned v) w'
 |.panic chain,a,w=>a.defers=[]/\R (.panicked chain) w
 |_,_,_=>False
variable{tmps:Array Value}
def WK{l:Nat}(B:P.funcs[f]? =some fn)
 (h:Cg P f (some l) of (Exit.then (fun n r=> ∃q,(Instr.beginRound l).run P r=.ok () q/\Cg P f (some l) body (ru P l R) n q) (fun _ _ _=>False)) {tmps:=tmps,defers:=[]} w):
 RoundIn Fence.wide 0 P l f tmps of body w R:=by
 refine⟨trivial,fun c cs _=>?_⟩
 let b:Frame:={(default:Frame)with fn:=f,kind:=.normal,roundOf:=some l}
 have x:Frame.round l f tmps of body .normal=b.atR {tmps:=tmps,defers:=[]} [.code of,.beginRound,.code body]:=by
  simp[Frame.round,Frame.atR,b]
 obtain⟨e,n,r,g,s⟩:=h b [.beginRound,.code body] (c::cs) rfl rfl;rw[<-x]at s;cases e with
 |normal=>
  obtain⟨q,z,y⟩:=g;have F:StepsIn (rP P) P (lone (b.atR n [.beginRound,.code body]) (c::cs) r) (lone (b.atR n [.code body]) (c::cs) q):=one (stepR_beginRound rfl z);have p:=StepsIn.trans s F;obtain⟨u,I,H,i,o⟩:=y b [] (c::cs) rfl rfl;cases u with
  |normal=>
   obtain⟨v,m,j,a⟩:=i;exact⟨.returned v,m,a,p.trans (StepsIn.trans o (one (stepR_round_end rfl rfl j)))⟩
  |ret=>
   obtain⟨v,m,j,a⟩:=i;obtain⟨D,k⟩:=o.2 rfl;exact⟨.returned v,m,a,p.trans (StepsIn.trans k (one (stepR_round_ret rfl rfl j)))⟩
  |exit id=>
   obtain⟨v,m,j,a⟩:=i;obtain⟨D,C,k⟩:=o.2 rfl rfl;exact⟨.returned v,m,a,p.trans (StepsIn.trans k (one (stepR_round_exit rfl rfl C j)))⟩
  |panic chain=>
   obtain⟨A,a⟩:=i;obtain⟨J,k⟩:=o;refine⟨.panicked chain,H,a,p.trans (StepsIn.trans k (one ?_))⟩;exact step_leave_panicked ⟨rfl,A,fn,B⟩
  |goto t=>exact i.elim
  |outgrown=>exact i.elim
 |exit id=>exact g.elim
 |goto t=>exact g.elim
 |ret=>exact g.elim
 |panic chain=>exact g.elim
 |outgrown=>exact g.elim
variable{A:Nat->Prop}{P:Program}{mix:List TypeId}{β β' β'':BK}{w w' w'':World}{h h' h'':AD}{π ρ:List Nat}{ci:Option (List Nat)}{nt:NT}{a:Act}{ro:Option Nat}
def Ey(C:DJ)(f:FuncId)(nt:Nat):Code->Bool
 |.region id ops draw=>ops.toList.all (fun o=>match o.dst with|some d=>Nat.blt d nt|none=>true)&&(!draw||wm ops (C.d9 f id) (C.alone f id))
 |.seq x y=>Ey C f nt x&&Ey C f nt y
 |.cond _ x y=>Ey C f nt x&&Ey C f nt y
 |.block _ x=>Ey C f nt x
 |.loop x=>Ey C f nt x
 |.rangeFunc _ ps of body=>ps.toList.all (fun d=>Nat.blt d nt)&&Ey C f nt of&&Ey C f nt body
 |_=>true
def HO(P:Program)(C:DJ)(r:Lp):Prop:=
 (∃fn,P.funcs[r.f]? =some fn)/\Ey C r.f r.nt r.of=true/\Ey C r.f r.nt r.body=true/\ ∀t∈r.params,t<r.nt
structure TE(A:Nat->Prop)(fr:Fr)(nt:NT)(β:BK)(w:World)(st:St)(a:Act):Prop where
 hr:HR A β w st.heap
 s:M0 A β w nt st.env.get st.defs st.heap a
 fresh:Cu β fr.π st.base
 own:fr.raw=false-> ∀id,β id≠none->fr.π<:+id
 lb:nt.lb<=w.heap.size
variable{fr:Fr}
def VL(b:fr.raw=false-> ∀id,β id≠none->fr.π<:+id)(g:CN A ci fr.π β w h β' w' h'):fr.raw=false-> ∀id,β' id≠none->fr.π<:+id:=by
 intro c id a;by_cases e:fr.π<:+id
 .exact e
 .rw[g.out id e]at a;exact b c id a
def KV(A:Nat->Prop)(fr:Fr)(nt:NT)(β:BK)(w:World)(h:AD)(o:Eh)(st':St):Exit->Act->World->Prop
 |.normal,a',w'=>o=.normal/\ ∃β',CN A fr.ci fr.π β w h β' w' st'.heap/\TE A fr nt β' w' st' a'
 |.exit id,a',w'=>o=.exit id/\ ∃β',CN A fr.ci fr.π β w h β' w' st'.heap/\TE A fr nt β' w' st' a'
 |.ret,a',w'=>o=.ret/\ ∃β',CN A fr.ci fr.π β w h β' w' st'.heap/\TE A fr nt β' w' st' a'
 |.panic chain,a',w'=> ∃v u β',o=.ge v/\chain=[{v:=u,recovered:=false}]/\CN A fr.ci fr.π β w h β' w' st'.heap/\TE A fr nt β' w' st' a'/\VR β' w' (MS A β' st'.heap) v u
 |_,_,_=>False
variable{st':St}
def KV.trans{o:Eh}{e:Exit}{f:Act}(g:CN A fr.ci fr.π β w h β' w' h')(p:KV A fr nt β' w' h' o st' e f w''):KV A fr nt β w h o st' e f w'':=by
 cases e with
 |normal=>exact zCm
 |exit id=>exact zCm
 |ret=>exact zCm
 |panic chain=>obtain⟨v,k,c,b,h2,a,i,j⟩:=p;exact⟨v,k,c,b,h2,g.trans a,i,j⟩
 |_=>exact p.elim
variable{C:DJ}{K:Ab}{fr:Fr}
def hN:Option AV->Eh
 |none=>.normal
 |some v=>.ge v
variable{b:Nat}
def Sy{out:Option AV}(i:fr.raw=false-> ∀id,β id≠none->fr.π<:+id)(f:nt.lb<=w.heap.size)(e:Exit)(a:Act)(w':World)(p:Zg A fr.ci fr.π nt β w h out st' b e a w'):
 KV A fr nt β w h (hN out) {st' with base:=b} e a w':=by
 have c: ∀{β':BK},WY A fr.ci fr.π nt β w h st' b β' a w'->TE A fr nt β' w' {st' with base:=b} a:=fun L=>
  ⟨L.ol.hr,L.s,L.fresh,VL i L.ol,IP f L.ol.it.size⟩
 cases e with
 |normal=>
  obtain⟨rfl,β',L⟩:=p;exact⟨rfl,β',L.ol,c L⟩
 |panic chain=>
  obtain⟨v,j,β',rfl,h2,L,g⟩:=p;exact⟨v,j,β',rfl,h2,L.ol,c L,g⟩
 |_=>exact p.elim
variable{ops:Array Oper}{st:St}
def qX(j:NB P mix C)(l:EC P (HO P C) K)(q:fr.wp=false->ro=none)(y:P.follows .mixedOrders=true){id:Nat}{f:Bool}{o:Eh}
 (n:Ey C fr.f fr.nt (.region id ops f)=true) (b:FP C K fr id ops f st=.ok (o,st')) (k:LW (HO P C) st.heap):
 LW (HO P C) st'.heap/\ ∀(A:Nat->Prop) (nt:NT) (β:BK) (w:World) (a:Act),nt.n=fr.nt->TE A fr nt β w st a->Cg P fr.f ro (.region id ops f) (KV A fr nt β w st.heap o st') a w:=by
 simp only[Ey,AP,D3,I8,HW]at n;obtain⟨u,D⟩:=n;have m: ∀{nt:NT},nt.n=fr.nt-> ∀o∈ops,∀d,o.dst=some d->d<nt.n:=by
  intro nt c o z d B;have:=u o (by simpa using z);rw[B]at this;rw[c];simpa[UP]using this
 unfold FP at b;cases g:Ds C K fr ops st.base (fun i=> !f||C.alone fr.f id i) ops.toList 0 st with
 |err e=>rw[g]at b;cases b
 |ok r=>
  rw[g]at b;obtain⟨⟨out,s⟩,t⟩:=r;simp only[MB]at b;split at b
  .rename_i p;have x:o=hN out/\st'={s with base:=st.base+ops.size}:=by
    simp only[JM]at b;cases out with
    |none=>exact zED
    |some v=>exact zED
   obtain⟨rfl,rfl⟩:=x;cases f with
   |false=>
    have key:=fun(nt:NT) (c:nt.n=fr.nt)=>ie (nt:=nt) (ro:=ro) j l q (m c) ops.toList 0 st s t out (It _) rfl k g;refine⟨(key ⟨fr.nt,0⟩ rfl).2.1,fun A nt β w a c i=>?_⟩;have h:=(key nt c).2.2 A β w a i.hr i.s i.fresh;refine .of_wp (wpIn_region ?_);rw[List.range_eq_range'];refine Mx (Sy i.own i.lb) ?_;simpa using h
   |true=>
    simp only[PI,I4]at p g;have F:=jM (D.resolve_left AG);have key:=fun(nt:NT) (c:nt.n=fr.nt)=>yi (nt:=nt) (ro:=ro) (id:=id) j l q y F (m c) k g p;refine⟨(key ⟨fr.nt,0⟩ rfl).2.1,fun A nt β w a c i=>?_⟩;have h:=(key nt c).2.2 A β w a i.hr i.s i.fresh;exact .of_wp (wpIn_mono h (Sy i.own i.lb))
  .cases b
variable{k:Nat}{l:Loop}
def Nh(h:w.heap[k]? =some (.loop l)):(Instr.getLoop k).run P w=.ok l w:=by
 simp[Instr.getLoop,Kg h AG]
def aY(h:w.heap[k]? =some (.loop l))(a:l.state≠ .busy):
 (Instr.endLoop k).run P w=.ok l.pending (World.ip w k (.loop {l with state:=.exhausted})):=by
 simp[Instr.endLoop,Nh h,a,JD (P:=P) h AG]
def PD{fn:FuncId}:
 (Instr.enterLoop fn tmps ps of body none).run P w=.ok (w.heap.size+1,[{target:=.collected w.heap.size,args:= #[]}])
  (World.add (World.add w (.deferred (some []))) (.loop {state:=.ready,pending:=none,fn,tmps,params:=ps,assign:=of,body,defers:=w.heap.size})):=by
 simp[Instr.enterLoop];rfl
variable{o:Obj}
def oV{id:Id}{k:TH}{x:Go.Obj}(H:HR A β w h)(n:h.get id=some o)(m:o.mut=true)(j:β id=some k)(C:π<:+id)(l: ∀c o',h'.get c=some o'->h.get c=some o'/\c≠id)
 (D: ∀c,¬π<:+c->h'.get c=h.get c):CN A ci π β w h β (World.ip w k.b x) h':=by
 have J: ∀b,MS A β h' b->MS A β h b:=by
  rintro b (f|⟨c,o',g,u,h2,v,y⟩)
  .exact .inl f
  .exact .inr ⟨c,o',g,(l c o' u).1,h2,v,y⟩
 have r:FG A (MS A β h) w (MS A β h') (World.ip w k.b x):=
  ⟨fun b _ f=>GF x fun e=>f.elim (fun f=>f (.inr ⟨id,o,k,n,m,j,e.symm⟩)) (fun f=>H.out id o k n m j (e▸f)),by rw[GP];omega,fun b f=>.inl (J b f),rfl,rfl⟩
 refine⟨fun _ _=>rfl,⟨fun c o' p=>?_,fun a b N O L M z f=>H.inj a b N O L M (l _ _ z).1 (l _ _ f).1,fun c g i=>by rw[GP];exact H.bnd c g i,
  fun c o' g p=>H.out c o' g (l _ _ p).1,fun b f=>by rw[GP];exact H.abnd b f⟩,r,fun P s _=>⟨fun b _ K=>GF x fun e=>K ⟨id,k,s.trans C,j,e.symm⟩,fun _ f=>.inl f,fun c B=>D c fun F=>B (s.trans F)⟩⟩
 obtain⟨g1,t⟩:=l c o' p;obtain⟨g,i,I⟩:=H.obj c o' g1;by_cases e:g.b=k.b
 .cases q:o'.mut with
  |true=>exact absurd (H.inj c id o' o g k g1 n q m i j e) t
  |false=>
   cases o' with
   |i7 sz es=>exact⟨g,i,.inl (H.i7 n m j g1 i e)⟩
   |_=>simp[Obj.mut]at q
 .exact⟨g,i,I.mono (.refl β) r (H.bnd c g i) (GF x e)⟩
variable{A:Nat->Prop}{P:Program}{mix:List TypeId}{β β' β'':BK}{w w' w'':World}{h h' h'':AD}{π ρ:List Nat}{ci:Option (List Nat)}{nt:NT}{a:Act}{ro:Option Nat}
variable{C:DJ}{K:Ab}{fr:Fr}
def bh{b:Nat}{π:List Nat}{h:AD}:
 (∀id o,(gc (b::π) (gc ((b+1)::π) h)).get id=some o->h.get id=some o/\id≠0::b::π)/\ ∀id,¬π<:+id->(gc (b::π) (gc ((b+1)::π) h)).get id=h.get id:=by
 refine⟨fun id o a=>⟨Og (Og a),fun e=>?_⟩,fun id c=>?_⟩
 .subst e;have e:gc (b::π) (gc ((b+1)::π) h)=(gc ((b+1)::π) h).filter fun p=>Mc (b::π) p.1:=rfl;rw[e,Ud (Mc (b::π))]at a;have:Mc (b::π) (0::b::π)=false:=by
   simp only[Mc,Bool.not_eq_false'];exact(Id.under_iff _ _).2 (List.suffix_refl _)
  rw[this]at a;simp at a
 .rcases Yq (ρ:=b::π) (gc ((b+1)::π) h) id with e|⟨_,e⟩
  .rw[e];rcases Yq (ρ:=(b+1)::π) h id with e|⟨_,e⟩
   .exact e
   .exact absurd ((F5 _ _).trans e) c
  .exact absurd ((F5 _ _).trans e) c
def XK(H:HR A β w h)(c: ∀id o,h'.get id=some o->h.get id=some o)(j: ∀id,¬π<:+id->h'.get id=h.get id):CN A ci π β w h β w h':=by
 refine⟨fun _ _=>rfl,H.less c,⟨fun _ _ _=>rfl,Es _,fun b a=>?_,rfl,rfl⟩,fun n m _=>⟨fun _ _ _=>rfl,fun _ a=>.inl a,fun id i=>j id fun l=>i (m.trans l)⟩⟩;rcases a with a|⟨id,o,k,e,h2,f,g⟩
 .exact .inl (.inl a)
 .exact .inl (.inr ⟨id,o,k,c id o e,h2,f,g⟩)
variable{W:Lp->Prop}
def LW.put{id:Id}(b:LW W h)(c: ∀r,o=.loop r->W r):LW W (h.put id o):=fun e r a=>by
 rw[AD.get_put]at a;split at a
 .exact c r (Ip a)
 .exact b e r a
def wZ(b8:EC P (HO P C) K)(c':fr.wp=false->ro=none){g:Operand}{ps:Array Tmp}{of body:Code}{st st':St}{o:Eh}(cl: ∃fn,P.funcs[fr.f]? =some fn)
 (bs:Ey C fr.f fr.nt (.rangeFunc g ps of body)=true) (m:Hs K fr g ps of body st=.ok (o,st')) (b7:LW (HO P C) st.heap):
 LW (HO P C) st'.heap/\ ∀(A:Nat->Prop) (nt:NT) (β:BK) (w:World) (a:Act),nt.n=fr.nt->TE A fr nt β w st a->Cg P fr.f ro (.rangeFunc g ps of body) (KV A fr nt β w st.heap o st') a w:=by
 simp only[Ey,AP,D3]at bs;obtain⟨⟨c7,b'⟩,cc⟩:=bs;unfold Hs at m;split at m
 .cases m
 .rename_i c9;have dd:=c' c9;subst dd;simp only[JM,BB]at m;generalize bl:({state:=.ready,v6:=none,f:=fr.f,env:=st.env,params:=ps.toList,of:=of,body:=body,nt:=fr.nt}:Lp)=lp at m;have dm:HO P C lp:=by
   subst bl;exact⟨cl,b',cc,fun t df=>by simpa[UP]using c7 t df⟩
  have ar:LW (HO P C) (st.heap.put (0::st.base::fr.π) (.loop lp)):=b7.put fun r m=>by cases m;exact dm
  unfold Ln at m;split at m
  case h_2=>simp[Kp]at m
  rename_i f first cap cn
  simp only[Bn]at m;cases ai:K (.fn f) (first++[.wt (0::st.base::fr.π)]++cap) (st.heap.put (0::st.base::fr.π) (.loop lp)) ((st.base+1)::fr.π) true fr.ci with
  |err e=>rw[ai]at m;cases m
  |ok r=>
   rw[ai]at m;have W:=b8 _ _ _ _ _ _ _ ai;have av:LW (HO P C) (gc (st.base::fr.π) (gc ((st.base+1)::fr.π) r.2)):=(W.lw (fun _ _ h=>by cases h) ar).gc.gc;have a':=W.ent f rfl;have start: ∀(A:Nat->Prop) (nt:NT) (β:BK) (w:World) (a:Act),nt.n=fr.nt->TE A fr nt β w st a->
      let l:Loop:={state:=.ready,pending:=none,fn:=fr.f,tmps:=a.tmps,params:=ps,assign:=of,body:=body,defers:=w.heap.size}
      let s:=World.add (World.add w (.deferred (some []))) (.loop l)
      let I:Act:={a with defers:=[{target:=.collected w.heap.size,args:= #[]}]++a.defers}
      ∃q:BK,q (0::st.base::fr.π)=some ⟨w.heap.size+1,0,0⟩/\CN A fr.ci fr.π β w st.heap q s (st.heap.put (0::st.base::fr.π) (.loop lp))/\
       M0 A q s nt st.env.get (.mark (0::st.base::fr.π)::st.defs) (st.heap.put (0::st.base::fr.π) (.loop lp)) I/\Ga q ((st.base+1)::fr.π)/\Cu q fr.π (st.base+1)/\
       ∀{y u:Array Value},Hh β w (MS A β st.heap) first y->Hh β w (MS A β st.heap) cap u->
        Hh q s (MS A q (st.heap.put (0::st.base::fr.π) (.loop lp))) (first++[.wt (0::st.base::fr.π)]++cap) (y++ #[.func (.yield (w.heap.size+1)) #[] #[]]++u):=by
    intro A nt β w a R i l s I;have bo:β (0::st.base::fr.π)=none:=i.fresh st.base (Es _) _ (F5 _ _);have a5:=i.hr.add' (.deferred (some []));have a1:(World.add w (.deferred (some []))).heap.size=w.heap.size+1:=KX _ _;have c5:FG A (MS A β st.heap) w (MS A β st.heap) (World.add w (.deferred (some []))):=SA _ _;have c4:FG A (MS A β st.heap) (World.add w (.deferred (some []))) (MS A (β.put (0::st.base::fr.π) ⟨w.heap.size+1,0,0⟩) (st.heap.put (0::st.base::fr.π) (.loop lp))) s:=
     VQ a5 _ (k:=⟨w.heap.size+1,0,0⟩) a1.symm
    have B:=c5.trans c4;have Q:Le β (β.put (0::st.base::fr.π) ⟨w.heap.size+1,0,0⟩):=Pd bo;have b2:HR A (β.put (0::st.base::fr.π) ⟨w.heap.size+1,0,0⟩) s (st.heap.put (0::st.base::fr.π) (.loop lp)):=by
     refine a5.add bo (k:=⟨w.heap.size+1,0,0⟩) a1.symm ?_;subst bl;refine⟨l,by rw[<-a1];exact MM _ _,rfl,rfl,rfl,rfl,rfl,rfl,by rw[<-R];exact i.s.sz,i.s.env.mono Q B⟩
    have c3: ∀id,¬fr.π<:+id->(β.put (0::st.base::fr.π) ⟨w.heap.size+1,0,0⟩) id=β id:=fun id L=>
     CV β _ fun e=>L (by rw[e];exact(F5 _ _).trans (F5 _ _))
    have bc: ∀n,st.base+1<=n->Ga (β.put (0::st.base::fr.π) ⟨w.heap.size+1,0,0⟩) (n::fr.π):=fun n cx id L=>by
     rw[CV β _ fun e=>?_]
     .exact i.fresh n AA id L
     .subst e;have:=LN L (F5 0 (st.base::fr.π));omega
    have c2: ∀b,b<w.heap.size->s.heap[b]? =w.heap[b]? :=fun b az=>by
     rw[J6 _ _ (by rw[KX];omega),J6 _ _ az]
    refine⟨_,HS _ _ _,⟨c3,b2,B,fun d6 dn _=>⟨fun b az _=>c2 b az,?_,fun id L=>?_⟩⟩,⟨i.s.sz,i.s.env.mono Q B,?_,i.s.defs.mono Q B,fun e' ch r m c8=>?_⟩,bc _ (Es _),bc,?_⟩
    .rintro b ⟨id,k,b1,U,rfl⟩;by_cases e:id=0::st.base::fr.π
     .subst e;rw[HS]at U;cases U;exact .inr AG
     .rw[CV β _ e]at U;exact .inl ⟨id,k,b1,U,rfl⟩
    .rw[AD.get_put,Ci fun e=>L (by rw[<-e];exact dn.trans ((F5 _ _).trans (F5 _ _)))]
    .refine .mark _ _ ?_ ?_ i.lb
     .rw[J6 _ _ (by rw[KX];omega)];exact MM w _
     .rintro(hA|⟨id,o,k,b1,U,Z,u4⟩)
      .have:=i.hr.abnd _ hA;omega
      .by_cases e:id=0::st.base::fr.π
       .subst e;rw[HS]at Z;cases Z;simp at u4
       .rw[CV β _ e]at Z;have:=i.hr.bnd id k Z;omega
    .simp only[Target.collected.injEq]at m;subst m;have:=i.s.defs.marks e' ch _ c8;omega
    .intro y u b6 h2;refine Hh.append (Hh.append (b6.mono Q B) ⟨rfl,fun j x v a3 X=>?_⟩) (h2.mono Q B);cases j with
     |zero=>simp at a3 X;subst a3 X;exact .wt _ _ (HS _ _ _)
     |succ j=>simp at a3
   have a6: ∀{A:Nat->Prop} {nt:NT} {β:BK} {w:World} {a:Act},TE A fr nt β w st a-> ∃y u,a.eval g=.func (.func f) y u/\Hh β w (MS A β st.heap) first y/\Hh β w (MS A β st.heap) cap u:=by
    intro A nt β w a i;have a0:=J3 i.s.env g;rw[cn]at a0;generalize a.eval g=ag at a0;cases a0 with
    |fn _ _ _ y u dq dr Y ds=>exact⟨y,u,rfl,⟨dq,Y⟩,⟨dr,ds⟩⟩
   obtain⟨c,h2⟩:=r;simp only at av;have a7: ∀{st':St},st'.heap=gc (st.base::fr.π) (gc ((st.base+1)::fr.π) h2)->st'.env=st.env->st'.base=st.base+2->st'.defs=.mark (0::st.base::fr.π)::st.defs->
    ∀(A:Nat->Prop) (nt:NT) (β:BK) (w:World) (a:Act),TE A fr nt β w st a-> ∀{q p:BK} {s D V:World} {I:Act},
     CN A fr.ci fr.π β w st.heap q s (st.heap.put (0::st.base::fr.π) (.loop lp))->M0 A q s nt st.env.get (.mark (0::st.base::fr.π)::st.defs) (st.heap.put (0::st.base::fr.π) (.loop lp)) I->
     Ga q ((st.base+1)::fr.π)->Cu q fr.π (st.base+1)->CN A fr.ci ((st.base+1)::fr.π) q s (st.heap.put (0::st.base::fr.π) (.loop lp)) p D h2->
     CN A fr.ci fr.π p D h2 p V st'.heap->CN A fr.ci fr.π β w st.heap p V st'.heap/\TE A fr nt p V st' I:=by
    intro st' d4 b3 b4 b5 A nt β w a i q p s D V I g1 T H O z F;have g:=(g1.trans (z.up (F5 _ _))).trans F;have d0:=(T.mono (z.le H) z.it).mono (.refl p) F.it;refine⟨g,g.hr,by rw[b3,b5];exact d0,?_,VL i.own g,IP i.lb g.it.size⟩;rw[b4];exact fun n cx=>(O n AA).other AA z.out
   have bv: ∀{s:World} {a:Act} {y u:Array Value} {k:Nat},a.eval g=.func (.func f) y u->(resolve a.eval (rangeCall g k) 0).run P s=.ok {target:=.fn (.func f) u,args:=y++ #[.func (.yield k) #[] #[]]} s:=by
    intro s a y u k N;have e:(#[Operand.const (.func (.yield k) #[] #[])].map a.eval)= #[Value.func (.yield k) #[] #[]]:=by simp[Act.eval]
    unfold resolve;simp only[rangeCall];rw[e,N];simp[Deferred.ofValue]
   cases c with
   |ret v=>
    simp only[Kp,BB]at m;unfold ZC at m;split at m
    .rename_i b0 be;have c0:b0.state≠ .busy:=by
      intro e;rw[e]at m;simp at m
     have c6: ∃S,b0.v6=S/\((S=none/\o=.normal)\/(S=some .ret/\o=.ret)\/ ∃k,S=some (.exit k)/\o=.exit k)/\
      st'={st with heap:=gc (st.base::fr.π) (gc ((st.base+1)::fr.π) h2),base:=st.base+2,defs:=.mark (0::st.base::fr.π)::st.defs}:=by
      split at m
      .cases m
      .split at m
       .rename_i B;simp only[E.ok.injEq,F9]at m;exact⟨none,B,.inl ⟨rfl,m.1.symm⟩,m.2.symm⟩
       .rename_i B;simp only[E.ok.injEq,F9]at m;exact⟨some .ret,B,.inr (.inl ⟨rfl,m.1.symm⟩),m.2.symm⟩
       .rename_i k B;simp only[E.ok.injEq,F9]at m;exact⟨some (.exit k),B,.inr (.inr ⟨k,rfl,m.1.symm⟩),m.2.symm⟩
       .cases m
     obtain⟨S,cp,cs,rfl⟩:=c6;refine⟨av,fun A nt β w a R i=>?_⟩;obtain⟨q,bx,g1,T,H,O,a2⟩:=start A nt β w a R i;obtain⟨y,u,N,v1,v2⟩:=a6 i;refine .range PD (bv N) (L0 a' _) ?_;refine(W.rw rfl (fun _ _ h=>by cases h) ar A q _ _ g1.hr H (a2 v1 v2)).mono ?_;rintro e D ⟨p,z,J⟩;have bi:p (0::st.base::fr.π)=some ⟨w.heap.size+1,0,0⟩:=by
      rw[z.out _ fun de=>?_]
      .exact bx
      .have:=LN de (F5 0 (st.base::fr.π));omega
     cases e with
     |returned a4=>
      obtain⟨d5,bk,Y,d1,d2,d3,_⟩:=z.hr.obj _ _ be;rw[bi]at bk;cases bk;obtain⟨ac,ad⟩:=bh (b:=st.base) (π:=fr.π) (h:=h2);have F:CN A fr.ci fr.π p D h2 p (World.ip D (w.heap.size+1) (.loop {Y with state:=.exhausted})) (gc (st.base::fr.π) (gc ((st.base+1)::fr.π) h2)):=
       oV z.hr be rfl bi ((F5 _ _).trans (F5 _ _)) ac ad
      obtain⟨g,M⟩:=a7 (st':={st with heap:=gc (st.base::fr.π) (gc ((st.base+1)::fr.π) h2),base:=st.base+2,defs:=.mark (0::st.base::fr.π)::st.defs}) rfl rfl rfl rfl A nt β w a i g1 T H O z F
      refine⟨_,_,aY d1 (by rw[d2];exact c0),?_⟩;generalize World.ip D (w.heap.size+1) (Go.Obj.loop {Y with state:=.exhausted})=V at g M⊢
      rw[d3,cp];rcases cs with⟨rfl,rfl⟩|⟨rfl,rfl⟩|⟨k,rfl,rfl⟩
      .exact⟨rfl,p,g,M⟩
      .exact .ret ⟨rfl,p,g,M⟩
      .exact .exit ⟨rfl,p,g,M⟩
     |panicked chain=>exact J.elim
     |outgrown=>exact J.elim
    .cases m
   |ge v=>
    simp only[Kp,BB,E.ok.injEq,F9]at m;obtain⟨rfl,rfl⟩:=m;refine⟨av,fun A nt β w a R i=>?_⟩;obtain⟨q,bx,g1,T,H,O,a2⟩:=start A nt β w a R i;obtain⟨y,u,N,v1,v2⟩:=a6 i;refine .range PD (bv N) (L0 a' _) ?_;refine(W.rw rfl (fun _ _ h=>by cases h) ar A q _ _ g1.hr H (a2 v1 v2)).mono ?_;rintro e D ⟨p,z,J⟩;cases e with
    |returned a4=>exact J.elim
    |panicked chain=>
     obtain⟨a4,rfl,X⟩:=J;obtain⟨ac,ad⟩:=bh (b:=st.base) (π:=fr.π) (h:=h2);have F:CN A fr.ci fr.π p D h2 p D (gc (st.base::fr.π) (gc ((st.base+1)::fr.π) h2)):=XK z.hr (fun id o c1=>(ac id o c1).1) ad;obtain⟨g,M⟩:=a7 (st':={st with heap:=gc (st.base::fr.π) (gc ((st.base+1)::fr.π) h2),base:=st.base+2,defs:=.mark (0::st.base::fr.π)::st.defs}) rfl rfl rfl rfl A nt β w a i g1 T H O z F
     exact⟨v,a4,p,rfl,rfl,g,M,X.mono (.refl p) F.it⟩
    |outgrown=>exact J.elim
variable{A:Nat->Prop}{P:Program}{mix:List TypeId}{β β' β'':BK}{w w' w'':World}{h h' h'':AD}{π ρ:List Nat}{ci:Option (List Nat)}{nt:NT}{a:Act}{ro:Option Nat}
variable{C:DJ}{K:Ab}{fr:Fr}
variable{f:FuncId}
def HX.mono{x:Code}{Q Q':Exit->Act->World->Prop}(b: ∀e a w,Q e a w->Q' e a w): ∀{m:Nat} {a:Act} {w:World},HX P f ro x Q m a w->HX P f ro x Q' m a w
 |0,_,_,h=>h.elim
 |m+1,a,w,h=>Cg.mono h fun e a w p=>by
  cases e with
  |normal=>exact HX.mono b p
  |_=>exact b _ _ _ p
def sf(g: ∀r e,W r->W {r with env:=e})(c:LW W st.heap):LW W (Fq C fr b st).heap:=by
 unfold Fq;simp only;split
 .exact c
 .intro id r h;obtain⟨x,o,g1,_,a⟩:=GV h;cases o with
  |loop f=>
   simp only[E1,Obj.loop.injEq]at a;rw[a];exact g f _ (c x f g1)
  |_=>simp[E1]at a
def QV(X:NB P mix C)(S:EC P (HO P C) K)(U:fr.wp=false->ro=none)(ag:P.follows .mixedOrders=true)(ac: ∃fn,P.funcs[fr.f]? =some fn):
 ∀(n b:Nat) (c:Code) (st:St) (o:Eh) (st':St),Ey C fr.f fr.nt c=true->Bo C K fr n b c st=.ok (o,st')->LW (HO P C) st.heap->
  LW (HO P C) st'.heap/\ ∀(A:Nat->Prop) (nt:NT) (β:BK) (w:World) (a:Act),nt.n=fr.nt->TE A fr nt β w st a->
   Cg P fr.f ro c (KV A fr nt β w st.heap o st') a w/\ ∀x,c=.loop x->HX P fr.f ro x (KV A fr nt β w st.heap o st') n a w:=by
 intro n;induction n with
 |zero=>intro b c st o st' _ f;simp[Bo]at f
 |succ n M=>
  intro b c st o st' m f B;have plain: ∀{c:Code} {o:Eh} {st':St},(∀x,c≠ .loop x)->
   (LW (HO P C) st'.heap/\ ∀(A:Nat->Prop) (nt:NT) (β:BK) (w:World) (a:Act),nt.n=fr.nt->TE A fr nt β w st a->Cg P fr.f ro c (KV A fr nt β w st.heap o st') a w)->
   LW (HO P C) st'.heap/\ ∀(A:Nat->Prop) (nt:NT) (β:BK) (w:World) (a:Act),nt.n=fr.nt->TE A fr nt β w st a->
    Cg P fr.f ro c (KV A fr nt β w st.heap o st') a w/\ ∀x,c=.loop x->HX P fr.f ro x (KV A fr nt β w st.heap o st') (n+1) a w:=
   fun J h=>⟨h.1,fun A nt β w a j i=>⟨h.2 A nt β w a j i,fun x q=>absurd q (J x)⟩⟩
  cases c with
  |skip=>
   simp only[Bo,E.ok.injEq,F9]at f;obtain⟨rfl,rfl⟩:=f;exact plain AG ⟨B,fun A nt β w a j i=>.skip ⟨rfl,β,CN.refl i.hr,i⟩⟩
  |label l=>
   simp only[Bo,E.ok.injEq,F9]at f;obtain⟨rfl,rfl⟩:=f;exact plain AG ⟨B,fun A nt β w a j i=>.label ⟨rfl,β,CN.refl i.hr,i⟩⟩
  |exit id=>
   simp only[Bo,E.ok.injEq,F9]at f;obtain⟨rfl,rfl⟩:=f;exact plain AG ⟨B,fun A nt β w a j i=>.exit ⟨rfl,β,CN.refl i.hr,i⟩⟩
  |ret=>
   simp only[Bo,E.ok.injEq,F9]at f;obtain⟨rfl,rfl⟩:=f;exact plain AG ⟨B,fun A nt β w a j i=>.ret ⟨rfl,β,CN.refl i.hr,i⟩⟩
  |seq x y=>
   simp only[Ey,AP]at m;simp only[Bo]at f;cases q:Bo C K fr n b x st with
   |err e=>rw[q]at f;cases f
   |ok r=>
    rw[q]at f;obtain⟨u,D⟩:=r;obtain⟨H,F⟩:=M b x st u D m.1 q B;have stop:u=o/\D=st'->o≠ .normal->LW (HO P C) st'.heap/\ ∀(A:Nat->Prop) (nt:NT) (β:BK) (w:World) (a:Act),nt.n=fr.nt->TE A fr nt β w st a->
       Cg P fr.f ro (.seq x y) (KV A fr nt β w st.heap o st') a w:=by
     rintro⟨rfl,rfl⟩ J;refine⟨H,fun A nt β w a j i=>.seq (Cg.mono (F A nt β w a j i).1 fun e L w' p=>?_)⟩;cases e with
     |normal=>exact absurd p.1 J
     |_=>exact p
    cases u with
    |normal=>
     simp only[EU]at f;obtain⟨Q,h2⟩:=M b y D o st' m.2 f H;refine plain AG ⟨Q,fun A nt β w a j i=>.seq (Cg.mono (F A nt β w a j i).1 fun e L w' p=>?_)⟩;cases e with
     |normal=>
      obtain⟨_,O,g1,a3⟩:=p;exact Cg.mono (h2 A nt O w' L j a3).1 fun e a7 bc a5=>a5.trans g1
     |exit id=>exact zCe
     |ret=>exact zCe
     |panic chain=>exact zES
     |_=>exact p.elim
    |exit id=>
     exact zBn
    |ret=>
     exact zBn
    |ge v=>
     exact zBn
  |cond c x y=>
   simp only[Ey,AP]at m;simp only[Bo]at f;unfold L1 at f;split at f
   .rename_i t az;have key: ∀{z:Code},Bo C K fr n b z st=.ok (o,st')->Ey C fr.f fr.nt z=true->(if t then x else y)=z->
     LW (HO P C) st'.heap/\ ∀(A:Nat->Prop) (nt:NT) (β:BK) (w:World) (a:Act),nt.n=fr.nt->TE A fr nt β w st a->Cg P fr.f ro (.cond c x y) (KV A fr nt β w st.heap o st') a w:=by
     intro z a1 ar a2;obtain⟨H,F⟩:=M b z st o st' ar a1 B;refine⟨H,fun A nt β w a j i=>?_⟩;have T:=J3 i.s.env c;rw[az]at T;refine .cond (JW T) ?_;rw[a2];exact(F A nt β w a j i).1
    split at f
    .exact plain AG (key f m.1 rfl)
    .exact plain AG (key f m.2 rfl)
   .cases f
  |block id x=>
   simp only[Ey]at m;simp only[Bo]at f;cases q:Bo C K fr n id x st with
   |err e=>rw[q]at f;cases f
   |ok r=>
    rw[q]at f;obtain⟨u,D⟩:=r;obtain⟨H,F⟩:=M id x st u D m q B;have av:D=st'/\((u=.exit id/\o=.normal)\/(u≠ .exit id/\o=u)):=by
     cases u with
     |exit k=>
      simp only[IQ]at f;split at f
      .rename_i e;have:=D8 e;subst this;simp only[E.ok.injEq,F9]at f;exact⟨f.2,.inl ⟨rfl,f.1.symm⟩⟩
      .rename_i e;simp only[E.ok.injEq,F9]at f;refine⟨f.2,.inr ⟨fun h=>?_,f.1.symm⟩⟩;cases h;simp at e
     |normal=>exact zBx
     |ret=>exact zBx
     |ge v=>exact zBx
    obtain⟨rfl,ai⟩:=av;refine plain AG ⟨H,fun A nt β w a j i=>.block (Cg.mono (F A nt β w a j i).1 fun e L w' p=>?_)⟩;rcases ai with⟨rfl,rfl⟩|⟨J,rfl⟩
    .cases e with
     |exit k=>
      obtain⟨ad,p⟩:=p;cases ad;simp only[Exit.inBlock,F6];exact⟨rfl,p⟩
     |normal=>exact zCe
     |ret=>exact zCe
     |panic chain=>exact zES
     |_=>exact p.elim
    .cases e with
     |exit k=>
      have:k≠id:=fun e=>J (by rw[p.1,e]);simp only[Exit.inBlock,this,FN];exact p
     |_=>exact p
  |loop x=>
   simp only[Ey]at m;simp only[Bo,MY]at f;have Y:LW (HO P C) (Fq C fr b st).heap:=sf (fun r e h=>h) B;cases q:Bo C K fr n b x (Fq C fr b st)with
   |err e=>rw[q]at f;cases f
   |ok r=>
    rw[q]at f;obtain⟨u,D⟩:=r;obtain⟨H,F⟩:=M b x _ u D m q Y;have rounds:LW (HO P C) st'.heap/\ ∀(A:Nat->Prop) (nt:NT) (β:BK) (w:World) (a:Act),nt.n=fr.nt->TE A fr nt β w st a->HX P fr.f ro x (KV A fr nt β w st.heap o st') (n+1) a w:=by
     have start: ∀{A:Nat->Prop} {nt:NT} {β:BK} {w:World} {a:Act},TE A fr nt β w st a-> ∃I,CN A fr.ci fr.π β w st.heap I w (Fq C fr b st).heap/\TE A fr nt I w (Fq C fr b st) a:=by
      intro A nt β w a i;obtain⟨I,g,s,Z⟩:=sh (C:=C) (fr:=fr) (b:=b) i.hr i.s i.fresh i.own;exact⟨I,g,g.hr,s,Z,VL i.own g,i.lb⟩
     have stop:u=o/\D=st'->o≠ .normal->LW (HO P C) st'.heap/\ ∀(A:Nat->Prop) (nt:NT) (β:BK) (w:World) (a:Act),nt.n=fr.nt->TE A fr nt β w st a->
      HX P fr.f ro x (KV A fr nt β w st.heap o st') (n+1) a w:=by
      rintro⟨rfl,rfl⟩ J;refine⟨H,fun A nt β w a j i=>?_⟩;obtain⟨I,N,R⟩:=start i;refine Cg.mono (F A nt I w a j R).1 fun e L w' p=>?_;cases e with
      |normal=>exact absurd p.1 J
      |exit id=>exact p.trans N
      |ret=>exact p.trans N
      |panic chain=>exact p.trans N
      |goto l=>exact p.elim
      |outgrown=>exact p.elim
     cases u with
     |normal=>
      simp only[EU]at f;obtain⟨Q,h2⟩:=M b (.loop x) D o st' m f H;refine⟨Q,fun A nt β w a j i=>?_⟩;obtain⟨I,N,R⟩:=start i;refine Cg.mono (F A nt I w a j R).1 fun e L w' p=>?_;cases e with
      |normal=>
       obtain⟨_,a6,W,a4⟩:=p;exact HX.mono (fun e a w p=>p.trans (N.trans W)) ((h2 A nt a6 w' L j a4).2 x rfl)
      |exit id=>exact zCe
      |ret=>exact zCe
      |panic chain=>exact zES
      |_=>exact p.elim
     |exit id=>
      exact zB6
     |ret=>
      exact zB6
     |ge v=>
      exact zB6
    exact⟨rounds.1,fun A nt β w a j i=>⟨.loop (n+1) (rounds.2 A nt β w a j i),fun y a0=>by cases a0;exact rounds.2 A nt β w a j i⟩⟩
  |region id ops a'=>
   simp only[Bo]at f;exact plain AG (qX X S U ag m f B)
  |rangeFunc g ps of body=>
   simp only[Bo]at f;exact plain AG (wZ S U ac m f B)
  |goto l=>simp[Bo]at f
  |scope x=>simp[Bo]at f
  |refuse=>simp[Bo]at f
variable{A:Nat->Prop}{P:Program}{mix:List TypeId}{β β' β'':BK}{w w' w'':World}{h h' h'':AD}{π ρ:List Nat}{ci:Option (List Nat)}{nt:NT}{a:Act}{ro:Option Nat}
variable{C:DJ}{K:Ab}{fr:Fr}
def MC(tmps:Array Value):ResultVar->Sem Value
 |.tmp t=>pure (tmps.getD t undef)
 |.cell a t=>do loadVar t (<-asAddr (tmps.getD a undef))
def jO(fn:Func)(tmps:Array Value):results fn tmps=(do let vs<-fn.results.mapM (MC tmps);pure (if h:vs.size=1 then vs[0]else .tuple vs)):=by
 unfold results;congr 1
def jN{C:DJ}(l:NB P mix C){st:St}(H:HR A β w st.heap){tmps:Array Value}(f:Kz β w (MS A β st.heap) st.env.get fun t=>tmps.getD t Go.undef){x:ResultVar}{v:AV}(b:DW C st x=some v):
 ∃c,(MC tmps x).run P w=.ok c w/\VR β w (MS A β st.heap) v c:=by
 cases x with
 |tmp t=>
  simp only[DW,Co]at b;subst b;exact⟨_,rfl,f t⟩
 |cell a t=>
  simp only[DW,l.T]at b;cases e:Cb P mix t with
  |none=>rw[e]at b;cases b
  |some i=>
   rw[e]at b;obtain⟨g,c,h,h2,k⟩:=cH H e (f a) b;have j:tmps.getD a Go.undef=.pointer (some g):=h;exact⟨c,by simp only[MC,Sem.run_bind];rw[j];simp[asAddr,h2],k⟩
def Q7{C:DJ}(c:NB P mix C){st:St}(H:HR A β w st.heap){tmps:Array Value}(e:Kz β w (MS A β st.heap) st.env.get fun t=>tmps.getD t Go.undef): ∀{l:List ResultVar} {vs:List AV},O9 (DW C st) l=some vs->
 ∃us:List Value,(l.mapM (MC tmps)).run P w=.ok us w/\Hh β w (MS A β st.heap) vs us.toArray
 |[],vs,h=>by
  simp[O9]at h;subst h;exact⟨[],rfl,rfl,fun i x v a=>by simp at a⟩
 |x::l,vs,h=>by
  simp only[O9]at h;split at h
  .rename_i v r f h2;cases h;obtain⟨o,g,j⟩:=jN c H e f;obtain⟨us,k,m,n⟩:=Q7 c H e h2;refine⟨o::us,?_,by simpa using m,fun i q p a b=>?_⟩
   .rw[List.mapM_cons];simp only[Sem.run_bind,g,Result.andThen_ok,k,Sem.run_pure]
   .cases i with
    |zero=>simp at a b;subst a b;exact j
    |succ i=>exact n i q p zEi zEz
  .cases h
def jQ{C:DJ}(g:NB P mix C)(H:HR A β w st.heap)(h:Kz β w (MS A β st.heap) st.env.get fun t=>tmps.getD t Go.undef){r:AV}(a:KR C fn st=some r):
 ∃e,(results fn tmps).run P w=.ok e w/\VR β w (MS A β st.heap) r e:=by
 unfold KR at a;cases f:O9 (DW C st) fn.results.toList with
 |none=>rw[f]at a;cases a
 |some vs=>
  rw[f]at a;obtain⟨us,l,c,b⟩:=Q7 g H h f;have j:(fn.results.mapM (MC tmps)).run P w=.ok us.toArray w:=by
   rw[Array.mapM_eq_mapM_toList,Sem.run_map,l,Result.andThen_ok]
  rw[jO];simp only[Sem.run_bind,j,Result.andThen_ok,Sem.run_pure];refine⟨_,rfl,?_⟩;simp only[Rd]at c⊢
  match vs,us,a,c,b with
  |[],[],a,_,_=>cases a;simp;exact .ii [] #[] rfl fun i x v k=>by simp at k
  |[v],[e],a,_,b=>cases a;simp;exact b 0 _ _ rfl rfl
  |v::v2::vs,e::u2::us,a,c,b=>
   cases a;rw[dif_neg AG];exact .ii _ _ zEs b
variable{M:Nat->Prop}{r:Nat}{y:Go.Obj}
def DR.other(o: ∀c e f,w.heap[r]? ≠some (.cells c e f)){x:Al}{v:Value}(h:DR w M x v):DR (World.ip w r y) M x v:=by
 induction h with
 |int k n=>exact .int k n
 |bool b=>exact .bool b
 |str s=>exact .str s
 |wl=>exact .wl
 |kw=>exact .kw
 |rc=>exact .rc
 |wd=>exact .wd
 |lst0 a cap=>exact .lst0 a cap
 |bv es b off cap sz c elem fr g m j l _ i p=>
  exact .bv es b off cap sz c elem fr (by rw[GF y fun e=>o _ _ _ (e▸g)];exact g) m j l p i
variable{x:AV}
def VR.other(n: ∀c e f,w.heap[r]? ≠some (.cells c e f)){v:Value}(h:VR β w M x v):VR β (World.ip w r y) M x v:=by
 induction h with
 |d h=>exact .d (h.other n)
 |d7=>exact .d7
 |emp a=>exact .emp a
 |f8 id off len k a cap g z m q=>exact .f8 id off len k a cap g z m q
 |ptr id off k g=>exact .ptr id off k g
 |jp id i off k g=>exact .jp id i off k g
 |rg cs b off c elem fr o u m s=>
  exact .rg cs b off c elem fr (by rw[GF y fun e=>n _ _ _ (e▸o)];exact o) u m fun i x v j h2=>(s i x v j h2).other n
 |fn f a b p b' j h2 _ _ A B=>exact .fn f a b p b' j h2 A B
 |wt id k g=>exact .wt id k g
 |mp id k g=>exact .mp id k g
 |iface t v C _ l=>exact .iface t v C l
 |agg cs c j _ l=>exact .agg cs c j l
 |ii cs c j _ l=>exact .ii cs c j l
 |undef v=>exact .undef v
def NI.other{x:Option (List Deferred)}(C:w.heap[r]? =some (.deferred x)){k:TH}(h:NI β w M k o):NI β (World.ip w r y) M k o:=by
 have u: ∀c e f,w.heap[r]? ≠some (.cells c e f):=fun c e f=>by rw[C];simp
 have A: ∀{z:Go.Obj},w.heap[k.b]? =some z->(∀x,z≠ .deferred x)->(World.ip w r y).heap[k.b]? =some z:=fun B K=>by
  rw[GF y fun e=>?_]
  .exact B
  .rw[e,C]at B;exact K x (Ip B).symm
 cases o with
 |box cs=>obtain⟨c,elem,j,h2,g⟩:=h;exact⟨c,elem,A j AG,h2,fun i x v a b=>(g i x v a b).other u⟩
 |em sz es=>exact zCI
 |i7 sz es=>
  rcases h with h|⟨J,c,elem,fr,j,h2,g,m,n,q,s⟩
  .exact .inl h
  .exact .inr ⟨J,c,elem,fr,A j AG,h2,g,m,n,q,fun i x v a b=>(s i x v a b).other u⟩
 |arr sz es=>exact zCI
 |map es=>obtain⟨F,D,j,h2,g⟩:=h;exact⟨F,D,A j AG,h2,fun i p e a b=>⟨(g i p e a b).1.other u,(g i p e a b).2.other u⟩⟩
 |loop L=>obtain⟨l,j,h2,g,m,n,q,s,I,H⟩:=h;exact⟨l,A j AG,h2,g,m,n,q,s,I,fun t=>(H t).other u⟩
def HR.other{x:Option (List Deferred)}(g:w.heap[r]? =some (.deferred x))(H:HR A β w h):HR A β (World.ip w r y) h:=by
 refine⟨fun id o f=>?_,H.inj,fun id k a=>by rw[GP];exact H.bnd id k a,H.out,fun b e=>by rw[GP];exact H.abnd b e⟩;obtain⟨k,a,c⟩:=H.obj id o f;exact⟨k,a,c.other g⟩
def CN.other{i:BK}{c:World}{e:AD}{x:Option (List Deferred)}(l:w.heap[r]? =some (.deferred x))(t:c.heap.size<=r)(g:CN A ci π i c e β w h):CN A ci π i c e β (World.ip w r y) h:=by
 have f: ∀b,b<c.heap.size->(World.ip w r y).heap[b]? =w.heap[b]? :=fun b a=>GF y AA;refine⟨g.out,g.hr.other l,⟨fun b a k=>by rw[f b a];exact g.it.pm b a k,by rw[GP];exact g.it.size,g.it.sub,g.it.io⟩,fun s n j=>?_⟩;obtain⟨o,p,q⟩:=g.kept s n j;exact⟨fun b a m=>by rw[f b a];exact o b a m,p,q⟩
def K3.other{lb:Nat}{x:Option (List Deferred)}(j:w.heap[r]? =some (.deferred x)): ∀{l:List Df} {m:List Deferred},(∀e∈m,e.target≠ .collected r)->K3 lb β w M l m->K3 lb β (World.ip w r y) M l m
 |[],[],_,_=>trivial
 |d::l,e::m,hne,h=>by
  have q: ∀c e f,w.heap[r]? ≠some (.cells c e f):=fun c e f=>by rw[j];simp
  refine⟨?_,K3.other j (fun e' s=>hne e' (by simp[s])) h.2.1,h.2.2⟩;obtain⟨n,_,_⟩:=h;cases n with
  |mark id g h2 o p=>
   have:g≠r:=fun e=>hne {target:=.collected g,args:= #[]} AG (by simp[e]);exact .mark id g (by rw[GF y this];exact h2) o p
  |call f args vs k=>exact .call f args vs ⟨k.1,fun i x v a b=>(k.2 i x v a b).other q⟩
 |[],_::_,_,h=>h.elim
 |_::_,[],_,h=>h.elim
structure OT(P:Program)(f:FuncId)(t:TypeId):Prop where
 enters:MF P f
 quiet: ∀(w:World) (ad:Addr),CallsDIn Fence.wide 0 P f #[.pointer (some ad)] .returning w fun e u' w'=>
  (∃v,e=.returned v)/\settle u'=.returning/\w.heap.size<=w'.heap.size/\(∀b,b<w.heap.size->w'.heap[b]? =w.heap[b]?)/\w'.os=w.os/\w'.output=w.output
 loud: ∀(w:World) (b off:Nat) (k:IntKind) (n:Int) (c:Array Value) (elem:TypeId),w.heap[b]? =some (.cells c elem (0,0))->off<c.size->
  CallsDIn Fence.wide 0 P f #[.pointer (some ⟨b,off,none⟩)] (.panicking [{v:=.iface t (.agg #[.int k n]),recovered:=false}]) w fun e u' w'=>
   (∃v,e=.returned v)/\settle u'=.returning/\w.heap.size<=w'.heap.size/\(∀b',b'<w.heap.size->w'.heap[b']? =(World.ip w b (.cells (HN c off [.int k n]) elem (0,0))).heap[b']?)/\w'.os=w.os/\w'.output=w.output
def rn(β:BK)(w:World)(M:Nat->Prop):Option AV->FrameMode->Prop
 |none,u=>u=.returning
 |some v,u=> ∃vv,u=.panicking [{v:=vv,recovered:=false}]/\VR β w M v vv
def xb(a:w.heap[r]? =some (.deferred (some []))):(Instr.takeDeferred r).run P w=.ok [] (World.ip w r (.deferred none)):=by
 simp[Instr.takeDeferred,Kg (P:=P) a AG,JD (P:=P) a AG]
def U2{fn:Func}{tmps:Array Value}{R:Ending->World->Prop}(T: ∀f t,C.rx f=some t->OT P f t){env:Nat->AV}{bc:BK}{ar:World}{av:AD}{ag:Option AV}{h':AD}{lb:Nat}(a4:ar.heap.size<=lb)(β:BK)
 (M: ∀w' z,CN A ci π bc ar av β w' h'->Kz β w' (MS A β h') env (fun t=>tmps.getD t Go.undef)->rn β w' (MS A β h') ag z->LeavesInM Fence.wide 0 P fn tmps R [] z w'):
 ∀(l:List Df) (m:List Deferred) (p:Option AV) (h:AD) (w:World) (o:FrameMode),Dw C ci l p h=.ok (ag,h')->K3 lb β w (MS A β h) l m->CN A ci π bc ar av β w h->Kz β w (MS A β h) env (fun t=>tmps.getD t Go.undef)->
  rn β w (MS A β h) p o->LeavesInM Fence.wide 0 P fn tmps R m o w
 |[],[],p,h,w,o,a,_,g,he,hm=>by
  simp only[Dw,E.ok.injEq,F9]at a;obtain⟨rfl,rfl⟩:=a;exact M w o g he hm
 |.mark id::l,e::m,p,h,w,o,a,hd,g,he,hm=>by
  simp only[Dw]at a;obtain⟨B,h2,az⟩:=hd;cases B with
  |mark _ r q ai cc=>
   have I: ∀c e f,w.heap[r]? ≠some (.cells c e f):=fun c e f=>by rw[q];simp
   refine⟨?_,.inl ⟨r,_,rfl,xb q,U2 T a4 β M l m p h _ o a (h2.other q fun e' bk=>az e' bk r rfl) (g.other q AA) (fun t=>(he t).other I) ?_⟩⟩
   .cases p with
    |none=>rw[show o=.returning from hm];simp
    |some v=>obtain⟨K,rfl,_⟩:=hm;simp
   .cases p with
    |none=>exact hm
    |some v=>obtain⟨K,B,h2⟩:=hm;exact⟨K,B,h2.other I⟩
 |.call f args::l,e::m,p,h,w,o,a,hd,g,he,hm=>by
  obtain⟨B,h2,az⟩:=hd;cases B with
  |call _ _ vs b3=>
   simp only[Dw]at a;split at a
   .rename_i t id off b0;have O:=T f t b0;obtain⟨k,rfl,u⟩: ∃k,vs= #[.pointer (some ⟨k.b,off,none⟩)]/\β id=some k:=by
     obtain⟨a0,bi⟩:=b3;have Y:0<vs.size:=by rw[<-a0];simp
     have a7:=bi 0 _ vs[0] rfl (Ex Y);generalize b7:vs[0]=x at a7;cases a7 with
     |ptr _ _ k u=>
      refine⟨k,?_,u⟩;apply Array.ext
      .rw[<-a0];rfl
      .intro i bo D;have:i=0:=by simp at D;exact D
       subst this;exact b7
    have a1:(invoke (.fn (.func f) #[]) #[.pointer (some ⟨k.b,off,none⟩)]).run P w=.ok (.enter f #[.pointer (some ⟨k.b,off,none⟩)]) w:=by
     simp[invoke,L0 O.enters]
    have a': ∀{H:AD} {L:World},Dw C ci l none H=.ok (ag,h')->CN A ci π β w h β L H->LeavesInM Fence.wide 0 P fn tmps R m .returning L:=by
     intro H L a N;exact U2 T a4 β M l m none H L .returning a (h2.mono (.refl β) N.it) (g.trans N) (he.mono (.refl β) N.it) rfl
    split at a
    .have b2:o=.returning:=hm;subst b2;refine⟨AG,.inr ⟨fun W=>by simp[Fence.wide]at W,.func f, #[],f,_,rfl,a1,fun _ _=>trivial,?_⟩⟩;refine(O.quiet w ⟨k.b,off,none⟩).mono ?_;rintro e z w' ⟨⟨v,rfl⟩,Z,ad,Q,X⟩;show LeavesInM Fence.wide 0 P fn tmps R m (settle z) w';rw[Z];exact a' a (L6 g.hr Q ad X)
    .rename_i ch F n;split at a
     .rename_i U;simp only[AP]at U;have b1:=D8 U.1;split at a
      .rename_i cs V;split at a
       .rename_i s a6;obtain⟨K,rfl,b4⟩:=hm;have b5:K=.iface t (.agg #[.int F n]):=by
         cases b4 with
         |iface _ _ b8 J=>
          cases J with
          |agg _ c a3 I=>
           have Y:0<c.size:=by rw[<-a3];simp
           have:=G7 (I 0 _ c[0] rfl (Ex Y));rw[b1];congr 2;apply Array.ext
           .rw[<-a3];rfl
           .intro i bo D;have:i=0:=by simp at D;exact D
            subst this;assumption
        subst b5;obtain⟨b',a2,c,elem,q,ai⟩:=g.hr.obj id _ V;rw[u]at a2;cases a2;have bs:=(FC a6).1;simp only[I0]at bs;have bx:off<c.size:=by rw[<-ai.1];omega
        refine⟨AG,.inr ⟨fun W=>by simp[Fence.wide]at W,.func f, #[],f,_,rfl,a1,fun _ _=>trivial,?_⟩⟩;refine(O.loud w k.b off F n c elem q bx).mono ?_;rintro e z w' ⟨⟨v,rfl⟩,Z,ad,Q,X⟩;show LeavesInM Fence.wide 0 P fn tmps R m (settle z) w';rw[Z];refine a' a ?_;have a5:=IU g.hr (o':=.box s) V rfl u (.cells (HN c off [.int F n]) elem (0,0));have be:HR A β (World.ip w k.b (.cells (HN c off [.int F n]) elem (0,0))) (h.put id (.box s)):=by
         refine g.hr.upd' V rfl u ⟨_,elem,JS _ (AK q),?_⟩;exact Tp (ai.mono (.refl β) a5) ⟨rfl,fun j y b8 ac J=>by
          cases j with
          |zero=>simp at ac J;subst ac J;exact .d (.int _ _)
          |succ j=>simp at ac⟩ a6
        have b6:LQ ci [(id,Obj.box s)]=true:=by
         have:=U.2;cases ci with
         |none=>rfl
         |some ρ=>simpa[LQ]using this
        have g1:CN A ci π β w h β (World.ip w k.b (.cells (HN c off [.int F n]) elem (0,0))) (h.put id (.box s)):=
         K8 (δ:=[(id,.box s)]) (.refl β) (fun _ bl=>.inl bl) be a5 ⟨fun b S bv=>GF _ (Ne.symm (bv (id,.box s) AG k u)),fun _ _ h=>.inl h⟩ b6
        exact g1.trans (L6 g1.hr (fun b S=>Q b (by rw[GP]at S;exact S)) (by rw[GP];exact ad) X)
       .cases a
      .cases a
     .cases a
    .cases a
   .cases a
 |[],_::_,_,_,_,_,_,h,_,_,_=>h.elim
 |_::_,[],_,_,_,_,_,h,_,_,_=>h.elim
variable{A:Nat->Prop}{P:Program}{mix:List TypeId}{β β' β'':BK}{w w' w'':World}{h h' h'':AD}{π ρ:List Nat}{ci:Option (List Nat)}{nt:NT}{a:Act}{ro:Option Nat}
variable{C:DJ}{K:Ab}{fr:Fr}
variable{g:G}
def XI{vs c:List AV}(h:IK g vs=some c):A9 c=[]:=by
 obtain⟨j,k⟩:=PX h;rw[List.eq_nil_iff_forall_not_mem];intro id a;obtain⟨x,f,a⟩:=Nw a;obtain⟨i,b⟩:=Ok.1 f;have e:i<vs.length:=by rw[<-j];exact(BV.1 b).1
 obtain⟨y,rfl,_⟩:=k i _ x (CO e) b;simp[AE]at a
variable{v:AV}
def pS{x:Option Al}(h:x.map AV.d=some v):AE v=[]:=by
 exact zC2
def bJ(h:Fc g v=some x):AE x=[]:=by
 unfold Fc at h;split at h
 .simp only[Bv]at h;obtain⟨b,a,rfl⟩:=h;exact XI a
 .cases h;rfl
 .simp only[Bv]at h;obtain⟨b,a,rfl⟩:=h;exact XI a
 .exact zC2
 .exact pS h
def bZ{g:G}: ∀{vs a:List AV},E5 g vs=some a->A9 a=[]
 |[],a,h=>by simp[E5]at h;subst h;rfl
 |v::vs,a,h=>by
  simp only[E5]at h;split at h
  .rename_i x c b h2;cases h;simp[A9,bJ b,bZ h2]
  .cases h
def zS(h:ZZ g v=some x):AE x=[]:=by
 unfold ZZ at h;split at h
 .simp only[Bv]at h;obtain⟨b,a,rfl⟩:=h;exact bZ a
 .exact bJ h
def zT(H:HR A β w h){j:Value}(b:VR β w (MS A β h) v j)(a:ZZ h.get v=some x):VR β w (MS A β []) x j:=by
 unfold ZZ at a;split at a
 .simp only[Bv]at a;obtain⟨o,k,rfl⟩:=a;obtain⟨g,n⟩:=Rm k;cases b with
  |ii _ c m l=>
   refine .ii _ c (by rw[g];exact m) fun i x v a b=>?_;have p:i<(‹List AV›:List AV).length->True:=fun _=>trivial;have e:i<o.length:=(BV.1 a).1;rw[g]at e;have f:=CO e;exact(bM H (l i _ v f b) (n i _ x f a)).1
 .exact(bM H b a).1
def rb(P:Program)(C:DJ)(f:FuncId):Prop:= ∃fn c,P.funcs[f]? =some fn/\fn.body=some c/\Ey C f fn.ntmps c=true/\(fn.name== "runtime.NumGoroutine")=false
structure Zb(P:Program)(mix:List TypeId)(C:DJ):Prop where
 cfg:NB P mix C
 mixed:P.follows .mixedOrders=true
 rx: ∀f t,C.rx f=some t->OT P f t
def VM: ∀(n:Nat) (vs:List AV) (t:Nat),(EE n vs).get t=if n<=t then vs.getD (t-n) .undef else .undef
 |n,[],t=>by simp[EE,CA.get]
 |n,v::vs,t=>by
  simp only[EE,CA.get_cons,VM (n+1) vs t];by_cases e:n=t
  .subst e;simp
  .rw[Ci e];by_cases a:n+1<=t
   .rw[D4 a,D4 AA];obtain⟨k,rfl⟩: ∃k,t=n+1+k:=⟨t-(n+1),AA⟩;rw[show n+1+k-(n+1)=k by omega,show n+1+k-n=k+1 by omega];simp
   .rw[Ci a,Ci AA]
def Qo: ∀{l:List Df} {p b:Option AV} {h h':AD},LW W h->Dw C ci l p h=.ok (b,h')->LW W h'
 |[],p,b,h,h',hL,a=>by
  simp only[Dw,E.ok.injEq,F9]at a;obtain⟨rfl,rfl⟩:=a;exact hL
 |.mark id::l,p,b,h,h',hL,a=>by
  simp only[Dw]at a;exact Qo hL a
 |.call f args::l,p,b,h,h',hL,a=>by
  simp only[Dw]at a;split at a
  .split at a
   .exact Qo hL a
   .split at a
    .split at a
     .split at a
      .exact Qo (hL.put fun _ h=>by cases h) a
      .cases a
     .cases a
    .cases a
   .cases a
  .cases a
def tj(L:Zb P mix C)(a3:EC P (HO P C) K){f:FuncId}(a6:rb P C f){R:Nat}{args:List AV}{raw:Bool}{r:A8×AD}
 (g:RF P C K R f args h π raw ci=.ok r):jw P (HO P C) (.fn f) args h π raw ci r:=by
 obtain⟨fn,c,g1,S,a0,a1⟩:=a6;unfold RF at g;rw[g1]at g;simp only[S]at g;split at g
 case h_2=>cases g
 rename_i ac;have ac:args.length<=fn.ntmps:=Ge ac;cases W:Bo C K {f,π,raw,ci,nt:=fn.ntmps} R 0 c {env:=EE 0 args,heap:=h,base:=0,defs:=[]}with
 |err e=>rw[W]at g;cases g
 |ok b0=>
  rw[W]at g;obtain⟨o,i⟩:=b0;have a5: ∃p,(o=.ret/\p=none\/o=.normal/\p=none\/ ∃v,o=.ge v/\p=some v)/\VK C f fn π raw i (Dw C ci i.defs p i.heap)=.ok r:=by
   unfold tM at g;simp only at g;split at g
   .exact⟨none,.inl ⟨rfl,rfl⟩,g⟩
   .exact⟨none,.inr (.inl ⟨rfl,rfl⟩),g⟩
   .exact⟨_,.inr (.inr ⟨_,rfl,rfl⟩),g⟩
   .cases g
  obtain⟨p,N,b⟩:=a5;cases M:Dw C ci i.defs p i.heap with
  |err e=>rw[M]at b;cases b
  |ok b1=>
   rw[M]at b;obtain⟨X,h'⟩:=b1;have Y:=fun a2=>QV (ro:=none) (fr:={f,π,raw,ci,nt:=fn.ntmps}) L.cfg a3 (fun _=>rfl) L.mixed ⟨fn,g1⟩ R 0 c _ o i a0 W a2;have T:(∃v,X=some v/\r=(.ge v,h'))\/(X=none/\ ∃q,KR C fn {i with heap:=h'}=some q/\((r=(.ret q,h')/\(raw=true\/π≠ []))\/(raw=false/\π=[]/\ ∃u,ZZ h'.get q=some u/\r=(.ret u,[])))):=by
    unfold VK at b;cases X with
    |some v=>simp only[E.ok.injEq]at b;exact .inl ⟨v,rfl,b.symm⟩
    |none=>
     simp only at b;split at b
     .rename_i q U;simp only[LX]at b;refine .inr ⟨rfl,q,U,?_⟩;split at b
      .simp only[E.ok.injEq]at b;exact .inl ⟨b.symm,.inl rfl⟩
      .split at b
       .split at b
        .rename_i u J;simp only[E.ok.injEq]at b;exact .inr ⟨rfl,rfl,u,J,b.symm⟩
        .cases b
       .rename_i be;simp only[E.ok.injEq]at b;exact .inl ⟨b.symm,.inr fun e=>be e⟩
     .cases b
   have ar: ∀(A:Nat->Prop) (β:BK),(raw=false-> ∀id,β id≠none->π<:+id)->LW (HO P C) h->RU P A (.fn f) args h π ci r β:=by
    intro A β bk B w vs H a' ai;show Calls P f vs w (QB A ci π β w h r);refine Vy g1 S ?_;have b6:vs.size=args.length:=ai.1.symm;have bx:TE A {f,π,raw,ci,nt:=fn.ntmps} ⟨fn.ntmps,w.heap.size⟩ β w {env:=EE 0 args,heap:=h,base:=0,defs:=[]} {tmps:=vs++Array.replicate (fn.ntmps-vs.size) Go.undef,defers:=[]}:=by
     refine⟨H,⟨Aa,fun t=>?_,trivial⟩,fun n _ id F=>a' id ((F5 n π).trans F),bk,Es _⟩;simp only;rw[VM,D4 (It t),Nat.sub_zero];by_cases V:t<args.length
     .have a:args.getD t .undef=args[t]:=by simp[V]
      have h2:(vs++Array.replicate (fn.ntmps-vs.size) Go.undef).getD t Go.undef=vs[t]'(AA):=by
       rw[Gs,LM AA,Ex AA];rfl
      rw[a,h2];exact ai.2 t _ _ (CO V) (Ex AA)
     .have a:args.getD t .undef=.undef:=by simp[LC (Nat.le_of_not_lt V)]
      rw[a];exact .undef _
    have bl:=((Y B).2 A ⟨fn.ntmps,w.heap.size⟩ β w _ rfl bx).1;refine bl.mono fun e z w' post=>?_;have go: ∀{k:BK} {y:FrameMode},CN A ci π β w h k w' i.heap->TE A {f,π,raw,ci,nt:=fn.ntmps} ⟨fn.ntmps,w.heap.size⟩ k w' i z->rn k w' (MS A k i.heap) p y->
     LeavesInM Fence.wide 0 P fn z.tmps (QB A ci π β w h r) z.defers y w':=by
     intro k y s m bc;refine U2 (C:=C) (ci:=ci) L.rx (env:=i.env.get) (lb:=w.heap.size) (Es _) k ?_ i.defs z.defers p i.heap w' y M m.s.defs s m.s.env bc;intro b4 av x a4 ad;show LeavesIn Fence.wide 0 P fn z.tmps (QB A ci π β w h r) [] av b4;rcases T with⟨v,rfl,rfl⟩|⟨rfl,q,U,D⟩
     .obtain⟨b3,rfl,bs⟩:=ad;exact⟨k,x,b3,rfl,bs⟩
     .have bo:av=.returning:=ad;subst bo;obtain⟨b2,a,h2⟩:=jQ L.cfg (st:={i with heap:=h'}) x.hr a4 U
      refine⟨b2,a,?_⟩;rcases D with⟨rfl,_⟩|⟨_,rfl,u,J,rfl⟩
      .exact⟨k,x,h2⟩
      .refine⟨k,x.trans (XK x.hr (fun id o bi=>by simp at bi) fun id F=>absurd List.nil_suffix F),?_⟩;exact zT x.hr h2 J
    cases e with
    |normal=>
     exact zBW
    |ret=>
     exact zBW
    |exit id=>
     obtain⟨a,_⟩:=post;rcases N with⟨h2,_⟩|⟨h2,_⟩|⟨v,h2,_⟩<;>rw[a]at h2<;>cases h2
    |panic chain=>
     obtain⟨v,y,k,a,rfl,s,m,Q⟩:=post;have I:p=some v:=by
      rcases N with⟨h2,j⟩|⟨h2,j⟩|⟨az,h2,j⟩
      .rw[a]at h2;cases h2
      .rw[a]at h2;cases h2
      .rw[a]at h2;cases h2;exact j
     subst I;exact go s m ⟨y,rfl,Q⟩
    |goto l=>exact post.elim
    |outgrown=>exact post.elim
   refine⟨fun b5 a7=>?_,fun O _ B A β=>ar A β (fun h=>by rw[O]at h;cases h) B,fun O Z ag A=>?_,fun O Z ag bv v Q=>?_,fun _ B=>?_⟩
   .cases a7;exact⟨fn,c,g1,S,a1⟩
   .subst Z ag;exact ar A (fun _=>none) (fun _ id F=>absurd rfl F) LW.nil
   .rcases T with⟨az,_,rfl⟩|⟨_,q,_,D⟩
    .cases Q
    .rcases D with⟨_,a|a⟩|⟨_,_,u,J,rfl⟩
     .rw[O]at a;cases a
     .exact absurd bv a
     .cases Q;exact⟨zS J,rfl⟩
   .have a:=Qo (Y B).1 M;rcases T with⟨az,_,rfl⟩|⟨_,q,_,D⟩
    .exact a
    .rcases D with⟨rfl,_⟩|⟨_,_,u,_,rfl⟩
     .exact a
     .exact LW.nil
variable{A:Nat->Prop}{P:Program}{mix:List TypeId}{β β' β'':BK}{w w' w'':World}{h h' h'':AD}{π ρ:List Nat}{ci:Option (List Nat)}{nt:NT}{a:Act}{ro:Option Nat}
variable{C:DJ}{K:Ab}{fr:Fr}
def l7(h:w.heap[k]? =some (.loop l))(a:l.state=.ready):(Instr.beginRound k).run P w=.ok () (World.ip w k (.loop {l with state:=.busy})):=by
 simp[Instr.beginRound,Nh h,JD (P:=P) h AG,a]
def yo(h:w.heap[k]? =some (.loop l))(j:Option Code):
 (Instr.endRound k j).run P w=.ok (.bool j.isNone) (World.ip w k (.loop {l with state:=if j.isNone then .ready else .done,pending:=j})):=by
 simp[Instr.endRound,Nh h,JD (P:=P) h AG]
def RA: ∀{ts:List Nat} {vs:List AV} {e e':CA},FA e ts vs=some e'->ts.length=vs.length
 |[],[],_,_,_=>rfl
 |t::ts,v::vs,e,e',h=>by
  simp only[FA]at h;simp[RA h]
 |[],_::_,_,_,h=>by simp[FA]at h
 |_::_,[],_,_,h=>by simp[FA]at h
def fq(l:List (Nat×Value)): ∀(tmps:Array Value),(l.foldl (fun tmps (x:Nat×Value)=>tmps.setIfInBounds x.1 x.2) tmps).size=tmps.size:=by
 induction l with
 |nil=>intro tmps;rfl
 |cons x l a=>intro tmps;rw[Mp,a];simp
def S4{M:Nat->Prop}: ∀{ts:List Nat} {vs:List AV} {us:List Value} {e e':CA} {tmps:Array Value},FA e ts vs=some e'->vs.length=us.length->(∀(i:Nat) (x:AV) (v:Value),vs[i]? =some x->us[i]? =some v->VR β w M x v)->
 (∀t∈ts,t<tmps.size)->Kz β w M e.get (fun t=>tmps.getD t Go.undef)->Kz β w M e'.get fun t=>((ts.zip us).foldl (fun tmps (x:Nat×Value)=>tmps.setIfInBounds x.1 x.2) tmps).getD t Go.undef
 |[],[],us,e,e',tmps,h,_,_,_,he=>by
  simp only[FA,Co]at h;subst h;simpa using he
 |t::ts,v::vs,[],e,e',tmps,_,hl,_,_,_=>by simp at hl
 |t::ts,v::vs,u::us,e,e',tmps,h,hl,hv,ht,he=>by
  simp only[FA]at h;rw[List.zip_cons_cons,Mp];refine S4 h (by simpa using hl) (fun i x v b h2=>hv (i+1) x v zEz zE2) (fun a f=>by simp;exact ht a zFX) fun a=>?_;have c:=ht t AG;rw[CA.get_cons];by_cases e:t=a
  .subst e;rw[D4 rfl];have:(tmps.setIfInBounds t u).getD t Go.undef=u:=by simp[c]
   show VR β w M v ((tmps.setIfInBounds t u).getD t Go.undef);rw[this];exact hv 0 v u rfl rfl
  .rw[Ci e];have:(tmps.setIfInBounds t u).getD a Go.undef=tmps.getD a Go.undef:=by
    rw[Gs,I1 e,<-Gs]
   show VR β w M (CA.get _ a) ((tmps.setIfInBounds t u).getD a Go.undef);rw[this];exact he a
 |[],_::_,_,_,_,_,h,_,_,_,_=>by simp[FA]at h
 |_::_,[],_,_,_,_,h,_,_,_,_=>by simp[FA]at h
def XL{id:Id}{r:Lp}{k:TH}(H:HR A β w h)(c:h.get id=some (.loop r))(a:β id=some k)(f:w.heap[k.b]? =some (.loop l))(q:LQ ci [(id,.box [])]=true)(s:LoopState)(p:Option Code):
 CN A ci π β w h β (World.ip w k.b (.loop {l with state:=s,pending:=p})) (h.put id (.loop {r with state:=s,v6:=p})):=by
 have i:=IU H (o':=.loop {r with state:=s,v6:=p}) c rfl a (.loop {l with state:=s,pending:=p})
 obtain⟨D,e,F,j,I,J,u,v,x,y,B,z⟩:=H.obj id _ c;rw[a]at e;cases e;rw[f]at j;cases j;have m:HR A β (World.ip w k.b (.loop {l with state:=s,pending:=p})) (h.put id (.loop {r with state:=s,v6:=p})):=
  H.upd' c rfl a ⟨_,JS _ (AK f),rfl,rfl,u,v,x,y,B,z.mono (.refl β) i⟩
 have t:LQ ci [(id,Obj.loop {r with state:=s,v6:=p})]=true:=by
  cases ci with
  |none=>rfl
  |some ρ=>simpa[LQ]using q
 have g:=K8 (ρ:=π) (δ:=[(id,.loop {r with state:=s,v6:=p})]) (.refl β) (fun _ n=>.inl n) m i ⟨fun b C o=>GF _ (Ne.symm (o (id,.loop {r with state:=s,v6:=p}) AG k a)),fun _ _ h=>.inl h⟩ t
 exact g
def dX(z:Zb P mix C)(W:EC P (HO P C) K){id:Id}{r:Lp}{F:Nat}{args:List AV}{M:A8×AD}(a:IW C K F id r args h π ci=.ok M):
 jw P (HO P C) (.round id r) args h π true ci M:=by
 unfold IW at a;split at a
 case h_2=>cases a
 rename_i e a5;have cp:=RA a5;cases Z:Bo C K {f:=r.f,π,raw:=true,ci,wp:=true,nt:=r.nt} F 0 r.of {env:=e,heap:=h,base:=0,defs:=[]}with
 |err e=>rw[Z]at a;simp[Jr]at a
 |ok dd=>
  rw[Z]at a;obtain⟨dr,y⟩:=dd;unfold Jr at a;split at a
  case h_2=>cases a
  rename_i d1 heq;simp only[E.ok.injEq,F9]at heq;obtain⟨rfl,rfl⟩:=heq;split at a
  case h_2=>cases a
  rename_i df bk;unfold Oz at a;split at a
  case h_2=>cases a
  rename_i b X;split at a
  case h_2=>cases a
  rename_i cs;simp only[BB]at a;cases ac:Bo C K {f:=r.f,π,raw:=true,ci,wp:=true,nt:=r.nt} F 0 r.body {y with heap:=y.heap.put id (.loop {b with state:=.busy})}with
  |err e=>rw[ac]at a;cases a
  |ok U=>
   rw[ac]at a;obtain⟨o,N⟩:=U;unfold Q9 at a;simp only at a;split at a
   case h_2=>cases a
   rename_i b8;unfold dW at a;split at a
   case h_2=>cases a
   rename_i U a0;have dm: ∀{s p},HO P C b->HO P C {b with state:=s,v6:=p}:=fun h=>h
   refine⟨fun f cc=>(by cases cc),fun _ ar ag A β=>?_,fun h=>zEa,fun h=>zEa,fun ar ag=>?_⟩
   .obtain⟨⟨fn,L⟩,av,az,bc⟩:=ar id r rfl;intro w vs H a6 bi;refine⟨cp,fun k l ch Y cn=>?_⟩;obtain⟨bl,B,dn,bo,ds,d0,c6,c7,c8,c9,bs,c'⟩:=H.obj id _ ch;rw[Y]at B;cases B;rw[cn]at bo;cases bo;rw[c6];have a': ¬π<:+id:=fun be=>by rw[a6 id be]at Y;cases Y
    refine WK L ?_;rw[c8];have cx:(JB l vs).size=r.nt:=by
     unfold JB;rw[<-Array.foldl_toList,fq,bs]
    have c4:TE A {f:=r.f,π,raw:=true,ci,wp:=true,nt:=r.nt} ⟨r.nt,w.heap.size⟩ β w {env:=e,heap:=h,base:=0,defs:=[]} {tmps:=JB l vs,defers:=[]}:=by
     refine⟨H,⟨cx,?_,trivial⟩,fun n _ id cl=>a6 id ((F5 n π).trans cl),fun h=>zEa,Es _⟩;have:=S4 (us:=vs.toList) a5 (by rw[bi.1];simp) (fun i x v b7 h2=>bi.2 i x v b7 zE2) (fun t c0=>by rw[bs];exact bc t c0) c';unfold JB;rw[<-Array.foldl_toList,Array.toList_zip,c7];exact this
    obtain⟨Q,c2⟩:=QV (ro:=some k.b) (fr:={f:=r.f,π,raw:=true,ci,wp:=true,nt:=r.nt}) z.cfg W (fun h=>zEa) z.mixed ⟨fn,L⟩ F 0 r.of _ .normal y av Z ag;refine(c2 A ⟨r.nt,w.heap.size⟩ β w _ rfl c4).1.mono fun ad a3 b3 post=>?_;cases ad with
    |normal=>
     obtain⟨_,O,g1,S⟩:=post;have a1:O id=some k:=by rw[g1.out id a'];exact Y
     obtain⟨bl,B,T,bx,de,b0,d2,d3,d4,d5,d7,d6⟩:=S.hr.obj id _ X;rw[a1]at B;cases B;refine⟨_,l7 bx (by rw[de];exact cs),?_⟩;have I:=XL (π:=π) S.hr X a1 bx bk .busy T.pending;rw[b0]at I;have b4:({b with state:=LoopState.busy,v6:=b.v6}:Lp)={b with state:=.busy}:=rfl
     have b5:({T with state:=LoopState.busy,pending:=b.v6}:Loop)={T with state:=.busy}:=by rw[<-b0]
     rw[b4,b5]at I;have c5:TE A {f:=r.f,π,raw:=true,ci,wp:=true,nt:=r.nt} ⟨r.nt,w.heap.size⟩ O (World.ip b3 k.b (.loop {T with state:=.busy})) {y with heap:=y.heap.put id (.loop {b with state:=.busy})} a3:=
      ⟨I.hr,S.s.mono (.refl O) I.it,S.fresh,fun h=>zEa,IP S.lb I.it.size⟩
     have ai:LW (HO P C) (y.heap.put id (.loop {b with state:=.busy})):=Q.put fun bv R=>by
      cases R;exact Q id b X
     obtain⟨V,c3⟩:=QV (ro:=some k.b) (fr:={f:=r.f,π,raw:=true,ci,wp:=true,nt:=r.nt}) z.cfg W (fun h=>zEa) z.mixed ⟨fn,L⟩ F 0 r.body _ o N az ac ai;rw[c9];refine(c3 A ⟨r.nt,w.heap.size⟩ O _ a3 rfl c5).1.mono fun ad a4 a2 post=>?_;have D: ∀{u:BK},CN A ci π O (World.ip b3 k.b (.loop {T with state:=.busy})) (y.heap.put id (.loop {b with state:=.busy})) u a2 N.heap->TE A {f:=r.f,π,raw:=true,ci,wp:=true,nt:=r.nt} ⟨r.nt,w.heap.size⟩ u a2 N a4->
      ∀(j:Option Code),Ks id N.heap U j=.ok M-> ∃v w',(Instr.endRound k.b j).run P a2=.ok v w'/\QB A ci π β w h M (.returned v) w':=by
      intro u m q j J;have a7:u id=some k:=by rw[m.out id a'];exact a1
      obtain⟨bl,B,dq,b2,d8,d9,d',ea,eb,ej,ek,u8⟩:=q.hr.obj id _ a0;rw[a7]at B;cases B;refine⟨_,_,yo b2 j,?_⟩;have b6:=XL (π:=π) q.hr a0 a7 b2 bk (if j.isNone then .ready else .done) j;unfold Ks at J;simp only[E.ok.injEq]at J;subst J;refine⟨u,?_,.d (.bool _)⟩;have be:(match j with|none=>LoopState.ready|some _=>LoopState.done)=(if j.isNone then LoopState.ready else LoopState.done):=by cases j<;>rfl
      have g:=((g1.trans I).trans m).trans b6;cases j with
      |none=>exact g
      |some c=>exact g
     cases ad with
     |normal=>
      obtain⟨rfl,u,m,q⟩:=post;exact D m q none a
     |ret=>
      obtain⟨rfl,u,m,q⟩:=post;exact D m q (some .ret) a
     |exit x=>
      obtain⟨rfl,u,m,q⟩:=post;exact D m q (some (.exit x)) a
     |panic chain=>
      obtain⟨v,b1,u,rfl,rfl,m,q,c1⟩:=post;simp only[E.ok.injEq]at a;subst a;refine⟨?_,u,(g1.trans I).trans m,b1,rfl,c1⟩;have:=q.s.defs;rw[b8]at this;cases b':a4.defers with
      |nil=>rfl
      |cons d l=>rw[b']at this;exact this.elim
     |goto l=>exact post.elim
     |outgrown=>exact post.elim
    |exit x=>obtain⟨h,_⟩:=post;cases h
    |ret=>obtain⟨h,_⟩:=post;cases h
    |panic chain=>obtain⟨v,b1,O,h,_⟩:=post;cases h
    |goto l=>exact post.elim
    |outgrown=>exact post.elim
   .obtain⟨⟨fn,L⟩,av,az,bc⟩:=ar id r rfl;have Q:=(QV (ro:=some 0) (fr:={f:=r.f,π,raw:=true,ci,wp:=true,nt:=r.nt}) z.cfg W (fun h=>zEa) z.mixed ⟨fn,L⟩ F 0 r.of _ .normal y av Z ag).1;have ai:LW (HO P C) (y.heap.put id (.loop {b with state:=.busy})):=Q.put fun bv R=>by
     cases R;exact Q id b X
    have V:=(QV (ro:=some 0) (fr:={f:=r.f,π,raw:=true,ci,wp:=true,nt:=r.nt}) z.cfg W (fun h=>zEa) z.mixed ⟨fn,L⟩ F 0 r.body _ o N az ac ai).1;have D: ∀j,Ks id N.heap U j=.ok M->LW (HO P C) M.2:=by
     intro j J;unfold Ks at J;simp only[E.ok.injEq]at J;subst J;exact V.put fun bv R=>by
      cases R;exact V id U a0
    cases o with
    |normal=>exact D _ a
    |ret=>exact D _ a
    |exit x=>exact D _ a
    |ge v=>
     simp only[E.ok.injEq]at a;subst a;exact V
def SZ(b:Zb P mix C)(c: ∀f,C.i9 f=true->rb P C f)(m:Nat): ∀n,EC P (HO P C) (JX P C m n)
 |0=>fun t args h π raw ci r a=>by simp[JX]at a
 |n+1=>fun t args h π raw ci r a=>by
  have e:=SZ b c m n;cases t with
  |fn f=>
   simp only[JX]at a;split at a
   .rename_i g;exact tj b e (c f g) a
   .cases a
  |round id lp=>
   simp only[JX]at a;split at a
   .exact dX b e a
   .cases a
variable{P:Program}{C:DJ}{mix:List TypeId}
structure Qu where
 t:B0
 args:List AV
 h:AD
 π:List Nat
 raw:Bool
 ci:Option (List Nat)
def ask(K:Ab)(q:Qu):E (A8×AD):=K q.t q.args q.h q.π q.raw q.ci
def O6(K K':Ab)(L:List Qu):Prop:= ∀q∈L,∀r,ask K q=.ok r->ask K' q=.ok r
variable{K K':Ab}{L:List Qu}
def O6.left{M:List Qu}(h:O6 K K' (L++M)):O6 K K' L:=fun q a=>h q (Hw _ a)
def O6.right{M:List Qu}(h:O6 K K' (L++M)):O6 K K' M:=fun q a=>h q (HU _ a)
def Ib.i9:Ib->Prop
 |.err _=>False
 |_=>True
def r7{α:Type}(K:Ab)(f:Ab->α)(i9:α->Prop):Prop:=i9 (f K)-> ∃L,∀K',O6 K K' L->f K'=f K
variable{α:Type}
def OC{b:α->Prop}(q:Qu)(g:E (A8×AD)->α)(c: ∀l,¬b (g (.err l))):r7 K (fun K=>g (ask K q)) b:=by
 intro e;refine⟨[q],fun K' h=>?_⟩;cases a:ask K q with
 |err l=>exact absurd (by simpa[a]using e) (c l)
 |ok r=>simp only[a,h q AG r a]
def Ef{a:α->Prop}(x:α):r7 K (fun _=>x) a:=fun _=>⟨[],fun _ _=>rfl⟩
variable{ρ:List Nat}{dst:Option Tmp}
def N3(l:List Nat): ¬(FU ρ dst st (.err l)).i9:=fun h=>h
def ZI{as:List AV}(l:List Nat): ¬(EW fr as dst st (.err l)).i9:=fun h=>h
def jR(l:List Nat): ¬(Q8 dst st (.err l)).i9:=fun h=>h
variable{args:List AV}
def Sg{a:AV}:r7 K (fun K=>FO C K fr ρ a args dst st) Ib.i9:=by
 unfold FO;cases a with
 |wt id=>
  simp only[K4];cases st.heap.get id with
  |none=>exact Ef _
  |some o=>cases o with
   |loop r=>exact OC ⟨.round id r,args,st.heap,ρ,true,fr.ci⟩ _ N3
   |_=>exact Ef _
 |fn f first cap=>
  simp only[Bn,Ei];split
  .exact OC ⟨.fn f,_,st.heap,ρ,true,fr.ci⟩ _ N3
  .split
   .exact OC ⟨.fn f,_,[],_,false,none⟩ _ ZI
   .simp only[Gl,Bn,CU,BB];split
    .exact OC ⟨.fn f,_,_,ρ,true,some ρ⟩ _ jR
    .split
     .exact OC ⟨.fn f,_,_,ρ,true,fr.ci⟩ _ N3
     .exact Ef _
 |_=>exact Ef _
def dp{o:Oper}:r7 K (fun K=>DB C K fr ops ρ o st) Ib.i9:=by
 unfold DB;cases Oh ops st.env o with
 |none=>exact Ef _
 |some b=>cases b with
  |false=>exact Ef _
  |true=>
   simp only[Bb];split
   .split
    .exact Sg
    .simp only[HP];split
     .split
      .exact Sg
      .exact Ef _
     .exact Ef _
    .exact Ef _
   .exact Ef _
   .exact Ef _
   .exact Ef _
def E.i9{α:Type}:E α->Prop
 |.ok _=>True
 |.err _=>False
def S5{K:Ab}{fr:Fr}{ops:Array Oper}{b:Nat}{alone:Nat->Bool}: ∀(l:List Oper) (i:Nat) (st:St),r7 K (fun K=>Ds C K fr ops b alone l i st) E.i9
 |[],i,st=>Ef _
 |o::l,i,st=>by
  intro a;simp only[Ds,JM]at a⊢;have k:=dp (C:=C) (K:=K) (fr:=fr) (ops:=ops) (ρ:=(b+i)::fr.π) (o:=o) (st:=st);cases c:DB C K fr ops ((b+i)::fr.π) o st with
  |err e=>simp only[c]at a;exact a.elim
  |ge v st'=>
   obtain⟨L,f⟩:=k (by simp only[c];trivial);refine⟨L,fun K' h=>?_⟩;have:=f K' h;simp only at this;rw[this,c]
  |ok st' p=>
   obtain⟨L,f⟩:=k (by simp only[c];trivial);simp only[c]at a;have n:=S5 (K:=K) (fr:=fr) (ops:=ops) (b:=b) (alone:=alone) l (i+1) st';cases g:Ds C K fr ops b alone l (i+1) st' with
   |err e=>simp only[g]at a;exact a.elim
   |ok r=>
    obtain⟨M,m⟩:=n (by simp only[g];trivial);refine⟨L++M,fun K' h=>?_⟩;have j:=f K' h.left;have h2:=m K' h.right;simp only at j h2;rw[j,c];simp only;rw[h2,g]
def Oc: ∀(n b:Nat) (c:Code) (st:St),(Bo C K fr n b c st).i9-> ∃L,∀K' n',n<=n'->O6 K K' L->Bo C K' fr n' b c st=Bo C K fr n b c st:=by
 intro n;induction n with
 |zero=>intro b c st a;simp[Bo,E.i9]at a
 |succ n s=>
  intro b c st a;have up: ∀{L:List Qu},(∀K' n',n<=n'->O6 K K' L->Bo C K' fr (n'+1) b c st=Bo C K fr (n+1) b c st)-> ∃L,∀K' n',n+1<=n'->O6 K K' L->Bo C K' fr n' b c st=Bo C K fr (n+1) b c st:=by
   intro L h;refine⟨L,fun K' n' k j=>?_⟩;obtain⟨m,rfl⟩: ∃m,n'=m+1:=⟨n'-1,AA⟩;exact h K' m AA j
  cases c with
  |skip=>exact zCy
  |label l=>exact zCy
  |exit id=>exact zCy
  |ret=>exact zCy
  |goto l=>simp[Bo,E.i9]at a
  |scope x=>simp[Bo,E.i9]at a
  |refuse=>simp[Bo,E.i9]at a
  |seq x y=>
   simp only[Bo]at a;cases p:Bo C K fr n b x st with
   |err e=>rw[p]at a;exact a.elim
   |ok r=>
    rw[p]at a;obtain⟨L,q⟩:=s b x st (by rw[p];trivial);obtain⟨o,F⟩:=r;cases o with
    |normal=>
     obtain⟨M,z⟩:=s b y F a;refine up (L:=L++M) fun K' n' k j=>?_;simp only[Bo,q K' n' k j.left,p,EU];exact z K' n' k j.right
    |exit id=>exact zB8
    |ret=>exact zB8
    |ge v=>exact zB8
  |cond c x y=>
   simp only[Bo]at a;cases u:ev st.env.get c with
   |d d=>cases d with
    |bool t=>
     rw[u]at a;cases t with
     |true=>
      obtain⟨L,q⟩:=s b x st a;exact zDe
     |false=>
      obtain⟨L,q⟩:=s b y st a;exact zDe
    |_=>rw[u]at a;exact a.elim
   |_=>rw[u]at a;exact a.elim
  |block id x=>
   simp only[Bo]at a;cases p:Bo C K fr n id x st with
   |err e=>rw[p]at a;exact a.elim
   |ok r=>
    obtain⟨L,q⟩:=s id x st (by rw[p];trivial);exact up (L:=L) fun K' n' k j=>by simp only[Bo,q K' n' k j]
  |loop x=>
   simp only[Bo,MY]at a;cases p:Bo C K fr n b x (Fq C fr b st)with
   |err e=>rw[p]at a;exact a.elim
   |ok r=>
    rw[p]at a;obtain⟨L,q⟩:=s b x _ (by rw[p];trivial);obtain⟨o,F⟩:=r;cases o with
    |normal=>
     obtain⟨M,z⟩:=s b (.loop x) F a;refine up (L:=L++M) fun K' n' k j=>?_;simp only[Bo,MY,q K' n' k j.left,p,EU];exact z K' n' k j.right
    |exit id=>exact zB0
    |ret=>exact zB0
    |ge v=>exact zB0
  |region id ops H=>
   simp only[Bo,FP]at a;cases I:Ds C K fr ops st.base (fun i=> !H||C.alone fr.f id i) ops.toList 0 st with
   |err e=>rw[I]at a;exact a.elim
   |ok r=>
    obtain⟨L,q⟩:=S5 (C:=C) (K:=K) (fr:=fr) (ops:=ops) (b:=st.base) (alone:=fun i=> !H||C.alone fr.f id i) ops.toList 0 st (by simp only[I];trivial);refine up (L:=L) fun K' n' k j=>?_;have:=q K' j;simp only at this;simp only[Bo,FP,this]
  |rangeFunc g ps of body=>
   simp only[Bo,Hs]at a⊢;cases D:fr.wp with
   |true=>rw[D]at a;exact a.elim
   |false=>
    rw[D]at a;simp only[JM,BB,Ln]at a;cases A:ev st.env.get g with
    |fn f first cap=>
     rw[A]at a;simp only[Bn]at a;cases B:K (.fn f) (first++[.wt (0::st.base::fr.π)]++cap) (st.heap.put (0::st.base::fr.π) (.loop {state:=.ready,v6:=none,f:=fr.f,env:=st.env,params:=ps.toList,of:=of,body:=body,nt:=fr.nt})) ((st.base+1)::fr.π) true fr.ci with
     |err e=>rw[B]at a;exact a.elim
     |ok r=>
      refine⟨[⟨.fn f,first++[.wt (0::st.base::fr.π)]++cap,st.heap.put (0::st.base::fr.π) (.loop {state:=.ready,v6:=none,f:=fr.f,env:=st.env,params:=ps.toList,of:=of,body:=body,nt:=fr.nt}),(st.base+1)::fr.π,true,fr.ci⟩],fun K' n' k j=>?_⟩;obtain⟨m,rfl⟩: ∃m,n'=m+1:=⟨n'-1,AA⟩;have w:=j _ (Ac.2 rfl) r B;unfold ask at w;simp only at w;simp only[Bo,Hs,D,JM,BB,Ln,A,Bn,w,B]
    |_=>rw[A]at a;exact a.elim
def E.good_of{x:E α}{r:α}(h:x=.ok r):x.i9:=by rw[h];trivial
variable{n:Nat}{h:AD}{π:List Nat}{raw:Bool}{ci:Option (List Nat)}
def Pt{r:A8×AD}(a:RF P C K n f args h π raw ci=.ok r):
 ∃L,∀K' n',n<=n'->O6 K K' L->RF P C K' n' f args h π raw ci=.ok r:=by
 unfold RF at a⊢;cases g:P.funcs[f]? with
 |none=>rw[g]at a;cases a
 |some fn=>
  rw[g]at a;simp only at a⊢;cases b:fn.body with
  |none=>rw[b]at a;cases a
  |some c=>
   rw[b]at a;simp only at a⊢;cases i:Nat.ble args.length fn.ntmps with
   |false=>rw[i]at a;cases a
   |true=>
    rw[i]at a;simp only at a⊢;cases j:Bo C K {f,π,raw,ci,nt:=fn.ntmps} n 0 c {env:=EE 0 args,heap:=h,base:=0,defs:=[]}with
    |err e=>rw[j]at a;cases a
    |ok o=>
     obtain⟨L,k⟩:=Oc n 0 c _ (E.good_of j);exact⟨L,fun K' n' l m=>by rw[k K' n' l m];exact a⟩
variable{lp:Lp}
def Lf{id:Id}{r:A8×AD}(a:IW C K n id lp args h π ci=.ok r):
 ∃L,∀K' n',n<=n'->O6 K K' L->IW C K' n' id lp args h π ci=.ok r:=by
 unfold IW at a⊢;cases p:FA lp.env lp.params args with
 |none=>rw[p]at a;cases a
 |some e=>
  rw[p]at a;simp only at a⊢;cases i:Bo C K {f:=lp.f,π,raw:=true,ci,wp:=true,nt:=lp.nt} n 0 lp.of {env:=e,heap:=h,base:=0,defs:=[]}with
  |err e=>rw[i]at a;cases a
  |ok x=>
   obtain⟨L,v⟩:=Oc n 0 lp.of _ (E.good_of i);rw[i]at a;obtain⟨o,b⟩:=x;have body: ∀{r:A8×AD},Jr C K n id lp π ci (.ok (o,b))=.ok r-> ∃M,∀K' n',n<=n'->O6 K K' M->Jr C K' n' id lp π ci (.ok (o,b))=.ok r:=by
    intro r a;cases o with
    |normal=>
     simp only[Jr]at a⊢;cases k:b.defs with
     |cons d l=>simp only[k]at a;cases a
     |nil=>
      cases s:LQ ci [(id,.box [])]with
      |false=>simp only[k,s]at a;cases a
      |true=>
       simp only[k,s]at a⊢;unfold Oz at a⊢;cases m:b.heap.get id with
       |none=>simp only[m]at a;cases a
       |some w=>
        cases w with
        |loop u=>
         simp only[m]at a⊢;cases q:u.state with
         |ready=>
          simp only[q,BB]at a⊢;cases t:Bo C K {f:=lp.f,π,raw:=true,ci,wp:=true,nt:=lp.nt} n 0 lp.body {b with heap:=b.heap.put id (.loop {u with state:=.busy})}with
          |err e=>rw[t]at a;cases a
          |ok y=>
           obtain⟨M,j⟩:=Oc n 0 lp.body _ (E.good_of t);exact⟨M,fun K' n' c g=>by rw[j K' n' c g];exact a⟩
         |_=>simp only[q]at a;cases a
        |_=>simp only[m]at a;cases a
    |_=>simp[Jr]at a
   obtain⟨M,j⟩:=body a;exact⟨L++M,fun K' n' c g=>by rw[v K' n' c g.left,i];exact j K' n' c g.right⟩
def O6.all(h: ∀q r,ask K q=.ok r->ask K' q=.ok r)(L:List Qu):O6 K K' L:=fun q _=>h q
def KY{m m':Nat}(b:m<=m'): ∀{n n':Nat},n<=n'-> ∀(q:Qu) (r:A8×AD),ask (JX P C m n) q=.ok r->ask (JX P C m' n') q=.ok r
 |0,n',_,q,r,h=>by simp[ask,JX]at h
 |n+1,0,hn,_,_,_=>AA
 |n+1,n'+1,hn,q,r,h=>by
  have e:=KY b (Nat.le_of_succ_le_succ hn);obtain⟨t,args,g,π,raw,ci⟩:=q;unfold ask at h⊢;simp only[JX]at h⊢;cases t with
  |fn f=>
   simp only at h⊢;cases c:C.i9 f with
   |false=>rw[c]at h;cases h
   |true=>
    rw[c]at h;simp only at h⊢;obtain⟨L,a⟩:=Pt h;exact a _ _ b (.all e L)
  |round id lp=>
   simp only at h⊢;cases raw with
   |false=>cases h
   |true=>
    simp only at h⊢;obtain⟨L,a⟩:=Lf h;exact a _ _ b (.all e L)
open Classical in
noncomputable def KL(P:Program)(C:DJ):Ab:=fun t args h π raw ci=>
 if hx: ∃r n,JX P C n n t args h π raw ci=.ok r then .ok hx.choose else .err []
variable{q:Qu}
def hF{r:A8×AD}{m:Nat}(h:ask (JX P C m n) q=.ok r):ask (KL P C) q=.ok r:=by
 have a: ∃r n,JX P C n n q.t q.args q.h q.π q.raw q.ci=.ok r:=⟨r,max m n,KY (Lw _ _) (NO _ _) q r h⟩;unfold ask KL;rw[dif_pos a];obtain⟨k,c⟩:=a.choose_spec;have b:=KY (P:=P) (C:=C) (Lw m k) (Lw n k) q r h;have h2:=KY (P:=P) (C:=C) (NO m k) (NO n k) q _ c;rw[b]at h2;injection h2 with h2
 rw[h2]
def aA{r:A8×AD}(h:ask (KL P C) q=.ok r): ∃n,ask (JX P C n n) q=.ok r:=by
 unfold ask KL at h;split at h
 .rename_i b;obtain⟨n,a⟩:=b.choose_spec;simp only[E.ok.injEq]at h;rw[h]at a;exact⟨n,a⟩
 .cases h
def ju(L:List Qu): ∃N,∀m n,N<=m->N<=n->O6 (KL P C) (JX P C m n) L:=by
 induction L with
 |nil=>exact⟨0,fun _ _ _ _ q l=>by cases l⟩
 |cons q L o=>
  obtain⟨N,g⟩:=o;cases c:ask (KL P C) q with
  |err e=>
   refine⟨N,fun m n h i f a r b=>?_⟩;rcases D0.1 a with rfl|a
   .rw[c]at b;cases b
   .exact g m n h i f a r b
  |ok r0=>
   obtain⟨k,j⟩:=aA c;refine⟨max N k,fun m n h i f a r b=>?_⟩;rcases D0.1 a with rfl|a
   .rw[c]at b;cases b;exact KY AA AA _ _ j
   .exact g m n AA AA f a r b
def gA(c:C.i9 f=true){r:A8×AD}(e:RF P C (KL P C) n f args h π raw ci=.ok r):
 KL P C (.fn f) args h π raw ci=.ok r:=by
 obtain⟨L,a⟩:=Pt e;obtain⟨N,b⟩:=ju (P:=P) (C:=C) L;refine hF (q:=⟨.fn f,args,h,π,raw,ci⟩) (m:=max N n) (n:=max N n+1) ?_;unfold ask;simp only[JX,c];exact a _ _ (NO _ _) (b _ _ (Lw _ _) (Lw _ _))
def Zd{id:Id}{r:A8×AD}(c:IW C (KL P C) n id lp args h π ci=.ok r):
 KL P C (.round id lp) args h π true ci=.ok r:=by
 obtain⟨L,a⟩:=Lf c;obtain⟨N,b⟩:=ju (P:=P) (C:=C) L;refine hF (q:=⟨.round id lp,args,h,π,true,ci⟩) (m:=max N n) (n:=max N n+1) ?_;unfold ask;simp only[JX];exact a _ _ (NO _ _) (b _ _ (Lw _ _) (Lw _ _))
def rh(a:Zb P mix C)(b: ∀f,C.i9 f=true->rb P C f):EC P (HO P C) (KL P C):=by
 intro t args h π raw ci r e;obtain⟨n,c⟩:=aA (q:=⟨t,args,h,π,raw,ci⟩) e;exact SZ a b n n t args h π raw ci r c
