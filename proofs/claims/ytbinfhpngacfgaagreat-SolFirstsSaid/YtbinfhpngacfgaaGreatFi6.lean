/-
  Parts of it.
-/
import Derived.LoopNIn
import Derived.Test.YtbinfhpngacfgaaGreatFi5
set_option linter.all false
namespace Go.Abs
variable{P:Program}{f:FuncId}{ro:Option Nat}{Q Q':Exit→Act→World→Prop}{a:Act}{w:World}
abbrev kT(P:Program):Machine→Prop:=Machine.fenced P Fence.wide
def Bf(P:Program)(f:FuncId)(ro:Option Nat)(c:Code)(Q:Exit→Act→World→Prop)(a:Act)(w:World):Prop:=
 ∀(b:Frame) (k:List Item) (cs:List Frame),b.roundOf=ro→b.fn=f→
  ∃e a' w',Q e a' w'∧ArrivesIn (kT P) P (lone (b.atR a (.code c::k)) cs w) b k cs e a' w'
variable{m m':Machine}
theorem one(h:step P m=.next m'):StepsIn (kT P) P m m':=.one (fenced_wide P m) h
theorem head{m1:Machine}(h:step P m=.next m1)(h':StepsIn (kT P) P m1 m'):StepsIn (kT P) P m m':=.head (fenced_wide P m) h h'
variable{c:Code}
theorem Bf.mono(h:Bf P f ro c Q a w)(hq: ∀e a w,Q e a w→Q' e a w):Bf P f ro c Q' a w:=
 fun b k cs h1 h2=>let ⟨e,a',w',q,r⟩:=h b k cs h1 h2;⟨e,a',w',hq _ _ _ q,r⟩
theorem Bf.of_wp(h:c.wpIn (FF ro) 0 P Q a w):Bf P f ro c Q a w:=
 fun b k cs h1 _=>h b k cs h1 trivial fun _ hd=>(by cases hd)
theorem Bf.skip(h:Q .normal a w):Bf P f ro .skip Q a w:=fun _ _ _ _ _=>⟨.normal,a,w,h,one stepR_skip⟩
theorem Bf.label{l:Nat}(h:Q .normal a w):Bf P f ro (.label l) Q a w:=fun _ _ _ _ _=>⟨.normal,a,w,h,one stepR_label⟩
theorem Bf.exit{id:Nat}(h:Q (.exit id) a w):Bf P f ro (.exit id) Q a w:=
 fun _ k _ _ _=>⟨.exit id,a,w,h,fun _ hk=>one (stepR_exit hk),fun _ hk=>⟨k,hk,.refl _⟩⟩
theorem Bf.ret(h:Q .ret a w):Bf P f ro .ret Q a w:=
 fun _ k _ _ _=>⟨.ret,a,w,h,fun hn=>⟨_,one (stepR_ret hn)⟩,fun _=>⟨k,.refl _⟩⟩
theorem Bf.seq{x y:Code}(h:Bf P f ro x (Exit.then (Bf P f ro y Q) Q) a w):Bf P f ro (.seq x y) Q a w:=by
 intro b k cs h1 h2;obtain⟨e,a1,w1,hq,harr⟩:=h b (.code y::k) cs h1 h2;have s1:StepsIn (kT P) P (lone (b.atR a (.code (.seq x y)::k)) cs w) (lone (b.atR a (.code x:: .code y::k)) cs w):=one stepR_seq;have up: ∀{e},e≠Exit.normal→ArrivesIn (kT P) P (lone (b.atR a (.code x:: .code y::k)) cs w) b (.code y::k) cs e a1 w1→ArrivesIn (kT P) P (lone (b.atR a (.code (.seq x y)::k)) cs w) b k cs e a1 w1:=
  fun he h=>.of_steps s1 (.pass (x:=.code y) rfl (fun _ _=>.inl he) h)
 cases e with
 |normal=>
  obtain⟨e2,a2,w2,hq2,harr2⟩:=hq b k cs h1 h2;exact⟨e2,a2,w2,hq2,.of_steps (s1.trans harr) harr2⟩
 |exit id=>exact⟨_,a1,w1,hq,up (by simp) harr⟩
 |goto l=>exact⟨_,a1,w1,hq,up (by simp) harr⟩
 |ret=>exact⟨_,a1,w1,hq,up (by simp) harr⟩
 |panic ch=>exact⟨_,a1,w1,hq,up (by simp) harr⟩
 |outgrown=>exact⟨_,a1,w1,hq,up (by simp) harr⟩
theorem Bf.cond{c:Operand}{x y:Code}{t:Bool}(hc:a.eval c=.bool t)(h:Bf P f ro (if t then x else y) Q a w):Bf P f ro (.cond c x y) Q a w:=
 fun b k cs h1 h2=>let ⟨e,a',w',q,r⟩:=h b k cs h1 h2;⟨e,a',w',q,.of_steps (one (stepR_cond hc)) r⟩
theorem Bf.block{id:Nat}(h:Bf P f ro c (Exit.inBlock id Q) a w):Bf P f ro (.block id c) Q a w:=by
 intro b k cs h1 h2;have s1:StepsIn (kT P) P (lone (b.atR a (.code (.block id c)::k)) cs w) (lone (b.atR a (.code c:: .inBlock id::k)) cs w):=one stepR_block;obtain⟨e,a1,w1,hq,harr⟩:=h b (.inBlock id::k) cs h1 h2;cases e with
 |normal=>exact⟨.normal,a1,w1,hq,s1.trans (StepsIn.trans harr (one stepR_inBlock))⟩
 |exit id'=>
  by_cases hid:id'=id
  .simp only[Exit.inBlock,hid,F3]at hq;exact⟨.normal,a1,w1,hq,s1.trans (harr.1 k (by simp[exitTo,hid]))⟩
  .simp only[Exit.inBlock,hid,D8]at hq;have hne:(id==id')=false:=by simp;exact fun h=>hid h.symm
   have hx:exitTo id' (.inBlock id::k)=exitTo id' k:=by simp[exitTo,hne]
   exact⟨.exit id',a1,w1,hq,fun k' hk=>s1.trans (harr.1 k' (by rw[hx];exact hk)),
    fun hr hk=>let ⟨k1,g1,g2⟩:=harr.2 hr (by rw[hx];exact hk);⟨k1,g1,s1.trans g2⟩⟩
 |goto l=>
  have hx:gotoIn l (.inBlock id::k)=gotoIn l k:=by simp[gotoIn]
  exact⟨_,a1,w1,hq,fun k' hk=>s1.trans (harr.1 k' (by rw[hx];exact hk)),
   fun hr hk=>let ⟨k1,g1,g2⟩:=harr.2 hr (by rw[hx];exact hk);⟨k1,g1,s1.trans g2⟩⟩
 |ret=>exact⟨_,a1,w1,hq,.of_steps s1 harr⟩
 |panic ch=>exact⟨_,a1,w1,hq,.of_steps s1 harr⟩
 |outgrown=>exact⟨_,a1,w1,hq,.of_steps s1 harr⟩
def FB(P:Program)(f:FuncId)(ro:Option Nat)(c:Code)(Q:Exit→Act→World→Prop):Nat→Act→World→Prop
 |0,_,_=>False
 |m+1,a,w=>Bf P f ro c (Exit.then (FB P f ro c Q m) Q) a w
theorem Bf.loop(m:Nat)(h:FB P f ro c Q m a w):Bf P f ro (.loop c) Q a w:=by
 intro b k cs h1 h2;have key: ∀m a w,FB P f ro c Q m a w→ ∃e a' w',Q e a' w'∧ArrivesIn (kT P) P (lone (b.atR a (.code c:: .inLoop c::k)) cs w) b k cs e a' w':=by
  intro m;induction m with
  |zero=>intro a w h;exact h.elim
  |succ m ih=>
   intro a w h;obtain⟨e,a1,w1,hq,harr⟩:=h b (.inLoop c::k) cs h1 h2;have up:e≠Exit.normal→Q e a1 w1→ ∃e a' w',Q e a' w'∧ArrivesIn (kT P) P (lone (b.atR a (.code c:: .inLoop c::k)) cs w) b k cs e a' w':=
    fun he hq=>⟨e,a1,w1,hq,.pass (x:=.inLoop c) rfl (fun _ _=>.inl he) harr⟩
   cases e with
   |normal=>
    obtain⟨e2,a2,w2,hq2,harr2⟩:=ih a1 w1 hq;exact⟨e2,a2,w2,hq2,.of_steps (StepsIn.trans harr (one stepR_inLoop)) harr2⟩
   |exit id=>exact up (by simp) hq
   |goto l=>exact up (by simp) hq
   |ret=>exact up (by simp) hq
   |panic ch=>exact up (by simp) hq
   |outgrown=>exact up (by simp) hq
 obtain⟨e,a',w',hq,harr⟩:=key m a w h;exact⟨e,a',w',hq,.of_steps (one stepR_loop) harr⟩
variable{ps:Array Tmp}{jp body:Code}
theorem Bf.range{g:Operand}{l:Nat}{mark:List Deferred}{w1 w2 w1':World}{d:Deferred}{fn:FuncId}{args:Array Value}
 (he:(Instr.enterLoop f a.tmps ps jp body ro).run P w=.ok (l,mark) w1) (hres:(resolve a.eval (rangeCall g l) 0).run P w1=.ok d w1')
 (hinv:(invoke d.target d.args).run P w1'=.ok (.enter fn args) w2)
 (hcall:Calls P fn args w2 fun e w3=>match e with
  |.returned _=> ∃jump w4,(Instr.endLoop l).run P w3=.ok jump w4∧(match jump with
   |none=>Q .normal {a with defers:=mark++a.defers} w4
   |some c=>Bf P f ro c Q {a with defers:=mark++a.defers} w4)
  |.panicked chain=>Q (.panic chain) {a with defers:=mark++a.defers} w3
  |.outgrown=>False):Bf P f ro (.rangeFunc g ps jp body) Q a w:=by
 intro b k cs h1 h2;rw[←h1,←h2]at he;have henter:=stepR_rangeFunc (P:=P) (b:=b) (a:=a) (k:=k) (cs:=cs) (w:=w) he hres hinv;obtain⟨e,w3,fr,hR,hsteps,hfn,hleave⟩:=(callsIn_wide (n:=0).2 hcall).2 (b.atR {a with defers:=mark++a.defers} (.inRangeFunc l::k)::cs) (room_wide _)
 cases e with
 |outgrown=>exact hR.elim
 |returned v=>
  obtain⟨jump,w4,hend,hj⟩:=hR;have sback:StepsIn (kT P) P (lone (b.atR a (.code (.rangeFunc g ps jp body)::k)) cs w) (lone (b.atR {a with defers:=mark++a.defers} ((jump.map Item.code).toList++k)) cs w4):=by
   refine head henter (StepsIn.trans hsteps (head ?_ (one (stepR_endRangeFunc hend))));rw[←finish_atR_inRangeFunc l v];exact step_leave_returned hleave
  cases jump with
  |none=>exact⟨.normal,_,w4,hj,sback⟩
  |some c=>
   obtain⟨e',a'',w5,hq,harr⟩:=hj b k cs h1 h2;exact⟨e',a'',w5,hq,.of_steps sback harr⟩
 |panicked chain=>
  refine⟨.panic chain,_,w3,hR,.inRangeFunc l::k,head henter (StepsIn.trans hsteps (one ?_))⟩;rw[←Frame.raise_atR];exact step_leave_panicked hleave
variable{fn:Func}{R:Ending→World→Prop}
theorem RY{args:Array Value}(hf:P.funcs[f]? =some fn)(hb:fn.body=some c)
 (h:Bf P f none c (bodyPostM Fence.wide 0 P fn R) {tmps:=args++Array.replicate (fn.ntmps-args.size) undef,defers:=[]} w):Calls P f args w R:=by
 refine callsIn_wide (n:=0).1 ⟨trivial,fun cs hr=>?_⟩
 let b:Frame:={(default:Frame)with fn:=f,kind:=.normal,roundOf:=none}
 have henter:Frame.enter P f args .normal=b.atR {tmps:=args++Array.replicate (fn.ntmps-args.size) undef,defers:=[]} [.code c]:=by
  simp[Frame.enter,Frame.atR,hf,hb,b]
 obtain⟨e,a',w',hq,harr⟩:=h b [] cs rfl rfl;rw[←henter]at harr;cases e with
 |normal=>
  obtain⟨e',w'',fr',hR,hs,hfn,hl⟩:=leaves_stepsInM a'.defers .returning w' {b.atR a' []with mode:=.returning} cs rfl rfl rfl hf rfl trivial hr hq
  exact⟨e',w'',fr',hR,ComesIn.of_steps (StepsIn.trans harr (one (stepR_end rfl))) hs,hfn,hl⟩
 |ret=>
  obtain⟨todo,hs0⟩:=harr.1 rfl;obtain⟨e',w'',fr',hR,hs,hfn,hl⟩:=leaves_stepsInM a'.defers .returning w' {b.atR a' todo with mode:=.returning} cs rfl rfl rfl hf rfl trivial hr hq
  exact⟨e',w'',fr',hR,ComesIn.of_steps hs0 hs,hfn,hl⟩
 |panic chain=>
  obtain⟨todo,hs0⟩:=harr;obtain⟨e',w'',fr',hR,hs,hfn,hl⟩:=leaves_stepsInM a'.defers (.panicking chain) w' {b.atR a' todo with mode:=.panicking chain} cs rfl rfl rfl hf rfl trivial hr hq
  exact⟨e',w'',fr',hR,ComesIn.of_steps hs0 hs,hfn,hl⟩
 |exit id=>exact hq.elim
 |goto l=>exact hq.elim
 |outgrown=>exact⟨.outgrown,w',b,hq,harr.resolve_left (by simp[b]),rfl,trivial⟩
def lD(P:Program)(l:Nat)(R:Ending→World→Prop):Exit→Act→World→Prop
 |.normal,_,w=> ∃v w',(Instr.endRound l none).run P w=.ok v w'∧R (.returned v) w'
 |.ret,_,w=> ∃v w',(Instr.endRound l (some .ret)).run P w=.ok v w'∧R (.returned v) w'
 |.exit id,_,w=> ∃v w',(Instr.endRound l (some (.exit id))).run P w=.ok v w'∧R (.returned v) w'
 |.panic chain,a,w=>a.defers=[]∧R (.panicked chain) w
 |_,_,_=>False
variable{tmps:Array Value}
theorem Rn{l:Nat}(hf:P.funcs[f]? =some fn)
 (h:Bf P f (some l) jp (Exit.then (fun a1 w1=> ∃w2,(Instr.beginRound l).run P w1=.ok () w2∧Bf P f (some l) body (lD P l R) a1 w2) (fun _ _ _=>False)) {tmps:=tmps,defers:=[]} w):
 RoundIn Fence.wide 0 P l f tmps jp body w R:=by
 refine⟨trivial,fun c cs _=>?_⟩
 let b:Frame:={(default:Frame)with fn:=f,kind:=.normal,roundOf:=some l}
 have hb0:Frame.round l f tmps jp body .normal=b.atR {tmps:=tmps,defers:=[]} [.code jp,.beginRound,.code body]:=by
  simp[Frame.round,Frame.atR,b]
 obtain⟨e,a1,w1,hq,harr⟩:=h b [.beginRound,.code body] (c::cs) rfl rfl;rw[←hb0]at harr;cases e with
 |normal=>
  obtain⟨w2,hbr,hbody⟩:=hq;have s1:StepsIn (kT P) P (lone (b.atR a1 [.beginRound,.code body]) (c::cs) w1) (lone (b.atR a1 [.code body]) (c::cs) w2):=one (stepR_beginRound rfl hbr);have s0:=StepsIn.trans harr s1;obtain⟨e2,a2,w3,hq2,harr2⟩:=hbody b [] (c::cs) rfl rfl;cases e2 with
  |normal=>
   obtain⟨v,w4,hend,hR⟩:=hq2;exact⟨.returned v,w4,hR,s0.trans (StepsIn.trans harr2 (one (stepR_round_end rfl rfl hend)))⟩
  |ret=>
   obtain⟨v,w4,hend,hR⟩:=hq2;obtain⟨k1,hs⟩:=harr2.2 rfl;exact⟨.returned v,w4,hR,s0.trans (StepsIn.trans hs (one (stepR_round_ret rfl rfl hend)))⟩
  |exit id=>
   obtain⟨v,w4,hend,hR⟩:=hq2;obtain⟨k1,hk,hs⟩:=harr2.2 rfl rfl;exact⟨.returned v,w4,hR,s0.trans (StepsIn.trans hs (one (stepR_round_exit rfl rfl hk hend)))⟩
  |panic chain=>
   obtain⟨hd,hR⟩:=hq2;obtain⟨todo,hs⟩:=harr2;refine⟨.panicked chain,w3,hR,s0.trans (StepsIn.trans hs (one ?_))⟩;exact step_leave_panicked ⟨rfl,hd,fn,hf⟩
  |goto t=>exact hq2.elim
  |outgrown=>exact hq2.elim
 |exit id=>exact hq.elim
 |goto t=>exact hq.elim
 |ret=>exact hq.elim
 |panic chain=>exact hq.elim
 |outgrown=>exact hq.elim
variable{A:Nat→Prop}{P:Program}{mix:List TypeId}{β β' β'':Aj}{w w' w'':World}{h h' h'':AB}{π ρ:List Nat}{bi:Option (List Nat)}{nt:NT}{a:Act}{ro:Option Nat}
def DF(C:CA)(f:FuncId)(nt:Nat):Code→Bool
 |.region id ops draw=>ops.toList.all (fun o=>match o.dst with|some d=>Nat.blt d nt|none=>true)&&(!draw||pw ops (C.co f id) (C.alone f id))
 |.seq x y=>DF C f nt x&&DF C f nt y
 |.cond _ x y=>DF C f nt x&&DF C f nt y
 |.block _ x=>DF C f nt x
 |.loop x=>DF C f nt x
 |.rangeFunc _ ps jp body=>ps.toList.all (fun d=>Nat.blt d nt)&&DF C f nt jp&&DF C f nt body
 |_=>true
def E2(P:Program)(C:CA)(r:Lp):Prop:=
 (∃fn,P.funcs[r.f]? =some fn)∧DF C r.f r.nt r.jp=true∧DF C r.f r.nt r.body=true∧ ∀t∈r.params,t<r.nt
structure PE(A:Nat→Prop)(fr:Fr)(nt:NT)(β:Aj)(w:World)(st:St)(a:Act):Prop where
 hr:HR A β w st.heap
 s:KG A β w nt st.env.get st.defs st.heap a
 fresh:Bn β fr.π st.base
 own:fr.raw=false→ ∀id,β id≠none→fr.π<:+id
 lb:nt.lb≤w.heap.size
variable{fr:Fr}
theorem Ql(ho:fr.raw=false→ ∀id,β id≠none→fr.π<:+id)(g:BQ A bi fr.π β w h β' w' h'):fr.raw=false→ ∀id,β' id≠none→fr.π<:+id:=by
 intro hr id hi;by_cases e:fr.π<:+id
 .exact e
 .rw[g.out id e]at hi;exact ho hr id hi
def Ho(A:Nat→Prop)(fr:Fr)(nt:NT)(β:Aj)(w:World)(h:AB)(o:Dc)(st':St):Exit→Act→World→Prop
 |.normal,a',w'=>o=.normal∧ ∃β',BQ A fr.bi fr.π β w h β' w' st'.heap∧PE A fr nt β' w' st' a'
 |.exit id,a',w'=>o=.exit id∧ ∃β',BQ A fr.bi fr.π β w h β' w' st'.heap∧PE A fr nt β' w' st' a'
 |.ret,a',w'=>o=.ret∧ ∃β',BQ A fr.bi fr.π β w h β' w' st'.heap∧PE A fr nt β' w' st' a'
 |.panic chain,a',w'=> ∃v u β',o=.em v∧chain=[{v:=u,recovered:=false}]∧BQ A fr.bi fr.π β w h β' w' st'.heap∧PE A fr nt β' w' st' a'∧VR β' w' (MS A β' st'.heap) v u
 |_,_,_=>False
variable{st':St}
theorem Ho.trans{o:Dc}{e:Exit}{a':Act}(g:BQ A fr.bi fr.π β w h β' w' h')(p:Ho A fr nt β' w' h' o st' e a' w''):Ho A fr nt β w h o st' e a' w'':=by
 cases e with
 |normal=>obtain⟨h1,β2,g2,i⟩:=p;exact⟨h1,β2,g.trans g2,i⟩
 |exit id=>obtain⟨h1,β2,g2,i⟩:=p;exact⟨h1,β2,g.trans g2,i⟩
 |ret=>obtain⟨h1,β2,g2,i⟩:=p;exact⟨h1,β2,g.trans g2,i⟩
 |panic chain=>obtain⟨v,u,β2,h1,h2,g2,i,hv⟩:=p;exact⟨v,u,β2,h1,h2,g.trans g2,i,hv⟩
 |_=>exact p.elim
variable{C:CA}{K:AJ}{fr:Fr}
def z5:Option AV→Dc
 |none=>.normal
 |some v=>.em v
variable{b:Nat}
theorem O2{out:Option AV}(i:fr.raw=false→ ∀id,β id≠none→fr.π<:+id)(hlb:nt.lb≤w.heap.size)(e:Exit)(a':Act)(w':World)(p:Uv A fr.bi fr.π nt β w h out st' b e a' w'):
 Ho A fr nt β w h (z5 out) {st' with base:=b} e a' w':=by
 have ins: ∀{β':Aj},wX A fr.bi fr.π nt β w h st' b β' a' w'→PE A fr nt β' w' {st' with base:=b} a':=fun L=>
  ⟨L.rt.hr,L.s,L.fresh,Ql i L.rt,Hw hlb L.rt.ge.size⟩
 cases e with
 |normal=>
  obtain⟨rfl,β',L⟩:=p;exact⟨rfl,β',L.rt,ins L⟩
 |panic chain=>
  obtain⟨v,u,β',rfl,h2,L,hv⟩:=p;exact⟨v,u,β',rfl,h2,L.rt,ins L,hv⟩
 |_=>exact p.elim
variable{ops:Array Oper}{st:St}
theorem jv(hC:KN P mix C)(hT:Ct P (E2 P C) K)(hro:fr.v6=false→ro=none)(hmix:P.follows .mixedOrders=true){id:Nat}{draw:Bool}{o:Dc}
 (hok:DF C fr.f fr.nt (.region id ops draw)=true) (hr:DY C K fr id ops draw st=.ok (o,st')) (hL:LW (E2 P C) st.heap):
 LW (E2 P C) st'.heap∧ ∀(A:Nat→Prop) (nt:NT) (β:Aj) (w:World) (a:Act),nt.n=fr.nt→PE A fr nt β w st a→Bf P fr.f ro (.region id ops draw) (Ho A fr nt β w st.heap o st') a w:=by
 simp only[DF,AS,CO,I8,I1]at hok;obtain⟨hd,hreg⟩:=hok;have hds: ∀{nt:NT},nt.n=fr.nt→ ∀o∈ops,∀d,o.dst=some d→d<nt.n:=by
  intro nt hnt o ho d hod;have:=hd o (by simpa using ho);rw[hod]at this;rw[hnt];simpa[Nat.blt_eq]using this
 unfold DY at hr;cases hrun:Cl C K fr ops st.base (fun i=> !draw||C.alone fr.f id i) ops.toList 0 st with
 |err e=>rw[hrun]at hr;cases hr
 |ok r=>
  rw[hrun]at hr;obtain⟨⟨out,st1⟩,fps⟩:=r;simp only[JY]at hr;split at hr
  .rename_i hp;have hfin:o=z5 out∧st'={st1 with base:=st.base+ops.size}:=by
    simp only[HN]at hr;cases out with
    |none=>simp only[E.ok.injEq,FN]at hr;exact⟨hr.1.symm,hr.2.symm⟩
    |some v=>simp only[E.ok.injEq,FN]at hr;exact⟨hr.1.symm,hr.2.symm⟩
   obtain⟨rfl,rfl⟩:=hfin;cases draw with
   |false=>
    have key:=fun(nt:NT) (hnt:nt.n=fr.nt)=>aE (nt:=nt) (ro:=ro) hC hT hro (hds hnt) ops.toList 0 st st1 fps out (I4 _) rfl hL hrun;refine⟨(key ⟨fr.nt,0⟩ rfl).2.1,fun A nt β w a hnt i=>?_⟩;have h1:=(key nt hnt).2.2 A β w a i.hr i.s i.fresh;refine .of_wp (wpIn_region ?_);rw[List.range_eq_range'];refine KC (O2 i.own i.lb) ?_;simpa using h1
   |true=>
    simp only[Nl,Ip]at hp hrun;have hreg':=bj (hreg.resolve_left (by simp));have key:=fun(nt:NT) (hnt:nt.n=fr.nt)=>rP (nt:=nt) (ro:=ro) (id:=id) hC hT hro hmix hreg' (hds hnt) hL hrun hp;refine⟨(key ⟨fr.nt,0⟩ rfl).2.1,fun A nt β w a hnt i=>?_⟩;have h1:=(key nt hnt).2.2 A β w a i.hr i.s i.fresh;exact .of_wp (wpIn_mono h1 (O2 i.own i.lb))
  .cases hr
variable{k:Nat}{l:Loop}
theorem Kh(h:w.heap[k]? =some (.loop l)):(Instr.getLoop k).run P w=.ok l w:=by
 simp[Instr.getLoop,H3 h (by simp)]
theorem Vd(h:w.heap[k]? =some (.loop l))(hs:l.state≠ .busy):
 (Instr.endLoop k).run P w=.ok l.pending (World.f9 w k (.loop {l with state:=.exhausted})):=by
 simp[Instr.endLoop,Kh h,hs,GQ (P:=P) h (by simp)]
theorem Lr{fn:FuncId}:
 (Instr.enterLoop fn tmps ps jp body none).run P w=.ok (w.heap.size+1,[{target:=.collected w.heap.size,args:= #[]}])
  (World.add (World.add w (.deferred (some []))) (.loop {state:=.ready,pending:=none,fn,tmps,params:=ps,assign:=jp,body,defers:=w.heap.size})):=by
 simp[Instr.enterLoop];rfl
variable{o:Obj}
theorem fQ{id:Id}{k:PJ}{x:Go.Obj}(H:HR A β w h)(ho:h.get id=some o)(hm:o.mut=true)(hk:β id=some k)(hid:π<:+id)(hs: ∀id' o',h'.get id'=some o'→h.get id'=some o'∧id'≠id)
 (hout: ∀id',¬π<:+id'→h'.get id'=h.get id'):BQ A bi π β w h β (World.f9 w k.b x) h':=by
 have hsub: ∀b,MS A β h' b→MS A β h b:=by
  rintro b (hb|⟨id',o',k',h1,h2,h3,h4⟩)
  .exact .inl hb
  .exact .inr ⟨id',o',k',(hs id' o' h1).1,h2,h3,h4⟩
 have hpr:DU A (MS A β h) w (MS A β h') (World.f9 w k.b x):=
  ⟨fun b _ hb=>EC x fun e=>hb.elim (fun hb=>hb (.inr ⟨id,o,k,ho,hm,hk,e.symm⟩)) (fun hb=>H.out id o k ho hm hk (e▸hb)),by rw[EH];omega,fun b hb=>.inl (hsub b hb),rfl,rfl⟩
 refine⟨fun _ _=>rfl,⟨fun id' o' ho'=>?_,fun a b oa ob ka kb ha hb=>H.inj a b oa ob ka kb (hs _ _ ha).1 (hs _ _ hb).1,fun id' k' hk'=>by rw[EH];exact H.ut id' k' hk',
  fun id' o' k' ho'=>H.out id' o' k' (hs _ _ ho').1,fun b hb=>by rw[EH];exact H.wn b hb⟩,hpr,fun σ hσ _=>⟨fun b _ hu=>EC x fun e=>hu ⟨id,k,hσ.trans hid,hk,e.symm⟩,fun _ hb=>.inl hb,fun id' hi=>hout id' fun hp=>hi (hσ.trans hp)⟩⟩
 obtain⟨g1,g2⟩:=hs id' o' ho';obtain⟨k',hk',hr⟩:=H.obj id' o' g1;by_cases e:k'.b=k.b
 .cases hm':o'.mut with
  |true=>exact absurd (H.inj id' id o' o k' k g1 ho hm' hm hk' hk e) g2
  |false=>
   cases o' with
   |it sz es=>exact⟨k',hk',.inl (H.it ho hm hk g1 hk' e)⟩
   |_=>simp[Obj.mut]at hm'
 .exact⟨k',hk',hr.mono (.refl β) hpr (H.ut id' k' hk') (EC x e)⟩
variable{A:Nat→Prop}{P:Program}{mix:List TypeId}{β β' β'':Aj}{w w' w'':World}{h h' h'':AB}{π ρ:List Nat}{bi:Option (List Nat)}{nt:NT}{a:Act}{ro:Option Nat}
variable{C:CA}{K:AJ}{fr:Fr}
theorem WV{b:Nat}{π:List Nat}{h:AB}:
 (∀id o,(gc (b::π) (gc ((b+1)::π) h)).get id=some o→h.get id=some o∧id≠0::b::π)∧ ∀id,¬π<:+id→(gc (b::π) (gc ((b+1)::π) h)).get id=h.get id:=by
 refine⟨fun id o ho=>⟨LU (LU ho),fun e=>?_⟩,fun id hi=>?_⟩
 .subst e;have e:gc (b::π) (gc ((b+1)::π) h)=(gc ((b+1)::π) h).filter fun p=>Jz (b::π) p.1:=rfl;rw[e,QH (Jz (b::π))]at ho;have:Jz (b::π) (0::b::π)=false:=by
   simp only[Jz,Bool.not_eq_false'];exact(Id.under_iff _ _).2 (List.suffix_refl _)
  rw[this]at ho;simp at ho
 .rcases Th (ρ:=b::π) (gc ((b+1)::π) h) id with e|⟨_,e⟩
  .rw[e];rcases Th (ρ:=(b+1)::π) h id with e|⟨_,e⟩
   .exact e
   .exact absurd ((EM _ _).trans e) hi
  .exact absurd ((EM _ _).trans e) hi
theorem SR(H:HR A β w h)(hs: ∀id o,h'.get id=some o→h.get id=some o)(hout: ∀id,¬π<:+id→h'.get id=h.get id):BQ A bi π β w h β w h':=by
 refine⟨fun _ _=>rfl,H.less hs,⟨fun _ _ _=>rfl,El _,fun b hb=>?_,rfl,rfl⟩,fun σ hσ _=>⟨fun _ _ _=>rfl,fun _ hb=>.inl hb,fun id hi=>hout id fun hp=>hi (hσ.trans hp)⟩⟩;rcases hb with hb|⟨id,o,k,h1,h2,h3,h4⟩
 .exact .inl (.inl hb)
 .exact .inl (.inr ⟨id,o,k,hs id o h1,h2,h3,h4⟩)
variable{W:Lp→Prop}
theorem LW.put{id:Id}(hL:LW W h)(ho: ∀r,o=.loop r→W r):LW W (h.put id o):=fun id' r hr=>by
 rw[AB.get_put]at hr;split at hr
 .exact ho r (Qr hr)
 .exact hL id' r hr
theorem ph(hT:Ct P (E2 P C) K)(hro:fr.v6=false→ro=none){g:Operand}{ps:Array Tmp}{jp body:Code}{st st':St}{o:Dc}(hfn: ∃fn,P.funcs[fr.f]? =some fn)
 (hok:DF C fr.f fr.nt (.rangeFunc g ps jp body)=true) (hr:JN K fr g ps jp body st=.ok (o,st')) (hL:LW (E2 P C) st.heap):
 LW (E2 P C) st'.heap∧ ∀(A:Nat→Prop) (nt:NT) (β:Aj) (w:World) (a:Act),nt.n=fr.nt→PE A fr nt β w st a→Bf P fr.f ro (.rangeFunc g ps jp body) (Ho A fr nt β w st.heap o st') a w:=by
 simp only[DF,AS,CO]at hok;obtain⟨⟨hps,hasg⟩,hbody⟩:=hok;unfold JN at hr;split at hr
 .cases hr
 .rename_i hrnd;have hro':=hro hrnd;subst hro';simp only[HN,Ak]at hr;generalize hlp:({state:=.ready,pm:=none,f:=fr.f,env:=st.env,params:=ps.toList,jp:=jp,body:=body,nt:=fr.nt}:Lp)=lp at hr;have hwf:E2 P C lp:=by
   subst hlp;exact⟨hfn,hasg,hbody,fun t ht=>by simpa[Nat.blt_eq]using hps t ht⟩
  have hL1:LW (E2 P C) (st.heap.put (0::st.base::fr.π) (.loop lp)):=hL.put fun r hr=>by cases hr;exact hwf
  unfold LH at hr;split at hr
  case h_2=>simp[Ng]at hr
  rename_i f first cap hg
  simp only[BA]at hr;cases hK:K (.fn f) (first++[.un (0::st.base::fr.π)]++cap) (st.heap.put (0::st.base::fr.π) (.loop lp)) ((st.base+1)::fr.π) true fr.bi with
  |err e=>rw[hK]at hr;cases hr
  |ok r=>
   rw[hK]at hr;have T:=hT _ _ _ _ _ _ _ hK;have hL2:LW (E2 P C) (gc (st.base::fr.π) (gc ((st.base+1)::fr.π) r.2)):=(T.lw (fun _ _ h=>by cases h) hL1).gc.gc;have hE:=T.ent f rfl;have start: ∀(A:Nat→Prop) (nt:NT) (β:Aj) (w:World) (a:Act),nt.n=fr.nt→PE A fr nt β w st a→
      let l:Loop:={state:=.ready,pending:=none,fn:=fr.f,tmps:=a.tmps,params:=ps,assign:=jp,body:=body,defers:=w.heap.size}
      let w1:=World.add (World.add w (.deferred (some []))) (.loop l)
      let a1:Act:={a with defers:=[{target:=.collected w.heap.size,args:= #[]}]++a.defers}
      ∃β1:Aj,β1 (0::st.base::fr.π)=some ⟨w.heap.size+1,0,0⟩∧BQ A fr.bi fr.π β w st.heap β1 w1 (st.heap.put (0::st.base::fr.π) (.loop lp))∧
       KG A β1 w1 nt st.env.get (.mark (0::st.base::fr.π)::st.defs) (st.heap.put (0::st.base::fr.π) (.loop lp)) a1∧ER β1 ((st.base+1)::fr.π)∧Bn β1 fr.π (st.base+1)∧
       ∀{first' cap':Array Value},FK β w (MS A β st.heap) first first'→FK β w (MS A β st.heap) cap cap'→
        FK β1 w1 (MS A β1 (st.heap.put (0::st.base::fr.π) (.loop lp))) (first++[.un (0::st.base::fr.π)]++cap) (first'++ #[.func (.yield (w.heap.size+1)) #[] #[]]++cap'):=by
    intro A nt β w a hnt i l w1 a1;have hnone:β (0::st.base::fr.π)=none:=i.fresh st.base (El _) _ (EM _ _);have Hd:=i.hr.add' (.deferred (some []));have hsz:(World.add w (.deferred (some []))).heap.size=w.heap.size+1:=Hp _ _;have hpd:DU A (MS A β st.heap) w (MS A β st.heap) (World.add w (.deferred (some []))):=OH _ _;have hpa:DU A (MS A β st.heap) (World.add w (.deferred (some []))) (MS A (β.put (0::st.base::fr.π) ⟨w.heap.size+1,0,0⟩) (st.heap.put (0::st.base::fr.π) (.loop lp))) w1:=
     Qs Hd _ (k:=⟨w.heap.size+1,0,0⟩) hsz.symm
    have hp:=hpd.trans hpa;have hle:Le β (β.put (0::st.base::fr.π) ⟨w.heap.size+1,0,0⟩):=MH hnone;have H1:HR A (β.put (0::st.base::fr.π) ⟨w.heap.size+1,0,0⟩) w1 (st.heap.put (0::st.base::fr.π) (.loop lp)):=by
     refine Hd.add hnone (k:=⟨w.heap.size+1,0,0⟩) hsz.symm ?_;subst hlp;refine⟨l,by rw[←hsz];exact Jk _ _,rfl,rfl,rfl,rfl,rfl,rfl,by rw[←hnt];exact i.s.sz,i.s.env.mono hle hp⟩
    have hout: ∀id,¬fr.π<:+id→(β.put (0::st.base::fr.π) ⟨w.heap.size+1,0,0⟩) id=β id:=fun id hi=>
     BX β _ fun e=>hi (by rw[e];exact(EM _ _).trans (EM _ _))
    have hfr: ∀n,st.base+1≤n→ER (β.put (0::st.base::fr.π) ⟨w.heap.size+1,0,0⟩) (n::fr.π):=fun n hn id hi=>by
     rw[BX β _ fun e=>?_]
     .exact i.fresh n (by omega) id hi
     .subst e;have:=Im hi (EM 0 (st.base::fr.π));omega
    have hold: ∀b,b<w.heap.size→w1.heap[b]? =w.heap[b]? :=fun b hb=>by
     rw[HH _ _ (by rw[Hp];omega),HH _ _ hb]
    refine⟨_,E7 _ _ _,⟨hout,H1,hp,fun σ hσ _=>⟨fun b hb _=>hold b hb,?_,fun id hi=>?_⟩⟩,⟨i.s.sz,i.s.env.mono hle hp,?_,i.s.defs.mono hle hp,fun e' he' r hr hr'=>?_⟩,hfr _ (El _),hfr,?_⟩
    .rintro b ⟨id,k,u1,u2,rfl⟩;by_cases e:id=0::st.base::fr.π
     .subst e;rw[E7]at u2;cases u2;exact .inr (by simp)
     .rw[BX β _ e]at u2;exact .inl ⟨id,k,u1,u2,rfl⟩
    .rw[AB.get_put,D3 fun e=>hi (by rw[←e];exact hσ.trans ((EM _ _).trans (EM _ _)))]
    .refine .mark _ _ ?_ ?_ i.lb
     .rw[HH _ _ (by rw[Hp];omega)];exact Jk w _
     .rintro(hA|⟨id,o,k,u1,u2,u3,u4⟩)
      .have:=i.hr.wn _ hA;omega
      .by_cases e:id=0::st.base::fr.π
       .subst e;rw[E7]at u3;cases u3;simp at u4
       .rw[BX β _ e]at u3;have:=i.hr.ut id k u3;omega
    .simp only[Target.collected.injEq]at hr;subst hr;have:=i.s.defs.marks e' he' _ hr';omega
    .intro first' cap' h1 h2;refine FK.append (FK.append (h1.mono hle hp) ⟨rfl,fun j x v hx hv=>?_⟩) (h2.mono hle hp);cases j with
     |zero=>simp at hx hv;subst hx hv;exact .un _ _ (E7 _ _ _)
     |succ j=>simp at hx
   have fargs: ∀{A:Nat→Prop} {nt:NT} {β:Aj} {w:World} {a:Act},PE A fr nt β w st a→ ∃first' cap',a.eval g=.func (.func f) first' cap'∧FK β w (MS A β st.heap) first first'∧FK β w (MS A β st.heap) cap cap':=by
    intro A nt β w a i;have hgv:=HF i.s.env g;rw[hg]at hgv;generalize a.eval g=ag at hgv;cases hgv with
    |fn _ _ _ first' cap' l1 l2 l3 l4=>exact⟨first',cap',rfl,⟨l1,l3⟩,⟨l2,l4⟩⟩
   obtain⟨c,h2⟩:=r;simp only at hL2;have finish: ∀{st':St},st'.heap=gc (st.base::fr.π) (gc ((st.base+1)::fr.π) h2)→st'.env=st.env→st'.base=st.base+2→st'.defs=.mark (0::st.base::fr.π)::st.defs→
    ∀(A:Nat→Prop) (nt:NT) (β:Aj) (w:World) (a:Act),PE A fr nt β w st a→ ∀{β1 β3:Aj} {w1 w3 w4:World} {a1:Act},
     BQ A fr.bi fr.π β w st.heap β1 w1 (st.heap.put (0::st.base::fr.π) (.loop lp))→KG A β1 w1 nt st.env.get (.mark (0::st.base::fr.π)::st.defs) (st.heap.put (0::st.base::fr.π) (.loop lp)) a1→
     ER β1 ((st.base+1)::fr.π)→Bn β1 fr.π (st.base+1)→BQ A fr.bi ((st.base+1)::fr.π) β1 w1 (st.heap.put (0::st.base::fr.π) (.loop lp)) β3 w3 h2→
     BQ A fr.bi fr.π β3 w3 h2 β3 w4 st'.heap→BQ A fr.bi fr.π β w st.heap β3 w4 st'.heap∧PE A fr nt β3 w4 st' a1:=by
    intro st' e1 e2 e3 e4 A nt β w a i β1 β3 w1 w3 w4 a1 g1 s1 hf1 hff g2 g3;have g:=(g1.trans (g2.up (EM _ _))).trans g3;have s4:=(s1.mono (g2.le hf1) g2.ge).mono (.refl β3) g3.ge;refine⟨g,g.hr,by rw[e2,e4];exact s4,?_,Ql i.own g,Hw i.lb g.ge.size⟩;rw[e3];exact fun n hn=>(hff n (by omega)).other (by omega) g2.out
   have hr1: ∀{w1:World} {a:Act} {first' cap':Array Value} {k:Nat},a.eval g=.func (.func f) first' cap'→(resolve a.eval (rangeCall g k) 0).run P w1=.ok {target:=.fn (.func f) cap',args:=first'++ #[.func (.yield k) #[] #[]]} w1:=by
    intro w1 a first' cap' k he;have e:(#[Operand.const (.func (.yield k) #[] #[])].map a.eval)= #[Value.func (.yield k) #[] #[]]:=by simp[Act.eval]
    unfold resolve;simp only[rangeCall];rw[e,he];simp[Deferred.ofValue]
   cases c with
   |ret v=>
    simp only[Ng,Ak]at hr;unfold cp at hr;split at hr
    .rename_i r3 hget;have hnb:r3.state≠ .busy:=by
      intro e;rw[e]at hr;simp at hr
     have hpend: ∃jump,r3.pm=jump∧((jump=none∧o=.normal)∨(jump=some .ret∧o=.ret)∨ ∃k,jump=some (.exit k)∧o=.exit k)∧
      st'={st with heap:=gc (st.base::fr.π) (gc ((st.base+1)::fr.π) h2),base:=st.base+2,defs:=.mark (0::st.base::fr.π)::st.defs}:=by
      split at hr
      .cases hr
      .split at hr
       .rename_i hp;simp only[E.ok.injEq,FN]at hr;exact⟨none,hp,.inl ⟨rfl,hr.1.symm⟩,hr.2.symm⟩
       .rename_i hp;simp only[E.ok.injEq,FN]at hr;exact⟨some .ret,hp,.inr (.inl ⟨rfl,hr.1.symm⟩),hr.2.symm⟩
       .rename_i k hp;simp only[E.ok.injEq,FN]at hr;exact⟨some (.exit k),hp,.inr (.inr ⟨k,rfl,hr.1.symm⟩),hr.2.symm⟩
       .cases hr
     obtain⟨jump,hj1,hj2,rfl⟩:=hpend;refine⟨hL2,fun A nt β w a hnt i=>?_⟩;obtain⟨β1,q1,g1,s1,hf1,hff,hvs⟩:=start A nt β w a hnt i;obtain⟨first',cap',he,v1,v2⟩:=fargs i;refine .range Lr (hr1 he) (JL hE _) ?_;refine(T.rw rfl (fun _ _ h=>by cases h) hL1 A β1 _ _ g1.hr hf1 (hvs v1 v2)).mono ?_;rintro e w3 ⟨β3,g2,hend⟩;have hk3:β3 (0::st.base::fr.π)=some ⟨w.heap.size+1,0,0⟩:=by
      rw[g2.out _ fun hs=>?_]
      .exact q1
      .have:=Im hs (EM 0 (st.base::fr.π));omega
     cases e with
     |returned u=>
      obtain⟨k3,hk3',l3,t1,t2,t3,_⟩:=g2.hr.obj _ _ hget;rw[hk3]at hk3';cases hk3';obtain⟨c1,c2⟩:=WV (b:=st.base) (π:=fr.π) (h:=h2);have g3:BQ A fr.bi fr.π β3 w3 h2 β3 (World.f9 w3 (w.heap.size+1) (.loop {l3 with state:=.exhausted})) (gc (st.base::fr.π) (gc ((st.base+1)::fr.π) h2)):=
       fQ g2.hr hget rfl hk3 ((EM _ _).trans (EM _ _)) c1 c2
      obtain⟨g,i4⟩:=finish (st':={st with heap:=gc (st.base::fr.π) (gc ((st.base+1)::fr.π) h2),base:=st.base+2,defs:=.mark (0::st.base::fr.π)::st.defs}) rfl rfl rfl rfl A nt β w a i g1 s1 hf1 hff g2 g3
      refine⟨_,_,Vd t1 (by rw[t2];exact hnb),?_⟩;generalize World.f9 w3 (w.heap.size+1) (Go.Obj.loop {l3 with state:=.exhausted})=w4 at g i4⊢
      rw[t3,hj1];rcases hj2 with⟨rfl,rfl⟩|⟨rfl,rfl⟩|⟨k,rfl,rfl⟩
      .exact⟨rfl,β3,g,i4⟩
      .exact .ret ⟨rfl,β3,g,i4⟩
      .exact .exit ⟨rfl,β3,g,i4⟩
     |panicked chain=>exact hend.elim
     |outgrown=>exact hend.elim
    .cases hr
   |em v=>
    simp only[Ng,Ak,E.ok.injEq,FN]at hr;obtain⟨rfl,rfl⟩:=hr;refine⟨hL2,fun A nt β w a hnt i=>?_⟩;obtain⟨β1,q1,g1,s1,hf1,hff,hvs⟩:=start A nt β w a hnt i;obtain⟨first',cap',he,v1,v2⟩:=fargs i;refine .range Lr (hr1 he) (JL hE _) ?_;refine(T.rw rfl (fun _ _ h=>by cases h) hL1 A β1 _ _ g1.hr hf1 (hvs v1 v2)).mono ?_;rintro e w3 ⟨β3,g2,hend⟩;cases e with
    |returned u=>exact hend.elim
    |panicked chain=>
     obtain⟨u,rfl,hv⟩:=hend;obtain⟨c1,c2⟩:=WV (b:=st.base) (π:=fr.π) (h:=h2);have g3:BQ A fr.bi fr.π β3 w3 h2 β3 w3 (gc (st.base::fr.π) (gc ((st.base+1)::fr.π) h2)):=SR g2.hr (fun id o ho=>(c1 id o ho).1) c2;obtain⟨g,i4⟩:=finish (st':={st with heap:=gc (st.base::fr.π) (gc ((st.base+1)::fr.π) h2),base:=st.base+2,defs:=.mark (0::st.base::fr.π)::st.defs}) rfl rfl rfl rfl A nt β w a i g1 s1 hf1 hff g2 g3
     exact⟨v,u,β3,rfl,rfl,g,i4,hv.mono (.refl β3) g3.ge⟩
    |outgrown=>exact hend.elim
variable{A:Nat→Prop}{P:Program}{mix:List TypeId}{β β' β'':Aj}{w w' w'':World}{h h' h'':AB}{π ρ:List Nat}{bi:Option (List Nat)}{nt:NT}{a:Act}{ro:Option Nat}
variable{C:CA}{K:AJ}{fr:Fr}
variable{f:FuncId}
theorem FB.mono{x:Code}{Q Q':Exit→Act→World→Prop}(hq: ∀e a w,Q e a w→Q' e a w): ∀{m:Nat} {a:Act} {w:World},FB P f ro x Q m a w→FB P f ro x Q' m a w
 |0,_,_,h=>h.elim
 |m+1,a,w,h=>Bf.mono h fun e a w p=>by
  cases e with
  |normal=>exact FB.mono hq p
  |_=>exact hq _ _ _ p
theorem ly(hW: ∀r e,W r→W {r with env:=e})(hL:LW W st.heap):LW W (Ea C fr b st).heap:=by
 unfold Ea;simp only;split
 .exact hL
 .intro id r hr;obtain⟨x,o,g1,_,g3⟩:=EJ hr;cases o with
  |loop r'=>
   simp only[H9,Obj.loop.injEq]at g3;rw[g3];exact hW r' _ (hL x r' g1)
  |_=>simp[H9]at g3
theorem M4(hC:KN P mix C)(hT:Ct P (E2 P C) K)(hro:fr.v6=false→ro=none)(hmix:P.follows .mixedOrders=true)(hfn: ∃fn,P.funcs[fr.f]? =some fn):
 ∀(n b:Nat) (c:Code) (st:St) (o:Dc) (st':St),DF C fr.f fr.nt c=true→BC C K fr n b c st=.ok (o,st')→LW (E2 P C) st.heap→
  LW (E2 P C) st'.heap∧ ∀(A:Nat→Prop) (nt:NT) (β:Aj) (w:World) (a:Act),nt.n=fr.nt→PE A fr nt β w st a→
   Bf P fr.f ro c (Ho A fr nt β w st.heap o st') a w∧ ∀x,c=.loop x→FB P fr.f ro x (Ho A fr nt β w st.heap o st') n a w:=by
 intro n;induction n with
 |zero=>intro b c st o st' _ hr;simp[BC]at hr
 |succ n ih=>
  intro b c st o st' hok hr hL;have plain: ∀{c:Code} {o:Dc} {st':St},(∀x,c≠ .loop x)→
   (LW (E2 P C) st'.heap∧ ∀(A:Nat→Prop) (nt:NT) (β:Aj) (w:World) (a:Act),nt.n=fr.nt→PE A fr nt β w st a→Bf P fr.f ro c (Ho A fr nt β w st.heap o st') a w)→
   LW (E2 P C) st'.heap∧ ∀(A:Nat→Prop) (nt:NT) (β:Aj) (w:World) (a:Act),nt.n=fr.nt→PE A fr nt β w st a→
    Bf P fr.f ro c (Ho A fr nt β w st.heap o st') a w∧ ∀x,c=.loop x→FB P fr.f ro x (Ho A fr nt β w st.heap o st') (n+1) a w:=
   fun hne h=>⟨h.1,fun A nt β w a hnt i=>⟨h.2 A nt β w a hnt i,fun x hx=>absurd hx (hne x)⟩⟩
  cases c with
  |skip=>
   simp only[BC,E.ok.injEq,FN]at hr;obtain⟨rfl,rfl⟩:=hr;exact plain (by simp) ⟨hL,fun A nt β w a hnt i=>.skip ⟨rfl,β,BQ.refl i.hr,i⟩⟩
  |label l=>
   simp only[BC,E.ok.injEq,FN]at hr;obtain⟨rfl,rfl⟩:=hr;exact plain (by simp) ⟨hL,fun A nt β w a hnt i=>.label ⟨rfl,β,BQ.refl i.hr,i⟩⟩
  |exit id=>
   simp only[BC,E.ok.injEq,FN]at hr;obtain⟨rfl,rfl⟩:=hr;exact plain (by simp) ⟨hL,fun A nt β w a hnt i=>.exit ⟨rfl,β,BQ.refl i.hr,i⟩⟩
  |ret=>
   simp only[BC,E.ok.injEq,FN]at hr;obtain⟨rfl,rfl⟩:=hr;exact plain (by simp) ⟨hL,fun A nt β w a hnt i=>.ret ⟨rfl,β,BQ.refl i.hr,i⟩⟩
  |seq x y=>
   simp only[DF,AS]at hok;simp only[BC]at hr;cases hx:BC C K fr n b x st with
   |err e=>rw[hx]at hr;cases hr
   |ok r=>
    rw[hx]at hr;obtain⟨o1,st1⟩:=r;obtain⟨hL1,h1⟩:=ih b x st o1 st1 hok.1 hx hL;have stop:o1=o∧st1=st'→o≠ .normal→LW (E2 P C) st'.heap∧ ∀(A:Nat→Prop) (nt:NT) (β:Aj) (w:World) (a:Act),nt.n=fr.nt→PE A fr nt β w st a→
       Bf P fr.f ro (.seq x y) (Ho A fr nt β w st.heap o st') a w:=by
     rintro⟨rfl,rfl⟩ hne;refine⟨hL1,fun A nt β w a hnt i=>.seq (Bf.mono (h1 A nt β w a hnt i).1 fun e a' w' p=>?_)⟩;cases e with
     |normal=>exact absurd p.1 hne
     |_=>exact p
    cases o1 with
    |normal=>
     simp only[C2]at hr;obtain⟨hL2,h2⟩:=ih b y st1 o st' hok.2 hr hL1;refine plain (by simp) ⟨hL2,fun A nt β w a hnt i=>.seq (Bf.mono (h1 A nt β w a hnt i).1 fun e a' w' p=>?_)⟩;cases e with
     |normal=>
      obtain⟨_,β1,g1,i1⟩:=p;exact Bf.mono (h2 A nt β1 w' a' hnt i1).1 fun e a2 w2 p2=>p2.trans g1
     |exit id=>obtain⟨h,_⟩:=p;cases h
     |ret=>obtain⟨h,_⟩:=p;cases h
     |panic chain=>obtain⟨v,u,β1,h,_⟩:=p;cases h
     |_=>exact p.elim
    |exit id=>
     simp only[C2,E.ok.injEq,FN]at hr;exact plain (by simp) (stop hr (by rw[←hr.1];simp))
    |ret=>
     simp only[C2,E.ok.injEq,FN]at hr;exact plain (by simp) (stop hr (by rw[←hr.1];simp))
    |em v=>
     simp only[C2,E.ok.injEq,FN]at hr;exact plain (by simp) (stop hr (by rw[←hr.1];simp))
  |cond c x y=>
   simp only[DF,AS]at hok;simp only[BC]at hr;unfold JM at hr;split at hr
   .rename_i t ht;have key: ∀{z:Code},BC C K fr n b z st=.ok (o,st')→DF C fr.f fr.nt z=true→(if t then x else y)=z→
     LW (E2 P C) st'.heap∧ ∀(A:Nat→Prop) (nt:NT) (β:Aj) (w:World) (a:Act),nt.n=fr.nt→PE A fr nt β w st a→Bf P fr.f ro (.cond c x y) (Ho A fr nt β w st.heap o st') a w:=by
     intro z hz hokz hzz;obtain⟨hL1,h1⟩:=ih b z st o st' hokz hz hL;refine⟨hL1,fun A nt β w a hnt i=>?_⟩;have hcv:=HF i.s.env c;rw[ht]at hcv;refine .cond (Gj hcv) ?_;rw[hzz];exact(h1 A nt β w a hnt i).1
    split at hr
    .exact plain (by simp) (key hr hok.1 rfl)
    .exact plain (by simp) (key hr hok.2 rfl)
   .cases hr
  |block id x=>
   simp only[DF]at hok;simp only[BC]at hr;cases hx:BC C K fr n id x st with
   |err e=>rw[hx]at hr;cases hr
   |ok r=>
    rw[hx]at hr;obtain⟨o1,st1⟩:=r;obtain⟨hL1,h1⟩:=ih id x st o1 st1 hok hx hL;have hst:st1=st'∧((o1=.exit id∧o=.normal)∨(o1≠ .exit id∧o=o1)):=by
     cases o1 with
     |exit k=>
      simp only[Fq]at hr;split at hr
      .rename_i e;have:=Co e;subst this;simp only[E.ok.injEq,FN]at hr;exact⟨hr.2,.inl ⟨rfl,hr.1.symm⟩⟩
      .rename_i e;simp only[E.ok.injEq,FN]at hr;refine⟨hr.2,.inr ⟨fun h=>?_,hr.1.symm⟩⟩;cases h;simp at e
     |normal=>simp only[Fq,E.ok.injEq,FN]at hr;exact⟨hr.2,.inr ⟨by simp,hr.1.symm⟩⟩
     |ret=>simp only[Fq,E.ok.injEq,FN]at hr;exact⟨hr.2,.inr ⟨by simp,hr.1.symm⟩⟩
     |em v=>simp only[Fq,E.ok.injEq,FN]at hr;exact⟨hr.2,.inr ⟨by simp,hr.1.symm⟩⟩
    obtain⟨rfl,ho⟩:=hst;refine plain (by simp) ⟨hL1,fun A nt β w a hnt i=>.block (Bf.mono (h1 A nt β w a hnt i).1 fun e a' w' p=>?_)⟩;rcases ho with⟨rfl,rfl⟩|⟨hne,rfl⟩
    .cases e with
     |exit k=>
      obtain⟨hk,p⟩:=p;cases hk;simp only[Exit.inBlock,F3];exact⟨rfl,p⟩
     |normal=>obtain⟨h,_⟩:=p;cases h
     |ret=>obtain⟨h,_⟩:=p;cases h
     |panic chain=>obtain⟨v,u,β1,h,_⟩:=p;cases h
     |_=>exact p.elim
    .cases e with
     |exit k=>
      have:k≠id:=fun e=>hne (by rw[p.1,e]);simp only[Exit.inBlock,this,D8];exact p
     |_=>exact p
  |loop x=>
   simp only[DF]at hok;simp only[BC,Jv]at hr;have hLc:LW (E2 P C) (Ea C fr b st).heap:=ly (fun r e h=>h) hL;cases hx:BC C K fr n b x (Ea C fr b st)with
   |err e=>rw[hx]at hr;cases hr
   |ok r=>
    rw[hx]at hr;obtain⟨o1,st1⟩:=r;obtain⟨hL1,h1⟩:=ih b x _ o1 st1 hok hx hLc;have rounds:LW (E2 P C) st'.heap∧ ∀(A:Nat→Prop) (nt:NT) (β:Aj) (w:World) (a:Act),nt.n=fr.nt→PE A fr nt β w st a→FB P fr.f ro x (Ho A fr nt β w st.heap o st') (n+1) a w:=by
     have start: ∀{A:Nat→Prop} {nt:NT} {β:Aj} {w:World} {a:Act},PE A fr nt β w st a→ ∃β2,BQ A fr.bi fr.π β w st.heap β2 w (Ea C fr b st).heap∧PE A fr nt β2 w (Ea C fr b st) a:=by
      intro A nt β w a i;obtain⟨β2,g,s,hf⟩:=lz (C:=C) (fr:=fr) (b:=b) i.hr i.s i.fresh i.own;exact⟨β2,g,g.hr,s,hf,Ql i.own g,i.lb⟩
     have stop:o1=o∧st1=st'→o≠ .normal→LW (E2 P C) st'.heap∧ ∀(A:Nat→Prop) (nt:NT) (β:Aj) (w:World) (a:Act),nt.n=fr.nt→PE A fr nt β w st a→
      FB P fr.f ro x (Ho A fr nt β w st.heap o st') (n+1) a w:=by
      rintro⟨rfl,rfl⟩ hne;refine⟨hL1,fun A nt β w a hnt i=>?_⟩;obtain⟨β2,g2,i2⟩:=start i;refine Bf.mono (h1 A nt β2 w a hnt i2).1 fun e a' w' p=>?_;cases e with
      |normal=>exact absurd p.1 hne
      |exit id=>exact p.trans g2
      |ret=>exact p.trans g2
      |panic chain=>exact p.trans g2
      |goto l=>exact p.elim
      |outgrown=>exact p.elim
     cases o1 with
     |normal=>
      simp only[C2]at hr;obtain⟨hL2,h2⟩:=ih b (.loop x) st1 o st' hok hr hL1;refine⟨hL2,fun A nt β w a hnt i=>?_⟩;obtain⟨β2,g2,i2⟩:=start i;refine Bf.mono (h1 A nt β2 w a hnt i2).1 fun e a' w' p=>?_;cases e with
      |normal=>
       obtain⟨_,β3,g3,i3⟩:=p;exact FB.mono (fun e a w p=>p.trans (g2.trans g3)) ((h2 A nt β3 w' a' hnt i3).2 x rfl)
      |exit id=>obtain⟨h,_⟩:=p;cases h
      |ret=>obtain⟨h,_⟩:=p;cases h
      |panic chain=>obtain⟨v,u,β1,h,_⟩:=p;cases h
      |_=>exact p.elim
     |exit id=>
      simp only[C2,E.ok.injEq,FN]at hr;exact stop hr (by rw[←hr.1];simp)
     |ret=>
      simp only[C2,E.ok.injEq,FN]at hr;exact stop hr (by rw[←hr.1];simp)
     |em v=>
      simp only[C2,E.ok.injEq,FN]at hr;exact stop hr (by rw[←hr.1];simp)
    exact⟨rounds.1,fun A nt β w a hnt i=>⟨.loop (n+1) (rounds.2 A nt β w a hnt i),fun y hy=>by cases hy;exact rounds.2 A nt β w a hnt i⟩⟩
  |region id ops draw=>
   simp only[BC]at hr;exact plain (by simp) (jv hC hT hro hmix hok hr hL)
  |rangeFunc g ps jp body=>
   simp only[BC]at hr;exact plain (by simp) (ph hT hro hfn hok hr hL)
  |goto l=>simp[BC]at hr
  |scope x=>simp[BC]at hr
  |refuse=>simp[BC]at hr
variable{A:Nat→Prop}{P:Program}{mix:List TypeId}{β β' β'':Aj}{w w' w'':World}{h h' h'':AB}{π ρ:List Nat}{bi:Option (List Nat)}{nt:NT}{a:Act}{ro:Option Nat}
variable{C:CA}{K:AJ}{fr:Fr}
def Jb(tmps:Array Value):ResultVar→Sem Value
 |.tmp t=>pure (tmps.getD t undef)
 |.cell a t=>do loadVar t (←asAddr (tmps.getD a undef))
theorem bm(fn:Func)(tmps:Array Value):results fn tmps=(do let vs←fn.results.mapM (Jb tmps);pure (if h:vs.size=1 then vs[0]else .tuple vs)):=by
 unfold results;congr 1
theorem bk{C:CA}(hC:KN P mix C){st:St}(H:HR A β w st.heap){tmps:Array Value}(he:IK β w (MS A β st.heap) st.env.get fun t=>tmps.getD t Go.undef){x:ResultVar}{v:AV}(hx:CN C st x=some v):
 ∃u,(Jb tmps x).run P w=.ok u w∧VR β w (MS A β st.heap) v u:=by
 cases x with
 |tmp t=>
  simp only[CN,CI]at hx;subst hx;exact⟨_,rfl,he t⟩
 |cell a t=>
  simp only[CN,hC.T]at hx;cases ht:Bc P mix t with
  |none=>rw[ht]at hx;cases hx
  |some i=>
   rw[ht]at hx;obtain⟨ad,u,h1,h2,h3⟩:=Wx H ht (he a) hx;have h1':tmps.getD a Go.undef=.pointer (some ad):=h1;exact⟨u,by simp only[Jb,Sem.run_bind];rw[h1'];simp[asAddr,h2],h3⟩
theorem Ni{C:CA}(hC:KN P mix C){st:St}(H:HR A β w st.heap){tmps:Array Value}(he:IK β w (MS A β st.heap) st.env.get fun t=>tmps.getD t Go.undef): ∀{l:List ResultVar} {vs:List AV},Ln (CN C st) l=some vs→
 ∃us:List Value,(l.mapM (Jb tmps)).run P w=.ok us w∧FK β w (MS A β st.heap) vs us.toArray
 |[],vs,h=>by
  simp[Ln]at h;subst h;exact⟨[],rfl,rfl,fun i x v hx=>by simp at hx⟩
 |x::l,vs,h=>by
  simp only[Ln]at h;split at h
  .rename_i v vs' h1 h2;cases h;obtain⟨u,r1,r2⟩:=bk hC H he h1;obtain⟨us,r3,r4,r5⟩:=Ni hC H he h2;refine⟨u::us,?_,by simpa using r4,fun i x' v' hx hv=>?_⟩
   .rw[List.mapM_cons];simp only[Sem.run_bind,r1,Result.andThen_ok,r3,Sem.run_pure]
   .cases i with
    |zero=>simp at hx hv;subst hx hv;exact r2
    |succ i=>exact r5 i x' v' (by simpa using hx) (by simpa using hv)
  .cases h
theorem bn{C:CA}(hC:KN P mix C)(H:HR A β w st.heap)(he:IK β w (MS A β st.heap) st.env.get fun t=>tmps.getD t Go.undef){r:AV}(hr:Hj C fn st=some r):
 ∃u,(results fn tmps).run P w=.ok u w∧VR β w (MS A β st.heap) r u:=by
 unfold Hj at hr;cases hm:Ln (CN C st) fn.results.toList with
 |none=>rw[hm]at hr;cases hr
 |some vs=>
  rw[hm]at hr;obtain⟨us,r1,r2,r3⟩:=Ni hC H he hm;have hrun:(fn.results.mapM (Jb tmps)).run P w=.ok us.toArray w:=by
   rw[Array.mapM_eq_mapM_toList,Sem.run_map,r1,Result.andThen_ok]
  rw[bm];simp only[Sem.run_bind,hrun,Result.andThen_ok,Sem.run_pure];refine⟨_,rfl,?_⟩;simp only[PM]at r2⊢
  match vs,us,hr,r2,r3 with
  |[],[],hr,_,_=>cases hr;simp;exact .f8 [] #[] rfl fun i x v hx=>by simp at hx
  |[v],[u],hr,_,r3=>cases hr;simp;exact r3 0 _ _ rfl rfl
  |v::v2::vs,u::u2::us,hr,r2,r3=>
   cases hr;rw[dif_neg (by simp)];exact .f8 _ _ (by simpa using r2) r3
variable{M:Nat→Prop}{r:Nat}{y:Go.Obj}
theorem DR.other(hr: ∀c e f,w.heap[r]? ≠some (.cells c e f)){x:AU}{v:Value}(h:DR w M x v):DR (World.f9 w r y) M x v:=by
 induction h with
 |int k n=>exact .int k n
 |bool b=>exact .bool b
 |str s=>exact .str s
 |qr=>exact .qr
 |i7=>exact .i7
 |i9=>exact .i9
 |nl=>exact .nl
 |rg a cap=>exact .rg a cap
 |be es b off cap sz c elem fr hb hm he hl _ hcap ih=>
  exact .be es b off cap sz c elem fr (by rw[EC y fun e=>hr _ _ _ (e▸hb)];exact hb) hm he hl ih hcap
variable{x:AV}
theorem VR.other(hr: ∀c e f,w.heap[r]? ≠some (.cells c e f)){v:Value}(h:VR β w M x v):VR β (World.f9 w r y) M x v:=by
 induction h with
 |d h=>exact .d (h.other hr)
 |ci=>exact .ci
 |emp a=>exact .emp a
 |d8 id off len k a cap hk hn hl ha=>exact .d8 id off len k a cap hk hn hl ha
 |ptr id off k hk=>exact .ptr id off k hk
 |ip id i off k hk=>exact .ip id i off k hk
 |kw cs b off c elem fr hb hm hl hd=>
  exact .kw cs b off c elem fr (by rw[EC y fun e=>hr _ _ _ (e▸hb)];exact hb) hm hl fun i x v h1 h2=>(hd i x v h1 h2).other hr
 |fn f a b a' b' h1 h2 _ _ ih1 ih2=>exact .fn f a b a' b' h1 h2 ih1 ih2
 |un id k hk=>exact .un id k hk
 |mp id k hk=>exact .mp id k hk
 |iface t v u _ ih=>exact .iface t v u ih
 |agg cs c h1 _ ih=>exact .agg cs c h1 ih
 |f8 cs c h1 _ ih=>exact .f8 cs c h1 ih
 |undef v=>exact .undef v
theorem KQ.other{x:Option (List Deferred)}(hr:w.heap[r]? =some (.deferred x)){k:PJ}(h:KQ β w M k o):KQ β (World.f9 w r y) M k o:=by
 have hc: ∀c e f,w.heap[r]? ≠some (.cells c e f):=fun c e f=>by rw[hr];simp
 have old: ∀{z:Go.Obj},w.heap[k.b]? =some z→(∀x,z≠ .deferred x)→(World.f9 w r y).heap[k.b]? =some z:=fun hz hne=>by
  rw[EC y fun e=>?_]
  .exact hz
  .rw[e,hr]at hz;exact hne x (Qr hz).symm
 cases o with
 |box cs=>obtain⟨c,elem,h1,h2,h3⟩:=h;exact⟨c,elem,old h1 (by simp),h2,fun i x v a b=>(h3 i x v a b).other hc⟩
 |d6 sz es=>obtain⟨c,elem,h1,h2,h3,h4,h5,h6,h7⟩:=h;exact⟨c,elem,old h1 (by simp),h2,h3,h4,h5,h6,fun i x v a b=>(h7 i x v a b).other hc⟩
 |it sz es=>
  rcases h with h|⟨hm,c,elem,fr,h1,h2,h3,h4,h5,h6,h7⟩
  .exact .inl h
  .exact .inr ⟨hm,c,elem,fr,old h1 (by simp),h2,h3,h4,h5,h6,fun i x v a b=>(h7 i x v a b).other hc⟩
 |arr sz es=>obtain⟨c,elem,h1,h2,h3,h4,h5,h6,h7⟩:=h;exact⟨c,elem,old h1 (by simp),h2,h3,h4,h5,h6,fun i x v a b=>(h7 i x v a b).other hc⟩
 |map es=>obtain⟨en,cl,h1,h2,h3⟩:=h;exact⟨en,cl,old h1 (by simp),h2,fun i p e a b=>⟨(h3 i p e a b).1.other hc,(h3 i p e a b).2.other hc⟩⟩
 |loop r'=>obtain⟨l,h1,h2,h3,h4,h5,h6,h7,h9,h8⟩:=h;exact⟨l,old h1 (by simp),h2,h3,h4,h5,h6,h7,h9,fun t=>(h8 t).other hc⟩
theorem HR.other{x:Option (List Deferred)}(hr:w.heap[r]? =some (.deferred x))(H:HR A β w h):HR A β (World.f9 w r y) h:=by
 refine⟨fun id o ho=>?_,H.inj,fun id k hk=>by rw[EH];exact H.ut id k hk,H.out,fun b hb=>by rw[EH];exact H.wn b hb⟩;obtain⟨k,hk,h1⟩:=H.obj id o ho;exact⟨k,hk,h1.other hr⟩
theorem BQ.other{β0:Aj}{w0:World}{h0:AB}{x:Option (List Deferred)}(hr:w.heap[r]? =some (.deferred x))(hlb:w0.heap.size≤r)(g:BQ A bi π β0 w0 h0 β w h):BQ A bi π β0 w0 h0 β (World.f9 w r y) h:=by
 have old: ∀b,b<w0.heap.size→(World.f9 w r y).heap[b]? =w.heap[b]? :=fun b hb=>EC y (by omega);refine⟨g.out,g.hr.other hr,⟨fun b hb hm=>by rw[old b hb];exact g.ge.ne b hb hm,by rw[EH];exact g.ge.size,g.ge.sub,g.ge.io⟩,fun σ hσ hg=>?_⟩;obtain⟨k1,k2,k3⟩:=g.kept σ hσ hg;exact⟨fun b hb hu=>by rw[old b hb];exact k1 b hb hu,k2,k3⟩
theorem IQ.other{lb:Nat}{x:Option (List Deferred)}(hr:w.heap[r]? =some (.deferred x)): ∀{l:List Df} {m:List Deferred},(∀e∈m,e.target≠ .collected r)→IQ lb β w M l m→IQ lb β (World.f9 w r y) M l m
 |[],[],_,_=>trivial
 |d::l,e::m,hne,h=>by
  have hc: ∀c e f,w.heap[r]? ≠some (.cells c e f):=fun c e f=>by rw[hr];simp
  refine⟨?_,IQ.other hr (fun e' he=>hne e' (by simp[he])) h.2.1,h.2.2⟩;obtain⟨h1,_,_⟩:=h;cases h1 with
  |mark id r' h2 h3 h4=>
   have:r'≠r:=fun e=>hne {target:=.collected r',args:= #[]} (by simp) (by simp[e]);exact .mark id r' (by rw[EC y this];exact h2) h3 h4
  |call f args vs hv=>exact .call f args vs ⟨hv.1,fun i x v a b=>(hv.2 i x v a b).other hc⟩
 |[],_::_,_,h=>h.elim
 |_::_,[],_,h=>h.elim
structure LD(P:Program)(f:FuncId)(t:TypeId):Prop where
 enters:Jf P f
 quiet: ∀(w:World) (ad:Addr),CallsDIn Fence.wide 0 P f #[.pointer (some ad)] .returning w fun e u' w'=>
  (∃v,e=.returned v)∧settle u'=.returning∧w.heap.size≤w'.heap.size∧(∀b,b<w.heap.size→w'.heap[b]? =w.heap[b]?)∧w'.os=w.os∧w'.output=w.output
 loud: ∀(w:World) (b off:Nat) (k:IntKind) (n:Int) (c:Array Value) (elem:TypeId),w.heap[b]? =some (.cells c elem (0,0))→off<c.size→
  CallsDIn Fence.wide 0 P f #[.pointer (some ⟨b,off,none⟩)] (.panicking [{v:=.iface t (.agg #[.int k n]),recovered:=false}]) w fun e u' w'=>
   (∃v,e=.returned v)∧settle u'=.returning∧w.heap.size≤w'.heap.size∧(∀b',b'<w.heap.size→w'.heap[b']? =(World.f9 w b (.cells (E1 c off [.int k n]) elem (0,0))).heap[b']?)∧w'.os=w.os∧w'.output=w.output
def k7(β:Aj)(w:World)(M:Nat→Prop):Option AV→FrameMode→Prop
 |none,u=>u=.returning
 |some v,u=> ∃vv,u=.panicking [{v:=vv,recovered:=false}]∧VR β w M v vv
theorem qN(hr:w.heap[r]? =some (.deferred (some []))):(Instr.takeDeferred r).run P w=.ok [] (World.f9 w r (.deferred none)):=by
 simp[Instr.takeDeferred,H3 (P:=P) hr (by simp),GQ (P:=P) hr (by simp)]
theorem QX{fn:Func}{tmps:Array Value}{R:Ending→World→Prop}(hcau: ∀f t,C.lc f=some t→LD P f t){env:Nat→AV}{β0:Aj}{w0:World}{h0:AB}{p':Option AV}{h':AB}{lb:Nat}(hlb:w0.heap.size≤lb)(β:Aj)
 (fin: ∀w' u',BQ A bi π β0 w0 h0 β w' h'→IK β w' (MS A β h') env (fun t=>tmps.getD t Go.undef)→k7 β w' (MS A β h') p' u'→LeavesInM Fence.wide 0 P fn tmps R [] u' w'):
 ∀(l:List Df) (m:List Deferred) (p:Option AV) (h:AB) (w:World) (u:FrameMode),Cp C bi l p h=.ok (p',h')→IQ lb β w (MS A β h) l m→BQ A bi π β0 w0 h0 β w h→IK β w (MS A β h) env (fun t=>tmps.getD t Go.undef)→
  k7 β w (MS A β h) p u→LeavesInM Fence.wide 0 P fn tmps R m u w
 |[],[],p,h,w,u,hr,_,g,he,hm=>by
  simp only[Cp,E.ok.injEq,FN]at hr;obtain⟨rfl,rfl⟩:=hr;exact fin w u g he hm
 |.mark id::l,e::m,p,h,w,u,hr,hd,g,he,hm=>by
  simp only[Cp]at hr;obtain⟨h1,h2,h3⟩:=hd;cases h1 with
  |mark _ r q1 q2 q3=>
   have hc: ∀c e f,w.heap[r]? ≠some (.cells c e f):=fun c e f=>by rw[q1];simp
   refine⟨?_,.inl ⟨r,_,rfl,qN q1,QX hcau hlb β fin l m p h _ u hr (h2.other q1 fun e' he'=>h3 e' he' r rfl) (g.other q1 (by omega)) (fun t=>(he t).other hc) ?_⟩⟩
   .cases p with
    |none=>rw[show u=.returning from hm];simp
    |some v=>obtain⟨vv,rfl,_⟩:=hm;simp
   .cases p with
    |none=>exact hm
    |some v=>obtain⟨vv,h1,h2⟩:=hm;exact⟨vv,h1,h2.other hc⟩
 |.call f args::l,e::m,p,h,w,u,hr,hd,g,he,hm=>by
  obtain⟨h1,h2,h3⟩:=hd;cases h1 with
  |call _ _ vs hv=>
   simp only[Cp]at hr;split at hr
   .rename_i t id off ht;have hS:=hcau f t ht;obtain⟨k,rfl,hk⟩: ∃k,vs= #[.pointer (some ⟨k.b,off,none⟩)]∧β id=some k:=by
     obtain⟨h4,h5⟩:=hv;have hlt:0<vs.size:=by rw[←h4];simp
     have hv0:=h5 0 _ vs[0] rfl (Dl hlt);generalize hx:vs[0]=x at hv0;cases hv0 with
     |ptr _ _ k hk=>
      refine⟨k,?_,hk⟩;apply Array.ext
      .rw[←h4];rfl
      .intro i hi1 hi2;have:i=0:=by simp at hi2;exact hi2
       subst this;exact hx
    have hinv:(invoke (.fn (.func f) #[]) #[.pointer (some ⟨k.b,off,none⟩)]).run P w=.ok (.enter f #[.pointer (some ⟨k.b,off,none⟩)]) w:=by
     simp[invoke,JL hS.enters]
    have rest: ∀{h2':AB} {w2:World},Cp C bi l none h2'=.ok (p',h')→BQ A bi π β w h β w2 h2'→LeavesInM Fence.wide 0 P fn tmps R m .returning w2:=by
     intro h2' w2 hr g2;exact QX hcau hlb β fin l m none h2' w2 .returning hr (h2.mono (.refl β) g2.ge) (g.trans g2) (he.mono (.refl β) g2.ge) rfl
    split at hr
    .have hu:u=.returning:=hm;subst hu;refine⟨by simp,.inr ⟨fun hh=>by simp[Fence.wide]at hh,.func f, #[],f,_,rfl,hinv,fun _ _=>trivial,?_⟩⟩;refine(hS.quiet w ⟨k.b,off,none⟩).mono ?_;rintro e u' w' ⟨⟨v,rfl⟩,hu',hz,hall,hio⟩;show LeavesInM Fence.wide 0 P fn tmps R m (settle u') w';rw[hu'];exact rest hr (JT g.hr hall hz hio)
    .rename_i t' kd n;split at hr
     .rename_i hcond;simp only[AS]at hcond;have ht':=Co hcond.1;split at hr
      .rename_i cs hg;split at hr
       .rename_i cs' hsp;obtain⟨vv,rfl,hvv⟩:=hm;have hvv':vv=.iface t (.agg #[.int kd n]):=by
         cases hvv with
         |iface _ _ u2 hu2=>
          cases hu2 with
          |agg _ c hl hc=>
           have hlt:0<c.size:=by rw[←hl];simp
           have:=Ek (hc 0 _ c[0] rfl (Dl hlt));rw[ht'];congr 2;apply Array.ext
           .rw[←hl];rfl
           .intro i hi1 hi2;have:i=0:=by simp at hi2;exact hi2
            subst this;assumption
        subst hvv';obtain⟨k',hk',c,elem,q1,q2⟩:=g.hr.obj id _ hg;rw[hk]at hk';cases hk';have hle:=(DS hsp).1;simp only[IF]at hle;have hsz:off<c.size:=by rw[←q2.1];omega
        refine⟨by simp,.inr ⟨fun hh=>by simp[Fence.wide]at hh,.func f, #[],f,_,rfl,hinv,fun _ _=>trivial,?_⟩⟩;refine(hS.loud w k.b off kd n c elem q1 hsz).mono ?_;rintro e u' w' ⟨⟨v,rfl⟩,hu',hz,hall,hio⟩;show LeavesInM Fence.wide 0 P fn tmps R m (settle u') w';rw[hu'];refine rest hr ?_;have hpr:=Fs g.hr (o':=.box cs') hg rfl hk (.cells (E1 c off [.int kd n]) elem (0,0));have Hu:HR A β (World.f9 w k.b (.cells (E1 c off [.int kd n]) elem (0,0))) (h.put id (.box cs')):=by
         refine g.hr.upd' hg rfl hk ⟨_,elem,Gh _ (AL q1),?_⟩;exact Pn (q2.mono (.refl β) hpr) ⟨rfl,fun j y u2 hy hu2=>by
          cases j with
          |zero=>simp at hy hu2;subst hy hu2;exact .d (.int _ _)
          |succ j=>simp at hy⟩ hsp
        have hw:JE bi [(id,Obj.box cs')]=true:=by
         have:=hcond.2;cases bi with
         |none=>rfl
         |some ρ=>simpa[JE]using this
        have g1:BQ A bi π β w h β (World.f9 w k.b (.cells (E1 c off [.int kd n]) elem (0,0))) (h.put id (.box cs')):=
         IY (δ:=[(id,.box cs')]) (.refl β) (fun _ hi=>.inl hi) Hu hpr ⟨fun b hb hne=>EC _ (Ne.symm (hne (id,.box cs') (by simp) k hk)),fun _ _ h=>.inl h⟩ hw
        exact g1.trans (JT g1.hr (fun b hb=>hall b (by rw[EH]at hb;exact hb)) (by rw[EH];exact hz) hio)
       .cases hr
      .cases hr
     .cases hr
    .cases hr
   .cases hr
 |[],_::_,_,_,_,_,_,h,_,_,_=>h.elim
 |_::_,[],_,_,_,_,_,h,_,_,_=>h.elim
variable{A:Nat→Prop}{P:Program}{mix:List TypeId}{β β' β'':Aj}{w w' w'':World}{h h' h'':AB}{π ρ:List Nat}{bi:Option (List Nat)}{nt:NT}{a:Act}{ro:Option Nat}
variable{C:CA}{K:AJ}{fr:Fr}
variable{g:G}
theorem SO{vs xs:List AV}(h:Fm g vs=some xs):A5 xs=[]:=by
 obtain⟨q1,q2⟩:=MA h;rw[List.eq_nil_iff_forall_not_mem];intro id hid;obtain⟨x,hx,hid⟩:=Kx hid;obtain⟨i,hi⟩:=List.mem_iff_getElem?.1 hx;have hlt:i<vs.length:=by rw[←q1];exact(BE.1 hi).1
 obtain⟨y,rfl,_⟩:=q2 i _ x (BY hlt) hi;simp[AD]at hid
variable{v:AV}
theorem iZ{x:Option AU}(h:x.map AV.d=some v):AD v=[]:=by
 simp only[BI]at h;obtain⟨y,_,rfl⟩:=h;rfl
theorem Vy(h:Di g v=some x):AD x=[]:=by
 unfold Di at h;split at h
 .simp only[BI]at h;obtain⟨xs,h1,rfl⟩:=h;exact SO h1
 .cases h;rfl
 .simp only[BI]at h;obtain⟨xs,h1,rfl⟩:=h;exact SO h1
 .simp only[BI]at h;obtain⟨y,_,rfl⟩:=h;rfl
 .exact iZ h
theorem WJ{g:G}: ∀{vs xs:List AV},DM g vs=some xs→A5 xs=[]
 |[],xs,h=>by simp[DM]at h;subst h;rfl
 |v::vs,xs,h=>by
  simp only[DM]at h;split at h
  .rename_i x xs' h1 h2;cases h;simp[A5,Vy h1,WJ h2]
  .cases h
theorem sJ(h:Uk g v=some x):AD x=[]:=by
 unfold Uk at h;split at h
 .simp only[BI]at h;obtain⟨xs,h1,rfl⟩:=h;exact WJ h1
 .exact Vy h
theorem sK(H:HR A β w h){u:Value}(hv:VR β w (MS A β h) v u)(hx:Uk h.get v=some x):VR β w (MS A β []) x u:=by
 unfold Uk at hx;split at hx
 .simp only[BI]at hx;obtain⟨xs,h1,rfl⟩:=hx;obtain⟨q1,q2⟩:=N4 h1;cases hv with
  |f8 _ c hl hc=>
   refine .f8 _ c (by rw[q1];exact hl) fun i x v hx hv=>?_;have hlt:i<(‹List AV›:List AV).length→True:=fun _=>trivial;have hi:i<xs.length:=(BE.1 hx).1;rw[q1]at hi;have hy:=BY hi;exact(V7 H (hc i _ v hy hv) (q2 i _ x hy hx)).1
 .exact(V7 H hv hx).1
def kh(P:Program)(C:CA)(f:FuncId):Prop:= ∃fn c,P.funcs[f]? =some fn∧fn.body=some c∧DF C f fn.ntmps c=true∧(fn.name== "runtime.NumGoroutine")=false
structure Uo(P:Program)(mix:List TypeId)(C:CA):Prop where
 cfg:KN P mix C
 mixed:P.follows .mixedOrders=true
 lc: ∀f t,C.lc f=some t→LD P f t
theorem Qn: ∀(n:Nat) (vs:List AV) (t:Nat),(Dn n vs).get t=if n≤t then vs.getD (t-n) .undef else .undef
 |n,[],t=>by simp[Dn,CB.get]
 |n,v::vs,t=>by
  simp only[Dn,CB.get_cons,Qn (n+1) vs t];by_cases e:n=t
  .subst e;simp
  .rw[D3 e];by_cases h1:n+1≤t
   .rw[D7 h1,D7 (by omega)];obtain⟨k,rfl⟩: ∃k,t=n+1+k:=⟨t-(n+1),by omega⟩;rw[show n+1+k-(n+1)=k by omega,show n+1+k-n=k+1 by omega];simp
   .rw[D3 h1,D3 (by omega)]
theorem NN: ∀{l:List Df} {p p':Option AV} {h h':AB},LW W h→Cp C bi l p h=.ok (p',h')→LW W h'
 |[],p,p',h,h',hL,hr=>by
  simp only[Cp,E.ok.injEq,FN]at hr;obtain⟨rfl,rfl⟩:=hr;exact hL
 |.mark id::l,p,p',h,h',hL,hr=>by
  simp only[Cp]at hr;exact NN hL hr
 |.call f args::l,p,p',h,h',hL,hr=>by
  simp only[Cp]at hr;split at hr
  .split at hr
   .exact NN hL hr
   .split at hr
    .split at hr
     .split at hr
      .exact NN (hL.put fun _ h=>by cases h) hr
      .cases hr
     .cases hr
    .cases hr
   .cases hr
  .cases hr
theorem mw(hOk:Uo P mix C)(hT:Ct P (E2 P C) K){f:FuncId}(hf:kh P C f){fuel:Nat}{args:List AV}{raw:Bool}{r:Ae×AB}
 (hr:Nm P C K fuel f args h π raw bi=.ok r):cJ P (E2 P C) (.fn f) args h π raw bi r:=by
 obtain⟨fn,c,g1,g2,g3,g4⟩:=hf;unfold Nm at hr;rw[g1]at hr;simp only[g2]at hr;split at hr
 case h_2=>cases hr
 rename_i hle;have hle:args.length≤fn.ntmps:=F4 hle;cases hx:BC C K {f,π,raw,bi,nt:=fn.ntmps} fuel 0 c {env:=Dn 0 args,heap:=h,base:=0,defs:=[]}with
 |err e=>rw[hx]at hr;cases hr
 |ok r1=>
  rw[hx]at hr;obtain⟨o,st1⟩:=r1;have hend: ∃p,(o=.ret∧p=none∨o=.normal∧p=none∨ ∃v,o=.em v∧p=some v)∧Qk C f fn π raw st1 (Cp C bi st1.defs p st1.heap)=.ok r:=by
   unfold mU at hr;simp only at hr;split at hr
   .exact⟨none,.inl ⟨rfl,rfl⟩,hr⟩
   .exact⟨none,.inr (.inl ⟨rfl,rfl⟩),hr⟩
   .exact⟨_,.inr (.inr ⟨_,rfl,rfl⟩),hr⟩
   .cases hr
  obtain⟨p,hp,hout⟩:=hend;cases hlv:Cp C bi st1.defs p st1.heap with
  |err e=>rw[hlv]at hout;cases hout
  |ok r2=>
   rw[hlv]at hout;obtain⟨p',h'⟩:=r2;have hexec:=fun hL=>M4 (ro:=none) (fr:={f,π,raw,bi,nt:=fn.ntmps}) hOk.cfg hT (fun _=>rfl) hOk.mixed ⟨fn,g1⟩ fuel 0 c _ o st1 g3 hx hL;have hres:(∃v,p'=some v∧r=(.em v,h'))∨(p'=none∧ ∃rv,Hj C fn {st1 with heap:=h'}=some rv∧((r=(.ret rv,h')∧(raw=true∨π≠ []))∨(raw=false∧π=[]∧ ∃rv',Uk h'.get rv=some rv'∧r=(.ret rv',[])))):=by
    unfold Qk at hout;cases p' with
    |some v=>simp only[E.ok.injEq]at hout;exact .inl ⟨v,rfl,hout.symm⟩
    |none=>
     simp only at hout;split at hout
     .rename_i rv hrv;simp only[Iy]at hout;refine .inr ⟨rfl,rv,hrv,?_⟩;split at hout
      .simp only[E.ok.injEq]at hout;exact .inl ⟨hout.symm,.inl rfl⟩
      .split at hout
       .split at hout
        .rename_i rv' hrv';simp only[E.ok.injEq]at hout;exact .inr ⟨rfl,rfl,rv',hrv',hout.symm⟩
        .cases hout
       .rename_i hne;simp only[E.ok.injEq]at hout;exact .inl ⟨hout.symm,.inr fun e=>hne e⟩
     .cases hout
   have main: ∀(A:Nat→Prop) (β:Aj),(raw=false→ ∀id,β id≠none→π<:+id)→LW (E2 P C) h→Nx P A (.fn f) args h π bi r β:=by
    intro A β hown hLh w vs H hfr hvs;show Calls P f vs w (Mi A bi π β w h r);refine RY g1 g2 ?_;have hsz:vs.size=args.length:=hvs.1.symm;have i0:PE A {f,π,raw,bi,nt:=fn.ntmps} ⟨fn.ntmps,w.heap.size⟩ β w {env:=Dn 0 args,heap:=h,base:=0,defs:=[]} {tmps:=vs++Array.replicate (fn.ntmps-vs.size) Go.undef,defers:=[]}:=by
     refine⟨H,⟨by simp;omega,fun t=>?_,trivial⟩,fun n _ id hi=>hfr id ((EM n π).trans hi),hown,El _⟩;simp only;rw[Qn,D7 (I4 t),Nat.sub_zero];by_cases ht:t<args.length
     .have h1:args.getD t .undef=args[t]:=by simp[ht]
      have h2:(vs++Array.replicate (fn.ntmps-vs.size) Go.undef).getD t Go.undef=vs[t]'(by omega):=by
       rw[F5,I2 (by omega),Dl (by omega)];rfl
      rw[h1,h2];exact hvs.2 t _ _ (BY ht) (Dl (by omega))
     .have h1:args.getD t .undef=.undef:=by simp[NO (Nat.le_of_not_lt ht)]
      rw[h1];exact .undef _
    have hruns:=((hexec hLh).2 A ⟨fn.ntmps,w.heap.size⟩ β w _ rfl i0).1;refine hruns.mono fun e a' w' post=>?_;have go: ∀{β1:Aj} {u:FrameMode},BQ A bi π β w h β1 w' st1.heap→PE A {f,π,raw,bi,nt:=fn.ntmps} ⟨fn.ntmps,w.heap.size⟩ β1 w' st1 a'→k7 β1 w' (MS A β1 st1.heap) p u→
     LeavesInM Fence.wide 0 P fn a'.tmps (Mi A bi π β w h r) a'.defers u w':=by
     intro β1 u g1' i1 hm;refine QX (C:=C) (bi:=bi) hOk.lc (env:=st1.env.get) (lb:=w.heap.size) (El _) β1 ?_ st1.defs a'.defers p st1.heap w' u hlv i1.s.defs g1' i1.s.env hm;intro w2 u2 g2' he2 hm2;show LeavesIn Fence.wide 0 P fn a'.tmps (Mi A bi π β w h r) [] u2 w2;rcases hres with⟨v,rfl,rfl⟩|⟨rfl,rv,hrv,hcase⟩
     .obtain⟨vv,rfl,hvv⟩:=hm2;exact⟨β1,g2',vv,rfl,hvv⟩
     .have hu:u2=.returning:=hm2;subst hu;obtain⟨uv,h1,h2⟩:=bn hOk.cfg (st:={st1 with heap:=h'}) g2'.hr he2 hrv
      refine⟨uv,h1,?_⟩;rcases hcase with⟨rfl,_⟩|⟨_,rfl,rv',hrv',rfl⟩
      .exact⟨β1,g2',h2⟩
      .refine⟨β1,g2'.trans (SR g2'.hr (fun id o ho=>by simp at ho) fun id hi=>absurd List.nil_suffix hi),?_⟩;exact sK g2'.hr h2 hrv'
    cases e with
    |normal=>
     obtain⟨h1,β1,g1',i1⟩:=post;have hpn:p=none:=by
      rcases hp with⟨h2,h3⟩|⟨h2,h3⟩|⟨v,h2,h3⟩
      .exact h3
      .exact h3
      .rw[h1]at h2;cases h2
     subst hpn;exact go g1' i1 rfl
    |ret=>
     obtain⟨h1,β1,g1',i1⟩:=post;have hpn:p=none:=by
      rcases hp with⟨h2,h3⟩|⟨h2,h3⟩|⟨v,h2,h3⟩
      .exact h3
      .exact h3
      .rw[h1]at h2;cases h2
     subst hpn;exact go g1' i1 rfl
    |exit id=>
     obtain⟨h1,_⟩:=post;rcases hp with⟨h2,_⟩|⟨h2,_⟩|⟨v,h2,_⟩<;>rw[h1]at h2<;>cases h2
    |panic chain=>
     obtain⟨v,u,β1,h1,rfl,g1',i1,hv⟩:=post;have hpn:p=some v:=by
      rcases hp with⟨h2,h3⟩|⟨h2,h3⟩|⟨v',h2,h3⟩
      .rw[h1]at h2;cases h2
      .rw[h1]at h2;cases h2
      .rw[h1]at h2;cases h2;exact h3
     subst hpn;exact go g1' i1 ⟨u,rfl,hv⟩
    |goto l=>exact post.elim
    |outgrown=>exact post.elim
   refine⟨fun f' hf'=>?_,fun hraw _ hLh A β=>main A β (fun h=>by rw[hraw]at h;cases h) hLh,fun hraw hh hpr A=>?_,fun hraw hh hpr hπ v hv=>?_,fun _ hLh=>?_⟩
   .cases hf';exact⟨fn,c,g1,g2,g4⟩
   .subst hh hpr;exact main A (fun _=>none) (fun _ id hi=>absurd rfl hi) LW.nil
   .rcases hres with⟨v',_,rfl⟩|⟨_,rv,_,hcase⟩
    .cases hv
    .rcases hcase with⟨_,h1|h1⟩|⟨_,_,rv',hrv',rfl⟩
     .rw[hraw]at h1;cases h1
     .exact absurd hπ h1
     .cases hv;exact⟨sJ hrv',rfl⟩
   .have h1:=NN (hexec hLh).1 hlv;rcases hres with⟨v',_,rfl⟩|⟨_,rv,_,hcase⟩
    .exact h1
    .rcases hcase with⟨rfl,_⟩|⟨_,_,rv',_,rfl⟩
     .exact h1
     .exact LW.nil
variable{A:Nat→Prop}{P:Program}{mix:List TypeId}{β β' β'':Aj}{w w' w'':World}{h h' h'':AB}{π ρ:List Nat}{bi:Option (List Nat)}{nt:NT}{a:Act}{ro:Option Nat}
variable{C:CA}{K:AJ}{fr:Fr}
theorem dZ(h:w.heap[k]? =some (.loop l))(hs:l.state=.ready):(Instr.beginRound k).run P w=.ok () (World.f9 w k (.loop {l with state:=.busy})):=by
 simp[Instr.beginRound,Kh h,GQ (P:=P) h (by simp),hs]
theorem rZ(h:w.heap[k]? =some (.loop l))(j:Option Code):
 (Instr.endRound k j).run P w=.ok (.bool j.isNone) (World.f9 w k (.loop {l with state:=if j.isNone then .ready else .done,pending:=j})):=by
 simp[Instr.endRound,Kh h,GQ (P:=P) h (by simp)]
theorem Nk: ∀{ts:List Nat} {vs:List AV} {e e':CB},Dp e ts vs=some e'→ts.length=vs.length
 |[],[],_,_,_=>rfl
 |t::ts,v::vs,e,e',h=>by
  simp only[Dp]at h;simp[Nk h]
 |[],_::_,_,_,h=>by simp[Dp]at h
 |_::_,[],_,_,h=>by simp[Dp]at h
theorem ZO(l:List (Nat×Value)): ∀(tmps:Array Value),(l.foldl (fun tmps (x:Nat×Value)=>tmps.setIfInBounds x.1 x.2) tmps).size=tmps.size:=by
 induction l with
 |nil=>intro tmps;rfl
 |cons x l ih=>intro tmps;rw[MT,ih];simp
theorem O5{M:Nat→Prop}: ∀{ts:List Nat} {vs:List AV} {us:List Value} {e e':CB} {tmps:Array Value},Dp e ts vs=some e'→vs.length=us.length→(∀(i:Nat) (x:AV) (v:Value),vs[i]? =some x→us[i]? =some v→VR β w M x v)→
 (∀t∈ts,t<tmps.size)→IK β w M e.get (fun t=>tmps.getD t Go.undef)→IK β w M e'.get fun t=>((ts.zip us).foldl (fun tmps (x:Nat×Value)=>tmps.setIfInBounds x.1 x.2) tmps).getD t Go.undef
 |[],[],us,e,e',tmps,h,_,_,_,he=>by
  simp only[Dp,CI]at h;subst h;simpa using he
 |t::ts,v::vs,[],e,e',tmps,_,hl,_,_,_=>by simp at hl
 |t::ts,v::vs,u::us,e,e',tmps,h,hl,hv,ht,he=>by
  simp only[Dp]at h;rw[List.zip_cons_cons,MT];refine O5 h (by simpa using hl) (fun i x v h1 h2=>hv (i+1) x v (by simpa using h1) (by simpa using h2)) (fun t' ht'=>by simp;exact ht t' (by simp[ht'])) fun t'=>?_;have hlt:=ht t (by simp);rw[CB.get_cons];by_cases e:t=t'
  .subst e;rw[D7 rfl];have:(tmps.setIfInBounds t u).getD t Go.undef=u:=by simp[hlt]
   show VR β w M v ((tmps.setIfInBounds t u).getD t Go.undef);rw[this];exact hv 0 v u rfl rfl
  .rw[D3 e];have:(tmps.setIfInBounds t u).getD t' Go.undef=tmps.getD t' Go.undef:=by
    rw[F5,II e,←F5]
   show VR β w M (CB.get _ t') ((tmps.setIfInBounds t u).getD t' Go.undef);rw[this];exact he t'
 |[],_::_,_,_,_,_,h,_,_,_,_=>by simp[Dp]at h
 |_::_,[],_,_,_,_,h,_,_,_,_=>by simp[Dp]at h
theorem SS{id:Id}{r:Lp}{k:PJ}(H:HR A β w h)(hg:h.get id=some (.loop r))(hk:β id=some k)(hl:w.heap[k.b]? =some (.loop l))(hw:JE bi [(id,.box [])]=true)(s:LoopState)(p:Option Code):
 BQ A bi π β w h β (World.f9 w k.b (.loop {l with state:=s,pending:=p})) (h.put id (.loop {r with state:=s,pm:=p})):=by
 have hpr:=Fs H (o':=.loop {r with state:=s,pm:=p}) hg rfl hk (.loop {l with state:=s,pending:=p})
 obtain⟨k',hk',l',q1,q2,q3,q4,q5,q6,q7,q9,q8⟩:=H.obj id _ hg;rw[hk]at hk';cases hk';rw[hl]at q1;cases q1;have Hu:HR A β (World.f9 w k.b (.loop {l with state:=s,pending:=p})) (h.put id (.loop {r with state:=s,pm:=p})):=
  H.upd' hg rfl hk ⟨_,Gh _ (AL hl),rfl,rfl,q4,q5,q6,q7,q9,q8.mono (.refl β) hpr⟩
 have hw':JE bi [(id,Obj.loop {r with state:=s,pm:=p})]=true:=by
  cases bi with
  |none=>rfl
  |some ρ=>simpa[JE]using hw
 have g:=IY (ρ:=π) (δ:=[(id,.loop {r with state:=s,pm:=p})]) (.refl β) (fun _ hi=>.inl hi) Hu hpr ⟨fun b hb hne=>EC _ (Ne.symm (hne (id,.loop {r with state:=s,pm:=p}) (by simp) k hk)),fun _ _ h=>.inl h⟩ hw'
 exact g
theorem X5(hOk:Uo P mix C)(hT:Ct P (E2 P C) K){id:Id}{r:Lp}{fuel:Nat}{args:List AV}{res:Ae×AB}(hr:G0 C K fuel id r args h π bi=.ok res):
 cJ P (E2 P C) (.round id r) args h π true bi res:=by
 unfold G0 at hr;split at hr
 case h_2=>cases hr
 rename_i e he;have hlen:=Nk he;cases hx:BC C K {f:=r.f,π,raw:=true,bi,v6:=true,nt:=r.nt} fuel 0 r.jp {env:=e,heap:=h,base:=0,defs:=[]}with
 |err e=>rw[hx]at hr;simp[IB]at hr
 |ok r1=>
  rw[hx]at hr;obtain⟨o1,st1⟩:=r1;unfold IB at hr;split at hr
  case h_2=>cases hr
  rename_i st1' heq;simp only[E.ok.injEq,FN]at heq;obtain⟨rfl,rfl⟩:=heq;split at hr
  case h_2=>cases hr
  rename_i hd1 hw;unfold OO at hr;split at hr
  case h_2=>cases hr
  rename_i r2 hg2;split at hr
  case h_2=>cases hr
  rename_i hready;simp only[Ak]at hr;cases hy:BC C K {f:=r.f,π,raw:=true,bi,v6:=true,nt:=r.nt} fuel 0 r.body {st1 with heap:=st1.heap.put id (.loop {r2 with state:=.busy})}with
  |err e=>rw[hy]at hr;cases hr
  |ok r3=>
   rw[hy]at hr;obtain⟨o,st2⟩:=r3;unfold X3 at hr;simp only at hr;split at hr
   case h_2=>cases hr
   rename_i hd2;unfold X4 at hr;split at hr
   case h_2=>cases hr
   rename_i r3 hg3;have hwf2: ∀{s p},E2 P C r2→E2 P C {r2 with state:=s,pm:=p}:=fun h=>h
   refine⟨fun f hf=>(by cases hf),fun _ hW hL A β=>?_,fun h=>(by cases h),fun h=>(by cases h),fun hW hL=>?_⟩
   .obtain⟨⟨fn,hfn⟩,hasg,hbody,hps⟩:=hW id r rfl;intro w vs H hfr hvs;refine⟨hlen,fun k l hg hk hl=>?_⟩;obtain⟨k',hk',l',q1,q2,q3,q4,q5,q6,q7,q9,q8⟩:=H.obj id _ hg;rw[hk]at hk';cases hk';rw[hl]at q1;cases q1;rw[q4];have hnu: ¬π<:+id:=fun hs=>by rw[hfr id hs]at hk;cases hk
    refine Rn hfn ?_;rw[q6];have hsz:(GP l vs).size=r.nt:=by
     unfold GP;rw[←Array.foldl_toList,ZO,q9]
    have i0:PE A {f:=r.f,π,raw:=true,bi,v6:=true,nt:=r.nt} ⟨r.nt,w.heap.size⟩ β w {env:=e,heap:=h,base:=0,defs:=[]} {tmps:=GP l vs,defers:=[]}:=by
     refine⟨H,⟨hsz,?_,trivial⟩,fun n _ id hi=>hfr id ((EM n π).trans hi),fun h=>(by cases h),El _⟩;have:=O5 (us:=vs.toList) he (by rw[hvs.1];simp) (fun i x v h1 h2=>hvs.2 i x v h1 (by simpa using h2)) (fun t ht=>by rw[q9];exact hps t ht) q8;unfold GP;rw[←Array.foldl_toList,Array.toList_zip,q5];exact this
    obtain⟨hL1,hx1⟩:=M4 (ro:=some k.b) (fr:={f:=r.f,π,raw:=true,bi,v6:=true,nt:=r.nt}) hOk.cfg hT (fun h=>(by cases h)) hOk.mixed ⟨fn,hfn⟩ fuel 0 r.jp _ .normal st1 hasg hx hL;refine(hx1 A ⟨r.nt,w.heap.size⟩ β w _ rfl i0).1.mono fun ex a1 w1 post=>?_;cases ex with
    |normal=>
     obtain⟨_,β1,g1,i1⟩:=post;have hk1:β1 id=some k:=by rw[g1.out id hnu];exact hk
     obtain⟨k',hk',l1,t1,t2,t3,t4,t5,t6,t7,t9,t8⟩:=i1.hr.obj id _ hg2;rw[hk1]at hk';cases hk';refine⟨_,dZ t1 (by rw[t2];exact hready),?_⟩;have g2:=SS (π:=π) i1.hr hg2 hk1 t1 hw .busy l1.pending;rw[t3]at g2;have e2:({r2 with state:=LoopState.busy,pm:=r2.pm}:Lp)={r2 with state:=.busy}:=rfl
     have el:({l1 with state:=LoopState.busy,pending:=r2.pm}:Loop)={l1 with state:=.busy}:=by rw[←t3]
     rw[e2,el]at g2;have i2:PE A {f:=r.f,π,raw:=true,bi,v6:=true,nt:=r.nt} ⟨r.nt,w.heap.size⟩ β1 (World.f9 w1 k.b (.loop {l1 with state:=.busy})) {st1 with heap:=st1.heap.put id (.loop {r2 with state:=.busy})} a1:=
      ⟨g2.hr,i1.s.mono (.refl β1) g2.ge,i1.fresh,fun h=>(by cases h),Hw i1.lb g2.ge.size⟩
     have hL2:LW (E2 P C) (st1.heap.put id (.loop {r2 with state:=.busy})):=hL1.put fun r' hr'=>by
      cases hr';exact hL1 id r2 hg2
     obtain⟨hL3,hy1⟩:=M4 (ro:=some k.b) (fr:={f:=r.f,π,raw:=true,bi,v6:=true,nt:=r.nt}) hOk.cfg hT (fun h=>(by cases h)) hOk.mixed ⟨fn,hfn⟩ fuel 0 r.body _ o st2 hbody hy hL2;rw[q7];refine(hy1 A ⟨r.nt,w.heap.size⟩ β1 _ a1 rfl i2).1.mono fun ex a2 w2 post=>?_;have fin: ∀{β2:Aj},BQ A bi π β1 (World.f9 w1 k.b (.loop {l1 with state:=.busy})) (st1.heap.put id (.loop {r2 with state:=.busy})) β2 w2 st2.heap→PE A {f:=r.f,π,raw:=true,bi,v6:=true,nt:=r.nt} ⟨r.nt,w.heap.size⟩ β2 w2 st2 a2→
      ∀(j:Option Code),IA id st2.heap r3 j=.ok res→ ∃v w',(Instr.endRound k.b j).run P w2=.ok v w'∧Mi A bi π β w h res (.returned v) w':=by
      intro β2 g3 i3 j hfin;have hk2:β2 id=some k:=by rw[g3.out id hnu];exact hk1
      obtain⟨k',hk',l2,u1,u2,u3,u4,u5,u6,u7,u9,u8⟩:=i3.hr.obj id _ hg3;rw[hk2]at hk';cases hk';refine⟨_,_,rZ u1 j,?_⟩;have g4:=SS (π:=π) i3.hr hg3 hk2 u1 hw (if j.isNone then .ready else .done) j;unfold IA at hfin;simp only[E.ok.injEq]at hfin;subst hfin;refine⟨β2,?_,.d (.bool _)⟩;have hs:(match j with|none=>LoopState.ready|some _=>LoopState.done)=(if j.isNone then LoopState.ready else LoopState.done):=by cases j<;>rfl
      have g:=((g1.trans g2).trans g3).trans g4;cases j with
      |none=>exact g
      |some c=>exact g
     cases ex with
     |normal=>
      obtain⟨rfl,β2,g3,i3⟩:=post;exact fin g3 i3 none hr
     |ret=>
      obtain⟨rfl,β2,g3,i3⟩:=post;exact fin g3 i3 (some .ret) hr
     |exit x=>
      obtain⟨rfl,β2,g3,i3⟩:=post;exact fin g3 i3 (some (.exit x)) hr
     |panic chain=>
      obtain⟨v,u,β2,rfl,rfl,g3,i3,hv⟩:=post;simp only[E.ok.injEq]at hr;subst hr;refine⟨?_,β2,(g1.trans g2).trans g3,u,rfl,hv⟩;have:=i3.s.defs;rw[hd2]at this;cases hda:a2.defers with
      |nil=>rfl
      |cons d l=>rw[hda]at this;exact this.elim
     |goto l=>exact post.elim
     |outgrown=>exact post.elim
    |exit x=>obtain⟨h,_⟩:=post;cases h
    |ret=>obtain⟨h,_⟩:=post;cases h
    |panic chain=>obtain⟨v,u,β1,h,_⟩:=post;cases h
    |goto l=>exact post.elim
    |outgrown=>exact post.elim
   .obtain⟨⟨fn,hfn⟩,hasg,hbody,hps⟩:=hW id r rfl;have hL1:=(M4 (ro:=some 0) (fr:={f:=r.f,π,raw:=true,bi,v6:=true,nt:=r.nt}) hOk.cfg hT (fun h=>(by cases h)) hOk.mixed ⟨fn,hfn⟩ fuel 0 r.jp _ .normal st1 hasg hx hL).1;have hL2:LW (E2 P C) (st1.heap.put id (.loop {r2 with state:=.busy})):=hL1.put fun r' hr'=>by
     cases hr';exact hL1 id r2 hg2
    have hL3:=(M4 (ro:=some 0) (fr:={f:=r.f,π,raw:=true,bi,v6:=true,nt:=r.nt}) hOk.cfg hT (fun h=>(by cases h)) hOk.mixed ⟨fn,hfn⟩ fuel 0 r.body _ o st2 hbody hy hL2).1;have fin: ∀j,IA id st2.heap r3 j=.ok res→LW (E2 P C) res.2:=by
     intro j hfin;unfold IA at hfin;simp only[E.ok.injEq]at hfin;subst hfin;exact hL3.put fun r' hr'=>by
      cases hr';exact hL3 id r3 hg3
    cases o with
    |normal=>exact fin _ hr
    |ret=>exact fin _ hr
    |exit x=>exact fin _ hr
    |em v=>
     simp only[E.ok.injEq]at hr;subst hr;exact hL3
theorem Od(hOk:Uo P mix C)(hgood: ∀f,C.ii f=true→kh P C f)(m:Nat): ∀n,Ct P (E2 P C) (Gk P C m n)
 |0=>fun t args h π raw bi r hr=>by simp[Gk]at hr
 |n+1=>fun t args h π raw bi r hr=>by
  have ih:=Od hOk hgood m n;cases t with
  |fn f=>
   simp only[Gk]at hr;split at hr
   .rename_i hg;exact mw hOk ih (hgood f hg) hr
   .cases hr
  |round id lp=>
   simp only[Gk]at hr;split at hr
   .exact X5 hOk ih hr
   .cases hr
variable{P:Program}{C:CA}{mix:List TypeId}
structure Qu where
 t:zJ
 args:List AV
 h:AB
 π:List Nat
 raw:Bool
 bi:Option (List Nat)
def ask(K:AJ)(q:Qu):E (Ae×AB):=K q.t q.args q.h q.π q.raw q.bi
def Ll(K K':AJ)(L:List Qu):Prop:= ∀q∈L,∀r,ask K q=.ok r→ask K' q=.ok r
variable{K K':AJ}{L:List Qu}
theorem Ll.left{M:List Qu}(h:Ll K K' (L++M)):Ll K K' L:=fun q hq=>h q (Ge _ hq)
theorem Ll.right{M:List Qu}(h:Ll K K' (L++M)):Ll K K' M:=fun q hq=>h q (GO _ hq)
def Fx.ii:Fx→Prop
 |.err _=>False
 |_=>True
def lH{α:Type}(K:AJ)(f:AJ→α)(ii:α→Prop):Prop:=ii (f K)→ ∃L,∀K',Ll K K' L→f K'=f K
variable{α:Type}
theorem K8{ii:α→Prop}(q:Qu)(g:E (Ae×AB)→α)(herr: ∀l,¬ii (g (.err l))):lH K (fun K=>g (ask K q)) ii:=by
 intro hg;refine⟨[q],fun K' h=>?_⟩;cases hk:ask K q with
 |err l=>exact absurd (by simpa[hk]using hg) (herr l)
 |ok r=>simp only[hk,h q (by simp) r hk]
theorem C8{ii:α→Prop}(x:α):lH K (fun _=>x) ii:=fun _=>⟨[],fun _ _=>rfl⟩
variable{ρ:List Nat}{dst:Option Tmp}
theorem K2(l:List Nat): ¬(EB ρ dst st (.err l)).ii:=fun h=>h
theorem UM{as:List AV}(l:List Nat): ¬(C3 fr as dst st (.err l)).ii:=fun h=>h
theorem bo(l:List Nat): ¬(Nj dst st (.err l)).ii:=fun h=>h
variable{args:List AV}
theorem Oj{fv:AV}:lH K (fun K=>De C K fr ρ fv args dst st) Fx.ii:=by
 unfold De;cases fv with
 |un id=>
  simp only[Jn];cases st.heap.get id with
  |none=>exact C8 _
  |some o=>cases o with
   |loop r=>exact K8 ⟨.round id r,args,st.heap,ρ,true,fr.bi⟩ _ K2
   |_=>exact C8 _
 |fn f first cap=>
  simp only[BA,DW];split
  .exact K8 ⟨.fn f,_,st.heap,ρ,true,fr.bi⟩ _ K2
  .split
   .exact K8 ⟨.fn f,_,[],_,false,none⟩ _ UM
   .simp only[EZ,BA,BW,Ak];split
    .exact K8 ⟨.fn f,_,_,ρ,true,some ρ⟩ _ bo
    .split
     .exact K8 ⟨.fn f,_,_,ρ,true,fr.bi⟩ _ K2
     .exact C8 _
 |_=>exact C8 _
theorem YG{o:Oper}:lH K (fun K=>B2 C K fr ops ρ o st) Fx.ii:=by
 unfold B2;cases LX ops st.env o with
 |none=>exact C8 _
 |some b=>cases b with
  |false=>exact C8 _
  |true=>
   simp only[Ax];split
   .split
    .exact Oj
    .simp only[E3];split
     .split
      .exact Oj
      .exact C8 _
     .exact C8 _
    .exact C8 _
   .exact C8 _
   .exact C8 _
   .exact C8 _
def E.ii{α:Type}:E α→Prop
 |.ok _=>True
 |.err _=>False
theorem O6{K:AJ}{fr:Fr}{ops:Array Oper}{b:Nat}{alone:Nat→Bool}: ∀(l:List Oper) (i:Nat) (st:St),lH K (fun K=>Cl C K fr ops b alone l i st) E.ii
 |[],i,st=>C8 _
 |o::l,i,st=>by
  intro hg;simp only[Cl,HN]at hg⊢;have hstep:=YG (C:=C) (K:=K) (fr:=fr) (ops:=ops) (ρ:=(b+i)::fr.π) (o:=o) (st:=st);cases hs:B2 C K fr ops ((b+i)::fr.π) o st with
  |err e=>simp only[hs]at hg;exact hg.elim
  |em v st'=>
   obtain⟨L,hL⟩:=hstep (by simp only[hs];trivial);refine⟨L,fun K' h=>?_⟩;have:=hL K' h;simp only at this;rw[this,hs]
  |ok st' fp=>
   obtain⟨L,hL⟩:=hstep (by simp only[hs];trivial);simp only[hs]at hg;have hrest:=O6 (K:=K) (fr:=fr) (ops:=ops) (b:=b) (alone:=alone) l (i+1) st';cases hr:Cl C K fr ops b alone l (i+1) st' with
   |err e=>simp only[hr]at hg;exact hg.elim
   |ok r=>
    obtain⟨M,hM⟩:=hrest (by simp only[hr];trivial);refine⟨L++M,fun K' h=>?_⟩;have h1:=hL K' h.left;have h2:=hM K' h.right;simp only at h1 h2;rw[h1,hs];simp only;rw[h2,hr]
theorem LO: ∀(n b:Nat) (c:Code) (st:St),(BC C K fr n b c st).ii→ ∃L,∀K' n',n≤n'→Ll K K' L→BC C K' fr n' b c st=BC C K fr n b c st:=by
 intro n;induction n with
 |zero=>intro b c st hg;simp[BC,E.ii]at hg
 |succ n ih=>
  intro b c st hg;have up: ∀{L:List Qu},(∀K' n',n≤n'→Ll K K' L→BC C K' fr (n'+1) b c st=BC C K fr (n+1) b c st)→ ∃L,∀K' n',n+1≤n'→Ll K K' L→BC C K' fr n' b c st=BC C K fr (n+1) b c st:=by
   intro L h;refine⟨L,fun K' n' hn hs=>?_⟩;obtain⟨m,rfl⟩: ∃m,n'=m+1:=⟨n'-1,by omega⟩;exact h K' m (by omega) hs
  cases c with
  |skip=>exact up (L:=[]) fun _ _ _ _=>rfl
  |label l=>exact up (L:=[]) fun _ _ _ _=>rfl
  |exit id=>exact up (L:=[]) fun _ _ _ _=>rfl
  |ret=>exact up (L:=[]) fun _ _ _ _=>rfl
  |goto l=>simp[BC,E.ii]at hg
  |scope x=>simp[BC,E.ii]at hg
  |refuse=>simp[BC,E.ii]at hg
  |seq x y=>
   simp only[BC]at hg;cases hx:BC C K fr n b x st with
   |err e=>rw[hx]at hg;exact hg.elim
   |ok r=>
    rw[hx]at hg;obtain⟨L,hL⟩:=ih b x st (by rw[hx];trivial);obtain⟨o,st1⟩:=r;cases o with
    |normal=>
     obtain⟨M,hM⟩:=ih b y st1 hg;refine up (L:=L++M) fun K' n' hn hs=>?_;simp only[BC,hL K' n' hn hs.left,hx,C2];exact hM K' n' hn hs.right
    |exit id=>exact up (L:=L) fun K' n' hn hs=>by simp only[BC,hL K' n' hn hs,hx,C2]
    |ret=>exact up (L:=L) fun K' n' hn hs=>by simp only[BC,hL K' n' hn hs,hx,C2]
    |em v=>exact up (L:=L) fun K' n' hn hs=>by simp only[BC,hL K' n' hn hs,hx,C2]
  |cond c x y=>
   simp only[BC]at hg;cases hv:ev st.env.get c with
   |d d=>cases d with
    |bool t=>
     rw[hv]at hg;cases t with
     |true=>
      obtain⟨L,hL⟩:=ih b x st hg;exact up (L:=L) fun K' n' hn hs=>by simp only[BC,hv,JM,hL K' n' hn hs]
     |false=>
      obtain⟨L,hL⟩:=ih b y st hg;exact up (L:=L) fun K' n' hn hs=>by simp only[BC,hv,JM,hL K' n' hn hs]
    |_=>rw[hv]at hg;exact hg.elim
   |_=>rw[hv]at hg;exact hg.elim
  |block id x=>
   simp only[BC]at hg;cases hx:BC C K fr n id x st with
   |err e=>rw[hx]at hg;exact hg.elim
   |ok r=>
    obtain⟨L,hL⟩:=ih id x st (by rw[hx];trivial);exact up (L:=L) fun K' n' hn hs=>by simp only[BC,hL K' n' hn hs]
  |loop x=>
   simp only[BC,Jv]at hg;cases hx:BC C K fr n b x (Ea C fr b st)with
   |err e=>rw[hx]at hg;exact hg.elim
   |ok r=>
    rw[hx]at hg;obtain⟨L,hL⟩:=ih b x _ (by rw[hx];trivial);obtain⟨o,st1⟩:=r;cases o with
    |normal=>
     obtain⟨M,hM⟩:=ih b (.loop x) st1 hg;refine up (L:=L++M) fun K' n' hn hs=>?_;simp only[BC,Jv,hL K' n' hn hs.left,hx,C2];exact hM K' n' hn hs.right
    |exit id=>exact up (L:=L) fun K' n' hn hs=>by simp only[BC,Jv,hL K' n' hn hs,hx,C2]
    |ret=>exact up (L:=L) fun K' n' hn hs=>by simp only[BC,Jv,hL K' n' hn hs,hx,C2]
    |em v=>exact up (L:=L) fun K' n' hn hs=>by simp only[BC,Jv,hL K' n' hn hs,hx,C2]
  |region id ops draw=>
   simp only[BC,DY]at hg;cases hr:Cl C K fr ops st.base (fun i=> !draw||C.alone fr.f id i) ops.toList 0 st with
   |err e=>rw[hr]at hg;exact hg.elim
   |ok r=>
    obtain⟨L,hL⟩:=O6 (C:=C) (K:=K) (fr:=fr) (ops:=ops) (b:=st.base) (alone:=fun i=> !draw||C.alone fr.f id i) ops.toList 0 st (by simp only[hr];trivial);refine up (L:=L) fun K' n' hn hs=>?_;have:=hL K' hs;simp only at this;simp only[BC,DY,this]
  |rangeFunc g ps jp body=>
   simp only[BC,JN]at hg⊢;cases hrnd:fr.v6 with
   |true=>rw[hrnd]at hg;exact hg.elim
   |false=>
    rw[hrnd]at hg;simp only[HN,Ak,LH]at hg;cases hgv:ev st.env.get g with
    |fn f first cap=>
     rw[hgv]at hg;simp only[BA]at hg;cases hk:K (.fn f) (first++[.un (0::st.base::fr.π)]++cap) (st.heap.put (0::st.base::fr.π) (.loop {state:=.ready,pm:=none,f:=fr.f,env:=st.env,params:=ps.toList,jp:=jp,body:=body,nt:=fr.nt})) ((st.base+1)::fr.π) true fr.bi with
     |err e=>rw[hk]at hg;exact hg.elim
     |ok r=>
      refine⟨[⟨.fn f,first++[.un (0::st.base::fr.π)]++cap,st.heap.put (0::st.base::fr.π) (.loop {state:=.ready,pm:=none,f:=fr.f,env:=st.env,params:=ps.toList,jp:=jp,body:=body,nt:=fr.nt}),(st.base+1)::fr.π,true,fr.bi⟩],fun K' n' hn hs=>?_⟩;obtain⟨m,rfl⟩: ∃m,n'=m+1:=⟨n'-1,by omega⟩;have h1:=hs _ (Ac.2 rfl) r hk;unfold ask at h1;simp only at h1;simp only[BC,JN,hrnd,HN,Ak,LH,hgv,BA,h1,hk]
    |_=>rw[hgv]at hg;exact hg.elim
theorem E.good_of{x:E α}{r:α}(h:x=.ok r):x.ii:=by rw[h];trivial
variable{n:Nat}{h:AB}{π:List Nat}{raw:Bool}{bi:Option (List Nat)}
theorem MW{r:Ae×AB}(hr:Nm P C K n f args h π raw bi=.ok r):
 ∃L,∀K' n',n≤n'→Ll K K' L→Nm P C K' n' f args h π raw bi=.ok r:=by
 unfold Nm at hr⊢;cases hf:P.funcs[f]? with
 |none=>rw[hf]at hr;cases hr
 |some fn=>
  rw[hf]at hr;simp only at hr⊢;cases hb:fn.body with
  |none=>rw[hb]at hr;cases hr
  |some c=>
   rw[hb]at hr;simp only at hr⊢;cases hl:Nat.ble args.length fn.ntmps with
   |false=>rw[hl]at hr;cases hr
   |true=>
    rw[hl]at hr;simp only at hr⊢;cases hx:BC C K {f,π,raw,bi,nt:=fn.ntmps} n 0 c {env:=Dn 0 args,heap:=h,base:=0,defs:=[]}with
    |err e=>rw[hx]at hr;cases hr
    |ok r1=>
     obtain⟨L,hL⟩:=LO n 0 c _ (E.good_of hx);exact⟨L,fun K' n' hn hs=>by rw[hL K' n' hn hs];exact hr⟩
variable{lp:Lp}
theorem JC{id:Id}{r:Ae×AB}(hr:G0 C K n id lp args h π bi=.ok r):
 ∃L,∀K' n',n≤n'→Ll K K' L→G0 C K' n' id lp args h π bi=.ok r:=by
 unfold G0 at hr⊢;cases he:Dp lp.env lp.params args with
 |none=>rw[he]at hr;cases hr
 |some e=>
  rw[he]at hr;simp only at hr⊢;cases hx:BC C K {f:=lp.f,π,raw:=true,bi,v6:=true,nt:=lp.nt} n 0 lp.jp {env:=e,heap:=h,base:=0,defs:=[]}with
  |err e=>rw[hx]at hr;cases hr
  |ok r1=>
   obtain⟨L,hL⟩:=LO n 0 lp.jp _ (E.good_of hx);rw[hx]at hr;obtain⟨o,st1⟩:=r1;have body: ∀{r:Ae×AB},IB C K n id lp π bi (.ok (o,st1))=.ok r→ ∃M,∀K' n',n≤n'→Ll K K' M→IB C K' n' id lp π bi (.ok (o,st1))=.ok r:=by
    intro r hr;cases o with
    |normal=>
     simp only[IB]at hr⊢;cases hd:st1.defs with
     |cons d l=>simp only[hd]at hr;cases hr
     |nil=>
      cases hw:JE bi [(id,.box [])]with
      |false=>simp only[hd,hw]at hr;cases hr
      |true=>
       simp only[hd,hw]at hr⊢;unfold OO at hr⊢;cases hg:st1.heap.get id with
       |none=>simp only[hg]at hr;cases hr
       |some ob=>
        cases ob with
        |loop r2=>
         simp only[hg]at hr⊢;cases hst:r2.state with
         |ready=>
          simp only[hst,Ak]at hr⊢;cases hy:BC C K {f:=lp.f,π,raw:=true,bi,v6:=true,nt:=lp.nt} n 0 lp.body {st1 with heap:=st1.heap.put id (.loop {r2 with state:=.busy})}with
          |err e=>rw[hy]at hr;cases hr
          |ok r3=>
           obtain⟨M,hM⟩:=LO n 0 lp.body _ (E.good_of hy);exact⟨M,fun K' n' hn hs=>by rw[hM K' n' hn hs];exact hr⟩
         |_=>simp only[hst]at hr;cases hr
        |_=>simp only[hg]at hr;cases hr
    |_=>simp[IB]at hr
   obtain⟨M,hM⟩:=body hr;exact⟨L++M,fun K' n' hn hs=>by rw[hL K' n' hn hs.left,hx];exact hM K' n' hn hs.right⟩
theorem Ll.all(h: ∀q r,ask K q=.ok r→ask K' q=.ok r)(L:List Qu):Ll K K' L:=fun q _=>h q
theorem Hq{m m':Nat}(hm:m≤m'): ∀{n n':Nat},n≤n'→ ∀(q:Qu) (r:Ae×AB),ask (Gk P C m n) q=.ok r→ask (Gk P C m' n') q=.ok r
 |0,n',_,q,r,h=>by simp[ask,Gk]at h
 |n+1,0,hn,_,_,_=>by omega
 |n+1,n'+1,hn,q,r,h=>by
  have ih:=Hq hm (Nat.le_of_succ_le_succ hn);obtain⟨t,args,hh,π,raw,bi⟩:=q;unfold ask at h⊢;simp only[Gk]at h⊢;cases t with
  |fn f=>
   simp only at h⊢;cases hg:C.ii f with
   |false=>rw[hg]at h;cases h
   |true=>
    rw[hg]at h;simp only at h⊢;obtain⟨L,hL⟩:=MW h;exact hL _ _ hm (.all ih L)
  |round id lp=>
   simp only at h⊢;cases raw with
   |false=>cases h
   |true=>
    simp only at h⊢;obtain⟨L,hL⟩:=JC h;exact hL _ _ hm (.all ih L)
open Classical in
noncomputable def KL(P:Program)(C:CA):AJ:=fun t args h π raw bi=>
 if hx: ∃r n,Gk P C n n t args h π raw bi=.ok r then .ok hx.choose else .err []
variable{q:Qu}
theorem vp{r:Ae×AB}{m:Nat}(h:ask (Gk P C m n) q=.ok r):ask (KL P C) q=.ok r:=by
 have hx: ∃r n,Gk P C n n q.t q.args q.h q.π q.raw q.bi=.ok r:=⟨r,max m n,Hq (LI _ _) (Mp _ _) q r h⟩;unfold ask KL;rw[dif_pos hx];obtain⟨k,hk⟩:=hx.choose_spec;have h1:=Hq (P:=P) (C:=C) (LI m k) (LI n k) q r h;have h2:=Hq (P:=P) (C:=C) (Mp m k) (Mp n k) q _ hk;rw[h1]at h2;injection h2 with h2
 rw[h2]
theorem wJ{r:Ae×AB}(h:ask (KL P C) q=.ok r): ∃n,ask (Gk P C n n) q=.ok r:=by
 unfold ask KL at h;split at h
 .rename_i hx;obtain⟨n,hn⟩:=hx.choose_spec;simp only[E.ok.injEq]at h;rw[h]at hn;exact⟨n,hn⟩
 .cases h
theorem cG(L:List Qu): ∃N,∀m n,N≤m→N≤n→Ll (KL P C) (Gk P C m n) L:=by
 induction L with
 |nil=>exact⟨0,fun _ _ _ _ q hq=>by cases hq⟩
 |cons q L ih=>
  obtain⟨N,hN⟩:=ih;cases hk:ask (KL P C) q with
  |err e=>
   refine⟨N,fun m n hm hn q' hq' r hr=>?_⟩;rcases DL.1 hq' with rfl|hq'
   .rw[hk]at hr;cases hr
   .exact hN m n hm hn q' hq' r hr
  |ok r0=>
   obtain⟨k,hk'⟩:=wJ hk;refine⟨max N k,fun m n hm hn q' hq' r hr=>?_⟩;rcases DL.1 hq' with rfl|hq'
   .rw[hk]at hr;cases hr;exact Hq (by omega) (by omega) _ _ hk'
   .exact hN m n (by omega) (by omega) q' hq' r hr
theorem vo(hg:C.ii f=true){r:Ae×AB}(hr:Nm P C (KL P C) n f args h π raw bi=.ok r):
 KL P C (.fn f) args h π raw bi=.ok r:=by
 obtain⟨L,hL⟩:=MW hr;obtain⟨N,hN⟩:=cG (P:=P) (C:=C) L;refine vp (q:=⟨.fn f,args,h,π,raw,bi⟩) (m:=max N n) (n:=max N n+1) ?_;unfold ask;simp only[Gk,hg];exact hL _ _ (Mp _ _) (hN _ _ (LI _ _) (LI _ _))
theorem ko{id:Id}{r:Ae×AB}(hr:G0 C (KL P C) n id lp args h π bi=.ok r):
 KL P C (.round id lp) args h π true bi=.ok r:=by
 obtain⟨L,hL⟩:=JC hr;obtain⟨N,hN⟩:=cG (P:=P) (C:=C) L;refine vp (q:=⟨.round id lp,args,h,π,true,bi⟩) (m:=max N n) (n:=max N n+1) ?_;unfold ask;simp only[Gk];exact hL _ _ (Mp _ _) (hN _ _ (LI _ _) (LI _ _))
theorem kq(hOk:Uo P mix C)(hgood: ∀f,C.ii f=true→kh P C f):Ct P (E2 P C) (KL P C):=by
 intro t args h π raw bi r hr;obtain⟨n,hn⟩:=wJ (q:=⟨t,args,h,π,raw,bi⟩) hr;exact Od hOk hgood n n t args h π raw bi r hn
end Go.Abs
