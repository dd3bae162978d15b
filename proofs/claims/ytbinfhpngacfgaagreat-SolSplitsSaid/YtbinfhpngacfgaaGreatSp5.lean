/-
  Parts of it.
-/
import Derived.OrdersIn
import Derived.RangeFuncLeaves
import Derived.Test.YtbinfhpngacfgaaGreatSp4
set_option linter.all false
namespace Go.Abs
variable{A:Nat→Prop}{P:Program}{mix:List TypeId}{β β' β'':Ag}{w w' w'':World}{M:Nat→Prop}{h h' h'':AB}{π ρ:List Nat}{bi:Option (List Nat)}
def EU(β:Ag)(π:List Nat):Prop:= ∀id,π<:+id→β id=none
def oE(ρ:List Nat)(β:Ag)(b:Nat):Prop:= ∃id k,ρ<:+id∧β id=some k∧k.b=b
def Uf(bi:Option (List Nat))(ρ:List Nat)(β:Ag):Prop:=bi=some ρ∨ ∀id,β id≠none→ρ<:+id
def AC8(bi:Option (List Nat))(π:List Nat)(β:Ag)(w:World)(h:AB)(β':Ag)(w':World)(h':AB):Prop:=
 ∀ρ,ρ<:+π→Uf bi ρ β→(∀b,b<w.heap.size→ ¬oE ρ β b→w'.heap[b]? =w.heap[b]?)∧(∀b,oE ρ β' b→oE ρ β b∨w.heap.size≤b)∧ ∀id,¬ρ<:+id→h'.get id=h.get id
structure BM(A:Nat→Prop)(bi:Option (List Nat))(π:List Nat)(β:Ag)(w:World)(h:AB)(β':Ag)(w':World)(h':AB):Prop where
 out: ∀id,¬π<:+id→β' id=β id
 hr:HR A β' w' h'
 ip:DX A (MS A β h) w (MS A β' h') w'
 kept:AC8 bi π β w h β' w' h'
theorem BM.refl(H:HR A β w h):BM A bi π β w h β w h:=
 ⟨fun _ _=>rfl,H,.refl _ _,fun _ _ _=>⟨fun _ _ _=>rfl,fun _ hb=>.inl hb,fun _ _=>rfl⟩⟩
theorem Xv(hs:ρ<:+π)(ho: ∀id,¬π<:+id→β' id=β id)(hg:Uf bi ρ β):Uf bi ρ β':=by
 refine hg.imp (fun h=>h) fun h id hi=>?_;by_cases e:π<:+id
 .exact hs.trans e
 .rw[ho id e]at hi;exact h id hi
theorem BM.trans(g1:BM A bi π β w h β' w' h')(g2:BM A bi π β' w' h' β'' w'' h''):BM A bi π β w h β'' w'' h'' where
 out id hi:=by rw[g2.out id hi,g1.out id hi]
 hr:=g2.hr
 ip:=g1.ip.trans g2.ip
 kept ρ hρ hg:=by
  obtain⟨a1,a2,a3⟩:=g1.kept ρ hρ hg;obtain⟨b1,b2,b3⟩:=g2.kept ρ hρ (Xv hρ g1.out hg);refine⟨fun b hb hu=>?_,fun b hb=>?_,fun id hi=>by rw[b3 id hi,a3 id hi]⟩
  .rw[b1 b (Lm hb g1.ip.size) (fun hu'=>(a2 b hu').elim hu (fun h=>by omega)),a1 b hb hu]
  .rcases b2 b hb with h1|h1
   .exact a2 b h1
   .exact .inr (IP g1.ip.size h1)
theorem BM.le(g:BM A bi π β w h β' w' h')(hf:EU β π):Le β β':=fun id k hk=>by
 rw[g.out id fun hs=>by rw[hf id hs]at hk;cases hk];exact hk
theorem BM.up{n:List Nat}(hs:π<:+n)(g:BM A bi n β w h β' w' h'):BM A bi π β w h β' w' h':=
 ⟨fun id hi=>g.out id fun hn=>hi (hs.trans hn),g.hr,g.ip,fun ρ hρ hg=>g.kept ρ (hρ.trans hs) hg⟩
variable{h2:AB}
theorem MS.congr{h:AB}(e: ∀id,h.get id=h2.get id):MS A β h=MS A β h2:=by
 funext b;simp only[MS,e]
theorem HR.congr{h:AB}(e: ∀id,h.get id=h2.get id)(H:HR A β w h):HR A β w h2:=by
 have hM:=MS.congr (A:=A) (β:=β) e;refine⟨fun id o ho=>?_,fun a b oa ob ka kb ha hb=>H.inj a b oa ob ka kb (by rw[e];exact ha) (by rw[e];exact hb),H.wt,fun id o k ho=>H.out id o k (by rw[e];exact ho),H.abnd⟩;rw[←hM];exact H.obj id o (by rw[e];exact ho)
theorem BM.congr{h:AB}(e: ∀id,h.get id=h2.get id)(g:BM A bi π β w h β' w' h'):BM A bi π β w h2 β' w' h':=by
 refine⟨g.out,g.hr,by rw[←MS.congr e];exact g.ip,fun ρ hρ hg=>?_⟩;obtain⟨a,b,c⟩:=g.kept ρ hρ hg;exact⟨a,b,fun id hi=>by rw[←e];exact c id hi⟩
structure NT where
 n:Nat
 lb:Nat
inductive DfR(lb:Nat)(β:Ag)(w:World)(M:Nat→Prop):Df→Deferred→Prop
 |mark (id r):w.heap[r]? =some (.deferred (some []))→ ¬M r→lb≤r→DfR lb β w M (.mark id) {target:=.collected r,args:= #[]}
 |call (f args vs):FV β w M args vs→DfR lb β w M (.call f args) {target:=.fn (.func f) #[],args:=vs}
def Iy(lb:Nat)(β:Ag)(w:World)(M:Nat→Prop):List Df→List Deferred→Prop
 |[],[]=>True
 |d::l,e::m=>DfR lb β w M d e∧Iy lb β w M l m∧ ∀e'∈m,∀r,e.target=.collected r→e'.target≠ .collected r
 |_,_=>False
variable{lb:Nat}{M':Nat→Prop}
theorem DfR.mono(hβ:Le β β')(hp:DX A M w M' w'){d:Df}{e:Deferred}(h:DfR lb β w M d e):DfR lb β' w' M' d e:=by
 cases h with
 |mark id r h1 h2 h3=>exact .mark id r (by rw[hp.rg r (AH h1) (.inl h2)];exact h1) (hp.sub' (AH h1) h2) h3
 |call f args vs h1=>exact .call f args vs (h1.mono hβ hp)
theorem Iy.mono(hβ:Le β β')(hp:DX A M w M' w'): ∀{l:List Df} {m:List Deferred},Iy lb β w M l m→Iy lb β' w' M' l m
 |[],[],_=>trivial
 |_::_,_::_,h=>⟨h.1.mono hβ hp,Iy.mono hβ hp h.2.1,h.2.2⟩
 |[],_::_,h=>h.elim
 |_::_,[],h=>h.elim
theorem Iy.marks{lb:Nat}: ∀{l:List Df} {m:List Deferred},Iy lb β w M l m→ ∀e∈m,∀r,e.target=.collected r→r<w.heap.size
 |[],[],_,e,he,_,_=>by cases he
 |d::l,e'::m,h,e,he,r,hr=>by
  rcases DO.1 he with rfl|he
  .obtain⟨h1,_,_⟩:=h;cases h1 with
   |mark id r' h2 _ _=>simp only[Target.collected.injEq]at hr;subst hr;exact AH h2
   |call f args vs _=>cases hr
  .exact Iy.marks h.2.1 e he r hr
 |[],_::_,h,_,_,_,_=>h.elim
 |_::_,[],h,_,_,_,_=>h.elim
structure KV(A:Nat→Prop)(β:Ag)(w:World)(nt:NT)(env:Nat→AV)(defs:List Df)(h:AB)(a:Act):Prop where
 sz:a.tmps.size=nt.n
 env:Iw β w (MS A β h) env fun t=>a.tmps.getD t Go.undef
 defs:Iy nt.lb β w (MS A β h) defs a.defers
variable{nt:NT}{env:Nat→AV}{defs:List Df}{a:Act}
theorem KV.congr{h:AB}(e: ∀id,h.get id=h2.get id)(s:KV A β w nt env defs h a):KV A β w nt env defs h2 a:=
 ⟨s.sz,by rw[←MS.congr e];exact s.env,by rw[←MS.congr e];exact s.defs⟩
theorem KV.mono(s:KV A β w nt env defs h a)(hβ:Le β β')(hp:DX A (MS A β h) w (MS A β' h') w'):KV A β' w' nt env defs h' a:=
 ⟨s.sz,s.env.mono hβ hp,s.defs.mono hβ hp⟩
def Ov(e:Nat→AV)(dst:Option Tmp)(v:AV)(t:Nat):AV:=match dst with
 |some d=>if d=t then v else e t
 |none=>e t
theorem Yt(e:BT)(dst:Option Tmp)(v:AV):(B8 e dst v).get=Ov e.get dst v:=by
 funext t;cases dst with
 |none=>rfl
 |some d=>simp[B8,Ov,BT.get_cons]
theorem sj(a:Act)(dst:Option Tmp)(u:Value):(a.put dst u).tmps.size=a.tmps.size:=by
 cases dst<;>simp[Act.put]
theorem Yv(a:Act)(dst:Option Tmp)(u:Value):(a.put dst u).defers=a.defers:=by
 cases dst<;>rfl
theorem KV.put{nt:NT}{env:Nat→AV}{defs:List Df}{a:Act}(s:KV A β w nt env defs h a){dst:Option Tmp}(hd: ∀d,dst=some d→d<nt.n){v:AV}{u:Value}(hv:VR β w (MS A β h) v u):
 KV A β w nt (Ov env dst v) defs h (a.put dst u):=by
 refine⟨by rw[sj];exact s.sz,fun t=>?_,by rw[Yv];exact s.defs⟩;cases dst with
 |none=>exact s.env t
 |some d=>
  have hlt:d<a.tmps.size:=by rw[s.sz];exact hd d rfl
  simp only[Ov,Act.put];by_cases e:d=t
  .subst e;simp[hlt];exact hv
  .have:=s.env t;simp only[Ci e];rw[F3,HW e,←F3];exact this
abbrev FF(ro:Option Nat):Fence:={Fence.wide with round:=ro}
def za(β:Ag)(w:World)(M:Nat→Prop):AZ→Ending→Prop
 |.ret v,.returned u=>VR β w M v u
 |.f9 v,.panicked chain=> ∃u,chain=[{v:=u,recovered:=false}]∧VR β w M v u
 |_,_=>False
def ND(A:Nat→Prop)(bi:Option (List Nat))(π:List Nat)(β:Ag)(w:World)(h:AB)(r:AZ×AB)(e:Ending)(w':World):Prop:=
 ∃β',BM A bi π β w h β' w' r.2∧za β' w' (MS A β' r.2) r.1 e
def Gl(l:Loop)(vs:Array Value):Array Value:=(l.params.zip vs).foldl (fun tmps (x:Nat×Value)=>tmps.setIfInBounds x.1 x.2) l.tmps
def OH(P:Program)(A:Nat→Prop)(t:zl)(args:List AV)(h:AB)(π:List Nat)(bi:Option (List Nat))(r:AZ×AB)(β:Ag):Prop:=
 ∀(w:World) (vs:Array Value),HR A β w h→EU β π→FV β w (MS A β h) args vs→
  match t with
  |.fn f=>Calls P f vs w (ND A bi π β w h r)
  |.round id lp=>lp.params.length=args.length∧ ∀(k:Po) (l:Loop),h.get id=some (.loop lp)→β id=some k→w.heap[k.b]? =some (.loop l)→
   RoundIn Fence.wide 0 P k.b l.fn (Gl l vs) l.assign l.body w (ND A bi π β w h r)
def J2(P:Program)(f:FuncId):Prop:= ∃fn c,P.funcs[f]? =some fn∧fn.body=some c∧(fn.name== "runtime.NumGoroutine")=false
def LW(W:Lp→Prop)(h:AB):Prop:= ∀id r,h.get id=some (.loop r)→W r
structure eK(P:Program)(W:Lp→Prop)(t:zl)(args:List AV)(h:AB)(π:List Nat)(raw:Bool)(bi:Option (List Nat))(r:AZ×AB):Prop where
 ent: ∀f,t=.fn f→J2 P f
 rw:raw=true→(∀id lp,t=.round id lp→W lp)→LW W h→ ∀A β,OH P A t args h π bi r β
 pu:raw=false→h=[]→bi=none→ ∀A,OH P A t args [] π none r fun _=>none
 ids:raw=false→h=[]→bi=none→π=[]→ ∀v,r.1=.ret v→AD v=[]∧r.2=[]
 lw:(∀id lp,t=.round id lp→W lp)→LW W h→LW W r.2
def Cn(P:Program)(W:Lp→Prop)(K:AK):Prop:=
 ∀(t:zl) (args:List AV) (h:AB) (π:List Nat) (raw:Bool) (bi:Option (List Nat)) (r:AZ×AB),K t args h π raw bi=.ok r→eK P W t args h π raw bi r
variable{δ:AB}
theorem ZT{ρ:List Nat}(h:JS (some ρ) δ=true): ∀p∈δ,ρ<:+p.1:=fun p hp=>
 (Id.under_iff _ _).1 (Ce.1 h p hp)
theorem JF{δ:AB}(hle:Le β β')(hnew: ∀id,β' id≠none→β id≠none∨ρ<:+id)(H':HR A β' w' (h.puts δ))(hp:DX A (MS A β h) w (MS A β' (h.puts δ)) w')(hc:Chg β w β' w' δ)
 (hw:JS bi δ=true):BM A bi ρ β w h β' w' (h.puts δ):=by
 have hout: ∀id,¬ρ<:+id→β' id=β id:=by
  intro id hi;cases hb:β id with
  |some k=>exact hle id k hb
  |none=>
   cases hb':β' id with
   |none=>rfl
   |some k=>exact absurd (hnew id (by rw[hb'];simp)) (by simp[hb,hi])
 refine⟨hout,H',hp,fun σ hσ hg=>?_⟩;have hδ: ∀p∈δ,∀k,β p.1=some k→σ<:+p.1:=by
  intro p hp k hk;rcases hg with hg|hg
  .subst hg;exact ZT hw p hp
  .exact hg p.1 (by rw[hk];simp)
 refine⟨fun b hb hu=>hc.1 b hb fun p hp k hk e=>hu ⟨p.1,k,hδ p hp k hk,hk,e⟩,?_,fun id hi=>?_⟩
 .rintro b ⟨id,k,h1,h2,rfl⟩;rcases hc.2 id k h2 with h3|h3|⟨p,hp,k',h3,h4⟩
  .exact .inl ⟨id,k,h1,h3,rfl⟩
  .exact .inr h3
  .exact .inl ⟨p.1,k',hδ p hp k' h3,h3,h4⟩
 .rcases HJ δ h id with⟨h1,_⟩|⟨p,h1,rfl,h3⟩
  .exact h1
  .refine absurd ?_ hi;rcases hg with hg|hg
   .subst hg;exact ZT hw p h1
   .obtain⟨k,hk,_⟩:=H'.obj p.1 p.2 h3;by_cases e:ρ<:+p.1
    .exact hσ.trans e
    .rw[hout _ e]at hk;exact hg p.1 (by rw[hk];simp)
def Aft(A:Nat→Prop)(bi:Option (List Nat))(π:List Nat)(nt:NT)(β:Ag)(w:World)(h:AB)(env:Nat→AV)(defs:List Df)(h':AB)(a':Act)(w':World):Prop:=
 ∃β',BM A bi π β w h β' w' h'∧KV A β' w' nt env defs h' a'
theorem sf{ro:Option Nat}{o:Oper}{eff:Br}(H:HR A β w h)(hf:EU β ρ)(s:KV A β w nt env defs h a)
 (hd: ∀d,o.dst=some d→d<nt.n) (hdf: ∀c,o.op≠ .defer c) (ho:evalOp (Bb P mix) env h.get ρ o.op=some eff) (hw:JS bi eff.δ=true) {next:Act→World→Prop} {Q:Exit→Act→World→Prop}
 (hn: ∀a' w',Aft A bi ρ nt β w h (Ov env o.dst eff.v) defs (h.puts eff.δ) a' w'→next a' w'):o.wpIn (FF ro) 0 P a w next Q:=by
 obtain⟨n,v,w',β',hr,hnv,hle,hnew,H',hp,hv,hc⟩:=hQ (P:=P) (mix:=mix) H hf s.env rfl ho;have g:=JF (bi:=bi) hle hnew H' hp hc hw;have fin:next (a.put o.dst v) w':=hn _ _ ⟨β',g,(s.mono hle hp).put hd hv⟩
 refine⟨fun _ _=>trivial,?_⟩;rw[Oper.semAt_eq _ _ _ hdf,hr];rcases hnv with rfl|⟨rfl,rfl⟩
 .exact fin
 .exact fin
variable{A:Nat→Prop}{P:Program}{mix:List TypeId}{β:Ag}{w:World}{M:Nat→Prop}
theorem FG{A M:Nat→Prop}(h: ∀b,M' b→M b)(w:World):DX A M w M' w:=⟨fun _ _ _=>rfl,D6 _,fun b hb=>.inl (h b hb),rfl,rfl⟩
theorem Ni{vs:List AV}(h:Au vs=[]): ∀x∈vs,AD x=[]:=by
 induction vs with
 |nil=>simp
 |cons v vs ih=>
  simp only[Au,Ms]at h;intro x hx;rcases DO.1 hx with rfl|hx
  .exact h.1
  .exact ih h.2 x hx
variable{x:AV}{v:Value}
theorem VR.noIds{β':Ag}(hM: ∀b,M' b→M b)(h:VR β w M x v)(hi:AD x=[]):VR β' w M' x v:=by
 induction h with
 |d h=>exact .d (h.mono (A:=fun _=>False) (FG hM w))
 |co=>exact .co
 |emp a=>exact .emp a
 |f8 id off len k a cap hk hn hl ha=>simp[AD]at hi
 |ptr id off k hk=>simp[AD]at hi
 |i7 id i off k hk=>simp[AD]at hi
 |ol cs b off c elem fr hb hm hl hd=>exact .ol cs b off c elem fr hb (fun h=>hm (hM _ h)) hl fun i x v h1 h2=>(hd i x v h1 h2).mono (A:=fun _=>False) (FG hM w)
 |fn f a b a' b' h1 h2 _ _ ih1 ih2=>
  simp only[AD,Ms]at hi;exact .fn f a b a' b' h1 h2 (fun i x v hx hv=>ih1 i x v hx hv (Ni hi.1 x (Ac hx))) (fun i x v hx hv=>ih2 i x v hx hv (Ni hi.2 x (Ac hx)))
 |v6 id k hk=>simp[AD]at hi
 |mp id k hk=>simp[AD]at hi
 |iface t v u _ ih=>simp only[AD]at hi;exact .iface t v u (ih hi)
 |agg cs c h1 _ ih=>simp only[AD]at hi;exact .agg cs c h1 fun i x v hx hv=>ih i x v hx hv (Ni hi x (Ac hx))
 |it cs c h1 _ ih=>simp only[AD]at hi;exact .it cs c h1 fun i x v hx hv=>ih i x v hx hv (Ni hi x (Ac hx))
 |undef v=>exact .undef v
def JV(h δ:AB)(p:Id×Obj):Prop:=
 (∃sz es,p.2=.i5 sz es∧h.get p.1=some (.d7 sz es))∨
 ∃sz es ds,p.2=.i5 sz ds∧h.get p.1=some (.arr sz es)∧Cb h.get es=some ds∧ ∀q∈es.flatMap (Ba h.get),q∈δ
theorem JV.i5{h:AB}{p:Id×Obj}(m:JV h δ p):p.2.mut=false:=by
 rcases m with⟨_,_,h,_⟩|⟨_,_,_,h,_⟩<;>rw[h]<;>rfl
theorem NK{h δ:AB}(hm: ∀p∈δ,p.2.mut=false){vs:List AV}(hsub: ∀p∈Ba h.get vs,p∈δ){xs:List AR}(hx:CU h.get vs=some xs):
 ∀v∈vs,∀id∈E8 v,FR (h.puts δ) id:=by
 intro v hv id hid o ho;cases v with
 |f8 id' off n=>
  simp only[E8,As]at hid;subst hid;obtain⟨i,hi,hvi⟩:=Pu.1 hv;obtain⟨q1,q2⟩:=Db hx;have hfc:=q2 i _ (xs[i]'(by omega)) (BV hi) (BV (by omega));rw[hvi]at hfc;rcases HJ δ h id with⟨h1,h2⟩|⟨p,h1,h2,h3⟩
  .simp only[Ee]at hfc;split at hfc
   .rename_i sz es hg;exact absurd rfl (h2 (id,.i5 sz es) (hsub _ (Bv.2 ⟨_,hv,by simp[JI,hg]⟩)))
   .rename_i sz es hg;rw[h1,hg]at ho;cases ho;rfl
   .cases hfc
  .rw[h3]at ho;cases ho;exact hm p h1
 |_=>simp[E8]at hid
theorem Hx{h δ:AB}(hm: ∀p∈δ,JV h δ p):Frz h (h.puts δ):=by
 refine⟨fun id=>?_⟩;rcases HJ δ h id with⟨h1,_⟩|⟨p,h1,h2,h3⟩
 .exact .inl h1
 .subst h2;rcases hm p h1 with⟨sz,es,h4,h5⟩|⟨sz,es,ds,h4,h5,h6,h7⟩
  .exact .inr (.inl ⟨sz,es,h5,by rw[h3,h4]⟩)
  .refine .inr (.inr ⟨sz,es,ds,h5,by rw[h3,h4],h6,?_⟩);exact NK (fun p hp=>(hm p hp).i5) (fun q hq=>by
    obtain⟨v,hv,hq⟩:=Bv.1 hq;obtain⟨e,he,hv⟩:=Lw.1 hv;exact h7 q (Bv.2 ⟨e,he,Bv.2 ⟨v,hv,hq⟩⟩)) (EA h6)
theorem rq{h δ:AB}{v:AV}(hs: ∀p∈E1 h.get v,p∈δ): ∀p∈E1 h.get v,JV h δ p:=by
 intro p hp;cases v with
 |f8 id off n=>
  simp only[E1]at hp hs;split at hp
  .rename_i sz es hg;simp at hp;subst hp;exact .inl ⟨sz,es,rfl,hg⟩
  .rename_i sz es hg;split at hp
   .rename_i ds hds;rcases DO.1 hp with rfl|hp
    .refine .inr ⟨sz,es,ds,rfl,hg,hds,fun q hq=>hs q ?_⟩;simp only[hg,hds];exact FD _ hq
    .obtain⟨e,_,hp⟩:=Bv.1 hp;exact .inl (IX hp)
   .cases hp
  .cases hp
 |_=>simp[E1]at hp
theorem Ly{h:AB}{as:List AV}: ∀p∈as.flatMap (mark h.get),JV h (as.flatMap (mark h.get)) p:=by
 intro p hp;obtain⟨v,hv,hp⟩:=Bv.1 hp;obtain⟨c,hc,hp⟩:=Bv.1 hp;exact rq (fun q hq=>Bv.2 ⟨v,hv,Bv.2 ⟨c,hc,hq⟩⟩) p hp
def FzD(h h':AB)(v:AV):Prop:= ∀id∈E8 v,FR h' id∧ ∀sz es,h.get id=some (.arr sz es)→ ∀v'∈es.flatten,∀id'∈E8 v',FR h' id'
theorem wB{h h':AB}(H:HR A β w h)(hs:V7 h h'){v:AV}{u:Value}{x:AR}(hv:VR β w (MS A β h) v u)(hx:DJ h.get v=some x)(hf:FzD h h' v):DR w (MS A β h') x u:=by
 unfold DJ at hx;split at hx
 .rename_i id off n;have hfz:=(hf id (by simp[E8])).1;split at hx
  .rename_i sz es hg;split at hx
   .rename_i ds hds;cases hv with
    |f8 _ _ _ k a cap hk hn hl ha=>
     have ha':a=some ⟨k.b,off*k.sz,none⟩∨n=0:=ha.imp (fun h=>h) (fun h=>by omega);obtain⟨k',hk',c,elem,h1,h2,h3,h4,h5,h6,h7⟩:=H.obj id _ hg;rw[hk]at hk';cases hk';simp only[BI]at hx;obtain⟨l,hl',rfl⟩:=hx;subst h2;obtain⟨q1,q2⟩:=Db (EA hds);refine O3 h1 (hfz.notMS H hs hk hg (.inl rfl)) (KD hds h5) (by rw[(Gi hds).1];exact h6) (fun i x v a b=>?_) hl' ha' hl;have hi:i<es.flatten.length:=by rw[←q1];exact(BE.1 a).1
     exact Lj H hs (h7 i _ v (BV hi) b) (q2 i _ x (BV hi) a) ((hf id (by simp[E8])).2 _ es hg _ (MD hi))
   .cases hx
  .exact Lj H hs hv hx fun id hid=>(hf id hid).1
 .exact Lj H hs hv hx fun id hid=>(hf id hid).1
theorem qT{h δ:AB}(hm: ∀p∈δ,JV h δ p){v:AV}{x:AR}(hx:DJ h.get v=some x)(hs: ∀p∈E1 h.get v,p∈δ):FzD h (h.puts δ) v:=by
 intro id hid;cases v with
 |f8 id' off n=>
  simp only[E8,As]at hid;subst hid;have hfr: ∀p∈δ,p.2.mut=false:=fun p hp=>(hm p hp).i5;unfold DJ at hx;simp only[E1]at hs;refine⟨fun o ho=>?_,fun sz es hg=>?_⟩
  .rcases HJ δ h id with⟨h1,h2⟩|⟨p,h1,h2,h3⟩
   .rw[h1]at ho;cases o with
    |i5 sz es=>rfl
    |d7 sz es=>
     simp only[ho]at hs;exact absurd rfl (h2 _ (hs _ (As.2 rfl)))
    |arr sz es=>
     simp only[ho]at hx hs;cases hds:Cb h.get es with
     |none=>rw[hds]at hx;cases hx
     |some ds=>
      simp only[hds]at hs;exact absurd rfl (h2 _ (hs _ (II ..)))
    |box cs=>simp[ho,Ee]at hx
    |map es=>simp[ho,Ee]at hx
    |loop r=>simp[ho,Ee]at hx
   .rw[h3]at ho;cases ho;exact hfr p h1
  .simp only[hg]at hx hs;cases hds:Cb h.get es with
   |none=>rw[hds]at hx;cases hx
   |some ds=>
    simp only[hds]at hs;exact NK hfr (fun q hq=>by
     obtain⟨v,hv,hq⟩:=Bv.1 hq;obtain⟨e,he,hv⟩:=Lw.1 hv;exact hs q (FD _ (Bv.2 ⟨e,he,Bv.2 ⟨v,hv,hq⟩⟩))) (EA hds)
 |_=>simp[E8]at hid
theorem Mg{g:G}: ∀{vs xs:List AV},GJ g vs=some xs→xs.length=vs.length∧ ∀(i:Nat) (v x:AV),vs[i]? =some v→xs[i]? =some x→ ∃y,x=.d y∧DJ g v=some y
 |[],xs,h=>by simp[GJ]at h;subst h;simp
 |v::vs,xs,h=>by
  simp only[GJ]at h;split at h
  .rename_i x xs' h1 h2;cases h;obtain⟨i1,i2⟩:=Mg h2;refine⟨by simp[i1],fun i v' x' hv hx=>?_⟩;cases i with
   |zero=>simp at hv hx;subst hv hx;exact⟨x,rfl,h1⟩
   |succ i=>simp at hv hx;exact i2 i v' x' hv hx
  .cases h
variable{u:Value}
theorem XY{h h':AB}(H:HR A β w h)(hsub:V7 h h'){v:AV}(hv:VR β w (MS A β h) v u)(hx:Dz h.get v=some x)(hs: ∀c∈Jy v,∀y,DJ h.get c=some y→FzD h h' c):
 VR β w (MS A β h') x u∧AD x=[]:=by
 have cell: ∀{v:AV} {u:Value} {y:AR},VR β w (MS A β h) v u→DJ h.get v=some y→(∀y,DJ h.get v=some y→FzD h h' v)→DR w (MS A β h') y u:=
  fun hv hx hs=>wB H hsub hv hx (hs _ hx)
 have cells: ∀{cs xs:List AV} {c:Array Value},cs.length=c.size→(∀(i:Nat) (x:AV) (v:Value),cs[i]? =some x→c[i]? =some v→VR β w (MS A β h) x v)→GJ h.get cs=some xs→(∀v∈cs,∀y,DJ h.get v=some y→FzD h h' v)→
  VR β w (MS A β h') (.agg xs) (.agg c)∧Au xs=[]:=by
  intro cs xs c hl hc hx hs;obtain⟨q1,q2⟩:=Mg hx;have hget: ∀(i:Nat) (x:AV),xs[i]? =some x→ ∃v y,cs[i]? =some v∧x=.d y∧DJ h.get v=some y:=by
   intro i x hx;have hi:i<cs.length:=by rw[←q1];exact(BE.1 hx).1
   obtain⟨y,h1,h2⟩:=q2 i _ x (BV hi) hx;exact⟨_,y,BV hi,h1,h2⟩
  refine⟨.agg _ _ (by rw[q1];exact hl) fun i x v hx hv=>?_,?_⟩
  .obtain⟨v',y,h1,rfl,h2⟩:=hget i x hx;exact .d (cell (hc i v' v h1 hv) h2 (hs v' (Ac h1)))
  .rw[List.eq_nil_iff_forall_not_mem];intro id hid;obtain⟨x,hx,hid⟩:=LB hid;obtain⟨i,hi⟩:=NL.1 hx;obtain⟨_,y,_,rfl,_⟩:=hget i x hi;simp[AD]at hid
 have other: ∀{v x:AV} {u:Value},VR β w (MS A β h) v u→(DJ h.get v).map AV.d=some x→(∀y,DJ h.get v=some y→FzD h h' v)→VR β w (MS A β h') x u∧AD x=[]:=by
  intro v x u hv hx hs;simp only[BI]at hx;obtain⟨y,hy,rfl⟩:=hx;exact⟨.d (cell hv hy hs),rfl⟩
 unfold Dz at hx;split at hx
 .rename_i cs;simp only[BI]at hx;obtain⟨xs,hxs,rfl⟩:=hx;cases hv with
  |agg _ c hl hc=>
   obtain⟨h1,h2⟩:=cells hl hc hxs fun v hv=>hs v hv;exact⟨h1,h2⟩
 .cases hx;cases hv with
  |fn f a b a' b' h1 h2 h3 h4=>
   exact⟨.fn _ [] [] a' b' h1 h2 (fun _ _ _ h=>by simp at h) (fun _ _ _ h=>by simp at h),rfl⟩
 .rename_i t cs;simp only[BI]at hx;obtain⟨xs,hxs,rfl⟩:=hx;cases hv with
  |iface _ _ u hv=>
   cases hv with
   |agg _ c hl hc=>
    obtain⟨h1,h2⟩:=cells hl hc hxs fun v hv=>hs v hv;exact⟨.iface _ _ _ h1,h2⟩
 .rename_i t v' hne;simp only[BI]at hx;obtain⟨y,hy,rfl⟩:=hx;cases hv with
  |iface _ _ u hv=>
   have hp:Jy (.iface t v')=[v']:=by
    cases v'<;>first|rfl|exact absurd rfl (hne _)
   rw[hp]at hs;exact⟨.iface _ _ _ (.d (cell hv hy (hs v' (by simp)))),rfl⟩
 .rename_i h1 h2 h3 h4;have hp:Jy v=[v]:=by
   cases v<;>first|rfl|exact absurd rfl (h1 _)|exact absurd rfl (h4 _ _)
  rw[hp]at hs;exact other hv hx (hs v (by simp))
theorem VJ{h:AB}(H:HR A β w h)(hm: ∀p∈δ,JV h δ p){v:AV}(hv:VR β w (MS A β h) v u)(hx:Dz h.get v=some x)(hs: ∀p∈mark h.get v,p∈δ):
 VR β w (MS A β (h.puts δ)) x u∧AD x=[]:=
 XY H (Hx hm).sub hv hx fun c hc _ hy=>qT hm hy fun p hp=>hs p (Bv.2 ⟨c,hc,hp⟩)
theorem Xc{h:AB}(H:HR A β w h){v:AV}(hv:VR β w (MS A β h) v u)(hx:Dz h.get v=some x):VR β w (MS A β []) x u∧AD x=[]:=
 XY H (V7.nil h) hv hx fun _ _ _ _ _ _=>⟨FR.nil _,fun _ _ _ _ _ _ _=>FR.nil _⟩
theorem Oa{g:G}: ∀{vs xs:List AV},DQ g vs=some xs→xs.length=vs.length∧ ∀(i:Nat) (v x:AV),vs[i]? =some v→xs[i]? =some x→Dz g v=some x
 |[],xs,h=>by simp[DQ]at h;subst h;simp
 |v::vs,xs,h=>by
  simp only[DQ]at h;split at h
  .rename_i x xs' h1 h2;cases h;obtain⟨i1,i2⟩:=Oa h2;refine⟨by simp[i1],fun i v' x' hv hx=>?_⟩;cases i with
   |zero=>simp at hv hx;subst hv hx;exact h1
   |succ i=>simp at hv hx;exact i2 i v' x' hv hx
  .cases h
variable{c:Array Value}
theorem wC{h:AB}(H:HR A β w h)(hm: ∀p∈δ,JV h δ p){vs xs:List AV}(hv:FV β w (MS A β h) vs c)(hx:DQ h.get vs=some xs)(hs: ∀v∈vs,∀p∈mark h.get v,p∈δ):
 FV β w (MS A β (h.puts δ)) xs c∧ ∀x∈xs,AD x=[]:=by
 obtain⟨q1,q2⟩:=Oa hx;have key: ∀(i:Nat) (x:AV) (hi:xs[i]? =some x),∃v,vs[i]? =some v∧Dz h.get v=some x:=by
  intro i x hi;have hlt:i<vs.length:=by rw[←q1];exact(BE.1 hi).1
  exact⟨_,BV hlt,q2 i _ x (BV hlt) hi⟩
 refine⟨⟨by rw[q1];exact hv.1,fun i x v hx hv'=>?_⟩,fun x hx=>?_⟩
 .obtain⟨y,h1,h2⟩:=key i x hx;exact(VJ H hm (hv.2 i y v h1 hv') h2 (hs y (Ac h1))).1
 .obtain⟨i,hi⟩:=NL.1 hx;obtain⟨y,h1,h2⟩:=key i x hi;have hlt:i<c.size:=by rw[←hv.1];exact(BE.1 h1).1
  exact(VJ H hm (hv.2 i y _ h1 (D2 hlt)) h2 (hs y (Ac h1))).2
theorem fS{h:AB}(H:HR A β w h)(hm: ∀p∈δ,JV h δ p){vs:List AV}(hv:FV β w (MS A β h) vs c)(hs: ∀v∈vs,∀p∈mark h.get v,p∈δ):
 FV β w (MS A β (h.puts δ)) (LV h.get vs) c:=by
 refine⟨by simp[LV,hv.1],fun i x v hx hv'=>?_⟩;simp only[LV,Cs,BI]at hx;obtain⟨y,h1,rfl⟩:=hx;cases hf:Dz h.get y with
 |none=>exact(hv.2 i y v h1 hv').mono (.refl β) (Hx hm).sub.ip
 |some x=>exact(VJ H hm (hv.2 i y v h1 hv') hf (hs y (Ac h1))).1
variable{w':World}
theorem Nb{x:AR}(hf:Dg x=true)(h:DR w M x v):DR w' M' x v:=by
 cases h with
 |int k n=>exact .int k n
 |bool b=>exact .bool b
 |str s=>exact .str s
 |ut=>exact .ut
 |i9=>exact .i9
 |lc=>exact .lc
 |rc=>exact .rc
 |wl a cap=>simp[Dg]at hf
 |ce es=>simp[Dg]at hf
theorem XQ: ∀{l:List AV},E0 l=true→ ∀x∈l,∃y,x=.d y∧Dg y=true
 |[],_,x,hx=>by cases hx
 |v::l,h,x,hx=>by
  cases v with
  |d y=>
   simp only[E0,AP]at h;rcases DO.1 hx with rfl|hx
   .exact⟨y,rfl,h.1⟩
   .exact XQ h.2 x hx
  |_=>simp[E0]at h
theorem Px{β':Ag}(hf:flat x=true)(h:VR β w M x v):VR β' w' M' x v:=by
 have cells: ∀{cs:List AV} {c:Array Value},E0 cs=true→(∀(i:Nat) (x:AV) (v:Value),cs[i]? =some x→c[i]? =some v→VR β w M x v)→
  ∀(i:Nat) (x:AV) (v:Value),cs[i]? =some x→c[i]? =some v→VR β' w' M' x v:=by
  intro cs c hf hc i x v hx hv;obtain⟨y,rfl,hy⟩:=XQ hf x (Ac hx);cases hc i _ v hx hv with|d hd=>exact .d (Nb hy hd)
 cases h with
 |d hd=>exact .d (Nb hf hd)
 |co=>exact .co
 |emp a=>exact .emp a
 |agg cs c hl hc=>exact .agg cs c hl (cells hf hc)
 |it cs c hl hc=>exact .it cs c hl (cells hf hc)
 |iface t v u hv=>
  cases hv with
  |d hd=>exact .iface _ _ _ (.d (Nb hf hd))
  |agg cs c hl hc=>exact .iface _ _ _ (.agg cs c hl (cells hf hc))
  |_=>simp[flat]at hf
 |_=>simp[flat]at hf
variable{A:Nat→Prop}{P:Program}{mix:List TypeId}{β β' β'':Ag}{w w' w'':World}{M:Nat→Prop}{h h' h'':AB}{π ρ:List Nat}{bi:Option (List Nat)}{nt:NT}{env:Nat→AV}{defs:List Df}{a:Act}
theorem Jl{f:FuncId}(he:J2 P f)(args:Array Value):(callFunc f args).run P w=.ok (.enter f args) w:=by
 obtain⟨fn,c,h1,h2,h3⟩:=he;have h3':fn.name≠ "runtime.NumGoroutine" :=by simpa using h3
 simp[callFunc,h1,h2,h3']
variable{A1:Nat→Prop}
theorem HR.none(ha: ∀b,A1 b→b<w.heap.size):HR A1 (fun _=>none) w []:=
 ⟨fun _ _ h=>by simp at h,fun _ _ _ _ _ _ h=>by simp at h,fun _ _ h=>(by cases h),fun _ _ _ h=>by simp at h,ha⟩
theorem Zd{b:Nat}:MS A1 β [] b↔A1 b:=by simp[MS]
theorem HR.less(H:HR A β w h)(hs: ∀id o,h'.get id=some o→h.get id=some o):HR A β w h':=by
 have hsub: ∀b,MS A β h' b→MS A β h b:=by
  rintro b (hb|⟨id,o,k,h1,h2,h3,h4⟩)
  .exact .inl hb
  .exact .inr ⟨id,o,k,hs id o h1,h2,h3,h4⟩
 refine⟨fun id o ho=>?_,fun a b oa ob ka kb ha hb=>H.inj a b oa ob ka kb (hs _ _ ha) (hs _ _ hb),H.wt,fun id o k ho=>H.out id o k (hs _ _ ho),H.abnd⟩;obtain⟨k,hk,hr⟩:=H.obj id o (hs _ _ ho);exact⟨k,hk,hr.mono (.refl β) (FG (A:=A) hsub w) (H.wt id k hk) rfl⟩
theorem Qt(K:Id→Bool)(h:AB)(id:Id):AB.get (h.filter fun p=>K p.1) id=if K id then h.get id else none:=by
 induction h with
 |nil=>simp
 |cons p h ih=>
  obtain⟨k,o⟩:=p;rw[Rd,AB.get_cons];by_cases e:k=id
  .subst e;cases hk:K k with
   |true=>simp[AB.get_cons]
   |false=>rw[Ci (by simp[hk]),ih];simp[hk]
  .rw[Ci e,←ih];split
   .rw[AB.get_cons,Ci e]
   .rfl
def KF(ρ:List Nat)(id:Id):Bool:=match id with|0::l=> !Id.under ρ l|_=>true
theorem VL{id:Id}(hc:KF ρ id=false):ρ<:+id:=by
 unfold KF at hc;split at hc
 .rename_i l;have:Id.under ρ l=true:=by simpa using hc
  exact((Id.under_iff ρ l).1 this).trans (ES 0 l)
 .cases hc
theorem VM(h:AB)(id:Id):(gc ρ h).get id=h.get id∨((gc ρ h).get id=none∧ρ<:+id):=by
 have e:gc ρ h=h.filter fun p=>KF ρ p.1:=rfl;rw[e,Qt (KF ρ)];cases hc:KF ρ id with
 |true=>exact .inl rfl
 |false=>exact .inr ⟨rfl,VL hc⟩
theorem Lk{id:Id}{o:Obj}(hg:(gc ρ h).get id=some o):h.get id=some o:=by
 rcases VM (ρ:=ρ) h id with e|⟨e,_⟩
 .rw[←e];exact hg
 .rw[e]at hg;cases hg
theorem BM.gc(g:BM A bi ρ β w h β' w' h'):BM A bi ρ β w h β' w' (gc ρ h'):=by
 refine⟨g.out,g.hr.less fun id o=>Lk,⟨g.ip.rg,g.ip.size,fun b hb=>g.ip.sub b ?_,g.ip.io⟩,fun σ hσ hg=>?_⟩
 .rcases hb with hb|⟨id,o,k,h1,h2,h3,h4⟩
  .exact .inl hb
  .exact .inr ⟨id,o,k,Lk h1,h2,h3,h4⟩
 .obtain⟨a1,a2,a3⟩:=g.kept σ hσ hg;refine⟨a1,a2,fun id hi=>?_⟩;rcases VM (ρ:=ρ) h' id with e|⟨_,e⟩
  .rw[e];exact a3 id hi
  .exact absurd (hσ.trans e) hi
theorem HR.same(H:HR A β w h)(hall: ∀b,b<w.heap.size→w'.heap[b]? =w.heap[b]?)(hz:w.heap.size≤w'.heap.size)(hio:w'.os=w.os∧w'.output=w.output):HR A β w' h:=
 H.step (.refl β) ⟨fun b hb _=>hall b hb,hz,fun _ h=>.inl h,hio⟩ (fun id o ho=>.inl ⟨ho,fun k hk=>hall k.b (H.wt id k hk)⟩) H.inj (fun id k hk=>Lm (H.wt id k hk) hz) H.out
theorem Jq(H:HR A β w h)(hall: ∀b,b<w.heap.size→w'.heap[b]? =w.heap[b]?)(hz:w.heap.size≤w'.heap.size)(hio:w'.os=w.os∧w'.output=w.output):BM A bi ρ β w h β w' h:=
 ⟨fun _ _=>rfl,H.same hall hz hio,⟨fun b hb _=>hall b hb,hz,fun _ h=>.inl h,hio⟩,fun _ _ _=>⟨fun b hb _=>hall b hb,fun _ hb=>.inl hb,fun _ _=>rfl⟩⟩
variable{h1:AB}
theorem tr(H1:HR A β w h1)(hall: ∀b,b<w.heap.size→w'.heap[b]? =w.heap[b]?)(hz:w.heap.size≤w'.heap.size)(hio:w'.os=w.os∧w'.output=w.output)(hf:EU β ρ)(H2:HR A1 β' w' h2)
 (hid: ∀id,β' id≠none→ρ<:+id) (hnew: ∀id k,β' id=some k→w.heap.size≤k.b) (hA: ∀b,MS A β h1 b→A1 b):
 ∃β2,Le β β2∧Le β' β2∧(∀id,¬ρ<:+id→β2 id=β id)∧(∀id k,β2 id=some k→β id=some k∨(ρ<:+id∧w.heap.size≤k.b))∧HR A β2 w' (h1++h2)∧(∀b,MS A β2 (h1++h2) b→MS A1 β' h2 b)∧
  DX A (MS A β h1) w (MS A β2 (h1++h2)) w':=by
 classical
 let β2:Ag:=fun id=>if ρ<:+id then β' id else β id
 have e1:Le β β2:=fun id k hk=>by
  have: ¬ρ<:+id:=fun hs=>by rw[hf id hs]at hk;cases hk
  simp only[β2,Ci this];exact hk
 have e2:Le β' β2:=fun id k hk=>by
  simp only[β2,D1 (hid id (by rw[hk];simp))];exact hk
 have e3: ∀id k,β2 id=some k→(ρ<:+id∧β' id=some k)∨(¬ρ<:+id∧β id=some k):=fun id k hk=>by
  by_cases e:ρ<:+id
  .simp only[β2,D1 e]at hk;exact .inl ⟨e,hk⟩
  .simp only[β2,Ci e]at hk;exact .inr ⟨e,hk⟩
 have o1: ∀id o,h1.get id=some o→ ¬ρ<:+id:=fun id o ho hs=>by
  obtain⟨k,hk,_⟩:=H1.obj id o ho;rw[hf id hs]at hk;cases hk
 have o2: ∀id o,h2.get id=some o→ρ<:+id:=fun id o ho=>by
  obtain⟨k,hk,_⟩:=H2.obj id o ho;exact hid id (by rw[hk];simp)
 have gt: ∀id o,(h1++h2).get id=some o→(h1.get id=some o∧ ¬ρ<:+id)∨(h2.get id=some o∧ρ<:+id):=by
  intro id o ho;rw[AB.get_append]at ho;cases hg:h1.get id with
  |some o'=>rw[hg]at ho;cases ho;exact .inl ⟨rfl,o1 id _ hg⟩
  |none=>rw[hg]at ho;exact .inr ⟨ho,o2 id _ ho⟩
 have hms: ∀b,MS A β2 (h1++h2) b→MS A1 β' h2 b:=by
  rintro b (hb|⟨id,o,k,q1,q2,q3,rfl⟩)
  .exact .inl (hA b (.inl hb))
  .rcases gt id o q1 with⟨g1,g2⟩|⟨g1,g2⟩<;>rcases e3 id k q3 with⟨g3,g4⟩|⟨g3,g4⟩
   .exact absurd g3 g2
   .exact .inl (hA k.b (.inr ⟨id,o,k,g1,q2,g4,rfl⟩))
   .exact .inr ⟨id,o,k,g1,q2,g4,rfl⟩
   .exact absurd g2 g3
 have hpr:DX A (MS A β h1) w (MS A β2 (h1++h2)) w':=by
  refine⟨fun b hb _=>hall b hb,hz,?_,hio⟩;rintro b (hb|⟨id,o,k,q1,q2,q3,rfl⟩)
  .exact .inl (.inl hb)
  .rcases gt id o q1 with⟨g1,g2⟩|⟨g1,g2⟩<;>rcases e3 id k q3 with⟨g3,g4⟩|⟨g3,g4⟩
   .exact absurd g3 g2
   .exact .inl (.inr ⟨id,o,k,g1,q2,g4,rfl⟩)
   .exact .inr (hnew id k g4)
   .exact absurd g2 g3
 refine⟨β2,e1,e2,fun id hi=>by simp only[β2,Ci hi],fun id k hk=>?_,⟨fun id o ho=>?_,?_,fun id k hk=>?_,fun id o k ho hm hk hb=>?_,fun b hb=>Lm (H1.abnd b hb) hz⟩,hms,hpr⟩
 .rcases e3 id k hk with⟨g1,g2⟩|⟨g1,g2⟩
  .exact .inr ⟨g1,hnew id k g2⟩
  .exact .inl g2
 .rcases gt id o ho with⟨g1,g2⟩|⟨g1,g2⟩
  .obtain⟨k,hk,hr⟩:=H1.obj id o g1;exact⟨k,e1 _ _ hk,hr.mono e1 hpr (H1.wt id k hk) (hall k.b (H1.wt id k hk))⟩
  .obtain⟨k,hk,hr⟩:=H2.obj id o g1;exact⟨k,e2 _ _ hk,hr.mono e2 (FG (A:=A) hms w') (H2.wt id k hk) rfl⟩
 .intro a b oa ob ka kb ha hb hma hmb hka hkb e;rcases gt a oa ha with⟨a1,a2⟩|⟨a1,a2⟩<;>rcases gt b ob hb with⟨b1,b2⟩|⟨b1,b2⟩<;>
   rcases e3 a ka hka with⟨a3,a4⟩|⟨a3,a4⟩<;>rcases e3 b kb hkb with⟨b3,b4⟩|⟨b3,b4⟩<;>try(first|exact absurd a3 a2|exact absurd b3 b2|exact absurd a2 a3|exact absurd b2 b3)
  .exact H1.inj a b oa ob ka kb a1 b1 hma hmb a4 b4 e
  .have:=H1.wt a ka a4;have:=hnew b kb b4;omega
  .have:=H1.wt b kb b4;have:=hnew a ka a4;omega
  .exact H2.inj a b oa ob ka kb a1 b1 hma hmb a4 b4 e
 .rcases e3 id k hk with⟨g1,g2⟩|⟨g1,g2⟩
  .exact H2.wt id k g2
  .exact Lm (H1.wt id k g2) hz
 .rcases gt id o ho with⟨g1,g2⟩|⟨g1,g2⟩<;>rcases e3 id k hk with⟨g3,g4⟩|⟨g3,g4⟩
  .exact absurd g3 g2
  .exact H1.out id o k g1 hm g4 hb
  .have:=H1.abnd _ hb;have:=hnew id k g4;omega
  .exact absurd g2 g3
theorem Mh(H:HR A β w h)(hm: ∀p∈δ,JV h δ p)(hw:JS bi δ=true):BM A bi ρ β w h β w (h.puts δ):=
 JF (.refl β) (fun _ hi=>.inl hi) ((Hx hm).hr H) (Hx hm).sub.ip (.refl _ _ _) hw
def Fs(A:Nat→Prop)(bi:Option (List Nat))(ρ:List Nat)(nt:NT)(β:Ag)(w:World)(h:AB)(env:Nat→AV)(defs:List Df)(a:Act)(h':AB):AZ→Ending→World→Prop
 |.ret v,.returned u,w'=> ∃β',BM A bi ρ β w h β' w' h'∧KV A β' w' nt env defs h' a∧VR β' w' (MS A β' h') v u
 |.f9 v,.panicked chain,w'=> ∃β' u,BM A bi ρ β w h β' w' h'∧KV A β' w' nt env defs h' a∧chain=[{v:=u,recovered:=false}]∧VR β' w' (MS A β' h') v u
 |_,_,_=>False
variable{e:Ending}
theorem P2{r:AZ×AB}(g1:BM A bi ρ β w h β w h1)(hf:EU β ρ)(s:KV A β w nt env defs h a)(he:ND A bi ρ β w h1 r e w'):
 Fs A bi ρ nt β w h env defs a (gc ρ r.2) r.1 e w':=by
 obtain⟨β',g,hr⟩:=he;have g':=(g1.trans g).gc;have hs:=s.mono (g'.le hf) g'.ip;have hsub: ∀b,MS A β' (gc ρ r.2) b→MS A β' r.2 b:=by
  rintro b (hb|⟨id,o,k,h1,h2,h3,h4⟩)
  .exact .inl hb
  .exact .inr ⟨id,o,k,Lk h1,h2,h3,h4⟩
 obtain⟨c,h'⟩:=r;cases c with
 |ret v=>cases e with
  |returned u=>exact⟨β',g',hs,VR.mono (.refl _) (FG (A:=A) hsub w') hr⟩
  |_=>exact hr.elim
 |f9 v=>cases e with
  |panicked chain=>
   obtain⟨u,h3,h4⟩:=hr;exact⟨β',u,g',hs,h3,h4.mono (.refl _) (FG (A:=A) hsub w')⟩
  |_=>exact hr.elim
theorem ABD{r:AZ×AB}(H:HR A β w h)(hf:EU β ρ)(s:KV A β w nt env defs h a)(he:ND A (some ρ) ρ β w h1 r e w')(hflat: ∀v,r.1=.ret v∨r.1=.f9 v→flat v=true):
 Fs A bi ρ nt β w h env defs a h r.1 e w':=by
 obtain⟨β',g,hr⟩:=he;obtain⟨k1,_,_⟩:=g.kept ρ (List.suffix_refl _) (.inl rfl);have hall: ∀b,b<w.heap.size→w'.heap[b]? =w.heap[b]? :=fun b hb=>k1 b hb fun⟨id,k,u1,u2,_⟩=>by rw[hf id u1]at u2;cases u2
 have g':BM A bi ρ β w h β w' h:=Jq H hall g.ip.size g.ip.io;have hs:=s.mono (g'.le hf) g'.ip;obtain⟨c,h'⟩:=r;cases c with
 |ret v=>cases e with
  |returned u=>exact⟨β,g',hs,Px (hflat v (.inl rfl)) hr⟩
  |_=>exact hr.elim
 |f9 v=>cases e with
  |panicked chain=>
   obtain⟨u,h3,h4⟩:=hr;exact⟨β,u,g',hs,h3,Px (hflat v (.inr rfl)) h4⟩
  |_=>exact hr.elim
section loops
variable{W:Lp→Prop}
def VT:Obj→Bool
 |.loop _=>true
 |_=>false
def A0(δ:AB):Prop:= ∀p∈δ,VT p.2=false
theorem A0.nil:A0 []:=fun _ h=>by cases h
theorem A0.append{a b:AB}(h1:A0 a)(h2:A0 b):A0 (a++b):=fun p hp=>(D5.1 hp).elim (h1 p) (h2 p)
theorem A0.one{id:Id}{o:Obj}(h:VT o=false):A0 [(id,o)]:=fun p hp=>by rw[As.1 hp];exact h
theorem A0.cons{id:Id}{o:Obj}{δ:AB}(h:VT o=false)(h2:A0 δ):A0 ((id,o)::δ):=fun p hp=>by
 rcases DO.1 hp with rfl|hp
 .exact h
 .exact h2 p hp
theorem A0.marks{g:G}(vs:List AV):A0 (Ba g vs):=fun p hp=>by
 obtain⟨sz,es,h,_⟩:=IX hp;rw[h];rfl
theorem A0.markEs{g:G}(es:List (List AV)):A0 (es.flatMap (Ba g)):=fun p hp=>by
 obtain⟨e,_,hp⟩:=Bv.1 hp;exact A0.marks e p hp
theorem LW.puts{h δ:AB}(hL:LW W h)(hn:A0 δ):LW W (h.puts δ):=fun id r hr=>by
 rcases HJ δ h id with⟨h1,_⟩|⟨p,h1,_,h3⟩
 .rw[h1]at hr;exact hL id r hr
 .rw[h3]at hr;have e:=MP hr;have:=hn p h1;rw[e]at this;cases this
theorem LW.gc{h:AB}(hL:LW W h):LW W (gc ρ h):=fun id r hr=>hL id r (Lk hr)
theorem LW.cons{h:AB}{o:Id×Obj}(hL:LW W h)(ho:VT o.2=false):LW W (o::h):=fun id r hr=>by
 obtain⟨i,ob⟩:=o;rw[AB.get_cons]at hr;split at hr
 .cases hr;cases ho
 .exact hL id r hr
theorem LW.append{h h2:AB}(h1:LW W h)(hL:LW W h2):LW W (h++h2):=fun id r hr=>by
 rw[AB.get_append]at hr;cases hg:h.get id with
 |none=>rw[hg]at hr;exact hL id r hr
 |some o=>rw[hg]at hr;cases hr;exact h1 id r hg
theorem LW.nil:LW W []:=fun _ _ h=>by cases h
theorem A0.markAll{h:AB}(as:List AV):A0 (as.flatMap (mark h.get)):=fun p hp=>by
 rcases Ly (h:=h) (as:=as) p hp with⟨_,_,e,_⟩|⟨_,_,_,e,_⟩<;>rw[e]<;>rfl
end loops
variable{A:Nat→Prop}{P:Program}{mix:List TypeId}{β β' β'':Ag}{w w' w'':World}{M:Nat→Prop}{h h' h'':AB}{π ρ:List Nat}{bi:Option (List Nat)}{nt:NT}{env:Nat→AV}{defs:List Df}{a:Act}{W:Lp→Prop}
variable{δ:AB}
theorem Yw{h h':AB}{id:Id}(hi:id∈δ.map (·.1)):(h.puts δ).get id=(h'.puts δ).get id:=by
 induction δ generalizing h h' with
 |nil=>cases hi
 |cons p δ ih=>
  rw[AB.puts_cons,AB.puts_cons];by_cases e:id∈δ.map (·.1)
  .exact ih e
  .have hp:p.1=id:=by
    rcases DO.1 hi with h1|h1
    .exact h1.symm
    .exact absurd h1 e
   have hn: ∀q∈δ,q.1≠id:=fun q hq e'=>e (Em.2 ⟨q,hq,e'⟩);rw[Jo hn,Jo hn,AB.get_put,AB.get_put,D1 hp,D1 hp]
theorem LJ{h:AB}{id:Id}(hi:id∉δ.map (·.1)):(h.puts δ).get id=h.get id:=
 Jo fun q hq e=>hi (Em.2 ⟨q,hq,e⟩)
def ii(wr:Option (List Id))(new old:G):G:=fun id=>match wr with
 |some l=>if id∈l then new id else old id
 |none=>new id
variable{g g':G}
theorem PN{vs:List AV}(h: ∀v∈vs,DJ g v=DJ g' v):GJ g vs=GJ g' vs:=by
 induction vs with
 |nil=>rfl
 |cons v vs ih=>simp only[GJ,h v (by simp),ih fun x hx=>h x (by simp[hx])]
theorem Jk{l m:List Id}(h: ∀id∈m,id∈l): ∀id∈CN g m,id∈CN g l:=by
 intro id hi;rcases D5.1 hi with hi|hi
 .exact GO _ (h id hi)
 .obtain⟨x,h1,h2⟩:=Bv.1 hi;exact F8 _ (Bv.2 ⟨x,h x h1,h2⟩)
variable{v:AV}
theorem aX(h:At g g' (CN g (AD v))):DJ g v=DJ g' v:=by
 have hc:Ee g v=Ee g' v:=Q0 (h.mono fun id hi=>GO _ hi);cases v with
 |f8 id off n=>
  have e:=h id (GO _ (by simp[AD]));cases hg:g id with
  |none=>
   rw[hg]at e;simp only[DJ,hg,←e];exact hc
  |some o=>
   rw[hg]at e;cases o with
   |arr sz es=>
    simp only[DJ,hg,←e];rw[JE (g:=g) (g':=g') (es:=es) (h.mono fun i hi=>F8 _ (Bv.2 ⟨id,by simp[AD],by simp only[hg];exact hi⟩))]
   |_=>simp only[DJ,hg,←e];exact hc
 |_=>exact hc
theorem YA(h:At g g' (CN g (AD v))):E1 g v=E1 g' v:=by
 cases v with
 |f8 id off n=>
  have e:=h id (GO _ (by simp[AD]));simp only[E1];rw[←e];cases hg:g id with
  |none=>rfl
  |some o=>
   cases o with
   |arr sz es=>
    have hs:At g g' (es.flatMap Au):=h.mono fun i hi=>F8 _ (Bv.2 ⟨id,by simp[AD],by simp only[hg];exact hi⟩);simp only[JE hs,KM hs]
   |_=>rfl
 |_=>rfl
theorem UG{v x:AV}(hx:x∈Jy v): ∀id∈AD x,id∈AD v:=by
 intro id hi;cases v with
 |agg cs=>exact Ju hx hi
 |iface t u=>
  cases u with
  |agg cs=>simp only[AD];exact Ju hx hi
  |_=>simp only[Jy,As]at hx;subst hx;simpa[AD]using hi
 |_=>simp only[Jy,As]at hx;subst hx;exact hi
theorem aW(h:At g g' (CN g (AD v))):Dz g v=Dz g' v:=by
 have hp: ∀x∈Jy v,DJ g x=DJ g' x:=fun x hx=>aX (h.mono (Jk (UG hx)));cases v with
 |agg cs=>simp only[Dz];rw[PN (vs:=cs) hp]
 |iface t u=>
  cases u with
  |agg cs=>simp only[Dz];rw[PN (vs:=cs) hp]
  |_=>simp only[Dz];rw[hp _ (by simp[Jy])]
 |fn f a b=>cases a<;>cases b<;>first|rfl|(simp only[Dz];rw[hp _ (by simp[Jy])])
 |_=>simp only[Dz];rw[hp _ (by simp[Jy])]
theorem bh(h:At g g' (CN g (AD v))):mark g v=mark g' v:=by
 unfold mark;have: ∀l:List AV,(∀x∈l,E1 g x=E1 g' x)→l.flatMap (E1 g)=l.flatMap (E1 g'):=by
  intro l hl;induction l with
  |nil=>rfl
  |cons x l ih=>simp only[D0,hl x (by simp),ih fun y hy=>hl y (by simp[hy])]
 exact this _ fun x hx=>YA (h.mono (Jk (UG hx)))
theorem KE{vs:List AV}(h:At g g' (CN g (Au vs))):DQ g vs=DQ g' vs:=by
 induction vs with
 |nil=>rfl
 |cons v vs ih=>
  simp only[DQ];rw[aW (v:=v) (h.mono (Jk fun id hi=>by simp[Au,hi])),ih (h.mono (Jk fun id hi=>by simp[Au,hi]))]
theorem YC{vs:List AV}(h:At g g' (CN g (Au vs))):vs.flatMap (mark g)=vs.flatMap (mark g'):=by
 induction vs with
 |nil=>rfl
 |cons v vs ih=>
  simp only[D0];rw[bh (v:=v) (h.mono (Jk fun id hi=>by simp[Au,hi])),ih (h.mono (Jk fun id hi=>by simp[Au,hi]))]
variable{as xs:List AV}
theorem My{f:FuncId}{vs:Array Value}{r:AZ×AB}(H:HR A β w h)(T:eK P W (.fn f) xs [] π false none r)(hx:DQ h.get as=some xs)(hv:FV β w (MS A β h) as vs):
 Calls P f vs w (ND (MS A β (h.puts (as.flatMap (mark h.get)))) none π (fun _=>none) w [] r):=by
 have hm:=Ly (h:=h) (as:=as);have hs: ∀v∈as,∀p∈mark h.get v,p∈as.flatMap (mark h.get):=fun v hv p hp=>Bv.2 ⟨v,hv,hp⟩;obtain⟨q1,q2⟩:=wC H hm hv hx hs;have H1:=(Hx hm).hr H;refine T.pu rfl rfl rfl (MS A β (h.puts (as.flatMap (mark h.get)))) w vs (HR.none fun b hb=>nr H1 hb) (fun _ _=>rfl) ⟨q1.1,fun i x v hx hv=>?_⟩;exact(q1.2 i x v hx hv).noIds (fun b hb=>Zd.1 hb) (q2 x (Ac hx))
structure ny(A1:Nat→Prop)(π:List Nat)(w:World)(r:AZ×AB)(β':Ag)(w':World):Prop where
 all: ∀b,b<w.heap.size→w'.heap[b]? =w.heap[b]?
 size:w.heap.size≤w'.heap.size
 io:w'.os=w.os∧w'.output=w.output
 hr:HR A1 β' w' r.2
 ids: ∀id,β' id≠none→π<:+id
 new: ∀id k,β' id=some k→w.heap.size≤k.b
variable{A1:Nat→Prop}{e:Ending}
theorem L4{r:AZ×AB}(he:ND A1 none π (fun _=>none) w [] r e w'): ∃β',ny A1 π w r β' w'∧za β' w' (MS A1 β' r.2) r.1 e:=by
 obtain⟨β',g,hr⟩:=he;have hids: ∀id,β' id≠none→π<:+id:=fun id hi=>by
  by_cases e:π<:+id
  .exact e
  .exact absurd (g.out id e) hi
 refine⟨β',⟨fun b hb=>?_,g.ip.size,g.ip.io,g.hr,hids,fun id k hk=>?_⟩,hr⟩
 .by_cases hA:A1 b
  .exact g.ip.rg b hb (.inr hA)
  .exact g.ip.rg b hb (.inl fun hm=>hA (Zd.1 hm))
 .obtain⟨_,k2,_⟩:=g.kept π (List.suffix_refl _) (.inr fun _ h=>absurd rfl h);rcases k2 k.b ⟨id,k,hids id (by rw[hk];simp),hk,rfl⟩with⟨_,_,_,h1,_⟩|h1
  .cases h1
  .exact h1
theorem mF{r:AZ×AB}(H:HR A β w h)(hf:EU β ρ)(s:KV A β w nt env defs h a)(he:ND A1 none π (fun _=>none) w [] r e w')
 (hflat: ∀v,r.1=.ret v∨r.1=.f9 v→flat v=true):Fs A bi ρ nt β w h env defs a h r.1 e w':=by
 obtain⟨β',L,hr⟩:=L4 he;have g':BM A bi ρ β w h β w' h:=Jq H L.all L.size L.io;have hs:=s.mono (g'.le hf) g'.ip;obtain⟨c,h'⟩:=r;cases c with
 |ret v=>cases e with
  |returned u=>exact⟨β,g',hs,Px (hflat v (.inl rfl)) hr⟩
  |_=>exact hr.elim
 |f9 v=>cases e with
  |panicked chain=>
   obtain⟨u,h3,h4⟩:=hr;exact⟨β,u,g',hs,h3,Px (hflat v (.inr rfl)) h4⟩
  |_=>exact hr.elim
variable{h2:AB}
theorem XX{h1:AB}(H:HR A β w h)(hf:EU β ρ)(g1:BM A bi ρ β w h β w h1)(hall: ∀b,b<w.heap.size→w'.heap[b]? =w.heap[b]?)(hz:w.heap.size≤w'.heap.size)(hio:w'.os=w.os∧w'.output=w.output)
 (H2:HR A1 β' w' h2) (hid: ∀id,β' id≠none→ρ<:+id) (hnew: ∀id k,β' id=some k→w.heap.size≤k.b) (hA: ∀b,MS A β h1 b→A1 b):
 ∃β2,Le β' β2∧BM A bi ρ β w h β2 w' (h2++h1)∧ ∀b,MS A β2 (h2++h1) b→MS A1 β' h2 b:=by
 obtain⟨β2,e1,e2,e3,e4,e5,e6,e7⟩:=tr g1.hr hall hz hio hf H2 hid hnew hA;have o1: ∀id o,h1.get id=some o→ ¬ρ<:+id:=fun id o ho hs=>by
  obtain⟨k,hk,_⟩:=g1.hr.obj id o ho;rw[hf id hs]at hk;cases hk
 have o2: ∀id o,h2.get id=some o→ρ<:+id:=fun id o ho=>by
  obtain⟨k,hk,_⟩:=H2.obj id o ho;exact hid id (by rw[hk];simp)
 have hg: ∀id,(h1++h2).get id=(h2++h1).get id:=by
  intro id;rw[AB.get_append,AB.get_append];cases ha:h1.get id with
  |none=>cases h2.get id<;>rfl
  |some o=>cases hb:h2.get id with
   |none=>rfl
   |some o'=>exact absurd (o2 _ _ hb) (o1 _ _ ha)
 have hM:=MS.congr (A:=A) (β:=β2) hg;refine⟨β2,e2,⟨e3,e5.congr hg,?_,fun σ hσ hgd=>?_⟩,by rw[←hM];exact e6⟩
 .rw[←hM];exact g1.ip.trans e7
 .obtain⟨a1,a2,a3⟩:=g1.kept σ hσ hgd;refine⟨fun b hb hu=>hall b hb,?_,fun id hi=>?_⟩
  .rintro b ⟨id,k,u1,u2,rfl⟩;rcases e4 id k u2 with u3|⟨_,u3⟩
   .exact .inl ⟨id,k,u1,u3,rfl⟩
   .exact .inr u3
  .rw[AB.get_append];cases hb:h2.get id with
   |none=>exact a3 id hi
   |some o=>exact absurd (hσ.trans (o2 _ _ hb)) hi
theorem mG(H:HR A β w h)(hf:EU β ρ)(s:KV A β w nt env defs h a)(hw:JS bi (as.flatMap (mark h.get))=true)
 (he:ND (MS A β (h.puts (as.flatMap (mark h.get)))) none ρ (fun _=>none) w [] (.ret v,h2) e w'):
 Fs A bi ρ nt β w h env defs a (h2++h.puts (as.flatMap (mark h.get))) (.ret v) e w':=by
 obtain⟨β',L,hr⟩:=L4 he;have g1:=Mh (ρ:=ρ) (bi:=bi) H (Ly (as:=as)) hw;obtain⟨β2,l1,g,hm⟩:=XX H hf g1 L.all L.size L.io L.hr L.ids L.new fun b hb=>hb;cases e with
 |returned u=>exact⟨β2,g,s.mono (g.le hf) g.ip,VR.mono l1 (FG (A:=A) hm w') hr⟩
 |_=>exact hr.elim
theorem dM{as:List AV}{v:AV}{h2:AB}{e:Ending}(H:HR A β w h)(hf:EU β ρ)(s:KV A β w nt env defs h a)(hw:JS bi (as.flatMap (mark h.get))=true)(hi:AD v=[])(h20:h2=[])
 (he:ND (MS A β (h.puts (as.flatMap (mark h.get)))) none [] (fun _=>none) w [] (.ret v,h2) e w'):
 Fs A bi ρ nt β w h env defs a (h2++h.puts (as.flatMap (mark h.get))) (.ret v) e w':=by
 subst h20;obtain⟨β',L,hr⟩:=L4 he;have g1:=Mh (ρ:=ρ) (bi:=bi) H (Ly (as:=as)) hw;have g2:BM A bi ρ β w (h.puts (as.flatMap (mark h.get))) β w' (h.puts (as.flatMap (mark h.get))):=Jq g1.hr L.all L.size L.io;have g:=g1.trans g2;cases e with
 |returned u=>exact⟨β,g,s.mono (g.le hf) g.ip,VR.noIds (fun b hb=>Zd.2 hb) hr hi⟩
 |_=>exact hr.elim
theorem si{o:Id×Obj}(H:HR A β w h)(hf:EU β ρ)(s:KV A β w nt env defs h a)(ho:BK v h2=some o)
 (he:ND A1 none ρ (fun _=>none) w [] (.ret v,h2) e w'):Fs A bi ρ nt β w h env defs a (o::h) (.ret v) e w':=by
 obtain⟨β',L,hr⟩:=L4 he;unfold BK at ho;split at ho
 .rename_i id off n;split at ho
  .rename_i sz es hg;split at ho
   .rename_i hfl;cases ho;obtain⟨k,hk,c,elem,q1,q2,q3,q4,q5,q6,q7⟩:=L.hr.obj id _ hg;have H2:HR (MS A β h) β' w' [(id,.d7 sz es)]:=by
     have hone: ∀{i:Id} {ob:Obj},AB.get [(id,Obj.d7 sz es)] i=some ob→i=id∧ob=.d7 sz es:=by
      intro i ob hi;rw[AB.get_cons]at hi;split at hi
      .rename_i e';cases hi;exact⟨e'.symm,rfl⟩
      .cases hi
     refine⟨fun i ob hi=>?_,fun a b oa ob ka kb ha hb _ _ _ _ _=>by rw[(hone ha).1,(hone hb).1],L.hr.wt,fun i ob k' hi hm hk' hb=>?_,fun b hb=>Lm (nr H hb) L.size⟩
     .obtain⟨rfl,rfl⟩:=hone hi;refine⟨k,hk,c,elem,q1,q2,q3,q4,q5,q6,fun j x y hx hy=>Nb ?_ (q7 j x y hx hy)⟩;obtain⟨e',he',hx'⟩:=Lw.1 (Ac hx);exact Ce.1 (Ce.1 hfl e' he') x hx'
     .have:=nr H hb;have:=L.new i k' hk';omega
    obtain⟨β2,l1,g,hm⟩:=XX (bi:=bi) H hf (BM.refl H) L.all L.size L.io H2 L.ids L.new fun b hb=>hb;cases e with
    |returned u=>
     refine⟨β2,g,s.mono (g.le hf) g.ip,?_⟩;have hr':VR β' w' (MS A1 β' h2) (.f8 id off n) u:=hr;cases hr' with
     |f8 _ _ _ k' a' cap h1 h3 h4 h5=>exact .f8 _ _ _ k' a' cap (l1 _ _ h1) h3 h4 h5
    |_=>exact hr.elim
   .cases ho
  .cases ho
 .cases ho
variable{A:Nat→Prop}{P:Program}{mix:List TypeId}{β β' β'':Ag}{w w' w'':World}{M:Nat→Prop}{h h' h'':AB}{π ρ:List Nat}{bi:Option (List Nat)}{nt:NT}{env:Nat→AV}{defs defs':List Df}{a:Act}{ro:Option Nat}{W:Lp→Prop}
def eG(rd:Option (List Id))(g g2:G):Prop:=match rd with
 |some l=>At g g2 l
 |none=> ∀id,g id=g2 id
def NG(P:Program)(ro:Option Nat)(bi:Option (List Nat))(ρ:List Nat)(nt:NT)(o:Oper)(env:Nat→AV)(defs:List Df)(h:AB)(v:AV)(defs':List Df)(h':AB):Prop:=
 ∀(A:Nat→Prop) (β:Ag) (w:World) (a:Act),HR A β w h→EU β ρ→KV A β w nt env defs h a→ ∀(next:Act→World→Prop) (Q:Exit→Act→World→Prop),
  (∀a' w',Aft A bi ρ nt β w h (Ov env o.dst v) defs' h' a' w'→next a' w')→o.wpIn (FF ro) 0 P a w next Q
def Uh(A:Nat→Prop)(bi:Option (List Nat))(π:List Nat)(nt:NT)(β:Ag)(w:World)(h:AB)(env:Nat→AV)(defs:List Df)(h':AB)(v:AV)(u:Value)(a':Act)(w':World):Prop:=
 ∃β',BM A bi π β w h β' w' h'∧KV A β' w' nt env defs h' a'∧VR β' w' (MS A β' h') v u
def Ui(P:Program)(ro:Option Nat)(bi:Option (List Nat))(ρ:List Nat)(nt:NT)(o:Oper)(env:Nat→AV)(defs:List Df)(h:AB)(v:AV)(h':AB):Prop:=
 ∀(A:Nat→Prop) (β:Ag) (w:World) (a:Act),HR A β w h→EU β ρ→KV A β w nt env defs h a→ ∀(next:Act→World→Prop) (Q:Exit→Act→World→Prop),
  (∀a' w' u,Uh A bi ρ nt β w h env defs h' v u a' w'→Q (.panic [{v:=u,recovered:=false}]) a' w')→o.wpIn (FF ro) 0 P a w next Q
variable{o:Oper}{Q:Exit→Act→World→Prop}
theorem TT{g:FuncId}{vs:Array Value}{next:Act→World→Prop}(hrun:(o.semAt ro a.eval).run P w=.ok (.enter g vs) w)(hd: ∀d,o.dst=some d→d<nt.n)
 (hc:Calls P g vs w (Fs A bi ρ nt β w h env defs a h' (.ret v))) (hn: ∀a' w',Aft A bi ρ nt β w h (Ov env o.dst v) defs h' a' w'→next a' w'):o.wpIn (FF ro) 0 P a w next Q:=by
 refine⟨fun _ _=>trivial,?_⟩;have e:(o.semAt (FF ro).round a.eval).run P w=.ok (.enter g vs) w:=hrun;rw[e,Oper.uponIn_enter];refine⟨fun hh=>by simp[FF,Fence.wide]at hh,CallsIn.mono (callsIn_wide.2 hc) ?_⟩;intro e w'' he;cases e with
 |returned u=>
  obtain⟨β',g',s,hv⟩:=he;exact hn _ _ ⟨β',g',s.put hd hv⟩
 |panicked chain=>exact he.elim
 |outgrown=>exact he.elim
theorem TS{g:FuncId}{vs:Array Value}{next:Act→World→Prop}(hrun:(o.semAt ro a.eval).run P w=.ok (.enter g vs) w)
 (hc:Calls P g vs w (Fs A bi ρ nt β w h env defs a h' (.f9 v))) (hn: ∀a' w' u,Uh A bi ρ nt β w h env defs h' v u a' w'→Q (.panic [{v:=u,recovered:=false}]) a' w'):o.wpIn (FF ro) 0 P a w next Q:=by
 refine⟨fun _ _=>trivial,?_⟩;have e:(o.semAt (FF ro).round a.eval).run P w=.ok (.enter g vs) w:=hrun;rw[e,Oper.uponIn_enter];refine⟨fun hh=>by simp[FF,Fence.wide]at hh,CallsIn.mono (callsIn_wide.2 hc) ?_⟩;intro e w'' he;cases e with
 |returned u=>exact he.elim
 |panicked chain=>
  obtain⟨β',u,g',s,rfl,hv⟩:=he;exact hn _ _ u ⟨β',g',s,hv⟩
 |outgrown=>exact he.elim
variable{ts:Array Value}{jp body:Code}
theorem mg{k:Nat}{f:FuncId}{next:Act→World→Prop}(hrun:(o.semAt ro a.eval).run P w=.ok (.round k f ts jp body) w)(hd: ∀d,o.dst=some d→d<nt.n)
 (hc:RoundIn Fence.wide 0 P k f ts jp body w (Fs A bi ρ nt β w h env defs a h' (.ret v))) (hn: ∀a' w',Aft A bi ρ nt β w h (Ov env o.dst v) defs h' a' w'→next a' w'):o.wpIn (FF ro) 0 P a w next Q:=by
 refine⟨fun _ _=>trivial,?_⟩;have e:(o.semAt (FF ro).round a.eval).run P w=.ok (.round k f ts jp body) w:=hrun;rw[e,Oper.uponIn_round];refine⟨fun hh=>by simp[FF,Fence.wide]at hh,RoundIn.mono (F:=Fence.wide) hc ?_⟩;intro e w'' he;cases e with
 |returned u=>
  obtain⟨β',g',s,hv⟩:=he;exact hn _ _ ⟨β',g',s.put hd hv⟩
 |panicked chain=>exact he.elim
 |outgrown=>exact he.elim
theorem mf{k:Nat}{f:FuncId}{next:Act→World→Prop}(hrun:(o.semAt ro a.eval).run P w=.ok (.round k f ts jp body) w)
 (hc:RoundIn Fence.wide 0 P k f ts jp body w (Fs A bi ρ nt β w h env defs a h' (.f9 v))) (hn: ∀a' w' u,Uh A bi ρ nt β w h env defs h' v u a' w'→Q (.panic [{v:=u,recovered:=false}]) a' w'):o.wpIn (FF ro) 0 P a w next Q:=by
 refine⟨fun _ _=>trivial,?_⟩;have e:(o.semAt (FF ro).round a.eval).run P w=.ok (.round k f ts jp body) w:=hrun;rw[e,Oper.uponIn_round];refine⟨fun hh=>by simp[FF,Fence.wide]at hh,RoundIn.mono (F:=Fence.wide) hc ?_⟩;intro e w'' he;cases e with
 |returned u=>exact he.elim
 |panicked chain=>
  obtain⟨β',u,g',s,rfl,hv⟩:=he;exact hn _ _ u ⟨β',g',s,hv⟩
 |outgrown=>exact he.elim
def KU(P:Program)(bi:Option (List Nat))(ρ:List Nat)(nt:NT)(f:FuncId)(as:List AV)(env:Nat→AV)(defs:List Df)(h:AB)(h':AB)(c:AZ):Prop:=
 ∀(A:Nat→Prop) (β:Ag) (w:World) (a:Act) (vs:Array Value),HR A β w h→EU β ρ→KV A β w nt env defs h a→FV β w (MS A β h) as vs→Calls P f vs w (Fs A bi ρ nt β w h env defs a h' c)
variable{K:AK}{st:St}{hc:AB}
theorem zO(hT:Cn P W K){f:FuncId}{c:AZ}(hL:LW W st.heap)(hK:K (.fn f) (LV st.heap.get as) (st.heap.puts (as.flatMap (mark st.heap.get))) ρ true (some ρ)=.ok (c,hc))
 (hfl: ∀v,c=.ret v∨c=.f9 v→flat v=true)  (hag: ∀id,st.heap.get id=h2.get id):KU P bi ρ nt f as env defs h2 h2 c:=by
 intro A β w a vs H hf s hv;have H1:HR A β w st.heap:=H.congr fun id=>(hag id).symm;have hM:=MS.congr (A:=A) (β:=β) hag;have hm:=Ly (h:=st.heap) (as:=as);have hth:=fS H1 hm (by rw[hM];exact hv) fun v hv p hp=>Bv.2 ⟨v,hv,hp⟩;have hcall:=(hT _ _ _ _ _ _ _ hK).rw rfl (fun _ _ h=>by cases h) (hL.puts (A0.markAll as)) A β w vs ((Hx hm).hr H1) hf hth;exact hcall.mono fun e w' he=>ABD H hf s he hfl
theorem p7(hT:Cn P W K){f:FuncId}{c:AZ}(hw:JS bi (as.flatMap (mark st.heap.get))=true)
 (hL:LW W st.heap) (hK:K (.fn f) (LV st.heap.get as) (st.heap.puts (as.flatMap (mark st.heap.get))) ρ true bi=.ok (c,hc))  (hag: ∀id,st.heap.get id=h2.get id):KU P bi ρ nt f as env defs h2 (gc ρ hc) c:=by
 intro A β w a vs H hf s hv;have H1:HR A β w st.heap:=H.congr fun id=>(hag id).symm;have hM:=MS.congr (A:=A) (β:=β) hag;have hm:=Ly (h:=st.heap) (as:=as);have hth:=fS H1 hm (by rw[hM];exact hv) fun v hv p hp=>Bv.2 ⟨v,hv,hp⟩;have g1:BM A bi ρ β w h2 β w (st.heap.puts (as.flatMap (mark st.heap.get))):=(Mh H1 hm hw).congr hag;have hcall:=(hT _ _ _ _ _ _ _ hK).rw rfl (fun _ _ h=>by cases h) (hL.puts (A0.markAll as)) A β w vs g1.hr hf hth;exact hcall.mono fun e w' he=>P2 g1 hf s he
theorem ep(hT:Cn P W K){f:FuncId}{c:AZ}
 (hL:LW W st.heap) (hK:K (.fn f) as st.heap ρ true bi=.ok (c,hc))  (hag: ∀id,st.heap.get id=h2.get id):KU P bi ρ nt f as env defs h2 (gc ρ hc) c:=by
 intro A β w a vs H hf s hv;have H1:HR A β w st.heap:=H.congr fun id=>(hag id).symm;have hM:=MS.congr (A:=A) (β:=β) hag;have g1:BM A bi ρ β w h2 β w st.heap:=(BM.refl H1).congr hag;have hcall:=(hT _ _ _ _ _ _ _ hK).rw rfl (fun _ _ h=>by cases h) hL A β w vs H1 hf (by rw[hM];exact hv);exact hcall.mono fun e w' he=>P2 g1 hf s he
theorem eo(hT:Cn P W K){f:FuncId}{c:AZ}(hK:K (.fn f) xs [] π false none=.ok (c,hc))
 (hfl: ∀v,c=.ret v∨c=.f9 v→flat v=true)  (hx:DQ h2.get as=some xs):KU P bi ρ nt f as env defs h2 h2 c:=by
 intro A β w a vs H hf s hv;exact(My H (hT _ _ _ _ _ _ _ hK) hx hv).mono fun e w' he=>mF H hf s he hfl
theorem AAI(hT:Cn P W K){f:FuncId}{o:Id×Obj}(hπ:π=ρ∨π=[])(hK:K (.fn f) xs [] π false none=.ok (.ret v,hc))
 (ho:BK v hc=some o)  (hx:DQ h2.get as=some xs):KU P bi ρ nt f as env defs h2 (o::h2) (.ret v):=by
 intro A β w a vs H hf s hv;have T:=hT _ _ _ _ _ _ _ hK;refine(My H T hx hv).mono fun e w' he=>?_;rcases hπ with rfl|rfl
 .exact si H hf s ho he
 .obtain⟨h1,h2⟩:=T.ids rfl rfl rfl rfl v rfl;exfalso;unfold BK at ho;split at ho
  .simp[AD]at h1
  .cases ho
theorem vz(hT:Cn P W K){f:FuncId}(hπ:π=ρ∨π=[])(hK:K (.fn f) xs [] π false none=.ok (.ret v,hc))
  (hw:JS bi (as.flatMap (mark h2.get))=true) (hx:DQ h2.get as=some xs):KU P bi ρ nt f as env defs h2 (hc++h2.puts (as.flatMap (mark h2.get))) (.ret v):=by
 intro A β w a vs H hf s hv;have T:=hT _ _ _ _ _ _ _ hK;refine(My H T hx hv).mono fun e w' he=>?_;rcases hπ with rfl|rfl
 .exact mG H hf s hw he
 .obtain⟨h1,h3⟩:=T.ids rfl rfl rfl rfl v rfl;exact dM H hf s hw h1 h3 he
theorem an{h:AB}{id:Id}(e:id∈h.map (·.1)): ∃o,h.get id=some o:=by
 induction h with
 |nil=>cases e
 |cons p h ih=>
  obtain⟨i,ob⟩:=p;rw[AB.get_cons];by_cases e':i=id
  .exact⟨ob,D1 e'⟩
  .rw[Ci e'];refine ih ?_;rcases DO.1 e with h1|h1
   .exact absurd h1.symm e'
   .exact h1
theorem RP{h:AB}{id:Id}{o:Obj}(hg:h.get id=some o):id∈h.map (·.1):=by
 induction h with
 |nil=>cases hg
 |cons p h ih=>
  obtain⟨i,ob⟩:=p;rw[AB.get_cons]at hg;by_cases e:i=id
  .simp[e]
  .rw[Ci e]at hg;simp only[El,DO];exact .inr (ih hg)
theorem SC{h h':AB}(hag: ∀id,h.get id=h2.get id)(id:Id):h'.get id=ii (some (TL h h')) h'.get h2.get id:=by
 simp only[ii];split
 .rfl
 .rename_i hi;rw[←hag,gl hi]
theorem Vv(new old:G)(id:Id):ii (some []) new old id=old id:=by simp[ii]
theorem TB{K:AK}(hT:Cn P W K){fr:Fr}{f:FuncId}{as:List AV}{dst:Option Tmp}{st st':St}{m:Mode}{fp:Fp}(hL:LW W st.heap)(hr:C5 K fr ρ f as dst st m=.ok st' fp){h2:AB}(hag:eG fp.rd st.heap.get h2.get):
 ∃v h2',st'.env=B8 st.env dst v∧st'.base=st.base∧st'.defs=st.defs∧(∀id,h2'.get id=ii fp.wr st'.heap.get h2.get id)∧J2 P f∧ ∀env defs,KU P fr.bi ρ nt f as env defs h2 h2' (.ret v):=by
 have raw: ∀{E:E (AZ×AB)} {xs:List AV} {hh:AB},De ρ dst st E=.ok st' fp→E=K (.fn f) xs hh ρ true fr.bi→
  (∀{c:AZ} {hc:AB},K (.fn f) xs hh ρ true fr.bi=.ok (c,hc)→(∀id,st.heap.get id=h2.get id)→ ∀env defs,KU P fr.bi ρ nt f as env defs h2 (gc ρ hc) c)→
  ∃v h2',st'.env=B8 st.env dst v∧st'.base=st.base∧st'.defs=st.defs∧(∀id,h2'.get id=ii fp.wr st'.heap.get h2.get id)∧J2 P f∧ ∀env defs,KU P fr.bi ρ nt f as env defs h2 h2' (.ret v):=by
  intro E xs hh hr hE hsem;subst hE;unfold De at hr;split at hr
  .rename_i v hc hK;simp only[Aw,Aa,GW.ok.injEq]at hr;obtain⟨rfl,rfl⟩:=hr;exact⟨v,gc ρ hc,rfl,rfl,rfl,SC hag,(hT _ _ _ _ _ _ _ hK).ent f rfl,hsem hK hag⟩
  .simp at hr
  .cases hr
 unfold C5 at hr;split at hr
 .exact raw hr rfl fun hK hag env defs=>ep hT hL hK hag
 .rename_i m hm;split at hr
  .rename_i xs hx;simp only[A3]at hr;unfold C0 at hr;split at hr
   .rename_i v hc hK;have hent:=(hT _ _ _ _ _ _ _ hK).ent f rfl;simp only[Aw]at hr;split at hr
    .rename_i hfl;simp only[GW.ok.injEq]at hr;obtain⟨rfl,rfl⟩:=hr;have hx2:DQ h2.get as=some xs:=by rw[←KE hag];exact hx
     exact⟨v,h2,rfl,rfl,rfl,fun id=>(Vv _ _ id).symm,hent,fun env defs=>eo hT hK (fun v' hv'=>by rcases hv' with h|h<;>cases h;exact hfl) hx2⟩
    .unfold G3 at hr;split at hr
     .rename_i o ho;simp only[Aa,GW.ok.injEq]at hr;obtain⟨rfl,rfl⟩:=hr;have hx2:DQ h2.get as=some xs:=by rw[←KE hag];exact hx
      refine⟨v,o::h2,rfl,rfl,rfl,fun id=>?_,hent,fun env defs=>AAI hT (by split<;>simp) hK ho hx2⟩;simp only[ii,As];obtain⟨i,ob⟩:=o;simp only[AB.get_cons];by_cases e:id=i
      .subst e;simp
      .simp[e,Ne.symm e]
     .simp only[BO]at hr;split at hr
      .rename_i hw;simp only[Aa,GW.ok.injEq]at hr;obtain⟨rfl,rfl⟩:=hr;have hx2:DQ h2.get as=some xs:=by rw[←KE hag];exact hx
       have hmk:=YC (vs:=as) hag;refine⟨v,hc++h2.puts (as.flatMap (mark h2.get)),rfl,rfl,rfl,fun id=>?_,hent,fun env defs=>vz hT (by split<;>simp) hK (by rw[←hmk];exact hw) hx2⟩;rw[←hmk];simp only[ii,D5];rw[AB.get_append,AB.get_append];by_cases e1:id∈(as.flatMap (mark st.heap.get)).map (·.1)
       .rw[D1 (.inl e1),Yw e1 (h':=st.heap)]
       .rw[LJ e1,LJ e1];by_cases e2:id∈hc.map (·.1)
        .rw[D1 (.inr e2)];have:=an e2;obtain⟨o,ho⟩:=this;simp[ho]
        .rw[Ci (by rintro(h1|h1);exact e1 h1;exact e2 h1)];have:hc.get id=none:=by
          cases hg:hc.get id with
          |none=>rfl
          |some o=>exact absurd (RP hg) e2
         rw[this];rfl
      .cases hr
   .split at hr<;>cases hr
   .cases hr
  .unfold Ea at hr;simp only[A3,BO,Aa]at hr;split at hr
   .unfold N7 at hr;split at hr
    .rename_i v hc hK;split at hr
     .rename_i hfl;simp only[Aw,GW.ok.injEq]at hr;obtain⟨rfl,rfl⟩:=hr;exact⟨v,h2,rfl,rfl,rfl,fun id=>(Vv _ _ id).symm,(hT _ _ _ _ _ _ _ hK).ent f rfl,fun env defs=>zO hT hL hK (fun v' hv'=>by rcases hv' with h|h<;>cases h;exact hfl) hag⟩
     .cases hr
    .split at hr<;>cases hr
    .cases hr
   .split at hr
    .rename_i hw;exact raw hr rfl fun hK hag env defs=>p7 hT hw hL hK hag
    .cases hr
theorem QV{K:AK}(hT:Cn P W K){fr:Fr}{f:FuncId}{as:List AV}{dst:Option Tmp}{st st':St}{m:Mode}{v:AV}(hL:LW W st.heap)(hr:C5 K fr ρ f as dst st m=.f9 v st'){h2:AB}(hag: ∀id,st.heap.get id=h2.get id):
 ∃h2',st'.env=st.env∧st'.base=st.base∧st'.defs=st.defs∧(∀id,h2'.get id=st'.heap.get id)∧J2 P f∧ ∀env defs,KU P fr.bi ρ nt f as env defs h2 h2' (.f9 v):=by
 have raw: ∀{E:E (AZ×AB)} {xs:List AV} {hh:AB},De ρ dst st E=.f9 v st'→E=K (.fn f) xs hh ρ true fr.bi→
  (∀{c:AZ} {hc:AB},K (.fn f) xs hh ρ true fr.bi=.ok (c,hc)→(∀id,st.heap.get id=h2.get id)→ ∀env defs,KU P fr.bi ρ nt f as env defs h2 (gc ρ hc) c)→
  ∃h2',st'.env=st.env∧st'.base=st.base∧st'.defs=st.defs∧(∀id,h2'.get id=st'.heap.get id)∧J2 P f∧ ∀env defs,KU P fr.bi ρ nt f as env defs h2 h2' (.f9 v):=by
  intro E xs hh hr hE hsem;subst hE;unfold De at hr;split at hr
  .simp at hr
  .rename_i u hc hK;simp only[Aa,GW.f9.injEq]at hr;obtain⟨rfl,rfl⟩:=hr;exact⟨gc ρ hc,rfl,rfl,rfl,fun id=>rfl,(hT _ _ _ _ _ _ _ hK).ent f rfl,hsem hK hag⟩
  .cases hr
 unfold C5 at hr;split at hr
 .exact raw hr rfl fun hK hag env defs=>ep hT hL hK hag
 .rename_i m hm;split at hr
  .rename_i xs hx;simp only[A3]at hr;unfold C0 at hr;split at hr
   .simp only[Aw]at hr;split at hr
    .cases hr
    .unfold G3 at hr;split at hr
     .simp at hr
     .simp only[BO]at hr;split at hr
      .simp at hr
      .cases hr
   .rename_i u hc hK;split at hr
    .rename_i hfl;simp only[GW.f9.injEq]at hr;obtain⟨rfl,rfl⟩:=hr;have hx2:DQ h2.get as=some xs:=by rw[←KE (fun id _=>hag id)];exact hx
     exact⟨h2,rfl,rfl,rfl,fun id=>(hag id).symm,(hT _ _ _ _ _ _ _ hK).ent f rfl,fun env defs=>eo hT hK (fun v' hv'=>by rcases hv' with h|h<;>cases h;exact hfl) hx2⟩
    .cases hr
   .cases hr
  .unfold Ea at hr;simp only[A3,BO,Aa]at hr;split at hr
   .unfold N7 at hr;split at hr
    .split at hr
     .simp at hr
     .cases hr
    .rename_i u hc hK;split at hr
     .rename_i hfl;simp only[GW.f9.injEq]at hr;obtain⟨rfl,rfl⟩:=hr;exact⟨h2,rfl,rfl,rfl,fun id=>(hag id).symm,(hT _ _ _ _ _ _ _ hK).ent f rfl,fun env defs=>zO hT hL hK (fun v' hv'=>by rcases hv' with h|h<;>cases h;exact hfl) hag⟩
     .cases hr
    .cases hr
   .split at hr
    .rename_i hw;exact raw hr rfl fun hK hag env defs=>p7 hT hw hL hK hag
    .cases hr
variable{A:Nat→Prop}{P:Program}{mix:List TypeId}{β β' β'':Ag}{w w' w'':World}{M:Nat→Prop}{h h' h'':AB}{π ρ:List Nat}{bi:Option (List Nat)}{nt:NT}{env:Nat→AV}{defs defs':List Df}{a:Act}{ro:Option Nat}{W:Lp→Prop}
theorem FV.append{ys:List AV}{a b:Array Value}(h1:FV β w M xs a)(h2:FV β w M ys b):FV β w M (xs++ys) (a++b):=by
 refine⟨by rw[CE,RT,h1.1,h2.1],fun i x v hx hv=>?_⟩;by_cases hi:i<xs.length
 .rw[Be hi]at hx;rw[I5 (by rw[←h1.1];exact hi)]at hv;exact h1.2 i x v hx hv
 .rw[CI (by omega)]at hx;rw[Array.getElem?_append_right (by rw[←h1.1];omega),←h1.1]at hv;exact h2.2 _ x v hx hv
theorem FV.args{e:Nat→AV}(he:Iw β w M e fun t=>a.tmps.getD t Go.undef)(l:Array Operand):FV β w M (l.toList.map (ev e)) (l.map a.eval):=by
 refine⟨by simp,fun i x v hx hv=>?_⟩;simp only[Cs,Gt,BI]at hx;obtain⟨y,hy,rfl⟩:=hx;simp only[Ol,hy,D9,Bi]at hv;subst hv;exact HZ he y
variable{c:Call}{x:Operand}
theorem Wh(ho:o.op=.call c)(hc:c.callee=.value x){g:FuncId}{first cap:Array Value}(hx:a.eval x=.func (.func g) first cap)(he:J2 P g):
 (o.semAt ro a.eval).run P w=.ok (.enter g (first++c.args.map a.eval++cap)) w:=by
 rw[Oper.semAt_eq _ _ _ (by simp[ho])];simp[execOp,ho,resolve,hc,hx,Deferred.ofValue,invoke,Jl he]
theorem Ud(ho:o.op=.call c)(hc:c.callee=.value x){k:Nat}{l:Loop}(hx:a.eval x=.func (.yield k) #[] #[])(hl:w.heap[k]? =some (.loop l))(hn:l.params.size=c.args.size):
 (o.semAt ro a.eval).run P w=.ok (.round k l.fn (Gl l (c.args.map a.eval)) l.assign l.body) w:=by
 rw[Oper.semAt_eq _ _ _ (by simp[ho])];have hgo:(getObj k).run P w=.ok (.loop l) w:=IV hl (by simp);simp[execOp,ho,resolve,hc,hx,Deferred.ofValue,invoke,Instr.yield,Instr.getLoop,hgo,hn,Gl]
structure Ke(P:Program)(mix:List TypeId)(C:B9):Prop where
 T:C.T=Bb P mix
 wp: ∀t m f,C.wp t m=some f→ ∀(v:Value) (w:World),(method (P.types.size+Made.depth) t v m).run P w=.ok (f,v) w
variable{C:B9}{fr:Fr}{st':St}{fp:Fp}{env2:Nat→AV}
theorem Yp(hC:Ke P mix C)(hr:Cw fr o.op o.dst st (evalOp C.T st.env.get st.heap.get ρ o.op)=.ok st' fp)(hdf: ∀c,o.op≠ .defer c)
   (he:Jf st.env.get env2 o.op) (hag:eG fp.rd st.heap.get h2.get) (hd: ∀d,o.dst=some d→d<nt.n):
 ∃v h2',st'.env=B8 st.env o.dst v∧st'.base=st.base∧(∀id,h2'.get id=ii fp.wr st'.heap.get h2.get id)∧NG P ro fr.bi ρ nt o env2 st.defs h2 v st'.defs h2':=by
 rw[hC.T]at hr;cases hev:evalOp (Bb P mix) st.env.get st.heap.get ρ o.op with
 |none=>rw[hev]at hr;cases hr
 |some eff=>
  rw[hev]at hr;simp only[Cw,JY,BO]at hr;split at hr
  .rename_i hw;simp only[Aw,Kz,GW.ok.injEq]at hr;obtain⟨rfl,rfl⟩:=hr;have hev2:=VF (P:=P) (mix:=mix) (n:=ρ) he hag;rw[hev]at hev2;refine⟨eff.v,h2.puts eff.δ,rfl,rfl,fun id=>?_,?_⟩
   .simp only[ii];split
    .rename_i hi;exact Yw hi
    .rename_i hi;exact LJ hi
   .intro A β w a H hf s next Q hn
    exact sf H hf s hd hdf hev2.symm hw hn
  .cases hr
theorem gn(hT:Cn P W K)(ho:o.op=.call c)(hc:c.callee=.value x)
 (hL:LW W st.heap) (hr:DZ C K fr ρ (ev st.env.get x) (c.args.toList.map (ev st.env.get)) o.dst st=.ok st' fp)
   (he:Jf st.env.get env2 o.op) (hag:eG fp.rd st.heap.get h2.get) (hd: ∀d,o.dst=some d→d<nt.n):
 ∃v h2',st'.env=B8 st.env o.dst v∧st'.base=st.base∧(∀id,h2'.get id=ii fp.wr st'.heap.get h2.get id)∧NG P ro fr.bi ρ nt o env2 st.defs h2 v st'.defs h2':=by
 have hx:ev st.env.get x=ev env2 x:=he x (by rw[ho];simp[Op.operands,Call.operands,hc]);have hargs:c.args.toList.map (ev st.env.get)=c.args.toList.map (ev env2):=Eg fun y hy=>he y (by rw[ho];simp[Op.operands,Call.operands,hc,hy]);rw[hargs,hx]at hr;unfold DZ at hr;split at hr
 ·
  rename_i id hid;unfold JA at hr;split at hr
  .rename_i r hg;unfold De at hr;split at hr
   .rename_i v hc' hK;simp only[Aw,Aa,GW.ok.injEq]at hr;obtain⟨rfl,rfl⟩:=hr;refine⟨v,gc ρ hc',rfl,rfl,SC hag,?_⟩;intro A β w a H hf s next Q hn
    have hag': ∀id,st.heap.get id=h2.get id:=hag;have H1:HR A β w st.heap:=H.congr fun id=>(hag' id).symm;have hM:=MS.congr (A:=A) (β:=β) hag';have hxv:=HZ s.env x;rw[hid]at hxv;generalize hax:a.eval x=ax at hxv;cases hxv with
    |v6 _ k hk=>
     obtain⟨k',hk',l,q1,q2,q3,q4,q5,q6,q7,q9,q8⟩:=H1.obj id _ hg;rw[hk]at hk';cases hk';have hvs:=FV.args s.env c.args;obtain⟨hlen,hround⟩:=(hT _ _ _ _ _ _ _ hK).rw rfl (fun _ _ h=>by cases h;exact hL _ _ hg) hL A β w (c.args.map a.eval) H1 hf (by rw[hM];exact hvs);have hround:=hround k l hg hk q1;have g1:BM A fr.bi ρ β w h2 β w st.heap:=(BM.refl H1).congr hag';have hn':l.params.size=c.args.size:=by
      rw[←q5]at hlen;simpa using hlen
     exact mg (Ud ho hc hax q1 hn') hd (RoundIn.mono hround fun e w' he=>P2 g1 hf s he) hn
   .simp at hr
   .cases hr
  .cases hr
 .rename_i g first cap hfn
  simp only[A3]at hr;obtain⟨v,h2',e1,e2,e3,e4,e5,e6⟩:=TB (nt:=nt) hT hL hr hag;refine⟨v,h2',e1,e2,e4,?_⟩;intro A β w a H hf s next Q hn
  have hxv:=HZ s.env x;rw[hfn]at hxv;generalize hax:a.eval x=ax at hxv;cases hxv with
  |fn _ _ _ first' cap' l1 l2 l3 l4=>
   have hvs:FV β w (MS A β h2) (first++c.args.toList.map (ev env2)++cap) (first'++c.args.map a.eval++cap'):=
    (FV.append (FV.append ⟨l1,l3⟩ (FV.args s.env c.args)) ⟨l2,l4⟩)
   rw[e3]at hn;exact TT (Wh ho hc hax e5) hd (e6 env2 st.defs A β w a _ H hf s hvs) hn
 .cases hr
theorem Z0(hT:Cn P W K)(ho:o.op=.call c)(hc:c.callee=.value x)
 (hL:LW W st.heap) (hr:DZ C K fr ρ (ev st.env.get x) (c.args.toList.map (ev st.env.get)) o.dst st=.f9 v st')
   (he:Jf st.env.get env2 o.op) (hag: ∀id,st.heap.get id=h2.get id):
 ∃h2',st'.env=st.env∧st'.base=st.base∧st'.defs=st.defs∧(∀id,h2'.get id=st'.heap.get id)∧Ui P ro fr.bi ρ nt o env2 st.defs h2 v h2':=by
 have hx:ev st.env.get x=ev env2 x:=he x (by rw[ho];simp[Op.operands,Call.operands,hc]);have hargs:c.args.toList.map (ev st.env.get)=c.args.toList.map (ev env2):=Eg fun y hy=>he y (by rw[ho];simp[Op.operands,Call.operands,hc,hy]);rw[hargs,hx]at hr;unfold DZ at hr;split at hr
 .rename_i id hid;unfold JA at hr;split at hr
  .rename_i r hg;unfold De at hr;split at hr
   .simp at hr
   .rename_i u hc' hK;simp only[Aa,GW.f9.injEq]at hr;obtain⟨rfl,rfl⟩:=hr;refine⟨gc ρ hc',rfl,rfl,rfl,fun id=>rfl,?_⟩;intro A β w a H hf s next Q hn
    have H1:HR A β w st.heap:=H.congr fun id=>(hag id).symm;have hM:=MS.congr (A:=A) (β:=β) hag;have hxv:=HZ s.env x;rw[hid]at hxv;generalize hax:a.eval x=ax at hxv;cases hxv with
    |v6 _ k hk=>
     obtain⟨k',hk',l,q1,q2,q3,q4,q5,q6,q7,q9,q8⟩:=H1.obj id _ hg;rw[hk]at hk';cases hk';have hvs:=FV.args s.env c.args;obtain⟨hlen,hround⟩:=(hT _ _ _ _ _ _ _ hK).rw rfl (fun _ _ h=>by cases h;exact hL _ _ hg) hL A β w (c.args.map a.eval) H1 hf (by rw[hM];exact hvs);have hround:=hround k l hg hk q1;have g1:BM A fr.bi ρ β w h2 β w st.heap:=(BM.refl H1).congr hag;have hn':l.params.size=c.args.size:=by
      rw[←q5]at hlen;simpa using hlen
     exact mf (Ud ho hc hax q1 hn') (RoundIn.mono hround fun e w' he=>P2 g1 hf s he) hn
   .cases hr
  .cases hr
 .rename_i g first cap hfn
  simp only[A3]at hr;obtain⟨h2',e1,e2,e3,e4,e5,e6⟩:=QV (nt:=nt) hT hL hr hag;refine⟨h2',e1,e2,e3,e4,?_⟩;intro A β w a H hf s next Q hn
  have hxv:=HZ s.env x;rw[hfn]at hxv;generalize hax:a.eval x=ax at hxv;cases hxv with
  |fn _ _ _ first' cap' l1 l2 l3 l4=>
   have hvs:FV β w (MS A β h2) (first++c.args.toList.map (ev env2)++cap) (first'++c.args.map a.eval++cap'):=
    (FV.append (FV.append ⟨l1,l3⟩ (FV.args s.env c.args)) ⟨l2,l4⟩)
   exact TS (Wh ho hc hax e5) (e6 env2 st.defs A β w a _ H hf s hvs) hn
 .cases hr
theorem Q7{m:String}(ho:o.op=.call c)(hc:c.callee=.invoke x m){g:FuncId}{t:TypeId}{v:Value}(hx:a.eval x=.iface t v)
 (hm:(method (P.types.size+Made.depth) t v m).run P w=.ok (g,v) w) (he:J2 P g):
 (o.semAt ro a.eval).run P w=.ok (.enter g (#[v]++c.args.map a.eval)) w:=by
 rw[Oper.semAt_eq _ _ _ (by simp[ho])];have e:(#[Value.iface t v]++c.args.map a.eval).extract 1 (#[Value.iface t v]++c.args.map a.eval).size=c.args.map a.eval:=by
  apply Array.ext';simp only[Array.toList_extract,Array.toList_append,RT];simp;rw[DL (by simp)]
 have e0:(#[Value.iface t v]++c.args.map a.eval)[0]? =some (.iface t v):=by
  rw[I5 (by simp)];rfl
 unfold execOp;simp only[ho,resolve,hc,hx,Sem.run_bind,Sem.run_pure,Result.andThen_ok];unfold invoke;simp only[e,e0];simp[callMethod,hm,Jl he]
theorem XD{C:B9}(hC:Ke P mix C){K:AK}(hT:Cn P W K){fr:Fr}{o:Oper}{c:Call}{x:Operand}{m:String}(ho:o.op=.call c)(hc:c.callee=.invoke x m){st st':St}{fp:Fp}
 (hL:LW W st.heap) (hr:FE C K fr ρ (ev st.env.get x) m (c.args.toList.map (ev st.env.get)) o.dst st=.ok st' fp)
 {env2:Nat→AV} {h2:AB} (he:Jf st.env.get env2 o.op) (hag:eG fp.rd st.heap.get h2.get) (hd: ∀d,o.dst=some d→d<nt.n):
 ∃v h2',st'.env=B8 st.env o.dst v∧st'.base=st.base∧(∀id,h2'.get id=ii fp.wr st'.heap.get h2.get id)∧NG P ro fr.bi ρ nt o env2 st.defs h2 v st'.defs h2':=by
 have hx:ev st.env.get x=ev env2 x:=he x (by rw[ho];simp[Op.operands,Call.operands,hc]);have hargs:c.args.toList.map (ev st.env.get)=c.args.toList.map (ev env2):=Eg fun y hy=>he y (by rw[ho];simp[Op.operands,Call.operands,hc,hy]);rw[hargs,hx]at hr;unfold FE at hr;split at hr
 .rename_i t rv hrv;split at hr
  .rename_i g hg;unfold DZ at hr;simp only[A3]at hr;obtain⟨v,h2',e1,e2,e3,e4,e5,e6⟩:=TB (nt:=nt) hT hL hr hag;refine⟨v,h2',e1,e2,e4,?_⟩;intro A β w a H hf s next Q hn
   have hxv:=HZ s.env x;rw[hrv]at hxv;generalize hax:a.eval x=ax at hxv;cases hxv with
   |iface _ _ u hu=>
    have hvs:FV β w (MS A β h2) ([rv]++c.args.toList.map (ev env2)++[]) (#[u]++c.args.map a.eval):=by
     rw[CS];refine FV.append ⟨rfl,fun i y z hy hz=>?_⟩ (FV.args s.env c.args);cases i with
     |zero=>simp at hy hz;subst hy hz;exact hu
     |succ i=>simp at hy
    rw[e3]at hn;exact TT (Q7 ho hc hax (hC.wp t m g hg u w) e5) hd (e6 env2 st.defs A β w a _ H hf s hvs) hn
  .cases hr
 .cases hr
theorem U9{C:B9}(hC:Ke P mix C){K:AK}(hT:Cn P W K){fr:Fr}{o:Oper}{c:Call}{x:Operand}{m:String}(ho:o.op=.call c)(hc:c.callee=.invoke x m){st st':St}{v:AV}
 (hL:LW W st.heap) (hr:FE C K fr ρ (ev st.env.get x) m (c.args.toList.map (ev st.env.get)) o.dst st=.f9 v st')
 {env2:Nat→AV} {h2:AB} (he:Jf st.env.get env2 o.op) (hag: ∀id,st.heap.get id=h2.get id):
 ∃h2',st'.env=st.env∧st'.base=st.base∧st'.defs=st.defs∧(∀id,h2'.get id=st'.heap.get id)∧Ui P ro fr.bi ρ nt o env2 st.defs h2 v h2':=by
 have hx:ev st.env.get x=ev env2 x:=he x (by rw[ho];simp[Op.operands,Call.operands,hc]);have hargs:c.args.toList.map (ev st.env.get)=c.args.toList.map (ev env2):=Eg fun y hy=>he y (by rw[ho];simp[Op.operands,Call.operands,hc,hy]);rw[hargs,hx]at hr;unfold FE at hr;split at hr
 .rename_i t rv hrv;split at hr
  .rename_i g hg;unfold DZ at hr;simp only[A3]at hr;obtain⟨h2',e1,e2,e3,e4,e5,e6⟩:=QV (nt:=nt) hT hL hr hag;refine⟨h2',e1,e2,e3,e4,?_⟩;intro A β w a H hf s next Q hn
   have hxv:=HZ s.env x;rw[hrv]at hxv;generalize hax:a.eval x=ax at hxv;cases hxv with
   |iface _ _ u hu=>
    have hvs:FV β w (MS A β h2) ([rv]++c.args.toList.map (ev env2)++[]) (#[u]++c.args.map a.eval):=by
     rw[CS];refine FV.append ⟨rfl,fun i y z hy hz=>?_⟩ (FV.args s.env c.args);cases i with
     |zero=>simp at hy hz;subst hy hz;exact hu
     |succ i=>simp at hy
    exact TS (Q7 ho hc hax (hC.wp t m g hg u w) e5) (e6 env2 st.defs A β w a _ H hf s hvs) hn
  .cases hr
 .cases hr
theorem Z1{C:B9}{K:AK}{fr:Fr}(hro:fr.wn=false→ro=none){o:Oper}{c:Call}(ho:o.op=.defer c){st st':St}{fp:Fp}(hr:Gw fr st.env.get c o.dst st=.ok st' fp)
 {env2:Nat→AV} {h2:AB} (he:Jf st.env.get env2 o.op) (hag:eG fp.rd st.heap.get h2.get) (hd: ∀d,o.dst=some d→d<nt.n):
 ∃v h2',st'.env=B8 st.env o.dst v∧st'.base=st.base∧(∀id,h2'.get id=ii fp.wr st'.heap.get h2.get id)∧NG P ro fr.bi ρ nt o env2 st.defs h2 v st'.defs h2':=by
 unfold Gw at hr;split at hr
 .rename_i x hc;have hx:ev st.env.get x=ev env2 x:=he x (by rw[ho];simp[Op.operands,Call.operands,hc]);have hargs:c.args.toList.map (ev st.env.get)=c.args.toList.map (ev env2):=Eg fun y hy=>he y (by rw[ho];simp[Op.operands,Call.operands,hc,hy]);split at hr
  .rename_i g hfn hrnd;simp only[GW.ok.injEq]at hr;obtain⟨rfl,rfl⟩:=hr;refine⟨.undef,h2,rfl,rfl,fun id=>(hag id).symm,?_⟩;intro A β w a H hf s next Q hn
   have hro':=hro hrnd;subst hro';have hxv:=HZ s.env x;rw[←hx,hfn]at hxv;generalize hax:a.eval x=ax at hxv;cases hxv with
   |fn _ _ _ first' cap' l1 l2 l3 l4=>
    have hf0:first'= #[]:=Li l1.symm;have hc0:cap'= #[]:=Li l2.symm;subst hf0 hc0;refine⟨fun _ _=>trivial,?_⟩;have hrun:(o.semAt (FF none).round a.eval).run P w=.ok (.defer {target:=.fn (.func g) #[],args:=c.args.map a.eval}) w:=by
     show(execOp a.eval o).run P w=_;simp[execOp,ho,resolve,hc,hax,Deferred.ofValue]
    rw[hrun,Oper.uponIn_defer];refine hn _ _ ⟨β,BM.refl H,?_⟩;have s':KV A β w nt env2 (.call g (c.args.toList.map (ev st.env.get))::st.defs) h2 {a with defers:={target:=.fn (.func g) #[],args:=c.args.map a.eval}::a.defers}:=
     ⟨s.sz,s.env,⟨.call _ _ _ (by rw[hargs];exact FV.args s.env c.args),s.defs,fun _ _ _ h=>by cases h⟩⟩
    exact s'.put hd (.undef _)
  .cases hr
 .cases hr
theorem Z3(ho:o.op=.panic x)(hr:FL st (ev st.env.get x)=.f9 v st')
   (he:Jf st.env.get env2 o.op) (hag: ∀id,st.heap.get id=h2.get id):
 ∃h2',st'.env=st.env∧st'.base=st.base∧st'.defs=st.defs∧(∀id,h2'.get id=st'.heap.get id)∧Ui P ro fr.bi ρ nt o env2 st.defs h2 v h2':=by
 have hx:ev st.env.get x=ev env2 x:=he x (by rw[ho];simp[Op.operands]);unfold FL at hr;split at hr
 .split at hr
  .rename_i t u hv;simp only[GW.f9.injEq]at hr;obtain⟨rfl,rfl⟩:=hr;refine⟨h2,rfl,rfl,rfl,fun id=>(hag id).symm,?_⟩;intro A β w a H hf s next Q hn
   have hxv:=HZ s.env x;rw[←hx,hv]at hxv;generalize hax:a.eval x=ax at hxv;cases hxv with
   |iface _ _ u' hu=>
    refine⟨fun _ _=>trivial,?_⟩;have hrun:(o.semAt (FF ro).round a.eval).run P w=.halt (.panic (.iface t u')) w:=by
     rw[Oper.semAt_eq _ _ _ (by simp[ho])];simp[execOp,ho,hax,Instr.panic,goPanic]
    rw[hrun];exact hn a w _ ⟨β,BM.refl H,s,.iface _ _ _ hu⟩
  .cases hr
 .cases hr
theorem vM(hC:Ke P mix C)(hT:Cn P W K)(hro:fr.wn=false→ro=none)(hL:LW W st.heap)(hr:Ay C K fr ρ o.op o.dst st=.ok st' fp)
   (he:Jf st.env.get env2 o.op) (hag:eG fp.rd st.heap.get h2.get) (hd: ∀d,o.dst=some d→d<nt.n):
 ∃v h2',st'.env=B8 st.env o.dst v∧st'.base=st.base∧(∀id,h2'.get id=ii fp.wr st'.heap.get h2.get id)∧NG P ro fr.bi ρ nt o env2 st.defs h2 v st'.defs h2':=by
 unfold Ay at hr;split at hr
 .rename_i c hop;split at hr
  .rename_i x hc;exact gn (C:=C) hT hop hc hL hr he hag hd
  .rename_i x m hc;exact XD hC hT hop hc hL hr he hag hd
  .rename_i b hc;have e:Jb C.T st.env.get st.heap.get ρ c=evalOp C.T st.env.get st.heap.get ρ o.op:=by rw[hop];rfl
   rw[e]at hr;exact Yp hC hr (by simp[hop]) he hag hd
 .rename_i x hop;unfold FL at hr;split at hr
  .split at hr<;>cases hr
  .cases hr
 .rename_i c hop;exact Z1 (C:=C) (K:=K) hro hop hr he hag hd
 .rename_i h1 h2 h3;exact Yp hC hr (fun c hc=>h3 c hc) he hag hd
theorem pW(hC:Ke P mix C)(hT:Cn P W K)(hL:LW W st.heap)(hr:Ay C K fr ρ o.op o.dst st=.f9 v st')
   (he:Jf st.env.get env2 o.op) (hag: ∀id,st.heap.get id=h2.get id):
 ∃h2',st'.env=st.env∧st'.base=st.base∧st'.defs=st.defs∧(∀id,h2'.get id=st'.heap.get id)∧Ui P ro fr.bi ρ nt o env2 st.defs h2 v h2':=by
 have noPlain: ∀{x:Option Br},Cw fr o.op o.dst st x=.f9 v st'→False:=by
  intro x hr;unfold Cw at hr;split at hr
  .simp only[JY,BO]at hr;split at hr
   .simp at hr
   .cases hr
  .cases hr
 unfold Ay at hr;split at hr
 .rename_i c hop;split at hr
  .rename_i x hc;exact Z0 (C:=C) hT hop hc hL hr he hag
  .rename_i x m hc;exact U9 hC hT hop hc hL hr he hag
  .skip
   exact(noPlain hr).elim
 .rename_i x hop;exact Z3 hop hr he hag
 .rename_i c hop;unfold Gw at hr;split at hr
  .split at hr<;>cases hr
  .cases hr
 .exact(noPlain hr).elim
variable{P:Program}{mix:List TypeId}{ρ:List Nat}{W:Lp→Prop}
theorem OD{wr:Option (List Id)}{id:Id}:ii wr g g id=g id:=by
 cases wr with
 |none=>rfl
 |some l=>simp[ii]
theorem tt{h:AB}{id:Id}:ii (some (δ.map (·.1))) (h.puts δ).get h.get id=(h.puts δ).get id:=by
 simp only[ii];split
 .rfl
 .rename_i hi;exact(LJ hi).symm
def nY(st st':St)(fp:Fp):Prop:=st'.defs=st.defs∧ ∀id,ii fp.wr st'.heap.get st.heap.get id=st'.heap.get id
variable{dst:Option Tmp}
theorem LK{E:E (AZ×AB)}(hr:De ρ dst st E=.ok st' fp):nY st st' fp:=by
 unfold De at hr;split at hr
 .simp only[Aw,Aa,GW.ok.injEq]at hr;obtain⟨rfl,rfl⟩:=hr;exact⟨rfl,fun id=>(SC (fun _=>rfl) id).symm⟩
 .simp at hr
 .cases hr
theorem Wg{f:FuncId}{m:Mode}(hr:C5 K fr ρ f as dst st m=.ok st' fp):nY st st' fp:=by
 unfold C5 at hr;split at hr
 .exact LK hr
 .split at hr
  .rename_i xs hx;simp only[A3]at hr;unfold C0 at hr;split at hr
   .rename_i v hc hK;simp only[Aw]at hr;split at hr
    .simp only[GW.ok.injEq]at hr;obtain⟨rfl,rfl⟩:=hr;exact⟨rfl,fun _=>OD⟩
    .unfold G3 at hr;split at hr
     .rename_i o ho;simp only[Aa,GW.ok.injEq]at hr;obtain⟨rfl,rfl⟩:=hr;refine⟨rfl,fun id=>?_⟩;obtain⟨i,ob⟩:=o;simp only[ii,As,AB.get_cons];by_cases e:id=i
      .simp[e]
      .simp[e,Ne.symm e]
     .simp only[BO]at hr;split at hr
      .simp only[Aa,GW.ok.injEq]at hr;obtain⟨rfl,rfl⟩:=hr;refine⟨rfl,fun id=>?_⟩;simp only[ii];split
       .rfl
       .rename_i hi;simp only[D5,not_or]at hi;rw[AB.get_append,LJ hi.1];cases hg:hc.get id with
        |none=>rfl
        |some o=>exact absurd (RP hg) hi.2
      .cases hr
   .split at hr<;>cases hr
   .cases hr
  .unfold Ea at hr;simp only[A3,BO,Aa]at hr;split at hr
   .unfold N7 at hr;split at hr
    .split at hr
     .simp only[Aw,GW.ok.injEq]at hr;obtain⟨rfl,rfl⟩:=hr;exact⟨rfl,fun _=>OD⟩
     .cases hr
    .split at hr<;>cases hr
    .cases hr
   .split at hr
    .exact LK hr
    .cases hr
theorem PF{fv:AV}{args:List AV}(hr:DZ C K fr ρ fv args dst st=.ok st' fp):nY st st' fp:=by
 unfold DZ at hr;split at hr
 .unfold JA at hr;split at hr
  .exact LK hr
  .cases hr
 .simp only[A3]at hr;exact Wg hr
 .cases hr
variable{op:Op}
theorem NR{x:Option Br}(hr:Cw fr op dst st x=.ok st' fp):nY st st' fp:=by
 unfold Cw at hr;split at hr
 .simp only[JY,BO]at hr;split at hr
  .simp only[Aw,Kz,GW.ok.injEq]at hr;obtain⟨rfl,rfl⟩:=hr;exact⟨rfl,fun _=>tt⟩
  .cases hr
 .cases hr
theorem pY(hr:Ay C K fr ρ op dst st=.ok st' fp):(∀id,ii fp.wr st'.heap.get st.heap.get id=st'.heap.get id)∧((∀c,op≠ .defer c)→st'.defs=st.defs):=by
 have fin:nY st st' fp→(∀id,ii fp.wr st'.heap.get st.heap.get id=st'.heap.get id)∧((∀c,op≠ .defer c)→st'.defs=st.defs):=fun c=>⟨c.2,fun _=>c.1⟩;unfold Ay at hr;split at hr
 .split at hr
  .exact fin (PF hr)
  .unfold FE at hr;split at hr
   .split at hr
    .exact fin (PF hr)
    .cases hr
   .cases hr
  .exact fin (NR hr)
 .unfold FL at hr;split at hr
  .split at hr<;>cases hr
  .cases hr
 .rename_i c;unfold Gw at hr;split at hr
  .split at hr
   .simp only[GW.ok.injEq]at hr;obtain⟨rfl,rfl⟩:=hr;exact⟨fun _=>OD,fun h=>absurd rfl (h c)⟩
   .cases hr
  .cases hr
 .exact fin (NR hr)
theorem M9{ops:Array Oper}(hr:Bx C K fr ops ρ o st=.ok st' fp):
 (∀id,ii fp.wr st'.heap.get st.heap.get id=st'.heap.get id)∧((∀c,o.op≠ .defer c)→st'.defs=st.defs):=by
 unfold Bx at hr;split at hr
 .cases hr
 .simp only[Aw,GW.ok.injEq]at hr;obtain⟨rfl,rfl⟩:=hr;exact⟨fun _=>OD,fun _=>rfl⟩
 .exact pY hr
def s5:Op→Bool
 |.move _|.assign _|.pick ..|.alloc _|.box ..|.build ..|.nilCheck _|.binOp ..|.unOp ..|.makeInterface ..|.typeAssert ..|.makeFunc ..|.makeMap ..|.makeSlice ..|.fieldAddr ..|.field ..|.index ..|.extract ..=>true
 |.call c=>match c.callee with
  |.builtin .max=>true
  |.builtin .min=>true
  |_=>false
 |_=>false
def V9:Op→Bool
 |.move _|.assign _|.pick ..|.build ..|.load ..|.nilCheck _|.binOp ..|.unOp ..|.makeInterface ..|.typeAssert ..|.makeFunc ..|.lookup ..|.slice ..|.fieldAddr ..|.field ..|.indexAddr ..|.index ..|.extract ..=>true
 |.call c=>match c.callee with
  |.builtin .max=>true
  |.builtin .min=>true
  |.builtin .len=>true
  |_=>false
 |_=>false
theorem s6{e:Nat→AV}(h:s5 op=true):FI e g op=[]:=by
 cases op<;>first|rfl|(simp[s5]at h;done)|skip
 rename_i c;obtain⟨callee,args,ats⟩:=c;cases callee with
 |builtin b=>cases b<;>first|rfl|simp[s5]at h
 |_=>simp[s5]at h
variable{α:Type}{eff:Br}
theorem map_nil{f:α→AV}{x:Option α}(h:x.map (fun y=>(⟨f y,[]⟩:Br))=some eff):eff.δ=[]:=by
 simp only[BI]at h;obtain⟨y,_,rfl⟩:=h;rfl
variable{T:TypeId→Option TI}{n:Id}
theorem ZU{e:Nat→AV}(h:V9 op=true)(he:evalOp T e g n op=some eff):eff.δ=[]:=by
 cases op<;>first|(simp[V9]at h;done)|skip
 all_goals simp only[evalOp]at he
 case move=>cases he;rfl
 case assign=>cases he;rfl
 case pick=>unfold Mv at he;split at he<;>cases he;rfl
 case build=>unfold JM at he;split at he
             .split at he
              .cases he
              .exact map_nil he
             .cases he
 case load=>unfold KQ at he;split at he
            .exact map_nil he
            .cases he
 case nilCheck=>unfold Fb at he;split at he<;>cases he<;>rfl
 case binOp=>exact map_nil he
 case unOp=>
  unfold lH at he;split at he
  .unfold fI at he;split at he<;>cases he;rfl
  .cases he
 case makeInterface=>
  unfold KO at he;split at he
  .split at he<;>cases he;rfl
  .cases he
 case makeFunc=>unfold Fa at he;split at he<;>cases he;rfl
 case slice=>
  unfold G2 at he;split at he
  .split at he
   .exact map_nil he
   .exact map_nil he
   .cases he
  .cases he
 case fieldAddr=>
  unfold Dv at he;split at he
  .split at he
   .split at he
    .cases he
    .split at he
     .cases he;rfl
     .cases he;rfl
     .split at he<;>cases he;rfl
     .cases he
   .cases he
  .cases he
 case field=>
  unfold L1 at he;split at he
  .split at he
   .exact map_nil he
   .cases he
  .cases he
 case indexAddr=>
  unfold Cd at he;split at he
  .split at he
   .unfold MO at he;split at he
    .split at he
     .split at he
      .split at he<;>cases he;rfl
      .cases he
     .split at he
      .split at he<;>first|(split at he<;>cases he;rfl)|cases he
      .cases he
     .cases he
    .cases he
   .unfold eT at he;split at he
    .split at he<;>cases he;rfl
    .cases he
   .cases he
  .cases he
 case index=>
  unfold KP at he;split at he
  .split at he
   .exact map_nil he
   .cases he
  .cases he
 case lookup=>
  unfold Ei at he;split at he
  .split at he
   .split at he
    .split at he
     .unfold KK at he;split at he<;>cases he<;>rfl
     .cases he
    .cases he
   .cases he
  .cases he
 case typeAssert x xt t ok=>
  cases ok with
  |false=>cases he
  |true=>
   simp only at he;unfold HI at he;split at he
   .split at he
    .cases he
    .split at he
     .cases he;rfl
     .exact map_nil he
   .cases he
 case extract=>
  unfold Hz at he;split at he
  .exact map_nil he
  .cases he
 case call c=>
  obtain⟨callee,args,ats⟩:=c;cases callee with
  |builtin b=>
   simp only[Jb]at he;unfold Fj at he;cases b<;>first|(simp[V9]at h;done)|skip
   .simp only at he;split at he
    .split at he
     .split at he
      .exact map_nil he
      .cases he
     .cases he
    .cases he
   .simp only at he;split at he
    .unfold YP at he;split at he
     .split at he<;>cases he;rfl
     .cases he
    .cases he
   .simp only at he;split at he
    .unfold YQ at he;split at he
     .split at he<;>cases he;rfl
     .cases he
    .cases he
  |_=>simp[V9]at h
theorem Z4{x:Option Br}(hr:Cw fr op dst st x=.ok st' fp): ∃eff,x=some eff∧fp=⟨some (FI st.env.get st.heap.get op),some (eff.δ.map (·.1))⟩:=by
 unfold Cw at hr;split at hr
 .simp only[JY,BO]at hr;split at hr
  .simp only[Aw,Kz,GW.ok.injEq]at hr;obtain⟨rfl,rfl⟩:=hr;exact⟨_,rfl,rfl⟩
  .cases hr
 .cases hr
theorem UR{ops:Array Oper}(hr:Bx C K fr ops ρ o st=.ok st' fp):
 (s5 o.op=true→fp.rd=some [])∧(V9 o.op=true→fp.wr=some []):=by
 unfold Bx at hr;split at hr
 .cases hr
 .simp only[Aw,GW.ok.injEq]at hr;obtain⟨rfl,rfl⟩:=hr;exact⟨fun _=>rfl,fun _=>rfl⟩
 .have plain: ∀{x:Option Br},Cw fr o.op o.dst st x=.ok st' fp→x=evalOp C.T st.env.get st.heap.get ρ o.op→(s5 o.op=true→fp.rd=some [])∧(V9 o.op=true→fp.wr=some []):=by
   intro x hr hx;obtain⟨eff,rfl,rfl⟩:=Z4 hr;exact⟨fun h=>by simp only[s6 h],fun h=>by simp only[ZU h hx.symm,CO]⟩
  unfold Ay at hr;split at hr
  .rename_i c hop;split at hr
   .rename_i x hc;exact⟨fun h=>by simp[hop,s5,hc]at h,fun h=>by simp[hop,V9,hc]at h⟩
   .rename_i x y hc;exact⟨fun h=>by simp[hop,s5,hc]at h,fun h=>by simp[hop,V9,hc]at h⟩
   .exact plain hr (by rw[hop];rfl)
  .unfold FL at hr;split at hr
   .split at hr<;>cases hr
   .cases hr
  .rename_i c hop;exact⟨fun h=>by simp[hop,s5]at h,fun h=>by simp[hop,V9]at h⟩
  .exact plain hr rfl
variable{es:List (List AV)}
theorem A0.newArr{j:TI}(h:newArr g n j es=some eff):A0 eff.δ:=by
 unfold Abs.newArr at h;split at h
 .cases h
 .split at h
  .cases h;exact .one rfl
  .split at h
   .cases h;exact(A0.markEs es).append (.one rfl)
   .cases h
theorem A0.mapE{f:α→Br}{x:Option α}(hf: ∀y,A0 (f y).δ)(h:x.map f=some eff):A0 eff.δ:=by
 simp only[BI]at h;obtain⟨y,_,rfl⟩:=h;exact hf y
variable{off sz:Nat}{src:List (List AV)}
theorem A0.appIn{id:Id}{k:Nat}{es:List (List AR)}(h:appIn g n id off k sz es src=some eff):A0 eff.δ:=by
 unfold Abs.appIn at h;split at h
 .split at h
  .cases h;exact(A0.markEs src).append (.one rfl)
  .split at h
   .cases h;exact(A0.markEs src).append (.cons rfl (.one rfl))
   .cases h
 .cases h
theorem A0.appMix{id:Id}{k:Nat}(h:appMix n id off k sz es src=some eff):A0 eff.δ:=by
 unfold Abs.appMix at h;split at h
 .cases h;exact .one rfl
 .split at h
  .cases h;exact .cons rfl (.one rfl)
  .cases h
variable{s:AV}
theorem A0.appTo{j:TI}(h:appTo g n j s src=some eff):A0 eff.δ:=by
 unfold Abs.appTo at h;split at h
 .exact .newArr h
 .exact .newArr h
 .split at h
  .split at h
   .exact .appIn h
   .cases h
  .split at h
   .exact .appMix h
   .cases h
  .cases h
 .cases h
theorem A0.appendV{j:TI}{x:AV}(h:appendV g n j s x=some eff):A0 eff.δ:=by
 unfold Abs.appendV at h;split at h
 .cases h
 .split at h<;>cases h<;>exact .nil
 .split at h
  .exact .appTo h
  .cases h
theorem A0.store{i:TI}{a:AV}(h:Iq g i a v=some eff):A0 eff.δ:=by
 unfold Iq at h;split at h
 .cases h
 .split at h
  .split at h
   .exact .mapE (fun _=>.one rfl) h
   .cases h
  .split at h
   .split at h
    .exact .mapE (fun _=>(A0.marks _).append (.one rfl)) h
    .cases h
   .split at h
    .exact .mapE (fun _=>.one rfl) h
    .cases h
   .cases h
  .cases h
theorem A0.mapPut{t:Option TI}{m k:AV}(h:mapPut T g t m k v=some eff):A0 eff.δ:=by
 unfold Abs.mapPut at h;split at h
 .cases h
 .split at h
  .split at h
   .split at h
    .cases h;exact .one rfl
    .cases h
   .cases h
  .cases h
theorem A0.evalOp{T:TypeId→Option TI}{e:Nat→AV}{g:G}{n:Id}{op:Op}{eff:Br}(h:evalOp T e g n op=some eff):A0 eff.δ:=by
 by_cases hw:V9 op=true
 .rw[ZU hw h];exact .nil
 cases op<;>simp only[V9,not_true_eq_false]at hw<;>simp only[Abs.evalOp,reduceCtorEq]at h
 case alloc=>unfold JL at h;split at h
             .split at h<;>cases h;exact .one rfl
             .cases h
 case box=>unfold PY at h;split at h
           .split at h<;>cases h;exact .one rfl
           .cases h
 case buildSlice=>
  unfold CB at h;split at h
  .split at h
   .unfold Fx at h;split at h
    .split at h
     .cases h;exact .nil
     .split at h
      .exact .newArr h
      .cases h
    .cases h
   .cases h
  .cases h
 case store=>unfold Hn at h;split at h
             .exact .store h
             .cases h
 case makeMap=>unfold Gj at h;split at h<;>cases h;exact .one rfl
 case makeSlice=>
  unfold CL at h;split at h
  .split at h
   .split at h
    .unfold FO at h;split at h
     .cases h;exact .nil
     .exact .newArr h
    .cases h
   .cases h
  .cases h
 case insert=>exact .mapPut h
 case mapUpdate=>exact .mapPut h
 case call c=>
  obtain⟨callee,args,ats⟩:=c;unfold Jb at h;split at h
  .rename_i b hb;simp only at hb;subst hb;unfold Fj at h;split at h
   .simp[V9]at hw
   .split at h
    .unfold HH at h;split at h
     .split at h
      .exact .appendV h
      .cases h
     .cases h
    .cases h
   .split at h
    .unfold FP at h;split at h
     .split at h
      .split at h
       .cases h;exact .nil
       .split at h
        .unfold Gv at h;split at h
         .split at h
          .split at h
           .exact .mapE (fun _=>.one rfl) h
           .cases h
          .cases h
         .cases h
        .cases h
      .cases h;exact .nil
      .cases h;exact .nil
      .cases h
     .cases h
    .cases h
   .simp[V9]at hw
   .simp[V9]at hw
   .cases h
  .cases h
theorem Oy{E:E (AZ×AB)}(hE: ∀c hc,E=.ok (c,hc)→LW W hc)(hr:De ρ dst st E=.ok st' fp):LW W st'.heap:=by
 unfold De at hr;split at hr
 .rename_i v hc;simp only[Aw,Aa,GW.ok.injEq]at hr;obtain⟨rfl,rfl⟩:=hr;exact(hE _ _ rfl).gc
 .simp at hr
 .cases hr
theorem fu(hT:Cn P W K){f:FuncId}{m:Mode}(hL:LW W st.heap)(hr:C5 K fr ρ f as dst st m=.ok st' fp):LW W st'.heap:=by
 unfold C5 at hr;split at hr
 .exact Oy (fun c hc hK=>(hT _ _ _ _ _ _ _ hK).lw (fun _ _ h=>by cases h) hL) hr
 .split at hr
  .rename_i xs hx;simp only[A3]at hr;unfold C0 at hr;split at hr
   .rename_i v hc hK;simp only[Aw]at hr;split at hr
    .simp only[GW.ok.injEq]at hr;obtain⟨rfl,rfl⟩:=hr;exact hL
    .unfold G3 at hr;split at hr
     .rename_i o ho;simp only[Aa,GW.ok.injEq]at hr;obtain⟨rfl,rfl⟩:=hr;refine hL.cons ?_;unfold BK at ho;split at ho
      .split at ho
       .split at ho<;>cases ho;rfl
       .cases ho
      .cases ho
     .simp only[BO]at hr;split at hr
      .simp only[Aa,GW.ok.injEq]at hr;obtain⟨rfl,rfl⟩:=hr;exact((hT _ _ _ _ _ _ _ hK).lw (fun _ _ h=>by cases h) LW.nil).append (hL.puts (A0.markAll as))
      .cases hr
   .split at hr<;>cases hr
   .cases hr
  .unfold Ea at hr;simp only[A3,BO,Aa]at hr;split at hr
   .unfold N7 at hr;split at hr
    .split at hr
     .simp only[Aw,GW.ok.injEq]at hr;obtain⟨rfl,rfl⟩:=hr;exact hL
     .cases hr
    .split at hr<;>cases hr
    .cases hr
   .split at hr
    .exact Oy (fun c hc hK=>(hT _ _ _ _ _ _ _ hK).lw (fun _ _ h=>by cases h) (hL.puts (A0.markAll as))) hr
    .cases hr
theorem Qj{x:Option Br}(hx: ∀eff,x=some eff→A0 eff.δ)(hL:LW W st.heap)(hr:Cw fr op dst st x=.ok st' fp):LW W st'.heap:=by
 unfold Cw at hr;split at hr
 .simp only[JY,BO]at hr;split at hr
  .simp only[Aw,Kz,GW.ok.injEq]at hr;obtain⟨rfl,rfl⟩:=hr;exact hL.puts (hx _ rfl)
  .cases hr
 .cases hr
theorem UU(hT:Cn P W K){ops:Array Oper}(hL:LW W st.heap)(hr:Bx C K fr ops ρ o st=.ok st' fp):LW W st'.heap:=by
 have call: ∀{fv:AV} {args:List AV} {dst:Option Tmp},DZ C K fr ρ fv args dst st=.ok st' fp→LW W st'.heap:=by
  intro fv args dst hr;unfold DZ at hr;split at hr
  .unfold JA at hr;split at hr
   .rename_i r hg;exact Oy (fun c hc hK=>(hT _ _ _ _ _ _ _ hK).lw (fun _ _ h=>by cases h;exact hL _ _ hg) hL) hr
   .cases hr
  .simp only[A3]at hr;exact fu hT hL hr
  .cases hr
 unfold Bx at hr;split at hr
 .cases hr
 .simp only[Aw,GW.ok.injEq]at hr;obtain⟨rfl,rfl⟩:=hr;exact hL
 .unfold Ay at hr;split at hr
  .split at hr
   .exact call hr
   .unfold FE at hr;split at hr
    .split at hr
     .exact call hr
     .cases hr
    .cases hr
   .rename_i c b hb;refine Qj (fun eff he=>?_) hL hr;exact A0.evalOp (op:=.call _) he
  .unfold FL at hr;split at hr
   .split at hr<;>cases hr
   .cases hr
  .unfold Gw at hr;split at hr
   .split at hr
    .simp only[GW.ok.injEq]at hr;obtain⟨rfl,rfl⟩:=hr;exact hL
    .cases hr
   .cases hr
  .exact Qj (fun eff he=>A0.evalOp he) hL hr
theorem Sw(hT:Cn P W K){ops:Array Oper}(hL:LW W st.heap)(hr:Bx C K fr ops ρ o st=.f9 v st'):LW W st'.heap:=by
 have raw: ∀{E:E (AZ×AB)} {dst:Option Tmp},(∀c hc,E=.ok (c,hc)→LW W hc)→De ρ dst st E=.f9 v st'→LW W st'.heap:=by
  intro E dst hE hr;unfold De at hr;split at hr
  .simp at hr
  .rename_i v hc;simp only[Aa,GW.f9.injEq]at hr;obtain⟨rfl,rfl⟩:=hr;exact(hE _ _ rfl).gc
  .cases hr
 have plain: ∀{op:Op} {dst:Option Tmp} {x:Option Br},Cw fr op dst st x=.f9 v st'→False:=by
  intro op dst x hr;unfold Cw at hr;split at hr
  .simp only[JY,BO]at hr;split at hr
   .simp at hr
   .cases hr
  .cases hr
 have call: ∀{fv:AV} {args:List AV} {dst:Option Tmp},DZ C K fr ρ fv args dst st=.f9 v st'→LW W st'.heap:=by
  intro fv args dst hr;unfold DZ at hr;split at hr
  .unfold JA at hr;split at hr
   .rename_i r hg;exact raw (fun c hc hK=>(hT _ _ _ _ _ _ _ hK).lw (fun _ _ h=>by cases h;exact hL _ _ hg) hL) hr
   .cases hr
  .simp only[A3]at hr;unfold C5 at hr;split at hr
   .exact raw (fun c hc hK=>(hT _ _ _ _ _ _ _ hK).lw (fun _ _ h=>by cases h) hL) hr
   .split at hr
    .rename_i xs hx;simp only[A3]at hr;unfold C0 at hr;split at hr
     .simp only[Aw]at hr;split at hr
      .cases hr
      .unfold G3 at hr;split at hr
       .simp at hr
       .simp only[BO]at hr;split at hr
        .simp at hr
        .cases hr
     .split at hr
      .simp only[GW.f9.injEq]at hr;obtain⟨rfl,rfl⟩:=hr;exact hL
      .cases hr
     .cases hr
    .unfold Ea at hr;simp only[A3,BO,Aa]at hr;split at hr
     .unfold N7 at hr;split at hr
      .split at hr
       .simp at hr
       .cases hr
      .split at hr
       .simp only[GW.f9.injEq]at hr;obtain⟨rfl,rfl⟩:=hr;exact hL
       .cases hr
      .cases hr
     .split at hr
      .exact raw (fun c hc hK=>(hT _ _ _ _ _ _ _ hK).lw (fun _ _ h=>by cases h) (hL.puts (A0.markAll _))) hr
      .cases hr
  .cases hr
 unfold Bx at hr;split at hr
 .cases hr
 .simp at hr
 .unfold Ay at hr;split at hr
  .split at hr
   .exact call hr
   .unfold FE at hr;split at hr
    .split at hr
     .exact call hr
     .cases hr
    .cases hr
   .exact(plain hr).elim
  .unfold FL at hr;split at hr
   .split at hr
    .simp only[GW.f9.injEq]at hr;obtain⟨rfl,rfl⟩:=hr;exact hL
    .cases hr
   .cases hr
  .unfold Gw at hr;split at hr
   .split at hr<;>cases hr
   .cases hr
  .exact(plain hr).elim
variable{A:Nat→Prop}{P:Program}{mix:List TypeId}{β β' β'':Ag}{w w' w'':World}{M:Nat→Prop}{h h' h'':AB}{π ρ:List Nat}{bi:Option (List Nat)}{nt:NT}{env:Nat→AV}{defs defs':List Df}{a:Act}{ro:Option Nat}{W:Lp→Prop}
def Bl(β:Ag)(π:List Nat)(b:Nat):Prop:= ∀n,b≤n→EU β (n::π)
theorem JO{n m:Nat}{π id:List Nat}(h1:(n::π)<:+id)(h2:(m::π)<:+id):n=m:=by
 obtain⟨t1,e1⟩:=h1;obtain⟨t2,e2⟩:=h2;have:=e1.trans e2.symm;have:=List.append_inj_right' this (by simp);simpa using this
theorem EU.other{n m:Nat}(hf:EU β (m::π))(hne:m≠n)(ho: ∀id,¬(n::π)<:+id→β' id=β id):EU β' (m::π):=fun id hi=>by
 rw[ho id fun h=>hne (JO hi h)];exact hf id hi
theorem Bl.next{n:Nat}(hf:Bl β π n)(ho: ∀id,¬(n::π)<:+id→β' id=β id):Bl β' π (n+1):=
 fun m hm=>(hf m (by omega)).other (by omega) ho
def KG(ops:Array Oper)(e:Nat→AV)(o:Oper):Option Bool:=
 match o.guard with
 |none=>some true
 |some (j,want)=>match((ops[j]?).bind (·.dst)).map e with
  |some (.d (.bool b))=>some (b==want)
  |some (.it [])=>some false
  |_=>none
def GZ(ops:Array Oper)(j:Nat):Option Tmp:=(ops[j]?).bind fun o=>o.dst
variable{Q':Exit→Act→World→Prop}
theorem Nq(hq: ∀e a w,Q e a w→Q' e a w)(h:LetsOut Q):LetsOut Q':=let ⟨a,w,h⟩:=h;⟨a,w,hq _ _ _ h⟩
theorem Vz{F:Fence}{n:Nat}{ops:Array Oper}(hq: ∀e a w,Q e a w→Q' e a w){i:Nat}{K:Act→World→Prop}{a:Act}{w:World}(h:wpOpIn F n P ops Q i K a w):wpOpIn F n P ops Q' i K a w:=by
 unfold wpOpIn at*;split
 .rename_i h0;rw[h0]at h;exact h
 .rename_i o ho;simp only[ho]at h;split
  .rename_i hw;simp only[hw,F5]at h;refine⟨h.1,?_⟩;have h:=h.2;generalize (o.semAt F.round a.eval).run P w=r at*;cases r with
   |ok x w'=>
    cases x<;>simp only[Oper.uponIn]at h⊢ <;>
     first
      |exact h
      |exact⟨h.1,CallsIn.mono h.2 (fun e w'' he=>by cases e<;>first|exact he|exact hq _ _ _ he|exact Nq hq he)⟩
      |exact⟨h.1,RoundIn.mono h.2 (fun e w'' he=>by cases e<;>first|exact he|exact hq _ _ _ he|exact Nq hq he)⟩
   |halt x w'=>cases x<;>simp only[Oper.uponIn]at h⊢ <;>first|exact h|exact hq _ _ _ h
  .rename_i hw;simp only[hw]at h;exact h
variable{b:Nat}
theorem Bl.next'{i:Nat}(hf:Bl β π (b+i))(ho: ∀id,¬((b+i)::π)<:+id→β' id=β id):Bl β' π (b+(i+1)):=hf.next ho
theorem Bl.mono{c:Nat}(hf:Bl β π b)(h:b≤c):Bl β π c:=fun n hn=>hf n (IP h hn)
theorem KT{F:Fence}{n:Nat}{ops:Array Oper}(hq: ∀e a w,Q e a w→Q' e a w): ∀{l:List Nat} {a:Act} {w:World},wpOpsIn F n P ops Q l a w→wpOpsIn F n P ops Q' l a w
 |[],a,w,h=>hq _ _ _ h
 |i::l,a,w,h=>by
  rw[wpOpsIn_cons]at h⊢;have:=wpOpIn_mono (K':=wpOpsIn F n P ops Q' l) (fun a w=>KT hq) h;exact Vz hq this
theorem yv{u:Value}(h:VR β w M (.it []) u):u=.tuple #[]:=by
 cases h with
 |it _ c h1 _=>
  have:c= #[]:=Li (by simpa using h1.symm);rw[this]
theorem O7{ops:Array Oper}{e:Nat→AV}{t:Bool}(he:Iw β w M e fun t=>a.tmps.getD t Go.undef)(hsz: ∀d j,GZ ops j=some d→d<a.tmps.size)(hg:KG ops e o=some t):
 Region.wanted o (yielded ops a.tmps)=t:=by
 unfold KG at hg;unfold Region.wanted;split at hg
 .rename_i h0;rw[h0];simpa using hg
 .rename_i j want h0;rw[h0];simp only;cases hd:(ops[j]?).bind (·.dst)with
  |none=>rw[hd]at hg;cases hg
  |some d=>
   rw[hd]at hg;simp only[D9]at hg;split at hg
   .rename_i b hb;simp only[Bi]at hb hg;have hv:=he d;rw[hb]at hv;have hv':=G7 hv;have hlt:=hsz d j hd;have:a.tmps[d]? =some (.bool b):=by
     simp only at hv';rw[F3,D2 hlt]at hv';rw[D2 hlt];simpa using hv'
    simp only[yielded,hd,IT,this];rw[←hg];cases b<;>cases want<;>rfl
   .rename_i hb;simp only[Bi]at hb hg;have hv:=he d;rw[hb]at hv;have hv':a.tmps.getD d Go.undef=.tuple #[]:=yv hv;have hlt:=hsz d j hd;have:a.tmps[d]? =some (.tuple #[]):=by
     rw[F3,D2 hlt]at hv';rw[D2 hlt];simpa using hv'
    simp only[yielded,hd,IT,this];rw[←hg];rfl
   .cases hg
theorem O5(hC:Ke P mix C)(hT:Cn P W K)(hro:fr.wn=false→ro=none){ops:Array Oper}{i:Nat}(hi:ops[i]? =some o)
 (hL:LW W st.heap) (hr:Bx C K fr ops ρ o st=.ok st' fp)   (he:Jf st.env.get env2 o.op) (hgd:KG ops env2 o=KG ops st.env.get o) (hag:eG fp.rd st.heap.get h2.get)
 (hds: ∀o∈ops,∀d,o.dst=some d→d<nt.n):
 ∃v h2',st'.env=B8 st.env o.dst v∧st'.base=st.base∧(∀id,h2'.get id=ii fp.wr st'.heap.get h2.get id)∧
  ∀(A:Nat→Prop) (β:Ag) (w:World) (a:Act),HR A β w h2→EU β ρ→KV A β w nt env2 st.defs h2 a→ ∀(next:Act→World→Prop) (Q:Exit→Act→World→Prop),
   (∀a' w',Aft A fr.bi ρ nt β w h2 (Ov env2 o.dst v) st'.defs h2' a' w'→next a' w')→wpOpIn (FF ro) 0 P ops Q i next a w:=by
 have hd: ∀d,o.dst=some d→d<nt.n:=hds o (PM hi);have hall: ∀{a:Act},a.tmps.size=nt.n→ ∀d j,GZ ops j=some d→d<a.tmps.size:=by
  intro a hsz d j hj;rw[hsz];unfold GZ at hj;cases ho:ops[j]? with
  |none=>rw[ho]at hj;cases hj
  |some o'=>rw[ho]at hj;exact hds o' (PM ho) d hj
 unfold Bx at hr;split at hr
 .cases hr
 .rename_i hg;simp only[Aw,GW.ok.injEq]at hr;obtain⟨rfl,rfl⟩:=hr;refine⟨.it [],h2,rfl,rfl,fun id=>(Vv _ _ id).symm,?_⟩;intro A β w a H hf s next Q hn
  have hw:=O7 (ops:=ops) s.env (hall s.sz) (by rw[hgd];exact hg);unfold wpOpIn;simp only[hi,hw];exact⟨fun _ _=>trivial,hn _ _ ⟨β,BM.refl H,s.put hd (.it [] #[] rfl (fun i x v h=>by simp at h))⟩⟩
 .rename_i hg;obtain⟨v,h2',e1,e2,e3,e4⟩:=vM (ro:=ro) (nt:=nt) hC hT hro hL hr he hag hd;refine⟨v,h2',e1,e2,e3,?_⟩;intro A β w a H hf s next Q hn
  have hw:=O7 (ops:=ops) s.env (hall s.sz) (by rw[hgd];exact hg);unfold wpOpIn;simp only[hi,hw,F5];exact e4 A β w a H hf s next Q hn
theorem R9(hC:Ke P mix C)(hT:Cn P W K){ops:Array Oper}{i:Nat}(hi:ops[i]? =some o)
 (hL:LW W st.heap) (hr:Bx C K fr ops ρ o st=.f9 v st')   (he:Jf st.env.get env2 o.op) (hgd:KG ops env2 o=KG ops st.env.get o) (hag: ∀id,st.heap.get id=h2.get id)
 (hds: ∀o∈ops,∀d,o.dst=some d→d<nt.n):
 ∃h2',st'.env=st.env∧st'.base=st.base∧st'.defs=st.defs∧(∀id,h2'.get id=st'.heap.get id)∧
  ∀(A:Nat→Prop) (β:Ag) (w:World) (a:Act),HR A β w h2→EU β ρ→KV A β w nt env2 st.defs h2 a→ ∀(next:Act→World→Prop) (Q:Exit→Act→World→Prop),
   (∀a' w' u,Uh A fr.bi ρ nt β w h2 env2 st.defs h2' v u a' w'→Q (.panic [{v:=u,recovered:=false}]) a' w')→wpOpIn (FF ro) 0 P ops Q i next a w:=by
 have hall: ∀{a:Act},a.tmps.size=nt.n→ ∀d j,GZ ops j=some d→d<a.tmps.size:=by
  intro a hsz d j hj;rw[hsz];unfold GZ at hj;cases ho:ops[j]? with
  |none=>rw[ho]at hj;cases hj
  |some o'=>rw[ho]at hj;exact hds o' (PM ho) d hj
 unfold Bx at hr;split at hr
 .cases hr
 .simp at hr
 .rename_i hg;obtain⟨h2',e1,e2,e3,e4,e5⟩:=pW (ro:=ro) (nt:=nt) hC hT hL hr he hag;refine⟨h2',e1,e2,e3,e4,?_⟩;intro A β w a H hf s next Q hn
  have hw:=O7 (ops:=ops) s.env (hall s.sz) (by rw[hgd];exact hg);unfold wpOpIn;simp only[hi,hw,F5];exact e5 A β w a H hf s next Q hn
structure zf(A:Nat→Prop)(bi:Option (List Nat))(π:List Nat)(nt:NT)(β:Ag)(w:World)(h:AB)(st':St)(base:Nat)(β':Ag)(a':Act)(w':World):Prop where
 pm:BM A bi π β w h β' w' st'.heap
 s:KV A β' w' nt st'.env.get st'.defs st'.heap a'
 fresh:Bl β' π base
def WG(A:Nat→Prop)(bi:Option (List Nat))(π:List Nat)(nt:NT)(β:Ag)(w:World)(h:AB)(out:Option AV)(st':St)(base:Nat):Exit→Act→World→Prop
 |.normal,a',w'=>out=none∧ ∃β',zf A bi π nt β w h st' base β' a' w'
 |.panic chain,a',w'=> ∃v u β',out=some v∧chain=[{v:=u,recovered:=false}]∧zf A bi π nt β w h st' base β' a' w'∧VR β' w' (MS A β' st'.heap) v u
 |_,_,_=>False
theorem At.refl(g:G)(l:List Id):At g g l:=fun _ _=>rfl
theorem eG.refl(rd:Option (List Id))(g:G):eG rd g g:=by cases rd<;>simp[eG,At]
variable{alone:Nat→Bool}
theorem bu(hC:Ke P mix C)(hT:Cn P W K)(hro:fr.wn=false→ro=none){ops:Array Oper}(hds: ∀o∈ops,∀d,o.dst=some d→d<nt.n):
 ∀(l:List Oper) (i:Nat) (st st':St) (fps:List Fp) (out:Option AV),i≤ops.size→ops.toList.drop i=l→LW W st.heap→Ch C K fr ops b alone l i st=.ok ((out,st'),fps)→
  st'.base=st.base∧LW W st'.heap∧ ∀(A:Nat→Prop) (β:Ag) (w:World) (a:Act),HR A β w st.heap→KV A β w nt st.env.get st.defs st.heap a→Bl β fr.π (b+i)→
   wpOpsIn (FF ro) 0 P ops (WG A fr.bi fr.π nt β w st.heap out st' (b+ops.size)) (List.range' i l.length) a w
 |[],i,st,st',fps,out,hle,hl,hL,hr=>by
  simp only[Ch,E.ok.injEq,EX]at hr;obtain⟨⟨rfl,rfl⟩,rfl⟩:=hr;have hge:ops.size≤i:=by
   have:=congrArg List.length hl;simp at this;omega
  refine⟨rfl,hL,fun A β w a H s hf=>⟨rfl,β,BM.refl H,s,?_⟩⟩;rw[show ops.size=i by omega];exact hf
 |o::l,i,st,st',fps,out,hle,hl,hL,hr=>by
  have hi:ops[i]? =some o:=by
   have:=congrArg (fun x:List Oper=>x[0]?) hl;simpa using this
  have hlt:i<ops.size:=(HE.1 hi).1;have hl':ops.toList.drop (i+1)=l:=by
   have:=congrArg List.tail hl;simpa[List.tail_drop]using this
  simp only[Ch,Gz]at hr;simp only[List.length_cons,List.range'_succ,wpOpsIn_cons];split at hr
  .rename_i st1 fp hs;cases hrest:Ch C K fr ops b alone l (i+1) st1 with
   |err e=>rw[hrest]at hr;cases hr
   |ok r=>
    rw[hrest]at hr;obtain⟨⟨out',st2⟩,fps'⟩:=r;simp only[U2,E.ok.injEq,EX]at hr;obtain⟨⟨rfl,rfl⟩,rfl⟩:=hr;obtain⟨v,h2',e1,e2,e3,e4⟩:=O5 (ro:=ro) hC hT hro hi hL hs (env2:=st.env.get) (h2:=st.heap) (fun _ _=>rfl) rfl (eG.refl _ _) hds;have hh: ∀id,h2'.get id=st1.heap.get id:=fun id=>by rw[e3,(M9 hs).1]
    obtain⟨hb,hL2,ih⟩:=bu hC hT hro hds l (i+1) st1 st2 fps' out' hlt hl' (UU hT hL hs) hrest;refine⟨by rw[hb,e2],hL2,fun A β w a H s hf=>?_⟩;refine e4 A β w a H (hf (b+i) (D6 _)) s _ _ fun a1 w1 ⟨β1,g1,s1⟩=>?_;have g1':BM A fr.bi fr.π β w st.heap β1 w1 st1.heap:=by
     have:=g1.up (ES _ _);exact⟨this.out,this.hr.congr hh,by rw[←MS.congr hh];exact this.ip,fun ρ h1 h2=>by
      obtain⟨k1,k2,k3⟩:=this.kept ρ h1 h2;exact⟨k1,k2,fun id hid=>by rw[←hh];exact k3 id hid⟩⟩
    have s1':KV A β1 w1 nt st1.env.get st1.defs st1.heap a1:=by
     have:=s1.congr hh;rw[e1,Yt];exact this
    have:=ih A β1 w1 a1 g1'.hr s1' ((hf.next' g1.out));refine KT ?_ this;intro e a2 w2 hp;cases e with
    |normal=>
     obtain⟨h1,β2,L⟩:=hp;exact⟨h1,β2,g1'.trans L.pm,L.s,L.fresh⟩
    |panic chain=>
     obtain⟨v,u,β2,h1,h2,L,h3⟩:=hp;exact⟨v,u,β2,h1,h2,⟨g1'.trans L.pm,L.s,L.fresh⟩,h3⟩
    |_=>exact hp.elim
  .rename_i v st1 hs;split at hr
   .simp only[E.ok.injEq,EX]at hr;obtain⟨⟨rfl,rfl⟩,rfl⟩:=hr;obtain⟨h2',e1,e2,e3,e4,e5⟩:=R9 (ro:=ro) hC hT hi hL hs (env2:=st.env.get) (h2:=st.heap) (fun _ _=>rfl) rfl (fun _=>rfl) hds;refine⟨e2,Sw hT hL hs,fun A β w a H s hf=>?_⟩;refine e5 A β w a H (hf (b+i) (D6 _)) s _ _ fun a1 w1 u ⟨β1,g1,s1,hv⟩=>?_;have g1':BM A fr.bi fr.π β w st.heap β1 w1 st1.heap:=by
     have:=g1.up (ES _ _);exact⟨this.out,this.hr.congr e4,by rw[←MS.congr e4];exact this.ip,fun ρ h1 h2=>by
      obtain⟨k1,k2,k3⟩:=this.kept ρ h1 h2;exact⟨k1,k2,fun id hid=>by rw[←e4];exact k3 id hid⟩⟩
    refine⟨v,u,β1,rfl,rfl,⟨g1',?_,?_⟩,?_⟩
    .rw[e1,e3];exact s1.congr e4
    .exact(hf.next' g1.out).mono (by omega)
    .rw[←MS.congr e4];exact hv
   .cases hr
  .cases hr
variable{A:Nat→Prop}{P:Program}{mix:List TypeId}{β β' β'':Ag}{w w' w'':World}{M:Nat→Prop}{h h' h'':AB}{π ρ:List Nat}{bi:Option (List Nat)}{nt:NT}{env:Nat→AV}{defs defs':List Df}{a:Act}{ro:Option Nat}{W:Lp→Prop}
def bits(acc:Nat→Nat):List Edge→Nat
 |[]=>0
 |e::l=>match Region.binds .any e with
  |true=>bits acc l|||2 ^ e.on|||acc e.on
  |false=>bits acc l
def Km:List Oper→List Nat→List Nat
 |[],acc=>acc
 |o::l,acc=>Km l (acc++[bits (fun k=>acc.getD k 0) o.after.toList])
theorem OQ{acc:Nat→Nat}{i:Nat}: ∀{l:List Edge},(bits acc l).testBit i=true→ ∃e∈l,Region.binds .any e=true∧(e.on=i∨(acc e.on).testBit i=true)
 |[],h=>by simp[bits]at h
 |e::l,h=>by
  simp only[bits]at h;split at h
  .rename_i hb;simp only[Nat.testBit_or,Ip]at h;rcases h with(h|h)|h
   .obtain⟨e',h1,h2⟩:=OQ h;exact⟨e',by simp[h1],h2⟩
   .exact⟨e,by simp,hb,.inl (by simpa[Nat.testBit_two_pow]using h)⟩
   .exact⟨e,by simp,hb,.inr h⟩
  .obtain⟨e',h1,h2⟩:=OQ h;exact⟨e',by simp[h1],h2⟩
theorem QQ: ∀(l:List Oper) (acc:List Nat) (k:Nat),k<acc.length→(Km l acc).getD k 0=acc.getD k 0
 |[],acc,k,_=>rfl
 |o::l,acc,k,h=>by
  simp only[Km];rw[QQ l _ k (by simp;omega)];simp[Be h]
theorem TA: ∀(l:List Oper) (acc:List Nat) (j:Nat) (o:Oper),l[j]? =some o→
 ∃f:Nat→Nat,(Km l acc).getD (acc.length+j) 0=bits f o.after.toList∧ ∀k,f k=(Km l acc).getD k 0∨f k=0
 |[],acc,j,o,h=>by simp at h
 |x::l,acc,0,o,h=>by
  simp at h;subst h;refine⟨fun k=>acc.getD k 0,?_,fun k=>?_⟩
  .simp only[Km];rw[QQ l _ _ (by simp)];simp
  .by_cases hk:k<acc.length
   .left;exact(QQ (x::l) acc k hk).symm
   .right;simp[No (Nat.le_of_not_lt hk)]
 |x::l,acc,j+1,o,h=>by
  simp at h;obtain⟨f,h1,h2⟩:=TA l (acc++[bits (fun k=>acc.getD k 0) x.after.toList]) j o h;refine⟨f,?_,h2⟩;rw[←h1];simp only[Km,CE,IN];congr 1;omega
def lL(B:List Nat)(i j:Nat):Bool:=(B.getD j 0).testBit i
theorem YR{ops:Array Oper}{i j:Nat}(hj:ops[j]? =some o)(h:lL (Km ops.toList []) i j=true):
 ∃e∈o.after,Region.binds .any e=true∧(e.on=i∨lL (Km ops.toList []) i e.on=true):=by
 obtain⟨f,h1,h2⟩:=TA ops.toList [] j o (by simpa using hj);unfold lL at h;simp only[List.length_nil,I1]at h1;rw[h1]at h;obtain⟨e,he,hb,h3⟩:=OQ h;refine⟨e,by simpa using he,hb,h3.imp (fun h=>h) fun h3=>?_⟩;rcases h2 e.on with h4|h4
 .unfold lL;rw[←h4];exact h3
 .rw[h4]at h3;simp at h3
def ABJ(op:Op):List Tmp:=op.operands.toList.filterMap fun|.tmp t=>some t|_=>none
def Xt(ops:Array Oper)(o:Oper):List Tmp:=match o.guard with
 |some (j,_)=>match GZ ops j with|some t=>[t]|none=>[]
 |none=>[]
def L0(ops:Array Oper)(o:Oper):List Tmp:=o.dst.toList++ABJ o.op++Xt ops o
def bq(d:Option Tmp)(l:List Tmp):Bool:=match d with
 |some t=>l.all fun x=> !Nat.beq x t
 |none=>true
theorem K8{d:Option Tmp}{l:List Tmp}(h:bq d l=true){t:Tmp}(hd:d=some t):t∉l:=by
 subst hd;intro ht;have:=Ce.1 h t ht;simp at this
def XW(ops:Array Oper)(x y:Oper):Bool:=bq x.dst (L0 ops y)&&bq y.dst (L0 ops x)
def fR(x y:Op):Bool:=(V9 x||s5 y)&&(s5 x||V9 y)&&(V9 x||V9 y)
def bw(ops:Array Oper)(d8:List (Nat×Nat))(x y:Oper)(i j:Nat):Bool:=
 XW ops x y&&(fR x.op y.op||d8.any fun p=>Nat.beq p.1 i&&Nat.beq p.2 j)
def VS:Op→Bool
 |.defer _=>true
 |_=>false
def s9(ops:Array Oper)(d8:List (Nat×Nat))(alone:Nat→Bool):Bool:=
 let B:=Km ops.toList []
 (List.range ops.size).all fun j=>match ops[j]? with
  |none=>false
  |some y=> !VS y.op&&y.after.toList.all (fun e=> !Region.binds .any e||Nat.blt e.on j)&&
   (List.range j).all (fun i=>match ops[i]? with
    |none=>false
    |some x=>(lL B i j||bw ops d8 x y i j)&&(!(alone i||alone j)||lL B i j))
structure QC(ops:Array Oper)(d8:List (Nat×Nat))(alone:Nat→Bool):Prop where
 noDef: ∀(j:Nat) (y:Oper),ops[j]? =some y→ ∀c,y.op≠ .defer c
 back: ∀(j:Nat) (y:Oper),ops[j]? =some y→ ∀e∈y.after,Region.binds .any e=true→e.on<j
 pair: ∀(i j:Nat) (x y:Oper),i<j→ops[i]? =some x→ops[j]? =some y→lL (Km ops.toList []) i j=true∨
  (XW ops x y=true∧(fR x.op y.op=true∨(i,j)∈d8))
 alone: ∀(i j:Nat) (x y:Oper),i<j→ops[i]? =some x→ops[j]? =some y→(alone i=true∨alone j=true)→lL (Km ops.toList []) i j=true
theorem dY{ops:Array Oper}{d8:List (Nat×Nat)}(h:s9 ops d8 alone=true):QC ops d8 alone:=by
 unfold s9 at h;have each: ∀(j:Nat) (y:Oper),ops[j]? =some y→VS y.op=false∧(∀e∈y.after,Region.binds .any e=true→e.on<j)∧
  ∀(i:Nat) (x:Oper),i<j→ops[i]? =some x→(lL (Km ops.toList []) i j||bw ops d8 x y i j)=true∧(!(alone i||alone j)||lL (Km ops.toList []) i j)=true:=by
  intro j y hy;have hlt:j<ops.size:=(HE.1 hy).1;have:=Ce.1 h j (Of.2 hlt);simp only[hy,AP,GS]at this;obtain⟨⟨h1,h2⟩,h3⟩:=this;refine⟨h1,fun e he hb=>?_,fun i x hi hx=>?_⟩
  .have:=Ce.1 h2 e (by simpa using he);simpa[hb,Rs]using this
  .have:=Ce.1 h3 i (Of.2 hi);simp only[hx,AP]at this;exact this
 refine⟨fun j y hy c hc=>?_,fun j y hy=>(each j y hy).2.1,fun i j x y hij hx hy=>?_,fun i j x y hij hx hy ha=>?_⟩
 .have:=(each j y hy).1;simp[hc,VS]at this
 .have:=((each j y hy).2.2 i x hij hx).1;rw[Ip]at this;refine this.imp (fun h=>h) fun h=>?_;unfold bw at h;simp only[AP,Ip,Rg]at h;refine⟨h.1,h.2.imp (fun h=>h) ?_⟩;rintro⟨p,hp,h1,h2⟩;have e1:=Co h1;have e2:=Co h2;rw[←e1,←e2];exact hp
 .have:=((each j y hy).2.2 i x hij hx).2;rcases ha with ha|ha<;>simpa[ha]using this
theorem R2{C:B9}{K:AK}{fr:Fr}{ops:Array Oper}{b:Nat}{alone:Nat→Bool}:
 ∀(l:List Oper) (i:Nat) (st st':St) (fps:List Fp) (out:Option AV),i≤ops.size→ops.toList.drop i=l→Ch C K fr ops b alone l i st=.ok ((out,st'),fps)→
  ∃(S:Nat→St) (F:Nat→Fp) (m:Nat),i≤m∧m≤ops.size∧S i=st∧
   (∀k,i≤k→k<m→ ∃o,ops[k]? =some o∧Bx C K fr ops ((b+k)::fr.π) o (S k)=.ok (S (k+1)) (F k)∧fps[k-i]? =some (F k))∧
   ((out=none∧m=ops.size∧S m=st')∨ ∃v o,out=some v∧m<ops.size∧alone m=true∧ops[m]? =some o∧Bx C K fr ops ((b+m)::fr.π) o (S m)=.f9 v st')
 |[],i,st,st',fps,out,hle,hl,hr=>by
  simp only[Ch,E.ok.injEq,EX]at hr;obtain⟨⟨rfl,rfl⟩,rfl⟩:=hr;have hge:ops.size≤i:=by
   have:=congrArg List.length hl;simp at this;omega
  exact⟨fun _=>st,fun _=>{},i,D6 _,hle,rfl,fun k h1 h2=>by omega,.inl ⟨rfl,by omega,rfl⟩⟩
 |o::l,i,st,st',fps,out,hle,hl,hr=>by
  have hi:ops[i]? =some o:=by
   have:=congrArg (fun x:List Oper=>x[0]?) hl;simpa using this
  have hlt:i<ops.size:=(HE.1 hi).1;have hl':ops.toList.drop (i+1)=l:=by
   have:=congrArg List.tail hl;simpa[List.tail_drop]using this
  simp only[Ch,Gz]at hr;split at hr
  .rename_i st1 fp hs;cases hrest:Ch C K fr ops b alone l (i+1) st1 with
   |err e=>rw[hrest]at hr;cases hr
   |ok r=>
    rw[hrest]at hr;obtain⟨⟨out',st2⟩,fps'⟩:=r;simp only[U2,E.ok.injEq,EX]at hr;obtain⟨⟨rfl,rfl⟩,rfl⟩:=hr;obtain⟨S,F,m,h1,h2,h3,h4,h5⟩:=R2 l (i+1) st1 st2 fps' out' hlt hl' hrest;refine⟨fun k=>if k=i then st else S k,fun k=>if k=i then fp else F k,m,by omega,h2,D1 rfl,fun k hk1 hk2=>?_,?_⟩
    .by_cases e:k=i
     .subst e;refine⟨o,hi,?_,by simp⟩;simp only[F5,Ci (show¬k+1=k by omega),h3];exact hs
     .obtain⟨o',g1,g2,g3⟩:=h4 k (by omega) hk2;refine⟨o',g1,?_,?_⟩
      .simp only[Ci e,Ci (show¬k+1=i by omega)];exact g2
      .rw[show k-i=(k-(i+1))+1 by omega];simp only[Ci e,FN];exact g3
    .simp only[Ci (show¬m=i by omega)];exact h5
  .rename_i v st1 hs;split at hr
   .rename_i ha;simp only[E.ok.injEq,EX]at hr;obtain⟨⟨rfl,rfl⟩,rfl⟩:=hr;exact⟨fun _=>st,fun _=>{},i,D6 _,hle,rfl,fun k h1 h2=>by omega,.inr ⟨v,o,rfl,hlt,ha,hi,hs⟩⟩
   .cases hr
  .cases hr
section mixed
variable(ops:Array Oper)(S:Nat→St)(F:Nat→Fp)
def IL(D:Nat→Bool):Nat→Nat→AV
 |0=>(S 0).env.get
 |k+1=>fun t=>if D k=true∧GZ ops k=some t then(S (k+1)).env.get t else IL D k t
def Gb(D:Nat→Bool):Nat→G
 |0=>(S 0).heap.get
 |k+1=>fun id=>if D k=true then ii (F k).wr (S (k+1)).heap.get (Gb D k) id else Gb D k id
def WC(wr:Option (List Id))(id:Id):Prop:= ∃l,wr=some l∧id∉l
end mixed
variable{ops:Array Oper}{S:Nat→St}{F:Nat→Fp}{D:Nat→Bool}
variable{t:Tmp}
theorem Pv{m:Nat}(hS: ∀k,k<m→ ∃v,(S (k+1)).env=B8 (S k).env (GZ ops k) v): ∀{i:Nat},i≤m→(∀j,j<i→GZ ops j=some t→D j=true)→IL ops S D i t=(S i).env.get t
 |0,_,_=>rfl
 |i+1,hi,h=>by
  simp only[IL];split
  .rfl
  .rename_i hn;obtain⟨v,hv⟩:=hS i hi;have hne:GZ ops i≠some t:=fun e=>hn ⟨h i (by omega) e,e⟩;rw[Pv hS (by omega) fun j hj=>h j (by omega),hv,Yt];unfold Ov;split
   .rename_i d hd;have:d≠t:=fun e=>hne (e▸hd);simp[this]
   .rfl
theorem Qo{i:Nat}: ∀{n:Nat},(∀j,i≤j→j<i+n→GZ ops j=some t→D j=false)→IL ops S D (i+n) t=IL ops S D i t
 |0,_=>rfl
 |n+1,h=>by
  rw[←Pl];simp only[IL];rw[Ci (by rintro⟨h1,h2⟩;rw[h (i+n) (by omega) (by omega) h2]at h1;cases h1)];exact Qo fun j h1 h2=>h j h1 (by omega)
theorem FJ{wr:Option (List Id)}{id:Id}(h:WC wr id)(new old:G):ii wr new old id=old id:=by
 obtain⟨l,rfl,hl⟩:=h;simp[ii,hl]
theorem Vw(wr:Option (List Id))(id:Id):WC wr id∨ ∀new old:G,ii wr new old id=new id:=by
 cases wr with
 |none=>exact .inr fun _ _=>rfl
 |some l=>
  by_cases h:id∈l
  .exact .inr fun _ _=>by simp[ii,h]
  .exact .inl ⟨l,rfl,h⟩
theorem Nh{m:Nat}{id:Id}(hS: ∀k,k<m→ii (F k).wr (S (k+1)).heap.get (S k).heap.get id=(S (k+1)).heap.get id): ∀{i:Nat},i≤m→(∀j,j<i→D j=false→WC (F j).wr id)→Gb S F D i id=(S i).heap.get id
 |0,_,_=>rfl
 |i+1,hi,h=>by
  have ih:=Nh hS (i:=i) (by omega) fun j hj=>h j (by omega);have hs:=hS i hi;simp only[Gb];split
  .rcases Vw (F i).wr id with hn|hw
   .rw[FJ hn,ih,←hs,FJ hn]
   .exact hw _ _
  .rename_i hD;have hn:=h i (by omega) (by simpa using hD);rw[ih,←hs,FJ hn]
theorem Lq{id:Id}{i:Nat}: ∀{n:Nat},(∀j,i≤j→j<i+n→D j=true→WC (F j).wr id)→Gb S F D (i+n) id=Gb S F D i id
 |0,_=>rfl
 |n+1,h=>by
  rw[←Pl];simp only[Gb];split
  .rename_i hD;rw[FJ (h (i+n) (by omega) (by omega) hD)];exact Lq fun j h1 h2=>h j h1 (by omega)
  .exact Lq fun j h1 h2=>h j h1 (by omega)
def MW(D:Nat→Bool)(i:Nat):Nat→Bool:=fun k=>D k||Nat.beq k i
theorem Hr(D:Nat→Bool)(i:Nat):MW D i i=true:=by simp[MW]
theorem Hf(D:Nat→Bool){i k:Nat}(h:k≠i):MW D i k=D k:=by simp[MW,h]
theorem Me{i:Nat}{t:Tmp}(h:GZ ops i≠some t): ∀n,IL ops S (MW D i) n t=IL ops S D n t
 |0=>rfl
 |n+1=>by
  simp only[IL,Me h n];by_cases e:n=i
  .subst e;simp[h]
  .rw[Hf D e]
theorem JG{i:Nat}{id:Id}(h:WC (F i).wr id)(hi:D i=false): ∀n,Gb S F (MW D i) n id=Gb S F D n id
 |0=>rfl
 |n+1=>by
  simp only[Gb];by_cases e:n=i
  .subst e;rw[Hr,hi];simp only[F5,Ex,AM];rw[FJ h];exact JG h hi n
  .rw[Hf D e];rcases Vw (F n).wr id with hn|hw
   .rw[FJ hn,FJ hn,JG h hi n]
   .rw[hw,hw,JG h hi n]
theorem OV{i:Nat}(hi:D i=false): ∀{n:Nat},i<n→((List.range n).countP fun k=> !MW D i k)<(List.range n).countP fun k=> !D k
 |0,h=>by omega
 |n+1,h=>by
  have mono: ∀n,((List.range n).countP fun k=> !MW D i k)≤(List.range n).countP fun k=> !D k:=fun n=>
   List.countP_mono_left fun k _ hk=>by
    simp only[MW,Bool.not_or,AP]at hk;exact hk.1
  simp only[List.range_succ,List.countP_append,List.countP_singleton];by_cases e:n=i
  .subst e;rw[Hr,hi];have:=mono n;simp;omega
  .rw[Hf D e];have:=OV hi (show i<n by omega);omega
variable{A:Nat→Prop}{P:Program}{mix:List TypeId}{β β' β'':Ag}{w w' w'':World}{M:Nat→Prop}{h h' h'':AB}{π ρ:List Nat}{bi:Option (List Nat)}{nt:NT}{env:Nat→AV}{defs defs':List Df}{a:Act}{ro:Option Nat}{W:Lp→Prop}
def nj(x:Option (List Id))(id:Id):Prop:=x=none∨ ∃l,x=some l∧id∈l
theorem yZ(x:Option (List Id))(id:Id):WC x id∨nj x id:=by
 cases x with
 |none=>exact .inr (.inl rfl)
 |some l=>
  by_cases h:id∈l
  .exact .inr (.inr ⟨l,rfl,h⟩)
  .exact .inl ⟨l,rfl,h⟩
variable{x y:Option (List Id)}
theorem QK(h:apart x y=true){id:Id}(hx:nj x id):WC y id:=by
 unfold apart at h;split at h
 .rcases hx with hx|⟨l,hl,hi⟩
  .cases hx
  .cases hl;cases hi
 .exact⟨[],rfl,by simp⟩
 .rename_i l m _ _;rcases hx with hx|⟨l',hl,hi⟩
  .cases hx
  .cases hl;refine⟨m,rfl,fun hm=>?_⟩;have:=Ce.1 h id hi;simp at this;exact this hm
 .cases h
theorem WM(h:apart x y=true){id:Id}(hy:nj y id):WC x id:=by
 unfold apart at h;split at h
 .exact⟨[],rfl,by simp⟩
 .rcases hy with hy|⟨l,hl,hi⟩
  .cases hy
  .cases hl;cases hi
 .rename_i l m _ _;rcases hy with hy|⟨l',hl,hi⟩
  .cases hy
  .cases hl;refine⟨l,rfl,fun hm=>?_⟩;have:=Ce.1 h id hm;simp at this;exact this hi
 .cases h
theorem zm{rd:Option (List Id)}{g g2:G}(h: ∀id,nj rd id→g id=g2 id):eG rd g g2:=by
 cases rd with
 |none=>exact fun id=>h id (.inl rfl)
 |some l=>exact fun id hi=>h id (.inr ⟨l,rfl,hi⟩)
theorem Kj(y:Option (List Id)):apart (some []) y=true:=rfl
theorem Kk(x:Option (List Id)):apart x (some [])=true:=by
 cases x with
 |none=>rfl
 |some l=>cases l<;>rfl
theorem ZM{C:B9}{K:AK}{fr:Fr}{ops:Array Oper}{x y:Oper}{s1 s2 s1' s2':St}{a b:Fp}{ρ1 ρ2:List Nat}(h:fR x.op y.op=true)(hx:Bx C K fr ops ρ1 x s1=.ok s1' a)(hy:Bx C K fr ops ρ2 y s2=.ok s2' b):
 a.apart b=true:=by
 obtain⟨x1,x2⟩:=UR hx;obtain⟨y1,y2⟩:=UR hy;unfold fR at h;simp only[AP,Ip]at h;obtain⟨⟨h1,h2⟩,h3⟩:=h;unfold Fp.apart;simp only[AP];refine⟨⟨?_,?_⟩,?_⟩
 .rcases h1 with h|h
  .rw[x2 h];exact Kj _
  .rw[y1 h];exact Kk _
 .rcases h2 with h|h
  .rw[x1 h];exact Kj _
  .rw[y2 h];exact Kk _
 .rcases h3 with h|h
  .rw[x2 h];exact Kj _
  .rw[y2 h];exact Kk _
variable{o:Oper}
theorem Mc{ops:Array Oper}{i:Nat}(h:ops[i]? =some o):GZ ops i=o.dst:=by simp[GZ,h]
def JT(ops:Array Oper)(D:Nat→Bool):Prop:= ∀(j:Nat) (y:Oper),ops[j]? =some y→D j=true→ ∀e∈y.after,Region.binds .any e=true→D e.on=true
variable{d8:List (Nat×Nat)}{alone:Nat→Bool}
theorem IG{ops:Array Oper}{D:Nat→Bool}(hreg:QC ops d8 alone)(hc:JT ops D): ∀(j:Nat),D j=true→ ∀i,lL (Km ops.toList []) i j=true→j<ops.size→D i=true:=by
 intro j;induction j using Nat.strongRecOn with
 |_ j ih=>
  intro hj i ho hlt;have hy:ops[j]? =some ops[j]:=D2 hlt;obtain⟨e,he,hb,h1⟩:=YR hy ho;have hd:=hc j _ hy hj e he hb;have hl:=hreg.back j _ hy e he hb;rcases h1 with rfl|h1
  .exact hd
  .exact ih e.on hl hd i h1 (by omega)
theorem L6{ops:Array Oper}{D:Nat→Bool}(hreg:QC ops d8 alone)(hc:JT ops D){i:Nat}(hi:ops[i]? =some o)(hr: ∀e∈o.after,Region.binds .any e=true→D e.on=true)
 {j:Nat} (ho:lL (Km ops.toList []) j i=true):D j=true:=by
 obtain⟨e,he,hb,h1⟩:=YR hi ho;have hd:=hr e he hb;have hl:=hreg.back i _ hi e he hb;have hlt:i<ops.size:=(HE.1 hi).1;rcases h1 with rfl|h1
 .exact hd
 .exact IG hreg hc e.on hd j h1 (by omega)
structure zK(W:Lp→Prop)(C:B9)(K:AK)(fr:Fr)(ops:Array Oper)(b:Nat)(d8:List (Nat×Nat))(alone:Nat→Bool)(S:Nat→St)(F:Nat→Fp)(m:Nat):Prop where
 le:m≤ops.size
 step: ∀k,k<m→ ∃o,ops[k]? =some o∧Bx C K fr ops ((b+k)::fr.π) o (S k)=.ok (S (k+1)) (F k)
 env: ∀k,k<m→ ∃v,(S (k+1)).env=B8 (S k).env (GZ ops k) v
 ii: ∀id k,k<m→ii (F k).wr (S (k+1)).heap.get (S k).heap.get id=(S (k+1)).heap.get id
 defs: ∀k,k≤m→(S k).defs=(S 0).defs
 lw: ∀k,k≤m→LW W (S k).heap
 base: ∀k,k≤m→(S k).base=(S 0).base
 apart: ∀(i j:Nat),i<j→j<m→lL (Km ops.toList []) i j=true∨(F i).apart (F j)=true
variable{C:B9}{K:AK}{fr:Fr}{ops:Array Oper}{b m:Nat}{d8:List (Nat×Nat)}{alone:Nat→Bool}{S:Nat→St}{F:Nat→Fp}{D:Nat→Bool}
variable{fps:List Fp}
theorem ABE(hC:Ke P mix C)(hT:Cn P W K)(hro:fr.wn=false→ro=none)(hreg:QC ops d8 alone)(hds: ∀o∈ops,∀d,o.dst=some d→d<nt.n)(hp:DE fps d8=true)(hle:m≤ops.size)(hL:LW W (S 0).heap)
 (hst: ∀k,k<m→ ∃o,ops[k]? =some o∧Bx C K fr ops ((b+k)::fr.π) o (S k)=.ok (S (k+1)) (F k)∧fps[k]? =some (F k)):zK W C K fr ops b d8 alone S F m:=by
 have hlw: ∀k,k≤m→LW W (S k).heap:=by
  intro k;induction k with
  |zero=>intro _;exact hL
  |succ k ih=>
   intro hk;obtain⟨o,h1,h2,h3⟩:=hst k hk;exact UU hT (ih (by omega)) h2
 have hone: ∀k,k<m→(∃v,(S (k+1)).env=B8 (S k).env (GZ ops k) v)∧(S (k+1)).base=(S k).base∧(S (k+1)).defs=(S k).defs:=by
  intro k hk;obtain⟨o,h1,h2,h3⟩:=hst k hk;obtain⟨v,h2',e1,e2,_⟩:=O5 (ro:=ro) hC hT hro h1 (hlw k (by omega)) h2 (env2:=(S k).env.get) (h2:=(S k).heap) (fun _ _=>rfl) rfl (eG.refl _ _) hds;exact⟨⟨v,by rw[Mc h1];exact e1⟩,e2,(M9 h2).2 (hreg.noDef k o h1)⟩
 have hdef: ∀k,k≤m→(S k).defs=(S 0).defs:=by
  intro k;induction k with
  |zero=>intro _;rfl
  |succ k ih=>intro hk;rw[(hone k hk).2.2,ih (by omega)]
 have hbase: ∀k,k≤m→(S k).base=(S 0).base:=by
  intro k;induction k with
  |zero=>intro _;rfl
  |succ k ih=>intro hk;rw[(hone k hk).2.1,ih (by omega)]
 refine⟨hle,fun k hk=>let ⟨o,h1,h2,_⟩:=hst k hk;⟨o,h1,h2⟩,fun k hk=>(hone k hk).1,fun id k hk=>?_,hdef,hlw,hbase,fun i j hij hj=>?_⟩
 .obtain⟨o,h1,h2,h3⟩:=hst k hk;exact(M9 h2).1 id
 .obtain⟨x,x1,x2,x3⟩:=hst i (by omega);obtain⟨y,y1,y2,y3⟩:=hst j hj;refine(hreg.pair i j x y hij x1 y1).imp (fun h=>h) ?_;rintro⟨_,h|h⟩
  .exact ZM h x2 y2
  .have:=Ce.1 hp (i,j) h;simpa[x3,y3]using this
theorem YK(R:zK W C K fr ops b d8 alone S F m)(hreg:QC ops d8 alone)(hc:JT ops D)(hD: ∀k,D k=true→k<m){i:Nat}{o:Oper}(hi:ops[i]? =some o)(him:i≤m)(hDi:D i=false)
 (hr: ∀e∈o.after,Region.binds .any e=true→D e.on=true) {t:Tmp} (ht:t∈L0 ops o):IL ops S D m t=(S i).env.get t:=by
 obtain⟨n,rfl⟩: ∃n,m=i+n:=⟨m-i,by omega⟩;have hlt:i<ops.size:=(HE.1 hi).1;rw[Qo (fun j h1 h2 h3=>?_),Pv R.env him fun j hj h3=>?_]
 ·
  have hjs:j<ops.size:=by omega
  have hx:ops[j]? =some ops[j]:=D2 hjs;rcases hreg.pair j i _ o hj hx hi with h|⟨h,_⟩
  .exact L6 hreg hc hi hr h
  .unfold XW at h;simp only[AP]at h;rw[Mc hx]at h3;exact absurd ht (K8 h.1 h3)
 ·
  cases hDj:D j with
  |false=>rfl
  |true=>
   exfalso;by_cases e:j=i
   .subst e;rw[hDi]at hDj;cases hDj
   have hjs:j<ops.size:=by have:=hD j hDj;have:=R.le;omega
   have hy:ops[j]? =some ops[j]:=D2 hjs;rcases hreg.pair i j o _ (by omega) hi hy with h|⟨h,_⟩
   .have:=IG hreg hc j hDj i h hjs;rw[hDi]at this;cases this
   .unfold XW at h;simp only[AP]at h;rw[Mc hy]at h3;exact absurd ht (K8 h.2 h3)
theorem AA7(R:zK W C K fr ops b d8 alone S F m)(hreg:QC ops d8 alone)(hc:JT ops D)(hD: ∀k,D k=true→k<m){i:Nat}(hi:ops[i]? =some o)(him:i≤m)(hDi:D i=false)
 (hr: ∀e∈o.after,Region.binds .any e=true→D e.on=true):Jf (S i).env.get (IL ops S D m) o.op∧KG ops (IL ops S D m) o=KG ops (S i).env.get o:=by
 refine⟨fun x hx=>?_,?_⟩
 .cases x with
  |tmp t=>
   refine(YK R hreg hc hD hi him hDi hr ?_).symm;unfold L0;refine GO _ (F8 _ ?_);exact List.mem_filterMap.2 ⟨.tmp t,by simpa using hx,rfl⟩
  |_=>rfl
 .unfold KG;cases hg:o.guard with
  |none=>rfl
  |some p=>
   obtain⟨j,want⟩:=p;simp only;have e:((ops[j]?).bind fun x=>x.dst)=GZ ops j:=rfl;rw[e];cases hd:GZ ops j with
   |none=>rfl
   |some t=>
    simp only[D9];rw[YK R hreg hc hD hi him hDi hr (t:=t) (by
     unfold L0;refine F8 _ ?_;simp[Xt,hg,hd])]
theorem wj(R:zK W C K fr ops b d8 alone S F m)(hreg:QC ops d8 alone)(hc:JT ops D)(hD: ∀k,D k=true→k<m){i:Nat}{o:Oper}(hi:ops[i]? =some o)(him:i<m)(hDi:D i=false)
 (hr: ∀e∈o.after,Region.binds .any e=true→D e.on=true) {id:Id} (ht:nj (F i).rd id):Gb S F D m id=(S i).heap.get id:=by
 obtain⟨n,rfl⟩: ∃n,m=i+n:=⟨m-i,by omega⟩;rw[Lq (fun j h1 h2 h3=>?_),Nh (R.ii id) (by omega) fun j hj h3=>?_]
 .rcases R.apart j i hj him with h|h
  .have:=L6 hreg hc hi hr h;rw[this]at h3;cases h3
  .unfold Fp.apart at h;simp only[AP]at h;exact WM h.1.1 ht
 .by_cases e:j=i
  .subst e;rw[hDi]at h3;cases h3
  rcases R.apart i j (by omega) (hD j h3)with h|h
  .have:=IG hreg hc j h3 i h (by have:=hD j h3;have:=R.le;omega);rw[hDi]at this;cases this
  .unfold Fp.apart at h;simp only[AP]at h;exact QK h.1.2 ht
theorem vU(R:zK W C K fr ops b d8 alone S F m)(hreg:QC ops d8 alone)(hc:JT ops D)(hD: ∀k,D k=true→k<m){i:Nat}{o:Oper}(hi:ops[i]? =some o)(him:i<m)(hDi:D i=false){v:AV}
 (hv:(S (i+1)).env=B8 (S i).env o.dst v):Ov (IL ops S D m) o.dst v=IL ops S (MW D i) m:=by
 funext t;cases hd:o.dst with
 |none=>
  simp only[Ov];exact(Me (by rw[Mc hi,hd];simp) m).symm
 |some d=>
  simp only[Ov];by_cases e:d=t
  .subst e;rw[D1 rfl];obtain⟨n,rfl⟩: ∃n,m=(i+1)+n:=⟨m-(i+1),by omega⟩;rw[Qo (fun j h1 h2 h3=>?_)]
   .simp only[IL,Hr,Mc hi,hd,and_self,F5];rw[hv,hd];simp[B8,BT.get_cons]
   .rw[Hf D (by omega)];cases hDj:D j with
    |false=>rfl
    |true=>
     exfalso;have hjs:j<ops.size:=by have:=hD j hDj;have:=R.le;omega
     have hy:ops[j]? =some ops[j]:=D2 hjs;rcases hreg.pair i j o _ (by omega) hi hy with h|⟨h,_⟩
     .have:=IG hreg hc j hDj i h hjs;rw[hDi]at this;cases this
     .unfold XW at h;simp only[AP]at h;rw[Mc hy]at h3;refine absurd ?_ (K8 h.2 h3);unfold L0;exact GO _ (GO _ (by simp[hd]))
  .rw[Ci e];exact(Me (by rw[Mc hi,hd];simpa using e) m).symm
theorem qe(R:zK W C K fr ops b d8 alone S F m)(hreg:QC ops d8 alone)(hc:JT ops D)(hD: ∀k,D k=true→k<m){i:Nat}(him:i<m)(hDi:D i=false)(id:Id):
 ii (F i).wr (S (i+1)).heap.get (Gb S F D m) id=Gb S F (MW D i) m id:=by
 rcases yZ (F i).wr id with hn|hh
 .rw[FJ hn,JG hn hDi]
 .have hu: ∀new old:G,ii (F i).wr new old id=new id:=by
   rcases Vw (F i).wr id with hn|h
   .obtain⟨l,h1,h2⟩:=hn;rcases hh with h3|⟨l',h3,h4⟩
    .rw[h1]at h3;cases h3
    .rw[h1]at h3;cases h3;exact absurd h4 h2
   .exact h
  rw[hu];obtain⟨n,rfl⟩: ∃n,m=(i+1)+n:=⟨m-(i+1),by omega⟩;rw[Lq (fun j h1 h2 h3=>?_)]
  .simp only[Gb,Hr,F5];rw[hu]
  .rw[Hf D (by omega)]at h3;rcases R.apart i j (by omega) (hD j h3)with h|h
   .have:=IG hreg hc j h3 i h (by have:=hD j h3;have:=R.le;omega);rw[hDi]at this;cases this
   .unfold Fp.apart at h;simp only[AP]at h;exact QK h.2 hh
theorem Zw(hc:JT ops D){i:Nat}{o:Oper}(hi:ops[i]? =some o)(hr: ∀e∈o.after,Region.binds .any e=true→D e.on=true):JT ops (MW D i):=by
 intro j y hy hj e he hb;have up:D e.on=true→MW D i e.on=true:=fun h=>by simp[MW,h]
 by_cases ej:j=i
 .subst ej;rw[hi]at hy;cases hy;exact up (hr e he hb)
 .rw[Hf D ej]at hj;exact up (hc j y hy hj e he hb)
structure zg(P:Program)(C:B9)(K:AK)(fr:Fr)(nt:NT)(ops:Array Oper)(b m:Nat)(S:Nat→St)(F:Nat→Fp)(A:Nat→Prop)(β0:Ag)(w0:World)(D:Nat→Bool)(listed:Array Bool)(β:Ag)(w:World)(a:Act)(hc:AB):Prop where
 closed:JT ops D
 lt: ∀k,D k=true→k<m
 size:listed.size=ops.size
 list: ∀k,k<ops.size→listed[k]? =some (D k)
 heap: ∀id,hc.get id=Gb S F D m id
 s:KV A β w nt (IL ops S D m) (S 0).defs hc a
 pm:BM A fr.bi fr.π β0 w0 (S 0).heap β w hc
 fresh: ∀i,i<ops.size→D i=false→EU β ((b+i)::fr.π)
 freshFrom:Bl β fr.π (b+ops.size)
theorem zr(hC:Ke P mix C)(hT:Cn P W K)(hro:fr.wn=false→ro=none)(hreg:QC ops d8 alone)(hds: ∀o∈ops,∀d,o.dst=some d→d<nt.n)(R:zK W C K fr ops b d8 alone S F m){st':St}{out:Option AV}
 (hend:(out=none∧m=ops.size∧S m=st')∨ ∃v o,out=some v∧m<ops.size∧alone m=true∧ops[m]? =some o∧Bx C K fr ops ((b+m)::fr.π) o (S m)=.f9 v st') {β0:Ag} {w0:World}:
 ∀(fuel:Nat) (D:Nat→Bool) (listed:Array Bool) (β:Ag) (w:World) (a:Act) (hc:AB),zg P C K fr nt ops b m S F A β0 w0 D listed β w a hc→((List.range ops.size).countP fun k=> !D k)≤fuel→
  wpAnyIn (FF ro) 0 P .any ops (WG A fr.bi fr.π nt β0 w0 (S 0).heap out st' (b+ops.size)) fuel listed a w:=by
 have fin: ∀{D:Nat→Bool} {listed:Array Bool} {β:Ag} {w:World} {a:Act} {hc:AB},zg P C K fr nt ops b m S F A β0 w0 D listed β w a hc→(∀k,k<ops.size→D k=true)→
  WG A fr.bi fr.π nt β0 w0 (S 0).heap out st' (b+ops.size) .normal a w:=by
  intro D listed β w a hc M hall;rcases hend with⟨rfl,hm,rfl⟩|⟨v,o,_,hm,_⟩
  .have he:IL ops S D m=(S m).env.get:=by
    funext t;exact Pv R.env (D6 _) fun j hj _=>hall j (by omega)
   have hh: ∀id,hc.get id=(S m).heap.get id:=fun id=>by
    rw[M.heap];exact Nh (R.ii id) (D6 _) fun j hj h=>by rw[hall j (by omega)]at h;cases h
   refine⟨rfl,β,⟨M.pm.out,M.pm.hr.congr hh,by rw[←MS.congr hh];exact M.pm.ip,fun ρ h1 h2=>?_⟩,?_,M.freshFrom⟩
   .obtain⟨k1,k2,k3⟩:=M.pm.kept ρ h1 h2;exact⟨k1,k2,fun id hid=>by rw[←hh];exact k3 id hid⟩
   .rw[R.defs m (D6 _),←he];exact M.s.congr hh
  .have:=M.lt m (hall m hm);omega
 have more: ∀{D:Nat→Bool} {listed:Array Bool} {β:Ag} {w:World} {a:Act} {hc:AB},zg P C K fr nt ops b m S F A β0 w0 D listed β w a hc→Region.ready .any ops listed=[]→ ∀k,k<ops.size→D k=true:=by
  intro D listed β w a hc M hnil k;induction k using Nat.strongRecOn with
  |_ k ih=>
   intro hk;cases hDk:D k with
   |true=>rfl
   |false=>
    exfalso;have hy:ops[k]? =some ops[k]:=D2 hk;have:k∈Region.ready .any ops listed:=by
     unfold Region.ready;refine PI.2 ⟨Of.2 hk,?_⟩;simp only[hy,D9,F4,AP,GS];refine⟨by rw[F3,M.list k hk,hDk];rfl,?_⟩;rw[Array.all_eq_true_iff_forall_mem];intro e he;cases hb:Region.binds .any e with
     |false=>rfl
     |true=>
      have hl:=hreg.back k _ hy e he hb;simp only[OS,It];rw[F3,M.list e.on (by omega),ih e.on hl (by omega)];rfl
    rw[hnil]at this;cases this
 intro fuel;induction fuel with
 |zero=>
  intro D listed β w a hc M hcount;have hall: ∀k,k<ops.size→D k=true:=by
   intro k hk;cases hDk:D k with
   |true=>rfl
   |false=>
    have:=OV hDk hk;omega
  refine⟨?_,fin M hall⟩;cases hrd:Region.ready .any ops listed with
  |nil=>rfl
  |cons k l=>
   exfalso;have:k∈Region.ready .any ops listed:=by rw[hrd];simp
   obtain⟨h1,h2⟩:=PI.1 this;have hk:=Of.1 h1;simp only[AP,GS]at h2;have h3:=h2.1;rw[F3,M.list k hk,hall k hk]at h3;cases h3
 |succ fuel ih=>
  intro D listed β w a hc M hcount;refine⟨fun hnil=>fin M (more M hnil),fun i hi=>?_⟩;obtain⟨h1,h2⟩:=PI.1 hi;have hlt:=Of.1 h1;have hy:ops[i]? =some ops[i]:=D2 hlt;generalize ops[i]=o at hy;simp only[hy,D9,F4,AP,GS]at h2;have hDi:D i=false:=by
   have h3:=h2.1;rw[F3,M.list i hlt]at h3;simpa using h3
  have hr: ∀e∈o.after,Region.binds .any e=true→D e.on=true:=by
   intro e he hb;have h3:=(Array.all_eq_true_iff_forall_mem.1 h2.2) e he;have hl:=hreg.back i _ hy e he hb;rw[hb]at h3;simp only[OS,It]at h3;rw[F3,M.list e.on (by omega)]at h3;simpa using h3
  have him:i≤m:=by
   rcases hend with⟨_,hm,_⟩|⟨v,x,_,hm,hal,hx,_⟩
   .omega
   .by_cases e:i≤m
    .exact e
    .exfalso;have:=L6 hreg M.closed hy hr (hreg.alone m i x o (by omega) hx hy (.inl hal));have:=M.lt m this;omega
  obtain⟨hops,hgd⟩:=AA7 R hreg M.closed M.lt hy him hDi hr;by_cases hm:i<m
  .obtain⟨o',ho',hs⟩:=R.step i hm;rw[hy]at ho';cases ho';have hag:eG (F i).rd (S i).heap.get hc.get:=zm fun id hid=>by
    rw[M.heap,wj R hreg M.closed M.lt hy hm hDi hr hid]
   obtain⟨v,h2',e1,e2,e3,e4⟩:=O5 (ro:=ro) hC hT hro hy (R.lw i him) hs hops hgd hag hds;have s':KV A β w nt (IL ops S D m) (S i).defs hc a:=by rw[R.defs i him];exact M.s
   refine e4 A β w a M.pm.hr (M.fresh i hlt hDi) s' _ _ fun a1 w1 ⟨β1,g1,s1⟩=>?_;rw[vU R hreg M.closed M.lt hy hm hDi e1,R.defs (i+1) hm]at s1;have hcnt:=OV hDi hlt;refine ih (MW D i) _ β1 w1 a1 h2' ⟨Zw M.closed hy hr,fun k hk=>?_,by simp[M.size],fun k hk=>?_,fun id=>?_,s1,M.pm.trans (g1.up (ES _ _)),fun k hk hDk=>?_,?_⟩ (by omega)
   .by_cases e:k=i
    .omega
    .rw[Hf D e]at hk;exact M.lt k hk
   .by_cases e:k=i
    .subst e;rw[Hr];simp[M.size,hlt]
    .rw[Hf D e,HW (Ne.symm e)];exact M.list k hk
   .rw[e3,←qe R hreg M.closed M.lt hm hDi id];rcases Vw (F i).wr id with hn|hw
    .rw[FJ hn,FJ hn,M.heap]
    .rw[hw,hw]
   .by_cases e:k=i
    .subst e;rw[Hr]at hDk;cases hDk
    .rw[Hf D e]at hDk;exact(M.fresh k hk hDk).other (by omega) g1.out
   .exact fun n hn=>(M.freshFrom n hn).other (by omega) g1.out
  ·
   have him':i=m:=by omega
   subst him';rcases hend with⟨_,hm',_⟩|⟨v,x,rfl,hm',hal,hx,hpan⟩
   .omega
   .rw[hy]at hx;cases hx;have hall: ∀j,j<i→D j=true:=fun j hj=>by
     have hjs:j<ops.size:=by omega
     exact L6 hreg M.closed hy hr (hreg.alone j i _ o hj (D2 hjs) hy (.inr hal))
    have he:IL ops S D i=(S i).env.get:=by
     funext t;exact Pv R.env (D6 _) fun j hj _=>hall j hj
    have hh: ∀id,(S i).heap.get id=hc.get id:=fun id=>by
     rw[M.heap];exact(Nh (R.ii id) (D6 _) fun j hj h=>by rw[hall j hj]at h;cases h).symm
    obtain⟨h2',e1,e2,e3,e4,e5⟩:=R9 (ro:=ro) hC hT hy (R.lw i him) hpan hops hgd hh hds;have s':KV A β w nt (IL ops S D i) (S i).defs hc a:=by rw[R.defs i him];exact M.s
    refine e5 A β w a M.pm.hr (M.fresh i hlt hDi) s' _ _ fun a1 w1 u ⟨β1,g1,s1,hv⟩=>?_;have g:=M.pm.trans (g1.up (ES _ _));refine⟨v,u,β1,rfl,rfl,⟨⟨g.out,g.hr.congr e4,by rw[←MS.congr e4];exact g.ip,fun ρ h1 h2=>?_⟩,?_,?_⟩,?_⟩
    .obtain⟨k1,k2,k3⟩:=g.kept ρ h1 h2;exact⟨k1,k2,fun id hid=>by rw[←e4];exact k3 id hid⟩
    .rw[e1,e3,←he];exact s1.congr e4
    .exact fun n hn=>(M.freshFrom n hn).other (by omega) g1.out
    .rw[←MS.congr e4];exact hv
theorem vN(hC:Ke P mix C)(hT:Cn P W K)(hro:fr.wn=false→ro=none)(hmix:P.follows .mixedOrders=true)(hreg:QC ops d8 alone)(hds: ∀o∈ops,∀d,o.dst=some d→d<nt.n){id:Nat}{st st':St}{out:Option AV}(hL:LW W st.heap)
 (hr:Ch C K fr ops b alone ops.toList 0 st=.ok ((out,st'),fps)) (hp:DE fps d8=true):
 st'.base=st.base∧LW W st'.heap∧ ∀(A:Nat→Prop) (β:Ag) (w:World) (a:Act),HR A β w st.heap→KV A β w nt st.env.get st.defs st.heap a→Bl β fr.π b→
  (Code.region id ops true).wpIn (FF ro) 0 P (WG A fr.bi fr.π nt β w st.heap out st' (b+ops.size)) a w:=by
 obtain⟨hb0,hL0,_⟩:=bu (ro:=ro) hC hT hro hds ops.toList 0 st st' fps out (I6 _) rfl hL hr;refine⟨hb0,hL0,fun A β w a H s hf=>?_⟩;obtain⟨S,F,m,h1,h2,rfl,h4,h5⟩:=R2 ops.toList 0 st st' fps out (I6 _) rfl hr;have R:zK W C K fr ops b d8 alone S F m:=ABE (ro:=ro) hC hT hro hreg hds hp h2 hL fun k hk=>h4 k (I6 _) hk;refine wpIn_region_any hmix ?_;have hw:({w with drawn:=w.drawn+1}:World).heap=w.heap:=rfl
 have H':=H.heap hw ⟨rfl,rfl⟩;have hpres:DX A (MS A β (S 0).heap) w (MS A β (S 0).heap) {w with drawn:=w.drawn+1}:=Ou hw ⟨rfl,rfl⟩ _
 have e0:IL ops S (fun _=>false) m=(S 0).env.get:=by
  funext t;have: ∀n,IL ops S (fun _=>false) n t=(S 0).env.get t:=by
   intro n;induction n with
   |zero=>rfl
   |succ n ih=>simp[IL,ih]
  exact this m
 have h0: ∀id,(S 0).heap.get id=Gb S F (fun _=>false) m id:=by
  intro id;have: ∀n,Gb S F (fun _=>false) n id=(S 0).heap.get id:=by
   intro n;induction n with
   |zero=>rfl
   |succ n ih=>simp[Gb,ih]
  exact(this m).symm
 refine zr hC hT hro hreg hds R h5 ops.size (fun _=>false) _ β _ a (S 0).heap ⟨fun _ _ _ h=>(by cases h),fun _ h=>(by cases h),by simp,fun k hk=>?_,h0,?_,?_,fun i _ _=>hf _ (by omega),hf.mono (by omega)⟩ ?_
 .simp[Array.getElem?_replicate,hk]
 .rw[e0];exact s.mono (.refl β) hpres
 .exact⟨fun _ _=>rfl,H',hpres,fun _ _ _=>⟨fun _ _ _=>rfl,fun _ h=>.inl h,fun _ _=>rfl⟩⟩
 .exact IP (List.countP_le_length) (by simp)
variable{A:Nat→Prop}{P:Program}{mix:List TypeId}{β β' β'':Ag}{w w' w'':World}{M:Nat→Prop}{h h' h'':AB}{π ρ:List Nat}{bi:Option (List Nat)}{nt:NT}{env:Nat→AV}{defs defs':List Df}{a:Act}{ro:Option Nat}{W:Lp→Prop}
theorem EC: ∀{l:List Id} {n:Nat} {x z:Id},DD π l n x=some z→ ∃j t,l[j]? =some x∧z=t::(n+j)::π
 |[],n,x,z,h=>by simp[DD]at h
 |y::l,n,x,z,h=>by
  simp only[DD]at h;split at h
  .rename_i e;rw[Id.is_iff]at e;subst e;simp only[Bi]at h;exact⟨0,_,rfl,h.symm⟩
  .obtain⟨j,t,h1,h2⟩:=EC h;exact⟨j+1,t,by simpa using h1,by rw[h2];congr 2;omega⟩
theorem K7{l:List Id}{x y z:Id}(h1:DD π l 0 x=some z)(h2:DD π l 0 y=some z):x=y:=by
 obtain⟨j,t,a1,a2⟩:=EC h1;obtain⟨k,u,b1,b2⟩:=EC h2;rw[a2]at b2;simp only[Md,I1,and_true]at b2;rw[b2.2,b1]at a1;exact(MP a1).symm
theorem GP(ν:Id→Option Id)(vs:List AV):Ig ν vs=vs.map (L7 ν):=by
 induction vs with
 |nil=>rfl
 |cons v vs ih=>simp[Ig,ih]
variable{β2:Ag}{M2:Nat→Prop}{ν:Id→Option Id}
theorem Ru(hν: ∀x z,ν x=some z→β2 z=β x)(hM: ∀b,M2 b→M b){x:AV}{v:Value}(h:VR β w M x v):VR β2 w M2 (L7 ν x) v:=by
 have cells: ∀{cs:List AV} {c:Array Value},(∀(i:Nat) (x:AV) (v:Value),cs[i]? =some x→c[i]? =some v→VR β2 w M2 (L7 ν x) v)→
  ∀(i:Nat) (x:AV) (v:Value),(Ig ν cs)[i]? =some x→c[i]? =some v→VR β2 w M2 x v:=by
  intro cs c ih i x v hx hv;rw[GP,Cs,BI]at hx;obtain⟨y,hy,rfl⟩:=hx;exact ih i y v hy hv
 induction h with
 |d h=>simp only[L7];exact .d (h.mono (A:=fun _=>False) (FG hM w))
 |co=>exact .co
 |emp a=>exact .emp a
 |f8 id off len k a cap hk hn hl ha=>
  simp only[L7];split
  .rename_i z hz;exact .f8 z off len k a cap (by rw[hν _ _ hz];exact hk) hn hl ha
  .exact .undef _
 |ptr id off k hk=>
  simp only[L7];split
  .rename_i z hz;exact .ptr z off k (by rw[hν _ _ hz];exact hk)
  .exact .undef _
 |i7 id i off k hk=>
  simp only[L7];split
  .rename_i z hz;exact .i7 z i off k (by rw[hν _ _ hz];exact hk)
  .exact .undef _
 |ol cs b off c elem fr hb hm hl hd=>
  simp only[L7];exact .ol cs b off c elem fr hb (fun h=>hm (hM _ h)) hl fun i x v h1 h2=>(hd i x v h1 h2).mono (A:=fun _=>False) (FG hM w)
 |fn f a b a' b' h1 h2 _ _ ih1 ih2=>
  simp only[L7];exact .fn f _ _ a' b' (by rw[GP,BY];exact h1) (by rw[GP,BY];exact h2) (cells ih1) (cells ih2)
 |v6 id k hk=>
  simp only[L7];split
  .rename_i z hz;exact .v6 z k (by rw[hν _ _ hz];exact hk)
  .exact .undef _
 |mp id k hk=>
  simp only[L7];split
  .rename_i z hz;exact .mp z k (by rw[hν _ _ hz];exact hk)
  .exact .undef _
 |iface t v u _ ih=>simp only[L7];exact .iface t _ u ih
 |agg cs c h1 _ ih=>simp only[L7];exact .agg _ c (by rw[GP,BY];exact h1) (cells ih)
 |it cs c h1 _ ih=>simp only[L7];exact .it _ c (by rw[GP,BY];exact h1) (cells ih)
 |undef v=>exact .undef v
theorem eg(ν:Id→Option Id)(e:BT)(t:Nat):BT.get (e.map fun p=>(p.1,L7 ν p.2)) t=L7 ν (e.get t):=by
 induction e with
 |nil=>rfl
 |cons p e ih=>
  obtain⟨k,v⟩:=p;simp only[El,BT.get_cons,ih];split<;>rfl
theorem yf(hν: ∀x z,ν x=some z→β2 z=β x)(hM: ∀b,M2 b→M b){k:Po}{o:Obj}(h:Kh β w M k o):Kh β2 w M2 k (Ih ν o):=by
 have dr: ∀{x:AR} {v:Value},DR w M x v→DR w M2 x v:=fun h=>h.mono (A:=fun _=>False) (FG hM w);cases o with
 |box cs=>
  obtain⟨c,elem,h1,h2⟩:=h;refine⟨c,elem,h1,by rw[GP,BY];exact h2.1,fun i x v hx hv=>?_⟩;rw[GP,Cs,BI]at hx;obtain⟨y,hy,rfl⟩:=hx;exact Ru hν hM (h2.2 i y v hy hv)
 |d7 sz es=>obtain⟨c,elem,h1,h2,h3,h4,h5,h6,h7⟩:=h;exact⟨c,elem,h1,h2,h3,h4,h5,h6,fun i x v a b=>dr (h7 i x v a b)⟩
 |i5 sz es=>
  rcases h with h|⟨hm,c,elem,fr,h1,h2,h3,h4,h5,h6,h7⟩
  .exact .inl h
  .exact .inr ⟨fun h=>hm (hM _ h),c,elem,fr,h1,h2,h3,h4,h5,h6,fun i x v a b=>dr (h7 i x v a b)⟩
 |arr sz es=>
  obtain⟨c,elem,h1,h2,h3,h4,h5,h6,h7⟩:=h;have hfl:(es.map (Ig ν)).flatten=es.flatten.map (L7 ν):=by
   rw[Rc];congr 1;exact List.map_congr_left fun x _=>GP ν x
  refine⟨c,elem,h1,h2,h3,h4,fun e he=>?_,by rw[BY];exact h6,fun i x v hx hv=>?_⟩
  .obtain⟨y,hy,rfl⟩:=Em.1 he;rw[GP,BY];exact h5 y hy
  .rw[hfl,Cs,BI]at hx;obtain⟨y,hy,rfl⟩:=hx;exact Ru hν hM (h7 i y v hy hv)
 |map es=>
  obtain⟨en,cl,h1,h2,h3⟩:=h;refine⟨en,cl,h1,by rw[BY];exact h2,fun i p e hp he=>?_⟩;rw[Cs,BI]at hp;obtain⟨y,hy,rfl⟩:=hp;exact⟨dr (h3 i y e hy he).1,Ru hν hM (h3 i y e hy he).2⟩
 |loop r=>
  obtain⟨l,h1,h2,h3,h4,h5,h6,h7,h9,h8⟩:=h;refine⟨l,h1,h2,h3,h4,h5,h6,h7,h9,fun t=>?_⟩;rw[eg];exact Ru hν hM (h8 t)
theorem Vn(ν:Id→Option Id)(o:Obj):(Ih ν o).mut=o.mut:=by cases o<;>rfl
theorem EO{ν:Id→Option Id}: ∀{l:List Id} {z:Id} {o2:Obj},(Ct h ν l).get z=some o2→ ∃x o,h.get x=some o∧ν x=some z∧o2=Ih ν o
 |[],z,o2,hg=>by simp[Ct]at hg
 |x::l,z,o2,hg=>by
  simp only[Ct]at hg;split at hg
  .rename_i o z' h1 h2;rw[AB.get_cons]at hg;split at hg
   .rename_i e;subst e;cases hg;exact⟨x,o,h1,h2,rfl⟩
   .exact EO hg
  .exact EO hg
theorem RK(e:BT): ∀(l:List Nat) (t:Nat),BT.get (l.map fun t=>(t,e.get t)) t=e.get t∨BT.get (l.map fun t=>(t,e.get t)) t=.undef
 |[],t=>.inr rfl
 |k::l,t=>by
  simp only[El,BT.get_cons];split
  .rename_i h;subst h;exact .inl rfl
  .exact RK e l t
theorem ou{C:B9}{fr:Fr}{b:Nat}{st:St}(H:HR A β w st.heap)(s:KV A β w nt st.env.get st.defs st.heap a)(hf:Bl β fr.π st.base)(hown:fr.raw=false→ ∀id,β id≠none→fr.π<:+id):
 ∃β2,BM A bi fr.π β w st.heap β2 w (Eb C fr b st).heap∧KV A β2 w nt (Eb C fr b st).env.get (Eb C fr b st).defs (Eb C fr b st).heap a∧Bl β2 fr.π (Eb C fr b st).base:=by
 unfold Eb;simp only;split
 .refine⟨β,BM.refl H,⟨s.sz,fun t=>?_,s.defs⟩,hf⟩;simp only;rcases RK st.env (C.live fr.f b) t with e|e
  .rw[e];exact s.env t
  .rw[e];exact .undef _
 .rename_i hcond;simp only[Ip,not_or,Mt,Bool.not_eq_eq_eq_not,Bool.not_not]at hcond;obtain⟨hraw,hdefs⟩:=hcond;have hown:=hown hraw;have hd0:st.defs=[]:=by simpa using hdefs
  generalize hl:Bm st.heap 1000 (ER [] (((C.live fr.f b).map fun t=>(t,st.env.get t)).flatMap fun p=>AD p.2)) 0=l
  classical
  let ν:=DD fr.π l 0
  let β2:Ag:=fun z=>if hz: ∃x,ν x=some z then β hz.choose else none
  have hν: ∀x z,ν x=some z→β2 z=β x:=by
   intro x z hx;have hz: ∃x,ν x=some z:=⟨x,hx⟩;simp only[β2,dif_pos hz];rw[K7 hz.choose_spec hx]
  have hback: ∀z k,β2 z=some k→ ∃x,ν x=some z∧β x=some k:=by
   intro z k hk;by_cases hz: ∃x,ν x=some z
   .simp only[β2,dif_pos hz]at hk;exact⟨_,hz.choose_spec,hk⟩
   .simp only[β2,dif_neg hz]at hk;cases hk
  have hname: ∀x z,ν x=some z→ ∃j t,j<l.length∧z=t::j::fr.π:=by
   intro x z hx;obtain⟨j,t,h1,h2⟩:=EC hx;exact⟨j,t,(BE.1 h1).1,by rw[h2,I1]⟩
  have hunder: ∀x z,ν x=some z→fr.π<:+z:=by
   intro x z hx;obtain⟨j,t,_,rfl⟩:=hname x z hx;exact(ES _ _).trans (ES _ _)
  have hM: ∀b,MS A β2 (Ct st.heap ν l) b→MS A β st.heap b:=by
   rintro b (hb|⟨z,o,k,h1,h2,h3,rfl⟩)
   .exact .inl hb
   .obtain⟨x,o',g1,g2,rfl⟩:=EO h1;rw[Vn]at h2;rw[hν x z g2]at h3;exact .inr ⟨x,o',k,g1,h2,h3,rfl⟩
  have H2:HR A β2 w (Ct st.heap ν l):=by
   refine⟨fun z o ho=>?_,fun y z oy oz ky kz hy hz hmy hmz hky hkz e=>?_,fun z k hk=>?_,fun z o k ho hm hk=>?_,H.abnd⟩
   .obtain⟨x,o',g1,g2,rfl⟩:=EO ho;obtain⟨k,hk,hr⟩:=H.obj x o' g1;exact⟨k,by rw[hν x z g2];exact hk,yf hν hM hr⟩
   .obtain⟨x,o',g1,g2,rfl⟩:=EO hy;obtain⟨x2,o2',g3,g4,rfl⟩:=EO hz;rw[Vn]at hmy hmz;rw[hν x y g2]at hky;rw[hν x2 z g4]at hkz;have:=H.inj x x2 o' o2' ky kz g1 g3 hmy hmz hky hkz e;subst this;rw[g2]at g4;exact MP g4
   .obtain⟨x,_,hx⟩:=hback z k hk;exact H.wt x k hx
   .obtain⟨x,o',g1,g2,rfl⟩:=EO ho;rw[Vn]at hm;rw[hν x z g2]at hk;exact H.out x o' k g1 hm hk
  refine⟨β2,⟨fun id hi=>?_,H2,⟨fun _ _ _=>rfl,D6 _,fun b hb=>.inl (hM b hb),rfl,rfl⟩,fun σ hσ _=>⟨fun _ _ _=>rfl,?_,fun id hi=>?_⟩⟩,⟨s.sz,fun t=>?_,?_⟩,fun n hn z hz=>?_⟩
  .have h1:β id=none:=by
    cases hb:β id with
    |none=>rfl
    |some k=>exact absurd (hown id (by rw[hb];simp)) hi
   have h2:β2 id=none:=by
    cases hb:β2 id with
    |none=>rfl
    |some k=>
     obtain⟨x,hx,_⟩:=hback id k hb;exact absurd (hunder x id hx) hi
   rw[h1,h2]
  .rintro b ⟨z,k,h1,h2,rfl⟩;obtain⟨x,hx,hk⟩:=hback z k h2;exact .inl ⟨x,k,hσ.trans (hown x (by rw[hk];simp)),hk,rfl⟩
  .have h1:(Ct st.heap ν l).get id=none:=by
    cases hg:(Ct st.heap ν l).get id with
    |none=>rfl
    |some o=>
     obtain⟨x,_,_,g2,_⟩:=EO hg;exact absurd (hσ.trans (hunder x id g2)) hi
   have h2:st.heap.get id=none:=by
    cases hg:st.heap.get id with
    |none=>rfl
    |some o=>
     obtain⟨k,hk,_⟩:=H.obj id o hg;exact absurd (hσ.trans (hown id (by rw[hk];simp))) hi
   rw[h2];exact h1
  .simp only;rw[eg];refine Ru hν hM ?_;rcases RK st.env (C.live fr.f b) t with e|e
   .rw[e];exact s.env t
   .rw[e];exact .undef _
  .have:=s.defs;rw[hd0]at this;cases hd:a.defers with
   |nil=>trivial
   |cons d l=>rw[hd]at this;exact this.elim
  .cases hb:β2 z with
   |none=>rfl
   |some k=>
    exfalso;obtain⟨x,hx,_⟩:=hback z k hb;obtain⟨j,t,hj,rfl⟩:=hname x z hx;have:=JO hz (ES t (j::fr.π));have:l.length≤n:=hn;omega
end Go.Abs
