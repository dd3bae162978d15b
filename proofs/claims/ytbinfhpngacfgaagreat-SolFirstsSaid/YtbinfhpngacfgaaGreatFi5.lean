/-
  Parts of it.
-/
import Derived.OrdersIn
import Derived.RangeFuncLeaves
import Derived.Test.YtbinfhpngacfgaaGreatFi4
set_option linter.all false
namespace Go.Abs
variable{A:Nat→Prop}{P:Program}{mix:List TypeId}{β β' β'':Aj}{w w' w'':World}{M:Nat→Prop}{h h' h'':AB}{π ρ:List Nat}{bi:Option (List Nat)}
def ER(β:Aj)(π:List Nat):Prop:= ∀id,π<:+id→β id=none
def lK(ρ:List Nat)(β:Aj)(b:Nat):Prop:= ∃id k,ρ<:+id∧β id=some k∧k.b=b
def TA(bi:Option (List Nat))(ρ:List Nat)(β:Aj):Prop:=bi=some ρ∨ ∀id,β id≠none→ρ<:+id
def AAj(bi:Option (List Nat))(π:List Nat)(β:Aj)(w:World)(h:AB)(β':Aj)(w':World)(h':AB):Prop:=
 ∀ρ,ρ<:+π→TA bi ρ β→(∀b,b<w.heap.size→ ¬lK ρ β b→w'.heap[b]? =w.heap[b]?)∧(∀b,lK ρ β' b→lK ρ β b∨w.heap.size≤b)∧ ∀id,¬ρ<:+id→h'.get id=h.get id
structure BQ(A:Nat→Prop)(bi:Option (List Nat))(π:List Nat)(β:Aj)(w:World)(h:AB)(β':Aj)(w':World)(h':AB):Prop where
 out: ∀id,¬π<:+id→β' id=β id
 hr:HR A β' w' h'
 ge:DU A (MS A β h) w (MS A β' h') w'
 kept:AAj bi π β w h β' w' h'
theorem BQ.refl(H:HR A β w h):BQ A bi π β w h β w h:=
 ⟨fun _ _=>rfl,H,.refl _ _,fun _ _ _=>⟨fun _ _ _=>rfl,fun _ hb=>.inl hb,fun _ _=>rfl⟩⟩
theorem Wa(hs:ρ<:+π)(ho: ∀id,¬π<:+id→β' id=β id)(hg:TA bi ρ β):TA bi ρ β':=by
 refine hg.imp (fun h=>h) fun h id hi=>?_;by_cases e:π<:+id
 .exact hs.trans e
 .rw[ho id e]at hi;exact h id hi
theorem BQ.trans(g1:BQ A bi π β w h β' w' h')(g2:BQ A bi π β' w' h' β'' w'' h''):BQ A bi π β w h β'' w'' h'' where
 out id hi:=by rw[g2.out id hi,g1.out id hi]
 hr:=g2.hr
 ge:=g1.ge.trans g2.ge
 kept ρ hρ hg:=by
  obtain⟨a1,a2,a3⟩:=g1.kept ρ hρ hg;obtain⟨b1,b2,b3⟩:=g2.kept ρ hρ (Wa hρ g1.out hg);refine⟨fun b hb hu=>?_,fun b hb=>?_,fun id hi=>by rw[b3 id hi,a3 id hi]⟩
  .rw[b1 b (Li hb g1.ge.size) (fun hu'=>(a2 b hu').elim hu (fun h=>by omega)),a1 b hb hu]
  .rcases b2 b hb with h1|h1
   .exact a2 b h1
   .exact .inr (Hw g1.ge.size h1)
theorem BQ.le(g:BQ A bi π β w h β' w' h')(hf:ER β π):Le β β':=fun id k hk=>by
 rw[g.out id fun hs=>by rw[hf id hs]at hk;cases hk];exact hk
theorem BQ.up{n:List Nat}(hs:π<:+n)(g:BQ A bi n β w h β' w' h'):BQ A bi π β w h β' w' h':=
 ⟨fun id hi=>g.out id fun hn=>hi (hs.trans hn),g.hr,g.ge,fun ρ hρ hg=>g.kept ρ (hρ.trans hs) hg⟩
variable{h2:AB}
theorem MS.congr{h:AB}(e: ∀id,h.get id=h2.get id):MS A β h=MS A β h2:=by
 funext b;simp only[MS,e]
theorem HR.congr{h:AB}(e: ∀id,h.get id=h2.get id)(H:HR A β w h):HR A β w h2:=by
 have hM:=MS.congr (A:=A) (β:=β) e;refine⟨fun id o ho=>?_,fun a b oa ob ka kb ha hb=>H.inj a b oa ob ka kb (by rw[e];exact ha) (by rw[e];exact hb),H.ut,fun id o k ho=>H.out id o k (by rw[e];exact ho),H.wn⟩;rw[←hM];exact H.obj id o (by rw[e];exact ho)
theorem BQ.congr{h:AB}(e: ∀id,h.get id=h2.get id)(g:BQ A bi π β w h β' w' h'):BQ A bi π β w h2 β' w' h':=by
 refine⟨g.out,g.hr,by rw[←MS.congr e];exact g.ge,fun ρ hρ hg=>?_⟩;obtain⟨a,b,c⟩:=g.kept ρ hρ hg;exact⟨a,b,fun id hi=>by rw[←e];exact c id hi⟩
structure NT where
 n:Nat
 lb:Nat
inductive yu(lb:Nat)(β:Aj)(w:World)(M:Nat→Prop):Df→Deferred→Prop
 |mark (id r):w.heap[r]? =some (.deferred (some []))→ ¬M r→lb≤r→yu lb β w M (.mark id) {target:=.collected r,args:= #[]}
 |call (f args vs):FK β w M args vs→yu lb β w M (.call f args) {target:=.fn (.func f) #[],args:=vs}
def IQ(lb:Nat)(β:Aj)(w:World)(M:Nat→Prop):List Df→List Deferred→Prop
 |[],[]=>True
 |d::l,e::m=>yu lb β w M d e∧IQ lb β w M l m∧ ∀e'∈m,∀r,e.target=.collected r→e'.target≠ .collected r
 |_,_=>False
variable{lb:Nat}{M':Nat→Prop}
theorem yu.mono(hβ:Le β β')(hp:DU A M w M' w'){d:Df}{e:Deferred}(h:yu lb β w M d e):yu lb β' w' M' d e:=by
 cases h with
 |mark id r h1 h2 h3=>exact .mark id r (by rw[hp.ne r (AL h1) (.inl h2)];exact h1) (hp.sub' (AL h1) h2) h3
 |call f args vs h1=>exact .call f args vs (h1.mono hβ hp)
theorem IQ.mono(hβ:Le β β')(hp:DU A M w M' w'): ∀{l:List Df} {m:List Deferred},IQ lb β w M l m→IQ lb β' w' M' l m
 |[],[],_=>trivial
 |_::_,_::_,h=>⟨h.1.mono hβ hp,IQ.mono hβ hp h.2.1,h.2.2⟩
 |[],_::_,h=>h.elim
 |_::_,[],h=>h.elim
theorem IQ.marks{lb:Nat}: ∀{l:List Df} {m:List Deferred},IQ lb β w M l m→ ∀e∈m,∀r,e.target=.collected r→r<w.heap.size
 |[],[],_,e,he,_,_=>by cases he
 |d::l,e'::m,h,e,he,r,hr=>by
  rcases DL.1 he with rfl|he
  .obtain⟨h1,_,_⟩:=h;cases h1 with
   |mark id r' h2 _ _=>simp only[Target.collected.injEq]at hr;subst hr;exact AL h2
   |call f args vs _=>cases hr
  .exact IQ.marks h.2.1 e he r hr
 |[],_::_,h,_,_,_,_=>h.elim
 |_::_,[],h,_,_,_,_=>h.elim
structure KG(A:Nat→Prop)(β:Aj)(w:World)(nt:NT)(env:Nat→AV)(defs:List Df)(h:AB)(a:Act):Prop where
 sz:a.tmps.size=nt.n
 env:IK β w (MS A β h) env fun t=>a.tmps.getD t Go.undef
 defs:IQ nt.lb β w (MS A β h) defs a.defers
variable{nt:NT}{env:Nat→AV}{defs:List Df}{a:Act}
theorem KG.congr{h:AB}(e: ∀id,h.get id=h2.get id)(s:KG A β w nt env defs h a):KG A β w nt env defs h2 a:=
 ⟨s.sz,by rw[←MS.congr e];exact s.env,by rw[←MS.congr e];exact s.defs⟩
theorem KG.mono(s:KG A β w nt env defs h a)(hβ:Le β β')(hp:DU A (MS A β h) w (MS A β' h') w'):KG A β' w' nt env defs h' a:=
 ⟨s.sz,s.env.mono hβ hp,s.defs.mono hβ hp⟩
def OJ(e:Nat→AV)(dst:Option Tmp)(v:AV)(t:Nat):AV:=match dst with
 |some d=>if d=t then v else e t
 |none=>e t
theorem Xv(e:CB)(dst:Option Tmp)(v:AV):(B8 e dst v).get=OJ e.get dst v:=by
 funext t;cases dst with
 |none=>rfl
 |some d=>simp[B8,OJ,CB.get_cons]
theorem pd(a:Act)(dst:Option Tmp)(u:Value):(a.put dst u).tmps.size=a.tmps.size:=by
 cases dst<;>simp[Act.put]
theorem Xx(a:Act)(dst:Option Tmp)(u:Value):(a.put dst u).defers=a.defers:=by
 cases dst<;>rfl
theorem KG.put{nt:NT}{env:Nat→AV}{defs:List Df}{a:Act}(s:KG A β w nt env defs h a){dst:Option Tmp}(hd: ∀d,dst=some d→d<nt.n){v:AV}{u:Value}(hv:VR β w (MS A β h) v u):
 KG A β w nt (OJ env dst v) defs h (a.put dst u):=by
 refine⟨by rw[pd];exact s.sz,fun t=>?_,by rw[Xx];exact s.defs⟩;cases dst with
 |none=>exact s.env t
 |some d=>
  have hlt:d<a.tmps.size:=by rw[s.sz];exact hd d rfl
  simp only[OJ,Act.put];by_cases e:d=t
  .subst e;simp[hlt];exact hv
  .have:=s.env t;simp only[D3 e];rw[F5,II e,←F5];exact this
abbrev FF(ro:Option Nat):Fence:={Fence.wide with round:=ro}
def wQ(β:Aj)(w:World)(M:Nat→Prop):Ae→Ending→Prop
 |.ret v,.returned u=>VR β w M v u
 |.em v,.panicked chain=> ∃u,chain=[{v:=u,recovered:=false}]∧VR β w M v u
 |_,_=>False
def Mi(A:Nat→Prop)(bi:Option (List Nat))(π:List Nat)(β:Aj)(w:World)(h:AB)(r:Ae×AB)(e:Ending)(w':World):Prop:=
 ∃β',BQ A bi π β w h β' w' r.2∧wQ β' w' (MS A β' r.2) r.1 e
def GP(l:Loop)(vs:Array Value):Array Value:=(l.params.zip vs).foldl (fun tmps (x:Nat×Value)=>tmps.setIfInBounds x.1 x.2) l.tmps
def Nx(P:Program)(A:Nat→Prop)(t:zJ)(args:List AV)(h:AB)(π:List Nat)(bi:Option (List Nat))(r:Ae×AB)(β:Aj):Prop:=
 ∀(w:World) (vs:Array Value),HR A β w h→ER β π→FK β w (MS A β h) args vs→
  match t with
  |.fn f=>Calls P f vs w (Mi A bi π β w h r)
  |.round id lp=>lp.params.length=args.length∧ ∀(k:PJ) (l:Loop),h.get id=some (.loop lp)→β id=some k→w.heap[k.b]? =some (.loop l)→
   RoundIn Fence.wide 0 P k.b l.fn (GP l vs) l.assign l.body w (Mi A bi π β w h r)
def Jf(P:Program)(f:FuncId):Prop:= ∃fn c,P.funcs[f]? =some fn∧fn.body=some c∧(fn.name== "runtime.NumGoroutine")=false
def LW(W:Lp→Prop)(h:AB):Prop:= ∀id r,h.get id=some (.loop r)→W r
structure cJ(P:Program)(W:Lp→Prop)(t:zJ)(args:List AV)(h:AB)(π:List Nat)(raw:Bool)(bi:Option (List Nat))(r:Ae×AB):Prop where
 ent: ∀f,t=.fn f→Jf P f
 rw:raw=true→(∀id lp,t=.round id lp→W lp)→LW W h→ ∀A β,Nx P A t args h π bi r β
 pu:raw=false→h=[]→bi=none→ ∀A,Nx P A t args [] π none r fun _=>none
 ids:raw=false→h=[]→bi=none→π=[]→ ∀v,r.1=.ret v→AD v=[]∧r.2=[]
 lw:(∀id lp,t=.round id lp→W lp)→LW W h→LW W r.2
def Ct(P:Program)(W:Lp→Prop)(K:AJ):Prop:=
 ∀(t:zJ) (args:List AV) (h:AB) (π:List Nat) (raw:Bool) (bi:Option (List Nat)) (r:Ae×AB),K t args h π raw bi=.ok r→cJ P W t args h π raw bi r
variable{δ:AB}
theorem YP{ρ:List Nat}(h:JE (some ρ) δ=true): ∀p∈δ,ρ<:+p.1:=fun p hp=>
 (Id.under_iff _ _).1 (CO.1 h p hp)
theorem IY{δ:AB}(hle:Le β β')(hnew: ∀id,β' id≠none→β id≠none∨ρ<:+id)(H':HR A β' w' (h.puts δ))(hp:DU A (MS A β h) w (MS A β' (h.puts δ)) w')(hc:zD β w β' w' δ)
 (hw:JE bi δ=true):BQ A bi ρ β w h β' w' (h.puts δ):=by
 have hout: ∀id,¬ρ<:+id→β' id=β id:=by
  intro id hi;cases hb:β id with
  |some k=>exact hle id k hb
  |none=>
   cases hb':β' id with
   |none=>rfl
   |some k=>exact absurd (hnew id (by rw[hb'];simp)) (by simp[hb,hi])
 refine⟨hout,H',hp,fun σ hσ hg=>?_⟩;have hδ: ∀p∈δ,∀k,β p.1=some k→σ<:+p.1:=by
  intro p hp k hk;rcases hg with hg|hg
  .subst hg;exact YP hw p hp
  .exact hg p.1 (by rw[hk];simp)
 refine⟨fun b hb hu=>hc.1 b hb fun p hp k hk e=>hu ⟨p.1,k,hδ p hp k hk,hk,e⟩,?_,fun id hi=>?_⟩
 .rintro b ⟨id,k,h1,h2,rfl⟩;rcases hc.2 id k h2 with h3|h3|⟨p,hp,k',h3,h4⟩
  .exact .inl ⟨id,k,h1,h3,rfl⟩
  .exact .inr h3
  .exact .inl ⟨p.1,k',hδ p hp k' h3,h3,h4⟩
 .rcases Gz δ h id with⟨h1,_⟩|⟨p,h1,rfl,h3⟩
  .exact h1
  .refine absurd ?_ hi;rcases hg with hg|hg
   .subst hg;exact YP hw p h1
   .obtain⟨k,hk,_⟩:=H'.obj p.1 p.2 h3;by_cases e:ρ<:+p.1
    .exact hσ.trans e
    .rw[hout _ e]at hk;exact hg p.1 (by rw[hk];simp)
def zC(A:Nat→Prop)(bi:Option (List Nat))(π:List Nat)(nt:NT)(β:Aj)(w:World)(h:AB)(env:Nat→AV)(defs:List Df)(h':AB)(a':Act)(w':World):Prop:=
 ∃β',BQ A bi π β w h β' w' h'∧KG A β' w' nt env defs h' a'
theorem pa{ro:Option Nat}{o:Oper}{eff:Bw}(H:HR A β w h)(hf:ER β ρ)(s:KG A β w nt env defs h a)
 (hd: ∀d,o.dst=some d→d<nt.n) (hdf: ∀c,o.op≠ .defer c) (ho:evalOp (Bc P mix) env h.get ρ o.op=some eff) (hw:JE bi eff.δ=true) {next:Act→World→Prop} {Q:Exit→Act→World→Prop}
 (hn: ∀a' w',zC A bi ρ nt β w h (OJ env o.dst eff.v) defs (h.puts eff.δ) a' w'→next a' w'):o.wpIn (FF ro) 0 P a w next Q:=by
 obtain⟨n,v,w',β',hr,hnv,hle,hnew,H',hp,hv,hc⟩:=eV (P:=P) (mix:=mix) H hf s.env rfl ho;have g:=IY (bi:=bi) hle hnew H' hp hc hw;have fin:next (a.put o.dst v) w':=hn _ _ ⟨β',g,(s.mono hle hp).put hd hv⟩
 refine⟨fun _ _=>trivial,?_⟩;rw[Oper.semAt_eq _ _ _ hdf,hr];rcases hnv with rfl|⟨rfl,rfl⟩
 .exact fin
 .exact fin
variable{A:Nat→Prop}{P:Program}{mix:List TypeId}{β:Aj}{w:World}{M:Nat→Prop}
theorem E6{A M:Nat→Prop}(h: ∀b,M' b→M b)(w:World):DU A M w M' w:=⟨fun _ _ _=>rfl,El _,fun b hb=>.inl (h b hb),rfl,rfl⟩
theorem NG{vs:List AV}(h:A5 vs=[]): ∀x∈vs,AD x=[]:=by
 induction vs with
 |nil=>simp
 |cons v vs ih=>
  simp only[A5,List.append_eq_nil_iff]at h;intro x hx;rcases DL.1 hx with rfl|hx
  .exact h.1
  .exact ih h.2 x hx
variable{x:AV}{v:Value}
theorem VR.noIds{β':Aj}(hM: ∀b,M' b→M b)(h:VR β w M x v)(hi:AD x=[]):VR β' w M' x v:=by
 induction h with
 |d h=>exact .d (h.mono (A:=fun _=>False) (E6 hM w))
 |ci=>exact .ci
 |emp a=>exact .emp a
 |d8 id off len k a cap hk hn hl ha=>simp[AD]at hi
 |ptr id off k hk=>simp[AD]at hi
 |ip id i off k hk=>simp[AD]at hi
 |kw cs b off c elem fr hb hm hl hd=>exact .kw cs b off c elem fr hb (fun h=>hm (hM _ h)) hl fun i x v h1 h2=>(hd i x v h1 h2).mono (A:=fun _=>False) (E6 hM w)
 |fn f a b a' b' h1 h2 _ _ ih1 ih2=>
  simp only[AD,List.append_eq_nil_iff]at hi;exact .fn f a b a' b' h1 h2 (fun i x v hx hv=>ih1 i x v hx hv (NG hi.1 x (Ap hx))) (fun i x v hx hv=>ih2 i x v hx hv (NG hi.2 x (Ap hx)))
 |un id k hk=>simp[AD]at hi
 |mp id k hk=>simp[AD]at hi
 |iface t v u _ ih=>simp only[AD]at hi;exact .iface t v u (ih hi)
 |agg cs c h1 _ ih=>simp only[AD]at hi;exact .agg cs c h1 fun i x v hx hv=>ih i x v hx hv (NG hi x (Ap hx))
 |f8 cs c h1 _ ih=>simp only[AD]at hi;exact .f8 cs c h1 fun i x v hx hv=>ih i x v hx hv (NG hi x (Ap hx))
 |undef v=>exact .undef v
def Ix(h δ:AB)(p:Id×Obj):Prop:=
 (∃sz es,p.2=.it sz es∧h.get p.1=some (.d6 sz es))∨
 ∃sz es ds,p.2=.it sz ds∧h.get p.1=some (.arr sz es)∧Cd h.get es=some ds∧ ∀q∈es.flatMap (Bb h.get),q∈δ
theorem Ix.it{h:AB}{p:Id×Obj}(m:Ix h δ p):p.2.mut=false:=by
 rcases m with⟨_,_,h,_⟩|⟨_,_,_,h,_⟩<;>rw[h]<;>rfl
theorem Mo{h δ:AB}(hm: ∀p∈δ,p.2.mut=false){vs:List AV}(hsub: ∀p∈Bb h.get vs,p∈δ){xs:List AU}(hx:Ch h.get vs=some xs):
 ∀v∈vs,∀id∈E0 v,FI (h.puts δ) id:=by
 intro v hv id hid o ho;cases v with
 |d8 id' off n=>
  simp only[E0,Ac]at hid;subst hid;obtain⟨i,hi,hvi⟩:=Pl.1 hv;obtain⟨q1,q2⟩:=DZ hx;have hfc:=q2 i _ (xs[i]'(by omega)) (BY hi) (BY (by omega));rw[hvi]at hfc;rcases Gz δ h id with⟨h1,h2⟩|⟨p,h1,h2,h3⟩
  .simp only[EW]at hfc;split at hfc
   .rename_i sz es hg;exact absurd rfl (h2 (id,.it sz es) (hsub _ (By.2 ⟨_,hv,by simp[Ie,hg]⟩)))
   .rename_i sz es hg;rw[h1,hg]at ho;cases ho;rfl
   .cases hfc
  .rw[h3]at ho;cases ho;exact hm p h1
 |_=>simp[E0]at hid
theorem Hf{h δ:AB}(hm: ∀p∈δ,Ix h δ p):yv h (h.puts δ):=by
 refine⟨fun id=>?_⟩;rcases Gz δ h id with⟨h1,_⟩|⟨p,h1,h2,h3⟩
 .exact .inl h1
 .subst h2;rcases hm p h1 with⟨sz,es,h4,h5⟩|⟨sz,es,ds,h4,h5,h6,h7⟩
  .exact .inr (.inl ⟨sz,es,h5,by rw[h3,h4]⟩)
  .refine .inr (.inr ⟨sz,es,ds,h5,by rw[h3,h4],h6,?_⟩);exact Mo (fun p hp=>(hm p hp).it) (fun q hq=>by
    obtain⟨v,hv,hq⟩:=By.1 hq;obtain⟨e,he,hv⟩:=Ls.1 hv;exact h7 q (By.2 ⟨e,he,By.2 ⟨v,hv,hq⟩⟩)) (Dx h6)
theorem oq{h δ:AB}{v:AV}(hs: ∀p∈Eu h.get v,p∈δ): ∀p∈Eu h.get v,Ix h δ p:=by
 intro p hp;cases v with
 |d8 id off n=>
  simp only[Eu]at hp hs;split at hp
  .rename_i sz es hg;simp at hp;subst hp;exact .inl ⟨sz,es,rfl,hg⟩
  .rename_i sz es hg;split at hp
   .rename_i ds hds;rcases DL.1 hp with rfl|hp
    .refine .inr ⟨sz,es,ds,rfl,hg,hds,fun q hq=>hs q ?_⟩;simp only[hg,hds];exact EX _ hq
    .obtain⟨e,_,hp⟩:=By.1 hp;exact .inl (H5 hp)
   .cases hp
  .cases hp
 |_=>simp[Eu]at hp
theorem Lb{h:AB}{as:List AV}: ∀p∈as.flatMap (mark h.get),Ix h (as.flatMap (mark h.get)) p:=by
 intro p hp;obtain⟨v,hv,hp⟩:=By.1 hp;obtain⟨c,hc,hp⟩:=By.1 hp;exact oq (fun q hq=>By.2 ⟨v,hv,By.2 ⟨c,hc,hq⟩⟩) p hp
def yw(h h':AB)(v:AV):Prop:= ∀id∈E0 v,FI h' id∧ ∀sz es,h.get id=some (.arr sz es)→ ∀v'∈es.flatten,∀id'∈E0 v',FI h' id'
theorem sE{h h':AB}(H:HR A β w h)(hs:Uj h h'){v:AV}{u:Value}{x:AU}(hv:VR β w (MS A β h) v u)(hx:Cu h.get v=some x)(hf:yw h h' v):DR w (MS A β h') x u:=by
 unfold Cu at hx;split at hx
 .rename_i id off n;have hfz:=(hf id (by simp[E0])).1;split at hx
  .rename_i sz es hg;split at hx
   .rename_i ds hds;cases hv with
    |d8 _ _ _ k a cap hk hn hl ha=>
     have ha':a=some ⟨k.b,off*k.sz,none⟩∨n=0:=ha.imp (fun h=>h) (fun h=>by omega);obtain⟨k',hk',c,elem,h1,h2,h3,h4,h5,h6,h7⟩:=H.obj id _ hg;rw[hk]at hk';cases hk';simp only[BI]at hx;obtain⟨l,hl',rfl⟩:=hx;subst h2;obtain⟨q1,q2⟩:=DZ (Dx hds);refine OV h1 (hfz.notMS H hs hk hg (.inl rfl)) (Jx hds h5) (by rw[(GH hds).1];exact h6) (fun i x v a b=>?_) hl' ha' hl;have hi:i<es.flatten.length:=by rw[←q1];exact(BE.1 a).1
     exact LR H hs (h7 i _ v (BY hi) b) (q2 i _ x (BY hi) a) ((hf id (by simp[E0])).2 _ es hg _ (Lt hi))
   .cases hx
  .exact LR H hs hv hx fun id hid=>(hf id hid).1
 .exact LR H hs hv hx fun id hid=>(hf id hid).1
theorem nT{h δ:AB}(hm: ∀p∈δ,Ix h δ p){v:AV}{x:AU}(hx:Cu h.get v=some x)(hs: ∀p∈Eu h.get v,p∈δ):yw h (h.puts δ) v:=by
 intro id hid;cases v with
 |d8 id' off n=>
  simp only[E0,Ac]at hid;subst hid;have hfr: ∀p∈δ,p.2.mut=false:=fun p hp=>(hm p hp).it;unfold Cu at hx;simp only[Eu]at hs;refine⟨fun o ho=>?_,fun sz es hg=>?_⟩
  .rcases Gz δ h id with⟨h1,h2⟩|⟨p,h1,h2,h3⟩
   .rw[h1]at ho;cases o with
    |it sz es=>rfl
    |d6 sz es=>
     simp only[ho]at hs;exact absurd rfl (h2 _ (hs _ (Ac.2 rfl)))
    |arr sz es=>
     simp only[ho]at hx hs;cases hds:Cd h.get es with
     |none=>rw[hds]at hx;cases hx
     |some ds=>
      simp only[hds]at hs;exact absurd rfl (h2 _ (hs _ (FD ..)))
    |box cs=>simp[ho,EW]at hx
    |map es=>simp[ho,EW]at hx
    |loop r=>simp[ho,EW]at hx
   .rw[h3]at ho;cases ho;exact hfr p h1
  .simp only[hg]at hx hs;cases hds:Cd h.get es with
   |none=>rw[hds]at hx;cases hx
   |some ds=>
    simp only[hds]at hs;exact Mo hfr (fun q hq=>by
     obtain⟨v,hv,hq⟩:=By.1 hq;obtain⟨e,he,hv⟩:=Ls.1 hv;exact hs q (EX _ (By.2 ⟨e,he,By.2 ⟨v,hv,hq⟩⟩))) (Dx hds)
 |_=>simp[E0]at hid
theorem MA{g:G}: ∀{vs xs:List AV},Fm g vs=some xs→xs.length=vs.length∧ ∀(i:Nat) (v x:AV),vs[i]? =some v→xs[i]? =some x→ ∃y,x=.d y∧Cu g v=some y
 |[],xs,h=>by simp[Fm]at h;subst h;simp
 |v::vs,xs,h=>by
  simp only[Fm]at h;split at h
  .rename_i x xs' h1 h2;cases h;obtain⟨i1,i2⟩:=MA h2;refine⟨by simp[i1],fun i v' x' hv hx=>?_⟩;cases i with
   |zero=>simp at hv hx;subst hv hx;exact⟨x,rfl,h1⟩
   |succ i=>simp at hv hx;exact i2 i v' x' hv hx
  .cases h
variable{u:Value}
theorem Vw{h h':AB}(H:HR A β w h)(hsub:Uj h h'){v:AV}(hv:VR β w (MS A β h) v u)(hx:Di h.get v=some x)(hs: ∀c∈JZ v,∀y,Cu h.get c=some y→yw h h' c):
 VR β w (MS A β h') x u∧AD x=[]:=by
 have cell: ∀{v:AV} {u:Value} {y:AU},VR β w (MS A β h) v u→Cu h.get v=some y→(∀y,Cu h.get v=some y→yw h h' v)→DR w (MS A β h') y u:=
  fun hv hx hs=>sE H hsub hv hx (hs _ hx)
 have cells: ∀{cs xs:List AV} {c:Array Value},cs.length=c.size→(∀(i:Nat) (x:AV) (v:Value),cs[i]? =some x→c[i]? =some v→VR β w (MS A β h) x v)→Fm h.get cs=some xs→(∀v∈cs,∀y,Cu h.get v=some y→yw h h' v)→
  VR β w (MS A β h') (.agg xs) (.agg c)∧A5 xs=[]:=by
  intro cs xs c hl hc hx hs;obtain⟨q1,q2⟩:=MA hx;have hget: ∀(i:Nat) (x:AV),xs[i]? =some x→ ∃v y,cs[i]? =some v∧x=.d y∧Cu h.get v=some y:=by
   intro i x hx;have hi:i<cs.length:=by rw[←q1];exact(BE.1 hx).1
   obtain⟨y,h1,h2⟩:=q2 i _ x (BY hi) hx;exact⟨_,y,BY hi,h1,h2⟩
  refine⟨.agg _ _ (by rw[q1];exact hl) fun i x v hx hv=>?_,?_⟩
  .obtain⟨v',y,h1,rfl,h2⟩:=hget i x hx;exact .d (cell (hc i v' v h1 hv) h2 (hs v' (Ap h1)))
  .rw[List.eq_nil_iff_forall_not_mem];intro id hid;obtain⟨x,hx,hid⟩:=Kx hid;obtain⟨i,hi⟩:=List.mem_iff_getElem?.1 hx;obtain⟨_,y,_,rfl,_⟩:=hget i x hi;simp[AD]at hid
 have other: ∀{v x:AV} {u:Value},VR β w (MS A β h) v u→(Cu h.get v).map AV.d=some x→(∀y,Cu h.get v=some y→yw h h' v)→VR β w (MS A β h') x u∧AD x=[]:=by
  intro v x u hv hx hs;simp only[BI]at hx;obtain⟨y,hy,rfl⟩:=hx;exact⟨.d (cell hv hy hs),rfl⟩
 unfold Di at hx;split at hx
 .rename_i cs;simp only[BI]at hx;obtain⟨xs,hxs,rfl⟩:=hx;cases hv with
  |agg _ c hl hc=>
   obtain⟨h1,h2⟩:=cells hl hc hxs fun v hv=>hs v hv;exact⟨h1,h2⟩
 .cases hx;cases hv with
  |fn f a b a' b' h1 h2 h3 h4=>
   exact⟨.fn _ [] [] a' b' h1 h2 (fun _ _ _ h=>by simp at h) (fun _ _ _ h=>by simp at h),rfl⟩
 .rename_i t cs;simp only[BI]at hx;obtain⟨xs,hxs,rfl⟩:=hx;cases hv with
  |iface _ _ u hv=>
   cases hv with
   |agg _ c hl hc=>
    obtain⟨h1,h2⟩:=cells hl hc hxs fun v hv=>hs v hv;exact⟨.iface _ _ _ h1,h2⟩
 .rename_i t v' hne;simp only[BI]at hx;obtain⟨y,hy,rfl⟩:=hx;cases hv with
  |iface _ _ u hv=>
   have hp:JZ (.iface t v')=[v']:=by
    cases v'<;>first|rfl|exact absurd rfl (hne _)
   rw[hp]at hs;exact⟨.iface _ _ _ (.d (cell hv hy (hs v' (by simp)))),rfl⟩
 .rename_i h1 h2 h3 h4;have hp:JZ v=[v]:=by
   cases v<;>first|rfl|exact absurd rfl (h1 _)|exact absurd rfl (h4 _ _)
  rw[hp]at hs;exact other hv hx (hs v (by simp))
theorem Te{h:AB}(H:HR A β w h)(hm: ∀p∈δ,Ix h δ p){v:AV}(hv:VR β w (MS A β h) v u)(hx:Di h.get v=some x)(hs: ∀p∈mark h.get v,p∈δ):
 VR β w (MS A β (h.puts δ)) x u∧AD x=[]:=
 Vw H (Hf hm).sub hv hx fun c hc _ hy=>nT hm hy fun p hp=>hs p (By.2 ⟨c,hc,hp⟩)
theorem V7{h:AB}(H:HR A β w h){v:AV}(hv:VR β w (MS A β h) v u)(hx:Di h.get v=some x):VR β w (MS A β []) x u∧AD x=[]:=
 Vw H (Uj.nil h) hv hx fun _ _ _ _ _ _=>⟨FI.nil _,fun _ _ _ _ _ _ _=>FI.nil _⟩
theorem N4{g:G}: ∀{vs xs:List AV},DM g vs=some xs→xs.length=vs.length∧ ∀(i:Nat) (v x:AV),vs[i]? =some v→xs[i]? =some x→Di g v=some x
 |[],xs,h=>by simp[DM]at h;subst h;simp
 |v::vs,xs,h=>by
  simp only[DM]at h;split at h
  .rename_i x xs' h1 h2;cases h;obtain⟨i1,i2⟩:=N4 h2;refine⟨by simp[i1],fun i v' x' hv hx=>?_⟩;cases i with
   |zero=>simp at hv hx;subst hv hx;exact h1
   |succ i=>simp at hv hx;exact i2 i v' x' hv hx
  .cases h
variable{c:Array Value}
theorem sF{h:AB}(H:HR A β w h)(hm: ∀p∈δ,Ix h δ p){vs xs:List AV}(hv:FK β w (MS A β h) vs c)(hx:DM h.get vs=some xs)(hs: ∀v∈vs,∀p∈mark h.get v,p∈δ):
 FK β w (MS A β (h.puts δ)) xs c∧ ∀x∈xs,AD x=[]:=by
 obtain⟨q1,q2⟩:=N4 hx;have key: ∀(i:Nat) (x:AV) (hi:xs[i]? =some x),∃v,vs[i]? =some v∧Di h.get v=some x:=by
  intro i x hi;have hlt:i<vs.length:=by rw[←q1];exact(BE.1 hi).1
  exact⟨_,BY hlt,q2 i _ x (BY hlt) hi⟩
 refine⟨⟨by rw[q1];exact hv.1,fun i x v hx hv'=>?_⟩,fun x hx=>?_⟩
 .obtain⟨y,h1,h2⟩:=key i x hx;exact(Te H hm (hv.2 i y v h1 hv') h2 (hs y (Ap h1))).1
 .obtain⟨i,hi⟩:=List.mem_iff_getElem?.1 hx;obtain⟨y,h1,h2⟩:=key i x hi;have hlt:i<c.size:=by rw[←hv.1];exact(BE.1 h1).1
  exact(Te H hm (hv.2 i y _ h1 (Dl hlt)) h2 (hs y (Ap h1))).2
theorem cz{h:AB}(H:HR A β w h)(hm: ∀p∈δ,Ix h δ p){vs:List AV}(hv:FK β w (MS A β h) vs c)(hs: ∀v∈vs,∀p∈mark h.get v,p∈δ):
 FK β w (MS A β (h.puts δ)) (K9 h.get vs) c:=by
 refine⟨by simp[K9,hv.1],fun i x v hx hv'=>?_⟩;simp only[K9,D5,BI]at hx;obtain⟨y,h1,rfl⟩:=hx;cases hf:Di h.get y with
 |none=>exact(hv.2 i y v h1 hv').mono (.refl β) (Hf hm).sub.ge
 |some x=>exact(Te H hm (hv.2 i y v h1 hv') hf (hs y (Ap h1))).1
variable{w':World}
theorem M9{x:AU}(hf:Dh x=true)(h:DR w M x v):DR w' M' x v:=by
 cases h with
 |int k n=>exact .int k n
 |bool b=>exact .bool b
 |str s=>exact .str s
 |qr=>exact .qr
 |i7=>exact .i7
 |i9=>exact .i9
 |nl=>exact .nl
 |rg a cap=>simp[Dh]at hf
 |be es=>simp[Dh]at hf
theorem Vp: ∀{l:List AV},Et l=true→ ∀x∈l,∃y,x=.d y∧Dh y=true
 |[],_,x,hx=>by cases hx
 |v::l,h,x,hx=>by
  cases v with
  |d y=>
   simp only[Et,AS]at h;rcases DL.1 hx with rfl|hx
   .exact⟨y,rfl,h.1⟩
   .exact Vp h.2 x hx
  |_=>simp[Et]at h
theorem PT{β':Aj}(hf:flat x=true)(h:VR β w M x v):VR β' w' M' x v:=by
 have cells: ∀{cs:List AV} {c:Array Value},Et cs=true→(∀(i:Nat) (x:AV) (v:Value),cs[i]? =some x→c[i]? =some v→VR β w M x v)→
  ∀(i:Nat) (x:AV) (v:Value),cs[i]? =some x→c[i]? =some v→VR β' w' M' x v:=by
  intro cs c hf hc i x v hx hv;obtain⟨y,rfl,hy⟩:=Vp hf x (Ap hx);cases hc i _ v hx hv with|d hd=>exact .d (M9 hy hd)
 cases h with
 |d hd=>exact .d (M9 hf hd)
 |ci=>exact .ci
 |emp a=>exact .emp a
 |agg cs c hl hc=>exact .agg cs c hl (cells hf hc)
 |f8 cs c hl hc=>exact .f8 cs c hl (cells hf hc)
 |iface t v u hv=>
  cases hv with
  |d hd=>exact .iface _ _ _ (.d (M9 hf hd))
  |agg cs c hl hc=>exact .iface _ _ _ (.agg cs c hl (cells hf hc))
  |_=>simp[flat]at hf
 |_=>simp[flat]at hf
variable{A:Nat→Prop}{P:Program}{mix:List TypeId}{β β' β'':Aj}{w w' w'':World}{M:Nat→Prop}{h h' h'':AB}{π ρ:List Nat}{bi:Option (List Nat)}{nt:NT}{env:Nat→AV}{defs:List Df}{a:Act}
theorem JL{f:FuncId}(he:Jf P f)(args:Array Value):(callFunc f args).run P w=.ok (.enter f args) w:=by
 obtain⟨fn,c,h1,h2,h3⟩:=he;have h3':fn.name≠ "runtime.NumGoroutine" :=by simpa using h3
 simp[callFunc,h1,h2,h3']
variable{A1:Nat→Prop}
theorem HR.none(ha: ∀b,A1 b→b<w.heap.size):HR A1 (fun _=>none) w []:=
 ⟨fun _ _ h=>by simp at h,fun _ _ _ _ _ _ h=>by simp at h,fun _ _ h=>(by cases h),fun _ _ _ h=>by simp at h,ha⟩
theorem YY{b:Nat}:MS A1 β [] b↔A1 b:=by simp[MS]
theorem HR.less(H:HR A β w h)(hs: ∀id o,h'.get id=some o→h.get id=some o):HR A β w h':=by
 have hsub: ∀b,MS A β h' b→MS A β h b:=by
  rintro b (hb|⟨id,o,k,h1,h2,h3,h4⟩)
  .exact .inl hb
  .exact .inr ⟨id,o,k,hs id o h1,h2,h3,h4⟩
 refine⟨fun id o ho=>?_,fun a b oa ob ka kb ha hb=>H.inj a b oa ob ka kb (hs _ _ ha) (hs _ _ hb),H.ut,fun id o k ho=>H.out id o k (hs _ _ ho),H.wn⟩;obtain⟨k,hk,hr⟩:=H.obj id o (hs _ _ ho);exact⟨k,hk,hr.mono (.refl β) (E6 (A:=A) hsub w) (H.ut id k hk) rfl⟩
theorem QH(K:Id→Bool)(h:AB)(id:Id):AB.get (h.filter fun p=>K p.1) id=if K id then h.get id else none:=by
 induction h with
 |nil=>simp
 |cons p h ih=>
  obtain⟨k,o⟩:=p;rw[List.filter_cons,AB.get_cons];by_cases e:k=id
  .subst e;cases hk:K k with
   |true=>simp[AB.get_cons]
   |false=>rw[D3 (by simp[hk]),ih];simp[hk]
  .rw[D3 e,←ih];split
   .rw[AB.get_cons,D3 e]
   .rfl
def Jz(ρ:List Nat)(id:Id):Bool:=match id with|0::l=> !Id.under ρ l|_=>true
theorem Tg{id:Id}(hc:Jz ρ id=false):ρ<:+id:=by
 unfold Jz at hc;split at hc
 .rename_i l;have:Id.under ρ l=true:=by simpa using hc
  exact((Id.under_iff ρ l).1 this).trans (EM 0 l)
 .cases hc
theorem Th(h:AB)(id:Id):(gc ρ h).get id=h.get id∨((gc ρ h).get id=none∧ρ<:+id):=by
 have e:gc ρ h=h.filter fun p=>Jz ρ p.1:=rfl;rw[e,QH (Jz ρ)];cases hc:Jz ρ id with
 |true=>exact .inl rfl
 |false=>exact .inr ⟨rfl,Tg hc⟩
theorem LU{id:Id}{o:Obj}(hg:(gc ρ h).get id=some o):h.get id=some o:=by
 rcases Th (ρ:=ρ) h id with e|⟨e,_⟩
 .rw[←e];exact hg
 .rw[e]at hg;cases hg
theorem BQ.gc(g:BQ A bi ρ β w h β' w' h'):BQ A bi ρ β w h β' w' (gc ρ h'):=by
 refine⟨g.out,g.hr.less fun id o=>LU,⟨g.ge.ne,g.ge.size,fun b hb=>g.ge.sub b ?_,g.ge.io⟩,fun σ hσ hg=>?_⟩
 .rcases hb with hb|⟨id,o,k,h1,h2,h3,h4⟩
  .exact .inl hb
  .exact .inr ⟨id,o,k,LU h1,h2,h3,h4⟩
 .obtain⟨a1,a2,a3⟩:=g.kept σ hσ hg;refine⟨a1,a2,fun id hi=>?_⟩;rcases Th (ρ:=ρ) h' id with e|⟨_,e⟩
  .rw[e];exact a3 id hi
  .exact absurd (hσ.trans e) hi
theorem HR.same(H:HR A β w h)(hall: ∀b,b<w.heap.size→w'.heap[b]? =w.heap[b]?)(hz:w.heap.size≤w'.heap.size)(hio:w'.os=w.os∧w'.output=w.output):HR A β w' h:=
 H.step (.refl β) ⟨fun b hb _=>hall b hb,hz,fun _ h=>.inl h,hio⟩ (fun id o ho=>.inl ⟨ho,fun k hk=>hall k.b (H.ut id k hk)⟩) H.inj (fun id k hk=>Li (H.ut id k hk) hz) H.out
theorem JT(H:HR A β w h)(hall: ∀b,b<w.heap.size→w'.heap[b]? =w.heap[b]?)(hz:w.heap.size≤w'.heap.size)(hio:w'.os=w.os∧w'.output=w.output):BQ A bi ρ β w h β w' h:=
 ⟨fun _ _=>rfl,H.same hall hz hio,⟨fun b hb _=>hall b hb,hz,fun _ h=>.inl h,hio⟩,fun _ _ _=>⟨fun b hb _=>hall b hb,fun _ hb=>.inl hb,fun _ _=>rfl⟩⟩
variable{h1:AB}
theorem qT(H1:HR A β w h1)(hall: ∀b,b<w.heap.size→w'.heap[b]? =w.heap[b]?)(hz:w.heap.size≤w'.heap.size)(hio:w'.os=w.os∧w'.output=w.output)(hf:ER β ρ)(H2:HR A1 β' w' h2)
 (hid: ∀id,β' id≠none→ρ<:+id) (hnew: ∀id k,β' id=some k→w.heap.size≤k.b) (hA: ∀b,MS A β h1 b→A1 b):
 ∃β2,Le β β2∧Le β' β2∧(∀id,¬ρ<:+id→β2 id=β id)∧(∀id k,β2 id=some k→β id=some k∨(ρ<:+id∧w.heap.size≤k.b))∧HR A β2 w' (h1++h2)∧(∀b,MS A β2 (h1++h2) b→MS A1 β' h2 b)∧
  DU A (MS A β h1) w (MS A β2 (h1++h2)) w':=by
 classical
 let β2:Aj:=fun id=>if ρ<:+id then β' id else β id
 have e1:Le β β2:=fun id k hk=>by
  have: ¬ρ<:+id:=fun hs=>by rw[hf id hs]at hk;cases hk
  simp only[β2,D3 this];exact hk
 have e2:Le β' β2:=fun id k hk=>by
  simp only[β2,D7 (hid id (by rw[hk];simp))];exact hk
 have e3: ∀id k,β2 id=some k→(ρ<:+id∧β' id=some k)∨(¬ρ<:+id∧β id=some k):=fun id k hk=>by
  by_cases e:ρ<:+id
  .simp only[β2,D7 e]at hk;exact .inl ⟨e,hk⟩
  .simp only[β2,D3 e]at hk;exact .inr ⟨e,hk⟩
 have o1: ∀id o,h1.get id=some o→ ¬ρ<:+id:=fun id o ho hs=>by
  obtain⟨k,hk,_⟩:=H1.obj id o ho;rw[hf id hs]at hk;cases hk
 have o2: ∀id o,h2.get id=some o→ρ<:+id:=fun id o ho=>by
  obtain⟨k,hk,_⟩:=H2.obj id o ho;exact hid id (by rw[hk];simp)
 have gt: ∀id o,(h1++h2).get id=some o→(h1.get id=some o∧ ¬ρ<:+id)∨(h2.get id=some o∧ρ<:+id):=by
  intro id o ho;rw[AB.get_append]at ho;cases hg:h1.get id with
  |some o'=>rw[hg]at ho;cases ho;exact .inl ⟨rfl,o1 id _ hg⟩
  |none=>rw[hg]at ho;exact .inr ⟨ho,o2 id _ ho⟩
 have hms: ∀b,MS A β2 (h1++h2) b→MS A1 β' h2 b:=by
  rintro b (hb|⟨id,o,k,q1,q2,q3,rfl⟩)
  .exact .inl (hA b (.inl hb))
  .rcases gt id o q1 with⟨g1,g2⟩|⟨g1,g2⟩<;>rcases e3 id k q3 with⟨g3,g4⟩|⟨g3,g4⟩
   .exact absurd g3 g2
   .exact .inl (hA k.b (.inr ⟨id,o,k,g1,q2,g4,rfl⟩))
   .exact .inr ⟨id,o,k,g1,q2,g4,rfl⟩
   .exact absurd g2 g3
 have hpr:DU A (MS A β h1) w (MS A β2 (h1++h2)) w':=by
  refine⟨fun b hb _=>hall b hb,hz,?_,hio⟩;rintro b (hb|⟨id,o,k,q1,q2,q3,rfl⟩)
  .exact .inl (.inl hb)
  .rcases gt id o q1 with⟨g1,g2⟩|⟨g1,g2⟩<;>rcases e3 id k q3 with⟨g3,g4⟩|⟨g3,g4⟩
   .exact absurd g3 g2
   .exact .inl (.inr ⟨id,o,k,g1,q2,g4,rfl⟩)
   .exact .inr (hnew id k g4)
   .exact absurd g2 g3
 refine⟨β2,e1,e2,fun id hi=>by simp only[β2,D3 hi],fun id k hk=>?_,⟨fun id o ho=>?_,?_,fun id k hk=>?_,fun id o k ho hm hk hb=>?_,fun b hb=>Li (H1.wn b hb) hz⟩,hms,hpr⟩
 .rcases e3 id k hk with⟨g1,g2⟩|⟨g1,g2⟩
  .exact .inr ⟨g1,hnew id k g2⟩
  .exact .inl g2
 .rcases gt id o ho with⟨g1,g2⟩|⟨g1,g2⟩
  .obtain⟨k,hk,hr⟩:=H1.obj id o g1;exact⟨k,e1 _ _ hk,hr.mono e1 hpr (H1.ut id k hk) (hall k.b (H1.ut id k hk))⟩
  .obtain⟨k,hk,hr⟩:=H2.obj id o g1;exact⟨k,e2 _ _ hk,hr.mono e2 (E6 (A:=A) hms w') (H2.ut id k hk) rfl⟩
 .intro a b oa ob ka kb ha hb hma hmb hka hkb e;rcases gt a oa ha with⟨a1,a2⟩|⟨a1,a2⟩<;>rcases gt b ob hb with⟨b1,b2⟩|⟨b1,b2⟩<;>
   rcases e3 a ka hka with⟨a3,a4⟩|⟨a3,a4⟩<;>rcases e3 b kb hkb with⟨b3,b4⟩|⟨b3,b4⟩<;>try(first|exact absurd a3 a2|exact absurd b3 b2|exact absurd a2 a3|exact absurd b2 b3)
  .exact H1.inj a b oa ob ka kb a1 b1 hma hmb a4 b4 e
  .have:=H1.ut a ka a4;have:=hnew b kb b4;omega
  .have:=H1.ut b kb b4;have:=hnew a ka a4;omega
  .exact H2.inj a b oa ob ka kb a1 b1 hma hmb a4 b4 e
 .rcases e3 id k hk with⟨g1,g2⟩|⟨g1,g2⟩
  .exact H2.ut id k g2
  .exact Li (H1.ut id k g2) hz
 .rcases gt id o ho with⟨g1,g2⟩|⟨g1,g2⟩<;>rcases e3 id k hk with⟨g3,g4⟩|⟨g3,g4⟩
  .exact absurd g3 g2
  .exact H1.out id o k g1 hm g4 hb
  .have:=H1.wn _ hb;have:=hnew id k g4;omega
  .exact absurd g2 g3
theorem MC(H:HR A β w h)(hm: ∀p∈δ,Ix h δ p)(hw:JE bi δ=true):BQ A bi ρ β w h β w (h.puts δ):=
 IY (.refl β) (fun _ hi=>.inl hi) ((Hf hm).hr H) (Hf hm).sub.ge (.refl _ _ _) hw
def FX(A:Nat→Prop)(bi:Option (List Nat))(ρ:List Nat)(nt:NT)(β:Aj)(w:World)(h:AB)(env:Nat→AV)(defs:List Df)(a:Act)(h':AB):Ae→Ending→World→Prop
 |.ret v,.returned u,w'=> ∃β',BQ A bi ρ β w h β' w' h'∧KG A β' w' nt env defs h' a∧VR β' w' (MS A β' h') v u
 |.em v,.panicked chain,w'=> ∃β' u,BQ A bi ρ β w h β' w' h'∧KG A β' w' nt env defs h' a∧chain=[{v:=u,recovered:=false}]∧VR β' w' (MS A β' h') v u
 |_,_,_=>False
variable{e:Ending}
theorem PY{r:Ae×AB}(g1:BQ A bi ρ β w h β w h1)(hf:ER β ρ)(s:KG A β w nt env defs h a)(he:Mi A bi ρ β w h1 r e w'):
 FX A bi ρ nt β w h env defs a (gc ρ r.2) r.1 e w':=by
 obtain⟨β',g,hr⟩:=he;have g':=(g1.trans g).gc;have hs:=s.mono (g'.le hf) g'.ge;have hsub: ∀b,MS A β' (gc ρ r.2) b→MS A β' r.2 b:=by
  rintro b (hb|⟨id,o,k,h1,h2,h3,h4⟩)
  .exact .inl hb
  .exact .inr ⟨id,o,k,LU h1,h2,h3,h4⟩
 obtain⟨c,h'⟩:=r;cases c with
 |ret v=>cases e with
  |returned u=>exact⟨β',g',hs,VR.mono (.refl _) (E6 (A:=A) hsub w') hr⟩
  |_=>exact hr.elim
 |em v=>cases e with
  |panicked chain=>
   obtain⟨u,h3,h4⟩:=hr;exact⟨β',u,g',hs,h3,h4.mono (.refl _) (E6 (A:=A) hsub w')⟩
  |_=>exact hr.elim
theorem yf{r:Ae×AB}(H:HR A β w h)(hf:ER β ρ)(s:KG A β w nt env defs h a)(he:Mi A (some ρ) ρ β w h1 r e w')(hflat: ∀v,r.1=.ret v∨r.1=.em v→flat v=true):
 FX A bi ρ nt β w h env defs a h r.1 e w':=by
 obtain⟨β',g,hr⟩:=he;obtain⟨k1,_,_⟩:=g.kept ρ (List.suffix_refl _) (.inl rfl);have hall: ∀b,b<w.heap.size→w'.heap[b]? =w.heap[b]? :=fun b hb=>k1 b hb fun⟨id,k,u1,u2,_⟩=>by rw[hf id u1]at u2;cases u2
 have g':BQ A bi ρ β w h β w' h:=JT H hall g.ge.size g.ge.io;have hs:=s.mono (g'.le hf) g'.ge;obtain⟨c,h'⟩:=r;cases c with
 |ret v=>cases e with
  |returned u=>exact⟨β,g',hs,PT (hflat v (.inl rfl)) hr⟩
  |_=>exact hr.elim
 |em v=>cases e with
  |panicked chain=>
   obtain⟨u,h3,h4⟩:=hr;exact⟨β,u,g',hs,h3,PT (hflat v (.inr rfl)) h4⟩
  |_=>exact hr.elim
section loops
variable{W:Lp→Prop}
def Tn:Obj→Bool
 |.loop _=>true
 |_=>false
def A7(δ:AB):Prop:= ∀p∈δ,Tn p.2=false
theorem A7.nil:A7 []:=fun _ h=>by cases h
theorem A7.append{a b:AB}(h1:A7 a)(h2:A7 b):A7 (a++b):=fun p hp=>(F2.1 hp).elim (h1 p) (h2 p)
theorem A7.one{id:Id}{o:Obj}(h:Tn o=false):A7 [(id,o)]:=fun p hp=>by rw[Ac.1 hp];exact h
theorem A7.cons{id:Id}{o:Obj}{δ:AB}(h:Tn o=false)(h2:A7 δ):A7 ((id,o)::δ):=fun p hp=>by
 rcases DL.1 hp with rfl|hp
 .exact h
 .exact h2 p hp
theorem A7.marks{g:G}(vs:List AV):A7 (Bb g vs):=fun p hp=>by
 obtain⟨sz,es,h,_⟩:=H5 hp;rw[h];rfl
theorem A7.markEs{g:G}(es:List (List AV)):A7 (es.flatMap (Bb g)):=fun p hp=>by
 obtain⟨e,_,hp⟩:=By.1 hp;exact A7.marks e p hp
theorem LW.puts{h δ:AB}(hL:LW W h)(hn:A7 δ):LW W (h.puts δ):=fun id r hr=>by
 rcases Gz δ h id with⟨h1,_⟩|⟨p,h1,_,h3⟩
 .rw[h1]at hr;exact hL id r hr
 .rw[h3]at hr;have e:=Qr hr;have:=hn p h1;rw[e]at this;cases this
theorem LW.gc{h:AB}(hL:LW W h):LW W (gc ρ h):=fun id r hr=>hL id r (LU hr)
theorem LW.cons{h:AB}{o:Id×Obj}(hL:LW W h)(ho:Tn o.2=false):LW W (o::h):=fun id r hr=>by
 obtain⟨i,ob⟩:=o;rw[AB.get_cons]at hr;split at hr
 .cases hr;cases ho
 .exact hL id r hr
theorem LW.append{h h2:AB}(h1:LW W h)(hL:LW W h2):LW W (h++h2):=fun id r hr=>by
 rw[AB.get_append]at hr;cases hg:h.get id with
 |none=>rw[hg]at hr;exact hL id r hr
 |some o=>rw[hg]at hr;cases hr;exact h1 id r hg
theorem LW.nil:LW W []:=fun _ _ h=>by cases h
theorem A7.markAll{h:AB}(as:List AV):A7 (as.flatMap (mark h.get)):=fun p hp=>by
 rcases Lb (h:=h) (as:=as) p hp with⟨_,_,e,_⟩|⟨_,_,_,e,_⟩<;>rw[e]<;>rfl
end loops
variable{A:Nat→Prop}{P:Program}{mix:List TypeId}{β β' β'':Aj}{w w' w'':World}{M:Nat→Prop}{h h' h'':AB}{π ρ:List Nat}{bi:Option (List Nat)}{nt:NT}{env:Nat→AV}{defs:List Df}{a:Act}{W:Lp→Prop}
variable{δ:AB}
theorem Xy{h h':AB}{id:Id}(hi:id∈δ.map (·.1)):(h.puts δ).get id=(h'.puts δ).get id:=by
 induction δ generalizing h h' with
 |nil=>cases hi
 |cons p δ ih=>
  rw[AB.puts_cons,AB.puts_cons];by_cases e:id∈δ.map (·.1)
  .exact ih e
  .have hp:p.1=id:=by
    rcases DL.1 hi with h1|h1
    .exact h1.symm
    .exact absurd h1 e
   have hn: ∀q∈δ,q.1≠id:=fun q hq e'=>e (ID.2 ⟨q,hq,e'⟩);rw[JS hn,JS hn,AB.get_put,AB.get_put,D7 hp,D7 hp]
theorem K0{h:AB}{id:Id}(hi:id∉δ.map (·.1)):(h.puts δ).get id=h.get id:=
 JS fun q hq e=>hi (ID.2 ⟨q,hq,e⟩)
def f9(wr:Option (List Id))(new old:G):G:=fun id=>match wr with
 |some l=>if id∈l then new id else old id
 |none=>new id
variable{g g':G}
theorem Ot{vs:List AV}(h: ∀v∈vs,Cu g v=Cu g' v):Fm g vs=Fm g' vs:=by
 induction vs with
 |nil=>rfl
 |cons v vs ih=>simp only[Fm,h v (by simp),ih fun x hx=>h x (by simp[hx])]
theorem JJ{l m:List Id}(h: ∀id∈m,id∈l): ∀id∈CX g m,id∈CX g l:=by
 intro id hi;rcases F2.1 hi with hi|hi
 .exact Ge _ (h id hi)
 .obtain⟨x,h1,h2⟩:=By.1 hi;exact GO _ (By.2 ⟨x,h x h1,h2⟩)
variable{v:AV}
theorem ZQ(h:At g g' (CX g (AD v))):Cu g v=Cu g' v:=by
 have hc:EW g v=EW g' v:=QL (h.mono fun id hi=>Ge _ hi);cases v with
 |d8 id off n=>
  have e:=h id (Ge _ (by simp[AD]));cases hg:g id with
  |none=>
   rw[hg]at e;simp only[Cu,hg,←e];exact hc
  |some o=>
   rw[hg]at e;cases o with
   |arr sz es=>
    simp only[Cu,hg,←e];rw[IX (g:=g) (g':=g') (es:=es) (h.mono fun i hi=>GO _ (By.2 ⟨id,by simp[AD],by simp only[hg];exact hi⟩))]
   |_=>simp only[Cu,hg,←e];exact hc
 |_=>exact hc
theorem W1(h:At g g' (CX g (AD v))):Eu g v=Eu g' v:=by
 cases v with
 |d8 id off n=>
  have e:=h id (Ge _ (by simp[AD]));simp only[Eu];rw[←e];cases hg:g id with
  |none=>rfl
  |some o=>
   cases o with
   |arr sz es=>
    have hs:At g g' (es.flatMap A5):=h.mono fun i hi=>GO _ (By.2 ⟨id,by simp[AD],by simp only[hg];exact hi⟩);simp only[IX hs,J5 hs]
   |_=>rfl
 |_=>rfl
theorem Sr{v x:AV}(hx:x∈JZ v): ∀id∈AD x,id∈AD v:=by
 intro id hi;cases v with
 |agg cs=>exact JV hx hi
 |iface t u=>
  cases u with
  |agg cs=>simp only[AD];exact JV hx hi
  |_=>simp only[JZ,Ac]at hx;subst hx;simpa[AD]using hi
 |_=>simp only[JZ,Ac]at hx;subst hx;exact hi
theorem ZP(h:At g g' (CX g (AD v))):Di g v=Di g' v:=by
 have hp: ∀x∈JZ v,Cu g x=Cu g' x:=fun x hx=>ZQ (h.mono (JJ (Sr hx)));cases v with
 |agg cs=>simp only[Di];rw[Ot (vs:=cs) hp]
 |iface t u=>
  cases u with
  |agg cs=>simp only[Di];rw[Ot (vs:=cs) hp]
  |_=>simp only[Di];rw[hp _ (by simp[JZ])]
 |fn f a b=>cases a<;>cases b<;>first|rfl|(simp only[Di];rw[hp _ (by simp[JZ])])
 |_=>simp only[Di];rw[hp _ (by simp[JZ])]
theorem Z4(h:At g g' (CX g (AD v))):mark g v=mark g' v:=by
 unfold mark;have: ∀l:List AV,(∀x∈l,Eu g x=Eu g' x)→l.flatMap (Eu g)=l.flatMap (Eu g'):=by
  intro l hl;induction l with
  |nil=>rfl
  |cons x l ih=>simp only[D2,hl x (by simp),ih fun y hy=>hl y (by simp[hy])]
 exact this _ fun x hx=>W1 (h.mono (JJ (Sr hx)))
theorem Jy{vs:List AV}(h:At g g' (CX g (A5 vs))):DM g vs=DM g' vs:=by
 induction vs with
 |nil=>rfl
 |cons v vs ih=>
  simp only[DM];rw[ZP (v:=v) (h.mono (JJ fun id hi=>by simp[A5,hi])),ih (h.mono (JJ fun id hi=>by simp[A5,hi]))]
theorem W3{vs:List AV}(h:At g g' (CX g (A5 vs))):vs.flatMap (mark g)=vs.flatMap (mark g'):=by
 induction vs with
 |nil=>rfl
 |cons v vs ih=>
  simp only[D2];rw[Z4 (v:=v) (h.mono (JJ fun id hi=>by simp[A5,hi])),ih (h.mono (JJ fun id hi=>by simp[A5,hi]))]
variable{as xs:List AV}
theorem MR{f:FuncId}{vs:Array Value}{r:Ae×AB}(H:HR A β w h)(T:cJ P W (.fn f) xs [] π false none r)(hx:DM h.get as=some xs)(hv:FK β w (MS A β h) as vs):
 Calls P f vs w (Mi (MS A β (h.puts (as.flatMap (mark h.get)))) none π (fun _=>none) w [] r):=by
 have hm:=Lb (h:=h) (as:=as);have hs: ∀v∈as,∀p∈mark h.get v,p∈as.flatMap (mark h.get):=fun v hv p hp=>By.2 ⟨v,hv,hp⟩;obtain⟨q1,q2⟩:=sF H hm hv hx hs;have H1:=(Hf hm).hr H;refine T.pu rfl rfl rfl (MS A β (h.puts (as.flatMap (mark h.get)))) w vs (HR.none fun b hb=>kx H1 hb) (fun _ _=>rfl) ⟨q1.1,fun i x v hx hv=>?_⟩;exact(q1.2 i x v hx hv).noIds (fun b hb=>YY.1 hb) (q2 x (Ap hx))
structure lB(A1:Nat→Prop)(π:List Nat)(w:World)(r:Ae×AB)(β':Aj)(w':World):Prop where
 all: ∀b,b<w.heap.size→w'.heap[b]? =w.heap[b]?
 size:w.heap.size≤w'.heap.size
 io:w'.os=w.os∧w'.output=w.output
 hr:HR A1 β' w' r.2
 ids: ∀id,β' id≠none→π<:+id
 new: ∀id k,β' id=some k→w.heap.size≤k.b
variable{A1:Nat→Prop}{e:Ending}
theorem Lg{r:Ae×AB}(he:Mi A1 none π (fun _=>none) w [] r e w'): ∃β',lB A1 π w r β' w'∧wQ β' w' (MS A1 β' r.2) r.1 e:=by
 obtain⟨β',g,hr⟩:=he;have hids: ∀id,β' id≠none→π<:+id:=fun id hi=>by
  by_cases e:π<:+id
  .exact e
  .exact absurd (g.out id e) hi
 refine⟨β',⟨fun b hb=>?_,g.ge.size,g.ge.io,g.hr,hids,fun id k hk=>?_⟩,hr⟩
 .by_cases hA:A1 b
  .exact g.ge.ne b hb (.inr hA)
  .exact g.ge.ne b hb (.inl fun hm=>hA (YY.1 hm))
 .obtain⟨_,k2,_⟩:=g.kept π (List.suffix_refl _) (.inr fun _ h=>absurd rfl h);rcases k2 k.b ⟨id,k,hids id (by rw[hk];simp),hk,rfl⟩with⟨_,_,_,h1,_⟩|h1
  .cases h1
  .exact h1
theorem jk{r:Ae×AB}(H:HR A β w h)(hf:ER β ρ)(s:KG A β w nt env defs h a)(he:Mi A1 none π (fun _=>none) w [] r e w')
 (hflat: ∀v,r.1=.ret v∨r.1=.em v→flat v=true):FX A bi ρ nt β w h env defs a h r.1 e w':=by
 obtain⟨β',L,hr⟩:=Lg he;have g':BQ A bi ρ β w h β w' h:=JT H L.all L.size L.io;have hs:=s.mono (g'.le hf) g'.ge;obtain⟨c,h'⟩:=r;cases c with
 |ret v=>cases e with
  |returned u=>exact⟨β,g',hs,PT (hflat v (.inl rfl)) hr⟩
  |_=>exact hr.elim
 |em v=>cases e with
  |panicked chain=>
   obtain⟨u,h3,h4⟩:=hr;exact⟨β,u,g',hs,h3,PT (hflat v (.inr rfl)) h4⟩
  |_=>exact hr.elim
variable{h2:AB}
theorem Vv{h1:AB}(H:HR A β w h)(hf:ER β ρ)(g1:BQ A bi ρ β w h β w h1)(hall: ∀b,b<w.heap.size→w'.heap[b]? =w.heap[b]?)(hz:w.heap.size≤w'.heap.size)(hio:w'.os=w.os∧w'.output=w.output)
 (H2:HR A1 β' w' h2) (hid: ∀id,β' id≠none→ρ<:+id) (hnew: ∀id k,β' id=some k→w.heap.size≤k.b) (hA: ∀b,MS A β h1 b→A1 b):
 ∃β2,Le β' β2∧BQ A bi ρ β w h β2 w' (h2++h1)∧ ∀b,MS A β2 (h2++h1) b→MS A1 β' h2 b:=by
 obtain⟨β2,e1,e2,e3,e4,e5,e6,e7⟩:=qT g1.hr hall hz hio hf H2 hid hnew hA;have o1: ∀id o,h1.get id=some o→ ¬ρ<:+id:=fun id o ho hs=>by
  obtain⟨k,hk,_⟩:=g1.hr.obj id o ho;rw[hf id hs]at hk;cases hk
 have o2: ∀id o,h2.get id=some o→ρ<:+id:=fun id o ho=>by
  obtain⟨k,hk,_⟩:=H2.obj id o ho;exact hid id (by rw[hk];simp)
 have hg: ∀id,(h1++h2).get id=(h2++h1).get id:=by
  intro id;rw[AB.get_append,AB.get_append];cases ha:h1.get id with
  |none=>cases h2.get id<;>rfl
  |some o=>cases hb:h2.get id with
   |none=>rfl
   |some o'=>exact absurd (o2 _ _ hb) (o1 _ _ ha)
 have hM:=MS.congr (A:=A) (β:=β2) hg;refine⟨β2,e2,⟨e3,e5.congr hg,?_,fun σ hσ hgd=>?_⟩,by rw[←hM];exact e6⟩
 .rw[←hM];exact g1.ge.trans e7
 .obtain⟨a1,a2,a3⟩:=g1.kept σ hσ hgd;refine⟨fun b hb hu=>hall b hb,?_,fun id hi=>?_⟩
  .rintro b ⟨id,k,u1,u2,rfl⟩;rcases e4 id k u2 with u3|⟨_,u3⟩
   .exact .inl ⟨id,k,u1,u3,rfl⟩
   .exact .inr u3
  .rw[AB.get_append];cases hb:h2.get id with
   |none=>exact a3 id hi
   |some o=>exact absurd (hσ.trans (o2 _ _ hb)) hi
theorem jl(H:HR A β w h)(hf:ER β ρ)(s:KG A β w nt env defs h a)(hw:JE bi (as.flatMap (mark h.get))=true)
 (he:Mi (MS A β (h.puts (as.flatMap (mark h.get)))) none ρ (fun _=>none) w [] (.ret v,h2) e w'):
 FX A bi ρ nt β w h env defs a (h2++h.puts (as.flatMap (mark h.get))) (.ret v) e w':=by
 obtain⟨β',L,hr⟩:=Lg he;have g1:=MC (ρ:=ρ) (bi:=bi) H (Lb (as:=as)) hw;obtain⟨β2,l1,g,hm⟩:=Vv H hf g1 L.all L.size L.io L.hr L.ids L.new fun b hb=>hb;cases e with
 |returned u=>exact⟨β2,g,s.mono (g.le hf) g.ge,VR.mono l1 (E6 (A:=A) hm w') hr⟩
 |_=>exact hr.elim
theorem bZ{as:List AV}{v:AV}{h2:AB}{e:Ending}(H:HR A β w h)(hf:ER β ρ)(s:KG A β w nt env defs h a)(hw:JE bi (as.flatMap (mark h.get))=true)(hi:AD v=[])(h20:h2=[])
 (he:Mi (MS A β (h.puts (as.flatMap (mark h.get)))) none [] (fun _=>none) w [] (.ret v,h2) e w'):
 FX A bi ρ nt β w h env defs a (h2++h.puts (as.flatMap (mark h.get))) (.ret v) e w':=by
 subst h20;obtain⟨β',L,hr⟩:=Lg he;have g1:=MC (ρ:=ρ) (bi:=bi) H (Lb (as:=as)) hw;have g2:BQ A bi ρ β w (h.puts (as.flatMap (mark h.get))) β w' (h.puts (as.flatMap (mark h.get))):=JT g1.hr L.all L.size L.io;have g:=g1.trans g2;cases e with
 |returned u=>exact⟨β,g,s.mono (g.le hf) g.ge,VR.noIds (fun b hb=>YY.2 hb) hr hi⟩
 |_=>exact hr.elim
theorem pc{o:Id×Obj}(H:HR A β w h)(hf:ER β ρ)(s:KG A β w nt env defs h a)(ho:Ba v h2=some o)
 (he:Mi A1 none ρ (fun _=>none) w [] (.ret v,h2) e w'):FX A bi ρ nt β w h env defs a (o::h) (.ret v) e w':=by
 obtain⟨β',L,hr⟩:=Lg he;unfold Ba at ho;split at ho
 .rename_i id off n;split at ho
  .rename_i sz es hg;split at ho
   .rename_i hfl;cases ho;obtain⟨k,hk,c,elem,q1,q2,q3,q4,q5,q6,q7⟩:=L.hr.obj id _ hg;have H2:HR (MS A β h) β' w' [(id,.d6 sz es)]:=by
     have hone: ∀{i:Id} {ob:Obj},AB.get [(id,Obj.d6 sz es)] i=some ob→i=id∧ob=.d6 sz es:=by
      intro i ob hi;rw[AB.get_cons]at hi;split at hi
      .rename_i e';cases hi;exact⟨e'.symm,rfl⟩
      .cases hi
     refine⟨fun i ob hi=>?_,fun a b oa ob ka kb ha hb _ _ _ _ _=>by rw[(hone ha).1,(hone hb).1],L.hr.ut,fun i ob k' hi hm hk' hb=>?_,fun b hb=>Li (kx H hb) L.size⟩
     .obtain⟨rfl,rfl⟩:=hone hi;refine⟨k,hk,c,elem,q1,q2,q3,q4,q5,q6,fun j x y hx hy=>M9 ?_ (q7 j x y hx hy)⟩;obtain⟨e',he',hx'⟩:=Ls.1 (Ap hx);exact CO.1 (CO.1 hfl e' he') x hx'
     .have:=kx H hb;have:=L.new i k' hk';omega
    obtain⟨β2,l1,g,hm⟩:=Vv (bi:=bi) H hf (BQ.refl H) L.all L.size L.io H2 L.ids L.new fun b hb=>hb;cases e with
    |returned u=>
     refine⟨β2,g,s.mono (g.le hf) g.ge,?_⟩;have hr':VR β' w' (MS A1 β' h2) (.d8 id off n) u:=hr;cases hr' with
     |d8 _ _ _ k' a' cap h1 h3 h4 h5=>exact .d8 _ _ _ k' a' cap (l1 _ _ h1) h3 h4 h5
    |_=>exact hr.elim
   .cases ho
  .cases ho
 .cases ho
variable{A:Nat→Prop}{P:Program}{mix:List TypeId}{β β' β'':Aj}{w w' w'':World}{M:Nat→Prop}{h h' h'':AB}{π ρ:List Nat}{bi:Option (List Nat)}{nt:NT}{env:Nat→AV}{defs defs':List Df}{a:Act}{ro:Option Nat}{W:Lp→Prop}
def cD(rd:Option (List Id))(g g2:G):Prop:=match rd with
 |some l=>At g g2 l
 |none=> ∀id,g id=g2 id
def Ml(P:Program)(ro:Option Nat)(bi:Option (List Nat))(ρ:List Nat)(nt:NT)(o:Oper)(env:Nat→AV)(defs:List Df)(h:AB)(v:AV)(defs':List Df)(h':AB):Prop:=
 ∀(A:Nat→Prop) (β:Aj) (w:World) (a:Act),HR A β w h→ER β ρ→KG A β w nt env defs h a→ ∀(next:Act→World→Prop) (Q:Exit→Act→World→Prop),
  (∀a' w',zC A bi ρ nt β w h (OJ env o.dst v) defs' h' a' w'→next a' w')→o.wpIn (FF ro) 0 P a w next Q
def TD(A:Nat→Prop)(bi:Option (List Nat))(π:List Nat)(nt:NT)(β:Aj)(w:World)(h:AB)(env:Nat→AV)(defs:List Df)(h':AB)(v:AV)(u:Value)(a':Act)(w':World):Prop:=
 ∃β',BQ A bi π β w h β' w' h'∧KG A β' w' nt env defs h' a'∧VR β' w' (MS A β' h') v u
def TE(P:Program)(ro:Option Nat)(bi:Option (List Nat))(ρ:List Nat)(nt:NT)(o:Oper)(env:Nat→AV)(defs:List Df)(h:AB)(v:AV)(h':AB):Prop:=
 ∀(A:Nat→Prop) (β:Aj) (w:World) (a:Act),HR A β w h→ER β ρ→KG A β w nt env defs h a→ ∀(next:Act→World→Prop) (Q:Exit→Act→World→Prop),
  (∀a' w' u,TD A bi ρ nt β w h env defs h' v u a' w'→Q (.panic [{v:=u,recovered:=false}]) a' w')→o.wpIn (FF ro) 0 P a w next Q
variable{o:Oper}{Q:Exit→Act→World→Prop}
theorem SJ{g:FuncId}{vs:Array Value}{next:Act→World→Prop}(hrun:(o.semAt ro a.eval).run P w=.ok (.enter g vs) w)(hd: ∀d,o.dst=some d→d<nt.n)
 (hc:Calls P g vs w (FX A bi ρ nt β w h env defs a h' (.ret v))) (hn: ∀a' w',zC A bi ρ nt β w h (OJ env o.dst v) defs h' a' w'→next a' w'):o.wpIn (FF ro) 0 P a w next Q:=by
 refine⟨fun _ _=>trivial,?_⟩;have e:(o.semAt (FF ro).round a.eval).run P w=.ok (.enter g vs) w:=hrun;rw[e,Oper.uponIn_enter];refine⟨fun hh=>by simp[FF,Fence.wide]at hh,CallsIn.mono (callsIn_wide.2 hc) ?_⟩;intro e w'' he;cases e with
 |returned u=>
  obtain⟨β',g',s,hv⟩:=he;exact hn _ _ ⟨β',g',s.put hd hv⟩
 |panicked chain=>exact he.elim
 |outgrown=>exact he.elim
theorem SI{g:FuncId}{vs:Array Value}{next:Act→World→Prop}(hrun:(o.semAt ro a.eval).run P w=.ok (.enter g vs) w)
 (hc:Calls P g vs w (FX A bi ρ nt β w h env defs a h' (.em v))) (hn: ∀a' w' u,TD A bi ρ nt β w h env defs h' v u a' w'→Q (.panic [{v:=u,recovered:=false}]) a' w'):o.wpIn (FF ro) 0 P a w next Q:=by
 refine⟨fun _ _=>trivial,?_⟩;have e:(o.semAt (FF ro).round a.eval).run P w=.ok (.enter g vs) w:=hrun;rw[e,Oper.uponIn_enter];refine⟨fun hh=>by simp[FF,Fence.wide]at hh,CallsIn.mono (callsIn_wide.2 hc) ?_⟩;intro e w'' he;cases e with
 |returned u=>exact he.elim
 |panicked chain=>
  obtain⟨β',u,g',s,rfl,hv⟩:=he;exact hn _ _ u ⟨β',g',s,hv⟩
 |outgrown=>exact he.elim
variable{ts:Array Value}{jp body:Code}
theorem j6{k:Nat}{f:FuncId}{next:Act→World→Prop}(hrun:(o.semAt ro a.eval).run P w=.ok (.round k f ts jp body) w)(hd: ∀d,o.dst=some d→d<nt.n)
 (hc:RoundIn Fence.wide 0 P k f ts jp body w (FX A bi ρ nt β w h env defs a h' (.ret v))) (hn: ∀a' w',zC A bi ρ nt β w h (OJ env o.dst v) defs h' a' w'→next a' w'):o.wpIn (FF ro) 0 P a w next Q:=by
 refine⟨fun _ _=>trivial,?_⟩;have e:(o.semAt (FF ro).round a.eval).run P w=.ok (.round k f ts jp body) w:=hrun;rw[e,Oper.uponIn_round];refine⟨fun hh=>by simp[FF,Fence.wide]at hh,RoundIn.mono (F:=Fence.wide) hc ?_⟩;intro e w'' he;cases e with
 |returned u=>
  obtain⟨β',g',s,hv⟩:=he;exact hn _ _ ⟨β',g',s.put hd hv⟩
 |panicked chain=>exact he.elim
 |outgrown=>exact he.elim
theorem j5{k:Nat}{f:FuncId}{next:Act→World→Prop}(hrun:(o.semAt ro a.eval).run P w=.ok (.round k f ts jp body) w)
 (hc:RoundIn Fence.wide 0 P k f ts jp body w (FX A bi ρ nt β w h env defs a h' (.em v))) (hn: ∀a' w' u,TD A bi ρ nt β w h env defs h' v u a' w'→Q (.panic [{v:=u,recovered:=false}]) a' w'):o.wpIn (FF ro) 0 P a w next Q:=by
 refine⟨fun _ _=>trivial,?_⟩;have e:(o.semAt (FF ro).round a.eval).run P w=.ok (.round k f ts jp body) w:=hrun;rw[e,Oper.uponIn_round];refine⟨fun hh=>by simp[FF,Fence.wide]at hh,RoundIn.mono (F:=Fence.wide) hc ?_⟩;intro e w'' he;cases e with
 |returned u=>exact he.elim
 |panicked chain=>
  obtain⟨β',u,g',s,rfl,hv⟩:=he;exact hn _ _ u ⟨β',g',s,hv⟩
 |outgrown=>exact he.elim
def KE(P:Program)(bi:Option (List Nat))(ρ:List Nat)(nt:NT)(f:FuncId)(as:List AV)(env:Nat→AV)(defs:List Df)(h:AB)(h':AB)(c:Ae):Prop:=
 ∀(A:Nat→Prop) (β:Aj) (w:World) (a:Act) (vs:Array Value),HR A β w h→ER β ρ→KG A β w nt env defs h a→FK β w (MS A β h) as vs→Calls P f vs w (FX A bi ρ nt β w h env defs a h' c)
variable{K:AJ}{st:St}{hc:AB}
theorem v7(hT:Ct P W K){f:FuncId}{c:Ae}(hL:LW W st.heap)(hK:K (.fn f) (K9 st.heap.get as) (st.heap.puts (as.flatMap (mark st.heap.get))) ρ true (some ρ)=.ok (c,hc))
 (hfl: ∀v,c=.ret v∨c=.em v→flat v=true)  (hag: ∀id,st.heap.get id=h2.get id):KE P bi ρ nt f as env defs h2 h2 c:=by
 intro A β w a vs H hf s hv;have H1:HR A β w st.heap:=H.congr fun id=>(hag id).symm;have hM:=MS.congr (A:=A) (β:=β) hag;have hm:=Lb (h:=st.heap) (as:=as);have hth:=cz H1 hm (by rw[hM];exact hv) fun v hv p hp=>By.2 ⟨v,hv,hp⟩;have hcall:=(hT _ _ _ _ _ _ _ hK).rw rfl (fun _ _ h=>by cases h) (hL.puts (A7.markAll as)) A β w vs ((Hf hm).hr H1) hf hth;exact hcall.mono fun e w' he=>yf H hf s he hfl
theorem mr(hT:Ct P W K){f:FuncId}{c:Ae}(hw:JE bi (as.flatMap (mark st.heap.get))=true)
 (hL:LW W st.heap) (hK:K (.fn f) (K9 st.heap.get as) (st.heap.puts (as.flatMap (mark st.heap.get))) ρ true bi=.ok (c,hc))  (hag: ∀id,st.heap.get id=h2.get id):KE P bi ρ nt f as env defs h2 (gc ρ hc) c:=by
 intro A β w a vs H hf s hv;have H1:HR A β w st.heap:=H.congr fun id=>(hag id).symm;have hM:=MS.congr (A:=A) (β:=β) hag;have hm:=Lb (h:=st.heap) (as:=as);have hth:=cz H1 hm (by rw[hM];exact hv) fun v hv p hp=>By.2 ⟨v,hv,hp⟩;have g1:BQ A bi ρ β w h2 β w (st.heap.puts (as.flatMap (mark st.heap.get))):=(MC H1 hm hw).congr hag;have hcall:=(hT _ _ _ _ _ _ _ hK).rw rfl (fun _ _ h=>by cases h) (hL.puts (A7.markAll as)) A β w vs g1.hr hf hth;exact hcall.mono fun e w' he=>PY g1 hf s he
theorem cX(hT:Ct P W K){f:FuncId}{c:Ae}
 (hL:LW W st.heap) (hK:K (.fn f) as st.heap ρ true bi=.ok (c,hc))  (hag: ∀id,st.heap.get id=h2.get id):KE P bi ρ nt f as env defs h2 (gc ρ hc) c:=by
 intro A β w a vs H hf s hv;have H1:HR A β w st.heap:=H.congr fun id=>(hag id).symm;have hM:=MS.congr (A:=A) (β:=β) hag;have g1:BQ A bi ρ β w h2 β w st.heap:=(BQ.refl H1).congr hag;have hcall:=(hT _ _ _ _ _ _ _ hK).rw rfl (fun _ _ h=>by cases h) hL A β w vs H1 hf (by rw[hM];exact hv);exact hcall.mono fun e w' he=>PY g1 hf s he
theorem cW(hT:Ct P W K){f:FuncId}{c:Ae}(hK:K (.fn f) xs [] π false none=.ok (c,hc))
 (hfl: ∀v,c=.ret v∨c=.em v→flat v=true)  (hx:DM h2.get as=some xs):KE P bi ρ nt f as env defs h2 h2 c:=by
 intro A β w a vs H hf s hv;exact(MR H (hT _ _ _ _ _ _ _ hK) hx hv).mono fun e w' he=>jk H hf s he hfl
theorem xJ(hT:Ct P W K){f:FuncId}{o:Id×Obj}(hπ:π=ρ∨π=[])(hK:K (.fn f) xs [] π false none=.ok (.ret v,hc))
 (ho:Ba v hc=some o)  (hx:DM h2.get as=some xs):KE P bi ρ nt f as env defs h2 (o::h2) (.ret v):=by
 intro A β w a vs H hf s hv;have T:=hT _ _ _ _ _ _ _ hK;refine(MR H T hx hv).mono fun e w' he=>?_;rcases hπ with rfl|rfl
 .exact pc H hf s ho he
 .obtain⟨h1,h2⟩:=T.ids rfl rfl rfl rfl v rfl;exfalso;unfold Ba at ho;split at ho
  .simp[AD]at h1
  .cases ho
theorem r8(hT:Ct P W K){f:FuncId}(hπ:π=ρ∨π=[])(hK:K (.fn f) xs [] π false none=.ok (.ret v,hc))
  (hw:JE bi (as.flatMap (mark h2.get))=true) (hx:DM h2.get as=some xs):KE P bi ρ nt f as env defs h2 (hc++h2.puts (as.flatMap (mark h2.get))) (.ret v):=by
 intro A β w a vs H hf s hv;have T:=hT _ _ _ _ _ _ _ hK;refine(MR H T hx hv).mono fun e w' he=>?_;rcases hπ with rfl|rfl
 .exact jl H hf s hw he
 .obtain⟨h1,h3⟩:=T.ids rfl rfl rfl rfl v rfl;exact bZ H hf s hw h1 h3 he
theorem ZY{h:AB}{id:Id}(e:id∈h.map (·.1)): ∃o,h.get id=some o:=by
 induction h with
 |nil=>cases e
 |cons p h ih=>
  obtain⟨i,ob⟩:=p;rw[AB.get_cons];by_cases e':i=id
  .exact⟨ob,D7 e'⟩
  .rw[D3 e'];refine ih ?_;rcases DL.1 e with h1|h1
   .exact absurd h1.symm e'
   .exact h1
theorem Qc{h:AB}{id:Id}{o:Obj}(hg:h.get id=some o):id∈h.map (·.1):=by
 induction h with
 |nil=>cases hg
 |cons p h ih=>
  obtain⟨i,ob⟩:=p;rw[AB.get_cons]at hg;by_cases e:i=id
  .simp[e]
  .rw[D3 e]at hg;simp only[Ci,DL];exact .inr (ih hg)
theorem Q7{h h':AB}(hag: ∀id,h.get id=h2.get id)(id:Id):h'.get id=f9 (some (VZ h h')) h'.get h2.get id:=by
 simp only[f9];split
 .rfl
 .rename_i hi;rw[←hag,eG hi]
theorem Ub(new old:G)(id:Id):f9 (some []) new old id=old id:=by simp[f9]
theorem R7{K:AJ}(hT:Ct P W K){fr:Fr}{f:FuncId}{as:List AV}{dst:Option Tmp}{st st':St}{m:Mode}{fp:Fp}(hL:LW W st.heap)(hr:DW K fr ρ f as dst st m=.ok st' fp){h2:AB}(hag:cD fp.rd st.heap.get h2.get):
 ∃v h2',st'.env=B8 st.env dst v∧st'.base=st.base∧st'.defs=st.defs∧(∀id,h2'.get id=f9 fp.wr st'.heap.get h2.get id)∧Jf P f∧ ∀env defs,KE P fr.bi ρ nt f as env defs h2 h2' (.ret v):=by
 have raw: ∀{E:E (Ae×AB)} {xs:List AV} {hh:AB},EB ρ dst st E=.ok st' fp→E=K (.fn f) xs hh ρ true fr.bi→
  (∀{c:Ae} {hc:AB},K (.fn f) xs hh ρ true fr.bi=.ok (c,hc)→(∀id,st.heap.get id=h2.get id)→ ∀env defs,KE P fr.bi ρ nt f as env defs h2 (gc ρ hc) c)→
  ∃v h2',st'.env=B8 st.env dst v∧st'.base=st.base∧st'.defs=st.defs∧(∀id,h2'.get id=f9 fp.wr st'.heap.get h2.get id)∧Jf P f∧ ∀env defs,KE P fr.bi ρ nt f as env defs h2 h2' (.ret v):=by
  intro E xs hh hr hE hsem;subst hE;unfold EB at hr;split at hr
  .rename_i v hc hK;simp only[Aw,Ak,Fx.ok.injEq]at hr;obtain⟨rfl,rfl⟩:=hr;exact⟨v,gc ρ hc,rfl,rfl,rfl,Q7 hag,(hT _ _ _ _ _ _ _ hK).ent f rfl,hsem hK hag⟩
  .simp at hr
  .cases hr
 unfold DW at hr;split at hr
 .exact raw hr rfl fun hK hag env defs=>cX hT hL hK hag
 .rename_i m hm;split at hr
  .rename_i xs hx;simp only[BA]at hr;unfold C3 at hr;split at hr
   .rename_i v hc hK;have hent:=(hT _ _ _ _ _ _ _ hK).ent f rfl;simp only[Aw]at hr;split at hr
    .rename_i hfl;simp only[Fx.ok.injEq]at hr;obtain⟨rfl,rfl⟩:=hr;have hx2:DM h2.get as=some xs:=by rw[←Jy hag];exact hx
     exact⟨v,h2,rfl,rfl,rfl,fun id=>(Ub _ _ id).symm,hent,fun env defs=>cW hT hK (fun v' hv'=>by rcases hv' with h|h<;>cases h;exact hfl) hx2⟩
    .unfold Gf at hr;split at hr
     .rename_i o ho;simp only[Ak,Fx.ok.injEq]at hr;obtain⟨rfl,rfl⟩:=hr;have hx2:DM h2.get as=some xs:=by rw[←Jy hag];exact hx
      refine⟨v,o::h2,rfl,rfl,rfl,fun id=>?_,hent,fun env defs=>xJ hT (by split<;>simp) hK ho hx2⟩;simp only[f9,Ac];obtain⟨i,ob⟩:=o;simp only[AB.get_cons];by_cases e:id=i
      .subst e;simp
      .simp[e,Ne.symm e]
     .simp only[BW]at hr;split at hr
      .rename_i hw;simp only[Ak,Fx.ok.injEq]at hr;obtain⟨rfl,rfl⟩:=hr;have hx2:DM h2.get as=some xs:=by rw[←Jy hag];exact hx
       have hmk:=W3 (vs:=as) hag;refine⟨v,hc++h2.puts (as.flatMap (mark h2.get)),rfl,rfl,rfl,fun id=>?_,hent,fun env defs=>r8 hT (by split<;>simp) hK (by rw[←hmk];exact hw) hx2⟩;rw[←hmk];simp only[f9,F2];rw[AB.get_append,AB.get_append];by_cases e1:id∈(as.flatMap (mark st.heap.get)).map (·.1)
       .rw[D7 (.inl e1),Xy e1 (h':=st.heap)]
       .rw[K0 e1,K0 e1];by_cases e2:id∈hc.map (·.1)
        .rw[D7 (.inr e2)];have:=ZY e2;obtain⟨o,ho⟩:=this;simp[ho]
        .rw[D3 (by rintro(h1|h1);exact e1 h1;exact e2 h1)];have:hc.get id=none:=by
          cases hg:hc.get id with
          |none=>rfl
          |some o=>exact absurd (Qc hg) e2
         rw[this];rfl
      .cases hr
   .split at hr<;>cases hr
   .cases hr
  .unfold EZ at hr;simp only[BA,BW,Ak]at hr;split at hr
   .unfold Nj at hr;split at hr
    .rename_i v hc hK;split at hr
     .rename_i hfl;simp only[Aw,Fx.ok.injEq]at hr;obtain⟨rfl,rfl⟩:=hr;exact⟨v,h2,rfl,rfl,rfl,fun id=>(Ub _ _ id).symm,(hT _ _ _ _ _ _ _ hK).ent f rfl,fun env defs=>v7 hT hL hK (fun v' hv'=>by rcases hv' with h|h<;>cases h;exact hfl) hag⟩
     .cases hr
    .split at hr<;>cases hr
    .cases hr
   .split at hr
    .rename_i hw;exact raw hr rfl fun hK hag env defs=>mr hT hw hL hK hag
    .cases hr
theorem Py{K:AJ}(hT:Ct P W K){fr:Fr}{f:FuncId}{as:List AV}{dst:Option Tmp}{st st':St}{m:Mode}{v:AV}(hL:LW W st.heap)(hr:DW K fr ρ f as dst st m=.em v st'){h2:AB}(hag: ∀id,st.heap.get id=h2.get id):
 ∃h2',st'.env=st.env∧st'.base=st.base∧st'.defs=st.defs∧(∀id,h2'.get id=st'.heap.get id)∧Jf P f∧ ∀env defs,KE P fr.bi ρ nt f as env defs h2 h2' (.em v):=by
 have raw: ∀{E:E (Ae×AB)} {xs:List AV} {hh:AB},EB ρ dst st E=.em v st'→E=K (.fn f) xs hh ρ true fr.bi→
  (∀{c:Ae} {hc:AB},K (.fn f) xs hh ρ true fr.bi=.ok (c,hc)→(∀id,st.heap.get id=h2.get id)→ ∀env defs,KE P fr.bi ρ nt f as env defs h2 (gc ρ hc) c)→
  ∃h2',st'.env=st.env∧st'.base=st.base∧st'.defs=st.defs∧(∀id,h2'.get id=st'.heap.get id)∧Jf P f∧ ∀env defs,KE P fr.bi ρ nt f as env defs h2 h2' (.em v):=by
  intro E xs hh hr hE hsem;subst hE;unfold EB at hr;split at hr
  .simp at hr
  .rename_i u hc hK;simp only[Ak,Fx.em.injEq]at hr;obtain⟨rfl,rfl⟩:=hr;exact⟨gc ρ hc,rfl,rfl,rfl,fun id=>rfl,(hT _ _ _ _ _ _ _ hK).ent f rfl,hsem hK hag⟩
  .cases hr
 unfold DW at hr;split at hr
 .exact raw hr rfl fun hK hag env defs=>cX hT hL hK hag
 .rename_i m hm;split at hr
  .rename_i xs hx;simp only[BA]at hr;unfold C3 at hr;split at hr
   .simp only[Aw]at hr;split at hr
    .cases hr
    .unfold Gf at hr;split at hr
     .simp at hr
     .simp only[BW]at hr;split at hr
      .simp at hr
      .cases hr
   .rename_i u hc hK;split at hr
    .rename_i hfl;simp only[Fx.em.injEq]at hr;obtain⟨rfl,rfl⟩:=hr;have hx2:DM h2.get as=some xs:=by rw[←Jy (fun id _=>hag id)];exact hx
     exact⟨h2,rfl,rfl,rfl,fun id=>(hag id).symm,(hT _ _ _ _ _ _ _ hK).ent f rfl,fun env defs=>cW hT hK (fun v' hv'=>by rcases hv' with h|h<;>cases h;exact hfl) hx2⟩
    .cases hr
   .cases hr
  .unfold EZ at hr;simp only[BA,BW,Ak]at hr;split at hr
   .unfold Nj at hr;split at hr
    .split at hr
     .simp at hr
     .cases hr
    .rename_i u hc hK;split at hr
     .rename_i hfl;simp only[Fx.em.injEq]at hr;obtain⟨rfl,rfl⟩:=hr;exact⟨h2,rfl,rfl,rfl,fun id=>(hag id).symm,(hT _ _ _ _ _ _ _ hK).ent f rfl,fun env defs=>v7 hT hL hK (fun v' hv'=>by rcases hv' with h|h<;>cases h;exact hfl) hag⟩
     .cases hr
    .cases hr
   .split at hr
    .rename_i hw;exact raw hr rfl fun hK hag env defs=>mr hT hw hL hK hag
    .cases hr
variable{A:Nat→Prop}{P:Program}{mix:List TypeId}{β β' β'':Aj}{w w' w'':World}{M:Nat→Prop}{h h' h'':AB}{π ρ:List Nat}{bi:Option (List Nat)}{nt:NT}{env:Nat→AV}{defs defs':List Df}{a:Act}{ro:Option Nat}{W:Lp→Prop}
theorem FK.append{ys:List AV}{a b:Array Value}(h1:FK β w M xs a)(h2:FK β w M ys b):FK β w M (xs++ys) (a++b):=by
 refine⟨by rw[D9,RD,h1.1,h2.1],fun i x v hx hv=>?_⟩;by_cases hi:i<xs.length
 .rw[Bv hi]at hx;rw[I2 (by rw[←h1.1];exact hi)]at hv;exact h1.2 i x v hx hv
 .rw[CS (by omega)]at hx;rw[Array.getElem?_append_right (by rw[←h1.1];omega),←h1.1]at hv;exact h2.2 _ x v hx hv
theorem FK.args{e:Nat→AV}(he:IK β w M e fun t=>a.tmps.getD t Go.undef)(l:Array Operand):FK β w M (l.toList.map (ev e)) (l.map a.eval):=by
 refine⟨by simp,fun i x v hx hv=>?_⟩;simp only[D5,HU,BI]at hx;obtain⟨y,hy,rfl⟩:=hx;simp only[Of,hy,F1,CI]at hv;subst hv;exact HF he y
variable{c:Call}{x:Operand}
theorem VC(ho:o.op=.call c)(hc:c.callee=.value x){g:FuncId}{first cap:Array Value}(hx:a.eval x=.func (.func g) first cap)(he:Jf P g):
 (o.semAt ro a.eval).run P w=.ok (.enter g (first++c.args.map a.eval++cap)) w:=by
 rw[Oper.semAt_eq _ _ _ (by simp[ho])];simp[execOp,ho,resolve,hc,hx,Deferred.ofValue,invoke,JL he]
theorem S8(ho:o.op=.call c)(hc:c.callee=.value x){k:Nat}{l:Loop}(hx:a.eval x=.func (.yield k) #[] #[])(hl:w.heap[k]? =some (.loop l))(hn:l.params.size=c.args.size):
 (o.semAt ro a.eval).run P w=.ok (.round k l.fn (GP l (c.args.map a.eval)) l.assign l.body) w:=by
 rw[Oper.semAt_eq _ _ _ (by simp[ho])];have hgo:(getObj k).run P w=.ok (.loop l) w:=H3 hl (by simp);simp[execOp,ho,resolve,hc,hx,Deferred.ofValue,invoke,Instr.yield,Instr.getLoop,hgo,hn,GP]
structure KN(P:Program)(mix:List TypeId)(C:CA):Prop where
 T:C.T=Bc P mix
 rx: ∀t m f,C.rx t m=some f→ ∀(v:Value) (w:World),(method (P.types.size+Made.depth) t v m).run P w=.ok (f,v) w
variable{C:CA}{fr:Fr}{st':St}{fp:Fp}{env2:Nat→AV}
theorem Xr(hC:KN P mix C)(hr:Cx fr o.op o.dst st (evalOp C.T st.env.get st.heap.get ρ o.op)=.ok st' fp)(hdf: ∀c,o.op≠ .defer c)
   (he:JF st.env.get env2 o.op) (hag:cD fp.rd st.heap.get h2.get) (hd: ∀d,o.dst=some d→d<nt.n):
 ∃v h2',st'.env=B8 st.env o.dst v∧st'.base=st.base∧(∀id,h2'.get id=f9 fp.wr st'.heap.get h2.get id)∧Ml P ro fr.bi ρ nt o env2 st.defs h2 v st'.defs h2':=by
 rw[hC.T]at hr;cases hev:evalOp (Bc P mix) st.env.get st.heap.get ρ o.op with
 |none=>rw[hev]at hr;cases hr
 |some eff=>
  rw[hev]at hr;simp only[Cx,Iy,BW]at hr;split at hr
  .rename_i hw;simp only[Aw,Kc,Fx.ok.injEq]at hr;obtain⟨rfl,rfl⟩:=hr;have hev2:=Ta (P:=P) (mix:=mix) (n:=ρ) he hag;rw[hev]at hev2;refine⟨eff.v,h2.puts eff.δ,rfl,rfl,fun id=>?_,?_⟩
   .simp only[f9];split
    .rename_i hi;exact Xy hi
    .rename_i hi;exact K0 hi
   .intro A β w a H hf s next Q hn
    exact pa H hf s hd hdf hev2.symm hw hn
  .cases hr
theorem eH(hT:Ct P W K)(ho:o.op=.call c)(hc:c.callee=.value x)
 (hL:LW W st.heap) (hr:De C K fr ρ (ev st.env.get x) (c.args.toList.map (ev st.env.get)) o.dst st=.ok st' fp)
   (he:JF st.env.get env2 o.op) (hag:cD fp.rd st.heap.get h2.get) (hd: ∀d,o.dst=some d→d<nt.n):
 ∃v h2',st'.env=B8 st.env o.dst v∧st'.base=st.base∧(∀id,h2'.get id=f9 fp.wr st'.heap.get h2.get id)∧Ml P ro fr.bi ρ nt o env2 st.defs h2 v st'.defs h2':=by
 have hx:ev st.env.get x=ev env2 x:=he x (by rw[ho];simp[Op.operands,Call.operands,hc]);have hargs:c.args.toList.map (ev st.env.get)=c.args.toList.map (ev env2):=Ec fun y hy=>he y (by rw[ho];simp[Op.operands,Call.operands,hc,hy]);rw[hargs,hx]at hr;unfold De at hr;split at hr
 ·
  rename_i id hid;unfold Jn at hr;split at hr
  .rename_i r hg;unfold EB at hr;split at hr
   .rename_i v hc' hK;simp only[Aw,Ak,Fx.ok.injEq]at hr;obtain⟨rfl,rfl⟩:=hr;refine⟨v,gc ρ hc',rfl,rfl,Q7 hag,?_⟩;intro A β w a H hf s next Q hn
    have hag': ∀id,st.heap.get id=h2.get id:=hag;have H1:HR A β w st.heap:=H.congr fun id=>(hag' id).symm;have hM:=MS.congr (A:=A) (β:=β) hag';have hxv:=HF s.env x;rw[hid]at hxv;generalize hax:a.eval x=ax at hxv;cases hxv with
    |un _ k hk=>
     obtain⟨k',hk',l,q1,q2,q3,q4,q5,q6,q7,q9,q8⟩:=H1.obj id _ hg;rw[hk]at hk';cases hk';have hvs:=FK.args s.env c.args;obtain⟨hlen,hround⟩:=(hT _ _ _ _ _ _ _ hK).rw rfl (fun _ _ h=>by cases h;exact hL _ _ hg) hL A β w (c.args.map a.eval) H1 hf (by rw[hM];exact hvs);have hround:=hround k l hg hk q1;have g1:BQ A fr.bi ρ β w h2 β w st.heap:=(BQ.refl H1).congr hag';have hn':l.params.size=c.args.size:=by
      rw[←q5]at hlen;simpa using hlen
     exact j6 (S8 ho hc hax q1 hn') hd (RoundIn.mono hround fun e w' he=>PY g1 hf s he) hn
   .simp at hr
   .cases hr
  .cases hr
 .rename_i g first cap hfn
  simp only[BA]at hr;obtain⟨v,h2',e1,e2,e3,e4,e5,e6⟩:=R7 (nt:=nt) hT hL hr hag;refine⟨v,h2',e1,e2,e4,?_⟩;intro A β w a H hf s next Q hn
  have hxv:=HF s.env x;rw[hfn]at hxv;generalize hax:a.eval x=ax at hxv;cases hxv with
  |fn _ _ _ first' cap' l1 l2 l3 l4=>
   have hvs:FK β w (MS A β h2) (first++c.args.toList.map (ev env2)++cap) (first'++c.args.map a.eval++cap'):=
    (FK.append (FK.append ⟨l1,l3⟩ (FK.args s.env c.args)) ⟨l2,l4⟩)
   rw[e3]at hn;exact SJ (VC ho hc hax e5) hd (e6 env2 st.defs A β w a _ H hf s hvs) hn
 .cases hr
theorem Y0(hT:Ct P W K)(ho:o.op=.call c)(hc:c.callee=.value x)
 (hL:LW W st.heap) (hr:De C K fr ρ (ev st.env.get x) (c.args.toList.map (ev st.env.get)) o.dst st=.em v st')
   (he:JF st.env.get env2 o.op) (hag: ∀id,st.heap.get id=h2.get id):
 ∃h2',st'.env=st.env∧st'.base=st.base∧st'.defs=st.defs∧(∀id,h2'.get id=st'.heap.get id)∧TE P ro fr.bi ρ nt o env2 st.defs h2 v h2':=by
 have hx:ev st.env.get x=ev env2 x:=he x (by rw[ho];simp[Op.operands,Call.operands,hc]);have hargs:c.args.toList.map (ev st.env.get)=c.args.toList.map (ev env2):=Ec fun y hy=>he y (by rw[ho];simp[Op.operands,Call.operands,hc,hy]);rw[hargs,hx]at hr;unfold De at hr;split at hr
 .rename_i id hid;unfold Jn at hr;split at hr
  .rename_i r hg;unfold EB at hr;split at hr
   .simp at hr
   .rename_i u hc' hK;simp only[Ak,Fx.em.injEq]at hr;obtain⟨rfl,rfl⟩:=hr;refine⟨gc ρ hc',rfl,rfl,rfl,fun id=>rfl,?_⟩;intro A β w a H hf s next Q hn
    have H1:HR A β w st.heap:=H.congr fun id=>(hag id).symm;have hM:=MS.congr (A:=A) (β:=β) hag;have hxv:=HF s.env x;rw[hid]at hxv;generalize hax:a.eval x=ax at hxv;cases hxv with
    |un _ k hk=>
     obtain⟨k',hk',l,q1,q2,q3,q4,q5,q6,q7,q9,q8⟩:=H1.obj id _ hg;rw[hk]at hk';cases hk';have hvs:=FK.args s.env c.args;obtain⟨hlen,hround⟩:=(hT _ _ _ _ _ _ _ hK).rw rfl (fun _ _ h=>by cases h;exact hL _ _ hg) hL A β w (c.args.map a.eval) H1 hf (by rw[hM];exact hvs);have hround:=hround k l hg hk q1;have g1:BQ A fr.bi ρ β w h2 β w st.heap:=(BQ.refl H1).congr hag;have hn':l.params.size=c.args.size:=by
      rw[←q5]at hlen;simpa using hlen
     exact j5 (S8 ho hc hax q1 hn') (RoundIn.mono hround fun e w' he=>PY g1 hf s he) hn
   .cases hr
  .cases hr
 .rename_i g first cap hfn
  simp only[BA]at hr;obtain⟨h2',e1,e2,e3,e4,e5,e6⟩:=Py (nt:=nt) hT hL hr hag;refine⟨h2',e1,e2,e3,e4,?_⟩;intro A β w a H hf s next Q hn
  have hxv:=HF s.env x;rw[hfn]at hxv;generalize hax:a.eval x=ax at hxv;cases hxv with
  |fn _ _ _ first' cap' l1 l2 l3 l4=>
   have hvs:FK β w (MS A β h2) (first++c.args.toList.map (ev env2)++cap) (first'++c.args.map a.eval++cap'):=
    (FK.append (FK.append ⟨l1,l3⟩ (FK.args s.env c.args)) ⟨l2,l4⟩)
   exact SI (VC ho hc hax e5) (e6 env2 st.defs A β w a _ H hf s hvs) hn
 .cases hr
theorem QT{m:String}(ho:o.op=.call c)(hc:c.callee=.invoke x m){g:FuncId}{t:TypeId}{v:Value}(hx:a.eval x=.iface t v)
 (hm:(method (P.types.size+Made.depth) t v m).run P w=.ok (g,v) w) (he:Jf P g):
 (o.semAt ro a.eval).run P w=.ok (.enter g (#[v]++c.args.map a.eval)) w:=by
 rw[Oper.semAt_eq _ _ _ (by simp[ho])];have e:(#[Value.iface t v]++c.args.map a.eval).extract 1 (#[Value.iface t v]++c.args.map a.eval).size=c.args.map a.eval:=by
  apply Array.ext';simp only[Array.toList_extract,Array.toList_append,RD];simp;rw[D6 (by simp)]
 have e0:(#[Value.iface t v]++c.args.map a.eval)[0]? =some (.iface t v):=by
  rw[I2 (by simp)];rfl
 unfold execOp;simp only[ho,resolve,hc,hx,Sem.run_bind,Sem.run_pure,Result.andThen_ok];unfold invoke;simp only[e,e0];simp[callMethod,hm,JL he]
theorem Va{C:CA}(hC:KN P mix C){K:AJ}(hT:Ct P W K){fr:Fr}{o:Oper}{c:Call}{x:Operand}{m:String}(ho:o.op=.call c)(hc:c.callee=.invoke x m){st st':St}{fp:Fp}
 (hL:LW W st.heap) (hr:E3 C K fr ρ (ev st.env.get x) m (c.args.toList.map (ev st.env.get)) o.dst st=.ok st' fp)
 {env2:Nat→AV} {h2:AB} (he:JF st.env.get env2 o.op) (hag:cD fp.rd st.heap.get h2.get) (hd: ∀d,o.dst=some d→d<nt.n):
 ∃v h2',st'.env=B8 st.env o.dst v∧st'.base=st.base∧(∀id,h2'.get id=f9 fp.wr st'.heap.get h2.get id)∧Ml P ro fr.bi ρ nt o env2 st.defs h2 v st'.defs h2':=by
 have hx:ev st.env.get x=ev env2 x:=he x (by rw[ho];simp[Op.operands,Call.operands,hc]);have hargs:c.args.toList.map (ev st.env.get)=c.args.toList.map (ev env2):=Ec fun y hy=>he y (by rw[ho];simp[Op.operands,Call.operands,hc,hy]);rw[hargs,hx]at hr;unfold E3 at hr;split at hr
 .rename_i t rv hrv;split at hr
  .rename_i g hg;unfold De at hr;simp only[BA]at hr;obtain⟨v,h2',e1,e2,e3,e4,e5,e6⟩:=R7 (nt:=nt) hT hL hr hag;refine⟨v,h2',e1,e2,e4,?_⟩;intro A β w a H hf s next Q hn
   have hxv:=HF s.env x;rw[hrv]at hxv;generalize hax:a.eval x=ax at hxv;cases hxv with
   |iface _ _ u hu=>
    have hvs:FK β w (MS A β h2) ([rv]++c.args.toList.map (ev env2)++[]) (#[u]++c.args.map a.eval):=by
     rw[EL];refine FK.append ⟨rfl,fun i y z hy hz=>?_⟩ (FK.args s.env c.args);cases i with
     |zero=>simp at hy hz;subst hy hz;exact hu
     |succ i=>simp at hy
    rw[e3]at hn;exact SJ (QT ho hc hax (hC.rx t m g hg u w) e5) hd (e6 env2 st.defs A β w a _ H hf s hvs) hn
  .cases hr
 .cases hr
theorem TU{C:CA}(hC:KN P mix C){K:AJ}(hT:Ct P W K){fr:Fr}{o:Oper}{c:Call}{x:Operand}{m:String}(ho:o.op=.call c)(hc:c.callee=.invoke x m){st st':St}{v:AV}
 (hL:LW W st.heap) (hr:E3 C K fr ρ (ev st.env.get x) m (c.args.toList.map (ev st.env.get)) o.dst st=.em v st')
 {env2:Nat→AV} {h2:AB} (he:JF st.env.get env2 o.op) (hag: ∀id,st.heap.get id=h2.get id):
 ∃h2',st'.env=st.env∧st'.base=st.base∧st'.defs=st.defs∧(∀id,h2'.get id=st'.heap.get id)∧TE P ro fr.bi ρ nt o env2 st.defs h2 v h2':=by
 have hx:ev st.env.get x=ev env2 x:=he x (by rw[ho];simp[Op.operands,Call.operands,hc]);have hargs:c.args.toList.map (ev st.env.get)=c.args.toList.map (ev env2):=Ec fun y hy=>he y (by rw[ho];simp[Op.operands,Call.operands,hc,hy]);rw[hargs,hx]at hr;unfold E3 at hr;split at hr
 .rename_i t rv hrv;split at hr
  .rename_i g hg;unfold De at hr;simp only[BA]at hr;obtain⟨h2',e1,e2,e3,e4,e5,e6⟩:=Py (nt:=nt) hT hL hr hag;refine⟨h2',e1,e2,e3,e4,?_⟩;intro A β w a H hf s next Q hn
   have hxv:=HF s.env x;rw[hrv]at hxv;generalize hax:a.eval x=ax at hxv;cases hxv with
   |iface _ _ u hu=>
    have hvs:FK β w (MS A β h2) ([rv]++c.args.toList.map (ev env2)++[]) (#[u]++c.args.map a.eval):=by
     rw[EL];refine FK.append ⟨rfl,fun i y z hy hz=>?_⟩ (FK.args s.env c.args);cases i with
     |zero=>simp at hy hz;subst hy hz;exact hu
     |succ i=>simp at hy
    exact SI (QT ho hc hax (hC.rx t m g hg u w) e5) (e6 env2 st.defs A β w a _ H hf s hvs) hn
  .cases hr
 .cases hr
theorem Y1{C:CA}{K:AJ}{fr:Fr}(hro:fr.v6=false→ro=none){o:Oper}{c:Call}(ho:o.op=.defer c){st st':St}{fp:Fp}(hr:GX fr st.env.get c o.dst st=.ok st' fp)
 {env2:Nat→AV} {h2:AB} (he:JF st.env.get env2 o.op) (hag:cD fp.rd st.heap.get h2.get) (hd: ∀d,o.dst=some d→d<nt.n):
 ∃v h2',st'.env=B8 st.env o.dst v∧st'.base=st.base∧(∀id,h2'.get id=f9 fp.wr st'.heap.get h2.get id)∧Ml P ro fr.bi ρ nt o env2 st.defs h2 v st'.defs h2':=by
 unfold GX at hr;split at hr
 .rename_i x hc;have hx:ev st.env.get x=ev env2 x:=he x (by rw[ho];simp[Op.operands,Call.operands,hc]);have hargs:c.args.toList.map (ev st.env.get)=c.args.toList.map (ev env2):=Ec fun y hy=>he y (by rw[ho];simp[Op.operands,Call.operands,hc,hy]);split at hr
  .rename_i g hfn hrnd;simp only[Fx.ok.injEq]at hr;obtain⟨rfl,rfl⟩:=hr;refine⟨.undef,h2,rfl,rfl,fun id=>(hag id).symm,?_⟩;intro A β w a H hf s next Q hn
   have hro':=hro hrnd;subst hro';have hxv:=HF s.env x;rw[←hx,hfn]at hxv;generalize hax:a.eval x=ax at hxv;cases hxv with
   |fn _ _ _ first' cap' l1 l2 l3 l4=>
    have hf0:first'= #[]:=Lc l1.symm;have hc0:cap'= #[]:=Lc l2.symm;subst hf0 hc0;refine⟨fun _ _=>trivial,?_⟩;have hrun:(o.semAt (FF none).round a.eval).run P w=.ok (.defer {target:=.fn (.func g) #[],args:=c.args.map a.eval}) w:=by
     show(execOp a.eval o).run P w=_;simp[execOp,ho,resolve,hc,hax,Deferred.ofValue]
    rw[hrun,Oper.uponIn_defer];refine hn _ _ ⟨β,BQ.refl H,?_⟩;have s':KG A β w nt env2 (.call g (c.args.toList.map (ev st.env.get))::st.defs) h2 {a with defers:={target:=.fn (.func g) #[],args:=c.args.map a.eval}::a.defers}:=
     ⟨s.sz,s.env,⟨.call _ _ _ (by rw[hargs];exact FK.args s.env c.args),s.defs,fun _ _ _ h=>by cases h⟩⟩
    exact s'.put hd (.undef _)
  .cases hr
 .cases hr
theorem Y3(ho:o.op=.panic x)(hr:FC st (ev st.env.get x)=.em v st')
   (he:JF st.env.get env2 o.op) (hag: ∀id,st.heap.get id=h2.get id):
 ∃h2',st'.env=st.env∧st'.base=st.base∧st'.defs=st.defs∧(∀id,h2'.get id=st'.heap.get id)∧TE P ro fr.bi ρ nt o env2 st.defs h2 v h2':=by
 have hx:ev st.env.get x=ev env2 x:=he x (by rw[ho];simp[Op.operands]);unfold FC at hr;split at hr
 .split at hr
  .rename_i t u hv;simp only[Fx.em.injEq]at hr;obtain⟨rfl,rfl⟩:=hr;refine⟨h2,rfl,rfl,rfl,fun id=>(hag id).symm,?_⟩;intro A β w a H hf s next Q hn
   have hxv:=HF s.env x;rw[←hx,hv]at hxv;generalize hax:a.eval x=ax at hxv;cases hxv with
   |iface _ _ u' hu=>
    refine⟨fun _ _=>trivial,?_⟩;have hrun:(o.semAt (FF ro).round a.eval).run P w=.halt (.panic (.iface t u')) w:=by
     rw[Oper.semAt_eq _ _ _ (by simp[ho])];simp[execOp,ho,hax,Instr.panic,goPanic]
    rw[hrun];exact hn a w _ ⟨β,BQ.refl H,s,.iface _ _ _ hu⟩
  .cases hr
 .cases hr
theorem rN(hC:KN P mix C)(hT:Ct P W K)(hro:fr.v6=false→ro=none)(hL:LW W st.heap)(hr:Ax C K fr ρ o.op o.dst st=.ok st' fp)
   (he:JF st.env.get env2 o.op) (hag:cD fp.rd st.heap.get h2.get) (hd: ∀d,o.dst=some d→d<nt.n):
 ∃v h2',st'.env=B8 st.env o.dst v∧st'.base=st.base∧(∀id,h2'.get id=f9 fp.wr st'.heap.get h2.get id)∧Ml P ro fr.bi ρ nt o env2 st.defs h2 v st'.defs h2':=by
 unfold Ax at hr;split at hr
 .rename_i c hop;split at hr
  .rename_i x hc;exact eH (C:=C) hT hop hc hL hr he hag hd
  .rename_i x m hc;exact Va hC hT hop hc hL hr he hag hd
  .rename_i b hc;have e:JB C.T st.env.get st.heap.get ρ c=evalOp C.T st.env.get st.heap.get ρ o.op:=by rw[hop];rfl
   rw[e]at hr;exact Xr hC hr (by simp[hop]) he hag hd
 .rename_i x hop;unfold FC at hr;split at hr
  .split at hr<;>cases hr
  .cases hr
 .rename_i c hop;exact Y1 (C:=C) (K:=K) hro hop hr he hag hd
 .rename_i h1 h2 h3;exact Xr hC hr (fun c hc=>h3 c hc) he hag hd
theorem mI(hC:KN P mix C)(hT:Ct P W K)(hL:LW W st.heap)(hr:Ax C K fr ρ o.op o.dst st=.em v st')
   (he:JF st.env.get env2 o.op) (hag: ∀id,st.heap.get id=h2.get id):
 ∃h2',st'.env=st.env∧st'.base=st.base∧st'.defs=st.defs∧(∀id,h2'.get id=st'.heap.get id)∧TE P ro fr.bi ρ nt o env2 st.defs h2 v h2':=by
 have noPlain: ∀{x:Option Bw},Cx fr o.op o.dst st x=.em v st'→False:=by
  intro x hr;unfold Cx at hr;split at hr
  .simp only[Iy,BW]at hr;split at hr
   .simp at hr
   .cases hr
  .cases hr
 unfold Ax at hr;split at hr
 .rename_i c hop;split at hr
  .rename_i x hc;exact Y0 (C:=C) hT hop hc hL hr he hag
  .rename_i x m hc;exact TU hC hT hop hc hL hr he hag
  .skip
   exact(noPlain hr).elim
 .rename_i x hop;exact Y3 hop hr he hag
 .rename_i c hop;unfold GX at hr;split at hr
  .split at hr<;>cases hr
  .cases hr
 .exact(noPlain hr).elim
variable{P:Program}{mix:List TypeId}{ρ:List Nat}{W:Lp→Prop}
theorem Ns{wr:Option (List Id)}{id:Id}:f9 wr g g id=g id:=by
 cases wr with
 |none=>rfl
 |some l=>simp[f9]
theorem qU{h:AB}{id:Id}:f9 (some (δ.map (·.1))) (h.puts δ).get h.get id=(h.puts δ).get id:=by
 simp only[f9];split
 .rfl
 .rename_i hi;exact(K0 hi).symm
def kU(st st':St)(fp:Fp):Prop:=st'.defs=st.defs∧ ∀id,f9 fp.wr st'.heap.get st.heap.get id=st'.heap.get id
variable{dst:Option Tmp}
theorem K1{E:E (Ae×AB)}(hr:EB ρ dst st E=.ok st' fp):kU st st' fp:=by
 unfold EB at hr;split at hr
 .simp only[Aw,Ak,Fx.ok.injEq]at hr;obtain⟨rfl,rfl⟩:=hr;exact⟨rfl,fun id=>(Q7 (fun _=>rfl) id).symm⟩
 .simp at hr
 .cases hr
theorem VA{f:FuncId}{m:Mode}(hr:DW K fr ρ f as dst st m=.ok st' fp):kU st st' fp:=by
 unfold DW at hr;split at hr
 .exact K1 hr
 .split at hr
  .rename_i xs hx;simp only[BA]at hr;unfold C3 at hr;split at hr
   .rename_i v hc hK;simp only[Aw]at hr;split at hr
    .simp only[Fx.ok.injEq]at hr;obtain⟨rfl,rfl⟩:=hr;exact⟨rfl,fun _=>Ns⟩
    .unfold Gf at hr;split at hr
     .rename_i o ho;simp only[Ak,Fx.ok.injEq]at hr;obtain⟨rfl,rfl⟩:=hr;refine⟨rfl,fun id=>?_⟩;obtain⟨i,ob⟩:=o;simp only[f9,Ac,AB.get_cons];by_cases e:id=i
      .simp[e]
      .simp[e,Ne.symm e]
     .simp only[BW]at hr;split at hr
      .simp only[Ak,Fx.ok.injEq]at hr;obtain⟨rfl,rfl⟩:=hr;refine⟨rfl,fun id=>?_⟩;simp only[f9];split
       .rfl
       .rename_i hi;simp only[F2,not_or]at hi;rw[AB.get_append,K0 hi.1];cases hg:hc.get id with
        |none=>rfl
        |some o=>exact absurd (Qc hg) hi.2
      .cases hr
   .split at hr<;>cases hr
   .cases hr
  .unfold EZ at hr;simp only[BA,BW,Ak]at hr;split at hr
   .unfold Nj at hr;split at hr
    .split at hr
     .simp only[Aw,Fx.ok.injEq]at hr;obtain⟨rfl,rfl⟩:=hr;exact⟨rfl,fun _=>Ns⟩
     .cases hr
    .split at hr<;>cases hr
    .cases hr
   .split at hr
    .exact K1 hr
    .cases hr
theorem Oi{fv:AV}{args:List AV}(hr:De C K fr ρ fv args dst st=.ok st' fp):kU st st' fp:=by
 unfold De at hr;split at hr
 .unfold Jn at hr;split at hr
  .exact K1 hr
  .cases hr
 .simp only[BA]at hr;exact VA hr
 .cases hr
variable{op:Op}
theorem M1{x:Option Bw}(hr:Cx fr op dst st x=.ok st' fp):kU st st' fp:=by
 unfold Cx at hr;split at hr
 .simp only[Iy,BW]at hr;split at hr
  .simp only[Aw,Kc,Fx.ok.injEq]at hr;obtain⟨rfl,rfl⟩:=hr;exact⟨rfl,fun _=>qU⟩
  .cases hr
 .cases hr
theorem mJ(hr:Ax C K fr ρ op dst st=.ok st' fp):(∀id,f9 fp.wr st'.heap.get st.heap.get id=st'.heap.get id)∧((∀c,op≠ .defer c)→st'.defs=st.defs):=by
 have fin:kU st st' fp→(∀id,f9 fp.wr st'.heap.get st.heap.get id=st'.heap.get id)∧((∀c,op≠ .defer c)→st'.defs=st.defs):=fun c=>⟨c.2,fun _=>c.1⟩;unfold Ax at hr;split at hr
 .split at hr
  .exact fin (Oi hr)
  .unfold E3 at hr;split at hr
   .split at hr
    .exact fin (Oi hr)
    .cases hr
   .cases hr
  .exact fin (M1 hr)
 .unfold FC at hr;split at hr
  .split at hr<;>cases hr
  .cases hr
 .rename_i c;unfold GX at hr;split at hr
  .split at hr
   .simp only[Fx.ok.injEq]at hr;obtain⟨rfl,rfl⟩:=hr;exact⟨fun _=>Ns,fun h=>absurd rfl (h c)⟩
   .cases hr
  .cases hr
 .exact fin (M1 hr)
theorem Mb{ops:Array Oper}(hr:B2 C K fr ops ρ o st=.ok st' fp):
 (∀id,f9 fp.wr st'.heap.get st.heap.get id=st'.heap.get id)∧((∀c,o.op≠ .defer c)→st'.defs=st.defs):=by
 unfold B2 at hr;split at hr
 .cases hr
 .simp only[Aw,Fx.ok.injEq]at hr;obtain⟨rfl,rfl⟩:=hr;exact⟨fun _=>Ns,fun _=>rfl⟩
 .exact mJ hr
def pq:Op→Bool
 |.move _|.assign _|.pick ..|.alloc _|.box ..|.build ..|.nilCheck _|.binOp ..|.unOp ..|.makeInterface ..|.typeAssert ..|.makeFunc ..|.makeMap ..|.makeSlice ..|.fieldAddr ..|.field ..|.index ..|.extract ..=>true
 |.call c=>match c.callee with
  |.builtin .max=>true
  |.builtin .min=>true
  |_=>false
 |_=>false
def Um:Op→Bool
 |.move _|.assign _|.pick ..|.build ..|.load ..|.nilCheck _|.binOp ..|.unOp ..|.makeInterface ..|.typeAssert ..|.makeFunc ..|.lookup ..|.slice ..|.fieldAddr ..|.field ..|.indexAddr ..|.index ..|.extract ..=>true
 |.call c=>match c.callee with
  |.builtin .max=>true
  |.builtin .min=>true
  |.builtin .len=>true
  |_=>false
 |_=>false
theorem pr{e:Nat→AV}(h:pq op=true):FP e g op=[]:=by
 cases op<;>first|rfl|(simp[pq]at h;done)|skip
 rename_i c;obtain⟨callee,args,ats⟩:=c;cases callee with
 |builtin b=>cases b<;>first|rfl|simp[pq]at h
 |_=>simp[pq]at h
variable{α:Type}{eff:Bw}
theorem map_nil{f:α→AV}{x:Option α}(h:x.map (fun y=>(⟨f y,[]⟩:Bw))=some eff):eff.δ=[]:=by
 simp only[BI]at h;obtain⟨y,_,rfl⟩:=h;rfl
variable{T:TypeId→Option TI}{n:Id}
theorem YQ{e:Nat→AV}(h:Um op=true)(he:evalOp T e g n op=some eff):eff.δ=[]:=by
 cases op<;>first|(simp[Um]at h;done)|skip
 all_goals simp only[evalOp]at he
 case move=>cases he;rfl
 case assign=>cases he;rfl
 case pick=>unfold MO at he;split at he<;>cases he;rfl
 case build=>unfold Ij at he;split at he
             .split at he
              .cases he
              .exact map_nil he
             .cases he
 case load=>unfold J8 at he;split at he
            .exact map_nil he
            .cases he
 case nilCheck=>unfold FO at he;split at he<;>cases he<;>rfl
 case binOp=>exact map_nil he
 case unOp=>
  unfold jD at he;split at he
  .unfold cm at he;split at he<;>cases he;rfl
  .cases he
 case makeInterface=>
  unfold J6 at he;split at he
  .split at he<;>cases he;rfl
  .cases he
 case makeFunc=>unfold GM at he;split at he<;>cases he;rfl
 case slice=>
  unfold Gd at he;split at he
  .split at he
   .exact map_nil he
   .exact map_nil he
   .cases he
  .cases he
 case fieldAddr=>
  unfold Dt at he;split at he
  .split at he
   .split at he
    .cases he
    .split at he
     .cases he;rfl
     .cases he;rfl
     .split at he<;>cases he;rfl
     .cases he
   .cases he
  .cases he
 case field=>
  unfold Lf at he;split at he
  .split at he
   .exact map_nil he
   .cases he
  .cases he
 case indexAddr=>
  unfold Ck at he;split at he
  .split at he
   .unfold Ly at he;split at he
    .split at he
     .split at he
      .split at he<;>cases he;rfl
      .cases he
     .split at he
      .split at he<;>first|(split at he<;>cases he;rfl)|cases he
      .cases he
     .cases he
    .cases he
   .unfold lh at he;split at he
    .split at he<;>cases he;rfl
    .cases he
   .cases he
  .cases he
 case index=>
  unfold J7 at he;split at he
  .split at he
   .exact map_nil he
   .cases he
  .cases he
 case lookup=>
  unfold Ef at he;split at he
  .split at he
   .split at he
    .split at he
     .unfold J4 at he;split at he<;>cases he<;>rfl
     .cases he
    .cases he
   .cases he
  .cases he
 case typeAssert x xt t ok=>
  cases ok with
  |false=>cases he
  |true=>
   simp only at he;unfold Gy at he;split at he
   .split at he
    .cases he
    .split at he
     .cases he;rfl
     .exact map_nil he
   .cases he
 case extract=>
  unfold Hi at he;split at he
  .exact map_nil he
  .cases he
 case call c=>
  obtain⟨callee,args,ats⟩:=c;cases callee with
  |builtin b=>
   simp only[JB]at he;unfold FT at he;cases b<;>first|(simp[Um]at h;done)|skip
   .simp only at he;split at he
    .split at he
     .split at he
      .exact map_nil he
      .cases he
     .cases he
    .cases he
   .simp only at he;split at he
    .unfold XD at he;split at he
     .split at he<;>cases he;rfl
     .cases he
    .cases he
   .simp only at he;split at he
    .unfold XE at he;split at he
     .split at he<;>cases he;rfl
     .cases he
    .cases he
  |_=>simp[Um]at h
theorem Y4{x:Option Bw}(hr:Cx fr op dst st x=.ok st' fp): ∃eff,x=some eff∧fp=⟨some (FP st.env.get st.heap.get op),some (eff.δ.map (·.1))⟩:=by
 unfold Cx at hr;split at hr
 .simp only[Iy,BW]at hr;split at hr
  .simp only[Aw,Kc,Fx.ok.injEq]at hr;obtain⟨rfl,rfl⟩:=hr;exact⟨_,rfl,rfl⟩
  .cases hr
 .cases hr
theorem S3{ops:Array Oper}(hr:B2 C K fr ops ρ o st=.ok st' fp):
 (pq o.op=true→fp.rd=some [])∧(Um o.op=true→fp.wr=some []):=by
 unfold B2 at hr;split at hr
 .cases hr
 .simp only[Aw,Fx.ok.injEq]at hr;obtain⟨rfl,rfl⟩:=hr;exact⟨fun _=>rfl,fun _=>rfl⟩
 .have plain: ∀{x:Option Bw},Cx fr o.op o.dst st x=.ok st' fp→x=evalOp C.T st.env.get st.heap.get ρ o.op→(pq o.op=true→fp.rd=some [])∧(Um o.op=true→fp.wr=some []):=by
   intro x hr hx;obtain⟨eff,rfl,rfl⟩:=Y4 hr;exact⟨fun h=>by simp only[pr h],fun h=>by simp only[YQ h hx.symm,Be]⟩
  unfold Ax at hr;split at hr
  .rename_i c hop;split at hr
   .rename_i x hc;exact⟨fun h=>by simp[hop,pq,hc]at h,fun h=>by simp[hop,Um,hc]at h⟩
   .rename_i x y hc;exact⟨fun h=>by simp[hop,pq,hc]at h,fun h=>by simp[hop,Um,hc]at h⟩
   .exact plain hr (by rw[hop];rfl)
  .unfold FC at hr;split at hr
   .split at hr<;>cases hr
   .cases hr
  .rename_i c hop;exact⟨fun h=>by simp[hop,pq]at h,fun h=>by simp[hop,Um]at h⟩
  .exact plain hr rfl
variable{es:List (List AV)}
theorem A7.newArr{j:TI}(h:newArr g n j es=some eff):A7 eff.δ:=by
 unfold Abs.newArr at h;split at h
 .cases h
 .split at h
  .cases h;exact .one rfl
  .split at h
   .cases h;exact(A7.markEs es).append (.one rfl)
   .cases h
theorem A7.mapE{f:α→Bw}{x:Option α}(hf: ∀y,A7 (f y).δ)(h:x.map f=some eff):A7 eff.δ:=by
 simp only[BI]at h;obtain⟨y,_,rfl⟩:=h;exact hf y
variable{off sz:Nat}{src:List (List AV)}
theorem A7.appIn{id:Id}{k:Nat}{es:List (List AU)}(h:appIn g n id off k sz es src=some eff):A7 eff.δ:=by
 unfold Abs.appIn at h;split at h
 .split at h
  .cases h;exact(A7.markEs src).append (.one rfl)
  .split at h
   .cases h;exact(A7.markEs src).append (.cons rfl (.one rfl))
   .cases h
 .cases h
theorem A7.appMix{id:Id}{k:Nat}(h:appMix n id off k sz es src=some eff):A7 eff.δ:=by
 unfold Abs.appMix at h;split at h
 .cases h;exact .one rfl
 .split at h
  .cases h;exact .cons rfl (.one rfl)
  .cases h
variable{s:AV}
theorem A7.appTo{j:TI}(h:appTo g n j s src=some eff):A7 eff.δ:=by
 unfold Abs.appTo at h;split at h
 .exact .newArr h
 .exact .newArr h
 .split at h
  .split at h
   .exact .appIn h
   .cases h
  .split at h
   .exact .appMix h
   .cases h
  .cases h
 .cases h
theorem A7.appendV{j:TI}{x:AV}(h:appendV g n j s x=some eff):A7 eff.δ:=by
 unfold Abs.appendV at h;split at h
 .cases h
 .split at h<;>cases h<;>exact .nil
 .split at h
  .exact .appTo h
  .cases h
theorem A7.store{i:TI}{a:AV}(h:IG g i a v=some eff):A7 eff.δ:=by
 unfold IG at h;split at h
 .cases h
 .split at h
  .split at h
   .exact .mapE (fun _=>.one rfl) h
   .cases h
  .split at h
   .split at h
    .exact .mapE (fun _=>(A7.marks _).append (.one rfl)) h
    .cases h
   .split at h
    .exact .mapE (fun _=>.one rfl) h
    .cases h
   .cases h
  .cases h
theorem A7.mapPut{t:Option TI}{m k:AV}(h:mapPut T g t m k v=some eff):A7 eff.δ:=by
 unfold Abs.mapPut at h;split at h
 .cases h
 .split at h
  .split at h
   .split at h
    .cases h;exact .one rfl
    .cases h
   .cases h
  .cases h
theorem A7.evalOp{T:TypeId→Option TI}{e:Nat→AV}{g:G}{n:Id}{op:Op}{eff:Bw}(h:evalOp T e g n op=some eff):A7 eff.δ:=by
 by_cases hw:Um op=true
 .rw[YQ hw h];exact .nil
 cases op<;>simp only[Um,not_true_eq_false]at hw<;>simp only[Abs.evalOp,reduceCtorEq]at h
 case alloc=>unfold Ih at h;split at h
             .split at h<;>cases h;exact .one rfl
             .cases h
 case box=>unfold O1 at h;split at h
           .split at h<;>cases h;exact .one rfl
           .cases h
 case buildSlice=>
  unfold CJ at h;split at h
  .split at h
   .unfold Fe at h;split at h
    .split at h
     .cases h;exact .nil
     .split at h
      .exact .newArr h
      .cases h
    .cases h
   .cases h
  .cases h
 case store=>unfold HT at h;split at h
             .exact .store h
             .cases h
 case makeMap=>unfold GN at h;split at h<;>cases h;exact .one rfl
 case makeSlice=>
  unfold CR at h;split at h
  .split at h
   .split at h
    .unfold FG at h;split at h
     .cases h;exact .nil
     .exact .newArr h
    .cases h
   .cases h
  .cases h
 case insert=>exact .mapPut h
 case mapUpdate=>exact .mapPut h
 case call c=>
  obtain⟨callee,args,ats⟩:=c;unfold JB at h;split at h
  .rename_i b hb;simp only at hb;subst hb;unfold FT at h;split at h
   .simp[Um]at hw
   .split at h
    .unfold Gx at h;split at h
     .split at h
      .exact .appendV h
      .cases h
     .cases h
    .cases h
   .split at h
    .unfold Ik at h;split at h
     .split at h
      .split at h
       .cases h;exact .nil
       .split at h
        .unfold LL at h;split at h
         .split at h
          .split at h
           .exact .mapE (fun _=>.one rfl) h
           .cases h
          .cases h
         .cases h
        .cases h
      .cases h;exact .nil
      .cases h;exact .nil
      .cases h
     .cases h
    .cases h
   .simp[Um]at hw
   .simp[Um]at hw
   .cases h
  .cases h
theorem OM{E:E (Ae×AB)}(hE: ∀c hc,E=.ok (c,hc)→LW W hc)(hr:EB ρ dst st E=.ok st' fp):LW W st'.heap:=by
 unfold EB at hr;split at hr
 .rename_i v hc;simp only[Aw,Ak,Fx.ok.injEq]at hr;obtain⟨rfl,rfl⟩:=hr;exact(hE _ _ rfl).gc
 .simp at hr
 .cases hr
theorem dg(hT:Ct P W K){f:FuncId}{m:Mode}(hL:LW W st.heap)(hr:DW K fr ρ f as dst st m=.ok st' fp):LW W st'.heap:=by
 unfold DW at hr;split at hr
 .exact OM (fun c hc hK=>(hT _ _ _ _ _ _ _ hK).lw (fun _ _ h=>by cases h) hL) hr
 .split at hr
  .rename_i xs hx;simp only[BA]at hr;unfold C3 at hr;split at hr
   .rename_i v hc hK;simp only[Aw]at hr;split at hr
    .simp only[Fx.ok.injEq]at hr;obtain⟨rfl,rfl⟩:=hr;exact hL
    .unfold Gf at hr;split at hr
     .rename_i o ho;simp only[Ak,Fx.ok.injEq]at hr;obtain⟨rfl,rfl⟩:=hr;refine hL.cons ?_;unfold Ba at ho;split at ho
      .split at ho
       .split at ho<;>cases ho;rfl
       .cases ho
      .cases ho
     .simp only[BW]at hr;split at hr
      .simp only[Ak,Fx.ok.injEq]at hr;obtain⟨rfl,rfl⟩:=hr;exact((hT _ _ _ _ _ _ _ hK).lw (fun _ _ h=>by cases h) LW.nil).append (hL.puts (A7.markAll as))
      .cases hr
   .split at hr<;>cases hr
   .cases hr
  .unfold EZ at hr;simp only[BA,BW,Ak]at hr;split at hr
   .unfold Nj at hr;split at hr
    .split at hr
     .simp only[Aw,Fx.ok.injEq]at hr;obtain⟨rfl,rfl⟩:=hr;exact hL
     .cases hr
    .split at hr<;>cases hr
    .cases hr
   .split at hr
    .exact OM (fun c hc hK=>(hT _ _ _ _ _ _ _ hK).lw (fun _ _ h=>by cases h) (hL.puts (A7.markAll as))) hr
    .cases hr
theorem P9{x:Option Bw}(hx: ∀eff,x=some eff→A7 eff.δ)(hL:LW W st.heap)(hr:Cx fr op dst st x=.ok st' fp):LW W st'.heap:=by
 unfold Cx at hr;split at hr
 .simp only[Iy,BW]at hr;split at hr
  .simp only[Aw,Kc,Fx.ok.injEq]at hr;obtain⟨rfl,rfl⟩:=hr;exact hL.puts (hx _ rfl)
  .cases hr
 .cases hr
theorem S4(hT:Ct P W K){ops:Array Oper}(hL:LW W st.heap)(hr:B2 C K fr ops ρ o st=.ok st' fp):LW W st'.heap:=by
 have call: ∀{fv:AV} {args:List AV} {dst:Option Tmp},De C K fr ρ fv args dst st=.ok st' fp→LW W st'.heap:=by
  intro fv args dst hr;unfold De at hr;split at hr
  .unfold Jn at hr;split at hr
   .rename_i r hg;exact OM (fun c hc hK=>(hT _ _ _ _ _ _ _ hK).lw (fun _ _ h=>by cases h;exact hL _ _ hg) hL) hr
   .cases hr
  .simp only[BA]at hr;exact dg hT hL hr
  .cases hr
 unfold B2 at hr;split at hr
 .cases hr
 .simp only[Aw,Fx.ok.injEq]at hr;obtain⟨rfl,rfl⟩:=hr;exact hL
 .unfold Ax at hr;split at hr
  .split at hr
   .exact call hr
   .unfold E3 at hr;split at hr
    .split at hr
     .exact call hr
     .cases hr
    .cases hr
   .rename_i c b hb;refine P9 (fun eff he=>?_) hL hr;exact A7.evalOp (op:=.call _) he
  .unfold FC at hr;split at hr
   .split at hr<;>cases hr
   .cases hr
  .unfold GX at hr;split at hr
   .split at hr
    .simp only[Fx.ok.injEq]at hr;obtain⟨rfl,rfl⟩:=hr;exact hL
    .cases hr
   .cases hr
  .exact P9 (fun eff he=>A7.evalOp he) hL hr
theorem Rp(hT:Ct P W K){ops:Array Oper}(hL:LW W st.heap)(hr:B2 C K fr ops ρ o st=.em v st'):LW W st'.heap:=by
 have raw: ∀{E:E (Ae×AB)} {dst:Option Tmp},(∀c hc,E=.ok (c,hc)→LW W hc)→EB ρ dst st E=.em v st'→LW W st'.heap:=by
  intro E dst hE hr;unfold EB at hr;split at hr
  .simp at hr
  .rename_i v hc;simp only[Ak,Fx.em.injEq]at hr;obtain⟨rfl,rfl⟩:=hr;exact(hE _ _ rfl).gc
  .cases hr
 have plain: ∀{op:Op} {dst:Option Tmp} {x:Option Bw},Cx fr op dst st x=.em v st'→False:=by
  intro op dst x hr;unfold Cx at hr;split at hr
  .simp only[Iy,BW]at hr;split at hr
   .simp at hr
   .cases hr
  .cases hr
 have call: ∀{fv:AV} {args:List AV} {dst:Option Tmp},De C K fr ρ fv args dst st=.em v st'→LW W st'.heap:=by
  intro fv args dst hr;unfold De at hr;split at hr
  .unfold Jn at hr;split at hr
   .rename_i r hg;exact raw (fun c hc hK=>(hT _ _ _ _ _ _ _ hK).lw (fun _ _ h=>by cases h;exact hL _ _ hg) hL) hr
   .cases hr
  .simp only[BA]at hr;unfold DW at hr;split at hr
   .exact raw (fun c hc hK=>(hT _ _ _ _ _ _ _ hK).lw (fun _ _ h=>by cases h) hL) hr
   .split at hr
    .rename_i xs hx;simp only[BA]at hr;unfold C3 at hr;split at hr
     .simp only[Aw]at hr;split at hr
      .cases hr
      .unfold Gf at hr;split at hr
       .simp at hr
       .simp only[BW]at hr;split at hr
        .simp at hr
        .cases hr
     .split at hr
      .simp only[Fx.em.injEq]at hr;obtain⟨rfl,rfl⟩:=hr;exact hL
      .cases hr
     .cases hr
    .unfold EZ at hr;simp only[BA,BW,Ak]at hr;split at hr
     .unfold Nj at hr;split at hr
      .split at hr
       .simp at hr
       .cases hr
      .split at hr
       .simp only[Fx.em.injEq]at hr;obtain⟨rfl,rfl⟩:=hr;exact hL
       .cases hr
      .cases hr
     .split at hr
      .exact raw (fun c hc hK=>(hT _ _ _ _ _ _ _ hK).lw (fun _ _ h=>by cases h) (hL.puts (A7.markAll _))) hr
      .cases hr
  .cases hr
 unfold B2 at hr;split at hr
 .cases hr
 .simp at hr
 .unfold Ax at hr;split at hr
  .split at hr
   .exact call hr
   .unfold E3 at hr;split at hr
    .split at hr
     .exact call hr
     .cases hr
    .cases hr
   .exact(plain hr).elim
  .unfold FC at hr;split at hr
   .split at hr
    .simp only[Fx.em.injEq]at hr;obtain⟨rfl,rfl⟩:=hr;exact hL
    .cases hr
   .cases hr
  .unfold GX at hr;split at hr
   .split at hr<;>cases hr
   .cases hr
  .exact(plain hr).elim
variable{A:Nat→Prop}{P:Program}{mix:List TypeId}{β β' β'':Aj}{w w' w'':World}{M:Nat→Prop}{h h' h'':AB}{π ρ:List Nat}{bi:Option (List Nat)}{nt:NT}{env:Nat→AV}{defs defs':List Df}{a:Act}{ro:Option Nat}{W:Lp→Prop}
def Bn(β:Aj)(π:List Nat)(b:Nat):Prop:= ∀n,b≤n→ER β (n::π)
theorem Im{n m:Nat}{π id:List Nat}(h1:(n::π)<:+id)(h2:(m::π)<:+id):n=m:=by
 obtain⟨t1,e1⟩:=h1;obtain⟨t2,e2⟩:=h2;have:=e1.trans e2.symm;have:=List.append_inj_right' this (by simp);simpa using this
theorem ER.other{n m:Nat}(hf:ER β (m::π))(hne:m≠n)(ho: ∀id,¬(n::π)<:+id→β' id=β id):ER β' (m::π):=fun id hi=>by
 rw[ho id fun h=>hne (Im hi h)];exact hf id hi
theorem Bn.next{n:Nat}(hf:Bn β π n)(ho: ∀id,¬(n::π)<:+id→β' id=β id):Bn β' π (n+1):=
 fun m hm=>(hf m (by omega)).other (by omega) ho
def J0(ops:Array Oper)(e:Nat→AV)(o:Oper):Option Bool:=
 match o.guard with
 |none=>some true
 |some (j,want)=>match((ops[j]?).bind (·.dst)).map e with
  |some (.d (.bool b))=>some (b==want)
  |some (.f8 [])=>some false
  |_=>none
def GA(ops:Array Oper)(j:Nat):Option Tmp:=(ops[j]?).bind fun o=>o.dst
variable{Q':Exit→Act→World→Prop}
theorem NP(hq: ∀e a w,Q e a w→Q' e a w)(h:LetsOut Q):LetsOut Q':=let ⟨a,w,h⟩:=h;⟨a,w,hq _ _ _ h⟩
theorem Ue{F:Fence}{n:Nat}{ops:Array Oper}(hq: ∀e a w,Q e a w→Q' e a w){i:Nat}{K:Act→World→Prop}{a:Act}{w:World}(h:wpOpIn F n P ops Q i K a w):wpOpIn F n P ops Q' i K a w:=by
 unfold wpOpIn at*;split
 .rename_i h0;rw[h0]at h;exact h
 .rename_i o ho;simp only[ho]at h;split
  .rename_i hw;simp only[hw,F3]at h;refine⟨h.1,?_⟩;have h:=h.2;generalize (o.semAt F.round a.eval).run P w=r at*;cases r with
   |ok x w'=>
    cases x<;>simp only[Oper.uponIn]at h⊢ <;>
     first
      |exact h
      |exact⟨h.1,CallsIn.mono h.2 (fun e w'' he=>by cases e<;>first|exact he|exact hq _ _ _ he|exact NP hq he)⟩
      |exact⟨h.1,RoundIn.mono h.2 (fun e w'' he=>by cases e<;>first|exact he|exact hq _ _ _ he|exact NP hq he)⟩
   |halt x w'=>cases x<;>simp only[Oper.uponIn]at h⊢ <;>first|exact h|exact hq _ _ _ h
  .rename_i hw;simp only[hw]at h;exact h
variable{b:Nat}
theorem Bn.next'{i:Nat}(hf:Bn β π (b+i))(ho: ∀id,¬((b+i)::π)<:+id→β' id=β id):Bn β' π (b+(i+1)):=hf.next ho
theorem Bn.mono{c:Nat}(hf:Bn β π b)(h:b≤c):Bn β π c:=fun n hn=>hf n (Hw h hn)
theorem KC{F:Fence}{n:Nat}{ops:Array Oper}(hq: ∀e a w,Q e a w→Q' e a w): ∀{l:List Nat} {a:Act} {w:World},wpOpsIn F n P ops Q l a w→wpOpsIn F n P ops Q' l a w
 |[],a,w,h=>hq _ _ _ h
 |i::l,a,w,h=>by
  rw[wpOpsIn_cons]at h⊢;have:=wpOpIn_mono (K':=wpOpsIn F n P ops Q' l) (fun a w=>KC hq) h;exact Ue hq this
theorem vS{u:Value}(h:VR β w M (.f8 []) u):u=.tuple #[]:=by
 cases h with
 |f8 _ c h1 _=>
  have:c= #[]:=Lc (by simpa using h1.symm);rw[this]
theorem Oa{ops:Array Oper}{e:Nat→AV}{t:Bool}(he:IK β w M e fun t=>a.tmps.getD t Go.undef)(hsz: ∀d j,GA ops j=some d→d<a.tmps.size)(hg:J0 ops e o=some t):
 Region.wanted o (yielded ops a.tmps)=t:=by
 unfold J0 at hg;unfold Region.wanted;split at hg
 .rename_i h0;rw[h0];simpa using hg
 .rename_i j want h0;rw[h0];simp only;cases hd:(ops[j]?).bind (·.dst)with
  |none=>rw[hd]at hg;cases hg
  |some d=>
   rw[hd]at hg;simp only[F1]at hg;split at hg
   .rename_i b hb;simp only[CI]at hb hg;have hv:=he d;rw[hb]at hv;have hv':=Gj hv;have hlt:=hsz d j hd;have:a.tmps[d]? =some (.bool b):=by
     simp only at hv';rw[F5,Dl hlt]at hv';rw[Dl hlt];simpa using hv'
    simp only[yielded,hd,IP,this];rw[←hg];cases b<;>cases want<;>rfl
   .rename_i hb;simp only[CI]at hb hg;have hv:=he d;rw[hb]at hv;have hv':a.tmps.getD d Go.undef=.tuple #[]:=vS hv;have hlt:=hsz d j hd;have:a.tmps[d]? =some (.tuple #[]):=by
     rw[F5,Dl hlt]at hv';rw[Dl hlt];simpa using hv'
    simp only[yielded,hd,IP,this];rw[←hg];rfl
   .cases hg
theorem OW(hC:KN P mix C)(hT:Ct P W K)(hro:fr.v6=false→ro=none){ops:Array Oper}{i:Nat}(hi:ops[i]? =some o)
 (hL:LW W st.heap) (hr:B2 C K fr ops ρ o st=.ok st' fp)   (he:JF st.env.get env2 o.op) (hgd:J0 ops env2 o=J0 ops st.env.get o) (hag:cD fp.rd st.heap.get h2.get)
 (hds: ∀o∈ops,∀d,o.dst=some d→d<nt.n):
 ∃v h2',st'.env=B8 st.env o.dst v∧st'.base=st.base∧(∀id,h2'.get id=f9 fp.wr st'.heap.get h2.get id)∧
  ∀(A:Nat→Prop) (β:Aj) (w:World) (a:Act),HR A β w h2→ER β ρ→KG A β w nt env2 st.defs h2 a→ ∀(next:Act→World→Prop) (Q:Exit→Act→World→Prop),
   (∀a' w',zC A fr.bi ρ nt β w h2 (OJ env2 o.dst v) st'.defs h2' a' w'→next a' w')→wpOpIn (FF ro) 0 P ops Q i next a w:=by
 have hd: ∀d,o.dst=some d→d<nt.n:=hds o (PI hi);have hall: ∀{a:Act},a.tmps.size=nt.n→ ∀d j,GA ops j=some d→d<a.tmps.size:=by
  intro a hsz d j hj;rw[hsz];unfold GA at hj;cases ho:ops[j]? with
  |none=>rw[ho]at hj;cases hj
  |some o'=>rw[ho]at hj;exact hds o' (PI ho) d hj
 unfold B2 at hr;split at hr
 .cases hr
 .rename_i hg;simp only[Aw,Fx.ok.injEq]at hr;obtain⟨rfl,rfl⟩:=hr;refine⟨.f8 [],h2,rfl,rfl,fun id=>(Ub _ _ id).symm,?_⟩;intro A β w a H hf s next Q hn
  have hw:=Oa (ops:=ops) s.env (hall s.sz) (by rw[hgd];exact hg);unfold wpOpIn;simp only[hi,hw];exact⟨fun _ _=>trivial,hn _ _ ⟨β,BQ.refl H,s.put hd (.f8 [] #[] rfl (fun i x v h=>by simp at h))⟩⟩
 .rename_i hg;obtain⟨v,h2',e1,e2,e3,e4⟩:=rN (ro:=ro) (nt:=nt) hC hT hro hL hr he hag hd;refine⟨v,h2',e1,e2,e3,?_⟩;intro A β w a H hf s next Q hn
  have hw:=Oa (ops:=ops) s.env (hall s.sz) (by rw[hgd];exact hg);unfold wpOpIn;simp only[hi,hw,F3];exact e4 A β w a H hf s next Q hn
theorem Q5(hC:KN P mix C)(hT:Ct P W K){ops:Array Oper}{i:Nat}(hi:ops[i]? =some o)
 (hL:LW W st.heap) (hr:B2 C K fr ops ρ o st=.em v st')   (he:JF st.env.get env2 o.op) (hgd:J0 ops env2 o=J0 ops st.env.get o) (hag: ∀id,st.heap.get id=h2.get id)
 (hds: ∀o∈ops,∀d,o.dst=some d→d<nt.n):
 ∃h2',st'.env=st.env∧st'.base=st.base∧st'.defs=st.defs∧(∀id,h2'.get id=st'.heap.get id)∧
  ∀(A:Nat→Prop) (β:Aj) (w:World) (a:Act),HR A β w h2→ER β ρ→KG A β w nt env2 st.defs h2 a→ ∀(next:Act→World→Prop) (Q:Exit→Act→World→Prop),
   (∀a' w' u,TD A fr.bi ρ nt β w h2 env2 st.defs h2' v u a' w'→Q (.panic [{v:=u,recovered:=false}]) a' w')→wpOpIn (FF ro) 0 P ops Q i next a w:=by
 have hall: ∀{a:Act},a.tmps.size=nt.n→ ∀d j,GA ops j=some d→d<a.tmps.size:=by
  intro a hsz d j hj;rw[hsz];unfold GA at hj;cases ho:ops[j]? with
  |none=>rw[ho]at hj;cases hj
  |some o'=>rw[ho]at hj;exact hds o' (PI ho) d hj
 unfold B2 at hr;split at hr
 .cases hr
 .simp at hr
 .rename_i hg;obtain⟨h2',e1,e2,e3,e4,e5⟩:=mI (ro:=ro) (nt:=nt) hC hT hL hr he hag;refine⟨h2',e1,e2,e3,e4,?_⟩;intro A β w a H hf s next Q hn
  have hw:=Oa (ops:=ops) s.env (hall s.sz) (by rw[hgd];exact hg);unfold wpOpIn;simp only[hi,hw,F3];exact e5 A β w a H hf s next Q hn
structure wX(A:Nat→Prop)(bi:Option (List Nat))(π:List Nat)(nt:NT)(β:Aj)(w:World)(h:AB)(st':St)(base:Nat)(β':Aj)(a':Act)(w':World):Prop where
 rt:BQ A bi π β w h β' w' st'.heap
 s:KG A β' w' nt st'.env.get st'.defs st'.heap a'
 fresh:Bn β' π base
def Uv(A:Nat→Prop)(bi:Option (List Nat))(π:List Nat)(nt:NT)(β:Aj)(w:World)(h:AB)(out:Option AV)(st':St)(base:Nat):Exit→Act→World→Prop
 |.normal,a',w'=>out=none∧ ∃β',wX A bi π nt β w h st' base β' a' w'
 |.panic chain,a',w'=> ∃v u β',out=some v∧chain=[{v:=u,recovered:=false}]∧wX A bi π nt β w h st' base β' a' w'∧VR β' w' (MS A β' st'.heap) v u
 |_,_,_=>False
theorem At.refl(g:G)(l:List Id):At g g l:=fun _ _=>rfl
theorem cD.refl(rd:Option (List Id))(g:G):cD rd g g:=by cases rd<;>simp[cD,At]
variable{alone:Nat→Bool}
theorem aE(hC:KN P mix C)(hT:Ct P W K)(hro:fr.v6=false→ro=none){ops:Array Oper}(hds: ∀o∈ops,∀d,o.dst=some d→d<nt.n):
 ∀(l:List Oper) (i:Nat) (st st':St) (fps:List Fp) (out:Option AV),i≤ops.size→ops.toList.drop i=l→LW W st.heap→Cl C K fr ops b alone l i st=.ok ((out,st'),fps)→
  st'.base=st.base∧LW W st'.heap∧ ∀(A:Nat→Prop) (β:Aj) (w:World) (a:Act),HR A β w st.heap→KG A β w nt st.env.get st.defs st.heap a→Bn β fr.π (b+i)→
   wpOpsIn (FF ro) 0 P ops (Uv A fr.bi fr.π nt β w st.heap out st' (b+ops.size)) (List.range' i l.length) a w
 |[],i,st,st',fps,out,hle,hl,hL,hr=>by
  simp only[Cl,E.ok.injEq,FN]at hr;obtain⟨⟨rfl,rfl⟩,rfl⟩:=hr;have hge:ops.size≤i:=by
   have:=congrArg List.length hl;simp at this;omega
  refine⟨rfl,hL,fun A β w a H s hf=>⟨rfl,β,BQ.refl H,s,?_⟩⟩;rw[show ops.size=i by omega];exact hf
 |o::l,i,st,st',fps,out,hle,hl,hL,hr=>by
  have hi:ops[i]? =some o:=by
   have:=congrArg (fun x:List Oper=>x[0]?) hl;simpa using this
  have hlt:i<ops.size:=(HW.1 hi).1;have hl':ops.toList.drop (i+1)=l:=by
   have:=congrArg List.tail hl;simpa[List.tail_drop]using this
  simp only[Cl,HN]at hr;simp only[Gc,List.range'_succ,wpOpsIn_cons];split at hr
  .rename_i st1 fp hs;cases hrest:Cl C K fr ops b alone l (i+1) st1 with
   |err e=>rw[hrest]at hr;cases hr
   |ok r=>
    rw[hrest]at hr;obtain⟨⟨out',st2⟩,fps'⟩:=r;simp only[TR,E.ok.injEq,FN]at hr;obtain⟨⟨rfl,rfl⟩,rfl⟩:=hr;obtain⟨v,h2',e1,e2,e3,e4⟩:=OW (ro:=ro) hC hT hro hi hL hs (env2:=st.env.get) (h2:=st.heap) (fun _ _=>rfl) rfl (cD.refl _ _) hds;have hh: ∀id,h2'.get id=st1.heap.get id:=fun id=>by rw[e3,(Mb hs).1]
    obtain⟨hb,hL2,ih⟩:=aE hC hT hro hds l (i+1) st1 st2 fps' out' hlt hl' (S4 hT hL hs) hrest;refine⟨by rw[hb,e2],hL2,fun A β w a H s hf=>?_⟩;refine e4 A β w a H (hf (b+i) (El _)) s _ _ fun a1 w1 ⟨β1,g1,s1⟩=>?_;have g1':BQ A fr.bi fr.π β w st.heap β1 w1 st1.heap:=by
     have:=g1.up (EM _ _);exact⟨this.out,this.hr.congr hh,by rw[←MS.congr hh];exact this.ge,fun ρ h1 h2=>by
      obtain⟨k1,k2,k3⟩:=this.kept ρ h1 h2;exact⟨k1,k2,fun id hid=>by rw[←hh];exact k3 id hid⟩⟩
    have s1':KG A β1 w1 nt st1.env.get st1.defs st1.heap a1:=by
     have:=s1.congr hh;rw[e1,Xv];exact this
    have:=ih A β1 w1 a1 g1'.hr s1' ((hf.next' g1.out));refine KC ?_ this;intro e a2 w2 hp;cases e with
    |normal=>
     obtain⟨h1,β2,L⟩:=hp;exact⟨h1,β2,g1'.trans L.rt,L.s,L.fresh⟩
    |panic chain=>
     obtain⟨v,u,β2,h1,h2,L,h3⟩:=hp;exact⟨v,u,β2,h1,h2,⟨g1'.trans L.rt,L.s,L.fresh⟩,h3⟩
    |_=>exact hp.elim
  .rename_i v st1 hs;split at hr
   .simp only[E.ok.injEq,FN]at hr;obtain⟨⟨rfl,rfl⟩,rfl⟩:=hr;obtain⟨h2',e1,e2,e3,e4,e5⟩:=Q5 (ro:=ro) hC hT hi hL hs (env2:=st.env.get) (h2:=st.heap) (fun _ _=>rfl) rfl (fun _=>rfl) hds;refine⟨e2,Rp hT hL hs,fun A β w a H s hf=>?_⟩;refine e5 A β w a H (hf (b+i) (El _)) s _ _ fun a1 w1 u ⟨β1,g1,s1,hv⟩=>?_;have g1':BQ A fr.bi fr.π β w st.heap β1 w1 st1.heap:=by
     have:=g1.up (EM _ _);exact⟨this.out,this.hr.congr e4,by rw[←MS.congr e4];exact this.ge,fun ρ h1 h2=>by
      obtain⟨k1,k2,k3⟩:=this.kept ρ h1 h2;exact⟨k1,k2,fun id hid=>by rw[←e4];exact k3 id hid⟩⟩
    refine⟨v,u,β1,rfl,rfl,⟨g1',?_,?_⟩,?_⟩
    .rw[e1,e3];exact s1.congr e4
    .exact(hf.next' g1.out).mono (by omega)
    .rw[←MS.congr e4];exact hv
   .cases hr
  .cases hr
variable{A:Nat→Prop}{P:Program}{mix:List TypeId}{β β' β'':Aj}{w w' w'':World}{M:Nat→Prop}{h h' h'':AB}{π ρ:List Nat}{bi:Option (List Nat)}{nt:NT}{env:Nat→AV}{defs defs':List Df}{a:Act}{ro:Option Nat}{W:Lp→Prop}
def bits(acc:Nat→Nat):List Edge→Nat
 |[]=>0
 |e::l=>match Region.binds .any e with
  |true=>bits acc l|||2 ^ e.on|||acc e.on
  |false=>bits acc l
def KU:List Oper→List Nat→List Nat
 |[],acc=>acc
 |o::l,acc=>KU l (acc++[bits (fun k=>acc.getD k 0) o.after.toList])
theorem Ny{acc:Nat→Nat}{i:Nat}: ∀{l:List Edge},(bits acc l).testBit i=true→ ∃e∈l,Region.binds .any e=true∧(e.on=i∨(acc e.on).testBit i=true)
 |[],h=>by simp[bits]at h
 |e::l,h=>by
  simp only[bits]at h;split at h
  .rename_i hb;simp only[Nat.testBit_or,I8]at h;rcases h with(h|h)|h
   .obtain⟨e',h1,h2⟩:=Ny h;exact⟨e',by simp[h1],h2⟩
   .exact⟨e,by simp,hb,.inl (by simpa[Nat.testBit_two_pow]using h)⟩
   .exact⟨e,by simp,hb,.inr h⟩
  .obtain⟨e',h1,h2⟩:=Ny h;exact⟨e',by simp[h1],h2⟩
theorem Pv: ∀(l:List Oper) (acc:List Nat) (k:Nat),k<acc.length→(KU l acc).getD k 0=acc.getD k 0
 |[],acc,k,_=>rfl
 |o::l,acc,k,h=>by
  simp only[KU];rw[Pv l _ k (by simp;omega)];simp[Bv h]
theorem R6: ∀(l:List Oper) (acc:List Nat) (j:Nat) (o:Oper),l[j]? =some o→
 ∃f:Nat→Nat,(KU l acc).getD (acc.length+j) 0=bits f o.after.toList∧ ∀k,f k=(KU l acc).getD k 0∨f k=0
 |[],acc,j,o,h=>by simp at h
 |x::l,acc,0,o,h=>by
  simp at h;subst h;refine⟨fun k=>acc.getD k 0,?_,fun k=>?_⟩
  .simp only[KU];rw[Pv l _ _ (by simp)];simp
  .by_cases hk:k<acc.length
   .left;exact(Pv (x::l) acc k hk).symm
   .right;simp[NO (Nat.le_of_not_lt hk)]
 |x::l,acc,j+1,o,h=>by
  simp at h;obtain⟨f,h1,h2⟩:=R6 l (acc++[bits (fun k=>acc.getD k 0) x.after.toList]) j o h;refine⟨f,?_,h2⟩;rw[←h1];simp only[KU,D9,IF];congr 1;omega
def jG(B:List Nat)(i j:Nat):Bool:=(B.getD j 0).testBit i
theorem XG{ops:Array Oper}{i j:Nat}(hj:ops[j]? =some o)(h:jG (KU ops.toList []) i j=true):
 ∃e∈o.after,Region.binds .any e=true∧(e.on=i∨jG (KU ops.toList []) i e.on=true):=by
 obtain⟨f,h1,h2⟩:=R6 ops.toList [] j o (by simpa using hj);unfold jG at h;simp only[Io,I9]at h1;rw[h1]at h;obtain⟨e,he,hb,h3⟩:=Ny h;refine⟨e,by simpa using he,hb,h3.imp (fun h=>h) fun h3=>?_⟩;rcases h2 e.on with h4|h4
 .unfold jG;rw[←h4];exact h3
 .rw[h4]at h3;simp at h3
def yj(op:Op):List Tmp:=op.operands.toList.filterMap fun|.tmp t=>some t|_=>none
def WY(ops:Array Oper)(o:Oper):List Tmp:=match o.guard with
 |some (j,_)=>match GA ops j with|some t=>[t]|none=>[]
 |none=>[]
def Ld(ops:Array Oper)(o:Oper):List Tmp:=o.dst.toList++yj o.op++WY ops o
def aB(d:Option Tmp)(l:List Tmp):Bool:=match d with
 |some t=>l.all fun x=> !Nat.beq x t
 |none=>true
theorem Kt{d:Option Tmp}{l:List Tmp}(h:aB d l=true){t:Tmp}(hd:d=some t):t∉l:=by
 subst hd;intro ht;have:=CO.1 h t ht;simp at this
def Vu(ops:Array Oper)(x y:Oper):Bool:=aB x.dst (Ld ops y)&&aB y.dst (Ld ops x)
def cy(x y:Op):Bool:=(Um x||pq y)&&(pq x||Um y)&&(Um x||Um y)
def aH(ops:Array Oper)(co:List (Nat×Nat))(x y:Oper)(i j:Nat):Bool:=
 Vu ops x y&&(cy x.op y.op||co.any fun p=>Nat.beq p.1 i&&Nat.beq p.2 j)
def Tm:Op→Bool
 |.defer _=>true
 |_=>false
def pw(ops:Array Oper)(co:List (Nat×Nat))(alone:Nat→Bool):Bool:=
 let B:=KU ops.toList []
 (List.range ops.size).all fun j=>match ops[j]? with
  |none=>false
  |some y=> !Tm y.op&&y.after.toList.all (fun e=> !Region.binds .any e||Nat.blt e.on j)&&
   (List.range j).all (fun i=>match ops[i]? with
    |none=>false
    |some x=>(jG B i j||aH ops co x y i j)&&(!(alone i||alone j)||jG B i j))
structure Pg(ops:Array Oper)(co:List (Nat×Nat))(alone:Nat→Bool):Prop where
 noDef: ∀(j:Nat) (y:Oper),ops[j]? =some y→ ∀c,y.op≠ .defer c
 back: ∀(j:Nat) (y:Oper),ops[j]? =some y→ ∀e∈y.after,Region.binds .any e=true→e.on<j
 pair: ∀(i j:Nat) (x y:Oper),i<j→ops[i]? =some x→ops[j]? =some y→jG (KU ops.toList []) i j=true∨
  (Vu ops x y=true∧(cy x.op y.op=true∨(i,j)∈co))
 alone: ∀(i j:Nat) (x y:Oper),i<j→ops[i]? =some x→ops[j]? =some y→(alone i=true∨alone j=true)→jG (KU ops.toList []) i j=true
theorem bj{ops:Array Oper}{co:List (Nat×Nat)}(h:pw ops co alone=true):Pg ops co alone:=by
 unfold pw at h;have each: ∀(j:Nat) (y:Oper),ops[j]? =some y→Tm y.op=false∧(∀e∈y.after,Region.binds .any e=true→e.on<j)∧
  ∀(i:Nat) (x:Oper),i<j→ops[i]? =some x→(jG (KU ops.toList []) i j||aH ops co x y i j)=true∧(!(alone i||alone j)||jG (KU ops.toList []) i j)=true:=by
  intro j y hy;have hlt:j<ops.size:=(HW.1 hy).1;have:=CO.1 h j (Pm.2 hlt);simp only[hy,AS,I1]at this;obtain⟨⟨h1,h2⟩,h3⟩:=this;refine⟨h1,fun e he hb=>?_,fun i x hi hx=>?_⟩
  .have:=CO.1 h2 e (by simpa using he);simpa[hb,Nat.blt_eq]using this
  .have:=CO.1 h3 i (Pm.2 hi);simp only[hx,AS]at this;exact this
 refine⟨fun j y hy c hc=>?_,fun j y hy=>(each j y hy).2.1,fun i j x y hij hx hy=>?_,fun i j x y hij hx hy ha=>?_⟩
 .have:=(each j y hy).1;simp[hc,Tm]at this
 .have:=((each j y hy).2.2 i x hij hx).1;rw[I8]at this;refine this.imp (fun h=>h) fun h=>?_;unfold aH at h;simp only[AS,I8,RW]at h;refine⟨h.1,h.2.imp (fun h=>h) ?_⟩;rintro⟨p,hp,h1,h2⟩;have e1:=Co h1;have e2:=Co h2;rw[←e1,←e2];exact hp
 .have:=((each j y hy).2.2 i x hij hx).2;rcases ha with ha|ha<;>simpa[ha]using this
theorem Qy{C:CA}{K:AJ}{fr:Fr}{ops:Array Oper}{b:Nat}{alone:Nat→Bool}:
 ∀(l:List Oper) (i:Nat) (st st':St) (fps:List Fp) (out:Option AV),i≤ops.size→ops.toList.drop i=l→Cl C K fr ops b alone l i st=.ok ((out,st'),fps)→
  ∃(S:Nat→St) (F:Nat→Fp) (m:Nat),i≤m∧m≤ops.size∧S i=st∧
   (∀k,i≤k→k<m→ ∃o,ops[k]? =some o∧B2 C K fr ops ((b+k)::fr.π) o (S k)=.ok (S (k+1)) (F k)∧fps[k-i]? =some (F k))∧
   ((out=none∧m=ops.size∧S m=st')∨ ∃v o,out=some v∧m<ops.size∧alone m=true∧ops[m]? =some o∧B2 C K fr ops ((b+m)::fr.π) o (S m)=.em v st')
 |[],i,st,st',fps,out,hle,hl,hr=>by
  simp only[Cl,E.ok.injEq,FN]at hr;obtain⟨⟨rfl,rfl⟩,rfl⟩:=hr;have hge:ops.size≤i:=by
   have:=congrArg List.length hl;simp at this;omega
  exact⟨fun _=>st,fun _=>{},i,El _,hle,rfl,fun k h1 h2=>by omega,.inl ⟨rfl,by omega,rfl⟩⟩
 |o::l,i,st,st',fps,out,hle,hl,hr=>by
  have hi:ops[i]? =some o:=by
   have:=congrArg (fun x:List Oper=>x[0]?) hl;simpa using this
  have hlt:i<ops.size:=(HW.1 hi).1;have hl':ops.toList.drop (i+1)=l:=by
   have:=congrArg List.tail hl;simpa[List.tail_drop]using this
  simp only[Cl,HN]at hr;split at hr
  .rename_i st1 fp hs;cases hrest:Cl C K fr ops b alone l (i+1) st1 with
   |err e=>rw[hrest]at hr;cases hr
   |ok r=>
    rw[hrest]at hr;obtain⟨⟨out',st2⟩,fps'⟩:=r;simp only[TR,E.ok.injEq,FN]at hr;obtain⟨⟨rfl,rfl⟩,rfl⟩:=hr;obtain⟨S,F,m,h1,h2,h3,h4,h5⟩:=Qy l (i+1) st1 st2 fps' out' hlt hl' hrest;refine⟨fun k=>if k=i then st else S k,fun k=>if k=i then fp else F k,m,by omega,h2,D7 rfl,fun k hk1 hk2=>?_,?_⟩
    .by_cases e:k=i
     .subst e;refine⟨o,hi,?_,by simp⟩;simp only[F3,D3 (show¬k+1=k by omega),h3];exact hs
     .obtain⟨o',g1,g2,g3⟩:=h4 k (by omega) hk2;refine⟨o',g1,?_,?_⟩
      .simp only[D3 e,D3 (show¬k+1=i by omega)];exact g2
      .rw[show k-i=(k-(i+1))+1 by omega];simp only[D3 e,GC];exact g3
    .simp only[D3 (show¬m=i by omega)];exact h5
  .rename_i v st1 hs;split at hr
   .rename_i ha;simp only[E.ok.injEq,FN]at hr;obtain⟨⟨rfl,rfl⟩,rfl⟩:=hr;exact⟨fun _=>st,fun _=>{},i,El _,hle,rfl,fun k h1 h2=>by omega,.inr ⟨v,o,rfl,hlt,ha,hi,hs⟩⟩
   .cases hr
  .cases hr
section mixed
variable(ops:Array Oper)(S:Nat→St)(F:Nat→Fp)
def Hy(D:Nat→Bool):Nat→Nat→AV
 |0=>(S 0).env.get
 |k+1=>fun t=>if D k=true∧GA ops k=some t then(S (k+1)).env.get t else Hy D k t
def GD(D:Nat→Bool):Nat→G
 |0=>(S 0).heap.get
 |k+1=>fun id=>if D k=true then f9 (F k).wr (S (k+1)).heap.get (GD D k) id else GD D k id
def Uu(wr:Option (List Id))(id:Id):Prop:= ∃l,wr=some l∧id∉l
end mixed
variable{ops:Array Oper}{S:Nat→St}{F:Nat→Fp}{D:Nat→Bool}
variable{t:Tmp}
theorem PQ{m:Nat}(hS: ∀k,k<m→ ∃v,(S (k+1)).env=B8 (S k).env (GA ops k) v): ∀{i:Nat},i≤m→(∀j,j<i→GA ops j=some t→D j=true)→Hy ops S D i t=(S i).env.get t
 |0,_,_=>rfl
 |i+1,hi,h=>by
  simp only[Hy];split
  .rfl
  .rename_i hn;obtain⟨v,hv⟩:=hS i hi;have hne:GA ops i≠some t:=fun e=>hn ⟨h i (by omega) e,e⟩;rw[PQ hS (by omega) fun j hj=>h j (by omega),hv,Xv];unfold OJ;split
   .rename_i d hd;have:d≠t:=fun e=>hne (e▸hd);simp[this]
   .rfl
theorem QD{i:Nat}: ∀{n:Nat},(∀j,i≤j→j<i+n→GA ops j=some t→D j=false)→Hy ops S D (i+n) t=Hy ops S D i t
 |0,_=>rfl
 |n+1,h=>by
  rw[←PL];simp only[Hy];rw[D3 (by rintro⟨h1,h2⟩;rw[h (i+n) (by omega) (by omega) h2]at h1;cases h1)];exact QD fun j h1 h2=>h j h1 (by omega)
theorem E9{wr:Option (List Id)}{id:Id}(h:Uu wr id)(new old:G):f9 wr new old id=old id:=by
 obtain⟨l,rfl,hl⟩:=h;simp[f9,hl]
theorem Uc(wr:Option (List Id))(id:Id):Uu wr id∨ ∀new old:G,f9 wr new old id=new id:=by
 cases wr with
 |none=>exact .inr fun _ _=>rfl
 |some l=>
  by_cases h:id∈l
  .exact .inr fun _ _=>by simp[f9,h]
  .exact .inl ⟨l,rfl,h⟩
theorem NF{m:Nat}{id:Id}(hS: ∀k,k<m→f9 (F k).wr (S (k+1)).heap.get (S k).heap.get id=(S (k+1)).heap.get id): ∀{i:Nat},i≤m→(∀j,j<i→D j=false→Uu (F j).wr id)→GD S F D i id=(S i).heap.get id
 |0,_,_=>rfl
 |i+1,hi,h=>by
  have ih:=NF hS (i:=i) (by omega) fun j hj=>h j (by omega);have hs:=hS i hi;simp only[GD];split
  .rcases Uc (F i).wr id with hn|hw
   .rw[E9 hn,ih,←hs,E9 hn]
   .exact hw _ _
  .rename_i hD;have hn:=h i (by omega) (by simpa using hD);rw[ih,←hs,E9 hn]
theorem LY{id:Id}{i:Nat}: ∀{n:Nat},(∀j,i≤j→j<i+n→D j=true→Uu (F j).wr id)→GD S F D (i+n) id=GD S F D i id
 |0,_=>rfl
 |n+1,h=>by
  rw[←PL];simp only[GD];split
  .rename_i hD;rw[E9 (h (i+n) (by omega) (by omega) hD)];exact LY fun j h1 h2=>h j h1 (by omega)
  .exact LY fun j h1 h2=>h j h1 (by omega)
def L5(D:Nat→Bool)(i:Nat):Nat→Bool:=fun k=>D k||Nat.beq k i
theorem HZ(D:Nat→Bool)(i:Nat):L5 D i i=true:=by simp[L5]
theorem HG(D:Nat→Bool){i k:Nat}(h:k≠i):L5 D i k=D k:=by simp[L5,h]
theorem L8{i:Nat}{t:Tmp}(h:GA ops i≠some t): ∀n,Hy ops S (L5 D i) n t=Hy ops S D n t
 |0=>rfl
 |n+1=>by
  simp only[Hy,L8 h n];by_cases e:n=i
  .subst e;simp[h]
  .rw[HG D e]
theorem IZ{i:Nat}{id:Id}(h:Uu (F i).wr id)(hi:D i=false): ∀n,GD S F (L5 D i) n id=GD S F D n id
 |0=>rfl
 |n+1=>by
  simp only[GD];by_cases e:n=i
  .subst e;rw[HZ,hi];simp only[F3,D8,AM];rw[E9 h];exact IZ h hi n
  .rw[HG D e];rcases Uc (F n).wr id with hn|hw
   .rw[E9 hn,E9 hn,IZ h hi n]
   .rw[hw,hw,IZ h hi n]
theorem N0{i:Nat}(hi:D i=false): ∀{n:Nat},i<n→((List.range n).countP fun k=> !L5 D i k)<(List.range n).countP fun k=> !D k
 |0,h=>by omega
 |n+1,h=>by
  have mono: ∀n,((List.range n).countP fun k=> !L5 D i k)≤(List.range n).countP fun k=> !D k:=fun n=>
   List.countP_mono_left fun k _ hk=>by
    simp only[L5,Bool.not_or,AS]at hk;exact hk.1
  simp only[List.range_succ,List.countP_append,List.countP_singleton];by_cases e:n=i
  .subst e;rw[HZ,hi];have:=mono n;simp;omega
  .rw[HG D e];have:=N0 hi (show i<n by omega);omega
variable{A:Nat→Prop}{P:Program}{mix:List TypeId}{β β' β'':Aj}{w w' w'':World}{M:Nat→Prop}{h h' h'':AB}{π ρ:List Nat}{bi:Option (List Nat)}{nt:NT}{env:Nat→AV}{defs defs':List Df}{a:Act}{ro:Option Nat}{W:Lp→Prop}
def kn(x:Option (List Id))(id:Id):Prop:=x=none∨ ∃l,x=some l∧id∈l
theorem ux(x:Option (List Id))(id:Id):Uu x id∨kn x id:=by
 cases x with
 |none=>exact .inr (.inl rfl)
 |some l=>
  by_cases h:id∈l
  .exact .inr (.inr ⟨l,rfl,h⟩)
  .exact .inl ⟨l,rfl,h⟩
variable{x y:Option (List Id)}
theorem Pt(h:apart x y=true){id:Id}(hx:kn x id):Uu y id:=by
 unfold apart at h;split at h
 .rcases hx with hx|⟨l,hl,hi⟩
  .cases hx
  .cases hl;cases hi
 .exact⟨[],rfl,by simp⟩
 .rename_i l m _ _;rcases hx with hx|⟨l',hl,hi⟩
  .cases hx
  .cases hl;refine⟨m,rfl,fun hm=>?_⟩;have:=CO.1 h id hi;simp at this;exact this hm
 .cases h
theorem U1(h:apart x y=true){id:Id}(hy:kn y id):Uu x id:=by
 unfold apart at h;split at h
 .exact⟨[],rfl,by simp⟩
 .rcases hy with hy|⟨l,hl,hi⟩
  .cases hy
  .cases hl;cases hi
 .rename_i l m _ _;rcases hy with hy|⟨l',hl,hi⟩
  .cases hy
  .cases hl;refine⟨l,rfl,fun hm=>?_⟩;have:=CO.1 h id hm;simp at this;exact this hi
 .cases h
theorem wc{rd:Option (List Id)}{g g2:G}(h: ∀id,kn rd id→g id=g2 id):cD rd g g2:=by
 cases rd with
 |none=>exact fun id=>h id (.inl rfl)
 |some l=>exact fun id hi=>h id (.inr ⟨l,rfl,hi⟩)
theorem KS(y:Option (List Id)):apart (some []) y=true:=rfl
theorem KT(x:Option (List Id)):apart x (some [])=true:=by
 cases x with
 |none=>rfl
 |some l=>cases l<;>rfl
theorem YI{C:CA}{K:AJ}{fr:Fr}{ops:Array Oper}{x y:Oper}{s1 s2 s1' s2':St}{a b:Fp}{ρ1 ρ2:List Nat}(h:cy x.op y.op=true)(hx:B2 C K fr ops ρ1 x s1=.ok s1' a)(hy:B2 C K fr ops ρ2 y s2=.ok s2' b):
 a.apart b=true:=by
 obtain⟨x1,x2⟩:=S3 hx;obtain⟨y1,y2⟩:=S3 hy;unfold cy at h;simp only[AS,I8]at h;obtain⟨⟨h1,h2⟩,h3⟩:=h;unfold Fp.apart;simp only[AS];refine⟨⟨?_,?_⟩,?_⟩
 .rcases h1 with h|h
  .rw[x2 h];exact KS _
  .rw[y1 h];exact KT _
 .rcases h2 with h|h
  .rw[x1 h];exact KS _
  .rw[y2 h];exact KT _
 .rcases h3 with h|h
  .rw[x2 h];exact KS _
  .rw[y2 h];exact KT _
variable{o:Oper}
theorem L7{ops:Array Oper}{i:Nat}(h:ops[i]? =some o):GA ops i=o.dst:=by simp[GA,h]
def Iu(ops:Array Oper)(D:Nat→Bool):Prop:= ∀(j:Nat) (y:Oper),ops[j]? =some y→D j=true→ ∀e∈y.after,Region.binds .any e=true→D e.on=true
variable{co:List (Nat×Nat)}{alone:Nat→Bool}
theorem Hs{ops:Array Oper}{D:Nat→Bool}(hreg:Pg ops co alone)(hc:Iu ops D): ∀(j:Nat),D j=true→ ∀i,jG (KU ops.toList []) i j=true→j<ops.size→D i=true:=by
 intro j;induction j using Nat.strongRecOn with
 |_ j ih=>
  intro hj i ho hlt;have hy:ops[j]? =some ops[j]:=Dl hlt;obtain⟨e,he,hb,h1⟩:=XG hy ho;have hd:=hc j _ hy hj e he hb;have hl:=hreg.back j _ hy e he hb;rcases h1 with rfl|h1
  .exact hd
  .exact ih e.on hl hd i h1 (by omega)
theorem Lh{ops:Array Oper}{D:Nat→Bool}(hreg:Pg ops co alone)(hc:Iu ops D){i:Nat}(hi:ops[i]? =some o)(hr: ∀e∈o.after,Region.binds .any e=true→D e.on=true)
 {j:Nat} (ho:jG (KU ops.toList []) j i=true):D j=true:=by
 obtain⟨e,he,hb,h1⟩:=XG hi ho;have hd:=hr e he hb;have hl:=hreg.back i _ hi e he hb;have hlt:i<ops.size:=(HW.1 hi).1;rcases h1 with rfl|h1
 .exact hd
 .exact Hs hreg hc e.on hd j h1 (by omega)
structure vr(W:Lp→Prop)(C:CA)(K:AJ)(fr:Fr)(ops:Array Oper)(b:Nat)(co:List (Nat×Nat))(alone:Nat→Bool)(S:Nat→St)(F:Nat→Fp)(m:Nat):Prop where
 le:m≤ops.size
 step: ∀k,k<m→ ∃o,ops[k]? =some o∧B2 C K fr ops ((b+k)::fr.π) o (S k)=.ok (S (k+1)) (F k)
 env: ∀k,k<m→ ∃v,(S (k+1)).env=B8 (S k).env (GA ops k) v
 f9: ∀id k,k<m→f9 (F k).wr (S (k+1)).heap.get (S k).heap.get id=(S (k+1)).heap.get id
 defs: ∀k,k≤m→(S k).defs=(S 0).defs
 lw: ∀k,k≤m→LW W (S k).heap
 base: ∀k,k≤m→(S k).base=(S 0).base
 apart: ∀(i j:Nat),i<j→j<m→jG (KU ops.toList []) i j=true∨(F i).apart (F j)=true
variable{C:CA}{K:AJ}{fr:Fr}{ops:Array Oper}{b m:Nat}{co:List (Nat×Nat)}{alone:Nat→Bool}{S:Nat→St}{F:Nat→Fp}{D:Nat→Bool}
variable{fps:List Fp}
theorem yg(hC:KN P mix C)(hT:Ct P W K)(hro:fr.v6=false→ro=none)(hreg:Pg ops co alone)(hds: ∀o∈ops,∀d,o.dst=some d→d<nt.n)(hp:DC fps co=true)(hle:m≤ops.size)(hL:LW W (S 0).heap)
 (hst: ∀k,k<m→ ∃o,ops[k]? =some o∧B2 C K fr ops ((b+k)::fr.π) o (S k)=.ok (S (k+1)) (F k)∧fps[k]? =some (F k)):vr W C K fr ops b co alone S F m:=by
 have hlw: ∀k,k≤m→LW W (S k).heap:=by
  intro k;induction k with
  |zero=>intro _;exact hL
  |succ k ih=>
   intro hk;obtain⟨o,h1,h2,h3⟩:=hst k hk;exact S4 hT (ih (by omega)) h2
 have hone: ∀k,k<m→(∃v,(S (k+1)).env=B8 (S k).env (GA ops k) v)∧(S (k+1)).base=(S k).base∧(S (k+1)).defs=(S k).defs:=by
  intro k hk;obtain⟨o,h1,h2,h3⟩:=hst k hk;obtain⟨v,h2',e1,e2,_⟩:=OW (ro:=ro) hC hT hro h1 (hlw k (by omega)) h2 (env2:=(S k).env.get) (h2:=(S k).heap) (fun _ _=>rfl) rfl (cD.refl _ _) hds;exact⟨⟨v,by rw[L7 h1];exact e1⟩,e2,(Mb h2).2 (hreg.noDef k o h1)⟩
 have hdef: ∀k,k≤m→(S k).defs=(S 0).defs:=by
  intro k;induction k with
  |zero=>intro _;rfl
  |succ k ih=>intro hk;rw[(hone k hk).2.2,ih (by omega)]
 have hbase: ∀k,k≤m→(S k).base=(S 0).base:=by
  intro k;induction k with
  |zero=>intro _;rfl
  |succ k ih=>intro hk;rw[(hone k hk).2.1,ih (by omega)]
 refine⟨hle,fun k hk=>let ⟨o,h1,h2,_⟩:=hst k hk;⟨o,h1,h2⟩,fun k hk=>(hone k hk).1,fun id k hk=>?_,hdef,hlw,hbase,fun i j hij hj=>?_⟩
 .obtain⟨o,h1,h2,h3⟩:=hst k hk;exact(Mb h2).1 id
 .obtain⟨x,x1,x2,x3⟩:=hst i (by omega);obtain⟨y,y1,y2,y3⟩:=hst j hj;refine(hreg.pair i j x y hij x1 y1).imp (fun h=>h) ?_;rintro⟨_,h|h⟩
  .exact YI h x2 y2
  .have:=CO.1 hp (i,j) h;simpa[x3,y3]using this
theorem W6(R:vr W C K fr ops b co alone S F m)(hreg:Pg ops co alone)(hc:Iu ops D)(hD: ∀k,D k=true→k<m){i:Nat}{o:Oper}(hi:ops[i]? =some o)(him:i≤m)(hDi:D i=false)
 (hr: ∀e∈o.after,Region.binds .any e=true→D e.on=true) {t:Tmp} (ht:t∈Ld ops o):Hy ops S D m t=(S i).env.get t:=by
 obtain⟨n,rfl⟩: ∃n,m=i+n:=⟨m-i,by omega⟩;have hlt:i<ops.size:=(HW.1 hi).1;rw[QD (fun j h1 h2 h3=>?_),PQ R.env him fun j hj h3=>?_]
 ·
  have hjs:j<ops.size:=by omega
  have hx:ops[j]? =some ops[j]:=Dl hjs;rcases hreg.pair j i _ o hj hx hi with h|⟨h,_⟩
  .exact Lh hreg hc hi hr h
  .unfold Vu at h;simp only[AS]at h;rw[L7 hx]at h3;exact absurd ht (Kt h.1 h3)
 ·
  cases hDj:D j with
  |false=>rfl
  |true=>
   exfalso;by_cases e:j=i
   .subst e;rw[hDi]at hDj;cases hDj
   have hjs:j<ops.size:=by have:=hD j hDj;have:=R.le;omega
   have hy:ops[j]? =some ops[j]:=Dl hjs;rcases hreg.pair i j o _ (by omega) hi hy with h|⟨h,_⟩
   .have:=Hs hreg hc j hDj i h hjs;rw[hDi]at this;cases this
   .unfold Vu at h;simp only[AS]at h;rw[L7 hy]at h3;exact absurd ht (Kt h.2 h3)
theorem yX(R:vr W C K fr ops b co alone S F m)(hreg:Pg ops co alone)(hc:Iu ops D)(hD: ∀k,D k=true→k<m){i:Nat}(hi:ops[i]? =some o)(him:i≤m)(hDi:D i=false)
 (hr: ∀e∈o.after,Region.binds .any e=true→D e.on=true):JF (S i).env.get (Hy ops S D m) o.op∧J0 ops (Hy ops S D m) o=J0 ops (S i).env.get o:=by
 refine⟨fun x hx=>?_,?_⟩
 .cases x with
  |tmp t=>
   refine(W6 R hreg hc hD hi him hDi hr ?_).symm;unfold Ld;refine Ge _ (GO _ ?_);exact List.mem_filterMap.2 ⟨.tmp t,by simpa using hx,rfl⟩
  |_=>rfl
 .unfold J0;cases hg:o.guard with
  |none=>rfl
  |some p=>
   obtain⟨j,want⟩:=p;simp only;have e:((ops[j]?).bind fun x=>x.dst)=GA ops j:=rfl;rw[e];cases hd:GA ops j with
   |none=>rfl
   |some t=>
    simp only[F1];rw[W6 R hreg hc hD hi him hDi hr (t:=t) (by
     unfold Ld;refine GO _ ?_;simp[WY,hg,hd])]
theorem si(R:vr W C K fr ops b co alone S F m)(hreg:Pg ops co alone)(hc:Iu ops D)(hD: ∀k,D k=true→k<m){i:Nat}{o:Oper}(hi:ops[i]? =some o)(him:i<m)(hDi:D i=false)
 (hr: ∀e∈o.after,Region.binds .any e=true→D e.on=true) {id:Id} (ht:kn (F i).rd id):GD S F D m id=(S i).heap.get id:=by
 obtain⟨n,rfl⟩: ∃n,m=i+n:=⟨m-i,by omega⟩;rw[LY (fun j h1 h2 h3=>?_),NF (R.f9 id) (by omega) fun j hj h3=>?_]
 .rcases R.apart j i hj him with h|h
  .have:=Lh hreg hc hi hr h;rw[this]at h3;cases h3
  .unfold Fp.apart at h;simp only[AS]at h;exact U1 h.1.1 ht
 .by_cases e:j=i
  .subst e;rw[hDi]at h3;cases h3
  rcases R.apart i j (by omega) (hD j h3)with h|h
  .have:=Hs hreg hc j h3 i h (by have:=hD j h3;have:=R.le;omega);rw[hDi]at this;cases this
  .unfold Fp.apart at h;simp only[AS]at h;exact Pt h.1.2 ht
theorem ra(R:vr W C K fr ops b co alone S F m)(hreg:Pg ops co alone)(hc:Iu ops D)(hD: ∀k,D k=true→k<m){i:Nat}{o:Oper}(hi:ops[i]? =some o)(him:i<m)(hDi:D i=false){v:AV}
 (hv:(S (i+1)).env=B8 (S i).env o.dst v):OJ (Hy ops S D m) o.dst v=Hy ops S (L5 D i) m:=by
 funext t;cases hd:o.dst with
 |none=>
  simp only[OJ];exact(L8 (by rw[L7 hi,hd];simp) m).symm
 |some d=>
  simp only[OJ];by_cases e:d=t
  .subst e;rw[D7 rfl];obtain⟨n,rfl⟩: ∃n,m=(i+1)+n:=⟨m-(i+1),by omega⟩;rw[QD (fun j h1 h2 h3=>?_)]
   .simp only[Hy,HZ,L7 hi,hd,and_self,F3];rw[hv,hd];simp[B8,CB.get_cons]
   .rw[HG D (by omega)];cases hDj:D j with
    |false=>rfl
    |true=>
     exfalso;have hjs:j<ops.size:=by have:=hD j hDj;have:=R.le;omega
     have hy:ops[j]? =some ops[j]:=Dl hjs;rcases hreg.pair i j o _ (by omega) hi hy with h|⟨h,_⟩
     .have:=Hs hreg hc j hDj i h hjs;rw[hDi]at this;cases this
     .unfold Vu at h;simp only[AS]at h;rw[L7 hy]at h3;refine absurd ?_ (Kt h.2 h3);unfold Ld;exact Ge _ (Ge _ (by simp[hd]))
  .rw[D3 e];exact(L8 (by rw[L7 hi,hd];simpa using e) m).symm
theorem nb(R:vr W C K fr ops b co alone S F m)(hreg:Pg ops co alone)(hc:Iu ops D)(hD: ∀k,D k=true→k<m){i:Nat}(him:i<m)(hDi:D i=false)(id:Id):
 f9 (F i).wr (S (i+1)).heap.get (GD S F D m) id=GD S F (L5 D i) m id:=by
 rcases ux (F i).wr id with hn|hh
 .rw[E9 hn,IZ hn hDi]
 .have hu: ∀new old:G,f9 (F i).wr new old id=new id:=by
   rcases Uc (F i).wr id with hn|h
   .obtain⟨l,h1,h2⟩:=hn;rcases hh with h3|⟨l',h3,h4⟩
    .rw[h1]at h3;cases h3
    .rw[h1]at h3;cases h3;exact absurd h4 h2
   .exact h
  rw[hu];obtain⟨n,rfl⟩: ∃n,m=(i+1)+n:=⟨m-(i+1),by omega⟩;rw[LY (fun j h1 h2 h3=>?_)]
  .simp only[GD,HZ,F3];rw[hu]
  .rw[HG D (by omega)]at h3;rcases R.apart i j (by omega) (hD j h3)with h|h
   .have:=Hs hreg hc j h3 i h (by have:=hD j h3;have:=R.le;omega);rw[hDi]at this;cases this
   .unfold Fp.apart at h;simp only[AS]at h;exact Pt h.2 hh
theorem Yt(hc:Iu ops D){i:Nat}{o:Oper}(hi:ops[i]? =some o)(hr: ∀e∈o.after,Region.binds .any e=true→D e.on=true):Iu ops (L5 D i):=by
 intro j y hy hj e he hb;have up:D e.on=true→L5 D i e.on=true:=fun h=>by simp[L5,h]
 by_cases ej:j=i
 .subst ej;rw[hi]at hy;cases hy;exact up (hr e he hb)
 .rw[HG D ej]at hj;exact up (hc j y hy hj e he hb)
structure Mid(P:Program)(C:CA)(K:AJ)(fr:Fr)(nt:NT)(ops:Array Oper)(b m:Nat)(S:Nat→St)(F:Nat→Fp)(A:Nat→Prop)(β0:Aj)(w0:World)(D:Nat→Bool)(listed:Array Bool)(β:Aj)(w:World)(a:Act)(hc:AB):Prop where
 closed:Iu ops D
 lt: ∀k,D k=true→k<m
 size:listed.size=ops.size
 list: ∀k,k<ops.size→listed[k]? =some (D k)
 heap: ∀id,hc.get id=GD S F D m id
 s:KG A β w nt (Hy ops S D m) (S 0).defs hc a
 rt:BQ A fr.bi fr.π β0 w0 (S 0).heap β w hc
 fresh: ∀i,i<ops.size→D i=false→ER β ((b+i)::fr.π)
 wl:Bn β fr.π (b+ops.size)
theorem wk(hC:KN P mix C)(hT:Ct P W K)(hro:fr.v6=false→ro=none)(hreg:Pg ops co alone)(hds: ∀o∈ops,∀d,o.dst=some d→d<nt.n)(R:vr W C K fr ops b co alone S F m){st':St}{out:Option AV}
 (hend:(out=none∧m=ops.size∧S m=st')∨ ∃v o,out=some v∧m<ops.size∧alone m=true∧ops[m]? =some o∧B2 C K fr ops ((b+m)::fr.π) o (S m)=.em v st') {β0:Aj} {w0:World}:
 ∀(fuel:Nat) (D:Nat→Bool) (listed:Array Bool) (β:Aj) (w:World) (a:Act) (hc:AB),Mid P C K fr nt ops b m S F A β0 w0 D listed β w a hc→((List.range ops.size).countP fun k=> !D k)≤fuel→
  wpAnyIn (FF ro) 0 P .any ops (Uv A fr.bi fr.π nt β0 w0 (S 0).heap out st' (b+ops.size)) fuel listed a w:=by
 have fin: ∀{D:Nat→Bool} {listed:Array Bool} {β:Aj} {w:World} {a:Act} {hc:AB},Mid P C K fr nt ops b m S F A β0 w0 D listed β w a hc→(∀k,k<ops.size→D k=true)→
  Uv A fr.bi fr.π nt β0 w0 (S 0).heap out st' (b+ops.size) .normal a w:=by
  intro D listed β w a hc M hall;rcases hend with⟨rfl,hm,rfl⟩|⟨v,o,_,hm,_⟩
  .have he:Hy ops S D m=(S m).env.get:=by
    funext t;exact PQ R.env (El _) fun j hj _=>hall j (by omega)
   have hh: ∀id,hc.get id=(S m).heap.get id:=fun id=>by
    rw[M.heap];exact NF (R.f9 id) (El _) fun j hj h=>by rw[hall j (by omega)]at h;cases h
   refine⟨rfl,β,⟨M.rt.out,M.rt.hr.congr hh,by rw[←MS.congr hh];exact M.rt.ge,fun ρ h1 h2=>?_⟩,?_,M.wl⟩
   .obtain⟨k1,k2,k3⟩:=M.rt.kept ρ h1 h2;exact⟨k1,k2,fun id hid=>by rw[←hh];exact k3 id hid⟩
   .rw[R.defs m (El _),←he];exact M.s.congr hh
  .have:=M.lt m (hall m hm);omega
 have more: ∀{D:Nat→Bool} {listed:Array Bool} {β:Aj} {w:World} {a:Act} {hc:AB},Mid P C K fr nt ops b m S F A β0 w0 D listed β w a hc→Region.ready .any ops listed=[]→ ∀k,k<ops.size→D k=true:=by
  intro D listed β w a hc M hnil k;induction k using Nat.strongRecOn with
  |_ k ih=>
   intro hk;cases hDk:D k with
   |true=>rfl
   |false=>
    exfalso;have hy:ops[k]? =some ops[k]:=Dl hk;have:k∈Region.ready .any ops listed:=by
     unfold Region.ready;refine List.mem_filter.2 ⟨Pm.2 hk,?_⟩;simp only[hy,F1,GS,AS,I1];refine⟨by rw[F5,M.list k hk,hDk];rfl,?_⟩;rw[Array.all_eq_true_iff_forall_mem];intro e he;cases hb:Region.binds .any e with
     |false=>rfl
     |true=>
      have hl:=hreg.back k _ hy e he hb;simp only[Nl,Ip];rw[F5,M.list e.on (by omega),ih e.on hl (by omega)];rfl
    rw[hnil]at this;cases this
 intro fuel;induction fuel with
 |zero=>
  intro D listed β w a hc M hcount;have hall: ∀k,k<ops.size→D k=true:=by
   intro k hk;cases hDk:D k with
   |true=>rfl
   |false=>
    have:=N0 hDk hk;omega
  refine⟨?_,fin M hall⟩;cases hrd:Region.ready .any ops listed with
  |nil=>rfl
  |cons k l=>
   exfalso;have:k∈Region.ready .any ops listed:=by rw[hrd];simp
   obtain⟨h1,h2⟩:=List.mem_filter.1 this;have hk:=Pm.1 h1;simp only[AS,I1]at h2;have h3:=h2.1;rw[F5,M.list k hk,hall k hk]at h3;cases h3
 |succ fuel ih=>
  intro D listed β w a hc M hcount;refine⟨fun hnil=>fin M (more M hnil),fun i hi=>?_⟩;obtain⟨h1,h2⟩:=List.mem_filter.1 hi;have hlt:=Pm.1 h1;have hy:ops[i]? =some ops[i]:=Dl hlt;generalize ops[i]=o at hy;simp only[hy,F1,GS,AS,I1]at h2;have hDi:D i=false:=by
   have h3:=h2.1;rw[F5,M.list i hlt]at h3;simpa using h3
  have hr: ∀e∈o.after,Region.binds .any e=true→D e.on=true:=by
   intro e he hb;have h3:=(Array.all_eq_true_iff_forall_mem.1 h2.2) e he;have hl:=hreg.back i _ hy e he hb;rw[hb]at h3;simp only[Nl,Ip]at h3;rw[F5,M.list e.on (by omega)]at h3;simpa using h3
  have him:i≤m:=by
   rcases hend with⟨_,hm,_⟩|⟨v,x,_,hm,hal,hx,_⟩
   .omega
   .by_cases e:i≤m
    .exact e
    .exfalso;have:=Lh hreg M.closed hy hr (hreg.alone m i x o (by omega) hx hy (.inl hal));have:=M.lt m this;omega
  obtain⟨hops,hgd⟩:=yX R hreg M.closed M.lt hy him hDi hr;by_cases hm:i<m
  .obtain⟨o',ho',hs⟩:=R.step i hm;rw[hy]at ho';cases ho';have hag:cD (F i).rd (S i).heap.get hc.get:=wc fun id hid=>by
    rw[M.heap,si R hreg M.closed M.lt hy hm hDi hr hid]
   obtain⟨v,h2',e1,e2,e3,e4⟩:=OW (ro:=ro) hC hT hro hy (R.lw i him) hs hops hgd hag hds;have s':KG A β w nt (Hy ops S D m) (S i).defs hc a:=by rw[R.defs i him];exact M.s
   refine e4 A β w a M.rt.hr (M.fresh i hlt hDi) s' _ _ fun a1 w1 ⟨β1,g1,s1⟩=>?_;rw[ra R hreg M.closed M.lt hy hm hDi e1,R.defs (i+1) hm]at s1;have hcnt:=N0 hDi hlt;refine ih (L5 D i) _ β1 w1 a1 h2' ⟨Yt M.closed hy hr,fun k hk=>?_,by simp[M.size],fun k hk=>?_,fun id=>?_,s1,M.rt.trans (g1.up (EM _ _)),fun k hk hDk=>?_,?_⟩ (by omega)
   .by_cases e:k=i
    .omega
    .rw[HG D e]at hk;exact M.lt k hk
   .by_cases e:k=i
    .subst e;rw[HZ];simp[M.size,hlt]
    .rw[HG D e,II (Ne.symm e)];exact M.list k hk
   .rw[e3,←nb R hreg M.closed M.lt hm hDi id];rcases Uc (F i).wr id with hn|hw
    .rw[E9 hn,E9 hn,M.heap]
    .rw[hw,hw]
   .by_cases e:k=i
    .subst e;rw[HZ]at hDk;cases hDk
    .rw[HG D e]at hDk;exact(M.fresh k hk hDk).other (by omega) g1.out
   .exact fun n hn=>(M.wl n hn).other (by omega) g1.out
  ·
   have him':i=m:=by omega
   subst him';rcases hend with⟨_,hm',_⟩|⟨v,x,rfl,hm',hal,hx,hpan⟩
   .omega
   .rw[hy]at hx;cases hx;have hall: ∀j,j<i→D j=true:=fun j hj=>by
     have hjs:j<ops.size:=by omega
     exact Lh hreg M.closed hy hr (hreg.alone j i _ o hj (Dl hjs) hy (.inr hal))
    have he:Hy ops S D i=(S i).env.get:=by
     funext t;exact PQ R.env (El _) fun j hj _=>hall j hj
    have hh: ∀id,(S i).heap.get id=hc.get id:=fun id=>by
     rw[M.heap];exact(NF (R.f9 id) (El _) fun j hj h=>by rw[hall j hj]at h;cases h).symm
    obtain⟨h2',e1,e2,e3,e4,e5⟩:=Q5 (ro:=ro) hC hT hy (R.lw i him) hpan hops hgd hh hds;have s':KG A β w nt (Hy ops S D i) (S i).defs hc a:=by rw[R.defs i him];exact M.s
    refine e5 A β w a M.rt.hr (M.fresh i hlt hDi) s' _ _ fun a1 w1 u ⟨β1,g1,s1,hv⟩=>?_;have g:=M.rt.trans (g1.up (EM _ _));refine⟨v,u,β1,rfl,rfl,⟨⟨g.out,g.hr.congr e4,by rw[←MS.congr e4];exact g.ge,fun ρ h1 h2=>?_⟩,?_,?_⟩,?_⟩
    .obtain⟨k1,k2,k3⟩:=g.kept ρ h1 h2;exact⟨k1,k2,fun id hid=>by rw[←e4];exact k3 id hid⟩
    .rw[e1,e3,←he];exact s1.congr e4
    .exact fun n hn=>(M.wl n hn).other (by omega) g1.out
    .rw[←MS.congr e4];exact hv
theorem rP(hC:KN P mix C)(hT:Ct P W K)(hro:fr.v6=false→ro=none)(hmix:P.follows .mixedOrders=true)(hreg:Pg ops co alone)(hds: ∀o∈ops,∀d,o.dst=some d→d<nt.n){id:Nat}{st st':St}{out:Option AV}(hL:LW W st.heap)
 (hr:Cl C K fr ops b alone ops.toList 0 st=.ok ((out,st'),fps)) (hp:DC fps co=true):
 st'.base=st.base∧LW W st'.heap∧ ∀(A:Nat→Prop) (β:Aj) (w:World) (a:Act),HR A β w st.heap→KG A β w nt st.env.get st.defs st.heap a→Bn β fr.π b→
  (Code.region id ops true).wpIn (FF ro) 0 P (Uv A fr.bi fr.π nt β w st.heap out st' (b+ops.size)) a w:=by
 obtain⟨hb0,hL0,_⟩:=aE (ro:=ro) hC hT hro hds ops.toList 0 st st' fps out (I4 _) rfl hL hr;refine⟨hb0,hL0,fun A β w a H s hf=>?_⟩;obtain⟨S,F,m,h1,h2,rfl,h4,h5⟩:=Qy ops.toList 0 st st' fps out (I4 _) rfl hr;have R:vr W C K fr ops b co alone S F m:=yg (ro:=ro) hC hT hro hreg hds hp h2 hL fun k hk=>h4 k (I4 _) hk;refine wpIn_region_any hmix ?_;have hw:({w with drawn:=w.drawn+1}:World).heap=w.heap:=rfl
 have H':=H.heap hw ⟨rfl,rfl⟩;have hpres:DU A (MS A β (S 0).heap) w (MS A β (S 0).heap) {w with drawn:=w.drawn+1}:=OI hw ⟨rfl,rfl⟩ _
 have e0:Hy ops S (fun _=>false) m=(S 0).env.get:=by
  funext t;have: ∀n,Hy ops S (fun _=>false) n t=(S 0).env.get t:=by
   intro n;induction n with
   |zero=>rfl
   |succ n ih=>simp[Hy,ih]
  exact this m
 have h0: ∀id,(S 0).heap.get id=GD S F (fun _=>false) m id:=by
  intro id;have: ∀n,GD S F (fun _=>false) n id=(S 0).heap.get id:=by
   intro n;induction n with
   |zero=>rfl
   |succ n ih=>simp[GD,ih]
  exact(this m).symm
 refine wk hC hT hro hreg hds R h5 ops.size (fun _=>false) _ β _ a (S 0).heap ⟨fun _ _ _ h=>(by cases h),fun _ h=>(by cases h),by simp,fun k hk=>?_,h0,?_,?_,fun i _ _=>hf _ (by omega),hf.mono (by omega)⟩ ?_
 .simp[Array.getElem?_replicate,hk]
 .rw[e0];exact s.mono (.refl β) hpres
 .exact⟨fun _ _=>rfl,H',hpres,fun _ _ _=>⟨fun _ _ _=>rfl,fun _ h=>.inl h,fun _ _=>rfl⟩⟩
 .exact Hw (List.countP_le_length) (by simp)
variable{A:Nat→Prop}{P:Program}{mix:List TypeId}{β β' β'':Aj}{w w' w'':World}{M:Nat→Prop}{h h' h'':AB}{π ρ:List Nat}{bi:Option (List Nat)}{nt:NT}{env:Nat→AV}{defs defs':List Df}{a:Act}{ro:Option Nat}{W:Lp→Prop}
theorem Dz: ∀{l:List Id} {n:Nat} {x z:Id},DB π l n x=some z→ ∃j t,l[j]? =some x∧z=t::(n+j)::π
 |[],n,x,z,h=>by simp[DB]at h
 |y::l,n,x,z,h=>by
  simp only[DB]at h;split at h
  .rename_i e;rw[Id.is_iff]at e;subst e;simp only[CI]at h;exact⟨0,_,rfl,h.symm⟩
  .obtain⟨j,t,h1,h2⟩:=Dz h;exact⟨j+1,t,by simpa using h1,by rw[h2];congr 2;omega⟩
theorem Ks{l:List Id}{x y z:Id}(h1:DB π l 0 x=some z)(h2:DB π l 0 y=some z):x=y:=by
 obtain⟨j,t,a1,a2⟩:=Dz h1;obtain⟨k,u,b1,b2⟩:=Dz h2;rw[a2]at b2;simp only[Ok,I9,and_true]at b2;rw[b2.2,b1]at a1;exact(Qr a1).symm
theorem Ft(ν:Id→Option Id)(vs:List AV):H8 ν vs=vs.map (Lj ν):=by
 induction vs with
 |nil=>rfl
 |cons v vs ih=>simp[H8,ih]
variable{β2:Aj}{M2:Nat→Prop}{ν:Id→Option Id}
theorem Qv(hν: ∀x z,ν x=some z→β2 z=β x)(hM: ∀b,M2 b→M b){x:AV}{v:Value}(h:VR β w M x v):VR β2 w M2 (Lj ν x) v:=by
 have cells: ∀{cs:List AV} {c:Array Value},(∀(i:Nat) (x:AV) (v:Value),cs[i]? =some x→c[i]? =some v→VR β2 w M2 (Lj ν x) v)→
  ∀(i:Nat) (x:AV) (v:Value),(H8 ν cs)[i]? =some x→c[i]? =some v→VR β2 w M2 x v:=by
  intro cs c ih i x v hx hv;rw[Ft,D5,BI]at hx;obtain⟨y,hy,rfl⟩:=hx;exact ih i y v hy hv
 induction h with
 |d h=>simp only[Lj];exact .d (h.mono (A:=fun _=>False) (E6 hM w))
 |ci=>exact .ci
 |emp a=>exact .emp a
 |d8 id off len k a cap hk hn hl ha=>
  simp only[Lj];split
  .rename_i z hz;exact .d8 z off len k a cap (by rw[hν _ _ hz];exact hk) hn hl ha
  .exact .undef _
 |ptr id off k hk=>
  simp only[Lj];split
  .rename_i z hz;exact .ptr z off k (by rw[hν _ _ hz];exact hk)
  .exact .undef _
 |ip id i off k hk=>
  simp only[Lj];split
  .rename_i z hz;exact .ip z i off k (by rw[hν _ _ hz];exact hk)
  .exact .undef _
 |kw cs b off c elem fr hb hm hl hd=>
  simp only[Lj];exact .kw cs b off c elem fr hb (fun h=>hm (hM _ h)) hl fun i x v h1 h2=>(hd i x v h1 h2).mono (A:=fun _=>False) (E6 hM w)
 |fn f a b a' b' h1 h2 _ _ ih1 ih2=>
  simp only[Lj];exact .fn f _ _ a' b' (by rw[Ft,Bi];exact h1) (by rw[Ft,Bi];exact h2) (cells ih1) (cells ih2)
 |un id k hk=>
  simp only[Lj];split
  .rename_i z hz;exact .un z k (by rw[hν _ _ hz];exact hk)
  .exact .undef _
 |mp id k hk=>
  simp only[Lj];split
  .rename_i z hz;exact .mp z k (by rw[hν _ _ hz];exact hk)
  .exact .undef _
 |iface t v u _ ih=>simp only[Lj];exact .iface t _ u ih
 |agg cs c h1 _ ih=>simp only[Lj];exact .agg _ c (by rw[Ft,Bi];exact h1) (cells ih)
 |f8 cs c h1 _ ih=>simp only[Lj];exact .f8 _ c (by rw[Ft,Bi];exact h1) (cells ih)
 |undef v=>exact .undef v
theorem cU(ν:Id→Option Id)(e:CB)(t:Nat):CB.get (e.map fun p=>(p.1,Lj ν p.2)) t=Lj ν (e.get t):=by
 induction e with
 |nil=>rfl
 |cons p e ih=>
  obtain⟨k,v⟩:=p;simp only[Ci,CB.get_cons,ih];split<;>rfl
theorem vG(hν: ∀x z,ν x=some z→β2 z=β x)(hM: ∀b,M2 b→M b){k:PJ}{o:Obj}(h:KQ β w M k o):KQ β2 w M2 k (H9 ν o):=by
 have dr: ∀{x:AU} {v:Value},DR w M x v→DR w M2 x v:=fun h=>h.mono (A:=fun _=>False) (E6 hM w);cases o with
 |box cs=>
  obtain⟨c,elem,h1,h2⟩:=h;refine⟨c,elem,h1,by rw[Ft,Bi];exact h2.1,fun i x v hx hv=>?_⟩;rw[Ft,D5,BI]at hx;obtain⟨y,hy,rfl⟩:=hx;exact Qv hν hM (h2.2 i y v hy hv)
 |d6 sz es=>obtain⟨c,elem,h1,h2,h3,h4,h5,h6,h7⟩:=h;exact⟨c,elem,h1,h2,h3,h4,h5,h6,fun i x v a b=>dr (h7 i x v a b)⟩
 |it sz es=>
  rcases h with h|⟨hm,c,elem,fr,h1,h2,h3,h4,h5,h6,h7⟩
  .exact .inl h
  .exact .inr ⟨fun h=>hm (hM _ h),c,elem,fr,h1,h2,h3,h4,h5,h6,fun i x v a b=>dr (h7 i x v a b)⟩
 |arr sz es=>
  obtain⟨c,elem,h1,h2,h3,h4,h5,h6,h7⟩:=h;have hfl:(es.map (H8 ν)).flatten=es.flatten.map (Lj ν):=by
   rw[RO];congr 1;exact List.map_congr_left fun x _=>Ft ν x
  refine⟨c,elem,h1,h2,h3,h4,fun e he=>?_,by rw[Bi];exact h6,fun i x v hx hv=>?_⟩
  .obtain⟨y,hy,rfl⟩:=ID.1 he;rw[Ft,Bi];exact h5 y hy
  .rw[hfl,D5,BI]at hx;obtain⟨y,hy,rfl⟩:=hx;exact Qv hν hM (h7 i y v hy hv)
 |map es=>
  obtain⟨en,cl,h1,h2,h3⟩:=h;refine⟨en,cl,h1,by rw[Bi];exact h2,fun i p e hp he=>?_⟩;rw[D5,BI]at hp;obtain⟨y,hy,rfl⟩:=hp;exact⟨dr (h3 i y e hy he).1,Qv hν hM (h3 i y e hy he).2⟩
 |loop r=>
  obtain⟨l,h1,h2,h3,h4,h5,h6,h7,h9,h8⟩:=h;refine⟨l,h1,h2,h3,h4,h5,h6,h7,h9,fun t=>?_⟩;rw[cU];exact Qv hν hM (h8 t)
theorem UK(ν:Id→Option Id)(o:Obj):(H9 ν o).mut=o.mut:=by cases o<;>rfl
theorem EJ{ν:Id→Option Id}: ∀{l:List Id} {z:Id} {o2:Obj},(Cv h ν l).get z=some o2→ ∃x o,h.get x=some o∧ν x=some z∧o2=H9 ν o
 |[],z,o2,hg=>by simp[Cv]at hg
 |x::l,z,o2,hg=>by
  simp only[Cv]at hg;split at hg
  .rename_i o z' h1 h2;rw[AB.get_cons]at hg;split at hg
   .rename_i e;subst e;cases hg;exact⟨x,o,h1,h2,rfl⟩
   .exact EJ hg
  .exact EJ hg
theorem QZ(e:CB): ∀(l:List Nat) (t:Nat),CB.get (l.map fun t=>(t,e.get t)) t=e.get t∨CB.get (l.map fun t=>(t,e.get t)) t=.undef
 |[],t=>.inr rfl
 |k::l,t=>by
  simp only[Ci,CB.get_cons];split
  .rename_i h;subst h;exact .inl rfl
  .exact QZ e l t
theorem lz{C:CA}{fr:Fr}{b:Nat}{st:St}(H:HR A β w st.heap)(s:KG A β w nt st.env.get st.defs st.heap a)(hf:Bn β fr.π st.base)(hown:fr.raw=false→ ∀id,β id≠none→fr.π<:+id):
 ∃β2,BQ A bi fr.π β w st.heap β2 w (Ea C fr b st).heap∧KG A β2 w nt (Ea C fr b st).env.get (Ea C fr b st).defs (Ea C fr b st).heap a∧Bn β2 fr.π (Ea C fr b st).base:=by
 unfold Ea;simp only;split
 .refine⟨β,BQ.refl H,⟨s.sz,fun t=>?_,s.defs⟩,hf⟩;simp only;rcases QZ st.env (C.live fr.f b) t with e|e
  .rw[e];exact s.env t
  .rw[e];exact .undef _
 .rename_i hcond;simp only[I8,not_or,Lw,Bool.not_eq_eq_eq_not,Bool.not_not]at hcond;obtain⟨hraw,hdefs⟩:=hcond;have hown:=hown hraw;have hd0:st.defs=[]:=by simpa using hdefs
  generalize hl:Bp st.heap 1000 (EN [] (((C.live fr.f b).map fun t=>(t,st.env.get t)).flatMap fun p=>AD p.2)) 0=l
  classical
  let ν:=DB fr.π l 0
  let β2:Aj:=fun z=>if hz: ∃x,ν x=some z then β hz.choose else none
  have hν: ∀x z,ν x=some z→β2 z=β x:=by
   intro x z hx;have hz: ∃x,ν x=some z:=⟨x,hx⟩;simp only[β2,dif_pos hz];rw[Ks hz.choose_spec hx]
  have hback: ∀z k,β2 z=some k→ ∃x,ν x=some z∧β x=some k:=by
   intro z k hk;by_cases hz: ∃x,ν x=some z
   .simp only[β2,dif_pos hz]at hk;exact⟨_,hz.choose_spec,hk⟩
   .simp only[β2,dif_neg hz]at hk;cases hk
  have hname: ∀x z,ν x=some z→ ∃j t,j<l.length∧z=t::j::fr.π:=by
   intro x z hx;obtain⟨j,t,h1,h2⟩:=Dz hx;exact⟨j,t,(BE.1 h1).1,by rw[h2,I9]⟩
  have hunder: ∀x z,ν x=some z→fr.π<:+z:=by
   intro x z hx;obtain⟨j,t,_,rfl⟩:=hname x z hx;exact(EM _ _).trans (EM _ _)
  have hM: ∀b,MS A β2 (Cv st.heap ν l) b→MS A β st.heap b:=by
   rintro b (hb|⟨z,o,k,h1,h2,h3,rfl⟩)
   .exact .inl hb
   .obtain⟨x,o',g1,g2,rfl⟩:=EJ h1;rw[UK]at h2;rw[hν x z g2]at h3;exact .inr ⟨x,o',k,g1,h2,h3,rfl⟩
  have H2:HR A β2 w (Cv st.heap ν l):=by
   refine⟨fun z o ho=>?_,fun y z oy oz ky kz hy hz hmy hmz hky hkz e=>?_,fun z k hk=>?_,fun z o k ho hm hk=>?_,H.wn⟩
   .obtain⟨x,o',g1,g2,rfl⟩:=EJ ho;obtain⟨k,hk,hr⟩:=H.obj x o' g1;exact⟨k,by rw[hν x z g2];exact hk,vG hν hM hr⟩
   .obtain⟨x,o',g1,g2,rfl⟩:=EJ hy;obtain⟨x2,o2',g3,g4,rfl⟩:=EJ hz;rw[UK]at hmy hmz;rw[hν x y g2]at hky;rw[hν x2 z g4]at hkz;have:=H.inj x x2 o' o2' ky kz g1 g3 hmy hmz hky hkz e;subst this;rw[g2]at g4;exact Qr g4
   .obtain⟨x,_,hx⟩:=hback z k hk;exact H.ut x k hx
   .obtain⟨x,o',g1,g2,rfl⟩:=EJ ho;rw[UK]at hm;rw[hν x z g2]at hk;exact H.out x o' k g1 hm hk
  refine⟨β2,⟨fun id hi=>?_,H2,⟨fun _ _ _=>rfl,El _,fun b hb=>.inl (hM b hb),rfl,rfl⟩,fun σ hσ _=>⟨fun _ _ _=>rfl,?_,fun id hi=>?_⟩⟩,⟨s.sz,fun t=>?_,?_⟩,fun n hn z hz=>?_⟩
  .have h1:β id=none:=by
    cases hb:β id with
    |none=>rfl
    |some k=>exact absurd (hown id (by rw[hb];simp)) hi
   have h2:β2 id=none:=by
    cases hb:β2 id with
    |none=>rfl
    |some k=>
     obtain⟨x,hx,_⟩:=hback id k hb;exact absurd (hunder x id hx) hi
   rw[h1,h2]
  .rintro b ⟨z,k,h1,h2,rfl⟩;obtain⟨x,hx,hk⟩:=hback z k h2;exact .inl ⟨x,k,hσ.trans (hown x (by rw[hk];simp)),hk,rfl⟩
  .have h1:(Cv st.heap ν l).get id=none:=by
    cases hg:(Cv st.heap ν l).get id with
    |none=>rfl
    |some o=>
     obtain⟨x,_,_,g2,_⟩:=EJ hg;exact absurd (hσ.trans (hunder x id g2)) hi
   have h2:st.heap.get id=none:=by
    cases hg:st.heap.get id with
    |none=>rfl
    |some o=>
     obtain⟨k,hk,_⟩:=H.obj id o hg;exact absurd (hσ.trans (hown id (by rw[hk];simp))) hi
   rw[h2];exact h1
  .simp only;rw[cU];refine Qv hν hM ?_;rcases QZ st.env (C.live fr.f b) t with e|e
   .rw[e];exact s.env t
   .rw[e];exact .undef _
  .have:=s.defs;rw[hd0]at this;cases hd:a.defers with
   |nil=>trivial
   |cons d l=>rw[hd]at this;exact this.elim
  .cases hb:β2 z with
   |none=>rfl
   |some k=>
    exfalso;obtain⟨x,hx,_⟩:=hback z k hb;obtain⟨j,t,hj,rfl⟩:=hname x z hx;have:=Im hz (EM t (j::fr.π));have:l.length≤n:=hn;omega
end Go.Abs
