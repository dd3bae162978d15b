/-
  Parts of it.
-/
import Derived.OrdersIn
import Derived.RangeFuncLeaves
import Derived.Test.YtbinfhpngacfgaaGreatDe4
set_option linter.all false
namespace Go.Abs
variable{A:Nat→Prop}{P:Program}{mix:List TypeId}{β β' β'':Au}{w w' w'':World}{M:Nat→Prop}{h h' h'':AB}{π ρ:List Nat}{bv:Option (List Nat)}
def E0(β:Au)(π:List Nat):Prop:= ∀id,π<:+id→β id=none
def qe(ρ:List Nat)(β:Au)(b:Nat):Prop:= ∃id k,ρ<:+id∧β id=some k∧k.b=b
def Vg(bv:Option (List Nat))(ρ:List Nat)(β:Au):Prop:=bv=some ρ∨ ∀id,β id≠none→ρ<:+id
def AFb(bv:Option (List Nat))(π:List Nat)(β:Au)(w:World)(h:AB)(β':Au)(w':World)(h':AB):Prop:=
 ∀ρ,ρ<:+π→Vg bv ρ β→(∀b,b<w.heap.size→ ¬qe ρ β b→w'.heap[b]? =w.heap[b]?)∧(∀b,qe ρ β' b→qe ρ β b∨w.heap.size≤b)∧ ∀id,¬ρ<:+id→h'.get id=h.get id
structure Bh(A:Nat→Prop)(bv:Option (List Nat))(π:List Nat)(β:Au)(w:World)(h:AB)(β':Au)(w':World)(h':AB):Prop where
 out: ∀id,¬π<:+id→β' id=β id
 hr:HR A β' w' h'
 ip:Dy A (MS A β h) w (MS A β' h') w'
 kept:AFb bv π β w h β' w' h'
theorem Bh.refl(H:HR A β w h):Bh A bv π β w h β w h:=
 ⟨fun _ _=>rfl,H,.refl _ _,fun _ _ _=>⟨fun _ _ _=>rfl,fun _ hb=>.inl hb,fun _ _=>rfl⟩⟩
theorem Ys(hs:ρ<:+π)(ho: ∀id,¬π<:+id→β' id=β id)(hg:Vg bv ρ β):Vg bv ρ β':=by
 refine hg.imp (fun h=>h) fun h id hi=>?_;by_cases e:π<:+id
 .exact hs.trans e
 .rw[ho id e]at hi;exact h id hi
theorem Bh.trans(g1:Bh A bv π β w h β' w' h')(g2:Bh A bv π β' w' h' β'' w'' h''):Bh A bv π β w h β'' w'' h'' where
 out id hi:=by rw[g2.out id hi,g1.out id hi]
 hr:=g2.hr
 ip:=g1.ip.trans g2.ip
 kept ρ hρ hg:=by
  obtain⟨a1,a2,a3⟩:=g1.kept ρ hρ hg;obtain⟨b1,b2,b3⟩:=g2.kept ρ hρ (Ys hρ g1.out hg);refine⟨fun b hb hu=>?_,fun b hb=>?_,fun id hi=>by rw[b3 id hi,a3 id hi]⟩
  .rw[b1 b (Md hb g1.ip.size) (fun hu'=>(a2 b hu').elim hu (fun h=>by omega)),a1 b hb hu]
  .rcases b2 b hb with h1|h1
   .exact a2 b h1
   .exact .inr (Hm g1.ip.size h1)
theorem Bh.le(g:Bh A bv π β w h β' w' h')(hf:E0 β π):Le β β':=fun id k hk=>by
 rw[g.out id fun hs=>by rw[hf id hs]at hk;cases hk];exact hk
theorem Bh.up{n:List Nat}(hs:π<:+n)(g:Bh A bv n β w h β' w' h'):Bh A bv π β w h β' w' h':=
 ⟨fun id hi=>g.out id fun hn=>hi (hs.trans hn),g.hr,g.ip,fun ρ hρ hg=>g.kept ρ (hρ.trans hs) hg⟩
variable{h2:AB}
theorem MS.congr{h:AB}(e: ∀id,h.get id=h2.get id):MS A β h=MS A β h2:=by
 funext b;simp only[MS,e]
theorem HR.congr{h:AB}(e: ∀id,h.get id=h2.get id)(H:HR A β w h):HR A β w h2:=by
 have hM:=MS.congr (A:=A) (β:=β) e;refine⟨fun id o ho=>?_,fun a b oa ob ka kb ha hb=>H.inj a b oa ob ka kb (by rw[e];exact ha) (by rw[e];exact hb),H.ws,fun id o k ho=>H.out id o k (by rw[e];exact ho),H.abnd⟩;rw[←hM];exact H.obj id o (by rw[e];exact ho)
theorem Bh.congr{h:AB}(e: ∀id,h.get id=h2.get id)(g:Bh A bv π β w h β' w' h'):Bh A bv π β w h2 β' w' h':=by
 refine⟨g.out,g.hr,by rw[←MS.congr e];exact g.ip,fun ρ hρ hg=>?_⟩;obtain⟨a,b,c⟩:=g.kept ρ hρ hg;exact⟨a,b,fun id hi=>by rw[←e];exact c id hi⟩
structure NT where
 n:Nat
 lb:Nat
inductive DfR(lb:Nat)(β:Au)(w:World)(M:Nat→Prop):Df→Deferred→Prop
 |mark (id r):w.heap[r]? =some (.deferred (some []))→ ¬M r→lb≤r→DfR lb β w M (.mark id) {target:=.collected r,args:= #[]}
 |call (f args vs):GH β w M args vs→DfR lb β w M (.call f args) {target:=.fn (.func f) #[],args:=vs}
def Ja(lb:Nat)(β:Au)(w:World)(M:Nat→Prop):List Df→List Deferred→Prop
 |[],[]=>True
 |d::l,e::m=>DfR lb β w M d e∧Ja lb β w M l m∧ ∀e'∈m,∀r,e.target=.collected r→e'.target≠ .collected r
 |_,_=>False
variable{lb:Nat}{M':Nat→Prop}
theorem DfR.mono(hβ:Le β β')(hp:Dy A M w M' w'){d:Df}{e:Deferred}(h:DfR lb β w M d e):DfR lb β' w' M' d e:=by
 cases h with
 |mark id r h1 h2 h3=>exact .mark id r (by rw[hp.rg r (AH h1) (.inl h2)];exact h1) (hp.sub' (AH h1) h2) h3
 |call f args vs h1=>exact .call f args vs (h1.mono hβ hp)
theorem Ja.mono(hβ:Le β β')(hp:Dy A M w M' w'): ∀{l:List Df} {m:List Deferred},Ja lb β w M l m→Ja lb β' w' M' l m
 |[],[],_=>trivial
 |_::_,_::_,h=>⟨h.1.mono hβ hp,Ja.mono hβ hp h.2.1,h.2.2⟩
 |[],_::_,h=>h.elim
 |_::_,[],h=>h.elim
theorem Ja.marks{lb:Nat}: ∀{l:List Df} {m:List Deferred},Ja lb β w M l m→ ∀e∈m,∀r,e.target=.collected r→r<w.heap.size
 |[],[],_,e,he,_,_=>by cases he
 |d::l,e'::m,h,e,he,r,hr=>by
  rcases Ce.1 he with rfl|he
  .obtain⟨h1,_,_⟩:=h;cases h1 with
   |mark id r' h2 _ _=>simp only[Target.collected.injEq]at hr;subst hr;exact AH h2
   |call f args vs _=>cases hr
  .exact Ja.marks h.2.1 e he r hr
 |[],_::_,h,_,_,_,_=>h.elim
 |_::_,[],h,_,_,_,_=>h.elim
structure K5(A:Nat→Prop)(β:Au)(w:World)(nt:NT)(env:Nat→AV)(defs:List Df)(h:AB)(a:Act):Prop where
 sz:a.tmps.size=nt.n
 env:JY β w (MS A β h) env fun t=>a.tmps.getD t Go.undef
 defs:Ja nt.lb β w (MS A β h) defs a.defers
variable{nt:NT}{env:Nat→AV}{defs:List Df}{a:Act}
theorem K5.congr{h:AB}(e: ∀id,h.get id=h2.get id)(s:K5 A β w nt env defs h a):K5 A β w nt env defs h2 a:=
 ⟨s.sz,by rw[←MS.congr e];exact s.env,by rw[←MS.congr e];exact s.defs⟩
theorem K5.mono(s:K5 A β w nt env defs h a)(hβ:Le β β')(hp:Dy A (MS A β h) w (MS A β' h') w'):K5 A β' w' nt env defs h' a:=
 ⟨s.sz,s.env.mono hβ hp,s.defs.mono hβ hp⟩
def Pz(e:Nat→AV)(dst:Option Tmp)(v:AV)(t:Nat):AV:=match dst with
 |some d=>if d=t then v else e t
 |none=>e t
theorem Zx(e:Bm)(dst:Option Tmp)(v:AV):(CY e dst v).get=Pz e.get dst v:=by
 funext t;cases dst with
 |none=>rfl
 |some d=>simp[CY,Pz,Bm.get_cons]
theorem vZ(a:Act)(dst:Option Tmp)(u:Value):(a.put dst u).tmps.size=a.tmps.size:=by
 cases dst<;>simp[Act.put]
theorem Zz(a:Act)(dst:Option Tmp)(u:Value):(a.put dst u).defers=a.defers:=by
 cases dst<;>rfl
theorem K5.put{nt:NT}{env:Nat→AV}{defs:List Df}{a:Act}(s:K5 A β w nt env defs h a){dst:Option Tmp}(hd: ∀d,dst=some d→d<nt.n){v:AV}{u:Value}(hv:VR β w (MS A β h) v u):
 K5 A β w nt (Pz env dst v) defs h (a.put dst u):=by
 refine⟨by rw[vZ];exact s.sz,fun t=>?_,by rw[Zz];exact s.defs⟩;cases dst with
 |none=>exact s.env t
 |some d=>
  have hlt:d<a.tmps.size:=by rw[s.sz];exact hd d rfl
  simp only[Pz,Act.put];by_cases e:d=t
  .subst e;simp[hlt];exact hv
  .have:=s.env t;simp only[CS e];rw[F7,IN e,←F7];exact this
abbrev FF(ro:Option Nat):Fence:={Fence.wide with round:=ro}
def AB1(β:Au)(w:World)(M:Nat→Prop):Ae→Ending→Prop
 |.ret v,.returned u=>VR β w M v u
 |.f9 v,.panicked chain=> ∃u,chain=[{v:=u,recovered:=false}]∧VR β w M v u
 |_,_=>False
def N3(A:Nat→Prop)(bv:Option (List Nat))(π:List Nat)(β:Au)(w:World)(h:AB)(r:Ae×AB)(e:Ending)(w':World):Prop:=
 ∃β',Bh A bv π β w h β' w' r.2∧AB1 β' w' (MS A β' r.2) r.1 e
def HI(l:Loop)(vs:Array Value):Array Value:=(l.params.zip vs).foldl (fun tmps (x:Nat×Value)=>tmps.setIfInBounds x.1 x.2) l.tmps
def PQ(P:Program)(A:Nat→Prop)(t:Tgt)(args:List AV)(h:AB)(π:List Nat)(bv:Option (List Nat))(r:Ae×AB)(β:Au):Prop:=
 ∀(w:World) (vs:Array Value),HR A β w h→E0 β π→GH β w (MS A β h) args vs→
  match t with
  |.fn f=>Calls P f vs w (N3 A bv π β w h r)
  |.round id lp=>lp.params.length=args.length∧ ∀(k:Qp) (l:Loop),h.get id=some (.loop lp)→β id=some k→w.heap[k.b]? =some (.loop l)→
   RoundIn Fence.wide 0 P k.b l.fn (HI l vs) l.assign l.body w (N3 A bv π β w h r)
def KZ(P:Program)(f:FuncId):Prop:= ∃fn c,P.funcs[f]? =some fn∧fn.body=some c∧(fn.name== "runtime.NumGoroutine")=false
def LW(W:Lp→Prop)(h:AB):Prop:= ∀id r,h.get id=some (.loop r)→W r
structure gM(P:Program)(W:Lp→Prop)(t:Tgt)(args:List AV)(h:AB)(π:List Nat)(raw:Bool)(bv:Option (List Nat))(r:Ae×AB):Prop where
 ent: ∀f,t=.fn f→KZ P f
 rw:raw=true→(∀id lp,t=.round id lp→W lp)→LW W h→ ∀A β,PQ P A t args h π bv r β
 pu:raw=false→h=[]→bv=none→ ∀A,PQ P A t args [] π none r fun _=>none
 ids:raw=false→h=[]→bv=none→π=[]→ ∀v,r.1=.ret v→AD v=[]∧r.2=[]
 lw:(∀id lp,t=.round id lp→W lp)→LW W h→LW W r.2
def C9(P:Program)(W:Lp→Prop)(K:AN):Prop:=
 ∀(t:Tgt) (args:List AV) (h:AB) (π:List Nat) (raw:Bool) (bv:Option (List Nat)) (r:Ae×AB),K t args h π raw bv=.ok r→gM P W t args h π raw bv r
variable{δ:AB}
theorem ae{ρ:List Nat}(h:Jv (some ρ) δ=true): ∀p∈δ,ρ<:+p.1:=fun p hp=>
 (Id.under_iff _ _).1 (Ci.1 h p hp)
theorem Jh{δ:AB}(hle:Le β β')(hnew: ∀id,β' id≠none→β id≠none∨ρ<:+id)(H':HR A β' w' (h.puts δ))(hp:Dy A (MS A β h) w (MS A β' (h.puts δ)) w')(hc:Chg β w β' w' δ)
 (hw:Jv bv δ=true):Bh A bv ρ β w h β' w' (h.puts δ):=by
 have hout: ∀id,¬ρ<:+id→β' id=β id:=by
  intro id hi;cases hb:β id with
  |some k=>exact hle id k hb
  |none=>
   cases hb':β' id with
   |none=>rfl
   |some k=>exact absurd (hnew id (by rw[hb'];simp)) (by simp[hb,hi])
 refine⟨hout,H',hp,fun σ hσ hg=>?_⟩;have hδ: ∀p∈δ,∀k,β p.1=some k→σ<:+p.1:=by
  intro p hp k hk;rcases hg with hg|hg
  .subst hg;exact ae hw p hp
  .exact hg p.1 (by rw[hk];simp)
 refine⟨fun b hb hu=>hc.1 b hb fun p hp k hk e=>hu ⟨p.1,k,hδ p hp k hk,hk,e⟩,?_,fun id hi=>?_⟩
 .rintro b ⟨id,k,h1,h2,rfl⟩;rcases hc.2 id k h2 with h3|h3|⟨p,hp,k',h3,h4⟩
  .exact .inl ⟨id,k,h1,h3,rfl⟩
  .exact .inr h3
  .exact .inl ⟨p.1,k',hδ p hp k' h3,h3,h4⟩
 .rcases Hv δ h id with⟨h1,_⟩|⟨p,h1,rfl,h3⟩
  .exact h1
  .refine absurd ?_ hi;rcases hg with hg|hg
   .subst hg;exact ae hw p h1
   .obtain⟨k,hk,_⟩:=H'.obj p.1 p.2 h3;by_cases e:ρ<:+p.1
    .exact hσ.trans e
    .rw[hout _ e]at hk;exact hg p.1 (by rw[hk];simp)
def Aft(A:Nat→Prop)(bv:Option (List Nat))(π:List Nat)(nt:NT)(β:Au)(w:World)(h:AB)(env:Nat→AV)(defs:List Df)(h':AB)(a':Act)(w':World):Prop:=
 ∃β',Bh A bv π β w h β' w' h'∧K5 A β' w' nt env defs h' a'
theorem vW{ro:Option Nat}{o:Oper}{eff:CJ}(H:HR A β w h)(hf:E0 β ρ)(s:K5 A β w nt env defs h a)
 (hd: ∀d,o.dst=some d→d<nt.n) (hdf: ∀c,o.op≠ .defer c) (ho:evalOp (Bt P mix) env h.get ρ o.op=some eff) (hw:Jv bv eff.δ=true) {next:Act→World→Prop} {Q:Exit→Act→World→Prop}
 (hn: ∀a' w',Aft A bv ρ nt β w h (Pz env o.dst eff.v) defs (h.puts eff.δ) a' w'→next a' w'):o.wpIn (FF ro) 0 P a w next Q:=by
 obtain⟨n,v,w',β',hr,hnv,hle,hnew,H',hp,hv,hc⟩:=jv (P:=P) (mix:=mix) H hf s.env rfl ho;have g:=Jh (bv:=bv) hle hnew H' hp hc hw;have fin:next (a.put o.dst v) w':=hn _ _ ⟨β',g,(s.mono hle hp).put hd hv⟩
 refine⟨fun _ _=>trivial,?_⟩;rw[Oper.semAt_eq _ _ _ hdf,hr];rcases hnv with rfl|⟨rfl,rfl⟩
 .exact fin
 .exact fin
variable{A:Nat→Prop}{P:Program}{mix:List TypeId}{β:Au}{w:World}{M:Nat→Prop}
theorem Fm{A M:Nat→Prop}(h: ∀b,M' b→M b)(w:World):Dy A M w M' w:=⟨fun _ _ _=>rfl,EL _,fun b hb=>.inl (h b hb),rfl,rfl⟩
theorem Ob{vs:List AV}(h:A5 vs=[]): ∀x∈vs,AD x=[]:=by
 induction vs with
 |nil=>simp
 |cons v vs ih=>
  simp only[A5,OK]at h;intro x hx;rcases Ce.1 hx with rfl|hx
  .exact h.1
  .exact ih h.2 x hx
variable{x:AV}{v:Value}
theorem VR.noIds{β':Au}(hM: ∀b,M' b→M b)(h:VR β w M x v)(hi:AD x=[]):VR β' w M' x v:=by
 induction h with
 |d h=>exact .d (h.mono (A:=fun _=>False) (Fm hM w))
 |ci=>exact .ci
 |emp a=>exact .emp a
 |em id off len k a cap hk hn hl ha=>simp[AD]at hi
 |ptr id off k hk=>simp[AD]at hi
 |i6 id i off k hk=>simp[AD]at hi
 |pp cs b off c elem fr hb hm hl hd=>exact .pp cs b off c elem fr hb (fun h=>hm (hM _ h)) hl fun i x v h1 h2=>(hd i x v h1 h2).mono (A:=fun _=>False) (Fm hM w)
 |fn f a b a' b' h1 h2 _ _ ih1 ih2=>
  simp only[AD,OK]at hi;exact .fn f a b a' b' h1 h2 (fun i x v hx hv=>ih1 i x v hx hv (Ob hi.1 x (Ac hx))) (fun i x v hx hv=>ih2 i x v hx hv (Ob hi.2 x (Ac hx)))
 |v6 id k hk=>simp[AD]at hi
 |mp id k hk=>simp[AD]at hi
 |iface t v u _ ih=>simp only[AD]at hi;exact .iface t v u (ih hi)
 |agg cs c h1 _ ih=>simp only[AD]at hi;exact .agg cs c h1 fun i x v hx hv=>ih i x v hx hv (Ob hi x (Ac hx))
 |ge cs c h1 _ ih=>simp only[AD]at hi;exact .ge cs c h1 fun i x v hx hv=>ih i x v hx hv (Ob hi x (Ac hx))
 |undef v=>exact .undef v
def Jy(h δ:AB)(p:Id×Obj):Prop:=
 (∃sz es,p.2=.it sz es∧h.get p.1=some (.co sz es))∨
 ∃sz es ds,p.2=.it sz ds∧h.get p.1=some (.arr sz es)∧Cx h.get es=some ds∧ ∀q∈es.flatMap (Bs h.get),q∈δ
theorem Jy.it{h:AB}{p:Id×Obj}(m:Jy h δ p):p.2.mut=false:=by
 rcases m with⟨_,_,h,_⟩|⟨_,_,_,h,_⟩<;>rw[h]<;>rfl
theorem N9{h δ:AB}(hm: ∀p∈δ,p.2.mut=false){vs:List AV}(hsub: ∀p∈Bs h.get vs,p∈δ){xs:List AZ}(hx:Ct h.get vs=some xs):
 ∀v∈vs,∀id∈Ff v,GD (h.puts δ) id:=by
 intro v hv id hid o ho;cases v with
 |em id' off n=>
  simp only[Ff,As]at hid;subst hid;obtain⟨i,hi,hvi⟩:=RO.1 hv;obtain⟨q1,q2⟩:=ED hx;have hfc:=q2 i _ (xs[i]'(by omega)) (BY hi) (BY (by omega));rw[hvi]at hfc;rcases Hv δ h id with⟨h1,h2⟩|⟨p,h1,h2,h3⟩
  .simp only[FB]at hfc;split at hfc
   .rename_i sz es hg;exact absurd rfl (h2 (id,.it sz es) (hsub _ (Bi.2 ⟨_,hv,by simp[Jk,hg]⟩)))
   .rename_i sz es hg;rw[h1,hg]at ho;cases ho;rfl
   .cases hfc
  .rw[h3]at ho;cases ho;exact hm p h1
 |_=>simp[Ff]at hid
theorem Ih{h δ:AB}(hm: ∀p∈δ,Jy h δ p):Frz h (h.puts δ):=by
 refine⟨fun id=>?_⟩;rcases Hv δ h id with⟨h1,_⟩|⟨p,h1,h2,h3⟩
 .exact .inl h1
 .subst h2;rcases hm p h1 with⟨sz,es,h4,h5⟩|⟨sz,es,ds,h4,h5,h6,h7⟩
  .exact .inr (.inl ⟨sz,es,h5,by rw[h3,h4]⟩)
  .refine .inr (.inr ⟨sz,es,ds,h5,by rw[h3,h4],h6,?_⟩);exact N9 (fun p hp=>(hm p hp).it) (fun q hq=>by
    obtain⟨v,hv,hq⟩:=Bi.1 hq;obtain⟨e,he,hv⟩:=Mp.1 hv;exact h7 q (Bi.2 ⟨e,he,Bi.2 ⟨v,hv,hq⟩⟩)) (Ee h6)
theorem uf{h δ:AB}{v:AV}(hs: ∀p∈FW h.get v,p∈δ): ∀p∈FW h.get v,Jy h δ p:=by
 intro p hp;cases v with
 |em id off n=>
  simp only[FW]at hp hs;split at hp
  .rename_i sz es hg;simp at hp;subst hp;exact .inl ⟨sz,es,rfl,hg⟩
  .rename_i sz es hg;split at hp
   .rename_i ds hds;rcases Ce.1 hp with rfl|hp
    .refine .inr ⟨sz,es,ds,rfl,hg,hds,fun q hq=>hs q ?_⟩;simp only[hg,hds];exact FD _ hq
    .obtain⟨e,_,hp⟩:=Bi.1 hp;exact .inl (JI hp)
   .cases hp
  .cases hp
 |_=>simp[FW]at hp
theorem Mh{h:AB}{as:List AV}: ∀p∈as.flatMap (mark h.get),Jy h (as.flatMap (mark h.get)) p:=by
 intro p hp;obtain⟨v,hv,hp⟩:=Bi.1 hp;obtain⟨c,hc,hp⟩:=Bi.1 hp;exact uf (fun q hq=>Bi.2 ⟨v,hv,Bi.2 ⟨c,hc,hq⟩⟩) p hp
def FzD(h h':AB)(v:AV):Prop:= ∀id∈Ff v,GD h' id∧ ∀sz es,h.get id=some (.arr sz es)→ ∀v'∈es.flatten,∀id'∈Ff v',GD h' id'
theorem ym{h h':AB}(H:HR A β w h)(hs:XI h h'){v:AV}{u:Value}{x:AZ}(hv:VR β w (MS A β h) v u)(hx:Dn h.get v=some x)(hf:FzD h h' v):DR w (MS A β h') x u:=by
 unfold Dn at hx;split at hx
 .rename_i id off n;have hfz:=(hf id (by simp[Ff])).1;split at hx
  .rename_i sz es hg;split at hx
   .rename_i ds hds;cases hv with
    |em _ _ _ k a cap hk hn hl ha=>
     have ha':a=some ⟨k.b,off*k.sz,none⟩∨n=0:=ha.imp (fun h=>h) (fun h=>by omega);obtain⟨k',hk',c,elem,h1,h2,h3,h4,h5,h6,h7⟩:=H.obj id _ hg;rw[hk]at hk';cases hk';simp only[BV]at hx;obtain⟨l,hl',rfl⟩:=hx;subst h2;obtain⟨q1,q2⟩:=ED (Ee hds);refine P7 h1 (hfz.notMS H hs hk hg (.inl rfl)) (Ko hds h5) (by rw[(HB hds).1];exact h6) (fun i x v a b=>?_) hl' ha' hl;have hi:i<es.flatten.length:=by rw[←q1];exact(BE.1 a).1
     exact MW H hs (h7 i _ v (BY hi) b) (q2 i _ x (BY hi) a) ((hf id (by simp[Ff])).2 _ es hg _ (Ms hi))
   .cases hx
  .exact MW H hs hv hx fun id hid=>(hf id hid).1
 .exact MW H hs hv hx fun id hid=>(hf id hid).1
theorem sr{h δ:AB}(hm: ∀p∈δ,Jy h δ p){v:AV}{x:AZ}(hx:Dn h.get v=some x)(hs: ∀p∈FW h.get v,p∈δ):FzD h (h.puts δ) v:=by
 intro id hid;cases v with
 |em id' off n=>
  simp only[Ff,As]at hid;subst hid;have hfr: ∀p∈δ,p.2.mut=false:=fun p hp=>(hm p hp).it;unfold Dn at hx;simp only[FW]at hs;refine⟨fun o ho=>?_,fun sz es hg=>?_⟩
  .rcases Hv δ h id with⟨h1,h2⟩|⟨p,h1,h2,h3⟩
   .rw[h1]at ho;cases o with
    |it sz es=>rfl
    |co sz es=>
     simp only[ho]at hs;exact absurd rfl (h2 _ (hs _ (As.2 rfl)))
    |arr sz es=>
     simp only[ho]at hx hs;cases hds:Cx h.get es with
     |none=>rw[hds]at hx;cases hx
     |some ds=>
      simp only[hds]at hs;exact absurd rfl (h2 _ (hs _ (F1 ..)))
    |box cs=>simp[ho,FB]at hx
    |map es=>simp[ho,FB]at hx
    |loop r=>simp[ho,FB]at hx
   .rw[h3]at ho;cases ho;exact hfr p h1
  .simp only[hg]at hx hs;cases hds:Cx h.get es with
   |none=>rw[hds]at hx;cases hx
   |some ds=>
    simp only[hds]at hs;exact N9 hfr (fun q hq=>by
     obtain⟨v,hv,hq⟩:=Bi.1 hq;obtain⟨e,he,hv⟩:=Mp.1 hv;exact hs q (FD _ (Bi.2 ⟨e,he,Bi.2 ⟨v,hv,hq⟩⟩))) (Ee hds)
 |_=>simp[Ff]at hid
theorem NW{g:G}: ∀{vs xs:List AV},Gv g vs=some xs→xs.length=vs.length∧ ∀(i:Nat) (v x:AV),vs[i]? =some v→xs[i]? =some x→ ∃y,x=.d y∧Dn g v=some y
 |[],xs,h=>by simp[Gv]at h;subst h;simp
 |v::vs,xs,h=>by
  simp only[Gv]at h;split at h
  .rename_i x xs' h1 h2;cases h;obtain⟨i1,i2⟩:=NW h2;refine⟨by simp[i1],fun i v' x' hv hx=>?_⟩;cases i with
   |zero=>simp at hv hx;subst hv hx;exact⟨x,rfl,h1⟩
   |succ i=>simp at hv hx;exact i2 i v' x' hv hx
  .cases h
variable{u:Value}
theorem YW{h h':AB}(H:HR A β w h)(hsub:XI h h'){v:AV}(hv:VR β w (MS A β h) v u)(hx:Ed h.get v=some x)(hs: ∀c∈KT v,∀y,Dn h.get c=some y→FzD h h' c):
 VR β w (MS A β h') x u∧AD x=[]:=by
 have cell: ∀{v:AV} {u:Value} {y:AZ},VR β w (MS A β h) v u→Dn h.get v=some y→(∀y,Dn h.get v=some y→FzD h h' v)→DR w (MS A β h') y u:=
  fun hv hx hs=>ym H hsub hv hx (hs _ hx)
 have cells: ∀{cs xs:List AV} {c:Array Value},cs.length=c.size→(∀(i:Nat) (x:AV) (v:Value),cs[i]? =some x→c[i]? =some v→VR β w (MS A β h) x v)→Gv h.get cs=some xs→(∀v∈cs,∀y,Dn h.get v=some y→FzD h h' v)→
  VR β w (MS A β h') (.agg xs) (.agg c)∧A5 xs=[]:=by
  intro cs xs c hl hc hx hs;obtain⟨q1,q2⟩:=NW hx;have hget: ∀(i:Nat) (x:AV),xs[i]? =some x→ ∃v y,cs[i]? =some v∧x=.d y∧Dn h.get v=some y:=by
   intro i x hx;have hi:i<cs.length:=by rw[←q1];exact(BE.1 hx).1
   obtain⟨y,h1,h2⟩:=q2 i _ x (BY hi) hx;exact⟨_,y,BY hi,h1,h2⟩
  refine⟨.agg _ _ (by rw[q1];exact hl) fun i x v hx hv=>?_,?_⟩
  .obtain⟨v',y,h1,rfl,h2⟩:=hget i x hx;exact .d (cell (hc i v' v h1 hv) h2 (hs v' (Ac h1)))
  .rw[List.eq_nil_iff_forall_not_mem];intro id hid;obtain⟨x,hx,hid⟩:=Ly hid;obtain⟨i,hi⟩:=ON.1 hx;obtain⟨_,y,_,rfl,_⟩:=hget i x hi;simp[AD]at hid
 have other: ∀{v x:AV} {u:Value},VR β w (MS A β h) v u→(Dn h.get v).map AV.d=some x→(∀y,Dn h.get v=some y→FzD h h' v)→VR β w (MS A β h') x u∧AD x=[]:=by
  intro v x u hv hx hs;simp only[BV]at hx;obtain⟨y,hy,rfl⟩:=hx;exact⟨.d (cell hv hy hs),rfl⟩
 unfold Ed at hx;split at hx
 .rename_i cs;simp only[BV]at hx;obtain⟨xs,hxs,rfl⟩:=hx;cases hv with
  |agg _ c hl hc=>
   obtain⟨h1,h2⟩:=cells hl hc hxs fun v hv=>hs v hv;exact⟨h1,h2⟩
 .cases hx;cases hv with
  |fn f a b a' b' h1 h2 h3 h4=>
   exact⟨.fn _ [] [] a' b' h1 h2 (fun _ _ _ h=>by simp at h) (fun _ _ _ h=>by simp at h),rfl⟩
 .rename_i t cs;simp only[BV]at hx;obtain⟨xs,hxs,rfl⟩:=hx;cases hv with
  |iface _ _ u hv=>
   cases hv with
   |agg _ c hl hc=>
    obtain⟨h1,h2⟩:=cells hl hc hxs fun v hv=>hs v hv;exact⟨.iface _ _ _ h1,h2⟩
 .rename_i t v' hne;simp only[BV]at hx;obtain⟨y,hy,rfl⟩:=hx;cases hv with
  |iface _ _ u hv=>
   have hp:KT (.iface t v')=[v']:=by
    cases v'<;>first|rfl|exact absurd rfl (hne _)
   rw[hp]at hs;exact⟨.iface _ _ _ (.d (cell hv hy (hs v' (by simp)))),rfl⟩
 .rename_i h1 h2 h3 h4;have hp:KT v=[v]:=by
   cases v<;>first|rfl|exact absurd rfl (h1 _)|exact absurd rfl (h4 _ _)
  rw[hp]at hs;exact other hv hx (hs v (by simp))
theorem WK{h:AB}(H:HR A β w h)(hm: ∀p∈δ,Jy h δ p){v:AV}(hv:VR β w (MS A β h) v u)(hx:Ed h.get v=some x)(hs: ∀p∈mark h.get v,p∈δ):
 VR β w (MS A β (h.puts δ)) x u∧AD x=[]:=
 YW H (Ih hm).sub hv hx fun c hc _ hy=>sr hm hy fun p hp=>hs p (Bi.2 ⟨c,hc,hp⟩)
theorem Ya{h:AB}(H:HR A β w h){v:AV}(hv:VR β w (MS A β h) v u)(hx:Ed h.get v=some x):VR β w (MS A β []) x u∧AD x=[]:=
 YW H (XI.nil h) hv hx fun _ _ _ _ _ _=>⟨GD.nil _,fun _ _ _ _ _ _ _=>GD.nil _⟩
theorem Pf{g:G}: ∀{vs xs:List AV},Dr g vs=some xs→xs.length=vs.length∧ ∀(i:Nat) (v x:AV),vs[i]? =some v→xs[i]? =some x→Ed g v=some x
 |[],xs,h=>by simp[Dr]at h;subst h;simp
 |v::vs,xs,h=>by
  simp only[Dr]at h;split at h
  .rename_i x xs' h1 h2;cases h;obtain⟨i1,i2⟩:=Pf h2;refine⟨by simp[i1],fun i v' x' hv hx=>?_⟩;cases i with
   |zero=>simp at hv hx;subst hv hx;exact h1
   |succ i=>simp at hv hx;exact i2 i v' x' hv hx
  .cases h
variable{c:Array Value}
theorem yn{h:AB}(H:HR A β w h)(hm: ∀p∈δ,Jy h δ p){vs xs:List AV}(hv:GH β w (MS A β h) vs c)(hx:Dr h.get vs=some xs)(hs: ∀v∈vs,∀p∈mark h.get v,p∈δ):
 GH β w (MS A β (h.puts δ)) xs c∧ ∀x∈xs,AD x=[]:=by
 obtain⟨q1,q2⟩:=Pf hx;have key: ∀(i:Nat) (x:AV) (hi:xs[i]? =some x),∃v,vs[i]? =some v∧Ed h.get v=some x:=by
  intro i x hi;have hlt:i<vs.length:=by rw[←q1];exact(BE.1 hi).1
  exact⟨_,BY hlt,q2 i _ x (BY hlt) hi⟩
 refine⟨⟨by rw[q1];exact hv.1,fun i x v hx hv'=>?_⟩,fun x hx=>?_⟩
 .obtain⟨y,h1,h2⟩:=key i x hx;exact(WK H hm (hv.2 i y v h1 hv') h2 (hs y (Ac h1))).1
 .obtain⟨i,hi⟩:=ON.1 hx;obtain⟨y,h1,h2⟩:=key i x hi;have hlt:i<c.size:=by rw[←hv.1];exact(BE.1 h1).1
  exact(WK H hm (hv.2 i y _ h1 (D6 hlt)) h2 (hs y (Ac h1))).2
theorem iV{h:AB}(H:HR A β w h)(hm: ∀p∈δ,Jy h δ p){vs:List AV}(hv:GH β w (MS A β h) vs c)(hs: ∀v∈vs,∀p∈mark h.get v,p∈δ):
 GH β w (MS A β (h.puts δ)) (ME h.get vs) c:=by
 refine⟨by simp[ME,hv.1],fun i x v hx hv'=>?_⟩;simp only[ME,D1,BV]at hx;obtain⟨y,h1,rfl⟩:=hx;cases hf:Ed h.get y with
 |none=>exact(hv.2 i y v h1 hv').mono (.refl β) (Ih hm).sub.ip
 |some x=>exact(WK H hm (hv.2 i y v h1 hv') hf (hs y (Ac h1))).1
variable{w':World}
theorem OV{x:AZ}(hf:EH x=true)(h:DR w M x v):DR w' M' x v:=by
 cases h with
 |int k n=>exact .int k n
 |bool b=>exact .bool b
 |str s=>exact .str s
 |un=>exact .un
 |i7=>exact .i7
 |kw=>exact .kw
 |rx=>exact .rx
 |wd a cap=>simp[EH]at hf
 |be es=>simp[EH]at hf
theorem YO: ∀{l:List AV},FV l=true→ ∀x∈l,∃y,x=.d y∧EH y=true
 |[],_,x,hx=>by cases hx
 |v::l,h,x,hx=>by
  cases v with
  |d y=>
   simp only[FV,AP]at h;rcases Ce.1 hx with rfl|hx
   .exact⟨y,rfl,h.1⟩
   .exact YO h.2 x hx
  |_=>simp[FV]at h
theorem Qz{β':Au}(hf:flat x=true)(h:VR β w M x v):VR β' w' M' x v:=by
 have cells: ∀{cs:List AV} {c:Array Value},FV cs=true→(∀(i:Nat) (x:AV) (v:Value),cs[i]? =some x→c[i]? =some v→VR β w M x v)→
  ∀(i:Nat) (x:AV) (v:Value),cs[i]? =some x→c[i]? =some v→VR β' w' M' x v:=by
  intro cs c hf hc i x v hx hv;obtain⟨y,rfl,hy⟩:=YO hf x (Ac hx);cases hc i _ v hx hv with|d hd=>exact .d (OV hy hd)
 cases h with
 |d hd=>exact .d (OV hf hd)
 |ci=>exact .ci
 |emp a=>exact .emp a
 |agg cs c hl hc=>exact .agg cs c hl (cells hf hc)
 |ge cs c hl hc=>exact .ge cs c hl (cells hf hc)
 |iface t v u hv=>
  cases hv with
  |d hd=>exact .iface _ _ _ (.d (OV hf hd))
  |agg cs c hl hc=>exact .iface _ _ _ (.agg cs c hl (cells hf hc))
  |_=>simp[flat]at hf
 |_=>simp[flat]at hf
variable{A:Nat→Prop}{P:Program}{mix:List TypeId}{β β' β'':Au}{w w' w'':World}{M:Nat→Prop}{h h' h'':AB}{π ρ:List Nat}{bv:Option (List Nat)}{nt:NT}{env:Nat→AV}{defs:List Df}{a:Act}
theorem KG{f:FuncId}(he:KZ P f)(args:Array Value):(callFunc f args).run P w=.ok (.enter f args) w:=by
 obtain⟨fn,c,h1,h2,h3⟩:=he;have h3':fn.name≠ "runtime.NumGoroutine" :=by simpa using h3
 simp[callFunc,h1,h2,h3']
variable{A1:Nat→Prop}
theorem HR.none(ha: ∀b,A1 b→b<w.heap.size):HR A1 (fun _=>none) w []:=
 ⟨fun _ _ h=>by simp at h,fun _ _ _ _ _ _ h=>by simp at h,fun _ _ h=>(by cases h),fun _ _ _ h=>by simp at h,ha⟩
theorem a8{b:Nat}:MS A1 β [] b↔A1 b:=by simp[MS]
theorem HR.less(H:HR A β w h)(hs: ∀id o,h'.get id=some o→h.get id=some o):HR A β w h':=by
 have hsub: ∀b,MS A β h' b→MS A β h b:=by
  rintro b (hb|⟨id,o,k,h1,h2,h3,h4⟩)
  .exact .inl hb
  .exact .inr ⟨id,o,k,hs id o h1,h2,h3,h4⟩
 refine⟨fun id o ho=>?_,fun a b oa ob ka kb ha hb=>H.inj a b oa ob ka kb (hs _ _ ha) (hs _ _ hb),H.ws,fun id o k ho=>H.out id o k (hs _ _ ho),H.abnd⟩;obtain⟨k,hk,hr⟩:=H.obj id o (hs _ _ ho);exact⟨k,hk,hr.mono (.refl β) (Fm (A:=A) hsub w) (H.ws id k hk) rfl⟩
theorem R8(K:Id→Bool)(h:AB)(id:Id):AB.get (h.filter fun p=>K p.1) id=if K id then h.get id else none:=by
 induction h with
 |nil=>simp
 |cons p h ih=>
  obtain⟨k,o⟩:=p;rw[Rx,AB.get_cons];by_cases e:k=id
  .subst e;cases hk:K k with
   |true=>simp[AB.get_cons]
   |false=>rw[CS (by simp[hk]),ih];simp[hk]
  .rw[CS e,←ih];split
   .rw[AB.get_cons,CS e]
   .rfl
def Kq(ρ:List Nat)(id:Id):Bool:=match id with|0::l=> !Id.under ρ l|_=>true
theorem WO{id:Id}(hc:Kq ρ id=false):ρ<:+id:=by
 unfold Kq at hc;split at hc
 .rename_i l;have:Id.under ρ l=true:=by simpa using hc
  exact((Id.under_iff ρ l).1 this).trans (Es 0 l)
 .cases hc
theorem WQ(h:AB)(id:Id):(gc ρ h).get id=h.get id∨((gc ρ h).get id=none∧ρ<:+id):=by
 have e:gc ρ h=h.filter fun p=>Kq ρ p.1:=rfl;rw[e,R8 (Kq ρ)];cases hc:Kq ρ id with
 |true=>exact .inl rfl
 |false=>exact .inr ⟨rfl,WO hc⟩
theorem MX{id:Id}{o:Obj}(hg:(gc ρ h).get id=some o):h.get id=some o:=by
 rcases WQ (ρ:=ρ) h id with e|⟨e,_⟩
 .rw[←e];exact hg
 .rw[e]at hg;cases hg
theorem Bh.gc(g:Bh A bv ρ β w h β' w' h'):Bh A bv ρ β w h β' w' (gc ρ h'):=by
 refine⟨g.out,g.hr.less fun id o=>MX,⟨g.ip.rg,g.ip.size,fun b hb=>g.ip.sub b ?_,g.ip.io⟩,fun σ hσ hg=>?_⟩
 .rcases hb with hb|⟨id,o,k,h1,h2,h3,h4⟩
  .exact .inl hb
  .exact .inr ⟨id,o,k,MX h1,h2,h3,h4⟩
 .obtain⟨a1,a2,a3⟩:=g.kept σ hσ hg;refine⟨a1,a2,fun id hi=>?_⟩;rcases WQ (ρ:=ρ) h' id with e|⟨_,e⟩
  .rw[e];exact a3 id hi
  .exact absurd (hσ.trans e) hi
theorem HR.same(H:HR A β w h)(hall: ∀b,b<w.heap.size→w'.heap[b]? =w.heap[b]?)(hz:w.heap.size≤w'.heap.size)(hio:w'.os=w.os∧w'.output=w.output):HR A β w' h:=
 H.step (.refl β) ⟨fun b hb _=>hall b hb,hz,fun _ h=>.inl h,hio⟩ (fun id o ho=>.inl ⟨ho,fun k hk=>hall k.b (H.ws id k hk)⟩) H.inj (fun id k hk=>Md (H.ws id k hk) hz) H.out
theorem KK(H:HR A β w h)(hall: ∀b,b<w.heap.size→w'.heap[b]? =w.heap[b]?)(hz:w.heap.size≤w'.heap.size)(hio:w'.os=w.os∧w'.output=w.output):Bh A bv ρ β w h β w' h:=
 ⟨fun _ _=>rfl,H.same hall hz hio,⟨fun b hb _=>hall b hb,hz,fun _ h=>.inl h,hio⟩,fun _ _ _=>⟨fun b hb _=>hall b hb,fun _ hb=>.inl hb,fun _ _=>rfl⟩⟩
variable{h1:AB}
theorem wx(H1:HR A β w h1)(hall: ∀b,b<w.heap.size→w'.heap[b]? =w.heap[b]?)(hz:w.heap.size≤w'.heap.size)(hio:w'.os=w.os∧w'.output=w.output)(hf:E0 β ρ)(H2:HR A1 β' w' h2)
 (hid: ∀id,β' id≠none→ρ<:+id) (hnew: ∀id k,β' id=some k→w.heap.size≤k.b) (hA: ∀b,MS A β h1 b→A1 b):
 ∃β2,Le β β2∧Le β' β2∧(∀id,¬ρ<:+id→β2 id=β id)∧(∀id k,β2 id=some k→β id=some k∨(ρ<:+id∧w.heap.size≤k.b))∧HR A β2 w' (h1++h2)∧(∀b,MS A β2 (h1++h2) b→MS A1 β' h2 b)∧
  Dy A (MS A β h1) w (MS A β2 (h1++h2)) w':=by
 classical
 let β2:Au:=fun id=>if ρ<:+id then β' id else β id
 have e1:Le β β2:=fun id k hk=>by
  have: ¬ρ<:+id:=fun hs=>by rw[hf id hs]at hk;cases hk
  simp only[β2,CS this];exact hk
 have e2:Le β' β2:=fun id k hk=>by
  simp only[β2,DO (hid id (by rw[hk];simp))];exact hk
 have e3: ∀id k,β2 id=some k→(ρ<:+id∧β' id=some k)∨(¬ρ<:+id∧β id=some k):=fun id k hk=>by
  by_cases e:ρ<:+id
  .simp only[β2,DO e]at hk;exact .inl ⟨e,hk⟩
  .simp only[β2,CS e]at hk;exact .inr ⟨e,hk⟩
 have o1: ∀id o,h1.get id=some o→ ¬ρ<:+id:=fun id o ho hs=>by
  obtain⟨k,hk,_⟩:=H1.obj id o ho;rw[hf id hs]at hk;cases hk
 have o2: ∀id o,h2.get id=some o→ρ<:+id:=fun id o ho=>by
  obtain⟨k,hk,_⟩:=H2.obj id o ho;exact hid id (by rw[hk];simp)
 have gt: ∀id o,(h1++h2).get id=some o→(h1.get id=some o∧ ¬ρ<:+id)∨(h2.get id=some o∧ρ<:+id):=by
  intro id o ho;rw[AB.get_append]at ho;cases hg:h1.get id with
  |some o'=>rw[hg]at ho;cases ho;exact .inl ⟨rfl,o1 id _ hg⟩
  |none=>rw[hg]at ho;exact .inr ⟨ho,o2 id _ ho⟩
 have hms: ∀b,MS A β2 (h1++h2) b→MS A1 β' h2 b:=by
  rintro b (hb|⟨id,o,k,q1,q2,q3,rfl⟩)
  .exact .inl (hA b (.inl hb))
  .rcases gt id o q1 with⟨g1,g2⟩|⟨g1,g2⟩<;>rcases e3 id k q3 with⟨g3,g4⟩|⟨g3,g4⟩
   .exact absurd g3 g2
   .exact .inl (hA k.b (.inr ⟨id,o,k,g1,q2,g4,rfl⟩))
   .exact .inr ⟨id,o,k,g1,q2,g4,rfl⟩
   .exact absurd g2 g3
 have hpr:Dy A (MS A β h1) w (MS A β2 (h1++h2)) w':=by
  refine⟨fun b hb _=>hall b hb,hz,?_,hio⟩;rintro b (hb|⟨id,o,k,q1,q2,q3,rfl⟩)
  .exact .inl (.inl hb)
  .rcases gt id o q1 with⟨g1,g2⟩|⟨g1,g2⟩<;>rcases e3 id k q3 with⟨g3,g4⟩|⟨g3,g4⟩
   .exact absurd g3 g2
   .exact .inl (.inr ⟨id,o,k,g1,q2,g4,rfl⟩)
   .exact .inr (hnew id k g4)
   .exact absurd g2 g3
 refine⟨β2,e1,e2,fun id hi=>by simp only[β2,CS hi],fun id k hk=>?_,⟨fun id o ho=>?_,?_,fun id k hk=>?_,fun id o k ho hm hk hb=>?_,fun b hb=>Md (H1.abnd b hb) hz⟩,hms,hpr⟩
 .rcases e3 id k hk with⟨g1,g2⟩|⟨g1,g2⟩
  .exact .inr ⟨g1,hnew id k g2⟩
  .exact .inl g2
 .rcases gt id o ho with⟨g1,g2⟩|⟨g1,g2⟩
  .obtain⟨k,hk,hr⟩:=H1.obj id o g1;exact⟨k,e1 _ _ hk,hr.mono e1 hpr (H1.ws id k hk) (hall k.b (H1.ws id k hk))⟩
  .obtain⟨k,hk,hr⟩:=H2.obj id o g1;exact⟨k,e2 _ _ hk,hr.mono e2 (Fm (A:=A) hms w') (H2.ws id k hk) rfl⟩
 .intro a b oa ob ka kb ha hb hma hmb hka hkb e;rcases gt a oa ha with⟨a1,a2⟩|⟨a1,a2⟩<;>rcases gt b ob hb with⟨b1,b2⟩|⟨b1,b2⟩<;>
   rcases e3 a ka hka with⟨a3,a4⟩|⟨a3,a4⟩<;>rcases e3 b kb hkb with⟨b3,b4⟩|⟨b3,b4⟩<;>try(first|exact absurd a3 a2|exact absurd b3 b2|exact absurd a2 a3|exact absurd b2 b3)
  .exact H1.inj a b oa ob ka kb a1 b1 hma hmb a4 b4 e
  .have:=H1.ws a ka a4;have:=hnew b kb b4;omega
  .have:=H1.ws b kb b4;have:=hnew a ka a4;omega
  .exact H2.inj a b oa ob ka kb a1 b1 hma hmb a4 b4 e
 .rcases e3 id k hk with⟨g1,g2⟩|⟨g1,g2⟩
  .exact H2.ws id k g2
  .exact Md (H1.ws id k g2) hz
 .rcases gt id o ho with⟨g1,g2⟩|⟨g1,g2⟩<;>rcases e3 id k hk with⟨g3,g4⟩|⟨g3,g4⟩
  .exact absurd g3 g2
  .exact H1.out id o k g1 hm g4 hb
  .have:=H1.abnd _ hb;have:=hnew id k g4;omega
  .exact absurd g2 g3
theorem NX(H:HR A β w h)(hm: ∀p∈δ,Jy h δ p)(hw:Jv bv δ=true):Bh A bv ρ β w h β w (h.puts δ):=
 Jh (.refl β) (fun _ hi=>.inl hi) ((Ih hm).hr H) (Ih hm).sub.ip (.refl _ _ _) hw
def Gf(A:Nat→Prop)(bv:Option (List Nat))(ρ:List Nat)(nt:NT)(β:Au)(w:World)(h:AB)(env:Nat→AV)(defs:List Df)(a:Act)(h':AB):Ae→Ending→World→Prop
 |.ret v,.returned u,w'=> ∃β',Bh A bv ρ β w h β' w' h'∧K5 A β' w' nt env defs h' a∧VR β' w' (MS A β' h') v u
 |.f9 v,.panicked chain,w'=> ∃β' u,Bh A bv ρ β w h β' w' h'∧K5 A β' w' nt env defs h' a∧chain=[{v:=u,recovered:=false}]∧VR β' w' (MS A β' h') v u
 |_,_,_=>False
variable{e:Ending}
theorem Q5{r:Ae×AB}(g1:Bh A bv ρ β w h β w h1)(hf:E0 β ρ)(s:K5 A β w nt env defs h a)(he:N3 A bv ρ β w h1 r e w'):
 Gf A bv ρ nt β w h env defs a (gc ρ r.2) r.1 e w':=by
 obtain⟨β',g,hr⟩:=he;have g':=(g1.trans g).gc;have hs:=s.mono (g'.le hf) g'.ip;have hsub: ∀b,MS A β' (gc ρ r.2) b→MS A β' r.2 b:=by
  rintro b (hb|⟨id,o,k,h1,h2,h3,h4⟩)
  .exact .inl hb
  .exact .inr ⟨id,o,k,MX h1,h2,h3,h4⟩
 obtain⟨c,h'⟩:=r;cases c with
 |ret v=>cases e with
  |returned u=>exact⟨β',g',hs,VR.mono (.refl _) (Fm (A:=A) hsub w') hr⟩
  |_=>exact hr.elim
 |f9 v=>cases e with
  |panicked chain=>
   obtain⟨u,h3,h4⟩:=hr;exact⟨β',u,g',hs,h3,h4.mono (.refl _) (Fm (A:=A) hsub w')⟩
  |_=>exact hr.elim
theorem ADr{r:Ae×AB}(H:HR A β w h)(hf:E0 β ρ)(s:K5 A β w nt env defs h a)(he:N3 A (some ρ) ρ β w h1 r e w')(hflat: ∀v,r.1=.ret v∨r.1=.f9 v→flat v=true):
 Gf A bv ρ nt β w h env defs a h r.1 e w':=by
 obtain⟨β',g,hr⟩:=he;obtain⟨k1,_,_⟩:=g.kept ρ (List.suffix_refl _) (.inl rfl);have hall: ∀b,b<w.heap.size→w'.heap[b]? =w.heap[b]? :=fun b hb=>k1 b hb fun⟨id,k,u1,u2,_⟩=>by rw[hf id u1]at u2;cases u2
 have g':Bh A bv ρ β w h β w' h:=KK H hall g.ip.size g.ip.io;have hs:=s.mono (g'.le hf) g'.ip;obtain⟨c,h'⟩:=r;cases c with
 |ret v=>cases e with
  |returned u=>exact⟨β,g',hs,Qz (hflat v (.inl rfl)) hr⟩
  |_=>exact hr.elim
 |f9 v=>cases e with
  |panicked chain=>
   obtain⟨u,h3,h4⟩:=hr;exact⟨β,u,g',hs,h3,Qz (hflat v (.inr rfl)) h4⟩
  |_=>exact hr.elim
section loops
variable{W:Lp→Prop}
def WZ:Obj→Bool
 |.loop _=>true
 |_=>false
def BG(δ:AB):Prop:= ∀p∈δ,WZ p.2=false
theorem BG.nil:BG []:=fun _ h=>by cases h
theorem BG.append{a b:AB}(h1:BG a)(h2:BG b):BG (a++b):=fun p hp=>(EX.1 hp).elim (h1 p) (h2 p)
theorem BG.one{id:Id}{o:Obj}(h:WZ o=false):BG [(id,o)]:=fun p hp=>by rw[As.1 hp];exact h
theorem BG.cons{id:Id}{o:Obj}{δ:AB}(h:WZ o=false)(h2:BG δ):BG ((id,o)::δ):=fun p hp=>by
 rcases Ce.1 hp with rfl|hp
 .exact h
 .exact h2 p hp
theorem BG.marks{g:G}(vs:List AV):BG (Bs g vs):=fun p hp=>by
 obtain⟨sz,es,h,_⟩:=JI hp;rw[h];rfl
theorem BG.markEs{g:G}(es:List (List AV)):BG (es.flatMap (Bs g)):=fun p hp=>by
 obtain⟨e,_,hp⟩:=Bi.1 hp;exact BG.marks e p hp
theorem LW.puts{h δ:AB}(hL:LW W h)(hn:BG δ):LW W (h.puts δ):=fun id r hr=>by
 rcases Hv δ h id with⟨h1,_⟩|⟨p,h1,_,h3⟩
 .rw[h1]at hr;exact hL id r hr
 .rw[h3]at hr;have e:=NL hr;have:=hn p h1;rw[e]at this;cases this
theorem LW.gc{h:AB}(hL:LW W h):LW W (gc ρ h):=fun id r hr=>hL id r (MX hr)
theorem LW.cons{h:AB}{o:Id×Obj}(hL:LW W h)(ho:WZ o.2=false):LW W (o::h):=fun id r hr=>by
 obtain⟨i,ob⟩:=o;rw[AB.get_cons]at hr;split at hr
 .cases hr;cases ho
 .exact hL id r hr
theorem LW.append{h h2:AB}(h1:LW W h)(hL:LW W h2):LW W (h++h2):=fun id r hr=>by
 rw[AB.get_append]at hr;cases hg:h.get id with
 |none=>rw[hg]at hr;exact hL id r hr
 |some o=>rw[hg]at hr;cases hr;exact h1 id r hg
theorem LW.nil:LW W []:=fun _ _ h=>by cases h
theorem BG.markAll{h:AB}(as:List AV):BG (as.flatMap (mark h.get)):=fun p hp=>by
 rcases Mh (h:=h) (as:=as) p hp with⟨_,_,e,_⟩|⟨_,_,_,e,_⟩<;>rw[e]<;>rfl
end loops
variable{A:Nat→Prop}{P:Program}{mix:List TypeId}{β β' β'':Au}{w w' w'':World}{M:Nat→Prop}{h h' h'':AB}{π ρ:List Nat}{bv:Option (List Nat)}{nt:NT}{env:Nat→AV}{defs:List Df}{a:Act}{W:Lp→Prop}
variable{δ:AB}
theorem Z0{h h':AB}{id:Id}(hi:id∈δ.map (·.1)):(h.puts δ).get id=(h'.puts δ).get id:=by
 induction δ generalizing h h' with
 |nil=>cases hi
 |cons p δ ih=>
  rw[AB.puts_cons,AB.puts_cons];by_cases e:id∈δ.map (·.1)
  .exact ih e
  .have hp:p.1=id:=by
    rcases Ce.1 hi with h1|h1
    .exact h1.symm
    .exact absurd h1 e
   have hn: ∀q∈δ,q.1≠id:=fun q hq e'=>e (F0.2 ⟨q,hq,e'⟩);rw[KJ hn,KJ hn,AB.get_put,AB.get_put,DO hp,DO hp]
theorem L3{h:AB}{id:Id}(hi:id∉δ.map (·.1)):(h.puts δ).get id=h.get id:=
 KJ fun q hq e=>hi (F0.2 ⟨q,hq,e⟩)
def ii(wr:Option (List Id))(new old:G):G:=fun id=>match wr with
 |some l=>if id∈l then new id else old id
 |none=>new id
variable{g g':G}
theorem QP{vs:List AV}(h: ∀v∈vs,Dn g v=Dn g' v):Gv g vs=Gv g' vs:=by
 induction vs with
 |nil=>rfl
 |cons v vs ih=>simp only[Gv,h v (by simp),ih fun x hx=>h x (by simp[hx])]
theorem KE{l m:List Id}(h: ∀id∈m,id∈l): ∀id∈Cp g m,id∈Cp g l:=by
 intro id hi;rcases EX.1 hi with hi|hi
 .exact HU _ (h id hi)
 .obtain⟨x,h1,h2⟩:=Bi.1 hi;exact Ge _ (Bi.2 ⟨x,h x h1,h2⟩)
variable{v:AV}
theorem cP(h:At g g' (Cp g (AD v))):Dn g v=Dn g' v:=by
 have hc:FB g v=FB g' v:=SD (h.mono fun id hi=>HU _ hi);cases v with
 |em id off n=>
  have e:=h id (HU _ (by simp[AD]));cases hg:g id with
  |none=>
   rw[hg]at e;simp only[Dn,hg,←e];exact hc
  |some o=>
   rw[hg]at e;cases o with
   |arr sz es=>
    simp only[Dn,hg,←e];rw[Jg (g:=g) (g':=g') (es:=es) (h.mono fun i hi=>Ge _ (Bi.2 ⟨id,by simp[AD],by simp only[hg];exact hi⟩))]
   |_=>simp only[Dn,hg,←e];exact hc
 |_=>exact hc
theorem Y7(h:At g g' (Cp g (AD v))):FW g v=FW g' v:=by
 cases v with
 |em id off n=>
  have e:=h id (HU _ (by simp[AD]));simp only[FW];rw[←e];cases hg:g id with
  |none=>rfl
  |some o=>
   cases o with
   |arr sz es=>
    have hs:At g g' (es.flatMap A5):=h.mono fun i hi=>Ge _ (Bi.2 ⟨id,by simp[AD],by simp only[hg];exact hi⟩);simp only[Jg hs,Ku hs]
   |_=>rfl
 |_=>rfl
theorem VJ{v x:AV}(hx:x∈KT v): ∀id∈AD x,id∈AD v:=by
 intro id hi;cases v with
 |agg cs=>exact KO hx hi
 |iface t u=>
  cases u with
  |agg cs=>simp only[AD];exact KO hx hi
  |_=>simp only[KT,As]at hx;subst hx;simpa[AD]using hi
 |_=>simp only[KT,As]at hx;subst hx;exact hi
theorem cN(h:At g g' (Cp g (AD v))):Ed g v=Ed g' v:=by
 have hp: ∀x∈KT v,Dn g x=Dn g' x:=fun x hx=>cP (h.mono (KE (VJ hx)));cases v with
 |agg cs=>simp only[Ed];rw[QP (vs:=cs) hp]
 |iface t u=>
  cases u with
  |agg cs=>simp only[Ed];rw[QP (vs:=cs) hp]
  |_=>simp only[Ed];rw[hp _ (by simp[KT])]
 |fn f a b=>cases a<;>cases b<;>first|rfl|(simp only[Ed];rw[hp _ (by simp[KT])])
 |_=>simp only[Ed];rw[hp _ (by simp[KT])]
theorem dK(h:At g g' (Cp g (AD v))):mark g v=mark g' v:=by
 unfold mark;have: ∀l:List AV,(∀x∈l,FW g x=FW g' x)→l.flatMap (FW g)=l.flatMap (FW g'):=by
  intro l hl;induction l with
  |nil=>rfl
  |cons x l ih=>simp only[D2,hl x (by simp),ih fun y hy=>hl y (by simp[hy])]
 exact this _ fun x hx=>Y7 (h.mono (KE (VJ hx)))
theorem Kp{vs:List AV}(h:At g g' (Cp g (A5 vs))):Dr g vs=Dr g' vs:=by
 induction vs with
 |nil=>rfl
 |cons v vs ih=>
  simp only[Dr];rw[cN (v:=v) (h.mono (KE fun id hi=>by simp[A5,hi])),ih (h.mono (KE fun id hi=>by simp[A5,hi]))]
theorem Y9{vs:List AV}(h:At g g' (Cp g (A5 vs))):vs.flatMap (mark g)=vs.flatMap (mark g'):=by
 induction vs with
 |nil=>rfl
 |cons v vs ih=>
  simp only[D2];rw[dK (v:=v) (h.mono (KE fun id hi=>by simp[A5,hi])),ih (h.mono (KE fun id hi=>by simp[A5,hi]))]
variable{as xs:List AV}
theorem Nn{f:FuncId}{vs:Array Value}{r:Ae×AB}(H:HR A β w h)(T:gM P W (.fn f) xs [] π false none r)(hx:Dr h.get as=some xs)(hv:GH β w (MS A β h) as vs):
 Calls P f vs w (N3 (MS A β (h.puts (as.flatMap (mark h.get)))) none π (fun _=>none) w [] r):=by
 have hm:=Mh (h:=h) (as:=as);have hs: ∀v∈as,∀p∈mark h.get v,p∈as.flatMap (mark h.get):=fun v hv p hp=>Bi.2 ⟨v,hv,hp⟩;obtain⟨q1,q2⟩:=yn H hm hv hx hs;have H1:=(Ih hm).hr H;refine T.pu rfl rfl rfl (MS A β (h.puts (as.flatMap (mark h.get)))) w vs (HR.none fun b hb=>qT H1 hb) (fun _ _=>rfl) ⟨q1.1,fun i x v hx hv=>?_⟩;exact(q1.2 i x v hx hv).noIds (fun b hb=>a8.1 hb) (q2 x (Ac hx))
structure qX(A1:Nat→Prop)(π:List Nat)(w:World)(r:Ae×AB)(β':Au)(w':World):Prop where
 all: ∀b,b<w.heap.size→w'.heap[b]? =w.heap[b]?
 size:w.heap.size≤w'.heap.size
 io:w'.os=w.os∧w'.output=w.output
 hr:HR A1 β' w' r.2
 ids: ∀id,β' id≠none→π<:+id
 new: ∀id k,β' id=some k→w.heap.size≤k.b
variable{A1:Nat→Prop}{e:Ending}
theorem Mo{r:Ae×AB}(he:N3 A1 none π (fun _=>none) w [] r e w'): ∃β',qX A1 π w r β' w'∧AB1 β' w' (MS A1 β' r.2) r.1 e:=by
 obtain⟨β',g,hr⟩:=he;have hids: ∀id,β' id≠none→π<:+id:=fun id hi=>by
  by_cases e:π<:+id
  .exact e
  .exact absurd (g.out id e) hi
 refine⟨β',⟨fun b hb=>?_,g.ip.size,g.ip.io,g.hr,hids,fun id k hk=>?_⟩,hr⟩
 .by_cases hA:A1 b
  .exact g.ip.rg b hb (.inr hA)
  .exact g.ip.rg b hb (.inl fun hm=>hA (a8.1 hm))
 .obtain⟨_,k2,_⟩:=g.kept π (List.suffix_refl _) (.inr fun _ h=>absurd rfl h);rcases k2 k.b ⟨id,k,hids id (by rw[hk];simp),hk,rfl⟩with⟨_,_,_,h1,_⟩|h1
  .cases h1
  .exact h1
theorem pC{r:Ae×AB}(H:HR A β w h)(hf:E0 β ρ)(s:K5 A β w nt env defs h a)(he:N3 A1 none π (fun _=>none) w [] r e w')
 (hflat: ∀v,r.1=.ret v∨r.1=.f9 v→flat v=true):Gf A bv ρ nt β w h env defs a h r.1 e w':=by
 obtain⟨β',L,hr⟩:=Mo he;have g':Bh A bv ρ β w h β w' h:=KK H L.all L.size L.io;have hs:=s.mono (g'.le hf) g'.ip;obtain⟨c,h'⟩:=r;cases c with
 |ret v=>cases e with
  |returned u=>exact⟨β,g',hs,Qz (hflat v (.inl rfl)) hr⟩
  |_=>exact hr.elim
 |f9 v=>cases e with
  |panicked chain=>
   obtain⟨u,h3,h4⟩:=hr;exact⟨β,u,g',hs,h3,Qz (hflat v (.inr rfl)) h4⟩
  |_=>exact hr.elim
variable{h2:AB}
theorem YV{h1:AB}(H:HR A β w h)(hf:E0 β ρ)(g1:Bh A bv ρ β w h β w h1)(hall: ∀b,b<w.heap.size→w'.heap[b]? =w.heap[b]?)(hz:w.heap.size≤w'.heap.size)(hio:w'.os=w.os∧w'.output=w.output)
 (H2:HR A1 β' w' h2) (hid: ∀id,β' id≠none→ρ<:+id) (hnew: ∀id k,β' id=some k→w.heap.size≤k.b) (hA: ∀b,MS A β h1 b→A1 b):
 ∃β2,Le β' β2∧Bh A bv ρ β w h β2 w' (h2++h1)∧ ∀b,MS A β2 (h2++h1) b→MS A1 β' h2 b:=by
 obtain⟨β2,e1,e2,e3,e4,e5,e6,e7⟩:=wx g1.hr hall hz hio hf H2 hid hnew hA;have o1: ∀id o,h1.get id=some o→ ¬ρ<:+id:=fun id o ho hs=>by
  obtain⟨k,hk,_⟩:=g1.hr.obj id o ho;rw[hf id hs]at hk;cases hk
 have o2: ∀id o,h2.get id=some o→ρ<:+id:=fun id o ho=>by
  obtain⟨k,hk,_⟩:=H2.obj id o ho;exact hid id (by rw[hk];simp)
 have hg: ∀id,(h1++h2).get id=(h2++h1).get id:=by
  intro id;rw[AB.get_append,AB.get_append];cases ha:h1.get id with
  |none=>cases h2.get id<;>rfl
  |some o=>cases hb:h2.get id with
   |none=>rfl
   |some o'=>exact absurd (o2 _ _ hb) (o1 _ _ ha)
 have hM:=MS.congr (A:=A) (β:=β2) hg;refine⟨β2,e2,⟨e3,e5.congr hg,?_,fun σ hσ hgd=>?_⟩,by rw[←hM];exact e6⟩
 .rw[←hM];exact g1.ip.trans e7
 .obtain⟨a1,a2,a3⟩:=g1.kept σ hσ hgd;refine⟨fun b hb hu=>hall b hb,?_,fun id hi=>?_⟩
  .rintro b ⟨id,k,u1,u2,rfl⟩;rcases e4 id k u2 with u3|⟨_,u3⟩
   .exact .inl ⟨id,k,u1,u3,rfl⟩
   .exact .inr u3
  .rw[AB.get_append];cases hb:h2.get id with
   |none=>exact a3 id hi
   |some o=>exact absurd (hσ.trans (o2 _ _ hb)) hi
theorem pD(H:HR A β w h)(hf:E0 β ρ)(s:K5 A β w nt env defs h a)(hw:Jv bv (as.flatMap (mark h.get))=true)
 (he:N3 (MS A β (h.puts (as.flatMap (mark h.get)))) none ρ (fun _=>none) w [] (.ret v,h2) e w'):
 Gf A bv ρ nt β w h env defs a (h2++h.puts (as.flatMap (mark h.get))) (.ret v) e w':=by
 obtain⟨β',L,hr⟩:=Mo he;have g1:=NX (ρ:=ρ) (bv:=bv) H (Mh (as:=as)) hw;obtain⟨β2,l1,g,hm⟩:=YV H hf g1 L.all L.size L.io L.hr L.ids L.new fun b hb=>hb;cases e with
 |returned u=>exact⟨β2,g,s.mono (g.le hf) g.ip,VR.mono l1 (Fm (A:=A) hm w') hr⟩
 |_=>exact hr.elim
theorem fK{as:List AV}{v:AV}{h2:AB}{e:Ending}(H:HR A β w h)(hf:E0 β ρ)(s:K5 A β w nt env defs h a)(hw:Jv bv (as.flatMap (mark h.get))=true)(hi:AD v=[])(h20:h2=[])
 (he:N3 (MS A β (h.puts (as.flatMap (mark h.get)))) none [] (fun _=>none) w [] (.ret v,h2) e w'):
 Gf A bv ρ nt β w h env defs a (h2++h.puts (as.flatMap (mark h.get))) (.ret v) e w':=by
 subst h20;obtain⟨β',L,hr⟩:=Mo he;have g1:=NX (ρ:=ρ) (bv:=bv) H (Mh (as:=as)) hw;have g2:Bh A bv ρ β w (h.puts (as.flatMap (mark h.get))) β w' (h.puts (as.flatMap (mark h.get))):=KK g1.hr L.all L.size L.io;have g:=g1.trans g2;cases e with
 |returned u=>exact⟨β,g,s.mono (g.le hf) g.ip,VR.noIds (fun b hb=>a8.2 hb) hr hi⟩
 |_=>exact hr.elim
theorem vY{o:Id×Obj}(H:HR A β w h)(hf:E0 β ρ)(s:K5 A β w nt env defs h a)(ho:BT v h2=some o)
 (he:N3 A1 none ρ (fun _=>none) w [] (.ret v,h2) e w'):Gf A bv ρ nt β w h env defs a (o::h) (.ret v) e w':=by
 obtain⟨β',L,hr⟩:=Mo he;unfold BT at ho;split at ho
 .rename_i id off n;split at ho
  .rename_i sz es hg;split at ho
   .rename_i hfl;cases ho;obtain⟨k,hk,c,elem,q1,q2,q3,q4,q5,q6,q7⟩:=L.hr.obj id _ hg;have H2:HR (MS A β h) β' w' [(id,.co sz es)]:=by
     have hone: ∀{i:Id} {ob:Obj},AB.get [(id,Obj.co sz es)] i=some ob→i=id∧ob=.co sz es:=by
      intro i ob hi;rw[AB.get_cons]at hi;split at hi
      .rename_i e';cases hi;exact⟨e'.symm,rfl⟩
      .cases hi
     refine⟨fun i ob hi=>?_,fun a b oa ob ka kb ha hb _ _ _ _ _=>by rw[(hone ha).1,(hone hb).1],L.hr.ws,fun i ob k' hi hm hk' hb=>?_,fun b hb=>Md (qT H hb) L.size⟩
     .obtain⟨rfl,rfl⟩:=hone hi;refine⟨k,hk,c,elem,q1,q2,q3,q4,q5,q6,fun j x y hx hy=>OV ?_ (q7 j x y hx hy)⟩;obtain⟨e',he',hx'⟩:=Mp.1 (Ac hx);exact Ci.1 (Ci.1 hfl e' he') x hx'
     .have:=qT H hb;have:=L.new i k' hk';omega
    obtain⟨β2,l1,g,hm⟩:=YV (bv:=bv) H hf (Bh.refl H) L.all L.size L.io H2 L.ids L.new fun b hb=>hb;cases e with
    |returned u=>
     refine⟨β2,g,s.mono (g.le hf) g.ip,?_⟩;have hr':VR β' w' (MS A1 β' h2) (.em id off n) u:=hr;cases hr' with
     |em _ _ _ k' a' cap h1 h3 h4 h5=>exact .em _ _ _ k' a' cap (l1 _ _ h1) h3 h4 h5
    |_=>exact hr.elim
   .cases ho
  .cases ho
 .cases ho
variable{A:Nat→Prop}{P:Program}{mix:List TypeId}{β β' β'':Au}{w w' w'':World}{M:Nat→Prop}{h h' h'':AB}{π ρ:List Nat}{bv:Option (List Nat)}{nt:NT}{env:Nat→AV}{defs defs':List Df}{a:Act}{ro:Option Nat}{W:Lp→Prop}
def gI(rd:Option (List Id))(g g2:G):Prop:=match rd with
 |some l=>At g g2 l
 |none=> ∀id,g id=g2 id
def N5(P:Program)(ro:Option Nat)(bv:Option (List Nat))(ρ:List Nat)(nt:NT)(o:Oper)(env:Nat→AV)(defs:List Df)(h:AB)(v:AV)(defs':List Df)(h':AB):Prop:=
 ∀(A:Nat→Prop) (β:Au) (w:World) (a:Act),HR A β w h→E0 β ρ→K5 A β w nt env defs h a→ ∀(next:Act→World→Prop) (Q:Exit→Act→World→Prop),
  (∀a' w',Aft A bv ρ nt β w h (Pz env o.dst v) defs' h' a' w'→next a' w')→o.wpIn (FF ro) 0 P a w next Q
def Vi(A:Nat→Prop)(bv:Option (List Nat))(π:List Nat)(nt:NT)(β:Au)(w:World)(h:AB)(env:Nat→AV)(defs:List Df)(h':AB)(v:AV)(u:Value)(a':Act)(w':World):Prop:=
 ∃β',Bh A bv π β w h β' w' h'∧K5 A β' w' nt env defs h' a'∧VR β' w' (MS A β' h') v u
def Vj(P:Program)(ro:Option Nat)(bv:Option (List Nat))(ρ:List Nat)(nt:NT)(o:Oper)(env:Nat→AV)(defs:List Df)(h:AB)(v:AV)(h':AB):Prop:=
 ∀(A:Nat→Prop) (β:Au) (w:World) (a:Act),HR A β w h→E0 β ρ→K5 A β w nt env defs h a→ ∀(next:Act→World→Prop) (Q:Exit→Act→World→Prop),
  (∀a' w' u,Vi A bv ρ nt β w h env defs h' v u a' w'→Q (.panic [{v:=u,recovered:=false}]) a' w')→o.wpIn (FF ro) 0 P a w next Q
variable{o:Oper}{Q:Exit→Act→World→Prop}
theorem Uc{g:FuncId}{vs:Array Value}{next:Act→World→Prop}(hrun:(o.semAt ro a.eval).run P w=.ok (.enter g vs) w)(hd: ∀d,o.dst=some d→d<nt.n)
 (hc:Calls P g vs w (Gf A bv ρ nt β w h env defs a h' (.ret v))) (hn: ∀a' w',Aft A bv ρ nt β w h (Pz env o.dst v) defs h' a' w'→next a' w'):o.wpIn (FF ro) 0 P a w next Q:=by
 refine⟨fun _ _=>trivial,?_⟩;have e:(o.semAt (FF ro).round a.eval).run P w=.ok (.enter g vs) w:=hrun;rw[e,Oper.uponIn_enter];refine⟨fun hh=>by simp[FF,Fence.wide]at hh,CallsIn.mono (callsIn_wide.2 hc) ?_⟩;intro e w'' he;cases e with
 |returned u=>
  obtain⟨β',g',s,hv⟩:=he;exact hn _ _ ⟨β',g',s.put hd hv⟩
 |panicked chain=>exact he.elim
 |outgrown=>exact he.elim
theorem Ub{g:FuncId}{vs:Array Value}{next:Act→World→Prop}(hrun:(o.semAt ro a.eval).run P w=.ok (.enter g vs) w)
 (hc:Calls P g vs w (Gf A bv ρ nt β w h env defs a h' (.f9 v))) (hn: ∀a' w' u,Vi A bv ρ nt β w h env defs h' v u a' w'→Q (.panic [{v:=u,recovered:=false}]) a' w'):o.wpIn (FF ro) 0 P a w next Q:=by
 refine⟨fun _ _=>trivial,?_⟩;have e:(o.semAt (FF ro).round a.eval).run P w=.ok (.enter g vs) w:=hrun;rw[e,Oper.uponIn_enter];refine⟨fun hh=>by simp[FF,Fence.wide]at hh,CallsIn.mono (callsIn_wide.2 hc) ?_⟩;intro e w'' he;cases e with
 |returned u=>exact he.elim
 |panicked chain=>
  obtain⟨β',u,g',s,rfl,hv⟩:=he;exact hn _ _ u ⟨β',g',s,hv⟩
 |outgrown=>exact he.elim
variable{ts:Array Value}{i9 body:Code}
theorem pY{k:Nat}{f:FuncId}{next:Act→World→Prop}(hrun:(o.semAt ro a.eval).run P w=.ok (.round k f ts i9 body) w)(hd: ∀d,o.dst=some d→d<nt.n)
 (hc:RoundIn Fence.wide 0 P k f ts i9 body w (Gf A bv ρ nt β w h env defs a h' (.ret v))) (hn: ∀a' w',Aft A bv ρ nt β w h (Pz env o.dst v) defs h' a' w'→next a' w'):o.wpIn (FF ro) 0 P a w next Q:=by
 refine⟨fun _ _=>trivial,?_⟩;have e:(o.semAt (FF ro).round a.eval).run P w=.ok (.round k f ts i9 body) w:=hrun;rw[e,Oper.uponIn_round];refine⟨fun hh=>by simp[FF,Fence.wide]at hh,RoundIn.mono (F:=Fence.wide) hc ?_⟩;intro e w'' he;cases e with
 |returned u=>
  obtain⟨β',g',s,hv⟩:=he;exact hn _ _ ⟨β',g',s.put hd hv⟩
 |panicked chain=>exact he.elim
 |outgrown=>exact he.elim
theorem pW{k:Nat}{f:FuncId}{next:Act→World→Prop}(hrun:(o.semAt ro a.eval).run P w=.ok (.round k f ts i9 body) w)
 (hc:RoundIn Fence.wide 0 P k f ts i9 body w (Gf A bv ρ nt β w h env defs a h' (.f9 v))) (hn: ∀a' w' u,Vi A bv ρ nt β w h env defs h' v u a' w'→Q (.panic [{v:=u,recovered:=false}]) a' w'):o.wpIn (FF ro) 0 P a w next Q:=by
 refine⟨fun _ _=>trivial,?_⟩;have e:(o.semAt (FF ro).round a.eval).run P w=.ok (.round k f ts i9 body) w:=hrun;rw[e,Oper.uponIn_round];refine⟨fun hh=>by simp[FF,Fence.wide]at hh,RoundIn.mono (F:=Fence.wide) hc ?_⟩;intro e w'' he;cases e with
 |returned u=>exact he.elim
 |panicked chain=>
  obtain⟨β',u,g',s,rfl,hv⟩:=he;exact hn _ _ u ⟨β',g',s,hv⟩
 |outgrown=>exact he.elim
def K4(P:Program)(bv:Option (List Nat))(ρ:List Nat)(nt:NT)(f:FuncId)(as:List AV)(env:Nat→AV)(defs:List Df)(h:AB)(h':AB)(c:Ae):Prop:=
 ∀(A:Nat→Prop) (β:Au) (w:World) (a:Act) (vs:Array Value),HR A β w h→E0 β ρ→K5 A β w nt env defs h a→GH β w (MS A β h) as vs→Calls P f vs w (Gf A bv ρ nt β w h env defs a h' c)
variable{K:AN}{st:St}{hc:AB}
theorem ABo(hT:C9 P W K){f:FuncId}{c:Ae}(hL:LW W st.heap)(hK:K (.fn f) (ME st.heap.get as) (st.heap.puts (as.flatMap (mark st.heap.get))) ρ true (some ρ)=.ok (c,hc))
 (hfl: ∀v,c=.ret v∨c=.f9 v→flat v=true)  (hag: ∀id,st.heap.get id=h2.get id):K4 P bv ρ nt f as env defs h2 h2 c:=by
 intro A β w a vs H hf s hv;have H1:HR A β w st.heap:=H.congr fun id=>(hag id).symm;have hM:=MS.congr (A:=A) (β:=β) hag;have hm:=Mh (h:=st.heap) (as:=as);have hth:=iV H1 hm (by rw[hM];exact hv) fun v hv p hp=>Bi.2 ⟨v,hv,hp⟩;have hcall:=(hT _ _ _ _ _ _ _ hK).rw rfl (fun _ _ h=>by cases h) (hL.puts (BG.markAll as)) A β w vs ((Ih hm).hr H1) hf hth;exact hcall.mono fun e w' he=>ADr H hf s he hfl
theorem sN(hT:C9 P W K){f:FuncId}{c:Ae}(hw:Jv bv (as.flatMap (mark st.heap.get))=true)
 (hL:LW W st.heap) (hK:K (.fn f) (ME st.heap.get as) (st.heap.puts (as.flatMap (mark st.heap.get))) ρ true bv=.ok (c,hc))  (hag: ∀id,st.heap.get id=h2.get id):K4 P bv ρ nt f as env defs h2 (gc ρ hc) c:=by
 intro A β w a vs H hf s hv;have H1:HR A β w st.heap:=H.congr fun id=>(hag id).symm;have hM:=MS.congr (A:=A) (β:=β) hag;have hm:=Mh (h:=st.heap) (as:=as);have hth:=iV H1 hm (by rw[hM];exact hv) fun v hv p hp=>Bi.2 ⟨v,hv,hp⟩;have g1:Bh A bv ρ β w h2 β w (st.heap.puts (as.flatMap (mark st.heap.get))):=(NX H1 hm hw).congr hag;have hcall:=(hT _ _ _ _ _ _ _ hK).rw rfl (fun _ _ h=>by cases h) (hL.puts (BG.markAll as)) A β w vs g1.hr hf hth;exact hcall.mono fun e w' he=>Q5 g1 hf s he
theorem gx(hT:C9 P W K){f:FuncId}{c:Ae}
 (hL:LW W st.heap) (hK:K (.fn f) as st.heap ρ true bv=.ok (c,hc))  (hag: ∀id,st.heap.get id=h2.get id):K4 P bv ρ nt f as env defs h2 (gc ρ hc) c:=by
 intro A β w a vs H hf s hv;have H1:HR A β w st.heap:=H.congr fun id=>(hag id).symm;have hM:=MS.congr (A:=A) (β:=β) hag;have g1:Bh A bv ρ β w h2 β w st.heap:=(Bh.refl H1).congr hag;have hcall:=(hT _ _ _ _ _ _ _ hK).rw rfl (fun _ _ h=>by cases h) hL A β w vs H1 hf (by rw[hM];exact hv);exact hcall.mono fun e w' he=>Q5 g1 hf s he
theorem gv(hT:C9 P W K){f:FuncId}{c:Ae}(hK:K (.fn f) xs [] π false none=.ok (c,hc))
 (hfl: ∀v,c=.ret v∨c=.f9 v→flat v=true)  (hx:Dr h2.get as=some xs):K4 P bv ρ nt f as env defs h2 h2 c:=by
 intro A β w a vs H hf s hv;exact(Nn H (hT _ _ _ _ _ _ _ hK) hx hv).mono fun e w' he=>pC H hf s he hfl
theorem ACb(hT:C9 P W K){f:FuncId}{o:Id×Obj}(hπ:π=ρ∨π=[])(hK:K (.fn f) xs [] π false none=.ok (.ret v,hc))
 (ho:BT v hc=some o)  (hx:Dr h2.get as=some xs):K4 P bv ρ nt f as env defs h2 (o::h2) (.ret v):=by
 intro A β w a vs H hf s hv;have T:=hT _ _ _ _ _ _ _ hK;refine(Nn H T hx hv).mono fun e w' he=>?_;rcases hπ with rfl|rfl
 .exact vY H hf s ho he
 .obtain⟨h1,h2⟩:=T.ids rfl rfl rfl rfl v rfl;exfalso;unfold BT at ho;split at ho
  .simp[AD]at h1
  .cases ho
theorem yh(hT:C9 P W K){f:FuncId}(hπ:π=ρ∨π=[])(hK:K (.fn f) xs [] π false none=.ok (.ret v,hc))
  (hw:Jv bv (as.flatMap (mark h2.get))=true) (hx:Dr h2.get as=some xs):K4 P bv ρ nt f as env defs h2 (hc++h2.puts (as.flatMap (mark h2.get))) (.ret v):=by
 intro A β w a vs H hf s hv;have T:=hT _ _ _ _ _ _ _ hK;refine(Nn H T hx hv).mono fun e w' he=>?_;rcases hπ with rfl|rfl
 .exact pD H hf s hw he
 .obtain⟨h1,h3⟩:=T.ids rfl rfl rfl rfl v rfl;exact fK H hf s hw h1 h3 he
theorem cY{h:AB}{id:Id}(e:id∈h.map (·.1)): ∃o,h.get id=some o:=by
 induction h with
 |nil=>cases e
 |cons p h ih=>
  obtain⟨i,ob⟩:=p;rw[AB.get_cons];by_cases e':i=id
  .exact⟨ob,DO e'⟩
  .rw[CS e'];refine ih ?_;rcases Ce.1 e with h1|h1
   .exact absurd h1.symm e'
   .exact h1
theorem SY{h:AB}{id:Id}{o:Obj}(hg:h.get id=some o):id∈h.map (·.1):=by
 induction h with
 |nil=>cases hg
 |cons p h ih=>
  obtain⟨i,ob⟩:=p;rw[AB.get_cons]at hg;by_cases e:i=id
  .simp[e]
  .rw[CS e]at hg;simp only[D8,Ce];exact .inr (ih hg)
theorem S9{h h':AB}(hag: ∀id,h.get id=h2.get id)(id:Id):h'.get id=ii (some (UW h h')) h'.get h2.get id:=by
 simp only[ii];split
 .rfl
 .rename_i hi;rw[←hag,je hi]
theorem XB(new old:G)(id:Id):ii (some []) new old id=old id:=by simp[ii]
theorem UH{K:AN}(hT:C9 P W K){fr:Fr}{f:FuncId}{as:List AV}{dst:Option Tmp}{st st':St}{m:Mode}{fp:Fp}(hL:LW W st.heap)(hr:DX K fr ρ f as dst st m=.ok st' fp){h2:AB}(hag:gI fp.rd st.heap.get h2.get):
 ∃v h2',st'.env=CY st.env dst v∧st'.base=st.base∧st'.defs=st.defs∧(∀id,h2'.get id=ii fp.wr st'.heap.get h2.get id)∧KZ P f∧ ∀env defs,K4 P fr.bv ρ nt f as env defs h2 h2' (.ret v):=by
 have raw: ∀{E:E (Ae×AB)} {xs:List AV} {hh:AB},EG ρ dst st E=.ok st' fp→E=K (.fn f) xs hh ρ true fr.bv→
  (∀{c:Ae} {hc:AB},K (.fn f) xs hh ρ true fr.bv=.ok (c,hc)→(∀id,st.heap.get id=h2.get id)→ ∀env defs,K4 P fr.bv ρ nt f as env defs h2 (gc ρ hc) c)→
  ∃v h2',st'.env=CY st.env dst v∧st'.base=st.base∧st'.defs=st.defs∧(∀id,h2'.get id=ii fp.wr st'.heap.get h2.get id)∧KZ P f∧ ∀env defs,K4 P fr.bv ρ nt f as env defs h2 h2' (.ret v):=by
  intro E xs hh hr hE hsem;subst hE;unfold EG at hr;split at hr
  .rename_i v hc hK;simp only[A6,Af,G4.ok.injEq]at hr;obtain⟨rfl,rfl⟩:=hr;exact⟨v,gc ρ hc,rfl,rfl,rfl,S9 hag,(hT _ _ _ _ _ _ _ hK).ent f rfl,hsem hK hag⟩
  .simp at hr
  .cases hr
 unfold DX at hr;split at hr
 .exact raw hr rfl fun hK hag env defs=>gx hT hL hK hag
 .rename_i m hm;split at hr
  .rename_i xs hx;simp only[BH]at hr;unfold DQ at hr;split at hr
   .rename_i v hc hK;have hent:=(hT _ _ _ _ _ _ _ hK).ent f rfl;simp only[A6]at hr;split at hr
    .rename_i hfl;simp only[G4.ok.injEq]at hr;obtain⟨rfl,rfl⟩:=hr;have hx2:Dr h2.get as=some xs:=by rw[←Kp hag];exact hx
     exact⟨v,h2,rfl,rfl,rfl,fun id=>(XB _ _ id).symm,hent,fun env defs=>gv hT hK (fun v' hv'=>by rcases hv' with h|h<;>cases h;exact hfl) hx2⟩
    .unfold HY at hr;split at hr
     .rename_i o ho;simp only[Af,G4.ok.injEq]at hr;obtain⟨rfl,rfl⟩:=hr;have hx2:Dr h2.get as=some xs:=by rw[←Kp hag];exact hx
      refine⟨v,o::h2,rfl,rfl,rfl,fun id=>?_,hent,fun env defs=>ACb hT (by split<;>simp) hK ho hx2⟩;simp only[ii,As];obtain⟨i,ob⟩:=o;simp only[AB.get_cons];by_cases e:id=i
      .subst e;simp
      .simp[e,Ne.symm e]
     .simp only[Bk]at hr;split at hr
      .rename_i hw;simp only[Af,G4.ok.injEq]at hr;obtain⟨rfl,rfl⟩:=hr;have hx2:Dr h2.get as=some xs:=by rw[←Kp hag];exact hx
       have hmk:=Y9 (vs:=as) hag;refine⟨v,hc++h2.puts (as.flatMap (mark h2.get)),rfl,rfl,rfl,fun id=>?_,hent,fun env defs=>yh hT (by split<;>simp) hK (by rw[←hmk];exact hw) hx2⟩;rw[←hmk];simp only[ii,EX];rw[AB.get_append,AB.get_append];by_cases e1:id∈(as.flatMap (mark st.heap.get)).map (·.1)
       .rw[DO (.inl e1),Z0 e1 (h':=st.heap)]
       .rw[L3 e1,L3 e1];by_cases e2:id∈hc.map (·.1)
        .rw[DO (.inr e2)];have:=cY e2;obtain⟨o,ho⟩:=this;simp[ho]
        .rw[CS (by rintro(h1|h1);exact e1 h1;exact e2 h1)];have:hc.get id=none:=by
          cases hg:hc.get id with
          |none=>rfl
          |some o=>exact absurd (SY hg) e2
         rw[this];rfl
      .cases hr
   .split at hr<;>cases hr
   .cases hr
  .unfold E7 at hr;simp only[BH,Bk,Af]at hr;split at hr
   .unfold PA at hr;split at hr
    .rename_i v hc hK;split at hr
     .rename_i hfl;simp only[A6,G4.ok.injEq]at hr;obtain⟨rfl,rfl⟩:=hr;exact⟨v,h2,rfl,rfl,rfl,fun id=>(XB _ _ id).symm,(hT _ _ _ _ _ _ _ hK).ent f rfl,fun env defs=>ABo hT hL hK (fun v' hv'=>by rcases hv' with h|h<;>cases h;exact hfl) hag⟩
     .cases hr
    .split at hr<;>cases hr
    .cases hr
   .split at hr
    .rename_i hw;exact raw hr rfl fun hK hag env defs=>sN hT hw hL hK hag
    .cases hr
theorem Rk{K:AN}(hT:C9 P W K){fr:Fr}{f:FuncId}{as:List AV}{dst:Option Tmp}{st st':St}{m:Mode}{v:AV}(hL:LW W st.heap)(hr:DX K fr ρ f as dst st m=.f9 v st'){h2:AB}(hag: ∀id,st.heap.get id=h2.get id):
 ∃h2',st'.env=st.env∧st'.base=st.base∧st'.defs=st.defs∧(∀id,h2'.get id=st'.heap.get id)∧KZ P f∧ ∀env defs,K4 P fr.bv ρ nt f as env defs h2 h2' (.f9 v):=by
 have raw: ∀{E:E (Ae×AB)} {xs:List AV} {hh:AB},EG ρ dst st E=.f9 v st'→E=K (.fn f) xs hh ρ true fr.bv→
  (∀{c:Ae} {hc:AB},K (.fn f) xs hh ρ true fr.bv=.ok (c,hc)→(∀id,st.heap.get id=h2.get id)→ ∀env defs,K4 P fr.bv ρ nt f as env defs h2 (gc ρ hc) c)→
  ∃h2',st'.env=st.env∧st'.base=st.base∧st'.defs=st.defs∧(∀id,h2'.get id=st'.heap.get id)∧KZ P f∧ ∀env defs,K4 P fr.bv ρ nt f as env defs h2 h2' (.f9 v):=by
  intro E xs hh hr hE hsem;subst hE;unfold EG at hr;split at hr
  .simp at hr
  .rename_i u hc hK;simp only[Af,G4.f9.injEq]at hr;obtain⟨rfl,rfl⟩:=hr;exact⟨gc ρ hc,rfl,rfl,rfl,fun id=>rfl,(hT _ _ _ _ _ _ _ hK).ent f rfl,hsem hK hag⟩
  .cases hr
 unfold DX at hr;split at hr
 .exact raw hr rfl fun hK hag env defs=>gx hT hL hK hag
 .rename_i m hm;split at hr
  .rename_i xs hx;simp only[BH]at hr;unfold DQ at hr;split at hr
   .simp only[A6]at hr;split at hr
    .cases hr
    .unfold HY at hr;split at hr
     .simp at hr
     .simp only[Bk]at hr;split at hr
      .simp at hr
      .cases hr
   .rename_i u hc hK;split at hr
    .rename_i hfl;simp only[G4.f9.injEq]at hr;obtain⟨rfl,rfl⟩:=hr;have hx2:Dr h2.get as=some xs:=by rw[←Kp (fun id _=>hag id)];exact hx
     exact⟨h2,rfl,rfl,rfl,fun id=>(hag id).symm,(hT _ _ _ _ _ _ _ hK).ent f rfl,fun env defs=>gv hT hK (fun v' hv'=>by rcases hv' with h|h<;>cases h;exact hfl) hx2⟩
    .cases hr
   .cases hr
  .unfold E7 at hr;simp only[BH,Bk,Af]at hr;split at hr
   .unfold PA at hr;split at hr
    .split at hr
     .simp at hr
     .cases hr
    .rename_i u hc hK;split at hr
     .rename_i hfl;simp only[G4.f9.injEq]at hr;obtain⟨rfl,rfl⟩:=hr;exact⟨h2,rfl,rfl,rfl,fun id=>(hag id).symm,(hT _ _ _ _ _ _ _ hK).ent f rfl,fun env defs=>ABo hT hL hK (fun v' hv'=>by rcases hv' with h|h<;>cases h;exact hfl) hag⟩
     .cases hr
    .cases hr
   .split at hr
    .rename_i hw;exact raw hr rfl fun hK hag env defs=>sN hT hw hL hK hag
    .cases hr
variable{A:Nat→Prop}{P:Program}{mix:List TypeId}{β β' β'':Au}{w w' w'':World}{M:Nat→Prop}{h h' h'':AB}{π ρ:List Nat}{bv:Option (List Nat)}{nt:NT}{env:Nat→AV}{defs defs':List Df}{a:Act}{ro:Option Nat}{W:Lp→Prop}
theorem GH.append{ys:List AV}{a b:Array Value}(h1:GH β w M xs a)(h2:GH β w M ys b):GH β w M (xs++ys) (a++b):=by
 refine⟨by rw[CI,Rs,h1.1,h2.1],fun i x v hx hv=>?_⟩;by_cases hi:i<xs.length
 .rw[Be hi]at hx;rw[I9 (by rw[←h1.1];exact hi)]at hv;exact h1.2 i x v hx hv
 .rw[CO (by omega)]at hx;rw[Array.getElem?_append_right (by rw[←h1.1];omega),←h1.1]at hv;exact h2.2 _ x v hx hv
theorem GH.args{e:Nat→AV}(he:JY β w M e fun t=>a.tmps.getD t Go.undef)(l:Array Operand):GH β w M (l.toList.map (ev e)) (l.map a.eval):=by
 refine⟨by simp,fun i x v hx hv=>?_⟩;simp only[D1,He,BV]at hx;obtain⟨y,hy,rfl⟩:=hx;simp only[Pm,hy,El,Bv]at hv;subst hv;exact IC he y
variable{c:Call}{x:Operand}
theorem Xj(ho:o.op=.call c)(hc:c.callee=.value x){g:FuncId}{first cap:Array Value}(hx:a.eval x=.func (.func g) first cap)(he:KZ P g):
 (o.semAt ro a.eval).run P w=.ok (.enter g (first++c.args.map a.eval++cap)) w:=by
 rw[Oper.semAt_eq _ _ _ (by simp[ho])];simp[execOp,ho,resolve,hc,hx,Deferred.ofValue,invoke,KG he]
theorem Ve(ho:o.op=.call c)(hc:c.callee=.value x){k:Nat}{l:Loop}(hx:a.eval x=.func (.yield k) #[] #[])(hl:w.heap[k]? =some (.loop l))(hn:l.params.size=c.args.size):
 (o.semAt ro a.eval).run P w=.ok (.round k l.fn (HI l (c.args.map a.eval)) l.assign l.body) w:=by
 rw[Oper.semAt_eq _ _ _ (by simp[ho])];have hgo:(getObj k).run P w=.ok (.loop l) w:=JF hl (by simp);simp[execOp,ho,resolve,hc,hx,Deferred.ofValue,invoke,Instr.yield,Instr.getLoop,hgo,hn,HI]
structure LD(P:Program)(mix:List TypeId)(C:CZ):Prop where
 T:C.T=Bt P mix
 wp: ∀t m f,C.wp t m=some f→ ∀(v:Value) (w:World),(method (P.types.size+Made.depth) t v m).run P w=.ok (f,v) w
variable{C:CZ}{fr:Fr}{st':St}{fp:Fp}{env2:Nat→AV}
theorem Zu(hC:LD P mix C)(hr:DJ fr o.op o.dst st (evalOp C.T st.env.get st.heap.get ρ o.op)=.ok st' fp)(hdf: ∀c,o.op≠ .defer c)
   (he:J8 st.env.get env2 o.op) (hag:gI fp.rd st.heap.get h2.get) (hd: ∀d,o.dst=some d→d<nt.n):
 ∃v h2',st'.env=CY st.env o.dst v∧st'.base=st.base∧(∀id,h2'.get id=ii fp.wr st'.heap.get h2.get id)∧N5 P ro fr.bv ρ nt o env2 st.defs h2 v st'.defs h2':=by
 rw[hC.T]at hr;cases hev:evalOp (Bt P mix) st.env.get st.heap.get ρ o.op with
 |none=>rw[hev]at hr;cases hr
 |some eff=>
  rw[hev]at hr;simp only[DJ,J0,Bk]at hr;split at hr
  .rename_i hw;simp only[A6,Lf,G4.ok.injEq]at hr;obtain⟨rfl,rfl⟩:=hr;have hev2:=WG (P:=P) (mix:=mix) (n:=ρ) he hag;rw[hev]at hev2;refine⟨eff.v,h2.puts eff.δ,rfl,rfl,fun id=>?_,?_⟩
   .simp only[ii];split
    .rename_i hi;exact Z0 hi
    .rename_i hi;exact L3 hi
   .intro A β w a H hf s next Q hn
    exact vW H hf s hd hdf hev2.symm hw hn
  .cases hr
theorem jf(hT:C9 P W K)(ho:o.op=.call c)(hc:c.callee=.value x)
 (hL:LW W st.heap) (hr:EB C K fr ρ (ev st.env.get x) (c.args.toList.map (ev st.env.get)) o.dst st=.ok st' fp)
   (he:J8 st.env.get env2 o.op) (hag:gI fp.rd st.heap.get h2.get) (hd: ∀d,o.dst=some d→d<nt.n):
 ∃v h2',st'.env=CY st.env o.dst v∧st'.base=st.base∧(∀id,h2'.get id=ii fp.wr st'.heap.get h2.get id)∧N5 P ro fr.bv ρ nt o env2 st.defs h2 v st'.defs h2':=by
 have hx:ev st.env.get x=ev env2 x:=he x (by rw[ho];simp[Op.operands,Call.operands,hc]);have hargs:c.args.toList.map (ev st.env.get)=c.args.toList.map (ev env2):=FE fun y hy=>he y (by rw[ho];simp[Op.operands,Call.operands,hc,hy]);rw[hargs,hx]at hr;unfold EB at hr;split at hr
 ·
  rename_i id hid;unfold Jb at hr;split at hr
  .rename_i r hg;unfold EG at hr;split at hr
   .rename_i v hc' hK;simp only[A6,Af,G4.ok.injEq]at hr;obtain⟨rfl,rfl⟩:=hr;refine⟨v,gc ρ hc',rfl,rfl,S9 hag,?_⟩;intro A β w a H hf s next Q hn
    have hag': ∀id,st.heap.get id=h2.get id:=hag;have H1:HR A β w st.heap:=H.congr fun id=>(hag' id).symm;have hM:=MS.congr (A:=A) (β:=β) hag';have hxv:=IC s.env x;rw[hid]at hxv;generalize hax:a.eval x=ax at hxv;cases hxv with
    |v6 _ k hk=>
     obtain⟨k',hk',l,q1,q2,q3,q4,q5,q6,q7,q9,q8⟩:=H1.obj id _ hg;rw[hk]at hk';cases hk';have hvs:=GH.args s.env c.args;obtain⟨hlen,hround⟩:=(hT _ _ _ _ _ _ _ hK).rw rfl (fun _ _ h=>by cases h;exact hL _ _ hg) hL A β w (c.args.map a.eval) H1 hf (by rw[hM];exact hvs);have hround:=hround k l hg hk q1;have g1:Bh A fr.bv ρ β w h2 β w st.heap:=(Bh.refl H1).congr hag';have hn':l.params.size=c.args.size:=by
      rw[←q5]at hlen;simpa using hlen
     exact pY (Ve ho hc hax q1 hn') hd (RoundIn.mono hround fun e w' he=>Q5 g1 hf s he) hn
   .simp at hr
   .cases hr
  .cases hr
 .rename_i g first cap hfn
  simp only[BH]at hr;obtain⟨v,h2',e1,e2,e3,e4,e5,e6⟩:=UH (nt:=nt) hT hL hr hag;refine⟨v,h2',e1,e2,e4,?_⟩;intro A β w a H hf s next Q hn
  have hxv:=IC s.env x;rw[hfn]at hxv;generalize hax:a.eval x=ax at hxv;cases hxv with
  |fn _ _ _ first' cap' l1 l2 l3 l4=>
   have hvs:GH β w (MS A β h2) (first++c.args.toList.map (ev env2)++cap) (first'++c.args.map a.eval++cap'):=
    (GH.append (GH.append ⟨l1,l3⟩ (GH.args s.env c.args)) ⟨l2,l4⟩)
   rw[e3]at hn;exact Uc (Xj ho hc hax e5) hd (e6 env2 st.defs A β w a _ H hf s hvs) hn
 .cases hr
theorem bf(hT:C9 P W K)(ho:o.op=.call c)(hc:c.callee=.value x)
 (hL:LW W st.heap) (hr:EB C K fr ρ (ev st.env.get x) (c.args.toList.map (ev st.env.get)) o.dst st=.f9 v st')
   (he:J8 st.env.get env2 o.op) (hag: ∀id,st.heap.get id=h2.get id):
 ∃h2',st'.env=st.env∧st'.base=st.base∧st'.defs=st.defs∧(∀id,h2'.get id=st'.heap.get id)∧Vj P ro fr.bv ρ nt o env2 st.defs h2 v h2':=by
 have hx:ev st.env.get x=ev env2 x:=he x (by rw[ho];simp[Op.operands,Call.operands,hc]);have hargs:c.args.toList.map (ev st.env.get)=c.args.toList.map (ev env2):=FE fun y hy=>he y (by rw[ho];simp[Op.operands,Call.operands,hc,hy]);rw[hargs,hx]at hr;unfold EB at hr;split at hr
 .rename_i id hid;unfold Jb at hr;split at hr
  .rename_i r hg;unfold EG at hr;split at hr
   .simp at hr
   .rename_i u hc' hK;simp only[Af,G4.f9.injEq]at hr;obtain⟨rfl,rfl⟩:=hr;refine⟨gc ρ hc',rfl,rfl,rfl,fun id=>rfl,?_⟩;intro A β w a H hf s next Q hn
    have H1:HR A β w st.heap:=H.congr fun id=>(hag id).symm;have hM:=MS.congr (A:=A) (β:=β) hag;have hxv:=IC s.env x;rw[hid]at hxv;generalize hax:a.eval x=ax at hxv;cases hxv with
    |v6 _ k hk=>
     obtain⟨k',hk',l,q1,q2,q3,q4,q5,q6,q7,q9,q8⟩:=H1.obj id _ hg;rw[hk]at hk';cases hk';have hvs:=GH.args s.env c.args;obtain⟨hlen,hround⟩:=(hT _ _ _ _ _ _ _ hK).rw rfl (fun _ _ h=>by cases h;exact hL _ _ hg) hL A β w (c.args.map a.eval) H1 hf (by rw[hM];exact hvs);have hround:=hround k l hg hk q1;have g1:Bh A fr.bv ρ β w h2 β w st.heap:=(Bh.refl H1).congr hag;have hn':l.params.size=c.args.size:=by
      rw[←q5]at hlen;simpa using hlen
     exact pW (Ve ho hc hax q1 hn') (RoundIn.mono hround fun e w' he=>Q5 g1 hf s he) hn
   .cases hr
  .cases hr
 .rename_i g first cap hfn
  simp only[BH]at hr;obtain⟨h2',e1,e2,e3,e4,e5,e6⟩:=Rk (nt:=nt) hT hL hr hag;refine⟨h2',e1,e2,e3,e4,?_⟩;intro A β w a H hf s next Q hn
  have hxv:=IC s.env x;rw[hfn]at hxv;generalize hax:a.eval x=ax at hxv;cases hxv with
  |fn _ _ _ first' cap' l1 l2 l3 l4=>
   have hvs:GH β w (MS A β h2) (first++c.args.toList.map (ev env2)++cap) (first'++c.args.map a.eval++cap'):=
    (GH.append (GH.append ⟨l1,l3⟩ (GH.args s.env c.args)) ⟨l2,l4⟩)
   exact Ub (Xj ho hc hax e5) (e6 env2 st.defs A β w a _ H hf s hvs) hn
 .cases hr
theorem SK{m:String}(ho:o.op=.call c)(hc:c.callee=.invoke x m){g:FuncId}{t:TypeId}{v:Value}(hx:a.eval x=.iface t v)
 (hm:(method (P.types.size+Made.depth) t v m).run P w=.ok (g,v) w) (he:KZ P g):
 (o.semAt ro a.eval).run P w=.ok (.enter g (#[v]++c.args.map a.eval)) w:=by
 rw[Oper.semAt_eq _ _ _ (by simp[ho])];have e:(#[Value.iface t v]++c.args.map a.eval).extract 1 (#[Value.iface t v]++c.args.map a.eval).size=c.args.map a.eval:=by
  apply Array.ext';simp only[Array.toList_extract,Array.toList_append,Rs];simp;rw[DL (by simp)]
 have e0:(#[Value.iface t v]++c.args.map a.eval)[0]? =some (.iface t v):=by
  rw[I9 (by simp)];rfl
 unfold execOp;simp only[ho,resolve,hc,hx,Sem.run_bind,Sem.run_pure,Result.andThen_ok];unfold invoke;simp only[e,e0];simp[callMethod,hm,KG he]
theorem YA{C:CZ}(hC:LD P mix C){K:AN}(hT:C9 P W K){fr:Fr}{o:Oper}{c:Call}{x:Operand}{m:String}(ho:o.op=.call c)(hc:c.callee=.invoke x m){st st':St}{fp:Fp}
 (hL:LW W st.heap) (hr:Fk C K fr ρ (ev st.env.get x) m (c.args.toList.map (ev st.env.get)) o.dst st=.ok st' fp)
 {env2:Nat→AV} {h2:AB} (he:J8 st.env.get env2 o.op) (hag:gI fp.rd st.heap.get h2.get) (hd: ∀d,o.dst=some d→d<nt.n):
 ∃v h2',st'.env=CY st.env o.dst v∧st'.base=st.base∧(∀id,h2'.get id=ii fp.wr st'.heap.get h2.get id)∧N5 P ro fr.bv ρ nt o env2 st.defs h2 v st'.defs h2':=by
 have hx:ev st.env.get x=ev env2 x:=he x (by rw[ho];simp[Op.operands,Call.operands,hc]);have hargs:c.args.toList.map (ev st.env.get)=c.args.toList.map (ev env2):=FE fun y hy=>he y (by rw[ho];simp[Op.operands,Call.operands,hc,hy]);rw[hargs,hx]at hr;unfold Fk at hr;split at hr
 .rename_i t rv hrv;split at hr
  .rename_i g hg;unfold EB at hr;simp only[BH]at hr;obtain⟨v,h2',e1,e2,e3,e4,e5,e6⟩:=UH (nt:=nt) hT hL hr hag;refine⟨v,h2',e1,e2,e4,?_⟩;intro A β w a H hf s next Q hn
   have hxv:=IC s.env x;rw[hrv]at hxv;generalize hax:a.eval x=ax at hxv;cases hxv with
   |iface _ _ u hu=>
    have hvs:GH β w (MS A β h2) ([rv]++c.args.toList.map (ev env2)++[]) (#[u]++c.args.map a.eval):=by
     rw[D9];refine GH.append ⟨rfl,fun i y z hy hz=>?_⟩ (GH.args s.env c.args);cases i with
     |zero=>simp at hy hz;subst hy hz;exact hu
     |succ i=>simp at hy
    rw[e3]at hn;exact Uc (SK ho hc hax (hC.wp t m g hg u w) e5) hd (e6 env2 st.defs A β w a _ H hf s hvs) hn
  .cases hr
 .cases hr
theorem V8{C:CZ}(hC:LD P mix C){K:AN}(hT:C9 P W K){fr:Fr}{o:Oper}{c:Call}{x:Operand}{m:String}(ho:o.op=.call c)(hc:c.callee=.invoke x m){st st':St}{v:AV}
 (hL:LW W st.heap) (hr:Fk C K fr ρ (ev st.env.get x) m (c.args.toList.map (ev st.env.get)) o.dst st=.f9 v st')
 {env2:Nat→AV} {h2:AB} (he:J8 st.env.get env2 o.op) (hag: ∀id,st.heap.get id=h2.get id):
 ∃h2',st'.env=st.env∧st'.base=st.base∧st'.defs=st.defs∧(∀id,h2'.get id=st'.heap.get id)∧Vj P ro fr.bv ρ nt o env2 st.defs h2 v h2':=by
 have hx:ev st.env.get x=ev env2 x:=he x (by rw[ho];simp[Op.operands,Call.operands,hc]);have hargs:c.args.toList.map (ev st.env.get)=c.args.toList.map (ev env2):=FE fun y hy=>he y (by rw[ho];simp[Op.operands,Call.operands,hc,hy]);rw[hargs,hx]at hr;unfold Fk at hr;split at hr
 .rename_i t rv hrv;split at hr
  .rename_i g hg;unfold EB at hr;simp only[BH]at hr;obtain⟨h2',e1,e2,e3,e4,e5,e6⟩:=Rk (nt:=nt) hT hL hr hag;refine⟨h2',e1,e2,e3,e4,?_⟩;intro A β w a H hf s next Q hn
   have hxv:=IC s.env x;rw[hrv]at hxv;generalize hax:a.eval x=ax at hxv;cases hxv with
   |iface _ _ u hu=>
    have hvs:GH β w (MS A β h2) ([rv]++c.args.toList.map (ev env2)++[]) (#[u]++c.args.map a.eval):=by
     rw[D9];refine GH.append ⟨rfl,fun i y z hy hz=>?_⟩ (GH.args s.env c.args);cases i with
     |zero=>simp at hy hz;subst hy hz;exact hu
     |succ i=>simp at hy
    exact Ub (SK ho hc hax (hC.wp t m g hg u w) e5) (e6 env2 st.defs A β w a _ H hf s hvs) hn
  .cases hr
 .cases hr
theorem bg{C:CZ}{K:AN}{fr:Fr}(hro:fr.wl=false→ro=none){o:Oper}{c:Call}(ho:o.op=.defer c){st st':St}{fp:Fp}(hr:HQ fr st.env.get c o.dst st=.ok st' fp)
 {env2:Nat→AV} {h2:AB} (he:J8 st.env.get env2 o.op) (hag:gI fp.rd st.heap.get h2.get) (hd: ∀d,o.dst=some d→d<nt.n):
 ∃v h2',st'.env=CY st.env o.dst v∧st'.base=st.base∧(∀id,h2'.get id=ii fp.wr st'.heap.get h2.get id)∧N5 P ro fr.bv ρ nt o env2 st.defs h2 v st'.defs h2':=by
 unfold HQ at hr;split at hr
 .rename_i x hc;have hx:ev st.env.get x=ev env2 x:=he x (by rw[ho];simp[Op.operands,Call.operands,hc]);have hargs:c.args.toList.map (ev st.env.get)=c.args.toList.map (ev env2):=FE fun y hy=>he y (by rw[ho];simp[Op.operands,Call.operands,hc,hy]);split at hr
  .rename_i g hfn hrnd;simp only[G4.ok.injEq]at hr;obtain⟨rfl,rfl⟩:=hr;refine⟨.undef,h2,rfl,rfl,fun id=>(hag id).symm,?_⟩;intro A β w a H hf s next Q hn
   have hro':=hro hrnd;subst hro';have hxv:=IC s.env x;rw[←hx,hfn]at hxv;generalize hax:a.eval x=ax at hxv;cases hxv with
   |fn _ _ _ first' cap' l1 l2 l3 l4=>
    have hf0:first'= #[]:=MT l1.symm;have hc0:cap'= #[]:=MT l2.symm;subst hf0 hc0;refine⟨fun _ _=>trivial,?_⟩;have hrun:(o.semAt (FF none).round a.eval).run P w=.ok (.defer {target:=.fn (.func g) #[],args:=c.args.map a.eval}) w:=by
     show(execOp a.eval o).run P w=_;simp[execOp,ho,resolve,hc,hax,Deferred.ofValue]
    rw[hrun,Oper.uponIn_defer];refine hn _ _ ⟨β,Bh.refl H,?_⟩;have s':K5 A β w nt env2 (.call g (c.args.toList.map (ev st.env.get))::st.defs) h2 {a with defers:={target:=.fn (.func g) #[],args:=c.args.map a.eval}::a.defers}:=
     ⟨s.sz,s.env,⟨.call _ _ _ (by rw[hargs];exact GH.args s.env c.args),s.defs,fun _ _ _ h=>by cases h⟩⟩
    exact s'.put hd (.undef _)
  .cases hr
 .cases hr
theorem bj(ho:o.op=.panic x)(hr:Fw st (ev st.env.get x)=.f9 v st')
   (he:J8 st.env.get env2 o.op) (hag: ∀id,st.heap.get id=h2.get id):
 ∃h2',st'.env=st.env∧st'.base=st.base∧st'.defs=st.defs∧(∀id,h2'.get id=st'.heap.get id)∧Vj P ro fr.bv ρ nt o env2 st.defs h2 v h2':=by
 have hx:ev st.env.get x=ev env2 x:=he x (by rw[ho];simp[Op.operands]);unfold Fw at hr;split at hr
 .split at hr
  .rename_i t u hv;simp only[G4.f9.injEq]at hr;obtain⟨rfl,rfl⟩:=hr;refine⟨h2,rfl,rfl,rfl,fun id=>(hag id).symm,?_⟩;intro A β w a H hf s next Q hn
   have hxv:=IC s.env x;rw[←hx,hv]at hxv;generalize hax:a.eval x=ax at hxv;cases hxv with
   |iface _ _ u' hu=>
    refine⟨fun _ _=>trivial,?_⟩;have hrun:(o.semAt (FF ro).round a.eval).run P w=.halt (.panic (.iface t u')) w:=by
     rw[Oper.semAt_eq _ _ _ (by simp[ho])];simp[execOp,ho,hax,Instr.panic,goPanic]
    rw[hrun];exact hn a w _ ⟨β,Bh.refl H,s,.iface _ _ _ hu⟩
  .cases hr
 .cases hr
theorem yD(hC:LD P mix C)(hT:C9 P W K)(hro:fr.wl=false→ro=none)(hL:LW W st.heap)(hr:A4 C K fr ρ o.op o.dst st=.ok st' fp)
   (he:J8 st.env.get env2 o.op) (hag:gI fp.rd st.heap.get h2.get) (hd: ∀d,o.dst=some d→d<nt.n):
 ∃v h2',st'.env=CY st.env o.dst v∧st'.base=st.base∧(∀id,h2'.get id=ii fp.wr st'.heap.get h2.get id)∧N5 P ro fr.bv ρ nt o env2 st.defs h2 v st'.defs h2':=by
 unfold A4 at hr;split at hr
 .rename_i c hop;split at hr
  .rename_i x hc;exact jf (C:=C) hT hop hc hL hr he hag hd
  .rename_i x m hc;exact YA hC hT hop hc hL hr he hag hd
  .rename_i b hc;have e:J3 C.T st.env.get st.heap.get ρ c=evalOp C.T st.env.get st.heap.get ρ o.op:=by rw[hop];rfl
   rw[e]at hr;exact Zu hC hr (by simp[hop]) he hag hd
 .rename_i x hop;unfold Fw at hr;split at hr
  .split at hr<;>cases hr
  .cases hr
 .rename_i c hop;exact bg (C:=C) (K:=K) hro hop hr he hag hd
 .rename_i h1 h2 h3;exact Zu hC hr (fun c hc=>h3 c hc) he hag hd
theorem rm(hC:LD P mix C)(hT:C9 P W K)(hL:LW W st.heap)(hr:A4 C K fr ρ o.op o.dst st=.f9 v st')
   (he:J8 st.env.get env2 o.op) (hag: ∀id,st.heap.get id=h2.get id):
 ∃h2',st'.env=st.env∧st'.base=st.base∧st'.defs=st.defs∧(∀id,h2'.get id=st'.heap.get id)∧Vj P ro fr.bv ρ nt o env2 st.defs h2 v h2':=by
 have noPlain: ∀{x:Option CJ},DJ fr o.op o.dst st x=.f9 v st'→False:=by
  intro x hr;unfold DJ at hr;split at hr
  .simp only[J0,Bk]at hr;split at hr
   .simp at hr
   .cases hr
  .cases hr
 unfold A4 at hr;split at hr
 .rename_i c hop;split at hr
  .rename_i x hc;exact bf (C:=C) hT hop hc hL hr he hag
  .rename_i x m hc;exact V8 hC hT hop hc hL hr he hag
  .skip
   exact(noPlain hr).elim
 .rename_i x hop;exact bj hop hr he hag
 .rename_i c hop;unfold HQ at hr;split at hr
  .split at hr<;>cases hr
  .cases hr
 .exact(noPlain hr).elim
variable{P:Program}{mix:List TypeId}{ρ:List Nat}{W:Lp→Prop}
theorem PJ{wr:Option (List Id)}{id:Id}:ii wr g g id=g id:=by
 cases wr with
 |none=>rfl
 |some l=>simp[ii]
theorem wy{h:AB}{id:Id}:ii (some (δ.map (·.1))) (h.puts δ).get h.get id=(h.puts δ).get id:=by
 simp only[ii];split
 .rfl
 .rename_i hi;exact(L3 hi).symm
def qD(st st':St)(fp:Fp):Prop:=st'.defs=st.defs∧ ∀id,ii fp.wr st'.heap.get st.heap.get id=st'.heap.get id
variable{dst:Option Tmp}
theorem L4{E:E (Ae×AB)}(hr:EG ρ dst st E=.ok st' fp):qD st st' fp:=by
 unfold EG at hr;split at hr
 .simp only[A6,Af,G4.ok.injEq]at hr;obtain⟨rfl,rfl⟩:=hr;exact⟨rfl,fun id=>(S9 (fun _=>rfl) id).symm⟩
 .simp at hr
 .cases hr
theorem Xi{f:FuncId}{m:Mode}(hr:DX K fr ρ f as dst st m=.ok st' fp):qD st st' fp:=by
 unfold DX at hr;split at hr
 .exact L4 hr
 .split at hr
  .rename_i xs hx;simp only[BH]at hr;unfold DQ at hr;split at hr
   .rename_i v hc hK;simp only[A6]at hr;split at hr
    .simp only[G4.ok.injEq]at hr;obtain⟨rfl,rfl⟩:=hr;exact⟨rfl,fun _=>PJ⟩
    .unfold HY at hr;split at hr
     .rename_i o ho;simp only[Af,G4.ok.injEq]at hr;obtain⟨rfl,rfl⟩:=hr;refine⟨rfl,fun id=>?_⟩;obtain⟨i,ob⟩:=o;simp only[ii,As,AB.get_cons];by_cases e:id=i
      .simp[e]
      .simp[e,Ne.symm e]
     .simp only[Bk]at hr;split at hr
      .simp only[Af,G4.ok.injEq]at hr;obtain⟨rfl,rfl⟩:=hr;refine⟨rfl,fun id=>?_⟩;simp only[ii];split
       .rfl
       .rename_i hi;simp only[EX,not_or]at hi;rw[AB.get_append,L3 hi.1];cases hg:hc.get id with
        |none=>rfl
        |some o=>exact absurd (SY hg) hi.2
      .cases hr
   .split at hr<;>cases hr
   .cases hr
  .unfold E7 at hr;simp only[BH,Bk,Af]at hr;split at hr
   .unfold PA at hr;split at hr
    .split at hr
     .simp only[A6,G4.ok.injEq]at hr;obtain⟨rfl,rfl⟩:=hr;exact⟨rfl,fun _=>PJ⟩
     .cases hr
    .split at hr<;>cases hr
    .cases hr
   .split at hr
    .exact L4 hr
    .cases hr
theorem QJ{fv:AV}{args:List AV}(hr:EB C K fr ρ fv args dst st=.ok st' fp):qD st st' fp:=by
 unfold EB at hr;split at hr
 .unfold Jb at hr;split at hr
  .exact L4 hr
  .cases hr
 .simp only[BH]at hr;exact Xi hr
 .cases hr
variable{op:Op}
theorem OE{x:Option CJ}(hr:DJ fr op dst st x=.ok st' fp):qD st st' fp:=by
 unfold DJ at hr;split at hr
 .simp only[J0,Bk]at hr;split at hr
  .simp only[A6,Lf,G4.ok.injEq]at hr;obtain⟨rfl,rfl⟩:=hr;exact⟨rfl,fun _=>wy⟩
  .cases hr
 .cases hr
theorem rn(hr:A4 C K fr ρ op dst st=.ok st' fp):(∀id,ii fp.wr st'.heap.get st.heap.get id=st'.heap.get id)∧((∀c,op≠ .defer c)→st'.defs=st.defs):=by
 have fin:qD st st' fp→(∀id,ii fp.wr st'.heap.get st.heap.get id=st'.heap.get id)∧((∀c,op≠ .defer c)→st'.defs=st.defs):=fun c=>⟨c.2,fun _=>c.1⟩;unfold A4 at hr;split at hr
 .split at hr
  .exact fin (QJ hr)
  .unfold Fk at hr;split at hr
   .split at hr
    .exact fin (QJ hr)
    .cases hr
   .cases hr
  .exact fin (OE hr)
 .unfold Fw at hr;split at hr
  .split at hr<;>cases hr
  .cases hr
 .rename_i c;unfold HQ at hr;split at hr
  .split at hr
   .simp only[G4.ok.injEq]at hr;obtain⟨rfl,rfl⟩:=hr;exact⟨fun _=>PJ,fun h=>absurd rfl (h c)⟩
   .cases hr
  .cases hr
 .exact fin (OE hr)
theorem Nw{ops:Array Oper}(hr:CQ C K fr ops ρ o st=.ok st' fp):
 (∀id,ii fp.wr st'.heap.get st.heap.get id=st'.heap.get id)∧((∀c,o.op≠ .defer c)→st'.defs=st.defs):=by
 unfold CQ at hr;split at hr
 .cases hr
 .simp only[A6,G4.ok.injEq]at hr;obtain⟨rfl,rfl⟩:=hr;exact⟨fun _=>PJ,fun _=>rfl⟩
 .exact rn hr
def vp:Op→Bool
 |.move _|.assign _|.pick ..|.alloc _|.box ..|.build ..|.nilCheck _|.binOp ..|.unOp ..|.makeInterface ..|.typeAssert ..|.makeFunc ..|.makeMap ..|.makeSlice ..|.fieldAddr ..|.field ..|.index ..|.extract ..=>true
 |.call c=>match c.callee with
  |.builtin .max=>true
  |.builtin .min=>true
  |_=>false
 |_=>false
def XK:Op→Bool
 |.move _|.assign _|.pick ..|.build ..|.load ..|.nilCheck _|.binOp ..|.unOp ..|.makeInterface ..|.typeAssert ..|.makeFunc ..|.lookup ..|.slice ..|.fieldAddr ..|.field ..|.indexAddr ..|.index ..|.extract ..=>true
 |.call c=>match c.callee with
  |.builtin .max=>true
  |.builtin .min=>true
  |.builtin .len=>true
  |_=>false
 |_=>false
theorem vq{e:Nat→AV}(h:vp op=true):E5 e g op=[]:=by
 cases op<;>first|rfl|(simp[vp]at h;done)|skip
 rename_i c;obtain⟨callee,args,ats⟩:=c;cases callee with
 |builtin b=>cases b<;>first|rfl|simp[vp]at h
 |_=>simp[vp]at h
variable{α:Type}{eff:CJ}
theorem map_nil{f:α→AV}{x:Option α}(h:x.map (fun y=>(⟨f y,[]⟩:CJ))=some eff):eff.δ=[]:=by
 simp only[BV]at h;obtain⟨y,_,rfl⟩:=h;rfl
variable{T:TypeId→Option TI}{n:Id}
theorem ah{e:Nat→AV}(h:XK op=true)(he:evalOp T e g n op=some eff):eff.δ=[]:=by
 cases op<;>first|(simp[XK]at h;done)|skip
 all_goals simp only[evalOp]at he
 case move=>cases he;rfl
 case assign=>cases he;rfl
 case pick=>unfold Ni at he;split at he<;>cases he;rfl
 case build=>unfold Jo at he;split at he
             .split at he
              .cases he
              .exact map_nil he
             .cases he
 case load=>unfold Kz at he;split at he
            .exact map_nil he
            .cases he
 case nilCheck=>unfold GM at he;split at he<;>cases he<;>rfl
 case binOp=>exact map_nil he
 case unOp=>
  unfold oB at he;split at he
  .unfold iJ at he;split at he<;>cases he;rfl
  .cases he
 case makeInterface=>
  unfold Kx at he;split at he
  .split at he<;>cases he;rfl
  .cases he
 case makeFunc=>unfold GL at he;split at he<;>cases he;rfl
 case slice=>
  unfold Gy at he;split at he
  .split at he
   .exact map_nil he
   .exact map_nil he
   .cases he
  .cases he
 case fieldAddr=>
  unfold EY at he;split at he
  .split at he
   .split at he
    .cases he
    .split at he
     .cases he;rfl
     .cases he;rfl
     .split at he<;>cases he;rfl
     .cases he
   .cases he
  .cases he
 case field=>
  unfold Mm at he;split at he
  .split at he
   .exact map_nil he
   .cases he
  .cases he
 case indexAddr=>
  unfold C1 at he;split at he
  .split at he
   .unfold NG at he;split at he
    .split at he
     .split at he
      .split at he<;>cases he;rfl
      .cases he
     .split at he
      .split at he<;>first|(split at he<;>cases he;rfl)|cases he
      .cases he
     .cases he
    .cases he
   .cases he
  .cases he
 case index=>
  unfold Ky at he;split at he
  .split at he
   .exact map_nil he
   .cases he
  .cases he
 case lookup=>
  unfold FI at he;split at he
  .split at he
   .split at he
    .split at he
     .unfold Kt at he;split at he<;>cases he<;>rfl
     .cases he
    .cases he
   .cases he
  .cases he
 case typeAssert x xt t ok=>
  cases ok with
  |false=>cases he
  |true=>
   simp only at he;unfold Hs at he;split at he
   .split at he
    .cases he
    .split at he
     .cases he;rfl
     .exact map_nil he
   .cases he
 case extract=>
  unfold HF at he;split at he
  .exact map_nil he
  .cases he
 case call c=>
  obtain⟨callee,args,ats⟩:=c;cases callee with
  |builtin b=>
   simp only[J3]at he;unfold GX at he;cases b<;>first|(simp[XK]at h;done)|skip
   .simp only at he;split at he
    .split at he
     .split at he
      .exact map_nil he
      .cases he
     .cases he
    .cases he
   .simp only at he;split at he
    .unfold ZN at he;split at he
     .split at he<;>cases he;rfl
     .cases he
    .cases he
   .simp only at he;split at he
    .unfold ZO at he;split at he
     .split at he<;>cases he;rfl
     .cases he
    .cases he
  |_=>simp[XK]at h
theorem bk{x:Option CJ}(hr:DJ fr op dst st x=.ok st' fp): ∃eff,x=some eff∧fp=⟨some (E5 st.env.get st.heap.get op),some (eff.δ.map (·.1))⟩:=by
 unfold DJ at hr;split at hr
 .simp only[J0,Bk]at hr;split at hr
  .simp only[A6,Lf,G4.ok.injEq]at hr;obtain⟨rfl,rfl⟩:=hr;exact⟨_,rfl,rfl⟩
  .cases hr
 .cases hr
theorem VT{ops:Array Oper}(hr:CQ C K fr ops ρ o st=.ok st' fp):
 (vp o.op=true→fp.rd=some [])∧(XK o.op=true→fp.wr=some []):=by
 unfold CQ at hr;split at hr
 .cases hr
 .simp only[A6,G4.ok.injEq]at hr;obtain⟨rfl,rfl⟩:=hr;exact⟨fun _=>rfl,fun _=>rfl⟩
 .have plain: ∀{x:Option CJ},DJ fr o.op o.dst st x=.ok st' fp→x=evalOp C.T st.env.get st.heap.get ρ o.op→(vp o.op=true→fp.rd=some [])∧(XK o.op=true→fp.wr=some []):=by
   intro x hr hx;obtain⟨eff,rfl,rfl⟩:=bk hr;exact⟨fun h=>by simp only[vq h],fun h=>by simp only[ah h hx.symm,D4]⟩
  unfold A4 at hr;split at hr
  .rename_i c hop;split at hr
   .rename_i x hc;exact⟨fun h=>by simp[hop,vp,hc]at h,fun h=>by simp[hop,XK,hc]at h⟩
   .rename_i x y hc;exact⟨fun h=>by simp[hop,vp,hc]at h,fun h=>by simp[hop,XK,hc]at h⟩
   .exact plain hr (by rw[hop];rfl)
  .unfold Fw at hr;split at hr
   .split at hr<;>cases hr
   .cases hr
  .rename_i c hop;exact⟨fun h=>by simp[hop,vp]at h,fun h=>by simp[hop,XK]at h⟩
  .exact plain hr rfl
variable{es:List (List AV)}
theorem BG.newArr{j:TI}(h:newArr g n j es=some eff):BG eff.δ:=by
 unfold Abs.newArr at h;split at h
 .cases h
 .split at h
  .cases h;exact .one rfl
  .split at h
   .cases h;exact(BG.markEs es).append (.one rfl)
   .cases h
theorem BG.mapE{f:α→CJ}{x:Option α}(hf: ∀y,BG (f y).δ)(h:x.map f=some eff):BG eff.δ:=by
 simp only[BV]at h;obtain⟨y,_,rfl⟩:=h;exact hf y
variable{off sz:Nat}{src:List (List AV)}
theorem BG.appIn{id:Id}{k:Nat}{es:List (List AZ)}(h:appIn g n id off k sz es src=some eff):BG eff.δ:=by
 unfold Abs.appIn at h;split at h
 .split at h
  .cases h;exact(BG.markEs src).append (.one rfl)
  .split at h
   .cases h;exact(BG.markEs src).append (.cons rfl (.one rfl))
   .cases h
 .cases h
theorem BG.appMix{id:Id}{k:Nat}(h:appMix n id off k sz es src=some eff):BG eff.δ:=by
 unfold Abs.appMix at h;split at h
 .cases h;exact .one rfl
 .split at h
  .cases h;exact .cons rfl (.one rfl)
  .cases h
variable{s:AV}
theorem BG.appTo{j:TI}(h:appTo g n j s src=some eff):BG eff.δ:=by
 unfold Abs.appTo at h;split at h
 .exact .newArr h
 .exact .newArr h
 .split at h
  .split at h
   .exact .appIn h
   .cases h
  .split at h
   .exact .appMix h
   .cases h
  .cases h
 .cases h
theorem BG.appendV{j:TI}{x:AV}(h:appendV g n j s x=some eff):BG eff.δ:=by
 unfold Abs.appendV at h;split at h
 .cases h
 .split at h<;>cases h<;>exact .nil
 .split at h
  .exact .appTo h
  .cases h
theorem BG.store{i:TI}{a:AV}(h:JW g i a v=some eff):BG eff.δ:=by
 unfold JW at h;split at h
 .cases h
 .split at h
  .split at h
   .exact .mapE (fun _=>.one rfl) h
   .cases h
  .split at h
   .split at h
    .exact .mapE (fun _=>(BG.marks _).append (.one rfl)) h
    .cases h
   .split at h
    .exact .mapE (fun _=>.one rfl) h
    .cases h
   .cases h
  .cases h
theorem BG.mapPut{t:Option TI}{m k:AV}(h:mapPut T g t m k v=some eff):BG eff.δ:=by
 unfold Abs.mapPut at h;split at h
 .cases h
 .split at h
  .split at h
   .split at h
    .cases h;exact .one rfl
    .cases h
   .cases h
  .cases h
theorem BG.evalOp{T:TypeId→Option TI}{e:Nat→AV}{g:G}{n:Id}{op:Op}{eff:CJ}(h:evalOp T e g n op=some eff):BG eff.δ:=by
 by_cases hw:XK op=true
 .rw[ah hw h];exact .nil
 cases op<;>simp only[XK,not_true_eq_false]at hw<;>simp only[Abs.evalOp,reduceCtorEq]at h
 case alloc=>unfold Jn at h;split at h
             .split at h<;>cases h;exact .one rfl
             .cases h
 case box=>unfold QY at h;split at h
           .split at h<;>cases h;exact .one rfl
           .cases h
 case buildSlice=>
  unfold Cd at h;split at h
  .split at h
   .unfold Gl at h;split at h
    .split at h
     .cases h;exact .nil
     .split at h
      .exact .newArr h
      .cases h
    .cases h
   .cases h
  .cases h
 case store=>unfold IX at h;split at h
             .exact .store h
             .cases h
 case makeMap=>unfold HG at h;split at h<;>cases h;exact .one rfl
 case makeSlice=>
  unfold Cn at h;split at h
  .split at h
   .split at h
    .unfold Fz at h;split at h
     .cases h;exact .nil
     .exact .newArr h
    .cases h
   .cases h
  .cases h
 case insert=>exact .mapPut h
 case mapUpdate=>exact .mapPut h
 case call c=>
  obtain⟨callee,args,ats⟩:=c;unfold J3 at h;split at h
  .rename_i b hb;simp only at hb;subst hb;unfold GX at h;split at h
   .simp[XK]at hw
   .split at h
    .unfold Hr at h;split at h
     .split at h
      .exact .appendV h
      .cases h
     .cases h
    .cases h
   .split at h
    .unfold GA at h;split at h
     .split at h
      .split at h
       .cases h;exact .nil
       .split at h
        .unfold HP at h;split at h
         .split at h
          .split at h
           .exact .mapE (fun _=>.one rfl) h
           .cases h
          .cases h
         .cases h
        .cases h
      .cases h;exact .nil
      .cases h;exact .nil
      .cases h
     .cases h
    .cases h
   .simp[XK]at hw
   .simp[XK]at hw
   .cases h
  .cases h
theorem P2{E:E (Ae×AB)}(hE: ∀c hc,E=.ok (c,hc)→LW W hc)(hr:EG ρ dst st E=.ok st' fp):LW W st'.heap:=by
 unfold EG at hr;split at hr
 .rename_i v hc;simp only[A6,Af,G4.ok.injEq]at hr;obtain⟨rfl,rfl⟩:=hr;exact(hE _ _ rfl).gc
 .simp at hr
 .cases hr
theorem jC(hT:C9 P W K){f:FuncId}{m:Mode}(hL:LW W st.heap)(hr:DX K fr ρ f as dst st m=.ok st' fp):LW W st'.heap:=by
 unfold DX at hr;split at hr
 .exact P2 (fun c hc hK=>(hT _ _ _ _ _ _ _ hK).lw (fun _ _ h=>by cases h) hL) hr
 .split at hr
  .rename_i xs hx;simp only[BH]at hr;unfold DQ at hr;split at hr
   .rename_i v hc hK;simp only[A6]at hr;split at hr
    .simp only[G4.ok.injEq]at hr;obtain⟨rfl,rfl⟩:=hr;exact hL
    .unfold HY at hr;split at hr
     .rename_i o ho;simp only[Af,G4.ok.injEq]at hr;obtain⟨rfl,rfl⟩:=hr;refine hL.cons ?_;unfold BT at ho;split at ho
      .split at ho
       .split at ho<;>cases ho;rfl
       .cases ho
      .cases ho
     .simp only[Bk]at hr;split at hr
      .simp only[Af,G4.ok.injEq]at hr;obtain⟨rfl,rfl⟩:=hr;exact((hT _ _ _ _ _ _ _ hK).lw (fun _ _ h=>by cases h) LW.nil).append (hL.puts (BG.markAll as))
      .cases hr
   .split at hr<;>cases hr
   .cases hr
  .unfold E7 at hr;simp only[BH,Bk,Af]at hr;split at hr
   .unfold PA at hr;split at hr
    .split at hr
     .simp only[A6,G4.ok.injEq]at hr;obtain⟨rfl,rfl⟩:=hr;exact hL
     .cases hr
    .split at hr<;>cases hr
    .cases hr
   .split at hr
    .exact P2 (fun c hc hK=>(hT _ _ _ _ _ _ _ hK).lw (fun _ _ h=>by cases h) (hL.puts (BG.markAll as))) hr
    .cases hr
theorem R1{x:Option CJ}(hx: ∀eff,x=some eff→BG eff.δ)(hL:LW W st.heap)(hr:DJ fr op dst st x=.ok st' fp):LW W st'.heap:=by
 unfold DJ at hr;split at hr
 .simp only[J0,Bk]at hr;split at hr
  .simp only[A6,Lf,G4.ok.injEq]at hr;obtain⟨rfl,rfl⟩:=hr;exact hL.puts (hx _ rfl)
  .cases hr
 .cases hr
theorem VU(hT:C9 P W K){ops:Array Oper}(hL:LW W st.heap)(hr:CQ C K fr ops ρ o st=.ok st' fp):LW W st'.heap:=by
 have call: ∀{fv:AV} {args:List AV} {dst:Option Tmp},EB C K fr ρ fv args dst st=.ok st' fp→LW W st'.heap:=by
  intro fv args dst hr;unfold EB at hr;split at hr
  .unfold Jb at hr;split at hr
   .rename_i r hg;exact P2 (fun c hc hK=>(hT _ _ _ _ _ _ _ hK).lw (fun _ _ h=>by cases h;exact hL _ _ hg) hL) hr
   .cases hr
  .simp only[BH]at hr;exact jC hT hL hr
  .cases hr
 unfold CQ at hr;split at hr
 .cases hr
 .simp only[A6,G4.ok.injEq]at hr;obtain⟨rfl,rfl⟩:=hr;exact hL
 .unfold A4 at hr;split at hr
  .split at hr
   .exact call hr
   .unfold Fk at hr;split at hr
    .split at hr
     .exact call hr
     .cases hr
    .cases hr
   .rename_i c b hb;refine R1 (fun eff he=>?_) hL hr;exact BG.evalOp (op:=.call _) he
  .unfold Fw at hr;split at hr
   .split at hr<;>cases hr
   .cases hr
  .unfold HQ at hr;split at hr
   .split at hr
    .simp only[G4.ok.injEq]at hr;obtain⟨rfl,rfl⟩:=hr;exact hL
    .cases hr
   .cases hr
  .exact R1 (fun eff he=>BG.evalOp he) hL hr
theorem Tr(hT:C9 P W K){ops:Array Oper}(hL:LW W st.heap)(hr:CQ C K fr ops ρ o st=.f9 v st'):LW W st'.heap:=by
 have raw: ∀{E:E (Ae×AB)} {dst:Option Tmp},(∀c hc,E=.ok (c,hc)→LW W hc)→EG ρ dst st E=.f9 v st'→LW W st'.heap:=by
  intro E dst hE hr;unfold EG at hr;split at hr
  .simp at hr
  .rename_i v hc;simp only[Af,G4.f9.injEq]at hr;obtain⟨rfl,rfl⟩:=hr;exact(hE _ _ rfl).gc
  .cases hr
 have plain: ∀{op:Op} {dst:Option Tmp} {x:Option CJ},DJ fr op dst st x=.f9 v st'→False:=by
  intro op dst x hr;unfold DJ at hr;split at hr
  .simp only[J0,Bk]at hr;split at hr
   .simp at hr
   .cases hr
  .cases hr
 have call: ∀{fv:AV} {args:List AV} {dst:Option Tmp},EB C K fr ρ fv args dst st=.f9 v st'→LW W st'.heap:=by
  intro fv args dst hr;unfold EB at hr;split at hr
  .unfold Jb at hr;split at hr
   .rename_i r hg;exact raw (fun c hc hK=>(hT _ _ _ _ _ _ _ hK).lw (fun _ _ h=>by cases h;exact hL _ _ hg) hL) hr
   .cases hr
  .simp only[BH]at hr;unfold DX at hr;split at hr
   .exact raw (fun c hc hK=>(hT _ _ _ _ _ _ _ hK).lw (fun _ _ h=>by cases h) hL) hr
   .split at hr
    .rename_i xs hx;simp only[BH]at hr;unfold DQ at hr;split at hr
     .simp only[A6]at hr;split at hr
      .cases hr
      .unfold HY at hr;split at hr
       .simp at hr
       .simp only[Bk]at hr;split at hr
        .simp at hr
        .cases hr
     .split at hr
      .simp only[G4.f9.injEq]at hr;obtain⟨rfl,rfl⟩:=hr;exact hL
      .cases hr
     .cases hr
    .unfold E7 at hr;simp only[BH,Bk,Af]at hr;split at hr
     .unfold PA at hr;split at hr
      .split at hr
       .simp at hr
       .cases hr
      .split at hr
       .simp only[G4.f9.injEq]at hr;obtain⟨rfl,rfl⟩:=hr;exact hL
       .cases hr
      .cases hr
     .split at hr
      .exact raw (fun c hc hK=>(hT _ _ _ _ _ _ _ hK).lw (fun _ _ h=>by cases h) (hL.puts (BG.markAll _))) hr
      .cases hr
  .cases hr
 unfold CQ at hr;split at hr
 .cases hr
 .simp at hr
 .unfold A4 at hr;split at hr
  .split at hr
   .exact call hr
   .unfold Fk at hr;split at hr
    .split at hr
     .exact call hr
     .cases hr
    .cases hr
   .exact(plain hr).elim
  .unfold Fw at hr;split at hr
   .split at hr
    .simp only[G4.f9.injEq]at hr;obtain⟨rfl,rfl⟩:=hr;exact hL
    .cases hr
   .cases hr
  .unfold HQ at hr;split at hr
   .split at hr<;>cases hr
   .cases hr
  .exact(plain hr).elim
variable{A:Nat→Prop}{P:Program}{mix:List TypeId}{β β' β'':Au}{w w' w'':World}{M:Nat→Prop}{h h' h'':AB}{π ρ:List Nat}{bv:Option (List Nat)}{nt:NT}{env:Nat→AV}{defs defs':List Df}{a:Act}{ro:Option Nat}{W:Lp→Prop}
def CA(β:Au)(π:List Nat)(b:Nat):Prop:= ∀n,b≤n→E0 β (n::π)
theorem Js{n m:Nat}{π id:List Nat}(h1:(n::π)<:+id)(h2:(m::π)<:+id):n=m:=by
 obtain⟨t1,e1⟩:=h1;obtain⟨t2,e2⟩:=h2;have:=e1.trans e2.symm;have:=List.append_inj_right' this (by simp);simpa using this
theorem E0.other{n m:Nat}(hf:E0 β (m::π))(hne:m≠n)(ho: ∀id,¬(n::π)<:+id→β' id=β id):E0 β' (m::π):=fun id hi=>by
 rw[ho id fun h=>hne (Js hi h)];exact hf id hi
theorem CA.next{n:Nat}(hf:CA β π n)(ho: ∀id,¬(n::π)<:+id→β' id=β id):CA β' π (n+1):=
 fun m hm=>(hf m (by omega)).other (by omega) ho
def Kr(ops:Array Oper)(e:Nat→AV)(o:Oper):Option Bool:=
 match o.guard with
 |none=>some true
 |some (j,want)=>match((ops[j]?).bind (·.dst)).map e with
  |some (.d (.bool b))=>some (b==want)
  |some (.ge [])=>some false
  |_=>none
def G6(ops:Array Oper)(j:Nat):Option Tmp:=(ops[j]?).bind fun o=>o.dst
variable{Q':Exit→Act→World→Prop}
theorem Oj(hq: ∀e a w,Q e a w→Q' e a w)(h:LetsOut Q):LetsOut Q':=let ⟨a,w,h⟩:=h;⟨a,w,hq _ _ _ h⟩
theorem XE{F:Fence}{n:Nat}{ops:Array Oper}(hq: ∀e a w,Q e a w→Q' e a w){i:Nat}{K:Act→World→Prop}{a:Act}{w:World}(h:wpOpIn F n P ops Q i K a w):wpOpIn F n P ops Q' i K a w:=by
 unfold wpOpIn at*;split
 .rename_i h0;rw[h0]at h;exact h
 .rename_i o ho;simp only[ho]at h;split
  .rename_i hw;simp only[hw,F3]at h;refine⟨h.1,?_⟩;have h:=h.2;generalize (o.semAt F.round a.eval).run P w=r at*;cases r with
   |ok x w'=>
    cases x<;>simp only[Oper.uponIn]at h⊢ <;>
     first
      |exact h
      |exact⟨h.1,CallsIn.mono h.2 (fun e w'' he=>by cases e<;>first|exact he|exact hq _ _ _ he|exact Oj hq he)⟩
      |exact⟨h.1,RoundIn.mono h.2 (fun e w'' he=>by cases e<;>first|exact he|exact hq _ _ _ he|exact Oj hq he)⟩
   |halt x w'=>cases x<;>simp only[Oper.uponIn]at h⊢ <;>first|exact h|exact hq _ _ _ h
  .rename_i hw;simp only[hw]at h;exact h
variable{b:Nat}
theorem CA.next'{i:Nat}(hf:CA β π (b+i))(ho: ∀id,¬((b+i)::π)<:+id→β' id=β id):CA β' π (b+(i+1)):=hf.next ho
theorem CA.mono{c:Nat}(hf:CA β π b)(h:b≤c):CA β π c:=fun n hn=>hf n (Hm h hn)
theorem K3{F:Fence}{n:Nat}{ops:Array Oper}(hq: ∀e a w,Q e a w→Q' e a w): ∀{l:List Nat} {a:Act} {w:World},wpOpsIn F n P ops Q l a w→wpOpsIn F n P ops Q' l a w
 |[],a,w,h=>hq _ _ _ h
 |i::l,a,w,h=>by
  rw[wpOpsIn_cons]at h⊢;have:=wpOpIn_mono (K':=wpOpsIn F n P ops Q' l) (fun a w=>K3 hq) h;exact XE hq this
theorem ABO{u:Value}(h:VR β w M (.ge []) u):u=.tuple #[]:=by
 cases h with
 |ge _ c h1 _=>
  have:c= #[]:=MT (by simpa using h1.symm);rw[this]
theorem QB{ops:Array Oper}{e:Nat→AV}{t:Bool}(he:JY β w M e fun t=>a.tmps.getD t Go.undef)(hsz: ∀d j,G6 ops j=some d→d<a.tmps.size)(hg:Kr ops e o=some t):
 Region.wanted o (yielded ops a.tmps)=t:=by
 unfold Kr at hg;unfold Region.wanted;split at hg
 .rename_i h0;rw[h0];simpa using hg
 .rename_i j want h0;rw[h0];simp only;cases hd:(ops[j]?).bind (·.dst)with
  |none=>rw[hd]at hg;cases hg
  |some d=>
   rw[hd]at hg;simp only[El]at hg;split at hg
   .rename_i b hb;simp only[Bv]at hb hg;have hv:=he d;rw[hb]at hv;have hv':=Hf hv;have hlt:=hsz d j hd;have:a.tmps[d]? =some (.bool b):=by
     simp only at hv';rw[F7,D6 hlt]at hv';rw[D6 hlt];simpa using hv'
    simp only[yielded,hd,I7,this];rw[←hg];cases b<;>cases want<;>rfl
   .rename_i hb;simp only[Bv]at hb hg;have hv:=he d;rw[hb]at hv;have hv':a.tmps.getD d Go.undef=.tuple #[]:=ABO hv;have hlt:=hsz d j hd;have:a.tmps[d]? =some (.tuple #[]):=by
     rw[F7,D6 hlt]at hv';rw[D6 hlt];simpa using hv'
    simp only[yielded,hd,I7,this];rw[←hg];rfl
   .cases hg
theorem P8(hC:LD P mix C)(hT:C9 P W K)(hro:fr.wl=false→ro=none){ops:Array Oper}{i:Nat}(hi:ops[i]? =some o)
 (hL:LW W st.heap) (hr:CQ C K fr ops ρ o st=.ok st' fp)   (he:J8 st.env.get env2 o.op) (hgd:Kr ops env2 o=Kr ops st.env.get o) (hag:gI fp.rd st.heap.get h2.get)
 (hds: ∀o∈ops,∀d,o.dst=some d→d<nt.n):
 ∃v h2',st'.env=CY st.env o.dst v∧st'.base=st.base∧(∀id,h2'.get id=ii fp.wr st'.heap.get h2.get id)∧
  ∀(A:Nat→Prop) (β:Au) (w:World) (a:Act),HR A β w h2→E0 β ρ→K5 A β w nt env2 st.defs h2 a→ ∀(next:Act→World→Prop) (Q:Exit→Act→World→Prop),
   (∀a' w',Aft A fr.bv ρ nt β w h2 (Pz env2 o.dst v) st'.defs h2' a' w'→next a' w')→wpOpIn (FF ro) 0 P ops Q i next a w:=by
 have hd: ∀d,o.dst=some d→d<nt.n:=hds o (Qr hi);have hall: ∀{a:Act},a.tmps.size=nt.n→ ∀d j,G6 ops j=some d→d<a.tmps.size:=by
  intro a hsz d j hj;rw[hsz];unfold G6 at hj;cases ho:ops[j]? with
  |none=>rw[ho]at hj;cases hj
  |some o'=>rw[ho]at hj;exact hds o' (Qr ho) d hj
 unfold CQ at hr;split at hr
 .cases hr
 .rename_i hg;simp only[A6,G4.ok.injEq]at hr;obtain⟨rfl,rfl⟩:=hr;refine⟨.ge [],h2,rfl,rfl,fun id=>(XB _ _ id).symm,?_⟩;intro A β w a H hf s next Q hn
  have hw:=QB (ops:=ops) s.env (hall s.sz) (by rw[hgd];exact hg);unfold wpOpIn;simp only[hi,hw];exact⟨fun _ _=>trivial,hn _ _ ⟨β,Bh.refl H,s.put hd (.ge [] #[] rfl (fun i x v h=>by simp at h))⟩⟩
 .rename_i hg;obtain⟨v,h2',e1,e2,e3,e4⟩:=yD (ro:=ro) (nt:=nt) hC hT hro hL hr he hag hd;refine⟨v,h2',e1,e2,e3,?_⟩;intro A β w a H hf s next Q hn
  have hw:=QB (ops:=ops) s.env (hall s.sz) (by rw[hgd];exact hg);unfold wpOpIn;simp only[hi,hw,F3];exact e4 A β w a H hf s next Q hn
theorem S7(hC:LD P mix C)(hT:C9 P W K){ops:Array Oper}{i:Nat}(hi:ops[i]? =some o)
 (hL:LW W st.heap) (hr:CQ C K fr ops ρ o st=.f9 v st')   (he:J8 st.env.get env2 o.op) (hgd:Kr ops env2 o=Kr ops st.env.get o) (hag: ∀id,st.heap.get id=h2.get id)
 (hds: ∀o∈ops,∀d,o.dst=some d→d<nt.n):
 ∃h2',st'.env=st.env∧st'.base=st.base∧st'.defs=st.defs∧(∀id,h2'.get id=st'.heap.get id)∧
  ∀(A:Nat→Prop) (β:Au) (w:World) (a:Act),HR A β w h2→E0 β ρ→K5 A β w nt env2 st.defs h2 a→ ∀(next:Act→World→Prop) (Q:Exit→Act→World→Prop),
   (∀a' w' u,Vi A fr.bv ρ nt β w h2 env2 st.defs h2' v u a' w'→Q (.panic [{v:=u,recovered:=false}]) a' w')→wpOpIn (FF ro) 0 P ops Q i next a w:=by
 have hall: ∀{a:Act},a.tmps.size=nt.n→ ∀d j,G6 ops j=some d→d<a.tmps.size:=by
  intro a hsz d j hj;rw[hsz];unfold G6 at hj;cases ho:ops[j]? with
  |none=>rw[ho]at hj;cases hj
  |some o'=>rw[ho]at hj;exact hds o' (Qr ho) d hj
 unfold CQ at hr;split at hr
 .cases hr
 .simp at hr
 .rename_i hg;obtain⟨h2',e1,e2,e3,e4,e5⟩:=rm (ro:=ro) (nt:=nt) hC hT hL hr he hag;refine⟨h2',e1,e2,e3,e4,?_⟩;intro A β w a H hf s next Q hn
  have hw:=QB (ops:=ops) s.env (hall s.sz) (by rw[hgd];exact hg);unfold wpOpIn;simp only[hi,hw,F3];exact e5 A β w a H hf s next Q hn
structure AB4(A:Nat→Prop)(bv:Option (List Nat))(π:List Nat)(nt:NT)(β:Au)(w:World)(h:AB)(st':St)(base:Nat)(β':Au)(a':Act)(w':World):Prop where
 lc:Bh A bv π β w h β' w' st'.heap
 s:K5 A β' w' nt st'.env.get st'.defs st'.heap a'
 fresh:CA β' π base
def XP(A:Nat→Prop)(bv:Option (List Nat))(π:List Nat)(nt:NT)(β:Au)(w:World)(h:AB)(out:Option AV)(st':St)(base:Nat):Exit→Act→World→Prop
 |.normal,a',w'=>out=none∧ ∃β',AB4 A bv π nt β w h st' base β' a' w'
 |.panic chain,a',w'=> ∃v u β',out=some v∧chain=[{v:=u,recovered:=false}]∧AB4 A bv π nt β w h st' base β' a' w'∧VR β' w' (MS A β' st'.heap) v u
 |_,_,_=>False
theorem At.refl(g:G)(l:List Id):At g g l:=fun _ _=>rfl
theorem gI.refl(rd:Option (List Id))(g:G):gI rd g g:=by cases rd<;>simp[gI,At]
variable{alone:Nat→Bool}
theorem dW(hC:LD P mix C)(hT:C9 P W K)(hro:fr.wl=false→ro=none){ops:Array Oper}(hds: ∀o∈ops,∀d,o.dst=some d→d<nt.n):
 ∀(l:List Oper) (i:Nat) (st st':St) (fps:List Fp) (out:Option AV),i≤ops.size→ops.toList.drop i=l→LW W st.heap→C3 C K fr ops b alone l i st=.ok ((out,st'),fps)→
  st'.base=st.base∧LW W st'.heap∧ ∀(A:Nat→Prop) (β:Au) (w:World) (a:Act),HR A β w st.heap→K5 A β w nt st.env.get st.defs st.heap a→CA β fr.π (b+i)→
   wpOpsIn (FF ro) 0 P ops (XP A fr.bv fr.π nt β w st.heap out st' (b+ops.size)) (List.range' i l.length) a w
 |[],i,st,st',fps,out,hle,hl,hL,hr=>by
  simp only[C3,E.ok.injEq,F2]at hr;obtain⟨⟨rfl,rfl⟩,rfl⟩:=hr;have hge:ops.size≤i:=by
   have:=congrArg List.length hl;simp at this;omega
  refine⟨rfl,hL,fun A β w a H s hf=>⟨rfl,β,Bh.refl H,s,?_⟩⟩;rw[show ops.size=i by omega];exact hf
 |o::l,i,st,st',fps,out,hle,hl,hL,hr=>by
  have hi:ops[i]? =some o:=by
   have:=congrArg (fun x:List Oper=>x[0]?) hl;simpa using this
  have hlt:i<ops.size:=(Hw.1 hi).1;have hl':ops.toList.drop (i+1)=l:=by
   have:=congrArg List.tail hl;simpa[List.tail_drop]using this
  simp only[C3,HT]at hr;simp only[List.length_cons,List.range'_succ,wpOpsIn_cons];split at hr
  .rename_i st1 fp hs;cases hrest:C3 C K fr ops b alone l (i+1) st1 with
   |err e=>rw[hrest]at hr;cases hr
   |ok r=>
    rw[hrest]at hr;obtain⟨⟨out',st2⟩,fps'⟩:=r;simp only[Vw,E.ok.injEq,F2]at hr;obtain⟨⟨rfl,rfl⟩,rfl⟩:=hr;obtain⟨v,h2',e1,e2,e3,e4⟩:=P8 (ro:=ro) hC hT hro hi hL hs (env2:=st.env.get) (h2:=st.heap) (fun _ _=>rfl) rfl (gI.refl _ _) hds;have hh: ∀id,h2'.get id=st1.heap.get id:=fun id=>by rw[e3,(Nw hs).1]
    obtain⟨hb,hL2,ih⟩:=dW hC hT hro hds l (i+1) st1 st2 fps' out' hlt hl' (VU hT hL hs) hrest;refine⟨by rw[hb,e2],hL2,fun A β w a H s hf=>?_⟩;refine e4 A β w a H (hf (b+i) (EL _)) s _ _ fun a1 w1 ⟨β1,g1,s1⟩=>?_;have g1':Bh A fr.bv fr.π β w st.heap β1 w1 st1.heap:=by
     have:=g1.up (Es _ _);exact⟨this.out,this.hr.congr hh,by rw[←MS.congr hh];exact this.ip,fun ρ h1 h2=>by
      obtain⟨k1,k2,k3⟩:=this.kept ρ h1 h2;exact⟨k1,k2,fun id hid=>by rw[←hh];exact k3 id hid⟩⟩
    have s1':K5 A β1 w1 nt st1.env.get st1.defs st1.heap a1:=by
     have:=s1.congr hh;rw[e1,Zx];exact this
    have:=ih A β1 w1 a1 g1'.hr s1' ((hf.next' g1.out));refine K3 ?_ this;intro e a2 w2 hp;cases e with
    |normal=>
     obtain⟨h1,β2,L⟩:=hp;exact⟨h1,β2,g1'.trans L.lc,L.s,L.fresh⟩
    |panic chain=>
     obtain⟨v,u,β2,h1,h2,L,h3⟩:=hp;exact⟨v,u,β2,h1,h2,⟨g1'.trans L.lc,L.s,L.fresh⟩,h3⟩
    |_=>exact hp.elim
  .rename_i v st1 hs;split at hr
   .simp only[E.ok.injEq,F2]at hr;obtain⟨⟨rfl,rfl⟩,rfl⟩:=hr;obtain⟨h2',e1,e2,e3,e4,e5⟩:=S7 (ro:=ro) hC hT hi hL hs (env2:=st.env.get) (h2:=st.heap) (fun _ _=>rfl) rfl (fun _=>rfl) hds;refine⟨e2,Tr hT hL hs,fun A β w a H s hf=>?_⟩;refine e5 A β w a H (hf (b+i) (EL _)) s _ _ fun a1 w1 u ⟨β1,g1,s1,hv⟩=>?_;have g1':Bh A fr.bv fr.π β w st.heap β1 w1 st1.heap:=by
     have:=g1.up (Es _ _);exact⟨this.out,this.hr.congr e4,by rw[←MS.congr e4];exact this.ip,fun ρ h1 h2=>by
      obtain⟨k1,k2,k3⟩:=this.kept ρ h1 h2;exact⟨k1,k2,fun id hid=>by rw[←e4];exact k3 id hid⟩⟩
    refine⟨v,u,β1,rfl,rfl,⟨g1',?_,?_⟩,?_⟩
    .rw[e1,e3];exact s1.congr e4
    .exact(hf.next' g1.out).mono (by omega)
    .rw[←MS.congr e4];exact hv
   .cases hr
  .cases hr
variable{A:Nat→Prop}{P:Program}{mix:List TypeId}{β β' β'':Au}{w w' w'':World}{M:Nat→Prop}{h h' h'':AB}{π ρ:List Nat}{bv:Option (List Nat)}{nt:NT}{env:Nat→AV}{defs defs':List Df}{a:Act}{ro:Option Nat}{W:Lp→Prop}
def bits(acc:Nat→Nat):List Edge→Nat
 |[]=>0
 |e::l=>match Region.binds .any e with
  |true=>bits acc l|||2 ^ e.on|||acc e.on
  |false=>bits acc l
def LN:List Oper→List Nat→List Nat
 |[],acc=>acc
 |o::l,acc=>LN l (acc++[bits (fun k=>acc.getD k 0) o.after.toList])
theorem PV{acc:Nat→Nat}{i:Nat}: ∀{l:List Edge},(bits acc l).testBit i=true→ ∃e∈l,Region.binds .any e=true∧(e.on=i∨(acc e.on).testBit i=true)
 |[],h=>by simp[bits]at h
 |e::l,h=>by
  simp only[bits]at h;split at h
  .rename_i hb;simp only[Nat.testBit_or,I2]at h;rcases h with(h|h)|h
   .obtain⟨e',h1,h2⟩:=PV h;exact⟨e',by simp[h1],h2⟩
   .exact⟨e,by simp,hb,.inl (by simpa[Nat.testBit_two_pow]using h)⟩
   .exact⟨e,by simp,hb,.inr h⟩
  .obtain⟨e',h1,h2⟩:=PV h;exact⟨e',by simp[h1],h2⟩
theorem Rf: ∀(l:List Oper) (acc:List Nat) (k:Nat),k<acc.length→(LN l acc).getD k 0=acc.getD k 0
 |[],acc,k,_=>rfl
 |o::l,acc,k,h=>by
  simp only[LN];rw[Rf l _ k (by simp;omega)];simp[Be h]
theorem UG: ∀(l:List Oper) (acc:List Nat) (j:Nat) (o:Oper),l[j]? =some o→
 ∃f:Nat→Nat,(LN l acc).getD (acc.length+j) 0=bits f o.after.toList∧ ∀k,f k=(LN l acc).getD k 0∨f k=0
 |[],acc,j,o,h=>by simp at h
 |x::l,acc,0,o,h=>by
  simp at h;subst h;refine⟨fun k=>acc.getD k 0,?_,fun k=>?_⟩
  .simp only[LN];rw[Rf l _ _ (by simp)];simp
  .by_cases hk:k<acc.length
   .left;exact(Rf (x::l) acc k hk).symm
   .right;simp[I6 (Nat.le_of_not_lt hk)]
 |x::l,acc,j+1,o,h=>by
  simp at h;obtain⟨f,h1,h2⟩:=UG l (acc++[bits (fun k=>acc.getD k 0) x.after.toList]) j o h;refine⟨f,?_,h2⟩;rw[←h1];simp only[LN,CI,II];congr 1;omega
def oE(B:List Nat)(i j:Nat):Bool:=(B.getD j 0).testBit i
theorem ZP{ops:Array Oper}{i j:Nat}(hj:ops[j]? =some o)(h:oE (LN ops.toList []) i j=true):
 ∃e∈o.after,Region.binds .any e=true∧(e.on=i∨oE (LN ops.toList []) i e.on=true):=by
 obtain⟨f,h1,h2⟩:=UG ops.toList [] j o (by simpa using hj);unfold oE at h;simp only[List.length_nil,I5]at h1;rw[h1]at h;obtain⟨e,he,hb,h3⟩:=PV h;refine⟨e,by simpa using he,hb,h3.imp (fun h=>h) fun h3=>?_⟩;rcases h2 e.on with h4|h4
 .unfold oE;rw[←h4];exact h3
 .rw[h4]at h3;simp at h3
def ADw(op:Op):List Tmp:=op.operands.toList.filterMap fun|.tmp t=>some t|_=>none
def Yq(ops:Array Oper)(o:Oper):List Tmp:=match o.guard with
 |some (j,_)=>match G6 ops j with|some t=>[t]|none=>[]
 |none=>[]
def Ml(ops:Array Oper)(o:Oper):List Tmp:=o.dst.toList++ADw o.op++Yq ops o
def dT(d:Option Tmp)(l:List Tmp):Bool:=match d with
 |some t=>l.all fun x=> !Nat.beq x t
 |none=>true
theorem Lu{d:Option Tmp}{l:List Tmp}(h:dT d l=true){t:Tmp}(hd:d=some t):t∉l:=by
 subst hd;intro ht;have:=Ci.1 h t ht;simp at this
def YU(ops:Array Oper)(x y:Oper):Bool:=dT x.dst (Ml ops y)&&dT y.dst (Ml ops x)
def iU(x y:Op):Bool:=(XK x||vp y)&&(vp x||XK y)&&(XK x||XK y)
def dX(ops:Array Oper)(d7:List (Nat×Nat))(x y:Oper)(i j:Nat):Bool:=
 YU ops x y&&(iU x.op y.op||d7.any fun p=>Nat.beq p.1 i&&Nat.beq p.2 j)
def WY:Op→Bool
 |.defer _=>true
 |_=>false
def vz(ops:Array Oper)(d7:List (Nat×Nat))(alone:Nat→Bool):Bool:=
 let B:=LN ops.toList []
 (List.range ops.size).all fun j=>match ops[j]? with
  |none=>false
  |some y=> !WY y.op&&y.after.toList.all (fun e=> !Region.binds .any e||Nat.blt e.on j)&&
   (List.range j).all (fun i=>match ops[i]? with
    |none=>false
    |some x=>(oE B i j||dX ops d7 x y i j)&&(!(alone i||alone j)||oE B i j))
structure RF(ops:Array Oper)(d7:List (Nat×Nat))(alone:Nat→Bool):Prop where
 noDef: ∀(j:Nat) (y:Oper),ops[j]? =some y→ ∀c,y.op≠ .defer c
 back: ∀(j:Nat) (y:Oper),ops[j]? =some y→ ∀e∈y.after,Region.binds .any e=true→e.on<j
 pair: ∀(i j:Nat) (x y:Oper),i<j→ops[i]? =some x→ops[j]? =some y→oE (LN ops.toList []) i j=true∨
  (YU ops x y=true∧(iU x.op y.op=true∨(i,j)∈d7))
 alone: ∀(i j:Nat) (x y:Oper),i<j→ops[i]? =some x→ops[j]? =some y→(alone i=true∨alone j=true)→oE (LN ops.toList []) i j=true
theorem fV{ops:Array Oper}{d7:List (Nat×Nat)}(h:vz ops d7 alone=true):RF ops d7 alone:=by
 unfold vz at h;have each: ∀(j:Nat) (y:Oper),ops[j]? =some y→WY y.op=false∧(∀e∈y.after,Region.binds .any e=true→e.on<j)∧
  ∀(i:Nat) (x:Oper),i<j→ops[i]? =some x→(oE (LN ops.toList []) i j||dX ops d7 x y i j)=true∧(!(alone i||alone j)||oE (LN ops.toList []) i j)=true:=by
  intro j y hy;have hlt:j<ops.size:=(Hw.1 hy).1;have:=Ci.1 h j (Ok.2 hlt);simp only[hy,AP,Gs]at this;obtain⟨⟨h1,h2⟩,h3⟩:=this;refine⟨h1,fun e he hb=>?_,fun i x hi hx=>?_⟩
  .have:=Ci.1 h2 e (by simpa using he);simpa[hb,TY]using this
  .have:=Ci.1 h3 i (Ok.2 hi);simp only[hx,AP]at this;exact this
 refine⟨fun j y hy c hc=>?_,fun j y hy=>(each j y hy).2.1,fun i j x y hij hx hy=>?_,fun i j x y hij hx hy ha=>?_⟩
 .have:=(each j y hy).1;simp[hc,WY]at this
 .have:=((each j y hy).2.2 i x hij hx).1;rw[I2]at this;refine this.imp (fun h=>h) fun h=>?_;unfold dX at h;simp only[AP,I2,SP]at h;refine⟨h.1,h.2.imp (fun h=>h) ?_⟩;rintro⟨p,hp,h1,h2⟩;have e1:=Dl h1;have e2:=Dl h2;rw[←e1,←e2];exact hp
 .have:=((each j y hy).2.2 i x hij hx).2;rcases ha with ha|ha<;>simpa[ha]using this
theorem Sx{C:CZ}{K:AN}{fr:Fr}{ops:Array Oper}{b:Nat}{alone:Nat→Bool}:
 ∀(l:List Oper) (i:Nat) (st st':St) (fps:List Fp) (out:Option AV),i≤ops.size→ops.toList.drop i=l→C3 C K fr ops b alone l i st=.ok ((out,st'),fps)→
  ∃(S:Nat→St) (F:Nat→Fp) (m:Nat),i≤m∧m≤ops.size∧S i=st∧
   (∀k,i≤k→k<m→ ∃o,ops[k]? =some o∧CQ C K fr ops ((b+k)::fr.π) o (S k)=.ok (S (k+1)) (F k)∧fps[k-i]? =some (F k))∧
   ((out=none∧m=ops.size∧S m=st')∨ ∃v o,out=some v∧m<ops.size∧alone m=true∧ops[m]? =some o∧CQ C K fr ops ((b+m)::fr.π) o (S m)=.f9 v st')
 |[],i,st,st',fps,out,hle,hl,hr=>by
  simp only[C3,E.ok.injEq,F2]at hr;obtain⟨⟨rfl,rfl⟩,rfl⟩:=hr;have hge:ops.size≤i:=by
   have:=congrArg List.length hl;simp at this;omega
  exact⟨fun _=>st,fun _=>{},i,EL _,hle,rfl,fun k h1 h2=>by omega,.inl ⟨rfl,by omega,rfl⟩⟩
 |o::l,i,st,st',fps,out,hle,hl,hr=>by
  have hi:ops[i]? =some o:=by
   have:=congrArg (fun x:List Oper=>x[0]?) hl;simpa using this
  have hlt:i<ops.size:=(Hw.1 hi).1;have hl':ops.toList.drop (i+1)=l:=by
   have:=congrArg List.tail hl;simpa[List.tail_drop]using this
  simp only[C3,HT]at hr;split at hr
  .rename_i st1 fp hs;cases hrest:C3 C K fr ops b alone l (i+1) st1 with
   |err e=>rw[hrest]at hr;cases hr
   |ok r=>
    rw[hrest]at hr;obtain⟨⟨out',st2⟩,fps'⟩:=r;simp only[Vw,E.ok.injEq,F2]at hr;obtain⟨⟨rfl,rfl⟩,rfl⟩:=hr;obtain⟨S,F,m,h1,h2,h3,h4,h5⟩:=Sx l (i+1) st1 st2 fps' out' hlt hl' hrest;refine⟨fun k=>if k=i then st else S k,fun k=>if k=i then fp else F k,m,by omega,h2,DO rfl,fun k hk1 hk2=>?_,?_⟩
    .by_cases e:k=i
     .subst e;refine⟨o,hi,?_,by simp⟩;simp only[F3,CS (show¬k+1=k by omega),h3];exact hs
     .obtain⟨o',g1,g2,g3⟩:=h4 k (by omega) hk2;refine⟨o',g1,?_,?_⟩
      .simp only[CS e,CS (show¬k+1=i by omega)];exact g2
      .rw[show k-i=(k-(i+1))+1 by omega];simp only[CS e,F4];exact g3
    .simp only[CS (show¬m=i by omega)];exact h5
  .rename_i v st1 hs;split at hr
   .rename_i ha;simp only[E.ok.injEq,F2]at hr;obtain⟨⟨rfl,rfl⟩,rfl⟩:=hr;exact⟨fun _=>st,fun _=>{},i,EL _,hle,rfl,fun k h1 h2=>by omega,.inr ⟨v,o,rfl,hlt,ha,hi,hs⟩⟩
   .cases hr
  .cases hr
section mixed
variable(ops:Array Oper)(S:Nat→St)(F:Nat→Fp)
def JA(D:Nat→Bool):Nat→Nat→AV
 |0=>(S 0).env.get
 |k+1=>fun t=>if D k=true∧G6 ops k=some t then(S (k+1)).env.get t else JA D k t
def G8(D:Nat→Bool):Nat→G
 |0=>(S 0).heap.get
 |k+1=>fun id=>if D k=true then ii (F k).wr (S (k+1)).heap.get (G8 D k) id else G8 D k id
def XN(wr:Option (List Id))(id:Id):Prop:= ∃l,wr=some l∧id∉l
end mixed
variable{ops:Array Oper}{S:Nat→St}{F:Nat→Fp}{D:Nat→Bool}
variable{t:Tmp}
theorem Qx{m:Nat}(hS: ∀k,k<m→ ∃v,(S (k+1)).env=CY (S k).env (G6 ops k) v): ∀{i:Nat},i≤m→(∀j,j<i→G6 ops j=some t→D j=true)→JA ops S D i t=(S i).env.get t
 |0,_,_=>rfl
 |i+1,hi,h=>by
  simp only[JA];split
  .rfl
  .rename_i hn;obtain⟨v,hv⟩:=hS i hi;have hne:G6 ops i≠some t:=fun e=>hn ⟨h i (by omega) e,e⟩;rw[Qx hS (by omega) fun j hj=>h j (by omega),hv,Zx];unfold Pz;split
   .rename_i d hd;have:d≠t:=fun e=>hne (e▸hd);simp[this]
   .rfl
theorem R5{i:Nat}: ∀{n:Nat},(∀j,i≤j→j<i+n→G6 ops j=some t→D j=false)→JA ops S D (i+n) t=JA ops S D i t
 |0,_=>rfl
 |n+1,h=>by
  rw[←RC];simp only[JA];rw[CS (by rintro⟨h1,h2⟩;rw[h (i+n) (by omega) (by omega) h2]at h1;cases h1)];exact R5 fun j h1 h2=>h j h1 (by omega)
theorem Fs{wr:Option (List Id)}{id:Id}(h:XN wr id)(new old:G):ii wr new old id=old id:=by
 obtain⟨l,rfl,hl⟩:=h;simp[ii,hl]
theorem XC(wr:Option (List Id))(id:Id):XN wr id∨ ∀new old:G,ii wr new old id=new id:=by
 cases wr with
 |none=>exact .inr fun _ _=>rfl
 |some l=>
  by_cases h:id∈l
  .exact .inr fun _ _=>by simp[ii,h]
  .exact .inl ⟨l,rfl,h⟩
theorem Oa{m:Nat}{id:Id}(hS: ∀k,k<m→ii (F k).wr (S (k+1)).heap.get (S k).heap.get id=(S (k+1)).heap.get id): ∀{i:Nat},i≤m→(∀j,j<i→D j=false→XN (F j).wr id)→G8 S F D i id=(S i).heap.get id
 |0,_,_=>rfl
 |i+1,hi,h=>by
  have ih:=Oa hS (i:=i) (by omega) fun j hj=>h j (by omega);have hs:=hS i hi;simp only[G8];split
  .rcases XC (F i).wr id with hn|hw
   .rw[Fs hn,ih,←hs,Fs hn]
   .exact hw _ _
  .rename_i hD;have hn:=h i (by omega) (by simpa using hD);rw[ih,←hs,Fs hn]
theorem Mb{id:Id}{i:Nat}: ∀{n:Nat},(∀j,i≤j→j<i+n→D j=true→XN (F j).wr id)→G8 S F D (i+n) id=G8 S F D i id
 |0,_=>rfl
 |n+1,h=>by
  rw[←RC];simp only[G8];split
  .rename_i hD;rw[Fs (h (i+n) (by omega) (by omega) hD)];exact Mb fun j h1 h2=>h j h1 (by omega)
  .exact Mb fun j h1 h2=>h j h1 (by omega)
def NJ(D:Nat→Bool)(i:Nat):Nat→Bool:=fun k=>D k||Nat.beq k i
theorem Ia(D:Nat→Bool)(i:Nat):NJ D i i=true:=by simp[NJ]
theorem IG(D:Nat→Bool){i k:Nat}(h:k≠i):NJ D i k=D k:=by simp[NJ,h]
theorem NU{i:Nat}{t:Tmp}(h:G6 ops i≠some t): ∀n,JA ops S (NJ D i) n t=JA ops S D n t
 |0=>rfl
 |n+1=>by
  simp only[JA,NU h n];by_cases e:n=i
  .subst e;simp[h]
  .rw[IG D e]
theorem Ji{i:Nat}{id:Id}(h:XN (F i).wr id)(hi:D i=false): ∀n,G8 S F (NJ D i) n id=G8 S F D n id
 |0=>rfl
 |n+1=>by
  simp only[G8];by_cases e:n=i
  .subst e;rw[Ia,hi];simp only[F3,ES,AM];rw[Fs h];exact Ji h hi n
  .rw[IG D e];rcases XC (F n).wr id with hn|hw
   .rw[Fs hn,Fs hn,Ji h hi n]
   .rw[hw,hw,Ji h hi n]
theorem PY{i:Nat}(hi:D i=false): ∀{n:Nat},i<n→((List.range n).countP fun k=> !NJ D i k)<(List.range n).countP fun k=> !D k
 |0,h=>by omega
 |n+1,h=>by
  have mono: ∀n,((List.range n).countP fun k=> !NJ D i k)≤(List.range n).countP fun k=> !D k:=fun n=>
   List.countP_mono_left fun k _ hk=>by
    simp only[NJ,Bool.not_or,AP]at hk;exact hk.1
  simp only[List.range_succ,List.countP_append,List.countP_singleton];by_cases e:n=i
  .subst e;rw[Ia,hi];have:=mono n;simp;omega
  .rw[IG D e];have:=PY hi (show i<n by omega);omega
variable{A:Nat→Prop}{P:Program}{mix:List TypeId}{β β' β'':Au}{w w' w'':World}{M:Nat→Prop}{h h' h'':AB}{π ρ:List Nat}{bv:Option (List Nat)}{nt:NT}{env:Nat→AV}{defs defs':List Df}{a:Act}{ro:Option Nat}{W:Lp→Prop}
def qM(x:Option (List Id))(id:Id):Prop:=x=none∨ ∃l,x=some l∧id∈l
theorem AA3(x:Option (List Id))(id:Id):XN x id∨qM x id:=by
 cases x with
 |none=>exact .inr (.inl rfl)
 |some l=>
  by_cases h:id∈l
  .exact .inr (.inr ⟨l,rfl,h⟩)
  .exact .inl ⟨l,rfl,h⟩
variable{x y:Option (List Id)}
theorem RY(h:apart x y=true){id:Id}(hx:qM x id):XN y id:=by
 unfold apart at h;split at h
 .rcases hx with hx|⟨l,hl,hi⟩
  .cases hx
  .cases hl;cases hi
 .exact⟨[],rfl,by simp⟩
 .rename_i l m _ _;rcases hx with hx|⟨l',hl,hi⟩
  .cases hx
  .cases hl;refine⟨m,rfl,fun hm=>?_⟩;have:=Ci.1 h id hi;simp at this;exact this hm
 .cases h
theorem XW(h:apart x y=true){id:Id}(hy:qM y id):XN x id:=by
 unfold apart at h;split at h
 .exact⟨[],rfl,by simp⟩
 .rcases hy with hy|⟨l,hl,hi⟩
  .cases hy
  .cases hl;cases hi
 .rename_i l m _ _;rcases hy with hy|⟨l',hl,hi⟩
  .cases hy
  .cases hl;refine⟨l,rfl,fun hm=>?_⟩;have:=Ci.1 h id hm;simp at this;exact this hi
 .cases h
theorem ACA{rd:Option (List Id)}{g g2:G}(h: ∀id,qM rd id→g id=g2 id):gI rd g g2:=by
 cases rd with
 |none=>exact fun id=>h id (.inl rfl)
 |some l=>exact fun id hi=>h id (.inr ⟨l,rfl,hi⟩)
theorem LK(y:Option (List Id)):apart (some []) y=true:=rfl
theorem LL(x:Option (List Id)):apart x (some [])=true:=by
 cases x with
 |none=>rfl
 |some l=>cases l<;>rfl
theorem aV{C:CZ}{K:AN}{fr:Fr}{ops:Array Oper}{x y:Oper}{s1 s2 s1' s2':St}{a b:Fp}{ρ1 ρ2:List Nat}(h:iU x.op y.op=true)(hx:CQ C K fr ops ρ1 x s1=.ok s1' a)(hy:CQ C K fr ops ρ2 y s2=.ok s2' b):
 a.apart b=true:=by
 obtain⟨x1,x2⟩:=VT hx;obtain⟨y1,y2⟩:=VT hy;unfold iU at h;simp only[AP,I2]at h;obtain⟨⟨h1,h2⟩,h3⟩:=h;unfold Fp.apart;simp only[AP];refine⟨⟨?_,?_⟩,?_⟩
 .rcases h1 with h|h
  .rw[x2 h];exact LK _
  .rw[y1 h];exact LL _
 .rcases h2 with h|h
  .rw[x1 h];exact LK _
  .rw[y2 h];exact LL _
 .rcases h3 with h|h
  .rw[x2 h];exact LK _
  .rw[y2 h];exact LL _
variable{o:Oper}
theorem NR{ops:Array Oper}{i:Nat}(h:ops[i]? =some o):G6 ops i=o.dst:=by simp[G6,h]
def Jw(ops:Array Oper)(D:Nat→Bool):Prop:= ∀(j:Nat) (y:Oper),ops[j]? =some y→D j=true→ ∀e∈y.after,Region.binds .any e=true→D e.on=true
variable{d7:List (Nat×Nat)}{alone:Nat→Bool}
theorem Iw{ops:Array Oper}{D:Nat→Bool}(hreg:RF ops d7 alone)(hc:Jw ops D): ∀(j:Nat),D j=true→ ∀i,oE (LN ops.toList []) i j=true→j<ops.size→D i=true:=by
 intro j;induction j using Nat.strongRecOn with
 |_ j ih=>
  intro hj i ho hlt;have hy:ops[j]? =some ops[j]:=D6 hlt;obtain⟨e,he,hb,h1⟩:=ZP hy ho;have hd:=hc j _ hy hj e he hb;have hl:=hreg.back j _ hy e he hb;rcases h1 with rfl|h1
  .exact hd
  .exact ih e.on hl hd i h1 (by omega)
theorem Mq{ops:Array Oper}{D:Nat→Bool}(hreg:RF ops d7 alone)(hc:Jw ops D){i:Nat}(hi:ops[i]? =some o)(hr: ∀e∈o.after,Region.binds .any e=true→D e.on=true)
 {j:Nat} (ho:oE (LN ops.toList []) j i=true):D j=true:=by
 obtain⟨e,he,hb,h1⟩:=ZP hi ho;have hd:=hr e he hb;have hl:=hreg.back i _ hi e he hb;have hlt:i<ops.size:=(Hw.1 hi).1;rcases h1 with rfl|h1
 .exact hd
 .exact Iw hreg hc e.on hd j h1 (by omega)
structure Run(W:Lp→Prop)(C:CZ)(K:AN)(fr:Fr)(ops:Array Oper)(b:Nat)(d7:List (Nat×Nat))(alone:Nat→Bool)(S:Nat→St)(F:Nat→Fp)(m:Nat):Prop where
 le:m≤ops.size
 step: ∀k,k<m→ ∃o,ops[k]? =some o∧CQ C K fr ops ((b+k)::fr.π) o (S k)=.ok (S (k+1)) (F k)
 env: ∀k,k<m→ ∃v,(S (k+1)).env=CY (S k).env (G6 ops k) v
 ii: ∀id k,k<m→ii (F k).wr (S (k+1)).heap.get (S k).heap.get id=(S (k+1)).heap.get id
 defs: ∀k,k≤m→(S k).defs=(S 0).defs
 lw: ∀k,k≤m→LW W (S k).heap
 base: ∀k,k≤m→(S k).base=(S 0).base
 apart: ∀(i j:Nat),i<j→j<m→oE (LN ops.toList []) i j=true∨(F i).apart (F j)=true
variable{C:CZ}{K:AN}{fr:Fr}{ops:Array Oper}{b m:Nat}{d7:List (Nat×Nat)}{alone:Nat→Bool}{S:Nat→St}{F:Nat→Fp}{D:Nat→Bool}
variable{fps:List Fp}
theorem ADs(hC:LD P mix C)(hT:C9 P W K)(hro:fr.wl=false→ro=none)(hreg:RF ops d7 alone)(hds: ∀o∈ops,∀d,o.dst=some d→d<nt.n)(hp:Dg fps d7=true)(hle:m≤ops.size)(hL:LW W (S 0).heap)
 (hst: ∀k,k<m→ ∃o,ops[k]? =some o∧CQ C K fr ops ((b+k)::fr.π) o (S k)=.ok (S (k+1)) (F k)∧fps[k]? =some (F k)):Run W C K fr ops b d7 alone S F m:=by
 have hlw: ∀k,k≤m→LW W (S k).heap:=by
  intro k;induction k with
  |zero=>intro _;exact hL
  |succ k ih=>
   intro hk;obtain⟨o,h1,h2,h3⟩:=hst k hk;exact VU hT (ih (by omega)) h2
 have hone: ∀k,k<m→(∃v,(S (k+1)).env=CY (S k).env (G6 ops k) v)∧(S (k+1)).base=(S k).base∧(S (k+1)).defs=(S k).defs:=by
  intro k hk;obtain⟨o,h1,h2,h3⟩:=hst k hk;obtain⟨v,h2',e1,e2,_⟩:=P8 (ro:=ro) hC hT hro h1 (hlw k (by omega)) h2 (env2:=(S k).env.get) (h2:=(S k).heap) (fun _ _=>rfl) rfl (gI.refl _ _) hds;exact⟨⟨v,by rw[NR h1];exact e1⟩,e2,(Nw h2).2 (hreg.noDef k o h1)⟩
 have hdef: ∀k,k≤m→(S k).defs=(S 0).defs:=by
  intro k;induction k with
  |zero=>intro _;rfl
  |succ k ih=>intro hk;rw[(hone k hk).2.2,ih (by omega)]
 have hbase: ∀k,k≤m→(S k).base=(S 0).base:=by
  intro k;induction k with
  |zero=>intro _;rfl
  |succ k ih=>intro hk;rw[(hone k hk).2.1,ih (by omega)]
 refine⟨hle,fun k hk=>let ⟨o,h1,h2,_⟩:=hst k hk;⟨o,h1,h2⟩,fun k hk=>(hone k hk).1,fun id k hk=>?_,hdef,hlw,hbase,fun i j hij hj=>?_⟩
 .obtain⟨o,h1,h2,h3⟩:=hst k hk;exact(Nw h2).1 id
 .obtain⟨x,x1,x2,x3⟩:=hst i (by omega);obtain⟨y,y1,y2,y3⟩:=hst j hj;refine(hreg.pair i j x y hij x1 y1).imp (fun h=>h) ?_;rintro⟨_,h|h⟩
  .exact aV h x2 y2
  .have:=Ci.1 hp (i,j) h;simpa[x3,y3]using this
theorem ZG(R:Run W C K fr ops b d7 alone S F m)(hreg:RF ops d7 alone)(hc:Jw ops D)(hD: ∀k,D k=true→k<m){i:Nat}{o:Oper}(hi:ops[i]? =some o)(him:i≤m)(hDi:D i=false)
 (hr: ∀e∈o.after,Region.binds .any e=true→D e.on=true) {t:Tmp} (ht:t∈Ml ops o):JA ops S D m t=(S i).env.get t:=by
 obtain⟨n,rfl⟩: ∃n,m=i+n:=⟨m-i,by omega⟩;have hlt:i<ops.size:=(Hw.1 hi).1;rw[R5 (fun j h1 h2 h3=>?_),Qx R.env him fun j hj h3=>?_]
 ·
  have hjs:j<ops.size:=by omega
  have hx:ops[j]? =some ops[j]:=D6 hjs;rcases hreg.pair j i _ o hj hx hi with h|⟨h,_⟩
  .exact Mq hreg hc hi hr h
  .unfold YU at h;simp only[AP]at h;rw[NR hx]at h3;exact absurd ht (Lu h.1 h3)
 ·
  cases hDj:D j with
  |false=>rfl
  |true=>
   exfalso;by_cases e:j=i
   .subst e;rw[hDi]at hDj;cases hDj
   have hjs:j<ops.size:=by have:=hD j hDj;have:=R.le;omega
   have hy:ops[j]? =some ops[j]:=D6 hjs;rcases hreg.pair i j o _ (by omega) hi hy with h|⟨h,_⟩
   .have:=Iw hreg hc j hDj i h hjs;rw[hDi]at this;cases this
   .unfold YU at h;simp only[AP]at h;rw[NR hy]at h3;exact absurd ht (Lu h.2 h3)
theorem ADk(R:Run W C K fr ops b d7 alone S F m)(hreg:RF ops d7 alone)(hc:Jw ops D)(hD: ∀k,D k=true→k<m){i:Nat}(hi:ops[i]? =some o)(him:i≤m)(hDi:D i=false)
 (hr: ∀e∈o.after,Region.binds .any e=true→D e.on=true):J8 (S i).env.get (JA ops S D m) o.op∧Kr ops (JA ops S D m) o=Kr ops (S i).env.get o:=by
 refine⟨fun x hx=>?_,?_⟩
 .cases x with
  |tmp t=>
   refine(ZG R hreg hc hD hi him hDi hr ?_).symm;unfold Ml;refine HU _ (Ge _ ?_);exact List.mem_filterMap.2 ⟨.tmp t,by simpa using hx,rfl⟩
  |_=>rfl
 .unfold Kr;cases hg:o.guard with
  |none=>rfl
  |some p=>
   obtain⟨j,want⟩:=p;simp only;have e:((ops[j]?).bind fun x=>x.dst)=G6 ops j:=rfl;rw[e];cases hd:G6 ops j with
   |none=>rfl
   |some t=>
    simp only[El];rw[ZG R hreg hc hD hi him hDi hr (t:=t) (by
     unfold Ml;refine Ge _ ?_;simp[Yq,hg,hd])]
theorem zI(R:Run W C K fr ops b d7 alone S F m)(hreg:RF ops d7 alone)(hc:Jw ops D)(hD: ∀k,D k=true→k<m){i:Nat}{o:Oper}(hi:ops[i]? =some o)(him:i<m)(hDi:D i=false)
 (hr: ∀e∈o.after,Region.binds .any e=true→D e.on=true) {id:Id} (ht:qM (F i).rd id):G8 S F D m id=(S i).heap.get id:=by
 obtain⟨n,rfl⟩: ∃n,m=i+n:=⟨m-i,by omega⟩;rw[Mb (fun j h1 h2 h3=>?_),Oa (R.ii id) (by omega) fun j hj h3=>?_]
 .rcases R.apart j i hj him with h|h
  .have:=Mq hreg hc hi hr h;rw[this]at h3;cases h3
  .unfold Fp.apart at h;simp only[AP]at h;exact XW h.1.1 ht
 .by_cases e:j=i
  .subst e;rw[hDi]at h3;cases h3
  rcases R.apart i j (by omega) (hD j h3)with h|h
  .have:=Iw hreg hc j h3 i h (by have:=hD j h3;have:=R.le;omega);rw[hDi]at this;cases this
  .unfold Fp.apart at h;simp only[AP]at h;exact RY h.1.2 ht
theorem yL(R:Run W C K fr ops b d7 alone S F m)(hreg:RF ops d7 alone)(hc:Jw ops D)(hD: ∀k,D k=true→k<m){i:Nat}{o:Oper}(hi:ops[i]? =some o)(him:i<m)(hDi:D i=false){v:AV}
 (hv:(S (i+1)).env=CY (S i).env o.dst v):Pz (JA ops S D m) o.dst v=JA ops S (NJ D i) m:=by
 funext t;cases hd:o.dst with
 |none=>
  simp only[Pz];exact(NU (by rw[NR hi,hd];simp) m).symm
 |some d=>
  simp only[Pz];by_cases e:d=t
  .subst e;rw[DO rfl];obtain⟨n,rfl⟩: ∃n,m=(i+1)+n:=⟨m-(i+1),by omega⟩;rw[R5 (fun j h1 h2 h3=>?_)]
   .simp only[JA,Ia,NR hi,hd,and_self,F3];rw[hv,hd];simp[CY,Bm.get_cons]
   .rw[IG D (by omega)];cases hDj:D j with
    |false=>rfl
    |true=>
     exfalso;have hjs:j<ops.size:=by have:=hD j hDj;have:=R.le;omega
     have hy:ops[j]? =some ops[j]:=D6 hjs;rcases hreg.pair i j o _ (by omega) hi hy with h|⟨h,_⟩
     .have:=Iw hreg hc j hDj i h hjs;rw[hDi]at this;cases this
     .unfold YU at h;simp only[AP]at h;rw[NR hy]at h3;refine absurd ?_ (Lu h.2 h3);unfold Ml;exact HU _ (HU _ (by simp[hd]))
  .rw[CS e];exact(NU (by rw[NR hi,hd];simpa using e) m).symm
theorem tA(R:Run W C K fr ops b d7 alone S F m)(hreg:RF ops d7 alone)(hc:Jw ops D)(hD: ∀k,D k=true→k<m){i:Nat}(him:i<m)(hDi:D i=false)(id:Id):
 ii (F i).wr (S (i+1)).heap.get (G8 S F D m) id=G8 S F (NJ D i) m id:=by
 rcases AA3 (F i).wr id with hn|hh
 .rw[Fs hn,Ji hn hDi]
 .have hu: ∀new old:G,ii (F i).wr new old id=new id:=by
   rcases XC (F i).wr id with hn|h
   .obtain⟨l,h1,h2⟩:=hn;rcases hh with h3|⟨l',h3,h4⟩
    .rw[h1]at h3;cases h3
    .rw[h1]at h3;cases h3;exact absurd h4 h2
   .exact h
  rw[hu];obtain⟨n,rfl⟩: ∃n,m=(i+1)+n:=⟨m-(i+1),by omega⟩;rw[Mb (fun j h1 h2 h3=>?_)]
  .simp only[G8,Ia,F3];rw[hu]
  .rw[IG D (by omega)]at h3;rcases R.apart i j (by omega) (hD j h3)with h|h
   .have:=Iw hreg hc j h3 i h (by have:=hD j h3;have:=R.le;omega);rw[hDi]at this;cases this
   .unfold Fp.apart at h;simp only[AP]at h;exact RY h.2 hh
theorem bZ(hc:Jw ops D){i:Nat}{o:Oper}(hi:ops[i]? =some o)(hr: ∀e∈o.after,Region.binds .any e=true→D e.on=true):Jw ops (NJ D i):=by
 intro j y hy hj e he hb;have up:D e.on=true→NJ D i e.on=true:=fun h=>by simp[NJ,h]
 by_cases ej:j=i
 .subst ej;rw[hi]at hy;cases hy;exact up (hr e he hb)
 .rw[IG D ej]at hj;exact up (hc j y hy hj e he hb)
structure Mid(P:Program)(C:CZ)(K:AN)(fr:Fr)(nt:NT)(ops:Array Oper)(b m:Nat)(S:Nat→St)(F:Nat→Fp)(A:Nat→Prop)(β0:Au)(w0:World)(D:Nat→Bool)(listed:Array Bool)(β:Au)(w:World)(a:Act)(hc:AB):Prop where
 closed:Jw ops D
 lt: ∀k,D k=true→k<m
 size:listed.size=ops.size
 list: ∀k,k<ops.size→listed[k]? =some (D k)
 heap: ∀id,hc.get id=G8 S F D m id
 s:K5 A β w nt (JA ops S D m) (S 0).defs hc a
 lc:Bh A fr.bv fr.π β0 w0 (S 0).heap β w hc
 fresh: ∀i,i<ops.size→D i=false→E0 β ((b+i)::fr.π)
 freshFrom:CA β fr.π (b+ops.size)
theorem ACG(hC:LD P mix C)(hT:C9 P W K)(hro:fr.wl=false→ro=none)(hreg:RF ops d7 alone)(hds: ∀o∈ops,∀d,o.dst=some d→d<nt.n)(R:Run W C K fr ops b d7 alone S F m){st':St}{out:Option AV}
 (hend:(out=none∧m=ops.size∧S m=st')∨ ∃v o,out=some v∧m<ops.size∧alone m=true∧ops[m]? =some o∧CQ C K fr ops ((b+m)::fr.π) o (S m)=.f9 v st') {β0:Au} {w0:World}:
 ∀(fuel:Nat) (D:Nat→Bool) (listed:Array Bool) (β:Au) (w:World) (a:Act) (hc:AB),Mid P C K fr nt ops b m S F A β0 w0 D listed β w a hc→((List.range ops.size).countP fun k=> !D k)≤fuel→
  wpAnyIn (FF ro) 0 P .any ops (XP A fr.bv fr.π nt β0 w0 (S 0).heap out st' (b+ops.size)) fuel listed a w:=by
 have fin: ∀{D:Nat→Bool} {listed:Array Bool} {β:Au} {w:World} {a:Act} {hc:AB},Mid P C K fr nt ops b m S F A β0 w0 D listed β w a hc→(∀k,k<ops.size→D k=true)→
  XP A fr.bv fr.π nt β0 w0 (S 0).heap out st' (b+ops.size) .normal a w:=by
  intro D listed β w a hc M hall;rcases hend with⟨rfl,hm,rfl⟩|⟨v,o,_,hm,_⟩
  .have he:JA ops S D m=(S m).env.get:=by
    funext t;exact Qx R.env (EL _) fun j hj _=>hall j (by omega)
   have hh: ∀id,hc.get id=(S m).heap.get id:=fun id=>by
    rw[M.heap];exact Oa (R.ii id) (EL _) fun j hj h=>by rw[hall j (by omega)]at h;cases h
   refine⟨rfl,β,⟨M.lc.out,M.lc.hr.congr hh,by rw[←MS.congr hh];exact M.lc.ip,fun ρ h1 h2=>?_⟩,?_,M.freshFrom⟩
   .obtain⟨k1,k2,k3⟩:=M.lc.kept ρ h1 h2;exact⟨k1,k2,fun id hid=>by rw[←hh];exact k3 id hid⟩
   .rw[R.defs m (EL _),←he];exact M.s.congr hh
  .have:=M.lt m (hall m hm);omega
 have more: ∀{D:Nat→Bool} {listed:Array Bool} {β:Au} {w:World} {a:Act} {hc:AB},Mid P C K fr nt ops b m S F A β0 w0 D listed β w a hc→Region.ready .any ops listed=[]→ ∀k,k<ops.size→D k=true:=by
  intro D listed β w a hc M hnil k;induction k using Nat.strongRecOn with
  |_ k ih=>
   intro hk;cases hDk:D k with
   |true=>rfl
   |false=>
    exfalso;have hy:ops[k]? =some ops[k]:=D6 hk;have:k∈Region.ready .any ops listed:=by
     unfold Region.ready;refine Pp.2 ⟨Ok.2 hk,?_⟩;simp only[hy,El,F5,AP,Gs];refine⟨by rw[F7,M.list k hk,hDk];rfl,?_⟩;rw[Array.all_eq_true_iff_forall_mem];intro e he;cases hb:Region.binds .any e with
     |false=>rfl
     |true=>
      have hl:=hreg.back k _ hy e he hb;simp only[OS,Ii];rw[F7,M.list e.on (by omega),ih e.on hl (by omega)];rfl
    rw[hnil]at this;cases this
 intro fuel;induction fuel with
 |zero=>
  intro D listed β w a hc M hcount;have hall: ∀k,k<ops.size→D k=true:=by
   intro k hk;cases hDk:D k with
   |true=>rfl
   |false=>
    have:=PY hDk hk;omega
  refine⟨?_,fin M hall⟩;cases hrd:Region.ready .any ops listed with
  |nil=>rfl
  |cons k l=>
   exfalso;have:k∈Region.ready .any ops listed:=by rw[hrd];simp
   obtain⟨h1,h2⟩:=Pp.1 this;have hk:=Ok.1 h1;simp only[AP,Gs]at h2;have h3:=h2.1;rw[F7,M.list k hk,hall k hk]at h3;cases h3
 |succ fuel ih=>
  intro D listed β w a hc M hcount;refine⟨fun hnil=>fin M (more M hnil),fun i hi=>?_⟩;obtain⟨h1,h2⟩:=Pp.1 hi;have hlt:=Ok.1 h1;have hy:ops[i]? =some ops[i]:=D6 hlt;generalize ops[i]=o at hy;simp only[hy,El,F5,AP,Gs]at h2;have hDi:D i=false:=by
   have h3:=h2.1;rw[F7,M.list i hlt]at h3;simpa using h3
  have hr: ∀e∈o.after,Region.binds .any e=true→D e.on=true:=by
   intro e he hb;have h3:=(Array.all_eq_true_iff_forall_mem.1 h2.2) e he;have hl:=hreg.back i _ hy e he hb;rw[hb]at h3;simp only[OS,Ii]at h3;rw[F7,M.list e.on (by omega)]at h3;simpa using h3
  have him:i≤m:=by
   rcases hend with⟨_,hm,_⟩|⟨v,x,_,hm,hal,hx,_⟩
   .omega
   .by_cases e:i≤m
    .exact e
    .exfalso;have:=Mq hreg M.closed hy hr (hreg.alone m i x o (by omega) hx hy (.inl hal));have:=M.lt m this;omega
  obtain⟨hops,hgd⟩:=ADk R hreg M.closed M.lt hy him hDi hr;by_cases hm:i<m
  .obtain⟨o',ho',hs⟩:=R.step i hm;rw[hy]at ho';cases ho';have hag:gI (F i).rd (S i).heap.get hc.get:=ACA fun id hid=>by
    rw[M.heap,zI R hreg M.closed M.lt hy hm hDi hr hid]
   obtain⟨v,h2',e1,e2,e3,e4⟩:=P8 (ro:=ro) hC hT hro hy (R.lw i him) hs hops hgd hag hds;have s':K5 A β w nt (JA ops S D m) (S i).defs hc a:=by rw[R.defs i him];exact M.s
   refine e4 A β w a M.lc.hr (M.fresh i hlt hDi) s' _ _ fun a1 w1 ⟨β1,g1,s1⟩=>?_;rw[yL R hreg M.closed M.lt hy hm hDi e1,R.defs (i+1) hm]at s1;have hcnt:=PY hDi hlt;refine ih (NJ D i) _ β1 w1 a1 h2' ⟨bZ M.closed hy hr,fun k hk=>?_,by simp[M.size],fun k hk=>?_,fun id=>?_,s1,M.lc.trans (g1.up (Es _ _)),fun k hk hDk=>?_,?_⟩ (by omega)
   .by_cases e:k=i
    .omega
    .rw[IG D e]at hk;exact M.lt k hk
   .by_cases e:k=i
    .subst e;rw[Ia];simp[M.size,hlt]
    .rw[IG D e,IN (Ne.symm e)];exact M.list k hk
   .rw[e3,←tA R hreg M.closed M.lt hm hDi id];rcases XC (F i).wr id with hn|hw
    .rw[Fs hn,Fs hn,M.heap]
    .rw[hw,hw]
   .by_cases e:k=i
    .subst e;rw[Ia]at hDk;cases hDk
    .rw[IG D e]at hDk;exact(M.fresh k hk hDk).other (by omega) g1.out
   .exact fun n hn=>(M.freshFrom n hn).other (by omega) g1.out
  ·
   have him':i=m:=by omega
   subst him';rcases hend with⟨_,hm',_⟩|⟨v,x,rfl,hm',hal,hx,hpan⟩
   .omega
   .rw[hy]at hx;cases hx;have hall: ∀j,j<i→D j=true:=fun j hj=>by
     have hjs:j<ops.size:=by omega
     exact Mq hreg M.closed hy hr (hreg.alone j i _ o hj (D6 hjs) hy (.inr hal))
    have he:JA ops S D i=(S i).env.get:=by
     funext t;exact Qx R.env (EL _) fun j hj _=>hall j hj
    have hh: ∀id,(S i).heap.get id=hc.get id:=fun id=>by
     rw[M.heap];exact(Oa (R.ii id) (EL _) fun j hj h=>by rw[hall j hj]at h;cases h).symm
    obtain⟨h2',e1,e2,e3,e4,e5⟩:=S7 (ro:=ro) hC hT hy (R.lw i him) hpan hops hgd hh hds;have s':K5 A β w nt (JA ops S D i) (S i).defs hc a:=by rw[R.defs i him];exact M.s
    refine e5 A β w a M.lc.hr (M.fresh i hlt hDi) s' _ _ fun a1 w1 u ⟨β1,g1,s1,hv⟩=>?_;have g:=M.lc.trans (g1.up (Es _ _));refine⟨v,u,β1,rfl,rfl,⟨⟨g.out,g.hr.congr e4,by rw[←MS.congr e4];exact g.ip,fun ρ h1 h2=>?_⟩,?_,?_⟩,?_⟩
    .obtain⟨k1,k2,k3⟩:=g.kept ρ h1 h2;exact⟨k1,k2,fun id hid=>by rw[←e4];exact k3 id hid⟩
    .rw[e1,e3,←he];exact s1.congr e4
    .exact fun n hn=>(M.freshFrom n hn).other (by omega) g1.out
    .rw[←MS.congr e4];exact hv
theorem yE(hC:LD P mix C)(hT:C9 P W K)(hro:fr.wl=false→ro=none)(hmix:P.follows .mixedOrders=true)(hreg:RF ops d7 alone)(hds: ∀o∈ops,∀d,o.dst=some d→d<nt.n){id:Nat}{st st':St}{out:Option AV}(hL:LW W st.heap)
 (hr:C3 C K fr ops b alone ops.toList 0 st=.ok ((out,st'),fps)) (hp:Dg fps d7=true):
 st'.base=st.base∧LW W st'.heap∧ ∀(A:Nat→Prop) (β:Au) (w:World) (a:Act),HR A β w st.heap→K5 A β w nt st.env.get st.defs st.heap a→CA β fr.π b→
  (Code.region id ops true).wpIn (FF ro) 0 P (XP A fr.bv fr.π nt β w st.heap out st' (b+ops.size)) a w:=by
 obtain⟨hb0,hL0,_⟩:=dW (ro:=ro) hC hT hro hds ops.toList 0 st st' fps out (I4 _) rfl hL hr;refine⟨hb0,hL0,fun A β w a H s hf=>?_⟩;obtain⟨S,F,m,h1,h2,rfl,h4,h5⟩:=Sx ops.toList 0 st st' fps out (I4 _) rfl hr;have R:Run W C K fr ops b d7 alone S F m:=ADs (ro:=ro) hC hT hro hreg hds hp h2 hL fun k hk=>h4 k (I4 _) hk;refine wpIn_region_any hmix ?_;have hw:({w with drawn:=w.drawn+1}:World).heap=w.heap:=rfl
 have H':=H.heap hw ⟨rfl,rfl⟩;have hpres:Dy A (MS A β (S 0).heap) w (MS A β (S 0).heap) {w with drawn:=w.drawn+1}:=Py hw ⟨rfl,rfl⟩ _
 have e0:JA ops S (fun _=>false) m=(S 0).env.get:=by
  funext t;have: ∀n,JA ops S (fun _=>false) n t=(S 0).env.get t:=by
   intro n;induction n with
   |zero=>rfl
   |succ n ih=>simp[JA,ih]
  exact this m
 have h0: ∀id,(S 0).heap.get id=G8 S F (fun _=>false) m id:=by
  intro id;have: ∀n,G8 S F (fun _=>false) n id=(S 0).heap.get id:=by
   intro n;induction n with
   |zero=>rfl
   |succ n ih=>simp[G8,ih]
  exact(this m).symm
 refine ACG hC hT hro hreg hds R h5 ops.size (fun _=>false) _ β _ a (S 0).heap ⟨fun _ _ _ h=>(by cases h),fun _ h=>(by cases h),by simp,fun k hk=>?_,h0,?_,?_,fun i _ _=>hf _ (by omega),hf.mono (by omega)⟩ ?_
 .simp[Array.getElem?_replicate,hk]
 .rw[e0];exact s.mono (.refl β) hpres
 .exact⟨fun _ _=>rfl,H',hpres,fun _ _ _=>⟨fun _ _ _=>rfl,fun _ h=>.inl h,fun _ _=>rfl⟩⟩
 .exact Hm (List.countP_le_length) (by simp)
variable{A:Nat→Prop}{P:Program}{mix:List TypeId}{β β' β'':Au}{w w' w'':World}{M:Nat→Prop}{h h' h'':AB}{π ρ:List Nat}{bv:Option (List Nat)}{nt:NT}{env:Nat→AV}{defs defs':List Df}{a:Act}{ro:Option Nat}{W:Lp→Prop}
theorem Eg: ∀{l:List Id} {n:Nat} {x z:Id},De π l n x=some z→ ∃j t,l[j]? =some x∧z=t::(n+j)::π
 |[],n,x,z,h=>by simp[De]at h
 |y::l,n,x,z,h=>by
  simp only[De]at h;split at h
  .rename_i e;rw[Id.is_iff]at e;subst e;simp only[Bv]at h;exact⟨0,_,rfl,h.symm⟩
  .obtain⟨j,t,h1,h2⟩:=Eg h;exact⟨j+1,t,by simpa using h1,by rw[h2];congr 2;omega⟩
theorem Lr{l:List Id}{x y z:Id}(h1:De π l 0 x=some z)(h2:De π l 0 y=some z):x=y:=by
 obtain⟨j,t,a1,a2⟩:=Eg h1;obtain⟨k,u,b1,b2⟩:=Eg h2;rw[a2]at b2;simp only[NO,I5,and_true]at b2;rw[b2.2,b1]at a1;exact(NL a1).symm
theorem G1(ν:Id→Option Id)(vs:List AV):JQ ν vs=vs.map (Mr ν):=by
 induction vs with
 |nil=>rfl
 |cons v vs ih=>simp[JQ,ih]
variable{β2:Au}{M2:Nat→Prop}{ν:Id→Option Id}
theorem Su(hν: ∀x z,ν x=some z→β2 z=β x)(hM: ∀b,M2 b→M b){x:AV}{v:Value}(h:VR β w M x v):VR β2 w M2 (Mr ν x) v:=by
 have cells: ∀{cs:List AV} {c:Array Value},(∀(i:Nat) (x:AV) (v:Value),cs[i]? =some x→c[i]? =some v→VR β2 w M2 (Mr ν x) v)→
  ∀(i:Nat) (x:AV) (v:Value),(JQ ν cs)[i]? =some x→c[i]? =some v→VR β2 w M2 x v:=by
  intro cs c ih i x v hx hv;rw[G1,D1,BV]at hx;obtain⟨y,hy,rfl⟩:=hx;exact ih i y v hy hv
 induction h with
 |d h=>simp only[Mr];exact .d (h.mono (A:=fun _=>False) (Fm hM w))
 |ci=>exact .ci
 |emp a=>exact .emp a
 |em id off len k a cap hk hn hl ha=>
  simp only[Mr];split
  .rename_i z hz;exact .em z off len k a cap (by rw[hν _ _ hz];exact hk) hn hl ha
  .exact .undef _
 |ptr id off k hk=>
  simp only[Mr];split
  .rename_i z hz;exact .ptr z off k (by rw[hν _ _ hz];exact hk)
  .exact .undef _
 |i6 id i off k hk=>
  simp only[Mr];split
  .rename_i z hz;exact .i6 z i off k (by rw[hν _ _ hz];exact hk)
  .exact .undef _
 |pp cs b off c elem fr hb hm hl hd=>
  simp only[Mr];exact .pp cs b off c elem fr hb (fun h=>hm (hM _ h)) hl fun i x v h1 h2=>(hd i x v h1 h2).mono (A:=fun _=>False) (Fm hM w)
 |fn f a b a' b' h1 h2 _ _ ih1 ih2=>
  simp only[Mr];exact .fn f _ _ a' b' (by rw[G1,BI];exact h1) (by rw[G1,BI];exact h2) (cells ih1) (cells ih2)
 |v6 id k hk=>
  simp only[Mr];split
  .rename_i z hz;exact .v6 z k (by rw[hν _ _ hz];exact hk)
  .exact .undef _
 |mp id k hk=>
  simp only[Mr];split
  .rename_i z hz;exact .mp z k (by rw[hν _ _ hz];exact hk)
  .exact .undef _
 |iface t v u _ ih=>simp only[Mr];exact .iface t _ u ih
 |agg cs c h1 _ ih=>simp only[Mr];exact .agg _ c (by rw[G1,BI];exact h1) (cells ih)
 |ge cs c h1 _ ih=>simp only[Mr];exact .ge _ c (by rw[G1,BI];exact h1) (cells ih)
 |undef v=>exact .undef v
theorem gp(ν:Id→Option Id)(e:Bm)(t:Nat):Bm.get (e.map fun p=>(p.1,Mr ν p.2)) t=Mr ν (e.get t):=by
 induction e with
 |nil=>rfl
 |cons p e ih=>
  obtain⟨k,v⟩:=p;simp only[D8,Bm.get_cons,ih];split<;>rfl
theorem ABA(hν: ∀x z,ν x=some z→β2 z=β x)(hM: ∀b,M2 b→M b){k:Qp}{o:Obj}(h:LH β w M k o):LH β2 w M2 k (JR ν o):=by
 have dr: ∀{x:AZ} {v:Value},DR w M x v→DR w M2 x v:=fun h=>h.mono (A:=fun _=>False) (Fm hM w);cases o with
 |box cs=>
  obtain⟨c,elem,h1,h2⟩:=h;refine⟨c,elem,h1,by rw[G1,BI];exact h2.1,fun i x v hx hv=>?_⟩;rw[G1,D1,BV]at hx;obtain⟨y,hy,rfl⟩:=hx;exact Su hν hM (h2.2 i y v hy hv)
 |co sz es=>obtain⟨c,elem,h1,h2,h3,h4,h5,h6,h7⟩:=h;exact⟨c,elem,h1,h2,h3,h4,h5,h6,fun i x v a b=>dr (h7 i x v a b)⟩
 |it sz es=>
  rcases h with h|⟨hm,c,elem,fr,h1,h2,h3,h4,h5,h6,h7⟩
  .exact .inl h
  .exact .inr ⟨fun h=>hm (hM _ h),c,elem,fr,h1,h2,h3,h4,h5,h6,fun i x v a b=>dr (h7 i x v a b)⟩
 |arr sz es=>
  obtain⟨c,elem,h1,h2,h3,h4,h5,h6,h7⟩:=h;have hfl:(es.map (JQ ν)).flatten=es.flatten.map (Mr ν):=by
   rw[Rw];congr 1;exact List.map_congr_left fun x _=>G1 ν x
  refine⟨c,elem,h1,h2,h3,h4,fun e he=>?_,by rw[BI];exact h6,fun i x v hx hv=>?_⟩
  .obtain⟨y,hy,rfl⟩:=F0.1 he;rw[G1,BI];exact h5 y hy
  .rw[hfl,D1,BV]at hx;obtain⟨y,hy,rfl⟩:=hx;exact Su hν hM (h7 i y v hy hv)
 |map es=>
  obtain⟨en,cl,h1,h2,h3⟩:=h;refine⟨en,cl,h1,by rw[BI];exact h2,fun i p e hp he=>?_⟩;rw[D1,BV]at hp;obtain⟨y,hy,rfl⟩:=hp;exact⟨dr (h3 i y e hy he).1,Su hν hM (h3 i y e hy he).2⟩
 |loop r=>
  obtain⟨l,h1,h2,h3,h4,h5,h6,h7,h9,h8⟩:=h;refine⟨l,h1,h2,h3,h4,h5,h6,h7,h9,fun t=>?_⟩;rw[gp];exact Su hν hM (h8 t)
theorem W4(ν:Id→Option Id)(o:Obj):(JR ν o).mut=o.mut:=by cases o<;>rfl
theorem Et{ν:Id→Option Id}: ∀{l:List Id} {z:Id} {o2:Obj},(DE h ν l).get z=some o2→ ∃x o,h.get x=some o∧ν x=some z∧o2=JR ν o
 |[],z,o2,hg=>by simp[DE]at hg
 |x::l,z,o2,hg=>by
  simp only[DE]at hg;split at hg
  .rename_i o z' h1 h2;rw[AB.get_cons]at hg;split at hg
   .rename_i e;subst e;cases hg;exact⟨x,o,h1,h2,rfl⟩
   .exact Et hg
  .exact Et hg
theorem SU(e:Bm): ∀(l:List Nat) (t:Nat),Bm.get (l.map fun t=>(t,e.get t)) t=e.get t∨Bm.get (l.map fun t=>(t,e.get t)) t=.undef
 |[],t=>.inr rfl
 |k::l,t=>by
  simp only[D8,Bm.get_cons];split
  .rename_i h;subst h;exact .inl rfl
  .exact SU e l t
theorem rH{C:CZ}{fr:Fr}{b:Nat}{st:St}(H:HR A β w st.heap)(s:K5 A β w nt st.env.get st.defs st.heap a)(hf:CA β fr.π st.base)(hown:fr.raw=false→ ∀id,β id≠none→fr.π<:+id):
 ∃β2,Bh A bv fr.π β w st.heap β2 w (E8 C fr b st).heap∧K5 A β2 w nt (E8 C fr b st).env.get (E8 C fr b st).defs (E8 C fr b st).heap a∧CA β2 fr.π (E8 C fr b st).base:=by
 unfold E8;simp only;split
 .refine⟨β,Bh.refl H,⟨s.sz,fun t=>?_,s.defs⟩,hf⟩;simp only;rcases SU st.env (C.live fr.f b) t with e|e
  .rw[e];exact s.env t
  .rw[e];exact .undef _
 .rename_i hcond;simp only[I2,not_or,KW,Bool.not_eq_eq_eq_not,Bool.not_not]at hcond;obtain⟨hraw,hdefs⟩:=hcond;have hown:=hown hraw;have hd0:st.defs=[]:=by simpa using hdefs
  generalize hl:CB st.heap 1000 (Ey [] (((C.live fr.f b).map fun t=>(t,st.env.get t)).flatMap fun p=>AD p.2)) 0=l
  classical
  let ν:=De fr.π l 0
  let β2:Au:=fun z=>if hz: ∃x,ν x=some z then β hz.choose else none
  have hν: ∀x z,ν x=some z→β2 z=β x:=by
   intro x z hx;have hz: ∃x,ν x=some z:=⟨x,hx⟩;simp only[β2,dif_pos hz];rw[Lr hz.choose_spec hx]
  have hback: ∀z k,β2 z=some k→ ∃x,ν x=some z∧β x=some k:=by
   intro z k hk;by_cases hz: ∃x,ν x=some z
   .simp only[β2,dif_pos hz]at hk;exact⟨_,hz.choose_spec,hk⟩
   .simp only[β2,dif_neg hz]at hk;cases hk
  have hname: ∀x z,ν x=some z→ ∃j t,j<l.length∧z=t::j::fr.π:=by
   intro x z hx;obtain⟨j,t,h1,h2⟩:=Eg hx;exact⟨j,t,(BE.1 h1).1,by rw[h2,I5]⟩
  have hunder: ∀x z,ν x=some z→fr.π<:+z:=by
   intro x z hx;obtain⟨j,t,_,rfl⟩:=hname x z hx;exact(Es _ _).trans (Es _ _)
  have hM: ∀b,MS A β2 (DE st.heap ν l) b→MS A β st.heap b:=by
   rintro b (hb|⟨z,o,k,h1,h2,h3,rfl⟩)
   .exact .inl hb
   .obtain⟨x,o',g1,g2,rfl⟩:=Et h1;rw[W4]at h2;rw[hν x z g2]at h3;exact .inr ⟨x,o',k,g1,h2,h3,rfl⟩
  have H2:HR A β2 w (DE st.heap ν l):=by
   refine⟨fun z o ho=>?_,fun y z oy oz ky kz hy hz hmy hmz hky hkz e=>?_,fun z k hk=>?_,fun z o k ho hm hk=>?_,H.abnd⟩
   .obtain⟨x,o',g1,g2,rfl⟩:=Et ho;obtain⟨k,hk,hr⟩:=H.obj x o' g1;exact⟨k,by rw[hν x z g2];exact hk,ABA hν hM hr⟩
   .obtain⟨x,o',g1,g2,rfl⟩:=Et hy;obtain⟨x2,o2',g3,g4,rfl⟩:=Et hz;rw[W4]at hmy hmz;rw[hν x y g2]at hky;rw[hν x2 z g4]at hkz;have:=H.inj x x2 o' o2' ky kz g1 g3 hmy hmz hky hkz e;subst this;rw[g2]at g4;exact NL g4
   .obtain⟨x,_,hx⟩:=hback z k hk;exact H.ws x k hx
   .obtain⟨x,o',g1,g2,rfl⟩:=Et ho;rw[W4]at hm;rw[hν x z g2]at hk;exact H.out x o' k g1 hm hk
  refine⟨β2,⟨fun id hi=>?_,H2,⟨fun _ _ _=>rfl,EL _,fun b hb=>.inl (hM b hb),rfl,rfl⟩,fun σ hσ _=>⟨fun _ _ _=>rfl,?_,fun id hi=>?_⟩⟩,⟨s.sz,fun t=>?_,?_⟩,fun n hn z hz=>?_⟩
  .have h1:β id=none:=by
    cases hb:β id with
    |none=>rfl
    |some k=>exact absurd (hown id (by rw[hb];simp)) hi
   have h2:β2 id=none:=by
    cases hb:β2 id with
    |none=>rfl
    |some k=>
     obtain⟨x,hx,_⟩:=hback id k hb;exact absurd (hunder x id hx) hi
   rw[h1,h2]
  .rintro b ⟨z,k,h1,h2,rfl⟩;obtain⟨x,hx,hk⟩:=hback z k h2;exact .inl ⟨x,k,hσ.trans (hown x (by rw[hk];simp)),hk,rfl⟩
  .have h1:(DE st.heap ν l).get id=none:=by
    cases hg:(DE st.heap ν l).get id with
    |none=>rfl
    |some o=>
     obtain⟨x,_,_,g2,_⟩:=Et hg;exact absurd (hσ.trans (hunder x id g2)) hi
   have h2:st.heap.get id=none:=by
    cases hg:st.heap.get id with
    |none=>rfl
    |some o=>
     obtain⟨k,hk,_⟩:=H.obj id o hg;exact absurd (hσ.trans (hown id (by rw[hk];simp))) hi
   rw[h2];exact h1
  .simp only;rw[gp];refine Su hν hM ?_;rcases SU st.env (C.live fr.f b) t with e|e
   .rw[e];exact s.env t
   .rw[e];exact .undef _
  .have:=s.defs;rw[hd0]at this;cases hd:a.defers with
   |nil=>trivial
   |cons d l=>rw[hd]at this;exact this.elim
  .cases hb:β2 z with
   |none=>rfl
   |some k=>
    exfalso;obtain⟨x,hx,_⟩:=hback z k hb;obtain⟨j,t,hj,rfl⟩:=hname x z hx;have:=Js hz (Es t (j::fr.π));have:l.length≤n:=hn;omega
end Go.Abs
