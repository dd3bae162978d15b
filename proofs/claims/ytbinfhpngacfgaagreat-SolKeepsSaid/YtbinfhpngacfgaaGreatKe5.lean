/-
  Parts of it.
-/
import Derived.OrdersIn
import Derived.RangeFuncLeaves
import Derived.Test.YtbinfhpngacfgaaGreatKe4
set_option linter.all false
namespace Go.Abs
variable{A:Nat→Prop}{P:Program}{mix:List TypeId}{β β' β'':Aw}{w w' w'':World}{M:Nat→Prop}{h h' h'':AD}{π ρ:List Nat}{ce:Option (List Nat)}
def E9(β:Aw)(π:List Nat):Prop:= ∀id,π<:+id→β id=none
def sv(ρ:List Nat)(β:Aw)(b:Nat):Prop:= ∃id k,ρ<:+id∧β id=some k∧k.b=b
def WV(ce:Option (List Nat))(ρ:List Nat)(β:Aw):Prop:=ce=some ρ∨ ∀id,β id≠none→ρ<:+id
def sY(ce:Option (List Nat))(π:List Nat)(β:Aw)(w:World)(h:AD)(β':Aw)(w':World)(h':AD):Prop:=
 ∀ρ,ρ<:+π→WV ce ρ β→(∀b,b<w.heap.size→ ¬sv ρ β b→w'.heap[b]? =w.heap[b]?)∧(∀b,sv ρ β' b→sv ρ β b∨w.heap.size≤b)∧ ∀id,¬ρ<:+id→h'.get id=h.get id
structure Bp(A:Nat→Prop)(ce:Option (List Nat))(π:List Nat)(β:Aw)(w:World)(h:AD)(β':Aw)(w':World)(h':AD):Prop where
 out: ∀id,¬π<:+id→β' id=β id
 hr:HR A β' w' h'
 ip:EG A (MS A β h) w (MS A β' h') w'
 kept:sY ce π β w h β' w' h'
theorem Bp.refl(H:HR A β w h):Bp A ce π β w h β w h:=
 ⟨fun _ _=>rfl,H,.refl _ _,fun _ _ _=>⟨fun _ _ _=>rfl,fun _ hb=>.inl hb,fun _ _=>rfl⟩⟩
theorem Zd(hs:ρ<:+π)(ho: ∀id,¬π<:+id→β' id=β id)(hg:WV ce ρ β):WV ce ρ β':=by
 refine hg.imp (fun h=>h) fun h id hi=>?_;by_cases e:π<:+id
 .exact hs.trans e
 .rw[ho id e]at hi;exact h id hi
theorem Bp.trans(g1:Bp A ce π β w h β' w' h')(g2:Bp A ce π β' w' h' β'' w'' h''):Bp A ce π β w h β'' w'' h'' where
 out id hi:=by rw[g2.out id hi,g1.out id hi]
 hr:=g2.hr
 ip:=g1.ip.trans g2.ip
 kept ρ hρ hg:=by
  obtain⟨a1,a2,a3⟩:=g1.kept ρ hρ hg;obtain⟨b1,b2,b3⟩:=g2.kept ρ hρ (Zd hρ g1.out hg);refine⟨fun b hb hu=>?_,fun b hb=>?_,fun id hi=>by rw[b3 id hi,a3 id hi]⟩
  .rw[b1 b (Mp hb g1.ip.size) (fun hu'=>(a2 b hu').elim hu (fun h=>by omega)),a1 b hb hu]
  .rcases b2 b hb with h1|h1
   .exact a2 b h1
   .exact .inr (IP g1.ip.size h1)
theorem Bp.le(g:Bp A ce π β w h β' w' h')(hf:E9 β π):Le β β':=fun id k hk=>by
 rw[g.out id fun hs=>by rw[hf id hs]at hk;cases hk];exact hk
theorem Bp.up{n:List Nat}(hs:π<:+n)(g:Bp A ce n β w h β' w' h'):Bp A ce π β w h β' w' h':=
 ⟨fun id hi=>g.out id fun hn=>hi (hs.trans hn),g.hr,g.ip,fun ρ hρ hg=>g.kept ρ (hρ.trans hs) hg⟩
variable{h2:AD}
theorem MS.congr{h:AD}(e: ∀id,h.get id=h2.get id):MS A β h=MS A β h2:=by
 funext b;simp only[MS,e]
theorem HR.congr{h:AD}(e: ∀id,h.get id=h2.get id)(H:HR A β w h):HR A β w h2:=by
 have hM:=MS.congr (A:=A) (β:=β) e;refine⟨fun id o ho=>?_,fun a b oa ob ka kb ha hb=>H.inj a b oa ob ka kb (by rw[e];exact ha) (by rw[e];exact hb),H.bnd,fun id o k ho=>H.out id o k (by rw[e];exact ho),H.abnd⟩;rw[←hM];exact H.obj id o (by rw[e];exact ho)
theorem Bp.congr{h:AD}(e: ∀id,h.get id=h2.get id)(g:Bp A ce π β w h β' w' h'):Bp A ce π β w h2 β' w' h':=by
 refine⟨g.out,g.hr,by rw[←MS.congr e];exact g.ip,fun ρ hρ hg=>?_⟩;obtain⟨a,b,c⟩:=g.kept ρ hρ hg;exact⟨a,b,fun id hi=>by rw[←e];exact c id hi⟩
structure NT where
 n:Nat
 lb:Nat
inductive DfR(lb:Nat)(β:Aw)(w:World)(M:Nat→Prop):Df→Deferred→Prop
 |mark (id r):w.heap[r]? =some (.deferred (some []))→ ¬M r→lb≤r→DfR lb β w M (.mark id) {target:=.collected r,args:= #[]}
 |call (f args vs):GW β w M args vs→DfR lb β w M (.call f args) {target:=.fn (.func f) #[],args:=vs}
def Jt(lb:Nat)(β:Aw)(w:World)(M:Nat→Prop):List Df→List Deferred→Prop
 |[],[]=>True
 |d::l,e::m=>DfR lb β w M d e∧Jt lb β w M l m∧ ∀e'∈m,∀r,e.target=.collected r→e'.target≠ .collected r
 |_,_=>False
variable{lb:Nat}{M':Nat→Prop}
theorem DfR.mono(hβ:Le β β')(hp:EG A M w M' w'){d:Df}{e:Deferred}(h:DfR lb β w M d e):DfR lb β' w' M' d e:=by
 cases h with
 |mark id r h1 h2 h3=>exact .mark id r (by rw[hp.un r (AI h1) (.inl h2)];exact h1) (hp.sub' (AI h1) h2) h3
 |call f args vs h1=>exact .call f args vs (h1.mono hβ hp)
theorem Jt.mono(hβ:Le β β')(hp:EG A M w M' w'): ∀{l:List Df} {m:List Deferred},Jt lb β w M l m→Jt lb β' w' M' l m
 |[],[],_=>trivial
 |_::_,_::_,h=>⟨h.1.mono hβ hp,Jt.mono hβ hp h.2.1,h.2.2⟩
 |[],_::_,h=>h.elim
 |_::_,[],h=>h.elim
theorem Jt.marks{lb:Nat}: ∀{l:List Df} {m:List Deferred},Jt lb β w M l m→ ∀e∈m,∀r,e.target=.collected r→r<w.heap.size
 |[],[],_,e,he,_,_=>by cases he
 |d::l,e'::m,h,e,he,r,hr=>by
  rcases Co.1 he with rfl|he
  .obtain⟨h1,_,_⟩:=h;cases h1 with
   |mark id r' h2 _ _=>simp only[Target.collected.injEq]at hr;subst hr;exact AI h2
   |call f args vs _=>cases hr
  .exact Jt.marks h.2.1 e he r hr
 |[],_::_,h,_,_,_,_=>h.elim
 |_::_,[],h,_,_,_,_=>h.elim
structure Ld(A:Nat→Prop)(β:Aw)(w:World)(nt:NT)(env:Nat→AV)(defs:List Df)(h:AD)(a:Act):Prop where
 sz:a.tmps.size=nt.n
 env:Jq β w (MS A β h) env fun t=>a.tmps.getD t Go.undef
 defs:Jt nt.lb β w (MS A β h) defs a.defers
variable{nt:NT}{env:Nat→AV}{defs:List Df}{a:Act}
theorem Ld.congr{h:AD}(e: ∀id,h.get id=h2.get id)(s:Ld A β w nt env defs h a):Ld A β w nt env defs h2 a:=
 ⟨s.sz,by rw[←MS.congr e];exact s.env,by rw[←MS.congr e];exact s.defs⟩
theorem Ld.mono(s:Ld A β w nt env defs h a)(hβ:Le β β')(hp:EG A (MS A β h) w (MS A β' h') w'):Ld A β' w' nt env defs h' a:=
 ⟨s.sz,s.env.mono hβ hp,s.defs.mono hβ hp⟩
def QW(e:Nat→AV)(dst:Option Tmp)(v:AV)(t:Nat):AV:=match dst with
 |some d=>if d=t then v else e t
 |none=>e t
theorem bG(e:Bn)(dst:Option Tmp)(v:AV):(Ch e dst v).get=QW e.get dst v:=by
 funext t;cases dst with
 |none=>rfl
 |some d=>simp[Ch,QW,Bn.get_cons]
theorem yK(a:Act)(dst:Option Tmp)(u:Value):(a.put dst u).tmps.size=a.tmps.size:=by
 cases dst<;>simp[Act.put]
theorem bJ(a:Act)(dst:Option Tmp)(u:Value):(a.put dst u).defers=a.defers:=by
 cases dst<;>rfl
theorem Ld.put{nt:NT}{env:Nat→AV}{defs:List Df}{a:Act}(s:Ld A β w nt env defs h a){dst:Option Tmp}(hd: ∀d,dst=some d→d<nt.n){v:AV}{u:Value}(hv:VR β w (MS A β h) v u):
 Ld A β w nt (QW env dst v) defs h (a.put dst u):=by
 refine⟨by rw[yK];exact s.sz,fun t=>?_,by rw[bJ];exact s.defs⟩;cases dst with
 |none=>exact s.env t
 |some d=>
  have hlt:d<a.tmps.size:=by rw[s.sz];exact hd d rfl
  simp only[QW,Act.put];by_cases e:d=t
  .subst e;simp[hlt];exact hv
  .have:=s.env t;simp only[CI e];rw[F8,Ii e,←F8];exact this
abbrev FF(ro:Option Nat):Fence:={Fence.wide with round:=ro}
def ADs(β:Aw)(w:World)(M:Nat→Prop):Ad→Ending→Prop
 |.ret v,.returned u=>VR β w M v u
 |.f9 v,.panicked chain=> ∃u,chain=[{v:=u,recovered:=false}]∧VR β w M v u
 |_,_=>False
def Oe(A:Nat→Prop)(ce:Option (List Nat))(π:List Nat)(β:Aw)(w:World)(h:AD)(r:Ad×AD)(e:Ending)(w':World):Prop:=
 ∃β',Bp A ce π β w h β' w' r.2∧ADs β' w' (MS A β' r.2) r.1 e
def HZ(l:Loop)(vs:Array Value):Array Value:=(l.params.zip vs).foldl (fun tmps (x:Nat×Value)=>tmps.setIfInBounds x.1 x.2) l.tmps
def Py(P:Program)(A:Nat→Prop)(t:Tgt)(args:List AV)(h:AD)(π:List Nat)(ce:Option (List Nat))(r:Ad×AD)(β:Aw):Prop:=
 ∀(w:World) (vs:Array Value),HR A β w h→E9 β π→GW β w (MS A β h) args vs→
  match t with
  |.fn f=>Calls P f vs w (Oe A ce π β w h r)
  |.round id lp=>lp.params.length=args.length∧ ∀(k:RY) (l:Loop),h.get id=some (.loop lp)→β id=some k→w.heap[k.b]? =some (.loop l)→
   RoundIn Fence.wide 0 P k.b l.fn (HZ l vs) l.assign l.body w (Oe A ce π β w h r)
def Kv(P:Program)(f:FuncId):Prop:= ∃fn c,P.funcs[f]? =some fn∧fn.body=some c∧(fn.name== "runtime.NumGoroutine")=false
def LW(W:Lp→Prop)(h:AD):Prop:= ∀id r,h.get id=some (.loop r)→W r
structure jH(P:Program)(W:Lp→Prop)(t:Tgt)(args:List AV)(h:AD)(π:List Nat)(raw:Bool)(ce:Option (List Nat))(r:Ad×AD):Prop where
 ent: ∀f,t=.fn f→Kv P f
 rw:raw=true→(∀id lp,t=.round id lp→W lp)→LW W h→ ∀A β,Py P A t args h π ce r β
 pu:raw=false→h=[]→ce=none→ ∀A,Py P A t args [] π none r fun _=>none
 ids:raw=false→h=[]→ce=none→π=[]→ ∀v,r.1=.ret v→AF v=[]∧r.2=[]
 lw:(∀id lp,t=.round id lp→W lp)→LW W h→LW W r.2
def DI(P:Program)(W:Lp→Prop)(K:AO):Prop:=
 ∀(t:Tgt) (args:List AV) (h:AD) (π:List Nat) (raw:Bool) (ce:Option (List Nat)) (r:Ad×AD),K t args h π raw ce=.ok r→jH P W t args h π raw ce r
variable{δ:AD}
theorem cC{ρ:List Nat}(h:KF (some ρ) δ=true): ∀p∈δ,ρ<:+p.1:=fun p hp=>
 (Id.under_iff _ _).1 (DO.1 h p hp)
theorem J1{δ:AD}(hle:Le β β')(hnew: ∀id,β' id≠none→β id≠none∨ρ<:+id)(H':HR A β' w' (h.puts δ))(hp:EG A (MS A β h) w (MS A β' (h.puts δ)) w')(hc:Chg β w β' w' δ)
 (hw:KF ce δ=true):Bp A ce ρ β w h β' w' (h.puts δ):=by
 have hout: ∀id,¬ρ<:+id→β' id=β id:=by
  intro id hi;cases hb:β id with
  |some k=>exact hle id k hb
  |none=>
   cases hb':β' id with
   |none=>rfl
   |some k=>exact absurd (hnew id (by rw[hb'];simp)) (by simp[hb,hi])
 refine⟨hout,H',hp,fun σ hσ hg=>?_⟩;have hδ: ∀p∈δ,∀k,β p.1=some k→σ<:+p.1:=by
  intro p hp k hk;rcases hg with hg|hg
  .subst hg;exact cC hw p hp
  .exact hg p.1 (by rw[hk];simp)
 refine⟨fun b hb hu=>hc.1 b hb fun p hp k hk e=>hu ⟨p.1,k,hδ p hp k hk,hk,e⟩,?_,fun id hi=>?_⟩
 .rintro b ⟨id,k,h1,h2,rfl⟩;rcases hc.2 id k h2 with h3|h3|⟨p,hp,k',h3,h4⟩
  .exact .inl ⟨id,k,h1,h3,rfl⟩
  .exact .inr h3
  .exact .inl ⟨p.1,k',hδ p hp k' h3,h3,h4⟩
 .rcases IG δ h id with⟨h1,_⟩|⟨p,h1,rfl,h3⟩
  .exact h1
  .refine absurd ?_ hi;rcases hg with hg|hg
   .subst hg;exact cC hw p h1
   .obtain⟨k,hk,_⟩:=H'.obj p.1 p.2 h3;by_cases e:ρ<:+p.1
    .exact hσ.trans e
    .rw[hout _ e]at hk;exact hg p.1 (by rw[hk];simp)
def Aft(A:Nat→Prop)(ce:Option (List Nat))(π:List Nat)(nt:NT)(β:Aw)(w:World)(h:AD)(env:Nat→AV)(defs:List Df)(h':AD)(a':Act)(w':World):Prop:=
 ∃β',Bp A ce π β w h β' w' h'∧Ld A β' w' nt env defs h' a'
theorem yH{ro:Option Nat}{o:Oper}{eff:CU}(H:HR A β w h)(hf:E9 β ρ)(s:Ld A β w nt env defs h a)
 (hd: ∀d,o.dst=some d→d<nt.n) (hdf: ∀c,o.op≠ .defer c) (ho:evalOp (B6 P mix) env h.get ρ o.op=some eff) (hw:KF ce eff.δ=true) {next:Act→World→Prop} {Q:Exit→Act→World→Prop}
 (hn: ∀a' w',Aft A ce ρ nt β w h (QW env o.dst eff.v) defs (h.puts eff.δ) a' w'→next a' w'):o.wpIn (FF ro) 0 P a w next Q:=by
 obtain⟨n,v,w',β',hr,hnv,hle,hnew,H',hp,hv,hc⟩:=lu (P:=P) (mix:=mix) H hf s.env rfl ho;have g:=J1 (ce:=ce) hle hnew H' hp hc hw;have fin:next (a.put o.dst v) w':=hn _ _ ⟨β',g,(s.mono hle hp).put hd hv⟩
 refine⟨fun _ _=>trivial,?_⟩;rw[Oper.semAt_eq _ _ _ hdf,hr];rcases hnv with rfl|⟨rfl,rfl⟩
 .exact fin
 .exact fin
variable{A:Nat→Prop}{P:Program}{mix:List TypeId}{β:Aw}{w:World}{M:Nat→Prop}
theorem GF{A M:Nat→Prop}(h: ∀b,M' b→M b)(w:World):EG A M w M' w:=⟨fun _ _ _=>rfl,EX _,fun b hb=>.inl (h b hb),rfl,rfl⟩
theorem PD{vs:List AV}(h:Az vs=[]): ∀x∈vs,AF x=[]:=by
 induction vs with
 |nil=>simp
 |cons v vs ih=>
  simp only[Az,OL]at h;intro x hx;rcases Co.1 hx with rfl|hx
  .exact h.1
  .exact ih h.2 x hx
variable{x:AV}{v:Value}
theorem VR.noIds{β':Aw}(hM: ∀b,M' b→M b)(h:VR β w M x v)(hi:AF x=[]):VR β' w M' x v:=by
 induction h with
 |d h=>exact .d (h.mono (A:=fun _=>False) (GF hM w))
 |co=>exact .co
 |emp a=>exact .emp a
 |eq id off len k a cap hk hn hl ha=>simp[AF]at hi
 |ptr id off k hk=>simp[AF]at hi
 |i7 id i off k hk=>simp[AF]at hi
 |rg cs b off c elem fr hb hm hl hd=>exact .rg cs b off c elem fr hb (fun h=>hm (hM _ h)) hl fun i x v h1 h2=>(hd i x v h1 h2).mono (A:=fun _=>False) (GF hM w)
 |fn f a b a' b' h1 h2 _ _ ih1 ih2=>
  simp only[AF,OL]at hi;exact .fn f a b a' b' h1 h2 (fun i x v hx hv=>ih1 i x v hx hv (PD hi.1 x (Ac hx))) (fun i x v hx hv=>ih2 i x v hx hv (PD hi.2 x (Ac hx)))
 |wn id k hk=>simp[AF]at hi
 |mp id k hk=>simp[AF]at hi
 |iface t v u _ ih=>simp only[AF]at hi;exact .iface t v u (ih hi)
 |agg cs c h1 _ ih=>simp only[AF]at hi;exact .agg cs c h1 fun i x v hx hv=>ih i x v hx hv (PD hi x (Ac hx))
 |ge cs c h1 _ ih=>simp only[AF]at hi;exact .ge cs c h1 fun i x v hx hv=>ih i x v hx hv (PD hi x (Ac hx))
 |undef v=>exact .undef v
def KI(h δ:AD)(p:Id×Obj):Prop:=
 (∃sz es,p.2=.i5 sz es∧h.get p.1=some (.d9 sz es))∨
 ∃sz es ds,p.2=.i5 sz ds∧h.get p.1=some (.arr sz es)∧C6 h.get es=some ds∧ ∀q∈es.flatMap (B5 h.get),q∈δ
theorem KI.i5{h:AD}{p:Id×Obj}(m:KI h δ p):p.2.mut=false:=by
 rcases m with⟨_,_,h,_⟩|⟨_,_,_,h,_⟩<;>rw[h]<;>rfl
theorem Oq{h δ:AD}(hm: ∀p∈δ,p.2.mut=false){vs:List AV}(hsub: ∀p∈B5 h.get vs,p∈δ){xs:List Aa}(hx:C2 h.get vs=some xs):
 ∀v∈vs,∀id∈Fx v,GU (h.puts δ) id:=by
 intro v hv id hid o ho;cases v with
 |eq id' off n=>
  simp only[Fx,As]at hid;subst hid;obtain⟨i,hi,hvi⟩:=RT.1 hv;obtain⟨q1,q2⟩:=EO hx;have hfc:=q2 i _ (xs[i]'(by omega)) (BY hi) (BY (by omega));rw[hvi]at hfc;rcases IG δ h id with⟨h1,h2⟩|⟨p,h1,h2,h3⟩
  .simp only[FQ]at hfc;split at hfc
   .rename_i sz es hg;exact absurd rfl (h2 (id,.i5 sz es) (hsub _ (Bv.2 ⟨_,hv,by simp[J5,hg]⟩)))
   .rename_i sz es hg;rw[h1,hg]at ho;cases ho;rfl
   .cases hfc
  .rw[h3]at ho;cases ho;exact hm p h1
 |_=>simp[Fx]at hid
theorem JE{h δ:AD}(hm: ∀p∈δ,KI h δ p):Frz h (h.puts δ):=by
 refine⟨fun id=>?_⟩;rcases IG δ h id with⟨h1,_⟩|⟨p,h1,h2,h3⟩
 .exact .inl h1
 .subst h2;rcases hm p h1 with⟨sz,es,h4,h5⟩|⟨sz,es,ds,h4,h5,h6,h7⟩
  .exact .inr (.inl ⟨sz,es,h5,by rw[h3,h4]⟩)
  .refine .inr (.inr ⟨sz,es,ds,h5,by rw[h3,h4],h6,?_⟩);exact Oq (fun p hp=>(hm p hp).i5) (fun q hq=>by
    obtain⟨v,hv,hq⟩:=Bv.1 hq;obtain⟨e,he,hv⟩:=Mt.1 hv;exact h7 q (Bv.2 ⟨e,he,Bv.2 ⟨v,hv,hq⟩⟩)) (Ek h6)
theorem xQ{h δ:AD}{v:AV}(hs: ∀p∈Fj h.get v,p∈δ): ∀p∈Fj h.get v,KI h δ p:=by
 intro p hp;cases v with
 |eq id off n=>
  simp only[Fj]at hp hs;split at hp
  .rename_i sz es hg;simp at hp;subst hp;exact .inl ⟨sz,es,rfl,hg⟩
  .rename_i sz es hg;split at hp
   .rename_i ds hds;rcases Co.1 hp with rfl|hp
    .refine .inr ⟨sz,es,ds,rfl,hg,hds,fun q hq=>hs q ?_⟩;simp only[hg,hds];exact Em _ hq
    .obtain⟨e,_,hp⟩:=Bv.1 hp;exact .inl (Jc hp)
   .cases hp
  .cases hp
 |_=>simp[Fj]at hp
theorem NI{h:AD}{as:List AV}: ∀p∈as.flatMap (mark h.get),KI h (as.flatMap (mark h.get)) p:=by
 intro p hp;obtain⟨v,hv,hp⟩:=Bv.1 hp;obtain⟨c,hc,hp⟩:=Bv.1 hp;exact xQ (fun q hq=>Bv.2 ⟨v,hv,Bv.2 ⟨c,hc,hq⟩⟩) p hp
def FzD(h h':AD)(v:AV):Prop:= ∀id∈Fx v,GU h' id∧ ∀sz es,h.get id=some (.arr sz es)→ ∀v'∈es.flatten,∀id'∈Fx v',GU h' id'
theorem AAl{h h':AD}(H:HR A β w h)(hs:X0 h h'){v:AV}{u:Value}{x:Aa}(hv:VR β w (MS A β h) v u)(hx:Dv h.get v=some x)(hf:FzD h h' v):DR w (MS A β h') x u:=by
 unfold Dv at hx;split at hx
 .rename_i id off n;have hfz:=(hf id (by simp[Fx])).1;split at hx
  .rename_i sz es hg;split at hx
   .rename_i ds hds;cases hv with
    |eq _ _ _ k a cap hk hn hl ha=>
     have ha':a=some ⟨k.b,off*k.sz,none⟩∨n=0:=ha.imp (fun h=>h) (fun h=>by omega);obtain⟨k',hk',c,elem,h1,h2,h3,h4,h5,h6,h7⟩:=H.obj id _ hg;rw[hk]at hk';cases hk';simp only[BV]at hx;obtain⟨l,hl',rfl⟩:=hx;subst h2;obtain⟨q1,q2⟩:=EO (Ek hds);refine Qf h1 (hfz.notMS H hs hk hg (.inl rfl)) (LB hds h5) (by rw[(HS hds).1];exact h6) (fun i x v a b=>?_) hl' ha' hl;have hi:i<es.flatten.length:=by rw[←q1];exact(BE.1 a).1
     exact M8 H hs (h7 i _ v (BY hi) b) (q2 i _ x (BY hi) a) ((hf id (by simp[Fx])).2 _ es hg _ (NL hi))
   .cases hx
  .exact M8 H hs hv hx fun id hid=>(hf id hid).1
 .exact M8 H hs hv hx fun id hid=>(hf id hid).1
theorem vR{h δ:AD}(hm: ∀p∈δ,KI h δ p){v:AV}{x:Aa}(hx:Dv h.get v=some x)(hs: ∀p∈Fj h.get v,p∈δ):FzD h (h.puts δ) v:=by
 intro id hid;cases v with
 |eq id' off n=>
  simp only[Fx,As]at hid;subst hid;have hfr: ∀p∈δ,p.2.mut=false:=fun p hp=>(hm p hp).i5;unfold Dv at hx;simp only[Fj]at hs;refine⟨fun o ho=>?_,fun sz es hg=>?_⟩
  .rcases IG δ h id with⟨h1,h2⟩|⟨p,h1,h2,h3⟩
   .rw[h1]at ho;cases o with
    |i5 sz es=>rfl
    |d9 sz es=>
     simp only[ho]at hs;exact absurd rfl (h2 _ (hs _ (As.2 rfl)))
    |arr sz es=>
     simp only[ho]at hx hs;cases hds:C6 h.get es with
     |none=>rw[hds]at hx;cases hx
     |some ds=>
      simp only[hds]at hs;exact absurd rfl (h2 _ (hs _ (FD ..)))
    |box cs=>simp[ho,FQ]at hx
    |map es=>simp[ho,FQ]at hx
    |loop r=>simp[ho,FQ]at hx
   .rw[h3]at ho;cases ho;exact hfr p h1
  .simp only[hg]at hx hs;cases hds:C6 h.get es with
   |none=>rw[hds]at hx;cases hx
   |some ds=>
    simp only[hds]at hs;exact Oq hfr (fun q hq=>by
     obtain⟨v,hv,hq⟩:=Bv.1 hq;obtain⟨e,he,hv⟩:=Mt.1 hv;exact hs q (Em _ (Bv.2 ⟨e,he,Bv.2 ⟨v,hv,hq⟩⟩))) (Ek hds)
 |_=>simp[Fx]at hid
theorem Nz{g:G}: ∀{vs xs:List AV},G5 g vs=some xs→xs.length=vs.length∧ ∀(i:Nat) (v x:AV),vs[i]? =some v→xs[i]? =some x→ ∃y,x=.d y∧Dv g v=some y
 |[],xs,h=>by simp[G5]at h;subst h;simp
 |v::vs,xs,h=>by
  simp only[G5]at h;split at h
  .rename_i x xs' h1 h2;cases h;obtain⟨i1,i2⟩:=Nz h2;refine⟨by simp[i1],fun i v' x' hv hx=>?_⟩;cases i with
   |zero=>simp at hv hx;subst hv hx;exact⟨x,rfl,h1⟩
   |succ i=>simp at hv hx;exact i2 i v' x' hv hx
  .cases h
variable{u:Value}
theorem ZF{h h':AD}(H:HR A β w h)(hsub:X0 h h'){v:AV}(hv:VR β w (MS A β h) v u)(hx:Ej h.get v=some x)(hs: ∀c∈Kp v,∀y,Dv h.get c=some y→FzD h h' c):
 VR β w (MS A β h') x u∧AF x=[]:=by
 have cell: ∀{v:AV} {u:Value} {y:Aa},VR β w (MS A β h) v u→Dv h.get v=some y→(∀y,Dv h.get v=some y→FzD h h' v)→DR w (MS A β h') y u:=
  fun hv hx hs=>AAl H hsub hv hx (hs _ hx)
 have cells: ∀{cs xs:List AV} {c:Array Value},cs.length=c.size→(∀(i:Nat) (x:AV) (v:Value),cs[i]? =some x→c[i]? =some v→VR β w (MS A β h) x v)→G5 h.get cs=some xs→(∀v∈cs,∀y,Dv h.get v=some y→FzD h h' v)→
  VR β w (MS A β h') (.agg xs) (.agg c)∧Az xs=[]:=by
  intro cs xs c hl hc hx hs;obtain⟨q1,q2⟩:=Nz hx;have hget: ∀(i:Nat) (x:AV),xs[i]? =some x→ ∃v y,cs[i]? =some v∧x=.d y∧Dv h.get v=some y:=by
   intro i x hx;have hi:i<cs.length:=by rw[←q1];exact(BE.1 hx).1
   obtain⟨y,h1,h2⟩:=q2 i _ x (BY hi) hx;exact⟨_,y,BY hi,h1,h2⟩
  refine⟨.agg _ _ (by rw[q1];exact hl) fun i x v hx hv=>?_,?_⟩
  .obtain⟨v',y,h1,rfl,h2⟩:=hget i x hx;exact .d (cell (hc i v' v h1 hv) h2 (hs v' (Ac h1)))
  .rw[List.eq_nil_iff_forall_not_mem];intro id hid;obtain⟨x,hx,hid⟩:=MZ hid;obtain⟨i,hi⟩:=ON.1 hx;obtain⟨_,y,_,rfl,_⟩:=hget i x hi;simp[AF]at hid
 have other: ∀{v x:AV} {u:Value},VR β w (MS A β h) v u→(Dv h.get v).map AV.d=some x→(∀y,Dv h.get v=some y→FzD h h' v)→VR β w (MS A β h') x u∧AF x=[]:=by
  intro v x u hv hx hs;simp only[BV]at hx;obtain⟨y,hy,rfl⟩:=hx;exact⟨.d (cell hv hy hs),rfl⟩
 unfold Ej at hx;split at hx
 .rename_i cs;simp only[BV]at hx;obtain⟨xs,hxs,rfl⟩:=hx;cases hv with
  |agg _ c hl hc=>
   obtain⟨h1,h2⟩:=cells hl hc hxs fun v hv=>hs v hv;exact⟨h1,h2⟩
 .cases hx;cases hv with
  |fn f a b a' b' h1 h2 h3 h4=>
   exact⟨.fn _ [] [] a' b' h1 h2 (fun _ _ _ h=>by simp at h) (fun _ _ _ h=>by simp at h),rfl⟩
 .rename_i t cs;simp only[BV]at hx;obtain⟨xs,hxs,rfl⟩:=hx;cases hv with
  |iface _ _ u hv=>
   cases hv with
   |agg _ c hl hc=>
    obtain⟨h1,h2⟩:=cells hl hc hxs fun v hv=>hs v hv;exact⟨.iface _ _ _ h1,h2⟩
 .rename_i t v' hne;simp only[BV]at hx;obtain⟨y,hy,rfl⟩:=hx;cases hv with
  |iface _ _ u hv=>
   have hp:Kp (.iface t v')=[v']:=by
    cases v'<;>first|rfl|exact absurd rfl (hne _)
   rw[hp]at hs;exact⟨.iface _ _ _ (.d (cell hv hy (hs v' (by simp)))),rfl⟩
 .rename_i h1 h2 h3 h4;have hp:Kp v=[v]:=by
   cases v<;>first|rfl|exact absurd rfl (h1 _)|exact absurd rfl (h4 _ _)
  rw[hp]at hs;exact other hv hx (hs v (by simp))
theorem XF{h:AD}(H:HR A β w h)(hm: ∀p∈δ,KI h δ p){v:AV}(hv:VR β w (MS A β h) v u)(hx:Ej h.get v=some x)(hs: ∀p∈mark h.get v,p∈δ):
 VR β w (MS A β (h.puts δ)) x u∧AF x=[]:=
 ZF H (JE hm).sub hv hx fun c hc _ hy=>vR hm hy fun p hp=>hs p (Bv.2 ⟨c,hc,hp⟩)
theorem ZJ{h:AD}(H:HR A β w h){v:AV}(hv:VR β w (MS A β h) v u)(hx:Ej h.get v=some x):VR β w (MS A β []) x u∧AF x=[]:=
 ZF H (X0.nil h) hv hx fun _ _ _ _ _ _=>⟨GU.nil _,fun _ _ _ _ _ _ _=>GU.nil _⟩
theorem QD{g:G}: ∀{vs xs:List AV},Dy g vs=some xs→xs.length=vs.length∧ ∀(i:Nat) (v x:AV),vs[i]? =some v→xs[i]? =some x→Ej g v=some x
 |[],xs,h=>by simp[Dy]at h;subst h;simp
 |v::vs,xs,h=>by
  simp only[Dy]at h;split at h
  .rename_i x xs' h1 h2;cases h;obtain⟨i1,i2⟩:=QD h2;refine⟨by simp[i1],fun i v' x' hv hx=>?_⟩;cases i with
   |zero=>simp at hv hx;subst hv hx;exact h1
   |succ i=>simp at hv hx;exact i2 i v' x' hv hx
  .cases h
variable{c:Array Value}
theorem AAm{h:AD}(H:HR A β w h)(hm: ∀p∈δ,KI h δ p){vs xs:List AV}(hv:GW β w (MS A β h) vs c)(hx:Dy h.get vs=some xs)(hs: ∀v∈vs,∀p∈mark h.get v,p∈δ):
 GW β w (MS A β (h.puts δ)) xs c∧ ∀x∈xs,AF x=[]:=by
 obtain⟨q1,q2⟩:=QD hx;have key: ∀(i:Nat) (x:AV) (hi:xs[i]? =some x),∃v,vs[i]? =some v∧Ej h.get v=some x:=by
  intro i x hi;have hlt:i<vs.length:=by rw[←q1];exact(BE.1 hi).1
  exact⟨_,BY hlt,q2 i _ x (BY hlt) hi⟩
 refine⟨⟨by rw[q1];exact hv.1,fun i x v hx hv'=>?_⟩,fun x hx=>?_⟩
 .obtain⟨y,h1,h2⟩:=key i x hx;exact(XF H hm (hv.2 i y v h1 hv') h2 (hs y (Ac h1))).1
 .obtain⟨i,hi⟩:=ON.1 hx;obtain⟨y,h1,h2⟩:=key i x hi;have hlt:i<c.size:=by rw[←hv.1];exact(BE.1 h1).1
  exact(XF H hm (hv.2 i y _ h1 (D8 hlt)) h2 (hs y (Ac h1))).2
theorem kA{h:AD}(H:HR A β w h)(hm: ∀p∈δ,KI h δ p){vs:List AV}(hv:GW β w (MS A β h) vs c)(hs: ∀v∈vs,∀p∈mark h.get v,p∈δ):
 GW β w (MS A β (h.puts δ)) (Mm h.get vs) c:=by
 refine⟨by simp[Mm,hv.1],fun i x v hx hv'=>?_⟩;simp only[Mm,D2,BV]at hx;obtain⟨y,h1,rfl⟩:=hx;cases hf:Ej h.get y with
 |none=>exact(hv.2 i y v h1 hv').mono (.refl β) (JE hm).sub.ip
 |some x=>exact(XF H hm (hv.2 i y v h1 hv') hf (hs y (Ac h1))).1
variable{w':World}
theorem O8{x:Aa}(hf:EU x=true)(h:DR w M x v):DR w' M' x v:=by
 cases h with
 |int k n=>exact .int k n
 |bool b=>exact .bool b
 |str s=>exact .str s
 |wl=>exact .wl
 |jp=>exact .jp
 |of=>exact .of
 |v6=>exact .v6
 |ws a cap=>simp[EU]at hf
 |be es=>simp[EU]at hf
theorem Y7: ∀{l:List AV},Fi l=true→ ∀x∈l,∃y,x=.d y∧EU y=true
 |[],_,x,hx=>by cases hx
 |v::l,h,x,hx=>by
  cases v with
  |d y=>
   simp only[Fi,AP]at h;rcases Co.1 hx with rfl|hx
   .exact⟨y,rfl,h.1⟩
   .exact Y7 h.2 x hx
  |_=>simp[Fi]at h
theorem Ri{β':Aw}(hf:flat x=true)(h:VR β w M x v):VR β' w' M' x v:=by
 have cells: ∀{cs:List AV} {c:Array Value},Fi cs=true→(∀(i:Nat) (x:AV) (v:Value),cs[i]? =some x→c[i]? =some v→VR β w M x v)→
  ∀(i:Nat) (x:AV) (v:Value),cs[i]? =some x→c[i]? =some v→VR β' w' M' x v:=by
  intro cs c hf hc i x v hx hv;obtain⟨y,rfl,hy⟩:=Y7 hf x (Ac hx);cases hc i _ v hx hv with|d hd=>exact .d (O8 hy hd)
 cases h with
 |d hd=>exact .d (O8 hf hd)
 |co=>exact .co
 |emp a=>exact .emp a
 |agg cs c hl hc=>exact .agg cs c hl (cells hf hc)
 |ge cs c hl hc=>exact .ge cs c hl (cells hf hc)
 |iface t v u hv=>
  cases hv with
  |d hd=>exact .iface _ _ _ (.d (O8 hf hd))
  |agg cs c hl hc=>exact .iface _ _ _ (.agg cs c hl (cells hf hc))
  |_=>simp[flat]at hf
 |_=>simp[flat]at hf
variable{A:Nat→Prop}{P:Program}{mix:List TypeId}{β β' β'':Aw}{w w' w'':World}{M:Nat→Prop}{h h' h'':AD}{π ρ:List Nat}{ce:Option (List Nat)}{nt:NT}{env:Nat→AV}{defs:List Df}{a:Act}
theorem Kc{f:FuncId}(he:Kv P f)(args:Array Value):(callFunc f args).run P w=.ok (.enter f args) w:=by
 obtain⟨fn,c,h1,h2,h3⟩:=he;have h3':fn.name≠ "runtime.NumGoroutine" :=by simpa using h3
 simp[callFunc,h1,h2,h3']
variable{A1:Nat→Prop}
theorem HR.none(ha: ∀b,A1 b→b<w.heap.size):HR A1 (fun _=>none) w []:=
 ⟨fun _ _ h=>by simp at h,fun _ _ _ _ _ _ h=>by simp at h,fun _ _ h=>(by cases h),fun _ _ _ h=>by simp at h,ha⟩
theorem cN{b:Nat}:MS A1 β [] b↔A1 b:=by simp[MS]
theorem HR.less(H:HR A β w h)(hs: ∀id o,h'.get id=some o→h.get id=some o):HR A β w h':=by
 have hsub: ∀b,MS A β h' b→MS A β h b:=by
  rintro b (hb|⟨id,o,k,h1,h2,h3,h4⟩)
  .exact .inl hb
  .exact .inr ⟨id,o,k,hs id o h1,h2,h3,h4⟩
 refine⟨fun id o ho=>?_,fun a b oa ob ka kb ha hb=>H.inj a b oa ob ka kb (hs _ _ ha) (hs _ _ hb),H.bnd,fun id o k ho=>H.out id o k (hs _ _ ho),H.abnd⟩;obtain⟨k,hk,hr⟩:=H.obj id o (hs _ _ ho);exact⟨k,hk,hr.mono (.refl β) (GF (A:=A) hsub w) (H.bnd id k hk) rfl⟩
theorem Sf(K:Id→Bool)(h:AD)(id:Id):AD.get (h.filter fun p=>K p.1) id=if K id then h.get id else none:=by
 induction h with
 |nil=>simp
 |cons p h ih=>
  obtain⟨k,o⟩:=p;rw[SP,AD.get_cons];by_cases e:k=id
  .subst e;cases hk:K k with
   |true=>simp[AD.get_cons]
   |false=>rw[CI (by simp[hk]),ih];simp[hk]
  .rw[CI e,←ih];split
   .rw[AD.get_cons,CI e]
   .rfl
def LF(ρ:List Nat)(id:Id):Bool:=match id with|0::l=> !Id.under ρ l|_=>true
theorem XH{id:Id}(hc:LF ρ id=false):ρ<:+id:=by
 unfold LF at hc;split at hc
 .rename_i l;have:Id.under ρ l=true:=by simpa using hc
  exact((Id.under_iff ρ l).1 this).trans (Ex 0 l)
 .cases hc
theorem XI(h:AD)(id:Id):(gc ρ h).get id=h.get id∨((gc ρ h).get id=none∧ρ<:+id):=by
 have e:gc ρ h=h.filter fun p=>LF ρ p.1:=rfl;rw[e,Sf (LF ρ)];cases hc:LF ρ id with
 |true=>exact .inl rfl
 |false=>exact .inr ⟨rfl,XH hc⟩
theorem M9{id:Id}{o:Obj}(hg:(gc ρ h).get id=some o):h.get id=some o:=by
 rcases XI (ρ:=ρ) h id with e|⟨e,_⟩
 .rw[←e];exact hg
 .rw[e]at hg;cases hg
theorem Bp.gc(g:Bp A ce ρ β w h β' w' h'):Bp A ce ρ β w h β' w' (gc ρ h'):=by
 refine⟨g.out,g.hr.less fun id o=>M9,⟨g.ip.un,g.ip.size,fun b hb=>g.ip.sub b ?_,g.ip.io⟩,fun σ hσ hg=>?_⟩
 .rcases hb with hb|⟨id,o,k,h1,h2,h3,h4⟩
  .exact .inl hb
  .exact .inr ⟨id,o,k,M9 h1,h2,h3,h4⟩
 .obtain⟨a1,a2,a3⟩:=g.kept σ hσ hg;refine⟨a1,a2,fun id hi=>?_⟩;rcases XI (ρ:=ρ) h' id with e|⟨_,e⟩
  .rw[e];exact a3 id hi
  .exact absurd (hσ.trans e) hi
theorem HR.same(H:HR A β w h)(hall: ∀b,b<w.heap.size→w'.heap[b]? =w.heap[b]?)(hz:w.heap.size≤w'.heap.size)(hio:w'.os=w.os∧w'.output=w.output):HR A β w' h:=
 H.step (.refl β) ⟨fun b hb _=>hall b hb,hz,fun _ h=>.inl h,hio⟩ (fun id o ho=>.inl ⟨ho,fun k hk=>hall k.b (H.bnd id k hk)⟩) H.inj (fun id k hk=>Mp (H.bnd id k hk) hz) H.out
theorem Kg(H:HR A β w h)(hall: ∀b,b<w.heap.size→w'.heap[b]? =w.heap[b]?)(hz:w.heap.size≤w'.heap.size)(hio:w'.os=w.os∧w'.output=w.output):Bp A ce ρ β w h β w' h:=
 ⟨fun _ _=>rfl,H.same hall hz hio,⟨fun b hb _=>hall b hb,hz,fun _ h=>.inl h,hio⟩,fun _ _ _=>⟨fun b hb _=>hall b hb,fun _ hb=>.inl hb,fun _ _=>rfl⟩⟩
variable{h1:AD}
theorem zD(H1:HR A β w h1)(hall: ∀b,b<w.heap.size→w'.heap[b]? =w.heap[b]?)(hz:w.heap.size≤w'.heap.size)(hio:w'.os=w.os∧w'.output=w.output)(hf:E9 β ρ)(H2:HR A1 β' w' h2)
 (hid: ∀id,β' id≠none→ρ<:+id) (hnew: ∀id k,β' id=some k→w.heap.size≤k.b) (hA: ∀b,MS A β h1 b→A1 b):
 ∃β2,Le β β2∧Le β' β2∧(∀id,¬ρ<:+id→β2 id=β id)∧(∀id k,β2 id=some k→β id=some k∨(ρ<:+id∧w.heap.size≤k.b))∧HR A β2 w' (h1++h2)∧(∀b,MS A β2 (h1++h2) b→MS A1 β' h2 b)∧
  EG A (MS A β h1) w (MS A β2 (h1++h2)) w':=by
 classical
 let β2:Aw:=fun id=>if ρ<:+id then β' id else β id
 have e1:Le β β2:=fun id k hk=>by
  have: ¬ρ<:+id:=fun hs=>by rw[hf id hs]at hk;cases hk
  simp only[β2,CI this];exact hk
 have e2:Le β' β2:=fun id k hk=>by
  simp only[β2,D0 (hid id (by rw[hk];simp))];exact hk
 have e3: ∀id k,β2 id=some k→(ρ<:+id∧β' id=some k)∨(¬ρ<:+id∧β id=some k):=fun id k hk=>by
  by_cases e:ρ<:+id
  .simp only[β2,D0 e]at hk;exact .inl ⟨e,hk⟩
  .simp only[β2,CI e]at hk;exact .inr ⟨e,hk⟩
 have o1: ∀id o,h1.get id=some o→ ¬ρ<:+id:=fun id o ho hs=>by
  obtain⟨k,hk,_⟩:=H1.obj id o ho;rw[hf id hs]at hk;cases hk
 have o2: ∀id o,h2.get id=some o→ρ<:+id:=fun id o ho=>by
  obtain⟨k,hk,_⟩:=H2.obj id o ho;exact hid id (by rw[hk];simp)
 have gt: ∀id o,(h1++h2).get id=some o→(h1.get id=some o∧ ¬ρ<:+id)∨(h2.get id=some o∧ρ<:+id):=by
  intro id o ho;rw[AD.get_append]at ho;cases hg:h1.get id with
  |some o'=>rw[hg]at ho;cases ho;exact .inl ⟨rfl,o1 id _ hg⟩
  |none=>rw[hg]at ho;exact .inr ⟨ho,o2 id _ ho⟩
 have hms: ∀b,MS A β2 (h1++h2) b→MS A1 β' h2 b:=by
  rintro b (hb|⟨id,o,k,q1,q2,q3,rfl⟩)
  .exact .inl (hA b (.inl hb))
  .rcases gt id o q1 with⟨g1,g2⟩|⟨g1,g2⟩<;>rcases e3 id k q3 with⟨g3,g4⟩|⟨g3,g4⟩
   .exact absurd g3 g2
   .exact .inl (hA k.b (.inr ⟨id,o,k,g1,q2,g4,rfl⟩))
   .exact .inr ⟨id,o,k,g1,q2,g4,rfl⟩
   .exact absurd g2 g3
 have hpr:EG A (MS A β h1) w (MS A β2 (h1++h2)) w':=by
  refine⟨fun b hb _=>hall b hb,hz,?_,hio⟩;rintro b (hb|⟨id,o,k,q1,q2,q3,rfl⟩)
  .exact .inl (.inl hb)
  .rcases gt id o q1 with⟨g1,g2⟩|⟨g1,g2⟩<;>rcases e3 id k q3 with⟨g3,g4⟩|⟨g3,g4⟩
   .exact absurd g3 g2
   .exact .inl (.inr ⟨id,o,k,g1,q2,g4,rfl⟩)
   .exact .inr (hnew id k g4)
   .exact absurd g2 g3
 refine⟨β2,e1,e2,fun id hi=>by simp only[β2,CI hi],fun id k hk=>?_,⟨fun id o ho=>?_,?_,fun id k hk=>?_,fun id o k ho hm hk hb=>?_,fun b hb=>Mp (H1.abnd b hb) hz⟩,hms,hpr⟩
 .rcases e3 id k hk with⟨g1,g2⟩|⟨g1,g2⟩
  .exact .inr ⟨g1,hnew id k g2⟩
  .exact .inl g2
 .rcases gt id o ho with⟨g1,g2⟩|⟨g1,g2⟩
  .obtain⟨k,hk,hr⟩:=H1.obj id o g1;exact⟨k,e1 _ _ hk,hr.mono e1 hpr (H1.bnd id k hk) (hall k.b (H1.bnd id k hk))⟩
  .obtain⟨k,hk,hr⟩:=H2.obj id o g1;exact⟨k,e2 _ _ hk,hr.mono e2 (GF (A:=A) hms w') (H2.bnd id k hk) rfl⟩
 .intro a b oa ob ka kb ha hb hma hmb hka hkb e;rcases gt a oa ha with⟨a1,a2⟩|⟨a1,a2⟩<;>rcases gt b ob hb with⟨b1,b2⟩|⟨b1,b2⟩<;>
   rcases e3 a ka hka with⟨a3,a4⟩|⟨a3,a4⟩<;>rcases e3 b kb hkb with⟨b3,b4⟩|⟨b3,b4⟩<;>try(first|exact absurd a3 a2|exact absurd b3 b2|exact absurd a2 a3|exact absurd b2 b3)
  .exact H1.inj a b oa ob ka kb a1 b1 hma hmb a4 b4 e
  .have:=H1.bnd a ka a4;have:=hnew b kb b4;omega
  .have:=H1.bnd b kb b4;have:=hnew a ka a4;omega
  .exact H2.inj a b oa ob ka kb a1 b1 hma hmb a4 b4 e
 .rcases e3 id k hk with⟨g1,g2⟩|⟨g1,g2⟩
  .exact H2.bnd id k g2
  .exact Mp (H1.bnd id k g2) hz
 .rcases gt id o ho with⟨g1,g2⟩|⟨g1,g2⟩<;>rcases e3 id k hk with⟨g3,g4⟩|⟨g3,g4⟩
  .exact absurd g3 g2
  .exact H1.out id o k g1 hm g4 hb
  .have:=H1.abnd _ hb;have:=hnew id k g4;omega
  .exact absurd g2 g3
theorem N0(H:HR A β w h)(hm: ∀p∈δ,KI h δ p)(hw:KF ce δ=true):Bp A ce ρ β w h β w (h.puts δ):=
 J1 (.refl β) (fun _ hi=>.inl hi) ((JE hm).hr H) (JE hm).sub.ip (.refl _ _ _) hw
def Gq(A:Nat→Prop)(ce:Option (List Nat))(ρ:List Nat)(nt:NT)(β:Aw)(w:World)(h:AD)(env:Nat→AV)(defs:List Df)(a:Act)(h':AD):Ad→Ending→World→Prop
 |.ret v,.returned u,w'=> ∃β',Bp A ce ρ β w h β' w' h'∧Ld A β' w' nt env defs h' a∧VR β' w' (MS A β' h') v u
 |.f9 v,.panicked chain,w'=> ∃β' u,Bp A ce ρ β w h β' w' h'∧Ld A β' w' nt env defs h' a∧chain=[{v:=u,recovered:=false}]∧VR β' w' (MS A β' h') v u
 |_,_,_=>False
variable{e:Ending}
theorem Rp{r:Ad×AD}(g1:Bp A ce ρ β w h β w h1)(hf:E9 β ρ)(s:Ld A β w nt env defs h a)(he:Oe A ce ρ β w h1 r e w'):
 Gq A ce ρ nt β w h env defs a (gc ρ r.2) r.1 e w':=by
 obtain⟨β',g,hr⟩:=he;have g':=(g1.trans g).gc;have hs:=s.mono (g'.le hf) g'.ip;have hsub: ∀b,MS A β' (gc ρ r.2) b→MS A β' r.2 b:=by
  rintro b (hb|⟨id,o,k,h1,h2,h3,h4⟩)
  .exact .inl hb
  .exact .inr ⟨id,o,k,M9 h1,h2,h3,h4⟩
 obtain⟨c,h'⟩:=r;cases c with
 |ret v=>cases e with
  |returned u=>exact⟨β',g',hs,VR.mono (.refl _) (GF (A:=A) hsub w') hr⟩
  |_=>exact hr.elim
 |f9 v=>cases e with
  |panicked chain=>
   obtain⟨u,h3,h4⟩:=hr;exact⟨β',u,g',hs,h3,h4.mono (.refl _) (GF (A:=A) hsub w')⟩
  |_=>exact hr.elim
theorem AFi{r:Ad×AD}(H:HR A β w h)(hf:E9 β ρ)(s:Ld A β w nt env defs h a)(he:Oe A (some ρ) ρ β w h1 r e w')(hflat: ∀v,r.1=.ret v∨r.1=.f9 v→flat v=true):
 Gq A ce ρ nt β w h env defs a h r.1 e w':=by
 obtain⟨β',g,hr⟩:=he;obtain⟨k1,_,_⟩:=g.kept ρ (List.suffix_refl _) (.inl rfl);have hall: ∀b,b<w.heap.size→w'.heap[b]? =w.heap[b]? :=fun b hb=>k1 b hb fun⟨id,k,u1,u2,_⟩=>by rw[hf id u1]at u2;cases u2
 have g':Bp A ce ρ β w h β w' h:=Kg H hall g.ip.size g.ip.io;have hs:=s.mono (g'.le hf) g'.ip;obtain⟨c,h'⟩:=r;cases c with
 |ret v=>cases e with
  |returned u=>exact⟨β,g',hs,Ri (hflat v (.inl rfl)) hr⟩
  |_=>exact hr.elim
 |f9 v=>cases e with
  |panicked chain=>
   obtain⟨u,h3,h4⟩:=hr;exact⟨β,u,g',hs,h3,Ri (hflat v (.inr rfl)) h4⟩
  |_=>exact hr.elim
section loops
variable{W:Lp→Prop}
def XN:Obj→Bool
 |.loop _=>true
 |_=>false
def BN(δ:AD):Prop:= ∀p∈δ,XN p.2=false
theorem BN.nil:BN []:=fun _ h=>by cases h
theorem BN.append{a b:AD}(h1:BN a)(h2:BN b):BN (a++b):=fun p hp=>(ES.1 hp).elim (h1 p) (h2 p)
theorem BN.one{id:Id}{o:Obj}(h:XN o=false):BN [(id,o)]:=fun p hp=>by rw[As.1 hp];exact h
theorem BN.cons{id:Id}{o:Obj}{δ:AD}(h:XN o=false)(h2:BN δ):BN ((id,o)::δ):=fun p hp=>by
 rcases Co.1 hp with rfl|hp
 .exact h
 .exact h2 p hp
theorem BN.marks{g:G}(vs:List AV):BN (B5 g vs):=fun p hp=>by
 obtain⟨sz,es,h,_⟩:=Jc hp;rw[h];rfl
theorem BN.markEs{g:G}(es:List (List AV)):BN (es.flatMap (B5 g)):=fun p hp=>by
 obtain⟨e,_,hp⟩:=Bv.1 hp;exact BN.marks e p hp
theorem LW.puts{h δ:AD}(hL:LW W h)(hn:BN δ):LW W (h.puts δ):=fun id r hr=>by
 rcases IG δ h id with⟨h1,_⟩|⟨p,h1,_,h3⟩
 .rw[h1]at hr;exact hL id r hr
 .rw[h3]at hr;have e:=MK hr;have:=hn p h1;rw[e]at this;cases this
theorem LW.gc{h:AD}(hL:LW W h):LW W (gc ρ h):=fun id r hr=>hL id r (M9 hr)
theorem LW.cons{h:AD}{o:Id×Obj}(hL:LW W h)(ho:XN o.2=false):LW W (o::h):=fun id r hr=>by
 obtain⟨i,ob⟩:=o;rw[AD.get_cons]at hr;split at hr
 .cases hr;cases ho
 .exact hL id r hr
theorem LW.append{h h2:AD}(h1:LW W h)(hL:LW W h2):LW W (h++h2):=fun id r hr=>by
 rw[AD.get_append]at hr;cases hg:h.get id with
 |none=>rw[hg]at hr;exact hL id r hr
 |some o=>rw[hg]at hr;cases hr;exact h1 id r hg
theorem LW.nil:LW W []:=fun _ _ h=>by cases h
theorem BN.markAll{h:AD}(as:List AV):BN (as.flatMap (mark h.get)):=fun p hp=>by
 rcases NI (h:=h) (as:=as) p hp with⟨_,_,e,_⟩|⟨_,_,_,e,_⟩<;>rw[e]<;>rfl
end loops
variable{A:Nat→Prop}{P:Program}{mix:List TypeId}{β β' β'':Aw}{w w' w'':World}{M:Nat→Prop}{h h' h'':AD}{π ρ:List Nat}{ce:Option (List Nat)}{nt:NT}{env:Nat→AV}{defs:List Df}{a:Act}{W:Lp→Prop}
variable{δ:AD}
theorem bK{h h':AD}{id:Id}(hi:id∈δ.map (·.1)):(h.puts δ).get id=(h'.puts δ).get id:=by
 induction δ generalizing h h' with
 |nil=>cases hi
 |cons p δ ih=>
  rw[AD.puts_cons,AD.puts_cons];by_cases e:id∈δ.map (·.1)
  .exact ih e
  .have hp:p.1=id:=by
    rcases Co.1 hi with h1|h1
    .exact h1.symm
    .exact absurd h1 e
   have hn: ∀q∈δ,q.1≠id:=fun q hq e'=>e (FN.2 ⟨q,hq,e'⟩);rw[Kf hn,Kf hn,AD.get_put,AD.get_put,D0 hp,D0 hp]
theorem Mc{h:AD}{id:Id}(hi:id∉δ.map (·.1)):(h.puts δ).get id=h.get id:=
 Kf fun q hq e=>hi (FN.2 ⟨q,hq,e⟩)
def ii(wr:Option (List Id))(new old:G):G:=fun id=>match wr with
 |some l=>if id∈l then new id else old id
 |none=>new id
variable{g g':G}
theorem Q0{vs:List AV}(h: ∀v∈vs,Dv g v=Dv g' v):G5 g vs=G5 g' vs:=by
 induction vs with
 |nil=>rfl
 |cons v vs ih=>simp only[G5,h v (by simp),ih fun x hx=>h x (by simp[hx])]
theorem Kb{l m:List Id}(h: ∀id∈m,id∈l): ∀id∈Cz g m,id∈Cz g l:=by
 intro id hi;rcases ES.1 hi with hi|hi
 .exact Ge _ (h id hi)
 .obtain⟨x,h1,h2⟩:=Bv.1 hi;exact Gs _ (Bv.2 ⟨x,h x h1,h2⟩)
variable{v:AV}
theorem dZ(h:At g g' (Cz g (AF v))):Dv g v=Dv g' v:=by
 have hc:FQ g v=FQ g' v:=Sl (h.mono fun id hi=>Ge _ hi);cases v with
 |eq id off n=>
  have e:=h id (Ge _ (by simp[AF]));cases hg:g id with
  |none=>
   rw[hg]at e;simp only[Dv,hg,←e];exact hc
  |some o=>
   rw[hg]at e;cases o with
   |arr sz es=>
    simp only[Dv,hg,←e];rw[J0 (g:=g) (g':=g') (es:=es) (h.mono fun i hi=>Gs _ (Bv.2 ⟨id,by simp[AF],by simp only[hg];exact hi⟩))]
   |_=>simp only[Dv,hg,←e];exact hc
 |_=>exact hc
theorem Zt(h:At g g' (Cz g (AF v))):Fj g v=Fj g' v:=by
 cases v with
 |eq id off n=>
  have e:=h id (Ge _ (by simp[AF]));simp only[Fj];rw[←e];cases hg:g id with
  |none=>rfl
  |some o=>
   cases o with
   |arr sz es=>
    have hs:At g g' (es.flatMap Az):=h.mono fun i hi=>Gs _ (Bv.2 ⟨id,by simp[AF],by simp only[hg];exact hi⟩);simp only[J0 hs,LN hs]
   |_=>rfl
 |_=>rfl
theorem Vq{v x:AV}(hx:x∈Kp v): ∀id∈AF x,id∈AF v:=by
 intro id hi;cases v with
 |agg cs=>exact Kj hx hi
 |iface t u=>
  cases u with
  |agg cs=>simp only[AF];exact Kj hx hi
  |_=>simp only[Kp,As]at hx;subst hx;simpa[AF]using hi
 |_=>simp only[Kp,As]at hx;subst hx;exact hi
theorem dY(h:At g g' (Cz g (AF v))):Ej g v=Ej g' v:=by
 have hp: ∀x∈Kp v,Dv g x=Dv g' x:=fun x hx=>dZ (h.mono (Kb (Vq hx)));cases v with
 |agg cs=>simp only[Ej];rw[Q0 (vs:=cs) hp]
 |iface t u=>
  cases u with
  |agg cs=>simp only[Ej];rw[Q0 (vs:=cs) hp]
  |_=>simp only[Ej];rw[hp _ (by simp[Kp])]
 |fn f a b=>cases a<;>cases b<;>first|rfl|(simp only[Ej];rw[hp _ (by simp[Kp])])
 |_=>simp only[Ej];rw[hp _ (by simp[Kp])]
theorem ef(h:At g g' (Cz g (AF v))):mark g v=mark g' v:=by
 unfold mark;have: ∀l:List AV,(∀x∈l,Fj g x=Fj g' x)→l.flatMap (Fj g)=l.flatMap (Fj g'):=by
  intro l hl;induction l with
  |nil=>rfl
  |cons x l ih=>simp only[D5,hl x (by simp),ih fun y hy=>hl y (by simp[hy])]
 exact this _ fun x hx=>Zt (h.mono (Kb (Vq hx)))
theorem LD{vs:List AV}(h:At g g' (Cz g (Az vs))):Dy g vs=Dy g' vs:=by
 induction vs with
 |nil=>rfl
 |cons v vs ih=>
  simp only[Dy];rw[dY (v:=v) (h.mono (Kb fun id hi=>by simp[Az,hi])),ih (h.mono (Kb fun id hi=>by simp[Az,hi]))]
theorem Zv{vs:List AV}(h:At g g' (Cz g (Az vs))):vs.flatMap (mark g)=vs.flatMap (mark g'):=by
 induction vs with
 |nil=>rfl
 |cons v vs ih=>
  simp only[D5];rw[ef (v:=v) (h.mono (Kb fun id hi=>by simp[Az,hi])),ih (h.mono (Kb fun id hi=>by simp[Az,hi]))]
variable{as xs:List AV}
theorem OH{f:FuncId}{vs:Array Value}{r:Ad×AD}(H:HR A β w h)(T:jH P W (.fn f) xs [] π false none r)(hx:Dy h.get as=some xs)(hv:GW β w (MS A β h) as vs):
 Calls P f vs w (Oe (MS A β (h.puts (as.flatMap (mark h.get)))) none π (fun _=>none) w [] r):=by
 have hm:=NI (h:=h) (as:=as);have hs: ∀v∈as,∀p∈mark h.get v,p∈as.flatMap (mark h.get):=fun v hv p hp=>Bv.2 ⟨v,hv,hp⟩;obtain⟨q1,q2⟩:=AAm H hm hv hx hs;have H1:=(JE hm).hr H;refine T.pu rfl rfl rfl (MS A β (h.puts (as.flatMap (mark h.get)))) w vs (HR.none fun b hb=>sf H1 hb) (fun _ _=>rfl) ⟨q1.1,fun i x v hx hv=>?_⟩;exact(q1.2 i x v hx hv).noIds (fun b hb=>cN.1 hb) (q2 x (Ac hx))
structure sk(A1:Nat→Prop)(π:List Nat)(w:World)(r:Ad×AD)(β':Aw)(w':World):Prop where
 all: ∀b,b<w.heap.size→w'.heap[b]? =w.heap[b]?
 size:w.heap.size≤w'.heap.size
 io:w'.os=w.os∧w'.output=w.output
 hr:HR A1 β' w' r.2
 ids: ∀id,β' id≠none→π<:+id
 new: ∀id k,β' id=some k→w.heap.size≤k.b
variable{A1:Nat→Prop}{e:Ending}
theorem NQ{r:Ad×AD}(he:Oe A1 none π (fun _=>none) w [] r e w'): ∃β',sk A1 π w r β' w'∧ADs β' w' (MS A1 β' r.2) r.1 e:=by
 obtain⟨β',g,hr⟩:=he;have hids: ∀id,β' id≠none→π<:+id:=fun id hi=>by
  by_cases e:π<:+id
  .exact e
  .exact absurd (g.out id e) hi
 refine⟨β',⟨fun b hb=>?_,g.ip.size,g.ip.io,g.hr,hids,fun id k hk=>?_⟩,hr⟩
 .by_cases hA:A1 b
  .exact g.ip.un b hb (.inr hA)
  .exact g.ip.un b hb (.inl fun hm=>hA (cN.1 hm))
 .obtain⟨_,k2,_⟩:=g.kept π (List.suffix_refl _) (.inr fun _ h=>absurd rfl h);rcases k2 k.b ⟨id,k,hids id (by rw[hk];simp),hk,rfl⟩with⟨_,_,_,h1,_⟩|h1
  .cases h1
  .exact h1
theorem rE{r:Ad×AD}(H:HR A β w h)(hf:E9 β ρ)(s:Ld A β w nt env defs h a)(he:Oe A1 none π (fun _=>none) w [] r e w')
 (hflat: ∀v,r.1=.ret v∨r.1=.f9 v→flat v=true):Gq A ce ρ nt β w h env defs a h r.1 e w':=by
 obtain⟨β',L,hr⟩:=NQ he;have g':Bp A ce ρ β w h β w' h:=Kg H L.all L.size L.io;have hs:=s.mono (g'.le hf) g'.ip;obtain⟨c,h'⟩:=r;cases c with
 |ret v=>cases e with
  |returned u=>exact⟨β,g',hs,Ri (hflat v (.inl rfl)) hr⟩
  |_=>exact hr.elim
 |f9 v=>cases e with
  |panicked chain=>
   obtain⟨u,h3,h4⟩:=hr;exact⟨β,u,g',hs,h3,Ri (hflat v (.inr rfl)) h4⟩
  |_=>exact hr.elim
variable{h2:AD}
theorem ZE{h1:AD}(H:HR A β w h)(hf:E9 β ρ)(g1:Bp A ce ρ β w h β w h1)(hall: ∀b,b<w.heap.size→w'.heap[b]? =w.heap[b]?)(hz:w.heap.size≤w'.heap.size)(hio:w'.os=w.os∧w'.output=w.output)
 (H2:HR A1 β' w' h2) (hid: ∀id,β' id≠none→ρ<:+id) (hnew: ∀id k,β' id=some k→w.heap.size≤k.b) (hA: ∀b,MS A β h1 b→A1 b):
 ∃β2,Le β' β2∧Bp A ce ρ β w h β2 w' (h2++h1)∧ ∀b,MS A β2 (h2++h1) b→MS A1 β' h2 b:=by
 obtain⟨β2,e1,e2,e3,e4,e5,e6,e7⟩:=zD g1.hr hall hz hio hf H2 hid hnew hA;have o1: ∀id o,h1.get id=some o→ ¬ρ<:+id:=fun id o ho hs=>by
  obtain⟨k,hk,_⟩:=g1.hr.obj id o ho;rw[hf id hs]at hk;cases hk
 have o2: ∀id o,h2.get id=some o→ρ<:+id:=fun id o ho=>by
  obtain⟨k,hk,_⟩:=H2.obj id o ho;exact hid id (by rw[hk];simp)
 have hg: ∀id,(h1++h2).get id=(h2++h1).get id:=by
  intro id;rw[AD.get_append,AD.get_append];cases ha:h1.get id with
  |none=>cases h2.get id<;>rfl
  |some o=>cases hb:h2.get id with
   |none=>rfl
   |some o'=>exact absurd (o2 _ _ hb) (o1 _ _ ha)
 have hM:=MS.congr (A:=A) (β:=β2) hg;refine⟨β2,e2,⟨e3,e5.congr hg,?_,fun σ hσ hgd=>?_⟩,by rw[←hM];exact e6⟩
 .rw[←hM];exact g1.ip.trans e7
 .obtain⟨a1,a2,a3⟩:=g1.kept σ hσ hgd;refine⟨fun b hb hu=>hall b hb,?_,fun id hi=>?_⟩
  .rintro b ⟨id,k,u1,u2,rfl⟩;rcases e4 id k u2 with u3|⟨_,u3⟩
   .exact .inl ⟨id,k,u1,u3,rfl⟩
   .exact .inr u3
  .rw[AD.get_append];cases hb:h2.get id with
   |none=>exact a3 id hi
   |some o=>exact absurd (hσ.trans (o2 _ _ hb)) hi
theorem rF(H:HR A β w h)(hf:E9 β ρ)(s:Ld A β w nt env defs h a)(hw:KF ce (as.flatMap (mark h.get))=true)
 (he:Oe (MS A β (h.puts (as.flatMap (mark h.get)))) none ρ (fun _=>none) w [] (.ret v,h2) e w'):
 Gq A ce ρ nt β w h env defs a (h2++h.puts (as.flatMap (mark h.get))) (.ret v) e w':=by
 obtain⟨β',L,hr⟩:=NQ he;have g1:=N0 (ρ:=ρ) (ce:=ce) H (NI (as:=as)) hw;obtain⟨β2,l1,g,hm⟩:=ZE H hf g1 L.all L.size L.io L.hr L.ids L.new fun b hb=>hb;cases e with
 |returned u=>exact⟨β2,g,s.mono (g.le hf) g.ip,VR.mono l1 (GF (A:=A) hm w') hr⟩
 |_=>exact hr.elim
theorem g8{as:List AV}{v:AV}{h2:AD}{e:Ending}(H:HR A β w h)(hf:E9 β ρ)(s:Ld A β w nt env defs h a)(hw:KF ce (as.flatMap (mark h.get))=true)(hi:AF v=[])(h20:h2=[])
 (he:Oe (MS A β (h.puts (as.flatMap (mark h.get)))) none [] (fun _=>none) w [] (.ret v,h2) e w'):
 Gq A ce ρ nt β w h env defs a (h2++h.puts (as.flatMap (mark h.get))) (.ret v) e w':=by
 subst h20;obtain⟨β',L,hr⟩:=NQ he;have g1:=N0 (ρ:=ρ) (ce:=ce) H (NI (as:=as)) hw;have g2:Bp A ce ρ β w (h.puts (as.flatMap (mark h.get))) β w' (h.puts (as.flatMap (mark h.get))):=Kg g1.hr L.all L.size L.io;have g:=g1.trans g2;cases e with
 |returned u=>exact⟨β,g,s.mono (g.le hf) g.ip,VR.noIds (fun b hb=>cN.2 hb) hr hi⟩
 |_=>exact hr.elim
theorem yJ{o:Id×Obj}(H:HR A β w h)(hf:E9 β ρ)(s:Ld A β w nt env defs h a)(ho:Bf v h2=some o)
 (he:Oe A1 none ρ (fun _=>none) w [] (.ret v,h2) e w'):Gq A ce ρ nt β w h env defs a (o::h) (.ret v) e w':=by
 obtain⟨β',L,hr⟩:=NQ he;unfold Bf at ho;split at ho
 .rename_i id off n;split at ho
  .rename_i sz es hg;split at ho
   .rename_i hfl;cases ho;obtain⟨k,hk,c,elem,q1,q2,q3,q4,q5,q6,q7⟩:=L.hr.obj id _ hg;have H2:HR (MS A β h) β' w' [(id,.d9 sz es)]:=by
     have hone: ∀{i:Id} {ob:Obj},AD.get [(id,Obj.d9 sz es)] i=some ob→i=id∧ob=.d9 sz es:=by
      intro i ob hi;rw[AD.get_cons]at hi;split at hi
      .rename_i e';cases hi;exact⟨e'.symm,rfl⟩
      .cases hi
     refine⟨fun i ob hi=>?_,fun a b oa ob ka kb ha hb _ _ _ _ _=>by rw[(hone ha).1,(hone hb).1],L.hr.bnd,fun i ob k' hi hm hk' hb=>?_,fun b hb=>Mp (sf H hb) L.size⟩
     .obtain⟨rfl,rfl⟩:=hone hi;refine⟨k,hk,c,elem,q1,q2,q3,q4,q5,q6,fun j x y hx hy=>O8 ?_ (q7 j x y hx hy)⟩;obtain⟨e',he',hx'⟩:=Mt.1 (Ac hx);exact DO.1 (DO.1 hfl e' he') x hx'
     .have:=sf H hb;have:=L.new i k' hk';omega
    obtain⟨β2,l1,g,hm⟩:=ZE (ce:=ce) H hf (Bp.refl H) L.all L.size L.io H2 L.ids L.new fun b hb=>hb;cases e with
    |returned u=>
     refine⟨β2,g,s.mono (g.le hf) g.ip,?_⟩;have hr':VR β' w' (MS A1 β' h2) (.eq id off n) u:=hr;cases hr' with
     |eq _ _ _ k' a' cap h1 h3 h4 h5=>exact .eq _ _ _ k' a' cap (l1 _ _ h1) h3 h4 h5
    |_=>exact hr.elim
   .cases ho
  .cases ho
 .cases ho
variable{A:Nat→Prop}{P:Program}{mix:List TypeId}{β β' β'':Aw}{w w' w'':World}{M:Nat→Prop}{h h' h'':AD}{π ρ:List Nat}{ce:Option (List Nat)}{nt:NT}{env:Nat→AV}{defs defs':List Df}{a:Act}{ro:Option Nat}{W:Lp→Prop}
def jC(rd:Option (List Id))(g g2:G):Prop:=match rd with
 |some l=>At g g2 l
 |none=> ∀id,g id=g2 id
def Oh(P:Program)(ro:Option Nat)(ce:Option (List Nat))(ρ:List Nat)(nt:NT)(o:Oper)(env:Nat→AV)(defs:List Df)(h:AD)(v:AV)(defs':List Df)(h':AD):Prop:=
 ∀(A:Nat→Prop) (β:Aw) (w:World) (a:Act),HR A β w h→E9 β ρ→Ld A β w nt env defs h a→ ∀(next:Act→World→Prop) (Q:Exit→Act→World→Prop),
  (∀a' w',Aft A ce ρ nt β w h (QW env o.dst v) defs' h' a' w'→next a' w')→o.wpIn (FF ro) 0 P a w next Q
def WY(A:Nat→Prop)(ce:Option (List Nat))(π:List Nat)(nt:NT)(β:Aw)(w:World)(h:AD)(env:Nat→AV)(defs:List Df)(h':AD)(v:AV)(u:Value)(a':Act)(w':World):Prop:=
 ∃β',Bp A ce π β w h β' w' h'∧Ld A β' w' nt env defs h' a'∧VR β' w' (MS A β' h') v u
def WZ(P:Program)(ro:Option Nat)(ce:Option (List Nat))(ρ:List Nat)(nt:NT)(o:Oper)(env:Nat→AV)(defs:List Df)(h:AD)(v:AV)(h':AD):Prop:=
 ∀(A:Nat→Prop) (β:Aw) (w:World) (a:Act),HR A β w h→E9 β ρ→Ld A β w nt env defs h a→ ∀(next:Act→World→Prop) (Q:Exit→Act→World→Prop),
  (∀a' w' u,WY A ce ρ nt β w h env defs h' v u a' w'→Q (.panic [{v:=u,recovered:=false}]) a' w')→o.wpIn (FF ro) 0 P a w next Q
variable{o:Oper}{Q:Exit→Act→World→Prop}
theorem VF{g:FuncId}{vs:Array Value}{next:Act→World→Prop}(hrun:(o.semAt ro a.eval).run P w=.ok (.enter g vs) w)(hd: ∀d,o.dst=some d→d<nt.n)
 (hc:Calls P g vs w (Gq A ce ρ nt β w h env defs a h' (.ret v))) (hn: ∀a' w',Aft A ce ρ nt β w h (QW env o.dst v) defs h' a' w'→next a' w'):o.wpIn (FF ro) 0 P a w next Q:=by
 refine⟨fun _ _=>trivial,?_⟩;have e:(o.semAt (FF ro).round a.eval).run P w=.ok (.enter g vs) w:=hrun;rw[e,Oper.uponIn_enter];refine⟨fun hh=>by simp[FF,Fence.wide]at hh,CallsIn.mono (callsIn_wide.2 hc) ?_⟩;intro e w'' he;cases e with
 |returned u=>
  obtain⟨β',g',s,hv⟩:=he;exact hn _ _ ⟨β',g',s.put hd hv⟩
 |panicked chain=>exact he.elim
 |outgrown=>exact he.elim
theorem VE{g:FuncId}{vs:Array Value}{next:Act→World→Prop}(hrun:(o.semAt ro a.eval).run P w=.ok (.enter g vs) w)
 (hc:Calls P g vs w (Gq A ce ρ nt β w h env defs a h' (.f9 v))) (hn: ∀a' w' u,WY A ce ρ nt β w h env defs h' v u a' w'→Q (.panic [{v:=u,recovered:=false}]) a' w'):o.wpIn (FF ro) 0 P a w next Q:=by
 refine⟨fun _ _=>trivial,?_⟩;have e:(o.semAt (FF ro).round a.eval).run P w=.ok (.enter g vs) w:=hrun;rw[e,Oper.uponIn_enter];refine⟨fun hh=>by simp[FF,Fence.wide]at hh,CallsIn.mono (callsIn_wide.2 hc) ?_⟩;intro e w'' he;cases e with
 |returned u=>exact he.elim
 |panicked chain=>
  obtain⟨β',u,g',s,rfl,hv⟩:=he;exact hn _ _ u ⟨β',g',s,hv⟩
 |outgrown=>exact he.elim
variable{ts:Array Value}{kw body:Code}
theorem re{k:Nat}{f:FuncId}{next:Act→World→Prop}(hrun:(o.semAt ro a.eval).run P w=.ok (.round k f ts kw body) w)(hd: ∀d,o.dst=some d→d<nt.n)
 (hc:RoundIn Fence.wide 0 P k f ts kw body w (Gq A ce ρ nt β w h env defs a h' (.ret v))) (hn: ∀a' w',Aft A ce ρ nt β w h (QW env o.dst v) defs h' a' w'→next a' w'):o.wpIn (FF ro) 0 P a w next Q:=by
 refine⟨fun _ _=>trivial,?_⟩;have e:(o.semAt (FF ro).round a.eval).run P w=.ok (.round k f ts kw body) w:=hrun;rw[e,Oper.uponIn_round];refine⟨fun hh=>by simp[FF,Fence.wide]at hh,RoundIn.mono (F:=Fence.wide) hc ?_⟩;intro e w'' he;cases e with
 |returned u=>
  obtain⟨β',g',s,hv⟩:=he;exact hn _ _ ⟨β',g',s.put hd hv⟩
 |panicked chain=>exact he.elim
 |outgrown=>exact he.elim
theorem rb{k:Nat}{f:FuncId}{next:Act→World→Prop}(hrun:(o.semAt ro a.eval).run P w=.ok (.round k f ts kw body) w)
 (hc:RoundIn Fence.wide 0 P k f ts kw body w (Gq A ce ρ nt β w h env defs a h' (.f9 v))) (hn: ∀a' w' u,WY A ce ρ nt β w h env defs h' v u a' w'→Q (.panic [{v:=u,recovered:=false}]) a' w'):o.wpIn (FF ro) 0 P a w next Q:=by
 refine⟨fun _ _=>trivial,?_⟩;have e:(o.semAt (FF ro).round a.eval).run P w=.ok (.round k f ts kw body) w:=hrun;rw[e,Oper.uponIn_round];refine⟨fun hh=>by simp[FF,Fence.wide]at hh,RoundIn.mono (F:=Fence.wide) hc ?_⟩;intro e w'' he;cases e with
 |returned u=>exact he.elim
 |panicked chain=>
  obtain⟨β',u,g',s,rfl,hv⟩:=he;exact hn _ _ u ⟨β',g',s,hv⟩
 |outgrown=>exact he.elim
def Lb(P:Program)(ce:Option (List Nat))(ρ:List Nat)(nt:NT)(f:FuncId)(as:List AV)(env:Nat→AV)(defs:List Df)(h:AD)(h':AD)(c:Ad):Prop:=
 ∀(A:Nat→Prop) (β:Aw) (w:World) (a:Act) (vs:Array Value),HR A β w h→E9 β ρ→Ld A β w nt env defs h a→GW β w (MS A β h) as vs→Calls P f vs w (Gq A ce ρ nt β w h env defs a h' c)
variable{K:AO}{st:St}{hc:AD}
theorem ADb(hT:DI P W K){f:FuncId}{c:Ad}(hL:LW W st.heap)(hK:K (.fn f) (Mm st.heap.get as) (st.heap.puts (as.flatMap (mark st.heap.get))) ρ true (some ρ)=.ok (c,hc))
 (hfl: ∀v,c=.ret v∨c=.f9 v→flat v=true)  (hag: ∀id,st.heap.get id=h2.get id):Lb P ce ρ nt f as env defs h2 h2 c:=by
 intro A β w a vs H hf s hv;have H1:HR A β w st.heap:=H.congr fun id=>(hag id).symm;have hM:=MS.congr (A:=A) (β:=β) hag;have hm:=NI (h:=st.heap) (as:=as);have hth:=kA H1 hm (by rw[hM];exact hv) fun v hv p hp=>Bv.2 ⟨v,hv,hp⟩;have hcall:=(hT _ _ _ _ _ _ _ hK).rw rfl (fun _ _ h=>by cases h) (hL.puts (BN.markAll as)) A β w vs ((JE hm).hr H1) hf hth;exact hcall.mono fun e w' he=>AFi H hf s he hfl
theorem uy(hT:DI P W K){f:FuncId}{c:Ad}(hw:KF ce (as.flatMap (mark st.heap.get))=true)
 (hL:LW W st.heap) (hK:K (.fn f) (Mm st.heap.get as) (st.heap.puts (as.flatMap (mark st.heap.get))) ρ true ce=.ok (c,hc))  (hag: ∀id,st.heap.get id=h2.get id):Lb P ce ρ nt f as env defs h2 (gc ρ hc) c:=by
 intro A β w a vs H hf s hv;have H1:HR A β w st.heap:=H.congr fun id=>(hag id).symm;have hM:=MS.congr (A:=A) (β:=β) hag;have hm:=NI (h:=st.heap) (as:=as);have hth:=kA H1 hm (by rw[hM];exact hv) fun v hv p hp=>Bv.2 ⟨v,hv,hp⟩;have g1:Bp A ce ρ β w h2 β w (st.heap.puts (as.flatMap (mark st.heap.get))):=(N0 H1 hm hw).congr hag;have hcall:=(hT _ _ _ _ _ _ _ hK).rw rfl (fun _ _ h=>by cases h) (hL.puts (BN.markAll as)) A β w vs g1.hr hf hth;exact hcall.mono fun e w' he=>Rp g1 hf s he
theorem jb(hT:DI P W K){f:FuncId}{c:Ad}
 (hL:LW W st.heap) (hK:K (.fn f) as st.heap ρ true ce=.ok (c,hc))  (hag: ∀id,st.heap.get id=h2.get id):Lb P ce ρ nt f as env defs h2 (gc ρ hc) c:=by
 intro A β w a vs H hf s hv;have H1:HR A β w st.heap:=H.congr fun id=>(hag id).symm;have hM:=MS.congr (A:=A) (β:=β) hag;have g1:Bp A ce ρ β w h2 β w st.heap:=(Bp.refl H1).congr hag;have hcall:=(hT _ _ _ _ _ _ _ hK).rw rfl (fun _ _ h=>by cases h) hL A β w vs H1 hf (by rw[hM];exact hv);exact hcall.mono fun e w' he=>Rp g1 hf s he
theorem jZ(hT:DI P W K){f:FuncId}{c:Ad}(hK:K (.fn f) xs [] π false none=.ok (c,hc))
 (hfl: ∀v,c=.ret v∨c=.f9 v→flat v=true)  (hx:Dy h2.get as=some xs):Lb P ce ρ nt f as env defs h2 h2 c:=by
 intro A β w a vs H hf s hv;exact(OH H (hT _ _ _ _ _ _ _ hK) hx hv).mono fun e w' he=>rE H hf s he hfl
theorem AEP(hT:DI P W K){f:FuncId}{o:Id×Obj}(hπ:π=ρ∨π=[])(hK:K (.fn f) xs [] π false none=.ok (.ret v,hc))
 (ho:Bf v hc=some o)  (hx:Dy h2.get as=some xs):Lb P ce ρ nt f as env defs h2 (o::h2) (.ret v):=by
 intro A β w a vs H hf s hv;have T:=hT _ _ _ _ _ _ _ hK;refine(OH H T hx hv).mono fun e w' he=>?_;rcases hπ with rfl|rfl
 .exact yJ H hf s ho he
 .obtain⟨h1,h2⟩:=T.ids rfl rfl rfl rfl v rfl;exfalso;unfold Bf at ho;split at ho
  .simp[AF]at h1
  .cases ho
theorem AAg(hT:DI P W K){f:FuncId}(hπ:π=ρ∨π=[])(hK:K (.fn f) xs [] π false none=.ok (.ret v,hc))
  (hw:KF ce (as.flatMap (mark h2.get))=true) (hx:Dy h2.get as=some xs):Lb P ce ρ nt f as env defs h2 (hc++h2.puts (as.flatMap (mark h2.get))) (.ret v):=by
 intro A β w a vs H hf s hv;have T:=hT _ _ _ _ _ _ _ hK;refine(OH H T hx hv).mono fun e w' he=>?_;rcases hπ with rfl|rfl
 .exact rF H hf s hw he
 .obtain⟨h1,h3⟩:=T.ids rfl rfl rfl rfl v rfl;exact g8 H hf s hw h1 h3 he
theorem dk{h:AD}{id:Id}(e:id∈h.map (·.1)): ∃o,h.get id=some o:=by
 induction h with
 |nil=>cases e
 |cons p h ih=>
  obtain⟨i,ob⟩:=p;rw[AD.get_cons];by_cases e':i=id
  .exact⟨ob,D0 e'⟩
  .rw[CI e'];refine ih ?_;rcases Co.1 e with h1|h1
   .exact absurd h1.symm e'
   .exact h1
theorem S9{h:AD}{id:Id}{o:Obj}(hg:h.get id=some o):id∈h.map (·.1):=by
 induction h with
 |nil=>cases hg
 |cons p h ih=>
  obtain⟨i,ob⟩:=p;rw[AD.get_cons]at hg;by_cases e:i=id
  .simp[e]
  .rw[CI e]at hg;simp only[Cs,Co];exact .inr (ih hg)
theorem Tn{h h':AD}(hag: ∀id,h.get id=h2.get id)(id:Id):h'.get id=ii (some (U9 h h')) h'.get h2.get id:=by
 simp only[ii];split
 .rfl
 .rename_i hi;rw[←hag,la hi]
theorem Xt(new old:G)(id:Id):ii (some []) new old id=old id:=by simp[ii]
theorem U0{K:AO}(hT:DI P W K){fr:Fr}{f:FuncId}{as:List AV}{dst:Option Tmp}{st st':St}{m:Mode}{fp:Fp}(hL:LW W st.heap)(hr:Dh K fr ρ f as dst st m=.ok st' fp){h2:AD}(hag:jC fp.rd st.heap.get h2.get):
 ∃v h2',st'.env=Ch st.env dst v∧st'.base=st.base∧st'.defs=st.defs∧(∀id,h2'.get id=ii fp.wr st'.heap.get h2.get id)∧Kv P f∧ ∀env defs,Lb P fr.ce ρ nt f as env defs h2 h2' (.ret v):=by
 have raw: ∀{E:E (Ad×AD)} {xs:List AV} {hh:AD},ER ρ dst st E=.ok st' fp→E=K (.fn f) xs hh ρ true fr.ce→
  (∀{c:Ad} {hc:AD},K (.fn f) xs hh ρ true fr.ce=.ok (c,hc)→(∀id,st.heap.get id=h2.get id)→ ∀env defs,Lb P fr.ce ρ nt f as env defs h2 (gc ρ hc) c)→
  ∃v h2',st'.env=Ch st.env dst v∧st'.base=st.base∧st'.defs=st.defs∧(∀id,h2'.get id=ii fp.wr st'.heap.get h2.get id)∧Kv P f∧ ∀env defs,Lb P fr.ce ρ nt f as env defs h2 h2' (.ret v):=by
  intro E xs hh hr hE hsem;subst hE;unfold ER at hr;split at hr
  .rename_i v hc hK;simp only[A8,An,HI.ok.injEq]at hr;obtain⟨rfl,rfl⟩:=hr;exact⟨v,gc ρ hc,rfl,rfl,rfl,Tn hag,(hT _ _ _ _ _ _ _ hK).ent f rfl,hsem hK hag⟩
  .simp at hr
  .cases hr
 unfold Dh at hr;split at hr
 .exact raw hr rfl fun hK hag env defs=>jb hT hL hK hag
 .rename_i m hm;split at hr
  .rename_i xs hx;simp only[BO]at hr;unfold DZ at hr;split at hr
   .rename_i v hc hK;have hent:=(hT _ _ _ _ _ _ _ hK).ent f rfl;simp only[A8]at hr;split at hr
    .rename_i hfl;simp only[HI.ok.injEq]at hr;obtain⟨rfl,rfl⟩:=hr;have hx2:Dy h2.get as=some xs:=by rw[←LD hag];exact hx
     exact⟨v,h2,rfl,rfl,rfl,fun id=>(Xt _ _ id).symm,hent,fun env defs=>jZ hT hK (fun v' hv'=>by rcases hv' with h|h<;>cases h;exact hfl) hx2⟩
    .unfold Hs at hr;split at hr
     .rename_i o ho;simp only[An,HI.ok.injEq]at hr;obtain⟨rfl,rfl⟩:=hr;have hx2:Dy h2.get as=some xs:=by rw[←LD hag];exact hx
      refine⟨v,o::h2,rfl,rfl,rfl,fun id=>?_,hent,fun env defs=>AEP hT (by split<;>simp) hK ho hx2⟩;simp only[ii,As];obtain⟨i,ob⟩:=o;simp only[AD.get_cons];by_cases e:id=i
      .subst e;simp
      .simp[e,Ne.symm e]
     .simp only[Bt]at hr;split at hr
      .rename_i hw;simp only[An,HI.ok.injEq]at hr;obtain⟨rfl,rfl⟩:=hr;have hx2:Dy h2.get as=some xs:=by rw[←LD hag];exact hx
       have hmk:=Zv (vs:=as) hag;refine⟨v,hc++h2.puts (as.flatMap (mark h2.get)),rfl,rfl,rfl,fun id=>?_,hent,fun env defs=>AAg hT (by split<;>simp) hK (by rw[←hmk];exact hw) hx2⟩;rw[←hmk];simp only[ii,ES];rw[AD.get_append,AD.get_append];by_cases e1:id∈(as.flatMap (mark st.heap.get)).map (·.1)
       .rw[D0 (.inl e1),bK e1 (h':=st.heap)]
       .rw[Mc e1,Mc e1];by_cases e2:id∈hc.map (·.1)
        .rw[D0 (.inr e2)];have:=dk e2;obtain⟨o,ho⟩:=this;simp[ho]
        .rw[CI (by rintro(h1|h1);exact e1 h1;exact e2 h1)];have:hc.get id=none:=by
          cases hg:hc.get id with
          |none=>rfl
          |some o=>exact absurd (S9 hg) e2
         rw[this];rfl
      .cases hr
   .split at hr<;>cases hr
   .cases hr
  .unfold FK at hr;simp only[BO,Bt,An]at hr;split at hr
   .unfold Pg at hr;split at hr
    .rename_i v hc hK;split at hr
     .rename_i hfl;simp only[A8,HI.ok.injEq]at hr;obtain⟨rfl,rfl⟩:=hr;exact⟨v,h2,rfl,rfl,rfl,fun id=>(Xt _ _ id).symm,(hT _ _ _ _ _ _ _ hK).ent f rfl,fun env defs=>ADb hT hL hK (fun v' hv'=>by rcases hv' with h|h<;>cases h;exact hfl) hag⟩
     .cases hr
    .split at hr<;>cases hr
    .cases hr
   .split at hr
    .rename_i hw;exact raw hr rfl fun hK hag env defs=>uy hT hw hL hK hag
    .cases hr
theorem SJ{K:AO}(hT:DI P W K){fr:Fr}{f:FuncId}{as:List AV}{dst:Option Tmp}{st st':St}{m:Mode}{v:AV}(hL:LW W st.heap)(hr:Dh K fr ρ f as dst st m=.f9 v st'){h2:AD}(hag: ∀id,st.heap.get id=h2.get id):
 ∃h2',st'.env=st.env∧st'.base=st.base∧st'.defs=st.defs∧(∀id,h2'.get id=st'.heap.get id)∧Kv P f∧ ∀env defs,Lb P fr.ce ρ nt f as env defs h2 h2' (.f9 v):=by
 have raw: ∀{E:E (Ad×AD)} {xs:List AV} {hh:AD},ER ρ dst st E=.f9 v st'→E=K (.fn f) xs hh ρ true fr.ce→
  (∀{c:Ad} {hc:AD},K (.fn f) xs hh ρ true fr.ce=.ok (c,hc)→(∀id,st.heap.get id=h2.get id)→ ∀env defs,Lb P fr.ce ρ nt f as env defs h2 (gc ρ hc) c)→
  ∃h2',st'.env=st.env∧st'.base=st.base∧st'.defs=st.defs∧(∀id,h2'.get id=st'.heap.get id)∧Kv P f∧ ∀env defs,Lb P fr.ce ρ nt f as env defs h2 h2' (.f9 v):=by
  intro E xs hh hr hE hsem;subst hE;unfold ER at hr;split at hr
  .simp at hr
  .rename_i u hc hK;simp only[An,HI.f9.injEq]at hr;obtain⟨rfl,rfl⟩:=hr;exact⟨gc ρ hc,rfl,rfl,rfl,fun id=>rfl,(hT _ _ _ _ _ _ _ hK).ent f rfl,hsem hK hag⟩
  .cases hr
 unfold Dh at hr;split at hr
 .exact raw hr rfl fun hK hag env defs=>jb hT hL hK hag
 .rename_i m hm;split at hr
  .rename_i xs hx;simp only[BO]at hr;unfold DZ at hr;split at hr
   .simp only[A8]at hr;split at hr
    .cases hr
    .unfold Hs at hr;split at hr
     .simp at hr
     .simp only[Bt]at hr;split at hr
      .simp at hr
      .cases hr
   .rename_i u hc hK;split at hr
    .rename_i hfl;simp only[HI.f9.injEq]at hr;obtain⟨rfl,rfl⟩:=hr;have hx2:Dy h2.get as=some xs:=by rw[←LD (fun id _=>hag id)];exact hx
     exact⟨h2,rfl,rfl,rfl,fun id=>(hag id).symm,(hT _ _ _ _ _ _ _ hK).ent f rfl,fun env defs=>jZ hT hK (fun v' hv'=>by rcases hv' with h|h<;>cases h;exact hfl) hx2⟩
    .cases hr
   .cases hr
  .unfold FK at hr;simp only[BO,Bt,An]at hr;split at hr
   .unfold Pg at hr;split at hr
    .split at hr
     .simp at hr
     .cases hr
    .rename_i u hc hK;split at hr
     .rename_i hfl;simp only[HI.f9.injEq]at hr;obtain⟨rfl,rfl⟩:=hr;exact⟨h2,rfl,rfl,rfl,fun id=>(hag id).symm,(hT _ _ _ _ _ _ _ hK).ent f rfl,fun env defs=>ADb hT hL hK (fun v' hv'=>by rcases hv' with h|h<;>cases h;exact hfl) hag⟩
     .cases hr
    .cases hr
   .split at hr
    .rename_i hw;exact raw hr rfl fun hK hag env defs=>uy hT hw hL hK hag
    .cases hr
variable{A:Nat→Prop}{P:Program}{mix:List TypeId}{β β' β'':Aw}{w w' w'':World}{M:Nat→Prop}{h h' h'':AD}{π ρ:List Nat}{ce:Option (List Nat)}{nt:NT}{env:Nat→AV}{defs defs':List Df}{a:Act}{ro:Option Nat}{W:Lp→Prop}
theorem GW.append{ys:List AV}{a b:Array Value}(h1:GW β w M xs a)(h2:GW β w M ys b):GW β w M (xs++ys) (a++b):=by
 refine⟨by rw[Bi,Rs,h1.1,h2.1],fun i x v hx hv=>?_⟩;by_cases hi:i<xs.length
 .rw[Be hi]at hx;rw[I9 (by rw[←h1.1];exact hi)]at hv;exact h1.2 i x v hx hv
 .rw[Ce (by omega)]at hx;rw[Array.getElem?_append_right (by rw[←h1.1];omega),←h1.1]at hv;exact h2.2 _ x v hx hv
theorem GW.args{e:Nat→AV}(he:Jq β w M e fun t=>a.tmps.getD t Go.undef)(l:Array Operand):GW β w M (l.toList.map (ev e)) (l.map a.eval):=by
 refine⟨by simp,fun i x v hx hv=>?_⟩;simp only[D2,IF,BV]at hx;obtain⟨y,hy,rfl⟩:=hx;simp only[Pp,hy,Es,CE]at hv;subst hv;exact Ig he y
variable{c:Call}{x:Operand}
theorem YV(ho:o.op=.call c)(hc:c.callee=.value x){g:FuncId}{first cap:Array Value}(hx:a.eval x=.func (.func g) first cap)(he:Kv P g):
 (o.semAt ro a.eval).run P w=.ok (.enter g (first++c.args.map a.eval++cap)) w:=by
 rw[Oper.semAt_eq _ _ _ (by simp[ho])];simp[execOp,ho,resolve,hc,hx,Deferred.ofValue,invoke,Kc he]
theorem WO(ho:o.op=.call c)(hc:c.callee=.value x){k:Nat}{l:Loop}(hx:a.eval x=.func (.yield k) #[] #[])(hl:w.heap[k]? =some (.loop l))(hn:l.params.size=c.args.size):
 (o.semAt ro a.eval).run P w=.ok (.round k l.fn (HZ l (c.args.map a.eval)) l.assign l.body) w:=by
 rw[Oper.semAt_eq _ _ _ (by simp[ho])];have hgo:(getObj k).run P w=.ok (.loop l) w:=JZ hl (by simp);simp[execOp,ho,resolve,hc,hx,Deferred.ofValue,invoke,Instr.yield,Instr.getLoop,hgo,hn,HZ]
structure Ll(P:Program)(mix:List TypeId)(C:Cj):Prop where
 T:C.T=B6 P mix
 meth: ∀t m f,C.meth t m=some f→ ∀(v:Value) (w:World),(method (P.types.size+Made.depth) t v m).run P w=.ok (f,v) w
variable{C:Cj}{fr:Fr}{st':St}{fp:Fp}{env2:Nat→AV}
theorem bC(hC:Ll P mix C)(hr:DV fr o.op o.dst st (evalOp C.T st.env.get st.heap.get ρ o.op)=.ok st' fp)(hdf: ∀c,o.op≠ .defer c)
   (he:KT st.env.get env2 o.op) (hag:jC fp.rd st.heap.get h2.get) (hd: ∀d,o.dst=some d→d<nt.n):
 ∃v h2',st'.env=Ch st.env o.dst v∧st'.base=st.base∧(∀id,h2'.get id=ii fp.wr st'.heap.get h2.get id)∧Oh P ro fr.ce ρ nt o env2 st.defs h2 v st'.defs h2':=by
 rw[hC.T]at hr;cases hev:evalOp (B6 P mix) st.env.get st.heap.get ρ o.op with
 |none=>rw[hev]at hr;cases hr
 |some eff=>
  rw[hev]at hr;simp only[DV,KM,Bt]at hr;split at hr
  .rename_i hw;simp only[A8,MF,HI.ok.injEq]at hr;obtain⟨rfl,rfl⟩:=hr;have hev2:=XA (P:=P) (mix:=mix) (n:=ρ) he hag;rw[hev]at hev2;refine⟨eff.v,h2.puts eff.δ,rfl,rfl,fun id=>?_,?_⟩
   .simp only[ii];split
    .rename_i hi;exact bK hi
    .rename_i hi;exact Mc hi
   .intro A β w a H hf s next Q hn
    exact yH H hf s hd hdf hev2.symm hw hn
  .cases hr
theorem lf(hT:DI P W K)(ho:o.op=.call c)(hc:c.callee=.value x)
 (hL:LW W st.heap) (hr:EK C K fr ρ (ev st.env.get x) (c.args.toList.map (ev st.env.get)) o.dst st=.ok st' fp)
   (he:KT st.env.get env2 o.op) (hag:jC fp.rd st.heap.get h2.get) (hd: ∀d,o.dst=some d→d<nt.n):
 ∃v h2',st'.env=Ch st.env o.dst v∧st'.base=st.base∧(∀id,h2'.get id=ii fp.wr st'.heap.get h2.get id)∧Oh P ro fr.ce ρ nt o env2 st.defs h2 v st'.defs h2':=by
 have hx:ev st.env.get x=ev env2 x:=he x (by rw[ho];simp[Op.operands,Call.operands,hc]);have hargs:c.args.toList.map (ev st.env.get)=c.args.toList.map (ev env2):=FT fun y hy=>he y (by rw[ho];simp[Op.operands,Call.operands,hc,hy]);rw[hargs,hx]at hr;unfold EK at hr;split at hr
 ·
  rename_i id hid;unfold Jv at hr;split at hr
  .rename_i r hg;unfold ER at hr;split at hr
   .rename_i v hc' hK;simp only[A8,An,HI.ok.injEq]at hr;obtain⟨rfl,rfl⟩:=hr;refine⟨v,gc ρ hc',rfl,rfl,Tn hag,?_⟩;intro A β w a H hf s next Q hn
    have hag': ∀id,st.heap.get id=h2.get id:=hag;have H1:HR A β w st.heap:=H.congr fun id=>(hag' id).symm;have hM:=MS.congr (A:=A) (β:=β) hag';have hxv:=Ig s.env x;rw[hid]at hxv;generalize hax:a.eval x=ax at hxv;cases hxv with
    |wn _ k hk=>
     obtain⟨k',hk',l,q1,q2,q3,q4,q5,q6,q7,q9,q8⟩:=H1.obj id _ hg;rw[hk]at hk';cases hk';have hvs:=GW.args s.env c.args;obtain⟨hlen,hround⟩:=(hT _ _ _ _ _ _ _ hK).rw rfl (fun _ _ h=>by cases h;exact hL _ _ hg) hL A β w (c.args.map a.eval) H1 hf (by rw[hM];exact hvs);have hround:=hround k l hg hk q1;have g1:Bp A fr.ce ρ β w h2 β w st.heap:=(Bp.refl H1).congr hag';have hn':l.params.size=c.args.size:=by
      rw[←q5]at hlen;simpa using hlen
     exact re (WO ho hc hax q1 hn') hd (RoundIn.mono hround fun e w' he=>Rp g1 hf s he) hn
   .simp at hr
   .cases hr
  .cases hr
 .rename_i g first cap hfn
  simp only[BO]at hr;obtain⟨v,h2',e1,e2,e3,e4,e5,e6⟩:=U0 (nt:=nt) hT hL hr hag;refine⟨v,h2',e1,e2,e4,?_⟩;intro A β w a H hf s next Q hn
  have hxv:=Ig s.env x;rw[hfn]at hxv;generalize hax:a.eval x=ax at hxv;cases hxv with
  |fn _ _ _ first' cap' l1 l2 l3 l4=>
   have hvs:GW β w (MS A β h2) (first++c.args.toList.map (ev env2)++cap) (first'++c.args.map a.eval++cap'):=
    (GW.append (GW.append ⟨l1,l3⟩ (GW.args s.env c.args)) ⟨l2,l4⟩)
   rw[e3]at hn;exact VF (YV ho hc hax e5) hd (e6 env2 st.defs A β w a _ H hf s hvs) hn
 .cases hr
theorem cu(hT:DI P W K)(ho:o.op=.call c)(hc:c.callee=.value x)
 (hL:LW W st.heap) (hr:EK C K fr ρ (ev st.env.get x) (c.args.toList.map (ev st.env.get)) o.dst st=.f9 v st')
   (he:KT st.env.get env2 o.op) (hag: ∀id,st.heap.get id=h2.get id):
 ∃h2',st'.env=st.env∧st'.base=st.base∧st'.defs=st.defs∧(∀id,h2'.get id=st'.heap.get id)∧WZ P ro fr.ce ρ nt o env2 st.defs h2 v h2':=by
 have hx:ev st.env.get x=ev env2 x:=he x (by rw[ho];simp[Op.operands,Call.operands,hc]);have hargs:c.args.toList.map (ev st.env.get)=c.args.toList.map (ev env2):=FT fun y hy=>he y (by rw[ho];simp[Op.operands,Call.operands,hc,hy]);rw[hargs,hx]at hr;unfold EK at hr;split at hr
 .rename_i id hid;unfold Jv at hr;split at hr
  .rename_i r hg;unfold ER at hr;split at hr
   .simp at hr
   .rename_i u hc' hK;simp only[An,HI.f9.injEq]at hr;obtain⟨rfl,rfl⟩:=hr;refine⟨gc ρ hc',rfl,rfl,rfl,fun id=>rfl,?_⟩;intro A β w a H hf s next Q hn
    have H1:HR A β w st.heap:=H.congr fun id=>(hag id).symm;have hM:=MS.congr (A:=A) (β:=β) hag;have hxv:=Ig s.env x;rw[hid]at hxv;generalize hax:a.eval x=ax at hxv;cases hxv with
    |wn _ k hk=>
     obtain⟨k',hk',l,q1,q2,q3,q4,q5,q6,q7,q9,q8⟩:=H1.obj id _ hg;rw[hk]at hk';cases hk';have hvs:=GW.args s.env c.args;obtain⟨hlen,hround⟩:=(hT _ _ _ _ _ _ _ hK).rw rfl (fun _ _ h=>by cases h;exact hL _ _ hg) hL A β w (c.args.map a.eval) H1 hf (by rw[hM];exact hvs);have hround:=hround k l hg hk q1;have g1:Bp A fr.ce ρ β w h2 β w st.heap:=(Bp.refl H1).congr hag;have hn':l.params.size=c.args.size:=by
      rw[←q5]at hlen;simpa using hlen
     exact rb (WO ho hc hax q1 hn') (RoundIn.mono hround fun e w' he=>Rp g1 hf s he) hn
   .cases hr
  .cases hr
 .rename_i g first cap hfn
  simp only[BO]at hr;obtain⟨h2',e1,e2,e3,e4,e5,e6⟩:=SJ (nt:=nt) hT hL hr hag;refine⟨h2',e1,e2,e3,e4,?_⟩;intro A β w a H hf s next Q hn
  have hxv:=Ig s.env x;rw[hfn]at hxv;generalize hax:a.eval x=ax at hxv;cases hxv with
  |fn _ _ _ first' cap' l1 l2 l3 l4=>
   have hvs:GW β w (MS A β h2) (first++c.args.toList.map (ev env2)++cap) (first'++c.args.map a.eval++cap'):=
    (GW.append (GW.append ⟨l1,l3⟩ (GW.args s.env c.args)) ⟨l2,l4⟩)
   exact VE (YV ho hc hax e5) (e6 env2 st.defs A β w a _ H hf s hvs) hn
 .cases hr
theorem Sv{m:String}(ho:o.op=.call c)(hc:c.callee=.invoke x m){g:FuncId}{t:TypeId}{v:Value}(hx:a.eval x=.iface t v)
 (hm:(method (P.types.size+Made.depth) t v m).run P w=.ok (g,v) w) (he:Kv P g):
 (o.semAt ro a.eval).run P w=.ok (.enter g (#[v]++c.args.map a.eval)) w:=by
 rw[Oper.semAt_eq _ _ _ (by simp[ho])];have e:(#[Value.iface t v]++c.args.map a.eval).extract 1 (#[Value.iface t v]++c.args.map a.eval).size=c.args.map a.eval:=by
  apply Array.ext';simp only[Array.toList_extract,Array.toList_append,Rs];simp;rw[CS (by simp)]
 have e0:(#[Value.iface t v]++c.args.map a.eval)[0]? =some (.iface t v):=by
  rw[I9 (by simp)];rfl
 unfold execOp;simp only[ho,resolve,hc,hx,Sem.run_bind,Sem.run_pure,Result.andThen_ok];unfold invoke;simp only[e,e0];simp[callMethod,hm,Kc he]
theorem Ys{C:Cj}(hC:Ll P mix C){K:AO}(hT:DI P W K){fr:Fr}{o:Oper}{c:Call}{x:Operand}{m:String}(ho:o.op=.call c)(hc:c.callee=.invoke x m){st st':St}{fp:Fp}
 (hL:LW W st.heap) (hr:GB C K fr ρ (ev st.env.get x) m (c.args.toList.map (ev st.env.get)) o.dst st=.ok st' fp)
 {env2:Nat→AV} {h2:AD} (he:KT st.env.get env2 o.op) (hag:jC fp.rd st.heap.get h2.get) (hd: ∀d,o.dst=some d→d<nt.n):
 ∃v h2',st'.env=Ch st.env o.dst v∧st'.base=st.base∧(∀id,h2'.get id=ii fp.wr st'.heap.get h2.get id)∧Oh P ro fr.ce ρ nt o env2 st.defs h2 v st'.defs h2':=by
 have hx:ev st.env.get x=ev env2 x:=he x (by rw[ho];simp[Op.operands,Call.operands,hc]);have hargs:c.args.toList.map (ev st.env.get)=c.args.toList.map (ev env2):=FT fun y hy=>he y (by rw[ho];simp[Op.operands,Call.operands,hc,hy]);rw[hargs,hx]at hr;unfold GB at hr;split at hr
 .rename_i t rv hrv;split at hr
  .rename_i g hg;unfold EK at hr;simp only[BO]at hr;obtain⟨v,h2',e1,e2,e3,e4,e5,e6⟩:=U0 (nt:=nt) hT hL hr hag;refine⟨v,h2',e1,e2,e4,?_⟩;intro A β w a H hf s next Q hn
   have hxv:=Ig s.env x;rw[hrv]at hxv;generalize hax:a.eval x=ax at hxv;cases hxv with
   |iface _ _ u hu=>
    have hvs:GW β w (MS A β h2) ([rv]++c.args.toList.map (ev env2)++[]) (#[u]++c.args.map a.eval):=by
     rw[D6];refine GW.append ⟨rfl,fun i y z hy hz=>?_⟩ (GW.args s.env c.args);cases i with
     |zero=>simp at hy hz;subst hy hz;exact hu
     |succ i=>simp at hy
    rw[e3]at hn;exact VF (Sv ho hc hax (hC.meth t m g hg u w) e5) hd (e6 env2 st.defs A β w a _ H hf s hvs) hn
  .cases hr
 .cases hr
theorem W2{C:Cj}(hC:Ll P mix C){K:AO}(hT:DI P W K){fr:Fr}{o:Oper}{c:Call}{x:Operand}{m:String}(ho:o.op=.call c)(hc:c.callee=.invoke x m){st st':St}{v:AV}
 (hL:LW W st.heap) (hr:GB C K fr ρ (ev st.env.get x) m (c.args.toList.map (ev st.env.get)) o.dst st=.f9 v st')
 {env2:Nat→AV} {h2:AD} (he:KT st.env.get env2 o.op) (hag: ∀id,st.heap.get id=h2.get id):
 ∃h2',st'.env=st.env∧st'.base=st.base∧st'.defs=st.defs∧(∀id,h2'.get id=st'.heap.get id)∧WZ P ro fr.ce ρ nt o env2 st.defs h2 v h2':=by
 have hx:ev st.env.get x=ev env2 x:=he x (by rw[ho];simp[Op.operands,Call.operands,hc]);have hargs:c.args.toList.map (ev st.env.get)=c.args.toList.map (ev env2):=FT fun y hy=>he y (by rw[ho];simp[Op.operands,Call.operands,hc,hy]);rw[hargs,hx]at hr;unfold GB at hr;split at hr
 .rename_i t rv hrv;split at hr
  .rename_i g hg;unfold EK at hr;simp only[BO]at hr;obtain⟨h2',e1,e2,e3,e4,e5,e6⟩:=SJ (nt:=nt) hT hL hr hag;refine⟨h2',e1,e2,e3,e4,?_⟩;intro A β w a H hf s next Q hn
   have hxv:=Ig s.env x;rw[hrv]at hxv;generalize hax:a.eval x=ax at hxv;cases hxv with
   |iface _ _ u hu=>
    have hvs:GW β w (MS A β h2) ([rv]++c.args.toList.map (ev env2)++[]) (#[u]++c.args.map a.eval):=by
     rw[D6];refine GW.append ⟨rfl,fun i y z hy hz=>?_⟩ (GW.args s.env c.args);cases i with
     |zero=>simp at hy hz;subst hy hz;exact hu
     |succ i=>simp at hy
    exact VE (Sv ho hc hax (hC.meth t m g hg u w) e5) (e6 env2 st.defs A β w a _ H hf s hvs) hn
  .cases hr
 .cases hr
theorem cv{C:Cj}{K:AO}{fr:Fr}(hro:fr.wp=false→ro=none){o:Oper}{c:Call}(ho:o.op=.defer c){st st':St}{fp:Fp}(hr:Hl fr st.env.get c o.dst st=.ok st' fp)
 {env2:Nat→AV} {h2:AD} (he:KT st.env.get env2 o.op) (hag:jC fp.rd st.heap.get h2.get) (hd: ∀d,o.dst=some d→d<nt.n):
 ∃v h2',st'.env=Ch st.env o.dst v∧st'.base=st.base∧(∀id,h2'.get id=ii fp.wr st'.heap.get h2.get id)∧Oh P ro fr.ce ρ nt o env2 st.defs h2 v st'.defs h2':=by
 unfold Hl at hr;split at hr
 .rename_i x hc;have hx:ev st.env.get x=ev env2 x:=he x (by rw[ho];simp[Op.operands,Call.operands,hc]);have hargs:c.args.toList.map (ev st.env.get)=c.args.toList.map (ev env2):=FT fun y hy=>he y (by rw[ho];simp[Op.operands,Call.operands,hc,hy]);split at hr
  .rename_i g hfn hrnd;simp only[HI.ok.injEq]at hr;obtain⟨rfl,rfl⟩:=hr;refine⟨.undef,h2,rfl,rfl,fun id=>(hag id).symm,?_⟩;intro A β w a H hf s next Q hn
   have hro':=hro hrnd;subst hro';have hxv:=Ig s.env x;rw[←hx,hfn]at hxv;generalize hax:a.eval x=ax at hxv;cases hxv with
   |fn _ _ _ first' cap' l1 l2 l3 l4=>
    have hf0:first'= #[]:=Mk l1.symm;have hc0:cap'= #[]:=Mk l2.symm;subst hf0 hc0;refine⟨fun _ _=>trivial,?_⟩;have hrun:(o.semAt (FF none).round a.eval).run P w=.ok (.defer {target:=.fn (.func g) #[],args:=c.args.map a.eval}) w:=by
     show(execOp a.eval o).run P w=_;simp[execOp,ho,resolve,hc,hax,Deferred.ofValue]
    rw[hrun,Oper.uponIn_defer];refine hn _ _ ⟨β,Bp.refl H,?_⟩;have s':Ld A β w nt env2 (.call g (c.args.toList.map (ev st.env.get))::st.defs) h2 {a with defers:={target:=.fn (.func g) #[],args:=c.args.map a.eval}::a.defers}:=
     ⟨s.sz,s.env,⟨.call _ _ _ (by rw[hargs];exact GW.args s.env c.args),s.defs,fun _ _ _ h=>by cases h⟩⟩
    exact s'.put hd (.undef _)
  .cases hr
 .cases hr
theorem cz(ho:o.op=.panic x)(hr:GL st (ev st.env.get x)=.f9 v st')
   (he:KT st.env.get env2 o.op) (hag: ∀id,st.heap.get id=h2.get id):
 ∃h2',st'.env=st.env∧st'.base=st.base∧st'.defs=st.defs∧(∀id,h2'.get id=st'.heap.get id)∧WZ P ro fr.ce ρ nt o env2 st.defs h2 v h2':=by
 have hx:ev st.env.get x=ev env2 x:=he x (by rw[ho];simp[Op.operands]);unfold GL at hr;split at hr
 .split at hr
  .rename_i t u hv;simp only[HI.f9.injEq]at hr;obtain⟨rfl,rfl⟩:=hr;refine⟨h2,rfl,rfl,rfl,fun id=>(hag id).symm,?_⟩;intro A β w a H hf s next Q hn
   have hxv:=Ig s.env x;rw[←hx,hv]at hxv;generalize hax:a.eval x=ax at hxv;cases hxv with
   |iface _ _ u' hu=>
    refine⟨fun _ _=>trivial,?_⟩;have hrun:(o.semAt (FF ro).round a.eval).run P w=.halt (.panic (.iface t u')) w:=by
     rw[Oper.semAt_eq _ _ _ (by simp[ho])];simp[execOp,ho,hax,Instr.panic,goPanic]
    rw[hrun];exact hn a w _ ⟨β,Bp.refl H,s,.iface _ _ _ hu⟩
  .cases hr
 .cases hr
theorem AAE(hC:Ll P mix C)(hT:DI P W K)(hro:fr.wp=false→ro=none)(hL:LW W st.heap)(hr:A6 C K fr ρ o.op o.dst st=.ok st' fp)
   (he:KT st.env.get env2 o.op) (hag:jC fp.rd st.heap.get h2.get) (hd: ∀d,o.dst=some d→d<nt.n):
 ∃v h2',st'.env=Ch st.env o.dst v∧st'.base=st.base∧(∀id,h2'.get id=ii fp.wr st'.heap.get h2.get id)∧Oh P ro fr.ce ρ nt o env2 st.defs h2 v st'.defs h2':=by
 unfold A6 at hr;split at hr
 .rename_i c hop;split at hr
  .rename_i x hc;exact lf (C:=C) hT hop hc hL hr he hag hd
  .rename_i x m hc;exact Ys hC hT hop hc hL hr he hag hd
  .rename_i b hc;have e:KP C.T st.env.get st.heap.get ρ c=evalOp C.T st.env.get st.heap.get ρ o.op:=by rw[hop];rfl
   rw[e]at hr;exact bC hC hr (by simp[hop]) he hag hd
 .rename_i x hop;unfold GL at hr;split at hr
  .split at hr<;>cases hr
  .cases hr
 .rename_i c hop;exact cv (C:=C) (K:=K) hro hop hr he hag hd
 .rename_i h1 h2 h3;exact bC hC hr (fun c hc=>h3 c hc) he hag hd
theorem uE(hC:Ll P mix C)(hT:DI P W K)(hL:LW W st.heap)(hr:A6 C K fr ρ o.op o.dst st=.f9 v st')
   (he:KT st.env.get env2 o.op) (hag: ∀id,st.heap.get id=h2.get id):
 ∃h2',st'.env=st.env∧st'.base=st.base∧st'.defs=st.defs∧(∀id,h2'.get id=st'.heap.get id)∧WZ P ro fr.ce ρ nt o env2 st.defs h2 v h2':=by
 have noPlain: ∀{x:Option CU},DV fr o.op o.dst st x=.f9 v st'→False:=by
  intro x hr;unfold DV at hr;split at hr
  .simp only[KM,Bt]at hr;split at hr
   .simp at hr
   .cases hr
  .cases hr
 unfold A6 at hr;split at hr
 .rename_i c hop;split at hr
  .rename_i x hc;exact cu (C:=C) hT hop hc hL hr he hag
  .rename_i x m hc;exact W2 hC hT hop hc hL hr he hag
  .skip
   exact(noPlain hr).elim
 .rename_i x hop;exact cz hop hr he hag
 .rename_i c hop;unfold Hl at hr;split at hr
  .split at hr<;>cases hr
  .cases hr
 .exact(noPlain hr).elim
variable{P:Program}{mix:List TypeId}{ρ:List Nat}{W:Lp→Prop}
theorem Pt{wr:Option (List Id)}{id:Id}:ii wr g g id=g id:=by
 cases wr with
 |none=>rfl
 |some l=>simp[ii]
theorem zE{h:AD}{id:Id}:ii (some (δ.map (·.1))) (h.puts δ).get h.get id=(h.puts δ).get id:=by
 simp only[ii];split
 .rfl
 .rename_i hi;exact(Mc hi).symm
def sN(st st':St)(fp:Fp):Prop:=st'.defs=st.defs∧ ∀id,ii fp.wr st'.heap.get st.heap.get id=st'.heap.get id
variable{dst:Option Tmp}
theorem Me{E:E (Ad×AD)}(hr:ER ρ dst st E=.ok st' fp):sN st st' fp:=by
 unfold ER at hr;split at hr
 .simp only[A8,An,HI.ok.injEq]at hr;obtain⟨rfl,rfl⟩:=hr;exact⟨rfl,fun id=>(Tn (fun _=>rfl) id).symm⟩
 .simp at hr
 .cases hr
theorem YU{f:FuncId}{m:Mode}(hr:Dh K fr ρ f as dst st m=.ok st' fp):sN st st' fp:=by
 unfold Dh at hr;split at hr
 .exact Me hr
 .split at hr
  .rename_i xs hx;simp only[BO]at hr;unfold DZ at hr;split at hr
   .rename_i v hc hK;simp only[A8]at hr;split at hr
    .simp only[HI.ok.injEq]at hr;obtain⟨rfl,rfl⟩:=hr;exact⟨rfl,fun _=>Pt⟩
    .unfold Hs at hr;split at hr
     .rename_i o ho;simp only[An,HI.ok.injEq]at hr;obtain⟨rfl,rfl⟩:=hr;refine⟨rfl,fun id=>?_⟩;obtain⟨i,ob⟩:=o;simp only[ii,As,AD.get_cons];by_cases e:id=i
      .simp[e]
      .simp[e,Ne.symm e]
     .simp only[Bt]at hr;split at hr
      .simp only[An,HI.ok.injEq]at hr;obtain⟨rfl,rfl⟩:=hr;refine⟨rfl,fun id=>?_⟩;simp only[ii];split
       .rfl
       .rename_i hi;simp only[ES,not_or]at hi;rw[AD.get_append,Mc hi.1];cases hg:hc.get id with
        |none=>rfl
        |some o=>exact absurd (S9 hg) hi.2
      .cases hr
   .split at hr<;>cases hr
   .cases hr
  .unfold FK at hr;simp only[BO,Bt,An]at hr;split at hr
   .unfold Pg at hr;split at hr
    .split at hr
     .simp only[A8,HI.ok.injEq]at hr;obtain⟨rfl,rfl⟩:=hr;exact⟨rfl,fun _=>Pt⟩
     .cases hr
    .split at hr<;>cases hr
    .cases hr
   .split at hr
    .exact Me hr
    .cases hr
theorem Qt{fv:AV}{args:List AV}(hr:EK C K fr ρ fv args dst st=.ok st' fp):sN st st' fp:=by
 unfold EK at hr;split at hr
 .unfold Jv at hr;split at hr
  .exact Me hr
  .cases hr
 .simp only[BO]at hr;exact YU hr
 .cases hr
variable{op:Op}
theorem O0{x:Option CU}(hr:DV fr op dst st x=.ok st' fp):sN st st' fp:=by
 unfold DV at hr;split at hr
 .simp only[KM,Bt]at hr;split at hr
  .simp only[A8,MF,HI.ok.injEq]at hr;obtain⟨rfl,rfl⟩:=hr;exact⟨rfl,fun _=>zE⟩
  .cases hr
 .cases hr
theorem uF(hr:A6 C K fr ρ op dst st=.ok st' fp):(∀id,ii fp.wr st'.heap.get st.heap.get id=st'.heap.get id)∧((∀c,op≠ .defer c)→st'.defs=st.defs):=by
 have fin:sN st st' fp→(∀id,ii fp.wr st'.heap.get st.heap.get id=st'.heap.get id)∧((∀c,op≠ .defer c)→st'.defs=st.defs):=fun c=>⟨c.2,fun _=>c.1⟩;unfold A6 at hr;split at hr
 .split at hr
  .exact fin (Qt hr)
  .unfold GB at hr;split at hr
   .split at hr
    .exact fin (Qt hr)
    .cases hr
   .cases hr
  .exact fin (O0 hr)
 .unfold GL at hr;split at hr
  .split at hr<;>cases hr
  .cases hr
 .rename_i c;unfold Hl at hr;split at hr
  .split at hr
   .simp only[HI.ok.injEq]at hr;obtain⟨rfl,rfl⟩:=hr;exact⟨fun _=>Pt,fun h=>absurd rfl (h c)⟩
   .cases hr
  .cases hr
 .exact fin (O0 hr)
theorem OV{ops:Array Oper}(hr:CY C K fr ops ρ o st=.ok st' fp):
 (∀id,ii fp.wr st'.heap.get st.heap.get id=st'.heap.get id)∧((∀c,o.op≠ .defer c)→st'.defs=st.defs):=by
 unfold CY at hr;split at hr
 .cases hr
 .simp only[A8,HI.ok.injEq]at hr;obtain⟨rfl,rfl⟩:=hr;exact⟨fun _=>Pt,fun _=>rfl⟩
 .exact uF hr
def yT:Op→Bool
 |.move _|.assign _|.pick ..|.alloc _|.box ..|.build ..|.nilCheck _|.binOp ..|.unOp ..|.makeInterface ..|.typeAssert ..|.makeFunc ..|.makeMap ..|.makeSlice ..|.fieldAddr ..|.field ..|.index ..|.extract ..=>true
 |.call c=>match c.callee with
  |.builtin .max=>true
  |.builtin .min=>true
  |_=>false
 |_=>false
def X4:Op→Bool
 |.move _|.assign _|.pick ..|.build ..|.load ..|.nilCheck _|.binOp ..|.unOp ..|.makeInterface ..|.typeAssert ..|.makeFunc ..|.lookup ..|.slice ..|.fieldAddr ..|.field ..|.indexAddr ..|.index ..|.extract ..=>true
 |.call c=>match c.callee with
  |.builtin .max=>true
  |.builtin .min=>true
  |.builtin .len=>true
  |_=>false
 |_=>false
theorem yU{e:Nat→AV}(h:yT op=true):Ff e g op=[]:=by
 cases op<;>first|rfl|(simp[yT]at h;done)|skip
 rename_i c;obtain⟨callee,args,ats⟩:=c;cases callee with
 |builtin b=>cases b<;>first|rfl|simp[yT]at h
 |_=>simp[yT]at h
variable{α:Type}{eff:CU}
theorem map_nil{f:α→AV}{x:Option α}(h:x.map (fun y=>(⟨f y,[]⟩:CU))=some eff):eff.δ=[]:=by
 simp only[BV]at h;obtain⟨y,_,rfl⟩:=h;rfl
variable{T:TypeId→Option TI}{n:Id}
theorem cD{e:Nat→AV}(h:X4 op=true)(he:evalOp T e g n op=some eff):eff.δ=[]:=by
 cases op<;>first|(simp[X4]at h;done)|skip
 all_goals simp only[evalOp]at he
 case move=>cases he;rfl
 case assign=>cases he;rfl
 case pick=>unfold OC at he;split at he<;>cases he;rfl
 case build=>unfold J9 at he;split at he
             .split at he
              .cases he
              .exact map_nil he
             .cases he
 case load=>unfold LR at he;split at he
            .exact map_nil he
            .cases he
 case nilCheck=>unfold Gb at he;split at he<;>cases he<;>rfl
 case binOp=>exact map_nil he
 case unOp=>
  unfold ey at he;split at he
  .unfold jw at he;split at he<;>cases he;rfl
  .cases he
 case makeInterface=>
  unfold LP at he;split at he
  .split at he<;>cases he;rfl
  .cases he
 case makeFunc=>unfold Ga at he;split at he<;>cases he;rfl
 case slice=>
  unfold Hr at he;split at he
  .split at he
   .exact map_nil he
   .exact map_nil he
   .cases he
  .cases he
 case fieldAddr=>
  unfold Eg at he;split at he
  .split at he
   .split at he
    .cases he
    .split at he
     .cases he;rfl
     .cases he;rfl
     .split at he<;>cases he;rfl
     .cases he
   .cases he
  .cases he
 case field=>
  unfold NN at he;split at he
  .split at he
   .exact map_nil he
   .cases he
  .cases he
 case indexAddr=>
  unfold C9 at he;split at he
  .split at he
   .unfold Nk at he;split at he
    .split at he
     .split at he
      .split at he<;>cases he;rfl
      .cases he
     .split at he
      .split at he<;>first|(split at he<;>cases he;rfl)|cases he
      .cases he
     .cases he
    .cases he
   .cases he
  .cases he
 case index=>
  unfold LQ at he;split at he
  .split at he
   .exact map_nil he
   .cases he
  .cases he
 case lookup=>
  unfold FW at he;split at he
  .split at he
   .split at he
    .split at he
     .unfold LL at he;split at he<;>cases he<;>rfl
     .cases he
    .cases he
   .cases he
  .cases he
 case typeAssert x xt t ok=>
  cases ok with
  |false=>cases he
  |true=>
   simp only at he;unfold IE at he;split at he
   .split at he
    .cases he
    .split at he
     .cases he;rfl
     .exact map_nil he
   .cases he
 case extract=>
  unfold HV at he;split at he
  .exact map_nil he
  .cases he
 case call c=>
  obtain⟨callee,args,ats⟩:=c;cases callee with
  |builtin b=>
   simp only[KP]at he;unfold Gl at he;cases b<;>first|(simp[X4]at h;done)|skip
   .simp only at he;split at he
    .split at he
     .split at he
      .exact map_nil he
      .cases he
     .cases he
    .cases he
   .simp only at he;split at he
    .unfold Z9 at he;split at he
     .split at he<;>cases he;rfl
     .cases he
    .cases he
   .simp only at he;split at he
    .unfold aA at he;split at he
     .split at he<;>cases he;rfl
     .cases he
    .cases he
  |_=>simp[X4]at h
theorem c9{x:Option CU}(hr:DV fr op dst st x=.ok st' fp): ∃eff,x=some eff∧fp=⟨some (Ff st.env.get st.heap.get op),some (eff.δ.map (·.1))⟩:=by
 unfold DV at hr;split at hr
 .simp only[KM,Bt]at hr;split at hr
  .simp only[A8,MF,HI.ok.injEq]at hr;obtain⟨rfl,rfl⟩:=hr;exact⟨_,rfl,rfl⟩
  .cases hr
 .cases hr
theorem V8{ops:Array Oper}(hr:CY C K fr ops ρ o st=.ok st' fp):
 (yT o.op=true→fp.rd=some [])∧(X4 o.op=true→fp.wr=some []):=by
 unfold CY at hr;split at hr
 .cases hr
 .simp only[A8,HI.ok.injEq]at hr;obtain⟨rfl,rfl⟩:=hr;exact⟨fun _=>rfl,fun _=>rfl⟩
 .have plain: ∀{x:Option CU},DV fr o.op o.dst st x=.ok st' fp→x=evalOp C.T st.env.get st.heap.get ρ o.op→(yT o.op=true→fp.rd=some [])∧(X4 o.op=true→fp.wr=some []):=by
   intro x hr hx;obtain⟨eff,rfl,rfl⟩:=c9 hr;exact⟨fun h=>by simp only[yU h],fun h=>by simp only[cD h hx.symm,Dl]⟩
  unfold A6 at hr;split at hr
  .rename_i c hop;split at hr
   .rename_i x hc;exact⟨fun h=>by simp[hop,yT,hc]at h,fun h=>by simp[hop,X4,hc]at h⟩
   .rename_i x y hc;exact⟨fun h=>by simp[hop,yT,hc]at h,fun h=>by simp[hop,X4,hc]at h⟩
   .exact plain hr (by rw[hop];rfl)
  .unfold GL at hr;split at hr
   .split at hr<;>cases hr
   .cases hr
  .rename_i c hop;exact⟨fun h=>by simp[hop,yT]at h,fun h=>by simp[hop,X4]at h⟩
  .exact plain hr rfl
variable{es:List (List AV)}
theorem BN.newArr{j:TI}(h:newArr g n j es=some eff):BN eff.δ:=by
 unfold Abs.newArr at h;split at h
 .cases h
 .split at h
  .cases h;exact .one rfl
  .split at h
   .cases h;exact(BN.markEs es).append (.one rfl)
   .cases h
theorem BN.mapE{f:α→CU}{x:Option α}(hf: ∀y,BN (f y).δ)(h:x.map f=some eff):BN eff.δ:=by
 simp only[BV]at h;obtain⟨y,_,rfl⟩:=h;exact hf y
variable{off sz:Nat}{src:List (List AV)}
theorem BN.appIn{id:Id}{k:Nat}{es:List (List Aa)}(h:appIn g n id off k sz es src=some eff):BN eff.δ:=by
 unfold Abs.appIn at h;split at h
 .split at h
  .cases h;exact(BN.markEs src).append (.one rfl)
  .split at h
   .cases h;exact(BN.markEs src).append (.cons rfl (.one rfl))
   .cases h
 .cases h
theorem BN.appMix{id:Id}{k:Nat}(h:appMix n id off k sz es src=some eff):BN eff.δ:=by
 unfold Abs.appMix at h;split at h
 .cases h;exact .one rfl
 .split at h
  .cases h;exact .cons rfl (.one rfl)
  .cases h
variable{s:AV}
theorem BN.appTo{j:TI}(h:appTo g n j s src=some eff):BN eff.δ:=by
 unfold Abs.appTo at h;split at h
 .exact .newArr h
 .exact .newArr h
 .split at h
  .split at h
   .exact .appIn h
   .cases h
  .split at h
   .exact .appMix h
   .cases h
  .cases h
 .cases h
theorem BN.appendV{j:TI}{x:AV}(h:appendV g n j s x=some eff):BN eff.δ:=by
 unfold Abs.appendV at h;split at h
 .cases h
 .split at h<;>cases h<;>exact .nil
 .split at h
  .exact .appTo h
  .cases h
theorem BN.store{i:TI}{a:AV}(h:Jn g i a v=some eff):BN eff.δ:=by
 unfold Jn at h;split at h
 .cases h
 .split at h
  .split at h
   .exact .mapE (fun _=>.one rfl) h
   .cases h
  .split at h
   .split at h
    .exact .mapE (fun _=>(BN.marks _).append (.one rfl)) h
    .cases h
   .split at h
    .exact .mapE (fun _=>.one rfl) h
    .cases h
   .cases h
  .cases h
theorem BN.mapPut{t:Option TI}{m k:AV}(h:mapPut T g t m k v=some eff):BN eff.δ:=by
 unfold Abs.mapPut at h;split at h
 .cases h
 .split at h
  .split at h
   .split at h
    .cases h;exact .one rfl
    .cases h
   .cases h
  .cases h
theorem BN.evalOp{T:TypeId→Option TI}{e:Nat→AV}{g:G}{n:Id}{op:Op}{eff:CU}(h:evalOp T e g n op=some eff):BN eff.δ:=by
 by_cases hw:X4 op=true
 .rw[cD hw h];exact .nil
 cases op<;>simp only[X4,not_true_eq_false]at hw<;>simp only[Abs.evalOp,reduceCtorEq]at h
 case alloc=>unfold J8 at h;split at h
             .split at h<;>cases h;exact .one rfl
             .cases h
 case box=>unfold Q9 at h;split at h
           .split at h<;>cases h;exact .one rfl
           .cases h
 case buildSlice=>
  unfold Cn at h;split at h
  .split at h
   .unfold Gy at h;split at h
    .split at h
     .cases h;exact .nil
     .split at h
      .exact .newArr h
      .cases h
    .cases h
   .cases h
  .cases h
 case store=>unfold Iw at h;split at h
             .exact .store h
             .cases h
 case makeMap=>unfold HX at h;split at h<;>cases h;exact .one rfl
 case makeSlice=>
  unfold Cx at h;split at h
  .split at h
   .split at h
    .unfold GP at h;split at h
     .cases h;exact .nil
     .exact .newArr h
    .cases h
   .cases h
  .cases h
 case insert=>exact .mapPut h
 case mapUpdate=>exact .mapPut h
 case call c=>
  obtain⟨callee,args,ats⟩:=c;unfold KP at h;split at h
  .rename_i b hb;simp only at hb;subst hb;unfold Gl at h;split at h
   .simp[X4]at hw
   .split at h
    .unfold IC at h;split at h
     .split at h
      .exact .appendV h
      .cases h
     .cases h
    .cases h
   .split at h
    .unfold GQ at h;split at h
     .split at h
      .split at h
       .cases h;exact .nil
       .split at h
        .unfold Hj at h;split at h
         .split at h
          .split at h
           .exact .mapE (fun _=>.one rfl) h
           .cases h
          .cases h
         .cases h
        .cases h
      .cases h;exact .nil
      .cases h;exact .nil
      .cases h
     .cases h
    .cases h
   .simp[X4]at hw
   .simp[X4]at hw
   .cases h
  .cases h
theorem QZ{E:E (Ad×AD)}(hE: ∀c hc,E=.ok (c,hc)→LW W hc)(hr:ER ρ dst st E=.ok st' fp):LW W st'.heap:=by
 unfold ER at hr;split at hr
 .rename_i v hc;simp only[A8,An,HI.ok.injEq]at hr;obtain⟨rfl,rfl⟩:=hr;exact(hE _ _ rfl).gc
 .simp at hr
 .cases hr
theorem kh(hT:DI P W K){f:FuncId}{m:Mode}(hL:LW W st.heap)(hr:Dh K fr ρ f as dst st m=.ok st' fp):LW W st'.heap:=by
 unfold Dh at hr;split at hr
 .exact QZ (fun c hc hK=>(hT _ _ _ _ _ _ _ hK).lw (fun _ _ h=>by cases h) hL) hr
 .split at hr
  .rename_i xs hx;simp only[BO]at hr;unfold DZ at hr;split at hr
   .rename_i v hc hK;simp only[A8]at hr;split at hr
    .simp only[HI.ok.injEq]at hr;obtain⟨rfl,rfl⟩:=hr;exact hL
    .unfold Hs at hr;split at hr
     .rename_i o ho;simp only[An,HI.ok.injEq]at hr;obtain⟨rfl,rfl⟩:=hr;refine hL.cons ?_;unfold Bf at ho;split at ho
      .split at ho
       .split at ho<;>cases ho;rfl
       .cases ho
      .cases ho
     .simp only[Bt]at hr;split at hr
      .simp only[An,HI.ok.injEq]at hr;obtain⟨rfl,rfl⟩:=hr;exact((hT _ _ _ _ _ _ _ hK).lw (fun _ _ h=>by cases h) LW.nil).append (hL.puts (BN.markAll as))
      .cases hr
   .split at hr<;>cases hr
   .cases hr
  .unfold FK at hr;simp only[BO,Bt,An]at hr;split at hr
   .unfold Pg at hr;split at hr
    .split at hr
     .simp only[A8,HI.ok.injEq]at hr;obtain⟨rfl,rfl⟩:=hr;exact hL
     .cases hr
    .split at hr<;>cases hr
    .cases hr
   .split at hr
    .exact QZ (fun c hc hK=>(hT _ _ _ _ _ _ _ hK).lw (fun _ _ h=>by cases h) (hL.puts (BN.markAll as))) hr
    .cases hr
theorem SX{x:Option CU}(hx: ∀eff,x=some eff→BN eff.δ)(hL:LW W st.heap)(hr:DV fr op dst st x=.ok st' fp):LW W st'.heap:=by
 unfold DV at hr;split at hr
 .simp only[KM,Bt]at hr;split at hr
  .simp only[A8,MF,HI.ok.injEq]at hr;obtain⟨rfl,rfl⟩:=hr;exact hL.puts (hx _ rfl)
  .cases hr
 .cases hr
theorem V9(hT:DI P W K){ops:Array Oper}(hL:LW W st.heap)(hr:CY C K fr ops ρ o st=.ok st' fp):LW W st'.heap:=by
 have call: ∀{fv:AV} {args:List AV} {dst:Option Tmp},EK C K fr ρ fv args dst st=.ok st' fp→LW W st'.heap:=by
  intro fv args dst hr;unfold EK at hr;split at hr
  .unfold Jv at hr;split at hr
   .rename_i r hg;exact QZ (fun c hc hK=>(hT _ _ _ _ _ _ _ hK).lw (fun _ _ h=>by cases h;exact hL _ _ hg) hL) hr
   .cases hr
  .simp only[BO]at hr;exact kh hT hL hr
  .cases hr
 unfold CY at hr;split at hr
 .cases hr
 .simp only[A8,HI.ok.injEq]at hr;obtain⟨rfl,rfl⟩:=hr;exact hL
 .unfold A6 at hr;split at hr
  .split at hr
   .exact call hr
   .unfold GB at hr;split at hr
    .split at hr
     .exact call hr
     .cases hr
    .cases hr
   .rename_i c b hb;refine SX (fun eff he=>?_) hL hr;exact BN.evalOp (op:=.call _) he
  .unfold GL at hr;split at hr
   .split at hr<;>cases hr
   .cases hr
  .unfold Hl at hr;split at hr
   .split at hr
    .simp only[HI.ok.injEq]at hr;obtain⟨rfl,rfl⟩:=hr;exact hL
    .cases hr
   .cases hr
  .exact SX (fun eff he=>BN.evalOp he) hL hr
theorem Ug(hT:DI P W K){ops:Array Oper}(hL:LW W st.heap)(hr:CY C K fr ops ρ o st=.f9 v st'):LW W st'.heap:=by
 have raw: ∀{E:E (Ad×AD)} {dst:Option Tmp},(∀c hc,E=.ok (c,hc)→LW W hc)→ER ρ dst st E=.f9 v st'→LW W st'.heap:=by
  intro E dst hE hr;unfold ER at hr;split at hr
  .simp at hr
  .rename_i v hc;simp only[An,HI.f9.injEq]at hr;obtain⟨rfl,rfl⟩:=hr;exact(hE _ _ rfl).gc
  .cases hr
 have plain: ∀{op:Op} {dst:Option Tmp} {x:Option CU},DV fr op dst st x=.f9 v st'→False:=by
  intro op dst x hr;unfold DV at hr;split at hr
  .simp only[KM,Bt]at hr;split at hr
   .simp at hr
   .cases hr
  .cases hr
 have call: ∀{fv:AV} {args:List AV} {dst:Option Tmp},EK C K fr ρ fv args dst st=.f9 v st'→LW W st'.heap:=by
  intro fv args dst hr;unfold EK at hr;split at hr
  .unfold Jv at hr;split at hr
   .rename_i r hg;exact raw (fun c hc hK=>(hT _ _ _ _ _ _ _ hK).lw (fun _ _ h=>by cases h;exact hL _ _ hg) hL) hr
   .cases hr
  .simp only[BO]at hr;unfold Dh at hr;split at hr
   .exact raw (fun c hc hK=>(hT _ _ _ _ _ _ _ hK).lw (fun _ _ h=>by cases h) hL) hr
   .split at hr
    .rename_i xs hx;simp only[BO]at hr;unfold DZ at hr;split at hr
     .simp only[A8]at hr;split at hr
      .cases hr
      .unfold Hs at hr;split at hr
       .simp at hr
       .simp only[Bt]at hr;split at hr
        .simp at hr
        .cases hr
     .split at hr
      .simp only[HI.f9.injEq]at hr;obtain⟨rfl,rfl⟩:=hr;exact hL
      .cases hr
     .cases hr
    .unfold FK at hr;simp only[BO,Bt,An]at hr;split at hr
     .unfold Pg at hr;split at hr
      .split at hr
       .simp at hr
       .cases hr
      .split at hr
       .simp only[HI.f9.injEq]at hr;obtain⟨rfl,rfl⟩:=hr;exact hL
       .cases hr
      .cases hr
     .split at hr
      .exact raw (fun c hc hK=>(hT _ _ _ _ _ _ _ hK).lw (fun _ _ h=>by cases h) (hL.puts (BN.markAll _))) hr
      .cases hr
  .cases hr
 unfold CY at hr;split at hr
 .cases hr
 .simp at hr
 .unfold A6 at hr;split at hr
  .split at hr
   .exact call hr
   .unfold GB at hr;split at hr
    .split at hr
     .exact call hr
     .cases hr
    .cases hr
   .exact(plain hr).elim
  .unfold GL at hr;split at hr
   .split at hr
    .simp only[HI.f9.injEq]at hr;obtain⟨rfl,rfl⟩:=hr;exact hL
    .cases hr
   .cases hr
  .unfold Hl at hr;split at hr
   .split at hr<;>cases hr
   .cases hr
  .exact(plain hr).elim
variable{A:Nat→Prop}{P:Program}{mix:List TypeId}{β β' β'':Aw}{w w' w'':World}{M:Nat→Prop}{h h' h'':AD}{π ρ:List Nat}{ce:Option (List Nat)}{nt:NT}{env:Nat→AV}{defs defs':List Df}{a:Act}{ro:Option Nat}{W:Lp→Prop}
def CN(β:Aw)(π:List Nat)(b:Nat):Prop:= ∀n,b≤n→E9 β (n::π)
theorem KC{n m:Nat}{π id:List Nat}(h1:(n::π)<:+id)(h2:(m::π)<:+id):n=m:=by
 obtain⟨t1,e1⟩:=h1;obtain⟨t2,e2⟩:=h2;have:=e1.trans e2.symm;have:=List.append_inj_right' this (by simp);simpa using this
theorem E9.other{n m:Nat}(hf:E9 β (m::π))(hne:m≠n)(ho: ∀id,¬(n::π)<:+id→β' id=β id):E9 β' (m::π):=fun id hi=>by
 rw[ho id fun h=>hne (KC hi h)];exact hf id hi
theorem CN.next{n:Nat}(hf:CN β π n)(ho: ∀id,¬(n::π)<:+id→β' id=β id):CN β' π (n+1):=
 fun m hm=>(hf m (by omega)).other (by omega) ho
def LJ(ops:Array Oper)(e:Nat→AV)(o:Oper):Option Bool:=
 match o.guard with
 |none=>some true
 |some (j,want)=>match((ops[j]?).bind (·.dst)).map e with
  |some (.d (.bool b))=>some (b==want)
  |some (.ge [])=>some false
  |_=>none
def HK(ops:Array Oper)(j:Nat):Option Tmp:=(ops[j]?).bind fun o=>o.dst
variable{Q':Exit→Act→World→Prop}
theorem PK(hq: ∀e a w,Q e a w→Q' e a w)(h:LetsOut Q):LetsOut Q':=let ⟨a,w,h⟩:=h;⟨a,w,hq _ _ _ h⟩
theorem Xw{F:Fence}{n:Nat}{ops:Array Oper}(hq: ∀e a w,Q e a w→Q' e a w){i:Nat}{K:Act→World→Prop}{a:Act}{w:World}(h:wpOpIn F n P ops Q i K a w):wpOpIn F n P ops Q' i K a w:=by
 unfold wpOpIn at*;split
 .rename_i h0;rw[h0]at h;exact h
 .rename_i o ho;simp only[ho]at h;split
  .rename_i hw;simp only[hw,F2]at h;refine⟨h.1,?_⟩;have h:=h.2;generalize (o.semAt F.round a.eval).run P w=r at*;cases r with
   |ok x w'=>
    cases x<;>simp only[Oper.uponIn]at h⊢ <;>
     first
      |exact h
      |exact⟨h.1,CallsIn.mono h.2 (fun e w'' he=>by cases e<;>first|exact he|exact hq _ _ _ he|exact PK hq he)⟩
      |exact⟨h.1,RoundIn.mono h.2 (fun e w'' he=>by cases e<;>first|exact he|exact hq _ _ _ he|exact PK hq he)⟩
   |halt x w'=>cases x<;>simp only[Oper.uponIn]at h⊢ <;>first|exact h|exact hq _ _ _ h
  .rename_i hw;simp only[hw]at h;exact h
variable{b:Nat}
theorem CN.next'{i:Nat}(hf:CN β π (b+i))(ho: ∀id,¬((b+i)::π)<:+id→β' id=β id):CN β' π (b+(i+1)):=hf.next ho
theorem CN.mono{c:Nat}(hf:CN β π b)(h:b≤c):CN β π c:=fun n hn=>hf n (IP h hn)
theorem La{F:Fence}{n:Nat}{ops:Array Oper}(hq: ∀e a w,Q e a w→Q' e a w): ∀{l:List Nat} {a:Act} {w:World},wpOpsIn F n P ops Q l a w→wpOpsIn F n P ops Q' l a w
 |[],a,w,h=>hq _ _ _ h
 |i::l,a,w,h=>by
  rw[wpOpsIn_cons]at h⊢;have:=wpOpIn_mono (K':=wpOpsIn F n P ops Q' l) (fun a w=>La hq) h;exact Xw hq this
theorem AC8{u:Value}(h:VR β w M (.ge []) u):u=.tuple #[]:=by
 cases h with
 |ge _ c h1 _=>
  have:c= #[]:=Mk (by simpa using h1.symm);rw[this]
theorem Qj{ops:Array Oper}{e:Nat→AV}{t:Bool}(he:Jq β w M e fun t=>a.tmps.getD t Go.undef)(hsz: ∀d j,HK ops j=some d→d<a.tmps.size)(hg:LJ ops e o=some t):
 Region.wanted o (yielded ops a.tmps)=t:=by
 unfold LJ at hg;unfold Region.wanted;split at hg
 .rename_i h0;rw[h0];simpa using hg
 .rename_i j want h0;rw[h0];simp only;cases hd:(ops[j]?).bind (·.dst)with
  |none=>rw[hd]at hg;cases hg
  |some d=>
   rw[hd]at hg;simp only[Es]at hg;split at hg
   .rename_i b hb;simp only[CE]at hb hg;have hv:=he d;rw[hb]at hv;have hv':=H0 hv;have hlt:=hsz d j hd;have:a.tmps[d]? =some (.bool b):=by
     simp only at hv';rw[F8,D8 hlt]at hv';rw[D8 hlt];simpa using hv'
    simp only[yielded,hd,I7,this];rw[←hg];cases b<;>cases want<;>rfl
   .rename_i hb;simp only[CE]at hb hg;have hv:=he d;rw[hb]at hv;have hv':a.tmps.getD d Go.undef=.tuple #[]:=AC8 hv;have hlt:=hsz d j hd;have:a.tmps[d]? =some (.tuple #[]):=by
     rw[F8,D8 hlt]at hv';rw[D8 hlt];simpa using hv'
    simp only[yielded,hd,I7,this];rw[←hg];rfl
   .cases hg
theorem Qg(hC:Ll P mix C)(hT:DI P W K)(hro:fr.wp=false→ro=none){ops:Array Oper}{i:Nat}(hi:ops[i]? =some o)
 (hL:LW W st.heap) (hr:CY C K fr ops ρ o st=.ok st' fp)   (he:KT st.env.get env2 o.op) (hgd:LJ ops env2 o=LJ ops st.env.get o) (hag:jC fp.rd st.heap.get h2.get)
 (hds: ∀o∈ops,∀d,o.dst=some d→d<nt.n):
 ∃v h2',st'.env=Ch st.env o.dst v∧st'.base=st.base∧(∀id,h2'.get id=ii fp.wr st'.heap.get h2.get id)∧
  ∀(A:Nat→Prop) (β:Aw) (w:World) (a:Act),HR A β w h2→E9 β ρ→Ld A β w nt env2 st.defs h2 a→ ∀(next:Act→World→Prop) (Q:Exit→Act→World→Prop),
   (∀a' w',Aft A fr.ce ρ nt β w h2 (QW env2 o.dst v) st'.defs h2' a' w'→next a' w')→wpOpIn (FF ro) 0 P ops Q i next a w:=by
 have hd: ∀d,o.dst=some d→d<nt.n:=hds o (RD hi);have hall: ∀{a:Act},a.tmps.size=nt.n→ ∀d j,HK ops j=some d→d<a.tmps.size:=by
  intro a hsz d j hj;rw[hsz];unfold HK at hj;cases ho:ops[j]? with
  |none=>rw[ho]at hj;cases hj
  |some o'=>rw[ho]at hj;exact hds o' (RD ho) d hj
 unfold CY at hr;split at hr
 .cases hr
 .rename_i hg;simp only[A8,HI.ok.injEq]at hr;obtain⟨rfl,rfl⟩:=hr;refine⟨.ge [],h2,rfl,rfl,fun id=>(Xt _ _ id).symm,?_⟩;intro A β w a H hf s next Q hn
  have hw:=Qj (ops:=ops) s.env (hall s.sz) (by rw[hgd];exact hg);unfold wpOpIn;simp only[hi,hw];exact⟨fun _ _=>trivial,hn _ _ ⟨β,Bp.refl H,s.put hd (.ge [] #[] rfl (fun i x v h=>by simp at h))⟩⟩
 .rename_i hg;obtain⟨v,h2',e1,e2,e3,e4⟩:=AAE (ro:=ro) (nt:=nt) hC hT hro hL hr he hag hd;refine⟨v,h2',e1,e2,e3,?_⟩;intro A β w a H hf s next Q hn
  have hw:=Qj (ops:=ops) s.env (hall s.sz) (by rw[hgd];exact hg);unfold wpOpIn;simp only[hi,hw,F2];exact e4 A β w a H hf s next Q hn
theorem Tk(hC:Ll P mix C)(hT:DI P W K){ops:Array Oper}{i:Nat}(hi:ops[i]? =some o)
 (hL:LW W st.heap) (hr:CY C K fr ops ρ o st=.f9 v st')   (he:KT st.env.get env2 o.op) (hgd:LJ ops env2 o=LJ ops st.env.get o) (hag: ∀id,st.heap.get id=h2.get id)
 (hds: ∀o∈ops,∀d,o.dst=some d→d<nt.n):
 ∃h2',st'.env=st.env∧st'.base=st.base∧st'.defs=st.defs∧(∀id,h2'.get id=st'.heap.get id)∧
  ∀(A:Nat→Prop) (β:Aw) (w:World) (a:Act),HR A β w h2→E9 β ρ→Ld A β w nt env2 st.defs h2 a→ ∀(next:Act→World→Prop) (Q:Exit→Act→World→Prop),
   (∀a' w' u,WY A fr.ce ρ nt β w h2 env2 st.defs h2' v u a' w'→Q (.panic [{v:=u,recovered:=false}]) a' w')→wpOpIn (FF ro) 0 P ops Q i next a w:=by
 have hall: ∀{a:Act},a.tmps.size=nt.n→ ∀d j,HK ops j=some d→d<a.tmps.size:=by
  intro a hsz d j hj;rw[hsz];unfold HK at hj;cases ho:ops[j]? with
  |none=>rw[ho]at hj;cases hj
  |some o'=>rw[ho]at hj;exact hds o' (RD ho) d hj
 unfold CY at hr;split at hr
 .cases hr
 .simp at hr
 .rename_i hg;obtain⟨h2',e1,e2,e3,e4,e5⟩:=uE (ro:=ro) (nt:=nt) hC hT hL hr he hag;refine⟨h2',e1,e2,e3,e4,?_⟩;intro A β w a H hf s next Q hn
  have hw:=Qj (ops:=ops) s.env (hall s.sz) (by rw[hgd];exact hg);unfold wpOpIn;simp only[hi,hw,F2];exact e5 A β w a H hf s next Q hn
structure ADu(A:Nat→Prop)(ce:Option (List Nat))(π:List Nat)(nt:NT)(β:Aw)(w:World)(h:AD)(st':St)(base:Nat)(β':Aw)(a':Act)(w':World):Prop where
 lc:Bp A ce π β w h β' w' st'.heap
 s:Ld A β' w' nt st'.env.get st'.defs st'.heap a'
 fresh:CN β' π base
def X9(A:Nat→Prop)(ce:Option (List Nat))(π:List Nat)(nt:NT)(β:Aw)(w:World)(h:AD)(out:Option AV)(st':St)(base:Nat):Exit→Act→World→Prop
 |.normal,a',w'=>out=none∧ ∃β',ADu A ce π nt β w h st' base β' a' w'
 |.panic chain,a',w'=> ∃v u β',out=some v∧chain=[{v:=u,recovered:=false}]∧ADu A ce π nt β w h st' base β' a' w'∧VR β' w' (MS A β' st'.heap) v u
 |_,_,_=>False
theorem At.refl(g:G)(l:List Id):At g g l:=fun _ _=>rfl
theorem jC.refl(rd:Option (List Id))(g:G):jC rd g g:=by cases rd<;>simp[jC,At]
variable{alone:Nat→Bool}
theorem ez(hC:Ll P mix C)(hT:DI P W K)(hro:fr.wp=false→ro=none){ops:Array Oper}(hds: ∀o∈ops,∀d,o.dst=some d→d<nt.n):
 ∀(l:List Oper) (i:Nat) (st st':St) (fps:List Fp) (out:Option AV),i≤ops.size→ops.toList.drop i=l→LW W st.heap→DB C K fr ops b alone l i st=.ok ((out,st'),fps)→
  st'.base=st.base∧LW W st'.heap∧ ∀(A:Nat→Prop) (β:Aw) (w:World) (a:Act),HR A β w st.heap→Ld A β w nt st.env.get st.defs st.heap a→CN β fr.π (b+i)→
   wpOpsIn (FF ro) 0 P ops (X9 A fr.ce fr.π nt β w st.heap out st' (b+ops.size)) (List.range' i l.length) a w
 |[],i,st,st',fps,out,hle,hl,hL,hr=>by
  simp only[DB,E.ok.injEq,F1]at hr;obtain⟨⟨rfl,rfl⟩,rfl⟩:=hr;have hge:ops.size≤i:=by
   have:=congrArg List.length hl;simp at this;omega
  refine⟨rfl,hL,fun A β w a H s hf=>⟨rfl,β,Bp.refl H,s,?_⟩⟩;rw[show ops.size=i by omega];exact hf
 |o::l,i,st,st',fps,out,hle,hl,hL,hr=>by
  have hi:ops[i]? =some o:=by
   have:=congrArg (fun x:List Oper=>x[0]?) hl;simpa using this
  have hlt:i<ops.size:=(IS.1 hi).1;have hl':ops.toList.drop (i+1)=l:=by
   have:=congrArg List.tail hl;simpa[List.tail_drop]using this
  simp only[DB,Ho]at hr;simp only[List.length_cons,List.range'_succ,wpOpsIn_cons];split at hr
  .rename_i st1 fp hs;cases hrest:DB C K fr ops b alone l (i+1) st1 with
   |err e=>rw[hrest]at hr;cases hr
   |ok r=>
    rw[hrest]at hr;obtain⟨⟨out',st2⟩,fps'⟩:=r;simp only[Wv,E.ok.injEq,F1]at hr;obtain⟨⟨rfl,rfl⟩,rfl⟩:=hr;obtain⟨v,h2',e1,e2,e3,e4⟩:=Qg (ro:=ro) hC hT hro hi hL hs (env2:=st.env.get) (h2:=st.heap) (fun _ _=>rfl) rfl (jC.refl _ _) hds;have hh: ∀id,h2'.get id=st1.heap.get id:=fun id=>by rw[e3,(OV hs).1]
    obtain⟨hb,hL2,ih⟩:=ez hC hT hro hds l (i+1) st1 st2 fps' out' hlt hl' (V9 hT hL hs) hrest;refine⟨by rw[hb,e2],hL2,fun A β w a H s hf=>?_⟩;refine e4 A β w a H (hf (b+i) (EX _)) s _ _ fun a1 w1 ⟨β1,g1,s1⟩=>?_;have g1':Bp A fr.ce fr.π β w st.heap β1 w1 st1.heap:=by
     have:=g1.up (Ex _ _);exact⟨this.out,this.hr.congr hh,by rw[←MS.congr hh];exact this.ip,fun ρ h1 h2=>by
      obtain⟨k1,k2,k3⟩:=this.kept ρ h1 h2;exact⟨k1,k2,fun id hid=>by rw[←hh];exact k3 id hid⟩⟩
    have s1':Ld A β1 w1 nt st1.env.get st1.defs st1.heap a1:=by
     have:=s1.congr hh;rw[e1,bG];exact this
    have:=ih A β1 w1 a1 g1'.hr s1' ((hf.next' g1.out));refine La ?_ this;intro e a2 w2 hp;cases e with
    |normal=>
     obtain⟨h1,β2,L⟩:=hp;exact⟨h1,β2,g1'.trans L.lc,L.s,L.fresh⟩
    |panic chain=>
     obtain⟨v,u,β2,h1,h2,L,h3⟩:=hp;exact⟨v,u,β2,h1,h2,⟨g1'.trans L.lc,L.s,L.fresh⟩,h3⟩
    |_=>exact hp.elim
  .rename_i v st1 hs;split at hr
   .simp only[E.ok.injEq,F1]at hr;obtain⟨⟨rfl,rfl⟩,rfl⟩:=hr;obtain⟨h2',e1,e2,e3,e4,e5⟩:=Tk (ro:=ro) hC hT hi hL hs (env2:=st.env.get) (h2:=st.heap) (fun _ _=>rfl) rfl (fun _=>rfl) hds;refine⟨e2,Ug hT hL hs,fun A β w a H s hf=>?_⟩;refine e5 A β w a H (hf (b+i) (EX _)) s _ _ fun a1 w1 u ⟨β1,g1,s1,hv⟩=>?_;have g1':Bp A fr.ce fr.π β w st.heap β1 w1 st1.heap:=by
     have:=g1.up (Ex _ _);exact⟨this.out,this.hr.congr e4,by rw[←MS.congr e4];exact this.ip,fun ρ h1 h2=>by
      obtain⟨k1,k2,k3⟩:=this.kept ρ h1 h2;exact⟨k1,k2,fun id hid=>by rw[←e4];exact k3 id hid⟩⟩
    refine⟨v,u,β1,rfl,rfl,⟨g1',?_,?_⟩,?_⟩
    .rw[e1,e3];exact s1.congr e4
    .exact(hf.next' g1.out).mono (by omega)
    .rw[←MS.congr e4];exact hv
   .cases hr
  .cases hr
variable{A:Nat→Prop}{P:Program}{mix:List TypeId}{β β' β'':Aw}{w w' w'':World}{M:Nat→Prop}{h h' h'':AD}{π ρ:List Nat}{ce:Option (List Nat)}{nt:NT}{env:Nat→AV}{defs defs':List Df}{a:Act}{ro:Option Nat}{W:Lp→Prop}
def bits(acc:Nat→Nat):List Edge→Nat
 |[]=>0
 |e::l=>match Region.binds .any e with
  |true=>bits acc l|||2 ^ e.on|||acc e.on
  |false=>bits acc l
def Ly:List Oper→List Nat→List Nat
 |[],acc=>acc
 |o::l,acc=>Ly l (acc++[bits (fun k=>acc.getD k 0) o.after.toList])
theorem P3{acc:Nat→Nat}{i:Nat}: ∀{l:List Edge},(bits acc l).testBit i=true→ ∃e∈l,Region.binds .any e=true∧(e.on=i∨(acc e.on).testBit i=true)
 |[],h=>by simp[bits]at h
 |e::l,h=>by
  simp only[bits]at h;split at h
  .rename_i hb;simp only[Nat.testBit_or,I3]at h;rcases h with(h|h)|h
   .obtain⟨e',h1,h2⟩:=P3 h;exact⟨e',by simp[h1],h2⟩
   .exact⟨e,by simp,hb,.inl (by simpa[Nat.testBit_two_pow]using h)⟩
   .exact⟨e,by simp,hb,.inr h⟩
  .obtain⟨e',h1,h2⟩:=P3 h;exact⟨e',by simp[h1],h2⟩
theorem SG: ∀(l:List Oper) (acc:List Nat) (k:Nat),k<acc.length→(Ly l acc).getD k 0=acc.getD k 0
 |[],acc,k,_=>rfl
 |o::l,acc,k,h=>by
  simp only[Ly];rw[SG l _ k (by simp;omega)];simp[Be h]
theorem Uz: ∀(l:List Oper) (acc:List Nat) (j:Nat) (o:Oper),l[j]? =some o→
 ∃f:Nat→Nat,(Ly l acc).getD (acc.length+j) 0=bits f o.after.toList∧ ∀k,f k=(Ly l acc).getD k 0∨f k=0
 |[],acc,j,o,h=>by simp at h
 |x::l,acc,0,o,h=>by
  simp at h;subst h;refine⟨fun k=>acc.getD k 0,?_,fun k=>?_⟩
  .simp only[Ly];rw[SG l _ _ (by simp)];simp
  .by_cases hk:k<acc.length
   .left;exact(SG (x::l) acc k hk).symm
   .right;simp[I1 (Nat.le_of_not_lt hk)]
 |x::l,acc,j+1,o,h=>by
  simp at h;obtain⟨f,h1,h2⟩:=Uz l (acc++[bits (fun k=>acc.getD k 0) x.after.toList]) j o h;refine⟨f,?_,h2⟩;rw[←h1];simp only[Ly,Bi,ID];congr 1;omega
def qF(B:List Nat)(i j:Nat):Bool:=(B.getD j 0).testBit i
theorem aB{ops:Array Oper}{i j:Nat}(hj:ops[j]? =some o)(h:qF (Ly ops.toList []) i j=true):
 ∃e∈o.after,Region.binds .any e=true∧(e.on=i∨qF (Ly ops.toList []) i e.on=true):=by
 obtain⟨f,h1,h2⟩:=Uz ops.toList [] j o (by simpa using hj);unfold qF at h;simp only[List.length_nil,I4]at h1;rw[h1]at h;obtain⟨e,he,hb,h3⟩:=P3 h;refine⟨e,by simpa using he,hb,h3.imp (fun h=>h) fun h3=>?_⟩;rcases h2 e.on with h4|h4
 .unfold qF;rw[←h4];exact h3
 .rw[h4]at h3;simp at h3
def AFn(op:Op):List Tmp:=op.operands.toList.filterMap fun|.tmp t=>some t|_=>none
def Zb(ops:Array Oper)(o:Oper):List Tmp:=match o.guard with
 |some (j,_)=>match HK ops j with|some t=>[t]|none=>[]
 |none=>[]
def NM(ops:Array Oper)(o:Oper):List Tmp:=o.dst.toList++AFn o.op++Zb ops o
def et(d:Option Tmp)(l:List Tmp):Bool:=match d with
 |some t=>l.all fun x=> !Nat.beq x t
 |none=>true
theorem MW{d:Option Tmp}{l:List Tmp}(h:et d l=true){t:Tmp}(hd:d=some t):t∉l:=by
 subst hd;intro ht;have:=DO.1 h t ht;simp at this
def ZD(ops:Array Oper)(x y:Oper):Bool:=et x.dst (NM ops y)&&et y.dst (NM ops x)
def j9(x y:Op):Bool:=(X4 x||yT y)&&(yT x||X4 y)&&(X4 x||X4 y)
def e9(ops:Array Oper)(d8:List (Nat×Nat))(x y:Oper)(i j:Nat):Bool:=
 ZD ops x y&&(j9 x.op y.op||d8.any fun p=>Nat.beq p.1 i&&Nat.beq p.2 j)
def XM:Op→Bool
 |.defer _=>true
 |_=>false
def yX(ops:Array Oper)(d8:List (Nat×Nat))(alone:Nat→Bool):Bool:=
 let B:=Ly ops.toList []
 (List.range ops.size).all fun j=>match ops[j]? with
  |none=>false
  |some y=> !XM y.op&&y.after.toList.all (fun e=> !Region.binds .any e||Nat.blt e.on j)&&
   (List.range j).all (fun i=>match ops[i]? with
    |none=>false
    |some x=>(qF B i j||e9 ops d8 x y i j)&&(!(alone i||alone j)||qF B i j))
structure R0(ops:Array Oper)(d8:List (Nat×Nat))(alone:Nat→Bool):Prop where
 noDef: ∀(j:Nat) (y:Oper),ops[j]? =some y→ ∀c,y.op≠ .defer c
 back: ∀(j:Nat) (y:Oper),ops[j]? =some y→ ∀e∈y.after,Region.binds .any e=true→e.on<j
 pair: ∀(i j:Nat) (x y:Oper),i<j→ops[i]? =some x→ops[j]? =some y→qF (Ly ops.toList []) i j=true∨
  (ZD ops x y=true∧(j9 x.op y.op=true∨(i,j)∈d8))
 alone: ∀(i j:Nat) (x y:Oper),i<j→ops[i]? =some x→ops[j]? =some y→(alone i=true∨alone j=true)→qF (Ly ops.toList []) i j=true
theorem iL{ops:Array Oper}{d8:List (Nat×Nat)}(h:yX ops d8 alone=true):R0 ops d8 alone:=by
 unfold yX at h;have each: ∀(j:Nat) (y:Oper),ops[j]? =some y→XM y.op=false∧(∀e∈y.after,Region.binds .any e=true→e.on<j)∧
  ∀(i:Nat) (x:Oper),i<j→ops[i]? =some x→(qF (Ly ops.toList []) i j||e9 ops d8 x y i j)=true∧(!(alone i||alone j)||qF (Ly ops.toList []) i j)=true:=by
  intro j y hy;have hlt:j<ops.size:=(IS.1 hy).1;have:=DO.1 h j (Ok.2 hlt);simp only[hy,AP,HU]at this;obtain⟨⟨h1,h2⟩,h3⟩:=this;refine⟨h1,fun e he hb=>?_,fun i x hi hx=>?_⟩
  .have:=DO.1 h2 e (by simpa using he);simpa[hb,TO]using this
  .have:=DO.1 h3 i (Ok.2 hi);simp only[hx,AP]at this;exact this
 refine⟨fun j y hy c hc=>?_,fun j y hy=>(each j y hy).2.1,fun i j x y hij hx hy=>?_,fun i j x y hij hx hy ha=>?_⟩
 .have:=(each j y hy).1;simp[hc,XM]at this
 .have:=((each j y hy).2.2 i x hij hx).1;rw[I3]at this;refine this.imp (fun h=>h) fun h=>?_;unfold e9 at h;simp only[AP,I3,S1]at h;refine⟨h.1,h.2.imp (fun h=>h) ?_⟩;rintro⟨p,hp,h1,h2⟩;have e1:=D3 h1;have e2:=D3 h2;rw[←e1,←e2];exact hp
 .have:=((each j y hy).2.2 i x hij hx).2;rcases ha with ha|ha<;>simpa[ha]using this
theorem Ta{C:Cj}{K:AO}{fr:Fr}{ops:Array Oper}{b:Nat}{alone:Nat→Bool}:
 ∀(l:List Oper) (i:Nat) (st st':St) (fps:List Fp) (out:Option AV),i≤ops.size→ops.toList.drop i=l→DB C K fr ops b alone l i st=.ok ((out,st'),fps)→
  ∃(S:Nat→St) (F:Nat→Fp) (m:Nat),i≤m∧m≤ops.size∧S i=st∧
   (∀k,i≤k→k<m→ ∃o,ops[k]? =some o∧CY C K fr ops ((b+k)::fr.π) o (S k)=.ok (S (k+1)) (F k)∧fps[k-i]? =some (F k))∧
   ((out=none∧m=ops.size∧S m=st')∨ ∃v o,out=some v∧m<ops.size∧alone m=true∧ops[m]? =some o∧CY C K fr ops ((b+m)::fr.π) o (S m)=.f9 v st')
 |[],i,st,st',fps,out,hle,hl,hr=>by
  simp only[DB,E.ok.injEq,F1]at hr;obtain⟨⟨rfl,rfl⟩,rfl⟩:=hr;have hge:ops.size≤i:=by
   have:=congrArg List.length hl;simp at this;omega
  exact⟨fun _=>st,fun _=>{},i,EX _,hle,rfl,fun k h1 h2=>by omega,.inl ⟨rfl,by omega,rfl⟩⟩
 |o::l,i,st,st',fps,out,hle,hl,hr=>by
  have hi:ops[i]? =some o:=by
   have:=congrArg (fun x:List Oper=>x[0]?) hl;simpa using this
  have hlt:i<ops.size:=(IS.1 hi).1;have hl':ops.toList.drop (i+1)=l:=by
   have:=congrArg List.tail hl;simpa[List.tail_drop]using this
  simp only[DB,Ho]at hr;split at hr
  .rename_i st1 fp hs;cases hrest:DB C K fr ops b alone l (i+1) st1 with
   |err e=>rw[hrest]at hr;cases hr
   |ok r=>
    rw[hrest]at hr;obtain⟨⟨out',st2⟩,fps'⟩:=r;simp only[Wv,E.ok.injEq,F1]at hr;obtain⟨⟨rfl,rfl⟩,rfl⟩:=hr;obtain⟨S,F,m,h1,h2,h3,h4,h5⟩:=Ta l (i+1) st1 st2 fps' out' hlt hl' hrest;refine⟨fun k=>if k=i then st else S k,fun k=>if k=i then fp else F k,m,by omega,h2,D0 rfl,fun k hk1 hk2=>?_,?_⟩
    .by_cases e:k=i
     .subst e;refine⟨o,hi,?_,by simp⟩;simp only[F2,CI (show¬k+1=k by omega),h3];exact hs
     .obtain⟨o',g1,g2,g3⟩:=h4 k (by omega) hk2;refine⟨o',g1,?_,?_⟩
      .simp only[CI e,CI (show¬k+1=i by omega)];exact g2
      .rw[show k-i=(k-(i+1))+1 by omega];simp only[CI e,F6];exact g3
    .simp only[CI (show¬m=i by omega)];exact h5
  .rename_i v st1 hs;split at hr
   .rename_i ha;simp only[E.ok.injEq,F1]at hr;obtain⟨⟨rfl,rfl⟩,rfl⟩:=hr;exact⟨fun _=>st,fun _=>{},i,EX _,hle,rfl,fun k h1 h2=>by omega,.inr ⟨v,o,rfl,hlt,ha,hi,hs⟩⟩
   .cases hr
  .cases hr
section mixed
variable(ops:Array Oper)(S:Nat→St)(F:Nat→Fp)
def JT(D:Nat→Bool):Nat→Nat→AV
 |0=>(S 0).env.get
 |k+1=>fun t=>if D k=true∧HK ops k=some t then(S (k+1)).env.get t else JT D k t
def HN(D:Nat→Bool):Nat→G
 |0=>(S 0).heap.get
 |k+1=>fun id=>if D k=true then ii (F k).wr (S (k+1)).heap.get (HN D k) id else HN D k id
def X7(wr:Option (List Id))(id:Id):Prop:= ∃l,wr=some l∧id∉l
end mixed
variable{ops:Array Oper}{S:Nat→St}{F:Nat→Fp}{D:Nat→Bool}
variable{t:Tmp}
theorem Rf{m:Nat}(hS: ∀k,k<m→ ∃v,(S (k+1)).env=Ch (S k).env (HK ops k) v): ∀{i:Nat},i≤m→(∀j,j<i→HK ops j=some t→D j=true)→JT ops S D i t=(S i).env.get t
 |0,_,_=>rfl
 |i+1,hi,h=>by
  simp only[JT];split
  .rfl
  .rename_i hn;obtain⟨v,hv⟩:=hS i hi;have hne:HK ops i≠some t:=fun e=>hn ⟨h i (by omega) e,e⟩;rw[Rf hS (by omega) fun j hj=>h j (by omega),hv,bG];unfold QW;split
   .rename_i d hd;have:d≠t:=fun e=>hne (e▸hd);simp[this]
   .rfl
theorem Sc{i:Nat}: ∀{n:Nat},(∀j,i≤j→j<i+n→HK ops j=some t→D j=false)→JT ops S D (i+n) t=JT ops S D i t
 |0,_=>rfl
 |n+1,h=>by
  rw[←RG];simp only[JT];rw[CI (by rintro⟨h1,h2⟩;rw[h (i+n) (by omega) (by omega) h2]at h1;cases h1)];exact Sc fun j h1 h2=>h j h1 (by omega)
theorem GI{wr:Option (List Id)}{id:Id}(h:X7 wr id)(new old:G):ii wr new old id=old id:=by
 obtain⟨l,rfl,hl⟩:=h;simp[ii,hl]
theorem Xu(wr:Option (List Id))(id:Id):X7 wr id∨ ∀new old:G,ii wr new old id=new id:=by
 cases wr with
 |none=>exact .inr fun _ _=>rfl
 |some l=>
  by_cases h:id∈l
  .exact .inr fun _ _=>by simp[ii,h]
  .exact .inl ⟨l,rfl,h⟩
theorem PC{m:Nat}{id:Id}(hS: ∀k,k<m→ii (F k).wr (S (k+1)).heap.get (S k).heap.get id=(S (k+1)).heap.get id): ∀{i:Nat},i≤m→(∀j,j<i→D j=false→X7 (F j).wr id)→HN S F D i id=(S i).heap.get id
 |0,_,_=>rfl
 |i+1,hi,h=>by
  have ih:=PC hS (i:=i) (by omega) fun j hj=>h j (by omega);have hs:=hS i hi;simp only[HN];split
  .rcases Xu (F i).wr id with hn|hw
   .rw[GI hn,ih,←hs,GI hn]
   .exact hw _ _
  .rename_i hD;have hn:=h i (by omega) (by simpa using hD);rw[ih,←hs,GI hn]
theorem NB{id:Id}{i:Nat}: ∀{n:Nat},(∀j,i≤j→j<i+n→D j=true→X7 (F j).wr id)→HN S F D (i+n) id=HN S F D i id
 |0,_=>rfl
 |n+1,h=>by
  rw[←RG];simp only[HN];split
  .rename_i hD;rw[GI (h (i+n) (by omega) (by omega) hD)];exact NB fun j h1 h2=>h j h1 (by omega)
  .exact NB fun j h1 h2=>h j h1 (by omega)
def Np(D:Nat→Bool)(i:Nat):Nat→Bool:=fun k=>D k||Nat.beq k i
theorem JA(D:Nat→Bool)(i:Nat):Np D i i=true:=by simp[Np]
theorem Ij(D:Nat→Bool){i k:Nat}(h:k≠i):Np D i k=D k:=by simp[Np,h]
theorem Nx{i:Nat}{t:Tmp}(h:HK ops i≠some t): ∀n,JT ops S (Np D i) n t=JT ops S D n t
 |0=>rfl
 |n+1=>by
  simp only[JT,Nx h n];by_cases e:n=i
  .subst e;simp[h]
  .rw[Ij D e]
theorem J2{i:Nat}{id:Id}(h:X7 (F i).wr id)(hi:D i=false): ∀n,HN S F (Np D i) n id=HN S F D n id
 |0=>rfl
 |n+1=>by
  simp only[HN];by_cases e:n=i
  .subst e;rw[JA,hi];simp only[F2,El,AM];rw[GI h];exact J2 h hi n
  .rw[Ij D e];rcases Xu (F n).wr id with hn|hw
   .rw[GI hn,GI hn,J2 h hi n]
   .rw[hw,hw,J2 h hi n]
theorem P6{i:Nat}(hi:D i=false): ∀{n:Nat},i<n→((List.range n).countP fun k=> !Np D i k)<(List.range n).countP fun k=> !D k
 |0,h=>by omega
 |n+1,h=>by
  have mono: ∀n,((List.range n).countP fun k=> !Np D i k)≤(List.range n).countP fun k=> !D k:=fun n=>
   List.countP_mono_left fun k _ hk=>by
    simp only[Np,Bool.not_or,AP]at hk;exact hk.1
  simp only[List.range_succ,List.countP_append,List.countP_singleton];by_cases e:n=i
  .subst e;rw[JA,hi];have:=mono n;simp;omega
  .rw[Ij D e];have:=P6 hi (show i<n by omega);omega
variable{A:Nat→Prop}{P:Program}{mix:List TypeId}{β β' β'':Aw}{w w' w'':World}{M:Nat→Prop}{h h' h'':AD}{π ρ:List Nat}{ce:Option (List Nat)}{nt:NT}{env:Nat→AV}{defs defs':List Df}{a:Act}{ro:Option Nat}{W:Lp→Prop}
def sW(x:Option (List Id))(id:Id):Prop:=x=none∨ ∃l,x=some l∧id∈l
theorem ACj(x:Option (List Id))(id:Id):X7 x id∨sW x id:=by
 cases x with
 |none=>exact .inr (.inl rfl)
 |some l=>
  by_cases h:id∈l
  .exact .inr (.inr ⟨l,rfl,h⟩)
  .exact .inl ⟨l,rfl,h⟩
variable{x y:Option (List Id)}
theorem SA(h:apart x y=true){id:Id}(hx:sW x id):X7 y id:=by
 unfold apart at h;split at h
 .rcases hx with hx|⟨l,hl,hi⟩
  .cases hx
  .cases hl;cases hi
 .exact⟨[],rfl,by simp⟩
 .rename_i l m _ _;rcases hx with hx|⟨l',hl,hi⟩
  .cases hx
  .cases hl;refine⟨m,rfl,fun hm=>?_⟩;have:=DO.1 h id hi;simp at this;exact this hm
 .cases h
theorem YI(h:apart x y=true){id:Id}(hy:sW y id):X7 x id:=by
 unfold apart at h;split at h
 .exact⟨[],rfl,by simp⟩
 .rcases hy with hy|⟨l,hl,hi⟩
  .cases hy
  .cases hl;cases hi
 .rename_i l m _ _;rcases hy with hy|⟨l',hl,hi⟩
  .cases hy
  .cases hl;refine⟨l,rfl,fun hm=>?_⟩;have:=DO.1 h id hm;simp at this;exact this hi
 .cases h
theorem AD0{rd:Option (List Id)}{g g2:G}(h: ∀id,sW rd id→g id=g2 id):jC rd g g2:=by
 cases rd with
 |none=>exact fun id=>h id (.inl rfl)
 |some l=>exact fun id hi=>h id (.inr ⟨l,rfl,hi⟩)
theorem Lv(y:Option (List Id)):apart (some []) y=true:=rfl
theorem Lx(x:Option (List Id)):apart x (some [])=true:=by
 cases x with
 |none=>rfl
 |some l=>cases l<;>rfl
theorem br{C:Cj}{K:AO}{fr:Fr}{ops:Array Oper}{x y:Oper}{s1 s2 s1' s2':St}{a b:Fp}{ρ1 ρ2:List Nat}(h:j9 x.op y.op=true)(hx:CY C K fr ops ρ1 x s1=.ok s1' a)(hy:CY C K fr ops ρ2 y s2=.ok s2' b):
 a.apart b=true:=by
 obtain⟨x1,x2⟩:=V8 hx;obtain⟨y1,y2⟩:=V8 hy;unfold j9 at h;simp only[AP,I3]at h;obtain⟨⟨h1,h2⟩,h3⟩:=h;unfold Fp.apart;simp only[AP];refine⟨⟨?_,?_⟩,?_⟩
 .rcases h1 with h|h
  .rw[x2 h];exact Lv _
  .rw[y1 h];exact Lx _
 .rcases h2 with h|h
  .rw[x1 h];exact Lv _
  .rw[y2 h];exact Lx _
 .rcases h3 with h|h
  .rw[x2 h];exact Lv _
  .rw[y2 h];exact Lx _
variable{o:Oper}
theorem Nw{ops:Array Oper}{i:Nat}(h:ops[i]? =some o):HK ops i=o.dst:=by simp[HK,h]
def KG(ops:Array Oper)(D:Nat→Bool):Prop:= ∀(j:Nat) (y:Oper),ops[j]? =some y→D j=true→ ∀e∈y.after,Region.binds .any e=true→D e.on=true
variable{d8:List (Nat×Nat)}{alone:Nat→Bool}
theorem JO{ops:Array Oper}{D:Nat→Bool}(hreg:R0 ops d8 alone)(hc:KG ops D): ∀(j:Nat),D j=true→ ∀i,qF (Ly ops.toList []) i j=true→j<ops.size→D i=true:=by
 intro j;induction j using Nat.strongRecOn with
 |_ j ih=>
  intro hj i ho hlt;have hy:ops[j]? =some ops[j]:=D8 hlt;obtain⟨e,he,hb,h1⟩:=aB hy ho;have hd:=hc j _ hy hj e he hb;have hl:=hreg.back j _ hy e he hb;rcases h1 with rfl|h1
  .exact hd
  .exact ih e.on hl hd i h1 (by omega)
theorem NR{ops:Array Oper}{D:Nat→Bool}(hreg:R0 ops d8 alone)(hc:KG ops D){i:Nat}(hi:ops[i]? =some o)(hr: ∀e∈o.after,Region.binds .any e=true→D e.on=true)
 {j:Nat} (ho:qF (Ly ops.toList []) j i=true):D j=true:=by
 obtain⟨e,he,hb,h1⟩:=aB hi ho;have hd:=hr e he hb;have hl:=hreg.back i _ hi e he hb;have hlt:i<ops.size:=(IS.1 hi).1;rcases h1 with rfl|h1
 .exact hd
 .exact JO hreg hc e.on hd j h1 (by omega)
structure Run(W:Lp→Prop)(C:Cj)(K:AO)(fr:Fr)(ops:Array Oper)(b:Nat)(d8:List (Nat×Nat))(alone:Nat→Bool)(S:Nat→St)(F:Nat→Fp)(m:Nat):Prop where
 le:m≤ops.size
 step: ∀k,k<m→ ∃o,ops[k]? =some o∧CY C K fr ops ((b+k)::fr.π) o (S k)=.ok (S (k+1)) (F k)
 env: ∀k,k<m→ ∃v,(S (k+1)).env=Ch (S k).env (HK ops k) v
 ii: ∀id k,k<m→ii (F k).wr (S (k+1)).heap.get (S k).heap.get id=(S (k+1)).heap.get id
 defs: ∀k,k≤m→(S k).defs=(S 0).defs
 lw: ∀k,k≤m→LW W (S k).heap
 base: ∀k,k≤m→(S k).base=(S 0).base
 apart: ∀(i j:Nat),i<j→j<m→qF (Ly ops.toList []) i j=true∨(F i).apart (F j)=true
variable{C:Cj}{K:AO}{fr:Fr}{ops:Array Oper}{b m:Nat}{d8:List (Nat×Nat)}{alone:Nat→Bool}{S:Nat→St}{F:Nat→Fp}{D:Nat→Bool}
variable{fps:List Fp}
theorem AFj(hC:Ll P mix C)(hT:DI P W K)(hro:fr.wp=false→ro=none)(hreg:R0 ops d8 alone)(hds: ∀o∈ops,∀d,o.dst=some d→d<nt.n)(hp:Dp fps d8=true)(hle:m≤ops.size)(hL:LW W (S 0).heap)
 (hst: ∀k,k<m→ ∃o,ops[k]? =some o∧CY C K fr ops ((b+k)::fr.π) o (S k)=.ok (S (k+1)) (F k)∧fps[k]? =some (F k)):Run W C K fr ops b d8 alone S F m:=by
 have hlw: ∀k,k≤m→LW W (S k).heap:=by
  intro k;induction k with
  |zero=>intro _;exact hL
  |succ k ih=>
   intro hk;obtain⟨o,h1,h2,h3⟩:=hst k hk;exact V9 hT (ih (by omega)) h2
 have hone: ∀k,k<m→(∃v,(S (k+1)).env=Ch (S k).env (HK ops k) v)∧(S (k+1)).base=(S k).base∧(S (k+1)).defs=(S k).defs:=by
  intro k hk;obtain⟨o,h1,h2,h3⟩:=hst k hk;obtain⟨v,h2',e1,e2,_⟩:=Qg (ro:=ro) hC hT hro h1 (hlw k (by omega)) h2 (env2:=(S k).env.get) (h2:=(S k).heap) (fun _ _=>rfl) rfl (jC.refl _ _) hds;exact⟨⟨v,by rw[Nw h1];exact e1⟩,e2,(OV h2).2 (hreg.noDef k o h1)⟩
 have hdef: ∀k,k≤m→(S k).defs=(S 0).defs:=by
  intro k;induction k with
  |zero=>intro _;rfl
  |succ k ih=>intro hk;rw[(hone k hk).2.2,ih (by omega)]
 have hbase: ∀k,k≤m→(S k).base=(S 0).base:=by
  intro k;induction k with
  |zero=>intro _;rfl
  |succ k ih=>intro hk;rw[(hone k hk).2.1,ih (by omega)]
 refine⟨hle,fun k hk=>let ⟨o,h1,h2,_⟩:=hst k hk;⟨o,h1,h2⟩,fun k hk=>(hone k hk).1,fun id k hk=>?_,hdef,hlw,hbase,fun i j hij hj=>?_⟩
 .obtain⟨o,h1,h2,h3⟩:=hst k hk;exact(OV h2).1 id
 .obtain⟨x,x1,x2,x3⟩:=hst i (by omega);obtain⟨y,y1,y2,y3⟩:=hst j hj;refine(hreg.pair i j x y hij x1 y1).imp (fun h=>h) ?_;rintro⟨_,h|h⟩
  .exact br h x2 y2
  .have:=DO.1 hp (i,j) h;simpa[x3,y3]using this
theorem Z2(R:Run W C K fr ops b d8 alone S F m)(hreg:R0 ops d8 alone)(hc:KG ops D)(hD: ∀k,D k=true→k<m){i:Nat}{o:Oper}(hi:ops[i]? =some o)(him:i≤m)(hDi:D i=false)
 (hr: ∀e∈o.after,Region.binds .any e=true→D e.on=true) {t:Tmp} (ht:t∈NM ops o):JT ops S D m t=(S i).env.get t:=by
 obtain⟨n,rfl⟩: ∃n,m=i+n:=⟨m-i,by omega⟩;have hlt:i<ops.size:=(IS.1 hi).1;rw[Sc (fun j h1 h2 h3=>?_),Rf R.env him fun j hj h3=>?_]
 ·
  have hjs:j<ops.size:=by omega
  have hx:ops[j]? =some ops[j]:=D8 hjs;rcases hreg.pair j i _ o hj hx hi with h|⟨h,_⟩
  .exact NR hreg hc hi hr h
  .unfold ZD at h;simp only[AP]at h;rw[Nw hx]at h3;exact absurd ht (MW h.1 h3)
 ·
  cases hDj:D j with
  |false=>rfl
  |true=>
   exfalso;by_cases e:j=i
   .subst e;rw[hDi]at hDj;cases hDj
   have hjs:j<ops.size:=by have:=hD j hDj;have:=R.le;omega
   have hy:ops[j]? =some ops[j]:=D8 hjs;rcases hreg.pair i j o _ (by omega) hi hy with h|⟨h,_⟩
   .have:=JO hreg hc j hDj i h hjs;rw[hDi]at this;cases this
   .unfold ZD at h;simp only[AP]at h;rw[Nw hy]at h3;exact absurd ht (MW h.2 h3)
theorem AFb(R:Run W C K fr ops b d8 alone S F m)(hreg:R0 ops d8 alone)(hc:KG ops D)(hD: ∀k,D k=true→k<m){i:Nat}(hi:ops[i]? =some o)(him:i≤m)(hDi:D i=false)
 (hr: ∀e∈o.after,Region.binds .any e=true→D e.on=true):KT (S i).env.get (JT ops S D m) o.op∧LJ ops (JT ops S D m) o=LJ ops (S i).env.get o:=by
 refine⟨fun x hx=>?_,?_⟩
 .cases x with
  |tmp t=>
   refine(Z2 R hreg hc hD hi him hDi hr ?_).symm;unfold NM;refine Ge _ (Gs _ ?_);exact List.mem_filterMap.2 ⟨.tmp t,by simpa using hx,rfl⟩
  |_=>rfl
 .unfold LJ;cases hg:o.guard with
  |none=>rfl
  |some p=>
   obtain⟨j,want⟩:=p;simp only;have e:((ops[j]?).bind fun x=>x.dst)=HK ops j:=rfl;rw[e];cases hd:HK ops j with
   |none=>rfl
   |some t=>
    simp only[Es];rw[Z2 R hreg hc hD hi him hDi hr (t:=t) (by
     unfold NM;refine Gs _ ?_;simp[Zb,hg,hd])]
theorem AA7(R:Run W C K fr ops b d8 alone S F m)(hreg:R0 ops d8 alone)(hc:KG ops D)(hD: ∀k,D k=true→k<m){i:Nat}{o:Oper}(hi:ops[i]? =some o)(him:i<m)(hDi:D i=false)
 (hr: ∀e∈o.after,Region.binds .any e=true→D e.on=true) {id:Id} (ht:sW (F i).rd id):HN S F D m id=(S i).heap.get id:=by
 obtain⟨n,rfl⟩: ∃n,m=i+n:=⟨m-i,by omega⟩;rw[NB (fun j h1 h2 h3=>?_),PC (R.ii id) (by omega) fun j hj h3=>?_]
 .rcases R.apart j i hj him with h|h
  .have:=NR hreg hc hi hr h;rw[this]at h3;cases h3
  .unfold Fp.apart at h;simp only[AP]at h;exact YI h.1.1 ht
 .by_cases e:j=i
  .subst e;rw[hDi]at h3;cases h3
  rcases R.apart i j (by omega) (hD j h3)with h|h
  .have:=JO hreg hc j h3 i h (by have:=hD j h3;have:=R.le;omega);rw[hDi]at this;cases this
  .unfold Fp.apart at h;simp only[AP]at h;exact SA h.1.2 ht
theorem AAN(R:Run W C K fr ops b d8 alone S F m)(hreg:R0 ops d8 alone)(hc:KG ops D)(hD: ∀k,D k=true→k<m){i:Nat}{o:Oper}(hi:ops[i]? =some o)(him:i<m)(hDi:D i=false){v:AV}
 (hv:(S (i+1)).env=Ch (S i).env o.dst v):QW (JT ops S D m) o.dst v=JT ops S (Np D i) m:=by
 funext t;cases hd:o.dst with
 |none=>
  simp only[QW];exact(Nx (by rw[Nw hi,hd];simp) m).symm
 |some d=>
  simp only[QW];by_cases e:d=t
  .subst e;rw[D0 rfl];obtain⟨n,rfl⟩: ∃n,m=(i+1)+n:=⟨m-(i+1),by omega⟩;rw[Sc (fun j h1 h2 h3=>?_)]
   .simp only[JT,JA,Nw hi,hd,and_self,F2];rw[hv,hd];simp[Ch,Bn.get_cons]
   .rw[Ij D (by omega)];cases hDj:D j with
    |false=>rfl
    |true=>
     exfalso;have hjs:j<ops.size:=by have:=hD j hDj;have:=R.le;omega
     have hy:ops[j]? =some ops[j]:=D8 hjs;rcases hreg.pair i j o _ (by omega) hi hy with h|⟨h,_⟩
     .have:=JO hreg hc j hDj i h hjs;rw[hDi]at this;cases this
     .unfold ZD at h;simp only[AP]at h;rw[Nw hy]at h3;refine absurd ?_ (MW h.2 h3);unfold NM;exact Ge _ (Ge _ (by simp[hd]))
  .rw[CI e];exact(Nx (by rw[Nw hi,hd];simpa using e) m).symm
theorem vf(R:Run W C K fr ops b d8 alone S F m)(hreg:R0 ops d8 alone)(hc:KG ops D)(hD: ∀k,D k=true→k<m){i:Nat}(him:i<m)(hDi:D i=false)(id:Id):
 ii (F i).wr (S (i+1)).heap.get (HN S F D m) id=HN S F (Np D i) m id:=by
 rcases ACj (F i).wr id with hn|hh
 .rw[GI hn,J2 hn hDi]
 .have hu: ∀new old:G,ii (F i).wr new old id=new id:=by
   rcases Xu (F i).wr id with hn|h
   .obtain⟨l,h1,h2⟩:=hn;rcases hh with h3|⟨l',h3,h4⟩
    .rw[h1]at h3;cases h3
    .rw[h1]at h3;cases h3;exact absurd h4 h2
   .exact h
  rw[hu];obtain⟨n,rfl⟩: ∃n,m=(i+1)+n:=⟨m-(i+1),by omega⟩;rw[NB (fun j h1 h2 h3=>?_)]
  .simp only[HN,JA,F2];rw[hu]
  .rw[Ij D (by omega)]at h3;rcases R.apart i j (by omega) (hD j h3)with h|h
   .have:=JO hreg hc j h3 i h (by have:=hD j h3;have:=R.le;omega);rw[hDi]at this;cases this
   .unfold Fp.apart at h;simp only[AP]at h;exact SA h.2 hh
theorem cq(hc:KG ops D){i:Nat}{o:Oper}(hi:ops[i]? =some o)(hr: ∀e∈o.after,Region.binds .any e=true→D e.on=true):KG ops (Np D i):=by
 intro j y hy hj e he hb;have up:D e.on=true→Np D i e.on=true:=fun h=>by simp[Np,h]
 by_cases ej:j=i
 .subst ej;rw[hi]at hy;cases hy;exact up (hr e he hb)
 .rw[Ij D ej]at hj;exact up (hc j y hy hj e he hb)
structure zf(P:Program)(C:Cj)(K:AO)(fr:Fr)(nt:NT)(ops:Array Oper)(b m:Nat)(S:Nat→St)(F:Nat→Fp)(A:Nat→Prop)(β0:Aw)(w0:World)(D:Nat→Bool)(listed:Array Bool)(β:Aw)(w:World)(a:Act)(hc:AD):Prop where
 closed:KG ops D
 lt: ∀k,D k=true→k<m
 size:listed.size=ops.size
 list: ∀k,k<ops.size→listed[k]? =some (D k)
 heap: ∀id,hc.get id=HN S F D m id
 s:Ld A β w nt (JT ops S D m) (S 0).defs hc a
 lc:Bp A fr.ce fr.π β0 w0 (S 0).heap β w hc
 fresh: ∀i,i<ops.size→D i=false→E9 β ((b+i)::fr.π)
 freshFrom:CN β fr.π (b+ops.size)
theorem AD5(hC:Ll P mix C)(hT:DI P W K)(hro:fr.wp=false→ro=none)(hreg:R0 ops d8 alone)(hds: ∀o∈ops,∀d,o.dst=some d→d<nt.n)(R:Run W C K fr ops b d8 alone S F m){st':St}{out:Option AV}
 (hend:(out=none∧m=ops.size∧S m=st')∨ ∃v o,out=some v∧m<ops.size∧alone m=true∧ops[m]? =some o∧CY C K fr ops ((b+m)::fr.π) o (S m)=.f9 v st') {β0:Aw} {w0:World}:
 ∀(fuel:Nat) (D:Nat→Bool) (listed:Array Bool) (β:Aw) (w:World) (a:Act) (hc:AD),zf P C K fr nt ops b m S F A β0 w0 D listed β w a hc→((List.range ops.size).countP fun k=> !D k)≤fuel→
  wpAnyIn (FF ro) 0 P .any ops (X9 A fr.ce fr.π nt β0 w0 (S 0).heap out st' (b+ops.size)) fuel listed a w:=by
 have fin: ∀{D:Nat→Bool} {listed:Array Bool} {β:Aw} {w:World} {a:Act} {hc:AD},zf P C K fr nt ops b m S F A β0 w0 D listed β w a hc→(∀k,k<ops.size→D k=true)→
  X9 A fr.ce fr.π nt β0 w0 (S 0).heap out st' (b+ops.size) .normal a w:=by
  intro D listed β w a hc M hall;rcases hend with⟨rfl,hm,rfl⟩|⟨v,o,_,hm,_⟩
  .have he:JT ops S D m=(S m).env.get:=by
    funext t;exact Rf R.env (EX _) fun j hj _=>hall j (by omega)
   have hh: ∀id,hc.get id=(S m).heap.get id:=fun id=>by
    rw[M.heap];exact PC (R.ii id) (EX _) fun j hj h=>by rw[hall j (by omega)]at h;cases h
   refine⟨rfl,β,⟨M.lc.out,M.lc.hr.congr hh,by rw[←MS.congr hh];exact M.lc.ip,fun ρ h1 h2=>?_⟩,?_,M.freshFrom⟩
   .obtain⟨k1,k2,k3⟩:=M.lc.kept ρ h1 h2;exact⟨k1,k2,fun id hid=>by rw[←hh];exact k3 id hid⟩
   .rw[R.defs m (EX _),←he];exact M.s.congr hh
  .have:=M.lt m (hall m hm);omega
 have more: ∀{D:Nat→Bool} {listed:Array Bool} {β:Aw} {w:World} {a:Act} {hc:AD},zf P C K fr nt ops b m S F A β0 w0 D listed β w a hc→Region.ready .any ops listed=[]→ ∀k,k<ops.size→D k=true:=by
  intro D listed β w a hc M hnil k;induction k using Nat.strongRecOn with
  |_ k ih=>
   intro hk;cases hDk:D k with
   |true=>rfl
   |false=>
    exfalso;have hy:ops[k]? =some ops[k]:=D8 hk;have:k∈Region.ready .any ops listed:=by
     unfold Region.ready;refine QR.2 ⟨Ok.2 hk,?_⟩;simp only[hy,Es,F4,AP,HU];refine⟨by rw[F8,M.list k hk,hDk];rfl,?_⟩;rw[Array.all_eq_true_iff_forall_mem];intro e he;cases hb:Region.binds .any e with
     |false=>rfl
     |true=>
      have hl:=hreg.back k _ hy e he hb;simp only[OS,Ip];rw[F8,M.list e.on (by omega),ih e.on hl (by omega)];rfl
    rw[hnil]at this;cases this
 intro fuel;induction fuel with
 |zero=>
  intro D listed β w a hc M hcount;have hall: ∀k,k<ops.size→D k=true:=by
   intro k hk;cases hDk:D k with
   |true=>rfl
   |false=>
    have:=P6 hDk hk;omega
  refine⟨?_,fin M hall⟩;cases hrd:Region.ready .any ops listed with
  |nil=>rfl
  |cons k l=>
   exfalso;have:k∈Region.ready .any ops listed:=by rw[hrd];simp
   obtain⟨h1,h2⟩:=QR.1 this;have hk:=Ok.1 h1;simp only[AP,HU]at h2;have h3:=h2.1;rw[F8,M.list k hk,hall k hk]at h3;cases h3
 |succ fuel ih=>
  intro D listed β w a hc M hcount;refine⟨fun hnil=>fin M (more M hnil),fun i hi=>?_⟩;obtain⟨h1,h2⟩:=QR.1 hi;have hlt:=Ok.1 h1;have hy:ops[i]? =some ops[i]:=D8 hlt;generalize ops[i]=o at hy;simp only[hy,Es,F4,AP,HU]at h2;have hDi:D i=false:=by
   have h3:=h2.1;rw[F8,M.list i hlt]at h3;simpa using h3
  have hr: ∀e∈o.after,Region.binds .any e=true→D e.on=true:=by
   intro e he hb;have h3:=(Array.all_eq_true_iff_forall_mem.1 h2.2) e he;have hl:=hreg.back i _ hy e he hb;rw[hb]at h3;simp only[OS,Ip]at h3;rw[F8,M.list e.on (by omega)]at h3;simpa using h3
  have him:i≤m:=by
   rcases hend with⟨_,hm,_⟩|⟨v,x,_,hm,hal,hx,_⟩
   .omega
   .by_cases e:i≤m
    .exact e
    .exfalso;have:=NR hreg M.closed hy hr (hreg.alone m i x o (by omega) hx hy (.inl hal));have:=M.lt m this;omega
  obtain⟨hops,hgd⟩:=AFb R hreg M.closed M.lt hy him hDi hr;by_cases hm:i<m
  .obtain⟨o',ho',hs⟩:=R.step i hm;rw[hy]at ho';cases ho';have hag:jC (F i).rd (S i).heap.get hc.get:=AD0 fun id hid=>by
    rw[M.heap,AA7 R hreg M.closed M.lt hy hm hDi hr hid]
   obtain⟨v,h2',e1,e2,e3,e4⟩:=Qg (ro:=ro) hC hT hro hy (R.lw i him) hs hops hgd hag hds;have s':Ld A β w nt (JT ops S D m) (S i).defs hc a:=by rw[R.defs i him];exact M.s
   refine e4 A β w a M.lc.hr (M.fresh i hlt hDi) s' _ _ fun a1 w1 ⟨β1,g1,s1⟩=>?_;rw[AAN R hreg M.closed M.lt hy hm hDi e1,R.defs (i+1) hm]at s1;have hcnt:=P6 hDi hlt;refine ih (Np D i) _ β1 w1 a1 h2' ⟨cq M.closed hy hr,fun k hk=>?_,by simp[M.size],fun k hk=>?_,fun id=>?_,s1,M.lc.trans (g1.up (Ex _ _)),fun k hk hDk=>?_,?_⟩ (by omega)
   .by_cases e:k=i
    .omega
    .rw[Ij D e]at hk;exact M.lt k hk
   .by_cases e:k=i
    .subst e;rw[JA];simp[M.size,hlt]
    .rw[Ij D e,Ii (Ne.symm e)];exact M.list k hk
   .rw[e3,←vf R hreg M.closed M.lt hm hDi id];rcases Xu (F i).wr id with hn|hw
    .rw[GI hn,GI hn,M.heap]
    .rw[hw,hw]
   .by_cases e:k=i
    .subst e;rw[JA]at hDk;cases hDk
    .rw[Ij D e]at hDk;exact(M.fresh k hk hDk).other (by omega) g1.out
   .exact fun n hn=>(M.freshFrom n hn).other (by omega) g1.out
  ·
   have him':i=m:=by omega
   subst him';rcases hend with⟨_,hm',_⟩|⟨v,x,rfl,hm',hal,hx,hpan⟩
   .omega
   .rw[hy]at hx;cases hx;have hall: ∀j,j<i→D j=true:=fun j hj=>by
     have hjs:j<ops.size:=by omega
     exact NR hreg M.closed hy hr (hreg.alone j i _ o hj (D8 hjs) hy (.inr hal))
    have he:JT ops S D i=(S i).env.get:=by
     funext t;exact Rf R.env (EX _) fun j hj _=>hall j hj
    have hh: ∀id,(S i).heap.get id=hc.get id:=fun id=>by
     rw[M.heap];exact(PC (R.ii id) (EX _) fun j hj h=>by rw[hall j hj]at h;cases h).symm
    obtain⟨h2',e1,e2,e3,e4,e5⟩:=Tk (ro:=ro) hC hT hy (R.lw i him) hpan hops hgd hh hds;have s':Ld A β w nt (JT ops S D i) (S i).defs hc a:=by rw[R.defs i him];exact M.s
    refine e5 A β w a M.lc.hr (M.fresh i hlt hDi) s' _ _ fun a1 w1 u ⟨β1,g1,s1,hv⟩=>?_;have g:=M.lc.trans (g1.up (Ex _ _));refine⟨v,u,β1,rfl,rfl,⟨⟨g.out,g.hr.congr e4,by rw[←MS.congr e4];exact g.ip,fun ρ h1 h2=>?_⟩,?_,?_⟩,?_⟩
    .obtain⟨k1,k2,k3⟩:=g.kept ρ h1 h2;exact⟨k1,k2,fun id hid=>by rw[←e4];exact k3 id hid⟩
    .rw[e1,e3,←he];exact s1.congr e4
    .exact fun n hn=>(M.freshFrom n hn).other (by omega) g1.out
    .rw[←MS.congr e4];exact hv
theorem AAG(hC:Ll P mix C)(hT:DI P W K)(hro:fr.wp=false→ro=none)(hmix:P.follows .mixedOrders=true)(hreg:R0 ops d8 alone)(hds: ∀o∈ops,∀d,o.dst=some d→d<nt.n){id:Nat}{st st':St}{out:Option AV}(hL:LW W st.heap)
 (hr:DB C K fr ops b alone ops.toList 0 st=.ok ((out,st'),fps)) (hp:Dp fps d8=true):
 st'.base=st.base∧LW W st'.heap∧ ∀(A:Nat→Prop) (β:Aw) (w:World) (a:Act),HR A β w st.heap→Ld A β w nt st.env.get st.defs st.heap a→CN β fr.π b→
  (Code.region id ops true).wpIn (FF ro) 0 P (X9 A fr.ce fr.π nt β w st.heap out st' (b+ops.size)) a w:=by
 obtain⟨hb0,hL0,_⟩:=ez (ro:=ro) hC hT hro hds ops.toList 0 st st' fps out (I5 _) rfl hL hr;refine⟨hb0,hL0,fun A β w a H s hf=>?_⟩;obtain⟨S,F,m,h1,h2,rfl,h4,h5⟩:=Ta ops.toList 0 st st' fps out (I5 _) rfl hr;have R:Run W C K fr ops b d8 alone S F m:=AFj (ro:=ro) hC hT hro hreg hds hp h2 hL fun k hk=>h4 k (I5 _) hk;refine wpIn_region_any hmix ?_;have hw:({w with drawn:=w.drawn+1}:World).heap=w.heap:=rfl
 have H':=H.heap hw ⟨rfl,rfl⟩;have hpres:EG A (MS A β (S 0).heap) w (MS A β (S 0).heap) {w with drawn:=w.drawn+1}:=QV hw ⟨rfl,rfl⟩ _
 have e0:JT ops S (fun _=>false) m=(S 0).env.get:=by
  funext t;have: ∀n,JT ops S (fun _=>false) n t=(S 0).env.get t:=by
   intro n;induction n with
   |zero=>rfl
   |succ n ih=>simp[JT,ih]
  exact this m
 have h0: ∀id,(S 0).heap.get id=HN S F (fun _=>false) m id:=by
  intro id;have: ∀n,HN S F (fun _=>false) n id=(S 0).heap.get id:=by
   intro n;induction n with
   |zero=>rfl
   |succ n ih=>simp[HN,ih]
  exact(this m).symm
 refine AD5 hC hT hro hreg hds R h5 ops.size (fun _=>false) _ β _ a (S 0).heap ⟨fun _ _ _ h=>(by cases h),fun _ h=>(by cases h),by simp,fun k hk=>?_,h0,?_,?_,fun i _ _=>hf _ (by omega),hf.mono (by omega)⟩ ?_
 .simp[Array.getElem?_replicate,hk]
 .rw[e0];exact s.mono (.refl β) hpres
 .exact⟨fun _ _=>rfl,H',hpres,fun _ _ _=>⟨fun _ _ _=>rfl,fun _ h=>.inl h,fun _ _=>rfl⟩⟩
 .exact IP (List.countP_le_length) (by simp)
variable{A:Nat→Prop}{P:Program}{mix:List TypeId}{β β' β'':Aw}{w w' w'':World}{M:Nat→Prop}{h h' h'':AD}{π ρ:List Nat}{ce:Option (List Nat)}{nt:NT}{env:Nat→AV}{defs defs':List Df}{a:Act}{ro:Option Nat}{W:Lp→Prop}
theorem Ep: ∀{l:List Id} {n:Nat} {x z:Id},Dn π l n x=some z→ ∃j t,l[j]? =some x∧z=t::(n+j)::π
 |[],n,x,z,h=>by simp[Dn]at h
 |y::l,n,x,z,h=>by
  simp only[Dn]at h;split at h
  .rename_i e;rw[Id.is_iff]at e;subst e;simp only[CE]at h;exact⟨0,_,rfl,h.symm⟩
  .obtain⟨j,t,h1,h2⟩:=Ep h;exact⟨j+1,t,by simpa using h1,by rw[h2];congr 2;omega⟩
theorem MR{l:List Id}{x y z:Id}(h1:Dn π l 0 x=some z)(h2:Dn π l 0 y=some z):x=y:=by
 obtain⟨j,t,a1,a2⟩:=Ep h1;obtain⟨k,u,b1,b2⟩:=Ep h2;rw[a2]at b2;simp only[No,I4,and_true]at b2;rw[b2.2,b1]at a1;exact(MK a1).symm
theorem HB(ν:Id→Option Id)(vs:List AV):IJ ν vs=vs.map (Gm ν):=by
 induction vs with
 |nil=>rfl
 |cons v vs ih=>simp[IJ,ih]
variable{β2:Aw}{M2:Nat→Prop}{ν:Id→Option Id}
theorem TW(hν: ∀x z,ν x=some z→β2 z=β x)(hM: ∀b,M2 b→M b){x:AV}{v:Value}(h:VR β w M x v):VR β2 w M2 (Gm ν x) v:=by
 have cells: ∀{cs:List AV} {c:Array Value},(∀(i:Nat) (x:AV) (v:Value),cs[i]? =some x→c[i]? =some v→VR β2 w M2 (Gm ν x) v)→
  ∀(i:Nat) (x:AV) (v:Value),(IJ ν cs)[i]? =some x→c[i]? =some v→VR β2 w M2 x v:=by
  intro cs c ih i x v hx hv;rw[HB,D2,BV]at hx;obtain⟨y,hy,rfl⟩:=hx;exact ih i y v hy hv
 induction h with
 |d h=>simp only[Gm];exact .d (h.mono (A:=fun _=>False) (GF hM w))
 |co=>exact .co
 |emp a=>exact .emp a
 |eq id off len k a cap hk hn hl ha=>
  simp only[Gm];split
  .rename_i z hz;exact .eq z off len k a cap (by rw[hν _ _ hz];exact hk) hn hl ha
  .exact .undef _
 |ptr id off k hk=>
  simp only[Gm];split
  .rename_i z hz;exact .ptr z off k (by rw[hν _ _ hz];exact hk)
  .exact .undef _
 |i7 id i off k hk=>
  simp only[Gm];split
  .rename_i z hz;exact .i7 z i off k (by rw[hν _ _ hz];exact hk)
  .exact .undef _
 |rg cs b off c elem fr hb hm hl hd=>
  simp only[Gm];exact .rg cs b off c elem fr hb (fun h=>hm (hM _ h)) hl fun i x v h1 h2=>(hd i x v h1 h2).mono (A:=fun _=>False) (GF hM w)
 |fn f a b a' b' h1 h2 _ _ ih1 ih2=>
  simp only[Gm];exact .fn f _ _ a' b' (by rw[HB,BI];exact h1) (by rw[HB,BI];exact h2) (cells ih1) (cells ih2)
 |wn id k hk=>
  simp only[Gm];split
  .rename_i z hz;exact .wn z k (by rw[hν _ _ hz];exact hk)
  .exact .undef _
 |mp id k hk=>
  simp only[Gm];split
  .rename_i z hz;exact .mp z k (by rw[hν _ _ hz];exact hk)
  .exact .undef _
 |iface t v u _ ih=>simp only[Gm];exact .iface t _ u ih
 |agg cs c h1 _ ih=>simp only[Gm];exact .agg _ c (by rw[HB,BI];exact h1) (cells ih)
 |ge cs c h1 _ ih=>simp only[Gm];exact .ge _ c (by rw[HB,BI];exact h1) (cells ih)
 |undef v=>exact .undef v
theorem jX(ν:Id→Option Id)(e:Bn)(t:Nat):Bn.get (e.map fun p=>(p.1,Gm ν p.2)) t=Gm ν (e.get t):=by
 induction e with
 |nil=>rfl
 |cons p e ih=>
  obtain⟨k,v⟩:=p;simp only[Cs,Bn.get_cons,ih];split<;>rfl
theorem ACs(hν: ∀x z,ν x=some z→β2 z=β x)(hM: ∀b,M2 b→M b){k:RY}{o:Obj}(h:Lr β w M k o):Lr β2 w M2 k (Gd ν o):=by
 have dr: ∀{x:Aa} {v:Value},DR w M x v→DR w M2 x v:=fun h=>h.mono (A:=fun _=>False) (GF hM w);cases o with
 |box cs=>
  obtain⟨c,elem,h1,h2⟩:=h;refine⟨c,elem,h1,by rw[HB,BI];exact h2.1,fun i x v hx hv=>?_⟩;rw[HB,D2,BV]at hx;obtain⟨y,hy,rfl⟩:=hx;exact TW hν hM (h2.2 i y v hy hv)
 |d9 sz es=>obtain⟨c,elem,h1,h2,h3,h4,h5,h6,h7⟩:=h;exact⟨c,elem,h1,h2,h3,h4,h5,h6,fun i x v a b=>dr (h7 i x v a b)⟩
 |i5 sz es=>
  rcases h with h|⟨hm,c,elem,fr,h1,h2,h3,h4,h5,h6,h7⟩
  .exact .inl h
  .exact .inr ⟨fun h=>hm (hM _ h),c,elem,fr,h1,h2,h3,h4,h5,h6,fun i x v a b=>dr (h7 i x v a b)⟩
 |arr sz es=>
  obtain⟨c,elem,h1,h2,h3,h4,h5,h6,h7⟩:=h;have hfl:(es.map (IJ ν)).flatten=es.flatten.map (Gm ν):=by
   rw[Rx];congr 1;exact List.map_congr_left fun x _=>HB ν x
  refine⟨c,elem,h1,h2,h3,h4,fun e he=>?_,by rw[BI];exact h6,fun i x v hx hv=>?_⟩
  .obtain⟨y,hy,rfl⟩:=FN.1 he;rw[HB,BI];exact h5 y hy
  .rw[hfl,D2,BV]at hx;obtain⟨y,hy,rfl⟩:=hx;exact TW hν hM (h7 i y v hy hv)
 |map es=>
  obtain⟨en,cl,h1,h2,h3⟩:=h;refine⟨en,cl,h1,by rw[BI];exact h2,fun i p e hp he=>?_⟩;rw[D2,BV]at hp;obtain⟨y,hy,rfl⟩:=hp;exact⟨dr (h3 i y e hy he).1,TW hν hM (h3 i y e hy he).2⟩
 |loop r=>
  obtain⟨l,h1,h2,h3,h4,h5,h6,h7,h9,h8⟩:=h;refine⟨l,h1,h2,h3,h4,h5,h6,h7,h9,fun t=>?_⟩;rw[jX];exact TW hν hM (h8 t)
theorem Xj(ν:Id→Option Id)(o:Obj):(Gd ν o).mut=o.mut:=by cases o<;>rfl
theorem E2{ν:Id→Option Id}: ∀{l:List Id} {z:Id} {o2:Obj},(DP h ν l).get z=some o2→ ∃x o,h.get x=some o∧ν x=some z∧o2=Gd ν o
 |[],z,o2,hg=>by simp[DP]at hg
 |x::l,z,o2,hg=>by
  simp only[DP]at hg;split at hg
  .rename_i o z' h1 h2;rw[AD.get_cons]at hg;split at hg
   .rename_i e;subst e;cases hg;exact⟨x,o,h1,h2,rfl⟩
   .exact E2 hg
  .exact E2 hg
theorem S5(e:Bn): ∀(l:List Nat) (t:Nat),Bn.get (l.map fun t=>(t,e.get t)) t=e.get t∨Bn.get (l.map fun t=>(t,e.get t)) t=.undef
 |[],t=>.inr rfl
 |k::l,t=>by
  simp only[Cs,Bn.get_cons];split
  .rename_i h;subst h;exact .inl rfl
  .exact S5 e l t
theorem tT{C:Cj}{fr:Fr}{b:Nat}{st:St}(H:HR A β w st.heap)(s:Ld A β w nt st.env.get st.defs st.heap a)(hf:CN β fr.π st.base)(hown:fr.raw=false→ ∀id,β id≠none→fr.π<:+id):
 ∃β2,Bp A ce fr.π β w st.heap β2 w (Et C fr b st).heap∧Ld A β2 w nt (Et C fr b st).env.get (Et C fr b st).defs (Et C fr b st).heap a∧CN β2 fr.π (Et C fr b st).base:=by
 unfold Et;simp only;split
 .refine⟨β,Bp.refl H,⟨s.sz,fun t=>?_,s.defs⟩,hf⟩;simp only;rcases S5 st.env (C.live fr.f b) t with e|e
  .rw[e];exact s.env t
  .rw[e];exact .undef _
 .rename_i hcond;simp only[I3,not_or,Kw,Bool.not_eq_eq_eq_not,Bool.not_not]at hcond;obtain⟨hraw,hdefs⟩:=hcond;have hown:=hown hraw;have hd0:st.defs=[]:=by simpa using hdefs
  generalize hl:CP st.heap 1000 (E6 [] (((C.live fr.f b).map fun t=>(t,st.env.get t)).flatMap fun p=>AF p.2)) 0=l
  classical
  let ν:=Dn fr.π l 0
  let β2:Aw:=fun z=>if hz: ∃x,ν x=some z then β hz.choose else none
  have hν: ∀x z,ν x=some z→β2 z=β x:=by
   intro x z hx;have hz: ∃x,ν x=some z:=⟨x,hx⟩;simp only[β2,dif_pos hz];rw[MR hz.choose_spec hx]
  have hback: ∀z k,β2 z=some k→ ∃x,ν x=some z∧β x=some k:=by
   intro z k hk;by_cases hz: ∃x,ν x=some z
   .simp only[β2,dif_pos hz]at hk;exact⟨_,hz.choose_spec,hk⟩
   .simp only[β2,dif_neg hz]at hk;cases hk
  have hname: ∀x z,ν x=some z→ ∃j t,j<l.length∧z=t::j::fr.π:=by
   intro x z hx;obtain⟨j,t,h1,h2⟩:=Ep hx;exact⟨j,t,(BE.1 h1).1,by rw[h2,I4]⟩
  have hunder: ∀x z,ν x=some z→fr.π<:+z:=by
   intro x z hx;obtain⟨j,t,_,rfl⟩:=hname x z hx;exact(Ex _ _).trans (Ex _ _)
  have hM: ∀b,MS A β2 (DP st.heap ν l) b→MS A β st.heap b:=by
   rintro b (hb|⟨z,o,k,h1,h2,h3,rfl⟩)
   .exact .inl hb
   .obtain⟨x,o',g1,g2,rfl⟩:=E2 h1;rw[Xj]at h2;rw[hν x z g2]at h3;exact .inr ⟨x,o',k,g1,h2,h3,rfl⟩
  have H2:HR A β2 w (DP st.heap ν l):=by
   refine⟨fun z o ho=>?_,fun y z oy oz ky kz hy hz hmy hmz hky hkz e=>?_,fun z k hk=>?_,fun z o k ho hm hk=>?_,H.abnd⟩
   .obtain⟨x,o',g1,g2,rfl⟩:=E2 ho;obtain⟨k,hk,hr⟩:=H.obj x o' g1;exact⟨k,by rw[hν x z g2];exact hk,ACs hν hM hr⟩
   .obtain⟨x,o',g1,g2,rfl⟩:=E2 hy;obtain⟨x2,o2',g3,g4,rfl⟩:=E2 hz;rw[Xj]at hmy hmz;rw[hν x y g2]at hky;rw[hν x2 z g4]at hkz;have:=H.inj x x2 o' o2' ky kz g1 g3 hmy hmz hky hkz e;subst this;rw[g2]at g4;exact MK g4
   .obtain⟨x,_,hx⟩:=hback z k hk;exact H.bnd x k hx
   .obtain⟨x,o',g1,g2,rfl⟩:=E2 ho;rw[Xj]at hm;rw[hν x z g2]at hk;exact H.out x o' k g1 hm hk
  refine⟨β2,⟨fun id hi=>?_,H2,⟨fun _ _ _=>rfl,EX _,fun b hb=>.inl (hM b hb),rfl,rfl⟩,fun σ hσ _=>⟨fun _ _ _=>rfl,?_,fun id hi=>?_⟩⟩,⟨s.sz,fun t=>?_,?_⟩,fun n hn z hz=>?_⟩
  .have h1:β id=none:=by
    cases hb:β id with
    |none=>rfl
    |some k=>exact absurd (hown id (by rw[hb];simp)) hi
   have h2:β2 id=none:=by
    cases hb:β2 id with
    |none=>rfl
    |some k=>
     obtain⟨x,hx,_⟩:=hback id k hb;exact absurd (hunder x id hx) hi
   rw[h1,h2]
  .rintro b ⟨z,k,h1,h2,rfl⟩;obtain⟨x,hx,hk⟩:=hback z k h2;exact .inl ⟨x,k,hσ.trans (hown x (by rw[hk];simp)),hk,rfl⟩
  .have h1:(DP st.heap ν l).get id=none:=by
    cases hg:(DP st.heap ν l).get id with
    |none=>rfl
    |some o=>
     obtain⟨x,_,_,g2,_⟩:=E2 hg;exact absurd (hσ.trans (hunder x id g2)) hi
   have h2:st.heap.get id=none:=by
    cases hg:st.heap.get id with
    |none=>rfl
    |some o=>
     obtain⟨k,hk,_⟩:=H.obj id o hg;exact absurd (hσ.trans (hown id (by rw[hk];simp))) hi
   rw[h2];exact h1
  .simp only;rw[jX];refine TW hν hM ?_;rcases S5 st.env (C.live fr.f b) t with e|e
   .rw[e];exact s.env t
   .rw[e];exact .undef _
  .have:=s.defs;rw[hd0]at this;cases hd:a.defers with
   |nil=>trivial
   |cons d l=>rw[hd]at this;exact this.elim
  .cases hb:β2 z with
   |none=>rfl
   |some k=>
    exfalso;obtain⟨x,hx,_⟩:=hback z k hb;obtain⟨j,t,hj,rfl⟩:=hname x z hx;have:=KC hz (Ex t (j::fr.π));have:l.length≤n:=hn;omega
end Go.Abs
