/- P -/
import Derived.OrdersIn
import Derived.RangeFuncLeaves
import Derived.Test.YtbinfhpngacfgaaGreatR4
set_option linter.all false
namespace Go
def zEa{p:Prop}(h:p:=by cases h):p:=h
def zEg{p:Prop}(h:p:=by simp[a]):p:=h
def zE1{p:Prop}(h:p:=by rw[l _ _ g];exact e):p:=h
def zFO{p:Prop}(h:p:=by rw[c];simp):p:=h
def zFW{p:Prop}(h:p:=by simp[c]):p:=h
def zFX{p:Prop}(h:p:=by simp[f]):p:=h
def zFZ{p:Prop}(h:p:=by rw[h];simp[Op.operands,Call.operands,hc,e]):p:=h
def zFd{p:Prop}(h:p:=by rw[p];simp[Op.operands,Call.operands,hc]):p:=h
def zFe{p:Prop}(h:p:=by rw[h];simp[Op.operands,Call.operands,hc]):p:=h
def zFi{p:Prop}(h:p:=by rw[IV,As];exact h1):p:=h
def zFp{p:Prop}(h:p:=by rw[b];rfl):p:=h
end Go
namespace Go
def zBO{p:Prop}(h:p:=by
 split at a
 .split at a<;>cases a
 .cases a):p:=h
def zBj{p:Prop}(h:p:=by
 split at a
 .simp only[Ib.ge.injEq]at a;obtain⟨rfl,rfl⟩:=a;exact b
 .cases a):p:=h
def zBw{p:Prop}(h:p:=by
 simp only[Bd]at a;split at a
 .cases a
 .unfold JQ at a;split at a
  .simp at a
  .simp only[CU]at a;split at a
   .simp at a
   .cases a):p:=h
def zB9{p:Prop}(h:p:=by
 split at a
 .split at a<;>cases a;rfl
 .cases a):p:=h
def zCF{p:Prop}(h:p:=by
 split at a
 .simp at a
 .cases a):p:=h
def zCd{p:Prop}(h:p:=by
 split at h
 .exact .mapE (fun _=>.one rfl) h
 .cases h):p:=h
def zCs{p:Prop}(h:p:=by
 rcases U4 st.env (C.live fr.f b) t with e|e
 .rw[e];exact s.env t
 .rw[e];exact .undef _):p:=h
def zC2{p:Prop}(h:p:=by simp only[Bv]at h;obtain⟨y,_,rfl⟩:=h;rfl):p:=h
def zDE{p:Prop}(h:p:=by obtain⟨rfl,rfl⟩:=a;exact e):p:=h
def zDF{p:Prop}(h:p:=by
 unfold HP at a;split at a
 .split at a
  .exact call a
  .cases a
 .cases a):p:=h
def zDT{p:Prop}(h:p:=by
 unfold EN at a;split at a
 .simp only[LX,CU]at a;exact zCF
 .cases a):p:=h
def zDU{p:Prop}(h:p:=by exact⟨fun h=>by simp[b,wg,hc]at h,fun h=>by simp[b,Za,hc]at h⟩):p:=h
def zDd{p:Prop}(h:p:=by split at a<;>cases a):p:=h
def zDj{p:Prop}(h:p:=by
 split at a
 .exact map_nil a
 .cases a):p:=h
def zD3{p:Prop}(h:p:=by have:=congrArg (fun x:List Oper=>x[0]?) hl;simpa using this):p:=h
def zD4{p:Prop}(h:p:=by have:=congrArg List.tail hl;simpa[List.tail_drop]using this):p:=h
def zEQ{p:Prop}(h:p:=by obtain⟨e',h1,h2⟩:=Re h;exact⟨e',by simp[h1],h2⟩):p:=h
end Go
namespace Go.Abs
variable{A:Nat->Prop}{P:Program}{mix:List TypeId}{β β' β'':BK}{w w' w'':World}{M:Nat->Prop}{h h' h'':AD}{π ρ:List Nat}{ci:Option (List Nat)}
def Ga(β:BK)(π:List Nat):Prop:= ∀id,π<:+id->β id=none
def r8(ρ:List Nat)(β:BK)(b:Nat):Prop:= ∃id k,ρ<:+id/\β id=some k/\k.b=b
def YE(ci:Option (List Nat))(ρ:List Nat)(β:BK):Prop:=ci=some ρ\/ ∀id,β id≠none->ρ<:+id
def AEe(ci:Option (List Nat))(π:List Nat)(β:BK)(w:World)(h:AD)(β':BK)(w':World)(h':AD):Prop:=
 ∀ρ,ρ<:+π->YE ci ρ β->(∀b,b<w.heap.size-> ¬r8 ρ β b->w'.heap[b]? =w.heap[b]?)/\(∀b,r8 ρ β' b->r8 ρ β b\/w.heap.size<=b)/\ ∀id,¬ρ<:+id->h'.get id=h.get id
structure CN(A:Nat->Prop)(ci:Option (List Nat))(π:List Nat)(β:BK)(w:World)(h:AD)(β':BK)(w':World)(h':AD):Prop where
 out: ∀id,¬π<:+id->β' id=β id
 hr:HR A β' w' h'
 it:FG A (MS A β h) w (MS A β' h') w'
 kept:AEe ci π β w h β' w' h'
def CN.refl(H:HR A β w h):CN A ci π β w h β w h:=
 ⟨fun _ _=>rfl,H,.refl _ _,fun _ _ _=>⟨fun _ _ _=>rfl,fun _ a=>.inl a,fun _ _=>rfl⟩⟩
def bp(f:ρ<:+π)(c: ∀id,¬π<:+id->β' id=β id)(b:YE ci ρ β):YE ci ρ β':=by
 refine b.imp (fun h=>h) fun h id a=>?_;by_cases e:π<:+id
 .exact f.trans e
 .rw[c id e]at a;exact h id a
def CN.trans(g1:CN A ci π β w h β' w' h')(c:CN A ci π β' w' h' β'' w'' h''):CN A ci π β w h β'' w'' h'' where
 out id a:=by rw[c.out id a,g1.out id a]
 hr:=c.hr
 it:=g1.it.trans c.it
 kept ρ hρ hg:=by
  obtain⟨i,f,j⟩:=g1.kept ρ hρ hg;obtain⟨b1,k,l⟩:=c.kept ρ hρ (bp hρ g1.out hg);refine⟨fun b e g=>?_,fun b e=>?_,fun id a=>by rw[l id a,j id a]⟩
  .rw[b1 b (NL e g1.it.size) (fun m=>(f b m).elim g (fun h=>AA)),i b e g]
  .rcases k b e with h1|h1
   .exact f b h1
   .exact .inr (IP g1.it.size h1)
def CN.le(g:CN A ci π β w h β' w' h')(b:Ga β π):Le β β':=fun id k a=>by
 rw[g.out id fun c=>by rw[b id c]at a;cases a];exact a
def CN.up{n:List Nat}(a:π<:+n)(g:CN A ci n β w h β' w' h'):CN A ci π β w h β' w' h':=
 ⟨fun id c=>g.out id fun e=>c (a.trans e),g.hr,g.it,fun ρ f b=>g.kept ρ (f.trans a) b⟩
variable{h2:AD}
def MS.congr{h:AD}(e: ∀id,h.get id=h2.get id):MS A β h=MS A β h2:=by
 funext b;simp only[MS,e]
def HR.congr{h:AD}(e: ∀id,h.get id=h2.get id)(H:HR A β w h):HR A β w h2:=by
 have f:=MS.congr (A:=A) (β:=β) e;refine⟨fun id o c=>?_,fun a b m n j l g i=>H.inj a b m n j l (by rw[e];exact g) (by rw[e];exact i),H.bnd,fun id o k c=>H.out id o k (by rw[e];exact c),H.abnd⟩;rw[<-f];exact H.obj id o (by rw[e];exact c)
def CN.congr{h:AD}(e: ∀id,h.get id=h2.get id)(g:CN A ci π β w h β' w' h'):CN A ci π β w h2 β' w' h':=by
 refine⟨g.out,g.hr,by rw[<-MS.congr e];exact g.it,fun ρ j f=>?_⟩;obtain⟨a,b,c⟩:=g.kept ρ j f;exact⟨a,b,fun id i=>by rw[<-e];exact c id i⟩
structure NT where
 n:Nat
 lb:Nat
inductive B2(lb:Nat)(β:BK)(w:World)(M:Nat->Prop):Df->Deferred->Prop
 |mark (id r):w.heap[r]? =some (.deferred (some []))-> ¬M r->lb<=r->B2 lb β w M (.mark id) {target:=.collected r,args:= #[]}
 |call (f args vs):Hh β w M args vs->B2 lb β w M (.call f args) {target:=.fn (.func f) #[],args:=vs}
def K3(lb:Nat)(β:BK)(w:World)(M:Nat->Prop):List Df->List Deferred->Prop
 |[],[]=>True
 |d::l,e::m=>B2 lb β w M d e/\K3 lb β w M l m/\ ∀e'∈m,∀r,e.target=.collected r->e'.target≠ .collected r
 |_,_=>False
variable{lb:Nat}{M':Nat->Prop}
def B2.mono(c:Le β β')(a:FG A M w M' w'){d:Df}{e:Deferred}(h:B2 lb β w M d e):B2 lb β' w' M' d e:=by
 cases h with
 |mark id r h1 h2 b=>exact .mark id r (by rw[a.pm r (AK h1) (.inl h2)];exact h1) (a.sub' (AK h1) h2) b
 |call f args vs h1=>exact .call f args vs (h1.mono c a)
def K3.mono(b:Le β β')(a:FG A M w M' w'): ∀{l:List Df} {m:List Deferred},K3 lb β w M l m->K3 lb β' w' M' l m
 |[],[],_=>trivial
 |_::_,_::_,h=>⟨h.1.mono b a,K3.mono b a h.2.1,h.2.2⟩
 |[],_::_,h=>h.elim
 |_::_,[],h=>h.elim
def K3.marks{lb:Nat}: ∀{l:List Df} {m:List Deferred},K3 lb β w M l m-> ∀e∈m,∀r,e.target=.collected r->r<w.heap.size
 |[],[],_,e,a,_,_=>by cases a
 |d::l,e'::m,h,e,a,r,b=>by
  rcases D0.1 a with rfl|a
  .obtain⟨h1,_,_⟩:=h;cases h1 with
   |mark id c h2 _ _=>simp only[Target.collected.injEq]at b;subst b;exact AK h2
   |call f args vs _=>cases b
  .exact K3.marks h.2.1 e a r b
 |[],_::_,h,_,_,_,_=>h.elim
 |_::_,[],h,_,_,_,_=>h.elim
structure M0(A:Nat->Prop)(β:BK)(w:World)(nt:NT)(env:Nat->AV)(defs:List Df)(h:AD)(a:Act):Prop where
 sz:a.tmps.size=nt.n
 env:Kz β w (MS A β h) env fun t=>a.tmps.getD t Go.undef
 defs:K3 nt.lb β w (MS A β h) defs a.defers
variable{nt:NT}{env:Nat->AV}{defs:List Df}{a:Act}
def M0.congr{h:AD}(e: ∀id,h.get id=h2.get id)(s:M0 A β w nt env defs h a):M0 A β w nt env defs h2 a:=
 ⟨s.sz,by rw[<-MS.congr e];exact s.env,by rw[<-MS.congr e];exact s.defs⟩
def M0.mono(s:M0 A β w nt env defs h a)(c:Le β β')(b:FG A (MS A β h) w (MS A β' h') w'):M0 A β' w' nt env defs h' a:=
 ⟨s.sz,s.env.mono c b,s.defs.mono c b⟩
def SC(e:Nat->AV)(dst:Option Tmp)(v:AV)(t:Nat):AV:=match dst with
 |some d=>if d=t then v else e t
 |none=>e t
def dH(e:CA)(dst:Option Tmp)(v:AV):(DH e dst v).get=SC e.get dst v:=by
 funext t;cases dst with
 |none=>rfl
 |some d=>simp[DH,SC,CA.get_cons]
def wU(a:Act)(dst:Option Tmp)(u:Value):(a.put dst u).tmps.size=a.tmps.size:=by
 cases dst<;>simp[Act.put]
def dJ(a:Act)(dst:Option Tmp)(u:Value):(a.put dst u).defers=a.defers:=by
 cases dst<;>rfl
def M0.put{nt:NT}{env:Nat->AV}{defs:List Df}{a:Act}(s:M0 A β w nt env defs h a){dst:Option Tmp}(b: ∀d,dst=some d->d<nt.n){v:AV}{u:Value}(f:VR β w (MS A β h) v u):
 M0 A β w nt (SC env dst v) defs h (a.put dst u):=by
 refine⟨by rw[wU];exact s.sz,fun t=>?_,by rw[dJ];exact s.defs⟩;cases dst with
 |none=>exact s.env t
 |some d=>
  have c:d<a.tmps.size:=by rw[s.sz];exact b d rfl
  simp only[SC,Act.put];by_cases e:d=t
  .subst e;simp[c];exact f
  .have:=s.env t;simp only[Ci e];rw[Gs,I1 e,<-Gs];exact this
abbrev FF(ro:Option Nat):Fence:={Fence.wide with round:=ro}
def OW(β:BK)(w:World)(M:Nat->Prop):A8->Ending->Prop
 |.ret v,.returned u=>VR β w M v u
 |.ge v,.panicked chain=> ∃u,chain=[{v:=u,recovered:=false}]/\VR β w M v u
 |_,_=>False
def QB(A:Nat->Prop)(ci:Option (List Nat))(π:List Nat)(β:BK)(w:World)(h:AD)(r:A8×AD)(e:Ending)(w':World):Prop:=
 ∃β',CN A ci π β w h β' w' r.2/\OW β' w' (MS A β' r.2) r.1 e
def JB(l:Loop)(vs:Array Value):Array Value:=(l.params.zip vs).foldl (fun tmps (x:Nat×Value)=>tmps.setIfInBounds x.1 x.2) l.tmps
def RU(P:Program)(A:Nat->Prop)(t:B0)(args:List AV)(h:AD)(π:List Nat)(ci:Option (List Nat))(r:A8×AD)(β:BK):Prop:=
 ∀(w:World) (vs:Array Value),HR A β w h->Ga β π->Hh β w (MS A β h) args vs->
  match t with
  |.fn f=>Calls P f vs w (QB A ci π β w h r)
  |.round id lp=>lp.params.length=args.length/\ ∀(k:TH) (l:Loop),h.get id=some (.loop lp)->β id=some k->w.heap[k.b]? =some (.loop l)->
   RoundIn Fence.wide 0 P k.b l.fn (JB l vs) l.assign l.body w (QB A ci π β w h r)
def MF(P:Program)(f:FuncId):Prop:= ∃fn c,P.funcs[f]? =some fn/\fn.body=some c/\(fn.name== "runtime.NumGoroutine")=false
def LW(W:Lp->Prop)(h:AD):Prop:= ∀id r,h.get id=some (.loop r)->W r
structure jw(P:Program)(W:Lp->Prop)(t:B0)(args:List AV)(h:AD)(π:List Nat)(raw:Bool)(ci:Option (List Nat))(r:A8×AD):Prop where
 ent: ∀f,t=.fn f->MF P f
 rw:raw=true->(∀id lp,t=.round id lp->W lp)->LW W h-> ∀A β,RU P A t args h π ci r β
 pu:raw=false->h=[]->ci=none-> ∀A,RU P A t args [] π none r fun _=>none
 ids:raw=false->h=[]->ci=none->π=[]-> ∀v,r.1=.ret v->AE v=[]/\r.2=[]
 lw:(∀id lp,t=.round id lp->W lp)->LW W h->LW W r.2
def EC(P:Program)(W:Lp->Prop)(K:Ab):Prop:=
 ∀(t:B0) (args:List AV) (h:AD) (π:List Nat) (raw:Bool) (ci:Option (List Nat)) (r:A8×AD),K t args h π raw ci=.ok r->jw P W t args h π raw ci r
variable{δ:AD}
def eE{ρ:List Nat}(h:LQ (some ρ) δ=true): ∀p∈δ,ρ<:+p.1:=fun p a=>
 (Id.under_iff _ _).1 (D3.1 h p a)
def K8{δ:AD}(s:Le β β')(t: ∀id,β' id≠none->β id≠none\/ρ<:+id)(H':HR A β' w' (h.puts δ))(g:FG A (MS A β h) w (MS A β' (h.puts δ)) w')(hc:E0 β w β' w' δ)
 (m:LQ ci δ=true):CN A ci ρ β w h β' w' (h.puts δ):=by
 have l: ∀id,¬ρ<:+id->β' id=β id:=by
  intro id j;cases i:β id with
  |some k=>exact s id k i
  |none=>
   cases r:β' id with
   |none=>rfl
   |some k=>exact absurd (t id (by rw[r];simp)) (by simp[i,j])
 refine⟨l,H',g,fun x v a=>?_⟩;have n: ∀p∈δ,∀k,β p.1=some k->x<:+p.1:=by
  intro p g k f;rcases a with a|a
  .subst a;exact eE m p g
  .exact a p.1 (by rw[f];simp)
 refine⟨fun b i u=>hc.1 b i fun p g k f e=>u ⟨p.1,k,n p g k f,f,e⟩,?_,fun id j=>?_⟩
 .rintro b ⟨id,k,h1,h2,rfl⟩;rcases hc.2 id k h2 with c|c|⟨p,g,o,c,q⟩
  .exact .inl ⟨id,k,h1,c,rfl⟩
  .exact .inr c
  .exact .inl ⟨p.1,o,n p g o c,c,q⟩
 .rcases Jq δ h id with⟨h1,_⟩|⟨p,h1,rfl,c⟩
  .exact h1
  .refine absurd ?_ j;rcases a with a|a
   .subst a;exact eE m p h1
   .obtain⟨k,f,_⟩:=H'.obj p.1 p.2 c;by_cases e:ρ<:+p.1
    .exact v.trans e
    .rw[l _ e]at f;exact a p.1 (by rw[f];simp)
def H3(A:Nat->Prop)(ci:Option (List Nat))(π:List Nat)(nt:NT)(β:BK)(w:World)(h:AD)(env:Nat->AV)(defs:List Df)(h':AD)(a':Act)(w':World):Prop:=
 ∃β',CN A ci π β w h β' w' h'/\M0 A β' w' nt env defs h' a'
def wM{ro:Option Nat}{o:Oper}{eff:C0}(H:HR A β w h)(l:Ga β ρ)(s:M0 A β w nt env defs h a)
 (j: ∀d,o.dst=some d->d<nt.n) (k: ∀c,o.op≠ .defer c) (r:evalOp (Cb P mix) env h.get ρ o.op=some eff) (x:LQ ci eff.δ=true) {next:Act->World->Prop} {Q:Exit->Act->World->Prop}
 (m: ∀b w',H3 A ci ρ nt β w h (SC env o.dst eff.v) defs (h.puts eff.δ) b w'->next b w'):o.wpIn (FF ro) 0 P a w next Q:=by
 obtain⟨n,v,w',β',t,q,f,p,H',i,u,hc⟩:=nJ (P:=P) (mix:=mix) H l s.env rfl r;have g:=K8 (ci:=ci) f p H' i hc x;have e:next (a.put o.dst v) w':=m _ _ ⟨β',g,(s.mono f i).put j u⟩
 refine⟨fun _ _=>trivial,?_⟩;rw[Oper.semAt_eq _ _ _ k,t];rcases q with rfl|⟨rfl,rfl⟩
 .exact e
 .exact e
variable{A:Nat->Prop}{P:Program}{mix:List TypeId}{β:BK}{w:World}{M:Nat->Prop}
def HQ{A M:Nat->Prop}(h: ∀b,M' b->M b)(w:World):FG A M w M' w:=⟨fun _ _ _=>rfl,Es _,fun b a=>.inl (h b a),rfl,rfl⟩
def Qg{vs:List AV}(h:A9 vs=[]): ∀x∈vs,AE x=[]:=by
 induction vs with
 |nil=>simp
 |cons v vs b=>
  simp only[A9,Jp]at h;intro x a;rcases D0.1 a with rfl|a
  .exact h.1
  .exact b h.2 x a
variable{x:AV}{v:Value}
def VR.noIds{β':BK}(n: ∀b,M' b->M b)(h:VR β w M x v)(e:AE x=[]):VR β' w M' x v:=by
 induction h with
 |d h=>exact .d (h.mono (A:=fun _=>False) (HQ n w))
 |d7=>exact .d7
 |emp a=>exact .emp a
 |f8 id off len k a cap m C o B=>simp[AE]at e
 |ptr id off k m=>simp[AE]at e
 |jp id i off k m=>simp[AE]at e
 |rg cs b off c elem fr q s o r=>exact .rg cs b off c elem fr q (fun h=>s (n _ h)) o fun i x v h1 h2=>(r i x v h1 h2).mono (A:=fun _=>False) (HQ n w)
 |fn f a b p b' h1 h2 _ _ y z=>
  simp only[AE,Jp]at e;exact .fn f a b p b' h1 h2 (fun i x v g j=>y i x v g j (Qg e.1 x (AS g))) (fun i x v g j=>z i x v g j (Qg e.2 x (AS g)))
 |wt id k m=>simp[AE]at e
 |mp id k m=>simp[AE]at e
 |iface t v u _ l=>simp only[AE]at e;exact .iface t v u (l e)
 |agg cs c h1 _ l=>simp only[AE]at e;exact .agg cs c h1 fun i x v g j=>l i x v g j (Qg e x (AS g))
 |ii cs c h1 _ l=>simp only[AE]at e;exact .ii cs c h1 fun i x v g j=>l i x v g j (Qg e x (AS g))
 |undef v=>exact .undef v
def KU(h δ:AD)(p:Id×Obj):Prop:=
 (∃sz es,p.2=.i7 sz es/\h.get p.1=some (.em sz es))\/
 ∃sz es ds,p.2=.i7 sz ds/\h.get p.1=some (.arr sz es)/\C7 h.get es=some ds/\ ∀q∈es.flatMap (Ca h.get),q∈δ
def KU.i7{h:AD}{p:Id×Obj}(m:KU h δ p):p.2.mut=false:=by
 rcases m with⟨_,_,h,_⟩|⟨_,_,_,h,_⟩<;>rw[h]<;>rfl
def QJ{h δ:AD}(k: ∀p∈δ,p.2.mut=false){vs:List AV}(l: ∀p∈Ca h.get vs,p∈δ){xs:List Al}(q:C6 h.get vs=some xs):
 ∀v∈vs,∀id∈GD v,Gi (h.puts δ) id:=by
 intro v f id e o b;cases v with
 |f8 s off n=>
  simp only[GD,Ac]at e;subst e;obtain⟨i,j,m⟩:=Rs.1 f;obtain⟨t,r⟩:=FR q;have a:=r i _ (xs[i]'(AA)) (CO j) (CO AA);rw[m]at a;rcases Jq δ h id with⟨h1,h2⟩|⟨p,h1,h2,g⟩
  .simp only[FQ]at a;split at a
   .rename_i sz es c;exact absurd rfl (h2 (id,.i7 sz es) (l _ (CS.2 ⟨_,f,by simp[LB,c]⟩)))
   .rename_i sz es c;rw[h1,c]at b;cases b;rfl
   .cases a
  .rw[g]at b;cases b;exact k p h1
 |_=>simp[GD]at e
def Ix{h δ:AD}(j: ∀p∈δ,KU h δ p):A0 h (h.puts δ):=by
 refine⟨fun id=>?_⟩;rcases Jq δ h id with⟨h1,_⟩|⟨p,h1,h2,g⟩
 .exact .inl h1
 .subst h2;rcases j p h1 with⟨sz,es,a,b⟩|⟨sz,es,ds,a,b,i,k⟩
  .exact .inr (.inl ⟨sz,es,b,by rw[g,a]⟩)
  .refine .inr (.inr ⟨sz,es,ds,b,by rw[g,a],i,?_⟩);exact QJ (fun p m=>(j p m).i7) (fun q c=>by
    obtain⟨v,f,c⟩:=CS.1 c;obtain⟨e,l,f⟩:=Nl.1 f;exact k q (CS.2 ⟨e,l,CS.2 ⟨v,f,c⟩⟩)) (Fy i)
def vR{h δ:AD}{v:AV}(f: ∀p∈Di h.get v,p∈δ): ∀p∈Di h.get v,KU h δ p:=by
 intro p a;cases v with
 |f8 id off n=>
  simp only[Di]at a f;split at a
  .rename_i sz es b;simp at a;subst a;exact .inl ⟨sz,es,rfl,b⟩
  .rename_i sz es b;split at a
   .rename_i ds c;rcases D0.1 a with rfl|a
    .refine .inr ⟨sz,es,ds,rfl,b,c,fun q g=>f q ?_⟩;simp only[b,c];exact F0 _ g
    .obtain⟨e,_,a⟩:=CS.1 a;exact .inl (Kl a)
   .cases a
  .cases a
 |_=>simp[Di]at a
def Ml{h:AD}{as:List AV}: ∀p∈as.flatMap (mark h.get),KU h (as.flatMap (mark h.get)) p:=by
 intro p a;obtain⟨v,e,a⟩:=CS.1 a;obtain⟨c,hc,a⟩:=CS.1 a;exact vR (fun q b=>CS.2 ⟨v,e,CS.2 ⟨c,hc,b⟩⟩) p a
def EV(h h':AD)(v:AV):Prop:= ∀id∈GD v,Gi h' id/\ ∀sz es,h.get id=some (.arr sz es)-> ∀v'∈es.flatten,∀id'∈GD v',Gi h' id'
def zN{h h':AD}(H:HR A β w h)(g:ZY h h'){v:AV}{u:Value}{x:Al}(q:VR β w (MS A β h) v u)(e:C9 h.get v=some x)(f:EV h h' v):DR w (MS A β h') x u:=by
 unfold C9 at e;split at e
 .rename_i id off n;have D:=(f id (by simp[GD])).1;split at e
  .rename_i sz es m;split at e
   .rename_i ds j;cases q with
    |f8 _ _ _ k a cap r N F B=>
     have C:a=some ⟨k.b,off*k.sz,none⟩\/n=0:=B.imp (fun h=>h) (fun h=>AA);obtain⟨O,s,c,elem,h1,h2,L,M,t,y,z⟩:=H.obj id _ m;rw[r]at s;cases s;simp only[Bv]at e;obtain⟨l,I,rfl⟩:=e;subst h2;obtain⟨J,K⟩:=FR (Fy j);refine SL h1 (D.notMS H g r m (.inl rfl)) (Ma j t) (by rw[(Iu j).1];exact y) (fun i x v a b=>?_) I C F;have o:i<es.flatten.length:=by rw[<-J];exact(BV.1 a).1
     exact Oe H g (z i _ v (CO o) b) (K i _ x (CO o) a) ((f id (by simp[GD])).2 _ es m _ (No o))
   .cases e
  .exact Oe H g q e fun id p=>(f id p).1
 .exact Oe H g q e fun id p=>(f id p).1
def Ng{h δ:AD}(t: ∀p∈δ,KU h δ p){v:AV}{x:Al}(a:C9 h.get v=some x)(b: ∀p∈Di h.get v,p∈δ):EV h (h.puts δ) v:=by
 intro id g;cases v with
 |f8 w off n=>
  simp only[GD,Ac]at g;subst g;have k: ∀p∈δ,p.2.mut=false:=fun p u=>(t p u).i7;unfold C9 at a;simp only[Di]at b;refine⟨fun o c=>?_,fun sz es s=>?_⟩
  .rcases Jq δ h id with⟨h1,h2⟩|⟨p,h1,h2,l⟩
   .rw[h1]at c;cases o with
    |i7 sz es=>rfl
    |em sz es=>
     simp only[c]at b;exact absurd rfl (h2 _ (b _ (Ac.2 rfl)))
    |arr sz es=>
     simp only[c]at a b;cases f:C7 h.get es with
     |none=>rw[f]at a;cases a
     |some ds=>
      simp only[f]at b;exact absurd rfl (h2 _ (b _ (F8 ..)))
    |box cs=>simp[c,FQ]at a
    |map es=>simp[c,FQ]at a
    |loop r=>simp[c,FQ]at a
   .rw[l]at c;cases c;exact k p h1
  .simp only[s]at a b;cases f:C7 h.get es with
   |none=>rw[f]at a;cases a
   |some ds=>
    simp only[f]at b;exact QJ k (fun q i=>by
     obtain⟨v,j,i⟩:=CS.1 i;obtain⟨e,m,j⟩:=Nl.1 j;exact b q (F0 _ (CS.2 ⟨e,m,CS.2 ⟨v,j,i⟩⟩))) (Fy f)
 |_=>simp[GD]at g
def PX{g:G}: ∀{vs xs:List AV},IK g vs=some xs->xs.length=vs.length/\ ∀(i:Nat) (v x:AV),vs[i]? =some v->xs[i]? =some x-> ∃y,x=.d y/\C9 g v=some y
 |[],xs,h=>by simp[IK]at h;subst h;simp
 |v::vs,xs,h=>by
  simp only[IK]at h;split at h
  .rename_i x k h1 h2;cases h;obtain⟨c,e⟩:=PX h2;refine⟨by simp[c],fun i f j a b=>?_⟩;cases i with
   |zero=>simp at a b;subst a b;exact⟨x,rfl,h1⟩
   |succ i=>simp at a b;exact e i f j a b
  .cases h
variable{u:Value}
def bH{h h':AD}(H:HR A β w h)(F:ZY h h'){v:AV}(g:VR β w (MS A β h) v u)(e:Fc h.get v=some x)(j: ∀c∈LJ v,∀y,C9 h.get c=some y->EV h h' c):
 VR β w (MS A β h') x u/\AE x=[]:=by
 have cell: ∀{v:AV} {u:Value} {y:Al},VR β w (MS A β h) v u->C9 h.get v=some y->(∀y,C9 h.get v=some y->EV h h' v)->DR w (MS A β h') y u:=
  fun g e j=>zN H F g e (j _ e)
 have cells: ∀{cs xs:List AV} {c:Array Value},cs.length=c.size->(∀(i:Nat) (x:AV) (v:Value),cs[i]? =some x->c[i]? =some v->VR β w (MS A β h) x v)->IK h.get cs=some xs->(∀v∈cs,∀y,C9 h.get v=some y->EV h h' v)->
  VR β w (MS A β h') (.agg xs) (.agg c)/\A9 xs=[]:=by
  intro cs xs c l hc e j;obtain⟨z,I⟩:=PX e;have s: ∀(i:Nat) (x:AV),xs[i]? =some x-> ∃v y,cs[i]? =some v/\x=.d y/\C9 h.get v=some y:=by
   intro i x e;have m:i<cs.length:=by rw[<-z];exact(BV.1 e).1
   obtain⟨y,h1,h2⟩:=I i _ x (CO m) e;exact⟨_,y,CO m,h1,h2⟩
  refine⟨.agg _ _ (by rw[z];exact l) fun i x v e g=>?_,?_⟩
  .obtain⟨k,y,h1,rfl,h2⟩:=s i x e;exact .d (cell (hc i k v h1 g) h2 (j k (AS h1)))
  .rw[List.eq_nil_iff_forall_not_mem];intro id n;obtain⟨x,e,n⟩:=Nw n;obtain⟨i,m⟩:=Ok.1 e;obtain⟨_,y,_,rfl,_⟩:=s i x m;simp[AE]at n
 have other: ∀{v x:AV} {u:Value},VR β w (MS A β h) v u->(C9 h.get v).map AV.d=some x->(∀y,C9 h.get v=some y->EV h h' v)->VR β w (MS A β h') x u/\AE x=[]:=by
  intro v x u g e j;simp only[Bv]at e;obtain⟨y,q,rfl⟩:=e;exact⟨.d (cell g q j),rfl⟩
 unfold Fc at e;split at e
 .rename_i cs;simp only[Bv]at e;obtain⟨xs,p,rfl⟩:=e;cases g with
  |agg _ c l hc=>
   obtain⟨h1,h2⟩:=cells l hc p fun v g=>j v g;exact⟨h1,h2⟩
 .cases e;cases g with
  |fn f a b B b' h1 h2 C r=>
   exact⟨.fn _ [] [] B b' h1 h2 (fun _ _ _ h=>by simp at h) (fun _ _ _ h=>by simp at h),rfl⟩
 .rename_i t cs;simp only[Bv]at e;obtain⟨xs,p,rfl⟩:=e;cases g with
  |iface _ _ u g=>
   cases g with
   |agg _ c l hc=>
    obtain⟨h1,h2⟩:=cells l hc p fun v g=>j v g;exact⟨.iface _ _ _ h1,h2⟩
 .rename_i t k D;simp only[Bv]at e;obtain⟨y,q,rfl⟩:=e;cases g with
  |iface _ _ u g=>
   have o:LJ (.iface t k)=[k]:=by
    cases k<;>first|rfl|exact absurd rfl (D _)
   rw[o]at j;exact⟨.iface _ _ _ (.d (cell g q (j k AG))),rfl⟩
 .rename_i h1 h2 C r;have o:LJ v=[v]:=by
   cases v<;>first|rfl|exact absurd rfl (h1 _)|exact absurd rfl (r _ _)
  rw[o]at j;exact other g e (j v AG)
def Yn{h:AD}(H:HR A β w h)(a: ∀p∈δ,KU h δ p){v:AV}(f:VR β w (MS A β h) v u)(g:Fc h.get v=some x)(e: ∀p∈mark h.get v,p∈δ):
 VR β w (MS A β (h.puts δ)) x u/\AE x=[]:=
 bH H (Ix a).sub f g fun c hc _ i=>Ng a i fun p b=>e p (CS.2 ⟨c,hc,b⟩)
def bM{h:AD}(H:HR A β w h){v:AV}(a:VR β w (MS A β h) v u)(b:Fc h.get v=some x):VR β w (MS A β []) x u/\AE x=[]:=
 bH H (ZY.nil h) a b fun _ _ _ _ _ _=>⟨Gi.nil _,fun _ _ _ _ _ _ _=>Gi.nil _⟩
def Rm{g:G}: ∀{vs xs:List AV},E5 g vs=some xs->xs.length=vs.length/\ ∀(i:Nat) (v x:AV),vs[i]? =some v->xs[i]? =some x->Fc g v=some x
 |[],xs,h=>by simp[E5]at h;subst h;simp
 |v::vs,xs,h=>by
  simp only[E5]at h;split at h
  .rename_i x k h1 h2;cases h;obtain⟨c,e⟩:=Rm h2;refine⟨by simp[c],fun i f j a b=>?_⟩;cases i with
   |zero=>simp at a b;subst a b;exact h1
   |succ i=>simp at a b;exact e i f j a b
  .cases h
variable{c:Array Value}
def zO{h:AD}(H:HR A β w h)(g: ∀p∈δ,KU h δ p){vs xs:List AV}(f:Hh β w (MS A β h) vs c)(b:E5 h.get vs=some xs)(j: ∀v∈vs,∀p∈mark h.get v,p∈δ):
 Hh β w (MS A β (h.puts δ)) xs c/\ ∀x∈xs,AE x=[]:=by
 obtain⟨k,m⟩:=Rm b;have key: ∀(i:Nat) (x:AV) (a:xs[i]? =some x),∃v,vs[i]? =some v/\Fc h.get v=some x:=by
  intro i x a;have e:i<vs.length:=by rw[<-k];exact(BV.1 a).1
  exact⟨_,CO e,m i _ x (CO e) a⟩
 refine⟨⟨by rw[k];exact f.1,fun i x v b l=>?_⟩,fun x b=>?_⟩
 .obtain⟨y,h1,h2⟩:=key i x b;exact(Yn H g (f.2 i y v h1 l) h2 (j y (AS h1))).1
 .obtain⟨i,a⟩:=Ok.1 b;obtain⟨y,h1,h2⟩:=key i x a;have e:i<c.size:=by rw[<-f.1];exact(BV.1 h1).1
  exact(Yn H g (f.2 i y _ h1 (Ex e)) h2 (j y (AS h1))).2
def lN{h:AD}(H:HR A β w h)(b: ∀p∈δ,KU h δ p){vs:List AV}(a:Hh β w (MS A β h) vs c)(j: ∀v∈vs,∀p∈mark h.get v,p∈δ):
 Hh β w (MS A β (h.puts δ)) (OD h.get vs) c:=by
 refine⟨by simp[OD,a.1],fun i x v f e=>?_⟩;simp only[OD,D7,Bv]at f;obtain⟨y,h1,rfl⟩:=f;cases g:Fc h.get y with
 |none=>exact(a.2 i y v h1 e).mono (.refl β) (Ix b).sub.it
 |some x=>exact(Yn H b (a.2 i y v h1 e) g (j y (AS h1))).1
variable{w':World}
def Qa{x:Al}(c:FX x=true)(h:DR w M x v):DR w' M' x v:=by
 cases h with
 |int k n=>exact .int k n
 |bool b=>exact .bool b
 |str s=>exact .str s
 |wl=>exact .wl
 |kw=>exact .kw
 |rc=>exact .rc
 |wd=>exact .wd
 |lst0 a cap=>simp[FX]at c
 |bv es=>simp[FX]at c
def ay: ∀{l:List AV},HG l=true-> ∀x∈l,∃y,x=.d y/\FX y=true
 |[],_,x,a=>by cases a
 |v::l,h,x,a=>by
  cases v with
  |d y=>
   simp only[HG,AP]at h;rcases D0.1 a with rfl|a
   .exact⟨y,rfl,h.1⟩
   .exact ay h.2 x a
  |_=>simp[HG]at h
def TW{β':BK}(b:flat x=true)(h:VR β w M x v):VR β' w' M' x v:=by
 have cells: ∀{cs:List AV} {c:Array Value},HG cs=true->(∀(i:Nat) (x:AV) (v:Value),cs[i]? =some x->c[i]? =some v->VR β w M x v)->
  ∀(i:Nat) (x:AV) (v:Value),cs[i]? =some x->c[i]? =some v->VR β' w' M' x v:=by
  intro cs c b hc i x v j g;obtain⟨y,rfl,k⟩:=ay b x (AS j);cases hc i _ v j g with|d e=>exact .d (Qa k e)
 cases h with
 |d e=>exact .d (Qa b e)
 |d7=>exact .d7
 |emp a=>exact .emp a
 |agg cs c f hc=>exact .agg cs c f (cells b hc)
 |ii cs c f hc=>exact .ii cs c f (cells b hc)
 |iface t v u g=>
  cases g with
  |d e=>exact .iface _ _ _ (.d (Qa b e))
  |agg cs c f hc=>exact .iface _ _ _ (.agg cs c f (cells b hc))
  |_=>simp[flat]at b
 |_=>simp[flat]at b
variable{A:Nat->Prop}{P:Program}{mix:List TypeId}{β β' β'':BK}{w w' w'':World}{M:Nat->Prop}{h h' h'':AD}{π ρ:List Nat}{ci:Option (List Nat)}{nt:NT}{env:Nat->AV}{defs:List Df}{a:Act}
def L0{f:FuncId}(he:MF P f)(args:Array Value):(callFunc f args).run P w=.ok (.enter f args) w:=by
 obtain⟨fn,c,h1,h2,h3⟩:=he;have h3':fn.name≠ "runtime.NumGoroutine" :=by simpa using h3
 simp[callFunc,h1,h2,h3']
variable{A1:Nat->Prop}
def HR.none(a: ∀b,A1 b->b<w.heap.size):HR A1 (fun _=>none) w []:=
 ⟨fun _ _ h=>by simp at h,fun _ _ _ _ _ _ h=>by simp at h,fun _ _ h=>zEa,fun _ _ _ h=>by simp at h,a⟩
def eT{b:Nat}:MS A1 β [] b↔A1 b:=by simp[MS]
def HR.less(H:HR A β w h)(c: ∀id o,h'.get id=some o->h.get id=some o):HR A β w h':=by
 have n: ∀b,MS A β h' b->MS A β h b:=by
  rintro b (e|⟨id,o,k,h1,h2,i,j⟩)
  .exact .inl e
  .exact .inr ⟨id,o,k,c id o h1,h2,i,j⟩
 refine⟨fun id o f=>?_,fun a b r s p q l e=>H.inj a b r s p q (c _ _ l) (c _ _ e),H.bnd,fun id o k f=>H.out id o k (c _ _ f),H.abnd⟩;obtain⟨k,g,m⟩:=H.obj id o (c _ _ f);exact⟨k,g,m.mono (.refl β) (HQ (A:=A) n w) (H.bnd id k g) rfl⟩
def Ud(K:Id->Bool)(h:AD)(id:Id):AD.get (h.filter fun p=>K p.1) id=if K id then h.get id else none:=by
 induction h with
 |nil=>simp
 |cons p h b=>
  obtain⟨k,o⟩:=p;rw[Rw,AD.get_cons];by_cases e:k=id
  .subst e;cases a:K k with
   |true=>simp[AD.get_cons]
   |false=>rw[Ci zEg,b];simp[a]
  .rw[Ci e,<-b];split
   .rw[AD.get_cons,Ci e]
   .rfl
def Mc(ρ:List Nat)(id:Id):Bool:=match id with|0::l=> !Id.under ρ l|_=>true
def Yp{id:Id}(hc:Mc ρ id=false):ρ<:+id:=by
 unfold Mc at hc;split at hc
 .rename_i l;have:Id.under ρ l=true:=by simpa using hc
  exact((Id.under_iff ρ l).1 this).trans (F5 0 l)
 .cases hc
def Yq(h:AD)(id:Id):(gc ρ h).get id=h.get id\/((gc ρ h).get id=none/\ρ<:+id):=by
 have e:gc ρ h=h.filter fun p=>Mc ρ p.1:=rfl;rw[e,Ud (Mc ρ)];cases hc:Mc ρ id with
 |true=>exact .inl rfl
 |false=>exact .inr ⟨rfl,Yp hc⟩
def Og{id:Id}{o:Obj}(a:(gc ρ h).get id=some o):h.get id=some o:=by
 rcases Yq (ρ:=ρ) h id with e|⟨e,_⟩
 .rw[<-e];exact a
 .rw[e]at a;cases a
def CN.gc(g:CN A ci ρ β w h β' w' h'):CN A ci ρ β w h β' w' (gc ρ h'):=by
 refine⟨g.out,g.hr.less fun id o=>Og,⟨g.it.pm,g.it.size,fun b a=>g.it.sub b ?_,g.it.io⟩,fun q f p=>?_⟩
 .rcases a with a|⟨id,o,k,h1,h2,m,n⟩
  .exact .inl a
  .exact .inr ⟨id,o,k,Og h1,h2,m,n⟩
 .obtain⟨i,j,l⟩:=g.kept q f p;refine⟨i,j,fun id c=>?_⟩;rcases Yq (ρ:=ρ) h' id with e|⟨_,e⟩
  .rw[e];exact l id c
  .exact absurd (f.trans e) c
def HR.same(H:HR A β w h)(c: ∀b,b<w.heap.size->w'.heap[b]? =w.heap[b]?)(e:w.heap.size<=w'.heap.size)(g:w'.os=w.os/\w'.output=w.output):HR A β w' h:=
 H.step (.refl β) ⟨fun b f _=>c b f,e,fun _ h=>.inl h,g⟩ (fun id o i=>.inl ⟨i,fun k a=>c k.b (H.bnd id k a)⟩) H.inj (fun id k a=>NL (H.bnd id k a) e) H.out
def L6(H:HR A β w h)(c: ∀b,b<w.heap.size->w'.heap[b]? =w.heap[b]?)(f:w.heap.size<=w'.heap.size)(e:w'.os=w.os/\w'.output=w.output):CN A ci ρ β w h β w' h:=
 ⟨fun _ _=>rfl,H.same c f e,⟨fun b a _=>c b a,f,fun _ h=>.inl h,e⟩,fun _ _ _=>⟨fun b a _=>c b a,fun _ a=>.inl a,fun _ _=>rfl⟩⟩
variable{h1:AD}
def xf(i:HR A β w h1)(P: ∀b,b<w.heap.size->w'.heap[b]? =w.heap[b]?)(J:w.heap.size<=w'.heap.size)(Y:w'.os=w.os/\w'.output=w.output)(Q:Ga β ρ)(n:HR A1 β' w' h2)
 (R: ∀id,β' id≠none->ρ<:+id) (r: ∀id k,β' id=some k->w.heap.size<=k.b) (O: ∀b,MS A β h1 b->A1 b):
 ∃β2,Le β β2/\Le β' β2/\(∀id,¬ρ<:+id->β2 id=β id)/\(∀id k,β2 id=some k->β id=some k\/(ρ<:+id/\w.heap.size<=k.b))/\HR A β2 w' (h1++h2)/\(∀b,MS A β2 (h1++h2) b->MS A1 β' h2 b)/\
  FG A (MS A β h1) w (MS A β2 (h1++h2)) w':=by
 classical
 let β2:BK:=fun id=>if ρ<:+id then β' id else β id
 have C:Le β β2:=fun id k c=>by
  have: ¬ρ<:+id:=fun I=>by rw[Q id I]at c;cases c
  simp only[β2,Ci this];exact c
 have D:Le β' β2:=fun id k c=>by
  simp only[β2,D4 (R id zFO)];exact c
 have m: ∀id k,β2 id=some k->(ρ<:+id/\β' id=some k)\/(¬ρ<:+id/\β id=some k):=fun id k c=>by
  by_cases e:ρ<:+id
  .simp only[β2,D4 e]at c;exact .inl ⟨e,c⟩
  .simp only[β2,Ci e]at c;exact .inr ⟨e,c⟩
 have ag: ∀id o,h1.get id=some o-> ¬ρ<:+id:=fun id o g I=>by
  obtain⟨k,c,_⟩:=i.obj id o g;rw[Q id I]at c;cases c
 have ai: ∀id o,h2.get id=some o->ρ<:+id:=fun id o g=>by
  obtain⟨k,c,_⟩:=n.obj id o g;exact R id zFO
 have gt: ∀id o,(h1++h2).get id=some o->(h1.get id=some o/\ ¬ρ<:+id)\/(h2.get id=some o/\ρ<:+id):=by
  intro id o g;rw[AD.get_append]at g;cases F:h1.get id with
  |some o'=>rw[F]at g;cases g;exact .inl ⟨rfl,ag id _ F⟩
  |none=>rw[F]at g;exact .inr ⟨g,ai id _ g⟩
 have U: ∀b,MS A β2 (h1++h2) b->MS A1 β' h2 b:=by
  rintro b (h|⟨id,o,k,M,u,N,rfl⟩)
  .exact .inl (O b (.inl h))
  .rcases gt id o M with⟨g1,f⟩|⟨g1,f⟩<;>rcases m id k N with⟨j,l⟩|⟨j,l⟩
   .exact absurd j f
   .exact .inl (O k.b (.inr ⟨id,o,k,g1,u,l,rfl⟩))
   .exact .inr ⟨id,o,k,g1,u,l,rfl⟩
   .exact absurd f j
 have V:FG A (MS A β h1) w (MS A β2 (h1++h2)) w':=by
  refine⟨fun b h _=>P b h,J,?_,Y⟩;rintro b (h|⟨id,o,k,M,u,N,rfl⟩)
  .exact .inl (.inl h)
  .rcases gt id o M with⟨g1,f⟩|⟨g1,f⟩<;>rcases m id k N with⟨j,l⟩|⟨j,l⟩
   .exact absurd j f
   .exact .inl (.inr ⟨id,o,k,g1,u,l,rfl⟩)
   .exact .inr (r id k l)
   .exact absurd f j
 refine⟨β2,C,D,fun id X=>by simp only[β2,Ci X],fun id k c=>?_,⟨fun id o g=>?_,?_,fun id k c=>?_,fun id o k g ad c h=>?_,fun b h=>NL (i.abnd b h) J⟩,U,V⟩
 .rcases m id k c with⟨g1,f⟩|⟨g1,f⟩
  .exact .inr ⟨g1,r id k f⟩
  .exact .inl f
 .rcases gt id o g with⟨g1,f⟩|⟨g1,f⟩
  .obtain⟨k,c,H⟩:=i.obj id o g1;exact⟨k,C _ _ c,H.mono C V (i.bnd id k c) (P k.b (i.bnd id k c))⟩
  .obtain⟨k,c,H⟩:=n.obj id o g1;exact⟨k,D _ _ c,H.mono D (HQ (A:=A) U w') (n.bnd id k c) rfl⟩
 .intro a b K L s t W h S T Z ac e;rcases gt a K W with⟨v,x⟩|⟨v,x⟩<;>rcases gt b L h with⟨b1,z⟩|⟨b1,z⟩<;>
   rcases m a s Z with⟨y,p⟩|⟨y,p⟩<;>rcases m b t ac with⟨B,q⟩|⟨B,q⟩<;>try(first|exact absurd y x|exact absurd B z|exact absurd x y|exact absurd z B)
  .exact i.inj a b K L s t v b1 S T p q e
  .have:=i.bnd a s p;have:=r b t q;omega
  .have:=i.bnd b t q;have:=r a s p;omega
  .exact n.inj a b K L s t v b1 S T p q e
 .rcases m id k c with⟨g1,f⟩|⟨g1,f⟩
  .exact n.bnd id k f
  .exact NL (i.bnd id k f) J
 .rcases gt id o g with⟨g1,f⟩|⟨g1,f⟩<;>rcases m id k c with⟨j,l⟩|⟨j,l⟩
  .exact absurd j f
  .exact i.out id o k g1 ad l h
  .have:=i.abnd _ h;have:=r id k l;omega
  .exact absurd f j
def PY(H:HR A β w h)(a: ∀p∈δ,KU h δ p)(c:LQ ci δ=true):CN A ci ρ β w h β w (h.puts δ):=
 K8 (.refl β) (fun _ b=>.inl b) ((Ix a).hr H) (Ix a).sub.it (.refl _ _ _) c
def H5(A:Nat->Prop)(ci:Option (List Nat))(ρ:List Nat)(nt:NT)(β:BK)(w:World)(h:AD)(env:Nat->AV)(defs:List Df)(a:Act)(h':AD):A8->Ending->World->Prop
 |.ret v,.returned u,w'=> ∃β',CN A ci ρ β w h β' w' h'/\M0 A β' w' nt env defs h' a/\VR β' w' (MS A β' h') v u
 |.ge v,.panicked chain,w'=> ∃β' u,CN A ci ρ β w h β' w' h'/\M0 A β' w' nt env defs h' a/\chain=[{v:=u,recovered:=false}]/\VR β' w' (MS A β' h') v u
 |_,_,_=>False
variable{e:Ending}
def Tb{r:A8×AD}(g1:CN A ci ρ β w h β w h1)(q:Ga β ρ)(s:M0 A β w nt env defs h a)(p:QB A ci ρ β w h1 r e w'):
 H5 A ci ρ nt β w h env defs a (gc ρ r.2) r.1 e w':=by
 obtain⟨β',g,f⟩:=p;have g':=(g1.trans g).gc;have l:=s.mono (g'.le q) g'.it;have m: ∀b,MS A β' (gc ρ r.2) b->MS A β' r.2 b:=by
  rintro b (n|⟨id,o,k,h1,h2,i,j⟩)
  .exact .inl n
  .exact .inr ⟨id,o,k,Og h1,h2,i,j⟩
 obtain⟨c,h'⟩:=r;cases c with
 |ret v=>cases e with
  |returned u=>exact⟨β',g',l,VR.mono (.refl _) (HQ (A:=A) m w') f⟩
  |_=>exact f.elim
 |ge v=>cases e with
  |panicked chain=>
   obtain⟨u,i,j⟩:=f;exact⟨β',u,g',l,i,j.mono (.refl _) (HQ (A:=A) m w')⟩
  |_=>exact f.elim
def r5{r:A8×AD}(H:HR A β w h)(i:Ga β ρ)(s:M0 A β w nt env defs h a)(t:QB A (some ρ) ρ β w h1 r e w')(j: ∀v,r.1=.ret v\/r.1=.ge v->flat v=true):
 H5 A ci ρ nt β w h env defs a h r.1 e w':=by
 obtain⟨β',g,f⟩:=t;obtain⟨x,_,_⟩:=g.kept ρ (List.suffix_refl _) (.inl rfl);have p: ∀b,b<w.heap.size->w'.heap[b]? =w.heap[b]? :=fun b q=>x b q fun⟨id,k,u1,m,_⟩=>by rw[i id u1]at m;cases m
 have g':CN A ci ρ β w h β w' h:=L6 H p g.it.size g.it.io;have l:=s.mono (g'.le i) g'.it;obtain⟨c,h'⟩:=r;cases c with
 |ret v=>cases e with
  |returned u=>exact⟨β,g',l,TW (j v (.inl rfl)) f⟩
  |_=>exact f.elim
 |ge v=>cases e with
  |panicked chain=>
   obtain⟨u,n,o⟩:=f;exact⟨β,u,g',l,n,TW (j v (.inr rfl)) o⟩
  |_=>exact f.elim
section loops
variable{W:Lp->Prop}
def Yx:Obj->Bool
 |.loop _=>true
 |_=>false
def Bm(δ:AD):Prop:= ∀p∈δ,Yx p.2=false
def Bm.nil:Bm []:=fun _ h=>by cases h
def Bm.append{a b:AD}(h1:Bm a)(h2:Bm b):Bm (a++b):=fun p c=>(EL.1 c).elim (h1 p) (h2 p)
def Bm.one{id:Id}{o:Obj}(h:Yx o=false):Bm [(id,o)]:=fun p a=>by rw[Ac.1 a];exact h
def Bm.cons{id:Id}{o:Obj}{δ:AD}(h:Yx o=false)(h2:Bm δ):Bm ((id,o)::δ):=fun p a=>by
 rcases D0.1 a with rfl|a
 .exact h
 .exact h2 p a
theorem Bm.marks{g:G}(vs:List AV):Bm (Ca g vs):=fun p a=>by
 obtain⟨sz,es,h,_⟩:=Kl a;rw[h];rfl
def Bm.markEs{g:G}(es:List (List AV)):Bm (es.flatMap (Ca g)):=fun p a=>by
 obtain⟨e,_,a⟩:=CS.1 a;exact Bm.marks e p a
def LW.puts{h δ:AD}(c:LW W h)(f:Bm δ):LW W (h.puts δ):=fun id r a=>by
 rcases Jq δ h id with⟨h1,_⟩|⟨p,h1,_,b⟩
 .rw[h1]at a;exact c id r a
 .rw[b]at a;have e:=Ip a;have:=f p h1;rw[e]at this;cases this
def LW.gc{h:AD}(a:LW W h):LW W (gc ρ h):=fun id r b=>a id r (Og b)
def LW.cons{h:AD}{o:Id×Obj}(b:LW W h)(c:Yx o.2=false):LW W (o::h):=fun id r a=>by
 obtain⟨i,e⟩:=o;rw[AD.get_cons]at a;split at a
 .cases a;cases c
 .exact b id r a
def LW.append{h h2:AD}(h1:LW W h)(c:LW W h2):LW W (h++h2):=fun id r a=>by
 rw[AD.get_append]at a;cases b:h.get id with
 |none=>rw[b]at a;exact c id r a
 |some o=>rw[b]at a;cases a;exact h1 id r b
def LW.nil:LW W []:=fun _ _ h=>by cases h
theorem Bm.markAll{h:AD}(as:List AV):Bm (as.flatMap (mark h.get)):=fun p a=>by
 rcases Ml (h:=h) (as:=as) p a with⟨_,_,e,_⟩|⟨_,_,_,e,_⟩<;>rw[e]<;>rfl
end loops
variable{A:Nat->Prop}{P:Program}{mix:List TypeId}{β β' β'':BK}{w w' w'':World}{M:Nat->Prop}{h h' h'':AD}{π ρ:List Nat}{ci:Option (List Nat)}{nt:NT}{env:Nat->AV}{defs:List Df}{a:Act}{W:Lp->Prop}
variable{δ:AD}
def dK{h h':AD}{id:Id}(a:id∈δ.map (·.1)):(h.puts δ).get id=(h'.puts δ).get id:=by
 induction δ generalizing h h' with
 |nil=>cases a
 |cons p δ g=>
  rw[AD.puts_cons,AD.puts_cons];by_cases e:id∈δ.map (·.1)
  .exact g e
  .have c:p.1=id:=by
    rcases D0.1 a with h1|h1
    .exact h1.symm
    .exact absurd h1 e
   have b: ∀q∈δ,q.1≠id:=fun q f e'=>e (F1.2 ⟨q,f,e'⟩);rw[L5 b,L5 b,AD.get_put,AD.get_put,D4 c,D4 c]
def N0{h:AD}{id:Id}(a:id∉δ.map (·.1)):(h.puts δ).get id=h.get id:=
 L5 fun q b e=>a (F1.2 ⟨q,b,e⟩)
def ip(wr:Option (List Id))(new old:G):G:=fun id=>match wr with
 |some l=>if id∈l then new id else old id
 |none=>new id
variable{g g':G}
def Sl{vs:List AV}(h: ∀v∈vs,C9 g v=C9 g' v):IK g vs=IK g' vs:=by
 induction vs with
 |nil=>rfl
 |cons v vs b=>simp only[IK,h v AG,b fun x a=>h x zEg]
def Lz{l m:List Id}(h: ∀id∈m,id∈l): ∀id∈C2 g m,id∈C2 g l:=by
 intro id a;rcases EL.1 a with a|a
 .exact Hw _ (h id a)
 .obtain⟨x,h1,h2⟩:=CS.1 a;exact HU _ (CS.2 ⟨x,h x h1,h2⟩)
variable{v:AV}
def fu(h:At g g' (C2 g (AE v))):C9 g v=C9 g' v:=by
 have hc:FQ g v=FQ g' v:=Uh (h.mono fun id b=>Hw _ b);cases v with
 |f8 id off n=>
  have e:=h id (Hw _ BH);cases a:g id with
  |none=>
   rw[a]at e;simp only[C9,a,<-e];exact hc
  |some o=>
   rw[a]at e;cases o with
   |arr sz es=>
    simp only[C9,a,<-e];rw[K7 (g:=g) (g':=g') (es:=es) (h.mono fun i b=>HU _ (CS.2 ⟨id,BH,by simp only[a];exact b⟩))]
   |_=>simp only[C9,a,<-e];exact hc
 |_=>exact hc
def cL(h:At g g' (C2 g (AE v))):Di g v=Di g' v:=by
 cases v with
 |f8 id off n=>
  have e:=h id (Hw _ BH);simp only[Di];rw[<-e];cases b:g id with
  |none=>rfl
  |some o=>
   cases o with
   |arr sz es=>
    have a:At g g' (es.flatMap A9):=h.mono fun i c=>HU _ (CS.2 ⟨id,BH,by simp only[b];exact c⟩);simp only[K7 a,Mj a]
   |_=>rfl
 |_=>rfl
def Xp{v x:AV}(a:x∈LJ v): ∀id∈AE x,id∈AE v:=by
 intro id b;cases v with
 |agg cs=>exact L9 a b
 |iface t u=>
  cases u with
  |agg cs=>simp only[AE];exact L9 a b
  |_=>simp only[LJ,Ac]at a;subst a;simpa[AE]using b
 |_=>simp only[LJ,Ac]at a;subst a;exact b
def ft(h:At g g' (C2 g (AE v))):Fc g v=Fc g' v:=by
 have c: ∀x∈LJ v,C9 g x=C9 g' x:=fun x e=>fu (h.mono (Lz (Xp e)));cases v with
 |agg cs=>simp only[Fc];rw[Sl (vs:=cs) c]
 |iface t u=>
  cases u with
  |agg cs=>simp only[Fc];rw[Sl (vs:=cs) c]
  |_=>simp only[Fc];rw[c _ (by simp[LJ])]
 |fn f a b=>cases a<;>cases b<;>first|rfl|(simp only[Fc];rw[c _ (by simp[LJ])])
 |_=>simp only[Fc];rw[c _ (by simp[LJ])]
def iQ(h:At g g' (C2 g (AE v))):mark g v=mark g' v:=by
 unfold mark;have: ∀l:List AV,(∀x∈l,Di g x=Di g' x)->l.flatMap (Di g)=l.flatMap (Di g'):=by
  intro l a;induction l with
  |nil=>rfl
  |cons x l e=>simp only[EM,a x AG,e fun y c=>a y zFW]
 exact this _ fun x b=>cL (h.mono (Lz (Xp b)))
def Mb{vs:List AV}(h:At g g' (C2 g (A9 vs))):E5 g vs=E5 g' vs:=by
 induction vs with
 |nil=>rfl
 |cons v vs b=>
  simp only[E5];rw[ft (v:=v) (h.mono (Lz fun id a=>by simp[A9,a])),b (h.mono (Lz fun id a=>by simp[A9,a]))]
def cN{vs:List AV}(h:At g g' (C2 g (A9 vs))):vs.flatMap (mark g)=vs.flatMap (mark g'):=by
 induction vs with
 |nil=>rfl
 |cons v vs b=>
  simp only[EM];rw[iQ (v:=v) (h.mono (Lz fun id a=>by simp[A9,a])),b (h.mono (Lz fun id a=>by simp[A9,a]))]
variable{as xs:List AV}
def Pr{f:FuncId}{vs:Array Value}{r:A8×AD}(H:HR A β w h)(T:jw P W (.fn f) xs [] π false none r)(c:E5 h.get as=some xs)(a:Hh β w (MS A β h) as vs):
 Calls P f vs w (QB (MS A β (h.puts (as.flatMap (mark h.get)))) none π (fun _=>none) w [] r):=by
 have g:=Ml (h:=h) (as:=as);have m: ∀v∈as,∀p∈mark h.get v,p∈as.flatMap (mark h.get):=fun v a p l=>CS.2 ⟨v,a,l⟩;obtain⟨j,n⟩:=zO H g a c m;have k:=(Ix g).hr H;refine T.pu rfl rfl rfl (MS A β (h.puts (as.flatMap (mark h.get)))) w vs (HR.none fun b e=>rm k e) (fun _ _=>rfl) ⟨j.1,fun i x v c a=>?_⟩;exact(j.2 i x v c a).noIds (fun b e=>eT.1 e) (n x (AS c))
structure rr(A1:Nat->Prop)(π:List Nat)(w:World)(r:A8×AD)(β':BK)(w':World):Prop where
 all: ∀b,b<w.heap.size->w'.heap[b]? =w.heap[b]?
 size:w.heap.size<=w'.heap.size
 io:w'.os=w.os/\w'.output=w.output
 hr:HR A1 β' w' r.2
 ids: ∀id,β' id≠none->π<:+id
 new: ∀id k,β' id=some k->w.heap.size<=k.b
variable{A1:Nat->Prop}{e:Ending}
def Ow{r:A8×AD}(j:QB A1 none π (fun _=>none) w [] r e w'): ∃β',rr A1 π w r β' w'/\OW β' w' (MS A1 β' r.2) r.1 e:=by
 obtain⟨β',g,n⟩:=j;have f: ∀id,β' id≠none->π<:+id:=fun id l=>by
  by_cases e:π<:+id
  .exact e
  .exact absurd (g.out id e) l
 refine⟨β',⟨fun b c=>?_,g.it.size,g.it.io,g.hr,f,fun id k i=>?_⟩,n⟩
 .by_cases a:A1 b
  .exact g.it.pm b c (.inr a)
  .exact g.it.pm b c (.inl fun m=>a (eT.1 m))
 .obtain⟨_,o,_⟩:=g.kept π (List.suffix_refl _) (.inr fun _ h=>absurd rfl h);rcases o k.b ⟨id,k,f id (by rw[i];simp),i,rfl⟩with⟨_,_,_,h1,_⟩|h1
  .cases h1
  .exact h1
def qI{r:A8×AD}(H:HR A β w h)(l:Ga β ρ)(s:M0 A β w nt env defs h a)(k:QB A1 none π (fun _=>none) w [] r e w')
 (f: ∀v,r.1=.ret v\/r.1=.ge v->flat v=true):H5 A ci ρ nt β w h env defs a h r.1 e w':=by
 obtain⟨β',L,b⟩:=Ow k;have g':CN A ci ρ β w h β w' h:=L6 H L.all L.size L.io;have g:=s.mono (g'.le l) g'.it;obtain⟨c,h'⟩:=r;cases c with
 |ret v=>cases e with
  |returned u=>exact⟨β,g',g,TW (f v (.inl rfl)) b⟩
  |_=>exact b.elim
 |ge v=>cases e with
  |panicked chain=>
   obtain⟨u,i,j⟩:=b;exact⟨β,u,g',g,i,TW (f v (.inr rfl)) j⟩
  |_=>exact b.elim
variable{h2:AD}
def bG{h1:AD}(H:HR A β w h)(l:Ga β ρ)(g1:CN A ci ρ β w h β w h1)(j: ∀b,b<w.heap.size->w'.heap[b]? =w.heap[b]?)(K:w.heap.size<=w'.heap.size)(F:w'.os=w.os/\w'.output=w.output)
 (g:HR A1 β' w' h2) (p: ∀id,β' id≠none->ρ<:+id) (I: ∀id k,β' id=some k->w.heap.size<=k.b) (B: ∀b,MS A β h1 b->A1 b):
 ∃β2,Le β' β2/\CN A ci ρ β w h β2 w' (h2++h1)/\ ∀b,MS A β2 (h2++h1) b->MS A1 β' h2 b:=by
 obtain⟨β2,R,t,u,v,x,y,z⟩:=xf g1.hr j K F l g p I B;have L: ∀id o,h1.get id=some o-> ¬ρ<:+id:=fun id o e J=>by
  obtain⟨k,c,_⟩:=g1.hr.obj id o e;rw[l id J]at c;cases c
 have r: ∀id o,h2.get id=some o->ρ<:+id:=fun id o e=>by
  obtain⟨k,c,_⟩:=g.obj id o e;exact p id zFO
 have m: ∀id,(h1++h2).get id=(h2++h1).get id:=by
  intro id;rw[AD.get_append,AD.get_append];cases C:h1.get id with
  |none=>cases h2.get id<;>rfl
  |some o=>cases a:h2.get id with
   |none=>rfl
   |some o'=>exact absurd (r _ _ a) (L _ _ C)
 have i:=MS.congr (A:=A) (β:=β2) m;refine⟨β2,t,⟨u,x.congr m,?_,fun O q D=>?_⟩,by rw[<-i];exact y⟩
 .rw[<-i];exact g1.it.trans z
 .obtain⟨P,Q,s⟩:=g1.kept O q D;refine⟨fun b a S=>j b a,?_,fun id n=>?_⟩
  .rintro b ⟨id,k,M,N,rfl⟩;rcases v id k N with f|⟨_,f⟩
   .exact .inl ⟨id,k,M,f,rfl⟩
   .exact .inr f
  .rw[AD.get_append];cases a:h2.get id with
   |none=>exact s id n
   |some o=>exact absurd (q.trans (r _ _ a)) n
def qJ(H:HR A β w h)(c:Ga β ρ)(s:M0 A β w nt env defs h a)(l:LQ ci (as.flatMap (mark h.get))=true)
 (j:QB (MS A β (h.puts (as.flatMap (mark h.get)))) none ρ (fun _=>none) w [] (.ret v,h2) e w'):
 H5 A ci ρ nt β w h env defs a (h2++h.puts (as.flatMap (mark h.get))) (.ret v) e w':=by
 obtain⟨β',L,f⟩:=Ow j;have g1:=PY (ρ:=ρ) (ci:=ci) H (Ml (as:=as)) l;obtain⟨β2,m,g,k⟩:=bG H c g1 L.all L.size L.io L.hr L.ids L.new fun b i=>i;cases e with
 |returned u=>exact⟨β2,g,s.mono (g.le c) g.it,VR.mono m (HQ (A:=A) k w') f⟩
 |_=>exact f.elim
def jA{as:List AV}{v:AV}{h2:AD}{e:Ending}(H:HR A β w h)(l:Ga β ρ)(s:M0 A β w nt env defs h a)(n:LQ ci (as.flatMap (mark h.get))=true)(m:AE v=[])(i:h2=[])
 (k:QB (MS A β (h.puts (as.flatMap (mark h.get)))) none [] (fun _=>none) w [] (.ret v,h2) e w'):
 H5 A ci ρ nt β w h env defs a (h2++h.puts (as.flatMap (mark h.get))) (.ret v) e w':=by
 subst i;obtain⟨β',L,c⟩:=Ow k;have g1:=PY (ρ:=ρ) (ci:=ci) H (Ml (as:=as)) n;have f:CN A ci ρ β w (h.puts (as.flatMap (mark h.get))) β w' (h.puts (as.flatMap (mark h.get))):=L6 g1.hr L.all L.size L.io;have g:=g1.trans f;cases e with
 |returned u=>exact⟨β,g,s.mono (g.le l) g.it,VR.noIds (fun b j=>eT.2 j) c m⟩
 |_=>exact c.elim
def wQ{o:Id×Obj}(H:HR A β w h)(t:Ga β ρ)(s:M0 A β w nt env defs h a)(f:CB v h2=some o)
 (M:QB A1 none ρ (fun _=>none) w [] (.ret v,h2) e w'):H5 A ci ρ nt β w h env defs a (o::h) (.ret v) e w':=by
 obtain⟨β',L,z⟩:=Ow M;unfold CB at f;split at f
 .rename_i id off n;split at f
  .rename_i sz es P;split at f
   .rename_i O;cases f;obtain⟨k,Q,c,elem,X,Y,Z,ac,ad,ag,ai⟩:=L.hr.obj id _ P;have C:HR (MS A β h) β' w' [(id,.em sz es)]:=by
     have q: ∀{i:Id} {p:Obj},AD.get [(id,Obj.em sz es)] i=some p->i=id/\p=.em sz es:=by
      intro i p m;rw[AD.get_cons]at m;split at m
      .rename_i e';cases m;exact⟨e'.symm,rfl⟩
      .cases m
     refine⟨fun i p m=>?_,fun a b az p ar av K l _ _ _ _ _=>by rw[(q K).1,(q l).1],L.hr.bnd,fun i p r m S R l=>?_,fun b l=>NL (rm H l) L.size⟩
     .obtain⟨rfl,rfl⟩:=q m;refine⟨k,Q,c,elem,X,Y,Z,ac,ad,ag,fun j x y B V=>Qa ?_ (ai j x y B V)⟩;obtain⟨e',N,U⟩:=Nl.1 (AS B);exact D3.1 (D3.1 O e' N) x U
     .have:=rm H l;have:=L.new i r R;omega
    obtain⟨β2,W,g,S⟩:=bG (ci:=ci) H t (CN.refl H) L.all L.size L.io C L.ids L.new fun b l=>l;cases e with
    |returned u=>
     refine⟨β2,g,s.mono (g.le t) g.it,?_⟩;have T:VR β' w' (MS A1 β' h2) (.f8 id off n) u:=z;cases T with
     |f8 _ _ _ r D cap h1 F I J=>exact .f8 _ _ _ r D cap (W _ _ h1) F I J
    |_=>exact z.elim
   .cases f
  .cases f
 .cases f
variable{A:Nat->Prop}{P:Program}{mix:List TypeId}{β β' β'':BK}{w w' w'':World}{M:Nat->Prop}{h h' h'':AD}{π ρ:List Nat}{ci:Option (List Nat)}{nt:NT}{env:Nat->AV}{defs defs':List Df}{a:Act}{ro:Option Nat}{W:Lp->Prop}
def jq(rd:Option (List Id))(g g2:G):Prop:=match rd with
 |some l=>At g g2 l
 |none=> ∀id,g id=g2 id
def QD(P:Program)(ro:Option Nat)(ci:Option (List Nat))(ρ:List Nat)(nt:NT)(o:Oper)(env:Nat->AV)(defs:List Df)(h:AD)(v:AV)(defs':List Df)(h':AD):Prop:=
 ∀(A:Nat->Prop) (β:BK) (w:World) (a:Act),HR A β w h->Ga β ρ->M0 A β w nt env defs h a-> ∀(next:Act->World->Prop) (Q:Exit->Act->World->Prop),
  (∀a' w',H3 A ci ρ nt β w h (SC env o.dst v) defs' h' a' w'->next a' w')->o.wpIn (FF ro) 0 P a w next Q
def YG(A:Nat->Prop)(ci:Option (List Nat))(π:List Nat)(nt:NT)(β:BK)(w:World)(h:AD)(env:Nat->AV)(defs:List Df)(h':AD)(v:AV)(u:Value)(a':Act)(w':World):Prop:=
 ∃β',CN A ci π β w h β' w' h'/\M0 A β' w' nt env defs h' a'/\VR β' w' (MS A β' h') v u
def YH(P:Program)(ro:Option Nat)(ci:Option (List Nat))(ρ:List Nat)(nt:NT)(o:Oper)(env:Nat->AV)(defs:List Df)(h:AD)(v:AV)(h':AD):Prop:=
 ∀(A:Nat->Prop) (β:BK) (w:World) (a:Act),HR A β w h->Ga β ρ->M0 A β w nt env defs h a-> ∀(next:Act->World->Prop) (Q:Exit->Act->World->Prop),
  (∀a' w' u,YG A ci ρ nt β w h env defs h' v u a' w'->Q (.panic [{v:=u,recovered:=false}]) a' w')->o.wpIn (FF ro) 0 P a w next Q
variable{o:Oper}{Q:Exit->Act->World->Prop}
def XD{g:FuncId}{vs:Array Value}{next:Act->World->Prop}(k:(o.semAt ro a.eval).run P w=.ok (.enter g vs) w)(f: ∀d,o.dst=some d->d<nt.n)
 (hc:Calls P g vs w (H5 A ci ρ nt β w h env defs a h' (.ret v))) (j: ∀c w',H3 A ci ρ nt β w h (SC env o.dst v) defs h' c w'->next c w'):o.wpIn (FF ro) 0 P a w next Q:=by
 refine⟨fun _ _=>trivial,?_⟩;have e:(o.semAt (FF ro).round a.eval).run P w=.ok (.enter g vs) w:=k;rw[e,Oper.uponIn_enter];refine⟨fun i=>by simp[FF,Fence.wide]at i,CallsIn.mono (callsIn_wide.2 hc) ?_⟩;intro e w'' b;cases e with
 |returned u=>
  obtain⟨β',g',s,l⟩:=b;exact j _ _ ⟨β',g',s.put f l⟩
 |panicked chain=>exact b.elim
 |outgrown=>exact b.elim
def XC{g:FuncId}{vs:Array Value}{next:Act->World->Prop}(j:(o.semAt ro a.eval).run P w=.ok (.enter g vs) w)
 (hc:Calls P g vs w (H5 A ci ρ nt β w h env defs a h' (.ge v))) (i: ∀c w' u,YG A ci ρ nt β w h env defs h' v u c w'->Q (.panic [{v:=u,recovered:=false}]) c w'):o.wpIn (FF ro) 0 P a w next Q:=by
 refine⟨fun _ _=>trivial,?_⟩;have e:(o.semAt (FF ro).round a.eval).run P w=.ok (.enter g vs) w:=j;rw[e,Oper.uponIn_enter];refine⟨fun f=>by simp[FF,Fence.wide]at f,CallsIn.mono (callsIn_wide.2 hc) ?_⟩;intro e w'' b;cases e with
 |returned u=>exact b.elim
 |panicked chain=>
  obtain⟨β',u,g',s,rfl,k⟩:=b;exact i _ _ u ⟨β',g',s,k⟩
 |outgrown=>exact b.elim
variable{ts:Array Value}{of body:Code}
def qf{k:Nat}{f:FuncId}{next:Act->World->Prop}(l:(o.semAt ro a.eval).run P w=.ok (.round k f ts of body) w)(g: ∀d,o.dst=some d->d<nt.n)
 (hc:RoundIn Fence.wide 0 P k f ts of body w (H5 A ci ρ nt β w h env defs a h' (.ret v))) (j: ∀c w',H3 A ci ρ nt β w h (SC env o.dst v) defs h' c w'->next c w'):o.wpIn (FF ro) 0 P a w next Q:=by
 refine⟨fun _ _=>trivial,?_⟩;have e:(o.semAt (FF ro).round a.eval).run P w=.ok (.round k f ts of body) w:=l;rw[e,Oper.uponIn_round];refine⟨fun i=>by simp[FF,Fence.wide]at i,RoundIn.mono (F:=Fence.wide) hc ?_⟩;intro e w'' b;cases e with
 |returned u=>
  obtain⟨β',g',s,m⟩:=b;exact j _ _ ⟨β',g',s.put g m⟩
 |panicked chain=>exact b.elim
 |outgrown=>exact b.elim
def qe{k:Nat}{f:FuncId}{next:Act->World->Prop}(j:(o.semAt ro a.eval).run P w=.ok (.round k f ts of body) w)
 (hc:RoundIn Fence.wide 0 P k f ts of body w (H5 A ci ρ nt β w h env defs a h' (.ge v))) (i: ∀c w' u,YG A ci ρ nt β w h env defs h' v u c w'->Q (.panic [{v:=u,recovered:=false}]) c w'):o.wpIn (FF ro) 0 P a w next Q:=by
 refine⟨fun _ _=>trivial,?_⟩;have e:(o.semAt (FF ro).round a.eval).run P w=.ok (.round k f ts of body) w:=j;rw[e,Oper.uponIn_round];refine⟨fun g=>by simp[FF,Fence.wide]at g,RoundIn.mono (F:=Fence.wide) hc ?_⟩;intro e w'' b;cases e with
 |returned u=>exact b.elim
 |panicked chain=>
  obtain⟨β',u,g',s,rfl,l⟩:=b;exact i _ _ u ⟨β',g',s,l⟩
 |outgrown=>exact b.elim
def My(P:Program)(ci:Option (List Nat))(ρ:List Nat)(nt:NT)(f:FuncId)(as:List AV)(env:Nat->AV)(defs:List Df)(h:AD)(h':AD)(c:A8):Prop:=
 ∀(A:Nat->Prop) (β:BK) (w:World) (a:Act) (vs:Array Value),HR A β w h->Ga β ρ->M0 A β w nt env defs h a->Hh β w (MS A β h) as vs->Calls P f vs w (H5 A ci ρ nt β w h env defs a h' c)
variable{K:Ab}{st:St}{hc:AD}
def bA(o:EC P W K){f:FuncId}{c:A8}(m:LW W st.heap)(l:K (.fn f) (OD st.heap.get as) (st.heap.puts (as.flatMap (mark st.heap.get))) ρ true (some ρ)=.ok (c,hc))
 (t: ∀v,c=.ret v\/c=.ge v->flat v=true)  (i: ∀id,st.heap.get id=h2.get id):My P ci ρ nt f as env defs h2 h2 c:=by
 intro A β w a vs H j s b;have g:HR A β w st.heap:=H.congr fun id=>(i id).symm;have n:=MS.congr (A:=A) (β:=β) i;have k:=Ml (h:=st.heap) (as:=as);have x:=lN g k (by rw[n];exact b) fun v b p u=>CS.2 ⟨v,b,u⟩;have q:=(o _ _ _ _ _ _ _ l).rw rfl (fun _ _ h=>by cases h) (m.puts (Bm.markAll as)) A β w vs ((Ix k).hr g) j x;exact q.mono fun e w' r=>r5 H j s r t
def th(o:EC P W K){f:FuncId}{c:A8}(x:LQ ci (as.flatMap (mark st.heap.get))=true)
 (m:LW W st.heap) (l:K (.fn f) (OD st.heap.get as) (st.heap.puts (as.flatMap (mark st.heap.get))) ρ true ci=.ok (c,hc))  (b: ∀id,st.heap.get id=h2.get id):My P ci ρ nt f as env defs h2 (gc ρ hc) c:=by
 intro A β w a vs H j s g;have i:HR A β w st.heap:=H.congr fun id=>(b id).symm;have n:=MS.congr (A:=A) (β:=β) b;have k:=Ml (h:=st.heap) (as:=as);have u:=lN i k (by rw[n];exact g) fun v g p t=>CS.2 ⟨v,g,t⟩;have g1:CN A ci ρ β w h2 β w (st.heap.puts (as.flatMap (mark st.heap.get))):=(PY i k x).congr b;have q:=(o _ _ _ _ _ _ _ l).rw rfl (fun _ _ h=>by cases h) (m.puts (Bm.markAll as)) A β w vs g1.hr j u;exact q.mono fun e w' r=>Tb g1 j s r
def kO(m:EC P W K){f:FuncId}{c:A8}
 (k:LW W st.heap) (j:K (.fn f) as st.heap ρ true ci=.ok (c,hc))  (b: ∀id,st.heap.get id=h2.get id):My P ci ρ nt f as env defs h2 (gc ρ hc) c:=by
 intro A β w a vs H i s p;have g:HR A β w st.heap:=H.congr fun id=>(b id).symm;have l:=MS.congr (A:=A) (β:=β) b;have g1:CN A ci ρ β w h2 β w st.heap:=(CN.refl g).congr b;have n:=(m _ _ _ _ _ _ _ j).rw rfl (fun _ _ h=>by cases h) k A β w vs g i (by rw[l];exact p);exact n.mono fun e w' o=>Tb g1 i s o
def kN(g:EC P W K){f:FuncId}{c:A8}(b:K (.fn f) xs [] π false none=.ok (c,hc))
 (j: ∀v,c=.ret v\/c=.ge v->flat v=true)  (l:E5 h2.get as=some xs):My P ci ρ nt f as env defs h2 h2 c:=by
 intro A β w a vs H i s k;exact(Pr H (g _ _ _ _ _ _ _ b) l k).mono fun e w' h=>qI H i s h j
def AB0(g:EC P W K){f:FuncId}{o:Id×Obj}(l:π=ρ\/π=[])(c:K (.fn f) xs [] π false none=.ok (.ret v,hc))
 (b:CB v hc=some o)  (k:E5 h2.get as=some xs):My P ci ρ nt f as env defs h2 (o::h2) (.ret v):=by
 intro A β w a vs H i s j;have T:=g _ _ _ _ _ _ _ c;refine(Pr H T k j).mono fun e w' h=>?_;rcases l with rfl|rfl
 .exact wQ H i s b h
 .obtain⟨h1,h2⟩:=T.ids rfl rfl rfl rfl v rfl;exfalso;unfold CB at b;split at b
  .simp[AE]at h1
  .cases b
def zI(j:EC P W K){f:FuncId}(m:π=ρ\/π=[])(i:K (.fn f) xs [] π false none=.ok (.ret v,hc))
  (g:LQ ci (as.flatMap (mark h2.get))=true) (l:E5 h2.get as=some xs):My P ci ρ nt f as env defs h2 (hc++h2.puts (as.flatMap (mark h2.get))) (.ret v):=by
 intro A β w a vs H c s k;have T:=j _ _ _ _ _ _ _ i;refine(Pr H T l k).mono fun e w' b=>?_;rcases m with rfl|rfl
 .exact qJ H c s g b
 .obtain⟨h1,h⟩:=T.ids rfl rfl rfl rfl v rfl;exact jA H c s g h1 h b
def gI{h:AD}{id:Id}(e:id∈h.map (·.1)): ∃o,h.get id=some o:=by
 induction h with
 |nil=>cases e
 |cons p h a=>
  obtain⟨i,b⟩:=p;rw[AD.get_cons];by_cases e':i=id
  .exact⟨b,D4 e'⟩
  .rw[Ci e'];refine a ?_;rcases D0.1 e with h1|h1
   .exact absurd h1.symm e'
   .exact h1
def U9{h:AD}{id:Id}{o:Obj}(a:h.get id=some o):id∈h.map (·.1):=by
 induction h with
 |nil=>cases a
 |cons p h b=>
  obtain⟨i,c⟩:=p;rw[AD.get_cons]at a;by_cases e:i=id
  .simp[e]
  .rw[Ci e]at a;simp only[By,D0];exact .inr (b a)
def Vl{h h':AD}(a: ∀id,h.get id=h2.get id)(id:Id):h'.get id=ip (some (W7 h h')) h'.get h2.get id:=by
 simp only[ip];split
 .rfl
 .rename_i b;rw[<-a,mm b]
def ZQ(new a:G)(id:Id):ip (some []) new a id=a id:=by simp[ip]
def Wq{K:Ab}(j:EC P W K){fr:Fr}{f:FuncId}{as:List AV}{dst:Option Tmp}{st st':St}{m:Mode}{fp:Fp}(q:LW W st.heap)(a:Ei K fr ρ f as dst st m=.ok st' fp){h2:AD}(g:jq fp.rd st.heap.get h2.get):
 ∃v l,st'.env=DH st.env dst v/\st'.base=st.base/\st'.defs=st.defs/\(∀id,l.get id=ip fp.wr st'.heap.get h2.get id)/\MF P f/\ ∀env defs,My P fr.ci ρ nt f as env defs h2 l (.ret v):=by
 have raw: ∀{E:E (A8×AD)} {xs:List AV} {t:AD},FU ρ dst st E=.ok st' fp->E=K (.fn f) xs t ρ true fr.ci->
  (∀{c:A8} {hc:AD},K (.fn f) xs t ρ true fr.ci=.ok (c,hc)->(∀id,st.heap.get id=h2.get id)-> ∀env defs,My P fr.ci ρ nt f as env defs h2 (gc ρ hc) c)->
  ∃v l,st'.env=DH st.env dst v/\st'.base=st.base/\st'.defs=st.defs/\(∀id,l.get id=ip fp.wr st'.heap.get h2.get id)/\MF P f/\ ∀env defs,My P fr.ci ρ nt f as env defs h2 l (.ret v):=by
  intro E xs t a A C;subst A;unfold FU at a;split at a
  .rename_i v hc b;simp only[Bd,BB,Ib.ok.injEq]at a;obtain⟨rfl,rfl⟩:=a;exact⟨v,gc ρ hc,rfl,rfl,rfl,Vl g,(j _ _ _ _ _ _ _ b).ent f rfl,C b g⟩
  .simp at a
  .cases a
 unfold Ei at a;split at a
 .exact raw a rfl fun b g env defs=>kO j q b g
 .rename_i m F;split at a
  .rename_i xs y;simp only[Bn]at a;unfold EW at a;split at a
   .rename_i v hc b;have r:=(j _ _ _ _ _ _ _ b).ent f rfl;simp only[Bd]at a;split at a
    .rename_i s;simp only[Ib.ok.injEq]at a;obtain⟨rfl,rfl⟩:=a;have n:E5 h2.get as=some xs:=by rw[<-Mb g];exact y
     exact⟨v,h2,rfl,rfl,rfl,fun id=>(ZQ _ _ id).symm,r,fun env defs=>kN j b (fun D w=>by rcases w with h|h<;>cases h;exact s) n⟩
    .unfold JQ at a;split at a
     .rename_i o u;simp only[BB,Ib.ok.injEq]at a;obtain⟨rfl,rfl⟩:=a;have n:E5 h2.get as=some xs:=by rw[<-Mb g];exact y
      refine⟨v,o::h2,rfl,rfl,rfl,fun id=>?_,r,fun env defs=>AB0 j (by split<;>simp) b u n⟩;simp only[ip,Ac];obtain⟨i,H⟩:=o;simp only[AD.get_cons];by_cases e:id=i
      .subst e;simp
      .simp[e,Ne.symm e]
     .simp only[CU]at a;split at a
      .rename_i x;simp only[BB,Ib.ok.injEq]at a;obtain⟨rfl,rfl⟩:=a;have n:E5 h2.get as=some xs:=by rw[<-Mb g];exact y
       have z:=cN (vs:=as) g;refine⟨v,hc++h2.puts (as.flatMap (mark h2.get)),rfl,rfl,rfl,fun id=>?_,r,fun env defs=>zI j (by split<;>simp) b (by rw[<-z];exact x) n⟩;rw[<-z];simp only[ip,EL];rw[AD.get_append,AD.get_append];by_cases k:id∈(as.flatMap (mark st.heap.get)).map (·.1)
       .rw[D4 (.inl k),dK k (h':=st.heap)]
       .rw[N0 k,N0 k];by_cases p:id∈hc.map (·.1)
        .rw[D4 (.inr p)];have:=gI p;obtain⟨o,u⟩:=this;simp[u]
        .rw[Ci (by rintro(h1|h1);exact k h1;exact p h1)];have:hc.get id=none:=by
          cases B:hc.get id with
          |none=>rfl
          |some o=>exact absurd (U9 B) p
         rw[this];rfl
      .cases a
   .exact zDd
   .cases a
  .unfold Gl at a;simp only[Bn,CU,BB]at a;split at a
   .unfold Q8 at a;split at a
    .rename_i v hc b;split at a
     .rename_i s;simp only[Bd,Ib.ok.injEq]at a;obtain⟨rfl,rfl⟩:=a;exact⟨v,h2,rfl,rfl,rfl,fun id=>(ZQ _ _ id).symm,(j _ _ _ _ _ _ _ b).ent f rfl,fun env defs=>bA j q b (fun D w=>by rcases w with h|h<;>cases h;exact s) g⟩
     .cases a
    .exact zDd
    .cases a
   .split at a
    .rename_i x;exact raw a rfl fun b g env defs=>th j x q b g
    .cases a
def UE{K:Ab}(g:EC P W K){fr:Fr}{f:FuncId}{as:List AV}{dst:Option Tmp}{st st':St}{m:Mode}{v:AV}(j:LW W st.heap)(a:Ei K fr ρ f as dst st m=.ge v st'){h2:AD}(e: ∀id,st.heap.get id=h2.get id):
 ∃i,st'.env=st.env/\st'.base=st.base/\st'.defs=st.defs/\(∀id,i.get id=st'.heap.get id)/\MF P f/\ ∀env defs,My P fr.ci ρ nt f as env defs h2 i (.ge v):=by
 have raw: ∀{E:E (A8×AD)} {xs:List AV} {l:AD},FU ρ dst st E=.ge v st'->E=K (.fn f) xs l ρ true fr.ci->
  (∀{c:A8} {hc:AD},K (.fn f) xs l ρ true fr.ci=.ok (c,hc)->(∀id,st.heap.get id=h2.get id)-> ∀env defs,My P fr.ci ρ nt f as env defs h2 (gc ρ hc) c)->
  ∃i,st'.env=st.env/\st'.base=st.base/\st'.defs=st.defs/\(∀id,i.get id=st'.heap.get id)/\MF P f/\ ∀env defs,My P fr.ci ρ nt f as env defs h2 i (.ge v):=by
  intro E xs l a o p;subst o;unfold FU at a;split at a
  .simp at a
  .rename_i u hc b;simp only[BB,Ib.ge.injEq]at a;obtain⟨rfl,rfl⟩:=a;exact⟨gc ρ hc,rfl,rfl,rfl,fun id=>rfl,(g _ _ _ _ _ _ _ b).ent f rfl,p b e⟩
  .cases a
 unfold Ei at a;split at a
 .exact raw a rfl fun b e env defs=>kO g j b e
 .rename_i m w;split at a
  .rename_i xs r;simp only[Bn]at a;unfold EW at a;split at a
   .exact zBw
   .rename_i u hc b;split at a
    .rename_i k;simp only[Ib.ge.injEq]at a;obtain⟨rfl,rfl⟩:=a;have s:E5 h2.get as=some xs:=by rw[<-Mb (fun id _=>e id)];exact r
     exact⟨h2,rfl,rfl,rfl,fun id=>(e id).symm,(g _ _ _ _ _ _ _ b).ent f rfl,fun env defs=>kN g b (fun t n=>by rcases n with h|h<;>cases h;exact k) s⟩
    .cases a
   .cases a
  .unfold Gl at a;simp only[Bn,CU,BB]at a;split at a
   .unfold Q8 at a;split at a
    .exact zCF
    .rename_i u hc b;split at a
     .rename_i k;simp only[Ib.ge.injEq]at a;obtain⟨rfl,rfl⟩:=a;exact⟨h2,rfl,rfl,rfl,fun id=>(e id).symm,(g _ _ _ _ _ _ _ b).ent f rfl,fun env defs=>bA g j b (fun t n=>by rcases n with h|h<;>cases h;exact k) e⟩
     .cases a
    .cases a
   .split at a
    .rename_i q;exact raw a rfl fun b e env defs=>th g q j b e
    .cases a
variable{A:Nat->Prop}{P:Program}{mix:List TypeId}{β β' β'':BK}{w w' w'':World}{M:Nat->Prop}{h h' h'':AD}{π ρ:List Nat}{ci:Option (List Nat)}{nt:NT}{env:Nat->AV}{defs defs':List Df}{a:Act}{ro:Option Nat}{W:Lp->Prop}
def Hh.append{g:List AV}{a b:Array Value}(h1:Hh β w M xs a)(h2:Hh β w M g b):Hh β w M (xs++g) (a++b):=by
 refine⟨by rw[Be,T1,h1.1,h2.1],fun i x v e c=>?_⟩;by_cases f:i<xs.length
 .rw[Ce f]at e;rw[LM (by rw[<-h1.1];exact f)]at c;exact h1.2 i x v e c
 .rw[D1 AA]at e;rw[Array.getElem?_append_right (by rw[<-h1.1];omega),<-h1.1]at c;exact h2.2 _ x v e c
def Hh.args{e:Nat->AV}(f:Kz β w M e fun t=>a.tmps.getD t Go.undef)(l:Array Operand):Hh β w M (l.toList.map (ev e)) (l.map a.eval):=by
 refine⟨AG,fun i x v c b=>?_⟩;simp only[D7,IS,Bv]at c;obtain⟨y,g,rfl⟩:=c;simp only[RD,g,F3,Co]at b;subst b;exact J3 f y
variable{c:Call}{x:Operand}
def Z1(b:o.op=.call c)(hc:c.callee=.value x){g:FuncId}{first cap:Array Value}(f:a.eval x=.func (.func g) first cap)(e:MF P g):
 (o.semAt ro a.eval).run P w=.ok (.enter g (first++c.args.map a.eval++cap)) w:=by
 rw[Oper.semAt_eq _ _ _ zE9];simp[execOp,b,resolve,hc,f,Deferred.ofValue,invoke,L0 e]
def YB(b:o.op=.call c)(hc:c.callee=.value x){k:Nat}{l:Loop}(h:a.eval x=.func (.yield k) #[] #[])(f:w.heap[k]? =some (.loop l))(g:l.params.size=c.args.size):
 (o.semAt ro a.eval).run P w=.ok (.round k l.fn (JB l (c.args.map a.eval)) l.assign l.body) w:=by
 rw[Oper.semAt_eq _ _ _ zE9];have e:(getObj k).run P w=.ok (.loop l) w:=Kg f AG;simp[execOp,b,resolve,hc,h,Deferred.ofValue,invoke,Instr.yield,Instr.getLoop,e,g,JB]
structure NB(P:Program)(mix:List TypeId)(C:DJ):Prop where
 T:C.T=Cb P mix
 meth: ∀t m f,C.meth t m=some f-> ∀(v:Value) (w:World),(method (P.types.size+Made.depth) t v m).run P w=.ok (f,v) w
variable{C:DJ}{fr:Fr}{st':St}{fp:Fp}{env2:Nat->AV}
def dD(i:NB P mix C)(b:EN fr o.op o.dst st (evalOp C.T st.env.get st.heap.get ρ o.op)=.ok st' fp)(l: ∀c,o.op≠ .defer c)
   (m:Lj st.env.get env2 o.op) (j:jq fp.rd st.heap.get h2.get) (k: ∀d,o.dst=some d->d<nt.n):
 ∃v g,st'.env=DH st.env o.dst v/\st'.base=st.base/\(∀id,g.get id=ip fp.wr st'.heap.get h2.get id)/\QD P ro fr.ci ρ nt o env2 st.defs h2 v st'.defs g:=by
 rw[i.T]at b;cases e:evalOp (Cb P mix) st.env.get st.heap.get ρ o.op with
 |none=>rw[e]at b;cases b
 |some eff=>
  rw[e]at b;simp only[EN,LX,CU]at b;split at b
  .rename_i r;simp only[Bd,Nb,Ib.ok.injEq]at b;obtain⟨rfl,rfl⟩:=b;have h:=Yh (P:=P) (mix:=mix) (n:=ρ) m j;rw[e]at h;refine⟨eff.v,h2.puts eff.δ,rfl,rfl,fun id=>?_,?_⟩
   .simp only[ip];split
    .rename_i f;exact dK f
    .rename_i f;exact N0 f
   .intro A β w a H p s next Q q
    exact wM H p s k l h.symm r q
  .cases b
def mn(J:EC P W K)(p:o.op=.call c)(hc:c.callee=.value x)
 (t:LW W st.heap) (b:FO C K fr ρ (ev st.env.get x) (c.args.toList.map (ev st.env.get)) o.dst st=.ok st' fp)
   (j:Lj st.env.get env2 o.op) (u:jq fp.rd st.heap.get h2.get) (L: ∀d,o.dst=some d->d<nt.n):
 ∃v i,st'.env=DH st.env o.dst v/\st'.base=st.base/\(∀id,i.get id=ip fp.wr st'.heap.get h2.get id)/\QD P ro fr.ci ρ nt o env2 st.defs h2 v st'.defs i:=by
 have a1:ev st.env.get x=ev env2 x:=j x zFd;have ai:c.args.toList.map (ev st.env.get)=c.args.toList.map (ev env2):=Gu fun y a2=>j y (by rw[p];simp[Op.operands,Call.operands,hc,a2]);rw[ai,a1]at b;unfold FO at b;split at b
 ·
  rename_i id az;unfold K4 at b;split at b
  .rename_i r D;unfold FU at b;split at b
   .rename_i v ar ad;simp only[Bd,BB,Ib.ok.injEq]at b;obtain⟨rfl,rfl⟩:=b;refine⟨v,gc ρ ar,rfl,rfl,Vl u,?_⟩;intro A β w a H m s next Q n
    have z: ∀id,st.heap.get id=h2.get id:=u;have q:HR A β w st.heap:=H.congr fun id=>(z id).symm;have ag:=MS.congr (A:=A) (β:=β) z;have f:=J3 s.env x;rw[az]at f;generalize B:a.eval x=ax at f;cases f with
    |wt _ k M=>
     obtain⟨a',N,l,R,bc,be,bi,a7,bk,bl,bs,bo⟩:=q.obj id _ D;rw[M]at N;cases N;have I:=Hh.args s.env c.args;obtain⟨O,F⟩:=(J _ _ _ _ _ _ _ ad).rw rfl (fun _ _ h=>by cases h;exact t _ _ D) t A β w (c.args.map a.eval) q m (by rw[ag];exact I);have F:=F k l D M R;have g1:CN A fr.ci ρ β w h2 β w st.heap:=(CN.refl q).congr z;have a0:l.params.size=c.args.size:=by
      rw[<-a7]at O;simpa using O
     exact qf (YB p hc B R a0) L (RoundIn.mono F fun e w' j=>Tb g1 m s j) n
   .simp at b
   .cases b
  .cases b
 .rename_i g first cap av
  simp only[Bn]at b;obtain⟨v,i,T,U,V,X,Y,Z⟩:=Wq (nt:=nt) J t b u;refine⟨v,i,T,U,X,?_⟩;intro A β w a H m s next Q n
  have f:=J3 s.env x;rw[av]at f;generalize B:a.eval x=ax at f;cases f with
  |fn _ _ _ ac S a3 a4 a5 a6=>
   have I:Hh β w (MS A β h2) (first++c.args.toList.map (ev env2)++cap) (ac++c.args.map a.eval++S):=
    (Hh.append (Hh.append ⟨a3,a5⟩ (Hh.args s.env c.args)) ⟨a4,a6⟩)
   rw[V]at n;exact XD (Z1 p hc B Y) L (Z env2 st.defs A β w a _ H m s I) n
 .cases b
def fK(J:EC P W K)(p:o.op=.call c)(hc:c.callee=.value x)
 (t:LW W st.heap) (b:FO C K fr ρ (ev st.env.get x) (c.args.toList.map (ev st.env.get)) o.dst st=.ge v st')
   (m:Lj st.env.get env2 o.op) (j: ∀id,st.heap.get id=h2.get id):
 ∃i,st'.env=st.env/\st'.base=st.base/\st'.defs=st.defs/\(∀id,i.get id=st'.heap.get id)/\YH P ro fr.ci ρ nt o env2 st.defs h2 v i:=by
 have a0:ev st.env.get x=ev env2 x:=m x zFd;have ag:c.args.toList.map (ev st.env.get)=c.args.toList.map (ev env2):=Gu fun y a1=>m y (by rw[p];simp[Op.operands,Call.operands,hc,a1]);rw[ag,a0]at b;unfold FO at b;split at b
 .rename_i id av;unfold K4 at b;split at b
  .rename_i r B;unfold FU at b;split at b
   .simp at b
   .rename_i u ai ac;simp only[BB,Ib.ge.injEq]at b;obtain⟨rfl,rfl⟩:=b;refine⟨gc ρ ai,rfl,rfl,rfl,fun id=>rfl,?_⟩;intro A β w a H n s next Q D
    have q:HR A β w st.heap:=H.congr fun id=>(j id).symm;have ad:=MS.congr (A:=A) (β:=β) j;have f:=J3 s.env x;rw[av]at f;generalize z:a.eval x=ax at f;cases f with
    |wt _ k L=>
     obtain⟨a7,M,l,O,a',bc,be,a6,bi,bk,bo,bl⟩:=q.obj id _ B;rw[L]at M;cases M;have I:=Hh.args s.env c.args;obtain⟨N,F⟩:=(J _ _ _ _ _ _ _ ac).rw rfl (fun _ _ h=>by cases h;exact t _ _ B) t A β w (c.args.map a.eval) q n (by rw[ad];exact I);have F:=F k l B L O;have g1:CN A fr.ci ρ β w h2 β w st.heap:=(CN.refl q).congr j;have az:l.params.size=c.args.size:=by
      rw[<-a6]at N;simpa using N
     exact qe (YB p hc z O az) (RoundIn.mono F fun e w' m=>Tb g1 n s m) D
   .cases b
  .cases b
 .rename_i g first cap ar
  simp only[Bn]at b;obtain⟨i,S,T,U,V,X,Y⟩:=UE (nt:=nt) J t b j;refine⟨i,S,T,U,V,?_⟩;intro A β w a H n s next Q D
  have f:=J3 s.env x;rw[ar]at f;generalize z:a.eval x=ax at f;cases f with
  |fn _ _ _ Z R a2 a3 a4 a5=>
   have I:Hh β w (MS A β h2) (first++c.args.toList.map (ev env2)++cap) (Z++c.args.map a.eval++R):=
    (Hh.append (Hh.append ⟨a2,a4⟩ (Hh.args s.env c.args)) ⟨a3,a5⟩)
   exact XC (Z1 p hc z X) (Y env2 st.defs A β w a _ H n s I) D
 .cases b
def Ux{m:String}(b:o.op=.call c)(hc:c.callee=.invoke x m){g:FuncId}{t:TypeId}{v:Value}(j:a.eval x=.iface t v)
 (i:(method (P.types.size+Made.depth) t v m).run P w=.ok (g,v) w) (h:MF P g):
 (o.semAt ro a.eval).run P w=.ok (.enter g (#[v]++c.args.map a.eval)) w:=by
 rw[Oper.semAt_eq _ _ _ zE9];have e:(#[Value.iface t v]++c.args.map a.eval).extract 1 (#[Value.iface t v]++c.args.map a.eval).size=c.args.map a.eval:=by
  apply Array.ext';simp only[Array.toList_extract,Array.toList_append,T1];simp;rw[Bi AG]
 have f:(#[Value.iface t v]++c.args.map a.eval)[0]? =some (.iface t v):=by
  rw[LM AG];rfl
 unfold execOp;simp only[b,resolve,hc,j,Sem.run_bind,Sem.run_pure,Result.andThen_ok];unfold invoke;simp only[e,f];simp[callMethod,i,L0 h]
def aW{C:DJ}(I:NB P mix C){K:Ab}(L:EC P W K){fr:Fr}{o:Oper}{c:Call}{x:Operand}{m:String}(h:o.op=.call c)(hc:c.callee=.invoke x m){st st':St}{fp:Fp}
 (J:LW W st.heap) (b:HP C K fr ρ (ev st.env.get x) m (c.args.toList.map (ev st.env.get)) o.dst st=.ok st' fp)
 {env2:Nat->AV} {h2:AD} (k:Lj st.env.get env2 o.op) (M:jq fp.rd st.heap.get h2.get) (R: ∀d,o.dst=some d->d<nt.n):
 ∃v f,st'.env=DH st.env o.dst v/\st'.base=st.base/\(∀id,f.get id=ip fp.wr st'.heap.get h2.get id)/\QD P ro fr.ci ρ nt o env2 st.defs h2 v st'.defs f:=by
 have Y:ev st.env.get x=ev env2 x:=k x zFe;have N:c.args.toList.map (ev st.env.get)=c.args.toList.map (ev env2):=Gu fun y e=>k y zFZ;rw[N,Y]at b;unfold HP at b;split at b
 .rename_i t Z U;split at b
  .rename_i g T;unfold FO at b;simp only[Bn]at b;obtain⟨v,f,p,q,r,B,D,F⟩:=Wq (nt:=nt) L J b M;refine⟨v,f,p,q,B,?_⟩;intro A β w a H S s next Q l
   have j:=J3 s.env x;rw[U]at j;generalize O:a.eval x=ax at j;cases j with
   |iface _ _ u V=>
    have X:Hh β w (MS A β h2) ([Z]++c.args.toList.map (ev env2)++[]) (#[u]++c.args.map a.eval):=by
     rw[CI];refine Hh.append ⟨rfl,fun i y z e n=>?_⟩ (Hh.args s.env c.args);cases i with
     |zero=>simp at e n;subst e n;exact V
     |succ i=>simp at e
    rw[r]at l;exact XD (Ux h hc O (I.meth t m g T u w) D) R (F env2 st.defs A β w a _ H S s X) l
  .cases b
 .cases b
def Yb{C:DJ}(F:NB P mix C){K:Ab}(J:EC P W K){fr:Fr}{o:Oper}{c:Call}{x:Operand}{m:String}(h:o.op=.call c)(hc:c.callee=.invoke x m){st st':St}{v:AV}
 (I:LW W st.heap) (b:HP C K fr ρ (ev st.env.get x) m (c.args.toList.map (ev st.env.get)) o.dst st=.ge v st')
 {env2:Nat->AV} {h2:AD} (k:Lj st.env.get env2 o.op) (L: ∀id,st.heap.get id=h2.get id):
 ∃f,st'.env=st.env/\st'.base=st.base/\st'.defs=st.defs/\(∀id,f.get id=st'.heap.get id)/\YH P ro fr.ci ρ nt o env2 st.defs h2 v f:=by
 have X:ev st.env.get x=ev env2 x:=k x zFe;have M:c.args.toList.map (ev st.env.get)=c.args.toList.map (ev env2):=Gu fun y e=>k y zFZ;rw[M,X]at b;unfold HP at b;split at b
 .rename_i t Y T;split at b
  .rename_i g R;unfold FO at b;simp only[Bn]at b;obtain⟨f,n,p,q,r,B,D⟩:=UE (nt:=nt) J I b L;refine⟨f,n,p,q,r,?_⟩;intro A β w a H O s next Q S
   have j:=J3 s.env x;rw[T]at j;generalize N:a.eval x=ax at j;cases j with
   |iface _ _ u U=>
    have V:Hh β w (MS A β h2) ([Y]++c.args.toList.map (ev env2)++[]) (#[u]++c.args.map a.eval):=by
     rw[CI];refine Hh.append ⟨rfl,fun i y z e l=>?_⟩ (Hh.args s.env c.args);cases i with
     |zero=>simp at e l;subst e l;exact U
     |succ i=>simp at e
    exact XC (Ux h hc N (F.meth t m g R u w) B) (D env2 st.defs A β w a _ H O s V) S
  .cases b
 .cases b
def fL{C:DJ}{K:Ab}{fr:Fr}(D:fr.wp=false->ro=none){o:Oper}{c:Call}(e:o.op=.defer c){st st':St}{fp:Fp}(b:JJ fr st.env.get c o.dst st=.ok st' fp)
 {env2:Nat->AV} {h2:AD} (j:Lj st.env.get env2 o.op) (m:jq fp.rd st.heap.get h2.get) (r: ∀d,o.dst=some d->d<nt.n):
 ∃v i,st'.env=DH st.env o.dst v/\st'.base=st.base/\(∀id,i.get id=ip fp.wr st'.heap.get h2.get id)/\QD P ro fr.ci ρ nt o env2 st.defs h2 v st'.defs i:=by
 unfold JJ at b;split at b
 .rename_i x hc;have J:ev st.env.get x=ev env2 x:=j x (by rw[e];simp[Op.operands,Call.operands,hc]);have n:c.args.toList.map (ev st.env.get)=c.args.toList.map (ev env2):=Gu fun y L=>j y (by rw[e];simp[Op.operands,Call.operands,hc,L]);split at b
  .rename_i g u B;simp only[Ib.ok.injEq]at b;obtain⟨rfl,rfl⟩:=b;refine⟨.undef,h2,rfl,rfl,fun id=>(m id).symm,?_⟩;intro A β w a H R s next Q z
   have F:=D B;subst F;have f:=J3 s.env x;rw[<-J,u]at f;generalize p:a.eval x=ax at f;cases f with
   |fn _ _ _ l k M N S T=>
    have t:l= #[]:=Mt M.symm;have q:k= #[]:=Mt N.symm;subst t q;refine⟨fun _ _=>trivial,?_⟩;have I:(o.semAt (FF none).round a.eval).run P w=.ok (.defer {target:=.fn (.func g) #[],args:=c.args.map a.eval}) w:=by
     show(execOp a.eval o).run P w=_;simp[execOp,e,resolve,hc,p,Deferred.ofValue]
    rw[I,Oper.uponIn_defer];refine z _ _ ⟨β,CN.refl H,?_⟩;have O:M0 A β w nt env2 (.call g (c.args.toList.map (ev st.env.get))::st.defs) h2 {a with defers:={target:=.fn (.func g) #[],args:=c.args.map a.eval}::a.defers}:=
     ⟨s.sz,s.env,⟨.call _ _ _ (by rw[n];exact Hh.args s.env c.args),s.defs,fun _ _ _ h=>by cases h⟩⟩
    exact O.put r (.undef _)
  .cases b
 .cases b
def fO(c:o.op=.panic x)(b:HZ st (ev st.env.get x)=.ge v st')
   (i:Lj st.env.get env2 o.op) (g: ∀id,st.heap.get id=h2.get id):
 ∃f,st'.env=st.env/\st'.base=st.base/\st'.defs=st.defs/\(∀id,f.get id=st'.heap.get id)/\YH P ro fr.ci ρ nt o env2 st.defs h2 v f:=by
 have n:ev st.env.get x=ev env2 x:=i x (by rw[c];simp[Op.operands]);unfold HZ at b;split at b
 .split at b
  .rename_i t u m;simp only[Ib.ge.injEq]at b;obtain⟨rfl,rfl⟩:=b;refine⟨h2,rfl,rfl,rfl,fun id=>(g id).symm,?_⟩;intro A β w a H q s next Q j
   have e:=J3 s.env x;rw[<-n,m]at e;generalize h:a.eval x=ax at e;cases e with
   |iface _ _ p l=>
    refine⟨fun _ _=>trivial,?_⟩;have k:(o.semAt (FF ro).round a.eval).run P w=.halt (.panic (.iface t p)) w:=by
     rw[Oper.semAt_eq _ _ _ zFW];simp[execOp,c,h,Instr.panic,goPanic]
    rw[k];exact j a w _ ⟨β,CN.refl H,s,.iface _ _ _ l⟩
  .cases b
 .cases b
def yh(j:NB P mix C)(n:EC P W K)(q:fr.wp=false->ro=none)(l:LW W st.heap)(a:Bb C K fr ρ o.op o.dst st=.ok st' fp)
   (i:Lj st.env.get env2 o.op) (g:jq fp.rd st.heap.get h2.get) (h: ∀d,o.dst=some d->d<nt.n):
 ∃v k,st'.env=DH st.env o.dst v/\st'.base=st.base/\(∀id,k.get id=ip fp.wr st'.heap.get h2.get id)/\QD P ro fr.ci ρ nt o env2 st.defs h2 v st'.defs k:=by
 unfold Bb at a;split at a
 .rename_i c f;split at a
  .rename_i x hc;exact mn (C:=C) n f hc l a i g h
  .rename_i x m hc;exact aW j n f hc l a i g h
  .rename_i b hc;have e:Lb C.T st.env.get st.heap.get ρ c=evalOp C.T st.env.get st.heap.get ρ o.op:=by rw[f];rfl
   rw[e]at a;exact dD j a zFX i g h
 .rename_i x f;unfold HZ at a;exact zBO
 .rename_i c f;exact fL (C:=C) (K:=K) q f a i g h
 .rename_i h1 h2 p;exact dD j a (fun c hc=>p c hc) i g h
def tD(k:NB P mix C)(i:EC P W K)(h:LW W st.heap)(a:Bb C K fr ρ o.op o.dst st=.ge v st')
   (f:Lj st.env.get env2 o.op) (e: ∀id,st.heap.get id=h2.get id):
 ∃g,st'.env=st.env/\st'.base=st.base/\st'.defs=st.defs/\(∀id,g.get id=st'.heap.get id)/\YH P ro fr.ci ρ nt o env2 st.defs h2 v g:=by
 have j: ∀{x:Option C0},EN fr o.op o.dst st x=.ge v st'->False:=by
  intro x a;exact zDT
 unfold Bb at a;split at a
 .rename_i c b;split at a
  .rename_i x hc;exact fK (C:=C) i b hc h a f e
  .rename_i x m hc;exact Yb k i b hc h a f e
  .skip
   exact(j a).elim
 .rename_i x b;exact fO b a f e
 .rename_i c b;unfold JJ at a;exact zBO
 .exact(j a).elim
variable{P:Program}{mix:List TypeId}{ρ:List Nat}{W:Lp->Prop}
def RN{a:Option (List Id)}{id:Id}:ip a g g id=g id:=by
 cases a with
 |none=>rfl
 |some l=>simp[ip]
def xg{h:AD}{id:Id}:ip (some (δ.map (·.1))) (h.puts δ).get h.get id=(h.puts δ).get id:=by
 simp only[ip];split
 .rfl
 .rename_i a;exact(N0 a).symm
def rR(st st':St)(fp:Fp):Prop:=st'.defs=st.defs/\ ∀id,ip fp.wr st'.heap.get st.heap.get id=st'.heap.get id
variable{dst:Option Tmp}
def N2{E:E (A8×AD)}(a:FU ρ dst st E=.ok st' fp):rR st st' fp:=by
 unfold FU at a;split at a
 .simp only[Bd,BB,Ib.ok.injEq]at a;obtain⟨rfl,rfl⟩:=a;exact⟨rfl,fun id=>(Vl (fun _=>rfl) id).symm⟩
 .simp at a
 .cases a
def Z0{f:FuncId}{m:Mode}(a:Ei K fr ρ f as dst st m=.ok st' fp):rR st st' fp:=by
 unfold Ei at a;split at a
 .exact N2 a
 .split at a
  .rename_i xs j;simp only[Bn]at a;unfold EW at a;split at a
   .rename_i v hc g;simp only[Bd]at a;split at a
    .simp only[Ib.ok.injEq]at a;obtain⟨rfl,rfl⟩:=a;exact⟨rfl,fun _=>RN⟩
    .unfold JQ at a;split at a
     .rename_i o h;simp only[BB,Ib.ok.injEq]at a;obtain⟨rfl,rfl⟩:=a;refine⟨rfl,fun id=>?_⟩;obtain⟨i,k⟩:=o;simp only[ip,Ac,AD.get_cons];by_cases e:id=i
      .simp[e]
      .simp[e,Ne.symm e]
     .simp only[CU]at a;split at a
      .simp only[BB,Ib.ok.injEq]at a;obtain⟨rfl,rfl⟩:=a;refine⟨rfl,fun id=>?_⟩;simp only[ip];split
       .rfl
       .rename_i b;simp only[EL,not_or]at b;rw[AD.get_append,N0 b.1];cases c:hc.get id with
        |none=>rfl
        |some o=>exact absurd (U9 c) b.2
      .cases a
   .exact zDd
   .cases a
  .unfold Gl at a;simp only[Bn,CU,BB]at a;split at a
   .unfold Q8 at a;split at a
    .split at a
     .simp only[Bd,Ib.ok.injEq]at a;obtain⟨rfl,rfl⟩:=a;exact⟨rfl,fun _=>RN⟩
     .cases a
    .exact zDd
    .cases a
   .split at a
    .exact N2 a
    .cases a
def Sf{b:AV}{args:List AV}(a:FO C K fr ρ b args dst st=.ok st' fp):rR st st' fp:=by
 unfold FO at a;split at a
 .unfold K4 at a;split at a
  .exact N2 a
  .cases a
 .simp only[Bn]at a;exact Z0 a
 .cases a
variable{op:Op}
def QQ{x:Option C0}(a:EN fr op dst st x=.ok st' fp):rR st st' fp:=by
 unfold EN at a;split at a
 .simp only[LX,CU]at a;split at a
  .simp only[Bd,Nb,Ib.ok.injEq]at a;obtain⟨rfl,rfl⟩:=a;exact⟨rfl,fun _=>xg⟩
  .cases a
 .cases a
def tE(a:Bb C K fr ρ op dst st=.ok st' fp):(∀id,ip fp.wr st'.heap.get st.heap.get id=st'.heap.get id)/\((∀c,op≠ .defer c)->st'.defs=st.defs):=by
 have b:rR st st' fp->(∀id,ip fp.wr st'.heap.get st.heap.get id=st'.heap.get id)/\((∀c,op≠ .defer c)->st'.defs=st.defs):=fun c=>⟨c.2,fun _=>c.1⟩;unfold Bb at a;split at a
 .split at a
  .exact b (Sf a)
  .unfold HP at a;split at a
   .split at a
    .exact b (Sf a)
    .cases a
   .cases a
  .exact b (QQ a)
 .unfold HZ at a;exact zBO
 .rename_i c;unfold JJ at a;split at a
  .split at a
   .simp only[Ib.ok.injEq]at a;obtain⟨rfl,rfl⟩:=a;exact⟨fun _=>RN,fun h=>absurd rfl (h c)⟩
   .cases a
  .cases a
 .exact b (QQ a)
def P3{ops:Array Oper}(a:DB C K fr ops ρ o st=.ok st' fp):
 (∀id,ip fp.wr st'.heap.get st.heap.get id=st'.heap.get id)/\((∀c,o.op≠ .defer c)->st'.defs=st.defs):=by
 unfold DB at a;split at a
 .cases a
 .simp only[Bd,Ib.ok.injEq]at a;obtain⟨rfl,rfl⟩:=a;exact⟨fun _=>RN,fun _=>rfl⟩
 .exact tE a
def wg:Op->Bool
 |.move _|.assign _|.pick ..|.alloc _|.box ..|.build ..|.nilCheck _|.binOp ..|.unOp ..|.makeInterface ..|.typeAssert ..|.makeFunc ..|.makeMap ..|.makeSlice ..|.fieldAddr ..|.field ..|.index ..|.extract ..=>true
 |.call c=>match c.callee with
  |.builtin .max=>true
  |.builtin .min=>true
  |_=>false
 |_=>false
def Za:Op->Bool
 |.move _|.assign _|.pick ..|.build ..|.load ..|.nilCheck _|.binOp ..|.unOp ..|.makeInterface ..|.typeAssert ..|.makeFunc ..|.lookup ..|.slice ..|.fieldAddr ..|.field ..|.indexAddr ..|.index ..|.extract ..=>true
 |.call c=>match c.callee with
  |.builtin .max=>true
  |.builtin .min=>true
  |.builtin .len=>true
  |_=>false
 |_=>false
def wh{e:Nat->AV}(h:wg op=true):Gh e g op=[]:=by
 cases op<;>first|rfl|(simp[wg]at h;done)|skip
 rename_i c;obtain⟨callee,args,a⟩:=c;cases callee with
 |builtin b=>cases b<;>first|rfl|simp[wg]at h
 |_=>simp[wg]at h
variable{α:Type}{eff:C0}
def map_nil{f:α->AV}{x:Option α}(h:x.map (fun y=>(⟨f y,[]⟩:C0))=some eff):eff.δ=[]:=by
 exact zC2
variable{T:TypeId->Option TI}{n:Id}
def eF{e:Nat->AV}(h:Za op=true)(a:evalOp T e g n op=some eff):eff.δ=[]:=by
 cases op<;>first|(simp[Za]at h;done)|skip
 all_goals simp only[evalOp]at a
 case move=>cases a;rfl
 case assign=>cases a;rfl
 case pick=>unfold Pk at a;split at a<;>cases a;rfl
 case build=>unfold LG at a;split at a
             .split at a
              .cases a
              .exact map_nil a
             .cases a
 case load=>unfold Mo at a;split at a
            .exact map_nil a
            .cases a
 case nilCheck=>unfold Hp at a;split at a<;>cases a<;>rfl
 case binOp=>exact map_nil a
 case unOp=>
  unfold py at a;split at a
  .unfold kr at a;split at a<;>cases a;rfl
  .cases a
 case makeInterface=>
  unfold Mm at a;split at a
  .split at a<;>cases a;rfl
  .cases a
 case makeFunc=>unfold Ho at a;split at a<;>cases a;rfl
 case slice=>
  unfold IM at a;split at a
  .split at a
   .exact map_nil a
   .exact map_nil a
   .cases a
  .cases a
 case fieldAddr=>
  unfold Fs at a;split at a
  .split at a
   .split at a
    .cases a
    .split at a
     .cases a;rfl
     .cases a;rfl
     .split at a<;>cases a;rfl
     .cases a
   .cases a
  .cases a
 case field=>
  unfold Ot at a;split at a
  .exact zDj
  .cases a
 case indexAddr=>
  unfold Dq at a;split at a
  .split at a
   .unfold PH at a;split at a
    .split at a
     .exact zB9
     .split at a
      .split at a<;>first|(split at a<;>cases a;rfl)|cases a
      .cases a
     .cases a
    .cases a
   .unfold j6 at a;exact zB9
   .cases a
  .cases a
 case index=>
  unfold Mn at a;split at a
  .exact zDj
  .cases a
 case lookup=>
  unfold Gw at a;split at a
  .split at a
   .split at a
    .split at a
     .unfold Mh at a;split at a<;>cases a<;>rfl
     .cases a
    .cases a
   .cases a
  .cases a
 case typeAssert x xt t ok=>
  cases ok with
  |false=>cases a
  |true=>
   simp only at a;unfold Jm at a;split at a
   .split at a
    .cases a
    .split at a
     .cases a;rfl
     .exact map_nil a
   .cases a
 case extract=>
  unfold Iy at a;split at a
  .exact map_nil a
  .cases a
 case call c=>
  obtain⟨callee,args,f⟩:=c;cases callee with
  |builtin b=>
   simp only[Lb]at a;unfold Hx at a;cases b<;>first|(simp[Za]at h;done)|skip
   .simp only at a;split at a
    .split at a
     .exact zDj
     .cases a
    .cases a
   .simp only at a;split at a
    .unfold ck at a;exact zB9
    .cases a
   .simp only at a;split at a
    .unfold cm at a;exact zB9
    .cases a
  |_=>simp[Za]at h
def fP{x:Option C0}(a:EN fr op dst st x=.ok st' fp): ∃eff,x=some eff/\fp=⟨some (Gh st.env.get st.heap.get op),some (eff.δ.map (·.1))⟩:=by
 unfold EN at a;split at a
 .simp only[LX,CU]at a;split at a
  .simp only[Bd,Nb,Ib.ok.injEq]at a;obtain⟨rfl,rfl⟩:=a;exact⟨_,rfl,rfl⟩
  .cases a
 .cases a
def X1{ops:Array Oper}(a:DB C K fr ops ρ o st=.ok st' fp):
 (wg o.op=true->fp.rd=some [])/\(Za o.op=true->fp.wr=some []):=by
 unfold DB at a;split at a
 .cases a
 .simp only[Bd,Ib.ok.injEq]at a;obtain⟨rfl,rfl⟩:=a;exact⟨fun _=>rfl,fun _=>rfl⟩
 .have plain: ∀{x:Option C0},EN fr o.op o.dst st x=.ok st' fp->x=evalOp C.T st.env.get st.heap.get ρ o.op->(wg o.op=true->fp.rd=some [])/\(Za o.op=true->fp.wr=some []):=by
   intro x a e;obtain⟨eff,rfl,rfl⟩:=fP a;exact⟨fun h=>by simp only[wh h],fun h=>by simp only[eF h e.symm,BY]⟩
  unfold Bb at a;split at a
  .rename_i c b;split at a
   .rename_i x hc;exact zDU
   .rename_i x y hc;exact zDU
   .exact plain a zFp
  .unfold HZ at a;exact zBO
  .rename_i c b;exact⟨fun h=>by simp[b,wg]at h,fun h=>by simp[b,Za]at h⟩
  .exact plain a rfl
variable{es:List (List AV)}
def Bm.newArr{j:TI}(h:newArr g n j es=some eff):Bm eff.δ:=by
 unfold Abs.newArr at h;split at h
 .cases h
 .split at h
  .cases h;exact .one rfl
  .split at h
   .cases h;exact(Bm.markEs es).append (.one rfl)
   .cases h
def Bm.mapE{f:α->C0}{x:Option α}(a: ∀y,Bm (f y).δ)(h:x.map f=some eff):Bm eff.δ:=by
 simp only[Bv]at h;obtain⟨y,_,rfl⟩:=h;exact a y
variable{off sz:Nat}{src:List (List AV)}
def Bm.appIn{id:Id}{k:Nat}{es:List (List Al)}(h:appIn g n id off k sz es src=some eff):Bm eff.δ:=by
 unfold Abs.appIn at h;split at h
 .split at h
  .cases h;exact(Bm.markEs src).append (.one rfl)
  .split at h
   .cases h;exact(Bm.markEs src).append (.cons rfl (.one rfl))
   .cases h
 .cases h
def Bm.appMix{id:Id}{k:Nat}(h:appMix n id off k sz es src=some eff):Bm eff.δ:=by
 unfold Abs.appMix at h;split at h
 .cases h;exact .one rfl
 .split at h
  .cases h;exact .cons rfl (.one rfl)
  .cases h
variable{s:AV}
def Bm.appTo{j:TI}(h:appTo g n j s src=some eff):Bm eff.δ:=by
 unfold Abs.appTo at h;split at h
 .exact .newArr h
 .exact .newArr h
 .split at h
  .split at h
   .exact .appIn h
   .cases h
  .split at h
   .exact .appMix h
   .cases h
  .cases h
 .cases h
def Bm.appendV{j:TI}{x:AV}(h:appendV g n j s x=some eff):Bm eff.δ:=by
 unfold Abs.appendV at h;split at h
 .cases h
 .split at h<;>cases h<;>exact .nil
 .split at h
  .exact .appTo h
  .cases h
def Bm.store{i:TI}{a:AV}(h:Kv g i a v=some eff):Bm eff.δ:=by
 unfold Kv at h;split at h
 .cases h
 .split at h
  .exact zCd
  .split at h
   .split at h
    .exact .mapE (fun _=>(Bm.marks _).append (.one rfl)) h
    .cases h
   .exact zCd
   .cases h
  .cases h
def Bm.mapPut{t:Option TI}{m k:AV}(h:mapPut T g t m k v=some eff):Bm eff.δ:=by
 unfold Abs.mapPut at h;split at h
 .cases h
 .split at h
  .split at h
   .split at h
    .cases h;exact .one rfl
    .cases h
   .cases h
  .cases h
def Bm.evalOp{T:TypeId->Option TI}{e:Nat->AV}{g:G}{n:Id}{op:Op}{eff:C0}(h:evalOp T e g n op=some eff):Bm eff.δ:=by
 by_cases a:Za op=true
 .rw[eF a h];exact .nil
 cases op<;>simp only[Za,not_true_eq_false]at a<;>simp only[Abs.evalOp,reduceCtorEq]at h
 case alloc=>unfold LF at h;split at h
             .split at h<;>cases h;exact .one rfl
             .cases h
 case box=>unfold Sw at h;split at h
           .split at h<;>cases h;exact .one rfl
           .cases h
 case buildSlice=>
  unfold DQ at h;split at h
  .split at h
   .unfold H9 at h;split at h
    .split at h
     .cases h;exact .nil
     .split at h
      .exact .newArr h
      .cases h
    .cases h
   .cases h
  .cases h
 case store=>unfold KG at h;split at h
             .exact .store h
             .cases h
 case makeMap=>unfold Iz at h;split at h<;>cases h;exact .one rfl
 case makeSlice=>
  unfold DY at h;split at h
  .split at h
   .split at h
    .unfold Hb at h;split at h
     .cases h;exact .nil
     .exact .newArr h
    .cases h
   .cases h
  .cases h
 case insert=>exact .mapPut h
 case mapUpdate=>exact .mapPut h
 case call c=>
  obtain⟨callee,args,i⟩:=c;unfold Lb at h;split at h
  .rename_i b f;simp only at f;subst f;unfold Hx at h;split at h
   .simp[Za]at a
   .split at h
    .unfold Jl at h;split at h
     .split at h
      .exact .appendV h
      .cases h
     .cases h
    .cases h
   .split at h
    .unfold Hc at h;split at h
     .split at h
      .split at h
       .cases h;exact .nil
       .split at h
        .unfold JI at h;split at h
         .split at h
          .exact zCd
          .cases h
         .cases h
        .cases h
      .cases h;exact .nil
      .cases h;exact .nil
      .cases h
     .cases h
    .cases h
   .simp[Za]at a
   .simp[Za]at a
   .cases h
  .cases h
def SH{E:E (A8×AD)}(b: ∀c hc,E=.ok (c,hc)->LW W hc)(a:FU ρ dst st E=.ok st' fp):LW W st'.heap:=by
 unfold FU at a;split at a
 .rename_i v hc;simp only[Bd,BB,Ib.ok.injEq]at a;obtain⟨rfl,rfl⟩:=a;exact(b _ _ rfl).gc
 .simp at a
 .cases a
def mF(i:EC P W K){f:FuncId}{m:Mode}(e:LW W st.heap)(a:Ei K fr ρ f as dst st m=.ok st' fp):LW W st'.heap:=by
 unfold Ei at a;split at a
 .exact SH (fun c hc g=>(i _ _ _ _ _ _ _ g).lw (fun _ _ h=>by cases h) e) a
 .split at a
  .rename_i xs j;simp only[Bn]at a;unfold EW at a;split at a
   .rename_i v hc g;simp only[Bd]at a;split at a
    .simp only[Ib.ok.injEq]at a;exact zDE
    .unfold JQ at a;split at a
     .rename_i o b;simp only[BB,Ib.ok.injEq]at a;obtain⟨rfl,rfl⟩:=a;refine e.cons ?_;unfold CB at b;split at b
      .split at b
       .split at b<;>cases b;rfl
       .cases b
      .cases b
     .simp only[CU]at a;split at a
      .simp only[BB,Ib.ok.injEq]at a;obtain⟨rfl,rfl⟩:=a;exact((i _ _ _ _ _ _ _ g).lw (fun _ _ h=>by cases h) LW.nil).append (e.puts (Bm.markAll as))
      .cases a
   .exact zDd
   .cases a
  .unfold Gl at a;simp only[Bn,CU,BB]at a;split at a
   .unfold Q8 at a;split at a
    .split at a
     .simp only[Bd,Ib.ok.injEq]at a;exact zDE
     .cases a
    .exact zDd
    .cases a
   .split at a
    .exact SH (fun c hc g=>(i _ _ _ _ _ _ _ g).lw (fun _ _ h=>by cases h) (e.puts (Bm.markAll as))) a
    .cases a
def UU{x:Option C0}(c: ∀eff,x=some eff->Bm eff.δ)(b:LW W st.heap)(a:EN fr op dst st x=.ok st' fp):LW W st'.heap:=by
 unfold EN at a;split at a
 .simp only[LX,CU]at a;split at a
  .simp only[Bd,Nb,Ib.ok.injEq]at a;obtain⟨rfl,rfl⟩:=a;exact b.puts (c _ rfl)
  .cases a
 .cases a
def X2(i:EC P W K){ops:Array Oper}(e:LW W st.heap)(a:DB C K fr ops ρ o st=.ok st' fp):LW W st'.heap:=by
 have call: ∀{g:AV} {args:List AV} {dst:Option Tmp},FO C K fr ρ g args dst st=.ok st' fp->LW W st'.heap:=by
  intro g args dst a;unfold FO at a;split at a
  .unfold K4 at a;split at a
   .rename_i r k;exact SH (fun c hc j=>(i _ _ _ _ _ _ _ j).lw (fun _ _ h=>by cases h;exact e _ _ k) e) a
   .cases a
  .simp only[Bn]at a;exact mF i e a
  .cases a
 unfold DB at a;split at a
 .cases a
 .simp only[Bd,Ib.ok.injEq]at a;exact zDE
 .unfold Bb at a;split at a
  .split at a
   .exact call a
   .exact zDF
   .rename_i c b l;refine UU (fun eff f=>?_) e a;exact Bm.evalOp (op:=.call _) f
  .unfold HZ at a;exact zBO
  .unfold JJ at a;split at a
   .split at a
    .simp only[Ib.ok.injEq]at a;exact zDE
    .cases a
   .cases a
  .exact UU (fun eff f=>Bm.evalOp f) e a
def WQ(f:EC P W K){ops:Array Oper}(b:LW W st.heap)(a:DB C K fr ops ρ o st=.ge v st'):LW W st'.heap:=by
 have raw: ∀{E:E (A8×AD)} {dst:Option Tmp},(∀c hc,E=.ok (c,hc)->LW W hc)->FU ρ dst st E=.ge v st'->LW W st'.heap:=by
  intro E dst i a;unfold FU at a;split at a
  .simp at a
  .rename_i v hc;simp only[BB,Ib.ge.injEq]at a;obtain⟨rfl,rfl⟩:=a;exact(i _ _ rfl).gc
  .cases a
 have plain: ∀{op:Op} {dst:Option Tmp} {x:Option C0},EN fr op dst st x=.ge v st'->False:=by
  intro op dst x a;exact zDT
 have call: ∀{g:AV} {args:List AV} {dst:Option Tmp},FO C K fr ρ g args dst st=.ge v st'->LW W st'.heap:=by
  intro g args dst a;unfold FO at a;split at a
  .unfold K4 at a;split at a
   .rename_i r j;exact raw (fun c hc e=>(f _ _ _ _ _ _ _ e).lw (fun _ _ h=>by cases h;exact b _ _ j) b) a
   .cases a
  .simp only[Bn]at a;unfold Ei at a;split at a
   .exact raw (fun c hc e=>(f _ _ _ _ _ _ _ e).lw (fun _ _ h=>by cases h) b) a
   .split at a
    .rename_i xs k;simp only[Bn]at a;unfold EW at a;split at a
     .exact zBw
     .exact zBj
     .cases a
    .unfold Gl at a;simp only[Bn,CU,BB]at a;split at a
     .unfold Q8 at a;split at a
      .exact zCF
      .exact zBj
      .cases a
     .split at a
      .exact raw (fun c hc e=>(f _ _ _ _ _ _ _ e).lw (fun _ _ h=>by cases h) (b.puts (Bm.markAll _))) a
      .cases a
  .cases a
 unfold DB at a;split at a
 .cases a
 .simp at a
 .unfold Bb at a;split at a
  .split at a
   .exact call a
   .exact zDF
   .exact(plain a).elim
  .unfold HZ at a;split at a
   .exact zBj
   .cases a
  .unfold JJ at a;exact zBO
  .exact(plain a).elim
variable{A:Nat->Prop}{P:Program}{mix:List TypeId}{β β' β'':BK}{w w' w'':World}{M:Nat->Prop}{h h' h'':AD}{π ρ:List Nat}{ci:Option (List Nat)}{nt:NT}{env:Nat->AV}{defs defs':List Df}{a:Act}{ro:Option Nat}{W:Lp->Prop}
def Cu(β:BK)(π:List Nat)(b:Nat):Prop:= ∀n,b<=n->Ga β (n::π)
def LN{n m:Nat}{π id:List Nat}(h1:(n::π)<:+id)(h2:(m::π)<:+id):n=m:=by
 obtain⟨c,a⟩:=h1;obtain⟨e,b⟩:=h2;have:=a.trans b.symm;have:=List.append_inj_right' this AG;simpa using this
def Ga.other{n m:Nat}(b:Ga β (m::π))(c:m≠n)(e: ∀id,¬(n::π)<:+id->β' id=β id):Ga β' (m::π):=fun id a=>by
 rw[e id fun h=>c (LN a h)];exact b id a
def Cu.next{n:Nat}(a:Cu β π n)(b: ∀id,¬(n::π)<:+id->β' id=β id):Cu β' π (n+1):=
 fun m c=>(a m AA).other AA b
def Me(ops:Array Oper)(e:Nat->AV)(o:Oper):Option Bool:=
 match o.guard with
 |none=>some true
 |some (j,want)=>match((ops[j]?).bind (·.dst)).map e with
  |some (.d (.bool b))=>some (b==want)
  |some (.ii [])=>some false
  |_=>none
def Ig(ops:Array Oper)(j:Nat):Option Tmp:=(ops[j]?).bind fun o=>o.dst
variable{Q':Exit->Act->World->Prop}
def Qp(b: ∀e a w,Q e a w->Q' e a w)(h:LetsOut Q):LetsOut Q':=let ⟨a,w,h⟩:=h;⟨a,w,b _ _ _ h⟩
def ZT{F:Fence}{n:Nat}{ops:Array Oper}(c: ∀e a w,Q e a w->Q' e a w){i:Nat}{K:Act->World->Prop}{a:Act}{w:World}(h:wpOpIn F n P ops Q i K a w):wpOpIn F n P ops Q' i K a w:=by
 unfold wpOpIn at*;split
 .rename_i g;rw[g]at h;exact h
 .rename_i o j;simp only[j]at h;split
  .rename_i f;simp only[f,F6]at h;refine⟨h.1,?_⟩;have h:=h.2;generalize (o.semAt F.round a.eval).run P w=r at*;cases r with
   |ok x w'=>
    cases x<;>simp only[Oper.uponIn]at h⊢ <;>
     first
      |exact h
      |exact⟨h.1,CallsIn.mono h.2 (fun e w'' b=>by cases e<;>first|exact b|exact c _ _ _ b|exact Qp c b)⟩
      |exact⟨h.1,RoundIn.mono h.2 (fun e w'' b=>by cases e<;>first|exact b|exact c _ _ _ b|exact Qp c b)⟩
   |halt x w'=>cases x<;>simp only[Oper.uponIn]at h⊢ <;>first|exact h|exact c _ _ _ h
  .rename_i f;simp only[f]at h;exact h
variable{b:Nat}
def Cu.next'{i:Nat}(a:Cu β π (b+i))(c: ∀id,¬((b+i)::π)<:+id->β' id=β id):Cu β' π (b+(i+1)):=a.next c
def Cu.mono{c:Nat}(a:Cu β π b)(h:b<=c):Cu β π c:=fun n e=>a n (IP h e)
def Mx{F:Fence}{n:Nat}{ops:Array Oper}(b: ∀e a w,Q e a w->Q' e a w): ∀{l:List Nat} {a:Act} {w:World},wpOpsIn F n P ops Q l a w->wpOpsIn F n P ops Q' l a w
 |[],a,w,h=>b _ _ _ h
 |i::l,a,w,h=>by
  rw[wpOpsIn_cons]at h⊢;have:=wpOpIn_mono (K':=wpOpsIn F n P ops Q' l) (fun a w=>Mx b) h;exact ZT b this
def AAq{u:Value}(h:VR β w M (.ii []) u):u=.tuple #[]:=by
 cases h with
 |ii _ c h1 _=>
  have:c= #[]:=Mt (by simpa using h1.symm);rw[this]
def SR{ops:Array Oper}{e:Nat->AV}{t:Bool}(m:Kz β w M e fun t=>a.tmps.getD t Go.undef)(n: ∀d j,Ig ops j=some d->d<a.tmps.size)(c:Me ops e o=some t):
 Region.wanted o (yielded ops a.tmps)=t:=by
 unfold Me at c;unfold Region.wanted;split at c
 .rename_i l;rw[l];simpa using c
 .rename_i j p l;rw[l];simp only;cases f:(ops[j]?).bind (·.dst)with
  |none=>rw[f]at c;cases c
  |some d=>
   rw[f]at c;simp only[F3]at c;split at c
   .rename_i b h;simp only[Co]at h c;have k:=m d;rw[h]at k;have g:=JW k;have i:=n d j f;have:a.tmps[d]? =some (.bool b):=by
     simp only at g;rw[Gs,Ex i]at g;rw[Ex i];simpa using g
    simp only[yielded,f,I2,this];rw[<-c];cases b<;>cases p<;>rfl
   .rename_i h;simp only[Co]at h c;have k:=m d;rw[h]at k;have g:a.tmps.getD d Go.undef=.tuple #[]:=AAq k;have i:=n d j f;have:a.tmps[d]? =some (.tuple #[]):=by
     rw[Gs,Ex i]at g;rw[Ex i];simpa using g
    simp only[yielded,f,I2,this];rw[<-c];rfl
   .cases c
def SM(F:NB P mix C)(J:EC P W K)(N:fr.wp=false->ro=none){ops:Array Oper}{i:Nat}(g:ops[i]? =some o)
 (I:LW W st.heap) (b:DB C K fr ops ρ o st=.ok st' fp)   (M:Lj st.env.get env2 o.op) (u:Me ops env2 o=Me ops st.env.get o) (L:jq fp.rd st.heap.get h2.get)
 (r: ∀o∈ops,∀d,o.dst=some d->d<nt.n):
 ∃v e,st'.env=DH st.env o.dst v/\st'.base=st.base/\(∀id,e.get id=ip fp.wr st'.heap.get h2.get id)/\
  ∀(A:Nat->Prop) (β:BK) (w:World) (a:Act),HR A β w h2->Ga β ρ->M0 A β w nt env2 st.defs h2 a-> ∀(next:Act->World->Prop) (Q:Exit->Act->World->Prop),
   (∀n w',H3 A fr.ci ρ nt β w h2 (SC env2 o.dst v) st'.defs e n w'->next n w')->wpOpIn (FF ro) 0 P ops Q i next a w:=by
 have q: ∀d,o.dst=some d->d<nt.n:=r o (RX g);have p: ∀{a:Act},a.tmps.size=nt.n-> ∀d j,Ig ops j=some d->d<a.tmps.size:=by
  intro a O d j c;rw[O];unfold Ig at c;cases l:ops[j]? with
  |none=>rw[l]at c;cases c
  |some o'=>rw[l]at c;exact r o' (RX l) d c
 unfold DB at b;split at b
 .cases b
 .rename_i f;simp only[Bd,Ib.ok.injEq]at b;obtain⟨rfl,rfl⟩:=b;refine⟨.ii [],h2,rfl,rfl,fun id=>(ZQ _ _ id).symm,?_⟩;intro A β w a H t s next Q k
  have m:=SR (ops:=ops) s.env (p s.sz) (by rw[u];exact f);unfold wpOpIn;simp only[g,m];exact⟨fun _ _=>trivial,k _ _ ⟨β,CN.refl H,s.put q (.ii [] #[] rfl (fun i x v h=>by simp at h))⟩⟩
 .rename_i f;obtain⟨v,e,y,z,B,D⟩:=yh (ro:=ro) (nt:=nt) F J N I b M L q;refine⟨v,e,y,z,B,?_⟩;intro A β w a H t s next Q k
  have m:=SR (ops:=ops) s.env (p s.sz) (by rw[u];exact f);unfold wpOpIn;simp only[g,m,F6];exact D A β w a H t s next Q k
def Vh(p:NB P mix C)(r:EC P W K){ops:Array Oper}{i:Nat}(I:ops[i]? =some o)
 (q:LW W st.heap) (c:DB C K fr ops ρ o st=.ge v st')   (z:Lj st.env.get env2 o.op) (F:Me ops env2 o=Me ops st.env.get o) (t: ∀id,st.heap.get id=h2.get id)
 (y: ∀o∈ops,∀d,o.dst=some d->d<nt.n):
 ∃e,st'.env=st.env/\st'.base=st.base/\st'.defs=st.defs/\(∀id,e.get id=st'.heap.get id)/\
  ∀(A:Nat->Prop) (β:BK) (w:World) (a:Act),HR A β w h2->Ga β ρ->M0 A β w nt env2 st.defs h2 a-> ∀(next:Act->World->Prop) (Q:Exit->Act->World->Prop),
   (∀g w' u,YG A fr.ci ρ nt β w h2 env2 st.defs e v u g w'->Q (.panic [{v:=u,recovered:=false}]) g w')->wpOpIn (FF ro) 0 P ops Q i next a w:=by
 have x: ∀{a:Act},a.tmps.size=nt.n-> ∀d j,Ig ops j=some d->d<a.tmps.size:=by
  intro a L d j b;rw[L];unfold Ig at b;cases f:ops[j]? with
  |none=>rw[f]at b;cases b
  |some o'=>rw[f]at b;exact y o' (RX f) d b
 unfold DB at c;split at c
 .cases c
 .simp at c
 .rename_i D;obtain⟨e,h,k,l,m,n⟩:=tD (ro:=ro) (nt:=nt) p r q c z t;refine⟨e,h,k,l,m,?_⟩;intro A β w a H B s next Q J
  have M:=SR (ops:=ops) s.env (x s.sz) (by rw[F];exact D);unfold wpOpIn;simp only[I,M,F6];exact n A β w a H B s next Q J
structure WY(A:Nat->Prop)(ci:Option (List Nat))(π:List Nat)(nt:NT)(β:BK)(w:World)(h:AD)(st':St)(base:Nat)(β':BK)(a':Act)(w':World):Prop where
 ol:CN A ci π β w h β' w' st'.heap
 s:M0 A β' w' nt st'.env.get st'.defs st'.heap a'
 fresh:Cu β' π base
def Zg(A:Nat->Prop)(ci:Option (List Nat))(π:List Nat)(nt:NT)(β:BK)(w:World)(h:AD)(out:Option AV)(st':St)(base:Nat):Exit->Act->World->Prop
 |.normal,a',w'=>out=none/\ ∃β',WY A ci π nt β w h st' base β' a' w'
 |.panic chain,a',w'=> ∃v u β',out=some v/\chain=[{v:=u,recovered:=false}]/\WY A ci π nt β w h st' base β' a' w'/\VR β' w' (MS A β' st'.heap) v u
 |_,_,_=>False
theorem At.refl(g:G)(l:List Id):At g g l:=fun _ _=>rfl
def jq.refl(a:Option (List Id))(g:G):jq a g g:=by cases a<;>simp[jq,At]
variable{alone:Nat->Bool}
def ie(D:NB P mix C)(n:EC P W K)(T:fr.wp=false->ro=none){ops:Array Oper}(F: ∀o∈ops,∀d,o.dst=some d->d<nt.n):
 ∀(l:List Oper) (i:Nat) (st st':St) (fps:List Fp) (out:Option AV),i<=ops.size->ops.toList.drop i=l->LW W st.heap->Ds C K fr ops b alone l i st=.ok ((out,st'),fps)->
  st'.base=st.base/\LW W st'.heap/\ ∀(A:Nat->Prop) (β:BK) (w:World) (a:Act),HR A β w st.heap->M0 A β w nt st.env.get st.defs st.heap a->Cu β fr.π (b+i)->
   wpOpsIn (FF ro) 0 P ops (Zg A fr.ci fr.π nt β w st.heap out st' (b+ops.size)) (List.range' i l.length) a w
 |[],i,st,st',fps,out,hle,hl,hL,c=>by
  simp only[Ds,E.ok.injEq,F9]at c;obtain⟨⟨rfl,rfl⟩,rfl⟩:=c;have a0:ops.size<=i:=by
   have:=congrArg List.length hl;simp at this;omega
  refine⟨rfl,hL,fun A β w a H s h=>⟨rfl,β,CN.refl H,s,?_⟩⟩;rw[show ops.size=i by omega];exact h
 |o::l,i,st,st',fps,out,hle,hl,hL,c=>by
  have I:ops[i]? =some o:=by
   exact zD3
  have ad:i<ops.size:=(Io.1 I).1;have ac:ops.toList.drop (i+1)=l:=by
   exact zD4
  simp only[Ds,JM]at c;simp only[List.length_cons,List.range'_succ,wpOpsIn_cons];split at c
  .rename_i f fp j;cases N:Ds C K fr ops b alone l (i+1) f with
   |err e=>rw[N]at c;cases c
   |ok r=>
    rw[N]at c;obtain⟨⟨ai,av⟩,V⟩:=r;simp only[YV,E.ok.injEq,F9]at c;obtain⟨⟨rfl,rfl⟩,rfl⟩:=c;obtain⟨v,S,y,z,B,g⟩:=SM (ro:=ro) D n T I hL j (env2:=st.env.get) (h2:=st.heap) (fun _ _=>rfl) rfl (jq.refl _ _) F;have q: ∀id,S.get id=f.heap.get id:=fun id=>by rw[B,(P3 j).1]
    obtain⟨Z,Y,ag⟩:=ie D n T F l (i+1) f av V ai ad ac (X2 n hL j) N;refine⟨by rw[Z,z],Y,fun A β w a H s h=>?_⟩;refine g A β w a H (h (b+i) (Es _)) s _ _ fun t p ⟨k,g1,s1⟩=>?_;have m:CN A fr.ci fr.π β w st.heap k p f.heap:=by
     have:=g1.up (F5 _ _);exact⟨this.out,this.hr.congr q,by rw[<-MS.congr q];exact this.it,fun ρ h1 h2=>by
      obtain⟨O,Q,R⟩:=this.kept ρ h1 h2;exact⟨O,Q,fun id J=>by rw[<-q];exact R id J⟩⟩
    have ar:M0 A k p nt f.env.get f.defs f.heap t:=by
     have:=s1.congr q;rw[y,dH];exact this
    have:=ag A k p t m.hr ar ((h.next' g1.out));refine Mx ?_ this;intro e az a1 M;cases e with
    |normal=>
     obtain⟨h1,β2,L⟩:=M;exact⟨h1,β2,m.trans L.ol,L.s,L.fresh⟩
    |panic chain=>
     obtain⟨v,u,β2,h1,h2,L,X⟩:=M;exact⟨v,u,β2,h1,h2,⟨m.trans L.ol,L.s,L.fresh⟩,X⟩
    |_=>exact M.elim
  .rename_i v f j;split at c
   .simp only[E.ok.injEq,F9]at c;obtain⟨⟨rfl,rfl⟩,rfl⟩:=c;obtain⟨S,y,z,B,g,U⟩:=Vh (ro:=ro) D n I hL j (env2:=st.env.get) (h2:=st.heap) (fun _ _=>rfl) rfl (fun _=>rfl) F;refine⟨z,WQ n hL j,fun A β w a H s h=>?_⟩;refine U A β w a H (h (b+i) (Es _)) s _ _ fun t p u ⟨k,g1,s1,hv⟩=>?_;have m:CN A fr.ci fr.π β w st.heap k p f.heap:=by
     have:=g1.up (F5 _ _);exact⟨this.out,this.hr.congr g,by rw[<-MS.congr g];exact this.it,fun ρ h1 h2=>by
      obtain⟨O,Q,R⟩:=this.kept ρ h1 h2;exact⟨O,Q,fun id J=>by rw[<-g];exact R id J⟩⟩
    refine⟨v,u,k,rfl,rfl,⟨m,?_,?_⟩,?_⟩
    .rw[y,B];exact s1.congr g
    .exact(h.next' g1.out).mono AA
    .rw[<-MS.congr g];exact hv
   .cases c
  .cases c
variable{A:Nat->Prop}{P:Program}{mix:List TypeId}{β β' β'':BK}{w w' w'':World}{M:Nat->Prop}{h h' h'':AD}{π ρ:List Nat}{ci:Option (List Nat)}{nt:NT}{env:Nat->AV}{defs defs':List Df}{a:Act}{ro:Option Nat}{W:Lp->Prop}
def bits(acc:Nat->Nat):List Edge->Nat
 |[]=>0
 |e::l=>match Region.binds .any e with
  |true=>bits acc l|||2 ^ e.on|||acc e.on
  |false=>bits acc l
def NP:List Oper->List Nat->List Nat
 |[],acc=>acc
 |o::l,acc=>NP l (acc++[bits (fun k=>acc.getD k 0) o.after.toList])
def Re{a:Nat->Nat}{i:Nat}: ∀{l:List Edge},(bits a l).testBit i=true-> ∃e∈l,Region.binds .any e=true/\(e.on=i\/(a e.on).testBit i=true)
 |[],h=>by simp[bits]at h
 |e::l,h=>by
  simp only[bits]at h;split at h
  .rename_i b;simp only[Nat.testBit_or,I8]at h;rcases h with(h|h)|h
   .exact zEQ
   .exact⟨e,AG,b,.inl (by simpa[Nat.testBit_two_pow]using h)⟩
   .exact⟨e,AG,b,.inr h⟩
  .exact zEQ
def UB: ∀(l:List Oper) (a:List Nat) (k:Nat),k<a.length->(NP l a).getD k 0=a.getD k 0
 |[],a,k,_=>rfl
 |o::l,a,k,h=>by
  simp only[NP];rw[UB l _ k Aa];simp[Ce h]
def Wo: ∀(l:List Oper) (a:List Nat) (j:Nat) (o:Oper),l[j]? =some o->
 ∃f:Nat->Nat,(NP l a).getD (a.length+j) 0=bits f o.after.toList/\ ∀k,f k=(NP l a).getD k 0\/f k=0
 |[],a,j,o,h=>by simp at h
 |x::l,a,0,o,h=>by
  simp at h;subst h;refine⟨fun k=>a.getD k 0,?_,fun k=>?_⟩
  .simp only[NP];rw[UB l _ _ AG];simp
  .by_cases b:k<a.length
   .left;exact(UB (x::l) a k b).symm
   .right;simp[LC (Nat.le_of_not_lt b)]
 |x::l,a,j+1,o,h=>by
  simp at h;obtain⟨f,h1,h2⟩:=Wo l (a++[bits (fun k=>a.getD k 0) x.after.toList]) j o h;refine⟨f,?_,h2⟩;rw[<-h1];simp only[NP,Be,I0];congr 1;omega
def p8(B:List Nat)(i j:Nat):Bool:=(B.getD j 0).testBit i
def cr{ops:Array Oper}{i j:Nat}(k:ops[j]? =some o)(h:p8 (NP ops.toList []) i j=true):
 ∃e∈o.after,Region.binds .any e=true/\(e.on=i\/p8 (NP ops.toList []) i e.on=true):=by
 obtain⟨f,h1,h2⟩:=Wo ops.toList [] j o (by simpa using k);unfold p8 at h;simp only[List.length_nil,I9]at h1;rw[h1]at h;obtain⟨e,g,c,a⟩:=Re h;refine⟨e,by simpa using g,c,a.imp (fun h=>h) fun a=>?_⟩;rcases h2 e.on with b|b
 .unfold p8;rw[<-b];exact a
 .rw[b]at a;simp at a
def p2(op:Op):List Tmp:=op.operands.toList.filterMap fun|.tmp t=>some t|_=>none
def bm(ops:Array Oper)(o:Oper):List Tmp:=match o.guard with
 |some (j,_)=>match Ig ops j with|some t=>[t]|none=>[]
 |none=>[]
def Oq(ops:Array Oper)(o:Oper):List Tmp:=o.dst.toList++p2 o.op++bm ops o
def iZ(d:Option Tmp)(l:List Tmp):Bool:=match d with
 |some t=>l.all fun x=> !Nat.beq x t
 |none=>true
def Ns{d:Option Tmp}{l:List Tmp}(h:iZ d l=true){t:Tmp}(a:d=some t):t∉l:=by
 subst a;intro b;have:=D3.1 h t b;simp at this
def bF(ops:Array Oper)(x y:Oper):Bool:=iZ x.dst (Oq ops y)&&iZ y.dst (Oq ops x)
def lL(x y:Op):Bool:=(Za x||wg y)&&(wg x||Za y)&&(Za x||Za y)
def ig(ops:Array Oper)(d9:List (Nat×Nat))(x y:Oper)(i j:Nat):Bool:=
 bF ops x y&&(lL x.op y.op||d9.any fun p=>Nat.beq p.1 i&&Nat.beq p.2 j)
def Yw:Op->Bool
 |.defer _=>true
 |_=>false
def wm(ops:Array Oper)(d9:List (Nat×Nat))(alone:Nat->Bool):Bool:=
 let B:=NP ops.toList []
 (List.range ops.size).all fun j=>match ops[j]? with
  |none=>false
  |some y=> !Yw y.op&&y.after.toList.all (fun e=> !Region.binds .any e||Nat.blt e.on j)&&
   (List.range j).all (fun i=>match ops[i]? with
    |none=>false
    |some x=>(p8 B i j||ig ops d9 x y i j)&&(!(alone i||alone j)||p8 B i j))
structure Tk(ops:Array Oper)(d9:List (Nat×Nat))(alone:Nat->Bool):Prop where
 noDef: ∀(j:Nat) (y:Oper),ops[j]? =some y-> ∀c,y.op≠ .defer c
 back: ∀(j:Nat) (y:Oper),ops[j]? =some y-> ∀e∈y.after,Region.binds .any e=true->e.on<j
 pair: ∀(i j:Nat) (x y:Oper),i<j->ops[i]? =some x->ops[j]? =some y->p8 (NP ops.toList []) i j=true\/
  (bF ops x y=true/\(lL x.op y.op=true\/(i,j)∈d9))
 alone: ∀(i j:Nat) (x y:Oper),i<j->ops[i]? =some x->ops[j]? =some y->(alone i=true\/alone j=true)->p8 (NP ops.toList []) i j=true
def jM{ops:Array Oper}{d9:List (Nat×Nat)}(h:wm ops d9 alone=true):Tk ops d9 alone:=by
 unfold wm at h;have f: ∀(j:Nat) (y:Oper),ops[j]? =some y->Yw y.op=false/\(∀e∈y.after,Region.binds .any e=true->e.on<j)/\
  ∀(i:Nat) (x:Oper),i<j->ops[i]? =some x->(p8 (NP ops.toList []) i j||ig ops d9 x y i j)=true/\(!(alone i||alone j)||p8 (NP ops.toList []) i j)=true:=by
  intro j y a;have s:j<ops.size:=(Io.1 a).1;have:=D3.1 h j (QR.2 s);simp only[a,AP,HW]at this;obtain⟨⟨h1,h2⟩,n⟩:=this;refine⟨h1,fun e q o=>?_,fun i x r b=>?_⟩
  .have:=D3.1 h2 e (by simpa using q);simpa[o,UP]using this
  .have:=D3.1 n i (QR.2 r);simp only[b,AP]at this;exact this
 refine⟨fun j y a c hc=>?_,fun j y a=>(f j y a).2.1,fun i j x y k b a=>?_,fun i j x y k b a g=>?_⟩
 .have:=(f j y a).1;simp[hc,Yw]at this
 .have:=((f j y a).2.2 i x k b).1;rw[I8]at this;refine this.imp (fun h=>h) fun h=>?_;unfold ig at h;simp only[AP,I8,UL]at h;refine⟨h.1,h.2.imp (fun h=>h) ?_⟩;rintro⟨p,hp,h1,h2⟩;have l:=D8 h1;have m:=D8 h2;rw[<-l,<-m];exact hp
 .have:=((f j y a).2.2 i x k b).2;rcases g with g|g<;>simpa[g]using this
def VY{C:DJ}{K:Ab}{fr:Fr}{ops:Array Oper}{b:Nat}{alone:Nat->Bool}:
 ∀(l:List Oper) (i:Nat) (st st':St) (fps:List Fp) (out:Option AV),i<=ops.size->ops.toList.drop i=l->Ds C K fr ops b alone l i st=.ok ((out,st'),fps)->
  ∃(S:Nat->St) (F:Nat->Fp) (m:Nat),i<=m/\m<=ops.size/\S i=st/\
   (∀k,i<=k->k<m-> ∃o,ops[k]? =some o/\DB C K fr ops ((b+k)::fr.π) o (S k)=.ok (S (k+1)) (F k)/\fps[k-i]? =some (F k))/\
   ((out=none/\m=ops.size/\S m=st')\/ ∃v o,out=some v/\m<ops.size/\alone m=true/\ops[m]? =some o/\DB C K fr ops ((b+m)::fr.π) o (S m)=.ge v st')
 |[],i,st,st',fps,out,hle,hl,a=>by
  simp only[Ds,E.ok.injEq,F9]at a;obtain⟨⟨rfl,rfl⟩,rfl⟩:=a;have D:ops.size<=i:=by
   have:=congrArg List.length hl;simp at this;omega
  exact⟨fun _=>st,fun _=>{},i,Es _,hle,rfl,fun k h1 h2=>AA,.inl ⟨rfl,AA,rfl⟩⟩
 |o::l,i,st,st',fps,out,hle,hl,a=>by
  have c:ops[i]? =some o:=by
   exact zD3
  have j:i<ops.size:=(Io.1 c).1;have z:ops.toList.drop (i+1)=l:=by
   exact zD4
  simp only[Ds,JM]at a;split at a
  .rename_i h fp g;cases f:Ds C K fr ops b alone l (i+1) h with
   |err e=>rw[f]at a;cases a
   |ok r=>
    rw[f]at a;obtain⟨⟨A,B⟩,n⟩:=r;simp only[YV,E.ok.injEq,F9]at a;obtain⟨⟨rfl,rfl⟩,rfl⟩:=a;obtain⟨S,F,m,h1,h2,s,t,u⟩:=VY l (i+1) h B n A j z f;refine⟨fun k=>if k=i then st else S k,fun k=>if k=i then fp else F k,m,AA,h2,D4 rfl,fun k H y=>?_,?_⟩
    .by_cases e:k=i
     .subst e;refine⟨o,c,?_,AG⟩;simp only[F6,Ci (show¬k+1=k by omega),s];exact g
     .obtain⟨o',g1,p,q⟩:=t k AA y;refine⟨o',g1,?_,?_⟩
      .simp only[Ci e,Ci (show¬k+1=i by omega)];exact p
      .rw[show k-i=(k-(i+1))+1 by omega];simp only[Ci e,GS];exact q
    .simp only[Ci (show¬m=i by omega)];exact u
  .rename_i v h g;split at a
   .rename_i w;simp only[E.ok.injEq,F9]at a;obtain⟨⟨rfl,rfl⟩,rfl⟩:=a;exact⟨fun _=>st,fun _=>{},i,Es _,hle,rfl,fun k h1 h2=>AA,.inr ⟨v,o,rfl,j,w,c,g⟩⟩
   .cases a
  .cases a
section mixed
variable(ops:Array Oper)(S:Nat->St)(F:Nat->Fp)
def Kb(D:Nat->Bool):Nat->Nat->AV
 |0=>(S 0).env.get
 |k+1=>fun t=>if D k=true/\Ig ops k=some t then(S (k+1)).env.get t else Kb D k t
def Ij(D:Nat->Bool):Nat->G
 |0=>(S 0).heap.get
 |k+1=>fun id=>if D k=true then ip (F k).wr (S (k+1)).heap.get (Ij D k) id else Ij D k id
def Ze(wr:Option (List Id))(id:Id):Prop:= ∃l,wr=some l/\id∉l
end mixed
variable{ops:Array Oper}{S:Nat->St}{F:Nat->Fp}{D:Nat->Bool}
variable{t:Tmp}
theorem TU{m:Nat}(a: ∀k,k<m-> ∃v,(S (k+1)).env=DH (S k).env (Ig ops k) v): ∀{i:Nat},i<=m->(∀j,j<i->Ig ops j=some t->D j=true)->Kb ops S D i t=(S i).env.get t
 |0,_,_=>rfl
 |i+1,hi,h=>by
  simp only[Kb];split
  .rfl
  .rename_i c;obtain⟨v,g⟩:=a i hi;have f:Ig ops i≠some t:=fun e=>c ⟨h i AA e,e⟩;rw[TU a AA fun j l=>h j AA,g,dH];unfold SC;split
   .rename_i d b;have:d≠t:=fun e=>f (e▸b);simp[this]
   .rfl
def UZ{i:Nat}: ∀{n:Nat},(∀j,i<=j->j<i+n->Ig ops j=some t->D j=false)->Kb ops S D (i+n) t=Kb ops S D i t
 |0,_=>rfl
 |n+1,h=>by
  rw[<-Rc];simp only[Kb];rw[Ci (by rintro⟨h1,h2⟩;rw[h (i+n) AA AA h2]at h1;cases h1)];exact UZ fun j h1 h2=>h j h1 AA
def HV{b:Option (List Id)}{id:Id}(h:Ze b id)(new a:G):ip b new a id=a id:=by
 obtain⟨l,rfl,c⟩:=h;simp[ip,c]
def ZR(a:Option (List Id))(id:Id):Ze a id\/ ∀new b:G,ip a new b id=new id:=by
 cases a with
 |none=>exact .inr fun _ _=>rfl
 |some l=>
  by_cases h:id∈l
  .exact .inr fun _ _=>by simp[ip,h]
  .exact .inl ⟨l,rfl,h⟩
def Qf{m:Nat}{id:Id}(b: ∀k,k<m->ip (F k).wr (S (k+1)).heap.get (S k).heap.get id=(S (k+1)).heap.get id): ∀{i:Nat},i<=m->(∀j,j<i->D j=false->Ze (F j).wr id)->Ij S F D i id=(S i).heap.get id
 |0,_,_=>rfl
 |i+1,hi,h=>by
  have e:=Qf b (i:=i) AA fun j l=>h j AA;have c:=b i hi;simp only[Ij];split
  .rcases ZR (F i).wr id with a|g
   .rw[HV a,e,<-c,HV a]
   .exact g _ _
  .rename_i f;have a:=h i AA zEb;rw[e,<-c,HV a]
def Oi{id:Id}{i:Nat}: ∀{n:Nat},(∀j,i<=j->j<i+n->D j=true->Ze (F j).wr id)->Ij S F D (i+n) id=Ij S F D i id
 |0,_=>rfl
 |n+1,h=>by
  rw[<-Rc];simp only[Ij];split
  .rename_i a;rw[HV (h (i+n) AA AA a)];exact Oi fun j h1 h2=>h j h1 AA
  .exact Oi fun j h1 h2=>h j h1 AA
def PK(D:Nat->Bool)(i:Nat):Nat->Bool:=fun k=>D k||Nat.beq k i
def KK(D:Nat->Bool)(i:Nat):PK D i i=true:=by simp[PK]
def J5(D:Nat->Bool){i k:Nat}(h:k≠i):PK D i k=D k:=by simp[PK,h]
def PV{i:Nat}{t:Tmp}(h:Ig ops i≠some t): ∀n,Kb ops S (PK D i) n t=Kb ops S D n t
 |0=>rfl
 |n+1=>by
  simp only[Kb,PV h n];by_cases e:n=i
  .subst e;simp[h]
  .rw[J5 D e]
def K9{i:Nat}{id:Id}(h:Ze (F i).wr id)(a:D i=false): ∀n,Ij S F (PK D i) n id=Ij S F D n id
 |0=>rfl
 |n+1=>by
  simp only[Ij];by_cases e:n=i
  .subst e;rw[KK,a];simp only[F6,FN,AM];rw[HV h];exact K9 h a n
  .rw[J5 D e];rcases ZR (F n).wr id with b|c
   .rw[HV b,HV b,K9 h a n]
   .rw[c,c,K9 h a n]
def Rh{i:Nat}(a:D i=false): ∀{n:Nat},i<n->((List.range n).countP fun k=> !PK D i k)<(List.range n).countP fun k=> !D k
 |0,h=>AA
 |n+1,h=>by
  have mono: ∀n,((List.range n).countP fun k=> !PK D i k)<=(List.range n).countP fun k=> !D k:=fun n=>
   List.countP_mono_left fun k _ b=>by
    simp only[PK,Bool.not_or,AP]at b;exact b.1
  simp only[List.range_succ,List.countP_append,List.countP_singleton];by_cases e:n=i
  .subst e;rw[KK,a];have:=mono n;simp;omega
  .rw[J5 D e];have:=Rh a (show i<n by omega);omega
variable{A:Nat->Prop}{P:Program}{mix:List TypeId}{β β' β'':BK}{w w' w'':World}{M:Nat->Prop}{h h' h'':AD}{π ρ:List Nat}{ci:Option (List Nat)}{nt:NT}{env:Nat->AV}{defs defs':List Df}{a:Act}{ro:Option Nat}{W:Lp->Prop}
def re(x:Option (List Id))(id:Id):Prop:=x=none\/ ∃l,x=some l/\id∈l
def u3(x:Option (List Id))(id:Id):Ze x id\/re x id:=by
 cases x with
 |none=>exact .inr (.inl rfl)
 |some l=>
  by_cases h:id∈l
  .exact .inr (.inr ⟨l,rfl,h⟩)
  .exact .inl ⟨l,rfl,h⟩
variable{x y:Option (List Id)}
def Tu(h:apart x y=true){id:Id}(a:re x id):Ze y id:=by
 unfold apart at h;split at h
 .rcases a with a|⟨l,c,b⟩
  .cases a
  .cases c;cases b
 .exact⟨[],rfl,AG⟩
 .rename_i l m _ _;rcases a with a|⟨f,c,b⟩
  .cases a
  .cases c;refine⟨m,rfl,fun e=>?_⟩;have:=D3.1 h id b;simp at this;exact this e
 .cases h
def Zo(h:apart x y=true){id:Id}(a:re y id):Ze x id:=by
 unfold apart at h;split at h
 .exact⟨[],rfl,AG⟩
 .rcases a with a|⟨l,c,b⟩
  .cases a
  .cases c;cases b
 .rename_i l m _ _;rcases a with a|⟨f,c,b⟩
  .cases a
  .cases c;refine⟨l,rfl,fun e=>?_⟩;have:=D3.1 h id e;simp at this;exact this b
 .cases h
def xW{a:Option (List Id)}{g b:G}(h: ∀id,re a id->g id=b id):jq a g b:=by
 cases a with
 |none=>exact fun id=>h id (.inl rfl)
 |some l=>exact fun id c=>h id (.inr ⟨l,rfl,c⟩)
theorem NM(y:Option (List Id)):apart (some []) y=true:=rfl
def NN(x:Option (List Id)):apart x (some [])=true:=by
 cases x with
 |none=>rfl
 |some l=>cases l<;>rfl
def du{C:DJ}{K:Ab}{fr:Fr}{ops:Array Oper}{x y:Oper}{j l k m:St}{a b:Fp}{p q:List Nat}(h:lL x.op y.op=true)(g:DB C K fr ops p x j=.ok k a)(i:DB C K fr ops q y l=.ok m b):
 a.apart b=true:=by
 obtain⟨n,c⟩:=X1 g;obtain⟨o,e⟩:=X1 i;unfold lL at h;simp only[AP,I8]at h;obtain⟨⟨h1,h2⟩,f⟩:=h;unfold Fp.apart;simp only[AP];refine⟨⟨?_,?_⟩,?_⟩
 .rcases h1 with h|h
  .rw[c h];exact NM _
  .rw[o h];exact NN _
 .rcases h2 with h|h
  .rw[n h];exact NM _
  .rw[e h];exact NN _
 .rcases f with h|h
  .rw[c h];exact NM _
  .rw[e h];exact NN _
variable{o:Oper}
def PS{ops:Array Oper}{i:Nat}(h:ops[i]? =some o):Ig ops i=o.dst:=by simp[Ig,h]
def LR(ops:Array Oper)(D:Nat->Bool):Prop:= ∀(j:Nat) (y:Oper),ops[j]? =some y->D j=true-> ∀e∈y.after,Region.binds .any e=true->D e.on=true
variable{d9:List (Nat×Nat)}{alone:Nat->Bool}
def KZ{ops:Array Oper}{D:Nat->Bool}(m:Tk ops d9 alone)(hc:LR ops D): ∀(j:Nat),D j=true-> ∀i,p8 (NP ops.toList []) i j=true->j<ops.size->D i=true:=by
 intro j;induction j using Nat.strongRecOn with
 |_ j n=>
  intro g i l k;have a:ops[j]? =some ops[j]:=Ex k;obtain⟨e,f,b,h1⟩:=cr a l;have c:=hc j _ a g e f b;have h:=m.back j _ a e f b;rcases h1 with rfl|h1
  .exact c
  .exact n e.on h c i h1 AA
def Oy{ops:Array Oper}{D:Nat->Bool}(g:Tk ops d9 alone)(hc:LR ops D){i:Nat}(a:ops[i]? =some o)(k: ∀e∈o.after,Region.binds .any e=true->D e.on=true)
 {j:Nat} (h:p8 (NP ops.toList []) j i=true):D j=true:=by
 obtain⟨e,f,b,h1⟩:=cr a h;have c:=k e f b;have l:=g.back i _ a e f b;have m:i<ops.size:=(Io.1 a).1;rcases h1 with rfl|h1
 .exact c
 .exact KZ g hc e.on c j h1 AA
structure AQ(W:Lp->Prop)(C:DJ)(K:Ab)(fr:Fr)(ops:Array Oper)(b:Nat)(d9:List (Nat×Nat))(alone:Nat->Bool)(S:Nat->St)(F:Nat->Fp)(m:Nat):Prop where
 le:m<=ops.size
 step: ∀k,k<m-> ∃o,ops[k]? =some o/\DB C K fr ops ((b+k)::fr.π) o (S k)=.ok (S (k+1)) (F k)
 env: ∀k,k<m-> ∃v,(S (k+1)).env=DH (S k).env (Ig ops k) v
 ip: ∀id k,k<m->ip (F k).wr (S (k+1)).heap.get (S k).heap.get id=(S (k+1)).heap.get id
 defs: ∀k,k<=m->(S k).defs=(S 0).defs
 lw: ∀k,k<=m->LW W (S k).heap
 base: ∀k,k<=m->(S k).base=(S 0).base
 apart: ∀(i j:Nat),i<j->j<m->p8 (NP ops.toList []) i j=true\/(F i).apart (F j)=true
variable{C:DJ}{K:Ab}{fr:Fr}{ops:Array Oper}{b m:Nat}{d9:List (Nat×Nat)}{alone:Nat->Bool}{S:Nat->St}{F:Nat->Fp}{D:Nat->Bool}
variable{fps:List Fp}
def m6(s:NB P mix C)(l:EC P W K)(I:fr.wp=false->ro=none)(p:Tk ops d9 alone)(z: ∀o∈ops,∀d,o.dst=some d->d<nt.n)(H:Et fps d9=true)(D:m<=ops.size)(t:LW W (S 0).heap)
 (c: ∀k,k<m-> ∃o,ops[k]? =some o/\DB C K fr ops ((b+k)::fr.π) o (S k)=.ok (S (k+1)) (F k)/\fps[k]? =some (F k)):AQ W C K fr ops b d9 alone S F m:=by
 have n: ∀k,k<=m->LW W (S k).heap:=by
  intro k;induction k with
  |zero=>intro _;exact t
  |succ k e=>
   intro a;obtain⟨o,h1,h2,g⟩:=c k a;exact X2 l (e AA) h2
 have f: ∀k,k<m->(∃v,(S (k+1)).env=DH (S k).env (Ig ops k) v)/\(S (k+1)).base=(S k).base/\(S (k+1)).defs=(S k).defs:=by
  intro k a;obtain⟨o,h1,h2,g⟩:=c k a;obtain⟨v,R,q,r,_⟩:=SM (ro:=ro) s l I h1 (n k AA) h2 (env2:=(S k).env.get) (h2:=(S k).heap) (fun _ _=>rfl) rfl (jq.refl _ _) z;exact⟨⟨v,by rw[PS h1];exact q⟩,r,(P3 h2).2 (p.noDef k o h1)⟩
 have w: ∀k,k<=m->(S k).defs=(S 0).defs:=by
  intro k;induction k with
  |zero=>intro _;rfl
  |succ k e=>intro a;rw[(f k a).2.2,e AA]
 have u: ∀k,k<=m->(S k).base=(S 0).base:=by
  intro k;induction k with
  |zero=>intro _;rfl
  |succ k e=>intro a;rw[(f k a).2.1,e AA]
 refine⟨D,fun k a=>let ⟨o,h1,h2,_⟩:=c k a;⟨o,h1,h2⟩,fun k a=>(f k a).1,fun id k a=>?_,w,n,u,fun i j A B=>?_⟩
 .obtain⟨o,h1,h2,g⟩:=c k a;exact(P3 h2).1 id
 .obtain⟨x,J,L,M⟩:=c i AA;obtain⟨y,N,O,Q⟩:=c j B;refine(p.pair i j x y A J N).imp (fun h=>h) ?_;rintro⟨_,h|h⟩
  .exact du h L O
  .have:=D3.1 H (i,j) h;simpa[M,Q]using this
def cW(R:AQ W C K fr ops b d9 alone S F m)(l:Tk ops d9 alone)(hc:LR ops D)(u: ∀k,D k=true->k<m){i:Nat}{o:Oper}(f:ops[i]? =some o)(v:i<=m)(p:D i=false)
 (x: ∀e∈o.after,Region.binds .any e=true->D e.on=true) {t:Tmp} (q:t∈Oq ops o):Kb ops S D m t=(S i).env.get t:=by
 obtain⟨n,rfl⟩: ∃n,m=i+n:=⟨m-i,AA⟩;have y:i<ops.size:=(Io.1 f).1;rw[UZ (fun j h1 h2 a=>?_),TU R.env v fun j w a=>?_]
 ·
  have g:j<ops.size:=AA;have r:ops[j]? =some ops[j]:=Ex g;rcases l.pair j i _ o w r f with h|⟨h,_⟩
  .exact Oy l hc f x h
  .unfold bF at h;simp only[AP]at h;rw[PS r]at a;exact absurd q (Ns h.1 a)
 ·
  cases c:D j with
  |false=>rfl
  |true=>
   exfalso;by_cases e:j=i
   .subst e;rw[p]at c;cases c
   have g:j<ops.size:=by have:=u j c;have:=R.le;omega
   have s:ops[j]? =some ops[j]:=Ex g;rcases l.pair i j o _ AA f s with h|⟨h,_⟩
   .have:=KZ l hc j c i h g;rw[p]at this;cases this
   .unfold bF at h;simp only[AP]at h;rw[PS s]at a;exact absurd q (Ns h.2 a)
def ACa(R:AQ W C K fr ops b d9 alone S F m)(l:Tk ops d9 alone)(hc:LR ops D)(a: ∀k,D k=true->k<m){i:Nat}(f:ops[i]? =some o)(g:i<=m)(c:D i=false)
 (h: ∀e∈o.after,Region.binds .any e=true->D e.on=true):Lj (S i).env.get (Kb ops S D m) o.op/\Me ops (Kb ops S D m) o=Me ops (S i).env.get o:=by
 refine⟨fun x r=>?_,?_⟩
 .cases x with
  |tmp t=>
   refine(cW R l hc a f g c h ?_).symm;unfold Oq;refine Hw _ (HU _ ?_);exact List.mem_filterMap.2 ⟨.tmp t,by simpa using r,rfl⟩
  |_=>rfl
 .unfold Me;cases q:o.guard with
  |none=>rfl
  |some p=>
   obtain⟨j,s⟩:=p;simp only;have e:((ops[j]?).bind fun x=>x.dst)=Ig ops j:=rfl;rw[e];cases n:Ig ops j with
   |none=>rfl
   |some t=>
    simp only[F3];rw[cW R l hc a f g c h (t:=t) (by
     unfold Oq;refine HU _ ?_;simp[bm,q,n])]
def zn(R:AQ W C K fr ops b d9 alone S F m)(g:Tk ops d9 alone)(hc:LR ops D)(c: ∀k,D k=true->k<m){i:Nat}{o:Oper}(p:ops[i]? =some o)(q:i<m)(f:D i=false)
 (s: ∀e∈o.after,Region.binds .any e=true->D e.on=true) {id:Id} (l:re (F i).rd id):Ij S F D m id=(S i).heap.get id:=by
 obtain⟨n,rfl⟩: ∃n,m=i+n:=⟨m-i,AA⟩;rw[Oi (fun j h1 h2 a=>?_),Qf (R.ip id) AA fun j r a=>?_]
 .rcases R.apart j i r q with h|h
  .have:=Oy g hc p s h;rw[this]at a;cases a
  .unfold Fp.apart at h;simp only[AP]at h;exact Zo h.1.1 l
 .by_cases e:j=i
  .subst e;rw[f]at a;cases a
  rcases R.apart i j AA (c j a)with h|h
  .have:=KZ g hc j a i h (by have:=c j a;have:=R.le;omega);rw[f]at this;cases this
  .unfold Fp.apart at h;simp only[AP]at h;exact Tu h.1.2 l
def yp(R:AQ W C K fr ops b d9 alone S F m)(p:Tk ops d9 alone)(hc:LR ops D)(r: ∀k,D k=true->k<m){i:Nat}{o:Oper}(c:ops[i]? =some o)(w:i<m)(s:D i=false){v:AV}
 (u:(S (i+1)).env=DH (S i).env o.dst v):SC (Kb ops S D m) o.dst v=Kb ops S (PK D i) m:=by
 funext t;cases a:o.dst with
 |none=>
  simp only[SC];exact(PV (by rw[PS c,a];simp) m).symm
 |some d=>
  simp only[SC];by_cases e:d=t
  .subst e;rw[D4 rfl];obtain⟨n,rfl⟩: ∃n,m=(i+1)+n:=⟨m-(i+1),AA⟩;rw[UZ (fun j h1 h2 f=>?_)]
   .simp only[Kb,KK,PS c,a,and_self,F6];rw[u,a];simp[DH,CA.get_cons]
   .rw[J5 D AA];cases g:D j with
    |false=>rfl
    |true=>
     exfalso;have l:j<ops.size:=by have:=r j g;have:=R.le;omega
     have q:ops[j]? =some ops[j]:=Ex l;rcases p.pair i j o _ AA c q with h|⟨h,_⟩
     .have:=KZ p hc j g i h l;rw[s]at this;cases this
     .unfold bF at h;simp only[AP]at h;rw[PS q]at f;refine absurd ?_ (Ns h.2 f);unfold Oq;exact Hw _ (Hw _ zEg)
  .rw[Ci e];exact(PV (by rw[PS c,a];simpa using e) m).symm
def uq(R:AQ W C K fr ops b d9 alone S F m)(q:Tk ops d9 alone)(hc:LR ops D)(e: ∀k,D k=true->k<m){i:Nat}(s:i<m)(f:D i=false)(id:Id):
 ip (F i).wr (S (i+1)).heap.get (Ij S F D m) id=Ij S F (PK D i) m id:=by
 rcases u3 (F i).wr id with c|g
 .rw[HV c,K9 c f]
 .have o: ∀new r:G,ip (F i).wr new r id=new id:=by
   rcases ZR (F i).wr id with c|h
   .obtain⟨l,h1,h2⟩:=c;rcases g with a|⟨t,a,p⟩
    .rw[h1]at a;cases a
    .rw[h1]at a;cases a;exact absurd p h2
   .exact h
  rw[o];obtain⟨n,rfl⟩: ∃n,m=(i+1)+n:=⟨m-(i+1),AA⟩;rw[Oi (fun j h1 h2 a=>?_)]
  .simp only[Ij,KK,F6];rw[o]
  .rw[J5 D AA]at a;rcases R.apart i j AA (e j a)with h|h
   .have:=KZ q hc j a i h (by have:=e j a;have:=R.le;omega);rw[f]at this;cases this
   .unfold Fp.apart at h;simp only[AP]at h;exact Tu h.2 g
def fC(hc:LR ops D){i:Nat}{o:Oper}(k:ops[i]? =some o)(l: ∀e∈o.after,Region.binds .any e=true->D e.on=true):LR ops (PK D i):=by
 intro j y a g e f c;have up:D e.on=true->PK D i e.on=true:=fun h=>by simp[PK,h]
 by_cases b:j=i
 .subst b;rw[k]at a;cases a;exact up (l e f c)
 .rw[J5 D b]at g;exact up (hc j y a g e f c)
structure Ai(P:Program)(C:DJ)(K:Ab)(fr:Fr)(nt:NT)(ops:Array Oper)(b m:Nat)(S:Nat->St)(F:Nat->Fp)(A:Nat->Prop)(β0:BK)(w0:World)(D:Nat->Bool)(listed:Array Bool)(β:BK)(w:World)(a:Act)(hc:AD):Prop where
 closed:LR ops D
 lt: ∀k,D k=true->k<m
 size:listed.size=ops.size
 list: ∀k,k<ops.size->listed[k]? =some (D k)
 heap: ∀id,hc.get id=Ij S F D m id
 s:M0 A β w nt (Kb ops S D m) (S 0).defs hc a
 ol:CN A fr.ci fr.π β0 w0 (S 0).heap β w hc
 fresh: ∀i,i<ops.size->D i=false->Ga β ((b+i)::fr.π)
 freshFrom:Cu β fr.π (b+ops.size)
def ABi(a':NB P mix C)(bc:EC P W K)(b':fr.wp=false->ro=none)(s:Tk ops d9 alone)(be: ∀o∈ops,∀d,o.dst=some d->d<nt.n)(R:AQ W C K fr ops b d9 alone S F m){st':St}{out:Option AV}
 (ar:(out=none/\m=ops.size/\S m=st')\/ ∃v o,out=some v/\m<ops.size/\alone m=true/\ops[m]? =some o/\DB C K fr ops ((b+m)::fr.π) o (S m)=.ge v st') {Y:BK} {X:World}:
 ∀(Q:Nat) (D:Nat->Bool) (p:Array Bool) (β:BK) (w:World) (a:Act) (hc:AD),Ai P C K fr nt ops b m S F A Y X D p β w a hc->((List.range ops.size).countP fun k=> !D k)<=Q->
  wpAnyIn (FF ro) 0 P .any ops (Zg A fr.ci fr.π nt Y X (S 0).heap out st' (b+ops.size)) Q p a w:=by
 have a6: ∀{D:Nat->Bool} {p:Array Bool} {β:BK} {w:World} {a:Act} {hc:AD},Ai P C K fr nt ops b m S F A Y X D p β w a hc->(∀k,k<ops.size->D k=true)->
  Zg A fr.ci fr.π nt Y X (S 0).heap out st' (b+ops.size) .normal a w:=by
  intro D p β w a hc M y;rcases ar with⟨rfl,r,rfl⟩|⟨v,o,_,r,_⟩
  .have B:Kb ops S D m=(S m).env.get:=by
    funext t;exact TU R.env (Es _) fun j J _=>y j AA
   have L: ∀id,hc.get id=(S m).heap.get id:=fun id=>by
    rw[M.heap];exact Qf (R.ip id) (Es _) fun j J h=>by rw[y j AA]at h;cases h
   refine⟨rfl,β,⟨M.ol.out,M.ol.hr.congr L,by rw[<-MS.congr L];exact M.ol.it,fun ρ h1 h2=>?_⟩,?_,M.freshFrom⟩
   .obtain⟨a0,a1,a2⟩:=M.ol.kept ρ h1 h2;exact⟨a0,a1,fun id T=>by rw[<-L];exact a2 id T⟩
   .rw[R.defs m (Es _),<-B];exact M.s.congr L
  .have:=M.lt m (y m r);omega
 have ch: ∀{D:Nat->Bool} {p:Array Bool} {β:BK} {w:World} {a:Act} {hc:AD},Ai P C K fr nt ops b m S F A Y X D p β w a hc->Region.ready .any ops p=[]-> ∀k,k<ops.size->D k=true:=by
  intro D p β w a hc M av k;induction k using Nat.strongRecOn with
  |_ k az=>
   intro f;cases z:D k with
   |true=>rfl
   |false=>
    exfalso;have c:ops[k]? =some ops[k]:=Ex f;have:k∈Region.ready .any ops p:=by
     unfold Region.ready;refine RS.2 ⟨QR.2 f,?_⟩;simp only[c,F3,GO,AP,HW];refine⟨by rw[Gs,M.list k f,z];rfl,?_⟩;rw[Array.all_eq_true_iff_forall_mem];intro e B;cases Z:Region.binds .any e with
     |false=>rfl
     |true=>
      have bk:=s.back k _ c e B Z;simp only[PI,I4];rw[Gs,M.list e.on AA,az e.on bk AA];rfl
    rw[av]at this;cases this
 intro Q;induction Q with
 |zero=>
  intro D p β w a hc M b2;have y: ∀k,k<ops.size->D k=true:=by
   intro k f;cases z:D k with
   |true=>rfl
   |false=>
    have:=Rh z f;omega
  refine⟨?_,a6 M y⟩;cases b8:Region.ready .any ops p with
  |nil=>rfl
  |cons k l=>
   exfalso;have:k∈Region.ready .any ops p:=by rw[b8];simp
   obtain⟨h1,h2⟩:=RS.1 this;have f:=QR.1 h1;simp only[AP,HW]at h2;have q:=h2.1;rw[Gs,M.list k f,y k f]at q;cases q
 |succ Q az=>
  intro D p β w a hc M b2;refine⟨fun av=>a6 M (ch M av),fun i b3=>?_⟩;obtain⟨h1,h2⟩:=RS.1 b3;have N:=QR.1 h1;have c:ops[i]? =some ops[i]:=Ex N;generalize ops[i]=o at c;simp only[c,F3,GO,AP,HW]at h2;have I:D i=false:=by
   have q:=h2.1;rw[Gs,M.list i N]at q;simpa using q
  have V: ∀e∈o.after,Region.binds .any e=true->D e.on=true:=by
   intro e B Z;have q:=(Array.all_eq_true_iff_forall_mem.1 h2.2) e B;have bk:=s.back i _ c e B Z;rw[Z]at q;simp only[PI,I4]at q;rw[Gs,M.list e.on AA]at q;simpa using q
  have U:i<=m:=by
   rcases ar with⟨_,r,_⟩|⟨v,x,_,r,ai,ac,_⟩
   .omega
   .by_cases e:i<=m
    .exact e
    .exfalso;have:=Oy s M.closed c V (s.alone m i x o AA ac c (.inl ai));have:=M.lt m this;omega
  obtain⟨bo,bi⟩:=ACa R s M.closed M.lt c U I V;by_cases r:i<m
  .obtain⟨o',bl,cc⟩:=R.step i r;rw[c]at bl;cases bl;have b1:jq (F i).rd (S i).heap.get hc.get:=xW fun id T=>by
    rw[M.heap,zn R s M.closed M.lt c r I V T]
   obtain⟨v,a7,ad,bx,ag,H⟩:=SM (ro:=ro) a' bc b' c (R.lw i U) cc bo bi b1 be;have a3:M0 A β w nt (Kb ops S D m) (S i).defs hc a:=by rw[R.defs i U];exact M.s
   refine H A β w a M.ol.hr (M.fresh i N I) a3 _ _ fun a5 bv ⟨a4,g1,s1⟩=>?_;rw[yp R s M.closed M.lt c r I ad,R.defs (i+1) r]at s1;have cl:=Rh I N;refine az (PK D i) _ a4 bv a5 a7 ⟨fC M.closed c V,fun k f=>?_,by simp[M.size],fun k f=>?_,fun id=>?_,s1,M.ol.trans (g1.up (F5 _ _)),fun k f z=>?_,?_⟩ AA
   .by_cases e:k=i
    .omega
    .rw[J5 D e]at f;exact M.lt k f
   .by_cases e:k=i
    .subst e;rw[KK];simp[M.size,N]
    .rw[J5 D e,I1 (Ne.symm e)];exact M.list k f
   .rw[ag,<-uq R s M.closed M.lt r I id];rcases ZR (F i).wr id with O|bs
    .rw[HV O,HV O,M.heap]
    .rw[bs,bs]
   .by_cases e:k=i
    .subst e;rw[KK]at z;cases z
    .rw[J5 D e]at z;exact(M.fresh k f z).other AA g1.out
   .exact fun n O=>(M.freshFrom n O).other AA g1.out
  ·
   have b4:i=m:=AA;subst b4;rcases ar with⟨_,b6,_⟩|⟨v,x,rfl,b6,ai,ac,b7⟩
   .omega
   .rw[c]at ac;cases ac;have y: ∀j,j<i->D j=true:=fun j J=>by
     have b5:j<ops.size:=AA;exact Oy s M.closed c V (s.alone j i _ o J (Ex b5) c (.inr ai))
    have B:Kb ops S D i=(S i).env.get:=by
     funext t;exact TU R.env (Es _) fun j J _=>y j J
    have L: ∀id,(S i).heap.get id=hc.get id:=fun id=>by
     rw[M.heap];exact(Qf (R.ip id) (Es _) fun j J h=>by rw[y j J]at h;cases h).symm
    obtain⟨a7,ad,bx,ag,H,b0⟩:=Vh (ro:=ro) a' bc c (R.lw i U) b7 bo bi L be;have a3:M0 A β w nt (Kb ops S D i) (S i).defs hc a:=by rw[R.defs i U];exact M.s
    refine b0 A β w a M.ol.hr (M.fresh i N I) a3 _ _ fun a5 bv u ⟨a4,g1,s1,hv⟩=>?_;have g:=M.ol.trans (g1.up (F5 _ _));refine⟨v,u,a4,rfl,rfl,⟨⟨g.out,g.hr.congr H,by rw[<-MS.congr H];exact g.it,fun ρ h1 h2=>?_⟩,?_,?_⟩,?_⟩
    .obtain⟨a0,a1,a2⟩:=g.kept ρ h1 h2;exact⟨a0,a1,fun id T=>by rw[<-H];exact a2 id T⟩
    .rw[ad,ag,<-B];exact s1.congr H
    .exact fun n O=>(M.freshFrom n O).other AA g1.out
    .rw[<-MS.congr H];exact hv
def yi(c:NB P mix C)(e:EC P W K)(j:fr.wp=false->ro=none)(L:P.follows .mixedOrders=true)(v:Tk ops d9 alone)(f: ∀o∈ops,∀d,o.dst=some d->d<nt.n){id:Nat}{st st':St}{out:Option AV}(p:LW W st.heap)
 (u:Ds C K fr ops b alone ops.toList 0 st=.ok ((out,st'),fps)) (M:Et fps d9=true):
 st'.base=st.base/\LW W st'.heap/\ ∀(A:Nat->Prop) (β:BK) (w:World) (a:Act),HR A β w st.heap->M0 A β w nt st.env.get st.defs st.heap a->Cu β fr.π b->
  (Code.region id ops true).wpIn (FF ro) 0 P (Zg A fr.ci fr.π nt β w st.heap out st' (b+ops.size)) a w:=by
 obtain⟨J,I,_⟩:=ie (ro:=ro) c e j f ops.toList 0 st st' fps out (It _) rfl p u;refine⟨J,I,fun A β w a H s q=>?_⟩;obtain⟨S,F,m,h1,h2,rfl,B,D⟩:=VY ops.toList 0 st st' fps out (It _) rfl u;have R:AQ W C K fr ops b d9 alone S F m:=m6 (ro:=ro) c e j v f M h2 p fun k g=>B k (It _) g;refine wpIn_region_any L ?_;have x:({w with drawn:=w.drawn+1}:World).heap=w.heap:=rfl
 have H':=H.heap x ⟨rfl,rfl⟩;have r:FG A (MS A β (S 0).heap) w (MS A β (S 0).heap) {w with drawn:=w.drawn+1}:=SB x ⟨rfl,rfl⟩ _
 have y:Kb ops S (fun _=>false) m=(S 0).env.get:=by
  funext t;have: ∀n,Kb ops S (fun _=>false) n t=(S 0).env.get t:=by
   intro n;induction n with
   |zero=>rfl
   |succ n l=>simp[Kb,l]
  exact this m
 have z: ∀id,(S 0).heap.get id=Ij S F (fun _=>false) m id:=by
  intro id;have: ∀n,Ij S F (fun _=>false) n id=(S 0).heap.get id:=by
   intro n;induction n with
   |zero=>rfl
   |succ n l=>simp[Ij,l]
  exact(this m).symm
 refine ABi c e j v f R D ops.size (fun _=>false) _ β _ a (S 0).heap ⟨fun _ _ _ h=>zEa,fun _ h=>zEa,AG,fun k g=>?_,z,?_,?_,fun i _ _=>q _ AA,q.mono AA⟩ ?_
 .simp[Array.getElem?_replicate,g]
 .rw[y];exact s.mono (.refl β) r
 .exact⟨fun _ _=>rfl,H',r,fun _ _ _=>⟨fun _ _ _=>rfl,fun _ h=>.inl h,fun _ _=>rfl⟩⟩
 .exact IP (List.countP_le_length) AG
variable{A:Nat->Prop}{P:Program}{mix:List TypeId}{β β' β'':BK}{w w' w'':World}{M:Nat->Prop}{h h' h'':AD}{π ρ:List Nat}{ci:Option (List Nat)}{nt:NT}{env:Nat->AV}{defs defs':List Df}{a:Act}{ro:Option Nat}{W:Lp->Prop}
def GB: ∀{l:List Id} {n:Nat} {x z:Id},Er π l n x=some z-> ∃j t,l[j]? =some x/\z=t::(n+j)::π
 |[],n,x,z,h=>by simp[Er]at h
 |y::l,n,x,z,h=>by
  simp only[Er]at h;split at h
  .rename_i e;rw[Id.is_iff]at e;subst e;simp only[Co]at h;exact⟨0,_,rfl,h.symm⟩
  .obtain⟨j,t,h1,h2⟩:=GB h;exact⟨j+1,t,by simpa using h1,by rw[h2];congr 2;omega⟩
def Nr{l:List Id}{x y z:Id}(h1:Er π l 0 x=some z)(h2:Er π l 0 y=some z):x=y:=by
 obtain⟨j,t,b,c⟩:=GB h1;obtain⟨k,u,b1,a⟩:=GB h2;rw[c]at a;simp only[Ms,I9,and_true]at a;rw[a.2,b1]at b;exact(Ip b).symm
def IV(ν:Id->Option Id)(vs:List AV):Fj ν vs=vs.map (ren ν):=by
 induction vs with
 |nil=>rfl
 |cons v vs a=>simp[Fj,a]
variable{β2:BK}{M2:Nat->Prop}{ν:Id->Option Id}
def VV(l: ∀x z,ν x=some z->β2 z=β x)(m: ∀b,M2 b->M b){x:AV}{v:Value}(h:VR β w M x v):VR β2 w M2 (ren ν x) v:=by
 have cells: ∀{cs:List AV} {c:Array Value},(∀(i:Nat) (x:AV) (v:Value),cs[i]? =some x->c[i]? =some v->VR β2 w M2 (ren ν x) v)->
  ∀(i:Nat) (x:AV) (v:Value),(Fj ν cs)[i]? =some x->c[i]? =some v->VR β2 w M2 x v:=by
  intro cs c j i x v o D;rw[IV,D7,Bv]at o;obtain⟨y,F,rfl⟩:=o;exact j i y v F D
 induction h with
 |d h=>simp only[ren];exact .d (h.mono (A:=fun _=>False) (HQ m w))
 |d7=>exact .d7
 |emp a=>exact .emp a
 |f8 id off len k a cap e C n q=>
  simp only[ren];split
  .rename_i z g;exact .f8 z off len k a cap zE1 C n q
  .exact .undef _
 |ptr id off k e=>
  simp only[ren];split
  .rename_i z g;exact .ptr z off k zE1
  .exact .undef _
 |jp id i off k e=>
  simp only[ren];split
  .rename_i z g;exact .jp z i off k zE1
  .exact .undef _
 |rg cs b off c elem fr r B n s=>
  simp only[ren];exact .rg cs b off c elem fr r (fun h=>B (m _ h)) n fun i x v h1 h2=>(s i x v h1 h2).mono (A:=fun _=>False) (HQ m w)
 |fn f a b p b' h1 h2 _ _ H I=>
  simp only[ren];exact .fn f _ _ p b' zFi (by rw[IV,As];exact h2) (cells H) (cells I)
 |wt id k e=>
  simp only[ren];split
  .rename_i z g;exact .wt z k zE1
  .exact .undef _
 |mp id k e=>
  simp only[ren];split
  .rename_i z g;exact .mp z k zE1
  .exact .undef _
 |iface t v u _ j=>simp only[ren];exact .iface t _ u j
 |agg cs c h1 _ j=>simp only[ren];exact .agg _ c zFi (cells j)
 |ii cs c h1 _ j=>simp only[ren];exact .ii _ c zFi (cells j)
 |undef v=>exact .undef v
def kK(ν:Id->Option Id)(e:CA)(t:Nat):CA.get (e.map fun p=>(p.1,ren ν p.2)) t=ren ν (e.get t):=by
 induction e with
 |nil=>rfl
 |cons p e a=>
  obtain⟨k,v⟩:=p;simp only[By,CA.get_cons,a];split<;>rfl
def kQ(C: ∀x z,ν x=some z->β2 z=β x)(s: ∀b,M2 b->M b){k:TH}{o:Obj}(h:NI β w M k o):NI β2 w M2 k (E1 ν o):=by
 have D: ∀{x:Al} {v:Value},DR w M x v->DR w M2 x v:=fun h=>h.mono (A:=fun _=>False) (HQ s w);cases o with
 |box cs=>
  obtain⟨c,elem,h1,h2⟩:=h;refine⟨c,elem,h1,by rw[IV,As];exact h2.1,fun i x v u F=>?_⟩;rw[IV,D7,Bv]at u;obtain⟨y,g,rfl⟩:=u;exact VV C s (h2.2 i y v g F)
 |em sz es=>obtain⟨c,elem,h1,h2,f,j,m,n,q⟩:=h;exact⟨c,elem,h1,h2,f,j,m,n,fun i x v a b=>D (q i x v a b)⟩
 |i7 sz es=>
  rcases h with h|⟨O,c,elem,fr,h1,h2,f,j,m,n,q⟩
  .exact .inl h
  .exact .inr ⟨fun h=>O (s _ h),c,elem,fr,h1,h2,f,j,m,n,fun i x v a b=>D (q i x v a b)⟩
 |arr sz es=>
  obtain⟨c,elem,h1,h2,f,j,m,n,q⟩:=h;have N:(es.map (Fj ν)).flatten=es.flatten.map (ren ν):=by
   rw[T7];congr 1;exact List.map_congr_left fun x _=>IV ν x
  refine⟨c,elem,h1,h2,f,j,fun e B=>?_,by rw[As];exact n,fun i x v u F=>?_⟩
  .obtain⟨y,g,rfl⟩:=F1.1 B;rw[IV,As];exact m y g
  .rw[N,D7,Bv]at u;obtain⟨y,g,rfl⟩:=u;exact VV C s (q i y v g F)
 |map es=>
  obtain⟨J,I,h1,h2,f⟩:=h;refine⟨J,I,h1,by rw[As];exact h2,fun i p e H B=>?_⟩;rw[D7,Bv]at H;obtain⟨y,g,rfl⟩:=H;exact⟨D (f i y e g B).1,VV C s (f i y e g B).2⟩
 |loop r=>
  obtain⟨l,h1,h2,f,j,m,n,q,L,K⟩:=h;refine⟨l,h1,h2,f,j,m,n,q,L,fun t=>?_⟩;rw[kK];exact VV C s (K t)
def ZH(ν:Id->Option Id)(o:Obj):(E1 ν o).mut=o.mut:=by cases o<;>rfl
def GV{ν:Id->Option Id}: ∀{l:List Id} {z:Id} {b:Obj},(EF h ν l).get z=some b-> ∃x o,h.get x=some o/\ν x=some z/\b=E1 ν o
 |[],z,b,a=>by simp[EF]at a
 |x::l,z,b,a=>by
  simp only[EF]at a;split at a
  .rename_i o c h1 h2;rw[AD.get_cons]at a;split at a
   .rename_i e;subst e;cases a;exact⟨x,o,h1,h2,rfl⟩
   .exact GV a
  .exact GV a
def U4(e:CA): ∀(l:List Nat) (t:Nat),CA.get (l.map fun t=>(t,e.get t)) t=e.get t\/CA.get (l.map fun t=>(t,e.get t)) t=.undef
 |[],t=>.inr rfl
 |k::l,t=>by
  simp only[By,CA.get_cons];split
  .rename_i h;subst h;exact .inl rfl
  .exact U4 e l t
def sh{C:DJ}{fr:Fr}{b:Nat}{st:St}(H:HR A β w st.heap)(s:M0 A β w nt st.env.get st.defs st.heap a)(Y:Cu β fr.π st.base)(r:fr.raw=false-> ∀id,β id≠none->fr.π<:+id):
 ∃β2,CN A ci fr.π β w st.heap β2 w (Fq C fr b st).heap/\M0 A β2 w nt (Fq C fr b st).env.get (Fq C fr b st).defs (Fq C fr b st).heap a/\Cu β2 fr.π (Fq C fr b st).base:=by
 unfold Fq;simp only;split
 .refine⟨β,CN.refl H,⟨s.sz,fun t=>?_,s.defs⟩,Y⟩;simp only;exact zCs
 .rename_i K;simp only[I8,not_or,Lm,Bool.not_eq_eq_eq_not,Bool.not_not]at K;obtain⟨ad,X⟩:=K;have r:=r ad;have W:st.defs=[]:=by simpa using X
  generalize a0:Cw st.heap 1000 (GX [] (((C.live fr.f b).map fun t=>(t,st.env.get t)).flatMap fun p=>AE p.2)) 0=l
  classical
  let ν:=Er fr.π l 0
  let β2:BK:=fun z=>if g: ∃x,ν x=some z then β g.choose else none
  have m: ∀x z,ν x=some z->β2 z=β x:=by
   intro x z f;have g: ∃x,ν x=some z:=⟨x,f⟩;simp only[β2,dif_pos g];rw[Nr g.choose_spec f]
  have u: ∀z k,β2 z=some k-> ∃x,ν x=some z/\β x=some k:=by
   intro z k c;by_cases g: ∃x,ν x=some z
   .simp only[β2,dif_pos g]at c;exact⟨_,g.choose_spec,c⟩
   .simp only[β2,dif_neg g]at c;cases c
  have Q: ∀x z,ν x=some z-> ∃j t,j<l.length/\z=t::j::fr.π:=by
   intro x z f;obtain⟨j,t,h1,h2⟩:=GB f;exact⟨j,t,(BV.1 h1).1,by rw[h2,I9]⟩
  have R: ∀x z,ν x=some z->fr.π<:+z:=by
   intro x z f;obtain⟨j,t,_,rfl⟩:=Q x z f;exact(F5 _ _).trans (F5 _ _)
  have B: ∀b,MS A β2 (EF st.heap ν l) b->MS A β st.heap b:=by
   rintro b (i|⟨z,o,k,h1,h2,J,rfl⟩)
   .exact .inl i
   .obtain⟨x,o',g1,h,rfl⟩:=GV h1;rw[ZH]at h2;rw[m x z h]at J;exact .inr ⟨x,o',k,g1,h2,J,rfl⟩
  have T:HR A β2 w (EF st.heap ν l):=by
   refine⟨fun z o F=>?_,fun y z a1 a2 ai ar ag g O P L M e=>?_,fun z k c=>?_,fun z o k F N c=>?_,H.abnd⟩
   .obtain⟨x,o',g1,h,rfl⟩:=GV F;obtain⟨k,c,ac⟩:=H.obj x o' g1;exact⟨k,by rw[m x z h];exact c,kQ m B ac⟩
   .obtain⟨x,o',g1,h,rfl⟩:=GV ag;obtain⟨S,av,U,v,rfl⟩:=GV g;rw[ZH]at O P;rw[m x y h]at L;rw[m S z v]at M;have:=H.inj x S o' av ai ar g1 U O P L M e;subst this;rw[h]at v;exact Ip v
   .obtain⟨x,_,f⟩:=u z k c;exact H.bnd x k f
   .obtain⟨x,o',g1,h,rfl⟩:=GV F;rw[ZH]at N;rw[m x z h]at c;exact H.out x o' k g1 N c
  refine⟨β2,⟨fun id q=>?_,T,⟨fun _ _ _=>rfl,Es _,fun b i=>.inl (B b i),rfl,rfl⟩,fun a3 I _=>⟨fun _ _ _=>rfl,?_,fun id q=>?_⟩⟩,⟨s.sz,fun t=>?_,?_⟩,fun n Z z g=>?_⟩
  .have h1:β id=none:=by
    cases i:β id with
    |none=>rfl
    |some k=>exact absurd (r id (by rw[i];simp)) q
   have h2:β2 id=none:=by
    cases i:β2 id with
    |none=>rfl
    |some k=>
     obtain⟨x,f,_⟩:=u id k i;exact absurd (R x id f) q
   rw[h1,h2]
  .rintro b ⟨z,k,h1,h2,rfl⟩;obtain⟨x,f,c⟩:=u z k h2;exact .inl ⟨x,k,I.trans (r x zFO),c,rfl⟩
  .have h1:(EF st.heap ν l).get id=none:=by
    cases D:(EF st.heap ν l).get id with
    |none=>rfl
    |some o=>
     obtain⟨x,_,_,h,_⟩:=GV D;exact absurd (I.trans (R x id h)) q
   have h2:st.heap.get id=none:=by
    cases D:st.heap.get id with
    |none=>rfl
    |some o=>
     obtain⟨k,c,_⟩:=H.obj id o D;exact absurd (I.trans (r id zFO)) q
   rw[h2];exact h1
  .simp only;rw[kK];refine VV m B ?_;exact zCs
  .have:=s.defs;rw[W]at this;cases V:a.defers with
   |nil=>trivial
   |cons d l=>rw[V]at this;exact this.elim
  .cases i:β2 z with
   |none=>rfl
   |some k=>
    exfalso;obtain⟨x,f,_⟩:=u z k i;obtain⟨j,t,az,rfl⟩:=Q x z f;have:=LN g (F5 t (j::fr.π));have:l.length<=n:=Z;omega
