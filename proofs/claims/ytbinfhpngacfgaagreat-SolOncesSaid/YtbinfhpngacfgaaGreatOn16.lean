/- P -/
import Derived.ProofKit
import Derived.ChangeAlike
import Derived.Test.YtbinfhpngacfgaaGreatOn15
set_option linter.all false
open Go renaming World->G2,Value->G4,TypeId->Hk,Program->H5
open Option renaming some->J,none->I
open Bool renaming true->X,false->Z
open List renaming length->U
namespace Go.Abs
open Go Go.ChangeShapes Go.WideShapes Go.ChangeAt Go.RowKit
def vy:List Ar->y
 |[x]=>.d x|_=>.undef
def Vq(b:H5)(c:Hk)(a:List Ar):y:=match b.underlying c with|some (.struct _)|some (.array _ _)=>.agg (a.map .d)|_=>vy a
inductive XK(P:H5)(n:Nat):List Hk->List y->Prop
 |nil:XK P n [] []
 |cons {t ts az ss xs}:DQ P n t=J ss->N0 P n ss xs->XK P n ts az->XK P n (t::ts) (Vq P t xs::az)
variable{H:Type}{b:Hk×G4->H}{P:H5}{w:G2}
variable{n:Nat}
def XK.len{b:List Hk}{a:List y}(c:XK P n b a):U a=U b:=by induction c with|nil=>rfl|cons _ _ _ e=>simp[e]
variable{base:Nat}
theorem ANE{c:Reach}{a:Hk}{b:Array G4}(e:Cell.okWide P w c base a (.agg b)):False:=by
 have f:Cell.okWide P w c base a (.agg b)=Cell.ok P w c base a (.agg b):=by
  unfold Cell.okWide;rcases P.underlying a with _|d
  .rfl
  .cases d<;>rfl
 rw[f]at e;unfold Cell.ok at e;grind
theorem AMU{base:Nat}{q:Hk}{a:G4}{v:List Sh}{e:List Ar}{M:Nat->Prop}{l:BF}(s:∀j,¬M j)(A:Value.okWide P w .any base q a){n:Nat}(i:Fl P n w v a.cells.toList e):VR l w M (Vq P q e) a:=by
 have o:∀(b:Nat) c g,e[b]?=J c->a.cells.toList[b]?=J g->DR w M c g:=λb c g f m=>by have k:=funext λj=>propext ⟨s j,λi=>i.elim⟩;rw[k];exact i.dr b c g f m
 have x:∀h:Array G4,a=.agg h->VR l w M (.agg (e.map .d)) a:=λh k=>by
  subst k;refine .agg _ _ (by have:=i.len;simp[Value.cells]at this;simp;omega) λb c g f m=>?_;rw[Be]at f;rcases hx:e[b]? with _|r
  .simp[hx]at f
  .simp[hx]at f;subst f;exact .d (o b r g hx (by grind [Value.cells]))
 have B:(∀h:Array G4,a≠ .agg h)->VR l w M (vy e) a:=λt=>by
  rcases e with _|⟨c,p⟩
  .exact .undef _
  .rcases p with _|⟨r,p⟩
   .refine .d (o 0 c a rfl ?_);cases a<;>first|rfl|(exact absurd rfl (t _))
   .exact .undef _
 grind [Vq,Value.okWide,ANE]
theorem wq{M:Nat->Prop}{base:Nat}(r:∀v,¬M v){n:Nat}{E:List Hk}(q:E.all (eN P n E)=X):∀{i:List Hk} {f:List G4} {l:List (DataW H)} {ps},(∀a∈i,∃o,DQ P n a=J o/\o.all (Sh.inE E)=X)->
 DataW.TrodAll b P w 0 (λ_=>X) X i f l ps->(∀(j:Nat) a c,i[j]?=J a->f[j]?=J c->Value.okWide P w .any base a c)->
 ∃g,XK P n i g/\(U g)=U f/\∀p (e:Nat) k c,g[e]?=J k->f[e]?=J c->VR p w M k c
 |[],f,l,ps,_,h,_=>by obtain⟨rfl,rfl,rfl⟩:=trodAll_nil h;exact⟨[],.nil,rfl,λp e k c h=>by simp at h⟩|a::i,f,l,ps,hs,h,hok=>by
  obtain⟨c,N,d,C,F,K,rfl,rfl,rfl,⟨D,x⟩,A⟩:=trodAll_cons h;have⟨g,a1,a2,a3⟩:=wq r q (λa m=>hs a (by simp[m])) A λj a c m B=>hok (j+1) a c zDE (by simpa using B);have⟨o,hss,hin⟩:=hs a AG;have⟨xs,hx⟩:=XI q x hss hin;refine⟨_::g,.cons hss hx.has a1,by simp[a2],λp e k L s t=>?_⟩;rcases e with _|e
  .simp at s t;subst s t;exact AMU r (hok 0 a c rfl rfl) hx
  .grind
variable{W a:G2}
def a9{l:Nat->Bool}(k:laidOutB P=X):∀{i:List Hk} {j:List G4} {g:List (DataW H)} {ps},(∀f∈i,P.readableRec f=X/\f<P.types.size)->
 DataW.TrodAll b P W 0 (λ_=>X) X i j g ps->(∀c∈ps,W.sameAt a c)->(∀c∈ps,l c.block=X)->DataW.TrodAll b P a 0 l X i j g ps
 |[],j,g,ps,_,h,_,_=>by obtain⟨rfl,rfl,rfl⟩:=trodAll_nil h;exact trodAll_mk0|f::i,j,g,ps,hs,h,h1,h2=>by
  obtain⟨r,s,d,p,c,q,rfl,rfl,rfl,n,o⟩:=trodAll_cons h;exact⟨_,_,(WideElems.Trod_stays k (hs f AG).1 (hs f AG).2 n (λc e=>h1 c (by simp[e])) λc e=>h2 c (by simp[e])),
   (a9 k (λf m=>hs f (by simp[m])) o (λc e=>h1 c (by simp[e])) λc e=>h2 c (by simp[e])),rfl⟩
def Wh{spare:Nat->Bool}{held:Bool}:∀{c:List Hk} {e:List G4} {a:List (DataW H)} {ps},DataW.TrodAll b P w base spare held c e a ps->(U a)=U c
 |[],e,a,ps,h=>by obtain⟨rfl,rfl,rfl⟩:=trodAll_nil h;rfl|t::c,e,a,ps,h=>by obtain⟨l,m,d,g,j,k,rfl,rfl,rfl,i,f⟩:=trodAll_cons h;simp[Wh f]
variable{s:ChangeSpec}{fresh c:Bool}
theorem gR{f:Func}{apart:Bool}{args:Array G4}{e w:List (DataW H)}{v:List MemPlace}{g:Hk}(j:DataW.Whole b P f.params.toList s.vars apart W args.toList e w v) (C:laidOutB P=X) (F:∀g∈f.params.toList,P.readableRec g=X/\g<P.types.size)(r:s.vars=[]) (K:f.resultTypes= #[g]) (N:P.underlying g=J .bool) (L:∀e:List (DataW H),U e=f.params.size->s.fn H e={results:=[.lit (.bool X)],args:=e})(B:∀h,h<W.heap.size->a.heap[h]?=W.heap[h]?) (p:a.os=W.os/\a.output=W.output) (M:W.heap.size<=a.heap.size):
 s.post b P f apart fresh c Z W args (.bool X) a:=by
 have q:=j.lt;have A:=j;obtain⟨t,R,m,n,rfl,Q,O⟩:=j;rw[r]at n;obtain⟨rfl,rfl⟩:=trodVars_none n;rw[CS]at*;have D:=Wh m;have i:=L e (by simpa using D);have o:Below W.heap.size W {a with tape:=W.tape}:=⟨p.1,rfl,p.2,M,B⟩
 refine ChangeSpec.post_alike (W'':={a with tape:=W.tape}) ?_ ⟨rfl,rfl,rfl⟩
 refine⟨e,[],t,[],t,[],A,?_,?_,?_,?_,λx=>by cases x⟩
 .rw[CS,i,K];exact trodAll_mk1 (shut_bool N X)
 .rw[CS,i];exact a9 C F m (λl k=>o.same (q l k)) λl k=>by simpa using q l k
 .rw[CS,i,r];rfl
 .exact o.frame _
def AAB{c:BF}{M:Nat->Prop}{b:Ending}(a:nk c w M (.ret (.d (.bool X))) b):b=.returned (.bool X):=by
 cases b with
 |returned e=>have a:VR c w M (.d (.bool X)) e:=a;cases a with|d a=>cases a;rfl
 |_=>exact a.elim
variable{C:DH}{f:FuncId}
def rj{W:Lp->Prop}(q:EI P W (KL P C)){i:List y}{vs:Array G4}{w:G2}(p:KL P C (.fn f) i [] [] Z I=.ok (.ret (.d (.bool X)),[]))(r:∀s,Hg s w (λ_=>False) i vs):
 Calls P f vs w λj e=>j=.returned (.bool X)/\(∀b,b<w.heap.size->e.heap[b]?=w.heap[b]?)/\(e.os=w.os/\e.output=w.output)/\w.heap.size<=e.heap.size:=by
 have n:=(q _ _ _ _ _ _ _ p).pu rfl rfl rfl λ_=>False;have k:∀b,¬MS (λ_=>False) (λ_=>I) ([]:S) b:=λb a=>by
  rcases a with a|⟨c,h,g,t,v,l,x⟩
  .exact a
  .cases l
 have m:=funext λb=>propext ⟨k b,λa=>a.elim⟩;have:=n w vs ⟨λc h a=>(by cases a),λc A h D g B a=>(by cases a),λc g a=>(by cases a),λc h g a=>(by cases a),λb (a:False)=>a.elim⟩ (λc _=>rfl) (by rw[m];exact r _);refine Calls.mono this λj e ⟨F,hg,he⟩=>⟨?_,λb o=>hg.ol.pm b o (.inl (k b)),hg.ol.io,hg.ol.size⟩;exact AAB he
def p6(P:H5)(n:Nat)(E:List Hk)(b:Hk):Bool:=match DQ P n b with|some a=>a.all (Sh.inE E)|none=>Z
theorem Z5{p:Lp->Prop}(L:EI P p (KL P C))(Q:laidOutB P=X){fn:Func}{t:Hk}{E:List Hk}{apart:Bool}(x:E.all (eN P n E)=X)(R:fn.params.toList.all (λt=>P.readableRec t&&decide (t<P.types.size)&&p6 P n E t)=X) (Y:s.vars=[]) (T:fn.resultTypes= #[t]) (l:P.underlying t=J .bool)(V:∀g:List (DataW H),U g=fn.params.size->s.fn H g={results:=[.lit (.bool X)],args:=g})(D:∀h,XK P n fn.params.toList h->KL P C (.fn f) h [] [] Z I=.ok (.ret (.d (.bool X)),[]))(W:G2) (base:Nat) (args:Array G4) (g r:List (DataW H)) (q:List MemPlace)(F:∀(k:Nat) t e,fn.params[k]?=J t->args[k]?=J e->Value.okWide P W .any base t e) (A:DataW.Whole b P fn.params.toList s.vars apart W args.toList g r q):
 Calls P f args W λm a=>∃e,m=.returned e/\s.post b P fn apart fresh c Z W args e a:=by
 have K:∀t∈fn.params.toList,P.readableRec t=X/\t<P.types.size/\∃o,DQ P n t=J o/\o.all (Sh.inE E)=true:=λt l=>by grind [p6]
 have B:=A;obtain⟨aa,ac,w,_⟩:=B;have⟨h,a1,a2,a3⟩:=wq (M:=λ_=>False) (λ_ v=>v) (n:=n) x (λt l=>(K t l).2.2) w λk t e i j=>F k t e zCY zCc;refine Calls.mono (rj L (D h a1) (vs:=args) (w:=W) λO=>⟨by simpa using a2,λM N e i j=>a3 O M N e i zCc⟩) λm ad ⟨i,j,h3,h4⟩=>?_;grind [gR]
