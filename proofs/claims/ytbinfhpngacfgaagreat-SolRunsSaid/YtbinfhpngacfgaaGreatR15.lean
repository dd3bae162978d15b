/- P -/
import Derived.ProofKit
import Derived.ChangeAlike
import Derived.Test.YtbinfhpngacfgaaGreatR14
set_option linter.all false
namespace Go.Abs
open Go Go.ChangeShapes Go.WideShapes Go.ChangeAt Go.RowKit
def hD:List Al->AV
 |[x]=>.d x
 |_=>.undef
def Wj(P:Program)(t:TypeId)(xs:List Al):AV:=
 match P.underlying t with
 |some (.struct _)|some (.array _ _)=>.agg (xs.map .d)
 |_=>hD xs
inductive Td(P:Program)(n:Nat):List TypeId->List AV->Prop
 |nil:Td P n [] []
 |cons {t ts az ss xs}:Cj P n t=some ss->MG P n ss xs->Td P n ts az->Td P n (t::ts) (Wj P t xs::az)
variable{H:Type}{enc:TypeId×Value->H}{P:Program}{w:World}
variable{n:Nat}
def Td.len{ts:List TypeId}{a:List AV}(h:Td P n ts a):a.length=ts.length:=by
 induction h with
 |nil=>rfl
 |cons _ _ _ b=>simp[b]
variable{base:Nat}
def ACU{r:Reach}{t:TypeId}{cs:Array Value}(h:Cell.okWide P w r base t (.agg cs)):False:=by
 have e:Cell.okWide P w r base t (.agg cs)=Cell.ok P w r base t (.agg cs):=by
  unfold Cell.okWide;cases P.underlying t with
  |none=>rfl
  |some d=>cases d<;>rfl
 rw[e]at h;unfold Cell.ok at h;cases a:P.underlying t with
 |none=>rw[a]at h;exact h
 |some d=>rw[a]at h;cases d<;>exact h
def z3{base:Nat}{t:TypeId}{v:Value}{y:List Sh}{g:List Al}{M:Nat->Prop}{β:BK}(r: ∀b,¬M b)(c:Value.okWide P w .any base t v){n:Nat}(h:Fl P n w y v.cells.toList g):VR β w M (Wj P t g) v:=by
 have p: ∀(i:Nat) x j,g[i]? =some x->v.cells.toList[i]? =some j->DR w M x j:=fun i x j a h2=>by
  have e:M=fun _=>False:=funext fun b=>propext ⟨r b,fun h=>h.elim⟩;rw[e];exact h.dr i x j a h2
 have o: ∀cs:Array Value,v=.agg cs->VR β w M (.agg (g.map .d)) v:=fun cs e=>by
  subst e;refine .agg _ _ (by have:=h.len;simp[Value.cells]at this;simp;omega) fun i x j a h2=>?_;rw[D7]at a;cases m:g[i]? with
  |none=>simp[m]at a
  |some q=>
   simp[m]at a;subst a;exact .d (p i q j m (by simpa[Value.cells]using h2))
 have u:(∀cs:Array Value,v≠ .agg cs)->VR β w M (hD g) v:=fun s=>by
  cases g with
  |nil=>exact .undef _
  |cons x l=>
   cases l with
   |nil=>
    refine .d (p 0 x v rfl ?_);cases v<;>first|rfl|(exact absurd rfl (s _))
   |cons q l=>exact .undef _
 unfold Wj;unfold Value.okWide at c;split
 .rename_i k f;rw[f]at c;obtain⟨cs,e,_⟩:=c;exact o cs e
 .rename_i k f;rw[f]at c;obtain⟨cs,e,_⟩:=c;exact o cs e
 .rename_i a h2;split at c
  .rename_i k f;exact absurd f (a k)
  .rename_i n e f;exact absurd f (h2 n e)
  .refine u fun cs e=>?_;subst e;exact ACU c
def j5{M:Nat->Prop}{base:Nat}(m: ∀b,¬M b){n:Nat}{E:List TypeId}(l:E.all (EO P n E)=true): ∀{ts:List TypeId} {vs:List Value} {ds:List (DataW H)} {ps},(∀t∈ts,∃g,Cj P n t=some g/\g.all (Sh.inE E)=true)->
 DataW.TrodAll enc P w 0 (fun _=>true) true ts vs ds ps->(∀(j:Nat) t v,ts[j]? =some t->vs[j]? =some v->Value.okWide P w .any base t v)->
 ∃a,Td P n ts a/\a.length=vs.length/\ ∀β (i:Nat) x v,a[i]? =some x->vs[i]? =some v->VR β w M x v
 |[],vs,ds,ps,_,h,_=>by
  obtain⟨rfl,rfl,rfl⟩:=trodAll_nil h;exact⟨[],.nil,rfl,fun β i x v h=>by simp at h⟩
 |t::ts,vs,ds,ps,hs,h,hok=>by
  obtain⟨v,F,d,D,p,q,rfl,rfl,rfl,⟨k,z⟩,h2⟩:=trodAll_cons h;obtain⟨a,s,u,y⟩:=j5 m l (fun t e=>hs t (by simp[e])) h2 fun j t v e B=>hok (j+1) t v zFF zE4;obtain⟨g,o,A⟩:=hs t AG;obtain⟨I,r⟩:=Tc l z o A;refine⟨_::a,.cons o r.has s,by simp[u],fun β i x C c f=>?_⟩;cases i with
  |zero=>
   simp at c f;subst c f;exact z3 m (hok 0 t v rfl rfl) r
  |succ i=>exact y β i x C zEs zEb
variable{W W':World}
def Wk{sp:Nat->Bool}(b:laidOutB P=true): ∀{ts:List TypeId} {vs:List Value} {ds:List (DataW H)} {ps},(∀t∈ts,P.readableRec t=true/\t<P.types.size)->
 DataW.TrodAll enc P W 0 (fun _=>true) true ts vs ds ps->(∀p∈ps,W.sameAt W' p)->(∀p∈ps,sp p.block=true)->DataW.TrodAll enc P W' 0 sp true ts vs ds ps
 |[],vs,ds,ps,_,h,_,_=>by
  obtain⟨rfl,rfl,rfl⟩:=trodAll_nil h;exact trodAll_mk0
 |t::ts,vs,ds,ps,hs,h,h1,h2=>by
  obtain⟨v,i,d,g,p,q,rfl,rfl,rfl,e,f⟩:=trodAll_cons h;exact⟨_,_,(WideElems.Trod_stays b (hs t AG).1 (hs t AG).2 e (fun p a=>h1 p zEg) fun p a=>h2 p zEg),
   (Wk b (fun t c=>hs t zFW) f (fun p a=>h1 p zEg) fun p a=>h2 p zEg),rfl⟩
def TD{spare:Nat->Bool}{held:Bool}: ∀{ts:List TypeId} {vs:List Value} {ds:List (DataW H)} {ps},DataW.TrodAll enc P w base spare held ts vs ds ps->ds.length=ts.length
 |[],vs,ds,ps,h=>by
  obtain⟨rfl,rfl,rfl⟩:=trodAll_nil h;rfl
 |t::ts,vs,ds,ps,h=>by
  obtain⟨v,e,d,b,p,q,rfl,rfl,rfl,c,a⟩:=trodAll_cons h;simp[TD a]
variable{s:ChangeSpec}{fresh handsOn:Bool}
def ZD{f:Func}{apart:Bool}{args:Array Value}{ds o:List (DataW H)}{n:List MemPlace}{t:TypeId}
 (a:DataW.Whole enc P f.params.toList s.vars apart W args.toList ds o n) (v:laidOutB P=true) (y: ∀t∈f.params.toList,P.readableRec t=true/\t<P.types.size)
 (m:s.vars=[]) (z:f.resultTypes= #[t]) (C:P.underlying t=some .bool) (A: ∀ds:List (DataW H),ds.length=f.params.size->s.fn H ds={results:=[.lit (.bool true)],args:=ds})
 (u: ∀b,b<W.heap.size->W'.heap[b]? =W.heap[b]?) (k:W'.os=W.os/\W'.output=W.output) (B:W.heap.size<=W'.heap.size):
 s.post enc P f apart fresh handsOn false W args (.bool true) W':=by
 have l:=a.lt;have r:=a;obtain⟨p,q,g,i,rfl,F,D⟩:=a;rw[m]at i;obtain⟨rfl,rfl⟩:=trodVars_none i;rw[CI]at*;have w:=TD g;have e:=A ds (by simpa using w);have j:Below W.heap.size W {W' with tape:=W.tape}:=⟨k.1,rfl,k.2,B,u⟩
 refine ChangeSpec.post_alike (W'':={W' with tape:=W.tape}) ?_ ⟨rfl,rfl,rfl⟩
 refine⟨ds,[],p,[],p,[],r,?_,?_,?_,?_,fun h=>by cases h⟩
 .rw[CI,e,z];exact trodAll_mk1 (shut_bool C true)
 .rw[CI,e];exact Wk v y g (fun x c=>j.same (l x c)) fun x c=>by simpa using l x c
 .rw[CI,e,m];rfl
 .exact j.frame _
def nG{β:BK}{M:Nat->Prop}{e:Ending}(h:OW β w M (.ret (.d (.bool true))) e):e=.returned (.bool true):=by
 cases e with
 |returned u=>
  have h:VR β w M (.d (.bool true)) u:=h;cases h with
  |d h=>cases h;rfl
 |_=>exact h.elim
variable{C:DJ}{f:FuncId}
def ei{W:Lp->Prop}(n:EC P W (KL P C)){a:List AV}{vs:Array Value}{w:World}(m:KL P C (.fn f) a [] [] false none=.ok (.ret (.d (.bool true)),[]))
 (p: ∀β,Hh β w (fun _=>False) a vs):
 Calls P f vs w fun e w'=>e=.returned (.bool true)/\(∀b,b<w.heap.size->w'.heap[b]? =w.heap[b]?)/\(w'.os=w.os/\w'.output=w.output)/\w.heap.size<=w'.heap.size:=by
 have j:=(n _ _ _ _ _ _ _ m).pu rfl rfl rfl fun _=>False;have c: ∀b,¬MS (fun _=>False) (fun _=>none) ([]:AD) b:=fun b h=>by
  rcases h with h|⟨id,o,k,q,h2,g,r⟩
  .exact h
  .cases g
 have i:MS (fun _=>False) (fun _=>none) ([]:AD)=fun _=>False:=funext fun b=>propext ⟨c b,fun h=>h.elim⟩;have:=j w vs ⟨fun id o h=>zEa,fun id s o o' k t h=>zEa,fun id k h=>zEa,fun id o k h=>zEa,fun b (h:False)=>h.elim⟩ (fun id _=>rfl) (by rw[i];exact p _);refine Calls.mono this fun e w' ⟨u,hg,he⟩=>?_;refine⟨?_,fun b l=>hg.it.pm b l (.inl (c b)),hg.it.io,hg.it.size⟩;exact nG he
def dg(P:Program)(n:Nat)(E:List TypeId)(t:TypeId):Bool:=match Cj P n t with
 |some ss=>ss.all (Sh.inE E)
 |none=>false
def V5{m:Lp->Prop}(O:EC P m (KL P C))(I:laidOutB P=true){fn:Func}{t:TypeId}{E:List TypeId}{apart:Bool}(B:E.all (EO P n E)=true)
 (K:fn.params.toList.all (fun t=>P.readableRec t&&decide (t<P.types.size)&&dg P n E t)=true) (Q:s.vars=[]) (L:fn.resultTypes= #[t]) (a:P.underlying t=some .bool)
 (N: ∀ds:List (DataW H),ds.length=fn.params.size->s.fn H ds={results:=[.lit (.bool true)],args:=ds})
 (F: ∀c,Td P n fn.params.toList c->KL P C (.fn f) c [] [] false none=.ok (.ret (.d (.bool true)),[]))
 (W:World) (base:Nat) (args:Array Value) (ds z:List (DataW H)) (y:List MemPlace)
 (J: ∀(j:Nat) t v,fn.params[j]? =some t->args[j]? =some v->Value.okWide P W .any base t v) (k:DataW.Whole enc P fn.params.toList s.vars apart W args.toList ds z y):
 Calls P f args W fun e W'=> ∃v,e=.returned v/\s.post enc P fn apart fresh handsOn false W args v W':=by
 have g: ∀t∈fn.params.toList,P.readableRec t=true/\t<P.types.size/\ ∃l,Cj P n t=some l/\l.all (Sh.inE E)=true:=fun t a=>by
  have:=D3.1 K t a;simp only[AP,Ap]at this;refine⟨this.1.1,this.1.2,?_⟩;have h2:=this.2;unfold dg at h2;split at h2
  .exact⟨_,Bw,h2⟩
  .cases h2
 have D:=k;obtain⟨p,q,A,_⟩:=D;obtain⟨c,o,r,u⟩:=j5 (M:=fun _=>False) (fun _ h=>h) (n:=n) B (fun t a=>(g t a).2.2) A fun j t v b h2=>J j t v zEz zE2;refine Calls.mono (ei O (F c o) (vs:=args) (w:=W) fun β=>⟨by simpa using r,fun i x v b h2=>u β i x v b zE2⟩) fun e w' ⟨b,h2,h3,h4⟩=>?_;exact⟨_,b,ZD k I (fun t a=>⟨(g t a).1,(g t a).2.1⟩) Q L a N h2 h3 h4⟩
