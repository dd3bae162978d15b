/-
  Parts of it.
-/
import Derived.ProofKit
import Derived.ChangeAlike
import Derived.Test.YtbinfhpngacfgaaGreatFi13
set_option linter.all false
namespace Go.Abs
open Go Go.ChangeShapes Go.WideShapes Go.ChangeAt Go.RowKit
def wM:List AU→AV
 |[x]=>.d x
 |_=>.undef
def R4(P:Program)(t:TypeId)(xs:List AU):AV:=
 match P.underlying t with
 |some (.struct _)|some (.array _ _)=>.agg (xs.map .d)
 |_=>wM xs
inductive Pb(P:Program)(n:Nat):List TypeId→List AV→Prop
 |nil:Pb P n [] []
 |cons {t ts az ss xs}:Cm P n t=some ss→Jg P n ss xs→Pb P n ts az→Pb P n (t::ts) (R4 P t xs::az)
variable{H:Type}{enc:TypeId×Value→H}{P:Program}{w:World}
variable{n:Nat}
theorem Pb.len{ts:List TypeId}{az:List AV}(h:Pb P n ts az):az.length=ts.length:=by
 induction h with
 |nil=>rfl
 |cons _ _ _ ih=>simp[ih]
variable{base:Nat}
theorem yQ{r:Reach}{t:TypeId}{cs:Array Value}(h:Cell.okWide P w r base t (.agg cs)):False:=by
 have e:Cell.okWide P w r base t (.agg cs)=Cell.ok P w r base t (.agg cs):=by
  unfold Cell.okWide;cases P.underlying t with
  |none=>rfl
  |some d=>cases d<;>rfl
 rw[e]at h;unfold Cell.ok at h;cases hu:P.underlying t with
 |none=>rw[hu]at h;exact h
 |some d=>rw[hu]at h;cases d<;>exact h
theorem wq{base:Nat}{t:TypeId}{v:Value}{ss:List Sh}{xs:List AU}{M:Nat→Prop}{β:Aj}(hM: ∀b,¬M b)(hok:Value.okWide P w .any base t v){n:Nat}(h:Fl P n w ss v.cells.toList xs):VR β w M (R4 P t xs) v:=by
 have hdr: ∀(i:Nat) x u,xs[i]? =some x→v.cells.toList[i]? =some u→DR w M x u:=fun i x u h1 h2=>by
  have e:M=fun _=>False:=funext fun b=>propext ⟨hM b,fun h=>h.elim⟩;rw[e];exact h.dr i x u h1 h2
 have hagg: ∀cs:Array Value,v=.agg cs→VR β w M (.agg (xs.map .d)) v:=fun cs e=>by
  subst e;refine .agg _ _ (by have:=h.len;simp[Value.cells]at this;simp;omega) fun i x u h1 h2=>?_;rw[D5]at h1;cases hx:xs[i]? with
  |none=>simp[hx]at h1
  |some y=>
   simp[hx]at h1;subst h1;exact .d (hdr i y u hx (by simpa[Value.cells]using h2))
 have hone:(∀cs:Array Value,v≠ .agg cs)→VR β w M (wM xs) v:=fun hn=>by
  cases xs with
  |nil=>exact .undef _
  |cons x l=>
   cases l with
   |nil=>
    refine .d (hdr 0 x v rfl ?_);cases v<;>first|rfl|(exact absurd rfl (hn _))
   |cons y l=>exact .undef _
 unfold R4;unfold Value.okWide at hok;split
 .rename_i fs hu;rw[hu]at hok;obtain⟨cs,e,_⟩:=hok;exact hagg cs e
 .rename_i fs hu;rw[hu]at hok;obtain⟨cs,e,_⟩:=hok;exact hagg cs e
 .rename_i h1 h2;split at hok
  .rename_i fs hu;exact absurd hu (h1 fs)
  .rename_i n e hu;exact absurd hu (h2 n e)
  .refine hone fun cs e=>?_;subst e;exact yQ hok
theorem cL{M:Nat→Prop}{base:Nat}(hM: ∀b,¬M b){n:Nat}{E:List TypeId}(hE:E.all (y9 P n E)=true): ∀{ts:List TypeId} {vs:List Value} {ds:List (DataW H)} {ps},(∀t∈ts,∃ss,Cm P n t=some ss∧ss.all (Sh.inE E)=true)→
 DataW.TrodAll enc P w 0 (fun _=>true) true ts vs ds ps→(∀(j:Nat) t v,ts[j]? =some t→vs[j]? =some v→Value.okWide P w .any base t v)→
 ∃az,Pb P n ts az∧az.length=vs.length∧ ∀β (i:Nat) x v,az[i]? =some x→vs[i]? =some v→VR β w M x v
 |[],vs,ds,ps,_,h,_=>by
  obtain⟨rfl,rfl,rfl⟩:=trodAll_nil h;exact⟨[],.nil,rfl,fun β i x v h=>by simp at h⟩
 |t::ts,vs,ds,ps,hs,h,hok=>by
  obtain⟨v,vs',d,ds',p,q,rfl,rfl,rfl,⟨k,h1⟩,h2⟩:=trodAll_cons h;obtain⟨az,a1,a2,a3⟩:=cL hM hE (fun t ht=>hs t (by simp[ht])) h2 fun j t v ht hv=>hok (j+1) t v (by simpa using ht) (by simpa using hv);obtain⟨ss,hss,hin⟩:=hs t (by simp);obtain⟨xs,hx⟩:=Pa hE h1 hss hin;refine⟨_::az,.cons hss hx.has a1,by simp[a2],fun β i x u hi hu=>?_⟩;cases i with
  |zero=>
   simp at hi hu;subst hi hu;exact wq hM (hok 0 t v rfl rfl) hx
  |succ i=>exact a3 β i x u (by simpa using hi) (by simpa using hu)
variable{W W':World}
theorem R5{sp:Nat→Bool}(hl:laidOutB P=true): ∀{ts:List TypeId} {vs:List Value} {ds:List (DataW H)} {ps},(∀t∈ts,P.readableRec t=true∧t<P.types.size)→
 DataW.TrodAll enc P W 0 (fun _=>true) true ts vs ds ps→(∀p∈ps,W.sameAt W' p)→(∀p∈ps,sp p.block=true)→DataW.TrodAll enc P W' 0 sp true ts vs ds ps
 |[],vs,ds,ps,_,h,_,_=>by
  obtain⟨rfl,rfl,rfl⟩:=trodAll_nil h;exact trodAll_mk0
 |t::ts,vs,ds,ps,hs,h,h1,h2=>by
  obtain⟨v,vs',d,ds',p,q,rfl,rfl,rfl,k1,k2⟩:=trodAll_cons h;exact⟨_,_,(WideElems.Trod_stays hl (hs t (by simp)).1 (hs t (by simp)).2 k1 (fun p hp=>h1 p (by simp[hp])) fun p hp=>h2 p (by simp[hp])),
   (R5 hl (fun t ht=>hs t (by simp[ht])) k2 (fun p hp=>h1 p (by simp[hp])) fun p hp=>h2 p (by simp[hp])),rfl⟩
theorem PD{spare:Nat→Bool}{held:Bool}: ∀{ts:List TypeId} {vs:List Value} {ds:List (DataW H)} {ps},DataW.TrodAll enc P w base spare held ts vs ds ps→ds.length=ts.length
 |[],vs,ds,ps,h=>by
  obtain⟨rfl,rfl,rfl⟩:=trodAll_nil h;rfl
 |t::ts,vs,ds,ps,h=>by
  obtain⟨v,vs',d,ds',p,q,rfl,rfl,rfl,k1,k2⟩:=trodAll_cons h;simp[PD k2]
variable{s:ChangeSpec}{fresh handsOn:Bool}
theorem UF{f:Func}{apart:Bool}{args:Array Value}{ds gs:List (DataW H)}{before:List MemPlace}{t:TypeId}
 (hW:DataW.Whole enc P f.params.toList s.vars apart W args.toList ds gs before) (hl:laidOutB P=true) (hp: ∀t∈f.params.toList,P.readableRec t=true∧t<P.types.size)
 (hv:s.vars=[]) (hr:f.resultTypes= #[t]) (ht:P.underlying t=some .bool) (hs: ∀ds:List (DataW H),ds.length=f.params.size→s.fn H ds={results:=[.lit (.bool true)],args:=ds})
 (hb: ∀b,b<W.heap.size→W'.heap[b]? =W.heap[b]?) (hio:W'.os=W.os∧W'.output=W.output) (hsz:W.heap.size≤W'.heap.size):
 s.post enc P f apart fresh handsOn false W args (.bool true) W':=by
 have hlt:=hW.lt;have hW0:=hW;obtain⟨p,q,hA,hV,rfl,hz,hn⟩:=hW;rw[hv]at hV;obtain⟨rfl,rfl⟩:=trodVars_none hV;rw[EL]at*;have hlen:=PD hA;have e:=hs ds (by simpa using hlen);have hbel:Below W.heap.size W {W' with tape:=W.tape}:=⟨hio.1,rfl,hio.2,hsz,hb⟩
 refine ChangeSpec.post_alike (W'':={W' with tape:=W.tape}) ?_ ⟨rfl,rfl,rfl⟩
 refine⟨ds,[],p,[],p,[],hW0,?_,?_,?_,?_,fun h=>by cases h⟩
 .rw[EL,e,hr];exact trodAll_mk1 (shut_bool ht true)
 .rw[EL,e];exact R5 hl hp hA (fun x hx=>hbel.same (hlt x hx)) fun x hx=>by simpa using hlt x hx
 .rw[EL,e,hv];rfl
 .exact hbel.frame _
theorem eT{β:Aj}{M:Nat→Prop}{e:Ending}(h:wQ β w M (.ret (.d (.bool true))) e):e=.returned (.bool true):=by
 cases e with
 |returned u=>
  have h:VR β w M (.d (.bool true)) u:=h;cases h with
  |d h=>cases h;rfl
 |_=>exact h.elim
variable{C:CA}{f:FuncId}
theorem Yk{W:Lp→Prop}(hsound:Ct P W (KL P C)){az:List AV}{vs:Array Value}{w:World}(hk:KL P C (.fn f) az [] [] false none=.ok (.ret (.d (.bool true)),[]))
 (hv: ∀β,FK β w (fun _=>False) az vs):
 Calls P f vs w fun e w'=>e=.returned (.bool true)∧(∀b,b<w.heap.size→w'.heap[b]? =w.heap[b]?)∧(w'.os=w.os∧w'.output=w.output)∧w.heap.size≤w'.heap.size:=by
 have hT:=(hsound _ _ _ _ _ _ _ hk).pu rfl rfl rfl fun _=>False;have hM: ∀b,¬MS (fun _=>False) (fun _=>none) ([]:AB) b:=fun b h=>by
  rcases h with h|⟨id,o,k,h1,h2,h3,h4⟩
  .exact h
  .cases h3
 have hM':MS (fun _=>False) (fun _=>none) ([]:AB)=fun _=>False:=funext fun b=>propext ⟨hM b,fun h=>h.elim⟩;have:=hT w vs ⟨fun id o h=>(by cases h),fun id id' o o' k k' h=>(by cases h),fun id k h=>(by cases h),fun id o k h=>(by cases h),fun b (h:False)=>h.elim⟩ (fun id _=>rfl) (by rw[hM'];exact hv _);refine Calls.mono this fun e w' ⟨β',hg,he⟩=>?_;refine⟨?_,fun b hb=>hg.ge.ne b hb (.inl (hM b)),hg.ge.io,hg.ge.size⟩;exact eT he
def YA(P:Program)(n:Nat)(E:List TypeId)(t:TypeId):Bool:=match Cm P n t with
 |some ss=>ss.all (Sh.inE E)
 |none=>false
theorem Ra{W0:Lp→Prop}(hsound:Ct P W0 (KL P C))(hl:laidOutB P=true){fn:Func}{t:TypeId}{E:List TypeId}{apart:Bool}(hE:E.all (y9 P n E)=true)
 (hp:fn.params.toList.all (fun t=>P.readableRec t&&decide (t<P.types.size)&&YA P n E t)=true) (hv:s.vars=[]) (hr:fn.resultTypes= #[t]) (ht:P.underlying t=some .bool)
 (hs: ∀ds:List (DataW H),ds.length=fn.params.size→s.fn H ds={results:=[.lit (.bool true)],args:=ds})
 (hk: ∀az,Pb P n fn.params.toList az→KL P C (.fn f) az [] [] false none=.ok (.ret (.d (.bool true)),[]))
 (W:World) (base:Nat) (args:Array Value) (ds gs:List (DataW H)) (before:List MemPlace)
 (hok: ∀(j:Nat) t v,fn.params[j]? =some t→args[j]? =some v→Value.okWide P W .any base t v) (hW:DataW.Whole enc P fn.params.toList s.vars apart W args.toList ds gs before):
 Calls P f args W fun e W'=> ∃v,e=.returned v∧s.post enc P fn apart fresh handsOn false W args v W':=by
 have hp': ∀t∈fn.params.toList,P.readableRec t=true∧t<P.types.size∧ ∃ss,Cm P n t=some ss∧ss.all (Sh.inE E)=true:=fun t ht=>by
  have:=CO.1 hp t ht;simp only[AS,As]at this;refine⟨this.1.1,this.1.2,?_⟩;have h2:=this.2;unfold YA at h2;split at h2
  .exact⟨_,by assumption,h2⟩
  .cases h2
 have hW0:=hW;obtain⟨p,q,hA,_⟩:=hW0;obtain⟨az,a1,a2,a3⟩:=cL (M:=fun _=>False) (fun _ h=>h) (n:=n) hE (fun t ht=>(hp' t ht).2.2) hA fun j t v h1 h2=>hok j t v (by simpa using h1) (by simpa using h2);refine Calls.mono (Yk hsound (hk az a1) (vs:=args) (w:=W) fun β=>⟨by simpa using a2,fun i x v h1 h2=>a3 β i x v h1 (by simpa using h2)⟩) fun e w' ⟨h1,h2,h3,h4⟩=>?_;exact⟨_,h1,UF hW hl (fun t ht=>⟨(hp' t ht).1,(hp' t ht).2.1⟩) hv hr ht hs h2 h3 h4⟩
end Go.Abs
