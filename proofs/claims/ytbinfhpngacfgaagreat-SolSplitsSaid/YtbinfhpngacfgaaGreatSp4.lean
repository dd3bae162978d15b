/-
  Parts of it.
-/
import Derived.MapKept
import Derived.Test.YtbinfhpngacfgaaGreatSp3
set_option linter.all false
namespace Go.Abs
variable{A:Nat→Prop}{P:Program}{mix:List TypeId}{β:Ag}{w:World}{M:Nat→Prop}
variable{r:Nat}{o:Go.Obj}
theorem IV(h:w.heap[r]? =some o)(hc: ∀c e f,o≠ .cells c e f):(getObj r).run P w=.ok o w:=by
 cases o<;>first|exact absurd rfl (hc _ _ _)|simp only[getObj,Sem.run,h]
theorem Gm{o':Go.Obj}(h:w.heap[r]? =some o)(hc: ∀c e f,o≠ .cells c e f):(setObj r o').run P w=.ok () (World.ii w r o'):=by
 cases o<;>first|exact absurd rfl (hc _ _ _)|(simp only[setObj,Sem.run,h];rfl)
theorem VV{t:TypeId}{d:TypeDesc}(h2:P.underlying t=some d){x:AR}(hk:JH (Bw P t d) x=true){v:Value}(hv:DR w M x v):
 (∀b n,(Instr.checkKey b (n+1) t v).run P w=.ok () w)∧ ∀{y:AR} {u:Value} {r:Bool},DR w M y u→GY y x=some r→Instr.sameNow d v u=some r:=by
 cases x<;>cases hkd:Bw P t d<;>simp[JH,hkd]at hk
 .obtain⟨k,rfl⟩:=qy hkd;cases hv;refine⟨fun b n=>by simp[Instr.checkKey,run_underlying h2],fun{y u r} hu he=>?_⟩;cases y<;>simp[GY]at he;obtain⟨rfl,rfl⟩:=he;cases hu;simp[Instr.sameNow,Bool.beq_comm]
 .have:=Tj hkd;subst this;cases hv;refine⟨fun b n=>by simp[Instr.checkKey,run_underlying h2],fun{y u r} hu he=>?_⟩;cases y<;>simp[GY]at he;subst he;cases hu;simp[Instr.sameNow,Bool.beq_comm]
 .have:=K3 hkd;subst this;cases hv;refine⟨fun b n=>by simp[Instr.checkKey,run_underlying h2],fun{y u r} hu he=>?_⟩;cases y<;>simp[GY]at he;subst he;cases hu;simp only[Instr.sameNow,Bi];rw[beq_toListBytes,beq_toListBytes,Bool.beq_comm]
theorem VI{t:TypeId}{d:TypeDesc}(h2:P.underlying t=some d){x:AR}(hk:JH (Bw P t d) x=true){v:Value}(hv:DR w M x v): ∀(es:List (AR×AV)) (en:List MapEntry) (i:Nat) (r:Option AV),
 es.length=en.length→(∀(j:Nat) p e,es[j]? =some p→en[j]? =some e→DR w M p.1 e.key∧VR β w M p.2 e.val)→Ca es x=some r→
 (r=none∧Instr.findNow d v en i=some none∧ ∀y,Dm es x y=es++[(x,y)])∨
 (∃av j p e,r=some av∧es[j]? =some p∧en[j]? =some e∧p.2=av∧Instr.findNow d v en i=some (some (i+j,e.val))∧GY p.1 x=some true∧ ∀y,Dm es x y=es.set j (p.1,y))
 |[],en,i,r,hl,_,hg=>by
  have:en=[]:=I9.1 hl.symm;subst this;simp only[Ca,Bi]at hg;exact .inl ⟨hg.symm,rfl,fun _=>rfl⟩
 |(k,u)::es,en,i,r,hl,hr,hg=>by
  cases en with
  |nil=>simp at hl
  |cons e en=>
   obtain⟨h0,h0'⟩:=hr 0 (k,u) e rfl rfl;simp only[Ca]at hg;split at hg
   .rename_i heq;cases hg;have hs:=(VV h2 hk hv).2 h0 heq;exact .inr ⟨u,0,(k,u),e,rfl,rfl,rfl,rfl,by simp[Instr.findNow,hs],heq,fun y=>by simp[Dm,heq]⟩
   .rename_i heq;have hs:=(VV h2 hk hv).2 h0 heq;rcases VI h2 hk hv es en (i+1) r (by simpa using hl) (fun j p e hp he=>hr (j+1) p e (by simpa using hp) (by simpa using he)) hg with⟨a,b,c⟩|⟨av,j,p,e',a,b1,b2,b3,c,dq,f⟩
    .exact .inl ⟨a,by simp[Instr.findNow,hs,b],fun y=>by simp[Dm,heq,c]⟩
    .exact .inr ⟨av,j+1,p,e',a,by simpa using b1,by simpa using b2,b3,by simp[Instr.findNow,hs,c];omega,dq,fun y=>by simp[Dm,heq,f]⟩
   .cases hg
theorem kM{h:AB}(H:HR A β w h){ρ:List Nat}{t:TypeId}{m k:AV}{vm vk:Value}{ok:Bool}(hm:VR β w (MS A β h) m vm)(hk:VR β w (MS A β h) k vk){eff:Br}
 (ho:Ei (Bb P mix) h.get m k ok (Bb P mix t)=some eff):DG A ρ β w h ((do pure (.value (←Instr.lookup t vm vk ok)):Sem Next).run P w) eff:=by
 cases ht:Bb P mix t with
 |none=>simp[Ei,ht]at ho
 |some i=>
  obtain⟨info,d,z,h1,h2,h3,_,rfl⟩:=Ar ht;simp only[Ei,ht]at ho;split at ho
  .rename_i id x kt hdat hkind hkt;obtain⟨ke,el,rfl⟩:=RF hkind;simp only[VU]at hkt;obtain⟨ki,kd,kz,k1,k2,k3,_,hke⟩:=Ar hkt;split at ho
   .rename_i es hkey hg;have hkk:kt.kind=Bw P ke kd:=by rw[hke]
    rw[hkk]at hkey;split at ho
    .rename_i r j hget hj;simp only[Gx]at hj;obtain⟨ji,jd,jz,j1,j2,j3,⟨_,_,jzs,jza⟩,hje⟩:=Ar hj;have hxk:DR w (MS A β h) x vk:=by
      unfold Ks at hdat;split at hdat
      .cases hdat;cases hk with|d hd=>exact hd
      .cases hdat
     obtain⟨kb,hkb,en,cl,q1,q2,q3⟩:=H.obj id _ hg;cases hm with
     |mp _ k' hk'=>
      rw[hkb]at hk';cases hk';have hgo:=IV (P:=P) q1 (by simp);have hck:=fun b=>(VV (P:=P) (w:=w) (M:=MS A β h) k2 hkey hxk).1 b 9999;have hmk: ∀(ag:Bool),Ki jd=ag→True:=fun _ _=>trivial;unfold KK at ho;have hzero: ∀zz,E2 j.agg j.zero=some zz→VR β w (MS A β h) zz jz:=fun zz hz=>by
       rw[hje]at hz;exact ZV jza hz
      have two: ∀{a:AV} {u:Value} {b:Bool},VR β w (MS A β h) a u→VR β w (MS A β h) (.it [a,.d (.bool b)]) (.tuple #[u,.bool b]):=by
       intro a u b hu;refine .it _ _ rfl fun i x v hx hv=>?_
       match i with
       |0=>simp at hx hv;subst hx hv;exact hu
       |1=>simp at hx hv;subst hx hv;exact .d (.bool _)
       |i+2=>simp at hx
      rcases VI (β:=β) k2 hkey hxk es en.toList 0 r (by simpa using q2) (fun a p e hp he=>q3 a p e hp (by simpa using he)) hget with⟨rfl,b,_⟩|⟨av,jj,p,e,rfl,b1,b2,rfl,c,_⟩
      .split at ho
       .rename_i heq;cases heq
       .rename_i zz hz;cases ho;have hr:((do pure (.value (←Instr.lookup t (.map (some kb.b)) vk ok)):Sem Next).run P w)=.ok (.value (if ok then .tuple #[jz,.bool false]else jz)) w:=by
         simp[Instr.lookup,run_underlying h2,hgo,hck,Instr.findKey,run_underlying k2,b,C3 j1 j3]
        cases ok
        .exact .plain H (v:=jz) (by rw[hr];rfl) rfl (hzero _ hz)
        .exact .plain H (v:=.tuple #[jz,.bool false]) (by rw[hr];rfl) rfl (two (hzero _ hz))
       .cases ho
      .have hval:VR β w (MS A β h) p.2 e.val:=(q3 jj p e b1 (by simpa using b2)).2;split at ho
       .rename_i heq;cases heq;cases ho;have hr:((do pure (.value (←Instr.lookup t (.map (some kb.b)) vk ok)):Sem Next).run P w)=.ok (.value (if ok then .tuple #[e.val,.bool true]else e.val)) w:=by
         simp[Instr.lookup,run_underlying h2,hgo,hck,Instr.findKey,run_underlying k2,c]
        cases ok
        .exact .plain H (v:=e.val) (by rw[hr];rfl) rfl hval
        .exact .plain H (v:=.tuple #[e.val,.bool true]) (by rw[hr];rfl) rfl (two hval)
       all_goals first
        |(rename_i hh _;exact(hh _ rfl).elim)
        |(rename_i heq _;cases heq)
        |cases ho
    .cases ho
   .cases ho
  .cases ho
theorem oj{a b:ByteArray}(h:(a==b)=true):a=b:=by
 rw[beq_toListBytes,ByteArray.toList_eq,ByteArray.toList_eq,beq_iff_eq]at h;obtain⟨⟨x⟩⟩:=a;obtain⟨⟨y⟩⟩:=b;simp at h;rw[h]
theorem pJ{x y:AR}(h:GY y x=some true):y=x:=by
 cases y<;>cases x<;>simp[GY]at h
 .obtain⟨rfl,rfl⟩:=h;rfl
 .rw[h]
 .exact congrArg AR.str (oj h)
theorem Y6{x y:AR}{v u:Value}(hv:DR w M x v)(hu:DR w M y u)(h:GY y x=some true): ∀n,Instr.sameBits n u v=true:=by
 intro n;cases y<;>cases x<;>simp[GY]at h
 .obtain⟨rfl,rfl⟩:=h;cases hv;cases hu;simp[Instr.sameBits]
 .subst h;cases hv;cases hu;simp[Instr.sameBits]
 .cases hv;cases hu;simpa[Instr.sameBits]using h
theorem Tq{h:AB}(H:HR A β w h){ρ:List Nat}{t:TypeId}{m k v:AV}{vm vk vv:Value}(hm:VR β w (MS A β h) m vm)(hk:VR β w (MS A β h) k vk)(hv:VR β w (MS A β h) v vv){eff:Br}
 (ho:mapPut (Bb P mix) h.get (Bb P mix t) m k v=some eff):DG A ρ β w h ((do Instr.mapUpdate t vm vk vv;pure .skip:Sem Next).run P w) eff:=by
 unfold mapPut at ho;split at ho
 .cases ho
 .rename_i hcond;split at ho
  .rename_i id x hdat;rw[hdat]at hcond;cases ht:Bb P mix t with
   |none=>simp[ht]at hcond
   |some i=>
    obtain⟨info,d,z,h1,h2,h3,_,rfl⟩:=Ar ht;simp only[ht]at hcond;split at hcond
    .rename_i kt hkind hkt;obtain⟨ke,el,rfl⟩:=RF hkind;simp only[VU]at hkt;obtain⟨ki,kd,kz,k1,k2,k3,_,hke⟩:=Ar hkt;have hkk:kt.kind=Bw P ke kd:=by rw[hke]
     rw[hkk,AP]at hcond;obtain⟨hkey,_⟩:=hcond;split at ho
     .rename_i es hg;split at ho
      .rename_i r hget;cases ho;have hxk:DR w (MS A β h) x vk:=by
        unfold Ks at hdat;split at hdat
        .cases hdat;cases hk with|d hd=>exact hd
        .cases hdat
       obtain⟨kb,hkb,en,cl,q1,q2,q3⟩:=H.obj id _ hg;cases hm with
       |mp _ k' hk'=>
        rw[hkb]at hk';cases hk';have hgo:=IV (P:=P) q1 (by simp);have hck:=fun b=>(VV (P:=P) (w:=w) (M:=MS A β h) k2 hkey hxk).1 b 9999;have done: ∀(es':List (AR×AV)) (en':Array MapEntry) (cl':Nat),Dm es x v=es'→es'.length=en'.size→
           (∀(M':Nat→Prop) (w':World),DX A (MS A β h) w M' w'→ ∀(i:Nat) p e,es'[i]? =some p→en'[i]? =some e→DR w' M' p.1 e.key∧VR β w' M' p.2 e.val)→
           (Instr.mapUpdate t (.map (some kb.b)) vk vv).run P w=.ok () (World.ii w kb.b (.map en' cl'))→
           DG A ρ β w h ((do Instr.mapUpdate t (.map (some kb.b)) vk vv;pure .skip:Sem Next).run P w) ⟨.undef,[(id,.map (Dm es x v))]⟩:=by
         intro es' en' cl' e1 e2 e3 e4;rw[e1];have hpr:=GN H (o':=.map es') hg rfl hkb (.map en' cl');refine .skip (w':=World.ii w kb.b (.map en' cl')) (by simp[e4]) rfl ?_ hpr (J7 _ (As.2 rfl) hkb);exact H.upd' hg rfl hkb ⟨en',cl',G5 _ (AH q1),e2,e3 _ _ hpr⟩
        rcases VI (β:=β) k2 hkey hxk es en.toList 0 r (by simpa using q2) (fun a p e hp he=>q3 a p e hp (by simpa using he)) hget with⟨rfl,b,f⟩|⟨av,jj,p,e,rfl,b1,b2,rfl,c,dq,f⟩
        .refine done (es++[(x,v)]) (en.push {key:=vk,val:=vv,born:=cl}) (cl+1) (f v) (by simp[q2]) ?_ ?_
         .intro M' w' hp i p e hp' he;rw[Mp]at he;by_cases hi:i=en.size
          .subst hi;rw[CI (by omega)]at hp';simp[q2]at hp' he;subst hp' he;exact⟨hxk.mono hp,hv.mono (.refl β) hp⟩
          .rw[Ci hi]at he;have hlt:i<es.length:=by rw[q2];exact(HE.1 he).1
           rw[Be hlt]at hp';exact⟨(q3 i p e hp' he).1.mono hp,(q3 i p e hp' he).2.mono (.refl β) hp⟩
         .simp[Instr.mapUpdate,run_underlying h2,hgo,hck,Instr.findKey,run_underlying k2,b,Gm (P:=P) q1 (by simp)]
        .have hrel:=q3 jj p e b1 (by simpa using b2);have hje:en[jj]? =some e:=by simpa using b2
         have hsb:=Y6 hxk hrel.1 dq 10000;refine done (es.set jj (p.1,v)) (en.modify jj fun e=>{e with key:=vk,val:=vv}) cl (f v) (by simp[q2]) ?_ ?_
         .intro M' w' hp i p' e' hp' he;rw[Array.getElem?_modify]at he;rw[HU]at hp';by_cases hi:jj=i
          .subst hi;rw[D1 rfl,hje]at he;have hlt:jj<es.length:=(BE.1 b1).1;simp[hlt]at hp' he;subst hp' he;refine⟨?_,hv.mono (.refl β) hp⟩;have:=pJ dq;rw[show p=(x,p.2)from Prod.ext this rfl];exact hxk.mono hp
          .rw[Ci hi]at he hp';exact⟨(q3 i p' e' hp' he).1.mono hp,(q3 i p' e' hp' he).2.mono (.refl β) hp⟩
         .have hst:(Instr.keyThatStays (((en[0+jj]?).map (·.key)).getD vk) vk).run P w=.ok vk w:=by
           rw[I1,hje];simp[Instr.keyThatStays,hsb]
          simp only[Instr.mapUpdate,Sem.run_bind,run_underlying h2,Result.andThen_ok,hgo,hck,Instr.findKey,run_underlying k2,c,Sem.run_pure,hst,Gm (P:=P) q1 (by simp)];simp
      .cases ho
     .cases ho
    .cases hcond
  .cases ho
variable{A:Nat→Prop}{P:Program}{mix:List TypeId}{β:Ag}{w:World}{M:Nat→Prop}
theorem vC{h:AB}(H:HR A β w h){ρ:List Nat}(hf: ∀id,ρ<:+id→β id=none){e:Nat→AV}{a:Act}(he:Iw β w (MS A β h) e fun t=>a.tmps.getD t Go.undef){c:Call}{ty:TypeId}{eff:Br}
 (ho:Jb (Bb P mix) e h.get ρ c=some eff):DG A ρ β w h ((do let d←resolve a.eval c ty;invoke d.target d.args:Sem Next).run P w) eff:=by
 have E:=fun x=>HZ he x;obtain⟨callee,args,ats⟩:=c;obtain⟨args⟩:=args;obtain⟨ats⟩:=ats;unfold Jb at ho;split at ho
 .rename_i b hb;simp only at hb;subst hb;simp only at ho;have hrun:((do let d←resolve a.eval ⟨.builtin b,⟨args⟩,⟨ats⟩⟩ ty;invoke d.target d.args:Sem Next).run P w)=
   (builtin b ⟨ats⟩ ty ((⟨args⟩:Array Operand).map fun|.const _=>true|_=>false) (⟨args.map a.eval⟩:Array Value)).run P w:=by
   simp[resolve,invoke];rfl
  rw[hrun];unfold Fj at ho;split at ho
  .split at ho
   .rename_i x hx;split at ho
    .rename_i t;split at ho
     .rename_i i hi;simp only[BI]at ho;obtain⟨n,hn,rfl⟩:=ho
      match args,hx with
      |[ox],hx=>
       simp at hx;subst hx;have:=AAW (ρ:=ρ) (ty:=ty) H (E ox) hi hn;simpa[builtin]using this
     .cases ho
    .cases ho
   .cases ho
  .split at ho
   .rename_i s x t u hx
    match args,hx with
    |[os,ox],hx=>
     simp at hx;obtain⟨rfl,rfl⟩:=hx;have:=Uu (ty:=ty) H hf (E os) (E ox) ho;simpa[builtin]using this
   .cases ho
  .split at ho
   .rename_i x t hx
    match args,hx with
    |[ox],hx=>
     simp at hx;subst hx;have:=pD (ρ:=ρ) (ty:=ty) H (E ox) ho;simpa[builtin]using this
   .cases ho
  .split at ho
   .rename_i x y hx
    match args,hx with
    |[ox,oy],hx=>
     simp at hx;obtain⟨rfl,rfl⟩:=hx;have:=AAY (ρ:=ρ) (P:=P) (ts:=⟨ats⟩) (ty:=ty) H (E ox) (E oy) ho;simpa[builtin]using this
   .cases ho
  .split at ho
   .rename_i x y hx
    match args,hx with
    |[ox,oy],hx=>
     simp at hx;obtain⟨rfl,rfl⟩:=hx;have:=AAb (ρ:=ρ) (P:=P) (ts:=⟨ats⟩) (ty:=ty) H (E ox) (E oy) ho;simpa[builtin]using this
   .cases ho
  .cases ho
 .cases ho
theorem hQ{h:AB}(H:HR A β w h){ρ:List Nat}(hf: ∀id,ρ<:+id→β id=none){e:Nat→AV}{a:Act}(he:Iw β w (MS A β h) e fun t=>a.tmps.getD t Go.undef){o:Oper}{op:Op}(hop:o.op=op){eff:Br}
 (ho:evalOp (Bb P mix) e h.get ρ op=some eff):DG A ρ β w h ((execOp a.eval o).run P w) eff:=by
 have E:=fun x=>HZ he x;cases op<;>simp only[evalOp,reduceCtorEq,Bi]at ho<;>simp only[execOp,hop]
 case move x=>subst ho;exact .plain H (v:=a.eval x) rfl rfl (E x)
 case assign x=>subst ho;exact .plain H (v:=a.eval x) rfl rfl (E x)
 case pick c x y=>exact yd H (E c) (E x) (E y) ho
 case alloc t=>exact oJ H hf ho
 case box t x=>exact fq H hf (E x) ho
 case build t ps=>exact oh H he ho
 case buildSlice t n ps=>exact Sb H hf he ho
 case insert t m k v=>exact Tq H (E m) (E k) (E v) ho
 case load t x=>exact wz H (E x) ho
 case store t x v=>exact te H (E x) (E v) ho
 case nilCheck x=>
  obtain⟨⟨ad,had⟩,hok⟩:=YL (ρ:=ρ) H (E x) ho;rw[had]at hok⊢;exact hok
 case binOp op t x y yt=>
  simp only[BI]at ho;obtain⟨r,hr,rfl⟩:=ho;exact vA H (E x) (E y) x y hr
 case unOp op t x=>exact AA4 H (E x) ho
 case makeInterface t x=>exact qj H (E x) ho
 case makeFunc f x y=>exact X9 H he ho
 case makeMap t r=>exact bT H hf ho
 case makeSlice t l c=>exact Va H hf (E l) (E c) ho
 case slice t x lo hi mx=>exact ZG H (E x) (fU.map he lo) (fU.map he hi) (fU.map he mx) ho
 case fieldAddr t x k=>exact VH H (E x) ho
 case field t x k=>exact pr H (E x) ho
 case indexAddr t x i=>exact VP H (E x) (E i) ho
 case index t x i=>exact ql H (E x) (E i) ho
 case lookup t m k ok=>exact kM H (E m) (E k) ho
 case mapUpdate t m k v=>exact Tq H (E m) (E k) (E v) ho
 case typeAssert x xt t ok=>
  cases ok with
  |true=>exact fg H (E x) ho
  |false=>cases ho
 case extract x k=>exact Z7 H (E x) ho
 case call c=>exact vC H hf he ho
variable{P:Program}{mix:List TypeId}{g g':G}
variable{vs:List AV}{x:AV}
theorem Ju{id:Id}(hx:x∈vs)(hi:id∈AD x):id∈Au vs:=by
 induction vs with
 |nil=>cases hx
 |cons v vs ih=>
  simp only[Au,D5];rcases DO.1 hx with rfl|hx
  .exact .inl hi
  .exact .inr (ih hx)
theorem LB{id:Id}(h:id∈Au vs): ∃x∈vs,id∈AD x:=by
 induction vs with
 |nil=>simp[Au]at h
 |cons v vs ih=>
  simp only[Au,D5]at h;rcases h with h|h
  .exact⟨v,by simp,h⟩
  .obtain⟨x,hx,h⟩:=ih h;exact⟨x,by simp[hx],h⟩
theorem Tf(v:AV)(id:Id):id∈Au v.cells↔id∈AD v:=by
 cases v<;>simp[AV.cells,Au,AD]
def At(g g':G)(l:List Id):Prop:= ∀id∈l,g id=g' id
theorem At.mono{l m:List Id}(h:At g g' l)(hs: ∀id∈m,id∈l):At g g' m:=fun id hi=>h id (hs id hi)
variable{v:AV}
theorem Q0(h:At g g' (AD v)):Ee g v=Ee g' v:=by
 cases v<;>try rfl
 rename_i id off n;simp only[Ee,h id (by simp[AD])]
theorem YB(h:At g g' (AD v)):JI g v=JI g' v:=by
 cases v<;>try rfl
 rename_i id off n;simp only[JI,h id (by simp[AD])]
theorem PK(h:At g g' (Au vs)):CU g vs=CU g' vs:=by
 induction vs with
 |nil=>rfl
 |cons v vs ih=>
  simp only[CU,Q0 (v:=v) (h.mono fun id hi=>Ju (by simp) hi),ih (h.mono fun id hi=>by simp[Au,hi])]
theorem Nw(h:At g g' (Au vs)):Ba g vs=Ba g' vs:=by
 induction vs with
 |nil=>rfl
 |cons v vs ih=>
  simp only[Ba,D0]at ih⊢;rw[YB (v:=v) (h.mono fun id hi=>Ju (by simp) hi),ih (h.mono fun id hi=>by simp[Au,hi])]
variable{es:List (List AV)}
theorem JE(h:At g g' (es.flatMap Au)):Cb g es=Cb g' es:=by
 induction es with
 |nil=>rfl
 |cons v vs ih=>
  simp only[Cb,PK (vs:=v) (h.mono fun id hi=>by simp[hi]),ih (h.mono fun id hi=>by simp only[D0,D5];exact .inr hi)]
theorem KM(h:At g g' (es.flatMap Au)):es.flatMap (Ba g)=es.flatMap (Ba g'):=by
 induction es with
 |nil=>rfl
 |cons v vs ih=>
  simp only[D0,Nw (vs:=v) (h.mono fun id hi=>by simp[hi]),ih (h.mono fun id hi=>by simp only[D0,D5];exact .inr hi)]
variable{i:TI}{a:AV}
theorem X6(h:At g g' (AD a)):IW g i a=IW g' i a:=by
 cases a<;>try rfl
 .rename_i id off;simp only[IW,h id (by simp[AD])]
 .rename_i id k off;simp only[IW,h id (by simp[AD])]
theorem Vt(h:At g g' (AD a))(hv:At g g' (AD v)):Iq g i a v=Iq g' i a v:=by
 have hc:At g g' (Au v.cells):=hv.mono fun id hi=>(Tf v id).1 hi;unfold Iq;cases a<;>try rfl
 .rename_i id off;simp only[h id (by simp[AD])]
 .rename_i id k off;simp only[h id (by simp[AD]),PK hc,Nw hc]
variable{n:Id}{j:TI}
theorem Hj(h:At g g' (es.flatMap Au)):newArr g n j es=newArr g' n j es:=by
 simp only[newArr,JE h,KM h]
theorem VC(h:At g g' (AD x)):DI g x=DI g' x:=by
 cases x
 case f8 id off n=>simp only[DI,h id (by simp[AD])]
 case d y=>cases y<;>rfl
 all_goals rfl
variable{off k sz:Nat}{src:List (List AV)}
theorem WU{id:Id}{es:List (List AR)}(h:At g g' (src.flatMap Au)):appIn g n id off k sz es src=appIn g' n id off k sz es src:=by
 simp only[appIn,JE h,KM h]
variable{s:AV}
theorem WX(hs:At g g' (AD s))(h:At g g' (src.flatMap Au)):appTo g n j s src=appTo g' n j s src:=by
 cases s
 case co=>exact Hj h
 case emp=>exact Hj h
 case f8 id off k=>simp only[appTo,hs id (by simp[AD]),WU h]
 all_goals rfl
theorem Mi(l:List AR):Au (l.map .d)=[]:=by
 induction l with
 |nil=>rfl
 |cons x l ih=>simp[Au,AD,ih]
theorem aO(es:List (List AR)):(es.map (·.map AV.d)).flatMap Au=[]:=by
 induction es with
 |nil=>rfl
 |cons x l ih=>simp[Mi]
variable{α:Type}{l:List α}
theorem xI{r:List α}{n:Nat}(h:Ix l off n=some r){x:α}(hx:x∈r):x∈l:=by
 unfold Ix at h;split at h
 .cases h;exact Jp (JP hx)
 .cases h
theorem gy(h:DI g x=some src): ∀id∈src.flatMap Au,id∈CN g (AD x):=by
 intro id hid;unfold DI at h;split at h
 .cases h;rw[aO]at hid;cases hid
 .cases h;cases hid
 .cases h;cases hid
 .rename_i i off n;obtain⟨e,he,hie⟩:=Bv.1 hid;cases hg:NH (g i)with
  |none=>rw[hg]at h;cases h
  |some es=>
   rw[hg]at h;have he':=xI h he;unfold NH at hg;split at hg
   .cases hg;obtain⟨y,_,rfl⟩:=Em.1 he';rw[Mi]at hie;cases hie
   .cases hg;obtain⟨y,_,rfl⟩:=Em.1 he';rw[Mi]at hie;cases hie
   .rename_i sz es' hgi;cases hg;refine F8 _ (Bv.2 ⟨i,by simp[AD],?_⟩);simp only[hgi];exact Bv.2 ⟨e,he',hie⟩
   .cases hg
 .cases h
theorem SX(hs:At g g' (AD s))(hx:At g g' (CN g (AD x))):appendV g n j s x=appendV g' n j s x:=by
 have he:=VC (hx.mono fun id hi=>GO _ hi);unfold appendV;rw[←he];cases h:DI g x with
 |none=>rfl
 |some src=>
  have h2:appTo g n j s src=appTo g' n j s src:=WX hs (hx.mono fun id hi=>gy h id hi);cases src with
  |nil=>rfl
  |cons a l=>simp only[h2]
theorem bM{k:TK}(h:At g g' (AD x)):VX g k x=VX g' k x:=by
 cases x
 case mp id=>cases k<;>simp only[VX,h id (by simp[AD])]
 case d y=>cases y<;>cases k<;>rfl
 all_goals (cases k<;>rfl)
variable{T:TypeId→Option TI}{t:Option TI}{m:AV}
theorem Nv{k:AV}(h:At g g' (AD m)):mapPut T g t m k v=mapPut T g' t m k v:=by
 unfold mapPut;cases m
 case mp id=>
  have e:=h id (by simp[AD]);cases Ks k<;>simp only[e]
 all_goals rfl
theorem Ra{k:AV}{ok:Bool}(h:At g g' (AD m)):Ei T g m k ok t=Ei T g' m k ok t:=by
 unfold Ei;cases t with
 |none=>rfl
 |some i=>
  cases m
  case mp id=>
   have e:=h id (by simp[AD]);obtain⟨kind,size,agg,str,zero,flds,elem,key,mx⟩:=i;simp only;generalize Ks k=d;generalize T key=tk;cases d<;>cases kind<;>cases tk<;>first|rfl|simp only[e]
  all_goals rfl
theorem Xx{n:Int}(h:At g g' (AD x)):MO g n x j=MO g' n x j:=by
 unfold MO;cases x
 case f8 id off n=>simp only[h id (by simp[AD])]
 case d y=>cases y<;>rfl
 all_goals rfl
theorem N3{i:AV}(h:At g g' (AD x)):Cd T g x i t=Cd T g' x i t:=by
 unfold Cd;simp only[Xx h]
theorem Vq{id:Id}{b:Option (Nat×Nat×Option Nat)}(h:g id=g' id):M6 g sz id off b=M6 g' sz id off b:=by
 unfold M6;simp only[h]
variable{lo hi mx:Option AV}
theorem Vr{k:TK}(h:At g g' (AD x)):ET g k sz x lo hi mx=ET g' k sz x lo hi mx:=by
 cases x
 case f8 id off n=>cases k<;>simp only[ET,Vq (h id (by simp[AD]))]
 case d y=>cases y<;>cases k<;>rfl
 all_goals (cases k<;>rfl)
theorem Sm(h:At g g' (AD x)):G2 T g x lo hi mx t=G2 T g' x lo hi mx t:=by
 unfold G2;simp only[Vr h]
theorem Sl(h:At g g' (AD x)):FP T g t x=FP T g' t x:=by
 unfold FP;cases t with
 |none=>rfl
 |some i=>
  obtain⟨kind,size,agg,str,zero,flds,elem,key,mx⟩:=i;simp only;cases x
  case f8 id off n=>
   have e:=h id (by simp[AD]);cases kind
   case slice=>simp only[Gv,e]
   all_goals rfl
  all_goals (cases kind<;>rfl)
theorem uV(z:Value):Au (z.cells.toList.map Cv)=[]:=by
 generalize z.cells.toList=l;induction l with
 |nil=>rfl
 |cons v l ih=>
  simp only[El,Au,ih,CS];unfold Cv;split<;>rfl
theorem fT{t:TypeId}(h:Bb P mix t=some i):Au i.zero=[]:=by
 obtain⟨info,d,z,h1,h2,h3,h4,rfl⟩:=Ar h;exact uV z
theorem yg{n:Nat}{l:List AV}(h:Au l=[]):(List.replicate n l).flatMap Au=[]:=by
 induction n with
 |zero=>rfl
 |succ n ih=>simp[QR,h]
theorem Sk{t:TypeId}(h:Bb P mix t=some j):FO g n k j=FO g' n k j:=by
 unfold FO;cases k with
 |zero=>rfl
 |succ k=>exact Hj (by rw[yg (fT h)];intro id hi;cases hi)
theorem dp{r new:List α}(h:Bj l off new=some r){x:α}(hx:x∈r):x∈l∨x∈new:=by
 unfold Bj at h;split at h
 .cases h;simp only[D5]at hx;rcases hx with(hx|hx)|hx
  .exact .inl (JP hx)
  .exact .inr hx
  .exact .inl (Jp hx)
 .cases h
theorem MM{pl:Nat→Option (Nat×Nat)}: ∀{ps:List (Nat×AV)} {cs r:List AV},CG pl cs ps=some r→ ∀x∈r,x∈cs∨ ∃p∈ps,x∈p.2.cells
 |[],cs,r,h,x,hx=>by simp only[CG,Bi]at h;subst h;exact .inl hx
 |(i,v)::ps,cs,r,h,x,hx=>by
  simp only[CG]at h;split at h
  .split at h
   .cases hs:Bj cs _ v.cells with
    |none=>rw[hs]at h;cases h
    |some cs'=>
     rw[hs]at h;rcases MM h x hx with h1|⟨p,hp,h1⟩
     .rcases dp hs h1 with h2|h2
      .exact .inl h2
      .exact .inr ⟨(i,v),by simp,h2⟩
     .exact .inr ⟨p,by simp[hp],h1⟩
   .cases h
  .cases h
theorem QZ: ∀{n:Nat} {l:List α} {c:List α},c∈GB sz n l→ ∀x∈c,x∈l
 |0,_,_,h,_,_=>by cases h
 |n+1,l,c,h,x,hx=>by
  simp only[GB,DO]at h;rcases h with rfl|h
  .exact JP hx
  .exact Jp (QZ h x hx)
variable{nw:Id}{ps:List (Nat×AV)}
theorem QU{n:Nat}{t:TypeId}(ht:Bb P mix t=some j)(h:At g g' (ps.flatMap fun p=>AD p.2)):Fx g nw n ps j=Fx g' nw n ps j:=by
 unfold Fx;cases hf:CG (fun k=>some (k*j.size,j.size)) ((List.replicate n j.zero).flatten) ps with
 |none=>rfl
 |some cs=>
  have:newArr g nw j (GB j.size n cs)=newArr g' nw j (GB j.size n cs):=by
   refine Hj fun id hi=>?_;obtain⟨c,hc,hi⟩:=Bv.1 hi;obtain⟨x,hx,hi⟩:=LB hi;rcases MM hf x (QZ hc x hx)with h1|⟨p,hp,h1⟩
   .obtain⟨l,hl,hx⟩:=Lw.1 h1;rw[ON hl]at hx;have:=Ju hx hi;rw[fT ht]at this;cases this
   .exact h id (Bv.2 ⟨p,hp,(Tf _ _).1 (Ju h1 hi)⟩)
  cases n with
  |zero=>rfl
  |succ n=>simp only[this]
theorem Mu{n:Nat}(h:At g g' (ps.flatMap fun p=>AD p.2)):CB (Bb P mix) g nw n ps t=CB (Bb P mix) g' nw n ps t:=by
 unfold CB;cases t with
 |none=>rfl
 |some i=>
  obtain⟨kind,size,agg,str,zero,flds,elem,key,mx⟩:=i;simp only;cases hj:Bb P mix elem with
  |none=>cases kind<;>rfl
  |some j=>cases kind<;>first|rfl|simp only[QU hj h]
theorem N4{l c:AV}:CL (Bb P mix) g nw l c t=CL (Bb P mix) g' nw l c t:=by
 unfold CL;cases t with
 |none=>rfl
 |some i=>
  obtain⟨kind,size,agg,str,zero,flds,elem,key,mx⟩:=i;simp only;cases hj:Bb P mix elem with
  |none=>cases kind<;>rfl
  |some j=>
   cases kind
   case slice=>
    cases l<;>try rfl
    rename_i x;cases x<;>try rfl
    cases c<;>try rfl
    rename_i y;cases y<;>try rfl
    simp only[Sk hj (g:=g) (g':=g')]
   all_goals rfl
theorem RZ{u:Option TI}(hs:At g g' (AD s))(hx:At g g' (CN g (AD x))):HH T g nw t u s x=HH T g' nw t u s x:=by
 unfold HH;simp only[SX hs hx]
def Jf(e e':Nat→AV)(op:Op):Prop:= ∀x∈op.operands,ev e x=ev e' x
variable{e:Nat→AV}{op:Op}
theorem NI(h:At g g' (Dh e op)){x:Operand}(hx:x∈op.operands):At g g' (AD (ev e x)):=
 h.mono fun _ hi=>Bv.2 ⟨x,by simpa using hx,hi⟩
variable{e':Nat→AV}
theorem ML{ps:Array (Nat×Operand)}(h: ∀p∈ps,ev e p.2=ev e' p.2):Di e ps=Di e' ps:=by
 unfold Di;exact List.map_congr_left fun p hp=>by rw[h p (by simpa using hp)]
theorem Mo{x:Option Operand}(h: ∀y∈x,ev e y=ev e' y):x.map (ev e)=x.map (ev e'):=by
 cases x with
 |none=>rfl
 |some y=>simp[h y rfl]
theorem Eg{x:Array Operand}(h: ∀y∈x,ev e y=ev e' y):x.toList.map (ev e)=x.toList.map (ev e'):=
 List.map_congr_left fun y hy=>h y (by simpa using hy)
theorem VF(he:Jf e e' op)(h:At g g' (FI e g op)):evalOp (Bb P mix) e g n op=evalOp (Bb P mix) e' g' n op:=by
 cases op<;>try rfl
 case move x=>simp only[evalOp,he x (by simp[Op.operands])]
 case assign x=>simp only[evalOp,he x (by simp[Op.operands])]
 case pick c a b=>simp only[evalOp,he c (by simp[Op.operands]),he a (by simp[Op.operands]),he b (by simp[Op.operands])]
 case box t x=>simp only[evalOp,he x (by simp[Op.operands])]
 case build t ps=>
  simp only[evalOp];rw[ML fun p hp=>he p.2 (by simp[Op.operands];exact⟨p.1,hp⟩)]
 case buildSlice t k ps=>
  have hp: ∀p∈ps,p.2∈(Op.buildSlice t k ps).operands:=fun p hp=>by simp[Op.operands];exact⟨p.1,hp⟩
  simp only[evalOp];rw[ML fun p hp'=>he p.2 (hp p hp')];refine Mu fun id hi=>?_;obtain⟨q,hq,hi⟩:=Bv.1 hi;obtain⟨p,hp',rfl⟩:=Em.1 hq;rw[←he p.2 (hp p (by simpa using hp'))]at hi;exact NI h (hp p (by simpa using hp')) id hi
 case insert t m k v=>
  simp only[evalOp];rw[←he m (by simp[Op.operands]),←he k (by simp[Op.operands]),←he v (by simp[Op.operands])];exact Nv (NI h (by simp[Op.operands]))
 case load t x=>
  simp only[evalOp];rw[←he x (by simp[Op.operands])];cases ht:Bb P mix t with
  |none=>rfl
  |some i=>simp only[KQ,X6 (NI h (x:=x) (by simp[Op.operands]))]
 case store t a x=>
  simp only[evalOp];rw[←he a (by simp[Op.operands]),←he x (by simp[Op.operands])];cases ht:Bb P mix t with
  |none=>rfl
  |some i=>simp only[Hn,Vt (NI h (x:=a) (by simp[Op.operands])) (NI h (x:=x) (by simp[Op.operands]))]
 case nilCheck x=>simp only[evalOp,he x (by simp[Op.operands])]
 case binOp op t x y yt=>simp only[evalOp,he x (by simp[Op.operands]),he y (by simp[Op.operands])]
 case unOp op t x=>simp only[evalOp,he x (by simp[Op.operands])]
 case makeInterface t x=>simp only[evalOp,he x (by simp[Op.operands])]
 case makeFunc f x y=>
  simp only[evalOp];rw[Eg (e:=e) (e':=e') (x:=x) fun z hz=>he z (by simp[Op.operands,hz]),Eg (e:=e) (e':=e') (x:=y) fun z hz=>he z (by simp[Op.operands,hz])]
 case makeSlice t l c=>
  simp only[evalOp];rw[he l (by simp[Op.operands]),he c (by simp[Op.operands])];exact N4
 case slice t x lo hi mx=>
  simp only[evalOp];rw[←he x (by simp[Op.operands]),Mo (e:=e) (e':=e') (x:=lo) fun z hz=>he z (by simp[Op.operands]at hz⊢;simp[hz]),
   Mo (e:=e) (e':=e') (x:=hi) fun z hz=>he z (by simp[Op.operands]at hz⊢;simp[hz]),Mo (e:=e) (e':=e') (x:=mx) fun z hz=>he z (by simp[Op.operands]at hz⊢;simp[hz])]
  exact Sm (NI h (by simp[Op.operands]))
 case fieldAddr t x k=>simp only[evalOp,he x (by simp[Op.operands])]
 case field t x k=>simp only[evalOp,he x (by simp[Op.operands])]
 case indexAddr t x i=>
  simp only[evalOp];rw[←he x (by simp[Op.operands]),←he i (by simp[Op.operands])];exact N3 (NI h (by simp[Op.operands]))
 case index t x i=>simp only[evalOp,he x (by simp[Op.operands]),he i (by simp[Op.operands])]
 case lookup t m k ok=>
  simp only[evalOp];rw[←he m (by simp[Op.operands]),←he k (by simp[Op.operands])];exact Ra (NI h (by simp[Op.operands]))
 case mapUpdate t m k v=>
  simp only[evalOp];rw[←he m (by simp[Op.operands]),←he k (by simp[Op.operands]),←he v (by simp[Op.operands])];exact Nv (NI h (by simp[Op.operands]))
 case typeAssert x xt t ok=>
  simp only[evalOp,he x (by simp[Op.operands])]
 case extract x k=>simp only[evalOp,he x (by simp[Op.operands])]
 case call c=>
  obtain⟨callee,args,ats⟩:=c;simp only[evalOp,Jb];cases callee with
  |value f=>rfl
  |invoke r m=>rfl
  |builtin b=>
   simp only;have ha: ∀x∈args,x∈(Op.call ⟨.builtin b,args,ats⟩).operands:=fun x hx=>by simp[Op.operands,Call.operands,hx]
   rw[←Eg fun x hx=>he x (ha x hx)];have hids: ∀x,x∈args.toList.map (ev e)→ ∀id∈AD x,id∈Dh e (Op.call ⟨.builtin b,args,ats⟩):=by
    intro x hx id hi;obtain⟨y,hy,rfl⟩:=Em.1 hx;exact Bv.2 ⟨y,by simpa using ha y (by simpa using hy),hi⟩
   generalize args.toList.map (ev e)=as at hids;unfold Fj;cases b<;>try rfl
   .simp only[FI]at h;have h1: ∀x∈as,At g g' (AD x):=fun x hx=>h.mono fun id hi=>GO _ (hids x hx id hi);have h2: ∀x∈as,At g g' (CN g (AD x)):=fun x hx=>h.mono fun id hi=>by
     rcases D5.1 hi with hi|hi
     .exact GO _ (hids x hx id hi)
     .obtain⟨i,h3,h4⟩:=Bv.1 hi;exact F8 _ (Bv.2 ⟨i,hids x hx i h3,h4⟩)
    match as,ats.toList with
    |[],_=>rfl
    |[_],_=>rfl
    |[s,x],[t,u]=>exact RZ (h1 s (by simp)) (h2 x (by simp))
    |[_,_],[]=>rfl
    |[_,_],[_]=>rfl
    |[_,_],_::_::_::_=>rfl
    |_::_::_::_,_=>rfl
   .simp only[FI]at h;have h1: ∀x∈as,At g g' (AD x):=fun x hx=>h.mono fun id hi=>hids x hx id hi
    match as,ats.toList with
    |[],_=>rfl
    |[x],[]=>rfl
    |[x],[t]=>exact Sl (h1 x (by simp))
    |[x],_::_::_=>rfl
    |_::_::_,_=>rfl
   .simp only[FI]at h;have h1: ∀x∈as,At g g' (AD x):=fun x hx=>h.mono fun id hi=>hids x hx id hi
    match as,ats.toList with
    |[],_=>rfl
    |[x],[]=>rfl
    |[x],[t]=>
     simp only;cases ht:Bb P mix t with
     |none=>rfl
     |some i=>simp only[bM (h1 x (by simp))]
    |[x],_::_::_=>rfl
    |_::_::_,_=>rfl
end Go.Abs
