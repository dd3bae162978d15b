/-
  Parts of it.
-/
import Derived.MapKept
import Derived.Test.YtbinfhpngacfgaaGreatFi3
set_option linter.all false
namespace Go.Abs
variable{A:Nat→Prop}{P:Program}{mix:List TypeId}{β:Aj}{w:World}{M:Nat→Prop}
variable{r:Nat}{o:Go.Obj}
theorem H3(h:w.heap[r]? =some o)(hc: ∀c e f,o≠ .cells c e f):(getObj r).run P w=.ok o w:=by
 cases o<;>first|exact absurd rfl (hc _ _ _)|simp only[getObj,Sem.run,h]
theorem GQ{o':Go.Obj}(h:w.heap[r]? =some o)(hc: ∀c e f,o≠ .cells c e f):(setObj r o').run P w=.ok () (World.f9 w r o'):=by
 cases o<;>first|exact absurd rfl (hc _ _ _)|(simp only[setObj,Sem.run,h];rfl)
theorem Tq{t:TypeId}{d:TypeDesc}(h2:P.underlying t=some d){x:AU}(hk:Ia (B1 P t d) x=true){v:Value}(hv:DR w M x v):
 (∀b n,(Instr.checkKey b (n+1) t v).run P w=.ok () w)∧ ∀{y:AU} {u:Value} {r:Bool},DR w M y u→Fz y x=some r→Instr.sameNow d v u=some r:=by
 cases x<;>cases hkd:B1 P t d<;>simp[Ia,hkd]at hk
 .obtain⟨k,rfl⟩:=ny hkd;cases hv;refine⟨fun b n=>by simp[Instr.checkKey,run_underlying h2],fun{y u r} hu he=>?_⟩;cases y<;>simp[Fz]at he;obtain⟨rfl,rfl⟩:=he;cases hu;simp[Instr.sameNow,Bool.beq_comm]
 .have:=SW hkd;subst this;cases hv;refine⟨fun b n=>by simp[Instr.checkKey,run_underlying h2],fun{y u r} hu he=>?_⟩;cases y<;>simp[Fz]at he;subst he;cases hu;simp[Instr.sameNow,Bool.beq_comm]
 .have:=Km hkd;subst this;cases hv;refine⟨fun b n=>by simp[Instr.checkKey,run_underlying h2],fun{y u r} hu he=>?_⟩;cases y<;>simp[Fz]at he;subst he;cases hu;simp only[Instr.sameNow,CI];rw[beq_toListBytes,beq_toListBytes,Bool.beq_comm]
theorem Td{t:TypeId}{d:TypeDesc}(h2:P.underlying t=some d){x:AU}(hk:Ia (B1 P t d) x=true){v:Value}(hv:DR w M x v): ∀(es:List (AU×AV)) (en:List MapEntry) (i:Nat) (r:Option AV),
 es.length=en.length→(∀(j:Nat) p e,es[j]? =some p→en[j]? =some e→DR w M p.1 e.key∧VR β w M p.2 e.val)→Cb es x=some r→
 (r=none∧Instr.findNow d v en i=some none∧ ∀y,Dj es x y=es++[(x,y)])∨
 (∃av j p e,r=some av∧es[j]? =some p∧en[j]? =some e∧p.2=av∧Instr.findNow d v en i=some (some (i+j,e.val))∧Fz p.1 x=some true∧ ∀y,Dj es x y=es.set j (p.1,y))
 |[],en,i,r,hl,_,hg=>by
  have:en=[]:=I6.1 hl.symm;subst this;simp only[Cb,CI]at hg;exact .inl ⟨hg.symm,rfl,fun _=>rfl⟩
 |(k,u)::es,en,i,r,hl,hr,hg=>by
  cases en with
  |nil=>simp at hl
  |cons e en=>
   obtain⟨h0,h0'⟩:=hr 0 (k,u) e rfl rfl;simp only[Cb]at hg;split at hg
   .rename_i heq;cases hg;have hs:=(Tq h2 hk hv).2 h0 heq;exact .inr ⟨u,0,(k,u),e,rfl,rfl,rfl,rfl,by simp[Instr.findNow,hs],heq,fun y=>by simp[Dj,heq]⟩
   .rename_i heq;have hs:=(Tq h2 hk hv).2 h0 heq;rcases Td h2 hk hv es en (i+1) r (by simpa using hl) (fun j p e hp he=>hr (j+1) p e (by simpa using hp) (by simpa using he)) hg with⟨a,b,c⟩|⟨av,j,p,e',a,b1,b2,b3,c,dq,f⟩
    .exact .inl ⟨a,by simp[Instr.findNow,hs,b],fun y=>by simp[Dj,heq,c]⟩
    .exact .inr ⟨av,j+1,p,e',a,by simpa using b1,by simpa using b2,b3,by simp[Instr.findNow,hs,c];omega,dq,fun y=>by simp[Dj,heq,f]⟩
   .cases hg
theorem iQ{h:AB}(H:HR A β w h){ρ:List Nat}{t:TypeId}{m k:AV}{vm vk:Value}{ok:Bool}(hm:VR β w (MS A β h) m vm)(hk:VR β w (MS A β h) k vk){eff:Bw}
 (ho:Ef (Bc P mix) h.get m k ok (Bc P mix t)=some eff):DE A ρ β w h ((do pure (.value (←Instr.lookup t vm vk ok)):Sem Next).run P w) eff:=by
 cases ht:Bc P mix t with
 |none=>simp[Ef,ht]at ho
 |some i=>
  obtain⟨info,d,z,h1,h2,h3,_,rfl⟩:=Ar ht;simp only[Ef,ht]at ho;split at ho
  .rename_i id x kt hdat hkind hkt;obtain⟨ke,el,rfl⟩:=QV hkind;simp only[Tp]at hkt;obtain⟨ki,kd,kz,k1,k2,k3,_,hke⟩:=Ar hkt;split at ho
   .rename_i es hkey hg;have hkk:kt.kind=B1 P ke kd:=by rw[hke]
    rw[hkk]at hkey;split at ho
    .rename_i r j hget hj;simp only[GY]at hj;obtain⟨ji,jd,jz,j1,j2,j3,⟨_,_,jzs,jza⟩,hje⟩:=Ar hj;have hxk:DR w (MS A β h) x vk:=by
      unfold KZ at hdat;split at hdat
      .cases hdat;cases hk with|d hd=>exact hd
      .cases hdat
     obtain⟨kb,hkb,en,cl,q1,q2,q3⟩:=H.obj id _ hg;cases hm with
     |mp _ k' hk'=>
      rw[hkb]at hk';cases hk';have hgo:=H3 (P:=P) q1 (by simp);have hck:=fun b=>(Tq (P:=P) (w:=w) (M:=MS A β h) k2 hkey hxk).1 b 9999;have hmk: ∀(ag:Bool),KR jd=ag→True:=fun _ _=>trivial;unfold J4 at ho;have hzero: ∀zz,Ev j.agg j.zero=some zz→VR β w (MS A β h) zz jz:=fun zz hz=>by
       rw[hje]at hz;exact YR jza hz
      have two: ∀{a:AV} {u:Value} {b:Bool},VR β w (MS A β h) a u→VR β w (MS A β h) (.f8 [a,.d (.bool b)]) (.tuple #[u,.bool b]):=by
       intro a u b hu;refine .f8 _ _ rfl fun i x v hx hv=>?_
       match i with
       |0=>simp at hx hv;subst hx hv;exact hu
       |1=>simp at hx hv;subst hx hv;exact .d (.bool _)
       |i+2=>simp at hx
      rcases Td (β:=β) k2 hkey hxk es en.toList 0 r (by simpa using q2) (fun a p e hp he=>q3 a p e hp (by simpa using he)) hget with⟨rfl,b,_⟩|⟨av,jj,p,e,rfl,b1,b2,rfl,c,_⟩
      .split at ho
       .rename_i heq;cases heq
       .rename_i zz hz;cases ho;have hr:((do pure (.value (←Instr.lookup t (.map (some kb.b)) vk ok)):Sem Next).run P w)=.ok (.value (if ok then .tuple #[jz,.bool false]else jz)) w:=by
         simp[Instr.lookup,run_underlying h2,hgo,hck,Instr.findKey,run_underlying k2,b,C6 j1 j3]
        cases ok
        .exact .plain H (v:=jz) (by rw[hr];rfl) rfl (hzero _ hz)
        .exact .plain H (v:=.tuple #[jz,.bool false]) (by rw[hr];rfl) rfl (two (hzero _ hz))
       .cases ho
      .have hval:VR β w (MS A β h) p.2 e.val:=(q3 jj p e b1 (by simpa using b2)).2;split at ho
       .rename_i heq;cases heq;cases ho;have hr:((do pure (.value (←Instr.lookup t (.map (some kb.b)) vk ok)):Sem Next).run P w)=.ok (.value (if ok then .tuple #[e.val,.bool true]else e.val)) w:=by
         simp[Instr.lookup,run_underlying h2,hgo,hck,Instr.findKey,run_underlying k2,c]
        cases ok
        .exact .plain H (v:=e.val) (by rw[hr];rfl) rfl hval
        .exact .plain H (v:=.tuple #[e.val,.bool true]) (by rw[hr];rfl) rfl (two hval)
       all_goals first
        |(rename_i hh _;exact(hh _ rfl).elim)
        |(rename_i heq _;cases heq)
        |cases ho
    .cases ho
   .cases ho
  .cases ho
theorem lr{a b:ByteArray}(h:(a==b)=true):a=b:=by
 rw[beq_toListBytes,ByteArray.toList_eq,ByteArray.toList_eq,beq_iff_eq]at h;obtain⟨⟨x⟩⟩:=a;obtain⟨⟨y⟩⟩:=b;simp at h;rw[h]
theorem mH{x y:AU}(h:Fz y x=some true):y=x:=by
 cases y<;>cases x<;>simp[Fz]at h
 .obtain⟨rfl,rfl⟩:=h;rfl
 .rw[h]
 .exact congrArg AU.str (lr h)
theorem X7{x y:AU}{v u:Value}(hv:DR w M x v)(hu:DR w M y u)(h:Fz y x=some true): ∀n,Instr.sameBits n u v=true:=by
 intro n;cases y<;>cases x<;>simp[Fz]at h
 .obtain⟨rfl,rfl⟩:=h;cases hv;cases hu;simp[Instr.sameBits]
 .subst h;cases hv;cases hu;simp[Instr.sameBits]
 .cases hv;cases hu;simpa[Instr.sameBits]using h
theorem Sa{h:AB}(H:HR A β w h){ρ:List Nat}{t:TypeId}{m k v:AV}{vm vk vv:Value}(hm:VR β w (MS A β h) m vm)(hk:VR β w (MS A β h) k vk)(hv:VR β w (MS A β h) v vv){eff:Bw}
 (ho:mapPut (Bc P mix) h.get (Bc P mix t) m k v=some eff):DE A ρ β w h ((do Instr.mapUpdate t vm vk vv;pure .skip:Sem Next).run P w) eff:=by
 unfold mapPut at ho;split at ho
 .cases ho
 .rename_i hcond;split at ho
  .rename_i id x hdat;rw[hdat]at hcond;cases ht:Bc P mix t with
   |none=>simp[ht]at hcond
   |some i=>
    obtain⟨info,d,z,h1,h2,h3,_,rfl⟩:=Ar ht;simp only[ht]at hcond;split at hcond
    .rename_i kt hkind hkt;obtain⟨ke,el,rfl⟩:=QV hkind;simp only[Tp]at hkt;obtain⟨ki,kd,kz,k1,k2,k3,_,hke⟩:=Ar hkt;have hkk:kt.kind=B1 P ke kd:=by rw[hke]
     rw[hkk,AS]at hcond;obtain⟨hkey,_⟩:=hcond;split at ho
     .rename_i es hg;split at ho
      .rename_i r hget;cases ho;have hxk:DR w (MS A β h) x vk:=by
        unfold KZ at hdat;split at hdat
        .cases hdat;cases hk with|d hd=>exact hd
        .cases hdat
       obtain⟨kb,hkb,en,cl,q1,q2,q3⟩:=H.obj id _ hg;cases hm with
       |mp _ k' hk'=>
        rw[hkb]at hk';cases hk';have hgo:=H3 (P:=P) q1 (by simp);have hck:=fun b=>(Tq (P:=P) (w:=w) (M:=MS A β h) k2 hkey hxk).1 b 9999;have done: ∀(es':List (AU×AV)) (en':Array MapEntry) (cl':Nat),Dj es x v=es'→es'.length=en'.size→
           (∀(M':Nat→Prop) (w':World),DU A (MS A β h) w M' w'→ ∀(i:Nat) p e,es'[i]? =some p→en'[i]? =some e→DR w' M' p.1 e.key∧VR β w' M' p.2 e.val)→
           (Instr.mapUpdate t (.map (some kb.b)) vk vv).run P w=.ok () (World.f9 w kb.b (.map en' cl'))→
           DE A ρ β w h ((do Instr.mapUpdate t (.map (some kb.b)) vk vv;pure .skip:Sem Next).run P w) ⟨.undef,[(id,.map (Dj es x v))]⟩:=by
         intro es' en' cl' e1 e2 e3 e4;rw[e1];have hpr:=Fs H (o':=.map es') hg rfl hkb (.map en' cl');refine .skip (w':=World.f9 w kb.b (.map en' cl')) (by simp[e4]) rfl ?_ hpr (Jo _ (Ac.2 rfl) hkb);exact H.upd' hg rfl hkb ⟨en',cl',Gh _ (AL q1),e2,e3 _ _ hpr⟩
        rcases Td (β:=β) k2 hkey hxk es en.toList 0 r (by simpa using q2) (fun a p e hp he=>q3 a p e hp (by simpa using he)) hget with⟨rfl,b,f⟩|⟨av,jj,p,e,rfl,b1,b2,rfl,c,dq,f⟩
        .refine done (es++[(x,v)]) (en.push {key:=vk,val:=vv,born:=cl}) (cl+1) (f v) (by simp[q2]) ?_ ?_
         .intro M' w' hp i p e hp' he;rw[Mk]at he;by_cases hi:i=en.size
          .subst hi;rw[CS (by omega)]at hp';simp[q2]at hp' he;subst hp' he;exact⟨hxk.mono hp,hv.mono (.refl β) hp⟩
          .rw[D3 hi]at he;have hlt:i<es.length:=by rw[q2];exact(HW.1 he).1
           rw[Bv hlt]at hp';exact⟨(q3 i p e hp' he).1.mono hp,(q3 i p e hp' he).2.mono (.refl β) hp⟩
         .simp[Instr.mapUpdate,run_underlying h2,hgo,hck,Instr.findKey,run_underlying k2,b,GQ (P:=P) q1 (by simp)]
        .have hrel:=q3 jj p e b1 (by simpa using b2);have hje:en[jj]? =some e:=by simpa using b2
         have hsb:=X7 hxk hrel.1 dq 10000;refine done (es.set jj (p.1,v)) (en.modify jj fun e=>{e with key:=vk,val:=vv}) cl (f v) (by simp[q2]) ?_ ?_
         .intro M' w' hp i p' e' hp' he;rw[Array.getElem?_modify]at he;rw[IS]at hp';by_cases hi:jj=i
          .subst hi;rw[D7 rfl,hje]at he;have hlt:jj<es.length:=(BE.1 b1).1;simp[hlt]at hp' he;subst hp' he;refine⟨?_,hv.mono (.refl β) hp⟩;have:=mH dq;rw[show p=(x,p.2)from Prod.ext this rfl];exact hxk.mono hp
          .rw[D3 hi]at he hp';exact⟨(q3 i p' e' hp' he).1.mono hp,(q3 i p' e' hp' he).2.mono (.refl β) hp⟩
         .have hst:(Instr.keyThatStays (((en[0+jj]?).map (·.key)).getD vk) vk).run P w=.ok vk w:=by
           rw[I9,hje];simp[Instr.keyThatStays,hsb]
          simp only[Instr.mapUpdate,Sem.run_bind,run_underlying h2,Result.andThen_ok,hgo,hck,Instr.findKey,run_underlying k2,c,Sem.run_pure,hst,GQ (P:=P) q1 (by simp)];simp
      .cases ho
     .cases ho
    .cases hcond
  .cases ho
variable{A:Nat→Prop}{P:Program}{mix:List TypeId}{β:Aj}{w:World}{M:Nat→Prop}
theorem rE{h:AB}(H:HR A β w h){ρ:List Nat}(hf: ∀id,ρ<:+id→β id=none){e:Nat→AV}{a:Act}(he:IK β w (MS A β h) e fun t=>a.tmps.getD t Go.undef){c:Call}{ty:TypeId}{eff:Bw}
 (ho:JB (Bc P mix) e h.get ρ c=some eff):DE A ρ β w h ((do let d←resolve a.eval c ty;invoke d.target d.args:Sem Next).run P w) eff:=by
 have E:=fun x=>HF he x;obtain⟨callee,args,ats⟩:=c;obtain⟨args⟩:=args;obtain⟨ats⟩:=ats;unfold JB at ho;split at ho
 .rename_i b hb;simp only at hb;subst hb;simp only at ho;have hrun:((do let d←resolve a.eval ⟨.builtin b,⟨args⟩,⟨ats⟩⟩ ty;invoke d.target d.args:Sem Next).run P w)=
   (builtin b ⟨ats⟩ ty ((⟨args⟩:Array Operand).map fun|.const _=>true|_=>false) (⟨args.map a.eval⟩:Array Value)).run P w:=by
   simp[resolve,invoke];rfl
  rw[hrun];unfold FT at ho;split at ho
  .split at ho
   .rename_i x hx;split at ho
    .rename_i t;split at ho
     .rename_i i hi;simp only[BI]at ho;obtain⟨n,hn,rfl⟩:=ho
      match args,hx with
      |[ox],hx=>
       simp at hx;subst hx;have:=xZ (ρ:=ρ) (ty:=ty) H (E ox) hi hn;simpa[builtin]using this
     .cases ho
    .cases ho
   .cases ho
  .split at ho
   .rename_i s x t u hx
    match args,hx with
    |[os,ox],hx=>
     simp at hx;obtain⟨rfl,rfl⟩:=hx;have:=TH (ty:=ty) H hf (E os) (E ox) ho;simpa[builtin]using this
   .cases ho
  .split at ho
   .rename_i x t hx
    match args,hx with
    |[ox],hx=>
     simp at hx;subst hx;have:=mF (ρ:=ρ) (ty:=ty) H (E ox) ho;simpa[builtin]using this
   .cases ho
  .split at ho
   .rename_i x y hx
    match args,hx with
    |[ox,oy],hx=>
     simp at hx;obtain⟨rfl,rfl⟩:=hx;have:=xc (ρ:=ρ) (P:=P) (ts:=⟨ats⟩) (ty:=ty) H (E ox) (E oy) ho;simpa[builtin]using this
   .cases ho
  .split at ho
   .rename_i x y hx
    match args,hx with
    |[ox,oy],hx=>
     simp at hx;obtain⟨rfl,rfl⟩:=hx;have:=xf (ρ:=ρ) (P:=P) (ts:=⟨ats⟩) (ty:=ty) H (E ox) (E oy) ho;simpa[builtin]using this
   .cases ho
  .cases ho
 .cases ho
theorem eV{h:AB}(H:HR A β w h){ρ:List Nat}(hf: ∀id,ρ<:+id→β id=none){e:Nat→AV}{a:Act}(he:IK β w (MS A β h) e fun t=>a.tmps.getD t Go.undef){o:Oper}{op:Op}(hop:o.op=op){eff:Bw}
 (ho:evalOp (Bc P mix) e h.get ρ op=some eff):DE A ρ β w h ((execOp a.eval o).run P w) eff:=by
 have E:=fun x=>HF he x;cases op<;>simp only[evalOp,reduceCtorEq,CI]at ho<;>simp only[execOp,hop]
 case move x=>subst ho;exact .plain H (v:=a.eval x) rfl rfl (E x)
 case assign x=>subst ho;exact .plain H (v:=a.eval x) rfl rfl (E x)
 case pick c x y=>exact vD H (E c) (E x) (E y) ho
 case alloc t=>exact lP H hf ho
 case box t x=>exact db H hf (E x) ho
 case build t ps=>exact lq H he ho
 case buildSlice t n ps=>exact RV H hf he ho
 case insert t m k v=>exact Sa H (E m) (E k) (E v) ho
 case load t x=>exact sw H (E x) ho
 case store t x v=>exact qL H (E x) (E v) ho
 case nilCheck x=>
  obtain⟨⟨ad,had⟩,hok⟩:=W8 (ρ:=ρ) H (E x) ho;rw[had]at hok⊢;exact hok
 case binOp op t x y yt=>
  simp only[BI]at ho;obtain⟨r,hr,rfl⟩:=ho;exact rA H (E x) (E y) x y hr
 case unOp op t x=>exact yR H (E x) ho
 case makeInterface t x=>exact nh H (E x) ho
 case makeFunc f x y=>exact Wz H he ho
 case makeMap t r=>exact Zt H hf ho
 case makeSlice t l c=>exact Tv H hf (E l) (E c) ho
 case slice t x lo hi mx=>exact YD H (E x) (dE.map he lo) (dE.map he hi) (dE.map he mx) ho
 case fieldAddr t x k=>exact Tc H (E x) ho
 case field t x k=>exact mf H (E x) ho
 case indexAddr t x i=>exact Tl H (E x) (E i) ho
 case index t x i=>exact nj H (E x) (E i) ho
 case lookup t m k ok=>exact iQ H (E m) (E k) ho
 case mapUpdate t m k v=>exact Sa H (E m) (E k) (E v) ho
 case typeAssert x xt t ok=>
  cases ok with
  |true=>exact dV H (E x) ho
  |false=>cases ho
 case extract x k=>exact Y8 H (E x) ho
 case call c=>exact rE H hf he ho
variable{P:Program}{mix:List TypeId}{g g':G}
variable{vs:List AV}{x:AV}
theorem JV{id:Id}(hx:x∈vs)(hi:id∈AD x):id∈A5 vs:=by
 induction vs with
 |nil=>cases hx
 |cons v vs ih=>
  simp only[A5,F2];rcases DL.1 hx with rfl|hx
  .exact .inl hi
  .exact .inr (ih hx)
theorem Kx{id:Id}(h:id∈A5 vs): ∃x∈vs,id∈AD x:=by
 induction vs with
 |nil=>simp[A5]at h
 |cons v vs ih=>
  simp only[A5,F2]at h;rcases h with h|h
  .exact⟨v,by simp,h⟩
  .obtain⟨x,hx,h⟩:=ih h;exact⟨x,by simp[hx],h⟩
theorem SU(v:AV)(id:Id):id∈A5 v.cells↔id∈AD v:=by
 cases v<;>simp[AV.cells,A5,AD]
def At(g g':G)(l:List Id):Prop:= ∀id∈l,g id=g' id
theorem At.mono{l m:List Id}(h:At g g' l)(hs: ∀id∈m,id∈l):At g g' m:=fun id hi=>h id (hs id hi)
variable{v:AV}
theorem QL(h:At g g' (AD v)):EW g v=EW g' v:=by
 cases v<;>try rfl
 rename_i id off n;simp only[EW,h id (by simp[AD])]
theorem W2(h:At g g' (AD v)):Ie g v=Ie g' v:=by
 cases v<;>try rfl
 rename_i id off n;simp only[Ie,h id (by simp[AD])]
theorem Oq(h:At g g' (A5 vs)):Ch g vs=Ch g' vs:=by
 induction vs with
 |nil=>rfl
 |cons v vs ih=>
  simp only[Ch,QL (v:=v) (h.mono fun id hi=>JV (by simp) hi),ih (h.mono fun id hi=>by simp[A5,hi])]
theorem NX(h:At g g' (A5 vs)):Bb g vs=Bb g' vs:=by
 induction vs with
 |nil=>rfl
 |cons v vs ih=>
  simp only[Bb,D2]at ih⊢;rw[W2 (v:=v) (h.mono fun id hi=>JV (by simp) hi),ih (h.mono fun id hi=>by simp[A5,hi])]
variable{es:List (List AV)}
theorem IX(h:At g g' (es.flatMap A5)):Cd g es=Cd g' es:=by
 induction es with
 |nil=>rfl
 |cons v vs ih=>
  simp only[Cd,Oq (vs:=v) (h.mono fun id hi=>by simp[hi]),ih (h.mono fun id hi=>by simp only[D2,F2];exact .inr hi)]
theorem J5(h:At g g' (es.flatMap A5)):es.flatMap (Bb g)=es.flatMap (Bb g'):=by
 induction es with
 |nil=>rfl
 |cons v vs ih=>
  simp only[D2,NX (vs:=v) (h.mono fun id hi=>by simp[hi]),ih (h.mono fun id hi=>by simp only[D2,F2];exact .inr hi)]
variable{i:TI}{a:AV}
theorem Wv(h:At g g' (AD a)):H4 g i a=H4 g' i a:=by
 cases a<;>try rfl
 .rename_i id off;simp only[H4,h id (by simp[AD])]
 .rename_i id k off;simp only[H4,h id (by simp[AD])]
theorem UX(h:At g g' (AD a))(hv:At g g' (AD v)):IG g i a v=IG g' i a v:=by
 have hc:At g g' (A5 v.cells):=hv.mono fun id hi=>(SU v id).1 hi;unfold IG;cases a<;>try rfl
 .rename_i id off;simp only[h id (by simp[AD])]
 .rename_i id k off;simp only[h id (by simp[AD]),Oq hc,NX hc]
variable{n:Id}{j:TI}
theorem HO(h:At g g' (es.flatMap A5)):newArr g n j es=newArr g' n j es:=by
 simp only[newArr,IX h,J5 h]
theorem TX(h:At g g' (AD x)):DG g x=DG g' x:=by
 cases x
 case d8 id off n=>simp only[DG,h id (by simp[AD])]
 case d y=>cases y<;>rfl
 all_goals rfl
variable{off k sz:Nat}{src:List (List AV)}
theorem U3{id:Id}{es:List (List AU)}(h:At g g' (src.flatMap A5)):appIn g n id off k sz es src=appIn g' n id off k sz es src:=by
 simp only[appIn,IX h,J5 h]
variable{s:AV}
theorem U4(hs:At g g' (AD s))(h:At g g' (src.flatMap A5)):appTo g n j s src=appTo g' n j s src:=by
 cases s
 case ci=>exact HO h
 case emp=>exact HO h
 case d8 id off k=>simp only[appTo,hs id (by simp[AD]),U3 h]
 all_goals rfl
theorem ME(l:List AU):A5 (l.map .d)=[]:=by
 induction l with
 |nil=>rfl
 |cons x l ih=>simp[A5,AD,ih]
theorem ZK(es:List (List AU)):(es.map (·.map AV.d)).flatMap A5=[]:=by
 induction es with
 |nil=>rfl
 |cons x l ih=>simp[ME]
variable{α:Type}{l:List α}
theorem tD{r:List α}{n:Nat}(h:IM l off n=some r){x:α}(hx:x∈r):x∈l:=by
 unfold IM at h;split at h
 .cases h;exact OL (MD hx)
 .cases h
theorem eO(h:DG g x=some src): ∀id∈src.flatMap A5,id∈CX g (AD x):=by
 intro id hid;unfold DG at h;split at h
 .cases h;rw[ZK]at hid;cases hid
 .cases h;cases hid
 .cases h;cases hid
 .rename_i i off n;obtain⟨e,he,hie⟩:=By.1 hid;cases hg:Mm (g i)with
  |none=>rw[hg]at h;cases h
  |some es=>
   rw[hg]at h;have he':=tD h he;unfold Mm at hg;split at hg
   .cases hg;obtain⟨y,_,rfl⟩:=ID.1 he';rw[ME]at hie;cases hie
   .cases hg;obtain⟨y,_,rfl⟩:=ID.1 he';rw[ME]at hie;cases hie
   .rename_i sz es' hgi;cases hg;refine GO _ (By.2 ⟨i,by simp[AD],?_⟩);simp only[hgi];exact By.2 ⟨e,he',hie⟩
   .cases hg
 .cases h
theorem RP(hs:At g g' (AD s))(hx:At g g' (CX g (AD x))):appendV g n j s x=appendV g' n j s x:=by
 have he:=TX (hx.mono fun id hi=>Ge _ hi);unfold appendV;rw[←he];cases h:DG g x with
 |none=>rfl
 |some src=>
  have h2:appTo g n j s src=appTo g' n j s src:=U4 hs (hx.mono fun id hi=>eO h id hi);cases src with
  |nil=>rfl
  |cons a l=>simp only[h2]
theorem Zn{k:TK}(h:At g g' (AD x)):Ts g k x=Ts g' k x:=by
 cases x
 case mp id=>cases k<;>simp only[Ts,h id (by simp[AD])]
 case d y=>cases y<;>cases k<;>rfl
 all_goals (cases k<;>rfl)
variable{T:TypeId→Option TI}{t:Option TI}{m:AV}
theorem NW{k:AV}(h:At g g' (AD m)):mapPut T g t m k v=mapPut T g' t m k v:=by
 unfold mapPut;cases m
 case mp id=>
  have e:=h id (by simp[AD]);cases KZ k<;>simp only[e]
 all_goals rfl
theorem Qj{k:AV}{ok:Bool}(h:At g g' (AD m)):Ef T g m k ok t=Ef T g' m k ok t:=by
 unfold Ef;cases t with
 |none=>rfl
 |some i=>
  cases m
  case mp id=>
   have e:=h id (by simp[AD]);obtain⟨kind,size,agg,str,zero,wp,elem,key,mx⟩:=i;simp only;generalize KZ k=d;generalize T key=tk;cases d<;>cases kind<;>cases tk<;>first|rfl|simp only[e]
  all_goals rfl
theorem Wc{n:Int}(h:At g g' (AD x)):Ly g n x j=Ly g' n x j:=by
 unfold Ly;cases x
 case d8 id off n=>simp only[h id (by simp[AD])]
 case d y=>cases y<;>rfl
 all_goals rfl
theorem Nd{i:AV}(h:At g g' (AD x)):Ck T g x i t=Ck T g' x i t:=by
 unfold Ck;simp only[Wc h]
theorem UR{id:Id}{b:Option (Nat×Nat×Option Nat)}(h:g id=g' id):Q2 g sz id off b=Q2 g' sz id off b:=by
 unfold Q2;simp only[h]
variable{lo hi mx:Option AV}
theorem UU{k:TK}(h:At g g' (AD x)):GU g k sz x lo hi mx=GU g' k sz x lo hi mx:=by
 cases x
 case d8 id off n=>cases k<;>simp only[GU,UR (h id (by simp[AD]))]
 case d y=>cases y<;>cases k<;>rfl
 all_goals (cases k<;>rfl)
theorem Rk(h:At g g' (AD x)):Gd T g x lo hi mx t=Gd T g' x lo hi mx t:=by
 unfold Gd;simp only[UU h]
theorem Rj(h:At g g' (AD x)):Ik T g t x=Ik T g' t x:=by
 unfold Ik;cases t with
 |none=>rfl
 |some i=>
  obtain⟨kind,size,agg,str,zero,wp,elem,key,mx⟩:=i;simp only;cases x
  case d8 id off n=>
   have e:=h id (by simp[AD]);cases kind
   case slice=>simp only[LL,e]
   all_goals rfl
  all_goals (cases kind<;>rfl)
theorem qj(z:Value):A5 (z.cells.toList.map Cw)=[]:=by
 generalize z.cells.toList=l;induction l with
 |nil=>rfl
 |cons v l ih=>
  simp only[Ci,A5,ih,EL];unfold Cw;split<;>rfl
theorem c7{t:TypeId}(h:Bc P mix t=some i):A5 i.zero=[]:=by
 obtain⟨info,d,z,h1,h2,h3,h4,rfl⟩:=Ar h;exact qj z
theorem vH{n:Nat}{l:List AV}(h:A5 l=[]):(List.replicate n l).flatMap A5=[]:=by
 induction n with
 |zero=>rfl
 |succ n ih=>simp[List.replicate_succ,h]
theorem Ri{t:TypeId}(h:Bc P mix t=some j):FG g n k j=FG g' n k j:=by
 unfold FG;cases k with
 |zero=>rfl
 |succ k=>exact HO (by rw[vH (c7 h)];intro id hi;cases hi)
theorem bu{r new:List α}(h:B9 l off new=some r){x:α}(hx:x∈r):x∈l∨x∈new:=by
 unfold B9 at h;split at h
 .cases h;simp only[F2]at hx;rcases hx with(hx|hx)|hx
  .exact .inl (MD hx)
  .exact .inr hx
  .exact .inl (OL hx)
 .cases h
theorem Lv{pl:Nat→Option (Nat×Nat)}: ∀{ps:List (Nat×AV)} {cs r:List AV},CM pl cs ps=some r→ ∀x∈r,x∈cs∨ ∃p∈ps,x∈p.2.cells
 |[],cs,r,h,x,hx=>by simp only[CM,CI]at h;subst h;exact .inl hx
 |(i,v)::ps,cs,r,h,x,hx=>by
  simp only[CM]at h;split at h
  .split at h
   .cases hs:B9 cs _ v.cells with
    |none=>rw[hs]at h;cases h
    |some cs'=>
     rw[hs]at h;rcases Lv h x hx with h1|⟨p,hp,h1⟩
     .rcases bu hs h1 with h2|h2
      .exact .inl h2
      .exact .inr ⟨(i,v),by simp,h2⟩
     .exact .inr ⟨p,by simp[hp],h1⟩
   .cases h
  .cases h
theorem P2: ∀{n:Nat} {l:List α} {c:List α},c∈Fh sz n l→ ∀x∈c,x∈l
 |0,_,_,h,_,_=>by cases h
 |n+1,l,c,h,x,hx=>by
  simp only[Fh,DL]at h;rcases h with rfl|h
  .exact MD hx
  .exact OL (P2 h x hx)
variable{nw:Id}{ps:List (Nat×AV)}
theorem Px{n:Nat}{t:TypeId}(ht:Bc P mix t=some j)(h:At g g' (ps.flatMap fun p=>AD p.2)):Fe g nw n ps j=Fe g' nw n ps j:=by
 unfold Fe;cases hf:CM (fun k=>some (k*j.size,j.size)) ((List.replicate n j.zero).flatten) ps with
 |none=>rfl
 |some cs=>
  have:newArr g nw j (Fh j.size n cs)=newArr g' nw j (Fh j.size n cs):=by
   refine HO fun id hi=>?_;obtain⟨c,hc,hi⟩:=By.1 hi;obtain⟨x,hx,hi⟩:=Kx hi;rcases Lv hf x (P2 hc x hx)with h1|⟨p,hp,h1⟩
   .obtain⟨l,hl,hx⟩:=Ls.1 h1;rw[ON hl]at hx;have:=JV hx hi;rw[c7 ht]at this;cases this
   .exact h id (By.2 ⟨p,hp,(SU _ _).1 (JV h1 hi)⟩)
  cases n with
  |zero=>rfl
  |succ n=>simp only[this]
theorem MN{n:Nat}(h:At g g' (ps.flatMap fun p=>AD p.2)):CJ (Bc P mix) g nw n ps t=CJ (Bc P mix) g' nw n ps t:=by
 unfold CJ;cases t with
 |none=>rfl
 |some i=>
  obtain⟨kind,size,agg,str,zero,wp,elem,key,mx⟩:=i;simp only;cases hj:Bc P mix elem with
  |none=>cases kind<;>rfl
  |some j=>cases kind<;>first|rfl|simp only[Px hj h]
theorem Nf{l c:AV}:CR (Bc P mix) g nw l c t=CR (Bc P mix) g' nw l c t:=by
 unfold CR;cases t with
 |none=>rfl
 |some i=>
  obtain⟨kind,size,agg,str,zero,wp,elem,key,mx⟩:=i;simp only;cases hj:Bc P mix elem with
  |none=>cases kind<;>rfl
  |some j=>
   cases kind
   case slice=>
    cases l<;>try rfl
    rename_i x;cases x<;>try rfl
    cases c<;>try rfl
    rename_i y;cases y<;>try rfl
    simp only[Ri hj (g:=g) (g':=g')]
   all_goals rfl
theorem Qi{u:Option TI}(hs:At g g' (AD s))(hx:At g g' (CX g (AD x))):Gx T g nw t u s x=Gx T g' nw t u s x:=by
 unfold Gx;simp only[RP hs hx]
def JF(e e':Nat→AV)(op:Op):Prop:= ∀x∈op.operands,ev e x=ev e' x
variable{e:Nat→AV}{op:Op}
theorem Mn(h:At g g' (Dk e op)){x:Operand}(hx:x∈op.operands):At g g' (AD (ev e x)):=
 h.mono fun _ hi=>By.2 ⟨x,by simpa using hx,hi⟩
variable{e':Nat→AV}
theorem Lu{ps:Array (Nat×Operand)}(h: ∀p∈ps,ev e p.2=ev e' p.2):Dd e ps=Dd e' ps:=by
 unfold Dd;exact List.map_congr_left fun p hp=>by rw[h p (by simpa using hp)]
theorem MJ{x:Option Operand}(h: ∀y∈x,ev e y=ev e' y):x.map (ev e)=x.map (ev e'):=by
 cases x with
 |none=>rfl
 |some y=>simp[h y rfl]
theorem Ec{x:Array Operand}(h: ∀y∈x,ev e y=ev e' y):x.toList.map (ev e)=x.toList.map (ev e'):=
 List.map_congr_left fun y hy=>h y (by simpa using hy)
theorem Ta(he:JF e e' op)(h:At g g' (FP e g op)):evalOp (Bc P mix) e g n op=evalOp (Bc P mix) e' g' n op:=by
 cases op<;>try rfl
 case move x=>simp only[evalOp,he x (by simp[Op.operands])]
 case assign x=>simp only[evalOp,he x (by simp[Op.operands])]
 case pick c a b=>simp only[evalOp,he c (by simp[Op.operands]),he a (by simp[Op.operands]),he b (by simp[Op.operands])]
 case box t x=>simp only[evalOp,he x (by simp[Op.operands])]
 case build t ps=>
  simp only[evalOp];rw[Lu fun p hp=>he p.2 (by simp[Op.operands];exact⟨p.1,hp⟩)]
 case buildSlice t k ps=>
  have hp: ∀p∈ps,p.2∈(Op.buildSlice t k ps).operands:=fun p hp=>by simp[Op.operands];exact⟨p.1,hp⟩
  simp only[evalOp];rw[Lu fun p hp'=>he p.2 (hp p hp')];refine MN fun id hi=>?_;obtain⟨q,hq,hi⟩:=By.1 hi;obtain⟨p,hp',rfl⟩:=ID.1 hq;rw[←he p.2 (hp p (by simpa using hp'))]at hi;exact Mn h (hp p (by simpa using hp')) id hi
 case insert t m k v=>
  simp only[evalOp];rw[←he m (by simp[Op.operands]),←he k (by simp[Op.operands]),←he v (by simp[Op.operands])];exact NW (Mn h (by simp[Op.operands]))
 case load t x=>
  simp only[evalOp];rw[←he x (by simp[Op.operands])];cases ht:Bc P mix t with
  |none=>rfl
  |some i=>simp only[J8,Wv (Mn h (x:=x) (by simp[Op.operands]))]
 case store t a x=>
  simp only[evalOp];rw[←he a (by simp[Op.operands]),←he x (by simp[Op.operands])];cases ht:Bc P mix t with
  |none=>rfl
  |some i=>simp only[HT,UX (Mn h (x:=a) (by simp[Op.operands])) (Mn h (x:=x) (by simp[Op.operands]))]
 case nilCheck x=>simp only[evalOp,he x (by simp[Op.operands])]
 case binOp op t x y yt=>simp only[evalOp,he x (by simp[Op.operands]),he y (by simp[Op.operands])]
 case unOp op t x=>simp only[evalOp,he x (by simp[Op.operands])]
 case makeInterface t x=>simp only[evalOp,he x (by simp[Op.operands])]
 case makeFunc f x y=>
  simp only[evalOp];rw[Ec (e:=e) (e':=e') (x:=x) fun z hz=>he z (by simp[Op.operands,hz]),Ec (e:=e) (e':=e') (x:=y) fun z hz=>he z (by simp[Op.operands,hz])]
 case makeSlice t l c=>
  simp only[evalOp];rw[he l (by simp[Op.operands]),he c (by simp[Op.operands])];exact Nf
 case slice t x lo hi mx=>
  simp only[evalOp];rw[←he x (by simp[Op.operands]),MJ (e:=e) (e':=e') (x:=lo) fun z hz=>he z (by simp[Op.operands]at hz⊢;simp[hz]),
   MJ (e:=e) (e':=e') (x:=hi) fun z hz=>he z (by simp[Op.operands]at hz⊢;simp[hz]),MJ (e:=e) (e':=e') (x:=mx) fun z hz=>he z (by simp[Op.operands]at hz⊢;simp[hz])]
  exact Rk (Mn h (by simp[Op.operands]))
 case fieldAddr t x k=>simp only[evalOp,he x (by simp[Op.operands])]
 case field t x k=>simp only[evalOp,he x (by simp[Op.operands])]
 case indexAddr t x i=>
  simp only[evalOp];rw[←he x (by simp[Op.operands]),←he i (by simp[Op.operands])];exact Nd (Mn h (by simp[Op.operands]))
 case index t x i=>simp only[evalOp,he x (by simp[Op.operands]),he i (by simp[Op.operands])]
 case lookup t m k ok=>
  simp only[evalOp];rw[←he m (by simp[Op.operands]),←he k (by simp[Op.operands])];exact Qj (Mn h (by simp[Op.operands]))
 case mapUpdate t m k v=>
  simp only[evalOp];rw[←he m (by simp[Op.operands]),←he k (by simp[Op.operands]),←he v (by simp[Op.operands])];exact NW (Mn h (by simp[Op.operands]))
 case typeAssert x xt t ok=>
  simp only[evalOp,he x (by simp[Op.operands])]
 case extract x k=>simp only[evalOp,he x (by simp[Op.operands])]
 case call c=>
  obtain⟨callee,args,ats⟩:=c;simp only[evalOp,JB];cases callee with
  |value f=>rfl
  |invoke r m=>rfl
  |builtin b=>
   simp only;have ha: ∀x∈args,x∈(Op.call ⟨.builtin b,args,ats⟩).operands:=fun x hx=>by simp[Op.operands,Call.operands,hx]
   rw[←Ec fun x hx=>he x (ha x hx)];have hids: ∀x,x∈args.toList.map (ev e)→ ∀id∈AD x,id∈Dk e (Op.call ⟨.builtin b,args,ats⟩):=by
    intro x hx id hi;obtain⟨y,hy,rfl⟩:=ID.1 hx;exact By.2 ⟨y,by simpa using ha y (by simpa using hy),hi⟩
   generalize args.toList.map (ev e)=as at hids;unfold FT;cases b<;>try rfl
   .simp only[FP]at h;have h1: ∀x∈as,At g g' (AD x):=fun x hx=>h.mono fun id hi=>Ge _ (hids x hx id hi);have h2: ∀x∈as,At g g' (CX g (AD x)):=fun x hx=>h.mono fun id hi=>by
     rcases F2.1 hi with hi|hi
     .exact Ge _ (hids x hx id hi)
     .obtain⟨i,h3,h4⟩:=By.1 hi;exact GO _ (By.2 ⟨i,hids x hx i h3,h4⟩)
    match as,ats.toList with
    |[],_=>rfl
    |[_],_=>rfl
    |[s,x],[t,u]=>exact Qi (h1 s (by simp)) (h2 x (by simp))
    |[_,_],[]=>rfl
    |[_,_],[_]=>rfl
    |[_,_],_::_::_::_=>rfl
    |_::_::_::_,_=>rfl
   .simp only[FP]at h;have h1: ∀x∈as,At g g' (AD x):=fun x hx=>h.mono fun id hi=>hids x hx id hi
    match as,ats.toList with
    |[],_=>rfl
    |[x],[]=>rfl
    |[x],[t]=>exact Rj (h1 x (by simp))
    |[x],_::_::_=>rfl
    |_::_::_,_=>rfl
   .simp only[FP]at h;have h1: ∀x∈as,At g g' (AD x):=fun x hx=>h.mono fun id hi=>hids x hx id hi
    match as,ats.toList with
    |[],_=>rfl
    |[x],[]=>rfl
    |[x],[t]=>
     simp only;cases ht:Bc P mix t with
     |none=>rfl
     |some i=>simp only[Zn (h1 x (by simp))]
    |[x],_::_::_=>rfl
    |_::_::_,_=>rfl
end Go.Abs
