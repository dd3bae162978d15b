/-
  Parts: EngO12 EngP EngL.
-/
import Derived.MapKept
import Derived.Test.YtbinfhpngacfgaaGreatSt3
set_option linter.all false
set_option linter.unusedSimpArgs false
set_option linter.unusedVariables false
namespace Go.Abs
variable{A:Nat→Prop}{P:Program}{mix:List TypeId}{β:Ag}{w:World}{M:Nat→Prop}
theorem IX{r:Nat}{o:Go.Obj}(h:w.heap[r]? =some o)(hc: ∀c e f,o≠ .cells c e f):(getObj r).run P w=.ok o w:=by
 cases o<;>first|exact absurd rfl (hc _ _ _)|simp only[getObj,Sem.run,h]
theorem Gj{r:Nat}{o o':Go.Obj}(h:w.heap[r]? =some o)(hc: ∀c e f,o≠ .cells c e f):(setObj r o').run P w=.ok () (World.upd w r o'):=by
 cases o<;>first|exact absurd rfl (hc _ _ _)|(simp only[setObj,Sem.run,h];rfl)
theorem VP{t:TypeId}{d:TypeDesc}(h2:P.underlying t=some d){x:AW}(hk:JH (CM P t d) x=true){v:Value}(hv:DR w M x v):
 (∀b n,(Instr.checkKey b (n+1) t v).run P w=.ok () w)∧ ∀{y:AW} {u:Value} {r:Bool},DR w M y u→GU y x=some r→Instr.sameNow d v u=some r:=by
 cases x<;>cases hkd:CM P t d<;>simp[JH,hkd]at hk
 .obtain⟨k,rfl⟩:=rR hkd;cases hv;refine⟨fun b n=>by simp[Instr.checkKey,run_underlying h2],fun{y u r} hu he=>?_⟩;cases y<;>simp[GU]at he;obtain⟨rfl,rfl⟩:=he;cases hu;simp[Instr.sameNow,Bool.beq_comm]
 .have:=Tf hkd;subst this;cases hv;refine⟨fun b n=>by simp[Instr.checkKey,run_underlying h2],fun{y u r} hu he=>?_⟩;cases y<;>simp[GU]at he;subst he;cases hu;simp[Instr.sameNow,Bool.beq_comm]
 .have:=K4 hkd;subst this;cases hv;refine⟨fun b n=>by simp[Instr.checkKey,run_underlying h2],fun{y u r} hu he=>?_⟩;cases y<;>simp[GU]at he;subst he;cases hu;simp only[Instr.sameNow,Option.some.injEq];rw[beq_toListBytes,beq_toListBytes,Bool.beq_comm]
theorem VC{t:TypeId}{d:TypeDesc}(h2:P.underlying t=some d){x:AW}(hk:JH (CM P t d) x=true){v:Value}(hv:DR w M x v): ∀(es:List (AW×AV)) (en:List MapEntry) (i:Nat) (r:Option AV),
 es.length=en.length→(∀(j:Nat) p e,es[j]? =some p→en[j]? =some e→DR w M p.1 e.key∧VR β w M p.2 e.val)→Ch es x=some r→
 (r=none∧Instr.findNow d v en i=some none∧ ∀y,Dq es x y=es++[(x,y)])∨
 (∃av j p e,r=some av∧es[j]? =some p∧en[j]? =some e∧p.2=av∧Instr.findNow d v en i=some (some (i+j,e.val))∧GU p.1 x=some true∧ ∀y,Dq es x y=es.set j (p.1,y))
 |[],en,i,r,hl,_,hg=>by
  have:en=[]:=List.length_eq_zero_iff.1 hl.symm;subst this;simp only[Ch,Option.some.injEq]at hg;exact .inl ⟨hg.symm,rfl,fun _=>rfl⟩
 |(k,u)::es,en,i,r,hl,hr,hg=>by
  cases en with
  |nil=>simp at hl
  |cons e en=>
   obtain⟨h0,h0'⟩:=hr 0 (k,u) e rfl rfl;simp only[Ch]at hg;split at hg
   .rename_i heq;cases hg;have hs:=(VP h2 hk hv).2 h0 heq;exact .inr ⟨u,0,(k,u),e,rfl,rfl,rfl,rfl,by simp[Instr.findNow,hs],heq,fun y=>by simp[Dq,heq]⟩
   .rename_i heq;have hs:=(VP h2 hk hv).2 h0 heq;rcases VC h2 hk hv es en (i+1) r (by simpa using hl) (fun j p e hp he=>hr (j+1) p e (by simpa using hp) (by simpa using he)) hg with⟨a,b,c⟩|⟨av,j,p,e',a,b1,b2,b3,c,dq,f⟩
    .exact .inl ⟨a,by simp[Instr.findNow,hs,b],fun y=>by simp[Dq,heq,c]⟩
    .exact .inr ⟨av,j+1,p,e',a,by simpa using b1,by simpa using b2,b3,by simp[Instr.findNow,hs,c];omega,dq,fun y=>by simp[Dq,heq,f]⟩
   .cases hg
theorem kU{h:AB}(H:HR A β w h){ρ:List Nat}{t:TypeId}{m k:AV}{vm vk:Value}{ok:Bool}(hm:VR β w (MS A β h) m vm)(hk:VR β w (MS A β h) k vk){eff:Bz}
 (ho:Ee (Bf P mix) h.get m k ok (Bf P mix t)=some eff):DK A ρ β w h ((do pure (.value (←Instr.lookup t vm vk ok)):Sem Next).run P w) eff:=by
 cases ht:Bf P mix t with
 |none=>simp[Ee,ht]at ho
 |some i=>
  obtain⟨info,d,z,h1,h2,h3,_,rfl⟩:=Ax ht;simp only[Ee,ht]at ho;split at ho
  .rename_i id x kt hdat hkind hkt;obtain⟨ke,el,rfl⟩:=RH hkind;simp only[VO]at hkt;obtain⟨ki,kd,kz,k1,k2,k3,_,hke⟩:=Ax hkt;split at ho
   .rename_i es hkey hg;have hkk:kt.kind=CM P ke kd:=by rw[hke]
    rw[hkk]at hkey;split at ho
    .rename_i r j hget hj;simp only[Hi]at hj;obtain⟨ji,jd,jz,j1,j2,j3,⟨_,_,jzs,jza⟩,hje⟩:=Ax hj;have hxk:DR w (MS A β h) x vk:=by
      unfold Kr at hdat;split at hdat
      .cases hdat;cases hk with|d hd=>exact hd
      .cases hdat
     obtain⟨kb,hkb,en,cl,q1,q2,q3⟩:=H.obj id _ hg;cases hm with
     |mp _ k' hk'=>
      rw[hkb]at hk';cases hk';have hgo:=IX (P:=P) q1 (by simp);have hck:=fun b=>(VP (P:=P) (w:=w) (M:=MS A β h) k2 hkey hxk).1 b 9999;have hmk: ∀(ag:Bool),Kh jd=ag→True:=fun _ _=>trivial;unfold KM at ho;have hzero: ∀zz,Ey j.agg j.zero=some zz→VR β w (MS A β h) zz jz:=fun zz hz=>by
       rw[hje]at hz;exact ZX jza hz
      have two: ∀{a:AV} {u:Value} {b:Bool},VR β w (MS A β h) a u→VR β w (MS A β h) (.tup [a,.d (.bool b)]) (.tuple #[u,.bool b]):=by
       intro a u b hu;refine .tup _ _ rfl fun i x v hx hv=>?_
       match i with
       |0=>simp at hx hv;subst hx hv;exact hu
       |1=>simp at hx hv;subst hx hv;exact .d (.bool _)
       |i+2=>simp at hx
      rcases VC (β:=β) k2 hkey hxk es en.toList 0 r (by simpa using q2) (fun a p e hp he=>q3 a p e hp (by simpa using he)) hget with⟨rfl,b,_⟩|⟨av,jj,p,e,rfl,b1,b2,rfl,c,_⟩
      .split at ho
       .rename_i heq;cases heq
       .rename_i zz hz;cases ho;have hr:((do pure (.value (←Instr.lookup t (.map (some kb.b)) vk ok)):Sem Next).run P w)=.ok (.value (if ok then .tuple #[jz,.bool false]else jz)) w:=by
         simp[Instr.lookup,run_underlying h2,hgo,hck,Instr.findKey,run_underlying k2,b,C9 j1 j3]
        cases ok
        .exact .plain H (v:=jz) (by rw[hr];rfl) rfl (hzero _ hz)
        .exact .plain H (v:=.tuple #[jz,.bool false]) (by rw[hr];rfl) rfl (two (hzero _ hz))
       .cases ho
      .have hval:VR β w (MS A β h) p.2 e.val:=(q3 jj p e b1 (by simpa using b2)).2;split at ho
       .rename_i heq;cases heq;cases ho;have hr:((do pure (.value (←Instr.lookup t (.map (some kb.b)) vk ok)):Sem Next).run P w)=.ok (.value (if ok then .tuple #[e.val,.bool true]else e.val)) w:=by
         simp[Instr.lookup,run_underlying h2,hgo,hck,Instr.findKey,run_underlying k2,c]
        cases ok
        .exact .plain H (v:=e.val) (by rw[hr];rfl) rfl hval
        .exact .plain H (v:=.tuple #[e.val,.bool true]) (by rw[hr];rfl) rfl (two hval)
       all_goals first
        |(rename_i hh _;exact(hh _ rfl).elim)
        |(rename_i heq _;cases heq)
        |cases ho
    .cases ho
   .cases ho
  .cases ho
theorem pE{a b:ByteArray}(h:(a==b)=true):a=b:=by
 rw[beq_toListBytes,ByteArray.toList_eq,ByteArray.toList_eq,beq_iff_eq]at h;obtain⟨⟨x⟩⟩:=a;obtain⟨⟨y⟩⟩:=b;simp at h;rw[h]
theorem pd{x y:AW}(h:GU y x=some true):y=x:=by
 cases y<;>cases x<;>simp[GU]at h
 .obtain⟨rfl,rfl⟩:=h;rfl
 .rw[h]
 .exact congrArg AW.str (pE h)
theorem Y7{x y:AW}{v u:Value}(hv:DR w M x v)(hu:DR w M y u)(h:GU y x=some true): ∀n,Instr.sameBits n u v=true:=by
 intro n;cases y<;>cases x<;>simp[GU]at h
 .obtain⟨rfl,rfl⟩:=h;cases hv;cases hu;simp[Instr.sameBits]
 .subst h;cases hv;cases hu;simp[Instr.sameBits]
 .cases hv;cases hu;simpa[Instr.sameBits]using h
theorem Tk{h:AB}(H:HR A β w h){ρ:List Nat}{t:TypeId}{m k v:AV}{vm vk vv:Value}(hm:VR β w (MS A β h) m vm)(hk:VR β w (MS A β h) k vk)(hv:VR β w (MS A β h) v vv){eff:Bz}
 (ho:mapPut (Bf P mix) h.get (Bf P mix t) m k v=some eff):DK A ρ β w h ((do Instr.mapUpdate t vm vk vv;pure .skip:Sem Next).run P w) eff:=by
 unfold mapPut at ho;split at ho
 .cases ho
 .rename_i hcond;split at ho
  .rename_i id x hdat;rw[hdat]at hcond;cases ht:Bf P mix t with
   |none=>simp[ht]at hcond
   |some i=>
    obtain⟨info,d,z,h1,h2,h3,_,rfl⟩:=Ax ht;simp only[ht]at hcond;split at hcond
    .rename_i kt hkind hkt;obtain⟨ke,el,rfl⟩:=RH hkind;simp only[VO]at hkt;obtain⟨ki,kd,kz,k1,k2,k3,_,hke⟩:=Ax hkt;have hkk:kt.kind=CM P ke kd:=by rw[hke]
     rw[hkk,Bool.and_eq_true]at hcond;obtain⟨hkey,_⟩:=hcond;split at ho
     .rename_i es hg;split at ho
      .rename_i r hget;cases ho;have hxk:DR w (MS A β h) x vk:=by
        unfold Kr at hdat;split at hdat
        .cases hdat;cases hk with|d hd=>exact hd
        .cases hdat
       obtain⟨kb,hkb,en,cl,q1,q2,q3⟩:=H.obj id _ hg;cases hm with
       |mp _ k' hk'=>
        rw[hkb]at hk';cases hk';have hgo:=IX (P:=P) q1 (by simp);have hck:=fun b=>(VP (P:=P) (w:=w) (M:=MS A β h) k2 hkey hxk).1 b 9999;have done: ∀(es':List (AW×AV)) (en':Array MapEntry) (cl':Nat),Dq es x v=es'→es'.length=en'.size→
           (∀(M':Nat→Prop) (w':World),DY A (MS A β h) w M' w'→ ∀(i:Nat) p e,es'[i]? =some p→en'[i]? =some e→DR w' M' p.1 e.key∧VR β w' M' p.2 e.val)→
           (Instr.mapUpdate t (.map (some kb.b)) vk vv).run P w=.ok () (World.upd w kb.b (.map en' cl'))→
           DK A ρ β w h ((do Instr.mapUpdate t (.map (some kb.b)) vk vv;pure .skip:Sem Next).run P w) ⟨.undef,[(id,.map (Dq es x v))]⟩:=by
         intro es' en' cl' e1 e2 e3 e4;rw[e1];have hpr:=GJ H (o':=.map es') hg rfl hkb (.map en' cl');refine .skip (w':=World.upd w kb.b (.map en' cl')) (by simp[e4]) rfl ?_ hpr (J6 _ (List.mem_singleton.2 rfl) hkb);exact H.upd' hg rfl hkb ⟨en',cl',G3 _ (AI q1),e2,e3 _ _ hpr⟩
        rcases VC (β:=β) k2 hkey hxk es en.toList 0 r (by simpa using q2) (fun a p e hp he=>q3 a p e hp (by simpa using he)) hget with⟨rfl,b,f⟩|⟨av,jj,p,e,rfl,b1,b2,rfl,c,dq,f⟩
        .refine done (es++[(x,v)]) (en.push {key:=vk,val:=vv,born:=cl}) (cl+1) (f v) (by simp[q2]) ?_ ?_
         .intro M' w' hp i p e hp' he;rw[Array.getElem?_push]at he;by_cases hi:i=en.size
          .subst hi;rw[List.getElem?_append_right (by omega)]at hp';simp[q2]at hp' he;subst hp' he;exact⟨hxk.mono hp,hv.mono (.refl β) hp⟩
          .rw[if_neg hi]at he;have hlt:i<es.length:=by rw[q2];exact(Array.getElem?_eq_some_iff.1 he).1
           rw[List.getElem?_append_left hlt]at hp';exact⟨(q3 i p e hp' he).1.mono hp,(q3 i p e hp' he).2.mono (.refl β) hp⟩
         .simp[Instr.mapUpdate,run_underlying h2,hgo,hck,Instr.findKey,run_underlying k2,b,Gj (P:=P) q1 (by simp)]
        .have hrel:=q3 jj p e b1 (by simpa using b2);have hje:en[jj]? =some e:=by simpa using b2
         have hsb:=Y7 hxk hrel.1 dq 10000;refine done (es.set jj (p.1,v)) (en.modify jj fun e=>{e with key:=vk,val:=vv}) cl (f v) (by simp[q2]) ?_ ?_
         .intro M' w' hp i p' e' hp' he;rw[Array.getElem?_modify]at he;rw[List.getElem?_set]at hp';by_cases hi:jj=i
          .subst hi;rw[if_pos rfl,hje]at he;have hlt:jj<es.length:=(List.getElem?_eq_some_iff.1 b1).1;simp[hlt]at hp' he;subst hp' he;refine⟨?_,hv.mono (.refl β) hp⟩;have:=pd dq;rw[show p=(x,p.2)from Prod.ext this rfl];exact hxk.mono hp
          .rw[if_neg hi]at he hp';exact⟨(q3 i p' e' hp' he).1.mono hp,(q3 i p' e' hp' he).2.mono (.refl β) hp⟩
         .have hst:(Instr.keyThatStays (((en[0+jj]?).map (·.key)).getD vk) vk).run P w=.ok vk w:=by
           rw[Nat.zero_add,hje];simp[Instr.keyThatStays,hsb]
          simp only[Instr.mapUpdate,Sem.run_bind,run_underlying h2,Result.andThen_ok,hgo,hck,Instr.findKey,run_underlying k2,c,Sem.run_pure,hst,Gj (P:=P) q1 (by simp)];simp
      .cases ho
     .cases ho
    .cases hcond
  .cases ho
end Go.Abs
namespace Go.Abs
variable{A:Nat→Prop}{P:Program}{mix:List TypeId}{β:Ag}{w:World}{M:Nat→Prop}
theorem vL{h:AB}(H:HR A β w h){ρ:List Nat}(hf: ∀id,ρ<:+id→β id=none){e:Nat→AV}{a:Act}(he:Iv β w (MS A β h) e fun t=>a.tmps.getD t Go.undef){c:Call}{ty:TypeId}{eff:Bz}
 (ho:JZ (Bf P mix) e h.get ρ c=some eff):DK A ρ β w h ((do let d←resolve a.eval c ty;invoke d.target d.args:Sem Next).run P w) eff:=by
 have E:=fun x=>Ha he x;obtain⟨callee,args,ats⟩:=c;obtain⟨args⟩:=args;obtain⟨ats⟩:=ats;unfold JZ at ho;split at ho
 .rename_i b hb;simp only at hb;subst hb;simp only at ho;have hrun:((do let d←resolve a.eval ⟨.builtin b,⟨args⟩,⟨ats⟩⟩ ty;invoke d.target d.args:Sem Next).run P w)=
   (builtin b ⟨ats⟩ ty ((⟨args⟩:Array Operand).map fun|.const _=>true|_=>false) (⟨args.map a.eval⟩:Array Value)).run P w:=by
   simp[resolve,invoke];rfl
  rw[hrun];unfold Ff at ho;split at ho
  .split at ho
   .rename_i x hx;split at ho
    .rename_i t;split at ho
     .rename_i i hi;simp only[Option.map_eq_some_iff]at ho;obtain⟨n,hn,rfl⟩:=ho
      match args,hx with
      |[ox],hx=>
       simp at hx;subst hx;have:=AAi (ρ:=ρ) (ty:=ty) H (E ox) hi hn;simpa[builtin]using this
     .cases ho
    .cases ho
   .cases ho
  .split at ho
   .rename_i s x t u hx
    match args,hx with
    |[os,ox],hx=>
     simp at hx;obtain⟨rfl,rfl⟩:=hx;have:=Uk (ty:=ty) H hf (E os) (E ox) ho;simpa[builtin]using this
   .cases ho
  .split at ho
   .rename_i x t hx
    match args,hx with
    |[ox],hx=>
     simp at hx;subst hx;have:=pX (ρ:=ρ) (ty:=ty) H (E ox) ho;simpa[builtin]using this
   .cases ho
  .split at ho
   .rename_i x y hx
    match args,hx with
    |[ox,oy],hx=>
     simp at hx;obtain⟨rfl,rfl⟩:=hx;have:=AAk (ρ:=ρ) (P:=P) (ts:=⟨ats⟩) (ty:=ty) H (E ox) (E oy) ho;simpa[builtin]using this
   .cases ho
  .split at ho
   .rename_i x y hx
    match args,hx with
    |[ox,oy],hx=>
     simp at hx;obtain⟨rfl,rfl⟩:=hx;have:=AAn (ρ:=ρ) (P:=P) (ts:=⟨ats⟩) (ty:=ty) H (E ox) (E oy) ho;simpa[builtin]using this
   .cases ho
  .cases ho
 .cases ho
theorem iG{h:AB}(H:HR A β w h){ρ:List Nat}(hf: ∀id,ρ<:+id→β id=none){e:Nat→AV}{a:Act}(he:Iv β w (MS A β h) e fun t=>a.tmps.getD t Go.undef){o:Oper}{op:Op}(hop:o.op=op){eff:Bz}
 (ho:evalOp (Bf P mix) e h.get ρ op=some eff):DK A ρ β w h ((execOp a.eval o).run P w) eff:=by
 have E:=fun x=>Ha he x;cases op<;>simp only[evalOp,reduceCtorEq,Option.some.injEq]at ho<;>simp only[execOp,hop]
 case move x=>subst ho;exact .plain H (v:=a.eval x) rfl rfl (E x)
 case assign x=>subst ho;exact .plain H (v:=a.eval x) rfl rfl (E x)
 case pick c x y=>exact yo H (E c) (E x) (E y) ho
 case alloc t=>exact oh H hf ho
 case box t x=>exact fw H hf (E x) ho
 case build t ps=>exact pD H he ho
 case buildSlice t n ps=>exact Sc H hf he ho
 case insert t m k v=>exact Tk H (E m) (E k) (E v) ho
 case load t x=>exact xF H (E x) ho
 case store t x v=>exact tq H (E x) (E v) ho
 case nilCheck x=>
  obtain⟨⟨ad,had⟩,hok⟩:=YK (ρ:=ρ) H (E x) ho;rw[had]at hok⊢;exact hok
 case binOp op t x y yt=>
  simp only[Option.map_eq_some_iff]at ho;obtain⟨r,hr,rfl⟩:=ho;exact vJ H (E x) (E y) x y hr
 case unOp op t x=>exact ABL H (E x) ho
 case makeInterface t x=>exact rE H (E x) ho
 case makeFunc f x y=>exact X8 H he ho
 case makeMap t r=>exact bW H hf ho
 case makeSlice t l c=>exact VW H hf (E l) (E c) ho
 case slice t x lo hi mx=>exact ZH H (E x) (fX.map he lo) (fX.map he hi) (fX.map he mx) ho
 case fieldAddr t x k=>exact VB H (E x) ho
 case field t x k=>exact qH H (E x) ho
 case indexAddr t x i=>exact VJ H (E x) (E i) ho
 case index t x i=>exact rH H (E x) (E i) ho
 case lookup t m k ok=>exact kU H (E m) (E k) ho
 case mapUpdate t m k v=>exact Tk H (E m) (E k) (E v) ho
 case typeAssert x xt t ok=>
  cases ok with
  |true=>exact fk H (E x) ho
  |false=>cases ho
 case extract x k=>exact Z8 H (E x) ho
 case call c=>exact vL H hf he ho
end Go.Abs
namespace Go.Abs
variable{P:Program}{mix:List TypeId}{g g':G}
theorem Js{vs:List AV}{x:AV}{id:Id}(hx:x∈vs)(hi:id∈AE x):id∈Al vs:=by
 induction vs with
 |nil=>cases hx
 |cons v vs ih=>
  simp only[Al,List.mem_append];rcases List.mem_cons.1 hx with rfl|hx
  .exact .inl hi
  .exact .inr (ih hx)
theorem LF{vs:List AV}{id:Id}(h:id∈Al vs): ∃x∈vs,id∈AE x:=by
 induction vs with
 |nil=>simp[Al]at h
 |cons v vs ih=>
  simp only[Al,List.mem_append]at h;rcases h with h|h
  .exact⟨v,by simp,h⟩
  .obtain⟨x,hx,h⟩:=ih h;exact⟨x,by simp[hx],h⟩
theorem Tb(v:AV)(id:Id):id∈Al v.cells↔id∈AE v:=by
 cases v<;>simp[AV.cells,Al,AE]
def At(g g':G)(l:List Id):Prop:= ∀id∈l,g id=g' id
theorem At.mono{l m:List Id}(h:At g g' l)(hs: ∀id∈m,id∈l):At g g' m:=fun id hi=>h id (hs id hi)
theorem Q2{v:AV}(h:At g g' (AE v)):Ea g v=Ea g' v:=by
 cases v<;>try rfl
 rename_i id off n;simp only[Ea,h id (by simp[AE])]
theorem YA{v:AV}(h:At g g' (AE v)):JI g v=JI g' v:=by
 cases v<;>try rfl
 rename_i id off n;simp only[JI,h id (by simp[AE])]
theorem PQ{vs:List AV}(h:At g g' (Al vs)):Cb g vs=Cb g' vs:=by
 induction vs with
 |nil=>rfl
 |cons v vs ih=>
  simp only[Cb,Q2 (v:=v) (h.mono fun id hi=>Js (by simp) hi),ih (h.mono fun id hi=>by simp[Al,hi])]
theorem Nr{vs:List AV}(h:At g g' (Al vs)):Bd g vs=Bd g' vs:=by
 induction vs with
 |nil=>rfl
 |cons v vs ih=>
  simp only[Bd,List.flatMap_cons]at ih⊢;rw[YA (v:=v) (h.mono fun id hi=>Js (by simp) hi),ih (h.mono fun id hi=>by simp[Al,hi])]
theorem JE{es:List (List AV)}(h:At g g' (es.flatMap Al)):Cj g es=Cj g' es:=by
 induction es with
 |nil=>rfl
 |cons v vs ih=>
  simp only[Cj,PQ (vs:=v) (h.mono fun id hi=>by simp[hi]),ih (h.mono fun id hi=>by simp only[List.flatMap_cons,List.mem_append];exact .inr hi)]
theorem KN{es:List (List AV)}(h:At g g' (es.flatMap Al)):es.flatMap (Bd g)=es.flatMap (Bd g'):=by
 induction es with
 |nil=>rfl
 |cons v vs ih=>
  simp only[List.flatMap_cons,Nr (vs:=v) (h.mono fun id hi=>by simp[hi]),ih (h.mono fun id hi=>by simp only[List.flatMap_cons,List.mem_append];exact .inr hi)]
theorem X5{i:TI}{a:AV}(h:At g g' (AE a)):IY g i a=IY g' i a:=by
 cases a<;>try rfl
 .rename_i id off;simp only[IY,h id (by simp[AE])]
 .rename_i id k off;simp only[IY,h id (by simp[AE])]
theorem Vp{i:TI}{a v:AV}(h:At g g' (AE a))(hv:At g g' (AE v)):Im g i a v=Im g' i a v:=by
 have hc:At g g' (Al v.cells):=hv.mono fun id hi=>(Tb v id).1 hi;unfold Im;cases a<;>try rfl
 .rename_i id off;simp only[h id (by simp[AE])]
 .rename_i id k off;simp only[h id (by simp[AE]),PQ hc,Nr hc]
theorem Hl{n:Id}{j:TI}{es:List (List AV)}(h:At g g' (es.flatMap Al)):newArr g n j es=newArr g' n j es:=by
 simp only[newArr,JE h,KN h]
theorem U5{x:AV}(h:At g g' (AE x)):DN g x=DN g' x:=by
 cases x
 case osl id off n=>simp only[DN,h id (by simp[AE])]
 case d y=>cases y<;>rfl
 all_goals rfl
theorem WO{n id:Id}{off k sz:Nat}{es:List (List AW)}{src:List (List AV)}(h:At g g' (src.flatMap Al)):appIn g n id off k sz es src=appIn g' n id off k sz es src:=by
 simp only[appIn,JE h,KN h]
theorem WU{n:Id}{j:TI}{s:AV}{src:List (List AV)}(hs:At g g' (AE s))(h:At g g' (src.flatMap Al)):appTo g n j s src=appTo g' n j s src:=by
 cases s
 case nils=>exact Hl h
 case emp=>exact Hl h
 case osl id off k=>simp only[appTo,hs id (by simp[AE]),WO h]
 all_goals rfl
theorem Mi(l:List AW):Al (l.map .d)=[]:=by
 induction l with
 |nil=>rfl
 |cons x l ih=>simp[Al,AE,ih]
theorem aQ(es:List (List AW)):(es.map (·.map AV.d)).flatMap Al=[]:=by
 induction es with
 |nil=>rfl
 |cons x l ih=>simp[Mi]
theorem xQ{α:Type}{l r:List α}{off n:Nat}(h:Iw l off n=some r){x:α}(hx:x∈r):x∈l:=by
 unfold Iw at h;split at h
 .cases h;exact List.mem_of_mem_drop (List.mem_of_mem_take hx)
 .cases h
theorem hQ{x:AV}{src:List (List AV)}(h:DN g x=some src): ∀id∈src.flatMap Al,id∈CX g (AE x):=by
 intro id hid;unfold DN at h;split at h
 .cases h;rw[aQ]at hid;cases hid
 .cases h;cases hid
 .cases h;cases hid
 .rename_i i off n;obtain⟨e,he,hie⟩:=List.mem_flatMap.1 hid;cases hg:NF (g i)with
  |none=>rw[hg]at h;cases h
  |some es=>
   rw[hg]at h;have he':=xQ h he;unfold NF at hg;split at hg
   .cases hg;obtain⟨y,_,rfl⟩:=List.mem_map.1 he';rw[Mi]at hie;cases hie
   .cases hg;obtain⟨y,_,rfl⟩:=List.mem_map.1 he';rw[Mi]at hie;cases hie
   .rename_i sz es' hgi;cases hg;refine List.mem_append_right _ (List.mem_flatMap.2 ⟨i,by simp[AE],?_⟩);simp only[hgi];exact List.mem_flatMap.2 ⟨e,he',hie⟩
   .cases hg
 .cases h
theorem SY{n:Id}{j:TI}{s x:AV}(hs:At g g' (AE s))(hx:At g g' (CX g (AE x))):appendV g n j s x=appendV g' n j s x:=by
 have he:=U5 (hx.mono fun id hi=>List.mem_append_left _ hi);unfold appendV;rw[←he];cases h:DN g x with
 |none=>rfl
 |some src=>
  have h2:appTo g n j s src=appTo g' n j s src:=WU hs (hx.mono fun id hi=>hQ h id hi);cases src with
  |nil=>rfl
  |cons a l=>simp only[h2]
theorem bO{k:TK}{x:AV}(h:At g g' (AE x)):VS g k x=VS g' k x:=by
 cases x
 case mp id=>cases k<;>simp only[VS,h id (by simp[AE])]
 case d y=>cases y<;>cases k<;>rfl
 all_goals (cases k<;>rfl)
theorem Nq{T:TypeId→Option TI}{t:Option TI}{m k v:AV}(h:At g g' (AE m)):mapPut T g t m k v=mapPut T g' t m k v:=by
 unfold mapPut;cases m
 case mp id=>
  have e:=h id (by simp[AE]);cases Kr k<;>simp only[e]
 all_goals rfl
theorem Re{T:TypeId→Option TI}{m k:AV}{ok:Bool}{t:Option TI}(h:At g g' (AE m)):Ee T g m k ok t=Ee T g' m k ok t:=by
 unfold Ee;cases t with
 |none=>rfl
 |some i=>
  cases m
  case mp id=>
   have e:=h id (by simp[AE]);obtain⟨kind,size,agg,str,zero,flds,elem,key,mx⟩:=i;simp only;generalize Kr k=d;generalize T key=tk;cases d<;>cases kind<;>cases tk<;>first|rfl|simp only[e]
  all_goals rfl
theorem Xw{n:Int}{x:AV}{j:TI}(h:At g g' (AE x)):MQ g n x j=MQ g' n x j:=by
 unfold MQ;cases x
 case osl id off n=>simp only[h id (by simp[AE])]
 case d y=>cases y<;>rfl
 all_goals rfl
theorem Nz{T:TypeId→Option TI}{x i:AV}{t:Option TI}(h:At g g' (AE x)):Cl T g x i t=Cl T g' x i t:=by
 unfold Cl;simp only[Xw h]
theorem Vn{sz:Nat}{id:Id}{off:Nat}{b:Option (Nat×Nat×Option Nat)}(h:g id=g' id):M3 g sz id off b=M3 g' sz id off b:=by
 unfold M3;simp only[h]
theorem Vo{k:TK}{sz:Nat}{x:AV}{lo hi mx:Option AV}(h:At g g' (AE x)):EN g k sz x lo hi mx=EN g' k sz x lo hi mx:=by
 cases x
 case osl id off n=>cases k<;>simp only[EN,Vn (h id (by simp[AE]))]
 case d y=>cases y<;>cases k<;>rfl
 all_goals (cases k<;>rfl)
theorem Sm{T:TypeId→Option TI}{x:AV}{lo hi mx:Option AV}{t:Option TI}(h:At g g' (AE x)):G0 T g x lo hi mx t=G0 T g' x lo hi mx t:=by
 unfold G0;simp only[Vo h]
theorem Sl{T:TypeId→Option TI}{x:AV}{t:Option TI}(h:At g g' (AE x)):FK T g t x=FK T g' t x:=by
 unfold FK;cases t with
 |none=>rfl
 |some i=>
  obtain⟨kind,size,agg,str,zero,flds,elem,key,mx⟩:=i;simp only;cases x
  case osl id off n=>
   have e:=h id (by simp[AE]);cases kind
   case slice=>simp only[Gr,e]
   all_goals rfl
  all_goals (cases kind<;>rfl)
theorem uj(z:Value):Al (z.cells.toList.map C1)=[]:=by
 generalize z.cells.toList=l;induction l with
 |nil=>rfl
 |cons v l ih=>
  simp only[List.map_cons,Al,ih,List.append_nil];unfold C1;split<;>rfl
theorem fU{t:TypeId}{i:TI}(h:Bf P mix t=some i):Al i.zero=[]:=by
 obtain⟨info,d,z,h1,h2,h3,h4,rfl⟩:=Ax h;exact uj z
theorem yr{n:Nat}{l:List AV}(h:Al l=[]):(List.replicate n l).flatMap Al=[]:=by
 induction n with
 |zero=>rfl
 |succ n ih=>simp[List.replicate_succ,h]
theorem Sk{n:Id}{k:Nat}{t:TypeId}{j:TI}(h:Bf P mix t=some j):FJ g n k j=FJ g' n k j:=by
 unfold FJ;cases k with
 |zero=>rfl
 |succ k=>exact Hl (by rw[yr (fU h)];intro id hi;cases hi)
theorem dv{α:Type}{l r new:List α}{off:Nat}(h:Bm l off new=some r){x:α}(hx:x∈r):x∈l∨x∈new:=by
 unfold Bm at h;split at h
 .cases h;simp only[List.mem_append]at hx;rcases hx with(hx|hx)|hx
  .exact .inl (List.mem_of_mem_take hx)
  .exact .inr hx
  .exact .inl (List.mem_of_mem_drop hx)
 .cases h
theorem MN{pl:Nat→Option (Nat×Nat)}: ∀{ps:List (Nat×AV)} {cs r:List AV},CQ pl cs ps=some r→ ∀x∈r,x∈cs∨ ∃p∈ps,x∈p.2.cells
 |[],cs,r,h,x,hx=>by simp only[CQ,Option.some.injEq]at h;subst h;exact .inl hx
 |(i,v)::ps,cs,r,h,x,hx=>by
  simp only[CQ]at h;split at h
  .split at h
   .cases hs:Bm cs _ v.cells with
    |none=>rw[hs]at h;cases h
    |some cs'=>
     rw[hs]at h;rcases MN h x hx with h1|⟨p,hp,h1⟩
     .rcases dv hs h1 with h2|h2
      .exact .inl h2
      .exact .inr ⟨(i,v),by simp,h2⟩
     .exact .inr ⟨p,by simp[hp],h1⟩
   .cases h
  .cases h
theorem Qb{α:Type}{sz:Nat}: ∀{n:Nat} {l:List α} {c:List α},c∈Fx sz n l→ ∀x∈c,x∈l
 |0,_,_,h,_,_=>by cases h
 |n+1,l,c,h,x,hx=>by
  simp only[Fx,List.mem_cons]at h;rcases h with rfl|h
  .exact List.mem_of_mem_take hx
  .exact List.mem_of_mem_drop (Qb h x hx)
theorem QW{nw:Id}{n:Nat}{ps:List (Nat×AV)}{t:TypeId}{j:TI}(ht:Bf P mix t=some j)(h:At g g' (ps.flatMap fun p=>AE p.2)):Ft g nw n ps j=Ft g' nw n ps j:=by
 unfold Ft;cases hf:CQ (fun k=>some (k*j.size,j.size)) ((List.replicate n j.zero).flatten) ps with
 |none=>rfl
 |some cs=>
  have:newArr g nw j (Fx j.size n cs)=newArr g' nw j (Fx j.size n cs):=by
   refine Hl fun id hi=>?_;obtain⟨c,hc,hi⟩:=List.mem_flatMap.1 hi;obtain⟨x,hx,hi⟩:=LF hi;rcases MN hf x (Qb hc x hx)with h1|⟨p,hp,h1⟩
   .obtain⟨l,hl,hx⟩:=List.mem_flatten.1 h1;rw[List.eq_of_mem_replicate hl]at hx;have:=Js hx hi;rw[fU ht]at this;cases this
   .exact h id (List.mem_flatMap.2 ⟨p,hp,(Tb _ _).1 (Js h1 hi)⟩)
  cases n with
  |zero=>rfl
  |succ n=>simp only[this]
theorem Mv{nw:Id}{n:Nat}{ps:List (Nat×AV)}{t:Option TI}(h:At g g' (ps.flatMap fun p=>AE p.2)):CN (Bf P mix) g nw n ps t=CN (Bf P mix) g' nw n ps t:=by
 unfold CN;cases t with
 |none=>rfl
 |some i=>
  obtain⟨kind,size,agg,str,zero,flds,elem,key,mx⟩:=i;simp only;cases hj:Bf P mix elem with
  |none=>cases kind<;>rfl
  |some j=>cases kind<;>first|rfl|simp only[QW hj h]
theorem N0{nw:Id}{l c:AV}{t:Option TI}:CW (Bf P mix) g nw l c t=CW (Bf P mix) g' nw l c t:=by
 unfold CW;cases t with
 |none=>rfl
 |some i=>
  obtain⟨kind,size,agg,str,zero,flds,elem,key,mx⟩:=i;simp only;cases hj:Bf P mix elem with
  |none=>cases kind<;>rfl
  |some j=>
   cases kind
   case slice=>
    cases l<;>try rfl
    rename_i x;cases x<;>try rfl
    cases c<;>try rfl
    rename_i y;cases y<;>try rfl
    simp only[Sk hj (g:=g) (g':=g')]
   all_goals rfl
theorem Rb{nw:Id}{T:TypeId→Option TI}{t u:Option TI}{s x:AV}(hs:At g g' (AE s))(hx:At g g' (CX g (AE x))):HC T g nw t u s x=HC T g' nw t u s x:=by
 unfold HC;simp only[SY hs hx]
def Jd(e e':Nat→AV)(op:Op):Prop:= ∀x∈op.operands,ev e x=ev e' x
theorem NG{e:Nat→AV}{op:Op}(h:At g g' (Dh e op)){x:Operand}(hx:x∈op.operands):At g g' (AE (ev e x)):=
 h.mono fun _ hi=>List.mem_flatMap.2 ⟨x,by simpa using hx,hi⟩
theorem MM{e e':Nat→AV}{ps:Array (Nat×Operand)}(h: ∀p∈ps,ev e p.2=ev e' p.2):Di e ps=Di e' ps:=by
 unfold Di;exact List.map_congr_left fun p hp=>by rw[h p (by simpa using hp)]
theorem Mo{e e':Nat→AV}{x:Option Operand}(h: ∀y∈x,ev e y=ev e' y):x.map (ev e)=x.map (ev e'):=by
 cases x with
 |none=>rfl
 |some y=>simp[h y rfl]
theorem Ec{e e':Nat→AV}{x:Array Operand}(h: ∀y∈x,ev e y=ev e' y):x.toList.map (ev e)=x.toList.map (ev e'):=
 List.map_congr_left fun y hy=>h y (by simpa using hy)
theorem U9{e e':Nat→AV}{n:Id}{op:Op}(he:Jd e e' op)(h:At g g' (FC e g op)):evalOp (Bf P mix) e g n op=evalOp (Bf P mix) e' g' n op:=by
 cases op<;>try rfl
 case move x=>simp only[evalOp,he x (by simp[Op.operands])]
 case assign x=>simp only[evalOp,he x (by simp[Op.operands])]
 case pick c a b=>simp only[evalOp,he c (by simp[Op.operands]),he a (by simp[Op.operands]),he b (by simp[Op.operands])]
 case box t x=>simp only[evalOp,he x (by simp[Op.operands])]
 case build t ps=>
  simp only[evalOp];rw[MM fun p hp=>he p.2 (by simp[Op.operands];exact⟨p.1,hp⟩)]
 case buildSlice t k ps=>
  have hp: ∀p∈ps,p.2∈(Op.buildSlice t k ps).operands:=fun p hp=>by simp[Op.operands];exact⟨p.1,hp⟩
  simp only[evalOp];rw[MM fun p hp'=>he p.2 (hp p hp')];refine Mv fun id hi=>?_;obtain⟨q,hq,hi⟩:=List.mem_flatMap.1 hi;obtain⟨p,hp',rfl⟩:=List.mem_map.1 hq;rw[←he p.2 (hp p (by simpa using hp'))]at hi;exact NG h (hp p (by simpa using hp')) id hi
 case insert t m k v=>
  simp only[evalOp];rw[←he m (by simp[Op.operands]),←he k (by simp[Op.operands]),←he v (by simp[Op.operands])];exact Nq (NG h (by simp[Op.operands]))
 case load t x=>
  simp only[evalOp];rw[←he x (by simp[Op.operands])];cases ht:Bf P mix t with
  |none=>rfl
  |some i=>simp only[KR,X5 (NG h (x:=x) (by simp[Op.operands]))]
 case store t a x=>
  simp only[evalOp];rw[←he a (by simp[Op.operands]),←he x (by simp[Op.operands])];cases ht:Bf P mix t with
  |none=>rfl
  |some i=>simp only[Ho,Vp (NG h (x:=a) (by simp[Op.operands])) (NG h (x:=x) (by simp[Op.operands]))]
 case nilCheck x=>simp only[evalOp,he x (by simp[Op.operands])]
 case binOp op t x y yt=>simp only[evalOp,he x (by simp[Op.operands]),he y (by simp[Op.operands])]
 case unOp op t x=>simp only[evalOp,he x (by simp[Op.operands])]
 case makeInterface t x=>simp only[evalOp,he x (by simp[Op.operands])]
 case makeFunc f x y=>
  simp only[evalOp];rw[Ec (e:=e) (e':=e') (x:=x) fun z hz=>he z (by simp[Op.operands,hz]),Ec (e:=e) (e':=e') (x:=y) fun z hz=>he z (by simp[Op.operands,hz])]
 case makeSlice t l c=>
  simp only[evalOp];rw[he l (by simp[Op.operands]),he c (by simp[Op.operands])];exact N0
 case slice t x lo hi mx=>
  simp only[evalOp];rw[←he x (by simp[Op.operands]),Mo (e:=e) (e':=e') (x:=lo) fun z hz=>he z (by simp[Op.operands]at hz⊢;simp[hz]),
   Mo (e:=e) (e':=e') (x:=hi) fun z hz=>he z (by simp[Op.operands]at hz⊢;simp[hz]),Mo (e:=e) (e':=e') (x:=mx) fun z hz=>he z (by simp[Op.operands]at hz⊢;simp[hz])]
  exact Sm (NG h (by simp[Op.operands]))
 case fieldAddr t x k=>simp only[evalOp,he x (by simp[Op.operands])]
 case field t x k=>simp only[evalOp,he x (by simp[Op.operands])]
 case indexAddr t x i=>
  simp only[evalOp];rw[←he x (by simp[Op.operands]),←he i (by simp[Op.operands])];exact Nz (NG h (by simp[Op.operands]))
 case index t x i=>simp only[evalOp,he x (by simp[Op.operands]),he i (by simp[Op.operands])]
 case lookup t m k ok=>
  simp only[evalOp];rw[←he m (by simp[Op.operands]),←he k (by simp[Op.operands])];exact Re (NG h (by simp[Op.operands]))
 case mapUpdate t m k v=>
  simp only[evalOp];rw[←he m (by simp[Op.operands]),←he k (by simp[Op.operands]),←he v (by simp[Op.operands])];exact Nq (NG h (by simp[Op.operands]))
 case typeAssert x xt t ok=>
  simp only[evalOp,he x (by simp[Op.operands])]
 case extract x k=>simp only[evalOp,he x (by simp[Op.operands])]
 case call c=>
  obtain⟨callee,args,ats⟩:=c;simp only[evalOp,JZ];cases callee with
  |value f=>rfl
  |invoke r m=>rfl
  |builtin b=>
   simp only;have ha: ∀x∈args,x∈(Op.call ⟨.builtin b,args,ats⟩).operands:=fun x hx=>by simp[Op.operands,Call.operands,hx]
   rw[←Ec fun x hx=>he x (ha x hx)];have hids: ∀x,x∈args.toList.map (ev e)→ ∀id∈AE x,id∈Dh e (Op.call ⟨.builtin b,args,ats⟩):=by
    intro x hx id hi;obtain⟨y,hy,rfl⟩:=List.mem_map.1 hx;exact List.mem_flatMap.2 ⟨y,by simpa using ha y (by simpa using hy),hi⟩
   generalize args.toList.map (ev e)=as at hids;unfold Ff;cases b<;>try rfl
   .simp only[FC]at h;have h1: ∀x∈as,At g g' (AE x):=fun x hx=>h.mono fun id hi=>List.mem_append_left _ (hids x hx id hi);have h2: ∀x∈as,At g g' (CX g (AE x)):=fun x hx=>h.mono fun id hi=>by
     rcases List.mem_append.1 hi with hi|hi
     .exact List.mem_append_left _ (hids x hx id hi)
     .obtain⟨i,h3,h4⟩:=List.mem_flatMap.1 hi;exact List.mem_append_right _ (List.mem_flatMap.2 ⟨i,hids x hx i h3,h4⟩)
    match as,ats.toList with
    |[],_=>rfl
    |[_],_=>rfl
    |[s,x],[t,u]=>exact Rb (h1 s (by simp)) (h2 x (by simp))
    |[_,_],[]=>rfl
    |[_,_],[_]=>rfl
    |[_,_],_::_::_::_=>rfl
    |_::_::_::_,_=>rfl
   .simp only[FC]at h;have h1: ∀x∈as,At g g' (AE x):=fun x hx=>h.mono fun id hi=>hids x hx id hi
    match as,ats.toList with
    |[],_=>rfl
    |[x],[]=>rfl
    |[x],[t]=>exact Sl (h1 x (by simp))
    |[x],_::_::_=>rfl
    |_::_::_,_=>rfl
   .simp only[FC]at h;have h1: ∀x∈as,At g g' (AE x):=fun x hx=>h.mono fun id hi=>hids x hx id hi
    match as,ats.toList with
    |[],_=>rfl
    |[x],[]=>rfl
    |[x],[t]=>
     simp only;cases ht:Bf P mix t with
     |none=>rfl
     |some i=>simp only[bO (h1 x (by simp))]
    |[x],_::_::_=>rfl
    |_::_::_,_=>rfl
end Go.Abs
