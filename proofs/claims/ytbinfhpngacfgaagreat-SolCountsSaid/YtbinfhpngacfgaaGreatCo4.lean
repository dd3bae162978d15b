/-
  Parts: EngO12 EngP EngL.
-/
import Derived.MapKept
import Derived.Test.YtbinfhpngacfgaaGreatCo3
set_option linter.all false
set_option linter.unusedSimpArgs false
set_option linter.unusedVariables false
namespace Go.Abs
variable{A:Nat→Prop}{P:Program}{mix:List TypeId}{β:AW}{w:World}{M:Nat→Prop}
theorem GG{r:Nat}{o:Go.Obj}(h:w.heap[r]? =some o)(hc: ∀c e f,o≠ .cells c e f):(getObj r).run P w=.ok o w:=by
 cases o<;>first|exact absurd rfl (hc _ _ _)|simp only[getObj,Sem.run,h]
theorem E5{r:Nat}{o o':Go.Obj}(h:w.heap[r]? =some o)(hc: ∀c e f,o≠ .cells c e f):(setObj r o').run P w=.ok () (World.upd w r o'):=by
 cases o<;>first|exact absurd rfl (hc _ _ _)|(simp only[setObj,Sem.run,h];rfl)
theorem PT{t:TypeId}{d:TypeDesc}(h2:P.underlying t=some d){x:AN}(hk:Gl (Bs P t d) x=true){v:Value}(hv:DR w M x v):
 (∀b n,(Instr.checkKey b (n+1) t v).run P w=.ok () w)∧ ∀{y:AN} {u:Value} {r:Bool},DR w M y u→Er y x=some r→Instr.sameNow d v u=some r:=by
 cases x<;>cases hkd:Bs P t d<;>simp[Gl,hkd]at hk
 .obtain⟨k,rfl⟩:=gX hkd;cases hv;refine⟨fun b n=>by simp[Instr.checkKey,run_underlying h2],fun{y u r} hu he=>?_⟩;cases y<;>simp[Er]at he;obtain⟨rfl,rfl⟩:=he;cases hu;simp[Instr.sameNow,Bool.beq_comm]
 .have:=O6 hkd;subst this;cases hv;refine⟨fun b n=>by simp[Instr.checkKey,run_underlying h2],fun{y u r} hu he=>?_⟩;cases y<;>simp[Er]at he;subst he;cases hu;simp[Instr.sameNow,Bool.beq_comm]
 .have:=Ip hkd;subst this;cases hv;refine⟨fun b n=>by simp[Instr.checkKey,run_underlying h2],fun{y u r} hu he=>?_⟩;cases y<;>simp[Er]at he;subst he;cases hu;simp only[Instr.sameNow,Option.some.injEq];rw[beq_toListBytes,beq_toListBytes,Bool.beq_comm]
theorem PX{t:TypeId}{d:TypeDesc}(h2:P.underlying t=some d){x:AN}(hk:Gl (Bs P t d) x=true){v:Value}(hv:DR w M x v): ∀(es:List (AN×AV)) (en:List MapEntry) (i:Nat) (r:Option AV),
 es.length=en.length→(∀(j:Nat) p e,es[j]? =some p→en[j]? =some e→DR w M p.1 e.key∧VR β w M p.2 e.val)→B4 es x=some r→
 (r=none∧Instr.findNow d v en i=some none∧ ∀y,C2 es x y=es++[(x,y)])∨
 (∃av j p e,r=some av∧es[j]? =some p∧en[j]? =some e∧p.2=av∧Instr.findNow d v en i=some (some (i+j,e.val))∧Er p.1 x=some true∧ ∀y,C2 es x y=es.set j (p.1,y))
 |[],en,i,r,hl,_,hg=>by
  have:en=[]:=List.length_eq_zero_iff.1 hl.symm;subst this;simp only[B4,Option.some.injEq]at hg;exact .inl ⟨hg.symm,rfl,fun _=>rfl⟩
 |(k,u)::es,en,i,r,hl,hr,hg=>by
  cases en with
  |nil=>simp at hl
  |cons e en=>
   obtain⟨h0,h0'⟩:=hr 0 (k,u) e rfl rfl;simp only[B4]at hg;split at hg
   .rename_i heq;cases hg;have hs:=(PT h2 hk hv).2 h0 heq;exact .inr ⟨u,0,(k,u),e,rfl,rfl,rfl,rfl,by simp[Instr.findNow,hs],heq,fun y=>by simp[C2,heq]⟩
   .rename_i heq;have hs:=(PT h2 hk hv).2 h0 heq;rcases PX h2 hk hv es en (i+1) r (by simpa using hl) (fun j p e hp he=>hr (j+1) p e (by simpa using hp) (by simpa using he)) hg with⟨a,b,c⟩|⟨av,j,p,e',a,b1,b2,b3,c,dq,f⟩
    .exact .inl ⟨a,by simp[Instr.findNow,hs,b],fun y=>by simp[C2,heq,c]⟩
    .exact .inr ⟨av,j+1,p,e',a,by simpa using b1,by simpa using b2,b3,by simp[Instr.findNow,hs,c];omega,dq,fun y=>by simp[C2,heq,f]⟩
   .cases hg
theorem Xo{h:AB}(H:HR A β w h){ρ:List Nat}{t:TypeId}{m k:AV}{vm vk:Value}{ok:Bool}(hm:VR β w (MS A β h) m vm)(hk:VR β w (MS A β h) k vk){eff:Bf}
 (ho:Da (BL P mix) h.get m k ok (BL P mix t)=some eff):Ce A ρ β w h ((do pure (.value (←Instr.lookup t vm vk ok)):Sem Next).run P w) eff:=by
 cases ht:BL P mix t with
 |none=>simp[Da,ht]at ho
 |some i=>
  obtain⟨info,d,z,h1,h2,h3,_,rfl⟩:=Ag ht;simp only[Da,ht]at ho;split at ho
  .rename_i id x kt hdat hkind hkt;obtain⟨ke,el,rfl⟩:=NK hkind;simp only[QC]at hkt;obtain⟨ki,kd,kz,k1,k2,k3,_,hke⟩:=Ag hkt;split at ho
   .rename_i es hkey hg;have hkk:kt.kind=Bs P ke kd:=by rw[hke]
    rw[hkk]at hkey;split at ho
    .rename_i r j hget hj;simp only[Fi]at hj;obtain⟨ji,jd,jz,j1,j2,j3,⟨_,_,jzs,jza⟩,hje⟩:=Ag hj;have hxk:DR w (MS A β h) x vk:=by
      unfold IR at hdat;split at hdat
      .cases hdat;cases hk with|d hd=>exact hd
      .cases hdat
     obtain⟨kb,hkb,en,cl,q1,q2,q3⟩:=H.obj id _ hg;cases hm with
     |mp _ k' hk'=>
      rw[hkb]at hk';cases hk';have hgo:=GG (P:=P) q1 (by simp);have hck:=fun b=>(PT (P:=P) (w:=w) (M:=MS A β h) k2 hkey hxk).1 b 9999;have hmk: ∀(ag:Bool),Hz jd=ag→True:=fun _ _=>trivial;unfold HO at ho;have hzero: ∀zz,Dq j.agg j.zero=some zz→VR β w (MS A β h) zz jz:=fun zz hz=>by
       rw[hje]at hz;exact Sa jza hz
      have two: ∀{a:AV} {u:Value} {b:Bool},VR β w (MS A β h) a u→VR β w (MS A β h) (.tup [a,.d (.bool b)]) (.tuple #[u,.bool b]):=by
       intro a u b hu;refine .tup _ _ rfl fun i x v hx hv=>?_
       match i with
       |0=>simp at hx hv;subst hx hv;exact hu
       |1=>simp at hx hv;subst hx hv;exact .d (.bool _)
       |i+2=>simp at hx
      rcases PX (β:=β) k2 hkey hxk es en.toList 0 r (by simpa using q2) (fun a p e hp he=>q3 a p e hp (by simpa using he)) hget with⟨rfl,b,_⟩|⟨av,jj,p,e,rfl,b1,b2,rfl,c,_⟩
      .split at ho
       .rename_i heq;cases heq
       .rename_i zz hz;cases ho;have hr:((do pure (.value (←Instr.lookup t (.map (some kb.b)) vk ok)):Sem Next).run P w)=.ok (.value (if ok then .tuple #[jz,.bool false]else jz)) w:=by
         simp[Instr.lookup,run_underlying h2,hgo,hck,Instr.findKey,run_underlying k2,b,CR j1 j3]
        cases ok
        .exact .plain H (v:=jz) (by rw[hr];rfl) rfl (hzero _ hz)
        .exact .plain H (v:=.tuple #[jz,.bool false]) (by rw[hr];rfl) rfl (two (hzero _ hz))
       .cases ho
      .have hval:VR β w (MS A β h) p.2 e.val:=(q3 jj p e b1 (by simpa using b2)).2;split at ho
       .rename_i heq;cases heq;cases ho;have hr:((do pure (.value (←Instr.lookup t (.map (some kb.b)) vk ok)):Sem Next).run P w)=.ok (.value (if ok then .tuple #[e.val,.bool true]else e.val)) w:=by
         simp[Instr.lookup,run_underlying h2,hgo,hck,Instr.findKey,run_underlying k2,c]
        cases ok
        .exact .plain H (v:=e.val) (by rw[hr];rfl) rfl hval
        .exact .plain H (v:=.tuple #[e.val,.bool true]) (by rw[hr];rfl) rfl (two hval)
       all_goals first
        |(rename_i hh _;exact(hh _ rfl).elim)
        |(rename_i heq _;cases heq)
        |cases ho
    .cases ho
   .cases ho
  .cases ho
theorem cg{a b:ByteArray}(h:(a==b)=true):a=b:=by
 rw[beq_toListBytes,ByteArray.toList_eq,ByteArray.toList_eq,beq_iff_eq]at h;obtain⟨⟨x⟩⟩:=a;obtain⟨⟨y⟩⟩:=b;simp at h;rw[h]
theorem cf{x y:AN}(h:Er y x=some true):y=x:=by
 cases y<;>cases x<;>simp[Er]at h
 .obtain⟨rfl,rfl⟩:=h;rfl
 .rw[h]
 .exact congrArg AN.str (cg h)
theorem Ri{x y:AN}{v u:Value}(hv:DR w M x v)(hu:DR w M y u)(h:Er y x=some true): ∀n,Instr.sameBits n u v=true:=by
 intro n;cases y<;>cases x<;>simp[Er]at h
 .obtain⟨rfl,rfl⟩:=h;cases hv;cases hu;simp[Instr.sameBits]
 .subst h;cases hv;cases hu;simp[Instr.sameBits]
 .cases hv;cases hu;simpa[Instr.sameBits]using h
theorem Om{h:AB}(H:HR A β w h){ρ:List Nat}{t:TypeId}{m k v:AV}{vm vk vv:Value}(hm:VR β w (MS A β h) m vm)(hk:VR β w (MS A β h) k vk)(hv:VR β w (MS A β h) v vv){eff:Bf}
 (ho:mapPut (BL P mix) h.get (BL P mix t) m k v=some eff):Ce A ρ β w h ((do Instr.mapUpdate t vm vk vv;pure .skip:Sem Next).run P w) eff:=by
 unfold mapPut at ho;split at ho
 .cases ho
 .rename_i hcond;split at ho
  .rename_i id x hdat;rw[hdat]at hcond;cases ht:BL P mix t with
   |none=>simp[ht]at hcond
   |some i=>
    obtain⟨info,d,z,h1,h2,h3,_,rfl⟩:=Ag ht;simp only[ht]at hcond;split at hcond
    .rename_i kt hkind hkt;obtain⟨ke,el,rfl⟩:=NK hkind;simp only[QC]at hkt;obtain⟨ki,kd,kz,k1,k2,k3,_,hke⟩:=Ag hkt;have hkk:kt.kind=Bs P ke kd:=by rw[hke]
     rw[hkk,Bool.and_eq_true]at hcond;obtain⟨hkey,_⟩:=hcond;split at ho
     .rename_i es hg;split at ho
      .rename_i r hget;cases ho;have hxk:DR w (MS A β h) x vk:=by
        unfold IR at hdat;split at hdat
        .cases hdat;cases hk with|d hd=>exact hd
        .cases hdat
       obtain⟨kb,hkb,en,cl,q1,q2,q3⟩:=H.obj id _ hg;cases hm with
       |mp _ k' hk'=>
        rw[hkb]at hk';cases hk';have hgo:=GG (P:=P) q1 (by simp);have hck:=fun b=>(PT (P:=P) (w:=w) (M:=MS A β h) k2 hkey hxk).1 b 9999;have done: ∀(es':List (AN×AV)) (en':Array MapEntry) (cl':Nat),C2 es x v=es'→es'.length=en'.size→
           (∀(M':Nat→Prop) (w':World),Cu A (MS A β h) w M' w'→ ∀(i:Nat) p e,es'[i]? =some p→en'[i]? =some e→DR w' M' p.1 e.key∧VR β w' M' p.2 e.val)→
           (Instr.mapUpdate t (.map (some kb.b)) vk vv).run P w=.ok () (World.upd w kb.b (.map en' cl'))→
           Ce A ρ β w h ((do Instr.mapUpdate t (.map (some kb.b)) vk vv;pure .skip:Sem Next).run P w) ⟨.undef,[(id,.map (C2 es x v))]⟩:=by
         intro es' en' cl' e1 e2 e3 e4;rw[e1];have hpr:=EV H (o':=.map es') hg rfl hkb (.map en' cl');refine .skip (w':=World.upd w kb.b (.map en' cl')) (by simp[e4]) rfl ?_ hpr (HM _ (List.mem_singleton.2 rfl) hkb);exact H.upd' hg rfl hkb ⟨en',cl',FD _ (AK q1),e2,e3 _ _ hpr⟩
        rcases PX (β:=β) k2 hkey hxk es en.toList 0 r (by simpa using q2) (fun a p e hp he=>q3 a p e hp (by simpa using he)) hget with⟨rfl,b,f⟩|⟨av,jj,p,e,rfl,b1,b2,rfl,c,dq,f⟩
        .refine done (es++[(x,v)]) (en.push {key:=vk,val:=vv,born:=cl}) (cl+1) (f v) (by simp[q2]) ?_ ?_
         .intro M' w' hp i p e hp' he;rw[Array.getElem?_push]at he;by_cases hi:i=en.size
          .subst hi;rw[List.getElem?_append_right (by omega)]at hp';simp[q2]at hp' he;subst hp' he;exact⟨hxk.mono hp,hv.mono (.refl β) hp⟩
          .rw[if_neg hi]at he;have hlt:i<es.length:=by rw[q2];exact(Array.getElem?_eq_some_iff.1 he).1
           rw[List.getElem?_append_left hlt]at hp';exact⟨(q3 i p e hp' he).1.mono hp,(q3 i p e hp' he).2.mono (.refl β) hp⟩
         .simp[Instr.mapUpdate,run_underlying h2,hgo,hck,Instr.findKey,run_underlying k2,b,E5 (P:=P) q1 (by simp)]
        .have hrel:=q3 jj p e b1 (by simpa using b2);have hje:en[jj]? =some e:=by simpa using b2
         have hsb:=Ri hxk hrel.1 dq 10000;refine done (es.set jj (p.1,v)) (en.modify jj fun e=>{e with key:=vk,val:=vv}) cl (f v) (by simp[q2]) ?_ ?_
         .intro M' w' hp i p' e' hp' he;rw[Array.getElem?_modify]at he;rw[List.getElem?_set]at hp';by_cases hi:jj=i
          .subst hi;rw[if_pos rfl,hje]at he;have hlt:jj<es.length:=(List.getElem?_eq_some_iff.1 b1).1;simp[hlt]at hp' he;subst hp' he;refine⟨?_,hv.mono (.refl β) hp⟩;have:=cf dq;rw[show p=(x,p.2)from Prod.ext this rfl];exact hxk.mono hp
          .rw[if_neg hi]at he hp';exact⟨(q3 i p' e' hp' he).1.mono hp,(q3 i p' e' hp' he).2.mono (.refl β) hp⟩
         .have hst:(Instr.keyThatStays (((en[0+jj]?).map (·.key)).getD vk) vk).run P w=.ok vk w:=by
           rw[Nat.zero_add,hje];simp[Instr.keyThatStays,hsb]
          simp only[Instr.mapUpdate,Sem.run_bind,run_underlying h2,Result.andThen_ok,hgo,hck,Instr.findKey,run_underlying k2,c,Sem.run_pure,hst,E5 (P:=P) q1 (by simp)];simp
      .cases ho
     .cases ho
    .cases hcond
  .cases ho
end Go.Abs
namespace Go.Abs
variable{A:Nat→Prop}{P:Program}{mix:List TypeId}{β:AW}{w:World}{M:Nat→Prop}
theorem lH{h:AB}(H:HR A β w h){ρ:List Nat}(hf: ∀id,ρ<:+id→β id=none){e:Nat→AV}{a:Act}(he:GP β w (MS A β h) e fun t=>a.tmps.getD t Go.undef){c:Call}{ty:TypeId}{eff:Bf}
 (ho:Gy (BL P mix) e h.get ρ c=some eff):Ce A ρ β w h ((do let d←resolve a.eval c ty;invoke d.target d.args:Sem Next).run P w) eff:=by
 have E:=fun x=>FZ he x;obtain⟨callee,args,ats⟩:=c;obtain⟨args⟩:=args;obtain⟨ats⟩:=ats;unfold Gy at ho;split at ho
 .rename_i b hb;simp only at hb;subst hb;simp only at ho;have hrun:((do let d←resolve a.eval ⟨.builtin b,⟨args⟩,⟨ats⟩⟩ ty;invoke d.target d.args:Sem Next).run P w)=
   (builtin b ⟨ats⟩ ty ((⟨args⟩:Array Operand).map fun|.const _=>true|_=>false) (⟨args.map a.eval⟩:Array Value)).run P w:=by
   simp[resolve,invoke];rfl
  rw[hrun];unfold ER at ho;split at ho
  .split at ho
   .rename_i x hx;split at ho
    .rename_i t;split at ho
     .rename_i i hi;simp only[Option.map_eq_some_iff]at ho;obtain⟨n,hn,rfl⟩:=ho
      match args,hx with
      |[ox],hx=>
       simp at hx;subst hx;have:=oc (ρ:=ρ) (ty:=ty) H (E ox) hi hn;simpa[builtin]using this
     .cases ho
    .cases ho
   .cases ho
  .split at ho
   .rename_i s x t u hx
    match args,hx with
    |[os,ox],hx=>
     simp at hx;obtain⟨rfl,rfl⟩:=hx;have:=PS (ty:=ty) H hf (E os) (E ox) ho;simpa[builtin]using this
   .cases ho
  .split at ho
   .rename_i x t hx
    match args,hx with
    |[ox],hx=>
     simp at hx;subst hx;have:=fX (ρ:=ρ) (ty:=ty) H (E ox) ho;simpa[builtin]using this
   .cases ho
  .split at ho
   .rename_i x y hx
    match args,hx with
    |[ox,oy],hx=>
     simp at hx;obtain⟨rfl,rfl⟩:=hx;have:=pg (ρ:=ρ) (P:=P) (ts:=⟨ats⟩) (ty:=ty) H (E ox) (E oy) ho;simpa[builtin]using this
   .cases ho
  .split at ho
   .rename_i x y hx
    match args,hx with
    |[ox,oy],hx=>
     simp at hx;obtain⟨rfl,rfl⟩:=hx;have:=pG (ρ:=ρ) (P:=P) (ts:=⟨ats⟩) (ty:=ty) H (E ox) (E oy) ho;simpa[builtin]using this
   .cases ho
  .cases ho
 .cases ho
theorem aM{h:AB}(H:HR A β w h){ρ:List Nat}(hf: ∀id,ρ<:+id→β id=none){e:Nat→AV}{a:Act}(he:GP β w (MS A β h) e fun t=>a.tmps.getD t Go.undef){o:Oper}{op:Op}(hop:o.op=op){eff:Bf}
 (ho:evalOp (BL P mix) e h.get ρ op=some eff):Ce A ρ β w h ((execOp a.eval o).run P w) eff:=by
 have E:=fun x=>FZ he x;cases op<;>simp only[evalOp,reduceCtorEq,Option.some.injEq]at ho<;>simp only[execOp,hop]
 case move x=>subst ho;exact .plain H (v:=a.eval x) rfl rfl (E x)
 case assign x=>subst ho;exact .plain H (v:=a.eval x) rfl rfl (E x)
 case pick c x y=>exact iR H (E c) (E x) (E y) ho
 case alloc t=>exact cn H hf ho
 case box t x=>exact Xg H hf (E x) ho
 case build t ps=>exact eZ H he ho
 case buildSlice t n ps=>exact N7 H hf he ho
 case insert t m k v=>exact Om H (E m) (E k) (E v) ho
 case load t x=>exact lP H (E x) ho
 case store t x v=>exact dT H (E x) (E v) ho
 case nilCheck x=>
  obtain⟨⟨ad,had⟩,hok⟩:=RI (ρ:=ρ) H (E x) ho;rw[had]at hok⊢;exact hok
 case binOp op t x y yt=>
  simp only[Option.map_eq_some_iff]at ho;obtain⟨r,hr,rfl⟩:=ho;exact kv H (E x) (E y) x y hr
 case unOp op t x=>exact oX H (E x) ho
 case makeInterface t x=>exact eh H (E x) ho
 case makeFunc f x y=>exact RS H he ho
 case makeMap t r=>exact WV H hf ho
 case makeSlice t l c=>exact Pb H hf (E l) (E c) ho
 case slice t x lo hi mx=>exact RY H (E x) (YL.map he lo) (YL.map he hi) (YL.map he mx) ho
 case fieldAddr t x k=>exact Pa H (E x) ho
 case field t x k=>exact cG H (E x) ho
 case indexAddr t x i=>exact Pm H (E x) (E i) ho
 case index t x i=>exact eu H (E x) (E i) ho
 case lookup t m k ok=>exact Xo H (E m) (E k) ho
 case mapUpdate t m k v=>exact Om H (E m) (E k) (E v) ho
 case typeAssert x xt t ok=>
  cases ok with
  |true=>exact an H (E x) ho
  |false=>cases ho
 case extract x k=>exact Vz H (E x) ho
 case call c=>exact lH H hf he ho
end Go.Abs
namespace Go.Abs
variable{P:Program}{mix:List TypeId}{g g':G}
theorem G0{vs:List AV}{x:AV}{id:Id}(hx:x∈vs)(hi:id∈AE x):id∈An vs:=by
 induction vs with
 |nil=>cases hx
 |cons v vs ih=>
  simp only[An,List.mem_append];rcases List.mem_cons.1 hx with rfl|hx
  .exact .inl hi
  .exact .inr (ih hx)
theorem IC{vs:List AV}{id:Id}(h:id∈An vs): ∃x∈vs,id∈AE x:=by
 induction vs with
 |nil=>simp[An]at h
 |cons v vs ih=>
  simp only[An,List.mem_append]at h;rcases h with h|h
  .exact⟨v,by simp,h⟩
  .obtain⟨x,hx,h⟩:=ih h;exact⟨x,by simp[hx],h⟩
theorem PE(v:AV)(id:Id):id∈An v.cells↔id∈AE v:=by
 cases v<;>simp[AV.cells,An,AE]
def At(g g':G)(l:List Id):Prop:= ∀id∈l,g id=g' id
theorem At.mono{l m:List Id}(h:At g g' l)(hs: ∀id∈m,id∈l):At g g' m:=fun id hi=>h id (hs id hi)
theorem Mi{v:AV}(h:At g g' (AE v)):D7 g v=D7 g' v:=by
 cases v<;>try rfl
 rename_i id off n;simp only[D7,h id (by simp[AE])]
theorem SJ{v:AV}(h:At g g' (AE v)):Gh g v=Gh g' v:=by
 cases v<;>try rfl
 rename_i id off n;simp only[Gh,h id (by simp[AE])]
theorem Ll{vs:List AV}(h:At g g' (An vs)):CK g vs=CK g' vs:=by
 induction vs with
 |nil=>rfl
 |cons v vs ih=>
  simp only[CK,Mi (v:=v) (h.mono fun id hi=>G0 (by simp) hi),ih (h.mono fun id hi=>by simp[An,hi])]
theorem KW{vs:List AV}(h:At g g' (An vs)):BJ g vs=BJ g' vs:=by
 induction vs with
 |nil=>rfl
 |cons v vs ih=>
  simp only[BJ,List.flatMap_cons]at ih⊢;rw[SJ (v:=v) (h.mono fun id hi=>G0 (by simp) hi),ih (h.mono fun id hi=>by simp[An,hi])]
theorem GS{es:List (List AV)}(h:At g g' (es.flatMap An)):CC g es=CC g' es:=by
 induction es with
 |nil=>rfl
 |cons v vs ih=>
  simp only[CC,Ll (vs:=v) (h.mono fun id hi=>by simp[hi]),ih (h.mono fun id hi=>by simp only[List.flatMap_cons,List.mem_append];exact .inr hi)]
theorem HV{es:List (List AV)}(h:At g g' (es.flatMap An)):es.flatMap (BJ g)=es.flatMap (BJ g'):=by
 induction es with
 |nil=>rfl
 |cons v vs ih=>
  simp only[List.flatMap_cons,KW (vs:=v) (h.mono fun id hi=>by simp[hi]),ih (h.mono fun id hi=>by simp only[List.flatMap_cons,List.mem_append];exact .inr hi)]
theorem RK{i:TI}{a:AV}(h:At g g' (AE a)):F4 g i a=F4 g' i a:=by
 cases a<;>try rfl
 .rename_i id off;simp only[F4,h id (by simp[AE])]
 .rename_i id k off;simp only[F4,h id (by simp[AE])]
theorem QF{i:TI}{a v:AV}(h:At g g' (AE a))(hv:At g g' (AE v)):F6 g i a v=F6 g' i a v:=by
 have hc:At g g' (An v.cells):=hv.mono fun id hi=>(PE v id).1 hi;unfold F6;cases a<;>try rfl
 .rename_i id off;simp only[h id (by simp[AE])]
 .rename_i id k off;simp only[h id (by simp[AE]),Ll hc,KW hc]
theorem Fb{n:Id}{j:TI}{es:List (List AV)}(h:At g g' (es.flatMap An)):newArr g n j es=newArr g' n j es:=by
 simp only[newArr,GS h,HV h]
theorem QI{x:AV}(h:At g g' (AE x)):Ch g x=Ch g' x:=by
 cases x
 case osl id off n=>simp only[Ch,h id (by simp[AE])]
 case d y=>cases y<;>rfl
 all_goals rfl
theorem Qo{n id:Id}{off k sz:Nat}{es:List (List AN)}{src:List (List AV)}(h:At g g' (src.flatMap An)):appIn g n id off k sz es src=appIn g' n id off k sz es src:=by
 simp only[appIn,GS h,HV h]
theorem Si{n:Id}{j:TI}{s:AV}{src:List (List AV)}(hs:At g g' (AE s))(h:At g g' (src.flatMap An)):appTo g n j s src=appTo g' n j s src:=by
 cases s
 case nils=>exact Fb h
 case emp=>exact Fb h
 case osl id off k=>simp only[appTo,hs id (by simp[AE]),Qo h]
 all_goals rfl
theorem Jp(l:List AN):An (l.map .d)=[]:=by
 induction l with
 |nil=>rfl
 |cons x l ih=>simp[An,AE,ih]
theorem WW(es:List (List AN)):(es.map (·.map AV.d)).flatMap An=[]:=by
 induction es with
 |nil=>rfl
 |cons x l ih=>simp[Jp]
theorem lg{α:Type}{l r:List α}{off n:Nat}(h:Gq l off n=some r){x:α}(hx:x∈r):x∈l:=by
 unfold Gq at h;split at h
 .cases h;exact List.mem_of_mem_drop (List.mem_of_mem_take hx)
 .cases h
theorem Zf{x:AV}{src:List (List AV)}(h:Ch g x=some src): ∀id∈src.flatMap An,id∈B1 g (AE x):=by
 intro id hid;unfold Ch at h;split at h
 .cases h;rw[WW]at hid;cases hid
 .cases h;cases hid
 .cases h;cases hid
 .rename_i i off n;obtain⟨e,he,hie⟩:=List.mem_flatMap.1 hid;cases hg:KN (g i)with
  |none=>rw[hg]at h;cases h
  |some es=>
   rw[hg]at h;have he':=lg h he;unfold KN at hg;split at hg
   .cases hg;obtain⟨y,_,rfl⟩:=List.mem_map.1 he';rw[Jp]at hie;cases hie
   .cases hg;obtain⟨y,_,rfl⟩:=List.mem_map.1 he';rw[Jp]at hie;cases hie
   .rename_i sz es' hgi;cases hg;refine List.mem_append_right _ (List.mem_flatMap.2 ⟨i,by simp[AE],?_⟩);simp only[hgi];exact List.mem_flatMap.2 ⟨e,he',hie⟩
   .cases hg
 .cases h
theorem Nz{n:Id}{j:TI}{s x:AV}(hs:At g g' (AE s))(hx:At g g' (B1 g (AE x))):appendV g n j s x=appendV g' n j s x:=by
 have he:=QI (hx.mono fun id hi=>List.mem_append_left _ hi);unfold appendV;rw[←he];cases h:Ch g x with
 |none=>rfl
 |some src=>
  have h2:appTo g n j s src=appTo g' n j s src:=Si hs (hx.mono fun id hi=>Zf h id hi);cases src with
  |nil=>rfl
  |cons a l=>simp only[h2]
theorem Vo{k:TK}{x:AV}(h:At g g' (AE x)):RN g k x=RN g' k x:=by
 cases x
 case mp id=>cases k<;>simp only[RN,h id (by simp[AE])]
 case d y=>cases y<;>cases k<;>rfl
 all_goals (cases k<;>rfl)
theorem KJ{T:TypeId→Option TI}{t:Option TI}{m k v:AV}(h:At g g' (AE m)):mapPut T g t m k v=mapPut T g' t m k v:=by
 unfold mapPut;cases m
 case mp id=>
  have e:=h id (by simp[AE]);cases IR k<;>simp only[e]
 all_goals rfl
theorem MM{T:TypeId→Option TI}{m k:AV}{ok:Bool}{t:Option TI}(h:At g g' (AE m)):Da T g m k ok t=Da T g' m k ok t:=by
 unfold Da;cases t with
 |none=>rfl
 |some i=>
  cases m
  case mp id=>
   have e:=h id (by simp[AE]);obtain⟨kind,size,agg,str,zero,flds,elem,key,mx⟩:=i;simp only;generalize IR k=d;generalize T key=tk;cases d<;>cases kind<;>cases tk<;>first|rfl|simp only[e]
  all_goals rfl
theorem RO{n:Int}{x:AV}{j:TI}(h:At g g' (AE x)):JJ g n x j=JJ g' n x j:=by
 unfold JJ;cases x
 case osl id off n=>simp only[h id (by simp[AE])]
 case d y=>cases y<;>rfl
 all_goals rfl
theorem KY{T:TypeId→Option TI}{x i:AV}{t:Option TI}(h:At g g' (AE x)):CA T g x i t=CA T g' x i t:=by
 unfold CA;simp only[RO h]
theorem P8{sz:Nat}{id:Id}{off:Nat}{b:Option (Nat×Nat×Option Nat)}(h:g id=g' id):Mq g sz id off b=Mq g' sz id off b:=by
 unfold Mq;simp only[h]
theorem QP{k:TK}{sz:Nat}{x:AV}{lo hi mx:Option AV}(h:At g g' (AE x)):E1 g k sz x lo hi mx=E1 g' k sz x lo hi mx:=by
 cases x
 case osl id off n=>cases k<;>simp only[E1,P8 (h id (by simp[AE]))]
 case d y=>cases y<;>cases k<;>rfl
 all_goals (cases k<;>rfl)
theorem N3{T:TypeId→Option TI}{x:AV}{lo hi mx:Option AV}{t:Option TI}(h:At g g' (AE x)):FC T g x lo hi mx t=FC T g' x lo hi mx t:=by
 unfold FC;simp only[QP h]
theorem No{T:TypeId→Option TI}{x:AV}{t:Option TI}(h:At g g' (AE x)):Gm T g t x=Gm T g' t x:=by
 unfold Gm;cases t with
 |none=>rfl
 |some i=>
  obtain⟨kind,size,agg,str,zero,flds,elem,key,mx⟩:=i;simp only;cases x
  case osl id off n=>
   have e:=h id (by simp[AE]);cases kind
   case slice=>simp only[L9,e]
   all_goals rfl
  all_goals (cases kind<;>rfl)
theorem ff(z:Value):An (z.cells.toList.map CO)=[]:=by
 generalize z.cells.toList=l;induction l with
 |nil=>rfl
 |cons v l ih=>
  simp only[List.map_cons,An,ih,List.append_nil];unfold CO;split<;>rfl
theorem Wx{t:TypeId}{i:TI}(h:BL P mix t=some i):An i.zero=[]:=by
 obtain⟨info,d,z,h1,h2,h3,h4,rfl⟩:=Ag h;exact ff z
theorem ly{n:Nat}{l:List AV}(h:An l=[]):(List.replicate n l).flatMap An=[]:=by
 induction n with
 |zero=>rfl
 |succ n ih=>simp[List.replicate_succ,h]
theorem Nq{n:Id}{k:Nat}{t:TypeId}{j:TI}(h:BL P mix t=some j):ED g n k j=ED g' n k j:=by
 unfold ED;cases k with
 |zero=>rfl
 |succ k=>exact Fb (by rw[ly (Wx h)];intro id hi;cases hi)
theorem Ua{α:Type}{l r new:List α}{off:Nat}(h:Bj l off new=some r){x:α}(hx:x∈r):x∈l∨x∈new:=by
 unfold Bj at h;split at h
 .cases h;simp only[List.mem_append]at hx;rcases hx with(hx|hx)|hx
  .exact .inl (List.mem_of_mem_take hx)
  .exact .inr hx
  .exact .inl (List.mem_of_mem_drop hx)
 .cases h
theorem JH{pl:Nat→Option (Nat×Nat)}: ∀{ps:List (Nat×AV)} {cs r:List AV},Bv pl cs ps=some r→ ∀x∈r,x∈cs∨ ∃p∈ps,x∈p.2.cells
 |[],cs,r,h,x,hx=>by simp only[Bv,Option.some.injEq]at h;subst h;exact .inl hx
 |(i,v)::ps,cs,r,h,x,hx=>by
  simp only[Bv]at h;split at h
  .split at h
   .cases hs:Bj cs _ v.cells with
    |none=>rw[hs]at h;cases h
    |some cs'=>
     rw[hs]at h;rcases JH h x hx with h1|⟨p,hp,h1⟩
     .rcases Ua hs h1 with h2|h2
      .exact .inl h2
      .exact .inr ⟨(i,v),by simp,h2⟩
     .exact .inr ⟨p,by simp[hp],h1⟩
   .cases h
  .cases h
theorem NW{α:Type}{sz:Nat}: ∀{n:Nat} {l:List α} {c:List α},c∈Ea sz n l→ ∀x∈c,x∈l
 |0,_,_,h,_,_=>by cases h
 |n+1,l,c,h,x,hx=>by
  simp only[Ea,List.mem_cons]at h;rcases h with rfl|h
  .exact List.mem_of_mem_take hx
  .exact List.mem_of_mem_drop (NW h x hx)
theorem Ma{nw:Id}{n:Nat}{ps:List (Nat×AV)}{t:TypeId}{j:TI}(ht:BL P mix t=some j)(h:At g g' (ps.flatMap fun p=>AE p.2)):EZ g nw n ps j=EZ g' nw n ps j:=by
 unfold EZ;cases hf:Bv (fun k=>some (k*j.size,j.size)) ((List.replicate n j.zero).flatten) ps with
 |none=>rfl
 |some cs=>
  have:newArr g nw j (Ea j.size n cs)=newArr g' nw j (Ea j.size n cs):=by
   refine Fb fun id hi=>?_;obtain⟨c,hc,hi⟩:=List.mem_flatMap.1 hi;obtain⟨x,hx,hi⟩:=IC hi;rcases JH hf x (NW hc x hx)with h1|⟨p,hp,h1⟩
   .obtain⟨l,hl,hx⟩:=List.mem_flatten.1 h1;rw[List.eq_of_mem_replicate hl]at hx;have:=G0 hx hi;rw[Wx ht]at this;cases this
   .exact h id (List.mem_flatMap.2 ⟨p,hp,(PE _ _).1 (G0 h1 hi)⟩)
  cases n with
  |zero=>rfl
  |succ n=>simp only[this]
theorem Jk{nw:Id}{n:Nat}{ps:List (Nat×AV)}{t:Option TI}(h:At g g' (ps.flatMap fun p=>AE p.2)):Bq (BL P mix) g nw n ps t=Bq (BL P mix) g' nw n ps t:=by
 unfold Bq;cases t with
 |none=>rfl
 |some i=>
  obtain⟨kind,size,agg,str,zero,flds,elem,key,mx⟩:=i;simp only;cases hj:BL P mix elem with
  |none=>cases kind<;>rfl
  |some j=>cases kind<;>first|rfl|simp only[Ma hj h]
theorem KP{nw:Id}{l c:AV}{t:Option TI}:Bw (BL P mix) g nw l c t=Bw (BL P mix) g' nw l c t:=by
 unfold Bw;cases t with
 |none=>rfl
 |some i=>
  obtain⟨kind,size,agg,str,zero,flds,elem,key,mx⟩:=i;simp only;cases hj:BL P mix elem with
  |none=>cases kind<;>rfl
  |some j=>
   cases kind
   case slice=>
    cases l<;>try rfl
    rename_i x;cases x<;>try rfl
    cases c<;>try rfl
    rename_i y;cases y<;>try rfl
    simp only[Nq hj (g:=g) (g':=g')]
   all_goals rfl
theorem Nc{nw:Id}{T:TypeId→Option TI}{t u:Option TI}{s x:AV}(hs:At g g' (AE s))(hx:At g g' (B1 g (AE x))):FL T g nw t u s x=FL T g' nw t u s x:=by
 unfold FL;simp only[Nz hs hx]
def HG(e e':Nat→AV)(op:Op):Prop:= ∀x∈op.operands,ev e x=ev e' x
theorem KD{e:Nat→AV}{op:Op}(h:At g g' (C0 e op)){x:Operand}(hx:x∈op.operands):At g g' (AE (ev e x)):=
 h.mono fun _ hi=>List.mem_flatMap.2 ⟨x,by simpa using hx,hi⟩
theorem JO{e e':Nat→AV}{ps:Array (Nat×Operand)}(h: ∀p∈ps,ev e p.2=ev e' p.2):Cx e ps=Cx e' ps:=by
 unfold Cx;exact List.map_congr_left fun p hp=>by rw[h p (by simpa using hp)]
theorem JX{e e':Nat→AV}{x:Option Operand}(h: ∀y∈x,ev e y=ev e' y):x.map (ev e)=x.map (ev e'):=by
 cases x with
 |none=>rfl
 |some y=>simp[h y rfl]
theorem De{e e':Nat→AV}{x:Array Operand}(h: ∀y∈x,ev e y=ev e' y):x.toList.map (ev e)=x.toList.map (ev e'):=
 List.map_congr_left fun y hy=>h y (by simpa using hy)
theorem P9{e e':Nat→AV}{n:Id}{op:Op}(he:HG e e' op)(h:At g g' (EE e g op)):evalOp (BL P mix) e g n op=evalOp (BL P mix) e' g' n op:=by
 cases op<;>try rfl
 case move x=>simp only[evalOp,he x (by simp[Op.operands])]
 case assign x=>simp only[evalOp,he x (by simp[Op.operands])]
 case pick c a b=>simp only[evalOp,he c (by simp[Op.operands]),he a (by simp[Op.operands]),he b (by simp[Op.operands])]
 case box t x=>simp only[evalOp,he x (by simp[Op.operands])]
 case build t ps=>
  simp only[evalOp];rw[JO fun p hp=>he p.2 (by simp[Op.operands];exact⟨p.1,hp⟩)]
 case buildSlice t k ps=>
  have hp: ∀p∈ps,p.2∈(Op.buildSlice t k ps).operands:=fun p hp=>by simp[Op.operands];exact⟨p.1,hp⟩
  simp only[evalOp];rw[JO fun p hp'=>he p.2 (hp p hp')];refine Jk fun id hi=>?_;obtain⟨q,hq,hi⟩:=List.mem_flatMap.1 hi;obtain⟨p,hp',rfl⟩:=List.mem_map.1 hq;rw[←he p.2 (hp p (by simpa using hp'))]at hi;exact KD h (hp p (by simpa using hp')) id hi
 case insert t m k v=>
  simp only[evalOp];rw[←he m (by simp[Op.operands]),←he k (by simp[Op.operands]),←he v (by simp[Op.operands])];exact KJ (KD h (by simp[Op.operands]))
 case load t x=>
  simp only[evalOp];rw[←he x (by simp[Op.operands])];cases ht:BL P mix t with
  |none=>rfl
  |some i=>simp only[HL,RK (KD h (x:=x) (by simp[Op.operands]))]
 case store t a x=>
  simp only[evalOp];rw[←he a (by simp[Op.operands]),←he x (by simp[Op.operands])];cases ht:BL P mix t with
  |none=>rfl
  |some i=>simp only[Fj,QF (KD h (x:=a) (by simp[Op.operands])) (KD h (x:=x) (by simp[Op.operands]))]
 case nilCheck x=>simp only[evalOp,he x (by simp[Op.operands])]
 case binOp op t x y yt=>simp only[evalOp,he x (by simp[Op.operands]),he y (by simp[Op.operands])]
 case unOp op t x=>simp only[evalOp,he x (by simp[Op.operands])]
 case makeInterface t x=>simp only[evalOp,he x (by simp[Op.operands])]
 case makeFunc f x y=>
  simp only[evalOp];rw[De (e:=e) (e':=e') (x:=x) fun z hz=>he z (by simp[Op.operands,hz]),De (e:=e) (e':=e') (x:=y) fun z hz=>he z (by simp[Op.operands,hz])]
 case makeSlice t l c=>
  simp only[evalOp];rw[he l (by simp[Op.operands]),he c (by simp[Op.operands])];exact KP
 case slice t x lo hi mx=>
  simp only[evalOp];rw[←he x (by simp[Op.operands]),JX (e:=e) (e':=e') (x:=lo) fun z hz=>he z (by simp[Op.operands]at hz⊢;simp[hz]),
   JX (e:=e) (e':=e') (x:=hi) fun z hz=>he z (by simp[Op.operands]at hz⊢;simp[hz]),JX (e:=e) (e':=e') (x:=mx) fun z hz=>he z (by simp[Op.operands]at hz⊢;simp[hz])]
  exact N3 (KD h (by simp[Op.operands]))
 case fieldAddr t x k=>simp only[evalOp,he x (by simp[Op.operands])]
 case field t x k=>simp only[evalOp,he x (by simp[Op.operands])]
 case indexAddr t x i=>
  simp only[evalOp];rw[←he x (by simp[Op.operands]),←he i (by simp[Op.operands])];exact KY (KD h (by simp[Op.operands]))
 case index t x i=>simp only[evalOp,he x (by simp[Op.operands]),he i (by simp[Op.operands])]
 case lookup t m k ok=>
  simp only[evalOp];rw[←he m (by simp[Op.operands]),←he k (by simp[Op.operands])];exact MM (KD h (by simp[Op.operands]))
 case mapUpdate t m k v=>
  simp only[evalOp];rw[←he m (by simp[Op.operands]),←he k (by simp[Op.operands]),←he v (by simp[Op.operands])];exact KJ (KD h (by simp[Op.operands]))
 case typeAssert x xt t ok=>
  simp only[evalOp,he x (by simp[Op.operands])]
 case extract x k=>simp only[evalOp,he x (by simp[Op.operands])]
 case call c=>
  obtain⟨callee,args,ats⟩:=c;simp only[evalOp,Gy];cases callee with
  |value f=>rfl
  |invoke r m=>rfl
  |builtin b=>
   simp only;have ha: ∀x∈args,x∈(Op.call ⟨.builtin b,args,ats⟩).operands:=fun x hx=>by simp[Op.operands,Call.operands,hx]
   rw[←De fun x hx=>he x (ha x hx)];have hids: ∀x,x∈args.toList.map (ev e)→ ∀id∈AE x,id∈C0 e (Op.call ⟨.builtin b,args,ats⟩):=by
    intro x hx id hi;obtain⟨y,hy,rfl⟩:=List.mem_map.1 hx;exact List.mem_flatMap.2 ⟨y,by simpa using ha y (by simpa using hy),hi⟩
   generalize args.toList.map (ev e)=as at hids;unfold ER;cases b<;>try rfl
   .simp only[EE]at h;have h1: ∀x∈as,At g g' (AE x):=fun x hx=>h.mono fun id hi=>List.mem_append_left _ (hids x hx id hi);have h2: ∀x∈as,At g g' (B1 g (AE x)):=fun x hx=>h.mono fun id hi=>by
     rcases List.mem_append.1 hi with hi|hi
     .exact List.mem_append_left _ (hids x hx id hi)
     .obtain⟨i,h3,h4⟩:=List.mem_flatMap.1 hi;exact List.mem_append_right _ (List.mem_flatMap.2 ⟨i,hids x hx i h3,h4⟩)
    match as,ats.toList with
    |[],_=>rfl
    |[_],_=>rfl
    |[s,x],[t,u]=>exact Nc (h1 s (by simp)) (h2 x (by simp))
    |[_,_],[]=>rfl
    |[_,_],[_]=>rfl
    |[_,_],_::_::_::_=>rfl
    |_::_::_::_,_=>rfl
   .simp only[EE]at h;have h1: ∀x∈as,At g g' (AE x):=fun x hx=>h.mono fun id hi=>hids x hx id hi
    match as,ats.toList with
    |[],_=>rfl
    |[x],[]=>rfl
    |[x],[t]=>exact No (h1 x (by simp))
    |[x],_::_::_=>rfl
    |_::_::_,_=>rfl
   .simp only[EE]at h;have h1: ∀x∈as,At g g' (AE x):=fun x hx=>h.mono fun id hi=>hids x hx id hi
    match as,ats.toList with
    |[],_=>rfl
    |[x],[]=>rfl
    |[x],[t]=>
     simp only;cases ht:BL P mix t with
     |none=>rfl
     |some i=>simp only[Vo (h1 x (by simp))]
    |[x],_::_::_=>rfl
    |_::_::_,_=>rfl
end Go.Abs
