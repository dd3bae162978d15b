/-
  Parts of it.
-/
import Derived.MapKept
import Derived.Test.YtbinfhpngacfgaaGreatDe3
set_option linter.all false
namespace Go.Abs
variable{A:Nat→Prop}{P:Program}{mix:List TypeId}{β:Au}{w:World}{M:Nat→Prop}
variable{r:Nat}{o:Go.Obj}
theorem JF(h:w.heap[r]? =some o)(hc: ∀c e f,o≠ .cells c e f):(getObj r).run P w=.ok o w:=by
 cases o<;>first|exact absurd rfl (hc _ _ _)|simp only[getObj,Sem.run,h]
theorem HJ{o':Go.Obj}(h:w.heap[r]? =some o)(hc: ∀c e f,o≠ .cells c e f):(setObj r o').run P w=.ok () (World.ii w r o'):=by
 cases o<;>first|exact absurd rfl (hc _ _ _)|(simp only[setObj,Sem.run,h];rfl)
theorem Wb{t:TypeId}{d:TypeDesc}(h2:P.underlying t=some d){x:AZ}(hk:Jj (Cb P t d) x=true){v:Value}(hv:DR w M x v):
 (∀b n,(Instr.checkKey b (n+1) t v).run P w=.ok () w)∧ ∀{y:AZ} {u:Value} {r:Bool},DR w M y u→G5 y x=some r→Instr.sameNow d v u=some r:=by
 cases x<;>cases hkd:Cb P t d<;>simp[Jj,hkd]at hk
 .obtain⟨k,rfl⟩:=tR hkd;cases hv;refine⟨fun b n=>by simp[Instr.checkKey,run_underlying h2],fun{y u r} hu he=>?_⟩;cases y<;>simp[G5]at he;obtain⟨rfl,rfl⟩:=he;cases hu;simp[Instr.sameNow,Bool.beq_comm]
 .have:=Uw hkd;subst this;cases hv;refine⟨fun b n=>by simp[Instr.checkKey,run_underlying h2],fun{y u r} hu he=>?_⟩;cases y<;>simp[G5]at he;subst he;cases hu;simp[Instr.sameNow,Bool.beq_comm]
 .have:=Lj hkd;subst this;cases hv;refine⟨fun b n=>by simp[Instr.checkKey,run_underlying h2],fun{y u r} hu he=>?_⟩;cases y<;>simp[G5]at he;subst he;cases hu;simp only[Instr.sameNow,Bv];rw[beq_toListBytes,beq_toListBytes,Bool.beq_comm]
theorem WJ{t:TypeId}{d:TypeDesc}(h2:P.underlying t=some d){x:AZ}(hk:Jj (Cb P t d) x=true){v:Value}(hv:DR w M x v): ∀(es:List (AZ×AV)) (en:List MapEntry) (i:Nat) (r:Option AV),
 es.length=en.length→(∀(j:Nat) p e,es[j]? =some p→en[j]? =some e→DR w M p.1 e.key∧VR β w M p.2 e.val)→Cv es x=some r→
 (r=none∧Instr.findNow d v en i=some none∧ ∀y,ER es x y=es++[(x,y)])∨
 (∃av j p e,r=some av∧es[j]? =some p∧en[j]? =some e∧p.2=av∧Instr.findNow d v en i=some (some (i+j,e.val))∧G5 p.1 x=some true∧ ∀y,ER es x y=es.set j (p.1,y))
 |[],en,i,r,hl,_,hg=>by
  have:en=[]:=LC.1 hl.symm;subst this;simp only[Cv,Bv]at hg;exact .inl ⟨hg.symm,rfl,fun _=>rfl⟩
 |(k,u)::es,en,i,r,hl,hr,hg=>by
  cases en with
  |nil=>simp at hl
  |cons e en=>
   obtain⟨h0,h0'⟩:=hr 0 (k,u) e rfl rfl;simp only[Cv]at hg;split at hg
   .rename_i heq;cases hg;have hs:=(Wb h2 hk hv).2 h0 heq;exact .inr ⟨u,0,(k,u),e,rfl,rfl,rfl,rfl,by simp[Instr.findNow,hs],heq,fun y=>by simp[ER,heq]⟩
   .rename_i heq;have hs:=(Wb h2 hk hv).2 h0 heq;rcases WJ h2 hk hv es en (i+1) r (by simpa using hl) (fun j p e hp he=>hr (j+1) p e (by simpa using hp) (by simpa using he)) hg with⟨a,b,c⟩|⟨av,j,p,e',a,b1,b2,b3,c,dq,f⟩
    .exact .inl ⟨a,by simp[Instr.findNow,hs,b],fun y=>by simp[ER,heq,c]⟩
    .exact .inr ⟨av,j+1,p,e',a,by simpa using b1,by simpa using b2,b3,by simp[Instr.findNow,hs,c];omega,dq,fun y=>by simp[ER,heq,f]⟩
   .cases hg
theorem nJ{h:AB}(H:HR A β w h){ρ:List Nat}{t:TypeId}{m k:AV}{vm vk:Value}{ok:Bool}(hm:VR β w (MS A β h) m vm)(hk:VR β w (MS A β h) k vk){eff:CJ}
 (ho:FI (Bt P mix) h.get m k ok (Bt P mix t)=some eff):Dj A ρ β w h ((do pure (.value (←Instr.lookup t vm vk ok)):Sem Next).run P w) eff:=by
 cases ht:Bt P mix t with
 |none=>simp[FI,ht]at ho
 |some i=>
  obtain⟨info,d,z,h1,h2,h3,_,rfl⟩:=A9 ht;simp only[FI,ht]at ho;split at ho
  .rename_i id x kt hdat hkind hkt;obtain⟨ke,el,rfl⟩:=SO hkind;simp only[Wa]at hkt;obtain⟨ki,kd,kz,k1,k2,k3,_,hke⟩:=A9 hkt;split at ho
   .rename_i es hkey hg;have hkk:kt.kind=Cb P ke kd:=by rw[hke]
    rw[hkk]at hkey;split at ho
    .rename_i r j hget hj;simp only[IM]at hj;obtain⟨ji,jd,jz,j1,j2,j3,⟨_,_,jzs,jza⟩,hje⟩:=A9 hj;have hxk:DR w (MS A β h) x vk:=by
      unfold LX at hdat;split at hdat
      .cases hdat;cases hk with|d hd=>exact hd
      .cases hdat
     obtain⟨kb,hkb,en,cl,q1,q2,q3⟩:=H.obj id _ hg;cases hm with
     |mp _ k' hk'=>
      rw[hkb]at hk';cases hk';have hgo:=JF (P:=P) q1 (by simp);have hck:=fun b=>(Wb (P:=P) (w:=w) (M:=MS A β h) k2 hkey hxk).1 b 9999;have hmk: ∀(ag:Bool),LJ jd=ag→True:=fun _ _=>trivial;unfold Kt at ho;have hzero: ∀zz,FX j.agg j.zero=some zz→VR β w (MS A β h) zz jz:=fun zz hz=>by
       rw[hje]at hz;exact ai jza hz
      have two: ∀{a:AV} {u:Value} {b:Bool},VR β w (MS A β h) a u→VR β w (MS A β h) (.ge [a,.d (.bool b)]) (.tuple #[u,.bool b]):=by
       intro a u b hu;refine .ge _ _ rfl fun i x v hx hv=>?_
       match i with
       |0=>simp at hx hv;subst hx hv;exact hu
       |1=>simp at hx hv;subst hx hv;exact .d (.bool _)
       |i+2=>simp at hx
      rcases WJ (β:=β) k2 hkey hxk es en.toList 0 r (by simpa using q2) (fun a p e hp he=>q3 a p e hp (by simpa using he)) hget with⟨rfl,b,_⟩|⟨av,jj,p,e,rfl,b1,b2,rfl,c,_⟩
      .split at ho
       .rename_i heq;cases heq
       .rename_i zz hz;cases ho;have hr:((do pure (.value (←Instr.lookup t (.map (some kb.b)) vk ok)):Sem Next).run P w)=.ok (.value (if ok then .tuple #[jz,.bool false]else jz)) w:=by
         simp[Instr.lookup,run_underlying h2,hgo,hck,Instr.findKey,run_underlying k2,b,DV j1 j3]
        cases ok
        .exact .plain H (v:=jz) (by rw[hr];rfl) rfl (hzero _ hz)
        .exact .plain H (v:=.tuple #[jz,.bool false]) (by rw[hr];rfl) rfl (two (hzero _ hz))
       .cases ho
      .have hval:VR β w (MS A β h) p.2 e.val:=(q3 jj p e b1 (by simpa using b2)).2;split at ho
       .rename_i heq;cases heq;cases ho;have hr:((do pure (.value (←Instr.lookup t (.map (some kb.b)) vk ok)):Sem Next).run P w)=.ok (.value (if ok then .tuple #[e.val,.bool true]else e.val)) w:=by
         simp[Instr.lookup,run_underlying h2,hgo,hck,Instr.findKey,run_underlying k2,c]
        cases ok
        .exact .plain H (v:=e.val) (by rw[hr];rfl) rfl hval
        .exact .plain H (v:=.tuple #[e.val,.bool true]) (by rw[hr];rfl) rfl (two hval)
       all_goals first
        |(rename_i hh _;exact(hh _ rfl).elim)
        |(rename_i heq _;cases heq)
        |cases ho
    .cases ho
   .cases ho
  .cases ho
theorem qz{a b:ByteArray}(h:(a==b)=true):a=b:=by
 rw[beq_toListBytes,ByteArray.toList_eq,ByteArray.toList_eq,beq_iff_eq]at h;obtain⟨⟨x⟩⟩:=a;obtain⟨⟨y⟩⟩:=b;simp at h;rw[h]
theorem ra{x y:AZ}(h:G5 y x=some true):y=x:=by
 cases y<;>cases x<;>simp[G5]at h
 .obtain⟨rfl,rfl⟩:=h;rfl
 .rw[h]
 .exact congrArg AZ.str (qz h)
theorem aB{x y:AZ}{v u:Value}(hv:DR w M x v)(hu:DR w M y u)(h:G5 y x=some true): ∀n,Instr.sameBits n u v=true:=by
 intro n;cases y<;>cases x<;>simp[G5]at h
 .obtain⟨rfl,rfl⟩:=h;cases hv;cases hu;simp[Instr.sameBits]
 .subst h;cases hv;cases hu;simp[Instr.sameBits]
 .cases hv;cases hu;simpa[Instr.sameBits]using h
theorem U0{h:AB}(H:HR A β w h){ρ:List Nat}{t:TypeId}{m k v:AV}{vm vk vv:Value}(hm:VR β w (MS A β h) m vm)(hk:VR β w (MS A β h) k vk)(hv:VR β w (MS A β h) v vv){eff:CJ}
 (ho:mapPut (Bt P mix) h.get (Bt P mix t) m k v=some eff):Dj A ρ β w h ((do Instr.mapUpdate t vm vk vv;pure .skip:Sem Next).run P w) eff:=by
 unfold mapPut at ho;split at ho
 .cases ho
 .rename_i hcond;split at ho
  .rename_i id x hdat;rw[hdat]at hcond;cases ht:Bt P mix t with
   |none=>simp[ht]at hcond
   |some i=>
    obtain⟨info,d,z,h1,h2,h3,_,rfl⟩:=A9 ht;simp only[ht]at hcond;split at hcond
    .rename_i kt hkind hkt;obtain⟨ke,el,rfl⟩:=SO hkind;simp only[Wa]at hkt;obtain⟨ki,kd,kz,k1,k2,k3,_,hke⟩:=A9 hkt;have hkk:kt.kind=Cb P ke kd:=by rw[hke]
     rw[hkk,AP]at hcond;obtain⟨hkey,_⟩:=hcond;split at ho
     .rename_i es hg;split at ho
      .rename_i r hget;cases ho;have hxk:DR w (MS A β h) x vk:=by
        unfold LX at hdat;split at hdat
        .cases hdat;cases hk with|d hd=>exact hd
        .cases hdat
       obtain⟨kb,hkb,en,cl,q1,q2,q3⟩:=H.obj id _ hg;cases hm with
       |mp _ k' hk'=>
        rw[hkb]at hk';cases hk';have hgo:=JF (P:=P) q1 (by simp);have hck:=fun b=>(Wb (P:=P) (w:=w) (M:=MS A β h) k2 hkey hxk).1 b 9999;have done: ∀(es':List (AZ×AV)) (en':Array MapEntry) (cl':Nat),ER es x v=es'→es'.length=en'.size→
           (∀(M':Nat→Prop) (w':World),Dy A (MS A β h) w M' w'→ ∀(i:Nat) p e,es'[i]? =some p→en'[i]? =some e→DR w' M' p.1 e.key∧VR β w' M' p.2 e.val)→
           (Instr.mapUpdate t (.map (some kb.b)) vk vv).run P w=.ok () (World.ii w kb.b (.map en' cl'))→
           Dj A ρ β w h ((do Instr.mapUpdate t (.map (some kb.b)) vk vv;pure .skip:Sem Next).run P w) ⟨.undef,[(id,.map (ER es x v))]⟩:=by
         intro es' en' cl' e1 e2 e3 e4;rw[e1];have hpr:=G0 H (o':=.map es') hg rfl hkb (.map en' cl');refine .skip (w':=World.ii w kb.b (.map en' cl')) (by simp[e4]) rfl ?_ hpr (Kg _ (As.2 rfl) hkb);exact H.upd' hg rfl hkb ⟨en',cl',Ha _ (AH q1),e2,e3 _ _ hpr⟩
        rcases WJ (β:=β) k2 hkey hxk es en.toList 0 r (by simpa using q2) (fun a p e hp he=>q3 a p e hp (by simpa using he)) hget with⟨rfl,b,f⟩|⟨av,jj,p,e,rfl,b1,b2,rfl,c,dq,f⟩
        .refine done (es++[(x,v)]) (en.push {key:=vk,val:=vv,born:=cl}) (cl+1) (f v) (by simp[q2]) ?_ ?_
         .intro M' w' hp i p e hp' he;rw[OF]at he;by_cases hi:i=en.size
          .subst hi;rw[CO (by omega)]at hp';simp[q2]at hp' he;subst hp' he;exact⟨hxk.mono hp,hv.mono (.refl β) hp⟩
          .rw[CS hi]at he;have hlt:i<es.length:=by rw[q2];exact(Hw.1 he).1
           rw[Be hlt]at hp';exact⟨(q3 i p e hp' he).1.mono hp,(q3 i p e hp' he).2.mono (.refl β) hp⟩
         .simp[Instr.mapUpdate,run_underlying h2,hgo,hck,Instr.findKey,run_underlying k2,b,HJ (P:=P) q1 (by simp)]
        .have hrel:=q3 jj p e b1 (by simpa using b2);have hje:en[jj]? =some e:=by simpa using b2
         have hsb:=aB hxk hrel.1 dq 10000;refine done (es.set jj (p.1,v)) (en.modify jj fun e=>{e with key:=vk,val:=vv}) cl (f v) (by simp[q2]) ?_ ?_
         .intro M' w' hp i p' e' hp' he;rw[Array.getElem?_modify]at he;rw[HW]at hp';by_cases hi:jj=i
          .subst hi;rw[DO rfl,hje]at he;have hlt:jj<es.length:=(BE.1 b1).1;simp[hlt]at hp' he;subst hp' he;refine⟨?_,hv.mono (.refl β) hp⟩;have:=ra dq;rw[show p=(x,p.2)from Prod.ext this rfl];exact hxk.mono hp
          .rw[CS hi]at he hp';exact⟨(q3 i p' e' hp' he).1.mono hp,(q3 i p' e' hp' he).2.mono (.refl β) hp⟩
         .have hst:(Instr.keyThatStays (((en[0+jj]?).map (·.key)).getD vk) vk).run P w=.ok vk w:=by
           rw[I5,hje];simp[Instr.keyThatStays,hsb]
          simp only[Instr.mapUpdate,Sem.run_bind,run_underlying h2,Result.andThen_ok,hgo,hck,Instr.findKey,run_underlying k2,c,Sem.run_pure,hst,HJ (P:=P) q1 (by simp)];simp
      .cases ho
     .cases ho
    .cases hcond
  .cases ho
variable{A:Nat→Prop}{P:Program}{mix:List TypeId}{β:Au}{w:World}{M:Nat→Prop}
theorem xp{h:AB}(H:HR A β w h){ρ:List Nat}(hf: ∀id,ρ<:+id→β id=none){e:Nat→AV}{a:Act}(he:JY β w (MS A β h) e fun t=>a.tmps.getD t Go.undef){c:Call}{ty:TypeId}{eff:CJ}
 (ho:J3 (Bt P mix) e h.get ρ c=some eff):Dj A ρ β w h ((do let d←resolve a.eval c ty;invoke d.target d.args:Sem Next).run P w) eff:=by
 have E:=fun x=>IC he x;obtain⟨callee,args,ats⟩:=c;obtain⟨args⟩:=args;obtain⟨ats⟩:=ats;unfold J3 at ho;split at ho
 .rename_i b hb;simp only at hb;subst hb;simp only at ho;have hrun:((do let d←resolve a.eval ⟨.builtin b,⟨args⟩,⟨ats⟩⟩ ty;invoke d.target d.args:Sem Next).run P w)=
   (builtin b ⟨ats⟩ ty ((⟨args⟩:Array Operand).map fun|.const _=>true|_=>false) (⟨args.map a.eval⟩:Array Value)).run P w:=by
   simp[resolve,invoke];rfl
  rw[hrun];unfold GX at ho;split at ho
  .split at ho
   .rename_i x hx;split at ho
    .rename_i t;split at ho
     .rename_i i hi;simp only[BV]at ho;obtain⟨n,hn,rfl⟩:=ho
      match args,hx with
      |[ox],hx=>
       simp at hx;subst hx;have:=ACu (ρ:=ρ) (ty:=ty) H (E ox) hi hn;simpa[builtin]using this
     .cases ho
    .cases ho
   .cases ho
  .split at ho
   .rename_i s x t u hx
    match args,hx with
    |[os,ox],hx=>
     simp at hx;obtain⟨rfl,rfl⟩:=hx;have:=Vp (ty:=ty) H hf (E os) (E ox) ho;simpa[builtin]using this
   .cases ho
  .split at ho
   .rename_i x t hx
    match args,hx with
    |[ox],hx=>
     simp at hx;subst hx;have:=rR (ρ:=ρ) (ty:=ty) H (E ox) ho;simpa[builtin]using this
   .cases ho
  .split at ho
   .rename_i x y hx
    match args,hx with
    |[ox,oy],hx=>
     simp at hx;obtain⟨rfl,rfl⟩:=hx;have:=ACw (ρ:=ρ) (P:=P) (ts:=⟨ats⟩) (ty:=ty) H (E ox) (E oy) ho;simpa[builtin]using this
   .cases ho
  .split at ho
   .rename_i x y hx
    match args,hx with
    |[ox,oy],hx=>
     simp at hx;obtain⟨rfl,rfl⟩:=hx;have:=ACz (ρ:=ρ) (P:=P) (ts:=⟨ats⟩) (ty:=ty) H (E ox) (E oy) ho;simpa[builtin]using this
   .cases ho
  .cases ho
 .cases ho
theorem jv{h:AB}(H:HR A β w h){ρ:List Nat}(hf: ∀id,ρ<:+id→β id=none){e:Nat→AV}{a:Act}(he:JY β w (MS A β h) e fun t=>a.tmps.getD t Go.undef){o:Oper}{op:Op}(hop:o.op=op){eff:CJ}
 (ho:evalOp (Bt P mix) e h.get ρ op=some eff):Dj A ρ β w h ((execOp a.eval o).run P w) eff:=by
 have E:=fun x=>IC he x;cases op<;>simp only[evalOp,reduceCtorEq,Bv]at ho<;>simp only[execOp,hop]
 case move x=>subst ho;exact .plain H (v:=a.eval x) rfl rfl (E x)
 case assign x=>subst ho;exact .plain H (v:=a.eval x) rfl rfl (E x)
 case pick c x y=>exact AA8 H (E c) (E x) (E y) ho
 case alloc t=>exact qi H hf ho
 case box t x=>exact jA H hf (E x) ho
 case build t ps=>exact qy H he ho
 case buildSlice t n ps=>exact TZ H hf he ho
 case insert t m k v=>exact U0 H (E m) (E k) (E v) ho
 case load t x=>exact zT H (E x) ho
 case store t x v=>exact wh H (E x) (E v) ho
 case nilCheck x=>
  obtain⟨⟨ad,had⟩,hok⟩:=ZH (ρ:=ρ) H (E x) ho;rw[had]at hok⊢;exact hok
 case binOp op t x y yt=>
  simp only[BV]at ho;obtain⟨r,hr,rfl⟩:=ho;exact xl H (E x) (E y) x y hr
 case unOp op t x=>exact ADg H (E x) ho
 case makeInterface t x=>exact tF H (E x) ho
 case makeFunc f x y=>exact Y6 H he ho
 case makeMap t r=>exact c9 H hf ho
 case makeSlice t l c=>exact Wi H hf (E l) (E c) ho
 case slice t x lo hi mx=>exact aN H (E x) (iZ.map he lo) (iZ.map he hi) (iZ.map he mx) ho
 case fieldAddr t x k=>exact WI H (E x) ho
 case field t x k=>exact sH H (E x) ho
 case indexAddr t x i=>exact WX H (E x) (E i) ho
 case index t x i=>exact tH H (E x) (E i) ho
 case lookup t m k ok=>exact nJ H (E m) (E k) ho
 case mapUpdate t m k v=>exact U0 H (E m) (E k) (E v) ho
 case typeAssert x xt t ok=>
  cases ok with
  |true=>exact ir H (E x) ho
  |false=>cases ho
 case extract x k=>exact bo H (E x) ho
 case call c=>exact xp H hf he ho
variable{P:Program}{mix:List TypeId}{g g':G}
variable{vs:List AV}{x:AV}
theorem KO{id:Id}(hx:x∈vs)(hi:id∈AD x):id∈A5 vs:=by
 induction vs with
 |nil=>cases hx
 |cons v vs ih=>
  simp only[A5,EX];rcases Ce.1 hx with rfl|hx
  .exact .inl hi
  .exact .inr (ih hx)
theorem Ly{id:Id}(h:id∈A5 vs): ∃x∈vs,id∈AD x:=by
 induction vs with
 |nil=>simp[A5]at h
 |cons v vs ih=>
  simp only[A5,EX]at h;rcases h with h|h
  .exact⟨v,by simp,h⟩
  .obtain⟨x,hx,h⟩:=ih h;exact⟨x,by simp[hx],h⟩
theorem Uq(v:AV)(id:Id):id∈A5 v.cells↔id∈AD v:=by
 cases v<;>simp[AV.cells,A5,AD]
def At(g g':G)(l:List Id):Prop:= ∀id∈l,g id=g' id
theorem At.mono{l m:List Id}(h:At g g' l)(hs: ∀id∈m,id∈l):At g g' m:=fun id hi=>h id (hs id hi)
variable{v:AV}
theorem SD(h:At g g' (AD v)):FB g v=FB g' v:=by
 cases v<;>try rfl
 rename_i id off n;simp only[FB,h id (by simp[AD])]
theorem Y8(h:At g g' (AD v)):Jk g v=Jk g' v:=by
 cases v<;>try rfl
 rename_i id off n;simp only[Jk,h id (by simp[AD])]
theorem QO(h:At g g' (A5 vs)):Ct g vs=Ct g' vs:=by
 induction vs with
 |nil=>rfl
 |cons v vs ih=>
  simp only[Ct,SD (v:=v) (h.mono fun id hi=>KO (by simp) hi),ih (h.mono fun id hi=>by simp[A5,hi])]
theorem Ov(h:At g g' (A5 vs)):Bs g vs=Bs g' vs:=by
 induction vs with
 |nil=>rfl
 |cons v vs ih=>
  simp only[Bs,D2]at ih⊢;rw[Y8 (v:=v) (h.mono fun id hi=>KO (by simp) hi),ih (h.mono fun id hi=>by simp[A5,hi])]
variable{es:List (List AV)}
theorem Jg(h:At g g' (es.flatMap A5)):Cx g es=Cx g' es:=by
 induction es with
 |nil=>rfl
 |cons v vs ih=>
  simp only[Cx,QO (vs:=v) (h.mono fun id hi=>by simp[hi]),ih (h.mono fun id hi=>by simp only[D2,EX];exact .inr hi)]
theorem Ku(h:At g g' (es.flatMap A5)):es.flatMap (Bs g)=es.flatMap (Bs g'):=by
 induction es with
 |nil=>rfl
 |cons v vs ih=>
  simp only[D2,Ov (vs:=v) (h.mono fun id hi=>by simp[hi]),ih (h.mono fun id hi=>by simp only[D2,EX];exact .inr hi)]
variable{i:TI}{a:AV}
theorem Y4(h:At g g' (AD a)):JH g i a=JH g' i a:=by
 cases a<;>try rfl
 .rename_i id off;simp only[JH,h id (by simp[AD])]
 .rename_i id k off;simp only[JH,h id (by simp[AD])]
theorem W9(h:At g g' (AD a))(hv:At g g' (AD v)):JW g i a v=JW g' i a v:=by
 have hc:At g g' (A5 v.cells):=hv.mono fun id hi=>(Uq v id).1 hi;unfold JW;cases a<;>try rfl
 .rename_i id off;simp only[h id (by simp[AD])]
 .rename_i id k off;simp only[h id (by simp[AD]),QO hc,Ov hc]
variable{n:Id}{j:TI}
theorem IV(h:At g g' (es.flatMap A5)):newArr g n j es=newArr g' n j es:=by
 simp only[newArr,Jg h,Ku h]
theorem WB(h:At g g' (AD x)):Dm g x=Dm g' x:=by
 cases x
 case em id off n=>simp only[Dm,h id (by simp[AD])]
 case d y=>cases y<;>rfl
 all_goals rfl
variable{off k sz:Nat}{src:List (List AV)}
theorem XZ{id:Id}{es:List (List AZ)}(h:At g g' (src.flatMap A5)):appIn g n id off k sz es src=appIn g' n id off k sz es src:=by
 simp only[appIn,Jg h,Ku h]
variable{s:AV}
theorem Xb(hs:At g g' (AD s))(h:At g g' (src.flatMap A5)):appTo g n j s src=appTo g' n j s src:=by
 cases s
 case ci=>exact IV h
 case emp=>exact IV h
 case em id off k=>simp only[appTo,hs id (by simp[AD]),XZ h]
 all_goals rfl
theorem NY(l:List AZ):A5 (l.map .d)=[]:=by
 induction l with
 |nil=>rfl
 |cons x l ih=>simp[A5,AD,ih]
theorem cH(es:List (List AZ)):(es.map (·.map AV.d)).flatMap A5=[]:=by
 induction es with
 |nil=>rfl
 |cons x l ih=>simp[NY]
variable{α:Type}{l:List α}
theorem zh{r:List α}{n:Nat}(h:JZ l off n=some r){x:α}(hx:x∈r):x∈l:=by
 unfold JZ at h;split at h
 .cases h;exact LM (LI hx)
 .cases h
theorem jo(h:Dm g x=some src): ∀id∈src.flatMap A5,id∈Cp g (AD x):=by
 intro id hid;unfold Dm at h;split at h
 .cases h;rw[cH]at hid;cases hid
 .cases h;cases hid
 .cases h;cases hid
 .rename_i i off n;obtain⟨e,he,hie⟩:=Bi.1 hid;cases hg:N6 (g i)with
  |none=>rw[hg]at h;cases h
  |some es=>
   rw[hg]at h;have he':=zh h he;unfold N6 at hg;split at hg
   .cases hg;obtain⟨y,_,rfl⟩:=F0.1 he';rw[NY]at hie;cases hie
   .cases hg;obtain⟨y,_,rfl⟩:=F0.1 he';rw[NY]at hie;cases hie
   .rename_i sz es' hgi;cases hg;refine Ge _ (Bi.2 ⟨i,by simp[AD],?_⟩);simp only[hgi];exact Bi.2 ⟨e,he',hie⟩
   .cases hg
 .cases h
theorem TU(hs:At g g' (AD s))(hx:At g g' (Cp g (AD x))):appendV g n j s x=appendV g' n j s x:=by
 have he:=WB (hx.mono fun id hi=>HU _ hi);unfold appendV;rw[←he];cases h:Dm g x with
 |none=>rfl
 |some src=>
  have h2:appTo g n j s src=appTo g' n j s src:=Xb hs (hx.mono fun id hi=>jo h id hi);cases src with
  |nil=>rfl
  |cons a l=>simp only[h2]
theorem ct{k:TK}(h:At g g' (AD x)):We g k x=We g' k x:=by
 cases x
 case mp id=>cases k<;>simp only[We,h id (by simp[AD])]
 case d y=>cases y<;>cases k<;>rfl
 all_goals (cases k<;>rfl)
variable{T:TypeId→Option TI}{t:Option TI}{m:AV}
theorem Ou{k:AV}(h:At g g' (AD m)):mapPut T g t m k v=mapPut T g' t m k v:=by
 unfold mapPut;cases m
 case mp id=>
  have e:=h id (by simp[AD]);cases LX k<;>simp only[e]
 all_goals rfl
theorem Sf{k:AV}{ok:Bool}(h:At g g' (AD m)):FI T g m k ok t=FI T g' m k ok t:=by
 unfold FI;cases t with
 |none=>rfl
 |some i=>
  cases m
  case mp id=>
   have e:=h id (by simp[AD]);obtain⟨kind,size,agg,str,zero,flds,elem,key,mx⟩:=i;simp only;generalize LX k=d;generalize T key=tk;cases d<;>cases kind<;>cases tk<;>first|rfl|simp only[e]
  all_goals rfl
theorem Yu{n:Int}(h:At g g' (AD x)):NG g n x j=NG g' n x j:=by
 unfold NG;cases x
 case em id off n=>simp only[h id (by simp[AD])]
 case d y=>cases y<;>rfl
 all_goals rfl
theorem O3{i:AV}(h:At g g' (AD x)):C1 T g x i t=C1 T g' x i t:=by
 unfold C1;simp only[Yu h]
theorem W7{id:Id}{b:Option (Nat×Nat×Option Nat)}(h:g id=g' id):Ns g sz id off b=Ns g' sz id off b:=by
 unfold Ns;simp only[h]
variable{lo hi mx:Option AV}
theorem W8{k:TK}(h:At g g' (AD x)):EU g k sz x lo hi mx=EU g' k sz x lo hi mx:=by
 cases x
 case em id off n=>cases k<;>simp only[EU,W7 (h id (by simp[AD]))]
 case d y=>cases y<;>cases k<;>rfl
 all_goals (cases k<;>rfl)
theorem Tk(h:At g g' (AD x)):Gy T g x lo hi mx t=Gy T g' x lo hi mx t:=by
 unfold Gy;simp only[W8 h]
theorem Tj(h:At g g' (AD x)):GA T g t x=GA T g' t x:=by
 unfold GA;cases t with
 |none=>rfl
 |some i=>
  obtain⟨kind,size,agg,str,zero,flds,elem,key,mx⟩:=i;simp only;cases x
  case em id off n=>
   have e:=h id (by simp[AD]);cases kind
   case slice=>simp only[HP,e]
   all_goals rfl
  all_goals (cases kind<;>rfl)
theorem xP(z:Value):A5 (z.cells.toList.map DH)=[]:=by
 generalize z.cells.toList=l;induction l with
 |nil=>rfl
 |cons v l ih=>
  simp only[D8,A5,ih,D9];unfold DH;split<;>rfl
theorem iW{t:TypeId}(h:Bt P mix t=some i):A5 i.zero=[]:=by
 obtain⟨info,d,z,h1,h2,h3,h4,rfl⟩:=A9 h;exact xP z
theorem ABB{n:Nat}{l:List AV}(h:A5 l=[]):(List.replicate n l).flatMap A5=[]:=by
 induction n with
 |zero=>rfl
 |succ n ih=>simp[RT,h]
theorem Ti{t:TypeId}(h:Bt P mix t=some j):Fz g n k j=Fz g' n k j:=by
 unfold Fz;cases k with
 |zero=>rfl
 |succ k=>exact IV (by rw[ABB (iW h)];intro id hi;cases hi)
theorem fj{r new:List α}(h:B6 l off new=some r){x:α}(hx:x∈r):x∈l∨x∈new:=by
 unfold B6 at h;split at h
 .cases h;simp only[EX]at hx;rcases hx with(hx|hx)|hx
  .exact .inl (LI hx)
  .exact .inr hx
  .exact .inl (LM hx)
 .cases h
theorem ND{pl:Nat→Option (Nat×Nat)}: ∀{ps:List (Nat×AV)} {cs r:List AV},Ch pl cs ps=some r→ ∀x∈r,x∈cs∨ ∃p∈ps,x∈p.2.cells
 |[],cs,r,h,x,hx=>by simp only[Ch,Bv]at h;subst h;exact .inl hx
 |(i,v)::ps,cs,r,h,x,hx=>by
  simp only[Ch]at h;split at h
  .split at h
   .cases hs:B6 cs _ v.cells with
    |none=>rw[hs]at h;cases h
    |some cs'=>
     rw[hs]at h;rcases ND h x hx with h1|⟨p,hp,h1⟩
     .rcases fj hs h1 with h2|h2
      .exact .inl h2
      .exact .inr ⟨(i,v),by simp,h2⟩
     .exact .inr ⟨p,by simp[hp],h1⟩
   .cases h
  .cases h
theorem Rp: ∀{n:Nat} {l:List α} {c:List α},c∈Gn sz n l→ ∀x∈c,x∈l
 |0,_,_,h,_,_=>by cases h
 |n+1,l,c,h,x,hx=>by
  simp only[Gn,Ce]at h;rcases h with rfl|h
  .exact LI hx
  .exact LM (Rp h x hx)
variable{nw:Id}{ps:List (Nat×AV)}
theorem Rj{n:Nat}{t:TypeId}(ht:Bt P mix t=some j)(h:At g g' (ps.flatMap fun p=>AD p.2)):Gl g nw n ps j=Gl g' nw n ps j:=by
 unfold Gl;cases hf:Ch (fun k=>some (k*j.size,j.size)) ((List.replicate n j.zero).flatten) ps with
 |none=>rfl
 |some cs=>
  have:newArr g nw j (Gn j.size n cs)=newArr g' nw j (Gn j.size n cs):=by
   refine IV fun id hi=>?_;obtain⟨c,hc,hi⟩:=Bi.1 hi;obtain⟨x,hx,hi⟩:=Ly hi;rcases ND hf x (Rp hc x hx)with h1|⟨p,hp,h1⟩
   .obtain⟨l,hl,hx⟩:=Mp.1 h1;rw[PI hl]at hx;have:=KO hx hi;rw[iW ht]at this;cases this
   .exact h id (Bi.2 ⟨p,hp,(Uq _ _).1 (KO h1 hi)⟩)
  cases n with
  |zero=>rfl
  |succ n=>simp only[this]
theorem Nh{n:Nat}(h:At g g' (ps.flatMap fun p=>AD p.2)):Cd (Bt P mix) g nw n ps t=Cd (Bt P mix) g' nw n ps t:=by
 unfold Cd;cases t with
 |none=>rfl
 |some i=>
  obtain⟨kind,size,agg,str,zero,flds,elem,key,mx⟩:=i;simp only;cases hj:Bt P mix elem with
  |none=>cases kind<;>rfl
  |some j=>cases kind<;>first|rfl|simp only[Rj hj h]
theorem O4{l c:AV}:Cn (Bt P mix) g nw l c t=Cn (Bt P mix) g' nw l c t:=by
 unfold Cn;cases t with
 |none=>rfl
 |some i=>
  obtain⟨kind,size,agg,str,zero,flds,elem,key,mx⟩:=i;simp only;cases hj:Bt P mix elem with
  |none=>cases kind<;>rfl
  |some j=>
   cases kind
   case slice=>
    cases l<;>try rfl
    rename_i x;cases x<;>try rfl
    cases c<;>try rfl
    rename_i y;cases y<;>try rfl
    simp only[Ti hj (g:=g) (g':=g')]
   all_goals rfl
theorem Se{u:Option TI}(hs:At g g' (AD s))(hx:At g g' (Cp g (AD x))):Hr T g nw t u s x=Hr T g' nw t u s x:=by
 unfold Hr;simp only[TU hs hx]
def J8(e e':Nat→AV)(op:Op):Prop:= ∀x∈op.operands,ev e x=ev e' x
variable{e:Nat→AV}{op:Op}
theorem N7(h:At g g' (Di e op)){x:Operand}(hx:x∈op.operands):At g g' (AD (ev e x)):=
 h.mono fun _ hi=>Bi.2 ⟨x,by simpa using hx,hi⟩
variable{e':Nat→AV}
theorem NB{ps:Array (Nat×Operand)}(h: ∀p∈ps,ev e p.2=ev e' p.2):EI e ps=EI e' ps:=by
 unfold EI;exact List.map_congr_left fun p hp=>by rw[h p (by simpa using hp)]
theorem Nf{x:Option Operand}(h: ∀y∈x,ev e y=ev e' y):x.map (ev e)=x.map (ev e'):=by
 cases x with
 |none=>rfl
 |some y=>simp[h y rfl]
theorem FE{x:Array Operand}(h: ∀y∈x,ev e y=ev e' y):x.toList.map (ev e)=x.toList.map (ev e'):=
 List.map_congr_left fun y hy=>h y (by simpa using hy)
theorem WG(he:J8 e e' op)(h:At g g' (E5 e g op)):evalOp (Bt P mix) e g n op=evalOp (Bt P mix) e' g' n op:=by
 cases op<;>try rfl
 case move x=>simp only[evalOp,he x (by simp[Op.operands])]
 case assign x=>simp only[evalOp,he x (by simp[Op.operands])]
 case pick c a b=>simp only[evalOp,he c (by simp[Op.operands]),he a (by simp[Op.operands]),he b (by simp[Op.operands])]
 case box t x=>simp only[evalOp,he x (by simp[Op.operands])]
 case build t ps=>
  simp only[evalOp];rw[NB fun p hp=>he p.2 (by simp[Op.operands];exact⟨p.1,hp⟩)]
 case buildSlice t k ps=>
  have hp: ∀p∈ps,p.2∈(Op.buildSlice t k ps).operands:=fun p hp=>by simp[Op.operands];exact⟨p.1,hp⟩
  simp only[evalOp];rw[NB fun p hp'=>he p.2 (hp p hp')];refine Nh fun id hi=>?_;obtain⟨q,hq,hi⟩:=Bi.1 hi;obtain⟨p,hp',rfl⟩:=F0.1 hq;rw[←he p.2 (hp p (by simpa using hp'))]at hi;exact N7 h (hp p (by simpa using hp')) id hi
 case insert t m k v=>
  simp only[evalOp];rw[←he m (by simp[Op.operands]),←he k (by simp[Op.operands]),←he v (by simp[Op.operands])];exact Ou (N7 h (by simp[Op.operands]))
 case load t x=>
  simp only[evalOp];rw[←he x (by simp[Op.operands])];cases ht:Bt P mix t with
  |none=>rfl
  |some i=>simp only[Kz,Y4 (N7 h (x:=x) (by simp[Op.operands]))]
 case store t a x=>
  simp only[evalOp];rw[←he a (by simp[Op.operands]),←he x (by simp[Op.operands])];cases ht:Bt P mix t with
  |none=>rfl
  |some i=>simp only[IX,W9 (N7 h (x:=a) (by simp[Op.operands])) (N7 h (x:=x) (by simp[Op.operands]))]
 case nilCheck x=>simp only[evalOp,he x (by simp[Op.operands])]
 case binOp op t x y yt=>simp only[evalOp,he x (by simp[Op.operands]),he y (by simp[Op.operands])]
 case unOp op t x=>simp only[evalOp,he x (by simp[Op.operands])]
 case makeInterface t x=>simp only[evalOp,he x (by simp[Op.operands])]
 case makeFunc f x y=>
  simp only[evalOp];rw[FE (e:=e) (e':=e') (x:=x) fun z hz=>he z (by simp[Op.operands,hz]),FE (e:=e) (e':=e') (x:=y) fun z hz=>he z (by simp[Op.operands,hz])]
 case makeSlice t l c=>
  simp only[evalOp];rw[he l (by simp[Op.operands]),he c (by simp[Op.operands])];exact O4
 case slice t x lo hi mx=>
  simp only[evalOp];rw[←he x (by simp[Op.operands]),Nf (e:=e) (e':=e') (x:=lo) fun z hz=>he z (by simp[Op.operands]at hz⊢;simp[hz]),
   Nf (e:=e) (e':=e') (x:=hi) fun z hz=>he z (by simp[Op.operands]at hz⊢;simp[hz]),Nf (e:=e) (e':=e') (x:=mx) fun z hz=>he z (by simp[Op.operands]at hz⊢;simp[hz])]
  exact Tk (N7 h (by simp[Op.operands]))
 case fieldAddr t x k=>simp only[evalOp,he x (by simp[Op.operands])]
 case field t x k=>simp only[evalOp,he x (by simp[Op.operands])]
 case indexAddr t x i=>
  simp only[evalOp];rw[←he x (by simp[Op.operands]),←he i (by simp[Op.operands])];exact O3 (N7 h (by simp[Op.operands]))
 case index t x i=>simp only[evalOp,he x (by simp[Op.operands]),he i (by simp[Op.operands])]
 case lookup t m k ok=>
  simp only[evalOp];rw[←he m (by simp[Op.operands]),←he k (by simp[Op.operands])];exact Sf (N7 h (by simp[Op.operands]))
 case mapUpdate t m k v=>
  simp only[evalOp];rw[←he m (by simp[Op.operands]),←he k (by simp[Op.operands]),←he v (by simp[Op.operands])];exact Ou (N7 h (by simp[Op.operands]))
 case typeAssert x xt t ok=>
  simp only[evalOp,he x (by simp[Op.operands])]
 case extract x k=>simp only[evalOp,he x (by simp[Op.operands])]
 case call c=>
  obtain⟨callee,args,ats⟩:=c;simp only[evalOp,J3];cases callee with
  |value f=>rfl
  |invoke r m=>rfl
  |builtin b=>
   simp only;have ha: ∀x∈args,x∈(Op.call ⟨.builtin b,args,ats⟩).operands:=fun x hx=>by simp[Op.operands,Call.operands,hx]
   rw[←FE fun x hx=>he x (ha x hx)];have hids: ∀x,x∈args.toList.map (ev e)→ ∀id∈AD x,id∈Di e (Op.call ⟨.builtin b,args,ats⟩):=by
    intro x hx id hi;obtain⟨y,hy,rfl⟩:=F0.1 hx;exact Bi.2 ⟨y,by simpa using ha y (by simpa using hy),hi⟩
   generalize args.toList.map (ev e)=as at hids;unfold GX;cases b<;>try rfl
   .simp only[E5]at h;have h1: ∀x∈as,At g g' (AD x):=fun x hx=>h.mono fun id hi=>HU _ (hids x hx id hi);have h2: ∀x∈as,At g g' (Cp g (AD x)):=fun x hx=>h.mono fun id hi=>by
     rcases EX.1 hi with hi|hi
     .exact HU _ (hids x hx id hi)
     .obtain⟨i,h3,h4⟩:=Bi.1 hi;exact Ge _ (Bi.2 ⟨i,hids x hx i h3,h4⟩)
    match as,ats.toList with
    |[],_=>rfl
    |[_],_=>rfl
    |[s,x],[t,u]=>exact Se (h1 s (by simp)) (h2 x (by simp))
    |[_,_],[]=>rfl
    |[_,_],[_]=>rfl
    |[_,_],_::_::_::_=>rfl
    |_::_::_::_,_=>rfl
   .simp only[E5]at h;have h1: ∀x∈as,At g g' (AD x):=fun x hx=>h.mono fun id hi=>hids x hx id hi
    match as,ats.toList with
    |[],_=>rfl
    |[x],[]=>rfl
    |[x],[t]=>exact Tj (h1 x (by simp))
    |[x],_::_::_=>rfl
    |_::_::_,_=>rfl
   .simp only[E5]at h;have h1: ∀x∈as,At g g' (AD x):=fun x hx=>h.mono fun id hi=>hids x hx id hi
    match as,ats.toList with
    |[],_=>rfl
    |[x],[]=>rfl
    |[x],[t]=>
     simp only;cases ht:Bt P mix t with
     |none=>rfl
     |some i=>simp only[ct (h1 x (by simp))]
    |[x],_::_::_=>rfl
    |_::_::_,_=>rfl
end Go.Abs
