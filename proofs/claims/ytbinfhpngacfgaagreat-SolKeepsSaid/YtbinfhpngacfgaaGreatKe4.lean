/-
  Parts of it.
-/
import Derived.MapKept
import Derived.Test.YtbinfhpngacfgaaGreatKe3
set_option linter.all false
namespace Go.Abs
variable{A:Nat→Prop}{P:Program}{mix:List TypeId}{β:Aw}{w:World}{M:Nat→Prop}
variable{r:Nat}{o:Go.Obj}
theorem JZ(h:w.heap[r]? =some o)(hc: ∀c e f,o≠ .cells c e f):(getObj r).run P w=.ok o w:=by
 cases o<;>first|exact absurd rfl (hc _ _ _)|simp only[getObj,Sem.run,h]
theorem Ha{o':Go.Obj}(h:w.heap[r]? =some o)(hc: ∀c e f,o≠ .cells c e f):(setObj r o').run P w=.ok () (World.ii w r o'):=by
 cases o<;>first|exact absurd rfl (hc _ _ _)|(simp only[setObj,Sem.run,h];rfl)
theorem XP{t:TypeId}{d:TypeDesc}(h2:P.underlying t=some d){x:Aa}(hk:J3 (Cm P t d) x=true){v:Value}(hv:DR w M x v):
 (∀b n,(Instr.checkKey b (n+1) t v).run P w=.ok () w)∧ ∀{y:Aa} {u:Value} {r:Bool},DR w M y u→HJ y x=some r→Instr.sameNow d v u=some r:=by
 cases x<;>cases hkd:Cm P t d<;>simp[J3,hkd]at hk
 .obtain⟨k,rfl⟩:=wB hkd;cases hv;refine⟨fun b n=>by simp[Instr.checkKey,run_underlying h2],fun{y u r} hu he=>?_⟩;cases y<;>simp[HJ]at he;obtain⟨rfl,rfl⟩:=he;cases hu;simp[Instr.sameNow,Bool.beq_comm]
 .have:=VV hkd;subst this;cases hv;refine⟨fun b n=>by simp[Instr.checkKey,run_underlying h2],fun{y u r} hu he=>?_⟩;cases y<;>simp[HJ]at he;subst he;cases hu;simp[Instr.sameNow,Bool.beq_comm]
 .have:=MJ hkd;subst this;cases hv;refine⟨fun b n=>by simp[Instr.checkKey,run_underlying h2],fun{y u r} hu he=>?_⟩;cases y<;>simp[HJ]at he;subst he;cases hu;simp only[Instr.sameNow,CE];rw[beq_toListBytes,beq_toListBytes,Bool.beq_comm]
theorem XD{t:TypeId}{d:TypeDesc}(h2:P.underlying t=some d){x:Aa}(hk:J3 (Cm P t d) x=true){v:Value}(hv:DR w M x v): ∀(es:List (Aa×AV)) (en:List MapEntry) (i:Nat) (r:Option AV),
 es.length=en.length→(∀(j:Nat) p e,es[j]? =some p→en[j]? =some e→DR w M p.1 e.key∧VR β w M p.2 e.val)→C4 es x=some r→
 (r=none∧Instr.findNow d v en i=some none∧ ∀y,Ec es x y=es++[(x,y)])∨
 (∃av j p e,r=some av∧es[j]? =some p∧en[j]? =some e∧p.2=av∧Instr.findNow d v en i=some (some (i+j,e.val))∧HJ p.1 x=some true∧ ∀y,Ec es x y=es.set j (p.1,y))
 |[],en,i,r,hl,_,hg=>by
  have:en=[]:=LM.1 hl.symm;subst this;simp only[C4,CE]at hg;exact .inl ⟨hg.symm,rfl,fun _=>rfl⟩
 |(k,u)::es,en,i,r,hl,hr,hg=>by
  cases en with
  |nil=>simp at hl
  |cons e en=>
   obtain⟨h0,h0'⟩:=hr 0 (k,u) e rfl rfl;simp only[C4]at hg;split at hg
   .rename_i heq;cases hg;have hs:=(XP h2 hk hv).2 h0 heq;exact .inr ⟨u,0,(k,u),e,rfl,rfl,rfl,rfl,by simp[Instr.findNow,hs],heq,fun y=>by simp[Ec,heq]⟩
   .rename_i heq;have hs:=(XP h2 hk hv).2 h0 heq;rcases XD h2 hk hv es en (i+1) r (by simpa using hl) (fun j p e hp he=>hr (j+1) p e (by simpa using hp) (by simpa using he)) hg with⟨a,b,c⟩|⟨av,j,p,e',a,b1,b2,b3,c,dq,f⟩
    .exact .inl ⟨a,by simp[Instr.findNow,hs,b],fun y=>by simp[Ec,heq,c]⟩
    .exact .inr ⟨av,j+1,p,e',a,by simpa using b1,by simpa using b2,b3,by simp[Instr.findNow,hs,c];omega,dq,fun y=>by simp[Ec,heq,f]⟩
   .cases hg
theorem pW{h:AD}(H:HR A β w h){ρ:List Nat}{t:TypeId}{m k:AV}{vm vk:Value}{ok:Bool}(hm:VR β w (MS A β h) m vm)(hk:VR β w (MS A β h) k vk){eff:CU}
 (ho:FW (B6 P mix) h.get m k ok (B6 P mix t)=some eff):Dr A ρ β w h ((do pure (.value (←Instr.lookup t vm vk ok)):Sem Next).run P w) eff:=by
 cases ht:B6 P mix t with
 |none=>simp[FW,ht]at ho
 |some i=>
  obtain⟨info,d,z,h1,h2,h3,_,rfl⟩:=BC ht;simp only[FW,ht]at ho;split at ho
  .rename_i id x kt hdat hkind hkt;obtain⟨ke,el,rfl⟩:=Sz hkind;simp only[XO]at hkt;obtain⟨ki,kd,kz,k1,k2,k3,_,hke⟩:=BC hkt;split at ho
   .rename_i es hkey hg;have hkk:kt.kind=Cm P ke kd:=by rw[hke]
    rw[hkk]at hkey;split at ho
    .rename_i r j hget hj;simp only[Im]at hj;obtain⟨ji,jd,jz,j1,j2,j3,⟨_,_,jzs,jza⟩,hje⟩:=BC hj;have hxk:DR w (MS A β h) x vk:=by
      unfold L6 at hdat;split at hdat
      .cases hdat;cases hk with|d hd=>exact hd
      .cases hdat
     obtain⟨kb,hkb,en,cl,q1,q2,q3⟩:=H.obj id _ hg;cases hm with
     |mp _ k' hk'=>
      rw[hkb]at hk';cases hk';have hgo:=JZ (P:=P) q1 (by simp);have hck:=fun b=>(XP (P:=P) (w:=w) (M:=MS A β h) k2 hkey hxk).1 b 9999;have hmk: ∀(ag:Bool),Lu jd=ag→True:=fun _ _=>trivial;unfold LL at ho;have hzero: ∀zz,Fk j.agg j.zero=some zz→VR β w (MS A β h) zz jz:=fun zz hz=>by
       rw[hje]at hz;exact cF jza hz
      have two: ∀{a:AV} {u:Value} {b:Bool},VR β w (MS A β h) a u→VR β w (MS A β h) (.ge [a,.d (.bool b)]) (.tuple #[u,.bool b]):=by
       intro a u b hu;refine .ge _ _ rfl fun i x v hx hv=>?_
       match i with
       |0=>simp at hx hv;subst hx hv;exact hu
       |1=>simp at hx hv;subst hx hv;exact .d (.bool _)
       |i+2=>simp at hx
      rcases XD (β:=β) k2 hkey hxk es en.toList 0 r (by simpa using q2) (fun a p e hp he=>q3 a p e hp (by simpa using he)) hget with⟨rfl,b,_⟩|⟨av,jj,p,e,rfl,b1,b2,rfl,c,_⟩
      .split at ho
       .rename_i heq;cases heq
       .rename_i zz hz;cases ho;have hr:((do pure (.value (←Instr.lookup t (.map (some kb.b)) vk ok)):Sem Next).run P w)=.ok (.value (if ok then .tuple #[jz,.bool false]else jz)) w:=by
         simp[Instr.lookup,run_underlying h2,hgo,hck,Instr.findKey,run_underlying k2,b,Dd j1 j3]
        cases ok
        .exact .plain H (v:=jz) (by rw[hr];rfl) rfl (hzero _ hz)
        .exact .plain H (v:=.tuple #[jz,.bool false]) (by rw[hr];rfl) rfl (two (hzero _ hz))
       .cases ho
      .have hval:VR β w (MS A β h) p.2 e.val:=(q3 jj p e b1 (by simpa using b2)).2;split at ho
       .rename_i heq;cases heq;cases ho;have hr:((do pure (.value (←Instr.lookup t (.map (some kb.b)) vk ok)):Sem Next).run P w)=.ok (.value (if ok then .tuple #[e.val,.bool true]else e.val)) w:=by
         simp[Instr.lookup,run_underlying h2,hgo,hck,Instr.findKey,run_underlying k2,c]
        cases ok
        .exact .plain H (v:=e.val) (by rw[hr];rfl) rfl hval
        .exact .plain H (v:=.tuple #[e.val,.bool true]) (by rw[hr];rfl) rfl (two hval)
       all_goals first
        |(rename_i hh _;exact(hh _ rfl).elim)
        |(rename_i heq _;cases heq)
        |cases ho
    .cases ho
   .cases ho
  .cases ho
theorem tL{a b:ByteArray}(h:(a==b)=true):a=b:=by
 rw[beq_toListBytes,ByteArray.toList_eq,ByteArray.toList_eq,beq_iff_eq]at h;obtain⟨⟨x⟩⟩:=a;obtain⟨⟨y⟩⟩:=b;simp at h;rw[h]
theorem tn{x y:Aa}(h:HJ y x=some true):y=x:=by
 cases y<;>cases x<;>simp[HJ]at h
 .obtain⟨rfl,rfl⟩:=h;rfl
 .rw[h]
 .exact congrArg Aa.str (tL h)
theorem bZ{x y:Aa}{v u:Value}(hv:DR w M x v)(hu:DR w M y u)(h:HJ y x=some true): ∀n,Instr.sameBits n u v=true:=by
 intro n;cases y<;>cases x<;>simp[HJ]at h
 .obtain⟨rfl,rfl⟩:=h;cases hv;cases hu;simp[Instr.sameBits]
 .subst h;cases hv;cases hu;simp[Instr.sameBits]
 .cases hv;cases hu;simpa[Instr.sameBits]using h
theorem VY{h:AD}(H:HR A β w h){ρ:List Nat}{t:TypeId}{m k v:AV}{vm vk vv:Value}(hm:VR β w (MS A β h) m vm)(hk:VR β w (MS A β h) k vk)(hv:VR β w (MS A β h) v vv){eff:CU}
 (ho:mapPut (B6 P mix) h.get (B6 P mix t) m k v=some eff):Dr A ρ β w h ((do Instr.mapUpdate t vm vk vv;pure .skip:Sem Next).run P w) eff:=by
 unfold mapPut at ho;split at ho
 .cases ho
 .rename_i hcond;split at ho
  .rename_i id x hdat;rw[hdat]at hcond;cases ht:B6 P mix t with
   |none=>simp[ht]at hcond
   |some i=>
    obtain⟨info,d,z,h1,h2,h3,_,rfl⟩:=BC ht;simp only[ht]at hcond;split at hcond
    .rename_i kt hkind hkt;obtain⟨ke,el,rfl⟩:=Sz hkind;simp only[XO]at hkt;obtain⟨ki,kd,kz,k1,k2,k3,_,hke⟩:=BC hkt;have hkk:kt.kind=Cm P ke kd:=by rw[hke]
     rw[hkk,AP]at hcond;obtain⟨hkey,_⟩:=hcond;split at ho
     .rename_i es hg;split at ho
      .rename_i r hget;cases ho;have hxk:DR w (MS A β h) x vk:=by
        unfold L6 at hdat;split at hdat
        .cases hdat;cases hk with|d hd=>exact hd
        .cases hdat
       obtain⟨kb,hkb,en,cl,q1,q2,q3⟩:=H.obj id _ hg;cases hm with
       |mp _ k' hk'=>
        rw[hkb]at hk';cases hk';have hgo:=JZ (P:=P) q1 (by simp);have hck:=fun b=>(XP (P:=P) (w:=w) (M:=MS A β h) k2 hkey hxk).1 b 9999;have done: ∀(es':List (Aa×AV)) (en':Array MapEntry) (cl':Nat),Ec es x v=es'→es'.length=en'.size→
           (∀(M':Nat→Prop) (w':World),EG A (MS A β h) w M' w'→ ∀(i:Nat) p e,es'[i]? =some p→en'[i]? =some e→DR w' M' p.1 e.key∧VR β w' M' p.2 e.val)→
           (Instr.mapUpdate t (.map (some kb.b)) vk vv).run P w=.ok () (World.ii w kb.b (.map en' cl'))→
           Dr A ρ β w h ((do Instr.mapUpdate t (.map (some kb.b)) vk vv;pure .skip:Sem Next).run P w) ⟨.undef,[(id,.map (Ec es x v))]⟩:=by
         intro es' en' cl' e1 e2 e3 e4;rw[e1];have hpr:=HA H (o':=.map es') hg rfl hkb (.map en' cl');refine .skip (w':=World.ii w kb.b (.map en' cl')) (by simp[e4]) rfl ?_ hpr (K4 _ (As.2 rfl) hkb);exact H.upd' hg rfl hkb ⟨en',cl',Hv _ (AI q1),e2,e3 _ _ hpr⟩
        rcases XD (β:=β) k2 hkey hxk es en.toList 0 r (by simpa using q2) (fun a p e hp he=>q3 a p e hp (by simpa using he)) hget with⟨rfl,b,f⟩|⟨av,jj,p,e,rfl,b1,b2,rfl,c,dq,f⟩
        .refine done (es++[(x,v)]) (en.push {key:=vk,val:=vv,born:=cl}) (cl+1) (f v) (by simp[q2]) ?_ ?_
         .intro M' w' hp i p e hp' he;rw[OK]at he;by_cases hi:i=en.size
          .subst hi;rw[Ce (by omega)]at hp';simp[q2]at hp' he;subst hp' he;exact⟨hxk.mono hp,hv.mono (.refl β) hp⟩
          .rw[CI hi]at he;have hlt:i<es.length:=by rw[q2];exact(IS.1 he).1
           rw[Be hlt]at hp';exact⟨(q3 i p e hp' he).1.mono hp,(q3 i p e hp' he).2.mono (.refl β) hp⟩
         .simp[Instr.mapUpdate,run_underlying h2,hgo,hck,Instr.findKey,run_underlying k2,b,Ha (P:=P) q1 (by simp)]
        .have hrel:=q3 jj p e b1 (by simpa using b2);have hje:en[jj]? =some e:=by simpa using b2
         have hsb:=bZ hxk hrel.1 dq 10000;refine done (es.set jj (p.1,v)) (en.modify jj fun e=>{e with key:=vk,val:=vv}) cl (f v) (by simp[q2]) ?_ ?_
         .intro M' w' hp i p' e' hp' he;rw[Array.getElem?_modify]at he;rw[He]at hp';by_cases hi:jj=i
          .subst hi;rw[D0 rfl,hje]at he;have hlt:jj<es.length:=(BE.1 b1).1;simp[hlt]at hp' he;subst hp' he;refine⟨?_,hv.mono (.refl β) hp⟩;have:=tn dq;rw[show p=(x,p.2)from Prod.ext this rfl];exact hxk.mono hp
          .rw[CI hi]at he hp';exact⟨(q3 i p' e' hp' he).1.mono hp,(q3 i p' e' hp' he).2.mono (.refl β) hp⟩
         .have hst:(Instr.keyThatStays (((en[0+jj]?).map (·.key)).getD vk) vk).run P w=.ok vk w:=by
           rw[I4,hje];simp[Instr.keyThatStays,hsb]
          simp only[Instr.mapUpdate,Sem.run_bind,run_underlying h2,Result.andThen_ok,hgo,hck,Instr.findKey,run_underlying k2,c,Sem.run_pure,hst,Ha (P:=P) q1 (by simp)];simp
      .cases ho
     .cases ho
    .cases hcond
  .cases ho
variable{A:Nat→Prop}{P:Program}{mix:List TypeId}{β:Aw}{w:World}{M:Nat→Prop}
theorem zt{h:AD}(H:HR A β w h){ρ:List Nat}(hf: ∀id,ρ<:+id→β id=none){e:Nat→AV}{a:Act}(he:Jq β w (MS A β h) e fun t=>a.tmps.getD t Go.undef){c:Call}{ty:TypeId}{eff:CU}
 (ho:KP (B6 P mix) e h.get ρ c=some eff):Dr A ρ β w h ((do let d←resolve a.eval c ty;invoke d.target d.args:Sem Next).run P w) eff:=by
 have E:=fun x=>Ig he x;obtain⟨callee,args,ats⟩:=c;obtain⟨args⟩:=args;obtain⟨ats⟩:=ats;unfold KP at ho;split at ho
 .rename_i b hb;simp only at hb;subst hb;simp only at ho;have hrun:((do let d←resolve a.eval ⟨.builtin b,⟨args⟩,⟨ats⟩⟩ ty;invoke d.target d.args:Sem Next).run P w)=
   (builtin b ⟨ats⟩ ty ((⟨args⟩:Array Operand).map fun|.const _=>true|_=>false) (⟨args.map a.eval⟩:Array Value)).run P w:=by
   simp[resolve,invoke];rfl
  rw[hrun];unfold Gl at ho;split at ho
  .split at ho
   .rename_i x hx;split at ho
    .rename_i t;split at ho
     .rename_i i hi;simp only[BV]at ho;obtain⟨n,hn,rfl⟩:=ho
      match args,hx with
      |[ox],hx=>
       simp at hx;subst hx;have:=AEf (ρ:=ρ) (ty:=ty) H (E ox) hi hn;simpa[builtin]using this
     .cases ho
    .cases ho
   .cases ho
  .split at ho
   .rename_i s x t u hx
    match args,hx with
    |[os,ox],hx=>
     simp at hx;obtain⟨rfl,rfl⟩:=hx;have:=Wi (ty:=ty) H hf (E os) (E ox) ho;simpa[builtin]using this
   .cases ho
  .split at ho
   .rename_i x t hx
    match args,hx with
    |[ox],hx=>
     simp at hx;subst hx;have:=tf (ρ:=ρ) (ty:=ty) H (E ox) ho;simpa[builtin]using this
   .cases ho
  .split at ho
   .rename_i x y hx
    match args,hx with
    |[ox,oy],hx=>
     simp at hx;obtain⟨rfl,rfl⟩:=hx;have:=AEh (ρ:=ρ) (P:=P) (ts:=⟨ats⟩) (ty:=ty) H (E ox) (E oy) ho;simpa[builtin]using this
   .cases ho
  .split at ho
   .rename_i x y hx
    match args,hx with
    |[ox,oy],hx=>
     simp at hx;obtain⟨rfl,rfl⟩:=hx;have:=AEk (ρ:=ρ) (P:=P) (ts:=⟨ats⟩) (ty:=ty) H (E ox) (E oy) ho;simpa[builtin]using this
   .cases ho
  .cases ho
 .cases ho
theorem lu{h:AD}(H:HR A β w h){ρ:List Nat}(hf: ∀id,ρ<:+id→β id=none){e:Nat→AV}{a:Act}(he:Jq β w (MS A β h) e fun t=>a.tmps.getD t Go.undef){o:Oper}{op:Op}(hop:o.op=op){eff:CU}
 (ho:evalOp (B6 P mix) e h.get ρ op=some eff):Dr A ρ β w h ((execOp a.eval o).run P w) eff:=by
 have E:=fun x=>Ig he x;cases op<;>simp only[evalOp,reduceCtorEq,CE]at ho<;>simp only[execOp,hop]
 case move x=>subst ho;exact .plain H (v:=a.eval x) rfl rfl (E x)
 case assign x=>subst ho;exact .plain H (v:=a.eval x) rfl rfl (E x)
 case pick c x y=>exact ACq H (E c) (E x) (E y) ho
 case alloc t=>exact s7 H hf ho
 case box t x=>exact kf H hf (E x) ho
 case build t ps=>exact tK H he ho
 case buildSlice t n ps=>exact UM H hf he ho
 case insert t m k v=>exact VY H (E m) (E k) (E v) ho
 case load t x=>exact ABG H (E x) ho
 case store t x v=>exact yw H (E x) (E v) ho
 case nilCheck x=>
  obtain⟨⟨ad,had⟩,hok⟩:=Z3 (ρ:=ρ) H (E x) ho;rw[had]at hok⊢;exact hok
 case binOp op t x y yt=>
  simp only[BV]at ho;obtain⟨r,hr,rfl⟩:=ho;exact zq H (E x) (E y) x y hr
 case unOp op t x=>exact AFX H (E x) ho
 case makeInterface t x=>exact vo H (E x) ho
 case makeFunc f x y=>exact Zs H he ho
 case makeMap t r=>exact eP H hf ho
 case makeSlice t l c=>exact XW H hf (E l) (E c) ho
 case slice t x lo hi mx=>exact bk H (E x) (kG.map he lo) (kG.map he hi) (kG.map he mx) ho
 case fieldAddr t x k=>exact XC H (E x) ho
 case field t x k=>exact uo H (E x) ho
 case indexAddr t x i=>exact XL H (E x) (E i) ho
 case index t x i=>exact vq H (E x) (E i) ho
 case lookup t m k ok=>exact pW H (E m) (E k) ho
 case mapUpdate t m k v=>exact VY H (E m) (E k) (E v) ho
 case typeAssert x xt t ok=>
  cases ok with
  |true=>exact kR H (E x) ho
  |false=>cases ho
 case extract x k=>exact dC H (E x) ho
 case call c=>exact zt H hf he ho
variable{P:Program}{mix:List TypeId}{g g':G}
variable{vs:List AV}{x:AV}
theorem Kj{id:Id}(hx:x∈vs)(hi:id∈AF x):id∈Az vs:=by
 induction vs with
 |nil=>cases hx
 |cons v vs ih=>
  simp only[Az,ES];rcases Co.1 hx with rfl|hx
  .exact .inl hi
  .exact .inr (ih hx)
theorem MZ{id:Id}(h:id∈Az vs): ∃x∈vs,id∈AF x:=by
 induction vs with
 |nil=>simp[Az]at h
 |cons v vs ih=>
  simp only[Az,ES]at h;rcases h with h|h
  .exact⟨v,by simp,h⟩
  .obtain⟨x,hx,h⟩:=ih h;exact⟨x,by simp[hx],h⟩
theorem VQ(v:AV)(id:Id):id∈Az v.cells↔id∈AF v:=by
 cases v<;>simp[AV.cells,Az,AF]
def At(g g':G)(l:List Id):Prop:= ∀id∈l,g id=g' id
theorem At.mono{l m:List Id}(h:At g g' l)(hs: ∀id∈m,id∈l):At g g' m:=fun id hi=>h id (hs id hi)
variable{v:AV}
theorem Sl(h:At g g' (AF v)):FQ g v=FQ g' v:=by
 cases v<;>try rfl
 rename_i id off n;simp only[FQ,h id (by simp[AF])]
theorem Zu(h:At g g' (AF v)):J5 g v=J5 g' v:=by
 cases v<;>try rfl
 rename_i id off n;simp only[J5,h id (by simp[AF])]
theorem Qz(h:At g g' (Az vs)):C2 g vs=C2 g' vs:=by
 induction vs with
 |nil=>rfl
 |cons v vs ih=>
  simp only[C2,Sl (v:=v) (h.mono fun id hi=>Kj (by simp) hi),ih (h.mono fun id hi=>by simp[Az,hi])]
theorem PS(h:At g g' (Az vs)):B5 g vs=B5 g' vs:=by
 induction vs with
 |nil=>rfl
 |cons v vs ih=>
  simp only[B5,D5]at ih⊢;rw[Zu (v:=v) (h.mono fun id hi=>Kj (by simp) hi),ih (h.mono fun id hi=>by simp[Az,hi])]
variable{es:List (List AV)}
theorem J0(h:At g g' (es.flatMap Az)):C6 g es=C6 g' es:=by
 induction es with
 |nil=>rfl
 |cons v vs ih=>
  simp only[C6,Qz (vs:=v) (h.mono fun id hi=>by simp[hi]),ih (h.mono fun id hi=>by simp only[D5,ES];exact .inr hi)]
theorem LN(h:At g g' (es.flatMap Az)):es.flatMap (B5 g)=es.flatMap (B5 g'):=by
 induction es with
 |nil=>rfl
 |cons v vs ih=>
  simp only[D5,PS (vs:=v) (h.mono fun id hi=>by simp[hi]),ih (h.mono fun id hi=>by simp only[D5,ES];exact .inr hi)]
variable{i:TI}{a:AV}
theorem Zp(h:At g g' (AF a)):Jb g i a=Jb g' i a:=by
 cases a<;>try rfl
 .rename_i id off;simp only[Jb,h id (by simp[AF])]
 .rename_i id k off;simp only[Jb,h id (by simp[AF])]
theorem Xr(h:At g g' (AF a))(hv:At g g' (AF v)):Jn g i a v=Jn g' i a v:=by
 have hc:At g g' (Az v.cells):=hv.mono fun id hi=>(VQ v id).1 hi;unfold Jn;cases a<;>try rfl
 .rename_i id off;simp only[h id (by simp[AF])]
 .rename_i id k off;simp only[h id (by simp[AF]),Qz hc,PS hc]
variable{n:Id}{j:TI}
theorem Iu(h:At g g' (es.flatMap Az)):newArr g n j es=newArr g' n j es:=by
 simp only[newArr,J0 h,LN h]
theorem W6(h:At g g' (AF x)):Du g x=Du g' x:=by
 cases x
 case eq id off n=>simp only[Du,h id (by simp[AF])]
 case d y=>cases y<;>rfl
 all_goals rfl
variable{off k sz:Nat}{src:List (List AV)}
theorem YL{id:Id}{es:List (List Aa)}(h:At g g' (src.flatMap Az)):appIn g n id off k sz es src=appIn g' n id off k sz es src:=by
 simp only[appIn,J0 h,LN h]
variable{s:AV}
theorem YN(hs:At g g' (AF s))(h:At g g' (src.flatMap Az)):appTo g n j s src=appTo g' n j s src:=by
 cases s
 case co=>exact Iu h
 case emp=>exact Iu h
 case eq id off k=>simp only[appTo,hs id (by simp[AF]),YL h]
 all_goals rfl
theorem N1(l:List Aa):Az (l.map .d)=[]:=by
 induction l with
 |nil=>rfl
 |cons x l ih=>simp[Az,AF,ih]
theorem dT(es:List (List Aa)):(es.map (·.map AV.d)).flatMap Az=[]:=by
 induction es with
 |nil=>rfl
 |cons x l ih=>simp[N1]
variable{α:Type}{l:List α}
theorem ABP{r:List α}{n:Nat}(h:Js l off n=some r){x:α}(hx:x∈r):x∈l:=by
 unfold Js at h;split at h
 .cases h;exact JP (Li hx)
 .cases h
theorem lk(h:Du g x=some src): ∀id∈src.flatMap Az,id∈Cz g (AF x):=by
 intro id hid;unfold Du at h;split at h
 .cases h;rw[dT]at hid;cases hid
 .cases h;cases hid
 .cases h;cases hid
 .rename_i i off n;obtain⟨e,he,hie⟩:=Bv.1 hid;cases hg:Oi (g i)with
  |none=>rw[hg]at h;cases h
  |some es=>
   rw[hg]at h;have he':=ABP h he;unfold Oi at hg;split at hg
   .cases hg;obtain⟨y,_,rfl⟩:=FN.1 he';rw[N1]at hie;cases hie
   .cases hg;obtain⟨y,_,rfl⟩:=FN.1 he';rw[N1]at hie;cases hie
   .rename_i sz es' hgi;cases hg;refine Gs _ (Bv.2 ⟨i,by simp[AF],?_⟩);simp only[hgi];exact Bv.2 ⟨e,he',hie⟩
   .cases hg
 .cases h
theorem UH(hs:At g g' (AF s))(hx:At g g' (Cz g (AF x))):appendV g n j s x=appendV g' n j s x:=by
 have he:=W6 (hx.mono fun id hi=>Ge _ hi);unfold appendV;rw[←he];cases h:Du g x with
 |none=>rfl
 |some src=>
  have h2:appTo g n j s src=appTo g' n j s src:=YN hs (hx.mono fun id hi=>lk h id hi);cases src with
  |nil=>rfl
  |cons a l=>simp only[h2]
theorem eG{k:TK}(h:At g g' (AF x)):XR g k x=XR g' k x:=by
 cases x
 case mp id=>cases k<;>simp only[XR,h id (by simp[AF])]
 case d y=>cases y<;>cases k<;>rfl
 all_goals (cases k<;>rfl)
variable{T:TypeId→Option TI}{t:Option TI}{m:AV}
theorem PR{k:AV}(h:At g g' (AF m)):mapPut T g t m k v=mapPut T g' t m k v:=by
 unfold mapPut;cases m
 case mp id=>
  have e:=h id (by simp[AF]);cases L6 k<;>simp only[e]
 all_goals rfl
theorem TJ{k:AV}{ok:Bool}(h:At g g' (AF m)):FW T g m k ok t=FW T g' m k ok t:=by
 unfold FW;cases t with
 |none=>rfl
 |some i=>
  cases m
  case mp id=>
   have e:=h id (by simp[AF]);obtain⟨kind,size,agg,str,zero,flds,elem,key,mx⟩:=i;simp only;generalize L6 k=d;generalize T key=tk;cases d<;>cases kind<;>cases tk<;>first|rfl|simp only[e]
  all_goals rfl
theorem Zg{n:Int}(h:At g g' (AF x)):Nk g n x j=Nk g' n x j:=by
 unfold Nk;cases x
 case eq id off n=>simp only[h id (by simp[AF])]
 case d y=>cases y<;>rfl
 all_goals rfl
theorem Pb{i:AV}(h:At g g' (AF x)):C9 T g x i t=C9 T g' x i t:=by
 unfold C9;simp only[Zg h]
theorem Xn{id:Id}{b:Option (Nat×Nat×Option Nat)}(h:g id=g' id):OO g sz id off b=OO g' sz id off b:=by
 unfold OO;simp only[h]
variable{lo hi mx:Option AV}
theorem Xo{k:TK}(h:At g g' (AF x)):ET g k sz x lo hi mx=ET g' k sz x lo hi mx:=by
 cases x
 case eq id off n=>cases k<;>simp only[ET,Xn (h id (by simp[AF]))]
 case d y=>cases y<;>cases k<;>rfl
 all_goals (cases k<;>rfl)
theorem Ub(h:At g g' (AF x)):Hr T g x lo hi mx t=Hr T g' x lo hi mx t:=by
 unfold Hr;simp only[Xo h]
theorem Ua(h:At g g' (AF x)):GQ T g t x=GQ T g' t x:=by
 unfold GQ;cases t with
 |none=>rfl
 |some i=>
  obtain⟨kind,size,agg,str,zero,flds,elem,key,mx⟩:=i;simp only;cases x
  case eq id off n=>
   have e:=h id (by simp[AF]);cases kind
   case slice=>simp only[Hj,e]
   all_goals rfl
  all_goals (cases kind<;>rfl)
theorem zU(z:Value):Az (z.cells.toList.map DU)=[]:=by
 generalize z.cells.toList=l;induction l with
 |nil=>rfl
 |cons v l ih=>
  simp only[Cs,Az,ih,D6];unfold DU;split<;>rfl
theorem kB{t:TypeId}(h:B6 P mix t=some i):Az i.zero=[]:=by
 obtain⟨info,d,z,h1,h2,h3,h4,rfl⟩:=BC h;exact zU z
theorem ACu{n:Nat}{l:List AV}(h:Az l=[]):(List.replicate n l).flatMap Az=[]:=by
 induction n with
 |zero=>rfl
 |succ n ih=>simp[RW,h]
theorem UZ{t:TypeId}(h:B6 P mix t=some j):GP g n k j=GP g' n k j:=by
 unfold GP;cases k with
 |zero=>rfl
 |succ k=>exact Iu (by rw[ACu (kB h)];intro id hi;cases hi)
theorem iY{r new:List α}(h:CG l off new=some r){x:α}(hx:x∈r):x∈l∨x∈new:=by
 unfold CG at h;split at h
 .cases h;simp only[ES]at hx;rcases hx with(hx|hx)|hx
  .exact .inl (Li hx)
  .exact .inr hx
  .exact .inl (JP hx)
 .cases h
theorem Ni{pl:Nat→Option (Nat×Nat)}: ∀{ps:List (Nat×AV)} {cs r:List AV},Cr pl cs ps=some r→ ∀x∈r,x∈cs∨ ∃p∈ps,x∈p.2.cells
 |[],cs,r,h,x,hx=>by simp only[Cr,CE]at h;subst h;exact .inl hx
 |(i,v)::ps,cs,r,h,x,hx=>by
  simp only[Cr]at h;split at h
  .split at h
   .cases hs:CG cs _ v.cells with
    |none=>rw[hs]at h;cases h
    |some cs'=>
     rw[hs]at h;rcases Ni h x hx with h1|⟨p,hp,h1⟩
     .rcases iY hs h1 with h2|h2
      .exact .inl h2
      .exact .inr ⟨(i,v),by simp,h2⟩
     .exact .inr ⟨p,by simp[hp],h1⟩
   .cases h
  .cases h
theorem SN: ∀{n:Nat} {l:List α} {c:List α},c∈G0 sz n l→ ∀x∈c,x∈l
 |0,_,_,h,_,_=>by cases h
 |n+1,l,c,h,x,hx=>by
  simp only[G0,Co]at h;rcases h with rfl|h
  .exact Li hx
  .exact JP (SN h x hx)
variable{nw:Id}{ps:List (Nat×AV)}
theorem SI{n:Nat}{t:TypeId}(ht:B6 P mix t=some j)(h:At g g' (ps.flatMap fun p=>AF p.2)):Gy g nw n ps j=Gy g' nw n ps j:=by
 unfold Gy;cases hf:Cr (fun k=>some (k*j.size,j.size)) ((List.replicate n j.zero).flatten) ps with
 |none=>rfl
 |some cs=>
  have:newArr g nw j (G0 j.size n cs)=newArr g' nw j (G0 j.size n cs):=by
   refine Iu fun id hi=>?_;obtain⟨c,hc,hi⟩:=Bv.1 hi;obtain⟨x,hx,hi⟩:=MZ hi;rcases Ni hf x (SN hc x hx)with h1|⟨p,hp,h1⟩
   .obtain⟨l,hl,hx⟩:=Mt.1 h1;rw[PI hl]at hx;have:=Kj hx hi;rw[kB ht]at this;cases this
   .exact h id (Bv.2 ⟨p,hp,(VQ _ _).1 (Kj h1 hi)⟩)
  cases n with
  |zero=>rfl
  |succ n=>simp only[this]
theorem OB{n:Nat}(h:At g g' (ps.flatMap fun p=>AF p.2)):Cn (B6 P mix) g nw n ps t=Cn (B6 P mix) g' nw n ps t:=by
 unfold Cn;cases t with
 |none=>rfl
 |some i=>
  obtain⟨kind,size,agg,str,zero,flds,elem,key,mx⟩:=i;simp only;cases hj:B6 P mix elem with
  |none=>cases kind<;>rfl
  |some j=>cases kind<;>first|rfl|simp only[SI hj h]
theorem Pc{l c:AV}:Cx (B6 P mix) g nw l c t=Cx (B6 P mix) g' nw l c t:=by
 unfold Cx;cases t with
 |none=>rfl
 |some i=>
  obtain⟨kind,size,agg,str,zero,flds,elem,key,mx⟩:=i;simp only;cases hj:B6 P mix elem with
  |none=>cases kind<;>rfl
  |some j=>
   cases kind
   case slice=>
    cases l<;>try rfl
    rename_i x;cases x<;>try rfl
    cases c<;>try rfl
    rename_i y;cases y<;>try rfl
    simp only[UZ hj (g:=g) (g':=g')]
   all_goals rfl
theorem TH{u:Option TI}(hs:At g g' (AF s))(hx:At g g' (Cz g (AF x))):IC T g nw t u s x=IC T g' nw t u s x:=by
 unfold IC;simp only[UH hs hx]
def KT(e e':Nat→AV)(op:Op):Prop:= ∀x∈op.operands,ev e x=ev e' x
variable{e:Nat→AV}{op:Op}
theorem Oj(h:At g g' (Dq e op)){x:Operand}(hx:x∈op.operands):At g g' (AF (ev e x)):=
 h.mono fun _ hi=>Bv.2 ⟨x,by simpa using hx,hi⟩
variable{e':Nat→AV}
theorem Nh{ps:Array (Nat×Operand)}(h: ∀p∈ps,ev e p.2=ev e' p.2):EW e ps=EW e' ps:=by
 unfold EW;exact List.map_congr_left fun p hp=>by rw[h p (by simpa using hp)]
theorem N9{x:Option Operand}(h: ∀y∈x,ev e y=ev e' y):x.map (ev e)=x.map (ev e'):=by
 cases x with
 |none=>rfl
 |some y=>simp[h y rfl]
theorem FT{x:Array Operand}(h: ∀y∈x,ev e y=ev e' y):x.toList.map (ev e)=x.toList.map (ev e'):=
 List.map_congr_left fun y hy=>h y (by simpa using hy)
theorem XA(he:KT e e' op)(h:At g g' (Ff e g op)):evalOp (B6 P mix) e g n op=evalOp (B6 P mix) e' g' n op:=by
 cases op<;>try rfl
 case move x=>simp only[evalOp,he x (by simp[Op.operands])]
 case assign x=>simp only[evalOp,he x (by simp[Op.operands])]
 case pick c a b=>simp only[evalOp,he c (by simp[Op.operands]),he a (by simp[Op.operands]),he b (by simp[Op.operands])]
 case box t x=>simp only[evalOp,he x (by simp[Op.operands])]
 case build t ps=>
  simp only[evalOp];rw[Nh fun p hp=>he p.2 (by simp[Op.operands];exact⟨p.1,hp⟩)]
 case buildSlice t k ps=>
  have hp: ∀p∈ps,p.2∈(Op.buildSlice t k ps).operands:=fun p hp=>by simp[Op.operands];exact⟨p.1,hp⟩
  simp only[evalOp];rw[Nh fun p hp'=>he p.2 (hp p hp')];refine OB fun id hi=>?_;obtain⟨q,hq,hi⟩:=Bv.1 hi;obtain⟨p,hp',rfl⟩:=FN.1 hq;rw[←he p.2 (hp p (by simpa using hp'))]at hi;exact Oj h (hp p (by simpa using hp')) id hi
 case insert t m k v=>
  simp only[evalOp];rw[←he m (by simp[Op.operands]),←he k (by simp[Op.operands]),←he v (by simp[Op.operands])];exact PR (Oj h (by simp[Op.operands]))
 case load t x=>
  simp only[evalOp];rw[←he x (by simp[Op.operands])];cases ht:B6 P mix t with
  |none=>rfl
  |some i=>simp only[LR,Zp (Oj h (x:=x) (by simp[Op.operands]))]
 case store t a x=>
  simp only[evalOp];rw[←he a (by simp[Op.operands]),←he x (by simp[Op.operands])];cases ht:B6 P mix t with
  |none=>rfl
  |some i=>simp only[Iw,Xr (Oj h (x:=a) (by simp[Op.operands])) (Oj h (x:=x) (by simp[Op.operands]))]
 case nilCheck x=>simp only[evalOp,he x (by simp[Op.operands])]
 case binOp op t x y yt=>simp only[evalOp,he x (by simp[Op.operands]),he y (by simp[Op.operands])]
 case unOp op t x=>simp only[evalOp,he x (by simp[Op.operands])]
 case makeInterface t x=>simp only[evalOp,he x (by simp[Op.operands])]
 case makeFunc f x y=>
  simp only[evalOp];rw[FT (e:=e) (e':=e') (x:=x) fun z hz=>he z (by simp[Op.operands,hz]),FT (e:=e) (e':=e') (x:=y) fun z hz=>he z (by simp[Op.operands,hz])]
 case makeSlice t l c=>
  simp only[evalOp];rw[he l (by simp[Op.operands]),he c (by simp[Op.operands])];exact Pc
 case slice t x lo hi mx=>
  simp only[evalOp];rw[←he x (by simp[Op.operands]),N9 (e:=e) (e':=e') (x:=lo) fun z hz=>he z (by simp[Op.operands]at hz⊢;simp[hz]),
   N9 (e:=e) (e':=e') (x:=hi) fun z hz=>he z (by simp[Op.operands]at hz⊢;simp[hz]),N9 (e:=e) (e':=e') (x:=mx) fun z hz=>he z (by simp[Op.operands]at hz⊢;simp[hz])]
  exact Ub (Oj h (by simp[Op.operands]))
 case fieldAddr t x k=>simp only[evalOp,he x (by simp[Op.operands])]
 case field t x k=>simp only[evalOp,he x (by simp[Op.operands])]
 case indexAddr t x i=>
  simp only[evalOp];rw[←he x (by simp[Op.operands]),←he i (by simp[Op.operands])];exact Pb (Oj h (by simp[Op.operands]))
 case index t x i=>simp only[evalOp,he x (by simp[Op.operands]),he i (by simp[Op.operands])]
 case lookup t m k ok=>
  simp only[evalOp];rw[←he m (by simp[Op.operands]),←he k (by simp[Op.operands])];exact TJ (Oj h (by simp[Op.operands]))
 case mapUpdate t m k v=>
  simp only[evalOp];rw[←he m (by simp[Op.operands]),←he k (by simp[Op.operands]),←he v (by simp[Op.operands])];exact PR (Oj h (by simp[Op.operands]))
 case typeAssert x xt t ok=>
  simp only[evalOp,he x (by simp[Op.operands])]
 case extract x k=>simp only[evalOp,he x (by simp[Op.operands])]
 case call c=>
  obtain⟨callee,args,ats⟩:=c;simp only[evalOp,KP];cases callee with
  |value f=>rfl
  |invoke r m=>rfl
  |builtin b=>
   simp only;have ha: ∀x∈args,x∈(Op.call ⟨.builtin b,args,ats⟩).operands:=fun x hx=>by simp[Op.operands,Call.operands,hx]
   rw[←FT fun x hx=>he x (ha x hx)];have hids: ∀x,x∈args.toList.map (ev e)→ ∀id∈AF x,id∈Dq e (Op.call ⟨.builtin b,args,ats⟩):=by
    intro x hx id hi;obtain⟨y,hy,rfl⟩:=FN.1 hx;exact Bv.2 ⟨y,by simpa using ha y (by simpa using hy),hi⟩
   generalize args.toList.map (ev e)=as at hids;unfold Gl;cases b<;>try rfl
   .simp only[Ff]at h;have h1: ∀x∈as,At g g' (AF x):=fun x hx=>h.mono fun id hi=>Ge _ (hids x hx id hi);have h2: ∀x∈as,At g g' (Cz g (AF x)):=fun x hx=>h.mono fun id hi=>by
     rcases ES.1 hi with hi|hi
     .exact Ge _ (hids x hx id hi)
     .obtain⟨i,h3,h4⟩:=Bv.1 hi;exact Gs _ (Bv.2 ⟨i,hids x hx i h3,h4⟩)
    match as,ats.toList with
    |[],_=>rfl
    |[_],_=>rfl
    |[s,x],[t,u]=>exact TH (h1 s (by simp)) (h2 x (by simp))
    |[_,_],[]=>rfl
    |[_,_],[_]=>rfl
    |[_,_],_::_::_::_=>rfl
    |_::_::_::_,_=>rfl
   .simp only[Ff]at h;have h1: ∀x∈as,At g g' (AF x):=fun x hx=>h.mono fun id hi=>hids x hx id hi
    match as,ats.toList with
    |[],_=>rfl
    |[x],[]=>rfl
    |[x],[t]=>exact Ua (h1 x (by simp))
    |[x],_::_::_=>rfl
    |_::_::_,_=>rfl
   .simp only[Ff]at h;have h1: ∀x∈as,At g g' (AF x):=fun x hx=>h.mono fun id hi=>hids x hx id hi
    match as,ats.toList with
    |[],_=>rfl
    |[x],[]=>rfl
    |[x],[t]=>
     simp only;cases ht:B6 P mix t with
     |none=>rfl
     |some i=>simp only[eG (h1 x (by simp))]
    |[x],_::_::_=>rfl
    |_::_::_,_=>rfl
end Go.Abs
