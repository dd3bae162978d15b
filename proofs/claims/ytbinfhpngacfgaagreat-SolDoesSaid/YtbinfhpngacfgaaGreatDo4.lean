/- Parts of it. -/
import Derived.MapKept
import Derived.Test.YtbinfhpngacfgaaGreatDo3
set_option linter.all false
namespace Go
theorem zFB{p:Prop}(h:p:=by simp[Op.operands]at w⊢;simp[w]):p:=h
end Go
namespace Go
theorem zDO{p:Prop}(h:p:=by simpa[builtin]using this):p:=h
end Go
namespace Go.Abs
variable{A:Nat→Prop}{P:Program}{mix:List TypeId}{β:BH}{w:World}{M:Nat→Prop}
variable{r:Nat}{o:Go.Obj}
theorem KN(h:w.heap[r]? =some o)(a: ∀c e f,o≠ .cells c e f):(getObj r).run P w=.ok o w:=by
 cases o<;>first|exact absurd rfl (a _ _ _)|simp only[getObj,Sem.run,h]
theorem Ig{o':Go.Obj}(h:w.heap[r]? =some o)(a: ∀c e f,o≠ .cells c e f):(setObj r o').run P w=.ok () (World.ip w r o'):=by
 cases o<;>first|exact absurd rfl (a _ _ _)|(simp only[setObj,Sem.run,h];rfl)
theorem Ya{t:TypeId}{d:TypeDesc}(h2:P.underlying t=some d){x:Ao}(i:Ks (C4 P t d) x=true){v:Value}(h:DR w M x v):
 (∀b n,(Instr.checkKey b (n+1) t v).run P w=.ok () w)∧ ∀{c:Ao} {f:Value} {r:Bool},DR w M c f→IC c x=some r→Instr.sameNow d v f=some r:=by
 cases x<;>cases g:C4 P t d<;>simp[Ks,g]at i
 .obtain⟨k,rfl⟩:=tw g;cases h;refine⟨fun b n=>by simp[Instr.checkKey,run_underlying h2],fun{c f r} e a=>?_⟩;cases c<;>simp[IC]at a;obtain⟨rfl,rfl⟩:=a;cases e;simp[Instr.sameNow,Bool.beq_comm]
 .have:=Wx g;subst this;cases h;refine⟨fun b n=>by simp[Instr.checkKey,run_underlying h2],fun{c f r} e a=>?_⟩;cases c<;>simp[IC]at a;subst a;cases e;simp[Instr.sameNow,Bool.beq_comm]
 .have:=NK g;subst this;cases h;refine⟨fun b n=>by simp[Instr.checkKey,run_underlying h2],fun{c f r} e a=>?_⟩;cases c<;>simp[IC]at a;subst a;cases e;simp only[Instr.sameNow,Cs];rw[beq_toListBytes,beq_toListBytes,Bool.beq_comm]
theorem YM{t:TypeId}{d:TypeDesc}(h2:P.underlying t=some d){x:Ao}(o:Ks (C4 P t d) x=true){v:Value}(q:DR w M x v): ∀(es:List (Ao×AV)) (g:List MapEntry) (i:Nat) (r:Option AV),
 es.length=g.length→(∀(j:Nat) p e,es[j]? =some p→g[j]? =some e→DR w M p.1 e.key∧VR β w M p.2 e.val)→Db es x=some r→
 (r=none∧Instr.findNow d v g i=some none∧ ∀l,FM es x l=es++[(x,l)])∨
 (∃m j p e,r=some m∧es[j]? =some p∧g[j]? =some e∧p.2=m∧Instr.findNow d v g i=some (some (i+j,e.val))∧IC p.1 x=some true∧ ∀l,FM es x l=es.set j (p.1,l))
 |[],g,i,r,hl,_,h=>by
  have:g=[]:=Lw.1 hl.symm;subst this;simp only[Db,Cs]at h;exact .inl ⟨h.symm,rfl,fun _=>rfl⟩
 |(k,u)::es,g,i,r,hl,hr,h=>by
  cases g with
  |nil=>simp at hl
  |cons e g=>
   obtain⟨s,D⟩:=hr 0 (k,u) e rfl rfl;simp only[Db]at h;split at h
   .rename_i heq;cases h;have n:=(Ya h2 o q).2 s heq;exact .inr ⟨u,0,(k,u),e,rfl,rfl,rfl,rfl,by simp[Instr.findNow,n],heq,fun l=>by simp[FM,heq]⟩
   .rename_i heq;have n:=(Ya h2 o q).2 s heq;rcases YM h2 o q es g (i+1) r (by simpa using hl) (fun j p e C B=>hr (j+1) p e (by simpa using C) zE1) h with⟨a,b,c⟩|⟨m,j,p,e',a,b1,y,z,c,A,f⟩
    .exact .inl ⟨a,by simp[Instr.findNow,n,b],fun l=>by simp[FM,heq,c]⟩
    .exact .inr ⟨m,j+1,p,e',a,by simpa using b1,by simpa using y,z,by simp[Instr.findNow,n,c];omega,A,fun l=>by simp[FM,heq,f]⟩
   .cases h
theorem oH{h:AD}(H:HR A β w h){ρ:List Nat}{t:TypeId}{m k:AV}{W q:Value}{ok:Bool}(a3:VR β w (MS A β h) m W)(av:VR β w (MS A β h) k q){I:Cx}
 (f:GY (CZ P mix) h.get m k ok (CZ P mix t)=some I):Ed A ρ β w h ((do pure (.value (←Instr.lookup t W q ok)):Sem Next).run P w) I:=by
 cases D:CZ P mix t with
 |none=>simp[GY,D]at f
 |some i=>
  obtain⟨info,d,z,b2,h2,b3,_,rfl⟩:=BW D;simp only[GY,D]at f;split at f
  .rename_i id x bl s a1 O;obtain⟨bk,b0,rfl⟩:=UJ a1;simp only[YZ]at O;obtain⟨ch,bi,cl,b',y,cc,_,a0⟩:=BW O;split at f
   .rename_i es C ad;have a2:bl.kind=C4 P bk bi:=by rw[a0]
    rw[a2]at C;split at f
    .rename_i r j ag L;simp only[Ir]at L;obtain⟨b6,a',o,a6,b5,a7,⟨_,_,b7,be⟩,ar⟩:=BW L;have R:DR w (MS A β h) x q:=by
      unfold M7 at s;split at s
      .cases s;cases av with|d hd=>exact hd
      .cases s
     obtain⟨T,az,Z,bx,bo,bs,U⟩:=H.obj id _ ad;cases a3 with
     |mp _ b8 N=>
      rw[az]at N;cases N;have K:=KN (P:=P) bo AG;have J:=fun b=>(Ya (P:=P) (w:=w) (M:=MS A β h) y C R).1 b 9999;have b4: ∀(X:Bool),Mu a'=X→True:=fun _ _=>trivial;unfold ML at f;have S: ∀B,Gv j.agg j.zero=some B→VR β w (MS A β h) B o:=fun B n=>by
       rw[ar]at n;exact dU be n
      have V: ∀{a:AV} {F:Value} {b:Bool},VR β w (MS A β h) a F→VR β w (MS A β h) (.ii [a,.d (.bool b)]) (.tuple #[F,.bool b]):=by
       intro a F b a5;refine .ii _ _ rfl fun i x v l u=>?_
       match i with
       |0=>simp at l u;subst l u;exact a5
       |1=>simp at l u;subst l u;exact .d (.bool _)
       |i+2=>simp at l
      rcases YM (β:=β) y C R es Z.toList 0 r (by simpa using bs) (fun a p e a4 ac=>U a p e a4 (by simpa using ac)) ag with⟨rfl,b,_⟩|⟨bv,bc,p,e,rfl,b1,Y,rfl,c,_⟩
      .split at f
       .rename_i heq;cases heq
       .rename_i B n;cases f;have g:((do pure (.value (←Instr.lookup t (.map (some T.b)) q ok)):Sem Next).run P w)=.ok (.value (if ok then .tuple #[o,.bool false]else o)) w:=by
         simp[Instr.lookup,run_underlying h2,K,J,Instr.findKey,run_underlying y,b,EK a6 a7]
        cases ok
        .exact .plain H (v:=o) (by rw[g];rfl) rfl (S _ n)
        .exact .plain H (v:=.tuple #[o,.bool false]) (by rw[g];rfl) rfl (V (S _ n))
       .cases f
      .have Q:VR β w (MS A β h) p.2 e.val:=(U bc p e b1 (by simpa using Y)).2;split at f
       .rename_i heq;cases heq;cases f;have g:((do pure (.value (←Instr.lookup t (.map (some T.b)) q ok)):Sem Next).run P w)=.ok (.value (if ok then .tuple #[e.val,.bool true]else e.val)) w:=by
         simp[Instr.lookup,run_underlying h2,K,J,Instr.findKey,run_underlying y,c]
        cases ok
        .exact .plain H (v:=e.val) (by rw[g];rfl) rfl Q
        .exact .plain H (v:=.tuple #[e.val,.bool true]) (by rw[g];rfl) rfl (V Q)
       all_goals first
        |(rename_i ai _;exact(ai _ rfl).elim)
        |(rename_i heq _;cases heq)
        |cases f
    .cases f
   .cases f
  .cases f
theorem rb{a b:ByteArray}(h:(a==b)=true):a=b:=by
 rw[beq_toListBytes,ByteArray.toList_eq,ByteArray.toList_eq,beq_iff_eq]at h;obtain⟨⟨x⟩⟩:=a;obtain⟨⟨y⟩⟩:=b;simp at h;rw[h]
theorem sB{x y:Ao}(h:IC y x=some true):y=x:=by
 cases y<;>cases x<;>simp[IC]at h
 .obtain⟨rfl,rfl⟩:=h;rfl
 .rw[h]
 .exact congrArg Ao.str (rb h)
theorem cu{x c:Ao}{v e:Value}(b:DR w M x v)(a:DR w M c e)(h:IC c x=some true): ∀n,Instr.sameBits n e v=true:=by
 intro n;cases c<;>cases x<;>simp[IC]at h
 .obtain⟨rfl,rfl⟩:=h;cases b;cases a;simp[Instr.sameBits]
 .subst h;cases b;cases a;simp[Instr.sameBits]
 .cases b;cases a;simpa[Instr.sameBits]using h
theorem W2{h:AD}(H:HR A β w h){ρ:List Nat}{t:TypeId}{m k v:AV}{a1 o C:Value}(bi:VR β w (MS A β h) m a1)(a7:VR β w (MS A β h) k o)(az:VR β w (MS A β h) v C){Y:Cx}
 (n:mapPut (CZ P mix) h.get (CZ P mix t) m k v=some Y):Ed A ρ β w h ((do Instr.mapUpdate t a1 o C;pure .skip:Sem Next).run P w) Y:=by
 unfold mapPut at n;split at n
 .cases n
 .rename_i s;split at n
  .rename_i id x J;rw[J]at s;cases V:CZ P mix t with
   |none=>simp[V]at s
   |some i=>
    obtain⟨info,d,z,b3,h2,b4,_,rfl⟩:=BW V;simp only[V]at s;split at s
    .rename_i bx bc ar;obtain⟨bv,b2,rfl⟩:=UJ bc;simp only[YZ]at ar;obtain⟨b8,bs,b',b6,O,b7,_,a'⟩:=BW ar;have be:bx.kind=C4 P bv bs:=by rw[a']
     rw[be,AP]at s;obtain⟨ai,_⟩:=s;split at n
     .rename_i es T;split at n
      .rename_i r a6;cases n;have K:DR w (MS A β h) x o:=by
        unfold M7 at J;split at J
        .cases J;cases a7 with|d hd=>exact hd
        .cases J
       obtain⟨Q,N,y,S,R,L,B⟩:=H.obj id _ T;cases bi with
       |mp _ b5 ag=>
        rw[N]at ag;cases ag;have ac:=KN (P:=P) R AG;have Z:=fun b=>(Ya (P:=P) (w:=w) (M:=MS A β h) O ai K).1 b 9999;have done: ∀(I:List (Ao×AV)) (q:Array MapEntry) (F:Nat),FM es x v=I→I.length=q.size→
           (∀(D:Nat→Prop) (w':World),Ez A (MS A β h) w D w'→ ∀(i:Nat) p e,I[i]? =some p→q[i]? =some e→DR w' D p.1 e.key∧VR β w' D p.2 e.val)→
           (Instr.mapUpdate t (.map (some Q.b)) o C).run P w=.ok () (World.ip w Q.b (.map q F))→
           Ed A ρ β w h ((do Instr.mapUpdate t (.map (some Q.b)) o C;pure .skip:Sem Next).run P w) ⟨.undef,[(id,.map (FM es x v))]⟩:=by
         intro I q F a2 a3 a4 a5;rw[a2];have av:=Hy H (o':=.map I) T rfl N (.map q F);refine .skip (w':=World.ip w Q.b (.map q F)) (by simp[a5]) rfl ?_ av (L5 _ (Ac.2 rfl) N);exact H.upd' T rfl N ⟨q,F,JA _ (AL R),a3,a4 _ _ av⟩
        rcases YM (β:=β) O ai K es y.toList 0 r (by simpa using L) (fun a p e l g=>B a p e l (by simpa using g)) a6 with⟨rfl,b,f⟩|⟨b0,u,p,e,rfl,b1,W,rfl,c,X,f⟩
        .refine done (es++[(x,v)]) (y.push {key:=o,val:=C,born:=S}) (S+1) (f v) (by simp[L]) ?_ ?_
         .intro D w' l i p e j g;rw[Of]at g;by_cases hi:i=y.size
          .subst hi;rw[D2 AA]at j;simp[L]at j g;subst j g;exact⟨K.mono l,az.mono (.refl β) l⟩
          .rw[Co hi]at g;have U:i<es.length:=by rw[L];exact(Ip.1 g).1
           rw[Ce U]at j;exact⟨(B i p e j g).1.mono l,(B i p e j g).2.mono (.refl β) l⟩
         .simp[Instr.mapUpdate,run_underlying h2,ac,Z,Instr.findKey,run_underlying O,b,Ig (P:=P) R AG]
        .have bk:=B u p e b1 (by simpa using W);have ad:y[u]? =some e:=by simpa using W
         have bl:=cu K bk.1 X 10000;refine done (es.set u (p.1,v)) (y.modify u fun e=>{e with key:=o,val:=C}) S (f v) (by simp[L]) ?_ ?_
         .intro D w' l i a0 e' j g;rw[Array.getElem?_modify]at g;rw[IF]at j;by_cases hi:u=i
          .subst hi;rw[D5 rfl,ad]at g;have U:u<es.length:=(BV.1 b1).1;simp[U]at j g;subst j g;refine⟨?_,az.mono (.refl β) l⟩;have:=sB X;rw[show p=(x,p.2)from Prod.ext this rfl];exact K.mono l
          .rw[Co hi]at g j;exact⟨(B i a0 e' j g).1.mono l,(B i a0 e' j g).2.mono (.refl β) l⟩
         .have bo:(Instr.keyThatStays (((y[0+u]?).map (·.key)).getD o) o).run P w=.ok o w:=by
           rw[I9,ad];simp[Instr.keyThatStays,bl]
          simp only[Instr.mapUpdate,Sem.run_bind,run_underlying h2,Result.andThen_ok,ac,Z,Instr.findKey,run_underlying O,c,Sem.run_pure,bo,Ig (P:=P) R AG];simp
      .cases n
     .cases n
    .cases s
  .cases n
variable{A:Nat→Prop}{P:Program}{mix:List TypeId}{β:BH}{w:World}{M:Nat→Prop}
theorem xb{h:AD}(H:HR A β w h){ρ:List Nat}(o: ∀id,ρ<:+id→β id=none){e:Nat→AV}{a:Act}(m:Kf β w (MS A β h) e fun t=>a.tmps.getD t Go.undef){c:Call}{ty:TypeId}{k:Cx}
 (f:LF (CZ P mix) e h.get ρ c=some k):Ed A ρ β w h ((do let d←resolve a.eval c ty;invoke d.target d.args:Sem Next).run P w) k:=by
 have E:=fun x=>Jk m x;obtain⟨callee,args,j⟩:=c;obtain⟨args⟩:=args;obtain⟨j⟩:=j;unfold LF at f;split at f
 .rename_i b l;simp only at l;subst l;simp only at f;have q:((do let d←resolve a.eval ⟨.builtin b,⟨args⟩,⟨j⟩⟩ ty;invoke d.target d.args:Sem Next).run P w)=
   (builtin b ⟨j⟩ ty ((⟨args⟩:Array Operand).map fun|.const _=>true|_=>false) (⟨args.map a.eval⟩:Array Value)).run P w:=by
   simp[resolve,invoke];rfl
  rw[q];unfold HZ at f;split at f
  .split at f
   .rename_i x g;split at f
    .rename_i t;split at f
     .rename_i i hi;simp only[Be]at f;obtain⟨n,p,rfl⟩:=f
      match args,g with
      |[ox],g=>
       simp at g;subst g;have:=tb (ρ:=ρ) (ty:=ty) H (E ox) hi p;exact zDO
     .cases f
    .cases f
   .cases f
  .split at f
   .rename_i s x t u g
    match args,g with
    |[os,ox],g=>
     simp at g;obtain⟨rfl,rfl⟩:=g;have:=Xx (ty:=ty) H o (E os) (E ox) f;exact zDO
   .cases f
  .split at f
   .rename_i x t g
    match args,g with
    |[ox],g=>
     simp at g;subst g;have:=r6 (ρ:=ρ) (ty:=ty) H (E ox) f;exact zDO
   .cases f
  .split at f
   .rename_i x r g
    match args,g with
    |[ox,oy],g=>
     simp at g;obtain⟨rfl,rfl⟩:=g;have:=uB (ρ:=ρ) (P:=P) (ts:=⟨j⟩) (ty:=ty) H (E ox) (E oy) f;exact zDO
   .cases f
  .split at f
   .rename_i x r g
    match args,g with
    |[ox,oy],g=>
     simp at g;obtain⟨rfl,rfl⟩:=g;have:=tl (ρ:=ρ) (P:=P) (ts:=⟨j⟩) (ty:=ty) H (E ox) (E oy) f;exact zDO
   .cases f
  .cases f
 .cases f
theorem mI{h:AD}(H:HR A β w h){ρ:List Nat}(j: ∀id,ρ<:+id→β id=none){e:Nat→AV}{a:Act}(g:Kf β w (MS A β h) e fun t=>a.tmps.getD t Go.undef){o:Oper}{op:Op}(u:o.op=op){p:Cx}
 (b:evalOp (CZ P mix) e h.get ρ op=some p):Ed A ρ β w h ((execOp a.eval o).run P w) p:=by
 have E:=fun x=>Jk g x;cases op<;>simp only[evalOp,reduceCtorEq,Cs]at b<;>simp only[execOp,u]
 case move x=>subst b;exact .plain H (v:=a.eval x) rfl rfl (E x)
 case assign x=>subst b;exact .plain H (v:=a.eval x) rfl rfl (E x)
 case pick c x y=>exact zf H (E c) (E x) (E y) b
 case alloc t=>exact rI H j b
 case box t x=>exact lD H j (E x) b
 case build t ps=>exact ra H g b
 case buildSlice t n ps=>exact VP H j g b
 case insert t m k v=>exact W2 H (E m) (E k) (E v) b
 case load t x=>exact zH H (E x) b
 case store t x v=>exact wX H (E x) (E v) b
 case nilCheck x=>
  obtain⟨⟨B,s⟩,q⟩:=bq (ρ:=ρ) H (E x) b;rw[s]at q⊢;exact q
 case binOp op t x y yt=>
  simp only[Be]at b;obtain⟨r,z,rfl⟩:=b;exact xY H (E x) (E y) x y z
 case unOp op t x=>exact ABq H (E x) b
 case makeInterface t x=>exact tf H (E x) b
 case makeFunc f x y=>exact bX H g b
 case makeMap t r=>exact fu H j b
 case makeSlice t l c=>exact Ye H j (E l) (E c) b
 case slice t x lo hi mx=>exact dC H (E x) (kN.map g lo) (kN.map g hi) (kN.map g mx) b
 case fieldAddr t x k=>exact YL H (E x) b
 case field t x k=>exact sh H (E x) b
 case indexAddr t x i=>exact YV H (E x) (E i) b
 case index t x i=>exact th H (E x) (E i) b
 case lookup t m k ok=>exact oH H (E m) (E k) b
 case mapUpdate t m k v=>exact W2 H (E m) (E k) (E v) b
 case typeAssert x xt t ok=>
  cases ok with
  |true=>exact kn H (E x) b
  |false=>cases b
 case extract x k=>exact eg H (E x) b
 case call c=>exact xb H j g b
variable{P:Program}{mix:List TypeId}{g g':G}
variable{vs:List AV}{x:AV}
theorem Ll{id:Id}(a:x∈vs)(hi:id∈AE x):id∈BB vs:=by
 induction vs with
 |nil=>cases a
 |cons v vs b=>
  simp only[BB,EL];rcases D0.1 a with rfl|a
  .exact .inl hi
  .exact .inr (b a)
theorem NY{id:Id}(h:id∈BB vs): ∃x∈vs,id∈AE x:=by
 induction vs with
 |nil=>simp[BB]at h
 |cons v vs b=>
  simp only[BB,EL]at h;rcases h with h|h
  .exact⟨v,AG,h⟩
  .obtain⟨x,a,h⟩:=b h;exact⟨x,by simp[a],h⟩
theorem Wo(v:AV)(id:Id):id∈BB v.cells↔id∈AE v:=by
 cases v<;>simp[AV.cells,BB,AE]
def At(g g':G)(l:List Id):Prop:= ∀id∈l,g id=g' id
theorem At.mono{l m:List Id}(h:At g g' l)(a: ∀id∈m,id∈l):At g g' m:=fun id hi=>h id (a id hi)
variable{v:AV}
theorem Tw(h:At g g' (AE v)):GJ g v=GJ g' v:=by
 cases v<;>try rfl
 rename_i id off n;simp only[GJ,h id BJ]
theorem ba(h:At g g' (AE v)):Kt g v=Kt g' v:=by
 cases v<;>try rfl
 rename_i id off n;simp only[Kt,h id BJ]
theorem SI(h:At g g' (BB vs)):DX g vs=DX g' vs:=by
 induction vs with
 |nil=>rfl
 |cons v vs a=>
  simp only[DX,Tw (v:=v) (h.mono fun id hi=>Ll AG hi),a (h.mono fun id hi=>by simp[BB,hi])]
theorem QW(h:At g g' (BB vs)):CY g vs=CY g' vs:=by
 induction vs with
 |nil=>rfl
 |cons v vs a=>
  simp only[CY,EM]at a⊢;rw[ba (v:=v) (h.mono fun id hi=>Ll AG hi),a (h.mono fun id hi=>by simp[BB,hi])]
variable{es:List (List AV)}
theorem Kp(h:At g g' (es.flatMap BB)):Dc g es=Dc g' es:=by
 induction es with
 |nil=>rfl
 |cons v vs a=>
  simp only[Dc,SI (vs:=v) (h.mono fun id hi=>by simp[hi]),a (h.mono fun id hi=>by simp only[EM,EL];exact .inr hi)]
theorem MN(h:At g g' (es.flatMap BB)):es.flatMap (CY g)=es.flatMap (CY g'):=by
 induction es with
 |nil=>rfl
 |cons v vs a=>
  simp only[EM,QW (vs:=v) (h.mono fun id hi=>by simp[hi]),a (h.mono fun id hi=>by simp only[EM,EL];exact .inr hi)]
variable{i:TI}{a:AV}
theorem bU(h:At g g' (AE a)):KP g i a=KP g' i a:=by
 cases a<;>try rfl
 .rename_i id off;simp only[KP,h id BJ]
 .rename_i id k off;simp only[KP,h id BJ]
theorem Yz(h:At g g' (AE a))(c:At g g' (AE v)):Kc g i a v=Kc g' i a v:=by
 have b:At g g' (BB v.cells):=c.mono fun id hi=>(Wo v id).1 hi;unfold Kc;cases a<;>try rfl
 .rename_i id off;simp only[h id BJ]
 .rename_i id k off;simp only[h id BJ,SI b,QW b]
variable{n:Id}{j:TI}
theorem Ju(h:At g g' (es.flatMap BB)):newArr g n j es=newArr g' n j es:=by
 simp only[newArr,Kp h,MN h]
theorem YF(h:At g g' (AE x)):Ef g x=Ef g' x:=by
 cases x
 case f8 id off n=>simp only[Ef,h id BJ]
 case d y=>cases y<;>rfl
 all_goals rfl
variable{off k sz:Nat}{src:List (List AV)}
theorem ZS{id:Id}{es:List (List Ao)}(h:At g g' (src.flatMap BB)):appIn g n id off k sz es src=appIn g' n id off k sz es src:=by
 simp only[appIn,Kp h,MN h]
variable{s:AV}
theorem ZU(a:At g g' (AE s))(h:At g g' (src.flatMap BB)):appTo g n j s src=appTo g' n j s src:=by
 cases s
 case d7=>exact Ju h
 case emp=>exact Ju h
 case f8 id off k=>simp only[appTo,a id BJ,ZS h]
 all_goals rfl
theorem O7(l:List Ao):BB (l.map .d)=[]:=by
 induction l with
 |nil=>rfl
 |cons x l a=>simp[BB,AE,a]
theorem fB(es:List (List Ao)):(es.map (·.map AV.d)).flatMap BB=[]:=by
 induction es with
 |nil=>rfl
 |cons x l a=>simp[O7]
variable{α:Type}{l:List α}
theorem zR{r:List α}{n:Nat}(h:Kj l off n=some r){x:α}(a:x∈r):x∈l:=by
 unfold Kj at h;split at h
 .cases h;exact LM (MK a)
 .cases h
theorem l9(h:Ef g x=some src): ∀id∈src.flatMap BB,id∈DU g (AE x):=by
 intro id b;unfold Ef at h;split at h
 .cases h;rw[fB]at b;cases b
 .cases h;cases b
 .cases h;cases b
 .rename_i i off n;obtain⟨e,j,c⟩:=CS.1 b;cases a:Pr (g i)with
  |none=>rw[a]at h;cases h
  |some es=>
   rw[a]at h;have f:=zR h j;unfold Pr at a;split at a
   .cases a;obtain⟨l,_,rfl⟩:=F2.1 f;rw[O7]at c;cases c
   .cases a;obtain⟨l,_,rfl⟩:=F2.1 f;rw[O7]at c;cases c
   .rename_i sz m k;cases a;refine HU _ (CS.2 ⟨i,BJ,?_⟩);simp only[k];exact CS.2 ⟨e,f,c⟩
   .cases a
 .cases h
theorem VL(e:At g g' (AE s))(b:At g g' (DU g (AE x))):appendV g n j s x=appendV g' n j s x:=by
 have c:=YF (b.mono fun id hi=>Hm _ hi);unfold appendV;rw[←c];cases h:Ef g x with
 |none=>rfl
 |some src=>
  have h2:appTo g n j s src=appTo g' n j s src:=ZU e (b.mono fun id hi=>l9 h id hi);cases src with
  |nil=>rfl
  |cons a l=>simp only[h2]
theorem fj{k:TK}(h:At g g' (AE x)):VY g k x=VY g' k x:=by
 cases x
 case mp id=>cases k<;>simp only[VY,h id BJ]
 case d y=>cases y<;>cases k<;>rfl
 all_goals (cases k<;>rfl)
variable{T:TypeId→Option TI}{t:Option TI}{m:AV}
theorem QV{k:AV}(h:At g g' (AE m)):mapPut T g t m k v=mapPut T g' t m k v:=by
 unfold mapPut;cases m
 case mp id=>
  have e:=h id BJ;cases M7 k<;>simp only[e]
 all_goals rfl
theorem Ui{k:AV}{ok:Bool}(h:At g g' (AE m)):GY T g m k ok t=GY T g' m k ok t:=by
 unfold GY;cases t with
 |none=>rfl
 |some i=>
  cases m
  case mp id=>
   have e:=h id BJ;obtain⟨kind,size,agg,str,zero,a,elem,key,mx⟩:=i;simp only;generalize M7 k=d;generalize T key=tk;cases d<;>cases kind<;>cases tk<;>first|rfl|simp only[e]
  all_goals rfl
theorem bG{n:Int}(h:At g g' (AE x)):Ou g n x j=Ou g' n x j:=by
 unfold Ou;cases x
 case f8 id off n=>simp only[h id BJ]
 case d y=>cases y<;>rfl
 all_goals rfl
theorem Qc{i:AV}(h:At g g' (AE x)):Di T g x i t=Di T g' x i t:=by
 unfold Di;simp only[bG h]
theorem Yx{id:Id}{b:Option (Nat×Nat×Option Nat)}(h:g id=g' id):PV g sz id off b=PV g' sz id off b:=by
 unfold PV;simp only[h]
variable{lo hi mx:Option AV}
theorem Yy{k:TK}(h:At g g' (AE x)):Fy g k sz x lo hi mx=Fy g' k sz x lo hi mx:=by
 cases x
 case f8 id off n=>cases k<;>simp only[Fy,Yx (h id BJ)]
 case d y=>cases y<;>cases k<;>rfl
 all_goals (cases k<;>rfl)
theorem Vb(h:At g g' (AE x)):Ht T g x lo hi mx t=Ht T g' x lo hi mx t:=by
 unfold Ht;simp only[Yy h]
theorem Va(h:At g g' (AE x)):HG T g t x=HG T g' t x:=by
 unfold HG;cases t with
 |none=>rfl
 |some i=>
  obtain⟨kind,size,agg,str,zero,a,elem,key,mx⟩:=i;simp only;cases x
  case f8 id off n=>
   have e:=h id BJ;cases kind
   case slice=>simp only[Im,e]
   all_goals rfl
  all_goals (cases kind<;>rfl)
theorem xD(z:Value):BB (z.cells.toList.map EB)=[]:=by
 generalize z.cells.toList=l;induction l with
 |nil=>rfl
 |cons v l a=>
  simp only[CO,BB,a,CI];unfold EB;split<;>rfl
theorem kI{t:TypeId}(h:CZ P mix t=some i):BB i.zero=[]:=by
 obtain⟨info,d,z,a,h2,b,c,rfl⟩:=BW h;exact xD z
theorem zi{n:Nat}{l:List AV}(h:BB l=[]):(List.replicate n l).flatMap BB=[]:=by
 induction n with
 |zero=>rfl
 |succ n a=>simp[Rx,h]
theorem VZ{t:TypeId}(h:CZ P mix t=some j):HF g n k j=HF g' n k j:=by
 unfold HF;cases k with
 |zero=>rfl
 |succ k=>exact Ju (by rw[zi (kI h)];intro id hi;cases hi)
theorem iq{r new:List α}(h:Cj l off new=some r){x:α}(a:x∈r):x∈l∨x∈new:=by
 unfold Cj at h;split at h
 .cases h;simp only[EL]at a;rcases a with(a|a)|a
  .exact .inl (MK a)
  .exact .inr a
  .exact .inl (LM a)
 .cases h
theorem Oq{e:Nat→Option (Nat×Nat)}: ∀{ps:List (Nat×AV)} {cs r:List AV},DN e cs ps=some r→ ∀x∈r,x∈cs∨ ∃p∈ps,x∈p.2.cells
 |[],cs,r,h,x,hx=>by simp only[DN,Cs]at h;subst h;exact .inl hx
 |(i,v)::ps,cs,r,h,x,hx=>by
  simp only[DN]at h;split at h
  .split at h
   .cases b:Cj cs _ v.cells with
    |none=>rw[b]at h;cases h
    |some f=>
     rw[b]at h;rcases Oq h x hx with a|⟨p,c,a⟩
     .rcases iq b a with h2|h2
      .exact .inl h2
      .exact .inr ⟨(i,v),AG,h2⟩
     .exact .inr ⟨p,by simp[c],a⟩
   .cases h
  .cases h
theorem Tc: ∀{n:Nat} {l:List α} {c:List α},c∈Hl sz n l→ ∀x∈c,x∈l
 |0,_,_,h,_,_=>by cases h
 |n+1,l,c,h,x,hx=>by
  simp only[Hl,D0]at h;rcases h with rfl|h
  .exact MK hx
  .exact LM (Tc h x hx)
variable{nw:Id}{ps:List (Nat×AV)}
theorem TW{n:Nat}{t:TypeId}(o:CZ P mix t=some j)(h:At g g' (ps.flatMap fun p=>AE p.2)):Hi g nw n ps j=Hi g' nw n ps j:=by
 unfold Hi;cases f:DN (fun k=>some (k*j.size,j.size)) ((List.replicate n j.zero).flatten) ps with
 |none=>rfl
 |some cs=>
  have:newArr g nw j (Hl j.size n cs)=newArr g' nw j (Hl j.size n cs):=by
   refine Ju fun id hi=>?_;obtain⟨c,e,hi⟩:=CS.1 hi;obtain⟨x,a,hi⟩:=NY hi;rcases Oq f x (Tc e x a)with b|⟨p,m,b⟩
   .obtain⟨l,i,a⟩:=No.1 b;rw[Pl i]at a;have:=Ll a hi;rw[kI o]at this;cases this
   .exact h id (CS.2 ⟨p,m,(Wo _ _).1 (Ll b hi)⟩)
  cases n with
  |zero=>rfl
  |succ n=>simp only[this]
theorem PG{n:Nat}(h:At g g' (ps.flatMap fun p=>AE p.2)):DJ (CZ P mix) g nw n ps t=DJ (CZ P mix) g' nw n ps t:=by
 unfold DJ;cases t with
 |none=>rfl
 |some i=>
  obtain⟨kind,size,agg,str,zero,b,elem,key,mx⟩:=i;simp only;cases a:CZ P mix elem with
  |none=>cases kind<;>rfl
  |some j=>cases kind<;>first|rfl|simp only[TW a h]
theorem Qd{l c:AV}:DT (CZ P mix) g nw l c t=DT (CZ P mix) g' nw l c t:=by
 unfold DT;cases t with
 |none=>rfl
 |some i=>
  obtain⟨kind,size,agg,str,zero,e,elem,key,mx⟩:=i;simp only;cases a:CZ P mix elem with
  |none=>cases kind<;>rfl
  |some j=>
   cases kind
   case slice=>
    cases l<;>try rfl
    rename_i x;cases x<;>try rfl
    cases c<;>try rfl
    rename_i b;cases b<;>try rfl
    simp only[VZ a (g:=g) (g':=g')]
   all_goals rfl
theorem Uh{a:Option TI}(b:At g g' (AE s))(c:At g g' (DU g (AE x))):JT T g nw t a s x=JT T g' nw t a s x:=by
 unfold JT;simp only[VL b c]
def LL(e e':Nat→AV)(op:Op):Prop:= ∀x∈op.operands,ev e x=ev e' x
variable{e:Nat→AV}{op:Op}
theorem Ps(h:At g g' (Ep e op)){x:Operand}(a:x∈op.operands):At g g' (AE (ev e x)):=
 h.mono fun _ hi=>CS.2 ⟨x,by simpa using a,hi⟩
variable{e':Nat→AV}
theorem Oo{ps:Array (Nat×Operand)}(h: ∀p∈ps,ev e p.2=ev e' p.2):FI e ps=FI e' ps:=by
 unfold FI;exact List.map_congr_left fun p a=>by rw[h p zEg]
theorem PE{x:Option Operand}(h: ∀y∈x,ev e y=ev e' y):x.map (ev e)=x.map (ev e'):=by
 cases x with
 |none=>rfl
 |some y=>simp[h y rfl]
theorem GW{x:Array Operand}(h: ∀a∈x,ev e a=ev e' a):x.toList.map (ev e)=x.toList.map (ev e'):=
 List.map_congr_left fun a b=>h a zEw
theorem YJ(j:LL e e' op)(h:At g g' (GZ e g op)):evalOp (CZ P mix) e g n op=evalOp (CZ P mix) e' g' n op:=by
 cases op<;>try rfl
 case move x=>simp only[evalOp,j x C8]
 case assign x=>simp only[evalOp,j x C8]
 case pick c a b=>simp only[evalOp,j c C8,j a C8,j b C8]
 case box t x=>simp only[evalOp,j x C8]
 case build t ps=>
  simp only[evalOp];rw[Oo fun p y=>j p.2 (by simp[Op.operands];exact⟨p.1,y⟩)]
 case buildSlice t k ps=>
  have y: ∀p∈ps,p.2∈(Op.buildSlice t k ps).operands:=fun p y=>by simp[Op.operands];exact⟨p.1,y⟩
  simp only[evalOp];rw[Oo fun p F=>j p.2 (y p F)];refine PG fun id hi=>?_;obtain⟨q,L,hi⟩:=CS.1 hi;obtain⟨p,F,rfl⟩:=F2.1 L;rw[←j p.2 (y p zFC)]at hi;exact Ps h (y p zFC) id hi
 case insert t m k v=>
  simp only[evalOp];rw[←j m C8,←j k C8,←j v C8];exact QV (Ps h C8)
 case load t x=>
  simp only[evalOp];rw[←j x C8];cases I:CZ P mix t with
  |none=>rfl
  |some i=>simp only[MR,bU (Ps h (x:=x) C8)]
 case store t a x=>
  simp only[evalOp];rw[←j a C8,←j x C8];cases I:CZ P mix t with
  |none=>rfl
  |some i=>simp only[Jw,Yz (Ps h (x:=a) C8) (Ps h (x:=x) C8)]
 case nilCheck x=>simp only[evalOp,j x C8]
 case binOp op t x B yt=>simp only[evalOp,j x C8,j B C8]
 case unOp op t x=>simp only[evalOp,j x C8]
 case makeInterface t x=>simp only[evalOp,j x C8]
 case makeFunc f x B=>
  simp only[evalOp];rw[GW (e:=e) (e':=e') (x:=x) fun z w=>j z (by simp[Op.operands,w]),GW (e:=e) (e':=e') (x:=B) fun z w=>j z (by simp[Op.operands,w])]
 case makeSlice t l c=>
  simp only[evalOp];rw[j l C8,j c C8];exact Qd
 case slice t x lo hi mx=>
  simp only[evalOp];rw[←j x C8,PE (e:=e) (e':=e') (x:=lo) fun z w=>j z zFB,
   PE (e:=e) (e':=e') (x:=hi) fun z w=>j z zFB,PE (e:=e) (e':=e') (x:=mx) fun z w=>j z zFB]
  exact Vb (Ps h C8)
 case fieldAddr t x k=>simp only[evalOp,j x C8]
 case field t x k=>simp only[evalOp,j x C8]
 case indexAddr t x i=>
  simp only[evalOp];rw[←j x C8,←j i C8];exact Qc (Ps h C8)
 case index t x i=>simp only[evalOp,j x C8,j i C8]
 case lookup t m k ok=>
  simp only[evalOp];rw[←j m C8,←j k C8];exact Ui (Ps h C8)
 case mapUpdate t m k v=>
  simp only[evalOp];rw[←j m C8,←j k C8,←j v C8];exact QV (Ps h C8)
 case typeAssert x xt t ok=>
  simp only[evalOp,j x C8]
 case extract x k=>simp only[evalOp,j x C8]
 case call c=>
  obtain⟨callee,args,C⟩:=c;simp only[evalOp,LF];cases callee with
  |value f=>rfl
  |invoke r m=>rfl
  |builtin b=>
   simp only;have H: ∀x∈args,x∈(Op.call ⟨.builtin b,args,C⟩).operands:=fun x o=>by simp[Op.operands,Call.operands,o]
   rw[←GW fun x o=>j x (H x o)];have A: ∀x,x∈args.toList.map (ev e)→ ∀id∈AE x,id∈Ep e (Op.call ⟨.builtin b,args,C⟩):=by
    intro x o id hi;obtain⟨B,M,rfl⟩:=F2.1 o;exact CS.2 ⟨B,by simpa using H B (by simpa using M),hi⟩
   generalize args.toList.map (ev e)=as at A;unfold HZ;cases b<;>try rfl
   .simp only[GZ]at h;have D: ∀x∈as,At g g' (AE x):=fun x o=>h.mono fun id hi=>Hm _ (A x o id hi);have h2: ∀x∈as,At g g' (DU g (AE x)):=fun x o=>h.mono fun id hi=>by
     rcases EL.1 hi with hi|hi
     .exact Hm _ (A x o id hi)
     .obtain⟨i,J,K⟩:=CS.1 hi;exact HU _ (CS.2 ⟨i,A x o i J,K⟩)
    match as,C.toList with
    |[],_=>rfl
    |[_],_=>rfl
    |[s,x],[t,u]=>exact Uh (D s AG) (h2 x AG)
    |[_,_],[]=>rfl
    |[_,_],[_]=>rfl
    |[_,_],_::_::_::_=>rfl
    |_::_::_::_,_=>rfl
   .simp only[GZ]at h;have D: ∀x∈as,At g g' (AE x):=fun x o=>h.mono fun id hi=>A x o id hi
    match as,C.toList with
    |[],_=>rfl
    |[x],[]=>rfl
    |[x],[t]=>exact Va (D x AG)
    |[x],_::_::_=>rfl
    |_::_::_,_=>rfl
   .simp only[GZ]at h;have D: ∀x∈as,At g g' (AE x):=fun x o=>h.mono fun id hi=>A x o id hi
    match as,C.toList with
    |[],_=>rfl
    |[x],[]=>rfl
    |[x],[t]=>
     simp only;cases I:CZ P mix t with
     |none=>rfl
     |some i=>simp only[fj (D x AG)]
    |[x],_::_::_=>rfl
    |_::_::_,_=>rfl
end Go.Abs
