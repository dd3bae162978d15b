/- P -/
import Derived.MapKept
import Derived.Test.YtbinfhpngacfgaaGreatR3
set_option linter.all false
namespace Go
def zFD{p:Prop}(h:p:=by simp[Op.operands]at w⊢;simp[w]):p:=h
end Go
namespace Go
def zDM{p:Prop}(h:p:=by simpa[builtin]using this):p:=h
end Go
namespace Go.Abs
variable{A:Nat->Prop}{P:Program}{mix:List TypeId}{β:BK}{w:World}{M:Nat->Prop}
variable{r:Nat}{o:Go.Obj}
def Kg(h:w.heap[r]? =some o)(a: ∀c e f,o≠ .cells c e f):(getObj r).run P w=.ok o w:=by
 cases o<;>first|exact absurd rfl (a _ _ _)|simp only[getObj,Sem.run,h]
def JD{o':Go.Obj}(h:w.heap[r]? =some o)(a: ∀c e f,o≠ .cells c e f):(setObj r o').run P w=.ok () (World.ip w r o'):=by
 cases o<;>first|exact absurd rfl (a _ _ _)|(simp only[setObj,Sem.run,h];rfl)
def Yz{t:TypeId}{d:TypeDesc}(h2:P.underlying t=some d){x:Al}(i:LA (DA P t d) x=true){v:Value}(h:DR w M x v):
 (∀b n,(Instr.checkKey b (n+1) t v).run P w=.ok () w)/\ ∀{c:Al} {f:Value} {r:Bool},DR w M c f->Ie c x=some r->Instr.sameNow d v f=some r:=by
 cases x<;>cases g:DA P t d<;>simp[LA,g]at i
 .obtain⟨k,rfl⟩:=vH g;cases h;refine⟨fun b n=>by simp[Instr.checkKey,run_underlying h2],fun{c f r} e a=>?_⟩;cases c<;>simp[Ie]at a;obtain⟨rfl,rfl⟩:=a;cases e;simp[Instr.sameNow,Bool.beq_comm]
 .have:=XT g;subst this;cases h;refine⟨fun b n=>by simp[Instr.checkKey,run_underlying h2],fun{c f r} e a=>?_⟩;cases c<;>simp[Ie]at a;subst a;cases e;simp[Instr.sameNow,Bool.beq_comm]
 .have:=Nj g;subst this;cases h;refine⟨fun b n=>by simp[Instr.checkKey,run_underlying h2],fun{c f r} e a=>?_⟩;cases c<;>simp[Ie]at a;subst a;cases e;simp only[Instr.sameNow,Co];rw[beq_toListBytes,beq_toListBytes,Bool.beq_comm]
def Yk{t:TypeId}{d:TypeDesc}(h2:P.underlying t=some d){x:Al}(o:LA (DA P t d) x=true){v:Value}(q:DR w M x v): ∀(es:List (Al×AV)) (g:List MapEntry) (i:Nat) (r:Option AV),
 es.length=g.length->(∀(j:Nat) p e,es[j]? =some p->g[j]? =some e->DR w M p.1 e.key/\VR β w M p.2 e.val)->Dh es x=some r->
 (r=none/\Instr.findNow d v g i=some none/\ ∀l,Fg es x l=es++[(x,l)])\/
 (∃m j p e,r=some m/\es[j]? =some p/\g[j]? =some e/\p.2=m/\Instr.findNow d v g i=some (some (i+j,e.val))/\Ie p.1 x=some true/\ ∀l,Fg es x l=es.set j (p.1,l))
 |[],g,i,r,hl,_,h=>by
  have:g=[]:=MD.1 hl.symm;subst this;simp only[Dh,Co]at h;exact .inl ⟨h.symm,rfl,fun _=>rfl⟩
 |(k,u)::es,g,i,r,hl,hr,h=>by
  cases g with
  |nil=>simp at hl
  |cons e g=>
   obtain⟨s,D⟩:=hr 0 (k,u) e rfl rfl;simp only[Dh]at h;split at h
   .rename_i heq;cases h;have n:=(Yz h2 o q).2 s heq;exact .inr ⟨u,0,(k,u),e,rfl,rfl,rfl,rfl,by simp[Instr.findNow,n],heq,fun l=>by simp[Fg,heq]⟩
   .rename_i heq;have n:=(Yz h2 o q).2 s heq;rcases Yk h2 o q es g (i+1) r (by simpa using hl) (fun j p e C B=>hr (j+1) p e (by simpa using C) zE4) h with⟨a,b,c⟩|⟨m,j,p,e',a,b1,y,z,c,A,f⟩
    .exact .inl ⟨a,by simp[Instr.findNow,n,b],fun l=>by simp[Fg,heq,c]⟩
    .exact .inr ⟨m,j+1,p,e',a,by simpa using b1,by simpa using y,z,by simp[Instr.findNow,n,c];omega,A,fun l=>by simp[Fg,heq,f]⟩
   .cases h
def pG{h:AD}(H:HR A β w h){ρ:List Nat}{t:TypeId}{m k:AV}{W q:Value}{ok:Bool}(a3:VR β w (MS A β h) m W)(av:VR β w (MS A β h) k q){I:C0}
 (f:Gw (Cb P mix) h.get m k ok (Cb P mix t)=some I):Ew A ρ β w h ((do pure (.value (<-Instr.lookup t W q ok)):Sem Next).run P w) I:=by
 cases D:Cb P mix t with
 |none=>simp[Gw,D]at f
 |some i=>
  obtain⟨info,d,z,b2,h2,b3,_,rfl⟩:=BZ D;simp only[Gw,D]at f;split at f
  .rename_i id x bl s a1 O;obtain⟨bk,b0,rfl⟩:=U0 a1;simp only[Yy]at O;obtain⟨ch,bi,cl,b',y,cc,_,a0⟩:=BZ O;split at f
   .rename_i es C ad;have a2:bl.kind=DA P bk bi:=by rw[a0]
    rw[a2]at C;split at f
    .rename_i r j ag L;simp only[JK]at L;obtain⟨b6,a',o,a6,b5,a7,⟨_,_,b7,be⟩,ar⟩:=BZ L;have R:DR w (MS A β h) x q:=by
      unfold NV at s;split at s
      .cases s;cases av with|d hd=>exact hd
      .cases s
     obtain⟨T,az,Z,bx,bo,bs,U⟩:=H.obj id _ ad;cases a3 with
     |mp _ b8 N=>
      rw[az]at N;cases N;have K:=Kg (P:=P) bo AG;have J:=fun b=>(Yz (P:=P) (w:=w) (M:=MS A β h) y C R).1 b 9999;have b4: ∀(X:Bool),NK a'=X->True:=fun _ _=>trivial;unfold Mh at f;have S: ∀B,HH j.agg j.zero=some B->VR β w (MS A β h) B o:=fun B n=>by
       rw[ar]at n;exact eG be n
      have V: ∀{a:AV} {F:Value} {b:Bool},VR β w (MS A β h) a F->VR β w (MS A β h) (.ii [a,.d (.bool b)]) (.tuple #[F,.bool b]):=by
       intro a F b a5;refine .ii _ _ rfl fun i x v l u=>?_
       match i with
       |0=>simp at l u;subst l u;exact a5
       |1=>simp at l u;subst l u;exact .d (.bool _)
       |i+2=>simp at l
      rcases Yk (β:=β) y C R es Z.toList 0 r (by simpa using bs) (fun a p e a4 ac=>U a p e a4 (by simpa using ac)) ag with⟨rfl,b,_⟩|⟨bv,bc,p,e,rfl,b1,Y,rfl,c,_⟩
      .split at f
       .rename_i heq;cases heq
       .rename_i B n;cases f;have g:((do pure (.value (<-Instr.lookup t (.map (some T.b)) q ok)):Sem Next).run P w)=.ok (.value (if ok then .tuple #[o,.bool false]else o)) w:=by
         simp[Instr.lookup,run_underlying h2,K,J,Instr.findKey,run_underlying y,b,Eb a6 a7]
        cases ok
        .exact .plain H (v:=o) (by rw[g];rfl) rfl (S _ n)
        .exact .plain H (v:=.tuple #[o,.bool false]) (by rw[g];rfl) rfl (V (S _ n))
       .cases f
      .have Q:VR β w (MS A β h) p.2 e.val:=(U bc p e b1 (by simpa using Y)).2;split at f
       .rename_i heq;cases heq;cases f;have g:((do pure (.value (<-Instr.lookup t (.map (some T.b)) q ok)):Sem Next).run P w)=.ok (.value (if ok then .tuple #[e.val,.bool true]else e.val)) w:=by
         simp[Instr.lookup,run_underlying h2,K,J,Instr.findKey,run_underlying y,c]
        cases ok
        .exact .plain H (v:=e.val) (by rw[g];rfl) rfl Q
        .exact .plain H (v:=.tuple #[e.val,.bool true]) (by rw[g];rfl) rfl (V Q)
       all_goals first
        |(rename_i ai _;exact(ai _ rfl).elim)
        |(rename_i heq _;cases heq)
        |cases f
    .cases f
   .cases f
  .cases f
def sV{a b:ByteArray}(h:(a==b)=true):a=b:=by
 rw[beq_toListBytes,ByteArray.toList_eq,ByteArray.toList_eq,beq_iff_eq]at h;obtain⟨⟨x⟩⟩:=a;obtain⟨⟨y⟩⟩:=b;simp at h;rw[h]
def s6{x y:Al}(h:Ie y x=some true):y=x:=by
 cases y<;>cases x<;>simp[Ie]at h
 .obtain⟨rfl,rfl⟩:=h;rfl
 .rw[h]
 .exact congrArg Al.str (sV h)
def dZ{x c:Al}{v e:Value}(b:DR w M x v)(a:DR w M c e)(h:Ie c x=some true): ∀n,Instr.sameBits n e v=true:=by
 intro n;cases c<;>cases x<;>simp[Ie]at h
 .obtain⟨rfl,rfl⟩:=h;cases b;cases a;simp[Instr.sameBits]
 .subst h;cases b;cases a;simp[Instr.sameBits]
 .cases b;cases a;simpa[Instr.sameBits]using h
def XX{h:AD}(H:HR A β w h){ρ:List Nat}{t:TypeId}{m k v:AV}{a1 o C:Value}(bi:VR β w (MS A β h) m a1)(a7:VR β w (MS A β h) k o)(az:VR β w (MS A β h) v C){Y:C0}
 (n:mapPut (Cb P mix) h.get (Cb P mix t) m k v=some Y):Ew A ρ β w h ((do Instr.mapUpdate t a1 o C;pure .skip:Sem Next).run P w) Y:=by
 unfold mapPut at n;split at n
 .cases n
 .rename_i s;split at n
  .rename_i id x J;rw[J]at s;cases V:Cb P mix t with
   |none=>simp[V]at s
   |some i=>
    obtain⟨info,d,z,b3,h2,b4,_,rfl⟩:=BZ V;simp only[V]at s;split at s
    .rename_i bx bc ar;obtain⟨bv,b2,rfl⟩:=U0 bc;simp only[Yy]at ar;obtain⟨b8,bs,b',b6,O,b7,_,a'⟩:=BZ ar;have be:bx.kind=DA P bv bs:=by rw[a']
     rw[be,AP]at s;obtain⟨ai,_⟩:=s;split at n
     .rename_i es T;split at n
      .rename_i r a6;cases n;have K:DR w (MS A β h) x o:=by
        unfold NV at J;split at J
        .cases J;cases a7 with|d hd=>exact hd
        .cases J
       obtain⟨Q,N,y,S,R,L,B⟩:=H.obj id _ T;cases bi with
       |mp _ b5 ag=>
        rw[N]at ag;cases ag;have ac:=Kg (P:=P) R AG;have Z:=fun b=>(Yz (P:=P) (w:=w) (M:=MS A β h) O ai K).1 b 9999;have done: ∀(I:List (Al×AV)) (q:Array MapEntry) (F:Nat),Fg es x v=I->I.length=q.size->
           (∀(D:Nat->Prop) (w':World),FG A (MS A β h) w D w'-> ∀(i:Nat) p e,I[i]? =some p->q[i]? =some e->DR w' D p.1 e.key/\VR β w' D p.2 e.val)->
           (Instr.mapUpdate t (.map (some Q.b)) o C).run P w=.ok () (World.ip w Q.b (.map q F))->
           Ew A ρ β w h ((do Instr.mapUpdate t (.map (some Q.b)) o C;pure .skip:Sem Next).run P w) ⟨.undef,[(id,.map (Fg es x v))]⟩:=by
         intro I q F a2 a3 a4 a5;rw[a2];have av:=IU H (o':=.map I) T rfl N (.map q F);refine .skip (w':=World.ip w Q.b (.map q F)) (by simp[a5]) rfl ?_ av (MO _ (Ac.2 rfl) N);exact H.upd' T rfl N ⟨q,F,JS _ (AK R),a3,a4 _ _ av⟩
        rcases Yk (β:=β) O ai K es y.toList 0 r (by simpa using L) (fun a p e l g=>B a p e l (by simpa using g)) a6 with⟨rfl,b,f⟩|⟨b0,u,p,e,rfl,b1,W,rfl,c,X,f⟩
        .refine done (es++[(x,v)]) (y.push {key:=o,val:=C,born:=S}) (S+1) (f v) (by simp[L]) ?_ ?_
         .intro D w' l i p e j g;rw[Of]at g;by_cases hi:i=y.size
          .subst hi;rw[D1 AA]at j;simp[L]at j g;subst j g;exact⟨K.mono l,az.mono (.refl β) l⟩
          .rw[Ci hi]at g;have U:i<es.length:=by rw[L];exact(Io.1 g).1
           rw[Ce U]at j;exact⟨(B i p e j g).1.mono l,(B i p e j g).2.mono (.refl β) l⟩
         .simp[Instr.mapUpdate,run_underlying h2,ac,Z,Instr.findKey,run_underlying O,b,JD (P:=P) R AG]
        .have bk:=B u p e b1 (by simpa using W);have ad:y[u]? =some e:=by simpa using W
         have bl:=dZ K bk.1 X 10000;refine done (es.set u (p.1,v)) (y.modify u fun e=>{e with key:=o,val:=C}) S (f v) (by simp[L]) ?_ ?_
         .intro D w' l i a0 e' j g;rw[Array.getElem?_modify]at g;rw[IF]at j;by_cases hi:u=i
          .subst hi;rw[D4 rfl,ad]at g;have U:u<es.length:=(BV.1 b1).1;simp[U]at j g;subst j g;refine⟨?_,az.mono (.refl β) l⟩;have:=s6 X;rw[show p=(x,p.2)from Prod.ext this rfl];exact K.mono l
          .rw[Ci hi]at g j;exact⟨(B i a0 e' j g).1.mono l,(B i a0 e' j g).2.mono (.refl β) l⟩
         .have bo:(Instr.keyThatStays (((y[0+u]?).map (·.key)).getD o) o).run P w=.ok o w:=by
           rw[I9,ad];simp[Instr.keyThatStays,bl]
          simp only[Instr.mapUpdate,Sem.run_bind,run_underlying h2,Result.andThen_ok,ac,Z,Instr.findKey,run_underlying O,c,Sem.run_pure,bo,JD (P:=P) R AG];simp
      .cases n
     .cases n
    .cases s
  .cases n
variable{A:Nat->Prop}{P:Program}{mix:List TypeId}{β:BK}{w:World}{M:Nat->Prop}
def yT{h:AD}(H:HR A β w h){ρ:List Nat}(o: ∀id,ρ<:+id->β id=none){e:Nat->AV}{a:Act}(m:Kz β w (MS A β h) e fun t=>a.tmps.getD t Go.undef){c:Call}{ty:TypeId}{k:C0}
 (f:Lb (Cb P mix) e h.get ρ c=some k):Ew A ρ β w h ((do let d<-resolve a.eval c ty;invoke d.target d.args:Sem Next).run P w) k:=by
 have E:=fun x=>J3 m x;obtain⟨callee,args,j⟩:=c;obtain⟨args⟩:=args;obtain⟨j⟩:=j;unfold Lb at f;split at f
 .rename_i b l;simp only at l;subst l;simp only at f;have q:((do let d<-resolve a.eval ⟨.builtin b,⟨args⟩,⟨j⟩⟩ ty;invoke d.target d.args:Sem Next).run P w)=
   (builtin b ⟨j⟩ ty ((⟨args⟩:Array Operand).map fun|.const _=>true|_=>false) (⟨args.map a.eval⟩:Array Value)).run P w:=by
   simp[resolve,invoke];rfl
  rw[q];unfold Hx at f;split at f
  .split at f
   .rename_i x g;split at f
    .rename_i t;split at f
     .rename_i i hi;simp only[Bv]at f;obtain⟨n,p,rfl⟩:=f
      match args,g with
      |[ox],g=>
       simp at g;subst g;have:=vr (ρ:=ρ) (ty:=ty) H (E ox) hi p;exact zDM
     .cases f
    .cases f
   .cases f
  .split at f
   .rename_i s x t u g
    match args,g with
    |[os,ox],g=>
     simp at g;obtain⟨rfl,rfl⟩:=g;have:=YM (ty:=ty) H o (E os) (E ox) f;exact zDM
   .cases f
  .split at f
   .rename_i x t g
    match args,g with
    |[ox],g=>
     simp at g;subst g;have:=su (ρ:=ρ) (ty:=ty) H (E ox) f;exact zDM
   .cases f
  .split at f
   .rename_i x r g
    match args,g with
    |[ox,oy],g=>
     simp at g;obtain⟨rfl,rfl⟩:=g;have:=ACJ (ρ:=ρ) (P:=P) (ts:=⟨j⟩) (ty:=ty) H (E ox) (E oy) f;exact zDM
   .cases f
  .split at f
   .rename_i x r g
    match args,g with
    |[ox,oy],g=>
     simp at g;obtain⟨rfl,rfl⟩:=g;have:=ACO (ρ:=ρ) (P:=P) (ts:=⟨j⟩) (ty:=ty) H (E ox) (E oy) f;exact zDM
   .cases f
  .cases f
 .cases f
def nJ{h:AD}(H:HR A β w h){ρ:List Nat}(j: ∀id,ρ<:+id->β id=none){e:Nat->AV}{a:Act}(g:Kz β w (MS A β h) e fun t=>a.tmps.getD t Go.undef){o:Oper}{op:Op}(u:o.op=op){p:C0}
 (b:evalOp (Cb P mix) e h.get ρ op=some p):Ew A ρ β w h ((execOp a.eval o).run P w) p:=by
 have E:=fun x=>J3 g x;cases op<;>simp only[evalOp,reduceCtorEq,Co]at b<;>simp only[execOp,u]
 case move x=>subst b;exact .plain H (v:=a.eval x) rfl rfl (E x)
 case assign x=>subst b;exact .plain H (v:=a.eval x) rfl rfl (E x)
 case pick c x y=>exact AAQ H (E c) (E x) (E y) b
 case alloc t=>exact sF H j b
 case box t x=>exact l9 H j (E x) b
 case build t ps=>exact sU H g b
 case buildSlice t n ps=>exact Vw H j g b
 case insert t m k v=>exact XX H (E m) (E k) (E v) b
 case load t x=>exact z5 H (E x) b
 case store t x v=>exact xY H (E x) (E v) b
 case nilCheck x=>
  obtain⟨⟨B,s⟩,q⟩:=cY (ρ:=ρ) H (E x) b;rw[s]at q⊢;exact q
 case binOp op t x y yt=>
  simp only[Bv]at b;obtain⟨r,z,rfl⟩:=b;exact yR H (E x) (E y) x y z
 case unOp op t x=>exact ACV H (E x) b
 case makeInterface t x=>exact uw H (E x) b
 case makeFunc f x y=>exact cK H g b
 case makeMap t r=>exact hP H j b
 case makeSlice t l c=>exact Y3 H j (E l) (E c) b
 case slice t x lo hi mx=>exact dj H (E x) (lZ.map g lo) (lZ.map g hi) (lZ.map g mx) b
 case fieldAddr t x k=>exact Yj H (E x) b
 case field t x k=>exact tV H (E x) b
 case indexAddr t x i=>exact Yu H (E x) (E i) b
 case index t x i=>exact uy H (E x) (E i) b
 case lookup t m k ok=>exact pG H (E m) (E k) b
 case mapUpdate t m k v=>exact XX H (E m) (E k) (E v) b
 case typeAssert x xt t ok=>
  cases ok with
  |true=>exact lu H (E x) b
  |false=>cases b
 case extract x k=>exact fS H (E x) b
 case call c=>exact yT H j g b
variable{P:Program}{mix:List TypeId}{g g':G}
variable{vs:List AV}{x:AV}
def L9{id:Id}(a:x∈vs)(hi:id∈AE x):id∈A9 vs:=by
 induction vs with
 |nil=>cases a
 |cons v vs b=>
  simp only[A9,EL];rcases D0.1 a with rfl|a
  .exact .inl hi
  .exact .inr (b a)
def Nw{id:Id}(h:id∈A9 vs): ∃x∈vs,id∈AE x:=by
 induction vs with
 |nil=>simp[A9]at h
 |cons v vs b=>
  simp only[A9,EL]at h;rcases h with h|h
  .exact⟨v,AG,h⟩
  .obtain⟨x,a,h⟩:=b h;exact⟨x,by simp[a],h⟩
def XP(v:AV)(id:Id):id∈A9 v.cells↔id∈AE v:=by
 cases v<;>simp[AV.cells,A9,AE]
def At(g g':G)(l:List Id):Prop:= ∀id∈l,g id=g' id
def At.mono{l m:List Id}(h:At g g' l)(a: ∀id∈m,id∈l):At g g' m:=fun id hi=>h id (a id hi)
variable{v:AV}
def Uh(h:At g g' (AE v)):FQ g v=FQ g' v:=by
 cases v<;>try rfl
 rename_i id off n;simp only[FQ,h id BH]
def cM(h:At g g' (AE v)):LB g v=LB g' v:=by
 cases v<;>try rfl
 rename_i id off n;simp only[LB,h id BH]
def Sk(h:At g g' (A9 vs)):C6 g vs=C6 g' vs:=by
 induction vs with
 |nil=>rfl
 |cons v vs a=>
  simp only[C6,Uh (v:=v) (h.mono fun id hi=>L9 AG hi),a (h.mono fun id hi=>by simp[A9,hi])]
def Qw(h:At g g' (A9 vs)):Ca g vs=Ca g' vs:=by
 induction vs with
 |nil=>rfl
 |cons v vs a=>
  simp only[Ca,EM]at a⊢;rw[cM (v:=v) (h.mono fun id hi=>L9 AG hi),a (h.mono fun id hi=>by simp[A9,hi])]
variable{es:List (List AV)}
def K7(h:At g g' (es.flatMap A9)):C7 g es=C7 g' es:=by
 induction es with
 |nil=>rfl
 |cons v vs a=>
  simp only[C7,Sk (vs:=v) (h.mono fun id hi=>by simp[hi]),a (h.mono fun id hi=>by simp only[EM,EL];exact .inr hi)]
def Mj(h:At g g' (es.flatMap A9)):es.flatMap (Ca g)=es.flatMap (Ca g'):=by
 induction es with
 |nil=>rfl
 |cons v vs a=>
  simp only[EM,Qw (vs:=v) (h.mono fun id hi=>by simp[hi]),a (h.mono fun id hi=>by simp only[EM,EL];exact .inr hi)]
variable{i:TI}{a:AV}
def cG(h:At g g' (AE a)):Kk g i a=Kk g' i a:=by
 cases a<;>try rfl
 .rename_i id off;simp only[Kk,h id BH]
 .rename_i id k off;simp only[Kk,h id BH]
def ZO(h:At g g' (AE a))(c:At g g' (AE v)):Kv g i a v=Kv g' i a v:=by
 have b:At g g' (A9 v.cells):=c.mono fun id hi=>(XP v id).1 hi;unfold Kv;cases a<;>try rfl
 .rename_i id off;simp only[h id BH]
 .rename_i id k off;simp only[h id BH,Sk b,Qw b]
variable{n:Id}{j:TI}
def KE(h:At g g' (es.flatMap A9)):newArr g n j es=newArr g' n j es:=by
 simp only[newArr,K7 h,Mj h]
def Ye(h:At g g' (AE x)):Ez g x=Ez g' x:=by
 cases x
 case f8 id off n=>simp only[Ez,h id BH]
 case d y=>cases y<;>rfl
 all_goals rfl
variable{off k sz:Nat}{src:List (List AV)}
def Zr{id:Id}{es:List (List Al)}(h:At g g' (src.flatMap A9)):appIn g n id off k sz es src=appIn g' n id off k sz es src:=by
 simp only[appIn,K7 h,Mj h]
variable{s:AV}
def Zt(a:At g g' (AE s))(h:At g g' (src.flatMap A9)):appTo g n j s src=appTo g' n j s src:=by
 cases s
 case d7=>exact KE h
 case emp=>exact KE h
 case f8 id off k=>simp only[appTo,a id BH,Zr h]
 all_goals rfl
def PZ(l:List Al):A9 (l.map .d)=[]:=by
 induction l with
 |nil=>rfl
 |cons x l a=>simp[A9,AE,a]
def fh(es:List (List Al)):(es.map (·.map AV.d)).flatMap A9=[]:=by
 induction es with
 |nil=>rfl
 |cons x l a=>simp[PZ]
variable{α:Type}{l:List α}
def AAF{r:List α}{n:Nat}(h:K2 l off n=some r){x:α}(a:x∈r):x∈l:=by
 unfold K2 at h;split at h
 .cases h;exact Lc (MK a)
 .cases h
def mz(h:Ez g x=some src): ∀id∈src.flatMap A9,id∈C2 g (AE x):=by
 intro id b;unfold Ez at h;split at h
 .cases h;rw[fh]at b;cases b
 .cases h;cases b
 .cases h;cases b
 .rename_i i off n;obtain⟨e,j,c⟩:=CS.1 b;cases a:QG (g i)with
  |none=>rw[a]at h;cases h
  |some es=>
   rw[a]at h;have f:=AAF h j;unfold QG at a;split at a
   .cases a;obtain⟨l,_,rfl⟩:=F1.1 f;rw[PZ]at c;cases c
   .cases a;obtain⟨l,_,rfl⟩:=F1.1 f;rw[PZ]at c;cases c
   .rename_i sz m k;cases a;refine HU _ (CS.2 ⟨i,BH,?_⟩);simp only[k];exact CS.2 ⟨e,f,c⟩
   .cases a
 .cases h
def Vs(e:At g g' (AE s))(b:At g g' (C2 g (AE x))):appendV g n j s x=appendV g' n j s x:=by
 have c:=Ye (b.mono fun id hi=>Hw _ hi);unfold appendV;rw[<-c];cases h:Ez g x with
 |none=>rfl
 |some src=>
  have h2:appTo g n j s src=appTo g' n j s src:=Zt e (b.mono fun id hi=>mz h id hi);cases src with
  |nil=>rfl
  |cons a l=>simp only[h2]
def gk{k:TK}(h:At g g' (AE x)):WB g k x=WB g' k x:=by
 cases x
 case mp id=>cases k<;>simp only[WB,h id BH]
 case d y=>cases y<;>cases k<;>rfl
 all_goals (cases k<;>rfl)
variable{T:TypeId->Option TI}{t:Option TI}{m:AV}
def Qv{k:AV}(h:At g g' (AE m)):mapPut T g t m k v=mapPut T g' t m k v:=by
 unfold mapPut;cases m
 case mp id=>
  have e:=h id BH;cases NV k<;>simp only[e]
 all_goals rfl
def VJ{k:AV}{ok:Bool}(h:At g g' (AE m)):Gw T g m k ok t=Gw T g' m k ok t:=by
 unfold Gw;cases t with
 |none=>rfl
 |some i=>
  cases m
  case mp id=>
   have e:=h id BH;obtain⟨kind,size,agg,str,zero,a,elem,key,mx⟩:=i;simp only;generalize NV k=d;generalize T key=tk;cases d<;>cases kind<;>cases tk<;>first|rfl|simp only[e]
  all_goals rfl
def bq{n:Int}(h:At g g' (AE x)):PH g n x j=PH g' n x j:=by
 unfold PH;cases x
 case f8 id off n=>simp only[h id BH]
 case d y=>cases y<;>rfl
 all_goals rfl
def Q2{i:AV}(h:At g g' (AE x)):Dq T g x i t=Dq T g' x i t:=by
 unfold Dq;simp only[bq h]
def ZM{id:Id}{b:Option (Nat×Nat×Option Nat)}(h:g id=g' id):Px g sz id off b=Px g' sz id off b:=by
 unfold Px;simp only[h]
variable{lo hi mx:Option AV}
def ZN{k:TK}(h:At g g' (AE x)):GZ g k sz x lo hi mx=GZ g' k sz x lo hi mx:=by
 cases x
 case f8 id off n=>cases k<;>simp only[GZ,ZM (h id BH)]
 case d y=>cases y<;>cases k<;>rfl
 all_goals (cases k<;>rfl)
def WG(h:At g g' (AE x)):IM T g x lo hi mx t=IM T g' x lo hi mx t:=by
 unfold IM;simp only[ZN h]
def WE(h:At g g' (AE x)):Hc T g t x=Hc T g' t x:=by
 unfold Hc;cases t with
 |none=>rfl
 |some i=>
  obtain⟨kind,size,agg,str,zero,a,elem,key,mx⟩:=i;simp only;cases x
  case f8 id off n=>
   have e:=h id BH;cases kind
   case slice=>simp only[JI,e]
   all_goals rfl
  all_goals (cases kind<;>rfl)
def yA(z:Value):A9 (z.cells.toList.map EJ)=[]:=by
 generalize z.cells.toList=l;induction l with
 |nil=>rfl
 |cons v l a=>
  simp only[By,A9,a,CI];unfold EJ;split<;>rfl
def lO{t:TypeId}(h:Cb P mix t=some i):A9 i.zero=[]:=by
 obtain⟨info,d,z,a,h2,b,c,rfl⟩:=BZ h;exact yA z
def AAT{n:Nat}{l:List AV}(h:A9 l=[]):(List.replicate n l).flatMap A9=[]:=by
 induction n with
 |zero=>rfl
 |succ n a=>simp[Rx,h]
def WC{t:TypeId}(h:Cb P mix t=some j):Hb g n k j=Hb g' n k j:=by
 unfold Hb;cases k with
 |zero=>rfl
 |succ k=>exact KE (by rw[AAT (lO h)];intro id hi;cases hi)
def jX{r new:List α}(h:Ck l off new=some r){x:α}(a:x∈r):x∈l\/x∈new:=by
 unfold Ck at h;split at h
 .cases h;simp only[EL]at a;rcases a with(a|a)|a
  .exact .inl (MK a)
  .exact .inr a
  .exact .inl (Lc a)
 .cases h
def PF{e:Nat->Option (Nat×Nat)}: ∀{ps:List (Nat×AV)} {cs r:List AV},DU e cs ps=some r-> ∀x∈r,x∈cs\/ ∃p∈ps,x∈p.2.cells
 |[],cs,r,h,x,hx=>by simp only[DU,Co]at h;subst h;exact .inl hx
 |(i,v)::ps,cs,r,h,x,hx=>by
  simp only[DU]at h;split at h
  .split at h
   .cases b:Ck cs _ v.cells with
    |none=>rw[b]at h;cases h
    |some f=>
     rw[b]at h;rcases PF h x hx with a|⟨p,c,a⟩
     .rcases jX b a with h2|h2
      .exact .inl h2
      .exact .inr ⟨(i,v),AG,h2⟩
     .exact .inr ⟨p,by simp[c],a⟩
   .cases h
  .cases h
def UI: ∀{n:Nat} {l:List α} {c:List α},c∈IB sz n l-> ∀x∈c,x∈l
 |0,_,_,h,_,_=>by cases h
 |n+1,l,c,h,x,hx=>by
  simp only[IB,D0]at h;rcases h with rfl|h
  .exact MK hx
  .exact Lc (UI h x hx)
variable{nw:Id}{ps:List (Nat×AV)}
def UD{n:Nat}{t:TypeId}(o:Cb P mix t=some j)(h:At g g' (ps.flatMap fun p=>AE p.2)):H9 g nw n ps j=H9 g' nw n ps j:=by
 unfold H9;cases f:DU (fun k=>some (k*j.size,j.size)) ((List.replicate n j.zero).flatten) ps with
 |none=>rfl
 |some cs=>
  have:newArr g nw j (IB j.size n cs)=newArr g' nw j (IB j.size n cs):=by
   refine KE fun id hi=>?_;obtain⟨c,e,hi⟩:=CS.1 hi;obtain⟨x,a,hi⟩:=Nw hi;rcases PF f x (UI e x a)with b|⟨p,m,b⟩
   .obtain⟨l,i,a⟩:=Nl.1 b;rw[Pl i]at a;have:=L9 a hi;rw[lO o]at this;cases this
   .exact h id (CS.2 ⟨p,m,(XP _ _).1 (L9 b hi)⟩)
  cases n with
  |zero=>rfl
  |succ n=>simp only[this]
def Pj{n:Nat}(h:At g g' (ps.flatMap fun p=>AE p.2)):DQ (Cb P mix) g nw n ps t=DQ (Cb P mix) g' nw n ps t:=by
 unfold DQ;cases t with
 |none=>rfl
 |some i=>
  obtain⟨kind,size,agg,str,zero,b,elem,key,mx⟩:=i;simp only;cases a:Cb P mix elem with
  |none=>cases kind<;>rfl
  |some j=>cases kind<;>first|rfl|simp only[UD a h]
def Q3{l c:AV}:DY (Cb P mix) g nw l c t=DY (Cb P mix) g' nw l c t:=by
 unfold DY;cases t with
 |none=>rfl
 |some i=>
  obtain⟨kind,size,agg,str,zero,e,elem,key,mx⟩:=i;simp only;cases a:Cb P mix elem with
  |none=>cases kind<;>rfl
  |some j=>
   cases kind
   case slice=>
    cases l<;>try rfl
    rename_i x;cases x<;>try rfl
    cases c<;>try rfl
    rename_i b;cases b<;>try rfl
    simp only[WC a (g:=g) (g':=g')]
   all_goals rfl
def VI{a:Option TI}(b:At g g' (AE s))(c:At g g' (C2 g (AE x))):Jl T g nw t a s x=Jl T g' nw t a s x:=by
 unfold Jl;simp only[Vs b c]
def Lj(e e':Nat->AV)(op:Op):Prop:= ∀x∈op.operands,ev e x=ev e' x
variable{e:Nat->AV}{op:Op}
def QH(h:At g g' (Ev e op)){x:Operand}(a:x∈op.operands):At g g' (AE (ev e x)):=
 h.mono fun _ hi=>CS.2 ⟨x,by simpa using a,hi⟩
variable{e':Nat->AV}
def PE{ps:Array (Nat×Operand)}(h: ∀p∈ps,ev e p.2=ev e' p.2):Fa e ps=Fa e' ps:=by
 unfold Fa;exact List.map_congr_left fun p a=>by rw[h p zEi]
def Pg{x:Option Operand}(h: ∀y∈x,ev e y=ev e' y):x.map (ev e)=x.map (ev e'):=by
 cases x with
 |none=>rfl
 |some y=>simp[h y rfl]
def Gu{x:Array Operand}(h: ∀a∈x,ev e a=ev e' a):x.toList.map (ev e)=x.toList.map (ev e'):=
 List.map_congr_left fun a b=>h a zEz
theorem Yh(j:Lj e e' op)(h:At g g' (Gh e g op)):evalOp (Cb P mix) e g n op=evalOp (Cb P mix) e' g' n op:=by
 cases op<;>try rfl
 case move x=>simp only[evalOp,j x DE]
 case assign x=>simp only[evalOp,j x DE]
 case pick c a b=>simp only[evalOp,j c DE,j a DE,j b DE]
 case box t x=>simp only[evalOp,j x DE]
 case build t ps=>
  simp only[evalOp];rw[PE fun p y=>j p.2 (by simp[Op.operands];exact⟨p.1,y⟩)]
 case buildSlice t k ps=>
  have y: ∀p∈ps,p.2∈(Op.buildSlice t k ps).operands:=fun p y=>by simp[Op.operands];exact⟨p.1,y⟩
  simp only[evalOp];rw[PE fun p F=>j p.2 (y p F)];refine Pj fun id hi=>?_;obtain⟨q,L,hi⟩:=CS.1 hi;obtain⟨p,F,rfl⟩:=F1.1 L;rw[<-j p.2 (y p zFE)]at hi;exact QH h (y p zFE) id hi
 case insert t m k v=>
  simp only[evalOp];rw[<-j m DE,<-j k DE,<-j v DE];exact Qv (QH h DE)
 case load t x=>
  simp only[evalOp];rw[<-j x DE];cases I:Cb P mix t with
  |none=>rfl
  |some i=>simp only[Mo,cG (QH h (x:=x) DE)]
 case store t a x=>
  simp only[evalOp];rw[<-j a DE,<-j x DE];cases I:Cb P mix t with
  |none=>rfl
  |some i=>simp only[KG,ZO (QH h (x:=a) DE) (QH h (x:=x) DE)]
 case nilCheck x=>simp only[evalOp,j x DE]
 case binOp op t x B yt=>simp only[evalOp,j x DE,j B DE]
 case unOp op t x=>simp only[evalOp,j x DE]
 case makeInterface t x=>simp only[evalOp,j x DE]
 case makeFunc f x B=>
  simp only[evalOp];rw[Gu (e:=e) (e':=e') (x:=x) fun z w=>j z (by simp[Op.operands,w]),Gu (e:=e) (e':=e') (x:=B) fun z w=>j z (by simp[Op.operands,w])]
 case makeSlice t l c=>
  simp only[evalOp];rw[j l DE,j c DE];exact Q3
 case slice t x lo hi mx=>
  simp only[evalOp];rw[<-j x DE,Pg (e:=e) (e':=e') (x:=lo) fun z w=>j z zFD,
   Pg (e:=e) (e':=e') (x:=hi) fun z w=>j z zFD,Pg (e:=e) (e':=e') (x:=mx) fun z w=>j z zFD]
  exact WG (QH h DE)
 case fieldAddr t x k=>simp only[evalOp,j x DE]
 case field t x k=>simp only[evalOp,j x DE]
 case indexAddr t x i=>
  simp only[evalOp];rw[<-j x DE,<-j i DE];exact Q2 (QH h DE)
 case index t x i=>simp only[evalOp,j x DE,j i DE]
 case lookup t m k ok=>
  simp only[evalOp];rw[<-j m DE,<-j k DE];exact VJ (QH h DE)
 case mapUpdate t m k v=>
  simp only[evalOp];rw[<-j m DE,<-j k DE,<-j v DE];exact Qv (QH h DE)
 case typeAssert x xt t ok=>
  simp only[evalOp,j x DE]
 case extract x k=>simp only[evalOp,j x DE]
 case call c=>
  obtain⟨callee,args,C⟩:=c;simp only[evalOp,Lb];cases callee with
  |value f=>rfl
  |invoke r m=>rfl
  |builtin b=>
   simp only;have H: ∀x∈args,x∈(Op.call ⟨.builtin b,args,C⟩).operands:=fun x o=>by simp[Op.operands,Call.operands,o]
   rw[<-Gu fun x o=>j x (H x o)];have A: ∀x,x∈args.toList.map (ev e)-> ∀id∈AE x,id∈Ev e (Op.call ⟨.builtin b,args,C⟩):=by
    intro x o id hi;obtain⟨B,M,rfl⟩:=F1.1 o;exact CS.2 ⟨B,by simpa using H B (by simpa using M),hi⟩
   generalize args.toList.map (ev e)=as at A;unfold Hx;cases b<;>try rfl
   .simp only[Gh]at h;have D: ∀x∈as,At g g' (AE x):=fun x o=>h.mono fun id hi=>Hw _ (A x o id hi);have h2: ∀x∈as,At g g' (C2 g (AE x)):=fun x o=>h.mono fun id hi=>by
     rcases EL.1 hi with hi|hi
     .exact Hw _ (A x o id hi)
     .obtain⟨i,J,K⟩:=CS.1 hi;exact HU _ (CS.2 ⟨i,A x o i J,K⟩)
    match as,C.toList with
    |[],_=>rfl
    |[_],_=>rfl
    |[s,x],[t,u]=>exact VI (D s AG) (h2 x AG)
    |[_,_],[]=>rfl
    |[_,_],[_]=>rfl
    |[_,_],_::_::_::_=>rfl
    |_::_::_::_,_=>rfl
   .simp only[Gh]at h;have D: ∀x∈as,At g g' (AE x):=fun x o=>h.mono fun id hi=>A x o id hi
    match as,C.toList with
    |[],_=>rfl
    |[x],[]=>rfl
    |[x],[t]=>exact WE (D x AG)
    |[x],_::_::_=>rfl
    |_::_::_,_=>rfl
   .simp only[Gh]at h;have D: ∀x∈as,At g g' (AE x):=fun x o=>h.mono fun id hi=>A x o id hi
    match as,C.toList with
    |[],_=>rfl
    |[x],[]=>rfl
    |[x],[t]=>
     simp only;cases I:Cb P mix t with
     |none=>rfl
     |some i=>simp only[gk (D x AG)]
    |[x],_::_::_=>rfl
    |_::_::_,_=>rfl
