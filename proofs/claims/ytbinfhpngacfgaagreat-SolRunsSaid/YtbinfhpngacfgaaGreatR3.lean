/- P -/
import Derived.Laws.StructEq
import Derived.Test.YtbinfhpngacfgaaGreatR2
set_option linter.all false
namespace Go
def zAj{p:Prop}(h:p:=by cases j;exact n AG AG (JL (fun d=>by simp[Op.equalIn,run_underlying h2]) rfl rfl)):p:=h
def zBV{p:Prop}(h:p:=by cases c;exact⟨_,by simp[binOp,Op.stringOp],.d (.bool _)⟩):p:=h
def zDC{p:Prop}(h:p:=by exact n AG AG (JL (fun d=>by simp[Op.equalIn,run_underlying h2]) rfl rfl)):p:=h
def zDu{p:Prop}(h:p:=by cases h;exact⟨_,by simp[binOp,Op.intDiv,c],.d (.int _ _)⟩):p:=h
end Go
namespace Go.Abs
variable{A:Nat->Prop}{P:Program}{mix:List TypeId}{β:BK}{w:World}{M:Nat->Prop}
def ot{op:BinOp}{t:TypeId}{k:IntKind}{a b:Int}{r:AV}(h:HK op k a b=some r): ∃v,(binOp op t (.int k a) (.int k b)).run P w=.ok v w/\VR β w M r v:=by
 cases op<;>simp only[HK,Co,reduceCtorEq]at h
 case add=>subst h;exact⟨_,by simp[binOp,Op.intArith],.d (.int _ _)⟩
 case sub=>subst h;exact⟨_,by simp[binOp,Op.intArith],.d (.int _ _)⟩
 case mul=>subst h;exact⟨_,by simp[binOp,Op.intArith],.d (.int _ _)⟩
 case quo=>
  split at h
  .cases h
  .rename_i c;exact zDu
 case rem=>
  split at h
  .cases h
  .rename_i c;exact zDu
 case eql=>subst h;exact⟨_,by simp[binOp,Op.intCmp],.d (.bool _)⟩
 case neq=>subst h;exact⟨_,by simp[binOp,Op.intCmp],.d (.bool _)⟩
 case lss=>subst h;exact⟨_,by simp[binOp,Op.intCmp],.d (.bool _)⟩
 case leq=>subst h;exact⟨_,by simp[binOp,Op.intCmp],.d (.bool _)⟩
 case gtr=>subst h;exact⟨_,by simp[binOp,Op.intCmp],.d (.bool _)⟩
 case geq=>subst h;exact⟨_,by simp[binOp,Op.intCmp],.d (.bool _)⟩
def Si(dd:Nat){xs ys:Array Value}: ∀(fs:List Field) (n:Nat) (ks:List TK) (as bs:List AV) (r:Bool),Rl P n fs=some ks->Fv ks as bs=some r->
 (∀(i:Nat) (x:AV) (v:Value),as[i]? =some x->xs[n+i]? =some v->VR β w M x v)->(∀(i:Nat) (x:AV) (v:Value),bs[i]? =some x->ys[n+i]? =some v->VR β w M x v)->
 n+as.length=xs.size->n+bs.length=ys.size->(Op.eqFields (dd+1) xs ys fs).run P w=.ok r w
 |[],n,ks,as,bs,r,hf,hc,_,_,_,_=>by
  simp only[Rl,Co]at hf;subst hf;cases as with
  |nil=>cases bs with
   |nil=>simp only[Fv,Co]at hc;subst hc;simp[Op.eqFields]
   |cons=>simp[Fv]at hc
  |cons=>simp[Fv]at hc
 |f::fs,n,ks,as,bs,r,hf,hc,hx,hy,hlx,hly=>by
  obtain⟨d,k,ks',hu,hk,hfs,hoff,hname,rfl⟩: ∃d k ks',P.underlying f.type=some d/\((Js d=.bool/\k=TK.bool)\/(Js d=.int/\k=TK.int)\/(Js d=.str/\k=TK.str))/\Rl P (n+1) fs=some ks'/\f.offset=n/\f.name≠ "_" /\ks=k::ks':=by
   simp only[Rl]at hf;cases hu:P.underlying f.type with
   |none=>simp[hu]at hf
   |some d=>
    simp only[hu,F3]at hf;split at hf
    .rename_i h1 _ h3;split at hf
     .rename_i hcc;cases hf;exact⟨d,.bool,_,rfl,.inl ⟨by simpa using h1,rfl⟩,h3,hcc.1,hcc.2,rfl⟩
     .cases hf
    .rename_i h1 _ h3;split at hf
     .rename_i hcc;cases hf;exact⟨d,.int,_,rfl,.inr (.inl ⟨by simpa using h1,rfl⟩),h3,hcc.1,hcc.2,rfl⟩
     .cases hf
    .rename_i h1 _ h3;split at hf
     .rename_i hcc;cases hf;exact⟨d,.str,_,rfl,.inr (.inr ⟨by simpa using h1,rfl⟩),h3,hcc.1,hcc.2,rfl⟩
     .cases hf
    .cases hf
  cases as with
  |nil=>simp[Fv]at hc
  |cons x as=>
   cases bs with
   |nil=>simp[Fv]at hc
   |cons y bs=>
    simp only[Fv]at hc;split at hc
    .rename_i p q hp hq;cases hc;simp only[List.length_cons]at hlx hly;have hxn:n<xs.size:=AA;have hyn:n<ys.size:=AA;have hvx:=hx 0 x xs[n] AG AG;have hvy:=hy 0 y ys[n] AG AG;have ih:=Si dd fs (n+1) ks' as bs q hfs hq (fun i x v h1 h2=>hx (i+1) x v (by simpa using h1) (by rw[<-h2];congr 1;omega)) (fun i x v h1 h2=>hy (i+1) x v (by simpa using h1) (by rw[<-h2];congr 1;omega)) AA AA;have hag:NK d=false:=by cases d<;>simp_all [Js,NK]
     have hpx:(part f.type xs f.offset).run P w=.ok xs[n] w:=by rw[hoff];simp[part,KN hu,hag,hxn]
     have hpy:(part f.type ys f.offset).run P w=.ok ys[n] w:=by rw[hoff];simp[part,KN hu,hag,hyn]
     have heq:(Op.equalIn (dd+1) f.type xs[n] ys[n]).run P w=.ok p w:=by
      rcases hk with⟨hd,rfl⟩|⟨hd,rfl⟩|⟨hd,rfl⟩
      .unfold IA at hp;split at hp<;>(try cases hp)<;>(try(rename_i hh;cases hh))
       rename_i a b;rw[JW hvx,JW hvy];have:d=.bool:=by cases d<;>simp_all [Js]
       subst this;exact run_equalIn_bool' w dd f.type a b hu
      .unfold IA at hp;split at hp<;>(try cases hp)<;>(try(rename_i hh;cases hh))
       split at hp
       .rename_i k a k' b hkk;cases hp;subst hkk;rw[G7 hvx,G7 hvy];cases d<;>simp[Js]at hd;exact run_equalIn_int w dd f.type _ _ _ _ hu
       .cases hp
      .unfold IA at hp;split at hp<;>(try cases hp)<;>(try(rename_i hh;cases hh))
       rename_i a b;rw[KI hvx,KI hvy];have:d=.string:=by cases d<;>simp_all [Js]
       subst this;rw[run_equalIn_string w dd f.type a b hu,beq_toListBytes]
     simp only[Op.eqFields,hname,ne_eq,not_false_eq_true,F6,Sem.run_bind,hpx,hpy,heq,Result.andThen_ok];cases p
     .simp
     .simpa using ih
    .cases hc
variable{op:BinOp}{t:TypeId}{a b:Value}
def IE{x y:Operand}(c: ¬(a=.nilIface/\b=.nilIface))(h2: ∀e f,¬(a=.agg e/\b=.agg f)):(eqGuard op t x y a b).run P w=.ok () w:=by
 cases op<;>first
  |(simp[eqGuard];done)
  |(cases a<;>first
   |(simp[eqGuard];done)
   |(cases b<;>first
    |(simp[eqGuard];done)
    |exact absurd ⟨rfl,rfl⟩ c
    |exact absurd ⟨rfl,rfl⟩ (h2 _ _)))
def JL{r:Bool}(e: ∀d,(Op.equalIn (d+1) t a b).run P w=.ok r w)(c:binOp .eql t a b=(do pure (.bool (<-Op.equal t a b))))(h2:binOp .neq t a b=(do pure (.bool (!(<-Op.equal t a b))))):
 (binOp .eql t a b).run P w=.ok (.bool r) w/\(binOp .neq t a b).run P w=.ok (.bool (!r)) w:=by
 have h:(Op.equal t a b).run P w=.ok r w:=e 9999;constructor
 .rw[c,Sem.run_bind,h];rfl
 .rw[h2,Sem.run_bind,h];rfl
def j7{t:TypeId}{info:TypeInfo}{d:TypeDesc}(U:P.info? t=some info)(h2:P.underlying t=some d){x y:AV}{vx vy:Value}(l:VR β w M x vx)(m:VR β w M y vy){r:Bool}
 (h:JV (DA P t d) x y=some r) (A B:Operand):(∀op,(eqGuard op t A B vx vy).run P w=.ok () w)/\(binOp .eql t vx vy).run P w=.ok (.bool r) w/\(binOp .neq t vx vy).run P w=.ok (.bool (!r)) w:=by
 generalize g:DA P t d=k at h;have n:(¬(vx=.nilIface/\vy=.nilIface))->(∀o u,¬(vx=.agg o/\vy=.agg u))->((binOp .eql t vx vy).run P w=.ok (.bool r) w/\(binOp .neq t vx vy).run P w=.ok (.bool (!r)) w)->
  (∀op,(eqGuard op t A B vx vy).run P w=.ok () w)/\(binOp .eql t vx vy).run P w=.ok (.bool r) w/\(binOp .neq t vx vy).run P w=.ok (.bool (!r)) w:=
  fun g1 L N=>⟨fun op=>IE g1 L,N⟩
 unfold JV at h;split at h
 ·
  rename_i ks cs ds;cases l with
  |agg _ o I J=>
   cases m with
   |agg _ u b1 K=>
    cases d with
    |struct C=>
     simp only[DA]at g;split at g
     .rename_i Y Q;split at g
      .rename_i D;cases g;have F:P.fieldsOf t=C:=by simp[Program.fieldsOf,h2]
       have heq:=Si (β:=β) (w:=w) (M:=M) (P:=P) 9998 C.toList 0 ks cs ds r Q h (fun i x v p q=>J i x v p (by simpa using q)) (fun i x v p q=>K i x v p (by simpa using q)) (by simpa using I) (by simpa using b1);have H:(Op.equalIn 10000 t (.agg o) (.agg u)).run P w=.ok r w:=by
        rw[run_equalIn_struct w 9999 t o u (by rw[F];exact h2) D.1,F];exact heq
       exact⟨fun op=>run_eqGuard_agg w op t A B o u D.2,by rw[run_eql_struct,H];rfl,by rw[run_neq_struct,H];rfl⟩
      .cases g
     .cases g
    |_=>simp[DA]at g
 ·
  cases h;obtain⟨p,q,s,rfl⟩:=XU g;cases l with
  |fn f a b T b'=>
   cases m with
   |d j=>exact zAj
 .cases h;obtain⟨p,q,s,rfl⟩:=XU g;cases l with
  |d j=>
   cases j;cases m with
   |d j=>exact zAj
 .cases h;obtain⟨e,rfl⟩:=cD g;cases l with
  |ptr id off S R=>
   cases m with
   |d j=>exact zAj
 .cases h;obtain⟨e,rfl⟩:=cD g;cases l with
  |d j=>
   cases j;cases m with
   |d j=>exact zAj
 .cases h;obtain⟨e,rfl⟩:=Pc g;cases l with
  |iface av v az X=>
   cases m with
   |d j=>exact zAj
 .cases h;obtain⟨e,rfl⟩:=Dg g;cases m;cases l with
  |d j=>
   cases j with
   |bv es b off cap sz c elem fr Z ac ad ag ai ar=>
    exact zDC
 .cases h;obtain⟨e,rfl⟩:=Dg g;cases m;cases l with
  |f8 id off len S a cap R W V O=>
   have:=O.resolve_right AA;subst this;exact zDC
 .cases h;obtain⟨e,rfl⟩:=Dg g;cases m;cases l;exact n AG AG (JL (fun d=>by simp[Op.equalIn,run_underlying h2]) rfl rfl)
 .have:=XT g;subst this;unfold IA at h;split at h<;>(try cases h)<;>(try(rename_i z;cases z))
  rename_i a b;rw[JW l,JW m];refine⟨fun op=>IE AG AG,?_,?_⟩
  .rw[run_eql_bool _ _ _ _ h2]
  .rw[run_neq_bool _ _ _ _ h2]
 .have:=Nj g;subst this;unfold IA at h;split at h<;>(try cases h)<;>(try(rename_i z;cases z))
  rename_i a b;rw[KI l,KI m];refine⟨fun op=>IE AG AG,?_,?_⟩
  .simp[binOp,Op.stringOp,beq_toListBytes]
  .simp[binOp,Op.stringOp,beq_toListBytes]
 .cases h
def sQ{h:AD}(H:HR A β w h){ρ:List Nat}{op:BinOp}{t:TypeId}{x y:AV}{vx vy:Value}(g:VR β w (MS A β h) x vx)(j:VR β w (MS A β h) y vy)(k l:Operand){r:AV}
 (c:Im op x y (Cb P mix t)=some r):Ew A ρ β w h ((do pure (.value (<-(do eqGuard op t k l vx vy;binOp op t vx vy))):Sem Next).run P w) ⟨r,[]⟩:=by
 suffices hs:(eqGuard op t k l vx vy).run P w=.ok () w/\ ∃v,(binOp op t vx vy).run P w=.ok v w/\VR β w (MS A β h) r v by
  obtain⟨f,v,h2,p⟩:=hs;exact .plain H (v:=v) (by simp[f,h2]) rfl p
 unfold Im at c;split at c
 .split at c
  .rename_i e;subst e;rw[G7 g,G7 j];exact⟨IE AG AG,ot c⟩
  .cases c
 .split at c
  .rename_i i q;obtain⟨info,d,z,f,h2,p,_,rfl⟩:=BZ q;split at c
   .rename_i b m;cases c;obtain⟨g1,n,o⟩:=j7 f h2 g j m k l;exact⟨g1 _,_,n,.d (.bool _)⟩
   .rename_i b m;cases c;obtain⟨g1,n,o⟩:=j7 f h2 g j m k l;exact⟨g1 _,_,o,.d (.bool _)⟩
   .unfold gW at c;split at c
    .rename_i a b;rw[KI g,KI j];refine⟨IE AG AG,?_⟩;unfold xZ at c;split at c
     .exact zBV
     .exact zBV
     .exact zBV
     .exact zBV
     .cases c
    .cases c
  .cases c
variable{h:AD}{ρ:List Nat}{x y r:AV}{vx vy:Value}
def vp(H:HR A β w h)(o:VR β w (MS A β h) x vx)(p:VR β w (MS A β h) y vy)(f g:Operand)
 (c:vt (bw f||bw g) op x y (Cb P mix t)=some r):Ew A ρ β w h ((do pure (.value (<-(do eqGuard op t f g vx vy;binOp op t vx vy))):Sem Next).run P w) ⟨r,[]⟩:=by
 unfold vt at c;split at c
 .rename_i i n;obtain⟨info,d,z,q,h2,s,_,rfl⟩:=BZ n;cases o with
  |d k=>
  cases k;cases p with
  |d k=>
  cases k;have m: ∀op,(bw f||bw g)=true->(eqGuard op t f g .nilIface .nilIface).run P w=.ok () w:=fun op j=>by
   unfold eqGuard;have:(f matches .const _)||(g matches .const _)=true:=by
    cases f<;>cases g<;>simp[bw]at j⊢
   cases f<;>cases g<;>simp[bw]at j<;>cases op<;>simp
  split at c
  .rename_i j l;cases c;obtain⟨e,rfl⟩:=Pc l;refine .plain H (v:=.bool true) ?_ rfl (.d (.bool _));have:=(JL (P:=P) (w:=w) (t:=t) (a:=.nilIface) (b:=.nilIface) (r:=true) (fun d=>by simp[Op.equalIn,run_underlying h2]) rfl rfl).1;simp[m _ j,this]
  .rename_i j l;cases c;obtain⟨e,rfl⟩:=Pc l;refine .plain H (v:=.bool false) ?_ rfl (.d (.bool _));have:=(JL (P:=P) (w:=w) (t:=t) (a:=.nilIface) (b:=.nilIface) (r:=true) (fun d=>by simp[Op.equalIn,run_underlying h2]) rfl rfl).2;simp[m _ j,this]
  .cases c
 .cases c
def yR(H:HR A β w h)(e:VR β w (MS A β h) x vx)(f:VR β w (MS A β h) y vy)(b c:Operand)
 (a:l8 (bw b||bw c) op x y (Cb P mix t)=some r):Ew A ρ β w h ((do pure (.value (<-(do eqGuard op t b c vx vy;binOp op t vx vy))):Sem Next).run P w) ⟨r,[]⟩:=by
 unfold l8 Hd at a;split at a
 .rename_i v g;cases a;exact sQ H e f b c g
 .exact vp H e f b c a
