/- P -/
import Derived.WalkKit
import Derived.Test.YtbinfhpngacfgaaGreatOn0
set_option linter.all false
open Go renaming World->G2,Value->G4,TypeId->Hk,Program->H5,Operand->LF,Sem->M5,Result->OI
open List renaming replicate->Sm,length->U
open Option renaming some->J,none->I
open Bool renaming true->X,false->Z
namespace Go
variable{p:Prop}
def zCP(h:p:=by simpa using h):p:=h
def zCc(h:p:=by simpa using j):p:=h
def zCl(h:p:=by simp[Instr.storeAt,Instr.sureAddr,L]):p:=h
def zCp(h:p:=by simpa using r):p:=h
def zC7(h:p:=by simp[World.frozen?,hb]):p:=h
def zC9(h:p:=by simpa using M):p:=h
def zDO(h:p:=by simp[o]):p:=h
end Go
namespace Go.Abs
variable{A:Nat->Prop}{P:H5}{g:List Hk}{β:BF}{w:G2}{M:Nat->Prop}
variable{t:Hk}{i:TI}
theorem BL(a:Cm P g t=J i):∃info d b,P.info? t=J info/\P.underlying t=J d/\info.zero=J b/\(info.bytes<=65536/\Nc P d=X/\b.cells.size=info.size/\Yg b=PZ d)/\
 i={kind:=DM P t d,size:=info.size,agg:=PZ d,str:=sh d,zero:=b.cells.toList.map Ek,flds:=Py P d,elem:=Hv d,key:=Yi d,mix:=g.any (Nat.beq t)}:=by
 unfold Cm at a;split at a
 .rename_i info d e f;split at a
  .rename_i b h;split at a
   .rename_i c;cases a;simp only[As]at c;exact⟨info,d,b,e,f,h,⟨GS c.1.1.1,c.1.1.2,D5 c.1.2,by simpa using c.2⟩,rfl⟩
   .cases a
  .cases a
 .cases a
variable{b off:Nat}{c:Array G4}{elem:Hk}{m:Nat×Nat}
theorem Qn(h:w.heap[b]?=J (.cells c elem m)):w.cell? ⟨b,off,I⟩=c[off]? :=by simp[World.cell?,h]
theorem FR(b off j:Nat):(⟨b,off,I⟩:Addr).add j=⟨b,off+j,I⟩:=by grind [Addr.add]
def LQ{d:TypeDesc}(h:P.underlying t=J d):(isAgg t).run P w=.ok (PZ d) w:=by cases d<;>simp[isAgg,run_underlying h,PZ]
def CR{i:TypeInfo}(h:P.info? t=J i):(sizeOf t).run P w=.ok i.size w:=by simp[sizeOf,typeInfo,h]
variable{o:Type}{l r:List o}{n:Nat}
theorem KU(h:Kj l off n=J r):off+n<=(U l)/\(U r)=n/\∀i,i<n->r[i]?=l[off+i]? :=by grind [Kj]
def AKu{b:Type}(a:o->b)(l:List o)(off n:Nat):Kj (l.map a) off n=(Kj l off n).map (·.map a):=by unfold Kj;simp only[BV];split<;>simp
variable{k:Nat}
theorem KK{a:List (List o)}{c:Nat}{e:List o}(f:∀e∈a,U e=c)(g:a[k]?=J e){b:Nat}(i:b<c):a.flatten[k*c+b]?=e[b]? :=by
 induction a generalizing k with
 |nil=>simp at g
 |cons h a l=>
  have j:=f h AG;rcases k with _|k
  .grind
  .grind
theorem Ee{a:List (List o)}{sz:Nat}(c:∀b∈a,U b=sz):U a.flatten=U a*sz:=by induction a with|nil=>simp|cons f a e=>grind
theorem L1(x:Cm P g t=J i)(q:w.heap[b]?=J (.cells c elem m)){src:List y} (n:U src=i.size) (s:off+i.size<=c.size) (A:∀(h:Nat) (j:y) (e:G4),src[h]?=J j->c[off+h]?=J e->VR β w M j e){r:y} (a:Gi i.agg src=J r):∃e,(loadVar t ⟨b,off,I⟩).run P w=.ok e w/\VR β w M r e:=by
 obtain⟨info,d,F,p,k,B,C,rfl⟩:=BL x;simp only at n s a;unfold Gi at a;split at a
 .rename_i f;cases a;have l:(loadCells ⟨b,off,I⟩ ((c.toList.drop off).take info.size).length).run P w=.ok ((c.toList.drop off).take info.size).toArray w:=
   run_loadCells_list (P:=P) w ⟨b,off,I⟩ _ (λh e D=>by grind [FR,Qn])
  have v:((c.toList.drop off).take info.size).length=info.size:=BP;rw[v]at l;refine⟨.agg ((c.toList.drop off).take info.size).toArray,?_,.agg _ _ zCI ?_⟩
  .simp[loadVar,LQ k,f,CR p,l]
  grind
 .rename_i f;split at a
  .rename_i j;cases a;simp only[ID,MD]at n;have o:off<c.size:=z;refine⟨c[off],?_,A 0 _ _ AG zDO⟩;simp[loadVar,LQ k,f,Qn q,o]
  .cases a
def hK(β:BF)(w:G2)(h:BF)(g:G2)(f:S):Prop:=(∀b,b<w.heap.size->(∀a∈f,∀k,β a.1=J k->k.b≠b)->g.heap[b]?=w.heap[b]?)/\∀c k,h c=J k->β c=J k\/w.heap.size<=k.b\/∃a∈f,∃e,β a.1=J e/\e.b=k.b
theorem hK.refl(β:BF)(w:G2)(b:S):hK β w β w b:=⟨λ_ _ _=>rfl,λ_ _ a=>.inl a⟩
def E3(A:Nat->Prop)(h:u)(β:BF)(w:G2)(e:S)(r:OI Next)(b:DF):Prop:=
 ∃n g c a,r=.ok n c/\(n=.value g\/(n=.skip/\g=Go.undef))/\Le β a/\(∀f,a f≠I->β f≠I\/h<:+f)/\
  HR A a c (e.q_d b.δ)/\FI A (MS A β e) w (MS A a (e.q_d b.δ)) c/\VR a c (MS A a (e.q_d b.δ)) b.v g/\hK β w a c b.δ
variable{f:u}{h:S}{j:DF}{v:G4}
def E3.plain(H:HR A β w h){r:OI Next}(b:r=.ok (.value v) w)(a:j.δ=[])(c:VR β w (MS A β h) j.v v):
 E3 A f β w h r j:=
 ⟨_,v,w,β,b,.inl rfl,.refl β,λ_ h=>.inl h,by rw[a];exact H,by rw[a];exact .refl _ _,by rw[a];exact c,hK.refl _ _ _⟩
theorem KJ:VR β w M (Ek v) v:=by
 unfold Ek;split
 .exact .d (.int _ _)
 .exact .d (.bool _)
 .exact .d (.str _)
 .exact .d9
 .exact .d .nilp
 .exact .d .nilf
 .exact .d .wt
 .exact .d .nilm
 .exact .undef _
variable{e:Nat->y}{a:Act}
theorem Ko(f:MX β w M e λt=>a.tmps.getD t Go.undef)(b:LF):VR β w M (ev e b) (a.eval b):=by cases b with|tmp t=>exact f t|const v=>exact KJ|global g=>exact .undef _|func c=>exact .fn c [] [] #[] #[] rfl rfl (λ_ _ _ h=>by simp at h) (λ_ _ _ h=>by simp at h)
variable{q:G4}
theorem nZ(H:HR A β w h)(a0:Cm P g t=J i){a:y}(a4:VR β w (MS A β h) a q){r:y}(f:Kq h.get i a=J r):
 ∃a v,q=.pointer (J a)/\(loadVar t a).run P w=.ok v w/\VR β w (MS A β h) r v:=by
 cases a4 with
 |ptr R off k ar=>
  simp[Kq]at f;split at f
  .rename_i ad x;obtain⟨Y,V,c,elem,n,o,D⟩:=H.obj R _ x;rw[ar]at V;cases V;cases K:Kj ad off i.size with
   |none=>simp[K]at f
   |some l=>
    simp[K]at f;obtain⟨a1,M,aa⟩:=KU K;obtain⟨v,p,az⟩:=L1 a0 n M (by rw[<-o];exact a1) (λL s v B p=>by
     have T:L<i.size:=by rw[<-M];exact(BI.1 B).1
     rw[aa L T]at B;exact D _ s v B p) f
    exact⟨_,v,rfl,p,az⟩
  .cases f
 |rt R k off C ar=>
  have a6:∀{c:Array G4} {elem:Hk} {m:Nat×Nat} {j:Nat} {es:List (List y)} {e src:List y},w.heap[C.b]?=J (.cells c elem m)->j=C.sz->
   (∀e∈es,U e=j)->(U es)*j<=c.size->(∀(i:Nat) (s:y) (v:G4),es.flatten[i]?=J s->c[i]?=J v->VR β w (MS A β h) s v)->
   es[k]?=J e->Kj e off i.size=J src->Gi i.agg src=J r->∃v,(loadVar t ⟨C.b,k*C.sz+off,I⟩).run P w=.ok v w/\VR β w (MS A β h) r v:=by
   intro c elem m j es e src n o D N O F Q ag;obtain⟨a1,M,aa⟩:=KU Q;have bc:=D e (AP F);have a5:=(BI.1 F).1;have be:k*j+j<=(U es)*j:=by have:=HM j a5;rw[Nat.succ_mul]at this;exact this
   refine L1 a0 n M (by rw[<-o];omega) (λL s v B p=>?_) ag;have T:L<i.size:=by rw[<-M];exact(BI.1 B).1
   rw[aa L T,<-KK D F z]at B;refine O _ s v B ?_;rw[<-p,<-o];congr 1;omega
  simp[Kq]at f;obtain⟨Y,V,av⟩:∃Y,β R=J Y/\∀ac,h.get R=J ac->PK β w (MS A β h) Y ac:=by cases x:h.get R with|none=>simp[x]at f|some ac=>obtain⟨Y,n,o⟩:=H.obj R ac x;grind
  rw[ar]at V;cases V;have a':∀{c:Array G4} {elem:Hk} {m:Nat×Nat} {j:Nat} {es:List (List Ar)} {e src:List Ar},w.heap[C.b]?=J (.cells c elem m)->j=C.sz->
     (∀e∈es,U e=j)->(U es)*j<=c.size->(∀(i:Nat) (s:Ar) (v:G4),es.flatten[i]?=J s->c[i]?=J v->DR w (MS A β h) s v)->
     es[k]?=J e->Kj e off i.size=J src->Gi i.agg (src.map .d)=J r->∃v,(loadVar t ⟨C.b,k*C.sz+off,I⟩).run P w=.ok v w/\VR β w (MS A β h) r v:=by
   intro c elem m j es e src n o D N O F Q ag;refine a6 (es:=es.map (·.map .d)) (e:=e.map .d) (src:=src.map .d) n o ?_ (by simpa using N) ?_ (by simp[F]) ?_ ag
   .grind
   .intro i s v a3 p;rw[<-Rg,Be,BY]at a3;obtain⟨a2,W,rfl⟩:=a3;exact .d (O i a2 v W p)
   .rw[AKu,Q];rfl
  suffices K:∃v,(loadVar t ⟨C.b,k*C.sz+off,I⟩).run P w=.ok v w/\VR β w (MS A β h) r v by grind
  split at f
  .rename_i j es x;obtain⟨c,elem,n,o,D,N,O,F,Q⟩:=av _ x;grind [Option.bind_eq_some_iff]
  .rename_i j es x;cases ai:es[k]? with
   |none=>simp[ai]at f
   |some e=>
    simp[ai,HE]at f;obtain⟨l,bh,f⟩:=f;rcases av _ x with rfl|⟨_,c,elem,m,n,o,D,N,O,F,Q⟩
    .simp at ai
    grind
  .rename_i j es x;obtain⟨c,elem,n,o,D,N,O,F,Q⟩:=av _ x;grind [Option.bind_eq_some_iff]
  .cases f
 |iptr ad b off c elem m n o D N=>
  simp[Kq]at f;cases K:Kj ad 0 i.size with
  |none=>simp[K]at f
  |some l=>
   simp[K]at f;obtain⟨a1,M,aa⟩:=KU K;obtain⟨v,p,az⟩:=L1 a0 (off:=off) (M:=MS A β h) (β:=β) n (src:=l.map .d) zC9 z (λL s v B p=>by
    simp at B;obtain⟨a2,W,rfl⟩:=B;have T:L<i.size:=by rw[<-M];exact(BI.1 W).1
    rw[aa L T,I7]at W;exact .d (N _ a2 v W p)) f
   exact⟨_,v,rfl,p,az⟩
 |_=>simp[Kq]at f
def AKM(H:HR A β w h){a:y}(k:VR β w (MS A β h) a q)(b:QI h.get a (Cm P g t)=J j):
 E3 A f β w h ((do pure (.value (<-Instr.loadAt t q)):M5 Next).run P w) j:=by
 rcases ht:Cm P g t with _|i
 .simp[QI,ht]at b
 .simp[QI,ht]at b;obtain⟨r,l,rfl⟩:=b;obtain⟨m,v,rfl,c,e⟩:=nZ H ht k l;exact .plain H (by simp[Instr.loadAt,Instr.sureAddr,c]) rfl e
def G6(c:Array G4)(off:Nat)(a:List G4):Array Value:=(c.toList.take off++a++c.toList.drop (off+U a)).toArray
variable{vs:List G4}
theorem FQ(h:off+U vs<=c.size):(G6 c off vs).size=c.size:=by simp[G6];omega
theorem GP(h:off+U vs<=c.size)(i:Nat):
 (G6 c off vs)[i]?=if i<off then c[i]? else if i<off+U vs then vs[i-off]? else c[i]? :=by grind [G6]
variable{new:List o}
theorem Ey(h:DD l off new=J r):off+U new<=(U l)/\(U r)=U l/\
 ∀i,r[i]?=if i<off then l[i]? else if i<off+U new then new[i-off]? else l[i]? :=by grind [DD]
theorem QP(a:w.heap[b]?=J (.cells c elem m))(v:G4):
 w.setCell ⟨b,off,I⟩ v=World.nl w b (.cells (c.setIfInBounds off v) elem m):=by
 unfold World.setCell World.nl;congr 1;grind
def iZ(b:Nat)(x A9:Go.Obj):World.nl (World.nl w b x) b A9=World.nl w b A9:=by simp[World.nl]
variable{x:Go.Obj}
theorem Zn(h:w.heap[b]?=J x):World.nl w b x=w:=by
 unfold World.nl;have:w.heap.setIfInBounds b x=w.heap:=by
  apply OK;intro i;rw[I4];split
  .grind
  .rfl
 rw[this]
def Hs{b:Nat}{elem:Hk}:∀(vs:List G4) (off:Nat) (w:G2) (c:Array G4) (a:Nat),w.heap[b]?=J (.cells c elem (0,0))->off+a+U vs<=c.size->
 (∀v∈vs,v.oneCell'=X)->(storeCells ⟨b,off,I⟩ vs a).run P w=.ok () (World.nl w b (.cells (G6 c (off+a) vs) elem (0,0)))
 |[],off,w,c,a,hb,hl,_=>by
  have o:G6 c (off+a) []=c:=by simp[G6]
  simp only[storeCells,o,Zn hb];rfl
 |v::vs,off,w,c,a,hb,hl,h1=>by
  simp at hl;have m:(w.cell? ⟨b,off+a,I⟩)=J (c[off+a]'(z)):=by rw[Qn hb];simp
  have n:w.frozen? ⟨b,off+a,I⟩=false:=zC7
  have p:(store ((⟨b,off,I⟩:Addr).add a) v).run P w=.ok () (World.nl w b (.cells (c.setIfInBounds (off+a) v) elem (0,0))):=by rw[FR,run_store _ _ _ _ _ (h1 v AG),m];simp[n,QP hb]
  have l:(World.nl w b (.cells (c.setIfInBounds (off+a) v) elem (0,0))).heap[b]?=J (.cells (c.setIfInBounds (off+a) v) elem (0,0)):=GK _ (BZ hb);have r:=Hs vs off _ (c.setIfInBounds (off+a) v) (a+1) l BP (λv q=>h1 v (by simp[q]));simp only[storeCells,Sem.run_bind,p,Result.andThen_ok,r,iZ];congr 3;apply OK;intro i;rw[GP (c:=c.setIfInBounds (off+a) v) (off:=off+(a+1)) (vs:=vs) BP i,
   GP (c:=c) (off:=off+a) (vs:=v::vs) BP i]
  simp[I4];by_cases h:i<off+a
  .have e:i<off+(a+1):=z;have f:¬off+a=i:=z;simp[h,e,f]
  .by_cases k:i=off+a
   .subst k;have e:off+a<off+(a+1):=z;have f:off+a<off+a+(U vs+1):=z;have g:off+a<c.size:=z;simp[e,f,g]
   .have e:¬i<off+(a+1):=z;have f:¬off+a=i:=z;have g:i-(off+a)=(i-(off+(a+1)))+1:=z;have j:(i<off+(a+1)+U vs)↔(i<off+a+(U vs+1)):=z;simp[h,e,f,g,j]
theorem VR.cellsOk{x:y}{v:G4}(h:VR β w M x v)(a:x.cells.all y.q_b=X):Hg β w M x.cells v.cells/\∀j∈v.cells,j.oneCell'=true:=by
 have one:∀{x:y} {v:G4},VR β w M x v->x.q_b=X->v.oneCell'=true:=by intro x v h a;cases h with|d h=>cases h<;>rfl|agg b c e g=>simp[y.q_b]at a|kw b c e g=>simp[y.q_b]at a|undef v=>simp[y.q_b]at a|_=>rfl
 by_cases m:∃b,x=.agg b
 .obtain⟨b,rfl⟩:=m;cases h with
  |agg b c e g=>
   refine⟨⟨e,g⟩,λj f=>?_⟩;obtain⟨i,k,rfl⟩:=Array.mem_iff_getElem.1 f;simp[y.cells]at a;have l:i<U b:=by rw[e];exact k
   exact one (g i (b[i]'l) (c[i]'k) (CI l) (D9 k)) (a _ (Mp l))
 .have o:x.cells=[x]:=by cases x<;>first|rfl|exact absurd ⟨_,rfl⟩ m
  rw[o]at a⊢;simp at a;have e:=one h a;have n:v.cells= #[v]:=by cases v<;>first|rfl|simp[Value.oneCell']at e
  rw[n];refine⟨⟨rfl,λi q j p f=>?_⟩,λj f=>by simp at f;subst f;exact e⟩;grind
def eT(h e:S):Prop:=∀a b,e.get a=J b->b.mut=X->∃c,h.get a=J c/\c.mut=X
def H6(b:S)(c:u):Prop:=∀a,b.get c=J a->a.mut=Z
theorem eT.refl(h:S):eT h h:=λ_ c a b=>⟨c,a,b⟩
variable{g:S}
def eT.ms(l:eT h g)(a:MS A β g b):MS A β h b:=by
 rcases a with a|⟨c,m,k,e,f,i,j⟩
 .exact .inl a
 .have⟨o',h5,h6⟩:=l c m e f;exact .inr ⟨c,o',k,h5,h6,i,j⟩
def eT.ol(b:eT h g):FI A (MS A β h) w (MS A β g) w:=⟨λ_ _ _=>rfl,D2 _,λ_ a=>.inl (b.ms a),rfl,rfl⟩
theorem eT.nil(h:S):eT h []:=λ_ _ a _=>by simp at a
theorem H6.nil(a:u):H6 [] a:=λ_ h=>by simp at h
def H6.notMS{h g:S}(H:HR A β w h)(m:eT h g){b:u}{k:Wx}(s:H6 g b)(j:β b=J k){c:Obj}(l:h.get b=J c)(a:c.mut=X\/¬MS A β h k.b):¬MS A β g k.b:=by
 intro i;rcases a with a|a
 .rcases i with r|⟨n,o,t,f,e,p,q⟩
  .exact H.out b c k l a j r
  have⟨o3,h5,h6⟩:=m n o f e;have:=H.inj b n c o3 k t l h5 a h6 j p q.symm;subst this;rw[s o f]at e;cases e
 .exact a (m.ms i)
theorem YQ{b l:List (List o)}{a:Nat}(g:∀e∈b,U e=a)(t:Kj b off n=J l):
 (∀e∈l,U e=a)/\∀i,i<n*a->l.flatten[i]?=b.flatten[off*a+i]? :=by
 have⟨s1,s2,s3⟩:=KU t;have h:∀e∈l,U e=a:=by intro e r;obtain⟨i,c,rfl⟩:=Rd.1 r;have:=s3 i z;rw[CI c]at this;exact g _ (AP this.symm)
 refine⟨h,λi c=>?_⟩;have s:=Nat.pos_of_mul_pos_left (Nat.lt_of_le_of_lt (F9 _) c);have k:=Nat.div_lt_of_lt_mul (by rw[Pp];exact c);have f:i % a<a:=Nat.mod_lt _ s;have m:i=i/a*a+i % a:=by rw[Pp];exact(Nat.div_add_mod i a).symm
 have p:=s3 _ k;have j:i/a<U l:=z;rw[m,KK h (CI j) f];have q:b[off+i/a]?=J l[i/a]:=by rw[<-p];exact CI j
 have:=KK g q f;grind
theorem VZ{g l:List (List Ar)}{f off n:Nat}{c:Array G4}{elem:Hk}{m:Nat×Nat}{b cap:Nat}{a:Option Addr}{h:Nat->Prop}(p:w.heap[b]?=J (.cells c elem m)) (t:¬h b) (r:∀e∈g,U e=f) (B:U g*f<=c.size)(A:∀(i:Nat) (x:Ar) (v:G4),g.flatten[i]?=J x->c[i]?=J v->DR w h x v) (o:Kj g off n=J l) (j:a=J ⟨b,off*f,I⟩\/n=0) (q:n<=cap):
 DR w h (.co l) (.slice a n cap):=by
 have⟨s1,s2,_⟩:=KU o;have⟨f1,f2⟩:=YQ r o;by_cases k:n=0
 .subst k;have:=PI.1 s2;subst this;exact .lst0 a cap
 .rcases j with rfl|j
  .subst s2;have s:off*f+U l*f<=c.size:=by have:=HM f s1;rw[Lm]at this;omega
   refine .co l b (off*f) cap f c elem m p t f1 s (λi x v D C=>?_) q;grind [Ee]
  .exact absurd j k
def Hc:y->List u
 |.ii a _ _=>[a]|_=>[]
def Qx{h g:S}(H:HR A β w h)(n:eT h g){v:y}{L:G4}{x:Ar}(V:VR β w (MS A β h) v L)(e:Fz h.get v=J x)(R:∀o∈Hc v,H6 g o):
 DR w (MS A β g) x L:=by
 cases V with
 |d Q=>simp[Fz]at e;subst e;exact Q.mono n.ol|d9=>simp[Fz]at e;subst e;exact .lst0 _ _|emp a=>simp[Fz]at e;subst e;exact .lst0 _ _
 |ii o off len k a cap p Y K P=>
  have F:=R o (by simp[Hc]);have D:a=J ⟨k.b,off*k.sz,I⟩\/len=0:=P.imp (λh=>h) (λh=>z);simp[Fz]at e;split at e
  .rename_i W M f;have⟨k',j,c,elem,r,s,N,O,t,B,C⟩:=H.obj o _ f;rw[p]at j;cases j;simp at e;obtain⟨l,q,rfl⟩:=e;subst s;exact VZ r (F.notMS H n p f (.inl rfl)) t B (λi x v a b=>(C i x v a b).mono n.ol) q D K
  .rename_i W M f;have⟨k',j,ho⟩:=H.obj o _ f;rw[p]at j;cases j;simp at e;obtain⟨l,q,rfl⟩:=e;rcases ho with rfl|⟨T,c,elem,m,r,s,N,O,t,B,C⟩
   .have⟨s1,s2,_⟩:=KU q;simp only[MD]at s1;have:len=0:=z;subst this;have:=PI.1 s2;subst this;exact .lst0 _ _
   .subst s;exact VZ r (F.notMS H n p f (.inr T)) t B (λi x v a b=>(C i x v a b).mono n.ol) q D K
  .cases e
 |_=>simp[Fz]at e
def DRs(w:G2)(M:Nat->Prop)(a:List Ar)(c:Array G4):Prop:=U a=c.size/\∀(i:Nat) (x:Ar) (v:G4),a[i]?=J x->c[i]?=J v->DR w M x v
variable{m:G}
theorem GF:∀{vs:List y} {a:List Ar},Ef m vs=J a->(U a)=U vs/\∀(i:Nat) (v:y) (x:Ar),vs[i]?=J v->a[i]?=J x->Fz m v=J x
 :=by intro x;induction x<;>grind [Ef]
theorem Ly:∀{vs:List (List y)} {a:List (List Ar)},EN m vs=J a->(U a)=U vs/\∀(i:Nat) (v:List y) (x:List Ar),vs[i]?=J v->a[i]?=J x->Ef m v=J x
 :=by intro x;induction x<;>grind [EN]
theorem TM:∀{a b:List y} {x e:List Ar},Ef m a=J x->Ef m b=J e->Ef m (a++b)=J (x++e)
 |[],b,x,e,c,h2=>by grind [Ef]|v::a,b,x,e,c,h2=>by
  simp[Ef]at c;split at c
  .rename_i h i f g;cases c;simp[Ef,f,TM g h2]
  .cases c
def GG{m:G}:∀{vs:List (List y)} {a:List (List Ar)},EN m vs=J a->Ef m vs.flatten=J a.flatten
 |[],a,h=>by simp[EN]at h;subst h;rfl|v::vs,a,h=>by
  simp[EN]at h;split at h
  .rename_i x e b c;cases h;exact TM b (GG c)
  .cases h
theorem OT{vs:List (List y)}{b:List (List Ar)}(h:EN m vs=J b){a:Nat}(j:∀e∈vs,U e=a):∀e∈b,U e=a:=by have⟨h1,h2⟩:=Ly h;intro e g;obtain⟨i,c,rfl⟩:=Rd.1 g;have f:i<U vs:=z;have:=h2 i _ _ (CI f) (CI c);grind [GF,List.getElem_mem]
structure bX(h h':S):Prop:=
 each:∀id,h'.get id=h.get id\/(∃sz es,h.get id=J (.f8 sz es)/\h'.get id=J (.v6 sz es))\/
  ∃sz es ds,h.get id=J (.arr sz es)/\h'.get id=J (.v6 sz ds)/\EN h.get es=J ds/\∀v∈es.flatten,∀id'∈Hc v,H6 h' id'
def bX.sub(i:bX h g):eT h g:=by
 intro j k c b;rcases i.each j with e|⟨l,es,f,a⟩|⟨l,es,ds,f,a,_⟩
 .exact⟨k,e▸c,b⟩
 .rw[c]at a;cases a;cases b
 .rw[c]at a;cases a;cases b
theorem bX.hr(l:bX h g)(H:HR A β w h):HR A β w g:=by
 refine H.step (.refl β) l.sub.ol ?_ ?_ H.bnd ?_
 .intro o T p;rcases l.each o with e|⟨Q,K,f,j⟩|⟨Q,K,R,f,j,m,q⟩
  .grind
  .rw[p]at j;cases j;have⟨k,hk,c,elem,g1,g2,g3,g4,g5,g6,g7⟩:=H.obj o _ f;have s:H6 g o:=λo' n=>by rw[p]at n;cases n;rfl
   exact .inr ⟨k,hk,.inr ⟨s.notMS H l.sub hk f (.inl rfl),c,elem,_,g1,g2,g3,g4,g5,g6,λi x v a b=>(g7 i x v a b).mono l.sub.ol⟩⟩
  .rw[p]at j;cases j;have⟨k,hk,c,elem,g1,g2,g3,g4,g5,g6,g7⟩:=H.obj o _ f;have s:H6 g o:=λo' n=>by rw[p]at n;cases n;rfl
   refine .inr ⟨k,hk,.inr ⟨s.notMS H l.sub hk f (.inl rfl),c,elem,_,g1,g2,g3,g4,OT m g5,by rw[(Ly m).1];exact g6,λi x v a b=>?_⟩⟩;have⟨q1,q2⟩:=GF (GG m);have t:i<U K.flatten:=by rw[<-q1];exact(BI.1 a).1
   exact Qx H l.sub (g7 i _ v (CI t) b) (q2 i _ x (CI t) a) (q _ (Mp t))
 .intro a b F P D O r L C N B M e;have⟨oa',f,j⟩:=l.sub a F r C;have⟨ob',m,q⟩:=l.sub b P L N;exact H.inj a b oa' ob' D O f m j q B M e
 .intro a F D r C B;have⟨oa',f,j⟩:=l.sub a F r C;exact H.out a oa' D f j B
theorem JZ(b:S):∀(h:S) (a:u),((h.q_d b).get a=h.get a/\∀c∈b,c.1≠a)\/∃c∈b,c.1=a/\(h.q_d b).get a=J c.2:=by induction b with|nil=>intro h a;exact .inl ⟨rfl,AG⟩|cons f b e=>grind [S.q_F,S.q_e]
theorem L4{vs:List y}{a:u×Obj}(h:a∈Ck m vs):∃c b,a.2=.v6 c b/\m a.1=J (.f8 c b):=by have⟨v,_,hp⟩:=BE.1 h;cases v with|ii e off n=>grind [JQ]|_=>simp[JQ]at hp
variable{p:S}
theorem SR(e:∀b∈p,∃c a,b.2=.v6 c a/\h.get b.1=J (.f8 c a)):bX h (h.q_d p):=by refine⟨λf=>?_⟩;grind [JZ]
def NA{h:S}{vs:List y}{p:S}(w:∀b∈p,∃c a,b.2=.v6 c a/\h.get b.1=J (.f8 c a))(s:∀b∈Ck h.get vs,b∈p){q:List Ar}(t:Ef h.get vs=J q):
 ∀v∈vs,∀g∈Hc v,H6 (h.q_d p) g:=by
 intro v o g l A f;cases v with
 |ii x off n=>
  simp[Hc]at l;subst l;have⟨i,hi,hvi⟩:=Rd.1 o;have⟨q1,q2⟩:=GF t;have e:=q2 i _ (q[i]'(z)) (CI hi) (CI z);rw[hvi]at e;rcases JZ p h g with⟨j,m⟩|⟨b,j,m,r⟩
  .simp[Fz]at e;split at e
   .rename_i c a k;exact absurd rfl (m (g,.v6 c a) (s _ (BE.2 ⟨_,o,by simp[JQ,k]⟩)))
   .rename_i c a k;rw[j,k]at f;cases f;rfl
   .cases e
  .have⟨c,a,h4,h5⟩:=w b j;rw[r,h4]at f;cases f;rfl
 |_=>simp[Hc]at l
def mH(H:HR A β w h)(l:eT h g){vs:List y}{j:List Ar}(f:Hg β w (MS A β h) vs c)(m:Ef h.get vs=J j)(k:∀v∈vs,∀n∈Hc v,H6 g n):DRs w (MS A β g) j c:=by
 have⟨q1,q2⟩:=GF m;refine⟨by rw[q1];exact f.1,λi x v a b=>?_⟩;have e:i<U vs:=by rw[<-q1];exact(BI.1 a).1
 exact Qx H l (f.2 i _ v (CI e) b) (q2 i _ x (CI e) a) (k _ (Mp e))
variable{A:Nat->Prop}{P:H5}{s:List Hk}{β:BF}{w:G2}{M:Nat->Prop}
variable{w':G2}
def E3.skip{r:OI Next}(e:r=.ok .skip w')(g:j.v=.undef)(H:HR A β w' (h.q_d j.δ)) (c:FI A (MS A β h) w (MS A β (h.q_d j.δ)) w') (a:∀b,b<w.heap.size->(∀i∈j.δ,∀k,β i.1=J k->k.b≠b)->w'.heap[b]?=w.heap[b]?):E3 A f β w h r j:=⟨_,Go.undef,w',β,e,.inr ⟨rfl,rfl⟩,.refl β,λ_ h=>.inl h,H,c,by rw[g];exact .undef _,a,λ_ _ h=>.inl h⟩
theorem Mg{a:u}{c:Obj}{k:Wx}(x:Go.Obj)(g:(a,c)∈p)(f:β a=J k):
 ∀b,b<w.heap.size->(∀e∈p,∀k,β e.1=J k->k.b≠b)->(World.nl w k.b x).heap[b]?=w.heap[b]? :=by grind [Eu]
variable{m:List y}
theorem XX{β:BF}{w:G2}{M:Nat->Prop}{new a:List y}(h:Hg β w M m c)(f:Hg β w M new vs.toArray)(g:DD m off new=J a):
 Hg β w M a (G6 c off vs):=by
 have⟨s1,s2,s3⟩:=Ey g;obtain⟨b,k⟩:=h;obtain⟨j,o⟩:=f;simp at j;have e:off+U vs<=c.size:=z;refine⟨by rw[FQ e,s2,b],λi x v n l=>?_⟩;grind [GP]
def Mx{info:TypeInfo}(g:P.info? t=J info)(f:w.heap[b]?=J (.cells c elem (0,0)))(i:v.cells.size=info.size) (h:off+v.cells.size<=c.size) (e:∀a∈v.cells,a.oneCell'=X):
 (storeVar t ⟨b,off,I⟩ v).run P w=.ok () (World.nl w b (.cells (G6 c off v.cells.toList) elem (0,0))):=by
 have:=Hs (P:=P) v.cells.toList off w c 0 f zCP (λa j=>e a zCc);simp at this;simp[storeVar,CR g,i,this]
variable{g:List o}
theorem YR{a:List (List o)}{b:Nat}{e:List o}(f:∀e∈a,U e=b)(c:a[k]?=J e)(l:U g=b)(i:Nat):
 (a.set k g).flatten[i]?=if i<k*b then a.flatten[i]? else if i<k*b+b then g[i-k*b]? else a.flatten[i]? :=by
 induction a generalizing k i with
 |nil=>simp at c
 |cons x a j=>
  have m:=f x AG;rcases k with _|k
  .grind
  .simp at c;have:=j (λe h=>f e (by simp[h])) c (i-b);grind [Nat.add_mul]
theorem bR{R':o->G4->Prop}{f:List (List o)}{b:Nat}{e:List o}(j:∀e∈f,U e=b)(h:f[k]?=J e)(t:DD e off new=J g) (D:U f*b<=c.size) (w:∀(i:Nat) (x:o) (v:G4),f.flatten[i]?=J x->c[i]?=J v->R' x v)(F:U new=U vs) (H:∀(i:Nat) (x:o) (v:G4),new[i]?=J x->vs[i]?=J v->R' x v):
 k*b+off+U vs<=c.size/\(∀a∈f.set k g,U a=b)/\(f.set k g).length*b<=(G6 c (k*b+off) vs).size/\
  ∀(i:Nat) (x:o) (v:G4),(f.set k g).flatten[i]?=J x->(G6 c (k*b+off) vs)[i]?=J v->R' x v:=by
 have⟨s1,s2,s3⟩:=Ey t;have B:=j e (AP h);have s:=(BI.1 h).1;have C:k*b+b<=(U f)*b:=by have:=HM b s;rw[Nat.succ_mul]at this;exact this
 have m:k*b+off+U vs<=c.size:=z;refine⟨m,?_,by grind [FQ],?_⟩
 .grind
 .intro i x v l A;rw[YR j h z]at l;rw[GP m]at A;by_cases n:i<k*b
  .grind
  .by_cases p:i<k*b+b
   .simp[n,p]at l;rw[s3]at l;have K:e[i-k*b]?=J x->c[i]?=J v->R' x v:=by intro q r;refine w i x v ?_ r;rw[<-q,<-KK j h (show i-k*b<b by omega)];congr 1;omega
    grind
   grind
def Y7{b:u}(h:Tr b p=X):∀a∈p,a.1≠b:=by intro a c e;have:=EL.1 h a c;rw[e]at this;simp at this
theorem Qz{a:u}(c:∀b∈p,b.1≠a):(h.q_d p).get a=h.get a:=by grind [JZ]
theorem AHd{h:S}(H:HR A β w h){f:u}{t:Hk}{a x:y}{q o:G4}(az:VR β w (MS A β h) a q)(a4:VR β w (MS A β h) x o){j:DF}(l:Mu h.get a x (Cm P s t)=J j):E3 A f β w h ((do Instr.storeAt t q o;pure .skip:M5 Next).run P w) j:=by
 rcases ht:Cm P s t with _|i
 .simp[Mu,ht]at l
 .have⟨info,d,A6,h1,h2,h3,h4,hi⟩:=BL ht;have bc:i.size=info.size:=by rw[hi]
  simp[Mu,ht,Kk]at l;split at l
  .cases l
  .rename_i ac;simp only[As,beq_iff_eq]at ac;obtain⟨a',a0⟩:=ac;have⟨⟨hv1,hv2⟩,hone⟩:=a4.cellsOk a0;cases az with
   |ptr F off k p=>
    simp only at l;split at l
    .rename_i m B;have⟨k',D,c,elem,g1,g2⟩:=H.obj F _ B;rw[p]at D;cases D;simp at l;obtain⟨av,K,rfl⟩:=l;have a2:off+o.cells.size<=c.size:=by rw[<-hv1,<-g2.1];exact(Ey K).1
     have L:=Mx (P:=P) h1 g1 (v:=o) z a2 hone;have r:=Ho H (o':=.box av) B rfl p (.cells (G6 c off o.cells.toList) elem (0,0));refine .skip (w':=World.nl w k.b (.cells (G6 c off o.cells.toList) elem (0,0))) zCl rfl ?_ r (Mg _ (AS.2 rfl) p);refine H.upd' B rfl p ⟨_,elem,GK _ (BZ g1),?_⟩;exact XX (g2.mono (.refl β) r) ⟨by simpa using hv1,λa5 Q O N M=>(hv2 a5 Q O N zC9).mono (.refl β) r⟩ K
    .cases l
   |rt F n off k p=>
    simp only at l;split at l
    .rename_i V C B;have⟨k',D,c,elem,g1,g2,g3,g4,g5,g6,g7⟩:=H.obj F _ B;rw[p]at D;cases D;subst g2;split at l
     .rename_i e a6 W ag a3;simp at l;obtain⟨g,K,rfl⟩:=l;have ar:∀T∈Ck h.get x.cells,∃V C,T.2=.v6 V C/\h.get T.1=J (.f8 V C):=λT Y=>L4 Y;have R:=SR ar;have a1:=NA ar (λT Y=>Y) ag;have aa:=R.hr H;have ai:(h.q_d (Ck h.get x.cells)).get F=J (.f8 k.sz C):=by rw[Qz (Y7 a3)];exact B
      have ad:=mH H R.sub ⟨hv1,hv2⟩ ag a1;have r:=Ho aa (o':=.f8 k.sz (C.set n g)) ai rfl p (.cells (G6 c (n*k.sz+off) o.cells.toList) elem (0,0));have⟨q1,q2,q3,q4⟩:=bR (R':=DR (World.nl w k.b (.cells (G6 c (n*k.sz+off) o.cells.toList) elem (0,0))) (MS A β ((h.q_d (Ck h.get x.cells)).put F (.f8 k.sz (C.set n g))))) (vs:=o.cells.toList) g5 W K g6
       (λi x v a b=>(g7 i x v a b).mono (R.sub.ol.trans r)) (by simpa using ad.1) (λi Q O N M=>(ad.2 i Q O N zC9).mono r)
      simp at q1;have L:=Mx (P:=P) (off:=n*k.sz+off) h1 g1 (v:=o) z q1 hone;refine .skip (w':=World.nl w k.b (.cells (G6 c (n*k.sz+off) o.cells.toList) elem (0,0))) zCl rfl ?_ ?_ (Mg _ (II _ (AS.2 rfl)) p)
      .rw[S.q_k];refine aa.upd' ai rfl p ⟨_,elem,GK _ (BZ g1),rfl,g3,?_,q2,q3,q4⟩;grind [FQ]
      .rw[S.q_k];exact R.sub.ol.trans r
     .cases l
    .rename_i V C B;have⟨k',D,c,elem,g1,g2,g3,g4,g5,g6,g7⟩:=H.obj F _ B;rw[p]at D;cases D;subst g2;split at l
     .rename_i e W;simp at l;obtain⟨g,K,rfl⟩:=l;have r:=Ho H (o':=.arr k.sz (C.set n g)) B rfl p (.cells (G6 c (n*k.sz+off) o.cells.toList) elem (0,0));have⟨q1,q2,q3,q4⟩:=bR (R':=VR β (World.nl w k.b (.cells (G6 c (n*k.sz+off) o.cells.toList) elem (0,0))) (MS A β (h.put F (.arr k.sz (C.set n g))))) (vs:=o.cells.toList) g5 W K g6
       (λi x v a b=>(g7 i x v a b).mono (.refl β) r) (by simpa using hv1) (λi Q O N M=>(hv2 i Q O N zC9).mono (.refl β) r)
      simp at q1;have L:=Mx (P:=P) (off:=n*k.sz+off) h1 g1 (v:=o) z q1 hone;refine .skip (w':=World.nl w k.b (.cells (G6 c (n*k.sz+off) o.cells.toList) elem (0,0))) zCl rfl ?_ r (Mg _ (AS.2 rfl) p);refine H.upd' B rfl p ⟨_,elem,GK _ (BZ g1),rfl,g3,?_,q2,q3,q4⟩;grind [FQ]
     .cases l
    .cases l
   |_=>simp at l
def VS(e:w'.heap=w.heap)(a:w'.os=w.os/\w'.output=w.output)(M:Nat->Prop):FI A M w M w':=⟨λb _ _=>by rw[e],by rw[e];exact D2 _,λ_ h=>.inl h,a⟩
def HR.heap(H:HR A β w h)(e:w'.heap=w.heap)(a:w'.os=w.os/\w'.output=w.output):HR A β w' h:=H.step (.refl β) (VS e a _) (λ_ _ c=>.inl ⟨c,λ_ _=>by rw[e]⟩) H.inj (λf k b=>by rw[e];exact H.bnd f k b) H.out
def J3(a:Nat)(f:u):f<:+a::f:=FD a f
theorem Y3{h a:S}{w₁:G2}(C:HR A β w a)(K:eT h a)(j:w₁.heap=w.heap)(o:w₁.os=w.os/\w₁.output=w.output){f:u}(D:∀g,f<:+g->β g=I)(tag:Nat){x:Go.Obj}{l:Obj}{k:Wx}(F:k.b=w.heap.size) {p:S} (B:h.q_d p=a.put (tag::f) l)(H:∀{c:Nat->Prop},Le β (β.put (tag::f) k)->FI A (MS A β h) w c (World.add w₁ x)->FI A (MS A β a) w c (World.add w₁ x)->PK (β.put (tag::f) k) (World.add w₁ x) c k l){v:y} {m:G4} (L:∀{c:Nat->Prop},VR (β.put (tag::f) k) (World.add w₁ x) c v m):
 E3 A f β w h (.ok (.value m) (World.add w₁ x)) ⟨v,p⟩:=by
 have i:=D _ (J3 tag f);have n:=C.heap j o;have q:k.b=w₁.heap.size:=by rw[j];exact F
 have s:FI A (MS A β a) w (MS A (β.put (tag::f) k) (a.put (tag::f) l)) (World.add w₁ x):=(VS j o _).trans (ZK n x q);have t:=K.ol.trans s;refine⟨_,m,_,β.put (tag::f) k,rfl,.inl rfl,SL i,λg N=>?_,?_,?_,L,λb M _=>by grind [Kv],λg O r=>?_⟩
 .grind [Cq]
 .rw[B];exact n.add i q (H (SL i) t s)
 .rw[B];exact t
 .by_cases e:g=tag::f
  .subst e;simp at r;subst r;exact .inr (.inl z)
  grind [Cq]
def w8(H:HR A β w h)(g:∀a,f<:+a->β a=I)(e:Hg β w (MS A β h) m c)(elem:Hk):
 E3 A f β w h (.ok (.value (.pointer (J ⟨w.heap.size,0,I⟩))) (World.add w (.cells c elem))) ⟨.ptr (0::f) 0,[(0::f,.box m)]⟩:=by
 refine Y3 H (.refl h) rfl ⟨rfl,rfl⟩ g 0 (k:=⟨w.heap.size,0,0⟩) rfl rfl ?_ ?_
 .intro b j i _;exact⟨c,elem,Mc w _,e.mono j i⟩
 .intro b;exact .ptr _ _ _ (Hp _ _ _)
variable{g:G4}
theorem ALb(a:(g.cells.toList.map Ek).all y.q_b=X):Hg β w M (g.cells.toList.map Ek) g.cells:=by refine⟨AG,λi x v c b=>?_⟩;grind [KJ]
def Ez{i:TypeInfo}(h:P.info? t=J i)(a:i.zero=J g):(zeroValue t).run P w=.ok g w:=by simp[zeroValue,typeInfo,h,a]
def ADe(H:HR A β w h)(l:∀b,f<:+b->β b=I)(a:Q7 f (Cm P s t)=J j):
 E3 A f β w h ((do pure (.value (<-Instr.alloc t X (.tuple #[]))):M5 Next).run P w) j:=by
 rcases ht:Cm P s t with _|i
 .simp[Q7,ht]at a
 .obtain⟨info,d,g,c,n,e,o,rfl⟩:=BL ht;simp only[Q7,ht]at a;split at a
  .rename_i k;cases a;have:=w8 H l (ALb (β:=β) (w:=w) (M:=MS A β h) k.2) t;have m:((do pure (.value (<-Instr.alloc t X (.tuple #[]))):M5 Next).run P w)=.ok (.value (.pointer (J ⟨w.heap.size,0,I⟩))) (World.add w (.cells g.cells t)):=by simp[Instr.alloc,Ez c e,newVar,newRow,World.add]
   rw[m];exact this
  .cases a
def zL(H:HR A β w h)(g:∀c,f<:+c->β c=I){x:y}{b:G4}(l:VR β w (MS A β h) x b)(a:cy f x (Cm P s t)=J j):E3 A f β w h ((do pure (.value (<-Instr.box t b)):M5 Next).run P w) j:=by
 rcases ht:Cm P s t with _|i
 .simp[cy,ht]at a
 .simp only[cy,ht]at a;split at a
  .rename_i e;cases a;have:=w8 H g (l.cellsOk e.2).1 t;have k:((do pure (.value (<-Instr.box t b)):M5 Next).run P w)=.ok (.value (.pointer (J ⟨w.heap.size,0,I⟩))) (World.add w (.cells b.cells t)):=by simp[Instr.box,newVar,newRow,World.add]
   rw[k];exact this
  .cases a
theorem VG(H:HR A β w h){w₁:G2}(M:w₁.heap=w.heap)(K:w₁.os=w.os/\w₁.output=w.output)(F:∀P,f<:+P->β P=I){n:TI}{g:List (List y)}{cap:Nat}(C:c.size=cap*n.size) (B:U g<=cap) (m:∀(i:Nat) (x:y) (v:G4),g.flatten[i]?=J x->c[i]?=J v->VR β w (MS A β h) x v) 
 (k:q_h h.get f n g=J j):
 E3 A f β w h (.ok (.value (.slice (J ⟨w.heap.size,0,I⟩) (U g) cap)) (World.add w₁ (.cells c elem))) j:=by
 unfold q_h at k;split at k
 .cases k
 .rename_i D;simp only[As,EL,beq_iff_eq]at D;obtain⟨⟨R,o⟩,aa⟩:=D;have o:0<n.size:=by simpa[RG]using o
  have L:=λe h=>(R e h).1;have V:U g*n.size<=c.size:=by rw[C];exact HM _ B
  split at k
  .cases k;refine Y3 H (.refl h) M K F 1 (k:=⟨w.heap.size,n.size,c.size⟩) rfl rfl ?_ ?_
   .intro q N l _;exact⟨c,elem,by grind [Mc],rfl,o,rfl,L,V,λi x v a b=>(m i x v a b).mono N l⟩
   .intro q;exact .ii _ _ _ _ _ _ (Hp _ _ _) (by simp[C]) B (.inl AG)
  .split at k
   .rename_i Y s;cases k;have O:∀p∈g.flatMap (Ck h.get),∃Q g,p.2=.v6 Q g/\h.get p.1=J (.f8 Q g):=by intro p l;have⟨e,_,l⟩:=BE.1 l;exact L4 l
    have r:=SR O;have T:=NA (vs:=g.flatten) O (λp l=>by have⟨v,m,l⟩:=BE.1 l;have⟨e,k,m⟩:=Mk.1 m;exact BE.2 ⟨e,k,BE.2 ⟨v,m,l⟩⟩) (GG s)
    have⟨q1,q2⟩:=GF (GG s);refine Y3 (r.hr H) r.sub M K F 1 (k:=⟨w.heap.size,n.size,c.size⟩) rfl (by rw[S.q_k];rfl) ?_ ?_
    .intro q N l W;refine⟨c,elem,by grind [Mc],rfl,o,rfl,OT s L,by grind [Ly],λi x v a b=>?_⟩;have t:i<U g.flatten:=by rw[<-q1];exact(BI.1 a).1
     exact(Qx H r.sub (m i _ v (CI t) b) (q2 i _ x (CI t) a) (T _ (Mp t))).mono W
    .intro q;exact .ii _ _ _ _ _ _ (Hp _ _ _) (by simp[C]) B (.inl AG)
   .cases k
variable{A:Nat->Prop}{P:H5}{p:List Hk}{β:BF}{w:G2}{M:Nat->Prop}
def VQ(x:Go.Obj)(M:Nat->Prop):FI A M w M (World.add w x):=⟨λb a _=>Kv w x a,by rw[Lk];omega,λ_ h=>.inl h,rfl,rfl⟩
def HR.add'(H:HR A β w h)(x:Go.Obj):HR A β (World.add w x) h:=H.step (.refl β) (VQ x _) (λ_ _ b=>.inl ⟨b,λk a=>Kv w x (H.bnd _ k a)⟩) H.inj (λc k a=>by rw[Lk];have:=H.bnd c k a;omega) H.out
theorem su(vs:List G4):∀(c:Array G4) (off a:Nat),off+a+U vs<=c.size->
 (vs.zipIdx a).foldl (λm (x:G4×Nat)=>m.setIfInBounds (off+x.2) x.1) c=G6 c (off+a) vs:=by
 induction vs with|nil=>intro c off a _;simp[G6]|cons v vs e=>intro c off a b;simp at b;rw[List.zipIdx_cons,Ok,e _ _ _ zCI];apply OK;grind [GP]
theorem W7{t pl':Nat->Option (Nat×Nat)}(C:∀i,t i=pl' i):∀(l:List (Nat×y)) (f:List (Nat×G4)) (m j:List y) (c:Array G4),Hg β w M m c->
 (U l)=U f->(∀(i:Nat) k h,l[i]?=J k->f[i]?=J h->k.1=h.1/\VR β w M k.2 h.2)->EK t m l=J j->∃o,Instr.fill pl' c f=J o/\Hg β w M j o
 |[],f,m,j,c,hc,hl,_,b=>by
  rcases f with _|⟨h,f⟩
  .simp[EK]at b;subst b;exact⟨c,rfl,hc⟩
  .simp at hl
 |(i,v)::l,f,m,j,c,hc,hl,hr,b=>by
  rcases f with _|⟨h,f⟩
  .simp at hl
  .obtain⟨K,n⟩:=h;have⟨e,hvu⟩:=hr 0 (i,v) (K,n) rfl rfl;simp only at e hvu;subst e;simp only[EK]at b;split at b
   .rename_i off size r;split at b
    .rename_i q;simp[HE]at b;obtain⟨x,s,b⟩:=b;have p:=(hvu.cellsOk q.2).1;have O:n.cells.size=size:=by rw[<-p.1];exact q.1
     have B:off+n.cells.size<=c.size:=by rw[<-hc.1,<-p.1];exact(Ey s).1
     have A:=XX hc (vs:=n.cells.toList) ⟨by simpa using p.1,λa L g F H=>p.2 a L g F (by simpa using H)⟩ s;have⟨o,h1,h2⟩:=W7 C l f x j _ A (by simpa using hl) (λa k h r D=>hr (a+1) k h zCp (by simpa using D)) b;refine⟨o,?_,h2⟩;have N:=su n.cells.toList c off 0 (by simpa using B);grind [Instr.fill,Array.toList_zipIdx]
    .cases b
   .cases b
theorem oq(c:MX β w M e λt=>a.tmps.getD t Go.undef)(b:Array (Nat×LF)):
 (JD e b).length=(b.map λ(x:Nat×LF)=>(x.1,a.eval x.2)).toList.length/\
 ∀(i:Nat) p q,(JD e b)[i]?=J p->(b.map λ(x:Nat×LF)=>(x.1,a.eval x.2)).toList[i]?=J q->p.1=q.1/\VR β w M p.2 q.2:=by grind [JD,Ko]
def tp(b:List Field)(c:∀a∈b,∃i,P.info? a.type=J i):
 (b.mapM λ(a:Field)=>(do pure (a.offset,<-sizeOf a.type):M5 (Nat×Nat))).run P w=.ok (b.map λa=>(a.offset,P.cellsOf a.type)) w:=by
 induction b with|nil=>rfl|cons a b e=>have⟨i,hi⟩:=c a AG;rw[List.mapM_cons];simp only[Sem.run_bind,CR hi,Result.andThen_ok,Sem.run_pure,e (λa h=>c a (by simp[h])),By,Program.cellsOf,hi,Gs,F7]
variable{b:Array (Nat×LF)}
theorem AD1(H:HR A β w h)(C:MX β w (MS A β h) e λt=>a.tmps.getD t Go.undef)(n:Q8 (JD e b) (Cm P p t)=J j):
 E3 A f β w h ((do pure (.value (<-Instr.build t (b.map λ(x:Nat×LF)=>(x.1,a.eval x.2)))):M5 Next).run P w) j:=by
 rcases ht:Cm P p t with _|i
 .simp[Q8,ht]at n
 .obtain⟨info,d,g,r,s,B,⟨_,q,_⟩,rfl⟩:=BL ht;simp only[Q8,ht]at n;split at n
  .cases n
  .rename_i o;simp at o;simp at n;obtain⟨m,F,rfl⟩:=n;have⟨p1,p2⟩:=oq C b;have N:Hg β w (MS A β h) (g.cells.toList.map Ek) g.cells:=⟨AG,λi x v Q O=>by grind [KJ]⟩
   cases d with
   |struct l=>
    simp only[Nc,EL,As,OS]at q;have K:=tp (P:=P) (w:=w) l.toList λc D=>(q c D).1;have M:∀k:Nat,(((Py P (.struct l))[k]?).map λ(c:Nat×Nat×Bool)=>(c.1,c.2.1))=(l.toList.map λc=>(c.offset,P.cellsOf c.type)).toArray[k]? :=by intro k;simp only[Py,Be,Option.map_map,List.getElem?_toArray];cases l.toList[k]? <;>simp[Program.cellsOf]
    have⟨c',q1,q2⟩:=W7 (pl':=λk=>(l.toList.map λc=>(c.offset,P.cellsOf c.type)).toArray[k]?) M _ _ _ _ g.cells N p1 p2 F;have L:(l.mapM λ(c:Field)=>(do pure (c.offset,<-sizeOf c.type):M5 (Nat×Nat))).run P w=.ok (l.toList.map λc=>(c.offset,P.cellsOf c.type)).toArray w:=by rw[Array.mapM_eq_mapM_toList,Sem.run_map,K,Result.andThen_ok]
    refine .plain H (v:=.agg c') ?_ rfl (.agg _ _ q2.1 q2.2);simp only[Sem.run_bind,Instr.build,Ez r B,Result.andThen_ok,run_underlying s,L,q1,Sem.run_pure]
   |_=>simp[sh]at o
theorem vI(g:Array G4)(n:Nat)(i:Nat):((Array.range n).map (g[· % g.size]!))[i]?=if i<n then J g[i % g.size]! else none:=zCI
theorem qq{g:G4}{n f:Nat}(m:g.cells.size=f):Hg β w M ((Sm n (g.cells.toList.map Ek)).flatten) ((Array.range (n*f)).map (g.cells[· % g.cells.size]!)):=by
 subst m;have c:∀e∈Sm n (g.cells.toList.map Ek),U e=g.cells.size:=by intro e k;rw[List.eq_of_mem_replicate k];simp
 refine⟨by rw[Ee c];simp,λi x v q a=>?_⟩;rw[vI]at a;split at a
 .rename_i b;cases a;have l:=Nat.pos_of_mul_pos_left (Nat.lt_of_le_of_lt (F9 _) b);have h:=Nat.div_lt_of_lt_mul (by rw[Pp];exact b);have j:i % g.cells.size<g.cells.size:=Nat.mod_lt _ l;have o:i=i/g.cells.size*g.cells.size+i % g.cells.size:=by rw[Pp];exact(Nat.div_add_mod i _).symm
  have p:=KK c (k:=i/g.cells.size) (e:=g.cells.toList.map Ek) (by simp[h]) j;grind [KJ]
 .cases a
theorem rz(a:Nat):∀(n:Nat) (l:List o),(Iz a n l).length=n
 :=by intro x;induction x<;>grind [Iz]
theorem kD(a:Nat):∀(n:Nat) (l:List o),U l=n*a->(Iz a n l).flatten=l
 :=by intro x;induction x<;>grind [Iz,List.take_append_drop]
def E3.other(H:HR A β w h)(a:j.δ=[])(c:VR β (World.add w x) (MS A β h) j.v v):
 E3 A f β w h (.ok (.value v) (World.add w x)) j:=
 ⟨_,v,_,β,rfl,.inl rfl,.refl β,λ_ h=>.inl h,by rw[a];exact H.add' x,by rw[a];exact VQ x _,by rw[a];exact c,λ_ b _=>Kv w x b,λ_ _ h=>.inl h⟩
theorem Z1(H:HR A β w h)(ac:∀T,f<:+T->β T=I)(O:MX β w (MS A β h) e λt=>a.tmps.getD t Go.undef)(c:Eo (Cm P p) h.get f n (JD e b) (Cm P p t)=J j):
 E3 A f β w h ((do pure (.value (<-Instr.buildSlice t n (b.map λ(x:Nat×LF)=>(x.1,a.eval x.2)))):M5 Next).run P w) j:=by
 rcases ht:Cm P p t with _|i
 .grind [Eo]
 .obtain⟨info,d,g,a',B,bc,_,rfl⟩:=BL ht;simp[Eo,ht]at c;split at c
  .rename_i bh ag Q;cases d with
   |slice s=>
    simp[Hv]at Q;obtain⟨l,a5,W,q,a6,Y,_,rfl⟩:=BL Q;unfold Iv at c;split at c
    .rename_i m F;have⟨p1,p2⟩:=oq O b;split at c
     .cases c;have⟨c',q1,q2⟩:=W7 (β:=β) (w:=w) (M:=MS A β h) (pl':=λk=>J (k*l.size,l.size)) (λ_=>rfl) _ _ _ _ #[] ⟨rfl,AG⟩ p1 p2 F;have L:((do pure (.value (<-Instr.buildSlice t 0 (b.map λ(x:Nat×LF)=>(x.1,a.eval x.2)))):M5 Next).run P w)=.ok (.value (.slice (J ⟨w.heap.size,0,I⟩) 0 0)) (World.add w (.cells c' s)):=by have D:((Array.range 0).map ((#[]:Array G4)[· % (#[]:Array G4).size]!))= #[]:=AG;simp only[Sem.run_bind,Instr.buildSlice,run_underlying B,Result.andThen_ok,CR q,Nat.zero_mul,IS,Sem.run_pure];rw[Co Af];simp only[Sem.run_bind,Sem.run_pure,Result.andThen_ok,D];rw[q1];simp[newRow,World.add]
      rw[L];exact .other H rfl (.emp _)
     .rename_i bi be;split at c
      .rename_i M;simp only[As,beq_iff_eq,BV,PM]at M;obtain⟨C,az⟩:=M;have C:n*l.size<=2 ^ 24:=GS C;have⟨c',q1,q2⟩:=W7 (pl':=λk=>J (k*l.size,l.size)) (λ_=>rfl) _ _ _ _ _ (qq (β:=β) (w:=w) (M:=MS A β h) (n:=n) az) p1 p2 F;have N:U m=n*l.size:=by
        have ad:∀(V:Nat->Option (Nat×Nat)) (b:List (Nat×y)) (m r:List y),EK V m b=J r->(U r)=U m:=by
         intro V b;induction b with
         |nil=>grind [EK]
         |cons a1 b a0=>
          intro m r o;obtain⟨bk,bl⟩:=a1;simp only[EK]at o;split at o
          .split at o
           .simp[HE]at o;obtain⟨a4,a2,a3⟩:=o;rw[a0 _ _ a3];exact(Ey a2).2.1
           .cases o
          .cases o
        rw[ad _ _ _ _ F,Ee (sz:=l.size) (λe O=>by grind)];simp
       have aa:(Iz l.size n m).length=n:=rz _ _ _;have R:=VG H (w₁:=w) rfl ⟨rfl,rfl⟩ ac (elem:=s) (c:=c') (cap:=n) (by simp only;rw[<-q2.1,N]) zCI (by rw[kD _ _ _ N];intro i x v av ar;exact q2.2 i x v av ar) c
       rw[aa]at R;have L:((do pure (.value (<-Instr.buildSlice t n (b.map λ(x:Nat×LF)=>(x.1,a.eval x.2)))):M5 Next).run P w)=.ok (.value (.slice (J ⟨w.heap.size,0,I⟩) n n)) (World.add w (.cells c' s)):=by
        by_cases K:n*l.size=0
        .have ai:((Array.range (n*l.size)).map (W.cells[· % W.cells.size]!))= #[]:=by rw[K];simp
         have D:((Array.range 0).map ((#[]:Array G4)[· % (#[]:Array G4).size]!))= #[]:=AG;rw[ai]at q1;simp only[Sem.run_bind,Instr.buildSlice,run_underlying B,Result.andThen_ok,CR q,K,IS,Sem.run_pure];rw[Co Af];simp only[Sem.run_bind,Sem.run_pure,Result.andThen_ok,D];rw[q1];simp[newRow,World.add]
        .simp only[Sem.run_bind,Instr.buildSlice,run_underlying B,Result.andThen_ok,CR q,Co (Nat.not_lt.2 C),K,Ge,Sem.run_pure,Ez q Y];rw[q1];simp[newRow,World.add]
       rw[L];exact R
      .cases c
    .cases c
   |_=>simp[DM]at ag<;>(grind)
  .cases c
