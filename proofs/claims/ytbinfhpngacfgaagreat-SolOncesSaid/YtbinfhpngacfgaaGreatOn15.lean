/- P -/
import Derived.ProofKit
import Derived.Test.YtbinfhpngacfgaaGreatOn14
set_option linter.all false
open Go renaming Value->G4,TypeId->Hk,Program->H5
open List renaming replicate->Sm,range->V5,length->U
open Option renaming some->J,none->I
namespace Go.Abs
open Go
inductive Sh where
 |bool
 |int (k:IntKind)
 |str
 |co (e:Hk)
def Lx(b:H5)(c:Hk->Option (List Sh)):List Field->Nat->Option (List Sh)
 |[],_=>J []|f::fs,off=>if f.offset=off then(c f.type).bind λa=>if b.cellsOf f.type=U a then(Lx b c fs (off+U a)).map (a++ ·)else I else I
def DQ(a:H5):Nat->Hk->Option (List Sh)
 |0,_=>I|n+1,t=>match a.underlying t with|some .bool=>J [.bool]|some (.int k)=>J [.int k]|some .string=>J [.str]|some (.slice e)=>J [.co e]|some (.struct fs)=>(Lx a (DQ a n) fs.toList 0).bind λb=>if a.cellsOf t=U b then J b else I|some (.array n' e)=>(DQ a n e).bind λb=>if a.cellsOf e=U b/\a.cellsOf t=n'*U b then J (Sm n' b).flatten else I|_=>I
inductive rH(P:H5)(n:Nat):Sh->Ar->Prop
 |bool (b):rH P n .bool (.bool b)
 |int (k m):(Lit.int k m).wf=true->rH P n (.int k) (.int k m)
 |str (s):s.size<=maxLen->rH P n .str (.str s)
 |co (t) (ss) (es:List (List Ar)):DQ P n t=J ss->(U es)<=maxLen->(∀e∈es,U e=U ss)->(∀e∈es,∀(i:Nat) s x,ss[i]?=J s->e[i]?=J x->rH P n s x)->rH P n (.co t) (.co es)
def N0(e:H5)(f:Nat)(b:List Sh)(c:List Ar):Prop:=U c=U b/\∀(a:Nat) s x,b[a]?=J s->c[a]?=J x->rH e f s x
def Sh.inE(E:List Hk):Sh->Bool
 |.co e=>E.any (Nat.beq e)|_=>true
def eN(b:H5)(e:Nat)(E:List Hk)(c:Hk):Bool:=match DQ b e c with|some a=>decide (b.cellsOf c=U a)&&decide (0<U a)&&a.all (Sh.inE E)|none=>false
variable{P:H5}{n:Nat}
theorem AGs{E:List Hk}(e:E.all (eN P n E)=true){b:Hk}(c:Sh.inE E (.co b)=true):∃a,DQ P n b=J a/\P.cellsOf b=U a/\0<U a/\a.all (Sh.inE E)=true:=by grind [Sh.inE,Nat.eq_of_beq_eq_true,eN]
inductive Fl(P:H5)(n:Nat)(w:World):List Sh->List G4->List Ar->Prop
 |nil:Fl P n w [] [] []
 |cons {s v x ss vs xs}:rH P n s x->DR w (λ_=>False) x v->Fl P n w ss vs xs->Fl P n w (s::ss) (v::vs) (x::xs)
variable{w:World}
def Fl.append{a b:List Sh}{c e:List G4}{f g:List Ar}(j:Fl P n w a c f)(k:Fl P n w b e g):Fl P n w (a++b) (c++e) (f++g):=by induction j with|nil=>exact k|cons h i _ l=>exact .cons h i l
def Fl.len{a:List Sh}{c:List G4}{e:List Ar}(f:Fl P n w a c e):U c=U a/\(U e)=U a:=by induction f with|nil=>exact⟨rfl,rfl⟩|cons g h _ b=>simp[b.1,b.2]
theorem Fl.has{b:List Sh}{e:List G4}{c:List Ar}(a:Fl P n w b e c):N0 P n b c:=by refine⟨a.len.2,?_⟩;induction a with|nil=>intro h j k a;simp at a|cons f g _ i=>grind
theorem Fl.dr{g:List Sh}{e:List G4}{f:List Ar}(a:Fl P n w g e f):∀(b:Nat) c v,f[b]?=J c->e[b]?=J v->DR w (λ_=>False) c v:=by induction a with|nil=>intro b k c a;simp at a|cons h i _ j=>grind
theorem Th{i j:Type}{e:i->Option j}:∀{b:List i} {c:List j},b.mapM e=J c->(U c)=U b/\∀(f:Nat) x,b[f]?=J x->∃g,c[f]?=J g/\e x=J g
 |[],c,h=>by simp at h;subst h;simp|a::b,c,h=>by
  rw[List.mapM_cons]at h;rcases ha:e a with _|k
  .simp[ha]at h
  .rcases hl:b.mapM e with _|l
   .simp[ha,hl]at h
   .simp[ha,hl]at h;subst h;have⟨h1,h2⟩:=Th hl;grind
theorem pick{e:Type}{p:Nat->e->Prop}:∀(n:Nat),(∀a,a<n->∃d,p a d)->∃b:List e,U b=n/\∀(a:Nat) d,b[a]?=J d->p a d
 |0,_=>⟨[],rfl,λa d c=>by simp at c⟩|n+1,c=>by have⟨b,h1,h2⟩:=pick n λa f=>c a z;have⟨d,hd⟩:=c n z;refine⟨b++[d],by simp[h1],λa h g=>?_⟩;grind
variable{H:Type}{a:Hk×G4->H}{P:H5}{w:World}{n:Nat}{E:List Hk}
def bb{r:Hk->List G4->Option (DataW H×List MemPlace)}{h:Hk->Option (List Sh)}(k:∀l c m e,r l c=J m->h l=J e->e.all (Sh.inE E)=true->∃j,Fl P n w e c j){c:List G4}:
 ∀{g:List Field} {f:Nat} {e:List Sh} {ys},Lx P h g f=J e->e.all (Sh.inE E)=true->(U c)=f+U e->(g.mapM λb=>r b.type ((c.drop b.offset).take (P.cellsOf b.type)))=J ys->∃j,Fl P n w e (c.drop f) j
 |[],f,e,ys,a,_,hl,_=>by simp[Lx]at a;subst a;rw[EM (by simp at hl;omega)];exact⟨[],.nil⟩|b::g,f,e,ys,a,ha,hl,hm=>by
  simp only[Lx]at a;split at a
  .rename_i q;rcases h1:h b.type with _|i
   .simp[h1]at a
   .simp only[h1,GC]at a;split at a
    .rename_i p;rcases h2:Lx P h g (f+U i)with _|s
     .simp[h2]at a
     .simp[h2]at a;subst a;rw[S1,As]at ha;rw[List.mapM_cons]at hm;rcases h3:r b.type ((c.drop b.offset).take (P.cellsOf b.type))with _|m
      .simp[h3]at hm
      .rcases h4:(g.mapM λb=>r b.type ((c.drop b.offset).take (P.cellsOf b.type)))with _|t
       .simp[h3,h4]at hm
       .have⟨x1,f1⟩:=k _ _ _ _ h3 h1 ha.1;have⟨x2,f2⟩:=bb k h2 ha.2 (by simp at hl;omega) h4;rw[q,p]at f1;have o:c.drop f=(c.drop f).take (U i)++c.drop (f+U i):=by rw[<-List.drop_drop,I8]
        rw[o];exact⟨x1++x2,f1.append f2⟩
    .cases a
  .cases a
variable{cs:List G4}
def ja{r:List G4->Option (DataW H×List MemPlace)}{b:List Sh}(g:∀cs e,r cs=J e->∃f,Fl P n w b cs f):
 ∀(a:Nat),(∀c,c<a->∃e,r ((cs.drop (c*U b)).take (U b))=J e)->∃f,Fl P n w (Sm a b).flatten (cs.take (a*U b)) f
 |0,_=>⟨[],by simpa using Fl.nil⟩|a+1,h=>by have⟨x1,f1⟩:=ja g a λc i=>h c z;have⟨e,hy⟩:=h a z;have⟨x2,f2⟩:=g _ _ hy;refine⟨x1++x2,?_⟩;rw[List.replicate_succ',Ro,Nat.succ_mul,List.take_add];simpa using f1.append f2
theorem bG{base:Nat}{e:Addr}(b:w.cells? base e n=J cs):U cs=n/\∀a c,cs[a]?=J c->w.cell? (e.add a)=J c:=by
 unfold World.cells? at b;split at b
 .have⟨h1,h2⟩:=Th b;rw[List.length_range]at h1;refine⟨h1,λa c f=>?_⟩;have g:a<n:=by rw[<-h1];exact(BI.1 f).1
  have⟨A9,e1,e2⟩:=h2 a a zDA;grind
 .cases b
theorem ju{a c:Nat}{e:G4}(g:w.cell? ⟨a,c,I⟩=J e):∃b elem f,w.heap[a]?=J (.cells b elem f)/\b[c]?=J e:=by grind [World.cell?]
theorem AHX{base p len cap:Nat}{a:Addr}{s:Hk}{b:List Sh}(O:DQ P n s=J b)(Q:p=U b)(t:0<p)(ad:len<=maxLen)(Y:len<=cap)(D:∀e,e<len->∃cs q,w.cells? base (a.add (e*p)) p=J cs/\Fl P n w b cs q):∃j,rH P n (.co s) j/\DR w (λ_=>False) j (.slice (J a) len cap):=by
 subst Q;have⟨es,hl,hes⟩:=pick (p:=λe q=>∃cs,w.cells? base (a.add (e*U b)) (U b)=J cs/\Fl P n w b cs q) len λe h=>by grind
 have l:∀i∈es,U i=U b:=λi r=>by obtain⟨e,h⟩:=Ce r;have⟨cs,_,h2⟩:=hes e i h;exact h2.len.2
 refine⟨.co es,.co s b es O z l λi r=>?_,?_⟩
 .obtain⟨e,h⟩:=Ce r;have⟨cs,_,h2⟩:=hes e i h;exact h2.has.2
 .by_cases T:len=0
  .subst T;have:=CE hl;subst this;exact .lst0 _ _
  .have first:∃g,w.cell? a=J g:=by have⟨cs,q,h1,h2⟩:=D 0 z;have⟨l1,l2⟩:=bG h1;obtain⟨g,f⟩:∃g,cs[0]?=J g:=⟨cs[0],CI z⟩;have:=l2 0 g f;simp[Addr.add]at this;exact⟨g,this⟩
   have x:a.spot=none:=by
    obtain⟨g,f⟩:=first
    unfold World.cell? at f;split at f
    .rcases hs:a.spot with _|ag
     .rfl
     .simp[hs]at f
    .cases f
   obtain⟨B,A,ai⟩:=a;simp only at x;subst x;obtain⟨v0,R⟩:=first
   have⟨c,elem,fr,hb,_⟩:=ju R;have key:∀e i,es[e]?=J i->∀k j,i[k]?=J j->∃g,c[A+(e*U b+k)]?=J g/\DR w (λ_=>False) j g:=by
    intro e i h k j o;have⟨cs,h1,h2⟩:=hes e i h;have⟨l1,l2⟩:=bG h1;have F:k<U cs:=by rw[h2.len.1,<-h2.len.2];exact(BI.1 o).1
    have f:=CI F;have:=l2 k _ f;rw[FR,FR]at this;have⟨c',elem',fr',v,hc'⟩:=ju this;rw[hb]at v;cases v;exact⟨_,by grind,h2.dr k j _ o f⟩
   rw[<-hl];refine .co es B A cap (U b) c elem fr hb (λC=>C) l ?_ ?_ z
   .have L:U es-1<U es:=z;have h:=CI L;have ac:=l _ (AP h);have o:=CI (l:=es[U es-1]) (i:=U b-1) z;have⟨g,f,_⟩:=key _ _ h _ _ o;have:=(Lc.1 f).1;have V:U es*U b=(U es-1)*U b+U b:=by rw[<-Nat.succ_mul];congr 1;omega
    omega
   .intro m j g H f;have K:m<U es*U b:=by
     have:=(BI.1 H).1
     rwa [Ee l]at this
    have N:=(Nat.div_lt_iff_lt_mul t).2 K;have M:m % (U b)<U b:=Nat.mod_lt _ t;have h:=CI N;have W:m/U b*U b+m % (U b)=m:=by rw[Pp];exact Nat.div_add_mod ..
    have aa:=KK l h M;grind
theorem XI(m:E.all (eN P n E)=true){base:Nat}{spare:Nat->Bool}{held:Bool}:∀{i p:Nat} {q:Hk} {cs:List G4} {j l},DataW.trod a P w base spare held i q cs=J j->DQ P p q=J l->l.all (Sh.inE E)=true->∃r,Fl P n w l cs r
 |0,_,_,_,_,_,b,_,_=>by simp[DataW.trod]at b|i+1,0,_,_,_,_,_,b,_=>by simp[DQ]at b|i+1,p+1,q,cs,j,l,b,c,ha=>by
  rw[DataW.trod_step]at b;simp only[DataW.trodStep]at b;simp[DQ]at c;split at c
  .rename_i e;cases c;rw[e]at b;split at b<;>rename_i g<;>first|(cases g;done)|(cases b;done)|skip
   exact⟨[_],.cons (.bool _) (.bool _) .nil⟩
  .rename_i ad e;cases c;rw[e]at b;split at b<;>rename_i g<;>first|(cases g;done)|(cases b;done)|skip
   cases g;split at b
   .rename_i A;obtain⟨rfl,T⟩:=A;exact⟨[_],.cons (.int _ _ T) (.int _ _) .nil⟩
   .cases b
  .rename_i e;cases c;rw[e]at b;split at b<;>rename_i g<;>first|(cases g;done)|(cases b;done)|skip
   split at b
   .rename_i A;exact⟨[_],.cons (.str _ A) (.str _) .nil⟩
   .cases b
  .rename_i h e;cases c;simp at ha;have⟨k,he,hc1,hc2,hc3⟩:=AGs m ha;rw[e]at b;split at b<;>rename_i g<;>first|(cases g;done)|(cases b;done)|skip
   .exact⟨[.co []],.cons (.co _ _ _ he AG AG AG) (.lst0 _ _) .nil⟩
   .cases g;split at b
    .rename_i s len cap O;obtain⟨W,K,Y⟩:=O;rcases hm:(V5 len).mapM λf=>(w.cells? base (s.add (f*P.cellsOf h)) (P.cellsOf h)).bind (DataW.trod a P w base spare held i h)with _|ac
     .rw[hm]at b;cases b
     .have⟨m1,m2⟩:=Th hm;rw[hc1]at m2;have⟨C,x1,x2⟩:=AHX (w:=w) (base:=base) (a:=s) (len:=len) (cap:=cap) he rfl hc2 z K λf x=>by
       have⟨j,_,y2⟩:=m2 f f (by simp[x]);rcases hcs:w.cells? base (s.add (f*U k)) (U k) with _|aa
       .simp[hcs]at y2
       .simp[hcs]at y2;have⟨r,o⟩:=XI m y2 he hc3;grind
      exact⟨[C],.cons x1 x2 .nil⟩
    .cases b
  .rename_i D e;rcases he:Lx P (DQ P p) D.toList 0 with _|k
   .simp[he]at c
   .simp only[he,GC]at c;split at c
    .rename_i F;cases c;simp only[e]at b;split at b
     .rename_i Q;rcases hm:(D.toList.mapM λt=>DataW.trod a P w base spare held i t.type ((cs.drop t.offset).take (P.cellsOf t.type)))with _|V
      .rw[hm]at b;cases b
      .have R:U cs=0+U l:=z;have⟨r,o⟩:=bb (w:=w) (r:=DataW.trod a P w base spare held i) (E:=E) (λq cs j l v L M=>XI m v L M) he ha R hm;grind
     .cases b
    .cases c
  .rename_i B h e;rcases he:DQ P p h with _|k
   .simp[he]at c
   .simp only[he,GC]at c;split at c
    .rename_i F;cases c;simp only[e]at b;split at b
     .rename_i Q;rcases hm:((V5 B).mapM λf=>DataW.trod a P w base spare held i h ((cs.drop (f*P.cellsOf h)).take (P.cellsOf h)))with _|V
      .rw[hm]at b;cases b
      .have⟨m1,m2⟩:=Th hm;rw[F.1]at m2;by_cases H:B=0
       .subst H;have:U cs=0:=z;rw[PI.1 this];exact⟨[],.nil⟩
       .have N:k.all (Sh.inE E)=true:=by rw[EL]at ha⊢;intro C o;exact ha C (Mk.2 ⟨k,I0.2 ⟨H,rfl⟩,o⟩)
        have⟨r,o⟩:=ja (w:=w) (r:=DataW.trod a P w base spare held i h) (λcs j v=>XI m v he N) (cs:=cs) B λf x=>by have⟨j,_,y2⟩:=m2 f f (by simp[x]);exact⟨j,y2⟩
        grind
     .cases b
    .cases c
  .cases c
