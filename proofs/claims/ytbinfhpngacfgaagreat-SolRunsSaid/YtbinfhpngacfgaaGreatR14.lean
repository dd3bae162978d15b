/- P -/
import Derived.ProofKit
import Derived.Test.YtbinfhpngacfgaaGreatR13
set_option linter.all false
namespace Go.Abs
open Go
inductive Sh where
 |bool
 |int (k:IntKind)
 |str
 |bv (e:TypeId)
def Kd(P:Program)(r:TypeId->Option (List Sh)):List Field->Nat->Option (List Sh)
 |[],_=>some []
 |f::fs,off=>if f.offset=off then(r f.type).bind fun ss=>if P.cellsOf f.type=ss.length then(Kd P r fs (off+ss.length)).map (ss++ ·)else none else none
def Cj(P:Program):Nat->TypeId->Option (List Sh)
 |0,_=>none
 |n+1,t=>match P.underlying t with
  |some .bool=>some [.bool]
  |some (.int k)=>some [.int k]
  |some .string=>some [.str]
  |some (.slice e)=>some [.bv e]
  |some (.struct fs)=>(Kd P (Cj P n) fs.toList 0).bind fun ss=>if P.cellsOf t=ss.length then some ss else none
  |some (.array n' e)=>(Cj P n e).bind fun ss=>if P.cellsOf e=ss.length/\P.cellsOf t=n'*ss.length then some (List.replicate n' ss).flatten else none
  |_=>none
inductive eJ(P:Program)(n:Nat):Sh->Al->Prop
 |bool (b):eJ P n .bool (.bool b)
 |int (k m):(Lit.int k m).wf=true->eJ P n (.int k) (.int k m)
 |str (s):s.size<=maxLen->eJ P n .str (.str s)
 |bv (t) (ss) (es:List (List Al)):Cj P n t=some ss->es.length<=maxLen->(∀e∈es,e.length=ss.length)->(∀e∈es,∀(i:Nat) s x,ss[i]? =some s->e[i]? =some x->eJ P n s x)->eJ P n (.bv t) (.bv es)
def MG(P:Program)(n:Nat)(ss:List Sh)(xs:List Al):Prop:=xs.length=ss.length/\ ∀(i:Nat) s x,ss[i]? =some s->xs[i]? =some x->eJ P n s x
def Sh.inE(E:List TypeId):Sh->Bool
 |.bv e=>E.any (Nat.beq e)
 |_=>true
def EO(P:Program)(n:Nat)(E:List TypeId)(e:TypeId):Bool:=match Cj P n e with
 |some ss=>decide (P.cellsOf e=ss.length)&&decide (0<ss.length)&&ss.all (Sh.inE E)
 |none=>false
def wB{P:Program}{n:Nat}{E:List TypeId}(c:E.all (EO P n E)=true){e:TypeId}(h:Sh.inE E (.bv e)=true): ∃a,Cj P n e=some a/\P.cellsOf e=a.length/\0<a.length/\a.all (Sh.inE E)=true:=by
 simp only[Sh.inE,UL]at h;obtain⟨e',f,b⟩:=h;have b:=D8 b;subst b;have:=D3.1 c _ f;unfold EO at this;split at this
 .rename_i a g;simp only[AP,Ap]at this;exact⟨a,g,this.1.1,this.1.2,this.2⟩
 .cases this
inductive Fl(P:Program)(n:Nat)(w:World):List Sh->List Value->List Al->Prop
 |nil:Fl P n w [] [] []
 |cons {s v x ss vs xs}:eJ P n s x->DR w (fun _=>False) x v->Fl P n w ss vs xs->Fl P n w (s::ss) (v::vs) (x::xs)
variable{P:Program}{n:Nat}{w:World}
def Fl.append{c e:List Sh}{vs f:List Value}{g i:List Al}(h:Fl P n w c vs g)(h':Fl P n w e f i):Fl P n w (c++e) (vs++f) (g++i):=by
 induction h with
 |nil=>exact h'
 |cons a b _ j=>exact .cons a b j
def Fl.len{c:List Sh}{vs:List Value}{f:List Al}(h:Fl P n w c vs f):vs.length=c.length/\f.length=c.length:=by
 induction h with
 |nil=>exact⟨rfl,rfl⟩
 |cons a b _ e=>simp[e.1,e.2]
def Fl.has{P:Program}{n:Nat}{w:World}{e:List Sh}{vs:List Value}{f:List Al}(h:Fl P n w e vs f):MG P n e f:=by
 refine⟨h.len.2,?_⟩;induction h with
 |nil=>intro i s x h;simp at h
 |cons a b _ g=>
  intro i s x c h2;cases i with
  |zero=>simp at c h2;subst c h2;exact a
  |succ i=>exact g i s x zEs zE2
def Fl.dr{P:Program}{n:Nat}{w:World}{g:List Sh}{vs:List Value}{e:List Al}(h:Fl P n w g vs e): ∀(i:Nat) x v,e[i]? =some x->vs[i]? =some v->DR w (fun _=>False) x v:=by
 induction h with
 |nil=>intro i s x h;simp at h
 |cons a b _ f=>
  intro i x v c h2;cases i with
  |zero=>simp at c h2;subst c h2;exact b
  |succ i=>exact f i x v zEs zE2
def Qt{m β:Type}{f:m->Option β}: ∀{l:List m} {c:List β},l.mapM f=some c->c.length=l.length/\ ∀(i:Nat) x,l[i]? =some x-> ∃k,c[i]? =some k/\f x=some k
 |[],c,h=>by simp at h;subst h;simp
 |a::l,c,h=>by
  rw[List.mapM_cons]at h;cases e:f a with
  |none=>simp[e]at h
  |some b=>
   cases g:l.mapM f with
   |none=>simp[e,g]at h
   |some o=>
    simp[e,g]at h;subst h;obtain⟨n,h2⟩:=Qt g;refine⟨by simp[n],fun i x j=>?_⟩;cases i with
    |zero=>simp at j;subst j;exact⟨b,rfl,e⟩
    |succ i=>simpa using h2 i x (by simpa using j)
def pick{b:Type}{p:Nat->b->Prop}: ∀(n:Nat),(∀i,i<n-> ∃d,p i d)-> ∃es:List b,es.length=n/\ ∀(i:Nat) d,es[i]? =some d->p i d
 |0,_=>⟨[],rfl,fun i d h=>by simp at h⟩
 |n+1,h=>by
  obtain⟨es,c,h2⟩:=pick n fun i f=>h i AA;obtain⟨d,e⟩:=h n AA;refine⟨es++[d],by simp[c],fun i x a=>?_⟩;rw[List.getElem?_append]at a;split at a
  .exact h2 i x a
  .rename_i f;have:i-es.length=0:=by
    rcases Nat.eq_zero_or_pos (i-es.length)with h|h
    .exact h
    .rw[LC Aa]at a;cases a
   have g:i=n:=AA;rw[this]at a;simp at a;subst a g;exact e
variable{H:Type}{enc:TypeId×Value->H}{P:Program}{w:World}{n:Nat}{E:List TypeId}
def XG{r:TypeId->List Value->Option (DataW H×List MemPlace)}{c:TypeId->Option (List Sh)}(o: ∀t cs p a,r t cs=some p->c t=some a->a.all (Sh.inE E)=true-> ∃k,Fl P n w a cs k){cs:List Value}:
 ∀{b:List Field} {off:Nat} {a:List Sh} {ys},Kd P c b off=some a->a.all (Sh.inE E)=true->cs.length=off+a.length->(b.mapM fun f=>r f.type ((cs.drop f.offset).take (P.cellsOf f.type)))=some ys-> ∃k,Fl P n w a (cs.drop off) k
 |[],off,a,ys,h,_,hl,_=>by
  simp[Kd]at h;subst h;rw[EX (by simp at hl;omega)];exact⟨[],.nil⟩
 |f::b,off,a,ys,h,ha,hl,hm=>by
  simp only[Kd]at h;split at h
  .rename_i u;cases g:c f.type with
   |none=>simp[g]at h
   |some j=>
    simp only[g,I2]at h;split at h
    .rename_i s;cases h2:Kd P c b (off+j.length)with
     |none=>simp[h2]at h
     |some y=>
      simp[h2]at h;subst h;rw[Ty,AP]at ha;rw[List.mapM_cons]at hm;cases i:r f.type ((cs.drop f.offset).take (P.cellsOf f.type))with
      |none=>simp[i]at hm
      |some p=>
       cases m:(b.mapM fun f=>r f.type ((cs.drop f.offset).take (P.cellsOf f.type)))with
       |none=>simp[i,m]at hm
       |some z=>
        obtain⟨v,l⟩:=o _ _ _ _ i g ha.1;obtain⟨x,q⟩:=XG o h2 ha.2 (by simp at hl;omega) m;rw[u,s]at l;have e:cs.drop off=(cs.drop off).take j.length++cs.drop (off+j.length):=by
         rw[<-List.drop_drop,Mk]
        rw[e];exact⟨v++x,l.append q⟩
    .cases h
  .cases h
variable{cs:List Value}
def Zv{r:List Value->Option (DataW H×List MemPlace)}{a:List Sh}(e: ∀cs b,r cs=some b-> ∃c,Fl P n w a cs c):
 ∀(m:Nat),(∀i,i<m-> ∃b,r ((cs.drop (i*a.length)).take a.length)=some b)-> ∃c,Fl P n w (List.replicate m a).flatten (cs.take (m*a.length)) c
 |0,_=>⟨[],by simpa using Fl.nil⟩
 |m+1,h=>by
  obtain⟨k,f⟩:=Zv e m fun i o=>h i AA;obtain⟨b,j⟩:=h m AA;obtain⟨l,g⟩:=e _ _ j;refine⟨k++l,?_⟩;rw[List.replicate_succ',MT,T2,List.take_add];simpa using f.append g
def Wv{base:Nat}{a:Addr}(h:w.cells? base a n=some cs):cs.length=n/\ ∀j v,cs[j]? =some v->w.cell? (a.add j)=some v:=by
 unfold World.cells? at h;split at h
 .obtain⟨b,h2⟩:=Qt h;rw[List.length_range]at b;refine⟨b,fun j v c=>?_⟩;have g:j<n:=by rw[<-b];exact(BV.1 c).1
  obtain⟨i,e,f⟩:=h2 j j (by simp[g]);rw[e]at c;cases c;exact f
 .cases h
def Z5{b off:Nat}{v:Value}(h:w.cell? ⟨b,off,none⟩=some v): ∃c elem fr,w.heap[b]? =some (.cells c elem fr)/\c[off]? =some v:=by
 unfold World.cell? at h;split at h
 .rename_i c elem fr a;simp at h;exact⟨c,elem,fr,a,h⟩
 .cases h
def xO{base sz len cap:Nat}{a:Addr}{t:TypeId}{f:List Sh}(W:Cj P n t=some f)(X:sz=f.length)(C:0<sz)(az:len<=maxLen)(ar:len<=cap)
 (H: ∀i,i<len-> ∃cs o,w.cells? base (a.add (i*sz)) sz=some cs/\Fl P n w f cs o): ∃x,eJ P n (.bv t) x/\DR w (fun _=>False) x (.slice (some a) len cap):=by
 subst X;obtain⟨es,K,z⟩:=pick (p:=fun i o=> ∃cs,w.cells? base (a.add (i*f.length)) f.length=some cs/\Fl P n w f cs o) len fun i g=>by
  obtain⟨cs,o,q,h2⟩:=H i g;exact⟨o,cs,q,h2⟩
 have r: ∀e∈es,e.length=f.length:=fun e y=>by
  obtain⟨i,g⟩:=II y;obtain⟨cs,_,h2⟩:=z i e g;exact h2.len.2
 refine⟨.bv es,.bv t f es W AA r fun e y=>?_,?_⟩
 .obtain⟨i,g⟩:=II y;obtain⟨cs,_,h2⟩:=z i e g;exact h2.has.2
 .by_cases Z:len=0
  .subst Z;have:es=[]:=BI K;subst this;exact .lst0 _ _
  .have first: ∃v,w.cell? a=some v:=by
    obtain⟨cs,o,q,h2⟩:=H 0 AA;obtain⟨ac,A⟩:=Wv q;obtain⟨v,m⟩: ∃v,cs[0]? =some v:=⟨cs[0],CO AA⟩;have:=A 0 v m;simp[Addr.add]at this;exact⟨v,this⟩
   have L:a.spot=none:=by
    obtain⟨v,m⟩:=first
    unfold World.cell? at m;split at m
    .cases V:a.spot with
     |none=>rfl
     |some s=>simp[V]at m
    .cases m
   obtain⟨b,off,sp⟩:=a;simp only at L;subst L;obtain⟨v0,Y⟩:=first
   obtain⟨c,elem,fr,D,_⟩:=Z5 Y;have key: ∀i e,es[i]? =some e-> ∀j x,e[j]? =some x-> ∃v,c[off+(i*f.length+j)]? =some v/\DR w (fun _=>False) x v:=by
    intro i e g j x u;obtain⟨cs,q,h2⟩:=z i e g;obtain⟨ac,A⟩:=Wv q;have Q:j<cs.length:=by rw[h2.len.1,<-h2.len.2];exact(BV.1 u).1
    have m:=CO Q;have:=A j _ m;rw[E4,E4]at this;obtain⟨c',ag,ai,F,N⟩:=Z5 this;rw[D]at F;cases F;exact⟨_,by rw[<-Rc];exact N,h2.dr j x _ u m⟩
   rw[<-K];refine .bv es b off cap f.length c elem fr D (fun h=>h) r ?_ ?_ AA
   .have S:es.length-1<es.length:=AA;have g:=CO S;have av:=r _ (AS g);have u:=CO (l:=es[es.length-1]) (i:=f.length-1) AA;obtain⟨v,m,_⟩:=key _ _ g _ _ u;have:=(Io.1 m).1;have ad:es.length*f.length=(es.length-1)*f.length+f.length:=by
     rw[<-T2];congr 1;omega
    omega
   .intro k x v J m;have R:k<es.length*f.length:=by
     have:=(BV.1 J).1
     rwa [Da r]at this
    have U:k/f.length<es.length:=(Nat.div_lt_iff_lt_mul C).2 R;have T:k % f.length<f.length:=UN _ C;have g:=CO U;have B:k/f.length*f.length+k % f.length=k:=by rw[Pm];exact Nat.div_add_mod ..
    have I:=Je r g T;rw[B,J]at I;obtain⟨a0,M,O⟩:=key _ _ g _ _ I.symm;rw[B,m]at M;cases M;exact O
def Tc(z:E.all (EO P n E)=true){base:Nat}{spare:Nat->Bool}{held:Bool}: ∀{k m:Nat} {t:TypeId} {cs:List Value} {q u},DataW.trod enc P w base spare held k t cs=some q->Cj P m t=some u->u.all (Sh.inE E)=true-> ∃p,Fl P n w u cs p
 |0,_,_,_,_,_,h,_,_=>by simp[DataW.trod]at h
 |k+1,0,_,_,_,_,_,h,_=>by simp[Cj]at h
 |k+1,m+1,t,cs,q,u,h,b,ha=>by
  rw[DataW.trod_step]at h;simp only[DataW.trodStep]at h;simp only[Cj]at b;split at b
  .rename_i g;cases b;rw[g]at h;split at h<;>rename_i e<;>first|(cases e;done)|(cases h;done)|skip
   exact⟨[_],.cons (.bool _) (.bool _) .nil⟩
  .rename_i ad g;cases b;rw[g]at h;split at h<;>rename_i e<;>first|(cases e;done)|(cases h;done)|skip
   cases e;split at h
   .rename_i C;obtain⟨rfl,U⟩:=C;exact⟨[_],.cons (.int _ _ U) (.int _ _) .nil⟩
   .cases h
  .rename_i g;cases b;rw[g]at h;split at h<;>rename_i e<;>first|(cases e;done)|(cases h;done)|skip
   split at h
   .rename_i C;exact⟨[_],.cons (.str _ C) (.str _) .nil⟩
   .cases h
  .rename_i j g;cases b;simp only[D9,RT,Md]at ha;obtain⟨s,c,O,Q,R⟩:=wB z ha;rw[g]at h;split at h<;>rename_i e<;>first|(cases e;done)|(cases h;done)|skip
   .exact⟨[.bv []],.cons (.bv _ _ _ c AG AG AG) (.lst0 _ _) .nil⟩
   .cases e;split at h
    .rename_i a len cap N;obtain⟨b1,J,Z⟩:=N;cases l:(List.range len).mapM fun i=>(w.cells? base (a.add (i*P.cellsOf j)) (P.cellsOf j)).bind (DataW.trod enc P w base spare held k j)with
     |none=>rw[l]at h;cases h
     |some ac=>
      obtain⟨V,v⟩:=Qt l;rw[O]at v;obtain⟨x,W,X⟩:=xO (w:=w) (base:=base) (a:=a) (len:=len) (cap:=cap) c rfl Q AA J fun i B=>by
       obtain⟨q,_,y⟩:=v i i (by simp[B]);cases H:w.cells? base (a.add (i*s.length)) s.length with
       |none=>simp[H]at y
       |some K=>
        simp only[H,I2]at y;obtain⟨p,o⟩:=Tc z y c R;exact⟨K,p,rfl,o⟩
      exact⟨[x],.cons W X .nil⟩
    .cases h
  .rename_i D g;cases c:Kd P (Cj P m) D.toList 0 with
   |none=>simp[c]at b
   |some s=>
    simp only[c,I2]at b;split at b
    .rename_i F;cases b;simp only[g]at h;split at h
     .rename_i S;cases l:(D.toList.mapM fun f=>DataW.trod enc P w base spare held k f.type ((cs.drop f.offset).take (P.cellsOf f.type)))with
      |none=>rw[l]at h;cases h
      |some Y=>
       have T:cs.length=0+u.length:=AA;obtain⟨p,o⟩:=XG (w:=w) (r:=DataW.trod enc P w base spare held k) (E:=E) (fun t cs q u A h2 L=>Tc z A h2 L) c ha T l;exact⟨p,by simpa using o⟩
     .cases h
    .cases b
  .rename_i n' j g;cases c:Cj P m j with
   |none=>simp[c]at b
   |some s=>
    simp only[c,I2]at b;split at b
    .rename_i F;cases b;simp only[g]at h;split at h
     .rename_i S;cases l:((List.range n').mapM fun i=>DataW.trod enc P w base spare held k j ((cs.drop (i*P.cellsOf j)).take (P.cellsOf j)))with
      |none=>rw[l]at h;cases h
      |some Y=>
       obtain⟨V,v⟩:=Qt l;rw[F.1]at v;by_cases I:n'=0
       .subst I;have:cs.length=0:=AA;rw[MD.1 this];exact⟨[],.nil⟩
       .have M:s.all (Sh.inE E)=true:=by
         rw[D3]at ha⊢;intro x o;exact ha x (Nl.2 ⟨s,List.mem_replicate.2 ⟨I,rfl⟩,o⟩)
        obtain⟨p,o⟩:=Zv (w:=w) (r:=DataW.trod enc P w base spare held k j) (fun cs q A=>Tc z A c M) (cs:=cs) n' fun i B=>by
         obtain⟨q,_,y⟩:=v i i (by simp[B]);exact⟨q,y⟩
        rw[Bi AA]at o;exact⟨p,o⟩
     .cases h
    .cases b
  .cases b
