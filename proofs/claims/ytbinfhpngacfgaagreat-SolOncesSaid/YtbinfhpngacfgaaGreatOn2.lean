/- P -/
import Derived.Lib.QuoteBits
import Derived.Test.YtbinfhpngacfgaaGreatOn1
set_option linter.all false
open Go renaming World->G2,Value->G4,TypeId->Hk,Program->H5,Operand->LF,Sem->M5
open Option renaming some->J,none->I
open Bool renaming true->X,false->Z
open List renaming length->U
namespace Go
variable{p:Prop}
def zCd(h:p:=by simpa using p):p:=h
def zCy(h:p:=by simpa using c):p:=h
def zDA(h:p:=by simp[g]):p:=h
end Go
namespace Go
variable{p:Prop}
def zAv(h:p:=by cases d<;>simp[DM]at h⊢;grind):p:=h
def zA2(h:p:=by obtain⟨o,rfl⟩:=DY a;cases c;cases l;simp[Builtin.len_,run_underlying e,goInt]):p:=h
def zBe(h:p:=by refine⟨?_,.plain H rfl rfl b⟩;cases b;exact⟨_,rfl⟩):p:=h
end Go
namespace Go.Abs
variable{A:Nat->Prop}{P:H5}{b:List Hk}{a:BF}{w:G2}{M:Nat->Prop}
variable{t:Hk}{d:TypeDesc}
theorem DY(h:DM P t d=.slice):∃e,d=.slice e:=by exact zAv
variable{m:Nat}
theorem AFv(h:DM P t d=.arr m):∃e,d=.array m e:=by
 cases d<;>simp[DM]at h⊢
 .exact h
 grind
theorem Yk(h:DM P t d=.map):∃k e,d=.map k e:=by exact zAv
theorem P6(h:DM P t d=.str):d=.string:=by exact zAv
theorem cG(h:DM P t d=.bool):d=.bool:=by exact zAv
theorem nF(h:DM P t d=.int):∃k,d=.int k:=by exact zAv
theorem cH(h:DM P t d=.func):∃a b c,d=.func a b c:=by exact zAv
theorem nG(h:DM P t d=.ptr):∃e,d=.pointer e:=by exact zAv
theorem SK(h:DM P t d=.iface):∃e,d=.interface e:=by exact zAv
variable{n:Nat}
def wK(h:n<=BS):IntKind.i64.wrap (n:Int)=n:=by refine Go.Lib.wrap_i64_small n ?_;have:n<=2 ^ 30:=h;omega
variable{h:S}{ρ:u}{e:DF}
def fu(H:HR A a w h)(aa:∀O,ρ<:+O->a O=I){Q c:y}{T R:G4}(q:VR a w (MS A a h) Q T)(p:VR a w (MS A a h) c R)(f:Ev (Cm P b) h.get ρ Q c (Cm P b t)=J e):
 E3 A ρ a w h ((do pure (.value (<-Instr.makeSlice t T R)):M5 Next).run P w) e:=by
 rcases ht:Cm P b t with _|a5
 .simp[Ev,ht]at f
 .obtain⟨info,d,a',x,B,C,_,rfl⟩:=BL ht;simp[Ev,ht]at f;split at f
  .rename_i a6 az n a0 m ad K;obtain⟨v,rfl⟩:=DY ad;simp[Hv]at K;obtain⟨g,a3,j,k,a4,V,⟨Y,_⟩,rfl⟩:=BL K;split at f
   .rename_i ag;obtain⟨ai,rfl,o⟩:=ag;obtain⟨n,rfl⟩:=MK ai;have o:n<=BS:=by exact_mod_cast o
    cases q with|d q=>cases q with|int _ _=>cases p with|d p=>cases p with
       |int _ _=>
        have D:(g.bytes:Int)*(n:Int)<=281474976710656:=by have x:g.bytes*n<=70368744177664:=Gt (Nat.mul_le_mul Y o) (Nat.le_of_eq rfl);have C:=Int.ofNat_le.2 x;rw[Int.natCast_mul]at C;omega
        have M:∀l:Array G4,(n*g.size=0->l= #[])->(n*g.size≠0->l=j.cells)->
         ((do pure (.value (<-Instr.makeSlice t (.int az n) (.int a0 n))):M5 Next).run P w)=
         .ok (.value (.slice (J ⟨w.heap.size,0,I⟩) n n)) (World.add w (.cells ((Array.range (n*g.size)).map (l[· % l.size]!)) v)):=by
         intro l a1 a2;have N:=wK o;by_cases i:n*g.size=0
         .rw[a1 i];simp[Instr.makeSlice,run_underlying B,asInt,asIntOf,typeInfo,k,N,D,newRow,World.add,CR k,i];intro ac;exfalso;omega
         .rw[a2 i];simp[Instr.makeSlice,run_underlying B,asInt,asIntOf,typeInfo,k,N,D,newRow,World.add,CR k,i,Ez k V];intro ac;exfalso;omega
        simp at f;unfold Gh at f;split at f
        .cases f;rw[M #[] (λ_=>rfl) (λh=>absurd (Nat.zero_mul _) h)];exact .other H rfl (.emp _)
        .have r:=f;unfold q_h at r;split at r
         .cases r
         .rename_i F;simp only[As,EL,beq_iff_eq]at F;obtain⟨⟨W,s⟩,_⟩:=F;have s:0<g.size:=by simpa[RG]using s
          have L:n≠0:=Cc;have av:j.cells.size=g.size:=by have:=(W (j.cells.toList.map Ek) (by simp[L])).1;simpa using this
          have i:=qq (β:=a) (w:=w) (M:=MS A a h) (n:=n) av;have ar:=VG H (w₁:=w) rfl ⟨rfl,rfl⟩ aa (elem:=v) (c:=(Array.range (n*g.size)).map (j.cells[· % j.cells.size]!)) (cap:=n) AG AG i.2 f;rw[M j.cells (λh=>absurd h (Nat.ne_of_gt (Nat.mul_pos (Nat.pos_of_ne_zero L) s))) (λ_=>rfl)];simpa using ar
   .cases f
  .cases f
variable{A:Nat->Prop}{P:H5}{a:List Hk}{f:BF}{w:G2}{M:Nat->Prop}
variable{b:Nat}{c:Array G4}
theorem Tf{a:Nat}{elem:Hk}{e:Nat×Nat}(f:w.heap[a]?=J (.cells c elem e))(g:b+n<=c.size):
 (loadCells ⟨a,b,I⟩ n).run P w=.ok ((c.toList.drop b).take n).toArray w:=by
 have h:((c.toList.drop b).take n).length=n:=BP;grind [run_loadCells_list,FR,Qn]
theorem wI{a:Nat}(e:a<n):((c.toList.drop b).take n).toArray[a]?=c[b+a]? :=zCI
theorem TB{h:S}(H:HR A f w h){e:y}{q:G4}(t:VR f w (MS A f h) e q){a:List (List y)}(D:C9 h.get e=J a){size:Nat}(ac:∀l∈a,U l=size):
 ∃g c,q=.slice g (U a) c/\∃arr:Array G4,(∀k:G2,k.heap=w.heap->(Builtin.firstCells size (U a) q).run P k=.ok arr k)/\Hg f w (MS A f h) a.flatten arr:=by
 have zero:∀(g:Option Addr) (c:Nat),a=[]->q=.slice g 0 c->∃g c,q=.slice g (U a) c/\∃arr:Array G4,(∀k:G2,k.heap=w.heap->(Builtin.firstCells size (U a) q).run P k=.ok arr k)/\Hg f w (MS A f h) a.flatten arr:=by intro g c p r;subst p r;refine⟨g,c,rfl, #[],?_,rfl,AG⟩;intro k _;cases g<;>simp[Builtin.firstCells,loadCells,loadCellsFrom]
 have ag:∀{F b:Nat} {c:Array G4} {elem:Hk} {x:Nat×Nat} {cap:Nat},w.heap[F]?=J (.cells c elem x)->b+U a*size<=c.size->
  (∀(i:Nat) (e:y) (j:G4),a.flatten[i]?=J e->c[b+i]?=J j->VR f w (MS A f h) e j)->q=.slice (J ⟨F,b,I⟩) (U a) cap->
  ∃g c,q=.slice g (U a) c/\∃arr:Array G4,(∀k:G2,k.heap=w.heap->(Builtin.firstCells size (U a) q).run P k=.ok arr k)/\Hg f w (MS A f h) a.flatten arr:=by
  intro F b c elem x cap p r C B;subst B;refine⟨J ⟨F,b,I⟩,cap,rfl,((c.toList.drop b).take (U a*size)).toArray,?_,?_,?_⟩
  .grind [Builtin.firstCells,Tf]
  .grind [Ee]
  .grind
 cases t with
 |d L=>
  cases L with
  |lst0 g cap=>grind [C9]
  |co K F b cap v c elem x p r C B M Q=>
   simp only[C9,F1]at D;subst D;by_cases N:K=[]
   .subst N;exact zero _ _ rfl rfl
   .have aa:v=size:=by obtain⟨l,az,rfl⟩:=RX N;have a5:=C l AG;have ar:=ac (l.map .d) AG;simp at ar;omega
    subst aa;refine ag (cap:=cap) p (by simpa using B) (λi e j t O=>?_) AG;rw[<-Rg,Be,BY]at t;obtain⟨T,R,rfl⟩:=t;exact .d (M i T j R O)
  |_=>simp[C9]at D
 |d9=>grind [C9]|emp g=>grind [C9]
 |ii ad b n m g cap a3 be bc a0=>
  simp only[C9,HE]at D;obtain⟨K,s,Y⟩:=D;have⟨s1,s2,s3⟩:=KU Y;by_cases a4:n=0
  .subst a4;grind
  .have a1:g=J ⟨m.b,b*m.sz,I⟩:=a0.resolve_right z;subst a1;have a':∀{c:Array G4} {elem:Hk} {x:Nat×Nat},w.heap[m.b]?=J (.cells c elem x)->(∀l∈K,U l=m.sz)->(U K)*m.sz<=c.size->
    (∀(i:Nat) (e:y) (j:G4),K.flatten[i]?=J e->c[i]?=J j->VR f w (MS A f h) e j)->
    ∃g c,Value.slice (J ⟨m.b,b*m.sz,I⟩) n cap=.slice g (U a) c/\∃arr:Array G4,(∀k:G2,k.heap=w.heap->(Builtin.firstCells size (U a) (.slice (J ⟨m.b,b*m.sz,I⟩) n cap)).run P k=.ok arr k)/\Hg f w (MS A f h) a.flatten arr:=by
    intro c elem x p r C B;have⟨f1,f2⟩:=YQ r Y;have aa:m.sz=size:=by
     have:a≠ []:=λl=>by grind
     obtain⟨l,az,rfl⟩:=RX this;have a5:=f1 l AG;have ar:=ac l AG;omega
    refine ag p ?_ (λi e j t O=>?_) (by rw[s2])
    .have:=HM m.sz s1;grind
    .grind [Ee]
   rcases hg:h.get ad with _|ai
   .simp[hg,Ri]at s
   .have⟨k',W,ho⟩:=H.obj ad ai hg;rw[a3]at W;cases W;have a6:∀{o:List (List Ar)} {c:Array G4},(∀(i:Nat) (e:Ar) (j:G4),o.flatten[i]?=J e->c[i]?=J j->DR w (MS A f h) e j)->
     ∀(i:Nat) (e:y) (j:G4),(o.map (·.map y.d)).flatten[i]?=J e->c[i]?=J j->VR f w (MS A f h) e j:=by
     intro o c L i e j t O;rw[<-Rg,Be,BY]at t;obtain⟨T,R,rfl⟩:=t;exact .d (L i T j R O)
    have len:∀{o:List (List Ar)} {v:Nat},(∀l∈o,U l=v)->∀l∈o.map (·.map y.d),U l=v:=by intro o v L l N;obtain⟨av,a2,rfl⟩:=EX.1 N;simpa using L av a2
    cases ai with
    |f8 v o=>simp only[hg,Ri,F1]at s;subst s;obtain⟨c,elem,p,r,C,B,M,Q,V⟩:=ho;grind
    |v6 v o=>
     simp only[hg,Ri,F1]at s;subst s;rcases ho with rfl|⟨_,c,elem,x,p,r,C,B,M,Q,V⟩
     .grind
     grind
    |arr v o=>simp only[hg,Ri,F1]at s;subst s;obtain⟨c,elem,p,r,C,B,M,Q,V⟩:=ho;grind|_=>simp[hg,Ri]at s
 |_=>simp[C9]at D
structure lk(P:H5)(t t2 e:Hk)(i:TypeInfo)(A6:G4):Prop:=
 ht:P.underlying t=J (.slice e)
 ht2:∃e2,P.underlying t2=J (.slice e2)
 hi:P.info? e=J i
 hz:i.zero=J A6
 hb:i.bytes<=65536
 hzs:A6.cells.size=i.size
variable{j ty:Hk}{i:TypeInfo}{g:G4}{base a:Option Addr}{cap:Nat}{arr:Array G4}
def ay{h:Hk}(A:lk P t j h i g){c:Nat}(f:n+m<=cap)(e:(Builtin.firstCells i.size m (.slice a m c)).run P w=.ok arr w) {w':G2} (l:∀b,base=J b->(storeCells (b.add (n*i.size)) arr.toList).run P w=.ok () w') (k:base=I->w'=w):
 (Builtin.append_ #[t,j] ty #[.slice base n cap,.slice a m c]).run P w=.ok (.slice base (n+m) cap) w':=by
 have⟨e2,h2⟩:=A.ht2;rcases base with _|b
 .rw[k rfl];simp[Builtin.append_,run_underlying A.ht,run_underlying h2,CR A.hi,Builtin.lenOf,f,e]
 .simp[Builtin.append_,run_underlying A.ht,run_underlying h2,CR A.hi,Builtin.lenOf,f,e,l b rfl]
theorem Vp{b:Hk}(A:lk P t j b i g){c:Nat}{o:Array G4}(k:cap<n+m)(l:n+m<=2147483648)(s:(Builtin.firstCells i.size n (.slice base n cap)).run P w.drew=.ok o w.drew)(r:(Builtin.firstCells i.size m (.slice a m c)).run P w.drew=.ok arr w.drew):
 ∃e,n+m<=e/\(Builtin.append_ #[t,j] ty #[.slice base n cap,.slice a m c]).run P w=
  .ok (.slice (J ⟨w.heap.size,0,I⟩) (n+m) e) (World.add w.drew (.cells (o++arr++Builtin.zeroCells g.cells (e-(n+m))) b)):=by
 have⟨e2,h2⟩:=A.ht2;have q:=A.hb;have f:Builtin.nextslicecap (n+m) cap*i.bytes<=281474976710656:=by exact growslice_fits k (Gt (Nat.mul_le_mul l q) (Nat.le_of_eq rfl))
 refine⟨(Question.appendCap (n+m) cap b).cut (w.tape w.drawn (.appendCap (n+m) cap b)),by grind [Question.cut],?_⟩
 .have v:¬((n+m:Nat):Int)>IntKind.i64.max:=by have:=Int.ofNat_le.2 l;have b:IntKind.i64.max=9223372036854775807:=rfl;rw[b];omega
  have p:¬(9223372036854775807:Int)<((n:Int)+m):=z;simp[Builtin.append_,run_underlying A.ht,run_underlying h2,CR A.hi,Builtin.lenOf,Nat.not_le.2 k,s,r,typeInfo,A.hi,f,Ez A.hi A.hz,newRow,World.add,Question.forced];rw[Co (λh=>p h.1),Co (Nat.not_lt.2 f)];rfl
theorem HR.move{h:S}(H:HR A f w h){g j:u}{c:Wx}{s o':Obj}(r:h.get g=J s)(q:s.mut=X)(o:f g=J c)(D:f j=I){x:Go.Obj}(az:∀{M},Le f (f.put j c)->FI A (MS A f h) w M (World.nl w c.b x)->PK (f.put j c) (World.nl w c.b x) M c o'):
 HR A (f.put j c) (World.nl w c.b x) ((h.put g (.v6 0 [])).put j o')/\FI A (MS A f h) w (MS A (f.put j c) ((h.put g (.v6 0 [])).put j o')) (World.nl w c.b x):=by
 have a3:g≠j:=λb=>by rw[b,D]at o;cases o
 have L:FI A (MS A f h) w (MS A (f.put j c) ((h.put g (.v6 0 [])).put j o')) (World.nl w c.b x):=by
  refine⟨λv _ t=>Eu x λb=>t.elim (λt=>t (.inr ⟨g,s,c,r,q,o,b.symm⟩)) (λt=>H.out g s c r q o (b▸t)),by rw[FB];omega,?_,rfl,rfl⟩;rintro v (ag|⟨i,l,k,m,B,p,rfl⟩)
  .exact .inl (.inl ag)
  rw[S.q_e]at m;split at m
  .rename_i b;subst b;simp at p;subst p;exact .inl (.inr ⟨g,s,c,r,q,o,rfl⟩)
  .rename_i b;rw[Cq f c (Ne.symm b)]at p;rw[S.q_e]at m;split at m
   .cases m;cases B
   .exact .inl (.inr ⟨i,l,k,m,B,p,rfl⟩)
 refine⟨H.step (SL D) L ?_ ?_ ?_ ?_,L⟩
 .intro i l e;rw[S.q_e]at e;split at e
  .rename_i b;subst b;cases e;exact .inr ⟨c,AG,az (SL D) L⟩
  .rename_i b;rw[S.q_e]at e;split at e
   .rename_i C;subst C;cases e;exact .inr ⟨c,by grind [Cq],.inl rfl⟩
   .rename_i C;have⟨k,n,hri⟩:=H.obj i l e;by_cases R:k.b=c.b
    .rcases hm':l.mut with _|_
     .cases l with|v6 a4 a2=>have:=H.v6 r q o e n R;exact .inr ⟨k,by grind [Cq],.inl this⟩|_=>simp[Obj.mut]at hm'
     .exact absurd (H.inj g i s l c k r e q hm' o n R.symm) C
    grind [Eu]
 ·
  have inj:∀{i:u} {l:Obj} {k:Wx},((h.put g (.v6 0 [])).put j o').get i=J l->l.mut=X->f.put j c i=J k->(i=j/\k=c)\/(i≠g/\i≠j/\h.get i=J l/\f i=J k):=by
   intro i l k m B p;rw[S.q_e]at m;split at m
   .rename_i b;subst b;simp at p;exact .inl ⟨rfl,p.symm⟩
   .rename_i b;rw[Cq f c (Ne.symm b)]at p;rw[S.q_e]at m;split at m
    .cases m;cases B
    grind
  intro a v Y aa V W ai t F K ar av b;rcases inj ai F ar with⟨rfl,rfl⟩|⟨ac,a0,N,O⟩<;>rcases inj t K av with⟨rfl,rfl⟩|⟨ad,a1,P,Q⟩
  .rfl
  .exact absurd (H.inj g v s aa _ W r P q K o Q b).symm ad
  .exact absurd (H.inj g a s Y _ V r N q F o O b.symm).symm ac
  .exact H.inj a v Y aa V W N P F K O Q b
 .intro i k n;rw[FB];by_cases b:i=j
  .subst b;simp at n;subst n;exact H.bnd g _ o
  .rw[Cq f c b]at n;exact H.bnd i k n
 .intro i l k e T n;rw[S.q_e]at e;split at e
  .rename_i b;subst b;simp at n;subst n;exact H.out _ _ _ r q o
  .rename_i b;rw[Cq f c (Ne.symm b)]at n;rw[S.q_e]at e;split at e
   .cases e;cases T
   .exact H.out i l k e T n
theorem aq{k:Type}{R:k->G4->Prop}{b j:List (List k)}{e:Nat}{c':Array G4}(l:∀a∈b,U a=e)(v:∀a∈j,U a=e)(A:n<=(U b))(t:∀(i:Nat) (g:k) (f:G4),b.flatten[i]?=J g->c[i]?=J f->R g f) (s:∀(i:Nat) (g:k) (f:G4),j.flatten[i]?=J g->arr[i]?=J f->R g f) (B:arr.size=U j*e)(q:∀i,i<n*e->c'[i]?=c[i]?) (r:∀i,i<arr.size->c'[n*e+i]?=arr[i]?):
 (∀a∈b.take n++j,U a=e)/\(b.take n++j).length=n+U j/\∀(i:Nat) (g:k) (f:G4),(b.take n++j).flatten[i]?=J g->c'[i]?=J f->R g f:=by
 have o:∀a∈b.take n,U a=e:=λa h=>l a (List.mem_of_mem_take h);have m:(b.take n).length=n:=BP;have w:(b.take n).flatten.length=n*e:=by rw[Ee o,m]
 refine⟨λa h=>?_,BP,λi g f p C=>?_⟩
 .grind
 .rw[Ro]at p;by_cases x:i<n*e
  .grind [List.take_append_drop]
  grind [Ee]
variable{A:Nat->Prop}{P:H5}{l:List Hk}{f:BF}{w:G2}{M:Nat->Prop}
theorem QV{n:Type}{c new j:List (List n)}{e:Nat}(g:∀a∈c,U a=e)(l:∀a∈new,U a=e)(f:DD c b new=J j):
 (∀a∈j,U a=e)/\∀i,j.flatten[i]?=if i<b*e then c.flatten[i]? else if i<b*e+U new*e then new.flatten[i-b*e]? else c.flatten[i]? :=by
 have⟨s1,_,_⟩:=Ey f;unfold DD at f;rw[D4 s1]at f;cases f;have m:∀a∈c.take b,U a=e:=λa h=>g a (List.mem_of_mem_take h);have r:∀a∈c.drop (b+U new),U a=e:=λa h=>g a (Rc h);have k:(c.take b).length=b:=BP;have o:(c.take b).flatten.length=b*e:=by rw[Ee m,k]
 have p:=Ee l;refine⟨λa h=>?_,λi=>?_⟩
 .grind
 .have s:c.flatten=(c.take b).flatten++((c.drop b).take (U new)).flatten++(c.drop (b+U new)).flatten:=by rw[<-Ro,<-Ro];congr 1;rw[F0,<-List.drop_drop,I8,I8]
  have q:((c.drop b).take (U new)).flatten.length=U new*e:=by rw[Ee (sz:=e) (λa h=>g a (Rc (List.mem_of_mem_take h)))];congr 1;simp;omega
  grind
structure rJ(A:Nat->Prop)(α:Type):=
 ar:Nat->List (List α)->Obj
 R:BF->G2->(Nat->Prop)->α->G4->Prop
 obj:∀{f w M k sz es},PK f w M k (ar sz es)↔ ∃c elem,w.heap[k.b]?=J (.cells c elem (0,0))/\sz=k.sz/\0<sz/\c.size=k.n/\(∀e∈es,U e=sz)/\(U es)*sz<=c.size/\
    ∀(i:Nat) (x:α) (v:G4),es.flatten[i]?=J x->c[i]?=J v->R f w M x v
 mono:∀{f β' w w' M M' x v},Le f β'->FI A M w M' w'->R f w M x v->R β' w' M' x v
 isMut:∀sz es,(ar sz es).mut=X
def rJ.dat(A:Nat->Prop):rJ A Ar:=⟨.f8,λ_ w M=>DR w M,Iff.rfl,λ_ a h=>h.mono a,λ_ _=>rfl⟩
def rJ.mixed(A:Nat->Prop):rJ A y:=⟨.arr,VR,Iff.rfl,λb a h=>h.mono b a,λ_ _=>rfl⟩
def Vo{a4:Type}(m:rJ A a4){h C:S}(N:HR A f w C)(a1:eT h C){δ₁:S}(V:h.q_d δ₁=C){ρ:u}(bc:∀v,ρ<:+v->f v=I){t j W:Hk} {i:TypeInfo} {g:G4} (ag:lk P t j W i g) {ty:Hk} {v:u} {k:Wx} {es ds:List (List a4)} {b n cap:Nat} {a:Option Addr} (Q:C.get v=J (m.ar i.size es)) (F:f v=J k)(K:b*k.sz+cap*k.sz=k.n) (b5:n<=cap) (ar:a=J ⟨k.b,b*k.sz,I⟩\/cap=0) (a0:b+n<=(U es)) (az:∀W∈ds,U W=i.size) (b7:ds≠ []){ax:Option Addr} {ai:Nat} {arr:Array G4} (be:∀B:G2,B.heap=w.heap->(Builtin.firstCells i.size (U ds) (.slice ax (U ds) ai)).run P B=.ok arr B)(R:arr.size=U ds*i.size) (bx:∀o∈arr,o.oneCell'=X) (T:∀(l:Nat) (x:a4) (o:G4),ds.flatten[l]?=J x->arr[l]?=J o->m.R f w (MS A f C) x o) {e:DF}(b3:(∃Y,DD es (b+n) ds=J Y/\e=⟨.ii v b (n+U ds),δ₁++[(v,m.ar i.size Y)]⟩)\/
  (b=0/\n+U ds<=2147483648/\e=⟨.ii (1::ρ) 0 (n+U ds),δ₁++[(v,.v6 0 []),(1::ρ,m.ar i.size (es.take n++ds))]⟩)):
 E3 A ρ f w h (((Builtin.append_ #[t,j] ty #[.slice a n cap,.slice ax (U ds) ai]).run P w).andThen λo B=>.ok (.value o) B) e:=by
 have⟨cd,bi,hob⟩:=N.obj v _ Q;rw[F]at bi;cases bi;have⟨c,elem,q1,q2,q3,q4,q5,q6,q7⟩:=m.obj.1 hob;have cn:0<U ds:=by cases ds with|nil=>exact absurd rfl b7|cons=>simp
 have bh:=bc _ (J3 1 ρ);have a3:n+U ds<=cap->b*k.sz+n*k.sz+arr.size<=c.size/\
  ((Builtin.append_ #[t,j] ty #[.slice a n cap,.slice ax (U ds) ai]).run P w)=.ok (.slice (J ⟨k.b,b*k.sz,I⟩) (n+U ds) cap) (World.nl w k.b (.cells (G6 c (b*k.sz+n*k.sz) arr.toList) elem (0,0))):=by
  intro s;have av:=ar.resolve_right z;subst av;have p:b*k.sz+n*k.sz+arr.size<=c.size:=by have:=HM k.sz s;rw[Lm]at this;rw[R,q2,q4];omega
  refine⟨p,ay ag s (be w rfl) (λch b1=>?_) (λb4=>by cases b4)⟩;cases b1;rw[q2,FR];have:=Hs (P:=P) arr.toList (b*k.sz+n*k.sz) w c 0 q1 zCd (λo T=>bx o (by simpa using T));simpa using this
 rcases b3 with⟨Y,bo,rfl⟩|⟨rfl,b6,rfl⟩
 .have⟨s1,s2,s3⟩:=Ey bo;have s:n+U ds<=cap:=by
   have b0:(b+(n+U ds))*k.sz<=(b+cap)*k.sz:=by have cm:=HM k.sz s1;rw[q2]at q6;rw[Lm b cap,K,<-q4];rw[<-Rt];omega
   have:=Nat.le_of_mul_le_mul_right b0 z;omega
  have⟨p,hrun⟩:=a3 s;have ad:=Ho N (o':=m.ar i.size Y) Q (m.isMut _ _) F (.cells (G6 c (b*k.sz+n*k.sz) arr.toList) elem (0,0));have⟨l1,l2⟩:=QV q5 az bo;refine⟨_,.slice (J ⟨k.b,b*k.sz,I⟩) (n+U ds) cap,_,f,by rw[hrun];rfl,.inl rfl,.refl f,λ_ h=>.inl h,?_,?_,.ii _ _ _ _ _ _ F K s (.inl rfl),Mg _ (II _ (AS.2 rfl)) F,λ_ _ h=>.inl h⟩
  .rw[S.q_k,V];refine N.upd' Q (m.isMut _ _) F (m.obj.2 ⟨_,elem,GK _ (BZ q1),q2,q3,by rw[FQ zCd];exact q4,l1,by rw[FQ zCd,s2];exact q6,λl x o q r=>?_⟩);rw[l2]at q;rw[GP zCd]at r;have cl:b*k.sz+n*k.sz+U arr.toList=b*k.sz+n*k.sz+U ds*k.sz:=by rw[PM,R,q2]
   rw[Lm,q2]at q;by_cases a5:l<b*k.sz+n*k.sz
   .rw[D4 a5]at q r;exact m.mono (.refl f) ad (q7 l x o q r)
   .rw[Co a5]at q r;by_cases a6:l<b*k.sz+n*k.sz+U ds*k.sz
    .rw[D4 a6]at q;rw[D4 z]at r;exact m.mono (.refl f) ad (T _ x o q zCp)
    .rw[Co a6]at q;rw[Co z]at r;exact m.mono (.refl f) ad (q7 l x o q r)
  .rw[S.q_k,V];exact a1.ol.trans ad
 .simp at a3 K ar a0;by_cases s:n+U ds<=cap
  .have⟨p,hrun⟩:=a3 s;have cells:=aq (R:=m.R f w (MS A f C)) (c':=G6 c (n*k.sz) arr.toList) q5 az a0 q7 T R
    (λl D=>by rw[GP zCd,D4 (by rw[<-q2];exact D)])
    (λl D=>by rw[GP zCd,Co (by rw[<-q2];omega),D4 (by rw[<-q2];simp;omega)];rw[<-q2];simp)
   have⟨m1,m2⟩:=N.move Q (m.isMut _ _) F bh (x:=.cells (G6 c (n*k.sz) arr.toList) elem (0,0)) (o':=m.ar i.size (es.take n++ds)) (λa2 bl=>by refine m.obj.2 ⟨_,elem,GK _ (BZ q1),q2,q3,by rw[FQ zCd];exact q4,cells.1,?_,λl x o q r=>m.mono a2 bl (cells.2.2 l x o q r)⟩;rw[FQ zCd,cells.2.1,q4,q2,<-K];exact HM _ s)
   refine⟨_,.slice (J ⟨k.b,0,I⟩) (n+U ds) cap,_,f.put (1::ρ) k,by rw[hrun];rfl,.inl rfl,SL bh,λH bk=>?_,?_,?_,.ii _ _ _ _ _ _ (Hp _ _ _) (by simpa using K) s (.inl AG),Mg _ (II _ (CO ..)) F,λH cd aa=>?_⟩
   .by_cases O:H=1::ρ
    .subst O;exact .inr (J3 1 ρ)
    .rw[Cq f k O]at bk;exact .inl bk
   .rw[S.q_k,V];exact m1
   .rw[S.q_k,V];exact a1.ol.trans m2
   .by_cases O:H=1::ρ
    .subst O;simp at aa;subst aa;exact .inr (.inr ⟨_,II _ (CO ..),k,F,rfl⟩)
    .rw[Cq f k O]at aa;exact .inl aa
  ·
   have b8:∀B:G2,B.heap=w.heap->∃M:Array G4,(Builtin.firstCells i.size n (.slice a n cap)).run P B=.ok M B/\M.size=n*i.size/\∀l,l<n*i.size->M[l]?=c[l]? :=by
    intro B b';by_cases b2:cap=0
    .have:n=0:=z;subst this;refine⟨#[],?_,AG,AG⟩;cases a<;>simp[Builtin.firstCells,loadCells,loadCellsFrom]
    .have av:=ar.resolve_right b2;subst av;have p:0+n*i.size<=c.size:=by rw[q4,<-K,q2,I7];exact HM _ b5
     refine⟨((c.toList.drop 0).take (n*i.size)).toArray,?_,BP,λl D=>by rw[wI D];simp⟩;simp only[Builtin.firstCells];exact Tf (by rw[b'];exact q1) p
   have⟨M,o1,o2,o3⟩:=b8 w.drew rfl;have⟨cap',hcap,hrun⟩:=Vp (w:=w) ag (ty:=ty) (Nat.lt_of_not_le s) b6 o1 (be w.drew rfl);have cc:(Builtin.zeroCells g.cells (cap'-(n+U ds))).size=(cap'-(n+U ds))*i.size:=by simp[Builtin.zeroCells,ag.hzs]
   have cells:=aq (R:=m.R f w (MS A f C)) (c':=M++arr++Builtin.zeroCells g.cells (cap'-(n+U ds))) q5 az a0 q7 T R
    (λl D=>by rw[Array.append_assoc,Li z];exact o3 l D)
    (λl D=>by rw[Array.append_assoc,Array.getElem?_append_right z,o2,Mt,Li D])
   have a':(M++arr++Builtin.zeroCells g.cells (cap'-(n+U ds))).size=cap'*i.size:=by simp only[Array.size_append,cc,o2,R,<-Lm];congr 1;omega
   have bs:=N.kill Q (m.isMut _ _);have bn:eT C (C.put v (.v6 0 [])):=by
    intro H o' L ac;rw[S.q_e]at L;split at L
    .cases L;cases ac
    .exact⟨o',L,ac⟩
   rw[hrun];refine Y3 bs (h:=h) (λH o' L ac=>?_) (w₁:=w.drew) rfl ⟨rfl,rfl⟩ bc 1 (k:=⟨w.heap.size,i.size,cap'*i.size⟩) rfl (by rw[S.q_k,V];rfl) ?_ ?_
   .have⟨o2',r1,r2⟩:=bn H o' L ac;exact a1 H o2' r1 r2
   .intro bv a2 bl b9;refine m.obj.2 ⟨_,W,Mc w.drew _,rfl,q3,a',cells.1,?_,λl x o q r=>?_⟩
    .rw[a',cells.2.1];exact HM _ hcap
    .exact m.mono a2 (bn.ol.trans b9) (cells.2.2 l x o q r)
   .intro bv;exact .ii _ _ _ _ _ _ (Hp _ _ _) AG hcap (.inl AG)
variable{k:List y}
theorem Hg.cellsOne(h:Hg f w M k c)(o:∀n∈k,n.q_b=X):∀m∈c,m.oneCell'=true:=by
 intro m r;obtain⟨i,e,rfl⟩:=Array.mem_iff_getElem.1 r;have b:i<U k:=by rw[h.1];exact e
 have g:=h.2 i (k[i]'b) (c[i]'e) (CI b) (D9 e);have s:=o _ (Mp b);have:=g.cellsOk (by
  have:(k[i]'b).cells=[k[i]'b]:=by cases j:k[i]'b<;>first|rfl|grind [y.q_b]
  grind)
 refine this.2 _ ?_;have p:(c[i]'e).cells= #[c[i]'e]:=by
  cases j:c[i]'e with
  |agg a=>
   rw[j]at g;cases l:k[i]'b with
   |d n=>rw[l]at g;cases g with|d q=>cases q
   |agg _=>grind [y.q_b]|undef=>grind [y.q_b]|kw _=>grind [y.q_b]|_=>rw[l]at g;cases g
  |_=>rfl
 rw[p];simp
theorem eZ{h:S}(H:HR A f w h){ρ:u}(ac:∀a1,ρ<:+a1->f a1=I){t j ty:Hk}{bi p:y}{bk bl:G4}(x:VR f w (MS A f h) bi bk)(K:VR f w (MS A f h) p bl){e:DF}(c:KQ (Cm P l) h.get ρ (Cm P l t) (Cm P l j) bi p=J e):
 E3 A ρ f w h (((Builtin.append_ #[t,j] ty #[bk,bl]).run P w).andThen λo a2=>.ok (.value o) a2) e:=by
 unfold KQ at c;split at c
 .rename_i c0 c4 b9 b';obtain⟨info,d,g,cn,bx,cp,_,rfl⟩:=BL b9;obtain⟨c1,cm,c5,c2,cd,c3,_,rfl⟩:=BL b';split at c
  .rename_i V b3 b5 a6;obtain⟨bo,rfl⟩:=DY b3;obtain⟨bs,rfl⟩:=DY b5;simp[Hv]at a6;have⟨infe,de,ze,g1,g2,g3,⟨gb,gf,gz,_⟩,hje⟩:=BL a6;have O:V.size=infe.size:=by rw[hje]
   have L:lk P t j bo infe ze:=⟨bx,⟨bs,cd⟩,g1,g3,gb,gz⟩;unfold q_s at c;split at c
   .cases c
   ·
    rename_i az;have⟨ax,cx,hvx,arr,hfirst0,harr⟩:=TB (P:=P) H K az (size:=infe.size) AG;have s:=hfirst0 w rfl;subst hvx;have bv:=I9 harr.1.symm;subst bv;simp at s⊢;have run:∀(a:Option Addr) (n cap:Nat),n<=cap->(Builtin.append_ #[t,j] ty #[.slice a n cap,.slice ax 0 cx]).run P w=.ok (.slice a n cap) w:=by intro a n cap ag;have:=ay (w:=w) (w':=w) L (ty:=ty) (base:=a) (n:=n) (m:=0) (cap:=cap) (by simpa using ag) s (λcl _=>by simp[storeCells]) (λ_=>rfl);simpa using this
    split at c
    .cases c;cases x;rw[run I 0 0 (D2 0)];exact .plain H rfl rfl .d9
    .cases c;cases x with|emp a=>rw[run a 0 0 (D2 0)];exact .plain H rfl rfl (.emp a)
    .cases c;cases x with|ii _ _ _ cc a cap b4 Q D M=>rw[run a _ cap D];exact .plain H rfl rfl (.ii _ _ _ _ _ _ b4 Q D M)
    .cases c
   ·
    rename_i k R az;have R:k≠ []:=λm=>R m;split at c
    .rename_i a4;simp only[As,EL,beq_iff_eq]at a4;obtain⟨⟨a3,bc⟩,cu⟩:=a4;have bc:U k<=BS:=GS bc;have F:∀m∈k,U m=infe.size:=λm h=>by rw[(a3 m h).1,O]
     have b0:∀p∈k.flatten,p.q_b=true:=by intro ch a0;have⟨m,he,a0⟩:=Mk.1 a0;exact(a3 m he).2 ch a0
     have⟨ax,cx,hvx,arr,s,harr⟩:=TB (P:=P) H K az F;subst hvx;have T:arr.size=U k*infe.size:=by rw[<-harr.1,Ee F]
     have be:=harr.cellsOne b0;have cs:BS=1073741824:=rfl;have cv:0<U k:=by cases k with|nil=>exact absurd rfl R|cons=>simp
     have fresh:∀(a:Option Addr),q_h h.get ρ V k=J e->E3 A ρ f w h (((Builtin.append_ #[t,j] ty #[.slice a 0 0,.slice ax (U k) cx]).run P w).andThen λo a2=>.ok (.value o) a2) e:=by
      intro a b6;have b8:(Builtin.firstCells infe.size 0 (.slice a 0 0)).run P w.drew=.ok #[] w.drew:=by cases a<;>simp[Builtin.firstCells,loadCells,loadCellsFrom]
      have⟨cap',hcap,hrun⟩:=Vp (w:=w) L (ty:=ty) (base:=a) (n:=0) (m:=U k) (cap:=0) z z b8 (s w.drew rfl);rw[hrun];simp only[I7]at hcap⊢;refine VG H (w₁:=w.drew) rfl ⟨rfl,rfl⟩ ac (cap:=cap') ?_ hcap ?_ b6
      .simp[Builtin.zeroCells,gz,T,O,<-Lm];congr 1;omega
      .intro i p o K B;have cq:i<U k*infe.size:=by rw[<-Ee F];exact(BI.1 K).1
       rw[Array.empty_append,Li z]at B;exact harr.2 i p o K B
     unfold q_t at c;split at c
     .cases x;exact fresh I c
     .cases x with|emp a=>exact fresh a c
     .rename_i a1 b n;cases x with
      |ii _ _ _ cc a cap a' Q D M=>
       split at c
       .rename_i C es ad;split at c
        .rename_i r;simp only[As]at r;have ar:C=infe.size:=by rw[D5 r.1,O]
         have ai:b+n<=(U es):=GS r.2;subst ar;unfold q_x at c;split at c
         .rename_i ds N b7;have bh:∀W∈k.flatMap (Ck h.get),∃C es,W.2=.v6 C es/\h.get W.1=J (.f8 C es):=by intro W v;have⟨m,_,v⟩:=BE.1 v;exact L4 v
          have aa:=SR bh;have b2:=NA (vs:=k.flatten) bh (λW v=>by have⟨o,B,v⟩:=BE.1 v;have⟨m,he,B⟩:=Mk.1 B;exact BE.2 ⟨m,he,BE.2 ⟨o,B,v⟩⟩) (GG N)
          have a5:=(Ly N).1;have b1:=mH H aa.sub harr (GG N) b2;rw[<-a5];rw[<-a5]at s T;refine Vo (rJ.dat A) (aa.hr H) aa.sub rfl ac L (es:=es) (ds:=ds) (by rw[Qz (Y7 b7)];exact ad) a' Q D M ai (OT N F) (λm=>by grind) s T be (λV p o a bn=>b1.2 V p o a bn) ?_;split at c
          .rename_i Y av;cases c;exact .inl ⟨Y,av,rfl⟩
          .split at c
           .rename_i q;simp only[As]at q;cases c;have ag:n+U ds<=BS:=GS q.2;exact .inr ⟨D5 q.1,z,rfl⟩
           .cases c
         .cases c
        .cases c
       .rename_i C es ad;split at c
        .rename_i r;simp only[As]at r;have ar:C=infe.size:=by rw[D5 r.1,O]
         have ai:b+n<=(U es):=GS r.2;subst ar;unfold q_B at c;refine Vo (rJ.mixed A) H (.refl h) (δ₁:=[]) rfl ac L (es:=es) (ds:=k) ad a' Q D M ai F R s T be harr.2 ?_;split at c
         .rename_i Y av;cases c;exact .inl ⟨Y,av,rfl⟩
         .split at c
          .rename_i q;simp only[As]at q;cases c;have ag:n+U k<=BS:=GS q.2;exact .inr ⟨D5 q.1,z,rfl⟩
          .cases c
        .cases c
       .cases c
     .cases c
    .cases c
  .cases c
 .cases c
variable{A:Nat->Prop}{P:H5}{l:List Hk}{j:BF}{w:G2}{M:Nat->Prop}
variable{f:G4}
theorem fL(H:HR A j w h){n:Nat}{s:y}(q:VR j w (MS A j h) s f)(m:IV n s (Cm P l t)=J e):E3 A ρ j w h ((do pure (.value (<-Instr.fieldAt t f n)):M5 Next).run P w) e:=by
 rcases ht:Cm P l t with _|i
 .grind [IV]
 .obtain⟨info,d,g,V,M,W,⟨_,C,_⟩,rfl⟩:=BL ht;simp[IV,ht]at m;cases d with
  |struct B=>
   simp only[Py,Be]at m;rcases hf:B.toList[n]? with _|p
   .simp[hf]at m
   .simp[hf]at m;simp only[Nc,EL,As,OS]at C;have⟨⟨fi,hfi⟩,_⟩:=C p (AP hf);simp[hfi]at m;have N:B[n]?=J p:=by simpa using hf
    split at m
    .cases m
    .rename_i O;have Q:fi.size≠0:=λD=>O D;have run:∀a:Addr,(Instr.fieldAt t (.pointer (J a)) n).run P w=.ok (.pointer (J (a.add p.offset))) w:=by intro a;simp[Instr.fieldAt,run_underlying M,N,Instr.sureAddr,fieldPlace,CR hfi,Q]
     split at m
     .cases m;cases q with|ptr _ _ o r=>exact .plain H (v:=.pointer (J ⟨o.b,_,I⟩)) (by simp[run,FR]) rfl (.ptr _ _ o r)
     .cases m;cases q with|rt _ _ _ o r=>exact .plain H (v:=.pointer (J ⟨o.b,_,I⟩)) (by simp[run,FR,Rt]) rfl (.rt _ _ _ o r)
     .split at m
      .rename_i k Y;cases m;cases q with|iptr _ x b c elem F K L R T=>refine .plain H (v:=.pointer (J ⟨x,b+p.offset,I⟩)) (by simp[run,FR]) rfl (.iptr _ x _ c elem F K L BP λi s v q aa=>?_);grind
      .cases m
     .cases m
  |_=>simp[Py]at m
def AKg{info:TypeInfo}(r:P.info? t=J info)(m:P.underlying t=J d){o:List y}(f:Hg j w M k c)(v:Kj k b info.size=J o){p:y} (a:Gi (PZ d) o=J p):∃h,(part t c b).run P w=.ok h w/\VR j w M p h:=by
 have⟨s1,s2,s3⟩:=KU v;unfold Gi at a;split at a
 .rename_i l;cases a;refine⟨.agg (c.extract b (b+info.size)),?_,.agg _ _ (by rw[s2];simp;rw[<-f.1];omega) λi q h e g=>?_⟩
  .simp[part,LQ m,l,CR r]
  .have s:i<info.size:=by rw[<-s2];exact(BI.1 e).1
   rw[s3 i s]at e;rw[Array.getElem?_extract]at g;split at g
   .exact f.2 _ q h e g
   .cases g
 .rename_i l;split at a
  .rename_i q;cases a;simp only[ID,MD]at s2;have n:b<c.size:=by rw[<-f.1];omega
   have e:=s3 0 z;simp at e;refine⟨c[b],?_,f.2 b _ _ e.symm (by simp[n])⟩;simp[part,LQ m,l,n]
  .cases a
def AEp(H:HR A j w h){b:Nat}{m:y}(B:VR j w (MS A j h) m f)(a:Q9 b m (Cm P l t)=J e):E3 A ρ j w h ((do pure (.value (<-Instr.field t f b)):M5 Next).run P w) e:=by
 rcases ht:Cm P l t with _|i
 .simp[Q9,ht]at a
 .obtain⟨info,d,g,F,q,K,⟨_,p,_⟩,rfl⟩:=BL ht;simp only[Q9,ht]at a;cases d with
  |struct o=>
   simp only[Py,Be]at a;rcases hf:o.toList[b]? with _|n
   .simp[hf]at a
   .simp only[hf,Gs]at a;simp only[Nc,EL,As,OS]at p;have⟨⟨fi,hfi⟩,fd,hu⟩:=p n (AP hf);have r:o[b]?=J n:=by simpa using hf
    cases m with
    |agg k=>simp only[hfi,Gs,F7]at a;cases B with|agg _ c C D=>simp only[hu,Gs,F7,BY,HE]at a;obtain⟨M,⟨L,s,x⟩,rfl⟩:=a;have⟨v,hv,hr'⟩:=AKg hfi hu (c:=c) ⟨C,D⟩ s x;exact .plain H (v:=v) (by simp[Instr.field,run_underlying q,r,asAgg,hv]) rfl hr'
    |_=>simp at a
  |_=>simp[Py]at a
def HJ{k:IntKind}{n:Int}{v:G4}(h:VR j w M (.d (.int k n)) v):v=.int k n:=by cases h with|d h=>cases h;rfl
def KF{b:Bool}{v:G4}(h:VR j w M (.d (.bool b)) v):v=.bool b:=by cases h with|d h=>cases h;rfl
def LL{b:ByteArray}{v:G4}(h:VR j w M (.d (.str b)) v):v=.string b:=by cases h with|d h=>cases h;rfl
theorem fZ{h:S}(H:HR A j w h){ρ:u}{t:Hk}{L i:y}{f ar:G4}(s:VR j w (MS A j h) L f)(ai:VR j w (MS A j h) i ar){e:DF}(k:FV (Cm P l) h.get L i (Cm P l t)=J e):E3 A ρ j w h ((do pure (.value (<-Instr.indexAt t f ar)):M5 Next).run P w) e:=by
 rcases ht:Cm P l t with _|bo
 .simp[FV,ht]at k
 .obtain⟨info,d,g,O,ac,be,_,rfl⟩:=BL ht;simp[FV,ht]at k;split at k
  .rename_i W n V R r;obtain⟨az,rfl⟩:=DY R;simp[Hv]at r;have⟨info',d',z',g1,g2,g3,_,hje⟩:=BL r;have Q:V.size=info'.size:=by rw[hje]
   have:=HJ ai;subst this;unfold Rm at k;split at k
   .rename_i T;obtain⟨n,rfl⟩:=MK T;simp at k;have run:∀(a:Addr) (len cap:Nat),n<len->(Instr.indexAt t (.slice (J a) len cap) (.int W n)).run P w=.ok (.pointer (J (a.add (n*info'.size)))) w:=by
     intro a len cap p;have O:(n:Int)<(len:Int):=by exact_mod_cast p
     simp[Instr.indexAt,asIntOf,run_underlying ac,p,CR g1]
    split at k
    .rename_i N;split at k
     .rename_i c ad;split at k
      .rename_i a2;cases k;have ag:U c=info'.size:=by rw[D5 a2,Q]
       have p:=(BI.1 ad).1;cases s with
       |d a3=>
        cases a3 with
        |lst0 a cap=>simp at p
        |co _ Y b cap K av elem aa D F a6 bl a' bn=>
         have a4:K=info'.size:=by rw[<-ag,a6 c (AP ad)]
         subst a4;refine .plain H (v:=.pointer (J ⟨Y,b+n*info'.size,I⟩)) (by simp[run _ _ _ p,FR]) rfl (.iptr c Y _ av elem aa D F ?_ λi L v s a5=>?_)
         .have:=HM info'.size p;grind
         .have bi:i<info'.size:=by rw[<-ag];exact(BI.1 s).1
          refine a' (n*info'.size+i) L v ?_ (by rw[<-a5];congr 1;omega);grind [KK]
      .cases k
     .cases k
    .rename_i C b len;split at k
     .rename_i p;cases s with
      |ii _ _ _ o a cap B bh bk a0=>
       have a1:=a0.resolve_right z;subst a1;have bc:o.sz=info'.size->e=⟨.rt C (b+n) 0,[]⟩->E3 A ρ j w h ((do pure (.value (<-Instr.indexAt t (.slice (J ⟨o.b,b*o.sz,I⟩) len cap) (.int W n))):M5 Next).run P w) e:=by rintro M rfl;refine .plain H (v:=.pointer (J ⟨o.b,(b+n)*o.sz+0,I⟩)) (by simp[run _ _ _ p,FR,<-M,Lm]) rfl (.rt _ _ _ o B)
       split at k
       .rename_i K N q;have⟨k',x,c,elem,D,F,_⟩:=H.obj C _ q;grind
       .rename_i K N q;split at k
        .rename_i M;cases k;have⟨k',x,ho'⟩:=H.obj C _ q;rw[B]at x;cases x;rcases ho' with rfl|⟨_,c,elem,aa,D,F,_⟩
         .simp at M
         grind
        .cases k
       .rename_i K N q;have⟨k',x,c,elem,D,F,_⟩:=H.obj C _ q;grind
       .cases k
     .cases k
    .cases k
   .cases k
  .rename_i W n m V R r;obtain⟨az,rfl⟩:=AFv R;simp[Hv]at r;have⟨info',d',z',g1,g2,g3,_,hje⟩:=BL r;have Q:V.size=info'.size:=by rw[hje]
   have:=HJ ai;subst this;unfold wv at k;split at k
   .split at k
    .rename_i T;cases k;cases s with|ptr _ _ o B=>have O:n<(m:Int):=z;exact .plain H (v:=.pointer (J ⟨o.b,_,I⟩)) (by simp[Instr.indexAt,asIntOf,run_underlying ac,T.1,O,Instr.sureAddr,CR g1,FR,Q]) rfl (.ptr _ _ o B)
    .cases k
   .cases k
  .cases k
variable{A:Nat->Prop}{P:H5}{k:List Hk}{j:BF}{w:G2}{M:Nat->Prop}
inductive yo(β:BF)(w:G2)(M:Nat->Prop):Option y->Option G4->Prop
 |none:yo β w M I I
 |some {x v}:VR β w M x v->yo β w M (J x) (J v)
def yo.map{c:Nat->y}{a:Act}(e:MX j w M c λt=>a.tmps.getD t Go.undef)(b:Option LF):yo j w M (b.map (ev c)) (b.map a.eval):=by
 rcases b with _|b
 .exact .none
 .exact .some (Ko e b)
theorem Q0{a:y}{e:G4}{n:Int}(h:VR j w M a e)(b:Ki a=J n):∃c,e=.int c n:=by
 cases a with
 |d a=>cases a with|int c m=>simp[Ki]at b;subst b;exact⟨c,HJ h⟩|_=>simp[Ki]at b
 |_=>simp[Ki]at b
theorem Je{k:IntKind}{A9:Nat}(h:n<=A9)(code:BoundsCode):(Instr.sliceBound (.int k n) A9 code).run P w=.ok n w:=by simp[Instr.sliceBound,asIntOf,h]
theorem Xk{x s A:Option y}{p B C:Option G4}(H:yo j w M x p)(r:yo j w M s B)(t:yo j w M A C){len cap:Nat}{isSlice:Bool}{b g:Nat}{f:Option Nat}(a:GB x s A len=J (b,g,f)) (D:f=I->g<=cap) (F:∀m,f=J m->m<=cap):
 (Instr.sliceBounds isSlice len cap p B C).run P w=.ok (b,g,f.getD cap) w/\b<=g/\∀m,f=J m->g<=m:=by
 unfold GB at a;split at a
 .rename_i o ad W e;have low:∀q (code:BoundsCode) (K:Nat->M5 (Nat×Nat×Nat)),0<=o->o.toNat<=q->
   (match p with|some v=>(do let b<-Instr.sliceBound v q code;K b)|none=>(do let b<-pure 0;K b)).run P w=(K o.toNat).run P w:=by
   intro q code K T Y;rcases H with _|k
   .grind [Jq]
   .grind [Jq,Q0,Sem.run_bind,Je,Result.andThen_ok]
  split at a
  .split at a
   .rename_i c;simp at a;obtain⟨rfl,rfl,rfl⟩:=a;have i:=OF c.1 c.2;refine⟨?_,z,AG⟩;cases t;have l:=D rfl;rcases r with _|k
    .simp[Jq]at e;subst e;simp only[Es]at*;simp only[Instr.sliceBounds,Sem.run_bind,Sem.run_pure,Result.andThen_ok];exact low len _ (λb=>pure (b,len,cap)) c.1 z
    .simp[Jq]at e;obtain⟨R,rfl⟩:=Q0 k e;obtain⟨n,rfl⟩:=MK i;simp only[Es]at*;simp only[Instr.sliceBounds,Sem.run_bind,Sem.run_pure,Result.andThen_ok,Je l];exact low n _ (λb=>pure (b,n,cap)) c.1 z
   .cases a
  .split at a
   .rename_i V m L;split at a
    .rename_i c;simp at a;obtain⟨rfl,rfl,rfl⟩:=a;have i:=OF c.1 c.2.1;have N:=OF i c.2.2;refine⟨?_,z,by intro ac h;cases h;omega⟩;have l:=F _ rfl;cases t with
     |some Q=>cases r with|some k=>simp[Jq]at e;obtain⟨R,rfl⟩:=Q0 k e;obtain⟨aa,rfl⟩:=Q0 Q L;obtain⟨n,rfl⟩:=MK i;obtain⟨m,rfl⟩:=MK N;simp only[Es]at*;have O:n<=m:=z;simp only[Instr.sliceBounds,Sem.run_bind,Result.andThen_ok,Je l,Je O];exact low n _ (λb=>pure (b,n,m)) c.1 z
    .cases a
   .cases a
 .cases a
theorem Wg(g:P.underlying t=J d)(h:∀n f,d≠ .array n f){e:G4}{b a c:Option G4}:
 (Instr.sliceAt t e b a c).run P w=(Instr.slice t e b a c).run P w:=by
 cases d<;>simp_all [Instr.sliceAt,run_underlying g]
theorem qC{h:S}(H:HR A j w h){ρ:u}{t:Hk}{bc:y}{f:G4}(V:VR j w (MS A j h) bc f){a6 a4 a':Option y}{ad ac ag:Option G4}(bs:yo j w (MS A j h) a6 ad)(bl:yo j w (MS A j h) a4 ac) (a5:yo j w (MS A j h) a' ag) {e:DF}(x:LA (Cm P k) h.get bc a6 a4 a' (Cm P k t)=J e):E3 A ρ j w h ((do pure (.value (<-Instr.sliceAt t f ad ac ag)):M5 Next).run P w) e:=by
 rcases ht:Cm P k t with _|c8
 .simp[LA,ht]at x
 .obtain⟨info,d,g,bi,M,cq,_,rfl⟩:=BL ht;simp[LA,ht]at x
  suffices bx:∃r,e=⟨r,[]⟩/\∃v,(Instr.sliceAt t f ad ac ag).run P w=.ok v w/\VR j w (MS A j h) r v by obtain⟨r,rfl,v,bi,M⟩:=bx;exact .plain H (v:=v) (by simp[bi]) rfl M
  split at x
  .rename_i b0 O bn;obtain⟨cm,rfl⟩:=DY O;rw[Wg M AG];simp[Hv]at bn;have⟨info',d',z',g1,g2,g3,_,hje⟩:=BL bn;have c2:b0.size=info'.size:=by rw[hje]
   simp at x;obtain⟨r,l,rfl⟩:=x;refine⟨r,rfl,?_⟩;have run:∀{a:Option Addr} {len cap o r:Nat} {L:Option Nat},GB a6 a4 a' len=J (o,r,L)->(L=I->r<=cap)->(∀m,L=J m->m<=cap)->
    (Instr.slice t (.slice a len cap) ad ac ag).run P w=.ok (.slice (if L.getD cap=o then a else a.map (·.add (o*info'.size))) (r-o) (L.getD cap-o)) w/\o<=r/\∀m,L=J m->r<=m:=by
    intro a len cap o r L p b6 b7;have⟨b1,b2⟩:=Xk (P:=P) (w:=w) (isSlice:=X) bs bl a5 p b6 b7;refine⟨?_,b2⟩;simp[Instr.slice,run_underlying M,b1,CR g1]
   unfold Ga at l;split at l
   .rename_i s _;unfold Zc at l;split at l
    .rename_i o q m p;split at l
     .rename_i C;simp only[As]at C;have av:q<=(U s):=GS C.1;cases V with
      |d ai=>
       have bk:∃a cap,f=.slice a (U s) cap/\(U s)<=cap:=by cases ai with|lst0 a cap=>exact⟨a,cap,rfl,AG⟩|co _ be b cap b3 c elem a2 W Y Q a0 a1 aa=>exact⟨_,cap,rfl,aa⟩
       obtain⟨a,cap,rfl,bk⟩:=bk;split at l
       .cases l;have⟨e1,e2,_⟩:=run (a:=a) (cap:=cap) p (λ_=>z) AG;refine⟨_,e1,.d ?_⟩;simp;have bo:((s.drop o).take (q-o)).length=q-o:=BP;by_cases cd:q-o=0
        .rw[cd,Lw];exact .lst0 _ _
        .cases ai with
         |lst0 a cap=>simp at av;omega
         |co _ be b _ b3 c elem a2 W Y Q a0 a1 aa=>
          have b8:s≠ []:=λbh=>by grind
          have cc:b3=info'.size:=by obtain⟨bh,cn,rfl⟩:=RX b8;have:=Q bh AG;have cs:=D5 (by simpa[Qs]using C.2);omega
          subst cc;have c5:¬cap=o:=z;have b':Kj s o (q-o)=J ((s.drop o).take (q-o)):=by unfold Kj;rw[D4 z]
          have⟨f1,f2⟩:=YQ Q b';have c1:=DR.co (w:=w) (M:=MS A j h) ((s.drop o).take (q-o)) be (b+o*info'.size) (cap-o) info'.size c elem a2 W Y f1 (by
           have cu:=HM info'.size av;rw[bo];have cv:o*info'.size+(q-o)*info'.size=q*info'.size:=by rw[<-Lm];congr 1;omega
           omega) (λi bc v V c6=>by
           grind [Ee]) (by rw[bo];omega)
          grind [FR]
       .rename_i K;split at l
        .rename_i a3;cases l;have D:=D5 a3;subst D;have c4:K<=q:=by
          unfold GB at p;split at p
          .split at p
           .split at p<;>cases p
           .split at p
            .grind
            .cases p
          .cases p
         have⟨e1,e2,e3⟩:=run (a:=a) (cap:=cap) p AG (λm D=>by cases D;omega);have:=e3 K rfl;refine⟨_,e1,?_⟩;have:q-K=0:=z;simp only[F7,IF,this];exact .emp _
        .cases l
     .cases l
    .cases l
   .rename_i az b n _;cases V with
    |ii _ _ _ F a cap O bv c3 c0=>
     unfold O2 at l;split at l
     .rename_i o q m p;have cp:∀(B N:Nat),B=F.sz->0<F.sz->N*F.sz<=F.n->fP b0.size az b o q m B N=J r->∃v,(Instr.slice t (.slice a n cap) ad ac ag).run P w=.ok v w/\VR j w (MS A j h) r v:=by
       intro B N bx b9 b5 l;unfold fP at l;split at l
       .rename_i C;simp only[As]at C;have ch:=D5 C.1.1.1;have b4:b+m.getD q<=N:=GS C.1.1.2;have cl:b+q<=N:=GS C.1.2;have cx:N<=b+cap:=by
         have:N*F.sz<=(b+cap)*F.sz:=by rw[Lm,bv];exact b5
         exact Nat.le_of_mul_le_mul_right this b9
        have⟨e1,e2,e3⟩:=run (a:=a) (cap:=cap) p (λ_=>z) (λK D=>by subst D;simp at b4;omega);refine⟨_,e1,?_⟩;rcases m with _|K
        .simp at l;subst l;simp;refine .ii _ _ _ F _ _ O ?_ z ?_
         .rw[<-Lm,<-bv,<-Lm];congr 1;omega
         grind [FR]
        .simp only at l;split at l
         .rename_i a3;cases l;have D:=D5 a3;subst D;have:=e3 K rfl;have:q-K=0:=z;simp only[F7,IF,this];exact .emp _
         .cases l;exact .undef _
       .cases l
      split at l
      .rename_i B s R;have⟨k',ar,c,elem,W,Y,Q,a0,a1,aa,_⟩:=H.obj az _ R;grind
      .rename_i B s R;have⟨k',ar,x⟩:=H.obj az _ R;rw[O]at ar;cases ar;rcases x with rfl|⟨_,c,elem,a2,W,Y,Q,a0,a1,aa,_⟩
       .unfold fP at l;rw[MD,show Nat.blt 0 0=Z from rfl,Ls]at l;cases l
       grind
      .rename_i B s R;have⟨k',ar,c,elem,W,Y,Q,a0,a1,aa,_⟩:=H.obj az _ R;grind
      .cases l
     .cases l
   .cases V;unfold p9 at l;split at l
    .rename_i p;cases l;have⟨e1,_⟩:=run (a:=I) (cap:=0) p AG AG;refine⟨_,e1,?_⟩;simp;exact .d9
    .rename_i p;cases l;have⟨e1,_⟩:=run (a:=I) (cap:=0) p AG AG;refine⟨_,e1,?_⟩;simp;exact .emp _
    .cases l
   .grind
   .cases l
  .rename_i O;have ai:=P6 O;subst ai;rw[Wg M AG];simp at x;obtain⟨r,l,rfl⟩:=x;refine⟨r,rfl,?_⟩;unfold Ga at l;split at l
   .rename_i T;cases T
   .rename_i T;cases T
   .rename_i T;cases T
   .rename_i B _;unfold tt at l;split at l
    .rename_i o q p;split at l
     .rename_i av;cases l;have:=LL V;subst this;have⟨b1,b2,_⟩:=Xk (P:=P) (w:=w) (isSlice:=Z) (cap:=B.size) bs bl a5 p (λ_=>av) AG;rcases a5 with _|c7
      .refine⟨.string (B.extract o q),?_,.d (.str _)⟩;simp[Instr.slice,run_underlying M,b1]
      .grind [GB]
     .cases l
    .cases l
   .cases l
  .cases x
variable{A:Nat->Prop}{P:H5}{j:List Hk}{β:BF}{w:G2}{M:Nat->Prop}
def ANF{h:S}(H:HR A β w h){ρ:u}{op:UnOp}{b:y}{f:G4}(c:VR β w (MS A β h) b f){e:DF}(a:hJ op b=J e):
 E3 A ρ β w h ((do pure (.value (<-Op.unary op f)):M5 Next).run P w) e:=by
 unfold hJ at a;split at a
 .unfold yE at a;split at a
  .cases a;have:=KF c;subst this;exact .plain H (v:=.bool (!_)) (by simp[Op.unary]) rfl (.d (.bool _))
  .cases a
 .cases a
def AKh{h:S}(H:HR A β w h){ρ:u}{c a i:y}{j f g:G4}(m:VR β w (MS A β h) c j)(k:VR β w (MS A β h) a f)(l:VR β w (MS A β h) i g){e:DF}(b:ZC c a i=J e):
 E3 A ρ β w h ((do pure (.value (if<-asBool j then f else g)):M5 Next).run P w) e:=by
 unfold ZC at b;split at b
 .rename_i t;cases b;have:=KF m;subst this;cases t
  .exact .plain H (v:=g) (by simp[asBool]) rfl l
  .exact .plain H (v:=f) (by simp[asBool]) rfl k
 .cases b
def sZ(H:HR A β w h){b:Nat}{j:y}(m:VR β w (MS A β h) j f)(a:Nm b j=J e):
 E3 A ρ β w h ((do pure (.value (<-Instr.extract f b)):M5 Next).run P w) e:=by
 unfold Nm at a;split at a
 .rename_i n;simp only[BY]at a;obtain⟨v,i,rfl⟩:=a;cases m with
  |kw _ c k l=>
   have g:b<c.size:=by rw[<-k];exact(BI.1 i).1
   exact .plain H (v:=c[b]) (by simp[Instr.extract,g]) rfl (l b v _ i zDA)
 .cases a
def AFf(H:HR A β w h){b:y}(l:VR β w (MS A β h) b f)(a:RA t b (Cm P j t)=J e):
 E3 A ρ β w h ((do pure (.value (<-Instr.makeInterface t f)):M5 Next).run P w) e:=by
 rcases ht:Cm P j t with _|i
 .simp[RA,ht]at a
 .obtain⟨info,d,g,m,c,n,_,rfl⟩:=BL ht;simp only[RA,ht]at a;split at a
  .cases a
  .rename_i k;cases a;refine .plain H (v:=.iface t f) ?_ rfl (.iface _ _ _ l);cases d<;>first|(simp[Instr.makeInterface,run_underlying c];done)|(exact absurd rfl k)
theorem qp{g:G4}{b:Bool}(f:Yg g=b){e:y}(a:Gi b (g.cells.toList.map Ek)=J e):VR β w M e g:=by subst f;cases g with|agg c=>simp only[Yg,Gi,IS,F1]at a;subst a;refine .agg _ _ (by simp[Value.cells]) λi l k j h=>?_;grind [Value.cells,KJ]|_=>simp[Yg,Gi,Value.cells]at a;subst a;exact KJ
def zF{h:S}(H:HR A β w h){ρ:u}{C t:Hk}{k:y}{f:G4}(a:VR β w (MS A β h) k f){e:DF}(b:L8 t k (Cm P j t)=J e):
 E3 A ρ β w h ((do pure (.value (<-Instr.typeAssert f C t X)):M5 Next).run P w) e:=by
 rcases ht:Cm P j t with _|i
 .grind [L8]
 .obtain⟨info,d,g,p,m,q,⟨_,_,L,x⟩,rfl⟩:=BL ht;cases k with
  |iface N v=>
   simp only[L8,ht]at b;split at b
   .cases b
   .rename_i D;cases a with
    |iface _ _ B F=>
     have n:∀o,d≠ .interface o:=λo l=>by grind [DM]
     split at b
     .rename_i l;subst l;cases b;refine .plain H (v:=.tuple #[B,.bool X]) ?_ rfl (.kw _ _ rfl λi k v a c=>?_)
      .cases d<;>first|(simp[Instr.typeAssert,run_underlying m];done)|(exact absurd rfl (n _))
      .match i with|0=>grind|1=>simp at a c;subst a c;exact .d (.bool _)|i+2=>simp at a
     .rename_i r;simp only[BY]at b;obtain⟨M,s,rfl⟩:=b;have K:=qp (β:=β) (w:=w) (M:=MS A β h) x s;refine .plain H (v:=.tuple #[g,.bool Z]) ?_ rfl (.kw _ _ rfl λi k v a c=>?_)
      .cases d<;>first|(simp[Instr.typeAssert,run_underlying m,r,Ez p q];done)|(exact absurd rfl (n _))
      .match i with|0=>grind|1=>simp at a c;subst a c;exact .d (.bool _)|i+2=>simp at a
  |_=>simp[L8]at b
def nf{h:S}(H:HR A β w h){ρ:u}{j:Fn}{first cap:Array LF}{b:Nat->y}{a:Act}(n:MX β w (MS A β h) b λt=>a.tmps.getD t Go.undef){e:DF}(c:MA j (first.toList.map (ev b)) (cap.toList.map (ev b))=J e):
 E3 A ρ β w h ((do pure (.value (<-Instr.makeFunc j (first.map a.eval) (cap.map a.eval))):M5 Next).run P w) e:=by
 have k:∀(f:Array LF) (i:Nat) (g:y) (v:G4),(f.toList.map (ev b))[i]?=J g->(f.map a.eval)[i]?=J v->VR β w (MS A β h) g v:=by intro f i g v m l;simp only[Be,RD,BY]at m;obtain⟨p,o,rfl⟩:=m;simp only[Array.getElem?_map,o,Gs,F1]at l;subst l;exact Ko n p
 unfold MA at c;split at c
 .cases c;exact .plain H (v:=.func (.func _) (first.map a.eval) (cap.map a.eval)) (by simp[Instr.makeFunc]) rfl (.fn _ _ _ _ _ AG AG (k first) (k cap))
 .cases c
def oO(H:HR A β w h){g:y}(b:VR β w (MS A β h) g f)(c:MB g=J e):
 (∃a,f=.pointer (J a))/\E3 A ρ β w h (.ok (.value f) w) e:=by
 unfold MB at c;split at c<;>cases c
 .exact zBe
 .exact zBe
 .exact zBe
def AM2{h:S}(H:HR A β w h){ρ:u}{t ty:Hk}{r:y}{f:G4}(l:VR β w (MS A β h) r f){n:Nat}{i:TI}(B:Cm P j t=J i)(c:MZ h.get i.kind r=J n):
 E3 A ρ β w h (((Builtin.len_ #[t] ty #[f]).run P w).andThen λv D=>.ok (.value v) D) ⟨.d (.int .i64 n),[]⟩:=by
 obtain⟨info,d,g,F,e,K,_,rfl⟩:=BL B;refine .plain H (v:=.int .i64 n) ?_ rfl (.d (.int _ _));unfold MZ at c;split at c
 .rename_i s a;obtain⟨o,rfl⟩:=DY a;cases c;cases l with|d hd=>cases hd<;>simp[Builtin.len_,run_underlying e,goInt]
 .rename_i N a;have:=P6 a;subst this;cases c;have:=LL l;subst this;simp[Builtin.len_,run_underlying e,goInt]
 .rename_i a;exact zA2
 .rename_i a;exact zA2
 .rename_i q b m a;exact zA2
 .rename_i q a;obtain⟨M,o,rfl⟩:=Yk a;split at c
  .rename_i s x;cases c;have⟨k,hk',en,cl,q1,q0⟩:=H.obj q _ x;have C:=q0.len;cases l with|mp _ L p=>rw[hk']at p;cases p;simp[Builtin.len_,run_underlying e,goInt,getObj,Sem.run,q1,C]
  .cases c
 .cases c
def AM5{h:S}(H:HR A β w h){ρ:u}{ts:Array Hk}{ty:Hk}{c g:y}{f b:G4}(i:VR β w (MS A β h) c f)(j:VR β w (MS A β h) g b){e:DF}(a:oe c g=J e):
 E3 A ρ β w h (((Builtin.max_ ts ty #[f,b]).run P w).andThen λv k=>.ok (.value v) k) e:=by
 unfold oe at a;split at a
 .split at a
  .rename_i l;cases a;have:=HJ i;have:=HJ j;subst f b;exact .plain H (v:=.int _ _) (by simp[Builtin.max_,Builtin.max2]) rfl (.d (.int _ _))
  .cases a
 .cases a
def AM8{h:S}(H:HR A β w h){ρ:u}{ts:Array Hk}{ty:Hk}{c g:y}{f b:G4}(i:VR β w (MS A β h) c f)(j:VR β w (MS A β h) g b){e:DF}(a:og c g=J e):
 E3 A ρ β w h (((Builtin.min_ ts ty #[f,b]).run P w).andThen λv k=>.ok (.value v) k) e:=by
 unfold og at a;split at a
 .split at a
  .rename_i l;cases a;have:=HJ i;have:=HJ j;subst f b;exact .plain H (v:=.int _ _) (by simp[Builtin.min_,Builtin.min2]) rfl (.d (.int _ _))
  .cases a
 .cases a
variable{A:Nat->Prop}{P:H5}{k:List Hk}{j:BF}{w:G2}{M:Nat->Prop}
def AFk{h:S}(H:HR A j w h){ρ:u}{t:Hk}{v i:y}{f l:G4}(F:VR j w (MS A j h) v f)(C:VR j w (MS A j h) i l){e:DF}(a:RB v i (Cm P k t)=J e):
 E3 A ρ j w h ((do pure (.value (<-Instr.index t f l)):M5 Next).run P w) e:=by
 rcases ht:Cm P k t with _|M
 .simp[RB,ht]at a
 .obtain⟨info,d,g,K,x,o,_,rfl⟩:=BL ht;simp only[RB,ht,Gs]at a;split at a
  .rename_i b L n r;simp only[F1]at r;have:=P6 r;subst this;have:=LL F;have:=HJ C;subst f l;split at a
   .rename_i D;obtain⟨n,rfl⟩:=MK D;simp only[Es,BY]at a;obtain⟨m,p,rfl⟩:=a;have B:b[n]?=J m:=by
     have c:n<U b.data.toList:=(BI.1 p).1;have s:n<b.size:=zCy
     have q:=p;rw[CI c]at q;rw[getElem?_pos b n s];have o:b[n]'s=b.data[n]' zCy:=rfl;rw[o];simpa using q
    refine .plain H (v:=.int .u8 m.toNat) ?_ rfl (.d (.int _ _));simp[Instr.index,asIntOf,run_underlying x,B]
   .cases a
  .cases a
def tm{h:S}(H:HR A j w h){ρ:u}(i:∀f,ρ<:+f->j f=I){t:Hk}{c:Option LF}{a:Act}{e:DF}(b:LX ρ c=J e):
 E3 A ρ j w h ((do pure (.value (<-Instr.makeMap t (c.map a.eval))):M5 Next).run P w) e:=by
 rcases c with _|_
 .simp only[LX,F1]at b;subst b;have k:((do pure (.value (<-Instr.makeMap t ((none:Option LF).map a.eval))):M5 Next).run P w)=.ok (.value (.map (J w.heap.size))) (World.add w (.map #[] 0)):=by simp[Instr.makeMap,World.add]
  rw[k];refine Y3 H (.refl h) rfl ⟨rfl,rfl⟩ i 1 (k:=⟨w.heap.size,0,0⟩) rfl rfl ?_ ?_
  .intro g _ _ _;exact⟨#[],0,Mc w _,AGB ..⟩
  .intro g;exact .mp _ _ (Hp _ _ _)
 .simp[LX]at b
theorem AEL{h:S}(H:HR A j w h){ρ:u}{t ty:Hk}{s:y}{f:G4}(p:VR j w (MS A j h) s f){e:DF}(o:Mr (Cm P k) h.get (Cm P k t) s=J e):
 E3 A ρ j w h (((Builtin.clear_ #[t] ty #[f]).run P w).andThen λq D=>.ok (.value q) D) e:=by
 rcases ht:Cm P k t with _|cd
 .simp[Mr,ht]at o
 .obtain⟨info,d,g,b0,aa,b1,_,rfl⟩:=BL ht;simp only[Mr,ht]at o;have nothing:∀a cap,(Builtin.clear_ #[t] ty #[.slice a 0 cap]).run P w=.ok (.tuple #[]) w:=by intro a cap;cases a<;>simp[Builtin.clear_,run_underlying aa]
  split at o
  .rename_i a1 b n R;obtain⟨bv,rfl⟩:=DY R;cases p with
   |ii _ _ _ l a cap L b7 b5 a5=>
    split at o
    .cases o;rw[nothing];exact .plain H rfl rfl (.undef _)
    .rename_i b' T;have T:n≠0:=λF=>T F;split at o
     .rename_i C ac;simp only[Hv]at ac;have⟨info',d',z',g1,g2,g3,⟨_,_,hzs,_⟩,hje⟩:=BL ac;unfold Qp at o;split at o
      .rename_i cc bx O;split at o
       .rename_i a2 az;split at o
        .rename_i a';obtain⟨bl,bn,a3,bo⟩:=a';simp only[BY]at o;obtain⟨a4,ai,rfl⟩:=o;have⟨k',ad,c,elem,q1,q2,q3,q4,q5,q6,q7⟩:=H.obj a1 _ O;rw[L]at ad;cases ad;subst q2;have a6:a=J ⟨l.b,b*l.sz,I⟩:=a5.resolve_right z;subst a6;have Q:C.zero=z'.cells.toList.map Ek:=by rw[hje]
         have b4:C.size=info'.size:=by rw[hje]
         have a0:z'.cells.size=l.sz:=by have:=(GF az).1;rw[Q]at this;simp at this;omega
         have bk:Hg j w (MS A j h) C.zero z'.cells:=by rw[Q];exact⟨AG,λi s q p r=>by grind [KJ]⟩
         obtain⟨b8,b9⟩:(∀q∈z'.cells,q.oneCell'=X)/\∀{M:Nat->Prop} {D:G2} (i:Nat) (s:Ar) (q:G4),a2[i]?=J s->z'.cells[i]?=J q->DR D M s q:=by
          refine⟨bk.cellsOne (λs p=>EL.1 a3 s p),λ{M D} i s q p r=>?_⟩;have⟨f1,f2⟩:=GF az;have K:i<U C.zero:=by rw[<-f1];exact(BI.1 p).1
          have v:=f2 i _ s (CI K) p;have N:C.zero[i]?=J (Ek q):=by rw[Q,Be,RD,r];rfl
          rw[CI K]at N;simp only[F1]at N;rw[N]at v;have x:VR (λ_=>I) D M (Ek q) q:=KJ;cases B:Ek q with
          |d ch=>rw[B]at v x;simp only[Fz,F1]at v;subst v;cases x with|d hd=>exact hd
          |d9=>rw[B]at v x;simp only[Fz,F1]at v;subst v;cases x;exact .lst0 _ _|emp=>rw[B]at v x;simp only[Fz,F1]at v;subst v;cases x;exact .lst0 _ _|ii a1 b len=>rw[B]at x;cases x with|ii _ _ _ l a cap R=>cases R
          |_=>rw[B]at v;simp[Fz]at v
         have be:∀F∈List.replicate n a2,U F=l.sz:=λF b3=>by grind
         have⟨l1,l2⟩:=QV q5 be ai;have⟨s1,s2,_⟩:=Ey ai;have av:(Builtin.zeroCells z'.cells n).size=n*l.sz:=by simp[Builtin.zeroCells,a0]
         have ag:b*l.sz+(Builtin.zeroCells z'.cells n).size<=c.size:=by have:=HM l.sz s1;rw[IN,Lm]at this;rw[av];omega
         have bi:∀i,i<n*l.sz->(Builtin.zeroCells z'.cells n)[i]?=z'.cells[i % l.sz]? :=by intro i K;have b6:i % l.sz<l.sz:=Nat.mod_lt _ q3;simp only[Builtin.zeroCells,Array.getElem?_map,a0];rw[Array.getElem?_range,D4 K];simp only[Gs];rw[getElem!_pos z'.cells (i % l.sz) z];rw[D9 z]
         have bh:(Builtin.clear_ #[t] ty #[.slice (J ⟨l.b,b*l.sz,I⟩) n cap]).run P w=.ok (.tuple #[]) (World.nl w l.b (.cells (G6 c (b*l.sz) (Builtin.zeroCells z'.cells n).toList) elem (0,0))):=by
          have ar:=Hs (P:=P) (Builtin.zeroCells z'.cells n).toList (b*l.sz) w c 0 q1 (by simpa using ag) (λq r=>by grind [Array.mem_iff_getElem])
          simp only[Nat.add_zero]at ar;obtain⟨m,rfl⟩:=Nat.exists_eq_succ_of_ne_zero T;simp[Builtin.clear_,run_underlying aa,Ez g1 g3,ar]
         have V:=Ho H (o':=.f8 l.sz a4) O rfl L (.cells (G6 c (b*l.sz) (Builtin.zeroCells z'.cells n).toList) elem (0,0));refine⟨_,.tuple #[],_,j,by rw[bh];rfl,.inl rfl,.refl j,λ_ h=>.inl h,?_,V,.undef _,Mg _ (AS.2 rfl) L,λ_ _ h=>.inl h⟩;refine H.upd' O rfl L ⟨_,elem,GK _ (BZ q1),rfl,q3,by grind [FQ],l1,by grind [FQ],λi s q p r=>?_⟩;rw[l2]at p;rw[GP (by simpa using ag)]at r;have bs:b*l.sz+(Builtin.zeroCells z'.cells n).toList.length=b*l.sz+n*l.sz:=by rw[PM,av]
         rw[IN]at p;by_cases W:i<b*l.sz
         .rw[D4 W]at p r;exact(q7 i s q p r).mono V
         .rw[Co W]at p r;by_cases Y:i<b*l.sz+n*l.sz
          .rw[D4 Y]at p;rw[D4 z]at r;simp only[RD]at r;have bc:i-b*l.sz<n*l.sz:=z;rw[bi _ bc]at r;have b2:(i-b*l.sz)/l.sz<n:=Nat.div_lt_of_lt_mul zCI;grind [Nat.mod_lt,Nat.mul_comm,Nat.div_add_mod,KK]
          .rw[Co Y]at p;rw[Co z]at r;exact(q7 i s q p r).mono V
        .cases o
       .cases o
      .cases o
     .cases o
  .cases o;cases p;rw[nothing];exact .plain H rfl rfl (.undef _)
  .cases o;cases p;rw[nothing];exact .plain H rfl rfl (.undef _)
  .cases o
