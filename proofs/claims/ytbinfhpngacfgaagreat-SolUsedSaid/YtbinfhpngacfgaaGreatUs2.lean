/- P -/
import Derived.Lib.QuoteBits
import Derived.Test.YtbinfhpngacfgaaGreatUs1
set_option linter.all false
open Go renaming World->G5,Value->Hk,TypeId->H5,Program->JH,Operand->M3,Sem->OI
open Option renaming some->J,none->I
open Bool renaming true->X,false->Z
open List renaming length->U
namespace Go
variable{p:Prop}
def zCj(h:p:=by simpa using p):p:=h
def zC4(h:p:=by simpa using c):p:=h
def zDF(h:p:=by simp[g]):p:=h
end Go
namespace Go
variable{p:Prop}
def zAw(h:p:=by cases d<;>simp[DA]at h⊢;grind):p:=h
def zA3(h:p:=by obtain⟨o,rfl⟩:=DN a;cases c;cases l;simp[Builtin.len_,run_underlying e,goInt]):p:=h
def zBf(h:p:=by refine⟨?_,.plain H rfl rfl b⟩;cases b;exact⟨_,rfl⟩):p:=h
def zCJ(h:p:=by simp only[hg,RM,F4]at s;subst s;obtain⟨c,elem,p,r,C,B,M,Q,V⟩:=ho;grind):p:=h
end Go
namespace Go.Abs
variable{A:Nat->Prop}{P:JH}{b:List H5}{a:BB}{w:G5}{M:Nat->Prop}
variable{t:H5}{d:TypeDesc}
theorem DN(h:DA P t d=.slice):∃e,d=.slice e:=by exact zAw
variable{m:Nat}
theorem AFU(h:DA P t d=.arr m):∃e,d=.array m e:=by
 cases d<;>simp[DA]at h⊢
 .exact h
 grind
theorem YQ(h:DA P t d=.map):∃k e,d=.map k e:=by exact zAw
theorem Pw(h:DA P t d=.str):d=.string:=by exact zAw
theorem bd(h:DA P t d=.bool):d=.bool:=by exact zAw
theorem mH(h:DA P t d=.int):∃k,d=.int k:=by exact zAw
theorem bf(h:DA P t d=.func):∃a b c,d=.func a b c:=by exact zAw
theorem mI(h:DA P t d=.ptr):∃e,d=.pointer e:=by exact zAw
theorem R5(h:DA P t d=.iface):∃e,d=.interface e:=by exact zAw
variable{n:Nat}
def vS(h:n<=BO):IntKind.i64.wrap (n:Int)=n:=by refine Go.Lib.wrap_i64_small n ?_;have:n<=2 ^ 30:=h;omega
variable{h:S}{ρ:u}{e:C3}
def fJ(H:HR A a w h)(aa:∀O,ρ<:+O->a O=I){Q c:y}{T R:Hk}(q:VR a w (MS A a h) Q T)(p:VR a w (MS A a h) c R)(f:Eg (Cd P b) h.get ρ Q c (Cd P b t)=J e):
 Ep A ρ a w h ((do pure (.value (<-Instr.makeSlice t T R)):OI Next).run P w) e:=by
 rcases ht:Cd P b t with _|a5
 .simp[Eg,ht]at f
 .obtain⟨info,d,a',x,B,C,_,rfl⟩:=BJ ht;simp[Eg,ht]at f;split at f
  .rename_i a6 az n a0 m ad K;obtain⟨v,rfl⟩:=DN ad;simp[Hh]at K;obtain⟨g,a3,j,k,a4,V,⟨Y,_⟩,rfl⟩:=BJ K;split at f
   .rename_i ag;obtain⟨ai,rfl,o⟩:=ag;obtain⟨n,rfl⟩:=MK ai;have o:n<=BO:=by exact_mod_cast o
    cases q with|d q=>cases q with|int _ _=>cases p with|d p=>cases p with
       |int _ _=>
        have D:(g.bytes:Int)*(n:Int)<=281474976710656:=by have x:g.bytes*n<=70368744177664:=HE (Nat.mul_le_mul Y o) (Nat.le_of_eq rfl);have C:=Int.ofNat_le.2 x;rw[Int.natCast_mul]at C;omega
        have M:∀l:Array Hk,(n*g.size=0->l= #[])->(n*g.size≠0->l=j.cells)->
         ((do pure (.value (<-Instr.makeSlice t (.int az n) (.int a0 n))):OI Next).run P w)=
         .ok (.value (.slice (J ⟨w.heap.size,0,I⟩) n n)) (World.add w (.cells ((Array.range (n*g.size)).map (l[· % l.size]!)) v)):=by
         intro l a1 a2;have N:=vS o;by_cases i:n*g.size=0
         .rw[a1 i];simp[Instr.makeSlice,run_underlying B,asInt,asIntOf,typeInfo,k,N,D,newRow,World.add,CG k,i];intro ac;exfalso;omega
         .rw[a2 i];simp[Instr.makeSlice,run_underlying B,asInt,asIntOf,typeInfo,k,N,D,newRow,World.add,CG k,i,Ej k V];intro ac;exfalso;omega
        simp at f;unfold GX at f;split at f
        .cases f;rw[M #[] (λ_=>rfl) (λh=>absurd (Nat.zero_mul _) h)];exact .other H rfl (.emp _)
        .have r:=f;unfold newArr at r;split at r
         .cases r
         .rename_i F;simp only[As,EM,beq_iff_eq]at F;obtain⟨⟨W,s⟩,_⟩:=F;have s:0<g.size:=by simpa[RD]using s
          have L:n≠0:=CM;have av:j.cells.size=g.size:=by have:=(W (j.cells.toList.map EW) (by simp[L])).1;simpa using this
          have i:=qH (β:=a) (w:=w) (M:=MS A a h) (n:=n) av;have ar:=Uw H (w₁:=w) rfl ⟨rfl,rfl⟩ aa (elem:=v) (c:=(Array.range (n*g.size)).map (j.cells[· % j.cells.size]!)) (cap:=n) AG AG i.2 f;rw[M j.cells (λh=>absurd h (Nat.ne_of_gt (Nat.mul_pos (Nat.pos_of_ne_zero L) s))) (λ_=>rfl)];simpa using ar
   .cases f
  .cases f
variable{A:Nat->Prop}{P:JH}{a:List H5}{f:BB}{w:G5}{M:Nat->Prop}
variable{b:Nat}{c:Array Hk}
theorem TQ{a:Nat}{elem:H5}{e:Nat×Nat}(f:w.heap[a]?=J (.cells c elem e))(g:b+n<=c.size):
 (loadCells ⟨a,b,I⟩ n).run P w=.ok ((c.toList.drop b).take n).toArray w:=by
 have h:((c.toList.drop b).take n).length=n:=BL;grind [run_loadCells_list,FH,Qc]
theorem vQ{a:Nat}(e:a<n):((c.toList.drop b).take n).toArray[a]?=c[b+a]? :=zCN
theorem Su{h:S}(H:HR A f w h){e:y}{q:Hk}(t:VR f w (MS A f h) e q){a:List (List y)}(D:Cx h.get e=J a){size:Nat}(ac:∀l∈a,U l=size):
 ∃g c,q=.slice g (U a) c/\∃arr:Array Hk,(∀k:G5,k.heap=w.heap->(Builtin.firstCells size (U a) q).run P k=.ok arr k)/\HQ f w (MS A f h) a.flatten arr:=by
 have zero:∀(g:Option Addr) (c:Nat),a=[]->q=.slice g 0 c->∃g c,q=.slice g (U a) c/\∃arr:Array Hk,(∀k:G5,k.heap=w.heap->(Builtin.firstCells size (U a) q).run P k=.ok arr k)/\HQ f w (MS A f h) a.flatten arr:=by intro g c p r;subst p r;refine⟨g,c,rfl, #[],?_,rfl,AG⟩;intro k _;cases g<;>simp[Builtin.firstCells,loadCells,loadCellsFrom]
 have ag:∀{F b:Nat} {c:Array Hk} {elem:H5} {x:Nat×Nat} {cap:Nat},w.heap[F]?=J (.cells c elem x)->b+U a*size<=c.size->
  (∀(i:Nat) (e:y) (j:Hk),a.flatten[i]?=J e->c[b+i]?=J j->VR f w (MS A f h) e j)->q=.slice (J ⟨F,b,I⟩) (U a) cap->
  ∃g c,q=.slice g (U a) c/\∃arr:Array Hk,(∀k:G5,k.heap=w.heap->(Builtin.firstCells size (U a) q).run P k=.ok arr k)/\HQ f w (MS A f h) a.flatten arr:=by
  intro F b c elem x cap p r C B;subst B;refine⟨J ⟨F,b,I⟩,cap,rfl,((c.toList.drop b).take (U a*size)).toArray,?_,?_,?_⟩
  .grind [Builtin.firstCells,TQ]
  .grind [EP]
  .grind
 cases t with
 |d L=>
  cases L with
  |lst0 g cap=>grind [Cx]
  |co K F b cap v c elem x p r C B M Q=>
   simp only[Cx,F4]at D;subst D;by_cases N:K=[]
   .subst N;exact zero _ _ rfl rfl
   .have aa:v=size:=by obtain⟨l,az,rfl⟩:=RW N;have a5:=C l AG;have ar:=ac (l.map .d) AG;simp at ar;omega
    subst aa;refine ag (cap:=cap) p (by simpa using B) (λi e j t O=>?_) AG;rw[<-Rd,BY,Be]at t;obtain⟨T,R,rfl⟩:=t;exact .d (M i T j R O)
  |_=>simp[Cx]at D
 |d8=>grind [Cx]|emp g=>grind [Cx]
 |ii ad b n m g cap a3 be bc a0=>
  simp only[Cx,He]at D;obtain⟨K,s,Y⟩:=D;have⟨s1,s2,s3⟩:=KK Y;by_cases a4:n=0
  .subst a4;grind
  .have a1:g=J ⟨m.b,b*m.sz,I⟩:=a0.resolve_right z;subst a1;have a':∀{c:Array Hk} {elem:H5} {x:Nat×Nat},w.heap[m.b]?=J (.cells c elem x)->(∀l∈K,U l=m.sz)->(U K)*m.sz<=c.size->
    (∀(i:Nat) (e:y) (j:Hk),K.flatten[i]?=J e->c[i]?=J j->VR f w (MS A f h) e j)->
    ∃g c,Value.slice (J ⟨m.b,b*m.sz,I⟩) n cap=.slice g (U a) c/\∃arr:Array Hk,(∀k:G5,k.heap=w.heap->(Builtin.firstCells size (U a) (.slice (J ⟨m.b,b*m.sz,I⟩) n cap)).run P k=.ok arr k)/\HQ f w (MS A f h) a.flatten arr:=by
    intro c elem x p r C B;have⟨f1,f2⟩:=X4 r Y;have aa:m.sz=size:=by
     have:a≠ []:=λl=>by grind
     obtain⟨l,az,rfl⟩:=RW this;have a5:=f1 l AG;have ar:=ac l AG;omega
    refine ag p ?_ (λi e j t O=>?_) (by rw[s2])
    .have:=HM m.sz s1;grind
    .grind [EP]
   rcases hg:h.get ad with _|ai
   .simp[hg,RM]at s
   .have⟨k',W,ho⟩:=H.obj ad ai hg;rw[a3]at W;cases W;have a6:∀{o:List (List Au)} {c:Array Hk},(∀(i:Nat) (e:Au) (j:Hk),o.flatten[i]?=J e->c[i]?=J j->DR w (MS A f h) e j)->
     ∀(i:Nat) (e:y) (j:Hk),(o.map (·.map y.d)).flatten[i]?=J e->c[i]?=J j->VR f w (MS A f h) e j:=by
     intro o c L i e j t O;rw[<-Rd,BY,Be]at t;obtain⟨T,R,rfl⟩:=t;exact .d (L i T j R O)
    have len:∀{o:List (List Au)} {v:Nat},(∀l∈o,U l=v)->∀l∈o.map (·.map y.d),U l=v:=by intro o v L l N;obtain⟨av,a2,rfl⟩:=Ex.1 N;simpa using L av a2
    cases ai with
    |f9 v o=>exact zCJ
    |rt v o=>
     simp only[hg,RM,F4]at s;subst s;rcases ho with rfl|⟨_,c,elem,x,p,r,C,B,M,Q,V⟩
     .grind
     grind
    |arr v o=>exact zCJ|_=>simp[hg,RM]at s
 |_=>simp[Cx]at D
structure mB(P:JH)(t t2 e:H5)(i:TypeInfo)(A6:Hk):Prop:=
 ht:P.underlying t=J (.slice e)
 ht2:∃e2,P.underlying t2=J (.slice e2)
 hi:P.info? e=J i
 hz:i.zero=J A6
 hb:i.bytes<=65536
 hzs:A6.cells.size=i.size
variable{j ty:H5}{i:TypeInfo}{g:Hk}{base a:Option Addr}{cap:Nat}{arr:Array Hk}
def aN{h:H5}(A:mB P t j h i g){c:Nat}(f:n+m<=cap)(e:(Builtin.firstCells i.size m (.slice a m c)).run P w=.ok arr w) {w':G5} (l:∀b,base=J b->(storeCells (b.add (n*i.size)) arr.toList).run P w=.ok () w') (k:base=I->w'=w):
 (Builtin.append_ #[t,j] ty #[.slice base n cap,.slice a m c]).run P w=.ok (.slice base (n+m) cap) w':=by
 have⟨e2,h2⟩:=A.ht2;rcases base with _|b
 .rw[k rfl];simp[Builtin.append_,run_underlying A.ht,run_underlying h2,CG A.hi,Builtin.lenOf,f,e]
 .simp[Builtin.append_,run_underlying A.ht,run_underlying h2,CG A.hi,Builtin.lenOf,f,e,l b rfl]
theorem VW{b:H5}(A:mB P t j b i g){c:Nat}{o:Array Hk}(k:cap<n+m)(l:n+m<=2147483648)(s:(Builtin.firstCells i.size n (.slice base n cap)).run P w.drew=.ok o w.drew)(r:(Builtin.firstCells i.size m (.slice a m c)).run P w.drew=.ok arr w.drew):
 ∃e,n+m<=e/\(Builtin.append_ #[t,j] ty #[.slice base n cap,.slice a m c]).run P w=
  .ok (.slice (J ⟨w.heap.size,0,I⟩) (n+m) e) (World.add w.drew (.cells (o++arr++Builtin.zeroCells g.cells (e-(n+m))) b)):=by
 have⟨e2,h2⟩:=A.ht2;have q:=A.hb;have f:Builtin.nextslicecap (n+m) cap*i.bytes<=281474976710656:=by exact growslice_fits k (HE (Nat.mul_le_mul l q) (Nat.le_of_eq rfl))
 refine⟨(Question.appendCap (n+m) cap b).cut (w.tape w.drawn (.appendCap (n+m) cap b)),by grind [Question.cut],?_⟩
 .have v:¬((n+m:Nat):Int)>IntKind.i64.max:=by have:=Int.ofNat_le.2 l;have b:IntKind.i64.max=9223372036854775807:=rfl;rw[b];omega
  have p:¬(9223372036854775807:Int)<((n:Int)+m):=z;simp[Builtin.append_,run_underlying A.ht,run_underlying h2,CG A.hi,Builtin.lenOf,Nat.not_le.2 k,s,r,typeInfo,A.hi,f,Ej A.hi A.hz,newRow,World.add,Question.forced];rw[Co (λh=>p h.1),Co (Nat.not_lt.2 f)];rfl
theorem HR.move{h:S}(H:HR A f w h){g j:u}{c:WK}{s o':Obj}(r:h.get g=J s)(q:s.mut=X)(o:f g=J c)(D:f j=I){x:Go.Obj}(az:∀{M},Le f (f.put j c)->E5 A (MS A f h) w M (World.nl w c.b x)->O6 (f.put j c) (World.nl w c.b x) M c o'):
 HR A (f.put j c) (World.nl w c.b x) ((h.put g (.rt 0 [])).put j o')/\E5 A (MS A f h) w (MS A (f.put j c) ((h.put g (.rt 0 [])).put j o')) (World.nl w c.b x):=by
 have a3:g≠j:=λb=>by rw[b,D]at o;cases o
 have L:E5 A (MS A f h) w (MS A (f.put j c) ((h.put g (.rt 0 [])).put j o')) (World.nl w c.b x):=by
  refine⟨λv _ t=>Ef x λb=>t.elim (λt=>t (.inr ⟨g,s,c,r,q,o,b.symm⟩)) (λt=>H.out g s c r q o (b▸t)),by rw[Ez];omega,?_,rfl,rfl⟩;rintro v (ag|⟨i,l,k,m,B,p,rfl⟩)
  .exact .inl (.inl ag)
  rw[S.get_put]at m;split at m
  .rename_i b;subst b;simp at p;subst p;exact .inl (.inr ⟨g,s,c,r,q,o,rfl⟩)
  .rename_i b;rw[Ch f c (Ne.symm b)]at p;rw[S.get_put]at m;split at m
   .cases m;cases B
   .exact .inl (.inr ⟨i,l,k,m,B,p,rfl⟩)
 refine⟨H.step (R6 D) L ?_ ?_ ?_ ?_,L⟩
 .intro i l e;rw[S.get_put]at e;split at e
  .rename_i b;subst b;cases e;exact .inr ⟨c,AG,az (R6 D) L⟩
  .rename_i b;rw[S.get_put]at e;split at e
   .rename_i C;subst C;cases e;exact .inr ⟨c,by grind [Ch],.inl rfl⟩
   .rename_i C;have⟨k,n,hri⟩:=H.obj i l e;by_cases R:k.b=c.b
    .rcases hm':l.mut with _|_
     .cases l with|rt a4 a2=>have:=H.rt r q o e n R;exact .inr ⟨k,by grind [Ch],.inl this⟩|_=>simp[Obj.mut]at hm'
     .exact absurd (H.inj g i s l c k r e q hm' o n R.symm) C
    grind [Ef]
 ·
  have inj:∀{i:u} {l:Obj} {k:WK},((h.put g (.rt 0 [])).put j o').get i=J l->l.mut=X->f.put j c i=J k->(i=j/\k=c)\/(i≠g/\i≠j/\h.get i=J l/\f i=J k):=by
   intro i l k m B p;rw[S.get_put]at m;split at m
   .rename_i b;subst b;simp at p;exact .inl ⟨rfl,p.symm⟩
   .rename_i b;rw[Ch f c (Ne.symm b)]at p;rw[S.get_put]at m;split at m
    .cases m;cases B
    grind
  intro a v Y aa V W ai t F K ar av b;rcases inj ai F ar with⟨rfl,rfl⟩|⟨ac,a0,N,O⟩<;>rcases inj t K av with⟨rfl,rfl⟩|⟨ad,a1,P,Q⟩
  .rfl
  .exact absurd (H.inj g v s aa _ W r P q K o Q b).symm ad
  .exact absurd (H.inj g a s Y _ V r N q F o O b.symm).symm ac
  .exact H.inj a v Y aa V W N P F K O Q b
 .intro i k n;rw[Ez];by_cases b:i=j
  .subst b;simp at n;subst n;exact H.bnd g _ o
  .rw[Ch f c b]at n;exact H.bnd i k n
 .intro i l k e T n;rw[S.get_put]at e;split at e
  .rename_i b;subst b;simp at n;subst n;exact H.out _ _ _ r q o
  .rename_i b;rw[Ch f c (Ne.symm b)]at n;rw[S.get_put]at e;split at e
   .cases e;cases T
   .exact H.out i l k e T n
theorem aL{k:Type}{R:k->Hk->Prop}{b j:List (List k)}{e:Nat}{c':Array Hk}(l:∀a∈b,U a=e)(v:∀a∈j,U a=e)(A:n<=(U b))(t:∀(i:Nat) (g:k) (f:Hk),b.flatten[i]?=J g->c[i]?=J f->R g f) (s:∀(i:Nat) (g:k) (f:Hk),j.flatten[i]?=J g->arr[i]?=J f->R g f) (B:arr.size=U j*e)(q:∀i,i<n*e->c'[i]?=c[i]?) (r:∀i,i<arr.size->c'[n*e+i]?=arr[i]?):
 (∀a∈b.take n++j,U a=e)/\(b.take n++j).length=n+U j/\∀(i:Nat) (g:k) (f:Hk),(b.take n++j).flatten[i]?=J g->c'[i]?=J f->R g f:=by
 have o:∀a∈b.take n,U a=e:=λa h=>l a (List.mem_of_mem_take h);have m:(b.take n).length=n:=BL;have w:(b.take n).flatten.length=n*e:=by rw[EP o,m]
 refine⟨λa h=>?_,BL,λi g f p C=>?_⟩
 .grind
 .rw[Rg]at p;by_cases x:i<n*e
  .grind [List.take_append_drop]
  grind [EP]
variable{A:Nat->Prop}{P:JH}{l:List H5}{f:BB}{w:G5}{M:Nat->Prop}
theorem QK{n:Type}{c new j:List (List n)}{e:Nat}(g:∀a∈c,U a=e)(l:∀a∈new,U a=e)(f:C0 c b new=J j):
 (∀a∈j,U a=e)/\∀i,j.flatten[i]?=if i<b*e then c.flatten[i]? else if i<b*e+U new*e then new.flatten[i-b*e]? else c.flatten[i]? :=by
 have⟨s1,_,_⟩:=Ei f;unfold C0 at f;rw[D3 s1]at f;cases f;have m:∀a∈c.take b,U a=e:=λa h=>g a (List.mem_of_mem_take h);have r:∀a∈c.drop (b+U new),U a=e:=λa h=>g a (RX h);have k:(c.take b).length=b:=BL;have o:(c.take b).flatten.length=b*e:=by rw[EP m,k]
 have p:=EP l;refine⟨λa h=>?_,λi=>?_⟩
 .grind
 .have s:c.flatten=(c.take b).flatten++((c.drop b).take (U new)).flatten++(c.drop (b+U new)).flatten:=by rw[<-Rg,<-Rg];congr 1;rw[F1,<-List.drop_drop,JP,JP]
  have q:((c.drop b).take (U new)).flatten.length=U new*e:=by rw[EP (sz:=e) (λa h=>g a (RX (List.mem_of_mem_take h)))];congr 1;simp;omega
  grind
structure qU(A:Nat->Prop)(α:Type):=
 ar:Nat->List (List α)->Obj
 R:BB->G5->(Nat->Prop)->α->Hk->Prop
 obj:∀{f w M k sz es},O6 f w M k (ar sz es)↔ ∃c elem,w.heap[k.b]?=J (.cells c elem (0,0))/\sz=k.sz/\0<sz/\c.size=k.n/\(∀e∈es,U e=sz)/\(U es)*sz<=c.size/\
    ∀(i:Nat) (x:α) (v:Hk),es.flatten[i]?=J x->c[i]?=J v->R f w M x v
 mono:∀{f β' w w' M M' x v},Le f β'->E5 A M w M' w'->R f w M x v->R β' w' M' x v
 isMut:∀sz es,(ar sz es).mut=X
def qU.dat(A:Nat->Prop):qU A Au:=⟨.f9,λ_ w M=>DR w M,Iff.rfl,λ_ a h=>h.mono a,λ_ _=>rfl⟩
def qU.mixed(A:Nat->Prop):qU A y:=⟨.arr,VR,Iff.rfl,λb a h=>h.mono b a,λ_ _=>rfl⟩
def VV{a4:Type}(m:qU A a4){h C:S}(N:HR A f w C)(a1:dk h C){δ₁:S}(V:h.puts δ₁=C){ρ:u}(bc:∀v,ρ<:+v->f v=I){t j W:H5} {i:TypeInfo} {g:Hk} (ag:mB P t j W i g) {ty:H5} {v:u} {k:WK} {es ds:List (List a4)} {b n cap:Nat} {a:Option Addr} (Q:C.get v=J (m.ar i.size es)) (F:f v=J k)(K:b*k.sz+cap*k.sz=k.n) (b5:n<=cap) (ar:a=J ⟨k.b,b*k.sz,I⟩\/cap=0) (a0:b+n<=(U es)) (az:∀W∈ds,U W=i.size) (b7:ds≠ []){ax:Option Addr} {ai:Nat} {arr:Array Hk} (be:∀B:G5,B.heap=w.heap->(Builtin.firstCells i.size (U ds) (.slice ax (U ds) ai)).run P B=.ok arr B)(R:arr.size=U ds*i.size) (bx:∀o∈arr,o.oneCell'=X) (T:∀(l:Nat) (x:a4) (o:Hk),ds.flatten[l]?=J x->arr[l]?=J o->m.R f w (MS A f C) x o) {e:C3}(b3:(∃Y,C0 es (b+n) ds=J Y/\e=⟨.ii v b (n+U ds),δ₁++[(v,m.ar i.size Y)]⟩)\/
  (b=0/\n+U ds<=2147483648/\e=⟨.ii (1::ρ) 0 (n+U ds),δ₁++[(v,.rt 0 []),(1::ρ,m.ar i.size (es.take n++ds))]⟩)):
 Ep A ρ f w h (((Builtin.append_ #[t,j] ty #[.slice a n cap,.slice ax (U ds) ai]).run P w).andThen λo B=>.ok (.value o) B) e:=by
 have⟨cd,bi,hob⟩:=N.obj v _ Q;rw[F]at bi;cases bi;have⟨c,elem,q1,q2,q3,q4,q5,q6,q7⟩:=m.obj.1 hob;have cn:0<U ds:=by cases ds with|nil=>exact absurd rfl b7|cons=>simp
 have bh:=bc _ (Ju 1 ρ);have a3:n+U ds<=cap->b*k.sz+n*k.sz+arr.size<=c.size/\
  ((Builtin.append_ #[t,j] ty #[.slice a n cap,.slice ax (U ds) ai]).run P w)=.ok (.slice (J ⟨k.b,b*k.sz,I⟩) (n+U ds) cap) (World.nl w k.b (.cells (Gr c (b*k.sz+n*k.sz) arr.toList) elem (0,0))):=by
  intro s;have av:=ar.resolve_right z;subst av;have p:b*k.sz+n*k.sz+arr.size<=c.size:=by have:=HM k.sz s;rw[Ls]at this;rw[R,q2,q4];omega
  refine⟨p,aN ag s (be w rfl) (λch b1=>?_) (λb4=>by cases b4)⟩;cases b1;rw[q2,FH];have:=Hf (P:=P) arr.toList (b*k.sz+n*k.sz) w c 0 q1 zCj (λo T=>bx o (by simpa using T));simpa using this
 rcases b3 with⟨Y,bo,rfl⟩|⟨rfl,b6,rfl⟩
 .have⟨s1,s2,s3⟩:=Ei bo;have s:n+U ds<=cap:=by
   have b0:(b+(n+U ds))*k.sz<=(b+cap)*k.sz:=by have cm:=HM k.sz s1;rw[q2]at q6;rw[Ls b cap,K,<-q4];rw[<-Rt];omega
   have:=Nat.le_of_mul_le_mul_right b0 z;omega
  have⟨p,hrun⟩:=a3 s;have ad:=HZ N (o':=m.ar i.size Y) Q (m.isMut _ _) F (.cells (Gr c (b*k.sz+n*k.sz) arr.toList) elem (0,0));have⟨l1,l2⟩:=QK q5 az bo;refine⟨_,.slice (J ⟨k.b,b*k.sz,I⟩) (n+U ds) cap,_,f,by rw[hrun];rfl,.inl rfl,.refl f,λ_ h=>.inl h,?_,?_,.ii _ _ _ _ _ _ F K s (.inl rfl),MQ _ (IN _ (AS.2 rfl)) F,λ_ _ h=>.inl h⟩
  .rw[S.puts_append,V];refine N.upd' Q (m.isMut _ _) F (m.obj.2 ⟨_,elem,GD _ (BT q1),q2,q3,by rw[FG zCj];exact q4,l1,by rw[FG zCj,s2];exact q6,λl x o q r=>?_⟩);rw[l2]at q;rw[GH zCj]at r;have cl:b*k.sz+n*k.sz+U arr.toList=b*k.sz+n*k.sz+U ds*k.sz:=by rw[On,R,q2]
   rw[Ls,q2]at q;by_cases a5:l<b*k.sz+n*k.sz
   .rw[D3 a5]at q r;exact m.mono (.refl f) ad (q7 l x o q r)
   .rw[Co a5]at q r;by_cases a6:l<b*k.sz+n*k.sz+U ds*k.sz
    .rw[D3 a6]at q;rw[D3 z]at r;exact m.mono (.refl f) ad (T _ x o q zCv)
    .rw[Co a6]at q;rw[Co z]at r;exact m.mono (.refl f) ad (q7 l x o q r)
  .rw[S.puts_append,V];exact a1.ol.trans ad
 .simp at a3 K ar a0;by_cases s:n+U ds<=cap
  .have⟨p,hrun⟩:=a3 s;have cells:=aL (R:=m.R f w (MS A f C)) (c':=Gr c (n*k.sz) arr.toList) q5 az a0 q7 T R
    (λl D=>by rw[GH zCj,D3 (by rw[<-q2];exact D)])
    (λl D=>by rw[GH zCj,Co (by rw[<-q2];omega),D3 (by rw[<-q2];simp;omega)];rw[<-q2];simp)
   have⟨m1,m2⟩:=N.move Q (m.isMut _ _) F bh (x:=.cells (Gr c (n*k.sz) arr.toList) elem (0,0)) (o':=m.ar i.size (es.take n++ds)) (λa2 bl=>by refine m.obj.2 ⟨_,elem,GD _ (BT q1),q2,q3,by rw[FG zCj];exact q4,cells.1,?_,λl x o q r=>m.mono a2 bl (cells.2.2 l x o q r)⟩;rw[FG zCj,cells.2.1,q4,q2,<-K];exact HM _ s)
   refine⟨_,.slice (J ⟨k.b,0,I⟩) (n+U ds) cap,_,f.put (1::ρ) k,by rw[hrun];rfl,.inl rfl,R6 bh,λH bk=>?_,?_,?_,.ii _ _ _ _ _ _ (Ha _ _ _) (by simpa using K) s (.inl AG),MQ _ (IN _ (CO ..)) F,λH cd aa=>?_⟩
   .by_cases O:H=1::ρ
    .subst O;exact .inr (Ju 1 ρ)
    .rw[Ch f k O]at bk;exact .inl bk
   .rw[S.puts_append,V];exact m1
   .rw[S.puts_append,V];exact a1.ol.trans m2
   .by_cases O:H=1::ρ
    .subst O;simp at aa;subst aa;exact .inr (.inr ⟨_,IN _ (CO ..),k,F,rfl⟩)
    .rw[Ch f k O]at aa;exact .inl aa
  ·
   have b8:∀B:G5,B.heap=w.heap->∃M:Array Hk,(Builtin.firstCells i.size n (.slice a n cap)).run P B=.ok M B/\M.size=n*i.size/\∀l,l<n*i.size->M[l]?=c[l]? :=by
    intro B b';by_cases b2:cap=0
    .have:n=0:=z;subst this;refine⟨#[],?_,AG,AG⟩;cases a<;>simp[Builtin.firstCells,loadCells,loadCellsFrom]
    .have av:=ar.resolve_right b2;subst av;have p:0+n*i.size<=c.size:=by rw[q4,<-K,q2,I9];exact HM _ b5
     refine⟨((c.toList.drop 0).take (n*i.size)).toArray,?_,BL,λl D=>by rw[vQ D];simp⟩;simp only[Builtin.firstCells];exact TQ (by rw[b'];exact q1) p
   have⟨M,o1,o2,o3⟩:=b8 w.drew rfl;have⟨cap',hcap,hrun⟩:=VW (w:=w) ag (ty:=ty) (Nat.lt_of_not_le s) b6 o1 (be w.drew rfl);have cc:(Builtin.zeroCells g.cells (cap'-(n+U ds))).size=(cap'-(n+U ds))*i.size:=by simp[Builtin.zeroCells,ag.hzs]
   have cells:=aL (R:=m.R f w (MS A f C)) (c':=M++arr++Builtin.zeroCells g.cells (cap'-(n+U ds))) q5 az a0 q7 T R
    (λl D=>by rw[Array.append_assoc,Lm z];exact o3 l D)
    (λl D=>by rw[Array.append_assoc,Array.getElem?_append_right z,o2,Rs,Lm D])
   have a':(M++arr++Builtin.zeroCells g.cells (cap'-(n+U ds))).size=cap'*i.size:=by simp only[Array.size_append,cc,o2,R,<-Ls];congr 1;omega
   have bs:=N.kill Q (m.isMut _ _);have bn:dk C (C.put v (.rt 0 [])):=by
    intro H o' L ac;rw[S.get_put]at L;split at L
    .cases L;cases ac
    .exact⟨o',L,ac⟩
   rw[hrun];refine Yj bs (h:=h) (λH o' L ac=>?_) (w₁:=w.drew) rfl ⟨rfl,rfl⟩ bc 1 (k:=⟨w.heap.size,i.size,cap'*i.size⟩) rfl (by rw[S.puts_append,V];rfl) ?_ ?_
   .have⟨o2',r1,r2⟩:=bn H o' L ac;exact a1 H o2' r1 r2
   .intro bv a2 bl b9;refine m.obj.2 ⟨_,W,MN w.drew _,rfl,q3,a',cells.1,?_,λl x o q r=>?_⟩
    .rw[a',cells.2.1];exact HM _ hcap
    .exact m.mono a2 (bn.ol.trans b9) (cells.2.2 l x o q r)
   .intro bv;exact .ii _ _ _ _ _ _ (Ha _ _ _) AG hcap (.inl AG)
variable{k:List y}
theorem HQ.cellsOne(h:HQ f w M k c)(o:∀n∈k,n.isCell=X):∀m∈c,m.oneCell'=true:=by
 intro m r;obtain⟨i,e,rfl⟩:=Array.mem_iff_getElem.1 r;have b:i<U k:=by rw[h.1];exact e
 have g:=h.2 i (k[i]'b) (c[i]'e) (CE b) (D9 e);have s:=o _ (Md b);have:=g.cellsOk (by
  have:(k[i]'b).cells=[k[i]'b]:=by cases j:k[i]'b<;>first|rfl|grind [y.isCell]
  grind)
 refine this.2 _ ?_;have p:(c[i]'e).cells= #[c[i]'e]:=by
  cases j:c[i]'e with
  |agg a=>
   rw[j]at g;cases l:k[i]'b with
   |d n=>rw[l]at g;cases g with|d q=>cases q
   |agg _=>grind [y.isCell]|undef=>grind [y.isCell]|kw _=>grind [y.isCell]|_=>rw[l]at g;cases g
  |_=>rfl
 rw[p];simp
theorem dw{h:S}(H:HR A f w h){ρ:u}(ac:∀a1,ρ<:+a1->f a1=I){t j ty:H5}{bi p:y}{bk bl:Hk}(x:VR f w (MS A f h) bi bk)(K:VR f w (MS A f h) p bl){e:C3}(c:KE (Cd P l) h.get ρ (Cd P l t) (Cd P l j) bi p=J e):
 Ep A ρ f w h (((Builtin.append_ #[t,j] ty #[bk,bl]).run P w).andThen λo a2=>.ok (.value o) a2) e:=by
 unfold KE at c;split at c
 .rename_i c0 c4 b9 b';obtain⟨info,d,g,cn,bx,cp,_,rfl⟩:=BJ b9;obtain⟨c1,cm,c5,c2,cd,c3,_,rfl⟩:=BJ b';split at c
  .rename_i V b3 b5 a6;obtain⟨bo,rfl⟩:=DN b3;obtain⟨bs,rfl⟩:=DN b5;simp[Hh]at a6;have⟨infe,de,ze,g1,g2,g3,⟨gb,gf,gz,_⟩,hje⟩:=BJ a6;have O:V.size=infe.size:=by rw[hje]
   have L:mB P t j bo infe ze:=⟨bx,⟨bs,cd⟩,g1,g3,gb,gz⟩;unfold appendV at c;split at c
   .cases c
   ·
    rename_i az;have⟨ax,cx,hvx,arr,hfirst0,harr⟩:=Su (P:=P) H K az (size:=infe.size) AG;have s:=hfirst0 w rfl;subst hvx;have bv:=Jp harr.1.symm;subst bv;simp at s⊢;have run:∀(a:Option Addr) (n cap:Nat),n<=cap->(Builtin.append_ #[t,j] ty #[.slice a n cap,.slice ax 0 cx]).run P w=.ok (.slice a n cap) w:=by intro a n cap ag;have:=aN (w:=w) (w':=w) L (ty:=ty) (base:=a) (n:=n) (m:=0) (cap:=cap) (by simpa using ag) s (λcl _=>by simp[storeCells]) (λ_=>rfl);simpa using this
    split at c
    .cases c;cases x;rw[run I 0 0 (D4 0)];exact .plain H rfl rfl .d8
    .cases c;cases x with|emp a=>rw[run a 0 0 (D4 0)];exact .plain H rfl rfl (.emp a)
    .cases c;cases x with|ii _ _ _ cc a cap b4 Q D M=>rw[run a _ cap D];exact .plain H rfl rfl (.ii _ _ _ _ _ _ b4 Q D M)
    .cases c
   ·
    rename_i k R az;have R:k≠ []:=λm=>R m;split at c
    .rename_i a4;simp only[As,EM,beq_iff_eq]at a4;obtain⟨⟨a3,bc⟩,cu⟩:=a4;have bc:U k<=BO:=Gc bc;have F:∀m∈k,U m=infe.size:=λm h=>by rw[(a3 m h).1,O]
     have b0:∀p∈k.flatten,p.isCell=true:=by intro ch a0;have⟨m,he,a0⟩:=MT.1 a0;exact(a3 m he).2 ch a0
     have⟨ax,cx,hvx,arr,s,harr⟩:=Su (P:=P) H K az F;subst hvx;have T:arr.size=U k*infe.size:=by rw[<-harr.1,EP F]
     have be:=harr.cellsOne b0;have cs:BO=1073741824:=rfl;have cv:0<U k:=by cases k with|nil=>exact absurd rfl R|cons=>simp
     have fresh:∀(a:Option Addr),newArr h.get ρ V k=J e->Ep A ρ f w h (((Builtin.append_ #[t,j] ty #[.slice a 0 0,.slice ax (U k) cx]).run P w).andThen λo a2=>.ok (.value o) a2) e:=by
      intro a b6;have b8:(Builtin.firstCells infe.size 0 (.slice a 0 0)).run P w.drew=.ok #[] w.drew:=by cases a<;>simp[Builtin.firstCells,loadCells,loadCellsFrom]
      have⟨cap',hcap,hrun⟩:=VW (w:=w) L (ty:=ty) (base:=a) (n:=0) (m:=U k) (cap:=0) z z b8 (s w.drew rfl);rw[hrun];simp only[I9]at hcap⊢;refine Uw H (w₁:=w.drew) rfl ⟨rfl,rfl⟩ ac (cap:=cap') ?_ hcap ?_ b6
      .simp[Builtin.zeroCells,gz,T,O,<-Ls];congr 1;omega
      .intro i p o K B;have cq:i<U k*infe.size:=by rw[<-EP F];exact(BE.1 K).1
       rw[Array.empty_append,Lm z]at B;exact harr.2 i p o K B
     unfold appTo at c;split at c
     .cases x;exact fresh I c
     .cases x with|emp a=>exact fresh a c
     .rename_i a1 b n;cases x with
      |ii _ _ _ cc a cap a' Q D M=>
       split at c
       .rename_i C es ad;split at c
        .rename_i r;simp only[As]at r;have ar:C=infe.size:=by rw[D5 r.1,O]
         have ai:b+n<=(U es):=Gc r.2;subst ar;unfold appIn at c;split at c
         .rename_i ds N b7;have bh:∀W∈k.flatMap (Ca h.get),∃C es,W.2=.rt C es/\h.get W.1=J (.f9 C es):=by intro W v;have⟨m,_,v⟩:=BI.1 v;exact Lv v
          have aa:=SB bh;have b2:=Mu (vs:=k.flatten) bh (λW v=>by have⟨o,B,v⟩:=BI.1 v;have⟨m,he,B⟩:=MT.1 B;exact BI.2 ⟨m,he,BI.2 ⟨o,B,v⟩⟩) (Fy N)
          have a5:=(Lo N).1;have b1:=kj H aa.sub harr (Fy N) b2;rw[<-a5];rw[<-a5]at s T;refine VV (qU.dat A) (aa.hr H) aa.sub rfl ac L (es:=es) (ds:=ds) (by rw[Ql (Yn b7)];exact ad) a' Q D M ai (N8 N F) (λm=>by grind) s T be (λV p o a bn=>b1.2 V p o a bn) ?_;split at c
          .rename_i Y av;cases c;exact .inl ⟨Y,av,rfl⟩
          .split at c
           .rename_i q;simp only[As]at q;cases c;have ag:n+U ds<=BO:=Gc q.2;exact .inr ⟨D5 q.1,z,rfl⟩
           .cases c
         .cases c
        .cases c
       .rename_i C es ad;split at c
        .rename_i r;simp only[As]at r;have ar:C=infe.size:=by rw[D5 r.1,O]
         have ai:b+n<=(U es):=Gc r.2;subst ar;unfold appMix at c;refine VV (qU.mixed A) H (.refl h) (δ₁:=[]) rfl ac L (es:=es) (ds:=k) ad a' Q D M ai F R s T be harr.2 ?_;split at c
         .rename_i Y av;cases c;exact .inl ⟨Y,av,rfl⟩
         .split at c
          .rename_i q;simp only[As]at q;cases c;have ag:n+U k<=BO:=Gc q.2;exact .inr ⟨D5 q.1,z,rfl⟩
          .cases c
        .cases c
       .cases c
     .cases c
    .cases c
  .cases c
 .cases c
variable{A:Nat->Prop}{P:JH}{l:List H5}{j:BB}{w:G5}{M:Nat->Prop}
variable{f:Hk}
theorem eY(H:HR A j w h){n:Nat}{s:y}(q:VR j w (MS A j h) s f)(m:IE n s (Cd P l t)=J e):Ep A ρ j w h ((do pure (.value (<-Instr.fieldAt t f n)):OI Next).run P w) e:=by
 rcases ht:Cd P l t with _|i
 .grind [IE]
 .obtain⟨info,d,g,V,M,W,⟨_,C,_⟩,rfl⟩:=BJ ht;simp[IE,ht]at m;cases d with
  |struct B=>
   simp only[Pk,BY]at m;rcases hf:B.toList[n]? with _|p
   .simp[hf]at m
   .simp[hf]at m;simp only[NI,EM,As,ON]at C;have⟨⟨fi,hfi⟩,_⟩:=C p (AP hf);simp[hfi]at m;have N:B[n]?=J p:=by simpa using hf
    split at m
    .cases m
    .rename_i O;have Q:fi.size≠0:=λD=>O D;have run:∀a:Addr,(Instr.fieldAt t (.pointer (J a)) n).run P w=.ok (.pointer (J (a.add p.offset))) w:=by intro a;simp[Instr.fieldAt,run_underlying M,N,Instr.sureAddr,fieldPlace,CG hfi,Q]
     split at m
     .cases m;cases q with|ptr _ _ o r=>exact .plain H (v:=.pointer (J ⟨o.b,_,I⟩)) (by simp[run,FH]) rfl (.ptr _ _ o r)
     .cases m;cases q with|rg _ _ _ o r=>exact .plain H (v:=.pointer (J ⟨o.b,_,I⟩)) (by simp[run,FH,Rt]) rfl (.rg _ _ _ o r)
     .split at m
      .rename_i k Y;cases m;cases q with|iptr _ x b c elem F K L R T=>refine .plain H (v:=.pointer (J ⟨x,b+p.offset,I⟩)) (by simp[run,FH]) rfl (.iptr _ x _ c elem F K L BL λi s v q aa=>?_);grind
      .cases m
     .cases m
  |_=>simp[Pk]at m
def AKG{info:TypeInfo}(r:P.info? t=J info)(m:P.underlying t=J d){o:List y}(f:HQ j w M k c)(v:Kd k b info.size=J o){p:y} (a:GY (PN d) o=J p):∃h,(part t c b).run P w=.ok h w/\VR j w M p h:=by
 have⟨s1,s2,s3⟩:=KK v;unfold GY at a;split at a
 .rename_i l;cases a;refine⟨.agg (c.extract b (b+info.size)),?_,.agg _ _ (by rw[s2];simp;rw[<-f.1];omega) λi q h e g=>?_⟩
  .simp[part,LK m,l,CG r]
  .have s:i<info.size:=by rw[<-s2];exact(BE.1 e).1
   rw[s3 i s]at e;rw[Array.getElem?_extract]at g;split at g
   .exact f.2 _ q h e g
   .cases g
 .rename_i l;split at a
  .rename_i q;cases a;simp only[II,MD]at s2;have n:b<c.size:=by rw[<-f.1];omega
   have e:=s3 0 z;simp at e;refine⟨c[b],?_,f.2 b _ _ e.symm (by simp[n])⟩;simp[part,LK m,l,n]
  .cases a
def AEN(H:HR A j w h){b:Nat}{m:y}(B:VR j w (MS A j h) m f)(a:Qz b m (Cd P l t)=J e):Ep A ρ j w h ((do pure (.value (<-Instr.field t f b)):OI Next).run P w) e:=by
 rcases ht:Cd P l t with _|i
 .simp[Qz,ht]at a
 .obtain⟨info,d,g,F,q,K,⟨_,p,_⟩,rfl⟩:=BJ ht;simp only[Qz,ht]at a;cases d with
  |struct o=>
   simp only[Pk,BY]at a;rcases hf:o.toList[b]? with _|n
   .simp[hf]at a
   .simp only[hf,Gt]at a;simp only[NI,EM,As,ON]at p;have⟨⟨fi,hfi⟩,fd,hu⟩:=p n (AP hf);have r:o[b]?=J n:=by simpa using hf
    cases m with
    |agg k=>simp only[hfi,Gt,F9]at a;cases B with|agg _ c C D=>simp only[hu,Gt,F9,Be,He]at a;obtain⟨M,⟨L,s,x⟩,rfl⟩:=a;have⟨v,hv,hr'⟩:=AKG hfi hu (c:=c) ⟨C,D⟩ s x;exact .plain H (v:=v) (by simp[Instr.field,run_underlying q,r,asAgg,hv]) rfl hr'
    |_=>simp at a
  |_=>simp[Pk]at a
def G8{k:IntKind}{n:Int}{v:Hk}(h:VR j w M (.d (.int k n)) v):v=.int k n:=by cases h with|d h=>cases h;rfl
def J5{b:Bool}{v:Hk}(h:VR j w M (.d (.bool b)) v):v=.bool b:=by cases h with|d h=>cases h;rfl
def LD{b:ByteArray}{v:Hk}(h:VR j w M (.d (.str b)) v):v=.string b:=by cases h with|d h=>cases h;rfl
theorem ez{h:S}(H:HR A j w h){ρ:u}{t:H5}{L i:y}{f ar:Hk}(s:VR j w (MS A j h) L f)(ai:VR j w (MS A j h) i ar){e:C3}(k:FL (Cd P l) h.get L i (Cd P l t)=J e):Ep A ρ j w h ((do pure (.value (<-Instr.indexAt t f ar)):OI Next).run P w) e:=by
 rcases ht:Cd P l t with _|bo
 .simp[FL,ht]at k
 .obtain⟨info,d,g,O,ac,be,_,rfl⟩:=BJ ht;simp[FL,ht]at k;split at k
  .rename_i W n V R r;obtain⟨az,rfl⟩:=DN R;simp[Hh]at r;have⟨info',d',z',g1,g2,g3,_,hje⟩:=BJ r;have Q:V.size=info'.size:=by rw[hje]
   have:=G8 ai;subst this;unfold RV at k;split at k
   .rename_i T;obtain⟨n,rfl⟩:=MK T;simp at k;have run:∀(a:Addr) (len cap:Nat),n<len->(Instr.indexAt t (.slice (J a) len cap) (.int W n)).run P w=.ok (.pointer (J (a.add (n*info'.size)))) w:=by
     intro a len cap p;have O:(n:Int)<(len:Int):=by exact_mod_cast p
     simp[Instr.indexAt,asIntOf,run_underlying ac,p,CG g1]
    split at k
    .rename_i N;split at k
     .rename_i c ad;split at k
      .rename_i a2;cases k;have ag:U c=info'.size:=by rw[D5 a2,Q]
       have p:=(BE.1 ad).1;cases s with
       |d a3=>
        cases a3 with
        |lst0 a cap=>simp at p
        |co _ Y b cap K av elem aa D F a6 bl a' bn=>
         have a4:K=info'.size:=by rw[<-ag,a6 c (AP ad)]
         subst a4;refine .plain H (v:=.pointer (J ⟨Y,b+n*info'.size,I⟩)) (by simp[run _ _ _ p,FH]) rfl (.iptr c Y _ av elem aa D F ?_ λi L v s a5=>?_)
         .have:=HM info'.size p;grind
         .have bi:i<info'.size:=by rw[<-ag];exact(BE.1 s).1
          refine a' (n*info'.size+i) L v ?_ (by rw[<-a5];congr 1;omega);grind [J9]
      .cases k
     .cases k
    .rename_i C b len;split at k
     .rename_i p;cases s with
      |ii _ _ _ o a cap B bh bk a0=>
       have a1:=a0.resolve_right z;subst a1;have bc:o.sz=info'.size->e=⟨.rg C (b+n) 0,[]⟩->Ep A ρ j w h ((do pure (.value (<-Instr.indexAt t (.slice (J ⟨o.b,b*o.sz,I⟩) len cap) (.int W n))):OI Next).run P w) e:=by rintro M rfl;refine .plain H (v:=.pointer (J ⟨o.b,(b+n)*o.sz+0,I⟩)) (by simp[run _ _ _ p,FH,<-M,Ls]) rfl (.rg _ _ _ o B)
       split at k
       .rename_i K N q;have⟨k',x,c,elem,D,F,_⟩:=H.obj C _ q;grind
       .rename_i K N q;split at k
        .rename_i M;cases k;have⟨k',x,ho'⟩:=H.obj C _ q;rw[B]at x;cases x;rcases ho' with rfl|⟨_,c,elem,aa,D,F,_⟩
         .simp at M
         grind
        .cases k
       .rename_i K N q;have⟨k',x,c,elem,D,F,_⟩:=H.obj C _ q;grind
       .cases k
     .cases k
    .cases k
   .cases k
  .rename_i W n m V R r;obtain⟨az,rfl⟩:=AFU R;simp[Hh]at r;have⟨info',d',z',g1,g2,g3,_,hje⟩:=BJ r;have Q:V.size=info'.size:=by rw[hje]
   have:=G8 ai;subst this;unfold v8 at k;split at k
   .split at k
    .rename_i T;cases k;cases s with|ptr _ _ o B=>have O:n<(m:Int):=z;exact .plain H (v:=.pointer (J ⟨o.b,_,I⟩)) (by simp[Instr.indexAt,asIntOf,run_underlying ac,T.1,O,Instr.sureAddr,CG g1,FH,Q]) rfl (.ptr _ _ o B)
    .cases k
   .cases k
  .cases k
variable{A:Nat->Prop}{P:JH}{k:List H5}{j:BB}{w:G5}{M:Nat->Prop}
inductive yH(β:BB)(w:G5)(M:Nat->Prop):Option y->Option Hk->Prop
 |none:yH β w M I I
 |some {x v}:VR β w M x v->yH β w M (J x) (J v)
def yH.map{c:Nat->y}{a:Act}(e:MI j w M c λt=>a.tmps.getD t Go.undef)(b:Option M3):yH j w M (b.map (ev c)) (b.map a.eval):=by
 rcases b with _|b
 .exact .none
 .exact .some (Ki e b)
theorem Qn{a:y}{e:Hk}{n:Int}(h:VR j w M a e)(b:Kb a=J n):∃c,e=.int c n:=by
 cases a with
 |d a=>cases a with|int c m=>simp[Kb]at b;subst b;exact⟨c,G8 h⟩|_=>simp[Kb]at b
 |_=>simp[Kb]at b
theorem JT{k:IntKind}{B0:Nat}(h:n<=B0)(code:BoundsCode):(Instr.sliceBound (.int k n) B0 code).run P w=.ok n w:=by simp[Instr.sliceBound,asIntOf,h]
theorem XT{x s A:Option y}{p B C:Option Hk}(H:yH j w M x p)(r:yH j w M s B)(t:yH j w M A C){len cap:Nat}{isSlice:Bool}{b g:Nat}{f:Option Nat}(a:Fu x s A len=J (b,g,f)) (D:f=I->g<=cap) (F:∀m,f=J m->m<=cap):
 (Instr.sliceBounds isSlice len cap p B C).run P w=.ok (b,g,f.getD cap) w/\b<=g/\∀m,f=J m->g<=m:=by
 unfold Fu at a;split at a
 .rename_i o ad W e;have low:∀q (code:BoundsCode) (K:Nat->OI (Nat×Nat×Nat)),0<=o->o.toNat<=q->
   (match p with|some v=>(do let b<-Instr.sliceBound v q code;K b)|none=>(do let b<-pure 0;K b)).run P w=(K o.toNat).run P w:=by
   intro q code K T Y;rcases H with _|k
   .grind [Jg]
   .grind [Jg,Qn,Sem.run_bind,JT,Result.andThen_ok]
  split at a
  .split at a
   .rename_i c;simp at a;obtain⟨rfl,rfl,rfl⟩:=a;have i:=Nl c.1 c.2;refine⟨?_,z,AG⟩;cases t;have l:=D rfl;rcases r with _|k
    .simp[Jg]at e;subst e;simp only[F2]at*;simp only[Instr.sliceBounds,Sem.run_bind,Sem.run_pure,Result.andThen_ok];exact low len _ (λb=>pure (b,len,cap)) c.1 z
    .simp[Jg]at e;obtain⟨R,rfl⟩:=Qn k e;obtain⟨n,rfl⟩:=MK i;simp only[F2]at*;simp only[Instr.sliceBounds,Sem.run_bind,Sem.run_pure,Result.andThen_ok,JT l];exact low n _ (λb=>pure (b,n,cap)) c.1 z
   .cases a
  .split at a
   .rename_i V m L;split at a
    .rename_i c;simp at a;obtain⟨rfl,rfl,rfl⟩:=a;have i:=Nl c.1 c.2.1;have N:=Nl i c.2.2;refine⟨?_,z,by intro ac h;cases h;omega⟩;have l:=F _ rfl;cases t with
     |some Q=>cases r with|some k=>simp[Jg]at e;obtain⟨R,rfl⟩:=Qn k e;obtain⟨aa,rfl⟩:=Qn Q L;obtain⟨n,rfl⟩:=MK i;obtain⟨m,rfl⟩:=MK N;simp only[F2]at*;have O:n<=m:=z;simp only[Instr.sliceBounds,Sem.run_bind,Result.andThen_ok,JT l,JT O];exact low n _ (λb=>pure (b,n,m)) c.1 z
    .cases a
   .cases a
 .cases a
theorem V8(g:P.underlying t=J d)(h:∀n f,d≠ .array n f){e:Hk}{b a c:Option Hk}:
 (Instr.sliceAt t e b a c).run P w=(Instr.slice t e b a c).run P w:=by
 cases d<;>simp_all [Instr.sliceAt,run_underlying g]
theorem pY{h:S}(H:HR A j w h){ρ:u}{t:H5}{bc:y}{f:Hk}(V:VR j w (MS A j h) bc f){a6 a4 a':Option y}{ad ac ag:Option Hk}(bs:yH j w (MS A j h) a6 ad)(bl:yH j w (MS A j h) a4 ac) (a5:yH j w (MS A j h) a' ag) {e:C3}(x:K6 (Cd P k) h.get bc a6 a4 a' (Cd P k t)=J e):Ep A ρ j w h ((do pure (.value (<-Instr.sliceAt t f ad ac ag)):OI Next).run P w) e:=by
 rcases ht:Cd P k t with _|c8
 .simp[K6,ht]at x
 .obtain⟨info,d,g,bi,M,cq,_,rfl⟩:=BJ ht;simp[K6,ht]at x
  suffices bx:∃r,e=⟨r,[]⟩/\∃v,(Instr.sliceAt t f ad ac ag).run P w=.ok v w/\VR j w (MS A j h) r v by obtain⟨r,rfl,v,bi,M⟩:=bx;exact .plain H (v:=v) (by simp[bi]) rfl M
  split at x
  .rename_i b0 O bn;obtain⟨cm,rfl⟩:=DN O;rw[V8 M AG];simp[Hh]at bn;have⟨info',d',z',g1,g2,g3,_,hje⟩:=BJ bn;have c2:b0.size=info'.size:=by rw[hje]
   simp at x;obtain⟨r,l,rfl⟩:=x;refine⟨r,rfl,?_⟩;have run:∀{a:Option Addr} {len cap o r:Nat} {L:Option Nat},Fu a6 a4 a' len=J (o,r,L)->(L=I->r<=cap)->(∀m,L=J m->m<=cap)->
    (Instr.slice t (.slice a len cap) ad ac ag).run P w=.ok (.slice (if L.getD cap=o then a else a.map (·.add (o*info'.size))) (r-o) (L.getD cap-o)) w/\o<=r/\∀m,L=J m->r<=m:=by
    intro a len cap o r L p b6 b7;have⟨b1,b2⟩:=XT (P:=P) (w:=w) (isSlice:=X) bs bl a5 p b6 b7;refine⟨?_,b2⟩;simp[Instr.slice,run_underlying M,b1,CG g1]
   unfold GR at l;split at l
   .rename_i s _;unfold ZJ at l;split at l
    .rename_i o q m p;split at l
     .rename_i C;simp only[As]at C;have av:q<=(U s):=Gc C.1;cases V with
      |d ai=>
       have bk:∃a cap,f=.slice a (U s) cap/\(U s)<=cap:=by cases ai with|lst0 a cap=>exact⟨a,cap,rfl,AG⟩|co _ be b cap b3 c elem a2 W Y Q a0 a1 aa=>exact⟨_,cap,rfl,aa⟩
       obtain⟨a,cap,rfl,bk⟩:=bk;split at l
       .cases l;have⟨e1,e2,_⟩:=run (a:=a) (cap:=cap) p (λ_=>z) AG;refine⟨_,e1,.d ?_⟩;simp;have bo:((s.drop o).take (q-o)).length=q-o:=BL;by_cases cd:q-o=0
        .rw[cd,Lw];exact .lst0 _ _
        .cases ai with
         |lst0 a cap=>simp at av;omega
         |co _ be b _ b3 c elem a2 W Y Q a0 a1 aa=>
          have b8:s≠ []:=λbh=>by grind
          have cc:b3=info'.size:=by obtain⟨bh,cn,rfl⟩:=RW b8;have:=Q bh AG;have cs:=D5 (by simpa[Qh]using C.2);omega
          subst cc;have c5:¬cap=o:=z;have b':Kd s o (q-o)=J ((s.drop o).take (q-o)):=by unfold Kd;rw[D3 z]
          have⟨f1,f2⟩:=X4 Q b';have c1:=DR.co (w:=w) (M:=MS A j h) ((s.drop o).take (q-o)) be (b+o*info'.size) (cap-o) info'.size c elem a2 W Y f1 (by
           have cu:=HM info'.size av;rw[bo];have cv:o*info'.size+(q-o)*info'.size=q*info'.size:=by rw[<-Ls];congr 1;omega
           omega) (λi bc v V c6=>by
           grind [EP]) (by rw[bo];omega)
          grind [FH]
       .rename_i K;split at l
        .rename_i a3;cases l;have D:=D5 a3;subst D;have c4:K<=q:=by
          unfold Fu at p;split at p
          .split at p
           .split at p<;>cases p
           .split at p
            .grind
            .cases p
          .cases p
         have⟨e1,e2,e3⟩:=run (a:=a) (cap:=cap) p AG (λm D=>by cases D;omega);have:=e3 K rfl;refine⟨_,e1,?_⟩;have:q-K=0:=z;simp only[F9,IT,this];exact .emp _
        .cases l
     .cases l
    .cases l
   .rename_i az b n _;cases V with
    |ii _ _ _ F a cap O bv c3 c0=>
     unfold Oh at l;split at l
     .rename_i o q m p;have cp:∀(B N:Nat),B=F.sz->0<F.sz->N*F.sz<=F.n->ee b0.size az b o q m B N=J r->∃v,(Instr.slice t (.slice a n cap) ad ac ag).run P w=.ok v w/\VR j w (MS A j h) r v:=by
       intro B N bx b9 b5 l;unfold ee at l;split at l
       .rename_i C;simp only[As]at C;have ch:=D5 C.1.1.1;have b4:b+m.getD q<=N:=Gc C.1.1.2;have cl:b+q<=N:=Gc C.1.2;have cx:N<=b+cap:=by
         have:N*F.sz<=(b+cap)*F.sz:=by rw[Ls,bv];exact b5
         exact Nat.le_of_mul_le_mul_right this b9
        have⟨e1,e2,e3⟩:=run (a:=a) (cap:=cap) p (λ_=>z) (λK D=>by subst D;simp at b4;omega);refine⟨_,e1,?_⟩;rcases m with _|K
        .simp at l;subst l;simp;refine .ii _ _ _ F _ _ O ?_ z ?_
         .rw[<-Ls,<-bv,<-Ls];congr 1;omega
         grind [FH]
        .simp only at l;split at l
         .rename_i a3;cases l;have D:=D5 a3;subst D;have:=e3 K rfl;have:q-K=0:=z;simp only[F9,IT,this];exact .emp _
         .cases l;exact .undef _
       .cases l
      split at l
      .rename_i B s R;have⟨k',ar,c,elem,W,Y,Q,a0,a1,aa,_⟩:=H.obj az _ R;grind
      .rename_i B s R;have⟨k',ar,x⟩:=H.obj az _ R;rw[O]at ar;cases ar;rcases x with rfl|⟨_,c,elem,a2,W,Y,Q,a0,a1,aa,_⟩
       .unfold ee at l;rw[MD,show Nat.blt 0 0=Z from rfl,I5]at l;cases l
       grind
      .rename_i B s R;have⟨k',ar,c,elem,W,Y,Q,a0,a1,aa,_⟩:=H.obj az _ R;grind
      .cases l
     .cases l
   .cases V;unfold pX at l;split at l
    .rename_i p;cases l;have⟨e1,_⟩:=run (a:=I) (cap:=0) p AG AG;refine⟨_,e1,?_⟩;simp;exact .d8
    .rename_i p;cases l;have⟨e1,_⟩:=run (a:=I) (cap:=0) p AG AG;refine⟨_,e1,?_⟩;simp;exact .emp _
    .cases l
   .grind
   .cases l
  .rename_i O;have ai:=Pw O;subst ai;rw[V8 M AG];simp at x;obtain⟨r,l,rfl⟩:=x;refine⟨r,rfl,?_⟩;unfold GR at l;split at l
   .rename_i T;cases T
   .rename_i T;cases T
   .rename_i T;cases T
   .rename_i B _;unfold zd at l;split at l
    .rename_i o q p;split at l
     .rename_i av;cases l;have:=LD V;subst this;have⟨b1,b2,_⟩:=XT (P:=P) (w:=w) (isSlice:=Z) (cap:=B.size) bs bl a5 p (λ_=>av) AG;rcases a5 with _|c7
      .refine⟨.string (B.extract o q),?_,.d (.str _)⟩;simp[Instr.slice,run_underlying M,b1]
      .grind [Fu]
     .cases l
    .cases l
   .cases l
  .cases x
variable{A:Nat->Prop}{P:JH}{j:List H5}{β:BB}{w:G5}{M:Nat->Prop}
def AMm{h:S}(H:HR A β w h){ρ:u}{op:UnOp}{b:y}{f:Hk}(c:VR β w (MS A β h) b f){e:C3}(a:hD op b=J e):
 Ep A ρ β w h ((do pure (.value (<-Op.unary op f)):OI Next).run P w) e:=by
 unfold hD at a;split at a
 .unfold xO at a;split at a
  .cases a;have:=J5 c;subst this;exact .plain H (v:=.bool (!_)) (by simp[Op.unary]) rfl (.d (.bool _))
  .cases a
 .cases a
def AKH{h:S}(H:HR A β w h){ρ:u}{c a i:y}{j f g:Hk}(m:VR β w (MS A β h) c j)(k:VR β w (MS A β h) a f)(l:VR β w (MS A β h) i g){e:C3}(b:Ys c a i=J e):
 Ep A ρ β w h ((do pure (.value (if<-asBool j then f else g)):OI Next).run P w) e:=by
 unfold Ys at b;split at b
 .rename_i t;cases b;have:=J5 m;subst this;cases t
  .exact .plain H (v:=g) (by simp[asBool]) rfl l
  .exact .plain H (v:=f) (by simp[asBool]) rfl k
 .cases b
def rm(H:HR A β w h){b:Nat}{j:y}(m:VR β w (MS A β h) j f)(a:NY b j=J e):
 Ep A ρ β w h ((do pure (.value (<-Instr.extract f b)):OI Next).run P w) e:=by
 unfold NY at a;split at a
 .rename_i n;simp only[Be]at a;obtain⟨v,i,rfl⟩:=a;cases m with
  |kw _ c k l=>
   have g:b<c.size:=by rw[<-k];exact(BE.1 i).1
   exact .plain H (v:=c[b]) (by simp[Instr.extract,g]) rfl (l b v _ i zDF)
 .cases a
def AFE(H:HR A β w h){b:y}(l:VR β w (MS A β h) b f)(a:Q0 t b (Cd P j t)=J e):
 Ep A ρ β w h ((do pure (.value (<-Instr.makeInterface t f)):OI Next).run P w) e:=by
 rcases ht:Cd P j t with _|i
 .simp[Q0,ht]at a
 .obtain⟨info,d,g,m,c,n,_,rfl⟩:=BJ ht;simp only[Q0,ht]at a;split at a
  .cases a
  .rename_i k;cases a;refine .plain H (v:=.iface t f) ?_ rfl (.iface _ _ _ l);cases d<;>first|(simp[Instr.makeInterface,run_underlying c];done)|(exact absurd rfl k)
theorem qG{g:Hk}{b:Bool}(f:YL g=b){e:y}(a:GY b (g.cells.toList.map EW)=J e):VR β w M e g:=by subst f;cases g with|agg c=>simp only[YL,GY,IP,F4]at a;subst a;refine .agg _ _ (by simp[Value.cells]) λi l k j h=>?_;grind [Value.cells,J7]|_=>simp[YL,GY,Value.cells]at a;subst a;exact J7
theorem yX{h:S}(H:HR A β w h){ρ:u}{C t:H5}{k:y}{f:Hk}(a:VR β w (MS A β h) k f){e:C3}(b:Lz t k (Cd P j t)=J e):
 Ep A ρ β w h ((do pure (.value (<-Instr.typeAssert f C t X)):OI Next).run P w) e:=by
 rcases ht:Cd P j t with _|i
 .grind [Lz]
 .obtain⟨info,d,g,p,m,q,⟨_,_,L,x⟩,rfl⟩:=BJ ht;cases k with
  |iface N v=>
   simp only[Lz,ht]at b;split at b
   .cases b
   .rename_i D;cases a with
    |iface _ _ B F=>
     have n:∀o,d≠ .interface o:=λo l=>by grind [DA]
     split at b
     .rename_i l;subst l;cases b;refine .plain H (v:=.tuple #[B,.bool X]) ?_ rfl (.kw _ _ rfl λi k v a c=>?_)
      .cases d<;>first|(simp[Instr.typeAssert,run_underlying m];done)|(exact absurd rfl (n _))
      .match i with|0=>grind|1=>simp at a c;subst a c;exact .d (.bool _)|i+2=>simp at a
     .rename_i r;simp only[Be]at b;obtain⟨M,s,rfl⟩:=b;have K:=qG (β:=β) (w:=w) (M:=MS A β h) x s;refine .plain H (v:=.tuple #[g,.bool Z]) ?_ rfl (.kw _ _ rfl λi k v a c=>?_)
      .cases d<;>first|(simp[Instr.typeAssert,run_underlying m,r,Ej p q];done)|(exact absurd rfl (n _))
      .match i with|0=>grind|1=>simp at a c;subst a c;exact .d (.bool _)|i+2=>simp at a
  |_=>simp[Lz]at b
def mZ{h:S}(H:HR A β w h){ρ:u}{j:Fn}{first cap:Array M3}{b:Nat->y}{a:Act}(n:MI β w (MS A β h) b λt=>a.tmps.getD t Go.undef){e:C3}(c:L1 j (first.toList.map (ev b)) (cap.toList.map (ev b))=J e):
 Ep A ρ β w h ((do pure (.value (<-Instr.makeFunc j (first.map a.eval) (cap.map a.eval))):OI Next).run P w) e:=by
 have k:∀(f:Array M3) (i:Nat) (g:y) (v:Hk),(f.toList.map (ev b))[i]?=J g->(f.map a.eval)[i]?=J v->VR β w (MS A β h) g v:=by intro f i g v m l;simp only[BY,RC,Be]at m;obtain⟨p,o,rfl⟩:=m;simp only[Array.getElem?_map,o,Gt,F4]at l;subst l;exact Ki n p
 unfold L1 at c;split at c
 .cases c;exact .plain H (v:=.func (.func _) (first.map a.eval) (cap.map a.eval)) (by simp[Instr.makeFunc]) rfl (.fn _ _ _ _ _ AG AG (k first) (k cap))
 .cases c
def nP(H:HR A β w h){g:y}(b:VR β w (MS A β h) g f)(c:L3 g=J e):
 (∃a,f=.pointer (J a))/\Ep A ρ β w h (.ok (.value f) w) e:=by
 unfold L3 at c;split at c<;>cases c
 .exact zBf
 .exact zBf
 .exact zBf
def AMa{h:S}(H:HR A β w h){ρ:u}{t ty:H5}{r:y}{f:Hk}(l:VR β w (MS A β h) r f){n:Nat}{i:TI}(B:Cd P j t=J i)(c:JY h.get i.kind r=J n):
 Ep A ρ β w h (((Builtin.len_ #[t] ty #[f]).run P w).andThen λv D=>.ok (.value v) D) ⟨.d (.int .i64 n),[]⟩:=by
 obtain⟨info,d,g,F,e,K,_,rfl⟩:=BJ B;refine .plain H (v:=.int .i64 n) ?_ rfl (.d (.int _ _));unfold JY at c;split at c
 .rename_i s a;obtain⟨o,rfl⟩:=DN a;cases c;cases l with|d hd=>cases hd<;>simp[Builtin.len_,run_underlying e,goInt]
 .rename_i N a;have:=Pw a;subst this;cases c;have:=LD l;subst this;simp[Builtin.len_,run_underlying e,goInt]
 .rename_i a;exact zA3
 .rename_i a;exact zA3
 .rename_i q b m a;exact zA3
 .rename_i q a;obtain⟨M,o,rfl⟩:=YQ a;split at c
  .rename_i s x;cases c;have⟨k,hk',en,cl,q1,q0⟩:=H.obj q _ x;have C:=q0.len;cases l with|mp _ L p=>rw[hk']at p;cases p;simp[Builtin.len_,run_underlying e,goInt,getObj,Sem.run,q1,C]
  .cases c
 .cases c
def AMd{h:S}(H:HR A β w h){ρ:u}{ts:Array H5}{ty:H5}{c g:y}{f b:Hk}(i:VR β w (MS A β h) c f)(j:VR β w (MS A β h) g b){e:C3}(a:ny c g=J e):
 Ep A ρ β w h (((Builtin.max_ ts ty #[f,b]).run P w).andThen λv k=>.ok (.value v) k) e:=by
 unfold ny at a;split at a
 .split at a
  .rename_i l;cases a;have:=G8 i;have:=G8 j;subst f b;exact .plain H (v:=.int _ _) (by simp[Builtin.max_,Builtin.max2]) rfl (.d (.int _ _))
  .cases a
 .cases a
def AMg{h:S}(H:HR A β w h){ρ:u}{ts:Array H5}{ty:H5}{c g:y}{f b:Hk}(i:VR β w (MS A β h) c f)(j:VR β w (MS A β h) g b){e:C3}(a:nz c g=J e):
 Ep A ρ β w h (((Builtin.min_ ts ty #[f,b]).run P w).andThen λv k=>.ok (.value v) k) e:=by
 unfold nz at a;split at a
 .split at a
  .rename_i l;cases a;have:=G8 i;have:=G8 j;subst f b;exact .plain H (v:=.int _ _) (by simp[Builtin.min_,Builtin.min2]) rfl (.d (.int _ _))
  .cases a
 .cases a
variable{A:Nat->Prop}{P:JH}{k:List H5}{j:BB}{w:G5}{M:Nat->Prop}
def AFJ{h:S}(H:HR A j w h){ρ:u}{t:H5}{v i:y}{f l:Hk}(F:VR j w (MS A j h) v f)(C:VR j w (MS A j h) i l){e:C3}(a:Q1 v i (Cd P k t)=J e):
 Ep A ρ j w h ((do pure (.value (<-Instr.index t f l)):OI Next).run P w) e:=by
 rcases ht:Cd P k t with _|M
 .simp[Q1,ht]at a
 .obtain⟨info,d,g,K,x,o,_,rfl⟩:=BJ ht;simp only[Q1,ht,Gt]at a;split at a
  .rename_i b L n r;simp only[F4]at r;have:=Pw r;subst this;have:=LD F;have:=G8 C;subst f l;split at a
   .rename_i D;obtain⟨n,rfl⟩:=MK D;simp only[F2,Be]at a;obtain⟨m,p,rfl⟩:=a;have B:b[n]?=J m:=by
     have c:n<U b.data.toList:=(BE.1 p).1;have s:n<b.size:=zC4
     have q:=p;rw[CE c]at q;rw[getElem?_pos b n s];have o:b[n]'s=b.data[n]' zC4:=rfl;rw[o];simpa using q
    refine .plain H (v:=.int .u8 m.toNat) ?_ rfl (.d (.int _ _));simp[Instr.index,asIntOf,run_underlying x,B]
   .cases a
  .cases a
def tB{h:S}(H:HR A j w h){ρ:u}(i:∀f,ρ<:+f->j f=I){t:H5}{c:Option M3}{a:Act}{e:C3}(b:LO ρ c=J e):
 Ep A ρ j w h ((do pure (.value (<-Instr.makeMap t (c.map a.eval))):OI Next).run P w) e:=by
 rcases c with _|_
 .simp only[LO,F4]at b;subst b;have k:((do pure (.value (<-Instr.makeMap t ((none:Option M3).map a.eval))):OI Next).run P w)=.ok (.value (.map (J w.heap.size))) (World.add w (.map #[] 0)):=by simp[Instr.makeMap,World.add]
  rw[k];refine Yj H (.refl h) rfl ⟨rfl,rfl⟩ i 1 (k:=⟨w.heap.size,0,0⟩) rfl rfl ?_ ?_
  .intro g _ _ _;exact⟨#[],0,MN w _,AFj ..⟩
  .intro g;exact .mp _ _ (Ha _ _ _)
 .simp[LO]at b
theorem ADt{h:S}(H:HR A j w h){ρ:u}{t ty:H5}{s:y}{f:Hk}(p:VR j w (MS A j h) s f){e:C3}(o:Me (Cd P k) h.get (Cd P k t) s=J e):
 Ep A ρ j w h (((Builtin.clear_ #[t] ty #[f]).run P w).andThen λq D=>.ok (.value q) D) e:=by
 rcases ht:Cd P k t with _|cd
 .simp[Me,ht]at o
 .obtain⟨info,d,g,b0,aa,b1,_,rfl⟩:=BJ ht;simp only[Me,ht]at o;have nothing:∀a cap,(Builtin.clear_ #[t] ty #[.slice a 0 cap]).run P w=.ok (.tuple #[]) w:=by intro a cap;cases a<;>simp[Builtin.clear_,run_underlying aa]
  split at o
  .rename_i a1 b n R;obtain⟨bv,rfl⟩:=DN R;cases p with
   |ii _ _ _ l a cap L b7 b5 a5=>
    split at o
    .cases o;rw[nothing];exact .plain H rfl rfl (.undef _)
    .rename_i b' T;have T:n≠0:=λF=>T F;split at o
     .rename_i C ac;simp only[Hh]at ac;have⟨info',d',z',g1,g2,g3,⟨_,_,hzs,_⟩,hje⟩:=BJ ac;unfold Qe at o;split at o
      .rename_i cc bx O;split at o
       .rename_i a2 az;split at o
        .rename_i a';obtain⟨bl,bn,a3,bo⟩:=a';simp only[Be]at o;obtain⟨a4,ai,rfl⟩:=o;have⟨k',ad,c,elem,q1,q2,q3,q4,q5,q6,q7⟩:=H.obj a1 _ O;rw[L]at ad;cases ad;subst q2;have a6:a=J ⟨l.b,b*l.sz,I⟩:=a5.resolve_right z;subst a6;have Q:C.zero=z'.cells.toList.map EW:=by rw[hje]
         have b4:C.size=info'.size:=by rw[hje]
         have a0:z'.cells.size=l.sz:=by have:=(Fx az).1;rw[Q]at this;simp at this;omega
         have bk:HQ j w (MS A j h) C.zero z'.cells:=by rw[Q];exact⟨AG,λi s q p r=>by grind [J7]⟩
         obtain⟨b8,b9⟩:(∀q∈z'.cells,q.oneCell'=X)/\∀{M:Nat->Prop} {D:G5} (i:Nat) (s:Au) (q:Hk),a2[i]?=J s->z'.cells[i]?=J q->DR D M s q:=by
          refine⟨bk.cellsOne (λs p=>EM.1 a3 s p),λ{M D} i s q p r=>?_⟩;have⟨f1,f2⟩:=Fx az;have K:i<U C.zero:=by rw[<-f1];exact(BE.1 p).1
          have v:=f2 i _ s (CE K) p;have N:C.zero[i]?=J (EW q):=by rw[Q,BY,RC,r];rfl
          rw[CE K]at N;simp only[F4]at N;rw[N]at v;have x:VR (λ_=>I) D M (EW q) q:=J7;cases B:EW q with
          |d ch=>rw[B]at v x;simp only[Fq,F4]at v;subst v;cases x with|d hd=>exact hd
          |d8=>rw[B]at v x;simp only[Fq,F4]at v;subst v;cases x;exact .lst0 _ _|emp=>rw[B]at v x;simp only[Fq,F4]at v;subst v;cases x;exact .lst0 _ _|ii a1 b len=>rw[B]at x;cases x with|ii _ _ _ l a cap R=>cases R
          |_=>rw[B]at v;simp[Fq]at v
         have be:∀F∈List.replicate n a2,U F=l.sz:=λF b3=>by grind
         have⟨l1,l2⟩:=QK q5 be ai;have⟨s1,s2,_⟩:=Ei ai;have av:(Builtin.zeroCells z'.cells n).size=n*l.sz:=by simp[Builtin.zeroCells,a0]
         have ag:b*l.sz+(Builtin.zeroCells z'.cells n).size<=c.size:=by have:=HM l.sz s1;rw[HU,Ls]at this;rw[av];omega
         have bi:∀i,i<n*l.sz->(Builtin.zeroCells z'.cells n)[i]?=z'.cells[i % l.sz]? :=by intro i K;have b6:i % l.sz<l.sz:=Nat.mod_lt _ q3;simp only[Builtin.zeroCells,Array.getElem?_map,a0];rw[Array.getElem?_range,D3 K];simp only[Gt];rw[getElem!_pos z'.cells (i % l.sz) z];rw[D9 z]
         have bh:(Builtin.clear_ #[t] ty #[.slice (J ⟨l.b,b*l.sz,I⟩) n cap]).run P w=.ok (.tuple #[]) (World.nl w l.b (.cells (Gr c (b*l.sz) (Builtin.zeroCells z'.cells n).toList) elem (0,0))):=by
          have ar:=Hf (P:=P) (Builtin.zeroCells z'.cells n).toList (b*l.sz) w c 0 q1 (by simpa using ag) (λq r=>by grind [Array.mem_iff_getElem])
          simp only[Nat.add_zero]at ar;obtain⟨m,rfl⟩:=Nat.exists_eq_succ_of_ne_zero T;simp[Builtin.clear_,run_underlying aa,Ej g1 g3,ar]
         have V:=HZ H (o':=.f9 l.sz a4) O rfl L (.cells (Gr c (b*l.sz) (Builtin.zeroCells z'.cells n).toList) elem (0,0));refine⟨_,.tuple #[],_,j,by rw[bh];rfl,.inl rfl,.refl j,λ_ h=>.inl h,?_,V,.undef _,MQ _ (AS.2 rfl) L,λ_ _ h=>.inl h⟩;refine H.upd' O rfl L ⟨_,elem,GD _ (BT q1),rfl,q3,by grind [FG],l1,by grind [FG],λi s q p r=>?_⟩;rw[l2]at p;rw[GH (by simpa using ag)]at r;have bs:b*l.sz+(Builtin.zeroCells z'.cells n).toList.length=b*l.sz+n*l.sz:=by rw[On,av]
         rw[HU]at p;by_cases W:i<b*l.sz
         .rw[D3 W]at p r;exact(q7 i s q p r).mono V
         .rw[Co W]at p r;by_cases Y:i<b*l.sz+n*l.sz
          .rw[D3 Y]at p;rw[D3 z]at r;simp only[RC]at r;have bc:i-b*l.sz<n*l.sz:=z;rw[bi _ bc]at r;have b2:(i-b*l.sz)/l.sz<n:=Nat.div_lt_of_lt_mul zCN;grind [Nat.mod_lt,Nat.mul_comm,Nat.div_add_mod,J9]
          .rw[Co Y]at p;rw[Co z]at r;exact(q7 i s q p r).mono V
        .cases o
       .cases o
      .cases o
     .cases o
  .cases o;cases p;rw[nothing];exact .plain H rfl rfl (.undef _)
  .cases o;cases p;rw[nothing];exact .plain H rfl rfl (.undef _)
  .cases o
