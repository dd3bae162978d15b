/- P -/
import Derived.Lib.QuoteBits
import Derived.Test.YtbinfhpngacfgaaGreatR1
set_option linter.all false
namespace Go
def zEb{p:Prop}(h:p:=by simpa using f):p:=h
def zEs{p:Prop}(h:p:=by simpa using c):p:=h
def zEz{p:Prop}(h:p:=by simpa using b):p:=h
def zE9{p:Prop}(h:p:=by simp[b]):p:=h
def zFV{p:Prop}(h:p:=by simpa using u):p:=h
end Go
namespace Go
def zAY{p:Prop}(h:p:=by
 cases d<;>simp[DA]at h⊢;split at h
 .split at h<;>cases h
 .cases h):p:=h
def zBb{p:Prop}(h:p:=by obtain⟨e,rfl⟩:=Dg a;cases b;cases c;simp[Builtin.len_,run_underlying h2,goInt]):p:=h
def zB1{p:Prop}(h:p:=by obtain⟨bl,F,c,elem,V,p,S,Q,W,J,_⟩:=H.obj id _ T;rw[D]at F;cases F;exact ar s es.length p AA (by rw[<-p,<-Q];exact J) f):p:=h
def zCN{p:Prop}(h:p:=by cases a<;>simp[Builtin.firstCells,loadCells,loadCellsFrom]):p:=h
def zCO{p:Prop}(h:p:=by refine⟨?_,.plain H rfl rfl b⟩;cases b;exact⟨_,rfl⟩):p:=h
def zDc{p:Prop}(h:p:=by rw[r]at o p;simp only[FQ,Co]at o;subst o;cases p;exact .lst0 _ _):p:=h
def zDt{p:Prop}(h:p:=by cases f;cases b;rw[nothing];exact .plain H rfl rfl (.undef _)):p:=h
end Go
namespace Go.Abs
variable{A:Nat->Prop}{P:Program}{mix:List TypeId}{β:BK}{w:World}{M:Nat->Prop}
variable{t:TypeId}{d:TypeDesc}
def Dg(h:DA P t d=.slice): ∃e,d=.slice e:=by
 exact zAY
variable{m:Nat}
def vG(h:DA P t d=.arr m): ∃e,d=.array m e:=by
 cases d<;>simp[DA]at h⊢
 .exact h
 .split at h
  .split at h<;>cases h
  .cases h
def U0(h:DA P t d=.map): ∃k e,d=.map k e:=by
 exact zAY
def Nj(h:DA P t d=.str):d=.string:=by
 exact zAY
def XT(h:DA P t d=.bool):d=.bool:=by
 exact zAY
def vH(h:DA P t d=.int): ∃k,d=.int k:=by
 exact zAY
def XU(h:DA P t d=.func): ∃a b c,d=.func a b c:=by
 exact zAY
def cD(h:DA P t d=.ptr): ∃e,d=.pointer e:=by
 exact zAY
def Pc(h:DA P t d=.iface): ∃e,d=.interface e:=by
 exact zAY
variable{n:Nat}
def jo(h:n<=BF):IntKind.i64.wrap (n:Int)=n:=by
 refine Go.Lib.wrap_i64_small n ?_;have:n<=2 ^ 30:=h;omega
variable{h:AD}{ρ:List Nat}{eff:C0}
def Y3(H:HR A β w h)(Q: ∀id,ρ<:+id->β id=none){l c:AV}{K J:Value}(p:VR β w (MS A β h) l K)(o:VR β w (MS A β h) c J)
 (a:DY (Cb P mix) h.get ρ l c (Cb P mix t)=some eff):
 Ew A ρ β w h ((do pure (.value (<-Instr.makeSlice t K J)):Sem Next).run P w) eff:=by
 cases s:Cb P mix t with
 |none=>simp[DY,s]at a
 |some i=>
  obtain⟨info,d,z,v,h2,x,_,rfl⟩:=BZ s;simp only[DY,s]at a;split at a
  .rename_i j X n Y m S C;obtain⟨u,rfl⟩:=Dg S;simp only[JK]at C;obtain⟨b,ad,f,g1,ag,L,⟨O,_⟩,rfl⟩:=BZ C;split at a
   .rename_i T;obtain⟨U,rfl,k⟩:=T;obtain⟨n,rfl⟩:=LI U;have k:n<=BF:=by exact_mod_cast k
    cases p with
    |d p=>cases p with
     |int _ _=>cases o with
      |d o=>cases o with
       |int _ _=>
        have y:(b.bytes:Int)*(n:Int)<=281474976710656:=by
         have v:b.bytes*n<=70368744177664:=IP (Nat.mul_le_mul O k) (Nat.le_of_eq rfl);have x:=Int.ofNat_le.2 v;rw[Int.natCast_mul]at x;omega
        have F: ∀g:Array Value,(n*b.size=0->g= #[])->(n*b.size≠0->g=f.cells)->
         ((do pure (.value (<-Instr.makeSlice t (.int X n) (.int Y n))):Sem Next).run P w)=
         .ok (.value (.slice (some ⟨w.heap.size,0,none⟩) n n)) (World.add w (.cells ((Array.range (n*b.size)).map (g[· % g.size]!)) u)):=by
         intro g Z ac;have I:=jo k;by_cases e:n*b.size=0
         .rw[Z e];simp[Instr.makeSlice,run_underlying h2,asInt,asIntOf,typeInfo,g1,I,y,newRow,World.add,Cp g1,e];intro R;exfalso;omega
         .rw[ac e];simp[Instr.makeSlice,run_underlying h2,asInt,asIntOf,typeInfo,g1,I,y,newRow,World.add,Cp g1,e,Eb g1 L];intro R;exfalso;omega
        simp only[F7]at a;unfold Hb at a;split at a
        .cases a;rw[F #[] (fun _=>rfl) (fun h=>absurd (Nat.zero_mul _) h)];exact .other H rfl (.emp _)
        .have q:=a;unfold newArr at q;split at q
         .cases q
         .rename_i B;simp only[AP,D3,beq_iff_eq]at B;obtain⟨⟨N,r⟩,_⟩:=B;have r:0<b.size:=by simpa[UP]using r
          have D:n≠0:=Bw;have W:f.cells.size=b.size:=by
           have:=(N (f.cells.toList.map EJ) (by simp[D])).1;simpa using this
          have e:=eH (β:=β) (w:=w) (M:=MS A β h) (n:=n) W;have V:=R4 H (w₁:=w) rfl ⟨rfl,rfl⟩ Q (elem:=u) (c:=(Array.range (n*b.size)).map (f.cells[· % f.cells.size]!)) (cap:=n) AG AG e.2 a;rw[F f.cells (fun h=>absurd h (Nat.ne_of_gt (Nat.mul_pos (Nat.pos_of_ne_zero D) r))) (fun _=>rfl)];simpa using V
   .cases a
  .cases a
variable{A:Nat->Prop}{P:Program}{mix:List TypeId}{β:BK}{w:World}{M:Nat->Prop}
variable{off:Nat}{c:Array Value}
def Qq{b:Nat}{elem:TypeId}{fr:Nat×Nat}(e:w.heap[b]? =some (.cells c elem fr))(g:off+n<=c.size):
 (loadCells ⟨b,off,none⟩ n).run P w=.ok ((c.toList.drop off).take n).toArray w:=by
 have f:((c.toList.drop off).take n).length=n:=Aa;have:=run_loadCells_list (P:=P) w ⟨b,off,none⟩ ((c.toList.drop off).take n) (fun j v a=>by
  rw[E4,OX e];rw[I6]at a;split at a
  .rw[Hm]at a;simpa using a
  .cases a)
 rw[f]at this;exact this
def Vn{i:Nat}(a:i<n):((c.toList.drop off).take n).toArray[i]? =c[off+i]? :=by
 simp only[On];rw[I6,D4 a,Hm];simp
def aX{h:AD}(H:HR A β w h){x:AV}{vx:Value}(f:VR β w (MS A β h) x vx){src:List (List AV)}(j:Ez h.get x=some src){size:Nat}(C: ∀e∈src,e.length=size):
 ∃a c,vx=.slice a src.length c/\ ∃arr:Array Value,(∀w':World,w'.heap=w.heap->(Builtin.firstCells size src.length vx).run P w'=.ok arr w')/\Hh β w (MS A β h) src.flatten arr:=by
 have zero: ∀(a:Option Addr) (c:Nat),src=[]->vx=.slice a 0 c-> ∃a c,vx=.slice a src.length c/\ ∃arr:Array Value,(∀w':World,w'.heap=w.heap->(Builtin.firstCells size src.length vx).run P w'=.ok arr w')/\Hh β w (MS A β h) src.flatten arr:=by
  intro a c g h2;subst g h2;refine⟨a,c,rfl, #[],?_,rfl,AG⟩;intro w' _;exact zCN
 have R: ∀{b off:Nat} {c:Array Value} {elem:TypeId} {fr:Nat×Nat} {cap:Nat},w.heap[b]? =some (.cells c elem fr)->off+src.length*size<=c.size->
  (∀(i:Nat) (x:AV) (v:Value),src.flatten[i]? =some x->c[off+i]? =some v->VR β w (MS A β h) x v)->vx=.slice (some ⟨b,off,none⟩) src.length cap->
  ∃a c,vx=.slice a src.length c/\ ∃arr:Array Value,(∀w':World,w'.heap=w.heap->(Builtin.firstCells size src.length vx).run P w'=.ok arr w')/\Hh β w (MS A β h) src.flatten arr:=by
  intro b off c elem fr cap g h2 q l;subst l;refine⟨some ⟨b,off,none⟩,cap,rfl,((c.toList.drop off).take (src.length*size)).toArray,?_,?_,?_⟩
  .intro w' ad;simp only[Builtin.firstCells];exact Qq (by rw[ad];exact g) h2
  .rw[Da C];simp;omega
  .intro i x v f p;have F:i<src.length*size:=by rw[<-Da C];exact(BV.1 f).1
   rw[Vn F]at p;exact q i x v f p
 cases f with
 |d z=>
  cases z with
  |lst0 a cap=>simp only[Ez,BY,Co]at j;exact zero a cap j.symm rfl
  |bv es b off cap sz c elem fr g h2 q l r s=>
   simp only[Ez,Co]at j;subst j;by_cases B:es=[]
   .subst B;exact zero _ _ rfl rfl
   .have J:sz=size:=by
     obtain⟨e,U,rfl⟩:=Rg B;have ag:=q e AG;have S:=C (e.map .d) AG;simp at S;omega
    subst J;refine R (cap:=cap) g zFH (fun i x v f p=>?_) AG;rw[<-T7,D7,Bv]at f;obtain⟨L,K,rfl⟩:=f;exact .d (r i L v K p)
  |_=>simp[Ez]at j
 |d7=>simp only[Ez,Co]at j;exact zero _ _ j.symm rfl
 |emp a=>simp only[Ez,Co]at j;exact zero _ _ j.symm rfl
 |f8 id off n k a cap Z ar ai W=>
  simp only[Ez,IN]at j;obtain⟨es,m,Q⟩:=j;obtain⟨T,u,az⟩:=Jt Q;by_cases ac:n=0
  .subst ac;exact zero a cap (MD.1 u) rfl
  .have X:a=some ⟨k.b,off*k.sz,none⟩:=W.resolve_right AA;subst X;have D: ∀{c:Array Value} {elem:TypeId} {fr:Nat×Nat},w.heap[k.b]? =some (.cells c elem fr)->(∀e∈es,e.length=k.sz)->es.length*k.sz<=c.size->
    (∀(i:Nat) (x:AV) (v:Value),es.flatten[i]? =some x->c[i]? =some v->VR β w (MS A β h) x v)->
    ∃a c,Value.slice (some ⟨k.b,off*k.sz,none⟩) n cap=.slice a src.length c/\ ∃arr:Array Value,(∀w':World,w'.heap=w.heap->(Builtin.firstCells size src.length (.slice (some ⟨k.b,off*k.sz,none⟩) n cap)).run P w'=.ok arr w')/\Hh β w (MS A β h) src.flatten arr:=by
    intro c elem fr g h2 q l;obtain⟨N,V⟩:=Ue h2 Q;have J:k.sz=size:=by
     have:src≠ []:=fun e=>by rw[e]at u;simp at u;omega
     obtain⟨e,U,rfl⟩:=Rg this;have ag:=N e AG;have S:=C e AG;omega
    refine R g ?_ (fun i x v f p=>?_) (by rw[u])
    .have:=HM k.sz T;rw[IT]at this;rw[u,<-J];omega
    .have F:i<n*k.sz:=by rw[<-u,<-Da N];exact(BV.1 f).1
     rw[V i F]at f;exact l _ x v f p
   cases t:h.get id with
   |none=>simp[t,QG]at m
   |some o=>
    obtain⟨av,O,I⟩:=H.obj id o t;rw[Z]at O;cases O;have M: ∀{ds:List (List Al)} {c:Array Value},(∀(i:Nat) (x:Al) (v:Value),ds.flatten[i]? =some x->c[i]? =some v->DR w (MS A β h) x v)->
     ∀(i:Nat) (x:AV) (v:Value),(ds.map (·.map AV.d)).flatten[i]? =some x->c[i]? =some v->VR β w (MS A β h) x v:=by
     intro ds c z i x v f p;rw[<-T7,D7,Bv]at f;obtain⟨L,K,rfl⟩:=f;exact .d (z i L v K p)
    have len: ∀{ds:List (List Al)} {sz:Nat},(∀e∈ds,e.length=sz)-> ∀e∈ds.map (·.map AV.d),e.length=sz:=by
     intro ds sz z e B;obtain⟨e',Y,rfl⟩:=F1.1 B;simpa using z e' Y
    cases o with
    |em sz ds=>
     simp only[t,QG,Co]at m;subst m;obtain⟨c,elem,g,h2,q,l,r,s,y⟩:=I;subst h2;exact D g (len r) (by simpa using s) (M y)
    |i7 sz ds=>
     simp only[t,QG,Co]at m;subst m;rcases I with rfl|⟨_,c,elem,fr,g,h2,q,l,r,s,y⟩
     .simp only[BY,List.length_nil]at T;omega
     .subst h2;exact D g (len r) (by simpa using s) (M y)
    |arr sz ds=>
     simp only[t,QG,Co]at m;subst m;obtain⟨c,elem,g,h2,q,l,r,s,y⟩:=I;subst h2;exact D g r s y
    |_=>simp[t,QG]at m
 |_=>simp[Ez]at j
structure yE(P:Program)(t t2 e:TypeId)(i:TypeInfo)(z:Value):Prop where
 ht:P.underlying t=some (.slice e)
 ht2: ∃e2,P.underlying t2=some (.slice e2)
 hi:P.info? e=some i
 hz:i.zero=some z
 hb:i.bytes<=65536
 hzs:z.cells.size=i.size
variable{t2 ty:TypeId}{i:TypeInfo}{z:Value}{base a:Option Addr}{cap:Nat}{arr:Array Value}
def Wi{e:TypeId}(A:yE P t t2 e i z){c:Nat}(g:n+m<=cap)
 (f:(Builtin.firstCells i.size m (.slice a m c)).run P w=.ok arr w) {w':World} (j: ∀b,base=some b->(storeCells (b.add (n*i.size)) arr.toList).run P w=.ok () w') (h:base=none->w'=w):
 (Builtin.append_ #[t,t2] ty #[.slice base n cap,.slice a m c]).run P w=.ok (.slice base (n+m) cap) w':=by
 obtain⟨k,h2⟩:=A.ht2;cases base with
 |none=>
  rw[h rfl];simp[Builtin.append_,run_underlying A.ht,run_underlying h2,Cp A.hi,Builtin.lenOf,g,f]
 |some b=>
  simp[Builtin.append_,run_underlying A.ht,run_underlying h2,Cp A.hi,Builtin.lenOf,g,f,j b rfl]
def SY{e:TypeId}(A:yE P t t2 e i z){c:Nat}{k:Array Value}(g:cap<n+m)(j:n+m<=2147483648)
 (q:(Builtin.firstCells i.size n (.slice base n cap)).run P w.drew=.ok k w.drew)
 (p:(Builtin.firstCells i.size m (.slice a m c)).run P w.drew=.ok arr w.drew):
 ∃b,n+m<=b/\(Builtin.append_ #[t,t2] ty #[.slice base n cap,.slice a m c]).run P w=
  .ok (.slice (some ⟨w.heap.size,0,none⟩) (n+m) b) (World.add w.drew (.cells (k++arr++Builtin.zeroCells z.cells (b-(n+m))) e)):=by
 obtain⟨r,h2⟩:=A.ht2;have o:=A.hb;have f:Builtin.nextslicecap (n+m) cap*i.bytes<=281474976710656:=by
  refine growslice_fits g ?_;exact IP (Nat.mul_le_mul j o) (Nat.le_of_eq rfl)
 refine⟨(Question.appendCap (n+m) cap e).cut (w.tape w.drawn (.appendCap (n+m) cap e)),by simp only[Question.cut];omega,?_⟩
 .have s: ¬((n+m:Nat):Int)>IntKind.i64.max:=by
   have:=Int.ofNat_le.2 j;have e:IntKind.i64.max=9223372036854775807:=rfl;rw[e];omega
  have l: ¬(9223372036854775807:Int)<((n:Int)+m):=AA;simp[Builtin.append_,run_underlying A.ht,run_underlying h2,Cp A.hi,Builtin.lenOf,Nat.not_le.2 g,q,p,typeInfo,A.hi,f,Eb A.hi A.hz,newRow,World.add,Question.forced];rw[Ci (fun h=>l h.1),Ci (Nat.not_lt.2 f)];rfl
def HR.move{h:AD}(H:HR A β w h){id f:Id}{k:TH}{o o':Obj}(r:h.get id=some o)(q:o.mut=true)(n:β id=some k)(v:β f=none){x:Go.Obj}
 (W: ∀{C},Le β (β.put f k)->FG A (MS A β h) w C (World.ip w k.b x)->NI (β.put f k) (World.ip w k.b x) C k o'):
 HR A (β.put f k) (World.ip w k.b x) ((h.put id (.i7 0 [])).put f o')/\FG A (MS A β h) w (MS A (β.put f k) ((h.put id (.i7 0 [])).put f o')) (World.ip w k.b x):=by
 have Z:id≠f:=fun e=>by rw[e,v]at n;cases n
 have B:FG A (MS A β h) w (MS A (β.put f k) ((h.put id (.i7 0 [])).put f o')) (World.ip w k.b x):=by
  refine⟨fun b _ s=>GF x fun e=>s.elim (fun s=>s (.inr ⟨id,o,k,r,q,n,e.symm⟩)) (fun s=>H.out id o k r q n (e▸s)),by rw[GP];omega,?_,rfl,rfl⟩;rintro b (S|⟨i,m,j,l,h2,p,rfl⟩)
  .exact .inl (.inl S)
  rw[AD.get_put]at l;split at l
  .rename_i e;subst e;simp at p;subst p;exact .inl (.inr ⟨id,o,k,r,q,n,rfl⟩)
  .rename_i e;rw[CV β k (Ne.symm e)]at p;rw[AD.get_put]at l;split at l
   .cases l;cases h2
   .exact .inl (.inr ⟨i,m,j,l,h2,p,rfl⟩)
 refine⟨H.step (Pd v) B ?_ ?_ ?_ ?_,B⟩
 .intro i m c;rw[AD.get_put]at c;split at c
  .rename_i e;subst e;cases c;exact .inr ⟨k,AG,W (Pd v) B⟩
  .rename_i e;rw[AD.get_put]at c;split at c
   .rename_i t;subst t;cases c;exact .inr ⟨k,by rw[CV β k (Ne.symm e)];exact n,.inl rfl⟩
   .rename_i t;obtain⟨j,g,ac⟩:=H.obj i m c;by_cases u:j.b=k.b
    .cases L:m.mut with
     |true=>exact absurd (H.inj id i o m k j r c q L n g u.symm) t
     |false=>
      cases m with
      |i7 sz es=>
       have:=H.i7 r q n c g u;exact .inr ⟨j,by rw[CV β k (Ne.symm e)];exact g,.inl this⟩
      |_=>simp[Obj.mut]at L
    .exact .inl ⟨c,fun ad K=>by rw[g]at K;cases K;exact GF x u⟩
 ·
  have inj: ∀{i:Id} {m:Obj} {j:TH},((h.put id (.i7 0 [])).put f o').get i=some m->m.mut=true->β.put f k i=some j->(i=f/\j=k)\/(i≠id/\i≠f/\h.get i=some m/\β i=some j):=by
   intro i m j l h2 p;rw[AD.get_put]at l;split at l
   .rename_i e;subst e;simp at p;exact .inl ⟨rfl,p.symm⟩
   .rename_i e;rw[CV β k (Ne.symm e)]at p;rw[AD.get_put]at l;split at l
    .cases l;cases h2
    .rename_i t;exact .inr ⟨Ne.symm t,Ne.symm e,l,p⟩
  intro a b P Q N O T s y z U V e;rcases inj T y U with⟨rfl,rfl⟩|⟨R,X,D,F⟩<;>rcases inj s z V with⟨rfl,rfl⟩|⟨b1,Y,I,J⟩
  .rfl
  .exact absurd (H.inj id b o Q _ O r I q z n J e).symm b1
  .exact absurd (H.inj id a o P _ N r D q y n F e.symm).symm R
  .exact H.inj a b P Q N O D I y z F J e
 .intro i j g;rw[GP];by_cases e:i=f
  .subst e;simp at g;subst g;exact H.bnd id _ n
  .rw[CV β k e]at g;exact H.bnd i j g
 .intro i m j c M g;rw[AD.get_put]at c;split at c
  .rename_i e;subst e;simp at g;subst g;exact H.out _ _ _ r q n
  .rename_i e;rw[CV β k (Ne.symm e)]at g;rw[AD.get_put]at c;split at c
   .cases c;cases M
   .exact H.out i m j c M g
def We{b:Type}{R:b->Value->Prop}{es ds:List (List b)}{sz:Nat}{c':Array Value}(p: ∀e∈es,e.length=sz)(g: ∀e∈ds,e.length=sz)(u:n<=es.length)
 (o: ∀(i:Nat) (x:b) (v:Value),es.flatten[i]? =some x->c[i]? =some v->R x v) (m: ∀(i:Nat) (x:b) (v:Value),ds.flatten[i]? =some x->arr[i]? =some v->R x v) (t:arr.size=ds.length*sz)
 (l: ∀i,i<n*sz->c'[i]? =c[i]?) (h2: ∀i,i<arr.size->c'[n*sz+i]? =arr[i]?):
 (∀e∈es.take n++ds,e.length=sz)/\(es.take n++ds).length=n+ds.length/\ ∀(i:Nat) (x:b) (v:Value),(es.take n++ds).flatten[i]? =some x->c'[i]? =some v->R x v:=by
 have k: ∀e∈es.take n,e.length=sz:=fun e h=>p e (MK h);have s:(es.take n).length=n:=Aa;have q:(es.take n).flatten.length=n*sz:=by rw[Da k,s]
 refine⟨fun e h=>?_,Aa,fun i x v a f=>?_⟩
 .rcases EL.1 h with h|h
  .exact k e h
  .exact g e h
 .rw[MT]at a;by_cases r:i<n*sz
  .rw[Ce AA]at a;rw[l i r]at f;refine o i x v ?_ f;have:=Mk n es;rw[<-this,MT,Ce AA];exact a
  .rw[D1 AA,q]at a;have j:i-n*sz<ds.flatten.length:=(BV.1 a).1;rw[Da g,<-t]at j;have:=h2 (i-n*sz) j;rw[show n*sz+(i-n*sz)=i by omega,f]at this;exact m _ x v a this.symm
variable{A:Nat->Prop}{P:Program}{mix:List TypeId}{β:BK}{w:World}{M:Nat->Prop}
def TC{s:Type}{es new r:List (List s)}{sz:Nat}(b: ∀e∈es,e.length=sz)(k: ∀e∈new,e.length=sz)(a:Ck es off new=some r):
 (∀e∈r,e.length=sz)/\ ∀i,r.flatten[i]? =if i<off*sz then es.flatten[i]? else if i<off*sz+new.length*sz then new.flatten[i-off*sz]? else es.flatten[i]? :=by
 obtain⟨q,_,_⟩:=FC a;unfold Ck at a;rw[D4 q]at a;cases a;have l: ∀e∈es.take off,e.length=sz:=fun e h=>b e (MK h);have o: ∀e∈es.drop (off+new.length),e.length=sz:=fun e h=>b e (Lc h);have p:(es.take off).length=off:=Aa;have g:(es.take off).flatten.length=off*sz:=by rw[Da l,p]
 have m:new.flatten.length=new.length*sz:=Da k;refine⟨fun e h=>?_,fun i=>?_⟩
 .rcases EL.1 h with h|h
  .rcases EL.1 h with h|h
   .exact l e h
   .exact k e h
  .exact o e h
 .have j:es.flatten=(es.take off).flatten++((es.drop off).take new.length).flatten++(es.drop (off+new.length)).flatten:=by
   rw[<-MT,<-MT];congr 1;rw[DO,<-List.drop_drop,Mk,Mk]
  have n:((es.drop off).take new.length).flatten.length=new.length*sz:=by
   rw[Da (sz:=sz) (fun e h=>b e (Lc (MK h)))];congr 1;simp;omega
  rw[MT,MT];by_cases c:i<off*sz
  .rw[D4 c,DO,Ce AA,j,DO,Ce AA]
  .rw[Ci c];by_cases f:i<off*sz+new.length*sz
   .rw[D4 f,DO,D1 AA,g,Ce AA]
   .rw[Ci f,D1 (by rw[Be];omega),j,D1 (by rw[Be];omega)];simp only[Be,g,m,n]
structure eP(A:Nat->Prop)(α:Type) where
 ar:Nat->List (List α)->Obj
 R:BK->World->(Nat->Prop)->α->Value->Prop
 obj: ∀{β w M k sz es},NI β w M k (ar sz es)↔ ∃c elem,w.heap[k.b]? =some (.cells c elem (0,0))/\sz=k.sz/\0<sz/\c.size=k.n/\(∀e∈es,e.length=sz)/\es.length*sz<=c.size/\
    ∀(i:Nat) (x:α) (v:Value),es.flatten[i]? =some x->c[i]? =some v->R β w M x v
 mono: ∀{β β' w w' M M' x v},Le β β'->FG A M w M' w'->R β w M x v->R β' w' M' x v
 isMut: ∀sz es,(ar sz es).mut=true
def eP.dat(A:Nat->Prop):eP A Al:=⟨.em,fun _ w M=>DR w M,Iff.rfl,fun _ hp h=>h.mono hp,fun _ _=>rfl⟩
def eP.mixed(A:Nat->Prop):eP A AV:=⟨.arr,VR,Iff.rfl,fun hβ hp h=>h.mono hβ hp,fun _ _=>rfl⟩
def SX{av:Type}(b:eP A av){h p:AD}(F:HR A β w p)(ac:ZY h p){δ₁:AD}(L:h.puts δ₁=p){ρ:List Nat}(a3: ∀id,ρ<:+id->β id=none)
 {t t2 e:TypeId} {i:TypeInfo} {z:Value} (U:yE P t t2 e i z) {ty:TypeId} {id:Id} {k:TH} {es ds:List (List av)} {off n cap:Nat} {a:Option Addr} (H:p.get id=some (b.ar i.size es)) (r:β id=some k)
 (y:off*k.sz+cap*k.sz=k.n) (b2:n<=cap) (W:a=some ⟨k.b,off*k.sz,none⟩\/cap=0) (Z:off+n<=es.length) (Y: ∀e∈ds,e.length=i.size) (b4:ds≠ [])
 {ax:Option Addr} {V:Nat} {arr:Array Value} (a4: ∀w':World,w'.heap=w.heap->(Builtin.firstCells i.size ds.length (.slice ax ds.length V)).run P w'=.ok arr w')
 (J:arr.size=ds.length*i.size) (bs: ∀v∈arr,v.oneCell'=true) (K: ∀(j:Nat) (x:av) (v:Value),ds.flatten[j]? =some x->arr[j]? =some v->b.R β w (MS A β p) x v) {eff:C0}
 (b0:(∃M,Ck es (off+n) ds=some M/\eff=⟨.f8 id off (n+ds.length),δ₁++[(id,b.ar i.size M)]⟩)\/
  (off=0/\n+ds.length<=2147483648/\eff=⟨.f8 (1::ρ) 0 (n+ds.length),δ₁++[(id,.i7 0 []),(1::ρ,b.ar i.size (es.take n++ds))]⟩)):
 Ew A ρ β w h (((Builtin.append_ #[t,t2] ty #[.slice a n cap,.slice ax ds.length V]).run P w).andThen fun v w'=>.ok (.value v) w') eff:=by
 obtain⟨cc,a6,b5⟩:=F.obj id _ H;rw[r]at a6;cases a6;obtain⟨c,elem,S,l,ai,D,ar,bk,T⟩:=b.obj.1 b5;have c8:0<ds.length:=by cases ds with|nil=>exact absurd rfl b4|cons=>simp
 have a5:β (1::ρ)=none:=a3 _ (HB 1 ρ);have ag:n+ds.length<=cap->off*k.sz+n*k.sz+arr.size<=c.size/\
  ((Builtin.append_ #[t,t2] ty #[.slice a n cap,.slice ax ds.length V]).run P w)=.ok (.slice (some ⟨k.b,off*k.sz,none⟩) (n+ds.length) cap) (World.ip w k.b (.cells (HN c (off*k.sz+n*k.sz) arr.toList) elem (0,0))):=by
  intro o;have X:a=some ⟨k.b,off*k.sz,none⟩:=W.resolve_right AA;subst X;have f:off*k.sz+n*k.sz+arr.size<=c.size:=by
   have:=HM k.sz o;rw[IT]at this;rw[J,l,D];omega
  refine⟨f,Wi U o (a4 w rfl) (fun c5 bv=>?_) (fun b1=>by cases b1)⟩;cases bv;rw[l,E4];have:=JR (P:=P) arr.toList (off*k.sz+n*k.sz) w c 0 S zEb (fun v K=>bs v (by simpa using K));simpa using this
 rcases b0 with⟨M,be,rfl⟩|⟨rfl,b3,rfl⟩
 .obtain⟨c3,c4,c9⟩:=FC be;have o:n+ds.length<=cap:=by
   have h2:(off+(n+ds.length))*k.sz<=(off+cap)*k.sz:=by
    have c7:=HM k.sz c3;rw[l]at bk;rw[IT off cap,y,<-D];rw[<-Rc];omega
   have:=Nat.le_of_mul_le_mul_right h2 AA;omega
  obtain⟨f,I⟩:=ag o;have Q:=IU F (o':=b.ar i.size M) H (b.isMut _ _) r (.cells (HN c (off*k.sz+n*k.sz) arr.toList) elem (0,0));obtain⟨ch,cl⟩:=TC ar Y be;refine⟨_,.slice (some ⟨k.b,off*k.sz,none⟩) (n+ds.length) cap,_,β,by rw[I];rfl,.inl rfl,.refl β,fun _ h=>.inl h,?_,?_,.f8 _ _ _ _ _ _ r y o (.inl rfl),MO _ (HU _ (Ac.2 rfl)) r,fun _ _ h=>.inl h⟩
  .rw[AD.puts_append,L];refine F.upd' H (b.isMut _ _) r (b.obj.2 ⟨_,elem,JS _ (AK S),l,ai,by rw[GU zEb];exact D,ch,by rw[GU zEb,c4];exact bk,fun j x v g m=>?_⟩);rw[cl]at g;rw[GL zEb]at m;have c6:off*k.sz+n*k.sz+arr.toList.length=off*k.sz+n*k.sz+ds.length*k.sz:=by rw[OS,J,l]
   rw[IT,l]at g;by_cases az:j<off*k.sz+n*k.sz
   .rw[D4 az]at g m;exact b.mono (.refl β) Q (T j x v g m)
   .rw[Ci az]at g m;by_cases a0:j<off*k.sz+n*k.sz+ds.length*k.sz
    .rw[D4 a0]at g;rw[D4 AA]at m;exact b.mono (.refl β) Q (K _ x v g (by simpa using m))
    .rw[Ci a0]at g;rw[Ci AA]at m;exact b.mono (.refl β) Q (T j x v g m)
  .rw[AD.puts_append,L];exact ac.it.trans Q
 .simp only[Nat.zero_mul,I9]at ag y W Z;by_cases o:n+ds.length<=cap
  .obtain⟨f,I⟩:=ag o;have cells:=We (R:=b.R β w (MS A β p)) (c':=HN c (n*k.sz) arr.toList) ar Y Z T K J
    (fun j q=>by rw[GL zEb,D4 (by rw[<-l];exact q)])
    (fun j q=>by
     rw[GL zEb,Ci (by rw[<-l];omega),D4 (by rw[<-l];simp;omega)];rw[<-l];simp)
   obtain⟨cn,cp⟩:=F.move H (b.isMut _ _) r a5 (x:=.cells (HN c (n*k.sz) arr.toList) elem (0,0)) (o':=b.ar i.size (es.take n++ds)) (fun ad a'=>by
    refine b.obj.2 ⟨_,elem,JS _ (AK S),l,ai,by rw[GU zEb];exact D,cells.1,?_,fun j x v g m=>b.mono ad a' (cells.2.2 j x v g m)⟩;rw[GU zEb,cells.2.1,D,l,<-y];exact HM _ o)
   refine⟨_,.slice (some ⟨k.b,0,none⟩) (n+ds.length) cap,_,β.put (1::ρ) k,by rw[I];rfl,.inl rfl,Pd a5,fun s a7=>?_,?_,?_,.f8 _ _ _ _ _ _ (HS _ _ _) (by simpa using y) o (.inl AG),MO _ (HU _ (F8 ..)) r,fun s cc N=>?_⟩
   .by_cases e':s=1::ρ
    .subst e';exact .inr (HB 1 ρ)
    .rw[CV β k e']at a7;exact .inl a7
   .rw[AD.puts_append,L];exact cn
   .rw[AD.puts_append,L];exact ac.it.trans cp
   .by_cases e':s=1::ρ
    .subst e';simp at N;subst N;exact .inr (.inr ⟨_,HU _ (F8 ..),k,r,rfl⟩)
    .rw[CV β k e']at N;exact .inl N
  ·
   have b6: ∀w':World,w'.heap=w.heap-> ∃C:Array Value,(Builtin.firstCells i.size n (.slice a n cap)).run P w'=.ok C w'/\C.size=n*i.size/\ ∀j,j<n*i.size->C[j]? =c[j]? :=by
    intro w' b8;by_cases bx:cap=0
    .have:n=0:=AA;subst this;refine⟨#[],?_,AG,AG⟩;exact zCN
    .have X:=W.resolve_right bx;subst X;have f:0+n*i.size<=c.size:=by
      rw[D,<-y,l,I9];exact HM _ b2
     refine⟨((c.toList.drop 0).take (n*i.size)).toArray,?_,Aa,fun j q=>by rw[Vn q];simp⟩;simp only[Builtin.firstCells];exact Qq (by rw[b8];exact S) f
   obtain⟨C,cs,bi,c0⟩:=b6 w.drew rfl;obtain⟨u,a1,I⟩:=SY (w:=w) U (ty:=ty) (Nat.lt_of_not_le o) b3 cs (a4 w.drew rfl);have b':(Builtin.zeroCells z.cells (u-(n+ds.length))).size=(u-(n+ds.length))*i.size:=by simp[Builtin.zeroCells,U.hzs]
   have cells:=We (R:=b.R β w (MS A β p)) (c':=C++arr++Builtin.zeroCells z.cells (u-(n+ds.length))) ar Y Z T K J
    (fun j q=>by rw[Array.append_assoc,LM AA];exact c0 j q)
    (fun j q=>by rw[Array.append_assoc,Array.getElem?_append_right AA,bi,Nat.add_sub_cancel_left,LM q])
   have a2:(C++arr++Builtin.zeroCells z.cells (u-(n+ds.length))).size=u*i.size:=by
    simp only[T1,b',bi,J,<-IT];congr 1;omega
   have bl:=F.kill H (b.isMut _ _);have bc:ZY p (p.put id (.i7 0 [])):=by
    intro s o' B O;rw[AD.get_put]at B;split at B
    .cases B;cases O
    .exact⟨o',B,O⟩
   rw[I];refine VD bl (h:=h) (fun s o' B O=>?_) (w₁:=w.drew) rfl ⟨rfl,rfl⟩ a3 1 (k:=⟨w.heap.size,i.size,u*i.size⟩) rfl (by rw[AD.puts_append,L];rfl) ?_ ?_
   .obtain⟨cx,c1,c2⟩:=bc s o' B O;exact ac s cx c1 c2
   .intro bo ad a' b7;refine b.obj.2 ⟨_,e,MM w.drew _,rfl,ai,a2,cells.1,?_,fun j x v g m=>?_⟩
    .rw[a2,cells.2.1];exact HM _ a1
    .exact b.mono ad (bc.it.trans b7) (cells.2.2 j x v g m)
   .intro bo;exact .f8 _ _ _ _ _ _ (HS _ _ _) AG a1 (.inl AG)
variable{cs:List AV}
def Hh.cellsOne(h:Hh β w M cs c)(l: ∀x∈cs,x.isCell=true): ∀v∈c,v.oneCell'=true:=by
 intro v o;obtain⟨i,f,rfl⟩:=Array.mem_iff_getElem.1 o;have e:i<cs.length:=by rw[h.1];exact f
 have g:=h.2 i (cs[i]'e) (c[i]'f) (CO e) (Ex f);have b:=l _ (No e);have:=g.cellsOk (by
  have:(cs[i]'e).cells=[cs[i]'e]:=by
   cases k:cs[i]'e<;>first|rfl|(rw[k]at b;simp[AV.isCell]at b)
  rw[this];simpa using b)
 refine this.2 _ ?_;have m:(c[i]'f).cells= #[c[i]'f]:=by
  cases k:c[i]'f with
  |agg a=>
   rw[k]at g;cases j:cs[i]'e with
   |d x=>rw[j]at g;cases g with|d n=>cases n
   |agg _=>rw[j]at b;simp[AV.isCell]at b
   |undef=>rw[j]at b;simp[AV.isCell]at b
   |ii _=>rw[j]at b;simp[AV.isCell]at b
   |_=>rw[j]at g;cases g
  |_=>rfl
 rw[m];simp
def YM{h:AD}(H:HR A β w h){ρ:List Nat}(U: ∀id,ρ<:+id->β id=none){t t2 ty:TypeId}{s x:AV}{vs vx:Value}(u:VR β w (MS A β h) s vs)(D:VR β w (MS A β h) x vx){eff:C0}
 (c:Jl (Cb P mix) h.get ρ (Cb P mix t) (Cb P mix t2) s x=some eff):
 Ew A ρ β w h (((Builtin.append_ #[t,t2] ty #[vs,vx]).run P w).andThen fun v w'=>.ok (.value v) w') eff:=by
 unfold Jl at c;split at c
 .rename_i c4 c8 b5 b6;obtain⟨info,d,z,cs,h2,cx,_,rfl⟩:=BZ b5;obtain⟨c5,ch,c9,c6,b7,c7,_,rfl⟩:=BZ b6;split at c
  .rename_i j bv b0 a0;obtain⟨a6,rfl⟩:=Dg bv;obtain⟨a7,rfl⟩:=Dg b0;simp only[JK]at a0;obtain⟨f,cl,b',g1,cn,a',⟨bc,cp,ai,_⟩,bs⟩:=BZ a0;have L:j.size=f.size:=by rw[bs]
   have F:yE P t t2 a6 f b':=⟨h2,⟨a7,b7⟩,g1,a',bc,ai⟩;unfold appendV at c;split at c
   .cases c
   ·
    rename_i ac;obtain⟨ax,Q,ad,arr,bl,g⟩:=aX (P:=P) H D ac (size:=f.size) AG;have q:=bl w rfl;subst ad;have be:arr= #[]:=Mt g.1.symm;subst be;simp only[List.length_nil]at q⊢;have run: ∀(a:Option Addr) (n cap:Nat),n<=cap->(Builtin.append_ #[t,t2] ty #[.slice a n cap,.slice ax 0 Q]).run P w=.ok (.slice a n cap) w:=by
     intro a n cap W;have:=Wi (w:=w) (w':=w) F (ty:=ty) (base:=a) (n:=n) (m:=0) (cap:=cap) (by simpa using W) q (fun cc _=>by simp[storeCells]) (fun _=>rfl);simpa using this
    split at c
    .cases c;cases u;rw[run none 0 0 (Es 0)];exact .plain H rfl rfl .d7
    .cases c;cases u with
     |emp a=>
      rw[run a 0 0 (Es 0)];exact .plain H rfl rfl (.emp a)
    .cases c;cases u with
     |f8 _ _ _ k a cap bx M B I=>
      rw[run a _ cap B];exact .plain H rfl rfl (.f8 _ _ _ _ _ _ bx M B I)
    .cases c
   ·
    rename_i src N ac;have N:src≠ []:=fun e=>N e;split at c
    .rename_i av;simp only[AP,D3,beq_iff_eq]at av;obtain⟨⟨ar,a2⟩,c2⟩:=av;have a2:src.length<=BF:=Ge a2;have C: ∀e∈src,e.length=f.size:=fun e h=>by rw[(ar e h).1,L]
     have bi: ∀x∈src.flatten,x.isCell=true:=by
      intro b8 ag;obtain⟨e,T,ag⟩:=Nl.1 ag;exact(ar e T).2 b8 ag
     obtain⟨ax,Q,ad,arr,q,g⟩:=aX (P:=P) H D ac C;subst ad;have O:arr.size=src.length*f.size:=by rw[<-g.1,Da C]
     have a3:=g.cellsOne bi;have c1:BF=1073741824:=rfl;have c3:0<src.length:=by cases src with|nil=>exact absurd rfl N|cons=>simp
     have fresh: ∀(a:Option Addr),newArr h.get ρ j src=some eff->Ew A ρ β w h (((Builtin.append_ #[t,t2] ty #[.slice a 0 0,.slice ax src.length Q]).run P w).andThen fun v w'=>.ok (.value v) w') eff:=by
      intro a b1;have b3:(Builtin.firstCells f.size 0 (.slice a 0 0)).run P w.drew=.ok #[] w.drew:=by
       exact zCN
      obtain⟨a5,az,b4⟩:=SY (w:=w) F (ty:=ty) (base:=a) (n:=0) (m:=src.length) (cap:=0) AA AA b3 (q w.drew rfl);rw[b4];simp only[I9]at az⊢;refine R4 H (w₁:=w.drew) rfl ⟨rfl,rfl⟩ U (cap:=a5) ?_ az ?_ b1
      .simp only[T1,Builtin.zeroCells,Array.size_map,Array.size_range,ai,O,L,Rd,List.length_nil,I9,<-IT];congr 1;omega
      .intro i x v D y;have c0:i<src.length*f.size:=by rw[<-Da C];exact(BV.1 D).1
       rw[Array.empty_append,LM AA]at y;exact g.2 i x v D y
     unfold appTo at c;split at c
     .cases u;exact fresh none c
     .cases u with
      |emp a=>exact fresh a c
     .rename_i id off n;cases u with
      |f8 _ _ _ k a cap a1 M B I=>
       split at c
       .rename_i sz es V;split at c
        .rename_i o;simp only[AP]at o;have Y:sz=f.size:=by rw[D8 o.1,L]
         have X:off+n<=es.length:=Ge o.2;subst Y;unfold appIn at c;split at c
         .rename_i ds K b2;have a4: ∀p∈src.flatMap (Ca h.get),∃sz es,p.2=.i7 sz es/\h.get p.1=some (.em sz es):=by
           intro p r;obtain⟨e,_,r⟩:=CS.1 r;exact Kl r
          have S:=Ph a4;have bo:=La (vs:=src.flatten) a4 (fun p r=>by
           obtain⟨v,y,r⟩:=CS.1 r;obtain⟨e,T,y⟩:=Nl.1 y;exact CS.2 ⟨e,T,CS.2 ⟨v,y,r⟩⟩) (Fy K)
          have J:ds.length=src.length:=(Iu K).1;have bk:=bR H S.sub g (Fy K) bo;rw[<-J];rw[<-J]at q O;refine SX (eP.dat A) (S.hr H) S.sub rfl U F (es:=es) (ds:=ds) (by rw[L5 (VG b2)];exact V) a1 M B I X (Ma K C) (fun e=>by rw[e]at J;simp at J;omega) q O a3 (fun j x v a b=>bk.2 j x v a b) ?_;split at c
          .rename_i R Z;cases c;exact .inl ⟨R,Z,rfl⟩
          .split at c
           .rename_i l;simp only[AP]at l;cases c;have W:n+ds.length<=BF:=Ge l.2;exact .inr ⟨D8 l.1,AA,rfl⟩
           .cases c
         .cases c
        .cases c
       .rename_i sz es V;split at c
        .rename_i o;simp only[AP]at o;have Y:sz=f.size:=by rw[D8 o.1,L]
         have X:off+n<=es.length:=Ge o.2;subst Y;unfold appMix at c;refine SX (eP.mixed A) H (.refl h) (δ₁:=[]) rfl U F (es:=es) (ds:=src) V a1 M B I X C N q O a3 g.2 ?_;split at c
         .rename_i R Z;cases c;exact .inl ⟨R,Z,rfl⟩
         .split at c
          .rename_i l;simp only[AP]at l;cases c;have W:n+src.length<=BF:=Ge l.2;exact .inr ⟨D8 l.1,AA,rfl⟩
          .cases c
        .cases c
       .cases c
     .cases c
    .cases c
  .cases c
 .cases c
variable{A:Nat->Prop}{P:Program}{mix:List TypeId}{β:BK}{w:World}{M:Nat->Prop}
variable{vx:Value}
def Yj(H:HR A β w h){k:Nat}{x:AV}(j:VR β w (MS A β h) x vx)
 (g:Fs k x (Cb P mix t)=some eff):Ew A ρ β w h ((do pure (.value (<-Instr.fieldAt t vx k)):Sem Next).run P w) eff:=by
 cases o:Cb P mix t with
 |none=>simp[Fs,o]at g
 |some i=>
  obtain⟨info,d,z,J,h2,K,⟨_,r,_⟩,rfl⟩:=BZ o;simp only[Fs,o]at g;cases d with
  |struct p=>
   simp only[Nc,D7]at g;cases m:p.toList[k]? with
   |none=>simp[m]at g
   |some f=>
    simp only[m,F3]at g;simp only[L4,D3,AP,I5]at r;obtain⟨⟨s,q⟩,_⟩:=r f (AS m);simp only[q,F3,GO]at g;have B:p[k]? =some f:=by simpa using m
    split at g
    .cases g
    .rename_i C;have D:s.size≠0:=fun e=>C e;have run: ∀a:Addr,(Instr.fieldAt t (.pointer (some a)) k).run P w=.ok (.pointer (some (a.add f.offset))) w:=by
      intro a;simp[Instr.fieldAt,run_underlying h2,B,Instr.sureAddr,fieldPlace,Cp q,D]
     split at g
     .cases g;cases j with
      |ptr _ _ l n=>exact .plain H (v:=.pointer (some ⟨l.b,_,none⟩)) (by simp[run,E4]) rfl (.ptr _ _ l n)
     .cases g;cases j with
      |jp _ _ _ l n=>exact .plain H (v:=.pointer (some ⟨l.b,_,none⟩)) (by simp[run,E4,Rc]) rfl (.jp _ _ _ l n)
     .split at g
      .rename_i cs L;cases g;cases j with
       |rg _ b off c elem fr g1 u I y=>
        refine .plain H (v:=.pointer (some ⟨b,off+f.offset,none⟩)) (by simp[run,E4]) rfl (.rg _ b _ c elem fr g1 u Aa fun i x v j F=>?_);rw[Hm]at j;exact y _ x v j (by rw[<-F];congr 1;omega)
      .cases g
     .cases g
  |_=>simp[Nc]at g
def AAP{info:TypeInfo}(m:P.info? t=some info)(h2:P.underlying t=some d){l:List AV}(e:Hh β w M cs c)(o:K2 cs off info.size=some l)
 {r:AV} (a:HH (NK d) l=some r): ∃v,(part t c off).run P w=.ok v w/\VR β w M r v:=by
 obtain⟨p,h,k⟩:=Jt o;unfold HH at a;split at a
 .rename_i g;cases a;refine⟨.agg (c.extract off (off+info.size)),?_,.agg _ _ (by rw[h];simp;rw[<-e.1];omega) fun i x v b f=>?_⟩
  .simp[part,KN h2,g,Cp m]
  .have n:i<info.size:=by rw[<-h];exact(BV.1 b).1
   rw[k i n]at b;rw[Array.getElem?_extract]at f;split at f
   .exact e.2 _ x v b f
   .cases f
 .rename_i g;split at a
  .rename_i x;cases a;simp only[List.length_cons,List.length_nil]at h;have j:off<c.size:=by rw[<-e.1];omega
   have b:=k 0 AA;simp only[F4,Nat.add_zero]at b;refine⟨c[off],?_,e.2 off _ _ b.symm (by simp[j])⟩;simp[part,KN h2,g,j]
  .cases a
def tV(H:HR A β w h){k:Nat}{x:AV}(y:VR β w (MS A β h) x vx)
 (a:Ot k x (Cb P mix t)=some eff):Ew A ρ β w h ((do pure (.value (<-Instr.field t vx k)):Sem Next).run P w) eff:=by
 cases e:Cb P mix t with
 |none=>simp[Ot,e]at a
 |some i=>
  obtain⟨info,d,z,I,h2,J,⟨_,m,_⟩,rfl⟩:=BZ e;simp only[Ot,e]at a;cases d with
  |struct g=>
   simp only[Nc,D7]at a;cases b:g.toList[k]? with
   |none=>simp[b]at a
   |some f=>
    simp only[b,F3]at a;simp only[L4,D3,AP,I5]at m;obtain⟨⟨F,j⟩,D,n⟩:=m f (AS b);have o:g[k]? =some f:=zEz
    cases x with
    |agg cs=>
     simp only[j,F3,GO]at a;cases y with
     |agg _ c B C=>
      simp only[n,F3,GO,Bv,IN]at a;obtain⟨r,⟨l,p,q⟩,rfl⟩:=a;obtain⟨v,u,s⟩:=AAP j n (c:=c) ⟨B,C⟩ p q;exact .plain H (v:=v) (by simp[Instr.field,run_underlying h2,o,asAgg,u]) rfl s
    |_=>simp at a
  |_=>simp[Nc]at a
def G7{k:IntKind}{n:Int}{v:Value}(h:VR β w M (.d (.int k n)) v):v=.int k n:=by
 cases h with|d h=>cases h;rfl
def JW{b:Bool}{v:Value}(h:VR β w M (.d (.bool b)) v):v=.bool b:=by
 cases h with|d h=>cases h;rfl
def KI{b:ByteArray}{v:Value}(h:VR β w M (.d (.str b)) v):v=.string b:=by
 cases h with|d h=>cases h;rfl
def Yu{h:AD}(H:HR A β w h){ρ:List Nat}{t:TypeId}{x i:AV}{vx S:Value}(u:VR β w (MS A β h) x vx)(O:VR β w (MS A β h) i S){eff:C0}
 (f:Dq (Cb P mix) h.get x i (Cb P mix t)=some eff):Ew A ρ β w h ((do pure (.value (<-Instr.indexAt t vx S)):Sem Next).run P w) eff:=by
 cases M:Cb P mix t with
 |none=>simp[Dq,M]at f
 |some a5=>
  obtain⟨info,d,z,F,h2,a0,_,rfl⟩:=BZ M;simp only[Dq,M]at f;split at f
  .rename_i k n j K B;obtain⟨U,rfl⟩:=Dg K;simp only[JK]at B;obtain⟨g,T,az,g1,V,W,_,J⟩:=BZ B;have r:j.size=g.size:=by rw[J]
   have:=G7 O;subst this;unfold PH at f;split at f
   .rename_i L;obtain⟨n,rfl⟩:=LI L;simp only[F7]at f;have run: ∀(a:Addr) (len cap:Nat),n<len->(Instr.indexAt t (.slice (some a) len cap) (.int k n)).run P w=.ok (.pointer (some (a.add (n*g.size)))) w:=by
     intro a len cap p;have F:(n:Int)<(len:Int):=by exact_mod_cast p
     simp[Instr.indexAt,asIntOf,run_underlying h2,p,Cp g1]
    split at f
    .rename_i es;split at f
     .rename_i c I;split at f
      .rename_i Z;cases f;have N:c.length=g.size:=by rw[D8 Z,r]
       have p:n<es.length:=(BV.1 I).1;cases u with
       |d ac=>
        cases ac with
        |lst0 a cap=>simp at p
        |bv _ b off cap sz c' elem fr C q R a3 av a4=>
         have ai:sz=g.size:=by rw[<-N,R c (AS I)]
         subst ai;refine .plain H (v:=.pointer (some ⟨b,off+n*g.size,none⟩)) (by simp[run _ _ _ p,E4]) rfl (.rg c b _ c' elem fr C q ?_ fun i x v u ar=>?_)
         .have:=HM g.size p;rw[T2]at this;omega
         .have ad:i<g.size:=by rw[<-N];exact(BV.1 u).1
          refine av (n*g.size+i) x v ?_ (by rw[<-ar];congr 1;omega);rw[Je R I ad];exact u
      .cases f
     .cases f
    .rename_i id off len;split at f
     .rename_i p;cases u with
      |f8 _ _ _ l a cap s a1 a2 X=>
       have Y:a=some ⟨l.b,off*l.sz,none⟩:=X.resolve_right AA;subst Y;have D:l.sz=g.size->eff=⟨.jp id (off+n) 0,[]⟩->Ew A ρ β w h ((do pure (.value (<-Instr.indexAt t (.slice (some ⟨l.b,off*l.sz,none⟩) len cap) (.int k n))):Sem Next).run P w) eff:=by
        rintro e rfl;refine .plain H (v:=.pointer (some ⟨l.b,(off+n)*l.sz+0,none⟩)) (by simp[run _ _ _ p,E4,<-e,IT]) rfl (.jp _ _ _ l s)
       split at f
       .rename_i sz es y;obtain⟨Q,o,c,elem,C,q,_⟩:=H.obj id _ y;rw[s]at o;cases o;split at f
        .rename_i e;cases f;exact D (by rw[<-q,e.1,r]) rfl
        .cases f
       .rename_i sz es y;split at f
        .rename_i e;cases f;obtain⟨Q,o,ag⟩:=H.obj id _ y;rw[s]at o;cases o;rcases ag with rfl|⟨_,c,elem,fr,C,q,_⟩
         .simp at e
         .exact D (by rw[<-q,e.1,r]) rfl
        .cases f
       .rename_i sz es y;obtain⟨Q,o,c,elem,C,q,_⟩:=H.obj id _ y;rw[s]at o;cases o;split at f
        .rename_i e;cases f;exact D (by rw[<-q,e.1,r]) rfl
        .cases f
       .cases f
     .cases f
    .cases f
   .cases f
  .rename_i k n m j K B;obtain⟨U,rfl⟩:=vG K;simp only[JK]at B;obtain⟨g,T,az,g1,V,W,_,J⟩:=BZ B;have r:j.size=g.size:=by rw[J]
   have:=G7 O;subst this;unfold j6 at f;split at f
   .split at f
    .rename_i L;cases f;cases u with
     |ptr _ _ l s=>
      have F:n<(m:Int):=AA;exact .plain H (v:=.pointer (some ⟨l.b,_,none⟩)) (by simp[Instr.indexAt,asIntOf,run_underlying h2,L.1,F,Instr.sureAddr,Cp g1,E4,r]) rfl (.ptr _ _ l s)
    .cases f
   .cases f
  .cases f
variable{A:Nat->Prop}{P:Program}{mix:List TypeId}{β:BK}{w:World}{M:Nat->Prop}
inductive lZ(β:BK)(w:World)(M:Nat->Prop):Option AV->Option Value->Prop
 |none:lZ β w M none none
 |some {x v}:VR β w M x v->lZ β w M (some x) (some v)
def lZ.map{e:Nat->AV}{a:Act}(b:Kz β w M e fun t=>a.tmps.getD t Go.undef)(x:Option Operand):lZ β w M (x.map (ev e)) (x.map a.eval):=by
 cases x with
 |none=>exact .none
 |some x=>exact .some (J3 b x)
def Oj{x:AV}{v:Value}{n:Int}(h:VR β w M x v)(a:J0 x=some n): ∃k,v=.int k n:=by
 cases x with
 |d x=>
  cases x with
  |int k m=>simp only[J0,Co]at a;subst a;exact⟨k,G7 h⟩
  |_=>simp[J0]at a
 |_=>simp[J0]at a
def IZ{k:IntKind}{y:Nat}(h:n<=y)(code:BoundsCode):(Instr.sliceBound (.int k n) y code).run P w=.ok n w:=by
 simp[Instr.sliceBound,asIntOf,h]
def UC{y t z:Option AV}{p B C:Option Value}(I:lZ β w M y p)(s:lZ β w M t B)(u:lZ β w M z C){len cap:Nat}{isSlice:Bool}{l r:Nat}{f:Option Nat}
 (a:FJ y t z len=some (l,r,f)) (F:f=none->r<=cap) (H: ∀m,f=some m->m<=cap):
 (Instr.sliceBounds isSlice len cap p B C).run P w=.ok (l,r,f.getD cap) w/\l<=r/\ ∀m,f=some m->r<=m:=by
 unfold FJ at a;split at a
 .rename_i o A g c;have low: ∀q (code:BoundsCode) (K:Nat->Sem (Nat×Nat×Nat)),0<=o->o.toNat<=q->
   (match p with|some v=>(do let l<-Instr.sliceBound v q code;K l)|none=>(do let l<-pure 0;K l)).run P w=(K o.toNat).run P w:=by
   intro q code K D x;cases I with
   |none=>simp only[Iq,Co]at g;subst g;simp
   |some e=>
    simp only[Iq]at g;obtain⟨k,rfl⟩:=Oj e g;obtain⟨n,rfl⟩:=LI D;simp only[F7]at x⊢;simp only[Sem.run_bind,IZ x code,Result.andThen_ok]
  split at a
  .split at a
   .rename_i b;simp only[Co,F9]at a;obtain⟨rfl,rfl,rfl⟩:=a;have i:0<=A:=Int.le_trans b.1 b.2;refine⟨?_,AA,AG⟩;cases u;have j:=F rfl;cases s with
    |none=>
     simp only[Iq,Co]at c;subst c;simp only[F7]at*;simp only[Instr.sliceBounds,Sem.run_bind,Sem.run_pure,Result.andThen_ok];exact low len _ (fun l=>pure (l,len,cap)) b.1 AA
    |some e=>
     simp only[Iq]at c;obtain⟨k,rfl⟩:=Oj e c;obtain⟨n,rfl⟩:=LI i;simp only[F7]at*;simp only[Instr.sliceBounds,Sem.run_bind,Sem.run_pure,Result.andThen_ok,IZ j];exact low n _ (fun l=>pure (l,n,cap)) b.1 AA
   .cases a
  .split at a
   .rename_i Q m J;split at a
    .rename_i b;simp only[Co,F9]at a;obtain⟨rfl,rfl,rfl⟩:=a;have i:0<=A:=Int.le_trans b.1 b.2.1;have L:0<=m:=Int.le_trans i b.2.2;refine⟨?_,AA,by intro S h;cases h;omega⟩;have j:=H _ rfl;cases u with
     |some O=>
      cases s with
      |some e=>
       simp only[Iq]at c;obtain⟨k,rfl⟩:=Oj e c;obtain⟨R,rfl⟩:=Oj O J;obtain⟨n,rfl⟩:=LI i;obtain⟨m,rfl⟩:=LI L;simp only[F7]at*;have N:n<=m:=AA;simp only[Instr.sliceBounds,Sem.run_bind,Sem.run_pure,Result.andThen_ok,IZ j,IZ N];exact low n _ (fun l=>pure (l,n,m)) b.1 AA
    .cases a
   .cases a
 .cases a
def TA(f:P.underlying t=some d)(g: ∀n e,d≠ .array n e){x:Value}{b a c:Option Value}:
 (Instr.sliceAt t x b a c).run P w=(Instr.slice t x b a c).run P w:=by
 cases d<;>simp_all [Instr.sliceAt,run_underlying f]
def dj{h:AD}(H:HR A β w h){ρ:List Nat}{t:TypeId}{x:AV}{vx:Value}(I:VR β w (MS A β h) x vx){a2 U a3:Option AV}{Y X Z:Option Value}(bi:lZ β w (MS A β h) a2 Y)
 (bc:lZ β w (MS A β h) U X) (az:lZ β w (MS A β h) a3 Z) {eff:C0}
 (q:IM (Cb P mix) h.get x a2 U a3 (Cb P mix t)=some eff):Ew A ρ β w h ((do pure (.value (<-Instr.sliceAt t vx Y X Z)):Sem Next).run P w) eff:=by
 cases a1:Cb P mix t with
 |none=>simp[IM,a1]at q
 |some dn=>
  obtain⟨info,d,z,a6,h2,c6,_,rfl⟩:=BZ a1;simp only[IM,a1]at q
  suffices a0: ∃r,eff=⟨r,[]⟩/\ ∃v,(Instr.sliceAt t vx Y X Z).run P w=.ok v w/\VR β w (MS A β h) r v by
   obtain⟨r,rfl,v,a6,h2⟩:=a0;exact .plain H (v:=v) (by simp[a6]) rfl h2
  split at q
  .rename_i j D be;obtain⟨c1,rfl⟩:=Dg D;rw[TA h2 AG];simp only[JK]at be;obtain⟨u,c0,dq,g1,c3,c4,_,b7⟩:=BZ be;have b8:j.size=u.size:=by rw[b7]
   simp only[Bv]at q;obtain⟨r,f,rfl⟩:=q;refine⟨r,rfl,?_⟩;have run: ∀{a:Option Addr} {len cap l r:Nat} {O:Option Nat},FJ a2 U a3 len=some (l,r,O)->(O=none->r<=cap)->(∀m,O=some m->m<=cap)->
    (Instr.slice t (.slice a len cap) Y X Z).run P w=.ok (.slice (if O.getD cap=l then a else a.map (·.add (l*u.size))) (r-l) (O.getD cap-l)) w/\l<=r/\ ∀m,O=some m->r<=m:=by
    intro a len cap l r O g b3 b4;obtain⟨b1,ag⟩:=UC (P:=P) (w:=w) (isSlice:=true) bi bc az g b3 b4;refine⟨?_,ag⟩;simp only[Instr.slice,Sem.run_bind,run_underlying h2,Result.andThen_ok,b1,Cp g1,Sem.run_pure]
   unfold GZ at f;split at f
   .rename_i es _;unfold SK at f;split at f
    .rename_i l o m g;split at f
     .rename_i C;simp only[AP]at C;have R:o<=es.length:=Ge C.1;cases I with
      |d ac=>
       have a7: ∃a cap,vx=.slice a es.length cap/\es.length<=cap:=by
        cases ac with
        |lst0 a cap=>exact⟨a,cap,rfl,AG⟩
        |bv _ b off cap sz c elem fr V p S Q W J=>exact⟨_,cap,rfl,J⟩
       obtain⟨a,cap,rfl,a7⟩:=a7;split at f
       .cases f;obtain⟨y,a4,_⟩:=run (a:=a) (cap:=cap) g (fun _=>AA) AG;refine⟨_,y,.d ?_⟩;simp only[Option.getD_none];have ad:((es.drop l).take (o-l)).length=o-l:=Aa;by_cases cp:o-l=0
        .rw[cp,Rt];exact .lst0 _ _
        .cases ac with
         |lst0 a cap=>simp at R;omega
         |bv _ b off _ sz c elem fr V p S Q W J=>
          have b6:es≠ []:=fun e=>by rw[e]at R;simp at R;omega
          have cl:sz=u.size:=by
           obtain⟨e,c2,rfl⟩:=Rg b6;have:=S e AG;have c7:e.length=j.size:=D8 (by simpa[Oa]using C.2);omega
          subst cl;have b': ¬cap=l:=AA;have ch:K2 es l (o-l)=some ((es.drop l).take (o-l)):=by
           unfold K2;rw[D4 AA]
          obtain⟨a5,bx⟩:=Ue S ch;have a':=DR.bv (w:=w) (M:=MS A β h) ((es.drop l).take (o-l)) b (off+l*u.size) (cap-l) u.size c elem fr V p a5 (by
           have c8:=HM u.size R;rw[ad];have c9:l*u.size+(o-l)*u.size=o*u.size:=by rw[<-IT];congr 1;omega
           omega) (fun i x v I cn=>by
           have U:i<(o-l)*u.size:=by
            have:=(BV.1 I).1;rw[Da a5,ad]at this;exact this
           rw[bx i U]at I;refine W _ x v I ?_;rw[<-cn];congr 1;omega) (by rw[ad];omega)
          rw[ad]at a';simpa[b',E4]using a'
       .rename_i B;split at f
        .rename_i av;cases f;have L:B=l:=D8 av;subst L;have df:B<=o:=by
          unfold FJ at g;split at g
          .split at g
           .split at g<;>cases g
           .split at g
            .split at g
             .rename_i dd;simp only[Co,F9]at g;obtain⟨b1,ag,cs⟩:=g;omega
             .cases g
            .cases g
          .cases g
         obtain⟨y,a4,ai⟩:=run (a:=a) (cap:=cap) g AG (fun m L=>by cases L;omega);have:=ai B rfl;refine⟨_,y,?_⟩;have:o-B=0:=AA;simp only[GO,Kw,this];exact .emp _
        .cases f
     .cases f
    .cases f
   .rename_i id off n _;cases I with
    |f8 _ _ _ k a cap D bk de b2=>
     unfold Px at f;split at f
     .rename_i l o m g;have ar: ∀(s N:Nat),s=k.sz->0<k.sz->N*k.sz<=k.n->fW j.size id off l o m s N=some r-> ∃v,(Instr.slice t (.slice a n cap) Y X Z).run P w=.ok v w/\VR β w (MS A β h) r v:=by
       intro s N a0 cc b0 f;unfold fW at f;split at f
       .rename_i C;simp only[AP]at C;have bo:s=j.size:=D8 C.1.1.1;have bs:off+m.getD o<=N:=Ge C.1.1.2;have cx:off+o<=N:=Ge C.1.2;have c':N<=off+cap:=by
         have:N*k.sz<=(off+cap)*k.sz:=by rw[IT,bk];exact b0
         exact Nat.le_of_mul_le_mul_right this cc
        obtain⟨y,a4,ai⟩:=run (a:=a) (cap:=cap) g (fun _=>AA) (fun B L=>by subst L;simp at bs;omega);refine⟨_,y,?_⟩;cases m with
        |none=>
         simp only[Co]at f;subst f;simp only[Option.getD_none];refine .f8 _ _ _ k _ _ D ?_ AA ?_
         .rw[<-IT,<-bk,<-IT];congr 1;omega
         .by_cases b5:cap=l
          .exact .inr AA
          .rcases b2 with rfl|c5
           .left;simp only[b5,FN,F3,E4];rw[<-b8,<-bo,a0,IT]
           .exact .inr AA
        |some B=>
         simp only at f;split at f
         .rename_i av;cases f;have L:B=l:=D8 av;subst L;have:=ai B rfl;have:o-B=0:=AA;simp only[GO,Kw,this];exact .emp _
         .cases f;exact .undef _
       .cases f
      split at f
      .rename_i s es T;exact zB1
      .rename_i s es T;obtain⟨bl,F,q⟩:=H.obj id _ T;rw[D]at F;cases F;rcases q with rfl|⟨_,c,elem,fr,V,p,S,Q,W,J,_⟩
       .unfold fW at f;rw[List.length_nil,show Nat.blt 0 0=false from rfl,Gt]at f;cases f
       .exact ar s es.length p AA (by rw[<-p,<-Q];exact J) f
      .rename_i s es T;exact zB1
      .cases f
     .cases f
   .cases I;unfold di at f;split at f
    .rename_i g;cases f;obtain⟨y,_⟩:=run (a:=none) (cap:=0) g AG AG;refine⟨_,y,?_⟩;simp;exact .d7
    .rename_i g;cases f;obtain⟨y,_⟩:=run (a:=none) (cap:=0) g AG AG;refine⟨_,y,?_⟩;simp;exact .emp _
    .cases f
   .rename_i K;cases K
   .cases f
  .rename_i D;have ac:=Nj D;subst ac;rw[TA h2 AG];simp only[Bv]at q;obtain⟨r,f,rfl⟩:=q;refine⟨r,rfl,?_⟩;unfold GZ at f;split at f
   .rename_i K;cases K
   .rename_i K;cases K
   .rename_i K;cases K
   .rename_i s _;unfold xN at f;split at f
    .rename_i l o g;split at f
     .rename_i R;cases f;have:=KI I;subst this;obtain⟨b1,ag,_⟩:=UC (P:=P) (w:=w) (isSlice:=false) (cap:=s.size) bi bc az g (fun _=>R) AG;cases az with
      |none=>
       refine⟨.string (s.extract l o),?_,.d (.str _)⟩;simp[Instr.slice,run_underlying h2,b1]
      |some dm=>
       exfalso;unfold FJ at g;split at g<;>(try split at g)<;>(try split at g)<;>(try split at g)<;>simp_all
     .cases f
    .cases f
   .cases f
  .cases q
variable{A:Nat->Prop}{P:Program}{mix:List TypeId}{β:BK}{w:World}{M:Nat->Prop}
def ACV{h:AD}(H:HR A β w h){ρ:List Nat}{op:UnOp}{x:AV}{vx:Value}(b:VR β w (MS A β h) x vx){eff:C0}(a:py op x=some eff):
 Ew A ρ β w h ((do pure (.value (<-Op.unary op vx)):Sem Next).run P w) eff:=by
 unfold py at a;split at a
 .unfold kr at a;split at a
  .cases a;have:=JW b;subst this;exact .plain H (v:=.bool (!_)) (by simp[Op.unary]) rfl (.d (.bool _))
  .cases a
 .cases a
def AAQ{h:AD}(H:HR A β w h){ρ:List Nat}{c a b:AV}{i f g:Value}(l:VR β w (MS A β h) c i)(j:VR β w (MS A β h) a f)(k:VR β w (MS A β h) b g){eff:C0}(e:Pk c a b=some eff):
 Ew A ρ β w h ((do pure (.value (if<-asBool i then f else g)):Sem Next).run P w) eff:=by
 unfold Pk at e;split at e
 .rename_i t;cases e;have:=JW l;subst this;cases t
  .exact .plain H (v:=g) (by simp[asBool]) rfl k
  .exact .plain H (v:=f) (by simp[asBool]) rfl j
 .cases e
def fS(H:HR A β w h){k:Nat}{x:AV}(g:VR β w (MS A β h) x vx)(a:Iy k x=some eff):
 Ew A ρ β w h ((do pure (.value (<-Instr.extract vx k)):Sem Next).run P w) eff:=by
 unfold Iy at a;split at a
 .rename_i vs;simp only[Bv]at a;obtain⟨v,e,rfl⟩:=a;cases g with
  |ii _ c f h2=>
   have b:k<c.size:=by rw[<-f];exact(BV.1 e).1
   exact .plain H (v:=c[k]) (by simp[Instr.extract,b]) rfl (h2 k v _ e zE9)
 .cases a
def uw(H:HR A β w h){x:AV}(e:VR β w (MS A β h) x vx)(a:Mm t x (Cb P mix t)=some eff):
 Ew A ρ β w h ((do pure (.value (<-Instr.makeInterface t vx)):Sem Next).run P w) eff:=by
 cases b:Cb P mix t with
 |none=>simp[Mm,b]at a
 |some i=>
  obtain⟨info,d,z,f,h2,g,_,rfl⟩:=BZ b;simp only[Mm,b]at a;split at a
  .cases a
  .rename_i c;cases a;refine .plain H (v:=.iface t vx) ?_ rfl (.iface _ _ _ e);cases d<;>first|(simp[Instr.makeInterface,run_underlying h2];done)|(exact absurd rfl c)
def eG{z:Value}{b:Bool}(g:Uz z=b){r:AV}(a:HH b (z.cells.toList.map EJ)=some r):VR β w M r z:=by
 subst g;cases z with
 |agg c=>
  simp only[Uz,HH,F6,Co]at a;subst a;refine .agg _ _ (by simp[Value.cells]) fun i x v e h=>?_;simp only[Value.cells,D7,Bv,IS]at e;obtain⟨j,f,rfl⟩:=e;rw[h]at f;cases f;exact Jc
 |_=>
  simp[Uz,HH,Value.cells]at a;subst a;exact Jc
def lu{h:AD}(H:HR A β w h){ρ:List Nat}{y t:TypeId}{x:AV}{vx:Value}(a:VR β w (MS A β h) x vx){eff:C0}(b:Jm t x (Cb P mix t)=some eff):
 Ew A ρ β w h ((do pure (.value (<-Instr.typeAssert vx y t true)):Sem Next).run P w) eff:=by
 cases f:Cb P mix t with
 |none=>cases x<;>simp[Jm,f]at b
 |some i=>
  obtain⟨info,d,z,k,h2,l,⟨_,_,B,s⟩,rfl⟩:=BZ f;cases x with
  |iface C v=>
   simp only[Jm,f]at b;split at b
   .cases b
   .rename_i m;cases a with
    |iface _ _ u p=>
     have g: ∀j,d≠ .interface j:=fun j e=>by subst e;simp[DA]at m
     split at b
     .rename_i e;subst e;cases b;refine .plain H (v:=.tuple #[u,.bool true]) ?_ rfl (.ii _ _ rfl fun i x v a c=>?_)
      .cases d<;>first|(simp[Instr.typeAssert,run_underlying h2];done)|(exact absurd rfl (g _))
      .match i with
       |0=>simp at a c;subst a c;exact p
       |1=>simp at a c;subst a c;exact .d (.bool _)
       |i+2=>simp at a
     .rename_i n;simp only[Bv]at b;obtain⟨r,o,rfl⟩:=b;have q:=eG (β:=β) (w:=w) (M:=MS A β h) s o;refine .plain H (v:=.tuple #[z,.bool false]) ?_ rfl (.ii _ _ rfl fun i x v a c=>?_)
      .cases d<;>first|(simp[Instr.typeAssert,run_underlying h2,n,Eb k l];done)|(exact absurd rfl (g _))
      .match i with
       |0=>simp at a c;subst a c;exact q
       |1=>simp at a c;subst a c;exact .d (.bool _)
       |i+2=>simp at a
  |_=>simp[Jm]at b
def cK{h:AD}(H:HR A β w h){ρ:List Nat}{f:Fn}{first cap:Array Operand}{e:Nat->AV}{a:Act}(k:Kz β w (MS A β h) e fun t=>a.tmps.getD t Go.undef){eff:C0}
 (b:Ho f (first.toList.map (ev e)) (cap.toList.map (ev e))=some eff):
 Ew A ρ β w h ((do pure (.value (<-Instr.makeFunc f (first.map a.eval) (cap.map a.eval))):Sem Next).run P w) eff:=by
 have c: ∀(l:Array Operand) (i:Nat) (x:AV) (v:Value),(l.toList.map (ev e))[i]? =some x->(l.map a.eval)[i]? =some v->VR β w (MS A β h) x v:=by
  intro l i x v j g;simp only[D7,IS,Bv]at j;obtain⟨n,m,rfl⟩:=j;simp only[RD,m,F3,Co]at g;subst g;exact J3 k n
 unfold Ho at b;split at b
 .cases b;exact .plain H (v:=.func (.func _) (first.map a.eval) (cap.map a.eval)) (by simp[Instr.makeFunc]) rfl (.fn _ _ _ _ _ AG AG (c first) (c cap))
 .cases b
def cY(H:HR A β w h){x:AV}(b:VR β w (MS A β h) x vx)(c:Hp x=some eff):
 (∃a,vx=.pointer (some a))/\Ew A ρ β w h (.ok (.value vx) w) eff:=by
 unfold Hp at c;split at c<;>cases c
 .exact zCO
 .exact zCO
 .exact zCO
def vr{h:AD}(H:HR A β w h){ρ:List Nat}{t ty:TypeId}{x:AV}{vx:Value}(c:VR β w (MS A β h) x vx){n:Nat}{i:TI}(l:Cb P mix t=some i)(b:WB h.get i.kind x=some n):
 Ew A ρ β w h (((Builtin.len_ #[t] ty #[vx]).run P w).andThen fun v w'=>.ok (.value v) w') ⟨.d (.int .i64 n),[]⟩:=by
 obtain⟨info,d,z,u,h2,y,_,rfl⟩:=BZ l;refine .plain H (v:=.int .i64 n) ?_ rfl (.d (.int _ _));unfold WB at b;split at b
 .rename_i es a;obtain⟨e,rfl⟩:=Dg a;cases b;cases c with|d hd=>cases hd<;>simp[Builtin.len_,run_underlying h2,goInt]
 .rename_i s a;have:=Nj a;subst this;cases b;have:=KI c;subst this;simp[Builtin.len_,run_underlying h2,goInt]
 .rename_i a;exact zBb
 .rename_i a;exact zBb
 .rename_i id off m a;exact zBb
 .rename_i id a;obtain⟨C,e,rfl⟩:=U0 a;split at b
  .rename_i es g;cases b;obtain⟨k,j,r,q,o,p,_⟩:=H.obj id _ g;cases c with
   |mp _ B f=>
    rw[j]at f;cases f;simp[Builtin.len_,run_underlying h2,goInt,getObj,Sem.run,o,p]
  .cases b
 .cases b
def ACJ{h:AD}(H:HR A β w h){ρ:List Nat}{ts:Array TypeId}{ty:TypeId}{x c:AV}{vx b:Value}(f:VR β w (MS A β h) x vx)(g:VR β w (MS A β h) c b){eff:C0}(a:ck x c=some eff):
 Ew A ρ β w h (((Builtin.max_ ts ty #[vx,b]).run P w).andThen fun v w'=>.ok (.value v) w') eff:=by
 unfold ck at a;split at a
 .split at a
  .rename_i e;cases a;have:=G7 f;have:=G7 g;subst vx b;exact .plain H (v:=.int _ _) (by simp[Builtin.max_,Builtin.max2]) rfl (.d (.int _ _))
  .cases a
 .cases a
def ACO{h:AD}(H:HR A β w h){ρ:List Nat}{ts:Array TypeId}{ty:TypeId}{x c:AV}{vx b:Value}(f:VR β w (MS A β h) x vx)(g:VR β w (MS A β h) c b){eff:C0}(a:cm x c=some eff):
 Ew A ρ β w h (((Builtin.min_ ts ty #[vx,b]).run P w).andThen fun v w'=>.ok (.value v) w') eff:=by
 unfold cm at a;split at a
 .split at a
  .rename_i e;cases a;have:=G7 f;have:=G7 g;subst vx b;exact .plain H (v:=.int _ _) (by simp[Builtin.min_,Builtin.min2]) rfl (.d (.int _ _))
  .cases a
 .cases a
variable{A:Nat->Prop}{P:Program}{mix:List TypeId}{β:BK}{w:World}{M:Nat->Prop}
def uy{h:AD}(H:HR A β w h){ρ:List Nat}{t:TypeId}{x i:AV}{vx f:Value}(u:VR β w (MS A β h) x vx)(q:VR β w (MS A β h) i f){eff:C0}(a:Mn x i (Cb P mix t)=some eff):
 Ew A ρ β w h ((do pure (.value (<-Instr.index t vx f)):Sem Next).run P w) eff:=by
 cases e:Cb P mix t with
 |none=>simp[Mn,e]at a
 |some B=>
  obtain⟨info,d,z,y,h2,g,_,rfl⟩:=BZ e;simp only[Mn,e,F3]at a;split at a
  .rename_i s k n m;simp only[Co]at m;have:=Nj m;subst this;have:=KI u;have:=G7 q;subst vx f;split at a
   .rename_i r;obtain⟨n,rfl⟩:=LI r;simp only[F7,Bv]at a;obtain⟨b,j,rfl⟩:=a;have p:s[n]? =some b:=by
     have c:n<s.data.toList.length:=(BV.1 j).1;have o:n<s.size:=zEs
     have l:=j;rw[CO c]at l;rw[getElem?_pos s n o];have g:s[n]'o=s.data[n]' zEs:=rfl;rw[g];simpa using l
    refine .plain H (v:=.int .u8 b.toNat) ?_ rfl (.d (.int _ _));simp[Instr.index,asIntOf,run_underlying h2,p]
   .cases a
  .cases a
def hP{h:AD}(H:HR A β w h){ρ:List Nat}(e: ∀id,ρ<:+id->β id=none){t:TypeId}{r:Option Operand}{a:Act}{eff:C0}(b:Iz ρ r=some eff):
 Ew A ρ β w h ((do pure (.value (<-Instr.makeMap t (r.map a.eval))):Sem Next).run P w) eff:=by
 cases r with
 |some _=>simp[Iz]at b
 |none=>
  simp only[Iz,Co]at b;subst b;have f:((do pure (.value (<-Instr.makeMap t ((none:Option Operand).map a.eval))):Sem Next).run P w)=.ok (.value (.map (some w.heap.size))) (World.add w (.map #[] 0)):=by
   simp[Instr.makeMap,World.add]
  rw[f];refine VD H (.refl h) rfl ⟨rfl,rfl⟩ e 1 (k:=⟨w.heap.size,0,0⟩) rfl rfl ?_ ?_
  .intro c _ _ _;exact⟨#[],0,MM w _,rfl,AG⟩
  .intro c;exact .mp _ _ (HS _ _ _)
def su{h:AD}(H:HR A β w h){ρ:List Nat}{t ty:TypeId}{x:AV}{vx:Value}(b:VR β w (MS A β h) x vx){eff:C0}(f:Hc (Cb P mix) h.get (Cb P mix t) x=some eff):
 Ew A ρ β w h (((Builtin.clear_ #[t] ty #[vx]).run P w).andThen fun v w'=>.ok (.value v) w') eff:=by
 cases K:Cb P mix t with
 |none=>simp[Hc,K]at f
 |some c4=>
  obtain⟨info,d,z,cn,h2,cp,_,rfl⟩:=BZ K;simp only[Hc,K]at f;have nothing: ∀a cap,(Builtin.clear_ #[t] ty #[.slice a 0 cap]).run P w=.ok (.tuple #[]) w:=by
   intro a cap;cases a<;>simp[Builtin.clear_,run_underlying h2]
  split at f
  .rename_i id off n F;obtain⟨ch,rfl⟩:=Dg F;cases b with
   |f8 _ _ _ k a cap s c1 cx a3=>
    split at f
    .cases f;rw[nothing];exact .plain H rfl rfl (.undef _)
    .rename_i n' I;have I:n≠0:=fun e=>I e;split at f
     .rename_i j R;simp only[JK]at R;obtain⟨bs,b',l,g1,cl,a2,⟨_,_,c2,_⟩,S⟩:=BZ R;unfold JI at f;split at f
      .rename_i sz es C;split at f
       .rename_i M ac;split at f
        .rename_i a5;obtain⟨ar,b7,av,b8⟩:=a5;simp only[Bv]at f;obtain⟨az,V,rfl⟩:=f;obtain⟨c3,T,c,elem,ag,b0,L,b1,b2,b3,ai⟩:=H.obj id _ C;rw[s]at T;cases T;subst b0;have a4:a=some ⟨k.b,off*k.sz,none⟩:=a3.resolve_right AA;subst a4;have D:j.zero=l.cells.toList.map EJ:=by rw[S]
         have cs:j.size=bs.size:=by rw[S]
         have ad:l.cells.size=k.sz:=by
          have:=(FR ac).1;rw[D]at this;simp at this;omega
         have bo:Hh β w (MS A β h) j.zero l.cells:=by
          rw[D];exact⟨AG,fun i x v b g=>by
           simp only[D7,Bv,IS]at b;obtain⟨b6,X,rfl⟩:=b;rw[g]at X;cases X;exact Jc⟩
         obtain⟨be,bl⟩:(∀v∈l.cells,v.oneCell'=true)/\ ∀{y:Nat->Prop} {w':World} (i:Nat) (x:Al) (v:Value),M[i]? =some x->l.cells[i]? =some v->DR w' y x v:=by
          refine⟨bo.cellsOne (fun x b=>D3.1 av x b),fun{y w'} i x v b g=>?_⟩;obtain⟨a0,a1⟩:=FR ac;have q:i<j.zero.length:=by rw[<-a0];exact(BV.1 b).1
          have o:=a1 i _ x (CO q) b;have B:j.zero[i]? =some (EJ v):=by
           rw[D,D7,IS,g];rfl
          rw[CO q]at B;simp only[Co]at B;rw[B]at o;have p:VR (fun _=>none) w' y (EJ v) v:=Jc;cases r:EJ v with
          |d b6=>
           rw[r]at o p;simp only[FQ,Co]at o;subst o;cases p with|d hd=>exact hd
          |d7=>
           exact zDc
          |emp=>
           exact zDc
          |f8 id off len=>rw[r]at p;cases p with|f8 _ _ _ k a cap F=>cases F
          |_=>rw[r]at o;simp[FQ]at o
         have U: ∀e∈List.replicate n M,e.length=k.sz:=fun e bc=>by rw[Pl bc];exact ar
         obtain⟨bv,bx⟩:=TC b2 U V;obtain⟨b4,b5,_⟩:=FC V;have Y:(Builtin.zeroCells l.cells n).size=n*k.sz:=by simp[Builtin.zeroCells,ad]
         have u:off*k.sz+(Builtin.zeroCells l.cells n).size<=c.size:=by
          have:=HM k.sz b4;rw[I7,IT]at this;rw[Y];omega
         have Z: ∀i,i<n*k.sz->(Builtin.zeroCells l.cells n)[i]? =l.cells[i % k.sz]? :=by
          intro i q;have c0:i % k.sz<k.sz:=UN _ L;simp only[Builtin.zeroCells,RD,ad];rw[Array.getElem?_range,D4 q];simp only[F3];rw[getElem!_pos l.cells (i % k.sz) AA];rw[Ex AA]
         have bi:(Builtin.clear_ #[t] ty #[.slice (some ⟨k.b,off*k.sz,none⟩) n cap]).run P w=.ok (.tuple #[]) (World.ip w k.b (.cells (HN c (off*k.sz) (Builtin.zeroCells l.cells n).toList) elem (0,0))):=by
          have W:=JR (P:=P) (Builtin.zeroCells l.cells n).toList (off*k.sz) w c 0 ag zFV (fun v g=>by
           have bk:v∈Builtin.zeroCells l.cells n:=by simpa using g
           obtain⟨i,q,rfl⟩:=Array.mem_iff_getElem.1 bk;have:=Z i AA;rw[Ex q]at this;exact be _ (RX this.symm))
          simp only[Nat.add_zero]at W;obtain⟨m,rfl⟩:=Nat.exists_eq_succ_of_ne_zero I;simp[Builtin.clear_,run_underlying h2,Eb g1 a2,W]
         have J:=IU H (o':=.em k.sz az) C rfl s (.cells (HN c (off*k.sz) (Builtin.zeroCells l.cells n).toList) elem (0,0));refine⟨_,.tuple #[],_,β,by rw[bi];rfl,.inl rfl,.refl β,fun _ h=>.inl h,?_,J,.undef _,MO _ (Ac.2 rfl) s,fun _ _ h=>.inl h⟩;refine H.upd' C rfl s ⟨_,elem,JS _ (AK ag),rfl,L,by rw[GU zFV];exact b1,bv,by rw[GU zFV,b5];exact b3,fun i x v b g=>?_⟩;rw[bx]at b;rw[GL zFV]at g;have cc:off*k.sz+(Builtin.zeroCells l.cells n).toList.length=off*k.sz+n*k.sz:=by rw[OS,Y]
         rw[I7]at b;by_cases N:i<off*k.sz
         .rw[D4 N]at b g;exact(ai i x v b g).mono J
         .rw[Ci N]at b g;by_cases O:i<off*k.sz+n*k.sz
          .rw[D4 O]at b;rw[D4 AA]at g;simp only[IS]at g;have Q:i-off*k.sz<n*k.sz:=AA;rw[Z _ Q]at g;have a6:(i-off*k.sz)/k.sz<n:=Nat.div_lt_of_lt_mul (by rw[Pm k.sz n];exact Q);have a7:(i-off*k.sz) % k.sz<k.sz:=UN _ L;have a':(i-off*k.sz)/k.sz*k.sz+(i-off*k.sz) % k.sz=i-off*k.sz:=by rw[Pm];exact Nat.div_add_mod _ _
           have:=Je U (k:=(i-off*k.sz)/k.sz) (e:=M) (by simp[a6]) a7;rw[a',b]at this;exact bl _ x v this.symm g
          .rw[Ci O]at b;rw[Ci AA]at g;exact(ai i x v b g).mono J
        .cases f
       .cases f
      .cases f
     .cases f
  .exact zDt
  .exact zDt
  .cases f
