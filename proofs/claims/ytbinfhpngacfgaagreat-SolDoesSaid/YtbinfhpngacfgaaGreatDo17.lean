/- Parts of it. -/
import Derived.Test.YtbinfhpngacfgaaGreatDo16
set_option linter.all false
namespace Go
theorem zEr{p:Prop}(h:p:=by rw[K.out];simp[AE]):p:=h
theorem zE4{p:Prop}(h:p:=by simp only[AE,Ac]at I;subst I;exact KS (n:=b+83) AA (under_iff.2 ⟨[1],rfl⟩)):p:=h
theorem zFA{p:Prop}(h:p:=by simp only[AE,Ac]at I;subst I;exact s.out.run.new C.out 1 _ AA):p:=h
end Go
namespace Go
theorem zAE{p:Prop}(h:p:=by obtain⟨av,az,bk,bl,bo,bs,bv⟩:=dm;replace av:e'.get 0=.ptr m 0:=av;replace az:e'.get 3=.ptr (0::0::π) 0:=az;replace bk:e'.get 4=.ptr (0::10::π) 0:=bk;replace bl:e'.get 6=.ptr (0::29::π) 0:=bl;replace bo:e'.get 7=(nI X):=bo;replace bs:e'.get 8=_:=bs;replace bv:e'.get 9=(nI j):=bv;replace fn:=AB fn;clear a' ac ad bc;refine ax ?_;exact e6.out ((_,_),b+70) fn.out):p:=h
theorem zAp{p:Prop}(h:p:=by have F:=Af j 0 8 AK AK;have I:=Af j 1 19 AK AK;have J:=Af j 1 28 AK AK;simp only[go_sem,F,I,J,b1,AM]):p:=h
theorem zAw{p:Prop}(h:p:=by
 exact .inr fun id R=>by
  simp only[AE,Ac]at R;subst R;exact⟨CM (b+73) [1] AA AA,_,rfl⟩):p:=h
theorem zA1{p:Prop}(h:p:=by have D:=Af y 1 (b+72) AA AA;have M:=Af y 1 (b+73) AA AA;have U:=Gk y 1 3 (b+83) AA AA;have d0:=Gk y 1 3 (b+70) AA AA;have d1:=Af y 1 (b+85) AA AA;have a1:=Y E zEr;simp only[go_sem,D,M,U,a1,d0,d1,b1,AM]):p:=h
theorem zA2{p:Prop}(h:p:=by obtain⟨a,l,rfl,e,h⟩:=all_cons h;obtain⟨b,l,rfl,f,h⟩:=all_cons h;obtain⟨c,rfl,g⟩:=Od h;obtain⟨a,rfl⟩:=C0 e;obtain⟨b,rfl⟩:=C0 f;obtain⟨c,rfl,_,_⟩:=Dg g WY Rl;exact⟨⟨a,b,c⟩,rfl,trivial⟩):p:=h
theorem zA4{p:Prop}(h:p:=by simp only[go_sem,Z,N,a3,a4,c9,b7,c',dd,c1,de,a5,be,bi,c2,b8,cx,(show¬b+12=b by omega),e3,ej,AM];first|done|rfl):p:=h
theorem zBZ{p:Prop}(h:p:=by have I:=Af r 1 (c+14) AA AA;have J:=Af r 1 (c+23) AA AA;simp only[go_sem,I,J,b1,AM]):p:=h
theorem zBd{p:Prop}(h:p:=by have D:=Af y 1 (b+72) AA AA;have M:=Af y 1 (b+73) AA AA;have U:=Gk y 1 3 (b+83) AA AA;have a1:=Y E zEr;simp only[go_sem,D,M,U,a1,b1,AM]):p:=h
theorem zBh{p:Prop}(h:p:=by replace c:=AB c;refine aw ?_;refine bQ (Bx b.out fun j z=>?_);obtain⟨a2,W⟩:=J.out j z;rw[get_put,AF (fun e=>a2 e.symm),Ah _ _ _ W,c.out j W];rfl):p:=h
theorem zBo{p:Prop}(h:p:=by obtain⟨a,l,rfl,c,h⟩:=all_cons h;obtain⟨b,rfl,e⟩:=Od h;obtain⟨a,rfl⟩:=C0 c;obtain⟨b,rfl⟩:=C0 e;exact⟨⟨a,b⟩,rfl,trivial⟩):p:=h
theorem zCF{p:Prop}(h:p:=by simp only[go_sem,Z,N,a3,a4,c9,b7,c',dd,c1,de,AM];first|done|rfl):p:=h
theorem zCH{p:Prop}(h:p:=by rw[B.out];rw[B.out]at R;refine V8 f.out R fun id o C=>?_;have q:=bk.out id o C;rw[←v];simp only[go_sem,q,Cz C,AM]):p:=h
theorem zCP{p:Prop}(h:p:=by
 rcases T.out j q with rfl|h
 .exact⟨(by intro e;cases e),rfl⟩
 .exact⟨(by rintro rfl;cases h),Y0 h AK⟩):p:=h
theorem zCT{p:Prop}(h:p:=by have:=B9 (n':=k) J (e▸under_iff.2 ⟨[a,c],rfl⟩);omega):p:=h
theorem zCb{p:Prop}(h:p:=by simp only[go_sem,u,q,AM];first|done|rfl):p:=h
theorem zCn{p:Prop}(h:p:=by exact⟨⟨a,b,c,d⟩,rfl,trivial⟩):p:=h
theorem zCq{p:Prop}(h:p:=by have:=bi a c k cs;rw[e,is_self]at this;cases this):p:=h
theorem zCx{p:Prop}(h:p:=by refine BT Tryz.func88 ?_;refine aw ?_;intro id b;have i:=AJ b;simp only[go_sem,i,AM]):p:=h
theorem zDh{p:Prop}(h:p:=by simp only[AE,Ac]at p;subst p;exact⟨CM (c+23) [1] AA AA,_,rfl⟩):p:=h
theorem zD2{p:Prop}(h:p:=by simp only[AE,Ac]at r;subst r;exact⟨CM 28 [1] AA AA,_,rfl⟩):p:=h
end Go
namespace Go.Proofs
open Go Go.Abs
set_option maxRecDepth 100000
def JB{α:Type}(ss:List Sh)(enc:α→List Ao)(ok:α→Prop):Prop:= ∀xs,Ly Tryz.prog 8 ss xs→ ∃a,xs=enc a∧ok a
variable{d:Ao}
theorem C0{k:IntKind}(h:dX Tryz.prog 8 (.int k) d): ∃m,d=.int k m:=by cases h;exact⟨_,rfl⟩
theorem tV(h:dX Tryz.prog 8 .bool d): ∃m,d=.bool m:=by cases h;exact⟨_,rfl⟩
variable{α:Type}{t:TypeId}{ss:List Sh}
theorem Dg{enc:α→List Ao}{ok:α→Prop}(h:dX Tryz.prog 8 (.bv t) d)(p:Ch Tryz.prog 8 t=some ss)(o:JB ss enc ok): ∃l:List α,d=.bv (l.map enc)∧l.length≤maxLen∧ ∀a∈l,ok a:=by
 cases h with
 |bv _ r es i h2 k m=>
  rw[p]at i;cases i;have key: ∀es:List (List Ao),(∀e∈es,Ly Tryz.prog 8 ss e)→ ∃l:List α,es=l.map enc∧ ∀a∈l,ok a:=by
   intro es;induction es with
   |nil=>intro _;exact⟨[],rfl,AG⟩
   |cons e es q=>
    intro j;obtain⟨a,rfl,n⟩:=o e (j e AG);obtain⟨l,rfl,g⟩:=q fun e c=>j e zFT;exact⟨a::l,rfl,fun b f=>by rcases D0.1 f with rfl|f;exact n;exact g b f⟩
  obtain⟨l,rfl,g⟩:=key es fun e c=>⟨k e c,m e c⟩;exact⟨l,rfl,by simpa using h2,g⟩
variable{xs:List Ao}
theorem Od{s:Sh}(h:Ly Tryz.prog 8 [s] xs): ∃a,xs=[a]∧dX Tryz.prog 8 s a:=by
 obtain⟨c,h2⟩:=h;rcases xs with _|⟨a,_|⟨b,l⟩⟩<;>simp at c;exact⟨a,rfl,h2 0 _ _ rfl rfl⟩
theorem all_cons{s:Sh}(h:Ly Tryz.prog 8 (s::ss) xs): ∃a l,xs=a::l∧dX Tryz.prog 8 s a∧Ly Tryz.prog 8 ss l:=by
 obtain⟨b,h2⟩:=h;rcases xs with _|⟨a,l⟩
 .simp at b
 .exact⟨a,l,rfl,h2 0 _ _ rfl rfl,by simpa using b,fun i s x c e=>h2 (i+1) s x zEp zFD⟩
theorem all_nil(h:Ly Tryz.prog 8 [] xs):xs=[]:=BI (by simpa using h.1)
theorem WY:Ch Tryz.prog 8 88=some [.int .i64,.int .i64]:=zET
theorem AEo:Ch Tryz.prog 8 85=some [.int .i64,.int .i64,.bv 85]:=zET
theorem Rl:JB [.int .i64,.int .i64] AN fun _=>True:=fun xs h=>by
 obtain⟨a,l,rfl,c,h⟩:=all_cons h;obtain⟨b,rfl,e⟩:=Od h;obtain⟨k,rfl⟩:=C0 c;obtain⟨n,rfl⟩:=C0 e;exact⟨⟨k,n⟩,rfl,trivial⟩
theorem tW{s:Sh}(h:dX Tryz.prog 8 s d):s=.bv 85→ ∃l:List Bu,d=.bv (l.map BQ):=by
 induction h with
 |bv t ss es j h2 r u v=>
  intro e;cases e;rw[AEo]at j;cases j;have key: ∀es:List (List Ao),(∀e∈es,e.length=3)→(∀e∈es,∀(i:Nat) s x,[Sh.int .i64,.int .i64,.bv 85][i]? =some s→e[i]? =some x→dX Tryz.prog 8 s x)→(∀e∈es,∀(i:Nat) s x,[Sh.int .i64,.int .i64,.bv 85][i]? =some s→e[i]? =some x→s=.bv 85→ ∃l:List Bu,x=.bv (l.map BQ))→ ∃l:List Bu,es=l.map BQ:=by
   intro es;induction es with
   |nil=>intro _ _ _;exact⟨[],rfl⟩
   |cons e es w=>
    intro k g p;obtain⟨l,rfl⟩:=w (fun e f=>k e zFU) (fun e f=>g e zFU) fun e f=>p e zFU;have y:=k e AG;rcases e with _|⟨a,_|⟨b,_|⟨c,_|⟨d,m⟩⟩⟩⟩<;>simp at y;have z:=g [a,b,c] (F9 ..) 0 _ _ rfl rfl;have A:=g [a,b,c] (F9 ..) 1 _ _ rfl rfl;have B:=p [a,b,c] (F9 ..) 2 _ _ rfl rfl rfl;obtain⟨o,rfl⟩:=C0 z;obtain⟨n,rfl⟩:=C0 A;obtain⟨q,rfl⟩:=B;exact⟨.mk o n q::l,by simp[WQ,Bu.op,Bu.n,Bu.kids]⟩
  obtain⟨l,rfl⟩:=key es r u v;exact⟨l,rfl⟩
 |_=>intro e;cases e
theorem Q6{ts:List TypeId}{xs:List AV}(h:S8 Tryz.prog 8 (t::ts) xs)(c:Ch Tryz.prog 8 t=some ss): ∃ds l,xs=Vt Tryz.prog t ds::l∧Ly Tryz.prog 8 ss ds∧S8 Tryz.prog 8 ts l:=by
 cases h with
 |cons a h2 b=>
  rw[c]at a;cases a;exact⟨_,_,rfl,h2,b⟩
theorem rQ{xs:List AV}(h:S8 Tryz.prog 8 [] xs):xs=[]:=by cases h;rfl
noncomputable def UH(t:TypeId):Bool:=match Tryz.prog.underlying t with
 |some (.struct _)=>true
 |some (.array _ _)=>true
 |_=>false
theorem Xy{ds:List Ao}(h:UH t=true):Vt Tryz.prog t ds=.agg (ds.map .d):=by
 unfold Vt;unfold UH at h;split<;>simp_all
@[go_sem] theorem ACW:BU (KL Tryz.prog cfg) 20 [] []=.ok (.ret (.d (.bool true)),[]):=by
  unfold BU;rw[tz];rfl
theorem aB:Ch Tryz.prog 8 3=some [.int .i64]:=zET
theorem xQ:Ch Tryz.prog 8 9=some [.str]:=zET
theorem s3:Ch Tryz.prog 8 140=some [.int .i64,.int .i64,.bv 85,.bv 3]:=zET
theorem vk:Ch Tryz.prog 8 147=some [.bv 187,.bv 189,.bv 151]:=zET
theorem nY:Ch Tryz.prog 8 187=some [.int .i64,.int .i64]:=zET
theorem ADW:Ch Tryz.prog 8 189=some [.int .i64,.int .i64]:=zET
theorem l5:Ch Tryz.prog 8 151=some [.int .i64,.bv 3,.int .i64]:=zET
theorem u0:Ch Tryz.prog 8 66=some [.int .i64,.bool]:=zET
theorem lG:Ch Tryz.prog 8 114=some [.int .i64,.int .i64,.bv 88]:=zET
theorem y1:Ch Tryz.prog 8 69=some [.int .i64,.int .i64,.int .i64,.bv 73]:=zET
theorem xW:Ch Tryz.prog 8 73=some [.bv 88]:=zET
theorem lz:Ch Tryz.prog 8 127=some [.int .i64,.int .i64,.bv 88]:=zET
theorem AEh:Ch Tryz.prog 8 26=some [.bv 9,.bv 140,.bv 147,.int .i64]:=zET
theorem nQ:Ch Tryz.prog 8 32=some [.bv 66,.bv 114,.bv 69,.bv 127]:=zET
theorem r2:UH 26=true:=zET
theorem m7:UH 32=true:=zET
theorem Rk:JB [.int .i64] AR fun _=>True:=fun xs h=>by
 obtain⟨a,rfl,b⟩:=Od h;obtain⟨k,rfl⟩:=C0 b;exact⟨k,rfl,trivial⟩
theorem tX(h:dX Tryz.prog 8 .str d): ∃m,d=.str m∧m.size≤maxLen:=by cases h;exact⟨_,rfl,Bs⟩
theorem pk:JB [.str] Bp fun s=>s.size≤maxLen:=fun xs h=>by
 obtain⟨a,rfl,b⟩:=Od h;obtain⟨k,rfl,c⟩:=tX b;exact⟨k,rfl,c⟩
theorem iK:JB [.int .i64,.int .i64,.bv 85,.bv 3] Ba fun _=>True:=fun xs h=>by
 obtain⟨a,l,rfl,e,h⟩:=all_cons h;obtain⟨b,l,rfl,f,h⟩:=all_cons h;obtain⟨c,l,rfl,g,h⟩:=all_cons h;obtain⟨d,rfl,i⟩:=Od h;obtain⟨a,rfl⟩:=C0 e;obtain⟨b,rfl⟩:=C0 f;obtain⟨c,rfl⟩:=tW g rfl;obtain⟨d,rfl,_,_⟩:=Dg i aB Rk;exact zCn
theorem iJ:JB [.int .i64,.int .i64] BC fun _=>True:=fun xs h=>by
 exact zBo
theorem ca:JB [.int .i64,.int .i64] Aw fun _=>True:=fun xs h=>by
 exact zBo
theorem iM:JB [.int .i64,.bv 3,.int .i64] BA fun _=>True:=fun xs h=>by
 obtain⟨a,l,rfl,e,h⟩:=all_cons h;obtain⟨b,l,rfl,f,h⟩:=all_cons h;obtain⟨c,rfl,g⟩:=Od h;obtain⟨a,rfl⟩:=C0 e;obtain⟨b,rfl,_,_⟩:=Dg f aB Rk;obtain⟨c,rfl⟩:=C0 g;exact⟨⟨a,b,c⟩,rfl,trivial⟩
theorem pg:JB [.bv 187,.bv 189,.bv 151] Bw fun _=>True:=fun xs h=>by
 obtain⟨a,l,rfl,e,h⟩:=all_cons h;obtain⟨b,l,rfl,f,h⟩:=all_cons h;obtain⟨c,rfl,g⟩:=Od h;obtain⟨a,rfl,_,_⟩:=Dg e nY iJ;obtain⟨b,rfl,_,_⟩:=Dg f ADW ca;obtain⟨c,rfl,_,_⟩:=Dg g l5 iM;exact⟨⟨a,b,c⟩,rfl,trivial⟩
theorem iQ:JB [.int .i64,.bool] Au fun _=>True:=fun xs h=>by
 obtain⟨a,l,rfl,c,h⟩:=all_cons h;obtain⟨b,rfl,e⟩:=Od h;obtain⟨a,rfl⟩:=C0 c;obtain⟨b,rfl⟩:=tV e;exact⟨⟨a,b⟩,rfl,trivial⟩
theorem cb:JB [.int .i64,.int .i64,.bv 88] BF fun _=>True:=fun xs h=>by
 exact zA2
theorem ph:JB [.bv 88] BD fun _=>True:=fun xs h=>by
 obtain⟨a,rfl,b⟩:=Od h;obtain⟨a,rfl,_,_⟩:=Dg b WY Rl;exact⟨a,rfl,trivial⟩
theorem pf:JB [.int .i64,.int .i64,.int .i64,.bv 73] DA fun _=>True:=fun xs h=>by
 obtain⟨a,l,rfl,e,h⟩:=all_cons h;obtain⟨b,l,rfl,f,h⟩:=all_cons h;obtain⟨c,l,rfl,g,h⟩:=all_cons h;obtain⟨d,rfl,i⟩:=Od h;obtain⟨a,rfl⟩:=C0 e;obtain⟨b,rfl⟩:=C0 f;obtain⟨c,rfl⟩:=C0 g;obtain⟨d,rfl,_,_⟩:=Dg i xW ph;exact zCn
theorem iU:JB [.int .i64,.int .i64,.bv 88] Ae fun _=>True:=fun xs h=>by
 exact zA2
theorem iL:JB [.bv 9,.bv 140,.bv 147,.int .i64] yA fun p=> ∀s∈p.free,s.size≤maxLen:=fun xs h=>by
 obtain⟨a,l,rfl,e,h⟩:=all_cons h;obtain⟨b,l,rfl,f,h⟩:=all_cons h;obtain⟨c,l,rfl,g,h⟩:=all_cons h;obtain⟨d,rfl,i⟩:=Od h;obtain⟨a,rfl,_,j⟩:=Dg e xQ pk;obtain⟨b,rfl,_,_⟩:=Dg f s3 iK;obtain⟨c,rfl,_,_⟩:=Dg g vk pg;obtain⟨d,rfl⟩:=C0 i;exact⟨⟨a,b,c,d⟩,rfl,j⟩
theorem pj:JB [.bv 66,.bv 114,.bv 69,.bv 127] RE fun _=>True:=fun xs h=>by
 obtain⟨a,l,rfl,e,h⟩:=all_cons h;obtain⟨b,l,rfl,f,h⟩:=all_cons h;obtain⟨c,l,rfl,g,h⟩:=all_cons h;obtain⟨d,rfl,i⟩:=Od h;obtain⟨a,rfl,_,_⟩:=Dg e u0 iQ;obtain⟨b,rfl,_,_⟩:=Dg f lG cb;obtain⟨c,rfl,_,_⟩:=Dg g y1 pf;obtain⟨d,rfl,_,_⟩:=Dg i lz iU;exact zCn
set_option maxHeartbeats 4000000
theorem kh(n:Int)(m:Nat)(j:TI)(id:Abs.Id)(off:Nat):jS n m j (.ptr id off)=if 0≤n∧n.toNat<m then some ⟨.ptr id (off+n.toNat*j.size),[]⟩else none:=rfl
attribute [go_sem] kh
variable{f:α→List Ao}{sz:Nat}
theorem jQ(k: ∀x,(f x).length=sz)(m:0<sz)(a:List α)(h:a≠ [])(n:a.length≤1000000): ∀(g:G) (b:Abs.Id) (j:TI),j.mix=false→j.size=sz→Po g b j .emp (some ((a.map f).map fun x=>x.map AV.d))=some ⟨.f8 (1::b) 0 a.length,[(1::b,.em sz (a.map f))]⟩:=by
 intro g b j l c;have:=Ss g b j (a.map f) l AA (fun e i=>by
  obtain⟨x,_,rfl⟩:=F2.1 i;rw[c];exact k x) (fun e=>h (D6.1 e)) zEj
 rw[this,As,c]
theorem ZV(l: ∀x,(f x).length=sz)(h:0<sz)(a b:List α)(i:b≠ [])(o:a.length+b.length≤1000000): ∀(id:Abs.Id) (g:G) (c:Abs.Id) (j:TI),j.size=sz→g id=some (.em sz (a.map f))→Po g c j (.f8 id 0 a.length) (some ((b.map f).map fun x=>x.map AV.d))=some ⟨.f8 (1::c) 0 (a.length+b.length),[(id,.i7 0 []),(1::c,.em sz (a.map f++b.map f))]⟩:=by
 intro id g c j n m;have:=Pq (sz:=sz) (id:=id) (a.map f) (b.map f) (fun e=>i (D6.1 e)) (fun e k=>by
  obtain⟨x,_,rfl⟩:=F2.1 k;exact l x) h Aa a.length AG g c j n m
 rw[this,As]
theorem Qv{β:Type}(f:α→β)(a b:List α):List.take (a.length+b.length) (a.map f++b.map f)=a.map f++b.map f:=By AG
attribute [go_sem] Qv
theorem wv{p:AX}{sz:List Int}(a2:BO p sz){h:AD}{π:List Nat}{m:Abs.Id}{V:MV}{st:CT}(z:VK p h m V st)(s:Bz π V m)(R:GD p sz st.d8){i:Nat}{w:GI}(O:st.d8.waits[i]? =some w)(h2:qr p st.d8 w=true)(a5:st.ev.length≤400000)(a6:st.work=0):
 ∃o h',KL Tryz.prog cfg (.fn 105) [.ptr m 0,nI i] h π true none=.ok (o,h')∧Je p π m V h (IK p st.d8 st.ev ⟨i,0,0,[]⟩) o h':=by
 have Q:=z.box;have ag:=s m (V.m_mem m);simp only[BZ]at Q;have u:=AJ ag;have q:=Ak ag;have Z:=R.small;simp only[BX.small,AP,Ap]at Z;obtain⟨cx,c0,c1,c2⟩:=Z;have b6:=AL O;obtain⟨W,xs,Y,T,cs,cc,ch⟩:=FC (ij (z.sl 2 AA) O) O;simp only[Dm]at T;have a3:=V.s_mem m (i:=2) AA (id:=W) zEt;have ad:=s W a3;have b2:=AJ ad;have b3:=Ak ad;have b0:Id.is W m=false:=Fk T Q;have cl:Id.is m W=false:=Fk Q T;have cp:IntKind.i64.wrap ((i:Int)+1)=(i:Int)+1:=wrap_id AA AA;rw[Y,a6]at Q;have az:=fun(g:G) (X:g W=some (.em 3 (st.d8.waits.map Ae++xs)))=>Nj (n:=st.d8.waits.length) X (b:=i) AA Aa Aa;have a0:=fun(g:G) (X:g W=some (.em 3 (st.d8.waits.map Ae++xs)))=>Nk (n:=st.d8.waits.length) X (a:=(i:Int)+1) AA AA AG Aa;have be:((i:Int)+1).toNat=i+1:=AA;simp only[F8,be]at az a0;have b7:i≤st.d8.waits.length+xs.length:=AA;have b8:i+(1+(st.d8.waits.length-(i+1)))≤st.d8.waits.length+xs.length:=AA;obtain⟨S,M⟩: ∃S:BX,S={st.d8 with waits:=CW st.d8.waits i}:=⟨_,rfl⟩
 obtain⟨A,K⟩: ∃A,A=st.d8.waits.take i:=⟨_,rfl⟩;obtain⟨B,L⟩: ∃B,B=st.d8.waits.drop (i+1):=⟨_,rfl⟩;have C:A.length=i:=by rw[K,F1];omega
 have D:B.length=st.d8.waits.length-(i+1):=by rw[L,Io]
 have a':List.take i (List.map (fun x=>List.map AV.d x) (List.map Ae st.d8.waits++xs))=(A.map Ae).map fun x=>x.map AV.d:=by
  rw[K,←OL,Hw Aa,←OL]
 have ac:List.take (st.d8.waits.length-(i+1)) (List.drop (i+1) (List.map (fun x=>List.map AV.d x) (List.map Ae st.d8.waits++xs)))=(B.map Ae).map fun x=>x.map AV.d:=by
  rw[L,←Pp,←OL,OK Aa,Hw AG,←Pp,By AG]
 replace z:=AB z;replace s:=AB s;replace R:=AB R;replace K:=AB K;replace L:=AB L;refine BT Tryz.func105 ?_;refine R2 2 fun ar U=>?_;have P:AH (∀(e:CB) (H:AD) (v:AV) (c:Nat),e.get 0=.ptr m 0→e.get 4=.ptr (0::8::π) 0→30≤c→H.get m=some (.box (BZ p false (V.ip 2 v) 0))→jK H 3 v ((A++B).map Ae)→(∀id∈AE v,DS 0 c π id=true∧ ∃l,id=1::l)→(∀id,Id.is m id=false→DS 0 c π id=false→H.get id=h.get id)→H.get (0::8::π)=some (.box [nI w.at_,nI w.node,.d (.bv (w.env.map AN))])→Wp cfg (KL Tryz.prog cfg) ⟨105,π,true,none,false,139⟩ 0 ar ⟨e,H,c,[]⟩ (Ki cfg none [] π true (Je p π m V h (IK p st.d8 st.ev ⟨i,0,0,[]⟩)))):=⟨fun e H v c bi bk a4 bl ai bo bs bv=>by
  rw[U];have a1:A++B=S.waits:=by rw[M,K.out,L.out];rfl
  rw[a1]at ai;obtain⟨bx,a7,_⟩:=(Ie z.out s.out fun id b=>rfl).step (b':=c) (IT _) (DZ (st':=⟨S,st.ev,0⟩) 2 AA z.out ((Ie z.out s.out fun id b=>rfl).apartB s.out) (Wk (by rw[M]) (by rw[M]) rfl) (by rw[M]) v H bl ai (.inr bo) fun id b1 j av=>bs id b1 av);exact dP a2 s.out R.out O h2 a5 M bi bk a4 a7 bv⟩
 replace U:=AB U;simp only[Tryz.f105,I3,RA];by_cases y:i=0
 .have cn:List.take i (List.map (fun x=>List.map AV.d x) (List.map Ae st.d8.waits++xs))=[]:=by rw[y];rfl
  have N:A=[]:=BI AA;clear a';replace y:=AB y;replace N:=AB N;by_cases k:st.d8.waits.length=i+1
  .have bc:List.take (st.d8.waits.length-(i+1)) (List.drop (i+1) (List.map (fun x=>List.map AV.d x) (List.map Ae st.d8.waits++xs)))=[]:=by rw[k,KW];rfl
   have t:B=[]:=BI AA;clear ac;replace k:=AB k;replace t:=AB t;refine ax ?_;refine P.out _ _ .emp 33 rfl rfl AK ?_ (.inr ⟨rfl,by rw[N.out,t.out];rfl⟩) (fun id r=>by cases r) (fun id b1 j=>?_) ?_
   .exact zCb
   .exact zAp
   .exact zBr
  .replace k:=AB k;have b5:=jQ (f:=Ae) (sz:=3) (fun _=>rfl) AK B (fun e=>by have:=k.out;rw[e]at D;simp only[List.length_nil]at D;omega) AA;refine ax ?_;refine P.out _ _ (.f8 (1::28::π) 0 (st.d8.waits.length-(i+1))) 33 rfl rfl AK ?_ (.inl (Aq [] ?_ ?_)) (fun id r=>?_) (fun id b1 j=>?_) ?_
   .exact zCb
   .rw[As,CE,C,D];have:=y.out;omega
   .rw[CI,BE];simp only[go_sem,u,q,AM];first|done|rfl|(rw[N.out];first|done|rfl)
   .exact zD2
   .exact zAp
   .exact zBr
 .have b4:=jQ (f:=Ae) (sz:=3) (fun _=>rfl) AK A (fun e=>by rw[e]at C;exact y C.symm) AA;replace y:=AB y;by_cases k:st.d8.waits.length=i+1
  .have bc:List.take (st.d8.waits.length-(i+1)) (List.drop (i+1) (List.map (fun x=>List.map AV.d x) (List.map Ae st.d8.waits++xs)))=[]:=by rw[k,KW];rfl
   have t:B=[]:=BI AA;clear ac;replace k:=AB k;replace t:=AB t;refine ax ?_;refine⟨rfl,?_⟩;refine P.out _ _ (.f8 (1::19::π) 0 i) 33 rfl rfl AK ?_ (.inl (Aq [] ?_ ?_)) (fun id r=>?_) (fun id b1 j=>?_) ?_
   .exact zCb
   .rw[As,CE,C,D];have:=k.out;omega
   .rw[CI,BE];simp only[go_sem,u,q,AM];first|done|rfl|(rw[t.out,BY,CI];first|done|rfl)
   .simp only[AE,Ac]at r;subst r;exact⟨CM 19 [1] AA AA,_,rfl⟩
   .exact zAp
   .exact zBr
  .have am:=ZV (f:=Ae) (sz:=3) (fun _=>rfl) AK A B (fun e=>by rw[e]at D;simp only[List.length_nil]at D;omega) AA;simp only[C]at am;replace k:=AB k;refine ax ?_;try refine⟨rfl,?_⟩
   refine P.out _ _ (.f8 (1::28::π) 0 (i+(st.d8.waits.length-(i+1)))) 33 rfl rfl AK ?_ (.inl (Aq [] ?_ ?_)) (fun id r=>?_) (fun id b1 j=>?_) ?_
   .exact zCb
   .rw[As,CE,C,D]
   .rw[CI,BE];simp only[go_sem,u,q,AM];first|done|rfl|(rw[C];first|done|rfl)
   .exact zD2
   .exact zAp
   .exact zBr
def hS:Code→Code
 |.seq (.seq _ (.block _ (.loop (.seq _ (.seq (.block _ c) _))))) _=>c
 |c=>c
variable{b:Nat}
theorem zc{C:DD}{K:Ab}{fr:Fr}{c:Nat}{i j k e f g:Code}{st:St}{Q:Ea→St→Prop}(h: ∀a,a=g→Wp C K fr b (i.seq ((Code.block c (k.seq (e.seq (f.seq a)))).seq j)) st Q):Wp C K fr b (i.seq ((Code.block c (k.seq (e.seq (f.seq g)))).seq j)) st Q:=h _ rfl
theorem OQ{π:List Nat}{m A W:Abs.Id}{H:AD}{e:CB}{c j a o:Nat}{q:Gp}{msg:List Cl}{zs:List (List Ao)}{rows:List (List AV)}{ac ad ag ai ar av az a0 a1 x9:AV}{t:List Int}{i k:Nat}{Q:Ea→St→Prop}
 (a4:e.get 0=.ptr m 0) (a7:e.get 3=.ptr (0::0::π) 0) (a':e.get 9=nI j) (a5:e.get 10=nI o) (a6:e.get 11=.f8 W 0 q.queue.length)
 (bv:H.get (0::0::π)=some (.box [nI (-1),nI i,nI k,.d (.bv (t.map AR))])) (T:t[j]? =some (a:Int)) (bk:H.get m=some (.box [ac,ad,ag,ai,ar,av,.f8 A 0 rows.length,az,a0,a1,x9])) (bc:H.get A=some (.arr 4 rows)) (be:H.get W=some (.em 1 (q.queue.map BD++zs))) (U:q.queue[a]? =some msg) (V:rows[o]? =some [nI q.group,nI q.index,nI q.at_,.f8 W 0 q.queue.length]) (bl:q.queue.length≤12)
 (N: ∀a n,c≤n→Id.is (a::n::π) A=false) (b4: ∀a n,c≤n→Id.is (a::n::π) W=false) (O: ∀a n,c≤n→Id.is A (a::n::π)=false) (b2: ∀a n,c≤n→Id.is (a::n::π) m=false) (b3: ∀a n,c≤n→Id.is m (a::n::π)=false) (b5: ∀a n,c≤n→Id.is W (a::n::π)=false)
 (L:AH (∀(e':CB) (H':AD) (vq:AV),(e'.get 0=e.get 0∧e'.get 3=e.get 3∧e'.get 4=e.get 4∧e'.get 6=e.get 6∧e'.get 7=e.get 7∧e'.get 8=e.get 8∧e'.get 9=e.get 9)→H'.get A=some (.arr 4 (rows.set o [nI q.group,nI q.index,nI q.at_,vq]))→jK H' 1 vq ((CW q.queue a).map BD)→(∀id∈AE vq,DS c (c+27) π id=true∧ ∃l,id=1::l)→(∀id,Id.is A id=false→DS c (c+27) π id=false→H'.get id=H.get id)→Q .normal ⟨e',H',c+27,[]⟩)):
 Wp cfg (KL Tryz.prog cfg) ⟨106,π,true,none,false,148⟩ 1 (VC 3 (hS (VC 6 (Tryz.f106.body.get rfl)))) ⟨e,H,c,[]⟩ Q:=by
 have bi:=AL U;have b0:=AL T;have bx:=AL V;have R:=fun(g:G) (M:g W=some (.em 1 (q.queue.map BD++zs)))=>Nj (n:=q.queue.length) M (b:=a) AA Aa Aa;have S:=fun(g:G) (M:g W=some (.em 1 (q.queue.map BD++zs)))=>Nk (n:=q.queue.length) M (a:=(a:Int)+1) AA AA AG Aa;have Z:((a:Int)+1).toNat=a+1:=AA;simp only[F8,Z]at R S;have b7:IntKind.i64.wrap ((a:Int)+1)=(a:Int)+1:=wrap_id AA AA;have bo:a≤q.queue.length+zs.length:=AA;have bs:a+(1+(q.queue.length-(a+1)))≤q.queue.length+zs.length:=AA;obtain⟨C,D⟩: ∃A,A=q.queue.take a:=⟨_,rfl⟩;obtain⟨u,F⟩: ∃B,B=q.queue.drop (a+1):=⟨_,rfl⟩;have w:AH ((CW q.queue a)=C++u):=⟨by rw[D,F];rfl⟩;have y:C.length=a:=by rw[D,F1];omega
 have z:u.length=q.queue.length-(a+1):=by rw[F,Io]
 have X:List.take a (List.map (fun x=>List.map AV.d x) (List.map BD q.queue++zs))=(C.map BD).map fun x=>x.map AV.d:=by
  rw[D,←OL,Hw Aa,←OL]
 have P:List.take (q.queue.length-(a+1)) (List.drop (a+1) (List.map (fun x=>List.map AV.d x) (List.map BD q.queue++zs)))=(u.map BD).map fun x=>x.map AV.d:=by
  rw[F,←Pp,←OL,OK Aa,Hw AG,←Pp,By AG]
 replace D:=AB D;replace F:=AB F;simp only[Tryz.f106,I3,VC,hS];by_cases v:a=0
 .have b6:List.take a (List.map (fun x=>List.map AV.d x) (List.map BD q.queue++zs))=[]:=by rw[v];rfl
  have K:C=[]:=BI AA;clear X;replace v:=AB v;replace K:=AB K;by_cases h:q.queue.length=a+1
  .have Y:List.take (q.queue.length-(a+1)) (List.drop (a+1) (List.map (fun x=>List.map AV.d x) (List.map BD q.queue++zs)))=[]:=by rw[h,KW];rfl
   have s:u=[]:=BI AA;clear P;replace h:=AB h;replace s:=AB s;refine ax ?_;refine L.out _ _ .emp ⟨rfl,rfl,rfl,rfl,rfl,rfl,rfl⟩ ?_ (.inr ⟨rfl,by rw[w.out,K.out,s.out];rfl⟩) (fun id p=>by cases p) fun id b1 r=>?_
   .simp only[go_sem,AM]
   .exact zDg
  .replace h:=AB h;have a3:=jQ (f:=BD) (sz:=1) (fun _=>rfl) AK u (fun e=>by have:=h.out;rw[e]at z;simp only[List.length_nil]at z;omega) AA;refine ax ?_;refine L.out _ _ (.f8 (1::(c+23)::π) 0 (q.queue.length-(a+1))) ⟨rfl,rfl,rfl,rfl,rfl,rfl,rfl⟩ ?_ (.inl (Aq [] ?_ ?_)) (fun id p=>?_) fun id b1 r=>?_
   .simp only[go_sem,N,AM]
   .rw[w.out,As,CE,y,z];have:=v.out;omega
   .rw[CI,w.out,BE];simp only[go_sem,O,AM];first|done|rfl|(rw[K.out];first|done|rfl)
   .exact zDh
   .exact zBZ
 .have a2:=jQ (f:=BD) (sz:=1) (fun _=>rfl) AK C (fun e=>by rw[e]at y;exact v y.symm) AA;replace v:=AB v;by_cases h:q.queue.length=a+1
  .have Y:List.take (q.queue.length-(a+1)) (List.drop (a+1) (List.map (fun x=>List.map AV.d x) (List.map BD q.queue++zs)))=[]:=by rw[h,KW];rfl
   have s:u=[]:=BI AA;clear P;replace h:=AB h;replace s:=AB s;refine ax ?_;try refine⟨rfl,?_⟩
   refine L.out _ _ (.f8 (1::(c+14)::π) 0 a) ⟨rfl,rfl,rfl,rfl,rfl,rfl,rfl⟩ ?_ (.inl (Aq [] ?_ ?_)) (fun id p=>?_) fun id b1 r=>?_
   .simp only[go_sem,N,AM]
   .rw[w.out,As,CE,y,z];have:=h.out;omega
   .rw[CI,w.out,BE];simp only[go_sem,O,AM];first|done|rfl|(rw[s.out,BY,CI];first|done|rfl)
   .simp only[AE,Ac]at p;subst p;exact⟨CM (c+14) [1] AA AA,_,rfl⟩
   .exact zBZ
  .have am:=ZV (f:=BD) (sz:=1) (fun _=>rfl) AK C u (fun e=>by rw[e]at z;simp only[List.length_nil]at z;omega) AA;simp only[y]at am;replace h:=AB h;refine ax ?_;try refine⟨rfl,?_⟩
   refine L.out _ _ (.f8 (1::(c+23)::π) 0 (a+(q.queue.length-(a+1)))) ⟨rfl,rfl,rfl,rfl,rfl,rfl,rfl⟩ ?_ (.inl (Aq [] ?_ ?_)) (fun id p=>?_) fun id b1 r=>?_
   .simp only[go_sem,N,AM]
   .rw[w.out,As,CE,y,z]
   .rw[CI,w.out,BE];simp only[go_sem,O,AM];first|done|rfl|(rw[y];first|done|rfl)
   .exact zDh
   .exact zBZ
theorem zX{ρ id:Abs.Id}(h:Id.under ρ id=false)(a c n:Nat):Id.is (a::c::n::ρ) id=false:=AF fun e=>by
 subst e;rw[VE]at h;cases h
theorem vC{ρ id:Abs.Id}(h:Id.under ρ id=false)(a c n:Nat):Id.is id (a::c::n::ρ)=false:=AF fun e=>by
 subst e;rw[VE]at h;cases h
theorem bp{π:List Nat}{V:MV}{m:Abs.Id}{b:Nat}{id:Abs.Id}(h:Bz π V m)(f:id∈V.ids m∨ ∃n,n<b∧Id.under (n::π) id=true∧ ∃l,id=1::l)(a c n:Nat)(j:b≤n):Id.is (a::c::n::π) id=false:=AF fun e=>by
 subst e;rcases f with f|⟨k,i,g,_⟩
 .have:=h _ f;rw[VE]at this;cases this
 .have:=B9 g (n':=n) (under_iff.2 ⟨[a,c],rfl⟩);omega
variable{π:List Nat}{V:MV}{m:Abs.Id}
theorem o9{id:Abs.Id}(h:Bz π V m)(f:id∈V.ids m∨ ∃n,n<b∧Id.under (n::π) id=true∧ ∃l,id=1::l)(a c n:Nat)(g:b≤n):Id.is id (a::c::n::π)=false:=AF fun e=>by
 have:=bp h f a c n g;rw[←e,is_self]at this;cases this
theorem Gk{b b':Nat}{π:List Nat}{id:Abs.Id}(h:DS b b' π id=false)(a c n:Nat)(f:b≤n)(h2:n<b'):Id.is (a::c::n::π) id=false:=AF fun e=>by
 subst e;have:DS b b' π (a::c::n::π)=true:=En.2 ⟨n,f,h2,under_iff.2 ⟨[a,c],rfl⟩⟩;rw[h]at this;cases this
theorem pe{p:AX}{sz:List Int}(b6:BO p sz){h:AD}{π:List Nat}{m:Abs.Id}{V:MV}{st:CT}(en:VK p h m V st)(C:Bz π V m)(dr:GD p sz st.d8){i k:Nat}{g:A8}{d:CG}{r:GH}{t:List Int}(el:st.d8.ce[i]? =some g)(h2:p.def? g.f9=some d)(fd:d.rules[k]? =some r)(h3:Al st.d8.ac (g.place d r.at_)=false)(em:Below (Bl st.d8 d g r) t)(ih:st.work=0)(j2:st.ev.length≤500000):
 ∃o h',KL Tryz.prog cfg (.fn 106) [.ptr m 0,Qq ⟨-1,i,k,t⟩] h π true none=.ok (o,h')∧Je p π m V h (Eb p 401 ⟨r.node,g.place d r.at_,g.env++(CC d g r.eq t st.d8).1⟩ ⟨(CC d g r.eq t st.d8).2,st.ev++[⟨1,g.place d r.at_,i,k,(CC d g r.eq t st.d8).1⟩],0⟩) o h':=by
 obtain⟨js,ai⟩:=dr.grp i g el;have g6:=ai.f9;rw[h2]at g6;cases g6;obtain⟨av,dn⟩:=FX ai.f9;have j0:=AL dn;have kb:=AL fd;have b3:=Kz b6 dr el ai (AS fd);have j3:=b3.j1;have kd:t.length=r.eq.length:=by have:=em.len;rw[Bl,As]at this;exact this
 have f2:=en.box;have eb:=C m (V.m_mem m);simp only[BZ]at f2;have Z:=AJ eb;have N:=Ak eb;have a3:=zX eb;have a4:=vC eb;obtain⟨W,xs,fl,ga,hr,hk,hl⟩:=FC (en.sl 1 AA) el;have hq:=C W (V.s_mem m (i:=1) AA (by rw[fl];simp[AE]));have ac:=AJ hq;have ad:=Ak hq;simp only[Dm]at ga;have hb:=dr.small;simp only[BX.small,AP,Ap]at hb;obtain⟨ky,hm,kz,k0⟩:=hb;rw[fl]at f2;have j1:=Jr b6 ai;have g7:=Iw ai;obtain⟨X,fi⟩: ∃X,g.env.length=X+d.be.length+d.ac.length:=⟨g.env.length-d.be.length-d.ac.length,by unfold CG.own at g7;omega⟩;have k2:IntKind.i64.wrap ((g.env.length:Int)-(d.ac.length:Int))=(X:Int)+(d.be.length:Int):=by rw[wrap_id AA AA];omega
 have a7:IntKind.i64.wrap ((X:Int)+(d.be.length:Int)-(d.be.length:Int))=(X:Int):=zFZ
 have h7:AH (∀(a b:Nat) c cc,a<b→r.eq[a]? =some c→r.eq[b]? =some cc→(g.own d true cc).toNat≠(g.own d true c).toNat):=⟨fun a b c cc h6 Z N=>by
  have g':=(CA b6 dn).ok.rt r (AS fd);simp only[B7,AP,Ap]at g';have:=O9 rfl g'.2.2.2 b a cc c (IT _) h6 N Z;obtain⟨D,M,_⟩:=b3.join c (AS Z);obtain⟨U,a1,_⟩:=b3.join cc (AS N);have:=JW ai.wt D M;have:=JW ai.wt U a1;omega⟩
 replace fi:=AB fi;clear g7;replace en:=AB en;replace C:=AB C;replace dr:=AB dr;replace ai:=AB ai;replace em:=AB em;replace b3:=AB b3;replace fl:=AB fl;refine BT Tryz.func106 ?_;refine ax ?_;refine Aj r.eq (S:=fun j (a:(AV×AD)×Nat)=>⟨[(0,.ptr m 0),(3,.ptr (0::0::π) 0),(4,.ptr (0::10::π) 0),(6,.ptr (0::29::π) 0),(7,nI X),(8,a.1.1),(9,nI j)],a.1.2,a.2+45,[]⟩)
  (Inv:=fun j kx a=>AH (∃u c0 L,TE (BZ p false) false p sz π m V h st d g r t j (a.2+45) a.1.1 a.1.2 u c0 L)∧a.1.2.get (0::0::π)=some (.box [nI (-1),nI i,nI k,.d (.bv (t.map AR))])∧a.1.2.get (0::10::π)=some (.box [nI g.f9,nI g.at_,.d (.bv (g.env.map AN))])∧a.1.2.get (0::29::π)=some (.box [nI r.at_,.d (.bv (r.eq.map AR)),nI r.node])) (b0:=((_,_),0)) ⟨⟨V,st.d8,[],?_⟩,?_,?_,?_⟩ ?_ ?_
 .refine⟨⟨Bx (h:=h) ?_ fun id R=>?_,fun id R=>.inl R,fun id _ c6=>?_⟩,.inl ⟨rfl,rfl⟩,BJ,fun _=>rfl,dr.out,?_,rfl,rfl,rfl,fun b7 c hc _ a5 be=>?_,AG⟩
  .have:=en.out
   rwa [show st=⟨st.d8,st.ev,0⟩ by rw[←ih]]at this
  .have D:=AJ (C.out id R);simp only[go_sem,D,AM]
  .have D:=AJ c6;simp only[go_sem,D,AM]
  .simp
  .obtain⟨D,M,U,q,a1,d0,d1⟩:=b3.out.join c (AS a5);obtain⟨b1,Y⟩:=Pt em.out b7 _ hc (by rw[Bl,D7,a5];rfl) be;have Y:hc<(LG st.d8 (g.own d true c):Nat):=Y;rw[d1]at Y;refine⟨b1,q,a1,AA,d0,?_⟩;obtain⟨ch,gg⟩:=get_some (l:=d.be) (i:=c.toNat) AA;obtain⟨kt,g1,h1,az,_⟩:=ai.out.be _ ch gg;have:=JW ai.out.wt D M;rw[show(g.own d true c).toNat=(HP p (st.d8.ce.take i)).1+c.toNat by omega,g1]at a1;cases a1;rw[MM el h2 gg h1 az,gg];rfl
 .simp only[go_sem]
 .simp only[go_sem]
 .simp only[go_sem]
 .clear f2 ga hr hk hl ac ad;rintro j c ⟨⟨v,H⟩,b⟩ c5 gr h8 ⟨s,d7,hd,he⟩ e6;dsimp only at*;obtain⟨u,c0,L,s⟩:=s.out;have es:=s.run.rep;have ar:=es.box;simp only[BZ]at ar;obtain⟨gz,d5⟩:=get_some (l:=t) (i:=j) AA;obtain⟨ke,q,e1,g8,f3,g9⟩:=s.rest j c gz (Es _) c5 d5;obtain⟨a,rfl⟩: ∃a:Nat,gz=a:=⟨gz.toNat,AA⟩;rw[F8]at g8;obtain⟨jn,g4,ks,_⟩:=b3.out.join c (AS c5);obtain⟨cl,rfl⟩: ∃cl:Nat,c=cl:=⟨c.toNat,AA⟩;obtain⟨o,e0⟩: ∃o:Nat,g.own d true cl=o:=⟨(g.own d true cl).toNat,AA⟩;have h4:=fi.out;obtain⟨g3,gs⟩:=get_some (l:=g.env) (i:=X+cl) AA;have ia:g3.n=o:=by
   rw[←e0,A8.own,D5 rfl,show g.env.length-d.ac.length-d.be.length=X by omega,F8,gs];rfl
  clear h4;obtain⟨kw,a0,gu⟩:=es.be.row _ _ e1;rcases es.arr with⟨_,cn⟩|⟨A,cn,c3⟩
  .rw[cn]at a0;simp at a0
  have i2:=AL a0;obtain⟨msg,c7⟩:=get_some (l:=q.queue) (i:=a) g8;obtain⟨Q,zs,rfl,c4,k3,kk,hj⟩:=FC (ij gu c7) c7;have fs:=s.run.ids A (u.v3_mem m zEx);have fv:=s.run.ids Q (u.row_mem m (CS.2 ⟨_,AS a0,by rw[Bq];simp[AE]⟩));have f0:=s.run.ids m (u.m_mem m);have d8:=C1 (b':=0) C.out fs;have f4:=EU C.out fs;have d':=C1 (b':=0) C.out fv;have f6:=EU C.out fv;have d9:=C1 (b':=0) C.out f0;have f5:=EU C.out f0;have hw: ∀k,Id.is A (0::k::π)=false:=fun k=>AF fun e=>Dq s.run C.out k (by rw[←e];exact u.v3_mem m zEx);have jl: ∀k,Id.is Q (0::k::π)=false:=fun k=>AF fun e=>Dq s.run C.out k (by rw[←e];exact u.row_mem m (CS.2 ⟨_,AS a0,by rw[Bq];simp[AE]⟩));have i7:Id.is A Q=false:=Fk c3 c4;have i':Id.is Q A=false:=Fk c4 c3;have hs:Id.is A m=false:=Fk c3 ar;have km:Id.is m A=false:=Fk ar c3;have jd:Id.is Q m=false:=Fk c4 ar;have kp:Id.is m Q=false:=Fk ar c4;have j':=Yh (CA b6 dn).ok s.ol e1 c7 g9;have h5:=s.len;have h9:=AH.mk (SV s C.out (CA b6 dn).ok c5 d5 e1 c7 g9 cn a0 (fun i cc I N=>h7.out j i cl cc I c5 N) (b1:=b+85) (b':=b+70+45) AA);have fr:AH (∀(H' O:AD) (a2 vq:AV),Br (BZ p false) false π m V h (b+85) u ⟨c0,st.ev,0⟩ H'→(∀k,H'.get (0::k::π)=H.get (0::k::π))→O.get A=some (.arr 4 (u.rows.set o [nI q.group,nI q.index,nI q.at_,vq]))→jK O 1 vq ((CW q.queue a).map BD)→(∀id∈AE vq,DS (b+85) (b+85+27) π id=true∧ ∃l,id=1::l)→(∀id,Id.is A id=false→DS (b+85) (b+85+27) π id=false→O.get id=H'.get id)→TB π H' (b+85) a2 (L++msg)→(∀i∈AE a2,i∉u.ids m∧DS (b+85) (b+70+45) π i=false)→(L++msg=[]→a2=.d7)→
   AH (∃hu hm ht,TE (BZ p false) false p sz π m V h st d g r t (j+1) (b+70+45) a2 O hu hm ht)∧O.get (0::0::π)=some (.box [nI (-1),nI i,nI k,.d (.bv (t.map AR))])∧O.get (0::10::π)=some (.box [nI g.f9,nI g.at_,.d (.bv (g.env.map AN))])∧O.get (0::29::π)=some (.box [nI r.at_,.d (.bv (r.eq.map AR)),nI r.node])):=⟨fun H' O a2 vq g4 cc hx hy hz e7 f9 g5 h0=>by
   have up: ∀id,DS (b+85) (b+70+45) π id=false→DS (b+85) (b+85+27) π id=false:=fun id c6=>by
    cases e2:DS (b+85) (b+85+27) π id with
    |false=>rfl
    |true=>
     obtain⟨n,e4,g2,ds⟩:=En.1 e2;rw[En.2 ⟨n,e4,AA,ds⟩]at c6;cases c6
   have bx: ∀k,k<b+85→O.get (0::k::π)=H.get (0::k::π):=fun k cs=>(e7 _ (hw k) (by
    cases e2:DS (b+85) (b+85+27) π (0::k::π)with
    |false=>rfl
    |true=>
     obtain⟨n,e4,g2,ds⟩:=En.1 e2;have:=BR π (show k≠n by omega);rw[ds]at this;cases this)).trans (cc k)
   have i4:DS (b+85) (b+85+27) π m=false:=by
    cases e2:DS (b+85) (b+85+27) π m with
    |false=>rfl
    |true=>
     obtain⟨n,e4,g2,ds⟩:=En.1 e2;rw[BM ds]at eb;cases eb
   refine⟨⟨h9.out a2 vq H' O g4 (e7 m hs i4) ?_ hy (.inr fun id R=>?_) (fun id b1 Y y hv=>e7 id Y (up id hv)) ?_ g5 h0⟩,(bx 0 AA).trans d7,(bx 10 AA).trans hd,(bx 29 AA).trans he⟩
   .rw[e0,F8];exact hx
   .obtain⟨D,M⟩:=hz id R;obtain⟨n,e4,g2,ds⟩:=En.1 D;exact⟨En.2 ⟨n,e4,AA,ds⟩,M⟩
   .rcases f9 with f9|⟨l,hi,ix,n,ki,i0,i1⟩
    .exact .inl f9
    .refine .inr ⟨l,hi,?_,n,AA,i0,i1⟩;have P:=g5 l (by rw[hi];simp[AE]);rw[e7 l (AF fun e=>P.1 (e▸u.v3_mem m zEx)) (up l P.2)];exact ix⟩
  have ha:=AB a0;rw[cn]at ar;rw[e0,F8]at a0 i2;simp only[Az]at a0;have i6:IntKind.i64.wrap ((X:Int)+(cl:Int))=((X+cl:Nat):Int):=by rw[wrap_id AA (by have:=fi.out;omega)];omega
  obtain⟨f8,gf⟩: ∃f8,f8=X+cl:=⟨_,rfl⟩;rw[←gf]at i6 gs;replace gf:=AB gf;have k1:IntKind.i64.wrap ((j:Int)+1)=(j:Int)+1:=wrap_id AA AA;have kl:f8<g.env.length:=AL gs;have k5:AN g3=[.int .i64 g3.kind,.int .i64 o]:=by rw[←ia];rfl
  replace es:=AB es;replace fs:=AB fs;replace fv:=AB fv;replace f0:=AB f0;replace e1:=AB e1;replace gu:=AB gu;replace e0:=AB e0;have ex:=s.env;replace s:=AB s;refine zc fun ji d4=>?_;replace d4:=AB d4;rcases ex with⟨rfl,rfl⟩|⟨w,rfl,gm,n,dq,J,P⟩
  .by_cases b2:msg=[]
   .subst b2;refine ax ?_;rw[d4.out];refine OQ (W:=Q) (msg:=[]) (rows:=u.rows) (zs:=zs) rfl rfl rfl rfl rfl d7 d5 ar c3 c4 c7 a0 f3 (fun a n F=>d8 a n AA) (fun a n F=>d' a n AA) (fun a n F=>f4 a n AA) (fun a n F=>d9 a n AA) (fun a n F=>f5 a n AA) (fun a n F=>f6 a n AA) ⟨fun e' O vq dm a' ac ad bc=>?_⟩;have fn:=fr.out H O .d7 vq (s.out.run.up AA) (fun _=>rfl) a' ac ad bc (.inl ⟨rfl,rfl⟩) (fun i I=>by cases I) fun _=>rfl;exact zAE
   .have ap:=Xw (sz:=2) (msg.map AN) (by simpa using b2) (by intro e gi;obtain⟨x,_,rfl⟩:=F2.1 gi;rfl) AK Aa;simp only[As]at ap;replace b2:=AB b2;refine ax ?_;rw[d4.out];refine OQ (W:=Q) (msg:=msg) (rows:=u.rows) (zs:=zs) rfl rfl rfl rfl rfl (by rw[get_put,AF AG,Co AG];exact d7) d5 (by rw[get_put,d9 _ _ AA,Co AG];exact ar) (by rw[get_put,d8 _ _ AA,Co AG];exact c3) (by rw[get_put,d' _ _ AA,Co AG];exact c4) c7 a0 f3 (fun a n F=>d8 a n AA) (fun a n F=>d' a n AA) (fun a n F=>f4 a n AA) (fun a n F=>d9 a n AA) (fun a n F=>f5 a n AA) (fun a n F=>f6 a n AA) ⟨fun e' O vq dm a' ac ad bc=>?_⟩;have fn:=fr.out (H.put (1::(b+83)::π) (.em 2 (msg.map AN))) O (.f8 (1::(b+83)::π) 0 msg.length) vq ((s.out.run.up (b':=b+83) AA).loc C.out (fun id c6=>by rw[get_put,c6 1 (b+83) AA];rfl)|>.up AA) (fun k=>by simp only[go_sem]) a' ac ad bc (HD AA rfl zFF) (fun i I=>⟨zFA,zE4⟩) (fun e=>absurd (Lc.1 e).2 b2.out);exact zAE
  .obtain⟨a5,be,f',e8⟩:=Cm dq J P;have B:=s.out.out w BJ;have i3:Id.is w A=false:=AF fun e=>B (e▸u.v3_mem m zEx);have i9:Id.is A w=false:=AF fun e=>B (e▸u.v3_mem m zEx);have hj:Id.is w Q=false:=AF fun e=>B (e▸u.row_mem m (CS.2 ⟨_,AS ha.out,by rw[Bq];simp[AE]⟩));have ja:Id.is Q w=false:=AF fun e=>B (e▸u.row_mem m (CS.2 ⟨_,AS ha.out,by rw[Bq];simp[AE]⟩));have b8:Id.is w m=false:=AF fun e=>B (e▸u.m_mem m);have cx:Id.is m w=false:=AF fun e=>B (e▸u.m_mem m);replace J:=AB J;replace P:=AB P;by_cases b2:msg=[]
   .subst b2;refine ax ?_;rw[d4.out];refine OQ (W:=Q) (msg:=[]) (rows:=u.rows) (zs:=zs) rfl rfl rfl rfl rfl d7 d5 ar c3 c4 c7 a0 f3 (fun a n F=>d8 a n AA) (fun a n F=>d' a n AA) (fun a n F=>f4 a n AA) (fun a n F=>d9 a n AA) (fun a n F=>f5 a n AA) (fun a n F=>f6 a n AA) ⟨fun e' O vq dm a' ac ad bc=>?_⟩;have fn:=fr.out H O (.f8 w 0 L.length) vq (s.out.run.up AA) (fun _=>rfl) a' ac ad bc (by rw[CI];exact Jt s.out.env AA) (fun i I=>⟨s.out.out i I,by simp only[AE,Ac]at I;subst I;exact KS (n:=n) AA J.out⟩) fun e=>by rw[CI]at e;exact s.out.ne e
    exact zAE
   .have ap:=Pq (sz:=2) (id:=w) (L.map AN) (msg.map AN) (by simpa using b2) (by intro e gi;obtain⟨x,_,rfl⟩:=F2.1 gi;rfl) AK Aa L.length AG;simp only[As]at ap;replace b2:=AB b2;refine ax ?_;rw[d4.out];obtain⟨T,cp⟩: ∃T,T=(H.put w (.i7 0 [])).put (1::(b+83)::π) (.em 2 (L.map AN++msg.map AN)):=⟨_,rfl⟩;rw[←cp];have hf:T.get A=some (.arr 4 u.rows):=by rw[cp,get_put,d8 _ _ AA,get_put,i3];exact c3
    have hg:T.get Q=some (.em 1 (q.queue.map BD++zs)):=by rw[cp,get_put,d' _ _ AA,get_put,hj];exact c4
    have hh:T.get m=_:=(show T.get m=H.get m by rw[cp,get_put,d9 _ _ AA,get_put,b8];rfl).trans ar;have g0: ∀k,T.get (0::k::π)=H.get (0::k::π):=fun k=>by rw[cp,get_put,AF AG,get_put,e8];rfl
    refine OQ (W:=Q) (msg:=msg) (rows:=u.rows) (zs:=zs) rfl rfl rfl rfl rfl ((g0 0).trans d7) d5 hh hf hg c7 a0 f3 (fun a n F=>d8 a n AA) (fun a n F=>d' a n AA) (fun a n F=>f4 a n AA) (fun a n F=>d9 a n AA) (fun a n F=>f5 a n AA) (fun a n F=>f6 a n AA) ⟨fun e' O vq dm a' ac ad bc=>?_⟩;have gv:=(s.out.run.oth (H:=H.put w (.i7 0 [])) B (BM J.out) fun id e=>by rw[get_put,AF fun N=>e N.symm];rfl).up (b':=b+83) AA;have gw:=(gv.loc C.out (H:=T) fun id c6=>by rw[cp,get_put,c6 1 (b+83) AA];rfl).up (b':=b+85) AA;have fn:=fr.out T O (.f8 (1::(b+83)::π) 0 (L.length+msg.length)) vq gw g0 a' ac ad bc (HD AA AG (by rw[cp,get_put,is_self,BE];rfl)) (fun i I=>⟨zFA,zE4⟩) (fun e=>absurd (Lc.1 e).2 b2.out);replace gv:=AB gv;replace gw:=AB gw;replace cp:=AB cp;clear hh hf hg g0;exact zAE
 .clear f2 ga hr hk hl ac ad;rintro j ⟨⟨v,H⟩,b⟩ gr h8 ⟨s,d7,hd,he⟩;dsimp only at*;obtain⟨u,c0,L,s⟩:=s.out;have ar:=s.run.rep.box;simp only[BZ]at ar;have fp:=s.all;have f1:=Ql b6 dr.out el h2 fd h3 em.out;rw[gr.out,T7,dK,CI]at fp;rw[fp]at f1⊢;have jz:L.length≤30*r.eq.length:=by have:=s.len;have:=gr.out;omega
  have ka:=OJ p g d r.at_ av dn (CA b6 dn).ok.be (CA b6 dn).ok.ac (Iw ai.out) (Jr b6 ai.out) b3.out.at0 b3.out.at1;have h5:=s.len;have ex:=s.env;have gn: ¬g.env.length=0:=by
   have it:=b3.out.j0;obtain⟨c,c5⟩:=get_some (l:=r.eq) (i:=0) it;obtain⟨D,M,_⟩:=b3.out.join c (AS c5);have:=Iw ai.out;unfold CG.own at this;omega
  have ib:=Fs g.env AA;simp only[JV,Co gn]at ib;have fa:=B4;obtain⟨d2,ag⟩: ∃E:GK,E=⟨1,g.place d r.at_,i,k,L⟩:=⟨_,rfl⟩;have a6:AH (∀(H:AD) (n:Nat),(∃df,Br (BZ p false) false π m V h n df ⟨c0,st.ev++[d2],0⟩ H)→ ∃o g1,KL Tryz.prog cfg (.fn 87) [.ptr m 0,nI r.node,nI (g.place d r.at_),.d (.bv ((g.env++L).map AN))] H (n::π) true none=.ok (o,g1)∧o=.ret (.ii [])∧Je p π m V h (Eb p 401 ⟨r.node,g.place d r.at_,g.env++L⟩ ⟨c0,st.ev++[d2],0⟩) (.ret (.ii [])) (gc (n::π) g1)):=⟨fun H n gb=>by
   obtain⟨df,gb⟩:=gb;obtain⟨o,g1,D,M,U⟩:=Jj (Tk b6 401) C.out (r:=some ⟨c0,st.ev++[d2],0⟩) (E:=[]) ⟨df,gb,fun i I=>by cases I⟩ ⟨r.node,g.place d r.at_,g.env++L⟩ (fun st' e=>by cases e;exact⟨⟨s.ol,AZ,AZ,AZ,Aa⟩,f1.2⟩) H n (Es _) (fun _ _=>rfl) fun i I=>by cases I
   exact⟨o,g1,D,M,Gb U.run⟩⟩
  have d3:AH (∀c:Nat,b+45≤c→ ∀T:AD,(∃a2,T.get m=some (.box (BZ p false (u.ip 3 a2) 0))∧Kg T 5 a2 ((st.ev++[d2]).map G4)∧(AE a2=AE (u.s 3)∨ ∀id∈AE a2,DS (b+45) c π id=true∧ ∃l,id=1::l))→(∀id,Id.is m id=false→(∀im∈AE (u.s 3),Id.is im id=false)→DS (b+45) c π id=false→T.get id=H.get id)→ ∃df,Br (BZ p false) false π m V h c df ⟨c0,st.ev++[d2],0⟩ T):=⟨fun c c5 T ⟨a2,A1,A2,A3⟩ A4=>by
   obtain⟨df,i5,_⟩:=s.run.step (b':=c) c5 (DZ (st':=⟨c0,st.ev++[d2],0⟩) 3 AA s.run.rep (s.run.apartB C.out) (jr rfl) rfl a2 T A1 A2 A3 A4);exact⟨df,i5⟩⟩
  replace gn:=AB gn;replace f1:=AB f1;replace s:=AB s;replace fp:=AB fp;replace ag:=AB ag;rcases s.out.run.rep.sl 3 AA with⟨K,d6⟩|⟨E,f7,K,ek⟩
  .rw[K]at ar;replace K:=AB K;replace d6:AH (st.ev=[]):=⟨D6.1 d6⟩;rcases ex with⟨rfl,rfl⟩|⟨w,rfl,gm,n,dq,J,P⟩
   .have b4:=Fs [] AG;simp only[JV,List.length_nil,F7,BY]at b4;simp only[CI]at a6;refine ax ?_;refine Ct (a6.out _ _ (d3.out _ AA _ ?_ fun id b1 Y y=>?_)) (fun e5 g1 b5=>?_)
    .apply Exists.intro;refine⟨?_,?_,?_⟩
     .simp only[go_sem,Z,N,a3,a4,AM];first|done|rfl
     .refine Aq [] (by simp[d6.out]) ?_;simp only[CI,BE,CO,BY,d6.out,ag.out];simp only[go_sem,Z,N,a3,a4,AM,Bi];first|done|rfl
     .exact zAw
    .have D:=Af y 1 (b+72) AA AA;have M:=Af y 1 (b+73) AA AA;have U:=Gk y 1 3 (b+83) AA AA;simp only[go_sem,D,M,U,b1,AM]
    obtain⟨a7,z⟩:=b5;subst a7;rw[ag.out]at z;replace z:=AB z;refine aw ?_;exact z.out
   .have c8: ¬L.length=0:=fun e=>by have:=s.out.ne (BI e);cases this
    have b4:=Fs L AA;simp only[JV,Co c8]at b4;obtain⟨a5,be,f',e8⟩:=Cm dq J P;have bi: ∀a c k,b+45≤k→Id.is (a::c::k::π) w=false:=fun a c k cs=>AF fun e=>by
     exact zCT
    have c2: ∀a c k,b+45≤k→Id.is w (a::c::k::π)=false:=fun a c k cs=>AF fun e=>by
     exact zCq
    have B:=s.out.out w BJ;have b8:Id.is w m=false:=AF fun e=>B (e▸u.m_mem m);have cx:Id.is m w=false:=AF fun e=>B (e▸u.m_mem m);have am:=ZV (f:=AN) (sz:=2) (fun _=>rfl) AK g.env L (fun e=>c8 zFh) AA;have hn:List.take L.length (List.map AN L)=List.map AN L:=By AG;have ho:List.take L.length (List.map (fun x=>List.map AV.d x) (List.map AN L))=(List.map AN L).map fun x=>x.map AV.d:=By AG;have hp:=Qv AN g.env L;replace J:=AB J;replace P:=AB P;replace B:=AB B;simp only[BE]at a6;refine ax ?_;refine Ct (a6.out _ _ (d3.out _ AA _ ?_ fun id b1 Y y=>?_)) (fun e5 g1 b5=>?_)
    .apply Exists.intro;refine⟨?_,?_,?_⟩
     .simp only[go_sem,Z,N,a3,a4,a5,be,bi,c2,b8,cx,(show¬b+12=b by omega),AM];first|done|rfl
     .refine Aq [] (by simp[d6.out]) ?_;simp only[CI,BE,CO,BY,d6.out,ag.out];simp only[go_sem,Z,N,a3,a4,a5,be,bi,c2,b8,cx,(show¬b+12=b by omega),AM,Bi];first|done|rfl
     .exact zAw
    .have D:=Af y 1 (b+72) AA AA;have M:=Af y 1 (b+73) AA AA;have U:=Gk y 1 3 (b+83) AA AA;have d0:=Gk y 1 3 (b+70) AA AA;have d1:=Af y 1 (b+85) AA AA;simp only[go_sem,D,M,U,d0,d1,b1,AM]
    obtain⟨a7,z⟩:=b5;subst a7;rw[ag.out]at z;replace z:=AB z;refine aw ?_;exact z.out
  .have ea:=s.out.run.ids E (u.s_mem m (i:=3) AA (by rw[K];simp[AE]));have jj: ∀k,Id.is E (0::k::π)=false:=fun k=>AF fun e=>Dq s.out.run C.out k (by rw[←e];exact u.s_mem m (i:=3) AA (by rw[K];simp[AE]));have c9:=C1 (b':=0) C.out ea;have b7:=EU C.out ea;have c':=bp C.out ea;have dd:=o9 C.out ea;have c1:Id.is E m=false:=AF fun e=>by rw[e,s.out.run.rep.box]at ek;cases ek
   have de:Id.is m E=false:=AF fun e=>by rw[←e,s.out.run.rep.box]at ek;cases ek
   simp only[Dm,Av,As]at ek K;rw[K]at ar;replace K:=AB K;replace ea:=AB ea;rcases f7 with _|⟨k4,f7⟩
   .rcases ex with⟨rfl,rfl⟩|⟨w,rfl,gm,n,dq,J,P⟩
    .have b4:=Fs [] AG;simp only[JV,List.length_nil,F7,BY]at b4;simp only[CI]at a6;refine ax ?_;refine Ct (a6.out _ _ (d3.out _ AA _ ?_ fun id b1 Y y=>?_)) (fun e5 g1 b5=>?_)
     .apply Exists.intro;refine⟨?_,?_,?_⟩
      .exact zCF
      .refine Aq [] AG ?_;simp only[CI,BE,CO,BY,ag.out];simp only[go_sem,Z,N,a3,a4,c9,b7,c',dd,c1,de,AM,Bi];first|done|rfl
      .exact zAw
     .exact zBd
     obtain⟨a7,z⟩:=b5;subst a7;rw[ag.out]at z;replace z:=AB z;refine aw ?_;exact z.out
    .have c8: ¬L.length=0:=fun e=>by have:=s.out.ne (BI e);cases this
     have b4:=Fs L AA;simp only[JV,Co c8]at b4;obtain⟨a5,be,f',e8⟩:=Cm dq J P;have bi: ∀a c k,b+45≤k→Id.is (a::c::k::π) w=false:=fun a c k cs=>AF fun e=>by
      exact zCT
     have c2: ∀a c k,b+45≤k→Id.is w (a::c::k::π)=false:=fun a c k cs=>AF fun e=>by
      exact zCq
     have B:=s.out.out w BJ;have b8:Id.is w m=false:=AF fun e=>B (e▸u.m_mem m);have cx:Id.is m w=false:=AF fun e=>B (e▸u.m_mem m);have e3:Id.is w E=false:=AF fun e=>B (e▸u.s_mem m (i:=3) AA zEr);have ej:Id.is E w=false:=AF fun e=>B (e▸u.s_mem m (i:=3) AA zEr);have am:=ZV (f:=AN) (sz:=2) (fun _=>rfl) AK g.env L (fun e=>c8 zFh) AA;have hn:List.take L.length (List.map AN L)=List.map AN L:=By AG;have ho:List.take L.length (List.map (fun x=>List.map AV.d x) (List.map AN L))=(List.map AN L).map fun x=>x.map AV.d:=By AG;have hp:=Qv AN g.env L;replace J:=AB J;replace P:=AB P;replace B:=AB B;simp only[BE]at a6;refine ax ?_;refine Ct (a6.out _ _ (d3.out _ AA _ ?_ fun id b1 Y y=>?_)) (fun e5 g1 b5=>?_)
     .apply Exists.intro;refine⟨?_,?_,?_⟩
      .exact zA4
      .refine Aq [] AG ?_;simp only[CI,BE,CO,BY,ag.out];simp only[go_sem,Z,N,a3,a4,c9,b7,c',dd,c1,de,a5,be,bi,c2,b8,cx,(show¬b+12=b by omega),e3,ej,AM,Bi];first|done|rfl
      .exact zAw
     .exact zA1
     obtain⟨a7,z⟩:=b5;subst a7;rw[ag.out]at z;replace z:=AB z;refine aw ?_;exact z.out
   .rcases ex with⟨rfl,rfl⟩|⟨w,rfl,gm,n,dq,J,P⟩
    .have b4:=Fs [] AG;simp only[JV,List.length_nil,F7,BY]at b4;simp only[CI]at a6;refine ax ?_;refine Ct (a6.out _ _ (d3.out _ AA _ ?_ fun id b1 Y y=>?_)) (fun e5 g1 b5=>?_)
     .apply Exists.intro;refine⟨?_,?_,?_⟩
      .exact zCF
      .refine Aq f7 AG ?_;simp only[BE,CO,BY,Dl,DL,Bi,ag.out];exact zCF
      .exact .inl (by rw[K.out];rfl)
     .exact zBd
     obtain⟨a7,z⟩:=b5;subst a7;rw[ag.out]at z;replace z:=AB z;refine aw ?_;exact z.out
    .have c8: ¬L.length=0:=fun e=>by have:=s.out.ne (BI e);cases this
     have b4:=Fs L AA;simp only[JV,Co c8]at b4;obtain⟨a5,be,f',e8⟩:=Cm dq J P;have bi: ∀a c k,b+45≤k→Id.is (a::c::k::π) w=false:=fun a c k cs=>AF fun e=>by
      exact zCT
     have c2: ∀a c k,b+45≤k→Id.is w (a::c::k::π)=false:=fun a c k cs=>AF fun e=>by
      exact zCq
     have B:=s.out.out w BJ;have b8:Id.is w m=false:=AF fun e=>B (e▸u.m_mem m);have cx:Id.is m w=false:=AF fun e=>B (e▸u.m_mem m);have e3:Id.is w E=false:=AF fun e=>B (e▸u.s_mem m (i:=3) AA zEr);have ej:Id.is E w=false:=AF fun e=>B (e▸u.s_mem m (i:=3) AA zEr);have am:=ZV (f:=AN) (sz:=2) (fun _=>rfl) AK g.env L (fun e=>c8 zFh) AA;have hn:List.take L.length (List.map AN L)=List.map AN L:=By AG;have ho:List.take L.length (List.map (fun x=>List.map AV.d x) (List.map AN L))=(List.map AN L).map fun x=>x.map AV.d:=By AG;have hp:=Qv AN g.env L;replace J:=AB J;replace P:=AB P;replace B:=AB B;simp only[BE]at a6;refine ax ?_;refine Ct (a6.out _ _ (d3.out _ AA _ ?_ fun id b1 Y y=>?_)) (fun e5 g1 b5=>?_)
     .apply Exists.intro;refine⟨?_,?_,?_⟩
      .exact zA4
      .refine Aq f7 AG ?_;simp only[BE,CO,BY,Dl,DL,Bi,ag.out];exact zA4
      .exact .inl (by rw[K.out];rfl)
     .exact zA1
     obtain⟨a7,z⟩:=b5;subst a7;rw[ag.out]at z;replace z:=AB z;refine aw ?_;exact z.out
structure da(p:AX)(sz:List Int)(V:MV)(G:AD):Prop where
 rep:KA p sz G [0,0,6] V ⟨sj,[],0⟩
 x0:G.get [0,0]=some (.box (pC p))
 x1:G.get [0,1]=some (.box [.d7,.d7,.d7,.d7])
 x3:G.get [0,3]=some (.box [nI 0])
theorem da.mono{p:AX}{sz:List Int}{V:MV}{G b:AD}(h:da p sz V G)(c: ∀j∈V.ids [0,0,6],∃n,n<20∧Id.under [n] j=true∧ ¬j=[0,1]∧ ¬j=[0,3])(a: ∀j,(∀k,20≤k→Id.is [1,k] j=false)→b.get j=G.get j):da p sz V b:=by
 refine⟨Bx h.rep fun j f=>a j fun k i=>AF fun e=>?_,(a _ fun k _=>rfl).trans h.x0,(a _ fun k _=>rfl).trans h.x1,(a _ fun k _=>rfl).trans h.x3⟩;obtain⟨n,g,h2,_⟩:=c j f;subst e;have:=B9 (π:=[]) h2 (under_iff.2 ⟨[1],rfl⟩:Id.under [k] [1,k]=true);omega
theorem Sx(p:AX)(a:Bool)(h:AD)(π:List Nat)(m:Abs.Id)(V:MV)(w:Int)(k:h.get m=some (.box (BZ p a V w)))(j:Id.under π m=false)(c:a=false→(V.s 0).isCell=true)(e:a=false→(V.s 1).isCell=true)(f:a=false→V.v3.isCell=true)(g:a=false→(V.s 2).isCell=true):
 ∃o h',KL Tryz.prog cfg (.fn 88) [.ptr m 0] h π true none=.ok (o,h')∧o=.ret (if a=true then .ii [.agg [.d7,.d7,.d7,.d7],.d7,nI 3]else .ii [.agg [V.s 0,V.s 1,V.v3,V.s 2],V.s 3,nI 0])∧ ∀id,Id.under π id=false→h'.get id=h.get id:=by
 simp only[BZ]at k;have l:=AJ j;have n:=Ak j;cases a
 .replace c:=c rfl;replace e:=e rfl;replace f:=f rfl;replace g:=g rfl;exact zCx
 .clear c e f g;exact zCx
variable{g:AD}
theorem s9{v:AV}{es:List (List Ao)}(h:jK g sz v es):FR g.get v=some (.d (.bv es)):=by
 rcases h with h|⟨rfl,rfl⟩
 .exact aW h
 .rfl
theorem bQ{B:MV→Int→List AV}{c:Bool}{id:Abs.Id}{st:CT}(a:GM B c g id V st):W0 (fun o' h'=>xF (o',h')=(Ax.ret (UU (oQ (some st))),[])) (Option.map AV.ii (We (Option.map AV.agg (O4 (Ec g.get (V.s 0)) (O4 (Ec g.get (V.s 1)) (O4 (Ec g.get V.v3) (O4 (Ec g.get (V.s 2)) (some [])))))) (We (FR g.get (V.s 3)) (some [nI 0])))):=by
 have b:=QE (U4 (a.sl 0 AA));have e:=QE (U4 (a.sl 1 AA));have f:=QE (U4 (a.sl 2 AA));have h:=s9 (U4 (a.sl 3 AA));have i:=UA a.arr a.be;simp only[Av]at b e f h;rw[b,e,f,h,i];rfl
variable{s:BX}{v1 v2 v3 v4:AV}{rows:List (List AV)}
theorem V8(a:S9 π s v1 v2 v3 v4 rows g){G:AD}{p:AX}(k:G.get m=some (.box (BZ p false (lj v1 v2 v3 v4 .d7 m rows) 0)))
 (e: ∀id o,g.get id=some o→G.get id=some o):VK p G m (lj v1 v2 v3 v4 .d7 m rows) ⟨s,[],0⟩:=by
 have key: ∀{sz:Nat} {v:AV} {es:List (List Ao)},Kg g sz v es→Kg G sz v es:=fun h=>by
  refine H8 h fun id b=>?_;obtain⟨x,c⟩:=H7 h b;rw[c];exact e _ _ c
 refine⟨k,.inl ⟨rfl,rfl⟩,fun i l=>?_,?_,?_,a.gw,a.qd,fun _ _ _=>rfl⟩
 .match i,l with
  |0,_=>exact key a.s0
  |1,_=>exact key a.s1
  |2,_=>exact .inl (key a.s2)
  |3,_=>exact .inl ⟨rfl,rfl⟩
 .refine LU a.arr fun id b=>?_;have:=HA a.arr b;rw[this];exact e _ _ this
 .have:=LR (g':=G) a.be fun id b=>by
   obtain⟨x,c⟩:=Kn a.be b;rw[c];exact e _ _ c
  exact⟨this.len,fun j q n=>by
   obtain⟨v,f,h2⟩:=this.row j q n;exact⟨v,f,.inl h2⟩⟩
theorem ZL{id:Abs.Id}(h:g.get id=none):((g.map fun x=>x.1).all fun x=> !Id.is id x)=true:=by
 rw[D4];intro x a;rw[AF]
 .rfl
 .rintro rfl;exact UF a h
theorem lh{n:Nat}(a:S9 [n] s v1 v2 v3 v4 rows g): ∀j∈(lj v1 v2 v3 v4 .d7 m rows).ids m,j=m∨Id.under [n] j=true:=fun j b=>by
 rcases(MV.mem _ _ j).1 b with rfl|rfl|⟨i,hi,h⟩|h|h
 .exact .inl rfl
 .exact .inl rfl
 .match i,hi with
  |0,_=>exact .inr (a.ids j (.inl h))
  |1,_=>exact .inr (a.ids j (.inr (.inl h)))
  |2,_=>exact .inr (a.ids j (.inr (.inr (.inl h))))
  |3,_=>simp[lj,AE]at h
 .exact .inr (a.ids j (by simp[lj]at h;simp[h]))
 .exact .inr (a.ids j (by simp[lj]at h;simp[h]))
theorem Y0{a:Nat}{j:Abs.Id}(h:Id.under [a] j=true)(c: ¬b=a):Id.under [b] j=false:=by
 cases e:Id.under [b] j with
 |false=>rfl
 |true=>exact absurd (B9 (π:=[]) e h) c
theorem qc{p:AX}{sz:List Int}(ag:BO p sz)(U:GD p sz s)(az:s.Fits){x:Dp}(M:Mq p s x):BU (KL Tryz.prog cfg) 56 [pA p,sA s,Qq x] []=.ok (.ret (UU (oQ (DG p s x))),[]):=by
 have be: ¬s.ac.length=0:=by
  have:=U.tree.pos;omega
 obtain⟨r,m,v1,v2,v3,v4,rows,g,rfl,f⟩:=r8 s az be 8 [];replace f:=f.cp;have S:=f.own;have O: ∀n,¬n=8→ ∀L,AD.get (g++L) [0,n]=AD.get L [0,n]:=fun n b1 L=>B5 (S _ (BR [] b1));obtain⟨X,a5⟩:=Cc f.s0;obtain⟨Y,a6⟩:=Cc f.s1;obtain⟨Z,a7⟩:=Cc f.s2;obtain⟨a4,a'⟩:=KE f.arr;have b7:=ZL (S [0,0] rfl);have b8:=ZL (S [0,1] rfl);replace S:=AB S;have b4:=O 0 AK;have b5:=O 1 AK;have b6:=O 2 AK;have bc:=O 3 AK;replace O:=AB O;have b2:=f.s0;replace ag:=AB ag;replace U:=AB U;replace M:=AB M;replace az:=AB az;replace f:=AB f;rcases b2 with⟨rfl,bl⟩|⟨b3,D,rfl,bl⟩
 .exact absurd (by rw[D6.1 bl];rfl) be
 obtain⟨V,B⟩: ∃V,V=lj (.f8 b3 0 (s.ac.map Au).length) v2 v3 v4 .d7 [0,10] rows:=⟨_,rfl⟩;have T:AH (∀j∈V.ids [0,10],j=[0,10]∨Id.under [8] j=true):=⟨by rw[B];exact lh f.out⟩;have ad:AH ([0,3] ∉V.ids [0,10]):=⟨fun h=>by rcases T.out _ h with h|h<;>cases h⟩
 have bk:AH (∀id o,g.get id=some o→Id.is [0,10] id=false):=⟨fun id o C=>AF fun e=>by rw[←e,f.out.own _ rfl]at C;cases C⟩;replace B:=AB B;cases M.out with
 | @rt i k bs d r t ac h2 bi b0 ar=>
   replace ar:=AB ar;refine A7 Tryz.func56 ?_;refine aw ?_;generalize v:AD.put (g++_) [0,10] _=H;have R:H.get [0,10]=some (.box (BZ p false V 0)):=by
    rw[←v];simp only[go_sem];rw[B.out,As];rfl
   have av:VK p H [0,10] V ⟨s,[],0⟩:=by
    exact zCH
   have Q:Bz [17] V [0,10]:=fun j z=>by
    rcases T.out j z with rfl|h
    .rfl
    .exact Y0 h AK
   have P:H.get [0,3]=some (.box [.d7,.d7,.d7,.d7]):=by
    rw[←v];simp only[go_sem,bc]
   replace v:=AB v;refine Ad (pe ag.out av Q U.out ac h2 bi b0 ar.out rfl AG) (fun a0 g1 u=>?_);replace u:Je p [17] [0,10] V H (DG p s ⟨-1,i,k,t⟩) a0 g1:=by
    have bv:s.ce[((i:Nat):Int).toNat]? =some bs:=ac;have bx:d.rules[((k:Nat):Int).toNat]? =some r:=bi;rw[DG,D5 AZ,cZ];simp only[bv,(FX h2).2,bx,Qg];exact u
   cases m:DG p s ⟨-1,i,k,t⟩with
   |none=>
    rw[m]at u;obtain⟨rfl,⟨A,w,a⟩,K⟩:=u;replace a:=(Ah [17] g1 [0,10] rfl).trans a;have D:(gc [17] g1).get [0,3]=some (.box [.d7,.d7,.d7,.d7]):=(Ah [17] g1 [0,3] rfl).trans ((K [0,3] (ad.out) rfl).trans P);replace a:=AB a;replace K:=AB K;replace m:=AB m;simp only[oQ,UU,sA,HI,BY];refine aw ?_;refine Ad (Sx p true _ _ _ A w a.out rfl AG AG AG AG) (fun a1 F N=>?_);obtain⟨rfl,c⟩:=N;have a3:=(Ah [19] F [0,3] rfl).trans ((c [0,3] rfl).trans D);replace c:=AB c;exact au
   |some st=>
    rw[m]at u;obtain⟨rfl,A,I,y⟩:=u;have b:=S4 I y Q;have J: ∀j∈A.ids [0,10],¬j=[0,3]∧Id.under [19] j=false:=fun j z=>by
     rcases y.ids j z with q|⟨q,l,rfl⟩
     .exact zCP
     .refine⟨(by intro e;cases e),?_⟩;cases M:Id.under [19] (1::l)with
      |false=>rfl
      |true=>
       have:=B9 (π:=[]) q M;cases this
    have a:=b.box;have D:(gc [17] g1).get [0,3]=some (.box [.d7,.d7,.d7,.d7]):=(Ah [17] g1 [0,3] rfl).trans ((y.frame [0,3] (ad.out) rfl).trans P);obtain⟨X,a5⟩:=Cc (b.sl 0 AA);obtain⟨Y,a6⟩:=Cc (b.sl 1 AA);obtain⟨Z,a7⟩:=U6 (b.sl 2 AA);obtain⟨a4,a'⟩:=Cc (b.sl 3 AA);obtain⟨ai,bo⟩:=KE b.arr;replace a:=AB a;replace I:=AB I;replace b:=AB b;replace y:=AB y;replace J:=AB J;replace m:=AB m;refine aw ?_;refine Ad (Sx p false _ _ _ A st.work a.out rfl (fun _=>X) (fun _=>Y) (fun _=>ai) (fun _=>Z)) (fun a1 F N=>?_);obtain⟨rfl,c⟩:=N;have a3:=(Ah [19] F [0,3] rfl).trans ((c [0,3] rfl).trans D);exact zBh
 | @wait i w ac h2=>
   refine A7 Tryz.func56 ?_;refine aw ?_;generalize v:AD.put (g++_) [0,10] _=H;have R:H.get [0,10]=some (.box (BZ p false V 0)):=by
    rw[←v];simp only[go_sem];rw[B.out,As];rfl
   have av:VK p H [0,10] V ⟨s,[],0⟩:=by
    exact zCH
   have Q:Bz [18] V [0,10]:=fun j z=>by
    rcases T.out j z with rfl|h
    .rfl
    .exact Y0 h AK
   have P:H.get [0,3]=some (.box [.d7,.d7,.d7,.d7]):=by
    rw[←v];simp only[go_sem,bc]
   replace v:=AB v;refine Ad (wv ag.out av Q U.out ac h2 AG rfl) (fun a0 g1 u=>?_);replace u:Je p [18] [0,10] V H (DG p s ⟨i,0,0,[]⟩) a0 g1:=by
    rw[←XY];exact u
   cases m:DG p s ⟨i,0,0,[]⟩with
   |none=>
    rw[m]at u;obtain⟨rfl,⟨A,w,a⟩,K⟩:=u;replace a:=(Ah [18] g1 [0,10] rfl).trans a;have D:(gc [18] g1).get [0,3]=some (.box [.d7,.d7,.d7,.d7]):=(Ah [18] g1 [0,3] rfl).trans ((K [0,3] (ad.out) rfl).trans P);replace a:=AB a;replace K:=AB K;replace m:=AB m;simp only[oQ,UU,sA,HI,BY];refine aw ?_;refine Ad (Sx p true _ _ _ A w a.out rfl AG AG AG AG) (fun a1 F N=>?_);obtain⟨rfl,c⟩:=N;have a3:=(Ah [20] F [0,3] rfl).trans ((c [0,3] rfl).trans D);replace c:=AB c;exact au
   |some st=>
    rw[m]at u;obtain⟨rfl,A,I,y⟩:=u;have b:=S4 I y Q;have J: ∀j∈A.ids [0,10],¬j=[0,3]∧Id.under [20] j=false:=fun j z=>by
     rcases y.ids j z with q|⟨q,l,rfl⟩
     .exact zCP
     .refine⟨(by intro e;cases e),?_⟩;cases M:Id.under [20] (1::l)with
      |false=>rfl
      |true=>
       have:=B9 (π:=[]) q M;cases this
    have a:=b.box;have D:(gc [18] g1).get [0,3]=some (.box [.d7,.d7,.d7,.d7]):=(Ah [18] g1 [0,3] rfl).trans ((y.frame [0,3] (ad.out) rfl).trans P);obtain⟨X,a5⟩:=Cc (b.sl 0 AA);obtain⟨Y,a6⟩:=Cc (b.sl 1 AA);obtain⟨Z,a7⟩:=U6 (b.sl 2 AA);obtain⟨a4,a'⟩:=Cc (b.sl 3 AA);obtain⟨ai,bo⟩:=KE b.arr;replace a:=AB a;replace I:=AB I;replace b:=AB b;replace y:=AB y;replace J:=AB J;replace m:=AB m;refine aw ?_;refine Ad (Sx p false _ _ _ A st.work a.out rfl (fun _=>X) (fun _=>Y) (fun _=>ai) (fun _=>Z)) (fun a1 F N=>?_);obtain⟨rfl,c⟩:=N;have a3:=(Ah [20] F [0,3] rfl).trans ((c [0,3] rfl).trans D);exact zBh
theorem nB(p:AX)(s:BX)(x:Dp):BU (KL Tryz.prog cfg) 22 [pA p,sA s,Qq x] []=.ok (.ret (UU (VV p s x)),[]):=by
 have k:=kK p s;by_cases b:CV p s=0
 .obtain⟨st,a⟩:=S0 b;have h2:=dk a.formed a.ol;have r:=AB fun(w:x∈CD p s)=>qc a.formed a.ol (PY a.looks (il a.ol)) (Oa.1 w);have u:=AB fun g (c:g∈CD p s)=>dG a.formed a.ol c;have j:=AB b;rw[b]at k;have z:=qG a.formed a.ol;clear a b;refine A7 Tryz.func22 ?_;refine aw ?_;refine Aj (CD p s) (S:=fun i (_:Unit)=>⟨[(3,.ptr [0,0] 0),(4,.ptr [0,1] 0),(5,.ptr [0,2] 0),(6,.ptr [0,3] 0),(9,.d (.bv ((CD p s).map FY))),(10,nI i)],[([0,0],.box (pC p)),([0,1],.box (sC s)),([0,2],.box [nI x.wait,nI x.group,nI x.rt,.d (.bv (x.kw.map AR))]),([0,3],.box [.d7,.d7,.d7,.d7])],4,[]⟩)
   (Inv:=fun i B _=>AH (x∉(CD p s).take i)) (b0:=()) ⟨AG⟩ ?_ ?_
  .rintro i g _ c l t h o;have A:=u.out g (AS c);have n:=ZH g x AA;have C:IntKind.i64.wrap ((i:Int)+1)=(i:Int)+1:=wrap_id AA AA;by_cases f:g=x
   .subst f;have y:=r.out (AS c);rw[D1 rfl]at n;rw[Sv j.out (AS c)];exact au
   .rw[Ci f]at n;have v:AH (x∉(CD p s).take (i+1)):=⟨by
     rw[F6,c];simp only[Option.toList_some,EL,Ac,not_or];exact⟨h.out,fun e=>f e.symm⟩⟩
    replace f:=AB f;refine aw ?_;exact o.out () v
  .rintro i _ l t h;have m:=h.out;rw[l.out,D3]at m;rw[YD j.out m];refine aw ?_;rfl
 .have q:=jh b;rw[ed x b];rw[q]at k;clear b;refine A7 Tryz.func22 ?_;refine aw ?_;rfl
structure di(r:Made):Prop where
 d8:r.d8.fits
 len:r.ev.length≤1000000
 ev: ∀e∈r.ev,e.of.length≤1000000
theorem RN(n:Int):di ⟨HI,[],n⟩:=⟨qV,AG,AG⟩
theorem uK{p:AX}{g:BX}{lt:Bo}(c:gW p g lt){ev:List GK}(h:GD p lt.co s)(f:ev.length≤1000000)(b: ∀e∈ev,dW e):di ⟨s,ev,0⟩:=by
 have a:=PY c.looks (il h);exact⟨⟨a.ac,a.ce,by have:=a.be;dsimp only;omega,a.waits,a.group,a.chan,a.wait⟩,f,fun e h=>by have:=b e h;unfold dW at this;omega⟩
theorem xu(p:AX)(s:BX)(x:Dp):di (VV p s x):=by
 by_cases a:CV p s=0
 .by_cases c:x∈CD p s
  .rw[Sv a c];obtain⟨lt,b⟩:=S0 a;cases e:DG p s x with
   |none=>exact RN 3
   |some st=>
    obtain⟨f,g⟩:=Xb b.formed b.ol (Oa.1 c) e;exact uK b f (by have:=(wO a c e).2.2;omega) (wQ b.formed b.ol (Oa.1 c) e)
  .rw[YD a c];exact RN 5
 .rw[ed x a];exact RN 2
theorem sL(p:AX)(s:BX)(x:Dp)(b: ∀s∈p.free,s.size≤maxLen):BU (KL Tryz.prog cfg) 4 [pA p,sA s,Qq x] []=.ok (.ret (.d (.bool true)),[]):=by
 have c:=AAo p s x b;have h2:=nB p s x;have a:=xu p s x;generalize VV p s x=r at c h2 a;have e:=zn r.d8 a.d8;have f:=Vg r.ev a.len a.ev;simp only[UU,sA]at c h2 e;replace b:=AB b;replace a:=AB a;refine A7 Tryz.func4 ?_;exact au
theorem uv:Ch Tryz.prog 8 38=some [.int .i64,.int .i64,.int .i64,.bv 3]:=zET
theorem ACk:UH 38=true:=zET
theorem iR:JB [.int .i64,.int .i64,.int .i64,.bv 3] FY fun _=>True:=fun xs h=>by
 obtain⟨a,l,rfl,e,h⟩:=all_cons h;obtain⟨b,l,rfl,f,h⟩:=all_cons h;obtain⟨c,l,rfl,g,h⟩:=all_cons h;obtain⟨d,rfl,i⟩:=Od h;obtain⟨a,rfl⟩:=C0 e;obtain⟨b,rfl⟩:=C0 f;obtain⟨c,rfl⟩:=C0 g;obtain⟨d,rfl,_,_⟩:=Dg i aB Rk;exact zCn
end Go.Proofs
