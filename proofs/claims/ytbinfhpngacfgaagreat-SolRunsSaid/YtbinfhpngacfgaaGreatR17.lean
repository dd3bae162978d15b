/- P -/
import Derived.Test.YtbinfhpngacfgaaGreatR16
set_option linter.all false
set_option maxRecDepth 99999
set_option maxHeartbeats 0
namespace Go
def zEy{p:Prop}(h:p:=by rw[K.1];simp[AE]):p:=h
def zE7{p:Prop}(h:p:=by simp only[AE,Ac]at I;subst I;exact Kn (n:=b+83) AA (under_iff.2 ⟨[1],rfl⟩)):p:=h
def zFG{p:Prop}(h:p:=by simp only[AE,Ac]at I;subst I;exact s.1.run.new C.1 1 _ AA):p:=h
end Go
namespace Go
def zAD{p:Prop}(h:p:=by obtain⟨av,az,bk,bl,bo,bs,bv⟩:=dm;replace av:e'.get 0=.ptr m 0:=av;replace az:e'.get 3=.ptr (0::0::π) 0:=az;replace bk:e'.get 4=.ptr (0::10::π) 0:=bk;replace bl:e'.get 6=.ptr (0::29::π) 0:=bl;replace bo:e'.get 7=(nI X):=bo;replace bs:e'.get 8=_:=bs;replace bv:e'.get 9=(nI j):=bv;replace fn:=AB fn;clear a' ac ad bc;refine ax ?_;exact e6.1 ((_,_),b+70) fn.1):p:=h
def zAf{p:Prop}(h:p:=by
 refine Az Tryz.func27 ?_
 (repeat' (first|simp only[go_sem, *,C5]|(refine sx ?_ ?_<;>intro e)|refine sy AA fun x F D=>?_|simp(disch:=first|assumption|omega) only[AR]))):p:=h
def zAl{p:Prop}(h:p:=by have F:=Af j 0 8 AZ AZ;have I:=Af j 1 19 AZ AZ;have J:=Af j 1 28 AZ AZ;simp only[go_sem,F,I,J,b1,AM]):p:=h
def zAr{p:Prop}(h:p:=by
 exact .inr fun id R=>by
  simp only[AE,Ac]at R;subst R;exact⟨CQ (b+73) [1] AA AA,_,rfl⟩):p:=h
def zAz{p:Prop}(h:p:=by have D:=Af y 1 (b+72) AA AA;have M:=Af y 1 (b+73) AA AA;have U:=G9 y 1 3 (b+83) AA AA;have d0:=G9 y 1 3 (b+70) AA AA;have d1:=Af y 1 (b+85) AA AA;have a1:=Y E zEy;simp only[go_sem,D,M,U,a1,d0,d1,b1,AM]):p:=h
def zA1{p:Prop}(h:p:=by obtain⟨a,l,rfl,e,h⟩:=all_cons h;obtain⟨b,l,rfl,f,h⟩:=all_cons h;obtain⟨c,rfl,g⟩:=O7 h;obtain⟨a,rfl⟩:=DN e;obtain⟨b,rfl⟩:=DN f;obtain⟨c,rfl,_,_⟩:=Dn g Wm SF;exact⟨⟨a,b,c⟩,rfl,trivial⟩):p:=h
def zA2{p:Prop}(h:p:=by simp only[go_sem,Z,N,a3,a4,c9,b7,c',dd,c1,de,a5,be,bi,c2,b8,cx,(show¬b+12=b by omega),e3,ej,AM];first|done|rfl):p:=h
def zBZ{p:Prop}(h:p:=by have I:=Af r 1 (c+14) AA AA;have J:=Af r 1 (c+23) AA AA;simp only[go_sem,I,J,b1,AM]):p:=h
def zBe{p:Prop}(h:p:=by have D:=Af y 1 (b+72) AA AA;have M:=Af y 1 (b+73) AA AA;have U:=G9 y 1 3 (b+83) AA AA;have a1:=Y E zEy;simp only[go_sem,D,M,U,a1,b1,AM]):p:=h
def zBo{p:Prop}(h:p:=by obtain⟨a,l,rfl,c,h⟩:=all_cons h;obtain⟨b,rfl,e⟩:=O7 h;obtain⟨a,rfl⟩:=DN c;obtain⟨b,rfl⟩:=DN e;exact⟨⟨a,b⟩,rfl,trivial⟩):p:=h
def zBp{p:Prop}(h:p:=by replace c:=AB c;refine aw ?_;refine hG (CM b.1 fun j z=>?_);obtain⟨a2,W⟩:=J.1 j z;rw[get_put,AF (fun e=>a2 e.symm),An _ _ _ W,c.1 j W];rfl):p:=h
def zCD{p:Prop}(h:p:=by simp only[go_sem,Z,N,a3,a4,c9,b7,c',dd,c1,de,AM];first|done|rfl):p:=h
def zCQ{p:Prop}(h:p:=by have:=B5 (n':=k) J (e▸under_iff.2 ⟨[a,c],rfl⟩);omega):p:=h
def zCR{p:Prop}(h:p:=by rw[B.1];rw[B.1]at R;refine Wz f.1 R fun id o C=>?_;have q:=bk.1 id o C;rw[<-v];simp only[go_sem,q,C3 C,AM]):p:=h
def zCS{p:Prop}(h:p:=by
 rcases T.1 j q with rfl|h
 .exact⟨(by intro e;cases e),rfl⟩
 .exact⟨(by rintro rfl;cases h),ZP h AZ⟩):p:=h
def zCY{p:Prop}(h:p:=by simp only[go_sem,u,q,AM];first|done|rfl):p:=h
def zCo{p:Prop}(h:p:=by have:=bi a c k cs;rw[e,is_self]at this;cases this):p:=h
def zCu{p:Prop}(h:p:=by refine BR Tryz.func88 ?_;refine aw ?_;intro id b;have i:=AI b;simp only[go_sem,i,AM]):p:=h
def zCx{p:Prop}(h:p:=by rw[y]at N u;simp only[cJ,L8,sA,GG,BY]at N;rw[u.1];replace y:=AB y;refine aw ?_;rfl):p:=h
def zDb{p:Prop}(h:p:=by simp only[AE,Ac]at p;subst p;exact⟨CQ (c+23) [1] AA AA,_,rfl⟩):p:=h
def zDo{p:Prop}(h:p:=by exact⟨⟨a,b,c,d⟩,rfl,trivial⟩):p:=h
def zD2{p:Prop}(h:p:=by simp only[AE,Ac]at r;subst r;exact⟨CQ 28 [1] AA AA,_,rfl⟩):p:=h
def zEM{p:Prop}(h:p:=by refine Az Tryz.func28 ?_;exact au):p:=h
def zEV{p:Prop}(h:p:=by refine Az Tryz.func5 ?_;exact au):p:=h
end Go
namespace Go.Proofs
open Abs
def JT{α:Type}(ss:List Sh)(enc:α->List Al)(ok:α->Prop):Prop:= ∀xs,MG Tryz.prog 8 ss xs-> ∃a,xs=enc a/\ok a
variable{d:Al}
def DN{k:IntKind}(h:eJ Tryz.prog 8 (.int k) d): ∃m,d=.int k m:=by cases h;exact⟨_,rfl⟩
def uh(h:eJ Tryz.prog 8 .bool d): ∃m,d=.bool m:=by cases h;exact⟨_,rfl⟩
variable{α:Type}{t:TypeId}{ss:List Sh}
def Dn{enc:α->List Al}{ok:α->Prop}(h:eJ Tryz.prog 8 (.bv t) d)(p:Cj Tryz.prog 8 t=some ss)(o:JT ss enc ok): ∃l:List α,d=.bv (l.map enc)/\l.length<=maxLen/\ ∀a∈l,ok a:=by
 cases h with
 |bv _ r es i h2 k m=>
  rw[p]at i;cases i;have key: ∀es:List (List Al),(∀e∈es,MG Tryz.prog 8 ss e)-> ∃l:List α,es=l.map enc/\ ∀a∈l,ok a:=by
   intro es;induction es with
   |nil=>intro _;exact⟨[],rfl,AG⟩
   |cons e es q=>
    intro j;obtain⟨a,rfl,n⟩:=o e (j e AG);obtain⟨l,rfl,g⟩:=q fun e c=>j e zFW;exact⟨a::l,rfl,fun b f=>by rcases D0.1 f with rfl|f;exact n;exact g b f⟩
  obtain⟨l,rfl,g⟩:=key es fun e c=>⟨k e c,m e c⟩;exact⟨l,rfl,by simpa using h2,g⟩
variable{xs:List Al}
def O7{s:Sh}(h:MG Tryz.prog 8 [s] xs): ∃a,xs=[a]/\eJ Tryz.prog 8 s a:=by
 obtain⟨c,h2⟩:=h;rcases xs with _|⟨a,_|⟨b,l⟩⟩<;>simp at c;exact⟨a,rfl,h2 0 _ _ rfl rfl⟩
def all_cons{s:Sh}(h:MG Tryz.prog 8 (s::ss) xs): ∃a l,xs=a::l/\eJ Tryz.prog 8 s a/\MG Tryz.prog 8 ss l:=by
 obtain⟨b,h2⟩:=h;rcases xs with _|⟨a,l⟩
 .simp at b
 .exact⟨a,l,rfl,h2 0 _ _ rfl rfl,by simpa using b,fun i s x c e=>h2 (i+1) s x zEs zFF⟩
def all_nil(h:MG Tryz.prog 8 [] xs):xs=[]:=BI (by simpa using h.1)
def Wm:Cj Tryz.prog 8 88=some [.int .i64,.int .i64]:=zEW
def zd:Cj Tryz.prog 8 85=some [.int .i64,.int .i64,.bv 85]:=zEW
def SF:JT [.int .i64,.int .i64] AN fun _=>True:=fun xs h=>by
 obtain⟨a,l,rfl,c,h⟩:=all_cons h;obtain⟨b,rfl,e⟩:=O7 h;obtain⟨k,rfl⟩:=DN c;obtain⟨n,rfl⟩:=DN e;exact⟨⟨k,n⟩,rfl,trivial⟩
def uj{s:Sh}(h:eJ Tryz.prog 8 s d):s=.bv 85-> ∃l:List B3,d=.bv (l.map BT):=by
 induction h with
 |bv t ss es j h2 r u v=>
  intro e;cases e;rw[zd]at j;cases j;have key: ∀es:List (List Al),(∀e∈es,e.length=3)->(∀e∈es,∀(i:Nat) s x,[Sh.int .i64,.int .i64,.bv 85][i]? =some s->e[i]? =some x->eJ Tryz.prog 8 s x)->(∀e∈es,∀(i:Nat) s x,[Sh.int .i64,.int .i64,.bv 85][i]? =some s->e[i]? =some x->s=.bv 85-> ∃l:List B3,x=.bv (l.map BT))-> ∃l:List B3,es=l.map BT:=by
   intro es;induction es with
   |nil=>intro _ _ _;exact⟨[],rfl⟩
   |cons e es w=>
    intro k g p;obtain⟨l,rfl⟩:=w (fun e f=>k e zFX) (fun e f=>g e zFX) fun e f=>p e zFX;have y:=k e AG;rcases e with _|⟨a,_|⟨b,_|⟨c,_|⟨d,m⟩⟩⟩⟩<;>simp at y;have z:=g [a,b,c] (F8 ..) 0 _ _ rfl rfl;have A:=g [a,b,c] (F8 ..) 1 _ _ rfl rfl;have B:=p [a,b,c] (F8 ..) 2 _ _ rfl rfl rfl;obtain⟨o,rfl⟩:=DN z;obtain⟨n,rfl⟩:=DN A;obtain⟨q,rfl⟩:=B;exact⟨.mk o n q::l,by simp[XB,B3.op,B3.n,B3.kids]⟩
  obtain⟨l,rfl⟩:=key es r u v;exact⟨l,rfl⟩
 |_=>intro e;cases e
def Rb{ts:List TypeId}{xs:List AV}(h:Td Tryz.prog 8 (t::ts) xs)(c:Cj Tryz.prog 8 t=some ss): ∃ds l,xs=Wj Tryz.prog t ds::l/\MG Tryz.prog 8 ss ds/\Td Tryz.prog 8 ts l:=by
 cases h with
 |cons a h2 b=>
  rw[c]at a;cases a;exact⟨_,_,rfl,h2,b⟩
def sM{xs:List AV}(h:Td Tryz.prog 8 [] xs):xs=[]:=by cases h;rfl
noncomputable def Uy(t:TypeId):Bool:=match Tryz.prog.underlying t with
 |some (.struct _)=>true
 |some (.array _ _)=>true
 |_=>false
def YN{ds:List Al}(h:Uy t=true):Wj Tryz.prog t ds=.agg (ds.map .d):=by
 unfold Wj;unfold Uy at h;split<;>simp_all
@[go_sem] theorem AC8:BX (KL Tryz.prog cfg) 20 [] []=.ok (.ret (.d (.bool true)),[]):=by
  unfold BX;rw[vI];rfl
def YI:Cj Tryz.prog 8 3=some [.int .i64]:=zEW
def y2:Cj Tryz.prog 8 9=some [.str]:=zEW
def ri:Cj Tryz.prog 8 140=some [.int .i64,.int .i64,.bv 85,.bv 3]:=zEW
def tb:Cj Tryz.prog 8 147=some [.bv 187,.bv 189,.bv 151]:=zEW
def hT:Cj Tryz.prog 8 187=some [.int .i64,.int .i64]:=zEW
def AD7:Cj Tryz.prog 8 189=some [.int .i64,.int .i64]:=zEW
def AD5:Cj Tryz.prog 8 151=some [.int .i64,.bv 3,.int .i64]:=zEW
def AFM:Cj Tryz.prog 8 66=some [.int .i64,.bool]:=zEW
def p5:Cj Tryz.prog 8 114=some [.int .i64,.int .i64,.bv 88]:=zEW
def AFN:Cj Tryz.prog 8 69=some [.int .i64,.int .i64,.int .i64,.bv 73]:=zEW
def AFO:Cj Tryz.prog 8 73=some [.bv 88]:=zEW
def m4:Cj Tryz.prog 8 127=some [.int .i64,.int .i64,.bv 88]:=zEW
def q5:Cj Tryz.prog 8 26=some [.bv 9,.bv 140,.bv 147,.int .i64]:=zEW
def nX:Cj Tryz.prog 8 32=some [.bv 66,.bv 114,.bv 69,.bv 127]:=zEW
def nM:Uy 26=true:=zEW
def ADM:Uy 32=true:=zEW
def SD:JT [.int .i64] AL fun _=>True:=fun xs h=>by
 obtain⟨a,rfl,b⟩:=O7 h;obtain⟨k,rfl⟩:=DN b;exact⟨k,rfl,trivial⟩
def uk(h:eJ Tryz.prog 8 .str d): ∃m,d=.str m/\m.size<=maxLen:=by cases h;exact⟨_,rfl,Bw⟩
def qW:JT [.str] Br fun s=>s.size<=maxLen:=fun xs h=>by
 obtain⟨a,rfl,b⟩:=O7 h;obtain⟨k,rfl,c⟩:=uk b;exact⟨k,rfl,c⟩
def jH:JT [.int .i64,.int .i64,.bv 85,.bv 3] Bc fun _=>True:=fun xs h=>by
 obtain⟨a,l,rfl,e,h⟩:=all_cons h;obtain⟨b,l,rfl,f,h⟩:=all_cons h;obtain⟨c,l,rfl,g,h⟩:=all_cons h;obtain⟨d,rfl,i⟩:=O7 h;obtain⟨a,rfl⟩:=DN e;obtain⟨b,rfl⟩:=DN f;obtain⟨c,rfl⟩:=uj g rfl;obtain⟨d,rfl,_,_⟩:=Dn i YI SD;exact zDo
def jG:JT [.int .i64,.int .i64] BD fun _=>True:=fun xs h=>by
 exact zBo
def dP:JT [.int .i64,.int .i64] Ay fun _=>True:=fun xs h=>by
 exact zBo
def jJ:JT [.int .i64,.bv 3,.int .i64] BC fun _=>True:=fun xs h=>by
 obtain⟨a,l,rfl,e,h⟩:=all_cons h;obtain⟨b,l,rfl,f,h⟩:=all_cons h;obtain⟨c,rfl,g⟩:=O7 h;obtain⟨a,rfl⟩:=DN e;obtain⟨b,rfl,_,_⟩:=Dn f YI SD;obtain⟨c,rfl⟩:=DN g;exact⟨⟨a,b,c⟩,rfl,trivial⟩
def qT:JT [.bv 187,.bv 189,.bv 151] B4 fun _=>True:=fun xs h=>by
 obtain⟨a,l,rfl,e,h⟩:=all_cons h;obtain⟨b,l,rfl,f,h⟩:=all_cons h;obtain⟨c,rfl,g⟩:=O7 h;obtain⟨a,rfl,_,_⟩:=Dn e hT jG;obtain⟨b,rfl,_,_⟩:=Dn f AD7 dP;obtain⟨c,rfl,_,_⟩:=Dn g AD5 jJ;exact⟨⟨a,b,c⟩,rfl,trivial⟩
def jK:JT [.int .i64,.bool] Aw fun _=>True:=fun xs h=>by
 obtain⟨a,l,rfl,c,h⟩:=all_cons h;obtain⟨b,rfl,e⟩:=O7 h;obtain⟨a,rfl⟩:=DN c;obtain⟨b,rfl⟩:=uh e;exact⟨⟨a,b⟩,rfl,trivial⟩
def dQ:JT [.int .i64,.int .i64,.bv 88] BG fun _=>True:=fun xs h=>by
 exact zA1
def qU:JT [.bv 88] BJ fun _=>True:=fun xs h=>by
 obtain⟨a,rfl,b⟩:=O7 h;obtain⟨a,rfl,_,_⟩:=Dn b Wm SF;exact⟨a,rfl,trivial⟩
def qS:JT [.int .i64,.int .i64,.int .i64,.bv 73] Cy fun _=>True:=fun xs h=>by
 obtain⟨a,l,rfl,e,h⟩:=all_cons h;obtain⟨b,l,rfl,f,h⟩:=all_cons h;obtain⟨c,l,rfl,g,h⟩:=all_cons h;obtain⟨d,rfl,i⟩:=O7 h;obtain⟨a,rfl⟩:=DN e;obtain⟨b,rfl⟩:=DN f;obtain⟨c,rfl⟩:=DN g;obtain⟨d,rfl,_,_⟩:=Dn i AFO qU;exact zDo
def jL:JT [.int .i64,.int .i64,.bv 88] Ae fun _=>True:=fun xs h=>by
 exact zA1
def jI:JT [.bv 9,.bv 140,.bv 147,.int .i64] TS fun p=> ∀s∈p.free,s.size<=maxLen:=fun xs h=>by
 obtain⟨a,l,rfl,e,h⟩:=all_cons h;obtain⟨b,l,rfl,f,h⟩:=all_cons h;obtain⟨c,l,rfl,g,h⟩:=all_cons h;obtain⟨d,rfl,i⟩:=O7 h;obtain⟨a,rfl,_,j⟩:=Dn e y2 qW;obtain⟨b,rfl,_,_⟩:=Dn f ri jH;obtain⟨c,rfl,_,_⟩:=Dn g tb qT;obtain⟨d,rfl⟩:=DN i;exact⟨⟨a,b,c,d⟩,rfl,j⟩
def qV:JT [.bv 66,.bv 114,.bv 69,.bv 127] PT fun _=>True:=fun xs h=>by
 obtain⟨a,l,rfl,e,h⟩:=all_cons h;obtain⟨b,l,rfl,f,h⟩:=all_cons h;obtain⟨c,l,rfl,g,h⟩:=all_cons h;obtain⟨d,rfl,i⟩:=O7 h;obtain⟨a,rfl,_,_⟩:=Dn e AFM jK;obtain⟨b,rfl,_,_⟩:=Dn f p5 dQ;obtain⟨c,rfl,_,_⟩:=Dn g AFN qS;obtain⟨d,rfl,_,_⟩:=Dn i m4 jL;exact zDo
theorem lq(n:Int)(m:Nat)(j:TI)(id:Abs.Id)(off:Nat):j6 n m j (.ptr id off)=if 0<=n/\n.toNat<m then some ⟨.ptr id (off+n.toNat*j.size),[]⟩else none:=rfl
attribute [go_sem] lq
variable{f:α->List Al}{sz:Nat}
def j4(k: ∀x,(f x).length=sz)(m:0<sz)(a:List α)(h:a≠ [])(n:a.length<=1000000): ∀(g:G) (b:Abs.Id) (j:TI),j.mix=false->j.size=sz->QE g b j .emp (some ((a.map f).map fun x=>x.map AV.d))=some ⟨.f8 (1::b) 0 a.length,[(1::b,.em sz (a.map f))]⟩:=by
 intro g b j l c;have:=TN g b j (a.map f) l AA (fun e i=>by
  obtain⟨x,_,rfl⟩:=F1.1 i;rw[c];exact k x) (fun e=>h (D5.1 e)) zEm
 rw[this,As,c]
def Wg(l: ∀x,(f x).length=sz)(h:0<sz)(a b:List α)(i:b≠ [])(o:a.length+b.length<=1000000): ∀(id:Abs.Id) (g:G) (c:Abs.Id) (j:TI),j.size=sz->g id=some (.em sz (a.map f))->QE g c j (.f8 id 0 a.length) (some ((b.map f).map fun x=>x.map AV.d))=some ⟨.f8 (1::c) 0 (a.length+b.length),[(id,.i7 0 []),(1::c,.em sz (a.map f++b.map f))]⟩:=by
 intro id g c j n m;have:=QF (sz:=sz) (id:=id) (a.map f) (b.map f) (fun e=>i (D5.1 e)) (fun e k=>by
  obtain⟨x,_,rfl⟩:=F1.1 k;exact l x) h Aa a.length AG g c j n m
 rw[this,As]
def RL{β:Type}(f:α->β)(a b:List α):List.take (a.length+b.length) (a.map f++b.map f)=a.map f++b.map f:=Bi AG
attribute [go_sem] RL
def xr{p:AX}{sz:List Int}(a2:BP p sz){h:AD}{π:List Nat}{m:Abs.Id}{V:MV}{st:CW}(z:Vr p h m V st)(s:Bx π V m)(R:Fo p sz st.d8){i:Nat}{w:Gg}(O:st.d8.waits[i]? =some w)(h2:ol p st.d8 w=true)(a5:st.ev.length<=400000)(a6:st.work=0):
 ∃o h',kT (.fn 105) [.ptr m 0,nI i] h π true none=.ok (o,h')/\Jx p π m V h (Hy p st.d8 st.ev ⟨i,0,0,[]⟩) o h':=by
 have Q:=z.box;have ag:=s m (V.m_mem m);simp only[Ba]at Q;have u:=AI ag;have q:=Aj ag;have Z:=R.small;simp only[BU.small,AP,Ap]at Z;obtain⟨cx,c0,c1,c2⟩:=Z;have b6:=AK O;obtain⟨W,xs,Y,T,cs,cc,ch⟩:=FV (jV (z.sl 2 AA) O) O;simp only[Dt]at T;have a3:=V.s_mem m (i:=2) AA (id:=W) zEu;have ad:=s W a3;have b2:=AI ad;have b3:=Aj ad;have b0:Id.is W m=false:=Fi T Q;have cl:Id.is m W=false:=Fi Q T;have cp:IntKind.i64.wrap ((i:Int)+1)=(i:Int)+1:=wrap_id AA AA;rw[Y,a6]at Q;have az:=fun(g:G) (X:g W=some (.em 3 (st.d8.waits.map Ae++xs)))=>N6 (n:=st.d8.waits.length) X (b:=i) AA Aa Aa;have a0:=fun(g:G) (X:g W=some (.em 3 (st.d8.waits.map Ae++xs)))=>N7 (n:=st.d8.waits.length) X (a:=(i:Int)+1) AA AA AG Aa;have be:((i:Int)+1).toNat=i+1:=AA;simp only[F7,be]at az a0;have b7:i<=st.d8.waits.length+xs.length:=AA;have b8:i+(1+(st.d8.waits.length-(i+1)))<=st.d8.waits.length+xs.length:=AA;obtain⟨S,M⟩: ∃S:BU,S={st.d8 with waits:=CY st.d8.waits i}:=⟨_,rfl⟩
 obtain⟨A,K⟩: ∃A,A=st.d8.waits.take i:=⟨_,rfl⟩;obtain⟨B,L⟩: ∃B,B=st.d8.waits.drop (i+1):=⟨_,rfl⟩;have C:A.length=i:=by rw[K,F2];omega
 have D:B.length=st.d8.waits.length-(i+1):=by rw[L,Ii]
 have a':List.take i (List.map (fun x=>List.map AV.d x) (List.map Ae st.d8.waits++xs))=(A.map Ae).map fun x=>x.map AV.d:=by
  rw[K,<-OK,ID Aa,<-OK]
 have ac:List.take (st.d8.waits.length-(i+1)) (List.drop (i+1) (List.map (fun x=>List.map AV.d x) (List.map Ae st.d8.waits++xs)))=(B.map Ae).map fun x=>x.map AV.d:=by
  rw[L,<-Pp,<-OK,OF Aa,ID AG,<-Pp,Bi AG]
 replace z:=AB z;replace s:=AB s;replace R:=AB R;replace K:=AB K;replace L:=AB L;refine BR Tryz.func105 ?_;refine SU 2 fun ar U=>?_;have P:AH (∀(e:CA) (H:AD) (v:AV) (c:Nat),e.get 0=.ptr m 0->e.get 4=.ptr (0::8::π) 0->30<=c->H.get m=some (.box (Ba p false (V.ip 2 v) 0))->jv H 3 v ((A++B).map Ae)->(∀id∈AE v,DX 0 c π id=true/\ ∃l,id=1::l)->(∀id,Id.is m id=false->DX 0 c π id=false->H.get id=h.get id)->H.get (0::8::π)=some (.box [nI w.at_,nI w.node,.d (.bv (w.env.map AN))])->Wp cfg kT ⟨105,π,true,none,false,139⟩ 0 ar ⟨e,H,c,[]⟩ (K1 cfg none [] π true (Jx p π m V h (Hy p st.d8 st.ev ⟨i,0,0,[]⟩)))):=⟨fun e H v c bi bk a4 bl ai bo bs bv=>by
  rw[U];have a1:A++B=S.waits:=by rw[M,K.1,L.1];rfl
  rw[a1]at ai;obtain⟨bx,a7,_⟩:=(JC z.1 s.1 fun id b=>rfl).step (b':=c) (It _) (Dc (st':=⟨S,st.ev,0⟩) 2 AA z.1 ((JC z.1 s.1 fun id b=>rfl).apartB s.1) (XO (by rw[M]) (by rw[M]) rfl) (by rw[M]) v H bl ai (.inr bo) fun id b1 j av=>bs id b1 av);exact eB a2 s.1 R.1 O h2 a5 M bi bk a4 a7 bv⟩
 replace U:=AB U;simp only[Tryz.f105,I3,Ri];by_cases y:i=0
 .have cn:List.take i (List.map (fun x=>List.map AV.d x) (List.map Ae st.d8.waits++xs))=[]:=by rw[y];rfl
  have N:A=[]:=BI AA;clear a';replace y:=AB y;replace N:=AB N;by_cases k:st.d8.waits.length=i+1
  .have bc:List.take (st.d8.waits.length-(i+1)) (List.drop (i+1) (List.map (fun x=>List.map AV.d x) (List.map Ae st.d8.waits++xs)))=[]:=by rw[k,Kw];rfl
   have t:B=[]:=BI AA;clear ac;replace k:=AB k;replace t:=AB t;refine ax ?_;refine P.1 _ _ .emp 33 rfl rfl AZ ?_ (.inr ⟨rfl,by rw[N.1,t.1];rfl⟩) (fun id r=>by cases r) (fun id b1 j=>?_) ?_
   .exact zCY
   .exact zAl
   .exact zBf
  .replace k:=AB k;have b5:=j4 (f:=Ae) (sz:=3) (fun _=>rfl) AZ B (fun e=>by have:=k.1;rw[e]at D;simp only[List.length_nil]at D;omega) AA;refine ax ?_;refine P.1 _ _ (.f8 (1::28::π) 0 (st.d8.waits.length-(i+1))) 33 rfl rfl AZ ?_ (.inl (Ao [] ?_ ?_)) (fun id r=>?_) (fun id b1 j=>?_) ?_
   .exact zCY
   .rw[As,Be,C,D];have:=y.1;omega
   .rw[CI,BE];simp only[go_sem,u,q,AM];first|done|rfl|(rw[N.1];first|done|rfl)
   .exact zD2
   .exact zAl
   .exact zBf
 .have b4:=j4 (f:=Ae) (sz:=3) (fun _=>rfl) AZ A (fun e=>by rw[e]at C;exact y C.symm) AA;replace y:=AB y;by_cases k:st.d8.waits.length=i+1
  .have bc:List.take (st.d8.waits.length-(i+1)) (List.drop (i+1) (List.map (fun x=>List.map AV.d x) (List.map Ae st.d8.waits++xs)))=[]:=by rw[k,Kw];rfl
   have t:B=[]:=BI AA;clear ac;replace k:=AB k;replace t:=AB t;refine ax ?_;refine⟨rfl,?_⟩;refine P.1 _ _ (.f8 (1::19::π) 0 i) 33 rfl rfl AZ ?_ (.inl (Ao [] ?_ ?_)) (fun id r=>?_) (fun id b1 j=>?_) ?_
   .exact zCY
   .rw[As,Be,C,D];have:=k.1;omega
   .rw[CI,BE];simp only[go_sem,u,q,AM];first|done|rfl|(rw[t.1,BY,CI];first|done|rfl)
   .simp only[AE,Ac]at r;subst r;exact⟨CQ 19 [1] AA AA,_,rfl⟩
   .exact zAl
   .exact zBf
  .have am:=Wg (f:=Ae) (sz:=3) (fun _=>rfl) AZ A B (fun e=>by rw[e]at D;simp only[List.length_nil]at D;omega) AA;simp only[C]at am;replace k:=AB k;refine ax ?_;try refine⟨rfl,?_⟩
   refine P.1 _ _ (.f8 (1::28::π) 0 (i+(st.d8.waits.length-(i+1)))) 33 rfl rfl AZ ?_ (.inl (Ao [] ?_ ?_)) (fun id r=>?_) (fun id b1 j=>?_) ?_
   .exact zCY
   .rw[As,Be,C,D]
   .rw[CI,BE];simp only[go_sem,u,q,AM];first|done|rfl|(rw[C];first|done|rfl)
   .exact zD2
   .exact zAl
   .exact zBf
def hQ:Code->Code
 |.seq (.seq _ (.block _ (.loop (.seq _ (.seq (.block _ c) _))))) _=>c
 |c=>c
variable{K:Ab}{fr:Fr}{b:Nat}{Q:Eh->St->Prop}
def ug{C:DJ}{c:Nat}{i j k e f g:Code}{st:St}(h: ∀a,a=g->Wp C K fr b (i.seq ((Code.block c (k.seq (e.seq (f.seq a)))).seq j)) st Q):Wp C K fr b (i.seq ((Code.block c (k.seq (e.seq (f.seq g)))).seq j)) st Q:=h _ rfl
def Ox{π:List Nat}{m A W:Abs.Id}{H:AD}{e:CA}{c j a o:Nat}{q:HD}{msg:List Cm}{zs:List (List Al)}{rows:List (List AV)}{ac ad ag ai ar av az a0 a1 x9:AV}{t:List Int}{i k:Nat}{Q:Eh->St->Prop}
 (a4:e.get 0=.ptr m 0) (a7:e.get 3=.ptr (0::0::π) 0) (a':e.get 9=nI j) (a5:e.get 10=nI o) (a6:e.get 11=.f8 W 0 q.queue.length)
 (bv:H.get (0::0::π)=some (.box [nI (-1),nI i,nI k,.d (.bv (t.map AL))])) (T:t[j]? =some (a:Int)) (bk:H.get m=some (.box [ac,ad,ag,ai,ar,av,.f8 A 0 rows.length,az,a0,a1,x9])) (bc:H.get A=some (.arr 4 rows)) (be:H.get W=some (.em 1 (q.queue.map BJ++zs))) (U:q.queue[a]? =some msg) (V:rows[o]? =some [nI q.group,nI q.index,nI q.at_,.f8 W 0 q.queue.length]) (bl:q.queue.length<=12)
 (N: ∀a n,c<=n->Id.is (a::n::π) A=false) (b4: ∀a n,c<=n->Id.is (a::n::π) W=false) (O: ∀a n,c<=n->Id.is A (a::n::π)=false) (b2: ∀a n,c<=n->Id.is (a::n::π) m=false) (b3: ∀a n,c<=n->Id.is m (a::n::π)=false) (b5: ∀a n,c<=n->Id.is W (a::n::π)=false)
 (L:AH (∀(e':CA) (H':AD) (vq:AV),(e'.get 0=e.get 0/\e'.get 3=e.get 3/\e'.get 4=e.get 4/\e'.get 6=e.get 6/\e'.get 7=e.get 7/\e'.get 8=e.get 8/\e'.get 9=e.get 9)->H'.get A=some (.arr 4 (rows.set o [nI q.group,nI q.index,nI q.at_,vq]))->jv H' 1 vq ((CY q.queue a).map BJ)->(∀id∈AE vq,DX c (c+27) π id=true/\ ∃l,id=1::l)->(∀id,Id.is A id=false->DX c (c+27) π id=false->H'.get id=H.get id)->Q .normal ⟨e',H',c+27,[]⟩)):
 Wp cfg kT ⟨106,π,true,none,false,148⟩ 1 (Vj 3 (hQ (Vj 6 (Tryz.f106.body.get rfl)))) ⟨e,H,c,[]⟩ Q:=by
 have bi:=AK U;have b0:=AK T;have bx:=AK V;have R:=fun(g:G) (M:g W=some (.em 1 (q.queue.map BJ++zs)))=>N6 (n:=q.queue.length) M (b:=a) AA Aa Aa;have S:=fun(g:G) (M:g W=some (.em 1 (q.queue.map BJ++zs)))=>N7 (n:=q.queue.length) M (a:=(a:Int)+1) AA AA AG Aa;have Z:((a:Int)+1).toNat=a+1:=AA;simp only[F7,Z]at R S;have b7:IntKind.i64.wrap ((a:Int)+1)=(a:Int)+1:=wrap_id AA AA;have bo:a<=q.queue.length+zs.length:=AA;have bs:a+(1+(q.queue.length-(a+1)))<=q.queue.length+zs.length:=AA;obtain⟨C,D⟩: ∃A,A=q.queue.take a:=⟨_,rfl⟩;obtain⟨u,F⟩: ∃B,B=q.queue.drop (a+1):=⟨_,rfl⟩;have w:AH ((CY q.queue a)=C++u):=⟨by rw[D,F];rfl⟩;have y:C.length=a:=by rw[D,F2];omega
 have z:u.length=q.queue.length-(a+1):=by rw[F,Ii]
 have X:List.take a (List.map (fun x=>List.map AV.d x) (List.map BJ q.queue++zs))=(C.map BJ).map fun x=>x.map AV.d:=by
  rw[D,<-OK,ID Aa,<-OK]
 have P:List.take (q.queue.length-(a+1)) (List.drop (a+1) (List.map (fun x=>List.map AV.d x) (List.map BJ q.queue++zs)))=(u.map BJ).map fun x=>x.map AV.d:=by
  rw[F,<-Pp,<-OK,OF Aa,ID AG,<-Pp,Bi AG]
 replace D:=AB D;replace F:=AB F;simp only[Tryz.f106,I3,Vj,hQ];by_cases v:a=0
 .have b6:List.take a (List.map (fun x=>List.map AV.d x) (List.map BJ q.queue++zs))=[]:=by rw[v];rfl
  have K:C=[]:=BI AA;clear X;replace v:=AB v;replace K:=AB K;by_cases h:q.queue.length=a+1
  .have Y:List.take (q.queue.length-(a+1)) (List.drop (a+1) (List.map (fun x=>List.map AV.d x) (List.map BJ q.queue++zs)))=[]:=by rw[h,Kw];rfl
   have s:u=[]:=BI AA;clear P;replace h:=AB h;replace s:=AB s;refine ax ?_;refine L.1 _ _ .emp ⟨rfl,rfl,rfl,rfl,rfl,rfl,rfl⟩ ?_ (.inr ⟨rfl,by rw[w.1,K.1,s.1];rfl⟩) (fun id p=>by cases p) fun id b1 r=>?_
   .exact zDi
   .exact zDa
  .replace h:=AB h;have a3:=j4 (f:=BJ) (sz:=1) (fun _=>rfl) AZ u (fun e=>by have:=h.1;rw[e]at z;simp only[List.length_nil]at z;omega) AA;refine ax ?_;refine L.1 _ _ (.f8 (1::(c+23)::π) 0 (q.queue.length-(a+1))) ⟨rfl,rfl,rfl,rfl,rfl,rfl,rfl⟩ ?_ (.inl (Ao [] ?_ ?_)) (fun id p=>?_) fun id b1 r=>?_
   .simp only[go_sem,N,AM]
   .rw[w.1,As,Be,y,z];have:=v.1;omega
   .rw[CI,w.1,BE];simp only[go_sem,O,AM];first|done|rfl|(rw[K.1];first|done|rfl)
   .exact zDb
   .exact zBZ
 .have a2:=j4 (f:=BJ) (sz:=1) (fun _=>rfl) AZ C (fun e=>by rw[e]at y;exact v y.symm) AA;replace v:=AB v;by_cases h:q.queue.length=a+1
  .have Y:List.take (q.queue.length-(a+1)) (List.drop (a+1) (List.map (fun x=>List.map AV.d x) (List.map BJ q.queue++zs)))=[]:=by rw[h,Kw];rfl
   have s:u=[]:=BI AA;clear P;replace h:=AB h;replace s:=AB s;refine ax ?_;try refine⟨rfl,?_⟩
   refine L.1 _ _ (.f8 (1::(c+14)::π) 0 a) ⟨rfl,rfl,rfl,rfl,rfl,rfl,rfl⟩ ?_ (.inl (Ao [] ?_ ?_)) (fun id p=>?_) fun id b1 r=>?_
   .simp only[go_sem,N,AM]
   .rw[w.1,As,Be,y,z];have:=h.1;omega
   .rw[CI,w.1,BE];simp only[go_sem,O,AM];first|done|rfl|(rw[s.1,BY,CI];first|done|rfl)
   .simp only[AE,Ac]at p;subst p;exact⟨CQ (c+14) [1] AA AA,_,rfl⟩
   .exact zBZ
  .have am:=Wg (f:=BJ) (sz:=1) (fun _=>rfl) AZ C u (fun e=>by rw[e]at z;simp only[List.length_nil]at z;omega) AA;simp only[y]at am;replace h:=AB h;refine ax ?_;try refine⟨rfl,?_⟩
   refine L.1 _ _ (.f8 (1::(c+23)::π) 0 (a+(q.queue.length-(a+1)))) ⟨rfl,rfl,rfl,rfl,rfl,rfl,rfl⟩ ?_ (.inl (Ao [] ?_ ?_)) (fun id p=>?_) fun id b1 r=>?_
   .simp only[go_sem,N,AM]
   .rw[w.1,As,Be,y,z]
   .rw[CI,w.1,BE];simp only[go_sem,O,AM];first|done|rfl|(rw[y];first|done|rfl)
   .exact zDb
   .exact zBZ
def AAL{ρ id:Abs.Id}(h:Id.under ρ id=false)(a c n:Nat):Id.is (a::c::n::ρ) id=false:=AF fun e=>by
 subst e;rw[Vk]at h;cases h
def vz{ρ id:Abs.Id}(h:Id.under ρ id=false)(a c n:Nat):Id.is id (a::c::n::ρ)=false:=AF fun e=>by
 subst e;rw[Vk]at h;cases h
def cX{π:List Nat}{V:MV}{m:Abs.Id}{b:Nat}{id:Abs.Id}(h:Bx π V m)(f:id∈V.ids m\/ ∃n,n<b/\Id.under (n::π) id=true/\ ∃l,id=1::l)(a c n:Nat)(j:b<=n):Id.is (a::c::n::π) id=false:=AF fun e=>by
 subst e;rcases f with f|⟨k,i,g,_⟩
 .have:=h _ f;rw[Vk]at this;cases this
 .have:=B5 g (n':=n) (under_iff.2 ⟨[a,c],rfl⟩);omega
variable{π:List Nat}{V:MV}{m:Abs.Id}
def pw{id:Abs.Id}(h:Bx π V m)(f:id∈V.ids m\/ ∃n,n<b/\Id.under (n::π) id=true/\ ∃l,id=1::l)(a c n:Nat)(g:b<=n):Id.is id (a::c::n::π)=false:=AF fun e=>by
 have:=cX h f a c n g;rw[<-e,is_self]at this;cases this
def G9{b b':Nat}{π:List Nat}{id:Abs.Id}(h:DX b b' π id=false)(a c n:Nat)(f:b<=n)(h2:n<b'):Id.is (a::c::n::π) id=false:=AF fun e=>by
 subst e;have:DX b b' π (a::c::n::π)=true:=E7.2 ⟨n,f,h2,under_iff.2 ⟨[a,c],rfl⟩⟩;rw[h]at this;cases this
def qQ{p:AX}{sz:List Int}(b6:BP p sz){h:AD}{π:List Nat}{m:Abs.Id}{V:MV}{st:CW}(en:Vr p h m V st)(C:Bx π V m)(dr:Fo p sz st.d8){i k:Nat}{g:BA}{d:CJ}{r:Gf}{t:List Int}(el:st.d8.ce[i]? =some g)(h2:p.def? g.f9=some d)(fd:d.rules[k]? =some r)(h1:Ak st.d8.ac (g.place d r.at_)=false)(em:Below (Bp st.d8 d g r) t)(ib:st.work=0)(j1:st.ev.length<=500000):
 ∃o h',kT (.fn 106) [.ptr m 0,M3 ⟨-1,i,k,t⟩] h π true none=.ok (o,h')/\Jx p π m V h (Eu p 401 ⟨r.node,g.place d r.at_,g.env++(CF d g r.eq t st.d8).1⟩ ⟨(CF d g r.eq t st.d8).2,st.ev++[⟨1,g.place d r.at_,i,k,(CF d g r.eq t st.d8).1⟩],0⟩) o h':=by
 obtain⟨jn,ai⟩:=dr.grp i g el;have g5:=ai.f9;rw[h2]at g5;cases g5;obtain⟨av,dn⟩:=Fx ai.f9;have jz:=AK dn;have ka:=AK fd;have b3:=Mq b6 dr el ai (AS fd);have j2:=b3.j1;have kb:t.length=r.eq.length:=by have:=em.len;rw[Bp,As]at this;exact this
 have f1:=en.box;have eb:=C m (V.m_mem m);simp only[Ba]at f1;have Z:=AI eb;have N:=Aj eb;have a3:=AAL eb;have a4:=vz eb;obtain⟨W,xs,fk,f',hq,hj,hk⟩:=FV (en.sl 1 AA) el;have hp:=C W (V.s_mem m (i:=1) AA (by rw[fk];simp[AE]));have ac:=AI hp;have ad:=Aj hp;simp only[Dt]at f';have ha:=dr.small;simp only[BU.small,AP,Ap]at ha;obtain⟨ky,hl,kz,k0⟩:=ha;rw[fk]at f1;have j0:=KB b6 ai;have g6:=JN ai;obtain⟨X,fi⟩: ∃X,g.env.length=X+d.be.length+d.ac.length:=⟨g.env.length-d.be.length-d.ac.length,by unfold CJ.own at g6;omega⟩;have k2:IntKind.i64.wrap ((g.env.length:Int)-(d.ac.length:Int))=(X:Int)+(d.be.length:Int):=by rw[wrap_id AA AA];omega
 have a7:IntKind.i64.wrap ((X:Int)+(d.be.length:Int)-(d.be.length:Int))=(X:Int):=zFa
 have h6:AH (∀(a b:Nat) c cc,a<b->r.eq[a]? =some c->r.eq[b]? =some cc->(g.own d true cc).toNat≠(g.own d true c).toNat):=⟨fun a b c cc h5 Z N=>by
  have g9:=(CC b6 dn).ok.wn r (AS fd);simp only[B9,AP,Ap]at g9;have:=Pb rfl g9.2.2.2 b a cc c (It _) h5 N Z;obtain⟨D,M,_⟩:=b3.join c (AS Z);obtain⟨U,a1,_⟩:=b3.join cc (AS N);have:=Jo ai.ws D M;have:=Jo ai.ws U a1;omega⟩
 replace fi:=AB fi;clear g6;replace en:=AB en;replace C:=AB C;replace dr:=AB dr;replace ai:=AB ai;replace em:=AB em;replace b3:=AB b3;replace fk:=AB fk;refine BR Tryz.func106 ?_;refine ax ?_;refine Ah r.eq (S:=fun j (a:(AV×AD)×Nat)=>⟨[(0,.ptr m 0),(3,.ptr (0::0::π) 0),(4,.ptr (0::10::π) 0),(6,.ptr (0::29::π) 0),(7,nI X),(8,a.1.1),(9,nI j)],a.1.2,a.2+45,[]⟩)
  (Inv:=fun j kw a=>AH (∃u c0 L,Tj (Ba p false) false p sz π m V h st d g r t j (a.2+45) a.1.1 a.1.2 u c0 L)/\a.1.2.get (0::0::π)=some (.box [nI (-1),nI i,nI k,.d (.bv (t.map AL))])/\a.1.2.get (0::10::π)=some (.box [nI g.f9,nI g.at_,.d (.bv (g.env.map AN))])/\a.1.2.get (0::29::π)=some (.box [nI r.at_,.d (.bv (r.eq.map AL)),nI r.node])) (b0:=((_,_),0)) ⟨⟨V,st.d8,[],?_⟩,?_,?_,?_⟩ ?_ ?_
 .refine⟨⟨CM (h:=h) ?_ fun id R=>?_,fun id R=>.inl R,fun id _ c6=>?_⟩,.inl ⟨rfl,rfl⟩,BH,fun _=>rfl,dr.1,?_,rfl,rfl,rfl,fun b7 c hb _ a5 be=>?_,AG⟩
  .have:=en.1
   rwa [show st=⟨st.d8,st.ev,0⟩ by rw[<-ib]]at this
  .have D:=AI (C.1 id R);simp only[go_sem,D,AM]
  .have D:=AI c6;simp only[go_sem,D,AM]
  .simp
  .obtain⟨D,M,U,q,a1,d0,d1⟩:=b3.1.join c (AS a5);obtain⟨b1,Y⟩:=QI em.1 b7 _ hb (by rw[Bp,D7,a5];rfl) be;have Y:hb<(Ld st.d8 (g.own d true c):Nat):=Y;rw[d1]at Y;refine⟨b1,q,a1,AA,d0,?_⟩;obtain⟨ch,gf⟩:=get_some (l:=d.be) (i:=c.toNat) AA;obtain⟨ks,g1,h0,az,_⟩:=ai.1.be _ ch gf;have:=Jo ai.1.ws D M;rw[show(g.own d true c).toNat=(Hn p (st.d8.ce.take i)).1+c.toNat by omega,g1]at a1;cases a1;rw[Mi el h2 gf h0 az,gf];rfl
 .simp only[go_sem]
 .simp only[go_sem]
 .simp only[go_sem]
 .clear f1 f' hq hj hk ac ad;rintro j c ⟨⟨v,H⟩,b⟩ c5 gn h7 ⟨s,d7,hc,hd⟩ e6;dsimp only at*;obtain⟨u,c0,L,s⟩:=s.1;have es:=s.run.rep;have ar:=es.box;simp only[Ba]at ar;obtain⟨gw,d5⟩:=get_some (l:=t) (i:=j) AA;obtain⟨kd,q,e1,g7,f2,g8⟩:=s.rest j c gw (Es _) c5 d5;obtain⟨a,rfl⟩: ∃a:Nat,gw=a:=⟨gw.toNat,AA⟩;rw[F7]at g7;obtain⟨jl,g3,kp,_⟩:=b3.1.join c (AS c5);obtain⟨cl,rfl⟩: ∃cl:Nat,c=cl:=⟨c.toNat,AA⟩;obtain⟨o,e0⟩: ∃o:Nat,g.own d true cl=o:=⟨(g.own d true cl).toNat,AA⟩;have h3:=fi.1;obtain⟨g2,gr⟩:=get_some (l:=g.env) (i:=X+cl) AA;have h9:g2.n=o:=by
   rw[<-e0,BA.own,D4 rfl,show g.env.length-d.ac.length-d.be.length=X by omega,F7,gr];rfl
  clear h3;obtain⟨kt,a0,gs⟩:=es.be.row _ _ e1;rcases es.arr with⟨_,cn⟩|⟨A,cn,c3⟩
  .rw[cn]at a0;simp at a0
  have i1:=AK a0;obtain⟨msg,c7⟩:=get_some (l:=q.queue) (i:=a) g7;obtain⟨Q,zs,rfl,c4,k3,ki,hi⟩:=FV (jV gs c7) c7;have fr:=s.run.ids A (u.v3_mem m zE0);have fs:=s.run.ids Q (u.row_mem m (CS.2 ⟨_,AS a0,by rw[Bs];simp[AE]⟩));have fv:=s.run.ids m (u.m_mem m);have d8:=C4 (b':=0) C.1 fr;have f3:=En C.1 fr;have d':=C4 (b':=0) C.1 fs;have f5:=En C.1 fs;have d9:=C4 (b':=0) C.1 fv;have f4:=En C.1 fv;have hv: ∀k,Id.is A (0::k::π)=false:=fun k=>AF fun e=>Dv s.run C.1 k (by rw[<-e];exact u.v3_mem m zE0);have jj: ∀k,Id.is Q (0::k::π)=false:=fun k=>AF fun e=>Dv s.run C.1 k (by rw[<-e];exact u.row_mem m (CS.2 ⟨_,AS a0,by rw[Bs];simp[AE]⟩));have i6:Id.is A Q=false:=Fi c3 c4;have i9:Id.is Q A=false:=Fi c4 c3;have hr:Id.is A m=false:=Fi c3 ar;have kl:Id.is m A=false:=Fi ar c3;have ja:Id.is Q m=false:=Fi c4 ar;have km:Id.is m Q=false:=Fi ar c4;have j3:=Y6 (CC b6 dn).ok s.qr e1 c7 g8;have h4:=s.len;have h8:=AH.mk (S0 s C.1 (CC b6 dn).ok c5 d5 e1 c7 g8 cn a0 (fun i cc I N=>h6.1 j i cl cc I c5 N) (b1:=b+85) (b':=b+70+45) AA);have fp:AH (∀(H' O:AD) (a2 vq:AV),Bu (Ba p false) false π m V h (b+85) u ⟨c0,st.ev,0⟩ H'->(∀k,H'.get (0::k::π)=H.get (0::k::π))->O.get A=some (.arr 4 (u.rows.set o [nI q.group,nI q.index,nI q.at_,vq]))->jv O 1 vq ((CY q.queue a).map BJ)->(∀id∈AE vq,DX (b+85) (b+85+27) π id=true/\ ∃l,id=1::l)->(∀id,Id.is A id=false->DX (b+85) (b+85+27) π id=false->O.get id=H'.get id)->Tg π H' (b+85) a2 (L++msg)->(∀i∈AE a2,i∉u.ids m/\DX (b+85) (b+70+45) π i=false)->(L++msg=[]->a2=.d7)->
   AH (∃ht hl hs,Tj (Ba p false) false p sz π m V h st d g r t (j+1) (b+70+45) a2 O ht hl hs)/\O.get (0::0::π)=some (.box [nI (-1),nI i,nI k,.d (.bv (t.map AL))])/\O.get (0::10::π)=some (.box [nI g.f9,nI g.at_,.d (.bv (g.env.map AN))])/\O.get (0::29::π)=some (.box [nI r.at_,.d (.bv (r.eq.map AL)),nI r.node])):=⟨fun H' O a2 vq g3 cc hw hx hy e7 f8 g4 hz=>by
   have up: ∀id,DX (b+85) (b+70+45) π id=false->DX (b+85) (b+85+27) π id=false:=fun id c6=>by
    cases e2:DX (b+85) (b+85+27) π id with
    |false=>rfl
    |true=>
     obtain⟨n,e4,g0,ds⟩:=E7.1 e2;rw[E7.2 ⟨n,e4,AA,ds⟩]at c6;cases c6
   have bx: ∀k,k<b+85->O.get (0::k::π)=H.get (0::k::π):=fun k cs=>(e7 _ (hv k) (by
    cases e2:DX (b+85) (b+85+27) π (0::k::π)with
    |false=>rfl
    |true=>
     obtain⟨n,e4,g0,ds⟩:=E7.1 e2;have:=Au π (show k≠n by omega);rw[ds]at this;cases this)).trans (cc k)
   have i3:DX (b+85) (b+85+27) π m=false:=by
    cases e2:DX (b+85) (b+85+27) π m with
    |false=>rfl
    |true=>
     obtain⟨n,e4,g0,ds⟩:=E7.1 e2;rw[BM ds]at eb;cases eb
   refine⟨⟨h8.1 a2 vq H' O g3 (e7 m hr i3) ?_ hx (.inr fun id R=>?_) (fun id b1 Y y hu=>e7 id Y (up id hu)) ?_ g4 hz⟩,(bx 0 AA).trans d7,(bx 10 AA).trans hc,(bx 29 AA).trans hd⟩
   .rw[e0,F7];exact hw
   .obtain⟨D,M⟩:=hy id R;obtain⟨n,e4,g0,ds⟩:=E7.1 D;exact⟨E7.2 ⟨n,e4,AA,ds⟩,M⟩
   .rcases f8 with f8|⟨l,hh,it,n,ke,ix,i0⟩
    .exact .inl f8
    .refine .inr ⟨l,hh,?_,n,AA,ix,i0⟩;have P:=g4 l (by rw[hh];simp[AE]);rw[e7 l (AF fun e=>P.1 (e▸u.v3_mem m zE0)) (up l P.2)];exact it⟩
  have g':=AB a0;rw[cn]at ar;rw[e0,F7]at a0 i1;simp only[A6]at a0;have i5:IntKind.i64.wrap ((X:Int)+(cl:Int))=((X+cl:Nat):Int):=by rw[wrap_id AA (by have:=fi.1;omega)];omega
  obtain⟨f7,gb⟩: ∃f7,f7=X+cl:=⟨_,rfl⟩;rw[<-gb]at i5 gr;replace gb:=AB gb;have k1:IntKind.i64.wrap ((j:Int)+1)=(j:Int)+1:=wrap_id AA AA;have kk:f7<g.env.length:=AK gr;have k5:AN g2=[.int .i64 g2.kind,.int .i64 o]:=by rw[<-h9];rfl
  replace es:=AB es;replace fr:=AB fr;replace fs:=AB fs;replace fv:=AB fv;replace e1:=AB e1;replace gs:=AB gs;replace e0:=AB e0;have ex:=s.env;replace s:=AB s;refine ug fun jd d4=>?_;replace d4:=AB d4;rcases ex with⟨rfl,rfl⟩|⟨w,rfl,gi,n,dq,J,P⟩
  .by_cases b2:msg=[]
   .subst b2;refine ax ?_;rw[d4.1];refine Ox (W:=Q) (msg:=[]) (rows:=u.rows) (zs:=zs) rfl rfl rfl rfl rfl d7 d5 ar c3 c4 c7 a0 f2 (fun a n F=>d8 a n AA) (fun a n F=>d' a n AA) (fun a n F=>f3 a n AA) (fun a n F=>d9 a n AA) (fun a n F=>f4 a n AA) (fun a n F=>f5 a n AA) ⟨fun e' O vq dm a' ac ad bc=>?_⟩;have fn:=fp.1 H O .d7 vq (s.1.run.up AA) (fun _=>rfl) a' ac ad bc (.inl ⟨rfl,rfl⟩) (fun i I=>by cases I) fun _=>rfl;exact zAD
   .have ap:=TP (sz:=2) (msg.map AN) (by simpa using b2) (by intro e gg;obtain⟨x,_,rfl⟩:=F1.1 gg;rfl) AZ Aa;simp only[As]at ap;replace b2:=AB b2;refine ax ?_;rw[d4.1];refine Ox (W:=Q) (msg:=msg) (rows:=u.rows) (zs:=zs) rfl rfl rfl rfl rfl (by rw[get_put,AF AG,Ci AG];exact d7) d5 (by rw[get_put,d9 _ _ AA,Ci AG];exact ar) (by rw[get_put,d8 _ _ AA,Ci AG];exact c3) (by rw[get_put,d' _ _ AA,Ci AG];exact c4) c7 a0 f2 (fun a n F=>d8 a n AA) (fun a n F=>d' a n AA) (fun a n F=>f3 a n AA) (fun a n F=>d9 a n AA) (fun a n F=>f4 a n AA) (fun a n F=>f5 a n AA) ⟨fun e' O vq dm a' ac ad bc=>?_⟩;have fn:=fp.1 (H.put (1::(b+83)::π) (.em 2 (msg.map AN))) O (.f8 (1::(b+83)::π) 0 msg.length) vq ((s.1.run.up (b':=b+83) AA).loc C.1 (fun id c6=>by rw[get_put,c6 1 (b+83) AA];rfl)|>.up AA) (fun k=>by simp only[go_sem]) a' ac ad bc (Ha AA rfl zFI) (fun i I=>⟨zFG,zE7⟩) (fun e=>absurd (Jp.1 e).2 b2.1);exact zAD
  .obtain⟨a5,be,f9,e8⟩:=Cn dq J P;have B:=s.1.out w BH;have i2:Id.is w A=false:=AF fun e=>B (e▸u.v3_mem m zE0);have i7:Id.is A w=false:=AF fun e=>B (e▸u.v3_mem m zE0);have hi:Id.is w Q=false:=AF fun e=>B (e▸u.row_mem m (CS.2 ⟨_,AS g'.1,by rw[Bs];simp[AE]⟩));have i':Id.is Q w=false:=AF fun e=>B (e▸u.row_mem m (CS.2 ⟨_,AS g'.1,by rw[Bs];simp[AE]⟩));have b8:Id.is w m=false:=AF fun e=>B (e▸u.m_mem m);have cx:Id.is m w=false:=AF fun e=>B (e▸u.m_mem m);replace J:=AB J;replace P:=AB P;by_cases b2:msg=[]
   .subst b2;refine ax ?_;rw[d4.1];refine Ox (W:=Q) (msg:=[]) (rows:=u.rows) (zs:=zs) rfl rfl rfl rfl rfl d7 d5 ar c3 c4 c7 a0 f2 (fun a n F=>d8 a n AA) (fun a n F=>d' a n AA) (fun a n F=>f3 a n AA) (fun a n F=>d9 a n AA) (fun a n F=>f4 a n AA) (fun a n F=>f5 a n AA) ⟨fun e' O vq dm a' ac ad bc=>?_⟩;have fn:=fp.1 H O (.f8 w 0 L.length) vq (s.1.run.up AA) (fun _=>rfl) a' ac ad bc (by rw[CI];exact KD s.1.env AA) (fun i I=>⟨s.1.out i I,by simp only[AE,Ac]at I;subst I;exact Kn (n:=n) AA J.1⟩) fun e=>by rw[CI]at e;exact s.1.ne e
    exact zAD
   .have ap:=QF (sz:=2) (id:=w) (L.map AN) (msg.map AN) (by simpa using b2) (by intro e gg;obtain⟨x,_,rfl⟩:=F1.1 gg;rfl) AZ Aa L.length AG;simp only[As]at ap;replace b2:=AB b2;refine ax ?_;rw[d4.1];obtain⟨T,cp⟩: ∃T,T=(H.put w (.i7 0 [])).put (1::(b+83)::π) (.em 2 (L.map AN++msg.map AN)):=⟨_,rfl⟩;rw[<-cp];have he:T.get A=some (.arr 4 u.rows):=by rw[cp,get_put,d8 _ _ AA,get_put,i2];exact c3
    have hf:T.get Q=some (.em 1 (q.queue.map BJ++zs)):=by rw[cp,get_put,d' _ _ AA,get_put,hi];exact c4
    have hg:T.get m=_:=(show T.get m=H.get m by rw[cp,get_put,d9 _ _ AA,get_put,b8];rfl).trans ar;have gz: ∀k,T.get (0::k::π)=H.get (0::k::π):=fun k=>by rw[cp,get_put,AF AG,get_put,e8];rfl
    refine Ox (W:=Q) (msg:=msg) (rows:=u.rows) (zs:=zs) rfl rfl rfl rfl rfl ((gz 0).trans d7) d5 hg he hf c7 a0 f2 (fun a n F=>d8 a n AA) (fun a n F=>d' a n AA) (fun a n F=>f3 a n AA) (fun a n F=>d9 a n AA) (fun a n F=>f4 a n AA) (fun a n F=>f5 a n AA) ⟨fun e' O vq dm a' ac ad bc=>?_⟩;have gu:=(s.1.run.oth (H:=H.put w (.i7 0 [])) B (BM J.1) fun id e=>by rw[get_put,AF fun N=>e N.symm];rfl).up (b':=b+83) AA;have gv:=(gu.loc C.1 (H:=T) fun id c6=>by rw[cp,get_put,c6 1 (b+83) AA];rfl).up (b':=b+85) AA;have fn:=fp.1 T O (.f8 (1::(b+83)::π) 0 (L.length+msg.length)) vq gv gz a' ac ad bc (Ha AA AG (by rw[cp,get_put,is_self,BE];rfl)) (fun i I=>⟨zFG,zE7⟩) (fun e=>absurd (Jp.1 e).2 b2.1);replace gu:=AB gu;replace gv:=AB gv;replace cp:=AB cp;clear hg he hf gz;exact zAD
 .clear f1 f' hq hj hk ac ad;rintro j ⟨⟨v,H⟩,b⟩ gn h7 ⟨s,d7,hc,hd⟩;dsimp only at*;obtain⟨u,c0,L,s⟩:=s.1;have ar:=s.run.rep.box;simp only[Ba]at ar;have fl:=s.all;have f0:=RB b6 dr.1 el h2 fd h1 em.1;rw[gn.1,T8,dx,CI]at fl;rw[fl]at f0⊢;have js:L.length<=30*r.eq.length:=by have:=s.len;have:=gn.1;omega
  have j':=Ou p g d r.at_ av dn (CC b6 dn).ok.be (CC b6 dn).ok.ac (JN ai.1) (KB b6 ai.1) b3.1.at0 b3.1.at1;have h4:=s.len;have ex:=s.env;have gm: ¬g.env.length=0:=by
   have im:=b3.1.j0;obtain⟨c,c5⟩:=get_some (l:=r.eq) (i:=0) im;obtain⟨D,M,_⟩:=b3.1.join c (AS c5);have:=JN ai.1;unfold CJ.own at this;omega
  have ia:=GQ g.env AA;simp only[Jn,Ci gm]at ia;have fa:=B7;obtain⟨d2,ag⟩: ∃E:Eg,E=⟨1,g.place d r.at_,i,k,L⟩:=⟨_,rfl⟩;have a6:AH (∀(H:AD) (n:Nat),(∃df,Bu (Ba p false) false π m V h n df ⟨c0,st.ev++[d2],0⟩ H)-> ∃o g1,kT (.fn 87) [.ptr m 0,nI r.node,nI (g.place d r.at_),.d (.bv ((g.env++L).map AN))] H (n::π) true none=.ok (o,g1)/\o=.ret (.ii [])/\Jx p π m V h (Eu p 401 ⟨r.node,g.place d r.at_,g.env++L⟩ ⟨c0,st.ev++[d2],0⟩) (.ret (.ii [])) (gc (n::π) g1)):=⟨fun H n ga=>by
   obtain⟨df,ga⟩:=ga;obtain⟨o,g1,D,M,U⟩:=J2 (UW b6 401) C.1 (r:=some ⟨c0,st.ev++[d2],0⟩) (E:=[]) ⟨df,ga,fun i I=>by cases I⟩ ⟨r.node,g.place d r.at_,g.env++L⟩ (fun st' e=>by cases e;exact⟨⟨s.qr,AU,AU,AU,Aa⟩,f0.2⟩) H n (Es _) (fun _ _=>rfl) fun i I=>by cases I
   exact⟨o,g1,D,M,Gz U.run⟩⟩
  have d3:AH (∀c:Nat,b+45<=c-> ∀T:AD,(∃a2,T.get m=some (.box (Ba p false (u.ip 3 a2) 0))/\KJ T 5 a2 ((st.ev++[d2]).map Dk)/\(AE a2=AE (u.s 3)\/ ∀id∈AE a2,DX (b+45) c π id=true/\ ∃l,id=1::l))->(∀id,Id.is m id=false->(∀ih∈AE (u.s 3),Id.is ih id=false)->DX (b+45) c π id=false->T.get id=H.get id)-> ∃df,Bu (Ba p false) false π m V h c df ⟨c0,st.ev++[d2],0⟩ T):=⟨fun c c5 T ⟨a2,A1,A2,A3⟩ A4=>by
   obtain⟨df,i4,_⟩:=s.run.step (b':=c) c5 (Dc (st':=⟨c0,st.ev++[d2],0⟩) 3 AA s.run.rep (s.run.apartB C.1) (kU rfl) rfl a2 T A1 A2 A3 A4);exact⟨df,i4⟩⟩
  replace gm:=AB gm;replace f0:=AB f0;replace s:=AB s;replace fl:=AB fl;replace ag:=AB ag;rcases s.1.run.rep.sl 3 AA with⟨K,d6⟩|⟨E,f6,K,ek⟩
  .rw[K]at ar;replace K:=AB K;replace d6:AH (st.ev=[]):=⟨D5.1 d6⟩;rcases ex with⟨rfl,rfl⟩|⟨w,rfl,gi,n,dq,J,P⟩
   .have b4:=GQ [] AG;simp only[Jn,List.length_nil,F6,BY]at b4;simp only[CI]at a6;refine ax ?_;refine Cv (a6.1 _ _ (d3.1 _ AA _ ?_ fun id b1 Y y=>?_)) (fun e5 g1 b5=>?_)
    .apply Exists.intro;refine⟨?_,?_,?_⟩
     .simp only[go_sem,Z,N,a3,a4,AM];first|done|rfl
     .refine Ao [] (by simp[d6.1]) ?_;simp only[CI,BE,By,BY,d6.1,ag.1];simp only[go_sem,Z,N,a3,a4,AM,CE];first|done|rfl
     .exact zAr
    .have D:=Af y 1 (b+72) AA AA;have M:=Af y 1 (b+73) AA AA;have U:=G9 y 1 3 (b+83) AA AA;simp only[go_sem,D,M,U,b1,AM]
    obtain⟨a7,z⟩:=b5;subst a7;rw[ag.1]at z;replace z:=AB z;refine aw ?_;exact z.1
   .have c8: ¬L.length=0:=fun e=>by have:=s.1.ne (BI e);cases this
    have b4:=GQ L AA;simp only[Jn,Ci c8]at b4;obtain⟨a5,be,f9,e8⟩:=Cn dq J P;have bi: ∀a c k,b+45<=k->Id.is (a::c::k::π) w=false:=fun a c k cs=>AF fun e=>by
     exact zCQ
    have c2: ∀a c k,b+45<=k->Id.is w (a::c::k::π)=false:=fun a c k cs=>AF fun e=>by
     exact zCo
    have B:=s.1.out w BH;have b8:Id.is w m=false:=AF fun e=>B (e▸u.m_mem m);have cx:Id.is m w=false:=AF fun e=>B (e▸u.m_mem m);have am:=Wg (f:=AN) (sz:=2) (fun _=>rfl) AZ g.env L (fun e=>c8 zFj) AA;have hm:List.take L.length (List.map AN L)=List.map AN L:=Bi AG;have hn:List.take L.length (List.map (fun x=>List.map AV.d x) (List.map AN L))=(List.map AN L).map fun x=>x.map AV.d:=Bi AG;have ho:=RL AN g.env L;replace J:=AB J;replace P:=AB P;replace B:=AB B;simp only[BE]at a6;refine ax ?_;refine Cv (a6.1 _ _ (d3.1 _ AA _ ?_ fun id b1 Y y=>?_)) (fun e5 g1 b5=>?_)
    .apply Exists.intro;refine⟨?_,?_,?_⟩
     .simp only[go_sem,Z,N,a3,a4,a5,be,bi,c2,b8,cx,(show¬b+12=b by omega),AM];first|done|rfl
     .refine Ao [] (by simp[d6.1]) ?_;simp only[CI,BE,By,BY,d6.1,ag.1];simp only[go_sem,Z,N,a3,a4,a5,be,bi,c2,b8,cx,(show¬b+12=b by omega),AM,CE];first|done|rfl
     .exact zAr
    .have D:=Af y 1 (b+72) AA AA;have M:=Af y 1 (b+73) AA AA;have U:=G9 y 1 3 (b+83) AA AA;have d0:=G9 y 1 3 (b+70) AA AA;have d1:=Af y 1 (b+85) AA AA;simp only[go_sem,D,M,U,d0,d1,b1,AM]
    obtain⟨a7,z⟩:=b5;subst a7;rw[ag.1]at z;replace z:=AB z;refine aw ?_;exact z.1
  .have ea:=s.1.run.ids E (u.s_mem m (i:=3) AA (by rw[K];simp[AE]));have ji: ∀k,Id.is E (0::k::π)=false:=fun k=>AF fun e=>Dv s.1.run C.1 k (by rw[<-e];exact u.s_mem m (i:=3) AA (by rw[K];simp[AE]));have c9:=C4 (b':=0) C.1 ea;have b7:=En C.1 ea;have c':=cX C.1 ea;have dd:=pw C.1 ea;have c1:Id.is E m=false:=AF fun e=>by rw[e,s.1.run.rep.box]at ek;cases ek
   have de:Id.is m E=false:=AF fun e=>by rw[<-e,s.1.run.rep.box]at ek;cases ek
   simp only[Dt,Ax,As]at ek K;rw[K]at ar;replace K:=AB K;replace ea:=AB ea;rcases f6 with _|⟨k4,f6⟩
   .rcases ex with⟨rfl,rfl⟩|⟨w,rfl,gi,n,dq,J,P⟩
    .have b4:=GQ [] AG;simp only[Jn,List.length_nil,F6,BY]at b4;simp only[CI]at a6;refine ax ?_;refine Cv (a6.1 _ _ (d3.1 _ AA _ ?_ fun id b1 Y y=>?_)) (fun e5 g1 b5=>?_)
     .apply Exists.intro;refine⟨?_,?_,?_⟩
      .exact zCD
      .refine Ao [] AG ?_;simp only[CI,BE,By,BY,ag.1];simp only[go_sem,Z,N,a3,a4,c9,b7,c',dd,c1,de,AM,CE];first|done|rfl
      .exact zAr
     .exact zBe
     obtain⟨a7,z⟩:=b5;subst a7;rw[ag.1]at z;replace z:=AB z;refine aw ?_;exact z.1
    .have c8: ¬L.length=0:=fun e=>by have:=s.1.ne (BI e);cases this
     have b4:=GQ L AA;simp only[Jn,Ci c8]at b4;obtain⟨a5,be,f9,e8⟩:=Cn dq J P;have bi: ∀a c k,b+45<=k->Id.is (a::c::k::π) w=false:=fun a c k cs=>AF fun e=>by
      exact zCQ
     have c2: ∀a c k,b+45<=k->Id.is w (a::c::k::π)=false:=fun a c k cs=>AF fun e=>by
      exact zCo
     have B:=s.1.out w BH;have b8:Id.is w m=false:=AF fun e=>B (e▸u.m_mem m);have cx:Id.is m w=false:=AF fun e=>B (e▸u.m_mem m);have e3:Id.is w E=false:=AF fun e=>B (e▸u.s_mem m (i:=3) AA zEy);have ej:Id.is E w=false:=AF fun e=>B (e▸u.s_mem m (i:=3) AA zEy);have am:=Wg (f:=AN) (sz:=2) (fun _=>rfl) AZ g.env L (fun e=>c8 zFj) AA;have hm:List.take L.length (List.map AN L)=List.map AN L:=Bi AG;have hn:List.take L.length (List.map (fun x=>List.map AV.d x) (List.map AN L))=(List.map AN L).map fun x=>x.map AV.d:=Bi AG;have ho:=RL AN g.env L;replace J:=AB J;replace P:=AB P;replace B:=AB B;simp only[BE]at a6;refine ax ?_;refine Cv (a6.1 _ _ (d3.1 _ AA _ ?_ fun id b1 Y y=>?_)) (fun e5 g1 b5=>?_)
     .apply Exists.intro;refine⟨?_,?_,?_⟩
      .exact zA2
      .refine Ao [] AG ?_;simp only[CI,BE,By,BY,ag.1];simp only[go_sem,Z,N,a3,a4,c9,b7,c',dd,c1,de,a5,be,bi,c2,b8,cx,(show¬b+12=b by omega),e3,ej,AM,CE];first|done|rfl
      .exact zAr
     .exact zAz
     obtain⟨a7,z⟩:=b5;subst a7;rw[ag.1]at z;replace z:=AB z;refine aw ?_;exact z.1
   .rcases ex with⟨rfl,rfl⟩|⟨w,rfl,gi,n,dq,J,P⟩
    .have b4:=GQ [] AG;simp only[Jn,List.length_nil,F6,BY]at b4;simp only[CI]at a6;refine ax ?_;refine Cv (a6.1 _ _ (d3.1 _ AA _ ?_ fun id b1 Y y=>?_)) (fun e5 g1 b5=>?_)
     .apply Exists.intro;refine⟨?_,?_,?_⟩
      .exact zCD
      .refine Ao f6 AG ?_;simp only[BE,By,BY,DO,Cs,CE,ag.1];exact zCD
      .exact .inl (by rw[K.1];rfl)
     .exact zBe
     obtain⟨a7,z⟩:=b5;subst a7;rw[ag.1]at z;replace z:=AB z;refine aw ?_;exact z.1
    .have c8: ¬L.length=0:=fun e=>by have:=s.1.ne (BI e);cases this
     have b4:=GQ L AA;simp only[Jn,Ci c8]at b4;obtain⟨a5,be,f9,e8⟩:=Cn dq J P;have bi: ∀a c k,b+45<=k->Id.is (a::c::k::π) w=false:=fun a c k cs=>AF fun e=>by
      exact zCQ
     have c2: ∀a c k,b+45<=k->Id.is w (a::c::k::π)=false:=fun a c k cs=>AF fun e=>by
      exact zCo
     have B:=s.1.out w BH;have b8:Id.is w m=false:=AF fun e=>B (e▸u.m_mem m);have cx:Id.is m w=false:=AF fun e=>B (e▸u.m_mem m);have e3:Id.is w E=false:=AF fun e=>B (e▸u.s_mem m (i:=3) AA zEy);have ej:Id.is E w=false:=AF fun e=>B (e▸u.s_mem m (i:=3) AA zEy);have am:=Wg (f:=AN) (sz:=2) (fun _=>rfl) AZ g.env L (fun e=>c8 zFj) AA;have hm:List.take L.length (List.map AN L)=List.map AN L:=Bi AG;have hn:List.take L.length (List.map (fun x=>List.map AV.d x) (List.map AN L))=(List.map AN L).map fun x=>x.map AV.d:=Bi AG;have ho:=RL AN g.env L;replace J:=AB J;replace P:=AB P;replace B:=AB B;simp only[BE]at a6;refine ax ?_;refine Cv (a6.1 _ _ (d3.1 _ AA _ ?_ fun id b1 Y y=>?_)) (fun e5 g1 b5=>?_)
     .apply Exists.intro;refine⟨?_,?_,?_⟩
      .exact zA2
      .refine Ao f6 AG ?_;simp only[BE,By,BY,DO,Cs,CE,ag.1];exact zA2
      .exact .inl (by rw[K.1];rfl)
     .exact zAz
     obtain⟨a7,z⟩:=b5;subst a7;rw[ag.1]at z;replace z:=AB z;refine aw ?_;exact z.1
structure eN(p:AX)(sz:List Int)(V:MV)(G:AD):Prop where
 rep:J4 p sz G [0,0,6] V ⟨tX,[],0⟩
 x0:G.get [0,0]=some (.box (pC p))
 x1:G.get [0,1]=some (.box [.d7,.d7,.d7,.d7])
 x3:G.get [0,3]=some (.box [nI 0])
def eN.mono{p:AX}{sz:List Int}{V:MV}{G b:AD}(h:eN p sz V G)(c: ∀j∈V.ids [0,0,6],∃n,n<20/\Id.under [n] j=true/\ ¬j=[0,1]/\ ¬j=[0,3])(a: ∀j,(∀k,20<=k->Id.is [1,k] j=false)->b.get j=G.get j):eN p sz V b:=by
 refine⟨CM h.rep fun j f=>a j fun k i=>AF fun e=>?_,(a _ fun k _=>rfl).trans h.x0,(a _ fun k _=>rfl).trans h.x1,(a _ fun k _=>rfl).trans h.x3⟩;obtain⟨n,g,h2,_⟩:=c j f;subst e;have:=B5 (π:=[]) h2 (under_iff.2 ⟨[1],rfl⟩:Id.under [k] [1,k]=true);omega
def TT(p:AX)(a:Bool)(h:AD)(π:List Nat)(m:Abs.Id)(V:MV)(w:Int)(k:h.get m=some (.box (Ba p a V w)))(j:Id.under π m=false)(c:a=false->(V.s 0).isCell=true)(e:a=false->(V.s 1).isCell=true)(f:a=false->V.v3.isCell=true)(g:a=false->(V.s 2).isCell=true):
 ∃o h',kT (.fn 88) [.ptr m 0] h π true none=.ok (o,h')/\o=.ret (if a=true then .ii [.agg [.d7,.d7,.d7,.d7],.d7,nI 3]else .ii [.agg [V.s 0,V.s 1,V.v3,V.s 2],V.s 3,nI 0])/\ ∀id,Id.under π id=false->h'.get id=h.get id:=by
 simp only[Ba]at k;have l:=AI j;have n:=Aj j;cases a
 .replace c:=c rfl;replace e:=e rfl;replace f:=f rfl;replace g:=g rfl;exact zCu
 .clear c e f g;exact zCu
variable{g:AD}{v:AV}
def tt{es:List (List Al)}(h:jv g sz v es):Fc g.get v=some (.d (.bv es)):=by
 rcases h with h|⟨rfl,rfl⟩
 .exact bN h
 .rfl
def hG{B:MV->Int->List AV}{c:Bool}{id:Abs.Id}{st:CW}(a:Gj B c g id V st):zP (fun o' h'=>v5 (o',h')=(A8.ret (L8 (cJ (some st))),[])) (Option.map AV.ii (Sn (Option.map AV.agg (Ke (C9 g.get (V.s 0)) (Ke (C9 g.get (V.s 1)) (Ke (C9 g.get V.v3) (Ke (C9 g.get (V.s 2)) (some [])))))) (Sn (Fc g.get (V.s 3)) (some [nI 0])))):=by
 have b:=Qc (Vc (a.sl 0 AA));have e:=Qc (Vc (a.sl 1 AA));have f:=Qc (Vc (a.sl 2 AA));have h:=tt (Vc (a.sl 3 AA));have i:=Nf a.arr a.be;simp only[Ax]at b e f h;rw[b,e,f,h,i];rfl
variable{v1 v2 v3 v4:AV}{rows:List (List AV)}
def Wz{s:BU}(a:Te π s v1 v2 v3 v4 rows g){G:AD}{p:AX}(k:G.get m=some (.box (Ba p false (mc v1 v2 v3 v4 .d7 m rows) 0)))
 (e: ∀id o,g.get id=some o->G.get id=some o):Vr p G m (mc v1 v2 v3 v4 .d7 m rows) ⟨s,[],0⟩:=by
 have key: ∀{sz:Nat} {v:AV} {es:List (List Al)},KJ g sz v es->KJ G sz v es:=fun h=>by
  refine GM h fun id b=>?_;obtain⟨x,c⟩:=Ia h b;rw[c];exact e _ _ c
 refine⟨k,.inl ⟨rfl,rfl⟩,fun i l=>?_,?_,?_,a.gw,a.qd,fun _ _ _=>rfl⟩
 .match i,l with
  |0,_=>exact key a.s0
  |1,_=>exact key a.s1
  |2,_=>exact .inl (key a.s2)
  |3,_=>exact .inl ⟨rfl,rfl⟩
 .refine Lu a.arr fun id b=>?_;have:=HY a.arr b;rw[this];exact e _ _ this
 .have:=Lr (g':=G) a.be fun id b=>by
   obtain⟨x,c⟩:=K5 a.be b;rw[c];exact e _ _ c
  exact⟨this.len,fun j q n=>by
   obtain⟨v,f,h2⟩:=this.row j q n;exact⟨v,f,.inl h2⟩⟩
def Ts{id:Abs.Id}(h:g.get id=none):((g.map fun x=>x.1).all fun x=> !Id.is id x)=true:=by
 rw[D3];intro x a;rw[AF]
 .rfl
 .rintro rfl;exact Uv a h
def mb{n:Nat}{s:BU}(a:Te [n] s v1 v2 v3 v4 rows g): ∀j∈(mc v1 v2 v3 v4 .d7 m rows).ids m,j=m\/Id.under [n] j=true:=fun j b=>by
 rcases(MV.mem _ _ j).1 b with rfl|rfl|⟨i,hi,h⟩|h|h
 .exact .inl rfl
 .exact .inl rfl
 .match i,hi with
  |0,_=>exact .inr (a.ids j (.inl h))
  |1,_=>exact .inr (a.ids j (.inr (.inl h)))
  |2,_=>exact .inr (a.ids j (.inr (.inr (.inl h))))
  |3,_=>simp[mc,AE]at h
 .exact .inr (a.ids j (by simp[mc]at h;simp[h]))
 .exact .inr (a.ids j (by simp[mc]at h;simp[h]))
def ZP{a:Nat}{j:Abs.Id}(h:Id.under [a] j=true)(c: ¬b=a):Id.under [b] j=false:=by
 cases e:Id.under [b] j with
 |false=>rfl
 |true=>exact absurd (B5 (π:=[]) e h) c
def Zc{p:AX}{sz:List Int}(ag:BP p sz){s:BU}(U:Fo p sz s)(az:s.Fits){x:FH}(M:NJ p s x):BX kT 56 [pA p,sA s,M3 x] []=.ok (.ret (L8 (cJ (De p s x))),[]):=by
 have be: ¬s.ac.length=0:=by
  have:=U.tree.pos;omega
 obtain⟨r,m,v1,v2,v3,v4,rows,g,rfl,f⟩:=aJ s az be 8 [];replace f:=f.cp;have S:=f.own;have O: ∀n,¬n=8-> ∀L,AD.get (g++L) [0,n]=AD.get L [0,n]:=fun n b1 L=>Bt (S _ (Au [] b1));obtain⟨X,a5⟩:=Bg f.s0;obtain⟨Y,a6⟩:=Bg f.s1;obtain⟨Z,a7⟩:=Bg f.s2;obtain⟨a4,a'⟩:=Gm f.arr;have b7:=Ts (S [0,0] rfl);have b8:=Ts (S [0,1] rfl);replace S:=AB S;have b4:=O 0 AZ;have b5:=O 1 AZ;have b6:=O 2 AZ;have bc:=O 3 AZ;replace O:=AB O;have b2:=f.s0;replace ag:=AB ag;replace U:=AB U;replace M:=AB M;replace az:=AB az;replace f:=AB f;rcases b2 with⟨rfl,bl⟩|⟨b3,D,rfl,bl⟩
 .exact absurd (by rw[D5.1 bl];rfl) be
 obtain⟨V,B⟩: ∃V,V=mc (.f8 b3 0 (s.ac.map Aw).length) v2 v3 v4 .d7 [0,10] rows:=⟨_,rfl⟩;have T:AH (∀j∈V.ids [0,10],j=[0,10]\/Id.under [8] j=true):=⟨by rw[B];exact mb f.1⟩;have ad:AH ([0,3] ∉V.ids [0,10]):=⟨fun h=>by rcases T.1 _ h with h|h<;>cases h⟩
 have bk:AH (∀id o,g.get id=some o->Id.is [0,10] id=false):=⟨fun id o C=>AF fun e=>by rw[<-e,f.1.own _ rfl]at C;cases C⟩;replace B:=AB B;cases M.1 with
 | @wn i k bs d r t ac h2 bi b0 ar=>
   replace ar:=AB ar;refine Az Tryz.func56 ?_;refine aw ?_;generalize v:AD.put (g++_) [0,10] _=H;have R:H.get [0,10]=some (.box (Ba p false V 0)):=by
    rw[<-v];simp only[go_sem];rw[B.1,As];rfl
   have av:Vr p H [0,10] V ⟨s,[],0⟩:=by
    exact zCR
   have Q:Bx [17] V [0,10]:=fun j z=>by
    rcases T.1 j z with rfl|h
    .rfl
    .exact ZP h AZ
   have P:H.get [0,3]=some (.box [.d7,.d7,.d7,.d7]):=by
    rw[<-v];simp only[go_sem,bc]
   replace v:=AB v;refine Ad (qQ ag.1 av Q U.1 ac h2 bi b0 ar.1 rfl AG) (fun a0 g1 u=>?_);replace u:Jx p [17] [0,10] V H (De p s ⟨-1,i,k,t⟩) a0 g1:=by
    have bv:s.ce[((i:Nat):Int).toNat]? =some bs:=ac;have bx:d.rules[((k:Nat):Int).toNat]? =some r:=bi;rw[De,D4 AU,dM];simp only[bv,(Fx h2).2,bx,Q6];exact u
   cases m:De p s ⟨-1,i,k,t⟩with
   |none=>
    rw[m]at u;obtain⟨rfl,⟨A,w,a⟩,K⟩:=u;replace a:=(An [17] g1 [0,10] rfl).trans a;have D:(gc [17] g1).get [0,3]=some (.box [.d7,.d7,.d7,.d7]):=(An [17] g1 [0,3] rfl).trans ((K [0,3] (ad.1) rfl).trans P);replace a:=AB a;replace K:=AB K;replace m:=AB m;simp only[cJ,L8,sA,GG,BY];refine aw ?_;refine Ad (TT p true _ _ _ A w a.1 rfl AG AG AG AG) (fun a1 F N=>?_);obtain⟨rfl,c⟩:=N;have a3:=(An [19] F [0,3] rfl).trans ((c [0,3] rfl).trans D);replace c:=AB c;exact au
   |some st=>
    rw[m]at u;obtain⟨rfl,A,I,y⟩:=u;have b:=TZ I y Q;have J: ∀j∈A.ids [0,10],¬j=[0,3]/\Id.under [19] j=false:=fun j z=>by
     rcases y.ids j z with q|⟨q,l,rfl⟩
     .exact zCS
     .refine⟨(by intro e;cases e),?_⟩;cases M:Id.under [19] (1::l)with
      |false=>rfl
      |true=>
       have:=B5 (π:=[]) q M;cases this
    have a:=b.box;have D:(gc [17] g1).get [0,3]=some (.box [.d7,.d7,.d7,.d7]):=(An [17] g1 [0,3] rfl).trans ((y.frame [0,3] (ad.1) rfl).trans P);obtain⟨X,a5⟩:=Bg (b.sl 0 AA);obtain⟨Y,a6⟩:=Bg (b.sl 1 AA);obtain⟨Z,a7⟩:=Ve (b.sl 2 AA);obtain⟨a4,a'⟩:=Bg (b.sl 3 AA);obtain⟨ai,bo⟩:=Gm b.arr;replace a:=AB a;replace I:=AB I;replace b:=AB b;replace y:=AB y;replace J:=AB J;replace m:=AB m;refine aw ?_;refine Ad (TT p false _ _ _ A st.work a.1 rfl (fun _=>X) (fun _=>Y) (fun _=>ai) (fun _=>Z)) (fun a1 F N=>?_);obtain⟨rfl,c⟩:=N;have a3:=(An [19] F [0,3] rfl).trans ((c [0,3] rfl).trans D);exact zBp
 | @wait i w ac h2=>
   refine Az Tryz.func56 ?_;refine aw ?_;generalize v:AD.put (g++_) [0,10] _=H;have R:H.get [0,10]=some (.box (Ba p false V 0)):=by
    rw[<-v];simp only[go_sem];rw[B.1,As];rfl
   have av:Vr p H [0,10] V ⟨s,[],0⟩:=by
    exact zCR
   have Q:Bx [18] V [0,10]:=fun j z=>by
    rcases T.1 j z with rfl|h
    .rfl
    .exact ZP h AZ
   have P:H.get [0,3]=some (.box [.d7,.d7,.d7,.d7]):=by
    rw[<-v];simp only[go_sem,bc]
   replace v:=AB v;refine Ad (xr ag.1 av Q U.1 ac h2 AG rfl) (fun a0 g1 u=>?_);replace u:Jx p [18] [0,10] V H (De p s ⟨i,0,0,[]⟩) a0 g1:=by
    rw[<-qo];exact u
   cases m:De p s ⟨i,0,0,[]⟩with
   |none=>
    rw[m]at u;obtain⟨rfl,⟨A,w,a⟩,K⟩:=u;replace a:=(An [18] g1 [0,10] rfl).trans a;have D:(gc [18] g1).get [0,3]=some (.box [.d7,.d7,.d7,.d7]):=(An [18] g1 [0,3] rfl).trans ((K [0,3] (ad.1) rfl).trans P);replace a:=AB a;replace K:=AB K;replace m:=AB m;simp only[cJ,L8,sA,GG,BY];refine aw ?_;refine Ad (TT p true _ _ _ A w a.1 rfl AG AG AG AG) (fun a1 F N=>?_);obtain⟨rfl,c⟩:=N;have a3:=(An [20] F [0,3] rfl).trans ((c [0,3] rfl).trans D);replace c:=AB c;exact au
   |some st=>
    rw[m]at u;obtain⟨rfl,A,I,y⟩:=u;have b:=TZ I y Q;have J: ∀j∈A.ids [0,10],¬j=[0,3]/\Id.under [20] j=false:=fun j z=>by
     rcases y.ids j z with q|⟨q,l,rfl⟩
     .exact zCS
     .refine⟨(by intro e;cases e),?_⟩;cases M:Id.under [20] (1::l)with
      |false=>rfl
      |true=>
       have:=B5 (π:=[]) q M;cases this
    have a:=b.box;have D:(gc [18] g1).get [0,3]=some (.box [.d7,.d7,.d7,.d7]):=(An [18] g1 [0,3] rfl).trans ((y.frame [0,3] (ad.1) rfl).trans P);obtain⟨X,a5⟩:=Bg (b.sl 0 AA);obtain⟨Y,a6⟩:=Bg (b.sl 1 AA);obtain⟨Z,a7⟩:=Ve (b.sl 2 AA);obtain⟨a4,a'⟩:=Bg (b.sl 3 AA);obtain⟨ai,bo⟩:=Gm b.arr;replace a:=AB a;replace I:=AB I;replace b:=AB b;replace y:=AB y;replace J:=AB J;replace m:=AB m;refine aw ?_;refine Ad (TT p false _ _ _ A st.work a.1 rfl (fun _=>X) (fun _=>Y) (fun _=>ai) (fun _=>Z)) (fun a1 F N=>?_);obtain⟨rfl,c⟩:=N;have a3:=(An [20] F [0,3] rfl).trans ((c [0,3] rfl).trans D);exact zBp
structure eU(r:Made):Prop where
 d8:r.d8.fits
 len:r.ev.length<=1000000
 ev: ∀e∈r.ev,e.lc.length<=1000000
def Ry(n:Int):eU ⟨GG,[],n⟩:=⟨rN,AG,AG⟩
def vO{p:AX}{g:BU}{lt:Bq}(c:hB p g lt){s:BU}{ev:List Eg}(h:Fo p lt.co s)(f:ev.length<=1000000)(b: ∀e∈ev,ZU e):eU ⟨s,ev,0⟩:=by
 have a:=P0 c.looks (xP h);exact⟨⟨a.ac,a.ce,by have:=a.be;dsimp only;omega,a.waits,a.group,a.chan,a.wait⟩,f,fun e h=>by have:=b e h;unfold ZU at this;omega⟩
def sc(b:Nat)(e:CA)(h:AD)(a:Nat)(π:List Nat)(ci:Option (List Nat))(c:Bool)(nt:Nat):Fq cfg ⟨60,π,false,ci,c,nt⟩ b ⟨e,h,a,[]⟩=Ir cfg 60 π b e h:=by
 exact zEE
attribute [go_sem 2000] sc
variable{H:AD}{B R O:Abs.Id}
def IY.cpt{s:BU}(h:IY π s v1 v2 v3 v4 rows g){cs:List Al}(e: ∀id o,g.get id=some o->H.get id=some o)(l:H.get B=some (.box (cs.map .d)))(n:H.get R=some (.box [.d7,.d7,.d7,.d7]))(m:H.get O=some (.box [v1,v2,v3,v4]))(ro:R≠O)(i:B≠O):Vq cs s s.ce.length s.be.length s.waits.length B R O v1 v2 v3 v4 rows H:=by
 have c: ∀{sz:Nat} {v:AV} {es:List (List Al)},MJ g sz v es->MJ H sz v es:=fun h=>E3 h fun id b=>(e id _ (EI h b).2).trans (EI h b).2.symm;have a:=c h.s1;have h2:=c h.s2;have k:Fu H rows s.be:=EK h.rep fun id b=>by
  obtain⟨q,f⟩:=EY h.rep b;rw[f];exact e id _ f
 refine⟨l,n,m,c h.s0,by rw[D2];exact a,?_,by rw[D2];exact k,by rw[D2];exact h2,h.cp.gw,ro,i⟩;rcases h.arr with a|⟨j,A,a,h2⟩
 .exact .inl a
 .exact .inr ⟨j,A,a,e A _ h2⟩
def FK(h h':AD):Prop:= ∀id,h'.get id=h.get id\/(∃sz es,h.get id=some (.em sz es)/\h'.get id=some (.i7 sz es))\/(∃sz es ds,h.get id=some (.arr sz es)/\h'.get id=some (.i7 sz ds)/\C7 h.get es=some ds)\/ ∃cs,h.get id=some (.box cs)
variable{h h':AD}
def Ym(c:A0 h h'):FK h h':=fun id=>by
 rcases c.each id with e|e|⟨sz,es,ds,a,h2,b,_⟩
 .exact .inl e
 .exact .inr (.inl e)
 .exact .inr (.inr (.inl ⟨sz,es,ds,a,h2,b⟩))
def tZ{cs:List AV}(b:h.get R=some (.box cs))(o:Abs.Obj):FK h (h.put R o):=fun id=>by
 cases a:Id.is R id with
 |true=>
  have:R=id:=Decidable.byContradiction fun e=>by rw[AF e]at a;cases a
  exact .inr (.inr (.inr ⟨cs,this▸b⟩))
 |false=>exact .inl (by rw[get_put,a];rfl)
variable{x:Al}
def XH(c:FK h h')(a:FQ h.get v=some x):FQ h'.get v=some x:=by
 cases v with
 |f8 id off n=>
  simp only[FQ]at a⊢;rcases c id with e|⟨sz,es,b,h2⟩|⟨sz,es,ds,b,h2,_⟩|⟨cs,b⟩
  .rw[e];exact a
  .rw[b]at a;rw[h2];exact a
  .rw[b]at a;cases a
  .rw[b]at a;cases a
 |_=>exact a
def Uk(c:FK h h'): ∀{vs:List AV} {xs:List Al},C6 h.get vs=some xs->C6 h'.get vs=some xs
 |[],_,a=>a
 |v::vs,xs,a=>by
  simp only[C6]at a⊢;cases b:FQ h.get v with
  |none=>rw[b]at a;cases a
  |some e=>
   cases h2:C6 h.get vs with
   |none=>rw[b,h2]at a;cases a
   |some f=>
    rw[b,h2]at a;rw[XH c b,Uk c h2];exact a
def Uo(c:FK h h'): ∀{es:List (List AV)} {ds:List (List Al)},C7 h.get es=some ds->C7 h'.get es=some ds
 |[],_,a=>a
 |v::vs,xs,a=>by
  simp only[C7]at a⊢;cases b:C6 h.get v with
  |none=>rw[b]at a;cases a
  |some e=>
   cases h2:C7 h.get vs with
   |none=>rw[b,h2]at a;cases a
   |some f=>
    rw[b,h2]at a;rw[Uk c b,Uo c h2];exact a
def E2(g:FK h h')(a:C9 h.get v=some x):C9 h'.get v=some x:=by
 cases v with
 |f8 id off n=>
  have c:=fun j=>XH g (v:=.f8 id off n) (x:=x) j;simp only[C9]at a⊢;rcases g id with e|⟨sz,es,b,h2⟩|⟨sz,es,ds,b,h2,k⟩|⟨cs,b⟩
  .rw[e];cases i:h.get id with
   |none=>rw[i]at a;exact c a
   |some o=>
    rw[i]at a;cases o with
    |arr sz es=>
     dsimp only at a⊢;cases f:C7 h.get es with
     |none=>rw[f]at a;cases a
     |some ds=>rw[f]at a;rw[Uo g f];exact a
    |_=>exact c a
  .rw[b]at a;rw[h2];exact c a
  .rw[b]at a;dsimp only at a;rw[k]at a;rw[h2];simp only[FQ,h2];exact a
  .rw[b]at a;dsimp only[FQ]at a;rw[b]at a;cases a
 |_=>exact a
def Om(c: ∀id∈GD v,Gi h id):Di h.get v=[]:=by
 cases v with
 |f8 id off n=>
  have b:=c id (by simp[GD]);simp only[Di];split
  .rename_i a;cases b _ a
  .rename_i a;cases b _ a
  .rfl
 |_=>rfl
def TX{g:G}(a:C9 g v=some x):AE v=GD v:=by
 cases v<;>first|rfl|(simp[C9,FQ]at a)
def s7{l:List Abs.Id}(a: ∀id∈l,Gi h id):C2 h.get l=l:=by
 unfold C2
 conv=>rhs;rw[<-CI l]
 congr 1;rw[List.flatMap_eq_nil_iff];intro id c;split
 .rename_i b;cases a id c _ b
 .rfl
def Hl{A:Abs.Id}(h:FW [] b A)(t j:Nat)(c:b<=j):Id.is [t,j] A=false/\Id.is A [t,j]=false:=by
 obtain⟨f,e,a,rfl⟩:=h;exact⟨AF Aa,AF Aa⟩
def ACI{l m n o:Al}(b:C9 g.get v1=some l)(h2:C9 g.get v2=some m)(j:C9 g.get v3=some n)(k:C9 g.get v4=some o): ∃G,g.puts (Di g.get v1++(Di g.get v2++(Di g.get v3++Di g.get v4)))=G/\(∀id cs,g.get id=some (.box cs)->G.get id=some (.box cs))/\C9 G.get v1=some l/\C9 G.get v2=some m/\C9 G.get v3=some n/\C9 G.get v4=some o/\Di G.get v1=[]/\Di G.get v2=[]/\Di G.get v3=[]/\Di G.get v4=[]/\C2 G.get (AE v1++(AE v2++(AE v3++AE v4)))=AE v1++(AE v2++(AE v3++AE v4)):=by
 have f: ∀p∈([AV.agg [v1,v2,v3,v4]]:List AV).flatMap (Go.Abs.mark g.get),KU g (([AV.agg [v1,v2,v3,v4]]:List AV).flatMap (Go.Abs.mark g.get)) p:=Ml;have u:([AV.agg [v1,v2,v3,v4]]:List AV).flatMap (Go.Abs.mark g.get)=Di g.get v1++(Di g.get v2++(Di g.get v3++Di g.get v4)):=by simp[Go.Abs.mark,LJ]
 rw[u]at f;have i:=Ix f;have q:=fun id a=>(Ng f b (fun p c=>by simp[c]) id a).1;have r:=fun id a=>(Ng f h2 (fun p c=>by simp[c]) id a).1;have s:=fun id a=>(Ng f j (fun p c=>by simp[c]) id a).1;have t:=fun id a=>(Ng f k (fun p c=>by simp[c]) id a).1;refine⟨_,rfl,fun id cs a=>?_,E2 (Ym i) b,E2 (Ym i) h2,E2 (Ym i) j,E2 (Ym i) k,Om q,Om r,Om s,Om t,s7 fun id a=>?_⟩
 .rcases i.each id with e|⟨sz,es,b,h2⟩|⟨sz,es,ds,b,h2,_⟩
  .exact e.trans a
  .rw[a]at b;cases b
  .rw[a]at b;cases b
 .rw[TX b,TX h2,TX j,TX k]at a;simp only[EL]at a;rcases a with h|h|h|h
  .exact q id h
  .exact r id h
  .exact s id h
  .exact t id h
structure RnS where
 B:Abs.Id
 R:Abs.Id
 O:Abs.Id
 v9:AV
 g:AD
 b:Nat
def kv{l:List FH}{k:Int}(h:l≠ []): ∃x j,Gx l k=some x/\l[j]? =some x/\x∈l/\j<l.length/\(if 0>k then 0 else k).tmod (l.length:Int)=(j:Int):=by
 have c:0<l.length:=Nat.pos_of_ne_zero fun e=>h (BI e);have b:(max k 0).toNat % l.length<l.length:=UN _ c;obtain⟨x,a⟩:=get_some b;exact⟨x,_,by rw[Gx];exact a,a,AS a,b,cz rfl⟩
structure NS(p:AX)(s:BU)(ev:List Eg)(B R O E:Abs.Id)(g:AD):Prop where
 b:g.get B=some (.box (pC p))
 r:g.get R=some (.box [.d7,.d7,.d7,.d7])
 o:g.get O=some (.box (sC s))
 e:g.get E=some (.em 5 (ev.map Dk))
def lH{x:Code}{p:AX}{s:BU}{ev:List Eg}{E:Abs.Id}{c:CA}{i:Int}
 (o:Kj c (cfg.live 60 0)=[(2,.d d),(3,.ptr B 0),(4,.ptr O 0),(6,.ptr R 0),(9,.f8 E 0 ev.length),(10,nI i)]) (h:NS p s ev B R O E H)
 (q: ∀B R O E g b,NS p s ev B R O E g->(∀id∈ [B,R,O,E],FW [] b id)->Tq cfg K fr 0 x ⟨[(2,.d d),(3,.ptr B 0),(4,.ptr O 0),(6,.ptr R 0),(9,.f8 E 0 ev.length),(10,nI i)],g,b,[]⟩ Q):Tq cfg K fr 0 x (Ir cfg 60 [] 0 c H) Q:=by
 refine se _ o zEc (fun I f=>?_) fun z g b a=>?_
 .simp[Fz,AE,A9]at f;rcases f with rfl|rfl|rfl|rfl
  .exact⟨_,h.b,kC (TS p)⟩
  .exact⟨_,h.o,kC (PT s)⟩
  .exact⟨_,h.r,rfl,fun z=>by simp[E1,Fj,ren]⟩
  .exact⟨_,h.e,yY _ _⟩
 .obtain⟨j,u,D,v⟩:=a B zEc;obtain⟨R',w,F,y⟩:=a R zEc;obtain⟨l,r,C,t⟩:=a O zEc;obtain⟨k,m,A,n⟩:=a E zEc;have:=q j R' l k g b ⟨v.trans h.b,y.trans h.r,t.trans h.o,n.trans h.e⟩ (fun id e=>by
   simp only[D0,Gc,Lt]at e;rcases e with rfl|rfl|rfl|rfl<;>assumption)
  simpa[ren,Fj,u,w,r,m]using this
theorem lY{p:AX}{sz:List Int}(J:BP p sz){s:BU}(K:Fo p sz s)(Y: ∀s,Fo p sz s->s.Fits)(ks:List Int)(en:ks.length<=200):BX kT 60 [pA p,sA s,.d (.bv (ks.map AL))] []=.ok (.ret (L8 (lD (HI p ks s []))),[]):=by
 have b': ¬s.ac.length=0:=by
  have:=K.tree.pos;omega
 obtain⟨r,dq,v1,v2,v3,v4,rows,g,rfl,I⟩:=aJ s (Y s K) b' 6 [];have Z:=I.cp.own;have U: ∀n,¬n=6-> ∀L,AD.get (g++L) [0,n]=AD.get L [0,n]:=fun n bx L=>Bt (Z _ (Au [] bx));have b6:=U 0 AZ;have b7:=U 1 AZ;have b8:=U 2 AZ;have c5:=U 3 AZ;obtain⟨a',bk⟩:=Bg I.cp.s0;obtain⟨bc,bl⟩:=Bg I.cp.s1;obtain⟨be,bo⟩:=Bg I.cp.s2;obtain⟨bi,bs⟩:=Gm I.cp.arr;have c6:=Ts (Z [0,1] rfl);have dr:=I.s0;replace U:=AB U;replace J:=AB J;replace K:=AB K;replace Y:=AB Y;replace Z:=AB Z;replace I:=AB I;rcases dr with⟨cn,rfl⟩|⟨cn,e0,rfl,ek⟩
 .exact absurd (by rw[D5.1 cn];rfl) b'
 obtain⟨T,a2⟩: ∃R,R=HI p ks s []:=⟨_,rfl⟩;rw[<-a2];replace a2:=AB a2;rw[As]at*;refine Az Tryz.func60 ?_;refine aw ?_;refine sw [(2,.d (.bv (ks.map AL))),(3,.ptr [0,0] 0),(4,.ptr [0,1] 0),(6,.ptr [0,2] 0),(9,.d7),(10,nI 0)] ?_ (I.1.cpt (cs:=TS p) (B:=[0,0]) (R:=[0,2]) (O:=[0,1]) (fun id o b1=>?_) ?_ ?_ ?_ AZ AZ) (Y.1 s K.1).be (by simp[Fz,AE,A9];intro fd;constructor<;>(rintro(h|h|h)<;>simp[h])) fun fi B R O v1 v2 v3 v4 rows g b ad ag ch c=>?_
 .simp only[go_sem]
 .have q:=fun L=>C3 (b:=L) b1;have d8:=AF (fun e:[0,1]=id=>by rw[<-e,Z.1 _ rfl]at b1;cases b1);simp only[go_sem,q,d8,AM]
 .simp only[go_sem,b6];rfl
 .simp only[go_sem,b8]
 .simp only[go_sem,b7,As]
 simp only[By,BY,ren,ad,ag,ch];clear ad ag ch dq Z U I b6 b7 b8 c5 c6 a' bc be bi bk bl bo bs;refine Ah ks (S:=fun i (a:RnS)=>⟨[(2,.d (.bv (ks.map AL))),(3,.ptr a.B 0),(4,.ptr a.O 0),(6,.ptr a.R 0),(9,a.v9),(10,nI i)],a.g,a.b,[]⟩)
  (Inv:=fun i cl a=>AH ((i=0/\a.v9=.d7/\T=HI p cl s []/\ ∃v1 v2 v3 v4 rows,eI [] (TS p) s s.ce.length s.be.length s.waits.length a.B a.R a.O v1 v2 v3 v4 rows a.g a.b)\/ ∃H ev E,Fo p sz H/\T=HI p cl H ev/\ev≠ []/\ev.length<=401*i/\a.v9=.f8 E 0 ev.length/\NS p H ev a.B a.R a.O E a.g/\ ∀id∈ [a.B,a.R,a.O,E],FW [] a.b id)) (b0:=⟨B,R,O,.d7,g,b⟩) ⟨.inl ⟨rfl,rfl,a2.1,v1,v2,v3,v4,rows,c⟩⟩ ?_ ?_
 .clear c;rintro i k ⟨B,R,O,v9,g,b⟩ ex bv dn W b5;dsimp only at*;have es:IntKind.i64.wrap ((i:Int)+1)=(i:Int)+1:=wrap_id AA AA;rcases W.1 with⟨a4,rfl,v,v1,v2,v3,v4,rows,c⟩|⟨H,ev,E,ac,v,az,dd,rfl,A,c⟩
  .clear W;subst a4;have h2:=Tn J.1 K.1;have ds:=O4 J.1 K.1;have ar:g.get B=some (.box (pC p)):=c.cp.bx;have z:=c.cp.out;have C:=c.cp.res;have D:=c.cp.s1;have F:=c.cp.s2;have P:=c.cp.rep;rw[D2]at D F P;have c1:=Fe (Dd c.cp.s0);have c2:=Fe (Dd D);have c3:=Fe (Dd F);have c4:=Nf c.cp.chv (YU P);obtain⟨a',bk⟩:=Bg (Dd c.cp.s0);obtain⟨bc,bl⟩:=Bg (Dd D);obtain⟨be,bo⟩:=Bg (Dd F);obtain⟨bi,bs⟩:=Gm c.cp.chv;replace D:=AB D;replace F:=AB F;replace P:=AB P;replace c:=AB c;replace v:=AB v;obtain⟨eb,el,a1,d1,d2,d3,d4,e2,e3,e4,e5,e6⟩:=ACI c1 c2 c4 c3;have d0:=a1 _ _ ar;have e1:=a1 _ _ z;have cc:=a1 _ _ C;have em:(0:Int)<ks.length:=AA;have Q:=c.1.nm;have b2:=fun t j l=>(Hl (Q B zEY) t j l).1;have d5:=fun t j l=>(Hl (Q B zEY) t j l).2;have d6:=fun t j l=>(Hl (Q O zEY) t j l).1;have b3:=fun t j l=>(Hl (Q O zEY) t j l).2;have b4:=fun t j l=>(Hl (Q R zEY) t j l).1;have d7:=fun t j l=>(Hl (Q R zEY) t j l).2;have a7:=AF c.1.cp.ro;have a6:=AF fun e=>c.1.cp.ro e.symm;have d':=AF c.1.cp.bo;have a5:=AF fun e=>c.1.cp.bo e.symm;have e': ∀n,b<=n->((AE v1++(AE v2++(AE v3++AE v4))).all fun x=> !Id.is x [0,n])=true:=fun n bx=>D3.2 fun x a3=>by
    rw[(Hl (Q x (BQ.2 (by simp only[EL]at a3;rcases a3 with h|h|h|h<;>simp[h]))) 0 n bx).2];rfl
   replace Q:=AB Q;replace a1:=AB a1;by_cases w:CG p s=[]
   .rw[w]at h2;have u:T=some (s,[]):=by rw[v.1,HI,Gx,w];rfl
    rw[u];replace w:=AB w;refine aw ?_;rw[J8 1 0 _ rfl];refine aw ?_;have M:=tZ cc (.box [v1,v2,v3,v4]);rw[E2 M d1,E2 M d2,E2 M d3,E2 M d4];rfl
   .obtain⟨x,j,X,a3,a0,l,df⟩:=kv (k:=k) w;have N:=Zc J.1 K.1 (Y.1 _ K.1) (Mv.1 a0);have c9: ¬((CG p s).length:Int)=0:=AA;have u:AH (T=match De p s x with|some m=>HI p (ks.drop (0+1)) m.d8 ([]++m.ev)|none=>none):=⟨by rw[v.1,HI,X];rfl⟩
    replace w:=AB w;replace X:=AB X;cases y:De p s x with
    |none=>
     exact zCx
    |some m=>
     rw[y]at N u;simp only[cJ,L8,sA]at N;obtain⟨ai,c7,c8⟩:=O3 J.1 K.1 (Mv.1 a0) y;have av:=c7;have ap:=TP (sz:=5) (m.ev.map Dk) (by simpa using av) (by intro e c';obtain⟨x,_,rfl⟩:=F1.1 c';rfl) AZ Aa;simp only[As]at ap;replace y:=AB y;refine aw ?_;refine lH (p:=p) (s:=m.d8) (ev:=m.ev) (B:=B) (R:=R) (O:=O) (E:=[1,b+38]) (d:=.bv (ks.map AL)) (i:=1) ?_ ⟨?_,?_,?_,?_⟩ fun B R O E g b ad ag=>b5.1 ⟨B,R,O,.f8 E 0 m.ev.length,g,b⟩ ⟨.inr ⟨m.d8,m.ev,E,ai,u.1,av,AA,rfl,ad,ag⟩⟩
     .simp only[go_sem]
     .simp only[go_sem,a5,b2,d0,AM]
     .simp only[go_sem,a6,b4,cc,AM]
     .simp only[go_sem]
     .simp only[go_sem,b3,AM]
  .clear W;have h2:=Tn J.1 ac;have ds:=O4 J.1 ac;have ar:=A.b;have z:=A.o;have C:=A.r;have V:=A.e;have b2:=fun t j l=>(Hl (c B AG) t j l).1;have d5:=fun t j l=>(Hl (c B AG) t j l).2;have d6:=fun t j l=>(Hl (c O AG) t j l).1;have b3:=fun t j l=>(Hl (c O AG) t j l).2;have b4:=fun t j l=>(Hl (c R AG) t j l).1;have d7:=fun t j l=>(Hl (c R AG) t j l).2;have e7:=fun t j l=>(Hl (c E AG) t j l).1;have e8:=fun t j l=>(Hl (c E AG) t j l).2;have a5:Id.is O B=false:=AF fun e=>by rw[e,ar]at z;simp at z
   have a6:Id.is O R=false:=AF fun e=>by rw[e,C]at z;simp at z
   have a7:Id.is R O=false:=AF fun e=>by rw[<-e,C]at z;simp at z
   have cp:Id.is E B=false:=Fi V ar;have cx:Id.is E R=false:=Fi V C;have ea:Id.is E O=false:=Fi V z;have c0:Id.is R E=false:=Fi C V;have ej:Id.is O E=false:=Fi z V;have d9:List.take ev.length (ev.map Dk)=ev.map Dk:=Bi AG;replace c:=AB c;replace A:=AB A;replace az:=AB az;by_cases w:CG p H=[]
   .rw[w]at h2;have u:T=some (H,ev):=by rw[v,HI,Gx,w];rfl
    rw[u];replace v:=AB v;replace u:=AB u;replace w:=AB w;refine aw ?_;rw[J8 1 0 _ rfl];refine aw ?_;rfl
   .obtain⟨x,j,X,a3,a0,l,df⟩:=kv (k:=k) w;have N:=Zc J.1 ac (Y.1 _ ac) (Mv.1 a0);have c9: ¬((CG p H).length:Int)=0:=AA;have u:AH (T=match De p H x with|some m=>HI p (ks.drop (i+1)) m.d8 (ev++m.ev)|none=>none):=⟨by rw[v,HI,X];rfl⟩
    replace v:=AB v;replace w:=AB w;replace X:=AB X;cases y:De p H x with
    |none=>
     exact zCx
    |some m=>
     rw[y]at N u;simp only[cJ,L8,sA]at N;obtain⟨ai,av,c8⟩:=O3 J.1 ac (Mv.1 a0) y;have am:=Wg (f:=Dk) (sz:=5) (fun _=>rfl) AZ ev m.ev av AA;have de:ev++m.ev≠ []:=fun e=>av (Jp.1 e).2;replace y:=AB y;replace ai:=AB ai;refine aw ?_;refine lH (p:=p) (s:=m.d8) (ev:=ev++m.ev) (B:=B) (R:=R) (O:=O) (E:=[1,b+38]) (d:=.bv (ks.map AL)) (i:=(i:Int)+1) ?_ ⟨?_,?_,?_,?_⟩ fun B R O E g b ad ag=>b5.1 ⟨B,R,O,.f8 E 0 (ev++m.ev).length,g,b⟩ ⟨.inr ⟨m.d8,ev++m.ev,E,ai.1,u.1,de,by rw[Be];omega,rfl,ad,ag⟩⟩
     .simp only[go_sem,Be]
     .simp only[go_sem,a5,b2,cp,ar,AM]
     .simp only[go_sem,a6,b4,cx,C,AM]
     .simp only[go_sem]
     .simp only[go_sem,b3,BE,AM]
 .clear c;rintro i ⟨B,R,O,v9,g,b⟩ bv dn W;dsimp only at*;have dm:=bv.1;subst dm;clear bv;rcases W.1 with⟨a4,rfl,v,v1,v2,v3,v4,rows,c⟩|⟨H,ev,E,ac,v,az,dd,rfl,A,c⟩
  .clear W;have u:T=some (s,[]):=by rw[v];rfl
   rw[u];replace v:=AB v;replace u:=AB u;have z:=c.cp.out;have C:=c.cp.res;have D:=c.cp.s1;have F:=c.cp.s2;have P:=c.cp.rep;rw[D2]at D F P;obtain⟨a',bk⟩:=Bg (Dd c.cp.s0);obtain⟨bc,bl⟩:=Bg (Dd D);obtain⟨be,bo⟩:=Bg (Dd F);obtain⟨bi,bs⟩:=Gm c.cp.chv;have a7:=AF c.cp.ro;replace a4:=AB a4;replace D:=AB D;replace F:=AB F;replace P:=AB P;replace c:=AB c;refine aw ?_;have M:=tZ C (.box [v1,v2,v3,v4]);rw[E2 M (Fe (Dd c.1.cp.s0)),E2 M (Fe (Dd D.1)),E2 M (Fe (Dd F.1)),E2 M (Nf c.1.cp.chv (YU P.1))];rfl
  .clear W;have u:T=some (H,ev):=by rw[v];rfl
   rw[u];replace v:=AB v;replace u:=AB u;have z:=A.o;have C:=A.r;have V:=A.e;have a7:Id.is R O=false:=AF fun e=>by rw[<-e,C]at z;simp at z
   have c0:Id.is R E=false:=Fi C V;have d9:List.take ev.length (ev.map Dk)=ev.map Dk:=Bi AG;replace c:=AB c;replace A:=AB A;replace az:=AB az;refine aw ?_;rfl
def yK(p:AX)(s:BU)(ks:List Int):BX kT 26 [pA p,sA s,.d (.bv (ks.map AL))] []=.ok (.ret (L8 (LK p s ks)),[]):=by
 have c:=lU p s;by_cases a:DI p s=0
 .obtain⟨st,b⟩:=Yl a;by_cases h:(ks.length:Int)<=200
  .have h2:=lY b.formed b.qr (fun s g=>P0 b.looks (xP g)) ks AA;rw[LK,D4 a,D4 AA];rw[a]at c;have f: ¬(200:Int)<ks.length:=AA;clear b a;refine Az Tryz.func26 ?_;exact au
  .rw[LK,D4 a,Ci AA];rw[a]at c;have f:(200:Int)<ks.length:=AA;clear b a;refine Az Tryz.func26 ?_;refine aw ?_;rfl
 .have e:=kL a;rw[LK,Ci a];rw[e]at c;clear a;refine Az Tryz.func26 ?_;refine aw ?_;rfl
def Ki(l:List Bl)(a:Int)(n:Nat):List Int:=((List.range n).filter fun i:Nat=>CP l (i:Int) a).map fun i:Nat=>(i:Int)
def GR(l:List Bl)(a:Int):List Int×Int:=if GN l=true/\0<=a/\a<l.length then(Ki l a l.length,0)else([],2)
def bu(l:List Bl)(a:Int)(n:Nat):Ki l a (n+1)=if CP l n a=true then Ki l a n++[(n:Int)]else Ki l a n:=by
 unfold Ki;rw[List.range_succ,TY,BE];by_cases h:CP l n a=true
 .rw[D4 h];simp[h]
 .rw[Ci h];simp[h]
def Yv(l:List Bl)(a:Int)(n:Nat):(Ki l a n).length<=n:=by
 unfold Ki;rw[As];have:=List.length_filter_le (fun i:Nat=>CP l (i:Int) a) (List.range n);simpa using this
def eY(s:BU)(a:Int)(u:s.ac.length<=1000):BX kT 28 [sA s,nI a] []=.ok (.ret (.ii [.d (.bv ((GR s.ac a).1.map AL)),nI ((GR s.ac a).2)]),[]):=by
 have r:=dz s.ac (.bv (s.ce.map BG)) (.bv (s.be.map Cy)) (.bv (s.waits.map Ae)) u;by_cases f:GN s.ac=true/\0<=a/\a<s.ac.length
 .rw[GR,D4 f];obtain⟨w,n,x⟩:=f;have k:=AH.mk (OG w);have q: ¬a<0:=AA;have B: ¬(s.ac.length:Int)<=a:=AA;refine Az Tryz.func28 ?_;refine aw ?_;refine Ah s.ac (S:=fun i (b:(AV×AD)×Nat)=>⟨[(1,nI a),(2,.ptr [0,0] 0),(6,b.1.1),(7,nI i)],b.1.2,b.2,[]⟩)
   (Inv:=fun i F b=>AH (Ki s.ac a i=[]/\b=((.d7,[([0,0],.box (sC s))]),1)\/Ki s.ac a i≠ []/\b=((.f8 [1,1] 0 (Ki s.ac a i).length,[([0,0],.box (sC s)),([1,1],.em 1 ((Ki s.ac a i).map AL))]),2))) (b0:=((_,_),_)) ⟨.inl ⟨rfl,rfl⟩⟩ ?_ ?_
  .rintro i I b C t z e l;have H:IntKind.i64.wrap ((i:Int)+1)=(i:Int)+1:=wrap_id AA AA;have m:=Rp s.ac (.bv (s.ce.map BG)) (.bv (s.be.map Cy)) (.bv (s.waits.map Ae)) i a u k.1 ⟨AA,AA⟩ n;have c:=AH.mk (bu s.ac a i);have v:=AH.mk (Yv s.ac a i);obtain⟨L,o⟩: ∃L,L=Ki s.ac a i:=⟨_,rfl⟩;rw[<-o]at e c v;replace o:=AB o;rcases e.1 with⟨rfl,rfl⟩|⟨g,rfl⟩
   .clear e;cases j:CP s.ac i a with
    |false=>
     rw[j]at m c;refine aw ?_;exact l.1 ((_,_),_) ⟨.inl ⟨c.1,rfl⟩⟩
    |true=>
     rw[j]at m c;refine aw ?_;exact l.1 ((_,_),_) ⟨.inr ⟨by rw[c.1];simp,by rw[c.1];rfl⟩⟩
   .clear e;replace g:=AB g;have A:List.take L.length (L.map AL)=L.map AL:=Bi AG;cases j:CP s.ac i a with
    |false=>
     rw[j]at m c;refine aw ?_;exact l.1 ((_,_),_) ⟨.inr ⟨by rw[c.1];exact g.1,by rw[c.1];rfl⟩⟩
    |true=>
     rw[j]at m c;have D:L.length+1<=BF:=by have:=v.1;unfold BF;omega
     refine aw ?_;exact l.1 ((_,_),_) ⟨.inr ⟨by rw[c.1];simp,by rw[c.1,D4 rfl,BE,Be];rfl⟩⟩
  .rintro i b t z e;have y:=t.1;subst y;rcases e.1 with⟨p,rfl⟩|⟨g,rfl⟩
   .rw[p];replace p:=AB p;exact au
   .replace g:=AB g;have A:List.take (Ki s.ac a s.ac.length).length ((Ki s.ac a s.ac.length).map AL)=(Ki s.ac a s.ac.length).map AL:=Bi AG;exact au
 .rw[GR,Ci f];cases k:GN s.ac with
  |false=>
   rw[k]at r;exact zEM
  |true=>
   rw[k]at r;by_cases n:0<=a
   .have x:(s.ac.length:Int)<=a:=by
     have: ¬a<s.ac.length:=fun h=>f ⟨k,n,h⟩;omega
    have q: ¬a<0:=AA;clear f;exact zEM
   .have q:a<0:=AA;clear f;exact zEM
def eW(s:BU)(a:Int)(B:s.ac.length<=1000):BX kT 27 [sA s,nI a] []=.ok (.ret (.ii [.d (.bv ((GR s.ac a).1.map AL)),nI ((GR s.ac a).2)]),[]):=by
 have t:=lP s.ac B;by_cases e:GN s.ac=true/\0<=a/\a<s.ac.length
 .rw[GR,D4 e];obtain⟨y,r,H⟩:=e;have l:=AH.mk (OG y);rw[y]at t;refine Az Tryz.func27 ?_;refine aw ?_;refine Ah s.ac (S:=fun i (b:(AV×AD)×Nat)=>⟨[(1,nI a),(2,.ptr [0,0] 0),(4,b.1.1),(5,.ptr [0,2] 0),(22,nI s.ac.length),(23,nI i)],b.1.2,b.2+21,[.call 50 [.ptr [0,2] 0]]⟩)
   (Inv:=fun i U b=>b.1.2.get [0,0]=some (.box (sC s))/\b.1.2.get [0,2]=some (.box [nI 0])/\AH (Ki s.ac a i=[]/\b.1.1=.d7\/Ki s.ac a i≠ []/\ ∃n,n<b.2+21/\b.1.1=.f8 [1,n] 0 (Ki s.ac a i).length/\b.1.2.get [1,n]=some (.em 1 ((Ki s.ac a i).map AL)))) (b0:=((_,_),0)) ⟨?_,?_,⟨.inl ⟨rfl,rfl⟩⟩⟩ ?_ ?_
  .simp only[go_sem]
  .simp only[go_sem]
  .rintro i W ⟨⟨v,g⟩,b⟩ N A J ⟨m,o,f⟩ p;dsimp only at*;have V:IntKind.i64.wrap ((i:Int)+1)=(i:Int)+1:=wrap_id AA AA;have q:=SS s.ac i a B l.1 ⟨AA,AA⟩ r
   have c:=AH.mk (bu s.ac a i);have C:=AH.mk (Yv s.ac a i);obtain⟨L,u⟩: ∃L,L=Ki s.ac a i:=⟨_,rfl⟩;rw[<-u]at f c C;replace u:=AB u;rcases f.1 with⟨rfl,rfl⟩|⟨j,n,K,rfl,z⟩
   .clear f;cases k:CP s.ac i a with
    |false=>
     rw[k]at q c;refine aw ?_;exact p.1 ((_,_),b+10) ⟨m,o,⟨.inl ⟨c.1,rfl⟩⟩⟩
    |true=>
     rw[k]at q c;refine aw ?_;refine p.1 ((_,_),b+15) ⟨?_,?_,⟨.inr ⟨by rw[c.1];simp,b+32,AU,by rw[c.1];rfl,?_⟩⟩⟩
     .simp only[go_sem,m]
     .simp only[go_sem,o]
     .rw[c.1];simp only[go_sem]
   .clear f;replace j:=AB j;have M:List.take L.length (L.map AL)=L.map AL:=Bi AG;have O:L.length+1<=BF:=by have:=C.1;unfold BF;omega
    cases k:CP s.ac i a with
    |false=>
     rw[k]at q c;refine aw ?_;exact p.1 ((_,_),b+10) ⟨m,o,⟨.inr ⟨by rw[c.1];exact j.1,n,AU,by rw[c.1];rfl,by rw[c.1];exact z⟩⟩⟩
    |true=>
     rw[k]at q c;have P: ¬b+31=n:=AA;have Q: ¬n=b+31:=AA;have R: ¬b+32=n:=AA;have T: ¬n=b+32:=AA;refine aw ?_;refine p.1 ((_,_),b+15) ⟨?_,?_,⟨.inr ⟨by rw[c.1];simp,b+32,AU,by rw[c.1,D4 rfl,Be];rfl,?_⟩⟩⟩
     .simp only[go_sem,m]
     .simp only[go_sem,o]
     .rw[c.1,D4 rfl,BE];simp only[go_sem]
  .rintro i ⟨⟨v,g⟩,b⟩ A J ⟨m,o,f⟩;dsimp only at*;have I:=A.1;subst I;rcases f.1 with⟨w,rfl⟩|⟨j,n,K,rfl,z⟩
   .rw[w];replace w:=AB w;exact au
   .replace j:=AB j;have M:List.take (Ki s.ac a s.ac.length).length ((Ki s.ac a s.ac.length).map AL)=(Ki s.ac a s.ac.length).map AL:=Bi AG;exact au
 .rw[GR,Ci e];cases l:GN s.ac with
  |false=>
   rw[l]at t;exact zAf
  |true=>
   rw[l]at t;by_cases r:0<=a
   .have H: ¬a<s.ac.length:=fun h=>e ⟨l,r,h⟩;clear e;exact zAf
   .clear e;exact zAf
def wz(p:AX)(s:BU)(ks:List Int):eU (LK p s ks):=by
 rw[LK];split
 .rename_i b;split
  .rename_i j;obtain⟨lt,a⟩:=Yl b;cases f:HI p ks s []with
   |none=>exact Ry 3
   |some r=>
    obtain⟨g,h,i⟩:=xA a.formed ks s [] r a.qr (fun e c=>by cases c) f;exact vO a g (by simp at i;omega) h
  .exact Ry 3
 .exact Ry 2
def xB(p:AX)(s:BU)(ks:List Int)(a:Int)(e: ∀s∈p.free,s.size<=maxLen):BX kT 5 [pA p,sA s,.agg [.d (.bv (ks.map AL)),nI a]] []=.ok (.ret (.d (.bool true)),[]):=by
 have c:=yJ p s ks e;have h2:=yK p s ks;have b:=wz p s ks;generalize LK p s ks=r at c h2 b;have f:=nW r.d8 b.d8;have g:=WM r.ev b.len b.ev;simp only[L8,sA]at c h2 f;replace e:=AB e;replace b:=AB b;by_cases n:(ks.length:Int)<=250
 .have i: ¬(250:Int)<ks.length:=AA;by_cases o:(s.ac.length:Int)<=200
  .have k: ¬(200:Int)<s.ac.length:=AA;have l:=eW s a AA;have m:=eY s a AA;have j:(GR s.ac a).1.length<=1000000:=by
    unfold GR
    split
    .have:=Yv s.ac a s.ac.length;dsimp only;omega
    .simp
   have h:=Zh (GR s.ac a).1 (GR s.ac a).1 j;rw[D6 rfl]at h;exact zEV
  .have k:(200:Int)<s.ac.length:=AA;clear c h2 f g;exact zEV
 .have i:(250:Int)<ks.length:=AA;clear c h2 f g;exact zEV
def AFL:Cj Tryz.prog 8 51=some [.bv 3,.int .i64]:=zEW
def ADN:Uy 51=true:=zEW
def tJ(x:List Int×Int):List Al:=[.bv (x.1.map AL),.int .i64 x.2]
def dN:JT [.bv 3,.int .i64] tJ fun _=>True:=fun xs h=>by
 obtain⟨a,l,rfl,c,h⟩:=all_cons h;obtain⟨b,rfl,e⟩:=O7 h;obtain⟨a,rfl,_,_⟩:=Dn c YI SD;obtain⟨b,rfl⟩:=DN e;exact⟨(a,b),rfl,trivial⟩
