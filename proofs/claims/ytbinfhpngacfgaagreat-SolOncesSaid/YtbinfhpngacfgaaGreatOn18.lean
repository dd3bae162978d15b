/- P -/
import Derived.Test.YtbinfhpngacfgaaGreatOn17
set_option linter.all false
set_option maxRecDepth 99999
set_option maxHeartbeats 0
open Go renaming TypeId->Hk,Code->KH
open List renaming map->TC,take->TL,drop->WA,length->U
open Go.IntKind renaming i64->SE
open Option renaming some->J,none->I
open Bool renaming true->X,false->Z
namespace Go
variable{p:Prop}
def zCg(h:p:=by rw[F.1];simp[AD]):p:=h
def zCq(h:p:=by simp only[AD,AS]at C;subst C;exact Tn (n:=b+83) z (q_a.2 ⟨[1],rfl⟩)):p:=h
def zCr(h:p:=by rw[cc];simp[AD]):p:=h
def zCz(h:p:=by simp only[AD,AS]at C;subst C;exact h.1.run.new x.1 1 _ z):p:=h
end Go
namespace Go
variable{p:Prop}
def zAD(h:p:=by obtain⟨az,a6,bn,bo,bs,bv,bx⟩:=c0;replace az:q.get 0=.ptr m 0:=az;replace a6:q.get 3=.ptr (0::0::π) 0:=a6;replace bn:q.get 4=.ptr (0::10::π) 0:=bn;replace bo:q.get 6=.ptr (0::29::π) 0:=bo;replace bs:q.get 7=(nI T):=bs;replace bv:q.get 8=_:=bv;replace bx:q.get 9=(nI aa):=bx;replace fn:=AB fn;clear be ac ad bh;refine ax ?_;exact ek.1 ((_,_),b+70) fn.1):p:=h
def zAa(h:p:=by have x:=Aw c 0 8 Af Af;have C:=Aw c 1 19 Af Af;have D:=Aw c 1 28 Af Af;simp only[go_sem,x,C,D,n,AM]):p:=h
def zAe(h:p:=by exact .inr λl N=>by simp only[AD,AS]at N;subst N;exact⟨De (b+73) [1] z z,_,rfl⟩):p:=h
def zAq(h:p:=by have P:=Aw r 1 (b+72) z z;have a2:=Aw r 1 (b+73) z z;have b8:=HN r 1 3 (b+83) z z;have e':=HN r 1 3 (b+70) z z;have fc:=Aw r 1 (b+85) z z;have c9:=Y E zCg;exact Ba):p:=h
def zBE(h:p:=by obtain⟨b,h,rfl,e,a⟩:=all_cons a;obtain⟨c,rfl,f⟩:=Ug a;obtain⟨b,rfl⟩:=Hx e;obtain⟨c,rfl⟩:=Hx f;exact⟨⟨b,c⟩,rfl,trivial⟩):p:=h
def zBN(h:p:=by replace l:=AB l;refine aw (lv (Fv h.1 λb r=>?_));have⟨w1,w2⟩:=C.1 b r;rw[p_,AI (λw=>w1 w.symm),An _ _ _ w2,l.1 b w2];rfl):p:=h
def zBP(h:p:=by replace f:=AB f;refine aw (lv (Fv e.1 λh v=>?_));have⟨D,w2⟩:=o.1 h v;rw[p_,AI (λb=>D b.symm),An _ _ _ w2,f.1 h w2];rfl):p:=h
def zBS(h:p:=by refine ax ?_;exact cp.1 (_,_) ⟨AZ,⟨_,by rw[p_,q_c];rfl,c2.1 _ z⟩,λq Y=>by rw[BU _ _ λC=>Y C];exact g.1 q Y⟩):p:=h
def zBT(h:p:=by have P:=Aw r 1 (b+72) z z;have a2:=Aw r 1 (b+73) z z;have b8:=HN r 1 3 (b+83) z z;have c9:=Y E zCg;exact Ba):p:=h
def zBZ(h:p:=by simp only[go_sem,bi,av,ch,cl,d8,c8,d9,d',ds,ea,bk,b5,c1,c2,cs,cu,(show¬b+12=b by omega),e6,ej,AM];first|done|rfl):p:=h
def zBi(h:p:=by have:=CA (n':=f) D (c▸q_a.2 ⟨[a,k],rfl⟩);omega):p:=h
def zBj(h:p:=by rw[B.1];rw[B.1]at aa;refine bK m.1 aa λO T K=>?_;have F:=bn.1 O T K;rw[<-q];simp only[go_sem,F,Dw K,AM]):p:=h
def zBk(h:p:=by
 rcases ag.1 b F with rfl|p
 .exact⟨(by intro w;cases w),rfl⟩
 .exact⟨(by rintro rfl;cases p),iW p Af⟩):p:=h
def zBo(h:p:=by
 rcases bg C with rfl|rfl
 .exact⟨(by intro b;cases b),rfl⟩
 .exact⟨(by intro b;cases b),rfl⟩):p:=h
def zBs(h:p:=by replace ar:=AB ar;refine BM func14 ?_;exact af):p:=h
def zB4(h:p:=by refine .inr ⟨b,by simp[Abs.ren,hz],?_⟩;have:=m.get c b _ hz r;simpa[Eb]using this):p:=h
end Go
namespace Go.Proofs
open Abs Tryz
def Mb{c:Type}(f:List Sh)(e:c->List Ar)(ok:c->Prop):Prop:=∀b,N0 prog 8 f b->∃a,b=e a/\ok a
variable{d:Ar}
def Hx{k:IntKind}(h:rH prog 8 (.int k) d):∃m,d=.int k m:=by cases h;exact⟨_,rfl⟩
variable{h:Type}{t:Hk}{a:List Sh}
def FT{i:h->List Ar}{ok:h->Prop}(o:rH prog 8 (.co t) d)(w:DQ prog 8 t=J a)(v:Mb a i ok):∃b:List h,d=.co (b.map i)/\(U b)<=maxLen/\∀f∈b,ok f:=by
 cases o with
 |co _ A e l p q r=>
  rw[w]at l;cases l;have key:∀e:List (List Ar),(∀c∈e,N0 prog 8 a c)->∃b:List h,e=b.map i/\∀f∈b,ok f:=by intro e;induction e with|nil=>intro _;exact⟨[],rfl,AG⟩|cons c e x=>intro m;obtain⟨f,rfl,s⟩:=v c (m c AG);obtain⟨b,rfl,k⟩:=x λc g=>m c zDA;exact⟨f::b,rfl,λn j=>by rcases DO.1 j with rfl|j;exact s;exact k n j⟩
  obtain⟨b,rfl,k⟩:=key e λc g=>⟨q c g,r c g⟩;exact⟨b,rfl,by simpa using p,k⟩
variable{s:Sh}{g:List Ar}
def Ug(b:N0 prog 8 [s] g):∃a,g=[a]/\rH prog 8 s a:=by obtain⟨c,e⟩:=b;rcases g with _|⟨a,_|⟨f,h⟩⟩<;>simp at c;exact⟨a,rfl,e 0 _ _ rfl rfl⟩
def all_cons(j:N0 prog 8 (s::a) g):∃b c,g=b::c/\rH prog 8 s b/\N0 prog 8 a c:=by
 obtain⟨e,f⟩:=j;rcases g with _|⟨b,c⟩
 .simp at e
 .exact⟨b,c,rfl,f 0 _ _ rfl rfl,by simpa using e,λk s l h i=>f (k+1) s l zCP zCY⟩
def all_nil(h:N0 prog 8 [] g):g=[]:=CE (by simpa using h.1)
def AQ0:DQ prog 8 85=J [.int .i64,.int .i64,.co 85]:=zCG
def AFS(o:rH prog 8 s d):s=.co 85->∃e:List CC,d=.co (e.map Bm):=by
 induction o with
 |co t a c l K p q r=>
  intro b;cases b;rw[AQ0]at l;cases l;have key:∀c:List (List Ar),(∀b∈c,U b=3)->(∀b∈c,∀(g:Nat) s x,[Sh.int .i64,.int .i64,.co 85][g]?=J s->b[g]?=J x->rH prog 8 s x)->(∀b∈c,∀(g:Nat) s x,[Sh.int .i64,.int .i64,.co 85][g]?=J s->b[g]?=J x->s=.co 85->∃e:List CC,x=.co (e.map Bm))->∃e:List CC,c=e.map Bm:=by intro c;induction c with|nil=>intro _ _ _;exact⟨[],rfl⟩|cons b c v=>intro m k n;obtain⟨e,rfl⟩:=v (λb f=>m b zDB) (λb f=>k b zDB) λb f=>n b zDB;have w:=m b AG;rcases b with _|⟨h,_|⟨i,_|⟨j,_|⟨d,L⟩⟩⟩⟩<;>simp at w;have D:=k [h,i,j] (CO ..) 0 _ _ rfl rfl;have F:=k [h,i,j] (CO ..) 1 _ _ rfl rfl;have H:=n [h,i,j] (CO ..) 2 _ _ rfl rfl rfl;obtain⟨B,rfl⟩:=Hx D;obtain⟨A,rfl⟩:=Hx F;obtain⟨C,rfl⟩:=H;exact⟨.mk B A C::e,by simp[bT,CC.op,CC.n,CC.kids]⟩
  obtain⟨e,rfl⟩:=key c p q r;exact⟨e,rfl⟩
 |_=>intro b;cases b
def Uk{f:List Hk}{g:List y}(h:XK prog 8 (t::f) g)(k:DQ prog 8 t=J a):∃b e,g=Vq prog t b::e/\N0 prog 8 a b/\XK prog 8 f e:=by cases h with|cons c i j=>rw[k]at c;cases c;exact⟨_,_,rfl,i,j⟩
def ADr{g:List y}(h:XK prog 8 [] g):g=[]:=by cases h;rfl
noncomputable def SJ(t:Hk):Bool:=match prog.underlying t with|some (.struct _)=>X|some (.array _ _)=>X|_=>Z
theorem AIn{a:List Ar}(b:SJ t=X):Vq prog t a=.agg (a.map .d):=by unfold Vq;unfold SJ at b;split<;>simp_all
theorem wo(h:SJ t=Z):Vq prog t [d]=.d d:=by
 unfold Vq;unfold SJ at h;split
 .simp_all
 .simp_all
 .rfl
@[go_sem] theorem AN0:Bq (KL prog cfg) 20 [] []=.ok (.ret (.d (.bool X)),[]):=by unfold Bq;rw[AFx];rfl
def AA:DQ prog 8 3=J [.int .i64]:=zCG
def sh9:DQ prog 8 9=J [.str]:=zCG
def APE:DQ prog 8 140=J [.int .i64,.int .i64,.co 85,.co 3]:=zCG
def APF:DQ prog 8 147=J [.co 187,.co 189,.co 151]:=zCG
def APH:DQ prog 8 187=J [.int .i64,.int .i64]:=zCG
def API:DQ prog 8 189=J [.int .i64,.int .i64]:=zCG
def APG:DQ prog 8 151=J [.int .i64,.co 3,.int .i64]:=zCG
def AQz:DQ prog 8 26=J [.co 9,.co 140,.co 147,.int .i64]:=zCG
def AOK:SJ 26=true:=zCG
def Nn:Mb [.int .i64] AX λ_=>True:=λg a=>by obtain⟨e,rfl,b⟩:=Ug a;obtain⟨c,rfl⟩:=Hx b;exact⟨c,rfl,trivial⟩
def AFT(h:rH prog 8 .str d):∃m,d=.str m/\m.size<=maxLen:=by cases h;exact⟨_,rfl,Cc⟩
def ACB:Mb [.str] CK λs=>s.size<=maxLen:=λg a=>by obtain⟨f,rfl,b⟩:=Ug a;obtain⟨e,rfl,c⟩:=AFT b;exact⟨e,rfl,c⟩
def vK:Mb [.int .i64,.int .i64,.co 85,.co 3] Bl λ_=>True:=λg a=>by obtain⟨b,f,rfl,h,a⟩:=all_cons a;obtain⟨c,f,rfl,i,a⟩:=all_cons a;obtain⟨e,f,rfl,j,a⟩:=all_cons a;obtain⟨d,rfl,k⟩:=Ug a;obtain⟨b,rfl⟩:=Hx h;obtain⟨c,rfl⟩:=Hx i;obtain⟨e,rfl⟩:=AFS j rfl;obtain⟨d,rfl,_,_⟩:=FT k AA Nn;exact⟨⟨b,c,e,d⟩,rfl,trivial⟩
def vJ:Mb [.int .i64,.int .i64] BW λ_=>True:=λg a=>by exact zBE
def pZ:Mb [.int .i64,.int .i64] BH λ_=>True:=λg a=>by exact zBE
def vM:Mb [.int .i64,.co 3,.int .i64] BR λ_=>True:=λg a=>by obtain⟨b,j,rfl,f,a⟩:=all_cons a;obtain⟨c,j,rfl,h,a⟩:=all_cons a;obtain⟨e,rfl,i⟩:=Ug a;obtain⟨b,rfl⟩:=Hx f;obtain⟨c,rfl,_,_⟩:=FT h AA Nn;obtain⟨e,rfl⟩:=Hx i;exact⟨⟨b,c,e⟩,rfl,trivial⟩
def ACA:Mb [.co 187,.co 189,.co 151] Bw λ_=>True:=λg a=>by obtain⟨b,j,rfl,f,a⟩:=all_cons a;obtain⟨c,j,rfl,h,a⟩:=all_cons a;obtain⟨e,rfl,i⟩:=Ug a;obtain⟨b,rfl,_,_⟩:=FT f APH vJ;obtain⟨c,rfl,_,_⟩:=FT h API pZ;obtain⟨e,rfl,_,_⟩:=FT i APG vM;exact⟨⟨b,c,e⟩,rfl,trivial⟩
def vL:Mb [.co 9,.co 140,.co 147,.int .i64] K3 λm=>∀s∈m.free,s.size<=maxLen:=λg a=>by obtain⟨b,f,rfl,h,a⟩:=all_cons a;obtain⟨c,f,rfl,i,a⟩:=all_cons a;obtain⟨e,f,rfl,j,a⟩:=all_cons a;obtain⟨d,rfl,k⟩:=Ug a;obtain⟨b,rfl,_,l⟩:=FT h sh9 ACB;obtain⟨c,rfl,_,_⟩:=FT i APE vK;obtain⟨e,rfl,_,_⟩:=FT j APF ACA;obtain⟨d,rfl⟩:=Hx k;exact⟨⟨b,c,e,d⟩,rfl,l⟩
theorem zC(a:Int)(e:Nat)(c:TI)(b:u)(f:Nat):wv a e c (.ptr b f)=if 0<=a/\a.toNat<e then J ⟨.ptr b (f+a.toNat*c.size),[]⟩else none:=rfl
attribute [go_sem] zC
variable{f:h->List Ar}{sz:Nat}
def wg(m:∀e,(f e).length=sz)(o:0<sz)(a:List h)(k:a≠ [])(p:U a<=1000000):∀(g:G) (c:u) (b:TI),b.mix=Z->b.size=sz->Uh g c b .emp (J ((a.map f).map λe=>e.map y.d))=J ⟨.ii (1::c) 0 (U a),[(1::c,.f8 sz (a.map f))]⟩:=by
 intro g c b n j;have:=W2 g c b (a.map f) n z (λi l=>by obtain⟨e,_,rfl⟩:=EX.1 l;rw[j];exact m e) (λi=>k (D7.1 i)) zCj
 rw[this,BV,j]
def jW(o:∀g,(f g).length=sz)(l:0<sz)(a b:List h)(m:b≠ [])(r:U a+U b<=1000000):∀(c:u) (i:G) (e:u) (j:TI),j.size=sz->i c=J (.f8 sz (a.map f))->Uh i e j (.ii c 0 (U a)) (J ((b.map f).map λg=>g.map y.d))=J ⟨.ii (1::e) 0 (U a+U b),[(c,.v6 0 []),(1::e,.f8 sz (a.map f++b.map f))]⟩:=by
 intro c i e j q p;have:=jX (sz:=sz) (id:=c) (a.map f) (b.map f) (λk=>m (D7.1 k)) (λk n=>by obtain⟨g,_,rfl⟩:=EX.1 n;exact o g) l BP (U a) AG i e j q p
 rw[this,BV]
def UM{c:Type}(f:h->c)(a b:List h):TL (U a+U b) (a.map f++b.map f)=a.map f++b.map f:=Bv AG
attribute [go_sem] UM
def AIE{p:Aa}{sz:Al}(bh:Ao p sz){M:S}{j:u}{f:u}{V:MV}{a:Cy}(q:XV p M f V a)(o:Dr j V f)(N:Ed p sz a.em){i:Nat}{Q:Ia}(T:a.em.waits[i]?=J Q)(bc:ws p a.em Q=X)(bl:U a.ev<=400000)(bn:a.work=0):
 ∃az ar,kT (.fn 105) [.ptr f 0,nI i] M j X I=.ok (az,ar)/\Kc p j f V M (QW p a.em a.ev ⟨i,0,0,[]⟩) az ar:=by
 have aa:=q.box;have a2:=o f (V.q_i f);simp[BX]at aa;have s:=AN a2;have k:=Av a2;have av:=N.small;simp[BQ.small]at av;obtain⟨cp,cq,cs,cu⟩:=av;have cc:=l_ T;have⟨W,g,hWs,gW,xW,lW,lW2⟩:=NH (vd (q.sl 2 z) T) T;simp[Ie]at gW;have bi:=V.q_j f (i:=2) z (id:=W) (by rw[hWs];simp[AD]);have a1:=o W bi;have b7:=AN a1;have b8:=Av a1;have b6:AJ W f=false:=Rn gW aa;have cl:AJ f W=false:=Rn aa gW;have cn:SE.wrap ((i:Int)+1)=(i:Int)+1:=w_ z z;rw[hWs,bn]at aa;have a6:=λ(ad:G) (ai:ad W=J (.f8 3 (a.em.waits.map Bj++g)))=>q_I (n:=U a.em.waits) ai (b:=i) z BP BP;have a':=λ(ad:G) (ai:ad W=J (.f8 3 (a.em.waits.map Bj++g)))=>q_J (n:=U a.em.waits) ai (a:=(i:Int)+1) z z AG BP;have bx:((i:Int)+1).toNat=i+1:=z;simp[bx]at a6 a';have cd:i<=(U a.em.waits)+U g:=z;have ch:i+(1+(U a.em.waits-(i+1)))<=(U a.em.waits)+U g:=z;obtain⟨ac,O⟩:∃ac:BQ,ac={a.em with waits:=BK a.em.waits i}:=⟨_,rfl⟩
 have⟨A,K⟩:=C6 (a.em.waits.take i);have⟨B,L⟩:=C6 (a.em.waits.drop (i+1));have v:U A=i:=by rw[K,F3];omega
 have w:U B=U a.em.waits-(i+1):=by rw[L,Is]
 have bs:TL i (TC (λh=>TC y.d h) (TC Bj a.em.waits++g))=(A.map Bj).map λh=>h.map y.d:=by rw[K,<-No,IP BP,<-No]
 have a0:TL (U a.em.waits-(i+1)) (WA (i+1) (TC (λh=>TC y.d h) (TC Bj a.em.waits++g)))=(B.map Bj).map λh=>h.map y.d:=by rw[L,<-Rx,<-No,List.drop_append_of_le_length BP,IP AG,<-Rx,Bv AG]
 refine YO ?_ q o N K L;clear q o N K L;intro q o N K L;refine Bf func105 ?_;refine Qg 2 λa4 ag=>?_;have Y:AR (∀(l:CW) (H:S) (P:y) (F:Nat),l.get 0=.ptr f 0->l.get 4=.ptr (0::8::j) 0->30<=F->H.get f=J (.box (BX p Z (V.nl 2 P) 0))->Ub H 3 P ((A++B).map Bj)->(∀id∈AD P,FJ 0 F j id=X/\∃bo,id=1::bo)->(∀id,AJ f id=Z->FJ 0 F j id=Z->H.get id=M.get id)->H.get (0::8::j)=J (.box [nI Q.at_,nI Q.node,.d (.co (Q.env.map BC))])->Wp cfg kT ⟨105,j,X,I,Z,139⟩ 0 a4 ⟨l,H,F,[]⟩ (MY cfg I [] j X (Kc p j f V M (QW p a.em a.ev ⟨i,0,0,[]⟩)))):=⟨λl H P F b0 b1 bk b2 a3 b3 b4 b5=>by
  rw[ag];have be:A++B=ac.waits:=by rw[O,K.1,L.1];rfl
  rw[be]at a3;have⟨V2,r2,_⟩:=(RK q.1 o.1 λid b=>rfl).step (b':=F) (F9 _) (Hr (d8:=⟨ac,a.ev,0⟩) 2 z q.1 ((RK q.1 o.1 λid b=>rfl).q_v o.1) (pv (by rw[O]) (by rw[O]) rfl) (by rw[O]) P H b2 a3 (.inr b3) λid n c a5=>b4 id n a5);exact qh bh o.1 N.1 T bc bl O b0 b1 bk r2 b5⟩
 replace ag:=AB ag;simp[R4];by_cases t:i=0
 .have cm:TL i (TC (λh=>TC y.d h) (TC Bj a.em.waits++g))=[]:=by rw[t];rfl
  have R:A=[]:=CE z;clear bs;replace t:=AB t;replace R:=AB R;by_cases e:U a.em.waits=i+1
  .have bv:TL (U a.em.waits-(i+1)) (WA (i+1) (TC (λh=>TC y.d h) (TC Bj a.em.waits++g)))=[]:=by rw[e,IF];rfl
   have r:B=[]:=CE z;clear a0;replace e:=AB e;replace r:=AB r;refine ax ?_;refine Y.1 _ _ .emp 33 rfl rfl Af ?_ (.inr ⟨rfl,by rw[R.1,r.1];rfl⟩) (λid m=>by cases m) (λid n c=>?_) ?_
   .simp only[go_sem,s,k,AM]<;>rfl
   .exact zAa
   .simp only[go_sem,k,AM]
  .replace e:=AB e;have b':=wg (f:=Bj) (sz:=3) (λ_=>rfl) Af B (λl=>by have:=e.1;rw[l]at w;simp at w;omega) z;refine ax (Y.1 _ _ (.ii (1::28::j) 0 (U a.em.waits-(i+1))) 33 rfl rfl Af ?_ (.inl (BO [] ?_ ?_)) (λid m=>?_) (λid n c=>?_) ?_)
   .simp only[go_sem,s,k,AM]<;>rfl
   .rw[BV,Dl,v,w];have:=t.1;omega
   .rw[CS,Ap];simp only[go_sem,s,k,AM];first|done|rfl|(rw[R.1]<;>rfl)
   .simp[AD]at m;subst m;exact⟨De 28 [1] z z,_,rfl⟩
   .exact zAa
   .simp only[go_sem,k,AM]
 .have b9:=wg (f:=Bj) (sz:=3) (λ_=>rfl) Af A (λl=>by rw[l]at v;exact t v.symm) z;replace t:=AB t;by_cases e:U a.em.waits=i+1
  .have bv:TL (U a.em.waits-(i+1)) (WA (i+1) (TC (λh=>TC y.d h) (TC Bj a.em.waits++g)))=[]:=by rw[e,IF];rfl
   have r:B=[]:=CE z;clear a0;replace e:=AB e;replace r:=AB r;refine ax (Y.1 _ _ (.ii (1::19::j) 0 i) 33 rfl rfl Af ?_ (.inl (BO [] ?_ ?_)) (λid m=>?_) (λid n c=>?_) ?_)
   .simp only[go_sem,s,k,AM]<;>rfl
   .rw[BV,Dl,v,w];have:=e.1;omega
   .rw[CS,Ap];simp only[go_sem,s,k,AM];first|done|rfl|(rw[r.1,Ci,CS]<;>rfl)
   .simp[AD]at m;subst m;exact⟨De 19 [1] z z,_,rfl⟩
   .exact zAa
   .simp only[go_sem,k,AM]
  .have am:=jW (f:=Bj) (sz:=3) (λ_=>rfl) Af A B (λl=>by rw[l]at w;simp at w;omega) z;simp only[v]at am;replace e:=AB e;refine ax ?_;try refine⟨rfl,?_⟩
   refine Y.1 _ _ (.ii (1::28::j) 0 (i+(U a.em.waits-(i+1)))) 33 rfl rfl Af ?_ (.inl (BO [] ?_ ?_)) (λid m=>?_) (λid n c=>?_) ?_
   .simp only[go_sem,s,k,AM]<;>rfl
   .rw[BV,Dl,v,w]
   .rw[CS,Ap];simp only[go_sem,s,k,AM];first|done|rfl|(rw[v]<;>rfl)
   .simp[AD]at m;subst m;exact⟨De 28 [1] z z,_,rfl⟩
   .exact zAa
   .simp only[go_sem,k,AM]
def yb:KH->KH
 |.seq (.seq _ (.block _ (.loop (.seq _ (.seq (.block _ c) _))))) _=>c|c=>c
variable{b:Nat}
def ALO{a:DH}{K:Ah}{l:Fr}{e:Nat}{i j k f g h:KH}{m:St}{Q:Di->St->Prop}(n:∀c,c=h->Wp a K l b (i.seq ((Code.block e (k.seq (f.seq (g.seq c)))).seq j)) m Q):Wp a K l b (i.seq ((Code.block e (k.seq (f.seq (g.seq h)))).seq j)) m Q:=n _ rfl
theorem RH{h:u}{K A W:u}{H:S}{e:CW}{c R a O:Nat}{b:Fo}{msg:List C8}{zs:List (List Ar)}{rows:List (List y)}{a4 a5 a6 a' bc be bh bi bk bl:y}{t:Al}{ar av:Nat}{Q:Di->St->Prop}(bs:e.get 0=.ptr K 0) (b0:e.get 3=.ptr (0::0::h) 0) (b1:e.get 9=nI R) (bv:e.get 10=nI O) (bx:e.get 11=.ii W 0 (U b.queue))(b9:H.get (0::0::h)=J (.box [nI (-1),nI ar,nI av,.d (.co (t.map AX))])) (ad:t[R]?=J (a:Int)) (b5:H.get K=J (.box [a4,a5,a6,a',bc,be,.ii A 0 (U rows),bh,bi,bk,bl])) (b2:H.get A=J (.arr 4 rows)) (b3:H.get W=J (.f8 1 (b.queue.map C1++zs))) (ag:b.queue[a]?=J msg) (ai:rows[O]?=J [nI b.group,nI b.index,nI b.at_,.ii W 0 (U b.queue)]) (b6:U b.queue<=12)(cd:∀a f,c<=f->AJ (a::f::h) A=Z) (cm:∀a f,c<=f->AJ (a::f::h) W=Z) (T:∀a f,c<=f->AJ A (a::f::h)=Z) (ch:∀a f,c<=f->AJ (a::f::h) K=Z) (cl:∀a f,c<=f->AJ K (a::f::h)=Z) (cn:∀a f,c<=f->AJ W (a::f::h)=Z)(D:AR (∀(m:CW) (C:S) (P:y),(m.get 0=e.get 0/\m.get 3=e.get 3/\m.get 4=e.get 4/\m.get 6=e.get 6/\m.get 7=e.get 7/\m.get 8=e.get 8/\m.get 9=e.get 9)->C.get A=J (.arr 4 (rows.set O [nI b.group,nI b.index,nI b.at_,P]))->Ub C 1 P ((BK b.queue a).map C1)->(∀g∈AD P,FJ c (c+27) h g=X/\∃az,g=1::az)->(∀g,AJ A g=Z->FJ c (c+27) h g=Z->C.get g=H.get g)->Q .normal ⟨m,C,c+27,[]⟩)):
 Wp cfg kT ⟨106,h,X,I,Z,148⟩ 1 (MW 3 (yb (MW 6 (Tryz.f106.body.get rfl)))) ⟨e,H,c,[]⟩ Q:=by
 have b4:=l_ ag;have cc:=l_ ad;have b':=l_ ai;have aa:=λ(M:G) (N:M W=J (.f8 1 (b.queue.map C1++zs)))=>q_I (n:=U b.queue) N (b:=a) z BP BP;have ac:=λ(M:G) (N:M W=J (.f8 1 (b.queue.map C1++zs)))=>q_J (n:=U b.queue) N (a:=(a:Int)+1) z z AG BP;have a3:((a:Int)+1).toNat=a+1:=z;simp only[Es,a3]at aa ac;have cq:SE.wrap ((a:Int)+1)=(a:Int)+1:=w_ z z;have b7:a<=(U b.queue)+U zs:=z;have b8:a+(1+(U b.queue-(a+1)))<=(U b.queue)+U zs:=z;obtain⟨p,s⟩:∃A,A=b.queue.take a:=⟨_,rfl⟩;obtain⟨n,v⟩:∃B,B=b.queue.drop (a+1):=⟨_,rfl⟩;have o:AR ((BK b.queue a)=p++n):=⟨by rw[s,v];rfl⟩;have F:U p=a:=by rw[s,F3];omega
 have w:U n=U b.queue-(a+1):=by rw[v,Is]
 have a1:TL a (TC (λj=>TC y.d j) (TC C1 b.queue++zs))=(p.map C1).map λj=>j.map y.d:=by rw[s,<-No,IP BP,<-No]
 have Y:TL (U b.queue-(a+1)) (WA (a+1) (TC (λj=>TC y.d j) (TC C1 b.queue++zs)))=(n.map C1).map λj=>j.map y.d:=by rw[v,<-Rx,<-No,List.drop_append_of_le_length BP,IP AG,<-Rx,Bv AG]
 replace s:=AB s;replace v:=AB v;simp only[Tryz.f106,Option.get_some,MW,yb];by_cases r:a=0
 .have cp:TL a (TC (λj=>TC y.d j) (TC C1 b.queue++zs))=[]:=by rw[r];rfl
  have x:p=[]:=CE z;clear a1;replace r:=AB r;replace x:=AB x;by_cases i:U b.queue=a+1
  .have a2:TL (U b.queue-(a+1)) (WA (a+1) (TC (λj=>TC y.d j) (TC C1 b.queue++zs)))=[]:=by rw[i,IF];rfl
   have q:n=[]:=CE z;clear Y;replace i:=AB i;replace q:=AB q;refine ax ?_;refine D.1 _ _ .emp ⟨rfl,rfl,rfl,rfl,rfl,rfl,rfl⟩ ?_ (.inr ⟨rfl,by rw[o.1,x.1,q.1];rfl⟩) (λg k=>by cases k) λg L l=>?_
   .exact Ba
   exact Ba
  .replace i:=AB i;have bo:=wg (f:=C1) (sz:=1) (λ_=>rfl) Af n (λe=>by have:=i.1;rw[e]at w;simp only[MD]at w;omega) z;refine ax ?_;refine D.1 _ _ (.ii (1::(c+23)::h) 0 (U b.queue-(a+1))) ⟨rfl,rfl,rfl,rfl,rfl,rfl,rfl⟩ ?_ (.inl (BO [] ?_ ?_)) (λg k=>?_) λg L l=>?_
   .exact Ba
   .rw[o.1,BV,Dl,F,w];have:=r.1;omega
   .rw[CS,o.1,Ap];simp only[go_sem,T,AM];first|done|rfl|(rw[x.1];first|done|rfl)
   .simp only[AD,AS]at k;subst k;exact⟨De (c+23) [1] z z,_,rfl⟩
   .have V:=Aw l 1 (c+14) z z;have a0:=Aw l 1 (c+23) z z;exact Ba
 .have bn:=wg (f:=C1) (sz:=1) (λ_=>rfl) Af p (λe=>by grind) z;replace r:=AB r;by_cases i:U b.queue=a+1
  .have a2:TL (U b.queue-(a+1)) (WA (a+1) (TC (λj=>TC y.d j) (TC C1 b.queue++zs)))=[]:=by rw[i,IF];rfl
   have q:n=[]:=CE z;clear Y;replace i:=AB i;replace q:=AB q;refine ax ?_;try refine⟨rfl,?_⟩
   refine D.1 _ _ (.ii (1::(c+14)::h) 0 a) ⟨rfl,rfl,rfl,rfl,rfl,rfl,rfl⟩ ?_ (.inl (BO [] ?_ ?_)) (λg k=>?_) λg L l=>?_
   .exact Ba
   .rw[o.1,BV,Dl,F,w];have:=i.1;omega
   .rw[CS,o.1,Ap];simp only[go_sem,T,AM];grind
   .simp only[AD,AS]at k;subst k;exact⟨De (c+14) [1] z z,_,rfl⟩
   .have V:=Aw l 1 (c+14) z z;exact Ba
  .have am:=jW (f:=C1) (sz:=1) (λ_=>rfl) Af p n (λe=>by grind) z;simp only[F]at am;replace i:=AB i;refine ax ?_;try refine⟨rfl,?_⟩
   refine D.1 _ _ (.ii (1::(c+23)::h) 0 (a+(U b.queue-(a+1)))) ⟨rfl,rfl,rfl,rfl,rfl,rfl,rfl⟩ ?_ (.inl (BO [] ?_ ?_)) (λg k=>?_) λg L l=>?_
   .exact Ba
   .rw[o.1,BV,Dl,F,w]
   .rw[CS,o.1,Ap];exact Ba
   .simp only[AD,AS]at k;subst k;exact⟨De (c+23) [1] z z,_,rfl⟩
   .have V:=Aw l 1 (c+14) z z;have a0:=Aw l 1 (c+23) z z;exact Ba
variable{a:u}
theorem AKa{b:u}(g:AE a b=Z)(c e f:Nat):AJ (c::e::f::a) b=false:=by grind [AI,wA]
theorem AGk{b:u}(g:AE a b=Z)(c e f:Nat):AJ b (c::e::f::a)=false:=by grind [AI,wA]
theorem oM{e:u}{V:MV}{i:u}{b:Nat}{c:u}(o:Dr e V i)(h:c∈V.ids i\/∃a,a<b/\AE (a::e) c=X/\∃l,c=1::l)(f g a:Nat)(n:b<=a):AJ (f::g::a::e) c=false:=AI λj=>by
 subst j;rcases h with h|⟨p,m,k,_⟩
 .grind [wA]
 .have:=CA k (n':=a) (q_a.2 ⟨[f,g],rfl⟩);omega
variable{π m:u}{V:MV}
theorem ABn{c:u}(j:Dr π V m)(h:c∈V.ids m\/∃a,a<b/\AE (a::π) c=X/\∃g,c=1::g)(e f a:Nat)(i:b<=a):AJ c (e::f::a::π)=false:=by grind [AI,oM]
def HN{b e:Nat}{π:u}{g:u}(i:FJ b e π g=Z)(c f a:Nat)(j:b<=a)(k:a<e):AJ (c::f::a::π) g=false:=AI λh=>by subst h;have:FJ b e π (c::f::a::π)=true:=Gy.2 ⟨a,j,k,q_a.2 ⟨[c,f],rfl⟩⟩;rw[i]at this;cases this
theorem AB9{O:Aa}{sz:Al}(b7:Ao O sz){b6:S}{π:u}{m:u}{V:MV}{w:Cy}(d1:XV O b6 m V w)(x:Dr π V m)(c7:Ed O sz w.em){i f:Nat}{j:Ay}{d:Bd}{p:DI}{t:Al}(em:w.em.bv[i]?=J j)(gh:O.def? j.ip=J d)(en:d.rules[f]?=J p)(hl:BA w.em.be (j.place d p.at_)=Z)(dx:Below (C7 w.em d j p) t)(hv:w.work=0)(i4:U w.ev<=500000):
 ∃a1 gg,kT (.fn 106) [.ptr m 0,kv ⟨-1,i,f,t⟩] b6 π X I=.ok (a1,gg)/\Kc O π m V b6 (J9 O 401 ⟨p.node,j.place d p.at_,j.env++(Bb d j p.d7 t w.em).1⟩ ⟨(Bb d j p.d7 t w.em).2,w.ev++[⟨1,j.place d p.at_,i,f,(Bb d j p.d7 t w.em).1⟩],0⟩) a1 gg:=by
 obtain⟨it,ai⟩:=c7.grp i j em;have gi:=ai.ip;rw[gh]at gi;cases gi;obtain⟨az,c5⟩:=Cr ai.ip;have i2:=l_ c5;have i9:=l_ en;have b2:=Oy b7 c7 em ai (AP en);have i5:=b2.j1;have i':U t=U p.d7:=by have:=dx.len;rw[C7,BV]at this;exact this
 have e4:=d1.box;have dr:=x m (V.q_i m);simp only[BX]at e4;have bi:=AN dr;have av:=Av dr;have ch:=AKa dr;have cl:=AGk dr;obtain⟨W,g,es,fv,ha,g2,g3⟩:=NH (d1.sl 1 z) em;have g':=x W (V.q_j m (i:=1) z (by rw[es];simp[AD]));have ac:=AN g';have ad:=Av g';simp only[Ie]at fv;have gq:=c7.small;simp only[BQ.small,As,D3]at gq;obtain⟨j3,g6,j6,j7⟩:=gq;rw[es]at e4;have i3:=fT b7 ai;have gk:=OX ai;obtain⟨T,er⟩:∃T,U j.env=T+U d.ac+U d.be:=⟨U j.env-U d.ac-U d.be,by unfold Bd.own at gk;omega⟩;have j9:SE.wrap ((U j.env:Int)-(U d.be:Int))=(T:Int)+(U d.ac:Int):=by rw[w_ z z];omega
 have bc:SE.wrap ((T:Int)+(U d.ac:Int)-(U d.ac:Int))=(T:Int):=by rw[w_ z z];omega
 have hq:AR (∀(a b:Nat) k b9,a<b->p.d7[a]?=J k->p.d7[b]?=J b9->(j.own d X b9).toNat≠(j.own d X k).toNat):=⟨λa b k b9 ho bi av=>by have gn:=(Bk b7 c5).ok.pp p (AP en);simp only[Bx,As,D3]at gn;have:=Od rfl gn.2.2.2 b a b9 k (F9 _) ho av bi;obtain⟨P,a2,_⟩:=b2.join k (AP bi);obtain⟨b8,c9,_⟩:=b2.join b9 (AP av);have:=ME ai.mine P a2;have:=ME ai.mine b8 c9;omega⟩
 replace er:=AB er;clear gk;replace d1:=AB d1;replace x:=AB x;replace c7:=AB c7;replace ai:=AB ai;replace dx:=AB dx;replace b2:=AB b2;replace es:=AB es;refine Bf func106 ?_;refine ax ?_;refine Aj p.d7 (B0:=λaa (a:(y×S)×Nat)=>⟨[(0,.ptr m 0),(3,.ptr (0::0::π) 0),(4,.ptr (0::10::π) 0),(6,.ptr (0::29::π) 0),(7,nI T),(8,a.1.1),(9,nI aa)],a.1.2,a.2+45,[]⟩)
  (Inv:=λaa j2 a=>AR (∃n cd L,eK (BX O Z) Z O sz π m V b6 w d j p t aa (a.2+45) a.1.1 a.1.2 n cd L)/\a.1.2.get (0::0::π)=J (.box [nI (-1),nI i,nI f,.d (.co (t.map AX))])/\a.1.2.get (0::10::π)=J (.box [nI j.ip,nI j.at_,.d (.co (j.env.map BC))])/\a.1.2.get (0::29::π)=J (.box [nI p.at_,.d (.co (p.d7.map AX)),nI p.node])) (b0:=((_,_),0)) ⟨⟨V,w.em,[],?_⟩,?_,?_,?_⟩ ?_ ?_
 .refine⟨⟨Fv (h:=b6) ?_ λl N=>?_,λl N=>.inl N,λl _ d4=>?_⟩,.inl ⟨rfl,rfl⟩,Az,λ_=>rfl,c7.1,?_,rfl,rfl,rfl,λc8 k gr _ bk b5=>?_,AG⟩
  .have:=d1.1
   rwa [show w=⟨w.em,w.ev,0⟩ by rw[<-hv]]at this
  .have P:=AN (x.1 l N);simp only[go_sem,P,AM]
  .have P:=AN d4;simp only[go_sem,P,AM]
  .simp
  .obtain⟨P,a2,b8,cv,c9,e',fc⟩:=b2.1.join k (AP bk);obtain⟨b1,Y⟩:=Pg dx.1 c8 _ gr (by rw[C7,Be,bk];rfl) b5;have Y:gr<(QL w.em (j.own d X k):Nat):=Y;rw[fc]at Y;refine⟨b1,cv,c9,z,e',?_⟩;obtain⟨hk,hp⟩:=g_ (l:=d.ac) (i:=k.toNat) z;obtain⟨j0,bl,i0,a6,_⟩:=ai.1.ac _ hk hp;have:=ME ai.1.mine P a2;grind [Oj]
 .simp only[go_sem]
 .simp only[go_sem]
 .simp only[go_sem]
 .clear e4 fv ha g2 g3 ac ad;rintro aa k ⟨⟨h5,H⟩,b⟩ cm f4 hr ⟨h,dn,gs,gu⟩ ek;dsimp only at*;obtain⟨n,cd,L,h⟩:=h.1;have d2:=h.run.rep;have ar:=d2.box;simp only[BX]at ar;obtain⟨f9,dj⟩:=g_ (l:=t) (i:=aa) z;obtain⟨jd,cv,d6,gl,e5,gm⟩:=h.rest aa k f9 (D2 _) cm dj;obtain⟨a,rfl⟩:∃a:Nat,f9=a:=⟨f9.toNat,z⟩;rw[Es]at gl;obtain⟨ip,gd,jz,_⟩:=b2.1.join k (AP cm);obtain⟨b',rfl⟩:∃b':Nat,k=b':=⟨k.toNat,z⟩;obtain⟨a1,d5⟩:∃a1:Nat,j.own d X b'=a1:=⟨(j.own d X b').toNat,z⟩;have hm:=er.1;obtain⟨gb,f5⟩:=g_ (l:=j.env) (i:=T+b') z;have ht:gb.n=a1:=by rw[<-d5,Ay.own,D4 rfl,show (U j.env)-U d.be-U d.ac=T by omega,Es,f5];rfl
  clear hm;obtain⟨j1,a0,f6⟩:=d2.ac.row _ _ d6;rcases d2.arr with⟨_,cc⟩|⟨A,cc,c3⟩
  .rw[cc]at a0;simp at a0
  have h1:=l_ a0;obtain⟨msg,cn⟩:=g_ (l:=cv.queue) (i:=a) gl;obtain⟨Q,zs,rfl,c4,j',ji,g1⟩:=NH (vd f6 cn) cn;have e0:=h.run.ids A (n.q_p m zCr);have e1:=h.run.ids Q (n.q_m m (BE.2 ⟨_,AP a0,by rw[DB];simp[AD]⟩));have e2:=h.run.ids m (n.q_i m);have eb:=GJ (b':=0) x.1 e0;have e7:=JS x.1 e0;have ef:=GJ (b':=0) x.1 e1;have e9:=JS x.1 e1;have ec:=GJ (b':=0) x.1 e2;have e8:=JS x.1 e2;have hf:∀f,AJ A (0::f::π)=false:=λf=>AI λc=>Iu h.run x.1 f (by rw[<-c];exact n.q_p m zCr);have im:∀f,AJ Q (0::f::π)=false:=λf=>AI λc=>Iu h.run x.1 f (by rw[<-c];exact n.q_m m (BE.2 ⟨_,AP a0,by rw[DB];simp[AD]⟩));have h7:AJ A Q=false:=Rn c3 c4;have h9:AJ Q A=false:=Rn c4 c3;have hb:AJ A m=false:=Rn c3 ar;have jl:AJ m A=false:=Rn ar c3;have ia:AJ Q m=false:=Rn c4 ar;have js:AJ m Q=false:=Rn ar c4;have i6:=xz (Bk b7 c5).ok h.qr d6 cn gm;have hn:=h.len;have hs:=AR.mk (pX h x.1 (Bk b7 c5).ok cm dj d6 cn gm cc a0 (λi b9 C av=>hq.1 aa i b' b9 C cm av) (b1:=b+85) (b':=b+70+45) z);have ex:AR (∀(dc K:S) (a3 a4:y),CH (BX O Z) Z π m V b6 (b+85) n ⟨cd,w.ev,0⟩ dc->(∀f,dc.get (0::f::π)=H.get (0::f::π))->K.get A=J (.arr 4 (n.rows.set a1 [nI cv.group,nI cv.index,nI cv.at_,a4]))->Ub K 1 a4 ((BK cv.queue a).map C1)->(∀l∈AD a4,FJ (b+85) (b+85+27) π l=X/\∃cq,l=1::cq)->(∀l,AJ A l=Z->FJ (b+85) (b+85+27) π l=Z->K.get l=dc.get l)->qa π dc (b+85) a3 (L++msg)->(∀i∈AD a3,i∉n.ids m/\FJ (b+85) (b+70+45) π i=Z)->(L++msg=[]->a3=.d9)->
   AR (∃hd g6 hc,eK (BX O Z) Z O sz π m V b6 w d j p t (aa+1) (b+70+45) a3 K hd g6 hc)/\K.get (0::0::π)=J (.box [nI (-1),nI i,nI f,.d (.co (t.map AX))])/\K.get (0::10::π)=J (.box [nI j.ip,nI j.at_,.d (.co (j.env.map BC))])/\K.get (0::29::π)=J (.box [nI p.at_,.d (.co (p.d7.map AX)),nI p.node])):=⟨λdc K a3 a4 gd b9 hg hh hi el fo gf hj=>by
   have up:∀l,FJ (b+85) (b+70+45) π l=Z->FJ (b+85) (b+85+27) π l=false:=λl d4=>by cases d7:FJ (b+85) (b+85+27) π l with|false=>rfl|true=>obtain⟨e,g4,g5,ga⟩:=Gy.1 d7;grind [Gy]
   have fl:∀f,f<b+85->K.get (0::f::π)=H.get (0::f::π):=λf df=>(el _ (hf f) (by cases d7:FJ (b+85) (b+85+27) π (0::f::π)with|false=>rfl|true=>obtain⟨e,g4,g5,ga⟩:=Gy.1 d7;grind [BN])).trans (b9 f)
   have h3:FJ (b+85) (b+85+27) π m=false:=by cases d7:FJ (b+85) (b+85+27) π m with|false=>rfl|true=>obtain⟨e,g4,g5,ga⟩:=Gy.1 d7;rw[Bt ga]at dr;cases dr
   refine⟨⟨hs.1 a3 a4 dc K gd (el m hb h3) ?_ hh (.inr λl N=>?_) (λl b1 Y r he=>el l Y (up l he)) ?_ gf hj⟩,(fl 0 z).trans dn,(fl 10 z).trans gs,(fl 29 z).trans gu⟩
   .rw[d5,Es];exact hg
   .obtain⟨P,a2⟩:=hi l N;grind
   .rcases fo with fo|⟨cq,g0,hy,e,jg,hz,h0⟩
    .exact .inl fo
    .refine .inr ⟨cq,g0,?_,e,z,hz,h0⟩;have M:=gf cq (by rw[g0];simp[AD]);rw[el cq (AI λc=>M.1 (c▸n.q_p m zCr)) (up cq M.2)];exact hy⟩
  have gp:=AB a0;rw[cc]at ar;rw[d5,Es]at a0 h1;simp only[CF]at a0;have h6:SE.wrap ((T:Int)+(b':Int))=((T+b':Nat):Int):=by rw[w_ z (by have:=er.1;omega)];omega
  obtain⟨fi,f0⟩:∃fi,fi=T+b':=⟨_,rfl⟩;rw[<-f0]at h6 f5;replace f0:=AB f0;have j8:SE.wrap ((aa:Int)+1)=(aa:Int)+1:=w_ z z;have jj:fi<U j.env:=l_ f5;have kb:BC gb=[.int .i64 gb.kind,.int .i64 a1]:=by rw[<-ht];rfl
  replace d2:=AB d2;replace e0:=AB e0;replace e1:=AB e1;replace e2:=AB e2;replace d6:=AB d6;replace f6:=AB f6;replace d5:=AB d5;have d3:=h.env;replace h:=AB h;refine ALO λib de=>?_;replace de:=AB de;rcases d3 with⟨rfl,rfl⟩|⟨o,rfl,f2,e,c6,D,M⟩
  .by_cases b0:msg=[]
   .subst b0;refine ax ?_;rw[de.1];refine RH (W:=Q) (msg:=[]) (rows:=n.rows) (zs:=zs) rfl rfl rfl rfl rfl dn dj ar c3 c4 cn a0 e5 (λa e B=>eb a e z) (λa e B=>ef a e z) (λa e B=>e7 a e z) (λa e B=>ec a e z) (λa e B=>e8 a e z) (λa e B=>e9 a e z) ⟨λq K a4 c0 be ac ad bh=>?_⟩;have fn:=ex.1 H K .d9 a4 (h.1.run.up z) (λ_=>rfl) be ac ad bh (.inl ⟨rfl,rfl⟩) (λi C=>by cases C) λ_=>rfl;exact zAD
   .have ap:=AIl (sz:=2) (msg.map BC) (by simpa using b0) (by intro c f1;obtain⟨a5,_,rfl⟩:=EX.1 f1;rfl) Af BP;simp only[BV]at ap;replace b0:=AB b0;refine ax ?_;rw[de.1];refine RH (W:=Q) (msg:=msg) (rows:=n.rows) (zs:=zs) rfl rfl rfl rfl rfl (by rw[p_,AI AG,Co AG];exact dn) dj (by rw[p_,ec _ _ z,Co AG];exact ar) (by grind [p_]) (by grind [p_]) cn a0 e5 (λa e B=>eb a e z) (λa e B=>ef a e z) (λa e B=>e7 a e z) (λa e B=>ec a e z) (λa e B=>e8 a e z) (λa e B=>e9 a e z) ⟨λq K a4 c0 be ac ad bh=>?_⟩;have fn:=ex.1 (H.put (1::(b+83)::π) (.f8 2 (msg.map BC))) K (.ii (1::(b+83)::π) 0 (U msg)) a4 ((h.1.run.up (b':=b+83) z).loc x.1 (λl d4=>by rw[p_,d4 1 (b+83) z];rfl)|>.up z) (λf=>by simp only[go_sem]) be ac ad bh (Q1 z rfl zCZ) (λi C=>⟨zCz,zCq⟩) (λc=>absurd (Pl.1 c).2 b0.1);exact zAD
  .obtain⟨bk,b5,fp,fr⟩:=GI c6 D M;have v:=h.1.out o Az;have h2:AJ o A=false:=AI λc=>v (c▸n.q_p m zCr);have h8:AJ A o=false:=AI λc=>v (c▸n.q_p m zCr);have g1:AJ o Q=false:=AI λc=>v (c▸n.q_m m (BE.2 ⟨_,AP gp.1,by rw[DB];simp[AD]⟩));have h':AJ Q o=false:=AI λc=>v (c▸n.q_m m (BE.2 ⟨_,AP gp.1,by rw[DB];simp[AD]⟩));have cs:AJ o m=false:=AI λc=>v (c▸n.q_i m);have cu:AJ m o=false:=AI λc=>v (c▸n.q_i m);replace D:=AB D;replace M:=AB M;by_cases b0:msg=[]
   .subst b0;refine ax ?_;rw[de.1];refine RH (W:=Q) (msg:=[]) (rows:=n.rows) (zs:=zs) rfl rfl rfl rfl rfl dn dj ar c3 c4 cn a0 e5 (λa e B=>eb a e z) (λa e B=>ef a e z) (λa e B=>e7 a e z) (λa e B=>ec a e z) (λa e B=>e8 a e z) (λa e B=>e9 a e z) ⟨λq K a4 c0 be ac ad bh=>?_⟩;have fn:=ex.1 H K (.ii o 0 (U L)) a4 (h.1.run.up z) (λ_=>rfl) be ac ad bh (by rw[CS];exact Td h.1.env z) (λi C=>⟨h.1.out i C,by simp only[AD,AS]at C;subst C;exact Tn (n:=e) z D.1⟩) λc=>by rw[CS]at c;exact h.1.ne c
    exact zAD
   .have ap:=jX (sz:=2) (id:=o) (L.map BC) (msg.map BC) (by simpa using b0) (by intro c f1;obtain⟨a5,_,rfl⟩:=EX.1 f1;rfl) Af BP (U L) AG;simp only[BV]at ap;replace b0:=AB b0;refine ax ?_;rw[de.1];obtain⟨R,d0⟩:∃R,R=(H.put o (.v6 0 [])).put (1::(b+83)::π) (.f8 2 (L.map BC++msg.map BC)):=⟨_,rfl⟩;rw[<-d0];have gv:R.get A=J (.arr 4 n.rows):=by rw[d0,p_,eb _ _ z,p_,h2];exact c3
    have gw:R.get Q=J (.f8 1 (cv.queue.map C1++zs)):=by rw[d0,p_,ef _ _ z,p_,g1];exact c4
    have gz:R.get m=_:=(show R.get m=H.get m by grind [p_]).trans ar;have f':∀f,R.get (0::f::π)=H.get (0::f::π):=λf=>by exact Ba
    refine RH (W:=Q) (msg:=msg) (rows:=n.rows) (zs:=zs) rfl rfl rfl rfl rfl ((f' 0).trans dn) dj gz gv gw cn a0 e5 (λa e B=>eb a e z) (λa e B=>ef a e z) (λa e B=>e7 a e z) (λa e B=>ec a e z) (λa e B=>e8 a e z) (λa e B=>e9 a e z) ⟨λq K a4 c0 be ac ad bh=>?_⟩;have f7:=(h.1.run.oth (H:=H.put o (.v6 0 [])) v (Bt D.1) λl c=>by grind [p_,AI]).up (b':=b+83) z;have f8:=(f7.loc x.1 (H:=R) λl d4=>by grind [p_]).up (b':=b+85) z;have fn:=ex.1 R K (.ii (1::(b+83)::π) 0 (U L+U msg)) a4 f8 f' be ac ad bh (Q1 z AG (by grind [p_,q_c])) (λi C=>⟨zCz,zCq⟩) (λc=>absurd (Pl.1 c).2 b0.1);replace f7:=AB f7;replace f8:=AB f8;replace d0:=AB d0;clear gz gv gw f';exact zAD
 .clear e4 fv ha g2 g3 ac ad;rintro aa ⟨⟨h5,H⟩,b⟩ f4 hr ⟨h,dn,gs,gu⟩;dsimp only at*;obtain⟨n,cd,L,h⟩:=h.1;have ar:=h.run.rep.box;simp only[BX]at ar;have et:=h.all;have e3:=Ns b7 c7.1 em gh en hl dx.1;rw[f4.1,T0,AHi,CS]at et;rw[et]at e3⊢;have i1:U L<=30*U p.d7:=by have:=h.len;have:=f4.1;omega
  have i7:=VO O j d p.at_ az c5 (Bk b7 c5).ok.ac (Bk b7 c5).ok.be (OX ai.1) (fT b7 ai.1) b2.1.at0 b2.1.at1;have hn:=h.len;have d3:=h.env;have f3:¬(U j.env)=0:=by have hx:=b2.1.j0;obtain⟨k,cm⟩:=g_ (l:=p.d7) (i:=0) hx;obtain⟨P,a2,_⟩:=b2.1.join k (AP cm);have:=OX ai.1;unfold Bd.own at this;omega
  have hu:=GQ j.env z;simp only[KR,Co f3]at hu;have fa:=Gw;obtain⟨c',ag⟩:∃E:Ij,E=⟨1,j.place d p.at_,i,f,L⟩:=⟨_,rfl⟩;have a':AR (∀(H:S) (e:Nat),(∃cx,CH (BX O Z) Z π m V b6 e cx ⟨cd,w.ev++[c'],0⟩ H)->∃a1 bl,kT (.fn 87) [.ptr m 0,nI p.node,nI (j.place d p.at_),.d (.co ((j.env++L).map BC))] H (e::π) X I=.ok (a1,bl)/\a1=.ret (.kw [])/\Kc O π m V b6 (J9 O 401 ⟨p.node,j.place d p.at_,j.env++L⟩ ⟨cd,w.ev++[c'],0⟩) (.ret (.kw [])) (gc (e::π) bl)):=⟨λH e fz=>by
   obtain⟨cx,fz⟩:=fz;obtain⟨a1,bl,P,a2,b8⟩:=Km (TA b7 401) x.1 (r:=J ⟨cd,w.ev++[c'],0⟩) (E:=[]) ⟨cx,fz,λi C=>by cases C⟩ ⟨p.node,j.place d p.at_,j.env++L⟩ (λix c=>by cases c;exact⟨⟨h.qr,AZ,AZ,AZ,BP⟩,e3.2⟩) H e (D2 _) (λ_ _=>rfl) λi C=>by cases C
   exact⟨a1,bl,P,a2,HA b8.run⟩⟩
  have dd:AR (∀k:Nat,b+45<=k->∀R:S,(∃a3,R.get m=J (.box (BX O Z (n.nl 3 a3) 0))/\PV R 5 a3 ((w.ev++[c']).map NX)/\(AD a3=AD (n.s 3)\/∀l∈AD a3,FJ (b+45) k π l=X/\∃cq,l=1::cq))->(∀l,AJ m l=Z->(∀hw∈AD (n.s 3),AJ hw l=Z)->FJ (b+45) k π l=Z->R.get l=H.get l)->∃cx,CH (BX O Z) Z π m V b6 k cx ⟨cd,w.ev++[c'],0⟩ R):=⟨λk cm R ⟨a3,A1,A2,A3⟩ A4=>by obtain⟨cx,h4,_⟩:=h.run.step (b':=k) cm (Hr (d8:=⟨cd,w.ev++[c'],0⟩) 3 z h.run.rep (h.run.q_v x.1) (nn rfl) rfl a3 R A1 A2 A3 A4);exact⟨cx,h4⟩⟩
  replace f3:=AB f3;replace e3:=AB e3;replace h:=AB h;replace et:=AB et;replace ag:=AB ag;rcases h.1.run.rep.sl 3 z with⟨F,dm⟩|⟨E,fd,F,fs⟩
  .rw[F]at ar;replace F:=AB F;replace dm:AR (w.ev=[]):=⟨D7.1 dm⟩;rcases d3 with⟨rfl,rfl⟩|⟨o,rfl,f2,e,c6,D,M⟩
   .have b3:=GQ [] AG;simp only[KR,MD,IS,Ci]at b3;simp only[CS]at a';refine ax ?_;refine Fw (a'.1 _ _ (dd.1 _ z _ ?_ λl b1 Y r=>?_)) (λeg bl b4=>?_)
    .apply Exists.intro;refine⟨?_,?_,?_⟩
     .simp only[go_sem,bi,av,ch,cl,AM];first|done|rfl
     .refine BO [] (by simp[dm.1]) ?_;simp only[CS,Ap,By,Ci,dm.1,ag.1];exact Ba
     .exact zAe
    .have P:=Aw r 1 (b+72) z z;have a2:=Aw r 1 (b+73) z z;have b8:=HN r 1 3 (b+83) z z;exact Ba
    obtain⟨bc,s⟩:=b4;subst bc;rw[ag.1]at s;replace s:=AB s;refine aw ?_;exact s.1
   .have cp:¬(U L)=0:=λc=>by have:=h.1.ne (CE c);cases this
    have b3:=GQ L z;simp only[KR,Co cp]at b3;obtain⟨bk,b5,fp,fr⟩:=GI c6 D M;have c1:∀a k f,b+45<=f->AJ (a::k::f::π) o=false:=λa k f df=>AI λc=>by exact zBi
    have c2:∀a k f,b+45<=f->AJ o (a::k::f::π)=false:=λa k f df=>AI λc=>by grind [q_c]
    have v:=h.1.out o Az;have cs:AJ o m=false:=AI λc=>v (c▸n.q_i m);have cu:AJ m o=false:=AI λc=>v (c▸n.q_i m);have am:=jW (f:=BC) (sz:=2) (λ_=>rfl) Af j.env L (λc=>cp (by rw[c];rfl)) z;have g7:TL (U L) (TC BC L)=TC BC L:=Bv AG;have g8:TL (U L) (TC (λa5=>TC y.d a5) (TC BC L))=(TC BC L).map λa5=>a5.map y.d:=Bv AG;have g9:=UM BC j.env L;replace D:=AB D;replace M:=AB M;replace v:=AB v;simp only[Ap]at a';refine ax ?_;refine Fw (a'.1 _ _ (dd.1 _ z _ ?_ λl b1 Y r=>?_)) (λeg bl b4=>?_)
    .apply Exists.intro;refine⟨?_,?_,?_⟩
     .simp only[go_sem,bi,av,ch,cl,bk,b5,c1,c2,cs,cu,(show¬b+12=b by omega),AM];first|done|rfl
     .refine BO [] (by simp[dm.1]) ?_;simp only[CS,Ap,By,Ci,dm.1,ag.1];simp only[go_sem,bi,av,ch,cl,bk,b5,c1,c2,cs,cu,(show¬b+12=b by omega),AM,Cs];first|done|rfl
     .exact zAe
    .have P:=Aw r 1 (b+72) z z;have a2:=Aw r 1 (b+73) z z;have b8:=HN r 1 3 (b+83) z z;have e':=HN r 1 3 (b+70) z z;have fc:=Aw r 1 (b+85) z z;exact Ba
    obtain⟨bc,s⟩:=b4;subst bc;rw[ag.1]at s;replace s:=AB s;refine aw ?_;exact s.1
  .have dq:=h.1.run.ids E (n.q_j m (i:=3) z (by rw[F];simp[AD]));have ih:∀f,AJ E (0::f::π)=false:=λf=>AI λc=>Iu h.1.run x.1 f (by rw[<-c];exact n.q_j m (i:=3) z (by rw[F];simp[AD]));have d8:=GJ (b':=0) x.1 dq;have c8:=JS x.1 dq;have d9:=oM x.1 dq;have d':=ABn x.1 dq;have ds:AJ E m=false:=AI λc=>by rw[c,h.1.run.rep.box]at fs;cases fs
   have ea:AJ m E=false:=AI λc=>by grind
   simp only[Ie,BT,BV]at fs F;rw[F]at ar;replace F:=AB F;replace dq:=AB dq;rcases fd with _|⟨ka,fd⟩
   .rcases d3 with⟨rfl,rfl⟩|⟨o,rfl,f2,e,c6,D,M⟩
    .have b3:=GQ [] AG;simp only[KR,MD,IS,Ci]at b3;simp only[CS]at a';refine ax ?_;refine Fw (a'.1 _ _ (dd.1 _ z _ ?_ λl b1 Y r=>?_)) (λeg bl b4=>?_)
     .apply Exists.intro;refine⟨?_,?_,?_⟩
      .simp only[go_sem,bi,av,ch,cl,d8,c8,d9,d',ds,ea,AM];first|done|rfl
      .refine BO [] AG ?_;simp only[CS,Ap,By,Ci,ag.1];exact Ba
      .exact zAe
     .exact zBT
     obtain⟨bc,s⟩:=b4;subst bc;rw[ag.1]at s;replace s:=AB s;refine aw ?_;exact s.1
    .have cp:¬(U L)=0:=λc=>by have:=h.1.ne (CE c);cases this
     have b3:=GQ L z;simp only[KR,Co cp]at b3;obtain⟨bk,b5,fp,fr⟩:=GI c6 D M;have c1:∀a k f,b+45<=f->AJ (a::k::f::π) o=false:=λa k f df=>AI λc=>by exact zBi
     have c2:∀a k f,b+45<=f->AJ o (a::k::f::π)=false:=λa k f df=>AI λc=>by grind [q_c]
     have v:=h.1.out o Az;have cs:AJ o m=false:=AI λc=>v (c▸n.q_i m);have cu:AJ m o=false:=AI λc=>v (c▸n.q_i m);have e6:AJ o E=false:=AI λc=>v (c▸n.q_j m (i:=3) z zCg);have ej:AJ E o=false:=AI λc=>v (c▸n.q_j m (i:=3) z zCg);have am:=jW (f:=BC) (sz:=2) (λ_=>rfl) Af j.env L (λc=>cp (by rw[c];rfl)) z;have g7:TL (U L) (TC BC L)=TC BC L:=Bv AG;have g8:TL (U L) (TC (λa5=>TC y.d a5) (TC BC L))=(TC BC L).map λa5=>a5.map y.d:=Bv AG;have g9:=UM BC j.env L;replace D:=AB D;replace M:=AB M;replace v:=AB v;simp only[Ap]at a';refine ax ?_;refine Fw (a'.1 _ _ (dd.1 _ z _ ?_ λl b1 Y r=>?_)) (λeg bl b4=>?_)
     .apply Exists.intro;refine⟨?_,?_,?_⟩
      .exact zBZ
      .refine BO [] AG ?_;simp only[CS,Ap,By,Ci,ag.1];simp only[go_sem,bi,av,ch,cl,d8,c8,d9,d',ds,ea,bk,b5,c1,c2,cs,cu,(show¬b+12=b by omega),e6,ej,AM,Cs];first|done|rfl
      .exact zAe
     .exact zAq
     obtain⟨bc,s⟩:=b4;subst bc;rw[ag.1]at s;replace s:=AB s;refine aw ?_;exact s.1
   .rcases d3 with⟨rfl,rfl⟩|⟨o,rfl,f2,e,c6,D,M⟩
    .have b3:=GQ [] AG;simp only[KR,MD,IS,Ci]at b3;simp only[CS]at a';refine ax ?_;refine Fw (a'.1 _ _ (dd.1 _ z _ ?_ λl b1 Y r=>?_)) (λeg bl b4=>?_)
     .apply Exists.intro;refine⟨?_,?_,?_⟩
      .simp only[go_sem,bi,av,ch,cl,d8,c8,d9,d',ds,ea,AM];first|done|rfl
      .refine BO fd AG ?_;simp only[Ap,By,Ci,F0,F4,Cs,ag.1];exact Ba
      .exact .inl (by rw[F.1];rfl)
     .exact zBT
     obtain⟨bc,s⟩:=b4;subst bc;rw[ag.1]at s;replace s:=AB s;refine aw ?_;exact s.1
    .have cp:¬(U L)=0:=λc=>by have:=h.1.ne (CE c);cases this
     have b3:=GQ L z;simp only[KR,Co cp]at b3;obtain⟨bk,b5,fp,fr⟩:=GI c6 D M;have c1:∀a k f,b+45<=f->AJ (a::k::f::π) o=false:=λa k f df=>AI λc=>by exact zBi
     have c2:∀a k f,b+45<=f->AJ o (a::k::f::π)=false:=λa k f df=>AI λc=>by grind [q_c]
     have v:=h.1.out o Az;have cs:AJ o m=false:=AI λc=>v (c▸n.q_i m);have cu:AJ m o=false:=AI λc=>v (c▸n.q_i m);have e6:AJ o E=false:=AI λc=>v (c▸n.q_j m (i:=3) z zCg);have ej:AJ E o=false:=AI λc=>v (c▸n.q_j m (i:=3) z zCg);have am:=jW (f:=BC) (sz:=2) (λ_=>rfl) Af j.env L (λc=>cp (by rw[c];rfl)) z;have g7:TL (U L) (TC BC L)=TC BC L:=Bv AG;have g8:TL (U L) (TC (λa5=>TC y.d a5) (TC BC L))=(TC BC L).map λa5=>a5.map y.d:=Bv AG;have g9:=UM BC j.env L;replace D:=AB D;replace M:=AB M;replace v:=AB v;simp only[Ap]at a';refine ax ?_;refine Fw (a'.1 _ _ (dd.1 _ z _ ?_ λl b1 Y r=>?_)) (λeg bl b4=>?_)
     .apply Exists.intro;refine⟨?_,?_,?_⟩
      .exact zBZ
      .refine BO fd AG ?_;simp only[Ap,By,Ci,F0,F4,Cs,ag.1];exact Ba
      .exact .inl (by rw[F.1];rfl)
     .exact zAq
     obtain⟨bc,s⟩:=b4;subst bc;rw[ag.1]at s;replace s:=AB s;refine aw ?_;exact s.1
structure rE(p:Aa)(sz:Al)(V:MV)(G:S):Prop:=
 rep:APx p sz G [0,0,6] V ⟨Db,[],0⟩
 x0:G.get [0,0]=J (.box (pC p))
 x1:G.get [0,1]=J (.box [.d9,.d9,.d9,.d9])
 x3:G.get [0,3]=J (.box [nI 0])
theorem rE.mono{h:Aa}{sz:Al}{V:MV}{G g:S}(c:rE h sz V G)(j:∀a∈V.ids [0,0,6],∃f,f<20/\AE [f] a=X/\¬a=[0,1]/\¬a=[0,3])(e:∀a,(∀b,20<=b->AJ [1,b] a=Z)->g.get a=G.get a):rE h sz V g:=by refine⟨Fv c.rep λa k=>e a λb l=>AI λi=>?_,(e _ λb _=>rfl).trans c.x0,(e _ λb _=>rfl).trans c.x1,(e _ λb _=>rfl).trans c.x3⟩;have⟨f,h1,h2,_⟩:=j a k;subst i;have:=CA (π:=[]) h2 (q_a.2 ⟨[1],rfl⟩:AE [b] [1,b]=X);omega
def AAS(n:Nat):Dq (n+1)=Dq n++[⟨2,(n:Int)⟩]:=by simp[Dq,Rw]
theorem Mh(n:Aa)(a:Bool)(g:S)(π:u)(m:u)(V:MV)(o:Int)(l:g.get m=J (.box (BX n a V o)))(k:AE π m=Z)(b:a=Z->(V.s 0).q_b=X)(c:a=Z->(V.s 1).q_b=X)(e:a=Z->V.v3.q_b=X)(f:a=Z->(V.s 2).q_b=X):
 ∃j i,kT (.fn 88) [.ptr m 0] g π X I=.ok (j,i)/\j=.ret (if a=X then .kw [.agg [.d9,.d9,.d9,.d9],.d9,nI 3]else .kw [.agg [V.s 0,V.s 1,V.v3,V.s 2],V.s 3,nI 0])/\∀h,AE π h=Z->i.get h=g.get h:=by
 simp[BX]at l;have p:=AN k;have q:=Av k;cases a
 .replace b:=b rfl;replace c:=c rfl;replace e:=e rfl;replace f:=f rfl;refine Bf func88 ?_;refine aw ?_;grind [AN]
 .clear b c e f;refine Bf func88 ?_;refine aw ?_;grind [AN]
variable{B0:u}
def AAI{a:Aa}{H:S}(b:H.get m=J (.box (BX a Z (bL (.ii B0 0 1) .d9 .d9 .d9 .emp m []) 0)))(c:H.get B0=J (.f8 2 [[.int .i64 (-1),.bool Z]])):XV a H m (bL (.ii B0 0 1) .d9 .d9 .d9 .emp m []) ⟨Db,[],0⟩:=by
 refine⟨b,.inl ⟨rfl,rfl⟩,λh e=>?_,.inl ⟨rfl,rfl⟩,⟨rfl,λj k g=>by cases g⟩,λi f=>(by cases f),by simp[bL],λ_ _ _=>rfl⟩
 match h,e with|0,_=>exact BO [] rfl c|1,_=>exact zB6|2,_=>exact .inl (.inl ⟨rfl,rfl⟩)|3,_=>exact zB6
theorem Px(a:AE π m=Z)(e:AE π B0=Z):Dr π (bL (.ii B0 0 1) .d9 .d9 .d9 .emp m []) m:=λc b=>by
 rcases(MV.mem _ _ c).1 b with rfl|rfl|⟨i,hi,h⟩|h|h
 .exact a
 .exact a
 .grind [bL,AD]
 .simp[bL,AD]at h
 .simp[bL,AD]at h
variable{i:u}
theorem Na(a:i≠m)(c:i≠B0):i∉(bL (.ii B0 0 1) .d9 .d9 .d9 .emp m []).ids m:=λb=>by
 rcases(MV.mem _ _ i).1 b with h|h|⟨k,hi,h⟩|h|h
 .exact a h
 .exact a h
 .grind [bL,AD]
 .simp[bL,AD]at h
 .simp[bL,AD]at h
theorem bg(h:i∈(bL (.ii B0 0 1) .d9 .d9 .d9 .emp m []).ids m):i=m\/i=B0:=by grind [Na]
variable{a:S}
def AE6{e:y}{c:List (List Ar)}(b:Ub a sz e c):FM a.get e=J (.d (.co c)):=by
 rcases b with b|⟨rfl,rfl⟩
 .exact AE5 b
 .rfl
def lv{B:MV->Int->List y}{i:Bool}{l:u}{h:Cy}(b:Gm B i a l V h):mB (λm k=>E9 (m,k)=(BG.ret (P9 (Yv (J h))),[])) (Option.map y.kw (bp (Option.map y.agg (SB (EB a.get (V.s 0)) (SB (EB a.get (V.s 1)) (SB (EB a.get V.v3) (SB (EB a.get (V.s 2)) (J [])))))) (bp (FM a.get (V.s 3)) (J [nI 0])))):=by have c:=TP (Zb (b.sl 0 z));have e:=TP (Zb (b.sl 1 z));have f:=TP (Zb (b.sl 2 z));have g:=AE6 (Zb (b.sl 3 z));have j:=mI b.arr b.ac;simp[BT]at c e f g;rw[c,e,f,g,j];rfl
theorem iz{a:Aa}{sz:Al}(B:Ao a sz):Bq kT 46 [pA a] []=.ok (.ret (P9 (Yv (JG a))),[]):=by
 have Q:AR (JG a=J9 a 401 ⟨a.main,0,Dq (U a.free)⟩ ⟨Db,[],0⟩):=⟨rfl⟩;have a0:U a.free<=1000000:=by have:=B.small;simp[Aa.small]at this;omega
 replace B:=AB B;refine BM func46 ?_;refine aw ?_;refine Aj a.free (B0:=λi (q:(y×S)×Nat)=>⟨[(1,.ptr [0,0] 0),(2,.ptr [0,1] 0),(5,.ptr [0,2] 0),(6,q.1.1),(7,nI i)],q.1.2,q.2,[]⟩)
  (Inv:=λi a2 q=>AR (i=0/\q=((.d9,[([0,0],.box (pC a)),([0,1],.box [.d9,.d9,.d9,.d9]),([0,2],.box [.d (.co (a.free.map CK)),.d (.co (a.nodes.map Bl)),.d (.co (a.defs.map Bw)),nI a.main,.ii [1,3] 0 1,.d9,.d9,.d9,.d9,nI 0,.d (.bool (Z))]),([1,3],.f8 2 [[.int .i64 (-1),.bool Z]])]),4)\/0<i/\q=((.ii [1,3] 0 i,[([0,0],.box (pC a)),([0,1],.box [.d9,.d9,.d9,.d9]),([0,2],.box [.d (.co (a.free.map CK)),.d (.co (a.nodes.map Bl)),.d (.co (a.defs.map Bw)),nI a.main,.ii [1,4] 0 1,.d9,.d9,.d9,.d9,nI 0,.d (.bool (Z))]),([1,3],.f8 2 ((Dq i).map BC)),([1,4],.f8 2 [[.int .i64 (-1),.bool Z]])]),5))) (b0:=((_,_),_)) ⟨.inl ⟨rfl,rfl⟩⟩ ?_ ?_
 .rintro i a3 q a1 R ag t O;have aa:(Dq i).length=i:=by simp[Dq]
  have ac:=AR.mk (AAS i);have D:SE.wrap ((i:Int)+1)=(i:Int)+1:=w_ z z;rcases t.1 with⟨rfl,rfl⟩|⟨ad,rfl⟩
  .clear t;have T:(0:Int)<U a.free:=z;exact aw (O.1 ((_,_),_) ⟨.inr ⟨z,rfl⟩⟩)
  .clear t;have az:TL i ((Dq i).map BC)=(Dq i).map BC:=Bv zC0;refine aw (O.1 ((_,_),_) ⟨.inr ⟨z,?_⟩⟩);rw[ac.1,Ap];rfl
 .rintro i q R ag t;have aa:(Dq i).length=i:=by simp[Dq]
  have s:=R.1;have A:=AB λ(H:S) (B0:u) (ai:H.get [0,2]=J (.box (BX a Z (bL (.ii B0 0 1) .d9 .d9 .d9 .emp [0,2] []) 0))) (V:H.get B0=J (.f8 2 [[.int .i64 (-1),.bool Z]])) (F:Nat) (Y:AE [F] B0=Z) (W:AE [F] [0,2]=Z)=>TA B.1 401 H [F] [0,2] _ ⟨Db,[],0⟩ ⟨a.main,0,Dq (U a.free)⟩ (AAI ai V) (Px W Y) (Qw a sz) (Qv B.1) AZ AZ AZ AG;rcases t.1 with⟨rfl,rfl⟩|⟨ad,rfl⟩
  .clear t;have T:¬(0:Int)<U a.free:=z;have P:Dq (U a.free)=[]:=by rw[<-s];rfl
   rw[P]at A;replace s:=AB s;refine aw (Ak (A.1 _ [1,3] rfl rfl 13 rfl rfl) (λav k l=>?_));rw[show J9 a 401 ⟨a.main,0,[]⟩ ⟨Db,[],0⟩=JG a by rw[Q.1,P]]at l;clear A;rcases g:JG a with _|L
   .rw[g]at l;obtain⟨rfl,⟨m,M,c⟩,p⟩:=l;replace c:=(An [13] k [0,2] rfl).trans c;have x:(gc [13] k).get [0,1]=J (.box [.d9,.d9,.d9,.d9]):=(An [13] k [0,1] rfl).trans ((p [0,1] (Na (by intro b;cases b) (by intro b;cases b)) rfl).trans rfl);refine M9 ?_ c p g;clear c p g;intro c p g;simp[Yv,P9,sA,PA];refine aw (Ak (Mh a X _ _ _ m M c.1 rfl AG AG AG AG) (λK r w=>?_));obtain⟨rfl,f⟩:=w;have N:=(An [15] r [0,1] rfl).trans ((f [0,1] rfl).trans x);replace f:=AB f;exact au
   .rw[g]at l;obtain⟨rfl,m,n,j⟩:=l;have e:=Tm n j (Px (B0:=[1,3]) (π:=[13]) rfl rfl);have o:∀h∈m.ids [0,2],¬h=[0,1]/\AE [15] h=false:=λh v=>by
     rcases j.ids h v with C|⟨C,ar,rfl⟩
     .exact zBo
     grind [CA]
    have c:=e.box;have x:(gc [13] k).get [0,1]=J (.box [.d9,.d9,.d9,.d9]):=(An [13] k [0,1] rfl).trans ((j.frame [0,1] (Na (by intro b;cases b) (by intro b;cases b)) rfl).trans rfl);have⟨c0,d0⟩:=DS (e.sl 0 z);have⟨c1,d1⟩:=DS (e.sl 1 z);have⟨c2,d2⟩:=QU (e.sl 2 z);have⟨c3,d3⟩:=DS (e.sl 3 z);have⟨c4,d4⟩:=Lr e.arr;refine bQ ?_ c n e j o g;clear c n e j o g;intro c n e j o g;refine aw (Ak (Mh a Z _ _ _ m L.work c.1 rfl (λ_=>c0) (λ_=>c1) (λ_=>c4) (λ_=>c2)) (λK r w=>?_));obtain⟨rfl,f⟩:=w;have N:=(An [15] r [0,1] rfl).trans ((f [0,1] rfl).trans x);exact zBP
  .clear t;rw[<-s]at A;have az:TL i ((Dq i).map BC)=(Dq i).map BC:=Bv zC0;replace s:=AB s;refine aw (Ak (A.1 _ [1,4] rfl rfl 14 rfl rfl) (λav k l=>?_));rw[show J9 a 401 ⟨a.main,0,Dq i⟩ ⟨Db,[],0⟩=JG a by rw[Q.1,s.1]]at l;clear A;rcases g:JG a with _|L
   .rw[g]at l;obtain⟨rfl,⟨m,M,c⟩,p⟩:=l;replace c:=(An [14] k [0,2] rfl).trans c;have x:(gc [14] k).get [0,1]=J (.box [.d9,.d9,.d9,.d9]):=(An [14] k [0,1] rfl).trans ((p [0,1] (Na (by intro b;cases b) (by intro b;cases b)) rfl).trans rfl);refine M9 ?_ c p g;clear c p g;intro c p g;simp[Yv,P9,sA,PA];refine aw (Ak (Mh a X _ _ _ m M c.1 rfl AG AG AG AG) (λK r w=>?_));obtain⟨rfl,f⟩:=w;have N:=(An [16] r [0,1] rfl).trans ((f [0,1] rfl).trans x);replace f:=AB f;exact au
   .rw[g]at l;obtain⟨rfl,m,n,j⟩:=l;have e:=Tm n j (Px (B0:=[1,4]) (π:=[14]) rfl rfl);have o:∀h∈m.ids [0,2],¬h=[0,1]/\AE [16] h=false:=λh v=>by
     rcases j.ids h v with C|⟨C,ar,rfl⟩
     .exact zBo
     grind [CA]
    have c:=e.box;have x:(gc [14] k).get [0,1]=J (.box [.d9,.d9,.d9,.d9]):=(An [14] k [0,1] rfl).trans ((j.frame [0,1] (Na (by intro b;cases b) (by intro b;cases b)) rfl).trans rfl);have⟨c0,d0⟩:=DS (e.sl 0 z);have⟨c1,d1⟩:=DS (e.sl 1 z);have⟨c2,d2⟩:=QU (e.sl 2 z);have⟨c3,d3⟩:=DS (e.sl 3 z);have⟨c4,d4⟩:=Lr e.arr;refine bQ ?_ c n e j o g;clear c n e j o g;intro c n e j o g;refine aw (Ak (Mh a Z _ _ _ m L.work c.1 rfl (λ_=>c0) (λ_=>c1) (λ_=>c4) (λ_=>c2)) (λK r w=>?_));obtain⟨rfl,f⟩:=w;have N:=(An [16] r [0,1] rfl).trans ((f [0,1] rfl).trans x);exact zBP
variable{v1 c e v4:y}{f:List (List y)}
theorem bK{s:BQ}(b:qx π s v1 c e v4 f a){G:S}{n:Aa}(o:G.get m=J (.box (BX n Z (bL v1 c e v4 .d9 m f) 0)))(p:∀g l,a.get g=J l->G.get g=J l):XV n G m (bL v1 c e v4 .d9 m f) ⟨s,[],0⟩:=by
 have key:∀{sz:Nat} {h:y} {k:List (List Ar)},PV a sz h k->PV G sz h k:=λw=>by grind [Nv,O3]
 refine⟨o,.inl ⟨rfl,rfl⟩,λi q=>?_,?_,?_,b.gw,b.qd,λ_ _ _=>rfl⟩
 .match i,q with|0,_=>exact key b.s0|1,_=>exact key b.s1|2,_=>exact .inl (key b.s2)|3,_=>exact zB6
 .refine S3 b.arr λg j=>?_;have:=Ky b.arr j;grind
 .have:=S0 (g':=G) b.ac λg j=>by have⟨x,hx⟩:=Qo b.ac j;rw[hx];exact p _ _ hx
  exact⟨this.len,λt v r=>by have⟨h,h1,h2⟩:=this.row t v r;exact⟨h,h1,.inl h2⟩⟩
theorem jM{c:u}(e:a.get c=I):((a.map λb=>b.1).all λb=> !AJ c b)=true:=by grind [AI,mg]
def zi{j:Nat}{s:BQ}(g:qx [j] s v1 c e v4 f a):∀b∈(bL v1 c e v4 .d9 m f).ids m,b=m\/AE [j] b=true:=λb k=>by
 rcases(MV.mem _ _ b).1 k with rfl|rfl|⟨i,hi,h⟩|h|h
 .exact .inl rfl
 .exact .inl rfl
 .match i,hi with|0,_=>exact .inr (g.ids b (.inl h))|1,_=>exact .inr (g.ids b (.inr (.inl h)))|2,_=>exact .inr (g.ids b (.inr (.inr (.inl h))))|3,_=>simp[bL,AD]at h
 .exact .inr (g.ids b (by simp[bL]at h;simp[h]))
 .exact .inr (g.ids b (by simp[bL]at h;simp[h]))
theorem iW{a:Nat}{c:u}(e:AE [a] c=X)(f:¬b=a):AE [b] c=false:=by grind [CA]
theorem ADA{j:Aa}{sz:Al}(ac:Ao j sz){s:BQ}(R:Ed j sz s)(az:s.Fits){be:Dp}(a0:HX j s be):Bq kT 56 [pA j,sA s,kv be] []=.ok (.ret (P9 (Yv (Cz j s be))),[]):=by
 have bk:¬(U s.be)=0:=by have:=R.tree.pos;omega
 obtain⟨bo,k,v1,c,e,v4,f,a,rfl,m⟩:=AEO s az bk 8 [];replace m:=m.cp;have ad:=m.own;have Q:∀a1,¬a1=8->∀L,S.get (a++L) [0,a1]=S.get L [0,a1]:=λa1 b1 L=>JK (ad _ (BN [] b1));have⟨c0,d0⟩:=DS m.s0;have⟨c1,d1⟩:=DS m.s1;have⟨c2,d2⟩:=DS m.s2;have⟨c3,d3⟩:=Lr m.arr;have b9:=jM (ad [0,0] rfl);have b':=jM (ad [0,1] rfl);replace ad:=AB ad;have b6:=Q 0 Af;have b7:=Q 1 Af;have b8:=Q 2 Af;have bi:=Q 3 Af;replace Q:=AB Q;have b2:=m.s0;refine YO ?_ ac R a0 az m;clear ac R a0 az m;intro ac R a0 az m;rcases b2 with⟨rfl,b5⟩|⟨b3,M,rfl,b5⟩
 .exact absurd (by grind [List.map_eq_nil_iff]) bk
 have⟨V,B⟩:=C6 (bL (.ii b3 0 (s.be.map Ch).length) c e v4 .d9 [0,10] f);have ag:AR (∀b∈V.ids [0,10],b=[0,10]\/AE [8] b=X):=⟨by rw[B];exact zi m.1⟩;have av:AR ([0,3] ∉V.ids [0,10]):=⟨λp=>by rcases ag.1 _ p with p|p<;>cases p⟩
 have bn:AR (∀O T,a.get O=J T->AJ [0,10] O=Z):=⟨λO T K=>AI λw=>by rw[<-w,m.1.own _ rfl]at K;cases K⟩;replace B:=AB B;cases a0.1 with
 | @pp i a5 bs d bo t ai ar bl b0 a3=>
   replace a3:=AB a3;refine BM func56 ?_;refine aw ?_;generalize q:S.put (a++_) [0,10] _=H;have aa:H.get [0,10]=J (.box (BX j Z V 0)):=by rw[<-q];simp only[go_sem];rw[B.1,BV];rfl
   have a4:XV j H [0,10] V ⟨s,[],0⟩:=by exact zBj
   have Y:Dr [17] V [0,10]:=λb r=>by
    rcases ag.1 b r with rfl|p
    .rfl
    grind [iW]
   have W:H.get [0,3]=J (.box [.d9,.d9,.d9,.d9]):=by rw[<-q];simp only[go_sem,bi]
   replace q:=AB q;refine Ak (AB9 ac.1 a4 Y R.1 ai ar bl b0 a3.1 rfl AG) (λa6 x o=>?_);replace o:Kc j [17] [0,10] V H (Cz j s ⟨-1,i,a5,t⟩) a6 x:=by have bv:s.bv[((i:Nat):Int).toNat]?=J bs:=ai;have bx:d.rules[((a5:Nat):Int).toNat]?=J bo:=bl;rw[Cz,D4 AZ,react];simp only[bv,(Cr ar).2,bx,RI];exact o
   rcases k:Cz j s ⟨-1,i,a5,t⟩with _|bc
   .rw[k]at o;obtain⟨rfl,⟨v,a2,g⟩,D⟩:=o;replace g:=(An [17] x [0,10] rfl).trans g;have M:=(An [17] x [0,3] rfl).trans ((D [0,3] (av.1) rfl).trans W);refine M9 ?_ g D k;clear g D k;intro g D k;simp[Yv,P9,sA,PA];refine aw (Ak (Mh j X _ _ _ v a2 g.1 rfl AG AG AG AG) (λa' N P=>?_));obtain⟨rfl,l⟩:=P;have bh:=(An [19] N [0,3] rfl).trans ((l [0,3] rfl).trans M);replace l:=AB l;exact au
   .rw[k]at o;obtain⟨rfl,v,A,n⟩:=o;have h:=Tm A n Y;have C:∀b∈v.ids [0,10],¬b=[0,3]/\AE [19] b=false:=λb r=>by
     rcases n.ids b r with F|⟨F,b4,rfl⟩
     .exact zBk
     grind [CA]
    have g:=h.box;have M:=(An [17] x [0,3] rfl).trans ((n.frame [0,3] (av.1) rfl).trans W);have⟨c0,d0⟩:=DS (h.sl 0 z);have⟨c1,d1⟩:=DS (h.sl 1 z);have⟨c2,d2⟩:=QU (h.sl 2 z);have⟨c3,d3⟩:=DS (h.sl 3 z);have⟨c4,d4⟩:=Lr h.arr;refine bQ ?_ g A h n C k;clear g A h n C k;intro g A h n C k;refine aw (Ak (Mh j Z _ _ _ v bc.work g.1 rfl (λ_=>c0) (λ_=>c1) (λ_=>c4) (λ_=>c2)) (λa' N P=>?_));obtain⟨rfl,l⟩:=P;have bh:=(An [19] N [0,3] rfl).trans ((l [0,3] rfl).trans M);exact zBN
 | @wait i a2 ai ar=>
   refine BM func56 ?_;refine aw ?_;generalize q:S.put (a++_) [0,10] _=H;have aa:H.get [0,10]=J (.box (BX j Z V 0)):=by rw[<-q];simp only[go_sem];rw[B.1,BV];rfl
   have a4:XV j H [0,10] V ⟨s,[],0⟩:=by exact zBj
   have Y:Dr [18] V [0,10]:=λb r=>by
    rcases ag.1 b r with rfl|p
    .rfl
    grind [iW]
   have W:H.get [0,3]=J (.box [.d9,.d9,.d9,.d9]):=by rw[<-q];simp only[go_sem,bi]
   replace q:=AB q;refine Ak (AIE ac.1 a4 Y R.1 ai ar AG rfl) (λa6 x o=>?_);replace o:Kc j [18] [0,10] V H (Cz j s ⟨i,0,0,[]⟩) a6 x:=by rw[<-ACg];exact o
   rcases k:Cz j s ⟨i,0,0,[]⟩with _|bc
   .rw[k]at o;obtain⟨rfl,⟨v,a2,g⟩,D⟩:=o;replace g:=(An [18] x [0,10] rfl).trans g;have M:=(An [18] x [0,3] rfl).trans ((D [0,3] (av.1) rfl).trans W);refine M9 ?_ g D k;clear g D k;intro g D k;simp[Yv,P9,sA,PA];refine aw (Ak (Mh j X _ _ _ v a2 g.1 rfl AG AG AG AG) (λa' N P=>?_));obtain⟨rfl,l⟩:=P;have bh:=(An [20] N [0,3] rfl).trans ((l [0,3] rfl).trans M);replace l:=AB l;exact au
   .rw[k]at o;obtain⟨rfl,v,A,n⟩:=o;have h:=Tm A n Y;have C:∀b∈v.ids [0,10],¬b=[0,3]/\AE [20] b=false:=λb r=>by
     rcases n.ids b r with F|⟨F,b4,rfl⟩
     .exact zBk
     grind [CA]
    have g:=h.box;have M:=(An [18] x [0,3] rfl).trans ((n.frame [0,3] (av.1) rfl).trans W);have⟨c0,d0⟩:=DS (h.sl 0 z);have⟨c1,d1⟩:=DS (h.sl 1 z);have⟨c2,d2⟩:=QU (h.sl 2 z);have⟨c3,d3⟩:=DS (h.sl 3 z);have⟨c4,d4⟩:=Lr h.arr;refine bQ ?_ g A h n C k;clear g A h n C k;intro g A h n C k;refine aw (Ak (Mh j Z _ _ _ v bc.work g.1 rfl (λ_=>c0) (λ_=>c1) (λ_=>c4) (λ_=>c2)) (λa' N P=>?_));obtain⟨rfl,l⟩:=P;have bh:=(An [20] N [0,3] rfl).trans ((l [0,3] rfl).trans M);exact zBN
variable{e L:List h}
theorem AFQ(a:Nat)(b:U e=U L):(e.take a++L.drop a)[a]?=L[a]? :=zCI
variable{c:Nat}{l:h}
theorem AFR(a:e[c]?=J l)(f:U e=U L):(e.take c++L.drop c).set c l=e.take (c+1)++L.drop (c+1):=by have b:=l_ a;grind [List.set_append_right,List.drop_eq_getElem_cons,List.take_add_one]
theorem AAx(b:e[c]?=J l)(a:L[c]?=J l):e.take (c+1)++L.drop (c+1)=e.take c++L.drop c:=zCu
section
variable{p:Aa}{n:Al}{k:S}{B:u}{s:BQ}{jp:Al}{ge:List Al}{f j:y}{h:List y}{a:u}{x:Dp}
def XO(k:S)(B:u)(a:u)(f j:y)(h:List y)(b:Su)(m:BG)(e:S):Prop:=m=.ret (.d (.bool (X)))/\∃c g l,EH e B b.s b.jp b.ge c g l/\(∀i∈AD c++(AD g++Ab l),i∈AD f++(AD j++Ab h)\/(AE a i=X/\∃t,i=1::t))/\∀i,AE a i=Z->i∉B::(AD f++(AD j++Ab h))->e.get i=k.get i
def PS(p:Aa)(k:S)(B:u)(s:BQ)(x:Dp)(a:u)(f j:y)(h:List y)(jp:Al)(ge:List Al)(b:BG)(c:S):Prop:=match Cz p s x with|none=>b=.ret (.d (.bool (Z)))|some e=>XO k B a f j h (PF p ⟨s,jp,ge⟩ x e.em) b c
theorem xX{t:BQ}{b6:List (Ar×y)}{G:S}{b:Nat}{r:CW}(Q:Ao p n)(az:Ed p n s)(V:Ed p n t)(R:rB s t)(P:EH G B s jp ge f j h)(D:∀i∈B::(AD f++(AD j++Ab h)),AE a i=Z)(M:U jp=U s.ac)(bx:U ge=U s.bv)(bo:∀l∈jp,0<=l/\l<=1000000) (d2:21<=b) (c4:r.get 0=.ptr B 0) (c6:r.get 4=.ptr (0::0::a) 0) (c7:r.get 7=.ptr (0::14::a) 0) (c5:r.get 10=.mp (1::20::a)) (aa:G.get (0::0::a)=J (.box (pC p)))(gt:G.get (0::14::a)=J (.box (sC t))) (a5:G.get (1::20::a)=J (.map b6)) (be:rM b6 (C4 p s x)) (a6:∀b3,C4 p s x b3<=1000)(a':∀i,AE a i=Z->i∉B::(AD f++(AD j++Ab h))->G.get i=k.get i):
 Wp cfg kT ⟨48,a,X,I,Z,140⟩ 0 (MW 5 (Tryz.f48.body.get rfl)) ⟨r,G,b,[]⟩ (MY cfg I [ResultVar.tmp 6] a X (XO k B a f j h (Mo p t (Pj p s x t 0 jp) ge))):=by
 have c0:=D B AG;have dr:=AN c0;have ds:=Av c0;have b':=P.box;have cp:=az.small;simp[BQ.small]at cp;obtain⟨eb,ec,ef,eg⟩:=cp;replace P:=AB P;replace D:=AB D;replace az:=AB az;replace V:=AB V;replace Q:=AB Q;replace bo:=AB bo;replace M:=AB M;replace bx:=AB bx;replace R:=AB R;replace be:=AB be;replace a6:=AB a6;replace a':=AB a';simp[Tryz.f48,MW];refine ax ?_;clear c4 c6 c7 c5;obtain⟨e,ac⟩:∃e,e=Pj p s x t 0 jp:=⟨_,rfl⟩;have K:U e=U jp:=by rw[ac,R0]
 have bl:∀(c:Nat) l,jp[c]?=J l->e[c]?=J (Lq p s x t c l):=λc l T=>by grind [Xq]
 rw[<-ac];have cq:=V.1.small;simp[BQ.small]at cq;obtain⟨ej,ek,el,em⟩:=cq;replace ac:=AB ac;replace K:=AB K;replace bl:=AB bl;refine Aj s.ac (B0:=λc (N:S×Nat)=>⟨[(0,.ptr B 0),(4,.ptr (0::0::a) 0),(7,.ptr (0::14::a) 0),(10,.mp (1::20::a)),(85,nI (U s.ac)),(86,nI c)],N.1,N.2,[]⟩)
  (Inv:=λc ea N=>AR (EH N.1 B s (e.take c++jp.drop c) ge f j h/\∀g,g∉AD f->N.1.get g=G.get g)) (b0:=(G,b+7)) ⟨by rw[Lw,Cs,List.drop_zero];exact P.1,λ_ _=>rfl⟩ ?_ ?_
 .rintro c cu ⟨H,Y⟩ b1 bn dd bc a1;obtain⟨m,q⟩:=bc.1;dsimp only at m q;have er:SE.wrap ((c:Int)+1)=(c:Int)+1:=w_ z z;obtain⟨l,T⟩:=g_ (l:=jp) (i:=c) (by rw[M.1];exact bn);obtain⟨cv,av,b9,cd,cm⟩:=R.1.ch c cu b1;have df:=l_ av;have O:=Ix Q.1 V.1 av;have a3:=Ix Q.1 az.1 b1;obtain⟨c2,de⟩:=g_ (l:=t.be) (i:=cv.at_.toNat) (by have:=O.at_;unfold Jh at this;omega);have A:FL t c=c2.dead:=by rw[FL,av,Gs,F7,BA,de];rfl
  have a2:=O.at_;unfold Jh at a2;obtain⟨a2,c3⟩:=a2;have dn:=O.len;have dq:=a3.len;obtain⟨d8,dj⟩:=bo.1 l (AP T);have ad:=bl.1 c l T;have cc:(e.take c++jp.drop c)[c]?=J l:=by rw[AFQ c K.1];exact T
  have ag:(e.take c++jp.drop c).length=U s.ac:=by rw[Dl,F3,Is,K.1,M.1];omega
  have b0:∀v,Lq p s x t c l=v->(e.take c++jp.drop c).set c v=e.take (c+1)++jp.drop (c+1):=λv W=>AFR (by rw[ad,W]) K.1;have b2:Lq p s x t c l=l->e.take (c+1)++jp.drop (c+1)=e.take c++jp.drop c:=λW=>AAx (by rw[ad,W]) T;generalize e.take c++jp.drop c=cl at*;have b8:=m.box;have F:∀g,AE a g=X->H.get g=G.get g:=λg ar=>q g λo=>by have:=D.1 g (Bi _ (Ac.2 (.inl o)));grind
  have c8:=(F (0::0::a) (Aq [0,0])).trans aa;have c9:=(F (0::14::a) (Aq [0,14])).trans gt;have d0:=(F (1::20::a) (Aq [1,20])).trans a5;have d7:=df;have d1:(c:Int)<U t.ac:=z;have dx:=c3;obtain⟨id,L,d4⟩:∃id,f=.ii id 0 (U cl)/\H.get id=J (.f8 1 (cl.map AX)):=by
   rcases m.jp with⟨_,c'⟩|o
   .rw[c']at cc;simp at cc
   .exact o
  rw[ag]at L;have d6:AJ id B=false:=AI λr=>by grind
  have uid:=D.1 id (by rw[L];simp[AD]);have dj:=AN uid;have d9:=Av uid;have d3:(cl.map AX).length=U s.ac:=by rw[BV,ag]
  replace m:=AB m;replace q:=AB q;replace ad:=AB ad;replace b0:=AB b0;replace b2:=AB b2;replace O:=AB O;replace a3:=AB a3;replace ag:=AB ag;replace L:=AB L;replace b9:=AB b9;replace cd:=AB cd;replace cm:=AB cm;have ch:=be.1.get c;have d5:=a6.1 c;clear F aa gt a5 b';cases cs:c2.dead with
  |true=>
   rw[cs]at A;have w:Lq p s x t c l=l:=by rw[Lq,D4 A]
   replace A:=AB A;replace w:=AB w;refine ax ?_;exact a1.1 (_,_) ⟨by rw[b2.1 w.1];exact m.1,q.1⟩
  |false=>
   rw[cs]at A;have w:Lq p s x t c l=l+(U cv.queue:Int)-(U cu.queue:Int)+(C4 p s x c:Int):=by rw[Lq,Co (by rw[A];simp),Ja av,Ja b1]
   replace A:=AB A;replace w:=AB w;generalize C4 p s x c=b3 at*;rw[L.1]at b8;have b7:AR (∀v:Int,Lq p s x t c l=v->EH (H.put id (.f8 1 ((cl.map AX).set c [.int .i64 v]))) B s (e.take (c+1)++jp.drop (c+1)) ge f j h/\∀g,g∉AD f->(H.put id (.f8 1 ((cl.map AX).set c [.int .i64 v]))).get g=G.get g):=⟨λv W=>by
    refine⟨?_,λg ar=>?_⟩
    .rw[show([.int .i64 v]:List Ar)=AX v from rfl,<-I2,<-b0.1 v W];exact m.1.incC L.1 (by rw[Kw])
    .rw[BU _ _ λr=>ar (by rw[L.1,<-r];simp[AD])];exact q.1 g ar⟩
   by_cases cn:b3=0
   .rw[D4 cn]at ch;refine ax ?_;exact a1.1 (_,_) ⟨b7.1 _ (by rw[w.1];omega)⟩
   .rw[Co cn]at ch;refine ax ?_;exact a1.1 (_,_) ⟨b7.1 _ (by rw[w.1];omega)⟩
 .rintro c ⟨H,Y⟩ bn dd bc;obtain⟨m,q⟩:=bc.1;dsimp only at m q;have dc:e.take c++jp.drop c=e:=by have:=bn.1;rw[Bv (by rw[K.1,M.1];omega),OP.2 (by rw[M.1];omega),CS]
  rw[dc]at m;have b8:=m.box;have F:∀g,AE a g=X->H.get g=G.get g:=λg ar=>q g λo=>by have:=D.1 g (Bi _ (Ac.2 (.inl o)));grind
  have c8:=(F (0::0::a) (Aq [0,0])).trans aa;have c9:=(F (0::14::a) (Aq [0,14])).trans gt;clear F aa gt a5 b';replace m:=AB m;replace q:=AB q;refine ax ?_;have bh:EH (H.put B (.box [.d (.co (t.be.map Ch)),.d (.co (t.bv.map Cf)),.d (.co (t.ac.map C0)),.d (.co (t.waits.map Bj)),f,j])) B t e ge f j h:=m.1.setS zDJ λi C=>BU _ _ λr=>by have:=P.1.nd;grind
  refine Ak (oB Q.1 V.1 bh (λi C=>AL (D.1 i C) _) (by rw[K.1,M.1];exact R.1.cl) (by rw[bx.1];exact R.1.gl)) (λd' a4 dm=>?_);obtain⟨rfl,b5,cx,c1,bi,ai,bs⟩:=dm;rw[G7,fS];have bk:EH (gc ((Y+8)::a) a4) B t (e++Mq t (U e)) (ge++IU p t (U ge)) b5 cx c1:=bi.mono λi C=>by
   rcases DO.1 C with rfl|C
   .grind [An,AL]
   .rcases ai i C with o|⟨o,en,rfl⟩
    .exact An _ _ _ (AL (D.1 i (Bi _ o)) _)
    .exact FC _ _ _
  have bv:∀i,AE a i=Z->i∉B::(AD f++(AD j++Ab h))->(gc ((Y+8)::a) a4).get i=k.get i:=λi b4 a0=>by rw[An _ _ _ (AL b4 _),bs i (AL b4 _) a0,BU _ _ λr=>a0 (by simp[r]),q.1 i λo=>a0 zDO];exact a'.1 i b4 a0
  generalize gc ((Y+8)::a) a4=H2 at*;replace bh:=AB bh;replace bi:=AB bi;replace ai:=AB ai;replace bs:=AB bs;replace bk:=AB bk;replace bv:=AB bv;refine ax ?_;exact⟨rfl,b5,cx,c1,bk.1,λi C=>(ai.1 i C).imp id λo=>⟨q_a.2 ((FD ..).trans (q_a.1 o.1)),o.2⟩,bv.1⟩
theorem AFP(w:Ao p n)(A:Ed p n s)(R:s.Fits)(a1:HX p s x)(ac:EH k B s jp ge f j h)(F:∀i∈B::(AD f++(AD j++Ab h)),AE a i=Z)(V:U jp=U s.ac)(N:U ge=U s.bv)(P:∀K∈jp,0<=K/\K<=1000000) (az:∀(b:Nat) l e,ge[b]?=J l->s.bv[b]?=J e->(U l)=KC p e/\∀K∈l,0<=K/\K<=1000000):
 ∃cl b9,kT (.fn 48) [.ptr B 0,pA p,kv x] k a X I=.ok (cl,b9)/\PS p k B s x a f j h jp ge cl b9:=by
 have c4:=F B AG;have dx:=AN c4;have d0:=Av c4;have c8:=ac.box;have av:=ADA w A R a1;rcases Q:Cz p s x with _|c3
 .rw[Q]at av;simp[Yv,P9,sA,PA]at av;replace ac:=AB ac;refine xp ?_ F A w a1 P az R V N;clear F A w a1 P az R V N;intro F A w a1 P az R V N;unfold PS;rw[Q];clear Q;refine Bf func48 ?_;exact af
 .have⟨a2,q2,q3⟩:=Vc w A a1 Q;have⟨bi,hqk⟩:=MQ w A a1 Q;rw[Q]at av;simp[Yv,P9,sA]at av;have c1:PS p k B s x a f j h jp ge=XO k B a f j h (PF p ⟨s,jp,ge⟩ x c3.em):=by funext cl b9;unfold PS;rw[Q]
  rw[c1,PF];dsimp only;clear c1 hqk q2 q3 Q;generalize c3.em=t at*;replace ac:=AB ac;replace F:=AB F;refine xp ?_ A w P az R V N bi a2;clear A w P az R V N bi a2;intro A w P az R V N bi a2;refine Bf func48 ?_;refine Qg 5 λds bv=>?_;replace bv:=AB bv;simp[R4];cases a1 with
  | @wait i es O b'=>
    have T:=l_ O;have bn:¬((i:Int)<0):=z;simp[kv]at av;refine ax (XJ λG ag=>?_);have aa:∀b,AE a b=Z->G.get b=k.get b:=λb a5=>by have dn:=AN a5;exact Ba
    have df:LB ge ⟨i,0,0,[]⟩=ge:=by rw[LB,Co bn]
    have W:∀o,C4 p s ⟨i,0,0,[]⟩ o=0:=λo=>by rw[C4,Co bn]
    rw[bv.1,df];refine xX w.1 A.1 a2.1 bi.1 (ac.1.mono λi T=>aa i (F.1 i T)) F.1 V.1 N.1 P.1 z ?_ ?_ ?_ ?_ ?_ ?_ ?_ (by rw[show C4 p s ⟨i,0,0,[]⟩=λ_=>0 from funext W];exact np) (λo=>by rw[W];omega) λi a2 _=>aa i a2
    .simp only[go_sem]
    .simp only[go_sem]
    .simp only[go_sem]
    .simp only[go_sem]
    .exact Ba
    .exact Ba
    exact Ba
  | @pp i o e d L cm O b' cc d7 d8=>
    have T:=l_ O;have bn:(-1:Int)<0:=z;simp[kv]at av;have⟨dq,a4⟩:=A.1.grp i e O;have M:=Cr b';have bx:=(Bk w.1 M.2).ok;have dm:=l_ cc;have eg:=bx.rules;have d4:(i:Int)<U s.bv:=z;have eb:=l_ M.2;have d2:=M.1;have d1:e.ip<U p.defs:=z;have cu:=M.2;have d5:(o:Int)<U d.rules:=z;refine ax (HF λG ag=>?_);have aa:∀b,AE a b=Z->G.get b=k.get b:=λb a5=>by have dn:=AN a5;exact Ba
    have bo:G.get (0::0::a)=J (.box (pC p)):=by rw[ag];simp only[go_sem]
    have b8:G.get (0::1::a)=J (.box [nI (-1),nI i,nI o,.d (.co (cm.map AX))]):=by rw[ag];simp only[go_sem]
    have gt:G.get (0::14::a)=J (.box (sC t)):=by rw[ag];simp only[go_sem]
    have b7:G.get (1::20::a)=J (.map []):=by rw[ag];simp only[go_sem]
    have b6:G.get (0::34::a)=J (.box [nI e.ip,nI e.at_,.d (.co (e.env.map BC))]):=by rw[ag];simp only[go_sem]
    have bs:=ac.1.mono λi T=>aa i (F.1 i T);clear ag c8;have cv:=a4.ip;rw[b']at cv;cases cv;have a0:=Oy w.1 A.1 O a4 (AP cc);have c9:AR (∀c∈L.d7,Bq kT 89 [pA p,.agg [nI e.ip,nI e.at_,.d (.co (e.env.map BC))],nI c] []=.ok (.ret (nI (e.own d X c)),[])):=⟨λc ar=>ALH M.1 M.2 (OX a4) (R.1.group e (AP O)) (a0.join c ar).1 (a0.join c ar).2.1⟩;have ea:=a0.j1;have de:AR (∀c∈L.d7,0<=e.own d X c):=⟨λc ar=>(a0.join c ar).2.2.1⟩;refine bQ ?_ a0 a4 M aa bs bx;clear a0 a4 M aa bs bx;intro a0 a4 M aa bs bx;clear av;refine Aj L.d7 (B0:=λb (a3:S×Nat)=>⟨[(0,.ptr B 0),(4,.ptr (0::0::a) 0),(5,.ptr (0::1::a) 0),(7,.ptr (0::14::a) 0),(10,.mp (1::20::a)),(11,.ptr (0::34::a) 0),(52,.d (.co (L.d7.map AX))),(53,nI (U L.d7)),(54,nI b)],a3.1,a3.2,[]⟩)
     (Inv:=λb en a3=>AR (50<=a3.2/\(∃bc,a3.1.get (1::20::a)=J (.map bc)/\rM bc λr=>Ji d e r (L.d7.take b))/\∀q,q≠1::20::a->a3.1.get q=G.get q)) (b0:=(G,50)) ⟨D2 _,⟨[],b7,np⟩,λ_ _=>rfl⟩ ?_ ?_
    .rintro b c ⟨H,c5⟩ ar a5 dd cd cp;have⟨hb2,⟨bc,a6,D⟩,g⟩:=cd.1;dsimp only at hb2 a6 D g;have et:SE.wrap ((b:Int)+1)=(b:Int)+1:=w_ z z;have cq:=AP ar;have c':=c9.1 c cq;have b2:=de.1 c cq;have cs:=(g (0::0::a) AG).trans bo;have d3:=(g (0::34::a) AG).trans b6;obtain⟨r,be⟩:∃r:Nat,(r:Int)=e.own d X c:=⟨_,Hw b2⟩;rw[<-be]at c';have cx:=D.get r;have dc:=kF d e r (L.d7.take b);rw[F3]at dc;have c2:AR (∀m:Int,m=((Ji d e r (L.d7.take b)+1:Nat):Int)->rM (Cj bc (.int .i64 (r:Int)) (nI m)) λr=>Ji d e r (L.d7.take (b+1))):=⟨λm a6=>D.set a6 λi=>by rw[Ex,ar,Option.toList_some,zf,<-be,Es]⟩
     generalize Ji d e r (L.d7.take b)=K at*;refine Zt ?_ D g be b2;clear D g be b2;intro D g be b2;clear bo b8 gt b7 b6;by_cases c0:K=0
     .rw[D4 c0]at cx;exact zBS
     .rw[Co c0]at cx;exact zBS
    .rintro b ⟨H,c5⟩ a5 dd cd;have⟨hb2,⟨bc,a6,D⟩,g⟩:=cd.1;dsimp only at hb2 a6 D g;have b1:=a5.1;rw[b1,F2]at D;have cs:=(g (0::0::a) AG).trans bo;have d6:=(g (0::1::a) AG).trans b8;have c7:=(g (0::14::a) AG).trans gt;have ai:=bs.1.mono λi T=>g i λC=>by have:=F.1 i T;rw[C,show AE a (1::20::a)=X from Aq [1,20]]at this;cases this
     have⟨l,hl⟩:=g_ (l:=ge) (i:=i) (by rw[N.1];exact T);have⟨bl,b5⟩:=az.1 i l e hl O;rw[KC,cu,Gs,F7]at bl;have⟨a',hv⟩:=g_ (l:=h) (i:=i) (by rw[ai.len];exact l_ hl);have⟨K,hn⟩:=g_ (l:=l) (i:=o) (by rw[bl];exact dm);have⟨n0,n1⟩:=b5 K (AP hn);obtain⟨v,rfl,d9⟩:∃v,a'=.ii v 0 (U l)/\H.get v=J (.f8 1 (l.map AX)):=by
      rcases ai.each i a' l hv hl with⟨_,ad⟩|ad
      .rw[ad]at hn;simp at hn
      .exact ad
     obtain⟨er,b3,d'⟩:∃v,j=.ii v 0 (U ge)/\H.get v=J (.arr 1 (h.map λa'=>[a'])):=by
      rcases ai.rx with⟨_,ad⟩|ad
      .rw[ad]at hv;simp at hv
      .exact ad
     have c6:=ai.box;rw[b3]at c6;have dj:(h.map λa'=>[a'])[i]?=J [.ii v 0 (U l)]:=by rw[Be,hv];rfl
     have ej:=l_ dj;have ef:=l_ hl;have ek:=l_ hv;have ec:=l_ hn;have bh:=ai.incR (l':=l.set o (K+1)) hl hv (by rw[Kw]);have bk:l.set o (K+1)=P4 l o:=by rw[P4,hn]
     rw[bk]at bh;have b0:(l.map AX).set o [.int .i64 (K+1)]=(P4 l o).map AX:=by rw[<-bk,I2];rfl
     have b4:LB ge ⟨-1,i,o,cm⟩=ge.set i (P4 l o):=by rw[LB,D4 bn];simp[hl]
     have W:C4 p s ⟨-1,i,o,cm⟩=λr=>Ji d e r L.d7:=by funext r;rw[C4,D4 bn];simp[O,cu,cc]
     have uid:=F.1 v (by simp[Dk (AP hv) (show v∈AD (.ii v 0 (U l)) by simp[AD])]);have el:=AN uid;have em:=Av uid;replace D:=AB D;replace g:=AB g;replace ai:=AB ai;refine xp ?_ bh b4 W b1 b3 bl b5 bk b0;clear bh b4 W b1 b3 bl b5 bk b0;intro bh b4 W b1 b3 bl b5 bk b0;clear bo b8 gt b7 b6;refine ax ?_;rw[b0.1,bv.1,b4.1];have ch:∀q,AE a q=X->(H.put v (.f8 1 ((P4 l o).map AX))).get q=H.get q:=λq Y=>BU _ _ λC=>by grind
     refine xX w.1 A.1 a2.1 bi.1 bh.1 F.1 V.1 (by rw[Kw];exact N.1) P.1 z ?_ ?_ ?_ ?_ ((ch _ (Aq [0,0])).trans cs) ((ch _ (Aq [0,14])).trans c7) ((ch _ (Aq [1,20])).trans a6) (by rw[W.1];exact D.1) (λr=>by rw[W.1];grind [kF]) λq cn dr=>?_
     .simp only[go_sem]
     .simp only[go_sem]
     .simp only[go_sem]
     .simp only[go_sem]
     .have Y:q≠v:=λC=>dr (by rw[C];simp[Dk (AP hv) (show v∈AD (.ii v 0 (U l)) by simp[AD])])
      rw[BU _ _ λC=>Y C,g.1 q λC=>by rw[C,show AE a (1::20::a)=X from Aq [1,20]]at cn;cases cn]
      exact aa.1 q cn
end
section
variable{h f:S}{B A:u}{q:u}{p:CW}{a:u->Option u}{n:Nat}{s:BQ}{jp:Al}{ge:List Al}{k o:y}{j:List y}
abbrev Ec(B:u)(k o:y)(j:List y):List u:=B::(AD k++(AD o++Ab j))
def XN(a:y):Prop:=(∃e,a=.d e)\/a=.d9\/a=.emp\/∃b c,a=.ii b 0 c
variable{v:y}
def B6.flat{b:S}{e:Al}(h:B6 b v e):XN v:=by
 rcases h with⟨a|a,_⟩|⟨c,a,_⟩
 .exact .inr (.inl a)
 .exact .inr (.inr (.inl a))
 .exact .inr (.inr (.inr ⟨c,_,a⟩))
def EH.fc(h:EH f B s jp ge k o j):XN k:=by
 rcases h.jp with⟨a,_⟩|⟨b,a,_⟩
 .exact .inr (.inl a)
 .exact .inr (.inr (.inr ⟨b,_,a⟩))
def EH.fr(h:EH f B s jp ge k o j):XN o:=by
 rcases h.rx with⟨a,_⟩|⟨b,a,_⟩
 .exact .inr (.inl a)
 .exact .inr (.inr (.inr ⟨b,_,a⟩))
def EH.fv(h:EH f B s jp ge k o j):∀v∈j,XN v:=λv c=>by obtain⟨b,a⟩:=Ce c;have⟨l,hl⟩:=g_ (l:=ge) (i:=b) (by rw[<-h.len];exact l_ a);exact(h.each b v l a hl).flat
theorem YP(h:XN v):(AD v).length<=1:=by rcases h with⟨c,rfl⟩|rfl|rfl|⟨a,b,rfl⟩<;>simp[AD]
theorem AJ6:∀{l:List y},(∀v∈l,XN v)->(Ab l).length<=(U l)
 :=by intro x;induction x<;>grind [Ab,YP]
def mj:∀{b:List y},(∀v∈b,XN v)->(∀i∈Ab b,∃g,a i=J g)->Ab (b.map (ren a))=(Ab b).map (nu a)
 |[],_,_=>rfl|v::b,h,hν=>by rw[By,Ab,Ab,Ap,Ml (h v (CO ..)) λi c=>hν i zC6,mj (λf e=>h f (Bi _ e)) λi c=>hν i zC6]
theorem xb{A9:u}:∀{l:List y},A9∈Ab l->∃v∈l,A9∈AD v
 :=by intro x;induction x<;>grind [Ab]
def EH.q_z(c:EH h B s jp ge k o j)(e:∀i∈Ec B k o j,∃f,a i=J f):Ec (nu a B) (ren a k) (ren a o) (j.map (ren a))=(Ec B k o j).map (nu a):=by simp only[Ec,By,Ap];rw[Ml c.fc λi b=>e i (by simp[b]),Ml c.fr λi b=>e i (by simp[b]),mj c.fv λi b=>e i (by simp[b])]
theorem EH.ren(e:EH h B s jp ge k o j)(m:JH q h p a f n)(g:∀i∈Ec B k o j,∃b,a i=J b):EH f (nu a B) s jp ge (Abs.ren a k) (Abs.ren a o) (j.map (Abs.ren a)):=by
 have⟨zB,hB⟩:=g B AG;refine⟨?_,?_,?_,by rw[BV];exact e.len,λx v N t H=>?_,?_⟩
 .rw[KP hB];have:=m.get B zB _ hB e.box;exact Ba
 .rcases e.jp with⟨rfl,l⟩|⟨c,rfl,r⟩
  .exact .inl ⟨rfl,l⟩
  .have⟨b,hz⟩:=g c Az;exact zB4
 .rcases e.rx with⟨rfl,l⟩|⟨c,rfl,r⟩
  .exact .inl ⟨rfl,by rw[l];rfl⟩
  .have⟨b,hz⟩:=g c Az;refine .inr ⟨b,by simp[Abs.ren,hz],?_⟩;have:=m.get c b _ hz r;rw[this,Eb,Ol,Ol];exact Ba
 .rw[Be]at t;rcases hj2:j[x]? with _|A
  .rw[hj2]at t;cases t
  .rw[hj2]at t;cases t;have K:=λi (F:i∈AD A)=>g i (by simp[Dk (AP hj2) F]);rcases e.each x A N hj2 H with⟨rfl|rfl,l⟩|⟨c,rfl,r⟩
   .exact .inl ⟨.inl rfl,l⟩
   .exact .inl ⟨.inr rfl,l⟩
   .have⟨b,hz⟩:=K c Az;exact zB4
 .show(Ec (nu a B) (Abs.ren a k) (Abs.ren a o) (j.map (Abs.ren a))).Nodup;rw[e.q_z g];refine K9 e.nd λC L D M w=>?_;have⟨b,hz⟩:=g C L;have⟨z2,hz2⟩:=g D M;rw[KP hz,KP hz2]at w;subst w;exact m.inj C D b hz hz2
variable{K:Ah}{f h r:Nat}{x:KH}{Q:Di->St->Prop}{H:S}
theorem VX{aa:Fr}{E:CW}(p:CW)(A:List (u×List Ar))(a3:L0 E (cfg.live f r)=p) (m:EH H B s jp ge k o j) (be:U ge<=100) (ad:∀e∈A,H.get e.1=J (.box (e.2.map .d))/\e.1∉Ec B k o j) (ar:U A<=100) (bh:∀e∈CP p,e=B\/e∈A.map (·.1)) (az:B∈CP p) (a0:∀e∈A,e.1∈CP p)(a4:∀a L O T V P b,a B=J L->EH P L s jp ge O T V->(∀e∈A,∃t,a e.1=J t/\P.get t=J (.box (e.2.map .d))/\t∉Ec L O T V/\∃N w,w<b/\t=N::w::q)->(∀i∈Ec L O T V,∃N w,w<b/\i=N::w::q)->Ud cfg K aa h x ⟨p.map λav=>(av.1,ren a av.2),P,b,[]⟩ Q):Ud cfg K aa h x (HY cfg f q r E H) Q:=by
 rw[GR,a3];have⟨a,g',n,hc,hnM,hRen⟩:=KG q H p (A.map (·.1)++Ec B k o j) (by
  have a5:=YP m.fc;have a6:=YP m.fr;have a':=AJ6 m.fv;have bc:=m.len;grind) (λe c=>by
  grind) (λe c t l=>by
  rcases Ac.1 c with c|c
  .obtain⟨W,R,rfl⟩:=EX.1 c;rw[(ad W R).1,(xE W.2).1]at l;cases l
  refine Ac.2 (.inr ?_);simp at c⊢;rcases c with rfl|c|c|c
  .rw[m.box]at l;grind [Cu,Ab,AD]
  .rcases m.jp with⟨rfl,_⟩|⟨F,rfl,C⟩
   .cases c
   .rw[AD,AS]at c;rw[c,C]at l;cases l
  .rcases m.rx with⟨rfl,_⟩|⟨F,rfl,C⟩
   .cases c
   grind [AD,Cu,Ab,Dk]
  .have⟨v,hv,c⟩:=xb c;obtain⟨w,D⟩:=Ce hv;have⟨A,ar⟩:=g_ (l:=ge) (i:=w) (by rw[<-m.len];exact l_ D);rcases m.each w v A D ar with⟨rfl|rfl,_⟩|⟨F,rfl,C⟩
   .cases c
   .cases c
   .rw[AD,AS]at c;rw[c,C]at l;cases l)
 have⟨zB,hzB⟩:=hRen.env B az;have M:=hRen.deep B zB hzB;rw[m.box]at M;have ai:∀i∈Ec B k o j,∃t,a i=J t:=λi g=>by
  simp at g;rcases g with rfl|g|g|g
  .exact⟨_,hzB⟩
  .exact M i zDF
  .exact M i zDF
  .rcases m.rx with⟨_,ac⟩|⟨F,ac,C⟩
   .rw[ac]at g;cases g
   .have⟨t,l⟩:=M F (by grind [Cu,Ab,AD]);have Y:=hRen.deep F t l;rw[C]at Y;have⟨v,hv,g⟩:=xb g;exact Y i (BE.2 ⟨[v],EX.2 ⟨v,hv,rfl⟩,by simp[Ab,g]⟩)
 have key:∀i∈Ec zB (ren a k) (ren a o) (j.map (ren a)),∃e∈Ec B k o j,a e=J i:=λi g=>by rw[<-KP hzB,m.q_z ai]at g;grind [KP]
 rw[hc];refine a4 a zB _ _ _ g' n hzB (by rw[<-KP hzB];exact m.ren hRen ai) (λe c=>?_) λi g=>?_
 .have⟨t,l⟩:=hRen.env e.1 (a0 e c);have⟨a1,a2⟩:=ad e c;have ag:=hRen.get e.1 t _ l a1;rw[(xE e.2).2 a]at ag;refine⟨t,l,ag,λg=>?_,?_⟩
  .have⟨W,R,e2⟩:=key t g;exact a2 (hRen.inj _ _ _ l e2▸R)
  .have⟨w,D,e2⟩:=hRen.name _ _ l;exact⟨_,w,D,e2⟩
 .have⟨e,_,c⟩:=key i g;have⟨w,D,e2⟩:=hRen.name e i c;exact⟨_,w,D,e2⟩
theorem UE{v:Fr}{E:CW}{cs:List Ar}(p:CW)(O:L0 E (cfg.live f r)=p) (T:EH H B s jp ge k o j) (M:U ge<=100) (N:H.get A=J (.box (cs.map .d))) (P:A∉Ec B k o j) (aa:∀t∈CP p,t=A\/t=B) (F:B∈CP p) (L:A∈CP p)(R:∀a n c e l m g b,a A=J n->a B=J c->EH g c s jp ge e l m->g.get n=J (.box (cs.map .d))->n∉Ec c e l m->(∀i∈n::Ec c e l m,∃D w,w<b/\i=D::w::q)->Ud cfg K v h x ⟨p.map λC=>(C.1,ren a C.2),g,b,[]⟩ Q):Ud cfg K v h x (HY cfg f q r E H) Q:=VX p [(A,cs)] O T M (ee ⟨N,P⟩) AG (λt ad=>by grind) F (ee L) λa c e l m g b V W Y ag=>by have⟨A6,z1,z2,z3,z4⟩:=Y _ (CO ..);exact R a A6 c e l m g b z1 V W z2 z3 λi ac=>by grind
end
def Ua(e:BQ)(g:Nat)(f:List Au):Prop:=∀(b:Nat) q,g<=b->e.ac[b]?=J q->∃a l c,0<=q.group/\e.bv[q.group.toNat]?=J a/\0<=a.ip/\f[a.ip.toNat]?=J l/\0<=q.index/\l.ac[q.index.toNat]?=J c/\(c=2->(U q.queue)=1)
section
variable{p:Aa}{a:Al}{T:List Au}{D:List BJ}{B:ik}{i:Nat}{x:Su}
theorem ADv(o:Ao p a)(q:Dz p)(n:Fh p a D)(m:Da p a D T)(h:GM p T D B x.s [])(k:YA p a B i x){e:Dp}(r:HX p x.s e){j:Cy}(K:Cz p x.s e=J j){b:Nat}(F:U x.s.ac<=b):(Mw p x.s e B j.em).base b=0:=by
 have⟨hU1,ht⟩:=RR o q n m k.qr h r K;show B.base b+C4 p x.s e b+_=0;have M:CG x.s b=0:=by rw[CG,MT.2 z];rfl
 have O:C4 p x.s e b=0:=?_
 .rw[h.base0 b F,O,M];simp
 by_cases Q:b<U j.em.ac
 .cases r with|wait f g=>grind [C4]| @pp i L s d N t f g l A C=>have v:x.s.bv[((i:Nat):Int).toNat]?=J s:=f;have w:d.rules[((L:Nat):Int).toNat]?=J N:=l;rw[C4,D4 AZ];simp only[v,(Cr g).2,w];exact NU λc H P=>by have:=(RQ o q n m k.qr h f g l A C 0).2.1 c H;omega
 .have:=hU1.base0 b z;grind [Mw]
theorem yD{n:Nat}(r:Ao p a)(h:W1 p T)(e:YA p a B i x)(v:GM p T D B x.s [])(t:N4 p a D T)(s:∀b,n<=b->X0 p a D x.s b/\B.base b=0):Ua x.s n T:=λb w q m=>by
 have⟨j,c,g,d,ch,hc⟩:=Ed.chn e.qr.grp e.qr.tot m;have f:=Cr hc.st.ip;have⟨l,hu⟩:=g_ (l:=T) (i:=g.ip.toNat) (by rw[h.len];exact l_ f.2);have⟨s1,s2,_⟩:=h.each _ d l f.2 hu;have⟨k,hk⟩:=g_ (l:=l.ac) (i:=c) (by rw[s1];exact l_ hc.cha);have⟨g1,g2⟩:=s b q;refine⟨g,l,k,by rw[hc.group];omega,by rw[hc.group,Es];exact hc.grp,f.1,hu,by rw[hc.index];omega,by rw[hc.index,Es];exact hk,λA=>?_⟩;refine AGt e r v t g1 g2 m ?_;have o:DT x.s w=g.ip:=by rw[DT,hc.group,Es,hc.grp];rfl
 rw[o,hc.index,CB,hu];grind
end
def AQ1:DQ prog 8 92=J [.co 112]:=zCG
def APD:DQ prog 8 112=J [.co 108,.co 108,.co 109]:=zCG
def sa:DQ prog 8 108=J [.int .i64]:=zCG
def APC:DQ prog 8 109=J [.co 108]:=zCG
def AQ2:DQ prog 8 93=J [.co 105]:=zCG
def APB:DQ prog 8 105=J [.int .u16]:=zCG
def AOL:SJ 92=false:=zCG
def AOM:SJ 93=false:=zCG
def H7(n:Nat):List Ar:=[.int .u16 (n:Int)]
def ACE:Mb [.int .u16] H7 λf=>f<65536:=λg b=>by obtain⟨h,rfl,e⟩:=Ug b;cases e with|int j m a=>simp only[Lit.wf,As,D3]at a;have c:(0:Int)<=m:=a.1;have i:m<=65535:=a.2;exact⟨m.toNat,by rw[H7,Hw c],z⟩
def pb:Mb [.co 108] E7 λ_=>True:=λg b=>by obtain⟨a,rfl,c⟩:=Ug b;obtain⟨a,rfl,_,_⟩:=FT c sa Nn;exact⟨a,rfl,trivial⟩
def vN:Mb [.co 108,.co 108,.co 109] kf λ_=>True:=λg a=>by obtain⟨e,j,rfl,f,a⟩:=all_cons a;obtain⟨b,j,rfl,h,a⟩:=all_cons a;obtain⟨c,rfl,i⟩:=Ug a;obtain⟨e,rfl,_,_⟩:=FT f sa Nn;obtain⟨b,rfl,_,_⟩:=FT h sa Nn;obtain⟨c,rfl,_,_⟩:=FT i APC pb;exact⟨⟨e,b,c⟩,rfl,trivial⟩
def uC(T:List Au):List Ar:=[.co (T.map kf)]
def ACD:Mb [.co 112] uC λ_=>True:=λg b=>by obtain⟨a,rfl,c⟩:=Ug b;obtain⟨a,rfl,_,_⟩:=FT c APD vN;exact⟨a,rfl,trivial⟩
def z9(l:u):List Ar:=[.co (l.map H7)]
def pc:Mb [.co 105] z9 λb=>U b<=maxLen/\∀i∈b,i<65536:=λg c=>by obtain⟨a,rfl,h⟩:=Ug c;obtain⟨a,rfl,e,f⟩:=FT h APB ACE;exact⟨a,rfl,e,f⟩
attribute [go_sem] H7
def Vm(a:Aa)(b:Al)(D:List BJ)(f:Int)(c:Su):Prop:=∃B,YA a b B f.toNat c/\∀e,Da a b D e->GM a e D B c.s []
variable{a:Al}{D:List BJ}{i:Int}{x:Su}{T:List Au}{f:Dp}{g:Cy}
theorem tF{b:Aa}(m:Ao b a)(n:Dz b)(l:Fh b a D)(r:Da b a D T)(q:0<=i)(h:Vm b a D i x)(p:HX b x.s f)(o:Cz b x.s f=J g):Vm b a D (i+1) (PF b x f g.em):=by obtain⟨B,j,k⟩:=h;refine⟨Mw b x.s f B g.em,?_,λe c=>(RR m n l c j.qr (k e c) p o).1⟩;rw[show(i+1).toNat=i.toNat+1 by omega];grind [qK]
def U4{c:Aa}(e:Vm c a D i x):Ed c a x.s/\(U x.jp)=U x.s.ac/\(U x.ge)<=40/\(U x.ge)=U x.s.bv:=by obtain⟨B,b,g⟩:=e;have f:=b.qr.small;simp[BQ.small]at f;exact⟨b.qr,b.lc,by rw[b.lr];omega,b.lr⟩
def AAl{n:Aa}(o:Vm n a D i x)(s:i<=60):(∀b∈x.jp,0<=b/\b<=1000000)/\∀(c:Nat) e f,x.ge[c]?=J e->x.s.bv[c]?=J f->(U e)=KC n f/\∀b∈e,0<=b/\b<=1000000:=by
 obtain⟨B,g,r⟩:=o;refine⟨λb h=>?_,λc e f l k=>⟨(g.ge c e f l k).1,λb h=>?_⟩⟩
 .obtain⟨j,p⟩:=Ce h;have:=g.jp j b p;have:=g.num.all j;omega
 .obtain⟨m,q⟩:=Ce h;have:=(g.ge c e f l k).2 m b q;have:=g.rxn c m;omega
def nR(a:¬cJ T=X):N5 T:=by simp only[cJ,RC,D3,List.any_eq_true,not_or,not_exists,not_and]at a;obtain⟨k,f⟩:=a;refine⟨z,λl h=>?_⟩;have e:=f l h;simp only[B7,OW,RC,D3,List.any_eq_true,not_or,not_exists,not_and]at e;obtain⟨j,b,c,d⟩:=e;exact⟨z,z,z,λi g=>by have:=d i g;omega⟩
def AD6(b:Nat)(a:CW)(c:S)(f:Nat)(e:u)(ci:Option u)(h:Bool)(g:Nat):Fs cfg ⟨14,e,Z,ci,h,g⟩ b ⟨a,c,f,[]⟩=HY cfg 14 e b a c:=by rw[GR];exact LP _ _ _ _ _
attribute [go_sem 2000] AD6
def AII{a:DH}{K:Ah}{h:Fr}{g e c:Nat}{i:u}{x:KH}{f:CW}{H:S}{Q:Di->St->Prop}(j:∀b,b=H->Ud a K h e x (HY a g i c f b) Q):Ud a K h e x (HY a g i c f H) Q:=j H rfl
def tG{b:Aa}{e:List Au}(c:Ao b a)(l:Dz b)(k:Fh b a D)(j:Da b a D T)(r:Vm b a D i x)(q:Da b a D e)(t:N4 b a D e)(s:W1 b e)(n:HX b x.s f)(m:Cz b x.s f=J g):Ua (PF b x f g.em).s (U x.s.ac) e:=by obtain⟨B,h,o⟩:=r;exact yD c s (qK c l k j (o T j) h n m) (RR c l k q h.qr (o e q) n m).1 t λv p=>⟨AF7 c l k h.qr n m p,ADv c l k j (o T j) h n m p⟩
def ABp(h:Aa)(T:List Au)(s:u)(ar:∀P∈h.free,P.size<=maxLen)(he:U s<=maxLen)(be:∀f0∈s,f0<65536):Bq kT 14 [pA h,Dv T,.d (.co (s.map H7))] []=.ok (.ret (.d (.bool (X))),[]):=by
 have en:=AFy T;have fr:=yh h;by_cases bo:cJ T=X
 .rw[bo]at en;clear be bo;exact zBs
 have bh:=nR bo;rw[Bool.not_eq_true]at bo;rw[bo]at en;rcases hlk:looks h with _|lt
 .have c7:¬PN h=0:=by rw[PN,hlk];decide
  clear be bh bo;exact zBs
 .have c7:PN h=0:=by rw[PN,hlk]
  rw[c7]at fr;have r:=En hlk;have a6:=Oh hlk;have bl:=Qq a6 lt.eq;have⟨L,hL,hL2,ai⟩:=aQ ar hlk bh;have⟨T1,hT1,D,ag,c0⟩:=jF ar hlk;have cp:=iz r;rcases bn:JG h with _|g
  .rw[bn]at cp;simp[Yv,P9,sA,PA]at cp;clear be bh bo c7 D ag c0 hT1 ai bl a6;replace r:=AB r;exact zBs
  .rw[bn]at cp;simp[Yv,P9,sA]at cp;have b5:=(YM r bn).1;have b2:=AAJ r bn;have cm:∀e∈L,Ua (Mo h g.em [] []).s 0 e:=λe Y=>yD r (ai e Y).2.2 b2 (Zl r a6 bl (ai e Y).1 bn) (ai e Y).2.1 λf' _=>⟨ABK r a6 bl bn f',rfl⟩;have cl:∀e,Da h lt.eq (Dg h lt.eq) e->GM h e (Dg h lt.eq) hO g.em []:=λe V=>Zl r a6 bl V bn;clear bh bo c7 hT1 bn;generalize g.em=P at*;replace r:=AB r;replace ar:=AB ar;replace a6:=AB a6;replace bl:=AB bl;refine xp ?_ ai D ag c0 b5 b2 cl cm be;clear ai D ag c0 b5 b2 cl cm be;intro ai D ag c0 b5 b2 cl cm be;refine BM func14 ?_;refine ax ?_;obtain⟨cv,c3⟩:∃cv:S,cv=[([0,0],.box (pC h)),([0,25],.box (sC P)),([0,33],.box [.d (.co (P.be.map Ch)),.d (.co (P.bv.map Cf)),.d (.co (P.ac.map C0)),.d (.co (P.waits.map Bj)),.d9,.d9])]:=⟨_,rfl⟩;rw[<-c3];have fc:cv.get [0,0]=J (.box (pC h)):=by rw[c3];simp only[go_sem]
   have fl:EH cv [0,33] P [] [] .d9 .d9 []:=by refine⟨?_,.inl ⟨rfl,rfl⟩,.inl ⟨rfl,rfl⟩,rfl,λk ha hn g5=>by simp at g5,by simp[AD,Ab]⟩;rw[c3];simp only[go_sem]
   clear c3;refine Ak (oB r.1 b5.1 fl (by simp[AD,Ab];decide) (F9 _) (F9 _)) (λg8 b1 bi=>?_);obtain⟨rfl,t,w,C,F,ek,fz⟩:=bi;rw[G7,fS];have a5:EH (gc [37] b1) [0,33] (Mo h P [] []).s (Mo h P [] []).jp (Mo h P [] []).ge t w C:=F.mono λi ad=>by
    rcases DO.1 ad with rfl|ad
    .exact An _ _ _ Af
    .rcases ek i ad with q|⟨q,f7,rfl⟩
     .simp[AD,Ab]at q
     .exact FC _ _ _
   have a3:(gc [37] b1).get [0,0]=J (.box (pC h)):=(An _ _ _ Af).trans ((fz [0,0] Af (by simp[AD,Ab])).trans fc);have bc:[0,0] ∉Ec [0,33] t w C:=λad=>by
    rcases DO.1 ad with q|ad
    .simp at q
    .rcases ek _ ad with q|⟨q,f7,gq⟩
     .simp[AD,Ab]at q
     .simp at gq
   clear F ek fz fc fl;generalize gc [37] b1=G at*;have j:Vm h lt.eq (Dg h lt.eq) (-1) (Mo h P [] []):=⟨hO,b2.1,cl.1⟩;clear b2 cl;generalize Mo h P [] []=x at*;refine Zt ?_ a5 a3 bc j;clear a5 a3 bc j;intro a5 a3 bc j;refine ax ?_;have gl:=(U4 j.1).2.2.1;refine UE [(2,.d (.co (s.map H7))),(3,.ptr [0,0] 0),(7,.d (.co (L.map Ft))),(12,.ptr [0,33] 0),(13,nI 0),(14,nI (-1))] rfl a5.1 z (cs:=K3 h) a3.1 bc.1 zCH zCH zCH λbk A B b8 cq cs b' b V ch o fd fs n=>?_;simp[ren,V,ch];clear a5 a3 bc V ch cp hL fr en gl b5;refine rounds (B0:=λ(a:Int×Nat×Su×u×u×S×Nat)=>⟨[(2,.d (.co (s.map H7))),(3,.ptr a.2.2.2.1 0),(7,.d (.co (L.map Ft))),(12,.ptr a.2.2.2.2.1 0),(13,nI a.2.1),(14,nI a.1)],a.2.2.2.2.2.1,a.2.2.2.2.2.2,[]⟩)
    (Inv:=λa=> -1<=a.1/\a.1<=60/\a.1<=(U s)/\AR (Vm h lt.eq (Dg h lt.eq) a.1 a.2.2.1/\a.2.1<=(U a.2.2.1.s.ac)/\(a.1<0->∀e∈L,Ua a.2.2.1.s a.2.1 e)/\(0<=a.1->a.2.1=U a.2.2.1.s.ac)/\∃t w C,EH a.2.2.2.2.2.1 a.2.2.2.2.1 a.2.2.1.s a.2.2.1.jp a.2.2.1.ge t w C/\a.2.2.2.2.2.1.get a.2.2.2.1=J (.box (pC h))/\a.2.2.2.1∉Ec a.2.2.2.2.1 t w C/\∀i∈a.2.2.2.1::Ec a.2.2.2.2.1 t w C,∃c k,k<a.2.2.2.2.2.2/\i=c::k::[])) (m:=λa=>(60-a.1).toNat) (a:=(-1,0,x,A,B,b',b)) ⟨AZ,AZ,AZ,⟨j.1,F9 _,λ_=>cm.1,λcd=>absurd cd AZ,b8,cq,cs,o,fd,fs,n⟩⟩ ?_
   clear j cm o fd fs n bk t w C G b8 cq cs;clear A B b' b x;rintro⟨i,sn,x,A,B,b',b⟩ ⟨i1,i2,i3,hI⟩ IH;have⟨j,c9,c',dc,t,w,C,o,V,v,n⟩:=hI.1;dsimp only at*;refine M9 ?_ c9 c' dc;clear c9 c' dc;intro c9 c' dc;have hv:SE.wrap (i+1)=i+1:=w_ z z;obtain⟨M,fi⟩:∃M:Int,(if (60:Int)<(U s:Int)then(60:Int)else(U s:Int))=M:=⟨_,rfl⟩;by_cases g3:i<U s/\i<60
   .have g2:i<M:=by rw[<-fi];split<;>omega
    obtain⟨hg,hh⟩:=g3;have⟨N,a0,lr,a1⟩:=U4 j;by_cases ef:i<0
    focus
     have eg:¬(0<=i):=z;refine gX ?_ j o v n N a0 a1;clear j o v n N a0 a1;intro j o v n N a0 a1;obtain⟨m,g6⟩:∃m,m=x:=⟨x,rfl⟩;subst g6;have a4:Vm h lt.eq (Dg h lt.eq) (i+1) m:=by have⟨Bn,u1,u2⟩:=j.1;rw[show i.toNat=0 by omega]at u1;exact⟨Bn,by rw[show(i+1).toNat=0 by omega];exact u1,u2⟩
     have cn:AR (sn<=(U m.s.ac)/\∀e∈L,Ua m.s sn e):=⟨c9.1,c'.1 ef⟩;have F:=o.1;have a2:=V;have a':=v.1;refine Zt ?_ a4 F a2 a';clear a4 F a2 a';intro a4 F a2 a';refine ax ?_
     skip
    rotate_left 1
    have eg:0<=i:=z;have e9:=o.box;have hk:=rN r.1 N;by_cases hm:(Et h x.s).length=0
    focus
     clear ef;refine gX ?_ j o v n N a0 a1;clear j o v n N a0 a1;intro j o v n N a0 a1;refine ax ?_;rw[Sy 1 0 _ rfl];exact af
    have⟨O,em⟩:=g_ (l:=s) (i:=i.toNat) z;have el:=be.1 O (AP em);have hf:SE.wrap (O:Int)=O:=w_ z z;have g4:O % (Et h x.s).length<(Et h x.s).length:=Nat.mod_lt _ z;have hl:Int.tmod (O:Int) ((Et h x.s).length:Int)=((O % (Et h x.s).length:Nat):Int):=rfl;have⟨f,az⟩:=g_ g4;have bx:=AK1.1 (AP az);have hj:¬((Et h x.s).length:Int)=0:=z;have hi:((O % (Et h x.s).length:Nat):Int)<((Et h x.s).length:Int):=z;generalize O % (Et h x.s).length=f0 at*;clear ef;refine xp ?_ j o v n N a0 a1 el bx;clear j o v n N a0 a1 el bx;intro j o v n N a0 a1 el bx
    (repeat' (first|simp only[*,go_sem,AM]|(refine sx ?_ ?_<;>intro b3)|refine sy z λx dd bh=>?_|simp(disch:=first|assumption|omega) only[Ad]))
    have⟨c6,c8⟩:=AAl j.1 i2;refine Fw (AFP r.1 N.1 (vf hlk (ANc N.1)) bx.1 o.1 (λk bv=>GU (n.1 k (Bi _ bv)) z) a0.1 a1.1 c6 c8) λg8 b1 bi=>?_;unfold PS at bi;rcases b4:Cz h x.s f with _|b6
    .rw[b4]at bi;dsimp only at bi;subst bi;replace c6:=AB c6;replace c8:=AB c8;clear e9 em az;refine ax ?_;rw[Sy 1 0 _ rfl];exact af
    rw[b4]at bi;dsimp only at bi;obtain⟨rfl,b8,cq,cs,fo,ej,fv⟩:=bi;have a4:=tF r.1 a6.1 bl.1 D.1 eg j.1 bx.1 b4;have cn:sn<=(PF h x f b6.em).s.ac.length/\∀e∈L,Ua (PF h x f b6.em).s sn e:=by rw[dc.1 eg];exact⟨(MQ r.1 N.1 bx.1 b4).1.cl,λe Y=>tG r.1 a6.1 bl.1 D.1 j.1 (ai.1 e Y).1 (ai.1 e Y).2.1 (ai.1 e Y).2.2 bx.1 b4⟩
    replace cn:=AB cn;rw[pV,v5];have uA:=GU (k:=b+31) (n.1 A (CO ..)) z;have F:EH (gc [b+31] b1) B (PF h x f b6.em).s (PF h x f b6.em).jp (PF h x f b6.em).ge b8 cq cs:=fo.mono λk bv=>by
     rcases DO.1 bv with rfl|bv
     .exact An _ _ _ (GU (n.1 _ (Bi _ (CO ..))) z)
     .rcases ej k bv with q|⟨q,f7,rfl⟩
      .exact An _ _ _ (GU (n.1 k (Bi _ (Bi _ q))) z)
      .exact FC _ _ _
    have a2:=(An _ _ _ uA).trans ((fv A uA v.1).trans V);have a':A∉Ec B b8 cq cs:=λad=>by
     rcases DO.1 ad with q|ad
     .exact v.1 (by rw[q];simp)
     .rcases ej _ ad with q|⟨q,_⟩
      .exact v.1 (Bi _ q)
      .rw[uA]at q;cases q
    clear fo ej fv b4 c6 c8 e9 em az;generalize gc [b+31] b1=G at*;generalize PF h x f b6.em=m at*;refine Zt ?_ a4 F a2 a';clear a4 F a2 a';intro a4 F a2 a';clear V
    (repeat' (first|simp only[*,go_sem,AM]|(refine sx ?_ ?_<;>intro b3)|refine sy z λx dd bh=>?_|simp(disch:=first|assumption|omega) only[Ad]))
    skip
    all_goals
     have gn:=F.1.box;have gh:=λb'=>SZ (g:=b') (f:=C0) (sz:=4) (λ_=>rfl) cn.1.1;refine ax ?_;have gv:AR (∀e∈L,∀(c:Nat) p,(m.s.ac.drop sn)[c]?=J p->∃cc l O,0<=p.group/\m.s.bv[p.group.toNat]?=J cc/\0<=cc.ip/\e[cc.ip.toNat]?=J l/\0<=p.index/\l.ac[p.index.toNat]?=J O/\(O=2->(U p.queue)=1)):=⟨λe Y c p er=>cn.1.2 e Y (sn+c) p z (by rwa [SP]at er)⟩;have⟨c1,et,g40,ex⟩:=U4 a4.1;have ho:(m.s.ac.drop sn).length<=60:=by have:=c1.small;simp[BQ.small]at this;rw[Is];omega
     refine M9 ?_ c1 et ex;clear c1 et ex;intro c1 et ex;refine UE [(2,.d (.co (s.map H7))),(3,.ptr A 0),(7,.d (.co (L.map Ft))),(12,.ptr B 0),(14,nI i),(92,.d (.co ((m.s.ac.drop sn).map C0))),(93,nI ((m.s.ac.drop sn).length)),(94,nI 0)] rfl F.1 z (cs:=K3 h) a2.1 a'.1 zCH zCH zCH λbk dj dn d2 e2 e5 d5 dx V ch a5 a3 bc d'=>?_;simp only[By,Ci,ren,V,ch];generalize m.s.ac.drop sn=DC at*;clear F a2 a' V ch gn gh;refine Aj DC (B0:=λk (a:u×u×S×Nat)=>⟨[(2,.d (.co (s.map H7))),(3,.ptr a.1 0),(7,.d (.co (L.map Ft))),(12,.ptr a.2.1 0),(14,nI i),(92,.d (.co (DC.map C0))),(93,nI (U DC)),(94,nI k)],a.2.2.1,a.2.2.2,[]⟩)
      (Inv:=λk g9 a=>AR (∃t w C,EH a.2.2.1 a.2.1 m.s m.jp m.ge t w C/\a.2.2.1.get a.1=J (.box (pC h))/\a.1∉Ec a.2.1 t w C/\∀i∈a.1::Ec a.2.1 t w C,∃c k,k<a.2.2.2/\i=c::k::[])) (b0:=(dj,dn,d5,dx)) ⟨d2,e2,e5,a5,a3,bc,d'⟩ ?_ ?_
     .clear a5 a3 bc d' d2 e2 e5 d5 dx dj dn bk;rintro c p ⟨b0,cu,e8,bs⟩ er b3 gw c4 ga;have⟨cv5,rv5,vs5,K,hA5,R,W⟩:=c4.1;dsimp only at K hA5 R W;have hw:SE.wrap ((c:Int)+1)=(c:Int)+1:=w_ z z;refine M9 ?_ K R W;clear K R W;intro K R W
      (repeat' (first|simp only[*,go_sem,AM,Ft]|(refine sx ?_ ?_<;>intro b3)|refine sy z λx dd bh=>?_|simp(disch:=first|assumption|omega) only[Ad]))
      refine AII λH d8=>?_;have de:∀f∈b0::Ec cu cv5 rv5 vs5,f≠ [0,bs+3]:=λf az gi=>by have⟨l,ha,h1,h2⟩:=W.1 f az;rw[gi]at h2;simp at h2;omega
      have es:∀f,f≠ [0,bs+3]->H.get f=e8.get f:=λf az=>by rw[d8,BU _ _ az,BU _ _ az]
      have e':H.get [0,bs+3]=J (.box ((C0 p).map .d)):=by rw[d8];simp only[go_sem]
      have c5:=K.1.mono λf az=>es f (de f (Bi _ az));have c2:=(es _ (de _ (CO ..))).trans hA5;clear d8 es hA5;refine VX [(2,.d (.co (s.map H7))),(3,.ptr b0 0),(7,.d (.co (L.map Ft))),(12,.ptr cu 0),(14,nI i),(17,.ptr [0,bs+3] 0),(92,.d (.co (DC.map C0))),(93,nI (U DC)),(94,nI c),(98,.d (.co (L.map Ft))),(99,nI (U L)),(100,nI 0)] [(b0,K3 h),([0,bs+3],C0 p)] rfl c5 z (wy ⟨c2,R.1⟩ (ee ⟨e',λcd=>de _ (Bi _ cd) rfl⟩)) AG zCH zCH zCH λbk dq d3 e3 e6 d6 d0 df ea ec g7=>?_;have⟨A7,qA,D,ag,a3'⟩:=ec (b0,K3 h) AG;have⟨X7,qX,x1,x3,x4'⟩:=ec ([0,bs+3],C0 p) AG;simp only at qA qX D x1;simp[ren,qA,df,qX];clear a3' x4' g7 ec de e' c5 c2 K R W qA df qX c4 bk;refine Aj L (B0:=λk (a:u×u×u×S×Nat)=>⟨[(2,.d (.co (s.map H7))),(3,.ptr a.1 0),(7,.d (.co (L.map Ft))),(12,.ptr a.2.1 0),(14,nI i),(17,.ptr a.2.2.1 0),(92,.d (.co (DC.map C0))),(93,nI (U DC)),(94,nI c),(98,.d (.co (L.map Ft))),(99,nI (U L)),(100,nI k)],a.2.2.2.1,a.2.2.2.2,[]⟩)
       (Inv:=λk g9 a=>AR (∃t w C,EH a.2.2.2.1 a.2.1 m.s m.jp m.ge t w C/\a.2.2.2.1.get a.1=J (.box (pC h))/\a.1∉Ec a.2.1 t w C/\a.2.2.2.1.get a.2.2.1=J (.box ((C0 p).map .d))/\a.2.2.1∉Ec a.2.1 t w C)) (b0:=(A7,dq,X7,d6,d0)) ⟨d3,e3,e6,ea,D,ag,x1,x3⟩ ?_ ?_
      .clear ea D ag x1 x3 d3 e3 e6 d6 d0 A7 dq X7;rintro k e ⟨b7,dr,cx,gm,gf⟩ Y bv g1 d9 gb;have⟨cv8,rv8,vs8,Q,hA8,ac,aa,av⟩:=d9.1;dsimp only at Q hA8 ac aa av;have hx:SE.wrap ((k:Int)+1)=(k:Int)+1:=w_ z z;have⟨cc,l,O,f1,f2,f3,f4,f5,f6,b9⟩:=gv.1 e (AP Y) c p er;have hp:=l_ f2;have hq:=l_ f4;have hr:=l_ f6;have hs:p.group<U m.s.bv:=z;have ht:cc.ip<U e:=z;have hu:p.index<U l.ac:=z;have hd:=Q.box;have gp:=aa;simp[C0]at gp;refine Zt ?_ Q ac aa av;clear Q ac aa av;intro Q ac aa av;by_cases be:O=2
       focus
        have b5:=b9 be;replace b9:=AB b9
        (repeat' (first|simp only[*,go_sem,AM,Ft]|(refine sx ?_ ?_<;>intro b3)|refine sy z λx dd bh=>?_|simp(disch:=first|assumption|omega) only[Ad]))
        skip
       rotate_left 1
       focus
        replace b9:=AB b9
        (repeat' (first|simp only[*,go_sem,AM,Ft]|(refine sx ?_ ?_<;>intro b3)|refine sy z λx dd bh=>?_|simp(disch:=first|assumption|omega) only[Ad]))
        skip
       all_goals
        refine VX [(2,.d (.co (s.map H7))),(3,.ptr b7 0),(7,.d (.co (L.map Ft))),(12,.ptr dr 0),(14,nI i),(17,.ptr cx 0),(92,.d (.co (DC.map C0))),(93,nI (U DC)),(94,nI c),(98,.d (.co (L.map Ft))),(99,nI (U L)),(100,nI ((k:Int)+1))] [(b7,K3 h),(cx,C0 p)] rfl Q.1 z (wy ⟨hA8,ac.1⟩ (ee ⟨aa.1,av.1⟩)) AG zCH zCH zCH λbk ds d4 e4 e7 d7 d1 df eb fp _=>?_;have⟨dm,qA,D,ag,_⟩:=fp (b7,K3 h) AG;have⟨X9,qX,x1,x3,_⟩:=fp (cx,C0 p) AG;simp only at qA qX D x1;simp[ren,qA,df,qX];exact gb.1 (dm,ds,X9,d7,d1) ⟨d4,e4,e7,eb,D,ag,x1,x3⟩
      .clear ea D ag x1 x3 d3 e3 e6 d6 d0 A7 dq X7;rintro k ⟨b7,dr,cx,gm,gf⟩ bv g1 d9;have⟨cv8,rv8,vs8,Q,hA8,ac,aa,av⟩:=d9.1;dsimp only at Q hA8 ac aa av;refine Zt ?_ Q ac aa av;clear Q ac aa av;intro Q ac aa av;refine ax (UE [(2,.d (.co (s.map H7))),(3,.ptr b7 0),(7,.d (.co (L.map Ft))),(12,.ptr dr 0),(14,nI i),(92,.d (.co (DC.map C0))),(93,nI (U DC)),(94,nI ((c:Int)+1))] rfl Q.1 z (cs:=K3 h) hA8 ac.1 zCH zCH zCH λbk dm ds d4 e4 e7 d7 d1 e0 e1 eb gr g0 gu=>?_);simp[ren,e0,e1];exact ga.1 (dm,ds,d7,d1) ⟨d4,e4,e7,eb,gr,g0,gu⟩
     .clear a5 a3 bc d' d2 e2 e5 d5 dx dj dn bk;rintro c ⟨b0,cu,e8,bs⟩ b3 gw c4;have⟨cv5,rv5,vs5,K,hA5,R,W⟩:=c4.1;dsimp only at K hA5 R W;have hc:=K.box;refine M9 ?_ K R W;clear K R W;intro K R W;refine ax (UE [(2,.d (.co (s.map H7))),(3,.ptr b0 0),(7,.d (.co (L.map Ft))),(12,.ptr cu 0),(13,nI (U m.s.ac)),(14,nI (i+1))] rfl K.1 z (cs:=K3 h) hA5 R.1 zCH zCH zCH λbk f8 f9 gg g' hb gk gd e0 e1 c5 c2 gz gs=>?_);simp[ren,e0,e1];exact IH.1 (i+1,U m.s.ac,m,f8,f9,gk,gd) AZ ⟨AZ,AZ,AZ,⟨a4.1,D2 _,λcd=>absurd cd AZ,λ_=>rfl,gg,g',hb,c5,c2,gz,gs⟩⟩
   .have g2:¬(i<M):=by rw[<-fi];split<;>omega
    refine Zt ?_ j o v n;clear j o v n;intro j o v n;exact af
