/- P -/
import Derived.Test.YtbinfhpngacfgaaGreatUs17
set_option linter.all false
set_option maxRecDepth 99999
set_option maxHeartbeats 0
open Go renaming TypeId->H5
open List renaming map->V5,take->WA,drop->WY,length->U
open Go.IntKind renaming i64->TC
open Option renaming some->J,none->I
open Bool renaming true->X,false->Z
namespace Go
variable{p:Prop}
def zCn(h:p:=by rw[F.1];simp[AE]):p:=h
def zCw(h:p:=by simp only[AE,AS]at C;subst C;exact Ta (n:=b+83) z (under_iff.2 ⟨[1],rfl⟩)):p:=h
def zCx(h:p:=by rw[cc];simp[AE]):p:=h
def zC5(h:p:=by simp only[AE,AS]at C;subst C;exact h.1.run.new x.1 1 _ z):p:=h
end Go
namespace Go
variable{p:Prop}
def zAD(h:p:=by obtain⟨az,a6,bn,bo,bs,bv,bx⟩:=c0;replace az:q.get 0=.ptr m 0:=az;replace a6:q.get 3=.ptr (0::0::π) 0:=a6;replace bn:q.get 4=.ptr (0::10::π) 0:=bn;replace bo:q.get 6=.ptr (0::29::π) 0:=bo;replace bs:q.get 7=(nI T):=bs;replace bv:q.get 8=_:=bv;replace bx:q.get 9=(nI aa):=bx;replace fn:=AB fn;clear be ac ad bh;refine ax ?_;exact ek.1 ((_,_),b+70) fn.1):p:=h
def zAb(h:p:=by have x:=Ax c 0 8 Ad Ad;have C:=Ax c 1 19 Ad Ad;have D:=Ax c 1 28 Ad Ad;simp only[go_sem,x,C,D,n,AM]):p:=h
def zAf(h:p:=by exact .inr λl N=>by simp only[AE,AS]at N;subst N;exact⟨DV (b+73) [1] z z,_,rfl⟩):p:=h
def zAr(h:p:=by have P:=Ax r 1 (b+72) z z;have a2:=Ax r 1 (b+73) z z;have b8:=HB r 1 3 (b+83) z z;have e':=HB r 1 3 (b+70) z z;have fc:=Ax r 1 (b+85) z z;have c9:=Y E zCn;exact BZ):p:=h
def zBG(h:p:=by obtain⟨b,h,rfl,e,a⟩:=all_cons a;obtain⟨c,rfl,f⟩:=UJ a;obtain⟨b,rfl⟩:=Hi e;obtain⟨c,rfl⟩:=Hi f;exact⟨⟨b,c⟩,rfl,trivial⟩):p:=h
def zBP(h:p:=by replace l:=AB l;refine aw (lh (Fi h.1 λb r=>?_));have⟨w1,w2⟩:=C.1 b r;rw[p_,AI (λw=>w1 w.symm),An _ _ _ w2,l.1 b w2];rfl):p:=h
def zBR(h:p:=by refine ax ?_;exact cq.1 (_,_) ⟨AZ,⟨_,by rw[p_,is_self];rfl,c3.1 _ z⟩,λr aa=>by rw[BW _ _ λD=>aa D];exact g.1 r aa⟩):p:=h
def zBS(h:p:=by replace f:=AB f;refine aw (lh (Fi e.1 λh v=>?_));have⟨D,w2⟩:=o.1 h v;rw[p_,AI (λb=>D b.symm),An _ _ _ w2,f.1 h w2];rfl):p:=h
def zBV(h:p:=by have P:=Ax r 1 (b+72) z z;have a2:=Ax r 1 (b+73) z z;have b8:=HB r 1 3 (b+83) z z;have c9:=Y E zCn;exact BZ):p:=h
def zBb(h:p:=by simp only[go_sem,bi,av,ch,cl,d8,c8,d9,d',ds,ea,bk,b5,c1,c2,cs,cu,(show¬b+12=b by omega),e6,ej,AM];first|done|rfl):p:=h
def zBj(h:p:=by have:=Bw (n':=f) D (c▸under_iff.2 ⟨[a,k],rfl⟩);omega):p:=h
def zBk(h:p:=by rw[B.1];rw[B.1]at aa;refine ah m.1 aa λO T K=>?_;have F:=bn.1 O T K;rw[<-q];simp only[go_sem,F,Dp K,AM]):p:=h
def zBl(h:p:=by
 rcases ag.1 b F with rfl|p
 .exact⟨(by intro w;cases w),rfl⟩
 .exact⟨(by rintro rfl;cases p),gJ p Ad⟩):p:=h
def zBp(h:p:=by
 rcases bJ C with rfl|rfl
 .exact⟨(by intro b;cases b),rfl⟩
 .exact⟨(by intro b;cases b),rfl⟩):p:=h
def zBy(h:p:=by replace H:=AB H;refine BH func13 ?_;exact af):p:=h
def zB6(h:p:=by refine .inr ⟨b,by simp[Abs.ren,hz],?_⟩;have:=n.get c b _ hz r;simpa[EO]using this):p:=h
end Go
namespace Go.Proofs
open Abs Tryz
def MM{c:Type}(f:List Sh)(e:c->List Au)(ok:c->Prop):Prop:=∀b,Np prog 8 f b->∃a,b=e a/\ok a
variable{d:Au}
def Hi{k:IntKind}(h:qS prog 8 (.int k) d):∃m,d=.int k m:=by cases h;exact⟨_,rfl⟩
variable{h:Type}{t:H5}{a:List Sh}
def FJ{i:h->List Au}{ok:h->Prop}(o:qS prog 8 (.co t) d)(w:DE prog 8 t=J a)(v:MM a i ok):∃b:List h,d=.co (b.map i)/\(U b)<=maxLen/\∀f∈b,ok f:=by
 cases o with
 |co _ A e l p q r=>
  rw[w]at l;cases l;have key:∀e:List (List Au),(∀c∈e,Np prog 8 a c)->∃b:List h,e=b.map i/\∀f∈b,ok f:=by intro e;induction e with|nil=>intro _;exact⟨[],rfl,AG⟩|cons c e x=>intro m;obtain⟨f,rfl,s⟩:=v c (m c AG);obtain⟨b,rfl,k⟩:=x λc g=>m c zDF;exact⟨f::b,rfl,λn j=>by rcases Cs.1 j with rfl|j;exact s;exact k n j⟩
  obtain⟨b,rfl,k⟩:=key e λc g=>⟨q c g,r c g⟩;exact⟨b,rfl,by simpa using p,k⟩
variable{s:Sh}{g:List Au}
def UJ(b:Np prog 8 [s] g):∃a,g=[a]/\qS prog 8 s a:=by obtain⟨c,e⟩:=b;rcases g with _|⟨a,_|⟨f,h⟩⟩<;>simp at c;exact⟨a,rfl,e 0 _ _ rfl rfl⟩
def all_cons(j:Np prog 8 (s::a) g):∃b c,g=b::c/\qS prog 8 s b/\Np prog 8 a c:=by
 obtain⟨e,f⟩:=j;rcases g with _|⟨b,c⟩
 .simp at e
 .exact⟨b,c,rfl,f 0 _ _ rfl rfl,by simpa using e,λk s l h i=>f (k+1) s l zCV zCd⟩
def all_nil(h:Np prog 8 [] g):g=[]:=CI (by simpa using h.1)
def AQZ:DE prog 8 85=J [.int .i64,.int .i64,.co 85]:=zCM
def AE2(o:qS prog 8 s d):s=.co 85->∃e:List Bz,d=.co (e.map Bh):=by
 induction o with
 |co t a c l K p q r=>
  intro b;cases b;rw[AQZ]at l;cases l;have key:∀c:List (List Au),(∀b∈c,U b=3)->(∀b∈c,∀(g:Nat) s x,[Sh.int .i64,.int .i64,.co 85][g]?=J s->b[g]?=J x->qS prog 8 s x)->(∀b∈c,∀(g:Nat) s x,[Sh.int .i64,.int .i64,.co 85][g]?=J s->b[g]?=J x->s=.co 85->∃e:List Bz,x=.co (e.map Bh))->∃e:List Bz,c=e.map Bh:=by intro c;induction c with|nil=>intro _ _ _;exact⟨[],rfl⟩|cons b c v=>intro m k n;obtain⟨e,rfl⟩:=v (λb f=>m b zDG) (λb f=>k b zDG) λb f=>n b zDG;have w:=m b AG;rcases b with _|⟨h,_|⟨i,_|⟨j,_|⟨d,L⟩⟩⟩⟩<;>simp at w;have D:=k [h,i,j] (CO ..) 0 _ _ rfl rfl;have F:=k [h,i,j] (CO ..) 1 _ _ rfl rfl;have H:=n [h,i,j] (CO ..) 2 _ _ rfl rfl rfl;obtain⟨B,rfl⟩:=Hi D;obtain⟨A,rfl⟩:=Hi F;obtain⟨C,rfl⟩:=H;exact⟨.mk B A C::e,by simp[a8,Bz.op,Bz.n,Bz.kids]⟩
  obtain⟨e,rfl⟩:=key c p q r;exact⟨e,rfl⟩
 |_=>intro b;cases b
def UQ{f:List H5}{g:List y}(h:W2 prog 8 (t::f) g)(k:DE prog 8 t=J a):∃b e,g=VX prog t b::e/\Np prog 8 a b/\W2 prog 8 f e:=by cases h with|cons c i j=>rw[k]at c;cases c;exact⟨_,_,rfl,i,j⟩
def ADN{g:List y}(h:W2 prog 8 [] g):g=[]:=by cases h;rfl
noncomputable def R4(t:H5):Bool:=match prog.underlying t with|some (.struct _)=>X|some (.array _ _)=>X|_=>Z
theorem AIJ{a:List Au}(b:R4 t=X):VX prog t a=.agg (a.map .d):=by unfold VX;unfold R4 at b;split<;>simp_all
theorem vw(h:R4 t=Z):VX prog t [d]=.d d:=by
 unfold VX;unfold R4 at h;split
 .simp_all
 .simp_all
 .rfl
@[go_sem] theorem ANW:Bk (KL prog cfg) 20 [] []=.ok (.ret (.d (.bool X)),[]):=by unfold Bk;rw[AFW];rfl
def sh3:DE prog 8 3=J [.int .i64]:=zCM
def sh9:DE prog 8 9=J [.str]:=zCM
def AOl:DE prog 8 140=J [.int .i64,.int .i64,.co 85,.co 3]:=zCM
def AOm:DE prog 8 147=J [.co 187,.co 189,.co 151]:=zCM
def AOo:DE prog 8 187=J [.int .i64,.int .i64]:=zCM
def AOp:DE prog 8 189=J [.int .i64,.int .i64]:=zCM
def AOn:DE prog 8 151=J [.int .i64,.co 3,.int .i64]:=zCM
def AQY:DE prog 8 26=J [.co 9,.co 140,.co 147,.int .i64]:=zCM
def ANq:R4 26=true:=zCM
def NZ:MM [.int .i64] AX λ_=>True:=λg a=>by obtain⟨e,rfl,b⟩:=UJ a;obtain⟨c,rfl⟩:=Hi b;exact⟨c,rfl,trivial⟩
def AE3(h:qS prog 8 .str d):∃m,d=.str m/\m.size<=maxLen:=by cases h;exact⟨_,rfl,CM⟩
def ABg:MM [.str] CB λs=>s.size<=maxLen:=λg a=>by obtain⟨f,rfl,b⟩:=UJ a;obtain⟨e,rfl,c⟩:=AE3 b;exact⟨e,rfl,c⟩
def uO:MM [.int .i64,.int .i64,.co 85,.co 3] Bg λ_=>True:=λg a=>by obtain⟨b,f,rfl,h,a⟩:=all_cons a;obtain⟨c,f,rfl,i,a⟩:=all_cons a;obtain⟨e,f,rfl,j,a⟩:=all_cons a;obtain⟨d,rfl,k⟩:=UJ a;obtain⟨b,rfl⟩:=Hi h;obtain⟨c,rfl⟩:=Hi i;obtain⟨e,rfl⟩:=AE2 j rfl;obtain⟨d,rfl,_,_⟩:=FJ k sh3 NZ;exact⟨⟨b,c,e,d⟩,rfl,trivial⟩
def uK:MM [.int .i64,.int .i64] BR λ_=>True:=λg a=>by exact zBG
def om:MM [.int .i64,.int .i64] BD λ_=>True:=λg a=>by exact zBG
def uU:MM [.int .i64,.co 3,.int .i64] BN λ_=>True:=λg a=>by obtain⟨b,j,rfl,f,a⟩:=all_cons a;obtain⟨c,j,rfl,h,a⟩:=all_cons a;obtain⟨e,rfl,i⟩:=UJ a;obtain⟨b,rfl⟩:=Hi f;obtain⟨c,rfl,_,_⟩:=FJ h sh3 NZ;obtain⟨e,rfl⟩:=Hi i;exact⟨⟨b,c,e⟩,rfl,trivial⟩
def ABf:MM [.co 187,.co 189,.co 151] Br λ_=>True:=λg a=>by obtain⟨b,j,rfl,f,a⟩:=all_cons a;obtain⟨c,j,rfl,h,a⟩:=all_cons a;obtain⟨e,rfl,i⟩:=UJ a;obtain⟨b,rfl,_,_⟩:=FJ f AOo uK;obtain⟨c,rfl,_,_⟩:=FJ h AOp om;obtain⟨e,rfl,_,_⟩:=FJ i AOn uU;exact⟨⟨b,c,e⟩,rfl,trivial⟩
def uR:MM [.co 9,.co 140,.co 147,.int .i64] Sv λm=>∀s∈m.free,s.size<=maxLen:=λg a=>by obtain⟨b,f,rfl,h,a⟩:=all_cons a;obtain⟨c,f,rfl,i,a⟩:=all_cons a;obtain⟨e,f,rfl,j,a⟩:=all_cons a;obtain⟨d,rfl,k⟩:=UJ a;obtain⟨b,rfl,_,l⟩:=FJ h sh9 ABg;obtain⟨c,rfl,_,_⟩:=FJ i AOl uO;obtain⟨e,rfl,_,_⟩:=FJ j AOm ABf;obtain⟨d,rfl⟩:=Hi k;exact⟨⟨b,c,e,d⟩,rfl,l⟩
theorem yU(a:Int)(e:Nat)(c:TI)(b:u)(f:Nat):v8 a e c (.ptr b f)=if 0<=a/\a.toNat<e then J ⟨.ptr b (f+a.toNat*c.size),[]⟩else none:=rfl
attribute [go_sem] yU
variable{f:h->List Au}{sz:Nat}
def vo(m:∀e,(f e).length=sz)(o:0<sz)(a:List h)(k:a≠ [])(p:U a<=1000000):∀(g:G) (c:u) (b:TI),b.mix=Z->b.size=sz->UK g c b .emp (J ((a.map f).map λe=>e.map y.d))=J ⟨.ii (1::c) 0 (U a),[(1::c,.f9 sz (a.map f))]⟩:=by
 intro g c b n j;have:=WV g c b (a.map f) n z (λi l=>by obtain⟨e,_,rfl⟩:=Ex.1 l;rw[j];exact m e) (λi=>k (D6.1 i)) zCq
 rw[this,BV,j]
def ik(o:∀g,(f g).length=sz)(l:0<sz)(a b:List h)(m:b≠ [])(r:U a+U b<=1000000):∀(c:u) (i:G) (e:u) (j:TI),j.size=sz->i c=J (.f9 sz (a.map f))->UK i e j (.ii c 0 (U a)) (J ((b.map f).map λg=>g.map y.d))=J ⟨.ii (1::e) 0 (U a+U b),[(c,.rt 0 []),(1::e,.f9 sz (a.map f++b.map f))]⟩:=by
 intro c i e j q p;have:=il (sz:=sz) (id:=c) (a.map f) (b.map f) (λk=>m (D6.1 k)) (λk n=>by obtain⟨g,_,rfl⟩:=Ex.1 n;exact o g) l BL (U a) AG i e j q p
 rw[this,BV]
def Tw{c:Type}(f:h->c)(a b:List h):WA (U a+U b) (a.map f++b.map f)=a.map f++b.map f:=Bi AG
attribute [go_sem] Tw
def AHm{p:Aa}{sz:Al}(bh:Ar p sz){M:S}{j:u}{f:u}{V:MV}{a:C5}(q:XC p M f V a)(o:Di j V f)(N:E0 p sz a.eq){i:Nat}{Q:IK}(T:a.eq.waits[i]?=J Q)(bc:ws p a.eq Q=X)(bl:U a.ev<=400000)(bn:a.work=0):
 ∃az ar,kT (.fn 105) [.ptr f 0,nI i] M j X I=.ok (az,ar)/\KT p j f V M (QL p a.eq a.ev ⟨i,0,0,[]⟩) az ar:=by
 have aa:=q.box;have a2:=o f (V.m_mem f);simp[BS]at aa;have s:=AN a2;have k:=Aw a2;have av:=N.small;simp[BP.small]at av;obtain⟨cp,cq,cs,cu⟩:=av;have cc:=l_ T;have⟨W,g,hWs,gW,xW,lW,lW2⟩:=My (ux (q.sl 2 z) T) T;simp[IU]at gW;have bi:=V.s_mem f (i:=2) z (id:=W) (by rw[hWs];simp[AE]);have a1:=o W bi;have b7:=AN a1;have b8:=Aw a1;have b6:AJ W f=false:=RY gW aa;have cl:AJ f W=false:=RY aa gW;have cn:TC.wrap ((i:Int)+1)=(i:Int)+1:=w_ z z;rw[hWs,bn]at aa;have a6:=λ(ad:G) (ai:ad W=J (.f9 3 (a.eq.waits.map Bf++g)))=>Abs.slice_hi (n:=U a.eq.waits) ai (b:=i) z BL BL;have a':=λ(ad:G) (ai:ad W=J (.f9 3 (a.eq.waits.map Bf++g)))=>Abs.slice_lo (n:=U a.eq.waits) ai (a:=(i:Int)+1) z z AG BL;have bx:((i:Int)+1).toNat=i+1:=z;simp[bx]at a6 a';have cd:i<=(U a.eq.waits)+U g:=z;have ch:i+(1+(U a.eq.waits-(i+1)))<=(U a.eq.waits)+U g:=z;obtain⟨ac,O⟩:∃ac:BP,ac={a.eq with waits:=BF a.eq.waits i}:=⟨_,rfl⟩
 have⟨A,K⟩:=Cv (a.eq.waits.take i);have⟨B,L⟩:=Cv (a.eq.waits.drop (i+1));have v:U A=i:=by rw[K,F5];omega
 have w:U B=U a.eq.waits-(i+1):=by rw[L,I8]
 have bs:WA i (V5 (λh=>V5 y.d h) (V5 Bf a.eq.waits++g))=(A.map Bf).map λh=>h.map y.d:=by rw[K,<-NO,IS BL,<-NO]
 have a0:WA (U a.eq.waits-(i+1)) (WY (i+1) (V5 (λh=>V5 y.d h) (V5 Bf a.eq.waits++g)))=(B.map Bf).map λh=>h.map y.d:=by rw[L,<-Rx,<-NO,List.drop_append_of_le_length BL,IS AG,<-Rx,Bi AG]
 refine aB ?_ q o N K L;clear q o N K L;intro q o N K L;refine Ba func105 ?_;refine QW 2 λa4 ag=>?_;have Y:AR (∀(l:CN) (H:S) (P:y) (F:Nat),l.get 0=.ptr f 0->l.get 4=.ptr (0::8::j) 0->30<=F->H.get f=J (.box (BS p Z (V.nl 2 P) 0))->UF H 3 P ((A++B).map Bf)->(∀id∈AE P,E6 0 F j id=X/\∃bo,id=1::bo)->(∀id,AJ f id=Z->E6 0 F j id=Z->H.get id=M.get id)->H.get (0::8::j)=J (.box [nI Q.at_,nI Q.node,.d (.co (Q.env.map A9))])->Wp cfg kT ⟨105,j,X,I,Z,139⟩ 0 a4 ⟨l,H,F,[]⟩ (MJ cfg I [] j X (KT p j f V M (QL p a.eq a.ev ⟨i,0,0,[]⟩)))):=⟨λl H P F b0 b1 bk b2 a3 b3 b4 b5=>by
  rw[ag];have be:A++B=ac.waits:=by rw[O,K.1,L.1];rfl
  rw[be]at a3;have⟨V2,r2,_⟩:=(Q7 q.1 o.1 λid b=>rfl).step (b':=F) (GS _) (Hc (d9:=⟨ac,a.ev,0⟩) 2 z q.1 ((Q7 q.1 o.1 λid b=>rfl).apartB o.1) (oa (by rw[O]) (by rw[O]) rfl) (by rw[O]) P H b2 a3 (.inr b3) λid n c a5=>b4 id n a5);exact p9 bh o.1 N.1 T bc bl O b0 b1 bk r2 b5⟩
 replace ag:=AB ag;simp[Rm];by_cases t:i=0
 .have cm:WA i (V5 (λh=>V5 y.d h) (V5 Bf a.eq.waits++g))=[]:=by rw[t];rfl
  have R:A=[]:=CI z;clear bs;replace t:=AB t;replace R:=AB R;by_cases e:U a.eq.waits=i+1
  .have bv:WA (U a.eq.waits-(i+1)) (WY (i+1) (V5 (λh=>V5 y.d h) (V5 Bf a.eq.waits++g)))=[]:=by rw[e,IT];rfl
   have r:B=[]:=CI z;clear a0;replace e:=AB e;replace r:=AB r;refine ax ?_;refine Y.1 _ _ .emp 33 rfl rfl Ad ?_ (.inr ⟨rfl,by rw[R.1,r.1];rfl⟩) (λid m=>by cases m) (λid n c=>?_) ?_
   .simp only[go_sem,s,k,AM]<;>rfl
   .exact zAb
   .simp only[go_sem,k,AM]
  .replace e:=AB e;have b':=vo (f:=Bf) (sz:=3) (λ_=>rfl) Ad B (λl=>by have:=e.1;rw[l]at w;simp at w;omega) z;refine ax (Y.1 _ _ (.ii (1::28::j) 0 (U a.eq.waits-(i+1))) 33 rfl rfl Ad ?_ (.inl (BM [] ?_ ?_)) (λid m=>?_) (λid n c=>?_) ?_)
   .simp only[go_sem,s,k,AM]<;>rfl
   .rw[BV,D1,v,w];have:=t.1;omega
   .rw[CS,Ap];simp only[go_sem,s,k,AM];first|done|rfl|(rw[R.1]<;>rfl)
   .simp[AE]at m;subst m;exact⟨DV 28 [1] z z,_,rfl⟩
   .exact zAb
   .simp only[go_sem,k,AM]
 .have b9:=vo (f:=Bf) (sz:=3) (λ_=>rfl) Ad A (λl=>by rw[l]at v;exact t v.symm) z;replace t:=AB t;by_cases e:U a.eq.waits=i+1
  .have bv:WA (U a.eq.waits-(i+1)) (WY (i+1) (V5 (λh=>V5 y.d h) (V5 Bf a.eq.waits++g)))=[]:=by rw[e,IT];rfl
   have r:B=[]:=CI z;clear a0;replace e:=AB e;replace r:=AB r;refine ax (Y.1 _ _ (.ii (1::19::j) 0 i) 33 rfl rfl Ad ?_ (.inl (BM [] ?_ ?_)) (λid m=>?_) (λid n c=>?_) ?_)
   .simp only[go_sem,s,k,AM]<;>rfl
   .rw[BV,D1,v,w];have:=e.1;omega
   .rw[CS,Ap];simp only[go_sem,s,k,AM];first|done|rfl|(rw[r.1,Ce,CS]<;>rfl)
   .simp[AE]at m;subst m;exact⟨DV 19 [1] z z,_,rfl⟩
   .exact zAb
   .simp only[go_sem,k,AM]
  .have am:=ik (f:=Bf) (sz:=3) (λ_=>rfl) Ad A B (λl=>by rw[l]at w;simp at w;omega) z;simp only[v]at am;replace e:=AB e;refine ax ?_;try refine⟨rfl,?_⟩
   refine Y.1 _ _ (.ii (1::28::j) 0 (i+(U a.eq.waits-(i+1)))) 33 rfl rfl Ad ?_ (.inl (BM [] ?_ ?_)) (λid m=>?_) (λid n c=>?_) ?_
   .simp only[go_sem,s,k,AM]<;>rfl
   .rw[BV,D1,v,w]
   .rw[CS,Ap];simp only[go_sem,s,k,AM];first|done|rfl|(rw[v]<;>rfl)
   .simp[AE]at m;subst m;exact⟨DV 28 [1] z z,_,rfl⟩
   .exact zAb
   .simp only[go_sem,k,AM]
def zv:Code->Code
 |.seq (.seq _ (.block _ (.loop (.seq _ (.seq (.block _ c) _))))) _=>c|c=>c
variable{b:Nat}
def AKw{a:C7}{K:Af}{l:Fr}{e:Nat}{i j k f g h:Code}{m:St}{Q:DZ->St->Prop}(n:∀c,c=h->Wp a K l b (i.seq ((Code.block e (k.seq (f.seq (g.seq c)))).seq j)) m Q):Wp a K l b (i.seq ((Code.block e (k.seq (f.seq (g.seq h)))).seq j)) m Q:=n _ rfl
theorem Q4{h:u}{K A W:u}{H:S}{e:CN}{c R a O:Nat}{b:Fc}{msg:List C4}{zs:List (List Au)}{rows:List (List y)}{a4 a5 a6 a' bc be bh bi bk bl:y}{t:Al}{ar av:Nat}{Q:DZ->St->Prop}(bs:e.get 0=.ptr K 0) (b0:e.get 3=.ptr (0::0::h) 0) (b1:e.get 9=nI R) (bv:e.get 10=nI O) (bx:e.get 11=.ii W 0 (U b.queue))(b9:H.get (0::0::h)=J (.box [nI (-1),nI ar,nI av,.d (.co (t.map AX))])) (ad:t[R]?=J (a:Int)) (b5:H.get K=J (.box [a4,a5,a6,a',bc,be,.ii A 0 (U rows),bh,bi,bk,bl])) (b2:H.get A=J (.arr 4 rows)) (b3:H.get W=J (.f9 1 (b.queue.map Ct++zs))) (ag:b.queue[a]?=J msg) (ai:rows[O]?=J [nI b.group,nI b.index,nI b.at_,.ii W 0 (U b.queue)]) (b6:U b.queue<=12)(cd:∀a f,c<=f->AJ (a::f::h) A=Z) (cm:∀a f,c<=f->AJ (a::f::h) W=Z) (T:∀a f,c<=f->AJ A (a::f::h)=Z) (ch:∀a f,c<=f->AJ (a::f::h) K=Z) (cl:∀a f,c<=f->AJ K (a::f::h)=Z) (cn:∀a f,c<=f->AJ W (a::f::h)=Z)(D:AR (∀(m:CN) (C:S) (P:y),(m.get 0=e.get 0/\m.get 3=e.get 3/\m.get 4=e.get 4/\m.get 6=e.get 6/\m.get 7=e.get 7/\m.get 8=e.get 8/\m.get 9=e.get 9)->C.get A=J (.arr 4 (rows.set O [nI b.group,nI b.index,nI b.at_,P]))->UF C 1 P ((BF b.queue a).map Ct)->(∀g∈AE P,E6 c (c+27) h g=X/\∃az,g=1::az)->(∀g,AJ A g=Z->E6 c (c+27) h g=Z->C.get g=H.get g)->Q .normal ⟨m,C,c+27,[]⟩)):
 Wp cfg kT ⟨106,h,X,I,Z,148⟩ 1 (MH 3 (zv (MH 6 (Tryz.f106.body.get rfl)))) ⟨e,H,c,[]⟩ Q:=by
 have b4:=l_ ag;have cc:=l_ ad;have b':=l_ ai;have aa:=λ(M:G) (N:M W=J (.f9 1 (b.queue.map Ct++zs)))=>Abs.slice_hi (n:=U b.queue) N (b:=a) z BL BL;have ac:=λ(M:G) (N:M W=J (.f9 1 (b.queue.map Ct++zs)))=>Abs.slice_lo (n:=U b.queue) N (a:=(a:Int)+1) z z AG BL;have a3:((a:Int)+1).toNat=a+1:=z;simp only[F2,a3]at aa ac;have cq:TC.wrap ((a:Int)+1)=(a:Int)+1:=w_ z z;have b7:a<=(U b.queue)+U zs:=z;have b8:a+(1+(U b.queue-(a+1)))<=(U b.queue)+U zs:=z;obtain⟨p,s⟩:∃A,A=b.queue.take a:=⟨_,rfl⟩;obtain⟨n,v⟩:∃B,B=b.queue.drop (a+1):=⟨_,rfl⟩;have o:AR ((BF b.queue a)=p++n):=⟨by rw[s,v];rfl⟩;have F:U p=a:=by rw[s,F5];omega
 have w:U n=U b.queue-(a+1):=by rw[v,I8]
 have a1:WA a (V5 (λj=>V5 y.d j) (V5 Ct b.queue++zs))=(p.map Ct).map λj=>j.map y.d:=by rw[s,<-NO,IS BL,<-NO]
 have Y:WA (U b.queue-(a+1)) (WY (a+1) (V5 (λj=>V5 y.d j) (V5 Ct b.queue++zs)))=(n.map Ct).map λj=>j.map y.d:=by rw[v,<-Rx,<-NO,List.drop_append_of_le_length BL,IS AG,<-Rx,Bi AG]
 replace s:=AB s;replace v:=AB v;simp only[Tryz.f106,Option.get_some,MH,zv];by_cases r:a=0
 .have cp:WA a (V5 (λj=>V5 y.d j) (V5 Ct b.queue++zs))=[]:=by rw[r];rfl
  have x:p=[]:=CI z;clear a1;replace r:=AB r;replace x:=AB x;by_cases i:U b.queue=a+1
  .have a2:WA (U b.queue-(a+1)) (WY (a+1) (V5 (λj=>V5 y.d j) (V5 Ct b.queue++zs)))=[]:=by rw[i,IT];rfl
   have q:n=[]:=CI z;clear Y;replace i:=AB i;replace q:=AB q;refine ax ?_;refine D.1 _ _ .emp ⟨rfl,rfl,rfl,rfl,rfl,rfl,rfl⟩ ?_ (.inr ⟨rfl,by rw[o.1,x.1,q.1];rfl⟩) (λg k=>by cases k) λg L l=>?_
   .exact BZ
   exact BZ
  .replace i:=AB i;have bo:=vo (f:=Ct) (sz:=1) (λ_=>rfl) Ad n (λe=>by have:=i.1;rw[e]at w;simp only[MD]at w;omega) z;refine ax ?_;refine D.1 _ _ (.ii (1::(c+23)::h) 0 (U b.queue-(a+1))) ⟨rfl,rfl,rfl,rfl,rfl,rfl,rfl⟩ ?_ (.inl (BM [] ?_ ?_)) (λg k=>?_) λg L l=>?_
   .exact BZ
   .rw[o.1,BV,D1,F,w];have:=r.1;omega
   .rw[CS,o.1,Ap];simp only[go_sem,T,AM];first|done|rfl|(rw[x.1];first|done|rfl)
   .simp only[AE,AS]at k;subst k;exact⟨DV (c+23) [1] z z,_,rfl⟩
   .have V:=Ax l 1 (c+14) z z;have a0:=Ax l 1 (c+23) z z;exact BZ
 .have bn:=vo (f:=Ct) (sz:=1) (λ_=>rfl) Ad p (λe=>by grind) z;replace r:=AB r;by_cases i:U b.queue=a+1
  .have a2:WA (U b.queue-(a+1)) (WY (a+1) (V5 (λj=>V5 y.d j) (V5 Ct b.queue++zs)))=[]:=by rw[i,IT];rfl
   have q:n=[]:=CI z;clear Y;replace i:=AB i;replace q:=AB q;refine ax ?_;try refine⟨rfl,?_⟩
   refine D.1 _ _ (.ii (1::(c+14)::h) 0 a) ⟨rfl,rfl,rfl,rfl,rfl,rfl,rfl⟩ ?_ (.inl (BM [] ?_ ?_)) (λg k=>?_) λg L l=>?_
   .exact BZ
   .rw[o.1,BV,D1,F,w];have:=i.1;omega
   .rw[CS,o.1,Ap];simp only[go_sem,T,AM];grind
   .simp only[AE,AS]at k;subst k;exact⟨DV (c+14) [1] z z,_,rfl⟩
   .have V:=Ax l 1 (c+14) z z;exact BZ
  .have am:=ik (f:=Ct) (sz:=1) (λ_=>rfl) Ad p n (λe=>by grind) z;simp only[F]at am;replace i:=AB i;refine ax ?_;try refine⟨rfl,?_⟩
   refine D.1 _ _ (.ii (1::(c+23)::h) 0 (a+(U b.queue-(a+1)))) ⟨rfl,rfl,rfl,rfl,rfl,rfl,rfl⟩ ?_ (.inl (BM [] ?_ ?_)) (λg k=>?_) λg L l=>?_
   .exact BZ
   .rw[o.1,BV,D1,F,w]
   .rw[CS,o.1,Ap];exact BZ
   .simp only[AE,AS]at k;subst k;exact⟨DV (c+23) [1] z z,_,rfl⟩
   .have V:=Ax l 1 (c+14) z z;have a0:=Ax l 1 (c+23) z z;exact BZ
variable{a:u}
theorem AKA{b:u}(g:AD a b=Z)(c e f:Nat):AJ (c::e::f::a) b=false:=by grind [AI,vK]
theorem AGH{b:u}(g:AD a b=Z)(c e f:Nat):AJ b (c::e::f::a)=false:=by grind [AI,vK]
theorem nK{e:u}{V:MV}{i:u}{b:Nat}{c:u}(o:Di e V i)(h:c∈V.ids i\/∃a,a<b/\AD (a::e) c=X/\∃l,c=1::l)(f g a:Nat)(n:b<=a):AJ (f::g::a::e) c=false:=AI λj=>by
 subst j;rcases h with h|⟨p,m,k,_⟩
 .grind [vK]
 .have:=Bw k (n':=a) (under_iff.2 ⟨[f,g],rfl⟩);omega
variable{π m:u}{V:MV}
theorem ABJ{c:u}(j:Di π V m)(h:c∈V.ids m\/∃a,a<b/\AD (a::π) c=X/\∃g,c=1::g)(e f a:Nat)(i:b<=a):AJ c (e::f::a::π)=false:=by grind [AI,nK]
def HB{b e:Nat}{π:u}{g:u}(i:E6 b e π g=Z)(c f a:Nat)(j:b<=a)(k:a<e):AJ (c::f::a::π) g=false:=AI λh=>by subst h;have:E6 b e π (c::f::a::π)=true:=Gp.2 ⟨a,j,k,under_iff.2 ⟨[c,f],rfl⟩⟩;rw[i]at this;cases this
theorem ABe{O:Aa}{sz:Al}(b7:Ar O sz){b6:S}{π:u}{m:u}{V:MV}{w:C5}(d1:XC O b6 m V w)(x:Di π V m)(c7:E0 O sz w.eq){i f:Nat}{j:Az}{d:Bc}{p:C6}{t:Al}(em:w.eq.bv[i]?=J j)(gh:O.def? j.ip=J d)(en:d.rules[f]?=J p)(hl:A8 w.eq.be (j.place d p.at_)=Z)(dx:Below (Cw w.eq d j p) t)(hv:w.work=0)(i4:U w.ev<=500000):
 ∃a1 gg,kT (.fn 106) [.ptr m 0,k6 ⟨-1,i,f,t⟩] b6 π X I=.ok (a1,gg)/\KT O π m V b6 (KQ O 401 ⟨p.node,j.place d p.at_,j.env++(BX d j p.d7 t w.eq).1⟩ ⟨(BX d j p.d7 t w.eq).2,w.ev++[⟨1,j.place d p.at_,i,f,(BX d j p.d7 t w.eq).1⟩],0⟩) a1 gg:=by
 obtain⟨it,ai⟩:=c7.grp i j em;have gi:=ai.ip;rw[gh]at gi;cases gi;obtain⟨az,c5⟩:=Cf ai.ip;have i2:=l_ c5;have i9:=l_ en;have b2:=Mh b7 c7 em ai (AP en);have i5:=b2.j1;have i':U t=U p.d7:=by have:=dx.len;rw[Cw,BV]at this;exact this
 have e4:=d1.box;have dr:=x m (V.m_mem m);simp only[BS]at e4;have bi:=AN dr;have av:=Aw dr;have ch:=AKA dr;have cl:=AGH dr;obtain⟨W,g,es,fv,ha,g2,g3⟩:=My (d1.sl 1 z) em;have g':=x W (V.s_mem m (i:=1) z (by rw[es];simp[AE]));have ac:=AN g';have ad:=Aw g';simp only[IU]at fv;have gq:=c7.small;simp only[BP.small,As,Dl]at gq;obtain⟨j3,g6,j6,j7⟩:=gq;rw[es]at e4;have i3:=ep b7 ai;have gk:=OC ai;obtain⟨T,er⟩:∃T,U j.env=T+U d.ac+U d.be:=⟨U j.env-U d.ac-U d.be,by unfold Bc.own at gk;omega⟩;have j9:TC.wrap ((U j.env:Int)-(U d.be:Int))=(T:Int)+(U d.ac:Int):=by rw[w_ z z];omega
 have bc:TC.wrap ((T:Int)+(U d.ac:Int)-(U d.ac:Int))=(T:Int):=by rw[w_ z z];omega
 have hq:AR (∀(a b:Nat) k b9,a<b->p.d7[a]?=J k->p.d7[b]?=J b9->(j.own d X b9).toNat≠(j.own d X k).toNat):=⟨λa b k b9 ho bi av=>by have gn:=(Bd b7 c5).ok.pp p (AP en);simp only[Bt,As,Dl]at gn;have:=OH rfl gn.2.2.2 b a b9 k (GS _) ho av bi;obtain⟨P,a2,_⟩:=b2.join k (AP bi);obtain⟨b8,c9,_⟩:=b2.join b9 (AP av);have:=KG ai.mine P a2;have:=KG ai.mine b8 c9;omega⟩
 replace er:=AB er;clear gk;replace d1:=AB d1;replace x:=AB x;replace c7:=AB c7;replace ai:=AB ai;replace dx:=AB dx;replace b2:=AB b2;replace es:=AB es;refine Ba func106 ?_;refine ax ?_;refine Ah p.d7 (B2:=λaa (a:(y×S)×Nat)=>⟨[(0,.ptr m 0),(3,.ptr (0::0::π) 0),(4,.ptr (0::10::π) 0),(6,.ptr (0::29::π) 0),(7,nI T),(8,a.1.1),(9,nI aa)],a.1.2,a.2+45,[]⟩)
  (Inv:=λaa j2 a=>AR (∃n cd L,dh (BS O Z) Z O sz π m V b6 w d j p t aa (a.2+45) a.1.1 a.1.2 n cd L)/\a.1.2.get (0::0::π)=J (.box [nI (-1),nI i,nI f,.d (.co (t.map AX))])/\a.1.2.get (0::10::π)=J (.box [nI j.ip,nI j.at_,.d (.co (j.env.map A9))])/\a.1.2.get (0::29::π)=J (.box [nI p.at_,.d (.co (p.d7.map AX)),nI p.node])) (b0:=((_,_),0)) ⟨⟨V,w.eq,[],?_⟩,?_,?_,?_⟩ ?_ ?_
 .refine⟨⟨Fi (h:=b6) ?_ λl N=>?_,λl N=>.inl N,λl _ d4=>?_⟩,.inl ⟨rfl,rfl⟩,Ay,λ_=>rfl,c7.1,?_,rfl,rfl,rfl,λc8 k gr _ bk b5=>?_,AG⟩
  .have:=d1.1
   rwa [show w=⟨w.eq,w.ev,0⟩ by rw[<-hv]]at this
  .have P:=AN (x.1 l N);simp only[go_sem,P,AM]
  .have P:=AN d4;simp only[go_sem,P,AM]
  .simp
  .obtain⟨P,a2,b8,cv,c9,e',fc⟩:=b2.1.join k (AP bk);obtain⟨b1,Y⟩:=PW dx.1 c8 _ gr (by rw[Cw,BY,bk];rfl) b5;have Y:gr<(QB w.eq (j.own d X k):Nat):=Y;rw[fc]at Y;refine⟨b1,cv,c9,z,e',?_⟩;obtain⟨hk,hp⟩:=g_ (l:=d.ac) (i:=k.toNat) z;obtain⟨j0,bl,i0,a6,_⟩:=ai.1.ac _ hk hp;have:=KG ai.1.mine P a2;grind [OQ]
 .simp only[go_sem]
 .simp only[go_sem]
 .simp only[go_sem]
 .clear e4 fv ha g2 g3 ac ad;rintro aa k ⟨⟨h5,H⟩,b⟩ cm f4 hr ⟨h,dn,gs,gu⟩ ek;dsimp only at*;obtain⟨n,cd,L,h⟩:=h.1;have d2:=h.run.rep;have ar:=d2.box;simp only[BS]at ar;obtain⟨f9,dj⟩:=g_ (l:=t) (i:=aa) z;obtain⟨jd,cv,d6,gl,e5,gm⟩:=h.rest aa k f9 (D4 _) cm dj;obtain⟨a,rfl⟩:∃a:Nat,f9=a:=⟨f9.toNat,z⟩;rw[F2]at gl;obtain⟨ip,gd,jz,_⟩:=b2.1.join k (AP cm);obtain⟨b',rfl⟩:∃b':Nat,k=b':=⟨k.toNat,z⟩;obtain⟨a1,d5⟩:∃a1:Nat,j.own d X b'=a1:=⟨(j.own d X b').toNat,z⟩;have hm:=er.1;obtain⟨gb,f5⟩:=g_ (l:=j.env) (i:=T+b') z;have ht:gb.n=a1:=by rw[<-d5,Az.own,D3 rfl,show (U j.env)-U d.be-U d.ac=T by omega,F2,f5];rfl
  clear hm;obtain⟨j1,a0,f6⟩:=d2.ac.row _ _ d6;rcases d2.arr with⟨_,cc⟩|⟨A,cc,c3⟩
  .rw[cc]at a0;simp at a0
  have h1:=l_ a0;obtain⟨msg,cn⟩:=g_ (l:=cv.queue) (i:=a) gl;obtain⟨Q,zs,rfl,c4,j',ji,g1⟩:=My (ux f6 cn) cn;have e0:=h.run.ids A (n.v3_mem m zCx);have e1:=h.run.ids Q (n.row_mem m (BI.2 ⟨_,AP a0,by rw[Cz];simp[AE]⟩));have e2:=h.run.ids m (n.m_mem m);have eb:=GB (b':=0) x.1 e0;have e7:=JG x.1 e0;have ef:=GB (b':=0) x.1 e1;have e9:=JG x.1 e1;have ec:=GB (b':=0) x.1 e2;have e8:=JG x.1 e2;have hf:∀f,AJ A (0::f::π)=false:=λf=>AI λc=>Ig h.run x.1 f (by rw[<-c];exact n.v3_mem m zCx);have im:∀f,AJ Q (0::f::π)=false:=λf=>AI λc=>Ig h.run x.1 f (by rw[<-c];exact n.row_mem m (BI.2 ⟨_,AP a0,by rw[Cz];simp[AE]⟩));have h7:AJ A Q=false:=RY c3 c4;have h9:AJ Q A=false:=RY c4 c3;have hb:AJ A m=false:=RY c3 ar;have jl:AJ m A=false:=RY ar c3;have ia:AJ Q m=false:=RY c4 ar;have js:AJ m Q=false:=RY ar c4;have i6:=xK (Bd b7 c5).ok h.wd d6 cn gm;have hn:=h.len;have hs:=AR.mk (og h x.1 (Bd b7 c5).ok cm dj d6 cn gm cc a0 (λi b9 C av=>hq.1 aa i b' b9 C cm av) (b1:=b+85) (b':=b+70+45) z);have ex:AR (∀(dc K:S) (a3 a4:y),B8 (BS O Z) Z π m V b6 (b+85) n ⟨cd,w.ev,0⟩ dc->(∀f,dc.get (0::f::π)=H.get (0::f::π))->K.get A=J (.arr 4 (n.rows.set a1 [nI cv.group,nI cv.index,nI cv.at_,a4]))->UF K 1 a4 ((BF cv.queue a).map Ct)->(∀l∈AE a4,E6 (b+85) (b+85+27) π l=X/\∃cq,l=1::cq)->(∀l,AJ A l=Z->E6 (b+85) (b+85+27) π l=Z->K.get l=dc.get l)->p3 π dc (b+85) a3 (L++msg)->(∀i∈AE a3,i∉n.ids m/\E6 (b+85) (b+70+45) π i=Z)->(L++msg=[]->a3=.d8)->
   AR (∃hd g6 hc,dh (BS O Z) Z O sz π m V b6 w d j p t (aa+1) (b+70+45) a3 K hd g6 hc)/\K.get (0::0::π)=J (.box [nI (-1),nI i,nI f,.d (.co (t.map AX))])/\K.get (0::10::π)=J (.box [nI j.ip,nI j.at_,.d (.co (j.env.map A9))])/\K.get (0::29::π)=J (.box [nI p.at_,.d (.co (p.d7.map AX)),nI p.node])):=⟨λdc K a3 a4 gd b9 hg hh hi el fo gf hj=>by
   have up:∀l,E6 (b+85) (b+70+45) π l=Z->E6 (b+85) (b+85+27) π l=false:=λl d4=>by cases d7:E6 (b+85) (b+85+27) π l with|false=>rfl|true=>obtain⟨e,g4,g5,ga⟩:=Gp.1 d7;grind [Gp]
   have fl:∀f,f<b+85->K.get (0::f::π)=H.get (0::f::π):=λf df=>(el _ (hf f) (by cases d7:E6 (b+85) (b+85+27) π (0::f::π)with|false=>rfl|true=>obtain⟨e,g4,g5,ga⟩:=Gp.1 d7;grind [BK])).trans (b9 f)
   have h3:E6 (b+85) (b+85+27) π m=false:=by cases d7:E6 (b+85) (b+85+27) π m with|false=>rfl|true=>obtain⟨e,g4,g5,ga⟩:=Gp.1 d7;rw[Bq ga]at dr;cases dr
   refine⟨⟨hs.1 a3 a4 dc K gd (el m hb h3) ?_ hh (.inr λl N=>?_) (λl b1 Y r he=>el l Y (up l he)) ?_ gf hj⟩,(fl 0 z).trans dn,(fl 10 z).trans gs,(fl 29 z).trans gu⟩
   .rw[d5,F2];exact hg
   .obtain⟨P,a2⟩:=hi l N;grind
   .rcases fo with fo|⟨cq,g0,hy,e,jg,hz,h0⟩
    .exact .inl fo
    .refine .inr ⟨cq,g0,?_,e,z,hz,h0⟩;have M:=gf cq (by rw[g0];simp[AE]);rw[el cq (AI λc=>M.1 (c▸n.v3_mem m zCx)) (up cq M.2)];exact hy⟩
  have gp:=AB a0;rw[cc]at ar;rw[d5,F2]at a0 h1;simp only[B7]at a0;have h6:TC.wrap ((T:Int)+(b':Int))=((T+b':Nat):Int):=by rw[w_ z (by have:=er.1;omega)];omega
  obtain⟨fi,f0⟩:∃fi,fi=T+b':=⟨_,rfl⟩;rw[<-f0]at h6 f5;replace f0:=AB f0;have j8:TC.wrap ((aa:Int)+1)=(aa:Int)+1:=w_ z z;have jj:fi<U j.env:=l_ f5;have kb:A9 gb=[.int .i64 gb.kind,.int .i64 a1]:=by rw[<-ht];rfl
  replace d2:=AB d2;replace e0:=AB e0;replace e1:=AB e1;replace e2:=AB e2;replace d6:=AB d6;replace f6:=AB f6;replace d5:=AB d5;have d3:=h.env;replace h:=AB h;refine AKw λib de=>?_;replace de:=AB de;rcases d3 with⟨rfl,rfl⟩|⟨o,rfl,f2,e,c6,D,M⟩
  .by_cases b0:msg=[]
   .subst b0;refine ax ?_;rw[de.1];refine Q4 (W:=Q) (msg:=[]) (rows:=n.rows) (zs:=zs) rfl rfl rfl rfl rfl dn dj ar c3 c4 cn a0 e5 (λa e B=>eb a e z) (λa e B=>ef a e z) (λa e B=>e7 a e z) (λa e B=>ec a e z) (λa e B=>e8 a e z) (λa e B=>e9 a e z) ⟨λq K a4 c0 be ac ad bh=>?_⟩;have fn:=ex.1 H K .d8 a4 (h.1.run.up z) (λ_=>rfl) be ac ad bh (.inl ⟨rfl,rfl⟩) (λi C=>by cases C) λ_=>rfl;exact zAD
   .have ap:=AIH (sz:=2) (msg.map A9) (by simpa using b0) (by intro c f1;obtain⟨a5,_,rfl⟩:=Ex.1 f1;rfl) Ad BL;simp only[BV]at ap;replace b0:=AB b0;refine ax ?_;rw[de.1];refine Q4 (W:=Q) (msg:=msg) (rows:=n.rows) (zs:=zs) rfl rfl rfl rfl rfl (by rw[p_,AI AG,Co AG];exact dn) dj (by rw[p_,ec _ _ z,Co AG];exact ar) (by grind [p_]) (by grind [p_]) cn a0 e5 (λa e B=>eb a e z) (λa e B=>ef a e z) (λa e B=>e7 a e z) (λa e B=>ec a e z) (λa e B=>e8 a e z) (λa e B=>e9 a e z) ⟨λq K a4 c0 be ac ad bh=>?_⟩;have fn:=ex.1 (H.put (1::(b+83)::π) (.f9 2 (msg.map A9))) K (.ii (1::(b+83)::π) 0 (U msg)) a4 ((h.1.run.up (b':=b+83) z).loc x.1 (λl d4=>by rw[p_,d4 1 (b+83) z];rfl)|>.up z) (λf=>by simp only[go_sem]) be ac ad bh (Qp z rfl zCe) (λi C=>⟨zC5,zCw⟩) (λc=>absurd (PM.1 c).2 b0.1);exact zAD
  .obtain⟨bk,b5,fp,fr⟩:=GA c6 D M;have v:=h.1.out o Ay;have h2:AJ o A=false:=AI λc=>v (c▸n.v3_mem m zCx);have h8:AJ A o=false:=AI λc=>v (c▸n.v3_mem m zCx);have g1:AJ o Q=false:=AI λc=>v (c▸n.row_mem m (BI.2 ⟨_,AP gp.1,by rw[Cz];simp[AE]⟩));have h':AJ Q o=false:=AI λc=>v (c▸n.row_mem m (BI.2 ⟨_,AP gp.1,by rw[Cz];simp[AE]⟩));have cs:AJ o m=false:=AI λc=>v (c▸n.m_mem m);have cu:AJ m o=false:=AI λc=>v (c▸n.m_mem m);replace D:=AB D;replace M:=AB M;by_cases b0:msg=[]
   .subst b0;refine ax ?_;rw[de.1];refine Q4 (W:=Q) (msg:=[]) (rows:=n.rows) (zs:=zs) rfl rfl rfl rfl rfl dn dj ar c3 c4 cn a0 e5 (λa e B=>eb a e z) (λa e B=>ef a e z) (λa e B=>e7 a e z) (λa e B=>ec a e z) (λa e B=>e8 a e z) (λa e B=>e9 a e z) ⟨λq K a4 c0 be ac ad bh=>?_⟩;have fn:=ex.1 H K (.ii o 0 (U L)) a4 (h.1.run.up z) (λ_=>rfl) be ac ad bh (by rw[CS];exact TN h.1.env z) (λi C=>⟨h.1.out i C,by simp only[AE,AS]at C;subst C;exact Ta (n:=e) z D.1⟩) λc=>by rw[CS]at c;exact h.1.ne c
    exact zAD
   .have ap:=il (sz:=2) (id:=o) (L.map A9) (msg.map A9) (by simpa using b0) (by intro c f1;obtain⟨a5,_,rfl⟩:=Ex.1 f1;rfl) Ad BL (U L) AG;simp only[BV]at ap;replace b0:=AB b0;refine ax ?_;rw[de.1];obtain⟨R,d0⟩:∃R,R=(H.put o (.rt 0 [])).put (1::(b+83)::π) (.f9 2 (L.map A9++msg.map A9)):=⟨_,rfl⟩;rw[<-d0];have gv:R.get A=J (.arr 4 n.rows):=by rw[d0,p_,eb _ _ z,p_,h2];exact c3
    have gw:R.get Q=J (.f9 1 (cv.queue.map Ct++zs)):=by rw[d0,p_,ef _ _ z,p_,g1];exact c4
    have gz:R.get m=_:=(show R.get m=H.get m by grind [p_]).trans ar;have f':∀f,R.get (0::f::π)=H.get (0::f::π):=λf=>by exact BZ
    refine Q4 (W:=Q) (msg:=msg) (rows:=n.rows) (zs:=zs) rfl rfl rfl rfl rfl ((f' 0).trans dn) dj gz gv gw cn a0 e5 (λa e B=>eb a e z) (λa e B=>ef a e z) (λa e B=>e7 a e z) (λa e B=>ec a e z) (λa e B=>e8 a e z) (λa e B=>e9 a e z) ⟨λq K a4 c0 be ac ad bh=>?_⟩;have f7:=(h.1.run.oth (H:=H.put o (.rt 0 [])) v (Bq D.1) λl c=>by grind [p_,AI]).up (b':=b+83) z;have f8:=(f7.loc x.1 (H:=R) λl d4=>by grind [p_]).up (b':=b+85) z;have fn:=ex.1 R K (.ii (1::(b+83)::π) 0 (U L+U msg)) a4 f8 f' be ac ad bh (Qp z AG (by grind [p_,is_self])) (λi C=>⟨zC5,zCw⟩) (λc=>absurd (PM.1 c).2 b0.1);replace f7:=AB f7;replace f8:=AB f8;replace d0:=AB d0;clear gz gv gw f';exact zAD
 .clear e4 fv ha g2 g3 ac ad;rintro aa ⟨⟨h5,H⟩,b⟩ f4 hr ⟨h,dn,gs,gu⟩;dsimp only at*;obtain⟨n,cd,L,h⟩:=h.1;have ar:=h.run.rep.box;simp only[BS]at ar;have et:=h.all;have e3:=Nd b7 c7.1 em gh en hl dx.1;rw[f4.1,T0,AHF,CS]at et;rw[et]at e3⊢;have i1:U L<=30*U p.d7:=by have:=h.len;have:=f4.1;omega
  have i7:=U4 O j d p.at_ az c5 (Bd b7 c5).ok.ac (Bd b7 c5).ok.be (OC ai.1) (ep b7 ai.1) b2.1.at0 b2.1.at1;have hn:=h.len;have d3:=h.env;have f3:¬(U j.env)=0:=by have hx:=b2.1.j0;obtain⟨k,cm⟩:=g_ (l:=p.d7) (i:=0) hx;obtain⟨P,a2,_⟩:=b2.1.join k (AP cm);have:=OC ai.1;unfold Bc.own at this;omega
  have hu:=GJ j.env z;simp only[KF,Co f3]at hu;have fa:=Gl;obtain⟨c',ag⟩:∃E:IX,E=⟨1,j.place d p.at_,i,f,L⟩:=⟨_,rfl⟩;have a':AR (∀(H:S) (e:Nat),(∃cx,B8 (BS O Z) Z π m V b6 e cx ⟨cd,w.ev++[c'],0⟩ H)->∃a1 bl,kT (.fn 87) [.ptr m 0,nI p.node,nI (j.place d p.at_),.d (.co ((j.env++L).map A9))] H (e::π) X I=.ok (a1,bl)/\a1=.ret (.kw [])/\KT O π m V b6 (KQ O 401 ⟨p.node,j.place d p.at_,j.env++L⟩ ⟨cd,w.ev++[c'],0⟩) (.ret (.kw [])) (gc (e::π) bl)):=⟨λH e fz=>by
   obtain⟨cx,fz⟩:=fz;obtain⟨a1,bl,P,a2,b8⟩:=Kg (Ss b7 401) x.1 (r:=J ⟨cd,w.ev++[c'],0⟩) (E:=[]) ⟨cx,fz,λi C=>by cases C⟩ ⟨p.node,j.place d p.at_,j.env++L⟩ (λix c=>by cases c;exact⟨⟨h.wd,AZ,AZ,AZ,BL⟩,e3.2⟩) H e (D4 _) (λ_ _=>rfl) λi C=>by cases C
   exact⟨a1,bl,P,a2,Gw b8.run⟩⟩
  have dd:AR (∀k:Nat,b+45<=k->∀R:S,(∃a3,R.get m=J (.box (BS O Z (n.nl 3 a3) 0))/\PF R 5 a3 ((w.ev++[c']).map ND)/\(AE a3=AE (n.s 3)\/∀l∈AE a3,E6 (b+45) k π l=X/\∃cq,l=1::cq))->(∀l,AJ m l=Z->(∀hw∈AE (n.s 3),AJ hw l=Z)->E6 (b+45) k π l=Z->R.get l=H.get l)->∃cx,B8 (BS O Z) Z π m V b6 k cx ⟨cd,w.ev++[c'],0⟩ R):=⟨λk cm R ⟨a3,A1,A2,A3⟩ A4=>by obtain⟨cx,h4,_⟩:=h.run.step (b':=k) cm (Hc (d9:=⟨cd,w.ev++[c'],0⟩) 3 z h.run.rep (h.run.apartB x.1) (sg rfl) rfl a3 R A1 A2 A3 A4);exact⟨cx,h4⟩⟩
  replace f3:=AB f3;replace e3:=AB e3;replace h:=AB h;replace et:=AB et;replace ag:=AB ag;rcases h.1.run.rep.sl 3 z with⟨F,dm⟩|⟨E,fd,F,fs⟩
  .rw[F]at ar;replace F:=AB F;replace dm:AR (w.ev=[]):=⟨D6.1 dm⟩;rcases d3 with⟨rfl,rfl⟩|⟨o,rfl,f2,e,c6,D,M⟩
   .have b3:=GJ [] AG;simp only[KF,MD,IP,Ce]at b3;simp only[CS]at a';refine ax ?_;refine Fk (a'.1 _ _ (dd.1 _ z _ ?_ λl b1 Y r=>?_)) (λeg bl b4=>?_)
    .apply Exists.intro;refine⟨?_,?_,?_⟩
     .simp only[go_sem,bi,av,ch,cl,AM];first|done|rfl
     .refine BM [] (by simp[dm.1]) ?_;simp only[CS,Ap,Bv,Ce,dm.1,ag.1];exact BZ
     .exact zAf
    .have P:=Ax r 1 (b+72) z z;have a2:=Ax r 1 (b+73) z z;have b8:=HB r 1 3 (b+83) z z;exact BZ
    obtain⟨bc,s⟩:=b4;subst bc;rw[ag.1]at s;replace s:=AB s;refine aw ?_;exact s.1
   .have cp:¬(U L)=0:=λc=>by have:=h.1.ne (CI c);cases this
    have b3:=GJ L z;simp only[KF,Co cp]at b3;obtain⟨bk,b5,fp,fr⟩:=GA c6 D M;have c1:∀a k f,b+45<=f->AJ (a::k::f::π) o=false:=λa k f df=>AI λc=>by exact zBj
    have c2:∀a k f,b+45<=f->AJ o (a::k::f::π)=false:=λa k f df=>AI λc=>by grind [is_self]
    have v:=h.1.out o Ay;have cs:AJ o m=false:=AI λc=>v (c▸n.m_mem m);have cu:AJ m o=false:=AI λc=>v (c▸n.m_mem m);have am:=ik (f:=A9) (sz:=2) (λ_=>rfl) Ad j.env L (λc=>cp (by rw[c];rfl)) z;have g7:WA (U L) (V5 A9 L)=V5 A9 L:=Bi AG;have g8:WA (U L) (V5 (λa5=>V5 y.d a5) (V5 A9 L))=(V5 A9 L).map λa5=>a5.map y.d:=Bi AG;have g9:=Tw A9 j.env L;replace D:=AB D;replace M:=AB M;replace v:=AB v;simp only[Ap]at a';refine ax ?_;refine Fk (a'.1 _ _ (dd.1 _ z _ ?_ λl b1 Y r=>?_)) (λeg bl b4=>?_)
    .apply Exists.intro;refine⟨?_,?_,?_⟩
     .simp only[go_sem,bi,av,ch,cl,bk,b5,c1,c2,cs,cu,(show¬b+12=b by omega),AM];first|done|rfl
     .refine BM [] (by simp[dm.1]) ?_;simp only[CS,Ap,Bv,Ce,dm.1,ag.1];simp only[go_sem,bi,av,ch,cl,bk,b5,c1,c2,cs,cu,(show¬b+12=b by omega),AM,DL];first|done|rfl
     .exact zAf
    .have P:=Ax r 1 (b+72) z z;have a2:=Ax r 1 (b+73) z z;have b8:=HB r 1 3 (b+83) z z;have e':=HB r 1 3 (b+70) z z;have fc:=Ax r 1 (b+85) z z;exact BZ
    obtain⟨bc,s⟩:=b4;subst bc;rw[ag.1]at s;replace s:=AB s;refine aw ?_;exact s.1
  .have dq:=h.1.run.ids E (n.s_mem m (i:=3) z (by rw[F];simp[AE]));have ih:∀f,AJ E (0::f::π)=false:=λf=>AI λc=>Ig h.1.run x.1 f (by rw[<-c];exact n.s_mem m (i:=3) z (by rw[F];simp[AE]));have d8:=GB (b':=0) x.1 dq;have c8:=JG x.1 dq;have d9:=nK x.1 dq;have d':=ABJ x.1 dq;have ds:AJ E m=false:=AI λc=>by rw[c,h.1.run.rep.box]at fs;cases fs
   have ea:AJ m E=false:=AI λc=>by grind
   simp only[IU,BQ,BV]at fs F;rw[F]at ar;replace F:=AB F;replace dq:=AB dq;rcases fd with _|⟨ka,fd⟩
   .rcases d3 with⟨rfl,rfl⟩|⟨o,rfl,f2,e,c6,D,M⟩
    .have b3:=GJ [] AG;simp only[KF,MD,IP,Ce]at b3;simp only[CS]at a';refine ax ?_;refine Fk (a'.1 _ _ (dd.1 _ z _ ?_ λl b1 Y r=>?_)) (λeg bl b4=>?_)
     .apply Exists.intro;refine⟨?_,?_,?_⟩
      .simp only[go_sem,bi,av,ch,cl,d8,c8,d9,d',ds,ea,AM];first|done|rfl
      .refine BM [] AG ?_;simp only[CS,Ap,Bv,Ce,ag.1];exact BZ
      .exact zAf
     .exact zBV
     obtain⟨bc,s⟩:=b4;subst bc;rw[ag.1]at s;replace s:=AB s;refine aw ?_;exact s.1
    .have cp:¬(U L)=0:=λc=>by have:=h.1.ne (CI c);cases this
     have b3:=GJ L z;simp only[KF,Co cp]at b3;obtain⟨bk,b5,fp,fr⟩:=GA c6 D M;have c1:∀a k f,b+45<=f->AJ (a::k::f::π) o=false:=λa k f df=>AI λc=>by exact zBj
     have c2:∀a k f,b+45<=f->AJ o (a::k::f::π)=false:=λa k f df=>AI λc=>by grind [is_self]
     have v:=h.1.out o Ay;have cs:AJ o m=false:=AI λc=>v (c▸n.m_mem m);have cu:AJ m o=false:=AI λc=>v (c▸n.m_mem m);have e6:AJ o E=false:=AI λc=>v (c▸n.s_mem m (i:=3) z zCn);have ej:AJ E o=false:=AI λc=>v (c▸n.s_mem m (i:=3) z zCn);have am:=ik (f:=A9) (sz:=2) (λ_=>rfl) Ad j.env L (λc=>cp (by rw[c];rfl)) z;have g7:WA (U L) (V5 A9 L)=V5 A9 L:=Bi AG;have g8:WA (U L) (V5 (λa5=>V5 y.d a5) (V5 A9 L))=(V5 A9 L).map λa5=>a5.map y.d:=Bi AG;have g9:=Tw A9 j.env L;replace D:=AB D;replace M:=AB M;replace v:=AB v;simp only[Ap]at a';refine ax ?_;refine Fk (a'.1 _ _ (dd.1 _ z _ ?_ λl b1 Y r=>?_)) (λeg bl b4=>?_)
     .apply Exists.intro;refine⟨?_,?_,?_⟩
      .exact zBb
      .refine BM [] AG ?_;simp only[CS,Ap,Bv,Ce,ag.1];simp only[go_sem,bi,av,ch,cl,d8,c8,d9,d',ds,ea,bk,b5,c1,c2,cs,cu,(show¬b+12=b by omega),e6,ej,AM,DL];first|done|rfl
      .exact zAf
     .exact zAr
     obtain⟨bc,s⟩:=b4;subst bc;rw[ag.1]at s;replace s:=AB s;refine aw ?_;exact s.1
   .rcases d3 with⟨rfl,rfl⟩|⟨o,rfl,f2,e,c6,D,M⟩
    .have b3:=GJ [] AG;simp only[KF,MD,IP,Ce]at b3;simp only[CS]at a';refine ax ?_;refine Fk (a'.1 _ _ (dd.1 _ z _ ?_ λl b1 Y r=>?_)) (λeg bl b4=>?_)
     .apply Exists.intro;refine⟨?_,?_,?_⟩
      .simp only[go_sem,bi,av,ch,cl,d8,c8,d9,d',ds,ea,AM];first|done|rfl
      .refine BM fd AG ?_;simp only[Ap,Bv,Ce,F1,F6,DL,ag.1];exact BZ
      .exact .inl (by rw[F.1];rfl)
     .exact zBV
     obtain⟨bc,s⟩:=b4;subst bc;rw[ag.1]at s;replace s:=AB s;refine aw ?_;exact s.1
    .have cp:¬(U L)=0:=λc=>by have:=h.1.ne (CI c);cases this
     have b3:=GJ L z;simp only[KF,Co cp]at b3;obtain⟨bk,b5,fp,fr⟩:=GA c6 D M;have c1:∀a k f,b+45<=f->AJ (a::k::f::π) o=false:=λa k f df=>AI λc=>by exact zBj
     have c2:∀a k f,b+45<=f->AJ o (a::k::f::π)=false:=λa k f df=>AI λc=>by grind [is_self]
     have v:=h.1.out o Ay;have cs:AJ o m=false:=AI λc=>v (c▸n.m_mem m);have cu:AJ m o=false:=AI λc=>v (c▸n.m_mem m);have e6:AJ o E=false:=AI λc=>v (c▸n.s_mem m (i:=3) z zCn);have ej:AJ E o=false:=AI λc=>v (c▸n.s_mem m (i:=3) z zCn);have am:=ik (f:=A9) (sz:=2) (λ_=>rfl) Ad j.env L (λc=>cp (by rw[c];rfl)) z;have g7:WA (U L) (V5 A9 L)=V5 A9 L:=Bi AG;have g8:WA (U L) (V5 (λa5=>V5 y.d a5) (V5 A9 L))=(V5 A9 L).map λa5=>a5.map y.d:=Bi AG;have g9:=Tw A9 j.env L;replace D:=AB D;replace M:=AB M;replace v:=AB v;simp only[Ap]at a';refine ax ?_;refine Fk (a'.1 _ _ (dd.1 _ z _ ?_ λl b1 Y r=>?_)) (λeg bl b4=>?_)
     .apply Exists.intro;refine⟨?_,?_,?_⟩
      .exact zBb
      .refine BM fd AG ?_;simp only[Ap,Bv,Ce,F1,F6,DL,ag.1];exact BZ
      .exact .inl (by rw[F.1];rfl)
     .exact zAr
     obtain⟨bc,s⟩:=b4;subst bc;rw[ag.1]at s;replace s:=AB s;refine aw ?_;exact s.1
structure qP(p:Aa)(sz:Al)(V:MV)(G:S):Prop:=
 rep:APV p sz G [0,0,6] V ⟨Db,[],0⟩
 x0:G.get [0,0]=J (.box (pC p))
 x1:G.get [0,1]=J (.box [.d8,.d8,.d8,.d8])
 x3:G.get [0,3]=J (.box [nI 0])
theorem qP.mono{h:Aa}{sz:Al}{V:MV}{G g:S}(c:qP h sz V G)(j:∀a∈V.ids [0,0,6],∃f,f<20/\AD [f] a=X/\¬a=[0,1]/\¬a=[0,3])(e:∀a,(∀b,20<=b->AJ [1,b] a=Z)->g.get a=G.get a):qP h sz V g:=by refine⟨Fi c.rep λa k=>e a λb l=>AI λi=>?_,(e _ λb _=>rfl).trans c.x0,(e _ λb _=>rfl).trans c.x1,(e _ λb _=>rfl).trans c.x3⟩;have⟨f,h1,h2,_⟩:=j a k;subst i;have:=Bw (π:=[]) h2 (under_iff.2 ⟨[1],rfl⟩:AD [b] [1,b]=X);omega
def zq(n:Nat):Dh (n+1)=Dh n++[⟨2,(n:Int)⟩]:=by simp[Dh,Rw]
theorem MU(n:Aa)(a:Bool)(g:S)(π:u)(m:u)(V:MV)(o:Int)(l:g.get m=J (.box (BS n a V o)))(k:AD π m=Z)(b:a=Z->(V.s 0).isCell=X)(c:a=Z->(V.s 1).isCell=X)(e:a=Z->V.v3.isCell=X)(f:a=Z->(V.s 2).isCell=X):
 ∃j i,kT (.fn 88) [.ptr m 0] g π X I=.ok (j,i)/\j=.ret (if a=X then .kw [.agg [.d8,.d8,.d8,.d8],.d8,nI 3]else .kw [.agg [V.s 0,V.s 1,V.v3,V.s 2],V.s 3,nI 0])/\∀h,AD π h=Z->i.get h=g.get h:=by
 simp[BS]at l;have p:=AN k;have q:=Aw k;cases a
 .replace b:=b rfl;replace c:=c rfl;replace e:=e rfl;replace f:=f rfl;refine Ba func88 ?_;refine aw ?_;grind [AN]
 .clear b c e f;refine Ba func88 ?_;refine aw ?_;grind [AN]
variable{B2:u}
def zf{a:Aa}{H:S}(b:H.get m=J (.box (BS a Z (aj (.ii B2 0 1) .d8 .d8 .d8 .emp m []) 0)))(c:H.get B2=J (.f9 2 [[.int .i64 (-1),.bool Z]])):XC a H m (aj (.ii B2 0 1) .d8 .d8 .d8 .emp m []) ⟨Db,[],0⟩:=by
 refine⟨b,.inl ⟨rfl,rfl⟩,λh e=>?_,.inl ⟨rfl,rfl⟩,⟨rfl,λj k g=>by cases g⟩,λi f=>(by cases f),by simp[aj],λ_ _ _=>rfl⟩
 match h,e with|0,_=>exact BM [] rfl c|1,_=>exact zB8|2,_=>exact .inl (.inl ⟨rfl,rfl⟩)|3,_=>exact zB8
theorem Pj(a:AD π m=Z)(e:AD π B2=Z):Di π (aj (.ii B2 0 1) .d8 .d8 .d8 .emp m []) m:=λc b=>by
 rcases(MV.mem _ _ c).1 b with rfl|rfl|⟨i,hi,h⟩|h|h
 .exact a
 .exact a
 .grind [aj,AE]
 .simp[aj,AE]at h
 .simp[aj,AE]at h
variable{i:u}
theorem NH(a:i≠m)(c:i≠B2):i∉(aj (.ii B2 0 1) .d8 .d8 .d8 .emp m []).ids m:=λb=>by
 rcases(MV.mem _ _ i).1 b with h|h|⟨k,hi,h⟩|h|h
 .exact a h
 .exact a h
 .grind [aj,AE]
 .simp[aj,AE]at h
 .simp[aj,AE]at h
theorem bJ(h:i∈(aj (.ii B2 0 1) .d8 .d8 .d8 .emp m []).ids m):i=m\/i=B2:=by grind [NH]
variable{a:S}
def AEe{e:y}{c:List (List Au)}(b:UF a sz e c):FA a.get e=J (.d (.co c)):=by
 rcases b with b|⟨rfl,rfl⟩
 .exact AEd b
 .rfl
def lh{B:MV->Int->List y}{i:Bool}{l:u}{h:C5}(b:Gf B i a l V h):nx (λm k=>G4 (m,k)=(BC.ret (Pz (Ya (J h))),[])) (Option.map y.kw (bM (Option.map y.agg (Rv (Ds a.get (V.s 0)) (Rv (Ds a.get (V.s 1)) (Rv (Ds a.get V.v3) (Rv (Ds a.get (V.s 2)) (J [])))))) (bM (FA a.get (V.s 3)) (J [nI 0])))):=by have c:=S6 (ZI (b.sl 0 z));have e:=S6 (ZI (b.sl 1 z));have f:=S6 (ZI (b.sl 2 z));have g:=AEe (ZI (b.sl 3 z));have j:=kn b.arr b.ac;simp[BQ]at c e f g;rw[c,e,f,g,j];rfl
theorem iE{a:Aa}{sz:Al}(B:Ar a sz):Bk kT 46 [pA a] []=.ok (.ret (Pz (Ya (J1 a))),[]):=by
 have Q:AR (J1 a=KQ a 401 ⟨a.main,0,Dh (U a.free)⟩ ⟨Db,[],0⟩):=⟨rfl⟩;have a0:U a.free<=1000000:=by have:=B.small;simp[Aa.small]at this;omega
 replace B:=AB B;refine BH func46 ?_;refine aw ?_;refine Ah a.free (B2:=λi (q:(y×S)×Nat)=>⟨[(1,.ptr [0,0] 0),(2,.ptr [0,1] 0),(5,.ptr [0,2] 0),(6,q.1.1),(7,nI i)],q.1.2,q.2,[]⟩)
  (Inv:=λi a2 q=>AR (i=0/\q=((.d8,[([0,0],.box (pC a)),([0,1],.box [.d8,.d8,.d8,.d8]),([0,2],.box [.d (.co (a.free.map CB)),.d (.co (a.nodes.map Bg)),.d (.co (a.defs.map Br)),nI a.main,.ii [1,3] 0 1,.d8,.d8,.d8,.d8,nI 0,.d (.bool (Z))]),([1,3],.f9 2 [[.int .i64 (-1),.bool Z]])]),4)\/0<i/\q=((.ii [1,3] 0 i,[([0,0],.box (pC a)),([0,1],.box [.d8,.d8,.d8,.d8]),([0,2],.box [.d (.co (a.free.map CB)),.d (.co (a.nodes.map Bg)),.d (.co (a.defs.map Br)),nI a.main,.ii [1,4] 0 1,.d8,.d8,.d8,.d8,nI 0,.d (.bool (Z))]),([1,3],.f9 2 ((Dh i).map A9)),([1,4],.f9 2 [[.int .i64 (-1),.bool Z]])]),5))) (b0:=((_,_),_)) ⟨.inl ⟨rfl,rfl⟩⟩ ?_ ?_
 .rintro i a3 q a1 R ag t O;have aa:(Dh i).length=i:=by simp[Dh]
  have ac:=AR.mk (zq i);have D:TC.wrap ((i:Int)+1)=(i:Int)+1:=w_ z z;rcases t.1 with⟨rfl,rfl⟩|⟨ad,rfl⟩
  .clear t;have T:(0:Int)<U a.free:=z;exact aw (O.1 ((_,_),_) ⟨.inr ⟨z,rfl⟩⟩)
  .clear t;have az:WA i ((Dh i).map A9)=(Dh i).map A9:=Bi zC6;refine aw (O.1 ((_,_),_) ⟨.inr ⟨z,?_⟩⟩);rw[ac.1,Ap];rfl
 .rintro i q R ag t;have aa:(Dh i).length=i:=by simp[Dh]
  have s:=R.1;have A:=AB λ(H:S) (B2:u) (ai:H.get [0,2]=J (.box (BS a Z (aj (.ii B2 0 1) .d8 .d8 .d8 .emp [0,2] []) 0))) (V:H.get B2=J (.f9 2 [[.int .i64 (-1),.bool Z]])) (F:Nat) (Y:AD [F] B2=Z) (W:AD [F] [0,2]=Z)=>Ss B.1 401 H [F] [0,2] _ ⟨Db,[],0⟩ ⟨a.main,0,Dh (U a.free)⟩ (zf ai V) (Pj W Y) (Ug a sz) (Uf B.1) AZ AZ AZ AG;rcases t.1 with⟨rfl,rfl⟩|⟨ad,rfl⟩
  .clear t;have T:¬(0:Int)<U a.free:=z;have P:Dh (U a.free)=[]:=by rw[<-s];rfl
   rw[P]at A;replace s:=AB s;refine aw (Ak (A.1 _ [1,3] rfl rfl 13 rfl rfl) (λav k l=>?_));rw[show KQ a 401 ⟨a.main,0,[]⟩ ⟨Db,[],0⟩=J1 a by rw[Q.1,P]]at l;clear A;rcases g:J1 a with _|L
   .rw[g]at l;obtain⟨rfl,⟨m,M,c⟩,p⟩:=l;replace c:=(An [13] k [0,2] rfl).trans c;have x:(gc [13] k).get [0,1]=J (.box [.d8,.d8,.d8,.d8]):=(An [13] k [0,1] rfl).trans ((p [0,1] (NH (by intro b;cases b) (by intro b;cases b)) rfl).trans rfl);refine Nm ?_ c p g;clear c p g;intro c p g;simp[Ya,Pz,sA,Ox];refine aw (Ak (MU a X _ _ _ m M c.1 rfl AG AG AG AG) (λK r w=>?_));obtain⟨rfl,f⟩:=w;have N:=(An [15] r [0,1] rfl).trans ((f [0,1] rfl).trans x);replace f:=AB f;exact au
   .rw[g]at l;obtain⟨rfl,m,n,j⟩:=l;have e:=TZ n j (Pj (B2:=[1,3]) (π:=[13]) rfl rfl);have o:∀h∈m.ids [0,2],¬h=[0,1]/\AD [15] h=false:=λh v=>by
     rcases j.ids h v with C|⟨C,ar,rfl⟩
     .exact zBp
     grind [Bw]
    have c:=e.box;have x:(gc [13] k).get [0,1]=J (.box [.d8,.d8,.d8,.d8]):=(An [13] k [0,1] rfl).trans ((j.frame [0,1] (NH (by intro b;cases b) (by intro b;cases b)) rfl).trans rfl);have⟨c0,d0⟩:=DF (e.sl 0 z);have⟨c1,d1⟩:=DF (e.sl 1 z);have⟨c2,d2⟩:=QJ (e.sl 2 z);have⟨c3,d3⟩:=DF (e.sl 3 z);have⟨c4,d4⟩:=Lj e.arr;refine cX ?_ c n e j o g;clear c n e j o g;intro c n e j o g;refine aw (Ak (MU a Z _ _ _ m L.work c.1 rfl (λ_=>c0) (λ_=>c1) (λ_=>c4) (λ_=>c2)) (λK r w=>?_));obtain⟨rfl,f⟩:=w;have N:=(An [15] r [0,1] rfl).trans ((f [0,1] rfl).trans x);exact zBS
  .clear t;rw[<-s]at A;have az:WA i ((Dh i).map A9)=(Dh i).map A9:=Bi zC6;replace s:=AB s;refine aw (Ak (A.1 _ [1,4] rfl rfl 14 rfl rfl) (λav k l=>?_));rw[show KQ a 401 ⟨a.main,0,Dh i⟩ ⟨Db,[],0⟩=J1 a by rw[Q.1,s.1]]at l;clear A;rcases g:J1 a with _|L
   .rw[g]at l;obtain⟨rfl,⟨m,M,c⟩,p⟩:=l;replace c:=(An [14] k [0,2] rfl).trans c;have x:(gc [14] k).get [0,1]=J (.box [.d8,.d8,.d8,.d8]):=(An [14] k [0,1] rfl).trans ((p [0,1] (NH (by intro b;cases b) (by intro b;cases b)) rfl).trans rfl);refine Nm ?_ c p g;clear c p g;intro c p g;simp[Ya,Pz,sA,Ox];refine aw (Ak (MU a X _ _ _ m M c.1 rfl AG AG AG AG) (λK r w=>?_));obtain⟨rfl,f⟩:=w;have N:=(An [16] r [0,1] rfl).trans ((f [0,1] rfl).trans x);replace f:=AB f;exact au
   .rw[g]at l;obtain⟨rfl,m,n,j⟩:=l;have e:=TZ n j (Pj (B2:=[1,4]) (π:=[14]) rfl rfl);have o:∀h∈m.ids [0,2],¬h=[0,1]/\AD [16] h=false:=λh v=>by
     rcases j.ids h v with C|⟨C,ar,rfl⟩
     .exact zBp
     grind [Bw]
    have c:=e.box;have x:(gc [14] k).get [0,1]=J (.box [.d8,.d8,.d8,.d8]):=(An [14] k [0,1] rfl).trans ((j.frame [0,1] (NH (by intro b;cases b) (by intro b;cases b)) rfl).trans rfl);have⟨c0,d0⟩:=DF (e.sl 0 z);have⟨c1,d1⟩:=DF (e.sl 1 z);have⟨c2,d2⟩:=QJ (e.sl 2 z);have⟨c3,d3⟩:=DF (e.sl 3 z);have⟨c4,d4⟩:=Lj e.arr;refine cX ?_ c n e j o g;clear c n e j o g;intro c n e j o g;refine aw (Ak (MU a Z _ _ _ m L.work c.1 rfl (λ_=>c0) (λ_=>c1) (λ_=>c4) (λ_=>c2)) (λK r w=>?_));obtain⟨rfl,f⟩:=w;have N:=(An [16] r [0,1] rfl).trans ((f [0,1] rfl).trans x);exact zBS
variable{v1 c e v4:y}{f:List (List y)}
theorem ah{s:BP}(b:qM π s v1 c e v4 f a){G:S}{n:Aa}(o:G.get m=J (.box (BS n Z (aj v1 c e v4 .d8 m f) 0)))(p:∀g l,a.get g=J l->G.get g=J l):XC n G m (aj v1 c e v4 .d8 m f) ⟨s,[],0⟩:=by
 have key:∀{sz:Nat} {h:y} {k:List (List Au)},PF a sz h k->PF G sz h k:=λw=>by grind [Ng,Oi]
 refine⟨o,.inl ⟨rfl,rfl⟩,λi q=>?_,?_,?_,b.gw,b.qd,λ_ _ _=>rfl⟩
 .match i,q with|0,_=>exact key b.s0|1,_=>exact key b.s1|2,_=>exact .inl (key b.s2)|3,_=>exact zB8
 .refine Sj b.arr λg j=>?_;have:=Ks b.arr j;grind
 .have:=Si (g':=G) b.ac λg j=>by have⟨x,hx⟩:=Qd b.ac j;rw[hx];exact p _ _ hx
  exact⟨this.len,λt v r=>by have⟨h,h1,h2⟩:=this.row t v r;exact⟨h,h1,.inl h2⟩⟩
theorem iV{c:u}(e:a.get c=I):((a.map λb=>b.1).all λb=> !AJ c b)=true:=by grind [AI,lX]
def y7{j:Nat}{s:BP}(g:qM [j] s v1 c e v4 f a):∀b∈(aj v1 c e v4 .d8 m f).ids m,b=m\/AD [j] b=true:=λb k=>by
 rcases(MV.mem _ _ b).1 k with rfl|rfl|⟨i,hi,h⟩|h|h
 .exact .inl rfl
 .exact .inl rfl
 .match i,hi with|0,_=>exact .inr (g.ids b (.inl h))|1,_=>exact .inr (g.ids b (.inr (.inl h)))|2,_=>exact .inr (g.ids b (.inr (.inr (.inl h))))|3,_=>simp[aj,AE]at h
 .exact .inr (g.ids b (by simp[aj]at h;simp[h]))
 .exact .inr (g.ids b (by simp[aj]at h;simp[h]))
theorem gJ{a:Nat}{c:u}(e:AD [a] c=X)(f:¬b=a):AD [b] c=false:=by grind [Bw]
theorem ACg{j:Aa}{sz:Al}(ac:Ar j sz){s:BP}(R:E0 j sz s)(az:s.Fits){be:Dk}(a0:Je j s be):Bk kT 56 [pA j,sA s,k6 be] []=.ok (.ret (Pz (Ya (DK j s be))),[]):=by
 have bk:¬(U s.be)=0:=by have:=R.tree.pos;omega
 obtain⟨bo,k,v1,c,e,v4,f,a,rfl,m⟩:=ADw s az bk 8 [];replace m:=m.cp;have ad:=m.own;have Q:∀a1,¬a1=8->∀L,S.get (a++L) [0,a1]=S.get L [0,a1]:=λa1 b1 L=>JB (ad _ (BK [] b1));have⟨c0,d0⟩:=DF m.s0;have⟨c1,d1⟩:=DF m.s1;have⟨c2,d2⟩:=DF m.s2;have⟨c3,d3⟩:=Lj m.arr;have b9:=iV (ad [0,0] rfl);have b':=iV (ad [0,1] rfl);replace ad:=AB ad;have b6:=Q 0 Ad;have b7:=Q 1 Ad;have b8:=Q 2 Ad;have bi:=Q 3 Ad;replace Q:=AB Q;have b2:=m.s0;refine aB ?_ ac R a0 az m;clear ac R a0 az m;intro ac R a0 az m;rcases b2 with⟨rfl,b5⟩|⟨b3,M,rfl,b5⟩
 .exact absurd (by grind [List.map_eq_nil_iff]) bk
 have⟨V,B⟩:=Cv (aj (.ii b3 0 (s.be.map CZ).length) c e v4 .d8 [0,10] f);have ag:AR (∀b∈V.ids [0,10],b=[0,10]\/AD [8] b=X):=⟨by rw[B];exact y7 m.1⟩;have av:AR ([0,3] ∉V.ids [0,10]):=⟨λp=>by rcases ag.1 _ p with p|p<;>cases p⟩
 have bn:AR (∀O T,a.get O=J T->AJ [0,10] O=Z):=⟨λO T K=>AI λw=>by rw[<-w,m.1.own _ rfl]at K;cases K⟩;replace B:=AB B;cases a0.1 with
 | @pp i a5 bs d bo t ai ar bl b0 a3=>
   replace a3:=AB a3;refine BH func56 ?_;refine aw ?_;generalize q:S.put (a++_) [0,10] _=H;have aa:H.get [0,10]=J (.box (BS j Z V 0)):=by rw[<-q];simp only[go_sem];rw[B.1,BV];rfl
   have a4:XC j H [0,10] V ⟨s,[],0⟩:=by exact zBk
   have Y:Di [17] V [0,10]:=λb r=>by
    rcases ag.1 b r with rfl|p
    .rfl
    grind [gJ]
   have W:H.get [0,3]=J (.box [.d8,.d8,.d8,.d8]):=by rw[<-q];simp only[go_sem,bi]
   replace q:=AB q;refine Ak (ABe ac.1 a4 Y R.1 ai ar bl b0 a3.1 rfl AG) (λa6 x o=>?_);replace o:KT j [17] [0,10] V H (DK j s ⟨-1,i,a5,t⟩) a6 x:=by have bv:s.bv[((i:Nat):Int).toNat]?=J bs:=ai;have bx:d.rules[((a5:Nat):Int).toNat]?=J bo:=bl;rw[DK,D3 AZ,react];simp only[bv,(Cf ar).2,bx,Q5];exact o
   rcases k:DK j s ⟨-1,i,a5,t⟩with _|bc
   .rw[k]at o;obtain⟨rfl,⟨v,a2,g⟩,D⟩:=o;replace g:=(An [17] x [0,10] rfl).trans g;have M:=(An [17] x [0,3] rfl).trans ((D [0,3] (av.1) rfl).trans W);refine Nm ?_ g D k;clear g D k;intro g D k;simp[Ya,Pz,sA,Ox];refine aw (Ak (MU j X _ _ _ v a2 g.1 rfl AG AG AG AG) (λa' N P=>?_));obtain⟨rfl,l⟩:=P;have bh:=(An [19] N [0,3] rfl).trans ((l [0,3] rfl).trans M);replace l:=AB l;exact au
   .rw[k]at o;obtain⟨rfl,v,A,n⟩:=o;have h:=TZ A n Y;have C:∀b∈v.ids [0,10],¬b=[0,3]/\AD [19] b=false:=λb r=>by
     rcases n.ids b r with F|⟨F,b4,rfl⟩
     .exact zBl
     grind [Bw]
    have g:=h.box;have M:=(An [17] x [0,3] rfl).trans ((n.frame [0,3] (av.1) rfl).trans W);have⟨c0,d0⟩:=DF (h.sl 0 z);have⟨c1,d1⟩:=DF (h.sl 1 z);have⟨c2,d2⟩:=QJ (h.sl 2 z);have⟨c3,d3⟩:=DF (h.sl 3 z);have⟨c4,d4⟩:=Lj h.arr;refine cX ?_ g A h n C k;clear g A h n C k;intro g A h n C k;refine aw (Ak (MU j Z _ _ _ v bc.work g.1 rfl (λ_=>c0) (λ_=>c1) (λ_=>c4) (λ_=>c2)) (λa' N P=>?_));obtain⟨rfl,l⟩:=P;have bh:=(An [19] N [0,3] rfl).trans ((l [0,3] rfl).trans M);exact zBP
 | @wait i a2 ai ar=>
   refine BH func56 ?_;refine aw ?_;generalize q:S.put (a++_) [0,10] _=H;have aa:H.get [0,10]=J (.box (BS j Z V 0)):=by rw[<-q];simp only[go_sem];rw[B.1,BV];rfl
   have a4:XC j H [0,10] V ⟨s,[],0⟩:=by exact zBk
   have Y:Di [18] V [0,10]:=λb r=>by
    rcases ag.1 b r with rfl|p
    .rfl
    grind [gJ]
   have W:H.get [0,3]=J (.box [.d8,.d8,.d8,.d8]):=by rw[<-q];simp only[go_sem,bi]
   replace q:=AB q;refine Ak (AHm ac.1 a4 Y R.1 ai ar AG rfl) (λa6 x o=>?_);replace o:KT j [18] [0,10] V H (DK j s ⟨i,0,0,[]⟩) a6 x:=by rw[<-AB7];exact o
   rcases k:DK j s ⟨i,0,0,[]⟩with _|bc
   .rw[k]at o;obtain⟨rfl,⟨v,a2,g⟩,D⟩:=o;replace g:=(An [18] x [0,10] rfl).trans g;have M:=(An [18] x [0,3] rfl).trans ((D [0,3] (av.1) rfl).trans W);refine Nm ?_ g D k;clear g D k;intro g D k;simp[Ya,Pz,sA,Ox];refine aw (Ak (MU j X _ _ _ v a2 g.1 rfl AG AG AG AG) (λa' N P=>?_));obtain⟨rfl,l⟩:=P;have bh:=(An [20] N [0,3] rfl).trans ((l [0,3] rfl).trans M);replace l:=AB l;exact au
   .rw[k]at o;obtain⟨rfl,v,A,n⟩:=o;have h:=TZ A n Y;have C:∀b∈v.ids [0,10],¬b=[0,3]/\AD [20] b=false:=λb r=>by
     rcases n.ids b r with F|⟨F,b4,rfl⟩
     .exact zBl
     grind [Bw]
    have g:=h.box;have M:=(An [18] x [0,3] rfl).trans ((n.frame [0,3] (av.1) rfl).trans W);have⟨c0,d0⟩:=DF (h.sl 0 z);have⟨c1,d1⟩:=DF (h.sl 1 z);have⟨c2,d2⟩:=QJ (h.sl 2 z);have⟨c3,d3⟩:=DF (h.sl 3 z);have⟨c4,d4⟩:=Lj h.arr;refine cX ?_ g A h n C k;clear g A h n C k;intro g A h n C k;refine aw (Ak (MU j Z _ _ _ v bc.work g.1 rfl (λ_=>c0) (λ_=>c1) (λ_=>c4) (λ_=>c2)) (λa' N P=>?_));obtain⟨rfl,l⟩:=P;have bh:=(An [20] N [0,3] rfl).trans ((l [0,3] rfl).trans M);exact zBP
variable{e L:List h}
theorem AE0(a:Nat)(b:U e=U L):(e.take a++L.drop a)[a]?=L[a]? :=zCN
variable{c:Nat}{n:h}
theorem AE1(a:e[c]?=J n)(f:U e=U L):(e.take c++L.drop c).set c n=e.take (c+1)++L.drop (c+1):=by have b:=l_ a;grind [List.set_append_right,List.drop_eq_getElem_cons,List.take_add_one]
theorem AAU(b:e[c]?=J n)(a:L[c]?=J n):e.take (c+1)++L.drop (c+1)=e.take c++L.drop c:=by grind [List.drop_eq_getElem_cons]
section
variable{p:Aa}{q:Al}{o:S}{B:u}{s:BP}{jp:Al}{f:List Al}{h k:y}{j:List y}{a:u}{x:Dk}
def W6(o:S)(B:u)(a:u)(h k:y)(j:List y)(b:PG)(l:BC)(e:S):Prop:=l=.ret (.d (.bool (X)))/\∃c f g,Dw e B b.s b.jp b.f8 c f g/\(∀i∈AE c++(AE f++Ab g),i∈AE h++(AE k++Ab j)\/(AD a i=X/\∃t,i=1::t))/\∀i,AD a i=Z->i∉B::(AE h++(AE k++Ab j))->e.get i=o.get i
def PD(p:Aa)(o:S)(B:u)(s:BP)(x:Dk)(a:u)(h k:y)(j:List y)(jp:Al)(f:List Al)(b:BC)(c:S):Prop:=match DK p s x with|none=>b=.ret (.d (.bool (Z)))|some e=>W6 o B a h k j (S8 p ⟨s,jp,f⟩ x e.eq) b c
theorem we{t:BP}{b7:List (Au×y)}{G:S}{b:Nat}{v:CN}(R:Ar p q)(a0:E0 p q s)(W:E0 p q t)(T:nX s t)(Q:Dw G B s jp f h k j)(F:∀i∈B::(AE h++(AE k++Ab j)),AD a i=Z)(N:U jp=U s.ac)(b0:U f=U s.bv)(bs:∀l∈jp,0<=l/\l<=1000000) (d3:21<=b) (c5:v.get 0=.ptr B 0) (c7:v.get 4=.ptr (0::0::a) 0) (c8:v.get 7=.ptr (0::14::a) 0) (c6:v.get 10=.mp (1::20::a)) (ac:G.get (0::0::a)=J (.box (pC p)))(gt:G.get (0::14::a)=J (.box (sC t))) (a6:G.get (1::20::a)=J (.map b7)) (bh:qY b7 (DX p s x)) (a':∀b4,DX p s x b4<=1000)(bc:∀i,AD a i=Z->i∉B::(AE h++(AE k++Ab j))->G.get i=o.get i):
 Wp cfg kT ⟨48,a,X,I,Z,140⟩ 0 (MH 5 (Tryz.f48.body.get rfl)) ⟨v,G,b,[]⟩ (MJ cfg I [ResultVar.tmp 6] a X (W6 o B a h k j (NV p t (PY p s x t 0 jp) f))):=by
 have c1:=F B AG;have ds:=AN c1;have dx:=Aw c1;have cc:=Q.box;have cq:=a0.small;simp[BP.small]at cq;obtain⟨ec,ef,eg,ej⟩:=cq;replace Q:=AB Q;replace F:=AB F;replace a0:=AB a0;replace W:=AB W;replace R:=AB R;replace bs:=AB bs;replace N:=AB N;replace b0:=AB b0;replace T:=AB T;replace bh:=AB bh;replace a':=AB a';replace bc:=AB bc;simp[Tryz.f48,MH];refine ax ?_;clear c5 c7 c8 c6;obtain⟨e,ad⟩:∃e,e=PY p s x t 0 jp:=⟨_,rfl⟩;have L:U e=U jp:=by rw[ad,Ri]
 have bn:∀(c:Nat) l,jp[c]?=J l->e[c]?=J (Lh p s x t c l):=λc l V=>by grind [XZ]
 rw[<-ad];have cs:=W.1.small;simp[BP.small]at cs;obtain⟨ek,el,em,en⟩:=cs;replace ad:=AB ad;replace L:=AB L;replace bn:=AB bn;refine Ah s.ac (B2:=λc (O:S×Nat)=>⟨[(0,.ptr B 0),(4,.ptr (0::0::a) 0),(7,.ptr (0::14::a) 0),(10,.mp (1::20::a)),(85,nI (U s.ac)),(86,nI c)],O.1,O.2,[]⟩)
  (Inv:=λc eb O=>AR (Dw O.1 B s (e.take c++jp.drop c) f h k j/\∀g,g∉AE h->O.1.get g=G.get g)) (b0:=(G,b+7)) ⟨by rw[Lw,DL,List.drop_zero];exact Q.1,λ_ _=>rfl⟩ ?_ ?_
 .rintro c cv ⟨H,aa⟩ b2 bo de be a2;obtain⟨m,r⟩:=be.1;dsimp only at m r;have es:TC.wrap ((c:Int)+1)=(c:Int)+1:=w_ z z;obtain⟨l,V⟩:=g_ (l:=jp) (i:=c) (by rw[N.1];exact bo);obtain⟨cx,az,b',ch,cn⟩:=T.1.ch c cv b2;have dj:=l_ az;have P:=Il R.1 W.1 az;have a4:=Il R.1 a0.1 b2;obtain⟨c3,df⟩:=g_ (l:=t.be) (i:=cx.at_.toNat) (by have:=P.at_;unfold Jd at this;omega);have C:E8 t c=c3.dead:=by rw[E8,az,Gt,F9,A8,df];rfl
  have a3:=P.at_;unfold Jd at a3;obtain⟨a3,c4⟩:=a3;have dq:=P.len;have dr:=a4.len;obtain⟨d9,dm⟩:=bs.1 l (AP V);have ag:=bn.1 c l V;have cd:(e.take c++jp.drop c)[c]?=J l:=by rw[AE0 c L.1];exact V
  have ai:(e.take c++jp.drop c).length=U s.ac:=by rw[D1,F5,I8,L.1,N.1];omega
  have b1:∀w,Lh p s x t c l=w->(e.take c++jp.drop c).set c w=e.take (c+1)++jp.drop (c+1):=λw Y=>AE1 (by rw[ag,Y]) L.1;have b3:Lh p s x t c l=l->e.take (c+1)++jp.drop (c+1)=e.take c++jp.drop c:=λY=>AAU (by rw[ag,Y]) V;generalize e.take c++jp.drop c=cl at*;have b9:=m.box;have K:∀g,AD a g=X->H.get g=G.get g:=λg av=>r g λn=>by have:=F.1 g (By _ (Ac.2 (.inl n)));grind
  have c9:=(K (0::0::a) (Ao [0,0])).trans ac;have c':=(K (0::14::a) (Ao [0,14])).trans gt;have d1:=(K (1::20::a) (Ao [1,20])).trans a6;have d8:=dj;have d2:(c:Int)<U t.ac:=z;have d0:=c4;obtain⟨id,M,d5⟩:∃id,h=.ii id 0 (U cl)/\H.get id=J (.f9 1 (cl.map AX)):=by
   rcases m.jp with⟨_,dc⟩|n
   .rw[dc]at cd;simp at cd
   .exact n
  rw[ai]at M;have d7:AJ id B=false:=AI λv=>by grind
  have uid:=F.1 id (by rw[M];simp[AE]);have dm:=AN uid;have d':=Aw uid;have d4:(cl.map AX).length=U s.ac:=by rw[BV,ai]
  replace m:=AB m;replace r:=AB r;replace ag:=AB ag;replace b1:=AB b1;replace b3:=AB b3;replace P:=AB P;replace a4:=AB a4;replace ai:=AB ai;replace M:=AB M;replace b':=AB b';replace ch:=AB ch;replace cn:=AB cn;have cm:=bh.1.get c;have d6:=a'.1 c;clear K ac gt a6 cc;cases cu:c3.dead with
  |true=>
   rw[cu]at C;have A:Lh p s x t c l=l:=by rw[Lh,D3 C]
   replace C:=AB C;replace A:=AB A;refine ax ?_;exact a2.1 (_,_) ⟨by rw[b3.1 A.1];exact m.1,r.1⟩
  |false=>
   rw[cu]at C;have A:Lh p s x t c l=l+(U cx.queue:Int)-(U cv.queue:Int)+(DX p s x c:Int):=by rw[Lh,Co (by rw[C];simp),Ob az,Ob b2]
   replace C:=AB C;replace A:=AB A;generalize DX p s x c=b4 at*;rw[M.1]at b9;have b8:AR (∀w:Int,Lh p s x t c l=w->Dw (H.put id (.f9 1 ((cl.map AX).set c [.int .i64 w]))) B s (e.take (c+1)++jp.drop (c+1)) f h k j/\∀g,g∉AE h->(H.put id (.f9 1 ((cl.map AX).set c [.int .i64 w]))).get g=G.get g):=⟨λw Y=>by
    refine⟨?_,λg av=>?_⟩
    .rw[show([.int .i64 w]:List Au)=AX w from rfl,<-I2,<-b1.1 w Y];exact m.1.incC M.1 (by rw[LC])
    .rw[BW _ _ λv=>av (by rw[M.1,<-v];simp[AE])];exact r.1 g av⟩
   by_cases cp:b4=0
   .rw[D3 cp]at cm;refine ax ?_;exact a2.1 (_,_) ⟨b8.1 _ (by rw[A.1];omega)⟩
   .rw[Co cp]at cm;refine ax ?_;exact a2.1 (_,_) ⟨b8.1 _ (by rw[A.1];omega)⟩
 .rintro c ⟨H,aa⟩ bo de be;obtain⟨m,r⟩:=be.1;dsimp only at m r;have dd:e.take c++jp.drop c=e:=by have:=bo.1;rw[Bi (by rw[L.1,N.1];omega),OL.2 (by rw[N.1];omega),CS]
  rw[dd]at m;have b9:=m.box;have K:∀g,AD a g=X->H.get g=G.get g:=λg av=>r g λn=>by have:=F.1 g (By _ (Ac.2 (.inl n)));grind
  have c9:=(K (0::0::a) (Ao [0,0])).trans ac;have c':=(K (0::14::a) (Ao [0,14])).trans gt;clear K ac gt a6 cc;replace m:=AB m;replace r:=AB r;refine ax ?_;have bi:Dw (H.put B (.box [.d (.co (t.be.map CZ)),.d (.co (t.bv.map CY)),.d (.co (t.ac.map Fg)),.d (.co (t.waits.map Bf)),h,k])) B t e f h k j:=m.1.setS zDN λi D=>BW _ _ λv=>by have:=Q.1.nd;grind
  refine Ak (my R.1 W.1 bi (λi D=>AL (F.1 i D) _) (by rw[L.1,N.1];exact T.1.cl) (by rw[b0.1];exact T.1.gl)) (λea a5 dn=>?_);obtain⟨rfl,b6,c0,c2,bk,ar,bv⟩:=dn;rw[Gu,eo];have bl:Dw (gc ((aa+8)::a) a5) B t (e++Mb t (U e)) (f++IC p t (U f)) b6 c0 c2:=bk.mono λi D=>by
   rcases Cs.1 D with rfl|D
   .grind [An,AL]
   .rcases ar i D with n|⟨n,er,rfl⟩
    .exact An _ _ _ (AL (F.1 i (By _ n)) _)
    .exact E1 _ _ _
  have bx:∀i,AD a i=Z->i∉B::(AE h++(AE k++Ab j))->(gc ((aa+8)::a) a5).get i=o.get i:=λi b5 a1=>by rw[An _ _ _ (AL b5 _),bv i (AL b5 _) a1,BW _ _ λv=>a1 (by simp[v]),r.1 i λn=>a1 (by simp[n])];exact bc.1 i b5 a1
  generalize gc ((aa+8)::a) a5=H2 at*;replace bi:=AB bi;replace bk:=AB bk;replace ar:=AB ar;replace bv:=AB bv;replace bl:=AB bl;replace bx:=AB bx;refine ax ?_;exact⟨rfl,b6,c0,c2,bl.1,λi D=>(ar.1 i D).imp id λn=>⟨under_iff.2 ((FN ..).trans (under_iff.1 n.1)),n.2⟩,bx.1⟩
theorem AEx(A:Ar p q)(C:E0 p q s)(T:s.Fits)(a2:Je p s x)(ad:Dw o B s jp f h k j)(K:∀i∈B::(AE h++(AE k++Ab j)),AD a i=Z)(W:U jp=U s.ac)(O:U f=U s.bv)(Q:∀L∈jp,0<=L/\L<=1000000) (a0:∀(b:Nat) l e,f[b]?=J l->s.bv[b]?=J e->(U l)=HG p e/\∀L∈l,0<=L/\L<=1000000):
 ∃cm b',kT (.fn 48) [.ptr B 0,pA p,k6 x] o a X I=.ok (cm,b')/\PD p o B s x a h k j jp f cm b':=by
 have c5:=K B AG;have d0:=AN c5;have d1:=Aw c5;have c9:=ad.box;have az:=ACg A C T a2;rcases R:DK p s x with _|c4
 .rw[R]at az;simp[Ya,Pz,sA,Ox]at az;replace ad:=AB ad;refine B4 ?_ K C A a2 Q a0 T W O;clear K C A a2 Q a0 T W O;intro K C A a2 Q a0 T W O;unfold PD;rw[R];clear R;refine Ba func48 ?_;exact af
 .have⟨a3,q2,q3⟩:=VH A C a2 R;have⟨bk,hqk⟩:=Oo A C a2 R;rw[R]at az;simp[Ya,Pz,sA]at az;have c2:PD p o B s x a h k j jp f=W6 o B a h k j (S8 p ⟨s,jp,f⟩ x c4.eq):=by funext cm b';unfold PD;rw[R]
  rw[c2,S8];dsimp only;clear c2 hqk q2 q3 R;generalize c4.eq=t at*;replace ad:=AB ad;replace K:=AB K;refine B4 ?_ C A Q a0 T W O bk a3;clear C A Q a0 T W O bk a3;intro C A Q a0 T W O bk a3;refine Ba func48 ?_;refine QW 5 λdx bx=>?_;replace bx:=AB bx;simp[Rm];cases a2 with
  | @wait i et P cc=>
    have V:=l_ P;have bo:¬((i:Int)<0):=z;simp[k6]at az;refine ax (W1 λG ai=>?_);have ac:∀b,AD a b=Z->G.get b=o.get b:=λb a6=>by have dr:=AN a6;exact BZ
    have dj:K7 f ⟨i,0,0,[]⟩=f:=by rw[K7,Co bo]
    have Y:∀n,DX p s ⟨i,0,0,[]⟩ n=0:=λn=>by rw[DX,Co bo]
    rw[bx.1,dj];refine we A.1 C.1 a3.1 bk.1 (ad.1.mono λi V=>ac i (K.1 i V)) K.1 W.1 O.1 Q.1 z ?_ ?_ ?_ ?_ ?_ ?_ ?_ (by rw[show DX p s ⟨i,0,0,[]⟩=λ_=>0 from funext Y];exact mc) (λn=>by rw[Y];omega) λi a3 _=>ac i a3
    .simp only[go_sem]
    .simp only[go_sem]
    .simp only[go_sem]
    .simp only[go_sem]
    .exact BZ
    .exact BZ
    exact BZ
  | @pp i n e d M cn P cc cd d8 d9=>
    have V:=l_ P;have bo:(-1:Int)<0:=z;simp[k6]at az;have⟨dq,a5⟩:=C.1.grp i e P;have N:=Cf cc;have b0:=(Bd A.1 N.2).ok;have dn:=l_ cd;have ej:=b0.rules;have d5:(i:Int)<U s.bv:=z;have ec:=l_ N.2;have d3:=N.1;have d2:e.ip<U p.defs:=z;have cv:=N.2;have d6:(n:Int)<U d.rules:=z;refine ax (GK λG ai=>?_);have ac:∀b,AD a b=Z->G.get b=o.get b:=λb a6=>by have dr:=AN a6;exact BZ
    have bs:G.get (0::0::a)=J (.box (pC p)):=by rw[ai];simp only[go_sem]
    have b9:G.get (0::1::a)=J (.box [nI (-1),nI i,nI n,.d (.co (cn.map AX))]):=by rw[ai];simp only[go_sem]
    have gt:G.get (0::14::a)=J (.box (sC t)):=by rw[ai];simp only[go_sem]
    have b8:G.get (1::20::a)=J (.map []):=by rw[ai];simp only[go_sem]
    have b7:G.get (0::34::a)=J (.box [nI e.ip,nI e.at_,.d (.co (e.env.map A9))]):=by rw[ai];simp only[go_sem]
    have bv:=ad.1.mono λi V=>ac i (K.1 i V);clear ai c9;have cx:=a5.ip;rw[cc]at cx;cases cx;have a1:=Mh A.1 C.1 P a5 (AP cd);have c':AR (∀c∈M.d7,Bk kT 89 [pA p,.agg [nI e.ip,nI e.at_,.d (.co (e.env.map A9))],nI c] []=.ok (.ret (nI (e.own d X c)),[])):=⟨λc av=>AKq N.1 N.2 (OC a5) (T.1.group e (AP P)) (a1.join c av).1 (a1.join c av).2.1⟩;have eb:=a1.j1;have df:AR (∀c∈M.d7,0<=e.own d X c):=⟨λc av=>(a1.join c av).2.2.1⟩;refine cX ?_ a1 a5 N ac bv b0;clear a1 a5 N ac bv b0;intro a1 a5 N ac bv b0;clear az;refine Ah M.d7 (B2:=λb (a4:S×Nat)=>⟨[(0,.ptr B 0),(4,.ptr (0::0::a) 0),(5,.ptr (0::1::a) 0),(7,.ptr (0::14::a) 0),(10,.mp (1::20::a)),(11,.ptr (0::34::a) 0),(52,.d (.co (M.d7.map AX))),(53,nI (U M.d7)),(54,nI b)],a4.1,a4.2,[]⟩)
     (Inv:=λb er a4=>AR (50<=a4.2/\(∃be,a4.1.get (1::20::a)=J (.map be)/\qY be λv=>JW d e v (M.d7.take b))/\∀r,r≠1::20::a->a4.1.get r=G.get r)) (b0:=(G,50)) ⟨D4 _,⟨[],b8,mc⟩,λ_ _=>rfl⟩ ?_ ?_
    .rintro b c ⟨H,c6⟩ av a6 de ch cq;have⟨hb2,⟨be,a',F⟩,g⟩:=ch.1;dsimp only at hb2 a' F g;have ex:TC.wrap ((b:Int)+1)=(b:Int)+1:=w_ z z;have cs:=AP av;have dc:=c'.1 c cs;have b3:=df.1 c cs;have cu:=(g (0::0::a) AG).trans bs;have d4:=(g (0::34::a) AG).trans b7;obtain⟨v,bh⟩:∃v:Nat,(v:Int)=e.own d X c:=⟨_,IF b3⟩;rw[<-bh]at dc;have c0:=F.get v;have dd:=jW d e v (M.d7.take b);rw[F5]at dd;have c3:AR (∀m:Int,m=((JW d e v (M.d7.take b)+1:Nat):Int)->qY (CW be (.int .i64 (v:Int)) (nI m)) λv=>JW d e v (M.d7.take (b+1))):=⟨λm a'=>F.set a' λi=>by rw[FD,av,Option.toList_some,yx,<-bh,F2]⟩
     generalize JW d e v (M.d7.take b)=L at*;refine mY ?_ F g bh b3;clear F g bh b3;intro F g bh b3;clear bs b9 gt b8 b7;by_cases c1:L=0
     .rw[D3 c1]at c0;exact zBR
     .rw[Co c1]at c0;exact zBR
    .rintro b ⟨H,c6⟩ a6 de ch;have⟨hb2,⟨be,a',F⟩,g⟩:=ch.1;dsimp only at hb2 a' F g;have b2:=a6.1;rw[b2,F3]at F;have cu:=(g (0::0::a) AG).trans bs;have d7:=(g (0::1::a) AG).trans b9;have c8:=(g (0::14::a) AG).trans gt;have ar:=bv.1.mono λi V=>g i λD=>by have:=K.1 i V;rw[D,show AD a (1::20::a)=X from Ao [1,20]]at this;cases this
     have⟨l,hl⟩:=g_ (l:=f) (i:=i) (by rw[O.1];exact V);have⟨bn,b6⟩:=a0.1 i l e hl P;rw[HG,cv,Gt,F9]at bn;have⟨bc,hv⟩:=g_ (l:=j) (i:=i) (by rw[ar.len];exact l_ hl);have⟨L,hn⟩:=g_ (l:=l) (i:=n) (by rw[bn];exact dn);have⟨n0,n1⟩:=b6 L (AP hn);obtain⟨w,rfl,d'⟩:∃w,bc=.ii w 0 (U l)/\H.get w=J (.f9 1 (l.map AX)):=by
      rcases ar.each i bc l hv hl with⟨_,ag⟩|ag
      .rw[ag]at hn;simp at hn
      .exact ag
     obtain⟨es,b4,ea⟩:∃w,k=.ii w 0 (U f)/\H.get w=J (.arr 1 (j.map λbc=>[bc])):=by
      rcases ar.rx with⟨_,ag⟩|ag
      .rw[ag]at hv;simp at hv
      .exact ag
     have c7:=ar.box;rw[b4]at c7;have dm:(j.map λbc=>[bc])[i]?=J [.ii w 0 (U l)]:=by rw[BY,hv];rfl
     have ek:=l_ dm;have eg:=l_ hl;have el:=l_ hv;have ef:=l_ hn;have bi:=ar.incR (l':=l.set n (L+1)) hl hv (by rw[LC]);have bl:l.set n (L+1)=Pt l n:=by rw[Pt,hn]
     rw[bl]at bi;have b1:(l.map AX).set n [.int .i64 (L+1)]=(Pt l n).map AX:=by rw[<-bl,I2];rfl
     have b5:K7 f ⟨-1,i,n,cn⟩=f.set i (Pt l n):=by rw[K7,D3 bo];simp[hl]
     have Y:DX p s ⟨-1,i,n,cn⟩=λv=>JW d e v M.d7:=by funext v;rw[DX,D3 bo];simp[P,cv,cd]
     have uid:=K.1 w (by simp[DS (AP hv) (show w∈AE (.ii w 0 (U l)) by simp[AE])]);have em:=AN uid;have en:=Aw uid;replace F:=AB F;replace g:=AB g;replace ar:=AB ar;refine B4 ?_ bi b5 Y b2 b4 bn b6 bl b1;clear bi b5 Y b2 b4 bn b6 bl b1;intro bi b5 Y b2 b4 bn b6 bl b1;clear bs b9 gt b8 b7;refine ax ?_;rw[b1.1,bx.1,b5.1];have cl:∀r,AD a r=X->(H.put w (.f9 1 ((Pt l n).map AX))).get r=H.get r:=λr aa=>BW _ _ λD=>by grind
     refine we A.1 C.1 a3.1 bk.1 bi.1 K.1 W.1 (by rw[LC];exact O.1) Q.1 z ?_ ?_ ?_ ?_ ((cl _ (Ao [0,0])).trans cu) ((cl _ (Ao [0,14])).trans c8) ((cl _ (Ao [1,20])).trans a') (by rw[Y.1];exact F.1) (λv=>by rw[Y.1];grind [jW]) λr cp ds=>?_
     .simp only[go_sem]
     .simp only[go_sem]
     .simp only[go_sem]
     .simp only[go_sem]
     .have aa:r≠w:=λD=>ds (by rw[D];simp[DS (AP hv) (show w∈AE (.ii w 0 (U l)) by simp[AE])])
      rw[BW _ _ λD=>aa D,g.1 r λD=>by rw[D,show AD a (1::20::a)=X from Ao [1,20]]at cp;cases cp]
      exact ac.1 r cp
end
section
variable{h f:S}{B A:u}{q:u}{l:CN}{a:u->Option u}{t:Nat}{s:BP}{jp:Al}{p:List Al}{k o:y}{j:List y}
abbrev FC(B:u)(k o:y)(j:List y):List u:=B::(AE k++(AE o++Ab j))
def W5(a:y):Prop:=(∃e,a=.d e)\/a=.d8\/a=.emp\/∃b c,a=.ii b 0 c
variable{v:y}
def CU.flat{b:S}{e:Al}(h:CU b v e):W5 v:=by
 rcases h with⟨a|a,_⟩|⟨c,a,_⟩
 .exact .inr (.inl a)
 .exact .inr (.inr (.inl a))
 .exact .inr (.inr (.inr ⟨c,_,a⟩))
def Dw.fc(h:Dw f B s jp p k o j):W5 k:=by
 rcases h.jp with⟨a,_⟩|⟨b,a,_⟩
 .exact .inr (.inl a)
 .exact .inr (.inr (.inr ⟨b,_,a⟩))
def Dw.fr(h:Dw f B s jp p k o j):W5 o:=by
 rcases h.rx with⟨a,_⟩|⟨b,a,_⟩
 .exact .inr (.inl a)
 .exact .inr (.inr (.inr ⟨b,_,a⟩))
def Dw.fv(h:Dw f B s jp p k o j):∀v∈j,W5 v:=λv c=>by obtain⟨b,a⟩:=Ci c;have⟨l,hl⟩:=g_ (l:=p) (i:=b) (by rw[<-h.len];exact l_ a);exact(h.each b v l a hl).flat
theorem X3(h:W5 v):(AE v).length<=1:=by rcases h with⟨c,rfl⟩|rfl|rfl|⟨a,b,rfl⟩<;>simp[AE]
theorem AJf:∀{l:List y},(∀v∈l,W5 v)->(Ab l).length<=(U l)
 :=by intro x;induction x<;>grind [Ab,X3]
def lY:∀{b:List y},(∀v∈b,W5 v)->(∀i∈Ab b,∃g,a i=J g)->Ab (b.map (ren a))=(Ab b).map (nu a)
 |[],_,_=>rfl|v::b,h,hν=>by rw[Bv,Ab,Ab,Ap,MY (h v (CO ..)) λi c=>hν i zDB,lY (λf e=>h f (By _ e)) λi c=>hν i zDB]
theorem wj{B0:u}:∀{l:List y},B0∈Ab l->∃v∈l,B0∈AE v
 :=by intro x;induction x<;>grind [Ab]
def Dw.renIds(c:Dw h B s jp p k o j)(e:∀i∈FC B k o j,∃f,a i=J f):FC (nu a B) (ren a k) (ren a o) (j.map (ren a))=(FC B k o j).map (nu a):=by simp only[FC,Bv,Ap];rw[MY c.fc λi b=>e i (by simp[b]),MY c.fr λi b=>e i (by simp[b]),lY c.fv λi b=>e i (by simp[b])]
theorem Dw.ren(e:Dw h B s jp p k o j)(n:QA q h l a f t)(g:∀i∈FC B k o j,∃b,a i=J b):Dw f (nu a B) s jp p (Abs.ren a k) (Abs.ren a o) (j.map (Abs.ren a)):=by
 have⟨zB,hB⟩:=g B AG;refine⟨?_,?_,?_,by rw[BV];exact e.len,λA v O w K=>?_,?_⟩
 .rw[KD hB];have:=n.get B zB _ hB e.box;exact BZ
 .rcases e.jp with⟨rfl,m⟩|⟨c,rfl,r⟩
  .exact .inl ⟨rfl,m⟩
  .have⟨b,hz⟩:=g c Ay;exact zB6
 .rcases e.rx with⟨rfl,m⟩|⟨c,rfl,r⟩
  .exact .inl ⟨rfl,by rw[m];rfl⟩
  .have⟨b,hz⟩:=g c Ay;refine .inr ⟨b,by simp[Abs.ren,hz],?_⟩;have:=n.get c b _ hz r;rw[this,EO,QR,QR];exact BZ
 .rw[BY]at w;rcases hj2:j[A]? with _|C
  .rw[hj2]at w;cases w
  .rw[hj2]at w;cases w;have L:=λi (H:i∈AE C)=>g i (by simp[DS (AP hj2) H]);rcases e.each A C O hj2 K with⟨rfl|rfl,m⟩|⟨c,rfl,r⟩
   .exact .inl ⟨.inl rfl,m⟩
   .exact .inl ⟨.inr rfl,m⟩
   .have⟨b,hz⟩:=L c Ay;exact zB6
 .show(FC (nu a B) (Abs.ren a k) (Abs.ren a o) (j.map (Abs.ren a))).Nodup;rw[e.renIds g];refine K5 e.nd λD M F N x=>?_;have⟨b,hz⟩:=g D M;have⟨z2,hz2⟩:=g F N;rw[KD hz,KD hz2]at x;subst x;exact n.inj D F b hz hz2
variable{K:Af}{f h r:Nat}{x:Code}{Q:DZ->St->Prop}{H:S}
theorem ABv{ac:Fr}{E:CN}(l:CN)(C:List (u×List Au))(a4:Lq E (cfg.live f r)=l) (n:Dw H B s jp p k o j) (bh:U p<=100) (ag:∀e∈C,H.get e.1=J (.box (e.2.map .d))/\e.1∉FC B k o j) (av:U C<=100) (bi:∀e∈CV l,e=B\/e∈C.map (·.1)) (a0:B∈CV l) (a3:∀e∈C,e.1∈CV l)(a5:∀a M P V W R b,a B=J M->Dw R M s jp p P V W->(∀e∈C,∃w,a e.1=J w/\R.get w=J (.box (e.2.map .d))/\w∉FC M P V W/\∃O A,A<b/\w=O::A::q)->(∀i∈FC M P V W,∃O A,A<b/\i=O::A::q)->WH cfg K ac h x ⟨l.map λaz=>(az.1,ren a az.2),R,b,[]⟩ Q):WH cfg K ac h x (Ij cfg f q r E H) Q:=by
 rw[GL,a4];have⟨a,g',t,hc,hnM,hRen⟩:=J6 q H l (C.map (·.1)++FC B k o j) (by
  have a6:=X3 n.fc;have a':=X3 n.fr;have bc:=AJf n.fv;have be:=n.len;grind) (λe c=>by
  grind) (λe c w m=>by
  rcases Ac.1 c with c|c
  .obtain⟨Y,T,rfl⟩:=Ex.1 c;rw[(ag Y T).1,(wK Y.2).1]at m;cases m
  refine Ac.2 (.inr ?_);simp at c⊢;rcases c with rfl|c|c|c
  .rw[n.box]at m;grind [Cl,Ab,AE]
  .rcases n.jp with⟨rfl,_⟩|⟨L,rfl,D⟩
   .cases c
   .rw[AE,AS]at c;rw[c,D]at m;cases m
  .rcases n.rx with⟨rfl,_⟩|⟨L,rfl,D⟩
   .cases c
   grind [AE,Cl,Ab,DS]
  .have⟨v,hv,c⟩:=wj c;obtain⟨A,F⟩:=Ci hv;have⟨C,av⟩:=g_ (l:=p) (i:=A) (by rw[<-n.len];exact l_ F);rcases n.each A v C F av with⟨rfl|rfl,_⟩|⟨L,rfl,D⟩
   .cases c
   .cases c
   .rw[AE,AS]at c;rw[c,D]at m;cases m)
 have⟨zB,hzB⟩:=hRen.env B a0;have N:=hRen.deep B zB hzB;rw[n.box]at N;have ar:∀i∈FC B k o j,∃w,a i=J w:=λi g=>by
  simp at g;rcases g with rfl|g|g|g
  .exact⟨_,hzB⟩
  .exact N i zDJ
  .exact N i zDJ
  .rcases n.rx with⟨_,ad⟩|⟨L,ad,D⟩
   .rw[ad]at g;cases g
   .have⟨w,m⟩:=N L (by grind [Cl,Ab,AE]);have aa:=hRen.deep L w m;rw[D]at aa;have⟨v,hv,g⟩:=wj g;exact aa i (BI.2 ⟨[v],Ex.2 ⟨v,hv,rfl⟩,by simp[Ab,g]⟩)
 have key:∀i∈FC zB (ren a k) (ren a o) (j.map (ren a)),∃e∈FC B k o j,a e=J i:=λi g=>by rw[<-KD hzB,n.renIds ar]at g;grind [KD]
 rw[hc];refine a5 a zB _ _ _ g' t hzB (by rw[<-KD hzB];exact n.ren hRen ar) (λe c=>?_) λi g=>?_
 .have⟨w,m⟩:=hRen.env e.1 (a3 e c);have⟨a1,a2⟩:=ag e c;have ai:=hRen.get e.1 w _ m a1;rw[(wK e.2).2 a]at ai;refine⟨w,m,ai,λg=>?_,?_⟩
  .have⟨Y,T,e2⟩:=key w g;exact a2 (hRen.inj _ _ _ m e2▸T)
  .have⟨A,F,e2⟩:=hRen.name _ _ m;exact⟨_,A,F,e2⟩
 .have⟨e,_,c⟩:=key i g;have⟨A,F,e2⟩:=hRen.name e i c;exact⟨_,A,F,e2⟩
theorem Tp{w:Fr}{E:CN}{cs:List Au}(l:CN)(P:Lq E (cfg.live f r)=l) (V:Dw H B s jp p k o j) (N:U p<=100) (O:H.get A=J (.box (cs.map .d))) (R:A∉FC B k o j) (ac:∀v∈CV l,v=A\/v=B) (L:B∈CV l) (M:A∈CV l)(T:∀a t c e m n g b,a A=J t->a B=J c->Dw g c s jp p e m n->g.get t=J (.box (cs.map .d))->t∉FC c e m n->(∀i∈t::FC c e m n,∃F C,C<b/\i=F::C::q)->WH cfg K w h x ⟨l.map λD=>(D.1,ren a D.2),g,b,[]⟩ Q):WH cfg K w h x (Ij cfg f q r E H) Q:=ABv l [(A,cs)] P V N (wk ⟨O,R⟩) AG (λv ag=>by grind) L (wk M) λa c e m n g b W Y aa ai=>by have⟨A6,z1,z2,z3,z4⟩:=aa _ (CO ..);exact T a A6 c e m n g b z1 W Y z2 z3 λi ad=>by grind
end
theorem AM2{j:Aa}{s:Al}{f:List Av}{D:List BG}{B:dX}{i:Nat}{b:PG}(v:i<=60)(C:Ar j s)(A:DQ j s D f)(l:WU j f)(a:YW j s B i b)(t:GF j f D B b.s []):vd b.s b.jp b.f8 f:=by
 refine⟨λw K m=>?_,λo H r=>?_⟩
 .have⟨q,hq⟩:=g_ (l:=b.s.ac) (i:=w) (by rw[<-a.lc];exact l_ m);have⟨o,c,g,d,ch,hc⟩:=E0.chn a.wd.grp a.wd.tot hq;have h:=Cf hc.st.ip;have⟨n,hu⟩:=g_ (l:=f) (i:=g.ip.toNat) (by rw[l.len];exact l_ h.2);have⟨s1,s2,_⟩:=l.each _ d n h.2 hu;have⟨k,hk⟩:=g_ (l:=n.ac) (i:=c) (by rw[s1];exact l_ hc.cha);have e:=yi v a t m hq;have x:Dr b.s q=g.ip:=by rw[Dr,hc.group,F2,hc.grp];rfl
  rw[x,hc.index,Bx,hu]at e;simp[hk]at e;exact⟨q,g,n,k,hq,by rw[hc.group];omega,by rw[hc.group,F2];exact hc.grp,h.1,hu,by rw[hc.index];omega,by rw[hc.index,F2];exact hk,e⟩
 .have⟨g,hg⟩:=g_ (l:=b.s.bv) (i:=o) (by rw[<-a.lr];exact l_ r);have⟨d,h⟩:=a.wd.grp o g hg;have p:=Cf h.ip;have⟨n,hu⟩:=g_ (l:=f) (i:=g.ip.toNat) (by rw[l.len];exact l_ p.2);have⟨s1,s2,_⟩:=l.each _ d n p.2 hu;refine⟨g,n,hg,p.1,hu,λF K m=>?_⟩;have L:=(a.f8 o H g r hg).1;have⟨k,hk⟩:=g_ (l:=n.rules) (i:=F) (by grind [HG])
  have e:=oh v C A a t r hg m;rw[BU,hu]at e;simp[hk]at e;exact⟨k,hk,e⟩
section
variable{p:Aa}{a:Al}{T:List Av}{D:List BG}{B:dX}{i:Nat}{x:PG}
end
def AQa:DE prog 8 92=J [.co 112]:=zCM
def AOk:DE prog 8 112=J [.co 108,.co 108,.co 109]:=zCM
def mi:DE prog 8 108=J [.int .i64]:=zCM
def AOj:DE prog 8 109=J [.co 108]:=zCM
def AQb:DE prog 8 93=J [.co 105]:=zCM
def AOi:DE prog 8 105=J [.int .u16]:=zCM
def ANr:R4 92=false:=zCM
def ANs:R4 93=false:=zCM
def KY(n:Nat):List Au:=[.int .u16 (n:Int)]
def ABi:MM [.int .u16] KY λf=>f<65536:=λg b=>by obtain⟨h,rfl,e⟩:=UJ b;cases e with|int j m a=>simp only[Lit.wf,As,Dl]at a;have c:(0:Int)<=m:=a.1;have i:m<=65535:=a.2;exact⟨m.toNat,by rw[KY,IF c],z⟩
def oo:MM [.co 108] Eu λ_=>True:=λg b=>by obtain⟨a,rfl,c⟩:=UJ b;obtain⟨a,rfl,_,_⟩:=FJ c mi NZ;exact⟨a,rfl,trivial⟩
def uV:MM [.co 108,.co 108,.co 109] jr λ_=>True:=λg a=>by obtain⟨e,j,rfl,f,a⟩:=all_cons a;obtain⟨b,j,rfl,h,a⟩:=all_cons a;obtain⟨c,rfl,i⟩:=UJ a;obtain⟨e,rfl,_,_⟩:=FJ f mi NZ;obtain⟨b,rfl,_,_⟩:=FJ h mi NZ;obtain⟨c,rfl,_,_⟩:=FJ i AOj oo;exact⟨⟨e,b,c⟩,rfl,trivial⟩
def AH(T:List Av):List Au:=[.co (T.map jr)]
def ABh:MM [.co 112] AH λ_=>True:=λg b=>by obtain⟨a,rfl,c⟩:=UJ b;obtain⟨a,rfl,_,_⟩:=FJ c AOk uV;exact⟨a,rfl,trivial⟩
def xo(l:u):List Au:=[.co (l.map KY)]
def oq:MM [.co 105] xo λb=>U b<=maxLen/\∀i∈b,i<65536:=λg c=>by obtain⟨a,rfl,h⟩:=UJ c;obtain⟨a,rfl,e,f⟩:=FJ h AOi ABi;exact⟨a,rfl,e,f⟩
theorem ADe(b:Nat)(a:CN)(c:S)(f:Nat)(e:u)(ci:Option u)(h:Bool)(g:Nat):Ff cfg ⟨13,e,Z,ci,h,g⟩ b ⟨a,c,f,[]⟩=Ij cfg 13 e b a c:=zC8
attribute [go_sem 2000] ADe
attribute [go_sem] KY
def SV(a:Aa)(b:Al)(D:List BG)(f:Int)(c:PG):Prop:=∃B,YW a b B f.toNat c/\∀e,DQ a b D e->GF a e D B c.s []
variable{a:Al}{D:List BG}{i:Int}{x:PG}{T:List Av}
theorem sV{b:Aa}(m:Ar b a)(n:FY b)(l:Gd b a D)(r:DQ b a D T)(q:0<=i)(h:SV b a D i x){c:Dk}(p:Je b x.s c){f:C5}(o:DK b x.s c=J f):SV b a D (i+1) (S8 b x c f.eq):=by obtain⟨B,j,k⟩:=h;refine⟨O5 b x.s c B f.eq,?_,λe g=>(dM m n l g j.wd (k e g) p o).1⟩;rw[show(i+1).toNat=i.toNat+1 by omega];grind [AG9]
def NK{c:Aa}(e:SV c a D i x):E0 c a x.s/\(U x.jp)=U x.s.ac/\(U x.f8)<=40/\(U x.f8)=U x.s.bv:=by obtain⟨B,b,g⟩:=e;have f:=b.wd.small;simp[BP.small]at f;exact⟨b.wd,b.lc,by rw[b.lr];omega,b.lr⟩
def AAI{n:Aa}(o:SV n a D i x)(s:i<=60):(∀b∈x.jp,0<=b/\b<=1000000)/\∀(c:Nat) e f,x.f8[c]?=J e->x.s.bv[c]?=J f->(U e)=HG n f/\∀b∈e,0<=b/\b<=1000000:=by
 obtain⟨B,g,r⟩:=o;refine⟨λb h=>?_,λc e f l k=>⟨(g.f8 c e f l k).1,λb h=>?_⟩⟩
 .obtain⟨j,p⟩:=Ci h;have:=g.jp j b p;have:=g.num.all j;omega
 .obtain⟨m,q⟩:=Ci h;have:=(g.f8 c e f l k).2 m b q;have:=g.rxn c m;omega
def AEy{b:Aa}{e:List Av}(j:Ar b a)(l:i<=60)(f:SV b a D i x)(c:DQ b a D e)(k:WU b e):vd x.s x.jp x.f8 e:=by obtain⟨B,g,h⟩:=f;exact AM2 z j c k g (h e c)
theorem AEz{h:Aa}(k:Ar h a)(j:SV h a D i x):∀e∈x.f8,U e<=1000000:=λe m=>by obtain⟨B,b,n⟩:=j;obtain⟨c,f⟩:=Ci m;have⟨g,hg⟩:=g_ (l:=x.s.bv) (i:=c) (by rw[<-b.lr];exact l_ f);have⟨d,hd⟩:=b.wd.grp c g hg;have l:=Cf hd.ip;have:=(Bd k l.2).ok.rules;have:=(b.f8 c e g f hg).1;grind [HG]
def mN(a:¬bg T=X):Nu T:=by simp only[bg,Qr,Dl,List.any_eq_true,not_or,not_exists,not_and]at a;obtain⟨k,f⟩:=a;refine⟨z,λn h=>?_⟩;have e:=f n h;simp only[E9,X0,Qr,Dl,List.any_eq_true,not_or,not_exists,not_and]at e;obtain⟨j,b,c,d⟩:=e;exact⟨z,z,z,λi g=>by have:=d i g;omega⟩
def AHa(f:Aa)(T:List Av)(n:u)(H:∀o∈f.free,o.size<=maxLen)(ea:U n<=maxLen)(a2:∀ef∈n,ef<65536):Bk kT 13 [pA f,De T,.d (.co (n.map KY))] []=.ok (.ret (.d (.bool (X))),[]):=by
 have c':=AFX T;have d5:=yB f;by_cases W:bg T=X
 .rw[W]at c';clear a2 W;exact zBy
 have ai:=mN W;rw[Bool.not_eq_true]at W;rw[W]at c';cases ag:looks f with
 |none=>
  have b2:¬O7 f=0:=by rw[O7,ag];decide
  clear a2 ai W;exact zBy
 |some lt=>
  have b2:O7 f=0:=by rw[O7,ag]
  rw[b2]at d5;have l:=EZ ag;have a0:=OM ag;have a':=Qg a0 lt.em;obtain⟨L,ex,fd,bc⟩:=Z2 H ag ai;obtain⟨T1,d3,bn,ch,cl⟩:=iJ H ag;have be:=iE l;cases a1:J1 f with
  |none=>rw[a1]at be;simp only[Ya,Pz,sA,Ox,Ce]at be;clear a2 ai W b2 bn ch cl d3 bc a' a0;replace l:=AB l;exact zBy
  |some eg=>
   rw[a1]at be;simp only[Ya,Pz,sA]at be;have b3:=(X1 l a1).1;have bx:=zg l a1;have bs:∀e,DQ f lt.em (DW f lt.em) e->GF f e (DW f lt.em) hQ eg.eq []:=λe t=>vI l a0 a' t a1;clear ai W b2 d3 a1;generalize eg.eq=o at*;replace l:=AB l;replace H:=AB H;replace a0:=AB a0;replace a':=AB a';replace bc:=AB bc;replace bn:=AB bn;replace ch:=AB ch;replace cl:=AB cl;replace b3:=AB b3;replace bx:=AB bx;replace bs:=AB bs;replace a2:=AB a2;refine BH func13 ?_;refine ax ?_;obtain⟨bl,bo⟩:∃bl:S,bl=[([0,0],.box (pC f)),([0,25],.box (sC o)),([0,33],.box [.d (.co (o.be.map CZ)),.d (.co (o.bv.map CY)),.d (.co (o.ac.map Fg)),.d (.co (o.waits.map Bf)),.d8,.d8])]:=⟨_,rfl⟩;rw[<-bo];have ds:bl.get [0,0]=J (.box (pC f)):=by rw[bo];simp only[go_sem]
   have d1:Dw bl [0,33] o [] [] .d8 .d8 []:=by refine⟨?_,.inl ⟨rfl,rfl⟩,.inl ⟨rfl,rfl⟩,rfl,λg f4 f0 e4=>by simp at e4,by simp[AE,Ab]⟩;rw[bo];simp only[go_sem]
   clear bo;refine Ak (my l.1 b3.1 d1 (by simp[AE,Ab];decide) (GS _) (GS _)) (λe5 Y O=>?_);obtain⟨rfl,p,r,s,D,c8,d8⟩:=O;rw[Gu,eo];have R:Dw (gc [37] Y) [0,33] (NV f o [] []).s (NV f o [] []).jp (NV f o [] []).f8 p r s:=D.mono λi w=>by
    rcases Cs.1 w with rfl|w
    .exact An _ _ _ Ad
    .rcases c8 i w with j|⟨j,ej,rfl⟩
     .simp[AE,Ab]at j
     .exact E1 _ _ _
   have P:(gc [37] Y).get [0,0]=J (.box (pC f)):=(An _ _ _ Ad).trans ((d8 [0,0] Ad (by simp[AE,Ab])).trans ds);have V:[0,0] ∉FC [0,33] p r s:=λw=>by
    rcases Cs.1 w with j|w
    .simp at j
    .rcases c8 _ w with j|⟨j,ej,et⟩
     .simp[AE,Ab]at j
     .simp at et
   clear D c8 d8 ds d1;generalize gc [37] Y=G at*;have h:SV f lt.em (DW f lt.em) (-1) (NV f o [] []):=⟨hQ,bx.1,bs.1⟩;clear bx bs;generalize NV f o [] []=x at*;replace R:=AB R;replace P:=AB P;replace V:=AB V;replace h:=AB h;refine ax ?_;have es:=(NK h.1).2.2.1;refine Tp [(2,.d (.co (n.map KY))),(3,.ptr [0,0] 0),(7,.d (.co (L.map Hn))),(12,.ptr [0,33] 0),(13,nI (-1))] rfl R.1 z (cs:=Sv f) P.1 V.1 zCO zCO zCO λa3 A B a4 bi bk cs b t a6 m dx d6 k=>?_;simp only[Bv,Ce,ren,t,a6];clear R P V t a6 be ex d5 c' es b3;refine rounds (B2:=λ(a:Int×PG×u×u×S×Nat)=>⟨[(2,.d (.co (n.map KY))),(3,.ptr a.2.2.1 0),(7,.d (.co (L.map Hn))),(12,.ptr a.2.2.2.1 0),(13,nI a.1)],a.2.2.2.2.1,a.2.2.2.2.2,[]⟩)
    (Inv:=λa=> -1<=a.1/\a.1<=60/\a.1<=(U n)/\AR (SV f lt.em (DW f lt.em) a.1 a.2.1/\∃p r s,Dw a.2.2.2.2.1 a.2.2.2.1 a.2.1.s a.2.1.jp a.2.1.f8 p r s/\a.2.2.2.2.1.get a.2.2.1=J (.box (pC f))/\a.2.2.1∉FC a.2.2.2.1 p r s/\∀i∈a.2.2.1::FC a.2.2.2.1 p r s,∃c g,g<a.2.2.2.2.2/\i=c::g::[])) (m:=λa=>(60-a.1).toNat) (a:=(-1,x,A,B,cs,b)) ⟨AZ,AZ,AZ,⟨h.1,a4,bi,bk,m,dx,d6,k⟩⟩ ?_
   clear h m dx d6 k a3 p r s G a4 bi bk;clear A B cs b x;rintro⟨i,x,A,B,cs,b⟩ ⟨i1,i2,i3,hI⟩ IH;obtain⟨h,p,r,s,m,t,q,k⟩:=hI.1;dsimp only at*;have f5:TC.wrap (i+1)=i+1:=w_ z z;obtain⟨M,d0⟩:∃M:Int,(if (60:Int)<(U n:Int)then(60:Int)else(U n:Int))=M:=⟨_,rfl⟩;by_cases e2:i<U n/\i<60
   .have e1:i<M:=by rw[<-d0];split<;>omega
    obtain⟨fl,fo⟩:=e2;obtain⟨N,ar,f1,av⟩:=NK h;by_cases d9:i<0
    focus
     have d':¬(0<=i):=z;replace h:=AB h;replace m:=AB m;replace q:=AB q;replace k:=AB k;replace N:=AB N;replace ar:=AB ar;replace av:=AB av;have v:SV f lt.em (DW f lt.em) (i+1) x:=by obtain⟨el,ek,e8⟩:=h.1;rw[show i.toNat=0 by omega]at ek;exact⟨el,by rw[show(i+1).toNat=0 by omega];exact ek,e8⟩
     have D:=m.1;have aa:=t;have ac:=q.1;replace v:=AB v;replace D:=AB D;replace aa:=AB aa;replace ac:=AB ac;refine ax ?_
     skip
    rotate_left 1
    have d':0<=i:=z;have dr:=m.box;have fs:=qZ l.1 N;by_cases fz:(Ee f x.s).length=0
    focus
     clear d9;replace h:=AB h;replace m:=AB m;replace q:=AB q;replace k:=AB k;replace N:=AB N;replace ar:=AB ar;replace av:=AB av;refine ax ?_;rw[Sf 1 0 _ rfl];exact af
    obtain⟨C,c9⟩:=g_ (l:=n) (i:=i.toNat) z;have eb:=a2.1 C (AP c9);have fi:TC.wrap (C:Int)=C:=w_ z z;have e3:C % (Ee f x.s).length<(Ee f x.s).length:=Nat.mod_lt _ z;have fv:Int.tmod (C:Int) ((Ee f x.s).length:Int)=((C % (Ee f x.s).length:Nat):Int):=rfl;obtain⟨az,bh⟩:=g_ e3;have b5:=AKb.1 (AP bh);have fr:¬((Ee f x.s).length:Int)=0:=z;have fp:((C % (Ee f x.s).length:Nat):Int)<((Ee f x.s).length:Int):=z;generalize C % (Ee f x.s).length=ef at*;clear d9;replace h:=AB h;replace m:=AB m;replace q:=AB q;replace k:=AB k;replace N:=AB N;replace ar:=AB ar;replace av:=AB av;replace eb:=AB eb;replace b5:=AB b5
    (repeat' (first|simp only[*,go_sem,AM]|(refine sx ?_ ?_<;>intro d4)|refine sy z λx ec ai=>?_|simp(disch:=first|assumption|omega) only[Ae]))
    obtain⟨b0,b4⟩:=AAI h.1 i2;refine Fk (AEx l.1 N.1 (uz ag (AM9 N.1)) b5.1 m.1 (λg ad=>Fj (k.1 g (By _ ad)) z) ar.1 av.1 b0 b4) λe5 Y O=>?_;unfold PD at O;rcases b1:DK f x.s az with _|b6
    .rw[b1]at O;dsimp only at O;subst O;replace b0:=AB b0;replace b4:=AB b4;clear dr c9 bh;refine ax ?_;rw[Sf 1 0 _ rfl];exact af
    rw[b1]at O;dsimp only at O;obtain⟨rfl,a4,bi,bk,d2,c7,d7⟩:=O;have v:=sV l.1 a0.1 a'.1 bn.1 d' h.1 b5.1 b1;rw[od,ALS];have uA:=Fj (k:=b+31) (k.1 A (CO ..)) z;have D:Dw (gc [b+31] Y) B (S8 f x az b6.eq).s (S8 f x az b6.eq).jp (S8 f x az b6.eq).f8 a4 bi bk:=d2.mono λg ad=>by
     rcases Cs.1 ad with rfl|ad
     .exact An _ _ _ (Fj (k.1 _ (By _ (CO ..))) z)
     .rcases c7 g ad with j|⟨j,ej,rfl⟩
      .exact An _ _ _ (Fj (k.1 g (By _ (By _ j))) z)
      .exact E1 _ _ _
    have aa:(gc [b+31] Y).get A=J (.box (pC f)):=(An _ _ _ uA).trans ((d7 A uA q.1).trans t);have ac:A∉FC B a4 bi bk:=λw=>by
     rcases Cs.1 w with j|w
     .exact q.1 (by rw[j];simp)
     .rcases c7 _ w with j|⟨j,_⟩
      .exact q.1 (By _ j)
      .rw[uA]at j;cases j
    clear d2 c7 d7 b1 b0 b4 dr c9 bh;generalize gc [b+31] Y=G at*;generalize S8 f x az b6.eq=x2 at*;replace v:=AB v;replace D:=AB D;replace aa:=AB aa;replace ac:=AB ac;clear t
    (repeat' (first|simp only[*,go_sem,AM]|(refine sx ?_ ?_<;>intro d4)|refine sy z λx ec ai=>?_|simp(disch:=first|assumption|omega) only[Ae]))
    skip
    all_goals
     have fc:=NK v.1;have c1:∀e∈L,vd _ _ _ e:=λe bv=>AEy l.1 z v.1 (bc.1 e bv).1 (bc.1 e bv).2.2;have dc:=AEz l.1 v.1;refine Tp [(2,.d (.co (n.map KY))),(3,.ptr A 0),(7,.d (.co (L.map Hn))),(12,.ptr B 0),(13,nI i),(83,.d (.co (L.map Hn))),(84,nI (U L)),(85,nI 0)] rfl D.1 z (cs:=Sv f) aa.1 ac.1 zCO zCO zCO λa3 b7 b' cp df dm cu cm t a6 R P V c2=>?_;simp only[Bv,Ce,ren,t,a6];replace c1:=AB c1;replace dc:=AB dc;clear D aa ac t a6;refine Ah L (B2:=λg (a:u×u×S×Nat)=>⟨[(2,.d (.co (n.map KY))),(3,.ptr a.1 0),(7,.d (.co (L.map Hn))),(12,.ptr a.2.1 0),(13,nI i),(83,.d (.co (L.map Hn))),(84,nI (U L)),(85,nI g)],a.2.2.1,a.2.2.2,[]⟩)
      (Inv:=λg f3 a=>AR (∃p r s,Dw a.2.2.1 a.2.1 _ _ _ p r s/\a.2.2.1.get a.1=J (.box (pC f))/\a.1∉FC a.2.1 p r s/\∀i∈a.1::FC a.2.1 p r s,∃c g,g<a.2.2.2/\i=c::g::[])) (b0:=(b7,b',cu,cm)) ⟨cp,df,dm,R,P,V,c2⟩ ?_ ?_
     .clear R P V c2 cp df dm cu cm b7 b' a3;rintro g e ⟨b8,cc,er,dq⟩ bv ad e0 c0 em;obtain⟨en,e7,e9,F,a5,K,Q⟩:=c0.1;dsimp only at F a5 K Q;have f6:TC.wrap ((g:Int)+1)=(g:Int)+1:=w_ z z;have c6:=λC (ea:dq<=C)=>AFD (p:=f) F (ρ:=[C]) (λaz bh=>Fj (Q az (By _ bh)) ea) (c1.1 e (AP bv)) (by have:=(NK v.1).1.small;have:=(NK v.1).2.1;simp only[BP.small,As,Dl]at*;omega) z dc.1;replace c6:=AB c6;replace F:=AB F;replace K:=AB K;replace Q:=AB Q
      (repeat' (first|simp only[*,go_sem,AM,Hn]|(refine sx ?_ ?_<;>intro d4)|refine sy z λx ec ai=>?_|simp(disch:=first|assumption|omega) only[Ae]))
      refine GI (c6.1 _ z) λf2 e' e6=>?_;subst e6;refine ax ?_;refine Tp [(2,.d (.co (n.map KY))),(3,.ptr b8 0),(7,.d (.co (L.map Hn))),(12,.ptr cc 0),(13,nI i),(83,.d (.co (L.map Hn))),(84,nI (U L)),(85,nI ((g:Int)+1))] rfl F.1 z (cs:=Sv f) a5 K.1 zCO zCO zCO λa3 b9 cd cq dj dn cv cn dd de c4 cx c5 c3=>?_;simp only[Bv,Ce,ren,dd,de];exact em.1 (b9,cd,cv,cn) ⟨cq,dj,dn,c4,cx,c5,c3⟩
     .clear R P V c2 cp df dm cu cm b7 b' a3;rintro g ⟨b8,cc,er,dq⟩ ad e0 c0;obtain⟨en,e7,e9,F,a5,K,Q⟩:=c0.1;dsimp only at F a5 K Q;replace F:=AB F;replace K:=AB K;replace Q:=AB Q;refine ax ?_;refine Tp [(2,.d (.co (n.map KY))),(3,.ptr b8 0),(7,.d (.co (L.map Hn))),(12,.ptr cc 0),(13,nI (i+1))] rfl F.1 z (cs:=Sv f) a5 K.1 zCO zCO zCO λa3 b9 cd cq dj dn cv cn dd de c4 cx c5 c3=>?_;simp only[Bv,Ce,ren,dd,de];exact IH.1 (i+1,_,b9,cd,cv,cn) AZ ⟨AZ,AZ,AZ,⟨v.1,cq,dj,dn,c4,cx,c5,c3⟩⟩
   .have e1:¬(i<M):=by rw[<-d0];split<;>omega
    replace h:=AB h;replace m:=AB m;replace q:=AB q;replace k:=AB k;exact af
