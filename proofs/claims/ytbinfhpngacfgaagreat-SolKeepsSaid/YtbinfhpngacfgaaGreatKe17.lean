/-
  Parts of it.
-/
import Derived.Test.YtbinfhpngacfgaaGreatKe10
import Derived.Test.YtbinfhpngacfgaaGreatKe12
import Derived.Test.YtbinfhpngacfgaaGreatKe13
import Derived.Test.YtbinfhpngacfgaaGreatKe15
import Derived.Test.YtbinfhpngacfgaaGreatKe16
set_option linter.all false
namespace Go.Proofs
open Go Go.Abs
set_option maxRecDepth 100000
def Nd{α:Type}(ss:List Sh)(enc:α→List Aa)(ok:α→Prop):Prop:= ∀xs,Kx Tryz.prog 8 ss xs→ ∃a,xs=enc a∧ok a
variable{d:Aa}
theorem GM{k:IntKind}(h:cK Tryz.prog 8 (.int k) d): ∃m,d=.int k m:=by cases h;exact⟨_,rfl⟩
variable{t:TypeId}{ss:List Sh}
theorem G6{α:Type}{enc:α→List Aa}{ok:α→Prop}(h:cK Tryz.prog 8 (.be t) d)(hs:C5 Tryz.prog 8 t=some ss)(hr:Nd ss enc ok): ∃l:List α,d=.be (l.map enc)∧l.length≤maxLen∧ ∀a∈l,ok a:=by
 cases h with
 |be _ ss' es h1 h2 h3 h4=>
  rw[hs]at h1;cases h1;have key: ∀es:List (List Aa),(∀e∈es,Kx Tryz.prog 8 ss e)→ ∃l:List α,es=l.map enc∧ ∀a∈l,ok a:=by
   intro es;induction es with
   |nil=>intro _;exact⟨[],rfl,by simp⟩
   |cons e es ih=>
    intro hk;obtain⟨a,rfl,ha⟩:=hr e (hk e (by simp));obtain⟨l,rfl,hl⟩:=ih fun e he=>hk e (by simp[he]);exact⟨a::l,rfl,fun b hb=>by rcases Co.1 hb with rfl|hb;exact ha;exact hl b hb⟩
  obtain⟨l,rfl,hl⟩:=key es fun e he=>⟨h3 e he,h4 e he⟩;exact⟨l,rfl,by simpa using h2,hl⟩
variable{s:Sh}{xs:List Aa}
theorem Wc(h:Kx Tryz.prog 8 [s] xs): ∃a,xs=[a]∧cK Tryz.prog 8 s a:=by
 obtain⟨h1,h2⟩:=h;rcases xs with _|⟨a,_|⟨b,l⟩⟩<;>simp at h1;exact⟨a,rfl,h2 0 _ _ rfl rfl⟩
theorem all_cons(h:Kx Tryz.prog 8 (s::ss) xs): ∃a l,xs=a::l∧cK Tryz.prog 8 s a∧Kx Tryz.prog 8 ss l:=by
 obtain⟨h1,h2⟩:=h;rcases xs with _|⟨a,l⟩
 .simp at h1
 .exact⟨a,l,rfl,h2 0 _ _ rfl rfl,by simpa using h1,fun i s x e1 e2=>h2 (i+1) s x (by simpa using e1) (by simpa using e2)⟩
theorem all_nil(h:Kx Tryz.prog 8 [] xs):xs=[]:=DL (by simpa using h.1)
theorem AH8:C5 Tryz.prog 8 85=some [.int .i64,.int .i64,.be 85]:=by kernel_rfl
theorem vZ(h:cK Tryz.prog 8 s d):s=.be 85→ ∃l:List Bc,d=.be (l.map Bg):=by
 induction h with
 |be t ss es h1 h2 h3 h4 ih=>
  intro e;cases e;rw[AH8]at h1;cases h1;have key: ∀es:List (List Aa),(∀e∈es,e.length=3)→(∀e∈es,∀(i:Nat) s x,[Sh.int .i64,.int .i64,.be 85][i]? =some s→e[i]? =some x→cK Tryz.prog 8 s x)→(∀e∈es,∀(i:Nat) s x,[Sh.int .i64,.int .i64,.be 85][i]? =some s→e[i]? =some x→s=.be 85→ ∃l:List Bc,x=.be (l.map Bg))→ ∃l:List Bc,es=l.map Bg:=by
   intro es;induction es with
   |nil=>intro _ _ _;exact⟨[],rfl⟩
   |cons e es ih2=>
    intro k1 k2 k3;obtain⟨l,rfl⟩:=ih2 (fun e he=>k1 e (by simp[he])) (fun e he=>k2 e (by simp[he])) fun e he=>k3 e (by simp[he]);have l3:=k1 e (by simp);rcases e with _|⟨a,_|⟨b,_|⟨c,_|⟨d,m⟩⟩⟩⟩<;>simp at l3;have q0:=k2 [a,b,c] (FD ..) 0 _ _ rfl rfl;have q1:=k2 [a,b,c] (FD ..) 1 _ _ rfl rfl;have q2:=k3 [a,b,c] (FD ..) 2 _ _ rfl rfl rfl;obtain⟨o,rfl⟩:=GM q0;obtain⟨n,rfl⟩:=GM q1;obtain⟨q,rfl⟩:=q2;exact⟨.mk o n q::l,by simp[VD,Bc.op,Bc.n,Bc.kids]⟩
  obtain⟨l,rfl⟩:=key es h3 h4 ih;exact⟨l,rfl⟩
 |_=>intro e;cases e
theorem Ux{ts:List TypeId}{xs:List AV}(h:Ru Tryz.prog 8 (t::ts) xs)(hs:C5 Tryz.prog 8 t=some ss): ∃ds l,xs=Qp Tryz.prog t ds::l∧Kx Tryz.prog 8 ss ds∧Ru Tryz.prog 8 ts l:=by
 cases h with
 |cons h1 h2 h3=>
  rw[hs]at h1;cases h1;exact⟨_,_,rfl,h2,h3⟩
theorem tE{xs:List AV}(h:Ru Tryz.prog 8 [] xs):xs=[]:=by cases h;rfl
noncomputable def QF(t:TypeId):Bool:=match Tryz.prog.underlying t with
 |some (.struct _)=>true
 |some (.array _ _)=>true
 |_=>false
theorem zl{ds:List Aa}(h:QF t=true):Qp Tryz.prog t ds=.agg (ds.map .d):=by
 unfold Qp;unfold QF at h;split<;>simp_all
theorem zm(h:QF t=false):Qp Tryz.prog t [d]=.d d:=by
 unfold Qp;unfold QF at h;split
 .simp_all
 .simp_all
 .rfl
@[go_sem] theorem AF4:BB (KL Tryz.prog cfg) 20 [] []=.ok (.ret (.d (.bool true)),[]):=by
  unfold BB;rw[wC];rfl
theorem sh3:C5 Tryz.prog 8 3=some [.int .i64]:=by kernel_rfl
theorem sh9:C5 Tryz.prog 8 9=some [.str]:=by kernel_rfl
theorem AGw:C5 Tryz.prog 8 140=some [.int .i64,.int .i64,.be 85,.be 3]:=by kernel_rfl
theorem AGx:C5 Tryz.prog 8 147=some [.be 187,.be 189,.be 151]:=by kernel_rfl
theorem AGz:C5 Tryz.prog 8 187=some [.int .i64,.int .i64]:=by kernel_rfl
theorem AG0:C5 Tryz.prog 8 189=some [.int .i64,.int .i64]:=by kernel_rfl
theorem AGy:C5 Tryz.prog 8 151=some [.int .i64,.be 3,.int .i64]:=by kernel_rfl
theorem AH5:C5 Tryz.prog 8 26=some [.be 9,.be 140,.be 147,.int .i64]:=by kernel_rfl
theorem AGF:QF 26=true:=by kernel_rfl
theorem QX:Nd [.int .i64] AJ fun _=>True:=fun xs h=>by
 obtain⟨a,rfl,ha⟩:=Wc h;obtain⟨k,rfl⟩:=GM ha;exact⟨k,rfl,trivial⟩
theorem vd(h:cK Tryz.prog 8 .str d): ∃m,d=.str m∧m.size≤maxLen:=by cases h;exact⟨_,rfl,by assumption⟩
theorem rP:Nd [.str] Av fun s=>s.size≤maxLen:=fun xs h=>by
 obtain⟨a,rfl,ha⟩:=Wc h;obtain⟨k,rfl,hk⟩:=vd ha;exact⟨k,rfl,hk⟩
theorem iH:Nd [.int .i64,.int .i64,.be 85,.be 3] Af fun _=>True:=fun xs h=>by
 obtain⟨a,l,rfl,ha,h⟩:=all_cons h;obtain⟨b,l,rfl,hb,h⟩:=all_cons h;obtain⟨c,l,rfl,hc,h⟩:=all_cons h;obtain⟨d,rfl,hd⟩:=Wc h;obtain⟨a,rfl⟩:=GM ha;obtain⟨b,rfl⟩:=GM hb;obtain⟨c,rfl⟩:=vZ hc rfl;obtain⟨d,rfl,_,_⟩:=G6 hd sh3 QX;exact⟨⟨a,b,c,d⟩,rfl,trivial⟩
theorem iE:Nd [.int .i64,.int .i64] A3 fun _=>True:=fun xs h=>by
 obtain⟨a,l,rfl,ha,h⟩:=all_cons h;obtain⟨b,rfl,hb⟩:=Wc h;obtain⟨a,rfl⟩:=GM ha;obtain⟨b,rfl⟩:=GM hb;exact⟨⟨a,b⟩,rfl,trivial⟩
theorem bL:Nd [.int .i64,.int .i64] Ao fun _=>True:=fun xs h=>by
 obtain⟨a,l,rfl,ha,h⟩:=all_cons h;obtain⟨b,rfl,hb⟩:=Wc h;obtain⟨a,rfl⟩:=GM ha;obtain⟨b,rfl⟩:=GM hb;exact⟨⟨a,b⟩,rfl,trivial⟩
theorem iK:Nd [.int .i64,.be 3,.int .i64] A0 fun _=>True:=fun xs h=>by
 obtain⟨a,l,rfl,ha,h⟩:=all_cons h;obtain⟨b,l,rfl,hb,h⟩:=all_cons h;obtain⟨c,rfl,hc⟩:=Wc h;obtain⟨a,rfl⟩:=GM ha;obtain⟨b,rfl,_,_⟩:=G6 hb sh3 QX;obtain⟨c,rfl⟩:=GM hc;exact⟨⟨a,b,c⟩,rfl,trivial⟩
theorem rN:Nd [.be 187,.be 189,.be 151] Ax fun _=>True:=fun xs h=>by
 obtain⟨a,l,rfl,ha,h⟩:=all_cons h;obtain⟨b,l,rfl,hb,h⟩:=all_cons h;obtain⟨c,rfl,hc⟩:=Wc h;obtain⟨a,rfl,_,_⟩:=G6 ha AGz iE;obtain⟨b,rfl,_,_⟩:=G6 hb AG0 bL;obtain⟨c,rfl,_,_⟩:=G6 hc AGy iK;exact⟨⟨a,b,c⟩,rfl,trivial⟩
theorem iJ:Nd [.be 9,.be 140,.be 147,.int .i64] AAL fun p=> ∀s∈p.free,s.size≤maxLen:=fun xs h=>by
 obtain⟨a,l,rfl,ha,h⟩:=all_cons h;obtain⟨b,l,rfl,hb,h⟩:=all_cons h;obtain⟨c,l,rfl,hc,h⟩:=all_cons h;obtain⟨d,rfl,hd⟩:=Wc h;obtain⟨a,rfl,_,hs⟩:=G6 ha sh9 rP;obtain⟨b,rfl,_,_⟩:=G6 hb AGw iH;obtain⟨c,rfl,_,_⟩:=G6 hc AGx rN;obtain⟨d,rfl⟩:=GM hd;exact⟨⟨a,b,c,d⟩,rfl,hs⟩
theorem AH7:C5 Tryz.prog 8 36=some [.be 3]:=by kernel_rfl
theorem AGH:QF 36=false:=by kernel_rfl
def jW(l:List Int):List Aa:=[.be (l.map AJ)]
theorem iG:Nd [.be 3] jW fun l=>l.length≤maxLen:=fun xs h=>by
 obtain⟨a,rfl,ha⟩:=Wc h;obtain⟨l,rfl,hl,hn⟩:=G6 ha sh3 QX;exact⟨l,rfl,hl⟩
set_option maxHeartbeats 4000000
theorem zu(b:Nat)(e:Bn)(h:AD)(bs:Nat)(π:List Nat)(ce:Option (List Nat))(wp:Bool)(nt:Nat):Et cfg ⟨7,π,false,ce,wp,nt⟩ b ⟨e,h,bs,[]⟩=K3 cfg 7 π b e h:=by
 rw[E0];exact Mx _ _ _ _ _
attribute [go_sem 2000] zu
abbrev gj(p:AL):List Aa:=[.be (p.free.map Av),.be (p.nodes.map Af),.be (p.defs.map Ax),.int .i64 p.main]
abbrev RV(s:BF):List Aa:=[.be (s.ac.map Ab),.be (s.bv.map Ar),.be (s.am.map Bm),.be (s.waits.map AW)]
abbrev iZ(x:Cc):List Aa:=[.int .i64 x.wait,.int .i64 x.group,.int .i64 x.i9,.be (x.it.map AJ)]
theorem rm{g:G}{l R t:List (List CV)}(h:l=R++t):ET g .slice 1 (.d (.be (l.map BG))) none (some (.d (.int .i64 (R.length:Int)))) none=some (.d (.be (R.map BG))):=by
 rw[Th (f:=BG) (sz:=1) (fun _=>rfl) (by omega) (by rw[h,Bi];omega),h,GO,List.take_left' rfl]
theorem Xq{p:AL}{sz:List Int}{s:BF}{x:Cc}(hF:BK p sz)(hs:FH p sz s)(h:Kz p s x):x.wait<0→ ∃g d r,so p s x g d r:=by
 intro hw;cases h with
 |wait _ _=>dsimp only at hw;omega
 |i9 h1 h2 h3 h4 h5=>
  obtain⟨d2,hd⟩:=hs.grp _ _ h1;have hd2:=hd.f8;rw[h2]at hd2;cases hd2;have hri:=Ix hF hs h1 hd (Ac h3);refine⟨_,_,_,by dsimp only;omega,h1,(Dx h2).1,(Dx h2).2,by dsimp only;omega,h3,?_,hri.j1⟩;have:=h5.len;rw[BP,BI]at this;exact this.symm
theorem nf(p:AL)(ks:List Int)(hp: ∀s∈p.free,s.size≤maxLen)(hk:ks.length≤maxLen):BB (KL Tryz.prog cfg) 7 [pA p,.d (.be (ks.map AJ))] []=.ok (.ret (.d (.bool true)),[]):=by
 have h1:=sU p hp;replace hp:=AA.mk hp;cases hlk:looks p with
 |none=>
  rw[JW,hlk,CI (by simp)]at h1;simp only[Q2,sA,HH,Dl]at h1
  (refine Ae rfl Tryz.func7 rfl rfl rfl ?_;show Wp _ _ _ _ (Tryz.f7.body.get rfl) _ _;simp only[Tryz.f7,AS])
  exact au
 |some lt=>
  rw[JW,hlk,D0 (show(some lt).isSome=true from rfl)]at h1;have hF:=CF hlk;cases hfo:Jy p with
  |none=>
   rw[hfo]at h1;simp only[Zr,Q2,sA,HH,Dl]at h1
   (refine Ae rfl Tryz.func7 rfl rfl rfl ?_;show Wp _ _ _ _ (Tryz.f7.body.get rfl) _ _;simp only[Tryz.f7,AS])
   exact au
  |some st=>
   rw[hfo]at h1;simp only[Zr,Q2,sA]at h1;obtain⟨f1,f2,f3⟩:=dH hF hfo;have hse:BU p st.em=0:=by rw[BU,hlk];simp[Ti f1]
   have h2:=Uh p st.em;rw[hse]at h2;replace f1:=AA.mk f1;replace f3:=AA.mk f3;replace hF:=AA.mk hF;replace hse:=AA.mk hse;by_cases h60:(60:Int)<ks.length
   ·(refine Ae rfl Tryz.func7 rfl rfl rfl ?_;show Wp _ _ _ _ (Tryz.f7.body.get rfl) _ _;simp only[Tryz.f7,AS])
    exact au
   ·(refine Ae rfl Tryz.func7 rfl rfl rfl ?_;show Wp _ _ _ _ (Tryz.f7.body.get rfl) _ _;simp only[Tryz.f7,AS])
    (repeat' (first|simp only[go_sem, *]|(refine sx ?_ ?_<;>intro hc)|refine sy (by omega) fun x hx hm=>?_|simp(disch:=first|assumption|omega) only[AK]))
    refine KX (v:=.co) (sz:=0) (es:=[]) [(1,.d (.be (ks.map AJ))),(2,.ptr [0,0] 0),(5,.ptr [0,8] 0),(8,.d (.int .i64 (0)))] [([0,0],gj p),([0,8],RV st.em)] rfl (by simp[G7,AF,Az]) (by simp) (CJ (by simp only[go_sem,Cs]) (KK (by simp only[go_sem,Cs]))) (.inl ⟨rfl,rfl⟩) fun ν g b hN hZ=>?_;obtain⟨A,hA,bA⟩:=hN ([0,0],gj p) (by simp);obtain⟨B,hB,bB⟩:=hN ([0,8],RV st.em) (by simp);simp only at hA hB bA bB;simp only[Cs,Dl,Gm,hA,hB];refine rounds (S:=fun(a:Nat×BF×(Abs.Id×Abs.Id)×AD×Nat)=>⟨[(1,.d (.be (ks.map AJ))),(2,.ptr a.2.2.1.1 0),(5,.ptr a.2.2.1.2 0),(8,.d (.int .i64 (a.1)))],a.2.2.2.1,a.2.2.2.2,[]⟩)
     (Inv:=fun a=>a.1≤ks.length∧AA (FH p lt.ci a.2.1)∧AA (Bx a.2.2.2.1 a.2.2.2.2 a.2.2.1.1 (gj p)∧Bx a.2.2.2.1 a.2.2.2.2 a.2.2.1.2 (RV a.2.1))) (m:=fun a=>ks.length-a.1) (a:=(0,st.em,(A,B),g,b)) ⟨I5 _,⟨f1.out⟩,⟨bA,bB⟩⟩ ?_
    clear hA hB bA bB hN hZ;clear A B g b ν;clear h1 h2 f1 f2 f3 hse hfo;clear st;rintro⟨i,s,⟨A,B⟩,g,b⟩ ⟨hil,hs,hbx⟩ IH;dsimp only at*;obtain⟨bA,bB⟩:=hbx.out;clear hbx;have na:=Gk bA.name;have na':=MU bA.name;have nb:=Gk bB.name;have nb':=MU bB.name;have gA:=bA.get;have gB:=bB.get;simp only[Cs,Dl]at gA gB;have AB:Id.is A B=false:=AE fun e=>by rw[e,gB]at gA;simp at gA
    have BA:Id.is B A=false:=AE fun e=>by rw[←e,gB]at gA;simp at gA
    replace bA:=AA.mk bA;replace bB:=AA.mk bB;by_cases hi:i<ks.length
    .have hii:(i:Int)<ks.length:=by omega
     obtain⟨k,hkk⟩:=get_some hi;have hse:BU p s=0:=by rw[BU,hlk];simp[Ti hs.out]
     have hC:=kD p s hp.out;rw[Yn hse,hse]at hC;obtain⟨n,hn⟩: ∃n,n=(BZ p s).length:=⟨_,rfl⟩;rw[←hn]at hC;by_cases hT0:(n:Int)=0
     .replace hse:=AA.mk hse;replace hn:=AA.mk hn
      (repeat' (first|simp only[go_sem, *]|(refine sx ?_ ?_<;>intro hc)|refine sy (by omega) fun x hx hm=>?_|simp(disch:=first|assumption|omega) only[AK]))
      rw[Oo 1 0 _ rfl];exact au
     .obtain⟨j,hj⟩: ∃j,j=(max k 0).toNat % n:=⟨_,rfl⟩;have hjn:j<n:=by rw[hj];exact Nat.mod_lt _ (by omega)
      obtain⟨x,hx⟩:=get_some (l:=BZ p s) (i:=j) (by omega);have hidx:(if 0>k then 0 else k).tmod (n:Int)=(j:Int):=yF hj;have hxm:=Ac hx;have hst:=Xp.1 hxm;have hN:=zg p s j hp.out;rw[TF hse (by omega) (by simpa using hx)]at hN;have hD:=ADq p s x hp.out;rw[W4 hse hxm]at hD;have hS:=cQ hF.out hs.out;have hM:=s8 (BZ p s) x (by have:=Qi hF.out hs.out;omega) (fun y hy=>by have:=bq hF.out hs.out hy;omega);rw[Ci hxm]at hM;simp only[OW]at hN hD hM;replace hse:=AA.mk hse;replace hn:=AA.mk hn;replace hj:=AA.mk hj;replace hx:=AA.mk hx;have c1: ¬b+11=b:=by omega
      have c2: ¬b=b+11:=by omega
      cases hds:Di p s x with
      |none=>
       rw[hds]at hD;simp only[Zr,Q2,sA,HH,Dl]at hD
       (repeat' (first|simp only[go_sem, *]|(refine sx ?_ ?_<;>intro hc)|refine sy (by omega) fun x hx hm=>?_|simp(disch:=first|assumption|omega) only[AK]))
       rw[Oo 1 0 _ rfl];exact au
      |some m=>
       rw[hds]at hD;simp only[Zr,Q2,sA]at hD;obtain⟨q1,q2,q3⟩:=ry hF.out hs.out hst hds;obtain⟨hG,hQ⟩:=ik hF.out hs.out hst hds;have hse2:BU p m.em=0:=by rw[BU,hlk];simp[Ti q1]
       have h4:=Uh p m.em;rw[hse2]at h4;have hF1:=OU hlk (Ti hs.out);have hF2:=OU hlk (Ti q1);have hGr:=vY s m.em hG hF1.ac hF1.bv (by have:=hF1.am;omega) hF1.group;have hm0: ¬(m.ev.length:Int)=0:=fun e=>q2 (DL (by omega));have hml:(m.ev.length:Int)≤1000000:=by omega
       have hr:=Xq hF.out hs.out hst;replace hse2:=AA.mk hse2;replace hst:=AA.mk hst;replace hG:=AA.mk hG;replace hQ:=AA.mk hQ;replace hF1:=AA.mk hF1;replace hF2:=AA.mk hF2;replace q1:=AA.mk q1;replace hr:=AA.mk hr;clear q2 q3 hxm hds
       (repeat' (first|simp only[go_sem, *]|(refine sx ?_ ?_<;>intro hc)|refine sy (by omega) fun x hx hm=>?_|simp(disch:=first|assumption|omega) only[AK]))
       refine KX (v:=.co) (sz:=0) (es:=[]) [(1,.d (.be (ks.map AJ))),(2,.ptr A 0),(5,.ptr B 0),(8,.d (.int .i64 (i))),(11,.ptr [0,b+29] 0),(12,.ptr [0,b+40] 0),(15,.d (.int .i64 (0)))] [(A,gj p),(B,RV s),([0,b+29],iZ x),([0,b+40],RV m.em)] rfl (by simp[G7,AF,Az]) (by simp) (CJ (by simp only[go_sem,Cs,gA,na]) (CJ (by simp only[go_sem,Cs,gB,nb]) (CJ (by simp only[go_sem,Cs,c1,c2]) (KK (by simp only[go_sem,Cs]))))) (.inl ⟨rfl,rfl⟩) fun ν g2 b2 hN hZ=>?_;obtain⟨A1,hA,bA1⟩:=hN (A,gj p) (by simp);obtain⟨B1,hB,bB1⟩:=hN (B,RV s) (by simp);obtain⟨X,hX,bX⟩:=hN ([0,b+29],iZ x) (by simp);obtain⟨Y,hY,bY⟩:=hN ([0,b+40],RV m.em) (by simp);simp only at hA hB hX hY bA1 bB1 bX bY;simp only[Cs,Dl,Gm,hA,hB,hX,hY];refine Ah s.am (S:=fun c (a:(Abs.Id×Abs.Id×Abs.Id×Abs.Id)×AD×Nat)=>⟨[(1,.d (.be (ks.map AJ))),(2,.ptr a.1.1 0),(5,.ptr a.1.2.1 0),(8,.d (.int .i64 (i))),(11,.ptr a.1.2.2.1 0),(12,.ptr a.1.2.2.2 0),(15,.d (.int .i64 (c)))],a.2.1,a.2.2,[]⟩)
        (Inv:=fun _ _ a=>AA (Bx a.2.1 a.2.2 a.1.1 (gj p)∧Bx a.2.1 a.2.2 a.1.2.1 (RV s)∧Bx a.2.1 a.2.2 a.1.2.2.1 (iZ x)∧Bx a.2.1 a.2.2 a.1.2.2.2 (RV m.em))) (b0:=((A1,B1,X,Y),g2,b2)) ⟨bA1,bB1,bX,bY⟩ ?_ ?_
       .clear hA hB hX hY bA1 bB1 bX bY hN hZ;clear A1 B1 X Y g2 b2 ν;clear na na' nb nb' gA gB AB BA bA bB c1 c2 hD h4 hGr hS hM hC hidx;rintro c q ⟨⟨A,B,X,Y⟩,g,b⟩ hq hc hcm hI IHc;dsimp only at*;obtain⟨bA,bB,bX,bY⟩:=hI.out;clear hI;have na:=Gk bA.name;have nb:=Gk bB.name;have nx:=Gk bX.name;have ny:=Gk bY.name;have gA:=bA.get;have gB:=bB.get;have gX:=bX.get;have gY:=bY.get;simp only[Cs,Dl]at gA gB gX gY;replace bA:=AA.mk bA;replace bB:=AA.mk bB;replace bX:=AA.mk bX;replace bY:=AA.mk bY;have hcb:=hF1.out.am;have w1:IntKind.i64.wrap ((c:Int)+1)=(c:Int)+1:=wrap_id (by omega) (by omega);obtain⟨q',hq',hK⟩:=hQ.out c q hq;obtain⟨t0,t1⟩:=hK.at_;obtain⟨y,hy⟩:=get_some (l:=m.em.ac) (i:=q'.at_.toNat) (by omega);have hcl':=AI hq';have hdd:AY m.em.ac q'.at_=y.dead:=by simp[AY,hy]
        replace hK:=AA.mk hK;have hgo:=AA.mk fun(A B X Y:Abs.Id) (E:Bn) (H:AD) (z1:J4 E (cfg.live 7 2)=[(1,.d (.be (ks.map AJ))),(2,.ptr A 0),(5,.ptr B 0),(8,.d (.int .i64 (i))),(11,.ptr X 0),(12,.ptr Y 0),(15,.d (.int .i64 ((c:Int)+1)))]) (z2: ∀y∈ [(A,gj p),(B,RV s),(X,iZ x),(Y,RV m.em)],H.get y.1=some (.box (y.2.map .d)))=>KX (v:=.co) (sz:=0) (es:=[]) _ _ z1 (by simp[G7,AF,Az]) (by simp) z2 (.inl ⟨rfl,rfl⟩) fun ν g2 b2 hN hZ=>by
         obtain⟨A1,hA,bA1⟩:=hN (A,gj p) (by simp);obtain⟨B1,hB,bB1⟩:=hN (B,RV s) (by simp);obtain⟨X1,hX,bX1⟩:=hN (X,iZ x) (by simp);obtain⟨Y1,hY,bY1⟩:=hN (Y,RV m.em) (by simp);simp only at hA hB hX hY bA1 bB1 bX1 bY1;simp only[Cs,Dl,Gm,hA,hB,hX,hY];exact IHc.out ((A1,B1,X1,Y1),g2,b2) ⟨bA1,bB1,bX1,bY1⟩
        cases hyd:y.dead with
        |true=>
         have hz:=hK.out.dead (by rw[hdd,hyd]);replace hdd:=AA.mk hdd
         (repeat' (first|simp only[go_sem, *]|(refine sx ?_ ?_<;>intro hc)|refine sy (by omega) fun x hx hm=>?_|simp(disch:=first|assumption|omega) only[AK]))
         exact hgo.out _ _ _ _ _ _ rfl (CJ gA (CJ gB (CJ gX (KK gY))))
        |false=>
         obtain⟨l,hl⟩:=hK.out.live (by rw[hdd,hyd]);obtain⟨at_,hat⟩: ∃a,a=FE p s x q:=⟨_,rfl⟩;have hTk:=y7 p s x c q hq hr.out;rw[←hat]at hTk hl;have hql:=(hF1.out.chan q (Ac hq)).1;replace hdd:=AA.mk hdd;replace hat:=AA.mk hat;replace hl:=AA.mk hl
         (repeat' (first|simp only[go_sem, *]|(refine sx ?_ ?_<;>intro hc)|refine sy (by omega) fun x hx hm=>?_|simp(disch:=first|assumption|omega) only[AK]))
         refine KX (v:=.co) (sz:=1) (es:=[]) [(1,.d (.be (ks.map AJ))),(2,.ptr A 0),(5,.ptr B 0),(8,.d (.int .i64 (i))),(11,.ptr X 0),(12,.ptr Y 0),(15,.d (.int .i64 (c))),(16,.co),(17,.d (.be (q.queue.map BG))),(18,.d (.int .i64 (at_))),(19,.d (.int .i64 (0)))] [(A,gj p),(B,RV s),(X,iZ x),(Y,RV m.em)] rfl (by simp[G7,AF,Az]) (by simp) (CJ gA (CJ gB (CJ gX (KK gY)))) (.inl ⟨rfl,rfl⟩) fun ν g2 b2 hN hZ=>?_;obtain⟨A1,hA,bA1⟩:=hN (A,gj p) (by simp);obtain⟨B1,hB,bB1⟩:=hN (B,RV s) (by simp);obtain⟨X1,hX,bX1⟩:=hN (X,iZ x) (by simp);obtain⟨Y1,hY,bY1⟩:=hN (Y,RV m.em) (by simp);simp only at hA hB hX hY bA1 bB1 bX1 bY1;simp only[Gm]at hZ;simp only[Cs,Dl,Gm,hA,hB,hX,hY];refine Ah q.queue (S:=fun j (a:(Abs.Id×Abs.Id×Abs.Id×Abs.Id)×AV×AD×Nat)=>⟨[(1,.d (.be (ks.map AJ))),(2,.ptr a.1.1 0),(5,.ptr a.1.2.1 0),(8,.d (.int .i64 (i))),(11,.ptr a.1.2.2.1 0),(12,.ptr a.1.2.2.2 0),(15,.d (.int .i64 (c))),(16,a.2.1),(17,.d (.be (q.queue.map BG))),(18,.d (.int .i64 (at_))),(19,.d (.int .i64 (j)))],a.2.2.1,a.2.2.2,[]⟩)
          (Inv:=fun j _ a=>AA (Bx a.2.2.1 a.2.2.2 a.1.1 (gj p)∧Bx a.2.2.1 a.2.2.2 a.1.2.1 (RV s)∧Bx a.2.2.1 a.2.2.2 a.1.2.2.1 (iZ x)∧Bx a.2.2.1 a.2.2.2 a.1.2.2.2 (RV m.em))∧AA (Sx a.2.2.1 a.2.2.2 1 a.2.1 ((Fm (q.queue.take j) at_).map BG))) (b0:=((A1,B1,X1,Y1),.co,g2,b2)) ⟨⟨bA1,bB1,bX1,bY1⟩,⟨by rw[Rt];unfold Fm Bh;simp;exact hZ⟩⟩ ?_ ?_
         .clear hA hB hX hY bA1 bB1 bX1 bY1 hN hZ na nb nx ny gA gB gX gY bA bB bX bY;clear A1 B1 X1 Y1 g2 b2 ν A B X Y g b;clear hTk w1;rintro j u ⟨⟨A,B,X,Y⟩,v,g,b⟩ hu hj hjm ⟨hI,hV⟩ IHj;dsimp only at*;obtain⟨bA,bB,bX,bY⟩:=hI.out;clear hI;have na:=Gk bA.name;have nb:=Gk bB.name;have nx:=Gk bX.name;have ny:=Gk bY.name;have gA:=bA.get;have gB:=bB.get;have gX:=bX.get;have gY:=bY.get;simp only[Cs,Dl]at gA gB gX gY;replace bA:=AA.mk bA;replace bB:=AA.mk bB;replace bX:=AA.mk bX;replace bY:=AA.mk bY;have w1:IntKind.i64.wrap ((j:Int)+1)=(j:Int)+1:=wrap_id (by omega) (by omega);have hjl:(q.queue.take j).length=j:=by have:=AI hu;rw[Hw];omega
          have hTs:q.queue.take (j+1)=q.queue.take j++[u]:=by rw[GC,hu];rfl
          obtain⟨T,hT⟩: ∃T,T=Fm (q.queue.take j) at_:=⟨_,rfl⟩;have hTl:T.length≤1000000:=by
           rw[hT,Fm];split
           .have:=MC (q.queue.take j) at_;omega
           .omega
          have hfin:=AA.mk fun(E:Bn) (H:AD) (v':AV) (z1:J4 E (cfg.live 7 4)=[(1,.d (.be (ks.map AJ))),(2,.ptr A 0),(5,.ptr B 0),(8,.d (.int .i64 (i))),(11,.ptr X 0),(12,.ptr Y 0),(15,.d (.int .i64 (c))),(16,v'),(17,.d (.be (q.queue.map BG))),(18,.d (.int .i64 (at_))),(19,.d (.int .i64 ((j:Int)+1)))]) (z2: ∀y∈ [(A,gj p),(B,RV s),(X,iZ x),(Y,RV m.em)],H.get y.1=some (.box (y.2.map .d))) (z3:Ju H 1 v' ((Fm (q.queue.take (j+1)) at_).map BG))=>KX _ _ z1 (by simp[G7,AF,Az]) (by simp) z2 z3 fun ν g2 b2 hN hZ=>by
           obtain⟨A1,hA,bA1⟩:=hN (A,gj p) (by simp);obtain⟨B1,hB,bB1⟩:=hN (B,RV s) (by simp);obtain⟨X1,hX,bX1⟩:=hN (X,iZ x) (by simp);obtain⟨Y1,hY,bY1⟩:=hN (Y,RV m.em) (by simp);simp only at hA hB hX hY bA1 bB1 bX1 bY1;simp only[Cs,Dl,Gm,hA,hB,hX,hY];exact IHj.out ((A1,B1,X1,Y1),Gm ν v',g2,b2) ⟨⟨bA1,bB1,bX1,bY1⟩,⟨hZ⟩⟩
          by_cases hja:(j:Int)=at_
          .have hE:Fm (q.queue.take (j+1)) at_=Fm (q.queue.take j) at_:=by rw[hTs,ACv (by omega),E4 (.inl (by omega))]
           rw[hE]at hfin;clear hE hTs hT hTl hjl;subst hja
           (repeat' (first|simp only[go_sem, *]|(refine sx ?_ ?_<;>intro hc)|refine sy (by omega) fun x hx hm=>?_|simp(disch:=first|assumption|omega) only[AK]))
           exact hfin.out _ _ _ rfl (CJ gA (CJ gB (CJ gX (KK gY)))) hV.out.wd
          .have hE:Fm (q.queue.take (j+1)) at_=T++[u]:=by rw[hTs,rZ (by omega),hT]
           rw[hE,D1]at hfin;rw[←hT]at hV;have hnv:=AA.mk hV.out.name;clear hE hTs hjl;replace hT:=AA.mk hT;rcases hV.out.wd with⟨rfl,hz⟩|⟨id,xs,rfl,gv⟩
           .clear hV;have hz2:=F5.1 hz;clear hz
            (repeat' (first|simp only[go_sem, *]|(refine sx ?_ ?_<;>intro hc)|refine sy (by omega) fun x hx hm=>?_|simp(disch:=first|assumption|omega) only[AK]))
            exact hfin.out _ _ _ rfl (CJ (by simp only[go_sem,na,gA,AM]) (CJ (by simp only[go_sem,nb,gB,AM]) (CJ (by simp only[go_sem,nx,gX,AM]) (KK (by simp only[go_sem,ny,gY,AM]))))) (BR [] (by rw[hz2];rfl) (by rw[hz2];simp only[go_sem]))
           .clear hV;rw[BI];have ni:=Gk (hnv.out id (by simp[AF]));have ni':=MU (hnv.out id (by simp[AF]));have ai:Id.is A id=false:=AE fun e=>by rw[←e,gA]at gv;cases gv
            have ia:Id.is id A=false:=AE fun e=>by rw[e,gA]at gv;cases gv
            have bi:Id.is B id=false:=AE fun e=>by rw[←e,gB]at gv;cases gv
            have ib:Id.is id B=false:=AE fun e=>by rw[e,gB]at gv;cases gv
            have xi:Id.is X id=false:=AE fun e=>by rw[←e,gX]at gv;cases gv
            have ix:Id.is id X=false:=AE fun e=>by rw[e,gX]at gv;cases gv
            have yi:Id.is Y id=false:=AE fun e=>by rw[←e,gY]at gv;cases gv
            have iy:Id.is id Y=false:=AE fun e=>by rw[e,gY]at gv;cases gv
            rcases xs with _|⟨z,zs⟩;all_goals
             (repeat' (first|simp only[go_sem, *]|(refine sx ?_ ?_<;>intro hc)|refine sy (by omega) fun x hx hm=>?_|simp(disch:=first|assumption|omega) only[AK]))
             refine hfin.out _ _ _ rfl (CJ (by simp only[go_sem,na,gA,ia,AM]) (CJ (by simp only[go_sem,nb,gB,ib,AM]) (CJ (by simp only[go_sem,nx,gX,ix,AM]) (KK (by simp only[go_sem,ny,gY,iy,AM]))))) ?_;first
             |(refine BR [] (by simp) ?_;simp only[go_sem,ni,ni',D6];done)
             |(refine BR zs (by simp) ?_;simp only[go_sem,ni,ni',D9,F3,HM])
         .clear hA hB hX hY bA1 bB1 bX1 bY1 hN hZ na nb nx ny gA gB gX gY bA bB bX bY;clear A1 B1 X1 Y1 g2 b2 ν A B X Y g b;clear hTk;rintro j ⟨⟨A,B,X,Y⟩,v,g,b⟩ hj hjm ⟨hI,hV⟩;dsimp only at*;obtain⟨bA,bB,bX,bY⟩:=hI.out;clear hI;have na:=Gk bA.name;have nb:=Gk bB.name;have nx:=Gk bX.name;have ny:=Gk bY.name;have gA:=bA.get;have gB:=bB.get;have gX:=bX.get;have gY:=bY.get;simp only[Cs,Dl]at gA gB gX gY;replace bA:=AA.mk bA;replace bB:=AA.mk bB;replace bX:=AA.mk bX;replace bY:=AA.mk bY;rw[hj.out,EL]at hV;obtain⟨R,hR⟩: ∃R,R=Fm q.queue at_:=⟨_,rfl⟩;rw[←hR]at hV hl;have hqq:=hl.out;have hRl:R.length≤q'.queue.length:=by rw[hqq];simp
          have hql':=(hF2.out.chan q' (Ac hq'));have hsq:=Xl R (by omega) fun u hu=>hql'.2 u (by rw[hqq];exact Ge _ hu);have hcut: ∀g,ET g .slice 1 (.d (.be (q'.queue.map BG))) none (some (.d (.int .i64 (R.length:Int)))) none=some (.d (.be (R.map BG))):=fun g=>rm hqq;have hnl: ¬(q'.queue.length:Int)<R.length:=by omega
          replace hqq:=AA.mk hqq;replace hR:=AA.mk hR;rcases hV.out.wd with⟨rfl,hz⟩|⟨id,xs,rfl,gv⟩
          .clear hV;obtain rfl:=F5.1 hz;clear hz;have hsq0:BB (KL Tryz.prog cfg) 37 [.d (.be []),.d (.be [])] []=.ok (.ret (.d (.bool (true))),[]):=hsq;have hcut0: ∀g,ET g .slice 1 (.d (.be (q'.queue.map BG))) none (some (.d (.int .i64 0))) none=some (.d (.be [])):=hcut;have hnl0: ¬(q'.queue.length:Int)<0:=by omega
           clear hsq hcut hnl
           (repeat' (first|simp only[go_sem, *]|(refine sx ?_ ?_<;>intro hc)|refine sy (by omega) fun x hx hm=>?_|simp(disch:=first|assumption|omega) only[AK]))
           exact hgo.out _ _ _ _ _ _ rfl (CJ gA (CJ gB (CJ gX (KK gY))))
          .clear hV;rw[BI]
           (repeat' (first|simp only[go_sem, *]|(refine sx ?_ ?_<;>intro hc)|refine sy (by omega) fun x hx hm=>?_|simp(disch:=first|assumption|omega) only[AK]))
           exact hgo.out _ _ _ _ _ _ rfl (CJ gA (CJ gB (CJ gX (KK gY))))
       .clear hA hB hX hY bA1 bB1 bX bY hN hZ;clear A1 B1 X Y g2 b2 ν;clear na na' nb nb' gA gB AB BA bA bB c1 c2 hD h4 hGr hS hM hC hidx;rintro c ⟨⟨A,B,X,Y⟩,g,b⟩ hc hcm hI;dsimp only at*;obtain⟨bA,bB,bX,bY⟩:=hI.out;clear hI;have gA:=bA.get;have gB:=bB.get;have gX:=bX.get;have gY:=bY.get;simp only[Cs,Dl]at gA gB gX gY;have BA:Id.is B A=false:=AE fun e=>by rw[←e,gB]at gA;simp at gA
        have w1:IntKind.i64.wrap ((i:Int)+1)=(i:Int)+1:=wrap_id (by omega) (by omega)
        (repeat' (first|simp only[go_sem, *]|(refine sx ?_ ?_<;>intro hc)|refine sy (by omega) fun x hx hm=>?_|simp(disch:=first|assumption|omega) only[AK]))
        refine KX (v:=.co) (sz:=0) (es:=[]) [(1,.d (.be (ks.map AJ))),(2,.ptr A 0),(5,.ptr B 0),(8,.d (.int .i64 ((i:Int)+1)))] [(A,gj p),(B,RV m.em)] rfl (by simp[G7,AF,Az]) (by simp) (CJ (by simp only[go_sem,Cs,gA,BA,AM]) (KK (by simp only[go_sem,Cs]))) (.inl ⟨rfl,rfl⟩) fun ν g2 b2 hN hZ=>?_;obtain⟨A1,hA,bA1⟩:=hN (A,gj p) (by simp);obtain⟨B1,hB,bB1⟩:=hN (B,RV m.em) (by simp);simp only at hA hB bA1 bB1;simp only[Cs,Dl,Gm,hA,hB];exact IH.out (i+1,m.em,(A1,B1),g2,b2) (by dsimp only;omega) ⟨by dsimp only;omega,q1,⟨bA1,bB1⟩⟩
    .have hii: ¬(i:Int)<ks.length:=by omega
     exact au
end Go.Proofs
