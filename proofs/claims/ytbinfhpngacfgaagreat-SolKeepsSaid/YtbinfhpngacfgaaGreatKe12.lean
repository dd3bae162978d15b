/-
  Parts of it.
-/
import Derived.Test.YtbinfhpngacfgaaGreatKe10
import Derived.Test.YtbinfhpngacfgaaGreatKe11
set_option linter.all false
namespace Go.Proofs
open Go Go.Abs
set_option maxRecDepth 100000
set_option maxHeartbeats 4000000
theorem tQ(b:Nat)(e:Bn)(h:AD)(bs:Nat)(π:List Nat)(ce:Option (List Nat))(wp:Bool)(nt:Nat):Et cfg ⟨34,π,false,ce,wp,nt⟩ b ⟨e,h,bs,[]⟩=K3 cfg 34 π b e h:=by
 rw[E0];exact Mx _ _ _ _ _
attribute [go_sem 2000] tQ
structure sr(p:AL)(s:BF)(A B:Abs.Id)(v:AV)(g:AD)(b:Nat)(L:List Cc):Prop where
 pa:g.get A=some (.box [.d (.be (p.free.map Av)),.d (.be (p.nodes.map Af)),.d (.be (p.defs.map Ax)),.d (.int .i64 (p.main))])
 sb:g.get B=some (.box [.d (.be (s.ac.map Ab)),.d (.be (s.bv.map Ar)),.d (.be (s.am.map Bm)),.d (.be (s.waits.map AW))])
 wd:Ju g 4 v (L.map Ei)
 na:Gv [] b A
 nb:Gv [] b B
 nv: ∀id∈AF v,Gv [] b id
variable{π:List Nat}{b:Nat}{A:Abs.Id}
theorem Gk(h:Gv π b A)(t j:Nat)(hj:b≤j):Id.is (t::j::π) A=false:=by
 obtain⟨t',j',h1,rfl⟩:=h;exact AE (by simp;omega)
theorem MU(h:Gv π b A)(t j:Nat)(hj:b≤j):Id.is A (t::j::π)=false:=by
 obtain⟨t',j',h1,rfl⟩:=h;exact AE (by simp;omega)
theorem nP(l:List (Nat×Aa)):G7 (l.map fun y=>(y.1,AV.d y.2))=[]:=by
 induction l with
 |nil=>rfl
 |cons x l ih=>simp[G7,AF,Az]at*;exact ih
theorem Eu{K:AO}{fr:Fr}{bl:Nat}{x:Code}{Q:Ds→St→Prop}{E:Bn}{H:AD}{p:AL}{s:BF}{A B:Abs.Id}{v:AV}{L:List Cc}(rest:List (Nat×Aa))
 (hE:J4 E (cfg.live 34 bl)=(2,.ptr A 0)::(3,.ptr B 0)::(5,v)::rest.map fun y=>(y.1,AV.d y.2)) (h1:H.get A=some (.box [.d (.be (p.free.map Av)),.d (.be (p.nodes.map Af)),.d (.be (p.defs.map Ax)),.d (.int .i64 (p.main))])) (h2:H.get B=some (.box [.d (.be (s.ac.map Ab)),.d (.be (s.bv.map Ar)),.d (.be (s.am.map Bm)),.d (.be (s.waits.map AW))])) (h3:Ju H 4 v (L.map Ei))
 (hn: ∀A' B' v' g b,sr p s A' B' v' g b L→Wb cfg K fr bl x ⟨(2,.ptr A' 0)::(3,.ptr B' 0)::(5,v')::rest.map fun y=>(y.1,AV.d y.2),g,b,[]⟩ Q):Wb cfg K fr bl x (K3 cfg 34 [] bl E H) Q:=by
 rw[E0,hE];have hvl:(AF v).length≤1:=by rcases h3 with⟨rfl,_⟩|⟨id,x,rfl,_⟩<;>simp[AF]
 obtain⟨ν,h',n,hc,hnM,hR⟩:=Lz [] H ((2,.ptr A 0)::(3,.ptr B 0)::(5,v)::rest.map fun y=>(y.1,AV.d y.2)) (A::B::AF v) (by simp only[List.length_cons];omega) (by
  intro y hy;have h0:=nP rest;have e0:G7 ((2,.ptr A 0)::(3,.ptr B 0)::(5,v)::rest.map fun y=>(y.1,AV.d y.2))=A::B::(AF v++G7 (rest.map fun y=>(y.1,AV.d y.2))):=by simp[G7,Az,AF]
  rw[e0,h0]at hy;simpa using hy) (by
  intro y hy z hz;rcases Co.1 hy with rfl|hy
  .rw[h1]at hz;simp[Fv,Az,AF]at hz
  rcases Co.1 hy with rfl|hy
  .rw[h2]at hz;simp[Fv,Az,AF]at hz
  .obtain⟨x,hx⟩:=DE h3 hy;rw[hx]at hz;simp[Fv]at hz)
 obtain⟨z,hz⟩:=hR.env A (by simp[G7,AF,Az]);obtain⟨z2,hz2⟩:=hR.env B (by simp[G7,AF,Az]);have g1:=hR.get A z _ hz h1;have g2:=hR.get B z2 _ hz2 h2;simp[Gd,IJ,Gm]at g1 g2;have hnm: ∀x z,ν x=some z→Gv [] n z:=fun x z h=>by obtain⟨j,hj,rfl⟩:=hR.name x z h;exact⟨_,j,hj,rfl⟩
 have hrest: ∀l:List (Nat×Aa),(l.map fun y=>(y.1,AV.d y.2)).map (fun p=>(p.1,Gm ν p.2))=l.map fun y=>(y.1,AV.d y.2):=fun l=>by simp[Gm]
 rw[hc,Cs,Cs,Cs,hrest];have key:Ju h' 4 (Gm ν v) (L.map Ei)∧ ∀id∈AF (Gm ν v),Gv [] n id:=by
  rcases h3 with⟨rfl,hz⟩|⟨id,x,rfl,hg⟩
  .exact⟨.inl ⟨by simp[Gm],hz⟩,by simp[Gm,AF]⟩
  .obtain⟨y,hy⟩:=hR.env id (by simp[G7,AF,Az]);have hg:=hR.get id y _ hy hg;have e:Gm ν (.eq id 0 (L.map Ei).length)=.eq y 0 (L.map Ei).length:=by simp[Gm,hy]
   rw[e];exact⟨.inr ⟨y,x,rfl,by simpa[Gd]using hg⟩,fun id hid=>by
    simp only[AF,As]at hid;subst hid;exact hnm _ _ hy⟩
 have:=hn z z2 (Gm ν v) h' n ⟨g1,g2,key.1,hnm _ _ hz,hnm _ _ hz2,key.2⟩;simpa[Gm,hz,hz2]using this
variable{n:Nat}
theorem TD(h:Gv π b A)(hn:b≤n):Id.under (n::π) A=false:=by
 obtain⟨t',j',h1,rfl⟩:=h;exact Hc _ _ _ _ (by omega)
variable{sz:List Int}
theorem eH{p:AL}{s:BF}{g:Al}{d:Bs}{r:FG}(h:cP p sz s g d r):(JH s d g r=[]∧De s d g r=[])∨ ∃many:List Nat,JH s d g r=many.map (fun(n:Nat)=>(n:Int))∧De s d g r=Br many∧0<many.length∧many.length≤3∧ ∀n∈many,n≤12:=by
 unfold JH De N8;by_cases hd:AY s.ac (g.place d r.at_)=true
 .exact .inl ⟨by rw[D0 hd],by rw[D0 hd]⟩
 rw[CI hd,CI hd];by_cases hz:0∈BP s d g r
 .exact .inl ⟨by rw[D0 hz],RA hz⟩
 .refine .inr ⟨_,by rw[CI hz],rfl,by simpa[BP]using h.j0,by simpa[BP]using h.j1,fun n hn=>?_⟩;obtain⟨c,hc,rfl⟩:=FN.1 hn;obtain⟨_,_,_,q,_,h1,h2⟩:=h.join c hc;rw[h2];exact h1
theorem WJ(p:AL)(s:BF): ∀(l:List Fq) (i:Nat),(CH p s i l).length≤l.length
 |[],i=>by simp[CH]
 |w::l,i=>by
  have:=WJ p s l (i+1);rw[CH,Bi,List.length_cons];split<;>simp<;>omega
theorem cQ{p:AL}{sz:List Int}{s:BF}(hF:BK p sz)(hs:FH p sz s):BB (KL Tryz.prog cfg) 34 [pA p,sA s] []=.ok (.ret (.d (.be ((BZ p s).map Ei))),[]):=by
 have hss:=hs.small;simp only[BF.small,AP,Ap]at hss;obtain⟨s1,s2,s3,s4⟩:=hss;have hwl:=AA.mk (WJ p s s.waits 0);obtain⟨W,hW⟩: ∃W,W=CH p s 0 s.waits:=⟨_,rfl⟩;have hst:AA (BZ p s=W++Cd p s 0 s.bv):=⟨by rw[BZ,hW]⟩;rw[←hW]at hwl;replace hs:=AA.mk hs;replace hF:=AA.mk hF
 (refine Ae rfl Tryz.func34 rfl rfl rfl ?_;show Wp _ _ _ _ (Tryz.f34.body.get rfl) _ _;simp only[Tryz.f34,AS])
 refine aw ?_;refine Eu [(6,.int .i64 0)] rfl (by simp only[go_sem];rfl) (by simp only[go_sem];rfl) (L:=[]) (.inl ⟨rfl,rfl⟩) fun A B v g b hI=>?_;refine Ah s.waits (S:=fun i (a:Abs.Id×Abs.Id×AV×AD×Nat)=>⟨[(2,.ptr a.1 0),(3,.ptr a.2.1 0),(5,a.2.2.1),(6,.d (.int .i64 (i)))],a.2.2.2.1,a.2.2.2.2,[]⟩)
  (Inv:=fun i rest a=>AA (∃L,sr p s a.1 a.2.1 a.2.2.1 a.2.2.2.1 a.2.2.2.2 L∧L++CH p s i rest=W)) (b0:=(A,B,v,g,b)) ⟨_,hI,by rw[hW];rfl⟩ ?_ ?_
 .clear hI A B v g b;rintro i w ⟨A,B,v,g,b⟩ hy hi him hI IH;obtain⟨L,hI,hL⟩:=hI.out;dsimp only at*;obtain⟨x,hw⟩:=NY hF.out (hs.out.wait w (Ac hy));have hg:=vX hF.out hs.out hw;have pa:=hI.pa;have sb:=hI.sb;have na:=Gk hI.na;have na':=MU hI.na;have nb:=Gk hI.nb;have nb':=MU hI.nb;have hLl:L.length≤100:=by
   have:=hwl.out;rw[←hL,Bi]at this;omega
  rw[CH]at hL;replace hL:=AA.mk hL;replace hw:=AA.mk hw;have fin:AA (∀A' B' v' g' b' L',L'=L++(if lc p s w=true then [⟨i,0,0,[]⟩]else [])→sr p s A' B' v' g' b' L'→_):=⟨fun A' B' v' g' b' L' hL' hI'=>IH.out (A',B',v',g',b') ⟨L',hI',by rw[←hL.out,hL',D9]⟩⟩;rcases hI.wd with⟨rfl,hz⟩|⟨id,xs,rfl,gv⟩
  .have hz2:=F5.1 hz;subst hz2;replace hI:=AA.mk hI
   (repeat' (first|simp only[go_sem, *]|(refine sx ?_ ?_<;>intro hc)|refine sy (by omega) fun x hx hm=>?_|simp(disch:=first|assumption|omega) only[AK]))
   .refine Eu [(6,.int .i64 (i+1))] rfl (by simp only[go_sem,na,pa,AM]) (by simp only[go_sem,nb,sb,AM]) (L:=[⟨i,0,0,[]⟩]) (BR [] rfl (by simp only[go_sem])) fun A B v g b hI2=>fin.out A B v g b _ (by simp[*]) hI2
   .exact Eu [(6,.int .i64 (i+1))] rfl pa sb (L:=[]) (.inl ⟨rfl,rfl⟩) fun A B v g b hI2=>fin.out A B v g b _ (by simp[*]) hI2
  .have ni:=Gk (hI.nv id (by simp[AF]));have ni':=MU (hI.nv id (by simp[AF]));have ai:Id.is A id=false:=AE fun e=>by rw[←e,pa]at gv;cases gv
   have ia:Id.is id A=false:=AE fun e=>by rw[e,pa]at gv;cases gv
   have bi:Id.is B id=false:=AE fun e=>by rw[←e,sb]at gv;cases gv
   have ib:Id.is id B=false:=AE fun e=>by rw[e,sb]at gv;cases gv
   rw[BI];replace hI:=AA.mk hI;rcases xs with _|⟨y,xs⟩
   ·(repeat' (first|simp only[go_sem, *,AM]|(refine sx ?_ ?_<;>intro hc)|refine sy (by omega) fun x hx hm=>?_|simp(disch:=first|assumption|omega) only[AK]))
    .refine Eu [(6,.int .i64 (i+1))] rfl (by simp only[go_sem,na,ia,pa,AM]) (by simp only[go_sem,nb,ib,sb,AM]) (L:=L++[⟨i,0,0,[]⟩]) (BR [] (by simp) (by simp only[go_sem,ni,D1,AM];done)) fun A B v g b hI2=>fin.out A B v g b _ (by simp[*]) hI2
    .exact Eu [(6,.int .i64 (i+1))] rfl pa sb (L:=L) (BR [] (by simp) gv) fun A B v g b hI2=>fin.out A B v g b _ (by simp[*]) hI2
   ·(repeat' (first|simp only[go_sem, *,AM]|(refine sx ?_ ?_<;>intro hc)|refine sy (by omega) fun x hx hm=>?_|simp(disch:=first|assumption|omega) only[AK]))
    .refine Eu [(6,.int .i64 (i+1))] rfl (by simp only[go_sem,na,ia,pa,AM]) (by simp only[go_sem,nb,ib,sb,AM]) (L:=L++[⟨i,0,0,[]⟩]) (BR xs (by simp) (by simp only[go_sem,ni,D1,AM];done)) fun A B v g b hI2=>fin.out A B v g b _ (by simp[*]) hI2
    .exact Eu [(6,.int .i64 (i+1))] rfl pa sb (L:=L) (BR (y::xs) (by simp) gv) fun A B v g b hI2=>fin.out A B v g b _ (by simp[*]) hI2
 .rintro i ⟨A,B,v,g,b⟩ hi him hI;obtain⟨L,hS,hL⟩:=hI.out;clear hI;dsimp only at*;rw[CH,D6]at hL;subst hL;clear hW;have pa:=hS.pa;have sb:=hS.sb;have hv:=hS.wd;clear hS;replace hv:=AA.mk hv;refine aw ?_;refine Eu [(7,.int .i64 0)] rfl pa sb (L:=L) hv.out fun A B v g b hI=>?_;clear pa sb hv;refine Ah s.bv (S:=fun i (a:Abs.Id×Abs.Id×AV×AD×Nat)=>⟨[(2,.ptr a.1 0),(3,.ptr a.2.1 0),(5,a.2.2.1),(7,.d (.int .i64 (i)))],a.2.2.2.1,a.2.2.2.2,[]⟩)
   (Inv:=fun i rest a=>AA (∃L,sr p s a.1 a.2.1 a.2.2.1 a.2.2.2.1 a.2.2.2.2 L∧L++Cd p s i rest=BZ p s∧L.length≤40+i*60000)) (b0:=(A,B,v,g,b)) ⟨_,hI,hst.out.symm,by have:=hwl.out;omega⟩ ?_ ?_
  .clear hI A B v g b;rintro i gr ⟨A,B,v,g,b⟩ hy hi him hI IH;obtain⟨L,hS,hL,hLl⟩:=hI.out;clear hI;dsimp only at*;obtain⟨d,hd⟩:=hs.out.grp i gr hy;obtain⟨g0,hdd⟩:=Dx hd.f8;have hdl:=AI hdd;have hdr:=(B3 hF.out hdd).ok.rules;have pa:=hS.pa;have sb:=hS.sb;have hv:=hS.wd;clear hS;replace hv:=AA.mk hv;rw[Cd,hd.f8]at hL;dsimp only at hL;replace hL:=AA.mk hL;replace hd:=AA.mk hd;refine aw ?_;refine Eu [(7,.int .i64 i),(8,.int .i64 0)] rfl pa sb (L:=L) hv.out fun A B v g b hI=>?_;clear pa sb hv;refine Ah d.rules (S:=fun k (a:Abs.Id×Abs.Id×AV×AD×Nat)=>⟨[(2,.ptr a.1 0),(3,.ptr a.2.1 0),(5,a.2.2.1),(7,.d (.int .i64 (i))),(8,.d (.int .i64 (k)))],a.2.2.2.1,a.2.2.2.2,[]⟩)
    (Inv:=fun k rest a=>AA (∃L,sr p s a.1 a.2.1 a.2.2.1 a.2.2.2.1 a.2.2.2.2 L∧L++(B7 s d gr i k rest++Cd p s (i+1) (s.bv.drop (i+1)))=BZ p s∧L.length≤40+i*60000+k*2000)) (b0:=(A,B,v,g,b)) ⟨_,hI,hL.out,by omega⟩ ?_ ?_
   .clear hI hL hLl A B v g b;rintro k r ⟨A,B,v,g,b⟩ hr hk hkm hI IHk;obtain⟨L,hS,hL,hLl⟩:=hI.out;clear hI;dsimp only at*;have hq:=rL hF.out hs.out hy hd.out hr;have pa:=hS.pa;have sb:=hS.sb;have na:=Gk hS.na;have na':=MU hS.na;have nb:=Gk hS.nb;have nb':=MU hS.nb;have hri:=Ix hF.out hs.out hy hd.out (Ac hr);rw[B7]at hL;have hv:=AA.mk hS.wd;have hun:AA (∀id∈AF v,Id.under [b+27] id=false):=⟨fun id hid=>TD (hS.nv id hid) (by omega)⟩;have uA:Id.under [b+27] A=false:=TD hS.na (by omega);have uB:Id.under [b+27] B=false:=TD hS.nb (by omega);replace hL:=AA.mk hL;replace hS:=AA.mk hS;have hil:(i:Int)<1000000:=by omega
    rcases eH hri with⟨q0,q1⟩|⟨many,q0,q1,m0,m3,m12⟩
    .rw[q0]at hq;rw[q1]at hL;replace hri:=AA.mk hri;clear q0 q1;refine aw ?_;refine Eu [(7,.int .i64 i),(8,.int .i64 (k+1))] rfl pa sb (L:=L) hv.out fun A B v g b hI2=>IHk.out (A,B,v,g,b) ⟨L,hI2,hL.out,by omega⟩
    .rw[q0]at hq;have m0':(0:Int)<many.length:=by omega
     rw[q1]at hL;replace hri:=AA.mk hri;replace m12:=AA.mk m12;clear q0 q1;refine aw ?_;refine AZ (aq i k many m0 m3 m12.out many.length g [b+27] v .co L [] ?_ hv.out (.inl ⟨rfl,rfl⟩) (fun _=>rfl) (fun id hid=>?_) (by simp)) (fun o1 g1 p1=>?_)
     .have:12 ^ many.length≤12 ^ 3:=Nat.pow_le_pow_right (by omega) m3;omega
     .rcases hid with hid|hid
      .exact hun.out id hid
      .simp[AF]at hid
     obtain⟨v',rfl,p2,p3,p4⟩:=p1;have pa2:(gc [b+27] g1).get A=_:=(AU _ _ _ uA).trans ((p4 A (fun e=>by obtain⟨x,hx⟩:=DE hv.out e;rw[pa]at hx;cases hx) uA).trans pa);have sb2:(gc [b+27] g1).get B=_:=(AU _ _ _ uB).trans ((p4 B (fun e=>by obtain⟨x,hx⟩:=DE hv.out e;rw[sb]at hx;cases hx) uB).trans sb);have hv2:=Ee p2 (g':=gc [b+27] g1) fun id hid=>by
      rcases p3 id hid with e|⟨_,l,rfl⟩
      .exact AU _ _ _ (hun.out id e)
      .exact EY _ _ _
     replace hv2:=AA.mk hv2;clear p2 p3 p4;refine aw ?_;refine Eu [(7,.int .i64 i),(8,.int .i64 (k+1))] rfl pa2 sb2 hv2.out fun A B v g b hI2=>IHk.out (A,B,v,g,b) ⟨_,hI2,?_,?_⟩
     .rw[←hL.out];simp
     .have h1:=QT m12.out;have:12 ^ many.length≤12 ^ 3:=Nat.pow_le_pow_right (by omega) m3;simp only[Bi,BI,List.length_nil,List.drop_zero];omega
   .rintro k ⟨A,B,v,g,b⟩ hk hkm hI;obtain⟨L,hS,hL,hLl⟩:=hI.out;clear hI;dsimp only at*;have pa:=hS.pa;have sb:=hS.sb;have hv:=hS.wd;clear hS;replace hv:=AA.mk hv;refine aw ?_;refine Eu [(7,.int .i64 (i+1))] rfl pa sb (L:=L) hv.out fun A B v g b hI2=>IH.out (A,B,v,g,b) ⟨L,hI2,by simpa[B7]using hL,by have:=hk.out;omega⟩
  .rintro i ⟨A,B,v,g,b⟩ hi him hI;obtain⟨L,hS,hL,hLl⟩:=hI.out;clear hI;dsimp only at*;rw[Cd,D6]at hL;subst hL;have sb:=hS.sb;rcases hS.wd with⟨rfl,hz⟩|⟨id,xs,rfl,gv⟩
   .rw[hz];clear hz hS hLl;exact au
   .rw[BI];have tk:List.take (BZ p s).length ((BZ p s).map Ei++xs)=(BZ p s).map Ei:=Pq _ _ _;clear hS hLl
    (repeat' (first|simp only[go_sem, *,EX]|(refine sx ?_ ?_<;>intro hc)|refine sy (by omega) fun x hx hm=>?_|simp(disch:=first|assumption|omega) only[AK]))
def ADp(o:Abs.Obj):Prop:=Fv (some o)=[]∧ ∀ν,Gd ν o=o
theorem bM(ν:Abs.Id→Option Abs.Id): ∀cs:List Aa,IJ ν (cs.map .d)=cs.map .d
 |[]=>rfl
 |c::cs=>by rw[Cs,IJ,bM ν cs];simp[Gm]
theorem Zf: ∀cs:List Aa,Az (cs.map .d)=[]
 |[]=>rfl
 |c::cs=>by rw[Cs,Az,Zf cs];rfl
theorem z6(cs:List Aa):ADp (.box (cs.map .d)):=⟨by simp[Fv,Zf],fun ν=>by simp[Gd,bM]⟩
theorem z5(sz:Nat)(es:List (List Aa)):ADp (.d9 sz es):=⟨rfl,fun ν=>rfl⟩
variable{K:AO}{fr:Fr}{f bl:Nat}{Q:Ds→St→Prop}{H:AD}
theorem tR{x:Code}{E:Bn}(e:Bn)(hE:J4 E (cfg.live f bl)=e)(hl:(G7 e).length≤1000)(hr: ∀y∈G7 e,∃o,H.get y=some o∧ADp o)
 (hn: ∀ν g b,(∀y∈G7 e,∃z,ν y=some z∧Gv [] b z∧g.get z=H.get y)→Wb cfg K fr bl x ⟨e.map fun y=>(y.1,Gm ν y.2),g,b,[]⟩ Q):Wb cfg K fr bl x (K3 cfg f [] bl E H) Q:=by
 rw[E0,hE];obtain⟨ν,h',n,hc,hnM,hR⟩:=Lz [] H e (G7 e) hl (fun y hy=>hy) (by
  intro y hy z hz;obtain⟨o,h1,h2,_⟩:=hr y hy;rw[h1,h2]at hz;cases hz)
 rw[hc];refine hn ν h' n fun y hy=>?_;obtain⟨z,hz⟩:=hR.env y hy;obtain⟨o,h1,_,h2⟩:=hr y hy;refine⟨z,hz,?_,?_⟩
 .obtain⟨j,hj,rfl⟩:=hR.name y z hz;exact⟨_,j,hj,rfl⟩
 .rw[h1,hR.get y z o hz h1,h2]
structure Bx(g:AD)(b:Nat)(A:Abs.Id)(cs:List Aa):Prop where
 get:g.get A=some (.box (cs.map .d))
 name:Gv [] b A
structure Sx(g:AD)(b:Nat)(sz:Nat)(v:AV)(es:List (List Aa)):Prop where
 wd:Ju g sz v es
 name: ∀id∈AF v,Gv [] b id
theorem AGV{g:AD}{ν:Abs.Id→Option Abs.Id}{l:List Abs.Id}(h: ∀y∈l,∃z,ν y=some z∧Gv [] b z∧g.get z=H.get y)(hA:A∈l){cs:List Aa}(hg:H.get A=some (.box (cs.map .d))): ∃z,ν A=some z∧Bx g b z cs:=by
 obtain⟨z,h1,h2,h3⟩:=h A hA;exact⟨z,h1,by rw[h3,hg],h2⟩
theorem AG3{H g:AD}{b sz:Nat}{ν:Abs.Id→Option Abs.Id}{l:List Abs.Id}(h: ∀y∈l,∃z,ν y=some z∧Gv [] b z∧g.get z=H.get y){v:AV}{es:List (List Aa)}(hv: ∀y∈AF v,y∈l)(hs:Ju H sz v es):Sx g b sz (Gm ν v) es:=by
 rcases hs with⟨rfl,hz⟩|⟨id,x,rfl,hg⟩
 .exact⟨.inl ⟨by simp[Gm],hz⟩,by simp[Gm,AF]⟩
 .obtain⟨z,h1,h2,h3⟩:=h id (hv id (by simp[AF]));have e:Gm ν (.eq id 0 es.length)=.eq z 0 es.length:=by simp[Gm,h1]
  rw[e];exact⟨.inr ⟨z,x,rfl,by rw[h3,hg]⟩,fun id hid=>by
   simp only[AF,As]at hid;subst hid;exact h2⟩
variable{es:List (List Aa)}
theorem AC3{g:AD}{sz:Nat}{v:AV}(h:Ju g sz v es):(AF v).length≤1∧ ∀id∈AF v,∃x,g.get id=some (.d9 sz x):=⟨by rcases h with⟨rfl,_⟩|⟨id,x,rfl,_⟩<;>simp[AF],fun id hid=>DE h hid⟩
theorem KX{x:Code}{E:Bn}{sz:Nat}{v:AV}(e:Bn)(l:List (Abs.Id×List Aa))(hE:J4 E (cfg.live f bl)=e)(hi:G7 e=l.map (·.1)++AF v)(hl:l.length≤900)(hb: ∀y∈l,H.get y.1=some (.box (y.2.map .d)))(hv:Ju H sz v es)
 (hn: ∀ν g b,(∀y∈l,∃z,ν y.1=some z∧Bx g b z y.2)→Sx g b sz (Gm ν v) es→Wb cfg K fr bl x ⟨e.map fun y=>(y.1,Gm ν y.2),g,b,[]⟩ Q):Wb cfg K fr bl x (K3 cfg f [] bl E H) Q:=by
 obtain⟨h1,h2⟩:=AC3 hv;refine tR e hE (by rw[hi,Bi,BI];omega) (fun y hy=>?_) fun ν g b hN=>hn ν g b (fun y hy=>AGV hN (by rw[hi];exact Ge _ (List.mem_map_of_mem hy)) (hb y hy)) (AG3 hN (fun y hy=>by rw[hi];exact Gs _ hy) hv);rw[hi]at hy;rcases ES.1 hy with hy|hy
 .obtain⟨z,hz,rfl⟩:=FN.1 hy;exact⟨_,hb z hz,z6 _⟩
 .obtain⟨x,hx⟩:=h2 y hy;exact⟨_,hx,z5 _ _⟩
variable{α:Type}{P:α→Prop}{a:α}
theorem KK(h:P a): ∀y∈ [a],P y:=fun y hy=>by rw[As.1 hy];exact h
variable{l:List α}
theorem CJ(h:P a)(hl: ∀y∈l,P y): ∀y∈a::l,P y:=List.forall_mem_cons.2 ⟨h,hl⟩
theorem C1{β:Type}{f:α→List β}{n:Nat}: ∀{l:List α},(∀x∈l,(f x).length≤n)→(l.flatMap f).length≤l.length*n
 |[],_=>by simp
 |x::l,h=>by
  have h1:=h x (by simp);have h2:=C1 (f:=f) (n:=n) (l:=l) fun y hy=>h y (by simp[hy]);rw[D5,Bi,List.length_cons,Rw];omega
theorem ay: ∀{l:List Nat},(∀n∈l,n≤12)→(Br l).length≤12 ^ l.length
 |[],_=>by simp[Br]
 |n::l,h=>by
  have h1:=h n (by simp);have h2:=ay (l:=l) fun y hy=>h y (by simp[hy]);rw[Br,List.length_cons,Nat.pow_succ];have h3:=C1 (l:=List.range n) (f:=fun(i:Nat)=>(Br l).map fun t=>(i:Int)::t) (n:=12 ^ l.length) fun x hx=>by simpa using h2
  rw[List.length_range]at h3;have h4:n*12 ^ l.length≤12*12 ^ l.length:=HE _ h1;omega
theorem yd{p:AL}{s:BF}{g:Al}{d:Bs}{r:FG}(h:cP p sz s g d r):(De s d g r).length≤1728:=by
 rw[De];split
 .simp
 .have h1:=ay (l:=BP s d g r) fun n hn=>by
   rw[BP]at hn;obtain⟨c,hc,rfl⟩:=FN.1 hn;obtain⟨_,_,_,q,_,h2,h3⟩:=h.join c hc;omega
  have h2:(BP s d g r).length≤3:=by rw[BP,BI];exact h.j1
  have h3:12 ^ (BP s d g r).length≤12 ^ 3:=Nat.pow_le_pow_right (by omega) h2;omega
theorem Vw{s:BF}{d:Bs}{g:Al}{i:Nat}: ∀{l:List FG} (k:Nat),(∀r∈l,(De s d g r).length≤1728)→(B7 s d g i k l).length≤l.length*1728
 |[],k,_=>by simp[B7]
 |r::l,k,h=>by
  have h1:=h r (by simp);have h2:=Vw (s:=s) (d:=d) (g:=g) (i:=i) (l:=l) (k+1) fun y hy=>h y (by simp[hy]);rw[B7,Bi,BI,List.length_cons];omega
theorem Tt(p:AL)(s:BF): ∀(l:List Fq) (i:Nat),(CH p s i l).length≤l.length
 |[],i=>by simp[CH]
 |w::l,i=>by
  have:=Tt p s l (i+1);rw[CH,Bi,List.length_cons];split<;>simp<;>omega
theorem Za{p:AL}{s:BF}(hF:BK p sz)(hs:FH p sz s): ∀(l:List Al) (i:Nat),s.bv.drop i=l→(Cd p s i l).length≤l.length*51840
 |[],i,_=>by simp[Cd]
 |g::l,i,h=>by
  have hg:s.bv[i]? =some g:=by
   have:=congrArg (fun l=>l[0]?) h;simpa using this
  have h2:=Za hF hs l (i+1) (by rw[AR hg]at h;exact(Rg h).2);obtain⟨d,hd⟩:=hs.grp i g hg;rw[Cd,Bi,List.length_cons,hd.f8];have h3:=Vw (s:=s) (d:=d) (g:=g) (i:=i) (l:=d.rules) 0 fun r hr=>yd (Ix hF hs hg hd hr);have h4:=(B3 hF (Dx hd.f8).2).ok.rules;dsimp only;omega
theorem Qi{p:AL}{s:BF}(hF:BK p sz)(hs:FH p sz s):(BZ p s).length≤3000000:=by
 have hsm:=hs.small;simp only[BF.small,AP,Ap]at hsm;have h1:=Tt p s s.waits 0;have h2:=Za hF hs s.bv 0 rfl;rw[BZ,Bi];omega
instance:DecidableEq Cc:=fun a b=>decidable_of_iff (a.wait=b.wait∧a.group=b.group∧a.i9=b.i9∧a.it=b.it) (by cases a;cases b;simp)
structure AGB(p:AL)(s:BF)(st:BT):Prop where
 looks:looks p=some st
 formed:BK p st.ci
 pm:FH p st.ci s
theorem XE{p:AL}{s:BF}(h:BU p s=0): ∃st,AGB p s st:=by
 rw[BU]at h;split at h
 .rename_i st hlk;split at h
  .rename_i hs;exact⟨st,hlk,CF hlk,AFk hs⟩
  .cases h
 .cases h
theorem W9{p:AL}{s:BF}(h: ¬BU p s=0):BU p s=2:=by
 rw[BU]at h⊢;split at h
 .split at h
  .exact absurd rfl h
  .rename_i hh;simp[hh]
 .rfl
def Ov(p:AL)(s:BF):Int:=if BU p s=0 then(BZ p s).length else 0
abbrev OW(x:Cc):AV:=.agg [.d (.int .i64 x.wait),.d (.int .i64 x.group),.d (.int .i64 x.i9),.d (.be (x.it.map AJ))]
def Q8(p:AL)(s:BF)(n:Int):Cc×Int:=if BU p s=0 then if 0≤n then match(BZ p s)[n.toNat]? with|some x=>(x,0)|none=>(⟨0,0,0,[]⟩,5)else(⟨0,0,0,[]⟩,5)else(⟨0,0,0,[]⟩,2)
theorem ACn{p:AL}{s:BF}(n:Int)(h: ¬BU p s=0):Q8 p s n=(⟨0,0,0,[]⟩,2):=by rw[Q8,CI h]
theorem xu{p:AL}{s:BF}{n:Int}(h:BU p s=0)(hn:n<0∨(BZ p s).length≤n):Q8 p s n=(⟨0,0,0,[]⟩,5):=by
 rw[Q8,D0 h];split
 .rw[I1 (by omega)]
 .rfl
theorem TF{p:AL}{s:BF}{n:Int}{x:Cc}(h:BU p s=0)(hn:0≤n)(hx:(BZ p s)[n.toNat]? =some x):Q8 p s n=(x,0):=by rw[Q8,D0 h,D0 hn,hx]
theorem Yn{p:AL}{s:BF}(h:BU p s=0):Ov p s=(BZ p s).length:=by rw[Ov,D0 h]
inductive Below:List Nat→List Int→Prop
 |nil:Below [] []
 |cons {n:Nat} {k:Int} {l:List Nat} {t:List Int}:0≤k→k<n→Below l t→Below (n::l) (k::t)
theorem NJ: ∀{l:List Nat} {t:List Int},t∈Br l↔Below l t
 |[],t=>by
  rw[Br,As];exact⟨fun h=>h▸ .nil,fun h=>by cases h;rfl⟩
 |n::l,t=>by
  rw[Br,Bv];constructor
  .rintro⟨i,hi,ht⟩;obtain⟨u,hu,rfl⟩:=FN.1 ht;have:=Ok.1 hi;exact .cons (by omega) (by omega) (NJ.1 hu)
  .intro h;cases h with
   | @cons _ k _ t h1 h2 h3=>exact⟨k.toNat,Ok.2 (by omega),FN.2 ⟨t,NJ.2 h3,by rw[PM h1]⟩⟩
theorem Below.len: ∀{l:List Nat} {t:List Int},Below l t→t.length=l.length
 |_,_,.nil=>rfl
 |_,_,.cons _ _ h=>by rw[List.length_cons,List.length_cons,h.len]
inductive Kz(p:AL)(s:BF):Cc→Prop
 |wait {i:Nat} {w:Fq}:s.waits[i]? =some w→lc p s w=true→Kz p s ⟨i,0,0,[]⟩
 |i9 {i k:Nat} {g:Al} {d:Bs} {r:FG} {t:List Int}:s.bv[i]? =some g→p.def? g.f8=some d→d.rules[k]? =some r→AY s.ac (g.place d r.at_)=false→Below (BP s d g r) t→Kz p s ⟨-1,i,k,t⟩
theorem WM{p:AL}{s:BF}{x:Cc}: ∀{l:List Fq} {i:Nat},s.waits.drop i=l→(x∈CH p s i l↔ ∃j:Nat,i≤j∧ ∃w,s.waits[j]? =some w∧lc p s w=true∧x=⟨j,0,0,[]⟩)
 |[],i,h=>by
  have:s.waits.length≤i:=On.1 h;constructor
  .intro h;cases h
  .rintro⟨j,hj,w,hw,_⟩;obtain⟨h1,_⟩:=BE.1 hw;omega
 |w::l,i,h=>by
  have hg:s.waits[i]? =some w:=by
   have:=congrArg (fun l=>l[0]?) h;simpa using this
  have ih:=WM (x:=x) (p:=p) (l:=l) (i:=i+1) (by rw[AR hg]at h;exact(Rg h).2);rw[CH,ES,ih];constructor
  .rintro(h1|⟨j,h1,h2⟩)
   .split at h1
    .exact⟨i,EX _,w,hg,by assumption,As.1 h1⟩
    .cases h1
   .exact⟨j,by omega,h2⟩
  .rintro⟨j,h1,w2,h2,h3,h4⟩;by_cases e:j=i
   .subst e;rw[hg]at h2;cases h2;exact .inl (by rw[D0 h3,h4];simp)
   .exact .inr ⟨j,by omega,w2,h2,h3,h4⟩
theorem Qb{s:BF}{d:Bs}{g:Al}{i:Nat}{x:Cc}: ∀{l:List FG} {k:Nat},d.rules.drop k=l→(x∈B7 s d g i k l↔ ∃j:Nat,k≤j∧ ∃r,d.rules[j]? =some r∧ ∃t∈De s d g r,x=⟨-1,i,j,t⟩)
 |[],k,h=>by
  have:d.rules.length≤k:=On.1 h;constructor
  .intro h;cases h
  .rintro⟨j,hj,w,hw,_⟩;obtain⟨h1,_⟩:=BE.1 hw;omega
 |r::l,k,h=>by
  have hg:d.rules[k]? =some r:=by
   have:=congrArg (fun l=>l[0]?) h;simpa using this
  have ih:=Qb (x:=x) (s:=s) (g:=g) (i:=i) (l:=l) (k:=k+1) (by rw[AR hg]at h;exact(Rg h).2);rw[B7,ES,ih];constructor
  .rintro(h1|⟨j,h1,h2⟩)
   .obtain⟨t,ht,rfl⟩:=FN.1 h1;exact⟨k,EX _,r,hg,t,ht,rfl⟩
   .exact⟨j,by omega,h2⟩
  .rintro⟨j,h1,w2,h2,h3⟩;by_cases e:j=k
   .subst e;rw[hg]at h2;cases h2;obtain⟨t,ht,rfl⟩:=h3;exact .inl (FN.2 ⟨t,ht,rfl⟩)
   .exact .inr ⟨j,by omega,w2,h2,h3⟩
theorem VP{p:AL}{s:BF}{x:Cc}: ∀{l:List Al} {i:Nat},s.bv.drop i=l→(x∈Cd p s i l↔ ∃j:Nat,i≤j∧ ∃g d,s.bv[j]? =some g∧p.def? g.f8=some d∧x∈B7 s d g j 0 d.rules)
 |[],i,h=>by
  have:s.bv.length≤i:=On.1 h;constructor
  .intro h;cases h
  .rintro⟨j,hj,w,_,hw,_⟩;obtain⟨h1,_⟩:=BE.1 hw;omega
 |g::l,i,h=>by
  have hg:s.bv[i]? =some g:=by
   have:=congrArg (fun l=>l[0]?) h;simpa using this
  have ih:=VP (x:=x) (p:=p) (l:=l) (i:=i+1) (by rw[AR hg]at h;exact(Rg h).2);rw[Cd,ES,ih];constructor
  .rintro(h1|⟨j,h1,h2⟩)
   .split at h1
    .exact⟨i,EX _,g,_,hg,by assumption,h1⟩
    .cases h1
   .exact⟨j,by omega,h2⟩
  .rintro⟨j,h1,w2,d,h2,h3,h4⟩;by_cases e:j=i
   .subst e;rw[hg]at h2;cases h2;exact .inl (by rw[h3];exact h4)
   .exact .inr ⟨j,by omega,w2,d,h2,h3,h4⟩
theorem Xp{p:AL}{s:BF}{x:Cc}:x∈BZ p s↔Kz p s x:=by
 rw[BZ,ES,WM (l:=s.waits) (i:=0) rfl,VP (l:=s.bv) (i:=0) rfl];constructor
 .rintro(⟨j,_,w,h1,h2,rfl⟩|⟨j,_,g,d,h1,h2,h3⟩)
  .exact .wait h1 h2
  .obtain⟨k,_,r,h4,t,h5,rfl⟩:=(Qb (l:=d.rules) (k:=0) rfl).1 h3;rw[De]at h5;split at h5
   .cases h5
   .rename_i hd;exact .i9 h1 h2 h4 (by simpa using hd) (NJ.1 h5)
 .rintro(⟨h1,h2⟩|⟨h1,h2,h3,h4,h5⟩)
  .exact .inl ⟨_,I5 _,_,h1,h2,rfl⟩
  .exact .inr ⟨_,I5 _,_,_,h1,h2,(Qb (l:=_) (k:=0) rfl).2 ⟨_,I5 _,_,h3,_,by rw[De,h4,CI (by simp)];exact NJ.2 h5,rfl⟩⟩
theorem bq{p:AL}{s:BF}(hF:BK p sz)(hs:FH p sz s){x:Cc}(h:x∈BZ p s):x.it.length≤3:=by
 cases Xp.1 h with
 |wait _ _=>exact I5 _
 |i9 h1 h2 h3 _ h5=>
  obtain⟨d,hd⟩:=hs.grp _ _ h1;rw[hd.f8]at h2;cases h2;have:=(Ix hF hs h1 hd (Ac h3)).j1;have e:=h5.len;rw[BP,BI]at e;exact e▸this
theorem M0{i:Int}{x:α}(h:x∈Bh l i):x∈l:=by
 rcases ES.1 h with h|h
 .exact Li h
 .exact JP h
theorem VG{i:Int}(h:i.toNat<l.length):(Bh l i).length=l.length-1:=by
 rw[Bh,Bi,Hw,Io];omega
theorem MC(l:List α)(i:Int):(Bh l i).length≤l.length:=by
 rw[Bh,Bi,Hw,Io];omega
theorem rJ{p:AL}{s:BF}{q:Fo}(h:QOk p s q)(k:Int):QOk p s {q with queue:=Bh q.queue k}:=by
 have:=MC q.queue k;refine⟨IP this h.len,?_,fun m hm=>h.msgs m (M0 hm)⟩;rcases h.dead with hd|hd
 .exact .inl (show(Bh q.queue k).length=0 by omega)
 .exact .inr hd
structure Uj(s s':BF):Prop where
 ac:s'.ac=s.ac
 bv:s'.bv=s.bv
 waits:s'.waits=s.waits
 len:s'.am.length=s.am.length
theorem bw{p:AL}{s:BF}(hs:FH p sz s){c:Int}{q:Fo}(hq:s.am[c.toNat]? =some q){k:Int}(hk:k.toNat<q.queue.length):FH p sz (EC s c k).2∧Uj s (EC s c k).2∧(EC s c k).1.all (CV.inB p s.am.length s.ac.length)=true∧(((EC s c k).1.length:Nat):Int)=EP p s q∧ ∀c2:Nat,c2≠c.toNat→(EC s c k).2.am[c2]? =s.am[c2]? :=by
 obtain⟨m,hm⟩:=get_some hk;have hqo:=hs.que _ q hq;have hmo:=hqo.msgs m (Ac hm);simp only[FA,AP,Ap]at hmo;have e:EC s c k=(m,{s with am:=s.am.set c.toNat {q with queue:=Bh q.queue k}}):=by rw[EC,hq];simp[hm]
 rw[e];refine⟨V7 hs hq (rJ hqo k),⟨rfl,rfl,rfl,by simp⟩,hmo.2,hmo.1,fun c2 h2=>?_⟩;dsimp only;rw[He,CI (fun e=>h2 e.symm)]
structure YC(p:AL)(sz:List Int)(d:Bs)(cs:List Int)(s:BF)(t:List CV×BF):Prop where
 pm:FH p sz t.2
 only:Uj s t.2
 ol:t.1.all (CV.inB p s.am.length s.ac.length)=true
 len:((t.1.length:Nat):Int)=CR d cs
theorem bu{p:AL}{sz:List Int}{d:Bs}{g:Al}: ∀{cs ks:List Int} {s:BF},FH p sz s→cs.length=ks.length→
 (∀(i:Nat) c k,cs[i]? =some c→ks[i]? =some k→ ∃q,s.am[(g.own d true c).toNat]? =some q∧k.toNat<q.queue.length∧EP p s q=((d.am[c.toNat]?).map Hy.many).getD 0)→
 (∀(i j:Nat) c c2,i<j→cs[i]? =some c→cs[j]? =some c2→(g.own d true c2).toNat≠(g.own d true c).toNat)→YC p sz d cs s (BM d g cs ks s)
 |[],ks,s,hs,_,_,_=>by
  rw[BM]
  .exact⟨hs,⟨rfl,rfl,rfl,rfl⟩,rfl,rfl⟩
  .intro c cs k ks h;cases h
 |c::cs,[],s,hs,hl,_,_=>by cases hl
 |c::cs,k::ks,s,hs,hl,hq,hd=>by
  obtain⟨q,h1,h2,h3⟩:=hq 0 c k rfl rfl;obtain⟨a1,a2,a3,a4,a5⟩:=bw hs h1 h2;have ih:=bu (p:=p) (sz:=sz) (d:=d) (g:=g) (cs:=cs) (ks:=ks) (s:=(EC s (g.own d true c) k).2) a1 (by simpa using hl) (fun i c2 k2 e1 e2=>?_) (fun i j c2 c3 hij e1 e2=>hd (i+1) (j+1) c2 c3 (by omega) (by simpa using e1) (by simpa using e2))
  .rw[BM];refine⟨ih.pm,⟨ih.only.ac.trans a2.ac,ih.only.bv.trans a2.bv,ih.only.waits.trans a2.waits,ih.only.len.trans a2.len⟩,?_,?_⟩
   .rw[Ro,a3,EM];have:=ih.ol
    rwa [a2.len,a2.ac]at this
   .have:=ih.len;rw[Bi,CR];omega
  .obtain⟨q2,b1,b2,b3⟩:=hq (i+1) c2 k2 (by simpa using e1) (by simpa using e2);refine⟨q2,by rw[a5 _ (hd 0 (i+1) c c2 (by omega) rfl (by simpa using e1))];exact b1,b2,?_⟩;rw[←b3,EP,EP,a2.bv]
theorem nT{l:List BS}(hT:GV l){b a:Int}(hb:EF l b)(h0: ¬b=0):Cg l b a=(decide (a=b)||Cg l (BL l b) a):=by
 have hc:=hT.qr b hb;obtain⟨k,hk⟩: ∃k,l.length=k+1:=⟨l.length-1,by have:=hT.pos;omega⟩;rw[hk]at hc;have hs:=FL h0 hc;have e:Ql l (k+1) (BL l b)=Ql l k (BL l b):=R9 l k (k+1) _ hs.2 (by omega);rw[Cg,Cg,hk,e,Ql,CI h0];simp[Co]
def Jr(l:List BS)(at_:Int):List BS:=G1 l at_ 0 l
theorem jT(l:List BS)(at_:Int): ∀(m:List BS) (i:Nat),(G1 l at_ i m).length=m.length
 |[],i=>rfl
 |x::m,i=>by rw[G1,List.length_cons,List.length_cons,jT l at_ m (i+1)]
theorem jS(l:List BS)(at_:Int): ∀(m:List BS) (i k:Nat),(G1 l at_ i m)[k]? =(m[k]?).map fun x=>{x with dead:=x.dead||Cg l ((i+k:Nat):Int) at_}
 |[],i,k=>by simp[G1]
 |x::m,i,0=>by simp[G1]
 |x::m,i,k+1=>by
  rw[G1,F6,F6,jS l at_ m (i+1) k,show i+1+k=i+(k+1) by omega]
theorem SW(l:List BS)(at_:Int)(k:Nat):(Jr l at_)[k]? =(l[k]?).map fun x=>{x with dead:=x.dead||Cg l k at_}:=by
 rw[Jr,jS];simp
theorem FO(l:List BS)(at_:Int):(Jr l at_).length=l.length:=jT l at_ l 0
theorem jU(l:List BS)(at_ i:Int):BL (Jr l at_) i=BL l i:=by
 rw[BL,BL,SW];cases l[i.toNat]? <;>rfl
theorem U7(l:List BS)(at_:Int): ∀(k:Nat) (i:Int),A9 (Jr l at_) k i=A9 l k i
 |0,i=>rfl
 |k+1,i=>by
  rw[A9,A9,jU,U7 l at_ k];congr 2;exact decide_eq_decide.2 (by unfold EF;rw[FO])
theorem tt(l:List BS)(at_:Int){i:Int}(hi:EF l i):AY (Jr l at_) i=(AY l i||Cg l i at_):=by
 have h0:=hi.1;have h1:=hi.2;obtain⟨x,hx⟩:=get_some (l:=l) (i:=i.toNat) (by omega);rw[AY,AY,SW,hx,show((i.toNat:Nat):Int)=i by omega];rfl
theorem tu{l:List BS}(h:GV l)(at_:Int):GV (Jr l at_):=
 ⟨by rw[FO];exact h.pos,by rw[jU];exact h.top,fun i hi=>by rw[U7,FO];exact h.qr i (by rw[EF,FO]at hi;exact hi)⟩
theorem jV{p:AL}{s:BF}(hF:BK p sz)(h:FH p sz s)(at_:Int):FH p sz (Na s at_):=by
 have hsm:=h.small;simp only[BF.small,AP,Ap]at hsm;have hsp:(Na s at_).ac=Jr s.ac at_:=rfl;have hch:(Na s at_).am=s.am.map fun q=>if AY (Jr s.ac at_) q.at_=true then{q with queue:=[]}else q:=rfl
 have hwt:(Na s at_).waits=s.waits.filter fun w=> !AY (Jr s.ac at_) w.at_:=rfl;have hgr:(Na s at_).bv=s.bv:=rfl;have hcl:(Na s at_).am.length=s.am.length:=by rw[hch,BI]
 have hsl:(Na s at_).ac.length=s.ac.length:=by rw[hsp,FO]
 have hmany: ∀q l,EP p (Na s at_) {q with queue:=l}=EP p s q:=fun q l=>rfl
 refine⟨?_,by rw[hsp];exact tu h.tree _,fun i x hi hx=>?_,fun i g hg=>?_,by rw[hgr,hcl,hsl];exact h.tot,fun c q hq=>?_,fun w hw=>?_⟩
 .simp only[BF.small,AP,Ap];rw[hgr,hcl,hsl,hwt];have:=List.length_filter_le (fun w=> !AY (Jr s.ac at_) w.at_) s.waits;omega
 .rw[hsp]at hx⊢;rw[SW]at hx;obtain⟨y,hy,rfl⟩:=BV.1 hx;have hin:=yE h.tree hi hy;have hiR:EF s.ac i:=⟨by omega,by have:=AI hy;omega⟩;dsimp only;rw[tt _ _ hin,I3,Bool.or_eq_false_iff];rcases h.dead i y hi hy with hd|hd
  .exact .inl (.inl hd)
  .cases hz:Cg s.ac i at_ with
   |true=>exact .inl (.inr rfl)
   |false=>
    refine .inr ⟨hd,?_⟩;rw[nT h.tree hiR (by omega),Bool.or_eq_false_iff]at hz;have hp:BL s.ac i=y.rc:=by rw[BL,show((i:Nat):Int).toNat=i from rfl,hy];rfl
    rw[hp]at hz;exact hz.2
 .rw[hgr]at hg;obtain⟨d,hd⟩:=h.grp i g hg;refine⟨d,hd.f8,by rw[hsp,EF,FO];exact hd.at_,hd.len,by rw[hcl,hsl];exact hd.ol,by rw[hgr];exact hd.wt,fun j ch hj=>?_⟩;obtain⟨q,h1,h2,h3,h4⟩:=hd.am j ch hj;rw[hgr,hch,D2,h1];refine⟨_,rfl,?_⟩;dsimp only;split<;>exact⟨h2,h3,h4⟩
 .rw[hch,D2]at hq;obtain⟨q0,h0,rfl⟩:=BV.1 hq;have hqo:=h.que c q0 h0;split
  .exact⟨by simp,.inl rfl,fun m hm=>by cases hm⟩
  .rename_i hd;refine⟨hqo.len,?_,fun m hm=>?_⟩
   .rw[hsp];exact .inr (by simpa using hd)
   .rw[hcl,hsl];exact hqo.msgs m hm
 .rw[hwt,QR]at hw;have:=h.wait w hw.1;simp only[CA,AP,Ap,HU]at this⊢;obtain⟨h1,h2,h3,h4,h5,h6⟩:=this;rw[hcl,hsl,hsp];exact⟨by rw[EF,FO];exact h1,by simpa using hw.2,h3,h4,h5,h6⟩
section
variable{l:List BS}{i n:Int}{x:BS}
theorem Je(l:List BS)(i n:Int):(HD l i n).length=l.length:=by
 rw[HD];split<;>simp
theorem PV(hx:l[i.toNat]? =some x)(k:Nat):(HD l i n)[k]? =if k=i.toNat then some {x with rc:=n}else l[k]? :=by
 rw[HD,hx];dsimp only;rw[He];have:=AI hx;by_cases e:i.toNat=k
 .rw[D0 e,D0 e.symm,D0 (by omega)]
 .rw[CI e,CI fun h=>e h.symm]
theorem PW(hi:0≤i)(hx:l[i.toNat]? =some x){k:Int}(hk:0≤k):BL (HD l i n) k=if k=i then n else BL l k:=by
 rw[BL,BL,PV hx];by_cases e:k=i
 .rw[D0 (by omega),D0 e];rfl
 .rw[CI (by omega),CI e]
theorem QN(hx:l[i.toNat]? =some x)(k:Int):AY (HD l i n) k=AY l k:=by
 rw[AY,AY,PV hx];split
 .rename_i e;rw[e,hx];rfl
 .rfl
theorem Z0(hi:0≤i)(hx:l[i.toNat]? =some x): ∀{k:Nat} {b:Int},EF l b→A9 l k b=true→i∉Ql l k b→A9 (HD l i n) k b=true
 |0,b,hb,hc,h=>hc
 |k+1,b,hb,hc,h=>by
  by_cases h0:b=0
  .subst h0;exact FM _ _
  .have hs:=FL h0 hc;rw[Ql,CI h0,Co,not_or]at h;rw[A9,PW hi hx hb.1,CI fun e=>h.1 e.symm,Z0 hi hx hs.1 hs.2 h.2];have:EF (HD l i n) (BL l b):=by rw[EF,Je];exact hs.1
   rw[Ci this];simp
theorem Zz(hT:GV l)(hi:0<i)(hx:l[i.toNat]? =some x)(hn:EF l n)(ho:Cg l n i=false): ∀{k:Nat} {b:Int},EF l b→A9 l k b=true→ ∃m,A9 (HD l i n) m b=true
 |0,b,hb,hc=>by
  simp only[A9,Ap]at hc;subst hc;exact⟨0,FM _ _⟩
 |k+1,b,hb,hc=>by
  by_cases h0:b=0
  .subst h0;exact⟨0,FM _ _⟩
  .have hs:=FL h0 hc;by_cases e:b=i
   .have h1:=Z0 (n:=n) (by omega) hx hn (hT.qr n hn) (by simpa[Cg]using ho);refine⟨l.length+1,?_⟩;have:EF (HD l i n) n:=by rw[EF,Je];exact hn
    rw[A9,PW (by omega) hx hb.1,D0 e,h1,Ci this];simp
   .obtain⟨m,hm⟩:=Zz hT hi hx hn ho hs.1 hs.2;refine⟨m+1,?_⟩;have:EF (HD l i n) (BL l b):=by rw[EF,Je];exact hs.1
    rw[A9,PW (by omega) hx hb.1,CI e,hm,Ci this];simp
theorem p9(hT:GV l)(hi:0<i)(hx:l[i.toNat]? =some x)(hn:EF l n)(ho:Cg l n i=false):GV (HD l i n):=by
 refine⟨by rw[Je];exact hT.pos,by rw[PW (by omega) hx (by omega),CI (by omega)];exact hT.top,fun b hb=>?_⟩;have hb2:EF l b:=by rw[EF,Je]at hb;exact hb
 obtain⟨m,hm⟩:=Zz hT hi hx hn ho hb2 (hT.qr b hb2);exact KZ (by omega) (L4 hb hm)
end
variable{sz:List Int}
theorem Kk{p:AL}{s:BF}(h:FH p sz s){i n:Int}(hi:0<i)(hir:EF s.ac i)(hn:EF s.ac n)(hl:AY s.ac n=false)(ho:Cg s.ac n i=false):FH p sz {s with ac:=HD s.ac i n}:=by
 have hsm:=h.small;simp only[BF.small,AP,Ap]at hsm;have h1:=hir.1;have h2:=hir.2;obtain⟨x,hx⟩:=get_some (l:=s.ac) (i:=i.toNat) (by omega);have hlen:=Je s.ac i n;refine⟨by simp only[BF.small,AP,Ap,hlen];omega,p9 h.tree hi hx hn ho,fun k y hk hy=>?_,fun k g hg=>?_,by dsimp only;rw[hlen];exact h.tot,fun c q hq=>?_,fun w hw=>?_⟩
 .dsimp only at hy⊢;rw[QN hx];rw[PV hx]at hy;split at hy
  .cases hy;exact .inr hl
  .exact h.dead k y hk hy
 .obtain⟨d,hd⟩:=h.grp k g hg;exact⟨d,hd.f8,by dsimp only;rw[EF,hlen];exact hd.at_,hd.len,by dsimp only;rw[hlen];exact hd.ol,hd.wt,hd.am⟩
 .have:=h.que c q hq;exact⟨this.len,by dsimp only;rw[QN hx];exact this.dead,fun m hm=>by dsimp only;rw[hlen];exact this.msgs m hm⟩
 .have:=h.wait w hw;simp only[CA,AP,Ap,HU]at this⊢;rw[QN hx,hlen,EF,hlen];exact this
theorem Om: ∀{l:List Nat} {t:List Int},Below l t→ ∀(i:Nat) n k,l[i]? =some n→t[i]? =some k→0≤k∧k<n
 |_,_,.nil,i,n,k,h,_=>by simp at h
 |_,_,.cons h1 h2 h3,0,n,k,e1,e2=>by
  simp only[F0,CE]at e1 e2;subst e1 e2;exact⟨h1,h2⟩
 |_,_,.cons h1 h2 h3,i+1,n,k,e1,e2=>Om h3 i n k (by simpa using e1) (by simpa using e2)
theorem N3{d:Bs}{r:FG}{l:List Int}: ∀{i:Nat},r.d7.drop i=l→joinsOk d r i l=true→ ∀(j k:Nat) c c2,i≤j→k<j→r.d7[j]? =some c→r.d7[k]? =some c2→c≠c2:=by
 induction l with
 |nil=>
  intro i h _ j k c c2 hj _ e1 _;have:=On.1 h;have:=AI e1;omega
 |cons x l ih=>
  intro i h ho j k c c2 hj hk e1 e2;rw[joinsOk,AP]at ho;have hx:r.d7[i]? =some x:=by
   have:=congrArg (fun l=>l[0]?) h;simpa using this
  by_cases e:j=i
  .subst e;rw[hx]at e1;cases e1;have h1:=ho.1;simp only[GX,AP,Ap,HU,Rc]at h1;intro e;subst e;exact h1.2.2.2 (ON.2 ⟨k,by rw[It,D0 hk];exact e2⟩)
  .exact ih (by rw[AR hx]at h;exact(Rg h).2) ho.2 j k c c2 (by omega) hk e1 e2
structure zf(p:AL)(sz:List Int)(s:BF)(x:Cc)(s1:BF)(e:Ib)(js:List Hf):Prop where
 pm:FH p sz s1
 jobs: ∀j∈js,Cv p sz s1 j
 run:Di p s x=CD (GD p 401) js ⟨s1,[e],0⟩
 one:js.length≤1
theorem Rk(x:C0)(k:Nat)(a:Int)(e:List CV):(Bq x k a e).length≤1:=by
 rw[Bq];split<;>simp
variable{w:Fq}
theorem Mr{p:AL}{s:BF}{x:C0}(hF:BK p sz)(h:CA p sz s w=true)(hx:p.nodes[w.node.toNat]? =some x)(k:Nat): ∀j∈Bq x k w.at_ w.env,Cv p sz s j:=by
 obtain⟨y,hw⟩:=NY hF h;have hj:Cv p sz s ⟨w.node,w.at_,w.env⟩:=⟨hw.n0,hw.size,hw.at_,hw.live,hw.ol⟩;obtain⟨y2,l,h1,h2,h3,h4,_⟩:=MI hF hj;have h1:p.nodes[w.node.toNat]? =some y2:=h1;rw[hw.node]at h1;rw[hw.node]at hx;cases hx;cases h1;exact QG hj (by have:=hw.op;omega) h3 h4 k
theorem JD{p:AL}{s:BF}{j:Hf}(h:Cv p sz s j)(l:List Fq):Cv p sz {s with waits:=l} j:=⟨h.n0,h.size,h.at_,h.live,h.ol⟩
theorem r6{p:AL}{s:BF}{i:Nat}(hF:BK p sz)(hs:FH p sz s)(hw:s.waits[i]? =some w)(hg:lc p s w=true): ∃s1 e js,zf p sz s ⟨i,0,0,[]⟩ s1 e js:=by
 have hwo:=hs.wait w (Ac hw);obtain⟨x,hx⟩:=NY hF hwo;have hsm:=hs.small;simp only[BF.small,AP,Ap]at hsm;have hs1:FH p sz {s with waits:=Bh s.waits i}:=NX hs (by have:=MC s.waits (i:Int);omega) fun v hv=>hs.wait v (M0 hv)
 have hd:Di p s ⟨i,0,0,[]⟩=LY p {s with waits:=Bh s.waits i} w x:=by
  rw[Di,CI (by dsimp only;omega),Pv];simp only[GO,hw,hx.node]
 rw[LY]at hd;have ho:=hx.op;by_cases h7:x.op=7
 .rw[D0 h7]at hd;exact⟨_,_,[],jV hF hs1 w.at_,by simp,hd,by simp⟩
 .rw[CI h7]at hd;obtain⟨v,hv,hn,hk⟩:=hx.val h7;rw[lc,hx.node]at hg;simp only[h7,El,hn]at hg;split at hg
  .rename_i hk4;obtain⟨hr,y,hy,hyd⟩:=hk hk4;by_cases h6:x.op=6
   .rw[D0 h6]at hd;rw[CI (by omega)]at hg;simp only[AP,Ap,HU]at hg;have hat:=hx.at_;have a0:=hat.1;have hm:=Kk hs1 (i:=w.at_) (n:=v.n) (by omega) hat hr hg.2.1 hg.2.2;have hm2:=Kk hs (i:=w.at_) (n:=v.n) (by omega) hat hr hg.2.1 hg.2.2;rw[hn]at hd;exact⟨_,_,_,hm,fun j hj=>JD (Mr hF (hm2.wait w (Ac hw)) hx.node 0 j hj) (Bh s.waits i),hd,Rk _ _ _ _⟩
   .rw[CI h6]at hd;exact⟨_,_,_,hs1,fun j hj=>JD (Mr hF hwo hx.node 0 j hj) (Bh s.waits i),hd,Rk _ _ _ _⟩
  .cases hg
variable{t:List Int}
theorem Pk{p:AL}{s:BF}{i k:Nat}{g:Al}{d:Bs}{r:FG}(hF:BK p sz)(hs:FH p sz s)(h1:s.bv[i]? =some g)(h2:p.def? g.f8=some d)(h3:d.rules[k]? =some r)(h4:AY s.ac (g.place d r.at_)=false)(h5:Below (BP s d g r) t):YC p sz d r.d7 s (BM d g r.d7 t s)∧Cv p sz (BM d g r.d7 t s).2 ⟨r.node,g.place d r.at_,g.env++(BM d g r.d7 t s).1⟩:=by
 obtain⟨d2,hd⟩:=hs.grp i g h1;have hr:=Ac h3;have hd2:=hd.f8;rw[h2]at hd2;cases hd2;have hri:=Ix hF hs h1 hd hr;have hdf:=B3 hF (Dx h2).2;have hro:=hdf.ok.i9 r hr;simp only[Bd,AP,Ap]at hro;have hown: ∀c∈r.d7,(g.own d true c).toNat=(GZ p (s.bv.take i)).1+c.toNat:=fun c hc=>by
  obtain⟨a,b,_⟩:=hri.join c hc;have:=Ko hd.wt a b;omega
 have ht:=bu (p:=p) (sz:=sz) (d:=d) (g:=g) (cs:=r.d7) (ks:=t) hs (by have:=h5.len;rw[BP,BI]at this;exact this.symm) (fun j c k2 e1 e2=>?_) (fun a b c c2 hab e1 e2=>?_)
 .obtain⟨_,x,s0,b1,b2,b3,b4,b5,b6,b7,b8,_⟩:=hdf.node;have hlen:=hd.len;rw[b7]at hlen;simp only[F4]at hlen;obtain⟨c1,c2⟩:=b8 r hr;refine⟨ht,c1,?_,by rw[ht.only.ac];exact hri.place,by rw[ht.only.ac];exact h4,?_⟩
  .have:=ht.len;dsimp only;rw[c2,Bi];congr 1;omega
  .rw[ht.only.ac,ht.only.len,Ro,hd.ol,ht.ol];rfl
 .obtain⟨c0,c1,c2,q,c3,c4,c5⟩:=hri.join c (Ac e1);have hb:=Om h5 j (Kr s (g.own d true c)) k2 (by rw[BP,D2,e1];rfl) e2;refine⟨q,c3,by omega,?_⟩;obtain⟨ch,hch⟩:=get_some (l:=d.am) (i:=c.toNat) (by omega);obtain⟨q2,f1,f2,f3,_⟩:=hd.am _ ch hch;rw[hown c (Ac e1),f1]at c3;cases c3;rw[NH h1 h2 hch f2 f3,hch];rfl
 .rw[hown c (Ac e1),hown c2 (Ac e2)];have:=N3 rfl hro.2.2.2 b a c2 c (I5 _) hab e2 e1;have q1:=(hri.join c (Ac e1)).1;have q2:=(hri.join c2 (Ac e2)).1;omega
theorem rz{p:AL}{s:BF}{i k:Nat}{g:Al}{d:Bs}{r:FG}(hF:BK p sz)(hs:FH p sz s)(h1:s.bv[i]? =some g)(h2:p.def? g.f8=some d)(h3:d.rules[k]? =some r)(h4:AY s.ac (g.place d r.at_)=false)(h5:Below (BP s d g r) t): ∃s1 e js,zf p sz s ⟨-1,i,k,t⟩ s1 e js:=by
 obtain⟨ht,hj⟩:=Pk hF hs h1 h2 h3 h4 h5;have h1':s.bv[((i:Nat):Int).toNat]? =some g:=h1;have h3':d.rules[((k:Nat):Int).toNat]? =some r:=h3;refine⟨(BM d g r.d7 t s).2,⟨1,g.place d r.at_,i,k,(BM d g r.d7 t s).1⟩,[⟨r.node,g.place d r.at_,g.env++(BM d g r.d7 t s).1⟩],ht.pm,fun j hj2=>by rw[As.1 hj2];exact hj,?_,by simp⟩;rw[Di,D0 (by dsimp only;omega),j5];simp only[h1',(Dx h2).2,h3',Rq];rw[CD];cases GD p 401 ⟨r.node,g.place d r.at_,g.env++(BM d g r.d7 t s).1⟩ ⟨(BM d g r.d7 t s).2,[⟨1,g.place d r.at_,i,k,(BM d g r.d7 t s).1⟩],0⟩<;>rfl
theorem yv{p:AL}{s:BF}{x:Cc}(hF:BK p sz)(hs:FH p sz s)(h:Kz p s x): ∃s1 e js,zf p sz s x s1 e js:=by
 cases h with
 |wait h1 h2=>exact r6 hF hs h1 h2
 |i9 h1 h2 h3 h4 h5=>exact rz hF hs h1 h2 h3 h4 h5
theorem ry{p:AL}{s:BF}{x:Cc}(hF:BK p sz)(hs:FH p sz s)(h:Kz p s x){st:Ck}(hd:Di p s x=some st):FH p sz st.em∧st.ev≠ []∧st.ev.length≤401:=by
 obtain⟨s1,e,js,hm⟩:=yv hF hs h;rw[hm.run]at hd;have hp:=NF (fun j st st'=>JR hF 401 j st st') js ⟨s1,[e],0⟩ st hm.pm hm.jobs hd;obtain⟨l,h1,_⟩:=hp.evs;refine⟨hp.pm,by rw[h1];simp,?_⟩;have h2:=hp.ev;have h3:=hp.top (by dsimp only;omega);dsimp only[List.length_cons,List.length_nil]at h2;omega
def L8(l:List BS)(at_:Int)(n:Nat):List BS:=(Jr l at_).take n++l.drop n
variable{n:Nat}
theorem SV(l:List BS)(at_:Int)(hn:n≤l.length):(L8 l at_ n).length=l.length:=by
 rw[L8,Bi,Hw,Io,FO];omega
theorem Oz(l:List BS)(at_:Int)(hn:n≤l.length)(k:Nat):(L8 l at_ n)[k]? =(l[k]?).map fun x=>if k<n then{x with dead:=x.dead||Cg l k at_}else x:=by
 have hl:((Jr l at_).take n).length=n:=by rw[Hw,FO];omega
 rw[L8];by_cases hk:k<n
 .rw[Be (by omega),It,D0 hk,SW];simp[hk]
 .rw[Ce (by omega),hl,HW,show n+(k-n)=k by omega];cases l[k]? <;>simp[hk]
theorem lZ(l:List BS)(at_:Int):L8 l at_ 0=l:=by simp[L8]
theorem tq(l:List BS)(at_:Int):L8 l at_ l.length=Jr l at_:=by
 rw[L8,List.drop_length,D6,CS (by rw[FO];exact EX _)]
theorem lY{l:List BS}{at_:Int}{n:Nat}{x:BS}(hx:l[n]? =some x):L8 l at_ (n+1)=(L8 l at_ n).set n {x with dead:=x.dead||Cg l n at_}:=by
 have hn:=AI hx;refine List.ext_getElem? fun k=>?_;rw[Oz l at_ (by omega),He,SV l at_ (by omega),Oz l at_ (by omega)];by_cases e:n=k
 .subst e;rw[D0 rfl,D0 hn,hx,Es,D0 (by omega)]
 .rw[CI e];congr 1;funext y;by_cases h:k<n
  .rw[D0 h,D0 (by omega)]
  .rw[CI h,CI (by omega)]
variable{l:List BS}
theorem AAC{at_:Int}{x:BS}(hx:l[n]? =some x):(L8 l at_ n)[n]? =some x:=by
 have hn:=AI hx;rw[Oz l at_ (by omega),hx];simp
theorem tr(l:List BS)(at_:Int)(hn:n≤l.length)(i:Int):BL (L8 l at_ n) i=BL l i:=by
 rw[BL,BL,Oz l at_ hn];cases l[i.toNat]? with
 |none=>rfl
 |some x=>
  simp only[Es,F4];split<;>rfl
variable{m:List BS}
theorem Tb(hp: ∀i,BL m i=BL l i)(hl:m.length=l.length): ∀(k:Nat) (i:Int),A9 m k i=A9 l k i
 |0,i=>rfl
 |k+1,i=>by
  rw[A9,A9,hp,Tb hp hl k];congr 2;exact decide_eq_decide.2 (by unfold EF;rw[hl])
theorem bb(hp: ∀i,BL m i=BL l i): ∀(k:Nat) (i:Int),Ql m k i=Ql l k i
 |0,i=>rfl
 |k+1,i=>by rw[Ql,Ql,hp,bb hp k]
theorem rh(hp: ∀i,BL m i=BL l i)(hl:m.length=l.length)(h:GV l):GV m:=
 ⟨by rw[hl];exact h.pos,by rw[hp];exact h.top,fun i hi=>by rw[Tb hp hl,hl];exact h.qr i (by rw[EF,hl]at hi;exact hi)⟩
theorem bc(hp: ∀i,BL m i=BL l i)(hl:m.length=l.length)(b a:Int):Cg m b a=Cg l b a:=by
 rw[Cg,Cg,hl,bb hp]
def SS(l:List BS)(q:Fo):Fo:=if AY l q.at_=true then{q with queue:=[]}else q
def Nu(l:List BS)(c:List Fo)(n:Nat):List Fo:=(c.take n).map (SS l)++c.drop n
theorem lP(l:List BS)(c:List Fo):Nu l c 0=c:=by simp[Nu]
theorem th(l:List BS)(c:List Fo):Nu l c c.length=c.map (SS l):=by simp[Nu]
theorem tj(l:List BS)(c:List Fo)(hn:n≤c.length):(Nu l c n).length=c.length:=by
 rw[Nu,Bi,BI,Hw,Io];omega
variable{c:List Fo}
theorem Wy{q:Fo}(hq:c[n]? =some q):(Nu l c n)[n]? =some q:=by
 have hn:=AI hq;have hl:((c.take n).map (SS l)).length=n:=by rw[BI,Hw];omega
 rw[Nu,Ce (by omega),hl,MP,AR hq];rfl
theorem lO{q:Fo}(hq:c[n]? =some q):Nu l c (n+1)=(Nu l c n).set n (SS l q):=by
 have hn:=AI hq;have hl:((c.take n).map (SS l)).length=n:=by rw[BI,Hw];omega
 rw[Nu,Nu,GC,hq,List.set_append_right _ _ (by omega),hl,MP,AR hq];simp
theorem AAD(s:BF)(at_:Int):Na s at_=⟨Jr s.ac at_,s.bv,s.am.map (SS (Jr s.ac at_)),s.waits.filter fun w=> !AY (Jr s.ac at_) w.at_⟩:=rfl
def OG(e:List Ib)(st:Ck):Ck:=⟨st.em,e++st.ev,st.work⟩
theorem uD(p:AL)(j:Hf)(e:List Ib)(st:Ck):MA p j (OG e st)=(MA p j st).map fun r=>(OG e r.1,r.2):=by
 simp only[MA];cases p.nodes[j.node.toNat]? with
 |none=>rfl
 |some x=>
  dsimp only;by_cases h2:x.op=2
  .simp only[h2,F2,FP,OG];by_cases k2:(Ih j.env x.n).kind=2
   .simp only[k2,F2,Es,D9]
   .by_cases k3:(Ih j.env x.n).kind=3
    .simp only[k3,F2,Int.reduceEq,El];cases Qd p st.em (Ih j.env x.n).n (x.args.map (·.value j.env))<;>rfl
    .simp only[k2,k3,El];rfl
  by_cases h3:x.op=3
  .simp only[h3,Int.reduceEq,El,F2];rfl
  by_cases h4:x.op=4
  .simp only[h4,Int.reduceEq,El,F2,Ie,OG];cases p.defs[x.n.toNat]? with
   |none=>rfl
   |some d=>
    dsimp only;split<;>rename_i hc<;>simp[hc]
  by_cases h5:x.op=5
  .simp only[h5,Int.reduceEq,El,F2];rfl
  by_cases h6:Da x.op=true
  .simp only[h2,h3,h4,h5,h6,El,F2,Jx,OG];split<;>rename_i hc<;>simp[hc]
  .simp only[h2,h3,h4,h5,h6,El];rfl
theorem je{f:Hf→Ck→Option Ck}{e:List Ib}(hf: ∀j st,f j (OG e st)=(f j st).map (OG e)): ∀(l:List Hf) (st:Ck),CD f l (OG e st)=(CD f l st).map (OG e)
 |[],st=>rfl
 |j::l,st=>by
  rw[CD,CD,hf];cases f j st with
  |none=>rfl
  |some st1=>exact je hf l st1
theorem W3(p:AL)(e:List Ib): ∀(k:Nat) (j:Hf) (st:Ck),GD p k j (OG e st)=(GD p k j st).map (OG e)
 |0,j,st=>rfl
 |k+1,j,st=>by
  rw[GD,GD];have hw:(OG e st).work=st.work:=rfl;rw[hw];by_cases h:st.work<400
  .rw[D0 h,D0 h];have:=uD p j e {st with work:=st.work+1}
   rw[show({OG e st with work:=st.work+1}:Ck)=OG e {st with work:=st.work+1}from rfl,this]
   cases MA p j {st with work:=st.work+1}with
   |none=>rfl
   |some r=>exact je (fun j st=>W3 p e k j st) r.2 r.1
  .rw[CI h,CI h];rfl
def Jm(p:AL)(s:BF)(e:List Ib)(x:Cc):Option Ck:=(Di p s x).map (OG e)
theorem VU(f:Hf→Ck→Option Ck)(j:Hf)(st:Ck):CD f [j] st=f j st:=by
 rw[CD];cases f j st<;>rfl
section
variable{p:AL}{s:BF}{e:List Ib}{i:Nat}{w:Fq}{y:C0}
theorem MB(h1:s.waits[i]? =some w)(h2:p.nodes[w.node.toNat]? =some y):Di p s ⟨i,0,0,[]⟩=LY p {s with waits:=Bh s.waits i} w y:=by
 rw[Di,CI (by dsimp only;omega),Pv];simp only[GO,h1,h2]
theorem ig(h1:s.waits[i]? =some w)(h2:p.nodes[w.node.toNat]? =some y)(ho:y.op=7):Jm p s e ⟨i,0,0,[]⟩=some ⟨Na {s with waits:=Bh s.waits i} w.at_,e++[⟨3,w.at_,0,0,[]⟩],0⟩:=by
 rw[Jm,MB h1 h2,LY,D0 ho];rfl
theorem yu(h1:s.waits[i]? =some w)(h2:p.nodes[w.node.toNat]? =some y)(ho:y.op=6){kd:Int}(hk:y.kids=[kd]){v:CV}(hv:Ih w.env y.n=v):Jm p s e ⟨i,0,0,[]⟩=GD p 401 ⟨kd,w.at_,w.env⟩ ⟨{s with waits:=Bh s.waits i,ac:=HD s.ac w.at_ v.n},e++[⟨2,w.at_,v.n,0,[]⟩],0⟩:=by
 rw[Jm,MB h1 h2,LY,CI (by omega),D0 ho,hv,Bq,hk];simp only[F0];rw[VU];exact(W3 p e 401 _ _).symm
theorem ij(h1:s.waits[i]? =some w)(h2:p.nodes[w.node.toNat]? =some y)(ho:y.op=8){kd:Int}(hk:y.kids=[kd]){v:CV}(hv:Ih w.env y.n=v):Jm p s e ⟨i,0,0,[]⟩=GD p 401 ⟨kd,w.at_,w.env⟩ ⟨{s with waits:=Bh s.waits i},e++[⟨4,w.at_,v.n,0,[]⟩],0⟩:=by
 rw[Jm,MB h1 h2,LY,CI (by omega),CI (by omega),hv,Bq,hk];simp only[F0];rw[VU];exact(W3 p e 401 _ _).symm
end
variable{sz:List Int}{w:Fq}
theorem zN{p:AL}{s:BF}{y:C0}(hF:BK p sz)(h:Pz p sz s w y)(ho: ¬y.op=7): ∃kd,y.kids=[kd]:=by
 have hj:Cv p sz s ⟨w.node,w.at_,w.env⟩:=⟨h.n0,h.size,h.at_,h.live,h.ol⟩;obtain⟨y2,l,h1,h2,_⟩:=MI hF hj;have h1:p.nodes[w.node.toNat]? =some y2:=h1;rw[h.node]at h1;cases h1;simp only[Cy,AP,Ap]at h2;have hk:=h2.1;have hl:y.kids.length=1:=by
  rcases h.op with e|e|e
  .rw[e]at hk;simpa[DX]using hk.symm
  .exact absurd e ho
  .rw[e]at hk;simpa[DX]using hk.symm
 match y.kids,hl with
 |[kd],_=>exact⟨kd,rfl⟩
def HH:BF:=⟨[],[],[],[]⟩
structure Made where
 em:BF
 ev:List Ib
 err:Int
def Zr:Option Ck→Made
 |some st=>⟨st.em,st.ev,0⟩
 |none=>⟨HH,[],3⟩
def cy(p:AL)(s:BF)(x:Cc):Made:=if BU p s=0 then if x∈BZ p s then Zr (Di p s x)else⟨HH,[],5⟩else⟨HH,[],2⟩
abbrev Q2(r:Made):AV:=.ge [sA r.em,.d (.be (r.ev.map SZ)),.d (.int .i64 r.err)]
theorem AEE{p:AL}{s:BF}(x:Cc)(h: ¬BU p s=0):cy p s x=⟨HH,[],2⟩:=by rw[cy,CI h]
theorem AAF{p:AL}{s:BF}{x:Cc}(h:BU p s=0)(hx:x∉BZ p s):cy p s x=⟨HH,[],5⟩:=by rw[cy,D0 h,CI hx]
theorem W4{p:AL}{s:BF}{x:Cc}(h:BU p s=0)(hx:x∈BZ p s):cy p s x=Zr (Di p s x):=by rw[cy,D0 h,D0 hx]
theorem rq(p:AL)(s:BF)(x:Cc):Jm p s [] x=Di p s x:=by
 rw[Jm];cases Di p s x<;>rfl
theorem QB(p:AL)(sz:List Int):FH p sz DJ:=by
 refine⟨by decide,Ps (by decide),fun i x hi hx=>?_,fun i g hg=>by simp[DJ]at hg,rfl,fun c q hq=>by simp[DJ]at hq,fun w hw=>by simp[DJ]at hw⟩;have:=(BE.1 hx).1;simp[DJ]at this;omega
theorem P9{p:AL}(hF:BK p sz):Cv p sz DJ ⟨p.main,0,B9 p.free.length⟩:=by
 obtain⟨h1,h2⟩:=hF.main;refine⟨h1,by rw[h2];simp[B9],(show EF DJ.ac 0 from⟨by decide,by decide⟩),(show AY DJ.ac 0=false by decide),?_⟩;rw[DO];intro v hv;simp only[B9,FN,Ok]at hv;obtain⟨i,hi,rfl⟩:=hv;simp[CV.inB];omega
theorem dH{p:AL}{sz:List Int}(hF:BK p sz){st:Ck}(h:Jy p=some st):FH p sz st.em∧st.ev.length≤400∧ ∀e∈st.ev,R1 st.em e:=by
 have hp:=JR hF 401 ⟨p.main,0,B9 p.free.length⟩ ⟨DJ,[],0⟩ st (QB p sz) (P9 hF) h;obtain⟨l,h1,h2,h3⟩:=hp.evs;have h4:=hp.top (by dsimp only;omega);simp only[HM]at h1;subst h1;dsimp only at h2;exact⟨hp.pm,by omega,h3⟩
def Fm{α:Type}(l:List α)(k:Int):List α:=if 0≤k then Bh l k else l
def FC(idx:Int):List Int→List Int→Int
 |c::cs,k::ks=>if c=idx then k else FC idx cs ks
 |_,_=> -1
def FE(p:AL)(s:BF)(x:Cc)(q:Fo):Int:=if x.wait<0∧q.group=x.group then(match s.bv[x.group.toNat]? with
 |some g=>match p.defs[g.f8.toNat]? with
  |some d=>match d.rules[x.i9.toNat]? with
   |some r=>FC q.index r.d7 x.it
   |none=> -1
  |none=> -1
 |none=> -1)else-1
variable{α:Type}{l:List α}
theorem uZ{k:Int}(h:l.length≤k.toNat):Bh l k=l:=by
 rw[Bh,CS h,Lm (by omega),D6]
theorem E4{k:Int}(h:(l.length:Int)≤k∨k<0):Fm l k=l:=by
 unfold Fm;split
 .exact uZ (by omega)
 .rfl
theorem ACv{x:α}{k:Int}(h:(l.length:Int)=k):Fm (l++[x]) k=l:=by
 rw[Fm,D0 (by omega),Bh,show k.toNat=l.length by omega];simp
theorem rZ{x:α}{k:Int}(h: ¬(l.length:Int)=k):Fm (l++[x]) k=Fm l k++[x]:=by
 by_cases h1:k<l.length
 .by_cases h0:0≤k
  .rw[Fm,Fm,D0 h0,D0 h0,Bh,Bh,IN (by omega),PU (by omega),D9]
  .rw[E4 (.inr (by omega)),E4 (.inr (by omega))]
 .rw[E4 (l:=l) (.inl (by omega)),E4 (l:=l++[x]) (.inl (by rw[Bi,ID];omega))]
def HG(d:Bs)(g:Al)(n:Nat):List Int→List Int→Int
 |c::cs,k::ks=>if (g.own d true c).toNat=n then k else HG d g n cs ks
 |_,_=> -1
theorem OX{d:Bs}{g:Al}{n:Nat}: ∀{cs ks:List Int},(∀c∈cs,(g.own d true c).toNat≠n)→HG d g n cs ks= -1
 |[],ks,_=>by cases ks<;>rfl
 |c::cs,[],_=>rfl
 |c::cs,k::ks,h=>by
  rw[HG,CI (h c (FD ..)),OX fun c hc=>h c (Em _ hc)]
theorem WB{d:Bs}{g:Al}: ∀{cs ks:List Int} {s:BF} {n:Nat} {q:Fo},s.am[n]? =some q→(∀k∈ks,0≤k)→
 (∀(i j:Nat) c c2,i<j→cs[i]? =some c→cs[j]? =some c2→(g.own d true c2).toNat≠(g.own d true c).toNat)→(BM d g cs ks s).2.am[n]? =some {q with queue:=Fm q.queue (HG d g n cs ks)}
 |[],ks,s,n,q,hq,_,_=>by
  rw[BM,HG,E4 (.inr (by decide))]
  .exact hq
  .intro c cs k ks h;cases h
  .intro c cs k ks h;cases h
 |c::cs,[],s,n,q,hq,_,_=>by
  rw[BM,HG,E4 (.inr (by decide))]
  .exact hq
  .intro c cs k ks _ h;cases h
  .intro c cs k ks _ h;cases h
 |c::cs,k::ks,s,n,q,hq,hk,hd=>by
  have hk0:=hk k (FD ..);have ih:=fun q' h'=>WB (d:=d) (g:=g) (cs:=cs) (ks:=ks) (s:=(EC s (g.own d true c) k).2) (n:=n) (q:=q') h' (fun k hk2=>hk k (Em _ hk2)) fun i j c2 c3 hij e1 e2=>hd (i+1) (j+1) c2 c3 (by omega) (by simpa using e1) (by simpa using e2);rw[BM,HG];by_cases e:(g.own d true c).toNat=n
  .rw[D0 e];have h1:(EC s (g.own d true c) k).2.am[n]? =some {q with queue:=Bh q.queue k}:=by
    rw[EC,e,hq];simp[AI hq]
   have h2:=ih _ h1;rw[OX fun c2 hc2=>?_,E4 (.inr (by decide))]at h2
   .rw[Fm,D0 hk0];exact h2
   .obtain⟨j,hj⟩:=Hm hc2;have:=hd 0 (j+1) c c2 (by omega) rfl (by simpa using hj);rw[e]at this;exact this
  .rw[CI e];refine ih q ?_;rw[EC];split
   .dsimp only;rw[He,CI e];exact hq
   .exact hq
structure sY(p:AL)(s:BF)(x:Cc)(s1:BF):Prop where
 sp: ∀(i:Nat) y,s.ac[i]? =some y→ ∃z,s1.ac[i]? =some z∧(y.dead=true→z=y)
 gr:s1.bv=s.bv
 ch: ∀(c:Nat) q,s.am[c]? =some q→ ∃l,s1.am[c]? =some {q with queue:=l}∧(AY s1.ac q.at_=false→l=Fm q.queue (FE p s x q))
theorem nj{p:AL}{s:BF}{i:Nat}(hF:BK p sz)(hs:FH p sz s)(hw:s.waits[i]? =some w)(hg:lc p s w=true): ∃s1 e js,zf p sz s ⟨i,0,0,[]⟩ s1 e js∧sY p s ⟨i,0,0,[]⟩ s1:=by
 have hwo:=hs.wait w (Ac hw);obtain⟨x,hx⟩:=NY hF hwo;have hsm:=hs.small;simp only[BF.small,AP,Ap]at hsm;have hs1:FH p sz {s with waits:=Bh s.waits i}:=NX hs (by have:=MC s.waits (i:Int);omega) fun v hv=>hs.wait v (M0 hv)
 have hd:Di p s ⟨i,0,0,[]⟩=LY p {s with waits:=Bh s.waits i} w x:=by
  rw[Di,CI (by dsimp only;omega),Pv];simp only[GO,hw,hx.node]
 rw[LY]at hd;have ho:=hx.op;have hat:=hx.at_;have a0:=hat.1;obtain⟨z,hz⟩:=get_some (l:=s.ac) (i:=w.at_.toNat) (by have:=hat.2;omega);have hzl:z.dead=false:=by have:=hx.live;rwa [AY,hz]at this
 have ht: ∀q,FE p s ⟨i,0,0,[]⟩ q= -1:=fun q=>by rw[FE,CI (by dsimp only;omega)]
 have same: ∀(c:Nat) (q:Fo) (b:Bool),s.am[c]? =some q→ ∃l,s.am[c]? =some {q with queue:=l}∧(b=false→l=Fm q.queue (FE p s ⟨i,0,0,[]⟩ q)):=fun c q b hq=>⟨q.queue,hq,fun _=>by rw[ht,E4 (.inr (by decide))]⟩
 by_cases h7:x.op=7
 .rw[D0 h7]at hd;refine⟨_,_,[],⟨jV hF hs1 w.at_,by simp,hd,by simp⟩,⟨fun j y hj=>?_,rfl,fun c q hq=>?_⟩⟩
  .have h1:(Na {s with waits:=Bh s.waits i} w.at_).ac[j]? =some {y with dead:=y.dead||Cg s.ac j w.at_}:=by
    show(Jr s.ac w.at_)[j]? =_;rw[SW,hj];rfl
   exact⟨_,h1,fun hd=>by cases y;simp at hd⊢;simp[hd]⟩
  .have h1:(Na {s with waits:=Bh s.waits i} w.at_).am[c]? =some (if AY (Jr s.ac w.at_) q.at_=true then{q with queue:=[]}else q):=by
    show(s.am.map _)[c]? =_;rw[D2,hq];rfl
   by_cases hde:AY (Jr s.ac w.at_) q.at_=true
   .rw[D0 hde]at h1;exact⟨[],h1,fun hh=>by rw[show(Na {s with waits:=Bh s.waits i} w.at_).ac=Jr s.ac w.at_ from rfl,hde]at hh;cases hh⟩
   .rw[CI hde]at h1;exact⟨q.queue,h1,fun _=>by rw[ht,E4 (.inr (by decide))]⟩
 .rw[CI h7]at hd;obtain⟨v,hv,hn,hk⟩:=hx.val h7;rw[lc,hx.node]at hg;simp only[h7,El,hn]at hg;split at hg
  .rename_i hk4;obtain⟨hr,y,hy,hyd⟩:=hk hk4;by_cases h6:x.op=6
   .rw[D0 h6]at hd;rw[CI (by omega)]at hg;simp only[AP,Ap,HU]at hg;have hm:=Kk hs1 (i:=w.at_) (n:=v.n) (by omega) hat hr hg.2.1 hg.2.2;have hm2:=Kk hs (i:=w.at_) (n:=v.n) (by omega) hat hr hg.2.1 hg.2.2;rw[hn]at hd;refine⟨_,_,_,⟨hm,fun j hj=>JD (Mr hF (hm2.wait w (Ac hw)) hx.node 0 j hj) (Bh s.waits i),hd,Rk _ _ _ _⟩,⟨fun j u hj=>?_,rfl,fun c q hq=>same c q _ hq⟩⟩;show∃u2,(HD s.ac w.at_ v.n)[j]? =some u2∧_;rw[PV hz];split
    .rename_i e;rw[e,hz]at hj;cases hj;exact⟨_,rfl,fun h=>by rw[hzl]at h;cases h⟩
    .exact⟨u,hj,fun _=>rfl⟩
   .rw[CI h6]at hd;rw[D0 (by omega)]at hg;rw[hn]at hd;exact⟨_,_,_,⟨hs1,fun j hj=>JD (Mr hF hwo hx.node 0 j hj) (Bh s.waits i),hd,Rk _ _ _ _⟩,⟨fun j u hj=>⟨u,hj,fun _=>rfl⟩,rfl,fun c q hq=>same c q _ hq⟩⟩
  .cases hg
theorem nh{p:AL}{sz:List Int}{s:BF}{i k:Nat}{g:Al}{d:Bs}{r:FG}{t:List Int}(hF:BK p sz)(hs:FH p sz s)(h1:s.bv[i]? =some g)(h2:p.def? g.f8=some d)(h3:d.rules[k]? =some r)(h4:AY s.ac (g.place d r.at_)=false)(h5:Below (BP s d g r) t):sY p s ⟨-1,i,k,t⟩ (BM d g r.d7 t s).2:=by
 obtain⟨ht,hj⟩:=Pk hF hs h1 h2 h3 h4 h5;obtain⟨d2,hd⟩:=hs.grp i g h1;have hr:=Ac h3;have hd2:=hd.f8;rw[h2]at hd2;cases hd2;have hri:=Ix hF hs h1 hd hr;have hro:=(B3 hF (Dx h2).2).ok.i9 r hr;simp only[Bd,AP,Ap]at hro;have hown: ∀c∈r.d7,(g.own d true c).toNat=(GZ p (s.bv.take i)).1+c.toNat:=fun c hc=>by
  obtain⟨a,b,_⟩:=hri.join c hc;have:=Ko hd.wt a b;omega
 refine⟨fun j y hj=>⟨y,by rw[ht.only.ac];exact hj,fun _=>rfl⟩,ht.only.bv,fun n q hq=>⟨_,WB hq (fun k2 hk2=>?_) (fun a b c c2 hab e1 e2=>?_),fun _=>?_⟩⟩
 .obtain⟨j,hj2⟩:=Hm hk2;obtain⟨m,hm⟩:=get_some (l:=BP s d g r) (i:=j) (by have:=AI hj2;rw[h5.len]at this;exact this);exact(Om h5 j m k2 hm hj2).1
 .rw[hown c (Ac e1),hown c2 (Ac e2)];have:=N3 rfl hro.2.2.2 b a c2 c (I5 _) hab e2 e1;have q1:=(hri.join c (Ac e1)).1;have q2:=(hri.join c2 (Ac e2)).1;omega
 .congr 1;obtain⟨i2,j2,g2,d2,ch2,hc⟩:=FH.chn hs.grp hs.tot hq;rw[FE];by_cases hgi:q.group=i
  .rw[D0 ⟨by dsimp only;omega,hgi⟩];have h1':s.bv[((i:Nat):Int).toNat]? =some g:=h1;have h3':d.rules[((k:Nat):Int).toNat]? =some r:=h3;simp only[h1',(Dx h2).2,h3'];have hii:i2=i:=by have:=hc.group;omega
   subst hii;have hat:=hc.at_;have hix:=hc.index;have key: ∀(cs ks:List Int),(∀c∈cs,c∈r.d7)→HG d g n cs ks=FC q.index cs ks:=by
    intro cs;induction cs with
    |nil=>intro ks _;rw[HG,FC]<;>(intro c cs k ks h;cases h)
    |cons c cs ih=>
     intro ks hm;cases ks with
     |nil=>rw[HG,FC]<;>(intro c cs k ks _ h;cases h)
     |cons k ks=>
      rw[HG,FC,ih ks fun c hc=>hm c (Em _ hc)];have hcm:=hm c (FD ..);have h0:=(hri.join c hcm).1;have h6:=hown c hcm;by_cases e:c=q.index
      .rw[D0 e,D0 (by omega)]
      .rw[CI e,CI (by omega)]
   exact key _ _ fun _ h=>h
  .rw[CI fun h=>hgi h.2];refine OX fun c hcm e=>hgi ?_;obtain⟨c0,c1,_⟩:=hri.join c hcm;obtain⟨ch,hch⟩:=get_some (l:=d.am) (i:=c.toNat) (by omega);obtain⟨q2,f1,f2,_⟩:=hd.am _ ch hch;rw[←hown c hcm,e,hq]at f1;cases f1;exact f2
theorem ru{p:AL}{s:BF}{x:Cc}(hF:BK p sz)(hs:FH p sz s)(h:Kz p s x): ∃s1 e js,zf p sz s x s1 e js∧sY p s x s1:=by
 cases h with
 |wait h1 h2=>exact nj hF hs h1 h2
 | @i9 i k g d r t h1 h2 h3 h4 h5=>
   obtain⟨ht,hj⟩:=Pk hF hs h1 h2 h3 h4 h5;have h1':s.bv[((i:Nat):Int).toNat]? =some g:=h1;have h3':d.rules[((k:Nat):Int).toNat]? =some r:=h3;refine⟨(BM d g r.d7 t s).2,⟨1,g.place d r.at_,i,k,(BM d g r.d7 t s).1⟩,[⟨r.node,g.place d r.at_,g.env++(BM d g r.d7 t s).1⟩],⟨ht.pm,fun j hj2=>by rw[As.1 hj2];exact hj,?_,by simp⟩,nh hF hs h1 h2 h3 h4 h5⟩;rw[Di,D0 (by dsimp only;omega),j5];simp only[h1',(Dx h2).2,h3',Rq];rw[CD];cases GD p 401 ⟨r.node,g.place d r.at_,g.env++(BM d g r.d7 t s).1⟩ ⟨(BM d g r.d7 t s).2,[⟨1,g.place d r.at_,i,k,(BM d g r.d7 t s).1⟩],0⟩<;>rfl
structure ADR(s s':BF):Prop where
 sl:s.ac.length≤s'.ac.length
 gl:s.bv.length≤s'.bv.length
 cl:s.am.length≤s'.am.length
 sp: ∀(i:Nat) x,s.ac[i]? =some x→ ∃y,s'.ac[i]? =some y∧(x.dead=true→y=x)
 gr: ∀(i:Nat) g,s.bv[i]? =some g→s'.bv[i]? =some g
 ch: ∀(i:Nat) q,s.am[i]? =some q→ ∃q',s'.am[i]? =some q'∧q'.at_=q.at_∧q'.group=q.group∧q'.index=q.index
structure ADV(p:AL)(s:BF)(x:Cc)(s':BF)(q q':Fo):Prop where
 at_:EF s'.ac q'.at_
 dead:AY s'.ac q'.at_=true→q'.queue=[]
 live:AY s'.ac q'.at_=false→ ∃l,q'.queue=Fm q.queue (FE p s x q)++l
theorem ik{p:AL}{s:BF}{x:Cc}(hF:BK p sz)(hs:FH p sz s)(h:Kz p s x){st:Ck}(hd:Di p s x=some st):ADR s st.em∧ ∀(c:Nat) q,s.am[c]? =some q→ ∃q',st.em.am[c]? =some q'∧ADV p s x st.em q q':=by
 obtain⟨s1,e,js,hm,hk⟩:=ru hF hs h;rw[hm.run]at hd;have hp:=NF (fun j st st'=>JR hF 401 j st st') js ⟨s1,[e],0⟩ st hm.pm hm.jobs hd;have hx:=hp.ext;dsimp only at hx;have sp: ∀(i:Nat) x,s.ac[i]? =some x→ ∃y,st.em.ac[i]? =some y∧(x.dead=true→y=x):=fun i x hx2=>by
  obtain⟨z,h1,h2⟩:=hk.sp i x hx2;exact⟨z,hx.sp _ _ h1,h2⟩
 have gr: ∀(i:Nat) g,s.bv[i]? =some g→st.em.bv[i]? =some g:=fun i g hg=>hx.gr _ _ (by rw[hk.gr];exact hg);have ch: ∀(c:Nat) q,s.am[c]? =some q→ ∃q',st.em.am[c]? =some q'∧(q'.at_=q.at_∧q'.group=q.group∧q'.index=q.index)∧ADV p s x st.em q q':=fun c q hq=>by
  obtain⟨l,h1,h2⟩:=hk.ch c q hq;obtain⟨l2,h3⟩:=hx.ch c _ h1;have hqo:=hp.pm.que c _ h3;have hin:=(Ot hF hm.pm h1).at_;have hin2:=(Ot hF hp.pm h3).at_;refine⟨_,h3,⟨rfl,rfl,rfl⟩,hin2,fun hd=>?_,fun hd=>⟨l2,?_⟩⟩
  .rcases hqo.dead with h|h
   .exact DL h
   .rw[hd]at h;cases h
  .have e:=JQ hx hin;dsimp only at e hd⊢;rw[hd]at e;rw[h2 e.symm]
 exact⟨⟨Kh fun i x h=>(sp i x h).imp fun _ h=>h.1,Kh fun i x h=>⟨x,gr i x h⟩,Kh fun i x h=>(ch i x h).imp fun _ h=>h.1,sp,gr,fun i q h=>(ch i q h).imp fun _ h=>⟨h.1,h.2.1⟩⟩,fun c q h=>(ch c q h).imp fun _ h=>⟨h.1,h.2.2⟩⟩
structure so(p:AL)(s:BF)(x:Cc)(g:Al)(d:Bs)(r:FG):Prop where
 g0:0≤x.group
 grp:s.bv[x.group.toNat]? =some g
 d0:0≤g.f8
 f8:p.defs[g.f8.toNat]? =some d
 r0:0≤x.i9
 i9:d.rules[x.i9.toNat]? =some r
 len:r.d7.length=x.it.length
 small:r.d7.length≤3
theorem LX{idx:Int}{cs ks:List Int}: ∀{j:Nat},(∀(i:Nat) c,i<j→cs[i]? =some c→c≠idx)→j≤cs.length→cs.length=ks.length→FC idx cs ks=FC idx (cs.drop j) (ks.drop j)
 |0,_,_,_=>rfl
 |j+1,h,hj,hl=>by
  rw[LX (j:=j) (fun i c hi=>h i c (by omega)) (by omega) hl];obtain⟨c,hc⟩:=get_some (l:=cs) (i:=j) (by omega);obtain⟨k,hk⟩:=get_some (l:=ks) (i:=j) (by omega);rw[AR hc,AR hk,FC,CI (h j c (by omega) hc)]
theorem y7(p:AL)(s:BF)(x:Cc)(c:Nat)(q:Fo)(hq:s.am[c]? =some q)(hr:x.wait<0→ ∃g d r,so p s x g d r):BB (KL Tryz.prog cfg) 36 [pA p,sA s,OW x,.d (.int .i64 c)] []=.ok (.ret (.d (.int .i64 (FE p s x q))),[]):=by
 have hc:=AI hq;by_cases hw:x.wait<0
 .obtain⟨g,d,r,h⟩:=hr hw;clear hr;obtain⟨h1,h2,h3,h4,h5,h6,h7,h8⟩:=h;have hgl:=AI h2;have hdl:=AI h4;have hrl:=AI h6;have hw': ¬0≤x.wait:=by omega
  by_cases hg:q.group=x.group
  .have ht:FE p s x q=FC q.index r.d7 x.it:=by
    rw[FE,D0 ⟨hw,hg⟩];simp only[h2,h4,h6]
   rw[ht];clear ht;replace h7:=AA.mk h7
   (refine Ae rfl Tryz.func36 rfl rfl rfl ?_;show Wp _ _ _ _ (Tryz.f36.body.get rfl) _ _;simp only[Tryz.f36,AS])
   (repeat' (first|simp only[go_sem, *]|(refine sx ?_ ?_<;>intro hc)|refine sy (by omega) fun x hx hm=>?_|simp(disch:=first|assumption|omega) only[AK]))
   refine Ah r.d7 (S:=fun j (_:Unit)=>⟨[(3,.d (.int .i64 (c))),(5,.ptr [0,0] 0),(6,.ptr [0,1] 0),(9,.ptr [0,2] 0),(10,.d (.int .i64 (j)))],[([0,0],.box [.d (.be (s.ac.map Ab)),.d (.be (s.bv.map Ar)),.d (.be (s.am.map Bm)),.d (.be (s.waits.map AW))]),([0,1],.box [.d (.int .i64 (x.wait)),.d (.int .i64 (x.group)),.d (.int .i64 (x.i9)),.d (.be (x.it.map AJ))]),([0,2],.box [.d (.int .i64 (r.at_)),.d (.be (r.d7.map AJ)),.d (.int .i64 (r.node))])],3,[]⟩)
    (Inv:=fun j _ _=>AA (∀(i:Nat) y,i<j→r.d7[i]? =some y→y≠q.index)) (b0:=()) ⟨fun i y hi=>by omega⟩ ?_ ?_
   .rintro j y _ hy hj hjm hI IH;have w1:IntKind.i64.wrap ((j:Int)+1)=(j:Int)+1:=wrap_id (by omega) (by omega);obtain⟨k,hk⟩:=get_some (l:=x.it) (i:=j) (by have:=h7.out;omega);have hkl:=AI hk;have hd:AA (FC q.index r.d7 x.it=if y=q.index then k else FC q.index (r.d7.drop (j+1)) (x.it.drop (j+1))):=⟨by rw[LX (j:=j) hI.out (by omega) h7.out,AR hy,AR hk,FC]⟩;by_cases e:y=q.index
    .rw[hd.out,D0 e];replace hd:=AA.mk hd;exact au
    .have hn:AA (∀(i:Nat) z,i<j+1→r.d7[i]? =some z→z≠q.index):=⟨fun i z hi hz=>by
      by_cases e2:i=j
      .subst e2;rw[hy]at hz;cases hz;exact e
      .exact hI.out i z (by omega) hz⟩
     replace hd:=AA.mk hd
     (repeat' (first|simp only[go_sem, *]|(refine sx ?_ ?_<;>intro hc)|refine sy (by omega) fun x hx hm=>?_|simp(disch:=first|assumption|omega) only[AK]))
     exact IH.out () hn
   .rintro j _ hj hjm hI;have ht:FC q.index r.d7 x.it= -1:=by
     rw[LX (j:=j) hI.out (by have:=hj.out;omega) h7.out,Lm (by have:=hj.out;omega)];cases x.it.drop j<;>rfl
    rw[ht];clear ht;exact au
  .have ht:FE p s x q= -1:=by rw[FE,CI fun h=>hg h.2]
   rw[ht];clear ht
   (refine Ae rfl Tryz.func36 rfl rfl rfl ?_;show Wp _ _ _ _ (Tryz.f36.body.get rfl) _ _;simp only[Tryz.f36,AS])
   exact au
 .have ht:FE p s x q= -1:=by rw[FE,CI fun h=>hw h.1]
  rw[ht];have hw':0≤x.wait:=by omega
  clear hr ht
  (refine Ae rfl Tryz.func36 rfl rfl rfl ?_;show Wp _ _ _ _ (Tryz.f36.body.get rfl) _ _;simp only[Tryz.f36,AS])
  exact au
end Go.Proofs
namespace Go.Abs
variable{es:List (List Aa)}{n:Nat}
theorem NV{g:G}{id:Id}{s:Nat}(h:g id=some (.d9 s es)){lo hi mx:Option AV}{l r:Nat}{m:Option Nat}(hb:EH lo hi mx n=some (l,r,m))(hr:r≤es.length)(hm:m.getD r≤es.length)(h0:0<es.length):ET g .slice s (.eq id 0 n) lo hi mx=m.elim (some (.eq id l (r-l))) fun m=>if m=l then some .emp else some .undef:=by
 show OO g s id 0 (EH lo hi mx n)=_;rw[hb];simp only[OO,h,dI,I4];have e1:Nat.beq s s=true:=Nat.beq_refl s;have e2:Nat.ble (m.getD r) es.length=true:=Pu hm;have e3:Nat.ble r es.length=true:=Pu hr;have e4:Nat.blt 0 es.length=true:=by rw[TO];exact h0
 rw[e1,e2,e3,e4];cases m with
 |none=>rfl
 |some m=>
  simp only[NO,Hg];by_cases e:m=l<;>simp[e]
variable{a b:Int}
theorem j8{g:G}{id:Id}{s:Nat}(h:g id=some (.d9 s es)){m:Int}(h0:0≤a)(h1:a≤b)(h2:b≤m)(h3:m≤es.length)(h4:a<m):ET g .slice s (.eq id 0 n) (some (.d (.int .i64 a))) (some (.d (.int .i64 b))) (some (.d (.int .i64 m)))=some .undef:=by
 rw[NV h (l:=a.toNat) (r:=b.toNat) (m:=some m.toNat) (by simp[EH,HQ,IZ,h0,h1,h2]) (by omega) (by simp;omega) (by omega)];simp only[Option.elim_some];rw[CI (by omega)]
theorem Tg{g:G}{id:Id}{s:Nat}(h:g id=some (.d9 s es))(h0:0≤a)(h1:a≤n)(h2:n≤es.length)(h3:0<es.length):ET g .slice s (.eq id 0 n) (some (.d (.int .i64 a))) none none=some (.eq id a.toNat (n-a.toNat)):=by
 rw[NV h (l:=a.toNat) (r:=n) (m:=none) (by simp[EH,HQ,IZ,h0,h1]) h2 h2 h3];rfl
theorem Tf{g:G}{id:Id}{s:Nat}(h:g id=some (.d9 s es))(h0:0≤b)(h1:b≤es.length)(h3:0<es.length):ET g .slice s (.eq id 0 n) none (some (.d (.int .i64 b))) none=some (.eq id 0 b.toNat):=by
 rw[NV h (l:=0) (r:=b.toNat) (m:=none) (by simp[EH,HQ,IZ,h0]) (by omega) (by simp;omega) h3];rfl
theorem NW{g:G}{id:Id}{s:Nat}(h:g id=some (.d9 s es))(h0:0≤a)(h1:a≤b)(h2:b≤es.length)(h3:0<es.length):ET g .slice s (.eq id 0 n) (some (.d (.int .i64 a))) (some (.d (.int .i64 b))) none=some (.eq id a.toNat (b.toNat-a.toNat)):=by
 rw[NV h (l:=a.toNat) (r:=b.toNat) (m:=none) (by simp[EH,HQ,IZ,h0,h1]) (by omega) (by simp;omega) h3];rfl
theorem Tj{α:Type}{es ds:List α}{i:Nat}(h:i+ds.length≤es.length):CG es i ds=some (es.take i++ds++es.drop (i+ds.length)):=by
 unfold CG;rw[D0 (by first|exact h|simpa using h)]
variable{sz:Nat}
theorem jK(ds:List (List Aa))(hn:ds≠ [])(hs: ∀e∈ds,e.length=sz)(h0:0<sz)(hl:ds.length≤1000000)(g:G)(newId:Id)(j:TI)(hm:j.mix=false)(hj:j.size=sz):UG g newId j .co (some (ds.map fun x=>x.map AV.d))=some ⟨.eq (1::newId) 0 ds.length,[(1::newId,.d9 sz ds)]⟩:=by
 rw[Mw g newId j .co ds (by omega) (fun e he=>by rw[hj];exact hs e he) hn (by simp[BD];omega),SE,Q7 g newId j ds hm (by omega) (fun e he=>by rw[hj];exact hs e he) (by simp[BD];omega),hj]
theorem YO{id:Id}(es ds:List (List Aa))(hn:ds≠ [])(hs: ∀e∈ds,e.length=sz)(h0:0<sz)(hl:es.length+ds.length≤1000000)(n:Nat)(he:n=es.length)(g:G)(newId:Id)(j:TI)(hj:j.size=sz)(h:g id=some (.d9 sz es)):UG g newId j (.eq id 0 n) (some (ds.map fun x=>x.map AV.d))=some ⟨.eq (1::newId) 0 (n+ds.length),[(id,.i5 0 []),(1::newId,.d9 sz (es++ds))]⟩:=by
 have hp:CG es (0+n) ds=none:=by
  unfold CG;rw[CI];have:0<ds.length:=List.length_pos_iff.2 hn;omega
 rw[Mw g newId j _ ds (by omega) (fun e he=>by rw[hj];exact hs e he) hn (by simp[BD];omega),P2,h,P1,D0 ⟨hj.symm,by omega⟩,SD,JY,IA,P0,QQ,D0 rfl,hp,SB,D0 ⟨rfl,by simp[BD];omega⟩,he,EL];rfl
theorem Uv{g:G}{id:Id}{sz:Nat}{es x:List (List Aa)}{a n:Nat}(h:g id=some (.d9 sz (es++x)))(hn:n=es.length)(ha:a<n)(hs: ∀e∈es,e.length=sz)(h0:0<sz)(hl:n≤1000000)(newId:Id)(j:TI)(hj:j.size=sz):
 UG g newId j (.eq id 0 a) (some (List.take (n-(a+1)) (List.drop (a+1) ((es++x).map fun e=>e.map AV.d))))=some ⟨.eq id 0 (n-1),if a+1=n then []else [(id,.d9 sz (es.take a++(es.drop (a+1)++(es.drop (n-1)++x))))]⟩:=by
 subst hn;have e1:List.take (es.length-(a+1)) (List.drop (a+1) ((es++x).map fun e=>e.map AV.d))=(es.drop (a+1)).map fun e=>e.map AV.d:=by
  rw[←List.map_drop,←List.map_take,PU (by omega),IN (by simp),CS (by simp)]
 rw[e1];by_cases hz:a+1=es.length
 .rw[Lm (by omega),Dl,YJ,YM,D0 hz];congr 2;exact congrArg _ (by omega)
 .have hne:es.drop (a+1)≠ []:=fun e=>by rw[On]at e;omega
  have hds: ∀e∈es.drop (a+1),e.length=j.size:=fun e he=>by rw[hj];exact hs e (JP he)
  rw[Mw g newId j _ _ (by omega) hds hne (by simp[BD];omega),P2,h,P1,D0 ⟨hj.symm,by simp;omega⟩,SD,JY,IA,P0,QQ,D0 rfl,Tj (by simp;omega),SC,CI hz];simp only[I4,HM,Io];congr 2
  .exact congrArg _ (by omega)
  .rw[IN (by omega),PU (by omega),show a+(es.length-(a+1))=es.length-1 by omega,D9]
theorem Yh{g:G}{id:Id}{off:Nat}{z:List Aa}{j:TI}(h:g id=some (.d9 sz es))(hj:j.size=sz)(hz:C2 (fun _=>none) j.zero=some z)(hl:z.length=sz)(hc:(j.zero.length=sz∧j.zero.all AV.isCell=true)∧0<sz)(hn:off+n≤es.length):Hj g id off n j=some ⟨.undef,[(id,.d9 sz (es.take off++(List.replicate n z++es.drop (off+n))))]⟩:=by
 unfold Hj;rw[h];simp only[hz];rw[D0 ⟨hl,by rw[hc.1.1,hj],hc.1.2,hc.2⟩,Tj (by simpa using hn)];simp[D9]
def cn(g:G)(id:Id)(off n:Nat):Option TI→Option CU
 |some j=>Hj g id off n j
 |none=>none
theorem Z6(T:TypeId→Option TI)(g:G)(i:TI)(id:Id)(off:Nat)(hk:i.kind=.slice):GQ T g (some i) (.eq id off 1)=cn g id off 1 (T i.elem):=by
 unfold GQ;simp only[hk];cases T i.elem<;>rfl
theorem Yg(g:G)(id:Id)(off n:Nat)(j:TI):cn g id off n (some j)=Hj g id off n j:=rfl
attribute [go_sem] Z6 Yg
theorem SO{es x:List (List Aa)}{a sz:Nat}{z:List Aa}{zs:List AV}(L:List (List Aa))(ha:a<es.length)(hL:L=es.take a++(es.drop (a+1)++(es.drop (es.length-1)++x)))(hz:C2 (fun _=>none) zs=some z)(hl:z.length=sz)(hc:(zs.length=sz∧zs.all AV.isCell=true)∧0<sz){id:Id}(g:G)(j:TI)(h:g id=some (.d9 sz L))(hj:j.size=sz)(hj2:j.zero=zs):Hj g id (es.length-1) 1 j=some ⟨.undef,[(id,.d9 sz (es.take a++(es.drop (a+1)++(z::x))))]⟩:=by
 subst hj2 hL;have hl1:(es.take a).length=a:=by rw[Hw];omega
 have hl2:(es.drop (a+1)).length=es.length-1-a:=by rw[Io];omega
 have hl3:(es.drop (es.length-1)).length=1:=by rw[Io];omega
 rw[Yh h hj hz hl hc (by simp only[Bi,hl1,hl2,hl3];omega)];congr 5;have e1:es.take a++(es.drop (a+1)++(es.drop (es.length-1)++x))=(es.take a++es.drop (a+1))++(es.drop (es.length-1)++x):=by simp
 have e2:(es.take a++es.drop (a+1)).length=es.length-1:=by rw[Bi,hl1,hl2];omega
 rw[e1,List.take_left' e2];have e3:(es.take a++es.drop (a+1))++(es.drop (es.length-1)++x)=((es.take a++es.drop (a+1))++es.drop (es.length-1))++x:=(D9 ..).symm;rw[e3,List.drop_left' (l₁:=(es.take a++es.drop (a+1))++es.drop (es.length-1)) (by rw[Bi,e2,hl3])];simp
end Go.Abs
namespace Go.Proofs
open Go Go.Abs
set_option maxRecDepth 100000
set_option maxHeartbeats 4000000
theorem Oy{h:AD}{π:List Nat}{id:Abs.Id}{es x:List (List Aa)}{n a:Nat}(hm:h.get id=some (.d9 1 (es++x)))(hu:Id.under π id=false)(hn:n=es.length)(ha:a<n)(hs: ∀e∈es,e.length=1)(hl:n≤1000000):
 ∃o h',KL Tryz.prog cfg (.fn 161) [.eq id 0 n,.d (.int .i64 (a)),.d (.int .i64 ((a:Int)+1))] h π true none=.ok (o,h')∧o=.ret (.eq id 0 (n-1))∧(∃y,h'.get id=some (.d9 1 (es.take a++es.drop (a+1)++y)))∧ ∀i,Id.is id i=false→h'.get i=h.get i:=by
 subst hn;have w1:IntKind.i64.wrap ((a:Int)+1)=(a:Int)+1:=wrap_id (by omega) (by omega);have q1:=AH hu;have c1:=j8 (g:=h.get) (n:=es.length) hm (a:=a) (b:=(a:Int)+1) (m:=es.length) (by omega) (by omega) (by omega) (by simp;omega) (by omega);have c2:=Tf (g:=h.get) (n:=es.length) hm (b:=a) (by omega) (by simp;omega) (by simp;omega);have c3:=Tg (g:=h.get) (n:=es.length) hm (a:=(a:Int)+1) (by omega) (by omega) (by simp) (by simp;omega);have t1:((a:Int)).toNat=a:=rfl;have t2:((a:Int)+1).toNat=a+1:=by omega
 rw[t1]at c2;rw[t2]at c3;have c4:=Uv hm rfl ha hs (by decide) hl;replace hs:=AA.mk hs;have hle:a+(1+(es.length-(a+1)))≤es.length+x.length:=by omega
 have hd: ¬(a:Int)=(a:Int)+1:=by omega
 (refine Aj rfl Tryz.func161 rfl rfl rfl ?_;show Wp _ _ _ _ (Tryz.f161.body.get rfl) _ _;simp only[Tryz.f161,AS])
 have w2:es.length-(es.length-1)=1:=by omega
 have c6:=fun L hL=>SO (es:=es) (x:=x) (sz:=1) (z:=[.be []]) (zs:=[.co]) L ha hL rfl rfl ⟨⟨rfl,rfl⟩,by decide⟩ (id:=id);by_cases hz:a+1=es.length
 .rw[D0 hz]at c4;have c5:=fun(g:G) (hg:g id=some (.d9 1 (es++x)))=>NW (n:=es.length-1) hg (a:=((es.length-1:Nat):Int)) (b:=es.length) (by omega) (by omega) (by simp;omega) (by simp;omega);simp only[GO,w2]at c5;have c6:=c6 (es++x) (by rw[←D9,show es.length-1=a by omega,Lm (show es.length≤a+1 by omega)];simp[←D9]);replace hz:=AA.mk hz;refine aw ?_;exact⟨⟨_,rfl⟩,fun i hi=>by simp[hi]⟩
 .rw[CI hz]at c4;have c5:=fun(g:G) (hg:g id=some (.d9 1 (es.take a++(es.drop (a+1)++(es.drop (es.length-1)++x)))))=>NW (n:=es.length-1) hg (a:=((es.length-1:Nat):Int)) (b:=es.length) (by omega) (by omega) (by simp;omega) (by simp;omega);simp only[GO,w2]at c5;have c6:=c6 _ rfl;refine aw ?_;exact⟨⟨_,rfl⟩,fun i hi=>by simp[hi]⟩
theorem W1{h:AD}{π:List Nat}{id:Abs.Id}{es x:List (List Aa)}{n a:Nat}(hm:h.get id=some (.d9 3 (es++x)))(hu:Id.under π id=false)(hn:n=es.length)(ha:a<n)(hs: ∀e∈es,e.length=3)(hl:n≤1000000):
 ∃o h',KL Tryz.prog cfg (.fn 101) [.eq id 0 n,.d (.int .i64 (a)),.d (.int .i64 ((a:Int)+1))] h π true none=.ok (o,h')∧o=.ret (.eq id 0 (n-1))∧(∃y,h'.get id=some (.d9 3 (es.take a++es.drop (a+1)++y)))∧ ∀i,Id.is id i=false→h'.get i=h.get i:=by
 subst hn;have w1:IntKind.i64.wrap ((a:Int)+1)=(a:Int)+1:=wrap_id (by omega) (by omega);have q1:=AH hu;have c1:=j8 (g:=h.get) (n:=es.length) hm (a:=a) (b:=(a:Int)+1) (m:=es.length) (by omega) (by omega) (by omega) (by simp;omega) (by omega);have c2:=Tf (g:=h.get) (n:=es.length) hm (b:=a) (by omega) (by simp;omega) (by simp;omega);have c3:=Tg (g:=h.get) (n:=es.length) hm (a:=(a:Int)+1) (by omega) (by omega) (by simp) (by simp;omega);have t1:((a:Int)).toNat=a:=rfl;have t2:((a:Int)+1).toNat=a+1:=by omega
 rw[t1]at c2;rw[t2]at c3;have c4:=Uv hm rfl ha hs (by decide) hl;replace hs:=AA.mk hs;have hle:a+(1+(es.length-(a+1)))≤es.length+x.length:=by omega
 have hd: ¬(a:Int)=(a:Int)+1:=by omega
 (refine Aj rfl Tryz.func101 rfl rfl rfl ?_;show Wp _ _ _ _ (Tryz.f101.body.get rfl) _ _;simp only[Tryz.f101,AS])
 have w2:es.length-(es.length-1)=1:=by omega
 have c6:=fun L hL=>SO (es:=es) (x:=x) (sz:=3) (z:=[.int .i64 0,.int .i64 0,.be []]) (zs:=[.d (.int .i64 0),.d (.int .i64 0),.co]) L ha hL rfl rfl ⟨⟨rfl,rfl⟩,by decide⟩ (id:=id);by_cases hz:a+1=es.length
 .rw[D0 hz]at c4;have c5:=fun(g:G) (hg:g id=some (.d9 3 (es++x)))=>NW (n:=es.length-1) hg (a:=((es.length-1:Nat):Int)) (b:=es.length) (by omega) (by omega) (by simp;omega) (by simp;omega);simp only[GO,w2]at c5;have c6:=c6 (es++x) (by rw[←D9,show es.length-1=a by omega,Lm (show es.length≤a+1 by omega)];simp[←D9]);replace hz:=AA.mk hz;refine aw ?_;exact⟨⟨_,rfl⟩,fun i hi=>by simp[hi]⟩
 .rw[CI hz]at c4;have c5:=fun(g:G) (hg:g id=some (.d9 3 (es.take a++(es.drop (a+1)++(es.drop (es.length-1)++x)))))=>NW (n:=es.length-1) hg (a:=((es.length-1:Nat):Int)) (b:=es.length) (by omega) (by omega) (by simp;omega) (by simp;omega);simp only[GO,w2]at c5;have c6:=c6 _ rfl;refine aw ?_;exact⟨⟨_,rfl⟩,fun i hi=>by simp[hi]⟩
end Go.Proofs
namespace Go.Abs
def tlC:Nat→Code→Code
 |n+1,.seq _ y=>tlC n y
 |_,c=>c
def lN:Nat→Code→Code→Code
 |n+1,.seq x y,t=>.seq x (lN n y t)
 |0,_,t=>t
 |_,c,_=>c
theorem tm: ∀(n:Nat) (c:Code),lN n c (tlC n c)=c
 |0,c=>by cases c<;>rfl
 |n+1,c=>by
  cases c with
  |seq x y=>rw[tlC,lN,tm n y]
  |_=>rfl
theorem zP{C:Cj}{K:AO}{fr:Fr}{b:Nat}{c:Code}{st:St}{Q:Ds→St→Prop}(n:Nat)(h: ∀T,T=tlC n c→Wp C K fr b (lN n c T) st Q):Wp C K fr b c st Q:=by
 have:=h _ rfl
 rwa [tm]at this
end Go.Abs
namespace Go.Proofs
open Go Go.Abs
noncomputable def IB(b b':Nat)(π:List Nat)(id:Abs.Id):Bool:= @decide (∃n,b≤n∧n<b'∧Id.under (n::π) id=true) (Classical.propDecidable _)
variable{b b':Nat}{π:List Nat}
theorem Jf{id:Abs.Id}:IB b b' π id=true↔ ∃n,b≤n∧n<b'∧Id.under (n::π) id=true:=by
 unfold IB;rw[@decide_eq_true_eq _ (Classical.propDecidable _)]
theorem DK{b b':Nat}{π:List Nat}{id:Abs.Id}(h:IB b b' π id=false)(a n:Nat)(h1:b≤n)(h2:n<b'):Id.is (a::n::π) id=false:=AE fun e=>by
 subst e;have:IB b b' π (a::n::π)=true:=Jf.2 ⟨n,h1,h2,under_iff.2 ⟨[a],rfl⟩⟩;rw[h]at this;cases this
theorem LO(n:Nat)(l:List Nat)(h1:b≤n)(h2:n<b'):IB b b' π (l++n::π)=true:=Jf.2 ⟨n,h1,h2,under_iff.2 ⟨l,rfl⟩⟩
section
variable{p:AL}{sz:List Int}{π:List Nat}{m:Abs.Id}{V V':MV}{h g H g1:AD}{b b':Nat}{st st':Ck}
theorem Cb.apartB(hu:Ca π V m)(hr:Cb p sz π m V h b V' st g):Lk (IB b b' π) V' m:=fun id hid=>by
 cases hx:IB b b' π id with
 |false=>rfl
 |true=>
  obtain⟨n,h1,_,h2⟩:=Jf.1 hx;rcases hr.ids id hid with hh|⟨k,h3,h4,_⟩
  .have:=hu id hh;rw[Bk h2]at this;cases this
  .have:=Bl h4 h2;omega
theorem Cb.step(hb:b≤b')(hr:Cb p sz π m V h b V' st g)(hp:Nn p sz (IB b b' π) m V' g st' H): ∃V2,Cb p sz π m V h b' V2 st' H∧ ∀id,id∉V'.ids m→IB b b' π id=false→id∉V2.ids m:=by
 obtain⟨V2,hM,hK⟩:=hp;refine⟨V2,⟨hM,fun id hid=>?_,fun id h1 h2=>?_⟩,fun id h1 h2 h3=>?_⟩
 .rcases hK.ids id hid with hh|⟨hh,hl⟩
  .exact(hr.ids id hh).imp_right fun⟨n,a,c⟩=>⟨n,by omega,c⟩
  .obtain⟨n,_,h2,h3⟩:=Jf.1 hh;exact .inr ⟨n,h2,h3,hl⟩
 .have hnb:IB b b' π id=false:=by
   cases hx:IB b b' π id with
   |false=>rfl
   |true=>
    obtain⟨n,_,_,h3⟩:=Jf.1 hx;rw[Bk h3]at h2;cases h2
  rw[hK.frame id (fun hh=>?_) hnb]
  .exact hr.frame id h1 h2
  .rcases hr.ids id hh with hh|⟨k,_,h3,_⟩
   .exact h1 hh
   .rw[Bk h3]at h2;cases h2
 .rcases hK.ids id h3 with hh|⟨hh,_⟩
  .exact h1 hh
  .rw[h2]at hh;cases hh
end
theorem PX{b b' n:Nat}{π:List Nat}{id:Abs.Id}(hn:n<b)(hu:Id.under (n::π) id=true):IB b b' π id=false:=by
 cases hx:IB b b' π id with
 |false=>rfl
 |true=>
  obtain⟨k,h1,_,h2⟩:=Jf.1 hx;have:=Bl hu h2;omega
theorem te{p:AL}{sz:List Int}{N:Abs.Id→Bool}{h:AD}{m:Abs.Id}{V:MV}{st:Ck}(hM:Dw p sz h m V st)(hu:Lk N V m){q:Fo}(hq:q.queue=[])(A:Abs.Id)(h':AD)
 (a1:h'.get m=some (.box (Au p sz {V with v3:=.eq A 0 (V.rows.length+1)} st.work))) (a0:h'.get A=some (.arr 4 (V.rows++[A5 q .co]))) (a3:N A=true∧ ∃l,A=1::l)
 (a4: ∀id,Id.is m id=false→(∀id2∈AF V.v3,Id.is id2 id=false)→N id=false→h'.get id=h.get id):Nn p sz N m V h {st with em:={st.em with am:=st.em.am++[q]}} h':=by
 have hfr: ∀id,id≠m→id∉AF V.v3→N id=false→h'.get id=h.get id:=fun id b1 b2 b3=>a4 id (AE fun e=>b1 e.symm) (fun id2 hid=>AE fun e=>b2 (by rw[←e];exact hid)) b3;have hids:(V.rows++[A5 q .co]).flatMap Az=V.rows.flatMap Az:=by simp[Bz,AF]
 refine Q5 (v3:=.eq A 0 (V.rows.length+1)) (rows:=V.rows++[A5 q .co]) hM hu a1 (.inr ⟨A,by simp,a0⟩) ⟨by simp[hM.am.len],fun j q2 hj=>?_⟩ (by rw[hids];exact hM.qd) (fun id hid=>?_) (fun j hj=>by match j,hj with|0,_|1,_|2,_|3,_=>rfl) fun id b1 b2 _ b4=>hfr id b1 b2 b4
 .have hj2:(st.em.am++[q])[j]? =some q2:=hj;have hl:=hM.am.len;by_cases hjl:j<st.em.am.length
  .rw[Be hjl]at hj2;obtain⟨v,h1,h2⟩:=hM.am.row j q2 hj2;refine⟨v,by rw[Be (by omega)];exact h1,Ee h2 fun id hid=>?_⟩;have hmem:id∈V.rows.flatMap Az:=Bv.2 ⟨_,Ac h1,by rw[Bz];exact hid⟩;obtain⟨x,hx⟩:=DE h2 hid;refine hfr id (fun e=>?_) (fun e=>?_) (hu _ (V.row_mem m hmem))
   .rw[e,hM.box]at hx;cases hx
   .rw[Hi hM.arr e]at hx;cases hx
  .have hlt:=AI hj2;rw[Bi,ID]at hlt;obtain rfl:j=st.em.am.length:=by omega
   rw[Ce (by omega)]at hj2;simp only[MP,F0,CE]at hj2;subst hj2;exact⟨.co,by rw[Ce (by omega),hl];simp,.inl ⟨rfl,by rw[hq];rfl⟩⟩
 .rw[hids]at hid;rcases hid with hid|hid
  .simp only[AF,As]at hid;rw[hid];exact .inr a3
  .exact .inl (.inr hid)
structure Oc(p:AL)(sz:List Int)(π:List Nat)(m:Abs.Id)(V:MV)(h:AD)(b n:Nat)(V':MV)(g:AD)(r:Option Ck)(o:Ad)(g':AD):Prop where
 box: ∀k,k<b→g'.get (0::k::π)=g.get (0::k::π)
 un: ∀i,i∉V'.ids m→(∀a k,b≤k→Id.is (a::k::π) i=false)→Id.under (n::π) i=false→g'.get i=g.get i
 f9:r=none→o=.f9 (CL 3)∧FI p sz π m V h none o g'
 ret: ∀st2,r=some st2→o=.ret (.ge [])∧ ∃V2,Cb p sz π m V h (n+1) V2 st2 g'∧ ∀i,i∉V'.ids m→Id.under (n::π) i=false→i∉V2.ids m
theorem kn{p:AL}{sz:List Int}{π:List Nat}{m:Abs.Id}{V V':MV}{h g H g1:AD}{b n:Nat}{st:Ck}{r:Option Ck}{o:Ad}(hu:Ca π V m)(hr:Cb p sz π m V h b V' st g)(hl: ∀id,(∀a n,b≤n→Id.is (a::n::π) id=false)→H.get id=g.get id)(hn:b≤n)(ho:FI p sz (n::π) m V' H r o g1):Oc p sz π m V h b n V' g r o (gc (n::π) g1):=by
 have hr2:=hr.loc hu hl;refine⟨fun k hk=>?_,fun i h1 h2 h3=>?_,fun e=>?_,fun st2 e=>?_⟩
 .rw[hr2.box hu (by omega) ho];exact hl _ fun a n hn=>AE fun e=>by simp at e;omega
 .rw[Vc ho h1 h3];exact hl i h2
 .subst e;exact⟨ho.1,hr2.f9 hu hn ho⟩
 .subst e;exact⟨ho.1,hr2.call hu hn ho⟩
theorem VA{p:AL}{sz:List Int}{k:Nat}(IH0:JJ p sz k){π:List Nat}{m:Abs.Id}{V V':MV}{h g:AD}{b:Nat}{st:Ck}(hu:Ca π V m)(hr:Cb p sz π m V h b V' st g)(hI:Pw p sz k st){j:Hf}(hj:Cv p sz st.em j)(H:AD)(n:Nat)(hn:b≤n)(hl: ∀id,(∀a n,b≤n→Id.is (a::n::π) id=false)→H.get id=g.get id):
 ∃o g1,KL Tryz.prog cfg (.fn 66) [.ptr m 0,.d (.int .i64 j.node),.d (.int .i64 j.at_),.d (.be (j.env.map AN))] H (n::π) true none=.ok (o,g1)∧Oc p sz π m V h b n V' g (GD p k j st) o (gc (n::π) g1):=by
 have hr2:=hr.loc hu hl;obtain⟨o,g1,h1,h2⟩:=IH0 H (n::π) m V' st j hr2.rep (hr2.apart hu hn) hI.pm hj hI.w0 hI.w1 hI.w2 hI.ev;exact⟨o,g1,h1,kn hu hr hl hn h2⟩
end Go.Proofs
namespace Go.Proofs
open Go Go.Abs
set_option maxRecDepth 100000
set_option maxHeartbeats 4000000
@[go_sem] theorem AHE(n m:Int):BB (KL Tryz.prog cfg) 58 [.d (.int .i64 n),.d (.int .i64 m)] []=CC (CL 3) (decide (n≤m)):=by
  by_cases h:n≤m
  .rw[Ci h,LZ]
   (refine Ae rfl Tryz.func58 rfl rfl rfl ?_;show Wp _ _ _ _ (Tryz.f58.body.get rfl) _ _;simp only[Tryz.f58,AS])
   (repeat' (first|simp only[go_sem, *]|(refine sx ?_ ?_<;>intro hc)|refine sy (by omega) fun x hx hm=>?_|simp(disch:=first|assumption|omega) only[AK]))
   all_goals omega
  .rw[By h,KE]
   (refine Ae rfl Tryz.func58 rfl rfl rfl ?_;show Wp _ _ _ _ (Tryz.f58.body.get rfl) _ _;simp only[Tryz.f58,AS])
   (repeat' (first|simp only[go_sem, *]|(refine sx ?_ ?_<;>intro hc)|refine sy (by omega) fun x hx hm=>?_|simp(disch:=first|assumption|omega) only[AK]))
   all_goals omega
theorem JU{p:AL}{sz:List Int}{h:AD}{π:List Nat}{m:Abs.Id}{V:MV}{st:Ck}(hM:Dw p sz h m V st)(hu:Ca π V m)(d a n r:Int)(l:List CV)(hl:l.length≤1000000)(he:st.ev.length≤1000000):
 ∃o h',KL Tryz.prog cfg (.fn 103) [.ptr m 0,.d (.int .i64 (d)),.d (.int .i64 (a)),.d (.int .i64 (n)),.d (.int .i64 (r)),.d (.be (l.map AN))] h π true none=.ok (o,h')∧FI p sz π m V h (some {st with ev:=st.ev++[⟨d,a,n,r,l⟩]}) o h':=by
 have go:=AA.mk (IQ (st':={st with ev:=st.ev++[⟨d,a,n,r,l⟩]}) 3 (by omega) hM hu (AGj rfl) rfl)
 have hm:=hM.box;have um:=hu m (V.m_mem m);have hv:=hM.sl 3 (by omega);have hw:=fun id hid=>hu id (V.s_mem m (i:=3) (by omega) hid);simp only[Au]at hm;simp only[Gg,A7]at hv;have e1:=AH um;have e2:=Ak um;have e3:=EZ um;have e4:=Km um;have h1:=KD l hl;replace hM:=AA.mk hM;replace hu:=AA.mk hu;rcases hv with⟨hv,hz⟩|⟨id,x,hv,hg⟩
 .rw[hv]at hm;replace hz:=AA.mk (F5.1 hz);replace hw:=AA.mk hw;by_cases h0:l.length=0;all_goals
   (first|(obtain rfl:=DL h0;simp only[List.length_nil,Ct,Dl]at h1)|simp only[DN h0]at h1);have fa:=Cw
   (refine Aj rfl Tryz.func103 rfl rfl rfl ?_;show Wp _ _ _ _ (Tryz.f103.body.get rfl) _ _;simp only[Tryz.f103,AS])
   refine ax ?_;refine⟨rfl,?_⟩
   (refine go.out (.eq (1::13::π) 0 1) _ ?_ (BR [] (by simp[A7,hz.out]) ?_) (.inr fun id2 hid=>?_) (fun id2 b1 b2 b3=>?_);all_goals (try simp only[A7,Gg,hz.out,HM]);all_goals (first|(simp only[AF,As]at hid;subst hid;exact⟨Ay [1,13],_,rfl⟩)|(have q1:=AH b3;have q3:=EZ b3;simp only[go_sem,q1,q3,b1,AM];done)|(simp;done)|(simp only[go_sem,e1,e2,e3,e4,D1,Dl,AM];first|done|rfl)))
 .rw[hv]at hm;have ui:=hw id (by rw[hv];simp[AF]);have i1:=AH ui;have i2:=Ak ui;have i3:=EZ ui;have i4:=Km ui;replace hw:=AA.mk hw;simp only[BI]at hm;have him:Id.is id m=false:=AE fun e=>by rw[e,hm]at hg;cases hg
  have hmi:Id.is m id=false:=AE fun e=>by rw[←e,hm]at hg;cases hg
  replace hv:=AA.mk hv;have n1: ∀v,v=.eq id 0 (st.ev.length+1)→AF v=AF (V.s 3):=fun v e=>by rw[e,hv.out];rfl
  have n2: ∀id3,(∀id2∈AF (V.s 3),Id.is id2 id3=false)→Id.is id id3=false:=fun id3 b=>b id (by rw[hv.out];simp[AF]);by_cases h0:l.length=0;all_goals rcases x with _|⟨y,x⟩
  all_goals
   (first|(obtain rfl:=DL h0;simp only[List.length_nil,Ct,Dl]at h1)|simp only[DN h0]at h1);have fa:=Cw
   (refine Aj rfl Tryz.func103 rfl rfl rfl ?_;show Wp _ _ _ _ (Tryz.f103.body.get rfl) _ _;simp only[Tryz.f103,AS])
   refine ax ?_;refine⟨rfl,?_⟩
   (first|(refine go.out (.eq (1::13::π) 0 (st.ev.length+1)) _ ?_ (BR [] ?_ ?_) (.inr fun id2 hid=>?_) (fun id2 b1 b2 b3=>?_);all_goals (try simp only[A7,Gg]);all_goals (first|(simp only[AF,As]at hid;subst hid;exact⟨Ay [1,13],_,rfl⟩)|(have q1:=AH b3;have q3:=EZ b3;have q5:=n2 _ b2;simp only[go_sem,q1,q3,b1,q5,AM];done)|(simp;done)|(simp only[go_sem,e1,e2,e3,e4,i1,i2,i3,i4,him,hmi,D1,Dl,AM];first|done|rfl));done)|(refine go.out (.eq id 0 (st.ev.length+1)) _ ?_ (BR x ?_ ?_) (.inl (n1 _ rfl)) (fun id2 b1 b2 b3=>?_);all_goals (try simp only[A7,Gg]);all_goals (first|(simp only[AF,As]at hid;subst hid;exact⟨Ay [1,13],_,rfl⟩)|(have q1:=AH b3;have q3:=EZ b3;have q5:=n2 _ b2;simp only[go_sem,q1,q3,b1,q5,AM];done)|(simp;done)|(simp only[go_sem,e1,e2,e3,e4,i1,i2,i3,i4,him,hmi,D1,Dl,AM];first|done|rfl))))
theorem ADF{p:AL}{sz:List Int}{h:AD}{π:List Nat}{m:Abs.Id}{V:MV}{st:Ck}(hM:Dw p sz h m V st)(hu:Ca π V m)(j:Hf)(hl:j.env.length≤1000000)(he:st.em.waits.length≤1000000):
 ∃o h',KL Tryz.prog cfg (.fn 114) [.ptr m 0,.agg [.d (.int .i64 (j.node)),.d (.int .i64 (j.at_)),.d (.be (j.env.map AN))]] h π true none=.ok (o,h')∧FI p sz π m V h (Jx j st) o h':=by
 have go:=AA.mk (IQ (st':={st with em:={st.em with waits:=st.em.waits++[⟨j.at_,j.node,j.env⟩]}}) 2 (by omega) hM hu (vn rfl rfl rfl) rfl)
 have gf:=AA.mk fun v h' a1 a2 a3 a4=>Q6 (go.out v h' a1 a2 a3 a4);have hd:AA (Jx j st=if st.em.waits.length<40 then some {st with em:={st.em with waits:=st.em.waits++[⟨j.at_,j.node,j.env⟩]}}else none):=⟨rfl⟩
 have hm:=hM.box;have um:=hu m (V.m_mem m);have hv:=hM.sl 2 (by omega);have hw:=fun id hid=>hu id (V.s_mem m (i:=2) (by omega) hid);simp only[Au]at hm;simp only[Gg,A7]at hv;have e1:=AH um;have e2:=Ak um;have e3:=EZ um;have e4:=Km um;have h1:=KD j.env hl;replace hM:=AA.mk hM;replace hu:=AA.mk hu;rcases hv with⟨hv,hz⟩|⟨id,x,hv,hg⟩
 .rw[hv]at hm;replace hz:=AA.mk (F5.1 hz);replace hw:=AA.mk hw;obtain⟨jn,ja,l⟩:=j;dsimp only at*;by_cases h0:l.length=0;all_goals
   (first|(obtain rfl:=DL h0;simp only[List.length_nil,Ct,Dl]at h1)|simp only[DN h0]at h1);have fa:=Cw
   (refine Aj rfl Tryz.func114 rfl rfl rfl ?_;show Wp _ _ _ _ (Tryz.f114.body.get rfl) _ _;simp only[Tryz.f114,AS])
   refine ax ?_;rw[hd.out,D0 (by rw[hz.out];decide)];refine⟨rfl,?_⟩
   (refine go.out (.eq (1::16::π) 0 1) _ ?_ (BR [] (by simp[A7,hz.out]) ?_) (.inr fun id2 hid=>?_) (fun id2 b1 b2 b3=>?_);all_goals (try simp only[A7,Gg,hz.out,HM]);all_goals (first|(simp only[AF,As]at hid;subst hid;exact⟨Ay [1,16],_,rfl⟩)|(have q1:=AH b3;have q3:=EZ b3;simp only[go_sem,q1,q3,b1,AM];done)|(simp;done)|(simp only[go_sem,e1,e2,e3,e4,D1,Dl,AM];first|done|rfl)))
 .rw[hv]at hm;have ui:=hw id (by rw[hv];simp[AF]);have i1:=AH ui;have i2:=Ak ui;have i3:=EZ ui;have i4:=Km ui;replace hw:=AA.mk hw;simp only[BI]at hm;have him:Id.is id m=false:=AE fun e=>by rw[e,hm]at hg;cases hg
  have hmi:Id.is m id=false:=AE fun e=>by rw[←e,hm]at hg;cases hg
  replace hv:=AA.mk hv;have n1: ∀v,v=.eq id 0 (st.em.waits.length+1)→AF v=AF (V.s 2):=fun v e=>by rw[e,hv.out];rfl
  have n2: ∀id3,(∀id2∈AF (V.s 2),Id.is id2 id3=false)→Id.is id id3=false:=fun id3 b=>b id (by rw[hv.out];simp[AF]);obtain⟨jn,ja,l⟩:=j;dsimp only at*;by_cases h0:l.length=0;all_goals rcases x with _|⟨y,x⟩
  all_goals
   (first|(obtain rfl:=DL h0;simp only[List.length_nil,Ct,Dl]at h1)|simp only[DN h0]at h1);have fa:=Cw
   (refine Aj rfl Tryz.func114 rfl rfl rfl ?_;show Wp _ _ _ _ (Tryz.f114.body.get rfl) _ _;simp only[Tryz.f114,AS])
   (repeat' (first|simp only[go_sem, *,AM]|(refine sx ?_ ?_<;>intro hc)|refine sy (by omega) fun x hx hm=>?_|simp(disch:=first|assumption|omega) only[AK]))
   all_goals rw[hd.out]
   .rw[D0 (by omega)];refine⟨rfl,?_⟩
    (first|(refine go.out (.eq (1::16::π) 0 (st.em.waits.length+1)) _ ?_ (BR [] ?_ ?_) (.inr fun id2 hid=>?_) (fun id2 b1 b2 b3=>?_);all_goals (try simp only[A7,Gg]);all_goals (first|(simp only[AF,As]at hid;subst hid;exact⟨Ay [1,16],_,rfl⟩)|(have q1:=AH b3;have q3:=EZ b3;have q5:=n2 _ b2;simp only[go_sem,q1,q3,b1,q5,AM];done)|(simp;done)|(simp only[go_sem,e1,e2,e3,e4,i1,i2,i3,i4,him,hmi,D1,Dl,AM];first|done|rfl));done)|(refine go.out (.eq id 0 (st.em.waits.length+1)) _ ?_ (BR x ?_ ?_) (.inl (n1 _ rfl)) (fun id2 b1 b2 b3=>?_);all_goals (try simp only[A7,Gg]);all_goals (first|(simp only[AF,As]at hid;subst hid;exact⟨Ay [1,16],_,rfl⟩)|(have q1:=AH b3;have q3:=EZ b3;have q5:=n2 _ b2;simp only[go_sem,q1,q3,b1,q5,AM];done)|(simp;done)|(simp only[go_sem,e1,e2,e3,e4,i1,i2,i3,i4,him,hmi,D1,Dl,AM];first|done|rfl))))
   .rw[CI (by omega)];refine⟨rfl,?_⟩;replace go:=gf
    (first|(refine go.out (.eq (1::16::π) 0 (st.em.waits.length+1)) _ ?_ (BR [] ?_ ?_) (.inr fun id2 hid=>?_) (fun id2 b1 b2 b3=>?_);all_goals (try simp only[A7,Gg]);all_goals (first|(simp only[AF,As]at hid;subst hid;exact⟨Ay [1,16],_,rfl⟩)|(have q1:=AH b3;have q3:=EZ b3;have q5:=n2 _ b2;simp only[go_sem,q1,q3,b1,q5,AM];done)|(simp;done)|(simp only[go_sem,e1,e2,e3,e4,i1,i2,i3,i4,him,hmi,D1,Dl,AM];first|done|rfl));done)|(refine go.out (.eq id 0 (st.em.waits.length+1)) _ ?_ (BR x ?_ ?_) (.inl (n1 _ rfl)) (fun id2 b1 b2 b3=>?_);all_goals (try simp only[A7,Gg]);all_goals (first|(simp only[AF,As]at hid;subst hid;exact⟨Ay [1,16],_,rfl⟩)|(have q1:=AH b3;have q3:=EZ b3;have q5:=n2 _ b2;simp only[go_sem,q1,q3,b1,q5,AM];done)|(simp;done)|(simp only[go_sem,e1,e2,e3,e4,i1,i2,i3,i4,him,hmi,D1,Dl,AM];first|done|rfl))))
structure Mv(p:AL)(j:Hf)(x:C0):Prop where
 n0:0≤j.node
 node:p.nodes[j.node.toNat]? =some x
 len:j.env.length≤10000
variable{j:Hf}
theorem PZ{p:AL}{x:C0}(h:Mv p j x):j.node.toNat<p.nodes.length:=AI h.node
theorem AC2{p:AL}{sz:List Int}{h:AD}{π:List Nat}{m:Abs.Id}{V:MV}{st:Ck}(hM:Dw p sz h m V st)(hu:Ca π V m)(j:Hf){x:C0}(hj:Mv p j x)(hp:p.nodes.length≤60)(hal:x.args.length≤3)(haf: ∀e∈x.args,e.formed j.env.length=true)(hn0:0≤x.n)(hn1:x.n<j.env.length)
 (hin:j.env.all (CV.inB p st.em.am.length st.em.ac.length)=true) (hc: ∀(c:Nat) (q:Fo),st.em.am[c]? =some q→jE p st.em q) (he:st.ev.length≤1000000):
 ∃o h',KL Tryz.prog cfg (.fn 110) [.ptr m 0,.agg [.d (.int .i64 (j.node)),.d (.int .i64 (j.at_)),.d (.be (j.env.map AN))]] h π true none=.ok (o,h')∧FI p sz π m V h (FP p x j st) o h':=by
 have hm:=hM.box;have um:=hu m (V.m_mem m);simp only[Au]at hm;have e1:=AH um;have e2:=Ak um;have e3:=EZ um;have e4:=Km um;obtain⟨L,hL⟩: ∃L,L=x.args.map fun e=>e.value j.env:=⟨_,rfl⟩;have hLl:L.length=x.args.length:=by rw[hL,BI]
 have hx:=hj.node;have hn:=hj.n0;have hel:=hj.len;obtain⟨to,hto⟩:=get_some (l:=j.env) (i:=x.n.toNat) (by omega);have hxl:=PZ hj;replace hM:=AA.mk hM;replace hu:=AA.mk hu;replace hc:=AA.mk hc;replace hin:=AA.mk hin;replace hL:=AA.mk hL;replace hLl:=AA.mk hLl;replace haf:=AA.mk haf
 (refine Aj rfl Tryz.func110 rfl rfl rfl ?_;show Wp _ _ _ _ (Tryz.f110.body.get rfl) _ _;simp only[Tryz.f110,AS])
 refine aw ?_;refine AX x.args _ (S:=fun m' i (a:(AV×AD)×Nat)=>⟨[(0,.ptr m 0),(3,.ptr (0::0::π) 0),(4,.ptr (0::10::π) 0),(5,a.1.1),(20,.d (.be (x.args.map Bg))),(21,.d (.int .i64 (m'))),(22,.d (.int .i64 (i)))],a.1.2,a.2+17,[]⟩)
  (Inv:=fun i rest a=>(∀id,Id.under π id=false→a.1.2.get id=h.get id)∧a.1.2.get (0::0::π)=some (.box [.d (.int .i64 (j.node)),.d (.int .i64 (j.at_)),.d (.be (j.env.map AN))])∧a.1.2.get (0::10::π)=some (.box [.d (.int .i64 (x.op)),.d (.int .i64 (x.n)),.d (.be (x.args.map Bg)),.d (.be (x.kids.map AJ))])∧AA ((i=0∧a.1.1=.co)∨ ∃n,n<a.2+17∧a.1.1=.eq (1::n::π) 0 i∧a.1.2.get (1::n::π)=some (.d9 2 ((L.take i).map AN)))) (b0:=((_,_),_)) rfl ⟨?_,?_,?_,⟨.inl ⟨rfl,rfl⟩⟩⟩ ?_ ?_
 .intro id b;have q1:=AH b;simp only[go_sem,q1,AM]
 .simp only[go_sem]
 .simp only[go_sem]
 .rintro i y ⟨⟨t5,g⟩,b⟩ hy hi him ⟨k1,k2,k3,kl⟩ IH;dsimp only at*;have hyf:=haf.out y (Ac hy);have hLi:AA (L[i]? =some (y.value j.env)):=⟨by rw[hL.out,D2,hy];rfl⟩;replace k1:=AA.mk k1;have hLt:AA (L.take (i+1)=L.take i++[y.value j.env]):=⟨by rw[GC,hLi.out];rfl⟩;rcases kl.out with⟨rfl,rfl⟩|⟨n,hnb,rfl,hg⟩
  .clear kl;have him0:(0:Int)<x.args.length:=him;refine aw ?_;refine IH.out ((_,_),_) ⟨fun id b=>?_,?_,?_,⟨.inr ⟨b+28,by simp,rfl,?_⟩⟩⟩
   .have q1:=AH b;have q2:=k1.out id b;simp only[go_sem,q1,q2,AM]
   .simp only[go_sem,k2]
   .simp only[go_sem,k3]
   .rw[hLt.out];simp only[go_sem]
  .clear kl;have d0:(L.take i).length=i:=by have:=hLl.out;rw[Hw];omega
   have d1:List.take i (List.map AN (List.take i L))=List.map AN (List.take i L):=CS (by simp;omega);have d2: ¬b+27=n:=by omega
   have d3: ¬b+20=n:=by omega
   have d4: ¬n=b+27:=by omega
   have d5: ¬n=b+28:=by omega
   refine ax ?_;refine IH.out ((_,_),_) ⟨fun id b=>?_,?_,?_,⟨.inr ⟨b+28,by simp,rfl,?_⟩⟩⟩
   .have q1:=AH b;have q2:=k1.out id b;simp only[go_sem,q1,q2,AM]
   .simp only[go_sem,k2]
   .simp only[go_sem,k3]
   .rw[hLt.out];simp only[go_sem,d5,D1]
 .rintro i ⟨⟨t5,g⟩,b⟩ hi him ⟨k1,k2,k3,kl⟩;dsimp only at*;have hiL:i=L.length:=by rw[hi.out,hLl.out]
  clear hi;have hto2:Ih j.env x.n=to:=by rw[Ih,hto];rfl
  have htl:List.take L.length L=L:=EL;have hL3:L.length≤3:=by have:=hLl.out;omega
  replace k1:=AA.mk k1;by_cases kk2:to.kind=2
  .have hd:AA (FP p x j st=some {st with ev:=st.ev++[⟨5,j.at_,to.n,0,L⟩]}):=⟨by
    simp only[FP,hto2,kk2,F2,hL.out];rfl⟩
   rcases kl.out with⟨rfl,rfl⟩|⟨n,hnb,rfl,hg⟩
   .clear kl;have him0: ¬(0:Int)<x.args.length:=him;have hL0:=DL hiL.symm;subst hL0;clear hiL;refine aw ?_;refine AZ (JU (V:=V) (st:=st) (Eo hM.out hu.out ?_) (hu.out.ext _) 5 j.at_ to.n 0 [] (by simp) he) (fun o1 g1 p1=>?_)
    .intro id b;have q1:=AH b;have q2:=k1.out id b;simp only[go_sem,q1,q2,AM]
    .have fin:=QL (h:=h) hu.out (fun id b=>?_) p1
     .obtain rfl:=p1.1;refine aw ?_;rw[hd.out];exact fin
     .have q1:=AH b;have q2:=k1.out id b;simp only[go_sem,q1,q2,AM]
   .clear kl;subst hiL;refine aw ?_;refine AZ (JU (V:=V) (st:=st) (Eo hM.out hu.out ?_) (hu.out.ext _) 5 j.at_ to.n 0 L (by omega) he) (fun o1 g1 p1=>?_)
    .intro id b;have q1:=AH b;have q2:=k1.out id b;simp only[go_sem,q1,q2,AM]
    .have fin:=QL (h:=h) hu.out (fun id b=>?_) p1
     .obtain rfl:=p1.1;refine aw ?_;rw[hd.out];exact fin
     .have q1:=AH b;have q2:=k1.out id b;simp only[go_sem,q1,q2,AM]
  by_cases kk3:to.kind=3
  .have hib:=DO.1 hin.out to (Ac hto);simp only[CV.inB,kk3,Int.reduceEq,F2,El,AP,Ap]at hib;obtain⟨t0,t1⟩:=hib;obtain⟨q,hq⟩:=get_some (l:=st.em.am) (i:=to.n.toNat) (by omega);obtain⟨v,hr,hqs⟩:=hM.out.am.row _ _ hq;have hr0:=AA.mk hr;have hcf:=hc.out _ _ hq;obtain⟨c1,c2⟩:=hcf.at_;obtain⟨gr,d,ch,hgr,c3,hdd,hch⟩:=hcf.ex;have c4:=hcf.g0;have c5:=hcf.i0;have c6:=hcf.len;obtain⟨sp,hsp⟩:=get_some (l:=st.em.ac) (i:=q.at_.toNat) (by omega);obtain⟨S,xs,hS,gS,xS,lS,lS2⟩:=Jl (hM.out.sl 0 (by omega)) hsp;obtain⟨G,ys,hG,gG,xG,lG,lG2⟩:=Jl (hM.out.sl 1 (by omega)) hgr;have hA:=hM.out.arr;rcases hA with⟨_,hA⟩|⟨A,hA,gA⟩
   .rw[hA]at hr;simp at hr
   have lA:=AI hr;have sg: ∀r:List AV,(V.rows.set to.n.toNat r)[to.n.toNat]? =some r:=fun r=>List.getElem?_set_self lA;have uA:=hu.out A (V.v3_mem m (by rw[hA];simp[AF]));have uS:=hu.out S (V.s_mem m (i:=0) (by omega) (by rw[hS];simp[AF]));have uG:=hu.out G (V.s_mem m (i:=1) (by omega) (by rw[hG];simp[AF]));have gm:=(k1.out m um).trans hm;rw[hA,hS,hG]at gm;replace gA:=(k1.out A uA).trans gA;replace gS:=(k1.out S uS).trans gS;replace gG:=(k1.out G uG).trans gG;have a1:=AH uA;have a2:=Ak uA;have a3:=AH uS;have a4:=AH uG;have ldd:=AI hdd;have lch:=AI hch;have hsd:AY st.em.ac q.at_=sp.dead:=by simp[AY,hsp]
   have hmn:EP p st.em q=ch.many:=by simp[EP,hgr,hdd,hch]
   have hd:AA (FP p x j st=(Qd p st.em to.n L).map fun s=>{st with em:=s}):=⟨by
    simp only[FP,hto2,kk3,F2,hL.out];rfl⟩
   have hd2:AA (Qd p st.em to.n L=if sp.dead=false∧ch.many=L.length then Yi st.em to.n q L else some st.em):=⟨by
    rw[Qd,hq];simp only[hsd,hmn]⟩
   clear hsd hmn hcf;replace hm:=AA.mk hm;replace hS:=AA.mk hS;replace hG:=AA.mk hG;replace hA:=AA.mk hA;simp only[A5]at hr;simp only[Gg]at gS gG;have go:=AA.mk (TT hM.out hu.out hA.out hq hr0.out (q.queue++[L]));have gf:=AA.mk fun v h' a1 a0 a2 a3 a4=>Q6 (go.out v h' a1 a0 a2 a3 a4);have hs1:AA (sp.dead=true→FP p x j st=some st):=⟨fun h=>by rw[hd.out,hd2.out,CI (by simp[h])];rfl⟩;have hs2:AA (¬ch.many=L.length→FP p x j st=some st):=⟨fun h=>by rw[hd.out,hd2.out,CI (fun hh=>h hh.2)];rfl⟩;have hs3:AA (sp.dead=false→ch.many=L.length→q.queue.length+1≤12→FP p x j st=some {st with em:={st.em with am:=st.em.am.set to.n.toNat {q with queue:=q.queue++[L]}}}):=⟨fun h1 h2 h3=>by rw[hd.out,hd2.out,D0 ⟨h1,h2⟩,Yi,D0 (by omega)];rfl⟩
   have hs4:AA (sp.dead=false→ch.many=L.length→ ¬q.queue.length+1≤12→FP p x j st=none):=⟨fun h1 h2 h3=>by rw[hd.out,hd2.out,D0 ⟨h1,h2⟩,Yi,CI (by omega)];rfl⟩;clear hd hd2;have Am:Id.is A m=false:=AE fun e=>by rw[e,gm]at gA;cases gA
   have mA:Id.is m A=false:=AE fun e=>by rw[←e,gm]at gA;cases gA
   have same:AA (∀H:AD,(∀id,Id.under π id=false→H.get id=g.get id)→FI p sz π m V h (some st) (.ret (.ge [])) H):=⟨fun H hH=>QM hM.out hu.out fun id b=>(hH id b).trans (k1.out id b)⟩;rcases hqs with⟨rfl,hz⟩|⟨Q,zs,rfl,gQ⟩
   .replace hz:=AA.mk (F5.1 hz);rcases kl.out with⟨rfl,rfl⟩|⟨n,hnb,rfl,hg⟩;all_goals clear kl
    .have him0: ¬(0:Int)<x.args.length:=him;have hL0:=DL hiL.symm;subst hL0;clear hiL
     (repeat' (first|simp only[go_sem, *,AM]|(refine sx ?_ ?_<;>intro hc)|refine sy (by omega) fun x hx hm=>?_|simp(disch:=first|assumption|omega) only[AK]))
     all_goals (first|(rw[hs1.out (by assumption)];exact same.out _ (fun id b=>by have q1:=AH b;simp only[go_sem,q1,AM]))|(rw[hs2.out (by first|assumption|(show¬ch.many=0;assumption))];exact same.out _ (fun id b=>by have q1:=AH b;simp only[go_sem,q1,AM]))|(rw[hs3.out (by assumption) (by first|assumption|(show ch.many=0;assumption)) (by first|assumption|omega|(rw[hz.out];decide))];refine⟨rfl,?_⟩;first|(refine go.out (.eq (1::(b+94)::π) 0 1) _ ?_ ?_ (BR [] ?_ ?_) (.inr fun id2 hid=>?_) fun id2 b1 b2 b3 b4=>?_;all_goals (first|(simp only[AF,As]at hid;subst hid;exact⟨Ay [1,b+94],_,rfl⟩)|(have q1:=AH b4;have q2:=k1.out id2 b4;simp only[go_sem,q1,q2,b1,b2,AM];done)|(simp[hz.out];done)|(simp only[go_sem,e1,e2,a1,a2,Am,mA,gm,Au,hS.out,hG.out,hA.out,A5,D1,Dl,AM,hz.out];first|done|rfl));done)))
    .subst hiL;have d1: ¬b+93=n:=by omega
     have d2: ¬n=b+93:=by omega
     have d3: ¬b+94=n:=by omega
     have d4: ¬n=b+94:=by omega
     (repeat' (first|simp only[go_sem, *,AM]|(refine sx ?_ ?_<;>intro hc)|refine sy (by omega) fun x hx hm=>?_|simp(disch:=first|assumption|omega) only[AK]))
     all_goals (first|(rw[hs1.out (by assumption)];exact same.out _ (fun id b=>by have q1:=AH b;simp only[go_sem,q1,AM]))|(rw[hs2.out (by first|assumption|(show¬ch.many=0;assumption))];exact same.out _ (fun id b=>by have q1:=AH b;simp only[go_sem,q1,AM]))|(rw[hs3.out (by assumption) (by first|assumption|(show ch.many=0;assumption)) (by first|assumption|omega|(rw[hz.out];decide))];refine⟨rfl,?_⟩;first|(refine go.out (.eq (1::(b+94)::π) 0 1) _ ?_ ?_ (BR [] ?_ ?_) (.inr fun id2 hid=>?_) fun id2 b1 b2 b3 b4=>?_;all_goals (first|(simp only[AF,As]at hid;subst hid;exact⟨Ay [1,b+94],_,rfl⟩)|(have q1:=AH b4;have q2:=k1.out id2 b4;simp only[go_sem,q1,q2,b1,b2,AM];done)|(simp[hz.out];done)|(simp only[go_sem,e1,e2,a1,a2,Am,mA,gm,Au,hS.out,hG.out,hA.out,A5,D1,Dl,AM,hz.out];first|done|rfl));done)))
   .have uQ:=hu.out Q (V.row_mem m (Bv.2 ⟨_,Ac hr0.out,by simp[Bz,AF]⟩));replace gQ:=(k1.out Q uQ).trans gQ;have a5:=AH uQ;have a6:=Ak uQ;have QA:Id.is Q A=false:=AE fun e=>by rw[e,gA]at gQ;cases gQ
    have AQ:Id.is A Q=false:=AE fun e=>by rw[←e,gA]at gQ;cases gQ
    have Qm:Id.is Q m=false:=AE fun e=>by rw[e,gm]at gQ;cases gQ
    have mQ:Id.is m Q=false:=AE fun e=>by rw[←e,gm]at gQ;cases gQ
    rcases kl.out with⟨rfl,rfl⟩|⟨n,hnb,rfl,hg⟩;all_goals clear kl
    .have him0: ¬(0:Int)<x.args.length:=him;have hL0:=DL hiL.symm;subst hL0;clear hiL;rcases zs with _|⟨z,zs⟩;all_goals
      (repeat' (first|simp only[go_sem, *,AM]|(refine sx ?_ ?_<;>intro hc)|refine sy (by omega) fun x hx hm=>?_|simp(disch:=first|assumption|omega) only[AK]))
      all_goals (first|(rw[hs1.out (by assumption)];exact same.out _ (fun id b=>by have q1:=AH b;simp only[go_sem,q1,AM]))|(rw[hs2.out (by first|assumption|(show¬ch.many=0;assumption))];exact same.out _ (fun id b=>by have q1:=AH b;simp only[go_sem,q1,AM]))|(rw[hs3.out (by assumption) (by first|assumption|(show ch.many=0;assumption)) (by first|assumption|omega|(rw[hz.out];decide))];refine⟨rfl,?_⟩;first|(refine go.out (.eq (1::(b+94)::π) 0 (q.queue.length+1)) _ ?_ ?_ (BR [] ?_ ?_) (.inr fun id2 hid=>?_) fun id2 b1 b2 b3 b4=>?_;all_goals (first|(simp only[AF,As]at hid;subst hid;exact⟨Ay [1,b+94],_,rfl⟩)|(have q1:=AH b4;have q2:=k1.out id2 b4;have q5:=b3 Q (by simp[AF]);simp only[go_sem,q1,q2,b1,b2,q5,AM];done)|(simp;done)|(simp only[go_sem,e1,e2,a1,a2,Am,mA,gm,Au,hS.out,hG.out,hA.out,A5,D1,Dl,AM,a5,a6,QA,AQ,Qm,mQ];first|done|rfl));done)|(refine go.out (.eq Q 0 (q.queue.length+1)) _ ?_ ?_ (BR zs ?_ ?_) (.inl rfl) fun id2 b1 b2 b3 b4=>?_;all_goals (first|(simp only[AF,As]at hid;subst hid;exact⟨Ay [1,b+94],_,rfl⟩)|(have q1:=AH b4;have q2:=k1.out id2 b4;have q5:=b3 Q (by simp[AF]);simp only[go_sem,q1,q2,b1,b2,q5,AM];done)|(simp;done)|(simp only[go_sem,e1,e2,a1,a2,Am,mA,gm,Au,hS.out,hG.out,hA.out,A5,D1,Dl,AM,a5,a6,QA,AQ,Qm,mQ];first|done|rfl))))|(rw[hs4.out (by assumption) (by first|assumption|(show ch.many=0;assumption)) (by first|assumption|omega)];refine⟨rfl,?_⟩;first|(refine gf.out (.eq (1::(b+94)::π) 0 (q.queue.length+1)) _ ?_ ?_ (BR [] ?_ ?_) (.inr fun id2 hid=>?_) fun id2 b1 b2 b3 b4=>?_;all_goals (first|(simp only[AF,As]at hid;subst hid;exact⟨Ay [1,b+94],_,rfl⟩)|(have q1:=AH b4;have q2:=k1.out id2 b4;have q5:=b3 Q (by simp[AF]);simp only[go_sem,q1,q2,b1,b2,q5,AM];done)|(simp;done)|(simp only[go_sem,e1,e2,a1,a2,Am,mA,gm,Au,hS.out,hG.out,hA.out,A5,D1,Dl,AM,a5,a6,QA,AQ,Qm,mQ];first|done|rfl));done)|(refine gf.out (.eq Q 0 (q.queue.length+1)) _ ?_ ?_ (BR zs ?_ ?_) (.inl rfl) fun id2 b1 b2 b3 b4=>?_;all_goals (first|(simp only[AF,As]at hid;subst hid;exact⟨Ay [1,b+94],_,rfl⟩)|(have q1:=AH b4;have q2:=k1.out id2 b4;have q5:=b3 Q (by simp[AF]);simp only[go_sem,q1,q2,b1,b2,q5,AM];done)|(simp;done)|(simp only[go_sem,e1,e2,a1,a2,Am,mA,gm,Au,hS.out,hG.out,hA.out,A5,D1,Dl,AM,a5,a6,QA,AQ,Qm,mQ];first|done|rfl)))))
    .subst hiL;have d1: ¬b+93=n:=by omega
     have d2: ¬n=b+93:=by omega
     have d3: ¬b+94=n:=by omega
     have d4: ¬n=b+94:=by omega
     rcases zs with _|⟨z,zs⟩;all_goals
      (repeat' (first|simp only[go_sem, *,AM]|(refine sx ?_ ?_<;>intro hc)|refine sy (by omega) fun x hx hm=>?_|simp(disch:=first|assumption|omega) only[AK]))
      all_goals (first|(rw[hs1.out (by assumption)];exact same.out _ (fun id b=>by have q1:=AH b;simp only[go_sem,q1,AM]))|(rw[hs2.out (by first|assumption|(show¬ch.many=0;assumption))];exact same.out _ (fun id b=>by have q1:=AH b;simp only[go_sem,q1,AM]))|(rw[hs3.out (by assumption) (by first|assumption|(show ch.many=0;assumption)) (by first|assumption|omega|(rw[hz.out];decide))];refine⟨rfl,?_⟩;first|(refine go.out (.eq (1::(b+94)::π) 0 (q.queue.length+1)) _ ?_ ?_ (BR [] ?_ ?_) (.inr fun id2 hid=>?_) fun id2 b1 b2 b3 b4=>?_;all_goals (first|(simp only[AF,As]at hid;subst hid;exact⟨Ay [1,b+94],_,rfl⟩)|(have q1:=AH b4;have q2:=k1.out id2 b4;have q5:=b3 Q (by simp[AF]);simp only[go_sem,q1,q2,b1,b2,q5,AM];done)|(simp;done)|(simp only[go_sem,e1,e2,a1,a2,Am,mA,gm,Au,hS.out,hG.out,hA.out,A5,D1,Dl,AM,a5,a6,QA,AQ,Qm,mQ];first|done|rfl));done)|(refine go.out (.eq Q 0 (q.queue.length+1)) _ ?_ ?_ (BR zs ?_ ?_) (.inl rfl) fun id2 b1 b2 b3 b4=>?_;all_goals (first|(simp only[AF,As]at hid;subst hid;exact⟨Ay [1,b+94],_,rfl⟩)|(have q1:=AH b4;have q2:=k1.out id2 b4;have q5:=b3 Q (by simp[AF]);simp only[go_sem,q1,q2,b1,b2,q5,AM];done)|(simp;done)|(simp only[go_sem,e1,e2,a1,a2,Am,mA,gm,Au,hS.out,hG.out,hA.out,A5,D1,Dl,AM,a5,a6,QA,AQ,Qm,mQ];first|done|rfl))))|(rw[hs4.out (by assumption) (by first|assumption|(show ch.many=0;assumption)) (by first|assumption|omega)];refine⟨rfl,?_⟩;first|(refine gf.out (.eq (1::(b+94)::π) 0 (q.queue.length+1)) _ ?_ ?_ (BR [] ?_ ?_) (.inr fun id2 hid=>?_) fun id2 b1 b2 b3 b4=>?_;all_goals (first|(simp only[AF,As]at hid;subst hid;exact⟨Ay [1,b+94],_,rfl⟩)|(have q1:=AH b4;have q2:=k1.out id2 b4;have q5:=b3 Q (by simp[AF]);simp only[go_sem,q1,q2,b1,b2,q5,AM];done)|(simp;done)|(simp only[go_sem,e1,e2,a1,a2,Am,mA,gm,Au,hS.out,hG.out,hA.out,A5,D1,Dl,AM,a5,a6,QA,AQ,Qm,mQ];first|done|rfl));done)|(refine gf.out (.eq Q 0 (q.queue.length+1)) _ ?_ ?_ (BR zs ?_ ?_) (.inl rfl) fun id2 b1 b2 b3 b4=>?_;all_goals (first|(simp only[AF,As]at hid;subst hid;exact⟨Ay [1,b+94],_,rfl⟩)|(have q1:=AH b4;have q2:=k1.out id2 b4;have q5:=b3 Q (by simp[AF]);simp only[go_sem,q1,q2,b1,b2,q5,AM];done)|(simp;done)|(simp only[go_sem,e1,e2,a1,a2,Am,mA,gm,Au,hS.out,hG.out,hA.out,A5,D1,Dl,AM,a5,a6,QA,AQ,Qm,mQ];first|done|rfl)))))
  .have hd:AA (FP p x j st=some st):=⟨by simp only[FP,hto2,kk2,kk3,El]⟩;rcases kl.out with⟨rfl,rfl⟩|⟨n,hnb,rfl,hg⟩;all_goals clear kl
   .have him0: ¬(0:Int)<x.args.length:=him;clear hiL;refine aw ?_;rw[hd.out];refine QM hM.out hu.out fun id b=>?_;have q1:=AH b;have q2:=k1.out id b;simp only[go_sem,q1,q2,AM]
   .subst hiL;refine aw ?_;rw[hd.out];refine QM hM.out hu.out fun id b=>?_;have q1:=AH b;have q2:=k1.out id b;simp only[go_sem,q1,q2,AM]
def Fb(l:List Int)(at_:Int)(env:List CV):List Hf:=l.map fun n=>⟨n,at_,env⟩
variable{sz:List Int}{h:AD}{π:List Nat}{m:Abs.Id}{V:MV}{st:Ck}
theorem zr{p:AL}{k:Nat}(hF:BK p sz)(IH0:JJ p sz k)(hM:Dw p sz h m V st)(hu:Ca π V m)(hI:Pw p sz k st)(j:Hf){x:C0}(hj:Mv p j x)(hp:p.nodes.length≤60)(hkl:x.kids.length≤2)(hjs: ∀j'∈Fb x.kids j.at_ j.env,Cv p sz st.em j'):
 ∃o h',KL Tryz.prog cfg (.fn 111) [.ptr m 0,.agg [.d (.int .i64 (j.node)),.d (.int .i64 (j.at_)),.d (.be (j.env.map AN))]] h π true none=.ok (o,h')∧FI p sz π m V h (CD (GD p k) (Fb x.kids j.at_ j.env) st) o h':=by
 have hm:=hM.box;have um:=hu m (V.m_mem m);simp only[Au]at hm;have e1:=AH um;have e2:=Ak um;have hx:=hj.node;have hn:=hj.n0;have hel:=hj.len;have hxl:=PZ hj;replace hM:=AA.mk hM;replace hu:=AA.mk hu;replace hjs:=AA.mk hjs;replace hI:=AA.mk hI
 (refine Aj rfl Tryz.func111 rfl rfl rfl ?_;show Wp _ _ _ _ (Tryz.f111.body.get rfl) _ _;simp only[Tryz.f111,AS])
 refine aw ?_;refine AX x.kids _ (S:=fun m' i (a:AD×Nat)=>⟨[(0,.ptr m 0),(3,.ptr (0::0::π) 0),(15,.d (.be (x.kids.map AJ))),(16,.d (.int .i64 (m'))),(17,.d (.int .i64 (i)))],a.1,a.2+13,[]⟩)
  (Inv:=fun i rest a=>AA (∃V' st',Cb p sz π m V h (a.2+13) V' st' a.1∧Pw p sz k st'∧(∀j'∈Fb rest j.at_ j.env,Cv p sz st'.em j')∧CD (GD p k) (Fb x.kids j.at_ j.env) st=CD (GD p k) (Fb rest j.at_ j.env) st')∧a.1.get (0::0::π)=some (.box [.d (.int .i64 (j.node)),.d (.int .i64 (j.at_)),.d (.be (j.env.map AN))])) (b0:=(_,_)) rfl ⟨⟨V,st,?_,hI.out,hjs.out,rfl⟩,?_⟩ ?_ ?_
 .refine(Qc hM.out hu.out fun id b=>?_).up (I5 _);have q1:=AH b;simp only[go_sem,q1,AM]
 .simp only[go_sem]
 .rintro i y ⟨g,b⟩ hy hi him ⟨hl,k2⟩ IH;dsimp only at*;obtain⟨V',st',hR,hI',hj',he⟩:=hl.out;clear hl;replace he:=AA.mk he;replace hI':=AA.mk hI';replace hj':=AA.mk hj';replace hR:=AA.mk hR;refine aw ?_;have hjy:=hj'.out ⟨y,j.at_,j.env⟩ (by simp[Fb]);refine AZ (IH0 g ((b+23)::π) m V' st' ⟨y,j.at_,j.env⟩ hR.out.rep (hR.out.apart hu.out (by omega)) hI'.out.pm hjy hI'.out.w0 hI'.out.w1 hI'.out.w2 hI'.out.ev) (fun o1 g1 p1=>?_);have hb:=(hR.out.box hu.out (k:=0) (n:=b+23) (by omega) p1).trans k2;have hgo:AA (CD (GD p k) (Fb (y::x.kids.drop (i+1)) j.at_ j.env) st'=(GD p k ⟨y,j.at_,j.env⟩ st').bind (CD (GD p k) (Fb (x.kids.drop (i+1)) j.at_ j.env))):=⟨rfl⟩;cases hd:GD p k ⟨y,j.at_,j.env⟩ st' with
  |none=>
   rw[hd]at p1 hgo;have fin:=hR.out.f9 hu.out (by omega) p1;obtain rfl:=p1.1;refine aw ?_;rw[he.out,hgo.out];exact fin
  |some st2=>
   rw[hd]at p1 hgo;have hdp:=JR hF k _ _ _ hI'.out.pm hjy hd;obtain⟨V2,hR2,_⟩:=hR.out.call hu.out (by omega) p1;obtain rfl:=p1.1;replace p1:=AA.mk p1;replace hd:=AA.mk hd;replace hR2:=AA.mk hR2;refine aw ?_;refine IH.out (_,_) ⟨⟨V2,st2,hR2.out.up (by omega),hI'.out.post hdp,fun j' hj2=>Rj (hj'.out j' ?_) hdp.ext,?_⟩,hb⟩
   .simp only[Fb,Cs,Co]at*;exact .inr hj2
   .rw[he.out,hgo.out];rfl
 .rintro i ⟨g,b⟩ hi him ⟨hl,k2⟩;dsimp only at*;obtain⟨V',st',hR,hI',hj',he⟩:=hl.out;clear hl;replace he:=AA.mk he;refine aw ?_;rw[he.out];exact hR.fin
theorem Sy(f:Hf→Ck→Option Ck)(j:Hf)(st:Ck):CD f [j] st=f j st:=by
 simp only[CD];cases f j st<;>rfl
theorem lQ{p:AL}{sz:List Int}{k:Nat}(hF:BK p sz)(IH0:JJ p sz k){h:AD}{π:List Nat}{m:Abs.Id}{V:MV}{st:Ck}(hM:Dw p sz h m V st)(hu:Ca π V m)(hI:Pw p sz k st)(j:Hf){x:C0}(hj:Mv p j x)(hp:p.nodes.length≤60){e0:Bc}(ha:x.args=[e0])(hf:e0.formed j.env.length=true){ka kb:Int}(hk:x.kids=[ka,kb])
 (hja:Cv p sz st.em ⟨ka,j.at_,j.env⟩) (hjb:Cv p sz st.em ⟨kb,j.at_,j.env⟩):
 ∃o h',KL Tryz.prog cfg (.fn 113) [.ptr m 0,.agg [.d (.int .i64 (j.node)),.d (.int .i64 (j.at_)),.d (.be (j.env.map AN))]] h π true none=.ok (o,h')∧FI p sz π m V h (CD (GD p k) (Bq x (VS x j.env) j.at_ j.env) st) o h':=by
 have hm:=hM.box;have um:=hu m (V.m_mem m);simp only[Au]at hm;have e1:=AH um;have e2:=Ak um;have hx:=hj.node;have hn:=hj.n0;have hel:=hj.len;have hxl:=PZ hj;obtain⟨xo,xn,xa,xk⟩:=x;dsimp only at ha hk;subst ha;subst hk;have hvk: ∃v,v=e0.value j.env:=⟨_,rfl⟩;obtain⟨v,hv⟩:=hvk;have hval:=zL j.env e0 hf;rw[←hv]at hval;have hif:AA (VS ⟨xo,xn,[e0],[ka,kb]⟩ j.env=if v.kind=1∧v.n≠0 then 0 else 1):=⟨by simp only[VS,F0,hv]⟩;replace hv:=AA.mk hv;replace hM:=AA.mk hM;replace hu:=AA.mk hu;replace hja:=AA.mk hja;replace hjb:=AA.mk hjb;replace hI:=AA.mk hI;have go:AA (∀(c:Int),Cv p sz st.em ⟨c,j.at_,j.env⟩→ ∀H n,(∀id,Id.under π id=false→H.get id=h.get id)→ ∃o g1,KL Tryz.prog cfg (.fn 66) [.ptr m 0,.d (.int .i64 (c)),.d (.int .i64 (j.at_)),.d (.be (j.env.map AN))] H (n::π) true none=.ok (o,g1)∧FI p sz π m V h (GD p k ⟨c,j.at_,j.env⟩ st) o (gc (n::π) g1)):=⟨fun c hc H n hH=>by
  obtain⟨o,g1,h1,h2⟩:=IH0 H (n::π) m V st ⟨c,j.at_,j.env⟩ (Eo hM.out hu.out hH) (hu.out.ext n) hI.out.pm hc hI.out.w0 hI.out.w1 hI.out.w2 hI.out.ev;exact⟨o,g1,h1,QL hu.out hH h2⟩⟩
 by_cases hc:v.kind=1∧v.n≠0
 .rw[hif.out,D0 hc];clear hif;have hgo:AA (CD (GD p k) (Bq ⟨xo,xn,[e0],[ka,kb]⟩ 0 j.at_ j.env) st=GD p k ⟨ka,j.at_,j.env⟩ st):=⟨Sy _ _ _⟩
  (refine Aj rfl Tryz.func113 rfl rfl rfl ?_;show Wp _ _ _ _ (Tryz.f113.body.get rfl) _ _;simp only[Tryz.f113,AS])
  refine aw ?_;refine E3 (go.out ka hja.out _ _ fun id b=>?_) (fun o1 g1 p1=>?_)
  .have q1:=AH b;simp only[go_sem,q1,AM]
  .rw[←hgo.out]at p1;cases hr:CD (GD p k) (Bq ⟨xo,xn,[e0],[ka,kb]⟩ 0 j.at_ j.env) st;all_goals
    rw[hr]at p1;have fin:=AA.mk p1;obtain rfl:=p1.1;replace p1:=AA.mk p1;refine aw ?_;exact fin.out
 .rw[hif.out,CI hc];clear hif;have hgo:AA (CD (GD p k) (Bq ⟨xo,xn,[e0],[ka,kb]⟩ 1 j.at_ j.env) st=GD p k ⟨kb,j.at_,j.env⟩ st):=⟨Sy _ _ _⟩;have hz:(if v.kind=1 then v.n else 0)=0:=by
   split
   .rename_i hk;by_cases h0:v.n=0
    .exact h0
    .exact absurd ⟨hk,h0⟩ hc
   .rfl
  clear hc
  (refine Aj rfl Tryz.func113 rfl rfl rfl ?_;show Wp _ _ _ _ (Tryz.f113.body.get rfl) _ _;simp only[Tryz.f113,AS])
  refine aw ?_;refine E3 (go.out kb hjb.out _ _ fun id b=>?_) (fun o1 g1 p1=>?_)
  .have q1:=AH b;simp only[go_sem,q1,AM]
  .rw[←hgo.out]at p1;cases hr:CD (GD p k) (Bq ⟨xo,xn,[e0],[ka,kb]⟩ 1 j.at_ j.env) st;all_goals
    rw[hr]at p1;have fin:=AA.mk p1;obtain rfl:=p1.1;replace p1:=AA.mk p1;refine aw ?_;exact fin.out
variable{x1 x2 x3 x4 x5 x7 x8 x9 x10 x11 x12:AV}
theorem Xd{x0:AV}{ds:List Bs}{g:Al}{d:Bs}(hm:h.get m=some (.box [x0,x1,x2,x3,x4,x5,.d (.be (ds.map Ax)),x7,x8,x9,x10,x11,x12]))(um:Id.under π m=false)(h0:0≤g.f8)(hd:ds[g.f8.toNat]? =some d)(c1:d.am.length≤30)(c2:d.ac.length≤30)(he:d.own≤g.env.length)(hl:g.env.length≤10000)(c:Bool)(n:Int)(hn:0≤n)(hn2:n<if c then(d.am.length:Int)else d.ac.length):
 ∃o h',KL Tryz.prog cfg (.fn 95) [.ptr m 0,.agg [.d (.int .i64 (g.f8)),.d (.int .i64 (g.at_)),.d (.be (g.env.map AN))],.d (.bool (c)),.d (.int .i64 (n))] h π true (some π)=.ok (o,h')∧o=.ret (.d (.int .i64 (g.own d c n))):=by
 have hdl:=AI hd;have e1:=AH um;have e2:=Ak um;unfold Bs.own at he;cases c with
 |true=>
  simp only[F2]at hn2;have hlt:g.env.length-d.ac.length-d.am.length+n.toNat<g.env.length:=by omega
  obtain⟨v,hv⟩:=get_some hlt;have hpl:AA (g.own d true n=v.n):=⟨by
   rw[Al.own];simp only[F2];rw[hv];rfl⟩
  have q1:((g.env.length:Int)-(d.ac.length:Int)-(d.am.length:Int)+n).toNat=g.env.length-d.ac.length-d.am.length+n.toNat:=by omega
  rw[←q1]at hv;replace q1:=AA.mk q1;have q2:0≤(g.env.length:Int)-(d.ac.length:Int)-(d.am.length:Int)+n:=by omega
  (refine Aj rfl Tryz.func95 rfl rfl rfl ?_;show Wp _ _ _ _ (Tryz.f95.body.get rfl) _ _;simp only[Tryz.f95,AS])
  refine aw ?_;rw[hpl.out]
 |false=>
  simp only[AM,El]at hn2;have hlt:g.env.length-d.ac.length-0+n.toNat<g.env.length:=by omega
  obtain⟨v,hv⟩:=get_some hlt;have hpl:AA (g.own d false n=v.n):=⟨by
   rw[Al.own];simp only[AM,El];rw[hv];rfl⟩
  have q1:((g.env.length:Int)-(d.ac.length:Int)+n).toNat=g.env.length-d.ac.length-0+n.toNat:=by omega
  rw[←q1]at hv;replace q1:=AA.mk q1;have q2:0≤(g.env.length:Int)-(d.ac.length:Int)+n:=by omega
  (refine Aj rfl Tryz.func95 rfl rfl rfl ?_;show Wp _ _ _ _ (Tryz.f95.body.get rfl) _ _;simp only[Tryz.f95,AS])
  refine aw ?_;rw[hpl.out]
theorem NP{h:AD}{π:List Nat}{m:Abs.Id}{x0 x1 x2 x3 x4 x5 x7 x8 x9 x10 x11 x12:AV}{ds:List Bs}{g:Al}{d:Bs}(hm:h.get m=some (.box [x0,x1,x2,x3,x4,x5,.d (.be (ds.map Ax)),x7,x8,x9,x10,x11,x12]))(um:Id.under π m=false)(h0:0≤g.f8)(hd:ds[g.f8.toNat]? =some d)(c1:d.am.length≤30)(c2:d.ac.length≤30)(he:d.own≤g.env.length)(hl:g.env.length≤10000)(n:Int)(hn:0≤n)(hn2:n≤d.ac.length):
 ∃o h',KL Tryz.prog cfg (.fn 94) [.ptr m 0,.agg [.d (.int .i64 (g.f8)),.d (.int .i64 (g.at_)),.d (.be (g.env.map AN))],.d (.int .i64 (n))] h π true (some π)=.ok (o,h')∧o=.ret (.d (.int .i64 (g.place d n))):=by
 have e1:=AH um;have e2:=Ak um;have e3:=AG um;by_cases hn0:n=0
 ·(refine Aj rfl Tryz.func94 rfl rfl rfl ?_;show Wp _ _ _ _ (Tryz.f94.body.get rfl) _ _;simp only[Tryz.f94,AS])
  (repeat' (first|simp only[go_sem, *,Al.place]|(refine sx ?_ ?_<;>intro hc)|refine sy (by omega) fun x hx hm=>?_|simp(disch:=first|assumption|omega) only[AK]))
 .have w:IntKind.i64.wrap (n-1)=n-1:=wrap_id (by omega) (by omega);have hp:g.place d n=g.own d false (n-1):=by rw[Al.place,CI hn0]
  rw[hp]
  (refine Aj rfl Tryz.func94 rfl rfl rfl ?_;show Wp _ _ _ _ (Tryz.f94.body.get rfl) _ _;simp only[Tryz.f94,AS])
  refine aw ?_;refine DQ (Xd (d:=d) (Eq.trans (b:=h.get m) ?_ hm) (e3 _) h0 hd c1 c2 he hl false (n-1) (by omega) (by simp only[AM,El];omega)) (fun o1 g1 p1=>?_)
  .simp only[go_sem,e1,AM]
  subst p1;exact au
variable{x6:AV}{sp:List (List Aa)}
theorem bn(hm:h.get m=some (.box [.d (.be sp),x1,x2,x3,x4,x5,x6,x7,x8,x9,x10,x11,x12]))(hl:sp.length≤1000000)(n:Int):
 ∃o h',KL Tryz.prog cfg (.fn 146) [.ptr m 0,.d (.int .i64 (n))] h π true (some π)=.ok (o,h')∧o=(IV (CL 2) (decide (0≤n)&&decide (n<sp.length))).1:=by
 (refine Aj rfl Tryz.func146 rfl rfl rfl ?_;show Wp _ _ _ _ (Tryz.f146.body.get rfl) _ _;simp only[Tryz.f146,AS])
 (repeat' (first|simp only[go_sem, *]|(refine sx ?_ ?_<;>intro hc)|refine sy (by omega) fun x hx hm=>?_|simp(disch:=first|assumption|omega) only[AK]))
 all_goals simp[IV, *]
variable{ch:List (List Aa)}
theorem uq{p:AL}(hm:h.get m=some (.box [.d (.be sp),x1,.d (.be ch),x3,.d (.be (p.free.map Av)),x5,x6,x7,x8,x9,x10,x11,x12]))(um:Id.under π m=false)(h1:sp.length≤1000000)(h2:ch.length≤1000000)(h3:p.free.length≤1000000)(v:CV):
 ∃o h',KL Tryz.prog cfg (.fn 180) [.ptr m 0,.agg [.d (.int .i64 (v.kind)),.d (.int .i64 (v.n))]] h π true (some π)=.ok (o,h')∧o=(IV (CL 2) (v.inB p ch.length sp.length)).1:=by
 have e1:=AH um;have e2:=Ak um;have w1:IntKind.i64.wrap ((p.free.length:Int)-1)=(p.free.length:Int)-1:=wrap_id (by omega) (by omega);have w2:IntKind.i64.wrap ((ch.length:Int)-1)=(ch.length:Int)-1:=wrap_id (by omega) (by omega);have w3:IntKind.i64.wrap ((sp.length:Int)-1)=(sp.length:Int)-1:=wrap_id (by omega) (by omega)
 (refine Aj rfl Tryz.func180 rfl rfl rfl ?_;show Wp _ _ _ _ (Tryz.f180.body.get rfl) _ _;simp only[Tryz.f180,AS])
 (repeat' (first|simp only[go_sem, *]|(refine sx ?_ ?_<;>intro hc)|refine sy (by omega) fun x hx hm=>?_|simp(disch:=first|assumption|omega) only[AK]))
 all_goals clear hm e1 e2 w1 w2 w3
 all_goals first
 |(have hz:v.inB p ch.length sp.length=true:=by(unfold CV.inB;grind)
   rw[hz];rfl)
 |(have hz:v.inB p ch.length sp.length=false:=by(unfold CV.inB;grind)
   rw[hz];rfl)
theorem W7{p:AL}(hm:h.get m=some (.box [.d (.be sp),x1,.d (.be ch),x3,.d (.be (p.free.map Av)),x5,x6,x7,x8,x9,x10,x11,x12]))(um:Id.under π m=false)(h1:sp.length≤1000000)(h2:ch.length≤1000000)(h3:p.free.length≤1000000)(l:List CV)(n:Int)(hn:n≤1000000):
 ∃o h',KL Tryz.prog cfg (.fn 147) [.ptr m 0,.d (.be (l.map AN)),.d (.int .i64 (n))] h π true (some π)=.ok (o,h')∧o=(IV (CL 2) (decide ((l.length:Int)=n)&&l.all (CV.inB p ch.length sp.length))).1:=by
 have e1:=AH um;have e2:=Ak um;have e3:=AG um;by_cases hl:(l.length:Int)=n
 .have hl2:l.length≤1000000:=by omega
  rw[Ci hl,EM]
  (refine Aj rfl Tryz.func147 rfl rfl rfl ?_;show Wp _ _ _ _ (Tryz.f147.body.get rfl) _ _;simp only[Tryz.f147,AS])
  refine aw ?_;refine AX l _ (S:=fun m' i (a:AD×Nat)=>⟨[(0,.ptr m 0),(13,.d (.be (l.map AN))),(14,.d (.int .i64 (m'))),(15,.d (.int .i64 (i)))],a.1,a.2+7,[]⟩)
   (Inv:=fun i rest a=>a.1.get m=h.get m∧AA (l.all (CV.inB p ch.length sp.length)=rest.all (CV.inB p ch.length sp.length))) (b0:=(h,_)) ?_ ⟨rfl,⟨rfl⟩⟩ ?_ ?_
  .omega
  .rintro i y ⟨g,c⟩ hy hi him ⟨hg,hr⟩ IH;dsimp only at*;refine aw ?_;refine DQ (uq (p:=p) (sp:=sp) (ch:=ch) (Eq.trans (b:=h.get m) ?_ hm) (e3 _) h1 h2 h3 y) (fun o1 g1 p1=>?_)
   .simp only[go_sem,e1,hg,AM]
   cases hv:y.inB p ch.length sp.length with
   |true=>
    rw[hv]at p1;obtain rfl:o1=.ret (.ge []):=p1;refine aw ?_;refine IH.out (_,_) ⟨?_,⟨?_⟩⟩
    .simp only[go_sem,e1,hg,AM]
    .rw[hr.out,D4,hv,EM]
   |false=>
    rw[hv]at p1;obtain rfl:o1=.f9 (CL 2):=p1;refine aw ?_;rw[hr.out,D4,hv,CO];rfl
  .rintro i ⟨g,c⟩ hi him ⟨hg,hr⟩;dsimp only at*;refine aw ?_;rw[hr.out];rfl
 .rw[By hl,CO]
  (refine Aj rfl Tryz.func147 rfl rfl rfl ?_;show Wp _ _ _ _ (Tryz.f147.body.get rfl) _ _;simp only[Tryz.f147,AS])
  refine aw ?_;rfl
def Og(π:List Nat)(g:AD)(b:Nat)(v:AV)(L:List CV):Prop:=(L=[]∧v=.co)∨ ∃id,v=.eq id 0 L.length∧g.get id=some (.d9 2 (L.map AN))∧ ∃n,n<b∧Id.under (n::π) id=true∧ ∃l,id=1::l
def Fs(c n:Nat):List CV:=(List.range' c n).map fun(i:Nat)=>⟨3,(i:Int)⟩
def KS(c n:Nat):List CV:=(List.range' c n).map fun(i:Nat)=>⟨4,(i:Int)⟩
theorem Yc(c n:Nat):Fs c (n+1)=Fs c n++[⟨3,((c+n:Nat):Int)⟩]:=by simp[Fs,List.range'_1_concat]
theorem bm(c n:Nat):KS c (n+1)=KS c n++[⟨4,((c+n:Nat):Int)⟩]:=by simp[KS,List.range'_1_concat]
variable{b:Nat}{L:List CV}
theorem Rm{g:AD}{b':Nat}{v:AV}(h:Og π g b v L)(hb:b≤b'):Og π g b' v L:=by
 rcases h with h|⟨id,h1,h2,n,h3,h4⟩
 .exact .inl h
 .exact .inr ⟨id,h1,h2,n,by omega,h4⟩
theorem GY{π:List Nat}{b n:Nat}{id:Abs.Id}(hn:n<b)(hu:Id.under (n::π) id=true)(hl: ∃l,id=1::l):(∀a k,b≤k→Id.is (a::k::π) id=false)∧(∀a k,b≤k→Id.is id (a::k::π)=false)∧(∀l,Id.is (0::l) id=false)∧(∀l,Id.is id (0::l)=false):=by
 have key: ∀a k,b≤k→a::k::π≠id:=fun a k hk e=>by
  subst e;have:=Bl hu (n':=k) (under_iff.2 ⟨[a],rfl⟩);omega
 obtain⟨l0,rfl⟩:=hl;exact⟨fun a k hk=>AE (key a k hk),fun a k hk=>AE fun e=>key a k hk e.symm,fun l=>AE (by simp),fun l=>AE (by simp)⟩
variable{n:Nat}
theorem NG{g:AD}{k:Nat}(hn:n<b)(hk:k=L.length)(hg:g.get (1::n::π)=some (.d9 2 (L.map AN))):Og π g b (.eq (1::n::π) 0 k) L:=.inr ⟨_,by rw[hk],hg,n,hn,under_iff.2 ⟨[1],rfl⟩,_,rfl⟩
theorem N6{π:List Nat}{g:AD}{b:Nat}{v:AV}{L:List CV}(h:Og π g b v L)(b':Nat): ∀i∈AF v,IB b b' π i=false:=by
 rcases h with⟨_,rfl⟩|⟨id,rfl,_,n,h3,h4,_⟩
 .intro i hi;simp[AF]at hi
 .intro i hi;simp only[AF,As]at hi;subst hi;exact PX h3 h4
theorem wE{π:List Nat}{g:AD}{b:Nat}{v:AV}{L:List CV}(h:Og π g b v L){V:MV}{m:Abs.Id}(hu:Ca π V m): ∀i∈AF v,i∉V.ids m:=by
 rcases h with⟨_,rfl⟩|⟨id,rfl,_,n,h3,h4,_⟩
 .intro i hi;simp[AF]at hi
 .intro i hi hv;simp only[AF,As]at hi;subst hi;have:=hu _ hv;rw[Bk h4]at this;cases this
def cH(π:List Nat)(g:AD)(b:Nat)(v:AV)(L:List CV):Prop:=(L=[]∧v=.co)∨ ∃id,v=.eq id 0 L.length∧g.get id=some (.i5 2 (L.map AN))∧ ∃n,n<b∧Id.under (n::π) id=true∧ ∃l,id=1::l
theorem VI{g g':AD}{v:AV}(h:cH π g b v L)(hk: ∀i∈AF v,g'.get i=g.get i):cH π g' b v L:=by
 rcases h with h|⟨id,rfl,h2,h3⟩
 .exact .inl h
 .exact .inr ⟨id,rfl,by rw[hk id (by simp[AF])];exact h2,h3⟩
theorem uk{π:List Nat}{g:AD}{b:Nat}{v:AV}{L:List CV}(h:cH π g b v L)(a k:Nat)(hk:b≤k): ∀i∈AF v,Id.is (a::k::π) i=false:=by
 rcases h with⟨_,rfl⟩|⟨id,rfl,_,n,h3,h4,_⟩
 .intro i hi;simp[AF]at hi
 .intro i hi;simp only[AF,As]at hi;subst hi;refine AE fun e=>?_;subst e;have:=Bl h4 (n':=k) (under_iff.2 ⟨[a],rfl⟩);omega
theorem dG{π:List Nat}{g:AD}{b n:Nat}{v:AV}{L:List CV}(h:cH π g b v L)(hn:b≤n): ∀i∈AF v,Id.under (n::π) i=false:=by
 rcases h with⟨_,rfl⟩|⟨id,rfl,_,k,h3,h4,_⟩
 .intro i hi;simp[AF]at hi
 .intro i hi;simp only[AF,As]at hi;subst hi;cases hx:Id.under (n::π) i with
  |false=>rfl
  |true=>
   have:=Bl h4 hx;omega
theorem Vt{p:AL}{x:C0}{d:Bs}{G:Al}(hF:BK p sz)(hd:Fz p sz st.em j x d)(hG:G=Aq st.em d x.n j)(H:AD)(ρ:List Nat)(Vx:MV)(w:Int)(hb:H.get m=some (.box (Au p sz Vx w)))(hu2:Id.under ρ m=false)(n:Int)(hn1:0≤n)(hn2:n≤d.ac.length):
 ∃o h',KL Tryz.prog cfg (.fn 94) [.ptr m 0,.agg [.d (.int .i64 (x.n)),.d (.int .i64 (j.at_)),.d (.be (G.env.map AN))],.d (.int .i64 (n))] H ρ true (some ρ)=.ok (o,h')∧o=.ret (.d (.int .i64 (G.place d n))):=by
 have hGo:d.own≤G.env.length∧G.env.length≤10000:=by
  rw[hG,hd.env];have:=hd.ok.am;have:=hd.ok.ac;obtain⟨_,_,_,_,_,_,hjl⟩:=MI hF hd.job;unfold Bs.own;omega
 have hGd:G.f8=x.n:=by rw[hG];rfl
 have hGa:G.at_=j.at_:=by rw[hG];rfl
 have:=NP (ds:=p.defs) (g:=G) (d:=d) hb hu2 (by rw[hGd];exact hd.n0) (by rw[hGd];exact hd.f8) hd.ok.am hd.ok.ac hGo.1 hGo.2 n hn1 hn2
 rwa [hGd,hGa]at this
theorem lR{p:AL}{sz:List Int}{k:Nat}(hF:BK p sz)(IH0:JJ p sz k){h:AD}{π:List Nat}{m:Abs.Id}{V:MV}{st:Ck}(hu:Ca π V m)(hI:Pw p sz k st){j:Hf}{x:C0}{d:Bs}(hd:Fz p sz st.em j x d){G:Al}(hG:G=Aq st.em d x.n j)
 {e:Bn} {g:AD} {b:Nat} {ev:AV} {V2:MV} (en0:e.get 0=.ptr m 0) (en3:e.get 3=.ptr (0::0::π) 0) (n4:e.get 4=.ptr (0::10::π) 0) (n5:e.get 5=.ptr (0::21::π) 0) (n6:e.get 6=.ptr (0::31::π) 0) (hb:60≤b) (hR:Cb p sz π m V h b V2 {st with em:=CW st.em d G} g) (hev: ∀i∈AF ev,i∉V2.ids m)
 (k2:g.get (0::0::π)=some (.box [.d (.int .i64 (j.node)),.d (.int .i64 (j.at_)),.d (.be (j.env.map AN))])) (k3:g.get (0::10::π)=some (.box [.d (.int .i64 (x.op)),.d (.int .i64 (x.n)),.d (.be (x.args.map Bg)),.d (.be (x.kids.map AJ))])) (k4:g.get (0::21::π)=some (.box [.d (.be (d.am.map A3)),.d (.be (d.ac.map Ao)),.d (.be (d.rules.map A0))])) (k5:g.get (0::31::π)=some (.box [.d (.int .i64 (x.n)),.d (.int .i64 (j.at_)),ev])) (hfe:cH π g b ev G.env):
 Wp cfg (KL Tryz.prog cfg) ⟨112,π,true,none,false,204⟩ 0 (tlC 9 (Tryz.f112.body.get rfl)) ⟨e,g,b,[]⟩ (Sb cfg none [] π true (FI p sz π m V h (Nv (GD p k) (Ie p x j st)))):=by
 have um:=hu m (V.m_mem m);have e1:=AH um;have e2:=Ak um;have hx:=hd.node;have hdl:=hd.f8;have d1:=hd.ok.am;have d2:=hd.ok.ac;obtain⟨n3,hn3⟩: ∃n,n=st.em.am.length:=⟨_,rfl⟩;obtain⟨n0,hn0⟩: ∃n,n=st.em.ac.length:=⟨_,rfl⟩;obtain⟨ng,hng⟩: ∃n,n=st.em.bv.length:=⟨_,rfl⟩;have c1:(CW st.em d G).am.length=n3+d.am.length:=by simp[CW,G8,hn3]
 have c2:(CW st.em d G).ac.length=n0+d.ac.length:=by simp[CW,Fc,hn0]
 have c3:(CW st.em d G).bv.length=ng+1:=by simp[CW,hng]
 have hdo2:Ie p x j st=if n3+d.am.length≤60∧n0+d.ac.length≤24∧ng+1≤40 then some ({st with em:=CW st.em d G},Dm d G 0 d.ac++Bq x 0 j.at_ G.env)else none:=by
  simp only[Ie,hdl,←hG,c1,c2,c3]
 have hmS:=hI.pm.small;simp only[BF.small,AP,Ap]at hmS;obtain⟨s1,s2,s3,s4⟩:=hmS;have gm:=hR.rep.box;simp only[Au]at gm;have hl3:=Rl hR.rep.arr;rw[hR.rep.am.len,c1]at hl3;have hl0:=Hp (hR.rep.sl 0 (by omega));simp only[A7,BI,c2]at hl0;have hl1:=Hp (hR.rep.sl 1 (by omega));simp only[A7,BI,c3]at hl1;have hpan:AA (¬(n3+d.am.length≤60∧n0+d.ac.length≤24∧ng+1≤40)→FI p sz π m V h (Nv (GD p k) (Ie p x j st)) (.f9 (CL 3)) g):=⟨fun hn=>by
  rw[hdo2,CI hn];exact⟨rfl,hR.frame⟩⟩
 clear c1 c2 c3;have hplace:=AA.mk (Vt (m:=m) hF hd hG);replace hdo2:=AA.mk hdo2;replace hG:=AA.mk hG;replace hu:=AA.mk hu;replace hd:=AA.mk hd;replace hI:=AA.mk hI;replace hR:=AA.mk hR;replace hev:=AA.mk hev;replace hn3:=AA.mk hn3;replace hn0:=AA.mk hn0;replace hng:=AA.mk hng;simp only[Tryz.f112,AS,tlC]
 (repeat' (first|simp only[go_sem, *,↓hl3,↓hl0,↓hl1,AM]|(refine sx ?_ ?_<;>intro hc)|refine sy (by omega) fun x hx hm=>?_|simp(disch:=first|assumption|omega) only[AK]))
 .have hszs:n3+d.am.length≤60∧n0+d.ac.length≤24∧ng+1≤40:=by omega
  have hjp:=Yp (st':={st with em:=CW st.em d G}) hF hI.out.pm hd.out.job hx hd.out.op (by rw[hdo2.out,D0 hszs])
  have hdoD:AA (Nv (GD p k) (Ie p x j st)=CD (GD p k) (Dm d G 0 d.ac++Bq x 0 j.at_ G.env) {st with em:=CW st.em d G}):=⟨by rw[hdo2.out,D0 hszs];rfl⟩
  replace hjp:=AA.mk hjp;clear en0 en3 n4 n5 n6 k4 hl3 hl0 hl1 gm hpan;refine AX d.ac _ (S:=fun m' i (a:AD×Nat)=>⟨[(0,.ptr m 0),(3,.ptr (0::0::π) 0),(4,.ptr (0::10::π) 0),(6,.ptr (0::31::π) 0),(175,.d (.be (d.ac.map Ao))),(176,.d (.int .i64 (m'))),(177,.d (.int .i64 (i)))],a.1,a.2+25,[]⟩)
   (Inv:=fun i rest a=>AA (∃V' st',Cb p sz π m V h (a.2+25) V' st' a.1∧(∀i∈AF ev,i∉V'.ids m)∧Pw p sz k st'∧(∀j'∈Dm d G i rest++Bq x 0 j.at_ G.env,Cv p sz st'.em j')∧Nv (GD p k) (Ie p x j st)=CD (GD p k) (Dm d G i rest++Bq x 0 j.at_ G.env) st')∧a.1.get (0::0::π)=some (.box [.d (.int .i64 (j.node)),.d (.int .i64 (j.at_)),.d (.be (j.env.map AN))])∧a.1.get (0::10::π)=some (.box [.d (.int .i64 (x.op)),.d (.int .i64 (x.n)),.d (.be (x.args.map Bg)),.d (.be (x.kids.map AJ))])∧a.1.get (0::31::π)=some (.box [.d (.int .i64 (x.n)),.d (.int .i64 (j.at_)),ev])∧b≤a.2∧AA (cH π a.1 b ev G.env)) (b0:=(_,b)) rfl ⟨⟨V2,_,by simpa using hR.out.up (by omega),hev.out,⟨hjp.out.pm,hI.out.w0,hI.out.w1,hI.out.w2,hI.out.ev⟩,hjp.out.jobs,hdoD.out⟩,k2,k3,k5,EX _,⟨hfe⟩⟩ ?_ ?_
  .clear hR hev k2 k3 k5 hfe g V2;rintro i y ⟨g,c⟩ hy hi him ⟨hR,k2,k3,k5,hbc,hfe⟩ IH;dsimp only at*;obtain⟨V',st',hR,hev,hI',hj',he'⟩:=hR.out;have gm:=hR.rep.box;have hm0:=hR.rep.box;simp only[Au]at gm;have c2: ¬c=2:=by omega
   have w1:IntKind.i64.wrap ((i:Int)+1)=(i:Int)+1:=wrap_id (by omega) (by omega);have hpl:=fun(H:AD) (n:Nat) (hH:H.get m=g.get m)=>hplace.out H (n::π) V' st'.work (hH.trans hm0) (AG um n) ((i:Int)+1) (by omega) (by omega);have hca:AA (∀H:AD,(∀id,(∀a n,c+25≤n→Id.is (a::n::π) id=false)→H.get id=g.get id)→ ∃o g1,KL Tryz.prog cfg (.fn 66) [.ptr m 0,.d (.int .i64 (y.node)),.d (.int .i64 (G.place d ((i:Int)+1))),.d (.be (G.env.map AN))] H ((c+42)::π) true none=.ok (o,g1)∧Oc p sz π m V h (c+25) (c+42) V' g (GD p k ⟨y.node,G.place d ((i:Int)+1),G.env⟩ st') o (gc ((c+42)::π) g1)):=⟨fun H hH=>VA IH0 hu.out hR hI' (j:=⟨y.node,G.place d ((i:Int)+1),G.env⟩) (hj' _ (by rw[Dm];simp)) H (c+42) (by omega) hH⟩;have hevk:AA (∀i∈AF ev,(∀a k,c+25≤k→Id.is (a::k::π) i=false)∧Id.under ((c+42)::π) i=false):=⟨fun i hi=>⟨fun a k hk=>uk hfe.out a k (by omega) i hi,dG hfe.out (by omega) i hi⟩⟩;replace hm0:=AA.mk hm0;replace hpl:=AA.mk hpl;replace hR:=AA.mk hR;replace hev:=AA.mk hev;replace hI':=AA.mk hI';replace hj':=AA.mk hj';replace he':=AA.mk he';have hjy:AA (Cv p sz st'.em ⟨y.node,G.place d ((i:Int)+1),G.env⟩):=⟨hj'.out _ (by rw[Dm];simp)⟩;have hgo2:AA (CD (GD p k) (Dm d G i (y::d.ac.drop (i+1))++Bq x 0 j.at_ G.env) st'=(GD p k ⟨y.node,G.place d ((i:Int)+1),G.env⟩ st').bind (CD (GD p k) (Dm d G (i+1) (d.ac.drop (i+1))++Bq x 0 j.at_ G.env))):=⟨rfl⟩;rcases hfe.out with⟨hz8,he8⟩|⟨id8,he8,hg8,n8,hn8,hun8,hl8⟩
   .rw[he8]at k5;have hpl2:=hpl.out;have hca2:=hca.out;rw[show G.env.map AN=[] by rw[hz8];rfl]at hpl2 hca2;replace hpl2:=AA.mk hpl2;replace hca2:=AA.mk hca2;refine ax ?_;refine DA (hpl2.out _ _ ?_) (fun o1 g1 p1=>?_)
    .simp only[go_sem,e1,AM]
    subst p1;refine ax ?_;refine E3 (hca2.out _ fun id2 b2=>?_) (fun o1 g1 p1=>?_)
    .simp only[go_sem,b2,AM]
    cases hdn:GD p k ⟨y.node,G.place d ((i:Int)+1),G.env⟩ st' with
    |none=>
     rw[hdn]at p1 hgo2;obtain⟨w8,w9⟩:=p1.f9 rfl;replace p1:=AA.mk p1;subst w8;replace w9:=AA.mk w9;refine ax ?_;rw[he'.out,hgo2.out];exact w9.out
    |some st2=>
     rw[hdn]at p1 hgo2;have hdp:=JR hF k _ _ _ hI'.out.pm hjy.out hdn;obtain⟨w8,V3,w9,w10⟩:=p1.ret st2 rfl;subst w8;have b0:=(p1.box 0 (by omega)).trans k2;have b10:=(p1.box 10 (by omega)).trans k3;have b31:=(p1.box 31 (by omega)).trans k5;have hk8:=fun i hi=>p1.un i (hev.out i hi) (hevk.out i hi).1 (hevk.out i hi).2;replace p1:=AA.mk p1;replace hdn:=AA.mk hdn;replace w9:=AA.mk w9;replace w10:=AA.mk w10;replace hk8:=AA.mk hk8;refine ax ?_;refine IH.out (_,c+20) ⟨⟨V3,st2,w9.out.up (by omega),fun i hi=>w10.out i (hev.out i hi) (hevk.out i hi).2,hI'.out.post hdp,fun j' hj2=>Rj (hj'.out j' ?_) hdp.ext,?_⟩,b0,b10,?_,by omega,⟨VI hfe.out hk8.out⟩⟩
     .rw[Dm,F3];exact Em _ hj2
     .rw[he'.out,hgo2.out];rfl
     .exact b31.trans (by rw[he8])
   .rw[he8]at k5;have q8:=hevk.out id8 (by rw[he8];simp[AF]);have q81:=q8.1;replace q8:=AA.mk q8.2;have q82:Id.is m id8=false:=AE fun e=>by rw[←e,gm]at hg8;cases hg8
    have q83: ∀l,Id.is (0::l) id8=false:=fun l=>by obtain⟨l0,rfl⟩:=hl8;exact AE (by simp)
    refine ax ?_;refine DA (hpl.out _ _ ?_) (fun o1 g1 p1=>?_)
    .simp only[go_sem,e1,AM]
    subst p1;refine ax ?_;refine E3 (hca.out _ fun id2 b2=>?_) (fun o1 g1 p1=>?_)
    .simp only[go_sem,b2,AM]
    cases hdn:GD p k ⟨y.node,G.place d ((i:Int)+1),G.env⟩ st' with
    |none=>
     rw[hdn]at p1 hgo2;obtain⟨w8,w9⟩:=p1.f9 rfl;replace p1:=AA.mk p1;subst w8;replace w9:=AA.mk w9;refine ax ?_;rw[he'.out,hgo2.out];exact w9.out
    |some st2=>
     rw[hdn]at p1 hgo2;have hdp:=JR hF k _ _ _ hI'.out.pm hjy.out hdn;obtain⟨w8,V3,w9,w10⟩:=p1.ret st2 rfl;subst w8;have b0:=(p1.box 0 (by omega)).trans k2;have b10:=(p1.box 10 (by omega)).trans k3;have b31:=(p1.box 31 (by omega)).trans k5;have hk8:=fun i hi=>p1.un i (hev.out i hi) (hevk.out i hi).1 (hevk.out i hi).2;replace p1:=AA.mk p1;replace hdn:=AA.mk hdn;replace w9:=AA.mk w9;replace w10:=AA.mk w10;replace hk8:=AA.mk hk8;refine ax ?_;refine IH.out (_,c+20) ⟨⟨V3,st2,w9.out.up (by omega),fun i hi=>w10.out i (hev.out i hi) (hevk.out i hi).2,hI'.out.post hdp,fun j' hj2=>Rj (hj'.out j' ?_) hdp.ext,?_⟩,b0,b10,?_,by omega,⟨VI hfe.out hk8.out⟩⟩
     .rw[Dm,F3];exact Em _ hj2
     .rw[he'.out,hgo2.out];rfl
     .exact b31.trans (by rw[he8])
  .clear hR hev k2 k3 k5 hfe g V2;rintro i ⟨g,c⟩ hi him ⟨hR,k2,k3,k5,hbc,hfe⟩;dsimp only at*;obtain⟨V',st',hR9,hev,hI',hj',he'⟩:=hR.out;clear hR;have gi:=hi.out;subst gi;clear hi;obtain⟨kd,hkd,_⟩:=hd.out.kid;have hkj:Dm d G d.ac.length []++Bq x 0 j.at_ G.env=[⟨kd,j.at_,G.env⟩]:=by rw[Bq,hkd];rfl
   rw[hkj]at hj' he';rw[Sy]at he';have hca:AA (∀H:AD,(∀id,(∀a n,c+25≤n→Id.is (a::n::π) id=false)→H.get id=g.get id)→ ∃o g1,KL Tryz.prog cfg (.fn 66) [.ptr m 0,.d (.int .i64 (kd)),.d (.int .i64 (j.at_)),.d (.be (G.env.map AN))] H ((c+35)::π) true none=.ok (o,g1)∧Oc p sz π m V h (c+25) (c+35) V' g (GD p k ⟨kd,j.at_,G.env⟩ st') o (gc ((c+35)::π) g1)):=⟨fun H hH=>VA IH0 hu.out hR9 hI' (j:=⟨kd,j.at_,G.env⟩) (hj' _ (by simp)) H (c+35) (by omega) hH⟩;replace hR9:=AA.mk hR9;replace hev:=AA.mk hev;replace hI':=AA.mk hI';replace hj':=AA.mk hj';replace he':=AA.mk he';replace hkj:=AA.mk hkj;rw[hkd]at k3;replace hkd:=AA.mk hkd;rcases hfe.out with⟨hz8,he8⟩|⟨id8,he8,hg8,n8,hn8,hun8,hl8⟩
   .rw[he8]at k5;have hca2:=hca.out;rw[show G.env.map AN=[] by rw[hz8];rfl]at hca2;replace hca2:=AA.mk hca2;refine ax ?_;refine AZ (hca2.out _ fun id2 b2=>?_) (fun o1 g1 p1=>?_)
    .rfl
    cases hdn:GD p k ⟨kd,j.at_,G.env⟩ st' with
    |none=>
     rw[hdn]at p1 he';obtain⟨w8,w9⟩:=p1.f9 rfl;replace p1:=AA.mk p1;subst w8;replace w9:=AA.mk w9;refine ax ?_;rw[he'.out];exact w9.out
    |some st2=>
     rw[hdn]at p1 he';obtain⟨w8,V3,w9,w10⟩:=p1.ret st2 rfl;subst w8;replace p1:=AA.mk p1;replace hdn:=AA.mk hdn;replace w9:=AA.mk w9;replace w10:=AA.mk w10;refine ax ?_;rw[he'.out];exact w9.out.fin
   .rw[he8]at k5;refine ax ?_;refine AZ (hca.out _ fun id2 b2=>?_) (fun o1 g1 p1=>?_)
    .rfl
    cases hdn:GD p k ⟨kd,j.at_,G.env⟩ st' with
    |none=>
     rw[hdn]at p1 he';obtain⟨w8,w9⟩:=p1.f9 rfl;replace p1:=AA.mk p1;subst w8;replace w9:=AA.mk w9;refine ax ?_;rw[he'.out];exact w9.out
    |some st2=>
     rw[hdn]at p1 he';obtain⟨w8,V3,w9,w10⟩:=p1.ret st2 rfl;subst w8;replace p1:=AA.mk p1;replace hdn:=AA.mk hdn;replace w9:=AA.mk w9;replace w10:=AA.mk w10;refine ax ?_;rw[he'.out];exact w9.out.fin
 all_goals exact hpan.out (by omega)
theorem lU{p:AL}{sz:List Int}{k:Nat}(hF:BK p sz)(IH0:JJ p sz k){h:AD}{π:List Nat}{m:Abs.Id}{V:MV}{st:Ck}(hM:Dw p sz h m V st)(hu:Ca π V m)(hI:Pw p sz k st){j:Hf}{x:C0}{d:Bs}(hd:Fz p sz st.em j x d){G:Al}(hG:G=Aq st.em d x.n j)
 {e:Bn} {g:AD} {b:Nat} {ev:AV} (en0:e.get 0=.ptr m 0) (en3:e.get 3=.ptr (0::0::π) 0) (en4:e.get 4=.ptr (0::10::π) 0) (en5:e.get 5=.ptr (0::21::π) 0) (en6:e.get 6=.ptr (0::31::π) 0) (k1: ∀id,Id.under π id=false→g.get id=h.get id)
 (k2:g.get (0::0::π)=some (.box [.d (.int .i64 (j.node)),.d (.int .i64 (j.at_)),.d (.be (j.env.map AN))])) (k3:g.get (0::10::π)=some (.box [.d (.int .i64 (x.op)),.d (.int .i64 (x.n)),.d (.be (x.args.map Bg)),.d (.be (x.kids.map AJ))])) (k4:g.get (0::21::π)=some (.box [.d (.be (d.am.map A3)),.d (.be (d.ac.map Ao)),.d (.be (d.rules.map A0))])) (k5:g.get (0::31::π)=some (.box [.d (.int .i64 (x.n)),.d (.int .i64 (j.at_)),ev])) (kl2:Og π g (b+43) ev G.env):
 Wp cfg (KL Tryz.prog cfg) ⟨112,π,true,none,false,204⟩ 0 (tlC 6 (Tryz.f112.body.get rfl)) ⟨e,g,b+43,[]⟩ (Sb cfg none [] π true (FI p sz π m V h (Nv (GD p k) (Ie p x j st)))):=by
 have um:=hu m (V.m_mem m);have e1:=AH um;have e2:=Ak um;have d1:=hd.ok.am;have d2:=hd.ok.ac;have hGd:G.f8=x.n:=by rw[hG];rfl
 have hGa:G.at_=j.at_:=by rw[hG];rfl
 have hmS:=hI.pm.small;simp only[BF.small,AP,Ap]at hmS;obtain⟨s1,s2,s3,s4⟩:=hmS;obtain⟨ng,hng⟩: ∃n,n=st.em.bv.length:=⟨_,rfl⟩;obtain⟨n3,hn3⟩: ∃n,n=st.em.am.length:=⟨_,rfl⟩;obtain⟨n0,hn0⟩: ∃n,n=st.em.ac.length:=⟨_,rfl⟩;have s2':ng≤40:=by omega
 obtain⟨NC,hNC⟩: ∃l,l=FU d G ng 0 d.am:=⟨_,rfl⟩;have hNCa: ∀(t:Nat) c,d.am[t]? =some c→NC[t]? =some ⟨ng,t,G.place d c.at_,[]⟩:=fun t c hc=>by rw[hNC,J6,hc];simp
 have hplace:=AA.mk (Vt (m:=m) hF hd hG);have hR:AA (Cb p sz π m V h (b+43) V st g):=⟨(Qc hM hu k1).up (by omega)⟩;refine zP 3 fun T hT=>?_;have hend:AA (∀(e:Bn) (H:AD) (c:Nat),e.get 0=.ptr m 0→e.get 3=.ptr (0::0::π) 0→e.get 4=.ptr (0::10::π) 0→e.get 5=.ptr (0::21::π) 0→e.get 6=.ptr (0::31::π) 0→(∃V2,Cb p sz π m V h (c+66) V2 {st with em:=CW st.em d G} H∧ ∀i∈AF ev,i∉V2.ids m)→H.get (0::0::π)=some (.box [.d (.int .i64 (j.node)),.d (.int .i64 (j.at_)),.d (.be (j.env.map AN))])→H.get (0::10::π)=some (.box [.d (.int .i64 (x.op)),.d (.int .i64 (x.n)),.d (.be (x.args.map Bg)),.d (.be (x.kids.map AJ))])→H.get (0::21::π)=some (.box [.d (.be (d.am.map A3)),.d (.be (d.ac.map Ao)),.d (.be (d.rules.map A0))])→H.get (0::31::π)=some (.box [.d (.int .i64 (x.n)),.d (.int .i64 (j.at_)),ev])→cH π H (c+66) ev G.env→Wp cfg (KL Tryz.prog cfg) ⟨112,π,true,none,false,204⟩ 0 T ⟨e,H,c+66,[]⟩ (Sb cfg none [] π true (FI p sz π m V h (Nv (GD p k) (Ie p x j st))))):=⟨fun e H c x0 x3 x4 x5 x6 hr y2 y3 y4 y5 hf=>by
  obtain⟨V2,hr,hv⟩:=hr;rw[hT];exact lR hF IH0 hu hI hd hG x0 x3 x4 x5 x6 (by omega) hr hv y2 y3 y4 y5 hf⟩
 replace hT:=AA.mk hT;replace hM:=AA.mk hM;replace hu:=AA.mk hu;replace hd:=AA.mk hd;replace hI:=AA.mk hI;replace hG:=AA.mk hG;replace hng:=AA.mk hng;replace hn3:=AA.mk hn3;replace hn0:=AA.mk hn0;replace hNC:=AA.mk hNC;replace hNCa:=AA.mk hNCa;replace k1:=AA.mk k1;simp only[Tryz.f112,AS,tlC,lN];refine aw ?_;clear en0 en3 en4 en5 en6;refine AX d.am _ (S:=fun m' i (a:AD×Nat)=>⟨[(0,.ptr m 0),(3,.ptr (0::0::π) 0),(4,.ptr (0::10::π) 0),(5,.ptr (0::21::π) 0),(6,.ptr (0::31::π) 0),(84,.d (.be (d.am.map A3))),(85,.d (.int .i64 (m'))),(86,.d (.int .i64 (i)))],a.1,a.2+47,[]⟩)
  (Inv:=fun i rest a=>AA (∃V',Cb p sz π m V h (a.2+47) V' {st with em:={st.em with am:=st.em.am++NC.take i}} a.1∧ ∀i∈AF ev,i∉V'.ids m)∧a.1.get (0::0::π)=some (.box [.d (.int .i64 (j.node)),.d (.int .i64 (j.at_)),.d (.be (j.env.map AN))])∧a.1.get (0::10::π)=some (.box [.d (.int .i64 (x.op)),.d (.int .i64 (x.n)),.d (.be (x.args.map Bg)),.d (.be (x.kids.map AJ))])∧a.1.get (0::21::π)=some (.box [.d (.be (d.am.map A3)),.d (.be (d.ac.map Ao)),.d (.be (d.rules.map A0))])∧a.1.get (0::31::π)=some (.box [.d (.int .i64 (x.n)),.d (.int .i64 (j.at_)),ev])∧AA (Og π a.1 (a.2+47) ev G.env)) (b0:=(_,b)) rfl ⟨⟨V,by simpa using hR.out.up (by omega),wE kl2 hu.out⟩,k2,k3,k4,k5,⟨Rm kl2 (by omega)⟩⟩ ?_ ?_
 .clear hR kl2 k1 k2 k3 k4 k5 g b;rintro i y ⟨g,b⟩ hy hi him ⟨hR,k2,k3,k4,k5,kl⟩ IH;dsimp only at*;obtain⟨V',hR,hev⟩:=hR.out;have hevn:=N6 kl.out (b+81);have hpy:=hd.out.ok.chan y (Ac hy);have gm:=hR.rep.box;have hpl:=fun(H:AD) (n:Nat) (hH:H.get m=g.get m)=>hplace.out H (n::π) V' st.work (hH.trans gm) (AG um n) y.at_ hpy.1 hpy.2.1;replace hpl:=AA.mk hpl;simp only[Au]at gm;have hl1:=Hp (hR.rep.sl 1 (by omega));simp only[A7,BI,←hng.out]at hl1;have hv3:=hR.rep.arr;have hA3:AA (∀A,V'.v3=.eq A 0 V'.rows.length→(∀a n,b+47≤n→Id.is (a::n::π) A=false)∧(∀a n,b+47≤n→Id.is A (a::n::π)=false)∧Id.is A m=false∧Id.is m A=false∧ ∀k,Id.is A (0::k::π)=false):=⟨fun A hA=>by
   have hi:=hR.ids A (V'.v3_mem m (by rw[hA];simp[AF]));have hg:=Hi hR.rep.arr (id:=A) (by rw[hA];simp[AF]);exact⟨Fe (b':=0) hu.out hi,Kl hu.out hi,AE fun e=>(by rw[e,gm]at hg;cases hg),AE fun e=>(by rw[←e,gm]at hg;cases hg),fun k=>AE fun e=>Hh hR hu.out k (by rw[←e];exact V'.v3_mem m (by rw[hA];simp[AF]))⟩⟩
  have hrl:V'.rows.length≤1000:=by
   have:=hR.rep.am.len;simp only[Bi,Hw]at this;omega
  have hgo:AA (∀H:AD,H.get m=some (.box (Au p sz {V' with v3:=.eq (1::(b+74)::π) 0 (V'.rows.length+1)} st.work))→H.get (1::(b+74)::π)=some (.arr 4 (V'.rows++[A5 ⟨ng,i,G.place d y.at_,[]⟩ .co]))→(∀id,Id.is m id=false→(∀id2∈AF V'.v3,Id.is id2 id=false)→IB (b+47) (b+81) π id=false→H.get id=g.get id)→ ∃V2,Cb p sz π m V h (b+81) V2 {st with em:={st.em with am:=st.em.am++NC.take (i+1)}} H∧ ∀i∈AF ev,i∉V2.ids m):=⟨fun H a1 a0 a4=>by
   obtain⟨V2,z1,z2⟩:=hR.step (b':=b+81) (by omega) (te hR.rep (hR.apartB hu.out) (q:=⟨ng,i,G.place d y.at_,[]⟩) rfl (1::(b+74)::π) H a1 a0 ⟨LO (b+74) [1] (by omega) (by omega),_,rfl⟩ a4);rw[GC,hNCa.out i y hy,←D9];exact⟨V2,z1,fun i hi=>z2 i (hev i hi) (hevn i hi)⟩⟩
  replace hevn:=AA.mk hevn;replace hev:=AA.mk hev;replace hR:=AA.mk hR;replace kl:=kl.out;rcases kl with⟨hz,rfl⟩|⟨id,rfl,hg,n,hnb,hun,hl⟩
  .have hpl2:=hpl.out;rw[hz,Dl]at hpl2;replace hpl2:=AA.mk hpl2;replace hz:=AA.mk hz;rcases hv3 with⟨hv3,hr0⟩|⟨A,hv3,gA⟩
   .rw[hv3]at gm
    (repeat' (first|simp only[go_sem, *,↓hl1,AM]|(refine sx ?_ ?_<;>intro hc)|refine sy (by omega) fun x hx hm=>?_|simp(disch:=first|assumption|omega) only[AK]))
    refine DA (hpl2.out _ _ ?_) (fun o1 g1 p1=>?_)
    .simp only[go_sem,e1,AM]
    subst p1
    (repeat' (first|simp only[go_sem, *,↓hl1,AM]|(refine sx ?_ ?_<;>intro hc)|refine sy (by omega) fun x hx hm=>?_|simp(disch:=first|assumption|omega) only[AK]))
    refine IH.out (_,_) ⟨⟨hgo.out _ ?_ ?_ fun id b1 b2 b3=>?_⟩,?_,?_,?_,?_,⟨.inl ⟨hz.out,rfl⟩⟩⟩
    .rw[hr0];simp only[go_sem,Au];first|done|rfl
    .rw[hr0];simp only[go_sem,e2,AM];rfl
    .have q5:=DK b3;simp only[go_sem,q5,b1,AM]
    .simp only[go_sem,k2,e2,AM]
    .simp only[go_sem,k3,e2,AM]
    .simp only[go_sem,k4,e2,AM]
    .simp only[go_sem,k5,e2,AM]
   .obtain⟨q1,q2,q3,q4,q5⟩:=hA3.out A hv3;rw[hv3]at gm
    (repeat' (first|simp only[go_sem, *,↓hl1,EL,AM]|(refine sx ?_ ?_<;>intro hc)|refine sy (by omega) fun x hx hm=>?_|simp(disch:=first|assumption|omega) only[AK]))
    refine DA (hpl2.out _ _ ?_) (fun o1 g1 p1=>?_)
    .simp only[go_sem,e1,AM,q1,q2,q3,q4,q5]
    subst p1
    (repeat' (first|simp only[go_sem, *,↓hl1,EL,AM]|(refine sx ?_ ?_<;>intro hc)|refine sy (by omega) fun x hx hm=>?_|simp(disch:=first|assumption|omega) only[AK]))
    refine IH.out (_,_) ⟨⟨hgo.out _ ?_ ?_ fun id2 b1 b2 b3=>?_⟩,?_,?_,?_,?_,⟨.inl ⟨hz.out,rfl⟩⟩⟩
    .simp only[go_sem,Au,AM,q1,q2,q3,q4,q5];first|done|rfl
    .simp only[go_sem,e2,A5,AM,q1,q2,q3,q4,q5];first|done|rfl
    .have q6:=DK b3;have q7:=b2 A (by rw[hv3];simp[AF]);simp only[go_sem,q6,b1,q7,AM]
    .simp only[go_sem,k2,e2,AM,q1,q2,q3,q4,q5]
    .simp only[go_sem,k3,e2,AM,q1,q2,q3,q4,q5]
    .simp only[go_sem,k4,e2,AM,q1,q2,q3,q4,q5]
    .simp only[go_sem,k5,e2,AM,q1,q2,q3,q4,q5]
  .obtain⟨f1,f2,f3,f4⟩:=GY hnb hun hl;have mi:Id.is m id=false:=AE fun e=>by rw[←e,gm]at hg;cases hg
   have im:Id.is id m=false:=AE fun e=>by rw[e,gm]at hg;cases hg
   replace hun:=AA.mk hun;replace hl:=AA.mk hl;rcases hv3 with⟨hv3,hr0⟩|⟨A,hv3,gA⟩
   .rw[hv3]at gm
    (repeat' (first|simp only[go_sem, *,↓hl1,EL,AM]|(refine sx ?_ ?_<;>intro hc)|refine sy (by omega) fun x hx hm=>?_|simp(disch:=first|assumption|omega) only[AK]))
    refine DA (hpl.out _ _ ?_) (fun o1 g1 p1=>?_)
    .simp only[go_sem,e1,AM,f1,f2,f3,f4,mi,im]
    subst p1
    (repeat' (first|simp only[go_sem, *,↓hl1,EL,AM]|(refine sx ?_ ?_<;>intro hc)|refine sy (by omega) fun x hx hm=>?_|simp(disch:=first|assumption|omega) only[AK]))
    refine IH.out (_,_) ⟨⟨hgo.out _ ?_ ?_ fun id2 b1 b2 b3=>?_⟩,?_,?_,?_,?_,⟨.inr ⟨id,rfl,?_,n,by omega,hun.out,hl.out⟩⟩⟩
    .rw[hr0];simp only[go_sem,Au,AM,f1,f2,f3,f4,mi,im];first|done|rfl
    .rw[hr0];simp only[go_sem,e2,A5,AM,f1,f2,f3,f4,mi,im];first|done|rfl
    .have q6:=DK b3;simp only[go_sem,q6,b1,AM]
    .simp only[go_sem,k2,e2,AM,f1,f2,f3,f4,mi,im]
    .simp only[go_sem,k3,e2,AM,f1,f2,f3,f4,mi,im]
    .simp only[go_sem,k4,e2,AM,f1,f2,f3,f4,mi,im]
    .simp only[go_sem,k5,e2,AM,f1,f2,f3,f4,mi,im]
    .simp only[go_sem,hg,AM,f1,f2,f3,f4,mi,im]
   .obtain⟨q1,q2,q3,q4,q5⟩:=hA3.out A hv3;rw[hv3]at gm;have Ai:Id.is A id=false:=AE fun e=>by rw[e,hg]at gA;cases gA
    have iA:Id.is id A=false:=AE fun e=>by rw[←e,hg]at gA;cases gA
    (repeat' (first|simp only[go_sem, *,↓hl1,EL,AM]|(refine sx ?_ ?_<;>intro hc)|refine sy (by omega) fun x hx hm=>?_|simp(disch:=first|assumption|omega) only[AK]))
    refine DA (hpl.out _ _ ?_) (fun o1 g1 p1=>?_)
    .simp only[go_sem,e1,AM,f1,f2,f3,f4,mi,im,q1,q2,q3,q4,q5,Ai,iA]
    subst p1
    (repeat' (first|simp only[go_sem, *,↓hl1,EL,AM]|(refine sx ?_ ?_<;>intro hc)|refine sy (by omega) fun x hx hm=>?_|simp(disch:=first|assumption|omega) only[AK]))
    refine IH.out (_,_) ⟨⟨hgo.out _ ?_ ?_ fun id2 b1 b2 b3=>?_⟩,?_,?_,?_,?_,⟨.inr ⟨id,rfl,?_,n,by omega,hun.out,hl.out⟩⟩⟩
    .simp only[go_sem,Au,AM,f1,f2,f3,f4,mi,im,q1,q2,q3,q4,q5,Ai,iA];first|done|rfl
    .simp only[go_sem,e2,A5,AM,f1,f2,f3,f4,mi,im,q1,q2,q3,q4,q5,Ai,iA];first|done|rfl
    .have q6:=DK b3;have q7:=b2 A (by rw[hv3];simp[AF]);simp only[go_sem,q6,b1,q7,AM]
    .simp only[go_sem,k2,e2,AM,f1,f2,f3,f4,mi,im,q1,q2,q3,q4,q5,Ai,iA]
    .simp only[go_sem,k3,e2,AM,f1,f2,f3,f4,mi,im,q1,q2,q3,q4,q5,Ai,iA]
    .simp only[go_sem,k4,e2,AM,f1,f2,f3,f4,mi,im,q1,q2,q3,q4,q5,Ai,iA]
    .simp only[go_sem,k5,e2,AM,f1,f2,f3,f4,mi,im,q1,q2,q3,q4,q5,Ai,iA]
    .simp only[go_sem,hg,AM,f1,f2,f3,f4,mi,im,q1,q2,q3,q4,q5,Ai,iA]
 .clear hR kl2 k1 k2 k3 k4 k5 g b;rintro i ⟨g,b⟩ hi him ⟨hR,k2,k3,k4,k5,kl⟩;dsimp only at*;have gi:=hi.out;subst gi;clear hi;have hNCl:NC.length=d.am.length:=by rw[hNC.out,G8]
  rw[←hNCl,EL]at hR;obtain⟨V0,hR0,hev0⟩:=hR.out;clear hR;replace hev0:=AA.mk hev0;replace hR0:=AA.mk hR0;have kl2:=kl;clear kl;refine aw ?_;obtain⟨NS,hNS⟩: ∃l,l=DM d G d.ac:=⟨_,rfl⟩;have hNSa: ∀(t:Nat) c,d.ac[t]? =some c→NS[t]? =some ⟨G.place d c.rc,false⟩:=fun t c hc=>by rw[hNS,DM,D2,hc];rfl
  have hNSl:NS.length=d.ac.length:=by rw[hNS,Fc]
  have hn1:1≤n0:=by rw[hn0.out];exact hI.out.pm.tree.pos
  replace hNS:=AA.mk hNS;replace hNSa:=AA.mk hNSa;replace hNCl:=AA.mk hNCl;replace hNSl:=AA.mk hNSl;refine AX d.ac _ (S:=fun m' i (a:AD×Nat)=>⟨[(0,.ptr m 0),(3,.ptr (0::0::π) 0),(4,.ptr (0::10::π) 0),(5,.ptr (0::21::π) 0),(6,.ptr (0::31::π) 0),(117,.d (.be (d.ac.map Ao))),(118,.d (.int .i64 (m'))),(119,.d (.int .i64 (i)))],a.1,a.2+52,[]⟩)
   (Inv:=fun i rest a=>AA (∃V',Cb p sz π m V h (a.2+52) V' {st with em:={st.em with am:=st.em.am++NC,ac:=st.em.ac++NS.take i}} a.1∧ ∀i∈AF ev,i∉V'.ids m)∧a.1.get (0::0::π)=some (.box [.d (.int .i64 (j.node)),.d (.int .i64 (j.at_)),.d (.be (j.env.map AN))])∧a.1.get (0::10::π)=some (.box [.d (.int .i64 (x.op)),.d (.int .i64 (x.n)),.d (.be (x.args.map Bg)),.d (.be (x.kids.map AJ))])∧a.1.get (0::21::π)=some (.box [.d (.be (d.am.map A3)),.d (.be (d.ac.map Ao)),.d (.be (d.rules.map A0))])∧a.1.get (0::31::π)=some (.box [.d (.int .i64 (x.n)),.d (.int .i64 (j.at_)),ev])∧AA (Og π a.1 (a.2+52) ev G.env)) (b0:=(_,b)) rfl ⟨⟨V0,by simpa using hR0.out.up (by omega),hev0.out⟩,k2,k3,k4,k5,⟨Rm kl2.out (by omega)⟩⟩ ?_ ?_
  .clear hR0 hev0 kl2 k2 k3 k4 k5 g b V0;rintro i y ⟨g,b⟩ hy hi him ⟨hR,k2,k3,k4,k5,kl⟩ IH;dsimp only at*;obtain⟨V',hR,hev⟩:=hR.out;have hevn:=N6 kl.out (b+77);have hpy:=LV hd.out.ok.spot i y hy;have gm:=hR.rep.box;have hpl:=fun(H:AD) (n:Nat) (hH:H.get m=g.get m)=>hplace.out H (n::π) V' st.work (hH.trans gm) (AG um n) y.rc hpy.1 (by omega);replace hpl:=AA.mk hpl;simp only[Au]at gm;have hs:=hR.rep.sl 0 (by omega);obtain⟨LS,hLS⟩: ∃l,l=st.em.ac++NS.take i:=⟨_,rfl⟩;have hLSl:LS.length≤100:=by rw[hLS];simp;omega
   simp only[Gg,A7,←hLS]at hs;have hLS0:LS≠ []:=by
    intro e;have h2:LS.length=0:=by rw[e];rfl
    rw[hLS,Bi]at h2;have:=hI.out.pm.tree.pos;omega
   rcases hs with⟨_,hs⟩|⟨S,xs,hs,gS⟩
   .exact absurd (F5.1 hs) hLS0
   have hgo:AA (∀(v:AV) (H:AD),H.get m=some (.box (Au p sz (V'.ii 0 v) st.work))→Ju H 2 v ((LS++[(⟨G.place d y.rc,false⟩:BS)]).map Ab)→(AF v=AF (V'.s 0)∨ ∀id∈AF v,IB (b+52) (b+77) π id=true∧ ∃l,id=1::l)→(∀id,Id.is m id=false→(∀id2∈AF (V'.s 0),Id.is id2 id=false)→IB (b+52) (b+77) π id=false→H.get id=g.get id)→ ∃V2,Cb p sz π m V h (b+77) V2 {st with em:={st.em with am:=st.em.am++NC,ac:=st.em.ac++NS.take (i+1)}} H∧ ∀i∈AF ev,i∉V2.ids m):=⟨fun v H a1 a2 a3 a4=>by
    obtain⟨V2,z1,z2⟩:=hR.step (b':=b+77) (by omega) (IQ (st':={st with em:={st.em with am:=st.em.am++NC,ac:=LS++[⟨G.place d y.rc,false⟩]}}) 0 (by omega) hR.rep (hR.apartB hu.out) (vj rfl rfl rfl) rfl v H a1 a2 a3 a4)
    rw[GC,hNSa.out i y hy,←D9,←hLS];exact⟨V2,z1,fun i hi=>z2 i (hev i hi) (hevn i hi)⟩⟩
   replace hevn:=AA.mk hevn;replace hev:=AA.mk hev;rw[BI]at hs;have hSi:=hR.ids S (V'.s_mem m (i:=0) (by omega) (by rw[hs];simp[AF]));have q1:=fun a n hn=>Fe (b':=0) hu.out hSi a n hn;have q2:=fun a n hn=>Kl hu.out hSi a n hn;have q3:Id.is S m=false:=AE fun e=>by rw[e,gm]at gS;cases gS
   have q4:Id.is m S=false:=AE fun e=>by rw[←e,gm]at gS;cases gS
   have q5: ∀k,Id.is S (0::k::π)=false:=fun k=>AE fun e=>Hh hR hu.out k (by rw[←e];exact V'.s_mem m (i:=0) (by omega) (by rw[hs];simp[AF]));rw[hs]at gm;replace hLS:=AA.mk hLS;replace hR:=AA.mk hR;replace kl:=kl.out;rcases kl with⟨hz,rfl⟩|⟨id,rfl,hg,n,hnb,hun,hl⟩
   .have hpl2:=hpl.out;rw[hz,Dl]at hpl2;replace hpl2:=AA.mk hpl2;replace hz:=AA.mk hz;rcases xs with _|⟨z,xs⟩
    ·(repeat' (first|simp only[go_sem, *,EL,AM]|(refine sx ?_ ?_<;>intro hc)|refine sy (by omega) fun x hx hm=>?_|simp(disch:=first|assumption|omega) only[AK]))
     refine DA (hpl2.out _ _ ?_) (fun o1 g1 p1=>?_)
     .simp only[go_sem,e1,AM,q1,q2,q3,q4,q5]
     subst p1
     (repeat' (first|simp only[go_sem, *,EL,AM]|(refine sx ?_ ?_<;>intro hc)|refine sy (by omega) fun x hx hm=>?_|simp(disch:=first|assumption|omega) only[AK]))
     refine IH.out (_,_) ⟨⟨hgo.out (.eq (1::(b+70)::π) 0 (LS.length+1)) _ ?_ (BR [] (by simp) ?_) (.inr fun id2 hid=>?_) fun id2 b1 b2 b3=>?_⟩,?_,?_,?_,?_,⟨.inl ⟨hz.out,rfl⟩⟩⟩
     .simp only[go_sem,Au,AM,q1,q2,q3,q4,q5];first|done|rfl
     .simp only[go_sem,e2,D1,Dl,AM,q1,q2,q3,q4,q5];first|done|rfl
     .simp only[AF,As]at hid;subst hid;exact⟨LO (b+70) [1] (by omega) (by omega),_,rfl⟩
     .have q6:=DK b3;have q7:=b2 S (by rw[hs];simp[AF]);simp only[go_sem,q6,b1,q7,AM]
     .simp only[go_sem,k2,e2,AM,q1,q2,q3,q4,q5]
     .simp only[go_sem,k3,e2,AM,q1,q2,q3,q4,q5]
     .simp only[go_sem,k4,e2,AM,q1,q2,q3,q4,q5]
     .simp only[go_sem,k5,e2,AM,q1,q2,q3,q4,q5]
    ·(repeat' (first|simp only[go_sem, *,EL,AM]|(refine sx ?_ ?_<;>intro hc)|refine sy (by omega) fun x hx hm=>?_|simp(disch:=first|assumption|omega) only[AK]))
     refine DA (hpl2.out _ _ ?_) (fun o1 g1 p1=>?_)
     .simp only[go_sem,e1,AM,q1,q2,q3,q4,q5]
     subst p1
     (repeat' (first|simp only[go_sem, *,EL,AM]|(refine sx ?_ ?_<;>intro hc)|refine sy (by omega) fun x hx hm=>?_|simp(disch:=first|assumption|omega) only[AK]))
     refine IH.out (_,_) ⟨⟨hgo.out (.eq S 0 (LS.length+1)) _ ?_ (BR xs (by simp) ?_) (.inl (by rw[hs];rfl)) fun id2 b1 b2 b3=>?_⟩,?_,?_,?_,?_,⟨.inl ⟨hz.out,rfl⟩⟩⟩
     .simp only[go_sem,Au,AM,q1,q2,q3,q4,q5];first|done|rfl
     .simp only[go_sem,e2,D1,Dl,AM,q1,q2,q3,q4,q5];first|done|rfl
     .have q6:=DK b3;have q7:=b2 S (by rw[hs];simp[AF]);simp only[go_sem,q6,b1,q7,AM]
     .simp only[go_sem,k2,e2,AM,q1,q2,q3,q4,q5]
     .simp only[go_sem,k3,e2,AM,q1,q2,q3,q4,q5]
     .simp only[go_sem,k4,e2,AM,q1,q2,q3,q4,q5]
     .simp only[go_sem,k5,e2,AM,q1,q2,q3,q4,q5]
   .obtain⟨f1,f2,f3,f4⟩:=GY hnb hun hl;have mi:Id.is m id=false:=AE fun e=>by rw[←e,gm]at hg;cases hg
    have im:Id.is id m=false:=AE fun e=>by rw[e,gm]at hg;cases hg
    have Ai:Id.is S id=false:=AE fun e=>hev.out id (by simp[AF]) (by rw[←e];exact V'.s_mem m (i:=0) (by omega) (by rw[hs];simp[AF]));have iA:Id.is id S=false:=AE fun e=>by rw[e,is_self]at Ai;cases Ai
    replace hun:=AA.mk hun;replace hl:=AA.mk hl;rcases xs with _|⟨z,xs⟩
    ·(repeat' (first|simp only[go_sem, *,EL,AM]|(refine sx ?_ ?_<;>intro hc)|refine sy (by omega) fun x hx hm=>?_|simp(disch:=first|assumption|omega) only[AK]))
     refine DA (hpl.out _ _ ?_) (fun o1 g1 p1=>?_)
     .simp only[go_sem,e1,AM,q1,q2,q3,q4,q5,f1,f2,f3,f4,mi,im,Ai,iA]
     subst p1
     (repeat' (first|simp only[go_sem, *,EL,AM]|(refine sx ?_ ?_<;>intro hc)|refine sy (by omega) fun x hx hm=>?_|simp(disch:=first|assumption|omega) only[AK]))
     refine IH.out (_,_) ⟨⟨hgo.out (.eq (1::(b+70)::π) 0 (LS.length+1)) _ ?_ (BR [] (by simp) ?_) (.inr fun id2 hid=>?_) fun id2 b1 b2 b3=>?_⟩,?_,?_,?_,?_,⟨.inr ⟨id,rfl,?_,n,by omega,hun.out,hl.out⟩⟩⟩
     .simp only[go_sem,Au,AM,q1,q2,q3,q4,q5,f1,f2,f3,f4,mi,im,Ai,iA];first|done|rfl
     .simp only[go_sem,e2,D1,Dl,AM,q1,q2,q3,q4,q5,f1,f2,f3,f4,mi,im,Ai,iA];first|done|rfl
     .simp only[AF,As]at hid;subst hid;exact⟨LO (b+70) [1] (by omega) (by omega),_,rfl⟩
     .have q6:=DK b3;have q7:=b2 S (by rw[hs];simp[AF]);simp only[go_sem,q6,b1,q7,AM]
     .simp only[go_sem,k2,e2,AM,q1,q2,q3,q4,q5,f1,f2,f3,f4,mi,im,Ai,iA]
     .simp only[go_sem,k3,e2,AM,q1,q2,q3,q4,q5,f1,f2,f3,f4,mi,im,Ai,iA]
     .simp only[go_sem,k4,e2,AM,q1,q2,q3,q4,q5,f1,f2,f3,f4,mi,im,Ai,iA]
     .simp only[go_sem,k5,e2,AM,q1,q2,q3,q4,q5,f1,f2,f3,f4,mi,im,Ai,iA]
     .simp only[go_sem,hg,AM,q1,q2,q3,q4,q5,f1,f2,f3,f4,mi,im,Ai,iA]
    ·(repeat' (first|simp only[go_sem, *,EL,AM]|(refine sx ?_ ?_<;>intro hc)|refine sy (by omega) fun x hx hm=>?_|simp(disch:=first|assumption|omega) only[AK]))
     refine DA (hpl.out _ _ ?_) (fun o1 g1 p1=>?_)
     .simp only[go_sem,e1,AM,q1,q2,q3,q4,q5,f1,f2,f3,f4,mi,im,Ai,iA]
     subst p1
     (repeat' (first|simp only[go_sem, *,EL,AM]|(refine sx ?_ ?_<;>intro hc)|refine sy (by omega) fun x hx hm=>?_|simp(disch:=first|assumption|omega) only[AK]))
     refine IH.out (_,_) ⟨⟨hgo.out (.eq S 0 (LS.length+1)) _ ?_ (BR xs (by simp) ?_) (.inl (by rw[hs];rfl)) fun id2 b1 b2 b3=>?_⟩,?_,?_,?_,?_,⟨.inr ⟨id,rfl,?_,n,by omega,hun.out,hl.out⟩⟩⟩
     .simp only[go_sem,Au,AM,q1,q2,q3,q4,q5,f1,f2,f3,f4,mi,im,Ai,iA];first|done|rfl
     .simp only[go_sem,e2,D1,Dl,AM,q1,q2,q3,q4,q5,f1,f2,f3,f4,mi,im,Ai,iA];first|done|rfl
     .have q6:=DK b3;have q7:=b2 S (by rw[hs];simp[AF]);simp only[go_sem,q6,b1,q7,AM]
     .simp only[go_sem,k2,e2,AM,q1,q2,q3,q4,q5,f1,f2,f3,f4,mi,im,Ai,iA]
     .simp only[go_sem,k3,e2,AM,q1,q2,q3,q4,q5,f1,f2,f3,f4,mi,im,Ai,iA]
     .simp only[go_sem,k4,e2,AM,q1,q2,q3,q4,q5,f1,f2,f3,f4,mi,im,Ai,iA]
     .simp only[go_sem,k5,e2,AM,q1,q2,q3,q4,q5,f1,f2,f3,f4,mi,im,Ai,iA]
     .simp only[go_sem,hg,AM,q1,q2,q3,q4,q5,f1,f2,f3,f4,mi,im,Ai,iA]
  .clear hR0 hev0 kl2 k2 k3 k4 k5 g b V0 him;rintro i ⟨g,b⟩ hi him ⟨hR,k2,k3,k4,k5,kl⟩;dsimp only at*;have gi:=hi.out;subst gi;clear hi;have hNSl2:=hNSl.out;rw[←hNSl2,EL]at hR;obtain⟨V',hR,hev⟩:=hR.out;have hevn:=N6 kl.out (b+66);have gm:=hR.rep.box;simp only[Au]at gm;have hl3:=Rl hR.rep.arr;rw[hR.rep.am.len]at hl3;simp only[Bi,←hn3.out,hNCl.out]at hl3;have hl0:=Hp (hR.rep.sl 0 (by omega));simp only[A7,BI,Bi,←hn0.out,hNSl2]at hl0;have hs:=hR.rep.sl 1 (by omega);simp only[Gg,A7]at hs;clear hNSl2;have hgo:AA (∀(g1:AD) (v:AV) (H:AD),(∀i∈V'.ids m,g1.get i=g.get i)→(∀i,Id.under π i=false→g1.get i=g.get i)→H.get m=some (.box (Au p sz (V'.ii 1 v) st.work))→Ju H 3 v ((st.em.bv++[G]).map Ar)→(AF v=AF (V'.s 1)∨ ∀id∈AF v,IB (b+52) (b+66) π id=true∧ ∃l,id=1::l)→(∀id,Id.is m id=false→(∀id2∈AF (V'.s 1),Id.is id2 id=false)→IB (b+52) (b+66) π id=false→H.get id=g1.get id)→ ∃V2,Cb p sz π m V h (b+66) V2 {st with em:=CW st.em d G} H∧ ∀i∈AF ev,i∉V2.ids m):=⟨fun g1 v H b1 b2 a1 a2 a3 a4=>by
    have hR1:Cb p sz π m V h (b+52) V' {st with em:={st.em with am:=st.em.am++NC,ac:=st.em.ac++NS}} g1:=⟨Ba hR.rep b1,hR.ids,fun id c1 c2=>(b2 id c2).trans (hR.frame id c1 c2)⟩
    obtain⟨V2,z1,z2⟩:=hR1.step (b':=b+66) (by omega) (IQ (st':={st with em:={st.em with am:=st.em.am++NC,ac:=st.em.ac++NS,bv:=st.em.bv++[G]}}) 1 (by omega) hR1.rep (hR1.apartB hu.out) (AGk rfl rfl rfl) rfl v H a1 a2 a3 a4)
    refine⟨V2,?_,fun i hi=>z2 i (hev i hi) (hevn i hi)⟩;rw[CW,←hng.out,←hNC.out,←hNS.out];exact z1⟩
   have hsq:AA (∀S,V'.s 1=.eq S 0 st.em.bv.length→(∀a n,b+52≤n→Id.is (a::n::π) S=false)∧(∀a n,b+52≤n→Id.is S (a::n::π)=false)∧Id.is S m=false∧Id.is m S=false∧(∀k,Id.is S (0::k::π)=false)∧(∀i∈AF ev,Id.is S i=false∧Id.is i S=false)):=⟨fun S hS=>by
    have hm2:S∈V'.ids m:=V'.s_mem m (i:=1) (by omega) (by rw[hS];simp[AF]);have hi:=hR.ids S hm2;obtain⟨x0,hg⟩:=DE (hR.rep.sl 1 (by omega)) (id:=S) (by rw[hS];simp[AF]);exact⟨fun a n hn=>Fe (b':=0) hu.out hi a n hn,Kl hu.out hi,AE fun e=>(by rw[e,gm]at hg;cases hg),AE fun e=>(by rw[←e,gm]at hg;cases hg),fun k=>AE fun e=>Hh hR hu.out k (by rw[←e];exact hm2),fun i hi=>⟨AE fun e=>hev i hi (by rw[←e];exact hm2),AE fun e=>hev i hi (by rw[e];exact hm2)⟩⟩⟩
   have hvi:AA (∀i∈V'.ids m,∀i2∈AF ev,Id.is i2 i=false):=⟨fun i hi i2 hi2=>AE fun e=>hev i2 hi2 (by rw[e];exact hi)⟩;have hui:AA (∀i,Id.under π i=false→ ∀i2∈AF ev,Id.is i2 i=false):=⟨fun i hi i2 hi2=>AE fun e=>by
    rcases kl.out with⟨_,rfl⟩|⟨id,rfl,_,n,_,hun,_⟩
    .simp[AF]at hi2
    .simp only[AF,As]at hi2;subst hi2;rw[←e,Bk hun]at hi;cases hi⟩
   replace hevn:=AA.mk hevn;replace hev:=AA.mk hev;replace hR:=AA.mk hR;replace kl:=kl.out;rcases kl with⟨hz,he⟩|⟨id,he,hg,n,hnb,hun,hl⟩
   .rw[he]at k5;rcases hs with⟨hs,hs0⟩|⟨S,xs,hs,gS⟩
    .have hs1:=AA.mk (F5.1 hs0);rw[hs]at gm
     (repeat' (first|simp only[go_sem, *,↓hl3,↓hl0,AM]|(refine sx ?_ ?_<;>intro hc)|refine sy (by omega) fun x hx hm=>?_|simp(disch:=first|assumption|omega) only[AK]))
     refine hend.out _ _ _ rfl rfl rfl rfl rfl (hgo.out g (.eq (1::(b+61)::π) 0 1) _ (fun _ _=>rfl) (fun _ _=>rfl) ?_ (BR [] ?_ ?_) (.inr fun id2 hid=>?_) fun id2 b1 b2 b3=>?_) ?_ ?_ ?_ ?_ ?_
     .simp only[go_sem,Au,AM,hGd,hGa,hz];first|done|rfl
     .rw[hs1.out];rfl
     .rw[hs1.out];simp only[go_sem,e2,AM,hGd,hGa,hz];first|done|rfl
     .simp only[AF,As]at hid;subst hid;exact⟨LO (b+61) [1] (by omega) (by omega),_,rfl⟩
     .have q6:=DK b3;simp only[go_sem,q6,b1,AM]
     .simp only[go_sem,k2,e2,AM,hGd,hGa,hz]
     .simp only[go_sem,k3,e2,AM,hGd,hGa,hz]
     .simp only[go_sem,k4,e2,AM,hGd,hGa,hz]
     .rw[he];simp only[go_sem,k5,e2,AM,hGd,hGa,hz]
     .exact .inl ⟨hz,he⟩
    .rw[BI]at hs;rcases xs with _|⟨z,xs⟩
     .skip
      obtain⟨q1,q2,q3,q4,q5,q8⟩:=hsq.out S hs;replace q8:=AA.mk q8;rw[hs]at gm
      (repeat' (first|simp only[go_sem, *,↓hl3,↓hl0,AM]|(refine sx ?_ ?_<;>intro hc)|refine sy (by omega) fun x hx hm=>?_|simp(disch:=first|assumption|omega) only[AK]))
      refine hend.out _ _ _ rfl rfl rfl rfl rfl (hgo.out g (.eq (1::(b+61)::π) 0 (st.em.bv.length+1)) _ (fun _ _=>rfl) (fun _ _=>rfl) ?_ (BR [] ?_ ?_) (.inr fun id2 hid=>?_) fun id2 b1 b2 b3=>?_) ?_ ?_ ?_ ?_ ?_
      .simp only[go_sem,Au,AM,hGd,hGa,q1,q2,q3,q4,q5,hz];first|done|rfl
      .simp
      .simp only[go_sem,e2,D1,Dl,AM,hGd,hGa,q1,q2,q3,q4,q5,hz];first|done|rfl
      .simp only[AF,As]at hid;subst hid;exact⟨LO (b+61) [1] (by omega) (by omega),_,rfl⟩
      .have q6:=DK b3;have q7:=b2 S (by rw[hs];simp[AF]);simp only[go_sem,q6,b1,q7,AM]
      .simp only[go_sem,k2,e2,AM,hGd,hGa,q1,q2,q3,q4,q5,hz]
      .simp only[go_sem,k3,e2,AM,hGd,hGa,q1,q2,q3,q4,q5,hz]
      .simp only[go_sem,k4,e2,AM,hGd,hGa,q1,q2,q3,q4,q5,hz]
      .rw[he];simp only[go_sem,k5,e2,AM,hGd,hGa,q1,q2,q3,q4,q5,hz]
      .exact .inl ⟨hz,he⟩
     .skip
      obtain⟨q1,q2,q3,q4,q5,q8⟩:=hsq.out S hs;replace q8:=AA.mk q8;rw[hs]at gm
      (repeat' (first|simp only[go_sem, *,↓hl3,↓hl0,AM]|(refine sx ?_ ?_<;>intro hc)|refine sy (by omega) fun x hx hm=>?_|simp(disch:=first|assumption|omega) only[AK]))
      refine hend.out _ _ _ rfl rfl rfl rfl rfl (hgo.out g (.eq S 0 (st.em.bv.length+1)) _ (fun _ _=>rfl) (fun _ _=>rfl) ?_ (BR xs ?_ ?_) (.inl (by rw[hs];rfl)) fun id2 b1 b2 b3=>?_) ?_ ?_ ?_ ?_ ?_
      .simp only[go_sem,Au,AM,hGd,hGa,q1,q2,q3,q4,q5,hz];first|done|rfl
      .simp
      .simp only[go_sem,e2,D1,Dl,AM,hGd,hGa,q1,q2,q3,q4,q5,hz];first|done|rfl
      .have q6:=DK b3;have q7:=b2 S (by rw[hs];simp[AF]);simp only[go_sem,q6,b1,q7,AM]
      .simp only[go_sem,k2,e2,AM,hGd,hGa,q1,q2,q3,q4,q5,hz]
      .simp only[go_sem,k3,e2,AM,hGd,hGa,q1,q2,q3,q4,q5,hz]
      .simp only[go_sem,k4,e2,AM,hGd,hGa,q1,q2,q3,q4,q5,hz]
      .rw[he];simp only[go_sem,k5,e2,AM,hGd,hGa,q1,q2,q3,q4,q5,hz]
      .exact .inl ⟨hz,he⟩
   .rw[he]at k5;obtain⟨f1,f2,f3,f4⟩:=GY hnb hun hl;have mi:Id.is m id=false:=AE fun e=>by rw[←e,gm]at hg;cases hg
    have im:Id.is id m=false:=AE fun e=>by rw[e,gm]at hg;cases hg
    replace hun:=AA.mk hun;replace hl:=AA.mk hl;rcases hs with⟨hs,hs0⟩|⟨S,xs,hs,gS⟩
    .have hs1:=AA.mk (F5.1 hs0);rw[hs]at gm
     (repeat' (first|simp only[go_sem, *,↓hl3,↓hl0,AM]|(refine sx ?_ ?_<;>intro hc)|refine sy (by omega) fun x hx hm=>?_|simp(disch:=first|assumption|omega) only[AK]))
     refine hend.out _ _ _ rfl rfl rfl rfl rfl (hgo.out (g.put id (.i5 2 (G.env.map AN))) (.eq (1::(b+61)::π) 0 1) _ (fun i hi=>by rw[get_put,hvi.out i hi id (by rw[he];simp[AF])];simp) (fun i hi=>by rw[get_put,hui.out i hi id (by rw[he];simp[AF])];simp) ?_ (BR [] ?_ ?_) (.inr fun id2 hid=>?_) fun id2 b1 b2 b3=>?_) ?_ ?_ ?_ ?_ ?_
     .simp only[go_sem,Au,AM,hGd,hGa,f1,f2,f3,f4,mi,im];first|done|rfl
     .rw[hs1.out];rfl
     .rw[hs1.out];simp only[go_sem,e2,AM,hGd,hGa,f1,f2,f3,f4,mi,im];first|done|rfl
     .simp only[AF,As]at hid;subst hid;exact⟨LO (b+61) [1] (by omega) (by omega),_,rfl⟩
     .have q6:=DK b3;simp only[go_sem,q6,b1,AM]
     .simp only[go_sem,k2,e2,AM,hGd,hGa,f1,f2,f3,f4,mi,im]
     .simp only[go_sem,k3,e2,AM,hGd,hGa,f1,f2,f3,f4,mi,im]
     .simp only[go_sem,k4,e2,AM,hGd,hGa,f1,f2,f3,f4,mi,im]
     .rw[he];simp only[go_sem,k5,e2,AM,hGd,hGa,f1,f2,f3,f4,mi,im]
     .refine .inr ⟨id,he,?_,n,by omega,hun.out,hl.out⟩;simp only[go_sem,e2,AM,hGd,hGa,f1,f2,f3,f4,mi,im]
    .rw[BI]at hs;rcases xs with _|⟨z,xs⟩
     .skip
      obtain⟨q1,q2,q3,q4,q5,q8⟩:=hsq.out S hs;obtain⟨q9,q10⟩:=q8 id (by rw[he];simp[AF]);replace q8:=AA.mk q8;rw[hs]at gm
      (repeat' (first|simp only[go_sem, *,↓hl3,↓hl0,AM]|(refine sx ?_ ?_<;>intro hc)|refine sy (by omega) fun x hx hm=>?_|simp(disch:=first|assumption|omega) only[AK]))
      refine hend.out _ _ _ rfl rfl rfl rfl rfl (hgo.out (g.put id (.i5 2 (G.env.map AN))) (.eq (1::(b+61)::π) 0 (st.em.bv.length+1)) _ (fun i hi=>by rw[get_put,hvi.out i hi id (by rw[he];simp[AF])];simp) (fun i hi=>by rw[get_put,hui.out i hi id (by rw[he];simp[AF])];simp) ?_ (BR [] ?_ ?_) (.inr fun id2 hid=>?_) fun id2 b1 b2 b3=>?_) ?_ ?_ ?_ ?_ ?_
      .simp only[go_sem,Au,AM,hGd,hGa,q1,q2,q3,q4,q5,q9,q10,f1,f2,f3,f4,mi,im];first|done|rfl
      .simp
      .simp only[go_sem,e2,D1,Dl,AM,hGd,hGa,q1,q2,q3,q4,q5,q9,q10,f1,f2,f3,f4,mi,im];first|done|rfl
      .simp only[AF,As]at hid;subst hid;exact⟨LO (b+61) [1] (by omega) (by omega),_,rfl⟩
      .have q6:=DK b3;have q7:=b2 S (by rw[hs];simp[AF]);simp only[go_sem,q6,b1,q7,AM]
      .simp only[go_sem,k2,e2,AM,hGd,hGa,q1,q2,q3,q4,q5,q9,q10,f1,f2,f3,f4,mi,im]
      .simp only[go_sem,k3,e2,AM,hGd,hGa,q1,q2,q3,q4,q5,q9,q10,f1,f2,f3,f4,mi,im]
      .simp only[go_sem,k4,e2,AM,hGd,hGa,q1,q2,q3,q4,q5,q9,q10,f1,f2,f3,f4,mi,im]
      .rw[he];simp only[go_sem,k5,e2,AM,hGd,hGa,q1,q2,q3,q4,q5,q9,q10,f1,f2,f3,f4,mi,im]
      .refine .inr ⟨id,he,?_,n,by omega,hun.out,hl.out⟩;simp only[go_sem,e2,AM,hGd,hGa,q1,q2,q3,q4,q5,q9,q10,f1,f2,f3,f4,mi,im]
     .skip
      obtain⟨q1,q2,q3,q4,q5,q8⟩:=hsq.out S hs;obtain⟨q9,q10⟩:=q8 id (by rw[he];simp[AF]);replace q8:=AA.mk q8;rw[hs]at gm
      (repeat' (first|simp only[go_sem, *,↓hl3,↓hl0,AM]|(refine sx ?_ ?_<;>intro hc)|refine sy (by omega) fun x hx hm=>?_|simp(disch:=first|assumption|omega) only[AK]))
      refine hend.out _ _ _ rfl rfl rfl rfl rfl (hgo.out (g.put id (.i5 2 (G.env.map AN))) (.eq S 0 (st.em.bv.length+1)) _ (fun i hi=>by rw[get_put,hvi.out i hi id (by rw[he];simp[AF])];simp) (fun i hi=>by rw[get_put,hui.out i hi id (by rw[he];simp[AF])];simp) ?_ (BR xs ?_ ?_) (.inl (by rw[hs];rfl)) fun id2 b1 b2 b3=>?_) ?_ ?_ ?_ ?_ ?_
      .simp only[go_sem,Au,AM,hGd,hGa,q1,q2,q3,q4,q5,q9,q10,f1,f2,f3,f4,mi,im];first|done|rfl
      .simp
      .simp only[go_sem,e2,D1,Dl,AM,hGd,hGa,q1,q2,q3,q4,q5,q9,q10,f1,f2,f3,f4,mi,im];first|done|rfl
      .have q6:=DK b3;have q7:=b2 S (by rw[hs];simp[AF]);simp only[go_sem,q6,b1,q7,AM]
      .simp only[go_sem,k2,e2,AM,hGd,hGa,q1,q2,q3,q4,q5,q9,q10,f1,f2,f3,f4,mi,im]
      .simp only[go_sem,k3,e2,AM,hGd,hGa,q1,q2,q3,q4,q5,q9,q10,f1,f2,f3,f4,mi,im]
      .simp only[go_sem,k4,e2,AM,hGd,hGa,q1,q2,q3,q4,q5,q9,q10,f1,f2,f3,f4,mi,im]
      .rw[he];simp only[go_sem,k5,e2,AM,hGd,hGa,q1,q2,q3,q4,q5,q9,q10,f1,f2,f3,f4,mi,im]
      .refine .inr ⟨id,he,?_,n,by omega,hun.out,hl.out⟩;simp only[go_sem,e2,AM,hGd,hGa,q1,q2,q3,q4,q5,q9,q10,f1,f2,f3,f4,mi,im]
theorem lX{p:AL}{sz:List Int}{k:Nat}(hF:BK p sz)(IH0:JJ p sz k){h:AD}{π:List Nat}{m:Abs.Id}{V:MV}{st:Ck}(hM:Dw p sz h m V st)(hu:Ca π V m)(hI:Pw p sz k st)(j:Hf){x:C0}(hj:Mv p j x){d:Bs}(hd:Fz p sz st.em j x d):
 ∃o h',KL Tryz.prog cfg (.fn 112) [.ptr m 0,.agg [.d (.int .i64 (j.node)),.d (.int .i64 (j.at_)),.d (.be (j.env.map AN))]] h π true none=.ok (o,h')∧FI p sz π m V h (Nv (GD p k) (Ie p x j st)) o h':=by
 have hm:=hM.box;have um:=hu m (V.m_mem m);simp only[Au]at hm;have e1:=AH um;have e2:=Ak um;have e3:=EZ um;have e4:=Km um;have hx:=hj.node;have hn:=hj.n0;have hel:=hj.len;have hxl:=PZ hj;have hsm:=hF.small;simp only[AL.small,AP,Ap]at hsm;obtain⟨z1,z2,z3⟩:=hsm;have hdd:=hd.f8;have hd0:=hd.n0;have hdl:=AI hdd;have d1:=hd.ok.am;have d2:=hd.ok.ac;have h1:=KD j.env (by omega);have hmS:=hI.pm.small;simp only[BF.small,AP,Ap]at hmS;obtain⟨s1,s2,s3,s4⟩:=hmS;replace hM:=AA.mk hM;replace hu:=AA.mk hu;replace hd:=AA.mk hd;replace hI:=AA.mk hI;have hl3:=Rl hM.out.arr;have hl0:=Hp (hM.out.sl 0 (by omega));rw[hM.out.am.len]at hl3;simp only[A7,BI]at hl0;obtain⟨n3,hn3⟩: ∃n,n=st.em.am.length:=⟨_,rfl⟩;obtain⟨n0,hn0⟩: ∃n,n=st.em.ac.length:=⟨_,rfl⟩;rw[←hn3]at hl3;rw[←hn0]at hl0;have s3':n3≤60:=by omega
 have s1':n0≤24:=by omega
 replace hn3:=AA.mk hn3;replace hn0:=AA.mk hn0;by_cases h0:j.env.length=0;all_goals
  first
  |simp only[Ct h0]at h1
  |simp only[DN h0]at h1
  have fa:=Cw
  (refine Aj rfl Tryz.func112 rfl rfl rfl ?_;show Wp _ _ _ _ (Tryz.f112.body.get rfl) _ _;simp only[Tryz.f112,AS])
  refine zP 6 fun T hT=>?_;have hend:AA (∀(e:Bn) (H:AD) (c:Nat),e.get 0=.ptr m 0→e.get 3=.ptr (0::0::π) 0→e.get 4=.ptr (0::10::π) 0→e.get 5=.ptr (0::21::π) 0→e.get 6=.ptr (0::31::π) 0→(∀id,Id.under π id=false→H.get id=h.get id)→H.get (0::0::π)=some (.box [.d (.int .i64 (j.node)),.d (.int .i64 (j.at_)),.d (.be (j.env.map AN))])→H.get (0::10::π)=some (.box [.d (.int .i64 (x.op)),.d (.int .i64 (x.n)),.d (.be (x.args.map Bg)),.d (.be (x.kids.map AJ))])→H.get (0::21::π)=some (.box [.d (.be (d.am.map A3)),.d (.be (d.ac.map Ao)),.d (.be (d.rules.map A0))])→(∃ev,H.get (0::31::π)=some (.box [.d (.int .i64 (x.n)),.d (.int .i64 (j.at_)),ev])∧Og π H (c+43) ev (j.env++Fs n3 d.am.length++KS n0 d.ac.length))→Wp cfg (KL Tryz.prog cfg) ⟨112,π,true,none,false,204⟩ 0 T ⟨e,H,c+43,[]⟩ (Sb cfg none [] π true (FI p sz π m V h (Nv (GD p k) (Ie p x j st))))):=⟨fun e H c x0 x3 x4 x5 x6 k1 y2 y3 y4 hev=>by
   obtain⟨ev,y5,hl⟩:=hev;rw[hT];refine lU hF IH0 hM.out hu.out hI.out hd.out rfl x0 x3 x4 x5 x6 k1 y2 y3 y4 y5 ?_;have:(Aq st.em d x.n j).env=j.env++Fs n3 d.am.length++KS n0 d.ac.length:=by rw[hn3.out,hn0.out,Aq,En,D9];rfl
   rw[this];exact hl⟩
  replace hT:=AA.mk hT;simp only[Tryz.f112,AS,lN];refine ax ?_;clear h1;refine AX d.am _ (S:=fun m' i (a:AD×Nat)=>⟨[(0,.ptr m 0),(3,.ptr (0::0::π) 0),(4,.ptr (0::10::π) 0),(5,.ptr (0::21::π) 0),(6,.ptr (0::31::π) 0),(43,.d (.int .i64 (m'))),(44,.d (.int .i64 (i)))],a.1,a.2+37,[]⟩)
   (Inv:=fun i rest a=>AA (∀id,Id.under π id=false→a.1.get id=h.get id)∧a.1.get (0::0::π)=some (.box [.d (.int .i64 (j.node)),.d (.int .i64 (j.at_)),.d (.be (j.env.map AN))])∧a.1.get (0::10::π)=some (.box [.d (.int .i64 (x.op)),.d (.int .i64 (x.n)),.d (.be (x.args.map Bg)),.d (.be (x.kids.map AJ))])∧a.1.get (0::21::π)=some (.box [.d (.be (d.am.map A3)),.d (.be (d.ac.map Ao)),.d (.be (d.rules.map A0))])∧AA (∃ev,a.1.get (0::31::π)=some (.box [.d (.int .i64 (x.n)),.d (.int .i64 (j.at_)),ev])∧Og π a.1 (a.2+37) ev (j.env++Fs n3 i))) (b0:=(_,_)) rfl ⟨⟨fun id b=>?_⟩,?_,?_,?_,⟨?_⟩⟩ ?_ ?_
  .have q1:=AH b;have q4:=EZ b;simp only[go_sem,q1,q4,AM]
  .simp only[go_sem]
  .simp only[go_sem]
  .simp only[go_sem]
  .first
   |(refine⟨.co,?_,.inl ⟨by simp[Fs,DL h0],rfl⟩⟩
     simp only[go_sem]
     done)
   |(refine⟨.eq (1::0::2::29::π) 0 j.env.length,?_,.inr ⟨_,by simp[Fs],?_,29,by omega,under_iff.2 ⟨[1,0,2],rfl⟩,_,rfl⟩⟩
     .simp only[go_sem]
     .simp only[Fs,List.range'_zero,Dl,D6];simp only[go_sem])
  .rintro i y ⟨g,b⟩ hy hi him ⟨k1,k2,k3,k4,kl⟩ IH;dsimp only at*;obtain⟨ev,k5,kl⟩:=kl.out;have gm:=(k1.out m um).trans hm;have w1:IntKind.i64.wrap ((n3:Int)+(i:Int))=(n3:Int)+(i:Int):=wrap_id (by omega) (by omega);obtain⟨L,hL⟩: ∃L,L=j.env++Fs n3 i:=⟨_,rfl⟩;have hLs:AA (j.env++Fs n3 (i+1)=L++[⟨3,(n3:Int)+(i:Int)⟩]):=⟨by rw[Yc,←D9,←hL];simp⟩;rw[←hL]at kl;have hLm:L.length≤20000:=by rw[hL];simp[Fs];omega
   replace hL:=AA.mk hL;rcases kl with⟨hz,rfl⟩|⟨id,rfl,hg,n,hnb,hun,hl⟩
   ·(repeat' (first|simp only[go_sem, *,↓hl3,↓hl0]|(refine sx ?_ ?_<;>intro hc)|refine sy (by omega) fun x hx hm=>?_|simp(disch:=first|assumption|omega) only[AK]))
    refine IH.out (_,_) ⟨⟨fun id b=>?_⟩,?_,?_,?_,⟨.eq (1::(b+52)::π) 0 1,?_,?_⟩⟩
    .have q1:=AH b;simp only[go_sem,q1,k1.out id b,AM]
    .simp only[go_sem,k2]
    .simp only[go_sem,k3]
    .simp only[go_sem,k4]
    .simp only[go_sem]
    .rw[hLs.out,hz];refine NG (by omega) rfl ?_;simp only[go_sem]
   .obtain⟨f1,f2,f3,f4⟩:=GY hnb hun hl;have hun2:=AA.mk (Bk hun);clear hl hun hnb
    (repeat' (first|simp only[go_sem, *,↓hl3,↓hl0,AM]|(refine sx ?_ ?_<;>intro hc)|refine sy (by omega) fun x hx hm=>?_|simp(disch:=first|assumption|omega) only[AK]))
    refine IH.out (_,_) ⟨⟨fun id2 b2=>?_⟩,?_,?_,?_,⟨.eq (1::(b+52)::π) 0 (L.length+1),?_,?_⟩⟩
    .have q1:=AH b2;have q2:Id.is id id2=false:=AE fun e=>by rw[←e,hun2.out]at b2;cases b2
     simp only[go_sem,q1,q2,k1.out id2 b2,AM]
    .simp only[go_sem,k2,f3,f4,AM]
    .simp only[go_sem,k3,f3,f4,AM]
    .simp only[go_sem,k4,f3,f4,AM]
    .simp only[go_sem]
    .rw[hLs.out];refine NG (by omega) (by simp) ?_;simp only[go_sem,f1,f2,D1,AM]
  .clear s3';rintro i ⟨g,b⟩ hi him ⟨k1,k2,k3,k4,kl⟩;dsimp only at*;have gi:=hi.out;subst gi;clear hi;replace hl3:=AA.mk hl3;refine aw ?_;refine AX d.ac _ (S:=fun m' i (a:AD×Nat)=>⟨[(0,.ptr m 0),(3,.ptr (0::0::π) 0),(4,.ptr (0::10::π) 0),(5,.ptr (0::21::π) 0),(6,.ptr (0::31::π) 0),(64,.d (.int .i64 (m'))),(65,.d (.int .i64 (i)))],a.1,a.2+42,[]⟩)
    (Inv:=fun i rest a=>AA (∀id,Id.under π id=false→a.1.get id=h.get id)∧a.1.get (0::0::π)=some (.box [.d (.int .i64 (j.node)),.d (.int .i64 (j.at_)),.d (.be (j.env.map AN))])∧a.1.get (0::10::π)=some (.box [.d (.int .i64 (x.op)),.d (.int .i64 (x.n)),.d (.be (x.args.map Bg)),.d (.be (x.kids.map AJ))])∧a.1.get (0::21::π)=some (.box [.d (.be (d.am.map A3)),.d (.be (d.ac.map Ao)),.d (.be (d.rules.map A0))])∧AA (∃ev,a.1.get (0::31::π)=some (.box [.d (.int .i64 (x.n)),.d (.int .i64 (j.at_)),ev])∧Og π a.1 (a.2+42) ev (j.env++Fs n3 d.am.length++KS n0 i))) (b0:=(_,b)) rfl ⟨k1,k2,k3,k4,⟨by obtain⟨ev,q1,q2⟩:=kl.out;exact⟨ev,q1,by simpa[KS]using Rm q2 (by omega)⟩⟩⟩ ?_ ?_
   .clear kl k1 k2 k3 k4 g b;rintro i y ⟨g,b⟩ hy hi him ⟨k1,k2,k3,k4,kl⟩ IH;dsimp only at*;obtain⟨ev,k5,kl⟩:=kl.out;have gm:=(k1.out m um).trans hm;have w1:IntKind.i64.wrap ((n0:Int)+(i:Int))=(n0:Int)+(i:Int):=wrap_id (by omega) (by omega);obtain⟨L,hL⟩: ∃L,L=j.env++Fs n3 d.am.length++KS n0 i:=⟨_,rfl⟩;have hLs:AA (j.env++Fs n3 d.am.length++KS n0 (i+1)=L++[⟨4,(n0:Int)+(i:Int)⟩]):=⟨by rw[bm,←D9,←hL];simp⟩;rw[←hL]at kl;have hLm:L.length≤20000:=by rw[hL];simp[Fs,KS];omega
    replace hL:=AA.mk hL;rcases kl with⟨hz,rfl⟩|⟨id,rfl,hg,n,hnb,hun,hl⟩
    ·(repeat' (first|simp only[go_sem, *,↓hl0]|(refine sx ?_ ?_<;>intro hc)|refine sy (by omega) fun x hx hm=>?_|simp(disch:=first|assumption|omega) only[AK]))
     refine IH.out (_,_) ⟨⟨fun id b2=>?_⟩,?_,?_,?_,⟨.eq (1::(b+57)::π) 0 1,?_,?_⟩⟩
     .have q1:=AH b2;simp only[go_sem,q1,k1.out id b2,AM]
     .simp only[go_sem,k2]
     .simp only[go_sem,k3]
     .simp only[go_sem,k4]
     .simp only[go_sem]
     .rw[hLs.out,hz];refine NG (by omega) rfl ?_;simp only[go_sem]
    .obtain⟨f1,f2,f3,f4⟩:=GY hnb hun hl;have hun2:=AA.mk (Bk hun);clear hl hun hnb
     (repeat' (first|simp only[go_sem, *,↓hl0,AM]|(refine sx ?_ ?_<;>intro hc)|refine sy (by omega) fun x hx hm=>?_|simp(disch:=first|assumption|omega) only[AK]))
     refine IH.out (_,_) ⟨⟨fun id2 b2=>?_⟩,?_,?_,?_,⟨.eq (1::(b+57)::π) 0 (L.length+1),?_,?_⟩⟩
     .have q1:=AH b2;have q2:Id.is id id2=false:=AE fun e=>by rw[←e,hun2.out]at b2;cases b2
      simp only[go_sem,q1,q2,k1.out id2 b2,AM]
     .simp only[go_sem,k2,f3,f4,AM]
     .simp only[go_sem,k3,f3,f4,AM]
     .simp only[go_sem,k4,f3,f4,AM]
     .simp only[go_sem]
     .rw[hLs.out];refine NG (by omega) (by simp) ?_;simp only[go_sem,f1,f2,D1,AM]
   .clear kl k1 k2 k3 k4 g b him;rintro i ⟨g,b⟩ hi him ⟨k1,k2,k3,k4,kl⟩;dsimp only at*;have gi:=hi.out;subst gi;clear hi;refine aw ?_;exact hend.out _ _ _ rfl rfl rfl rfl rfl k1.out k2 k3 k4 (by obtain⟨ev,q1,q2⟩:=kl.out;exact⟨ev,q1,Rm q2 (by omega)⟩)
theorem xz{x:C0}(h:DX x.op=some x.kids.length):x.op=1∨x.op=2∨x.op=3∨x.op=4∨x.op=5∨x.op=6∨x.op=7∨x.op=8:=by
 unfold DX at h;repeat (split at h;· omega)
 cases h
theorem Yr(f:Hf→Ck→Option Ck)(r:Option Ck):Nv f (r.map fun st=>(st,[]))=r:=by cases r<;>rfl
theorem Rb{p:AL}{sz:List Int}(hF:BK p sz): ∀k,JJ p sz k
 |0=>fun h π m V st j hM hu hS hj w0 w1 w2 hev=>by omega
 |k+1=>fun h π m V st j hM hu hS hj w0 w1 w2 hev=>by
  have IH0:=Rb hF k;obtain⟨x,l,hx,hok,hl,hq,hle⟩:=MI hF hj;have hok2:=hok;simp only[Cy,AP,Ap,DO]at hok;obtain⟨hk,hn,har,hex⟩:=hok;have hfc:Mv p j x:=⟨hj.n0,hx,by omega⟩;have hn0:=hj.n0;have hxl:=PZ hfc;have hm:=hM.box;have um:=hu m (V.m_mem m);simp only[Au]at hm;have hacts:=hM.rx;have mA:Id.is m V.rx=false:=AE fun e=>by rw[←e,hm]at hacts;cases hacts
  have e1:=AH um;have e2:=Ak um;have ww:IntKind.i64.wrap (st.work+1)=st.work+1:=wrap_id (by omega) (by omega);obtain⟨st1,hst1⟩: ∃s,s={st with work:=st.work+1}:=⟨_,rfl⟩
  have hsm:=hF.small;simp only[AL.small,AP,Ap]at hsm;obtain⟨z1,z2,z3⟩:=hsm;have hd:AA (GD p (k+1) j st=if st.work<400 then Nv (GD p k) (MA p j st1)else none):=⟨by rw[hst1];rfl⟩;have hrun:AA (∀H:AD,H.get m=some (.box (Au p sz V (st.work+1)))→(∀id,Id.is m id=false→Id.under π id=false→H.get id=h.get id)→Cb p sz π m V h 0 V st1 H):=⟨fun H a1 a2=>by
   have:=Vd (st':=st1) hM hu (by rw[hst1];exact a1) (by rw[hst1];exact⟨rfl,rfl⟩) fun id b1 b2=>a2 id (AE fun e=>b1 e.symm) b2;exact⟨this.1,fun id hid=>.inl hid,this.2.frame⟩⟩
  have hI1:AA (st.work<400→Pw p sz k st1):=⟨fun h=>by rw[hst1];exact⟨hS,by dsimp only;omega,by dsimp only;omega,by dsimp only;omega,by dsimp only;omega⟩⟩;have hj1:AA (Cv p sz st1.em j):=⟨by rw[hst1];exact hj⟩;have hsol:AA (st1.em=st.em):=⟨by rw[hst1]⟩;have hwl:AA (st.em.waits.length≤1000000):=⟨by
   have:=hS.small;simp only[BF.small,AP,Ap]at this;omega⟩
  have hevl:AA (st1.ev.length≤1000000):=⟨by rw[hst1];dsimp only;omega⟩;replace hst1:=AA.mk hst1;replace hM:=AA.mk hM;replace hu:=AA.mk hu;replace hS:=AA.mk hS;replace hj:=AA.mk hj;replace hex:=AA.mk hex;replace hok2:=AA.mk hok2;replace hfc:=AA.mk hfc;replace hq:=AA.mk hq;replace hl:=AA.mk hl;have fin:AA (∀(H g1:AD) (n:Nat) (o:Ad) (r:Option Ck),Cb p sz π m V h 0 V st1 H→FI p sz (n::π) m V H r o g1→FI p sz π m V h r o (gc (n::π) g1)):=⟨fun H g1 n o r hr ho=>by
   cases r with
   |none=>exact hr.f9 hu.out (I5 _) ho
   |some st2=>
    obtain⟨V2,h2,_⟩:=hr.call hu.out (I5 _) ho;obtain⟨rfl,_⟩:=ho;exact h2.fin⟩
  by_cases hw:st.work<400
  .have hw2:st.work+1≤400:=by omega
   rw[hd.out,D0 hw];have hJ:AA (MA p j st1=if x.op=2 then(FP p x j st1).map fun st=>(st,[])else if x.op=3 then some (st1,Bq x 0 j.at_ j.env++Bq x 1 j.at_ j.env)else if x.op=4 then Ie p x j st1 else if x.op=5 then some (st1,Bq x (VS x j.env) j.at_ j.env)else if Da x.op=true then(Jx j st1).map fun st=>(st,[])else some (st1,[])):=⟨by rw[MA,hx]⟩;have hI1:=hI1.out hw;replace hI1:=AA.mk hI1;have hr:Cb p sz π m V h 0 V st1 (h.put m (.box (Au p sz V (st.work+1)))):=by
    refine hrun.out _ ?_ ?_
    .simp only[go_sem]
    .intro id b1 b2;simp only[go_sem,b1,AM]
   have ap:=AA.mk (hr.apart hu.out (n:=36) (I5 _));have hfn:=fun g1 o r=>fin.out _ g1 36 o r hr;replace hfn:=AA.mk hfn;replace hr:=AA.mk hr;have hal:=AA.mk har;clear har;rcases xz hk with ho|ho|ho|ho|ho|ho|ho|ho
   .rw[hJ.out];simp only[ho,Int.reduceEq,F2,El,Da,decide_false,Bool.or_self,AM,Nv,CD]
    (refine Aj rfl Tryz.func66 rfl rfl rfl ?_;show Wp _ _ _ _ (Tryz.f66.body.get rfl) _ _;simp only[Tryz.f66,AS])
    (repeat' (first|simp only[go_sem, *,Ic]|(refine sx ?_ ?_<;>intro hc)|refine sy (by omega) fun x hx hm=>?_|simp(disch:=first|assumption|omega) only[AK]))
    exact hr.out.fin
   .rw[hJ.out];simp only[ho,Int.reduceEq,F2,El,Yr];have hn1:0≤x.n∧x.n<j.env.length:=by simpa[XZ,ho]using hn
    have ha3:x.args.length≤3:=by simpa[E7,ho]using hal.out
    have hef: ∀e∈x.args,e.formed j.env.length=true:=fun e he=>by
     have:=hex.out e he;simp only[Bc.ok,AP]at this;exact this.2.2
    replace hef:=AA.mk hef
    (refine Aj rfl Tryz.func66 rfl rfl rfl ?_;show Wp _ _ _ _ (Tryz.f66.body.get rfl) _ _;simp only[Tryz.f66,AS])
    (repeat' (first|simp only[go_sem, *,Ic]|(refine sx ?_ ?_<;>intro hc)|refine sy (by omega) fun x hx hm=>?_|simp(disch:=first|assumption|omega) only[AK]))
    refine AZ (AC2 (V:=V) (st:=st1) hr.out.rep ap.out j hfc.out z2 ha3 hef.out hn1.1 hn1.2 (by rw[hsol.out];exact hj.out.ol) (fun c q hq=>by rw[hsol.out]at hq⊢;exact Ot hF hS.out hq) hevl.out) (fun o1 g1 p1=>?_);have fn:=hfn.out g1 o1 _ p1;obtain⟨r,hr9⟩: ∃r,r=FP p x j st1:=⟨_,rfl⟩;rw[←hr9]at fn p1⊢;clear hr9;cases r;all_goals
     have w9:=p1.1;subst w9;replace fn:=AA.mk fn;replace p1:=AA.mk p1;refine aw ?_;exact fn.out
   .rw[hJ.out];simp only[ho,Int.reduceEq,F2,El];have hk2:x.kids.length=2:=by simpa[DX,ho]using hk.symm
    obtain⟨ka,kb,hkk⟩:=bz hk2;have hkj:Bq x 0 j.at_ j.env++Bq x 1 j.at_ j.env=Fb x.kids j.at_ j.env:=by simp[Bq,Fb,hkk]
    have hkid: ∀j'∈Fb x.kids j.at_ j.env,Cv p sz st1.em j':=by
     rw[←hkj];intro j' hj';rcases ES.1 hj' with h1|h1
     .exact QG hj1.out (by omega) hl.out hq.out 0 j' h1
     .exact QG hj1.out (by omega) hl.out hq.out 1 j' h1
    rw[Nv,hkj];replace hkj:=AA.mk hkj;replace hkk:=AA.mk hkk;replace hkid:=AA.mk hkid
    (refine Aj rfl Tryz.func66 rfl rfl rfl ?_;show Wp _ _ _ _ (Tryz.f66.body.get rfl) _ _;simp only[Tryz.f66,AS])
    (repeat' (first|simp only[go_sem, *,Ic]|(refine sx ?_ ?_<;>intro hc)|refine sy (by omega) fun x hx hm=>?_|simp(disch:=first|assumption|omega) only[AK]))
    refine AZ (zr hF IH0 (V:=V) (st:=st1) hr.out.rep ap.out hI1.out j hfc.out z2 (by omega) hkid.out) (fun o1 g1 p1=>?_);have fn:=hfn.out g1 o1 _ p1;obtain⟨r,hr9⟩: ∃r,r=CD (GD p k) (Fb x.kids j.at_ j.env) st1:=⟨_,rfl⟩;rw[←hr9]at fn p1⊢;clear hr9;cases r;all_goals
     have w9:=p1.1;subst w9;replace fn:=AA.mk fn;replace p1:=AA.mk p1;refine aw ?_;exact fn.out
   .rw[hJ.out];simp only[ho,Int.reduceEq,F2,El];obtain⟨d,hdi⟩:=tp hF (s:=st1.em) (by rw[hsol.out];exact hS.out) hj1.out hx ho;replace hdi:=AA.mk hdi
    (refine Aj rfl Tryz.func66 rfl rfl rfl ?_;show Wp _ _ _ _ (Tryz.f66.body.get rfl) _ _;simp only[Tryz.f66,AS])
    (repeat' (first|simp only[go_sem, *,Ic]|(refine sx ?_ ?_<;>intro hc)|refine sy (by omega) fun x hx hm=>?_|simp(disch:=first|assumption|omega) only[AK]))
    refine AZ (lX hF IH0 (V:=V) (st:=st1) hr.out.rep ap.out hI1.out j hfc.out hdi.out) (fun o1 g1 p1=>?_);have fn:=hfn.out g1 o1 _ p1;obtain⟨r,hr9⟩: ∃r,r=Nv (GD p k) (Ie p x j st1):=⟨_,rfl⟩;rw[←hr9]at fn p1⊢;clear hr9;cases r;all_goals
     have w9:=p1.1;subst w9;replace fn:=AA.mk fn;replace p1:=AA.mk p1;refine aw ?_;exact fn.out
   .rw[hJ.out];simp only[ho,Int.reduceEq,F2,El];have hk2:x.kids.length=2:=by simpa[DX,ho]using hk.symm
    obtain⟨ka,kb,hkk⟩:=bz hk2;have ha1:x.args.length=1:=by simpa[E7,ho]using hal.out
    obtain⟨e0,he0⟩: ∃e,x.args=[e]:=by
     match hxa:x.args,ha1 with
     |[e],_=>exact⟨e,rfl⟩
    have hef:e0.formed j.env.length=true:=by
     have:=hex.out e0 (by rw[he0];simp);simp only[Bc.ok,AP]at this;exact this.2.2
    have hka:Cv p sz st1.em ⟨ka,j.at_,j.env⟩:=QG hj1.out (by omega) hl.out hq.out 0 _ (by simp[Bq,hkk]);have hkb:Cv p sz st1.em ⟨kb,j.at_,j.env⟩:=QG hj1.out (by omega) hl.out hq.out 1 _ (by simp[Bq,hkk]);rw[Nv];replace hkk:=AA.mk hkk;replace he0:=AA.mk he0;replace hka:=AA.mk hka;replace hkb:=AA.mk hkb
    (refine Aj rfl Tryz.func66 rfl rfl rfl ?_;show Wp _ _ _ _ (Tryz.f66.body.get rfl) _ _;simp only[Tryz.f66,AS])
    (repeat' (first|simp only[go_sem, *,Ic]|(refine sx ?_ ?_<;>intro hc)|refine sy (by omega) fun x hx hm=>?_|simp(disch:=first|assumption|omega) only[AK]))
    refine AZ (lQ hF IH0 (V:=V) (st:=st1) hr.out.rep ap.out hI1.out j hfc.out z2 he0.out hef hkk.out hka.out hkb.out) (fun o1 g1 p1=>?_);have fn:=hfn.out g1 o1 _ p1;obtain⟨r,hr9⟩: ∃r,r=CD (GD p k) (Bq x (VS x j.env) j.at_ j.env) st1:=⟨_,rfl⟩;rw[←hr9]at fn p1⊢;clear hr9;cases r;all_goals
     have w9:=p1.1;subst w9;replace fn:=AA.mk fn;replace p1:=AA.mk p1;refine aw ?_;exact fn.out
   all_goals
    rw[hJ.out];simp only[ho,Int.reduceEq,F2,El,Yr,Da,decide_true,decide_false,Bool.true_or,Bool.or_true,Bool.or_self,AM]
    (refine Aj rfl Tryz.func66 rfl rfl rfl ?_;show Wp _ _ _ _ (Tryz.f66.body.get rfl) _ _;simp only[Tryz.f66,AS])
    (repeat' (first|simp only[go_sem, *,Ic]|(refine sx ?_ ?_<;>intro hc)|refine sy (by omega) fun x hx hm=>?_|simp(disch:=first|assumption|omega) only[AK]))
    refine AZ (ADF (V:=V) (st:=st1) hr.out.rep ap.out j (by omega) (by rw[hsol.out];exact hwl.out)) (fun o1 g1 p1=>?_);have fn:=hfn.out g1 o1 _ p1;obtain⟨r,hr9⟩: ∃r,r=Jx j st1:=⟨_,rfl⟩;rw[←hr9]at fn p1⊢;clear hr9;cases r;all_goals
     have w9:=p1.1;subst w9;replace fn:=AA.mk fn;replace p1:=AA.mk p1;refine aw ?_;exact fn.out
  .have hw2: ¬st.work+1≤400:=by omega
   rw[hd.out,CI hw]
   (refine Aj rfl Tryz.func66 rfl rfl rfl ?_;show Wp _ _ _ _ (Tryz.f66.body.get rfl) _ _;simp only[Tryz.f66,AS])
   refine aw ?_;refine⟨rfl,(hrun.out _ ?_ ?_).frame⟩
   .simp only[go_sem,Au];first|done|rfl
   .intro id b1 b2;simp only[go_sem,b1,AM]
def px(l:List Int):Int:=match l with
 |[]=>0
 |x::l=>l.foldl min x
theorem ZB: ∀(l:List Int) (x:Int),l.foldl min x≤x∧(∀y∈l,l.foldl min x≤y)∧(l.foldl min x=x∨l.foldl min x∈l)
 |[],x=>by simp
 |y::l,x=>by
  obtain⟨h1,h2,h3⟩:=ZB l (min x y);rw[Md];refine⟨by omega,fun z hz=>?_,?_⟩
  .rcases Co.1 hz with rfl|hz
   .omega
   .exact h2 z hz
  .rcases h3 with h3|h3
   .by_cases hxy:x≤y
    .exact .inl (by omega)
    .exact .inr (Co.2 (.inl (by omega)))
   .exact .inr (Em _ h3)
theorem Zw{l:List Nat}(h:0<l.length):px (l.map fun(n:Nat)=>(n:Int))=0↔0∈l:=by
 cases l with
 |nil=>simp at h
 |cons x l=>
  obtain⟨h1,h2,h3⟩:=ZB (l.map fun(n:Nat)=>(n:Int)) (x:Int);have e0:px ((x::l).map fun(n:Nat)=>(n:Int))=(l.map fun(n:Nat)=>(n:Int)).foldl min (x:Int):=rfl;rw[e0];constructor
  .intro e;rw[e]at h3;rcases h3 with h3|h3
   .have:x=0:=by omega
    simp[this]
   .obtain⟨y,hy,e2⟩:=FN.1 h3;have:y=0:=by omega
    subst this;exact Em _ hy
  .intro e;have hn:0≤(l.map fun(n:Nat)=>(n:Int)).foldl min (x:Int):=by
    rcases h3 with h3|h3
    .omega
    .obtain⟨y,hy,e2⟩:=FN.1 h3;omega
   rcases Co.1 e with e|e
   .omega
   .have:=h2 0 (FN.2 ⟨0,e,rfl⟩);omega
theorem ADv(L:List Int)(h0:0<L.length)(hl:L.length≤1000000):BB (KL Tryz.prog cfg) 159 [.d (.be (L.map AJ))] []=.ok (.ret (.d (.int .i64 (px L))),[]):=by
 obtain⟨x,hx⟩:=get_some (l:=L) (i:=0) h0;have hm:AA (px L=(L.drop 1).foldl min x):=⟨by
  cases L with
  |nil=>cases hx
  |cons y l=>cases hx;rfl⟩
 have hd:AA ((L.drop 1).length=L.length-1):=⟨by simp⟩;have z1: ¬(L.length:Int)<1:=by omega
 have z2:(0:Int)<L.length:=by omega
 (refine Ae rfl Tryz.func159 rfl rfl rfl ?_;show Wp _ _ _ _ (Tryz.f159.body.get rfl) _ _;simp only[Tryz.f159,AS])
 refine aw ?_;refine Ah (L.drop 1) (S:=fun i (c:Int)=>⟨[(0,.d (.be (L.map AJ))),(3,.d (.int .i64 (c))),(4,.d (.int .i64 ((i:Int)+1)))],[],0,[]⟩) (Inv:=fun i rest c=>AA (px L=rest.foldl min c)) (b0:=x) hm ?_ ?_
 .rintro i y c hy hi him hI IH;have hd:=hd.out;have a1:(i:Int)+1<L.length:=by omega
  have a2:((i:Int)+1).toNat=i+1:=by omega
  have a4:0≤(i:Int)+1:=by omega
  have a3:IntKind.i64.wrap ((i:Int)+1+1)=(i:Int)+1+1:=wrap_id (by omega) (by omega);rw[HW,Nat.add_comm]at hy;clear hd hi him;refine aw ?_;rw[show(if y<c then y else c)=min c y by split<;>omega];exact IH.out (min c y) hI
 .rintro i c hi him hI;have hd:=hd.out;have a1: ¬(i:Int)+1<L.length:=by omega
  clear hd him;refine aw ?_;rw[hI.out];rfl
theorem Y4(l:List Int)(id:Abs.Id)(o n:Nat):Bf (.eq id o n) [(id,.d9 1 (l.map AJ))]=some (id,.d9 1 (l.map AJ)):=by
 rw[Gi,D0];simp[AJ,EU]
theorem tg(l:List Int)(h0:0<l.length)(hl:l.length≤1000000)(k:Nat)(ρ:List Nat):BB (KL Tryz.prog cfg) 160 [.d (.be (l.map AJ))] (k::ρ)=.ok (.ret (.eq (1::5::k::ρ) 0 l.length),[(1::5::k::ρ,.d9 1 (l.map AJ))]):=by
 have ap:=SF l l.length rfl h0 hl
 (refine Ae rfl Tryz.func160 rfl rfl rfl ?_;show Wp _ _ _ _ (Tryz.f160.body.get rfl) _ _;simp only[Tryz.f160,AS])
 exact au
def Jj:List Nat→List Int→List (List Int)
 |n::l,d::c=>((Jj l c).map fun t=>d::t)++(List.range' (d.toNat+1) (n-(d.toNat+1))).flatMap fun(i:Nat)=>(Br l).map fun t=>(i:Int)::t
 |_,_=>[[]]
def FZ(n:Nat):List Int:=List.replicate n 0
def J7:List Nat→List Int→Option (List Int)
 |n::l,d::c=>match J7 l c with
  |some t=>some (d::t)
  |none=>if d+1<n then some ((d+1)::FZ c.length)else none
 |_,_=>none
inductive IW:List Nat→List Int→Prop where
 |nil:IW [] []
 |cons {n:Nat} {l:List Nat} {d:Int} {c:List Int}:0≤d→d<n→IW l c→IW (n::l) (d::c)
variable{l:List Nat}{c:List Int}
theorem IW.len(h:IW l c):c.length=l.length:=by
 induction h with
 |nil=>rfl
 |cons _ _ _ ih=>simp[ih]
theorem L9: ∀{l:List Nat},0∉l→IW l (FZ l.length)
 |[],_=>.nil
 |n::l,h=>by
  simp only[Co,not_or]at h;exact .cons (by omega) (by omega) (L9 h.2)
theorem QY: ∀{l:List Nat},0∉l→Jj l (FZ l.length)=Br l
 |[],_=>rfl
 |n::l,h=>by
  simp only[Co,not_or]at h;have ih:=QY h.2;rw[List.length_cons,FZ,RW,Jj,Br];rw[FZ]at ih;rw[ih];obtain⟨m,rfl⟩: ∃m,n=m+1:=⟨n-1,by omega⟩;rw[List.range_eq_range',List.range'_succ,D5];simp
def bN(l:List Nat):Option (List Int)→List (List Int)
 |some c=>Jj l c
 |none=>[]
theorem rY(h:IW l c)(h0:0∉l):Jj l c=c::bN l (J7 l c)∧ ∀c',J7 l c=some c'→IW l c':=by
 induction h with
 |nil=>exact⟨rfl,fun c' h=>by cases h⟩
 | @cons n l d c hd0 hd1 hc ih=>
   simp only[Co,not_or]at h0;obtain⟨ih1,ih2⟩:=ih h0.2;cases hn:J7 l c with
   |some t=>
    rw[hn]at ih1;have e:J7 (n::l) (d::c)=some (d::t):=by rw[J7,hn]
    rw[e];refine⟨?_,fun c' h=>by cases h;exact .cons hd0 hd1 (ih2 t hn)⟩;simp only[Jj,bN,ih1];rfl
   |none=>
    rw[hn]at ih1;have e:J7 (n::l) (d::c)=if d+1<n then some ((d+1)::FZ c.length)else none:=by rw[J7,hn]
    rw[e];have hz:=L9 h0.2;rw[←hc.len]at hz;have hr:=QY h0.2;rw[←hc.len]at hr;by_cases hlt:d+1<n
    .rw[D0 hlt];refine⟨?_,fun c' h=>by cases h;exact .cons (by omega) hlt hz⟩;simp only[Jj,bN,ih1,hr];obtain⟨m,hm⟩: ∃m,n-(d.toNat+1)=m+1:=⟨n-(d.toNat+1)-1,by omega⟩;have e1:(d+1).toNat=d.toNat+1:=by omega
     rw[e1,hm,List.range'_succ,D5,show n-(d.toNat+1+1)=m by omega];simp;intro a _;omega
    .rw[CI hlt];refine⟨?_,fun c' h=>by cases h⟩;have:n-(d.toNat+1)=0:=by omega
     simp only[Jj,bN,ih1,this];rfl
theorem tz{l:List Nat}{c:List Int}(h:IW l c): ∀{j:Nat} {d:Int} {n:Nat},c[j]? =some d→l[j]? =some n→0≤d∧d<n:=by
 induction h with
 |nil=>intro j d n h1;simp at h1
 |cons h1 h2 _ ih=>
  intro j d n hd hn;cases j with
  |zero=>
   simp only[F0,CE]at hd hn;subst hd hn;exact⟨h1,h2⟩
  |succ j=>exact ih hd hn
def jD(l:List Nat)(c:List Int)(j:Nat):Prop:= ∀t,j≤t→t<l.length→ ∃(d:Int) (n:Nat),c[t]? =some d∧l[t]? =some n∧d=n-1
theorem Vh{l:List Nat}{c:List Int}(h:IW l c)(he:jD l c 0):J7 l c=none:=by
 induction h with
 |nil=>rfl
 | @cons n l d c hd0 hd1 hc ih=>
   have h1:=ih fun t _ ht=>by
    have:=he (t+1) (by omega) (by simp;omega);simpa using this
   obtain⟨d',n',e1,e2,e3⟩:=he 0 (by omega) (by simp);simp only[F0,CE]at e1 e2;subst e1 e2;rw[J7,h1];simp only;rw[CI (by omega)]
theorem qC{l:List Nat}{c:List Int}(h:IW l c): ∀{j:Nat} {d:Int} {n:Nat},jD l c (j+1)→c[j]? =some d→l[j]? =some n→ ¬d=n-1→J7 l c=some (c.take j++(d+1)::FZ (l.length-(j+1))):=by
 induction h with
 |nil=>intro j d n _ h1;simp at h1
 | @cons n0 l d0 c hd0 hd1 hc ih=>
   intro j d n he hd hn hne;have he': ∀k,k+1≥j+1→jD l c k:=fun k hk t h1 h2=>by
    have:=he (t+1) (by omega) (by simp;omega);simpa using this
   cases j with
   |zero=>
    simp only[F0,CE]at hd hn;subst hd hn;rw[J7,Vh hc (he' 0 (by omega))];simp only;rw[D0 (by omega)];simp[hc.len]
   |succ j=>
    simp only[F6]at hd hn;rw[J7,ih (he' (j+1) (by omega)) hd hn hne];simp
def ADr{α:Type}(C:Abs.Id→Prop)(I:List α→AD→Prop)(D:Ad→AD→Prop)(π ρ:List Nat)(l:List α)(H:AD)(o:Ad)(h':AD):Prop:=
 (o=.ret (.d (.bool (true)))∧I l h'∧ ∀i,¬C i→Id.under ρ i=false→h'.get i=H.get i)∨((o=.ret (.d (.bool (false)))∨ ∃v,o=.f9 v)∧D o h'∧ ∀j,Id.under π (0::j)=true→Id.under ρ (0::j)=false→h'.get (0::j)=H.get (0::j))
structure kE{α:Type}(val:AD→AV→α→Prop)(id:Abs.Id)(C:Abs.Id→Prop)(I:List α→AD→Prop)(D:Ad→AD→Prop)(π:List Nat):Prop where
 own:C id
 apart: ∀i,C i→Id.under π i=false
 loop: ∀{l:List α} {H:AD},I l H→ ∃r,H.get id=some (.loop r)
 eat: ∀{x:α} {l:List α} {H:AD} {ρ:List Nat} {v:AV} {r:Lp},I (x::l) H→H.get id=some (.loop r)→val H v x→(∀i,Id.under π i=false→Id.under ρ i=false)→(∀i∈AF v,¬C i∧Id.under ρ i=false∧Id.under π i=true)→
  ∃o h',KL Tryz.prog cfg (.round id r) [v] H ρ true none=.ok (o,h')∧ADr C I D π ρ l H o h'
 same: ∀{l:List α} {H H':AD},I l H→(∀i,Id.under π i=false→H'.get i=H.get i)→I l H'
 sameD: ∀{o:Ad} {H H':AD},D o H→(∀i,(Id.under π i=false∨ ∃l,i=1::l)→H'.get i=H.get i)→D o H'
def ADQ{α:Type}(C:Abs.Id→Prop)(I:List α→AD→Prop)(D:Ad→AD→Prop)(π:List Nat)(h:AD)(o:Ad)(h':AD):Prop:=
 (o=.ret (.ge [])∧I [] h'∧ ∀i,¬C i→Id.under π i=false→h'.get i=h.get i)∨(o=.ret (.ge [])∧D (.ret (.d (.bool (false)))) h')∨((∃v,o=.f9 v)∧D o h')
def X8(ρ:List Nat)(i:Abs.Id):Prop:= ∃j l,i=1::j::l∧Id.under ρ l=true
def Lq(π:List Nat)(b:Nat)(i:Abs.Id):Prop:= ∃n,n<b∧X8 (n::π) i
variable{ρ:List Nat}
theorem X8.up{i:Abs.Id}(h:X8 ρ i):Id.under ρ i=true:=by
 obtain⟨j,l,rfl,h⟩:=h;obtain⟨t,rfl⟩:=under_iff.1 h;exact under_iff.2 ⟨1::j::t,rfl⟩
theorem X8.out{i:Abs.Id}(h:X8 (n::π) i):X8 π i:=by
 obtain⟨j,l,rfl,h⟩:=h;exact⟨j,l,rfl,Bk h⟩
theorem X8.not{i:Abs.Id}(h:X8 (n::π) i)(a m:Nat):Id.is (a::m::π) i=false:=AE fun e=>by
 obtain⟨j,l,rfl,h⟩:=h;obtain⟨t,rfl⟩:=under_iff.1 h;have:=congrArg List.length e;simp at this;omega
theorem X8.sib{m:Nat}{i:Abs.Id}(h:X8 (n::π) i)(hm: ¬n=m):Id.under (m::π) i=false:=by
 cases hx:Id.under (m::π) i with
 |false=>rfl
 |true=>exact absurd (Bl h.up hx) hm
theorem Lq.up{i:Abs.Id}(h:Lq π b i):X8 π i:=by
 obtain⟨n,_,h⟩:=h;exact h.out
theorem Lq.not{i:Abs.Id}(h:Lq π b i)(a m:Nat):Id.is (a::m::π) i=false:=by
 obtain⟨n,_,h⟩:=h;exact h.not a m
theorem Lq.sib{m:Nat}{i:Abs.Id}(h:Lq π b i)(hm:b≤m):Id.under (m::π) i=false:=by
 obtain⟨n,h1,h⟩:=h;exact h.sib (by omega)
theorem Lq.mono{c:Nat}{i:Abs.Id}(h:Lq π b i)(hc:b≤c):Lq π c i:=by
 obtain⟨n,h1,h⟩:=h;exact⟨n,by omega,h⟩
def zb{α:Type}(C:Abs.Id→Prop)(I:List α→(Abs.Id→Prop)→AD→Prop)(D:Ad→AD→Prop)(π ρ:List Nat)(l:List α)(M:Abs.Id→Prop)(vi:List Abs.Id)(H:AD)(o:Ad)(h':AD):Prop:=
 (o=.ret (.d (.bool (true)))∧ ∃M',I l M' h'∧(∀i,M' i→M i∨i∈vi∨X8 ρ i)∧ ∀i,¬C i→ ¬M i→i∉vi→Id.under ρ i=false→h'.get i=H.get i)∨((o=.ret (.d (.bool (false)))∨ ∃v,o=.f9 v)∧D o h'∧ ∀j,Id.under π (0::j)=true→Id.under ρ (0::j)=false→h'.get (0::j)=H.get (0::j))
structure Ln{α:Type}(val:AD→AV→α→Prop)(id:Abs.Id)(C:Abs.Id→Prop)(I:List α→(Abs.Id→Prop)→AD→Prop)(D:Ad→AD→Prop)(π:List Nat):Prop where
 own:C id
 apart: ∀i,C i→Id.under π i=false
 tag: ∀{l:List α} {M:Abs.Id→Prop} {H:AD},I l M H→ ∀i,M i→ ∃l,i=1::l
 loop: ∀{l:List α} {M:Abs.Id→Prop} {H:AD},I l M H→ ∃r,H.get id=some (.loop r)
 eat: ∀{x:α} {l:List α} {M:Abs.Id→Prop} {H:AD} {ρ:List Nat} {v:AV} {r:Lp},I (x::l) M H→H.get id=some (.loop r)→val H v x→(∀i,Id.under π i=false→Id.under ρ i=false)→(∀i,M i→Id.under ρ i=false)→(∀i∈AF v,¬C i∧Id.under ρ i=false∧X8 π i)→
  ∃o h',KL Tryz.prog cfg (.round id r) [v] H ρ true none=.ok (o,h')∧zb C I D π ρ l M (AF v) H o h'
 same: ∀{l:List α} {M:Abs.Id→Prop} {H H':AD},I l M H→(∀i,(Id.under π i=false∨M i)→H'.get i=H.get i)→I l M H'
 sameD: ∀{o:Ad} {H H':AD},D o H→(∀i,(Id.under π i=false∨ ∃l,i=1::l)→H'.get i=H.get i)→D o H'
def WQ{α:Type}(C:Abs.Id→Prop)(I:List α→(Abs.Id→Prop)→AD→Prop)(D:Ad→AD→Prop)(π:List Nat)(M:Abs.Id→Prop)(h:AD)(o:Ad)(h':AD):Prop:=
 (o=.ret (.ge [])∧ ∃M',I [] M' h'∧(∀i,M' i→M i∨X8 π i)∧ ∀i,¬C i→ ¬M i→Id.under π i=false→h'.get i=h.get i)∨(o=.ret (.ge [])∧D (.ret (.d (.bool (false)))) h')∨((∃v,o=.f9 v)∧D o h')
variable{α:Type}{val:AD→AV→α→Prop}{C M:Abs.Id→Prop}{I:List α→(Abs.Id→Prop)→AD→Prop}{D:Ad→AD→Prop}{H:AD}
theorem Ln.gcI{id:Abs.Id}(hE:Ln val id C I D π){l:List α}(h:I l M H)(n:Nat):I l M (gc (n::π) H):=hE.same h fun i hi=>by
 rcases hi with hi|hi
 .exact AU _ _ _ (AG hi n)
 .obtain⟨l,rfl⟩:=hE.tag h i hi;exact EY _ _ _
variable{o:Ad}
theorem Ln.gcD{id:Abs.Id}(hE:Ln val id C I D π)(h:D o H)(n:Nat):D o (gc (n::π) H):=hE.sameD h fun i hi=>by
 rcases hi with hi|⟨l,rfl⟩
 .exact AU _ _ _ (AG hi n)
 .exact EY _ _ _
theorem kE.toM{id:Abs.Id}{I:List α→AD→Prop}(hE:kE val id C I D π):Ln val id C (fun l M H=>(∀i,¬M i)∧I l H) D π:=
 ⟨hE.own,hE.apart,fun h i hi=>(h.1 i hi).elim,fun h=>hE.loop h.2,fun h1 h2 h3 h4 _ h6=>by
  obtain⟨o,h',k1,k2⟩:=hE.eat h1.2 h2 h3 h4 fun i hi=>⟨(h6 i hi).1,(h6 i hi).2.1,(h6 i hi).2.2.up⟩;refine⟨o,h',k1,?_⟩;rcases k2 with⟨q1,q2,q3⟩|q
  .exact .inl ⟨q1,_,⟨h1.1,q2⟩,fun i hi=>(h1.1 i hi).elim,fun i a _ _ b=>q3 i a b⟩
  .exact .inr q,fun h1 h2=>⟨h1.1,hE.same h1.2 fun i hi=>h2 i (.inl hi)⟩,hE.sameD⟩
theorem WQ.toE{I:List α→AD→Prop}{h':AD}(hM: ∀i,¬M i)(H:WQ C (fun l M H=>(∀i,¬M i)∧I l H) D π M h o h'):ADQ C I D π h o h':=by
 rcases H with⟨q1,M',q2,_,q3⟩|q
 .exact .inl ⟨q1,q2.2,fun i a b=>q3 i a (hM i) b⟩
 .exact .inr q
def jF(H:AD)(v:AV)(x:List Int):Prop:= ∃id,v=.eq id 0 x.length∧H.get id=some (.d9 1 (x.map AJ))∧ ∃l,id=1::l
structure AHT(C:Abs.Id→Prop)(I:List (List Int)→(Abs.Id→Prop)→AD→Prop)(π:List Nat)(M:Abs.Id→Prop)(h:AD)(A:Abs.Id)(many:List Nat)(c:List Int)(L:List (List Int))(a:List Int)(b:Nat)(g:AD):Prop where
 arr:g.get A=some (.d9 1 (a.map AJ))
 dig:IW many c
 eat: ∃M',I L M' g∧ ∀i,M' i→M i∨Lq π b i
 frame: ∀i,¬C i→ ¬M i→Id.under π i=false→g.get i=h.get i
theorem yl{z:List Int}{j:Nat}(hj:j<c.length)(x:Int):(c.take (j+1)++z).set j x=c.take j++x::z:=by
 obtain⟨d,hd⟩:=get_some hj;have hl:(c.take j).length=j:=by rw[Hw];omega
 rw[GC,hd,D9,List.set_append,CI (by omega),hl,MP];rfl
theorem cm{many:List Nat}(h0:0<many.length)(hl:many.length≤1000)(hm: ∀n∈many,n≤1000000){id:Abs.Id}{C:Abs.Id→Prop}{I:List (List Int)→(Abs.Id→Prop)→AD→Prop}{D:Ad→AD→Prop}{π:List Nat}(hE:Ln jF id C I D π){M:Abs.Id→Prop}{h:AD}{B:Abs.Id}(hB:h.get B=some (.box [.d (.be ((many.map fun(n:Nat)=>(n:Int)).map AJ))]))(uB:Id.under π B=false)(nB: ¬C B)(mB: ¬M B)(hM: ∀i,M i→Id.under π i=false)(hI:I (Br many) M h):
 ∃o h',KL Tryz.prog cfg (.fn 158) [.wn id,.ptr B 0] h π true none=.ok (o,h')∧WQ C I D π M h o h':=by
 have uC:=hE.apart;have e1:=AH uB;have e2:=Ak uB;have hmk:=ADv (many.map fun(n:Nat)=>(n:Int)) (by simpa using h0) (by simp;omega);by_cases hz:0∈many
 .rw[(Zw h0).2 hz]at hmk;rw[RA hz]at hI
  (refine Aj rfl Tryz.func158 rfl rfl rfl ?_;show Wp _ _ _ _ (Tryz.f158.body.get rfl) _ _;simp only[Tryz.f158,AS])
  refine aw ?_;exact .inl ⟨rfl,M,hI,fun i hi=>.inl hi,fun _ _ _ _=>rfl⟩
 .have hmz: ¬px (many.map fun(n:Nat)=>(n:Int))=0:=fun e=>hz ((Zw h0).1 e);replace hI:=AA.mk hI;replace hE:=AA.mk hE;replace uC:=AA.mk uC;replace hm:=AA.mk hm;replace hM:=AA.mk hM;replace mB:=AA.mk mB
  (refine Aj rfl Tryz.func158 rfl rfl rfl ?_;show Wp _ _ _ _ (Tryz.f158.body.get rfl) _ _;simp only[Tryz.f158,AS])
  have hcl:=fun(l:List Int) (hl:l.length=many.length)=>tg l (by omega) (by omega);replace hcl:=AA.mk hcl
  (repeat' (first|simp only[go_sem, *]|(refine sx ?_ ?_<;>intro hc)|refine sy (by omega) fun x hx hm=>?_|simp(disch:=first|assumption|omega) only[AK,Eb]))
  refine rounds (S:=fun(a:(List Int×AD)×Nat)=>⟨[(0,.wn id),(1,.ptr B 0),(3,.eq (1::5::π) 0 many.length)],a.1.2,a.2+7,[]⟩)
   (Inv:=fun a=>AA (AHT C I π M h (1::5::π) many a.1.1 (Jj many a.1.1) a.1.1 (a.2+7) a.1.2)) (m:=fun a=>(Jj many a.1.1).length) (a:=((FZ many.length,_),0)) ⟨?_⟩ ?_
  .refine⟨?_,L9 hz,⟨M,?_,fun i hi=>.inl hi⟩,fun i q1 _ q2=>?_⟩
   .show(h.put (1::5::π) _).get (1::5::π)=_;rw[get_put,is_self];rfl
   .rw[QY hz];exact hE.out.same hI.out fun i hi=>by rw[get_put,AH (hi.elim (fun h=>h) (hM.out i)) 1 5];rfl
   .show(h.put (1::5::π) _).get i=_;rw[get_put,AH q2 1 5];rfl
  .rintro⟨⟨c,g⟩,b⟩ hI2 IH;dsimp only at*;have gA:=hI2.out.arr;have hcl:=hcl.out c (hI2.out.dig.len);have hcl0:=hI2.out.dig.len;have gB:g.get B=_:=(hI2.out.frame B nB mB.out uB).trans hB;obtain⟨M1,hI1,hM1⟩:=hI2.out.eat;have n1: ∀i,¬M i→Id.under π i=false→ ¬M1 i:=fun i q1 q2 q3=>by
    rcases hM1 i q3 with q|q
    .exact q1 q
    .rw[q.up.up]at q2;cases q2
   have nX: ∀m,b+7≤m→ ∀i,M1 i→Id.under (m::π) i=false:=fun m h i hi=>(hM1 i hi).elim (fun q=>AG (hM.out i q) m) fun q=>q.sib h;have nA: ∀i,M1 i→Id.is (1::5::π) i=false:=fun i hi=>(hM1 i hi).elim (fun q=>AH (hM.out i q) 1 5) fun q=>q.not 1 5;have fa:=Y4 c;have tk:List.take many.length (c.map AJ)=c.map AJ:=CS (by simp;omega);have ui:=uC.out id hE.out.own;have i1:=AH ui;have i2:Id.is (1::5::(b+9)::π) id=false:=AH (AG ui (b+9)) 1 5;obtain⟨r,hr⟩:=hE.out.loop hI1;obtain⟨rest,hrest⟩: ∃t,t=bN many (J7 many c):=⟨_,rfl⟩;obtain⟨rn1,rn2⟩:=rY hI2.out.dig hz;rw[←hrest]at rn1;have hsm:=AA.mk fun l=>hE.out.same (l:=l) (M:=M1) (H:=g) (H':=(1::5::(b+9)::π,.d9 1 (c.map AJ))::g);have hi3:=hI1;rw[rn1]at hi3;replace hi3:=AA.mk hi3;replace hI1:=AA.mk hI1;replace hM1:=AA.mk hM1;replace n1:=AA.mk n1;replace nX:=AA.mk nX;replace nA:=AA.mk nA;replace rn1:=AA.mk rn1;replace rn2:=AA.mk rn2;replace hrest:=AA.mk hrest;refine ax ?_;refine AZ (hE.out.eat (x:=c) (l:=rest) (hsm.out _ hi3.out fun i hi=>?_) (by simp only[go_sem,i2,hr,AM]) ⟨_,by rw[hcl0],by simp only[go_sem],_,rfl⟩ (fun i hi=>AG hi _) (nX.out _ (by omega)) (fun i hi=>?_)) (fun o1 g1 p1=>?_)
   .have q:=AH (hi.elim (fun h=>AG h (b+9)) (nX.out _ (by omega) i)) 1 5;simp only[go_sem,q,AM]
   .simp only[AF,As]at hi;subst hi;exact⟨fun hc=>(by have:=uC.out _ hc;rw[show Id.under π (1::5::(b+9)::π)=true from Ay [1,5,b+9]]at this;cases this),Jo _ _ _ _ _ (by omega),5,(b+9)::π,rfl,Ay [b+9]⟩
   rcases p1 with⟨rfl,M2,p1,m2,p2⟩|⟨p0,p1,_⟩
   .have m3: ∀i,M2 i→M i∨Lq π (b+11) i:=fun i hi=>by
     rcases m2 i hi with q|q|q
     .exact(hM1.out i q).imp_right fun q=>q.mono (by omega)
     .simp only[AF,As]at q;subst q;exact .inr ⟨b+9,by omega,5,_,rfl,Ay []⟩
     .exact .inr ⟨b+10,by omega,q⟩
    have nA2: ∀i,M2 i→Id.is (1::5::π) i=false:=fun i hi=>(m3 i hi).elim (fun q=>AH (hM.out i q) 1 5) fun q=>q.not 1 5;have mA: ¬M1 (1::5::π):=fun h=>by have:=nA.out _ h;rw[is_self]at this;cases this
    have mB1:=n1.out B mB.out uB;have fr: ∀i,¬C i→ ¬M1 i→Id.under ((b+10)::π) i=false→Id.is (1::5::(b+9)::π) i=false→(gc ((b+10)::π) g1).get i=g.get i:=fun i q1 q0 q2 q3=>by
     rw[AU _ _ _ q2,p2 i q1 q0 (fun h=>by simp only[AF,As]at h;rw[h,is_self]at q3;cases q3) q2,Bo,q3];rfl
    have gB2:=(fr B nB mB1 (AG uB _) (AH (AG uB (b+9)) 1 5)).trans gB;have gA2:=(fr (1::5::π) (fun hc=>by have:=uC.out _ hc;rw[show Id.under π (1::5::π)=true from Ay [1,5]]at this;cases this) mA (Hc _ _ _ _ (by omega)) (AE (by simp))).trans gA;have frm:AA (∀i,¬C i→ ¬M i→Id.under π i=false→(gc ((b+10)::π) g1).get i=h.get i):=⟨fun i q1 q0 q2=>(fr i q1 (n1.out i q0 q2) (AG q2 _) (AH (AG q2 (b+9)) 1 5)).trans (hI2.out.frame i q1 q0 q2)⟩;clear p2 fr m2 mA mB1;replace m3:=AA.mk m3;replace nA2:=AA.mk nA2;replace p1:=AA.mk (hE.out.gcI p1 (b+10));refine ax ?_;have hdg:=AA.mk hI2.out.dig;replace hI2:=AA.mk hI2;refine rounds (S:=fun(a:(Nat×AD)×Nat)=>⟨[(0,.wn id),(1,.ptr B 0),(3,.eq (1::5::π) 0 many.length),(4,.d (.int .i64 ((a.1.1:Int)-1)))],a.1.2,b+a.2+16,[]⟩)
     (Inv:=fun a=>a.1.1≤many.length∧AA (jD many c a.1.1)∧a.1.2.get (1::5::π)=some (.d9 1 ((c.take a.1.1++FZ (many.length-a.1.1)).map AJ))∧a.1.2.get B=some (.box [.d (.be ((many.map fun(n:Nat)=>(n:Int)).map AJ))])∧AA (I rest M2 a.1.2∧ ∀i,¬C i→ ¬M i→Id.under π i=false→a.1.2.get i=h.get i)) (m:=fun a=>a.1.1) (a:=((many.length,_),0)) ⟨EX _,⟨fun t h1 h2=>absurd h2 (Nat.not_lt.2 h1)⟩,?_,gB2,⟨p1.out,frm.out⟩⟩ ?_
    .show(gc ((b+10)::π) g1).get (1::5::π)=some (.d9 1 ((c.take many.length++FZ (many.length-many.length)).map AJ));rw[gA2,MP,FZ,List.replicate_zero,D6,CS (by omega)]
    clear gA2 gB2 p1 frm gA gB hr hcl;rintro⟨⟨j,g2⟩,b2⟩ ⟨hj,hend,gA,gB,hI3⟩ IH2;dsimp only at*;rcases j with _|j
    .have hr0:AA (rest=[]):=⟨by rw[hrest.out,Vh hdg.out hend.out];rfl⟩;refine ax ?_;all_goals first
     |omega
     |exact .inl ⟨rfl,M2,by have:=hI3.out.1;rwa [hr0.out]at this,fun i hi=>(m3.out i hi).imp_right fun q=>q.up,hI3.out.2⟩
    .obtain⟨d,hd⟩:=get_some (l:=c) (i:=j) (by omega);obtain⟨n,hn⟩:=get_some (l:=many) (i:=j) (by omega);obtain⟨a,ha⟩: ∃a,a=c.take (j+1)++FZ (many.length-(j+1)):=⟨_,rfl⟩;have al:a.length=many.length:=by rw[ha,Bi,Hw,FZ,I0];omega
     have ad:a[j]? =some d:=by rw[ha,Be (by rw[Hw];omega),It,D0 (by omega),hd]
     rw[←ha]at gA;have ek:(((j+1:Nat):Int)-1)=j:=by omega
     have hmn:(many.map fun(n:Nat)=>(n:Int))[j]? =some (n:Int):=by rw[D2,hn];rfl
     have hnm:=hm.out n (Ac hn);have w1:IntKind.i64.wrap ((n:Int)-1)=(n:Int)-1:=wrap_id (by omega) (by omega);have jl:j<many.length:=by omega
     have j0: ¬(j:Int)<0:=by omega
     replace ha:=AA.mk ha;rw[ek];have put: ∀o,AA (I rest M2 (g2.put (1::5::π) o)∧(g2.put (1::5::π) o).get B=some (.box [.d (.be ((many.map fun(n:Nat)=>(n:Int)).map AJ))])∧ ∀i,¬C i→ ¬M i→Id.under π i=false→(g2.put (1::5::π) o).get i=h.get i):=fun o=>⟨hE.out.same hI3.out.1 (fun i hi=>by rw[get_put,hi.elim (fun h=>AH h 1 5) (nA2.out i)];rfl),by rw[get_put,e1];exact gB,fun i q1 q0 q2=>by rw[get_put,AH q2 1 5];exact hI3.out.2 i q1 q0 q2⟩;have hdg0:=hdg.out;by_cases hdn:d=(n:Int)-1
     .have hset: ∀x:Int,(a.map AJ).set j [.int .i64 x]=(c.take j++x::FZ (many.length-(j+1))).map AJ:=fun x=>by
       rw[←yl (by omega),←ha.out,Jp];rfl
      replace hset:=AA.mk hset;replace put:=AA.mk put;replace hdg0:=AA.mk hdg0;refine ax ?_;rw[hset.out];refine IH2.out ((j,_),b2+21) (by simp) ⟨by dsimp only;omega,⟨fun t h1 h2=>?_⟩,?_,(put.out _).out.2.1,⟨(put.out _).out.1,(put.out _).out.2.2⟩⟩
      .by_cases htj:t=j
       .subst htj;exact⟨d,n,hd,hn,hdn⟩
       .exact hend.out t (by dsimp only at h1;omega) h2
      .show(g2.put (1::5::π) _).get (1::5::π)=some (.d9 1 ((c.take j++FZ (many.length-j)).map AJ));rw[get_put,is_self,show many.length-j=(many.length-(j+1))+1 by omega];rfl
     .have hns:=qC hdg0 hend.out hd hn hdn;have hset: ∀x:Int,(a.map AJ).set j [.int .i64 x]=(c.take j++x::FZ (many.length-(j+1))).map AJ:=fun x=>by
       rw[←yl (by omega),←ha.out,Jp];rfl
      have w2:IntKind.i64.wrap (d+1)=d+1:=by
       have:=tz hdg0 hd hn;exact wrap_id (by omega) (by omega)
      obtain⟨c',hc'⟩: ∃t,t=c.take j++(d+1)::FZ (many.length-(j+1)):=⟨_,rfl⟩;rw[←hc']at hns;have hre:AA (rest=Jj many c'):=⟨by rw[hrest.out,hns];rfl⟩;have hdc:=AA.mk (rn2.out c' hns);replace hset:=AA.mk hset;replace put:=AA.mk put;replace hdg0:=AA.mk hdg0;replace hns:=AA.mk hns;replace hc':=AA.mk hc';refine ax ?_;rw[hset.out,←hc'.out];refine IH.out ((c',_),b+b2+32) ?_ ⟨?_,hdc.out,⟨M2,by rw[←hre.out];exact(put.out _).out.1,fun i hi=>(m3.out i hi).imp_right fun q=>q.mono (by dsimp only;omega)⟩,(put.out _).out.2.2⟩
      .dsimp only;rw[rn1.out,←hre.out];simp
      .dsimp only;rw[get_put,is_self];rfl
   .replace p1:=AA.mk (hE.out.gcD p1 (b+10));rcases p0 with rfl|⟨v,rfl⟩
    .refine ax ?_;exact .inr (.inl ⟨rfl,p1.out⟩)
    .refine ax ?_;exact .inr (.inr ⟨⟨v,rfl⟩,p1.out⟩)
theorem vW{p:AL}(hM:Dw p sz h m V st)(hu:Ca ρ V m)(hs:FH p sz st.em){w:Fq}{x:C0}(hw:Pz p sz st.em w x):
 ∃o h',KL Tryz.prog cfg (.fn 93) [.ptr m 0,.agg [.d (.int .i64 (w.at_)),.d (.int .i64 (w.node)),.d (.be (w.env.map AN))]] h ρ true (some ρ)=.ok (o,h')∧o=.ret (.d (.bool (lc p st.em w))):=by
 have hm:=hM.box;simp only[Au]at hm;have um:=hu m (V.m_mem m);have e1:=AH um;have e2:=Ak um;have hx:=hw.node;have hn:=hw.n0;have hxl:=AI hx;rw[jc hx];by_cases ho:x.op=7
 ·(refine Aj rfl Tryz.func93 rfl rfl rfl ?_;show Wp _ _ _ _ (Tryz.f93.body.get rfl) _ _;simp only[Tryz.f93,AS])
  exact au
 obtain⟨v,hv,hvn,hk⟩:=hw.val ho;have⟨n0,n1⟩:=hw.n ho;rw[hvn];by_cases h4:v.kind=4
 .obtain⟨hr,y,hy,hyd⟩:=hk h4;obtain⟨r0,r1⟩:=hr;have hss:=hs.small;simp only[BF.small,AP,Ap]at hss;obtain⟨w0,w1⟩:=hw.at_;have hin:=WK st.em.ac v.n w.at_ (by omega) hs.tree ⟨r0,r1⟩ w0
  obtain⟨S,xs,hS,gS,xS,lS,lS2⟩:=Jl (hM.sl 0 (by omega)) hy;have uS:=hu S (V.s_mem m (i:=0) (by omega) (by rw[hS];simp[AF]));have a3:=AH uS;have a4:=Ak uS;rw[hS]at hm;simp only[Gg]at gS;replace hM:=AA.mk hM;replace hu:=AA.mk hu;by_cases ho8:x.op=8;all_goals
   rw[hyd];clear hk
   (refine Aj rfl Tryz.func93 rfl rfl rfl ?_;show Wp _ _ _ _ (Tryz.f93.body.get rfl) _ _;simp only[Tryz.f93,AS])
   (repeat' (first|simp only[go_sem, *,AM]|(refine sx ?_ ?_<;>intro hc)|refine sy (by omega) fun x hx hm=>?_|simp(disch:=first|assumption|omega) only[AK]))
   all_goals first|done|simp[*]
 .clear hk
  (refine Aj rfl Tryz.func93 rfl rfl rfl ?_;show Wp _ _ _ _ (Tryz.f93.body.get rfl) _ _;simp only[Tryz.f93,AS])
  exact au
end Go.Proofs
namespace Go.Abs
def Qk(ds:List Df):Prop:= ∀d∈ds,∃id,d=.mark id
theorem VZ:Qk []=True:=by simp[Qk]
theorem S8(id:Id)(ds:List Df):Qk (.mark id::ds)=Qk ds:=by simp[Qk]
theorem Q1{C:Cj}{ce:Option (List Nat)}{p:Option AV}{h:AD}: ∀{ds:List Df},Qk ds→DD C ce ds p h=.ok (p,h)
 |[],_=>rfl
 |d::ds,hd=>by
  obtain⟨id,rfl⟩:=hd d (by simp);rw[S0];exact Q1 fun d hd2=>hd d (by simp[hd2])
attribute [go_sem] VZ S8 Q1
theorem lH(id:Id):(AV.wn id).cells=[.wn id]:=rfl
theorem tZ(id:Id):AV.isCell (.wn id)=true:=rfl
attribute [go_sem] lH tZ
end Go.Abs
namespace Go.Proofs
open Go Go.Abs
set_option maxRecDepth 100000
set_option maxHeartbeats 4000000
def Uk(H:AD)(v:AV)(x:Cc):Prop:= ∃pv,v=.agg [.d (.int .i64 (x.wait)),.d (.int .i64 (x.group)),.d (.int .i64 (x.i9)),pv]∧((pv=.co∧x.it=[])∨jF H pv x.it)
def Nt(π:List Nat)(i:Abs.Id):Prop:= ∀a n,Id.is (a::n::π) i=false
def Fd{α:Type}(I:List α→(Abs.Id→Prop)→AD→Prop)(π:List Nat)(M:Abs.Id→Prop)(b:Nat)(L:List α)(g:AD):Prop:= ∃M',I L M' g∧ ∀i,M' i→M i∨Lq π b i
section
variable{α:Type}{val:AD→AV→α→Prop}{id:Abs.Id}{C M M':Abs.Id→Prop}{I:List α→(Abs.Id→Prop)→AD→Prop}{D:Ad→AD→Prop}{π:List Nat}{b b':Nat}{L:List α}{g G:AD}
theorem X8.wide{ρ:List Nat}{i:Abs.Id}(hρ: ∀i,Id.under π i=false→Id.under ρ i=false)(h:X8 ρ i):X8 π i:=by
 obtain⟨j,l,rfl,h⟩:=h;refine⟨j,l,rfl,?_⟩;cases hx:Id.under π l with
 |true=>rfl
 |false=>rw[hρ l hx]at h;cases h
theorem Xa(hM: ∀i,M i→Id.under π i=false)(h: ∀i,M' i→M i∨Lq π b i)(i:Abs.Id)(hi:Id.under π i=false∨M' i):Nt π i:=by
 rcases hi with hi|hi
 .exact AH hi
 .rcases h i hi with q|q
  .exact AH (hM i q)
  .exact q.not
theorem xr(h: ∀i,M' i→M i∨Lq π b i)(i:Abs.Id)(q0: ¬M i)(q2:Id.under π i=false): ¬M' i:=fun q3=>by
 rcases h i q3 with q|q
 .exact q0 q
 .rw[q.up.up]at q2;cases q2
theorem Uo(hM: ∀i,M i→Id.under π i=false)(h: ∀i,M' i→M i∨Lq π b i){m:Nat}(hm:b≤m)(i:Abs.Id)(hi:M' i):Id.under (m::π) i=false:=(h i hi).elim (fun q=>AG (hM i q) m) fun q=>q.sib hm
theorem Fd.mv(hE:Ln val id C I D π)(hM: ∀i,M i→Id.under π i=false)(h:Fd I π M b L g)(hl: ∀i,Nt π i→G.get i=g.get i)(hb:b≤b'):Fd I π M b' L G:=by
 obtain⟨M',h1,h2⟩:=h;exact⟨M',hE.same h1 fun i hi=>hl i (Xa hM h2 i hi),fun i hi=>(h2 i hi).imp_right fun q=>q.mono hb⟩
theorem Fd.gc(hE:Ln val id C I D π)(h:Fd I π M b L g)(n:Nat):Fd I π M b L (gc (n::π) g):=by
 obtain⟨M',h1,h2⟩:=h;exact⟨M',hE.gcI h1 n,h2⟩
end
structure StepsIn(C M:Abs.Id→Prop)(π:List Nat)(h:AD)(id:Abs.Id)(E:AD→Prop)(g:AD):Prop where
 box:g.get (0::0::π)=some (.box [.wn id])
 eat:E g
 frame: ∀i,¬C i→ ¬M i→Id.under π i=false→g.get i=h.get i
structure Wa(C M:Abs.Id→Prop)(π:List Nat)(h:AD)(id:Abs.Id)(b c:Nat)(i k:Int)(gr:Al)(E:AD→Prop)(g:AD):Prop where
 st:StepsIn C M π h id E g
 x6:g.get (0::(b+20)::π)=some (.box [.d (.int .i64 (i))])
 x7:g.get (0::(b+21)::π)=some (.box [.d (.int .i64 (gr.f8)),.d (.int .i64 (gr.at_)),.d (.be (gr.env.map AN))])
 x8:g.get (0::(c+40)::π)=some (.box [.d (.int .i64 (k))])
variable{C M:Abs.Id→Prop}{D:Ad→AD→Prop}{π:List Nat}{h H:AD}{b c:Nat}{gr:Al}
theorem Wa.loc{I:List Cc→(Abs.Id→Prop)→AD→Prop}{id:Abs.Id}(hE:Ln Uk id C I D π)(hM: ∀i,M i→Id.under π i=false){B:Nat}{i k:Int}{L:List Cc}{g:AD}(hJ:Wa C M π h id b c i k gr (Fd I π M B L) g)(hl: ∀x,(∀n,Id.is (1::n::π) x=false)→H.get x=g.get x):Wa C M π h id b c i k gr (Fd I π M B L) H:=by
 have h0: ∀l,H.get (0::l)=g.get (0::l):=fun l=>hl _ fun n=>AE (by simp);exact⟨⟨(h0 _).trans hJ.st.box,hJ.st.eat.mv hE hM (fun i hi=>hl i fun n=>hi 1 n) (EX _),fun i q1 q0 q2=>(hl i fun n=>AH q2 1 n).trans (hJ.st.frame i q1 q0 q2)⟩,(h0 _).trans hJ.x6,(h0 _).trans hJ.x7,(h0 _).trans hJ.x8⟩
theorem Wa.mv{id:Abs.Id}{i k:Int}{E E':AD→Prop}{g:AD}(hJ:Wa C M π h id b c i k gr E g)(hI:E' H)(hb: ∀n,n=0∨n=b+20∨n=b+21∨n=c+40→H.get (0::n::π)=g.get (0::n::π))(hf: ∀i,¬C i→ ¬M i→Id.under π i=false→H.get i=g.get i):Wa C M π h id b c i k gr E' H:=
 ⟨⟨(hb _ (by simp)).trans hJ.st.box,hI,fun i q1 q0 q2=>(hf i q1 q0 q2).trans (hJ.st.frame i q1 q0 q2)⟩,(hb _ (by simp)).trans hJ.x6,(hb _ (by simp)).trans hJ.x7,(hb _ (by simp)).trans hJ.x8⟩
theorem pZ{K:AO}{ce:Option (List Nat)}{ρ ρ2:List Nat}{id2:Abs.Id}{e:Bn}{bs:Nat}{ds:List Df}{Q:Ds→St→Prop}{t:Tgt}{args:List AV}{x:Abs.Id×Abs.Obj}{r:Lp}(hn: ∀r',r'=r→HY ρ ρ2 id2 e bs ds Q (K t args (x::H.put id2 (.loop r')) ρ2 true ce)):HY ρ ρ2 id2 e bs ds Q (K t args (x::H.put id2 (.loop r)) ρ2 true ce):=hn r rfl
theorem Yf(L:List Int)(k:Nat)(ρ:List Nat):BB (KL Tryz.prog cfg) 96 [.d (.be (L.map AJ))] (k::ρ)=.ok (.ret (.fn 158 [] [.ptr (0::0::k::ρ) 0]),[(0::0::k::ρ,.box [.d (.be (L.map AJ))])]):=by
 (refine Ae rfl Tryz.func96 rfl rfl rfl ?_;show Wp _ _ _ _ (Tryz.f96.body.get rfl) _ _;simp only[Tryz.f96,AS])
 exact au
theorem r7{p:AL}{sz:List Int}(hF:BK p sz){h:AD}{π:List Nat}{m:Abs.Id}{V:MV}{st:Ck}(hM:Dw p sz h m V st)(hu:Ca π V m)(hs:FH p sz st.em){id:Abs.Id}{C:Abs.Id→Prop}{I:List Cc→(Abs.Id→Prop)→AD→Prop}{D:Ad→AD→Prop}(hE:Ln Uk id C I D π)(hCV: ∀i∈V.ids m,¬C i){M:Abs.Id→Prop}(hMV: ∀i∈V.ids m,¬M i)(hMu: ∀i,M i→Id.under π i=false)(hI:I (BZ p st.em) M h):
 ∃o h',KL Tryz.prog cfg (.fn 52) [.ptr m 0,.wn id] h π true none=.ok (o,h')∧WQ C I D π M h o h':=by
 have uC:=hE.apart;have hm:=hM.box;simp only[Au]at hm;have um:=hu m (V.m_mem m);have e1:=AH um;have e2:=Ak um;have hss:=hs.small;simp only[BF.small,AP,Ap]at hss;obtain⟨s1,s2,s3,s4⟩:=hss;have hl2:=Hp (hM.sl 2 (by omega));simp only[A7,BI]at hl2;have uid:=uC id hE.own;have i1:=AH uid;replace hM:=AA.mk hM;replace hu:=AA.mk hu;replace hE:=AA.mk hE;replace hCV:=AA.mk hCV;replace hMV:=AA.mk hMV;replace hMu:=AA.mk hMu;replace uC:=AA.mk uC;replace hs:=AA.mk hs
 (refine Aj rfl Tryz.func52 rfl rfl rfl ?_;show Wp _ _ _ _ (Tryz.f52.body.get rfl) _ _;simp only[Tryz.f52,AS])
 (repeat' (first|simp only[go_sem, *,↓hl2,AM]|(refine sx ?_ ?_<;>intro hc)|refine sy (by omega) fun x hx hm=>?_|simp(disch:=first|assumption|omega) only[AK]))
 have hW:AA (BZ p st.em=CH p st.em 0 st.em.waits++Cd p st.em 0 st.em.bv):=⟨rfl⟩;obtain⟨G,hG⟩: ∃G,G=Cd p st.em 0 st.em.bv:=⟨_,rfl⟩;rw[←hG]at hW;rw[hW.out]at hI;replace hI:=AA.mk hI;refine AX st.em.waits _ (S:=fun m' i (a:AD×Nat)=>⟨[(0,.ptr m 0),(3,.ptr (0::0::π) 0),(13,Bn.get [] 13),(18,V.s 2),(19,.d (.int .i64 (m'))),(20,.d (.int .i64 (i))),(102,Bn.get [] 102),(103,Bn.get [] 103),(104,Bn.get [] 104),(105,Bn.get [] 105),(106,Bn.get [] 106),(107,Bn.get [] 107),(108,Bn.get [] 108),(109,Bn.get [] 109)],a.1,a.2+8,[]⟩)
  (Inv:=fun i rest a=>AA (StepsIn C M π h id (Fd I π M (a.2+8) (CH p st.em i rest++G)) a.1)) (b0:=(_,0)) rfl ⟨⟨?_,⟨M,hE.out.same hI.out fun i hi=>?_,fun i hi=>.inl hi⟩,fun i q1 _ q2=>?_⟩⟩ ?_ ?_
 .simp only[go_sem]
 .have q:=AH (hi.elim (fun h=>h) (hMu.out i));simp only[go_sem,q,AM]
 .have q:=AH q2;simp only[go_sem,q,AM]
 .rintro i w ⟨g,b⟩ hy hi him hI2 IH;dsimp only at*;obtain⟨x,hw⟩:=NY hF (hs.out.wait w (Ac hy));have hM2:=Ba hM.out (h':=g) fun i hi=>hI2.out.frame i (hCV.out i hi) (hMV.out i hi) (hu.out i hi);obtain⟨W,xs,hWs,gW,xW,lW,lW2⟩:=Jl (hM2.sl 2 (by omega)) hy;have uW:=hu.out W (V.s_mem m (i:=2) (by omega) (by rw[hWs];simp[AF]));have a3:=AH uW;have a4:=Ak uW;have gB:=hI2.out.box;simp only[Gg]at gW;rw[hWs]at IH⊢;replace hM2:=AA.mk hM2;replace hWs:=AA.mk hWs;have hx2:=AA.mk hw;clear hw;have hgo:=AA.mk fun H hH=>vW (Eo hM2.out hu.out (h':=H) hH) (hu.out.ext (b+17)) hs.out hx2.out;have box0:=AA.mk hI2.out.box;obtain⟨M1,hIe,hM1⟩:=hI2.out.eat;have nt1:=AA.mk (Xa hMu.out hM1);have n1:=AA.mk (xr hM1);have nX:=AA.mk fun(m:Nat) (hm:b+8≤m)=>Uo hMu.out hM1 hm;have nz: ∀l,¬M1 (0::l):=fun l hl=>by obtain⟨l2,h2⟩:=hE.out.tag hIe _ hl;cases h2
  replace nz:=AA.mk nz;replace hM1:=AA.mk hM1;rw[CH]at hIe;obtain⟨rest,hrest⟩: ∃t,t=CH p st.em (i+1) (st.em.waits.drop (i+1))++G:=⟨_,rfl⟩;have hI2f:=AA.mk hI2.out.frame;obtain⟨r,hr⟩:=hE.out.loop hIe;rw[D9,←hrest]at hIe;replace hIe:=AA.mk hIe;replace hrest:=AA.mk hrest;have i2:=EZ uid;refine ax ?_;refine DQ (hgo.out _ fun i hi=>?_) (fun o1 g1 p1=>?_)
  .have q:=AH hi;simp only[go_sem,q,AM]
  subst p1;replace hI2:=AA.mk hI2;clear hgo;have same: ∀o o':Abs.Obj,∀i,Nt π i→((g.put (0::(b+12)::π) o).put (0::(b+12)::π) o').get i=g.get i:=fun o o' i hi=>by
   rw[get_put,get_put,hi];rfl
  replace same:=AA.mk same;cases hg:lc p st.em w with
  |true=>
   rw[hg]at hIe;replace hg:=AA.mk hg;refine ax ?_;refine AZ (hE.out.eat (x:=⟨i,0,0,[]⟩) (l:=rest) (hE.out.same hIe.out fun i hi=>same.out _ _ i (nt1.out i hi)) (by rw[same.out _ _ _ (AH uid)];exact hr) ⟨_,rfl,.inl ⟨rfl,rfl⟩⟩ (fun i hi=>AG hi _) (nX.out _ (by omega)) (fun i hi=>by simp[AF,Az]at hi)) (fun o1 g1 p1=>?_);rcases p1 with⟨rfl,M2,p1,m2,p2⟩|⟨p0,p1,_⟩
   .have m3:AA (∀i,M2 i→M i∨Lq π (b+23) i):=⟨fun i hi=>by
     rcases m2 i hi with q|q|q
     .exact(hM1.out i q).imp_right fun q=>q.mono (by omega)
     .simp[AF,Az]at q
     .exact .inr ⟨b+22,by omega,q⟩⟩
    have frm:AA (∀i,¬C i→ ¬M i→Id.under π i=false→(gc ((b+22)::π) g1).get i=h.get i):=⟨fun i q1 q0 q2=>by rw[AU _ _ _ (AG q2 _),p2 i q1 (n1.out i q0 q2) (by simp[AF,Az]) (AG q2 _),same.out _ _ i (AH q2)];exact hI2f.out i q1 q0 q2⟩;have nC: ¬C (0::0::π):=fun hc=>by have:=uC.out _ hc;rw[show Id.under π (0::0::π)=true from Ay [0,0]]at this;cases this
    have box2:(gc ((b+22)::π) g1).get (0::0::π)=some (.box [.wn id]):=by
     rw[AU _ _ _ (Ag π (by omega)),p2 _ nC (nz.out _) (by simp[AF,Az]) (Ag π (by omega))];rw[get_put,get_put,AE (by simp)];exact box0.out
    clear p2 m2;replace box0:=AA.mk box2;replace p1:=AA.mk (hE.out.gcI p1 (b+22));refine ax ?_;refine IH.out (_,b+19) ⟨⟨box0.out,⟨M2,?_,fun i hi=>(m3.out i hi).imp_right fun q=>q.mono (by dsimp only;omega)⟩,frm.out⟩⟩;rw[←hrest.out];exact p1.out
   .replace p1:=AA.mk (hE.out.gcD p1 (b+22));rcases p0 with rfl|⟨v,rfl⟩
    .refine ax ?_;exact .inr (.inl ⟨rfl,p1.out⟩)
    .refine ax ?_;exact .inr (.inr ⟨⟨v,rfl⟩,p1.out⟩)
  |false=>
   rw[hg]at hIe;replace hg:=AA.mk hg;refine ax ?_;refine IH.out (_,b+19) ⟨⟨?_,⟨M1,?_,fun i hi=>(hM1.out i hi).imp_right fun q=>q.mono (by dsimp only;omega)⟩,fun i q1 q0 q2=>(same.out _ _ i (AH q2)).trans (hI2f.out i q1 q0 q2)⟩⟩
   .dsimp only;rw[get_put,get_put,AE (by simp)];exact box0.out
   .rw[←hrest.out];exact hE.out.same hIe.out fun i hi=>same.out _ _ i (nt1.out i hi)
 .rintro i ⟨g,b⟩ hi him hI2;dsimp only at*;have hM2:=Ba hM.out (h':=g) fun i hi=>hI2.out.frame i (hCV.out i hi) (hMV.out i hi) (hu.out i hi);have hm2:=hM2.box;simp only[Au]at hm2;have gB:=hI2.out.box;have hl1:=Hp (hM2.sl 1 (by omega));simp only[A7,BI]at hl1;replace hM2:=AA.mk hM2;rw[CH,HM,hG]at hI2;clear hI hW hG hl2 hi
  (repeat' (first|simp only[go_sem, *,↓hl1,AM]|(refine sx ?_ ?_<;>intro hc)|refine sy (by omega) fun x hx hm=>?_|simp(disch:=first|assumption|omega) only[AK]))
  refine AX st.em.bv _ (S:=fun m' i (a:AD×Nat×List Df)=>⟨[(0,.ptr m 0),(3,.ptr (0::0::π) 0),(13,Bn.get [] 13),(40,V.s 1),(41,.d (.int .i64 (m'))),(42,.d (.int .i64 (i))),(102,Bn.get [] 102),(103,Bn.get [] 103),(104,Bn.get [] 104),(105,Bn.get [] 105),(106,Bn.get [] 106),(107,Bn.get [] 107),(108,Bn.get [] 108),(109,Bn.get [] 109)],a.1,a.2.1+16,a.2.2⟩)
   (Inv:=fun i rest a=>AA (StepsIn C M π h id (Fd I π M (a.2.1+16) (Cd p st.em i rest)) a.1)∧Qk a.2.2) (b0:=(_,b,[])) rfl ⟨⟨⟨hI2.out.box,hI2.out.eat.mv hE.out hMu.out (fun _ _=>rfl) (by dsimp only;omega),hI2.out.frame⟩⟩,by rw[VZ];trivial⟩ ?_ ?_
  .clear hM2 hm2 gB hl1 hI2;clear him i g;clear b;rintro i gr ⟨g,b,ds⟩ hy hi him ⟨hI2,hds⟩ IH;have b1: ¬b+1=b:=by omega
   have b3: ¬b=b+1:=by omega
   dsimp only at*;obtain⟨d,hd⟩:=hs.out.grp i gr hy;obtain⟨g0,hdd⟩:=Dx hd.f8;have hdl:=AI hdd;have hdr:=(B3 hF hdd).ok.rules;have hM2:=Ba hM.out (h':=g) fun i hi=>hI2.out.frame i (hCV.out i hi) (hMV.out i hi) (hu.out i hi);have hm2:=hM2.box;simp only[Au]at hm2;obtain⟨W,xs,hWs,gW,xW,lW,lW2⟩:=Jl (hM2.sl 1 (by omega)) hy;have uW:=hu.out W (V.s_mem m (i:=1) (by omega) (by rw[hWs];simp[AF]));have a3:=AH uW;have a4:=Ak uW;have gB:=hI2.out.box;simp only[Gg]at gW;rw[hWs]at IH⊢;replace hM2:=AA.mk hM2;replace hWs:=AA.mk hWs;replace hd:=AA.mk hd;refine ax ?_;have hg2:AA (Cd p st.em i (gr::st.em.bv.drop (i+1))=B7 st.em d gr i 0 d.rules++Cd p st.em (i+1) (st.em.bv.drop (i+1))):=⟨by rw[Cd,hd.out.f8]⟩;have same: ∀o1 o2 o3 o4:Abs.Obj,∀i,Nt π i→((((g.put (0::(b+20)::π) o1).put (0::(b+21)::π) o2).put (0::(b+20)::π) o3).put (0::(b+21)::π) o4).get i=g.get i:=fun o1 o2 o3 o4 i hi=>by
    rw[get_put,get_put,get_put,get_put,hi,hi];rfl
   obtain⟨R,hR⟩: ∃R,R=Cd p st.em (i+1) (st.em.bv.drop (i+1)):=⟨_,rfl⟩;rw[←hR]at hg2;rw[hg2.out]at hI2;refine AX d.rules _ (S:=fun m' k (a:AD×Nat×List Df)=>⟨[(0,.ptr m 0),(3,.ptr (0::0::π) 0),(6,.ptr (0::(b+20)::π) 0),(7,.ptr (0::(b+21)::π) 0),(13,Bn.get [] 13),(40,.eq W 0 st.em.bv.length),(41,.d (.int .i64 (st.em.bv.length))),(42,.d (.int .i64 (i))),(56,.d (.be (d.rules.map A0))),(57,.d (.int .i64 (m'))),(58,.d (.int .i64 (k))),(102,Bn.get [] 102),(103,Bn.get [] 103),(104,Bn.get [] 104),(105,Bn.get [] 105),(106,Bn.get [] 106),(107,Bn.get [] 107),(108,Bn.get [] 108),(109,Bn.get [] 109)],a.1,a.2.1+36,a.2.2⟩)
    (Inv:=fun k rest a=>AA (StepsIn C M π h id (Fd I π M (a.2.1+36) (B7 st.em d gr i k rest++R)) a.1)∧a.1.get (0::(b+20)::π)=some (.box [.d (.int .i64 (i))])∧a.1.get (0::(b+21)::π)=some (.box [.d (.int .i64 (gr.f8)),.d (.int .i64 (gr.at_)),.d (.be (gr.env.map AN))])∧b≤a.2.1∧Qk a.2.2) (b0:=(_,b,ds)) rfl ⟨⟨⟨?_,hI2.out.eat.mv hE.out hMu.out (fun i hi=>same _ _ _ _ i hi) (by dsimp only;omega),fun i q1 q0 q2=>(same _ _ _ _ i (AH q2)).trans (hI2.out.frame i q1 q0 q2)⟩⟩,?_,?_,EX _,hds⟩ ?_ ?_
   .dsimp only;rw[get_put,get_put,get_put,get_put,AE (by simp),AE (by simp)];exact gB
   .simp only[go_sem,b1,b3]
   .simp only[go_sem,b1,b3]
   .clear hg2 same hI2 hm2 gB gW a3 a4 xW lW lW2;clear hM2;clear hds ds;rintro k r ⟨g2,c,ds⟩ hr hk hkm ⟨hI3,x6,x7,hbc,hds⟩ IHk;dsimp only at*;have hri:=Ix hF hs.out hy hd.out (Ac hr);have hM2:=Ba hM.out (h':=g2) fun i hi=>hI3.out.frame i (hCV.out i hi) (hMV.out i hi) (hu.out i hi);have hm2:=hM2.box;simp only[Au]at hm2;have hl1:=Hp (hM2.sl 1 (by omega));have r0:=hri.place.1;have r1:=hri.place.2;obtain⟨y,hyp⟩:=get_some (l:=st.em.ac) (i:=(gr.place d r.at_).toNat) (by omega);obtain⟨S,ys,hSs,gS,xS,lS,lS2⟩:=Jl (hM2.sl 0 (by omega)) hyp;have uS:=hu.out S (V.s_mem m (i:=0) (by omega) (by rw[hSs];simp[AF]));have a3:=AH uS;have a4:=Ak uS;have c1: ¬c+1=c:=by omega
    have c0: ¬c=c+1:=by omega
    have hpl:=AA.mk fun(H:AD) (n:Nat) (hH:H.get m=g2.get m)=>NP (ds:=p.defs) (g:=gr) (d:=d) (hH.trans hm2) (AG um n) g0 hdd (B3 hF hdd).ok.am (B3 hF hdd).ok.ac (LH hd.out) (LG hF hd.out) r.at_ hri.at0 hri.at1;have c2: ¬c+20=b:=by omega
    have c3: ¬c+19=b:=by omega
    have c4: ¬c+21=b:=by omega
    have c5: ¬b=c+20:=by omega
    have c6: ¬b=c+19:=by omega
    have c7: ¬b=c+21:=by omega
    simp only[Gg]at gS;rw[hSs]at hm2;have same2: ∀o1 o2 o3 o4:Abs.Obj,∀i,Nt π i→((((g2.put (0::(c+40)::π) o1).put (0::(c+41)::π) o2).put (0::(c+40)::π) o3).put (0::(c+41)::π) o4).get i=g2.get i:=fun o1 o2 o3 o4 i hi=>by
     rw[get_put,get_put,get_put,get_put,hi,hi];rfl
    replace hM2:=AA.mk hM2;replace hri:=AA.mk hri;refine ax ?_;refine DA (hpl.out _ _ ?_) (fun o1 g1 p1=>?_)
    .simp only[go_sem,e1,AM]
    subst p1;cases hyd:y.dead with
    |true=>
     have hz:AA (Fd I π M (c+36) (B7 st.em d gr (i:Nat) (k+1) (d.rules.drop (k+1))++R) g2):=⟨by
      have:=hI3.out.eat
      rwa [B7,De,D0 (by rw[AY,hyp];exact hyd),Dl,HM]at this⟩
     refine ax ?_;refine IHk.out (_,c+23,ds) ⟨⟨⟨?_,hz.out.mv hE.out hMu.out (fun i hi=>same2 _ _ _ _ i hi) (by dsimp only;omega),fun i q1 q0 q2=>(same2 _ _ _ _ i (AH q2)).trans (hI3.out.frame i q1 q0 q2)⟩⟩,?_,?_,by dsimp only;omega,hds⟩
     .dsimp only;rw[get_put,get_put,get_put,get_put,AE (by simp),AE (by simp)];exact hI3.out.box
     .simp only[go_sem,x6,c0,c1,c2,c3,c4,c5,c6,c7]
     .simp only[go_sem,x7,c0,c1,c2,c3,c4,c5,c6,c7]
    |false=>
     refine ax ?_;obtain⟨g3,hg3⟩: ∃g3,g3=((((g2.put (0::(c+40)::π) (.box [.d (.int .i64 (0))])).put (0::(c+41)::π) (.box [.d (.int .i64 (0)),.co,.d (.int .i64 (0))])).put (0::(c+40)::π) (.box [.d (.int .i64 (k))])).put (0::(c+41)::π) (.box [.d (.int .i64 (r.at_)),.d (.be (r.d7.map AJ)),.d (.int .i64 (r.node))])):=⟨_,rfl⟩;rw[←hg3];have hgs: ∀i,Nt π i→g3.get i=g2.get i:=fun i hi=>by rw[hg3];exact same2 _ _ _ _ i hi
     have hJ0:Wa C M π h id b c i k gr (Fd I π M (c+36) (B7 st.em d gr i k (r::d.rules.drop (k+1))++R)) g3:=by
      refine⟨⟨?_,hI3.out.eat.mv hE.out hMu.out (fun i hi=>hgs i hi) (EX _),fun i q1 q0 q2=>(hgs i (AH q2)).trans (hI3.out.frame i q1 q0 q2)⟩,?_,?_,?_⟩;all_goals rw[hg3]
      .rw[get_put,get_put,get_put,get_put,AE (by simp),AE (by simp)];exact hI3.out.box
      .simp only[go_sem,x6,c0,c1,c2,c3,c4,c5,c6,c7]
      .simp only[go_sem,x7,c0,c1,c2,c3,c4,c5,c6,c7]
      .simp only[go_sem,c0,c1,c2,c3,c4,c5,c6,c7]
     have hpick:AA (De st.em d gr r=Br (BP st.em d gr r)):=⟨by rw[De,CI (by rw[AY,hyp,Es,F4,hyd];simp)]⟩;clear hgs same2 hm2 hl1 gS xS lS lS2 a3 a4 hyp hI3 x6 x7 hg3 hpl hSs hyd;clear hM2;refine AX r.d7 _ (S:=fun m' j (a:(AV×AD)×Nat)=>⟨[(0,.ptr m 0),(3,.ptr (0::0::π) 0),(6,.ptr (0::(b+20)::π) 0),(7,.ptr (0::(b+21)::π) 0),(8,.ptr (0::(c+40)::π) 0),(10,a.1.1),(13,Bn.get [] 13),(40,.eq W 0 st.em.bv.length),(41,.d (.int .i64 (st.em.bv.length))),(42,.d (.int .i64 (i))),(56,.d (.be (d.rules.map A0))),(57,.d (.int .i64 (d.rules.length))),(58,.d (.int .i64 (k))),(77,.d (.be (r.d7.map AJ))),(78,.d (.int .i64 (m'))),(79,.d (.int .i64 (j))),(102,Bn.get [] 102),(103,Bn.get [] 103),(104,Bn.get [] 104),(105,Bn.get [] 105),(106,Bn.get [] 106),(107,Bn.get [] 107),(108,Bn.get [] 108),(109,Bn.get [] 109)],a.1.2,a.2+62,ds⟩)
      (Inv:=fun j rest a=>AA (Wa C M π h id b c i k gr (Fd I π M (c+36) (B7 st.em d gr i k (r::d.rules.drop (k+1))++R)) a.1.2)∧c≤a.2∧AA ((j=0∧a.1.1=.co)∨ ∃n,0<j∧n<a.2+62∧a.1.1=.eq (1::n::π) 0 j∧a.1.2.get (1::n::π)=some (.d9 1 (((r.d7.take j).map fun q=>((Kr st.em (gr.own d true q):Nat):Int)).map AJ)))) (b0:=((_,_),c)) rfl ⟨⟨hJ0⟩,EX _,⟨.inl ⟨rfl,rfl⟩⟩⟩ ?_ ?_
     .clear hJ0 IHk g2 g3;rintro j q ⟨⟨v,g4⟩,e⟩ hq hj hjm ⟨hJ,hce,hv⟩ IHj;dsimp only at*;obtain⟨q0,q1,o0,ch,hch,ch12,hql⟩:=hri.out.join q (Ac hq);have hM2:=Ba hM.out (h':=g4) fun i hi=>hJ.out.st.frame i (hCV.out i hi) (hMV.out i hi) (hu.out i hi);have hm2:=hM2.box;simp only[Au]at hm2;obtain⟨qv,hrow,hqs⟩:=hM2.am.row _ _ hch;have hlq:=Hp hqs;rw[BI]at hlq;have hA:=hM2.arr;rcases hA with⟨_,hA⟩|⟨A,hA,gA⟩
      .rw[hA]at hrow;simp at hrow
      have lA:=AI hrow;have uA:=hu.out A (V.v3_mem m (by rw[hA];simp[AF]));have a3:=AH uA;have a4:=Ak uA;rw[hA]at hm2;have x7:=hJ.out.x7;simp only[A5]at hrow;have hown:=AA.mk fun(H:AD) (n:Nat) (hH:H.get m=g4.get m)=>Xd (ds:=p.defs) (g:=gr) (d:=d) (hH.trans hm2) (AG um n) g0 hdd (B3 hF hdd).ok.am (B3 hF hdd).ok.ac (LH hd.out) (LG hF hd.out) true q q0 (by simpa using q1);have ht:AA (((r.d7.take (j+1)).map fun q=>((Kr st.em (gr.own d true q):Nat):Int))=((r.d7.take j).map fun q=>((Kr st.em (gr.own d true q):Nat):Int))++[(ch.queue.length:Int)]):=⟨by rw[GC,hq];simp[hql]⟩;replace hql:=AA.mk hql;replace hM2:=AA.mk hM2;replace hqs:=AA.mk hqs;rcases hv.out with⟨rfl,rfl⟩|⟨n,hj0,hn,rfl,hg⟩
      .clear hv;have hj0:(0:Int)<r.d7.length:=hjm
       (repeat' (first|simp only[go_sem, *,↓hlq,AM]|(refine sx ?_ ?_<;>intro hc)|refine sy (by omega) fun x hx hm=>?_|simp(disch:=first|assumption|omega) only[AK]))
       refine DA (hown.out _ _ rfl) (fun o1 g1 p1=>?_);subst p1
       (repeat' (first|simp only[go_sem, *,↓hlq,AM]|(refine sx ?_ ?_<;>intro hc)|refine sy (by omega) fun x hx hm=>?_|simp(disch:=first|assumption|omega) only[AK]))
       refine IHj.out ((_,_),e+23) ⟨⟨hJ.out.loc hE.out hMu.out fun x hx=>?_⟩,by dsimp only;omega,⟨.inr ⟨e+81,by omega,by dsimp only;omega,rfl,?_⟩⟩⟩
       .dsimp only;rw[get_put,get_put,hx,hx];rfl
       .rw[ht.out];simp only[go_sem,Rt,Dl,HM]
      .clear hv;obtain⟨L,hL⟩: ∃L,L=(r.d7.take j).map fun q=>((Kr st.em (gr.own d true q):Nat):Int):=⟨_,rfl⟩;have d0:L.length=j:=by rw[hL,BI,Hw];omega
       have d1:List.take j (L.map AJ)=L.map AJ:=CS (by simp;omega);have d2:j+1≤4:=by have:=hri.out.j1;omega
       have d3: ¬e+80=n:=by omega
       have d4: ¬n=e+80:=by omega
       have d5: ¬e+81=n:=by omega
       have d6: ¬n=e+81:=by omega
       rw[←hL]at ht hg;replace hL:=AA.mk hL
       (repeat' (first|simp only[go_sem, *,↓hlq,AM]|(refine sx ?_ ?_<;>intro hc)|refine sy (by omega) fun x hx hm=>?_|simp(disch:=first|assumption|omega) only[AK]))
       refine DA (hown.out _ _ rfl) (fun o1 g1 p1=>?_);subst p1
       (repeat' (first|simp only[go_sem, *,↓hlq,AM]|(refine sx ?_ ?_<;>intro hc)|refine sy (by omega) fun x hx hm=>?_|simp(disch:=first|assumption|omega) only[AK]))
       refine IHj.out ((_,_),e+23) ⟨⟨hJ.out.loc hE.out hMu.out fun x hx=>?_⟩,by dsimp only;omega,⟨.inr ⟨e+81,by omega,by dsimp only;omega,rfl,?_⟩⟩⟩
       .dsimp only;rw[get_put,get_put,get_put,hx,hx,hx];rfl
       .rw[ht.out];simp only[go_sem,D1,d3,d4,d5,d6]
     .clear hJ0;rintro j ⟨⟨v,g4⟩,e⟩ hj hjm ⟨hJ,hce,hv⟩;dsimp only at*;rcases hv.out with⟨rfl,rfl⟩|⟨n,hj0,hn,rfl,hg⟩
      .exact absurd hri.out.j0 (by have:=hj.out;omega)
      have hmany:AA (((r.d7.take j).map fun q=>((Kr st.em (gr.own d true q):Nat):Int))=(BP st.em d gr r).map fun(n:Nat)=>(n:Int)):=⟨by rw[hj.out,EL,BP,List.map_map];rfl⟩;rw[hmany.out]at hg;have hlen:(BP st.em d gr r).length=j:=by rw[BP,BI,hj.out]
      obtain⟨many,hmn⟩: ∃many,many=BP st.em d gr r:=⟨_,rfl⟩;rw[←hmn]at hg hlen;have tk:List.take j ((many.map fun(n:Nat)=>(n:Int)).map AJ)=(many.map fun(n:Nat)=>(n:Int)).map AJ:=CS (by simp;omega);have hch:=Yf (many.map fun(n:Nat)=>(n:Int)) (e+64) π;have jl:j≤many.length:=by omega
      replace hlen:=AA.mk hlen;replace hmn:=AA.mk hmn;replace hmany:=AA.mk hmany;clear hv;refine ax ?_;refine pZ fun r0 hr0=>?_;have nC: ∀n,¬C (0::n::π):=fun n hc=>by have:=uC.out _ hc;rw[show Id.under π (0::n::π)=true from Ay [0,n]]at this;cases this
      obtain⟨I',hI'⟩: ∃I':List (List Int)→(Abs.Id→Prop)→AD→Prop,I'=fun l M2 g=>(Wa C M π h id b c i k gr (I ((l.map fun t=>⟨-1,i,k,t⟩)++(B7 st.em d gr i (k+1) (d.rules.drop (k+1))++R)) M2) g∧ ∀i,M2 i→M i∨Lq π (e+67) i)∧g.get (0::(e+65)::π)=some (.loop r0):=⟨_,rfl⟩;obtain⟨D',hD'⟩: ∃D':Ad→AD→Prop,D'=fun o g=>(o=.ret (.d (.bool (false)))∧D (.ret (.d (.bool (false)))) g∧g.get (0::(e+65)::π)=some (.loop {r0 with state:=.done,rt:=some .ret}))∨((∃v,o=.f9 v)∧D o g):=⟨_,rfl⟩
      have hE2:Ln jF (0::(e+65)::π) (fun i=>C i∨i=0::(e+65)::π) I' D' ((e+66)::π):=by
       refine⟨.inr rfl,fun i hi=>?_,fun hI=>?_,fun hI=>?_,fun{x l M2 H ρ v r} hI hr hv hρ hMρ hid=>?_,fun hI hs=>?_,fun hD hs=>?_⟩
       .rcases hi with hi|rfl
        .exact AG (uC.out i hi) _
        .exact Ag π (by omega)
       .rw[hI']at hI;exact hE.out.tag hI.1.1.st.eat
       .rw[hI']at hI;exact⟨_,hI.2⟩
       .rw[hI']at hI;obtain⟨⟨hJ,hm2⟩,hlo⟩:=hI;rw[hlo]at hr;cases hr;have nz: ∀l,¬M2 (0::l):=fun l hl=>by obtain⟨l2,h2⟩:=hE.out.tag hJ.st.eat _ hl;cases h2
        have nt2:=AA.mk (Xa hMu.out hm2);have nn2:=AA.mk (xr hm2);replace nz:=AA.mk nz;replace hm2:=AA.mk hm2;replace hMρ:=AA.mk hMρ;obtain⟨idx,rfl,hga,lx,rfl⟩:=hv;rw[Cs,F3]at hJ;have hidx:=hid (1::lx) (by simp[AF]);have bx0:=hJ.st.box;have bx6:=hJ.x6;have bx8:=hJ.x8;obtain⟨r2,hr2⟩:=hE.out.loop hJ.st.eat;have n1: ¬e+65=b+20:=by omega
        have n2: ¬e+65=c+40:=by omega
        have hE3:=AA.mk fun(H':AD) (q: ∀i,Nt π i→H'.get i=H.get i)=>hE.out.same hJ.st.eat fun i hi=>q i (nt2.out i hi);have u2:Id.under ρ (0::(e+65)::π)=false:=hρ _ (Ag π (by omega));replace hJ:=AA.mk hJ;replace hρ:=AA.mk hρ;subst hr0;refine FX rfl ?_;clear hid;replace hI':=AA.mk hI';replace hD':=AA.mk hD';refine ax ?_;refine AZ (hE.out.eat (hE3.out _ fun i hi=>?_) (by simp only[go_sem,i1,hr2,AM]) ⟨_,rfl,.inr ⟨1::lx,rfl,?_,lx,rfl⟩⟩ (fun i hi=>AG (hρ.out i (AG hi _)) _) (fun i hi=>AG (hMρ.out i hi) _) (fun i hi=>?_)) (fun o1 g1 p1=>?_)
        .have q:=hi;rw[Nt]at q;simp only[go_sem,q,AM]
        .rw[get_put,AE (by simp)];exact hga
        .simp only[AF,Az,HM,D6,As]at hi;subst hi;exact⟨fun hc=>hidx.1 (.inl hc),AG hidx.2.1 _,hidx.2.2.out⟩
        have hb0: ∀n,¬n=e+65→ ¬n=e+66→ ∀o,(H.put (0::(e+65)::π) o).get (0::n::π)=H.get (0::n::π):=fun n q1 q2 o=>by rw[get_put,AE (by simp;omega)];rfl
        rcases p1 with⟨rfl,M3,p1,m3,p2⟩|⟨p0,p1,p2⟩
        .have glo:=(AU (6::ρ) g1 _ (AG u2 _)).trans (p2 _ (nC _) (nz.out _) (by simp[AF,Az]) (AG u2 _));replace m3:=AA.mk m3;rw[get_put,is_self]at glo;replace p1:=AA.mk p1;replace p2:=AA.mk p2;refine ax ?_;have fr: ∀o,∀i,¬C i→ ¬M2 i→ ¬i=1::lx→ ¬i=0::(e+65)::π→Id.under ρ i=false→((gc (6::ρ) g1).put (0::(e+65)::π) o).get i=H.get i:=fun o i q1 q0 qv q2 q3=>by
          rw[get_put,AE (fun e=>q2 e.symm),AU _ _ _ (AG q3 _),p2.out i q1 q0 (by simpa[AF,Az]using qv) (AG q3 _),get_put,AE (fun e=>q2 e.symm)];rfl
         refine .inl ⟨rfl,M3,?_,fun i2 hi2=>?_,fun i2 q1 q0 qv q2=>?_⟩
         rotate_left
         .rcases m3.out i2 hi2 with q|q|q
          .exact .inl q
          .exact .inr (.inl (by simpa[AF,Az]using q))
          .exact .inr (.inr q.out)
         rotate_left
         .rw[hI'.out];refine⟨⟨hJ.out.mv ?_ (fun n hn=>fr _ _ (nC n) (nz.out _) (by simp) (by simp;omega) (hρ.out _ (Ag π (by omega)))) fun i q1 q0 q2=>fr _ _ q1 (nn2.out i q0 q2) (fun e=>by rw[e,hidx.2.2.out.up]at q2;cases q2) (fun e=>by rw[e,show Id.under π (0::_::π)=true from Ay [0,_]]at q2;cases q2) (hρ.out _ (AG q2 _)),fun i hi=>?_⟩,?_⟩
          .refine hE.out.same p1.out fun i hi=>?_;rcases hi with hi|hi
           .have q:=AH hi;rw[get_put,q,AU _ _ _ (AG (hρ.out _ (AG hi _)) _)];rfl
           .obtain⟨l2,rfl⟩:=hE.out.tag p1.out i hi;rw[get_put,AE (by simp),EY];rfl
          .rcases m3.out i hi with q|q|q
           .exact hm2.out i q
           .simp only[AF,Az,HM,D6,As]at q;subst q;exact .inr ⟨e+66,by omega,hidx.2.2⟩
           .exact .inr ⟨e+66,by omega,q.out.wide hρ.out⟩
          .rw[get_put,is_self];rfl
         .exact fr _ i2 (fun h=>q1 (.inl h)) q0 (by simpa[AF]using qv) (fun h=>q1 (.inr h)) q2
        .have glo:=(AU (6::ρ) g1 _ (AG u2 _)).trans (p2 _ (Ay [0,e+65]) (AG u2 _));rw[get_put,is_self]at glo;have kp: ∀j,Id.under ((e+66)::π) (0::j)=true→Id.under ρ (0::j)=false→(gc (6::ρ) g1).get (0::j)=H.get (0::j):=fun i q1 q2=>by
          have q3:Id.is (0::(e+65)::π) (0::i)=false:=AE fun e3=>by rw[←e3,Ag π (by omega)]at q1;cases q1
          rw[AU _ _ _ (AG q2 _),p2 i (Bk q1) (AG q2 _),get_put,q3];rfl
         have sD:=hE.out.sameD (H':=gc (6::ρ) g1) p1 fun i hi=>by
          rcases hi with hi|⟨l,rfl⟩
          .exact AU _ _ _ (AG (hρ.out _ (AG hi _)) _)
          .exact EY _ _ _
         replace kp:=AA.mk kp;replace sD:=AA.mk sD;clear p1 p2;rcases p0 with rfl|⟨v,rfl⟩
         .refine ax ?_;refine .inr ⟨.inl rfl,?_,fun i q1 q2=>?_⟩
          .rw[hD'.out];refine .inl ⟨rfl,hE.out.sameD sD.out fun i hi=>?_,by rw[get_put,is_self];rfl⟩;rw[get_put,show Id.is (0::(e+65)::π) i=false by
            rcases hi with hi|⟨l,rfl⟩
            .exact AH hi _ _
            .exact AE (by simp)]
           rfl
          .rw[get_put,AE fun e3=>by rw[←e3,Ag π (by omega)]at q1;cases q1];exact kp.out i q1 q2
         .refine ax ?_;exact .inr ⟨.inr ⟨v,rfl⟩,by rw[hD'.out];exact .inr ⟨⟨v,rfl⟩,sD.out⟩,kp.out⟩
       .rw[hI']at hI⊢;obtain⟨⟨hJ,hm2⟩,hlo⟩:=hI;have u0: ∀n,¬n=e+66→Id.under ((e+66)::π) (0::n::π)=false:=fun n hn=>Ag π hn;exact⟨⟨hJ.mv (hE.out.same hJ.st.eat fun i hi=>hs i (hi.imp_left fun hi=>AG hi _)) (fun n hn=>hs _ (.inl (u0 n (by omega)))) fun i q1 _ q2=>hs i (.inl (AG q2 _)),hm2⟩,(hs _ (.inl (u0 _ (by omega)))).trans hlo⟩
       .rw[hD']at hD⊢;have key: ∀o,D o _→D o _:=fun o hd=>hE.out.sameD hd fun i hi=>hs i (hi.imp_left fun hi=>AG hi _);rcases hD with⟨h1,h2,h3⟩|⟨h1,h2⟩
        .exact .inl ⟨h1,key _ h2,(hs _ (.inl (Ag π (by omega)))).trans h3⟩
        .exact .inr ⟨h1,key _ h2⟩
      obtain⟨M4,hI4,hM4⟩:=hJ.out.st.eat;have nt4:=Xa hMu.out hM4;have tg4:=hE.out.tag hI4;have ap4:=fun(m:Nat) (hm:c+36≤m)=>Uo hMu.out hM4 hm;replace nt4:=AA.mk nt4;replace tg4:=AA.mk tg4;replace ap4:=AA.mk ap4;have hst:I' (Br many) M4 ((0::0::(e+64)::π,Abs.Obj.box [.d (.be ((many.map fun(n:Nat)=>(n:Int)).map AJ))])::(g4.put (1::n::π) (Obj.i5 1 ((many.map fun(n:Nat)=>(n:Int)).map AJ))).put (0::(e+65)::π) (.loop r0)):=by
       have q0: ∀i,Id.is (1::n::π) i=false→Id.is (0::(e+65)::π) i=false→Id.is (0::0::(e+64)::π) i=false→ ∀o o1 o2,AD.get ((0::0::(e+64)::π,o)::(g4.put (1::n::π) o1).put (0::(e+65)::π) o2) i=g4.get i:=fun i q1 q2 q3 o o1 o2=>by
        rw[Bo,q3,get_put,q2,get_put,q1];rfl
       rw[hI'];refine⟨⟨hJ.out.mv (hE.out.same (by
        have:=hI4;rw[B7,hpick.out,←hmn.out,D9]at this;exact this) fun i hi=>?_) (fun n2 hn2=>?_) fun i _ _ hi=>?_,fun i hi=>(hM4 i hi).imp_right fun q=>q.mono (by omega)⟩,?_⟩
       .refine q0 i (nt4.out i hi _ _) (nt4.out i hi _ _) ?_ _ _ _;rcases hi with hi|hi
        .exact AH (AG hi _) _ _
        .obtain⟨l2,rfl⟩:=tg4.out i hi;exact AE (by simp)
       .exact q0 _ (AE (by simp)) (AE (by simp;omega)) (AE (by simp)) _ _ _
       .exact q0 i (AH hi _ _) (AH hi _ _) (AH (AG hi _) _ _) _ _ _
       .rw[Bo,AE (by simp),get_put,is_self];rfl
      have m0:0<many.length:=by have:=hlen.out;omega
      have m1:many.length≤1000:=by have:=hlen.out;have:=hj.out;have:=hri.out.j1;omega
      refine KB (cm m0 m1 (fun n hn=>?_) hE2 (B:=0::0::(e+64)::π) ?_ ?_ ?_ (fun hb=>?_) (ap4.out _ (by omega)) hst) (fun o1 g5 p1=>?_)
      .rw[hmn.out,BP]at hn;obtain⟨q,hq,rfl⟩:=FN.1 hn;obtain⟨_,_,_,ch,_,h12,hql⟩:=hri.out.join q hq;rw[hql];omega
      .rw[Bo,is_self];rfl
      .cases hx:Id.under ((e+66)::π) (0::0::(e+64)::π)with
       |false=>rfl
       |true=>
        have:=Bl hx (n':=e+64) (under_iff.2 ⟨[0,0],rfl⟩);omega
      .rintro(hc|hc)
       .have:=uC.out _ hc;rw[show Id.under π (0::0::(e+64)::π)=true from Ay [0,0,e+64]]at this;cases this
       .simp at hc
      .obtain⟨l2,h2⟩:=tg4.out _ hb;cases h2
      rcases p1 with⟨rfl,M5,p1,m5,p2⟩|⟨rfl,p1⟩|⟨⟨v,rfl⟩,p1⟩
      .clear m5 hI4 hM4;rw[hI']at p1;have glo:=p1.2;replace p1:=AA.mk p1;replace p2:=AA.mk p2;replace hI':=AA.mk hI';replace hD':=AA.mk hD';clear hst;clear hE2;subst hr0;refine ax ?_;have hJ5:=p1.out.1.1;have gg: ∀i,Id.under ((e+65)::π) i=false→Id.under ((e+66)::π) i=false→(gc ((e+65)::π) (gc ((e+66)::π) g5)).get i=g5.get i:=fun i q1 q2=>by rw[AU _ _ _ q1,AU _ _ _ q2]
       have gb: ∀n,n≤c+40→(gc ((e+65)::π) (gc ((e+66)::π) g5)).get (0::n::π)=g5.get (0::n::π):=fun n hn=>gg _ (Ag π (by omega)) (Ag π (by omega));refine IHk.out (_,e+33,_) ⟨⟨⟨(gb _ (by omega)).trans hJ5.st.box,⟨M5,hE.out.gcI (hE.out.gcI hJ5.st.eat _) _,fun i hi=>(p1.out.1.2 i hi).imp_right fun q=>q.mono (by dsimp only;omega)⟩,fun i q1 q0 q2=>(gg i (AG q2 _) (AG q2 _)).trans (hJ5.st.frame i q1 q0 q2)⟩⟩,(gb _ (by omega)).trans hJ5.x6,(gb _ (by omega)).trans hJ5.x7,by dsimp only;omega,by rw[S8];exact hds⟩
      .rw[hD']at p1;rcases p1 with⟨_,p1,glo⟩|⟨⟨v,hv⟩,_⟩
       .replace p1:=AA.mk p1;replace hI':=AA.mk hI';replace hD':=AA.mk hD';clear hst;clear hE2;subst hr0;refine ax ?_;exact .inr (.inl ⟨rfl,hE.out.gcD (hE.out.gcD p1.out _) _⟩)
       .cases hv
      .rw[hD']at p1;rcases p1 with⟨hv,_⟩|⟨_,p1⟩
       .cases hv
       .replace p1:=AA.mk p1;refine ax ?_;exact .inr (.inr ⟨⟨v,rfl⟩,hE.out.gcD (hE.out.gcD p1.out _) _⟩)
   .rintro k ⟨g2,c,ds⟩ hr hkm ⟨hI3,x6,x7,hbc,hds⟩;dsimp only at*;have h3:=hI3.out;rw[B7,HM]at h3;replace h3:=AA.mk h3;refine ax ?_;refine IH.out (_,c+23,_) ⟨⟨?_⟩,hds⟩;rw[←hR];exact⟨h3.out.box,h3.out.eat.mv hE.out hMu.out (fun _ _=>rfl) (by dsimp only;omega),h3.out.frame⟩
  .rintro i ⟨g,b2,ds⟩ hi him2 ⟨hI2,hds⟩;dsimp only at*;rw[Cd]at hI2;refine ax ?_;obtain⟨M1,h1,h2⟩:=hI2.out.eat;exact .inl ⟨rfl,M1,h1,fun i hi=>(h2 i hi).imp_right fun q=>q.up,hI2.out.frame⟩
theorem Tl{p:AL}{sz:List Int}(hF:BK p sz){m:Abs.Id}{V:MV}{st:Ck}(hM:Dw p sz h m V st)(hu:Ca π V m)(hs:FH p sz st.em){id:Abs.Id}{I:List Cc→AD→Prop}(hE:kE Uk id C I D π)(hCV: ∀i∈V.ids m,¬C i)(hI:I (BZ p st.em) h):
 ∃o h',KL Tryz.prog cfg (.fn 52) [.ptr m 0,.wn id] h π true none=.ok (o,h')∧ADQ C I D π h o h':=by
 obtain⟨o,h',k1,k2⟩:=r7 hF hM hu hs hE.toM hCV (M:=fun _=>False) (fun _ _ h=>h) (fun _ h=>h.elim) ⟨fun _ h=>h,hI⟩;exact⟨o,h',k1,k2.toE fun _ h=>h⟩
end Go.Proofs
