/-
  Parts of it.
-/
import Derived.Test.YtbinfhpngacfgaaGreatFi10
import Derived.Test.YtbinfhpngacfgaaGreatFi11
set_option linter.all false
namespace Go.Proofs
open Go Go.Abs
set_option maxRecDepth 100000
set_option maxHeartbeats 4000000
def Rr(p:AK)(sz:List Int)(k:Nat):Prop:= ∀(h:AB) (π:List Nat) (m:Abs.Id) (V:MV) (st:CC) (j:FW),lJ p h m V st→B4 π V m→Lq p sz st.d7→Br p sz st.d7 j→0≤st.work→st.work≤400→401≤st.work+k→(st.ev.length:Int)≤900000+st.work→
 ∃o h',KL Tryz.prog cfg (.fn 87) [.ptr m 0,.d (.int .i64 (j.node)),.d (.int .i64 (j.at_)),.d (.be (j.env.map AI))] h π true none=.ok (o,h')∧L3 p π m V h (Dg p k j st) o h'
theorem uu(p:AK)(h:AB)(π:List Nat)(m:Abs.Id)(V:MV)(w a b:Int)(l:List CZ)(hm:h.get m=some (.box (BT p true V w)))(um:Id.under π m=false):
 ∃o h',KL Tryz.prog cfg (.fn 87) [.ptr m 0,.d (.int .i64 (a)),.d (.int .i64 (b)),.d (.be (l.map AI))] h π true none=.ok (o,h')∧o=.ret (.f8 [])∧(∃w',h'.get m=some (.box (BT p true V w')))∧ ∀id,Id.is m id=false→Id.under π id=false→h'.get id=h.get id:=by
 simp only[BT]at hm;have e1:=AE um;have e2:=AZ um
 (refine Aa rfl Tryz.func87 rfl rfl rfl ?_;show Wp _ _ _ _ (Tryz.f87.body.get rfl) _ _;simp only[Tryz.f87,AP])
 (repeat' (first|simp only[go_sem, *]|(refine sx ?_ ?_<;>intro hc)|refine sy (by omega) fun x hx hm=>?_|simp(disch:=first|assumption|omega) only[AG]))
 refine⟨⟨IntKind.i64.wrap (w+1),rfl⟩,fun id b1 b2=>?_⟩;have q1:=AE b2;simp only[go_sem,q1,b1,AM]
def PF(p:AK)(π:List Nat)(m:Abs.Id)(V:MV)(h:AB)(b:Nat)(E:List Abs.Id)(g:AB):Option CC→Prop
 |some st=> ∃V',B5 (BT p false) false π m V h b V' st g∧ ∀i∈E,i∉V'.ids m
 |none=>(∃V' w,g.get m=some (.box (BT p true V' w)))∧(∀id,id∉V.ids m→Id.under π id=false→g.get id=h.get id)∧ ∀i∈E,Id.is m i=false
variable{π:List Nat}{m:Abs.Id}{V:MV}{h g:AB}{b:Nat}
theorem X6{p:AK}{E:List Abs.Id}{r:Option CC}(hr:PF p π m V h b E g r): ∃mu V' w,g.get m=some (.box (BT p mu V' w)):=by
 cases r with
 |some st=>obtain⟨V',h1,_⟩:=hr;exact⟨false,V',st.work,h1.rep.box⟩
 |none=>obtain⟨⟨V',w,h1⟩,_⟩:=hr;exact⟨true,V',w,h1⟩
variable{b':Nat}
theorem UO{p:AK}{E:List Abs.Id}{r:Option CC}(hr:PF p π m V h b E g r)(hb:b≤b'):PF p π m V h b' E g r:=by
 cases r with
 |some st=>obtain⟨V',h1,h2⟩:=hr;exact⟨V',h1.up hb,h2⟩
 |none=>exact hr
theorem G1{p:AK}{E:List Abs.Id}{r:Option CC}(hr:PF p π m V h b E g r):L3 p π m V h r (.ret (.f8 [])) g:=by
 cases r with
 |some st=>
  obtain⟨V',h1,_⟩:=hr;exact⟨rfl,V',h1.rep,fun id hid=>(h1.ids id hid).imp_right fun⟨n,_,h2,h3⟩=>⟨BB h2,h3⟩,h1.frame⟩
 |none=>exact⟨rfl,hr.1,hr.2.1⟩
structure cF(p:AK)(π:List Nat)(m:Abs.Id)(V:MV)(h:AB)(b n:Nat)(E:List Abs.Id)(g g':AB)(r:Option CC):Prop where
 run:PF p π m V h (n+1) E g' r
 box: ∀k,k<b→g'.get (0::k::π)=g.get (0::k::π)
 ne: ∀i∈E,g'.get i=g.get i
variable{sz:List Int}
theorem IU{p:AK}{k:Nat}(IH0:Rr p sz k){E:List Abs.Id}{r:Option CC}(hu:B4 π V m)(hr:PF p π m V h b E g r)(j:FW)(hI: ∀st,r=some st→Iv p sz k st∧Br p sz st.d7 j)(H:AB)(n:Nat)(hn:b≤n)(hl: ∀id,(∀a n,b≤n→Id.is (a::n::π) id=false)→H.get id=g.get id)(hE: ∀i∈E,(∀a k,b≤k→Id.is (a::k::π) i=false)∧Id.under (n::π) i=false):
 ∃o g1,KL Tryz.prog cfg (.fn 87) [.ptr m 0,.d (.int .i64 (j.node)),.d (.int .i64 (j.at_)),.d (.be (j.env.map AI))] H (n::π) true none=.ok (o,g1)∧o=.ret (.f8 [])∧cF p π m V h b n E g (gc (n::π) g1) (r.bind (Dg p k j)):=by
 have um:=hu m (V.m_mem m);have umn:=AH um n;have hbx: ∀k,k<b→H.get (0::k::π)=g.get (0::k::π):=fun k hk=>hl _ fun a n hn=>AF fun e=>by simp at e;omega
 have hmm:H.get m=g.get m:=hl _ fun a n _=>AE um a n;cases r with
 |none=>
  obtain⟨⟨V',w,h1⟩,h2,h3⟩:=hr;obtain⟨o,g1,q1,q2,⟨w',q3⟩,q4⟩:=uu p H (n::π) m V' w j.node j.at_ j.env (hmm.trans h1) umn;refine⟨o,g1,q1,q2,⟨⟨V',w',(Ag _ _ _ umn).trans q3⟩,fun id a c=>?_,h3⟩,fun k hk=>?_,fun i hi=>?_⟩
  .rw[Ag _ _ _ (AH c n),q4 id (AF fun e=>a (by rw[←e];exact V.m_mem m)) (AH c n),hl id fun a n _=>AE c a n];exact h2 id a c
  .rw[Ag _ _ _ (BH π (by omega)),q4 _ (AZ um 0 k) (BH π (by omega))];exact hbx k hk
  .rw[Ag _ _ _ (hE i hi).2,q4 i (h3 i hi) (hE i hi).2];exact hl i (hE i hi).1
 |some st=>
  obtain⟨V',hR,hev⟩:=hr;obtain⟨hI,hj⟩:=hI st rfl;have hR2:=hR.loc hu hl;obtain⟨o,g1,h1,h2⟩:=IH0 H (n::π) m V' st j hR2.rep (hR2.apart hu hn) hI.ol hj hI.w0 hI.w1 hI.w2 hI.ev;refine⟨o,g1,h1,?_⟩;rw[IP];cases hd:Dg p k j st with
  |some st2=>
   rw[hd]at h2;obtain⟨h3,h4⟩:=h2;obtain⟨V2,h5,h6⟩:=hR2.callL hu hn h4;have hfr:=Kq h4;refine⟨h3,⟨V2,h5,fun i hi=>h6 i (hev i hi) (hE i hi).2⟩,fun k hk=>?_,fun i hi=>?_⟩
   .rw[Ag _ _ _ (BH π (by omega)),hfr _ (HK hR2 hu k) (BH π (by omega))];exact hbx k hk
   .rw[Ag _ _ _ (hE i hi).2,hfr i (hev i hi) (hE i hi).2];exact hl i (hE i hi).1
  |none=>
   rw[hd]at h2;obtain⟨h3,⟨V2,w,h4⟩,h5⟩:=h2;refine⟨h3,⟨⟨V2,w,(Ag _ _ _ umn).trans h4⟩,fun id a c=>?_,fun i hi=>AF fun e=>hev i hi (by rw[←e];exact V'.m_mem m)⟩,fun k hk=>?_,fun i hi=>?_⟩
   .rw[Ag _ _ _ (AH c n),h5 id (fun hh=>?_) (AH c n),hl id fun a n _=>AE c a n]
    .exact hR.frame id a c
    .rcases hR.ids id hh with hh|⟨k,_,h3,_⟩
     .exact a hh
     .rw[BB h3]at c;cases c
   .rw[Ag _ _ _ (BH π (by omega)),h5 _ (HK hR2 hu k) (BH π (by omega))];exact hbx k hk
   .rw[Ag _ _ _ (hE i hi).2,h5 i (hev i hi) (hE i hi).2];exact hl i (hE i hi).1
variable{st:CC}{j:FW}{x:CT}{d:Bz}
theorem OG{p:AK}{G:Ay}(hF:Bq p sz)(hd:Dr p sz st.d7 j x d)(hG:G=AX st.d7 d x.n j)(n:Int)(hn1:0≤n)(hn2:n≤d.am.length):
 BJ (KL Tryz.prog cfg) 118 [.agg [.d (.be (p.free.map A0)),.d (.be (p.nodes.map Al)),.d (.be (p.defs.map A8)),.d (.int .i64 (p.main))],.agg [.d (.int .i64 (x.n)),.d (.int .i64 (j.at_)),.d (.be (G.env.map AI))],.d (.int .i64 (n))] []=.ok (.ret (.d (.int .i64 (G.place d n))),[]):=by
 have hGo:d.own≤G.env.length∧G.env.length≤10000:=by
  rw[hG,hd.env];have:=hd.ok.ac;have:=hd.ok.am;obtain⟨_,_,_,_,_,_,hjl⟩:=Kk hF hd.job;unfold Bz.own;omega
 have hGd:G.eq=x.n:=by rw[hG];rfl
 have hGa:G.at_=j.at_:=by rw[hG];rfl
 have:=jX p G d n (by rw[hGd];exact hd.n0) (by rw[hGd];exact hd.eq) hd.ok.ac hd.ok.am hGo.1 hGo.2 hn1 hn2
 rwa [hGd,hGa]at this
theorem Tk{z:AV}{v:AV}{L:List CZ}(h:KO z π g b v L)(hb:b≤b'):KO z π g b' v L:=by
 rcases h with h|⟨id,h1,h2,n,h3,h4⟩
 .exact .inl h
 .exact .inr ⟨id,h1,h2,n,by omega,h4⟩
theorem VW{p:AK}{sz:List Int}{k:Nat}(hF:Bq p sz)(IH0:Rr p sz k){h:AB}{π:List Nat}{m:Abs.Id}{V:MV}{st:CC}(hu:B4 π V m){j:FW}{x:CT}{d:Bz}(hd:Dr p sz st.d7 j x d){G:Ay}(hG:G=AX st.d7 d x.n j){R:Option CC}
 {e:CB} {g:AB} {b:Nat} {ev:AV} {r0:Option CC} (en0:e.get 0=.ptr m 0) (en2:e.get 2=.d (.int .i64 (j.at_))) (en5:e.get 5=.ptr (0::0::π) 0) (en8:e.get 8=.ptr (0::10::π) 0) (en9:e.get 9=.ptr (0::18::π) 0) (hb:52≤b) (hr:PF p π m V h b (AD ev) g r0)
 (hI0: ∀st',r0=some st'→Iv p sz k st'∧ ∀j'∈BP d G 0 d.am++A6 x 0 j.at_ G.env,Br p sz st'.d7 j') (he:R=r0.bind (Bj (Dg p k) (BP d G 0 d.am++A6 x 0 j.at_ G.env)))
 (k2:g.get (0::0::π)=some (.box [.d (.int .i64 (x.op)),.d (.int .i64 (x.n)),.d (.be (x.args.map Av)),.d (.be (x.kids.map AO))])) (k4:g.get (0::10::π)=some (.box [.d (.be (d.ac.map Ab)),.d (.be (d.am.map AR)),.d (.be (d.rules.map Af))])) (k5:g.get (0::18::π)=some (.box [.d (.int .i64 (x.n)),.d (.int .i64 (j.at_)),ev])) (hfe:KO .emp π g b ev G.env):
 Wp cfg (KL Tryz.prog cfg) ⟨144,π,true,none,false,221⟩ 0 (YK 9 (Tryz.f144.body.get rfl)) ⟨e,g,b,[]⟩ (Ka cfg none [] π true (L3 p π m V h R)):=by
 have um:=hu m (V.m_mem m);have e1:=AE um;have e2:=AZ um;have d1:=hd.ok.ac;have d2:=hd.ok.am;have hplace:=AA.mk (OG hF hd hG);replace hG:=AA.mk hG;replace hu:=AA.mk hu;replace hd:=AA.mk hd;replace hr:=AA.mk hr;replace hI0:=AA.mk hI0;replace he:=AA.mk he;obtain⟨N,hN⟩: ∃N,b=N+52:=⟨b-52,by omega⟩;subst hN;simp only[Tryz.f144,AP,YK]
 (repeat' (first|simp only[go_sem, *,AM]|(refine sx ?_ ?_<;>intro hc)|refine sy (by omega) fun x hx hm=>?_|simp(disch:=first|assumption|omega) only[AG]))
 clear en0 en2 en5 en8 en9;refine Au d.am (S:=fun i (a:AB×Nat)=>⟨[(0,.ptr m 0),(2,.d (.int .i64 (j.at_))),(5,.ptr (0::0::π) 0),(8,.ptr (0::10::π) 0),(9,.ptr (0::18::π) 0),(14,.d (.int .i64 (i)))],a.1,a.2+53,[]⟩)
  (Inv:=fun i rest a=>AA (∃r,PF p π m V h (a.2+53) (AD ev) a.1 r∧(∀st',r=some st'→Iv p sz k st'∧ ∀j'∈BP d G i rest++A6 x 0 j.at_ G.env,Br p sz st'.d7 j')∧R=r.bind (Bj (Dg p k) (BP d G i rest++A6 x 0 j.at_ G.env)))∧a.1.get (0::0::π)=some (.box [.d (.int .i64 (x.op)),.d (.int .i64 (x.n)),.d (.be (x.args.map Av)),.d (.be (x.kids.map AO))])∧a.1.get (0::10::π)=some (.box [.d (.be (d.ac.map Ab)),.d (.be (d.am.map AR)),.d (.be (d.rules.map Af))])∧a.1.get (0::18::π)=some (.box [.d (.int .i64 (x.n)),.d (.int .i64 (j.at_)),ev])∧AA (KO .emp π a.1 (a.2+53) ev G.env)) (b0:=(_,N)) ⟨⟨r0,UO hr.out (by omega),hI0.out,he.out⟩,k2,k4,k5,⟨Tk hfe (by omega)⟩⟩ ?_ ?_
 .clear hr hI0 he k2 k4 k5 hfe hb g N;rintro i y ⟨g,c⟩ hy hi him ⟨hR,k2,k4,k5,hfe⟩ IH;dsimp only at*;obtain⟨r,hR,hI,he⟩:=hR.out;obtain⟨mu,V',w,gm⟩:=X6 hR;simp only[BT]at gm;have w1:IntKind.i64.wrap ((i:Int)+1)=(i:Int)+1:=wrap_id (by omega) (by omega);have hpl:=hplace.out ((i:Int)+1) (by omega) (by omega);have hev:=fun i (hi:i∈AD ev)=>(⟨fun a k hk=>QG hfe.out a k hk rfl i hi,FM hfe.out (n:=c+53) (by omega) rfl i hi⟩:(∀a k,c+53≤k→Id.is (a::k::π) i=false)∧Id.under ((c+53)::π) i=false);have hjy:AA (∀st',r=some st'→Iv p sz k st'∧Br p sz st'.d7 ⟨y.node,G.place d ((i:Int)+1),G.env⟩):=⟨fun st' h=>⟨(hI st' h).1,(hI st' h).2 _ (by rw[BP];simp)⟩⟩;replace hR:=AA.mk hR;replace hI:=AA.mk hI;replace he:=AA.mk he;replace hev:=AA.mk hev;rcases hfe.out with⟨hz8,he8⟩|⟨id8,he8,hg8,n8,hn8,hun8,hl8⟩
  .rw[he8]at k5;rw[show G.env.map AI=[] by rw[hz8];rfl]at hpl
   (repeat' (first|simp only[go_sem, *,AM]|(refine sx ?_ ?_<;>intro hc)|refine sy (by omega) fun x hx hm=>?_|simp(disch:=first|assumption|omega) only[AG]))
   rw[show(AU.be [])=.be (G.env.map AI) by rw[hz8];rfl];refine FU (IU IH0 hu.out hR.out ⟨y.node,G.place d ((i:Int)+1),G.env⟩ hjy.out _ (c+75) (by omega) (fun id b2=>?_) fun i hi=>⟨fun a k hk=>(hev.out i hi).1 a k hk,FM hfe.out (by omega) rfl i hi⟩) (fun o1 g1 p1=>?_)
   .simp only[go_sem,b2,AM]
   obtain⟨w8,hC⟩:=p1;subst w8;have b0:=(hC.box 0 (by omega)).trans k2;have b10:=(hC.box 10 (by omega)).trans k4;have b18:=(hC.box 18 (by omega)).trans k5;replace hC:=AA.mk hC
   (repeat' (first|simp only[go_sem, *,AM]|(refine sx ?_ ?_<;>intro hc)|refine sy (by omega) fun x hx hm=>?_|simp(disch:=first|assumption|omega) only[AG]))
   refine IH.out (_,_) ⟨⟨_,UO hC.out.run (by omega),fun st2 h2=>?_,?_⟩,b0,b10,?_,⟨Tk (JO hfe.out hC.out.ne) (by omega)⟩⟩
   .obtain⟨st',rfl,hdn⟩:=HM.1 h2;obtain⟨q1,q2⟩:=hI.out st' rfl;have hdp:=Gl hF k _ _ _ q1.ol (q2 _ (by rw[BP];simp)) hdn;exact⟨q1.post hdp,fun j' hj2=>J2 (q2 j' (by rw[BP,Es];exact EX _ hj2)) hdp.ext⟩
   .rw[he.out];cases r<;>rfl
   .exact b18.trans (by rw[he8])
  .rw[he8]at k5;have q8:=hev.out id8 (by rw[he8];simp[AD]);have q81:=q8.1;replace q8:=AA.mk q8.2;have q82:Id.is m id8=false:=AF fun e=>by rw[←e,gm]at hg8;cases hg8
   have q83: ∀l,Id.is (0::l) id8=false:=fun l=>by obtain⟨l0,rfl⟩:=hl8;exact AF (by simp)
   (repeat' (first|simp only[go_sem, *,AM]|(refine sx ?_ ?_<;>intro hc)|refine sy (by omega) fun x hx hm=>?_|simp(disch:=first|assumption|omega) only[AG]))
   refine FU (IU IH0 hu.out hR.out ⟨y.node,G.place d ((i:Int)+1),G.env⟩ hjy.out _ (c+75) (by omega) (fun id b2=>?_) fun i hi=>⟨fun a k hk=>(hev.out i hi).1 a k hk,FM hfe.out (by omega) rfl i hi⟩) (fun o1 g1 p1=>?_)
   .simp only[go_sem,b2,AM]
   obtain⟨w8,hC⟩:=p1;subst w8;have b0:=(hC.box 0 (by omega)).trans k2;have b10:=(hC.box 10 (by omega)).trans k4;have b18:=(hC.box 18 (by omega)).trans k5;replace hC:=AA.mk hC
   (repeat' (first|simp only[go_sem, *,AM]|(refine sx ?_ ?_<;>intro hc)|refine sy (by omega) fun x hx hm=>?_|simp(disch:=first|assumption|omega) only[AG]))
   refine IH.out (_,_) ⟨⟨_,UO hC.out.run (by omega),fun st2 h2=>?_,?_⟩,b0,b10,?_,⟨Tk (JO hfe.out hC.out.ne) (by omega)⟩⟩
   .obtain⟨st',rfl,hdn⟩:=HM.1 h2;obtain⟨q1,q2⟩:=hI.out st' rfl;have hdp:=Gl hF k _ _ _ q1.ol (q2 _ (by rw[BP];simp)) hdn;exact⟨q1.post hdp,fun j' hj2=>J2 (q2 j' (by rw[BP,Es];exact EX _ hj2)) hdp.ext⟩
   .rw[he.out];cases r<;>rfl
   .exact b18.trans (by rw[he8])
 .clear hr hI0 he k2 k4 k5 hfe hb g N;rintro i ⟨g,c⟩ hi him ⟨hR,k2,k4,k5,hfe⟩;dsimp only at*;obtain⟨r,hR9,hI,he⟩:=hR.out;clear hR;obtain⟨mu,V',w,gm⟩:=X6 hR9;simp only[BT]at gm;have gi:=hi.out;subst gi;clear hi;obtain⟨kd,hkd,_⟩:=hd.out.kid;have hkj:BP d G d.am.length []++A6 x 0 j.at_ G.env=[⟨kd,j.at_,G.env⟩]:=by rw[A6,hkd];rfl
  rw[hkj]at hI he;have he2:R=r.bind (Dg p k ⟨kd,j.at_,G.env⟩):=by
   rw[he];cases r with
   |none=>rfl
   |some s=>exact Kl _ _ _
  rw[hkd]at k2;have hjy:AA (∀st',r=some st'→Iv p sz k st'∧Br p sz st'.d7 ⟨kd,j.at_,G.env⟩):=⟨fun st' h=>⟨(hI st' h).1,(hI st' h).2 _ (by simp)⟩⟩;have hev:=fun i (hi:i∈AD ev)=>(⟨fun a k hk=>QG hfe.out a k hk rfl i hi,FM hfe.out (n:=c+53) (by omega) rfl i hi⟩:(∀a k,c+53≤k→Id.is (a::k::π) i=false)∧Id.under ((c+53)::π) i=false);replace hev:=AA.mk hev;replace hR9:=AA.mk hR9;replace hI:=AA.mk hI;replace he:=AA.mk he;replace he2:=AA.mk he2;replace hkj:=AA.mk hkj;rcases hfe.out with⟨hz8,he8⟩|⟨id8,he8,hg8,n8,hn8,hun8,hl8⟩
  .rw[he8]at k5
   (repeat' (first|simp only[go_sem, *,AM]|(refine sx ?_ ?_<;>intro hc)|refine sy (by omega) fun x hx hm=>?_|simp(disch:=first|assumption|omega) only[AG]))
   rw[show(AU.be [])=.be (G.env.map AI) by rw[hz8];rfl];refine AW (IU IH0 hu.out hR9.out ⟨kd,j.at_,G.env⟩ hjy.out _ (c+66) (by omega) (fun id b2=>?_) fun i hi=>⟨fun a k hk=>(hev.out i hi).1 a k hk,FM hfe.out (by omega) rfl i hi⟩) (fun o1 g1 p1=>?_)
   .first|rfl|simp only[go_sem,b2,AM]
   obtain⟨w8,hC⟩:=p1;subst w8;replace hC:=AA.mk hC
   (repeat' (first|simp only[go_sem, *,AM]|(refine sx ?_ ?_<;>intro hc)|refine sy (by omega) fun x hx hm=>?_|simp(disch:=first|assumption|omega) only[AG]))
   rw[he2.out];exact G1 hC.out.run
  .rw[he8]at k5;have q8:=hev.out id8 (by rw[he8];simp[AD]);have q81:=q8.1;replace q8:=AA.mk q8.2;have q82:Id.is m id8=false:=AF fun e=>by rw[←e,gm]at hg8;cases hg8
   have q83: ∀l,Id.is (0::l) id8=false:=fun l=>by obtain⟨l0,rfl⟩:=hl8;exact AF (by simp)
   (repeat' (first|simp only[go_sem, *,AM]|(refine sx ?_ ?_<;>intro hc)|refine sy (by omega) fun x hx hm=>?_|simp(disch:=first|assumption|omega) only[AG]))
   refine AW (IU IH0 hu.out hR9.out ⟨kd,j.at_,G.env⟩ hjy.out _ (c+66) (by omega) (fun id b2=>?_) fun i hi=>⟨fun a k hk=>(hev.out i hi).1 a k hk,FM hfe.out (by omega) rfl i hi⟩) (fun o1 g1 p1=>?_)
   .first|rfl|simp only[go_sem,b2,AM]
   obtain⟨w8,hC⟩:=p1;subst w8;replace hC:=AA.mk hC
   (repeat' (first|simp only[go_sem, *,AM]|(refine sx ?_ ?_<;>intro hc)|refine sy (by omega) fun x hx hm=>?_|simp(disch:=first|assumption|omega) only[AG]))
   rw[he2.out];exact G1 hC.out.run
theorem Yx{p:AK}{k:Nat}(hF:Bq p sz)(IH0:Rr p sz k)(hu:B4 π V m)(hI:Iv p sz k st)(hd:Dr p sz st.d7 j x d){G:Ay}(hG:G=AX st.d7 d x.n j)
 {e:CB}   {ev:AV} {V2:MV} (en0:e.get 0=.ptr m 0) (en2:e.get 2=.d (.int .i64 (j.at_))) (en5:e.get 5=.ptr (0::0::π) 0) (en8:e.get 8=.ptr (0::10::π) 0) (en9:e.get 9=.ptr (0::18::π) 0) (hb:52≤b) (hR:B5 (BT p false) false π m V h b V2 {st with d7:=BN st.d7 d G} g) (hev: ∀i∈AD ev,i∉V2.ids m)
 (k2:g.get (0::0::π)=some (.box [.d (.int .i64 (x.op)),.d (.int .i64 (x.n)),.d (.be (x.args.map Av)),.d (.be (x.kids.map AO))])) (k4:g.get (0::10::π)=some (.box [.d (.be (d.ac.map Ab)),.d (.be (d.am.map AR)),.d (.be (d.rules.map Af))])) (k5:g.get (0::18::π)=some (.box [.d (.int .i64 (x.n)),.d (.int .i64 (j.at_)),ev])) (hfe:KO .emp π g b ev G.env):
 Wp cfg (KL Tryz.prog cfg) ⟨144,π,true,none,false,221⟩ 0 (YK 8 (Tryz.f144.body.get rfl)) ⟨e,g,b,[]⟩ (Ka cfg none [] π true (L3 p π m V h (Fy (Dg p k) (Ds p x j st)))):=by
 have um:=hu m (V.m_mem m);have e1:=AE um;have e2:=AZ um;have hx:=hd.node;have hdl:=hd.eq;have d1:=hd.ok.ac;have d2:=hd.ok.am;obtain⟨n3,hn3⟩: ∃n,n=st.d7.ac.length:=⟨_,rfl⟩;obtain⟨n0,hn0⟩: ∃n,n=st.d7.am.length:=⟨_,rfl⟩;obtain⟨ng,hng⟩: ∃n,n=st.d7.ce.length:=⟨_,rfl⟩;have c1:(BN st.d7 d G).ac.length=n3+d.ac.length:=by simp[BN,Dy,hn3]
 have c2:(BN st.d7 d G).am.length=n0+d.am.length:=by simp[BN,DP,hn0]
 have c3:(BN st.d7 d G).ce.length=ng+1:=by simp[BN,hng]
 have hdo2:Ds p x j st=if n3+d.ac.length≤60∧n0+d.am.length≤24∧ng+1≤40 then some ({st with d7:=BN st.d7 d G},BP d G 0 d.am++A6 x 0 j.at_ G.env)else none:=by
  simp only[Ds,hdl,←hG,c1,c2,c3]
 have hmS:=hI.ol.small;simp only[CW.small,AS,As]at hmS;obtain⟨s1,s2,s3,s4⟩:=hmS;have gm:=hR.rep.box;simp only[BT]at gm;have hl3:=La hR.rep.arr;rw[hR.rep.ac.len,c1]at hl3;have hl0:=Ga (hR.rep.sl 0 (by omega));simp only[Ad,Bi,c2]at hl0;have hl1:=Ga (hR.rep.sl 1 (by omega));simp only[Ad,Bi,c3]at hl1;clear c1 c2 c3;have hplace:=AA.mk (OG hF hd hG);replace hdo2:=AA.mk hdo2;replace hG:=AA.mk hG;replace hu:=AA.mk hu;replace hd:=AA.mk hd;replace hI:=AA.mk hI;replace hR:=AA.mk hR;replace hev:=AA.mk hev;replace hn3:=AA.mk hn3;replace hn0:=AA.mk hn0;replace hng:=AA.mk hng;refine RA 1 fun T hT=>?_;have hend:AA (∀(e:CB) (H:AB) (mu:Bool),mu=decide (¬(n3+d.ac.length≤60∧n0+d.am.length≤24∧ng+1≤40))→e.get 0=.ptr m 0→e.get 2=.d (.int .i64 (j.at_))→e.get 5=.ptr (0::0::π) 0→e.get 8=.ptr (0::10::π) 0→e.get 9=.ptr (0::18::π) 0→H.get m=some (.box (BT p mu V2 st.work))→(∀id,Id.is m id=false→H.get id=g.get id)→Wp cfg (KL Tryz.prog cfg) ⟨144,π,true,none,false,221⟩ 0 T ⟨e,H,b+35,[]⟩ (Ka cfg none [] π true (L3 p π m V h (Fy (Dg p k) (Ds p x j st))))):=⟨fun e H mu h1 x0 x2 x5 x8 x9 y1 y2=>by
  rw[hT];have hbox:=fun k=>y2 (0::k::π) (e2 0 k);refine VW hF IH0 hu.out (r0:=if mu=true then none else some {st with d7:=BN st.d7 d G}) (ev:=ev) hd.out hG.out x0 x2 x5 x8 x9 (by omega) ?_ ?_ ?_ ((hbox 0).trans k2) ((hbox 10).trans k4) ((hbox 18).trans k5) (Tk (JO hfe fun i hi=>y2 i (AF fun e=>hev.out i hi (by rw[←e];exact V2.m_mem m))) (by omega))
  .cases mu with
   |true=>
    rw[D7 rfl];exact⟨⟨V2,st.work,y1⟩,fun id a c=>(y2 id (AF fun e=>a (by rw[←e];exact V.m_mem m))).trans (hR.out.frame id a c),fun i hi=>AF fun e=>hev.out i hi (by rw[←e];exact V2.m_mem m)⟩
   |false=>
    rw[D3 (by simp)];refine⟨V2,(hR.out.loc (H:=H) hu.out fun id _=>?_).up (by omega),hev.out⟩;by_cases hid:id=m
    .rw[hid,y1];exact hR.out.rep.box.symm
    .exact y2 id (AF fun e=>hid e.symm)
  .intro st' hs;cases mu with
   |true=>rw[D7 rfl]at hs;cases hs
   |false=>
    rw[D3 (by simp)]at hs;cases hs;have hfit:n3+d.ac.length≤60∧n0+d.am.length≤24∧ng+1≤40:=Decidable.of_not_not (of_decide_eq_false h1.symm);have hjp:=P8 (st':={st with d7:=BN st.d7 d G}) hF hI.out.ol hd.out.job hx hd.out.op (by rw[hdo2.out,D7 hfit])
    exact⟨⟨hjp.ol,hI.out.w0,hI.out.w1,hI.out.w2,hI.out.ev⟩,hjp.jobs⟩
  .rw[hdo2.out];cases mu with
   |true=>rw[D3 (of_decide_eq_true h1.symm)];rfl
   |false=>rw[D7 (Decidable.of_not_not (of_decide_eq_false h1.symm))];rfl⟩
 replace hT:=AA.mk hT;have cl: ¬(n3+d.ac.length≤60∧n0+d.am.length≤24∧ng+1≤40)∨(n3+d.ac.length≤60∧n0+d.am.length≤24∧ng+1≤40):=by omega
 replace cl:=AA.mk cl;by_cases c60:(60:Int)<(n3+d.ac.length:Nat)
 .simp only[Tryz.f144,AP,YK,PG]
  (repeat' (first|simp only[go_sem, *,↓hl3,↓hl0,↓hl1,AM]|(refine sx ?_ ?_<;>intro hc)|refine sy (by omega) fun x hx hm=>?_|simp(disch:=first|assumption|omega) only[AG]))
  refine hend.out _ _ true ?_ en0 en2 en5 en8 en9 ?_ fun id b1=>?_
  .exact(DO (by omega)).symm
  .simp only[go_sem,BT]
  .simp only[go_sem,b1,AM]
 by_cases c24:(24:Int)<(n0+d.am.length:Nat)
 .simp only[Tryz.f144,AP,YK,PG]
  (repeat' (first|simp only[go_sem, *,↓hl3,↓hl0,↓hl1,AM]|(refine sx ?_ ?_<;>intro hc)|refine sy (by omega) fun x hx hm=>?_|simp(disch:=first|assumption|omega) only[AG]))
  refine hend.out _ _ true ?_ en0 en2 en5 en8 en9 ?_ fun id b1=>?_
  .exact(DO (by omega)).symm
  .simp only[go_sem,BT]
  .simp only[go_sem,b1,AM]
 by_cases c40:(40:Int)<(ng+1:Nat)
 .simp only[Tryz.f144,AP,YK,PG]
  (repeat' (first|simp only[go_sem, *,↓hl3,↓hl0,↓hl1,AM]|(refine sx ?_ ?_<;>intro hc)|refine sy (by omega) fun x hx hm=>?_|simp(disch:=first|assumption|omega) only[AG]))
  refine hend.out _ _ true ?_ en0 en2 en5 en8 en9 ?_ fun id b1=>?_
  .exact(DO (by omega)).symm
  .simp only[go_sem,BT]
  .simp only[go_sem,b1,AM]
 .simp only[Tryz.f144,AP,YK,PG]
  (repeat' (first|simp only[go_sem, *,↓hl3,↓hl0,↓hl1,AM]|(refine sx ?_ ?_<;>intro hc)|refine sy (by omega) fun x hx hm=>?_|simp(disch:=first|assumption|omega) only[AG]))
  refine hend.out _ _ false ?_ en0 en2 en5 en8 en9 ?_ fun id b1=>?_
  .exact(Cs (by omega)).symm
  .simp only[go_sem,BT]
  .simp only[go_sem,b1,AM]
theorem Yy{p:AK}{sz:List Int}{k:Nat}(hF:Bq p sz)(IH0:Rr p sz k){h:AB}{π:List Nat}{m:Abs.Id}{V:MV}{st:CC}(hM:lJ p h m V st)(hu:B4 π V m)(hI:Iv p sz k st){j:FW}{x:CT}{d:Bz}(hd:Dr p sz st.d7 j x d){G:Ay}(hG:G=AX st.d7 d x.n j)
 {e:CB} {g:AB} {b:Nat} {ev:AV} (en0:e.get 0=.ptr m 0) (en2:e.get 2=.d (.int .i64 (j.at_))) (en5:e.get 5=.ptr (0::0::π) 0) (en8:e.get 8=.ptr (0::10::π) 0) (en9:e.get 9=.ptr (0::18::π) 0) (hb:32≤b) (k1: ∀id,Id.under π id=false→g.get id=h.get id)
 (k2:g.get (0::0::π)=some (.box [.d (.int .i64 (x.op)),.d (.int .i64 (x.n)),.d (.be (x.args.map Av)),.d (.be (x.kids.map AO))])) (k4:g.get (0::10::π)=some (.box [.d (.be (d.ac.map Ab)),.d (.be (d.am.map AR)),.d (.be (d.rules.map Af))])) (k5:g.get (0::18::π)=some (.box [.d (.int .i64 (x.n)),.d (.int .i64 (j.at_)),ev])) (kl2:KF .emp π g b ev G.env):
 Wp cfg (KL Tryz.prog cfg) ⟨144,π,true,none,false,221⟩ 0 (YK 5 (Tryz.f144.body.get rfl)) ⟨e,g,b,[]⟩ (Ka cfg none [] π true (L3 p π m V h (Fy (Dg p k) (Ds p x j st)))):=by
 have um:=hu m (V.m_mem m);have e1:=AE um;have e2:=AZ um;have d1:=hd.ok.ac;have d2:=hd.ok.am;have hGd:G.eq=x.n:=by rw[hG];rfl
 have hGa:G.at_=j.at_:=by rw[hG];rfl
 have hmS:=hI.ol.small;simp only[CW.small,AS,As]at hmS;obtain⟨s1,s2,s3,s4⟩:=hmS;obtain⟨ng,hng⟩: ∃n,n=st.d7.ce.length:=⟨_,rfl⟩;obtain⟨n3,hn3⟩: ∃n,n=st.d7.ac.length:=⟨_,rfl⟩;obtain⟨n0,hn0⟩: ∃n,n=st.d7.am.length:=⟨_,rfl⟩;have s2':ng≤40:=by omega
 obtain⟨NC,hNC⟩: ∃l,l=EE d G ng 0 d.ac:=⟨_,rfl⟩;have hNCa: ∀(t:Nat) c,d.ac[t]? =some c→NC[t]? =some ⟨ng,t,G.place d c.at_,[]⟩:=fun t c hc=>by rw[hNC,Gv,hc];simp
 have hplace:=AA.mk (OG hF hd hG);have hR:AA (B5 (BT p false) false π m V h b V st g):=⟨(OT hM hu k1).up (by omega)⟩;refine RA 3 fun T hT=>?_;have hend:AA (∀(e:CB) (H:AB) (c:Nat),e.get 0=.ptr m 0→e.get 2=.d (.int .i64 (j.at_))→e.get 5=.ptr (0::0::π) 0→e.get 8=.ptr (0::10::π) 0→e.get 9=.ptr (0::18::π) 0→(∃V2,B5 (BT p false) false π m V h (c+52) V2 {st with d7:=BN st.d7 d G} H∧ ∀i∈AD ev,i∉V2.ids m)→H.get (0::0::π)=some (.box [.d (.int .i64 (x.op)),.d (.int .i64 (x.n)),.d (.be (x.args.map Av)),.d (.be (x.kids.map AO))])→H.get (0::10::π)=some (.box [.d (.be (d.ac.map Ab)),.d (.be (d.am.map AR)),.d (.be (d.rules.map Af))])→H.get (0::18::π)=some (.box [.d (.int .i64 (x.n)),.d (.int .i64 (j.at_)),ev])→KO .emp π H (c+52) ev G.env→Wp cfg (KL Tryz.prog cfg) ⟨144,π,true,none,false,221⟩ 0 T ⟨e,H,c+52,[]⟩ (Ka cfg none [] π true (L3 p π m V h (Fy (Dg p k) (Ds p x j st))))):=⟨fun e H c x0 x2 x5 x8 x9 hr y2 y4 y5 hf=>by
  obtain⟨V2,hr,hv⟩:=hr;rw[hT];exact Yx hF IH0 hu hI hd hG x0 x2 x5 x8 x9 (by omega) hr hv y2 y4 y5 hf⟩
 replace hT:=AA.mk hT;replace hM:=AA.mk hM;replace hu:=AA.mk hu;replace hd:=AA.mk hd;replace hI:=AA.mk hI;replace hG:=AA.mk hG;replace hng:=AA.mk hng;replace hn3:=AA.mk hn3;replace hn0:=AA.mk hn0;replace hNC:=AA.mk hNC;replace hNCa:=AA.mk hNCa;replace k1:=AA.mk k1;obtain⟨N,hN⟩: ∃N,b=N+32:=⟨b-32,by omega⟩;subst hN;simp only[Tryz.f144,AP,YK,PG]
 (repeat' (first|simp only[go_sem, *]|(refine sx ?_ ?_<;>intro hc)|refine sy (by omega) fun x hx hm=>?_|simp(disch:=first|assumption|omega) only[AG]))
 clear en0 en2 en5 en8 en9;refine Au d.ac (S:=fun i (a:AB×Nat)=>⟨[(0,.ptr m 0),(2,.d (.int .i64 (j.at_))),(5,.ptr (0::0::π) 0),(8,.ptr (0::10::π) 0),(9,.ptr (0::18::π) 0),(12,.d (.int .i64 (i)))],a.1,a.2+33,[]⟩)
  (Inv:=fun i rest a=>AA (∃V',B5 (BT p false) false π m V h (a.2+33) V' {st with d7:={st.d7 with ac:=st.d7.ac++NC.take i}} a.1∧ ∀i∈AD ev,i∉V'.ids m)∧a.1.get (0::0::π)=some (.box [.d (.int .i64 (x.op)),.d (.int .i64 (x.n)),.d (.be (x.args.map Av)),.d (.be (x.kids.map AO))])∧a.1.get (0::10::π)=some (.box [.d (.be (d.ac.map Ab)),.d (.be (d.am.map AR)),.d (.be (d.rules.map Af))])∧a.1.get (0::18::π)=some (.box [.d (.int .i64 (x.n)),.d (.int .i64 (j.at_)),ev])∧AA (KF .emp π a.1 (a.2+33) ev G.env)) (b0:=(_,N)) ⟨⟨V,?_,Wu kl2 hu.out⟩,k2,k4,k5,⟨Ic kl2 (by omega)⟩⟩ ?_ ?_
 .rw[List.take_zero,EL];exact hR.out.up (by omega)
 .clear hR kl2 k1 k2 k4 k5 hb g N;rintro i y ⟨g,c⟩ hy hi him ⟨hR,k2,k4,k5,kl⟩ IH;dsimp only at*;obtain⟨V',hR,hev⟩:=hR.out;have hevn:=GJ kl.out (c+73);have hpy:=hd.out.ok.chan y (Ap hy);have w1:IntKind.i64.wrap ((i:Int)+1)=(i:Int)+1:=wrap_id (by omega) (by omega);have gm:=hR.rep.box;have hpl:=hplace.out y.at_ hpy.1 hpy.2.1;simp only[BT]at gm;have hl1:=Ga (hR.rep.sl 1 (by omega));simp only[Ad,Bi,←hng.out]at hl1;have hv3:=hR.rep.arr;have hA3:AA (∀A,V'.v3=.d8 A 0 V'.rows.length→(∀a n,c+33≤n→Id.is (a::n::π) A=false)∧(∀a n,c+33≤n→Id.is A (a::n::π)=false)∧Id.is A m=false∧Id.is m A=false∧ ∀k,Id.is A (0::k::π)=false):=⟨fun A hA=>by
   have hi:=hR.ids A (V'.v3_mem m (by rw[hA];simp[AD]));have hg:=GW hR.rep.arr (id:=A) (by rw[hA];simp[AD]);exact⟨HS (b':=0) hu.out hi,JX hu.out hi,AF fun e=>(by rw[e,gm]at hg;cases hg),AF fun e=>(by rw[←e,gm]at hg;cases hg),fun k=>AF fun e=>HK hR hu.out k (by rw[←e];exact V'.v3_mem m (by rw[hA];simp[AD]))⟩⟩
  have hrl:V'.rows.length≤1000:=by
   have:=hR.rep.ac.len;simp only[D9,RS]at this;omega
  have hgo:AA (∀H:AB,H.get m=some (.box (BT p false {V' with v3:=.d8 (1::(c+65)::π) 0 (V'.rows.length+1)} st.work))→H.get (1::(c+65)::π)=some (.arr 4 (V'.rows++[Ah ⟨ng,i,G.place d y.at_,[]⟩ .ci]))→(∀id,Id.is m id=false→(∀id2∈AD V'.v3,Id.is id2 id=false)→HP (c+33) (c+73) π id=false→H.get id=g.get id)→ ∃V2,B5 (BT p false) false π m V h (c+73) V2 {st with d7:={st.d7 with ac:=st.d7.ac++NC.take (i+1)}} H∧ ∀i∈AD ev,i∉V2.ids m):=⟨fun H a1 a0 a4=>by
   obtain⟨V2,z1,z2⟩:=hR.step (b':=c+73) (by omega) (VK hR.rep (hR.apartB hu.out) (q:=⟨ng,i,G.place d y.at_,[]⟩) rfl (1::(c+65)::π) H a1 a0 ⟨EU (c+65) [1] (by omega) (by omega),_,rfl⟩ a4);rw[I5,hNCa.out i y hy,←ES];exact⟨V2,z1,fun i hi=>z2 i (hev i hi) (hevn i hi)⟩⟩
  replace hevn:=AA.mk hevn;replace hev:=AA.mk hev;replace hR:=AA.mk hR;replace kl:=kl.out;rcases kl with⟨hz,rfl⟩|⟨id,rfl,hg,n,hnb,hun,hl⟩
  .rw[hz,Be]at hpl;replace hz:=AA.mk hz;rcases hv3 with⟨hv3,hr0⟩|⟨A,hv3,gA⟩
   .rw[hv3]at gm
    (repeat' (first|simp only[go_sem, *,↓hl1,D4,AM]|(refine sx ?_ ?_<;>intro hc)|refine sy (by omega) fun x hx hm=>?_|simp(disch:=first|assumption|omega) only[AG]))
    refine IH.out (_,_) ⟨⟨hgo.out _ ?_ ?_ fun id2 b1 b2 b3=>?_⟩,?_,?_,?_,⟨.inl ⟨hz.out,rfl⟩⟩⟩
    .rw[hr0];simp only[go_sem,BT,AM];first|done|rfl
    .rw[hr0];simp only[go_sem,e2,Ah,AM];first|done|rfl
    .have q6:=BO b3;simp only[go_sem,q6,b1,AM]
    .simp only[go_sem,k2,e2,AM]
    .simp only[go_sem,k4,e2,AM]
    .simp only[go_sem,k5,e2,AM]
   .obtain⟨q1,q2,q3,q4,q5⟩:=hA3.out A hv3;rw[hv3]at gm
    (repeat' (first|simp only[go_sem, *,↓hl1,D4,AM]|(refine sx ?_ ?_<;>intro hc)|refine sy (by omega) fun x hx hm=>?_|simp(disch:=first|assumption|omega) only[AG]))
    refine IH.out (_,_) ⟨⟨hgo.out _ ?_ ?_ fun id2 b1 b2 b3=>?_⟩,?_,?_,?_,⟨.inl ⟨hz.out,rfl⟩⟩⟩
    .simp only[go_sem,BT,AM,q1,q2,q3,q4,q5];first|done|rfl
    .simp only[go_sem,e2,Ah,AM,q1,q2,q3,q4,q5];first|done|rfl
    .have q6:=BO b3;have q7:=b2 A (by rw[hv3];simp[AD]);simp only[go_sem,q6,b1,q7,AM]
    .simp only[go_sem,k2,e2,AM,q1,q2,q3,q4,q5]
    .simp only[go_sem,k4,e2,AM,q1,q2,q3,q4,q5]
    .simp only[go_sem,k5,e2,AM,q1,q2,q3,q4,q5]
  .obtain⟨f1,f2,f3,f4⟩:=Da hnb hun hl;have mi:Id.is m id=false:=AF fun e=>by rw[←e,gm]at hg;cases hg
   have im:Id.is id m=false:=AF fun e=>by rw[e,gm]at hg;cases hg
   replace hun:=AA.mk hun;replace hl:=AA.mk hl;rcases hv3 with⟨hv3,hr0⟩|⟨A,hv3,gA⟩
   .rw[hv3]at gm
    (repeat' (first|simp only[go_sem, *,↓hl1,D4,AM]|(refine sx ?_ ?_<;>intro hc)|refine sy (by omega) fun x hx hm=>?_|simp(disch:=first|assumption|omega) only[AG]))
    refine IH.out (_,_) ⟨⟨hgo.out _ ?_ ?_ fun id2 b1 b2 b3=>?_⟩,?_,?_,?_,⟨.inr ⟨id,rfl,?_,n,by omega,hun.out,hl.out⟩⟩⟩
    .rw[hr0];simp only[go_sem,BT,AM,f1,f2,f3,f4,mi,im];first|done|rfl
    .rw[hr0];simp only[go_sem,e2,Ah,AM,f1,f2,f3,f4,mi,im];first|done|rfl
    .have q6:=BO b3;simp only[go_sem,q6,b1,AM]
    .simp only[go_sem,k2,e2,AM,f1,f2,f3,f4,mi,im]
    .simp only[go_sem,k4,e2,AM,f1,f2,f3,f4,mi,im]
    .simp only[go_sem,k5,e2,AM,f1,f2,f3,f4,mi,im]
    .simp only[go_sem,hg,AM,f1,f2,f3,f4,mi,im]
   .obtain⟨q1,q2,q3,q4,q5⟩:=hA3.out A hv3;rw[hv3]at gm;have Ai:Id.is A id=false:=AF fun e=>by rw[e,hg]at gA;cases gA
    have iA:Id.is id A=false:=AF fun e=>by rw[←e,hg]at gA;cases gA
    (repeat' (first|simp only[go_sem, *,↓hl1,D4,AM]|(refine sx ?_ ?_<;>intro hc)|refine sy (by omega) fun x hx hm=>?_|simp(disch:=first|assumption|omega) only[AG]))
    refine IH.out (_,_) ⟨⟨hgo.out _ ?_ ?_ fun id2 b1 b2 b3=>?_⟩,?_,?_,?_,⟨.inr ⟨id,rfl,?_,n,by omega,hun.out,hl.out⟩⟩⟩
    .simp only[go_sem,BT,AM,f1,f2,f3,f4,mi,im,q1,q2,q3,q4,q5,Ai,iA];first|done|rfl
    .simp only[go_sem,e2,Ah,AM,f1,f2,f3,f4,mi,im,q1,q2,q3,q4,q5,Ai,iA];first|done|rfl
    .have q6:=BO b3;have q7:=b2 A (by rw[hv3];simp[AD]);simp only[go_sem,q6,b1,q7,AM]
    .simp only[go_sem,k2,e2,AM,f1,f2,f3,f4,mi,im,q1,q2,q3,q4,q5,Ai,iA]
    .simp only[go_sem,k4,e2,AM,f1,f2,f3,f4,mi,im,q1,q2,q3,q4,q5,Ai,iA]
    .simp only[go_sem,k5,e2,AM,f1,f2,f3,f4,mi,im,q1,q2,q3,q4,q5,Ai,iA]
    .simp only[go_sem,hg,AM,f1,f2,f3,f4,mi,im,q1,q2,q3,q4,q5,Ai,iA]
 .clear hR kl2 k1 k2 k4 k5 hb g N;rintro i ⟨g,c⟩ hi him ⟨hR,k2,k4,k5,kl⟩;dsimp only at*;have gi:=hi.out;subst gi;clear hi;have hNCl:NC.length=d.ac.length:=by rw[hNC.out,Dy]
  rw[←hNCl,D4]at hR;obtain⟨V0,hR0,hev0⟩:=hR.out;clear hR;replace hev0:=AA.mk hev0;replace hR0:=AA.mk hR0;have kl2:=kl;clear kl
  (repeat' (first|simp only[go_sem, *]|(refine sx ?_ ?_<;>intro hc)|refine sy (by omega) fun x hx hm=>?_|simp(disch:=first|assumption|omega) only[AG]))
  obtain⟨NS,hNS⟩: ∃l,l=CY d G d.am:=⟨_,rfl⟩;have hNSa: ∀(t:Nat) c,d.am[t]? =some c→NS[t]? =some ⟨G.place d c.pp,false⟩:=fun t c hc=>by rw[hNS,CY,D5,hc];rfl
  have hNSl:NS.length=d.am.length:=by rw[hNS,DP]
  have hn1:1≤n0:=by rw[hn0.out];exact hI.out.ol.tree.pos
  replace hNS:=AA.mk hNS;replace hNSa:=AA.mk hNSa;replace hNCl:=AA.mk hNCl;replace hNSl:=AA.mk hNSl;refine Au d.am (S:=fun i (a:AB×Nat)=>⟨[(0,.ptr m 0),(2,.d (.int .i64 (j.at_))),(5,.ptr (0::0::π) 0),(8,.ptr (0::10::π) 0),(9,.ptr (0::18::π) 0),(13,.d (.int .i64 (i)))],a.1,a.2+34,[]⟩)
   (Inv:=fun i rest a=>AA (∃V',B5 (BT p false) false π m V h (a.2+34) V' {st with d7:={st.d7 with ac:=st.d7.ac++NC,am:=st.d7.am++NS.take i}} a.1∧ ∀i∈AD ev,i∉V'.ids m)∧a.1.get (0::0::π)=some (.box [.d (.int .i64 (x.op)),.d (.int .i64 (x.n)),.d (.be (x.args.map Av)),.d (.be (x.kids.map AO))])∧a.1.get (0::10::π)=some (.box [.d (.be (d.ac.map Ab)),.d (.be (d.am.map AR)),.d (.be (d.rules.map Af))])∧a.1.get (0::18::π)=some (.box [.d (.int .i64 (x.n)),.d (.int .i64 (j.at_)),ev])∧AA (KF .emp π a.1 (a.2+34) ev G.env)) (b0:=(_,c+5)) ⟨⟨V0,?_,hev0.out⟩,k2,k4,k5,⟨Ic kl2.out (by omega)⟩⟩ ?_ ?_
  .rw[List.take_zero,EL];exact hR0.out.up (by omega)
  .clear hR0 hev0 kl2 k2 k4 k5 g c V0;rintro i y ⟨g,c⟩ hy hi him ⟨hR,k2,k4,k5,kl⟩ IH;dsimp only at*;obtain⟨V',hR,hev⟩:=hR.out;have hevn:=GJ kl.out (c+67);have hpy:=IE hd.out.ok.spot i y hy;have w1:IntKind.i64.wrap ((i:Int)+1)=(i:Int)+1:=wrap_id (by omega) (by omega);have gm:=hR.rep.box;have hpl:=hplace.out y.pp hpy.1 (by omega);simp only[BT]at gm;have hs:=hR.rep.sl 0 (by omega);obtain⟨LS,hLS⟩: ∃l,l=st.d7.am++NS.take i:=⟨_,rfl⟩;have hLSl:LS.length≤100:=by rw[hLS];simp;omega
   simp only[Er,Ad,←hLS]at hs;have hLS0:LS≠ []:=by
    intro e;have h2:LS.length=0:=by rw[e];rfl
    rw[hLS,D9]at h2;have:=hI.out.ol.tree.pos;omega
   rcases hs with⟨_,hs⟩|⟨S,xs,hs,gS⟩
   .exact absurd (F9.1 hs) hLS0
   have hgo:AA (∀(v:AV) (H:AB),H.get m=some (.box (BT p false (V'.f9 0 v) st.work))→Nv H 2 v ((LS++[(⟨G.place d y.pp,false⟩:Cr)]).map A9)→(AD v=AD (V'.s 0)∨ ∀id∈AD v,HP (c+34) (c+67) π id=true∧ ∃l,id=1::l)→(∀id,Id.is m id=false→(∀id2∈AD (V'.s 0),Id.is id2 id=false)→HP (c+34) (c+67) π id=false→H.get id=g.get id)→ ∃V2,B5 (BT p false) false π m V h (c+67) V2 {st with d7:={st.d7 with ac:=st.d7.ac++NC,am:=st.d7.am++NS.take (i+1)}} H∧ ∀i∈AD ev,i∉V2.ids m):=⟨fun v H a1 a2 a3 a4=>by
    obtain⟨V2,z1,z2⟩:=hR.step (b':=c+67) (by omega) (G4 (st':={st with d7:={st.d7 with ac:=st.d7.ac++NC,am:=LS++[⟨G.place d y.pp,false⟩]}}) 0 (by omega) hR.rep (hR.apartB hu.out) (wB rfl rfl rfl) rfl v H a1 a2 a3 a4)
    rw[I5,hNSa.out i y hy,←ES,←hLS];exact⟨V2,z1,fun i hi=>z2 i (hev i hi) (hevn i hi)⟩⟩
   replace hevn:=AA.mk hevn;replace hev:=AA.mk hev;rw[Bi]at hs;have hSi:=hR.ids S (V'.s_mem m (i:=0) (by omega) (by rw[hs];simp[AD]));have q1:=fun a n hn=>HS (b':=0) hu.out hSi a n hn;have q2:=fun a n hn=>JX hu.out hSi a n hn;have q3:Id.is S m=false:=AF fun e=>by rw[e,gm]at gS;cases gS
   have q4:Id.is m S=false:=AF fun e=>by rw[←e,gm]at gS;cases gS
   have q5: ∀k,Id.is S (0::k::π)=false:=fun k=>AF fun e=>HK hR hu.out k (by rw[←e];exact V'.s_mem m (i:=0) (by omega) (by rw[hs];simp[AD]));rw[hs]at gm;replace hLS:=AA.mk hLS;replace hR:=AA.mk hR;replace kl:=kl.out;rcases kl with⟨hz,rfl⟩|⟨id,rfl,hg,n,hnb,hun,hl⟩
   .rw[hz,Be]at hpl;replace hz:=AA.mk hz;rcases xs with _|⟨z,xs⟩
    ·(repeat' (first|simp only[go_sem, *,D4,AM]|(refine sx ?_ ?_<;>intro hc)|refine sy (by omega) fun x hx hm=>?_|simp(disch:=first|assumption|omega) only[AG]))
     refine IH.out (_,_) ⟨⟨hgo.out (.d8 (1::(c+59)::π) 0 (LS.length+1)) _ ?_ (Aq [] (by simp) ?_) (.inr fun id2 hid=>?_) fun id2 b1 b2 b3=>?_⟩,?_,?_,?_,⟨.inl ⟨hz.out,rfl⟩⟩⟩
     .simp only[go_sem,BT,AM,q1,q2,q3,q4,q5];first|done|rfl
     .simp only[go_sem,e2,BV,Be,AM,q1,q2,q3,q4,q5];first|done|rfl
     .simp only[AD,Ac]at hid;subst hid;exact⟨EU (c+59) [1] (by omega) (by omega),_,rfl⟩
     .have q6:=BO b3;have q7:=b2 S (by rw[hs];simp[AD]);simp only[go_sem,q6,b1,q7,AM]
     .simp only[go_sem,k2,e2,AM,q1,q2,q3,q4,q5]
     .simp only[go_sem,k4,e2,AM,q1,q2,q3,q4,q5]
     .simp only[go_sem,k5,e2,AM,q1,q2,q3,q4,q5]
    ·(repeat' (first|simp only[go_sem, *,D4,AM]|(refine sx ?_ ?_<;>intro hc)|refine sy (by omega) fun x hx hm=>?_|simp(disch:=first|assumption|omega) only[AG]))
     refine IH.out (_,_) ⟨⟨hgo.out (.d8 S 0 (LS.length+1)) _ ?_ (Aq xs (by simp) ?_) (.inl (by rw[hs];rfl)) fun id2 b1 b2 b3=>?_⟩,?_,?_,?_,⟨.inl ⟨hz.out,rfl⟩⟩⟩
     .simp only[go_sem,BT,AM,q1,q2,q3,q4,q5];first|done|rfl
     .simp only[go_sem,e2,BV,Be,AM,q1,q2,q3,q4,q5];first|done|rfl
     .have q6:=BO b3;have q7:=b2 S (by rw[hs];simp[AD]);simp only[go_sem,q6,b1,q7,AM]
     .simp only[go_sem,k2,e2,AM,q1,q2,q3,q4,q5]
     .simp only[go_sem,k4,e2,AM,q1,q2,q3,q4,q5]
     .simp only[go_sem,k5,e2,AM,q1,q2,q3,q4,q5]
   .obtain⟨f1,f2,f3,f4⟩:=Da hnb hun hl;have mi:Id.is m id=false:=AF fun e=>by rw[←e,gm]at hg;cases hg
    have im:Id.is id m=false:=AF fun e=>by rw[e,gm]at hg;cases hg
    have Ai:Id.is S id=false:=AF fun e=>hev.out id (by simp[AD]) (by rw[←e];exact V'.s_mem m (i:=0) (by omega) (by rw[hs];simp[AD]));have iA:Id.is id S=false:=AF fun e=>by rw[e,is_self]at Ai;cases Ai
    replace hun:=AA.mk hun;replace hl:=AA.mk hl;rcases xs with _|⟨z,xs⟩
    ·(repeat' (first|simp only[go_sem, *,D4,AM]|(refine sx ?_ ?_<;>intro hc)|refine sy (by omega) fun x hx hm=>?_|simp(disch:=first|assumption|omega) only[AG]))
     refine IH.out (_,_) ⟨⟨hgo.out (.d8 (1::(c+59)::π) 0 (LS.length+1)) _ ?_ (Aq [] (by simp) ?_) (.inr fun id2 hid=>?_) fun id2 b1 b2 b3=>?_⟩,?_,?_,?_,⟨.inr ⟨id,rfl,?_,n,by omega,hun.out,hl.out⟩⟩⟩
     .simp only[go_sem,BT,AM,q1,q2,q3,q4,q5,f1,f2,f3,f4,mi,im,Ai,iA];first|done|rfl
     .simp only[go_sem,e2,BV,Be,AM,q1,q2,q3,q4,q5,f1,f2,f3,f4,mi,im,Ai,iA];first|done|rfl
     .simp only[AD,Ac]at hid;subst hid;exact⟨EU (c+59) [1] (by omega) (by omega),_,rfl⟩
     .have q6:=BO b3;have q7:=b2 S (by rw[hs];simp[AD]);simp only[go_sem,q6,b1,q7,AM]
     .simp only[go_sem,k2,e2,AM,q1,q2,q3,q4,q5,f1,f2,f3,f4,mi,im,Ai,iA]
     .simp only[go_sem,k4,e2,AM,q1,q2,q3,q4,q5,f1,f2,f3,f4,mi,im,Ai,iA]
     .simp only[go_sem,k5,e2,AM,q1,q2,q3,q4,q5,f1,f2,f3,f4,mi,im,Ai,iA]
     .simp only[go_sem,hg,AM,q1,q2,q3,q4,q5,f1,f2,f3,f4,mi,im,Ai,iA]
    ·(repeat' (first|simp only[go_sem, *,D4,AM]|(refine sx ?_ ?_<;>intro hc)|refine sy (by omega) fun x hx hm=>?_|simp(disch:=first|assumption|omega) only[AG]))
     refine IH.out (_,_) ⟨⟨hgo.out (.d8 S 0 (LS.length+1)) _ ?_ (Aq xs (by simp) ?_) (.inl (by rw[hs];rfl)) fun id2 b1 b2 b3=>?_⟩,?_,?_,?_,⟨.inr ⟨id,rfl,?_,n,by omega,hun.out,hl.out⟩⟩⟩
     .simp only[go_sem,BT,AM,q1,q2,q3,q4,q5,f1,f2,f3,f4,mi,im,Ai,iA];first|done|rfl
     .simp only[go_sem,e2,BV,Be,AM,q1,q2,q3,q4,q5,f1,f2,f3,f4,mi,im,Ai,iA];first|done|rfl
     .have q6:=BO b3;have q7:=b2 S (by rw[hs];simp[AD]);simp only[go_sem,q6,b1,q7,AM]
     .simp only[go_sem,k2,e2,AM,q1,q2,q3,q4,q5,f1,f2,f3,f4,mi,im,Ai,iA]
     .simp only[go_sem,k4,e2,AM,q1,q2,q3,q4,q5,f1,f2,f3,f4,mi,im,Ai,iA]
     .simp only[go_sem,k5,e2,AM,q1,q2,q3,q4,q5,f1,f2,f3,f4,mi,im,Ai,iA]
     .simp only[go_sem,hg,AM,q1,q2,q3,q4,q5,f1,f2,f3,f4,mi,im,Ai,iA]
  .clear hR0 hev0 kl2 k2 k4 k5 g c V0 him;rintro i ⟨g,c⟩ hi him ⟨hR,k2,k4,k5,kl⟩;dsimp only at*;have gi:=hi.out;subst gi;clear hi;have hNSl2:=hNSl.out;rw[←hNSl2,D4]at hR;obtain⟨V',hR9,hev⟩:=hR.out;clear hR;have hR:=hR9;clear hR9;have hevn:=GJ kl.out (c+52);have gm:=hR.rep.box;simp only[BT]at gm;have hl3:=La hR.rep.arr;rw[hR.rep.ac.len]at hl3;simp only[D9,←hn3.out,hNCl.out]at hl3;have hl0:=Ga (hR.rep.sl 0 (by omega));simp only[Ad,Bi,D9,←hn0.out,hNSl2]at hl0;have hs:=hR.rep.sl 1 (by omega);simp only[Er,Ad]at hs;clear hNSl2;have hgo:AA (∀(g1:AB) (v:AV) (H:AB),(∀i∈V'.ids m,g1.get i=g.get i)→(∀i,Id.under π i=false→g1.get i=g.get i)→H.get m=some (.box (BT p false (V'.f9 1 v) st.work))→Nv H 3 v ((st.d7.ce++[G]).map BG)→(AD v=AD (V'.s 1)∨ ∀id∈AD v,HP (c+34) (c+52) π id=true∧ ∃l,id=1::l)→(∀id,Id.is m id=false→(∀id2∈AD (V'.s 1),Id.is id2 id=false)→HP (c+34) (c+52) π id=false→H.get id=g1.get id)→ ∃V2,B5 (BT p false) false π m V h (c+52) V2 {st with d7:=BN st.d7 d G} H∧ ∀i∈AD ev,i∉V2.ids m):=⟨fun g1 v H b1 b2 a1 a2 a3 a4=>by
    have hR1:B5 (BT p false) false π m V h (c+34) V' {st with d7:={st.d7 with ac:=st.d7.ac++NC,am:=st.d7.am++NS}} g1:=⟨DJ hR.rep b1,hR.ids,fun id c1 c2=>(b2 id c2).trans (hR.frame id c1 c2)⟩
    obtain⟨V2,z1,z2⟩:=hR1.step (b':=c+52) (by omega) (G4 (st':={st with d7:={st.d7 with ac:=st.d7.ac++NC,am:=st.d7.am++NS,ce:=st.d7.ce++[G]}}) 1 (by omega) hR1.rep (hR1.apartB hu.out) (wA rfl rfl rfl) rfl v H a1 a2 a3 a4)
    refine⟨V2,?_,fun i hi=>z2 i (hev i hi) (hevn i hi)⟩;rw[BN,←hng.out,←hNC.out,←hNS.out];exact z1⟩
   have hsq:AA (∀S,V'.s 1=.d8 S 0 st.d7.ce.length→(∀a n,c+34≤n→Id.is (a::n::π) S=false)∧(∀a n,c+34≤n→Id.is S (a::n::π)=false)∧Id.is S m=false∧Id.is m S=false∧(∀k,Id.is S (0::k::π)=false)∧(∀i∈AD ev,Id.is S i=false∧Id.is i S=false)):=⟨fun S hS=>by
    have hm2:S∈V'.ids m:=V'.s_mem m (i:=1) (by omega) (by rw[hS];simp[AD]);have hi:=hR.ids S hm2;obtain⟨x0,hg⟩:=PZ (hR.rep.sl 1 (by omega)) (id:=S) (by rw[hS];simp[AD]);exact⟨fun a n hn=>HS (b':=0) hu.out hi a n hn,JX hu.out hi,AF fun e=>(by rw[e,gm]at hg;cases hg),AF fun e=>(by rw[←e,gm]at hg;cases hg),fun k=>AF fun e=>HK hR hu.out k (by rw[←e];exact hm2),fun i hi=>⟨AF fun e=>hev i hi (by rw[←e];exact hm2),AF fun e=>hev i hi (by rw[e];exact hm2)⟩⟩⟩
   have hvi:AA (∀i∈V'.ids m,∀i2∈AD ev,Id.is i2 i=false):=⟨fun i hi i2 hi2=>AF fun e=>hev i2 hi2 (by rw[e];exact hi)⟩;have hui:AA (∀i,Id.under π i=false→ ∀i2∈AD ev,Id.is i2 i=false):=⟨fun i hi i2 hi2=>AF fun e=>by
    rcases kl.out with⟨_,rfl⟩|⟨id,rfl,_,n,_,hun,_⟩
    .simp[AD]at hi2
    .simp only[AD,Ac]at hi2;subst hi2;rw[←e,BB hun]at hi;cases hi⟩
   replace hevn:=AA.mk hevn;replace hev:=AA.mk hev;replace hR:=AA.mk hR;replace kl:=kl.out;rcases kl with⟨hz,he⟩|⟨id,he,hg,n,hnb,hun,hl⟩
   .rw[he]at k5;rcases hs with⟨hs,hs0⟩|⟨S,xs,hs,gS⟩
    .have hs1:=AA.mk (F9.1 hs0);rw[hs]at gm
     (repeat' (first|simp only[go_sem, *,↓hl3,↓hl0,AM]|(refine sx ?_ ?_<;>intro hc)|refine sy (by omega) fun x hx hm=>?_|simp(disch:=first|assumption|omega) only[AG]))
     refine hend.out _ _ _ rfl rfl rfl rfl rfl (hgo.out g (.d8 (1::(c+47)::π) 0 1) _ (fun _ _=>rfl) (fun _ _=>rfl) ?_ (Aq [] ?_ ?_) (.inr fun id2 hid=>?_) fun id2 b1 b2 b3=>?_) ?_ ?_ ?_ ?_
     .simp only[go_sem,BT,AM,hGd,hGa,hz];first|done|rfl
     .rw[hs1.out];rfl
     .rw[hs1.out];simp only[go_sem,e2,BV,Be,AM,hGd,hGa,hz];first|done|rfl
     .simp only[AD,Ac]at hid;subst hid;exact⟨EU (c+47) [1] (by omega) (by omega),_,rfl⟩
     .have q6:=BO b3;simp only[go_sem,q6,b1,AM]
     .simp only[go_sem,k2,e2,AM,hGd,hGa,hz]
     .simp only[go_sem,k4,e2,AM,hGd,hGa,hz]
     .rw[he];simp only[go_sem,k5,e2,AM,hGd,hGa,hz]
     .exact .inl ⟨hz,he⟩
    .rw[Bi]at hs;rcases xs with _|⟨z,xs⟩
     .obtain⟨q1,q2,q3,q4,q5,q8⟩:=hsq.out S hs;replace q8:=AA.mk q8;rw[hs]at gm
      (repeat' (first|simp only[go_sem, *,↓hl3,↓hl0,AM]|(refine sx ?_ ?_<;>intro hc)|refine sy (by omega) fun x hx hm=>?_|simp(disch:=first|assumption|omega) only[AG]))
      refine hend.out _ _ _ rfl rfl rfl rfl rfl (hgo.out g (.d8 (1::(c+47)::π) 0 (st.d7.ce.length+1)) _ (fun _ _=>rfl) (fun _ _=>rfl) ?_ (Aq [] ?_ ?_) (.inr fun id2 hid=>?_) fun id2 b1 b2 b3=>?_) ?_ ?_ ?_ ?_
      .simp only[go_sem,BT,AM,hGd,hGa,q1,q2,q3,q4,q5,hz];first|done|rfl
      .simp
      .simp only[go_sem,e2,BV,Be,AM,hGd,hGa,q1,q2,q3,q4,q5,hz];first|done|rfl
      .simp only[AD,Ac]at hid;subst hid;exact⟨EU (c+47) [1] (by omega) (by omega),_,rfl⟩
      .have q6:=BO b3;have q7:=b2 S (by rw[hs];simp[AD]);simp only[go_sem,q6,b1,q7,AM]
      .simp only[go_sem,k2,e2,AM,hGd,hGa,q1,q2,q3,q4,q5,hz]
      .simp only[go_sem,k4,e2,AM,hGd,hGa,q1,q2,q3,q4,q5,hz]
      .rw[he];simp only[go_sem,k5,e2,AM,hGd,hGa,q1,q2,q3,q4,q5,hz]
      .exact .inl ⟨hz,he⟩
     .obtain⟨q1,q2,q3,q4,q5,q8⟩:=hsq.out S hs;replace q8:=AA.mk q8;rw[hs]at gm
      (repeat' (first|simp only[go_sem, *,↓hl3,↓hl0,AM]|(refine sx ?_ ?_<;>intro hc)|refine sy (by omega) fun x hx hm=>?_|simp(disch:=first|assumption|omega) only[AG]))
      refine hend.out _ _ _ rfl rfl rfl rfl rfl (hgo.out g (.d8 S 0 (st.d7.ce.length+1)) _ (fun _ _=>rfl) (fun _ _=>rfl) ?_ (Aq xs ?_ ?_) (.inl (by rw[hs];rfl)) fun id2 b1 b2 b3=>?_) ?_ ?_ ?_ ?_
      .simp only[go_sem,BT,AM,hGd,hGa,q1,q2,q3,q4,q5,hz];first|done|rfl
      .simp
      .simp only[go_sem,e2,BV,Be,AM,hGd,hGa,q1,q2,q3,q4,q5,hz];first|done|rfl
      .have q6:=BO b3;have q7:=b2 S (by rw[hs];simp[AD]);simp only[go_sem,q6,b1,q7,AM]
      .simp only[go_sem,k2,e2,AM,hGd,hGa,q1,q2,q3,q4,q5,hz]
      .simp only[go_sem,k4,e2,AM,hGd,hGa,q1,q2,q3,q4,q5,hz]
      .rw[he];simp only[go_sem,k5,e2,AM,hGd,hGa,q1,q2,q3,q4,q5,hz]
      .exact .inl ⟨hz,he⟩
   .rw[he]at k5;obtain⟨f1,f2,f3,f4⟩:=Da hnb hun hl;have mi:Id.is m id=false:=AF fun e=>by rw[←e,gm]at hg;cases hg
    have im:Id.is id m=false:=AF fun e=>by rw[e,gm]at hg;cases hg
    replace hun:=AA.mk hun;replace hl:=AA.mk hl;rcases hs with⟨hs,hs0⟩|⟨S,xs,hs,gS⟩
    .have hs1:=AA.mk (F9.1 hs0);rw[hs]at gm
     (repeat' (first|simp only[go_sem, *,↓hl3,↓hl0,AM]|(refine sx ?_ ?_<;>intro hc)|refine sy (by omega) fun x hx hm=>?_|simp(disch:=first|assumption|omega) only[AG]))
     refine hend.out _ _ _ rfl rfl rfl rfl rfl (hgo.out (g.put id (.it 2 (G.env.map AI))) (.d8 (1::(c+47)::π) 0 1) _ (fun i hi=>by rw[get_put,hvi.out i hi id (by rw[he];simp[AD])];simp) (fun i hi=>by rw[get_put,hui.out i hi id (by rw[he];simp[AD])];simp) ?_ (Aq [] ?_ ?_) (.inr fun id2 hid=>?_) fun id2 b1 b2 b3=>?_) ?_ ?_ ?_ ?_
     .simp only[go_sem,BT,AM,hGd,hGa,f1,f2,f3,f4,mi,im];first|done|rfl
     .rw[hs1.out];rfl
     .rw[hs1.out];simp only[go_sem,e2,BV,Be,AM,hGd,hGa,f1,f2,f3,f4,mi,im];first|done|rfl
     .simp only[AD,Ac]at hid;subst hid;exact⟨EU (c+47) [1] (by omega) (by omega),_,rfl⟩
     .have q6:=BO b3;simp only[go_sem,q6,b1,AM]
     .simp only[go_sem,k2,e2,AM,hGd,hGa,f1,f2,f3,f4,mi,im]
     .simp only[go_sem,k4,e2,AM,hGd,hGa,f1,f2,f3,f4,mi,im]
     .rw[he];simp only[go_sem,k5,e2,AM,hGd,hGa,f1,f2,f3,f4,mi,im]
     .refine .inr ⟨id,he,?_,n,by omega,hun.out,hl.out⟩;simp only[go_sem,e2,AM,hGd,hGa,f1,f2,f3,f4,mi,im]
    .rw[Bi]at hs;rcases xs with _|⟨z,xs⟩
     .obtain⟨q1,q2,q3,q4,q5,q8⟩:=hsq.out S hs;obtain⟨q9,q10⟩:=q8 id (by rw[he];simp[AD]);replace q8:=AA.mk q8;rw[hs]at gm
      (repeat' (first|simp only[go_sem, *,↓hl3,↓hl0,AM]|(refine sx ?_ ?_<;>intro hc)|refine sy (by omega) fun x hx hm=>?_|simp(disch:=first|assumption|omega) only[AG]))
      refine hend.out _ _ _ rfl rfl rfl rfl rfl (hgo.out (g.put id (.it 2 (G.env.map AI))) (.d8 (1::(c+47)::π) 0 (st.d7.ce.length+1)) _ (fun i hi=>by rw[get_put,hvi.out i hi id (by rw[he];simp[AD])];simp) (fun i hi=>by rw[get_put,hui.out i hi id (by rw[he];simp[AD])];simp) ?_ (Aq [] ?_ ?_) (.inr fun id2 hid=>?_) fun id2 b1 b2 b3=>?_) ?_ ?_ ?_ ?_
      .simp only[go_sem,BT,AM,hGd,hGa,q1,q2,q3,q4,q5,q9,q10,f1,f2,f3,f4,mi,im];first|done|rfl
      .simp
      .simp only[go_sem,e2,BV,Be,AM,hGd,hGa,q1,q2,q3,q4,q5,q9,q10,f1,f2,f3,f4,mi,im];first|done|rfl
      .simp only[AD,Ac]at hid;subst hid;exact⟨EU (c+47) [1] (by omega) (by omega),_,rfl⟩
      .have q6:=BO b3;have q7:=b2 S (by rw[hs];simp[AD]);simp only[go_sem,q6,b1,q7,AM]
      .simp only[go_sem,k2,e2,AM,hGd,hGa,q1,q2,q3,q4,q5,q9,q10,f1,f2,f3,f4,mi,im]
      .simp only[go_sem,k4,e2,AM,hGd,hGa,q1,q2,q3,q4,q5,q9,q10,f1,f2,f3,f4,mi,im]
      .rw[he];simp only[go_sem,k5,e2,AM,hGd,hGa,q1,q2,q3,q4,q5,q9,q10,f1,f2,f3,f4,mi,im]
      .refine .inr ⟨id,he,?_,n,by omega,hun.out,hl.out⟩;simp only[go_sem,e2,AM,hGd,hGa,q1,q2,q3,q4,q5,q9,q10,f1,f2,f3,f4,mi,im]
     .obtain⟨q1,q2,q3,q4,q5,q8⟩:=hsq.out S hs;obtain⟨q9,q10⟩:=q8 id (by rw[he];simp[AD]);replace q8:=AA.mk q8;rw[hs]at gm
      (repeat' (first|simp only[go_sem, *,↓hl3,↓hl0,AM]|(refine sx ?_ ?_<;>intro hc)|refine sy (by omega) fun x hx hm=>?_|simp(disch:=first|assumption|omega) only[AG]))
      refine hend.out _ _ _ rfl rfl rfl rfl rfl (hgo.out (g.put id (.it 2 (G.env.map AI))) (.d8 S 0 (st.d7.ce.length+1)) _ (fun i hi=>by rw[get_put,hvi.out i hi id (by rw[he];simp[AD])];simp) (fun i hi=>by rw[get_put,hui.out i hi id (by rw[he];simp[AD])];simp) ?_ (Aq xs ?_ ?_) (.inl (by rw[hs];rfl)) fun id2 b1 b2 b3=>?_) ?_ ?_ ?_ ?_
      .simp only[go_sem,BT,AM,hGd,hGa,q1,q2,q3,q4,q5,q9,q10,f1,f2,f3,f4,mi,im];first|done|rfl
      .simp
      .simp only[go_sem,e2,BV,Be,AM,hGd,hGa,q1,q2,q3,q4,q5,q9,q10,f1,f2,f3,f4,mi,im];first|done|rfl
      .have q6:=BO b3;have q7:=b2 S (by rw[hs];simp[AD]);simp only[go_sem,q6,b1,q7,AM]
      .simp only[go_sem,k2,e2,AM,hGd,hGa,q1,q2,q3,q4,q5,q9,q10,f1,f2,f3,f4,mi,im]
      .simp only[go_sem,k4,e2,AM,hGd,hGa,q1,q2,q3,q4,q5,q9,q10,f1,f2,f3,f4,mi,im]
      .rw[he];simp only[go_sem,k5,e2,AM,hGd,hGa,q1,q2,q3,q4,q5,q9,q10,f1,f2,f3,f4,mi,im]
      .refine .inr ⟨id,he,?_,n,by omega,hun.out,hl.out⟩;simp only[go_sem,e2,AM,hGd,hGa,q1,q2,q3,q4,q5,q9,q10,f1,f2,f3,f4,mi,im]
theorem rM{p:AK}{sz:List Int}{k:Nat}(hF:Bq p sz)(IH0:Rr p sz k){h:AB}{π:List Nat}{m:Abs.Id}{V:MV}{st:CC}(hM:lJ p h m V st)(hu:B4 π V m)(hI:Iv p sz k st){j:FW}{x:CT}(hel:j.env.length≤10000){d:Bz}(hd:Dr p sz st.d7 j x d):
 ∃o h',KL Tryz.prog cfg (.fn 144) [.ptr m 0,.agg [.d (.int .i64 (x.op)),.d (.int .i64 (x.n)),.d (.be (x.args.map Av)),.d (.be (x.kids.map AO))],.d (.int .i64 (j.at_)),.d (.be (j.env.map AI))] h π true none=.ok (o,h')∧L3 p π m V h (Fy (Dg p k) (Ds p x j st)) o h':=by
 have hm:=hM.box;have um:=hu m (V.m_mem m);simp only[BT]at hm;have e1:=AE um;have e2:=AZ um;have e3:=C1 um;have e4:=Gw um;have hdd:=hd.eq;have hd0:=hd.n0;have hdl:=AL hdd;have d1:=hd.ok.ac;have d2:=hd.ok.am;have h1:=YN j.env (by omega);have hmS:=hI.ol.small;simp only[CW.small,AS,As]at hmS;obtain⟨s1,s2,s3,s4⟩:=hmS;replace hM:=AA.mk hM;replace hu:=AA.mk hu;replace hd:=AA.mk hd;replace hI:=AA.mk hI;have hl3:=La hM.out.arr;have hl0:=Ga (hM.out.sl 0 (by omega));rw[hM.out.ac.len]at hl3;simp only[Ad,Bi]at hl0;obtain⟨n3,hn3⟩: ∃n,n=st.d7.ac.length:=⟨_,rfl⟩;obtain⟨n0,hn0⟩: ∃n,n=st.d7.am.length:=⟨_,rfl⟩;rw[←hn3]at hl3;rw[←hn0]at hl0;have s3':n3≤60:=by omega
 have s1':n0≤24:=by omega
 replace hn3:=AA.mk hn3;replace hn0:=AA.mk hn0;by_cases h0:j.env.length=0;all_goals
  first
  |simp only[aG,D7 h0]at h1
  |simp only[aG,D3 h0]at h1
  have fa:=CP
  (refine Aa rfl Tryz.func144 rfl rfl rfl ?_;show Wp _ _ _ _ (Tryz.f144.body.get rfl) _ _;simp only[Tryz.f144,AP])
  refine RA 5 fun T hT=>?_;have hend:AA (∀(e:CB) (H:AB) (c:Nat),e.get 0=.ptr m 0→e.get 2=.d (.int .i64 (j.at_))→e.get 5=.ptr (0::0::π) 0→e.get 8=.ptr (0::10::π) 0→e.get 9=.ptr (0::18::π) 0→(∀id,Id.under π id=false→H.get id=h.get id)→H.get (0::0::π)=some (.box [.d (.int .i64 (x.op)),.d (.int .i64 (x.n)),.d (.be (x.args.map Av)),.d (.be (x.kids.map AO))])→H.get (0::10::π)=some (.box [.d (.be (d.ac.map Ab)),.d (.be (d.am.map AR)),.d (.be (d.rules.map Af))])→(∃ev,H.get (0::18::π)=some (.box [.d (.int .i64 (x.n)),.d (.int .i64 (j.at_)),ev])∧KF .emp π H (c+32) ev (j.env++CF n3 d.ac.length++Ei n0 d.am.length))→Wp cfg (KL Tryz.prog cfg) ⟨144,π,true,none,false,221⟩ 0 T ⟨e,H,c+32,[]⟩ (Ka cfg none [] π true (L3 p π m V h (Fy (Dg p k) (Ds p x j st))))):=⟨fun e H c x0 x2 x5 x8 x9 k1 y2 y4 hev=>by
   obtain⟨ev,y5,hl⟩:=hev;rw[hT];refine Yy hF IH0 hM.out hu.out hI.out hd.out rfl x0 x2 x5 x8 x9 (by omega) k1 y2 y4 y5 ?_;have:(AX st.d7 d x.n j).env=j.env++CF n3 d.ac.length++Ei n0 d.am.length:=by rw[hn3.out,hn0.out,AX,Ed,ES];rfl
   rw[this];exact hl⟩
  replace hT:=AA.mk hT;simp only[Tryz.f144,AP,PG]
  (repeat' (first|simp only[go_sem, *,AM]|(refine sx ?_ ?_<;>intro hc)|refine sy (by omega) fun x hx hm=>?_|simp(disch:=first|assumption|omega) only[AG]))
  clear h1;refine Au d.ac (S:=fun i (a:AB×Nat)=>⟨[(0,.ptr m 0),(2,.d (.int .i64 (j.at_))),(5,.ptr (0::0::π) 0),(8,.ptr (0::10::π) 0),(9,.ptr (0::18::π) 0),(10,.d (.int .i64 (i)))],a.1,a.2+21,[]⟩)
   (Inv:=fun i rest a=>AA (∀id,Id.under π id=false→a.1.get id=h.get id)∧a.1.get (0::0::π)=some (.box [.d (.int .i64 (x.op)),.d (.int .i64 (x.n)),.d (.be (x.args.map Av)),.d (.be (x.kids.map AO))])∧a.1.get (0::10::π)=some (.box [.d (.be (d.ac.map Ab)),.d (.be (d.am.map AR)),.d (.be (d.rules.map Af))])∧AA (∃ev,a.1.get (0::18::π)=some (.box [.d (.int .i64 (x.n)),.d (.int .i64 (j.at_)),ev])∧KF .emp π a.1 (a.2+21) ev (j.env++CF n3 i))) (b0:=(_,0)) ⟨⟨fun id b=>?_⟩,?_,?_,⟨?_⟩⟩ ?_ ?_
  .have q1:=AE b;have q4:=AE (AH b 16) 1 3;simp only[go_sem,q1,q4,AM]
  .simp only[go_sem]
  .simp only[go_sem]
  .first
   |(refine⟨.emp,?_,.inl ⟨by simp[CF,CE h0],rfl⟩⟩
     simp only[go_sem]
     done)
   |(refine⟨.d8 (1::3::16::π) 0 j.env.length,?_,.inr ⟨_,by simp[CF],?_,16,by omega,under_iff.2 ⟨[1,3],rfl⟩,_,rfl⟩⟩
     .simp only[go_sem]
     .simp only[CF,List.range'_zero,Be,EL];simp only[go_sem])
  .rintro i y ⟨g,c⟩ hy hi him ⟨k1,k2,k4,kl⟩ IH;dsimp only at*;obtain⟨ev,k5,kl⟩:=kl.out;have gm:=(k1.out m um).trans hm;have w0:IntKind.i64.wrap ((i:Int)+1)=(i:Int)+1:=wrap_id (by omega) (by omega);have w1:IntKind.i64.wrap ((n3:Int)+(i:Int))=(n3:Int)+(i:Int):=wrap_id (by omega) (by omega);obtain⟨L,hL⟩: ∃L,L=j.env++CF n3 i:=⟨_,rfl⟩;have hLs:AA (j.env++CF n3 (i+1)=L++[⟨3,(n3:Int)+(i:Int)⟩]):=⟨by rw[Oe,←ES,←hL];simp⟩;rw[←hL]at kl;have hLm:L.length≤20000:=by rw[hL];simp[CF];omega
   replace hL:=AA.mk hL;rcases kl with⟨hz,rfl⟩|⟨id,rfl,hg,n,hnb,hun,hl⟩
   ·(repeat' (first|simp only[go_sem, *,↓hl3,↓hl0]|(refine sx ?_ ?_<;>intro hc)|refine sy (by omega) fun x hx hm=>?_|simp(disch:=first|assumption|omega) only[AG]))
    refine IH.out (_,_) ⟨⟨fun id b2=>?_⟩,?_,?_,⟨.d8 (1::(c+38)::π) 0 1,?_,?_⟩⟩
    .have q1:=AE b2;have q4:=C1 b2;simp only[go_sem,q1,q4,k1.out id b2,AM]
    .simp only[go_sem,k2]
    .simp only[go_sem,k4]
    .simp only[go_sem]
    .rw[hLs.out,hz];refine Ib (by omega) rfl ?_;simp only[go_sem]
   .obtain⟨f1,f2,f3,f4⟩:=Da hnb hun hl;have hun2:=AA.mk (BB hun);clear hl hun hnb
    (repeat' (first|simp only[go_sem, *,↓hl3,↓hl0,AM]|(refine sx ?_ ?_<;>intro hc)|refine sy (by omega) fun x hx hm=>?_|simp(disch:=first|assumption|omega) only[AG]))
    refine IH.out (_,_) ⟨⟨fun id2 b2=>?_⟩,?_,?_,⟨.d8 (1::(c+38)::π) 0 (L.length+1),?_,?_⟩⟩
    .have q1:=AE b2;have q2:Id.is id id2=false:=AF fun e=>by rw[←e,hun2.out]at b2;cases b2
     simp only[go_sem,q1,q2,k1.out id2 b2,AM]
    .simp only[go_sem,k2,f3,f4,AM]
    .simp only[go_sem,k4,f3,f4,AM]
    .simp only[go_sem]
    .rw[hLs.out];refine Ib (by omega) (by simp) ?_;simp only[go_sem,f1,f2,BV,AM]
  .clear s3';rintro i ⟨g,c⟩ hi him ⟨k1,k2,k4,kl⟩;dsimp only at*;have gi:=hi.out;subst gi;clear hi;replace hl3:=AA.mk hl3
   (repeat' (first|simp only[go_sem, *]|(refine sx ?_ ?_<;>intro hc)|refine sy (by omega) fun x hx hm=>?_|simp(disch:=first|assumption|omega) only[AG]))
   refine Au d.am (S:=fun i (a:AB×Nat)=>⟨[(0,.ptr m 0),(2,.d (.int .i64 (j.at_))),(5,.ptr (0::0::π) 0),(8,.ptr (0::10::π) 0),(9,.ptr (0::18::π) 0),(11,.d (.int .i64 (i)))],a.1,a.2+27,[]⟩)
    (Inv:=fun i rest a=>AA (∀id,Id.under π id=false→a.1.get id=h.get id)∧a.1.get (0::0::π)=some (.box [.d (.int .i64 (x.op)),.d (.int .i64 (x.n)),.d (.be (x.args.map Av)),.d (.be (x.kids.map AO))])∧a.1.get (0::10::π)=some (.box [.d (.be (d.ac.map Ab)),.d (.be (d.am.map AR)),.d (.be (d.rules.map Af))])∧AA (∃ev,a.1.get (0::18::π)=some (.box [.d (.int .i64 (x.n)),.d (.int .i64 (j.at_)),ev])∧KF .emp π a.1 (a.2+27) ev (j.env++CF n3 d.ac.length++Ei n0 i))) (b0:=(_,c)) ⟨k1,k2,k4,⟨by obtain⟨ev,q1,q2⟩:=kl.out;exact⟨ev,q1,by simpa[Ei]using Ic q2 (by omega)⟩⟩⟩ ?_ ?_
   .clear kl k1 k2 k4 g c;rintro i y ⟨g,c⟩ hy hi him ⟨k1,k2,k4,kl⟩ IH;dsimp only at*;obtain⟨ev,k5,kl⟩:=kl.out;have gm:=(k1.out m um).trans hm;have w0:IntKind.i64.wrap ((i:Int)+1)=(i:Int)+1:=wrap_id (by omega) (by omega);have w1:IntKind.i64.wrap ((n0:Int)+(i:Int))=(n0:Int)+(i:Int):=wrap_id (by omega) (by omega);obtain⟨L,hL⟩: ∃L,L=j.env++CF n3 d.ac.length++Ei n0 i:=⟨_,rfl⟩;have hLs:AA (j.env++CF n3 d.ac.length++Ei n0 (i+1)=L++[⟨4,(n0:Int)+(i:Int)⟩]):=⟨by rw[PB,←ES,←hL];simp⟩;rw[←hL]at kl;have hLm:L.length≤20000:=by rw[hL];simp[CF,Ei];omega
    replace hL:=AA.mk hL;rcases kl with⟨hz,rfl⟩|⟨id,rfl,hg,n,hnb,hun,hl⟩
    ·(repeat' (first|simp only[go_sem, *,↓hl0]|(refine sx ?_ ?_<;>intro hc)|refine sy (by omega) fun x hx hm=>?_|simp(disch:=first|assumption|omega) only[AG]))
     refine IH.out (_,_) ⟨⟨fun id b2=>?_⟩,?_,?_,⟨.d8 (1::(c+44)::π) 0 1,?_,?_⟩⟩
     .have q1:=AE b2;have q4:=C1 b2;simp only[go_sem,q1,q4,k1.out id b2,AM]
     .simp only[go_sem,k2]
     .simp only[go_sem,k4]
     .simp only[go_sem]
     .rw[hLs.out,hz];refine Ib (by omega) rfl ?_;simp only[go_sem]
    .obtain⟨f1,f2,f3,f4⟩:=Da hnb hun hl;have hun2:=AA.mk (BB hun);clear hl hun hnb
     (repeat' (first|simp only[go_sem, *,↓hl0,AM]|(refine sx ?_ ?_<;>intro hc)|refine sy (by omega) fun x hx hm=>?_|simp(disch:=first|assumption|omega) only[AG]))
     refine IH.out (_,_) ⟨⟨fun id2 b2=>?_⟩,?_,?_,⟨.d8 (1::(c+44)::π) 0 (L.length+1),?_,?_⟩⟩
     .have q1:=AE b2;have q2:Id.is id id2=false:=AF fun e=>by rw[←e,hun2.out]at b2;cases b2
      simp only[go_sem,q1,q2,k1.out id2 b2,AM]
     .simp only[go_sem,k2,f3,f4,AM]
     .simp only[go_sem,k4,f3,f4,AM]
     .simp only[go_sem]
     .rw[hLs.out];refine Ib (by omega) (by simp) ?_;simp only[go_sem,f1,f2,BV,AM]
   .clear kl k1 k2 k4 g c him;rintro i ⟨g,c⟩ hi him ⟨k1,k2,k4,kl⟩;dsimp only at*;have gi:=hi.out;subst gi;clear hi
    (repeat' (first|simp only[go_sem, *]|(refine sx ?_ ?_<;>intro hc)|refine sy (by omega) fun x hx hm=>?_|simp(disch:=first|assumption|omega) only[AG]))
    exact hend.out _ _ _ rfl rfl rfl rfl rfl k1.out k2 k4 (by obtain⟨ev,q1,q2⟩:=kl.out;exact⟨ev,q1,Ic q2 (by omega)⟩)
theorem eD{p:AK}{sz:List Int}{k:Nat}(hF:Bq p sz)(IH0:Hl p sz k){h:AB}{π:List Nat}{m:Abs.Id}{V:MV}{st:CC}(hM:KP p sz h m V st)(hu:B4 π V m)(hI:Iv p sz k st){j:FW}{x:CT}{d:Bz}(hd:Dr p sz st.d7 j x d){G:Ay}(hG:G=AX st.d7 d x.n j)
 {e:CB} {g:AB} {b:Nat} {ev:AV} (en0:e.get 0=.ptr m 0) (en3:e.get 3=.ptr (0::0::π) 0) (en4:e.get 4=.ptr (0::10::π) 0) (en5:e.get 5=.ptr (0::21::π) 0) (en6:e.get 6=.ptr (0::31::π) 0) (k1: ∀id,Id.under π id=false→g.get id=h.get id)
 (k2:g.get (0::0::π)=some (.box [.d (.int .i64 (j.node)),.d (.int .i64 (j.at_)),.d (.be (j.env.map AI))])) (k3:g.get (0::10::π)=some (.box [.d (.int .i64 (x.op)),.d (.int .i64 (x.n)),.d (.be (x.args.map Av)),.d (.be (x.kids.map AO))])) (k4:g.get (0::21::π)=some (.box [.d (.be (d.ac.map Ab)),.d (.be (d.am.map AR)),.d (.be (d.rules.map Af))])) (k5:g.get (0::31::π)=some (.box [.d (.int .i64 (x.n)),.d (.int .i64 (j.at_)),ev])) (kl2:dC π g (b+43) ev G.env):
 Wp cfg (KL Tryz.prog cfg) ⟨112,π,true,none,false,204⟩ 0 (YK 6 (Tryz.f112.body.get rfl)) ⟨e,g,b+43,[]⟩ (Ka cfg none [] π true (GF p sz π m V h (Fy (Dg p k) (Ds p x j st)))):=by
 have um:=hu m (V.m_mem m);have e1:=AE um;have e2:=AZ um;have d1:=hd.ok.ac;have d2:=hd.ok.am;have hGd:G.eq=x.n:=by rw[hG];rfl
 have hGa:G.at_=j.at_:=by rw[hG];rfl
 have hmS:=hI.ol.small;simp only[CW.small,AS,As]at hmS;obtain⟨s1,s2,s3,s4⟩:=hmS;obtain⟨ng,hng⟩: ∃n,n=st.d7.ce.length:=⟨_,rfl⟩;obtain⟨n3,hn3⟩: ∃n,n=st.d7.ac.length:=⟨_,rfl⟩;obtain⟨n0,hn0⟩: ∃n,n=st.d7.am.length:=⟨_,rfl⟩;have s2':ng≤40:=by omega
 obtain⟨NC,hNC⟩: ∃l,l=EE d G ng 0 d.ac:=⟨_,rfl⟩;have hNCa: ∀(t:Nat) c,d.ac[t]? =some c→NC[t]? =some ⟨ng,t,G.place d c.at_,[]⟩:=fun t c hc=>by rw[hNC,Gv,hc];simp
 have hplace:=AA.mk (Su (m:=m) hF hd hG);have hR:AA (IL p sz π m V h (b+43) V st g):=⟨(OT hM hu k1).up (by omega)⟩;refine RA 3 fun T hT=>?_;have hend:AA (∀(e:CB) (H:AB) (c:Nat),e.get 0=.ptr m 0→e.get 3=.ptr (0::0::π) 0→e.get 4=.ptr (0::10::π) 0→e.get 5=.ptr (0::21::π) 0→e.get 6=.ptr (0::31::π) 0→(∃V2,IL p sz π m V h (c+66) V2 {st with d7:=BN st.d7 d G} H∧ ∀i∈AD ev,i∉V2.ids m)→H.get (0::0::π)=some (.box [.d (.int .i64 (j.node)),.d (.int .i64 (j.at_)),.d (.be (j.env.map AI))])→H.get (0::10::π)=some (.box [.d (.int .i64 (x.op)),.d (.int .i64 (x.n)),.d (.be (x.args.map Av)),.d (.be (x.kids.map AO))])→H.get (0::21::π)=some (.box [.d (.be (d.ac.map Ab)),.d (.be (d.am.map AR)),.d (.be (d.rules.map Af))])→H.get (0::31::π)=some (.box [.d (.int .i64 (x.n)),.d (.int .i64 (j.at_)),ev])→wU π H (c+66) ev G.env→Wp cfg (KL Tryz.prog cfg) ⟨112,π,true,none,false,204⟩ 0 T ⟨e,H,c+66,[]⟩ (Ka cfg none [] π true (GF p sz π m V h (Fy (Dg p k) (Ds p x j st))))):=⟨fun e H c x0 x3 x4 x5 x6 hr y2 y3 y4 y5 hf=>by
  obtain⟨V2,hr,hv⟩:=hr;rw[hT];exact eC hF IH0 hu hI hd hG x0 x3 x4 x5 x6 (by omega) hr hv y2 y3 y4 y5 hf⟩
 replace hT:=AA.mk hT;replace hM:=AA.mk hM;replace hu:=AA.mk hu;replace hd:=AA.mk hd;replace hI:=AA.mk hI;replace hG:=AA.mk hG;replace hng:=AA.mk hng;replace hn3:=AA.mk hn3;replace hn0:=AA.mk hn0;replace hNC:=AA.mk hNC;replace hNCa:=AA.mk hNCa;replace k1:=AA.mk k1;simp only[Tryz.f112,AP,YK,PG];refine aw ?_;clear en0 en3 en4 en5 en6;refine AY d.ac _ (S:=fun m' i (a:AB×Nat)=>⟨[(0,.ptr m 0),(3,.ptr (0::0::π) 0),(4,.ptr (0::10::π) 0),(5,.ptr (0::21::π) 0),(6,.ptr (0::31::π) 0),(84,.d (.be (d.ac.map Ab))),(85,.d (.int .i64 (m'))),(86,.d (.int .i64 (i)))],a.1,a.2+47,[]⟩)
  (Inv:=fun i rest a=>AA (∃V',IL p sz π m V h (a.2+47) V' {st with d7:={st.d7 with ac:=st.d7.ac++NC.take i}} a.1∧ ∀i∈AD ev,i∉V'.ids m)∧a.1.get (0::0::π)=some (.box [.d (.int .i64 (j.node)),.d (.int .i64 (j.at_)),.d (.be (j.env.map AI))])∧a.1.get (0::10::π)=some (.box [.d (.int .i64 (x.op)),.d (.int .i64 (x.n)),.d (.be (x.args.map Av)),.d (.be (x.kids.map AO))])∧a.1.get (0::21::π)=some (.box [.d (.be (d.ac.map Ab)),.d (.be (d.am.map AR)),.d (.be (d.rules.map Af))])∧a.1.get (0::31::π)=some (.box [.d (.int .i64 (x.n)),.d (.int .i64 (j.at_)),ev])∧AA (dC π a.1 (a.2+47) ev G.env)) (b0:=(_,b)) rfl ⟨⟨V,by simpa using hR.out.up (by omega),Wu kl2 hu.out⟩,k2,k3,k4,k5,⟨Ic kl2 (by omega)⟩⟩ ?_ ?_
 .clear hR kl2 k1 k2 k3 k4 k5 g b;rintro i y ⟨g,b⟩ hy hi him ⟨hR,k2,k3,k4,k5,kl⟩ IH;dsimp only at*;obtain⟨V',hR,hev⟩:=hR.out;have hevn:=GJ kl.out (b+81);have hpy:=hd.out.ok.chan y (Ap hy);have gm:=hR.rep.box;have hpl:=fun(H:AB) (n:Nat) (hH:H.get m=g.get m)=>hplace.out H (n::π) V' st.work (hH.trans gm) (AH um n) y.at_ hpy.1 hpy.2.1;replace hpl:=AA.mk hpl;simp only[BS]at gm;have hl1:=Ga (hR.rep.sl 1 (by omega));simp only[Ad,Bi,←hng.out]at hl1;have hv3:=hR.rep.arr;have hA3:AA (∀A,V'.v3=.d8 A 0 V'.rows.length→(∀a n,b+47≤n→Id.is (a::n::π) A=false)∧(∀a n,b+47≤n→Id.is A (a::n::π)=false)∧Id.is A m=false∧Id.is m A=false∧ ∀k,Id.is A (0::k::π)=false):=⟨fun A hA=>by
   have hi:=hR.ids A (V'.v3_mem m (by rw[hA];simp[AD]));have hg:=GW hR.rep.arr (id:=A) (by rw[hA];simp[AD]);exact⟨HS (b':=0) hu.out hi,JX hu.out hi,AF fun e=>(by rw[e,gm]at hg;cases hg),AF fun e=>(by rw[←e,gm]at hg;cases hg),fun k=>AF fun e=>HK hR hu.out k (by rw[←e];exact V'.v3_mem m (by rw[hA];simp[AD]))⟩⟩
  have hrl:V'.rows.length≤1000:=by
   have:=hR.rep.ac.len;simp only[D9,RS]at this;omega
  have hgo:AA (∀H:AB,H.get m=some (.box (BS p sz {V' with v3:=.d8 (1::(b+74)::π) 0 (V'.rows.length+1)} st.work))→H.get (1::(b+74)::π)=some (.arr 4 (V'.rows++[Ah ⟨ng,i,G.place d y.at_,[]⟩ .ci]))→(∀id,Id.is m id=false→(∀id2∈AD V'.v3,Id.is id2 id=false)→HP (b+47) (b+81) π id=false→H.get id=g.get id)→ ∃V2,IL p sz π m V h (b+81) V2 {st with d7:={st.d7 with ac:=st.d7.ac++NC.take (i+1)}} H∧ ∀i∈AD ev,i∉V2.ids m):=⟨fun H a1 a0 a4=>by
   obtain⟨V2,z1,z2⟩:=hR.step (b':=b+81) (by omega) (VK hR.rep (hR.apartB hu.out) (q:=⟨ng,i,G.place d y.at_,[]⟩) rfl (1::(b+74)::π) H a1 a0 ⟨EU (b+74) [1] (by omega) (by omega),_,rfl⟩ a4);rw[I5,hNCa.out i y hy,←ES];exact⟨V2,z1,fun i hi=>z2 i (hev i hi) (hevn i hi)⟩⟩
  replace hevn:=AA.mk hevn;replace hev:=AA.mk hev;replace hR:=AA.mk hR;replace kl:=kl.out;rcases kl with⟨hz,rfl⟩|⟨id,rfl,hg,n,hnb,hun,hl⟩
  .have hpl2:=hpl.out;rw[hz,Be]at hpl2;replace hpl2:=AA.mk hpl2;replace hz:=AA.mk hz;rcases hv3 with⟨hv3,hr0⟩|⟨A,hv3,gA⟩
   .rw[hv3]at gm
    (repeat' (first|simp only[go_sem, *,↓hl1,AM]|(refine sx ?_ ?_<;>intro hc)|refine sy (by omega) fun x hx hm=>?_|simp(disch:=first|assumption|omega) only[AG]))
    refine Eg (hpl2.out _ _ ?_) (fun o1 g1 p1=>?_)
    .simp only[go_sem,e1,AM]
    subst p1
    (repeat' (first|simp only[go_sem, *,↓hl1,AM]|(refine sx ?_ ?_<;>intro hc)|refine sy (by omega) fun x hx hm=>?_|simp(disch:=first|assumption|omega) only[AG]))
    refine IH.out (_,_) ⟨⟨hgo.out _ ?_ ?_ fun id b1 b2 b3=>?_⟩,?_,?_,?_,?_,⟨.inl ⟨hz.out,rfl⟩⟩⟩
    .rw[hr0];simp only[go_sem,BS];first|done|rfl
    .rw[hr0];simp only[go_sem,e2,AM];rfl
    .have q5:=BO b3;simp only[go_sem,q5,b1,AM]
    .simp only[go_sem,k2,e2,AM]
    .simp only[go_sem,k3,e2,AM]
    .simp only[go_sem,k4,e2,AM]
    .simp only[go_sem,k5,e2,AM]
   .obtain⟨q1,q2,q3,q4,q5⟩:=hA3.out A hv3;rw[hv3]at gm
    (repeat' (first|simp only[go_sem, *,↓hl1,D4,AM]|(refine sx ?_ ?_<;>intro hc)|refine sy (by omega) fun x hx hm=>?_|simp(disch:=first|assumption|omega) only[AG]))
    refine Eg (hpl2.out _ _ ?_) (fun o1 g1 p1=>?_)
    .simp only[go_sem,e1,AM,q1,q2,q3,q4,q5]
    subst p1
    (repeat' (first|simp only[go_sem, *,↓hl1,D4,AM]|(refine sx ?_ ?_<;>intro hc)|refine sy (by omega) fun x hx hm=>?_|simp(disch:=first|assumption|omega) only[AG]))
    refine IH.out (_,_) ⟨⟨hgo.out _ ?_ ?_ fun id2 b1 b2 b3=>?_⟩,?_,?_,?_,?_,⟨.inl ⟨hz.out,rfl⟩⟩⟩
    .simp only[go_sem,BS,AM,q1,q2,q3,q4,q5];first|done|rfl
    .simp only[go_sem,e2,Ah,AM,q1,q2,q3,q4,q5];first|done|rfl
    .have q6:=BO b3;have q7:=b2 A (by rw[hv3];simp[AD]);simp only[go_sem,q6,b1,q7,AM]
    .simp only[go_sem,k2,e2,AM,q1,q2,q3,q4,q5]
    .simp only[go_sem,k3,e2,AM,q1,q2,q3,q4,q5]
    .simp only[go_sem,k4,e2,AM,q1,q2,q3,q4,q5]
    .simp only[go_sem,k5,e2,AM,q1,q2,q3,q4,q5]
  .obtain⟨f1,f2,f3,f4⟩:=Da hnb hun hl;have mi:Id.is m id=false:=AF fun e=>by rw[←e,gm]at hg;cases hg
   have im:Id.is id m=false:=AF fun e=>by rw[e,gm]at hg;cases hg
   replace hun:=AA.mk hun;replace hl:=AA.mk hl;rcases hv3 with⟨hv3,hr0⟩|⟨A,hv3,gA⟩
   .rw[hv3]at gm
    (repeat' (first|simp only[go_sem, *,↓hl1,D4,AM]|(refine sx ?_ ?_<;>intro hc)|refine sy (by omega) fun x hx hm=>?_|simp(disch:=first|assumption|omega) only[AG]))
    refine Eg (hpl.out _ _ ?_) (fun o1 g1 p1=>?_)
    .simp only[go_sem,e1,AM,f1,f2,f3,f4,mi,im]
    subst p1
    (repeat' (first|simp only[go_sem, *,↓hl1,D4,AM]|(refine sx ?_ ?_<;>intro hc)|refine sy (by omega) fun x hx hm=>?_|simp(disch:=first|assumption|omega) only[AG]))
    refine IH.out (_,_) ⟨⟨hgo.out _ ?_ ?_ fun id2 b1 b2 b3=>?_⟩,?_,?_,?_,?_,⟨.inr ⟨id,rfl,?_,n,by omega,hun.out,hl.out⟩⟩⟩
    .rw[hr0];simp only[go_sem,BS,AM,f1,f2,f3,f4,mi,im];first|done|rfl
    .rw[hr0];simp only[go_sem,e2,Ah,AM,f1,f2,f3,f4,mi,im];first|done|rfl
    .have q6:=BO b3;simp only[go_sem,q6,b1,AM]
    .simp only[go_sem,k2,e2,AM,f1,f2,f3,f4,mi,im]
    .simp only[go_sem,k3,e2,AM,f1,f2,f3,f4,mi,im]
    .simp only[go_sem,k4,e2,AM,f1,f2,f3,f4,mi,im]
    .simp only[go_sem,k5,e2,AM,f1,f2,f3,f4,mi,im]
    .simp only[go_sem,hg,AM,f1,f2,f3,f4,mi,im]
   .obtain⟨q1,q2,q3,q4,q5⟩:=hA3.out A hv3;rw[hv3]at gm;have Ai:Id.is A id=false:=AF fun e=>by rw[e,hg]at gA;cases gA
    have iA:Id.is id A=false:=AF fun e=>by rw[←e,hg]at gA;cases gA
    (repeat' (first|simp only[go_sem, *,↓hl1,D4,AM]|(refine sx ?_ ?_<;>intro hc)|refine sy (by omega) fun x hx hm=>?_|simp(disch:=first|assumption|omega) only[AG]))
    refine Eg (hpl.out _ _ ?_) (fun o1 g1 p1=>?_)
    .simp only[go_sem,e1,AM,f1,f2,f3,f4,mi,im,q1,q2,q3,q4,q5,Ai,iA]
    subst p1
    (repeat' (first|simp only[go_sem, *,↓hl1,D4,AM]|(refine sx ?_ ?_<;>intro hc)|refine sy (by omega) fun x hx hm=>?_|simp(disch:=first|assumption|omega) only[AG]))
    refine IH.out (_,_) ⟨⟨hgo.out _ ?_ ?_ fun id2 b1 b2 b3=>?_⟩,?_,?_,?_,?_,⟨.inr ⟨id,rfl,?_,n,by omega,hun.out,hl.out⟩⟩⟩
    .simp only[go_sem,BS,AM,f1,f2,f3,f4,mi,im,q1,q2,q3,q4,q5,Ai,iA];first|done|rfl
    .simp only[go_sem,e2,Ah,AM,f1,f2,f3,f4,mi,im,q1,q2,q3,q4,q5,Ai,iA];first|done|rfl
    .have q6:=BO b3;have q7:=b2 A (by rw[hv3];simp[AD]);simp only[go_sem,q6,b1,q7,AM]
    .simp only[go_sem,k2,e2,AM,f1,f2,f3,f4,mi,im,q1,q2,q3,q4,q5,Ai,iA]
    .simp only[go_sem,k3,e2,AM,f1,f2,f3,f4,mi,im,q1,q2,q3,q4,q5,Ai,iA]
    .simp only[go_sem,k4,e2,AM,f1,f2,f3,f4,mi,im,q1,q2,q3,q4,q5,Ai,iA]
    .simp only[go_sem,k5,e2,AM,f1,f2,f3,f4,mi,im,q1,q2,q3,q4,q5,Ai,iA]
    .simp only[go_sem,hg,AM,f1,f2,f3,f4,mi,im,q1,q2,q3,q4,q5,Ai,iA]
 .clear hR kl2 k1 k2 k3 k4 k5 g b;rintro i ⟨g,b⟩ hi him ⟨hR,k2,k3,k4,k5,kl⟩;dsimp only at*;have gi:=hi.out;subst gi;clear hi;have hNCl:NC.length=d.ac.length:=by rw[hNC.out,Dy]
  rw[←hNCl,D4]at hR;obtain⟨V0,hR0,hev0⟩:=hR.out;clear hR;replace hev0:=AA.mk hev0;replace hR0:=AA.mk hR0;have kl2:=kl;clear kl;refine aw ?_;obtain⟨NS,hNS⟩: ∃l,l=CY d G d.am:=⟨_,rfl⟩;have hNSa: ∀(t:Nat) c,d.am[t]? =some c→NS[t]? =some ⟨G.place d c.pp,false⟩:=fun t c hc=>by rw[hNS,CY,D5,hc];rfl
  have hNSl:NS.length=d.am.length:=by rw[hNS,DP]
  have hn1:1≤n0:=by rw[hn0.out];exact hI.out.ol.tree.pos
  replace hNS:=AA.mk hNS;replace hNSa:=AA.mk hNSa;replace hNCl:=AA.mk hNCl;replace hNSl:=AA.mk hNSl;refine AY d.am _ (S:=fun m' i (a:AB×Nat)=>⟨[(0,.ptr m 0),(3,.ptr (0::0::π) 0),(4,.ptr (0::10::π) 0),(5,.ptr (0::21::π) 0),(6,.ptr (0::31::π) 0),(117,.d (.be (d.am.map AR))),(118,.d (.int .i64 (m'))),(119,.d (.int .i64 (i)))],a.1,a.2+52,[]⟩)
   (Inv:=fun i rest a=>AA (∃V',IL p sz π m V h (a.2+52) V' {st with d7:={st.d7 with ac:=st.d7.ac++NC,am:=st.d7.am++NS.take i}} a.1∧ ∀i∈AD ev,i∉V'.ids m)∧a.1.get (0::0::π)=some (.box [.d (.int .i64 (j.node)),.d (.int .i64 (j.at_)),.d (.be (j.env.map AI))])∧a.1.get (0::10::π)=some (.box [.d (.int .i64 (x.op)),.d (.int .i64 (x.n)),.d (.be (x.args.map Av)),.d (.be (x.kids.map AO))])∧a.1.get (0::21::π)=some (.box [.d (.be (d.ac.map Ab)),.d (.be (d.am.map AR)),.d (.be (d.rules.map Af))])∧a.1.get (0::31::π)=some (.box [.d (.int .i64 (x.n)),.d (.int .i64 (j.at_)),ev])∧AA (dC π a.1 (a.2+52) ev G.env)) (b0:=(_,b)) rfl ⟨⟨V0,by simpa using hR0.out.up (by omega),hev0.out⟩,k2,k3,k4,k5,⟨Ic kl2.out (by omega)⟩⟩ ?_ ?_
  .clear hR0 hev0 kl2 k2 k3 k4 k5 g b V0;rintro i y ⟨g,b⟩ hy hi him ⟨hR,k2,k3,k4,k5,kl⟩ IH;dsimp only at*;obtain⟨V',hR,hev⟩:=hR.out;have hevn:=GJ kl.out (b+77);have hpy:=IE hd.out.ok.spot i y hy;have gm:=hR.rep.box;have hpl:=fun(H:AB) (n:Nat) (hH:H.get m=g.get m)=>hplace.out H (n::π) V' st.work (hH.trans gm) (AH um n) y.pp hpy.1 (by omega);replace hpl:=AA.mk hpl;simp only[BS]at gm;have hs:=hR.rep.sl 0 (by omega);obtain⟨LS,hLS⟩: ∃l,l=st.d7.am++NS.take i:=⟨_,rfl⟩;have hLSl:LS.length≤100:=by rw[hLS];simp;omega
   simp only[Er,Ad,←hLS]at hs;have hLS0:LS≠ []:=by
    intro e;have h2:LS.length=0:=by rw[e];rfl
    rw[hLS,D9]at h2;have:=hI.out.ol.tree.pos;omega
   rcases hs with⟨_,hs⟩|⟨S,xs,hs,gS⟩
   .exact absurd (F9.1 hs) hLS0
   have hgo:AA (∀(v:AV) (H:AB),H.get m=some (.box (BS p sz (V'.f9 0 v) st.work))→Nv H 2 v ((LS++[(⟨G.place d y.pp,false⟩:Cr)]).map A9)→(AD v=AD (V'.s 0)∨ ∀id∈AD v,HP (b+52) (b+77) π id=true∧ ∃l,id=1::l)→(∀id,Id.is m id=false→(∀id2∈AD (V'.s 0),Id.is id2 id=false)→HP (b+52) (b+77) π id=false→H.get id=g.get id)→ ∃V2,IL p sz π m V h (b+77) V2 {st with d7:={st.d7 with ac:=st.d7.ac++NC,am:=st.d7.am++NS.take (i+1)}} H∧ ∀i∈AD ev,i∉V2.ids m):=⟨fun v H a1 a2 a3 a4=>by
    obtain⟨V2,z1,z2⟩:=hR.step (b':=b+77) (by omega) (G4 (st':={st with d7:={st.d7 with ac:=st.d7.ac++NC,am:=LS++[⟨G.place d y.pp,false⟩]}}) 0 (by omega) hR.rep (hR.apartB hu.out) (wB rfl rfl rfl) rfl v H a1 a2 a3 a4)
    rw[I5,hNSa.out i y hy,←ES,←hLS];exact⟨V2,z1,fun i hi=>z2 i (hev i hi) (hevn i hi)⟩⟩
   replace hevn:=AA.mk hevn;replace hev:=AA.mk hev;rw[Bi]at hs;have hSi:=hR.ids S (V'.s_mem m (i:=0) (by omega) (by rw[hs];simp[AD]));have q1:=fun a n hn=>HS (b':=0) hu.out hSi a n hn;have q2:=fun a n hn=>JX hu.out hSi a n hn;have q3:Id.is S m=false:=AF fun e=>by rw[e,gm]at gS;cases gS
   have q4:Id.is m S=false:=AF fun e=>by rw[←e,gm]at gS;cases gS
   have q5: ∀k,Id.is S (0::k::π)=false:=fun k=>AF fun e=>HK hR hu.out k (by rw[←e];exact V'.s_mem m (i:=0) (by omega) (by rw[hs];simp[AD]));rw[hs]at gm;replace hLS:=AA.mk hLS;replace hR:=AA.mk hR;replace kl:=kl.out;rcases kl with⟨hz,rfl⟩|⟨id,rfl,hg,n,hnb,hun,hl⟩
   .have hpl2:=hpl.out;rw[hz,Be]at hpl2;replace hpl2:=AA.mk hpl2;replace hz:=AA.mk hz;rcases xs with _|⟨z,xs⟩
    ·(repeat' (first|simp only[go_sem, *,D4,AM]|(refine sx ?_ ?_<;>intro hc)|refine sy (by omega) fun x hx hm=>?_|simp(disch:=first|assumption|omega) only[AG]))
     refine Eg (hpl2.out _ _ ?_) (fun o1 g1 p1=>?_)
     .simp only[go_sem,e1,AM,q1,q2,q3,q4,q5]
     subst p1
     (repeat' (first|simp only[go_sem, *,D4,AM]|(refine sx ?_ ?_<;>intro hc)|refine sy (by omega) fun x hx hm=>?_|simp(disch:=first|assumption|omega) only[AG]))
     refine IH.out (_,_) ⟨⟨hgo.out (.d8 (1::(b+70)::π) 0 (LS.length+1)) _ ?_ (Aq [] (by simp) ?_) (.inr fun id2 hid=>?_) fun id2 b1 b2 b3=>?_⟩,?_,?_,?_,?_,⟨.inl ⟨hz.out,rfl⟩⟩⟩
     .simp only[go_sem,BS,AM,q1,q2,q3,q4,q5];first|done|rfl
     .simp only[go_sem,e2,BV,Be,AM,q1,q2,q3,q4,q5];first|done|rfl
     .simp only[AD,Ac]at hid;subst hid;exact⟨EU (b+70) [1] (by omega) (by omega),_,rfl⟩
     .have q6:=BO b3;have q7:=b2 S (by rw[hs];simp[AD]);simp only[go_sem,q6,b1,q7,AM]
     .simp only[go_sem,k2,e2,AM,q1,q2,q3,q4,q5]
     .simp only[go_sem,k3,e2,AM,q1,q2,q3,q4,q5]
     .simp only[go_sem,k4,e2,AM,q1,q2,q3,q4,q5]
     .simp only[go_sem,k5,e2,AM,q1,q2,q3,q4,q5]
    ·(repeat' (first|simp only[go_sem, *,D4,AM]|(refine sx ?_ ?_<;>intro hc)|refine sy (by omega) fun x hx hm=>?_|simp(disch:=first|assumption|omega) only[AG]))
     refine Eg (hpl2.out _ _ ?_) (fun o1 g1 p1=>?_)
     .simp only[go_sem,e1,AM,q1,q2,q3,q4,q5]
     subst p1
     (repeat' (first|simp only[go_sem, *,D4,AM]|(refine sx ?_ ?_<;>intro hc)|refine sy (by omega) fun x hx hm=>?_|simp(disch:=first|assumption|omega) only[AG]))
     refine IH.out (_,_) ⟨⟨hgo.out (.d8 S 0 (LS.length+1)) _ ?_ (Aq xs (by simp) ?_) (.inl (by rw[hs];rfl)) fun id2 b1 b2 b3=>?_⟩,?_,?_,?_,?_,⟨.inl ⟨hz.out,rfl⟩⟩⟩
     .simp only[go_sem,BS,AM,q1,q2,q3,q4,q5];first|done|rfl
     .simp only[go_sem,e2,BV,Be,AM,q1,q2,q3,q4,q5];first|done|rfl
     .have q6:=BO b3;have q7:=b2 S (by rw[hs];simp[AD]);simp only[go_sem,q6,b1,q7,AM]
     .simp only[go_sem,k2,e2,AM,q1,q2,q3,q4,q5]
     .simp only[go_sem,k3,e2,AM,q1,q2,q3,q4,q5]
     .simp only[go_sem,k4,e2,AM,q1,q2,q3,q4,q5]
     .simp only[go_sem,k5,e2,AM,q1,q2,q3,q4,q5]
   .obtain⟨f1,f2,f3,f4⟩:=Da hnb hun hl;have mi:Id.is m id=false:=AF fun e=>by rw[←e,gm]at hg;cases hg
    have im:Id.is id m=false:=AF fun e=>by rw[e,gm]at hg;cases hg
    have Ai:Id.is S id=false:=AF fun e=>hev.out id (by simp[AD]) (by rw[←e];exact V'.s_mem m (i:=0) (by omega) (by rw[hs];simp[AD]));have iA:Id.is id S=false:=AF fun e=>by rw[e,is_self]at Ai;cases Ai
    replace hun:=AA.mk hun;replace hl:=AA.mk hl;rcases xs with _|⟨z,xs⟩
    ·(repeat' (first|simp only[go_sem, *,D4,AM]|(refine sx ?_ ?_<;>intro hc)|refine sy (by omega) fun x hx hm=>?_|simp(disch:=first|assumption|omega) only[AG]))
     refine Eg (hpl.out _ _ ?_) (fun o1 g1 p1=>?_)
     .simp only[go_sem,e1,AM,q1,q2,q3,q4,q5,f1,f2,f3,f4,mi,im,Ai,iA]
     subst p1
     (repeat' (first|simp only[go_sem, *,D4,AM]|(refine sx ?_ ?_<;>intro hc)|refine sy (by omega) fun x hx hm=>?_|simp(disch:=first|assumption|omega) only[AG]))
     refine IH.out (_,_) ⟨⟨hgo.out (.d8 (1::(b+70)::π) 0 (LS.length+1)) _ ?_ (Aq [] (by simp) ?_) (.inr fun id2 hid=>?_) fun id2 b1 b2 b3=>?_⟩,?_,?_,?_,?_,⟨.inr ⟨id,rfl,?_,n,by omega,hun.out,hl.out⟩⟩⟩
     .simp only[go_sem,BS,AM,q1,q2,q3,q4,q5,f1,f2,f3,f4,mi,im,Ai,iA];first|done|rfl
     .simp only[go_sem,e2,BV,Be,AM,q1,q2,q3,q4,q5,f1,f2,f3,f4,mi,im,Ai,iA];first|done|rfl
     .simp only[AD,Ac]at hid;subst hid;exact⟨EU (b+70) [1] (by omega) (by omega),_,rfl⟩
     .have q6:=BO b3;have q7:=b2 S (by rw[hs];simp[AD]);simp only[go_sem,q6,b1,q7,AM]
     .simp only[go_sem,k2,e2,AM,q1,q2,q3,q4,q5,f1,f2,f3,f4,mi,im,Ai,iA]
     .simp only[go_sem,k3,e2,AM,q1,q2,q3,q4,q5,f1,f2,f3,f4,mi,im,Ai,iA]
     .simp only[go_sem,k4,e2,AM,q1,q2,q3,q4,q5,f1,f2,f3,f4,mi,im,Ai,iA]
     .simp only[go_sem,k5,e2,AM,q1,q2,q3,q4,q5,f1,f2,f3,f4,mi,im,Ai,iA]
     .simp only[go_sem,hg,AM,q1,q2,q3,q4,q5,f1,f2,f3,f4,mi,im,Ai,iA]
    ·(repeat' (first|simp only[go_sem, *,D4,AM]|(refine sx ?_ ?_<;>intro hc)|refine sy (by omega) fun x hx hm=>?_|simp(disch:=first|assumption|omega) only[AG]))
     refine Eg (hpl.out _ _ ?_) (fun o1 g1 p1=>?_)
     .simp only[go_sem,e1,AM,q1,q2,q3,q4,q5,f1,f2,f3,f4,mi,im,Ai,iA]
     subst p1
     (repeat' (first|simp only[go_sem, *,D4,AM]|(refine sx ?_ ?_<;>intro hc)|refine sy (by omega) fun x hx hm=>?_|simp(disch:=first|assumption|omega) only[AG]))
     refine IH.out (_,_) ⟨⟨hgo.out (.d8 S 0 (LS.length+1)) _ ?_ (Aq xs (by simp) ?_) (.inl (by rw[hs];rfl)) fun id2 b1 b2 b3=>?_⟩,?_,?_,?_,?_,⟨.inr ⟨id,rfl,?_,n,by omega,hun.out,hl.out⟩⟩⟩
     .simp only[go_sem,BS,AM,q1,q2,q3,q4,q5,f1,f2,f3,f4,mi,im,Ai,iA];first|done|rfl
     .simp only[go_sem,e2,BV,Be,AM,q1,q2,q3,q4,q5,f1,f2,f3,f4,mi,im,Ai,iA];first|done|rfl
     .have q6:=BO b3;have q7:=b2 S (by rw[hs];simp[AD]);simp only[go_sem,q6,b1,q7,AM]
     .simp only[go_sem,k2,e2,AM,q1,q2,q3,q4,q5,f1,f2,f3,f4,mi,im,Ai,iA]
     .simp only[go_sem,k3,e2,AM,q1,q2,q3,q4,q5,f1,f2,f3,f4,mi,im,Ai,iA]
     .simp only[go_sem,k4,e2,AM,q1,q2,q3,q4,q5,f1,f2,f3,f4,mi,im,Ai,iA]
     .simp only[go_sem,k5,e2,AM,q1,q2,q3,q4,q5,f1,f2,f3,f4,mi,im,Ai,iA]
     .simp only[go_sem,hg,AM,q1,q2,q3,q4,q5,f1,f2,f3,f4,mi,im,Ai,iA]
  .clear hR0 hev0 kl2 k2 k3 k4 k5 g b V0 him;rintro i ⟨g,b⟩ hi him ⟨hR,k2,k3,k4,k5,kl⟩;dsimp only at*;have gi:=hi.out;subst gi;clear hi;have hNSl2:=hNSl.out;rw[←hNSl2,D4]at hR;obtain⟨V',hR,hev⟩:=hR.out;have hevn:=GJ kl.out (b+66);have gm:=hR.rep.box;simp only[BS]at gm;have hl3:=La hR.rep.arr;rw[hR.rep.ac.len]at hl3;simp only[D9,←hn3.out,hNCl.out]at hl3;have hl0:=Ga (hR.rep.sl 0 (by omega));simp only[Ad,Bi,D9,←hn0.out,hNSl2]at hl0;have hs:=hR.rep.sl 1 (by omega);simp only[Er,Ad]at hs;clear hNSl2;have hgo:AA (∀(g1:AB) (v:AV) (H:AB),(∀i∈V'.ids m,g1.get i=g.get i)→(∀i,Id.under π i=false→g1.get i=g.get i)→H.get m=some (.box (BS p sz (V'.f9 1 v) st.work))→Nv H 3 v ((st.d7.ce++[G]).map BG)→(AD v=AD (V'.s 1)∨ ∀id∈AD v,HP (b+52) (b+66) π id=true∧ ∃l,id=1::l)→(∀id,Id.is m id=false→(∀id2∈AD (V'.s 1),Id.is id2 id=false)→HP (b+52) (b+66) π id=false→H.get id=g1.get id)→ ∃V2,IL p sz π m V h (b+66) V2 {st with d7:=BN st.d7 d G} H∧ ∀i∈AD ev,i∉V2.ids m):=⟨fun g1 v H b1 b2 a1 a2 a3 a4=>by
    have hR1:IL p sz π m V h (b+52) V' {st with d7:={st.d7 with ac:=st.d7.ac++NC,am:=st.d7.am++NS}} g1:=⟨DJ hR.rep b1,hR.ids,fun id c1 c2=>(b2 id c2).trans (hR.frame id c1 c2)⟩
    obtain⟨V2,z1,z2⟩:=hR1.step (b':=b+66) (by omega) (G4 (st':={st with d7:={st.d7 with ac:=st.d7.ac++NC,am:=st.d7.am++NS,ce:=st.d7.ce++[G]}}) 1 (by omega) hR1.rep (hR1.apartB hu.out) (wA rfl rfl rfl) rfl v H a1 a2 a3 a4)
    refine⟨V2,?_,fun i hi=>z2 i (hev i hi) (hevn i hi)⟩;rw[BN,←hng.out,←hNC.out,←hNS.out];exact z1⟩
   have hsq:AA (∀S,V'.s 1=.d8 S 0 st.d7.ce.length→(∀a n,b+52≤n→Id.is (a::n::π) S=false)∧(∀a n,b+52≤n→Id.is S (a::n::π)=false)∧Id.is S m=false∧Id.is m S=false∧(∀k,Id.is S (0::k::π)=false)∧(∀i∈AD ev,Id.is S i=false∧Id.is i S=false)):=⟨fun S hS=>by
    have hm2:S∈V'.ids m:=V'.s_mem m (i:=1) (by omega) (by rw[hS];simp[AD]);have hi:=hR.ids S hm2;obtain⟨x0,hg⟩:=PZ (hR.rep.sl 1 (by omega)) (id:=S) (by rw[hS];simp[AD]);exact⟨fun a n hn=>HS (b':=0) hu.out hi a n hn,JX hu.out hi,AF fun e=>(by rw[e,gm]at hg;cases hg),AF fun e=>(by rw[←e,gm]at hg;cases hg),fun k=>AF fun e=>HK hR hu.out k (by rw[←e];exact hm2),fun i hi=>⟨AF fun e=>hev i hi (by rw[←e];exact hm2),AF fun e=>hev i hi (by rw[e];exact hm2)⟩⟩⟩
   have hvi:AA (∀i∈V'.ids m,∀i2∈AD ev,Id.is i2 i=false):=⟨fun i hi i2 hi2=>AF fun e=>hev i2 hi2 (by rw[e];exact hi)⟩;have hui:AA (∀i,Id.under π i=false→ ∀i2∈AD ev,Id.is i2 i=false):=⟨fun i hi i2 hi2=>AF fun e=>by
    rcases kl.out with⟨_,rfl⟩|⟨id,rfl,_,n,_,hun,_⟩
    .simp[AD]at hi2
    .simp only[AD,Ac]at hi2;subst hi2;rw[←e,BB hun]at hi;cases hi⟩
   replace hevn:=AA.mk hevn;replace hev:=AA.mk hev;replace hR:=AA.mk hR;replace kl:=kl.out;rcases kl with⟨hz,he⟩|⟨id,he,hg,n,hnb,hun,hl⟩
   .rw[he]at k5;rcases hs with⟨hs,hs0⟩|⟨S,xs,hs,gS⟩
    .have hs1:=AA.mk (F9.1 hs0);rw[hs]at gm
     (repeat' (first|simp only[go_sem, *,↓hl3,↓hl0,AM]|(refine sx ?_ ?_<;>intro hc)|refine sy (by omega) fun x hx hm=>?_|simp(disch:=first|assumption|omega) only[AG]))
     refine hend.out _ _ _ rfl rfl rfl rfl rfl (hgo.out g (.d8 (1::(b+61)::π) 0 1) _ (fun _ _=>rfl) (fun _ _=>rfl) ?_ (Aq [] ?_ ?_) (.inr fun id2 hid=>?_) fun id2 b1 b2 b3=>?_) ?_ ?_ ?_ ?_ ?_
     .simp only[go_sem,BS,AM,hGd,hGa,hz];first|done|rfl
     .rw[hs1.out];rfl
     .rw[hs1.out];simp only[go_sem,e2,AM,hGd,hGa,hz];first|done|rfl
     .simp only[AD,Ac]at hid;subst hid;exact⟨EU (b+61) [1] (by omega) (by omega),_,rfl⟩
     .have q6:=BO b3;simp only[go_sem,q6,b1,AM]
     .simp only[go_sem,k2,e2,AM,hGd,hGa,hz]
     .simp only[go_sem,k3,e2,AM,hGd,hGa,hz]
     .simp only[go_sem,k4,e2,AM,hGd,hGa,hz]
     .rw[he];simp only[go_sem,k5,e2,AM,hGd,hGa,hz]
     .exact .inl ⟨hz,he⟩
    .rw[Bi]at hs;rcases xs with _|⟨z,xs⟩
     .skip
      obtain⟨q1,q2,q3,q4,q5,q8⟩:=hsq.out S hs;replace q8:=AA.mk q8;rw[hs]at gm
      (repeat' (first|simp only[go_sem, *,↓hl3,↓hl0,AM]|(refine sx ?_ ?_<;>intro hc)|refine sy (by omega) fun x hx hm=>?_|simp(disch:=first|assumption|omega) only[AG]))
      refine hend.out _ _ _ rfl rfl rfl rfl rfl (hgo.out g (.d8 (1::(b+61)::π) 0 (st.d7.ce.length+1)) _ (fun _ _=>rfl) (fun _ _=>rfl) ?_ (Aq [] ?_ ?_) (.inr fun id2 hid=>?_) fun id2 b1 b2 b3=>?_) ?_ ?_ ?_ ?_ ?_
      .simp only[go_sem,BS,AM,hGd,hGa,q1,q2,q3,q4,q5,hz];first|done|rfl
      .simp
      .simp only[go_sem,e2,BV,Be,AM,hGd,hGa,q1,q2,q3,q4,q5,hz];first|done|rfl
      .simp only[AD,Ac]at hid;subst hid;exact⟨EU (b+61) [1] (by omega) (by omega),_,rfl⟩
      .have q6:=BO b3;have q7:=b2 S (by rw[hs];simp[AD]);simp only[go_sem,q6,b1,q7,AM]
      .simp only[go_sem,k2,e2,AM,hGd,hGa,q1,q2,q3,q4,q5,hz]
      .simp only[go_sem,k3,e2,AM,hGd,hGa,q1,q2,q3,q4,q5,hz]
      .simp only[go_sem,k4,e2,AM,hGd,hGa,q1,q2,q3,q4,q5,hz]
      .rw[he];simp only[go_sem,k5,e2,AM,hGd,hGa,q1,q2,q3,q4,q5,hz]
      .exact .inl ⟨hz,he⟩
     .skip
      obtain⟨q1,q2,q3,q4,q5,q8⟩:=hsq.out S hs;replace q8:=AA.mk q8;rw[hs]at gm
      (repeat' (first|simp only[go_sem, *,↓hl3,↓hl0,AM]|(refine sx ?_ ?_<;>intro hc)|refine sy (by omega) fun x hx hm=>?_|simp(disch:=first|assumption|omega) only[AG]))
      refine hend.out _ _ _ rfl rfl rfl rfl rfl (hgo.out g (.d8 S 0 (st.d7.ce.length+1)) _ (fun _ _=>rfl) (fun _ _=>rfl) ?_ (Aq xs ?_ ?_) (.inl (by rw[hs];rfl)) fun id2 b1 b2 b3=>?_) ?_ ?_ ?_ ?_ ?_
      .simp only[go_sem,BS,AM,hGd,hGa,q1,q2,q3,q4,q5,hz];first|done|rfl
      .simp
      .simp only[go_sem,e2,BV,Be,AM,hGd,hGa,q1,q2,q3,q4,q5,hz];first|done|rfl
      .have q6:=BO b3;have q7:=b2 S (by rw[hs];simp[AD]);simp only[go_sem,q6,b1,q7,AM]
      .simp only[go_sem,k2,e2,AM,hGd,hGa,q1,q2,q3,q4,q5,hz]
      .simp only[go_sem,k3,e2,AM,hGd,hGa,q1,q2,q3,q4,q5,hz]
      .simp only[go_sem,k4,e2,AM,hGd,hGa,q1,q2,q3,q4,q5,hz]
      .rw[he];simp only[go_sem,k5,e2,AM,hGd,hGa,q1,q2,q3,q4,q5,hz]
      .exact .inl ⟨hz,he⟩
   .rw[he]at k5;obtain⟨f1,f2,f3,f4⟩:=Da hnb hun hl;have mi:Id.is m id=false:=AF fun e=>by rw[←e,gm]at hg;cases hg
    have im:Id.is id m=false:=AF fun e=>by rw[e,gm]at hg;cases hg
    replace hun:=AA.mk hun;replace hl:=AA.mk hl;rcases hs with⟨hs,hs0⟩|⟨S,xs,hs,gS⟩
    .have hs1:=AA.mk (F9.1 hs0);rw[hs]at gm
     (repeat' (first|simp only[go_sem, *,↓hl3,↓hl0,AM]|(refine sx ?_ ?_<;>intro hc)|refine sy (by omega) fun x hx hm=>?_|simp(disch:=first|assumption|omega) only[AG]))
     refine hend.out _ _ _ rfl rfl rfl rfl rfl (hgo.out (g.put id (.it 2 (G.env.map AI))) (.d8 (1::(b+61)::π) 0 1) _ (fun i hi=>by rw[get_put,hvi.out i hi id (by rw[he];simp[AD])];simp) (fun i hi=>by rw[get_put,hui.out i hi id (by rw[he];simp[AD])];simp) ?_ (Aq [] ?_ ?_) (.inr fun id2 hid=>?_) fun id2 b1 b2 b3=>?_) ?_ ?_ ?_ ?_ ?_
     .simp only[go_sem,BS,AM,hGd,hGa,f1,f2,f3,f4,mi,im];first|done|rfl
     .rw[hs1.out];rfl
     .rw[hs1.out];simp only[go_sem,e2,AM,hGd,hGa,f1,f2,f3,f4,mi,im];first|done|rfl
     .simp only[AD,Ac]at hid;subst hid;exact⟨EU (b+61) [1] (by omega) (by omega),_,rfl⟩
     .have q6:=BO b3;simp only[go_sem,q6,b1,AM]
     .simp only[go_sem,k2,e2,AM,hGd,hGa,f1,f2,f3,f4,mi,im]
     .simp only[go_sem,k3,e2,AM,hGd,hGa,f1,f2,f3,f4,mi,im]
     .simp only[go_sem,k4,e2,AM,hGd,hGa,f1,f2,f3,f4,mi,im]
     .rw[he];simp only[go_sem,k5,e2,AM,hGd,hGa,f1,f2,f3,f4,mi,im]
     .refine .inr ⟨id,he,?_,n,by omega,hun.out,hl.out⟩;simp only[go_sem,e2,AM,hGd,hGa,f1,f2,f3,f4,mi,im]
    .rw[Bi]at hs;rcases xs with _|⟨z,xs⟩
     .skip
      obtain⟨q1,q2,q3,q4,q5,q8⟩:=hsq.out S hs;obtain⟨q9,q10⟩:=q8 id (by rw[he];simp[AD]);replace q8:=AA.mk q8;rw[hs]at gm
      (repeat' (first|simp only[go_sem, *,↓hl3,↓hl0,AM]|(refine sx ?_ ?_<;>intro hc)|refine sy (by omega) fun x hx hm=>?_|simp(disch:=first|assumption|omega) only[AG]))
      refine hend.out _ _ _ rfl rfl rfl rfl rfl (hgo.out (g.put id (.it 2 (G.env.map AI))) (.d8 (1::(b+61)::π) 0 (st.d7.ce.length+1)) _ (fun i hi=>by rw[get_put,hvi.out i hi id (by rw[he];simp[AD])];simp) (fun i hi=>by rw[get_put,hui.out i hi id (by rw[he];simp[AD])];simp) ?_ (Aq [] ?_ ?_) (.inr fun id2 hid=>?_) fun id2 b1 b2 b3=>?_) ?_ ?_ ?_ ?_ ?_
      .simp only[go_sem,BS,AM,hGd,hGa,q1,q2,q3,q4,q5,q9,q10,f1,f2,f3,f4,mi,im];first|done|rfl
      .simp
      .simp only[go_sem,e2,BV,Be,AM,hGd,hGa,q1,q2,q3,q4,q5,q9,q10,f1,f2,f3,f4,mi,im];first|done|rfl
      .simp only[AD,Ac]at hid;subst hid;exact⟨EU (b+61) [1] (by omega) (by omega),_,rfl⟩
      .have q6:=BO b3;have q7:=b2 S (by rw[hs];simp[AD]);simp only[go_sem,q6,b1,q7,AM]
      .simp only[go_sem,k2,e2,AM,hGd,hGa,q1,q2,q3,q4,q5,q9,q10,f1,f2,f3,f4,mi,im]
      .simp only[go_sem,k3,e2,AM,hGd,hGa,q1,q2,q3,q4,q5,q9,q10,f1,f2,f3,f4,mi,im]
      .simp only[go_sem,k4,e2,AM,hGd,hGa,q1,q2,q3,q4,q5,q9,q10,f1,f2,f3,f4,mi,im]
      .rw[he];simp only[go_sem,k5,e2,AM,hGd,hGa,q1,q2,q3,q4,q5,q9,q10,f1,f2,f3,f4,mi,im]
      .refine .inr ⟨id,he,?_,n,by omega,hun.out,hl.out⟩;simp only[go_sem,e2,AM,hGd,hGa,q1,q2,q3,q4,q5,q9,q10,f1,f2,f3,f4,mi,im]
     .skip
      obtain⟨q1,q2,q3,q4,q5,q8⟩:=hsq.out S hs;obtain⟨q9,q10⟩:=q8 id (by rw[he];simp[AD]);replace q8:=AA.mk q8;rw[hs]at gm
      (repeat' (first|simp only[go_sem, *,↓hl3,↓hl0,AM]|(refine sx ?_ ?_<;>intro hc)|refine sy (by omega) fun x hx hm=>?_|simp(disch:=first|assumption|omega) only[AG]))
      refine hend.out _ _ _ rfl rfl rfl rfl rfl (hgo.out (g.put id (.it 2 (G.env.map AI))) (.d8 S 0 (st.d7.ce.length+1)) _ (fun i hi=>by rw[get_put,hvi.out i hi id (by rw[he];simp[AD])];simp) (fun i hi=>by rw[get_put,hui.out i hi id (by rw[he];simp[AD])];simp) ?_ (Aq xs ?_ ?_) (.inl (by rw[hs];rfl)) fun id2 b1 b2 b3=>?_) ?_ ?_ ?_ ?_ ?_
      .simp only[go_sem,BS,AM,hGd,hGa,q1,q2,q3,q4,q5,q9,q10,f1,f2,f3,f4,mi,im];first|done|rfl
      .simp
      .simp only[go_sem,e2,BV,Be,AM,hGd,hGa,q1,q2,q3,q4,q5,q9,q10,f1,f2,f3,f4,mi,im];first|done|rfl
      .have q6:=BO b3;have q7:=b2 S (by rw[hs];simp[AD]);simp only[go_sem,q6,b1,q7,AM]
      .simp only[go_sem,k2,e2,AM,hGd,hGa,q1,q2,q3,q4,q5,q9,q10,f1,f2,f3,f4,mi,im]
      .simp only[go_sem,k3,e2,AM,hGd,hGa,q1,q2,q3,q4,q5,q9,q10,f1,f2,f3,f4,mi,im]
      .simp only[go_sem,k4,e2,AM,hGd,hGa,q1,q2,q3,q4,q5,q9,q10,f1,f2,f3,f4,mi,im]
      .rw[he];simp only[go_sem,k5,e2,AM,hGd,hGa,q1,q2,q3,q4,q5,q9,q10,f1,f2,f3,f4,mi,im]
      .refine .inr ⟨id,he,?_,n,by omega,hun.out,hl.out⟩;simp only[go_sem,e2,AM,hGd,hGa,q1,q2,q3,q4,q5,q9,q10,f1,f2,f3,f4,mi,im]
theorem eF{p:AK}{sz:List Int}{k:Nat}(hF:Bq p sz)(IH0:Hl p sz k){h:AB}{π:List Nat}{m:Abs.Id}{V:MV}{st:CC}(hM:KP p sz h m V st)(hu:B4 π V m)(hI:Iv p sz k st)(j:FW){x:CT}(hj:LF p j x){d:Bz}(hd:Dr p sz st.d7 j x d):
 ∃o h',KL Tryz.prog cfg (.fn 112) [.ptr m 0,.agg [.d (.int .i64 (j.node)),.d (.int .i64 (j.at_)),.d (.be (j.env.map AI))]] h π true none=.ok (o,h')∧GF p sz π m V h (Fy (Dg p k) (Ds p x j st)) o h':=by
 have hm:=hM.box;have um:=hu m (V.m_mem m);simp only[BS]at hm;have e1:=AE um;have e2:=AZ um;have e3:=C1 um;have e4:=Gw um;have hx:=hj.node;have hn:=hj.n0;have hel:=hj.len;have hxl:=Na hj;have hsm:=hF.small;simp only[AK.small,AS,As]at hsm;obtain⟨z1,z2,z3⟩:=hsm;have hdd:=hd.eq;have hd0:=hd.n0;have hdl:=AL hdd;have d1:=hd.ok.ac;have d2:=hd.ok.am;have h1:=Lk j.env (by omega);have hmS:=hI.ol.small;simp only[CW.small,AS,As]at hmS;obtain⟨s1,s2,s3,s4⟩:=hmS;replace hM:=AA.mk hM;replace hu:=AA.mk hu;replace hd:=AA.mk hd;replace hI:=AA.mk hI;have hl3:=La hM.out.arr;have hl0:=Ga (hM.out.sl 0 (by omega));rw[hM.out.ac.len]at hl3;simp only[Ad,Bi]at hl0;obtain⟨n3,hn3⟩: ∃n,n=st.d7.ac.length:=⟨_,rfl⟩;obtain⟨n0,hn0⟩: ∃n,n=st.d7.am.length:=⟨_,rfl⟩;rw[←hn3]at hl3;rw[←hn0]at hl0;have s3':n3≤60:=by omega
 have s1':n0≤24:=by omega
 replace hn3:=AA.mk hn3;replace hn0:=AA.mk hn0;by_cases h0:j.env.length=0;all_goals
  first
  |simp only[C7 h0]at h1
  |simp only[Dm h0]at h1
  have fa:=CP
  (refine Aa rfl Tryz.func112 rfl rfl rfl ?_;show Wp _ _ _ _ (Tryz.f112.body.get rfl) _ _;simp only[Tryz.f112,AP])
  refine RA 6 fun T hT=>?_;have hend:AA (∀(e:CB) (H:AB) (c:Nat),e.get 0=.ptr m 0→e.get 3=.ptr (0::0::π) 0→e.get 4=.ptr (0::10::π) 0→e.get 5=.ptr (0::21::π) 0→e.get 6=.ptr (0::31::π) 0→(∀id,Id.under π id=false→H.get id=h.get id)→H.get (0::0::π)=some (.box [.d (.int .i64 (j.node)),.d (.int .i64 (j.at_)),.d (.be (j.env.map AI))])→H.get (0::10::π)=some (.box [.d (.int .i64 (x.op)),.d (.int .i64 (x.n)),.d (.be (x.args.map Av)),.d (.be (x.kids.map AO))])→H.get (0::21::π)=some (.box [.d (.be (d.ac.map Ab)),.d (.be (d.am.map AR)),.d (.be (d.rules.map Af))])→(∃ev,H.get (0::31::π)=some (.box [.d (.int .i64 (x.n)),.d (.int .i64 (j.at_)),ev])∧dC π H (c+43) ev (j.env++CF n3 d.ac.length++Ei n0 d.am.length))→Wp cfg (KL Tryz.prog cfg) ⟨112,π,true,none,false,204⟩ 0 T ⟨e,H,c+43,[]⟩ (Ka cfg none [] π true (GF p sz π m V h (Fy (Dg p k) (Ds p x j st))))):=⟨fun e H c x0 x3 x4 x5 x6 k1 y2 y3 y4 hev=>by
   obtain⟨ev,y5,hl⟩:=hev;rw[hT];refine eD hF IH0 hM.out hu.out hI.out hd.out rfl x0 x3 x4 x5 x6 k1 y2 y3 y4 y5 ?_;have:(AX st.d7 d x.n j).env=j.env++CF n3 d.ac.length++Ei n0 d.am.length:=by rw[hn3.out,hn0.out,AX,Ed,ES];rfl
   rw[this];exact hl⟩
  replace hT:=AA.mk hT;simp only[Tryz.f112,AP,PG];refine ax ?_;clear h1;refine AY d.ac _ (S:=fun m' i (a:AB×Nat)=>⟨[(0,.ptr m 0),(3,.ptr (0::0::π) 0),(4,.ptr (0::10::π) 0),(5,.ptr (0::21::π) 0),(6,.ptr (0::31::π) 0),(43,.d (.int .i64 (m'))),(44,.d (.int .i64 (i)))],a.1,a.2+37,[]⟩)
   (Inv:=fun i rest a=>AA (∀id,Id.under π id=false→a.1.get id=h.get id)∧a.1.get (0::0::π)=some (.box [.d (.int .i64 (j.node)),.d (.int .i64 (j.at_)),.d (.be (j.env.map AI))])∧a.1.get (0::10::π)=some (.box [.d (.int .i64 (x.op)),.d (.int .i64 (x.n)),.d (.be (x.args.map Av)),.d (.be (x.kids.map AO))])∧a.1.get (0::21::π)=some (.box [.d (.be (d.ac.map Ab)),.d (.be (d.am.map AR)),.d (.be (d.rules.map Af))])∧AA (∃ev,a.1.get (0::31::π)=some (.box [.d (.int .i64 (x.n)),.d (.int .i64 (j.at_)),ev])∧dC π a.1 (a.2+37) ev (j.env++CF n3 i))) (b0:=(_,_)) rfl ⟨⟨fun id b=>?_⟩,?_,?_,?_,⟨?_⟩⟩ ?_ ?_
  .have q1:=AE b;have q4:=C1 b;simp only[go_sem,q1,q4,AM]
  .simp only[go_sem]
  .simp only[go_sem]
  .simp only[go_sem]
  .first
   |(refine⟨.ci,?_,.inl ⟨by simp[CF,CE h0],rfl⟩⟩
     simp only[go_sem]
     done)
   |(refine⟨.d8 (1::0::2::29::π) 0 j.env.length,?_,.inr ⟨_,by simp[CF],?_,29,by omega,under_iff.2 ⟨[1,0,2],rfl⟩,_,rfl⟩⟩
     .simp only[go_sem]
     .simp only[CF,List.range'_zero,Be,EL];simp only[go_sem])
  .rintro i y ⟨g,b⟩ hy hi him ⟨k1,k2,k3,k4,kl⟩ IH;dsimp only at*;obtain⟨ev,k5,kl⟩:=kl.out;have gm:=(k1.out m um).trans hm;have w1:IntKind.i64.wrap ((n3:Int)+(i:Int))=(n3:Int)+(i:Int):=wrap_id (by omega) (by omega);obtain⟨L,hL⟩: ∃L,L=j.env++CF n3 i:=⟨_,rfl⟩;have hLs:AA (j.env++CF n3 (i+1)=L++[⟨3,(n3:Int)+(i:Int)⟩]):=⟨by rw[Oe,←ES,←hL];simp⟩;rw[←hL]at kl;have hLm:L.length≤20000:=by rw[hL];simp[CF];omega
   replace hL:=AA.mk hL;rcases kl with⟨hz,rfl⟩|⟨id,rfl,hg,n,hnb,hun,hl⟩
   ·(repeat' (first|simp only[go_sem, *,↓hl3,↓hl0]|(refine sx ?_ ?_<;>intro hc)|refine sy (by omega) fun x hx hm=>?_|simp(disch:=first|assumption|omega) only[AG]))
    refine IH.out (_,_) ⟨⟨fun id b=>?_⟩,?_,?_,?_,⟨.d8 (1::(b+52)::π) 0 1,?_,?_⟩⟩
    .have q1:=AE b;simp only[go_sem,q1,k1.out id b,AM]
    .simp only[go_sem,k2]
    .simp only[go_sem,k3]
    .simp only[go_sem,k4]
    .simp only[go_sem]
    .rw[hLs.out,hz];refine Ib (by omega) rfl ?_;simp only[go_sem]
   .obtain⟨f1,f2,f3,f4⟩:=Da hnb hun hl;have hun2:=AA.mk (BB hun);clear hl hun hnb
    (repeat' (first|simp only[go_sem, *,↓hl3,↓hl0,AM]|(refine sx ?_ ?_<;>intro hc)|refine sy (by omega) fun x hx hm=>?_|simp(disch:=first|assumption|omega) only[AG]))
    refine IH.out (_,_) ⟨⟨fun id2 b2=>?_⟩,?_,?_,?_,⟨.d8 (1::(b+52)::π) 0 (L.length+1),?_,?_⟩⟩
    .have q1:=AE b2;have q2:Id.is id id2=false:=AF fun e=>by rw[←e,hun2.out]at b2;cases b2
     simp only[go_sem,q1,q2,k1.out id2 b2,AM]
    .simp only[go_sem,k2,f3,f4,AM]
    .simp only[go_sem,k3,f3,f4,AM]
    .simp only[go_sem,k4,f3,f4,AM]
    .simp only[go_sem]
    .rw[hLs.out];refine Ib (by omega) (by simp) ?_;simp only[go_sem,f1,f2,BV,AM]
  .clear s3';rintro i ⟨g,b⟩ hi him ⟨k1,k2,k3,k4,kl⟩;dsimp only at*;have gi:=hi.out;subst gi;clear hi;replace hl3:=AA.mk hl3;refine aw ?_;refine AY d.am _ (S:=fun m' i (a:AB×Nat)=>⟨[(0,.ptr m 0),(3,.ptr (0::0::π) 0),(4,.ptr (0::10::π) 0),(5,.ptr (0::21::π) 0),(6,.ptr (0::31::π) 0),(64,.d (.int .i64 (m'))),(65,.d (.int .i64 (i)))],a.1,a.2+42,[]⟩)
    (Inv:=fun i rest a=>AA (∀id,Id.under π id=false→a.1.get id=h.get id)∧a.1.get (0::0::π)=some (.box [.d (.int .i64 (j.node)),.d (.int .i64 (j.at_)),.d (.be (j.env.map AI))])∧a.1.get (0::10::π)=some (.box [.d (.int .i64 (x.op)),.d (.int .i64 (x.n)),.d (.be (x.args.map Av)),.d (.be (x.kids.map AO))])∧a.1.get (0::21::π)=some (.box [.d (.be (d.ac.map Ab)),.d (.be (d.am.map AR)),.d (.be (d.rules.map Af))])∧AA (∃ev,a.1.get (0::31::π)=some (.box [.d (.int .i64 (x.n)),.d (.int .i64 (j.at_)),ev])∧dC π a.1 (a.2+42) ev (j.env++CF n3 d.ac.length++Ei n0 i))) (b0:=(_,b)) rfl ⟨k1,k2,k3,k4,⟨by obtain⟨ev,q1,q2⟩:=kl.out;exact⟨ev,q1,by simpa[Ei]using Ic q2 (by omega)⟩⟩⟩ ?_ ?_
   .clear kl k1 k2 k3 k4 g b;rintro i y ⟨g,b⟩ hy hi him ⟨k1,k2,k3,k4,kl⟩ IH;dsimp only at*;obtain⟨ev,k5,kl⟩:=kl.out;have gm:=(k1.out m um).trans hm;have w1:IntKind.i64.wrap ((n0:Int)+(i:Int))=(n0:Int)+(i:Int):=wrap_id (by omega) (by omega);obtain⟨L,hL⟩: ∃L,L=j.env++CF n3 d.ac.length++Ei n0 i:=⟨_,rfl⟩;have hLs:AA (j.env++CF n3 d.ac.length++Ei n0 (i+1)=L++[⟨4,(n0:Int)+(i:Int)⟩]):=⟨by rw[PB,←ES,←hL];simp⟩;rw[←hL]at kl;have hLm:L.length≤20000:=by rw[hL];simp[CF,Ei];omega
    replace hL:=AA.mk hL;rcases kl with⟨hz,rfl⟩|⟨id,rfl,hg,n,hnb,hun,hl⟩
    ·(repeat' (first|simp only[go_sem, *,↓hl0]|(refine sx ?_ ?_<;>intro hc)|refine sy (by omega) fun x hx hm=>?_|simp(disch:=first|assumption|omega) only[AG]))
     refine IH.out (_,_) ⟨⟨fun id b2=>?_⟩,?_,?_,?_,⟨.d8 (1::(b+57)::π) 0 1,?_,?_⟩⟩
     .have q1:=AE b2;simp only[go_sem,q1,k1.out id b2,AM]
     .simp only[go_sem,k2]
     .simp only[go_sem,k3]
     .simp only[go_sem,k4]
     .simp only[go_sem]
     .rw[hLs.out,hz];refine Ib (by omega) rfl ?_;simp only[go_sem]
    .obtain⟨f1,f2,f3,f4⟩:=Da hnb hun hl;have hun2:=AA.mk (BB hun);clear hl hun hnb
     (repeat' (first|simp only[go_sem, *,↓hl0,AM]|(refine sx ?_ ?_<;>intro hc)|refine sy (by omega) fun x hx hm=>?_|simp(disch:=first|assumption|omega) only[AG]))
     refine IH.out (_,_) ⟨⟨fun id2 b2=>?_⟩,?_,?_,?_,⟨.d8 (1::(b+57)::π) 0 (L.length+1),?_,?_⟩⟩
     .have q1:=AE b2;have q2:Id.is id id2=false:=AF fun e=>by rw[←e,hun2.out]at b2;cases b2
      simp only[go_sem,q1,q2,k1.out id2 b2,AM]
     .simp only[go_sem,k2,f3,f4,AM]
     .simp only[go_sem,k3,f3,f4,AM]
     .simp only[go_sem,k4,f3,f4,AM]
     .simp only[go_sem]
     .rw[hLs.out];refine Ib (by omega) (by simp) ?_;simp only[go_sem,f1,f2,BV,AM]
   .clear kl k1 k2 k3 k4 g b him;rintro i ⟨g,b⟩ hi him ⟨k1,k2,k3,k4,kl⟩;dsimp only at*;have gi:=hi.out;subst gi;clear hi;refine aw ?_;exact hend.out _ _ _ rfl rfl rfl rfl rfl k1.out k2 k3 k4 (by obtain⟨ev,q1,q2⟩:=kl.out;exact⟨ev,q1,Ic q2 (by omega)⟩)
theorem XF(h:Cz x.op=some x.kids.length):x.op=1∨x.op=2∨x.op=3∨x.op=4∨x.op=5∨x.op=6∨x.op=7∨x.op=8:=by
 unfold Cz at h;repeat (split at h;· omega)
 cases h
theorem M0(f:FW→CC→Option CC)(r:Option CC):Fy f (r.map fun st=>(st,[]))=r:=by cases r<;>rfl
theorem TV{p:AK}{sz:List Int}(hF:Bq p sz): ∀k,Hl p sz k
 |0=>fun h π m V st j hM hu hS hj w0 w1 w2 hev=>by omega
 |k+1=>fun h π m V st j hM hu hS hj w0 w1 w2 hev=>by
  have IH0:=TV hF k;obtain⟨x,l,hx,hok,hl,hq,hle⟩:=Kk hF hj;have hok2:=hok;simp only[CV,AS,As,CO]at hok;obtain⟨hk,hn,har,hex⟩:=hok;have hfc:LF p j x:=⟨hj.n0,hx,by omega⟩;have hn0:=hj.n0;have hxl:=Na hfc;have hm:=hM.box;have um:=hu m (V.m_mem m);simp only[BS]at hm;have hacts:=hM.rc;have mA:Id.is m V.rc=false:=AF fun e=>by rw[←e,hm]at hacts;cases hacts
  have e1:=AE um;have e2:=AZ um;have ww:IntKind.i64.wrap (st.work+1)=st.work+1:=wrap_id (by omega) (by omega);obtain⟨st1,hst1⟩: ∃s,s={st with work:=st.work+1}:=⟨_,rfl⟩
  have hsm:=hF.small;simp only[AK.small,AS,As]at hsm;obtain⟨z1,z2,z3⟩:=hsm;have hd:AA (Dg p (k+1) j st=if st.work<400 then Fy (Dg p k) (JK p j st1)else none):=⟨by rw[hst1];rfl⟩;have hrun:AA (∀H:AB,H.get m=some (.box (BS p sz V (st.work+1)))→(∀id,Id.is m id=false→Id.under π id=false→H.get id=h.get id)→IL p sz π m V h 0 V st1 H):=⟨fun H a1 a2=>by
   have:=Sc (st':=st1) hM hu (by rw[hst1];exact a1) (by rw[hst1];exact⟨rfl,rfl⟩) fun id b1 b2=>a2 id (AF fun e=>b1 e.symm) b2;exact⟨this.1,fun id hid=>.inl hid,this.2.frame⟩⟩
  have hI1:AA (st.work<400→Iv p sz k st1):=⟨fun h=>by rw[hst1];exact⟨hS,by dsimp only;omega,by dsimp only;omega,by dsimp only;omega,by dsimp only;omega⟩⟩;have hj1:AA (Br p sz st1.d7 j):=⟨by rw[hst1];exact hj⟩;have hsol:AA (st1.d7=st.d7):=⟨by rw[hst1]⟩;have hwl:AA (st.d7.waits.length≤1000000):=⟨by
   have:=hS.small;simp only[CW.small,AS,As]at this;omega⟩
  have hevl:AA (st1.ev.length≤1000000):=⟨by rw[hst1];dsimp only;omega⟩;replace hst1:=AA.mk hst1;replace hM:=AA.mk hM;replace hu:=AA.mk hu;replace hS:=AA.mk hS;replace hj:=AA.mk hj;replace hex:=AA.mk hex;replace hok2:=AA.mk hok2;replace hfc:=AA.mk hfc;replace hq:=AA.mk hq;replace hl:=AA.mk hl;have fin:AA (∀(H g1:AB) (n:Nat) (o:Ae) (r:Option CC),IL p sz π m V h 0 V st1 H→GF p sz (n::π) m V H r o g1→GF p sz π m V h r o (gc (n::π) g1)):=⟨fun H g1 n o r hr ho=>by
   cases r with
   |none=>exact hr.em hu.out (I4 _) ho
   |some st2=>
    obtain⟨V2,h2,_⟩:=hr.call hu.out (I4 _) ho;obtain⟨rfl,_⟩:=ho;exact h2.fin⟩
  by_cases hw:st.work<400
  .have hw2:st.work+1≤400:=by omega
   rw[hd.out,D7 hw];have hJ:AA (JK p j st1=if x.op=2 then(B0 p x j st1).map fun st=>(st,[])else if x.op=3 then some (st1,A6 x 0 j.at_ j.env++A6 x 1 j.at_ j.env)else if x.op=4 then Ds p x j st1 else if x.op=5 then some (st1,A6 x (NH x j.env) j.at_ j.env)else if ED x.op=true then(Dw j st1).map fun st=>(st,[])else some (st1,[])):=⟨by rw[JK,hx]⟩;have hI1:=hI1.out hw;replace hI1:=AA.mk hI1;have hr:IL p sz π m V h 0 V st1 (h.put m (.box (BS p sz V (st.work+1)))):=by
    refine hrun.out _ ?_ ?_
    .simp only[go_sem]
    .intro id b1 b2;simp only[go_sem,b1,AM]
   have ap:=AA.mk (hr.apart hu.out (n:=36) (I4 _));have hfn:=fun g1 o r=>fin.out _ g1 36 o r hr;replace hfn:=AA.mk hfn;replace hr:=AA.mk hr;have hal:=AA.mk har;clear har;rcases XF hk with ho|ho|ho|ho|ho|ho|ho|ho
   .rw[hJ.out];simp only[ho,Int.reduceEq,F3,D8,ED,decide_false,Bool.or_self,AM,Fy,Bj]
    (refine Aa rfl Tryz.func66 rfl rfl rfl ?_;show Wp _ _ _ _ (Tryz.f66.body.get rfl) _ _;simp only[Tryz.f66,AP])
    (repeat' (first|simp only[go_sem, *,Fa]|(refine sx ?_ ?_<;>intro hc)|refine sy (by omega) fun x hx hm=>?_|simp(disch:=first|assumption|omega) only[AG]))
    exact hr.out.fin
   .rw[hJ.out];simp only[ho,Int.reduceEq,F3,D8,M0];have hn1:0≤x.n∧x.n<j.env.length:=by simpa[UA,ho]using hn
    have ha3:x.args.length≤3:=by simpa[DV,ho]using hal.out
    have hef: ∀e∈x.args,e.formed j.env.length=true:=fun e he=>by
     have:=hex.out e he;simp only[BM.ok,AS]at this;exact this.2.2
    replace hef:=AA.mk hef
    (refine Aa rfl Tryz.func66 rfl rfl rfl ?_;show Wp _ _ _ _ (Tryz.f66.body.get rfl) _ _;simp only[Tryz.f66,AP])
    (repeat' (first|simp only[go_sem, *,Fa]|(refine sx ?_ ?_<;>intro hc)|refine sy (by omega) fun x hx hm=>?_|simp(disch:=first|assumption|omega) only[AG]))
    refine AW (vO (V:=V) (st:=st1) hr.out.rep ap.out j hfc.out z2 ha3 hef.out hn1.1 hn1.2 (by rw[hsol.out];exact hj.out.of) (fun c q hq=>by rw[hsol.out]at hq⊢;exact VL hF hS.out hq) hevl.out) (fun o1 g1 p1=>?_);have fn:=hfn.out g1 o1 _ p1;obtain⟨r,hr9⟩: ∃r,r=B0 p x j st1:=⟨_,rfl⟩;rw[←hr9]at fn p1⊢;clear hr9;cases r;all_goals
     have w9:=p1.1;subst w9;replace fn:=AA.mk fn;replace p1:=AA.mk p1;refine aw ?_;exact fn.out
   .rw[hJ.out];simp only[ho,Int.reduceEq,F3,D8];have hk2:x.kids.length=2:=by simpa[Cz,ho]using hk.symm
    obtain⟨ka,kb,hkk⟩:=Nr hk2;have hkj:A6 x 0 j.at_ j.env++A6 x 1 j.at_ j.env=En x.kids j.at_ j.env:=by simp[A6,En,hkk]
    have hkid: ∀j'∈En x.kids j.at_ j.env,Br p sz st1.d7 j':=by
     rw[←hkj];intro j' hj';rcases F2.1 hj' with h1|h1
     .exact J3 hj1.out (by omega) hl.out hq.out 0 j' h1
     .exact J3 hj1.out (by omega) hl.out hq.out 1 j' h1
    rw[Fy,hkj];replace hkj:=AA.mk hkj;replace hkk:=AA.mk hkk;replace hkid:=AA.mk hkid
    (refine Aa rfl Tryz.func66 rfl rfl rfl ?_;show Wp _ _ _ _ (Tryz.f66.body.get rfl) _ _;simp only[Tryz.f66,AP])
    (repeat' (first|simp only[go_sem, *,Fa]|(refine sx ?_ ?_<;>intro hc)|refine sy (by omega) fun x hx hm=>?_|simp(disch:=first|assumption|omega) only[AG]))
    refine AW (rB hF IH0 (V:=V) (st:=st1) hr.out.rep ap.out hI1.out j hfc.out z2 (by omega) hkid.out) (fun o1 g1 p1=>?_);have fn:=hfn.out g1 o1 _ p1;obtain⟨r,hr9⟩: ∃r,r=Bj (Dg p k) (En x.kids j.at_ j.env) st1:=⟨_,rfl⟩;rw[←hr9]at fn p1⊢;clear hr9;cases r;all_goals
     have w9:=p1.1;subst w9;replace fn:=AA.mk fn;replace p1:=AA.mk p1;refine aw ?_;exact fn.out
   .rw[hJ.out];simp only[ho,Int.reduceEq,F3,D8];obtain⟨d,hdi⟩:=Yz hF (s:=st1.d7) (by rw[hsol.out];exact hS.out) hj1.out hx ho;replace hdi:=AA.mk hdi
    (refine Aa rfl Tryz.func66 rfl rfl rfl ?_;show Wp _ _ _ _ (Tryz.f66.body.get rfl) _ _;simp only[Tryz.f66,AP])
    (repeat' (first|simp only[go_sem, *,Fa]|(refine sx ?_ ?_<;>intro hc)|refine sy (by omega) fun x hx hm=>?_|simp(disch:=first|assumption|omega) only[AG]))
    refine AW (eF hF IH0 (V:=V) (st:=st1) hr.out.rep ap.out hI1.out j hfc.out hdi.out) (fun o1 g1 p1=>?_);have fn:=hfn.out g1 o1 _ p1;obtain⟨r,hr9⟩: ∃r,r=Fy (Dg p k) (Ds p x j st1):=⟨_,rfl⟩;rw[←hr9]at fn p1⊢;clear hr9;cases r;all_goals
     have w9:=p1.1;subst w9;replace fn:=AA.mk fn;replace p1:=AA.mk p1;refine aw ?_;exact fn.out
   .rw[hJ.out];simp only[ho,Int.reduceEq,F3,D8];have hk2:x.kids.length=2:=by simpa[Cz,ho]using hk.symm
    obtain⟨ka,kb,hkk⟩:=Nr hk2;have ha1:x.args.length=1:=by simpa[DV,ho]using hal.out
    obtain⟨e0,he0⟩: ∃e,x.args=[e]:=by
     match hxa:x.args,ha1 with
     |[e],_=>exact⟨e,rfl⟩
    have hef:e0.formed j.env.length=true:=by
     have:=hex.out e0 (by rw[he0];simp);simp only[BM.ok,AS]at this;exact this.2.2
    have hka:Br p sz st1.d7 ⟨ka,j.at_,j.env⟩:=J3 hj1.out (by omega) hl.out hq.out 0 _ (by simp[A6,hkk]);have hkb:Br p sz st1.d7 ⟨kb,j.at_,j.env⟩:=J3 hj1.out (by omega) hl.out hq.out 1 _ (by simp[A6,hkk]);rw[Fy];replace hkk:=AA.mk hkk;replace he0:=AA.mk he0;replace hka:=AA.mk hka;replace hkb:=AA.mk hkb
    (refine Aa rfl Tryz.func66 rfl rfl rfl ?_;show Wp _ _ _ _ (Tryz.f66.body.get rfl) _ _;simp only[Tryz.f66,AP])
    (repeat' (first|simp only[go_sem, *,Fa]|(refine sx ?_ ?_<;>intro hc)|refine sy (by omega) fun x hx hm=>?_|simp(disch:=first|assumption|omega) only[AG]))
    refine AW (eB hF IH0 (V:=V) (st:=st1) hr.out.rep ap.out hI1.out j hfc.out z2 he0.out hef hkk.out hka.out hkb.out) (fun o1 g1 p1=>?_);have fn:=hfn.out g1 o1 _ p1;obtain⟨r,hr9⟩: ∃r,r=Bj (Dg p k) (A6 x (NH x j.env) j.at_ j.env) st1:=⟨_,rfl⟩;rw[←hr9]at fn p1⊢;clear hr9;cases r;all_goals
     have w9:=p1.1;subst w9;replace fn:=AA.mk fn;replace p1:=AA.mk p1;refine aw ?_;exact fn.out
   all_goals
    rw[hJ.out];simp only[ho,Int.reduceEq,F3,D8,M0,ED,decide_true,decide_false,Bool.true_or,Bool.or_true,Bool.or_self,AM]
    (refine Aa rfl Tryz.func66 rfl rfl rfl ?_;show Wp _ _ _ _ (Tryz.f66.body.get rfl) _ _;simp only[Tryz.f66,AP])
    (repeat' (first|simp only[go_sem, *,Fa]|(refine sx ?_ ?_<;>intro hc)|refine sy (by omega) fun x hx hm=>?_|simp(disch:=first|assumption|omega) only[AG]))
    refine AW (vX (V:=V) (st:=st1) hr.out.rep ap.out j (by omega) (by rw[hsol.out];exact hwl.out)) (fun o1 g1 p1=>?_);have fn:=hfn.out g1 o1 _ p1;obtain⟨r,hr9⟩: ∃r,r=Dw j st1:=⟨_,rfl⟩;rw[←hr9]at fn p1⊢;clear hr9;cases r;all_goals
     have w9:=p1.1;subst w9;replace fn:=AA.mk fn;replace p1:=AA.mk p1;refine aw ?_;exact fn.out
  .have hw2: ¬st.work+1≤400:=by omega
   rw[hd.out,D3 hw]
   (refine Aa rfl Tryz.func66 rfl rfl rfl ?_;show Wp _ _ _ _ (Tryz.f66.body.get rfl) _ _;simp only[Tryz.f66,AP])
   refine aw ?_;refine⟨rfl,(hrun.out _ ?_ ?_).frame⟩
   .simp only[go_sem,BS];first|done|rfl
   .intro id b1 b2;simp only[go_sem,b1,AM]
variable{n:Nat}
theorem cu{p:AK}{V':MV}{H g1:AB}{r:Option CC}{o:Ae}(hu:B4 π V m)(hR:B5 (BT p false) false π m V h b V' st H)(hn:b≤n)(ho:L3 p (n::π) m V' H r o g1):o=.ret (.f8 [])∧PF p π m V h (n+1) [] (gc (n::π) g1) r:=by
 have umn:=AH (hu m (V.m_mem m)) n;cases r with
 |some st2=>
  obtain⟨h3,h4⟩:=ho;obtain⟨V2,h5,h6⟩:=hR.callL hu hn h4;exact⟨h3,V2,h5,fun i hi=>by cases hi⟩
 |none=>
  obtain⟨h3,⟨V2,w,h4⟩,h5⟩:=ho;refine⟨h3,⟨V2,w,(Ag _ _ _ umn).trans h4⟩,fun id a c=>?_,fun i hi=>by cases hi⟩;rw[Ag _ _ _ (AH c n),h5 id (fun hh=>?_) (AH c n)]
  .exact hR.frame id a c
  .rcases hR.ids id hh with hh|⟨k,_,h3,_⟩
   .exact a hh
   .rw[BB h3]at c;cases c
theorem Vb{p:AK}{sz:List Int}(hF:Bq p sz): ∀k,Rr p sz k
 |0=>fun h π m V st j hM hu hS hj w0 w1 w2 hev=>by omega
 |k+1=>fun h π m V st j hM hu hS hj w0 w1 w2 hev=>by
  have IH0:=Vb hF k;obtain⟨x,l,hx,hok,hl,hq,hle⟩:=Kk hF hj;have hok2:=hok;simp only[CV,AS,As,CO]at hok;obtain⟨hk,hn,har,hex⟩:=hok;have hn0:=hj.n0;have hxl:=AL hx;have hm:=hM.box;have um:=hu m (V.m_mem m);simp only[BT]at hm;have e1:=AE um;have e2:=AZ um;have ww:IntKind.i64.wrap (st.work+1)=st.work+1:=wrap_id (by omega) (by omega);obtain⟨st1,hst1⟩: ∃s,s={st with work:=st.work+1}:=⟨_,rfl⟩
  have hsm:=hF.small;simp only[AK.small,AS,As]at hsm;obtain⟨z1,z2,z3⟩:=hsm;have hd:AA (Dg p (k+1) j st=if st.work<400 then Fy (Dg p k) (JK p j st1)else none):=⟨by rw[hst1];rfl⟩;have hrun:AA (∀H:AB,H.get m=some (.box (BT p false V (st.work+1)))→(∀id,Id.is m id=false→Id.under π id=false→H.get id=h.get id)→B5 (BT p false) false π m V h 0 V st1 H):=⟨fun H a1 a2=>by
   have:=Sc (st':=st1) hM hu (by rw[hst1];exact a1) (by rw[hst1];exact⟨rfl,rfl⟩) fun id b1 b2=>a2 id (AF fun e=>b1 e.symm) b2;exact⟨this.1,fun id hid=>.inl hid,this.2.frame⟩⟩
  have hI1:AA (st.work<400→Iv p sz k st1):=⟨fun h=>by rw[hst1];exact⟨hS,by dsimp only;omega,by dsimp only;omega,by dsimp only;omega,by dsimp only;omega⟩⟩;have hj1:AA (Br p sz st1.d7 j):=⟨by rw[hst1];exact hj⟩;have hsol:AA (st1.d7=st.d7):=⟨by rw[hst1]⟩;have hevl:AA (st1.ev.length≤1000000):=⟨by rw[hst1];dsimp only;omega⟩;have hwk:AA (st1.work=st.work+1):=⟨by rw[hst1]⟩;replace hst1:=AA.mk hst1;replace hM:=AA.mk hM;replace hu:=AA.mk hu;replace hS:=AA.mk hS;replace hj:=AA.mk hj;replace hex:=AA.mk hex;replace hok2:=AA.mk hok2;replace hq:=AA.mk hq;replace hl:=AA.mk hl;by_cases hw:st.work<400
  .have hw2:st.work+1≤400:=by omega
   have hw3: ¬400<st.work+1:=by omega
   rw[hd.out,D7 hw];have hJ:AA (JK p j st1=if x.op=2 then(B0 p x j st1).map fun st=>(st,[])else if x.op=3 then some (st1,A6 x 0 j.at_ j.env++A6 x 1 j.at_ j.env)else if x.op=4 then Ds p x j st1 else if x.op=5 then some (st1,A6 x (NH x j.env) j.at_ j.env)else if ED x.op=true then(Dw j st1).map fun st=>(st,[])else some (st1,[])):=⟨by rw[JK,hx]⟩;have hI1:=hI1.out hw;replace hI1:=AA.mk hI1;have hal:=AA.mk har;clear har;rcases XF hk with ho|ho|ho|ho|ho|ho|ho|ho
   .rw[hJ.out];simp only[ho,Int.reduceEq,F3,D8,ED,decide_false,Bool.or_self,AM,Fy,Bj]
    (refine Aa rfl Tryz.func87 rfl rfl rfl ?_;show Wp _ _ _ _ (Tryz.f87.body.get rfl) _ _;simp only[Tryz.f87,AP])
    (repeat' (first|simp only[go_sem, *]|(refine sx ?_ ?_<;>intro hc)|refine sy (by omega) fun x hx hm=>?_|simp(disch:=first|assumption|omega) only[AG]))
    exact G1 (b:=0) (E:=[]) ⟨V,hrun.out _ (by simp only[go_sem,BT,e1,AM]) (fun id b1 b2=>by
     have q1:=AE b2;simp only[go_sem,q1,b1,AM]),fun i hi=>by cases hi⟩
   .rw[hJ.out];simp only[ho,Int.reduceEq,F3,D8,M0];have hn1:0≤x.n∧x.n<j.env.length:=by simpa[UA,ho]using hn
    have ha3:x.args.length≤3:=by simpa[DV,ho]using hal.out
    have hef: ∀e∈x.args,e.formed j.env.length=true:=fun e he=>by
     have:=hex.out e he;simp only[BM.ok,AS]at this;exact this.2.2
    have hgo:AA (∀H n,B5 (BT p false) false π m V h 0 V st1 H→ ∃o h',KL Tryz.prog cfg (.fn 143) [.ptr m 0,.agg [.d (.int .i64 (2)),.d (.int .i64 (x.n)),.d (.be (x.args.map Av)),.d (.be (x.kids.map AO))],.d (.int .i64 (j.at_)),.d (.be (j.env.map AI))] H (n::π) true none=.ok (o,h')∧(o=.ret (.f8 [])∧PF p π m V h (n+1) [] (gc (n::π) h') (B0 p x j st1))):=⟨fun H n hR=>by
     obtain⟨o,g1,q1,q2⟩:=p9 (st:=st1) hR.rep (hR.apart hu.out (n:=n) (I4 _)) j (by omega) ha3 hef hn1.1 hn1.2 (by rw[hsol.out];exact hj.out.of) (fun c q hq=>by rw[hsol.out]at hq⊢;exact VL hF hS.out hq) hevl.out;rw[ho]at q1;exact⟨o,g1,q1,cu hu.out hR (I4 _) q2⟩⟩
    clear hef
    (refine Aa rfl Tryz.func87 rfl rfl rfl ?_;show Wp _ _ _ _ (Tryz.f87.body.get rfl) _ _;simp only[Tryz.f87,AP])
    (repeat' (first|simp only[go_sem, *]|(refine sx ?_ ?_<;>intro hc)|refine sy (by omega) fun x hx hm=>?_|simp(disch:=first|assumption|omega) only[AG]))
    refine AW (hgo.out _ _ (hrun.out _ (by simp only[go_sem,BT,e1,AM]) (fun id b1 b2=>by
     have q1:=AE b2;simp only[go_sem,q1,b1,AM]))) (fun o1 g1 p1=>?_)
    obtain⟨w8,hC⟩:=p1;subst w8;replace hC:=AA.mk hC
    (repeat' (first|simp only[go_sem, *]|(refine sx ?_ ?_<;>intro hc)|refine sy (by omega) fun x hx hm=>?_|simp(disch:=first|assumption|omega) only[AG]))
    exact G1 hC.out
   .rw[hJ.out];simp only[ho,Int.reduceEq,F3,D8];have hk2:x.kids.length=2:=by simpa[Cz,ho]using hk.symm
    obtain⟨ka,kb,hkk⟩:=Nr hk2;have hka:Br p sz st1.d7 ⟨ka,j.at_,j.env⟩:=J3 hj1.out (by omega) hl.out hq.out 0 _ (by simp[A6,hkk]);have hkb:Br p sz st1.d7 ⟨kb,j.at_,j.env⟩:=J3 hj1.out (by omega) hl.out hq.out 1 _ (by simp[A6,hkk]);have hres:Fy (Dg p k) (some (st1,A6 x 0 j.at_ j.env++A6 x 1 j.at_ j.env))=((some st1).bind (Dg p k ⟨ka,j.at_,j.env⟩)).bind (Dg p k ⟨kb,j.at_,j.env⟩):=by
     simp only[A6,hkk,F7,GC,Es,Ex,Fy,Bj,IP];cases Dg p k ⟨ka,j.at_,j.env⟩ st1 with
     |none=>rfl
     |some s=>
      simp only[IP];cases Dg p k ⟨kb,j.at_,j.env⟩ s<;>rfl
    rw[hres];have hc1:AA (∀H n,36≤n→B5 (BT p false) false π m V h 0 V st1 H→ ∃o g1,KL Tryz.prog cfg (.fn 87) [.ptr m 0,.d (.int .i64 (ka)),.d (.int .i64 (j.at_)),.d (.be (j.env.map AI))] H (n::π) true none=.ok (o,g1)∧o=.ret (.f8 [])∧cF p π m V h 36 n [] H (gc (n::π) g1) ((some st1).bind (Dg p k ⟨ka,j.at_,j.env⟩))):=⟨fun H n hn hR=>IU IH0 hu.out (r:=some st1) (E:=[]) ⟨V,hR.up (by omega),fun i hi=>by cases hi⟩ ⟨ka,j.at_,j.env⟩ (fun st' e=>by cases e;exact⟨hI1.out,hka⟩) H n hn (fun _ _=>rfl) fun i hi=>by cases hi⟩;have hc2:AA (∀H n b,b≤n→36≤b→PF p π m V h b [] H ((some st1).bind (Dg p k ⟨ka,j.at_,j.env⟩))→ ∃o g1,KL Tryz.prog cfg (.fn 87) [.ptr m 0,.d (.int .i64 (kb)),.d (.int .i64 (j.at_)),.d (.be (j.env.map AI))] H (n::π) true none=.ok (o,g1)∧o=.ret (.f8 [])∧cF p π m V h b n [] H (gc (n::π) g1) (((some st1).bind (Dg p k ⟨ka,j.at_,j.env⟩)).bind (Dg p k ⟨kb,j.at_,j.env⟩))):=⟨fun H n b hn hb hR=>IU IH0 hu.out hR ⟨kb,j.at_,j.env⟩ (fun st' e=>by
     have hdp:=Gl hF k _ _ _ hI1.out.ol hka e;exact⟨hI1.out.post hdp,J2 hkb hdp.ext⟩) H n hn (fun _ _=>rfl) fun i hi=>by cases hi⟩
    replace hka:=AA.mk hka;replace hkb:=AA.mk hkb;replace hres:=AA.mk hres;obtain⟨xo,xn,xa,xk⟩:=x;dsimp only at hkk ho hk2 hx⊢;subst hkk;subst ho
    (refine Aa rfl Tryz.func87 rfl rfl rfl ?_;show Wp _ _ _ _ (Tryz.f87.body.get rfl) _ _;simp only[Tryz.f87,AP])
    (repeat' (first|simp only[go_sem, *]|(refine sx ?_ ?_<;>intro hc)|refine sy (by omega) fun x hx hm=>?_|simp(disch:=first|assumption|omega) only[AG]))
    refine AW (hc1.out _ _ (by omega) (hrun.out _ (by simp only[go_sem,BT,e1,AM]) (fun id b1 b2=>by
     have q1:=AE b2;simp only[go_sem,q1,b1,AM]))) (fun o1 g1 p1=>?_)
    obtain⟨w8,hC⟩:=p1;subst w8;have b35:=(hC.box 35 (by omega)).trans (show _=some (.box [.d (.int .i64 (3)),.d (.int .i64 (xn)),.d (.be (xa.map Av)),.d (.be ([ka,kb].map AO))]) by simp only[go_sem]);have hrr:=AA.mk hC.run;clear hC
    (repeat' (first|simp only[go_sem, *]|(refine sx ?_ ?_<;>intro hc)|refine sy (by omega) fun x hx hm=>?_|simp(disch:=first|assumption|omega) only[AG]))
    refine AW (hc2.out _ _ _ ?_ ?_ hrr.out) (fun o1 g1 p1=>?_)
    .omega
    .omega
    obtain⟨w8,hC⟩:=p1;subst w8;replace hC:=AA.mk hC
    (repeat' (first|simp only[go_sem, *]|(refine sx ?_ ?_<;>intro hc)|refine sy (by omega) fun x hx hm=>?_|simp(disch:=first|assumption|omega) only[AG]))
    exact G1 hC.out.run
   .rw[hJ.out];simp only[ho,Int.reduceEq,F3,D8];obtain⟨d,hdi⟩:=Yz hF (s:=st1.d7) (by rw[hsol.out];exact hS.out) hj1.out hx ho;have hgo:AA (∀H n,B5 (BT p false) false π m V h 0 V st1 H→ ∃o h',KL Tryz.prog cfg (.fn 144) [.ptr m 0,.agg [.d (.int .i64 (4)),.d (.int .i64 (x.n)),.d (.be (x.args.map Av)),.d (.be (x.kids.map AO))],.d (.int .i64 (j.at_)),.d (.be (j.env.map AI))] H (n::π) true none=.ok (o,h')∧(o=.ret (.f8 [])∧PF p π m V h (n+1) [] (gc (n::π) h') (Fy (Dg p k) (Ds p x j st1)))):=⟨fun H n hR=>by
     obtain⟨o,g1,q1,q2⟩:=rM hF IH0 hR.rep (hR.apart hu.out (n:=n) (I4 _)) hI1.out (by omega) hdi;rw[ho]at q1;exact⟨o,g1,q1,cu hu.out hR (I4 _) q2⟩⟩
    replace hdi:=AA.mk hdi
    (refine Aa rfl Tryz.func87 rfl rfl rfl ?_;show Wp _ _ _ _ (Tryz.f87.body.get rfl) _ _;simp only[Tryz.f87,AP])
    (repeat' (first|simp only[go_sem, *]|(refine sx ?_ ?_<;>intro hc)|refine sy (by omega) fun x hx hm=>?_|simp(disch:=first|assumption|omega) only[AG]))
    refine AW (hgo.out _ _ (hrun.out _ (by simp only[go_sem,BT,e1,AM]) (fun id b1 b2=>by
     have q1:=AE b2;simp only[go_sem,q1,b1,AM]))) (fun o1 g1 p1=>?_)
    obtain⟨w8,hC⟩:=p1;subst w8;replace hC:=AA.mk hC
    (repeat' (first|simp only[go_sem, *]|(refine sx ?_ ?_<;>intro hc)|refine sy (by omega) fun x hx hm=>?_|simp(disch:=first|assumption|omega) only[AG]))
    exact G1 hC.out
   .rw[hJ.out];simp only[ho,Int.reduceEq,F3,D8];have hk2:x.kids.length=2:=by simpa[Cz,ho]using hk.symm
    obtain⟨ka,kb,hkk⟩:=Nr hk2;have ha1:x.args.length=1:=by simpa[DV,ho]using hal.out
    obtain⟨e0,he0⟩: ∃e,x.args=[e]:=by
     match hxa:x.args,ha1 with
     |[e],_=>exact⟨e,rfl⟩
    have hef:e0.formed j.env.length=true:=by
     have:=hex.out e0 (by rw[he0];simp);simp only[BM.ok,AS]at this;exact this.2.2
    have hjka:AA (Br p sz st1.d7 ⟨ka,j.at_,j.env⟩):=⟨J3 hj1.out (by omega) hl.out hq.out 0 _ (by simp[A6,hkk])⟩;have hjkb:AA (Br p sz st1.d7 ⟨kb,j.at_,j.env⟩):=⟨J3 hj1.out (by omega) hl.out hq.out 1 _ (by simp[A6,hkk])⟩;have hcall:AA (∀(c:Int),Br p sz st1.d7 ⟨c,j.at_,j.env⟩→ ∀H n,B5 (BT p false) false π m V h 0 V st1 H→ ∃o g1,KL Tryz.prog cfg (.fn 87) [.ptr m 0,.d (.int .i64 (c)),.d (.int .i64 (j.at_)),.d (.be (j.env.map AI))] H (n::π) true none=.ok (o,g1)∧o=.ret (.f8 [])∧cF p π m V h 0 n [] H (gc (n::π) g1) (Dg p k ⟨c,j.at_,j.env⟩ st1)):=⟨fun c hc H n hR=>IU IH0 hu.out (r:=some st1) (E:=[]) ⟨V,hR,fun i hi=>by cases hi⟩ ⟨c,j.at_,j.env⟩ (fun st' e=>by cases e;exact⟨hI1.out,hc⟩) H n (I4 _) (fun _ _=>rfl) fun i hi=>by cases hi⟩;obtain⟨v,hv⟩: ∃v,v=e0.value j.env:=⟨_,rfl⟩;have hval:=kM j.env e0 hef;rw[←hv]at hval;obtain⟨xo,xn,xa,xk⟩:=x;dsimp only at hkk ho hk2 hx ha1 he0 hJ⊢;subst hkk;subst ho;subst he0;have hif:AA (NH ⟨5,xn,[e0],[ka,kb]⟩ j.env=if v.kind=1∧v.n≠0 then 0 else 1):=⟨by simp only[NH,F7,hv]⟩;have hone:AA (∀i,Fy (Dg p k) (some (st1,A6 ⟨5,xn,[e0],[ka,kb]⟩ i j.at_ j.env))=match [ka,kb][i]? with|some c=>Dg p k ⟨c,j.at_,j.env⟩ st1|none=>some st1):=⟨fun i=>by
     simp only[Fy,A6];cases [ka,kb][i]? with
     |none=>rfl
     |some c=>exact Kl _ _ _⟩
    replace hv:=AA.mk hv;by_cases hc:v.kind=1∧v.n≠0
    .rw[hif.out,D7 hc,hone.out];clear hif;obtain⟨hc1,hc2⟩:=hc
     (refine Aa rfl Tryz.func87 rfl rfl rfl ?_;show Wp _ _ _ _ (Tryz.f87.body.get rfl) _ _;simp only[Tryz.f87,AP])
     (repeat' (first|simp only[go_sem, *]|(refine sx ?_ ?_<;>intro hc)|refine sy (by omega) fun x hx hm=>?_|simp(disch:=first|assumption|omega) only[AG]))
     refine AW (hcall.out ka hjka.out _ _ (hrun.out _ (by simp only[go_sem,BT,e1,AM]) (fun id b1 b2=>by
     have q1:=AE b2;simp only[go_sem,q1,b1,AM]))) (fun o1 g1 p1=>?_)
     obtain⟨w8,hC⟩:=p1;subst w8;replace hC:=AA.mk hC
     (repeat' (first|simp only[go_sem, *]|(refine sx ?_ ?_<;>intro hc)|refine sy (by omega) fun x hx hm=>?_|simp(disch:=first|assumption|omega) only[AG]))
     exact G1 hC.out.run
    .rw[hif.out,D3 hc,hone.out];clear hif;have hz:(if v.kind=1 then v.n else 0)=0:=by
      split
      .rename_i hk;by_cases h0:v.n=0
       .exact h0
       .exact absurd ⟨hk,h0⟩ hc
      .rfl
     clear hc
     (refine Aa rfl Tryz.func87 rfl rfl rfl ?_;show Wp _ _ _ _ (Tryz.f87.body.get rfl) _ _;simp only[Tryz.f87,AP])
     (repeat' (first|simp only[go_sem, *]|(refine sx ?_ ?_<;>intro hc)|refine sy (by omega) fun x hx hm=>?_|simp(disch:=first|assumption|omega) only[AG]))
     refine AW (hcall.out kb hjkb.out _ _ (hrun.out _ (by simp only[go_sem,BT,e1,AM]) (fun id b1 b2=>by
     have q1:=AE b2;simp only[go_sem,q1,b1,AM]))) (fun o1 g1 p1=>?_)
     obtain⟨w8,hC⟩:=p1;subst w8;replace hC:=AA.mk hC
     (repeat' (first|simp only[go_sem, *]|(refine sx ?_ ?_<;>intro hc)|refine sy (by omega) fun x hx hm=>?_|simp(disch:=first|assumption|omega) only[AG]))
     exact G1 hC.out.run
   all_goals
    rw[hJ.out];simp only[ho,Int.reduceEq,F3,D8,M0,ED,decide_true,decide_false,Bool.true_or,Bool.or_true,Bool.or_self,AM];have hst:=hst1.out;clear hJ;subst hst;have h1:=YN j.env (by omega);have fa:=CP;have e5:=fun n=>AE (AH um n) 1 3;have e6:=fun n=>AZ (AH um n) 1 3;have go:=AA.mk (G4 (st':={st with work:=st.work+1,d7:={st.d7 with waits:=st.d7.waits++[⟨j.at_,j.node,j.env⟩]}}) 2 (by omega) hM.out hu.out (wC rfl rfl rfl) rfl)
    have hwl:st.d7.waits.length≤40:=by
     have:=hS.out.small;simp only[CW.small,AS,As]at this;omega
    have finN:AA (∀(N n:Nat) (H:AB),st.d7.waits.length<40→n=st.d7.waits.length+1→H.get m=some (.box (BT p false (V.f9 2 (.d8 (1::N::π) 0 n)) (st.work+1)))→H.get (1::N::π)=some (.d6 3 ((st.d7.waits++[(⟨j.at_,j.node,j.env⟩:L4)]).map Bh))→(∀id,Id.is m id=false→(∀i∈AD (V.s 2),Id.is i id=false)→Id.under π id=false→H.get id=h.get id)→L3 p π m V h (Dw j {d7:=st.d7,ev:=st.ev,work:=st.work+1}) (.ret (.f8 [])) H):=⟨fun N n H h1 h2 a1 a2 a4=>by
     rw[Dw,D7 h1];exact⟨rfl,go.out _ H a1 (.inl (Aq [] (by rw[h2];simp[Ad]) (by rw[EL];exact a2))) (.inr fun id hid=>by
      simp only[AD,Ac]at hid;subst hid;exact⟨A4 [1,N],_,rfl⟩) a4⟩⟩
    have finW:AA (∀{W:Abs.Id} (ys:List (List AU)) (H:AB),st.d7.waits.length<40→V.s 2=.d8 W 0 st.d7.waits.length→H.get m=some (.box (BT p false (V.f9 2 (.d8 W 0 (st.d7.waits.length+1))) (st.work+1)))→H.get W=some (.d6 3 ((st.d7.waits++[(⟨j.at_,j.node,j.env⟩:L4)]).map Bh++ys))→(∀id,Id.is m id=false→(∀i∈AD (V.s 2),Id.is i id=false)→Id.under π id=false→H.get id=h.get id)→L3 p π m V h (Dw j {d7:=st.d7,ev:=st.ev,work:=st.work+1}) (.ret (.f8 [])) H):=⟨fun{W} ys H h1 h2 a1 a2 a4=>by
     rw[Dw,D7 h1];exact⟨rfl,go.out _ H a1 (.inl (Aq ys (by simp[Ad]) a2)) (.inl (by rw[h2];rfl)) a4⟩⟩
    have finM:AA (∀(V':MV) (H:AB),¬st.d7.waits.length<40→H.get m=some (.box (BT p true V' (st.work+1)))→(∀id,Id.is m id=false→(∀i∈AD (V.s 2),Id.is i id=false)→Id.under π id=false→H.get id=h.get id)→L3 p π m V h (Dw j {d7:=st.d7,ev:=st.ev,work:=st.work+1}) (.ret (.f8 [])) H):=⟨fun V' H h1 a1 a4=>by
     rw[Dw,D3 h1];exact⟨rfl,⟨V',_,a1⟩,fun id b0 b2=>a4 id (AF fun e=>b0 (by rw[←e];exact V.m_mem m)) (fun i hi=>AF fun e=>b0 (by rw[←e];exact V.s_mem m (i:=2) (by omega) hi)) b2⟩⟩
    by_cases h0:j.env.length=0;all_goals
     first
     |(simp only[aG,D7 h0]at h1;rw[CE h0]at finN finW)
     |simp only[aG,D3 h0]at h1
    all_goals rcases S0 (hM.out.sl 2 (by omega))with⟨hv0,hz⟩|⟨W,ys,hv,gW⟩
    all_goals try simp only[Er,Ad,Bi]at hv
    .replace hz:=AA.mk (F9.1 hz);rcases hv0 with hv|hv;all_goals
      rw[hv]at hm
      (refine Aa rfl Tryz.func87 rfl rfl rfl ?_;show Wp _ _ _ _ (Tryz.f87.body.get rfl) _ _;simp only[Tryz.f87,AP])
      (repeat' (first|simp only[go_sem, *,AM]|(refine sx ?_ ?_<;>intro hc)|refine sy (by omega) fun x hx hm=>?_|simp(disch:=first|assumption|omega) only[AG]))
      first
      |refine finN.out 61 1 _ (by rw[hz.out];decide) (by rw[hz.out];rfl) (by
       simp only[go_sem,e1,e2,e5,e6,AM];first|done|rfl) (by
       simp only[BV,Ci,Be,hz.out];simp only[go_sem,e1,e2,e5,e6,AM,Ex];first|done|rfl) (fun id b1 b4 b3=>by
       have q1:=AE b3;have q7:=fun n=>AE (AH b3 n) 1 3;simp only[go_sem,q1,q7,b1,AM])
      |refine finN.out 63 1 _ (by rw[hz.out];decide) (by rw[hz.out];rfl) (by
       simp only[go_sem,e1,e2,e5,e6,AM];first|done|rfl) (by
       simp only[BV,Ci,Be,hz.out];simp only[go_sem,e1,e2,e5,e6,AM,Ex];first|done|rfl) (fun id b1 b4 b3=>by
       have q1:=AE b3;have q7:=fun n=>AE (AH b3 n) 1 3;simp only[go_sem,q1,q7,b1,AM])
      |refine finN.out 65 1 _ (by rw[hz.out];decide) (by rw[hz.out];rfl) (by
       simp only[go_sem,e1,e2,e5,e6,AM];first|done|rfl) (by
       simp only[BV,Ci,Be,hz.out];simp only[go_sem,e1,e2,e5,e6,AM,Ex];first|done|rfl) (fun id b1 b4 b3=>by
       have q1:=AE b3;have q7:=fun n=>AE (AH b3 n) 1 3;simp only[go_sem,q1,q7,b1,AM])
    .simp only[Er,Ad]at gW;have uW:=hu.out W (V.s_mem m (i:=2) (by omega) (by rw[hv];simp[AD]));rw[hv]at hm;have i1:=AE uW;have i2:=AZ uW;have i5:=fun n=>AE (AH uW n) 1 3;have i6:=fun n=>AZ (AH uW n) 1 3;have Wm:Id.is W m=false:=AF fun e=>by rw[e,hm]at gW;cases gW
     have mW:Id.is m W=false:=AF fun e=>by rw[←e,hm]at gW;cases gW
     replace hv:=AA.mk hv;by_cases w40:(40:Int)<(st.d7.waits.length+1:Nat);all_goals rcases ys with _|⟨y,ys⟩
     all_goals
      (refine Aa rfl Tryz.func87 rfl rfl rfl ?_;show Wp _ _ _ _ (Tryz.f87.body.get rfl) _ _;simp only[Tryz.f87,AP])
      (repeat' (first|simp only[go_sem, *,AM]|(refine sx ?_ ?_<;>intro hc)|refine sy (by omega) fun x hx hm=>?_|simp(disch:=first|assumption|omega) only[AG]))
      all_goals
       first
       |refine finN.out 61 (st.d7.waits.length+1) _ (by omega) rfl (by
        simp only[go_sem,e1,e2,e5,e6,i5,i6,i1,i2,Wm,mW,AM];first|done|rfl) (by
        simp only[BV,Ci,Be];simp only[go_sem,e1,e2,e5,e6,i5,i6,i1,i2,Wm,mW,AM,Ex];first|done|rfl) (fun id b1 b4 b3=>by
        have q1:=AE b3;have q7:=fun n=>AE (AH b3 n) 1 3;have q5:=b4 W (by rw[hv.out];simp[AD]);simp only[go_sem,q1,q7,b1,q5,AM])
       |refine finN.out 63 (st.d7.waits.length+1) _ (by omega) rfl (by
        simp only[go_sem,e1,e2,e5,e6,i5,i6,i1,i2,Wm,mW,AM];first|done|rfl) (by
        simp only[BV,Ci,Be];simp only[go_sem,e1,e2,e5,e6,i5,i6,i1,i2,Wm,mW,AM,Ex];first|done|rfl) (fun id b1 b4 b3=>by
        have q1:=AE b3;have q7:=fun n=>AE (AH b3 n) 1 3;have q5:=b4 W (by rw[hv.out];simp[AD]);simp only[go_sem,q1,q7,b1,q5,AM])
       |refine finN.out 65 (st.d7.waits.length+1) _ (by omega) rfl (by
        simp only[go_sem,e1,e2,e5,e6,i5,i6,i1,i2,Wm,mW,AM];first|done|rfl) (by
        simp only[BV,Ci,Be];simp only[go_sem,e1,e2,e5,e6,i5,i6,i1,i2,Wm,mW,AM,Ex];first|done|rfl) (fun id b1 b4 b3=>by
        have q1:=AE b3;have q7:=fun n=>AE (AH b3 n) 1 3;have q5:=b4 W (by rw[hv.out];simp[AD]);simp only[go_sem,q1,q7,b1,q5,AM])
       |refine finW.out ys _ (by omega) hv.out (by
        simp only[go_sem,e1,e2,e5,e6,i5,i6,i1,i2,Wm,mW,AM];first|done|rfl) (by
        simp only[BV,Ci,Be,ES,Es,Ex];simp only[go_sem,e1,e2,e5,e6,i5,i6,i1,i2,Wm,mW,AM];first|done|rfl) (fun id b1 b4 b3=>by
        have q1:=AE b3;have q7:=fun n=>AE (AH b3 n) 1 3;have q5:=b4 W (by rw[hv.out];simp[AD]);simp only[go_sem,q1,q7,b1,q5,AM])
       |refine finM.out (V.f9 2 (.d8 (1::61::π) 0 (st.d7.waits.length+1))) _ (by omega) (by
        simp only[go_sem,e1,e2,e5,e6,i5,i6,i1,i2,Wm,mW,AM];first|done|rfl) (fun id b1 b4 b3=>by
        have q1:=AE b3;have q7:=fun n=>AE (AH b3 n) 1 3;have q5:=b4 W (by rw[hv.out];simp[AD]);simp only[go_sem,q1,q7,b1,q5,AM])
       |refine finM.out (V.f9 2 (.d8 (1::63::π) 0 (st.d7.waits.length+1))) _ (by omega) (by
        simp only[go_sem,e1,e2,e5,e6,i5,i6,i1,i2,Wm,mW,AM];first|done|rfl) (fun id b1 b4 b3=>by
        have q1:=AE b3;have q7:=fun n=>AE (AH b3 n) 1 3;have q5:=b4 W (by rw[hv.out];simp[AD]);simp only[go_sem,q1,q7,b1,q5,AM])
       |refine finM.out (V.f9 2 (.d8 (1::65::π) 0 (st.d7.waits.length+1))) _ (by omega) (by
        simp only[go_sem,e1,e2,e5,e6,i5,i6,i1,i2,Wm,mW,AM];first|done|rfl) (fun id b1 b4 b3=>by
        have q1:=AE b3;have q7:=fun n=>AE (AH b3 n) 1 3;have q5:=b4 W (by rw[hv.out];simp[AD]);simp only[go_sem,q1,q7,b1,q5,AM])
       |refine finM.out (V.f9 2 (.d8 W 0 (st.d7.waits.length+1))) _ (by omega) (by
        simp only[go_sem,e1,e2,e5,e6,i5,i6,i1,i2,Wm,mW,AM];first|done|rfl) (fun id b1 b4 b3=>by
        have q1:=AE b3;have q7:=fun n=>AE (AH b3 n) 1 3;have q5:=b4 W (by rw[hv.out];simp[AD]);simp only[go_sem,q1,q7,b1,q5,AM])
    .replace hz:=AA.mk (F9.1 hz);rcases hv0 with hv|hv;all_goals
      rw[hv]at hm
      (refine Aa rfl Tryz.func87 rfl rfl rfl ?_;show Wp _ _ _ _ (Tryz.f87.body.get rfl) _ _;simp only[Tryz.f87,AP])
      (repeat' (first|simp only[go_sem, *,AM]|(refine sx ?_ ?_<;>intro hc)|refine sy (by omega) fun x hx hm=>?_|simp(disch:=first|assumption|omega) only[AG]))
      first
      |refine finN.out 61 1 _ (by rw[hz.out];decide) (by rw[hz.out];rfl) (by
       simp only[go_sem,e1,e2,e5,e6,AM];first|done|rfl) (by
       simp only[BV,Ci,Be,hz.out];simp only[go_sem,e1,e2,e5,e6,AM,Ex];first|done|rfl) (fun id b1 b4 b3=>by
       have q1:=AE b3;have q7:=fun n=>AE (AH b3 n) 1 3;simp only[go_sem,q1,q7,b1,AM])
      |refine finN.out 63 1 _ (by rw[hz.out];decide) (by rw[hz.out];rfl) (by
       simp only[go_sem,e1,e2,e5,e6,AM];first|done|rfl) (by
       simp only[BV,Ci,Be,hz.out];simp only[go_sem,e1,e2,e5,e6,AM,Ex];first|done|rfl) (fun id b1 b4 b3=>by
       have q1:=AE b3;have q7:=fun n=>AE (AH b3 n) 1 3;simp only[go_sem,q1,q7,b1,AM])
      |refine finN.out 65 1 _ (by rw[hz.out];decide) (by rw[hz.out];rfl) (by
       simp only[go_sem,e1,e2,e5,e6,AM];first|done|rfl) (by
       simp only[BV,Ci,Be,hz.out];simp only[go_sem,e1,e2,e5,e6,AM,Ex];first|done|rfl) (fun id b1 b4 b3=>by
       have q1:=AE b3;have q7:=fun n=>AE (AH b3 n) 1 3;simp only[go_sem,q1,q7,b1,AM])
    .simp only[Er,Ad]at gW;have uW:=hu.out W (V.s_mem m (i:=2) (by omega) (by rw[hv];simp[AD]));rw[hv]at hm;have i1:=AE uW;have i2:=AZ uW;have i5:=fun n=>AE (AH uW n) 1 3;have i6:=fun n=>AZ (AH uW n) 1 3;have Wm:Id.is W m=false:=AF fun e=>by rw[e,hm]at gW;cases gW
     have mW:Id.is m W=false:=AF fun e=>by rw[←e,hm]at gW;cases gW
     replace hv:=AA.mk hv;by_cases w40:(40:Int)<(st.d7.waits.length+1:Nat);all_goals rcases ys with _|⟨y,ys⟩
     all_goals
      (refine Aa rfl Tryz.func87 rfl rfl rfl ?_;show Wp _ _ _ _ (Tryz.f87.body.get rfl) _ _;simp only[Tryz.f87,AP])
      (repeat' (first|simp only[go_sem, *,AM]|(refine sx ?_ ?_<;>intro hc)|refine sy (by omega) fun x hx hm=>?_|simp(disch:=first|assumption|omega) only[AG]))
      all_goals
       first
       |refine finN.out 61 (st.d7.waits.length+1) _ (by omega) rfl (by
        simp only[go_sem,e1,e2,e5,e6,i5,i6,i1,i2,Wm,mW,AM];first|done|rfl) (by
        simp only[BV,Ci,Be];simp only[go_sem,e1,e2,e5,e6,i5,i6,i1,i2,Wm,mW,AM,Ex];first|done|rfl) (fun id b1 b4 b3=>by
        have q1:=AE b3;have q7:=fun n=>AE (AH b3 n) 1 3;have q5:=b4 W (by rw[hv.out];simp[AD]);simp only[go_sem,q1,q7,b1,q5,AM])
       |refine finN.out 63 (st.d7.waits.length+1) _ (by omega) rfl (by
        simp only[go_sem,e1,e2,e5,e6,i5,i6,i1,i2,Wm,mW,AM];first|done|rfl) (by
        simp only[BV,Ci,Be];simp only[go_sem,e1,e2,e5,e6,i5,i6,i1,i2,Wm,mW,AM,Ex];first|done|rfl) (fun id b1 b4 b3=>by
        have q1:=AE b3;have q7:=fun n=>AE (AH b3 n) 1 3;have q5:=b4 W (by rw[hv.out];simp[AD]);simp only[go_sem,q1,q7,b1,q5,AM])
       |refine finN.out 65 (st.d7.waits.length+1) _ (by omega) rfl (by
        simp only[go_sem,e1,e2,e5,e6,i5,i6,i1,i2,Wm,mW,AM];first|done|rfl) (by
        simp only[BV,Ci,Be];simp only[go_sem,e1,e2,e5,e6,i5,i6,i1,i2,Wm,mW,AM,Ex];first|done|rfl) (fun id b1 b4 b3=>by
        have q1:=AE b3;have q7:=fun n=>AE (AH b3 n) 1 3;have q5:=b4 W (by rw[hv.out];simp[AD]);simp only[go_sem,q1,q7,b1,q5,AM])
       |refine finW.out ys _ (by omega) hv.out (by
        simp only[go_sem,e1,e2,e5,e6,i5,i6,i1,i2,Wm,mW,AM];first|done|rfl) (by
        simp only[BV,Ci,Be,ES,Es,Ex];simp only[go_sem,e1,e2,e5,e6,i5,i6,i1,i2,Wm,mW,AM];first|done|rfl) (fun id b1 b4 b3=>by
        have q1:=AE b3;have q7:=fun n=>AE (AH b3 n) 1 3;have q5:=b4 W (by rw[hv.out];simp[AD]);simp only[go_sem,q1,q7,b1,q5,AM])
       |refine finM.out (V.f9 2 (.d8 (1::61::π) 0 (st.d7.waits.length+1))) _ (by omega) (by
        simp only[go_sem,e1,e2,e5,e6,i5,i6,i1,i2,Wm,mW,AM];first|done|rfl) (fun id b1 b4 b3=>by
        have q1:=AE b3;have q7:=fun n=>AE (AH b3 n) 1 3;have q5:=b4 W (by rw[hv.out];simp[AD]);simp only[go_sem,q1,q7,b1,q5,AM])
       |refine finM.out (V.f9 2 (.d8 (1::63::π) 0 (st.d7.waits.length+1))) _ (by omega) (by
        simp only[go_sem,e1,e2,e5,e6,i5,i6,i1,i2,Wm,mW,AM];first|done|rfl) (fun id b1 b4 b3=>by
        have q1:=AE b3;have q7:=fun n=>AE (AH b3 n) 1 3;have q5:=b4 W (by rw[hv.out];simp[AD]);simp only[go_sem,q1,q7,b1,q5,AM])
       |refine finM.out (V.f9 2 (.d8 (1::65::π) 0 (st.d7.waits.length+1))) _ (by omega) (by
        simp only[go_sem,e1,e2,e5,e6,i5,i6,i1,i2,Wm,mW,AM];first|done|rfl) (fun id b1 b4 b3=>by
        have q1:=AE b3;have q7:=fun n=>AE (AH b3 n) 1 3;have q5:=b4 W (by rw[hv.out];simp[AD]);simp only[go_sem,q1,q7,b1,q5,AM])
       |refine finM.out (V.f9 2 (.d8 W 0 (st.d7.waits.length+1))) _ (by omega) (by
        simp only[go_sem,e1,e2,e5,e6,i5,i6,i1,i2,Wm,mW,AM];first|done|rfl) (fun id b1 b4 b3=>by
        have q1:=AE b3;have q7:=fun n=>AE (AH b3 n) 1 3;have q5:=b4 W (by rw[hv.out];simp[AD]);simp only[go_sem,q1,q7,b1,q5,AM])
  .have hw2:400<st.work+1:=by omega
   rw[hd.out,D3 hw]
   (refine Aa rfl Tryz.func87 rfl rfl rfl ?_;show Wp _ _ _ _ (Tryz.f87.body.get rfl) _ _;simp only[Tryz.f87,AP])
   (repeat' (first|simp only[go_sem, *]|(refine sx ?_ ?_<;>intro hc)|refine sy (by omega) fun x hx hm=>?_|simp(disch:=first|assumption|omega) only[AG]))
   refine⟨rfl,⟨V,st.work+1,by simp only[go_sem,BT]⟩,fun id b0 b2=>?_⟩;have b1:Id.is m id=false:=AF fun e=>b0 (by rw[←e];exact V.m_mem m);have q1:=AE b2;simp only[go_sem,q1,b1,AM]
abbrev pA(p:AK):AV:=.agg [.d (.be (p.free.map A0)),.d (.be (p.nodes.map Al)),.d (.be (p.defs.map A8)),.d (.int .i64 p.main)]
abbrev sA(s:CW):AV:=.agg [.d (.be (s.am.map A9)),.d (.be (s.ce.map BG)),.d (.be (s.ac.map Cy)),.d (.be (s.waits.map Bh))]
structure lL(p:AK)(sz:List Int)(s:CW)(w:L4)(x:CT):Prop where
 n0:0≤w.node
 node:p.nodes[w.node.toNat]? =some x
 op:x.op=6∨x.op=7∨x.op=8
 at_:KK s.am w.at_
 live:BU s.am w.at_=false
 size:sz[w.node.toNat]? =some (w.env.length:Int)
 len:w.env.length≤5000
 n: ¬x.op=7→0≤x.n∧x.n<w.env.length
 of:w.env.all (CZ.inB p s.ac.length s.am.length)=true
theorem lL.val{p:AK}{s:CW}{w:L4}(h:lL p sz s w x)(ho: ¬x.op=7): ∃v,w.env[x.n.toNat]? =some v∧Nc w.env x.n=v∧(v.kind=4→KK s.am v.n∧ ∃y,s.am[v.n.toNat]? =some y∧BU s.am v.n=y.dead):=by
 have:=h.n ho;obtain⟨v,hv⟩:=get_some (l:=w.env) (i:=x.n.toNat) (by omega);refine⟨v,hv,by rw[Nc,hv];rfl,fun hk=>?_⟩;have hb:=CO.1 h.of v (Ap hv);simp only[CZ.inB,hk,Int.reduceEq,F3,D8,AS,As]at hb;obtain⟨y,hy⟩:=get_some (l:=s.am) (i:=v.n.toNat) (by omega);exact⟨hb,y,hy,by simp[BU,hy]⟩
theorem Cg{α β:Type}{f:α→List β}{n:Nat}: ∀{l:List α},(∀x∈l,(f x).length≤n)→(l.flatMap f).length≤l.length*n
 |[],_=>by simp
 |x::l,h=>by
  have h1:=h x (by simp);have h2:=Cg (f:=f) (n:=n) (l:=l) fun y hy=>h y (by simp[hy]);rw[D2,D9,Gc,RG];omega
instance:DecidableEq Uw:=fun a b=>decidable_of_iff (a.wait=b.wait∧a.group=b.group∧a.rule=b.rule∧a.picks=b.picks) (by cases a;cases b;simp)
inductive Below:List Nat→List Int→Prop
 |nil:Below [] []
 |cons {n:Nat} {k:Int} {l:List Nat} {t:List Int}:0≤k→k<n→Below l t→Below (n::l) (k::t)
theorem Below.len: ∀{l:List Nat} {t:List Int},Below l t→t.length=l.length
 |_,_,.nil=>rfl
 |_,_,.cons _ _ h=>by rw[Gc,Gc,h.len]
section
variable{l:List Cr}{i n:Int}{x:Cr}
end
structure Mid(p:AK)(sz:List Int)(s:CW)(x:Uw)(s1:CW)(e:KD)(js:List FW):Prop where
 ol:Lq p sz s1
 jobs: ∀j∈js,Br p sz s1 j
 run:w6 p s x=Bj (Dg p 401) js ⟨s1,[e],0⟩
 one:js.length≤1
inductive Pd:List Nat→List Int→Prop where
 |nil:Pd [] []
 |cons {n:Nat} {l:List Nat} {d:Int} {c:List Int}:0≤d→d<n→Pd l c→Pd (n::l) (d::c)
theorem Pd.len{l:List Nat}{c:List Int}(h:Pd l c):c.length=l.length:=by
 induction h with
 |nil=>rfl
 |cons _ _ _ ih=>simp[ih]
def cH(ρ:List Nat)(i:Abs.Id):Prop:= ∃j l,i=1::j::l∧Id.under ρ l=true
def TC(π:List Nat)(b:Nat)(i:Abs.Id):Prop:= ∃n,n<b∧cH (n::π) i
theorem cH.up{ρ:List Nat}{i:Abs.Id}(h:cH ρ i):Id.under ρ i=true:=by
 obtain⟨j,l,rfl,h⟩:=h;obtain⟨t,rfl⟩:=under_iff.1 h;exact under_iff.2 ⟨1::j::t,rfl⟩
variable{π:List Nat}{n:Nat}
theorem cH.out{i:Abs.Id}(h:cH (n::π) i):cH π i:=by
 obtain⟨j,l,rfl,h⟩:=h;exact⟨j,l,rfl,BB h⟩
theorem cH.not{i:Abs.Id}(h:cH (n::π) i)(a m:Nat):Id.is (a::m::π) i=false:=AF fun e=>by
 obtain⟨j,l,rfl,h⟩:=h;obtain⟨t,rfl⟩:=under_iff.1 h;have:=congrArg List.length e;simp at this;omega
variable{b:Nat}
theorem TC.up{i:Abs.Id}(h:TC π b i):cH π i:=by
 obtain⟨n,_,h⟩:=h;exact h.out
theorem TC.not{i:Abs.Id}(h:TC π b i)(a m:Nat):Id.is (a::m::π) i=false:=by
 obtain⟨n,_,h⟩:=h;exact h.not a m
theorem TC.mono{c:Nat}{i:Abs.Id}(h:TC π b i)(hc:b≤c):TC π c i:=by
 obtain⟨n,h1,h⟩:=h;exact⟨n,by omega,h⟩
def qq{α:Type}(C:Abs.Id→Prop)(I:List α→(Abs.Id→Prop)→AB→Prop)(D:Ae→AB→Prop)(π ρ:List Nat)(l:List α)(M:Abs.Id→Prop)(vi:List Abs.Id)(H:AB)(o:Ae)(h':AB):Prop:=
 (o=.ret (.d (.bool (true)))∧ ∃M',I l M' h'∧(∀i,M' i→M i∨i∈vi∨cH ρ i)∧ ∀i,¬C i→ ¬M i→i∉vi→Id.under ρ i=false→h'.get i=H.get i)∨((o=.ret (.d (.bool (false)))∨ ∃v,o=.em v)∧D o h'∧ ∀j,Id.under π (0::j)=true→Id.under ρ (0::j)=false→h'.get (0::j)=H.get (0::j))
structure Uq{α:Type}(val:AB→AV→α→Prop)(id:Abs.Id)(C:Abs.Id→Prop)(I:List α→(Abs.Id→Prop)→AB→Prop)(D:Ae→AB→Prop)(π:List Nat):Prop where
 own:C id
 apart: ∀i,C i→Id.under π i=false
 tag: ∀{l:List α} {M:Abs.Id→Prop} {H:AB},I l M H→ ∀i,M i→ ∃l,i=1::l
 loop: ∀{l:List α} {M:Abs.Id→Prop} {H:AB},I l M H→ ∃r,H.get id=some (.loop r)
 eat: ∀{x:α} {l:List α} {M:Abs.Id→Prop} {H:AB} {ρ:List Nat} {v:AV} {r:Lp},I (x::l) M H→H.get id=some (.loop r)→val H v x→(∀i,Id.under π i=false→Id.under ρ i=false)→(∀i,M i→Id.under ρ i=false)→(∀i∈AD v,¬C i∧Id.under ρ i=false∧cH π i)→
  ∃o h',KL Tryz.prog cfg (.round id r) [v] H ρ true none=.ok (o,h')∧qq C I D π ρ l M (AD v) H o h'
 same: ∀{l:List α} {M:Abs.Id→Prop} {H H':AB},I l M H→(∀i,(Id.under π i=false∨M i)→H'.get i=H.get i)→I l M H'
 sameD: ∀{o:Ae} {H H':AB},D o H→(∀i,(Id.under π i=false∨ ∃l,i=1::l)→H'.get i=H.get i)→D o H'
theorem Uq.gcI{α:Type}{val:AB→AV→α→Prop}{id:Abs.Id}{C:Abs.Id→Prop}{I:List α→(Abs.Id→Prop)→AB→Prop}{D:Ae→AB→Prop}(hE:Uq val id C I D π){l:List α}{M:Abs.Id→Prop}{H:AB}(h:I l M H)(n:Nat):I l M (gc (n::π) H):=hE.same h fun i hi=>by
 rcases hi with hi|hi
 .exact Ag _ _ _ (AH hi n)
 .obtain⟨l,rfl⟩:=hE.tag h i hi;exact LV _ _ _
def zE(H:AB)(v:AV)(x:List Int):Prop:= ∃id,v=.d8 id 0 x.length∧H.get id=some (.d6 1 (x.map AO))∧ ∃l,id=1::l
end Go.Proofs
namespace Go.Abs
def k6(ds:List Df):Prop:= ∀d∈ds,∃id,d=.mark id
theorem iq:k6 []=True:=by simp[k6]
theorem Ov{C:CA}{bi:Option (List Nat)}{p:Option AV}{h:AB}: ∀{ds:List Df},k6 ds→Cp C bi ds p h=.ok (p,h)
 |[],_=>rfl
 |d::ds,hd=>by
  obtain⟨id,rfl⟩:=hd d (by simp);rw[QW];exact Ov fun d hd2=>hd d (by simp[hd2])
attribute [go_sem] iq Ov
theorem dx(id:Id):(AV.un id).cells=[.un id]:=rfl
theorem l9(id:Id):AV.isCell (.un id)=true:=rfl
attribute [go_sem] dx l9
end Go.Abs
namespace Go.Proofs
open Go Go.Abs
set_option maxRecDepth 100000
set_option maxHeartbeats 4000000
def zI(H:AB)(v:AV)(x:Uw):Prop:= ∃pv,v=.agg [.d (.int .i64 (x.wait)),.d (.int .i64 (x.group)),.d (.int .i64 (x.rule)),pv]∧((pv=.ci∧x.picks=[])∨zE H pv x.picks)
def Nt(π:List Nat)(i:Abs.Id):Prop:= ∀a n,Id.is (a::n::π) i=false
def Fd{α:Type}(I:List α→(Abs.Id→Prop)→AB→Prop)(π:List Nat)(M:Abs.Id→Prop)(b:Nat)(L:List α)(g:AB):Prop:= ∃M',I L M' g∧ ∀i,M' i→M i∨TC π b i
section
variable{α:Type}{val:AB→AV→α→Prop}{id:Abs.Id}{C M M':Abs.Id→Prop}{I:List α→(Abs.Id→Prop)→AB→Prop}{D:Ae→AB→Prop}{π:List Nat}{b b':Nat}{L:List α}{g G:AB}
theorem cH.wide{ρ:List Nat}{i:Abs.Id}(hρ: ∀i,Id.under π i=false→Id.under ρ i=false)(h:cH ρ i):cH π i:=by
 obtain⟨j,l,rfl,h⟩:=h;refine⟨j,l,rfl,?_⟩;cases hx:Id.under π l with
 |true=>rfl
 |false=>rw[hρ l hx]at h;cases h
theorem yS(hM: ∀i,M i→Id.under π i=false)(h: ∀i,M' i→M i∨TC π b i)(i:Abs.Id)(hi:Id.under π i=false∨M' i):Nt π i:=by
 rcases hi with hi|hi
 .exact AE hi
 .rcases h i hi with q|q
  .exact AE (hM i q)
  .exact q.not
theorem Fd.mv(hE:Uq val id C I D π)(hM: ∀i,M i→Id.under π i=false)(h:Fd I π M b L g)(hl: ∀i,Nt π i→G.get i=g.get i)(hb:b≤b'):Fd I π M b' L G:=by
 obtain⟨M',h1,h2⟩:=h;exact⟨M',hE.same h1 fun i hi=>hl i (yS hM h2 i hi),fun i hi=>(h2 i hi).imp_right fun q=>q.mono hb⟩
theorem Fd.gc(hE:Uq val id C I D π)(h:Fd I π M b L g)(n:Nat):Fd I π M b L (gc (n::π) g):=by
 obtain⟨M',h1,h2⟩:=h;exact⟨M',hE.gcI h1 n,h2⟩
end
structure StepsIn(C M:Abs.Id→Prop)(π:List Nat)(h:AB)(id:Abs.Id)(E:AB→Prop)(g:AB):Prop where
 box:g.get (0::0::π)=some (.box [.un id])
 eat:E g
 frame: ∀i,¬C i→ ¬M i→Id.under π i=false→g.get i=h.get i
structure dD(C M:Abs.Id→Prop)(π:List Nat)(h:AB)(id:Abs.Id)(b c:Nat)(i k:Int)(gr:Ay)(E:AB→Prop)(g:AB):Prop where
 st:StepsIn C M π h id E g
 x6:g.get (0::(b+20)::π)=some (.box [.d (.int .i64 (i))])
 x7:g.get (0::(b+21)::π)=some (.box [.d (.int .i64 (gr.eq)),.d (.int .i64 (gr.at_)),.d (.be (gr.env.map AI))])
 x8:g.get (0::(c+40)::π)=some (.box [.d (.int .i64 (k))])
variable{C M:Abs.Id→Prop}{π:List Nat}{h g H:AB}{b c:Nat}{gr:Ay}
theorem dD.loc{I:List Uw→(Abs.Id→Prop)→AB→Prop}{D:Ae→AB→Prop}{id:Abs.Id}(hE:Uq zI id C I D π)(hM: ∀i,M i→Id.under π i=false){B:Nat}{i k:Int}{L:List Uw}(hJ:dD C M π h id b c i k gr (Fd I π M B L) g)(hl: ∀x,(∀n,Id.is (1::n::π) x=false)→H.get x=g.get x):dD C M π h id b c i k gr (Fd I π M B L) H:=by
 have h0: ∀l,H.get (0::l)=g.get (0::l):=fun l=>hl _ fun n=>AF (by simp);exact⟨⟨(h0 _).trans hJ.st.box,hJ.st.eat.mv hE hM (fun i hi=>hl i fun n=>hi 1 n) (El _),fun i q1 q0 q2=>(hl i fun n=>AE q2 1 n).trans (hJ.st.frame i q1 q0 q2)⟩,(h0 _).trans hJ.x6,(h0 _).trans hJ.x7,(h0 _).trans hJ.x8⟩
theorem dD.mv{id:Abs.Id}{i k:Int}{E E':AB→Prop}(hJ:dD C M π h id b c i k gr E g)(hI:E' H)(hb: ∀n,n=0∨n=b+20∨n=b+21∨n=c+40→H.get (0::n::π)=g.get (0::n::π))(hf: ∀i,¬C i→ ¬M i→Id.under π i=false→H.get i=g.get i):dD C M π h id b c i k gr E' H:=
 ⟨⟨(hb _ (by simp)).trans hJ.st.box,hI,fun i q1 q0 q2=>(hf i q1 q0 q2).trans (hJ.st.frame i q1 q0 q2)⟩,(hb _ (by simp)).trans hJ.x6,(hb _ (by simp)).trans hJ.x7,(hb _ (by simp)).trans hJ.x8⟩
end Go.Proofs
namespace Go.Proofs
open Go Go.Abs
set_option maxRecDepth 100000
set_option maxHeartbeats 4000000
theorem B5.new{B:MV→Int→List AV}{cc:Bool}{π:List Nat}{m:Abs.Id}{V V':MV}{h g:AB}{b:Nat}{st:CC}(hu:B4 π V m)(hr:B5 B cc π m V h b V' st g)(a n:Nat)(hn:b≤n):a::n::π∉V'.ids m:=fun hh=>by
 have:=HS (b':=0) hu (hr.ids _ hh) a n hn;rw[is_self]at this;cases this
end Go.Proofs
namespace Go.Abs
end Go.Abs
namespace Go.Proofs
open Go Go.Abs
set_option maxRecDepth 100000
set_option maxHeartbeats 4000000
structure YU(h:AB)(π:List Nat)(m bx S:Abs.Id)(L:List Cr):Prop where
 gb:h.get bx=some (.box [.ptr m 0])
 gm: ∃x1 x2 x3 x4 x5 x6 x7 x8 x9 x10 x11 x12,h.get m=some (.box [.d8 S 0 L.length,x1,x2,x3,x4,x5,x6,x7,x8,x9,x10,x11,x12])
 gS: ∃y,h.get S=some (.d6 2 (L.map A9++y))
 ub:Id.under π bx=false
 um:Id.under π m=false
 uS:Id.under π S=false
theorem YU.up{h h':AB}{π ρ:List Nat}{m bx S:Abs.Id}{L:List Cr}(hD:YU h π m bx S L)(hk: ∀i,Id.under π i=false→i=bx∨i=m∨i=S→h'.get i=h.get i)(hp: ∀i,Id.under π i=false→Id.under ρ i=false):YU h' ρ m bx S L:=by
 refine⟨(hk _ hD.ub (by simp)).trans hD.gb,?_,?_,hp _ hD.ub,hp _ hD.um,hp _ hD.uS⟩
 .rw[hk _ hD.um (by simp)];exact hD.gm
 .rw[hk _ hD.uS (by simp)];exact hD.gS
end Go.Proofs
namespace Go.Proofs
open Go Go.Abs
set_option maxRecDepth 100000
set_option maxHeartbeats 4000000
section
variable{p:AK}{s:CW}{e:List KD}{i:Nat}{w:L4}{y:CT}
end
def kj(sz:Nat)(π:List Nat)(h:AB)(v:AV)(L:List (List AU))(o:Ae)(h':AB):Prop:= ∃v',o=.ret v'∧Nv h' sz v' L∧(∀id∈AD v',id∈AD v∨(Id.under π id=true∧ ∃l,id=1::l))∧ ∀id,id∉AD v→Id.under π id=false→h'.get id=h.get id
structure FJ(sz:Nat)(π:List Nat)(h:AB)(v:AV)(b:Nat)(g:AB)(w:AV)(L:List (List AU)):Prop where
 wd:Nv g sz w L
 ids: ∀id∈AD w,id∈AD v∨ ∃n,n<b∧Id.under (n::π) id=true∧ ∃l,id=1::l
 frame: ∀id,id∉AD v→Id.under π id=false→g.get id=h.get id
section
variable{sz:Nat}{π:List Nat}{h g H g1:AB}{v w:AV}{b k:Nat}{L L':List (List AU)}{o:Ae}
theorem FJ.not(hu: ∀id∈AD v,Id.under π id=false)(hI:FJ sz π h v b g w L){id:Abs.Id}(hid:id∈AD w)(a n:Nat)(hn:b≤n):Id.is (a::n::π) id=false:=by
 rcases hI.ids id hid with h|⟨m,h1,h2,_⟩
 .exact AE (hu id h) a n
 .refine AF fun e=>?_;subst e;have:=B6 h2 (n':=n) (under_iff.2 ⟨[a],rfl⟩);omega
theorem FJ.apart(hu: ∀id∈AD v,Id.under π id=false)(hI:FJ sz π h v b g w L){id:Abs.Id}(hid:id∈AD w)(hk:b≤k):Id.under (k::π) id=false:=by
 rcases hI.ids id hid with h|⟨m,h1,h2,_⟩
 .exact AH (hu id h) k
 .cases hx:Id.under (k::π) id with
  |false=>rfl
  |true=>
   have:=B6 h2 hx;omega
theorem FJ.loc(hu: ∀id∈AD v,Id.under π id=false)(hI:FJ sz π h v b g w L)(hl: ∀id,(∀a n,b≤n→Id.is (a::n::π) id=false)→H.get id=g.get id):FJ sz π h v b H w L:=
 ⟨K6 hI.wd fun id hid=>hl id fun a n hn=>hI.not hu hid a n hn,hI.ids,fun id h1 h2=>by rw[hl id fun a n _=>AE h2 a n];exact hI.frame id h1 h2⟩
theorem FJ.up(hI:FJ sz π h v b g w L){b':Nat}(hb:b≤b'):FJ sz π h v b' g w L:=⟨hI.wd,fun id hid=>(hI.ids id hid).imp_right fun⟨n,h1,h2⟩=>⟨n,by omega,h2⟩,hI.frame⟩
theorem FJ.call(hu: ∀id∈AD v,Id.under π id=false)(hI:FJ sz π h v b H w L)(hk:b≤k)(ho:kj sz (k::π) H w L' o g1): ∃w',o=.ret w'∧FJ sz π h v (k+1) (gc (k::π) g1) w' L':=by
 obtain⟨w',h1,h2,h3,h4⟩:=ho;have hw: ∀id∈AD w',(gc (k::π) g1).get id=g1.get id:=fun id hid=>by
  rcases h3 id hid with e|⟨_,l,rfl⟩
  .exact Ag _ _ _ (hI.apart hu e hk)
  .exact LV _ _ _
 refine⟨w',h1,K6 h2 hw,fun id hid=>?_,fun id a1 a2=>?_⟩
 .rcases h3 id hid with e|e
  .exact(hI.ids id e).imp_right fun⟨n,q1,q2⟩=>⟨n,by omega,q2⟩
  .exact .inr ⟨k,by omega,e⟩
 .rw[Ag _ _ _ (AH a2 k),h4 id (fun hw=>?_) (AH a2 k)]
  .exact hI.frame id a1 a2
  .rcases hI.ids id hw with hh|⟨n,_,q2,_⟩
   .exact a1 hh
   .rw[BB q2]at a2;cases a2
theorem FJ.fin(hI:FJ sz π h v b g w L):kj sz π h v L (.ret w) g:=⟨w,rfl,hI.wd,fun id hid=>(hI.ids id hid).imp_right fun⟨n,_,q2,q3⟩=>⟨BB q2,q3⟩,hI.frame⟩
end
end Go.Proofs
namespace Go.Abs
theorem Q3{α:Type}{f:α→List AU}{l:List α}{g:G}{sz:Nat}{k:IntKind}{m:Int}(hf: ∀a,(f a).length=sz)(h0:0≤m)(hm:m≤l.length):GU g .slice sz (.d (.be (l.map f))) (some (.d (.int k m))) none none=some (.d (.be ((l.drop m.toNat).map f))):=by
 have hb:FL (some (.d (.int k m))) none none (l.map f).length=some (m.toNat,(l.map f).length,none):=by
  simp[FL,Jl,Kj,h0,hm]
 have he:LN sz (l.map f)=true:=by
  cases l with
  |nil=>rfl
  |cons a l=>simp only[Ci,LN,HJ,As];exact hf a
 show OU sz (l.map f) (FL (some (.d (.int k m))) none none (l.map f).length)=_;rw[hb];have hr:Nat.ble m.toNat (l.map f).length=true:=by rw[Fc];simp;omega
 have h2:Nat.ble (l.map f).length (l.map f).length=true:=by rw[Fc];simp
 simp only[OU,hr,h2,he,No,F3,List.map_drop];rw[D6 (by simp)]
end Go.Abs
namespace Go.Proofs
open Go Go.Abs
set_option maxRecDepth 100000
set_option maxHeartbeats 4000000
theorem bq{l:List Cr}{g:G}{k:IntKind}{m:Int}(h0:0≤m)(hm:m≤l.length):GU g .slice 2 (.d (.be (l.map A9))) (some (.d (.int k m))) none none=some (.d (.be ((l.drop m.toNat).map A9))):=Q3 (fun _=>rfl) h0 hm
theorem kB{l:List CZ}{g:G}{k:IntKind}{m:Int}(h0:0≤m)(hm:m≤l.length):GU g .slice 2 (.d (.be (l.map AI))) (some (.d (.int k m))) none none=some (.d (.be ((l.drop m.toNat).map AI))):=Q3 (fun _=>rfl) h0 hm
theorem QK{h:AB}{π:List Nat}{m gid:Abs.Id}{p:AK}{s:CW}{st:BF}{x9 x10 x11 x12:AV}(hlk:looks p=some st)
 (hm:h.get m=some (.box [.d (.be (s.am.map A9)),.d (.be (s.ce.map BG)),.d (.be (s.ac.map Cy)),.d (.be (s.waits.map Bh)),.d (.be (p.free.map A0)),.d (.be (p.nodes.map Al)),.d (.be (p.defs.map A8)),.d (.int .i64 (p.main)),.d (.be (st.bv.map AO)),x9,x10,x11,x12])) (um:Id.under π m=false) (h9:x9=wd gid p.defs.length) (hg:p.defs.length≠0→h.get gid=some (.d6 1 ((Bx p st.bv).map AO))) (ug:Id.under π gid=false):
 ∃o h',KL Tryz.prog cfg (.fn 91) [.ptr m 0] h π true (some π)=.ok (o,h')∧o=(G6 (CQ 2) (EG p st.bv s)).1:=by
 have e1:=AE um;have e2:=AZ um;have e3:=AH um;have e4:=AE ug;have e5:=AZ ug;have e6:=AH ug;have hF:=AA.mk (C0 hlk);have hsm:=hF.out.small;simp only[AK.small,AS,As]at hsm;obtain⟨c1,c2,c3⟩:=hsm;have hgl:(Bx p st.bv).length=p.defs.length:=by rw[Bx,ND];simp
 by_cases hss:s.small=true
 .have hok:AA (EG p st.bv s=(IJ s.am&&(Ht s.am (s.am.drop 1)&&(Ew p (Bx p st.bv) s 0 0 1 s.ce&&s.waits.all (Db p st.bv s))))):=⟨by rw[EG,hss,F0]⟩;simp only[CW.small,AS,As]at hss;obtain⟨s1,s2,s3,s4⟩:=hss;have y1:(s.am.length:Int)≤24:=by omega
  have y2:(s.ce.length:Int)≤40:=by omega
  have y3:(s.ac.length:Int)≤60:=by omega
  have y4:(s.waits.length:Int)≤40:=by omega
  have htr:=vR s.am (by omega);cases htb:IJ s.am with
  |false=>
   rw[htb]at hok htr;rw[hok.out]
   (refine Aa rfl Tryz.func91 rfl rfl rfl ?_;show Wp _ _ _ _ (Tryz.f91.body.get rfl) _ _;simp only[Tryz.f91,AP])
   refine aw ?_;rfl
  |true=>
   rw[htb,F0]at hok;rw[htb]at htr;have hT:=YL htb;have htop:=hT.top;have hn0:(1:Int)≤s.am.length:=by have:=hT.pos;omega
   replace hT:=AA.mk hT
   (refine Aa rfl Tryz.func91 rfl rfl rfl ?_;show Wp _ _ _ _ (Tryz.f91.body.get rfl) _ _;simp only[Tryz.f91,AP])
   (repeat' (first|simp only[go_sem, *]|(refine sx ?_ ?_<;>intro hc)|refine sy (by omega) fun x hx hm=>?_|simp(disch:=first|assumption|omega) only[AG,bq]))
   refine AY (s.am.drop 1) _ (S:=fun m' i (a:AB×Nat)=>⟨[(0,.ptr m 0),(65,.d (.be ((s.am.drop 1).map A9))),(66,.d (.int .i64 (m'))),(67,.d (.int .i64 (i)))],a.1,a.2+49,[]⟩)
    (Inv:=fun i rest a=>a.1.get m=h.get m∧a.1.get gid=h.get gid∧AA (Ht s.am (s.am.drop 1)=Ht s.am rest)) (b0:=(h,_)) rfl ⟨rfl,rfl,⟨rfl⟩⟩ ?_ ?_
   .rintro i y ⟨g,c⟩ hy hi him ⟨hgm,hgg,hr⟩ IH;dsimp only at*;have hy0:=hy;rw[IT]at hy;have hi0:=hi;rw[RT]at hi;have hbad:AA (Ht s.am (s.am.drop 1)=false→Ae.em (CQ 2)=(G6 (CQ 2) (EG p st.bv s)).1):=⟨fun h=>by rw[hok.out,h];rfl⟩;have hpar:KK s.am y.pp:=by
     have h1:=hT.out.ws (((1+i:Nat):Int)) ⟨by omega,by omega⟩;obtain⟨k,hk⟩: ∃k,s.am.length=k+1:=⟨s.am.length-1,by omega⟩;rw[hk]at h1;have h2:=(P4 (by omega) h1).1
     rwa [UE (s:=y) (by rw[←hy];congr 1)]at h2
    obtain⟨p1,p2⟩:=hpar;obtain⟨z,hz⟩:=get_some (l:=s.am) (i:=y.pp.toNat) (by omega);have hda:AA (BU s.am y.pp=z.dead):=⟨by simp[BU,hz]⟩;rw[Ht]at hr;replace hy:=AA.mk hy;cases hyd:y.dead<;>cases hzd:z.dead;all_goals (refine aw ?_)
    all_goals first
    |(refine IH.out (_,_) ⟨?_,?_,⟨?_⟩⟩
      .simp only[go_sem,e1,hgm,AM]
      .simp only[go_sem,e4,hgg,AM]
      .rw[hr.out,hyd,hda.out,hzd];simp)
    |(refine IH.out (_,_) ⟨?_,?_,⟨?_⟩⟩
      .simp only[go_sem,e1,hgm,AM]
      .simp only[go_sem,e4,hgg,AM]
      .rw[hr.out,hyd];simp)
    |exact hbad.out (by rw[hr.out,hyd,hda.out,hzd];rfl)
   .rintro i ⟨g,c⟩ hi him ⟨hgm,hgg,hr⟩;dsimp only at*;rw[Ht]at hr;refine aw ?_;clear hi him;have hok2:AA (EG p st.bv s=(Ew p (Bx p st.bv) s 0 0 1 s.ce&&s.waits.all (Db p st.bv s))):=⟨by rw[hok.out,hr.out,F0]⟩;clear hok hr i;refine AY s.ce _ (S:=fun m' i (a:AB×Nat×Nat×Nat)=>⟨[(0,.ptr m 0),(4,.d (.int .i64 (a.2.2.1))),(5,.d (.int .i64 (a.2.2.2))),(92,.d (.be (s.ce.map BG))),(93,.d (.int .i64 (m'))),(94,.d (.int .i64 (i)))],a.1,a.2.1+59,[]⟩)
     (Inv:=fun i rest a=>a.1.get m=h.get m∧a.1.get gid=h.get gid∧a.2.2.1≤30*i∧a.2.2.2≤30*i+1∧AA (EG p st.bv s=(Ew p (Bx p st.bv) s i a.2.2.1 a.2.2.2 rest&&s.waits.all (Db p st.bv s)))) (b0:=(g,_,0,1)) rfl ⟨hgm,hgg,by simp,by simp,hok2⟩ ?_ ?_
    .clear hgm hgg hok2 g c;rintro i gr ⟨g,n,c,k⟩ hy hi him ⟨hgm,hgg,b1,b2,hr⟩ IH;dsimp only at*;by_cases x0:gr.eq<0
     .have x0: ¬0≤gr.eq:=by omega
      have hf:AA (EG p st.bv s=false):=⟨by rw[hr.out,Ew,AK.def?,D3 (by omega),Ce]⟩;refine aw ?_;all_goals (rw[hf.out];rfl)
     by_cases x1:(p.defs.length:Int)≤gr.eq
     .have x1: ¬gr.eq<p.defs.length:=by omega
      have x0:0≤gr.eq:=by omega
      have hf:AA (EG p st.bv s=false):=⟨by rw[hr.out,Ew,AK.def?,D7 (by omega),NO (by omega),Ce]⟩;refine aw ?_;all_goals (rw[hf.out];rfl)
     have x2:0≤gr.eq:=by omega
     have x3:gr.eq<p.defs.length:=by omega
     have hdl:gr.eq.toNat<p.defs.length:=by omega
     have hD:p.defs.length≠0:=by omega
     obtain⟨d,hd⟩:=get_some hdl;have hdf:=My hF.out hd;obtain⟨v,hv⟩:=get_some (l:=Bx p st.bv) (i:=gr.eq.toNat) (by omega);have hv2:d.own≤v∧v≤5060:=by
      obtain⟨_,_,s0,_,_,_,_,q0,q1,q2,_⟩:=hdf.node;rw[hv]at q2;cases q2;have:=OE hdf.ok;omega
     have hstep:AA (EG p st.bv s=((Ki p (Bx p st.bv) s i c k gr d&&Ew p (Bx p st.bv) s (i+1) (c+d.ac.length) (k+d.am.length) (s.ce.drop (i+1)))&&s.waits.all (Db p st.bv s))):=⟨by
      rw[hr.out,Ew,AK.def?,D7 x2,hd]⟩
     have hgo:AA (Ki p (Bx p st.bv) s i c k gr d=(decide (KK s.am gr.at_)&&(decide ((gr.env.length:Int)=v)&&(gr.env.all (CZ.inB p s.ac.length s.am.length)&&(EO d c k gr&&Fg p s d gr i c 0 d.ac))))):=⟨by
      rw[Ki,hv];rfl⟩
     have hbad:AA (Ki p (Bx p st.bv) s i c k gr d=false→Ae.em (CQ 2)=(G6 (CQ 2) (EG p st.bv s)).1):=⟨fun h=>by rw[hstep.out,h];rfl⟩;have hdo:=hdf.ok;have d1:=hdo.ac;have d2:=hdo.am;have d3:d.own=d.ac.length+d.am.length:=rfl;replace hdo:=AA.mk hdo;replace hdf:=AA.mk hdf;have hg2:=hg hD;rw[A3 hD]at h9;refine aw ?_;refine Fu (YF (sp:=s.am.map A9) (Eq.trans (b:=h.get m) ?_ hm) (by simp;omega) gr.at_) (fun o1 g1 p1=>?_)
     .simp only[go_sem,e1,hgm,AM]
     by_cases hin:KK s.am gr.at_
     .have hin2:=hin;replace p1:o1=.ret (.f8 []):=by
       rw[p1,DO hin.1,Bi,DO hin.2];rfl
      subst p1;replace hin:=AA.mk hin;have hge:h.get gid=some (.d6 1 ((Bx p st.bv).map AO)):=hg2;refine aw ?_;refine Fu (TZ (p:=p) (sp:=s.am.map A9) (ch:=s.ac.map Cy) (Eq.trans (b:=h.get m) ?_ hm) (e3 _) (by simp;omega) (by simp;omega) (by omega) gr.env v (by omega)) (fun o2 g2 p2=>?_)
      .simp only[go_sem,e1,hgm,AM]
      rw[Bi,Bi]at p2;by_cases hev:(decide ((gr.env.length:Int)=v)&&gr.env.all (CZ.inB p s.ac.length s.am.length))=true
      .rw[hev]at p2;replace p2:o2=.ret (.f8 []):=p2;subst p2;rw[AS,As]at hev;obtain⟨hlen,hall⟩:=hev;have hlt:gr.env.length≤5060:=by omega
       have hown:d.own≤gr.env.length:=by omega
       have hgo2:AA (Ki p (Bx p st.bv) s i c k gr d=(EO d c k gr&&Fg p s d gr i c 0 d.ac)):=⟨by
        rw[hgo.out,DO hin.out,DO hlen,hall,F0,F0,F0]⟩
       clear hgo;replace hlen:=AA.mk hlen;replace hall:=AA.mk hall;obtain⟨E,hE⟩: ∃E,E=gr.env.drop (gr.env.length-d.ac.length-d.am.length):=⟨_,rfl⟩;have hEl:E.length=d.ac.length+d.am.length:=by rw[hE,RT];omega
       have w1:IntKind.i64.wrap ((gr.env.length:Int)-(d.ac.length:Int))=(gr.env.length:Int)-(d.ac.length:Int):=wrap_id (by omega) (by omega);have w2:IntKind.i64.wrap ((gr.env.length:Int)-(d.ac.length:Int)-(d.am.length:Int))=((gr.env.length-d.ac.length-d.am.length:Nat):Int):=by rw[wrap_id (by omega) (by omega)];omega
       have w3: ∀g0:G,GU g0 .slice 2 (.d (.be (gr.env.map AI))) (some (.d (.int .i64 ((gr.env.length-d.ac.length-d.am.length:Nat):Int)))) none none=some (.d (.be ((gr.env.drop (gr.env.length-d.ac.length-d.am.length)).map AI))):=fun g0=>kB (by omega) (by omega);rw[←hE]at w3;have hm0:AA (EO d c k gr=decide (E.drop 0=(Ed c k d).drop 0)):=⟨by rw[hE];rfl⟩;replace hE:=AA.mk hE;have q43: ¬n=n+43:=by omega
       have r43: ¬n+43=n:=by omega
       refine ax ?_;clear w1 w2 w3 q43 r43;refine AY d.ac _ (S:=fun m' i2 (a:AB×Nat)=>⟨[(0,.ptr m 0),(4,.d (.int .i64 (c))),(5,.d (.int .i64 (k))),(6,.d (.int .i64 (i))),(7,.ptr (0::(n+63)::π) 0),(8,.ptr (0::(n+106)::π) 0),(9,.d (.be (E.map AI))),(92,.d (.be (s.ce.map BG))),(93,.d (.int .i64 (s.ce.length))),(94,.d (.int .i64 (i))),(155,.d (.int .i64 (m'))),(156,.d (.int .i64 (i2)))],a.1,a.2+127,[]⟩)
        (Inv:=fun i2 rest a=>a.1.get m=h.get m∧a.1.get gid=h.get gid∧a.1.get (0::(n+63)::π)=some (.box [.d (.int .i64 (gr.eq)),.d (.int .i64 (gr.at_)),.d (.be (gr.env.map AI))])∧a.1.get (0::(n+106)::π)=some (.box [.d (.be (d.ac.map Ab)),.d (.be (d.am.map AR)),.d (.be (d.rules.map Af))])∧n≤a.2∧AA (EO d c k gr=decide (E.drop i2=(Ed c k d).drop i2))) (b0:=(_,_)) rfl ⟨?_,?_,?_,?_,?_,hm0⟩ ?_ ?_
       .simp only[go_sem,e1,hgm,AM]
       .simp only[go_sem,e4,hgg,AM]
       .have q43: ¬n=n+43:=by omega
        have r43: ¬n+43=n:=by omega
        simp only[go_sem,q43,r43,AM]
       .simp only[go_sem,AM]
       .exact El _
       .clear hm0 hgm hgg g;rintro i2 y ⟨g,n2⟩ hy2 hi2 him2 ⟨hgm,hgg,g63,g106,hn2,hr2⟩ IH2;dsimp only at*;obtain⟨u,hu⟩:=get_some (l:=E) (i:=i2) (by omega);have hE2:(i2:Int)<E.length:=by omega
        have hr3:AA (EO d c k gr=(decide (u=⟨3,(c:Int)+(i2:Int)⟩)&&decide (E.drop (i2+1)=(Ed c k d).drop (i2+1)))):=⟨by
         rw[hr2.out,Hv hu,Hv (Oy c k d hi2),OP];simp⟩
        have w4:IntKind.i64.wrap ((c:Int)+(i2:Int))=(c:Int)+(i2:Int):=wrap_id (by omega) (by omega);by_cases hu2:u=⟨3,(c:Int)+(i2:Int)⟩
        .subst hu2;refine ax ?_;refine IH2.out (_,_) ⟨hgm,hgg,g63,g106,?_,⟨?_⟩⟩
         .dsimp only;omega
         .rw[hr3.out,DO rfl,F0]
        .have hne:(decide (u.kind=3)&&decide (u.n=(c:Int)+(i2:Int)))=false:=by
          rw[←Lw,AS,As,As];rintro⟨h1,h2⟩;exact hu2 (by cases u;simp_all)
         refine ax ?_;exact hbad.out (by rw[hgo2.out,hr3.out,Cs hu2];rfl)
       .clear hm0 hgm hgg g;rintro i2 ⟨g,n2⟩ hi2 him2 ⟨hgm,hgg,g63,g106,hn2,hr2⟩;dsimp only at*;rw[hi2.out]at hr2;refine ax ?_;clear hi2 him2 i2;refine AY d.am _ (S:=fun m' j (a:AB×Nat)=>⟨[(0,.ptr m 0),(4,.d (.int .i64 (c))),(5,.d (.int .i64 (k))),(6,.d (.int .i64 (i))),(7,.ptr (0::(n+63)::π) 0),(8,.ptr (0::(n+106)::π) 0),(9,.d (.be (E.map AI))),(92,.d (.be (s.ce.map BG))),(93,.d (.int .i64 (s.ce.length))),(94,.d (.int .i64 (i))),(172,.d (.int .i64 (m'))),(173,.d (.int .i64 (j)))],a.1,a.2+132,[]⟩)
         (Inv:=fun j rest a=>a.1.get m=h.get m∧a.1.get gid=h.get gid∧a.1.get (0::(n+63)::π)=some (.box [.d (.int .i64 (gr.eq)),.d (.int .i64 (gr.at_)),.d (.be (gr.env.map AI))])∧a.1.get (0::(n+106)::π)=some (.box [.d (.be (d.ac.map Ab)),.d (.be (d.am.map AR)),.d (.be (d.rules.map Af))])∧n≤a.2∧AA (EO d c k gr=decide (E.drop (d.ac.length+j)=(Ed c k d).drop (d.ac.length+j)))) (b0:=(g,n2)) rfl ⟨hgm,hgg,g63,g106,hn2,hr2⟩ ?_ ?_
        .clear hr2 hgm hgg g63 g106 g hn2 n2;rintro j y ⟨g,n2⟩ hyj hij himj ⟨hgm,hgg,g63,g106,hn2,hr2⟩ IH2;dsimp only at*;obtain⟨u,hu⟩:=get_some (l:=E) (i:=d.ac.length+j) (by omega);have hr3:AA (EO d c k gr=(decide (u=⟨4,(k:Int)+(j:Int)⟩)&&decide (E.drop (d.ac.length+(j+1))=(Ed c k d).drop (d.ac.length+(j+1))))):=⟨by
          rw[hr2.out,Hv hu,Hv (Oz c k d hij),OP];simp[PL]⟩
         have w4:IntKind.i64.wrap ((k:Int)+(j:Int))=(k:Int)+(j:Int):=wrap_id (by omega) (by omega);have w5:IntKind.i64.wrap ((d.ac.length:Int)+(j:Int))=(d.ac.length:Int)+(j:Int):=wrap_id (by omega) (by omega);have ix:((d.ac.length:Int)+(j:Int)).toNat=d.ac.length+j:=by omega
         rw[←ix]at hu;replace ix:=AA.mk ix;have ix2:0≤(d.ac.length:Int)+(j:Int):=by omega
         have ix3:(d.ac.length:Int)+(j:Int)<E.length:=by omega
         by_cases hu2:u=⟨4,(k:Int)+(j:Int)⟩
         .subst hu2;refine ax ?_;refine IH2.out (_,_) ⟨hgm,hgg,g63,g106,?_,⟨?_⟩⟩
          .dsimp only;omega
          .rw[hr3.out,DO rfl,F0]
         .have hne:(decide (u.kind=4)&&decide (u.n=(k:Int)+(j:Int)))=false:=by
           rw[←Lw,AS,As,As];rintro⟨h1,h2⟩;exact hu2 (by cases u;simp_all)
          refine ax ?_;exact hbad.out (by rw[hgo2.out,hr3.out,Cs hu2];rfl)
        .clear hr2 hgm hgg g63 g106 g hn2 n2;rintro j ⟨g,n2⟩ hij himj ⟨hgm,hgg,g63,g106,hn2,hr2⟩;dsimp only at*;have hmine:EO d c k gr=true:=by
          have hjj:=hij.out;rw[hr2.out,D1 (by omega),D1 (by rw[MM];omega)];rfl
         have hgo3:AA (Ki p (Bx p st.bv) s i c k gr d=Fg p s d gr i c 0 d.ac):=⟨by rw[hgo2.out,hmine,F0]⟩;replace hmine:=AA.mk hmine;clear hr2 hgo2;refine ax ?_;clear hij himj j;refine AY d.ac _ (S:=fun m' j (a:AB×Nat)=>⟨[(0,.ptr m 0),(4,.d (.int .i64 (c))),(5,.d (.int .i64 (k))),(6,.d (.int .i64 (i))),(7,.ptr (0::(n+63)::π) 0),(8,.ptr (0::(n+106)::π) 0),(92,.d (.be (s.ce.map BG))),(93,.d (.int .i64 (s.ce.length))),(94,.d (.int .i64 (i))),(192,.d (.be (d.ac.map Ab))),(193,.d (.int .i64 (m'))),(194,.d (.int .i64 (j)))],a.1,a.2+137,[]⟩)
          (Inv:=fun j rest a=>a.1.get m=h.get m∧a.1.get gid=h.get gid∧a.1.get (0::(n+63)::π)=some (.box [.d (.int .i64 (gr.eq)),.d (.int .i64 (gr.at_)),.d (.be (gr.env.map AI))])∧a.1.get (0::(n+106)::π)=some (.box [.d (.be (d.ac.map Ab)),.d (.be (d.am.map AR)),.d (.be (d.rules.map Af))])∧n≤a.2∧AA (Fg p s d gr i c 0 d.ac=Fg p s d gr i c j rest)) (b0:=(g,n2)) rfl ⟨hgm,hgg,g63,g106,hn2,⟨rfl⟩⟩ ?_ ?_
         .clear hgm hgg g63 g106 g hn2 n2;rintro j ch ⟨g,n2⟩ hyj hij himj ⟨hgm,hgg,g63,g106,hn2,hrj⟩ IHj;dsimp only at*;have hcj:c+j<s.ac.length:=by
           have:=CO.1 hall.out _ (Ap (iv hmine.out hij));simp[CZ.inB]at this;omega
          obtain⟨q,hq⟩:=get_some hcj;have hca:=hdo.out.chan ch (Ap hyj);have hpi:=Xp hmine.out hown hin.out hall.out (n:=ch.at_) hca.1 hca.2.1;obtain⟨hp1,hp2⟩:=hpi;obtain⟨sp,hsp⟩:=get_some (l:=s.am) (i:=(gr.place d ch.at_).toNat) (by omega);have hda:AA (BU s.am (gr.place d ch.at_)=sp.dead):=⟨by simp[BU,hsp]⟩;have hck:AA (Mq p s d gr i j (c+j) ch=(decide (q.group=i)&&(decide (q.index=j)&&(decide (q.at_=gr.place d ch.at_)&&(decide (q.queue.length≤12)&&((decide (q.queue.length=0)|| !BU s.am q.at_)&&q.queue.all (Ig p s.ac.length s.am.length ch.many))))))):=⟨by rw[Mq,hq];rfl⟩;have hbc:AA (Mq p s d gr i j (c+j) ch=false→Ae.em (CQ 2)=(G6 (CQ 2) (EG p st.bv s)).1):=⟨fun h=>hbad.out (by rw[hgo3.out,hrj.out,Fg,h,Ce])⟩;have w4:IntKind.i64.wrap ((c:Int)+(j:Int))=(c:Int)+(j:Int):=wrap_id (by omega) (by omega);have ix:((c:Int)+(j:Int)).toNat=c+j:=by omega
          rw[←ix]at hq;replace ix:=AA.mk ix;have ix2:0≤(c:Int)+(j:Int):=by omega
          have ix3:(c:Int)+(j:Int)<s.ac.length:=by omega
          have q1: ¬n2+78=n:=by omega
          have q2: ¬n=n2+78:=by omega
          have q3: ¬n2+91=n:=by omega
          have q4: ¬n=n2+91:=by omega
          have q5: ¬n2+35=n:=by omega
          have q6: ¬n=n2+35:=by omega
          have q7: ¬n2+48=n:=by omega
          have q8: ¬n=n2+48:=by omega
          have q9: ¬n2+13=n2:=by omega
          have q0: ¬n2=n2+13:=by omega
          by_cases g1:q.group=i
          .by_cases g2:q.index=j
           .refine ax ?_;refine Eg (Ss (d:=d) (ds:=p.defs) (Eq.trans (b:=h.get m) ?_ hm) (e3 _) x2 hd d1 d2 hown (by omega) ch.at_ hca.1 hca.2.1) (fun o3 g3 p3=>?_)
            .simp only[go_sem,e1,hgm,AM]
            subst p3;by_cases g4:q.at_=gr.place d ch.at_
            .rw[g4]
             (repeat' (first|simp only[go_sem, *,AM]|(refine sx ?_ ?_<;>intro hc)|refine sy (by omega) fun x hx hm=>?_|simp(disch:=first|assumption|omega) only[AG]))
             all_goals try
              refine hbc.out ?_;rw[hck.out,g4,hda.out];clear IH IHj hr hstep hbad hbc hck hgo3 hrj hy hd hv hT hF hm hg htr hlk hgm hgg g63 g106;grind
             all_goals
              have hfin:AA (Mq p s d gr i j (c+j) ch=q.queue.all (Ig p s.ac.length s.am.length ch.many)):=⟨by
               rw[hck.out,g4,hda.out];clear IH IHj hr hstep hbad hbc hck hgo3 hrj hy hd hv hT hF hm hg htr hlk hgm hgg g63 g106;grind⟩
              refine AY q.queue _ (S:=fun m' l (a:AB×Nat)=>⟨[(0,.ptr m 0),(4,.d (.int .i64 (c))),(5,.d (.int .i64 (k))),(6,.d (.int .i64 (i))),(7,.ptr (0::(n+63)::π) 0),(8,.ptr (0::(n+106)::π) 0),(13,.ptr (0::(n2+141)::π) 0),(92,.d (.be (s.ce.map BG))),(93,.d (.int .i64 (s.ce.length))),(94,.d (.int .i64 (i))),(192,.d (.be (d.ac.map Ab))),(193,.d (.int .i64 (d.ac.length))),(194,.d (.int .i64 (j))),(255,.d (.be (q.queue.map CU))),(256,.d (.int .i64 (m'))),(257,.d (.int .i64 (l)))],a.1,a.2+205,[]⟩)
               (Inv:=fun l rest a=>a.1.get m=h.get m∧a.1.get gid=h.get gid∧a.1.get (0::(n+63)::π)=some (.box [.d (.int .i64 (gr.eq)),.d (.int .i64 (gr.at_)),.d (.be (gr.env.map AI))])∧a.1.get (0::(n+106)::π)=some (.box [.d (.be (d.ac.map Ab)),.d (.be (d.am.map AR)),.d (.be (d.rules.map Af))])∧a.1.get (0::(n2+141)::π)=some (.box [.d (.int .i64 (ch.at_)),.d (.int .i64 (ch.many))])∧n2≤a.2∧AA (q.queue.all (Ig p s.ac.length s.am.length ch.many)=rest.all (Ig p s.ac.length s.am.length ch.many))) (b0:=(_,n2)) ?_ ⟨?_,?_,?_,?_,?_,?_,⟨rfl⟩⟩ ?_ ?_
              .omega
              .simp only[go_sem,e1,hgm,AM]
              .simp only[go_sem,e4,hgg,AM]
              .simp only[go_sem,g63,q1,q2,q3,q4,AM]
              .simp only[go_sem,g106,q5,q6,q7,q8,AM]
              .simp only[go_sem,q9,q0,AM]
              .exact El _
              .clear hgm hgg g63 g106 g q1 q2 q3 q4 q5 q6 q7 q8 q9 q0;rintro l y ⟨g,n3⟩ hyl hil himl ⟨hgm,hgg,g63,g106,g141,hn3,hrl⟩ IHl;dsimp only at*;have q1: ¬n3+67=n2:=by omega
               have q2: ¬n2=n3+67:=by omega
               refine ax ?_;refine Fu (TZ (p:=p) (sp:=s.am.map A9) (ch:=s.ac.map Cy) (Eq.trans (b:=h.get m) ?_ hm) (e3 _) (by simp;omega) (by simp;omega) (by omega) y ch.many (by omega)) (fun o4 g4' p4=>?_)
               .simp only[go_sem,e1,hgm,AM]
               rw[Bi,Bi]at p4;have hmk:(decide ((y.length:Int)=ch.many)&&y.all (CZ.inB p s.ac.length s.am.length))=Ig p s.ac.length s.am.length ch.many y:=rfl;rw[hmk]at p4;clear hmk;cases hmo:Ig p s.ac.length s.am.length ch.many y with
               |true=>
                rw[hmo]at p4;replace p4:o4=.ret (.f8 []):=p4;subst p4;refine ax ?_;refine IHl.out (_,_) ⟨?_,?_,?_,?_,?_,?_,⟨?_⟩⟩
                .simp only[go_sem,e1,hgm,AM]
                .simp only[go_sem,e4,hgg,AM]
                .have q3: ¬n3+145=n:=by omega
                 have q4: ¬n=n3+145:=by omega
                 simp only[go_sem,g63,q3,q4,AM]
                .have q3: ¬n3+102=n:=by omega
                 have q4: ¬n=n3+102:=by omega
                 simp only[go_sem,g106,q3,q4,AM]
                .simp only[go_sem,g141,q1,q2,AM]
                .dsimp only;omega
                .rw[hrl.out,D0,hmo,F0]
               |false=>
                rw[hmo]at p4;replace p4:o4=.em (CQ 2):=p4;subst p4;refine ax ?_;exact hbc.out (by rw[hfin.out,hrl.out,D0,hmo,Ce])
              .clear hgm hgg g63 g106 g q1 q2 q3 q4 q5 q6 q7 q8 q9 q0;rintro l ⟨g,n3⟩ hil himl ⟨hgm,hgg,g63,g106,g141,hn3,hrl⟩;dsimp only at*;refine ax ?_;refine IHj.out (_,_) ⟨hgm,hgg,g63,g106,?_,⟨?_⟩⟩
               .dsimp only;omega
               .rw[hrj.out,Fg,hfin.out,hrl.out];rfl
            .refine ax ?_;exact hbc.out (by rw[hck.out,Cs g4];simp)
           .refine ax ?_;exact hbc.out (by rw[hck.out,Cs g2];simp)
          .refine ax ?_;exact hbc.out (by rw[hck.out,Cs g1];simp)
         .clear hgm hgg g63 g106 g hn2 n2;rintro j ⟨g,n2⟩ hij himj ⟨hgm,hgg,g63,g106,hn2,hrj⟩;dsimp only at*;have hgok:AA (Ki p (Bx p st.bv) s i c k gr d=true):=⟨by rw[hgo3.out,hrj.out];rfl⟩;refine ax ?_;refine IH.out (g,_,c+d.ac.length,k+d.am.length) ⟨hgm,hgg,?_,?_,⟨?_⟩⟩
          .dsimp only;omega
          .dsimp only;omega
          .dsimp only;rw[hstep.out,hgok.out,F0]
      .rw[Lw]at hev;rw[hev]at p2;replace p2:o2=.em (CQ 2):=p2;subst p2;refine aw ?_;refine hbad.out ?_;rw[hgo.out];clear IH hr hstep hbad hgo hy hd hv hT hF hm hg htr hlk hgm hgg;grind
     .replace p1:o1=.em (CQ 2):=by
       rw[p1,Bi];have:(decide (0≤gr.at_)&&decide (gr.at_<(s.am.length:Int)))=false:=by
        rw[←Lw,AS,As,As];exact hin
       rw[this];rfl
      subst p1;refine aw ?_;exact hbad.out (by rw[hgo.out,Cs hin,Ce])
    .rintro i ⟨g,n,c,k⟩ hi him ⟨hgm,hgg,b1,b2,hr⟩;dsimp only at*;have hfin:AA (EG p st.bv s=((decide (c=s.ac.length)&&decide (k=s.am.length))&&s.waits.all (Db p st.bv s))):=⟨by rw[hr.out,Ew]⟩;by_cases g1:c=s.ac.length
     .by_cases g2:k=s.am.length
      .have hf2:AA (EG p st.bv s=s.waits.all (Db p st.bv s)):=⟨by rw[hfin.out,DO g1,DO g2];rfl⟩;clear hfin hr;refine aw ?_;clear hi him i b1 b2;refine AY s.waits _ (S:=fun m' i (a:AB×Nat)=>⟨[(0,.ptr m 0),(303,.d (.be (s.waits.map Bh))),(304,.d (.int .i64 (m'))),(305,.d (.int .i64 (i)))],a.1,a.2+86,[]⟩)
        (Inv:=fun i rest a=>a.1.get m=h.get m∧AA (EG p st.bv s=rest.all (Db p st.bv s))) (b0:=(g,n)) rfl ⟨hgm,hf2⟩ ?_ ?_
       .clear hgm hgg hf2 g n;rintro i w ⟨g,n⟩ hy hi him ⟨hgm,hr⟩ IH;dsimp only at*;have hwo:AA (Db p st.bv s w=(decide (KK s.am w.at_)&&(!BU s.am w.at_&&(decide (0≤w.node)&&((match p.nodes[w.node.toNat]? with|some x=>ED x.op|none=>false)&&(decide ((w.env.length:Int)=(st.bv[w.node.toNat]?).getD 0)&&w.env.all (CZ.inB p s.ac.length s.am.length))))))):=⟨rfl⟩
        have hbad:AA (Db p st.bv s w=false→Ae.em (CQ 2)=(G6 (CQ 2) (EG p st.bv s)).1):=⟨fun h=>by rw[hr.out,D0,h];rfl⟩;refine ax ?_;refine Fu (YF (sp:=s.am.map A9) (Eq.trans (b:=h.get m) ?_ hm) (by simp;omega) w.at_) (fun o1 g1 p1=>?_)
        .simp only[go_sem,e1,hgm,AM]
        by_cases hin:KK s.am w.at_
        .replace p1:o1=.ret (.f8 []):=by
          rw[p1,DO hin.1,Bi,DO hin.2];rfl
         subst p1;obtain⟨i1,i2⟩:=hin;obtain⟨sp,hsp⟩:=get_some (l:=s.am) (i:=w.at_.toNat) (by omega);have hda:AA (BU s.am w.at_=sp.dead):=⟨by simp[BU,hsp]⟩;by_cases n0:0≤w.node
         .by_cases n1:w.node<p.nodes.length
          .obtain⟨x,hx⟩:=get_some (l:=p.nodes) (i:=w.node.toNat) (by omega);obtain⟨v,_,hv,v0,v1,_⟩:=hF.out.node _ x hx;have hln:=AA.mk hF.out.len;have hlv:=AL hv;have hwo2:AA (Db p st.bv s w=(!BU s.am w.at_&&(ED x.op&&(decide ((w.env.length:Int)=v)&&w.env.all (CZ.inB p s.ac.length s.am.length))))):=⟨by
            rw[hwo.out,hx,hv,DO n0,DO ⟨i1,i2⟩];rfl⟩
           clear hwo;cases hsd:sp.dead with
           |true=>
            refine ax ?_;all_goals exact hbad.out (by rw[hwo2.out,hda.out,hsd];rfl)
           |false=>
            by_cases ho:ED x.op=true
            .have hwo3:AA (Db p st.bv s w=(decide ((w.env.length:Int)=v)&&w.env.all (CZ.inB p s.ac.length s.am.length))):=⟨by
              rw[hwo2.out,hda.out,hsd,ho];rfl⟩
             simp only[ED,I8,As]at ho;replace ho:=AA.mk ho
             (repeat' (first|simp only[go_sem, *,AM]|(refine sx ?_ ?_<;>intro hc)|refine sy (by omega) fun x hx hm=>?_|simp(disch:=first|assumption|omega) only[AG]))
             all_goals try(exfalso;have:=ho.out;omega)
             all_goals
              refine Fu (TZ (p:=p) (sp:=s.am.map A9) (ch:=s.ac.map Cy) (Eq.trans (b:=h.get m) ?_ hm) (e3 _) (by simp;omega) (by simp;omega) (by omega) w.env v (by omega)) (fun o4 g4' p4=>?_)
              .simp only[go_sem,e1,hgm,AM]
              rw[Bi,Bi]at p4;rw[←hwo3.out]at p4;cases hmo:Db p st.bv s w with
              |true=>
               rw[hmo]at p4;replace p4:o4=.ret (.f8 []):=p4;subst p4;refine ax ?_;refine IH.out (_,_) ⟨?_,⟨?_⟩⟩
               .simp only[go_sem,e1,hgm,AM]
               .rw[hr.out,D0,hmo,F0]
              |false=>
               rw[hmo]at p4;replace p4:o4=.em (CQ 2):=p4;subst p4;refine ax ?_;exact hbad.out hmo
            .have hof:AA (ED x.op=false):=⟨by simpa using ho⟩;simp only[ED,I8,As,not_or]at ho;obtain⟨u1,u2,u3⟩:=ho;refine ax ?_;all_goals exact hbad.out (by rw[hwo2.out,hda.out,hof.out];simp)
          ·(repeat' (first|simp only[go_sem, *,AM]|(refine sx ?_ ?_<;>intro hc)|refine sy (by omega) fun x hx hm=>?_|simp(disch:=first|assumption|omega) only[AG]))
           all_goals exact hbad.out (by rw[hwo.out,NO (show p.nodes.length≤w.node.toNat by omega)];simp)
         ·(repeat' (first|simp only[go_sem, *,AM]|(refine sx ?_ ?_<;>intro hc)|refine sy (by omega) fun x hx hm=>?_|simp(disch:=first|assumption|omega) only[AG]))
          all_goals exact hbad.out (by rw[hwo.out,Cs n0];simp)
        .replace p1:o1=.em (CQ 2):=by
          rw[p1,Bi];have:(decide (0≤w.at_)&&decide (w.at_<(s.am.length:Int)))=false:=by
           rw[←Lw,AS,As,As];exact hin
          rw[this];rfl
         subst p1;refine ax ?_;exact hbad.out (by rw[hwo.out,Cs hin];rfl)
       .rintro i ⟨g,n⟩ hi him ⟨hgm,hr⟩;dsimp only at*;refine aw ?_;rw[hr.out];rfl
      .have g3: ¬(k:Int)=s.am.length:=by omega
       refine aw ?_;rw[hfin.out,Cs g2];simp[G6]
     .have g3: ¬(c:Int)=s.ac.length:=by omega
      refine aw ?_;rw[hfin.out,Cs g1];rfl
 .have hk0:EG p st.bv s=false:=by rw[EG];simp[hss]
  rw[hk0];have hss:AA (¬(s.am.length≤24∧s.ce.length≤40∧s.ac.length≤60∧s.waits.length≤40)):=⟨by simpa[CW.small]using hss⟩
  (refine Aa rfl Tryz.func91 rfl rfl rfl ?_;show Wp _ _ _ _ (Tryz.f91.body.get rfl) _ _;simp only[Tryz.f91,AP])
  (repeat' (first|simp only[go_sem, *]|(refine sx ?_ ?_<;>intro hc)|refine sy (by omega) fun x hx hm=>?_|simp(disch:=first|assumption|omega) only[AG]))
  all_goals first
  |rfl
  |(have:=hss.out;exfalso;omega)
end Go.Proofs
namespace Go.Abs
def pB(id:Id)(x:AU)(v:AV)(es:List (AU×AV)):Option (Option AV)→Option Bw
 |some _=>some ⟨.undef,[(id,.map (Dj es x v))]⟩
 |none=>none
def cj(id:Id)(x:AU)(v:AV):Option Obj→Option Bw
 |some (.map es)=>pB id x v es (Cb es x)
 |_=>none
def pC(x:AU)(v:AV)(id:Id)(o:Option Obj):Option TI→Option Bw
 |some j=>if (Ia j.kind x&&v.isCell)=true then cj id x v o else none
 |none=>none
theorem iY(T:TypeId→Option TI)(g:G)(i:TI)(id:Id)(x:AU)(v:AV)(hk:i.kind=.map):mapPut T g (some i) (.mp id) (.d x) v=pC x v id (g id) (T i.key):=by
 unfold mapPut;simp only[KZ,hk];cases T i.key with
 |none=>rfl
 |some j=>
  simp only[pC];cases Ia j.kind x&&v.isCell with
  |false=>rfl
  |true=>
   simp only[F3];cases g id with
   |none=>rfl
   |some o=>
    cases o with
    |map es=>
     simp only[cj];cases Cb es x<;>rfl
    |_=>rfl
theorem aA(x:AU)(v:AV)(id:Id)(o:Option Obj)(j:TI):pC x v id o (some j)=if (Ia j.kind x&&v.isCell)=true then cj id x v o else none:=rfl
theorem jA(id:Id)(x:AU)(v:AV)(es:List (AU×AV)):cj id x v (some (.map es))=pB id x v es (Cb es x):=rfl
theorem Z9(id:Id)(x:AU)(v:AV)(es:List (AU×AV))(o:Option AV):pB id x v es (some o)=some ⟨.undef,[(id,.map (Dj es x v))]⟩:=rfl
theorem Zy(x:AU)(v:AV):Dj [] x v=[(x,v)]:=rfl
theorem Zx(k:IntKind)(a b:Int)(v w:AV)(es:List (AU×AV)):Dj ((.int k a,w)::es) (.int k b) v=if a=b then(.int k a,v)::es else(.int k a,w)::Dj es (.int k b) v:=by
 rw[Dj];by_cases h:a=b
 .have hb:(a==b)=decide (a=b):=by rw[OP];simp
  simp[Fz,h,hb]
 .have hb:(a==b)=decide (a=b):=by rw[OP];simp
  simp[Fz,h,hb]
attribute [go_sem] iY aA jA Z9 Zy Zx
end Go.Abs
namespace Go.Proofs
open Go Go.Abs
set_option maxRecDepth 100000
set_option maxHeartbeats 4000000
def Ja(π:List Nat)(p:AK)(st:BF):AB:=if p.defs.length=0 then
    [(0::0::π,.box [.ci,.ci,.ci,.ci,.d (.be (p.free.map A0)),.d (.be (p.nodes.map Al)),.d (.be (p.defs.map A8)),.d (.int .i64 (p.main)),.d (.be (st.bv.map AO)),.emp,.mp (1::3::π),.ci,.d (.int .i64 (0))]),(1::3::π,.map Fa)]
 else [(0::0::π,.box [.ci,.ci,.ci,.ci,.d (.be (p.free.map A0)),.d (.be (p.nodes.map Al)),.d (.be (p.defs.map A8)),.d (.int .i64 (p.main)),.d (.be (st.bv.map AO)),.d8 (1::1::π) 0 p.defs.length,.mp (1::4::π),.ci,.d (.int .i64 (0))]),(1::1::π,.d6 1 ((Bx p st.bv).map AO)),(1::4::π,.map Fa)]
structure k9(π:List Nat)(p:AK)(r:Ae×AB):Prop where
 em:looks p=none→r=(.em (CQ 2),[])
 ret: ∀st,looks p=some st→r=(.ret (.ptr (0::0::π) 0),Ja π p st)
theorem O3(p:AK)(hp: ∀s∈p.free,s.size≤maxLen)(k:Nat)(ρ:List Nat): ∃r,BJ (KL Tryz.prog cfg) 65 [.agg [.d (.be (p.free.map A0)),.d (.be (p.nodes.map Al)),.d (.be (p.defs.map A8)),.d (.int .i64 (p.main))]] (k::ρ)=.ok r∧k9 (k::ρ) p r:=by
 have hsz:=lF p hp;replace hp:=AA.mk hp;cases hlk:looks p with
 |none=>
  rw[hlk]at hsz;simp only[JD]at hsz
  (refine FA rfl Tryz.func65 rfl rfl rfl ?_;show Wp _ _ _ _ (Tryz.f65.body.get rfl) _ _;simp only[Tryz.f65,AP])
  refine aw ?_;exact⟨fun _=>rfl,fun st h=>by rw[hlk]at h;cases h⟩
 |some st=>
  rw[hlk]at hsz;simp only[JD]at hsz;have hF:=AA.mk (C0 hlk);have hsm:=hF.out.small;simp only[AK.small,AS,As]at hsm;obtain⟨c1,c2,c3⟩:=hsm
  (refine FA rfl Tryz.func65 rfl rfl rfl ?_;show Wp _ _ _ _ (Tryz.f65.body.get rfl) _ _;simp only[Tryz.f65,AP])
  by_cases hD0:p.defs.length=0
  ·(repeat' (first|simp only[go_sem, *]|(refine sx ?_ ?_<;>intro hc)|refine sy (by omega) fun x hx hm=>?_|simp(disch:=first|assumption|omega) only[AG,E5]))
   refine AY p.nodes _ (S:=fun m i (_:Unit)=>⟨[(3,.d (.be (st.bv.map AO))),(5,.ptr (0::0::k::ρ) 0),(25,.d (.be (p.nodes.map Al))),(26,.d (.int .i64 (m))),(27,.d (.int .i64 (i)))],[(0::0::k::ρ,.box [.ci,.ci,.ci,.ci,.d (.be (p.free.map A0)),.d (.be (p.nodes.map Al)),.d (.be (p.defs.map A8)),.d (.int .i64 (p.main)),.d (.be (st.bv.map AO)),.emp,.d .nl,.ci,.d (.int .i64 (0))])],1,[]⟩)
    (Inv:=fun i rest _=>True) (b0:=()) rfl trivial ?_ ?_
   .rintro i y _ hy hi him _ IH;have ho: ¬y.op=4:=fun ho=>by
     have:=P7 hF.out hy ho;omega
    refine aw ?_;exact IH.out () trivial
   .rintro i _ hi him _;have hD1:=AA.mk hD0;refine aw ?_;exact⟨fun h=>(by rw[hlk]at h;cases h),fun st h=>by rw[hlk]at h;cases h;rw[Ja,D7 hD1.out];rfl⟩
  ·(repeat' (first|simp only[go_sem, *]|(refine sx ?_ ?_<;>intro hc)|refine sy (by omega) fun x hx hm=>?_|simp(disch:=first|assumption|omega) only[AG,E5]))
   refine AY p.nodes _ (S:=fun m i (out:List Int)=>⟨[(3,.d (.be (st.bv.map AO))),(5,.ptr (0::0::k::ρ) 0),(25,.d (.be (p.nodes.map Al))),(26,.d (.int .i64 (m))),(27,.d (.int .i64 (i)))],[(0::0::k::ρ,.box [.ci,.ci,.ci,.ci,.d (.be (p.free.map A0)),.d (.be (p.nodes.map Al)),.d (.be (p.defs.map A8)),.d (.int .i64 (p.main)),.d (.be (st.bv.map AO)),.d8 (1::1::k::ρ) 0 p.defs.length,.d .nl,.ci,.d (.int .i64 (0))]),(1::1::k::ρ,.d6 1 (out.map AO))],2,[]⟩)
    (Inv:=fun i rest out=>out.length=p.defs.length∧AA (Bx p st.bv=Fo st.bv out rest)) (b0:=List.replicate p.defs.length 0) rfl ⟨by simp,⟨rfl⟩⟩ ?_ ?_
   .rintro i y out hy hi him ⟨hol,hr⟩ IH;by_cases ho:y.op=4
    .obtain⟨n1,n2,kk,v,hk,hk0,hkv,hks,_,_⟩:=P7 hF.out hy ho;obtain⟨o,hoo⟩:=get_some (l:=out) (i:=y.n.toNat) (by omega);have hyn:y.n.toNat<p.defs.length:=by omega
     have hks:=AA.mk hks;refine aw ?_;have e:(out.map AO).set y.n.toNat [.int .i64 v]=(out.set y.n.toNat v).map AO:=by rw[Ms];rfl
     rw[e];refine IH.out (out.set y.n.toNat v) ⟨by simpa using hol,⟨?_⟩⟩;rw[hr.out,Fo,D7 ho,hks.out]
    .refine aw ?_;refine IH.out out ⟨hol,⟨?_⟩⟩;rw[hr.out,Fo,D3 ho]
   .rintro i out hi him ⟨hol,hr⟩;have hgr:AA (Bx p st.bv=out):=⟨by rw[hr.out];rfl⟩;refine aw ?_;exact⟨fun h=>(by rw[hlk]at h;cases h),fun st h=>by rw[hlk]at h;cases h;rw[Ja,D3 hD0,hgr.out];rfl⟩
end Go.Proofs
namespace Go.Proofs
open Go Go.Abs
set_option maxRecDepth 100000
set_option maxHeartbeats 4000000
def Je(v1 v2 v3 v4 v9:AV)(a:Abs.Id)(rows:List (List AV)):MV:=⟨fun i=>match i with|0=>v1|1=>v2|2=>v4|_=>.ci,v3,v9,a,rows⟩
variable{π:List Nat}{s:CW}{rows:List (List AV)}{g:AB}{m a:Abs.Id}{v9:AV}{sz:List Int}
theorem VU{v1 v2 v3 v4:AV}(hC:kY π s v1 v2 v3 v4 rows g){G:AB}{p:AK}{ρ:List Nat}{n:Nat}(hρ:π=n::ρ)(hb:G.get m=some (.box (BS p sz (Je v1 v2 v3 v4 v9 a rows) 0)))(ha:G.get a=some (.map Fa))
 (hg: ∀id o,g.get id=some o→G.get id=some o) (hm:Id.under ρ m=true) (ham:Id.under ρ a=true):KP p sz G m (Je v1 v2 v3 v4 v9 a rows) ⟨s,[],0⟩∧ ∀id∈(Je v1 v2 v3 v4 v9 a rows).ids m,Id.under ρ id=true:=by
 have key: ∀{sz:Nat} {v:AV} {es:List (List AU)},Nv g sz v es→Nv G sz v es:=fun h=>by
  refine K6 h fun id hid=>?_;obtain⟨x,hx⟩:=PZ h hid;rw[hx];exact hg _ _ hx
 refine⟨⟨hb,.inr ha,fun i hi=>?_,?_,?_,hC.gw,hC.qd,fun _ _ _=>rfl⟩,fun id hid=>?_⟩
 .match i,hi with
  |0,_=>exact key hC.s0
  |1,_=>exact key hC.s1
  |2,_=>exact key hC.s2
  |3,_=>exact .inl ⟨rfl,rfl⟩
 .refine Mv hC.arr fun id hid=>?_;have:=GW hC.arr hid;rw[this];exact hg _ _ this
 .refine Mr hC.ac fun id hid=>?_;obtain⟨x,hx⟩:=LK hC.ac hid;rw[hx];exact hg _ _ hx
 .have hu:=fun h=>BB (n:=n) (hρ▸hC.ids id h);rcases(MV.mem _ m id).1 hid with rfl|rfl|⟨i,hi,h⟩|h|h
  .exact hm
  .exact ham
  .match i,hi with
   |0,_=>exact hu (.inl h)
   |1,_=>exact hu (.inr (.inl h))
   |2,_=>exact hu (.inr (.inr (.inl h)))
   |3,_=>simp[Je,AD]at h
  .exact hu (.inr (.inr (.inr (.inl h))))
  .exact hu (.inr (.inr (.inr (.inr h))))
structure kr(π:List Nat)(p:AK)(s:CW)(st:BF)(id:Abs.Id)(V:MV)(g:AB):Prop where
 looks:looks p=some st
 rep:KP p st.bv g id V ⟨s,[],0⟩
 ids: ∀x∈V.ids id,Id.under π x=true
 own: ∀x,Id.under π x=false→g.get x=none
structure ku(π:List Nat)(p:AK)(s:CW)(r:Ae×AB):Prop where
 bad:GV p s≠0→r=(.em (CQ 2),[])
 ii:GV p s=0→ ∃st id V g,r=(.ret (.ptr id 0),g)∧kr π p s st id V g
variable{V:MV}
theorem ca{p:AK}{st:BF}{id:Abs.Id}(h1:looks p=some st)(h2:KP p st.bv g id V ⟨s,[],0⟩∧ ∀x∈V.ids id,Id.under π x=true)(h3: ∀x,Id.under π x=false→g.get x=none):kr π p s st id V g:=⟨h1,h2.1,h2.2,h3⟩
theorem iH(p:AK)(s:CW)(hp: ∀s∈p.free,s.size≤maxLen)(k:Nat)(ρ:List Nat): ∃r,BJ (KL Tryz.prog cfg) 51 [.agg [.d (.be (p.free.map A0)),.d (.be (p.nodes.map Al)),.d (.be (p.defs.map A8)),.d (.int .i64 (p.main))],.agg [.d (.be (s.am.map A9)),.d (.be (s.ce.map BG)),.d (.be (s.ac.map Cy)),.d (.be (s.waits.map Bh))]] (k::ρ)=.ok r∧ku (k::ρ) p s r:=by
 obtain⟨r,hr,hpost⟩:=O3 p hp 4 (k::ρ);replace hp:=AA.mk hp;cases hlk:looks p with
 |none=>
  obtain rfl:=hpost.em hlk
  (refine FA rfl Tryz.func51 rfl rfl rfl ?_;show Wp _ _ _ _ (Tryz.f51.body.get rfl) _ _;simp only[Tryz.f51,AP])
  (repeat' (first|simp only[go_sem, *]|(refine sx ?_ ?_<;>intro hc)|refine sy (by omega) fun x hx hm=>?_|simp(disch:=first|assumption|omega) only[AG]))
  exact⟨fun _=>rfl,fun h=>by rw[GV,hlk]at h;cases h⟩
 |some st=>
  obtain rfl:=hpost.ret st hlk;have hse:AA (GV p s=if EG p st.bv s=true then 0 else 2):=⟨by rw[GV,hlk]⟩;have hfit:=fun h=>eA s (Q4 hlk h);by_cases hD0:p.defs.length=0
  .simp only[Ja,hD0,F3,D8,Fa]at hr
   (refine FA rfl Tryz.func51 rfl rfl rfl ?_;show Wp _ _ _ _ (Tryz.f51.body.get rfl) _ _;simp only[Tryz.f51,AP])
   (repeat' (first|simp only[go_sem, *]|(refine sx ?_ ?_<;>intro hc)|refine sy (by omega) fun x hx hm=>?_|simp(disch:=first|assumption|omega) only[AG]))
   refine Fu (QK (s:=s) (x9:=.emp) (x10:=.mp (1::3::4::k::ρ)) (x11:=.ci) (x12:=.d (.int .i64 (0))) (gid:=1::1::4::k::ρ) hlk ?_ ?_ ?_ ?_ ?_) (fun o1 g1 p1=>?_)
   .simp only[go_sem]
   .exact Dq _ _ _ _ _ (by decide)
   .simp only[wd,hD0,F3,D8]
   .intro hh;first
    |exact absurd hD0 hh
    |(simp only[go_sem];done)
    |(simp only[go_sem];rfl)
   .exact Dq _ _ _ _ _ (by decide)
   cases hso:EG p st.bv s with
   |false=>
    rw[hso]at p1;replace p1:o1=.em (CQ 2):=p1;subst p1;replace hfit:=AA.mk hfit
    (repeat' (first|simp only[go_sem, *]|(refine sx ?_ ?_<;>intro hc)|refine sy (by omega) fun x hx hm=>?_|simp(disch:=first|assumption|omega) only[AG]))
    exact⟨fun _=>rfl,fun h=>by rw[hse.out,hso]at h;cases h⟩
   |true=>
    rw[hso]at p1;replace p1:o1=.ret (.f8 []):=p1;subst p1;obtain⟨r2,hr2,v1,v2,v3,v4,rows,g,rfl,hC⟩:=hfit hso 15 (k::ρ);clear hfit;have hgn:=hC.own;have hgm: ∀L,AB.get (g++L) (0::0::4::k::ρ)=AB.get L (0::0::4::k::ρ):=fun L=>BK (hgn _ (Dq _ _ _ _ _ (by decide)));replace hgn:=AA.mk hgn;have hgood:AA (GV p s=0):=⟨by rw[hse.out,hso];rfl⟩;have hcr:=AA.mk fun G v9 h1 h2 h3=>VU hC (G:=G) (m:=0::0::4::k::ρ) (a:=1::3::4::k::ρ) (v9:=v9) (p:=p) (sz:=st.bv) rfl h1 h2 h3 (under_iff.2 ⟨[0,0,4],rfl⟩) (under_iff.2 ⟨[1,3,4],rfl⟩);have hga:AA (∀L,AB.get (g++L) (1::3::4::k::ρ)=AB.get L (1::3::4::k::ρ)):=⟨fun L=>BK (hC.own _ (Dq _ _ _ _ _ (by decide)))⟩;have hnis:AA (∀id o,g.get id=some o→Id.is (0::0::4::k::ρ) id=false):=⟨fun id o ho=>AF fun e=>by rw[←e,hC.own _ (Dq _ _ _ _ _ (by decide))]at ho;cases ho⟩;have hX:=AA.mk hlk;have h1:=hC.s0;have h2:=hC.s1;have h3:=hC.arr;have h4:=hC.s2;replace hC:=AA.mk hC;rcases h1 with⟨rfl,z1⟩|⟨i1,x1,rfl,z1⟩;all_goals rcases h2 with⟨rfl,z2⟩|⟨i2,x2,rfl,z2⟩
    all_goals rcases h3 with⟨rfl,z3⟩|⟨i3,rfl,z3⟩
    all_goals rcases h4 with⟨rfl,z4⟩|⟨i4,x4,rfl,z4⟩
    all_goals
     replace z1:=AA.mk z1;replace z2:=AA.mk z2;replace z3:=AA.mk z3;replace z4:=AA.mk z4
     (repeat' (first|simp only[go_sem, *]|(refine sx ?_ ?_<;>intro hc)|refine sy (by omega) fun x hx hm=>?_|simp(disch:=first|assumption|omega) only[AG]))
     refine⟨fun h=>absurd hgood.out h,fun _=>⟨st,_,_,_,rfl,ca hX.out (hcr.out _ .emp ?_ ?_ fun id o ho=>?_) fun id hu=>?_⟩⟩
     .simp only[go_sem,BS,Je];first|done|rfl
     .simp only[go_sem,hga.out,Fa];first|done|rfl
     .have q1:=hnis.out id o ho;have q2: ∀L,AB.get (g++L) id=some o:=fun L=>DN ho;simp only[go_sem,q1,q2,AM]
     .have a1:=AE hu;have a2:=AE (AH hu 4);have a3: ∀L,AB.get (g++L) id=AB.get L id:=fun L=>BK (hC.out.own id (AH hu 15));simp only[go_sem,a1,a2,a3,AM]
  .simp only[Ja,hD0,F3,D8,Fa]at hr
   (refine FA rfl Tryz.func51 rfl rfl rfl ?_;show Wp _ _ _ _ (Tryz.f51.body.get rfl) _ _;simp only[Tryz.f51,AP])
   (repeat' (first|simp only[go_sem, *]|(refine sx ?_ ?_<;>intro hc)|refine sy (by omega) fun x hx hm=>?_|simp(disch:=first|assumption|omega) only[AG]))
   refine Fu (QK (s:=s) (x9:=.d8 (1::1::4::k::ρ) 0 p.defs.length) (x10:=.mp (1::4::4::k::ρ)) (x11:=.ci) (x12:=.d (.int .i64 (0))) (gid:=1::1::4::k::ρ) hlk ?_ ?_ ?_ ?_ ?_) (fun o1 g1 p1=>?_)
   .simp only[go_sem]
   .exact Dq _ _ _ _ _ (by decide)
   .simp only[wd,hD0,F3,D8]
   .intro hh;first
    |exact absurd hD0 hh
    |(simp only[go_sem];done)
    |(simp only[go_sem];rfl)
   .exact Dq _ _ _ _ _ (by decide)
   cases hso:EG p st.bv s with
   |false=>
    rw[hso]at p1;replace p1:o1=.em (CQ 2):=p1;subst p1;replace hfit:=AA.mk hfit
    (repeat' (first|simp only[go_sem, *]|(refine sx ?_ ?_<;>intro hc)|refine sy (by omega) fun x hx hm=>?_|simp(disch:=first|assumption|omega) only[AG]))
    exact⟨fun _=>rfl,fun h=>by rw[hse.out,hso]at h;cases h⟩
   |true=>
    rw[hso]at p1;replace p1:o1=.ret (.f8 []):=p1;subst p1;obtain⟨r2,hr2,v1,v2,v3,v4,rows,g,rfl,hC⟩:=hfit hso 15 (k::ρ);clear hfit;have hgn:=hC.own;have hgm: ∀L,AB.get (g++L) (0::0::4::k::ρ)=AB.get L (0::0::4::k::ρ):=fun L=>BK (hgn _ (Dq _ _ _ _ _ (by decide)));replace hgn:=AA.mk hgn;have hgood:AA (GV p s=0):=⟨by rw[hse.out,hso];rfl⟩;have hcr:=AA.mk fun G v9 h1 h2 h3=>VU hC (G:=G) (m:=0::0::4::k::ρ) (a:=1::4::4::k::ρ) (v9:=v9) (p:=p) (sz:=st.bv) rfl h1 h2 h3 (under_iff.2 ⟨[0,0,4],rfl⟩) (under_iff.2 ⟨[1,4,4],rfl⟩);have hga:AA (∀L,AB.get (g++L) (1::4::4::k::ρ)=AB.get L (1::4::4::k::ρ)):=⟨fun L=>BK (hC.own _ (Dq _ _ _ _ _ (by decide)))⟩;have hnis:AA (∀id o,g.get id=some o→Id.is (0::0::4::k::ρ) id=false):=⟨fun id o ho=>AF fun e=>by rw[←e,hC.own _ (Dq _ _ _ _ _ (by decide))]at ho;cases ho⟩;have hX:=AA.mk hlk;have h1:=hC.s0;have h2:=hC.s1;have h3:=hC.arr;have h4:=hC.s2;replace hC:=AA.mk hC;rcases h1 with⟨rfl,z1⟩|⟨i1,x1,rfl,z1⟩;all_goals rcases h2 with⟨rfl,z2⟩|⟨i2,x2,rfl,z2⟩
    all_goals rcases h3 with⟨rfl,z3⟩|⟨i3,rfl,z3⟩
    all_goals rcases h4 with⟨rfl,z4⟩|⟨i4,x4,rfl,z4⟩
    all_goals
     replace z1:=AA.mk z1;replace z2:=AA.mk z2;replace z3:=AA.mk z3;replace z4:=AA.mk z4
     (repeat' (first|simp only[go_sem, *]|(refine sx ?_ ?_<;>intro hc)|refine sy (by omega) fun x hx hm=>?_|simp(disch:=first|assumption|omega) only[AG]))
     refine⟨fun h=>absurd hgood.out h,fun _=>⟨st,_,_,_,rfl,ca hX.out (hcr.out _ (.d8 (1::1::4::k::ρ) 0 p.defs.length) ?_ ?_ fun id o ho=>?_) fun id hu=>?_⟩⟩
     .simp only[go_sem,BS,Je];first|done|rfl
     .simp only[go_sem,hga.out,Fa];first|done|rfl
     .have q1:=hnis.out id o ho;have q2: ∀L,AB.get (g++L) id=some o:=fun L=>DN ho;simp only[go_sem,q1,q2,AM]
     .have a1:=AE hu;have a2:=AE (AH hu 4);have a3: ∀L,AB.get (g++L) id=AB.get L id:=fun L=>BK (hC.out.own id (AH hu 15));simp only[go_sem,a1,a2,a3,AM]
theorem c8(p:AK)(s:CW)(hp: ∀s∈p.free,s.size≤maxLen):BJ (KL Tryz.prog cfg) 39 [.agg [.d (.be (p.free.map A0)),.d (.be (p.nodes.map Al)),.d (.be (p.defs.map A8)),.d (.int .i64 (p.main))],.agg [.d (.be (s.am.map A9)),.d (.be (s.ce.map BG)),.d (.be (s.ac.map Cy)),.d (.be (s.waits.map Bh))]] []=.ok (.ret (.d (.int .i64 (GV p s))),[]):=by
 obtain⟨r,hr,hpost⟩:=iH p s hp 6 [];replace hp:=AA.mk hp;by_cases h0:GV p s=0
 .obtain⟨st,id,V,g,rfl,hL⟩:=hpost.ii h0;have hg:=hL.own;clear hL;have g0: ∀L,AB.get (g++L) [0,0]=AB.get L [0,0]:=fun L=>BK (hg _ (by decide));have g1: ∀L,AB.get (g++L) [0,1]=AB.get L [0,1]:=fun L=>BK (hg _ (by decide));have g2: ∀L,AB.get (g++L) [0,2]=AB.get L [0,2]:=fun L=>BK (hg _ (by decide));replace hg:=AA.mk hg
  (refine Ao rfl Tryz.func39 rfl rfl rfl ?_;show Wp _ _ _ _ (Tryz.f39.body.get rfl) _ _;simp only[Tryz.f39,AP])
  exact au
 .obtain rfl:=hpost.bad h0;have h2:AA (GV p s=2):=⟨by
   rw[GV]at h0⊢;split at h0
   .split at h0
    .exact absurd rfl h0
    .rename_i hh;simp[hh]
   .rfl⟩
  (refine Ao rfl Tryz.func39 rfl rfl rfl ?_;show Wp _ _ _ _ (Tryz.f39.body.get rfl) _ _;simp only[Tryz.f39,AP])
  (repeat' (first|simp only[go_sem, *,CQ]|(refine sx ?_ ?_<;>intro hc)|refine sy (by omega) fun x hx hm=>?_|simp(disch:=first|assumption|omega) only[AG]))
  rw[h2.out]
def Gi:CW:=⟨[],[],[],[]⟩
structure Made where
 d7:CW
 ev:List KD
 err:Int
def Wy:Option CC→Made
 |some st=>⟨st.d7,st.ev,0⟩
 |none=>⟨Gi,[],3⟩
abbrev KI(r:Made):AV:=.f8 [sA r.d7,.d (.be (r.ev.map Hx)),.d (.int .i64 r.err)]
variable{es:List (List AU)}
theorem DA{sz:Nat}{v:AV}(h:Nv g sz v es):v.isCell=true∧v.cells=[v]:=by
 rcases h with⟨rfl,_⟩|⟨_,_,rfl,_⟩<;>exact⟨rfl,rfl⟩
theorem Mu{v:AV}(h:qo g v rows):v.isCell=true∧v.cells=[v]:=by
 rcases h with⟨rfl,_⟩|⟨_,rfl,_⟩<;>exact⟨rfl,rfl⟩
theorem cw{α:Type}(l x:List α)(n:Nat)(hn:n=l.length):IM (l++x) 0 n=some l:=by
 subst hn;unfold IM;rw[D7 (by simp)];simp
theorem V9{sz:Nat}{v:AV}(h:Nv g sz v es):EW g.get v=some (.be es):=by
 rcases h with⟨rfl,rfl⟩|⟨id,x,rfl,hg⟩
 .rfl
 .simp only[EW,hg,cw es x _ rfl,F1]
theorem Kg{sz:Nat}{v:AV}(h:Nv g sz v es):Cu g.get v=some (.be es):=by
 have h1:=V9 h;rcases h with⟨rfl,rfl⟩|⟨id,x,rfl,hg⟩
 .rfl
 .simp only[Cu,hg];exact h1
theorem V8{sz:Nat}{v:AV}(h:Nv g sz v es):Di g.get v=some (.d (.be es)):=by
 have h1:=Kg h;rcases h with⟨rfl,rfl⟩|⟨id,x,rfl,hg⟩
 .rfl
 .simp only[Di,h1,F1]
theorem YE{sz:Nat}{v:AV}(h:vt g sz v es):v.isCell=true∧v.cells=[v]:=by
 rcases h with h|⟨rfl,_⟩
 .exact DA h
 .exact⟨rfl,rfl⟩
theorem nH{sz:Nat}{v:AV}(h:vt g sz v es):EW g.get v=some (.be es):=by
 rcases h with h|⟨rfl,rfl⟩
 .exact V9 h
 .rfl
theorem QO{sz:Nat}{v:AV}(h:vt g sz v es):Cu g.get v=some (.be es):=by
 rcases h with h|⟨rfl,rfl⟩
 .exact Kg h
 .rfl
theorem SQ{g:AB}: ∀{rows:List (List AV)} {l:List HY},rows.length=l.length→(∀(j:Nat) (q:HY),l[j]? =some q→ ∃v,rows[j]? =some (Ah q v)∧vt g 1 v (q.queue.map CU))→Cd g.get rows=some (l.map Cy)
 |[],[],_,_=>rfl
 |[],_::_,h,_=>by cases h
 |_::_,[],h,_=>by cases h
 |r::rows,q::l,h,hr=>by
  obtain⟨v,h1,h2⟩:=hr 0 q rfl;simp only[F7,CI]at h1;subst h1;have ih:=SQ (rows:=rows) (l:=l) (by simpa using h) fun j q hj=>by
   have:=hr (j+1) q (by simpa using hj);simpa using this
  have h3:=nH h2;have h4:Ch g.get (Ah q v)=some (Cy q):=by
   simp only[Ah,Ch,h3,show∀x,EW g.get (.d x)=some x from fun _=>rfl,Cy]
  simp only[Cd,h4,ih,Ci]
variable{c:Bool}
theorem WC{v:AV}{l:List HY}(h:qo g v rows)(hc:YT c g rows l):Cu g.get v=some (.be (l.map Cy)):=by
 have h1:=SQ hc.len fun j q hj=>by obtain⟨v,h1,h2⟩:=hc.row j q hj;exact⟨v,h1,Q1 h2⟩
 have hl:=hc.len;rcases h with⟨rfl,rfl⟩|⟨id,rfl,hg⟩
 .cases l with
  |nil=>rfl
  |cons q l=>cases hl
 .have:=cw (l.map Cy) [] rows.length (by rw[Bi,hl]);rw[EL]at this;simp only[Cu,hg,h1,this,F1]
def z7:Option (CW×List KD)→Made
 |some (s,ev)=>⟨s,ev,0⟩
 |none=>⟨Gi,[],3⟩
theorem cr{p:AK}{id:Abs.Id}{ev:List KD}{w:Int}(hM:KP p sz g id V ⟨s,ev,w⟩):sG (fun o' h'=>uy (o',h')=(Ae.ret (KI (z7 (some (s,ev)))),[])) (Option.map AV.f8 (Ou (Option.map AV.agg (H0 (Cu g.get (V.s 0)) (H0 (Cu g.get (V.s 1)) (H0 (Cu g.get V.v3) (H0 (Cu g.get (V.s 2)) (some [])))))) (Ou (Di g.get (V.s 3)) (some [.d (.int .i64 0)])))):=by
 have f0:=Kg (hM.sl 0 (by omega));have f1:=Kg (hM.sl 1 (by omega));have f2:=Kg (hM.sl 2 (by omega));have f3:=V8 (hM.sl 3 (by omega));have f4:=WC hM.arr hM.ac;simp only[Ad]at f0 f1 f2 f3;rw[f0,f1,f2,f3,f4];rfl
def kf(e:KD):Prop:=e.of.length≤5000
theorem Wk{f:FW→CC→Option CC}(hf: ∀j st st',f j st=some st'→(∀e∈st.ev,kf e)→ ∀e∈st'.ev,kf e): ∀(js:List FW) (st st':CC),Bj f js st=some st'→(∀e∈st.ev,kf e)→ ∀e∈st'.ev,kf e
 |[],st,st',h,hb=>by
  rw[Bj]at h;cases h;exact hb
 |j::js,st,st',h,hb=>by
  rw[Bj]at h;obtain⟨s1,h1,h2⟩:=HM.1 h;exact Wk hf js s1 st' h2 (hf j st s1 h1 hb)
variable{j:FW}{st:CC}
theorem qA{p:AK}(hF:Bq p sz){x:CT}{i:Nat}(hx:p.nodes[i]? =some x)(ho:x.op=2){st':CC}(h:B0 p x j st=some st')(hb: ∀e∈st.ev,kf e): ∀e∈st'.ev,kf e:=by
 obtain⟨s,l,_,_,_,hn,_⟩:=hF.node i x hx;simp only[CV,AS]at hn;have ha:=hn.2.2.1;rw[DV,D7 ho,As]at ha;simp only[B0]at h;split at h
 .cases h;intro e he;rcases F2.1 he with he|he
  .exact hb e he
  .rw[Ac.1 he];show(x.args.map _).length≤5000;rw[Bi];omega
 split at h
 .obtain⟨s,_,rfl⟩:=BI.1 h;exact hb
 .cases h;exact hb
theorem eI{p:AK}(hF:Bq p sz){r:CC×List FW}(h:JK p j st=some r)(hb: ∀e∈st.ev,kf e): ∀e∈r.1.ev,kf e:=by
 unfold JK at h;split at h
 .rename_i x hx;split at h
  .rename_i ho;obtain⟨s,h1,rfl⟩:=BI.1 h;exact qA hF hx ho h1 hb
  split at h
  .cases h;exact hb
  split at h
  .unfold Ds at h;split at h
   .dsimp only at h;split at h
    .cases h;exact hb
    .cases h
   .cases h
  split at h
  .cases h;exact hb
  split at h
  .obtain⟨s,h1,rfl⟩:=BI.1 h;unfold Dw at h1;split at h1
   .cases h1;exact hb
   .cases h1
  .cases h;exact hb
 .cases h
theorem cT{p:AK}(hF:Bq p sz): ∀(k:Nat) (j:FW) (st st':CC),Dg p k j st=some st'→(∀e∈st.ev,kf e)→ ∀e∈st'.ev,kf e
 |0,j,st,st',h,_=>by cases h
 |k+1,j,st,st',h,hb=>by
  rw[Dg]at h;split at h
  .cases hd:JK p j {st with work:=st.work+1}with
   |none=>rw[hd]at h;cases h
   |some r=>
    rw[hd]at h;have:=eI hF hd hb;exact Wk (cT hF k) r.2 r.1 st' h this
  .cases h
theorem LQ(p:AK)(sz:List Int):Lq p sz Bs:=by
 refine⟨by decide,YL (by decide),fun i x hi hx=>?_,fun i g hg=>by simp[Bs]at hg,rfl,fun c q hq=>by simp[Bs]at hq,fun w hw=>by simp[Bs]at hw⟩;have:=(BE.1 hx).1;simp[Bs]at this;omega
theorem LP{p:AK}(hF:Bq p sz):Br p sz Bs ⟨p.main,0,A2 p.free.length⟩:=by
 obtain⟨h1,h2⟩:=hF.main;refine⟨h1,by rw[h2];simp[A2],(show KK Bs.am 0 from⟨by decide,by decide⟩),(show BU Bs.am 0=false by decide),?_⟩;rw[CO];intro v hv;simp only[A2,ID,Pm]at hv;obtain⟨i,hi,rfl⟩:=hv;simp[CZ.inB];omega
theorem ZB{p:AK}{sz:List Int}(hF:Bq p sz){st:CC}(h:ET p=some st):Lq p sz st.d7∧st.ev.length≤400∧ ∀e∈st.ev,Ph st.d7 e:=by
 have hp:=Gl hF 401 ⟨p.main,0,A2 p.free.length⟩ ⟨Bs,[],0⟩ st (LQ p sz) (LP hF) h;obtain⟨l,h1,h2,h3⟩:=hp.evs;have h4:=hp.top (by dsimp only;omega);simp only[Ex]at h1;subst h1;dsimp only at h2;exact⟨hp.ol,by omega,h3⟩
def E4(p:AK):Made:=if (looks p).isSome=true then Wy (ET p)else⟨Gi,[],2⟩
variable{H:AB}
theorem fc{K:AJ}{fr:Fr}{bl:Nat}{x:Code}{Q:Dc→St→Prop}{E:CB}{b:Nat}{ds:List Df}(hn: ∀G,G=H→dF cfg K fr bl x ⟨E,G,b,ds⟩ Q):dF cfg K fr bl x ⟨E,H,b,ds⟩ Q:=hn H rfl
structure Nu(p:AK)(sz:List Int)(V:MV)(G:AB):Prop where
 rep:KP p sz G [0,0,6] V ⟨Bs,[],0⟩
 x0:G.get [0,0]=some (.box [.d (.be (p.free.map A0)),.d (.be (p.nodes.map Al)),.d (.be (p.defs.map A8)),.d (.int .i64 (p.main))])
 x1:G.get [0,1]=some (.box [.ci,.ci,.ci,.ci])
 x3:G.get [0,3]=some (.box [.d (.int .i64 (0))])
theorem Vl{p:AK}{G:AB}(h0:G.get [0,0,6]=some (.box (BS p sz (Je (.d8 [1,10] 0 1) .ci .ci .ci v9 a []) 0)))(h1:G.get a=some (.map Fa))(h2:G.get [1,10]=some (.d6 2 [[.int .i64 (-1),.bool false]])):KP p sz G [0,0,6] (Je (.d8 [1,10] 0 1) .ci .ci .ci v9 a []) ⟨Bs,[],0⟩:=by
 refine⟨h0,.inr h1,fun i hi=>?_,.inl ⟨rfl,rfl⟩,⟨rfl,fun j q hj=>by cases hj⟩,fun id hid=>(by cases hid),by simp[Je],fun _ _ _=>rfl⟩
 match i,hi with
 |0,_=>exact Aq [] rfl h2
 |1,_=>exact .inl ⟨rfl,rfl⟩
 |2,_=>exact .inl ⟨rfl,rfl⟩
 |3,_=>exact .inl ⟨rfl,rfl⟩
theorem Nu.mono{p:AK}{sz:List Int}{V:MV}{G G':AB}(h:Nu p sz V G)(hV: ∀j∈V.ids [0,0,6],∃n,n<20∧Id.under [n] j=true∧ ¬j=[0,1]∧ ¬j=[0,3])(hl: ∀j,(∀k,20≤k→Id.is [1,k] j=false)→G'.get j=G.get j):Nu p sz V G':=by
 refine⟨DJ h.rep fun j hj=>hl j fun k hk=>AF fun e=>?_,(hl _ fun k _=>rfl).trans h.x0,(hl _ fun k _=>rfl).trans h.x1,(hl _ fun k _=>rfl).trans h.x3⟩;obtain⟨n,h1,h2,_⟩:=hV j hj;subst e;have:=B6 (π:=[]) h2 (under_iff.2 ⟨[1],rfl⟩:Id.under [k] [1,k]=true);omega
theorem SN(n:Nat):A2 (n+1)=A2 n++[⟨2,(n:Int)⟩]:=by
 simp[A2,List.range_succ]
theorem kg(p:AK)(hp: ∀s∈p.free,s.size≤maxLen):BJ (KL Tryz.prog cfg) 31 [pA p] []=.ok (.ret (KI (E4 p)),[]):=by
 obtain⟨r,hr,hpost⟩:=O3 p hp 6 [];replace hp:=AA.mk hp;cases hlk:looks p with
 |none=>
  obtain rfl:=hpost.em hlk;have hR:AA (E4 p=⟨Gi,[],2⟩):=⟨by rw[E4,hlk];rfl⟩;rw[hR.out]
  (refine Ao rfl Tryz.func31 rfl rfl rfl ?_;show Wp _ _ _ _ (Tryz.f31.body.get rfl) _ _;simp only[Tryz.f31,AP])
  (repeat' (first|simp only[go_sem, *,CQ]|(refine sx ?_ ?_<;>intro hc)|refine sy (by omega) fun x hx hm=>?_|simp(disch:=first|assumption|omega) only[AG]))
  rfl
 |some st=>
  obtain rfl:=hpost.ret st hlk;have hF:=C0 hlk;have hR:AA (E4 p=Wy (ET p)):=⟨by rw[E4,hlk];rfl⟩;rw[hR.out];replace hF:=AA.mk hF;replace hlk:=AA.mk hlk;by_cases hD0:p.defs.length=0;all_goals
   simp only[Ja,hD0,F3,D8,Fa]at hr
   (refine Ao rfl Tryz.func31 rfl rfl rfl ?_;show Wp _ _ _ _ (Tryz.f31.body.get rfl) _ _;simp only[Tryz.f31,AP])
   (repeat' (first|simp only[go_sem, *]|(refine sx ?_ ?_<;>intro hc)|refine sy (by omega) fun x hx hm=>?_|simp(disch:=first|assumption|omega) only[AG]))
   refine fc fun G hG=>?_;have hK: ∃V,Nu p st.bv V G∧ ∀j∈V.ids [0,0,6],∃n,n<20∧Id.under [n] j=true∧ ¬j=[0,1]∧ ¬j=[0,3]:=by
    subst hG;first
    |(refine⟨_,⟨Vl (v9:=.emp) (a:=[1,3,6]) ?_ ?_ ?_,?_,?_,?_⟩,fun j hj=>?_⟩
      .rfl
      .rfl
      .rfl
      .rfl
      .rfl
      .rfl
      .rcases(MV.mem _ _ j).1 hj with rfl|rfl|⟨i,hi,h⟩|h|h
       .exact⟨6,by omega,rfl,(by intro e;cases e),(by intro e;cases e)⟩
       .exact⟨6,by omega,rfl,(by intro e;cases e),(by intro e;cases e)⟩
       .match i,hi with
        |0,_=>simp only[Je,AD,Ac]at h;subst h;exact⟨10,by omega,rfl,(by intro e;cases e),(by intro e;cases e)⟩
        |1,_=>simp[Je,AD]at h
        |2,_=>simp[Je,AD]at h
        |3,_=>simp[Je,AD]at h
       .simp[Je,AD]at h
       .simp[Je,AD]at h)
    |(refine⟨_,⟨Vl (v9:=.d8 [1,1,6] 0 p.defs.length) (a:=[1,4,6]) ?_ ?_ ?_,?_,?_,?_⟩,fun j hj=>?_⟩
      .rfl
      .rfl
      .rfl
      .rfl
      .rfl
      .rfl
      .rcases(MV.mem _ _ j).1 hj with rfl|rfl|⟨i,hi,h⟩|h|h
       .exact⟨6,by omega,rfl,(by intro e;cases e),(by intro e;cases e)⟩
       .exact⟨6,by omega,rfl,(by intro e;cases e),(by intro e;cases e)⟩
       .match i,hi with
        |0,_=>simp only[Je,AD,Ac]at h;subst h;exact⟨10,by omega,rfl,(by intro e;cases e),(by intro e;cases e)⟩
        |1,_=>simp[Je,AD]at h
        |2,_=>simp[Je,AD]at h
        |3,_=>simp[Je,AD]at h
       .simp[Je,AD]at h
       .simp[Je,AD]at h)
   clear hG;clear hr;obtain⟨V,hM,hV⟩:=hK;have freeN:p.free.length≤1000000:=by
    have:=hF.out.small;simp only[AK.small,AS,As]at this;omega
   refine Au p.free (S:=fun i (a:(AB×AV)×Nat)=>⟨[(1,.ptr [0,0] 0),(2,.ptr [0,1] 0),(3,.ci),(4,.ptr [0,3] 0),(5,.ptr [0,0,6] 0),(6,a.1.2),(18,.d (.int .i64 (p.free.length))),(19,.d (.int .i64 (i)))],a.1.1,a.2+20,[.call 50 [.ptr [0,3] 0]]⟩)
    (Inv:=fun i rest a=>AA (Nu p st.bv V a.1.1)∧AA (Nv a.1.1 2 a.1.2 ((A2 i).map AI))∧AA (∀j∈AD a.1.2,∃n,20≤n∧n<a.2+20∧j=[1,n])) (b0:=((_,.ci),0)) ⟨⟨hM⟩,⟨.inl ⟨rfl,rfl⟩⟩,⟨fun j hj=>by simp[AD]at hj⟩⟩ ?_ ?_
   .clear hM G;rintro i y ⟨⟨G,v⟩,b⟩ hy hi him ⟨hM,hv,hid⟩ IH;dsimp only at*;have x0:=hM.out.x0;have hfl:(A2 i).length=i:=by simp[A2]
    have hfs:=AA.mk (SN i);have hfm:=freeN;have w1:IntKind.i64.wrap ((i:Int)+1)=(i:Int)+1:=wrap_id (by omega) (by omega);replace hV:=AA.mk hV;rcases hv.out with⟨rfl,hz⟩|⟨S,xs,rfl,gS⟩
    .have hz2:=F9.1 hz;have hi0:i=0:=by rw[hz2]at hfl;exact hfl.symm
     subst hi0;clear hz;replace hfl:=AA.mk hfl;replace hz2:=AA.mk hz2;have h00:(0:Int)<p.free.length:=by omega
     (repeat' (first|simp only[go_sem, *]|(refine sx ?_ ?_<;>intro hc)|refine sy (by omega) fun x hx hm=>?_|simp(disch:=first|assumption|omega) only[AG]))
     refine IH.out ((_,_),b+11) ⟨⟨hM.out.mono hV.out fun j hj=>?_⟩,⟨Aq [] rfl ?_⟩,⟨fun j hj=>?_⟩⟩
     .have q1:=hj (b+26) (by omega);have q2:=hj (b+27) (by omega);simp only[go_sem,q1,q2,AM]
     .rw[hfs.out,hz2.out];simp only[go_sem]
     .simp only[AD,Ac]at hj;exact⟨b+27,by omega,by dsimp only;omega,hj⟩
    .obtain⟨n,n1,n2,rfl⟩:=hid.out S (by simp[AD]);rw[Bi,hfl];have n3: ¬b+26=n:=by omega
     have n4: ¬n=b+26:=by omega
     have n5: ¬b+27=n:=by omega
     have n6: ¬n=b+27:=by omega
     have tk:List.take i ((A2 i).map AI)=(A2 i).map AI:=D6 (by rw[Bi];omega);have tk2: ∀l:List (List AU),List.take i ((A2 i).map AI++l)=(A2 i).map AI:=fun l=>by rw[Lm (by rw[Bi];omega),tk]
     have dr: ∀(x:List AU) (l:List (List AU)),List.drop (i+1) ((A2 i).map AI++x::l)=l:=fun x l=>by
      rw[List.drop_append,List.drop_of_length_le (by rw[Bi];omega),Bi,hfl,show i+1-i=1 by omega];rfl
     rcases xs with _|⟨x,xs⟩
     ·(repeat' (first|simp only[go_sem, *]|(refine sx ?_ ?_<;>intro hc)|refine sy (by omega) fun x hx hm=>?_|simp(disch:=first|assumption|omega) only[AG]))
      refine IH.out ((_,_),b+11) ⟨⟨hM.out.mono hV.out fun j hj=>?_⟩,⟨Aq [] (by simp[A2]) ?_⟩,⟨fun j hj=>?_⟩⟩
      .have q1:=hj (b+26) (by omega);have q2:=hj (b+27) (by omega);have q3:=hj n (by omega);simp only[go_sem,q1,q2,q3,AM]
      .rw[hfs.out,BV];simp only[go_sem,tk,tk2,dr]
      .simp only[AD,Ac]at hj;exact⟨b+27,by omega,by dsimp only;omega,hj⟩
     ·(repeat' (first|simp only[go_sem, *]|(refine sx ?_ ?_<;>intro hc)|refine sy (by omega) fun x hx hm=>?_|simp(disch:=first|assumption|omega) only[AG]))
      refine IH.out ((_,_),b+11) ⟨⟨hM.out.mono hV.out fun j hj=>?_⟩,⟨Aq xs (by simp[A2]) ?_⟩,⟨fun j hj=>?_⟩⟩
      .have q1:=hj (b+26) (by omega);have q3:=hj n (by omega);simp only[go_sem,q1,q3,AM]
      .rw[hfs.out,BV];simp only[go_sem,tk,tk2,dr]
      .simp only[AD,Ac]at hj;exact⟨n,by omega,by dsimp only;omega,hj⟩
   .clear hM G;rintro i ⟨⟨G,v⟩,b⟩ hi him ⟨hM,hv,hid⟩;dsimp only at*;have x0:=hM.out.x0;have hfl:(A2 i).length=i:=by simp[A2]
    replace hV:=AA.mk hV;rcases hv.out with⟨rfl,hz⟩|⟨S,xs,rfl,gS⟩
    .have hz2:=AA.mk (F9.1 hz);clear hz;replace hfl:=AA.mk hfl
     (repeat' (first|simp only[go_sem, *]|(refine sx ?_ ?_<;>intro hc)|refine sy (by omega) fun x hx hm=>?_|simp(disch:=first|assumption|omega) only[AG]))
     have hM3:=hM.out;replace hM:=AA.mk hM;rw[show(List.nil:List (List AU))=(A2 i).map AI by rw[hz2.out];rfl];refine AW (TV hF.out 401 _ [b+25] [0,0,6] V ⟨Bs,[],0⟩ ⟨p.main,0,A2 i⟩ hM3.rep (fun j hj=>?_) (LQ _ _) ?_ (by dsimp only;omega) (by dsimp only;omega) (by dsimp only;omega) (by simp)) (fun o1 g1 p1=>?_)
     .obtain⟨n,h1,h2,_⟩:=hV.out j hj;cases hx:Id.under [b+25] j with
      |false=>rfl
      |true=>have:=B6 (π:=[]) h2 hx;omega
     .rw[hi.out];exact LP hF.out
     have hdo:Dg p 401 ⟨p.main,0,A2 i⟩ ⟨Bs,[],0⟩=ET p:=by rw[hi.out];rfl
     rw[hdo]at p1;replace hdo:=AA.mk hdo;cases hds:ET p with
     |none=>
      rw[hds]at p1;obtain⟨rfl,p2⟩:=p1;have n01:[0,1] ∉V.ids [0,0,6]:=fun hh=>by obtain⟨n,_,_,q,_⟩:=hV.out _ hh;exact q rfl
      have n03:[0,3] ∉V.ids [0,0,6]:=fun hh=>by obtain⟨n,_,_,_,q⟩:=hV.out _ hh;exact q rfl
      have q01:=((Ag [b+25] g1 [0,1] (BH [] (by omega))).trans (p2 _ n01 (BH [] (by omega)))).trans hM3.x1;have q03:=((Ag [b+25] g1 [0,3] (BH [] (by omega))).trans (p2 _ n03 (BH [] (by omega)))).trans hM3.x3;replace p2:=AA.mk p2;replace hM3:=AA.mk hM3;clear hds
      (repeat' (first|simp only[go_sem, *,CQ]|(refine sx ?_ ?_<;>intro hc)|refine sy (by omega) fun x hx hm=>?_|simp(disch:=first|assumption|omega) only[AG]))
      rfl
     |some st'=>
      have hds2:=hds;rw[hds]at p1;obtain⟨rfl,V2,hM4,hK⟩:=p1;have n01:[0,1] ∉V.ids [0,0,6]:=fun hh=>by obtain⟨n,_,_,q,_⟩:=hV.out _ hh;exact q rfl
      have n03:[0,3] ∉V.ids [0,0,6]:=fun hh=>by obtain⟨n,_,_,_,q⟩:=hV.out _ hh;exact q rfl
      have q01:=((Ag [b+25] g1 [0,1] (BH [] (by omega))).trans (hK.frame _ n01 (BH [] (by omega)))).trans hM3.x1;have q03:=((Ag [b+25] g1 [0,3] (BH [] (by omega))).trans (hK.frame _ n03 (BH [] (by omega)))).trans hM3.x3;have hW: ∀j∈V2.ids [0,0,6],¬j=[0,1]∧ ¬j=[0,3]:=fun j hj=>by
       rcases hK.ids j hj with q|⟨_,l,rfl⟩
       .obtain⟨_,_,_,q⟩:=hV.out j q;exact q
       .exact⟨by simp,by simp⟩
      have hM5:KP p st.bv (gc [b+25] g1) [0,0,6] V2 st':=DJ hM4 fun j hj=>by
       rcases hK.ids j hj with q|⟨_,l,rfl⟩
       .obtain⟨n,h1,h2,_⟩:=hV.out j q;refine Ag _ _ _ ?_;cases hx:Id.under [b+25] j with
        |false=>rfl
        |true=>have:=B6 (π:=[]) h2 hx;omega
       .exact LV _ _ _
      have gm:=hM5.box;simp only[BS]at gm;obtain⟨c0,d0⟩:=DA (hM5.sl 0 (by omega));obtain⟨c1,d1⟩:=DA (hM5.sl 1 (by omega));obtain⟨c2,d2⟩:=DA (hM5.sl 2 (by omega));obtain⟨c3,d3⟩:=DA (hM5.sl 3 (by omega));obtain⟨c4,d4⟩:=Mu hM5.arr;replace hM3:=AA.mk hM3;replace hM4:=AA.mk hM4;replace hM5:=AA.mk hM5;replace hK:=AA.mk hK;replace hW:=AA.mk hW;replace hds2:=AA.mk hds2
      (repeat' (first|simp only[go_sem, *]|(refine sx ?_ ?_<;>intro hc)|refine sy (by omega) fun x hx hm=>?_|simp(disch:=first|assumption|omega) only[AG]))
      refine cr (s:=st'.d7) (ev:=st'.ev) (w:=st'.work) (DJ hM5.out fun j hj=>?_);rw[get_put,AF (fun e=>(hW.out j hj).2 e.symm),get_put,AF (fun e=>(hW.out j hj).1 e.symm)];rfl
    .obtain⟨n,n1,n2,rfl⟩:=hid.out S (by simp[AD]);rw[Bi,hfl];have tk2: ∀l:List (List AU),List.take i ((A2 i).map AI++l)=(A2 i).map AI:=fun l=>by rw[Lm (by rw[Bi];omega),D6 (by rw[Bi];omega)]
     (repeat' (first|simp only[go_sem, *]|(refine sx ?_ ?_<;>intro hc)|refine sy (by omega) fun x hx hm=>?_|simp(disch:=first|assumption|omega) only[AG]))
     have hM3:Nu p st.bv V (G.put [1,n] (Obj.it 2 ((A2 i).map AI++xs))):=hM.out.mono hV.out fun j hj=>by
      rw[get_put,hj n (by omega)];rfl
     replace hM:=AA.mk hM;refine AW (TV hF.out 401 _ [b+25] [0,0,6] V ⟨Bs,[],0⟩ ⟨p.main,0,A2 i⟩ hM3.rep (fun j hj=>?_) (LQ _ _) ?_ (by dsimp only;omega) (by dsimp only;omega) (by dsimp only;omega) (by simp)) (fun o1 g1 p1=>?_)
     .obtain⟨n,h1,h2,_⟩:=hV.out j hj;cases hx:Id.under [b+25] j with
      |false=>rfl
      |true=>have:=B6 (π:=[]) h2 hx;omega
     .rw[hi.out];exact LP hF.out
     have hdo:Dg p 401 ⟨p.main,0,A2 i⟩ ⟨Bs,[],0⟩=ET p:=by rw[hi.out];rfl
     rw[hdo]at p1;replace hdo:=AA.mk hdo;cases hds:ET p with
     |none=>
      rw[hds]at p1;obtain⟨rfl,p2⟩:=p1;have n01:[0,1] ∉V.ids [0,0,6]:=fun hh=>by obtain⟨n,_,_,q,_⟩:=hV.out _ hh;exact q rfl
      have n03:[0,3] ∉V.ids [0,0,6]:=fun hh=>by obtain⟨n,_,_,_,q⟩:=hV.out _ hh;exact q rfl
      have q01:=((Ag [b+25] g1 [0,1] (BH [] (by omega))).trans (p2 _ n01 (BH [] (by omega)))).trans hM3.x1;have q03:=((Ag [b+25] g1 [0,3] (BH [] (by omega))).trans (p2 _ n03 (BH [] (by omega)))).trans hM3.x3;replace p2:=AA.mk p2;replace hM3:=AA.mk hM3;clear hds
      (repeat' (first|simp only[go_sem, *,CQ]|(refine sx ?_ ?_<;>intro hc)|refine sy (by omega) fun x hx hm=>?_|simp(disch:=first|assumption|omega) only[AG]))
      rfl
     |some st'=>
      have hds2:=hds;rw[hds]at p1;obtain⟨rfl,V2,hM4,hK⟩:=p1;have n01:[0,1] ∉V.ids [0,0,6]:=fun hh=>by obtain⟨n,_,_,q,_⟩:=hV.out _ hh;exact q rfl
      have n03:[0,3] ∉V.ids [0,0,6]:=fun hh=>by obtain⟨n,_,_,_,q⟩:=hV.out _ hh;exact q rfl
      have q01:=((Ag [b+25] g1 [0,1] (BH [] (by omega))).trans (hK.frame _ n01 (BH [] (by omega)))).trans hM3.x1;have q03:=((Ag [b+25] g1 [0,3] (BH [] (by omega))).trans (hK.frame _ n03 (BH [] (by omega)))).trans hM3.x3;have hW: ∀j∈V2.ids [0,0,6],¬j=[0,1]∧ ¬j=[0,3]:=fun j hj=>by
       rcases hK.ids j hj with q|⟨_,l,rfl⟩
       .obtain⟨_,_,_,q⟩:=hV.out j q;exact q
       .exact⟨by simp,by simp⟩
      have hM5:KP p st.bv (gc [b+25] g1) [0,0,6] V2 st':=DJ hM4 fun j hj=>by
       rcases hK.ids j hj with q|⟨_,l,rfl⟩
       .obtain⟨n,h1,h2,_⟩:=hV.out j q;refine Ag _ _ _ ?_;cases hx:Id.under [b+25] j with
        |false=>rfl
        |true=>have:=B6 (π:=[]) h2 hx;omega
       .exact LV _ _ _
      have gm:=hM5.box;simp only[BS]at gm;obtain⟨c0,d0⟩:=DA (hM5.sl 0 (by omega));obtain⟨c1,d1⟩:=DA (hM5.sl 1 (by omega));obtain⟨c2,d2⟩:=DA (hM5.sl 2 (by omega));obtain⟨c3,d3⟩:=DA (hM5.sl 3 (by omega));obtain⟨c4,d4⟩:=Mu hM5.arr;replace hM3:=AA.mk hM3;replace hM4:=AA.mk hM4;replace hM5:=AA.mk hM5;replace hK:=AA.mk hK;replace hW:=AA.mk hW;replace hds2:=AA.mk hds2
      (repeat' (first|simp only[go_sem, *]|(refine sx ?_ ?_<;>intro hc)|refine sy (by omega) fun x hx hm=>?_|simp(disch:=first|assumption|omega) only[AG]))
      refine cr (s:=st'.d7) (ev:=st'.ev) (w:=st'.work) (DJ hM5.out fun j hj=>?_);rw[get_put,AF (fun e=>(hW.out j hj).2 e.symm),get_put,AF (fun e=>(hW.out j hj).1 e.symm)];rfl
theorem PO(p:AK)(mu:Bool)(h:AB)(π:List Nat)(m:Abs.Id)(V:MV)(w:Int)(hm:h.get m=some (.box (BT p mu V w)))(um:Id.under π m=false)(c0:mu=false→(V.s 0).isCell=true)(c1:mu=false→(V.s 1).isCell=true)(c2:mu=false→V.v3.isCell=true)(c3:mu=false→(V.s 2).isCell=true):
 ∃o h',KL Tryz.prog cfg (.fn 88) [.ptr m 0] h π true none=.ok (o,h')∧o=.ret (if mu=true then .f8 [.agg [.ci,.ci,.ci,.ci],.ci,.d (.int .i64 (3))]else .f8 [.agg [V.s 0,V.s 1,V.v3,V.s 2],V.s 3,.d (.int .i64 (0))])∧ ∀id,Id.under π id=false→h'.get id=h.get id:=by
 simp only[BT]at hm;have e1:=AE um;have e2:=AZ um;cases mu
 .replace c0:=c0 rfl;replace c1:=c1 rfl;replace c2:=c2 rfl;replace c3:=c3 rfl
  (refine Aa rfl Tryz.func88 rfl rfl rfl ?_;show Wp _ _ _ _ (Tryz.f88.body.get rfl) _ _;simp only[Tryz.f88,AP])
  (repeat' (first|simp only[go_sem, *]|(refine sx ?_ ?_<;>intro hc)|refine sy (by omega) fun x hx hm=>?_|simp(disch:=first|assumption|omega) only[AG]))
  intro id b;have q1:=AE b;simp only[go_sem,q1,AM]
 .clear c0 c1 c2 c3
  (refine Aa rfl Tryz.func88 rfl rfl rfl ?_;show Wp _ _ _ _ (Tryz.f88.body.get rfl) _ _;simp only[Tryz.f88,AP])
  (repeat' (first|simp only[go_sem, *]|(refine sx ?_ ?_<;>intro hc)|refine sy (by omega) fun x hx hm=>?_|simp(disch:=first|assumption|omega) only[AG]))
  intro id b;have q1:=AE b;simp only[go_sem,q1,AM]
variable{S:Abs.Id}
theorem ed{p:AK}(h0:H.get m=some (.box (BT p false (Je (.d8 S 0 1) .ci .ci .ci .emp m []) 0)))(h2:H.get S=some (.d6 2 [[.int .i64 (-1),.bool false]])):lJ p H m (Je (.d8 S 0 1) .ci .ci .ci .emp m []) ⟨Bs,[],0⟩:=by
 refine⟨h0,.inl ⟨rfl,rfl⟩,fun i hi=>?_,.inl ⟨rfl,rfl⟩,⟨rfl,fun j q hj=>by cases hj⟩,fun id hid=>(by cases hid),by simp[Je],fun _ _ _=>rfl⟩
 match i,hi with
 |0,_=>exact Aq [] rfl h2
 |1,_=>exact .inl ⟨rfl,rfl⟩
 |2,_=>exact .inl (.inl ⟨rfl,rfl⟩)
 |3,_=>exact .inl ⟨rfl,rfl⟩
theorem Kd{m S:Abs.Id}{π:List Nat}(h1:Id.under π m=false)(h2:Id.under π S=false):B4 π (Je (.d8 S 0 1) .ci .ci .ci .emp m []) m:=fun j hj=>by
 rcases(MV.mem _ _ j).1 hj with rfl|rfl|⟨i,hi,h⟩|h|h
 .exact h1
 .exact h1
 .match i,hi with
  |0,_=>simp only[Je,AD,Ac]at h;subst h;exact h2
  |1,_=>simp[Je,AD]at h
  |2,_=>simp[Je,AD]at h
  |3,_=>simp[Je,AD]at h
 .simp[Je,AD]at h
 .simp[Je,AD]at h
theorem JQ{i:Abs.Id}(h1:i≠m)(h2:i≠S):i∉(Je (.d8 S 0 1) .ci .ci .ci .emp m []).ids m:=fun hj=>by
 rcases(MV.mem _ _ i).1 hj with h|h|⟨k,hi,h⟩|h|h
 .exact h1 h
 .exact h1 h
 .match k,hi with
  |0,_=>simp only[Je,AD,Ac]at h;exact h2 h
  |1,_=>simp[Je,AD]at h
  |2,_=>simp[Je,AD]at h
  |3,_=>simp[Je,AD]at h
 .simp[Je,AD]at h
 .simp[Je,AD]at h
theorem SM{i:Abs.Id}(h:i∈(Je (.d8 S 0 1) .ci .ci .ci .emp m []).ids m):i=m∨i=S:=Classical.byContradiction fun hn=>by
 rw[not_or]at hn;exact JQ hn.1 hn.2 h
theorem nC{sz:Nat}{v:AV}(h:vt g sz v es):Di g.get v=some (.d (.be es)):=by
 rcases h with h|⟨rfl,rfl⟩
 .exact V8 h
 .rfl
theorem zl{B:MV→Int→List AV}{id:Abs.Id}(hM:EY B c g id V st):sG (fun o' h'=>uy (o',h')=(Ae.ret (KI (Wy (some st))),[])) (Option.map AV.f8 (Ou (Option.map AV.agg (H0 (Cu g.get (V.s 0)) (H0 (Cu g.get (V.s 1)) (H0 (Cu g.get V.v3) (H0 (Cu g.get (V.s 2)) (some [])))))) (Ou (Di g.get (V.s 3)) (some [.d (.int .i64 0)])))):=by
 have f0:=QO (Q1 (hM.sl 0 (by omega)));have f1:=QO (Q1 (hM.sl 1 (by omega)));have f2:=QO (Q1 (hM.sl 2 (by omega)));have f3:=nC (Q1 (hM.sl 3 (by omega)));have f4:=WC hM.arr hM.ac;simp only[Ad]at f0 f1 f2 f3;rw[f0,f1,f2,f3,f4];rfl
theorem Ur{p:AK}(hF:Bq p sz):BJ (KL Tryz.prog cfg) 46 [pA p] []=.ok (.ret (KI (Wy (ET p))),[]):=by
 have hfo:AA (ET p=Dg p 401 ⟨p.main,0,A2 p.free.length⟩ ⟨Bs,[],0⟩):=⟨rfl⟩;have freeN:p.free.length≤1000000:=by
  have:=hF.small;simp only[AK.small,AS,As]at this;omega
 replace hF:=AA.mk hF
 (refine Ao rfl Tryz.func46 rfl rfl rfl ?_;show Wp _ _ _ _ (Tryz.f46.body.get rfl) _ _;simp only[Tryz.f46,AP])
 (repeat' (first|simp only[go_sem, *]|(refine sx ?_ ?_<;>intro hc)|refine sy (by omega) fun x hx hm=>?_|simp(disch:=first|assumption|omega) only[AG]))
 refine Au p.free (S:=fun i (a:(AV×AB)×Nat)=>⟨[(1,.ptr [0,0] 0),(2,.ptr [0,1] 0),(5,.ptr [0,2] 0),(6,a.1.1),(7,.d (.int .i64 (i)))],a.1.2,a.2,[]⟩)
  (Inv:=fun i rest a=>AA (i=0∧a=((.ci,[([0,0],.box [.d (.be (p.free.map A0)),.d (.be (p.nodes.map Al)),.d (.be (p.defs.map A8)),.d (.int .i64 (p.main))]),([0,1],.box [.ci,.ci,.ci,.ci]),([0,2],.box [.d (.be (p.free.map A0)),.d (.be (p.nodes.map Al)),.d (.be (p.defs.map A8)),.d (.int .i64 (p.main)),.d8 [1,3] 0 1,.ci,.ci,.ci,.ci,.d (.int .i64 (0)),.d (.bool (false))]),([1,3],.d6 2 [[.int .i64 (-1),.bool false]])]),4)∨0<i∧a=((.d8 [1,3] 0 i,[([0,0],.box [.d (.be (p.free.map A0)),.d (.be (p.nodes.map Al)),.d (.be (p.defs.map A8)),.d (.int .i64 (p.main))]),([0,1],.box [.ci,.ci,.ci,.ci]),([0,2],.box [.d (.be (p.free.map A0)),.d (.be (p.nodes.map Al)),.d (.be (p.defs.map A8)),.d (.int .i64 (p.main)),.d8 [1,4] 0 1,.ci,.ci,.ci,.ci,.d (.int .i64 (0)),.d (.bool (false))]),([1,3],.d6 2 ((A2 i).map AI)),([1,4],.d6 2 [[.int .i64 (-1),.bool false]])]),5))) (b0:=((_,_),_)) ⟨.inl ⟨rfl,rfl⟩⟩ ?_ ?_
 .rintro i y a hy hi him hI IH;have hfl:(A2 i).length=i:=by simp[A2]
  have hfs:=AA.mk (SN i);have w1:IntKind.i64.wrap ((i:Int)+1)=(i:Int)+1:=wrap_id (by omega) (by omega);rcases hI.out with⟨rfl,rfl⟩|⟨hi0,rfl⟩
  .clear hI;have h00:(0:Int)<p.free.length:=by omega
   (repeat' (first|simp only[go_sem, *]|(refine sx ?_ ?_<;>intro hc)|refine sy (by omega) fun x hx hm=>?_|simp(disch:=first|assumption|omega) only[AG]))
   exact IH.out ((_,_),_) ⟨.inr ⟨by omega,rfl⟩⟩
  .clear hI;have tk:List.take i ((A2 i).map AI)=(A2 i).map AI:=D6 (by rw[Bi];omega)
   (repeat' (first|simp only[go_sem, *]|(refine sx ?_ ?_<;>intro hc)|refine sy (by omega) fun x hx hm=>?_|simp(disch:=first|assumption|omega) only[AG]))
   refine IH.out ((_,_),_) ⟨.inr ⟨by omega,?_⟩⟩;rw[hfs.out,BV];rfl
 .rintro i a hi him hI;have hfl:(A2 i).length=i:=by simp[A2]
  have gi:=hi.out;have hdo:=AA.mk fun(H:AB) (S:Abs.Id) (hm:H.get [0,2]=some (.box (BT p false (Je (.d8 S 0 1) .ci .ci .ci .emp [0,2] []) 0))) (h2:H.get S=some (.d6 2 [[.int .i64 (-1),.bool false]])) (n:Nat) (hS:Id.under [n] S=false) (h3:Id.under [n] [0,2]=false)=>Vb hF.out 401 H [n] [0,2] _ ⟨Bs,[],0⟩ ⟨p.main,0,A2 p.free.length⟩ (ed hm h2) (Kd h3 hS) (LQ p sz) (LP hF.out) (by dsimp only;omega) (by dsimp only;omega) (by dsimp only;omega) (by simp);rcases hI.out with⟨rfl,rfl⟩|⟨hi0,rfl⟩
  .clear hI;have h00: ¬(0:Int)<p.free.length:=by omega
   have hf0:A2 p.free.length=[]:=by rw[←gi];rfl
   rw[hf0]at hdo;replace gi:=AA.mk gi
   (repeat' (first|simp only[go_sem, *]|(refine sx ?_ ?_<;>intro hc)|refine sy (by omega) fun x hx hm=>?_|simp(disch:=first|assumption|omega) only[AG]))
   refine AW (hdo.out _ [1,3] rfl rfl 13 rfl rfl) (fun o1 g1 p1=>?_);rw[show Dg p 401 ⟨p.main,0,[]⟩ ⟨Bs,[],0⟩=ET p by rw[hfo.out,hf0]]at p1;clear hdo;cases hr:ET p with
   |none=>
    rw[hr]at p1;obtain⟨rfl,⟨V',w,gm⟩,hfr⟩:=p1;replace gm:=(Ag [13] g1 [0,2] rfl).trans gm;have x1:(gc [13] g1).get [0,1]=some (.box [.ci,.ci,.ci,.ci]):=(Ag [13] g1 [0,1] rfl).trans ((hfr [0,1] (JQ (by intro e;cases e) (by intro e;cases e)) rfl).trans rfl);replace gm:=AA.mk gm;replace hfr:=AA.mk hfr;replace hr:=AA.mk hr;simp only[Wy,KI,sA,Gi,Be]
    (repeat' (first|simp only[go_sem, *]|(refine sx ?_ ?_<;>intro hc)|refine sy (by omega) fun x hx hm=>?_|simp(disch:=first|assumption|omega) only[AG]))
    refine AW (PO p true _ _ _ V' w gm.out rfl (by simp) (by simp) (by simp) (by simp)) (fun o2 g2 p2=>?_);obtain⟨rfl,hf2⟩:=p2;have x2:=(Ag [15] g2 [0,1] rfl).trans ((hf2 [0,1] rfl).trans x1);replace hf2:=AA.mk hf2;exact au
   |some st=>
    rw[hr]at p1;obtain⟨rfl,V',hM4,hK⟩:=p1;have hM5:=PW hM4 hK (Kd (S:=[1,3]) (π:=[13]) rfl rfl);have hW: ∀j∈V'.ids [0,2],¬j=[0,1]∧Id.under [15] j=false:=fun j hj=>by
     rcases hK.ids j hj with q|⟨q,l,rfl⟩
     .rcases SM q with rfl|rfl
      .exact⟨(by intro e;cases e),rfl⟩
      .exact⟨(by intro e;cases e),rfl⟩
     .refine⟨(by intro e;cases e),?_⟩;cases hx:Id.under [15] (1::l)with
      |false=>rfl
      |true=>
       have:=B6 (π:=[]) q hx;cases this
    have gm:=hM5.box;have x1:(gc [13] g1).get [0,1]=some (.box [.ci,.ci,.ci,.ci]):=(Ag [13] g1 [0,1] rfl).trans ((hK.frame [0,1] (JQ (by intro e;cases e) (by intro e;cases e)) rfl).trans rfl);obtain⟨c0,d0⟩:=DA (hM5.sl 0 (by omega));obtain⟨c1,d1⟩:=DA (hM5.sl 1 (by omega));obtain⟨c2,d2⟩:=YE (hM5.sl 2 (by omega));obtain⟨c3,d3⟩:=DA (hM5.sl 3 (by omega));obtain⟨c4,d4⟩:=Mu hM5.arr;replace gm:=AA.mk gm;replace hM4:=AA.mk hM4;replace hM5:=AA.mk hM5;replace hK:=AA.mk hK;replace hW:=AA.mk hW;replace hr:=AA.mk hr
    (repeat' (first|simp only[go_sem, *]|(refine sx ?_ ?_<;>intro hc)|refine sy (by omega) fun x hx hm=>?_|simp(disch:=first|assumption|omega) only[AG]))
    refine AW (PO p false _ _ _ V' st.work gm.out rfl (fun _=>c0) (fun _=>c1) (fun _=>c4) (fun _=>c2)) (fun o2 g2 p2=>?_);obtain⟨rfl,hf2⟩:=p2;have x2:=(Ag [15] g2 [0,1] rfl).trans ((hf2 [0,1] rfl).trans x1);replace hf2:=AA.mk hf2
    (repeat' (first|simp only[go_sem, *]|(refine sx ?_ ?_<;>intro hc)|refine sy (by omega) fun x hx hm=>?_|simp(disch:=first|assumption|omega) only[AG]))
    refine zl (DJ hM5.out fun j hj=>?_);obtain⟨w1,w2⟩:=hW.out j hj;rw[get_put,AF (fun e=>w1 e.symm),Ag _ _ _ w2,hf2.out j w2];rfl
  .clear hI;rw[←gi]at hdo;have tk:List.take i ((A2 i).map AI)=(A2 i).map AI:=D6 (by rw[Bi];omega);replace gi:=AA.mk gi
   (repeat' (first|simp only[go_sem, *]|(refine sx ?_ ?_<;>intro hc)|refine sy (by omega) fun x hx hm=>?_|simp(disch:=first|assumption|omega) only[AG]))
   refine AW (hdo.out _ [1,4] rfl rfl 14 rfl rfl) (fun o1 g1 p1=>?_);rw[show Dg p 401 ⟨p.main,0,A2 i⟩ ⟨Bs,[],0⟩=ET p by rw[hfo.out,gi.out]]at p1;clear hdo;cases hr:ET p with
   |none=>
    rw[hr]at p1;obtain⟨rfl,⟨V',w,gm⟩,hfr⟩:=p1;replace gm:=(Ag [14] g1 [0,2] rfl).trans gm;have x1:(gc [14] g1).get [0,1]=some (.box [.ci,.ci,.ci,.ci]):=(Ag [14] g1 [0,1] rfl).trans ((hfr [0,1] (JQ (by intro e;cases e) (by intro e;cases e)) rfl).trans rfl);replace gm:=AA.mk gm;replace hfr:=AA.mk hfr;replace hr:=AA.mk hr;simp only[Wy,KI,sA,Gi,Be]
    (repeat' (first|simp only[go_sem, *]|(refine sx ?_ ?_<;>intro hc)|refine sy (by omega) fun x hx hm=>?_|simp(disch:=first|assumption|omega) only[AG]))
    refine AW (PO p true _ _ _ V' w gm.out rfl (by simp) (by simp) (by simp) (by simp)) (fun o2 g2 p2=>?_);obtain⟨rfl,hf2⟩:=p2;have x2:=(Ag [16] g2 [0,1] rfl).trans ((hf2 [0,1] rfl).trans x1);replace hf2:=AA.mk hf2;exact au
   |some st=>
    rw[hr]at p1;obtain⟨rfl,V',hM4,hK⟩:=p1;have hM5:=PW hM4 hK (Kd (S:=[1,4]) (π:=[14]) rfl rfl);have hW: ∀j∈V'.ids [0,2],¬j=[0,1]∧Id.under [16] j=false:=fun j hj=>by
     rcases hK.ids j hj with q|⟨q,l,rfl⟩
     .rcases SM q with rfl|rfl
      .exact⟨(by intro e;cases e),rfl⟩
      .exact⟨(by intro e;cases e),rfl⟩
     .refine⟨(by intro e;cases e),?_⟩;cases hx:Id.under [16] (1::l)with
      |false=>rfl
      |true=>
       have:=B6 (π:=[]) q hx;cases this
    have gm:=hM5.box;have x1:(gc [14] g1).get [0,1]=some (.box [.ci,.ci,.ci,.ci]):=(Ag [14] g1 [0,1] rfl).trans ((hK.frame [0,1] (JQ (by intro e;cases e) (by intro e;cases e)) rfl).trans rfl);obtain⟨c0,d0⟩:=DA (hM5.sl 0 (by omega));obtain⟨c1,d1⟩:=DA (hM5.sl 1 (by omega));obtain⟨c2,d2⟩:=YE (hM5.sl 2 (by omega));obtain⟨c3,d3⟩:=DA (hM5.sl 3 (by omega));obtain⟨c4,d4⟩:=Mu hM5.arr;replace gm:=AA.mk gm;replace hM4:=AA.mk hM4;replace hM5:=AA.mk hM5;replace hK:=AA.mk hK;replace hW:=AA.mk hW;replace hr:=AA.mk hr
    (repeat' (first|simp only[go_sem, *]|(refine sx ?_ ?_<;>intro hc)|refine sy (by omega) fun x hx hm=>?_|simp(disch:=first|assumption|omega) only[AG]))
    refine AW (PO p false _ _ _ V' st.work gm.out rfl (fun _=>c0) (fun _=>c1) (fun _=>c4) (fun _=>c2)) (fun o2 g2 p2=>?_);obtain⟨rfl,hf2⟩:=p2;have x2:=(Ag [16] g2 [0,1] rfl).trans ((hf2 [0,1] rfl).trans x1);replace hf2:=AA.mk hf2
    (repeat' (first|simp only[go_sem, *]|(refine sx ?_ ?_<;>intro hc)|refine sy (by omega) fun x hx hm=>?_|simp(disch:=first|assumption|omega) only[AG]))
    refine zl (DJ hM5.out fun j hj=>?_);obtain⟨w1,w2⟩:=hW.out j hj;rw[get_put,AF (fun e=>w1 e.symm),Ag _ _ _ w2,hf2.out j w2];rfl
theorem Il(a:List CZ)(ha:a.length≤1000000):BJ (KL Tryz.prog cfg) 57 [.d (.be (a.map AI)),.d (.be (a.map AI))] []=.ok (.ret (.d (.bool (true))),[]):=by
 (refine Ao rfl Tryz.func57 rfl rfl rfl ?_;show Wp _ _ _ _ (Tryz.f57.body.get rfl) _ _;simp only[Tryz.f57,AP])
 refine aw ?_;refine Au a (S:=fun i (_:Unit)=>⟨[(0,.d (.be (a.map AI))),(1,.d (.be (a.map AI))),(5,.d (.int .i64 (i)))],[],0,[]⟩)
  (Inv:=fun i rest _=>True) (b0:=()) trivial ?_ ?_
 .rintro i y _ hy hi him hI IH;have hil:i<a.length:=by omega
  have w1:IntKind.i64.wrap ((i:Int)+1)=(i:Int)+1:=wrap_id (by omega) (by omega);refine aw ?_;exact IH.out () trivial
 .rintro i _ hi him hI;exact au
theorem UQ(a:List (List CZ))(ha:a.length≤1000000)(hm: ∀m∈a,m.length≤1000000):BJ (KL Tryz.prog cfg) 37 [.d (.be (a.map CU)),.d (.be (a.map CU))] []=.ok (.ret (.d (.bool (true))),[]):=by
 replace hm:=AA.mk hm
 (refine Ao rfl Tryz.func37 rfl rfl rfl ?_;show Wp _ _ _ _ (Tryz.f37.body.get rfl) _ _;simp only[Tryz.f37,AP])
 refine aw ?_;refine Au a (S:=fun i (_:Unit)=>⟨[(0,.d (.be (a.map CU))),(1,.d (.be (a.map CU))),(5,.d (.int .i64 (i)))],[],0,[]⟩)
  (Inv:=fun i rest _=>True) (b0:=()) trivial ?_ ?_
 .rintro i y _ hy hi him hI IH;have hil:i<a.length:=by omega
  have w1:IntKind.i64.wrap ((i:Int)+1)=(i:Int)+1:=wrap_id (by omega) (by omega);have hv:=Il y (hm.out y (Ap hy));refine aw ?_;exact IH.out () trivial
 .rintro i _ hi him hI;exact au
structure CW.fits(s:CW):Prop where
 am:s.am.length≤1000000
 ce:s.ce.length≤1000000
 ac:s.ac.length≤1000000
 waits:s.waits.length≤1000000
 envs: ∀g∈s.ce,g.env.length≤1000000
 ques: ∀q∈s.ac,q.queue.length≤1000000∧ ∀m∈q.queue,m.length≤1000000
 wenv: ∀w∈s.waits,w.env.length≤1000000
theorem cv(s:CW)(h:s.fits):BJ (KL Tryz.prog cfg) 23 [sA s,sA s] []=.ok (.ret (.d (.bool (true))),[]):=by
 obtain⟨h1,h2,h3,h4,h5,h6,h7⟩:=h;replace h5:=AA.mk h5;replace h6:=AA.mk h6;replace h7:=AA.mk h7
 (refine Ao rfl Tryz.func23 rfl rfl rfl ?_;show Wp _ _ _ _ (Tryz.f23.body.get rfl) _ _;simp only[Tryz.f23,AP])
 refine aw ?_;refine Au s.am (S:=fun i (_:Unit)=>⟨[(2,.ptr [0,0] 0),(3,.ptr [0,1] 0),(5,.d (.int .i64 (i)))],[([0,0],.box [.d (.be (s.am.map A9)),.d (.be (s.ce.map BG)),.d (.be (s.ac.map Cy)),.d (.be (s.waits.map Bh))]),([0,1],.box [.d (.be (s.am.map A9)),.d (.be (s.ce.map BG)),.d (.be (s.ac.map Cy)),.d (.be (s.waits.map Bh))])],2,[]⟩)
  (Inv:=fun i rest _=>True) (b0:=()) trivial ?_ ?_
 .rintro i y _ hy hi him hI IH;have hil:i<s.am.length:=by omega
  have hbb:(y.dead==y.dead)=true:=by simp
  have w1:IntKind.i64.wrap ((i:Int)+1)=(i:Int)+1:=wrap_id (by omega) (by omega);refine aw ?_;exact IH.out () trivial
 rintro i _ hi him hI;clear hi;refine aw ?_;refine Au s.ce (S:=fun i (_:Unit)=>⟨[(2,.ptr [0,0] 0),(3,.ptr [0,1] 0),(6,.d (.int .i64 (i)))],[([0,0],.box [.d (.be (s.am.map A9)),.d (.be (s.ce.map BG)),.d (.be (s.ac.map Cy)),.d (.be (s.waits.map Bh))]),([0,1],.box [.d (.be (s.am.map A9)),.d (.be (s.ce.map BG)),.d (.be (s.ac.map Cy)),.d (.be (s.waits.map Bh))])],2,[]⟩)
  (Inv:=fun i rest _=>True) (b0:=()) trivial ?_ ?_
 .rintro i y _ hy hi him hI IH;have hil:i<s.ce.length:=by omega
  have w1:IntKind.i64.wrap ((i:Int)+1)=(i:Int)+1:=wrap_id (by omega) (by omega);have hv:=Il y.env (h5.out y (Ap hy));refine aw ?_;exact IH.out () trivial
 rintro i _ hi him hI;clear hi;refine aw ?_;refine Au s.ac (S:=fun i (_:Unit)=>⟨[(2,.ptr [0,0] 0),(3,.ptr [0,1] 0),(7,.d (.int .i64 (i)))],[([0,0],.box [.d (.be (s.am.map A9)),.d (.be (s.ce.map BG)),.d (.be (s.ac.map Cy)),.d (.be (s.waits.map Bh))]),([0,1],.box [.d (.be (s.am.map A9)),.d (.be (s.ce.map BG)),.d (.be (s.ac.map Cy)),.d (.be (s.waits.map Bh))])],2,[]⟩)
  (Inv:=fun i rest _=>True) (b0:=()) trivial ?_ ?_
 .rintro i y _ hy hi him hI IH;have hil:i<s.ac.length:=by omega
  have w1:IntKind.i64.wrap ((i:Int)+1)=(i:Int)+1:=wrap_id (by omega) (by omega);have hv:=UQ y.queue (h6.out y (Ap hy)).1 (h6.out y (Ap hy)).2;refine aw ?_;exact IH.out () trivial
 rintro i _ hi him hI;clear hi;refine aw ?_;refine Au s.waits (S:=fun i (_:Unit)=>⟨[(2,.ptr [0,0] 0),(3,.ptr [0,1] 0),(8,.d (.int .i64 (i)))],[([0,0],.box [.d (.be (s.am.map A9)),.d (.be (s.ce.map BG)),.d (.be (s.ac.map Cy)),.d (.be (s.waits.map Bh))]),([0,1],.box [.d (.be (s.am.map A9)),.d (.be (s.ce.map BG)),.d (.be (s.ac.map Cy)),.d (.be (s.waits.map Bh))])],2,[]⟩)
  (Inv:=fun i rest _=>True) (b0:=()) trivial ?_ ?_
 .rintro i y _ hy hi him hI IH;have hil:i<s.waits.length:=by omega
  have w1:IntKind.i64.wrap ((i:Int)+1)=(i:Int)+1:=wrap_id (by omega) (by omega);have hv:=Il y.env (h7.out y (Ap hy));refine aw ?_;exact IH.out () trivial
 rintro i _ hi him hI;clear hi;exact au
theorem L1(l:List KD)(hl:l.length≤1000000)(hv: ∀e∈l,e.of.length≤1000000):BJ (KL Tryz.prog cfg) 24 [.d (.be (l.map Hx)),.d (.be (l.map Hx))] []=.ok (.ret (.d (.bool (true))),[]):=by
 replace hv:=AA.mk hv
 (refine Ao rfl Tryz.func24 rfl rfl rfl ?_;show Wp _ _ _ _ (Tryz.f24.body.get rfl) _ _;simp only[Tryz.f24,AP])
 refine aw ?_;refine Au l (S:=fun i (_:Unit)=>⟨[(0,.d (.be (l.map Hx))),(1,.d (.be (l.map Hx))),(5,.d (.int .i64 (i)))],[],0,[]⟩)
  (Inv:=fun i rest _=>True) (b0:=()) trivial ?_ ?_
 .rintro i y _ hy hi him hI IH;have hil:i<l.length:=by omega
  have w1:IntKind.i64.wrap ((i:Int)+1)=(i:Int)+1:=wrap_id (by omega) (by omega);have hv:=Il y.of (hv.out y (Ap hy));refine aw ?_;exact IH.out () trivial
 .rintro i _ hi him hI;clear hi;exact au
end Go.Proofs
