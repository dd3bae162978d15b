/-
  Parts: SolR8b SolR8 SolR9 SolH1 SolN2 SolH2 SolF1 SolH3 SolF2 SolH4 SolJ3 SolJ4 SolG10 SolJ5 SolG11 SolJ6 SolF3 SolF4 SolF5 SolJ7 SolL6 SolC5 SolC6 SolC7 SolH5 SolG12.
-/
import Derived.Test.YtbinfhpngacfgaaGreatSt10
import Derived.Test.YtbinfhpngacfgaaGreatSt11
set_option linter.all false
set_option linter.unusedSimpArgs false
set_option linter.unusedVariables false
namespace Go.Proofs
open Go Go.Abs
set_option maxRecDepth 100000
set_option maxHeartbeats 4000000
theorem gk{p:AJ}{sz:List Int}{k:Nat}(hF:BO p sz)(IH0:H7 p sz k){h:AB}{π:List Nat}{m:Abs.Id}{V:MV}{st:CU}(hM:EE p sz h m V st)(hu:CF π V m)(hI:OD p sz k st){j:Gl}{x:Cd}{d:CH}(hd:E6 p sz st.sol j x d){G:Ah}(hG:G=Ad st.sol d x.n j)
 {e:BS} {g:AB} {b:Nat} {ev:AV} (en0:e.get 0=.ptr m 0) (en3:e.get 3=.ptr (0::0::π) 0) (en4:e.get 4=.ptr (0::10::π) 0) (en5:e.get 5=.ptr (0::21::π) 0) (en6:e.get 6=.ptr (0::31::π) 0) (k1: ∀id,Id.under π id=false→g.get id=h.get id)
 (k2:g.get (0::0::π)=some (.box [.d (.int .i64 (j.node)),.d (.int .i64 (j.at_)),.d (.lst (j.env.map AN))])) (k3:g.get (0::10::π)=some (.box [.d (.int .i64 (x.op)),.d (.int .i64 (x.n)),.d (.lst (x.args.map Bs)),.d (.lst (x.kids.map AO))])) (k4:g.get (0::21::π)=some (.box [.d (.lst (d.chans.map BK)),.d (.lst (d.spots.map BB)),.d (.lst (d.rules.map BJ))])) (k5:g.get (0::31::π)=some (.box [.d (.int .i64 (x.n)),.d (.int .i64 (j.at_)),ev])) (kl2:NB π g (b+43) ev G.env):
 Wp cfg (KL Tryz.prog cfg) ⟨112,π,true,none,false,204⟩ 0 (zl 6 (Tryz.f112.body.get rfl)) ⟨e,g,b+43,[]⟩ (Qp cfg none [] π true (EU p sz π m V h (Mc (Fg p k) (HZ p x j st)))):=by
 have um:=hu m (V.m_mem m);have e1:=AG um;have e2:=Ar um;have d1:=hd.ok.chans;have d2:=hd.ok.spots;have hGd:G.def_=x.n:=by rw[hG];rfl
 have hGa:G.at_=j.at_:=by rw[hG];rfl
 have hmS:=hI.sok.small;simp only[A8.small,Bool.and_eq_true,decide_eq_true_eq]at hmS;obtain⟨s1,s2,s3,s4⟩:=hmS;obtain⟨ng,hng⟩: ∃n,n=st.sol.groups.length:=⟨_,rfl⟩;obtain⟨n3,hn3⟩: ∃n,n=st.sol.chans.length:=⟨_,rfl⟩;obtain⟨n0,hn0⟩: ∃n,n=st.sol.spots.length:=⟨_,rfl⟩;have s2':ng≤40:=by omega
 obtain⟨NC,hNC⟩: ∃l,l=Ed d G ng 0 d.chans:=⟨_,rfl⟩;have hNCa: ∀(t:Nat) c,d.chans[t]? =some c→NC[t]? =some ⟨ng,t,G.place d c.at_,[]⟩:=fun t c hc=>by rw[hNC,JJ,hc];simp
 have hplace:=AA.mk (UD (m:=m) hF hd hG);have hR:AA (B9 p sz π m V h (b+43) V st g):=⟨(O0 hM hu k1).up (by omega)⟩;refine uZ 3 fun T hT=>?_;have hend:AA (∀(e:BS) (H:AB) (c:Nat),e.get 0=.ptr m 0→e.get 3=.ptr (0::0::π) 0→e.get 4=.ptr (0::10::π) 0→e.get 5=.ptr (0::21::π) 0→e.get 6=.ptr (0::31::π) 0→(∃V2,B9 p sz π m V h (c+66) V2 {st with sol:=B5 st.sol d G} H∧ ∀i∈AE ev,i∉V2.ids m)→H.get (0::0::π)=some (.box [.d (.int .i64 (j.node)),.d (.int .i64 (j.at_)),.d (.lst (j.env.map AN))])→H.get (0::10::π)=some (.box [.d (.int .i64 (x.op)),.d (.int .i64 (x.n)),.d (.lst (x.args.map Bs)),.d (.lst (x.kids.map AO))])→H.get (0::21::π)=some (.box [.d (.lst (d.chans.map BK)),.d (.lst (d.spots.map BB)),.d (.lst (d.rules.map BJ))])→H.get (0::31::π)=some (.box [.d (.int .i64 (x.n)),.d (.int .i64 (j.at_)),ev])→Za π H (c+66) ev G.env→Wp cfg (KL Tryz.prog cfg) ⟨112,π,true,none,false,204⟩ 0 T ⟨e,H,c+66,[]⟩ (Qp cfg none [] π true (EU p sz π m V h (Mc (Fg p k) (HZ p x j st))))):=⟨fun e H c x0 x3 x4 x5 x6 hr y2 y3 y4 y5 hf=>by
  obtain⟨V2,hr,hv⟩:=hr;rw[hT];exact gj hF IH0 hu hI hd hG x0 x3 x4 x5 x6 (by omega) hr hv y2 y3 y4 y5 hf⟩
 replace hT:=AA.mk hT;replace hM:=AA.mk hM;replace hu:=AA.mk hu;replace hd:=AA.mk hd;replace hI:=AA.mk hI;replace hG:=AA.mk hG;replace hng:=AA.mk hng;replace hn3:=AA.mk hn3;replace hn0:=AA.mk hn0;replace hNC:=AA.mk hNC;replace hNCa:=AA.mk hNCa;replace k1:=AA.mk k1;simp only[Tryz.f112,Option.get_some,zl,gZ];refine aw ?_;clear en0 en3 en4 en5 en6;refine AX d.chans _ (S:=fun m' i (a:AB×Nat)=>⟨[(0,.ptr m 0),(3,.ptr (0::0::π) 0),(4,.ptr (0::10::π) 0),(5,.ptr (0::21::π) 0),(6,.ptr (0::31::π) 0),(84,.d (.lst (d.chans.map BK))),(85,.d (.int .i64 (m'))),(86,.d (.int .i64 (i)))],a.1,a.2+47,[]⟩)
  (Inv:=fun i rest a=>AA (∃V',B9 p sz π m V h (a.2+47) V' {st with sol:={st.sol with chans:=st.sol.chans++NC.take i}} a.1∧ ∀i∈AE ev,i∉V'.ids m)∧a.1.get (0::0::π)=some (.box [.d (.int .i64 (j.node)),.d (.int .i64 (j.at_)),.d (.lst (j.env.map AN))])∧a.1.get (0::10::π)=some (.box [.d (.int .i64 (x.op)),.d (.int .i64 (x.n)),.d (.lst (x.args.map Bs)),.d (.lst (x.kids.map AO))])∧a.1.get (0::21::π)=some (.box [.d (.lst (d.chans.map BK)),.d (.lst (d.spots.map BB)),.d (.lst (d.rules.map BJ))])∧a.1.get (0::31::π)=some (.box [.d (.int .i64 (x.n)),.d (.int .i64 (j.at_)),ev])∧AA (NB π a.1 (a.2+47) ev G.env)) (b0:=(_,b)) rfl ⟨⟨V,by simpa using hR.out.up (by omega),rV kl2 hu.out⟩,k2,k3,k4,k5,⟨P3 kl2 (by omega)⟩⟩ ?_ ?_
 .clear hR kl2 k1 k2 k3 k4 k5 g b;rintro i y ⟨g,b⟩ hy hi him ⟨hR,k2,k3,k4,k5,kl⟩ IH;dsimp only at*;obtain⟨V',hR,hev⟩:=hR.out;have hevn:=Mm kl.out (b+81);have hpy:=hd.out.ok.chan y (List.mem_of_getElem? hy);have gm:=hR.rep.box;have hpl:=fun(H:AB) (n:Nat) (hH:H.get m=g.get m)=>hplace.out H (n::π) V' st.work (hH.trans gm) (AF um n) y.at_ hpy.1 hpy.2.1;replace hpl:=AA.mk hpl;simp only[Aj]at gm;have hl1:=Gy (hR.rep.sl 1 (by omega));simp only[Aw,List.length_map,←hng.out]at hl1;have hv3:=hR.rep.arr;have hA3:AA (∀A,V'.v3=.osl A 0 V'.rows.length→(∀a n,b+47≤n→Id.is (a::n::π) A=false)∧(∀a n,b+47≤n→Id.is A (a::n::π)=false)∧Id.is A m=false∧Id.is m A=false∧ ∀k,Id.is A (0::k::π)=false):=⟨fun A hA=>by
   have hi:=hR.ids A (V'.v3_mem m (by rw[hA];simp[AE]));have hg:=Gq hR.rep.arr (id:=A) (by rw[hA];simp[AE]);exact⟨Eo (b':=0) hu.out hi,Jt hu.out hi,AD fun e=>(by rw[e,gm]at hg;cases hg),AD fun e=>(by rw[←e,gm]at hg;cases hg),fun k=>AD fun e=>Gp hR hu.out k (by rw[←e];exact V'.v3_mem m (by rw[hA];simp[AE]))⟩⟩
  have hrl:V'.rows.length≤1000:=by
   have:=hR.rep.chans.len;simp only[List.length_append,List.length_take]at this;omega
  have hgo:AA (∀H:AB,H.get m=some (.box (Aj p sz {V' with v3:=.osl (1::(b+74)::π) 0 (V'.rows.length+1)} st.work))→H.get (1::(b+74)::π)=some (.arr 4 (V'.rows++[Aq ⟨ng,i,G.place d y.at_,[]⟩ .nils]))→(∀id,Id.is m id=false→(∀id2∈AE V'.v3,Id.is id2 id=false)→HB (b+47) (b+81) π id=false→H.get id=g.get id)→ ∃V2,B9 p sz π m V h (b+81) V2 {st with sol:={st.sol with chans:=st.sol.chans++NC.take (i+1)}} H∧ ∀i∈AE ev,i∉V2.ids m):=⟨fun H a1 a0 a4=>by
   obtain⟨V2,z1,z2⟩:=hR.step (b':=b+81) (by omega) (pW hR.rep (hR.apartB hu.out) (q:=⟨ng,i,G.place d y.at_,[]⟩) rfl (1::(b+74)::π) H a1 a0 ⟨KO (b+74) [1] (by omega) (by omega),_,rfl⟩ a4);rw[List.take_add_one,hNCa.out i y hy,←List.append_assoc];exact⟨V2,z1,fun i hi=>z2 i (hev i hi) (hevn i hi)⟩⟩
  replace hevn:=AA.mk hevn;replace hev:=AA.mk hev;replace hR:=AA.mk hR;replace kl:=kl.out;rcases kl with⟨hz,rfl⟩|⟨id,rfl,hg,n,hnb,hun,hl⟩
  .have hpl2:=hpl.out;rw[hz,List.map_nil]at hpl2;replace hpl2:=AA.mk hpl2;replace hz:=AA.mk hz;rcases hv3 with⟨hv3,hr0⟩|⟨A,hv3,gA⟩
   .rw[hv3]at gm
    (repeat' (first|simp only[go_sem, *,↓hl1,Bool.false_eq_true]|(refine sx ?_ ?_<;>intro hc)|refine sy (by omega) fun x hx hm=>?_|simp(disch:=first|assumption|omega) only[wrap_id,AK,AH,slice_int]))
    refine Cm (hpl2.out _ _ ?_) (fun o1 g1 p1=>?_)
    .simp only[go_sem,e1,Bool.false_eq_true]
    subst p1
    (repeat' (first|simp only[go_sem, *,↓hl1,Bool.false_eq_true]|(refine sx ?_ ?_<;>intro hc)|refine sy (by omega) fun x hx hm=>?_|simp(disch:=first|assumption|omega) only[wrap_id,AK,AH,slice_int]))
    refine IH.out (_,_) ⟨⟨hgo.out _ ?_ ?_ fun id b1 b2 b3=>?_⟩,?_,?_,?_,?_,⟨.inl ⟨hz.out,rfl⟩⟩⟩
    .rw[hr0];simp only[go_sem,Aj];first|done|rfl
    .rw[hr0];simp only[go_sem,e2,Bool.false_eq_true];rfl
    .have q5:=Cw b3;simp only[go_sem,q5,b1,Bool.false_eq_true]
    .simp only[go_sem,k2,e2,Bool.false_eq_true]
    .simp only[go_sem,k3,e2,Bool.false_eq_true]
    .simp only[go_sem,k4,e2,Bool.false_eq_true]
    .simp only[go_sem,k5,e2,Bool.false_eq_true]
   .obtain⟨q1,q2,q3,q4,q5⟩:=hA3.out A hv3;rw[hv3]at gm
    (repeat' (first|simp only[go_sem, *,↓hl1,List.take_length,Bool.false_eq_true]|(refine sx ?_ ?_<;>intro hc)|refine sy (by omega) fun x hx hm=>?_|simp(disch:=first|assumption|omega) only[wrap_id,AK,AH,slice_int]))
    refine Cm (hpl2.out _ _ ?_) (fun o1 g1 p1=>?_)
    .simp only[go_sem,e1,Bool.false_eq_true,q1,q2,q3,q4,q5]
    subst p1
    (repeat' (first|simp only[go_sem, *,↓hl1,List.take_length,Bool.false_eq_true]|(refine sx ?_ ?_<;>intro hc)|refine sy (by omega) fun x hx hm=>?_|simp(disch:=first|assumption|omega) only[wrap_id,AK,AH,slice_int]))
    refine IH.out (_,_) ⟨⟨hgo.out _ ?_ ?_ fun id2 b1 b2 b3=>?_⟩,?_,?_,?_,?_,⟨.inl ⟨hz.out,rfl⟩⟩⟩
    .simp only[go_sem,Aj,Bool.false_eq_true,q1,q2,q3,q4,q5];first|done|rfl
    .simp only[go_sem,e2,Aq,Bool.false_eq_true,q1,q2,q3,q4,q5];first|done|rfl
    .have q6:=Cw b3;have q7:=b2 A (by rw[hv3];simp[AE]);simp only[go_sem,q6,b1,q7,Bool.false_eq_true]
    .simp only[go_sem,k2,e2,Bool.false_eq_true,q1,q2,q3,q4,q5]
    .simp only[go_sem,k3,e2,Bool.false_eq_true,q1,q2,q3,q4,q5]
    .simp only[go_sem,k4,e2,Bool.false_eq_true,q1,q2,q3,q4,q5]
    .simp only[go_sem,k5,e2,Bool.false_eq_true,q1,q2,q3,q4,q5]
  .obtain⟨f1,f2,f3,f4⟩:=FU hnb hun hl;have mi:Id.is m id=false:=AD fun e=>by rw[←e,gm]at hg;cases hg
   have im:Id.is id m=false:=AD fun e=>by rw[e,gm]at hg;cases hg
   replace hun:=AA.mk hun;replace hl:=AA.mk hl;rcases hv3 with⟨hv3,hr0⟩|⟨A,hv3,gA⟩
   .rw[hv3]at gm
    (repeat' (first|simp only[go_sem, *,↓hl1,List.take_length,Bool.false_eq_true]|(refine sx ?_ ?_<;>intro hc)|refine sy (by omega) fun x hx hm=>?_|simp(disch:=first|assumption|omega) only[wrap_id,AK,AH,slice_int]))
    refine Cm (hpl.out _ _ ?_) (fun o1 g1 p1=>?_)
    .simp only[go_sem,e1,Bool.false_eq_true,f1,f2,f3,f4,mi,im]
    subst p1
    (repeat' (first|simp only[go_sem, *,↓hl1,List.take_length,Bool.false_eq_true]|(refine sx ?_ ?_<;>intro hc)|refine sy (by omega) fun x hx hm=>?_|simp(disch:=first|assumption|omega) only[wrap_id,AK,AH,slice_int]))
    refine IH.out (_,_) ⟨⟨hgo.out _ ?_ ?_ fun id2 b1 b2 b3=>?_⟩,?_,?_,?_,?_,⟨.inr ⟨id,rfl,?_,n,by omega,hun.out,hl.out⟩⟩⟩
    .rw[hr0];simp only[go_sem,Aj,Bool.false_eq_true,f1,f2,f3,f4,mi,im];first|done|rfl
    .rw[hr0];simp only[go_sem,e2,Aq,Bool.false_eq_true,f1,f2,f3,f4,mi,im];first|done|rfl
    .have q6:=Cw b3;simp only[go_sem,q6,b1,Bool.false_eq_true]
    .simp only[go_sem,k2,e2,Bool.false_eq_true,f1,f2,f3,f4,mi,im]
    .simp only[go_sem,k3,e2,Bool.false_eq_true,f1,f2,f3,f4,mi,im]
    .simp only[go_sem,k4,e2,Bool.false_eq_true,f1,f2,f3,f4,mi,im]
    .simp only[go_sem,k5,e2,Bool.false_eq_true,f1,f2,f3,f4,mi,im]
    .simp only[go_sem,hg,Bool.false_eq_true,f1,f2,f3,f4,mi,im]
   .obtain⟨q1,q2,q3,q4,q5⟩:=hA3.out A hv3;rw[hv3]at gm;have Ai:Id.is A id=false:=AD fun e=>by rw[e,hg]at gA;cases gA
    have iA:Id.is id A=false:=AD fun e=>by rw[←e,hg]at gA;cases gA
    (repeat' (first|simp only[go_sem, *,↓hl1,List.take_length,Bool.false_eq_true]|(refine sx ?_ ?_<;>intro hc)|refine sy (by omega) fun x hx hm=>?_|simp(disch:=first|assumption|omega) only[wrap_id,AK,AH,slice_int]))
    refine Cm (hpl.out _ _ ?_) (fun o1 g1 p1=>?_)
    .simp only[go_sem,e1,Bool.false_eq_true,f1,f2,f3,f4,mi,im,q1,q2,q3,q4,q5,Ai,iA]
    subst p1
    (repeat' (first|simp only[go_sem, *,↓hl1,List.take_length,Bool.false_eq_true]|(refine sx ?_ ?_<;>intro hc)|refine sy (by omega) fun x hx hm=>?_|simp(disch:=first|assumption|omega) only[wrap_id,AK,AH,slice_int]))
    refine IH.out (_,_) ⟨⟨hgo.out _ ?_ ?_ fun id2 b1 b2 b3=>?_⟩,?_,?_,?_,?_,⟨.inr ⟨id,rfl,?_,n,by omega,hun.out,hl.out⟩⟩⟩
    .simp only[go_sem,Aj,Bool.false_eq_true,f1,f2,f3,f4,mi,im,q1,q2,q3,q4,q5,Ai,iA];first|done|rfl
    .simp only[go_sem,e2,Aq,Bool.false_eq_true,f1,f2,f3,f4,mi,im,q1,q2,q3,q4,q5,Ai,iA];first|done|rfl
    .have q6:=Cw b3;have q7:=b2 A (by rw[hv3];simp[AE]);simp only[go_sem,q6,b1,q7,Bool.false_eq_true]
    .simp only[go_sem,k2,e2,Bool.false_eq_true,f1,f2,f3,f4,mi,im,q1,q2,q3,q4,q5,Ai,iA]
    .simp only[go_sem,k3,e2,Bool.false_eq_true,f1,f2,f3,f4,mi,im,q1,q2,q3,q4,q5,Ai,iA]
    .simp only[go_sem,k4,e2,Bool.false_eq_true,f1,f2,f3,f4,mi,im,q1,q2,q3,q4,q5,Ai,iA]
    .simp only[go_sem,k5,e2,Bool.false_eq_true,f1,f2,f3,f4,mi,im,q1,q2,q3,q4,q5,Ai,iA]
    .simp only[go_sem,hg,Bool.false_eq_true,f1,f2,f3,f4,mi,im,q1,q2,q3,q4,q5,Ai,iA]
 .clear hR kl2 k1 k2 k3 k4 k5 g b;rintro i ⟨g,b⟩ hi him ⟨hR,k2,k3,k4,k5,kl⟩;dsimp only at*;have gi:=hi.out;subst gi;clear hi;have hNCl:NC.length=d.chans.length:=by rw[hNC.out,GH]
  rw[←hNCl,List.take_length]at hR;obtain⟨V0,hR0,hev0⟩:=hR.out;clear hR;replace hev0:=AA.mk hev0;replace hR0:=AA.mk hR0;have kl2:=kl;clear kl;refine aw ?_;obtain⟨NS,hNS⟩: ∃l,l=Cx d G d.spots:=⟨_,rfl⟩;have hNSa: ∀(t:Nat) c,d.spots[t]? =some c→NS[t]? =some ⟨G.place d c.in_,false⟩:=fun t c hc=>by rw[hNS,Cx,List.getElem?_map,hc];rfl
  have hNSl:NS.length=d.spots.length:=by rw[hNS,En]
  have hn1:1≤n0:=by rw[hn0.out];exact hI.out.sok.tree.pos
  replace hNS:=AA.mk hNS;replace hNSa:=AA.mk hNSa;replace hNCl:=AA.mk hNCl;replace hNSl:=AA.mk hNSl;refine AX d.spots _ (S:=fun m' i (a:AB×Nat)=>⟨[(0,.ptr m 0),(3,.ptr (0::0::π) 0),(4,.ptr (0::10::π) 0),(5,.ptr (0::21::π) 0),(6,.ptr (0::31::π) 0),(117,.d (.lst (d.spots.map BB))),(118,.d (.int .i64 (m'))),(119,.d (.int .i64 (i)))],a.1,a.2+52,[]⟩)
   (Inv:=fun i rest a=>AA (∃V',B9 p sz π m V h (a.2+52) V' {st with sol:={st.sol with chans:=st.sol.chans++NC,spots:=st.sol.spots++NS.take i}} a.1∧ ∀i∈AE ev,i∉V'.ids m)∧a.1.get (0::0::π)=some (.box [.d (.int .i64 (j.node)),.d (.int .i64 (j.at_)),.d (.lst (j.env.map AN))])∧a.1.get (0::10::π)=some (.box [.d (.int .i64 (x.op)),.d (.int .i64 (x.n)),.d (.lst (x.args.map Bs)),.d (.lst (x.kids.map AO))])∧a.1.get (0::21::π)=some (.box [.d (.lst (d.chans.map BK)),.d (.lst (d.spots.map BB)),.d (.lst (d.rules.map BJ))])∧a.1.get (0::31::π)=some (.box [.d (.int .i64 (x.n)),.d (.int .i64 (j.at_)),ev])∧AA (NB π a.1 (a.2+52) ev G.env)) (b0:=(_,b)) rfl ⟨⟨V0,by simpa using hR0.out.up (by omega),hev0.out⟩,k2,k3,k4,k5,⟨P3 kl2.out (by omega)⟩⟩ ?_ ?_
  .clear hR0 hev0 kl2 k2 k3 k4 k5 g b V0;rintro i y ⟨g,b⟩ hy hi him ⟨hR,k2,k3,k4,k5,kl⟩ IH;dsimp only at*;obtain⟨V',hR,hev⟩:=hR.out;have hevn:=Mm kl.out (b+77);have hpy:=KS hd.out.ok.spot i y hy;have gm:=hR.rep.box;have hpl:=fun(H:AB) (n:Nat) (hH:H.get m=g.get m)=>hplace.out H (n::π) V' st.work (hH.trans gm) (AF um n) y.in_ hpy.1 (by omega);replace hpl:=AA.mk hpl;simp only[Aj]at gm;have hs:=hR.rep.sl 0 (by omega);obtain⟨LS,hLS⟩: ∃l,l=st.sol.spots++NS.take i:=⟨_,rfl⟩;have hLSl:LS.length≤100:=by rw[hLS];simp;omega
   simp only[FZ,Aw,←hLS]at hs;have hLS0:LS≠ []:=by
    intro e;have h2:LS.length=0:=by rw[e];rfl
    rw[hLS,List.length_append]at h2;have:=hI.out.sok.tree.pos;omega
   rcases hs with⟨_,hs⟩|⟨S,xs,hs,gS⟩
   .exact absurd (List.map_eq_nil_iff.1 hs) hLS0
   have hgo:AA (∀(v:AV) (H:AB),H.get m=some (.box (Aj p sz (V'.upd 0 v) st.work))→Kc H 2 v ((LS++[(⟨G.place d y.in_,false⟩:BC)]).map Af)→(AE v=AE (V'.s 0)∨ ∀id∈AE v,HB (b+52) (b+77) π id=true∧ ∃l,id=1::l)→(∀id,Id.is m id=false→(∀id2∈AE (V'.s 0),Id.is id2 id=false)→HB (b+52) (b+77) π id=false→H.get id=g.get id)→ ∃V2,B9 p sz π m V h (b+77) V2 {st with sol:={st.sol with chans:=st.sol.chans++NC,spots:=st.sol.spots++NS.take (i+1)}} H∧ ∀i∈AE ev,i∉V2.ids m):=⟨fun v H a1 a2 a3 a4=>by
    obtain⟨V2,z1,z2⟩:=hR.step (b':=b+77) (by omega) (HL (st':={st with sol:={st.sol with chans:=st.sol.chans++NC,spots:=LS++[⟨G.place d y.in_,false⟩]}}) 0 (by omega) hR.rep (hR.apartB hu.out) (rA rfl rfl rfl) rfl v H a1 a2 a3 a4)
    rw[List.take_add_one,hNSa.out i y hy,←List.append_assoc,←hLS];exact⟨V2,z1,fun i hi=>z2 i (hev i hi) (hevn i hi)⟩⟩
   replace hevn:=AA.mk hevn;replace hev:=AA.mk hev;rw[List.length_map]at hs;have hSi:=hR.ids S (V'.s_mem m (i:=0) (by omega) (by rw[hs];simp[AE]));have q1:=fun a n hn=>Eo (b':=0) hu.out hSi a n hn;have q2:=fun a n hn=>Jt hu.out hSi a n hn;have q3:Id.is S m=false:=AD fun e=>by rw[e,gm]at gS;cases gS
   have q4:Id.is m S=false:=AD fun e=>by rw[←e,gm]at gS;cases gS
   have q5: ∀k,Id.is S (0::k::π)=false:=fun k=>AD fun e=>Gp hR hu.out k (by rw[←e];exact V'.s_mem m (i:=0) (by omega) (by rw[hs];simp[AE]));rw[hs]at gm;replace hLS:=AA.mk hLS;replace hR:=AA.mk hR;replace kl:=kl.out;rcases kl with⟨hz,rfl⟩|⟨id,rfl,hg,n,hnb,hun,hl⟩
   .have hpl2:=hpl.out;rw[hz,List.map_nil]at hpl2;replace hpl2:=AA.mk hpl2;replace hz:=AA.mk hz;rcases xs with _|⟨z,xs⟩
    ·(repeat' (first|simp only[go_sem, *,List.take_length,Bool.false_eq_true]|(refine sx ?_ ?_<;>intro hc)|refine sy (by omega) fun x hx hm=>?_|simp(disch:=first|assumption|omega) only[wrap_id,AK,AH,slice_int]))
     refine Cm (hpl2.out _ _ ?_) (fun o1 g1 p1=>?_)
     .simp only[go_sem,e1,Bool.false_eq_true,q1,q2,q3,q4,q5]
     subst p1
     (repeat' (first|simp only[go_sem, *,List.take_length,Bool.false_eq_true]|(refine sx ?_ ?_<;>intro hc)|refine sy (by omega) fun x hx hm=>?_|simp(disch:=first|assumption|omega) only[wrap_id,AK,AH,slice_int]))
     refine IH.out (_,_) ⟨⟨hgo.out (.osl (1::(b+70)::π) 0 (LS.length+1)) _ ?_ (BU [] (by simp) ?_) (.inr fun id2 hid=>?_) fun id2 b1 b2 b3=>?_⟩,?_,?_,?_,?_,⟨.inl ⟨hz.out,rfl⟩⟩⟩
     .simp only[go_sem,Aj,Bool.false_eq_true,q1,q2,q3,q4,q5];first|done|rfl
     .simp only[go_sem,e2,List.map_append,List.map_nil,Bool.false_eq_true,q1,q2,q3,q4,q5];first|done|rfl
     .simp only[AE,List.mem_singleton]at hid;subst hid;exact⟨KO (b+70) [1] (by omega) (by omega),_,rfl⟩
     .have q6:=Cw b3;have q7:=b2 S (by rw[hs];simp[AE]);simp only[go_sem,q6,b1,q7,Bool.false_eq_true]
     .simp only[go_sem,k2,e2,Bool.false_eq_true,q1,q2,q3,q4,q5]
     .simp only[go_sem,k3,e2,Bool.false_eq_true,q1,q2,q3,q4,q5]
     .simp only[go_sem,k4,e2,Bool.false_eq_true,q1,q2,q3,q4,q5]
     .simp only[go_sem,k5,e2,Bool.false_eq_true,q1,q2,q3,q4,q5]
    ·(repeat' (first|simp only[go_sem, *,List.take_length,Bool.false_eq_true]|(refine sx ?_ ?_<;>intro hc)|refine sy (by omega) fun x hx hm=>?_|simp(disch:=first|assumption|omega) only[wrap_id,AK,AH,slice_int]))
     refine Cm (hpl2.out _ _ ?_) (fun o1 g1 p1=>?_)
     .simp only[go_sem,e1,Bool.false_eq_true,q1,q2,q3,q4,q5]
     subst p1
     (repeat' (first|simp only[go_sem, *,List.take_length,Bool.false_eq_true]|(refine sx ?_ ?_<;>intro hc)|refine sy (by omega) fun x hx hm=>?_|simp(disch:=first|assumption|omega) only[wrap_id,AK,AH,slice_int]))
     refine IH.out (_,_) ⟨⟨hgo.out (.osl S 0 (LS.length+1)) _ ?_ (BU xs (by simp) ?_) (.inl (by rw[hs];rfl)) fun id2 b1 b2 b3=>?_⟩,?_,?_,?_,?_,⟨.inl ⟨hz.out,rfl⟩⟩⟩
     .simp only[go_sem,Aj,Bool.false_eq_true,q1,q2,q3,q4,q5];first|done|rfl
     .simp only[go_sem,e2,List.map_append,List.map_nil,Bool.false_eq_true,q1,q2,q3,q4,q5];first|done|rfl
     .have q6:=Cw b3;have q7:=b2 S (by rw[hs];simp[AE]);simp only[go_sem,q6,b1,q7,Bool.false_eq_true]
     .simp only[go_sem,k2,e2,Bool.false_eq_true,q1,q2,q3,q4,q5]
     .simp only[go_sem,k3,e2,Bool.false_eq_true,q1,q2,q3,q4,q5]
     .simp only[go_sem,k4,e2,Bool.false_eq_true,q1,q2,q3,q4,q5]
     .simp only[go_sem,k5,e2,Bool.false_eq_true,q1,q2,q3,q4,q5]
   .obtain⟨f1,f2,f3,f4⟩:=FU hnb hun hl;have mi:Id.is m id=false:=AD fun e=>by rw[←e,gm]at hg;cases hg
    have im:Id.is id m=false:=AD fun e=>by rw[e,gm]at hg;cases hg
    have Ai:Id.is S id=false:=AD fun e=>hev.out id (by simp[AE]) (by rw[←e];exact V'.s_mem m (i:=0) (by omega) (by rw[hs];simp[AE]));have iA:Id.is id S=false:=AD fun e=>by rw[e,is_self]at Ai;cases Ai
    replace hun:=AA.mk hun;replace hl:=AA.mk hl;rcases xs with _|⟨z,xs⟩
    ·(repeat' (first|simp only[go_sem, *,List.take_length,Bool.false_eq_true]|(refine sx ?_ ?_<;>intro hc)|refine sy (by omega) fun x hx hm=>?_|simp(disch:=first|assumption|omega) only[wrap_id,AK,AH,slice_int]))
     refine Cm (hpl.out _ _ ?_) (fun o1 g1 p1=>?_)
     .simp only[go_sem,e1,Bool.false_eq_true,q1,q2,q3,q4,q5,f1,f2,f3,f4,mi,im,Ai,iA]
     subst p1
     (repeat' (first|simp only[go_sem, *,List.take_length,Bool.false_eq_true]|(refine sx ?_ ?_<;>intro hc)|refine sy (by omega) fun x hx hm=>?_|simp(disch:=first|assumption|omega) only[wrap_id,AK,AH,slice_int]))
     refine IH.out (_,_) ⟨⟨hgo.out (.osl (1::(b+70)::π) 0 (LS.length+1)) _ ?_ (BU [] (by simp) ?_) (.inr fun id2 hid=>?_) fun id2 b1 b2 b3=>?_⟩,?_,?_,?_,?_,⟨.inr ⟨id,rfl,?_,n,by omega,hun.out,hl.out⟩⟩⟩
     .simp only[go_sem,Aj,Bool.false_eq_true,q1,q2,q3,q4,q5,f1,f2,f3,f4,mi,im,Ai,iA];first|done|rfl
     .simp only[go_sem,e2,List.map_append,List.map_nil,Bool.false_eq_true,q1,q2,q3,q4,q5,f1,f2,f3,f4,mi,im,Ai,iA];first|done|rfl
     .simp only[AE,List.mem_singleton]at hid;subst hid;exact⟨KO (b+70) [1] (by omega) (by omega),_,rfl⟩
     .have q6:=Cw b3;have q7:=b2 S (by rw[hs];simp[AE]);simp only[go_sem,q6,b1,q7,Bool.false_eq_true]
     .simp only[go_sem,k2,e2,Bool.false_eq_true,q1,q2,q3,q4,q5,f1,f2,f3,f4,mi,im,Ai,iA]
     .simp only[go_sem,k3,e2,Bool.false_eq_true,q1,q2,q3,q4,q5,f1,f2,f3,f4,mi,im,Ai,iA]
     .simp only[go_sem,k4,e2,Bool.false_eq_true,q1,q2,q3,q4,q5,f1,f2,f3,f4,mi,im,Ai,iA]
     .simp only[go_sem,k5,e2,Bool.false_eq_true,q1,q2,q3,q4,q5,f1,f2,f3,f4,mi,im,Ai,iA]
     .simp only[go_sem,hg,Bool.false_eq_true,q1,q2,q3,q4,q5,f1,f2,f3,f4,mi,im,Ai,iA]
    ·(repeat' (first|simp only[go_sem, *,List.take_length,Bool.false_eq_true]|(refine sx ?_ ?_<;>intro hc)|refine sy (by omega) fun x hx hm=>?_|simp(disch:=first|assumption|omega) only[wrap_id,AK,AH,slice_int]))
     refine Cm (hpl.out _ _ ?_) (fun o1 g1 p1=>?_)
     .simp only[go_sem,e1,Bool.false_eq_true,q1,q2,q3,q4,q5,f1,f2,f3,f4,mi,im,Ai,iA]
     subst p1
     (repeat' (first|simp only[go_sem, *,List.take_length,Bool.false_eq_true]|(refine sx ?_ ?_<;>intro hc)|refine sy (by omega) fun x hx hm=>?_|simp(disch:=first|assumption|omega) only[wrap_id,AK,AH,slice_int]))
     refine IH.out (_,_) ⟨⟨hgo.out (.osl S 0 (LS.length+1)) _ ?_ (BU xs (by simp) ?_) (.inl (by rw[hs];rfl)) fun id2 b1 b2 b3=>?_⟩,?_,?_,?_,?_,⟨.inr ⟨id,rfl,?_,n,by omega,hun.out,hl.out⟩⟩⟩
     .simp only[go_sem,Aj,Bool.false_eq_true,q1,q2,q3,q4,q5,f1,f2,f3,f4,mi,im,Ai,iA];first|done|rfl
     .simp only[go_sem,e2,List.map_append,List.map_nil,Bool.false_eq_true,q1,q2,q3,q4,q5,f1,f2,f3,f4,mi,im,Ai,iA];first|done|rfl
     .have q6:=Cw b3;have q7:=b2 S (by rw[hs];simp[AE]);simp only[go_sem,q6,b1,q7,Bool.false_eq_true]
     .simp only[go_sem,k2,e2,Bool.false_eq_true,q1,q2,q3,q4,q5,f1,f2,f3,f4,mi,im,Ai,iA]
     .simp only[go_sem,k3,e2,Bool.false_eq_true,q1,q2,q3,q4,q5,f1,f2,f3,f4,mi,im,Ai,iA]
     .simp only[go_sem,k4,e2,Bool.false_eq_true,q1,q2,q3,q4,q5,f1,f2,f3,f4,mi,im,Ai,iA]
     .simp only[go_sem,k5,e2,Bool.false_eq_true,q1,q2,q3,q4,q5,f1,f2,f3,f4,mi,im,Ai,iA]
     .simp only[go_sem,hg,Bool.false_eq_true,q1,q2,q3,q4,q5,f1,f2,f3,f4,mi,im,Ai,iA]
  .clear hR0 hev0 kl2 k2 k3 k4 k5 g b V0 him;rintro i ⟨g,b⟩ hi him ⟨hR,k2,k3,k4,k5,kl⟩;dsimp only at*;have gi:=hi.out;subst gi;clear hi;have hNSl2:=hNSl.out;rw[←hNSl2,List.take_length]at hR;obtain⟨V',hR,hev⟩:=hR.out;have hevn:=Mm kl.out (b+66);have gm:=hR.rep.box;simp only[Aj]at gm;have hl3:=P2 hR.rep.arr;rw[hR.rep.chans.len]at hl3;simp only[List.length_append,←hn3.out,hNCl.out]at hl3;have hl0:=Gy (hR.rep.sl 0 (by omega));simp only[Aw,List.length_map,List.length_append,←hn0.out,hNSl2]at hl0;have hs:=hR.rep.sl 1 (by omega);simp only[FZ,Aw]at hs;clear hNSl2;have hgo:AA (∀(g1:AB) (v:AV) (H:AB),(∀i∈V'.ids m,g1.get i=g.get i)→(∀i,Id.under π i=false→g1.get i=g.get i)→H.get m=some (.box (Aj p sz (V'.upd 1 v) st.work))→Kc H 3 v ((st.sol.groups++[G]).map A3)→(AE v=AE (V'.s 1)∨ ∀id∈AE v,HB (b+52) (b+66) π id=true∧ ∃l,id=1::l)→(∀id,Id.is m id=false→(∀id2∈AE (V'.s 1),Id.is id2 id=false)→HB (b+52) (b+66) π id=false→H.get id=g1.get id)→ ∃V2,B9 p sz π m V h (b+66) V2 {st with sol:=B5 st.sol d G} H∧ ∀i∈AE ev,i∉V2.ids m):=⟨fun g1 v H b1 b2 a1 a2 a3 a4=>by
    have hR1:B9 p sz π m V h (b+52) V' {st with sol:={st.sol with chans:=st.sol.chans++NC,spots:=st.sol.spots++NS}} g1:=⟨Bg hR.rep b1,hR.ids,fun id c1 c2=>(b2 id c2).trans (hR.frame id c1 c2)⟩
    obtain⟨V2,z1,z2⟩:=hR1.step (b':=b+66) (by omega) (HL (st':={st with sol:={st.sol with chans:=st.sol.chans++NC,spots:=st.sol.spots++NS,groups:=st.sol.groups++[G]}}) 1 (by omega) hR1.rep (hR1.apartB hu.out) (ACb rfl rfl rfl) rfl v H a1 a2 a3 a4)
    refine⟨V2,?_,fun i hi=>z2 i (hev i hi) (hevn i hi)⟩;rw[B5,←hng.out,←hNC.out,←hNS.out];exact z1⟩
   have hsq:AA (∀S,V'.s 1=.osl S 0 st.sol.groups.length→(∀a n,b+52≤n→Id.is (a::n::π) S=false)∧(∀a n,b+52≤n→Id.is S (a::n::π)=false)∧Id.is S m=false∧Id.is m S=false∧(∀k,Id.is S (0::k::π)=false)∧(∀i∈AE ev,Id.is S i=false∧Id.is i S=false)):=⟨fun S hS=>by
    have hm2:S∈V'.ids m:=V'.s_mem m (i:=1) (by omega) (by rw[hS];simp[AE]);have hi:=hR.ids S hm2;obtain⟨x0,hg⟩:=Dk (hR.rep.sl 1 (by omega)) (id:=S) (by rw[hS];simp[AE]);exact⟨fun a n hn=>Eo (b':=0) hu.out hi a n hn,Jt hu.out hi,AD fun e=>(by rw[e,gm]at hg;cases hg),AD fun e=>(by rw[←e,gm]at hg;cases hg),fun k=>AD fun e=>Gp hR hu.out k (by rw[←e];exact hm2),fun i hi=>⟨AD fun e=>hev i hi (by rw[←e];exact hm2),AD fun e=>hev i hi (by rw[e];exact hm2)⟩⟩⟩
   have hvi:AA (∀i∈V'.ids m,∀i2∈AE ev,Id.is i2 i=false):=⟨fun i hi i2 hi2=>AD fun e=>hev i2 hi2 (by rw[e];exact hi)⟩;have hui:AA (∀i,Id.under π i=false→ ∀i2∈AE ev,Id.is i2 i=false):=⟨fun i hi i2 hi2=>AD fun e=>by
    rcases kl.out with⟨_,rfl⟩|⟨id,rfl,_,n,_,hun,_⟩
    .simp[AE]at hi2
    .simp only[AE,List.mem_singleton]at hi2;subst hi2;rw[←e,BH hun]at hi;cases hi⟩
   replace hevn:=AA.mk hevn;replace hev:=AA.mk hev;replace hR:=AA.mk hR;replace kl:=kl.out;rcases kl with⟨hz,he⟩|⟨id,he,hg,n,hnb,hun,hl⟩
   .rw[he]at k5;rcases hs with⟨hs,hs0⟩|⟨S,xs,hs,gS⟩
    .have hs1:=AA.mk (List.map_eq_nil_iff.1 hs0);rw[hs]at gm
     (repeat' (first|simp only[go_sem, *,↓hl3,↓hl0,Bool.false_eq_true]|(refine sx ?_ ?_<;>intro hc)|refine sy (by omega) fun x hx hm=>?_|simp(disch:=first|assumption|omega) only[wrap_id,AK,AH,slice_int]))
     refine hend.out _ _ _ rfl rfl rfl rfl rfl (hgo.out g (.osl (1::(b+61)::π) 0 1) _ (fun _ _=>rfl) (fun _ _=>rfl) ?_ (BU [] ?_ ?_) (.inr fun id2 hid=>?_) fun id2 b1 b2 b3=>?_) ?_ ?_ ?_ ?_ ?_
     .simp only[go_sem,Aj,Bool.false_eq_true,hGd,hGa,hz];first|done|rfl
     .rw[hs1.out];rfl
     .rw[hs1.out];simp only[go_sem,e2,Bool.false_eq_true,hGd,hGa,hz];first|done|rfl
     .simp only[AE,List.mem_singleton]at hid;subst hid;exact⟨KO (b+61) [1] (by omega) (by omega),_,rfl⟩
     .have q6:=Cw b3;simp only[go_sem,q6,b1,Bool.false_eq_true]
     .simp only[go_sem,k2,e2,Bool.false_eq_true,hGd,hGa,hz]
     .simp only[go_sem,k3,e2,Bool.false_eq_true,hGd,hGa,hz]
     .simp only[go_sem,k4,e2,Bool.false_eq_true,hGd,hGa,hz]
     .rw[he];simp only[go_sem,k5,e2,Bool.false_eq_true,hGd,hGa,hz]
     .exact .inl ⟨hz,he⟩
    .rw[List.length_map]at hs;rcases xs with _|⟨z,xs⟩
     .skip
      obtain⟨q1,q2,q3,q4,q5,q8⟩:=hsq.out S hs;replace q8:=AA.mk q8;rw[hs]at gm
      (repeat' (first|simp only[go_sem, *,↓hl3,↓hl0,Bool.false_eq_true]|(refine sx ?_ ?_<;>intro hc)|refine sy (by omega) fun x hx hm=>?_|simp(disch:=first|assumption|omega) only[wrap_id,AK,AH,slice_int]))
      refine hend.out _ _ _ rfl rfl rfl rfl rfl (hgo.out g (.osl (1::(b+61)::π) 0 (st.sol.groups.length+1)) _ (fun _ _=>rfl) (fun _ _=>rfl) ?_ (BU [] ?_ ?_) (.inr fun id2 hid=>?_) fun id2 b1 b2 b3=>?_) ?_ ?_ ?_ ?_ ?_
      .simp only[go_sem,Aj,Bool.false_eq_true,hGd,hGa,q1,q2,q3,q4,q5,hz];first|done|rfl
      .simp
      .simp only[go_sem,e2,List.map_append,List.map_nil,Bool.false_eq_true,hGd,hGa,q1,q2,q3,q4,q5,hz];first|done|rfl
      .simp only[AE,List.mem_singleton]at hid;subst hid;exact⟨KO (b+61) [1] (by omega) (by omega),_,rfl⟩
      .have q6:=Cw b3;have q7:=b2 S (by rw[hs];simp[AE]);simp only[go_sem,q6,b1,q7,Bool.false_eq_true]
      .simp only[go_sem,k2,e2,Bool.false_eq_true,hGd,hGa,q1,q2,q3,q4,q5,hz]
      .simp only[go_sem,k3,e2,Bool.false_eq_true,hGd,hGa,q1,q2,q3,q4,q5,hz]
      .simp only[go_sem,k4,e2,Bool.false_eq_true,hGd,hGa,q1,q2,q3,q4,q5,hz]
      .rw[he];simp only[go_sem,k5,e2,Bool.false_eq_true,hGd,hGa,q1,q2,q3,q4,q5,hz]
      .exact .inl ⟨hz,he⟩
     .skip
      obtain⟨q1,q2,q3,q4,q5,q8⟩:=hsq.out S hs;replace q8:=AA.mk q8;rw[hs]at gm
      (repeat' (first|simp only[go_sem, *,↓hl3,↓hl0,Bool.false_eq_true]|(refine sx ?_ ?_<;>intro hc)|refine sy (by omega) fun x hx hm=>?_|simp(disch:=first|assumption|omega) only[wrap_id,AK,AH,slice_int]))
      refine hend.out _ _ _ rfl rfl rfl rfl rfl (hgo.out g (.osl S 0 (st.sol.groups.length+1)) _ (fun _ _=>rfl) (fun _ _=>rfl) ?_ (BU xs ?_ ?_) (.inl (by rw[hs];rfl)) fun id2 b1 b2 b3=>?_) ?_ ?_ ?_ ?_ ?_
      .simp only[go_sem,Aj,Bool.false_eq_true,hGd,hGa,q1,q2,q3,q4,q5,hz];first|done|rfl
      .simp
      .simp only[go_sem,e2,List.map_append,List.map_nil,Bool.false_eq_true,hGd,hGa,q1,q2,q3,q4,q5,hz];first|done|rfl
      .have q6:=Cw b3;have q7:=b2 S (by rw[hs];simp[AE]);simp only[go_sem,q6,b1,q7,Bool.false_eq_true]
      .simp only[go_sem,k2,e2,Bool.false_eq_true,hGd,hGa,q1,q2,q3,q4,q5,hz]
      .simp only[go_sem,k3,e2,Bool.false_eq_true,hGd,hGa,q1,q2,q3,q4,q5,hz]
      .simp only[go_sem,k4,e2,Bool.false_eq_true,hGd,hGa,q1,q2,q3,q4,q5,hz]
      .rw[he];simp only[go_sem,k5,e2,Bool.false_eq_true,hGd,hGa,q1,q2,q3,q4,q5,hz]
      .exact .inl ⟨hz,he⟩
   .rw[he]at k5;obtain⟨f1,f2,f3,f4⟩:=FU hnb hun hl;have mi:Id.is m id=false:=AD fun e=>by rw[←e,gm]at hg;cases hg
    have im:Id.is id m=false:=AD fun e=>by rw[e,gm]at hg;cases hg
    replace hun:=AA.mk hun;replace hl:=AA.mk hl;rcases hs with⟨hs,hs0⟩|⟨S,xs,hs,gS⟩
    .have hs1:=AA.mk (List.map_eq_nil_iff.1 hs0);rw[hs]at gm
     (repeat' (first|simp only[go_sem, *,↓hl3,↓hl0,Bool.false_eq_true]|(refine sx ?_ ?_<;>intro hc)|refine sy (by omega) fun x hx hm=>?_|simp(disch:=first|assumption|omega) only[wrap_id,AK,AH,slice_int]))
     refine hend.out _ _ _ rfl rfl rfl rfl rfl (hgo.out (g.put id (.fro 2 (G.env.map AN))) (.osl (1::(b+61)::π) 0 1) _ (fun i hi=>by rw[get_put,hvi.out i hi id (by rw[he];simp[AE])];simp) (fun i hi=>by rw[get_put,hui.out i hi id (by rw[he];simp[AE])];simp) ?_ (BU [] ?_ ?_) (.inr fun id2 hid=>?_) fun id2 b1 b2 b3=>?_) ?_ ?_ ?_ ?_ ?_
     .simp only[go_sem,Aj,Bool.false_eq_true,hGd,hGa,f1,f2,f3,f4,mi,im];first|done|rfl
     .rw[hs1.out];rfl
     .rw[hs1.out];simp only[go_sem,e2,Bool.false_eq_true,hGd,hGa,f1,f2,f3,f4,mi,im];first|done|rfl
     .simp only[AE,List.mem_singleton]at hid;subst hid;exact⟨KO (b+61) [1] (by omega) (by omega),_,rfl⟩
     .have q6:=Cw b3;simp only[go_sem,q6,b1,Bool.false_eq_true]
     .simp only[go_sem,k2,e2,Bool.false_eq_true,hGd,hGa,f1,f2,f3,f4,mi,im]
     .simp only[go_sem,k3,e2,Bool.false_eq_true,hGd,hGa,f1,f2,f3,f4,mi,im]
     .simp only[go_sem,k4,e2,Bool.false_eq_true,hGd,hGa,f1,f2,f3,f4,mi,im]
     .rw[he];simp only[go_sem,k5,e2,Bool.false_eq_true,hGd,hGa,f1,f2,f3,f4,mi,im]
     .refine .inr ⟨id,he,?_,n,by omega,hun.out,hl.out⟩;simp only[go_sem,e2,Bool.false_eq_true,hGd,hGa,f1,f2,f3,f4,mi,im]
    .rw[List.length_map]at hs;rcases xs with _|⟨z,xs⟩
     .skip
      obtain⟨q1,q2,q3,q4,q5,q8⟩:=hsq.out S hs;obtain⟨q9,q10⟩:=q8 id (by rw[he];simp[AE]);replace q8:=AA.mk q8;rw[hs]at gm
      (repeat' (first|simp only[go_sem, *,↓hl3,↓hl0,Bool.false_eq_true]|(refine sx ?_ ?_<;>intro hc)|refine sy (by omega) fun x hx hm=>?_|simp(disch:=first|assumption|omega) only[wrap_id,AK,AH,slice_int]))
      refine hend.out _ _ _ rfl rfl rfl rfl rfl (hgo.out (g.put id (.fro 2 (G.env.map AN))) (.osl (1::(b+61)::π) 0 (st.sol.groups.length+1)) _ (fun i hi=>by rw[get_put,hvi.out i hi id (by rw[he];simp[AE])];simp) (fun i hi=>by rw[get_put,hui.out i hi id (by rw[he];simp[AE])];simp) ?_ (BU [] ?_ ?_) (.inr fun id2 hid=>?_) fun id2 b1 b2 b3=>?_) ?_ ?_ ?_ ?_ ?_
      .simp only[go_sem,Aj,Bool.false_eq_true,hGd,hGa,q1,q2,q3,q4,q5,q9,q10,f1,f2,f3,f4,mi,im];first|done|rfl
      .simp
      .simp only[go_sem,e2,List.map_append,List.map_nil,Bool.false_eq_true,hGd,hGa,q1,q2,q3,q4,q5,q9,q10,f1,f2,f3,f4,mi,im];first|done|rfl
      .simp only[AE,List.mem_singleton]at hid;subst hid;exact⟨KO (b+61) [1] (by omega) (by omega),_,rfl⟩
      .have q6:=Cw b3;have q7:=b2 S (by rw[hs];simp[AE]);simp only[go_sem,q6,b1,q7,Bool.false_eq_true]
      .simp only[go_sem,k2,e2,Bool.false_eq_true,hGd,hGa,q1,q2,q3,q4,q5,q9,q10,f1,f2,f3,f4,mi,im]
      .simp only[go_sem,k3,e2,Bool.false_eq_true,hGd,hGa,q1,q2,q3,q4,q5,q9,q10,f1,f2,f3,f4,mi,im]
      .simp only[go_sem,k4,e2,Bool.false_eq_true,hGd,hGa,q1,q2,q3,q4,q5,q9,q10,f1,f2,f3,f4,mi,im]
      .rw[he];simp only[go_sem,k5,e2,Bool.false_eq_true,hGd,hGa,q1,q2,q3,q4,q5,q9,q10,f1,f2,f3,f4,mi,im]
      .refine .inr ⟨id,he,?_,n,by omega,hun.out,hl.out⟩;simp only[go_sem,e2,Bool.false_eq_true,hGd,hGa,q1,q2,q3,q4,q5,q9,q10,f1,f2,f3,f4,mi,im]
     .skip
      obtain⟨q1,q2,q3,q4,q5,q8⟩:=hsq.out S hs;obtain⟨q9,q10⟩:=q8 id (by rw[he];simp[AE]);replace q8:=AA.mk q8;rw[hs]at gm
      (repeat' (first|simp only[go_sem, *,↓hl3,↓hl0,Bool.false_eq_true]|(refine sx ?_ ?_<;>intro hc)|refine sy (by omega) fun x hx hm=>?_|simp(disch:=first|assumption|omega) only[wrap_id,AK,AH,slice_int]))
      refine hend.out _ _ _ rfl rfl rfl rfl rfl (hgo.out (g.put id (.fro 2 (G.env.map AN))) (.osl S 0 (st.sol.groups.length+1)) _ (fun i hi=>by rw[get_put,hvi.out i hi id (by rw[he];simp[AE])];simp) (fun i hi=>by rw[get_put,hui.out i hi id (by rw[he];simp[AE])];simp) ?_ (BU xs ?_ ?_) (.inl (by rw[hs];rfl)) fun id2 b1 b2 b3=>?_) ?_ ?_ ?_ ?_ ?_
      .simp only[go_sem,Aj,Bool.false_eq_true,hGd,hGa,q1,q2,q3,q4,q5,q9,q10,f1,f2,f3,f4,mi,im];first|done|rfl
      .simp
      .simp only[go_sem,e2,List.map_append,List.map_nil,Bool.false_eq_true,hGd,hGa,q1,q2,q3,q4,q5,q9,q10,f1,f2,f3,f4,mi,im];first|done|rfl
      .have q6:=Cw b3;have q7:=b2 S (by rw[hs];simp[AE]);simp only[go_sem,q6,b1,q7,Bool.false_eq_true]
      .simp only[go_sem,k2,e2,Bool.false_eq_true,hGd,hGa,q1,q2,q3,q4,q5,q9,q10,f1,f2,f3,f4,mi,im]
      .simp only[go_sem,k3,e2,Bool.false_eq_true,hGd,hGa,q1,q2,q3,q4,q5,q9,q10,f1,f2,f3,f4,mi,im]
      .simp only[go_sem,k4,e2,Bool.false_eq_true,hGd,hGa,q1,q2,q3,q4,q5,q9,q10,f1,f2,f3,f4,mi,im]
      .rw[he];simp only[go_sem,k5,e2,Bool.false_eq_true,hGd,hGa,q1,q2,q3,q4,q5,q9,q10,f1,f2,f3,f4,mi,im]
      .refine .inr ⟨id,he,?_,n,by omega,hun.out,hl.out⟩;simp only[go_sem,e2,Bool.false_eq_true,hGd,hGa,q1,q2,q3,q4,q5,q9,q10,f1,f2,f3,f4,mi,im]
end Go.Proofs
namespace Go.Proofs
open Go Go.Abs
set_option maxRecDepth 100000
set_option maxHeartbeats 4000000
theorem gn{p:AJ}{sz:List Int}{k:Nat}(hF:BO p sz)(IH0:H7 p sz k){h:AB}{π:List Nat}{m:Abs.Id}{V:MV}{st:CU}(hM:EE p sz h m V st)(hu:CF π V m)(hI:OD p sz k st)(j:Gl){x:Cd}(hj:La p j x){d:CH}(hd:E6 p sz st.sol j x d):
 ∃o h',KL Tryz.prog cfg (.fn 112) [.ptr m 0,.agg [.d (.int .i64 (j.node)),.d (.int .i64 (j.at_)),.d (.lst (j.env.map AN))]] h π true none=.ok (o,h')∧EU p sz π m V h (Mc (Fg p k) (HZ p x j st)) o h':=by
 have hm:=hM.box;have um:=hu m (V.m_mem m);simp only[Aj]at hm;have e1:=AG um;have e2:=Ar um;have e3:=Dj um;have e4:=Ju um;have hx:=hj.node;have hn:=hj.n0;have hel:=hj.len;have hxl:=Nx hj;have hsm:=hF.small;simp only[AJ.small,Bool.and_eq_true,decide_eq_true_eq]at hsm;obtain⟨z1,z2,z3⟩:=hsm;have hdd:=hd.def_;have hd0:=hd.n0;have hdl:=AI hdd;have d1:=hd.ok.chans;have d2:=hd.ok.spots;have h1:=JQ j.env (by omega);have hmS:=hI.sok.small;simp only[A8.small,Bool.and_eq_true,decide_eq_true_eq]at hmS;obtain⟨s1,s2,s3,s4⟩:=hmS;replace hM:=AA.mk hM;replace hu:=AA.mk hu;replace hd:=AA.mk hd;replace hI:=AA.mk hI;have hl3:=P2 hM.out.arr;have hl0:=Gy (hM.out.sl 0 (by omega));rw[hM.out.chans.len]at hl3;simp only[Aw,List.length_map]at hl0;obtain⟨n3,hn3⟩: ∃n,n=st.sol.chans.length:=⟨_,rfl⟩;obtain⟨n0,hn0⟩: ∃n,n=st.sol.spots.length:=⟨_,rfl⟩;rw[←hn3]at hl3;rw[←hn0]at hl0;have s3':n3≤60:=by omega
 have s1':n0≤24:=by omega
 replace hn3:=AA.mk hn3;replace hn0:=AA.mk hn0;by_cases h0:j.env.length=0;all_goals
  first
  |simp only[CR h0]at h1
  |simp only[Cy h0]at h1
  have fa:=CV
  (refine Ak rfl Tryz.func112 rfl rfl rfl ?_;show Wp _ _ _ _ (Tryz.f112.body.get rfl) _ _;simp only[Tryz.f112,Option.get_some])
  refine uZ 6 fun T hT=>?_;have hend:AA (∀(e:BS) (H:AB) (c:Nat),e.get 0=.ptr m 0→e.get 3=.ptr (0::0::π) 0→e.get 4=.ptr (0::10::π) 0→e.get 5=.ptr (0::21::π) 0→e.get 6=.ptr (0::31::π) 0→(∀id,Id.under π id=false→H.get id=h.get id)→H.get (0::0::π)=some (.box [.d (.int .i64 (j.node)),.d (.int .i64 (j.at_)),.d (.lst (j.env.map AN))])→H.get (0::10::π)=some (.box [.d (.int .i64 (x.op)),.d (.int .i64 (x.n)),.d (.lst (x.args.map Bs)),.d (.lst (x.kids.map AO))])→H.get (0::21::π)=some (.box [.d (.lst (d.chans.map BK)),.d (.lst (d.spots.map BB)),.d (.lst (d.rules.map BJ))])→(∃ev,H.get (0::31::π)=some (.box [.d (.int .i64 (x.n)),.d (.int .i64 (j.at_)),ev])∧NB π H (c+43) ev (j.env++Ez n3 d.chans.length++Jc n0 d.spots.length))→Wp cfg (KL Tryz.prog cfg) ⟨112,π,true,none,false,204⟩ 0 T ⟨e,H,c+43,[]⟩ (Qp cfg none [] π true (EU p sz π m V h (Mc (Fg p k) (HZ p x j st))))):=⟨fun e H c x0 x3 x4 x5 x6 k1 y2 y3 y4 hev=>by
   obtain⟨ev,y5,hl⟩:=hev;rw[hT];refine gk hF IH0 hM.out hu.out hI.out hd.out rfl x0 x3 x4 x5 x6 k1 y2 y3 y4 y5 ?_;have:(Ad st.sol d x.n j).env=j.env++Ez n3 d.chans.length++Jc n0 d.spots.length:=by rw[hn3.out,hn0.out,Ad,E2,List.append_assoc];rfl
   rw[this];exact hl⟩
  replace hT:=AA.mk hT;simp only[Tryz.f112,Option.get_some,gZ];refine ax ?_;clear h1;refine AX d.chans _ (S:=fun m' i (a:AB×Nat)=>⟨[(0,.ptr m 0),(3,.ptr (0::0::π) 0),(4,.ptr (0::10::π) 0),(5,.ptr (0::21::π) 0),(6,.ptr (0::31::π) 0),(43,.d (.int .i64 (m'))),(44,.d (.int .i64 (i)))],a.1,a.2+37,[]⟩)
   (Inv:=fun i rest a=>AA (∀id,Id.under π id=false→a.1.get id=h.get id)∧a.1.get (0::0::π)=some (.box [.d (.int .i64 (j.node)),.d (.int .i64 (j.at_)),.d (.lst (j.env.map AN))])∧a.1.get (0::10::π)=some (.box [.d (.int .i64 (x.op)),.d (.int .i64 (x.n)),.d (.lst (x.args.map Bs)),.d (.lst (x.kids.map AO))])∧a.1.get (0::21::π)=some (.box [.d (.lst (d.chans.map BK)),.d (.lst (d.spots.map BB)),.d (.lst (d.rules.map BJ))])∧AA (∃ev,a.1.get (0::31::π)=some (.box [.d (.int .i64 (x.n)),.d (.int .i64 (j.at_)),ev])∧NB π a.1 (a.2+37) ev (j.env++Ez n3 i))) (b0:=(_,_)) rfl ⟨⟨fun id b=>?_⟩,?_,?_,?_,⟨?_⟩⟩ ?_ ?_
  .have q1:=AG b;have q4:=Dj b;simp only[go_sem,q1,q4,Bool.false_eq_true]
  .simp only[go_sem]
  .simp only[go_sem]
  .simp only[go_sem]
  .first
   |(refine⟨.nils,?_,.inl ⟨by simp[Ez,List.eq_nil_of_length_eq_zero h0],rfl⟩⟩
     simp only[go_sem]
     done)
   |(refine⟨.osl (1::0::2::29::π) 0 j.env.length,?_,.inr ⟨_,by simp[Ez],?_,29,by omega,under_iff.2 ⟨[1,0,2],rfl⟩,_,rfl⟩⟩
     .simp only[go_sem]
     .simp only[Ez,List.range'_zero,List.map_nil,List.append_nil];simp only[go_sem])
  .rintro i y ⟨g,b⟩ hy hi him ⟨k1,k2,k3,k4,kl⟩ IH;dsimp only at*;obtain⟨ev,k5,kl⟩:=kl.out;have gm:=(k1.out m um).trans hm;have w1:IntKind.i64.wrap ((n3:Int)+(i:Int))=(n3:Int)+(i:Int):=wrap_id (by omega) (by omega);obtain⟨L,hL⟩: ∃L,L=j.env++Ez n3 i:=⟨_,rfl⟩;have hLs:AA (j.env++Ez n3 (i+1)=L++[⟨3,(n3:Int)+(i:Int)⟩]):=⟨by rw[Wq,←List.append_assoc,←hL];simp⟩;rw[←hL]at kl;have hLm:L.length≤20000:=by rw[hL];simp[Ez];omega
   replace hL:=AA.mk hL;rcases kl with⟨hz,rfl⟩|⟨id,rfl,hg,n,hnb,hun,hl⟩
   ·(repeat' (first|simp only[go_sem, *,↓hl3,↓hl0]|(refine sx ?_ ?_<;>intro hc)|refine sy (by omega) fun x hx hm=>?_|simp(disch:=first|assumption|omega) only[wrap_id,AK,AH,slice_int]))
    refine IH.out (_,_) ⟨⟨fun id b=>?_⟩,?_,?_,?_,⟨.osl (1::(b+52)::π) 0 1,?_,?_⟩⟩
    .have q1:=AG b;simp only[go_sem,q1,k1.out id b,Bool.false_eq_true]
    .simp only[go_sem,k2]
    .simp only[go_sem,k3]
    .simp only[go_sem,k4]
    .simp only[go_sem]
    .rw[hLs.out,hz];refine Lx (by omega) rfl ?_;simp only[go_sem]
   .obtain⟨f1,f2,f3,f4⟩:=FU hnb hun hl;have hun2:=AA.mk (BH hun);clear hl hun hnb
    (repeat' (first|simp only[go_sem, *,↓hl3,↓hl0,Bool.false_eq_true]|(refine sx ?_ ?_<;>intro hc)|refine sy (by omega) fun x hx hm=>?_|simp(disch:=first|assumption|omega) only[wrap_id,AK,AH,slice_int]))
    refine IH.out (_,_) ⟨⟨fun id2 b2=>?_⟩,?_,?_,?_,⟨.osl (1::(b+52)::π) 0 (L.length+1),?_,?_⟩⟩
    .have q1:=AG b2;have q2:Id.is id id2=false:=AD fun e=>by rw[←e,hun2.out]at b2;cases b2
     simp only[go_sem,q1,q2,k1.out id2 b2,Bool.false_eq_true]
    .simp only[go_sem,k2,f3,f4,Bool.false_eq_true]
    .simp only[go_sem,k3,f3,f4,Bool.false_eq_true]
    .simp only[go_sem,k4,f3,f4,Bool.false_eq_true]
    .simp only[go_sem]
    .rw[hLs.out];refine Lx (by omega) (by simp) ?_;simp only[go_sem,f1,f2,List.map_append,Bool.false_eq_true]
  .clear s3';rintro i ⟨g,b⟩ hi him ⟨k1,k2,k3,k4,kl⟩;dsimp only at*;have gi:=hi.out;subst gi;clear hi;replace hl3:=AA.mk hl3;refine aw ?_;refine AX d.spots _ (S:=fun m' i (a:AB×Nat)=>⟨[(0,.ptr m 0),(3,.ptr (0::0::π) 0),(4,.ptr (0::10::π) 0),(5,.ptr (0::21::π) 0),(6,.ptr (0::31::π) 0),(64,.d (.int .i64 (m'))),(65,.d (.int .i64 (i)))],a.1,a.2+42,[]⟩)
    (Inv:=fun i rest a=>AA (∀id,Id.under π id=false→a.1.get id=h.get id)∧a.1.get (0::0::π)=some (.box [.d (.int .i64 (j.node)),.d (.int .i64 (j.at_)),.d (.lst (j.env.map AN))])∧a.1.get (0::10::π)=some (.box [.d (.int .i64 (x.op)),.d (.int .i64 (x.n)),.d (.lst (x.args.map Bs)),.d (.lst (x.kids.map AO))])∧a.1.get (0::21::π)=some (.box [.d (.lst (d.chans.map BK)),.d (.lst (d.spots.map BB)),.d (.lst (d.rules.map BJ))])∧AA (∃ev,a.1.get (0::31::π)=some (.box [.d (.int .i64 (x.n)),.d (.int .i64 (j.at_)),ev])∧NB π a.1 (a.2+42) ev (j.env++Ez n3 d.chans.length++Jc n0 i))) (b0:=(_,b)) rfl ⟨k1,k2,k3,k4,⟨by obtain⟨ev,q1,q2⟩:=kl.out;exact⟨ev,q1,by simpa[Jc]using P3 q2 (by omega)⟩⟩⟩ ?_ ?_
   .clear kl k1 k2 k3 k4 g b;rintro i y ⟨g,b⟩ hy hi him ⟨k1,k2,k3,k4,kl⟩ IH;dsimp only at*;obtain⟨ev,k5,kl⟩:=kl.out;have gm:=(k1.out m um).trans hm;have w1:IntKind.i64.wrap ((n0:Int)+(i:Int))=(n0:Int)+(i:Int):=wrap_id (by omega) (by omega);obtain⟨L,hL⟩: ∃L,L=j.env++Ez n3 d.chans.length++Jc n0 i:=⟨_,rfl⟩;have hLs:AA (j.env++Ez n3 d.chans.length++Jc n0 (i+1)=L++[⟨4,(n0:Int)+(i:Int)⟩]):=⟨by rw[ZI,←List.append_assoc,←hL];simp⟩;rw[←hL]at kl;have hLm:L.length≤20000:=by rw[hL];simp[Ez,Jc];omega
    replace hL:=AA.mk hL;rcases kl with⟨hz,rfl⟩|⟨id,rfl,hg,n,hnb,hun,hl⟩
    ·(repeat' (first|simp only[go_sem, *,↓hl0]|(refine sx ?_ ?_<;>intro hc)|refine sy (by omega) fun x hx hm=>?_|simp(disch:=first|assumption|omega) only[wrap_id,AK,AH,slice_int]))
     refine IH.out (_,_) ⟨⟨fun id b2=>?_⟩,?_,?_,?_,⟨.osl (1::(b+57)::π) 0 1,?_,?_⟩⟩
     .have q1:=AG b2;simp only[go_sem,q1,k1.out id b2,Bool.false_eq_true]
     .simp only[go_sem,k2]
     .simp only[go_sem,k3]
     .simp only[go_sem,k4]
     .simp only[go_sem]
     .rw[hLs.out,hz];refine Lx (by omega) rfl ?_;simp only[go_sem]
    .obtain⟨f1,f2,f3,f4⟩:=FU hnb hun hl;have hun2:=AA.mk (BH hun);clear hl hun hnb
     (repeat' (first|simp only[go_sem, *,↓hl0,Bool.false_eq_true]|(refine sx ?_ ?_<;>intro hc)|refine sy (by omega) fun x hx hm=>?_|simp(disch:=first|assumption|omega) only[wrap_id,AK,AH,slice_int]))
     refine IH.out (_,_) ⟨⟨fun id2 b2=>?_⟩,?_,?_,?_,⟨.osl (1::(b+57)::π) 0 (L.length+1),?_,?_⟩⟩
     .have q1:=AG b2;have q2:Id.is id id2=false:=AD fun e=>by rw[←e,hun2.out]at b2;cases b2
      simp only[go_sem,q1,q2,k1.out id2 b2,Bool.false_eq_true]
     .simp only[go_sem,k2,f3,f4,Bool.false_eq_true]
     .simp only[go_sem,k3,f3,f4,Bool.false_eq_true]
     .simp only[go_sem,k4,f3,f4,Bool.false_eq_true]
     .simp only[go_sem]
     .rw[hLs.out];refine Lx (by omega) (by simp) ?_;simp only[go_sem,f1,f2,List.map_append,Bool.false_eq_true]
   .clear kl k1 k2 k3 k4 g b him;rintro i ⟨g,b⟩ hi him ⟨k1,k2,k3,k4,kl⟩;dsimp only at*;have gi:=hi.out;subst gi;clear hi;refine aw ?_;exact hend.out _ _ _ rfl rfl rfl rfl rfl k1.out k2 k3 k4 (by obtain⟨ev,q1,q2⟩:=kl.out;exact⟨ev,q1,P3 q2 (by omega)⟩)
end Go.Proofs
namespace Go.Proofs
open Go Go.Abs
set_option maxRecDepth 100000
set_option maxHeartbeats 4000000
theorem sn{x:Cd}(h:FT x.op=some x.kids.length):x.op=1∨x.op=2∨x.op=3∨x.op=4∨x.op=5∨x.op=6∨x.op=7∨x.op=8:=by
 unfold FT at h;repeat (split at h;· omega)
 cases h
theorem XB(f:Gl→CU→Option CU)(r:Option CU):Mc f (r.map fun st=>(st,[]))=r:=by cases r<;>rfl
theorem eo{p:AJ}{sz:List Int}(hF:BO p sz): ∀k,H7 p sz k
 |0=>fun h π m V st j hM hu hS hj w0 w1 w2 hev=>by omega
 |k+1=>fun h π m V st j hM hu hS hj w0 w1 w2 hev=>by
  have IH0:=eo hF k;obtain⟨x,l,hx,hok,hl,hq,hle⟩:=K3 hF hj;have hok2:=hok;simp only[EC,Bool.and_eq_true,decide_eq_true_eq,List.all_eq_true]at hok;obtain⟨hk,hn,har,hex⟩:=hok;have hfc:La p j x:=⟨hj.n0,hx,by omega⟩;have hn0:=hj.n0;have hxl:=Nx hfc;have hm:=hM.box;have um:=hu m (V.m_mem m);simp only[Aj]at hm;have hacts:=hM.acts;have mA:Id.is m V.acts=false:=AD fun e=>by rw[←e,hm]at hacts;cases hacts
  have e1:=AG um;have e2:=Ar um;have ww:IntKind.i64.wrap (st.work+1)=st.work+1:=wrap_id (by omega) (by omega);obtain⟨st1,hst1⟩: ∃s,s={st with work:=st.work+1}:=⟨_,rfl⟩
  have hsm:=hF.small;simp only[AJ.small,Bool.and_eq_true,decide_eq_true_eq]at hsm;obtain⟨z1,z2,z3⟩:=hsm;have hd:AA (Fg p (k+1) j st=if st.work<400 then Mc (Fg p k) (Ku p j st1)else none):=⟨by rw[hst1];rfl⟩;have hrun:AA (∀H:AB,H.get m=some (.box (Aj p sz V (st.work+1)))→(∀id,Id.is m id=false→Id.under π id=false→H.get id=h.get id)→B9 p sz π m V h 0 V st1 H):=⟨fun H a1 a2=>by
   have:=Tq (st':=st1) hM hu (by rw[hst1];exact a1) (by rw[hst1];exact⟨rfl,rfl⟩) fun id b1 b2=>a2 id (AD fun e=>b1 e.symm) b2;exact⟨this.1,fun id hid=>.inl hid,this.2.frame⟩⟩
  have hI1:AA (st.work<400→OD p sz k st1):=⟨fun h=>by rw[hst1];exact⟨hS,by dsimp only;omega,by dsimp only;omega,by dsimp only;omega,by dsimp only;omega⟩⟩;have hj1:AA (CZ p sz st1.sol j):=⟨by rw[hst1];exact hj⟩;have hsol:AA (st1.sol=st.sol):=⟨by rw[hst1]⟩;have hwl:AA (st.sol.waits.length≤1000000):=⟨by
   have:=hS.small;simp only[A8.small,Bool.and_eq_true,decide_eq_true_eq]at this;omega⟩
  have hevl:AA (st1.ev.length≤1000000):=⟨by rw[hst1];dsimp only;omega⟩;replace hst1:=AA.mk hst1;replace hM:=AA.mk hM;replace hu:=AA.mk hu;replace hS:=AA.mk hS;replace hj:=AA.mk hj;replace hex:=AA.mk hex;replace hok2:=AA.mk hok2;replace hfc:=AA.mk hfc;replace hq:=AA.mk hq;replace hl:=AA.mk hl;have fin:AA (∀(H g1:AB) (n:Nat) (o:AZ) (r:Option CU),B9 p sz π m V h 0 V st1 H→EU p sz (n::π) m V H r o g1→EU p sz π m V h r o (gc (n::π) g1)):=⟨fun H g1 n o r hr ho=>by
   cases r with
   |none=>exact hr.pan hu.out (Nat.zero_le _) ho
   |some st2=>
    obtain⟨V2,h2,_⟩:=hr.call hu.out (Nat.zero_le _) ho;obtain⟨rfl,_⟩:=ho;exact h2.fin⟩
  by_cases hw:st.work<400
  .have hw2:st.work+1≤400:=by omega
   rw[hd.out,if_pos hw];have hJ:AA (Ku p j st1=if x.op=2 then(EZ p x j st1).map fun st=>(st,[])else if x.op=3 then some (st1,BR x 0 j.at_ j.env++BR x 1 j.at_ j.env)else if x.op=4 then HZ p x j st1 else if x.op=5 then some (st1,BR x (Tc x j.env) j.at_ j.env)else if ET x.op=true then(JC j st1).map fun st=>(st,[])else some (st1,[])):=⟨by rw[Ku,hx]⟩;have hI1:=hI1.out hw;replace hI1:=AA.mk hI1;have hr:B9 p sz π m V h 0 V st1 (h.put m (.box (Aj p sz V (st.work+1)))):=by
    refine hrun.out _ ?_ ?_
    .simp only[go_sem]
    .intro id b1 b2;simp only[go_sem,b1,Bool.false_eq_true]
   have ap:=AA.mk (hr.apart hu.out (n:=36) (Nat.zero_le _));have hfn:=fun g1 o r=>fin.out _ g1 36 o r hr;replace hfn:=AA.mk hfn;replace hr:=AA.mk hr;have hal:=AA.mk har;clear har;rcases sn hk with ho|ho|ho|ho|ho|ho|ho|ho
   .rw[hJ.out];simp only[ho,Int.reduceEq,if_true,if_false,ET,decide_false,Bool.or_self,Bool.false_eq_true,Mc,Bo]
    (refine Ak rfl Tryz.func66 rfl rfl rfl ?_;show Wp _ _ _ _ (Tryz.f66.body.get rfl) _ _;simp only[Tryz.f66,Option.get_some])
    (repeat' (first|simp only[go_sem, *,Iz]|(refine sx ?_ ?_<;>intro hc)|refine sy (by omega) fun x hx hm=>?_|simp(disch:=first|assumption|omega) only[wrap_id,AK,AH,slice_int]))
    exact hr.out.fin
   .rw[hJ.out];simp only[ho,Int.reduceEq,if_true,if_false,XB];have hn1:0≤x.n∧x.n<j.env.length:=by simpa[uo,ho]using hn
    have ha3:x.args.length≤3:=by simpa[J5,ho]using hal.out
    have hef: ∀e∈x.args,e.formed j.env.length=true:=fun e he=>by
     have:=hex.out e he;simp only[B4.ok,Bool.and_eq_true]at this;exact this.2.2
    replace hef:=AA.mk hef
    (refine Ak rfl Tryz.func66 rfl rfl rfl ?_;show Wp _ _ _ _ (Tryz.f66.body.get rfl) _ _;simp only[Tryz.f66,Option.get_some])
    (repeat' (first|simp only[go_sem, *,Iz]|(refine sx ?_ ?_<;>intro hc)|refine sy (by omega) fun x hx hm=>?_|simp(disch:=first|assumption|omega) only[wrap_id,AK,AH,slice_int]))
    refine Ab (y7 (V:=V) (st:=st1) hr.out.rep ap.out j hfc.out z2 ha3 hef.out hn1.1 hn1.2 (by rw[hsol.out];exact hj.out.vals) (fun c q hq=>by rw[hsol.out]at hq⊢;exact Wu hF hS.out hq) hevl.out) (fun o1 g1 p1=>?_);have fn:=hfn.out g1 o1 _ p1;obtain⟨r,hr9⟩: ∃r,r=EZ p x j st1:=⟨_,rfl⟩;rw[←hr9]at fn p1⊢;clear hr9;cases r;all_goals
     have w9:=p1.1;subst w9;replace fn:=AA.mk fn;replace p1:=AA.mk p1;refine aw ?_;exact fn.out
   .rw[hJ.out];simp only[ho,Int.reduceEq,if_true,if_false];have hk2:x.kids.length=2:=by simpa[FT,ho]using hk.symm
    obtain⟨ka,kb,hkk⟩:=ZS hk2;have hkj:BR x 0 j.at_ j.env++BR x 1 j.at_ j.env=Ej x.kids j.at_ j.env:=by simp[BR,Ej,hkk]
    have hkid: ∀j'∈Ej x.kids j.at_ j.env,CZ p sz st1.sol j':=by
     rw[←hkj];intro j' hj';rcases List.mem_append.1 hj' with h1|h1
     .exact Oe hj1.out (by omega) hl.out hq.out 0 j' h1
     .exact Oe hj1.out (by omega) hl.out hq.out 1 j' h1
    rw[Mc,hkj];replace hkj:=AA.mk hkj;replace hkk:=AA.mk hkk;replace hkid:=AA.mk hkid
    (refine Ak rfl Tryz.func66 rfl rfl rfl ?_;show Wp _ _ _ _ (Tryz.f66.body.get rfl) _ _;simp only[Tryz.f66,Option.get_some])
    (repeat' (first|simp only[go_sem, *,Iz]|(refine sx ?_ ?_<;>intro hc)|refine sy (by omega) fun x hx hm=>?_|simp(disch:=first|assumption|omega) only[wrap_id,AK,AH,slice_int]))
    refine Ab (vK hF IH0 (V:=V) (st:=st1) hr.out.rep ap.out hI1.out j hfc.out z2 (by omega) hkid.out) (fun o1 g1 p1=>?_);have fn:=hfn.out g1 o1 _ p1;obtain⟨r,hr9⟩: ∃r,r=Bo (Fg p k) (Ej x.kids j.at_ j.env) st1:=⟨_,rfl⟩;rw[←hr9]at fn p1⊢;clear hr9;cases r;all_goals
     have w9:=p1.1;subst w9;replace fn:=AA.mk fn;replace p1:=AA.mk p1;refine aw ?_;exact fn.out
   .rw[hJ.out];simp only[ho,Int.reduceEq,if_true,if_false];obtain⟨d,hdi⟩:=pe hF (s:=st1.sol) (by rw[hsol.out];exact hS.out) hj1.out hx ho;replace hdi:=AA.mk hdi
    (refine Ak rfl Tryz.func66 rfl rfl rfl ?_;show Wp _ _ _ _ (Tryz.f66.body.get rfl) _ _;simp only[Tryz.f66,Option.get_some])
    (repeat' (first|simp only[go_sem, *,Iz]|(refine sx ?_ ?_<;>intro hc)|refine sy (by omega) fun x hx hm=>?_|simp(disch:=first|assumption|omega) only[wrap_id,AK,AH,slice_int]))
    refine Ab (gn hF IH0 (V:=V) (st:=st1) hr.out.rep ap.out hI1.out j hfc.out hdi.out) (fun o1 g1 p1=>?_);have fn:=hfn.out g1 o1 _ p1;obtain⟨r,hr9⟩: ∃r,r=Mc (Fg p k) (HZ p x j st1):=⟨_,rfl⟩;rw[←hr9]at fn p1⊢;clear hr9;cases r;all_goals
     have w9:=p1.1;subst w9;replace fn:=AA.mk fn;replace p1:=AA.mk p1;refine aw ?_;exact fn.out
   .rw[hJ.out];simp only[ho,Int.reduceEq,if_true,if_false];have hk2:x.kids.length=2:=by simpa[FT,ho]using hk.symm
    obtain⟨ka,kb,hkk⟩:=ZS hk2;have ha1:x.args.length=1:=by simpa[J5,ho]using hal.out
    obtain⟨e0,he0⟩: ∃e,x.args=[e]:=by
     match hxa:x.args,ha1 with
     |[e],_=>exact⟨e,rfl⟩
    have hef:e0.formed j.env.length=true:=by
     have:=hex.out e0 (by rw[he0];simp);simp only[B4.ok,Bool.and_eq_true]at this;exact this.2.2
    have hka:CZ p sz st1.sol ⟨ka,j.at_,j.env⟩:=Oe hj1.out (by omega) hl.out hq.out 0 _ (by simp[BR,hkk]);have hkb:CZ p sz st1.sol ⟨kb,j.at_,j.env⟩:=Oe hj1.out (by omega) hl.out hq.out 1 _ (by simp[BR,hkk]);rw[Mc];replace hkk:=AA.mk hkk;replace he0:=AA.mk he0;replace hka:=AA.mk hka;replace hkb:=AA.mk hkb
    (refine Ak rfl Tryz.func66 rfl rfl rfl ?_;show Wp _ _ _ _ (Tryz.f66.body.get rfl) _ _;simp only[Tryz.f66,Option.get_some])
    (repeat' (first|simp only[go_sem, *,Iz]|(refine sx ?_ ?_<;>intro hc)|refine sy (by omega) fun x hx hm=>?_|simp(disch:=first|assumption|omega) only[wrap_id,AK,AH,slice_int]))
    refine Ab (gh hF IH0 (V:=V) (st:=st1) hr.out.rep ap.out hI1.out j hfc.out z2 he0.out hef hkk.out hka.out hkb.out) (fun o1 g1 p1=>?_);have fn:=hfn.out g1 o1 _ p1;obtain⟨r,hr9⟩: ∃r,r=Bo (Fg p k) (BR x (Tc x j.env) j.at_ j.env) st1:=⟨_,rfl⟩;rw[←hr9]at fn p1⊢;clear hr9;cases r;all_goals
     have w9:=p1.1;subst w9;replace fn:=AA.mk fn;replace p1:=AA.mk p1;refine aw ?_;exact fn.out
   all_goals
    rw[hJ.out];simp only[ho,Int.reduceEq,if_true,if_false,XB,ET,decide_true,decide_false,Bool.true_or,Bool.or_true,Bool.or_self,Bool.false_eq_true]
    (refine Ak rfl Tryz.func66 rfl rfl rfl ?_;show Wp _ _ _ _ (Tryz.f66.body.get rfl) _ _;simp only[Tryz.f66,Option.get_some])
    (repeat' (first|simp only[go_sem, *,Iz]|(refine sx ?_ ?_<;>intro hc)|refine sy (by omega) fun x hx hm=>?_|simp(disch:=first|assumption|omega) only[wrap_id,AK,AH,slice_int]))
    refine Ab (zG (V:=V) (st:=st1) hr.out.rep ap.out j (by omega) (by rw[hsol.out];exact hwl.out)) (fun o1 g1 p1=>?_);have fn:=hfn.out g1 o1 _ p1;obtain⟨r,hr9⟩: ∃r,r=JC j st1:=⟨_,rfl⟩;rw[←hr9]at fn p1⊢;clear hr9;cases r;all_goals
     have w9:=p1.1;subst w9;replace fn:=AA.mk fn;replace p1:=AA.mk p1;refine aw ?_;exact fn.out
  .have hw2: ¬st.work+1≤400:=by omega
   rw[hd.out,if_neg hw]
   (refine Ak rfl Tryz.func66 rfl rfl rfl ?_;show Wp _ _ _ _ (Tryz.f66.body.get rfl) _ _;simp only[Tryz.f66,Option.get_some])
   refine aw ?_;refine⟨rfl,(hrun.out _ ?_ ?_).frame⟩
   .simp only[go_sem,Aj];first|done|rfl
   .intro id b1 b2;simp only[go_sem,b1,Bool.false_eq_true]
end Go.Proofs
namespace Go.Proofs
open Go Go.Abs
set_option maxRecDepth 100000
set_option maxHeartbeats 4000000
def lK(l:List Int):Int:=match l with
 |[]=>0
 |x::l=>l.foldl min x
theorem XU: ∀(l:List Int) (x:Int),l.foldl min x≤x∧(∀y∈l,l.foldl min x≤y)∧(l.foldl min x=x∨l.foldl min x∈l)
 |[],x=>by simp
 |y::l,x=>by
  obtain⟨h1,h2,h3⟩:=XU l (min x y);rw[List.foldl_cons];refine⟨by omega,fun z hz=>?_,?_⟩
  .rcases List.mem_cons.1 hz with rfl|hz
   .omega
   .exact h2 z hz
  .rcases h3 with h3|h3
   .by_cases hxy:x≤y
    .exact .inl (by omega)
    .exact .inr (List.mem_cons.2 (.inl (by omega)))
   .exact .inr (List.mem_cons_of_mem _ h3)
theorem YD{l:List Nat}(h:0<l.length):lK (l.map fun(n:Nat)=>(n:Int))=0↔0∈l:=by
 cases l with
 |nil=>simp at h
 |cons x l=>
  obtain⟨h1,h2,h3⟩:=XU (l.map fun(n:Nat)=>(n:Int)) (x:Int);have e0:lK ((x::l).map fun(n:Nat)=>(n:Int))=(l.map fun(n:Nat)=>(n:Int)).foldl min (x:Int):=rfl;rw[e0];constructor
  .intro e;rw[e]at h3;rcases h3 with h3|h3
   .have:x=0:=by omega
    simp[this]
   .obtain⟨y,hy,e2⟩:=List.mem_map.1 h3;have:y=0:=by omega
    subst this;exact List.mem_cons_of_mem _ hy
  .intro e;have hn:0≤(l.map fun(n:Nat)=>(n:Int)).foldl min (x:Int):=by
    rcases h3 with h3|h3
    .omega
    .obtain⟨y,hy,e2⟩:=List.mem_map.1 h3;omega
   rcases List.mem_cons.1 e with e|e
   .omega
   .have:=h2 0 (List.mem_map.2 ⟨0,e,rfl⟩);omega
theorem zu(L:List Int)(h0:0<L.length)(hl:L.length≤1000000):BM (KL Tryz.prog cfg) 159 [.d (.lst (L.map AO))] []=.ok (.ret (.d (.int .i64 (lK L))),[]):=by
 obtain⟨x,hx⟩:=get_some (l:=L) (i:=0) h0;have hm:AA (lK L=(L.drop 1).foldl min x):=⟨by
  cases L with
  |nil=>cases hx
  |cons y l=>cases hx;rfl⟩
 have hd:AA ((L.drop 1).length=L.length-1):=⟨by simp⟩;have z1: ¬(L.length:Int)<1:=by omega
 have z2:(0:Int)<L.length:=by omega
 (refine Ay rfl Tryz.func159 rfl rfl rfl ?_;show Wp _ _ _ _ (Tryz.f159.body.get rfl) _ _;simp only[Tryz.f159,Option.get_some])
 refine aw ?_;refine C8 (L.drop 1) (S:=fun i (c:Int)=>⟨[(0,.d (.lst (L.map AO))),(3,.d (.int .i64 (c))),(4,.d (.int .i64 ((i:Int)+1)))],[],0,[]⟩) (Inv:=fun i rest c=>AA (lK L=rest.foldl min c)) (b0:=x) hm ?_ ?_
 .rintro i y c hy hi him hI IH;have hd:=hd.out;have a1:(i:Int)+1<L.length:=by omega
  have a2:((i:Int)+1).toNat=i+1:=by omega
  have a4:0≤(i:Int)+1:=by omega
  have a3:IntKind.i64.wrap ((i:Int)+1+1)=(i:Int)+1+1:=wrap_id (by omega) (by omega);rw[List.getElem?_drop,Nat.add_comm]at hy;clear hd hi him;refine aw ?_;rw[show(if y<c then y else c)=min c y by split<;>omega];exact IH.out (min c y) hI
 .rintro i c hi him hI;have hd:=hd.out;have a1: ¬(i:Int)+1<L.length:=by omega
  clear hd him;refine aw ?_;rw[hI.out];rfl
theorem XM(l:List Int)(id:Abs.Id)(o n:Nat):BL (.osl id o n) [(id,.darr 1 (l.map AO))]=some (id,.darr 1 (l.map AO)):=by
 rw[Fe,if_pos];simp[AO,Dg]
theorem pY(l:List Int)(h0:0<l.length)(hl:l.length≤1000000)(k:Nat)(ρ:List Nat):BM (KL Tryz.prog cfg) 160 [.d (.lst (l.map AO))] (k::ρ)=.ok (.ret (.osl (1::5::k::ρ) 0 l.length),[(1::5::k::ρ,.darr 1 (l.map AO))]):=by
 have ap:=o5 l l.length rfl h0 hl
 (refine Ay rfl Tryz.func160 rfl rfl rfl ?_;show Wp _ _ _ _ (Tryz.f160.body.get rfl) _ _;simp only[Tryz.f160,Option.get_some])
 exact au
end Go.Proofs
namespace Go.Proofs
open Go Go.Abs
def Ij:List Nat→List Int→List (List Int)
 |n::l,d::c=>((Ij l c).map fun t=>d::t)++(List.range' (d.toNat+1) (n-(d.toNat+1))).flatMap fun(i:Nat)=>(Ct l).map fun t=>(i:Int)::t
 |_,_=>[[]]
def Eh(n:Nat):List Int:=List.replicate n 0
def JK:List Nat→List Int→Option (List Int)
 |n::l,d::c=>match JK l c with
  |some t=>some (d::t)
  |none=>if d+1<n then some ((d+1)::Eh c.length)else none
 |_,_=>none
inductive HQ:List Nat→List Int→Prop where
 |nil:HQ [] []
 |cons {n:Nat} {l:List Nat} {d:Int} {c:List Int}:0≤d→d<n→HQ l c→HQ (n::l) (d::c)
theorem HQ.len{l:List Nat}{c:List Int}(h:HQ l c):c.length=l.length:=by
 induction h with
 |nil=>rfl
 |cons _ _ _ ih=>simp[ih]
theorem Kt: ∀{l:List Nat},0∉l→HQ l (Eh l.length)
 |[],_=>.nil
 |n::l,h=>by
  simp only[List.mem_cons,not_or]at h;exact .cons (by omega) (by omega) (Kt h.2)
theorem Ox: ∀{l:List Nat},0∉l→Ij l (Eh l.length)=Ct l
 |[],_=>rfl
 |n::l,h=>by
  simp only[List.mem_cons,not_or]at h;have ih:=Ox h.2;rw[List.length_cons,Eh,List.replicate_succ,Ij,Ct];rw[Eh]at ih;rw[ih];obtain⟨m,rfl⟩: ∃m,n=m+1:=⟨n-1,by omega⟩;rw[List.range_eq_range',List.range'_succ,List.flatMap_cons];simp
def Yz(l:List Nat):Option (List Int)→List (List Int)
 |some c=>Ij l c
 |none=>[]
theorem mw{l:List Nat}{c:List Int}(h:HQ l c)(h0:0∉l):Ij l c=c::Yz l (JK l c)∧ ∀c',JK l c=some c'→HQ l c':=by
 induction h with
 |nil=>exact⟨rfl,fun c' h=>by cases h⟩
 | @cons n l d c hd0 hd1 hc ih=>
   simp only[List.mem_cons,not_or]at h0;obtain⟨ih1,ih2⟩:=ih h0.2;cases hn:JK l c with
   |some t=>
    rw[hn]at ih1;have e:JK (n::l) (d::c)=some (d::t):=by rw[JK,hn]
    rw[e];refine⟨?_,fun c' h=>by cases h;exact .cons hd0 hd1 (ih2 t hn)⟩;simp only[Ij,Yz,ih1];rfl
   |none=>
    rw[hn]at ih1;have e:JK (n::l) (d::c)=if d+1<n then some ((d+1)::Eh c.length)else none:=by rw[JK,hn]
    rw[e];have hz:=Kt h0.2;rw[←hc.len]at hz;have hr:=Ox h0.2;rw[←hc.len]at hr;by_cases hlt:d+1<n
    .rw[if_pos hlt];refine⟨?_,fun c' h=>by cases h;exact .cons (by omega) hlt hz⟩;simp only[Ij,Yz,ih1,hr];obtain⟨m,hm⟩: ∃m,n-(d.toNat+1)=m+1:=⟨n-(d.toNat+1)-1,by omega⟩;have e1:(d+1).toNat=d.toNat+1:=by omega
     rw[e1,hm,List.range'_succ,List.flatMap_cons,show n-(d.toNat+1+1)=m by omega];simp;intro a _;omega
    .rw[if_neg hlt];refine⟨?_,fun c' h=>by cases h⟩;have:n-(d.toNat+1)=0:=by omega
     simp only[Ij,Yz,ih1,this];rfl
theorem pn{l:List Nat}{c:List Int}(h:HQ l c): ∀{j:Nat} {d:Int} {n:Nat},c[j]? =some d→l[j]? =some n→0≤d∧d<n:=by
 induction h with
 |nil=>intro j d n h1;simp at h1
 |cons h1 h2 _ ih=>
  intro j d n hd hn;cases j with
  |zero=>
   simp only[List.getElem?_cons_zero,Option.some.injEq]at hd hn;subst hd hn;exact⟨h1,h2⟩
  |succ j=>exact ih hd hn
def eK(l:List Nat)(c:List Int)(j:Nat):Prop:= ∀t,j≤t→t<l.length→ ∃(d:Int) (n:Nat),c[t]? =some d∧l[t]? =some n∧d=n-1
theorem Tu{l:List Nat}{c:List Int}(h:HQ l c)(he:eK l c 0):JK l c=none:=by
 induction h with
 |nil=>rfl
 | @cons n l d c hd0 hd1 hc ih=>
   have h1:=ih fun t _ ht=>by
    have:=he (t+1) (by omega) (by simp;omega);simpa using this
   obtain⟨d',n',e1,e2,e3⟩:=he 0 (by omega) (by simp);simp only[List.getElem?_cons_zero,Option.some.injEq]at e1 e2;subst e1 e2;rw[JK,h1];simp only;rw[if_neg (by omega)]
theorem lV{l:List Nat}{c:List Int}(h:HQ l c): ∀{j:Nat} {d:Int} {n:Nat},eK l c (j+1)→c[j]? =some d→l[j]? =some n→ ¬d=n-1→JK l c=some (c.take j++(d+1)::Eh (l.length-(j+1))):=by
 induction h with
 |nil=>intro j d n _ h1;simp at h1
 | @cons n0 l d0 c hd0 hd1 hc ih=>
   intro j d n he hd hn hne;have he': ∀k,k+1≥j+1→eK l c k:=fun k hk t h1 h2=>by
    have:=he (t+1) (by omega) (by simp;omega);simpa using this
   cases j with
   |zero=>
    simp only[List.getElem?_cons_zero,Option.some.injEq]at hd hn;subst hd hn;rw[JK,Tu hc (he' 0 (by omega))];simp only;rw[if_pos (by omega)];simp[hc.len]
   |succ j=>
    simp only[List.getElem?_cons_succ]at hd hn;rw[JK,ih (he' (j+1) (by omega)) hd hn hne];simp
end Go.Proofs
namespace Go.Proofs
open Go Go.Abs
set_option maxRecDepth 100000
set_option maxHeartbeats 4000000
def zo{α:Type}(C:Abs.Id→Prop)(I:List α→AB→Prop)(D:AZ→AB→Prop)(π ρ:List Nat)(l:List α)(H:AB)(o:AZ)(h':AB):Prop:=
 (o=.ret (.d (.bool (true)))∧I l h'∧ ∀i,¬C i→Id.under ρ i=false→h'.get i=H.get i)∨((o=.ret (.d (.bool (false)))∨ ∃v,o=.pan v)∧D o h'∧ ∀j,Id.under π (0::j)=true→Id.under ρ (0::j)=false→h'.get (0::j)=H.get (0::j))
structure QD{α:Type}(val:AB→AV→α→Prop)(id:Abs.Id)(C:Abs.Id→Prop)(I:List α→AB→Prop)(D:AZ→AB→Prop)(π:List Nat):Prop where
 own:C id
 apart: ∀i,C i→Id.under π i=false
 loop: ∀{l:List α} {H:AB},I l H→ ∃r,H.get id=some (.loop r)
 eat: ∀{x:α} {l:List α} {H:AB} {ρ:List Nat} {v:AV} {r:Lp},I (x::l) H→H.get id=some (.loop r)→val H v x→(∀i,Id.under π i=false→Id.under ρ i=false)→(∀i∈AE v,¬C i∧Id.under ρ i=false∧Id.under π i=true)→
  ∃o h',KL Tryz.prog cfg (.round id r) [v] H ρ true none=.ok (o,h')∧zo C I D π ρ l H o h'
 same: ∀{l:List α} {H H':AB},I l H→(∀i,Id.under π i=false→H'.get i=H.get i)→I l H'
 sameD: ∀{o:AZ} {H H':AB},D o H→(∀i,(Id.under π i=false∨ ∃l,i=1::l)→H'.get i=H.get i)→D o H'
def zR{α:Type}(C:Abs.Id→Prop)(I:List α→AB→Prop)(D:AZ→AB→Prop)(π:List Nat)(h:AB)(o:AZ)(h':AB):Prop:=
 (o=.ret (.tup [])∧I [] h'∧ ∀i,¬C i→Id.under π i=false→h'.get i=h.get i)∨(o=.ret (.tup [])∧D (.ret (.d (.bool (false)))) h')∨((∃v,o=.pan v)∧D o h')
theorem QD.gcI{α:Type}{val:AB→AV→α→Prop}{id:Abs.Id}{C:Abs.Id→Prop}{I:List α→AB→Prop}{D:AZ→AB→Prop}{π:List Nat}(hE:QD val id C I D π){l:List α}{H:AB}(h:I l H)(n:Nat):I l (gc (n::π) H):=hE.same h fun i hi=>AU _ _ _ (AF hi n)
theorem QD.gcD{α:Type}{val:AB→AV→α→Prop}{id:Abs.Id}{C:Abs.Id→Prop}{I:List α→AB→Prop}{D:AZ→AB→Prop}{π:List Nat}(hE:QD val id C I D π){o:AZ}{H:AB}(h:D o H)(n:Nat):D o (gc (n::π) H):=hE.sameD h fun i hi=>by
 rcases hi with hi|⟨l,rfl⟩
 .exact AU _ _ _ (AF hi n)
 .exact GF _ _ _
def eO(H:AB)(v:AV)(x:List Int):Prop:= ∃id,v=.osl id 0 x.length∧H.get id=some (.darr 1 (x.map AO))∧ ∃l,id=1::l
structure ADR(C:Abs.Id→Prop)(I:List (List Int)→AB→Prop)(π:List Nat)(h:AB)(A:Abs.Id)(many:List Nat)(c:List Int)(L:List (List Int))(a:List Int)(g:AB):Prop where
 arr:g.get A=some (.darr 1 (a.map AO))
 dig:HQ many c
 eat:I L g
 frame: ∀i,¬C i→Id.under π i=false→g.get i=h.get i
theorem tc{c z:List Int}{j:Nat}(hj:j<c.length)(x:Int):(c.take (j+1)++z).set j x=c.take j++x::z:=by
 obtain⟨d,hd⟩:=get_some hj;have hl:(c.take j).length=j:=by rw[List.length_take];omega
 rw[List.take_add_one,hd,List.append_assoc,List.set_append,if_neg (by omega),hl,Nat.sub_self];rfl
theorem Zv{many:List Nat}(h0:0<many.length)(hl:many.length≤1000)(hm: ∀n∈many,n≤1000000){id:Abs.Id}{C:Abs.Id→Prop}{I:List (List Int)→AB→Prop}{D:AZ→AB→Prop}{π:List Nat}(hE:QD eO id C I D π){h:AB}{B:Abs.Id}(hB:h.get B=some (.box [.d (.lst ((many.map fun(n:Nat)=>(n:Int)).map AO))]))(uB:Id.under π B=false)(nB: ¬C B)(hI:I (Ct many) h):
 ∃o h',KL Tryz.prog cfg (.fn 158) [.yld id,.ptr B 0] h π true none=.ok (o,h')∧zR C I D π h o h':=by
 have uC:=hE.apart;have e1:=AG uB;have e2:=Ar uB;have hmk:=zu (many.map fun(n:Nat)=>(n:Int)) (by simpa using h0) (by simp;omega);by_cases hz:0∈many
 .rw[(YD h0).2 hz]at hmk;rw[Ym hz]at hI
  (refine Ak rfl Tryz.func158 rfl rfl rfl ?_;show Wp _ _ _ _ (Tryz.f158.body.get rfl) _ _;simp only[Tryz.f158,Option.get_some])
  refine aw ?_;exact .inl ⟨rfl,hI,fun _ _ _=>rfl⟩
 .have hmz: ¬lK (many.map fun(n:Nat)=>(n:Int))=0:=fun e=>hz ((YD h0).1 e);replace hI:=AA.mk hI;replace hE:=AA.mk hE;replace uC:=AA.mk uC;replace hm:=AA.mk hm
  (refine Ak rfl Tryz.func158 rfl rfl rfl ?_;show Wp _ _ _ _ (Tryz.f158.body.get rfl) _ _;simp only[Tryz.f158,Option.get_some])
  have hcl:=fun(l:List Int) (hl:l.length=many.length)=>pY l (by omega) (by omega);replace hcl:=AA.mk hcl
  (repeat' (first|simp only[go_sem, *]|(refine sx ?_ ?_<;>intro hc)|refine sy (by omega) fun x hx hm=>?_|simp(disch:=first|assumption|omega) only[wrap_id,AK,AH,slice_int,Jr]))
  refine rounds (S:=fun(a:(List Int×AB)×Nat)=>⟨[(0,.yld id),(1,.ptr B 0),(3,.osl (1::5::π) 0 many.length)],a.1.2,a.2+7,[]⟩)
   (Inv:=fun a=>AA (ADR C I π h (1::5::π) many a.1.1 (Ij many a.1.1) a.1.1 a.1.2)) (m:=fun a=>(Ij many a.1.1).length) (a:=((Eh many.length,_),0)) ⟨?_⟩ ?_
  .refine⟨?_,Kt hz,?_,fun i q1 q2=>?_⟩
   .show(h.put (1::5::π) _).get (1::5::π)=_;rw[get_put,is_self];rfl
   .rw[Ox hz];exact hE.out.same hI.out fun i hi=>by rw[get_put,AG hi 1 5];rfl
   .show(h.put (1::5::π) _).get i=_;rw[get_put,AG q2 1 5];rfl
  .rintro⟨⟨c,g⟩,b⟩ hI2 IH;dsimp only at*;have gA:=hI2.out.arr;have hcl:=hcl.out c (hI2.out.dig.len);have hcl0:=hI2.out.dig.len;have gB:g.get B=_:=(hI2.out.frame B nB uB).trans hB;have fa:=XM c;have tk:List.take many.length (c.map AO)=c.map AO:=List.take_of_length_le (by simp;omega);have ui:=uC.out id hE.out.own;have i1:=AG ui;have i2:Id.is (1::5::(b+9)::π) id=false:=AG (AF ui (b+9)) 1 5;obtain⟨r,hr⟩:=hE.out.loop hI2.out.eat;obtain⟨rest,hrest⟩: ∃t,t=Yz many (JK many c):=⟨_,rfl⟩;obtain⟨rn1,rn2⟩:=mw hI2.out.dig hz;rw[←hrest]at rn1;have hsm:=AA.mk fun l=>hE.out.same (l:=l) (H:=g) (H':=(1::5::(b+9)::π,.darr 1 (c.map AO))::g);have hi3:=hI2.out.eat;rw[rn1]at hi3;replace hi3:=AA.mk hi3;replace rn1:=AA.mk rn1;replace rn2:=AA.mk rn2;replace hrest:=AA.mk hrest;refine ax ?_;refine Ab (hE.out.eat (x:=c) (l:=rest) (hsm.out _ hi3.out fun i hi=>?_) (by simp only[go_sem,i2,hr,Bool.false_eq_true]) ⟨_,by rw[hcl0],by simp only[go_sem],_,rfl⟩ (fun i hi=>AF hi _) (fun i hi=>?_)) (fun o1 g1 p1=>?_)
   .have q:=AG (AF hi (b+9)) 1 5;simp only[go_sem,q,Bool.false_eq_true]
   .simp only[AE,List.mem_singleton]at hi;subst hi;exact⟨fun hc=>(by have:=uC.out _ hc;rw[show Id.under π (1::5::(b+9)::π)=true from Ao [1,5,b+9]]at this;cases this),Iu _ _ _ _ _ (by omega),Ao [1,5,b+9]⟩
   rcases p1 with⟨rfl,p1,p2⟩|⟨p0,p1,_⟩
   .have fr: ∀i,¬C i→Id.under ((b+10)::π) i=false→Id.is (1::5::(b+9)::π) i=false→(gc ((b+10)::π) g1).get i=g.get i:=fun i q1 q2 q3=>by
     rw[AU _ _ _ q2,p2 i q1 q2,BN,q3];rfl
    have gB2:=(fr B nB (AF uB _) (AG (AF uB (b+9)) 1 5)).trans gB;have gA2:=(fr (1::5::π) (fun hc=>by have:=uC.out _ hc;rw[show Id.under π (1::5::π)=true from Ao [1,5]]at this;cases this) (ME _ _ _ _ (by omega)) (AD (by simp))).trans gA;have frm:AA (∀i,¬C i→Id.under π i=false→(gc ((b+10)::π) g1).get i=h.get i):=⟨fun i q1 q2=>(fr i q1 (AF q2 _) (AG (AF q2 (b+9)) 1 5)).trans (hI2.out.frame i q1 q2)⟩;clear p2 fr;replace p1:=AA.mk (hE.out.gcI p1 (b+10));refine ax ?_;have hdg:=AA.mk hI2.out.dig;replace hI2:=AA.mk hI2;refine rounds (S:=fun(a:(Nat×AB)×Nat)=>⟨[(0,.yld id),(1,.ptr B 0),(3,.osl (1::5::π) 0 many.length),(4,.d (.int .i64 ((a.1.1:Int)-1)))],a.1.2,b+a.2+16,[]⟩)
     (Inv:=fun a=>a.1.1≤many.length∧AA (eK many c a.1.1)∧a.1.2.get (1::5::π)=some (.darr 1 ((c.take a.1.1++Eh (many.length-a.1.1)).map AO))∧a.1.2.get B=some (.box [.d (.lst ((many.map fun(n:Nat)=>(n:Int)).map AO))])∧AA (I rest a.1.2∧ ∀i,¬C i→Id.under π i=false→a.1.2.get i=h.get i)) (m:=fun a=>a.1.1) (a:=((many.length,_),0)) ⟨Nat.le_refl _,⟨fun t h1 h2=>absurd h2 (Nat.not_lt.2 h1)⟩,?_,gB2,⟨p1.out,frm.out⟩⟩ ?_
    .show(gc ((b+10)::π) g1).get (1::5::π)=some (.darr 1 ((c.take many.length++Eh (many.length-many.length)).map AO));rw[gA2,Nat.sub_self,Eh,List.replicate_zero,List.append_nil,List.take_of_length_le (by omega)]
    clear gA2 gB2 p1 frm gA gB hr hcl;rintro⟨⟨j,g2⟩,b2⟩ ⟨hj,hend,gA,gB,hI3⟩ IH2;dsimp only at*;rcases j with _|j
    .have hr0:AA (rest=[]):=⟨by rw[hrest.out,Tu hdg.out hend.out];rfl⟩;refine ax ?_;all_goals first
     |omega
     |exact .inl ⟨rfl,by have:=hI3.out.1;rwa [hr0.out]at this,hI3.out.2⟩
    .obtain⟨d,hd⟩:=get_some (l:=c) (i:=j) (by omega);obtain⟨n,hn⟩:=get_some (l:=many) (i:=j) (by omega);obtain⟨a,ha⟩: ∃a,a=c.take (j+1)++Eh (many.length-(j+1)):=⟨_,rfl⟩;have al:a.length=many.length:=by rw[ha,List.length_append,List.length_take,Eh,List.length_replicate];omega
     have ad:a[j]? =some d:=by rw[ha,List.getElem?_append_left (by rw[List.length_take];omega),List.getElem?_take,if_pos (by omega),hd]
     rw[←ha]at gA;have ek:(((j+1:Nat):Int)-1)=j:=by omega
     have hmn:(many.map fun(n:Nat)=>(n:Int))[j]? =some (n:Int):=by rw[List.getElem?_map,hn];rfl
     have hnm:=hm.out n (List.mem_of_getElem? hn);have w1:IntKind.i64.wrap ((n:Int)-1)=(n:Int)-1:=wrap_id (by omega) (by omega);have jl:j<many.length:=by omega
     have j0: ¬(j:Int)<0:=by omega
     replace ha:=AA.mk ha;rw[ek];have put: ∀o,AA (I rest (g2.put (1::5::π) o)∧(g2.put (1::5::π) o).get B=some (.box [.d (.lst ((many.map fun(n:Nat)=>(n:Int)).map AO))])∧ ∀i,¬C i→Id.under π i=false→(g2.put (1::5::π) o).get i=h.get i):=fun o=>⟨hE.out.same hI3.out.1 (fun i hi=>by rw[get_put,AG hi 1 5];rfl),by rw[get_put,e1];exact gB,fun i q1 q2=>by rw[get_put,AG q2 1 5];exact hI3.out.2 i q1 q2⟩;have hdg0:=hdg.out;by_cases hdn:d=(n:Int)-1
     .have hset: ∀x:Int,(a.map AO).set j [.int .i64 x]=(c.take j++x::Eh (many.length-(j+1))).map AO:=fun x=>by
       rw[←tc (by omega),←ha.out,List.map_set];rfl
      replace hset:=AA.mk hset;replace put:=AA.mk put;replace hdg0:=AA.mk hdg0;refine ax ?_;rw[hset.out];refine IH2.out ((j,_),b2+21) (by simp) ⟨by dsimp only;omega,⟨fun t h1 h2=>?_⟩,?_,(put.out _).out.2.1,⟨(put.out _).out.1,(put.out _).out.2.2⟩⟩
      .by_cases htj:t=j
       .subst htj;exact⟨d,n,hd,hn,hdn⟩
       .exact hend.out t (by dsimp only at h1;omega) h2
      .show(g2.put (1::5::π) _).get (1::5::π)=some (.darr 1 ((c.take j++Eh (many.length-j)).map AO));rw[get_put,is_self,show many.length-j=(many.length-(j+1))+1 by omega];rfl
     .have hns:=lV hdg0 hend.out hd hn hdn;have hset: ∀x:Int,(a.map AO).set j [.int .i64 x]=(c.take j++x::Eh (many.length-(j+1))).map AO:=fun x=>by
       rw[←tc (by omega),←ha.out,List.map_set];rfl
      have w2:IntKind.i64.wrap (d+1)=d+1:=by
       have:=pn hdg0 hd hn;exact wrap_id (by omega) (by omega)
      obtain⟨c',hc'⟩: ∃t,t=c.take j++(d+1)::Eh (many.length-(j+1)):=⟨_,rfl⟩;rw[←hc']at hns;have hre:AA (rest=Ij many c'):=⟨by rw[hrest.out,hns];rfl⟩;have hdc:=AA.mk (rn2.out c' hns);replace hset:=AA.mk hset;replace put:=AA.mk put;replace hdg0:=AA.mk hdg0;replace hns:=AA.mk hns;replace hc':=AA.mk hc';refine ax ?_;rw[hset.out,←hc'.out];refine IH.out ((c',_),b+b2+32) ?_ ⟨?_,hdc.out,by rw[←hre.out];exact(put.out _).out.1,(put.out _).out.2.2⟩
      .dsimp only;rw[rn1.out,←hre.out];simp
      .dsimp only;rw[get_put,is_self];rfl
   .replace p1:=AA.mk (hE.out.gcD p1 (b+10));rcases p0 with rfl|⟨v,rfl⟩
    .refine ax ?_;exact .inr (.inl ⟨rfl,p1.out⟩)
    .refine ax ?_;exact .inr (.inr ⟨⟨v,rfl⟩,p1.out⟩)
end Go.Proofs
namespace Go.Proofs
open Go Go.Abs
set_option maxRecDepth 100000
set_option maxHeartbeats 4000000
theorem wu{p:AJ}{s:A8}{w:E7}{x:Cd}(hx:p.nodes[w.node.toNat]? =some x):goes p s w=if x.op=7 then true else if (Hc w.env x.n).kind=4 then(if x.op=8 then AY s.spots (Hc w.env x.n).n else decide (w.at_≠0)&&(!AY s.spots (Hc w.env x.n).n&& !Ck s.spots (Hc w.env x.n).n w.at_))else false:=by
 rw[goes,hx]
end Go.Proofs
namespace Go.Proofs
open Go Go.Abs
set_option maxRecDepth 100000
set_option maxHeartbeats 4000000
theorem qp{p:AJ}{sz:List Int}{h:AB}{ρ:List Nat}{m:Abs.Id}{V:MV}{st:CU}(hM:EE p sz h m V st)(hu:CF ρ V m)(hs:Fm p sz st.sol){w:E7}{x:Cd}(hw:QH p sz st.sol w x):
 ∃o h',KL Tryz.prog cfg (.fn 93) [.ptr m 0,.agg [.d (.int .i64 (w.at_)),.d (.int .i64 (w.node)),.d (.lst (w.env.map AN))]] h ρ true (some ρ)=.ok (o,h')∧o=.ret (.d (.bool (goes p st.sol w))):=by
 have hm:=hM.box;simp only[Aj]at hm;have um:=hu m (V.m_mem m);have e1:=AG um;have e2:=Ar um;have hx:=hw.node;have hn:=hw.n0;have hxl:=AI hx;rw[wu hx];by_cases ho:x.op=7
 ·(refine Ak rfl Tryz.func93 rfl rfl rfl ?_;show Wp _ _ _ _ (Tryz.f93.body.get rfl) _ _;simp only[Tryz.f93,Option.get_some])
  exact au
 obtain⟨v,hv,hvn,hk⟩:=hw.val ho;have⟨n0,n1⟩:=hw.n ho;rw[hvn];by_cases h4:v.kind=4
 .obtain⟨hr,y,hy,hyd⟩:=hk h4;obtain⟨r0,r1⟩:=hr;have hss:=hs.small;simp only[A8.small,Bool.and_eq_true,decide_eq_true_eq]at hss;obtain⟨w0,w1⟩:=hw.at_;have hin:=UX st.sol.spots v.n w.at_ (by omega) hs.tree ⟨r0,r1⟩ w0
  obtain⟨S,xs,hS,gS,xS,lS,lS2⟩:=HX (hM.sl 0 (by omega)) hy;have uS:=hu S (V.s_mem m (i:=0) (by omega) (by rw[hS];simp[AE]));have a3:=AG uS;have a4:=Ar uS;rw[hS]at hm;simp only[FZ]at gS;replace hM:=AA.mk hM;replace hu:=AA.mk hu;by_cases ho8:x.op=8;all_goals
   rw[hyd];clear hk
   (refine Ak rfl Tryz.func93 rfl rfl rfl ?_;show Wp _ _ _ _ (Tryz.f93.body.get rfl) _ _;simp only[Tryz.f93,Option.get_some])
   (repeat' (first|simp only[go_sem, *,Bool.false_eq_true]|(refine sx ?_ ?_<;>intro hc)|refine sy (by omega) fun x hx hm=>?_|simp(disch:=first|assumption|omega) only[wrap_id,AK,AH,slice_int]))
   all_goals first|done|simp[*]
 .clear hk
  (refine Ak rfl Tryz.func93 rfl rfl rfl ?_;show Wp _ _ _ _ (Tryz.f93.body.get rfl) _ _;simp only[Tryz.f93,Option.get_some])
  exact au
end Go.Proofs
namespace Go.Proofs
open Go Go.Abs
set_option maxRecDepth 100000
set_option maxHeartbeats 4000000
theorem Ln{p:AJ}{sz:List Int}{s:A8}{i:Nat}{g:Ah}{d:CH}(hF:BO p sz)(h:MI p sz s i g d):g.env.length≤10000:=by
 have hf:=CA hF (Gu h.def_).2;obtain⟨_,_,v,_,_,_,_,h0,h1,h2,_⟩:=hf.node;have:=h.len;rw[h2,Option.getD_some]at this;have:=hf.ok.chans;have:=hf.ok.spots;unfold CH.own at*;omega
end Go.Proofs
namespace Go.Abs
def PA(ds:List Df):Prop:= ∀d∈ds,∃id,d=.mark id
theorem Tl:PA []=True:=by simp[PA]
theorem RP(id:Id)(ds:List Df):PA (.mark id::ds)=PA ds:=by simp[PA]
theorem PS{C:CG}{prot:Option (List Nat)}{p:Option AV}{h:AB}: ∀{ds:List Df},PA ds→Cr C prot ds p h=.ok (p,h)
 |[],_=>rfl
 |d::ds,hd=>by
  obtain⟨id,rfl⟩:=hd d (by simp);rw[RI];exact PS fun d hd2=>hd d (by simp[hd2])
attribute [go_sem] Tl RP PS
theorem gP(id:Id):(AV.yld id).cells=[.yld id]:=rfl
theorem pS(id:Id):AV.isCell (.yld id)=true:=rfl
attribute [go_sem] gP pS
end Go.Abs
namespace Go.Proofs
open Go Go.Abs
set_option maxRecDepth 100000
set_option maxHeartbeats 4000000
def WC(H:AB)(v:AV)(x:CJ):Prop:= ∃pv,v=.agg [.d (.int .i64 (x.wait)),.d (.int .i64 (x.group)),.d (.int .i64 (x.rule)),pv]∧((pv=.nils∧x.picks=[])∨eO H pv x.picks)
structure StepsIn(C:Abs.Id→Prop)(I:List CJ→AB→Prop)(π:List Nat)(h:AB)(id:Abs.Id)(L:List CJ)(g:AB):Prop where
 box:g.get (0::0::π)=some (.box [.yld id])
 eat:I L g
 frame: ∀i,¬C i→Id.under π i=false→g.get i=h.get i
structure Uf(C:Abs.Id→Prop)(I:List CJ→AB→Prop)(π:List Nat)(h:AB)(id:Abs.Id)(b c:Nat)(i k:Int)(gr:Ah)(L:List CJ)(g:AB):Prop where
 st:StepsIn C I π h id L g
 x6:g.get (0::(b+20)::π)=some (.box [.d (.int .i64 (i))])
 x7:g.get (0::(b+21)::π)=some (.box [.d (.int .i64 (gr.def_)),.d (.int .i64 (gr.at_)),.d (.lst (gr.env.map AN))])
 x8:g.get (0::(c+40)::π)=some (.box [.d (.int .i64 (k))])
theorem Uf.loc{C:Abs.Id→Prop}{I:List CJ→AB→Prop}{D:AZ→AB→Prop}{π:List Nat}{h:AB}{id:Abs.Id}(hE:QD WC id C I D π){b c:Nat}{i k:Int}{gr:Ah}{L:List CJ}{g H:AB}(hJ:Uf C I π h id b c i k gr L g)(hl: ∀x,(∀n,Id.is (1::n::π) x=false)→H.get x=g.get x):Uf C I π h id b c i k gr L H:=by
 have h0: ∀l,H.get (0::l)=g.get (0::l):=fun l=>hl _ fun n=>AD (by simp);exact⟨⟨(h0 _).trans hJ.st.box,hE.same hJ.st.eat fun i hi=>hl i fun n=>AG hi 1 n,fun i q1 q2=>(hl i fun n=>AG q2 1 n).trans (hJ.st.frame i q1 q2)⟩,(h0 _).trans hJ.x6,(h0 _).trans hJ.x7,(h0 _).trans hJ.x8⟩
theorem Uf.mv{C:Abs.Id→Prop}{I:List CJ→AB→Prop}{π:List Nat}{h:AB}{id:Abs.Id}{b c:Nat}{i k:Int}{gr:Ah}{L L':List CJ}{g H:AB}(hJ:Uf C I π h id b c i k gr L g)(hI:I L' H)(hb: ∀n,n=0∨n=b+20∨n=b+21∨n=c+40→H.get (0::n::π)=g.get (0::n::π))(hf: ∀i,¬C i→Id.under π i=false→H.get i=g.get i):Uf C I π h id b c i k gr L' H:=
 ⟨⟨(hb _ (by simp)).trans hJ.st.box,hI,fun i q1 q2=>(hf i q1 q2).trans (hJ.st.frame i q1 q2)⟩,(hb _ (by simp)).trans hJ.x6,(hb _ (by simp)).trans hJ.x7,(hb _ (by simp)).trans hJ.x8⟩
theorem kc{K:AL}{prot:Option (List Nat)}{ρ ρ2:List Nat}{id2:Abs.Id}{e:BS}{bs:Nat}{ds:List Df}{Q:DX→St→Prop}{t:z5}{args:List AV}{H:AB}{x:Abs.Id×Abs.Obj}{r:Lp}(hn: ∀r',r'=r→Gh ρ ρ2 id2 e bs ds Q (K t args (x::H.put id2 (.loop r')) ρ2 true prot)):Gh ρ ρ2 id2 e bs ds Q (K t args (x::H.put id2 (.loop r)) ρ2 true prot):=hn r rfl
theorem Wy(L:List Int)(k:Nat)(ρ:List Nat):BM (KL Tryz.prog cfg) 96 [.d (.lst (L.map AO))] (k::ρ)=.ok (.ret (.fn 158 [] [.ptr (0::0::k::ρ) 0]),[(0::0::k::ρ,.box [.d (.lst (L.map AO))])]):=by
 (refine Ay rfl Tryz.func96 rfl rfl rfl ?_;show Wp _ _ _ _ (Tryz.f96.body.get rfl) _ _;simp only[Tryz.f96,Option.get_some])
 exact au
theorem R8{p:AJ}{sz:List Int}(hF:BO p sz){h:AB}{π:List Nat}{m:Abs.Id}{V:MV}{st:CU}(hM:EE p sz h m V st)(hu:CF π V m)(hs:Fm p sz st.sol){id:Abs.Id}{C:Abs.Id→Prop}{I:List CJ→AB→Prop}{D:AZ→AB→Prop}(hE:QD WC id C I D π)(hCV: ∀i∈V.ids m,¬C i)(hI:I (Au p st.sol) h):
 ∃o h',KL Tryz.prog cfg (.fn 52) [.ptr m 0,.yld id] h π true none=.ok (o,h')∧zR C I D π h o h':=by
 have uC:=hE.apart;have hm:=hM.box;simp only[Aj]at hm;have um:=hu m (V.m_mem m);have e1:=AG um;have e2:=Ar um;have hss:=hs.small;simp only[A8.small,Bool.and_eq_true,decide_eq_true_eq]at hss;obtain⟨s1,s2,s3,s4⟩:=hss;have hl2:=Gy (hM.sl 2 (by omega));simp only[Aw,List.length_map]at hl2;have uid:=uC id hE.own;have i1:=AG uid;replace hM:=AA.mk hM;replace hu:=AA.mk hu;replace hE:=AA.mk hE;replace hCV:=AA.mk hCV;replace uC:=AA.mk uC;replace hs:=AA.mk hs
 (refine Ak rfl Tryz.func52 rfl rfl rfl ?_;show Wp _ _ _ _ (Tryz.f52.body.get rfl) _ _;simp only[Tryz.f52,Option.get_some])
 (repeat' (first|simp only[go_sem, *,↓hl2,Bool.false_eq_true]|(refine sx ?_ ?_<;>intro hc)|refine sy (by omega) fun x hx hm=>?_|simp(disch:=first|assumption|omega) only[wrap_id,AK,AH,slice_int]))
 have hW:AA (Au p st.sol=CC p st.sol 0 st.sol.waits++CL p st.sol 0 st.sol.groups):=⟨rfl⟩;obtain⟨G,hG⟩: ∃G,G=CL p st.sol 0 st.sol.groups:=⟨_,rfl⟩;rw[←hG]at hW;rw[hW.out]at hI;replace hI:=AA.mk hI;refine AX st.sol.waits _ (S:=fun m' i (a:AB×Nat)=>⟨[(0,.ptr m 0),(3,.ptr (0::0::π) 0),(13,BS.get [] 13),(18,V.s 2),(19,.d (.int .i64 (m'))),(20,.d (.int .i64 (i))),(102,BS.get [] 102),(103,BS.get [] 103),(104,BS.get [] 104),(105,BS.get [] 105),(106,BS.get [] 106),(107,BS.get [] 107),(108,BS.get [] 108),(109,BS.get [] 109)],a.1,a.2+8,[]⟩)
  (Inv:=fun i rest a=>AA (StepsIn C I π h id (CC p st.sol i rest++G) a.1)) (b0:=(_,0)) rfl ⟨⟨?_,hE.out.same hI.out fun i hi=>?_,fun i q1 q2=>?_⟩⟩ ?_ ?_
 .simp only[go_sem]
 .have q:=AG hi;simp only[go_sem,q,Bool.false_eq_true]
 .have q:=AG q2;simp only[go_sem,q,Bool.false_eq_true]
 .rintro i w ⟨g,b⟩ hy hi him hI2 IH;dsimp only at*;obtain⟨x,hw⟩:=P8 hF (hs.out.wait w (List.mem_of_getElem? hy));have hM2:=Bg hM.out (h':=g) fun i hi=>hI2.out.frame i (hCV.out i hi) (hu.out i hi);obtain⟨W,xs,hWs,gW,xW,lW,lW2⟩:=HX (hM2.sl 2 (by omega)) hy;have uW:=hu.out W (V.s_mem m (i:=2) (by omega) (by rw[hWs];simp[AE]));have a3:=AG uW;have a4:=Ar uW;have gB:=hI2.out.box;simp only[FZ]at gW;rw[hWs]at IH⊢;replace hM2:=AA.mk hM2;replace hWs:=AA.mk hWs;have hx2:=AA.mk hw;clear hw;have hgo:=AA.mk fun H hH=>qp (EA hM2.out hu.out (h':=H) hH) (hu.out.ext (b+17)) hs.out hx2.out;have box0:=AA.mk hI2.out.box;have hIe:=hI2.out.eat;rw[CC]at hIe;obtain⟨rest,hrest⟩: ∃t,t=CC p st.sol (i+1) (st.sol.waits.drop (i+1))++G:=⟨_,rfl⟩;have hI2f:=AA.mk hI2.out.frame;obtain⟨r,hr⟩:=hE.out.loop hIe;rw[List.append_assoc,←hrest]at hIe;replace hIe:=AA.mk hIe;replace hrest:=AA.mk hrest;have i2:=Dj uid;refine ax ?_;refine C0 (hgo.out _ fun i hi=>?_) (fun o1 g1 p1=>?_)
  .have q:=AG hi;simp only[go_sem,q,Bool.false_eq_true]
  subst p1;replace hI2:=AA.mk hI2;clear hgo;have same: ∀o o':Abs.Obj,∀i,Id.under π i=false→((g.put (0::(b+12)::π) o).put (0::(b+12)::π) o').get i=g.get i:=fun o o' i hi=>by
   rw[get_put,get_put,AG hi];rfl
  replace same:=AA.mk same;cases hg:goes p st.sol w with
  |true=>
   rw[hg]at hIe;replace hg:=AA.mk hg;refine ax ?_;refine Ab (hE.out.eat (x:=⟨i,0,0,[]⟩) (l:=rest) (hE.out.same hIe.out fun i hi=>same.out _ _ i hi) (by rw[same.out _ _ _ uid];exact hr) ⟨_,rfl,.inl ⟨rfl,rfl⟩⟩ (fun i hi=>AF hi _) (fun i hi=>by simp[AE,Al]at hi)) (fun o1 g1 p1=>?_);rcases p1 with⟨rfl,p1,p2⟩|⟨p0,p1,_⟩
   .have frm:AA (∀i,¬C i→Id.under π i=false→(gc ((b+22)::π) g1).get i=h.get i):=⟨fun i q1 q2=>by rw[AU _ _ _ (AF q2 _),p2 i q1 (AF q2 _),same.out _ _ i q2];exact hI2f.out i q1 q2⟩;have nC: ¬C (0::0::π):=fun hc=>by have:=uC.out _ hc;rw[show Id.under π (0::0::π)=true from Ao [0,0]]at this;cases this
    have box2:(gc ((b+22)::π) g1).get (0::0::π)=some (.box [.yld id]):=by
     rw[AU _ _ _ (BA π (by omega)),p2 _ nC (BA π (by omega))];rw[get_put,get_put,AD (by simp)];exact box0.out
    clear p2;replace box0:=AA.mk box2;replace p1:=AA.mk (hE.out.gcI p1 (b+22));refine ax ?_;refine IH.out (_,b+19) ⟨⟨box0.out,?_,frm.out⟩⟩;rw[←hrest.out];exact p1.out
   .replace p1:=AA.mk (hE.out.gcD p1 (b+22));rcases p0 with rfl|⟨v,rfl⟩
    .refine ax ?_;exact .inr (.inl ⟨rfl,p1.out⟩)
    .refine ax ?_;exact .inr (.inr ⟨⟨v,rfl⟩,p1.out⟩)
  |false=>
   rw[hg]at hIe;replace hg:=AA.mk hg;refine ax ?_;refine IH.out (_,b+19) ⟨⟨?_,?_,fun i q1 q2=>(same.out _ _ i q2).trans (hI2f.out i q1 q2)⟩⟩
   .dsimp only;rw[get_put,get_put,AD (by simp)];exact box0.out
   .rw[←hrest.out];exact hE.out.same hIe.out fun i hi=>same.out _ _ i hi
 .rintro i ⟨g,b⟩ hi him hI2;dsimp only at*;have hM2:=Bg hM.out (h':=g) fun i hi=>hI2.out.frame i (hCV.out i hi) (hu.out i hi);have hm2:=hM2.box;simp only[Aj]at hm2;have gB:=hI2.out.box;have hl1:=Gy (hM2.sl 1 (by omega));simp only[Aw,List.length_map]at hl1;replace hM2:=AA.mk hM2;rw[CC,List.nil_append,hG]at hI2;clear hI hW hG hl2 hi
  (repeat' (first|simp only[go_sem, *,↓hl1,Bool.false_eq_true]|(refine sx ?_ ?_<;>intro hc)|refine sy (by omega) fun x hx hm=>?_|simp(disch:=first|assumption|omega) only[wrap_id,AK,AH,slice_int]))
  refine AX st.sol.groups _ (S:=fun m' i (a:AB×Nat×List Df)=>⟨[(0,.ptr m 0),(3,.ptr (0::0::π) 0),(13,BS.get [] 13),(40,V.s 1),(41,.d (.int .i64 (m'))),(42,.d (.int .i64 (i))),(102,BS.get [] 102),(103,BS.get [] 103),(104,BS.get [] 104),(105,BS.get [] 105),(106,BS.get [] 106),(107,BS.get [] 107),(108,BS.get [] 108),(109,BS.get [] 109)],a.1,a.2.1+16,a.2.2⟩)
   (Inv:=fun i rest a=>AA (StepsIn C I π h id (CL p st.sol i rest) a.1)∧PA a.2.2) (b0:=(_,b,[])) rfl ⟨hI2,by rw[Tl];trivial⟩ ?_ ?_
  .clear hM2 hm2 gB hl1 hI2;clear him i g;clear b;rintro i gr ⟨g,b,ds⟩ hy hi him ⟨hI2,hds⟩ IH;have b1: ¬b+1=b:=by omega
   have b3: ¬b=b+1:=by omega
   dsimp only at*;obtain⟨d,hd⟩:=hs.out.grp i gr hy;obtain⟨g0,hdd⟩:=Gu hd.def_;have hdl:=AI hdd;have hdr:=(CA hF hdd).ok.rules;have hM2:=Bg hM.out (h':=g) fun i hi=>hI2.out.frame i (hCV.out i hi) (hu.out i hi);have hm2:=hM2.box;simp only[Aj]at hm2;obtain⟨W,xs,hWs,gW,xW,lW,lW2⟩:=HX (hM2.sl 1 (by omega)) hy;have uW:=hu.out W (V.s_mem m (i:=1) (by omega) (by rw[hWs];simp[AE]));have a3:=AG uW;have a4:=Ar uW;have gB:=hI2.out.box;simp only[FZ]at gW;rw[hWs]at IH⊢;replace hM2:=AA.mk hM2;replace hWs:=AA.mk hWs;replace hd:=AA.mk hd;refine ax ?_;have hg2:AA (CL p st.sol i (gr::st.sol.groups.drop (i+1))=BX st.sol d gr i 0 d.rules++CL p st.sol (i+1) (st.sol.groups.drop (i+1))):=⟨by rw[CL,hd.out.def_]⟩;have same: ∀o1 o2 o3 o4:Abs.Obj,∀i,Id.under π i=false→((((g.put (0::(b+20)::π) o1).put (0::(b+21)::π) o2).put (0::(b+20)::π) o3).put (0::(b+21)::π) o4).get i=g.get i:=fun o1 o2 o3 o4 i hi=>by
    rw[get_put,get_put,get_put,get_put,AG hi,AG hi];rfl
   obtain⟨R,hR⟩: ∃R,R=CL p st.sol (i+1) (st.sol.groups.drop (i+1)):=⟨_,rfl⟩;rw[←hR]at hg2;rw[hg2.out]at hI2;refine AX d.rules _ (S:=fun m' k (a:AB×Nat×List Df)=>⟨[(0,.ptr m 0),(3,.ptr (0::0::π) 0),(6,.ptr (0::(b+20)::π) 0),(7,.ptr (0::(b+21)::π) 0),(13,BS.get [] 13),(40,.osl W 0 st.sol.groups.length),(41,.d (.int .i64 (st.sol.groups.length))),(42,.d (.int .i64 (i))),(56,.d (.lst (d.rules.map BJ))),(57,.d (.int .i64 (m'))),(58,.d (.int .i64 (k))),(102,BS.get [] 102),(103,BS.get [] 103),(104,BS.get [] 104),(105,BS.get [] 105),(106,BS.get [] 106),(107,BS.get [] 107),(108,BS.get [] 108),(109,BS.get [] 109)],a.1,a.2.1+36,a.2.2⟩)
    (Inv:=fun k rest a=>AA (StepsIn C I π h id (BX st.sol d gr i k rest++R) a.1)∧a.1.get (0::(b+20)::π)=some (.box [.d (.int .i64 (i))])∧a.1.get (0::(b+21)::π)=some (.box [.d (.int .i64 (gr.def_)),.d (.int .i64 (gr.at_)),.d (.lst (gr.env.map AN))])∧b≤a.2.1∧PA a.2.2) (b0:=(_,b,ds)) rfl ⟨⟨⟨?_,hE.out.same hI2.out.eat fun i hi=>same _ _ _ _ i hi,fun i q1 q2=>(same _ _ _ _ i q2).trans (hI2.out.frame i q1 q2)⟩⟩,?_,?_,Nat.le_refl _,hds⟩ ?_ ?_
   .dsimp only;rw[get_put,get_put,get_put,get_put,AD (by simp),AD (by simp)];exact gB
   .simp only[go_sem,b1,b3]
   .simp only[go_sem,b1,b3]
   .clear hg2 same hI2 hm2 gB gW a3 a4 xW lW lW2;clear hM2;clear hds ds;rintro k r ⟨g2,c,ds⟩ hr hk hkm ⟨hI3,x6,x7,hbc,hds⟩ IHk;dsimp only at*;have hri:=N7 hF hs.out hy hd.out (List.mem_of_getElem? hr);have hM2:=Bg hM.out (h':=g2) fun i hi=>hI3.out.frame i (hCV.out i hi) (hu.out i hi);have hm2:=hM2.box;simp only[Aj]at hm2;have hl1:=Gy (hM2.sl 1 (by omega));have r0:=hri.place.1;have r1:=hri.place.2;obtain⟨y,hyp⟩:=get_some (l:=st.sol.spots) (i:=(gr.place d r.at_).toNat) (by omega);obtain⟨S,ys,hSs,gS,xS,lS,lS2⟩:=HX (hM2.sl 0 (by omega)) hyp;have uS:=hu.out S (V.s_mem m (i:=0) (by omega) (by rw[hSs];simp[AE]));have a3:=AG uS;have a4:=Ar uS;have c1: ¬c+1=c:=by omega
    have c0: ¬c=c+1:=by omega
    have hpl:=AA.mk fun(H:AB) (n:Nat) (hH:H.get m=g2.get m)=>L6 (ds:=p.defs) (g:=gr) (d:=d) (hH.trans hm2) (AF um n) g0 hdd (CA hF hdd).ok.chans (CA hF hdd).ok.spots (Lo hd.out) (Ln hF hd.out) r.at_ hri.at0 hri.at1;have c2: ¬c+20=b:=by omega
    have c3: ¬c+19=b:=by omega
    have c4: ¬c+21=b:=by omega
    have c5: ¬b=c+20:=by omega
    have c6: ¬b=c+19:=by omega
    have c7: ¬b=c+21:=by omega
    simp only[FZ]at gS;rw[hSs]at hm2;have same2: ∀o1 o2 o3 o4:Abs.Obj,∀i,Id.under π i=false→((((g2.put (0::(c+40)::π) o1).put (0::(c+41)::π) o2).put (0::(c+40)::π) o3).put (0::(c+41)::π) o4).get i=g2.get i:=fun o1 o2 o3 o4 i hi=>by
     rw[get_put,get_put,get_put,get_put,AG hi,AG hi];rfl
    replace hM2:=AA.mk hM2;replace hri:=AA.mk hri;refine ax ?_;refine Cm (hpl.out _ _ ?_) (fun o1 g1 p1=>?_)
    .simp only[go_sem,e1,Bool.false_eq_true]
    subst p1;cases hyd:y.dead with
    |true=>
     have hz:AA (I (BX st.sol d gr (i:Nat) (k+1) (d.rules.drop (k+1))++R) g2):=⟨by
      have:=hI3.out.eat
      rwa [BX,DQ,if_pos (by rw[AY,hyp];exact hyd),List.map_nil,List.nil_append]at this⟩
     refine ax ?_;refine IHk.out (_,c+23,ds) ⟨⟨⟨?_,hE.out.same hz.out fun i hi=>same2 _ _ _ _ i hi,fun i q1 q2=>(same2 _ _ _ _ i q2).trans (hI3.out.frame i q1 q2)⟩⟩,?_,?_,by dsimp only;omega,hds⟩
     .dsimp only;rw[get_put,get_put,get_put,get_put,AD (by simp),AD (by simp)];exact hI3.out.box
     .simp only[go_sem,x6,c0,c1,c2,c3,c4,c5,c6,c7]
     .simp only[go_sem,x7,c0,c1,c2,c3,c4,c5,c6,c7]
    |false=>
     refine ax ?_;obtain⟨g3,hg3⟩: ∃g3,g3=((((g2.put (0::(c+40)::π) (.box [.d (.int .i64 (0))])).put (0::(c+41)::π) (.box [.d (.int .i64 (0)),.nils,.d (.int .i64 (0))])).put (0::(c+40)::π) (.box [.d (.int .i64 (k))])).put (0::(c+41)::π) (.box [.d (.int .i64 (r.at_)),.d (.lst (r.joins.map AO)),.d (.int .i64 (r.node))])):=⟨_,rfl⟩;rw[←hg3];have hgs: ∀i,Id.under π i=false→g3.get i=g2.get i:=fun i hi=>by rw[hg3];exact same2 _ _ _ _ i hi
     have hJ0:Uf C I π h id b c i k gr (BX st.sol d gr i k (r::d.rules.drop (k+1))++R) g3:=by
      refine⟨⟨?_,hE.out.same hI3.out.eat fun i hi=>hgs i hi,fun i q1 q2=>(hgs i q2).trans (hI3.out.frame i q1 q2)⟩,?_,?_,?_⟩;all_goals rw[hg3]
      .rw[get_put,get_put,get_put,get_put,AD (by simp),AD (by simp)];exact hI3.out.box
      .simp only[go_sem,x6,c0,c1,c2,c3,c4,c5,c6,c7]
      .simp only[go_sem,x7,c0,c1,c2,c3,c4,c5,c6,c7]
      .simp only[go_sem,c0,c1,c2,c3,c4,c5,c6,c7]
     have hpick:AA (DQ st.sol d gr r=Ct (Bn st.sol d gr r)):=⟨by rw[DQ,if_neg (by rw[AY,hyp,Option.map_some,Option.getD_some,hyd];simp)]⟩;clear hgs same2 hm2 hl1 gS xS lS lS2 a3 a4 hyp hI3 x6 x7 hg3 hpl hSs hyd;clear hM2;refine AX r.joins _ (S:=fun m' j (a:(AV×AB)×Nat)=>⟨[(0,.ptr m 0),(3,.ptr (0::0::π) 0),(6,.ptr (0::(b+20)::π) 0),(7,.ptr (0::(b+21)::π) 0),(8,.ptr (0::(c+40)::π) 0),(10,a.1.1),(13,BS.get [] 13),(40,.osl W 0 st.sol.groups.length),(41,.d (.int .i64 (st.sol.groups.length))),(42,.d (.int .i64 (i))),(56,.d (.lst (d.rules.map BJ))),(57,.d (.int .i64 (d.rules.length))),(58,.d (.int .i64 (k))),(77,.d (.lst (r.joins.map AO))),(78,.d (.int .i64 (m'))),(79,.d (.int .i64 (j))),(102,BS.get [] 102),(103,BS.get [] 103),(104,BS.get [] 104),(105,BS.get [] 105),(106,BS.get [] 106),(107,BS.get [] 107),(108,BS.get [] 108),(109,BS.get [] 109)],a.1.2,a.2+62,ds⟩)
      (Inv:=fun j rest a=>AA (Uf C I π h id b c i k gr (BX st.sol d gr i k (r::d.rules.drop (k+1))++R) a.1.2)∧c≤a.2∧AA ((j=0∧a.1.1=.nils)∨ ∃n,0<j∧n<a.2+62∧a.1.1=.osl (1::n::π) 0 j∧a.1.2.get (1::n::π)=some (.darr 1 (((r.joins.take j).map fun q=>((Sn st.sol (gr.own d true q):Nat):Int)).map AO)))) (b0:=((_,_),c)) rfl ⟨⟨hJ0⟩,Nat.le_refl _,⟨.inl ⟨rfl,rfl⟩⟩⟩ ?_ ?_
     .clear hJ0 IHk g2 g3;rintro j q ⟨⟨v,g4⟩,e⟩ hq hj hjm ⟨hJ,hce,hv⟩ IHj;dsimp only at*;obtain⟨q0,q1,o0,ch,hch,ch12,hql⟩:=hri.out.join q (List.mem_of_getElem? hq);have hM2:=Bg hM.out (h':=g4) fun i hi=>hJ.out.st.frame i (hCV.out i hi) (hu.out i hi);have hm2:=hM2.box;simp only[Aj]at hm2;obtain⟨qv,hrow,hqs⟩:=hM2.chans.row _ _ hch;have hlq:=Gy hqs;rw[List.length_map]at hlq;have hA:=hM2.arr;rcases hA with⟨_,hA⟩|⟨A,hA,gA⟩
      .rw[hA]at hrow;simp at hrow
      have lA:=AI hrow;have uA:=hu.out A (V.v3_mem m (by rw[hA];simp[AE]));have a3:=AG uA;have a4:=Ar uA;rw[hA]at hm2;have x7:=hJ.out.x7;simp only[Aq]at hrow;have hown:=AA.mk fun(H:AB) (n:Nat) (hH:H.get m=g4.get m)=>Vb (ds:=p.defs) (g:=gr) (d:=d) (hH.trans hm2) (AF um n) g0 hdd (CA hF hdd).ok.chans (CA hF hdd).ok.spots (Lo hd.out) (Ln hF hd.out) true q q0 (by simpa using q1);have ht:AA (((r.joins.take (j+1)).map fun q=>((Sn st.sol (gr.own d true q):Nat):Int))=((r.joins.take j).map fun q=>((Sn st.sol (gr.own d true q):Nat):Int))++[(ch.queue.length:Int)]):=⟨by rw[List.take_add_one,hq];simp[hql]⟩;replace hql:=AA.mk hql;replace hM2:=AA.mk hM2;replace hqs:=AA.mk hqs;rcases hv.out with⟨rfl,rfl⟩|⟨n,hj0,hn,rfl,hg⟩
      .clear hv;have hj0:(0:Int)<r.joins.length:=hjm
       (repeat' (first|simp only[go_sem, *,↓hlq,Bool.false_eq_true]|(refine sx ?_ ?_<;>intro hc)|refine sy (by omega) fun x hx hm=>?_|simp(disch:=first|assumption|omega) only[wrap_id,AK,AH,slice_int]))
       refine Cm (hown.out _ _ rfl) (fun o1 g1 p1=>?_);subst p1
       (repeat' (first|simp only[go_sem, *,↓hlq,Bool.false_eq_true]|(refine sx ?_ ?_<;>intro hc)|refine sy (by omega) fun x hx hm=>?_|simp(disch:=first|assumption|omega) only[wrap_id,AK,AH,slice_int]))
       refine IHj.out ((_,_),e+23) ⟨⟨hJ.out.loc hE.out fun x hx=>?_⟩,by dsimp only;omega,⟨.inr ⟨e+81,by omega,by dsimp only;omega,rfl,?_⟩⟩⟩
       .dsimp only;rw[get_put,get_put,hx,hx];rfl
       .rw[ht.out];simp only[go_sem,List.take_zero,List.map_nil,List.nil_append]
      .clear hv;obtain⟨L,hL⟩: ∃L,L=(r.joins.take j).map fun q=>((Sn st.sol (gr.own d true q):Nat):Int):=⟨_,rfl⟩;have d0:L.length=j:=by rw[hL,List.length_map,List.length_take];omega
       have d1:List.take j (L.map AO)=L.map AO:=List.take_of_length_le (by simp;omega);have d2:j+1≤4:=by have:=hri.out.j1;omega
       have d3: ¬e+80=n:=by omega
       have d4: ¬n=e+80:=by omega
       have d5: ¬e+81=n:=by omega
       have d6: ¬n=e+81:=by omega
       rw[←hL]at ht hg;replace hL:=AA.mk hL
       (repeat' (first|simp only[go_sem, *,↓hlq,Bool.false_eq_true]|(refine sx ?_ ?_<;>intro hc)|refine sy (by omega) fun x hx hm=>?_|simp(disch:=first|assumption|omega) only[wrap_id,AK,AH,slice_int]))
       refine Cm (hown.out _ _ rfl) (fun o1 g1 p1=>?_);subst p1
       (repeat' (first|simp only[go_sem, *,↓hlq,Bool.false_eq_true]|(refine sx ?_ ?_<;>intro hc)|refine sy (by omega) fun x hx hm=>?_|simp(disch:=first|assumption|omega) only[wrap_id,AK,AH,slice_int]))
       refine IHj.out ((_,_),e+23) ⟨⟨hJ.out.loc hE.out fun x hx=>?_⟩,by dsimp only;omega,⟨.inr ⟨e+81,by omega,by dsimp only;omega,rfl,?_⟩⟩⟩
       .dsimp only;rw[get_put,get_put,get_put,hx,hx,hx];rfl
       .rw[ht.out];simp only[go_sem,List.map_append,d3,d4,d5,d6]
     .clear hJ0;rintro j ⟨⟨v,g4⟩,e⟩ hj hjm ⟨hJ,hce,hv⟩;dsimp only at*;rcases hv.out with⟨rfl,rfl⟩|⟨n,hj0,hn,rfl,hg⟩
      .exact absurd hri.out.j0 (by have:=hj.out;omega)
      have hmany:AA (((r.joins.take j).map fun q=>((Sn st.sol (gr.own d true q):Nat):Int))=(Bn st.sol d gr r).map fun(n:Nat)=>(n:Int)):=⟨by rw[hj.out,List.take_length,Bn,List.map_map];rfl⟩;rw[hmany.out]at hg;have hlen:(Bn st.sol d gr r).length=j:=by rw[Bn,List.length_map,hj.out]
      obtain⟨many,hmn⟩: ∃many,many=Bn st.sol d gr r:=⟨_,rfl⟩;rw[←hmn]at hg hlen;have tk:List.take j ((many.map fun(n:Nat)=>(n:Int)).map AO)=(many.map fun(n:Nat)=>(n:Int)).map AO:=List.take_of_length_le (by simp;omega);have hch:=Wy (many.map fun(n:Nat)=>(n:Int)) (e+64) π;have jl:j≤many.length:=by omega
      replace hlen:=AA.mk hlen;replace hmn:=AA.mk hmn;replace hmany:=AA.mk hmany;clear hv;refine ax ?_;refine kc fun r0 hr0=>?_;have nC: ∀n,¬C (0::n::π):=fun n hc=>by have:=uC.out _ hc;rw[show Id.under π (0::n::π)=true from Ao [0,n]]at this;cases this
      obtain⟨I',hI'⟩: ∃I':List (List Int)→AB→Prop,I'=fun l g=>Uf C I π h id b c i k gr ((l.map fun t=>⟨-1,i,k,t⟩)++(BX st.sol d gr i (k+1) (d.rules.drop (k+1))++R)) g∧g.get (0::(e+65)::π)=some (.loop r0):=⟨_,rfl⟩;obtain⟨D',hD'⟩: ∃D':AZ→AB→Prop,D'=fun o g=>(o=.ret (.d (.bool (false)))∧D (.ret (.d (.bool (false)))) g∧g.get (0::(e+65)::π)=some (.loop {r0 with state:=.done,pend:=some .ret}))∨((∃v,o=.pan v)∧D o g):=⟨_,rfl⟩
      have hE2:QD eO (0::(e+65)::π) (fun i=>C i∨i=0::(e+65)::π) I' D' ((e+66)::π):=by
       refine⟨.inr rfl,fun i hi=>?_,fun hI=>?_,fun{x l H ρ v r} hI hr hv hρ hid=>?_,fun hI hs=>?_,fun hD hs=>?_⟩
       .rcases hi with hi|rfl
        .exact AF (uC.out i hi) _
        .exact BA π (by omega)
       .rw[hI']at hI;exact⟨_,hI.2⟩
       .rw[hI']at hI;obtain⟨hJ,hlo⟩:=hI;rw[hlo]at hr;cases hr;obtain⟨idx,rfl,hga,lx,rfl⟩:=hv;rw[List.map_cons,List.cons_append]at hJ;have hidx:=hid (1::lx) (by simp[AE]);have bx0:=hJ.st.box;have bx6:=hJ.x6;have bx8:=hJ.x8;obtain⟨r2,hr2⟩:=hE.out.loop hJ.st.eat;have n1: ¬e+65=b+20:=by omega
        have n2: ¬e+65=c+40:=by omega
        have hE3:=AA.mk fun(H':AB) (q: ∀i,Id.under π i=false→H'.get i=H.get i)=>hE.out.same hJ.st.eat q;have u2:Id.under ρ (0::(e+65)::π)=false:=hρ _ (BA π (by omega));replace hJ:=AA.mk hJ;replace hρ:=AA.mk hρ;subst hr0;refine Ef rfl ?_;clear hid;replace hI':=AA.mk hI';replace hD':=AA.mk hD';refine ax ?_;refine Ab (hE.out.eat (hE3.out _ fun i hi=>?_) (by simp only[go_sem,i1,hr2,Bool.false_eq_true]) ⟨_,rfl,.inr ⟨1::lx,rfl,?_,lx,rfl⟩⟩ (fun i hi=>AF (hρ.out i (AF hi _)) _) (fun i hi=>?_)) (fun o1 g1 p1=>?_)
        .have q:=AG hi;simp only[go_sem,q,Bool.false_eq_true]
        .rw[get_put,AD (by simp)];exact hga
        .simp only[AE,Al,List.nil_append,List.append_nil,List.mem_singleton]at hi;subst hi;exact⟨fun hc=>hidx.1 (.inl hc),AF hidx.2.1 _,BH hidx.2.2⟩
        have hb0: ∀n,¬n=e+65→ ¬n=e+66→ ∀o,(H.put (0::(e+65)::π) o).get (0::n::π)=H.get (0::n::π):=fun n q1 q2 o=>by rw[get_put,AD (by simp;omega)];rfl
        rcases p1 with⟨rfl,p1,p2⟩|⟨p0,p1,p2⟩
        .have glo:=(AU (6::ρ) g1 _ (AF u2 _)).trans (p2 _ (nC _) (AF u2 _));rw[get_put,is_self]at glo;replace p1:=AA.mk p1;replace p2:=AA.mk p2;refine ax ?_;have fr: ∀o,∀i,¬C i→ ¬i=0::(e+65)::π→Id.under ρ i=false→((gc (6::ρ) g1).put (0::(e+65)::π) o).get i=H.get i:=fun o i q1 q2 q3=>by
          rw[get_put,AD (fun e=>q2 e.symm),AU _ _ _ (AF q3 _),p2.out i q1 (AF q3 _),get_put,AD (fun e=>q2 e.symm)];rfl
         refine .inl ⟨rfl,?_,fun i2 q1 q2=>?_⟩
         .rw[hI'.out];refine⟨hJ.out.mv ?_ (fun n hn=>fr _ _ (nC n) (by simp;omega) (hρ.out _ (BA π (by omega)))) fun i q1 q2=>fr _ _ q1 (fun e=>by rw[e,show Id.under π (0::_::π)=true from Ao [0,_]]at q2;cases q2) (hρ.out _ (AF q2 _)),?_⟩
          .refine hE.out.same p1.out fun i hi=>?_;have q:=AG hi;rw[get_put,q,AU _ _ _ (AF (hρ.out _ (AF hi _)) _)];rfl
          .rw[get_put,is_self];rfl
         .exact fr _ i2 (fun h=>q1 (.inl h)) (fun h=>q1 (.inr h)) q2
        .have glo:=(AU (6::ρ) g1 _ (AF u2 _)).trans (p2 _ (Ao [0,e+65]) (AF u2 _));rw[get_put,is_self]at glo;have kp: ∀j,Id.under ((e+66)::π) (0::j)=true→Id.under ρ (0::j)=false→(gc (6::ρ) g1).get (0::j)=H.get (0::j):=fun i q1 q2=>by
          have q3:Id.is (0::(e+65)::π) (0::i)=false:=AD fun e3=>by rw[←e3,BA π (by omega)]at q1;cases q1
          rw[AU _ _ _ (AF q2 _),p2 i (BH q1) (AF q2 _),get_put,q3];rfl
         have sD:=hE.out.sameD (H':=gc (6::ρ) g1) p1 fun i hi=>by
          rcases hi with hi|⟨l,rfl⟩
          .exact AU _ _ _ (AF (hρ.out _ (AF hi _)) _)
          .exact GF _ _ _
         replace kp:=AA.mk kp;replace sD:=AA.mk sD;clear p1 p2;rcases p0 with rfl|⟨v,rfl⟩
         .refine ax ?_;refine .inr ⟨.inl rfl,?_,fun i q1 q2=>?_⟩
          .rw[hD'.out];refine .inl ⟨rfl,hE.out.sameD sD.out fun i hi=>?_,by rw[get_put,is_self];rfl⟩;rw[get_put,show Id.is (0::(e+65)::π) i=false by
            rcases hi with hi|⟨l,rfl⟩
            .exact AG hi _ _
            .exact AD (by simp)]
           rfl
          .rw[get_put,AD fun e3=>by rw[←e3,BA π (by omega)]at q1;cases q1];exact kp.out i q1 q2
         .refine ax ?_;exact .inr ⟨.inr ⟨v,rfl⟩,by rw[hD'.out];exact .inr ⟨⟨v,rfl⟩,sD.out⟩,kp.out⟩
       .rw[hI']at hI⊢;obtain⟨hJ,hlo⟩:=hI;have u0: ∀n,¬n=e+66→Id.under ((e+66)::π) (0::n::π)=false:=fun n hn=>BA π hn;exact⟨hJ.mv (hE.out.same hJ.st.eat fun i hi=>hs i (AF hi _)) (fun n hn=>hs _ (u0 n (by omega))) fun i q1 q2=>hs i (AF q2 _),(hs _ (u0 _ (by omega))).trans hlo⟩
       .rw[hD']at hD⊢;have key: ∀o,D o _→D o _:=fun o hd=>hE.out.sameD hd fun i hi=>hs i (hi.imp_left fun hi=>AF hi _);rcases hD with⟨h1,h2,h3⟩|⟨h1,h2⟩
        .exact .inl ⟨h1,key _ h2,(hs _ (.inl (BA π (by omega)))).trans h3⟩
        .exact .inr ⟨h1,key _ h2⟩
      have hst:I' (Ct many) ((0::0::(e+64)::π,Abs.Obj.box [.d (.lst ((many.map fun(n:Nat)=>(n:Int)).map AO))])::(g4.put (1::n::π) (Obj.fro 1 ((many.map fun(n:Nat)=>(n:Int)).map AO))).put (0::(e+65)::π) (.loop r0)):=by
       have q0: ∀i,Id.is (1::n::π) i=false→Id.is (0::(e+65)::π) i=false→Id.is (0::0::(e+64)::π) i=false→ ∀o o1 o2,AB.get ((0::0::(e+64)::π,o)::(g4.put (1::n::π) o1).put (0::(e+65)::π) o2) i=g4.get i:=fun i q1 q2 q3 o o1 o2=>by
        rw[BN,q3,get_put,q2,get_put,q1];rfl
       rw[hI'];refine⟨hJ.out.mv (hE.out.same (by
        have:=hJ.out.st.eat;rw[BX,hpick.out,←hmn.out,List.append_assoc]at this;exact this) fun i hi=>?_) (fun n2 hn2=>?_) fun i _ hi=>?_,?_⟩
       .exact q0 i (AG hi _ _) (AG hi _ _) (AG (AF hi _) _ _) _ _ _
       .exact q0 _ (AD (by simp)) (AD (by simp;omega)) (AD (by simp)) _ _ _
       .exact q0 i (AG hi _ _) (AG hi _ _) (AG (AF hi _) _ _) _ _ _
       .rw[BN,AD (by simp),get_put,is_self];rfl
      have m0:0<many.length:=by have:=hlen.out;omega
      have m1:many.length≤1000:=by have:=hlen.out;have:=hj.out;have:=hri.out.j1;omega
      refine JN (Zv m0 m1 (fun n hn=>?_) hE2 (B:=0::0::(e+64)::π) ?_ ?_ ?_ hst) (fun o1 g5 p1=>?_)
      .rw[hmn.out,Bn]at hn;obtain⟨q,hq,rfl⟩:=List.mem_map.1 hn;obtain⟨_,_,_,ch,_,h12,hql⟩:=hri.out.join q hq;rw[hql];omega
      .rw[BN,is_self];rfl
      .cases hx:Id.under ((e+66)::π) (0::0::(e+64)::π)with
       |false=>rfl
       |true=>
        have:=CB hx (n':=e+64) (under_iff.2 ⟨[0,0],rfl⟩);omega
      .rintro(hc|hc)
       .have:=uC.out _ hc;rw[show Id.under π (0::0::(e+64)::π)=true from Ao [0,0,e+64]]at this;cases this
       .simp at hc
      rcases p1 with⟨rfl,p1,p2⟩|⟨rfl,p1⟩|⟨⟨v,rfl⟩,p1⟩
      .rw[hI']at p1;have glo:=p1.2;replace p1:=AA.mk p1;replace p2:=AA.mk p2;replace hI':=AA.mk hI';replace hD':=AA.mk hD';clear hst;clear hE2;subst hr0;refine ax ?_;have hJ5:=p1.out.1;have gg: ∀i,Id.under ((e+65)::π) i=false→Id.under ((e+66)::π) i=false→(gc ((e+65)::π) (gc ((e+66)::π) g5)).get i=g5.get i:=fun i q1 q2=>by rw[AU _ _ _ q1,AU _ _ _ q2]
       have gb: ∀n,n≤c+40→(gc ((e+65)::π) (gc ((e+66)::π) g5)).get (0::n::π)=g5.get (0::n::π):=fun n hn=>gg _ (BA π (by omega)) (BA π (by omega));refine IHk.out (_,e+33,_) ⟨⟨⟨(gb _ (by omega)).trans hJ5.st.box,hE.out.gcI (hE.out.gcI hJ5.st.eat _) _,fun i q1 q2=>(gg i (AF q2 _) (AF q2 _)).trans (hJ5.st.frame i q1 q2)⟩⟩,(gb _ (by omega)).trans hJ5.x6,(gb _ (by omega)).trans hJ5.x7,by dsimp only;omega,by rw[RP];exact hds⟩
      .rw[hD']at p1;rcases p1 with⟨_,p1,glo⟩|⟨⟨v,hv⟩,_⟩
       .replace p1:=AA.mk p1;replace hI':=AA.mk hI';replace hD':=AA.mk hD';clear hst;clear hE2;subst hr0;refine ax ?_;exact .inr (.inl ⟨rfl,hE.out.gcD (hE.out.gcD p1.out _) _⟩)
       .cases hv
      .rw[hD']at p1;rcases p1 with⟨hv,_⟩|⟨_,p1⟩
       .cases hv
       .replace p1:=AA.mk p1;refine ax ?_;exact .inr (.inr ⟨⟨v,rfl⟩,hE.out.gcD (hE.out.gcD p1.out _) _⟩)
   .rintro k ⟨g2,c,ds⟩ hr hkm ⟨hI3,x6,x7,hbc,hds⟩;dsimp only at*;have h3:=hI3.out;rw[BX,List.nil_append]at h3;replace h3:=AA.mk h3;refine ax ?_;refine IH.out (_,c+23,_) ⟨⟨?_⟩,hds⟩;rw[←hR];exact h3.out
  .rintro i ⟨g,b2,ds⟩ hi him2 ⟨hI2,hds⟩;dsimp only at*;rw[CL]at hI2;refine ax ?_;exact .inl ⟨rfl,hI2.out.eat,hI2.out.frame⟩
end Go.Proofs
namespace Go.Proofs
open Go Go.Abs
set_option maxRecDepth 100000
set_option maxHeartbeats 4000000
structure Pv(p:AJ)(sz:List Int)(π:List Nat)(m:Abs.Id)(V:MV)(h:AB)(st:CU)(d:CH)(g:Ah)(r:FP)(t:List Int)(j b:Nat)(v:AV)(H:AB)(V':MV)(s':A8)(L:List Cc):Prop where
 run:B9 p sz π m V h b V' ⟨s',st.ev,0⟩ H
 env:NB π H b v L
 out: ∀i∈AE v,i∉V'.ids m
 ne:L=[]→v=.nils
 sok:Fm p sz s'
 all:Bc d g r.joins t st.sol=(L++(Bc d g (r.joins.drop j) (t.drop j) s').1,(Bc d g (r.joins.drop j) (t.drop j) s').2)
 groups:s'.groups=st.sol.groups
 spots:s'.spots=st.sol.spots
 nc:s'.chans.length=st.sol.chans.length
 rest: ∀(i:Nat) c k,j≤i→r.joins[i]? =some c→t[i]? =some k→0≤k∧ ∃q,s'.chans[(g.own d true c).toNat]? =some q∧k.toNat<q.queue.length∧q.queue.length≤12∧Dd p s' q=((d.chans[c.toNat]?).map HP.many).getD 0
 len:L.length≤30*j
theorem fK{p:AJ}{sz:List Int}{s:A8}{d:CH}{c:Int}{n:Nat}{q:Fa}{a:Nat}{msg:List Cc}(hd:QC d)(hs:Fm p sz s)(hq:s.chans[n]? =some q)(hmsg:q.queue[a]? =some msg)(hm:Dd p s q=((d.chans[c.toNat]?).map HP.many).getD 0):msg.length≤3:=by
 have h1:=(hs.que _ q hq).msgs msg (List.mem_of_getElem? hmsg);simp only[Hb,Bool.and_eq_true,decide_eq_true_eq]at h1;rw[hm]at h1;cases hc:d.chans[c.toNat]? with
 |none=>
  rw[hc]at h1;simp only[Option.map_none,Option.getD_none]at h1;omega
 |some ch=>
  rw[hc]at h1;have h2:=(hd.chan ch (List.mem_of_getElem? hc)).2.2;have h3:=h1.1;simp only[Option.map_some,Option.getD_some]at h3;omega
theorem B9.oth{p:AJ}{sz:List Int}{π:List Nat}{m:Abs.Id}{V V':MV}{h g H:AB}{b:Nat}{st:CU}(hr:B9 p sz π m V h b V' st g){x:Abs.Id}(hx:x∉V'.ids m)(hxu:Id.under π x=true)(hl: ∀id,id≠x→H.get id=g.get id):B9 p sz π m V h b V' st H:=
 ⟨Bg hr.rep fun id hid=>hl id fun e=>hx (e▸hid),hr.ids,fun id h1 h2=>by rw[hl id fun e=>by rw[e,hxu]at h2;cases h2];exact hr.frame id h1 h2⟩
theorem B9.new{p:AJ}{sz:List Int}{π:List Nat}{m:Abs.Id}{V V':MV}{h g:AB}{b:Nat}{st:CU}(hu:CF π V m)(hr:B9 p sz π m V h b V' st g)(a n:Nat)(hn:b≤n):a::n::π∉V'.ids m:=fun hh=>by
 have:=Eo (b':=0) hu (hr.ids _ hh) a n hn;rw[is_self]at this;cases this
theorem Ic{b b' n:Nat}{π:List Nat}{id:Abs.Id}(h:HB b b' π id=false)(h1:b≤n)(h2:n<b'):Id.under (n::π) id=false:=by
 cases hx:Id.under (n::π) id with
 |false=>rfl
 |true=>have:=Ib.2 ⟨n,h1,h2,hx⟩;rw[h]at this;cases this
theorem dU{p:AJ}{sz:List Int}{π:List Nat}{m:Abs.Id}{V:MV}{h:AB}{st:CU}{d:CH}{g:Ah}{r:FP}{t:List Int}{j b:Nat}{v:AV}{H:AB}{V':MV}{s':A8}{L:List Cc}(hR:Pv p sz π m V h st d g r t j b v H V' s' L)(hu:CF π V m)(hd:QC d){c:Int}{a:Nat}{q:Fa}{msg:List Cc}{A Q:Abs.Id}(hc:r.joins[j]? =some c)(hk:t[j]? =some (a:Int))(hq:s'.chans[(g.own d true c).toNat]? =some q)(hmsg:q.queue[a]? =some msg)(hm:Dd p s' q=((d.chans[c.toNat]?).map HP.many).getD 0)
 (hA:V'.v3=.osl A 0 V'.rows.length) (hrow:V'.rows[(g.own d true c).toNat]? =some (Aq q (.osl Q 0 q.queue.length))) (hdi: ∀i c2,j<i→r.joins[i]? =some c2→(g.own d true c2).toNat≠(g.own d true c).toNat) {b1 b':Nat} (hb:b1≤b') (v':AV) (H2 G:AB) (hrun:B9 p sz π m V h b1 V' ⟨s',st.ev,0⟩ H2) (a1:G.get m=H2.get m) (a0:G.get A=some (.arr 4 (V'.rows.set (g.own d true c).toNat (Aq q (.osl Q 0 (q.queue.length-1)))))) (a2: ∃y,G.get Q=some (.darr 1 ((q.queue.map BG).take a++(q.queue.map BG).drop (a+1)++y)))
 (a4: ∀id,Id.is m id=false→Id.is A id=false→Id.is Q id=false→HB b1 b' π id=false→G.get id=H2.get id) (he:NB π G b' v' (L++msg)) (ho: ∀i∈AE v',i∉V'.ids m∧HB b1 b' π i=false) (hz:L++msg=[]→v'=.nils): ∃V2 s2 L2,Pv p sz π m V h st d g r t (j+1) b' v' G V2 s2 L2:=by
 have hkq:=AI hmsg;have hel:(Cf q.queue a).length=q.queue.length-1:=TR (by simpa using hkq);have hem:(Cf q.queue a).map BG=(q.queue.map BG).take a++(q.queue.map BG).drop (a+1):=by rw[Cf,List.map_append,List.map_take,List.map_drop];rfl
 have hS:Kc G 1 (.osl Q 0 (q.queue.length-1)) ((Cf q.queue a).map BG):=by
  obtain⟨y,hy⟩:=a2;exact .inr ⟨Q,y,by rw[List.length_map,hel],by rw[hem];exact hy⟩
 obtain⟨V2,z1,z2⟩:=hrun.step (b':=b') hb (Rq hrun.rep (hrun.apartB hu) hA hq hrow (Cf q.queue a) (.osl Q 0 (q.queue.length-1)) G (a1.trans hrun.rep.box) a0 hS (.inl rfl) (fun id b1 b2 b3 b4=>a4 id b1 b2 (b3 Q (by simp[AE])) b4));obtain⟨t1,t2,t3,t4,t5⟩:=ZQ hR.sok hq (k:=a) (by simpa using hkq);have e:Et s' (g.own d true c) a=(msg,{s' with chans:=s'.chans.set (g.own d true c).toNat {q with queue:=Cf q.queue a}}):=by rw[Et,hq];simp[hmsg]
 rw[e]at t1 t2 t3 t4 t5;have hml:=fK hd hR.sok hq hmsg hm;refine⟨V2,_,L++msg,z1,he,fun i hi=>z2 i (ho i hi).1 (ho i hi).2,hz,t1,?_,t2.groups.trans hR.groups,t2.spots.trans hR.spots,t2.len.trans hR.nc,fun i c2 k2 hi e1 e2=>?_,by have:=hR.len;rw[List.length_append];omega⟩
 .rw[hR.all,Ae hc,Ae hk,Bc,e,List.append_assoc]
 .obtain⟨f1,q2,f2,f3,f4,f5⟩:=hR.rest i c2 k2 (by omega) e1 e2;refine⟨f1,q2,by rw[t5 _ (hdi i c2 (by omega) e1)];exact f2,f3,f4,?_⟩;rw[←f5,Dd,Dd,t2.groups]
theorem tu(d:CH)(g:Ah)(ks:List Int)(s:A8):Bc d g [] ks s=([],s):=by
 rw[Bc];intro c cs k ks e;cases e
theorem B9.locU{p:AJ}{sz:List Int}{π:List Nat}{m:Abs.Id}{V V':MV}{h g H:AB}{b:Nat}{st:CU}(hu:CF π V m)(hr:B9 p sz π m V h b V' st g)(hl: ∀id,(∀n,b≤n→Id.under (n::π) id=false)→H.get id=g.get id):B9 p sz π m V h b V' st H:=
 ⟨Bg hr.rep fun id hid=>hl id fun n hn=>hr.apart hu hn id hid,hr.ids,fun id h1 h2=>by rw[hl id fun n _=>AF h2 n];exact hr.frame id h1 h2⟩
theorem NP{p:AJ}{sz:List Int}(hF:BO p sz){π:List Nat}{m:Abs.Id}{V V':MV}{h g:AB}{b:Nat}{st:CU}(hu:CF π V m)(hr:B9 p sz π m V h b V' st g)(hI:OD p sz 401 st){j:Gl}(hj:CZ p sz st.sol j)(H:AB)(n:Nat)(hn:b≤n)(hl: ∀id,(∀k,b≤k→Id.under (k::π) id=false)→H.get id=g.get id):
 ∃o g1,KL Tryz.prog cfg (.fn 66) [.ptr m 0,.d (.int .i64 (j.node)),.d (.int .i64 (j.at_)),.d (.lst (j.env.map AN))] H (n::π) true none=.ok (o,g1)∧EU p sz π m V h (Fg p 401 j st) o (gc (n::π) g1)∧(o=.ret (.tup [])∨o=.pan (B3 3)):=by
 have hr2:=hr.locU hu hl;obtain⟨o,g1,e1,e2⟩:=eo hF 401 H (n::π) m V' st j hr2.rep (hr2.apart hu hn) hI.sok hj hI.w0 hI.w1 hI.w2 hI.ev;refine⟨o,g1,e1,?_⟩;cases hd:Fg p 401 j st with
 |none=>rw[hd]at e2;exact⟨hr2.pan hu hn e2,.inr e2.1⟩
 |some st2=>
  rw[hd]at e2;obtain⟨V2,h2,_⟩:=hr2.call hu hn e2;obtain⟨rfl,_⟩:=e2;exact⟨h2.fin,.inl rfl⟩
theorem tL{p:AJ}{sz:List Int}(hF:BO p sz){h:AB}{π:List Nat}{m:Abs.Id}{V:MV}{st:CU}(hM:EE p sz h m V st)(hu:CF π V m)(hs:Fm p sz st.sol){i k:Nat}{g:Ah}{d:CH}{r:FP}{t:List Int}(h1:st.sol.groups[i]? =some g)(h2:p.def? g.def_=some d)(h3:d.rules[k]? =some r)(h4:AY st.sol.spots (g.place d r.at_)=false)(h5:Below (Bn st.sol d g r) t)(hw:st.work=0)(hev:st.ev.length≤500000):
 ∃o h',KL Tryz.prog cfg (.fn 100) [.ptr m 0,O7 ⟨-1,i,k,t⟩] h π true none=.ok (o,h')∧EU p sz π m V h (Fg p 401 ⟨r.node,g.place d r.at_,g.env++(Bc d g r.joins t st.sol).1⟩ ⟨(Bc d g r.joins t st.sol).2,st.ev++[⟨1,g.place d r.at_,i,k,(Bc d g r.joins t st.sol).1⟩],0⟩) o h':=by
 obtain⟨d2,hd⟩:=hs.grp i g h1;have hd2:=hd.def_;rw[h2]at hd2;cases hd2;obtain⟨g0,hdd⟩:=Gu hd.def_;have hdl:=AI hdd;have hrl:=AI h3;have hri:=N7 hF hs h1 hd (List.mem_of_getElem? h3);have hjl:=hri.j1;have htl:t.length=r.joins.length:=by have:=h5.len;rw[Bn,List.length_map]at this;exact this
 have hm:=hM.box;have um:=hu m (V.m_mem m);simp only[Aj]at hm;have e1:=AG um;have e2:=Ar um;obtain⟨W,xs,hWs,gW,xW,lW,lW2⟩:=HX (hM.sl 1 (by omega)) h1;have uW:=hu W (V.s_mem m (i:=1) (by omega) (by rw[hWs];simp[AE]));have a3:=AG uW;have a4:=Ar uW;simp only[FZ]at gW;have hss:=hs.small;simp only[A8.small,Bool.and_eq_true,decide_eq_true_eq]at hss;obtain⟨s1,s2,s3,s4⟩:=hss;have hm0:=AA.mk hm;rw[hWs]at hm;have hdif:AA (∀(a b:Nat) c c2,a<b→r.joins[a]? =some c→r.joins[b]? =some c2→(g.own d true c2).toNat≠(g.own d true c).toNat):=⟨fun a b c c2 hab e1 e2=>by
  have hro:=(CA hF hdd).ok.rule r (List.mem_of_getElem? h3);simp only[Ds,Bool.and_eq_true,decide_eq_true_eq]at hro;have:=RF rfl hro.2.2.2 b a c2 c (Nat.zero_le _) hab e2 e1;obtain⟨q1,q2,_⟩:=hri.join c (List.mem_of_getElem? e1);obtain⟨q3,q4,_⟩:=hri.join c2 (List.mem_of_getElem? e2);have:=LG hd.mine q1 q2;have:=LG hd.mine q3 q4;omega⟩
 have hjob:=AA.mk (Y6 hF hs h1 h2 h3 h4 h5);replace hM:=AA.mk hM;replace hu:=AA.mk hu;replace hs:=AA.mk hs;replace hd:=AA.mk hd;replace h5:=AA.mk h5;replace hri:=AA.mk hri;replace hWs:=AA.mk hWs
 (refine Ak rfl Tryz.func100 rfl rfl rfl ?_;show Wp _ _ _ _ (Tryz.f100.body.get rfl) _ _;simp only[Tryz.f100,Option.get_some])
 refine ax ?_;refine AX r.joins _ (S:=fun m' j (a:(AV×AB)×Nat)=>⟨[(0,.ptr m 0),(3,.ptr (0::0::π) 0),(4,.ptr (0::10::π) 0),(5,.ptr (0::26::π) 0),(6,a.1.1),(35,.d (.lst (r.joins.map AO))),(36,.d (.int .i64 (m'))),(37,.d (.int .i64 (j)))],a.1.2,a.2+33,[]⟩)
  (Inv:=fun j rest a=>AA (∃V' s' L,Pv p sz π m V h st d g r t j (a.2+33) a.1.1 a.1.2 V' s' L)∧a.1.2.get (0::0::π)=some (.box [.d (.int .i64 (-1)),.d (.int .i64 (i)),.d (.int .i64 (k)),.d (.lst (t.map AO))])∧a.1.2.get (0::10::π)=some (.box [.d (.int .i64 (g.def_)),.d (.int .i64 (g.at_)),.d (.lst (g.env.map AN))])∧a.1.2.get (0::26::π)=some (.box [.d (.int .i64 (r.at_)),.d (.lst (r.joins.map AO)),.d (.int .i64 (r.node))])) (b0:=((_,_),0)) rfl ⟨⟨V,st.sol,[],?_⟩,?_,?_,?_⟩ ?_ ?_
 .refine⟨⟨Bg (h:=h) ?_ fun id hid=>?_,fun id hid=>.inl hid,fun id _ hh=>?_⟩,.inl ⟨rfl,rfl⟩,by simp[AE],fun _=>rfl,hs.out,?_,rfl,rfl,rfl,fun i2 c k2 _ f1 f2=>?_,by simp⟩
  .have:=hM.out
   rwa [show st=⟨st.sol,st.ev,0⟩ by rw[←hw]]at this
  .have q1:=AG (hu.out id hid);simp only[go_sem,q1,Bool.false_eq_true]
  .have q1:=AG hh;simp only[go_sem,q1,Bool.false_eq_true]
  .simp
  .obtain⟨q1,q2,q3,q,q4,q5,q6⟩:=hri.out.join c (List.mem_of_getElem? f1);obtain⟨b1,b2⟩:=QU h5.out i2 _ k2 (by rw[Bn,List.getElem?_map,f1];rfl) f2;have b2:k2<(Sn st.sol (g.own d true c):Nat):=b2;rw[q6]at b2;refine⟨b1,q,q4,by omega,q5,?_⟩;obtain⟨ch,hch⟩:=get_some (l:=d.chans) (i:=c.toNat) (by omega);obtain⟨q7,g1,g2,g3,_⟩:=hd.out.chans _ ch hch;have:=LG hd.out.mine q1 q2;rw[show(g.own d true c).toNat=(Fh p (st.sol.groups.take i)).1+c.toNat by omega,g1]at q4;cases q4;rw[Lz h1 h2 hch g2 g3,hch];rfl
 .simp only[go_sem]
 .simp only[go_sem]
 .simp only[go_sem]
 .clear hm gW xW lW lW2 a3 a4 hm0;rintro j c ⟨⟨v,H⟩,b⟩ hc hj hjm ⟨hR,k3,k4,k5⟩ IH;dsimp only at*;obtain⟨V',s',L,hR⟩:=hR.out;have hM2:=hR.run.rep;have hm2:=hM2.box;simp only[Aj]at hm2;obtain⟨kk,hkk⟩:=get_some (l:=t) (i:=j) (by omega);obtain⟨kk0,q,hq,hkq,hq12,hmany⟩:=hR.rest j c kk (Nat.le_refl _) hc hkk;obtain⟨a,rfl⟩: ∃a:Nat,kk=a:=⟨kk.toNat,by omega⟩;rw[Int.toNat_natCast]at hkq;obtain⟨c0,c1,o0,_⟩:=hri.out.join c (List.mem_of_getElem? hc);obtain⟨qv,hrow,hqs⟩:=hM2.chans.row _ _ hq;rcases hM2.arr with⟨_,hA⟩|⟨A,hA,gA⟩
  .rw[hA]at hrow;simp at hrow
  have lA:=AI hrow;rcases hqs with⟨_,hz⟩|⟨Q,zs,rfl,gQ⟩
  .rw[List.map_eq_nil_iff.1 hz]at hkq;simp at hkq
  rw[List.length_map]at hrow;obtain⟨msg,hmsg⟩:=get_some (l:=q.queue) (i:=a) hkq;have hiA:=hR.run.ids A (V'.v3_mem m (by rw[hA];simp[AE]));have hiQ:=hR.run.ids Q (V'.row_mem m (List.mem_flatMap.2 ⟨_,List.mem_of_getElem? hrow,by rw[Bb];simp[AE]⟩));have him:=hR.run.ids m (V'.m_mem m);have hap:=hR.run.apart hu.out (n:=b+81) (by omega);have uA:=hap A (V'.v3_mem m (by rw[hA];simp[AE]));have uQ:=hap Q (V'.row_mem m (List.mem_flatMap.2 ⟨_,List.mem_of_getElem? hrow,by rw[Bb];simp[AE]⟩));have uM:=hap m (V'.m_mem m);have nA:=Eo (b':=0) hu.out hiA;have nA':=Jt hu.out hiA;have nQ:=Eo (b':=0) hu.out hiQ;have nQ':=Jt hu.out hiQ;have nM:=Eo (b':=0) hu.out him;have nM':=Jt hu.out him;have bA: ∀k,Id.is A (0::k::π)=false:=fun k=>AD fun e=>Gp hR.run hu.out k (by rw[←e];exact V'.v3_mem m (by rw[hA];simp[AE]));have bQ: ∀k,Id.is Q (0::k::π)=false:=fun k=>AD fun e=>Gp hR.run hu.out k (by rw[←e];exact V'.row_mem m (List.mem_flatMap.2 ⟨_,List.mem_of_getElem? hrow,by rw[Bb];simp[AE]⟩));have AQ:Id.is A Q=false:=AD fun e=>by rw[←e,gA]at gQ;cases gQ
  have QA:Id.is Q A=false:=AD fun e=>by rw[e,gA]at gQ;cases gQ
  have Am:Id.is A m=false:=AD fun e=>by rw[e,hm2]at gA;cases gA
  have mA:Id.is m A=false:=AD fun e=>by rw[←e,hm2]at gA;cases gA
  have Qm:Id.is Q m=false:=AD fun e=>by rw[e,hm2]at gQ;cases gQ
  have mQ:Id.is m Q=false:=AD fun e=>by rw[←e,hm2]at gQ;cases gQ
  have hml:=fK (CA hF hdd).ok hR.sok hq hmsg hmany;have hnx:=AA.mk (dU hR hu.out (CA hF hdd).ok hc hkk hq hmsg hmany hA hrow (fun i c2 hi e2=>hdif.out j i c c2 hi hc e2) (b1:=b+81) (b':=b+54+33) (by omega));have hrow0:=AA.mk hrow;replace hiA:=AA.mk hiA;replace hiQ:=AA.mk hiQ;replace him:=AA.mk him;replace hap:=AA.mk hap;have hown:=AA.mk fun(H':AB) (n:Nat) (hH:H'.get m=H.get m)=>Vb (ds:=p.defs) (g:=g) (d:=d) (hH.trans hm2) (AF um n) g0 hdd (CA hF hdd).ok.chans (CA hF hdd).ok.spots (Lo hd.out) (Ln hF hd.out) true c c0 (by simpa using c1);rw[hA]at hm2;simp only[Aq]at hrow;replace hM2:=AA.mk hM2;replace hR:=AA.mk hR;have hfin:AA (∀(H2 g1:AB) (v':AV),B9 p sz π m V h (b+81) V' ⟨s',st.ev,0⟩ H2→H2.get A=some (.arr 4 V'.rows)→(∀k,H2.get (0::k::π)=H.get (0::k::π))→(∃y,g1.get Q=some (.darr 1 (List.take a (q.queue.map BG)++List.drop (a+1) (q.queue.map BG)++y)))→(∀i,Id.is Q i=false→g1.get i=H2.get i)→NB π H2 (b+81) v' (L++msg)→(∀i∈AE v',i∉V'.ids m∧HB (b+81) (b+54+33) π i=false)→(L++msg=[]→v'=.nils)→
   AA (∃V2 s2 L2,Pv p sz π m V h st d g r t (j+1) (b+54+33) v' ((gc ((b+81)::π) g1).put A (.arr 4 (V'.rows.set (g.own d true c).toNat [.d (.int .i64 (q.group)),.d (.int .i64 (q.index)),.d (.int .i64 (q.at_)),.osl Q 0 (q.queue.length-1)]))) V2 s2 L2)∧((gc ((b+81)::π) g1).put A (.arr 4 (V'.rows.set (g.own d true c).toNat [.d (.int .i64 (q.group)),.d (.int .i64 (q.index)),.d (.int .i64 (q.at_)),.osl Q 0 (q.queue.length-1)]))).get (0::0::π)=some (.box [.d (.int .i64 (-1)),.d (.int .i64 (i)),.d (.int .i64 (k)),.d (.lst (t.map AO))])∧((gc ((b+81)::π) g1).put A (.arr 4 (V'.rows.set (g.own d true c).toNat [.d (.int .i64 (q.group)),.d (.int .i64 (q.index)),.d (.int .i64 (q.at_)),.osl Q 0 (q.queue.length-1)]))).get (0::10::π)=some (.box [.d (.int .i64 (g.def_)),.d (.int .i64 (g.at_)),.d (.lst (g.env.map AN))])∧((gc ((b+81)::π) g1).put A (.arr 4 (V'.rows.set (g.own d true c).toNat [.d (.int .i64 (q.group)),.d (.int .i64 (q.index)),.d (.int .i64 (q.at_)),.osl Q 0 (q.queue.length-1)]))).get (0::26::π)=some (.box [.d (.int .i64 (r.at_)),.d (.lst (r.joins.map AO)),.d (.int .i64 (r.node))])):=⟨fun H2 g1 v' c1 c2 c3 c4 c5 c6 c7 c8=>by
   have gG: ∀i,Id.is A i=false→Id.is Q i=false→Id.under ((b+81)::π) i=false→((gc ((b+81)::π) g1).put A (.arr 4 (V'.rows.set (g.own d true c).toNat [.d (.int .i64 (q.group)),.d (.int .i64 (q.index)),.d (.int .i64 (q.at_)),.osl Q 0 (q.queue.length-1)]))).get i=H2.get i:=fun i q0 q1 q2=>by rw[get_put,q0,if_neg (by simp),AU _ _ _ q2,c5 i q1]
   have bx: ∀k,¬k=b+81→((gc ((b+81)::π) g1).put A (.arr 4 (V'.rows.set (g.own d true c).toNat [.d (.int .i64 (q.group)),.d (.int .i64 (q.index)),.d (.int .i64 (q.at_)),.osl Q 0 (q.queue.length-1)]))).get (0::k::π)=H.get (0::k::π):=fun k hk=>(gG _ (bA k) (bQ k) (BA π hk)).trans (c3 k);refine⟨⟨hnx.out v' H2 _ c1 (gG m Am Qm uM) ?_ (c4.imp fun y hy=>?_) (fun id b1 b2 b3 b4=>gG id b2 b3 (Ic b4 (by omega) (by omega))) ?_ c7 c8⟩,(bx 0 (by omega)).trans k3,(bx 10 (by omega)).trans k4,(bx 26 (by omega)).trans k5⟩
   .rw[get_put,is_self];rfl
   .rw[get_put,AQ,if_neg (by simp),AU _ _ _ uQ];exact hy
   .rcases c6 with c6|⟨l,l1,l2,n,l3,l4,l5⟩
    .exact .inl c6
    .refine .inr ⟨l,l1,?_,n,by omega,l4,l5⟩;have hl:=c7 l (by rw[l1];simp[AE]);have hA2:Id.is A l=false:=AD fun e=>hl.1 (e▸V'.v3_mem m (by rw[hA];simp[AE]));have hQ2:Id.is Q l=false:=AD fun e=>hl.1 (e▸V'.row_mem m (List.mem_flatMap.2 ⟨_,List.mem_of_getElem? hrow0.out,by rw[Bb];simp[AE]⟩));rw[gG l hA2 hQ2 (Ic hl.2 (by omega) (by omega))];exact l2⟩
  rcases hR.out.env with⟨rfl,rfl⟩|⟨lid,rfl,hg,n,hnb,hun,hl⟩
  .refine ax ?_;refine Cm (hown.out _ _ rfl) (fun o1 g1 p1=>?_);subst p1;have lz:a<q.queue.length+zs.length:=by omega
   have w1:IntKind.i64.wrap ((a:Int)+1)=(a:Int)+1:=wrap_id (by omega) (by omega);have msx:(q.queue.map BG++zs)[a]? =some (BG msg):=by rw[List.getElem?_append_left (by simpa using hkq),List.getElem?_map,hmsg];rfl
   have hdel:=fun(H2:AB) (hH:H2.get Q=some (.darr 1 (q.queue.map BG++zs)))=>NK (π:=(b+81)::π) hH uQ (n:=q.queue.length) (a:=a) (by simp) (by omega) (by intro e he;obtain⟨x,_,rfl⟩:=List.mem_map.1 he;rfl) (by omega);replace hdel:=AA.mk hdel;by_cases hmz:msg=[]
   .subst hmz;refine ax ?_;refine Ab (hdel.out _ ?_) (fun o1 g1 p1=>?_)
    .simp only[go_sem,gQ]
    obtain⟨rfl,p1,p2⟩:=p1;have fin:=hfin.out H g1 .nils (hR.out.run.up (by omega)) gA (fun _=>rfl) p1 p2 (.inl ⟨rfl,rfl⟩) (fun i hi=>by simp[AE]at hi) (fun _=>rfl);replace fin:=AA.mk fin;have gG: ∀i,Id.is Q i=false→Id.under ((b+81)::π) i=false→(gc ((b+81)::π) g1).get i=H.get i:=fun i q1 q2=>by rw[AU _ _ _ q2,p2 i q1]
    replace p1:=AA.mk p1;replace p2:=AA.mk p2;refine ax ?_;exact IH.out ((_,_),b+54) fin.out
   .have ap:=eU (sz:=2) (msg.map AN) (by simpa using hmz) (by intro e he;obtain⟨x,_,rfl⟩:=List.mem_map.1 he;rfl) (by decide) (by simp;omega);simp only[List.length_map]at ap;replace hmz:=AA.mk hmz;refine ax ?_;refine Ab (hdel.out _ ?_) (fun o1 g1 p1=>?_)
    .simp only[go_sem,gQ,nQ]
    obtain⟨rfl,p1,p2⟩:=p1;have fin:=hfin.out (H.put (1::(b+63)::π) (.darr 2 (msg.map AN))) g1 (.osl (1::(b+63)::π) 0 msg.length) ((hR.out.run.up (b':=b+63) (by omega)).loc hu.out (fun id hh=>by rw[get_put,hh 1 (b+63) (by omega)];rfl)|>.up (by omega)) (by simp only[go_sem,gA,nA]) (fun k=>by simp only[go_sem]) p1 p2 (Lx (by omega) rfl (by simp only[go_sem])) (fun i hi=>⟨(by simp only[AE,List.mem_singleton]at hi;subst hi;exact hR.out.run.new hu.out 1 _ (by omega)),(by simp only[AE,List.mem_singleton]at hi;subst hi;exact Nu (n:=b+63) (by omega) (under_iff.2 ⟨[1],rfl⟩))⟩) (fun e=>absurd (List.append_eq_nil_iff.1 e).2 hmz.out);replace fin:=AA.mk fin;have gG: ∀i,Id.is Q i=false→Id.under ((b+81)::π) i=false→(gc ((b+81)::π) g1).get i=(H.put (1::(b+63)::π) (.darr 2 (msg.map AN))).get i:=fun i q1 q2=>by rw[AU _ _ _ q2,p2 i q1]
    replace p1:=AA.mk p1;replace p2:=AA.mk p2;refine ax ?_;exact IH.out ((_,_),b+54) fin.out
  .obtain⟨f1,f2,f3,f4⟩:=FU hnb hun hl;have hno:=hR.out.out lid (by simp[AE]);have lA2:Id.is lid A=false:=AD fun e=>hno (e▸V'.v3_mem m (by rw[hA];simp[AE]));have Al2:Id.is A lid=false:=AD fun e=>hno (e▸V'.v3_mem m (by rw[hA];simp[AE]));have lQ2:Id.is lid Q=false:=AD fun e=>hno (e▸V'.row_mem m (List.mem_flatMap.2 ⟨_,List.mem_of_getElem? hrow0.out,by rw[Bb];simp[AE]⟩));have Ql2:Id.is Q lid=false:=AD fun e=>hno (e▸V'.row_mem m (List.mem_flatMap.2 ⟨_,List.mem_of_getElem? hrow0.out,by rw[Bb];simp[AE]⟩));have lm:Id.is lid m=false:=AD fun e=>hno (e▸V'.m_mem m);have ml:Id.is m lid=false:=AD fun e=>hno (e▸V'.m_mem m);have hLl:=hR.out.len;have lz:a<q.queue.length+zs.length:=by omega
   have w1:IntKind.i64.wrap ((a:Int)+1)=(a:Int)+1:=wrap_id (by omega) (by omega);have msx:(q.queue.map BG++zs)[a]? =some (BG msg):=by rw[List.getElem?_append_left (by simpa using hkq),List.getElem?_map,hmsg];rfl
   have hdel:=fun(H2:AB) (hH:H2.get Q=some (.darr 1 (q.queue.map BG++zs)))=>NK (π:=(b+81)::π) hH uQ (n:=q.queue.length) (a:=a) (by simp) (by omega) (by intro e he;obtain⟨x,_,rfl⟩:=List.mem_map.1 he;rfl) (by omega);replace hdel:=AA.mk hdel;replace hun:=AA.mk hun;replace hl:=AA.mk hl;by_cases hmz:msg=[]
   .subst hmz;refine ax ?_;refine Cm (hown.out _ _ rfl) (fun o1 g1 p1=>?_);subst p1;refine ax ?_;refine Ab (hdel.out _ ?_) (fun o1 g1 p1=>?_)
    .simp only[go_sem,gQ]
    obtain⟨rfl,p1,p2⟩:=p1;have fin:=hfin.out H g1 (.osl lid 0 L.length) (hR.out.run.up (by omega)) gA (fun _=>rfl) p1 p2 (.inr ⟨lid,by simp,by rw[hg,List.append_nil],n,by omega,hun.out,hl.out⟩) (fun i hi=>by simp only[AE,List.mem_singleton]at hi;subst hi;exact⟨hno,Nu (n:=n) (by omega) hun.out⟩) (fun e=>by have:=hR.out.ne (List.append_eq_nil_iff.1 e).1;cases this);replace fin:=AA.mk fin;have gG: ∀i,Id.is Q i=false→Id.under ((b+81)::π) i=false→(gc ((b+81)::π) g1).get i=H.get i:=fun i q1 q2=>by rw[AU _ _ _ q2,p2 i q1]
    replace p1:=AA.mk p1;replace p2:=AA.mk p2;refine ax ?_;exact IH.out ((_,_),b+54) fin.out
   .have ap:=WV (sz:=2) (id:=lid) (L.map AN) (msg.map AN) (by simpa using hmz) (by intro e he;obtain⟨x,_,rfl⟩:=List.mem_map.1 he;rfl) (by decide) (by simp;omega) L.length (by simp);simp only[List.length_map]at ap;replace hmz:=AA.mk hmz;refine ax ?_;refine Cm (hown.out _ _ rfl) (fun o1 g1 p1=>?_);subst p1;refine ax ?_;refine Ab (hdel.out _ ?_) (fun o1 g1 p1=>?_)
    .simp only[go_sem,gQ,nQ,lQ2]
    obtain⟨rfl,p1,p2⟩:=p1;obtain⟨H2,hH2⟩: ∃H2,H2=(H.put lid (.fro 0 [])).put (1::(b+63)::π) (.darr 2 (L.map AN++msg.map AN)):=⟨_,rfl⟩;have nl:=f1 1 (b+63) (by omega);have hr1:=(hR.out.run.oth (H:=H.put lid (.fro 0 [])) hno (BH hun.out) fun id e=>by rw[get_put,AD fun e2=>e e2.symm];rfl).up (b':=b+63) (by omega);have hr2:=(hr1.loc hu.out (H:=H2) fun id hh=>by rw[hH2,get_put,hh 1 (b+63) (by omega)];rfl).up (b':=b+81) (by omega);have fin:=hfin.out H2 g1 (.osl (1::(b+63)::π) 0 (L.length+msg.length)) hr2 (by rw[hH2,get_put,nA _ _ (by omega),get_put,lA2];exact gA) (fun k=>by rw[hH2,get_put,AD (by simp),get_put,f4];rfl) p1 (fun i hi=>by rw[hH2];exact p2 i hi) (Lx (by omega) (by simp) (by rw[hH2,get_put,is_self,List.map_append];rfl)) (fun i hi=>⟨(by simp only[AE,List.mem_singleton]at hi;subst hi;exact hR.out.run.new hu.out 1 _ (by omega)),(by simp only[AE,List.mem_singleton]at hi;subst hi;exact Nu (n:=b+63) (by omega) (under_iff.2 ⟨[1],rfl⟩))⟩) (fun e=>absurd (List.append_eq_nil_iff.1 e).2 hmz.out);replace fin:=AA.mk fin;have gG: ∀i,Id.is Q i=false→Id.under ((b+81)::π) i=false→(gc ((b+81)::π) g1).get i=((H.put lid (.fro 0 [])).put (1::(b+63)::π) (.darr 2 (L.map AN++msg.map AN))).get i:=fun i q1 q2=>by rw[AU _ _ _ q2,p2 i q1]
    replace p1:=AA.mk p1;replace p2:=AA.mk p2;replace hH2:=AA.mk hH2;replace hr1:=AA.mk hr1;replace hr2:=AA.mk hr2;refine ax ?_;exact IH.out ((_,_),b+54) fin.out
 .clear hm gW xW lW lW2 a3 a4 hm0;rintro j ⟨⟨v,H⟩,b⟩ hj hjm ⟨hR,k3,k4,k5⟩;dsimp only at*;obtain⟨V',s',L,hR⟩:=hR.out;have hm2:=hR.run.rep.box;simp only[Aj]at hm2;have hpl:=AA.mk fun(H':AB) (n:Nat) (hH:H'.get m=H.get m)=>L6 (ds:=p.defs) (g:=g) (d:=d) (hH.trans hm2) (AF um n) g0 hdd (CA hF hdd).ok.chans (CA hF hdd).ok.spots (Lo hd.out) (Ln hF hd.out) r.at_ hri.out.at0 hri.out.at1;have hall:=hR.all;have hjob:=hjob.out;rw[hj.out,List.drop_length,tu,List.append_nil]at hall;rw[hall]at hjob⊢;replace hjob:=AA.mk hjob;replace hR:=AA.mk hR;replace hall:=AA.mk hall;rcases hR.out.env with⟨rfl,rfl⟩|⟨lid,rfl,hg,n,hnb,hun,hl⟩
  .refine ax ?_;refine C0 (hpl.out _ _ ?_) (fun o1 g1 p1=>?_)
   .simp only[go_sem]
   subst p1;refine ax ?_;refine Ab (IU (V:=V') (st:=⟨s',st.ev,0⟩) (EA hR.out.run.rep (hR.out.run.apart hu.out (n:=b+47) (by omega)) ?_) (hR.out.run.apart hu.out (by omega)) 1 (g.place d r.at_) i k [] (by simp) (by dsimp only;omega)) (fun o1 g1 p1=>?_)
   .intro id b;rfl
   obtain⟨V2,hR2,_⟩:=hR.out.run.call hu.out (n:=b+47) (by omega) p1;have m4:=(hR.out.run.box hu.out (k:=10) (by omega) p1).trans k4;have m5:=(hR.out.run.box hu.out (k:=26) (by omega) p1).trans k5;obtain rfl:=p1.1;have gm2:=hR2.rep.box;simp only[Aj]at gm2;replace hR2:=AA.mk hR2;replace p1:=AA.mk p1;have hgl:=Ln hF hd.out;obtain⟨E,hE⟩: ∃E,E=g.env:=⟨_,rfl⟩;rw[←hE]at m4 hgl⊢;have h1:=JQ E (by omega);have hend:=AA.mk fun H2=>NP hF hu.out hR2.out (j:=⟨r.node,g.place d r.at_,E++[]⟩) ⟨hR.out.sok,by dsimp only;omega,by dsimp only;omega,by dsimp only;omega,by simp;omega⟩ (by rw[hE];exact hjob.out.2) H2 (b+57) (by omega);simp only[List.append_nil]at hend;replace hE:=AA.mk hE;by_cases h0:E.length=0;all_goals
    (first|(obtain rfl:=List.eq_nil_of_length_eq_zero h0;simp only[List.length_nil,CR,List.map_nil]at h1)|simp only[Cy h0]at h1);have fa:=CV
    refine ax ?_;refine Ep (hend.out _ fun id hh=>?_) (fun o2 g2 p2=>?_)
    .first|rfl|(have q1:=AD (a:=1::0::2::(b+54)::π) (b:=id) fun e=>(by have:=hh (b+54) (by omega);rw[←e,show Id.under ((b+54)::π) (1::0::2::(b+54)::π)=true from Ao [1,0,2]]at this;cases this);simp only[go_sem,q1,Bool.false_eq_true])
    obtain⟨p2,p3⟩:=p2;replace p2:=AA.mk p2;rcases p3 with rfl|rfl;all_goals
     refine ax ?_;exact p2.out
  .obtain⟨f1,f2,f3,f4⟩:=FU hnb hun hl;have hno:=hR.out.out lid (by simp[AE]);have lm:Id.is lid m=false:=AD fun e=>hno (e▸V'.m_mem m);have ml:Id.is m lid=false:=AD fun e=>hno (e▸V'.m_mem m);have hLl:L.length≤90:=by have:=hR.out.len;have:=hj.out;omega
   have ul:Id.under ((b+47)::π) lid=false:=by
    cases hx:Id.under ((b+47)::π) lid with
    |false=>rfl
    |true=>have:=CB hun hx;omega
   have hr0:=AA.mk (hR.out.run.oth (H:=H.put lid (.fro 2 (L.map AN))) hno (BH hun) fun id e=>by rw[get_put,AD fun e2=>e e2.symm];rfl);replace hun:=AA.mk hun;replace hl:=AA.mk hl;refine ax ?_;refine C0 (hpl.out _ _ ?_) (fun o1 g1 p1=>?_)
   .simp only[go_sem]
   subst p1;refine ax ?_;have hmr:=EA hr0.out.rep (hR.out.run.apart hu.out (n:=b+47) (by omega)) (h':=H.put lid (.fro 2 (L.map AN))) fun _ _=>rfl;refine Ab (IU (V:=V') (st:=⟨s',st.ev,0⟩) hmr (hR.out.run.apart hu.out (by omega)) 1 (g.place d r.at_) i k L (by omega) (by dsimp only;omega)) (fun o1 g1 p1=>?_);obtain⟨V2,hR2,_⟩:=hr0.out.call hu.out (n:=b+47) (by omega) p1;have m4:=(hr0.out.box hu.out (k:=10) (by omega) p1).trans ((show(H.put lid (.fro 2 (L.map AN))).get (0::10::π)=H.get (0::10::π) by rw[get_put,f4];rfl).trans k4);have m5:=(hr0.out.box hu.out (k:=26) (by omega) p1).trans ((show(H.put lid (.fro 2 (L.map AN))).get (0::26::π)=H.get (0::26::π) by rw[get_put,f4];rfl).trans k5);have ml2:=(Tp p1 hno ul).trans (show(H.put lid (.fro 2 (L.map AN))).get lid=some (.fro 2 (L.map AN)) by rw[get_put,is_self];rfl);obtain rfl:=p1.1;have gm2:=hR2.rep.box;simp only[Aj]at gm2;replace hR2:=AA.mk hR2;replace p1:=AA.mk p1;have hgl:=Ln hF hd.out;obtain⟨E,hE⟩: ∃E,E=g.env:=⟨_,rfl⟩;rw[←hE]at m4 hgl⊢;have h1:=JQ E (by omega);have hend:=AA.mk fun H2=>NP hF hu.out hR2.out (j:=⟨r.node,g.place d r.at_,E++L⟩) ⟨hR.out.sok,by dsimp only;omega,by dsimp only;omega,by dsimp only;omega,by simp;omega⟩ (by rw[hE];exact hjob.out.2) H2 (b+57) (by omega);replace hE:=AA.mk hE;by_cases hLz:L=[]
   .have:=hR.out.ne hLz;cases this
   .have hL0: ¬L.map AN=[]:=by simpa using hLz
    have tk:List.take L.length ((L.map AN).map fun x=>x.map AV.d)=(L.map AN).map fun x=>x.map AV.d:=List.take_of_length_le (by simp);have n54: ∀l,Id.is (l++(b+54)::π) lid=false:=fun l=>AD fun e=>by
     have:=CB (n:=n) (n':=b+54) hun.out (by rw[←e];exact Ao l);omega
    have n54': ∀l,Id.is lid (l++(b+54)::π)=false:=fun l=>AD fun e=>by
     have:=CB (n:=n) (n':=b+54) hun.out (by rw[e];exact Ao l);omega
    have n55:=n54 [1,0,2];have n55':=n54' [1,0,2];simp only[List.cons_append,List.nil_append]at n55 n55';have tk2:List.take (E.length+L.length) (E.map AN++L.map AN)=E.map AN++L.map AN:=List.take_of_length_le (by simp);replace n54:=AA.mk n54;replace n54':=AA.mk n54';replace hLz:=AA.mk hLz;by_cases h0:E.length=0
    .have ap:=eU (sz:=2) (L.map AN) hL0 (by intro e he;obtain⟨x,_,rfl⟩:=List.mem_map.1 he;rfl) (by decide) (by simp;omega);simp only[List.length_map]at ap;replace hL0:=AA.mk hL0
     (first|(obtain rfl:=List.eq_nil_of_length_eq_zero h0;simp only[List.length_nil,CR,List.map_nil]at h1)|simp only[Cy h0]at h1);have fa:=CV
     simp only[List.nil_append]at hend⊢;refine ax ?_;refine Ep (hend.out _ fun id hh=>?_) (fun o2 g2 p2=>?_)
     .have q1:=AD (a:=1::0::2::(b+54)::π) (b:=id) fun e=>(by have:=hh (b+54) (by omega);rw[←e,show Id.under ((b+54)::π) (1::0::2::(b+54)::π)=true from Ao [1,0,2]]at this;cases this);have q2:=AD (a:=1::(b+56)::π) (b:=id) fun e=>(by have:=hh (b+56) (by omega);rw[←e,show Id.under ((b+56)::π) (1::(b+56)::π)=true from Ao [1]]at this;cases this);simp only[go_sem,q1,q2,Bool.false_eq_true]
     obtain⟨p2,p3⟩:=p2;replace p2:=AA.mk p2;rcases p3 with rfl|rfl;all_goals
      refine ax ?_;exact p2.out
    .have ap:=WV (sz:=2) (id:=1::0::2::(b+54)::π) (E.map AN) (L.map AN) hL0 (by intro e he;obtain⟨x,_,rfl⟩:=List.mem_map.1 he;rfl) (by decide) (by simp;omega) E.length (by simp);simp only[List.length_map]at ap;replace hL0:=AA.mk hL0
     (first|(obtain rfl:=List.eq_nil_of_length_eq_zero h0;simp only[List.length_nil,CR,List.map_nil]at h1)|simp only[Cy h0]at h1);have fa:=CV
     have hend:=hend.out;simp only[List.map_append]at hend;replace hend:=AA.mk hend;refine ax ?_;refine Ep (hend.out _ fun id hh=>?_) (fun o2 g2 p2=>?_)
     .have q1:=AD (a:=1::0::2::(b+54)::π) (b:=id) fun e=>(by have:=hh (b+54) (by omega);rw[←e,show Id.under ((b+54)::π) (1::0::2::(b+54)::π)=true from Ao [1,0,2]]at this;cases this);have q2:=AD (a:=1::(b+56)::π) (b:=id) fun e=>(by have:=hh (b+56) (by omega);rw[←e,show Id.under ((b+56)::π) (1::(b+56)::π)=true from Ao [1]]at this;cases this);simp only[go_sem,q1,q2,Bool.false_eq_true]
     obtain⟨p2,p3⟩:=p2;replace p2:=AA.mk p2;rcases p3 with rfl|rfl;all_goals
      refine ax ?_;exact p2.out
end Go.Proofs
namespace Go.Abs
theorem YN(T:TypeId→Option TI)(g:G)(i:TI)(id:Id)(off n:Nat)(hn:0<n)(hk:i.kind=.slice):FK T g (some i) (.osl id off n)=Zw g id off n (T i.elem):=by
 obtain⟨m,rfl⟩: ∃m,n=m+1:=⟨n-1,by omega⟩;unfold FK;simp only[hk];cases T i.elem<;>rfl
theorem pk{h h':AB}{id:Id}{o:Obj}(h1:h.get id=some o)(h2:Obj.same o (h'.get id)=true):(TG h h').all (fun y=> !Id.is id y)=true:=by
 rw[List.all_eq_true];intro y hy;rw[AD]
 .rfl
 .intro e;subst e;obtain⟨p,hp,rfl⟩:=List.mem_map.1 hy;have:=(List.mem_filter.1 hp).2;rw[h1]at this;simp only[h2]at this;cases this
end Go.Abs
namespace Go.Proofs
open Go Go.Abs
set_option maxRecDepth 100000
set_option maxHeartbeats 4000000
structure MR(h:AB)(π:List Nat)(m bx S:Abs.Id)(L:List BC):Prop where
 gb:h.get bx=some (.box [.ptr m 0])
 gm: ∃x1 x2 x3 x4 x5 x6 x7 x8 x9 x10 x11 x12,h.get m=some (.box [.osl S 0 L.length,x1,x2,x3,x4,x5,x6,x7,x8,x9,x10,x11,x12])
 gS: ∃y,h.get S=some (.darr 2 (L.map Af++y))
 ub:Id.under π bx=false
 um:Id.under π m=false
 uS:Id.under π S=false
theorem MR.up{h h':AB}{π ρ:List Nat}{m bx S:Abs.Id}{L:List BC}(hD:MR h π m bx S L)(hk: ∀i,Id.under π i=false→i=bx∨i=m∨i=S→h'.get i=h.get i)(hp: ∀i,Id.under π i=false→Id.under ρ i=false):MR h' ρ m bx S L:=by
 refine⟨(hk _ hD.ub (by simp)).trans hD.gb,?_,?_,hp _ hD.ub,hp _ hD.um,hp _ hD.uS⟩
 .rw[hk _ hD.um (by simp)];exact hD.gm
 .rw[hk _ hD.uS (by simp)];exact hD.gS
theorem ee{h:AB}{π:List Nat}{m bx S:Abs.Id}{L:List BC}(hD:MR h π m bx S L)(w:E7)(hw:Ei L w.at_):
 ∃o h',KL Tryz.prog cfg (.fn 163) [.agg [.d (.int .i64 (w.at_)),.d (.int .i64 (w.node)),.d (.lst (w.env.map AN))],.ptr bx 0] h π true (some π)=.ok (o,h')∧o=.ret (.d (.bool (AY L w.at_))):=by
 obtain⟨hb,⟨x1,x2,x3,x4,x5,x6,x7,x8,x9,x10,x11,x12,hm⟩,⟨y,hS⟩,u1,u2,u3⟩:=hD;have e1:=AG u1;have e2:=AG u2;have e3:=AG u3;have w0:=hw.1;have w1:=hw.2;obtain⟨sp,hsp⟩:=get_some (l:=L) (i:=w.at_.toNat) (by omega);have lS:w.at_.toNat<L.length:=by omega
 have lS2:w.at_.toNat<L.length+y.length:=by omega
 have hx:(L.map Af++y)[w.at_.toNat]? =some (Af sp):=by rw[List.getElem?_append_left (by simpa using lS),List.getElem?_map,hsp];rfl
 have hd:AY L w.at_=sp.dead:=by rw[AY,hsp];rfl
 rw[hd]
 (refine Ak rfl Tryz.func163 rfl rfl rfl ?_;show Wp _ _ _ _ (Tryz.f163.body.get rfl) _ _;simp only[Tryz.f163,Option.get_some])
 exact af
inductive Ua{α:Type}(f:α→Bool)(l:List α):Int→Prop
 |none:(∀x∈l,f x=false)→Ua f l (-1)
 |some (k:Nat):(∀x∈l.take k,f x=false)→(∃x,l[k]? =some x∧f x=true)→Ua f l k
theorem Td{h:AB}{π:List Nat}{m bx S:Abs.Id}{L:List BC}(hD:MR h π m bx S L)(l:List E7)(hl:l.length≤1000000)(hw: ∀w∈l,Ei L w.at_):
 ∃o h',KL Tryz.prog cfg (.fn 185) [.d (.lst (l.map AR)),.fn 163 [] [.ptr bx 0]] h π true (some π)=.ok (o,h')∧ ∃r,o=.ret (.d (.int .i64 (r)))∧Ua (fun w:E7=>AY L w.at_) l r:=by
 have hD0:=AA.mk hD;clear hD;have hw0:=AA.mk hw;clear hw
 (refine Ak rfl Tryz.func185 rfl rfl rfl ?_;show Wp _ _ _ _ (Tryz.f185.body.get rfl) _ _;simp only[Tryz.f185,Option.get_some])
 refine ax ?_;refine AX l _ (S:=fun m' i (a:AB×Nat)=>⟨[(0,.d (.lst (l.map AR))),(1,.fn 163 [] [.ptr bx 0]),(7,.d (.int .i64 (m'))),(8,.d (.int .i64 (i)))],a.1,a.2+4,[]⟩)
  (Inv:=fun i rest a=>AA ((∀x,Id.under π x=false→a.1.get x=h.get x)∧ ∀w∈l.take i,AY L w.at_=false)) (b0:=(h,0)) rfl ⟨⟨fun _ _=>rfl,by simp⟩⟩ ?_ ?_
 .rintro i w ⟨g,b⟩ hy hi him hI IH;dsimp only at*;have hfd:AA (∀H n,(∀x,Id.under π x=false→H.get x=g.get x)→ ∃o h',KL Tryz.prog cfg (.fn 163) [.agg [.d (.int .i64 (w.at_)),.d (.int .i64 (w.node)),.d (.lst (w.env.map AN))],.ptr bx 0] H (n::π) true (some (n::π))=.ok (o,h')∧o=.ret (.d (.bool (AY L w.at_)))):=⟨fun H n hH=>ee (hD0.out.up (fun x hx _=>(hH x hx).trans (hI.out.1 x hx)) fun x hx=>AF hx n) w (hw0.out w (List.mem_of_getElem? hy))⟩;refine ax ?_;refine C0 (hfd.out _ _ fun x hx=>rfl) (fun o1 g1 p1=>?_);subst p1;cases hdd:AY L w.at_ with
  |true=>
   refine ax ?_;exact⟨_,rfl,.some i hI.out.2 ⟨w,hy,hdd⟩⟩
  |false=>
   refine ax ?_;refine IH.out (g,b+11) ⟨⟨hI.out.1,fun x hx=>?_⟩⟩;rw[List.take_add_one,hy]at hx;rcases List.mem_append.1 hx with hx|hx
   .exact hI.out.2 x hx
   .simp only[Option.toList_some,List.mem_singleton]at hx;subst hx;exact hdd
 .rintro i ⟨g,b⟩ hi him hI;dsimp only at*;have hI2:AA (∀w∈l,AY L w.at_=false):=⟨by have:=hI.out.2;rwa [hi.out,List.take_length]at this⟩;refine ax ?_;exact⟨_,rfl,.none hI2.out⟩
theorem vQ{h:AB}{π:List Nat}{m bx S W:Abs.Id}{L:List BC}(hD:MR h π m bx S L)(l:List E7){x:List (List AW)}(hg:h.get W=some (.darr 3 (l.map AR++x)))(uW:Id.under π W=false)(hW:W≠bx∧W≠m∧W≠S){n:Nat}(hn:n=l.length)(hl:l.length≤1000000)(hw: ∀w∈l,Ei L w.at_):
 ∃o h',KL Tryz.prog cfg (.fn 162) [.osl W 0 n,.fn 163 [] [.ptr bx 0]] h π true none=.ok (o,h')∧ ∃y,o=.ret (.osl W 0 (l.filter fun w=> !AY L w.at_).length)∧h'.get W=some (.darr 3 ((l.filter fun w=> !AY L w.at_).map AR++y))∧ ∀i,Id.is W i=false→Id.under π i=false→h'.get i=h.get i:=by
 subst hn;have q1:=AG uW;have q2:=Ar uW;have hD0:=AA.mk hD;have hw0:=AA.mk hw;clear hw;have hix:=AA.mk fun(H:AB) (k:Nat) (hH: ∀i,i=bx∨i=m∨i=S→H.get i=h.get i)=>Td (π:=k::π) (hD0.out.up (ρ:=k::π) (fun i _ hi=>hH i hi) fun x hx=>AF hx k) l hl hw0.out;have hu3:AA (∀i,i=bx∨i=m∨i=S→Id.under π i=false):=⟨fun i hi=>by rcases hi with rfl|rfl|rfl;exact hD.ub;exact hD.um;exact hD.uS⟩
 clear hD;obtain⟨f,hf⟩: ∃f:E7→Bool,f=fun w=> !AY L w.at_:=⟨_,rfl⟩;rw[←hf];replace hf:=AA.mk hf
 (refine Ak rfl Tryz.func162 rfl rfl rfl ?_;show Wp _ _ _ _ (Tryz.f162.body.get rfl) _ _;simp only[Tryz.f162,Option.get_some])
 refine ax ?_;refine C0 (hix.out _ 3 ?_) (fun o1 g1 p1=>?_)
 .rintro i (rfl|rfl|rfl)
  .rw[get_put,AD hW.1];rfl
  .rw[get_put,AD hW.2.1];rfl
  .rw[get_put,AD hW.2.2];rfl
 obtain⟨r,rfl,hr⟩:=p1;cases hr with
 |none hall=>
  have hfl:AA (l.filter f=l):=⟨List.filter_eq_self.2 fun w hw=>by rw[hf.out];simp[hall w hw]⟩;replace hall:=AA.mk hall;refine ax ?_;rw[hfl.out];exact⟨x,rfl,rfl,fun _ _ _=>trivial⟩
 |some k hbe hk=>
  obtain⟨w0,hw1,hw2⟩:=hk;have hkl:=AI hw1;have hneg: ¬(k:Int)= -1:=by omega
  replace hbe:=AA.mk hbe;have hfk:((l.take (k+1)).filter f)=l.take k:=by
   rw[List.take_add_one,hw1,List.filter_append,List.filter_eq_self.2 fun w hw=>by rw[hf.out];simp[hbe.out w hw]];simp[hf.out,hw2]
  have hlk:(l.take k).length=k:=by rw[List.length_take];omega
  replace hw2:=AA.mk hw2;refine ax ?_;refine rounds (S:=fun(a:(Nat×Nat)×AB×Nat)=>⟨[(0,.osl W 0 l.length),(1,.fn 163 [] [.ptr bx 0]),(5,.d (.int .i64 (a.1.2))),(6,.d (.int .i64 (a.1.1)))],a.2.1,a.2.2+10,[]⟩)
   (Inv:=fun a=>a.1.2<a.1.1∧a.1.1≤l.length∧AA (∃Y,a.1.2+Y.length=a.1.1∧(∀e∈Y,e.length=3)∧((l.take a.1.1).filter f).length=a.1.2∧a.2.1.get W=some (.darr 3 (((l.take a.1.1).filter f).map AR++(Y++((l.drop a.1.1).map AR++x)))))∧AA (∀i,Id.is W i=false→Id.under π i=false→a.2.1.get i=h.get i)) (m:=fun a=>l.length-a.1.1) (a:=((k+1,k),h,0)) ⟨by dsimp only;omega,by dsimp only;omega,⟨[AR w0],rfl,by simp[AR],by dsimp only;rw[hfk,hlk],?_⟩,⟨fun _ _ _=>rfl⟩⟩ ?_
  .dsimp only;rw[hfk,hg];have:=LU hw1;rw[show l.map AR=(l.take k).map AR++([AR w0]++(l.drop (k+1)).map AR) by rw[←List.map_singleton,←List.map_append,←List.map_append];exact congrArg _ this];simp
  .rintro⟨⟨j,i⟩,g,b⟩ ⟨j1,j2,hY,hfr⟩ IH;dsimp only at*;obtain⟨Y,hYl,hY3,hfi,hgW⟩:=hY.out;by_cases hjl:j<l.length
   .obtain⟨w,hw⟩:=get_some hjl;have hFl:((l.take j).filter f).map AR++(Y++((l.drop j).map AR++x))=(((l.take j).filter f).map AR++Y)++((l.drop j).map AR++x):=by simp
    have hal:(((l.take j).filter f).map AR++Y).length=j:=by rw[List.length_append,List.length_map];omega
    have hix:(((l.take j).filter f).map AR++(Y++((l.drop j).map AR++x)))[j]? =some (AR w):=by
     rw[hFl,List.getElem?_append_right (by omega),hal,Nat.sub_self,Ae hw];rfl
    have hjx:j<(((l.take j).filter f).map AR++(Y++((l.drop j).map AR++x))).length:=AI hix;have hfd:AA (∀H n,(∀i,i=bx∨i=m∨i=S→H.get i=g.get i)→ ∃o h',KL Tryz.prog cfg (.fn 163) [.agg [.d (.int .i64 (w.at_)),.d (.int .i64 (w.node)),.d (.lst (w.env.map AN))],.ptr bx 0] H (n::π) true (some (n::π))=.ok (o,h')∧o=.ret (.d (.bool (AY L w.at_)))):=⟨fun H n hH=>ee (hD0.out.up (fun i hu hi=>(hH i hi).trans (hfr.out i (AD fun e=>by subst e;rcases hi with e|e|e;exact hW.1 e;exact hW.2.1 e;exact hW.2.2 e) hu)) fun x hx=>AF hx n) w (hw0.out w (List.mem_of_getElem? hw))⟩
    have hjl2:(j:Int)<l.length:=by omega
    obtain⟨ar,har⟩: ∃ar,ar=((l.take j).filter f).map AR++(Y++((l.drop j).map AR++x)):=⟨_,rfl⟩;rw[←har]at hix hgW hjx;replace har:=AA.mk har;refine ax ?_;refine C0 (hfd.out _ _ ?_) (fun o1 g1 p1=>?_)
    .intro i hi;have q:=AG (hu3.out i hi);simp only[go_sem,q,Bool.false_eq_true]
    subst p1;have ht:(l.take (j+1)).filter f=(l.take j).filter f++if f w=true then [w]else []:=by
     rw[List.take_add_one,hw,List.filter_append];simp[List.filter_cons]
    cases hdd:AY L w.at_ with
    |true=>
     have hfw:f w=false:=by rw[hf.out];simp[hdd]
     rw[hfw,if_neg (by simp),List.append_nil]at ht;replace hfw:=AA.mk hfw;replace ht:=AA.mk ht;refine ax ?_;refine IH.out ((j+1,i),_,b+17) (by dsimp only;omega) ⟨by dsimp only;omega,by dsimp only;omega,⟨Y++[AR w],by simp;omega,?_,by rw[ht.out];exact hfi,?_⟩,⟨fun i2 u1 u2=>?_⟩⟩
     .intro e he;rcases List.mem_append.1 he with he|he
      .exact hY3 e he
      .rw[List.mem_singleton]at he;subst he;rfl
     .rw[ht.out];dsimp only;rw[get_put,AD (by intro e;exact absurd (AG uW 0 (b+18)) (by rw[e,is_self];simp)),get_put,AD (by intro e;exact absurd (AG uW 0 (b+18)) (by rw[e,is_self];simp))];simp only[Bool.false_eq_true,if_false];rw[hgW,har.out,Ae hw];simp
     .dsimp only;rw[get_put,AG u2,get_put,AG u2];exact hfr.out i2 u1 u2
    |false=>
     have hfw:f w=true:=by rw[hf.out];simp[hdd]
     rw[hfw,if_pos rfl]at ht;have hil:i<ar.length:=by omega
     have w1:IntKind.i64.wrap ((i:Int)+1)=(i:Int)+1:=wrap_id (by omega) (by omega);replace hfw:=AA.mk hfw;replace ht:=AA.mk ht;obtain⟨e0,he0⟩:=get_some (l:=ar) (i:=i) hil;have hil2:i<l.length:=by omega
     have hY0:0<Y.length:=by omega
     obtain⟨y0,Y',rfl⟩: ∃y0 Y',Y=y0::Y':=by
      cases Y with
      |nil=>simp at hY0
      |cons y0 Y'=>exact⟨y0,Y',rfl⟩
     have hle:i=(((l.take j).filter f).map AR).length:=by rw[List.length_map,hfi]
     have he:e0=y0:=by
      rw[har.out,List.getElem?_append_right (by omega),hle,Nat.sub_self]at he0;simpa using he0.symm
     subst he;obtain⟨z0,z1,z2,rfl⟩: ∃a b c,e0=[a,b,c]:=by
      have:=hY3 e0 (by simp)
      match e0,this with
      |[a,b,c],_=>exact⟨a,b,c,rfl⟩
     replace hle:=AA.mk hle;have hset:AA (ar.set i (AR w)=((l.take (j+1)).filter f).map AR++((Y'++[AR w])++((l.drop (j+1)).map AR++x))):=⟨by
      rw[har.out,ht.out,List.set_append_right _ _ (Nat.le_of_eq hle.out.symm),←hle.out,Nat.sub_self,List.cons_append,List.set_cons_zero,Ae hw];simp⟩
     refine ax ?_;refine IH.out ((j+1,i+1),_,b+25) (by dsimp only;omega) ⟨by dsimp only;omega,by dsimp only;omega,⟨Y'++[AR w],by simp at hYl⊢;omega,?_,by rw[ht.out];simp[hfi],?_⟩,⟨fun i2 u1 u2=>?_⟩⟩
     .intro e he;rcases List.mem_append.1 he with he|he
      .exact hY3 e (by simp[he])
      .rw[List.mem_singleton]at he;subst he;rfl
     .dsimp only;rw[←hset.out];simp only[go_sem]
     .simp only[go_sem,u1,AG u2];exact hfr.out i2 u1 u2
   .have hje:j=l.length:=by omega
    rw[hje,List.take_length]at hfi hgW;rw[List.drop_length,List.map_nil,List.nil_append]at hgW;have hjl2: ¬(j:Int)<l.length:=by omega
    have hYl2:Y.length=l.length-i:=by omega
    obtain⟨F,hF⟩: ∃F,F=l.filter f:=⟨_,rfl⟩;rw[←hF]at hfi hgW⊢;have hi0:0<l.length-i:=by omega
    have hFm:(F.map AR).length=i:=by simpa using hfi
    have c5:=R5 (g:=g.get) (n:=l.length) hgW (a:=i) (by omega) (by omega) (by simp;omega) (by simp;omega);simp only[Int.toNat_natCast]at c5;have c6: ∀(j:TI),j.size=3→j.zero=[.d (.int .i64 (0)),.d (.int .i64 (0)),.nils]→Gr g.get W i (l.length-i) j=some ⟨.undef,[(W,.darr 3 (F.map AR++(List.replicate (l.length-i) [.int .i64 0,.int .i64 0,.lst []]++x)))]⟩:=fun j e1 e2=>by
     rw[W2 (z:=[.int .i64 0,.int .i64 0,.lst []]) hgW e1 (by rw[e2];rfl) rfl ⟨⟨by rw[e2];rfl,by rw[e2];rfl⟩,by decide⟩ (by simp;omega),List.take_left' hFm,show F.map AR++(Y++x)=(F.map AR++Y)++x from(List.append_assoc ..).symm,List.drop_left' (l₁:=F.map AR++Y) (by rw[List.length_append,hFm,hYl2])]
    have c7:=fun(g':G) (hg':g' W=some (.darr 3 (F.map AR++(List.replicate (l.length-i) [.int .i64 0,.int .i64 0,.lst []]++x))))=>R4 (n:=l.length) hg' (b:=i) (by omega) (by simp;omega) (by simp;omega);simp only[Int.toNat_natCast]at c7;have hcl:=fun T' (i0:TI)=>YN T' g.get i0 W i (l.length-i) hi0;replace hF:=AA.mk hF;replace hfi:=AA.mk hfi;replace hje:=AA.mk hje;replace hYl2:=AA.mk hYl2;replace hYl:=AA.mk hYl;replace hFm:=AA.mk hFm;refine ax ?_;exact⟨_,by rw[hfi.out],rfl,fun i2 u1 u2=>by rw[u1,if_neg (by simp)];exact hfr.out i2 u1 u2⟩
theorem vR{h:AB}{π:List Nat}{m bx S:Abs.Id}{L:List BC}(hD:MR h π m bx S L)(l:List E7){v:AV}(hv:Kc h 3 v (l.map AR))(uv: ∀i∈AE v,Id.under π i=false∧i≠bx∧i≠m∧i≠S)(hl:l.length≤1000000)(hw: ∀w∈l,Ei L w.at_):
 ∃o h',KL Tryz.prog cfg (.fn 162) [v,.fn 163 [] [.ptr bx 0]] h π true none=.ok (o,h')∧ ∃v',o=.ret v'∧Kc h' 3 v' ((l.filter fun w=> !AY L w.at_).map AR)∧AE v'=AE v∧(v'.isCell=true∧v'.cells=[v'])∧ ∀i,(∀id∈AE v,Id.is id i=false)→Id.under π i=false→h'.get i=h.get i:=by
 rcases hv with⟨rfl,hz⟩|⟨W,x,rfl,hg⟩
 .have hz:=List.map_eq_nil_iff.1 hz;subst hz;have hix:=AA.mk fun(H:AB) (k:Nat) (hH: ∀i,i=bx∨i=m∨i=S→H.get i=h.get i)=>Td (π:=k::π) (hD.up (ρ:=k::π) (fun i _ hi=>hH i hi) fun x hx=>AF hx k) [] hl hw;clear hD
  (refine Ak rfl Tryz.func162 rfl rfl rfl ?_;show Wp _ _ _ _ (Tryz.f162.body.get rfl) _ _;simp only[Tryz.f162,Option.get_some])
  refine ax ?_;refine C0 (hix.out _ 3 fun _ _=>rfl) (fun o1 g1 p1=>?_);obtain⟨r,rfl,hr⟩:=p1;cases hr with
  |none _=>
   refine ax ?_;exact⟨_,rfl,.inl ⟨rfl,rfl⟩,rfl,⟨rfl,rfl⟩,fun _ _ _=>trivial⟩
  |some k _ hk=>
   obtain⟨_,hk,_⟩:=hk;simp at hk
 .obtain⟨u1,u2,u3,u4⟩:=uv W (by simp[AE]);rw[List.length_map];obtain⟨o,h',k1,y,rfl,k2,k3⟩:=vQ hD l hg u1 ⟨u2,u3,u4⟩ rfl hl hw;exact⟨_,h',k1,_,rfl,.inr ⟨W,y,by rw[List.length_map],k2⟩,rfl,⟨rfl,rfl⟩,fun i q1 q2=>k3 i (q1 W (by simp[AE])) q2⟩
end Go.Proofs
namespace Go.Proofs
open Go Go.Abs
def Ks(l:List BC)(at_:Int)(n:Nat):List BC:=(Kd l at_).take n++l.drop n
theorem Qj(l:List BC)(at_:Int){n:Nat}(hn:n≤l.length):(Ks l at_ n).length=l.length:=by
 rw[Ks,List.length_append,List.length_take,List.length_drop,EY];omega
theorem NM(l:List BC)(at_:Int){n:Nat}(hn:n≤l.length)(k:Nat):(Ks l at_ n)[k]? =(l[k]?).map fun x=>if k<n then{x with dead:=x.dead||Ck l k at_}else x:=by
 have hl:((Kd l at_).take n).length=n:=by rw[List.length_take,EY];omega
 rw[Ks];by_cases hk:k<n
 .rw[List.getElem?_append_left (by omega),List.getElem?_take,if_pos hk,U0];simp[hk]
 .rw[List.getElem?_append_right (by omega),hl,List.getElem?_drop,show n+(k-n)=k by omega];cases l[k]? <;>simp[hk]
theorem gq(l:List BC)(at_:Int):Ks l at_ 0=l:=by simp[Ks]
theorem pf(l:List BC)(at_:Int):Ks l at_ l.length=Kd l at_:=by
 rw[Ks,List.drop_length,List.append_nil,List.take_of_length_le (by rw[EY];exact Nat.le_refl _)]
theorem gp{l:List BC}{at_:Int}{n:Nat}{x:BC}(hx:l[n]? =some x):Ks l at_ (n+1)=(Ks l at_ n).set n {x with dead:=x.dead||Ck l n at_}:=by
 have hn:=AI hx;refine List.ext_getElem? fun k=>?_;rw[NM l at_ (by omega),List.getElem?_set,Qj l at_ (by omega),NM l at_ (by omega)];by_cases e:n=k
 .subst e;rw[if_pos rfl,if_pos hn,hx,Option.map_some,if_pos (by omega)]
 .rw[if_neg e];congr 1;funext y;by_cases h:k<n
  .rw[if_pos h,if_pos (by omega)]
  .rw[if_neg h,if_neg (by omega)]
theorem vS{l:List BC}{at_:Int}{n:Nat}{x:BC}(hx:l[n]? =some x):(Ks l at_ n)[n]? =some x:=by
 have hn:=AI hx;rw[NM l at_ (by omega),hx];simp
theorem pg(l:List BC)(at_:Int){n:Nat}(hn:n≤l.length)(i:Int):A9 (Ks l at_ n) i=A9 l i:=by
 rw[A9,A9,NM l at_ hn];cases l[i.toNat]? with
 |none=>rfl
 |some x=>
  simp only[Option.map_some,Option.getD_some];split<;>rfl
theorem R2{l m:List BC}(hp: ∀i,A9 m i=A9 l i)(hl:m.length=l.length): ∀(k:Nat) (i:Int),BD m k i=BD l k i
 |0,i=>rfl
 |k+1,i=>by
  rw[BD,BD,hp,R2 hp hl k];congr 2;exact decide_eq_decide.2 (by unfold Ei;rw[hl])
theorem Y9{l m:List BC}(hp: ∀i,A9 m i=A9 l i): ∀(k:Nat) (i:Int),Pr m k i=Pr l k i
 |0,i=>rfl
 |k+1,i=>by rw[Pr,Pr,hp,Y9 hp k]
theorem nF{l m:List BC}(hp: ∀i,A9 m i=A9 l i)(hl:m.length=l.length)(h:Fo l):Fo m:=
 ⟨by rw[hl];exact h.pos,by rw[hp];exact h.top,fun i hi=>by rw[R2 hp hl,hl];exact h.climbs i (by rw[Ei,hl]at hi;exact hi)⟩
theorem ZA{l m:List BC}(hp: ∀i,A9 m i=A9 l i)(hl:m.length=l.length)(b a:Int):Ck m b a=Ck l b a:=by
 rw[Ck,Ck,hl,Y9 hp]
def Qg(l:List BC)(q:Fa):Fa:=if AY l q.at_=true then{q with queue:=[]}else q
def Mb(l:List BC)(c:List Fa)(n:Nat):List Fa:=(c.take n).map (Qg l)++c.drop n
theorem gd(l:List BC)(c:List Fa):Mb l c 0=c:=by simp[Mb]
theorem pZ(l:List BC)(c:List Fa):Mb l c c.length=c.map (Qg l):=by simp[Mb]
theorem pb(l:List BC)(c:List Fa){n:Nat}(hn:n≤c.length):(Mb l c n).length=c.length:=by
 rw[Mb,List.length_append,List.length_map,List.length_take,List.length_drop];omega
theorem Ux{l:List BC}{c:List Fa}{n:Nat}{q:Fa}(hq:c[n]? =some q):(Mb l c n)[n]? =some q:=by
 have hn:=AI hq;have hl:((c.take n).map (Qg l)).length=n:=by rw[List.length_map,List.length_take];omega
 rw[Mb,List.getElem?_append_right (by omega),hl,Nat.sub_self,Ae hq];rfl
theorem ga{l:List BC}{c:List Fa}{n:Nat}{q:Fa}(hq:c[n]? =some q):Mb l c (n+1)=(Mb l c n).set n (Qg l q):=by
 have hn:=AI hq;have hl:((c.take n).map (Qg l)).length=n:=by rw[List.length_map,List.length_take];omega
 rw[Mb,Mb,List.take_add_one,hq,List.set_append_right _ _ (by omega),hl,Nat.sub_self,Ae hq];simp
theorem vU(s:A8)(at_:Int):OW s at_=⟨Kd s.spots at_,s.groups,s.chans.map (Qg (Kd s.spots at_)),s.waits.filter fun w=> !AY (Kd s.spots at_) w.at_⟩:=rfl
end Go.Proofs
namespace Go.Proofs
open Go Go.Abs
set_option maxRecDepth 100000
set_option maxHeartbeats 4000000
theorem ZC{α:Type}{l:List α}{i:Nat}{x:α}(h:l[i]? =some x):l.set i x=l:=by
 obtain⟨h1,h2⟩:=List.getElem?_eq_some_iff.1 h;rw[←h2];exact List.set_getElem_self h1
theorem pC{p:AJ}{sz:List Int}{V V2:MV}{w w2:Int}(h:Aj p sz V w=Aj p sz V2 w2):V2.v3=V.v3:=by
 simp only[Aj,List.cons.injEq]at h;exact h.2.2.1.symm
theorem zA{p:AJ}{sz:List Int}(hF:BO p sz){h:AB}{π:List Nat}{m:Abs.Id}{V:MV}{st:CU}(hM:EE p sz h m V st)(hu:CF π V m)(hs:Fm p sz st.sol){at_:Int}(ha:Ei st.sol.spots at_)(hev:st.ev.length≤900000):
 ∃o h',KL Tryz.prog cfg (.fn 102) [.ptr m 0,.d (.int .i64 (at_))] h π true none=.ok (o,h')∧EU p sz π m V h (some ⟨OW st.sol at_,st.ev++[⟨3,at_,0,0,[]⟩],st.work⟩) o h':=by
 have hm:=hM.box;simp only[Aj]at hm;have um:=hu m (V.m_mem m);have e1:=AG um;have e2:=Ar um;have hss:=hs.small;simp only[A8.small,Bool.and_eq_true,decide_eq_true_eq]at hss;obtain⟨s1,s2,s3,s4⟩:=hss;have a0:=ha.1;have a1:=ha.2;replace hM:=AA.mk hM;replace hu:=AA.mk hu;replace hs:=AA.mk hs;replace ha:=AA.mk ha
 (refine Ak rfl Tryz.func102 rfl rfl rfl ?_;show Wp _ _ _ _ (Tryz.f102.body.get rfl) _ _;simp only[Tryz.f102,Option.get_some])
 refine ax ?_;refine Ab (IU (V:=V) (st:=st) (EA hM.out hu.out ?_) (hu.out.ext _) 3 at_ 0 0 [] (by simp) (by omega)) (fun o1 g1 p1=>?_)
 .intro id b;have q1:=AG b;simp only[go_sem,q1,Bool.false_eq_true]
 have hr0:B9 p sz π m V h 0 V st (h.put (0::0::π) (.box [.ptr m 0])):=O0 hM.out hu.out fun id b=>by
  have q1:=AG b;rw[get_put,q1];rfl
 obtain⟨V1,hR1,_⟩:=(hr0.up (b':=3) (by omega)).call hu.out (n:=3) (by omega) p1;have k2:=(hr0.up (b':=3) (by omega)).box hu.out (k:=0) (by omega) p1;rw[get_put,is_self,if_pos rfl]at k2;obtain rfl:=p1.1;have gm1:=hR1.rep.box;simp only[Aj]at gm1;have hl0:=Gy (hR1.rep.sl 0 (by omega));simp only[Aw,List.length_map]at hl0;obtain⟨EV,hEV⟩: ∃EV,EV=st.ev++[(⟨3,at_,0,0,[]⟩:Iy)]:=⟨_,rfl⟩;rw[←hEV]at hR1⊢;replace hEV:=AA.mk hEV;replace hR1:=AA.mk hR1;replace hr0:=AA.mk hr0;replace p1:=AA.mk p1
 (repeat' (first|simp only[go_sem, *,↓hl0,Bool.false_eq_true]|(refine sx ?_ ?_<;>intro hc)|refine sy (by omega) fun x hx hm=>?_|simp(disch:=first|assumption|omega) only[wrap_id,AK,AH,slice_int]))
 clear hm gm1 hl0 p1;refine AX st.sol.spots _ (S:=fun m' i (a:AB×Nat)=>⟨[(1,.d (.int .i64 (at_))),(2,.ptr (0::0::π) 0),(15,.d (.int .i64 (m'))),(16,.d (.int .i64 (i)))],a.1,a.2+11,[]⟩)
  (Inv:=fun i rest a=>a.1.get (0::0::π)=some (.box [.ptr m 0])∧AA (∃V',B9 p sz π m V h (a.2+11) V' ⟨{st.sol with spots:=Ks st.sol.spots at_ i},EV,st.work⟩ a.1)) (b0:=(_,0)) rfl ⟨k2,⟨V1,by rw[gq];exact hR1.out.up (by omega)⟩⟩ ?_ ?_
 .rintro i x ⟨g,b⟩ hx hi him ⟨k2,hR⟩ IH;dsimp only at*;obtain⟨V',hR⟩:=hR.out;obtain⟨D,hD⟩: ∃D,D=Ks st.sol.spots at_ i:=⟨_,rfl⟩;have hil:=AI hx;have hDl:D.length=st.sol.spots.length:=by rw[hD];exact Qj _ _ (by omega)
  have hDx:D[i]? =some x:=by rw[hD];exact vS hx
  have hDp: ∀i,A9 D i=A9 st.sol.spots i:=fun k=>by rw[hD];exact pg _ _ (by omega) k
  have hDs:AA (Ks st.sol.spots at_ (i+1)=D.set i {x with dead:=x.dead||Ck st.sol.spots i at_}):=⟨by rw[hD];exact gp hx⟩
  have hDt:=nF hDp hDl hs.out.tree;have hDi:=ZA hDp hDl (i:Int) at_;rw[←hD]at hR;replace hD:=AA.mk hD;have gm:=hR.rep.box;simp only[Aj]at gm;obtain⟨S,ys,hSs,gS,xS,lS,lS2⟩:=HX (hR.rep.sl 0 (by omega)) hDx;simp only[FZ]at gS;have hwi:=UX D i at_ (by omega) hDt ⟨by omega,by omega⟩ a0
  rw[hDi]at hwi;have hiS:=hR.ids S (V'.s_mem m (i:=0) (by omega) (by rw[hSs];simp[AE]));have hbS: ∀k,Id.is S (0::k::π)=false:=fun k=>AD fun e=>Gp hR hu.out k (by rw[←e];exact V'.s_mem m (i:=0) (by omega) (by rw[hSs];simp[AE]));have hgo:=AA.mk (HL (N:=HB (b+11) (b+33) π) (st:=⟨{st.sol with spots:=D},EV,st.work⟩) (st':=⟨{st.sol with spots:=Ks st.sol.spots at_ (i+1)},EV,st.work⟩) 0 (by omega) hR.rep (hR.apartB hu.out) (rA rfl rfl rfl) rfl (.osl S 0 D.length))
  rw[hSs]at gm;replace hDp:=AA.mk hDp;replace hDt:=AA.mk hDt;replace hDi:=AA.mk hDi;replace hiS:=AA.mk hiS;replace hR:=AA.mk hR;have hDl2:=AA.mk hDl;cases hin:Ck st.sol.spots i at_ with
  |true=>
   rw[hin]at hwi hDs;rw[Bool.or_true]at hDs;replace hDl:=AA.mk hDl;refine ax ?_;have hSm:Id.is S m=false:=AD fun e=>by rw[e,gm]at gS;cases gS
   have hmS:Id.is m S=false:=AD fun e=>by rw[←e,gm]at gS;cases gS
   have hst:(D.set i {x with dead:=true}).map Af++ys=(D.map Af++ys).set i [.int .i64 x.in_,.bool true]:=by
    rw[List.set_append_left _ _ (by simpa using lS),List.map_set];rfl
   obtain⟨V2,hR2,_⟩:=hR.out.step (b':=b+33) (by omega) (hgo.out (g.put S (.darr 2 ((D.map Af++ys).set i [.int .i64 x.in_,.bool true]))) (by rw[get_put,hSm];exact gm) (BU ys (by simp only[Aw,List.length_map];rw[Qj _ _ (by omega)];exact hDl2.out) (by rw[get_put,is_self,←hst,←hDs.out];rfl)) (.inl (by rw[hSs])) fun id b1 b2 b3=>by rw[get_put,b2 S (by rw[hSs];simp[AE])];rfl);refine IH.out (_,b+22) ⟨?_,⟨V2,hR2⟩⟩;dsimp only;rw[get_put,hbS];exact k2
  |false=>
   rw[hin,Bool.or_false]at hDs;rw[hin]at hwi;replace hDl:=AA.mk hDl;refine ax ?_;refine IH.out (g,b+13) ⟨k2,⟨V',?_⟩⟩;have:Ks st.sol.spots at_ (i+1)=D:=by
    rw[hDs.out];exact ZC hDx
   dsimp only;rw[this];exact hR.out.up (by omega)
 .rintro i ⟨g,b⟩ hi him ⟨k2,hR⟩;dsimp only at*;obtain⟨V',hR⟩:=hR.out;rw[hi.out,pf]at hR;obtain⟨D,hD⟩: ∃D,D=Kd st.sol.spots at_:=⟨_,rfl⟩;have hDl:D.length=st.sol.spots.length:=by rw[hD,EY]
  rw[vU,←hD];rw[←hD]at hR;replace hD:=AA.mk hD;have gm:=hR.rep.box;simp only[Aj]at gm;have hl3:=P2 hR.rep.arr;rw[hR.rep.chans.len]at hl3;dsimp only at hl3;have h2:=hR.rep.sl 2 (by omega);have h0:=hR.rep.sl 0 (by omega);simp only[Aw,FZ]at h2 h0;rcases h0 with⟨_,hz0⟩|⟨S,ys,h0,gS⟩
  .rw[List.map_eq_nil_iff.1 hz0]at hDl;have:=hs.out.tree.pos;simp at hDl;omega
  rw[List.length_map]at h0;have hSi:=V'.s_mem m (i:=0) (by omega) (id:=S) (by rw[h0];simp[AE]);have uS:=hR.apart hu.out (n:=b+19) (by omega) S hSi;have hwr: ∀w∈st.sol.waits,Ei D w.at_:=fun w hw=>by
   have:=hs.out.wait w hw;simp only[CP,Bool.and_eq_true,decide_eq_true_eq]at this;rw[Ei,hDl];exact this.1
  obtain⟨w2,hw2⟩: ∃w2,w2=V'.s 2:=⟨_,rfl⟩;rw[←hw2]at h2 gm;have huv: ∀i∈AE w2,Id.under ((b+19)::π) i=false∧i≠0::0::π∧i≠m∧i≠S:=fun i hi=>by
   have hWi:=V'.s_mem m (i:=2) (by omega) (id:=i) (by rw[←hw2];exact hi);obtain⟨x,hx⟩:=Dk h2 hi;exact⟨hR.apart hu.out (n:=b+19) (by omega) i hWi,fun e=>Gp hR hu.out 0 (e▸hWi),fun e=>(by rw[e,gm]at hx;cases hx),fun e=>(by rw[e,gS]at hx;cases hx)⟩
  have hdel:=AA.mk (vR (h:=g) (π:=(b+19)::π) (m:=m) (bx:=0::0::π) (S:=S) (L:=D) ⟨k2,⟨_,_,_,_,_,_,_,_,_,_,_,_,by rw[gm,h0]⟩,⟨ys,gS⟩,BA π (by omega),AF um _,uS⟩ st.sol.waits h2 huv (by omega) hwr);have hgo:=AA.mk fun v=>HL (N:=HB (b+11) (b+31) π) (st:=⟨{st.sol with spots:=D},EV,st.work⟩) (st':=⟨{st.sol with spots:=D,waits:=st.sol.waits.filter fun w=> !AY D w.at_},EV,st.work⟩) 2 (by omega) hR.rep (hR.apartB hu.out) (rB rfl rfl rfl) rfl v
  have gm0:=AA.mk gm;replace h2:=AA.mk h2;replace hw2:=AA.mk hw2;replace huv:=AA.mk huv;replace hR:=AA.mk hR;replace hwr:=AA.mk hwr;replace hDl:=AA.mk hDl;refine ax ?_;refine Ep hdel.out (fun o1 g1 p1=>?_);obtain⟨v',rfl,p1,p3,⟨p4,p5⟩,p2⟩:=p1;have um2:=AF um (b+19);have Wm: ∀id∈AE w2,Id.is id m=false:=fun id hid=>AD (huv.out id hid).2.2.1;have gm2:=(AU _ g1 _ um2).trans ((p2 m Wm um2).trans gm);have k3:=(AU _ g1 _ (BA π (show 0≠b+19 by omega))).trans ((p2 (0::0::π) (fun id hid=>AD (huv.out id hid).2.1) (BA π (by omega))).trans k2);have hdf:=pk (h:=g) (h':=gc ((b+19)::π) g1) k2 (by rw[k3];simp[Obj.same,AV.sames,AV.same,is_self]);obtain⟨F,hF2⟩: ∃F,F=st.sol.waits.filter fun w=> !AY D w.at_:=⟨_,rfl⟩;rw[←hF2]at p1 hgo⊢;obtain⟨H3,hH3⟩: ∃H3,H3=(gc ((b+19)::π) g1).put m (.box [.osl S 0 D.length,V'.s 1,V'.v3,v',.d (.lst (p.free.map Bt)),.d (.lst (p.nodes.map BQ)),.d (.lst (p.defs.map B6)),.d (.int .i64 (p.main)),.d (.lst (sz.map AO)),V'.v9,.mp V'.acts,V'.s 3,.d (.int .i64 (st.work))]):=⟨_,rfl⟩;have A1:H3.get m=some (.box (Aj p sz (V'.upd 2 v') st.work)):=by
   rw[hH3,get_put,is_self,←h0];rfl
  have A2:Kc H3 3 v' (F.map AR):=Dt p1 fun id hid=>by
   rw[p3]at hid;have hh:=huv.out id hid;rw[hH3,get_put,AD fun e=>hh.2.2.1 e.symm,if_neg (by simp),AU _ _ _ hh.1]
  obtain⟨V2,hr2,_⟩:=hR.out.step (b':=b+31) (by omega) (hgo.out v' H3 A1 A2 (.inl (by rw[p3,hw2.out])) fun id b1 b2 b3=>by rw[hH3,get_put,b1,if_neg (by simp),AU _ _ _ (Ic b3 (by omega) (by omega)),p2 id (by rw[hw2.out];exact b2) (Ic b3 (by omega) (by omega))]);have k4:H3.get (0::0::π)=some (.box [.ptr m 0]):=by
   rw[hH3,get_put,e2,if_neg (by simp)];exact k3
  replace hF2:=AA.mk hF2;replace p1:=AA.mk p1;replace p2:=AA.mk p2;replace p3:=AA.mk p3;replace Wm:=AA.mk Wm;replace hr2:=AA.mk hr2;replace k4:=AA.mk k4;replace A1:=AA.mk A1;replace A2:=AA.mk A2;replace hH3:=AA.mk hH3
  (repeat' (first|simp only[go_sem, *,↓hl3,Bool.false_eq_true]|(refine sx ?_ ?_<;>intro hc)|refine sy (by omega) fun x hx hm=>?_|simp(disch:=first|assumption|omega) only[wrap_id,AK,AH,slice_int]))
  rw[←hH3.out];have hv3:V2.v3=V'.v3:=pC (V:=V'.upd 2 v') (Obj.box.inj (Option.some.inj (A1.out.symm.trans hr2.out.rep.box)));obtain⟨X3,hX3⟩: ∃X3,X3=V'.v3:=⟨_,rfl⟩;rw[←hX3]at hv3⊢;replace hX3:=AA.mk hX3;clear gm gm2 hdf k3 hl3 gS h0;clear hSi uS e1;refine AX st.sol.chans _ (S:=fun m' i (a:AB×Nat)=>⟨[(2,.ptr (0::0::π) 0),(51,X3),(52,.d (.int .i64 (m'))),(53,.d (.int .i64 (i)))],a.1,a.2+31,[]⟩)
   (Inv:=fun i rest a=>a.1.get (0::0::π)=some (.box [.ptr m 0])∧AA (∃V',V'.v3=X3∧B9 p sz π m V h (a.2+31) V' ⟨⟨D,st.sol.groups,Mb D st.sol.chans i,F⟩,EV,st.work⟩ a.1)) (b0:=(H3,b)) rfl ⟨k4.out,⟨V2,hv3,by rw[gd];exact hr2.out⟩⟩ ?_ ?_
  .clear hR1 hR;rintro i q ⟨g,b⟩ hq hi him ⟨k2,hR⟩ IH;dsimp only at*;obtain⟨V',hv,hR⟩:=hR.out;have gm:=hR.rep.box;simp only[Aj,hv]at gm;have hqa:=(Wu hF hs.out hq).at_;have q0:=hqa.1;have q1:=hqa.2;obtain⟨qv,hrow,hqs⟩:=hR.rep.chans.row _ _ (Ux (l:=D) hq);rcases hR.rep.arr with⟨_,hA⟩|⟨A,hA,gA⟩
   .rw[hA]at hrow;simp at hrow
   have lA:=AI hrow;rw[hv]at hA;have hrl:V'.rows.length=st.sol.chans.length:=by
    have:=hR.rep.chans.len;simp only at this;rw[this,pb _ _ (by have:=AI hq;omega)]
   have hDl3:=hDl.out;obtain⟨sp,hsp⟩:=get_some (l:=D) (i:=q.at_.toNat) (by omega);obtain⟨S2,ys2,hSs,gS,xS,lS,lS2⟩:=HX (hR.rep.sl 0 (by omega)) hsp;simp only[FZ]at gS;rw[hSs]at gm;have hAi:=V'.v3_mem m (id:=A) (by rw[hv,hA];simp[AE]);have hSi:=V'.s_mem m (i:=0) (by omega) (id:=S2) (by rw[hSs];simp[AE]);have nA:=Eo (b':=0) hu.out (hR.ids A hAi);have nS:=Eo (b':=0) hu.out (hR.ids S2 hSi);have nM:=Eo (b':=0) hu.out (hR.ids m (V'.m_mem m));have bA: ∀k,Id.is A (0::k::π)=false:=fun k=>AD fun e=>Gp hR hu.out k (by rw[←e];exact hAi);have hcu:AA (Mb D st.sol.chans (i+1)=(Mb D st.sol.chans i).set i (Qg D q)):=⟨ga hq⟩;have hdd:AY D q.at_=sp.dead:=by rw[AY,hsp];rfl
   have hgo:=AA.mk fun h'=>Rq (N:=HB (b+31) (b+59) π) hR.rep (hR.apartB hu.out) (by rw[hv];exact hA) (Ux (l:=D) hq) hrow [] .nils h';have hqc:qv.isCell=true:=by rcases hqs with⟨rfl,_⟩|⟨_,_,rfl,_⟩<;>rfl
   have hqd:qv.cells=[qv]:=by rcases hqs with⟨rfl,_⟩|⟨_,_,rfl,_⟩<;>rfl
   have hrow0:=AA.mk hrow;simp only[Aq]at hrow;replace hDl3:=AA.mk hDl3;replace hR:=AA.mk hR;replace hv:=AA.mk hv;replace hdd:=AA.mk hdd;replace hrl:=AA.mk hrl
   (repeat' (first|simp only[go_sem, *,Bool.false_eq_true]|(refine sx ?_ ?_<;>intro hc)|refine sy (by omega) fun x hx hm=>?_|simp(disch:=first|assumption|omega) only[wrap_id,AK,AH,slice_int]))
   .have hcut:AA (Qg D q={q with queue:=[]}):=⟨by rw[Qg,hdd.out,hc,if_pos rfl]⟩
    obtain⟨H4,hH4⟩: ∃H4,H4=((g.put (0::(b+35)::π) (.box [.d (.int .i64 (0)),.d (.int .i64 (0)),.d (.int .i64 (0)),.nils])).put (0::(b+35)::π) (.box [.d (.int .i64 (q.group)),.d (.int .i64 (q.index)),.d (.int .i64 (q.at_)),qv])).put A (.arr 4 (V'.rows.set i [.d (.int .i64 (q.group)),.d (.int .i64 (q.index)),.d (.int .i64 (q.at_)),.nils])):=⟨_,rfl⟩;have B1:H4.get m=some (.box (Aj p sz V' st.work)):=by
     rw[hH4,get_put,AD (show A≠m from fun e=>by rw[e,gm]at gA;cases gA),get_put,nM _ _ (by omega),get_put,nM _ _ (by omega)];exact hR.out.rep.box
    have B0:H4.get A=some (.arr 4 (V'.rows.set i (Aq q .nils))):=by
     rw[hH4,get_put,is_self];rfl
    obtain⟨V3,hR3,_⟩:=hR.out.step (b':=b+59) (by omega) (hgo.out H4 B1 B0 (.inl ⟨rfl,rfl⟩) (.inr fun id hid=>by simp[AE]at hid) fun id b1 b2 b3 b4=>by rw[hH4,get_put,b2,get_put,Cw b4 0 (b+35) (by omega) (by omega),get_put,Cw b4 0 (b+35) (by omega) (by omega)];rfl);rw[←hH4];have B2:H4.get (0::0::π)=some (.box [.ptr m 0]):=by
     rw[hH4,get_put,bA,get_put,AD (by simp),get_put,AD (by simp)];exact k2
    have hv3:V3.v3=V'.v3:=pC (V:=V') (Obj.box.inj (Option.some.inj (B1.symm.trans hR3.rep.box)));rw[←hA];refine IH.out (H4,b+28) ⟨B2,⟨V3,hv3.trans hv.out,?_⟩⟩;dsimp only;rw[hcu.out,hcut.out];exact hR3
   .have hcut:AA (Qg D q=q):=⟨by rw[Qg,hdd.out,hc,if_neg (by simp)]⟩;rw[←hA];refine IH.out (_,b+19) ⟨?_,⟨V',hv.out,?_⟩⟩
    .dsimp only;rw[get_put,AD (by simp),get_put,AD (by simp)];exact k2
    .dsimp only;rw[hcu.out,hcut.out,ZC (Ux (l:=D) hq)];exact(hR.out.loc hu.out fun id hh=>by rw[get_put,hh 0 (b+35) (by omega),get_put,hh 0 (b+35) (by omega)];rfl).up (by omega)
  .rintro i ⟨g,b⟩ hi him ⟨k2,hR⟩;dsimp only at*;obtain⟨V',hv,hR⟩:=hR.out;rw[hi.out,pZ]at hR;replace hR:=AA.mk hR;refine ax ?_;exact hR.out.fin
end Go.Proofs
namespace Go.Proofs
open Go Go.Abs
def My(e:List Iy)(st:CU):CU:=⟨st.sol,e++st.ev,st.work⟩
theorem po(p:AJ)(j:Gl)(e:List Iy)(st:CU):Ku p j (My e st)=(Ku p j st).map fun r=>(My e r.1,r.2):=by
 simp only[Ku];cases p.nodes[j.node.toNat]? with
 |none=>rfl
 |some x=>
  dsimp only;by_cases h2:x.op=2
  .simp only[h2,if_true,EZ,My];by_cases k2:(Hc j.env x.n).kind=2
   .simp only[k2,if_true,Option.map_some,List.append_assoc]
   .by_cases k3:(Hc j.env x.n).kind=3
    .simp only[k3,if_true,Int.reduceEq,if_false];cases O1 p st.sol (Hc j.env x.n).n (x.args.map (·.value j.env))<;>rfl
    .simp only[k2,k3,if_false];rfl
  by_cases h3:x.op=3
  .simp only[h3,Int.reduceEq,if_false,if_true];rfl
  by_cases h4:x.op=4
  .simp only[h4,Int.reduceEq,if_false,if_true,HZ,My];cases p.defs[x.n.toNat]? with
   |none=>rfl
   |some d=>
    dsimp only;split<;>rename_i hc<;>simp[hc]
  by_cases h5:x.op=5
  .simp only[h5,Int.reduceEq,if_false,if_true];rfl
  by_cases h6:ET x.op=true
  .simp only[h2,h3,h4,h5,h6,if_false,if_true,JC,My];split<;>rename_i hc<;>simp[hc]
  .simp only[h2,h3,h4,h5,h6,if_false];rfl
theorem ez{f:Gl→CU→Option CU}{e:List Iy}(hf: ∀j st,f j (My e st)=(f j st).map (My e)): ∀(l:List Gl) (st:CU),Bo f l (My e st)=(Bo f l st).map (My e)
 |[],st=>rfl
 |j::l,st=>by
  rw[Bo,Bo,hf];cases f j st with
  |none=>rfl
  |some st1=>exact ez hf l st1
theorem U2(p:AJ)(e:List Iy): ∀(k:Nat) (j:Gl) (st:CU),Fg p k j (My e st)=(Fg p k j st).map (My e)
 |0,j,st=>rfl
 |k+1,j,st=>by
  rw[Fg,Fg];have hw:(My e st).work=st.work:=rfl;rw[hw];by_cases h:st.work<400
  .rw[if_pos h,if_pos h];have:=po p j e {st with work:=st.work+1}
   rw[show({My e st with work:=st.work+1}:CU)=My e {st with work:=st.work+1}from rfl,this]
   cases Ku p j {st with work:=st.work+1}with
   |none=>rfl
   |some r=>exact ez (fun j st=>U2 p e k j st) r.2 r.1
  .rw[if_neg h,if_neg h];rfl
def Il(p:AJ)(s:A8)(e:List Iy)(x:CJ):Option CU:=(Dn p s x).map (My e)
theorem Te(f:Gl→CU→Option CU)(j:Gl)(st:CU):Bo f [j] st=f j st:=by
 rw[Bo];cases f j st<;>rfl
section
variable{p:AJ}{s:A8}{e:List Iy}{i:Nat}{w:E7}{y:Cd}
theorem Kx(h1:s.waits[i]? =some w)(h2:p.nodes[w.node.toNat]? =some y):Dn p s ⟨i,0,0,[]⟩=M7 p {s with waits:=Cf s.waits i} w y:=by
 rw[Dn,if_neg (by dsimp only;omega),SE];simp only[Int.toNat_natCast,h1,h2]
theorem dy(h1:s.waits[i]? =some w)(h2:p.nodes[w.node.toNat]? =some y)(ho:y.op=7):Il p s e ⟨i,0,0,[]⟩=some ⟨OW {s with waits:=Cf s.waits i} w.at_,e++[⟨3,w.at_,0,0,[]⟩],0⟩:=by
 rw[Il,Kx h1 h2,M7,if_pos ho];rfl
theorem tm(h1:s.waits[i]? =some w)(h2:p.nodes[w.node.toNat]? =some y)(ho:y.op=6){kd:Int}(hk:y.kids=[kd]){v:Cc}(hv:Hc w.env y.n=v):Il p s e ⟨i,0,0,[]⟩=Fg p 401 ⟨kd,w.at_,w.env⟩ ⟨{s with waits:=Cf s.waits i,spots:=GY s.spots w.at_ v.n},e++[⟨2,w.at_,v.n,0,[]⟩],0⟩:=by
 rw[Il,Kx h1 h2,M7,if_neg (by omega),if_pos ho,hv,BR,hk];simp only[List.getElem?_cons_zero];rw[Te];exact(U2 p e 401 _ _).symm
theorem dz(h1:s.waits[i]? =some w)(h2:p.nodes[w.node.toNat]? =some y)(ho:y.op=8){kd:Int}(hk:y.kids=[kd]){v:Cc}(hv:Hc w.env y.n=v):Il p s e ⟨i,0,0,[]⟩=Fg p 401 ⟨kd,w.at_,w.env⟩ ⟨{s with waits:=Cf s.waits i},e++[⟨4,w.at_,v.n,0,[]⟩],0⟩:=by
 rw[Il,Kx h1 h2,M7,if_neg (by omega),if_neg (by omega),hv,BR,hk];simp only[List.getElem?_cons_zero];rw[Te];exact(U2 p e 401 _ _).symm
end
theorem uX{p:AJ}{sz:List Int}{s:A8}{w:E7}{y:Cd}(hF:BO p sz)(h:QH p sz s w y)(ho: ¬y.op=7): ∃kd,y.kids=[kd]:=by
 have hj:CZ p sz s ⟨w.node,w.at_,w.env⟩:=⟨h.n0,h.size,h.at_,h.live,h.vals⟩;obtain⟨y2,l,h1,h2,_⟩:=K3 hF hj;have h1:p.nodes[w.node.toNat]? =some y2:=h1;rw[h.node]at h1;cases h1;simp only[EC,Bool.and_eq_true,decide_eq_true_eq]at h2;have hk:=h2.1;have hl:y.kids.length=1:=by
  rcases h.op with e|e|e
  .rw[e]at hk;simpa[FT]using hk.symm
  .exact absurd e ho
  .rw[e]at hk;simpa[FT]using hk.symm
 match y.kids,hl with
 |[kd],_=>exact⟨kd,rfl⟩
end Go.Proofs
namespace Go.Proofs
open Go Go.Abs
set_option maxRecDepth 100000
set_option maxHeartbeats 4000000
theorem YF{p:AJ}{sz:List Int}{π:List Nat}{m:Abs.Id}{V V':MV}{h H g1:AB}{b n:Nat}{st1:CU}{o:AZ}{r:Option CU}(hu:CF π V m)(hr:B9 p sz π m V h b V' st1 H)(hn:b≤n)(ho:EU p sz (n::π) m V' H r o g1):EU p sz π m V h r o (gc (n::π) g1)∧(o=.ret (.tup [])∨o=.pan (B3 3)):=by
 cases r with
 |none=>exact⟨hr.pan hu hn ho,.inr ho.1⟩
 |some st2=>
  obtain⟨V2,h2,_⟩:=hr.call hu hn ho;obtain⟨rfl,_⟩:=ho;exact⟨h2.fin,.inl rfl⟩
theorem ACK{p:AJ}{sz:List Int}(hF:BO p sz){h:AB}{π:List Nat}{m:Abs.Id}{V:MV}{st:CU}(hM:EE p sz h m V st)(hu:CF π V m)(hs:Fm p sz st.sol){x:CJ}(hx:OG p st.sol x)(hev:st.ev.length≤400000):
 ∃o h',KL Tryz.prog cfg (.fn 55) [.ptr m 0,O7 x] h π true none=.ok (o,h')∧EU p sz π m V h (Il p st.sol st.ev x) o h':=by
 have hm:=hM.box;simp only[Aj]at hm;have um:=hu m (V.m_mem m);have e1:=AG um;have e2:=Ar um;have hss:=hs.small;simp only[A8.small,Bool.and_eq_true,decide_eq_true_eq]at hss;obtain⟨s1,s2,s3,s4⟩:=hss;obtain⟨st0,hst0⟩: ∃st0:CU,st0=⟨st.sol,st.ev,0⟩:=⟨_,rfl⟩;have hrun:AA (∀H:AB,H.get m=some (.box (Aj p sz V 0))→(∀id,Id.is m id=false→Id.under π id=false→H.get id=h.get id)→B9 p sz π m V h 0 V st0 H):=⟨fun H a1 a2=>by
  have:=Tq (st':=st0) hM hu (by rw[hst0];exact a1) (by rw[hst0];exact⟨rfl,rfl⟩) fun id b1 b2=>a2 id (AD fun e=>b1 e.symm) b2;exact⟨this.1,fun id hid=>.inl hid,this.2.frame⟩⟩
 replace hM:=AA.mk hM;replace hu:=AA.mk hu;replace hs:=AA.mk hs;cases hx with
 | @rule i k g d r t h1 h2 h3 h4 h5=>
   have hE:AA (Il p st.sol st.ev ⟨-1,i,k,t⟩=Fg p 401 ⟨r.node,g.place d r.at_,g.env++(Bc d g r.joins t st.sol).1⟩ ⟨(Bc d g r.joins t st.sol).2,st.ev++[⟨1,g.place d r.at_,i,k,(Bc d g r.joins t st.sol).1⟩],0⟩):=⟨by
    have h1':st.sol.groups[((i:Nat):Int).toNat]? =some g:=h1;have h3':d.rules[((k:Nat):Int).toNat]? =some r:=h3;rw[Il,Dn,if_pos (by dsimp only;omega),tK];simp only[h1',(Gu h2).2,h3',Vh];exact(U2 p st.ev 401 _ ⟨(Bc d g r.joins t st.sol).2,[⟨1,g.place d r.at_,i,k,(Bc d g r.joins t st.sol).1⟩],0⟩).symm⟩
   replace h5:=AA.mk h5;replace hst0:=AA.mk hst0;have hr1:B9 p sz π m V h 0 V st0 ((h.put (0::0::π) (.box [.d (.int .i64 (-1)),.d (.int .i64 (i)),.d (.int .i64 (k)),.d (.lst (t.map AO))])).put m (.box (Aj p sz V 0))):=hrun.out _ (by rw[get_put,is_self];rfl) fun id b1 b2=>by
    have q1:=AG b2;rw[get_put,b1,get_put,q1];rfl
   have hre:=AA.mk (tL hF (π:=10::π) (st:=st0) hr1.rep (hr1.apart hu.out (n:=10) (by omega)) (i:=i) (k:=k) (g:=g) (d:=d) (r:=r) (t:=t) (by rw[hst0.out];exact hs.out) (by rw[hst0.out];exact h1) h2 h3 (by rw[hst0.out];exact h4) (by rw[hst0.out];exact h5.out) (by rw[hst0.out]) (by rw[hst0.out];dsimp only;omega));have hfn:=AA.mk fun o g1 r=>YF (o:=o) (g1:=g1) (r:=r) hu.out hr1 (show 0≤10 by omega);replace hr1:=AA.mk hr1
   (refine Ak rfl Tryz.func55 rfl rfl rfl ?_;show Wp _ _ _ _ (Tryz.f55.body.get rfl) _ _;simp only[Tryz.f55,Option.get_some])
   refine ax ?_;refine Ab hre.out (fun o1 g1 p1=>?_);obtain⟨p2,p3⟩:=hfn.out _ _ _ p1;have hE2:EU p sz π m V h (Il p st.sol st.ev ⟨-1,i,k,t⟩) o1 (gc (10::π) g1):=by
    rw[hE.out];rw[hst0.out]at p2;exact p2
   replace hE2:=AA.mk hE2;replace p1:=AA.mk p1;replace p2:=AA.mk p2;rcases p3 with rfl|rfl;all_goals
    refine ax ?_;exact hE2.out
 | @wait i w h1 h2=>
   obtain⟨y,hw⟩:=P8 hF (hs.out.wait w (List.mem_of_getElem? h1));have hil:=AI h1;obtain⟨W,xs,hWs,gW,xW,lW,lW2⟩:=HX (hM.out.sl 2 (by omega)) h1;simp only[FZ]at gW;have hWi:=V.s_mem m (i:=2) (by omega) (id:=W) (by rw[hWs];simp[AE]);have uW:=hu.out W hWi;have a3:=AG uW;have a4:=Ar uW;have Wm:Id.is W m=false:=AD fun e=>by rw[e,hm]at gW;cases gW
   have mW:Id.is m W=false:=AD fun e=>by rw[←e,hm]at gW;cases gW
   have hneg: ¬(i:Int)<0:=by omega
   have w1:IntKind.i64.wrap ((i:Int)+1)=(i:Int)+1:=wrap_id (by omega) (by omega);have hnd:=hw.node;have hn0:=hw.n0;have hnl:=AI hnd;have hm0:=AA.mk hm;rw[hWs]at hm;replace hst0:=AA.mk hst0;replace hw:=AA.mk hw;have hdel:=fun(H:AB) (n:Nat) (hH:H.get W=some (.darr 3 (st.sol.waits.map AR++xs)))=>Uz (π:=n::π) hH (AF uW n) (n:=st.sol.waits.length) (a:=i) (by simp) (by omega) (by intro e he;obtain⟨x,_,rfl⟩:=List.mem_map.1 he;rfl) (by omega);replace hdel:=AA.mk hdel;obtain⟨H1,hH1⟩: ∃H1:AB,H1=(((h.put (0::0::π) (.box [.d (.int .i64 (i)),.d (.int .i64 (0)),.d (.int .i64 (0)),.d (.lst [])])).put m (.box [V.s 0,V.s 1,V.v3,.osl W 0 st.sol.waits.length,.d (.lst (p.free.map Bt)),.d (.lst (p.nodes.map BQ)),.d (.lst (p.defs.map B6)),.d (.int .i64 (p.main)),.d (.lst (sz.map AO)),V.v9,.mp V.acts,V.s 3,.d (.int .i64 (0))])).put (0::17::π) (.box [.d (.int .i64 (0)),.d (.int .i64 (0)),.nils])).put (0::17::π) (.box [.d (.int .i64 (w.at_)),.d (.int .i64 (w.node)),.d (.lst (w.env.map AN))]):=⟨_,rfl⟩;have hr1:B9 p sz π m V h 0 V st0 H1:=hrun.out H1 (by rw[hH1,get_put,e1,get_put,e1,get_put,is_self,if_neg (by simp),if_neg (by simp),if_pos rfl,Aj,hWs]) fun id b1 b2=>by
    have q1:=AG b2;rw[hH1,get_put,q1,get_put,q1,get_put,b1,get_put,q1];rfl
   have k0:H1.get (0::0::π)=some (.box [.d (.int .i64 (i)),.d (.int .i64 (0)),.d (.int .i64 (0)),.d (.lst [])]):=by
    rw[hH1,get_put,AD (by simp),get_put,AD (by simp),get_put,e2,get_put,is_self];rfl
   have k17:H1.get (0::17::π)=some (.box [.d (.int .i64 (w.at_)),.d (.int .i64 (w.node)),.d (.lst (w.env.map AN))]):=by
    rw[hH1,get_put,is_self];rfl
   clear k0;have gm1:H1.get m=some (.box [V.s 0,V.s 1,V.v3,.osl W 0 st.sol.waits.length,.d (.lst (p.free.map Bt)),.d (.lst (p.nodes.map BQ)),.d (.lst (p.defs.map B6)),.d (.int .i64 (p.main)),.d (.lst (sz.map AO)),V.v9,.mp V.acts,V.s 3,.d (.int .i64 (0))]):=by rw[hr1.rep.box,Aj,hWs,hst0.out]
   have gW1:H1.get W=some (.darr 3 (st.sol.waits.map AR++xs)):=by
    rw[hH1,get_put,a3,get_put,a3,get_put,mW,get_put,a3];exact gW
   (refine Ak rfl Tryz.func55 rfl rfl rfl ?_;show Wp _ _ _ _ (Tryz.f55.body.get rfl) _ _;simp only[Tryz.f55,Option.get_some])
   refine ax ?_;rw[←hH1];refine Ab (hdel.out _ 30 gW1) (fun o1 g1 p1=>?_);obtain⟨rfl,⟨y2,p1⟩,p2⟩:=p1;have uW3:=AF uW 30;have um3:=AF um 30;have k17':=(AU (30::π) g1 _ (BA π (show 17≠30 by omega))).trans ((p2 _ (a4 0 17)).trans k17);have gm3:=(AU (30::π) g1 _ um3).trans ((p2 _ Wm).trans gm1);have gW3:=(AU (30::π) g1 _ uW3).trans p1;obtain⟨s1',hs1'⟩: ∃s1:A8,s1={st.sol with waits:=Cf st.sol.waits i}:=⟨_,rfl⟩
   obtain⟨H2,hH2⟩: ∃H2,H2=((gc (30::π) g1).put m (.box [V.s 0,V.s 1,V.v3,.osl W 0 (st.sol.waits.length-1),.d (.lst (p.free.map Bt)),.d (.lst (p.nodes.map BQ)),.d (.lst (p.defs.map B6)),.d (.int .i64 (p.main)),.d (.lst (sz.map AO)),V.v9,.mp V.acts,V.s 3,.d (.int .i64 (0))])):=⟨_,rfl⟩;have A1:H2.get m=some (.box (Aj p sz (V.upd 2 (.osl W 0 (st.sol.waits.length-1))) 0)):=by rw[hH2,get_put,is_self];rfl
   have A2:Kc H2 3 (.osl W 0 (st.sol.waits.length-1)) (Aw ⟨s1',st.ev,0⟩ 2):=by
    refine BU y2 ?_ ?_
    .rw[hs1',Aw,List.length_map,TR (by simpa using hil)]
    .rw[hH2,get_put,mW,if_neg (by simp),gW3,hs1',Aw,Cf,List.map_append,List.map_take,List.map_drop,Int.toNat_natCast]
   obtain⟨V2,hr2,_⟩:=(hr1.up (b':=30) (by omega)).step (b':=36) (by omega) (HL (st':=⟨s1',st.ev,0⟩) 2 (by omega) hr1.rep ((hr1.up (b':=30) (by omega)).apartB hu.out) (rB (by rw[hs1',hst0.out]) (by rw[hs1',hst0.out]) (by rw[hst0.out])) (by rw[hs1',hst0.out]) (.osl W 0 (st.sol.waits.length-1)) H2 A1 A2 (.inl (by rw[hWs];rfl)) fun id b1 b2 b3=>by rw[hH2,get_put,b1,if_neg (by simp),AU _ _ _ (Ic b3 (by omega) (by omega)),p2 id (b2 W (by rw[hWs];simp[AE]))]);have k17:H2.get (0::17::π)=some (.box [.d (.int .i64 (w.at_)),.d (.int .i64 (w.node)),.d (.lst (w.env.map AN))]):=by
    rw[hH2,get_put,e2,if_neg (by simp)];exact k17'
   have gm4:=hr2.rep.box;have hVs:V2.s 0=V.s 0:=by
    have:=Obj.box.inj (Option.some.inj (A1.symm.trans hr2.rep.box));simp only[Aj,List.cons.injEq]at this;exact this.1.symm
   simp only[Aj]at gm4;replace A1:=AA.mk A1;replace A2:=AA.mk A2;replace hH1:=AA.mk hH1;replace hr1:=AA.mk hr1;replace hs1':=AA.mk hs1';replace p1:=AA.mk p1;replace p2:=AA.mk p2;clear gm1 gW1 gW3;replace hH2:=AA.mk hH2;replace gm4:=AA.mk gm4;replace k17:=AA.mk k17;have hsw:Fm p sz s1':=by
    rw[hs1'.out];exact O4 hs.out (by have:=Qs st.sol.waits (i:Int);omega) fun v hv=>hs.out.wait v (OX hv)
   have hwo:=hs.out.wait w (List.mem_of_getElem? h1);replace hsw:=AA.mk hsw;replace hwo:=AA.mk hwo;have hop:=hw.out.op;by_cases h7:y.op=7
   .have hE:AA (Il p st.sol st.ev ⟨i,0,0,[]⟩=some ⟨OW s1' w.at_,st.ev++[⟨3,w.at_,0,0,[]⟩],0⟩):=⟨by rw[hs1'.out];exact dy h1 hnd h7⟩;clear hop;replace h2:=AA.mk h2;replace hr2:=AA.mk hr2;have hst:=AA.mk fun H hl=>zA hF (h:=H) (π:=53::π) (hr2.out.loc hu.out (H:=H) hl).rep (hr2.out.apart hu.out (n:=53) (by omega)) hsw.out (at_:=w.at_) (by have:=hwo.out;simp only[CP,Bool.and_eq_true,decide_eq_true_eq]at this;rw[hs1'.out];exact this.1) (by dsimp only;omega);have hfn:=AA.mk fun H hl o g1 r=>YF (o:=o) (g1:=g1) (r:=r) hu.out (hr2.out.loc hu.out (H:=H) hl) (show 36≤53 by omega);refine ax ?_;rw[←hH2.out];have hloc: ∀o1 o2:Abs.Obj,∀id,(∀a n,36≤n→Id.is (a::n::π) id=false)→((H2.put (0::44::π) o1).put (0::44::π) o2).get id=H2.get id:=fun o1 o2 id hh=>by rw[get_put,hh 0 44 (by omega),get_put,hh 0 44 (by omega)];rfl
    refine Ab (hst.out _ (hloc _ _)) (fun o1 g1 p1=>?_);obtain⟨q2,q3⟩:=hfn.out _ (hloc _ _) _ _ _ p1;replace q2:=AA.mk q2;obtain rfl:=p1.1;replace p1:=AA.mk p1;refine ax ?_;rw[hE.out];exact q2.out
   .obtain⟨v,hv,hvn,hvk⟩:=hw.out.val h7;obtain⟨kd,hkd⟩:=uX hF hw.out h7;obtain⟨n0,n1⟩:=hw.out.n h7;have hg:=h2;rw[goes,hnd]at hg;simp only[h7,if_false,hvn]at hg;have hk4:v.kind=4:=by
     by_cases hk:v.kind=4
     .exact hk
     .rw[if_neg hk]at hg;cases hg
    rw[if_pos hk4]at hg;obtain⟨vr,vy,hvy,hvd⟩:=hvk hk4;have hv0:=vr.1;have hv1:=vr.2;have hat:=hw.out.at_;have hjk:=fun(s:A8) (h:CP p sz s w=true)=>SF hF h hnd 0;rw[show BR y 0 w.at_ w.env=[⟨kd,w.at_,w.env⟩] by rw[BR,hkd];rfl]at hjk;replace h2:=AA.mk h2;replace hvk:=AA.mk hvk;replace hr2:=AA.mk hr2;replace vr:=AA.mk vr;replace hjk:=AA.mk hjk;by_cases h6:y.op=6
    .rw[if_neg (by omega)]at hg;simp only[Bool.and_eq_true,decide_eq_true_eq,Bool.not_eq_true']at hg;have hpos:0<w.at_:=by have:=hat.1;omega
     have hat0:=hat.1;have hat1:=hat.2;obtain⟨sp,hsp⟩:=get_some (l:=st.sol.spots) (i:=w.at_.toNat) (by omega);have hmv:=Nt hs.out hpos hat vr.out hg.2.1 hg.2.2;have hmv2:=Nt hsw.out (i:=w.at_) (n:=v.n) hpos (by rw[hs1'.out];exact hat) (by rw[hs1'.out];exact vr.out) (by rw[hs1'.out];exact hg.2.1) (by rw[hs1'.out];exact hg.2.2);obtain⟨S,ys,hSs,gS,xS,lS,lS2⟩:=HX (hr2.out.rep.sl 0 (by omega)) (show s1'.spots[w.at_.toNat]? =some sp by rw[hs1'.out];exact hsp);simp only[FZ]at gS;have hsl:s1'.spots.length=st.sol.spots.length:=by rw[hs1'.out]
     have hset:AA (GY s1'.spots w.at_ v.n=s1'.spots.set w.at_.toNat {sp with in_:=v.n}):=⟨by rw[GY,hs1'.out];simp only[hsp]⟩
     obtain⟨s2',hs2'⟩: ∃s2:A8,s2={s1' with spots:=GY s1'.spots w.at_ v.n}:=⟨_,rfl⟩
     have hE:AA (Il p st.sol st.ev ⟨i,0,0,[]⟩=Fg p 401 ⟨kd,w.at_,w.env⟩ ⟨s2',st.ev++[⟨2,w.at_,v.n,0,[]⟩],0⟩):=⟨by rw[hs2',hs1'.out];exact tm h1 hnd h6 hkd hvn⟩;obtain⟨H3,hH3⟩: ∃H3,H3=(H2.put (0::44::π) (.box [.d (.int .i64 (0)),.d (.int .i64 (0)),.nils,.nils])).put (0::44::π) (.box [.d (.int .i64 (6)),.d (.int .i64 (y.n)),.d (.lst (y.args.map Bs)),.d (.lst [[.int .i64 kd]])]):=⟨_,rfl⟩;have hr3:B9 p sz π m V h 52 V2 ⟨s1',st.ev,0⟩ H3:=(hr2.out.loc hu.out (H:=H3) fun id hh=>by rw[hH3,get_put,hh 0 44 (by omega),get_put,hh 0 44 (by omega)];rfl).up (by omega);have hSi:=V2.s_mem m (i:=0) (by omega) (id:=S) (by rw[hSs];simp[AE]);have nS:=Eo (b':=0) hu.out (hr2.out.ids S hSi);have bS: ∀k,Id.is S (0::k::π)=false:=fun k=>AD fun e=>Gp hr2.out hu.out k (by rw[←e];exact hSi);have hSm:Id.is S m=false:=AD fun e=>by rw[e,hr2.out.rep.box]at gS;cases gS
     have hmS:Id.is m S=false:=AD fun e=>by rw[←e,hr2.out.rep.box]at gS;cases gS
     have gS3:(gc (30::π) g1).get S=some (.darr 2 (s1'.spots.map Af++ys)):=by
      have h9:=gS
      rwa [hH2.out,get_put,hmS,if_neg (by simp)]at h9
     have hH2b:=hH2.out;rw[←hVs,hSs,hsl]at gm3 hH2b;have hS3:H3.get S=some (.darr 2 (s1'.spots.map Af++ys)):=by
      rw[hH3,get_put,AD (fun e=>by have:=bS 44;rw[e,is_self]at this;cases this),get_put,AD (fun e=>by have:=bS 44;rw[e,is_self]at this;cases this)];exact gS
     obtain⟨H4,hH4⟩: ∃H4,H4=H3.put S (.darr 2 ((s1'.spots.map Af++ys).set w.at_.toNat [.int .i64 v.n,.bool sp.dead])):=⟨_,rfl⟩;have hst2:s2'.spots.map Af++ys=(s1'.spots.map Af++ys).set w.at_.toNat [.int .i64 v.n,.bool sp.dead]:=by
      rw[hs2',hset.out,List.set_append_left _ _ (by simp;omega),List.map_set];rfl
     have B1:H4.get m=some (.box (Aj p sz (V2.upd 0 (.osl S 0 s1'.spots.length)) 0)):=by
      rw[hH4,get_put,hSm,if_neg (by simp),hr3.rep.box];simp only[Aj,←hSs];rfl
     have B2:Kc H4 2 (.osl S 0 s1'.spots.length) (Aw ⟨s2',st.ev,0⟩ 0):=by
      refine BU ys ?_ ?_
      .rw[Aw,List.length_map,hs2',Ia]
      .rw[hH4,get_put,is_self,if_pos rfl,Aw,hst2]
     obtain⟨V3',hr5,_⟩:=hr3.step (b':=69) (by omega) (HL (st':=⟨s2',st.ev,0⟩) 0 (by omega) hr3.rep (hr3.apartB hu.out) (rA (by rw[hs2']) (by rw[hs2']) rfl) (by rw[hs2']) (.osl S 0 s1'.spots.length) H4 B1 B2 (.inl (by rw[hSs])) fun id b1 b2 b3=>by rw[hH4,get_put,b2 S (by rw[hSs];simp[AE])];rfl);have k44:H4.get (0::44::π)=some (.box [.d (.int .i64 (6)),.d (.int .i64 (y.n)),.d (.lst (y.args.map Bs)),.d (.lst [[.int .i64 kd]])]):=by rw[hH4,get_put,bS,if_neg (by simp),hH3,get_put,is_self];rfl
     have k17b:H4.get (0::17::π)=some (.box [.d (.int .i64 (w.at_)),.d (.int .i64 (w.node)),.d (.lst (w.env.map AN))]):=by
      rw[hH4,get_put,bS,if_neg (by simp),hH3,get_put,AD (by simp),get_put,AD (by simp)];exact k17.out
     replace B1:=AA.mk B1;replace B2:=AA.mk B2;replace hst2:=AA.mk hst2;replace hS3:=AA.mk hS3;replace hr5:=AA.mk hr5;replace k44:=AA.mk k44;replace k17b:=AA.mk k17b;replace hH4:=AA.mk hH4;replace hH2b:=AA.mk hH2b;rw[hsl]at lS lS2;replace hr3:=AA.mk hr3;replace hH3:=AA.mk hH3;replace hs2':=AA.mk hs2';replace hmv:=AA.mk hmv;replace hmv2:=AA.mk hmv2;replace hg:=AA.mk hg;replace hvn:=AA.mk hvn;replace hat:=AA.mk hat;replace hVs:=AA.mk hVs;refine ax ?_;rw[←hH2b.out,←hH3.out,←hH4.out];refine Ab (IU (V:=V3') (st:=⟨s2',st.ev,0⟩) hr5.out.rep (hr5.out.apart hu.out (n:=79) (by omega)) 2 w.at_ v.n 0 [] (by simp) (by dsimp only;omega)) (fun o1 g1 p1=>?_);obtain⟨V4,hr4,_⟩:=hr5.out.call hu.out (n:=79) (by omega) p1;have m17:=(hr5.out.box hu.out (k:=17) (by omega) p1).trans k17b.out;have m44:=(hr5.out.box hu.out (k:=44) (by omega) p1).trans k44.out;obtain rfl:=p1.1;have gm6:=hr4.rep.box;simp only[Aj]at gm6;have hend:=AA.mk fun H2=>NP hF hu.out hr4 (j:=⟨kd,w.at_,w.env⟩) ⟨by rw[hs2'.out];exact hmv2.out,by dsimp only;omega,by dsimp only;omega,by dsimp only;omega,by simp;omega⟩ (by rw[hs2'.out,hs1'.out];exact Lv (hjk.out _ (hmv.out.wait w (List.mem_of_getElem? h1)) ⟨kd,w.at_,w.env⟩ (by simp)) (Cf st.sol.waits i)) H2 89 (by omega);replace hr4:=AA.mk hr4;replace p1:=AA.mk p1;refine ax ?_;refine Ab (hend.out _ fun id hh=>rfl) (fun o2 g2 q2=>?_);obtain⟨q2,q3⟩:=q2;rw[←hE.out]at q2;replace q2:=AA.mk q2;rcases q3 with rfl|rfl;all_goals
      refine ax ?_;exact q2.out
    .have h8:y.op=8:=by omega
     have hE:AA (Il p st.sol st.ev ⟨i,0,0,[]⟩=Fg p 401 ⟨kd,w.at_,w.env⟩ ⟨s1',st.ev++[⟨4,w.at_,v.n,0,[]⟩],0⟩):=⟨by rw[hs1'.out];exact dz h1 hnd h8 hkd hvn⟩;replace hg:=AA.mk hg;replace hvn:=AA.mk hvn;obtain⟨H3,hH3⟩: ∃H3,H3=(H2.put (0::44::π) (.box [.d (.int .i64 (0)),.d (.int .i64 (0)),.nils,.nils])).put (0::44::π) (.box [.d (.int .i64 (8)),.d (.int .i64 (y.n)),.d (.lst (y.args.map Bs)),.d (.lst [[.int .i64 kd]])]):=⟨_,rfl⟩;have hr3:B9 p sz π m V h 54 V2 ⟨s1',st.ev,0⟩ H3:=(hr2.out.loc hu.out (H:=H3) fun id hh=>by rw[hH3,get_put,hh 0 44 (by omega),get_put,hh 0 44 (by omega)];rfl).up (by omega);have k44:H3.get (0::44::π)=some (.box [.d (.int .i64 (8)),.d (.int .i64 (y.n)),.d (.lst (y.args.map Bs)),.d (.lst [[.int .i64 kd]])]):=by rw[hH3,get_put,is_self];rfl
     have k17b:H3.get (0::17::π)=some (.box [.d (.int .i64 (w.at_)),.d (.int .i64 (w.node)),.d (.lst (w.env.map AN))]):=by
      rw[hH3,get_put,AD (by simp),get_put,AD (by simp)];exact k17.out
     replace hr3:=AA.mk hr3;replace k44:=AA.mk k44;replace k17b:=AA.mk k17b;replace hH3:=AA.mk hH3;refine ax ?_;rw[←hH2.out,←hH3.out];refine Ab (IU (V:=V2) (st:=⟨s1',st.ev,0⟩) hr3.out.rep (hr3.out.apart hu.out (n:=64) (by omega)) 4 w.at_ v.n 0 [] (by simp) (by dsimp only;omega)) (fun o1 g1 p1=>?_);obtain⟨V3,hr4,_⟩:=hr3.out.call hu.out (n:=64) (by omega) p1;have m17:=(hr3.out.box hu.out (k:=17) (by omega) p1).trans k17b.out;have m44:=(hr3.out.box hu.out (k:=44) (by omega) p1).trans k44.out;obtain rfl:=p1.1;have gm6:=hr4.rep.box;simp only[Aj]at gm6;have hend:=AA.mk fun H2=>NP hF hu.out hr4 (j:=⟨kd,w.at_,w.env⟩) ⟨hsw.out,by dsimp only;omega,by dsimp only;omega,by dsimp only;omega,by simp;omega⟩ (by rw[hs1'.out];exact Lv (hjk.out _ hwo.out ⟨kd,w.at_,w.env⟩ (by simp)) _) H2 74 (by omega);replace hr4:=AA.mk hr4;replace p1:=AA.mk p1;refine ax ?_;refine Ab (hend.out _ fun id hh=>rfl) (fun o2 g2 q2=>?_);obtain⟨q2,q3⟩:=q2;rw[←hE.out]at q2;replace q2:=AA.mk q2;rcases q3 with rfl|rfl;all_goals
      refine ax ?_;exact q2.out
end Go.Proofs
namespace Go.Proofs
open Go Go.Abs
set_option maxRecDepth 100000
set_option maxHeartbeats 4000000
def oG(sz:Nat)(π:List Nat)(h:AB)(v:AV)(L:List (List AW))(o:AZ)(h':AB):Prop:= ∃v',o=.ret v'∧Kc h' sz v' L∧(∀id∈AE v',id∈AE v∨(Id.under π id=true∧ ∃l,id=1::l))∧ ∀id,id∉AE v→Id.under π id=false→h'.get id=h.get id
structure FO(sz:Nat)(π:List Nat)(h:AB)(v:AV)(b:Nat)(g:AB)(w:AV)(L:List (List AW)):Prop where
 slv:Kc g sz w L
 ids: ∀id∈AE w,id∈AE v∨ ∃n,n<b∧Id.under (n::π) id=true∧ ∃l,id=1::l
 frame: ∀id,id∉AE v→Id.under π id=false→g.get id=h.get id
section
variable{sz:Nat}{π:List Nat}{h g H g1:AB}{v w:AV}{b k:Nat}{L L':List (List AW)}{o:AZ}
theorem FO.not(hu: ∀id∈AE v,Id.under π id=false)(hI:FO sz π h v b g w L){id:Abs.Id}(hid:id∈AE w)(a n:Nat)(hn:b≤n):Id.is (a::n::π) id=false:=by
 rcases hI.ids id hid with h|⟨m,h1,h2,_⟩
 .exact AG (hu id h) a n
 .refine AD fun e=>?_;subst e;have:=CB h2 (n':=n) (under_iff.2 ⟨[a],rfl⟩);omega
theorem FO.apart(hu: ∀id∈AE v,Id.under π id=false)(hI:FO sz π h v b g w L){id:Abs.Id}(hid:id∈AE w)(hk:b≤k):Id.under (k::π) id=false:=by
 rcases hI.ids id hid with h|⟨m,h1,h2,_⟩
 .exact AF (hu id h) k
 .cases hx:Id.under (k::π) id with
  |false=>rfl
  |true=>
   have:=CB h2 hx;omega
theorem FO.loc(hu: ∀id∈AE v,Id.under π id=false)(hI:FO sz π h v b g w L)(hl: ∀id,(∀a n,b≤n→Id.is (a::n::π) id=false)→H.get id=g.get id):FO sz π h v b H w L:=
 ⟨Dt hI.slv fun id hid=>hl id fun a n hn=>hI.not hu hid a n hn,hI.ids,fun id h1 h2=>by rw[hl id fun a n _=>AG h2 a n];exact hI.frame id h1 h2⟩
theorem FO.up(hI:FO sz π h v b g w L){b':Nat}(hb:b≤b'):FO sz π h v b' g w L:=⟨hI.slv,fun id hid=>(hI.ids id hid).imp_right fun⟨n,h1,h2⟩=>⟨n,by omega,h2⟩,hI.frame⟩
theorem FO.call(hu: ∀id∈AE v,Id.under π id=false)(hI:FO sz π h v b H w L)(hk:b≤k)(ho:oG sz (k::π) H w L' o g1): ∃w',o=.ret w'∧FO sz π h v (k+1) (gc (k::π) g1) w' L':=by
 obtain⟨w',h1,h2,h3,h4⟩:=ho;have hw: ∀id∈AE w',(gc (k::π) g1).get id=g1.get id:=fun id hid=>by
  rcases h3 id hid with e|⟨_,l,rfl⟩
  .exact AU _ _ _ (hI.apart hu e hk)
  .exact GF _ _ _
 refine⟨w',h1,Dt h2 hw,fun id hid=>?_,fun id a1 a2=>?_⟩
 .rcases h3 id hid with e|e
  .exact(hI.ids id e).imp_right fun⟨n,q1,q2⟩=>⟨n,by omega,q2⟩
  .exact .inr ⟨k,by omega,e⟩
 .rw[AU _ _ _ (AF a2 k),h4 id (fun hw=>?_) (AF a2 k)]
  .exact hI.frame id a1 a2
  .rcases hI.ids id hw with hh|⟨n,_,q2,_⟩
   .exact a1 hh
   .rw[BH q2]at a2;cases a2
theorem FO.fin(hI:FO sz π h v b g w L):oG sz π h v L (.ret w) g:=⟨w,rfl,hI.slv,fun id hid=>(hI.ids id hid).imp_right fun⟨n,_,q2,q3⟩=>⟨BH q2,q3⟩,hI.frame⟩
end
end Go.Proofs
namespace Go.Proofs
open Go Go.Abs
set_option maxRecDepth 100000
set_option maxHeartbeats 4000000
structure zw(p:AJ)(s:A8)(A B:Abs.Id)(v:AV)(g:AB)(b:Nat)(L:List CJ):Prop where
 pa:g.get A=some (.box [.d (.lst (p.free.map Bt)),.d (.lst (p.nodes.map BQ)),.d (.lst (p.defs.map B6)),.d (.int .i64 (p.main))])
 sb:g.get B=some (.box [.d (.lst (s.spots.map Af)),.d (.lst (s.groups.map A3)),.d (.lst (s.chans.map CK)),.d (.lst (s.waits.map AR))])
 slv:Kc g 4 v (L.map KC)
 na:H9 [] b A
 nb:H9 [] b B
 nv: ∀id∈AE v,H9 [] b id
theorem Nw{π:List Nat}{b:Nat}{A:Abs.Id}(h:H9 π b A)(t j:Nat)(hj:b≤j):Id.is (t::j::π) A=false:=by
 obtain⟨t',j',h1,rfl⟩:=h;exact AD (by simp;omega)
theorem Mu{π:List Nat}{b:Nat}{A:Abs.Id}(h:H9 π b A)(t j:Nat)(hj:b≤j):Id.is A (t::j::π)=false:=by
 obtain⟨t',j',h1,rfl⟩:=h;exact AD (by simp;omega)
end Go.Proofs
namespace Go.Proofs
open Go Go.Abs
set_option maxRecDepth 100000
set_option maxHeartbeats 4000000
theorem UI{a b:List Int}(hl:a.length=b.length){i:Nat}{x y:Int}(hx:a[i]? =some x)(hy:b[i]? =some y)(h: ¬x=y):decide (a=b)=false:=by
 refine decide_eq_false fun e=>?_;subst e;rw[hx]at hy;exact h (Option.some.inj hy)
theorem WA(a b:List Int)(ha:a.length≤1000000):BM (KL Tryz.prog cfg) 29 [.d (.lst (a.map AO)),.d (.lst (b.map AO))] []=.ok (.ret (.d (.bool (decide (a=b)))),[]):=by
 by_cases hl:(a.length:Int)=b.length
 ·(refine Ay rfl Tryz.func29 rfl rfl rfl ?_;show Wp _ _ _ _ (Tryz.f29.body.get rfl) _ _;simp only[Tryz.f29,Option.get_some])
  refine aw ?_;refine C8 a (S:=fun i (_:Unit)=>⟨[(0,.d (.lst (a.map AO))),(1,.d (.lst (b.map AO))),(5,.d (.int .i64 (i)))],[],0,[]⟩)
   (Inv:=fun i rest _=>AA (a.take i=b.take i)) (b0:=()) ⟨by simp⟩ ?_ ?_
  .rintro i y _ hy hi him hI IH;have hil:i<b.length:=by omega
   have hib:(i:Int)<b.length:=by omega
   have w1:IntKind.i64.wrap ((i:Int)+1)=(i:Int)+1:=wrap_id (by omega) (by omega);obtain⟨z,hz⟩:=get_some hil;have hs:=AA.mk (UI (by omega) hy hz);by_cases hyz:y=z
   .subst hyz;have ht:AA (a.take (i+1)=b.take (i+1)):=⟨by rw[List.take_add_one,List.take_add_one,hI.out,hy,hz]⟩;refine aw ?_;exact IH.out () ht
   .rw[hs.out hyz];exact au
  .rintro i _ hi him hI;have:decide (a=b)=true:=decide_eq_true (by
    have h:=hI.out
    rwa [hi.out,List.take_length,show a.length=b.length by omega,List.take_length]at h)
   rw[this];have hib: ¬(i:Int)<b.length:=by omega
   exact au
 .rw[decide_eq_false fun e=>hl (by rw[e])]
  (refine Ay rfl Tryz.func29 rfl rfl rfl ?_;show Wp _ _ _ _ (Tryz.f29.body.get rfl) _ _;simp only[Tryz.f29,Option.get_some])
  exact au
theorem WB(x y:CJ)(hx:x.picks.length≤1000000):BM (KL Tryz.prog cfg) 19 [O7 x,O7 y] []=.ok (.ret (.d (.bool (decide (x=y)))),[]):=by
 have h1:=WA x.picks y.picks hx;have he:AA (decide (x=y)=(decide (x.wait=y.wait)&&(decide (x.group=y.group)&&(decide (x.rule=y.rule)&&decide (x.picks=y.picks))))):=⟨by
  have:(x=y)↔(x.wait=y.wait∧x.group=y.group∧x.rule=y.rule∧x.picks=y.picks):=by cases x;cases y;simp
  rw[Bool.eq_iff_iff];simp only[Bool.and_eq_true,decide_eq_true_eq];exact this⟩
 rw[he.out]
 (refine Ay rfl Tryz.func19 rfl rfl rfl ?_;show Wp _ _ _ _ (Tryz.f19.body.get rfl) _ _;simp only[Tryz.f19,Option.get_some])
 exact au;all_goals simp[*]
end Go.Proofs
namespace Go.Proofs
open Go Go.Abs
set_option maxRecDepth 100000
set_option maxHeartbeats 4000000
theorem qA(a b:List Int)(hb:b.length≤1000000):BM (KL Tryz.prog cfg) 99 [.d (.lst (a.map AO)),.d (.lst (b.map AO))] []=.ok (.ret (.d (.bool (decide (a=b)))),[]):=by
 by_cases hl:(a.length:Int)=b.length
 .have hln: ¬ ¬(a.length:Int)=b.length:=fun h=>h hl
  (refine Ay rfl Tryz.func99 rfl rfl rfl ?_;show Wp _ _ _ _ (Tryz.f99.body.get rfl) _ _;simp only[Tryz.f99,Option.get_some])
  refine aw ?_;refine AX a _ (S:=fun m' i (_:Unit)=>⟨[(0,.d (.lst (a.map AO))),(1,.d (.lst (b.map AO))),(12,.d (.int .i64 (m'))),(13,.d (.int .i64 (i)))],[],0,[]⟩)
   (Inv:=fun i rest _=>AA (a.take i=b.take i)) (b0:=()) (by omega) ⟨by simp⟩ ?_ ?_
  .rintro i y _ hy hi him hI IH;have hil:i<b.length:=by omega
   have hia:i<a.length:=by omega
   have hib:(i:Int)<b.length:=by omega
   have w1:IntKind.i64.wrap ((i:Int)+1)=(i:Int)+1:=wrap_id (by omega) (by omega);obtain⟨z,hz⟩:=get_some hil;have hs:=AA.mk (UI (by omega) hy hz);by_cases hyz:y=z
   .subst hyz;have ht:AA (a.take (i+1)=b.take (i+1)):=⟨by rw[List.take_add_one,List.take_add_one,hI.out,hy,hz]⟩;refine aw ?_;exact IH.out () ht
   .rw[hs.out hyz];exact au
  .rintro i _ hi him hI;have:decide (a=b)=true:=decide_eq_true (by
    have h:=hI.out
    rwa [hi.out,List.take_length,show a.length=b.length by omega,List.take_length]at h)
   rw[this];have hib: ¬(i:Int)<b.length:=by have:=hi.out;omega
   exact au
 .rw[decide_eq_false fun e=>hl (by rw[e])]
  (refine Ay rfl Tryz.func99 rfl rfl rfl ?_;show Wp _ _ _ _ (Tryz.f99.body.get rfl) _ _;simp only[Tryz.f99,Option.get_some])
  exact au
theorem Vm(x y:CJ)(hx:y.picks.length≤1000000):BM (KL Tryz.prog cfg) 54 [O7 x,O7 y] []=.ok (.ret (.d (.bool (decide (x=y)))),[]):=by
 have h1:=qA x.picks y.picks hx;have he:AA (decide (x=y)=(decide (x.wait=y.wait)&&(decide (x.group=y.group)&&(decide (x.rule=y.rule)&&decide (x.picks=y.picks))))):=⟨by
  have:(x=y)↔(x.wait=y.wait∧x.group=y.group∧x.rule=y.rule∧x.picks=y.picks):=by cases x;cases y;simp
  rw[Bool.eq_iff_iff];simp only[Bool.and_eq_true,decide_eq_true_eq];exact this⟩
 rw[he.out]
 (refine Ay rfl Tryz.func54 rfl rfl rfl ?_;show Wp _ _ _ _ (Tryz.f54.body.get rfl) _ _;simp only[Tryz.f54,Option.get_some])
 exact au;all_goals simp[*]
end Go.Proofs
namespace Go.Abs
theorem R3{α:Type}{f:α→List AW}{l:List α}{g:G}{sz:Nat}{k:IntKind}{m:Int}(hf: ∀a,(f a).length=sz)(h0:0≤m)(hm:m≤l.length):EN g .slice sz (.d (.lst (l.map f))) (some (.d (.int k m))) none none=some (.d (.lst ((l.drop m.toNat).map f))):=by
 have hb:DZ (some (.d (.int k m))) none none (l.map f).length=some (m.toNat,(l.map f).length,none):=by
  simp[DZ,Ga,HT,h0,hm]
 have he:Lg sz (l.map f)=true:=by
  cases l with
  |nil=>rfl
  |cons a l=>simp only[List.map_cons,Lg,Gn,decide_eq_true_eq];exact hf a
 show O2 sz (l.map f) (DZ (some (.d (.int k m))) none none (l.map f).length)=_;rw[hb];have hr:Nat.ble m.toNat (l.map f).length=true:=by rw[Fs];simp;omega
 have h2:Nat.ble (l.map f).length (l.map f).length=true:=by rw[Fs];simp
 simp only[O2,hr,h2,he,Bool.and_self,if_true,List.map_drop];rw[List.take_of_length_le (by simp)]
end Go.Abs
namespace Go.Proofs
open Go Go.Abs
set_option maxRecDepth 100000
set_option maxHeartbeats 4000000
theorem dk{l:List BC}{g:G}{k:IntKind}{m:Int}(h0:0≤m)(hm:m≤l.length):EN g .slice 2 (.d (.lst (l.map Af))) (some (.d (.int k m))) none none=some (.d (.lst ((l.drop m.toNat).map Af))):=R3 (fun _=>rfl) h0 hm
theorem nJ{l:List Cc}{g:G}{k:IntKind}{m:Int}(h0:0≤m)(hm:m≤l.length):EN g .slice 2 (.d (.lst (l.map AN))) (some (.d (.int k m))) none none=some (.d (.lst ((l.drop m.toNat).map AN))):=R3 (fun _=>rfl) h0 hm
theorem Qz{h:AB}{π:List Nat}{m gid:Abs.Id}{p:AJ}{s:A8}{st:Bu}{x9 x10 x11 x12:AV}(hlk:looks p=some st)
 (hm:h.get m=some (.box [.d (.lst (s.spots.map Af)),.d (.lst (s.groups.map A3)),.d (.lst (s.chans.map CK)),.d (.lst (s.waits.map AR)),.d (.lst (p.free.map Bt)),.d (.lst (p.nodes.map BQ)),.d (.lst (p.defs.map B6)),.d (.int .i64 (p.main)),.d (.lst (st.sizes.map AO)),x9,x10,x11,x12])) (um:Id.under π m=false) (h9:x9=slv gid p.defs.length) (hg:p.defs.length≠0→h.get gid=some (.darr 1 ((Bx p st.sizes).map AO))) (ug:Id.under π gid=false):
 ∃o h',KL Tryz.prog cfg (.fn 91) [.ptr m 0] h π true (some π)=.ok (o,h')∧o=(HO (B3 2) (Du p st.sizes s)).1:=by
 have e1:=AG um;have e2:=Ar um;have e3:=AF um;have e4:=AG ug;have e5:=Ar ug;have e6:=AF ug;have hF:=AA.mk (Ek hlk);have hsm:=hF.out.small;simp only[AJ.small,Bool.and_eq_true,decide_eq_true_eq]at hsm;obtain⟨c1,c2,c3⟩:=hsm;have hgl:(Bx p st.sizes).length=p.defs.length:=by rw[Bx,Nd];simp
 by_cases hss:s.small=true
 .have hok:AA (Du p st.sizes s=(Ir s.spots&&(IL s.spots (s.spots.drop 1)&&(E0 p (Bx p st.sizes) s 0 0 1 s.groups&&s.waits.all (CP p st.sizes s))))):=⟨by rw[Du,hss,Bool.true_and]⟩;simp only[A8.small,Bool.and_eq_true,decide_eq_true_eq]at hss;obtain⟨s1,s2,s3,s4⟩:=hss;have y1:(s.spots.length:Int)≤24:=by omega
  have y2:(s.groups.length:Int)≤40:=by omega
  have y3:(s.chans.length:Int)≤60:=by omega
  have y4:(s.waits.length:Int)≤40:=by omega
  have htr:=zB s.spots (by omega);cases htb:Ir s.spots with
  |false=>
   rw[htb]at hok htr;rw[hok.out]
   (refine Ak rfl Tryz.func91 rfl rfl rfl ?_;show Wp _ _ _ _ (Tryz.f91.body.get rfl) _ _;simp only[Tryz.f91,Option.get_some])
   refine aw ?_;rfl
  |true=>
   rw[htb,Bool.true_and]at hok;rw[htb]at htr;have hT:=ZR htb;have htop:=hT.top;have hn0:(1:Int)≤s.spots.length:=by have:=hT.pos;omega
   replace hT:=AA.mk hT
   (refine Ak rfl Tryz.func91 rfl rfl rfl ?_;show Wp _ _ _ _ (Tryz.f91.body.get rfl) _ _;simp only[Tryz.f91,Option.get_some])
   (repeat' (first|simp only[go_sem, *]|(refine sx ?_ ?_<;>intro hc)|refine sy (by omega) fun x hx hm=>?_|simp(disch:=first|assumption|omega) only[wrap_id,AK,AH,slice_int,dk]))
   refine AX (s.spots.drop 1) _ (S:=fun m' i (a:AB×Nat)=>⟨[(0,.ptr m 0),(65,.d (.lst ((s.spots.drop 1).map Af))),(66,.d (.int .i64 (m'))),(67,.d (.int .i64 (i)))],a.1,a.2+49,[]⟩)
    (Inv:=fun i rest a=>a.1.get m=h.get m∧a.1.get gid=h.get gid∧AA (IL s.spots (s.spots.drop 1)=IL s.spots rest)) (b0:=(h,_)) rfl ⟨rfl,rfl,⟨rfl⟩⟩ ?_ ?_
   .rintro i y ⟨g,c⟩ hy hi him ⟨hgm,hgg,hr⟩ IH;dsimp only at*;have hy0:=hy;rw[List.getElem?_drop]at hy;have hi0:=hi;rw[List.length_drop]at hi;have hbad:AA (IL s.spots (s.spots.drop 1)=false→AZ.pan (B3 2)=(HO (B3 2) (Du p st.sizes s)).1):=⟨fun h=>by rw[hok.out,h];rfl⟩;have hpar:Ei s.spots y.in_:=by
     have h1:=hT.out.climbs (((1+i:Nat):Int)) ⟨by omega,by omega⟩;obtain⟨k,hk⟩: ∃k,s.spots.length=k+1:=⟨s.spots.length-1,by omega⟩;rw[hk]at h1;have h2:=(Gb (by omega) h1).1
     rwa [P4 (s:=y) (by rw[←hy];congr 1)]at h2
    obtain⟨p1,p2⟩:=hpar;obtain⟨z,hz⟩:=get_some (l:=s.spots) (i:=y.in_.toNat) (by omega);have hda:AA (AY s.spots y.in_=z.dead):=⟨by simp[AY,hz]⟩;rw[IL]at hr;replace hy:=AA.mk hy;cases hyd:y.dead<;>cases hzd:z.dead;all_goals (refine aw ?_)
    all_goals first
    |(refine IH.out (_,_) ⟨?_,?_,⟨?_⟩⟩
      .simp only[go_sem,e1,hgm,Bool.false_eq_true]
      .simp only[go_sem,e4,hgg,Bool.false_eq_true]
      .rw[hr.out,hyd,hda.out,hzd];simp)
    |(refine IH.out (_,_) ⟨?_,?_,⟨?_⟩⟩
      .simp only[go_sem,e1,hgm,Bool.false_eq_true]
      .simp only[go_sem,e4,hgg,Bool.false_eq_true]
      .rw[hr.out,hyd];simp)
    |exact hbad.out (by rw[hr.out,hyd,hda.out,hzd];rfl)
   .rintro i ⟨g,c⟩ hi him ⟨hgm,hgg,hr⟩;dsimp only at*;rw[IL]at hr;refine aw ?_;clear hi him;have hok2:AA (Du p st.sizes s=(E0 p (Bx p st.sizes) s 0 0 1 s.groups&&s.waits.all (CP p st.sizes s))):=⟨by rw[hok.out,hr.out,Bool.true_and]⟩;clear hok hr i;refine AX s.groups _ (S:=fun m' i (a:AB×Nat×Nat×Nat)=>⟨[(0,.ptr m 0),(4,.d (.int .i64 (a.2.2.1))),(5,.d (.int .i64 (a.2.2.2))),(92,.d (.lst (s.groups.map A3))),(93,.d (.int .i64 (m'))),(94,.d (.int .i64 (i)))],a.1,a.2.1+59,[]⟩)
     (Inv:=fun i rest a=>a.1.get m=h.get m∧a.1.get gid=h.get gid∧a.2.2.1≤30*i∧a.2.2.2≤30*i+1∧AA (Du p st.sizes s=(E0 p (Bx p st.sizes) s i a.2.2.1 a.2.2.2 rest&&s.waits.all (CP p st.sizes s)))) (b0:=(g,_,0,1)) rfl ⟨hgm,hgg,by simp,by simp,hok2⟩ ?_ ?_
    .clear hgm hgg hok2 g c;rintro i gr ⟨g,n,c,k⟩ hy hi him ⟨hgm,hgg,b1,b2,hr⟩ IH;dsimp only at*;by_cases x0:gr.def_<0
     .have x0: ¬0≤gr.def_:=by omega
      have hf:AA (Du p st.sizes s=false):=⟨by rw[hr.out,E0,AJ.def?,if_neg (by omega),Bool.false_and]⟩;refine aw ?_;all_goals (rw[hf.out];rfl)
     by_cases x1:(p.defs.length:Int)≤gr.def_
     .have x1: ¬gr.def_<p.defs.length:=by omega
      have x0:0≤gr.def_:=by omega
      have hf:AA (Du p st.sizes s=false):=⟨by rw[hr.out,E0,AJ.def?,if_pos (by omega),List.getElem?_eq_none (by omega),Bool.false_and]⟩;refine aw ?_;all_goals (rw[hf.out];rfl)
     have x2:0≤gr.def_:=by omega
     have x3:gr.def_<p.defs.length:=by omega
     have hdl:gr.def_.toNat<p.defs.length:=by omega
     have hD:p.defs.length≠0:=by omega
     obtain⟨d,hd⟩:=get_some hdl;have hdf:=CA hF.out hd;obtain⟨v,hv⟩:=get_some (l:=Bx p st.sizes) (i:=gr.def_.toNat) (by omega);have hv2:d.own≤v∧v≤5060:=by
      obtain⟨_,_,s0,_,_,_,_,q0,q1,q2,_⟩:=hdf.node;rw[hv]at q2;cases q2;have:=Rh hdf.ok;omega
     have hstep:AA (Du p st.sizes s=((KZ p (Bx p st.sizes) s i c k gr d&&E0 p (Bx p st.sizes) s (i+1) (c+d.chans.length) (k+d.spots.length) (s.groups.drop (i+1)))&&s.waits.all (CP p st.sizes s))):=⟨by
      rw[hr.out,E0,AJ.def?,if_pos x2,hd]⟩
     have hgo:AA (KZ p (Bx p st.sizes) s i c k gr d=(decide (Ei s.spots gr.at_)&&(decide ((gr.env.length:Int)=v)&&(gr.env.all (Cc.inB p s.chans.length s.spots.length)&&(Dz d c k gr&&Fw p s d gr i c 0 d.chans))))):=⟨by
      rw[KZ,hv];rfl⟩
     have hbad:AA (KZ p (Bx p st.sizes) s i c k gr d=false→AZ.pan (B3 2)=(HO (B3 2) (Du p st.sizes s)).1):=⟨fun h=>by rw[hstep.out,h];rfl⟩;have hdo:=hdf.ok;have d1:=hdo.chans;have d2:=hdo.spots;have d3:d.own=d.chans.length+d.spots.length:=rfl;replace hdo:=AA.mk hdo;replace hdf:=AA.mk hdf;have hg2:=hg hD;rw[DJ hD]at h9;refine aw ?_;refine C0 (ZJ (sp:=s.spots.map Af) (Eq.trans (b:=h.get m) ?_ hm) (by simp;omega) gr.at_) (fun o1 g1 p1=>?_)
     .simp only[go_sem,e1,hgm,Bool.false_eq_true]
     by_cases hin:Ei s.spots gr.at_
     .have hin2:=hin;replace p1:o1=.ret (.tup []):=by
       rw[p1,decide_eq_true hin.1,List.length_map,decide_eq_true hin.2];rfl
      subst p1;replace hin:=AA.mk hin;have hge:h.get gid=some (.darr 1 ((Bx p st.sizes).map AO)):=hg2;refine aw ?_;refine C0 (U7 (p:=p) (sp:=s.spots.map Af) (ch:=s.chans.map CK) (Eq.trans (b:=h.get m) ?_ hm) (e3 _) (by simp;omega) (by simp;omega) (by omega) gr.env v (by omega)) (fun o2 g2 p2=>?_)
      .simp only[go_sem,e1,hgm,Bool.false_eq_true]
      rw[List.length_map,List.length_map]at p2;by_cases hev:(decide ((gr.env.length:Int)=v)&&gr.env.all (Cc.inB p s.chans.length s.spots.length))=true
      .rw[hev]at p2;replace p2:o2=.ret (.tup []):=p2;subst p2;rw[Bool.and_eq_true,decide_eq_true_eq]at hev;obtain⟨hlen,hall⟩:=hev;have hlt:gr.env.length≤5060:=by omega
       have hown:d.own≤gr.env.length:=by omega
       have hgo2:AA (KZ p (Bx p st.sizes) s i c k gr d=(Dz d c k gr&&Fw p s d gr i c 0 d.chans)):=⟨by
        rw[hgo.out,decide_eq_true hin.out,decide_eq_true hlen,hall,Bool.true_and,Bool.true_and,Bool.true_and]⟩
       clear hgo;replace hlen:=AA.mk hlen;replace hall:=AA.mk hall;obtain⟨E,hE⟩: ∃E,E=gr.env.drop (gr.env.length-d.chans.length-d.spots.length):=⟨_,rfl⟩;have hEl:E.length=d.chans.length+d.spots.length:=by rw[hE,List.length_drop];omega
       have w1:IntKind.i64.wrap ((gr.env.length:Int)-(d.chans.length:Int))=(gr.env.length:Int)-(d.chans.length:Int):=wrap_id (by omega) (by omega);have w2:IntKind.i64.wrap ((gr.env.length:Int)-(d.chans.length:Int)-(d.spots.length:Int))=((gr.env.length-d.chans.length-d.spots.length:Nat):Int):=by rw[wrap_id (by omega) (by omega)];omega
       have w3: ∀g0:G,EN g0 .slice 2 (.d (.lst (gr.env.map AN))) (some (.d (.int .i64 ((gr.env.length-d.chans.length-d.spots.length:Nat):Int)))) none none=some (.d (.lst ((gr.env.drop (gr.env.length-d.chans.length-d.spots.length)).map AN))):=fun g0=>nJ (by omega) (by omega);rw[←hE]at w3;have hm0:AA (Dz d c k gr=decide (E.drop 0=(E2 c k d).drop 0)):=⟨by rw[hE];rfl⟩;replace hE:=AA.mk hE;have q43: ¬n=n+43:=by omega
       have r43: ¬n+43=n:=by omega
       refine ax ?_;clear w1 w2 w3 q43 r43;refine AX d.chans _ (S:=fun m' i2 (a:AB×Nat)=>⟨[(0,.ptr m 0),(4,.d (.int .i64 (c))),(5,.d (.int .i64 (k))),(6,.d (.int .i64 (i))),(7,.ptr (0::(n+63)::π) 0),(8,.ptr (0::(n+106)::π) 0),(9,.d (.lst (E.map AN))),(92,.d (.lst (s.groups.map A3))),(93,.d (.int .i64 (s.groups.length))),(94,.d (.int .i64 (i))),(155,.d (.int .i64 (m'))),(156,.d (.int .i64 (i2)))],a.1,a.2+127,[]⟩)
        (Inv:=fun i2 rest a=>a.1.get m=h.get m∧a.1.get gid=h.get gid∧a.1.get (0::(n+63)::π)=some (.box [.d (.int .i64 (gr.def_)),.d (.int .i64 (gr.at_)),.d (.lst (gr.env.map AN))])∧a.1.get (0::(n+106)::π)=some (.box [.d (.lst (d.chans.map BK)),.d (.lst (d.spots.map BB)),.d (.lst (d.rules.map BJ))])∧n≤a.2∧AA (Dz d c k gr=decide (E.drop i2=(E2 c k d).drop i2))) (b0:=(_,_)) rfl ⟨?_,?_,?_,?_,?_,hm0⟩ ?_ ?_
       .simp only[go_sem,e1,hgm,Bool.false_eq_true]
       .simp only[go_sem,e4,hgg,Bool.false_eq_true]
       .have q43: ¬n=n+43:=by omega
        have r43: ¬n+43=n:=by omega
        simp only[go_sem,q43,r43,Bool.false_eq_true]
       .simp only[go_sem,Bool.false_eq_true]
       .exact Nat.le_refl _
       .clear hm0 hgm hgg g;rintro i2 y ⟨g,n2⟩ hy2 hi2 him2 ⟨hgm,hgg,g63,g106,hn2,hr2⟩ IH2;dsimp only at*;obtain⟨u,hu⟩:=get_some (l:=E) (i:=i2) (by omega);have hE2:(i2:Int)<E.length:=by omega
        have hr3:AA (Dz d c k gr=(decide (u=⟨3,(c:Int)+(i2:Int)⟩)&&decide (E.drop (i2+1)=(E2 c k d).drop (i2+1)))):=⟨by
         rw[hr2.out,IM hu,IM (PW c k d hi2),Bool.eq_iff_iff];simp⟩
        have w4:IntKind.i64.wrap ((c:Int)+(i2:Int))=(c:Int)+(i2:Int):=wrap_id (by omega) (by omega);by_cases hu2:u=⟨3,(c:Int)+(i2:Int)⟩
        .subst hu2;refine ax ?_;refine IH2.out (_,_) ⟨hgm,hgg,g63,g106,?_,⟨?_⟩⟩
         .dsimp only;omega
         .rw[hr3.out,decide_eq_true rfl,Bool.true_and]
        .have hne:(decide (u.kind=3)&&decide (u.n=(c:Int)+(i2:Int)))=false:=by
          rw[←Bool.not_eq_true,Bool.and_eq_true,decide_eq_true_eq,decide_eq_true_eq];rintro⟨h1,h2⟩;exact hu2 (by cases u;simp_all)
         refine ax ?_;exact hbad.out (by rw[hgo2.out,hr3.out,decide_eq_false hu2];rfl)
       .clear hm0 hgm hgg g;rintro i2 ⟨g,n2⟩ hi2 him2 ⟨hgm,hgg,g63,g106,hn2,hr2⟩;dsimp only at*;rw[hi2.out]at hr2;refine ax ?_;clear hi2 him2 i2;refine AX d.spots _ (S:=fun m' j (a:AB×Nat)=>⟨[(0,.ptr m 0),(4,.d (.int .i64 (c))),(5,.d (.int .i64 (k))),(6,.d (.int .i64 (i))),(7,.ptr (0::(n+63)::π) 0),(8,.ptr (0::(n+106)::π) 0),(9,.d (.lst (E.map AN))),(92,.d (.lst (s.groups.map A3))),(93,.d (.int .i64 (s.groups.length))),(94,.d (.int .i64 (i))),(172,.d (.int .i64 (m'))),(173,.d (.int .i64 (j)))],a.1,a.2+132,[]⟩)
         (Inv:=fun j rest a=>a.1.get m=h.get m∧a.1.get gid=h.get gid∧a.1.get (0::(n+63)::π)=some (.box [.d (.int .i64 (gr.def_)),.d (.int .i64 (gr.at_)),.d (.lst (gr.env.map AN))])∧a.1.get (0::(n+106)::π)=some (.box [.d (.lst (d.chans.map BK)),.d (.lst (d.spots.map BB)),.d (.lst (d.rules.map BJ))])∧n≤a.2∧AA (Dz d c k gr=decide (E.drop (d.chans.length+j)=(E2 c k d).drop (d.chans.length+j)))) (b0:=(g,n2)) rfl ⟨hgm,hgg,g63,g106,hn2,hr2⟩ ?_ ?_
        .clear hr2 hgm hgg g63 g106 g hn2 n2;rintro j y ⟨g,n2⟩ hyj hij himj ⟨hgm,hgg,g63,g106,hn2,hr2⟩ IH2;dsimp only at*;obtain⟨u,hu⟩:=get_some (l:=E) (i:=d.chans.length+j) (by omega);have hr3:AA (Dz d c k gr=(decide (u=⟨4,(k:Int)+(j:Int)⟩)&&decide (E.drop (d.chans.length+(j+1))=(E2 c k d).drop (d.chans.length+(j+1))))):=⟨by
          rw[hr2.out,IM hu,IM (PX c k d hij),Bool.eq_iff_iff];simp[Nat.add_assoc]⟩
         have w4:IntKind.i64.wrap ((k:Int)+(j:Int))=(k:Int)+(j:Int):=wrap_id (by omega) (by omega);have w5:IntKind.i64.wrap ((d.chans.length:Int)+(j:Int))=(d.chans.length:Int)+(j:Int):=wrap_id (by omega) (by omega);have ix:((d.chans.length:Int)+(j:Int)).toNat=d.chans.length+j:=by omega
         rw[←ix]at hu;replace ix:=AA.mk ix;have ix2:0≤(d.chans.length:Int)+(j:Int):=by omega
         have ix3:(d.chans.length:Int)+(j:Int)<E.length:=by omega
         by_cases hu2:u=⟨4,(k:Int)+(j:Int)⟩
         .subst hu2;refine ax ?_;refine IH2.out (_,_) ⟨hgm,hgg,g63,g106,?_,⟨?_⟩⟩
          .dsimp only;omega
          .rw[hr3.out,decide_eq_true rfl,Bool.true_and]
         .have hne:(decide (u.kind=4)&&decide (u.n=(k:Int)+(j:Int)))=false:=by
           rw[←Bool.not_eq_true,Bool.and_eq_true,decide_eq_true_eq,decide_eq_true_eq];rintro⟨h1,h2⟩;exact hu2 (by cases u;simp_all)
          refine ax ?_;exact hbad.out (by rw[hgo2.out,hr3.out,decide_eq_false hu2];rfl)
        .clear hr2 hgm hgg g63 g106 g hn2 n2;rintro j ⟨g,n2⟩ hij himj ⟨hgm,hgg,g63,g106,hn2,hr2⟩;dsimp only at*;have hmine:Dz d c k gr=true:=by
          have hjj:=hij.out;rw[hr2.out,List.drop_eq_nil_of_le (by omega),List.drop_eq_nil_of_le (by rw[Mr];omega)];rfl
         have hgo3:AA (KZ p (Bx p st.sizes) s i c k gr d=Fw p s d gr i c 0 d.chans):=⟨by rw[hgo2.out,hmine,Bool.true_and]⟩;replace hmine:=AA.mk hmine;clear hr2 hgo2;refine ax ?_;clear hij himj j;refine AX d.chans _ (S:=fun m' j (a:AB×Nat)=>⟨[(0,.ptr m 0),(4,.d (.int .i64 (c))),(5,.d (.int .i64 (k))),(6,.d (.int .i64 (i))),(7,.ptr (0::(n+63)::π) 0),(8,.ptr (0::(n+106)::π) 0),(92,.d (.lst (s.groups.map A3))),(93,.d (.int .i64 (s.groups.length))),(94,.d (.int .i64 (i))),(192,.d (.lst (d.chans.map BK))),(193,.d (.int .i64 (m'))),(194,.d (.int .i64 (j)))],a.1,a.2+137,[]⟩)
          (Inv:=fun j rest a=>a.1.get m=h.get m∧a.1.get gid=h.get gid∧a.1.get (0::(n+63)::π)=some (.box [.d (.int .i64 (gr.def_)),.d (.int .i64 (gr.at_)),.d (.lst (gr.env.map AN))])∧a.1.get (0::(n+106)::π)=some (.box [.d (.lst (d.chans.map BK)),.d (.lst (d.spots.map BB)),.d (.lst (d.rules.map BJ))])∧n≤a.2∧AA (Fw p s d gr i c 0 d.chans=Fw p s d gr i c j rest)) (b0:=(g,n2)) rfl ⟨hgm,hgg,g63,g106,hn2,⟨rfl⟩⟩ ?_ ?_
         .clear hgm hgg g63 g106 g hn2 n2;rintro j ch ⟨g,n2⟩ hyj hij himj ⟨hgm,hgg,g63,g106,hn2,hrj⟩ IHj;dsimp only at*;have hcj:c+j<s.chans.length:=by
           have:=List.all_eq_true.1 hall.out _ (List.mem_of_getElem? (Tm hmine.out hij));simp[Cc.inB]at this;omega
          obtain⟨q,hq⟩:=get_some hcj;have hca:=hdo.out.chan ch (List.mem_of_getElem? hyj);have hpi:=Rk hmine.out hown hin.out hall.out (n:=ch.at_) hca.1 hca.2.1;obtain⟨hp1,hp2⟩:=hpi;obtain⟨sp,hsp⟩:=get_some (l:=s.spots) (i:=(gr.place d ch.at_).toNat) (by omega);have hda:AA (AY s.spots (gr.place d ch.at_)=sp.dead):=⟨by simp[AY,hsp]⟩;have hck:AA (MJ p s d gr i j (c+j) ch=(decide (q.group=i)&&(decide (q.index=j)&&(decide (q.at_=gr.place d ch.at_)&&(decide (q.queue.length≤12)&&((decide (q.queue.length=0)|| !AY s.spots q.at_)&&q.queue.all (Hb p s.chans.length s.spots.length ch.many))))))):=⟨by rw[MJ,hq];rfl⟩;have hbc:AA (MJ p s d gr i j (c+j) ch=false→AZ.pan (B3 2)=(HO (B3 2) (Du p st.sizes s)).1):=⟨fun h=>hbad.out (by rw[hgo3.out,hrj.out,Fw,h,Bool.false_and])⟩;have w4:IntKind.i64.wrap ((c:Int)+(j:Int))=(c:Int)+(j:Int):=wrap_id (by omega) (by omega);have ix:((c:Int)+(j:Int)).toNat=c+j:=by omega
          rw[←ix]at hq;replace ix:=AA.mk ix;have ix2:0≤(c:Int)+(j:Int):=by omega
          have ix3:(c:Int)+(j:Int)<s.chans.length:=by omega
          have q1: ¬n2+78=n:=by omega
          have q2: ¬n=n2+78:=by omega
          have q3: ¬n2+91=n:=by omega
          have q4: ¬n=n2+91:=by omega
          have q5: ¬n2+35=n:=by omega
          have q6: ¬n=n2+35:=by omega
          have q7: ¬n2+48=n:=by omega
          have q8: ¬n=n2+48:=by omega
          have q9: ¬n2+13=n2:=by omega
          have q0: ¬n2=n2+13:=by omega
          by_cases g1:q.group=i
          .by_cases g2:q.index=j
           .refine ax ?_;refine Cm (L6 (d:=d) (ds:=p.defs) (Eq.trans (b:=h.get m) ?_ hm) (e3 _) x2 hd d1 d2 hown (by omega) ch.at_ hca.1 hca.2.1) (fun o3 g3 p3=>?_)
            .simp only[go_sem,e1,hgm,Bool.false_eq_true]
            subst p3;by_cases g4:q.at_=gr.place d ch.at_
            .rw[g4]
             (repeat' (first|simp only[go_sem, *,Bool.false_eq_true]|(refine sx ?_ ?_<;>intro hc)|refine sy (by omega) fun x hx hm=>?_|simp(disch:=first|assumption|omega) only[wrap_id,AK,AH,slice_int]))
             all_goals try
              refine hbc.out ?_;rw[hck.out,g4,hda.out];clear IH IHj hr hstep hbad hbc hck hgo3 hrj hy hd hv hT hF hm hg htr hlk hgm hgg g63 g106;grind
             all_goals
              have hfin:AA (MJ p s d gr i j (c+j) ch=q.queue.all (Hb p s.chans.length s.spots.length ch.many)):=⟨by
               rw[hck.out,g4,hda.out];clear IH IHj hr hstep hbad hbc hck hgo3 hrj hy hd hv hT hF hm hg htr hlk hgm hgg g63 g106;grind⟩
              refine AX q.queue _ (S:=fun m' l (a:AB×Nat)=>⟨[(0,.ptr m 0),(4,.d (.int .i64 (c))),(5,.d (.int .i64 (k))),(6,.d (.int .i64 (i))),(7,.ptr (0::(n+63)::π) 0),(8,.ptr (0::(n+106)::π) 0),(13,.ptr (0::(n2+141)::π) 0),(92,.d (.lst (s.groups.map A3))),(93,.d (.int .i64 (s.groups.length))),(94,.d (.int .i64 (i))),(192,.d (.lst (d.chans.map BK))),(193,.d (.int .i64 (d.chans.length))),(194,.d (.int .i64 (j))),(255,.d (.lst (q.queue.map BG))),(256,.d (.int .i64 (m'))),(257,.d (.int .i64 (l)))],a.1,a.2+205,[]⟩)
               (Inv:=fun l rest a=>a.1.get m=h.get m∧a.1.get gid=h.get gid∧a.1.get (0::(n+63)::π)=some (.box [.d (.int .i64 (gr.def_)),.d (.int .i64 (gr.at_)),.d (.lst (gr.env.map AN))])∧a.1.get (0::(n+106)::π)=some (.box [.d (.lst (d.chans.map BK)),.d (.lst (d.spots.map BB)),.d (.lst (d.rules.map BJ))])∧a.1.get (0::(n2+141)::π)=some (.box [.d (.int .i64 (ch.at_)),.d (.int .i64 (ch.many))])∧n2≤a.2∧AA (q.queue.all (Hb p s.chans.length s.spots.length ch.many)=rest.all (Hb p s.chans.length s.spots.length ch.many))) (b0:=(_,n2)) ?_ ⟨?_,?_,?_,?_,?_,?_,⟨rfl⟩⟩ ?_ ?_
              .omega
              .simp only[go_sem,e1,hgm,Bool.false_eq_true]
              .simp only[go_sem,e4,hgg,Bool.false_eq_true]
              .simp only[go_sem,g63,q1,q2,q3,q4,Bool.false_eq_true]
              .simp only[go_sem,g106,q5,q6,q7,q8,Bool.false_eq_true]
              .simp only[go_sem,q9,q0,Bool.false_eq_true]
              .exact Nat.le_refl _
              .clear hgm hgg g63 g106 g q1 q2 q3 q4 q5 q6 q7 q8 q9 q0;rintro l y ⟨g,n3⟩ hyl hil himl ⟨hgm,hgg,g63,g106,g141,hn3,hrl⟩ IHl;dsimp only at*;have q1: ¬n3+67=n2:=by omega
               have q2: ¬n2=n3+67:=by omega
               refine ax ?_;refine C0 (U7 (p:=p) (sp:=s.spots.map Af) (ch:=s.chans.map CK) (Eq.trans (b:=h.get m) ?_ hm) (e3 _) (by simp;omega) (by simp;omega) (by omega) y ch.many (by omega)) (fun o4 g4' p4=>?_)
               .simp only[go_sem,e1,hgm,Bool.false_eq_true]
               rw[List.length_map,List.length_map]at p4;have hmk:(decide ((y.length:Int)=ch.many)&&y.all (Cc.inB p s.chans.length s.spots.length))=Hb p s.chans.length s.spots.length ch.many y:=rfl;rw[hmk]at p4;clear hmk;cases hmo:Hb p s.chans.length s.spots.length ch.many y with
               |true=>
                rw[hmo]at p4;replace p4:o4=.ret (.tup []):=p4;subst p4;refine ax ?_;refine IHl.out (_,_) ⟨?_,?_,?_,?_,?_,?_,⟨?_⟩⟩
                .simp only[go_sem,e1,hgm,Bool.false_eq_true]
                .simp only[go_sem,e4,hgg,Bool.false_eq_true]
                .have q3: ¬n3+145=n:=by omega
                 have q4: ¬n=n3+145:=by omega
                 simp only[go_sem,g63,q3,q4,Bool.false_eq_true]
                .have q3: ¬n3+102=n:=by omega
                 have q4: ¬n=n3+102:=by omega
                 simp only[go_sem,g106,q3,q4,Bool.false_eq_true]
                .simp only[go_sem,g141,q1,q2,Bool.false_eq_true]
                .dsimp only;omega
                .rw[hrl.out,List.all_cons,hmo,Bool.true_and]
               |false=>
                rw[hmo]at p4;replace p4:o4=.pan (B3 2):=p4;subst p4;refine ax ?_;exact hbc.out (by rw[hfin.out,hrl.out,List.all_cons,hmo,Bool.false_and])
              .clear hgm hgg g63 g106 g q1 q2 q3 q4 q5 q6 q7 q8 q9 q0;rintro l ⟨g,n3⟩ hil himl ⟨hgm,hgg,g63,g106,g141,hn3,hrl⟩;dsimp only at*;refine ax ?_;refine IHj.out (_,_) ⟨hgm,hgg,g63,g106,?_,⟨?_⟩⟩
               .dsimp only;omega
               .rw[hrj.out,Fw,hfin.out,hrl.out];rfl
            .refine ax ?_;exact hbc.out (by rw[hck.out,decide_eq_false g4];simp)
           .refine ax ?_;exact hbc.out (by rw[hck.out,decide_eq_false g2];simp)
          .refine ax ?_;exact hbc.out (by rw[hck.out,decide_eq_false g1];simp)
         .clear hgm hgg g63 g106 g hn2 n2;rintro j ⟨g,n2⟩ hij himj ⟨hgm,hgg,g63,g106,hn2,hrj⟩;dsimp only at*;have hgok:AA (KZ p (Bx p st.sizes) s i c k gr d=true):=⟨by rw[hgo3.out,hrj.out];rfl⟩;refine ax ?_;refine IH.out (g,_,c+d.chans.length,k+d.spots.length) ⟨hgm,hgg,?_,?_,⟨?_⟩⟩
          .dsimp only;omega
          .dsimp only;omega
          .dsimp only;rw[hstep.out,hgok.out,Bool.true_and]
      .rw[Bool.not_eq_true]at hev;rw[hev]at p2;replace p2:o2=.pan (B3 2):=p2;subst p2;refine aw ?_;refine hbad.out ?_;rw[hgo.out];clear IH hr hstep hbad hgo hy hd hv hT hF hm hg htr hlk hgm hgg;grind
     .replace p1:o1=.pan (B3 2):=by
       rw[p1,List.length_map];have:(decide (0≤gr.at_)&&decide (gr.at_<(s.spots.length:Int)))=false:=by
        rw[←Bool.not_eq_true,Bool.and_eq_true,decide_eq_true_eq,decide_eq_true_eq];exact hin
       rw[this];rfl
      subst p1;refine aw ?_;exact hbad.out (by rw[hgo.out,decide_eq_false hin,Bool.false_and])
    .rintro i ⟨g,n,c,k⟩ hi him ⟨hgm,hgg,b1,b2,hr⟩;dsimp only at*;have hfin:AA (Du p st.sizes s=((decide (c=s.chans.length)&&decide (k=s.spots.length))&&s.waits.all (CP p st.sizes s))):=⟨by rw[hr.out,E0]⟩;by_cases g1:c=s.chans.length
     .by_cases g2:k=s.spots.length
      .have hf2:AA (Du p st.sizes s=s.waits.all (CP p st.sizes s)):=⟨by rw[hfin.out,decide_eq_true g1,decide_eq_true g2];rfl⟩;clear hfin hr;refine aw ?_;clear hi him i b1 b2;refine AX s.waits _ (S:=fun m' i (a:AB×Nat)=>⟨[(0,.ptr m 0),(303,.d (.lst (s.waits.map AR))),(304,.d (.int .i64 (m'))),(305,.d (.int .i64 (i)))],a.1,a.2+86,[]⟩)
        (Inv:=fun i rest a=>a.1.get m=h.get m∧AA (Du p st.sizes s=rest.all (CP p st.sizes s))) (b0:=(g,n)) rfl ⟨hgm,hf2⟩ ?_ ?_
       .clear hgm hgg hf2 g n;rintro i w ⟨g,n⟩ hy hi him ⟨hgm,hr⟩ IH;dsimp only at*;have hwo:AA (CP p st.sizes s w=(decide (Ei s.spots w.at_)&&(!AY s.spots w.at_&&(decide (0≤w.node)&&((match p.nodes[w.node.toNat]? with|some x=>ET x.op|none=>false)&&(decide ((w.env.length:Int)=(st.sizes[w.node.toNat]?).getD 0)&&w.env.all (Cc.inB p s.chans.length s.spots.length))))))):=⟨rfl⟩
        have hbad:AA (CP p st.sizes s w=false→AZ.pan (B3 2)=(HO (B3 2) (Du p st.sizes s)).1):=⟨fun h=>by rw[hr.out,List.all_cons,h];rfl⟩;refine ax ?_;refine C0 (ZJ (sp:=s.spots.map Af) (Eq.trans (b:=h.get m) ?_ hm) (by simp;omega) w.at_) (fun o1 g1 p1=>?_)
        .simp only[go_sem,e1,hgm,Bool.false_eq_true]
        by_cases hin:Ei s.spots w.at_
        .replace p1:o1=.ret (.tup []):=by
          rw[p1,decide_eq_true hin.1,List.length_map,decide_eq_true hin.2];rfl
         subst p1;obtain⟨i1,i2⟩:=hin;obtain⟨sp,hsp⟩:=get_some (l:=s.spots) (i:=w.at_.toNat) (by omega);have hda:AA (AY s.spots w.at_=sp.dead):=⟨by simp[AY,hsp]⟩;by_cases n0:0≤w.node
         .by_cases n1:w.node<p.nodes.length
          .obtain⟨x,hx⟩:=get_some (l:=p.nodes) (i:=w.node.toNat) (by omega);obtain⟨v,_,hv,v0,v1,_⟩:=hF.out.node _ x hx;have hln:=AA.mk hF.out.len;have hlv:=AI hv;have hwo2:AA (CP p st.sizes s w=(!AY s.spots w.at_&&(ET x.op&&(decide ((w.env.length:Int)=v)&&w.env.all (Cc.inB p s.chans.length s.spots.length))))):=⟨by
            rw[hwo.out,hx,hv,decide_eq_true n0,decide_eq_true ⟨i1,i2⟩];rfl⟩
           clear hwo;cases hsd:sp.dead with
           |true=>
            refine ax ?_;all_goals exact hbad.out (by rw[hwo2.out,hda.out,hsd];rfl)
           |false=>
            by_cases ho:ET x.op=true
            .have hwo3:AA (CP p st.sizes s w=(decide ((w.env.length:Int)=v)&&w.env.all (Cc.inB p s.chans.length s.spots.length))):=⟨by
              rw[hwo2.out,hda.out,hsd,ho];rfl⟩
             simp only[ET,Bool.or_eq_true,decide_eq_true_eq]at ho;replace ho:=AA.mk ho
             (repeat' (first|simp only[go_sem, *,Bool.false_eq_true]|(refine sx ?_ ?_<;>intro hc)|refine sy (by omega) fun x hx hm=>?_|simp(disch:=first|assumption|omega) only[wrap_id,AK,AH,slice_int]))
             all_goals try(exfalso;have:=ho.out;omega)
             all_goals
              refine C0 (U7 (p:=p) (sp:=s.spots.map Af) (ch:=s.chans.map CK) (Eq.trans (b:=h.get m) ?_ hm) (e3 _) (by simp;omega) (by simp;omega) (by omega) w.env v (by omega)) (fun o4 g4' p4=>?_)
              .simp only[go_sem,e1,hgm,Bool.false_eq_true]
              rw[List.length_map,List.length_map]at p4;rw[←hwo3.out]at p4;cases hmo:CP p st.sizes s w with
              |true=>
               rw[hmo]at p4;replace p4:o4=.ret (.tup []):=p4;subst p4;refine ax ?_;refine IH.out (_,_) ⟨?_,⟨?_⟩⟩
               .simp only[go_sem,e1,hgm,Bool.false_eq_true]
               .rw[hr.out,List.all_cons,hmo,Bool.true_and]
              |false=>
               rw[hmo]at p4;replace p4:o4=.pan (B3 2):=p4;subst p4;refine ax ?_;exact hbad.out hmo
            .have hof:AA (ET x.op=false):=⟨by simpa using ho⟩;simp only[ET,Bool.or_eq_true,decide_eq_true_eq,not_or]at ho;obtain⟨u1,u2,u3⟩:=ho;refine ax ?_;all_goals exact hbad.out (by rw[hwo2.out,hda.out,hof.out];simp)
          ·(repeat' (first|simp only[go_sem, *,Bool.false_eq_true]|(refine sx ?_ ?_<;>intro hc)|refine sy (by omega) fun x hx hm=>?_|simp(disch:=first|assumption|omega) only[wrap_id,AK,AH,slice_int]))
           all_goals exact hbad.out (by rw[hwo.out,List.getElem?_eq_none (show p.nodes.length≤w.node.toNat by omega)];simp)
         ·(repeat' (first|simp only[go_sem, *,Bool.false_eq_true]|(refine sx ?_ ?_<;>intro hc)|refine sy (by omega) fun x hx hm=>?_|simp(disch:=first|assumption|omega) only[wrap_id,AK,AH,slice_int]))
          all_goals exact hbad.out (by rw[hwo.out,decide_eq_false n0];simp)
        .replace p1:o1=.pan (B3 2):=by
          rw[p1,List.length_map];have:(decide (0≤w.at_)&&decide (w.at_<(s.spots.length:Int)))=false:=by
           rw[←Bool.not_eq_true,Bool.and_eq_true,decide_eq_true_eq,decide_eq_true_eq];exact hin
          rw[this];rfl
         subst p1;refine ax ?_;exact hbad.out (by rw[hwo.out,decide_eq_false hin];rfl)
       .rintro i ⟨g,n⟩ hi him ⟨hgm,hr⟩;dsimp only at*;refine aw ?_;rw[hr.out];rfl
      .have g3: ¬(k:Int)=s.spots.length:=by omega
       refine aw ?_;rw[hfin.out,decide_eq_false g2];simp[HO]
     .have g3: ¬(c:Int)=s.chans.length:=by omega
      refine aw ?_;rw[hfin.out,decide_eq_false g1];rfl
 .have hk0:Du p st.sizes s=false:=by rw[Du];simp[hss]
  rw[hk0];have hss:AA (¬(s.spots.length≤24∧s.groups.length≤40∧s.chans.length≤60∧s.waits.length≤40)):=⟨by simpa[A8.small]using hss⟩
  (refine Ak rfl Tryz.func91 rfl rfl rfl ?_;show Wp _ _ _ _ (Tryz.f91.body.get rfl) _ _;simp only[Tryz.f91,Option.get_some])
  (repeat' (first|simp only[go_sem, *]|(refine sx ?_ ?_<;>intro hc)|refine sy (by omega) fun x hx hm=>?_|simp(disch:=first|assumption|omega) only[wrap_id,AK,AH,slice_int]))
  all_goals first
  |rfl
  |(have:=hss.out;exfalso;omega)
end Go.Proofs
namespace Go.Abs
def sV(id:Id)(x:AW)(v:AV)(es:List (AW×AV)):Option (Option AV)→Option Bz
 |some _=>some ⟨.undef,[(id,.map (Dq es x v))]⟩
 |none=>none
def fI(id:Id)(x:AW)(v:AV):Option Obj→Option Bz
 |some (.map es)=>sV id x v es (Ch es x)
 |_=>none
def sW(x:AW)(v:AV)(id:Id)(o:Option Obj):Option TI→Option Bz
 |some j=>if (JH j.kind x&&v.isCell)=true then fI id x v o else none
 |none=>none
theorem kj(T:TypeId→Option TI)(g:G)(i:TI)(id:Id)(x:AW)(v:AV)(hk:i.kind=.map):mapPut T g (some i) (.mp id) (.d x) v=sW x v id (g id) (T i.key):=by
 unfold mapPut;simp only[Kr,hk];cases T i.key with
 |none=>rfl
 |some j=>
  simp only[sW];cases JH j.kind x&&v.isCell with
  |false=>rfl
  |true=>
   simp only[if_true];cases g id with
   |none=>rfl
   |some o=>
    cases o with
    |map es=>
     simp only[fI];cases Ch es x<;>rfl
    |_=>rfl
theorem br(x:AW)(v:AV)(id:Id)(o:Option Obj)(j:TI):sW x v id o (some j)=if (JH j.kind x&&v.isCell)=true then fI id x v o else none:=rfl
theorem lR(id:Id)(x:AW)(v:AV)(es:List (AW×AV)):fI id x v (some (.map es))=sV id x v es (Ch es x):=rfl
theorem bq(id:Id)(x:AW)(v:AV)(es:List (AW×AV))(o:Option AV):sV id x v es (some o)=some ⟨.undef,[(id,.map (Dq es x v))]⟩:=rfl
theorem bc(x:AW)(v:AV):Dq [] x v=[(x,v)]:=rfl
theorem bb(k:IntKind)(a b:Int)(v w:AV)(es:List (AW×AV)):Dq ((.int k a,w)::es) (.int k b) v=if a=b then(.int k a,v)::es else(.int k a,w)::Dq es (.int k b) v:=by
 rw[Dq];by_cases h:a=b
 .have hb:(a==b)=decide (a=b):=by rw[Bool.eq_iff_iff];simp
  simp[GU,h,hb]
 .have hb:(a==b)=decide (a=b):=by rw[Bool.eq_iff_iff];simp
  simp[GU,h,hb]
attribute [go_sem] kj br lR bq bc bb
end Go.Abs
namespace Go.Proofs
open Go Go.Abs
set_option maxRecDepth 100000
set_option maxHeartbeats 4000000
def LK(π:List Nat)(p:AJ)(st:Bu):AB:=if p.defs.length=0 then
    [(0::0::π,.box [.nils,.nils,.nils,.nils,.d (.lst (p.free.map Bt)),.d (.lst (p.nodes.map BQ)),.d (.lst (p.defs.map B6)),.d (.int .i64 (p.main)),.d (.lst (st.sizes.map AO)),.emp,.mp (1::3::π),.nils,.d (.int .i64 (0))]),(1::3::π,.map Iz)]
 else [(0::0::π,.box [.nils,.nils,.nils,.nils,.d (.lst (p.free.map Bt)),.d (.lst (p.nodes.map BQ)),.d (.lst (p.defs.map B6)),.d (.int .i64 (p.main)),.d (.lst (st.sizes.map AO)),.osl (1::1::π) 0 p.defs.length,.mp (1::4::π),.nils,.d (.int .i64 (0))]),(1::1::π,.darr 1 ((Bx p st.sizes).map AO)),(1::4::π,.map Iz)]
structure oV(π:List Nat)(p:AJ)(r:AZ×AB):Prop where
 pan:looks p=none→r=(.pan (B3 2),[])
 ret: ∀st,looks p=some st→r=(.ret (.ptr (0::0::π) 0),LK π p st)
theorem Yq(p:AJ)(hp: ∀s∈p.free,s.size≤maxLen)(k:Nat)(ρ:List Nat): ∃r,BM (KL Tryz.prog cfg) 65 [.agg [.d (.lst (p.free.map Bt)),.d (.lst (p.nodes.map BQ)),.d (.lst (p.defs.map B6)),.d (.int .i64 (p.main))]] (k::ρ)=.ok r∧oV (k::ρ) p r:=by
 have hsz:=oZ p hp;replace hp:=AA.mk hp;cases hlk:looks p with
 |none=>
  rw[hlk]at hsz;simp only[Jb]at hsz
  (refine Gm rfl Tryz.func65 rfl rfl rfl ?_;show Wp _ _ _ _ (Tryz.f65.body.get rfl) _ _;simp only[Tryz.f65,Option.get_some])
  refine aw ?_;exact⟨fun _=>rfl,fun st h=>by rw[hlk]at h;cases h⟩
 |some st=>
  rw[hlk]at hsz;simp only[Jb]at hsz;have hF:=AA.mk (Ek hlk);have hsm:=hF.out.small;simp only[AJ.small,Bool.and_eq_true,decide_eq_true_eq]at hsm;obtain⟨c1,c2,c3⟩:=hsm
  (refine Gm rfl Tryz.func65 rfl rfl rfl ?_;show Wp _ _ _ _ (Tryz.f65.body.get rfl) _ _;simp only[Tryz.f65,Option.get_some])
  by_cases hD0:p.defs.length=0
  ·(repeat' (first|simp only[go_sem, *]|(refine sx ?_ ?_<;>intro hc)|refine sy (by omega) fun x hx hm=>?_|simp(disch:=first|assumption|omega) only[wrap_id,AK,AH,slice_int,Jr]))
   refine AX p.nodes _ (S:=fun m i (_:Unit)=>⟨[(3,.d (.lst (st.sizes.map AO))),(5,.ptr (0::0::k::ρ) 0),(25,.d (.lst (p.nodes.map BQ))),(26,.d (.int .i64 (m))),(27,.d (.int .i64 (i)))],[(0::0::k::ρ,.box [.nils,.nils,.nils,.nils,.d (.lst (p.free.map Bt)),.d (.lst (p.nodes.map BQ)),.d (.lst (p.defs.map B6)),.d (.int .i64 (p.main)),.d (.lst (st.sizes.map AO)),.emp,.d .nilm,.nils,.d (.int .i64 (0))])],1,[]⟩)
    (Inv:=fun i rest _=>True) (b0:=()) rfl trivial ?_ ?_
   .rintro i y _ hy hi him _ IH;have ho: ¬y.op=4:=fun ho=>by
     have:=Qi hF.out hy ho;omega
    refine aw ?_;exact IH.out () trivial
   .rintro i _ hi him _;have hD1:=AA.mk hD0;refine aw ?_;exact⟨fun h=>(by rw[hlk]at h;cases h),fun st h=>by rw[hlk]at h;cases h;rw[LK,if_pos hD1.out];rfl⟩
  ·(repeat' (first|simp only[go_sem, *]|(refine sx ?_ ?_<;>intro hc)|refine sy (by omega) fun x hx hm=>?_|simp(disch:=first|assumption|omega) only[wrap_id,AK,AH,slice_int,Jr]))
   refine AX p.nodes _ (S:=fun m i (out:List Int)=>⟨[(3,.d (.lst (st.sizes.map AO))),(5,.ptr (0::0::k::ρ) 0),(25,.d (.lst (p.nodes.map BQ))),(26,.d (.int .i64 (m))),(27,.d (.int .i64 (i)))],[(0::0::k::ρ,.box [.nils,.nils,.nils,.nils,.d (.lst (p.free.map Bt)),.d (.lst (p.nodes.map BQ)),.d (.lst (p.defs.map B6)),.d (.int .i64 (p.main)),.d (.lst (st.sizes.map AO)),.osl (1::1::k::ρ) 0 p.defs.length,.d .nilm,.nils,.d (.int .i64 (0))]),(1::1::k::ρ,.darr 1 (out.map AO))],2,[]⟩)
    (Inv:=fun i rest out=>out.length=p.defs.length∧AA (Bx p st.sizes=GG st.sizes out rest)) (b0:=List.replicate p.defs.length 0) rfl ⟨by simp,⟨rfl⟩⟩ ?_ ?_
   .rintro i y out hy hi him ⟨hol,hr⟩ IH;by_cases ho:y.op=4
    .obtain⟨n1,n2,kk,v,hk,hk0,hkv,hks,_,_⟩:=Qi hF.out hy ho;obtain⟨o,hoo⟩:=get_some (l:=out) (i:=y.n.toNat) (by omega);have hyn:y.n.toNat<p.defs.length:=by omega
     have hks:=AA.mk hks;refine aw ?_;have e:(out.map AO).set y.n.toNat [.int .i64 v]=(out.set y.n.toNat v).map AO:=by rw[List.map_set];rfl
     rw[e];refine IH.out (out.set y.n.toNat v) ⟨by simpa using hol,⟨?_⟩⟩;rw[hr.out,GG,if_pos ho,hks.out]
    .refine aw ?_;refine IH.out out ⟨hol,⟨?_⟩⟩;rw[hr.out,GG,if_neg ho]
   .rintro i out hi him ⟨hol,hr⟩;have hgr:AA (Bx p st.sizes=out):=⟨by rw[hr.out];rfl⟩;refine aw ?_;exact⟨fun h=>(by rw[hlk]at h;cases h),fun st h=>by rw[hlk]at h;cases h;rw[LK,if_neg hD0,hgr.out];rfl⟩
end Go.Proofs
namespace Go.Proofs
open Go Go.Abs
set_option maxRecDepth 100000
set_option maxHeartbeats 4000000
def cpV(v1 v2 v3 v4 v9:AV)(a:Abs.Id)(rows:List (List AV)):MV:=⟨fun i=>match i with|0=>v1|1=>v2|2=>v4|_=>.nils,v3,v9,a,rows⟩
theorem W7{π:List Nat}{s:A8}{v1 v2 v3 v4:AV}{rows:List (List AV)}{g:AB}(hC:oB π s v1 v2 v3 v4 rows g){G:AB}{m a:Abs.Id}{v9:AV}{p:AJ}{sz:List Int}{ρ:List Nat}{n:Nat}(hρ:π=n::ρ)(hb:G.get m=some (.box (Aj p sz (cpV v1 v2 v3 v4 v9 a rows) 0)))(ha:G.get a=some (.map Iz))
 (hg: ∀id o,g.get id=some o→G.get id=some o) (hm:Id.under ρ m=true) (ham:Id.under ρ a=true):EE p sz G m (cpV v1 v2 v3 v4 v9 a rows) ⟨s,[],0⟩∧ ∀id∈(cpV v1 v2 v3 v4 v9 a rows).ids m,Id.under ρ id=true:=by
 have key: ∀{sz:Nat} {v:AV} {es:List (List AW)},Kc g sz v es→Kc G sz v es:=fun h=>by
  refine Dt h fun id hid=>?_;obtain⟨x,hx⟩:=Dk h hid;rw[hx];exact hg _ _ hx
 refine⟨⟨hb,ha,fun i hi=>?_,?_,?_,hC.gw,hC.qd⟩,fun id hid=>?_⟩
 .match i,hi with
  |0,_=>exact key hC.s0
  |1,_=>exact key hC.s1
  |2,_=>exact key hC.s2
  |3,_=>exact .inl ⟨rfl,rfl⟩
 .refine Ko hC.arr fun id hid=>?_;have:=Gq hC.arr hid;rw[this];exact hg _ _ this
 .refine Kn hC.chans fun id hid=>?_;obtain⟨x,hx⟩:=J8 hC.chans hid;rw[hx];exact hg _ _ hx
 .have hu:=fun h=>BH (n:=n) (hρ▸hC.ids id h);rcases(MV.mem _ m id).1 hid with rfl|rfl|⟨i,hi,h⟩|h|h
  .exact hm
  .exact ham
  .match i,hi with
   |0,_=>exact hu (.inl h)
   |1,_=>exact hu (.inr (.inl h))
   |2,_=>exact hu (.inr (.inr (.inl h)))
   |3,_=>simp[cpV,AE]at h
  .exact hu (.inr (.inr (.inr (.inl h))))
  .exact hu (.inr (.inr (.inr (.inr h))))
structure oJ(π:List Nat)(p:AJ)(s:A8)(st:Bu)(id:Abs.Id)(V:MV)(g:AB):Prop where
 looks:looks p=some st
 rep:EE p st.sizes g id V ⟨s,[],0⟩
 ids: ∀x∈V.ids id,Id.under π x=true
 own: ∀x,Id.under π x=false→g.get x=none
structure oM(π:List Nat)(p:AJ)(s:A8)(r:AZ×AB):Prop where
 bad:Bh p s≠0→r=(.pan (B3 2),[])
 good:Bh p s=0→ ∃st id V g,r=(.ret (.ptr id 0),g)∧oJ π p s st id V g
theorem fB{π:List Nat}{p:AJ}{s:A8}{st:Bu}{id:Abs.Id}{V:MV}{g:AB}(h1:looks p=some st)(h2:EE p st.sizes g id V ⟨s,[],0⟩∧ ∀x∈V.ids id,Id.under π x=true)(h3: ∀x,Id.under π x=false→g.get x=none):oJ π p s st id V g:=⟨h1,h2.1,h2.2,h3⟩
theorem Ly(p:AJ)(s:A8)(hp: ∀s∈p.free,s.size≤maxLen)(k:Nat)(ρ:List Nat): ∃r,BM (KL Tryz.prog cfg) 51 [.agg [.d (.lst (p.free.map Bt)),.d (.lst (p.nodes.map BQ)),.d (.lst (p.defs.map B6)),.d (.int .i64 (p.main))],.agg [.d (.lst (s.spots.map Af)),.d (.lst (s.groups.map A3)),.d (.lst (s.chans.map CK)),.d (.lst (s.waits.map AR))]] (k::ρ)=.ok r∧oM (k::ρ) p s r:=by
 obtain⟨r,hr,hpost⟩:=Yq p hp 4 (k::ρ);replace hp:=AA.mk hp;cases hlk:looks p with
 |none=>
  obtain rfl:=hpost.pan hlk
  (refine Gm rfl Tryz.func51 rfl rfl rfl ?_;show Wp _ _ _ _ (Tryz.f51.body.get rfl) _ _;simp only[Tryz.f51,Option.get_some])
  refine aw ?_;exact⟨fun _=>rfl,fun h=>by rw[Bh,hlk]at h;cases h⟩
 |some st=>
  obtain rfl:=hpost.ret st hlk;have hse:AA (Bh p s=if Du p st.sizes s=true then 0 else 2):=⟨by rw[Bh,hlk]⟩;have hfit:=fun h=>gV s (du hlk h);by_cases hD0:p.defs.length=0
  .simp only[LK,hD0,if_true,if_false,Iz]at hr
   (refine Gm rfl Tryz.func51 rfl rfl rfl ?_;show Wp _ _ _ _ (Tryz.f51.body.get rfl) _ _;simp only[Tryz.f51,Option.get_some])
   refine aw ?_;refine C0 (Qz (s:=s) (x9:=.emp) (x10:=.mp (1::3::4::k::ρ)) (x11:=.nils) (x12:=.d (.int .i64 (0))) (gid:=1::1::4::k::ρ) hlk ?_ ?_ ?_ ?_ ?_) (fun o1 g1 p1=>?_)
   .simp only[go_sem]
   .exact Dv _ _ _ _ _ (by decide)
   .simp only[slv,hD0,if_true,if_false]
   .intro hh;first
    |exact absurd hD0 hh
    |(simp only[go_sem];done)
    |(simp only[go_sem];rfl)
   .exact Dv _ _ _ _ _ (by decide)
   cases hso:Du p st.sizes s with
   |false=>
    rw[hso]at p1;replace p1:o1=.pan (B3 2):=p1;subst p1;replace hfit:=AA.mk hfit;refine aw ?_;exact⟨fun _=>rfl,fun h=>by rw[hse.out,hso]at h;cases h⟩
   |true=>
    rw[hso]at p1;replace p1:o1=.ret (.tup []):=p1;subst p1;obtain⟨r2,hr2,v1,v2,v3,v4,rows,g,rfl,hC⟩:=hfit hso 15 (k::ρ);clear hfit;have hgn:=hC.own;have hgm: ∀L,AB.get (g++L) (0::0::4::k::ρ)=AB.get L (0::0::4::k::ρ):=fun L=>A0 (hgn _ (Dv _ _ _ _ _ (by decide)));replace hgn:=AA.mk hgn;have hgood:AA (Bh p s=0):=⟨by rw[hse.out,hso];rfl⟩;have hcr:=AA.mk fun G v9 h1 h2 h3=>W7 hC (G:=G) (m:=0::0::4::k::ρ) (a:=1::3::4::k::ρ) (v9:=v9) (p:=p) (sz:=st.sizes) rfl h1 h2 h3 (under_iff.2 ⟨[0,0,4],rfl⟩) (under_iff.2 ⟨[1,3,4],rfl⟩);have hga:AA (∀L,AB.get (g++L) (1::3::4::k::ρ)=AB.get L (1::3::4::k::ρ)):=⟨fun L=>A0 (hC.own _ (Dv _ _ _ _ _ (by decide)))⟩;have hnis:AA (∀id o,g.get id=some o→Id.is (0::0::4::k::ρ) id=false):=⟨fun id o ho=>AD fun e=>by rw[←e,hC.own _ (Dv _ _ _ _ _ (by decide))]at ho;cases ho⟩;have hX:=AA.mk hlk;have h1:=hC.s0;have h2:=hC.s1;have h3:=hC.arr;have h4:=hC.s2;replace hC:=AA.mk hC;rcases h1 with⟨rfl,z1⟩|⟨i1,x1,rfl,z1⟩;all_goals rcases h2 with⟨rfl,z2⟩|⟨i2,x2,rfl,z2⟩
    all_goals rcases h3 with⟨rfl,z3⟩|⟨i3,rfl,z3⟩
    all_goals rcases h4 with⟨rfl,z4⟩|⟨i4,x4,rfl,z4⟩
    all_goals
     replace z1:=AA.mk z1;replace z2:=AA.mk z2;replace z3:=AA.mk z3;replace z4:=AA.mk z4;refine aw ?_;refine⟨fun h=>absurd hgood.out h,fun _=>⟨st,_,_,_,rfl,fB hX.out (hcr.out _ .emp ?_ ?_ fun id o ho=>?_) fun id hu=>?_⟩⟩
     .simp only[go_sem,Aj,cpV];first|done|rfl
     .simp only[go_sem,hga.out,Iz];first|done|rfl
     .have q1:=hnis.out id o ho;have q2: ∀L,AB.get (g++L) id=some o:=fun L=>Bw ho;simp only[go_sem,q1,q2,Bool.false_eq_true]
     .have a1:=AG hu;have a2:=AG (AF hu 4);have a3: ∀L,AB.get (g++L) id=AB.get L id:=fun L=>A0 (hC.out.own id (AF hu 15));simp only[go_sem,a1,a2,a3,Bool.false_eq_true]
  .simp only[LK,hD0,if_true,if_false,Iz]at hr
   (refine Gm rfl Tryz.func51 rfl rfl rfl ?_;show Wp _ _ _ _ (Tryz.f51.body.get rfl) _ _;simp only[Tryz.f51,Option.get_some])
   refine aw ?_;refine C0 (Qz (s:=s) (x9:=.osl (1::1::4::k::ρ) 0 p.defs.length) (x10:=.mp (1::4::4::k::ρ)) (x11:=.nils) (x12:=.d (.int .i64 (0))) (gid:=1::1::4::k::ρ) hlk ?_ ?_ ?_ ?_ ?_) (fun o1 g1 p1=>?_)
   .simp only[go_sem]
   .exact Dv _ _ _ _ _ (by decide)
   .simp only[slv,hD0,if_true,if_false]
   .intro hh;first
    |exact absurd hD0 hh
    |(simp only[go_sem];done)
    |(simp only[go_sem];rfl)
   .exact Dv _ _ _ _ _ (by decide)
   cases hso:Du p st.sizes s with
   |false=>
    rw[hso]at p1;replace p1:o1=.pan (B3 2):=p1;subst p1;replace hfit:=AA.mk hfit;refine aw ?_;exact⟨fun _=>rfl,fun h=>by rw[hse.out,hso]at h;cases h⟩
   |true=>
    rw[hso]at p1;replace p1:o1=.ret (.tup []):=p1;subst p1;obtain⟨r2,hr2,v1,v2,v3,v4,rows,g,rfl,hC⟩:=hfit hso 15 (k::ρ);clear hfit;have hgn:=hC.own;have hgm: ∀L,AB.get (g++L) (0::0::4::k::ρ)=AB.get L (0::0::4::k::ρ):=fun L=>A0 (hgn _ (Dv _ _ _ _ _ (by decide)));replace hgn:=AA.mk hgn;have hgood:AA (Bh p s=0):=⟨by rw[hse.out,hso];rfl⟩;have hcr:=AA.mk fun G v9 h1 h2 h3=>W7 hC (G:=G) (m:=0::0::4::k::ρ) (a:=1::4::4::k::ρ) (v9:=v9) (p:=p) (sz:=st.sizes) rfl h1 h2 h3 (under_iff.2 ⟨[0,0,4],rfl⟩) (under_iff.2 ⟨[1,4,4],rfl⟩);have hga:AA (∀L,AB.get (g++L) (1::4::4::k::ρ)=AB.get L (1::4::4::k::ρ)):=⟨fun L=>A0 (hC.own _ (Dv _ _ _ _ _ (by decide)))⟩;have hnis:AA (∀id o,g.get id=some o→Id.is (0::0::4::k::ρ) id=false):=⟨fun id o ho=>AD fun e=>by rw[←e,hC.own _ (Dv _ _ _ _ _ (by decide))]at ho;cases ho⟩;have hX:=AA.mk hlk;have h1:=hC.s0;have h2:=hC.s1;have h3:=hC.arr;have h4:=hC.s2;replace hC:=AA.mk hC;rcases h1 with⟨rfl,z1⟩|⟨i1,x1,rfl,z1⟩;all_goals rcases h2 with⟨rfl,z2⟩|⟨i2,x2,rfl,z2⟩
    all_goals rcases h3 with⟨rfl,z3⟩|⟨i3,rfl,z3⟩
    all_goals rcases h4 with⟨rfl,z4⟩|⟨i4,x4,rfl,z4⟩
    all_goals
     replace z1:=AA.mk z1;replace z2:=AA.mk z2;replace z3:=AA.mk z3;replace z4:=AA.mk z4;refine aw ?_;refine⟨fun h=>absurd hgood.out h,fun _=>⟨st,_,_,_,rfl,fB hX.out (hcr.out _ (.osl (1::1::4::k::ρ) 0 p.defs.length) ?_ ?_ fun id o ho=>?_) fun id hu=>?_⟩⟩
     .simp only[go_sem,Aj,cpV];first|done|rfl
     .simp only[go_sem,hga.out,Iz];first|done|rfl
     .have q1:=hnis.out id o ho;have q2: ∀L,AB.get (g++L) id=some o:=fun L=>Bw ho;simp only[go_sem,q1,q2,Bool.false_eq_true]
     .have a1:=AG hu;have a2:=AG (AF hu 4);have a3: ∀L,AB.get (g++L) id=AB.get L id:=fun L=>A0 (hC.out.own id (AF hu 15));simp only[go_sem,a1,a2,a3,Bool.false_eq_true]
end Go.Proofs
namespace Go.Proofs
open Go Go.Abs
set_option maxRecDepth 100000
set_option maxHeartbeats 4000000
theorem fV(p:AJ)(s:A8)(hp: ∀s∈p.free,s.size≤maxLen):BM (KL Tryz.prog cfg) 39 [.agg [.d (.lst (p.free.map Bt)),.d (.lst (p.nodes.map BQ)),.d (.lst (p.defs.map B6)),.d (.int .i64 (p.main))],.agg [.d (.lst (s.spots.map Af)),.d (.lst (s.groups.map A3)),.d (.lst (s.chans.map CK)),.d (.lst (s.waits.map AR))]] []=.ok (.ret (.d (.int .i64 (Bh p s))),[]):=by
 obtain⟨r,hr,hpost⟩:=Ly p s hp 6 [];replace hp:=AA.mk hp;by_cases h0:Bh p s=0
 .obtain⟨st,id,V,g,rfl,hL⟩:=hpost.good h0;have hg:=hL.own;clear hL;have g0: ∀L,AB.get (g++L) [0,0]=AB.get L [0,0]:=fun L=>A0 (hg _ (by decide));have g1: ∀L,AB.get (g++L) [0,1]=AB.get L [0,1]:=fun L=>A0 (hg _ (by decide));have g2: ∀L,AB.get (g++L) [0,2]=AB.get L [0,2]:=fun L=>A0 (hg _ (by decide));replace hg:=AA.mk hg
  (refine Ay rfl Tryz.func39 rfl rfl rfl ?_;show Wp _ _ _ _ (Tryz.f39.body.get rfl) _ _;simp only[Tryz.f39,Option.get_some])
  exact au
 .obtain rfl:=hpost.bad h0;have h2:AA (Bh p s=2):=⟨by
   rw[Bh]at h0⊢;split at h0
   .split at h0
    .exact absurd rfl h0
    .rename_i hh;simp[hh]
   .rfl⟩
  (refine Ay rfl Tryz.func39 rfl rfl rfl ?_;show Wp _ _ _ _ (Tryz.f39.body.get rfl) _ _;simp only[Tryz.f39,Option.get_some])
  (repeat' (first|simp only[go_sem, *,B3]|(refine sx ?_ ?_<;>intro hc)|refine sy (by omega) fun x hx hm=>?_|simp(disch:=first|assumption|omega) only[wrap_id,AK,AH,slice_int]))
  rw[h2.out]
end Go.Proofs
namespace Go.Proofs
open Go Go.Abs
set_option maxRecDepth 100000
set_option maxHeartbeats 4000000
theorem VU{K:AL}{prot:Option (List Nat)}{ρ ρ2:List Nat}{id2:Abs.Id}{e:BS}{bs:Nat}{ds:List Df}{Q:DX→St→Prop}{t:z5}{args:List AV}{H:AB}{r:Lp}(hn: ∀r',r'=r→Gh ρ ρ2 id2 e bs ds Q (K t args (H.put id2 (.loop r')) ρ2 true prot)):Gh ρ ρ2 id2 e bs ds Q (K t args (H.put id2 (.loop r)) ρ2 true prot):=hn r rfl
theorem L3{p:AJ}{sz:List Int}{g G:AB}{m:Abs.Id}{V:MV}{st:CU}(h:EE p sz g m V st)(hg: ∀id o,g.get id=some o→G.get id=some o):EE p sz G m V st:=by
 refine⟨hg _ _ h.box,hg _ _ h.acts,fun i hi=>Dt (h.sl i hi) fun id hid=>?_,Ko h.arr fun id hid=>?_,Kn h.chans fun id hid=>?_,h.gw,h.qd⟩
 .obtain⟨x,hx⟩:=Dk (h.sl i hi) hid;rw[hx];exact hg _ _ hx
 .have:=Gq h.arr hid;rw[this];exact hg _ _ this
 .obtain⟨x,hx⟩:=J8 h.chans hid;rw[hx];exact hg _ _ hx
theorem fW(p:AJ)(s:A8)(hp: ∀s∈p.free,s.size≤maxLen):BM (KL Tryz.prog cfg) 15 [pA p,sA s] []=.ok (.ret (.tup [.d (.int .i64 (KB p s)),.d (.int .i64 (Bh p s))]),[]):=by
 obtain⟨r,hr,hpost⟩:=Ly p s hp 7 [];replace hp:=AA.mk hp;by_cases h0:Bh p s=0
 .obtain⟨st,id,V,g,rfl,hL⟩:=hpost.good h0;have hg:=hL.own;have g0: ∀n,¬n=7→ ∀L,AB.get (g++L) [0,n]=AB.get L [0,n]:=fun n hn L=>A0 (hg _ (BA [] hn));replace hg:=AA.mk hg;obtain⟨st2,hf⟩:=NV h0;have hlk:=hL.looks;rw[hf.looks]at hlk;cases hlk;have hF:=hf.formed;have hs:=hf.sok;replace hL:=AA.mk hL;replace hF:=AA.mk hF;replace hs:=AA.mk hs
  (refine Ay rfl Tryz.func15 rfl rfl rfl ?_;show Wp _ _ _ _ (Tryz.f15.body.get rfl) _ _;simp only[Tryz.f15,Option.get_some])
  refine aw ?_;refine VU fun r0 hr0=>?_;obtain⟨T,hT⟩: ∃T:Int,T=(Au p s).length:=⟨_,rfl⟩;have hTm:T≤3000000:=by rw[hT];have:=UQ hF.out hs.out;omega
  obtain⟨I,hI⟩: ∃I:List CJ→AB→Prop,I=fun l g=>g.get [0,9]=some (.loop r0)∧g.get [0,2]=some (.box [.d (.int .i64 (T-l.length))])∧g.get [0,3]=some (.box [.d (.int .i64 0)])∧(l.length:Int)≤T:=⟨_,rfl⟩;have hE:QD WC [0,9] (fun i=>i=[0,9]∨i=[0,2]) I (fun _ _=>False) [10]:=by
   refine⟨.inl rfl,fun i hi=>?_,fun hI2=>?_,fun{x l H ρ v r} hI2 hr hv hρ hid=>?_,fun hI2 hs=>?_,fun hD _=>hD.elim⟩
   .rcases hi with rfl|rfl<;>rfl
   .rw[hI]at hI2;exact⟨_,hI2.1⟩
   .rw[hI]at hI2;obtain⟨g9,g2,g3,hl⟩:=hI2;rw[g9]at hr;cases hr;rw[List.length_cons]at g2 hl;have w1:IntKind.i64.wrap (T-((l.length+1:Nat):Int)+1)=T-(l.length:Nat):=by rw[wrap_id (by omega) (by omega)];omega
    subst hr0;replace hI:=AA.mk hI;replace hT:=AA.mk hT;refine Ef rfl ?_;refine aw ?_;refine .inl ⟨rfl,?_,fun i q1 q2=>?_⟩
    .rw[hI.out];refine⟨?_,?_,?_,by omega⟩<;>simp only[go_sem,g3,w1]
    .have q3:Id.is [0,9] i=false:=AD fun e=>q1 (.inl e.symm);have q4:Id.is [0,2] i=false:=AD fun e=>q1 (.inr e.symm);rw[get_put,q3,get_put,q4,get_put,q3];rfl
   .rw[hI]at hI2⊢;exact⟨(hs _ rfl).trans hI2.1,(hs _ rfl).trans hI2.2.1,(hs _ rfl).trans hI2.2.2.1,hI2.2.2.2⟩
  refine JN (R8 hF.out (L3 hL.out.rep fun i o hi=>?_) (fun i hi=>?_) hs.out hE (fun i hi=>?_) ?_) (fun o1 g5 p1=>?_)
  .have hu:Id.under [7] i=true:=by
    cases hx:Id.under [7] i with
    |true=>rfl
    |false=>rw[hg.out i hx]at hi;cases hi
   have q:Id.is [0,9] i=false:=AD fun e=>by subst e;cases hu
   rw[get_put,q,if_neg (by simp),Bw hi]
  .have:=hL.out.ids i hi;cases hx:Id.under [10] i with
   |false=>rfl
   |true=>have:=CB (π:=[]) this hx;omega
  .have:=hL.out.ids i hi;rintro(rfl|rfl)<;>cases this
  .rw[hI];have h9:AB.get g [0,9]=none:=hg.out _ rfl;have g02:=g0 2 (by decide);have g03:=g0 3 (by decide);have e0:T-((Au p s).length:Nat)=0:=by omega
   refine⟨?_,?_,?_,by rw[hT];exact Int.le_refl _⟩
   .simp only[go_sem]
   .simp only[go_sem,g02,e0]
   .simp only[go_sem,g03]
  rcases p1 with⟨rfl,p1,p2⟩|⟨_,p1⟩|⟨_,p1⟩
  .rw[hI]at p1;obtain⟨k9,k2,k3,_⟩:=p1;subst hr0;replace p2:=AA.mk p2;replace hI:=AA.mk hI;replace hT:=AA.mk hT;have gg: ∀i,Id.under [9] i=false→Id.under [10] i=false→(gc [9] (gc [10] g5)).get i=g5.get i:=fun i q1 q2=>by rw[AU _ _ _ q1,AU _ _ _ q2]
   have k2':=(gg [0,2] rfl rfl).trans k2;have k3':=(gg [0,3] rfl rfl).trans k3;replace gg:=AA.mk gg;refine aw ?_;rw[W8 h0,hT.out];simp
  .exact p1.elim
  .exact p1.elim
 .obtain rfl:=hpost.bad h0;have h2:=AA.mk (Py h0);have hc:AA (KB p s=0):=⟨by rw[KB,if_neg h0]⟩
  (refine Ay rfl Tryz.func15 rfl rfl rfl ?_;show Wp _ _ _ _ (Tryz.f15.body.get rfl) _ _;simp only[Tryz.f15,Option.get_some])
  (repeat' (first|simp only[go_sem, *,B3]|(refine sx ?_ ?_<;>intro hc)|refine sy (by omega) fun x hx hm=>?_|simp(disch:=first|assumption|omega) only[wrap_id,AK,AH,slice_int]))
  rw[h2.out,hc.out]
theorem uz(p:AJ)(s:A8)(n:Int)(hp: ∀s∈p.free,s.size≤maxLen):BM (KL Tryz.prog cfg) 17 [pA p,sA s,.d (.int .i64 (n))] []=.ok (.ret (.tup [O7 (Pb p s n).1,.d (.int .i64 ((Pb p s n).2))]),[]):=by
 obtain⟨r,hr,hpost⟩:=Ly p s hp 10 [];replace hp:=AA.mk hp;by_cases h0:Bh p s=0
 .obtain⟨st,id,V,g,rfl,hL⟩:=hpost.good h0;have hg:=hL.own;have g0: ∀n,¬n=10→ ∀L,AB.get (g++L) [0,n]=AB.get L [0,n]:=fun n hn L=>A0 (hg _ (BA [] hn));replace hg:=AA.mk hg;obtain⟨st2,hf⟩:=NV h0;have hlk:=hL.looks;rw[hf.looks]at hlk;cases hlk;have hF:=hf.formed;have hs:=hf.sok;replace hL:=AA.mk hL;replace hF:=AA.mk hF;replace hs:=AA.mk hs
  (refine Ay rfl Tryz.func17 rfl rfl rfl ?_;show Wp _ _ _ _ (Tryz.f17.body.get rfl) _ _;simp only[Tryz.f17,Option.get_some])
  refine aw ?_;refine VU fun r0 hr0=>?_;have hTm:=UQ hF.out hs.out;obtain⟨I,hI⟩: ∃I:List CJ→AB→Prop,I=fun l g=>g.get [0,12]=some (.loop r0)∧g.get [0,3]=some (.box [.d (.int .i64 (0)),.d (.int .i64 (0)),.d (.int .i64 (0)),.nils])∧g.get [0,4]=some (.box [.d (.int .i64 0)])∧g.get [0,2]=some (.box [.d (.int .i64 (n))])∧ ∃pre:List CJ,Au p s=pre++l∧g.get [0,6]=some (.box [.d (.int .i64 (pre.length))])∧ ¬(0≤n∧n<pre.length):=⟨_,rfl⟩;obtain⟨D,hD⟩: ∃D:AZ→AB→Prop,D=fun o g=>o=.ret (.d (.bool (false)))∧g.get [0,12]=some (.loop {r0 with state:=.done,pend:=some .ret})∧g.get [0,4]=some (.box [.d (.int .i64 0)])∧ ∃x pv,0≤n∧(Au p s)[n.toNat]? =some x∧g.get [0,3]=some (.box [.d (.int .i64 (x.wait)),.d (.int .i64 (x.group)),.d (.int .i64 (x.rule)),pv])∧((pv=.nils∧x.picks=[])∨eO g pv x.picks):=⟨_,rfl⟩
  have hE:QD WC [0,12] (fun i=>i=[0,12]∨i=[0,6]) I D [13]:=by
   refine⟨.inl rfl,fun i hi=>?_,fun hI2=>?_,fun{x l H ρ v r} hI2 hr hv hρ hid=>?_,fun hI2 hs=>?_,fun hD2 hs=>?_⟩
   .rcases hi with rfl|rfl<;>rfl
   .rw[hI]at hI2;exact⟨_,hI2.1⟩
   .rw[hI]at hI2;obtain⟨g9,g3,g4,g2,pre,hpre,g6,hnot⟩:=hI2;rw[g9]at hr;cases hr;obtain⟨pv,rfl,hpv⟩:=hv;have hpc:pv.isCell=true:=by rcases hpv with⟨rfl,_⟩|⟨_,rfl,_⟩<;>rfl
    have hl:=congrArg List.length hpre;rw[List.length_append,List.length_cons]at hl;have w1:IntKind.i64.wrap ((pre.length:Int)+1)=(pre.length:Int)+1:=wrap_id (by omega) (by omega);have u2:=hρ [0,2] rfl;have u3:=hρ [0,3] rfl;have u4:=hρ [0,4] rfl;have u6:=hρ [0,6] rfl;have u9:=hρ [0,12] rfl;have a2:=AG u2;have a3:=AG u3;have a4:=AG u4;have a6:=AG u6;have a9:=AG u9;have b3:=Ar u3;have b4:=Ar u4;have b6:=Ar u6;have b9:=Ar u9;subst hr0;replace hI:=AA.mk hI;replace hD:=AA.mk hD;replace hpre:=AA.mk hpre;replace hnot:=AA.mk hnot;replace hl:=AA.mk hl;replace hpv:=AA.mk hpv;replace hρ:=AA.mk hρ;replace hid:=AA.mk hid;clear hTm;by_cases hkn:(pre.length:Int)=n
    .refine Ef rfl ?_;refine ax ?_;refine .inr ⟨.inl rfl,?_,fun i q1 q2=>?_⟩
     .rw[hD.out];refine⟨rfl,?_,?_,x,pv,by omega,?_,?_,hpv.out.imp_right fun⟨id,e,k1,l,k2⟩=>⟨id,e,?_,l,k2⟩⟩
      .simp only[go_sem]
      .simp only[go_sem,Bool.false_eq_true]
      .rw[hpre.out,show n.toNat=pre.length by omega];simp
      .simp only[go_sem,Bool.false_eq_true]
      .subst k2;have u:=AG (hid.out (1::l) (by rw[e];simp[AE,Al])).2.1 0 0;simp only[go_sem,u,k1,Bool.false_eq_true]
     .have p1: ∀k,¬k=13→Id.is [k] i=false:=fun k hk=>AD fun e=>by subst e;rw[BA [] hk]at q1;cases q1
      have p2:Id.is (0::ρ) i=false:=AD fun e=>by have:=AG q2 0 0;rw[←e,is_self]at this;cases this
      simp only[go_sem,p1 12 (by decide),p1 3 (by decide),p1 4 (by decide),p2,Bool.false_eq_true]
    .refine Ef rfl ?_;refine ax ?_;refine .inl ⟨rfl,?_,fun i q1 q2=>?_⟩
     .rw[hI.out];refine⟨?_,?_,?_,?_,pre++[x],by rw[hpre.out];simp,?_,fun hn=>hnot.out ⟨hn.1,by have:=hn.2;simp at this;omega⟩⟩
      .simp only[go_sem]
      .simp only[go_sem,a3,g3,Bool.false_eq_true]
      .simp only[go_sem,a4,g4,Bool.false_eq_true]
      .simp only[go_sem,a2,g2,Bool.false_eq_true]
      .rw[List.length_append];simp only[go_sem,Bool.false_eq_true];rfl
     .have p1:=AD fun e=>q1 (.inl e.symm);have p3:=AD fun e=>q1 (.inr e.symm);have p2:=AG q2 0 0;simp only[go_sem,p1,p2,p3,Bool.false_eq_true]
   .rw[hI]at hI2⊢;obtain⟨k1,k2,k3,k4,pre,k5,k6,k7⟩:=hI2;exact⟨(hs _ rfl).trans k1,(hs _ rfl).trans k2,(hs _ rfl).trans k3,(hs _ rfl).trans k4,pre,k5,(hs _ rfl).trans k6,k7⟩
   .rw[hD]at hD2⊢;obtain⟨k1,k2,k3,x,pv,k4,k5,k6,k7⟩:=hD2;refine⟨k1,(hs _ (.inl rfl)).trans k2,(hs _ (.inl rfl)).trans k3,x,pv,k4,k5,(hs _ (.inl rfl)).trans k6,k7.imp_right fun⟨id,q1,q2,l,q3⟩=>⟨id,q1,(hs _ (.inr ⟨l,q3⟩)).trans q2,l,q3⟩⟩
  refine JN (R8 hF.out (L3 hL.out.rep fun i o hi=>?_) (fun i hi=>?_) hs.out hE (fun i hi=>?_) ?_) (fun o1 g5 p1=>?_)
  .have hu:Id.under [10] i=true:=by
    cases hx:Id.under [10] i with
    |true=>rfl
    |false=>rw[hg.out i hx]at hi;cases hi
   have q:Id.is [0,12] i=false:=AD fun e=>by subst e;cases hu
   rw[get_put,q,if_neg (by simp),Bw hi]
  .have:=hL.out.ids i hi;cases hx:Id.under [13] i with
   |false=>rfl
   |true=>have:=CB (π:=[]) this hx;omega
  .have:=hL.out.ids i hi;rintro(rfl|rfl)<;>cases this
  .rw[hI];have g02:=g0 2 (by decide);have g03:=g0 3 (by decide);have g04:=g0 4 (by decide);have g06:=g0 6 (by decide);refine⟨?_,?_,?_,?_,[],rfl,?_,fun hn=>by have:=hn.2;simp at this;omega⟩
   .simp only[go_sem]
   .simp only[go_sem,g03]
   .simp only[go_sem,g04]
   .simp only[go_sem,g02]
   .simp only[go_sem,g06]
  rcases p1 with⟨rfl,p1,p2⟩|⟨rfl,p1⟩|⟨⟨v,rfl⟩,p1⟩
  .rw[hI]at p1;obtain⟨k9,k3,k4,k2,pre,k5,k6,k7⟩:=p1;rw[List.append_nil]at k5;subst hr0;replace p2:=AA.mk p2;replace hI:=AA.mk hI;replace hD:=AA.mk hD;replace hE:=AA.mk hE;replace k5:=AA.mk k5;replace k7:=AA.mk k7;have gg: ∀i,Id.under [12] i=false→Id.under [13] i=false→(gc [12] (gc [13] g5)).get i=g5.get i:=fun i q1 q2=>by rw[AU _ _ _ q1,AU _ _ _ q2]
   have k3':=(gg [0,3] rfl rfl).trans k3;have k4':=(gg [0,4] rfl rfl).trans k4;replace gg:=AA.mk gg;refine aw ?_;rw[YL h0 (by rw[k5.out];have:=k7.out;omega)];rfl
  .rw[hD]at p1;obtain⟨_,k9,k4,x,pv,k5,k6,k3,k7⟩:=p1;subst hr0;replace hI:=AA.mk hI;replace hD:=AA.mk hD;replace hE:=AA.mk hE;replace k6:=AA.mk k6;have gg: ∀i,Id.under [12] i=false→Id.under [13] i=false→(gc [12] (gc [13] g5)).get i=g5.get i:=fun i q1 q2=>by rw[AU _ _ _ q1,AU _ _ _ q2]
   have k3':=(gg [0,3] rfl rfl).trans k3;have k4':=(gg [0,4] rfl rfl).trans k4;rcases k7 with⟨rfl,k7⟩|⟨id2,rfl,k7,l,rfl⟩
   .replace gg:=AA.mk gg;refine aw ?_;rw[Ra h0 k5 k6.out,O7,k7];rfl
   .have k7':(gc [12] (gc [13] g5)).get (1::l)=_:=(GF _ _ _).trans ((GF _ _ _).trans k7);replace gg:=AA.mk gg;refine aw ?_;rw[Ra h0 k5 k6.out]
  .rw[hD]at p1;cases p1.1
 .obtain rfl:=hpost.bad h0;have h2:=AA.mk (Py h0);have hc:=AA.mk (ym n h0)
  (refine Ay rfl Tryz.func17 rfl rfl rfl ?_;show Wp _ _ _ _ (Tryz.f17.body.get rfl) _ _;simp only[Tryz.f17,Option.get_some])
  (repeat' (first|simp only[go_sem, *,B3]|(refine sx ?_ ?_<;>intro hc)|refine sy (by omega) fun x hx hm=>?_|simp(disch:=first|assumption|omega) only[wrap_id,AK,AH,slice_int]))
  rw[hc.out];rfl
end Go.Proofs
namespace Go.Proofs
open Go Go.Abs
def Eu:A8:=⟨[],[],[],[]⟩
structure Made where
 sol:A8
 ev:List Iy
 err:Int
def xK:Option CU→Made
 |some st=>⟨st.sol,st.ev,0⟩
 |none=>⟨Eu,[],3⟩
def Z3(p:AJ)(s:A8)(x:CJ):Made:=if Bh p s=0 then if x∈Au p s then xK (Dn p s x)else⟨Eu,[],5⟩else⟨Eu,[],2⟩
abbrev sG(r:Made):AV:=.tup [sA r.sol,.d (.lst (r.ev.map Qn)),.d (.int .i64 r.err)]
theorem AAK{p:AJ}{s:A8}(x:CJ)(h: ¬Bh p s=0):Z3 p s x=⟨Eu,[],2⟩:=by rw[Z3,if_neg h]
theorem ei{p:AJ}{s:A8}{x:CJ}(h:Bh p s=0)(hx:x∉Au p s):Z3 p s x=⟨Eu,[],5⟩:=by rw[Z3,if_pos h,if_neg hx]
theorem U3{p:AJ}{s:A8}{x:CJ}(h:Bh p s=0)(hx:x∈Au p s):Z3 p s x=xK (Dn p s x):=by rw[Z3,if_pos h,if_pos hx]
theorem nN(p:AJ)(s:A8)(x:CJ):Il p s [] x=Dn p s x:=by
 rw[Il];cases Dn p s x<;>rfl
end Go.Proofs
