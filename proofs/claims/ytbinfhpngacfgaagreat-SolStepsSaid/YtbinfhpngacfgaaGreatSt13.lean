/-
  Parts: SolJ8 SolK1 SolG13.
-/
import Derived.Test.YtbinfhpngacfgaaGreatSt12
set_option linter.all false
set_option linter.unusedSimpArgs false
set_option linter.unusedVariables false
namespace Go.Proofs
open Go Go.Abs
set_option maxRecDepth 100000
set_option maxHeartbeats 4000000
theorem HN{g:AB}{sz:Nat}{v:AV}{es:List (List AW)}(h:Kc g sz v es):v.isCell=true∧v.cells=[v]:=by
 rcases h with⟨rfl,_⟩|⟨_,_,rfl,_⟩<;>exact⟨rfl,rfl⟩
theorem Wz{g:AB}{v:AV}{rows:List (List AV)}(h:uu g v rows):v.isCell=true∧v.cells=[v]:=by
 rcases h with⟨rfl,_⟩|⟨_,rfl,_⟩<;>exact⟨rfl,rfl⟩
theorem fQ{α:Type}(l x:List α)(n:Nat)(hn:n=l.length):Iw (l++x) 0 n=some l:=by
 subst hn;unfold Iw;rw[if_pos (by simp)];simp
theorem Xc{g:AB}{sz:Nat}{v:AV}{es:List (List AW)}(h:Kc g sz v es):Ea g.get v=some (.lst es):=by
 rcases h with⟨rfl,rfl⟩|⟨id,x,rfl,hg⟩
 .rfl
 .simp only[Ea,hg,fQ es x _ rfl,Option.map_some]
theorem Nb{g:AB}{sz:Nat}{v:AV}{es:List (List AW)}(h:Kc g sz v es):Dp g.get v=some (.lst es):=by
 have h1:=Xc h;rcases h with⟨rfl,rfl⟩|⟨id,x,rfl,hg⟩
 .rfl
 .simp only[Dp,hg];exact h1
theorem qV{g:AB}{sz:Nat}{v:AV}{es:List (List AW)}(h:Kc g sz v es):EF g.get v=some (.d (.lst es)):=by
 have h1:=Nb h;rcases h with⟨rfl,rfl⟩|⟨id,x,rfl,hg⟩
 .rfl
 .simp only[EF,h1,Option.map_some]
theorem TW{g:AB}: ∀{rows:List (List AV)} {l:List Fa},rows.length=l.length→(∀(j:Nat) (q:Fa),l[j]? =some q→ ∃v,rows[j]? =some (Aq q v)∧Kc g 1 v (q.queue.map BG))→Cj g.get rows=some (l.map CK)
 |[],[],_,_=>rfl
 |[],_::_,h,_=>by cases h
 |_::_,[],h,_=>by cases h
 |r::rows,q::l,h,hr=>by
  obtain⟨v,h1,h2⟩:=hr 0 q rfl;simp only[List.getElem?_cons_zero,Option.some.injEq]at h1;subst h1;have ih:=TW (rows:=rows) (l:=l) (by simpa using h) fun j q hj=>by
   have:=hr (j+1) q (by simpa using hj);simpa using this
  have h3:=Xc h2;have h4:Cb g.get (Aq q v)=some (CK q):=by
   simp only[Aq,Cb,h3,show∀x,Ea g.get (.d x)=some x from fun _=>rfl,CK]
  simp only[Cj,h4,ih,List.map_cons]
theorem qa{g:AB}{v:AV}{rows:List (List AV)}{l:List Fa}(h:uu g v rows)(hc:zQ g rows l):Dp g.get v=some (.lst (l.map CK)):=by
 have h1:=TW hc.len hc.row;have hl:=hc.len;rcases h with⟨rfl,rfl⟩|⟨id,rfl,hg⟩
 .cases l with
  |nil=>rfl
  |cons q l=>cases hl
 .have:=fQ (l.map CK) [] rows.length (by rw[List.length_map,hl]);rw[List.append_nil]at this;simp only[Dp,hg,h1,this,Option.map_some]
theorem zn(p:AJ)(s:A8)(x:CJ)(hp: ∀s∈p.free,s.size≤maxLen):BM (KL Tryz.prog cfg) 21 [pA p,sA s,O7 x] []=.ok (.ret (sG (Z3 p s x)),[]):=by
 obtain⟨r,hr,hpost⟩:=Ly p s hp 9 [];replace hp:=AA.mk hp;by_cases h0:Bh p s=0
 .obtain⟨st,id,V,g,rfl,hL⟩:=hpost.good h0;have hg:=hL.own;have g0: ∀n,¬n=9→ ∀L,AB.get (g++L) [0,n]=AB.get L [0,n]:=fun n hn L=>A0 (hg _ (BA [] hn));replace hg:=AA.mk hg;obtain⟨st2,hf⟩:=NV h0;have hlk:=hL.looks;rw[hf.looks]at hlk;cases hlk;have hF:=hf.formed;have hs:=hf.sok;replace hL:=AA.mk hL;replace hF:=AA.mk hF;replace hs:=AA.mk hs;have hVu: ∀i∈V.ids id,∀k,¬k=9→Id.under [k] i=false:=fun i hi k hk=>by
   have:=hL.out.ids i hi;cases hx:Id.under [k] i with
   |false=>rfl
   |true=>have:=CB (π:=[]) this hx;omega
  replace hVu:=AA.mk hVu
  (refine Ay rfl Tryz.func21 rfl rfl rfl ?_;show Wp _ _ _ _ (Tryz.f21.body.get rfl) _ _;simp only[Tryz.f21,Option.get_some])
  refine aw ?_;refine VU fun r0 hr0=>?_;obtain⟨I,hI⟩: ∃I:List CJ→AB→Prop,I=fun l g=>g.get [0,14]=some (.loop r0)∧g.get [0,2]=some (.box [.d (.int .i64 (x.wait)),.d (.int .i64 (x.group)),.d (.int .i64 (x.rule)),.d (.lst (x.picks.map AO))])∧g.get [0,3]=some (.box [.nils,.nils,.nils,.nils])∧g.get [0,4]=some (.box [.nils])∧g.get [0,5]=some (.box [.d (.int .i64 (0))])∧g.get [0,10]=some (.box [.ptr id 0])∧EE p st.sizes g id V ⟨s,[],0⟩∧ ∃pre:List CJ,Au p s=pre++l∧x∉pre:=⟨_,rfl⟩;obtain⟨D,hD⟩: ∃D:AZ→AB→Prop,D=fun o g=>(o=.ret (.d (.bool (false)))∧g.get [0,14]=some (.loop {r0 with state:=.done,pend:=some .ret})∧x∈Au p s∧ ∃V' st',Dn p s x=some st'∧EE p st.sizes g id V' st'∧(∀i∈V'.ids id,(Id.under [15] i=false∧Id.under [14] i=false)∨ ∃l,i=1::l)∧g.get [0,3]=some (.box [V'.s 0,V'.s 1,V'.v3,V'.s 2])∧g.get [0,4]=some (.box [V'.s 3])∧g.get [0,5]=some (.box [.d (.int .i64 (0))]))∨(o=.pan (B3 3)∧x∈Au p s∧Dn p s x=none∧g.get [0,3]=some (.box [.nils,.nils,.nils,.nils])∧g.get [0,4]=some (.box [.nils])∧g.get [0,5]=some (.box [.d (.int .i64 (0))])):=⟨_,rfl⟩
  have hE:QD WC [0,14] (fun i=>i=[0,14]) I D [15]:=by
   refine⟨rfl,fun i hi=>?_,fun hI2=>?_,fun{y l H ρ v r} hI2 hr hv hρ hid=>?_,fun hI2 hs=>?_,fun hD2 hs=>?_⟩
   .subst hi;rfl
   .rw[hI]at hI2;exact⟨_,hI2.1⟩
   .rw[hI]at hI2;obtain⟨g14,g2,g3,g4,g5,g10,hM,pre,hpre,hnot⟩:=hI2;rw[g14]at hr;cases hr;obtain⟨pv,rfl,hpv⟩:=hv;have hpc:pv.isCell=true:=by rcases hpv with⟨rfl,_⟩|⟨_,rfl,_⟩<;>rfl
    have hyin:y∈Au p s:=by rw[hpre];simp
    have hyl:=ZM hF.out hs.out hyin;have hss:=Vm x y (by omega);have u2:=hρ [0,2] rfl;have u3:=hρ [0,3] rfl;have u4:=hρ [0,4] rfl;have u5:=hρ [0,5] rfl;have u10:=hρ [0,10] rfl;have u14:=hρ [0,14] rfl;have a2:=AG u2;have a3:=AG u3;have a4:=AG u4;have a5:=AG u5;have a10:=AG u10;have a14:=AG u14;subst hr0;replace hI:=AA.mk hI;replace hD:=AA.mk hD;replace hpre:=AA.mk hpre;replace hM:=AA.mk hM;replace hρ:=AA.mk hρ;replace hid:=AA.mk hid;replace hnot:=AA.mk hnot;replace hyin:=AA.mk hyin;have hVr:AA (∀i∈V.ids id,∀n,Id.under (n::ρ) i=false):=⟨fun i hi n=>AF (hρ.out i (hVu.out i hi 15 (by decide))) n⟩;have nV: ∀k,¬k=9→[0,k] ∉V.ids id:=fun k hk hh=>by have:=hL.out.ids _ hh;rw[BA [] hk]at this;cases this
    have nV2:AA (∀j,Id.under [15] (0::j)=true→0::j∉V.ids id):=⟨fun j hj hh=>by rw[hVu.out _ hh 15 (by decide)]at hj;cases hj⟩;have hdo:AA (x∈Au p s→ ∀Hx:AB,(∀i∈V.ids id,Hx.get i=H.get i)→ ∃o g1,KL Tryz.prog cfg (.fn 55) [.ptr id 0,O7 x] Hx (7::ρ) true none=.ok (o,g1)∧EU p st.sizes (7::ρ) id V Hx (Dn p s x) o g1):=⟨fun hxin Hx hx=>by
     have:=ACK hF.out (h:=Hx) (π:=7::ρ) (m:=id) (V:=V) (st:=⟨s,[],0⟩) (Bg hM.out hx) (fun i hi=>hVr.out i hi 7) hs.out (x:=x) (P6.1 hxin) (by simp)
     rwa [nN]at this⟩
    by_cases hxy:x=y
    .subst hxy;rw[decide_eq_true rfl]at hss;have hdo:=hdo.out hyin.out;rcases hpv with⟨rfl,hz⟩|⟨id2,rfl,g2',l2,rfl⟩
     .simp only[O7,hz,List.map_nil]at g2 hss hdo;replace hdo:=AA.mk hdo;refine Ef rfl ?_;refine ax ?_;refine Ab (hdo.out _ fun i hi=>?_) (fun o1 g1 p1=>?_)
      .have q:=AG (hρ.out i (hVu.out i hi 15 (by decide)));have q14:Id.is [0,14] i=false:=AD fun e=>nV 14 (by decide) (e▸hi);simp only[go_sem,q,q14,Bool.false_eq_true]
      cases hds:Dn p s x with
      |none=>
       rw[hds]at p1;obtain⟨rfl,p2⟩:=p1;have k14:=p2 [0,14] (nV 14 (by decide)) (AF u14 7);have k3:=(AU (7::ρ) g1 _ (AF u3 7)).trans (p2 [0,3] (nV 3 (by decide)) (AF u3 7));have k4:=(AU (7::ρ) g1 _ (AF u4 7)).trans (p2 [0,4] (nV 4 (by decide)) (AF u4 7));have k5:=(AU (7::ρ) g1 _ (AF u5 7)).trans (p2 [0,5] (nV 5 (by decide)) (AF u5 7));replace p2:=AA.mk p2;refine ax ?_;refine .inr ⟨.inr ⟨_,rfl⟩,?_,fun j q1 q2=>?_⟩
       .rw[hD.out];refine .inr ⟨rfl,hyin.out,hds,?_,?_,?_⟩
        .simp only[go_sem,k3,a3,g3,Bool.false_eq_true]
        .simp only[go_sem,k4,a4,g4,Bool.false_eq_true]
        .simp only[go_sem,k5,a5,g5,Bool.false_eq_true]
       .rw[AU _ _ _ (AF q2 7),p2.out _ (nV2.out j q1) (AF q2 7)];have b1:=AG q2 0 0;have b2:Id.is [0,14] (0::j)=false:=AD fun e=>by rw[←e]at q1;cases q1
        have b3:Id.is [14] j=false:=AD fun e=>by rw[←e]at q1;cases q1
        have b4:Id.is (0::ρ) j=false:=AD fun e=>by rw[←e,is_self]at b1;cases b1
        simp only[go_sem,b1,b2,b3,b4,Bool.false_eq_true]
      |some st'=>
       rw[hds]at p1;obtain⟨rfl,V',hM',hK⟩:=p1;have gm:=hM'.box;simp only[Aj]at gm;obtain⟨c0,d0⟩:=HN (hM'.sl 0 (by omega));obtain⟨c1,d1⟩:=HN (hM'.sl 1 (by omega));obtain⟨c2,d2⟩:=HN (hM'.sl 2 (by omega));obtain⟨c3,d3⟩:=HN (hM'.sl 3 (by omega));obtain⟨c4,d4⟩:=Wz hM'.arr;have uid:=hVr.out id (V.m_mem id) 7;have gm2:=(AU _ _ _ uid).trans gm;have k14:=(AU (7::ρ) g1 _ (AF u14 7)).trans (hK.frame [0,14] (nV 14 (by decide)) (AF u14 7));have k3:=(AU (7::ρ) g1 _ (AF u3 7)).trans (hK.frame [0,3] (nV 3 (by decide)) (AF u3 7));have k4:=(AU (7::ρ) g1 _ (AF u4 7)).trans (hK.frame [0,4] (nV 4 (by decide)) (AF u4 7));have k5:=(AU (7::ρ) g1 _ (AF u5 7)).trans (hK.frame [0,5] (nV 5 (by decide)) (AF u5 7));have k10:=(AU (7::ρ) g1 _ (AF u10 7)).trans (hK.frame [0,10] (nV 10 (by decide)) (AF u10 7));have i3: ∀k,¬k=9→Id.is id [0,k]=false:=fun k hk=>AD fun e=>nV k hk (e▸V.m_mem id);have i33:=i3 3 (by decide);replace i3:=AA.mk i3;replace nV:=AA.mk nV;replace hM':=AA.mk hM';replace hK:=AA.mk hK;refine ax ?_;refine .inr ⟨.inl rfl,?_,fun j q1 q2=>?_⟩
       .rw[hD.out];refine .inl ⟨rfl,?_,hyin.out,V',st',hds,Bg hM'.out fun i hi=>?_,fun i hi=>?_,?_,?_,?_⟩
        .simp only[go_sem]
        .rcases hK.out.ids i hi with hh|⟨hh,l3,rfl⟩
         .have b0: ∀k,¬k=9→Id.is [0,k] i=false:=fun k hk=>AD fun e=>nV.out k hk (e▸hh);rw[get_put,b0 14 (by decide),get_put,b0 5 (by decide),get_put,b0 4 (by decide),get_put,b0 3 (by decide),AU _ _ _ (hVr.out i hh 7)];rfl
         .rw[get_put,AD (by simp),get_put,AD (by simp),get_put,AD (by simp),get_put,AD (by simp),GF];rfl
        .rcases hK.out.ids i hi with hh|⟨_,l3,rfl⟩
         .exact .inl ⟨hVu.out i hh 15 (by decide),hVu.out i hh 14 (by decide)⟩
         .exact .inr ⟨l3,rfl⟩
        .simp only[go_sem]
        .simp only[go_sem]
        .simp only[go_sem]
       .have b0: ∀k,¬k=15→Id.is [0,k] (0::j)=false:=fun k hk=>AD fun e=>by rw[←e,BA [] hk]at q1;cases q1
        rw[get_put,b0 14 (by decide),get_put,b0 5 (by decide),get_put,b0 4 (by decide),get_put,b0 3 (by decide)];simp only[Bool.false_eq_true,if_false];rw[AU _ _ _ (AF q2 7),hK.out.frame _ (nV2.out j q1) (AF q2 7)];have b1:=AG q2 0 0;have b2:=b0 14 (by decide);have b3:Id.is [14] j=false:=AD fun e=>by rw[←e]at q1;cases q1
        have b4:Id.is (0::ρ) j=false:=AD fun e=>by rw[←e,is_self]at b1;cases b1
        simp only[go_sem,b1,b2,b3,b4,Bool.false_eq_true]
     .replace hdo:=AA.mk hdo;refine Ef rfl ?_;refine ax ?_;refine Ab (hdo.out _ fun i hi=>?_) (fun o1 g1 p1=>?_)
      .have q:=AG (hρ.out i (hVu.out i hi 15 (by decide)));have q14:Id.is [0,14] i=false:=AD fun e=>nV 14 (by decide) (e▸hi);have qv:Id.is (1::l2) i=false:=AD fun e=>by have:=hVu.out i hi 15 (by decide);rw[←e,(hid.out (1::l2) (by simp[AE,Al])).2.2]at this;cases this
       simp only[go_sem,q,q14,qv,Bool.false_eq_true]
      cases hds:Dn p s x with
      |none=>
       rw[hds]at p1;obtain⟨rfl,p2⟩:=p1;have k14:=p2 [0,14] (nV 14 (by decide)) (AF u14 7);have k3:=(AU (7::ρ) g1 _ (AF u3 7)).trans (p2 [0,3] (nV 3 (by decide)) (AF u3 7));have k4:=(AU (7::ρ) g1 _ (AF u4 7)).trans (p2 [0,4] (nV 4 (by decide)) (AF u4 7));have k5:=(AU (7::ρ) g1 _ (AF u5 7)).trans (p2 [0,5] (nV 5 (by decide)) (AF u5 7));replace p2:=AA.mk p2;refine ax ?_;refine .inr ⟨.inr ⟨_,rfl⟩,?_,fun j q1 q2=>?_⟩
       .rw[hD.out];refine .inr ⟨rfl,hyin.out,hds,?_,?_,?_⟩
        .simp only[go_sem,k3,a3,g3,Bool.false_eq_true]
        .simp only[go_sem,k4,a4,g4,Bool.false_eq_true]
        .simp only[go_sem,k5,a5,g5,Bool.false_eq_true]
       .rw[AU _ _ _ (AF q2 7),p2.out _ (nV2.out j q1) (AF q2 7)];have b1:=AG q2 0 0;have b2:Id.is [0,14] (0::j)=false:=AD fun e=>by rw[←e]at q1;cases q1
        have b3:Id.is [14] j=false:=AD fun e=>by rw[←e]at q1;cases q1
        have b4:Id.is (0::ρ) j=false:=AD fun e=>by rw[←e,is_self]at b1;cases b1
        simp only[go_sem,b1,b2,b3,b4,Bool.false_eq_true]
      |some st'=>
       rw[hds]at p1;obtain⟨rfl,V',hM',hK⟩:=p1;have gm:=hM'.box;simp only[Aj]at gm;obtain⟨c0,d0⟩:=HN (hM'.sl 0 (by omega));obtain⟨c1,d1⟩:=HN (hM'.sl 1 (by omega));obtain⟨c2,d2⟩:=HN (hM'.sl 2 (by omega));obtain⟨c3,d3⟩:=HN (hM'.sl 3 (by omega));obtain⟨c4,d4⟩:=Wz hM'.arr;have uid:=hVr.out id (V.m_mem id) 7;have gm2:=(AU _ _ _ uid).trans gm;have k14:=(AU (7::ρ) g1 _ (AF u14 7)).trans (hK.frame [0,14] (nV 14 (by decide)) (AF u14 7));have k3:=(AU (7::ρ) g1 _ (AF u3 7)).trans (hK.frame [0,3] (nV 3 (by decide)) (AF u3 7));have k4:=(AU (7::ρ) g1 _ (AF u4 7)).trans (hK.frame [0,4] (nV 4 (by decide)) (AF u4 7));have k5:=(AU (7::ρ) g1 _ (AF u5 7)).trans (hK.frame [0,5] (nV 5 (by decide)) (AF u5 7));have k10:=(AU (7::ρ) g1 _ (AF u10 7)).trans (hK.frame [0,10] (nV 10 (by decide)) (AF u10 7));have i3: ∀k,¬k=9→Id.is id [0,k]=false:=fun k hk=>AD fun e=>nV k hk (e▸V.m_mem id);have i33:=i3 3 (by decide);replace i3:=AA.mk i3;replace nV:=AA.mk nV;replace hM':=AA.mk hM';replace hK:=AA.mk hK;refine ax ?_;refine .inr ⟨.inl rfl,?_,fun j q1 q2=>?_⟩
       .rw[hD.out];refine .inl ⟨rfl,?_,hyin.out,V',st',hds,Bg hM'.out fun i hi=>?_,fun i hi=>?_,?_,?_,?_⟩
        .simp only[go_sem]
        .rcases hK.out.ids i hi with hh|⟨hh,l3,rfl⟩
         .have b0: ∀k,¬k=9→Id.is [0,k] i=false:=fun k hk=>AD fun e=>nV.out k hk (e▸hh);rw[get_put,b0 14 (by decide),get_put,b0 5 (by decide),get_put,b0 4 (by decide),get_put,b0 3 (by decide),AU _ _ _ (hVr.out i hh 7)];rfl
         .rw[get_put,AD (by simp),get_put,AD (by simp),get_put,AD (by simp),get_put,AD (by simp),GF];rfl
        .rcases hK.out.ids i hi with hh|⟨_,l3,rfl⟩
         .exact .inl ⟨hVu.out i hh 15 (by decide),hVu.out i hh 14 (by decide)⟩
         .exact .inr ⟨l3,rfl⟩
        .simp only[go_sem]
        .simp only[go_sem]
        .simp only[go_sem]
       .have b0: ∀k,¬k=15→Id.is [0,k] (0::j)=false:=fun k hk=>AD fun e=>by rw[←e,BA [] hk]at q1;cases q1
        rw[get_put,b0 14 (by decide),get_put,b0 5 (by decide),get_put,b0 4 (by decide),get_put,b0 3 (by decide)];simp only[Bool.false_eq_true,if_false];rw[AU _ _ _ (AF q2 7),hK.out.frame _ (nV2.out j q1) (AF q2 7)];have b1:=AG q2 0 0;have b2:=b0 14 (by decide);have b3:Id.is [14] j=false:=AD fun e=>by rw[←e]at q1;cases q1
        have b4:Id.is (0::ρ) j=false:=AD fun e=>by rw[←e,is_self]at b1;cases b1
        simp only[go_sem,b1,b2,b3,b4,Bool.false_eq_true]
    .rw[decide_eq_false hxy]at hss;replace hxy:=AA.mk hxy;rcases hpv with⟨rfl,hz⟩|⟨id2,rfl,g2',l2,rfl⟩
     .simp only[O7,hz,List.map_nil]at hss;refine Ef rfl ?_;refine ax ?_;refine .inl ⟨rfl,?_,fun i q1 q2=>?_⟩
      .rw[hI.out];refine⟨?_,?_,?_,?_,?_,?_,Bg hM.out fun i hi=>?_,pre++[y],by rw[hpre.out];simp,fun hh=>?_⟩
       .simp only[go_sem]
       .simp only[go_sem,a2,g2,Bool.false_eq_true]
       .simp only[go_sem,a3,g3,Bool.false_eq_true]
       .simp only[go_sem,a4,g4,Bool.false_eq_true]
       .simp only[go_sem,a5,g5,Bool.false_eq_true]
       .simp only[go_sem,a10,g10,Bool.false_eq_true]
       .have q:=AG (hρ.out i (hVu.out i hi 15 (by decide)));have q14:Id.is [0,14] i=false:=AD fun e=>nV 14 (by decide) (e▸hi);simp only[go_sem,q,q14,Bool.false_eq_true]
       .rcases List.mem_append.1 hh with hh|hh
        .exact hnot.out hh
        .exact hxy.out (List.mem_singleton.1 hh)
      .have b1:=AG q2 0 0;have b2:Id.is [0,14] i=false:=AD fun e=>q1 e.symm;simp only[go_sem,b1,b2,Bool.false_eq_true]
     .refine Ef rfl ?_;refine ax ?_;refine .inl ⟨rfl,?_,fun i q1 q2=>?_⟩
      .rw[hI.out];refine⟨?_,?_,?_,?_,?_,?_,Bg hM.out fun i hi=>?_,pre++[y],by rw[hpre.out];simp,fun hh=>?_⟩
       .simp only[go_sem]
       .simp only[go_sem,a2,g2,Bool.false_eq_true]
       .simp only[go_sem,a3,g3,Bool.false_eq_true]
       .simp only[go_sem,a4,g4,Bool.false_eq_true]
       .simp only[go_sem,a5,g5,Bool.false_eq_true]
       .simp only[go_sem,a10,g10,Bool.false_eq_true]
       .have q:=AG (hρ.out i (hVu.out i hi 15 (by decide)));have q14:Id.is [0,14] i=false:=AD fun e=>nV 14 (by decide) (e▸hi);simp only[go_sem,q,q14,Bool.false_eq_true]
       .rcases List.mem_append.1 hh with hh|hh
        .exact hnot.out hh
        .exact hxy.out (List.mem_singleton.1 hh)
      .have b1:=AG q2 0 0;have b2:Id.is [0,14] i=false:=AD fun e=>q1 e.symm;simp only[go_sem,b1,b2,Bool.false_eq_true]
   .rw[hI]at hI2⊢;obtain⟨k1,k2,k3,k4,k5,k6,k7,pre,k8,k9⟩:=hI2;exact⟨(hs _ rfl).trans k1,(hs _ rfl).trans k2,(hs _ rfl).trans k3,(hs _ rfl).trans k4,(hs _ rfl).trans k5,(hs _ rfl).trans k6,Bg k7 fun i hi=>hs i (hVu.out i hi 15 (by decide)),pre,k8,k9⟩
   .rw[hD]at hD2⊢;rcases hD2 with⟨k1,k2,k3,V',st',k4,k5,k6,k7,k8,k9⟩|⟨k1,k2,k3,k4,k5,k6⟩
    .exact .inl ⟨k1,(hs _ (.inl rfl)).trans k2,k3,V',st',k4,Bg k5 fun i hi=>hs i ((k6 i hi).imp_left And.left),k6,(hs _ (.inl rfl)).trans k7,(hs _ (.inl rfl)).trans k8,(hs _ (.inl rfl)).trans k9⟩
    .exact .inr ⟨k1,k2,k3,(hs _ (.inl rfl)).trans k4,(hs _ (.inl rfl)).trans k5,(hs _ (.inl rfl)).trans k6⟩
  refine JN (R8 hF.out (L3 hL.out.rep fun i o hi=>?_) (fun i hi=>hVu.out i hi 15 (by decide)) hs.out hE (fun i hi=>?_) ?_) (fun o1 g5 p1=>?_)
  .have hu:Id.under [9] i=true:=by
    cases hx:Id.under [9] i with
    |true=>rfl
    |false=>rw[hg.out i hx]at hi;cases hi
   have q:Id.is [0,14] i=false:=AD fun e=>by subst e;cases hu
   have q2:Id.is [0,10] i=false:=AD fun e=>by subst e;cases hu
   rw[get_put,q,if_neg (by simp),get_put,q2,if_neg (by simp),get_put,q2,if_neg (by simp),Bw hi]
  .have:=hL.out.ids i hi;rintro rfl;cases this
  .rw[hI];have g02:=g0 2 (by decide);have g03:=g0 3 (by decide);have g04:=g0 4 (by decide);have g05:=g0 5 (by decide);refine⟨?_,?_,?_,?_,?_,?_,L3 hL.out.rep fun i o hi=>?_,[],rfl,by simp⟩
   .simp only[go_sem]
   .simp only[go_sem,g02]
   .simp only[go_sem,g03]
   .simp only[go_sem,g04]
   .simp only[go_sem,g05]
   .simp only[go_sem]
   .have hu:Id.under [9] i=true:=by
     cases hx:Id.under [9] i with
     |true=>rfl
     |false=>rw[hg.out i hx]at hi;cases hi
    have q:Id.is [0,14] i=false:=AD fun e=>by subst e;cases hu
    have q2:Id.is [0,10] i=false:=AD fun e=>by subst e;cases hu
    rw[get_put,q,if_neg (by simp),get_put,q2,if_neg (by simp),get_put,q2,if_neg (by simp),Bw hi]
  have gg: ∀g5:AB,∀i,Id.under [14] i=false→Id.under [15] i=false→(gc [14] (gc [15] g5)).get i=g5.get i:=fun g5 i q1 q2=>by rw[AU _ _ _ q1,AU _ _ _ q2]
  rcases p1 with⟨rfl,p1,p2⟩|⟨rfl,p1⟩|⟨⟨v,rfl⟩,p1⟩
  .rw[hI]at p1;obtain⟨k14,k2,k3,k4,k5,k10,_,pre,k8,k9⟩:=p1;rw[List.append_nil]at k8;subst hr0;replace p2:=AA.mk p2;replace hI:=AA.mk hI;replace hD:=AA.mk hD;replace hE:=AA.mk hE;replace k8:=AA.mk k8;replace k9:=AA.mk k9;have k3':=(gg g5 [0,3] rfl rfl).trans k3;have k4':=(gg g5 [0,4] rfl rfl).trans k4;have k5':=(gg g5 [0,5] rfl rfl).trans k5;replace gg:=AA.mk gg;refine aw ?_;rw[ei h0 (by rw[k8.out];exact k9.out)];rfl
  .rw[hD]at p1;rcases p1 with⟨_,k14,kx,V',st',kd,kM,kV,k3,k4,k5⟩|⟨e,_⟩
   .subst hr0;replace hI:=AA.mk hI;replace hD:=AA.mk hD;replace hE:=AA.mk hE;have k3':=(gg g5 [0,3] rfl rfl).trans k3;have k4':=(gg g5 [0,4] rfl rfl).trans k4;have k5':=(gg g5 [0,5] rfl rfl).trans k5;replace gg:=AA.mk gg;have kM2:=Bg (h':=gc [14] (gc [15] g5)) kM fun i hi=>by
     rcases kV i hi with⟨u1,u2⟩|⟨l,rfl⟩
     .rw[AU _ _ _ u2,AU _ _ _ u1]
     .rw[GF,GF]
    have f0:=Nb (kM2.sl 0 (by omega));have f1:=Nb (kM2.sl 1 (by omega));have f2:=Nb (kM2.sl 2 (by omega));have f3:=qV (kM2.sl 3 (by omega));have f4:=qa kM2.arr kM2.chans;simp only[Aw]at f0 f1 f2 f3;replace kM:=AA.mk kM;replace kM2:=AA.mk kM2;replace kV:=AA.mk kV;refine aw ?_;rw[U3 h0 kx,kd];rfl
   .cases e
  .rw[hD]at p1;rcases p1 with⟨e,_⟩|⟨e,kx,kd,k3,k4,k5⟩
   .cases e
   .cases e;subst hr0;replace hI:=AA.mk hI;replace hD:=AA.mk hD;replace hE:=AA.mk hE;have k3':=(gg g5 [0,3] rfl rfl).trans k3;have k4':=(gg g5 [0,4] rfl rfl).trans k4;have k5':=(gg g5 [0,5] rfl rfl).trans k5;replace gg:=AA.mk gg
    (repeat' (first|simp only[go_sem, *,B3]|(refine sx ?_ ?_<;>intro hc)|refine sy (by omega) fun x hx hm=>?_|simp(disch:=first|assumption|omega) only[wrap_id,AK,AH,slice_int]))
    rw[U3 h0 kx,kd];rfl
 .obtain rfl:=hpost.bad h0;have h2:=AA.mk (Py h0);have hc:=AA.mk (AAK x h0)
  (refine Ay rfl Tryz.func21 rfl rfl rfl ?_;show Wp _ _ _ _ (Tryz.f21.body.get rfl) _ _;simp only[Tryz.f21,Option.get_some])
  (repeat' (first|simp only[go_sem, *,B3]|(refine sx ?_ ?_<;>intro hc)|refine sy (by omega) fun x hx hm=>?_|simp(disch:=first|assumption|omega) only[wrap_id,AK,AH,slice_int]))
  rw[hc.out];rfl
end Go.Proofs
namespace Go.Proofs
open Go Go.Abs
set_option maxRecDepth 100000
set_option maxHeartbeats 4000000
theorem LP(a:List Cc)(ha:a.length≤1000000):BM (KL Tryz.prog cfg) 57 [.d (.lst (a.map AN)),.d (.lst (a.map AN))] []=.ok (.ret (.d (.bool (true))),[]):=by
 (refine Ay rfl Tryz.func57 rfl rfl rfl ?_;show Wp _ _ _ _ (Tryz.f57.body.get rfl) _ _;simp only[Tryz.f57,Option.get_some])
 refine aw ?_;refine C8 a (S:=fun i (_:Unit)=>⟨[(0,.d (.lst (a.map AN))),(1,.d (.lst (a.map AN))),(5,.d (.int .i64 (i)))],[],0,[]⟩)
  (Inv:=fun i rest _=>True) (b0:=()) trivial ?_ ?_
 .rintro i y _ hy hi him hI IH;have hil:i<a.length:=by omega
  have w1:IntKind.i64.wrap ((i:Int)+1)=(i:Int)+1:=wrap_id (by omega) (by omega);refine aw ?_;exact IH.out () trivial
 .rintro i _ hi him hI;exact au
theorem Vl(a:List (List Cc))(ha:a.length≤1000000)(hm: ∀m∈a,m.length≤1000000):BM (KL Tryz.prog cfg) 37 [.d (.lst (a.map BG)),.d (.lst (a.map BG))] []=.ok (.ret (.d (.bool (true))),[]):=by
 replace hm:=AA.mk hm
 (refine Ay rfl Tryz.func37 rfl rfl rfl ?_;show Wp _ _ _ _ (Tryz.f37.body.get rfl) _ _;simp only[Tryz.f37,Option.get_some])
 refine aw ?_;refine C8 a (S:=fun i (_:Unit)=>⟨[(0,.d (.lst (a.map BG))),(1,.d (.lst (a.map BG))),(5,.d (.int .i64 (i)))],[],0,[]⟩)
  (Inv:=fun i rest _=>True) (b0:=()) trivial ?_ ?_
 .rintro i y _ hy hi him hI IH;have hil:i<a.length:=by omega
  have w1:IntKind.i64.wrap ((i:Int)+1)=(i:Int)+1:=wrap_id (by omega) (by omega);have hv:=LP y (hm.out y (List.mem_of_getElem? hy));refine aw ?_;exact IH.out () trivial
 .rintro i _ hi him hI;exact au
structure A8.fits(s:A8):Prop where
 spots:s.spots.length≤1000000
 groups:s.groups.length≤1000000
 chans:s.chans.length≤1000000
 waits:s.waits.length≤1000000
 envs: ∀g∈s.groups,g.env.length≤1000000
 ques: ∀q∈s.chans,q.queue.length≤1000000∧ ∀m∈q.queue,m.length≤1000000
 wenv: ∀w∈s.waits,w.env.length≤1000000
theorem yy(s:A8)(h:s.fits):BM (KL Tryz.prog cfg) 23 [sA s,sA s] []=.ok (.ret (.d (.bool (true))),[]):=by
 obtain⟨h1,h2,h3,h4,h5,h6,h7⟩:=h;replace h5:=AA.mk h5;replace h6:=AA.mk h6;replace h7:=AA.mk h7
 (refine Ay rfl Tryz.func23 rfl rfl rfl ?_;show Wp _ _ _ _ (Tryz.f23.body.get rfl) _ _;simp only[Tryz.f23,Option.get_some])
 refine aw ?_;refine C8 s.spots (S:=fun i (_:Unit)=>⟨[(2,.ptr [0,0] 0),(3,.ptr [0,1] 0),(5,.d (.int .i64 (i)))],[([0,0],.box [.d (.lst (s.spots.map Af)),.d (.lst (s.groups.map A3)),.d (.lst (s.chans.map CK)),.d (.lst (s.waits.map AR))]),([0,1],.box [.d (.lst (s.spots.map Af)),.d (.lst (s.groups.map A3)),.d (.lst (s.chans.map CK)),.d (.lst (s.waits.map AR))])],2,[]⟩)
  (Inv:=fun i rest _=>True) (b0:=()) trivial ?_ ?_
 .rintro i y _ hy hi him hI IH;have hil:i<s.spots.length:=by omega
  have hbb:(y.dead==y.dead)=true:=by simp
  have w1:IntKind.i64.wrap ((i:Int)+1)=(i:Int)+1:=wrap_id (by omega) (by omega);refine aw ?_;exact IH.out () trivial
 rintro i _ hi him hI;clear hi;refine aw ?_;refine C8 s.groups (S:=fun i (_:Unit)=>⟨[(2,.ptr [0,0] 0),(3,.ptr [0,1] 0),(6,.d (.int .i64 (i)))],[([0,0],.box [.d (.lst (s.spots.map Af)),.d (.lst (s.groups.map A3)),.d (.lst (s.chans.map CK)),.d (.lst (s.waits.map AR))]),([0,1],.box [.d (.lst (s.spots.map Af)),.d (.lst (s.groups.map A3)),.d (.lst (s.chans.map CK)),.d (.lst (s.waits.map AR))])],2,[]⟩)
  (Inv:=fun i rest _=>True) (b0:=()) trivial ?_ ?_
 .rintro i y _ hy hi him hI IH;have hil:i<s.groups.length:=by omega
  have w1:IntKind.i64.wrap ((i:Int)+1)=(i:Int)+1:=wrap_id (by omega) (by omega);have hv:=LP y.env (h5.out y (List.mem_of_getElem? hy));refine aw ?_;exact IH.out () trivial
 rintro i _ hi him hI;clear hi;refine aw ?_;refine C8 s.chans (S:=fun i (_:Unit)=>⟨[(2,.ptr [0,0] 0),(3,.ptr [0,1] 0),(7,.d (.int .i64 (i)))],[([0,0],.box [.d (.lst (s.spots.map Af)),.d (.lst (s.groups.map A3)),.d (.lst (s.chans.map CK)),.d (.lst (s.waits.map AR))]),([0,1],.box [.d (.lst (s.spots.map Af)),.d (.lst (s.groups.map A3)),.d (.lst (s.chans.map CK)),.d (.lst (s.waits.map AR))])],2,[]⟩)
  (Inv:=fun i rest _=>True) (b0:=()) trivial ?_ ?_
 .rintro i y _ hy hi him hI IH;have hil:i<s.chans.length:=by omega
  have w1:IntKind.i64.wrap ((i:Int)+1)=(i:Int)+1:=wrap_id (by omega) (by omega);have hv:=Vl y.queue (h6.out y (List.mem_of_getElem? hy)).1 (h6.out y (List.mem_of_getElem? hy)).2;refine aw ?_;exact IH.out () trivial
 rintro i _ hi him hI;clear hi;refine aw ?_;refine C8 s.waits (S:=fun i (_:Unit)=>⟨[(2,.ptr [0,0] 0),(3,.ptr [0,1] 0),(8,.d (.int .i64 (i)))],[([0,0],.box [.d (.lst (s.spots.map Af)),.d (.lst (s.groups.map A3)),.d (.lst (s.chans.map CK)),.d (.lst (s.waits.map AR))]),([0,1],.box [.d (.lst (s.spots.map Af)),.d (.lst (s.groups.map A3)),.d (.lst (s.chans.map CK)),.d (.lst (s.waits.map AR))])],2,[]⟩)
  (Inv:=fun i rest _=>True) (b0:=()) trivial ?_ ?_
 .rintro i y _ hy hi him hI IH;have hil:i<s.waits.length:=by omega
  have w1:IntKind.i64.wrap ((i:Int)+1)=(i:Int)+1:=wrap_id (by omega) (by omega);have hv:=LP y.env (h7.out y (List.mem_of_getElem? hy));refine aw ?_;exact IH.out () trivial
 rintro i _ hi him hI;clear hi;exact au
theorem ny:Eu.fits:=⟨by decide,by decide,by decide,by decide,by simp[Eu],by simp[Eu],by simp[Eu]⟩
theorem yi:BM (KL Tryz.prog cfg) 30 [sA Eu,.d (.lst [])] []=.ok (.ret (.d (.bool (true))),[]):=by
 have h1:=yy Eu ny;simp only[sA,Eu,List.map_nil]at h1⊢
 (refine Ay rfl Tryz.func30 rfl rfl rfl ?_;show Wp _ _ _ _ (Tryz.f30.body.get rfl) _ _;simp only[Tryz.f30,Option.get_some])
 exact au
end Go.Proofs
namespace Go.Proofs
open Go Go.Abs
theorem Pd: ∀(l:List Nat),(Ct l).Nodup
 |[]=>by simp[Ct]
 |n::l=>by
  rw[Ct,List.Nodup,List.pairwise_flatMap];refine⟨fun i _=>List.pairwise_map.2 ((Pd l).imp fun h e=>h (List.cons.inj e).2),List.nodup_range.imp fun{a b} hab x hx y hy e=>?_⟩;obtain⟨t,_,rfl⟩:=List.mem_map.1 hx;obtain⟨u,_,rfl⟩:=List.mem_map.1 hy;have:=(List.cons.inj e).1;exact hab (by omega)
theorem O9(p:AJ)(s:A8): ∀(l:List E7) (i:Nat) (x:CJ),x∈CC p s i l→ ∃j:Nat,i≤j∧x=⟨j,0,0,[]⟩
 |[],i,x,h=>by cases h
 |w::l,i,x,h=>by
  rw[CC,List.mem_append]at h;rcases h with h|h
  .split at h
   .exact⟨i,Nat.le_refl _,List.mem_singleton.1 h⟩
   .cases h
  .obtain⟨j,h1,h2⟩:=O9 p s l (i+1) x h;exact⟨j,by omega,h2⟩
theorem OC(p:AJ)(s:A8): ∀(l:List E7) (i:Nat),(CC p s i l).Nodup
 |[],i=>by simp[CC]
 |w::l,i=>by
  rw[CC,List.nodup_append];refine⟨by split<;>simp,OC p s l (i+1),fun a ha b hb e=>?_⟩;subst e;obtain⟨j,h1,h2⟩:=O9 p s l (i+1) a hb;split at ha
  .rw[List.mem_singleton]at ha;rw[ha]at h2;have:=congrArg CJ.wait h2;dsimp only at this;omega
  .cases ha
theorem MA{s:A8}{d:CH}{g:Ah}{i:Nat}: ∀(l:List FP) (k:Nat) (x:CJ),x∈BX s d g i k l→ ∃j:Nat,k≤j∧ ∃t,x=⟨-1,i,j,t⟩
 |[],k,x,h=>by cases h
 |r::l,k,x,h=>by
  rw[BX,List.mem_append]at h;rcases h with h|h
  .obtain⟨t,_,rfl⟩:=List.mem_map.1 h;exact⟨k,Nat.le_refl _,t,rfl⟩
  .obtain⟨j,h1,h2⟩:=MA l (k+1) x h;exact⟨j,by omega,h2⟩
theorem Vk(s:A8)(d:CH)(g:Ah)(r:FP):(DQ s d g r).Nodup:=by
 rw[DQ];split
 .exact .nil
 .exact Pd _
theorem N6{s:A8}{d:CH}{g:Ah}{i:Nat}: ∀(l:List FP) (k:Nat),(BX s d g i k l).Nodup
 |[],k=>.nil
 |r::l,k=>by
  rw[BX,List.nodup_append];refine⟨List.pairwise_map.2 ((Vk s d g r).imp fun h e=>h (CJ.mk.inj e).2.2.2),N6 l (k+1),fun a ha b hb e=>?_⟩;subst e;obtain⟨t,_,rfl⟩:=List.mem_map.1 ha;obtain⟨j,h1,u,h2⟩:=MA l (k+1) _ hb;have:=congrArg CJ.rule h2;dsimp only at this;omega
theorem Ob(p:AJ)(s:A8): ∀(l:List Ah) (i:Nat) (x:CJ),x∈CL p s i l→ ∃j:Nat,i≤j∧x.wait= -1∧x.group=j
 |[],i,x,h=>by cases h
 |g::l,i,x,h=>by
  rw[CL,List.mem_append]at h;rcases h with h|h
  .split at h
   .obtain⟨j,_,t,rfl⟩:=MA _ _ _ h;exact⟨i,Nat.le_refl _,rfl,rfl⟩
   .cases h
  .obtain⟨j,h1,h2⟩:=Ob p s l (i+1) x h;exact⟨j,by omega,h2⟩
theorem Nf(p:AJ)(s:A8): ∀(l:List Ah) (i:Nat),(CL p s i l).Nodup
 |[],i=>.nil
 |g::l,i=>by
  rw[CL,List.nodup_append];refine⟨by split;exact N6 _ _;exact .nil,Nf p s l (i+1),fun a ha b hb e=>?_⟩;subst e;obtain⟨j,h1,_,h2⟩:=Ob p s l (i+1) a hb;split at ha
  .obtain⟨k,_,t,rfl⟩:=MA _ _ _ ha;dsimp only at h2;omega
  .cases ha
theorem ZN(p:AJ)(s:A8):(Au p s).Nodup:=by
 rw[Au,List.nodup_append];refine⟨OC p s _ 0,Nf p s _ 0,fun a ha b hb e=>?_⟩;subst e;obtain⟨j,_,rfl⟩:=O9 p s _ 0 a ha;obtain⟨k,_,h,_⟩:=Ob p s _ 0 _ hb;dsimp only at h;omega
theorem eA{p:AJ}{s:A8}{i k:Nat}{x y:CJ}(hx:(Au p s)[i]? =some x)(hy:(Au p s)[k]? =some y)(h:k<i): ¬y=x:=fun e=>by
 subst e;obtain⟨h1,h2⟩:=List.getElem?_eq_some_iff.1 hx;obtain⟨h3,h4⟩:=List.getElem?_eq_some_iff.1 hy;exact List.pairwise_iff_getElem.1 (ZN p s) k i h3 h1 h (h4.trans h2.symm)
theorem yh{p:AJ}{s:A8}:(⟨(s.waits.length:Int),0,0,[]⟩:CJ) ∉Au p s:=fun h=>by
 have h2:=P6.1 h;generalize hx:(⟨(s.waits.length:Int),0,0,[]⟩:CJ)=x at h2;cases h2 with
 | @wait i w h1 _=>
   have:=congrArg CJ.wait hx;dsimp only at this;have:=AI h1;omega
 |rule _ _ _ _ _=>
  have:=congrArg CJ.wait hx;dsimp only at this;omega
theorem tn{p:AJ}{s:A8}{x:CJ}(h:Bh p s=0)(hx:x∈Au p s){st:CU}(hd:Dn p s x=some st):Bh p st.sol=0∧st.ev≠ []∧st.ev.length≤401:=by
 obtain⟨l,hf⟩:=NV h;obtain⟨h1,h2,h3⟩:=nR hf.formed hf.sok (P6.1 hx) hd;refine⟨?_,h2,h3⟩;rw[Bh,hf.looks];simp[ABa h1]
end Go.Proofs
