/-
  Parts: SolH4 SolG6 SolG7 SolL6 SolC5 SolC6 SolC7 SolH5 SolF3 SolF4 SolF5 SolG8.
-/
import Derived.Test.YtbinfhpngacfgaaGreatCo10
import Derived.Test.YtbinfhpngacfgaaGreatCo11
set_option linter.all false
set_option linter.unusedSimpArgs false
set_option linter.unusedVariables false
namespace Go.Abs
def Lh(ds:List Df):Prop:= ∀d∈ds,∃id,d=.mark id
theorem O5:Lh []=True:=by simp[Lh]
theorem Me(id:Id)(ds:List Df):Lh (.mark id::ds)=Lh ds:=by simp[Lh]
theorem La{C:Bk}{prot:Option (List Nat)}{p:Option AV}{h:AB}: ∀{ds:List Df},Lh ds→CD C prot ds p h=.ok (p,h)
 |[],_=>rfl
 |d::ds,hd=>by
  obtain⟨id,rfl⟩:=hd d (by simp);rw[MY];exact La fun d hd2=>hd d (by simp[hd2])
attribute [go_sem] O5 Me La
theorem bR(id:Id):(AV.yld id).cells=[.yld id]:=rfl
theorem dt(id:Id):AV.isCell (.yld id)=true:=rfl
attribute [go_sem] bR dt
end Go.Abs
namespace Go.Proofs
open Go Go.Abs
set_option maxRecDepth 100000
set_option maxHeartbeats 4000000
def Wi(H:AB)(v:AV)(x:C9):Prop:= ∃pv,v=.agg [.d (.int .i64 (x.wait)),.d (.int .i64 (x.group)),.d (.int .i64 (x.rule)),pv]∧((pv=.nils∧x.picks=[])∨XA H pv x.picks)
structure StepsIn(C:Abs.Id→Prop)(I:List C9→AB→Prop)(π:List Nat)(h:AB)(id:Abs.Id)(L:List C9)(g:AB):Prop where
 box:g.get (0::0::π)=some (.box [.yld id])
 eat:I L g
 frame: ∀i,¬C i→Id.under π i=false→g.get i=h.get i
structure Pq(C:Abs.Id→Prop)(I:List C9→AB→Prop)(π:List Nat)(h:AB)(id:Abs.Id)(b c:Nat)(i k:Int)(gr:Ae)(L:List C9)(g:AB):Prop where
 st:StepsIn C I π h id L g
 x6:g.get (0::(b+20)::π)=some (.box [.d (.int .i64 (i))])
 x7:g.get (0::(b+21)::π)=some (.box [.d (.int .i64 (gr.def_)),.d (.int .i64 (gr.at_)),.d (.lst (gr.env.map Ac))])
 x8:g.get (0::(c+40)::π)=some (.box [.d (.int .i64 (k))])
theorem Pq.loc{C:Abs.Id→Prop}{I:List C9→AB→Prop}{D:AQ→AB→Prop}{π:List Nat}{h:AB}{id:Abs.Id}(hE:N8 Wi id C I D π){b c:Nat}{i k:Int}{gr:Ae}{L:List C9}{g H:AB}(hJ:Pq C I π h id b c i k gr L g)(hl: ∀x,(∀n,Id.is (1::n::π) x=false)→H.get x=g.get x):Pq C I π h id b c i k gr L H:=by
 have h0: ∀l,H.get (0::l)=g.get (0::l):=fun l=>hl _ fun n=>AM (by simp);exact⟨⟨(h0 _).trans hJ.st.box,hE.same hJ.st.eat fun i hi=>hl i fun n=>AI hi 1 n,fun i q1 q2=>(hl i fun n=>AI q2 1 n).trans (hJ.st.frame i q1 q2)⟩,(h0 _).trans hJ.x6,(h0 _).trans hJ.x7,(h0 _).trans hJ.x8⟩
theorem Pq.mv{C:Abs.Id→Prop}{I:List C9→AB→Prop}{π:List Nat}{h:AB}{id:Abs.Id}{b c:Nat}{i k:Int}{gr:Ae}{L L':List C9}{g H:AB}(hJ:Pq C I π h id b c i k gr L g)(hI:I L' H)(hb: ∀n,n=0∨n=b+20∨n=b+21∨n=c+40→H.get (0::n::π)=g.get (0::n::π))(hf: ∀i,¬C i→Id.under π i=false→H.get i=g.get i):Pq C I π h id b c i k gr L' H:=
 ⟨⟨(hb _ (by simp)).trans hJ.st.box,hI,fun i q1 q2=>(hf i q1 q2).trans (hJ.st.frame i q1 q2)⟩,(hb _ (by simp)).trans hJ.x6,(hb _ (by simp)).trans hJ.x7,(hb _ (by simp)).trans hJ.x8⟩
theorem aZ{K:AH}{prot:Option (List Nat)}{ρ ρ2:List Nat}{id2:Abs.Id}{e:BI}{bs:Nat}{ds:List Df}{Q:Cq→St→Prop}{t:nI}{args:List AV}{H:AB}{x:Abs.Id×Abs.Obj}{r:Lp}(hn: ∀r',r'=r→Ez ρ ρ2 id2 e bs ds Q (K t args (x::H.put id2 (.loop r')) ρ2 true prot)):Ez ρ ρ2 id2 e bs ds Q (K t args (x::H.put id2 (.loop r)) ρ2 true prot):=hn r rfl
theorem S1(L:List Int)(k:Nat)(ρ:List Nat):Au (KL Tryz.prog cfg) 96 [.d (.lst (L.map AG))] (k::ρ)=.ok (.ret (.fn 158 [] [.ptr (0::0::k::ρ) 0]),[(0::0::k::ρ,.box [.d (.lst (L.map AG))])]):=by
 (refine AU rfl Tryz.func96 rfl rfl rfl ?_;show Wp _ _ _ _ (Tryz.f96.body.get rfl) _ _;simp only[Tryz.f96,Option.get_some])
 exact au
theorem R4{p:AL}{sz:List Int}(hF:Dz p sz){h:AB}{π:List Nat}{m:Abs.Id}{V:MV}{st:QL}(hM:Jn p sz h m V st)(hu:GM π V m)(hs:TT p sz st.sol){id:Abs.Id}{C:Abs.Id→Prop}{I:List C9→AB→Prop}{D:AQ→AB→Prop}(hE:N8 Wi id C I D π)(hCV: ∀i∈V.ids m,¬C i)(hI:I (BE p st.sol) h):
 ∃o h',KL Tryz.prog cfg (.fn 52) [.ptr m 0,.yld id] h π true none=.ok (o,h')∧mh C I D π h o h':=by
 have uC:=hE.apart;have hm:=hM.box;simp only[JI]at hm;have um:=hu m (V.m_mem m);have e1:=AI um;have e2:=Ao um;have hss:=hs.small;simp only[Bz.small,Bool.and_eq_true,decide_eq_true_eq]at hss;obtain⟨s1,s2,s3,s4⟩:=hss;have hl2:=L4 (hM.sl 2 (by omega));simp only[WA,List.length_map]at hl2;have uid:=uC id hE.own;have i1:=AI uid;replace hM:=AA.mk hM;replace hu:=AA.mk hu;replace hE:=AA.mk hE;replace hCV:=AA.mk hCV;replace uC:=AA.mk uC;replace hs:=AA.mk hs
 (refine A0 rfl Tryz.func52 rfl rfl rfl ?_;show Wp _ _ _ _ (Tryz.f52.body.get rfl) _ _;simp only[Tryz.f52,Option.get_some])
 (repeat' (first|simp only[go_sem, *,↓hl2,Bool.false_eq_true]|(refine sx ?_ ?_<;>intro hc)|refine sy (by omega) fun x hx hm=>?_|simp(disch:=first|assumption|omega) only[wrap_id,AF,AC,slice_int]))
 have hW:AA (BE p st.sol=BQ p st.sol 0 st.sol.waits++Bg p st.sol 0 st.sol.groups):=⟨rfl⟩;obtain⟨G,hG⟩: ∃G,G=Bg p st.sol 0 st.sol.groups:=⟨_,rfl⟩;rw[←hG]at hW;rw[hW.out]at hI;replace hI:=AA.mk hI;refine AO st.sol.waits _ (S:=fun m' i (a:AB×Nat)=>⟨[(0,.ptr m 0),(3,.ptr (0::0::π) 0),(13,BI.get [] 13),(18,V.s 2),(19,.d (.int .i64 (m'))),(20,.d (.int .i64 (i))),(102,BI.get [] 102),(103,BI.get [] 103),(104,BI.get [] 104),(105,BI.get [] 105),(106,BI.get [] 106),(107,BI.get [] 107),(108,BI.get [] 108),(109,BI.get [] 109)],a.1,a.2+8,[]⟩)
  (Inv:=fun i rest a=>AA (StepsIn C I π h id (BQ p st.sol i rest++G) a.1)) (b0:=(_,0)) rfl ⟨⟨?_,hE.out.same hI.out fun i hi=>?_,fun i q1 q2=>?_⟩⟩ ?_ ?_
 .simp only[go_sem]
 .have q:=AI hi;simp only[go_sem,q,Bool.false_eq_true]
 .have q:=AI q2;simp only[go_sem,q,Bool.false_eq_true]
 .rintro i w ⟨g,b⟩ hy hi him hI2 IH;dsimp only at*;obtain⟨x,hw⟩:=Wz hF (hs.out.wait w (List.mem_of_getElem? hy));have hM2:=EL hM.out (h':=g) fun i hi=>hI2.out.frame i (hCV.out i hi) (hu.out i hi);obtain⟨W,xs,hWs,gW,xW,lW,lW2⟩:=P3 (hM2.sl 2 (by omega)) hy;have uW:=hu.out W (V.s_mem m (i:=2) (by omega) (by rw[hWs];simp[AE]));have a3:=AI uW;have a4:=Ao uW;have gB:=hI2.out.box;simp only[ca]at gW;rw[hWs]at IH⊢;replace hM2:=AA.mk hM2;replace hWs:=AA.mk hWs;have hx2:=AA.mk hw;clear hw;have hgo:=AA.mk fun H hH=>dw (T0 hM2.out hu.out (h':=H) hH) (hu.out.ext (b+17)) hs.out hx2.out;have box0:=AA.mk hI2.out.box;have hIe:=hI2.out.eat;rw[BQ]at hIe;obtain⟨rest,hrest⟩: ∃t,t=BQ p st.sol (i+1) (st.sol.waits.drop (i+1))++G:=⟨_,rfl⟩;have hI2f:=AA.mk hI2.out.frame;obtain⟨r,hr⟩:=hE.out.loop hIe;rw[List.append_assoc,←hrest]at hIe;replace hIe:=AA.mk hIe;replace hrest:=AA.mk hrest;have i2:=jh uid;refine ax ?_;refine D0 (hgo.out _ fun i hi=>?_) (fun o1 g1 p1=>?_)
  .have q:=AI hi;simp only[go_sem,q,Bool.false_eq_true]
  subst p1;replace hI2:=AA.mk hI2;clear hgo;have same: ∀o o':Abs.Obj,∀i,Id.under π i=false→((g.put (0::(b+12)::π) o).put (0::(b+12)::π) o').get i=g.get i:=fun o o' i hi=>by
   rw[get_put,get_put,AI hi];rfl
  replace same:=AA.mk same;cases hg:goes p st.sol w with
  |true=>
   rw[hg]at hIe;replace hg:=AA.mk hg;refine ax ?_;refine Ax (hE.out.eat (x:=⟨i,0,0,[]⟩) (l:=rest) (hE.out.same hIe.out fun i hi=>same.out _ _ i hi) (by rw[same.out _ _ _ uid];exact hr) ⟨_,rfl,.inl ⟨rfl,rfl⟩⟩ (fun i hi=>AD hi _) (fun i hi=>by simp[AE,An]at hi)) (fun o1 g1 p1=>?_);rcases p1 with⟨rfl,p1,p2⟩|⟨p0,p1,_⟩
   .have frm:AA (∀i,¬C i→Id.under π i=false→(gc ((b+22)::π) g1).get i=h.get i):=⟨fun i q1 q2=>by rw[Aj _ _ _ (AD q2 _),p2 i q1 (AD q2 _),same.out _ _ i q2];exact hI2f.out i q1 q2⟩;have nC: ¬C (0::0::π):=fun hc=>by have:=uC.out _ hc;rw[show Id.under π (0::0::π)=true from Dm [0,0]]at this;cases this
    have box2:(gc ((b+22)::π) g1).get (0::0::π)=some (.box [.yld id]):=by
     rw[Aj _ _ _ (Bd π (by omega)),p2 _ nC (Bd π (by omega))];rw[get_put,get_put,AM (by simp)];exact box0.out
    clear p2;replace box0:=AA.mk box2;replace p1:=AA.mk (hE.out.gcI p1 (b+22));refine ax ?_;refine IH.out (_,b+19) ⟨⟨box0.out,?_,frm.out⟩⟩;rw[←hrest.out];exact p1.out
   .replace p1:=AA.mk (hE.out.gcD p1 (b+22));rcases p0 with rfl|⟨v,rfl⟩
    .refine ax ?_;exact .inr (.inl ⟨rfl,p1.out⟩)
    .refine ax ?_;exact .inr (.inr ⟨⟨v,rfl⟩,p1.out⟩)
  |false=>
   rw[hg]at hIe;replace hg:=AA.mk hg;refine ax ?_;refine IH.out (_,b+19) ⟨⟨?_,?_,fun i q1 q2=>(same.out _ _ i q2).trans (hI2f.out i q1 q2)⟩⟩
   .dsimp only;rw[get_put,get_put,AM (by simp)];exact box0.out
   .rw[←hrest.out];exact hE.out.same hIe.out fun i hi=>same.out _ _ i hi
 .rintro i ⟨g,b⟩ hi him hI2;dsimp only at*;have hM2:=EL hM.out (h':=g) fun i hi=>hI2.out.frame i (hCV.out i hi) (hu.out i hi);have hm2:=hM2.box;simp only[JI]at hm2;have gB:=hI2.out.box;have hl1:=L4 (hM2.sl 1 (by omega));simp only[WA,List.length_map]at hl1;replace hM2:=AA.mk hM2;rw[BQ,List.nil_append,hG]at hI2;clear hI hW hG hl2 hi
  (repeat' (first|simp only[go_sem, *,↓hl1,Bool.false_eq_true]|(refine sx ?_ ?_<;>intro hc)|refine sy (by omega) fun x hx hm=>?_|simp(disch:=first|assumption|omega) only[wrap_id,AF,AC,slice_int]))
  refine AO st.sol.groups _ (S:=fun m' i (a:AB×Nat×List Df)=>⟨[(0,.ptr m 0),(3,.ptr (0::0::π) 0),(13,BI.get [] 13),(40,V.s 1),(41,.d (.int .i64 (m'))),(42,.d (.int .i64 (i))),(102,BI.get [] 102),(103,BI.get [] 103),(104,BI.get [] 104),(105,BI.get [] 105),(106,BI.get [] 106),(107,BI.get [] 107),(108,BI.get [] 108),(109,BI.get [] 109)],a.1,a.2.1+16,a.2.2⟩)
   (Inv:=fun i rest a=>AA (StepsIn C I π h id (Bg p st.sol i rest) a.1)∧Lh a.2.2) (b0:=(_,b,[])) rfl ⟨hI2,by rw[O5];trivial⟩ ?_ ?_
  .clear hM2 hm2 gB hl1 hI2;clear him i g;clear b;rintro i gr ⟨g,b,ds⟩ hy hi him ⟨hI2,hds⟩ IH;have b1: ¬b+1=b:=by omega
   have b3: ¬b=b+1:=by omega
   dsimp only at*;obtain⟨d,hd⟩:=hs.out.grp i gr hy;obtain⟨g0,hdd⟩:=I3 hd.def_;have hdl:=AK hdd;have hdr:=(C4 hF hdd).ok.rules;have hM2:=EL hM.out (h':=g) fun i hi=>hI2.out.frame i (hCV.out i hi) (hu.out i hi);have hm2:=hM2.box;simp only[JI]at hm2;obtain⟨W,xs,hWs,gW,xW,lW,lW2⟩:=P3 (hM2.sl 1 (by omega)) hy;have uW:=hu.out W (V.s_mem m (i:=1) (by omega) (by rw[hWs];simp[AE]));have a3:=AI uW;have a4:=Ao uW;have gB:=hI2.out.box;simp only[ca]at gW;rw[hWs]at IH⊢;replace hM2:=AA.mk hM2;replace hWs:=AA.mk hWs;replace hd:=AA.mk hd;refine ax ?_;have hg2:AA (Bg p st.sol i (gr::st.sol.groups.drop (i+1))=BM st.sol d gr i 0 d.rules++Bg p st.sol (i+1) (st.sol.groups.drop (i+1))):=⟨by rw[Bg,hd.out.def_]⟩;have same: ∀o1 o2 o3 o4:Abs.Obj,∀i,Id.under π i=false→((((g.put (0::(b+20)::π) o1).put (0::(b+21)::π) o2).put (0::(b+20)::π) o3).put (0::(b+21)::π) o4).get i=g.get i:=fun o1 o2 o3 o4 i hi=>by
    rw[get_put,get_put,get_put,get_put,AI hi,AI hi];rfl
   obtain⟨R,hR⟩: ∃R,R=Bg p st.sol (i+1) (st.sol.groups.drop (i+1)):=⟨_,rfl⟩;rw[←hR]at hg2;rw[hg2.out]at hI2;refine AO d.rules _ (S:=fun m' k (a:AB×Nat×List Df)=>⟨[(0,.ptr m 0),(3,.ptr (0::0::π) 0),(6,.ptr (0::(b+20)::π) 0),(7,.ptr (0::(b+21)::π) 0),(13,BI.get [] 13),(40,.osl W 0 st.sol.groups.length),(41,.d (.int .i64 (st.sol.groups.length))),(42,.d (.int .i64 (i))),(56,.d (.lst (d.rules.map Am))),(57,.d (.int .i64 (m'))),(58,.d (.int .i64 (k))),(102,BI.get [] 102),(103,BI.get [] 103),(104,BI.get [] 104),(105,BI.get [] 105),(106,BI.get [] 106),(107,BI.get [] 107),(108,BI.get [] 108),(109,BI.get [] 109)],a.1,a.2.1+36,a.2.2⟩)
    (Inv:=fun k rest a=>AA (StepsIn C I π h id (BM st.sol d gr i k rest++R) a.1)∧a.1.get (0::(b+20)::π)=some (.box [.d (.int .i64 (i))])∧a.1.get (0::(b+21)::π)=some (.box [.d (.int .i64 (gr.def_)),.d (.int .i64 (gr.at_)),.d (.lst (gr.env.map Ac))])∧b≤a.2.1∧Lh a.2.2) (b0:=(_,b,ds)) rfl ⟨⟨⟨?_,hE.out.same hI2.out.eat fun i hi=>same _ _ _ _ i hi,fun i q1 q2=>(same _ _ _ _ i q2).trans (hI2.out.frame i q1 q2)⟩⟩,?_,?_,Nat.le_refl _,hds⟩ ?_ ?_
   .dsimp only;rw[get_put,get_put,get_put,get_put,AM (by simp),AM (by simp)];exact gB
   .simp only[go_sem,b1,b3]
   .simp only[go_sem,b1,b3]
   .clear hg2 same hI2 hm2 gB gW a3 a4 xW lW lW2;clear hM2;clear hds ds;rintro k r ⟨g2,c,ds⟩ hr hk hkm ⟨hI3,x6,x7,hbc,hds⟩ IHk;dsimp only at*;have hri:=KM hF hs.out hy hd.out (List.mem_of_getElem? hr);have hM2:=EL hM.out (h':=g2) fun i hi=>hI3.out.frame i (hCV.out i hi) (hu.out i hi);have hm2:=hM2.box;simp only[JI]at hm2;have hl1:=L4 (hM2.sl 1 (by omega));have r0:=hri.place.1;have r1:=hri.place.2;obtain⟨y,hyp⟩:=get_some (l:=st.sol.spots) (i:=(gr.place d r.at_).toNat) (by omega);obtain⟨S,ys,hSs,gS,xS,lS,lS2⟩:=P3 (hM2.sl 0 (by omega)) hyp;have uS:=hu.out S (V.s_mem m (i:=0) (by omega) (by rw[hSs];simp[AE]));have a3:=AI uS;have a4:=Ao uS;have c1: ¬c+1=c:=by omega
    have c0: ¬c=c+1:=by omega
    have hpl:=AA.mk fun(H:AB) (n:Nat) (hH:H.get m=g2.get m)=>Oz (ds:=p.defs) (g:=gr) (d:=d) (hH.trans hm2) (AD um n) g0 hdd (C4 hF hdd).ok.chans (C4 hF hdd).ok.spots (L5 hd.out) (QD hF hd.out) r.at_ hri.at0 hri.at1;have c2: ¬c+20=b:=by omega
    have c3: ¬c+19=b:=by omega
    have c4: ¬c+21=b:=by omega
    have c5: ¬b=c+20:=by omega
    have c6: ¬b=c+19:=by omega
    have c7: ¬b=c+21:=by omega
    simp only[ca]at gS;rw[hSs]at hm2;have same2: ∀o1 o2 o3 o4:Abs.Obj,∀i,Id.under π i=false→((((g2.put (0::(c+40)::π) o1).put (0::(c+41)::π) o2).put (0::(c+40)::π) o3).put (0::(c+41)::π) o4).get i=g2.get i:=fun o1 o2 o3 o4 i hi=>by
     rw[get_put,get_put,get_put,get_put,AI hi,AI hi];rfl
    replace hM2:=AA.mk hM2;replace hri:=AA.mk hri;refine ax ?_;refine KX (hpl.out _ _ ?_) (fun o1 g1 p1=>?_)
    .simp only[go_sem,e1,Bool.false_eq_true]
    subst p1;cases hyd:y.dead with
    |true=>
     have hz:AA (I (BM st.sol d gr (i:Nat) (k+1) (d.rules.drop (k+1))++R) g2):=⟨by
      have:=hI3.out.eat
      rwa [BM,CV,if_pos (by rw[A5,hyp];exact hyd),List.map_nil,List.nil_append]at this⟩
     refine ax ?_;refine IHk.out (_,c+23,ds) ⟨⟨⟨?_,hE.out.same hz.out fun i hi=>same2 _ _ _ _ i hi,fun i q1 q2=>(same2 _ _ _ _ i q2).trans (hI3.out.frame i q1 q2)⟩⟩,?_,?_,by dsimp only;omega,hds⟩
     .dsimp only;rw[get_put,get_put,get_put,get_put,AM (by simp),AM (by simp)];exact hI3.out.box
     .simp only[go_sem,x6,c0,c1,c2,c3,c4,c5,c6,c7]
     .simp only[go_sem,x7,c0,c1,c2,c3,c4,c5,c6,c7]
    |false=>
     refine ax ?_;obtain⟨g3,hg3⟩: ∃g3,g3=((((g2.put (0::(c+40)::π) (.box [.d (.int .i64 (0))])).put (0::(c+41)::π) (.box [.d (.int .i64 (0)),.nils,.d (.int .i64 (0))])).put (0::(c+40)::π) (.box [.d (.int .i64 (k))])).put (0::(c+41)::π) (.box [.d (.int .i64 (r.at_)),.d (.lst (r.joins.map AG)),.d (.int .i64 (r.node))])):=⟨_,rfl⟩;rw[←hg3];have hgs: ∀i,Id.under π i=false→g3.get i=g2.get i:=fun i hi=>by rw[hg3];exact same2 _ _ _ _ i hi
     have hJ0:Pq C I π h id b c i k gr (BM st.sol d gr i k (r::d.rules.drop (k+1))++R) g3:=by
      refine⟨⟨?_,hE.out.same hI3.out.eat fun i hi=>hgs i hi,fun i q1 q2=>(hgs i q2).trans (hI3.out.frame i q1 q2)⟩,?_,?_,?_⟩;all_goals rw[hg3]
      .rw[get_put,get_put,get_put,get_put,AM (by simp),AM (by simp)];exact hI3.out.box
      .simp only[go_sem,x6,c0,c1,c2,c3,c4,c5,c6,c7]
      .simp only[go_sem,x7,c0,c1,c2,c3,c4,c5,c6,c7]
      .simp only[go_sem,c0,c1,c2,c3,c4,c5,c6,c7]
     have hpick:AA (CV st.sol d gr r=BB (BO st.sol d gr r)):=⟨by rw[CV,if_neg (by rw[A5,hyp,Option.map_some,Option.getD_some,hyd];simp)]⟩;clear hgs same2 hm2 hl1 gS xS lS lS2 a3 a4 hyp hI3 x6 x7 hg3 hpl hSs hyd;clear hM2;refine AO r.joins _ (S:=fun m' j (a:(AV×AB)×Nat)=>⟨[(0,.ptr m 0),(3,.ptr (0::0::π) 0),(6,.ptr (0::(b+20)::π) 0),(7,.ptr (0::(b+21)::π) 0),(8,.ptr (0::(c+40)::π) 0),(10,a.1.1),(13,BI.get [] 13),(40,.osl W 0 st.sol.groups.length),(41,.d (.int .i64 (st.sol.groups.length))),(42,.d (.int .i64 (i))),(56,.d (.lst (d.rules.map Am))),(57,.d (.int .i64 (d.rules.length))),(58,.d (.int .i64 (k))),(77,.d (.lst (r.joins.map AG))),(78,.d (.int .i64 (m'))),(79,.d (.int .i64 (j))),(102,BI.get [] 102),(103,BI.get [] 103),(104,BI.get [] 104),(105,BI.get [] 105),(106,BI.get [] 106),(107,BI.get [] 107),(108,BI.get [] 108),(109,BI.get [] 109)],a.1.2,a.2+62,ds⟩)
      (Inv:=fun j rest a=>AA (Pq C I π h id b c i k gr (BM st.sol d gr i k (r::d.rules.drop (k+1))++R) a.1.2)∧c≤a.2∧AA ((j=0∧a.1.1=.nils)∨ ∃n,0<j∧n<a.2+62∧a.1.1=.osl (1::n::π) 0 j∧a.1.2.get (1::n::π)=some (.darr 1 (((r.joins.take j).map fun q=>((Hw st.sol (gr.own d true q):Nat):Int)).map AG)))) (b0:=((_,_),c)) rfl ⟨⟨hJ0⟩,Nat.le_refl _,⟨.inl ⟨rfl,rfl⟩⟩⟩ ?_ ?_
     .clear hJ0 IHk g2 g3;rintro j q ⟨⟨v,g4⟩,e⟩ hq hj hjm ⟨hJ,hce,hv⟩ IHj;dsimp only at*;obtain⟨q0,q1,o0,ch,hch,ch12,hql⟩:=hri.out.join q (List.mem_of_getElem? hq);have hM2:=EL hM.out (h':=g4) fun i hi=>hJ.out.st.frame i (hCV.out i hi) (hu.out i hi);have hm2:=hM2.box;simp only[JI]at hm2;obtain⟨qv,hrow,hqs⟩:=hM2.chans.row _ _ hch;have hlq:=L4 hqs;rw[List.length_map]at hlq;have hA:=hM2.arr;rcases hA with⟨_,hA⟩|⟨A,hA,gA⟩
      .rw[hA]at hrow;simp at hrow
      have lA:=AK hrow;have uA:=hu.out A (V.v3_mem m (by rw[hA];simp[AE]));have a3:=AI uA;have a4:=Ao uA;rw[hA]at hm2;have x7:=hJ.out.x7;simp only[Bx]at hrow;have hown:=AA.mk fun(H:AB) (n:Nat) (hH:H.get m=g4.get m)=>Wa (ds:=p.defs) (g:=gr) (d:=d) (hH.trans hm2) (AD um n) g0 hdd (C4 hF hdd).ok.chans (C4 hF hdd).ok.spots (L5 hd.out) (QD hF hd.out) true q q0 (by simpa using q1);have ht:AA (((r.joins.take (j+1)).map fun q=>((Hw st.sol (gr.own d true q):Nat):Int))=((r.joins.take j).map fun q=>((Hw st.sol (gr.own d true q):Nat):Int))++[(ch.queue.length:Int)]):=⟨by rw[List.take_add_one,hq];simp[hql]⟩;replace hql:=AA.mk hql;replace hM2:=AA.mk hM2;replace hqs:=AA.mk hqs;rcases hv.out with⟨rfl,rfl⟩|⟨n,hj0,hn,rfl,hg⟩
      .clear hv;have hj0:(0:Int)<r.joins.length:=hjm
       (repeat' (first|simp only[go_sem, *,↓hlq,Bool.false_eq_true]|(refine sx ?_ ?_<;>intro hc)|refine sy (by omega) fun x hx hm=>?_|simp(disch:=first|assumption|omega) only[wrap_id,AF,AC,slice_int]))
       refine KX (hown.out _ _ rfl) (fun o1 g1 p1=>?_);subst p1
       (repeat' (first|simp only[go_sem, *,↓hlq,Bool.false_eq_true]|(refine sx ?_ ?_<;>intro hc)|refine sy (by omega) fun x hx hm=>?_|simp(disch:=first|assumption|omega) only[wrap_id,AF,AC,slice_int]))
       refine IHj.out ((_,_),e+23) ⟨⟨hJ.out.loc hE.out fun x hx=>?_⟩,by dsimp only;omega,⟨.inr ⟨e+81,by omega,by dsimp only;omega,rfl,?_⟩⟩⟩
       .dsimp only;rw[get_put,get_put,hx,hx];rfl
       .rw[ht.out];simp only[go_sem,List.take_zero,List.map_nil,List.nil_append]
      .clear hv;obtain⟨L,hL⟩: ∃L,L=(r.joins.take j).map fun q=>((Hw st.sol (gr.own d true q):Nat):Int):=⟨_,rfl⟩;have d0:L.length=j:=by rw[hL,List.length_map,List.length_take];omega
       have d1:List.take j (L.map AG)=L.map AG:=List.take_of_length_le (by simp;omega);have d2:j+1≤4:=by have:=hri.out.j1;omega
       have d3: ¬e+80=n:=by omega
       have d4: ¬n=e+80:=by omega
       have d5: ¬e+81=n:=by omega
       have d6: ¬n=e+81:=by omega
       rw[←hL]at ht hg;replace hL:=AA.mk hL
       (repeat' (first|simp only[go_sem, *,↓hlq,Bool.false_eq_true]|(refine sx ?_ ?_<;>intro hc)|refine sy (by omega) fun x hx hm=>?_|simp(disch:=first|assumption|omega) only[wrap_id,AF,AC,slice_int]))
       refine KX (hown.out _ _ rfl) (fun o1 g1 p1=>?_);subst p1
       (repeat' (first|simp only[go_sem, *,↓hlq,Bool.false_eq_true]|(refine sx ?_ ?_<;>intro hc)|refine sy (by omega) fun x hx hm=>?_|simp(disch:=first|assumption|omega) only[wrap_id,AF,AC,slice_int]))
       refine IHj.out ((_,_),e+23) ⟨⟨hJ.out.loc hE.out fun x hx=>?_⟩,by dsimp only;omega,⟨.inr ⟨e+81,by omega,by dsimp only;omega,rfl,?_⟩⟩⟩
       .dsimp only;rw[get_put,get_put,get_put,hx,hx,hx];rfl
       .rw[ht.out];simp only[go_sem,List.map_append,d3,d4,d5,d6]
     .clear hJ0;rintro j ⟨⟨v,g4⟩,e⟩ hj hjm ⟨hJ,hce,hv⟩;dsimp only at*;rcases hv.out with⟨rfl,rfl⟩|⟨n,hj0,hn,rfl,hg⟩
      .exact absurd hri.out.j0 (by have:=hj.out;omega)
      have hmany:AA (((r.joins.take j).map fun q=>((Hw st.sol (gr.own d true q):Nat):Int))=(BO st.sol d gr r).map fun(n:Nat)=>(n:Int)):=⟨by rw[hj.out,List.take_length,BO,List.map_map];rfl⟩;rw[hmany.out]at hg;have hlen:(BO st.sol d gr r).length=j:=by rw[BO,List.length_map,hj.out]
      obtain⟨many,hmn⟩: ∃many,many=BO st.sol d gr r:=⟨_,rfl⟩;rw[←hmn]at hg hlen;have tk:List.take j ((many.map fun(n:Nat)=>(n:Int)).map AG)=(many.map fun(n:Nat)=>(n:Int)).map AG:=List.take_of_length_le (by simp;omega);have hch:=S1 (many.map fun(n:Nat)=>(n:Int)) (e+64) π;have jl:j≤many.length:=by omega
      replace hlen:=AA.mk hlen;replace hmn:=AA.mk hmn;replace hmany:=AA.mk hmany;clear hv;refine ax ?_;refine aZ fun r0 hr0=>?_;have nC: ∀n,¬C (0::n::π):=fun n hc=>by have:=uC.out _ hc;rw[show Id.under π (0::n::π)=true from Dm [0,n]]at this;cases this
      obtain⟨I',hI'⟩: ∃I':List (List Int)→AB→Prop,I'=fun l g=>Pq C I π h id b c i k gr ((l.map fun t=>⟨-1,i,k,t⟩)++(BM st.sol d gr i (k+1) (d.rules.drop (k+1))++R)) g∧g.get (0::(e+65)::π)=some (.loop r0):=⟨_,rfl⟩;obtain⟨D',hD'⟩: ∃D':AQ→AB→Prop,D'=fun o g=>(o=.ret (.d (.bool (false)))∧D (.ret (.d (.bool (false)))) g∧g.get (0::(e+65)::π)=some (.loop {r0 with state:=.done,pend:=some .ret}))∨((∃v,o=.pan v)∧D o g):=⟨_,rfl⟩
      have hE2:N8 XA (0::(e+65)::π) (fun i=>C i∨i=0::(e+65)::π) I' D' ((e+66)::π):=by
       refine⟨.inr rfl,fun i hi=>?_,fun hI=>?_,fun{x l H ρ v r} hI hr hv hρ hid=>?_,fun hI hs=>?_,fun hD hs=>?_⟩
       .rcases hi with hi|rfl
        .exact AD (uC.out i hi) _
        .exact Bd π (by omega)
       .rw[hI']at hI;exact⟨_,hI.2⟩
       .rw[hI']at hI;obtain⟨hJ,hlo⟩:=hI;rw[hlo]at hr;cases hr;obtain⟨idx,rfl,hga,lx,rfl⟩:=hv;rw[List.map_cons,List.cons_append]at hJ;have hidx:=hid (1::lx) (by simp[AE]);have bx0:=hJ.st.box;have bx6:=hJ.x6;have bx8:=hJ.x8;obtain⟨r2,hr2⟩:=hE.out.loop hJ.st.eat;have n1: ¬e+65=b+20:=by omega
        have n2: ¬e+65=c+40:=by omega
        have hE3:=AA.mk fun(H':AB) (q: ∀i,Id.under π i=false→H'.get i=H.get i)=>hE.out.same hJ.st.eat q;have u2:Id.under ρ (0::(e+65)::π)=false:=hρ _ (Bd π (by omega));replace hJ:=AA.mk hJ;replace hρ:=AA.mk hρ;subst hr0;refine Ha rfl ?_;clear hid;replace hI':=AA.mk hI';replace hD':=AA.mk hD';refine ax ?_;refine Ax (hE.out.eat (hE3.out _ fun i hi=>?_) (by simp only[go_sem,i1,hr2,Bool.false_eq_true]) ⟨_,rfl,.inr ⟨1::lx,rfl,?_,lx,rfl⟩⟩ (fun i hi=>AD (hρ.out i (AD hi _)) _) (fun i hi=>?_)) (fun o1 g1 p1=>?_)
        .have q:=AI hi;simp only[go_sem,q,Bool.false_eq_true]
        .rw[get_put,AM (by simp)];exact hga
        .simp only[AE,An,List.nil_append,List.append_nil,List.mem_singleton]at hi;subst hi;exact⟨fun hc=>hidx.1 (.inl hc),AD hidx.2 _⟩
        have hb0: ∀n,¬n=e+65→ ¬n=e+66→ ∀o,(H.put (0::(e+65)::π) o).get (0::n::π)=H.get (0::n::π):=fun n q1 q2 o=>by rw[get_put,AM (by simp;omega)];rfl
        rcases p1 with⟨rfl,p1,p2⟩|⟨p0,p1,p2⟩
        .have glo:=(Aj (6::ρ) g1 _ (AD u2 _)).trans (p2 _ (nC _) (AD u2 _));rw[get_put,is_self]at glo;replace p1:=AA.mk p1;replace p2:=AA.mk p2;refine ax ?_;have fr: ∀o,∀i,¬C i→ ¬i=0::(e+65)::π→Id.under ρ i=false→((gc (6::ρ) g1).put (0::(e+65)::π) o).get i=H.get i:=fun o i q1 q2 q3=>by
          rw[get_put,AM (fun e=>q2 e.symm),Aj _ _ _ (AD q3 _),p2.out i q1 (AD q3 _),get_put,AM (fun e=>q2 e.symm)];rfl
         refine .inl ⟨rfl,?_,fun i2 q1 q2=>?_⟩
         .rw[hI'.out];refine⟨hJ.out.mv ?_ (fun n hn=>fr _ _ (nC n) (by simp;omega) (hρ.out _ (Bd π (by omega)))) fun i q1 q2=>fr _ _ q1 (fun e=>by rw[e,show Id.under π (0::_::π)=true from Dm [0,_]]at q2;cases q2) (hρ.out _ (AD q2 _)),?_⟩
          .refine hE.out.same p1.out fun i hi=>?_;have q:=AI hi;rw[get_put,q,Aj _ _ _ (AD (hρ.out _ (AD hi _)) _)];rfl
          .rw[get_put,is_self];rfl
         .exact fr _ i2 (fun h=>q1 (.inl h)) (fun h=>q1 (.inr h)) q2
        .have glo:=(Aj (6::ρ) g1 _ (AD u2 _)).trans (p2 _ (Dm [0,e+65]) (AD u2 _));rw[get_put,is_self]at glo;have kp: ∀i,Id.under ((e+66)::π) i=true→Id.under ρ i=false→(gc (6::ρ) g1).get i=H.get i:=fun i q1 q2=>by
          have q3:Id.is (0::(e+65)::π) i=false:=AM fun e3=>by rw[←e3,Bd π (by omega)]at q1;cases q1
          rw[Aj _ _ _ (AD q2 _),p2 i (DY q1) (AD q2 _),get_put,q3];rfl
         have sD:=hE.out.sameD (H':=gc (6::ρ) g1) p1 fun i hi=>by
          rcases hi with hi|⟨l,rfl⟩
          .exact Aj _ _ _ (AD (hρ.out _ (AD hi _)) _)
          .exact Gp _ _ _
         replace kp:=AA.mk kp;replace sD:=AA.mk sD;clear p1 p2;rcases p0 with rfl|⟨v,rfl⟩
         .refine ax ?_;refine .inr ⟨.inl rfl,?_,fun i q1 q2=>?_⟩
          .rw[hD'.out];refine .inl ⟨rfl,hE.out.sameD sD.out fun i hi=>?_,by rw[get_put,is_self];rfl⟩;rw[get_put,show Id.is (0::(e+65)::π) i=false by
            rcases hi with hi|⟨l,rfl⟩
            .exact AI hi _ _
            .exact AM (by simp)]
           rfl
          .rw[get_put,AM fun e3=>by rw[←e3,Bd π (by omega)]at q1;cases q1];exact kp.out i q1 q2
         .refine ax ?_;exact .inr ⟨.inr ⟨v,rfl⟩,by rw[hD'.out];exact .inr ⟨⟨v,rfl⟩,sD.out⟩,kp.out⟩
       .rw[hI']at hI⊢;obtain⟨hJ,hlo⟩:=hI;have u0: ∀n,¬n=e+66→Id.under ((e+66)::π) (0::n::π)=false:=fun n hn=>Bd π hn;exact⟨hJ.mv (hE.out.same hJ.st.eat fun i hi=>hs i (AD hi _)) (fun n hn=>hs _ (u0 n (by omega))) fun i q1 q2=>hs i (AD q2 _),(hs _ (u0 _ (by omega))).trans hlo⟩
       .rw[hD']at hD⊢;have key: ∀o,D o _→D o _:=fun o hd=>hE.out.sameD hd fun i hi=>hs i (hi.imp_left fun hi=>AD hi _);rcases hD with⟨h1,h2,h3⟩|⟨h1,h2⟩
        .exact .inl ⟨h1,key _ h2,(hs _ (.inl (Bd π (by omega)))).trans h3⟩
        .exact .inr ⟨h1,key _ h2⟩
      have hst:I' (BB many) ((0::0::(e+64)::π,Abs.Obj.box [.d (.lst ((many.map fun(n:Nat)=>(n:Int)).map AG))])::(g4.put (1::n::π) (Obj.fro 1 ((many.map fun(n:Nat)=>(n:Int)).map AG))).put (0::(e+65)::π) (.loop r0)):=by
       have q0: ∀i,Id.is (1::n::π) i=false→Id.is (0::(e+65)::π) i=false→Id.is (0::0::(e+64)::π) i=false→ ∀o o1 o2,AB.get ((0::0::(e+64)::π,o)::(g4.put (1::n::π) o1).put (0::(e+65)::π) o2) i=g4.get i:=fun i q1 q2 q3 o o1 o2=>by
        rw[BA,q3,get_put,q2,get_put,q1];rfl
       rw[hI'];refine⟨hJ.out.mv (hE.out.same (by
        have:=hJ.out.st.eat;rw[BM,hpick.out,←hmn.out,List.append_assoc]at this;exact this) fun i hi=>?_) (fun n2 hn2=>?_) fun i _ hi=>?_,?_⟩
       .exact q0 i (AI hi _ _) (AI hi _ _) (AI (AD hi _) _ _) _ _ _
       .exact q0 _ (AM (by simp)) (AM (by simp;omega)) (AM (by simp)) _ _ _
       .exact q0 i (AI hi _ _) (AI hi _ _) (AI (AD hi _) _ _) _ _ _
       .rw[BA,AM (by simp),get_put,is_self];rfl
      have m0:0<many.length:=by have:=hlen.out;omega
      have m1:many.length≤1000:=by have:=hlen.out;have:=hj.out;have:=hri.out.j1;omega
      refine Io (WN m0 m1 (fun n hn=>?_) hE2 (B:=0::0::(e+64)::π) ?_ ?_ ?_ hst) (fun o1 g5 p1=>?_)
      .rw[hmn.out,BO]at hn;obtain⟨q,hq,rfl⟩:=List.mem_map.1 hn;obtain⟨_,_,_,ch,_,h12,hql⟩:=hri.out.join q hq;rw[hql];omega
      .rw[BA,is_self];rfl
      .cases hx:Id.under ((e+66)::π) (0::0::(e+64)::π)with
       |false=>rfl
       |true=>
        have:=EN hx (n':=e+64) (under_iff.2 ⟨[0,0],rfl⟩);omega
      .rintro(hc|hc)
       .have:=uC.out _ hc;rw[show Id.under π (0::0::(e+64)::π)=true from Dm [0,0,e+64]]at this;cases this
       .simp at hc
      rcases p1 with⟨rfl,p1,p2⟩|⟨rfl,p1⟩|⟨⟨v,rfl⟩,p1⟩
      .rw[hI']at p1;have glo:=p1.2;replace p1:=AA.mk p1;replace p2:=AA.mk p2;replace hI':=AA.mk hI';replace hD':=AA.mk hD';clear hst;clear hE2;subst hr0;refine ax ?_;have hJ5:=p1.out.1;have gg: ∀i,Id.under ((e+65)::π) i=false→Id.under ((e+66)::π) i=false→(gc ((e+65)::π) (gc ((e+66)::π) g5)).get i=g5.get i:=fun i q1 q2=>by rw[Aj _ _ _ q1,Aj _ _ _ q2]
       have gb: ∀n,n≤c+40→(gc ((e+65)::π) (gc ((e+66)::π) g5)).get (0::n::π)=g5.get (0::n::π):=fun n hn=>gg _ (Bd π (by omega)) (Bd π (by omega));refine IHk.out (_,e+33,_) ⟨⟨⟨(gb _ (by omega)).trans hJ5.st.box,hE.out.gcI (hE.out.gcI hJ5.st.eat _) _,fun i q1 q2=>(gg i (AD q2 _) (AD q2 _)).trans (hJ5.st.frame i q1 q2)⟩⟩,(gb _ (by omega)).trans hJ5.x6,(gb _ (by omega)).trans hJ5.x7,by dsimp only;omega,by rw[Me];exact hds⟩
      .rw[hD']at p1;rcases p1 with⟨_,p1,glo⟩|⟨⟨v,hv⟩,_⟩
       .replace p1:=AA.mk p1;replace hI':=AA.mk hI';replace hD':=AA.mk hD';clear hst;clear hE2;subst hr0;refine ax ?_;exact .inr (.inl ⟨rfl,hE.out.gcD (hE.out.gcD p1.out _) _⟩)
       .cases hv
      .rw[hD']at p1;rcases p1 with⟨hv,_⟩|⟨_,p1⟩
       .cases hv
       .replace p1:=AA.mk p1;refine ax ?_;exact .inr (.inr ⟨⟨v,rfl⟩,hE.out.gcD (hE.out.gcD p1.out _) _⟩)
   .rintro k ⟨g2,c,ds⟩ hr hkm ⟨hI3,x6,x7,hbc,hds⟩;dsimp only at*;have h3:=hI3.out;rw[BM,List.nil_append]at h3;replace h3:=AA.mk h3;refine ax ?_;refine IH.out (_,c+23,_) ⟨⟨?_⟩,hds⟩;rw[←hR];exact h3.out
  .rintro i ⟨g,b2,ds⟩ hi him2 ⟨hI2,hds⟩;dsimp only at*;rw[Bg]at hI2;refine ax ?_;exact .inl ⟨rfl,hI2.out.eat,hI2.out.frame⟩
end Go.Proofs
namespace Go.Proofs
open Go Go.Abs
theorem B2{α β:Type}{f:α→List β}{n:Nat}: ∀{l:List α},(∀x∈l,(f x).length≤n)→(l.flatMap f).length≤l.length*n
 |[],_=>by simp
 |x::l,h=>by
  have h1:=h x (by simp);have h2:=B2 (f:=f) (n:=n) (l:=l) fun y hy=>h y (by simp[hy]);rw[List.flatMap_cons,List.length_append,List.length_cons,Nat.succ_mul];omega
theorem TP: ∀{l:List Nat},(∀n∈l,n≤12)→(BB l).length≤12 ^ l.length
 |[],_=>by simp[BB]
 |n::l,h=>by
  have h1:=h n (by simp);have h2:=TP (l:=l) fun y hy=>h y (by simp[hy]);rw[BB,List.length_cons,Nat.pow_succ];have h3:=B2 (l:=List.range n) (f:=fun(i:Nat)=>(BB l).map fun t=>(i:Int)::t) (n:=12 ^ l.length) fun x hx=>by simpa using h2
  rw[List.length_range]at h3;have h4:n*12 ^ l.length≤12*12 ^ l.length:=Nat.mul_le_mul_right _ h1;omega
theorem eK{p:AL}{sz:List Int}{s:Bz}{g:Ae}{d:Ba}{r:Ey}(h:WR p sz s g d r):(CV s d g r).length≤1728:=by
 rw[CV];split
 .simp
 .have h1:=TP (l:=BO s d g r) fun n hn=>by
   rw[BO]at hn;obtain⟨c,hc,rfl⟩:=List.mem_map.1 hn;obtain⟨_,_,_,q,_,h2,h3⟩:=h.join c hc;omega
  have h2:(BO s d g r).length≤3:=by rw[BO,List.length_map];exact h.j1
  have h3:12 ^ (BO s d g r).length≤12 ^ 3:=Nat.pow_le_pow_right (by omega) h2;omega
theorem Oo{s:Bz}{d:Ba}{g:Ae}{i:Nat}: ∀{l:List Ey} (k:Nat),(∀r∈l,(CV s d g r).length≤1728)→(BM s d g i k l).length≤l.length*1728
 |[],k,_=>by simp[BM]
 |r::l,k,h=>by
  have h1:=h r (by simp);have h2:=Oo (s:=s) (d:=d) (g:=g) (i:=i) (l:=l) (k+1) fun y hy=>h y (by simp[hy]);rw[BM,List.length_append,List.length_map,List.length_cons];omega
theorem Mn(p:AL)(s:Bz): ∀(l:List Hs) (i:Nat),(BQ p s i l).length≤l.length
 |[],i=>by simp[BQ]
 |w::l,i=>by
  have:=Mn p s l (i+1);rw[BQ,List.length_append,List.length_cons];split<;>simp<;>omega
theorem R8{p:AL}{sz:List Int}{s:Bz}(hF:Dz p sz)(hs:TT p sz s): ∀(l:List Ae) (i:Nat),s.groups.drop i=l→(Bg p s i l).length≤l.length*51840
 |[],i,_=>by simp[Bg]
 |g::l,i,h=>by
  have hg:s.groups[i]? =some g:=by
   have:=congrArg (fun l=>l[0]?) h;simpa using this
  have h2:=R8 hF hs l (i+1) (by rw[AJ hg]at h;exact(List.cons.inj h).2);obtain⟨d,hd⟩:=hs.grp i g hg;rw[Bg,List.length_append,List.length_cons,hd.def_];have h3:=Oo (s:=s) (d:=d) (g:=g) (i:=i) (l:=d.rules) 0 fun r hr=>eK (KM hF hs hg hd hr);have h4:=(C4 hF (I3 hd.def_).2).ok.rules;dsimp only;omega
theorem OX{p:AL}{sz:List Int}{s:Bz}(hF:Dz p sz)(hs:TT p sz s):(BE p s).length≤3000000:=by
 have hsm:=hs.small;simp only[Bz.small,Bool.and_eq_true,decide_eq_true_eq]at hsm;have h1:=Mn p s s.waits 0;have h2:=R8 hF hs s.groups 0 rfl;rw[BE,List.length_append];omega
end Go.Proofs
namespace Go.Proofs
open Go Go.Abs
instance:DecidableEq C9:=fun a b=>decidable_of_iff (a.wait=b.wait∧a.group=b.group∧a.rule=b.rule∧a.picks=b.picks) (by cases a;cases b;simp)
structure qc(p:AL)(s:Bz)(st:Aw):Prop where
 looks:looks p=some st
 formed:Dz p st.sizes
 sok:TT p st.sizes s
theorem Ko{p:AL}{s:Bz}(h:A8 p s=0): ∃st,qc p s st:=by
 rw[A8]at h;split at h
 .rename_i st hlk;split at h
  .rename_i hs;exact⟨st,hlk,Bo hlk,pR hs⟩
  .cases h
 .cases h
theorem L7{p:AL}{s:Bz}(h: ¬A8 p s=0):A8 p s=2:=by
 rw[A8]at h⊢;split at h
 .split at h
  .exact absurd rfl h
  .rename_i hh;simp[hh]
 .rfl
def E6(p:AL)(s:Bz):Int:=if A8 p s=0 then(BE p s).length else 0
abbrev eT(x:C9):AV:=.agg [.d (.int .i64 x.wait),.d (.int .i64 x.group),.d (.int .i64 x.rule),.d (.lst (x.picks.map AG))]
def G6(p:AL)(s:Bz)(n:Int):C9×Int:=if A8 p s=0 then if 0≤n then match(BE p s)[n.toNat]? with|some x=>(x,0)|none=>(⟨0,0,0,[]⟩,5)else(⟨0,0,0,[]⟩,5)else(⟨0,0,0,[]⟩,2)
theorem QM{p:AL}{s:Bz}(n:Int)(h: ¬A8 p s=0):G6 p s n=(⟨0,0,0,[]⟩,2):=by rw[G6,if_neg h]
theorem IW{p:AL}{s:Bz}{n:Int}(h:A8 p s=0)(hn:n<0∨(BE p s).length≤n):G6 p s n=(⟨0,0,0,[]⟩,5):=by
 rw[G6,if_pos h];split
 .rw[List.getElem?_eq_none (by omega)]
 .rfl
theorem KH{p:AL}{s:Bz}{n:Int}{x:C9}(h:A8 p s=0)(hn:0≤n)(hx:(BE p s)[n.toNat]? =some x):G6 p s n=(x,0):=by rw[G6,if_pos h,if_pos hn,hx]
theorem cK{p:AL}{s:Bz}(h:A8 p s=0):E6 p s=(BE p s).length:=by rw[E6,if_pos h]
end Go.Proofs
namespace Go.Abs
theorem Mb{α:Type}{f:α→List AN}{l:List α}{g:G}{sz:Nat}{k:IntKind}{m:Int}(hf: ∀a,(f a).length=sz)(h0:0≤m)(hm:m≤l.length):E1 g .slice sz (.d (.lst (l.map f))) (some (.d (.int k m))) none none=some (.d (.lst ((l.drop m.toNat).map f))):=by
 have hb:EF (some (.d (.int k m))) none none (l.map f).length=some (m.toNat,(l.map f).length,none):=by
  simp[EF,Hg,IL,h0,hm]
 have he:I4 sz (l.map f)=true:=by
  cases l with
  |nil=>rfl
  |cons a l=>simp only[List.map_cons,I4,Ff,decide_eq_true_eq];exact hf a
 show Ku sz (l.map f) (EF (some (.d (.int k m))) none none (l.map f).length)=_;rw[hb];have hr:Nat.ble m.toNat (l.map f).length=true:=by rw[El];simp;omega
 have h2:Nat.ble (l.map f).length (l.map f).length=true:=by rw[El];simp
 simp only[Ku,hr,h2,he,Bool.and_self,if_true,List.map_drop];rw[List.take_of_length_le (by simp)]
end Go.Abs
namespace Go.Proofs
open Go Go.Abs
set_option maxRecDepth 100000
set_option maxHeartbeats 4000000
theorem U8{l:List Ck}{g:G}{k:IntKind}{m:Int}(h0:0≤m)(hm:m≤l.length):E1 g .slice 2 (.d (.lst (l.map AX))) (some (.d (.int k m))) none none=some (.d (.lst ((l.drop m.toNat).map AX))):=Mb (fun _=>rfl) h0 hm
theorem Yv{l:List DU}{g:G}{k:IntKind}{m:Int}(h0:0≤m)(hm:m≤l.length):E1 g .slice 2 (.d (.lst (l.map Ac))) (some (.d (.int k m))) none none=some (.d (.lst ((l.drop m.toNat).map Ac))):=Mb (fun _=>rfl) h0 hm
theorem MR{h:AB}{π:List Nat}{m gid:Abs.Id}{p:AL}{s:Bz}{st:Aw}{x9 x10 x11 x12:AV}(hlk:looks p=some st)
 (hm:h.get m=some (.box [.d (.lst (s.spots.map AX)),.d (.lst (s.groups.map Aa)),.d (.lst (s.chans.map Bp)),.d (.lst (s.waits.map A3)),.d (.lst (p.free.map AY)),.d (.lst (p.nodes.map AP)),.d (.lst (p.defs.map Ab)),.d (.int .i64 (p.main)),.d (.lst (st.sizes.map AG)),x9,x10,x11,x12])) (um:Id.under π m=false) (h9:x9=slv gid p.defs.length) (hg:p.defs.length≠0→h.get gid=some (.darr 1 ((A4 p st.sizes).map AG))) (ug:Id.under π gid=false):
 ∃o h',KL Tryz.prog cfg (.fn 91) [.ptr m 0] h π true (some π)=.ok (o,h')∧o=(FQ (CI 2) (CX p st.sizes s)).1:=by
 have e1:=AI um;have e2:=Ao um;have e3:=AD um;have e4:=AI ug;have e5:=Ao ug;have e6:=AD ug;have hF:=AA.mk (Bo hlk);have hsm:=hF.out.small;simp only[AL.small,Bool.and_eq_true,decide_eq_true_eq]at hsm;obtain⟨c1,c2,c3⟩:=hsm;have hgl:(A4 p st.sizes).length=p.defs.length:=by rw[A4,Fd];simp
 by_cases hss:s.small=true
 .have hok:AA (CX p st.sizes s=(Eo s.spots&&(Du s.spots (s.spots.drop 1)&&(BK p (A4 p st.sizes) s 0 0 1 s.groups&&s.waits.all (CY p st.sizes s))))):=⟨by rw[CX,hss,Bool.true_and]⟩;simp only[Bz.small,Bool.and_eq_true,decide_eq_true_eq]at hss;obtain⟨s1,s2,s3,s4⟩:=hss;have y1:(s.spots.length:Int)≤24:=by omega
  have y2:(s.groups.length:Int)≤40:=by omega
  have y3:(s.chans.length:Int)≤60:=by omega
  have y4:(s.waits.length:Int)≤40:=by omega
  have htr:=lc s.spots (by omega);cases htb:Eo s.spots with
  |false=>
   rw[htb]at hok htr;rw[hok.out]
   (refine A0 rfl Tryz.func91 rfl rfl rfl ?_;show Wp _ _ _ _ (Tryz.f91.body.get rfl) _ _;simp only[Tryz.f91,Option.get_some])
   refine aw ?_;rfl
  |true=>
   rw[htb,Bool.true_and]at hok;rw[htb]at htr;have hT:=MN htb;have htop:=hT.top;have hn0:(1:Int)≤s.spots.length:=by have:=hT.pos;omega
   replace hT:=AA.mk hT
   (refine A0 rfl Tryz.func91 rfl rfl rfl ?_;show Wp _ _ _ _ (Tryz.f91.body.get rfl) _ _;simp only[Tryz.f91,Option.get_some])
   (repeat' (first|simp only[go_sem, *]|(refine sx ?_ ?_<;>intro hc)|refine sy (by omega) fun x hx hm=>?_|simp(disch:=first|assumption|omega) only[wrap_id,AF,AC,slice_int,U8]))
   refine AO (s.spots.drop 1) _ (S:=fun m' i (a:AB×Nat)=>⟨[(0,.ptr m 0),(65,.d (.lst ((s.spots.drop 1).map AX))),(66,.d (.int .i64 (m'))),(67,.d (.int .i64 (i)))],a.1,a.2+49,[]⟩)
    (Inv:=fun i rest a=>a.1.get m=h.get m∧a.1.get gid=h.get gid∧AA (Du s.spots (s.spots.drop 1)=Du s.spots rest)) (b0:=(h,_)) rfl ⟨rfl,rfl,⟨rfl⟩⟩ ?_ ?_
   .rintro i y ⟨g,c⟩ hy hi him ⟨hgm,hgg,hr⟩ IH;dsimp only at*;have hy0:=hy;rw[List.getElem?_drop]at hy;have hi0:=hi;rw[List.length_drop]at hi;have hbad:AA (Du s.spots (s.spots.drop 1)=false→AQ.pan (CI 2)=(FQ (CI 2) (CX p st.sizes s)).1):=⟨fun h=>by rw[hok.out,h];rfl⟩;have hpar:Fe s.spots y.in_:=by
     have h1:=hT.out.climbs (((1+i:Nat):Int)) ⟨by omega,by omega⟩;obtain⟨k,hk⟩: ∃k,s.spots.length=k+1:=⟨s.spots.length-1,by omega⟩;rw[hk]at h1;have h2:=(HQ (by omega) h1).1
     rwa [Gj (s:=y) (by rw[←hy];congr 1)]at h2
    obtain⟨p1,p2⟩:=hpar;obtain⟨z,hz⟩:=get_some (l:=s.spots) (i:=y.in_.toNat) (by omega);have hda:AA (A5 s.spots y.in_=z.dead):=⟨by simp[A5,hz]⟩;rw[Du]at hr;replace hy:=AA.mk hy;cases hyd:y.dead<;>cases hzd:z.dead;all_goals (refine aw ?_)
    all_goals first
    |(refine IH.out (_,_) ⟨?_,?_,⟨?_⟩⟩
      .simp only[go_sem,e1,hgm,Bool.false_eq_true]
      .simp only[go_sem,e4,hgg,Bool.false_eq_true]
      .rw[hr.out,hyd,hda.out,hzd];simp)
    |(refine IH.out (_,_) ⟨?_,?_,⟨?_⟩⟩
      .simp only[go_sem,e1,hgm,Bool.false_eq_true]
      .simp only[go_sem,e4,hgg,Bool.false_eq_true]
      .rw[hr.out,hyd];simp)
    |exact hbad.out (by rw[hr.out,hyd,hda.out,hzd];rfl)
   .rintro i ⟨g,c⟩ hi him ⟨hgm,hgg,hr⟩;dsimp only at*;rw[Du]at hr;refine aw ?_;clear hi him;have hok2:AA (CX p st.sizes s=(BK p (A4 p st.sizes) s 0 0 1 s.groups&&s.waits.all (CY p st.sizes s))):=⟨by rw[hok.out,hr.out,Bool.true_and]⟩;clear hok hr i;refine AO s.groups _ (S:=fun m' i (a:AB×Nat×Nat×Nat)=>⟨[(0,.ptr m 0),(4,.d (.int .i64 (a.2.2.1))),(5,.d (.int .i64 (a.2.2.2))),(92,.d (.lst (s.groups.map Aa))),(93,.d (.int .i64 (m'))),(94,.d (.int .i64 (i)))],a.1,a.2.1+59,[]⟩)
     (Inv:=fun i rest a=>a.1.get m=h.get m∧a.1.get gid=h.get gid∧a.2.2.1≤30*i∧a.2.2.2≤30*i+1∧AA (CX p st.sizes s=(BK p (A4 p st.sizes) s i a.2.2.1 a.2.2.2 rest&&s.waits.all (CY p st.sizes s)))) (b0:=(g,_,0,1)) rfl ⟨hgm,hgg,by simp,by simp,hok2⟩ ?_ ?_
    .clear hgm hgg hok2 g c;rintro i gr ⟨g,n,c,k⟩ hy hi him ⟨hgm,hgg,b1,b2,hr⟩ IH;dsimp only at*;by_cases x0:gr.def_<0
     .have x0: ¬0≤gr.def_:=by omega
      have hf:AA (CX p st.sizes s=false):=⟨by rw[hr.out,BK,AL.def?,if_neg (by omega),Bool.false_and]⟩;refine aw ?_;all_goals (rw[hf.out];rfl)
     by_cases x1:(p.defs.length:Int)≤gr.def_
     .have x1: ¬gr.def_<p.defs.length:=by omega
      have x0:0≤gr.def_:=by omega
      have hf:AA (CX p st.sizes s=false):=⟨by rw[hr.out,BK,AL.def?,if_pos (by omega),List.getElem?_eq_none (by omega),Bool.false_and]⟩;refine aw ?_;all_goals (rw[hf.out];rfl)
     have x2:0≤gr.def_:=by omega
     have x3:gr.def_<p.defs.length:=by omega
     have hdl:gr.def_.toNat<p.defs.length:=by omega
     have hD:p.defs.length≠0:=by omega
     obtain⟨d,hd⟩:=get_some hdl;have hdf:=C4 hF.out hd;obtain⟨v,hv⟩:=get_some (l:=A4 p st.sizes) (i:=gr.def_.toNat) (by omega);have hv2:d.own≤v∧v≤5060:=by
      obtain⟨_,_,s0,_,_,_,_,q0,q1,q2,_⟩:=hdf.node;rw[hv]at q2;cases q2;have:=Jh hdf.ok;omega
     have hstep:AA (CX p st.sizes s=((GV p (A4 p st.sizes) s i c k gr d&&BK p (A4 p st.sizes) s (i+1) (c+d.chans.length) (k+d.spots.length) (s.groups.drop (i+1)))&&s.waits.all (CY p st.sizes s))):=⟨by
      rw[hr.out,BK,AL.def?,if_pos x2,hd]⟩
     have hgo:AA (GV p (A4 p st.sizes) s i c k gr d=(decide (Fe s.spots gr.at_)&&(decide ((gr.env.length:Int)=v)&&(gr.env.all (DU.inB p s.chans.length s.spots.length)&&(CF d c k gr&&Co p s d gr i c 0 d.chans))))):=⟨by
      rw[GV,hv];rfl⟩
     have hbad:AA (GV p (A4 p st.sizes) s i c k gr d=false→AQ.pan (CI 2)=(FQ (CI 2) (CX p st.sizes s)).1):=⟨fun h=>by rw[hstep.out,h];rfl⟩;have hdo:=hdf.ok;have d1:=hdo.chans;have d2:=hdo.spots;have d3:d.own=d.chans.length+d.spots.length:=rfl;replace hdo:=AA.mk hdo;replace hdf:=AA.mk hdf;have hg2:=hg hD;rw[Al hD]at h9;refine aw ?_;refine D0 (RB (sp:=s.spots.map AX) (Eq.trans (b:=h.get m) ?_ hm) (by simp;omega) gr.at_) (fun o1 g1 p1=>?_)
     .simp only[go_sem,e1,hgm,Bool.false_eq_true]
     by_cases hin:Fe s.spots gr.at_
     .have hin2:=hin;replace p1:o1=.ret (.tup []):=by
       rw[p1,decide_eq_true hin.1,List.length_map,decide_eq_true hin.2];rfl
      subst p1;replace hin:=AA.mk hin;have hge:h.get gid=some (.darr 1 ((A4 p st.sizes).map AG)):=hg2;refine aw ?_;refine D0 (Pn (p:=p) (sp:=s.spots.map AX) (ch:=s.chans.map Bp) (Eq.trans (b:=h.get m) ?_ hm) (e3 _) (by simp;omega) (by simp;omega) (by omega) gr.env v (by omega)) (fun o2 g2 p2=>?_)
      .simp only[go_sem,e1,hgm,Bool.false_eq_true]
      rw[List.length_map,List.length_map]at p2;by_cases hev:(decide ((gr.env.length:Int)=v)&&gr.env.all (DU.inB p s.chans.length s.spots.length))=true
      .rw[hev]at p2;replace p2:o2=.ret (.tup []):=p2;subst p2;rw[Bool.and_eq_true,decide_eq_true_eq]at hev;obtain⟨hlen,hall⟩:=hev;have hlt:gr.env.length≤5060:=by omega
       have hown:d.own≤gr.env.length:=by omega
       have hgo2:AA (GV p (A4 p st.sizes) s i c k gr d=(CF d c k gr&&Co p s d gr i c 0 d.chans)):=⟨by
        rw[hgo.out,decide_eq_true hin.out,decide_eq_true hlen,hall,Bool.true_and,Bool.true_and,Bool.true_and]⟩
       clear hgo;replace hlen:=AA.mk hlen;replace hall:=AA.mk hall;obtain⟨E,hE⟩: ∃E,E=gr.env.drop (gr.env.length-d.chans.length-d.spots.length):=⟨_,rfl⟩;have hEl:E.length=d.chans.length+d.spots.length:=by rw[hE,List.length_drop];omega
       have w1:IntKind.i64.wrap ((gr.env.length:Int)-(d.chans.length:Int))=(gr.env.length:Int)-(d.chans.length:Int):=wrap_id (by omega) (by omega);have w2:IntKind.i64.wrap ((gr.env.length:Int)-(d.chans.length:Int)-(d.spots.length:Int))=((gr.env.length-d.chans.length-d.spots.length:Nat):Int):=by rw[wrap_id (by omega) (by omega)];omega
       have w3: ∀g0:G,E1 g0 .slice 2 (.d (.lst (gr.env.map Ac))) (some (.d (.int .i64 ((gr.env.length-d.chans.length-d.spots.length:Nat):Int)))) none none=some (.d (.lst ((gr.env.drop (gr.env.length-d.chans.length-d.spots.length)).map Ac))):=fun g0=>Yv (by omega) (by omega);rw[←hE]at w3;have hm0:AA (CF d c k gr=decide (E.drop 0=(DN c k d).drop 0)):=⟨by rw[hE];rfl⟩;replace hE:=AA.mk hE;have q43: ¬n=n+43:=by omega
       have r43: ¬n+43=n:=by omega
       refine ax ?_;clear w1 w2 w3 q43 r43;refine AO d.chans _ (S:=fun m' i2 (a:AB×Nat)=>⟨[(0,.ptr m 0),(4,.d (.int .i64 (c))),(5,.d (.int .i64 (k))),(6,.d (.int .i64 (i))),(7,.ptr (0::(n+63)::π) 0),(8,.ptr (0::(n+106)::π) 0),(9,.d (.lst (E.map Ac))),(92,.d (.lst (s.groups.map Aa))),(93,.d (.int .i64 (s.groups.length))),(94,.d (.int .i64 (i))),(155,.d (.int .i64 (m'))),(156,.d (.int .i64 (i2)))],a.1,a.2+127,[]⟩)
        (Inv:=fun i2 rest a=>a.1.get m=h.get m∧a.1.get gid=h.get gid∧a.1.get (0::(n+63)::π)=some (.box [.d (.int .i64 (gr.def_)),.d (.int .i64 (gr.at_)),.d (.lst (gr.env.map Ac))])∧a.1.get (0::(n+106)::π)=some (.box [.d (.lst (d.chans.map Av)),.d (.lst (d.spots.map Af)),.d (.lst (d.rules.map Am))])∧n≤a.2∧AA (CF d c k gr=decide (E.drop i2=(DN c k d).drop i2))) (b0:=(_,_)) rfl ⟨?_,?_,?_,?_,?_,hm0⟩ ?_ ?_
       .simp only[go_sem,e1,hgm,Bool.false_eq_true]
       .simp only[go_sem,e4,hgg,Bool.false_eq_true]
       .have q43: ¬n=n+43:=by omega
        have r43: ¬n+43=n:=by omega
        simp only[go_sem,q43,r43,Bool.false_eq_true]
       .simp only[go_sem,Bool.false_eq_true]
       .exact Nat.le_refl _
       .clear hm0 hgm hgg g;rintro i2 y ⟨g,n2⟩ hy2 hi2 him2 ⟨hgm,hgg,g63,g106,hn2,hr2⟩ IH2;dsimp only at*;obtain⟨u,hu⟩:=get_some (l:=E) (i:=i2) (by omega);have hE2:(i2:Int)<E.length:=by omega
        have hr3:AA (CF d c k gr=(decide (u=⟨3,(c:Int)+(i2:Int)⟩)&&decide (E.drop (i2+1)=(DN c k d).drop (i2+1)))):=⟨by
         rw[hr2.out,GA hu,GA (IV c k d hi2),Bool.eq_iff_iff];simp⟩
        have w4:IntKind.i64.wrap ((c:Int)+(i2:Int))=(c:Int)+(i2:Int):=wrap_id (by omega) (by omega);by_cases hu2:u=⟨3,(c:Int)+(i2:Int)⟩
        .subst hu2;refine ax ?_;refine IH2.out (_,_) ⟨hgm,hgg,g63,g106,?_,⟨?_⟩⟩
         .dsimp only;omega
         .rw[hr3.out,decide_eq_true rfl,Bool.true_and]
        .have hne:(decide (u.kind=3)&&decide (u.n=(c:Int)+(i2:Int)))=false:=by
          rw[←Bool.not_eq_true,Bool.and_eq_true,decide_eq_true_eq,decide_eq_true_eq];rintro⟨h1,h2⟩;exact hu2 (by cases u;simp_all)
         refine ax ?_;exact hbad.out (by rw[hgo2.out,hr3.out,decide_eq_false hu2];rfl)
       .clear hm0 hgm hgg g;rintro i2 ⟨g,n2⟩ hi2 him2 ⟨hgm,hgg,g63,g106,hn2,hr2⟩;dsimp only at*;rw[hi2.out]at hr2;refine ax ?_;clear hi2 him2 i2;refine AO d.spots _ (S:=fun m' j (a:AB×Nat)=>⟨[(0,.ptr m 0),(4,.d (.int .i64 (c))),(5,.d (.int .i64 (k))),(6,.d (.int .i64 (i))),(7,.ptr (0::(n+63)::π) 0),(8,.ptr (0::(n+106)::π) 0),(9,.d (.lst (E.map Ac))),(92,.d (.lst (s.groups.map Aa))),(93,.d (.int .i64 (s.groups.length))),(94,.d (.int .i64 (i))),(172,.d (.int .i64 (m'))),(173,.d (.int .i64 (j)))],a.1,a.2+132,[]⟩)
         (Inv:=fun j rest a=>a.1.get m=h.get m∧a.1.get gid=h.get gid∧a.1.get (0::(n+63)::π)=some (.box [.d (.int .i64 (gr.def_)),.d (.int .i64 (gr.at_)),.d (.lst (gr.env.map Ac))])∧a.1.get (0::(n+106)::π)=some (.box [.d (.lst (d.chans.map Av)),.d (.lst (d.spots.map Af)),.d (.lst (d.rules.map Am))])∧n≤a.2∧AA (CF d c k gr=decide (E.drop (d.chans.length+j)=(DN c k d).drop (d.chans.length+j)))) (b0:=(g,n2)) rfl ⟨hgm,hgg,g63,g106,hn2,hr2⟩ ?_ ?_
        .clear hr2 hgm hgg g63 g106 g hn2 n2;rintro j y ⟨g,n2⟩ hyj hij himj ⟨hgm,hgg,g63,g106,hn2,hr2⟩ IH2;dsimp only at*;obtain⟨u,hu⟩:=get_some (l:=E) (i:=d.chans.length+j) (by omega);have hr3:AA (CF d c k gr=(decide (u=⟨4,(k:Int)+(j:Int)⟩)&&decide (E.drop (d.chans.length+(j+1))=(DN c k d).drop (d.chans.length+(j+1))))):=⟨by
          rw[hr2.out,GA hu,GA (Iv c k d hij),Bool.eq_iff_iff];simp[Nat.add_assoc]⟩
         have w4:IntKind.i64.wrap ((k:Int)+(j:Int))=(k:Int)+(j:Int):=wrap_id (by omega) (by omega);have w5:IntKind.i64.wrap ((d.chans.length:Int)+(j:Int))=(d.chans.length:Int)+(j:Int):=wrap_id (by omega) (by omega);have ix:((d.chans.length:Int)+(j:Int)).toNat=d.chans.length+j:=by omega
         rw[←ix]at hu;replace ix:=AA.mk ix;have ix2:0≤(d.chans.length:Int)+(j:Int):=by omega
         have ix3:(d.chans.length:Int)+(j:Int)<E.length:=by omega
         by_cases hu2:u=⟨4,(k:Int)+(j:Int)⟩
         .subst hu2;refine ax ?_;refine IH2.out (_,_) ⟨hgm,hgg,g63,g106,?_,⟨?_⟩⟩
          .dsimp only;omega
          .rw[hr3.out,decide_eq_true rfl,Bool.true_and]
         .have hne:(decide (u.kind=4)&&decide (u.n=(k:Int)+(j:Int)))=false:=by
           rw[←Bool.not_eq_true,Bool.and_eq_true,decide_eq_true_eq,decide_eq_true_eq];rintro⟨h1,h2⟩;exact hu2 (by cases u;simp_all)
          refine ax ?_;exact hbad.out (by rw[hgo2.out,hr3.out,decide_eq_false hu2];rfl)
        .clear hr2 hgm hgg g63 g106 g hn2 n2;rintro j ⟨g,n2⟩ hij himj ⟨hgm,hgg,g63,g106,hn2,hr2⟩;dsimp only at*;have hmine:CF d c k gr=true:=by
          have hjj:=hij.out;rw[hr2.out,List.drop_eq_nil_of_le (by omega),List.drop_eq_nil_of_le (by rw[GB];omega)];rfl
         have hgo3:AA (GV p (A4 p st.sizes) s i c k gr d=Co p s d gr i c 0 d.chans):=⟨by rw[hgo2.out,hmine,Bool.true_and]⟩;replace hmine:=AA.mk hmine;clear hr2 hgo2;refine ax ?_;clear hij himj j;refine AO d.chans _ (S:=fun m' j (a:AB×Nat)=>⟨[(0,.ptr m 0),(4,.d (.int .i64 (c))),(5,.d (.int .i64 (k))),(6,.d (.int .i64 (i))),(7,.ptr (0::(n+63)::π) 0),(8,.ptr (0::(n+106)::π) 0),(92,.d (.lst (s.groups.map Aa))),(93,.d (.int .i64 (s.groups.length))),(94,.d (.int .i64 (i))),(192,.d (.lst (d.chans.map Av))),(193,.d (.int .i64 (m'))),(194,.d (.int .i64 (j)))],a.1,a.2+137,[]⟩)
          (Inv:=fun j rest a=>a.1.get m=h.get m∧a.1.get gid=h.get gid∧a.1.get (0::(n+63)::π)=some (.box [.d (.int .i64 (gr.def_)),.d (.int .i64 (gr.at_)),.d (.lst (gr.env.map Ac))])∧a.1.get (0::(n+106)::π)=some (.box [.d (.lst (d.chans.map Av)),.d (.lst (d.spots.map Af)),.d (.lst (d.rules.map Am))])∧n≤a.2∧AA (Co p s d gr i c 0 d.chans=Co p s d gr i c j rest)) (b0:=(g,n2)) rfl ⟨hgm,hgg,g63,g106,hn2,⟨rfl⟩⟩ ?_ ?_
         .clear hgm hgg g63 g106 g hn2 n2;rintro j ch ⟨g,n2⟩ hyj hij himj ⟨hgm,hgg,g63,g106,hn2,hrj⟩ IHj;dsimp only at*;have hcj:c+j<s.chans.length:=by
           have:=List.all_eq_true.1 hall.out _ (List.mem_of_getElem? (OO hmine.out hij));simp[DU.inB]at this;omega
          obtain⟨q,hq⟩:=get_some hcj;have hca:=hdo.out.chan ch (List.mem_of_getElem? hyj);have hpi:=Mf hmine.out hown hin.out hall.out (n:=ch.at_) hca.1 hca.2.1;obtain⟨hp1,hp2⟩:=hpi;obtain⟨sp,hsp⟩:=get_some (l:=s.spots) (i:=(gr.place d ch.at_).toNat) (by omega);have hda:AA (A5 s.spots (gr.place d ch.at_)=sp.dead):=⟨by simp[A5,hsp]⟩;have hck:AA (Hp p s d gr i j (c+j) ch=(decide (q.group=i)&&(decide (q.index=j)&&(decide (q.at_=gr.place d ch.at_)&&(decide (q.queue.length≤12)&&((decide (q.queue.length=0)|| !A5 s.spots q.at_)&&q.queue.all (FI p s.chans.length s.spots.length ch.many))))))):=⟨by rw[Hp,hq];rfl⟩;have hbc:AA (Hp p s d gr i j (c+j) ch=false→AQ.pan (CI 2)=(FQ (CI 2) (CX p st.sizes s)).1):=⟨fun h=>hbad.out (by rw[hgo3.out,hrj.out,Co,h,Bool.false_and])⟩;have w4:IntKind.i64.wrap ((c:Int)+(j:Int))=(c:Int)+(j:Int):=wrap_id (by omega) (by omega);have ix:((c:Int)+(j:Int)).toNat=c+j:=by omega
          rw[←ix]at hq;replace ix:=AA.mk ix;have ix2:0≤(c:Int)+(j:Int):=by omega
          have ix3:(c:Int)+(j:Int)<s.chans.length:=by omega
          have q1: ¬n2+78=n:=by omega
          have q2: ¬n=n2+78:=by omega
          have q3: ¬n2+91=n:=by omega
          have q4: ¬n=n2+91:=by omega
          have q5: ¬n2+35=n:=by omega
          have q6: ¬n=n2+35:=by omega
          have q7: ¬n2+48=n:=by omega
          have q8: ¬n=n2+48:=by omega
          have q9: ¬n2+13=n2:=by omega
          have q0: ¬n2=n2+13:=by omega
          by_cases g1:q.group=i
          .by_cases g2:q.index=j
           .refine ax ?_;refine KX (Oz (d:=d) (ds:=p.defs) (Eq.trans (b:=h.get m) ?_ hm) (e3 _) x2 hd d1 d2 hown (by omega) ch.at_ hca.1 hca.2.1) (fun o3 g3 p3=>?_)
            .simp only[go_sem,e1,hgm,Bool.false_eq_true]
            subst p3;by_cases g4:q.at_=gr.place d ch.at_
            .rw[g4]
             (repeat' (first|simp only[go_sem, *,Bool.false_eq_true]|(refine sx ?_ ?_<;>intro hc)|refine sy (by omega) fun x hx hm=>?_|simp(disch:=first|assumption|omega) only[wrap_id,AF,AC,slice_int]))
             all_goals try
              refine hbc.out ?_;rw[hck.out,g4,hda.out];clear IH IHj hr hstep hbad hbc hck hgo3 hrj hy hd hv hT hF hm hg htr hlk hgm hgg g63 g106;grind
             all_goals
              have hfin:AA (Hp p s d gr i j (c+j) ch=q.queue.all (FI p s.chans.length s.spots.length ch.many)):=⟨by
               rw[hck.out,g4,hda.out];clear IH IHj hr hstep hbad hbc hck hgo3 hrj hy hd hv hT hF hm hg htr hlk hgm hgg g63 g106;grind⟩
              refine AO q.queue _ (S:=fun m' l (a:AB×Nat)=>⟨[(0,.ptr m 0),(4,.d (.int .i64 (c))),(5,.d (.int .i64 (k))),(6,.d (.int .i64 (i))),(7,.ptr (0::(n+63)::π) 0),(8,.ptr (0::(n+106)::π) 0),(13,.ptr (0::(n2+141)::π) 0),(92,.d (.lst (s.groups.map Aa))),(93,.d (.int .i64 (s.groups.length))),(94,.d (.int .i64 (i))),(192,.d (.lst (d.chans.map Av))),(193,.d (.int .i64 (d.chans.length))),(194,.d (.int .i64 (j))),(255,.d (.lst (q.queue.map CW))),(256,.d (.int .i64 (m'))),(257,.d (.int .i64 (l)))],a.1,a.2+205,[]⟩)
               (Inv:=fun l rest a=>a.1.get m=h.get m∧a.1.get gid=h.get gid∧a.1.get (0::(n+63)::π)=some (.box [.d (.int .i64 (gr.def_)),.d (.int .i64 (gr.at_)),.d (.lst (gr.env.map Ac))])∧a.1.get (0::(n+106)::π)=some (.box [.d (.lst (d.chans.map Av)),.d (.lst (d.spots.map Af)),.d (.lst (d.rules.map Am))])∧a.1.get (0::(n2+141)::π)=some (.box [.d (.int .i64 (ch.at_)),.d (.int .i64 (ch.many))])∧n2≤a.2∧AA (q.queue.all (FI p s.chans.length s.spots.length ch.many)=rest.all (FI p s.chans.length s.spots.length ch.many))) (b0:=(_,n2)) ?_ ⟨?_,?_,?_,?_,?_,?_,⟨rfl⟩⟩ ?_ ?_
              .omega
              .simp only[go_sem,e1,hgm,Bool.false_eq_true]
              .simp only[go_sem,e4,hgg,Bool.false_eq_true]
              .simp only[go_sem,g63,q1,q2,q3,q4,Bool.false_eq_true]
              .simp only[go_sem,g106,q5,q6,q7,q8,Bool.false_eq_true]
              .simp only[go_sem,q9,q0,Bool.false_eq_true]
              .exact Nat.le_refl _
              .clear hgm hgg g63 g106 g q1 q2 q3 q4 q5 q6 q7 q8 q9 q0;rintro l y ⟨g,n3⟩ hyl hil himl ⟨hgm,hgg,g63,g106,g141,hn3,hrl⟩ IHl;dsimp only at*;have q1: ¬n3+67=n2:=by omega
               have q2: ¬n2=n3+67:=by omega
               refine ax ?_;refine D0 (Pn (p:=p) (sp:=s.spots.map AX) (ch:=s.chans.map Bp) (Eq.trans (b:=h.get m) ?_ hm) (e3 _) (by simp;omega) (by simp;omega) (by omega) y ch.many (by omega)) (fun o4 g4' p4=>?_)
               .simp only[go_sem,e1,hgm,Bool.false_eq_true]
               rw[List.length_map,List.length_map]at p4;have hmk:(decide ((y.length:Int)=ch.many)&&y.all (DU.inB p s.chans.length s.spots.length))=FI p s.chans.length s.spots.length ch.many y:=rfl;rw[hmk]at p4;clear hmk;cases hmo:FI p s.chans.length s.spots.length ch.many y with
               |true=>
                rw[hmo]at p4;replace p4:o4=.ret (.tup []):=p4;subst p4;refine ax ?_;refine IHl.out (_,_) ⟨?_,?_,?_,?_,?_,?_,⟨?_⟩⟩
                .simp only[go_sem,e1,hgm,Bool.false_eq_true]
                .simp only[go_sem,e4,hgg,Bool.false_eq_true]
                .have q3: ¬n3+145=n:=by omega
                 have q4: ¬n=n3+145:=by omega
                 simp only[go_sem,g63,q3,q4,Bool.false_eq_true]
                .have q3: ¬n3+102=n:=by omega
                 have q4: ¬n=n3+102:=by omega
                 simp only[go_sem,g106,q3,q4,Bool.false_eq_true]
                .simp only[go_sem,g141,q1,q2,Bool.false_eq_true]
                .dsimp only;omega
                .rw[hrl.out,List.all_cons,hmo,Bool.true_and]
               |false=>
                rw[hmo]at p4;replace p4:o4=.pan (CI 2):=p4;subst p4;refine ax ?_;exact hbc.out (by rw[hfin.out,hrl.out,List.all_cons,hmo,Bool.false_and])
              .clear hgm hgg g63 g106 g q1 q2 q3 q4 q5 q6 q7 q8 q9 q0;rintro l ⟨g,n3⟩ hil himl ⟨hgm,hgg,g63,g106,g141,hn3,hrl⟩;dsimp only at*;refine ax ?_;refine IHj.out (_,_) ⟨hgm,hgg,g63,g106,?_,⟨?_⟩⟩
               .dsimp only;omega
               .rw[hrj.out,Co,hfin.out,hrl.out];rfl
            .refine ax ?_;exact hbc.out (by rw[hck.out,decide_eq_false g4];simp)
           .refine ax ?_;exact hbc.out (by rw[hck.out,decide_eq_false g2];simp)
          .refine ax ?_;exact hbc.out (by rw[hck.out,decide_eq_false g1];simp)
         .clear hgm hgg g63 g106 g hn2 n2;rintro j ⟨g,n2⟩ hij himj ⟨hgm,hgg,g63,g106,hn2,hrj⟩;dsimp only at*;have hgok:AA (GV p (A4 p st.sizes) s i c k gr d=true):=⟨by rw[hgo3.out,hrj.out];rfl⟩;refine ax ?_;refine IH.out (g,_,c+d.chans.length,k+d.spots.length) ⟨hgm,hgg,?_,?_,⟨?_⟩⟩
          .dsimp only;omega
          .dsimp only;omega
          .dsimp only;rw[hstep.out,hgok.out,Bool.true_and]
      .rw[Bool.not_eq_true]at hev;rw[hev]at p2;replace p2:o2=.pan (CI 2):=p2;subst p2;refine aw ?_;refine hbad.out ?_;rw[hgo.out];clear IH hr hstep hbad hgo hy hd hv hT hF hm hg htr hlk hgm hgg;grind
     .replace p1:o1=.pan (CI 2):=by
       rw[p1,List.length_map];have:(decide (0≤gr.at_)&&decide (gr.at_<(s.spots.length:Int)))=false:=by
        rw[←Bool.not_eq_true,Bool.and_eq_true,decide_eq_true_eq,decide_eq_true_eq];exact hin
       rw[this];rfl
      subst p1;refine aw ?_;exact hbad.out (by rw[hgo.out,decide_eq_false hin,Bool.false_and])
    .rintro i ⟨g,n,c,k⟩ hi him ⟨hgm,hgg,b1,b2,hr⟩;dsimp only at*;have hfin:AA (CX p st.sizes s=((decide (c=s.chans.length)&&decide (k=s.spots.length))&&s.waits.all (CY p st.sizes s))):=⟨by rw[hr.out,BK]⟩;by_cases g1:c=s.chans.length
     .by_cases g2:k=s.spots.length
      .have hf2:AA (CX p st.sizes s=s.waits.all (CY p st.sizes s)):=⟨by rw[hfin.out,decide_eq_true g1,decide_eq_true g2];rfl⟩;clear hfin hr;refine aw ?_;clear hi him i b1 b2;refine AO s.waits _ (S:=fun m' i (a:AB×Nat)=>⟨[(0,.ptr m 0),(303,.d (.lst (s.waits.map A3))),(304,.d (.int .i64 (m'))),(305,.d (.int .i64 (i)))],a.1,a.2+86,[]⟩)
        (Inv:=fun i rest a=>a.1.get m=h.get m∧AA (CX p st.sizes s=rest.all (CY p st.sizes s))) (b0:=(g,n)) rfl ⟨hgm,hf2⟩ ?_ ?_
       .clear hgm hgg hf2 g n;rintro i w ⟨g,n⟩ hy hi him ⟨hgm,hr⟩ IH;dsimp only at*;have hwo:AA (CY p st.sizes s w=(decide (Fe s.spots w.at_)&&(!A5 s.spots w.at_&&(decide (0≤w.node)&&((match p.nodes[w.node.toNat]? with|some x=>Dk x.op|none=>false)&&(decide ((w.env.length:Int)=(st.sizes[w.node.toNat]?).getD 0)&&w.env.all (DU.inB p s.chans.length s.spots.length))))))):=⟨rfl⟩
        have hbad:AA (CY p st.sizes s w=false→AQ.pan (CI 2)=(FQ (CI 2) (CX p st.sizes s)).1):=⟨fun h=>by rw[hr.out,List.all_cons,h];rfl⟩;refine ax ?_;refine D0 (RB (sp:=s.spots.map AX) (Eq.trans (b:=h.get m) ?_ hm) (by simp;omega) w.at_) (fun o1 g1 p1=>?_)
        .simp only[go_sem,e1,hgm,Bool.false_eq_true]
        by_cases hin:Fe s.spots w.at_
        .replace p1:o1=.ret (.tup []):=by
          rw[p1,decide_eq_true hin.1,List.length_map,decide_eq_true hin.2];rfl
         subst p1;obtain⟨i1,i2⟩:=hin;obtain⟨sp,hsp⟩:=get_some (l:=s.spots) (i:=w.at_.toNat) (by omega);have hda:AA (A5 s.spots w.at_=sp.dead):=⟨by simp[A5,hsp]⟩;by_cases n0:0≤w.node
         .by_cases n1:w.node<p.nodes.length
          .obtain⟨x,hx⟩:=get_some (l:=p.nodes) (i:=w.node.toNat) (by omega);obtain⟨v,_,hv,v0,v1,_⟩:=hF.out.node _ x hx;have hln:=AA.mk hF.out.len;have hlv:=AK hv;have hwo2:AA (CY p st.sizes s w=(!A5 s.spots w.at_&&(Dk x.op&&(decide ((w.env.length:Int)=v)&&w.env.all (DU.inB p s.chans.length s.spots.length))))):=⟨by
            rw[hwo.out,hx,hv,decide_eq_true n0,decide_eq_true ⟨i1,i2⟩];rfl⟩
           clear hwo;cases hsd:sp.dead with
           |true=>
            refine ax ?_;all_goals exact hbad.out (by rw[hwo2.out,hda.out,hsd];rfl)
           |false=>
            by_cases ho:Dk x.op=true
            .have hwo3:AA (CY p st.sizes s w=(decide ((w.env.length:Int)=v)&&w.env.all (DU.inB p s.chans.length s.spots.length))):=⟨by
              rw[hwo2.out,hda.out,hsd,ho];rfl⟩
             simp only[Dk,Bool.or_eq_true,decide_eq_true_eq]at ho;replace ho:=AA.mk ho
             (repeat' (first|simp only[go_sem, *,Bool.false_eq_true]|(refine sx ?_ ?_<;>intro hc)|refine sy (by omega) fun x hx hm=>?_|simp(disch:=first|assumption|omega) only[wrap_id,AF,AC,slice_int]))
             all_goals try(exfalso;have:=ho.out;omega)
             all_goals
              refine D0 (Pn (p:=p) (sp:=s.spots.map AX) (ch:=s.chans.map Bp) (Eq.trans (b:=h.get m) ?_ hm) (e3 _) (by simp;omega) (by simp;omega) (by omega) w.env v (by omega)) (fun o4 g4' p4=>?_)
              .simp only[go_sem,e1,hgm,Bool.false_eq_true]
              rw[List.length_map,List.length_map]at p4;rw[←hwo3.out]at p4;cases hmo:CY p st.sizes s w with
              |true=>
               rw[hmo]at p4;replace p4:o4=.ret (.tup []):=p4;subst p4;refine ax ?_;refine IH.out (_,_) ⟨?_,⟨?_⟩⟩
               .simp only[go_sem,e1,hgm,Bool.false_eq_true]
               .rw[hr.out,List.all_cons,hmo,Bool.true_and]
              |false=>
               rw[hmo]at p4;replace p4:o4=.pan (CI 2):=p4;subst p4;refine ax ?_;exact hbad.out hmo
            .have hof:AA (Dk x.op=false):=⟨by simpa using ho⟩;simp only[Dk,Bool.or_eq_true,decide_eq_true_eq,not_or]at ho;obtain⟨u1,u2,u3⟩:=ho;refine ax ?_;all_goals exact hbad.out (by rw[hwo2.out,hda.out,hof.out];simp)
          ·(repeat' (first|simp only[go_sem, *,Bool.false_eq_true]|(refine sx ?_ ?_<;>intro hc)|refine sy (by omega) fun x hx hm=>?_|simp(disch:=first|assumption|omega) only[wrap_id,AF,AC,slice_int]))
           all_goals exact hbad.out (by rw[hwo.out,List.getElem?_eq_none (show p.nodes.length≤w.node.toNat by omega)];simp)
         ·(repeat' (first|simp only[go_sem, *,Bool.false_eq_true]|(refine sx ?_ ?_<;>intro hc)|refine sy (by omega) fun x hx hm=>?_|simp(disch:=first|assumption|omega) only[wrap_id,AF,AC,slice_int]))
          all_goals exact hbad.out (by rw[hwo.out,decide_eq_false n0];simp)
        .replace p1:o1=.pan (CI 2):=by
          rw[p1,List.length_map];have:(decide (0≤w.at_)&&decide (w.at_<(s.spots.length:Int)))=false:=by
           rw[←Bool.not_eq_true,Bool.and_eq_true,decide_eq_true_eq,decide_eq_true_eq];exact hin
          rw[this];rfl
         subst p1;refine ax ?_;exact hbad.out (by rw[hwo.out,decide_eq_false hin];rfl)
       .rintro i ⟨g,n⟩ hi him ⟨hgm,hr⟩;dsimp only at*;refine aw ?_;rw[hr.out];rfl
      .have g3: ¬(k:Int)=s.spots.length:=by omega
       refine aw ?_;rw[hfin.out,decide_eq_false g2];simp[FQ]
     .have g3: ¬(c:Int)=s.chans.length:=by omega
      refine aw ?_;rw[hfin.out,decide_eq_false g1];rfl
 .have hk0:CX p st.sizes s=false:=by rw[CX];simp[hss]
  rw[hk0];have hss:AA (¬(s.spots.length≤24∧s.groups.length≤40∧s.chans.length≤60∧s.waits.length≤40)):=⟨by simpa[Bz.small]using hss⟩
  (refine A0 rfl Tryz.func91 rfl rfl rfl ?_;show Wp _ _ _ _ (Tryz.f91.body.get rfl) _ _;simp only[Tryz.f91,Option.get_some])
  (repeat' (first|simp only[go_sem, *]|(refine sx ?_ ?_<;>intro hc)|refine sy (by omega) fun x hx hm=>?_|simp(disch:=first|assumption|omega) only[wrap_id,AF,AC,slice_int]))
  all_goals first
  |rfl
  |(have:=hss.out;exfalso;omega)
end Go.Proofs
namespace Go.Abs
def e9(id:Id)(x:AN)(v:AV)(es:List (AN×AV)):Option (Option AV)→Option Bf
 |some _=>some ⟨.undef,[(id,.map (C2 es x v))]⟩
 |none=>none
def Wb(id:Id)(x:AN)(v:AV):Option Obj→Option Bf
 |some (.map es)=>e9 id x v es (B4 es x)
 |_=>none
def gD(x:AN)(v:AV)(id:Id)(o:Option Obj):Option TI→Option Bf
 |some j=>if (Gl j.kind x&&v.isCell)=true then Wb id x v o else none
 |none=>none
theorem Z3(T:TypeId→Option TI)(g:G)(i:TI)(id:Id)(x:AN)(v:AV)(hk:i.kind=.map):mapPut T g (some i) (.mp id) (.d x) v=gD x v id (g id) (T i.key):=by
 unfold mapPut;simp only[IR,hk];cases T i.key with
 |none=>rfl
 |some j=>
  simp only[gD];cases Gl j.kind x&&v.isCell with
  |false=>rfl
  |true=>
   simp only[if_true];cases g id with
   |none=>rfl
   |some o=>
    cases o with
    |map es=>
     simp only[Wb];cases B4 es x<;>rfl
    |_=>rfl
theorem WO(x:AN)(v:AV)(id:Id)(o:Option Obj)(j:TI):gD x v id o (some j)=if (Gl j.kind x&&v.isCell)=true then Wb id x v o else none:=rfl
theorem XO(id:Id)(x:AN)(v:AV)(es:List (AN×AV)):Wb id x v (some (.map es))=e9 id x v es (B4 es x):=rfl
theorem Ut(id:Id)(x:AN)(v:AV)(es:List (AN×AV))(o:Option AV):e9 id x v es (some o)=some ⟨.undef,[(id,.map (C2 es x v))]⟩:=rfl
theorem TZ(x:AN)(v:AV):C2 [] x v=[(x,v)]:=rfl
theorem Tc(k:IntKind)(a b:Int)(v w:AV)(es:List (AN×AV)):C2 ((.int k a,w)::es) (.int k b) v=if a=b then(.int k a,v)::es else(.int k a,w)::C2 es (.int k b) v:=by
 rw[C2];by_cases h:a=b
 .have hb:(a==b)=decide (a=b):=by rw[Bool.eq_iff_iff];simp
  simp[Er,h,hb]
 .have hb:(a==b)=decide (a=b):=by rw[Bool.eq_iff_iff];simp
  simp[Er,h,hb]
attribute [go_sem] Z3 WO XO Ut TZ Tc
end Go.Abs
namespace Go.Proofs
open Go Go.Abs
set_option maxRecDepth 100000
set_option maxHeartbeats 4000000
def Ie(π:List Nat)(p:AL)(st:Aw):AB:=if p.defs.length=0 then
    [(0::0::π,.box [.nils,.nils,.nils,.nils,.d (.lst (p.free.map AY)),.d (.lst (p.nodes.map AP)),.d (.lst (p.defs.map Ab)),.d (.int .i64 (p.main)),.d (.lst (st.sizes.map AG)),.emp,.mp (1::3::π),.nils,.d (.int .i64 (0))]),(1::3::π,.map LQ)]
 else [(0::0::π,.box [.nils,.nils,.nils,.nils,.d (.lst (p.free.map AY)),.d (.lst (p.nodes.map AP)),.d (.lst (p.defs.map Ab)),.d (.int .i64 (p.main)),.d (.lst (st.sizes.map AG)),.osl (1::1::π) 0 p.defs.length,.mp (1::4::π),.nils,.d (.int .i64 (0))]),(1::1::π,.darr 1 ((A4 p st.sizes).map AG)),(1::4::π,.map LQ)]
structure ga(π:List Nat)(p:AL)(r:AQ×AB):Prop where
 pan:looks p=none→r=(.pan (CI 2),[])
 ret: ∀st,looks p=some st→r=(.ret (.ptr (0::0::π) 0),Ie π p st)
theorem TJ(p:AL)(hp: ∀s∈p.free,s.size≤maxLen)(k:Nat)(ρ:List Nat): ∃r,Au (KL Tryz.prog cfg) 65 [.agg [.d (.lst (p.free.map AY)),.d (.lst (p.nodes.map AP)),.d (.lst (p.defs.map Ab)),.d (.int .i64 (p.main))]] (k::ρ)=.ok r∧ga (k::ρ) p r:=by
 have hsz:=eU p hp;replace hp:=AA.mk hp;cases hlk:looks p with
 |none=>
  rw[hlk]at hsz;simp only[Gv]at hsz
  (refine EB rfl Tryz.func65 rfl rfl rfl ?_;show Wp _ _ _ _ (Tryz.f65.body.get rfl) _ _;simp only[Tryz.f65,Option.get_some])
  refine aw ?_;exact⟨fun _=>rfl,fun st h=>by rw[hlk]at h;cases h⟩
 |some st=>
  rw[hlk]at hsz;simp only[Gv]at hsz;have hF:=AA.mk (Bo hlk);have hsm:=hF.out.small;simp only[AL.small,Bool.and_eq_true,decide_eq_true_eq]at hsm;obtain⟨c1,c2,c3⟩:=hsm
  (refine EB rfl Tryz.func65 rfl rfl rfl ?_;show Wp _ _ _ _ (Tryz.f65.body.get rfl) _ _;simp only[Tryz.f65,Option.get_some])
  by_cases hD0:p.defs.length=0
  ·(repeat' (first|simp only[go_sem, *]|(refine sx ?_ ?_<;>intro hc)|refine sy (by omega) fun x hx hm=>?_|simp(disch:=first|assumption|omega) only[wrap_id,AF,AC,slice_int,C3]))
   refine AO p.nodes _ (S:=fun m i (_:Unit)=>⟨[(3,.d (.lst (st.sizes.map AG))),(5,.ptr (0::0::k::ρ) 0),(25,.d (.lst (p.nodes.map AP))),(26,.d (.int .i64 (m))),(27,.d (.int .i64 (i)))],[(0::0::k::ρ,.box [.nils,.nils,.nils,.nils,.d (.lst (p.free.map AY)),.d (.lst (p.nodes.map AP)),.d (.lst (p.defs.map Ab)),.d (.int .i64 (p.main)),.d (.lst (st.sizes.map AG)),.emp,.d .nilm,.nils,.d (.int .i64 (0))])],1,[]⟩)
    (Inv:=fun i rest _=>True) (b0:=()) rfl trivial ?_ ?_
   .rintro i y _ hy hi him _ IH;have ho: ¬y.op=4:=fun ho=>by
     have:=Kg hF.out hy ho;omega
    refine aw ?_;exact IH.out () trivial
   .rintro i _ hi him _;have hD1:=AA.mk hD0;refine aw ?_;exact⟨fun h=>(by rw[hlk]at h;cases h),fun st h=>by rw[hlk]at h;cases h;rw[Ie,if_pos hD1.out];rfl⟩
  ·(repeat' (first|simp only[go_sem, *]|(refine sx ?_ ?_<;>intro hc)|refine sy (by omega) fun x hx hm=>?_|simp(disch:=first|assumption|omega) only[wrap_id,AF,AC,slice_int,C3]))
   refine AO p.nodes _ (S:=fun m i (out:List Int)=>⟨[(3,.d (.lst (st.sizes.map AG))),(5,.ptr (0::0::k::ρ) 0),(25,.d (.lst (p.nodes.map AP))),(26,.d (.int .i64 (m))),(27,.d (.int .i64 (i)))],[(0::0::k::ρ,.box [.nils,.nils,.nils,.nils,.d (.lst (p.free.map AY)),.d (.lst (p.nodes.map AP)),.d (.lst (p.defs.map Ab)),.d (.int .i64 (p.main)),.d (.lst (st.sizes.map AG)),.osl (1::1::k::ρ) 0 p.defs.length,.d .nilm,.nils,.d (.int .i64 (0))]),(1::1::k::ρ,.darr 1 (out.map AG))],2,[]⟩)
    (Inv:=fun i rest out=>out.length=p.defs.length∧AA (A4 p st.sizes=DE st.sizes out rest)) (b0:=List.replicate p.defs.length 0) rfl ⟨by simp,⟨rfl⟩⟩ ?_ ?_
   .rintro i y out hy hi him ⟨hol,hr⟩ IH;by_cases ho:y.op=4
    .obtain⟨n1,n2,kk,v,hk,hk0,hkv,hks,_,_⟩:=Kg hF.out hy ho;obtain⟨o,hoo⟩:=get_some (l:=out) (i:=y.n.toNat) (by omega);have hyn:y.n.toNat<p.defs.length:=by omega
     have hks:=AA.mk hks;refine aw ?_;have e:(out.map AG).set y.n.toNat [.int .i64 v]=(out.set y.n.toNat v).map AG:=by rw[List.map_set];rfl
     rw[e];refine IH.out (out.set y.n.toNat v) ⟨by simpa using hol,⟨?_⟩⟩;rw[hr.out,DE,if_pos ho,hks.out]
    .refine aw ?_;refine IH.out out ⟨hol,⟨?_⟩⟩;rw[hr.out,DE,if_neg ho]
   .rintro i out hi him ⟨hol,hr⟩;have hgr:AA (A4 p st.sizes=out):=⟨by rw[hr.out];rfl⟩;refine aw ?_;exact⟨fun h=>(by rw[hlk]at h;cases h),fun st h=>by rw[hlk]at h;cases h;rw[Ie,if_neg hD0,hgr.out];rfl⟩
end Go.Proofs
namespace Go.Proofs
open Go Go.Abs
set_option maxRecDepth 100000
set_option maxHeartbeats 4000000
def pt(v1 v2 v3 v4 v9:AV)(a:Abs.Id)(rows:List (List AV)):MV:=⟨fun i=>match i with|0=>v1|1=>v2|2=>v4|_=>.nils,v3,v9,a,rows⟩
theorem Qg{π:List Nat}{s:Bz}{v1 v2 v3 v4:AV}{rows:List (List AV)}{g:AB}(hC:gh π s v1 v2 v3 v4 rows g){G:AB}{m a:Abs.Id}{v9:AV}{p:AL}{sz:List Int}{ρ:List Nat}{n:Nat}(hρ:π=n::ρ)(hb:G.get m=some (.box (JI p sz (pt v1 v2 v3 v4 v9 a rows) 0)))(ha:G.get a=some (.map LQ))
 (hg: ∀id o,g.get id=some o→G.get id=some o) (hm:Id.under ρ m=true) (ham:Id.under ρ a=true):Jn p sz G m (pt v1 v2 v3 v4 v9 a rows) ⟨s,[],0⟩∧ ∀id∈(pt v1 v2 v3 v4 v9 a rows).ids m,Id.under ρ id=true:=by
 have key: ∀{sz:Nat} {v:AV} {es:List (List AN)},Nl g sz v es→Nl G sz v es:=fun h=>by
  refine GK h fun id hid=>?_;obtain⟨x,hx⟩:=HS h hid;rw[hx];exact hg _ _ hx
 refine⟨⟨hb,ha,fun i hi=>?_,?_,?_,hC.gw,hC.qd⟩,fun id hid=>?_⟩
 .match i,hi with
  |0,_=>exact key hC.s0
  |1,_=>exact key hC.s1
  |2,_=>exact key hC.s2
  |3,_=>exact .inl ⟨rfl,rfl⟩
 .refine MX hC.arr fun id hid=>?_;have:=W9 hC.arr hid;rw[this];exact hg _ _ this
 .refine MG hC.chans fun id hid=>?_;obtain⟨x,hx⟩:=Wj hC.chans hid;rw[hx];exact hg _ _ hx
 .have hu:=fun h=>DY (n:=n) (hρ▸hC.ids id h);rcases(MV.mem _ m id).1 hid with rfl|rfl|⟨i,hi,h⟩|h|h
  .exact hm
  .exact ham
  .match i,hi with
   |0,_=>exact hu (.inl h)
   |1,_=>exact hu (.inr (.inl h))
   |2,_=>exact hu (.inr (.inr (.inl h)))
   |3,_=>simp[pt,AE]at h
  .exact hu (.inr (.inr (.inr (.inl h))))
  .exact hu (.inr (.inr (.inr (.inr h))))
structure cH(π:List Nat)(p:AL)(s:Bz)(st:Aw)(id:Abs.Id)(V:MV)(g:AB):Prop where
 looks:looks p=some st
 rep:Jn p st.sizes g id V ⟨s,[],0⟩
 ids: ∀x∈V.ids id,Id.under π x=true
 own: ∀x,Id.under π x=false→g.get x=none
structure hO(π:List Nat)(p:AL)(s:Bz)(r:AQ×AB):Prop where
 bad:A8 p s≠0→r=(.pan (CI 2),[])
 good:A8 p s=0→ ∃st id V g,r=(.ret (.ptr id 0),g)∧cH π p s st id V g
theorem Wd{π:List Nat}{p:AL}{s:Bz}{st:Aw}{id:Abs.Id}{V:MV}{g:AB}(h1:looks p=some st)(h2:Jn p st.sizes g id V ⟨s,[],0⟩∧ ∀x∈V.ids id,Id.under π x=true)(h3: ∀x,Id.under π x=false→g.get x=none):cH π p s st id V g:=⟨h1,h2.1,h2.2,h3⟩
theorem OK(p:AL)(s:Bz)(hp: ∀s∈p.free,s.size≤maxLen)(k:Nat)(ρ:List Nat): ∃r,Au (KL Tryz.prog cfg) 51 [.agg [.d (.lst (p.free.map AY)),.d (.lst (p.nodes.map AP)),.d (.lst (p.defs.map Ab)),.d (.int .i64 (p.main))],.agg [.d (.lst (s.spots.map AX)),.d (.lst (s.groups.map Aa)),.d (.lst (s.chans.map Bp)),.d (.lst (s.waits.map A3))]] (k::ρ)=.ok r∧hO (k::ρ) p s r:=by
 obtain⟨r,hr,hpost⟩:=TJ p hp 4 (k::ρ);replace hp:=AA.mk hp;cases hlk:looks p with
 |none=>
  obtain rfl:=hpost.pan hlk
  (refine EB rfl Tryz.func51 rfl rfl rfl ?_;show Wp _ _ _ _ (Tryz.f51.body.get rfl) _ _;simp only[Tryz.f51,Option.get_some])
  refine aw ?_;exact⟨fun _=>rfl,fun h=>by rw[A8,hlk]at h;cases h⟩
 |some st=>
  obtain rfl:=hpost.ret st hlk;have hse:AA (A8 p s=if CX p st.sizes s=true then 0 else 2):=⟨by rw[A8,hlk]⟩;have hfit:=fun h=>Y7 s (VH hlk h);by_cases hD0:p.defs.length=0
  .simp only[Ie,hD0,if_true,if_false,LQ]at hr
   (refine EB rfl Tryz.func51 rfl rfl rfl ?_;show Wp _ _ _ _ (Tryz.f51.body.get rfl) _ _;simp only[Tryz.f51,Option.get_some])
   refine aw ?_;refine D0 (MR (s:=s) (x9:=.emp) (x10:=.mp (1::3::4::k::ρ)) (x11:=.nils) (x12:=.d (.int .i64 (0))) (gid:=1::1::4::k::ρ) hlk ?_ ?_ ?_ ?_ ?_) (fun o1 g1 p1=>?_)
   .simp only[go_sem]
   .exact C1 _ _ _ _ _ (by decide)
   .simp only[slv,hD0,if_true,if_false]
   .intro hh;first
    |exact absurd hD0 hh
    |(simp only[go_sem];done)
    |(simp only[go_sem];rfl)
   .exact C1 _ _ _ _ _ (by decide)
   cases hso:CX p st.sizes s with
   |false=>
    rw[hso]at p1;replace p1:o1=.pan (CI 2):=p1;subst p1;replace hfit:=AA.mk hfit;refine aw ?_;exact⟨fun _=>rfl,fun h=>by rw[hse.out,hso]at h;cases h⟩
   |true=>
    rw[hso]at p1;replace p1:o1=.ret (.tup []):=p1;subst p1;obtain⟨r2,hr2,v1,v2,v3,v4,rows,g,rfl,hC⟩:=hfit hso 15 (k::ρ);clear hfit;have hgn:=hC.own;have hgm: ∀L,AB.get (g++L) (0::0::4::k::ρ)=AB.get L (0::0::4::k::ρ):=fun L=>A2 (hgn _ (C1 _ _ _ _ _ (by decide)));replace hgn:=AA.mk hgn;have hgood:AA (A8 p s=0):=⟨by rw[hse.out,hso];rfl⟩;have hcr:=AA.mk fun G v9 h1 h2 h3=>Qg hC (G:=G) (m:=0::0::4::k::ρ) (a:=1::3::4::k::ρ) (v9:=v9) (p:=p) (sz:=st.sizes) rfl h1 h2 h3 (under_iff.2 ⟨[0,0,4],rfl⟩) (under_iff.2 ⟨[1,3,4],rfl⟩);have hga:AA (∀L,AB.get (g++L) (1::3::4::k::ρ)=AB.get L (1::3::4::k::ρ)):=⟨fun L=>A2 (hC.own _ (C1 _ _ _ _ _ (by decide)))⟩;have hnis:AA (∀id o,g.get id=some o→Id.is (0::0::4::k::ρ) id=false):=⟨fun id o ho=>AM fun e=>by rw[←e,hC.own _ (C1 _ _ _ _ _ (by decide))]at ho;cases ho⟩;have hX:=AA.mk hlk;have h1:=hC.s0;have h2:=hC.s1;have h3:=hC.arr;have h4:=hC.s2;replace hC:=AA.mk hC;rcases h1 with⟨rfl,z1⟩|⟨i1,x1,rfl,z1⟩;all_goals rcases h2 with⟨rfl,z2⟩|⟨i2,x2,rfl,z2⟩
    all_goals rcases h3 with⟨rfl,z3⟩|⟨i3,rfl,z3⟩
    all_goals rcases h4 with⟨rfl,z4⟩|⟨i4,x4,rfl,z4⟩
    all_goals
     replace z1:=AA.mk z1;replace z2:=AA.mk z2;replace z3:=AA.mk z3;replace z4:=AA.mk z4;refine aw ?_;refine⟨fun h=>absurd hgood.out h,fun _=>⟨st,_,_,_,rfl,Wd hX.out (hcr.out _ .emp ?_ ?_ fun id o ho=>?_) fun id hu=>?_⟩⟩
     .simp only[go_sem,JI,pt];first|done|rfl
     .simp only[go_sem,hga.out,LQ];first|done|rfl
     .have q1:=hnis.out id o ho;have q2: ∀L,AB.get (g++L) id=some o:=fun L=>B6 ho;simp only[go_sem,q1,q2,Bool.false_eq_true]
     .have a1:=AI hu;have a2:=AI (AD hu 4);have a3: ∀L,AB.get (g++L) id=AB.get L id:=fun L=>A2 (hC.out.own id (AD hu 15));simp only[go_sem,a1,a2,a3,Bool.false_eq_true]
  .simp only[Ie,hD0,if_true,if_false,LQ]at hr
   (refine EB rfl Tryz.func51 rfl rfl rfl ?_;show Wp _ _ _ _ (Tryz.f51.body.get rfl) _ _;simp only[Tryz.f51,Option.get_some])
   refine aw ?_;refine D0 (MR (s:=s) (x9:=.osl (1::1::4::k::ρ) 0 p.defs.length) (x10:=.mp (1::4::4::k::ρ)) (x11:=.nils) (x12:=.d (.int .i64 (0))) (gid:=1::1::4::k::ρ) hlk ?_ ?_ ?_ ?_ ?_) (fun o1 g1 p1=>?_)
   .simp only[go_sem]
   .exact C1 _ _ _ _ _ (by decide)
   .simp only[slv,hD0,if_true,if_false]
   .intro hh;first
    |exact absurd hD0 hh
    |(simp only[go_sem];done)
    |(simp only[go_sem];rfl)
   .exact C1 _ _ _ _ _ (by decide)
   cases hso:CX p st.sizes s with
   |false=>
    rw[hso]at p1;replace p1:o1=.pan (CI 2):=p1;subst p1;replace hfit:=AA.mk hfit;refine aw ?_;exact⟨fun _=>rfl,fun h=>by rw[hse.out,hso]at h;cases h⟩
   |true=>
    rw[hso]at p1;replace p1:o1=.ret (.tup []):=p1;subst p1;obtain⟨r2,hr2,v1,v2,v3,v4,rows,g,rfl,hC⟩:=hfit hso 15 (k::ρ);clear hfit;have hgn:=hC.own;have hgm: ∀L,AB.get (g++L) (0::0::4::k::ρ)=AB.get L (0::0::4::k::ρ):=fun L=>A2 (hgn _ (C1 _ _ _ _ _ (by decide)));replace hgn:=AA.mk hgn;have hgood:AA (A8 p s=0):=⟨by rw[hse.out,hso];rfl⟩;have hcr:=AA.mk fun G v9 h1 h2 h3=>Qg hC (G:=G) (m:=0::0::4::k::ρ) (a:=1::4::4::k::ρ) (v9:=v9) (p:=p) (sz:=st.sizes) rfl h1 h2 h3 (under_iff.2 ⟨[0,0,4],rfl⟩) (under_iff.2 ⟨[1,4,4],rfl⟩);have hga:AA (∀L,AB.get (g++L) (1::4::4::k::ρ)=AB.get L (1::4::4::k::ρ)):=⟨fun L=>A2 (hC.own _ (C1 _ _ _ _ _ (by decide)))⟩;have hnis:AA (∀id o,g.get id=some o→Id.is (0::0::4::k::ρ) id=false):=⟨fun id o ho=>AM fun e=>by rw[←e,hC.own _ (C1 _ _ _ _ _ (by decide))]at ho;cases ho⟩;have hX:=AA.mk hlk;have h1:=hC.s0;have h2:=hC.s1;have h3:=hC.arr;have h4:=hC.s2;replace hC:=AA.mk hC;rcases h1 with⟨rfl,z1⟩|⟨i1,x1,rfl,z1⟩;all_goals rcases h2 with⟨rfl,z2⟩|⟨i2,x2,rfl,z2⟩
    all_goals rcases h3 with⟨rfl,z3⟩|⟨i3,rfl,z3⟩
    all_goals rcases h4 with⟨rfl,z4⟩|⟨i4,x4,rfl,z4⟩
    all_goals
     replace z1:=AA.mk z1;replace z2:=AA.mk z2;replace z3:=AA.mk z3;replace z4:=AA.mk z4;refine aw ?_;refine⟨fun h=>absurd hgood.out h,fun _=>⟨st,_,_,_,rfl,Wd hX.out (hcr.out _ (.osl (1::1::4::k::ρ) 0 p.defs.length) ?_ ?_ fun id o ho=>?_) fun id hu=>?_⟩⟩
     .simp only[go_sem,JI,pt];first|done|rfl
     .simp only[go_sem,hga.out,LQ];first|done|rfl
     .have q1:=hnis.out id o ho;have q2: ∀L,AB.get (g++L) id=some o:=fun L=>B6 ho;simp only[go_sem,q1,q2,Bool.false_eq_true]
     .have a1:=AI hu;have a2:=AI (AD hu 4);have a3: ∀L,AB.get (g++L) id=AB.get L id:=fun L=>A2 (hC.out.own id (AD hu 15));simp only[go_sem,a1,a2,a3,Bool.false_eq_true]
end Go.Proofs
namespace Go.Proofs
open Go Go.Abs
set_option maxRecDepth 100000
set_option maxHeartbeats 4000000
end Go.Proofs
namespace Go.Proofs
open Go Go.Abs
set_option maxRecDepth 100000
set_option maxHeartbeats 4000000
theorem W8{K:AH}{prot:Option (List Nat)}{ρ ρ2:List Nat}{id2:Abs.Id}{e:BI}{bs:Nat}{ds:List Df}{Q:Cq→St→Prop}{t:nI}{args:List AV}{H:AB}{r:Lp}(hn: ∀r',r'=r→Ez ρ ρ2 id2 e bs ds Q (K t args (H.put id2 (.loop r')) ρ2 true prot)):Ez ρ ρ2 id2 e bs ds Q (K t args (H.put id2 (.loop r)) ρ2 true prot):=hn r rfl
theorem PL{p:AL}{sz:List Int}{g G:AB}{m:Abs.Id}{V:MV}{st:QL}(h:Jn p sz g m V st)(hg: ∀id o,g.get id=some o→G.get id=some o):Jn p sz G m V st:=by
 refine⟨hg _ _ h.box,hg _ _ h.acts,fun i hi=>GK (h.sl i hi) fun id hid=>?_,MX h.arr fun id hid=>?_,MG h.chans fun id hid=>?_,h.gw,h.qd⟩
 .obtain⟨x,hx⟩:=HS (h.sl i hi) hid;rw[hx];exact hg _ _ hx
 .have:=W9 h.arr hid;rw[this];exact hg _ _ this
 .obtain⟨x,hx⟩:=Wj h.chans hid;rw[hx];exact hg _ _ hx
theorem bX(p:AL)(s:Bz)(hp: ∀s∈p.free,s.size≤maxLen):Au (KL Tryz.prog cfg) 15 [pA p,sA s] []=.ok (.ret (.tup [.d (.int .i64 (E6 p s)),.d (.int .i64 (A8 p s))]),[]):=by
 obtain⟨r,hr,hpost⟩:=OK p s hp 7 [];replace hp:=AA.mk hp;by_cases h0:A8 p s=0
 .obtain⟨st,id,V,g,rfl,hL⟩:=hpost.good h0;have hg:=hL.own;have g0: ∀n,¬n=7→ ∀L,AB.get (g++L) [0,n]=AB.get L [0,n]:=fun n hn L=>A2 (hg _ (Bd [] hn));replace hg:=AA.mk hg;obtain⟨st2,hf⟩:=Ko h0;have hlk:=hL.looks;rw[hf.looks]at hlk;cases hlk;have hF:=hf.formed;have hs:=hf.sok;replace hL:=AA.mk hL;replace hF:=AA.mk hF;replace hs:=AA.mk hs
  (refine AU rfl Tryz.func15 rfl rfl rfl ?_;show Wp _ _ _ _ (Tryz.f15.body.get rfl) _ _;simp only[Tryz.f15,Option.get_some])
  refine aw ?_;refine W8 fun r0 hr0=>?_;obtain⟨T,hT⟩: ∃T:Int,T=(BE p s).length:=⟨_,rfl⟩;have hTm:T≤3000000:=by rw[hT];have:=OX hF.out hs.out;omega
  obtain⟨I,hI⟩: ∃I:List C9→AB→Prop,I=fun l g=>g.get [0,9]=some (.loop r0)∧g.get [0,2]=some (.box [.d (.int .i64 (T-l.length))])∧g.get [0,3]=some (.box [.d (.int .i64 0)])∧(l.length:Int)≤T:=⟨_,rfl⟩;have hE:N8 Wi [0,9] (fun i=>i=[0,9]∨i=[0,2]) I (fun _ _=>False) [10]:=by
   refine⟨.inl rfl,fun i hi=>?_,fun hI2=>?_,fun{x l H ρ v r} hI2 hr hv hρ hid=>?_,fun hI2 hs=>?_,fun hD _=>hD.elim⟩
   .rcases hi with rfl|rfl<;>rfl
   .rw[hI]at hI2;exact⟨_,hI2.1⟩
   .rw[hI]at hI2;obtain⟨g9,g2,g3,hl⟩:=hI2;rw[g9]at hr;cases hr;rw[List.length_cons]at g2 hl;have w1:IntKind.i64.wrap (T-((l.length+1:Nat):Int)+1)=T-(l.length:Nat):=by rw[wrap_id (by omega) (by omega)];omega
    subst hr0;replace hI:=AA.mk hI;replace hT:=AA.mk hT;refine Ha rfl ?_;refine aw ?_;refine .inl ⟨rfl,?_,fun i q1 q2=>?_⟩
    .rw[hI.out];refine⟨?_,?_,?_,by omega⟩<;>simp only[go_sem,g3,w1]
    .have q3:Id.is [0,9] i=false:=AM fun e=>q1 (.inl e.symm);have q4:Id.is [0,2] i=false:=AM fun e=>q1 (.inr e.symm);rw[get_put,q3,get_put,q4,get_put,q3];rfl
   .rw[hI]at hI2⊢;exact⟨(hs _ rfl).trans hI2.1,(hs _ rfl).trans hI2.2.1,(hs _ rfl).trans hI2.2.2.1,hI2.2.2.2⟩
  refine Io (R4 hF.out (PL hL.out.rep fun i o hi=>?_) (fun i hi=>?_) hs.out hE (fun i hi=>?_) ?_) (fun o1 g5 p1=>?_)
  .have hu:Id.under [7] i=true:=by
    cases hx:Id.under [7] i with
    |true=>rfl
    |false=>rw[hg.out i hx]at hi;cases hi
   have q:Id.is [0,9] i=false:=AM fun e=>by subst e;cases hu
   rw[get_put,q,if_neg (by simp),B6 hi]
  .have:=hL.out.ids i hi;cases hx:Id.under [10] i with
   |false=>rfl
   |true=>have:=EN (π:=[]) this hx;omega
  .have:=hL.out.ids i hi;rintro(rfl|rfl)<;>cases this
  .rw[hI];have h9:AB.get g [0,9]=none:=hg.out _ rfl;have g02:=g0 2 (by decide);have g03:=g0 3 (by decide);have e0:T-((BE p s).length:Nat)=0:=by omega
   refine⟨?_,?_,?_,by rw[hT];exact Int.le_refl _⟩
   .simp only[go_sem]
   .simp only[go_sem,g02,e0]
   .simp only[go_sem,g03]
  rcases p1 with⟨rfl,p1,p2⟩|⟨_,p1⟩|⟨_,p1⟩
  .rw[hI]at p1;obtain⟨k9,k2,k3,_⟩:=p1;subst hr0;replace p2:=AA.mk p2;replace hI:=AA.mk hI;replace hT:=AA.mk hT;have gg: ∀i,Id.under [9] i=false→Id.under [10] i=false→(gc [9] (gc [10] g5)).get i=g5.get i:=fun i q1 q2=>by rw[Aj _ _ _ q1,Aj _ _ _ q2]
   have k2':=(gg [0,2] rfl rfl).trans k2;have k3':=(gg [0,3] rfl rfl).trans k3;replace gg:=AA.mk gg;refine aw ?_;rw[cK h0,hT.out];simp
  .exact p1.elim
  .exact p1.elim
 .obtain rfl:=hpost.bad h0;have h2:=AA.mk (L7 h0);have hc:AA (E6 p s=0):=⟨by rw[E6,if_neg h0]⟩
  (refine AU rfl Tryz.func15 rfl rfl rfl ?_;show Wp _ _ _ _ (Tryz.f15.body.get rfl) _ _;simp only[Tryz.f15,Option.get_some])
  (repeat' (first|simp only[go_sem, *,CI]|(refine sx ?_ ?_<;>intro hc)|refine sy (by omega) fun x hx hm=>?_|simp(disch:=first|assumption|omega) only[wrap_id,AF,AC,slice_int]))
  rw[h2.out,hc.out]
theorem kL(p:AL)(s:Bz)(n:Int)(hp: ∀s∈p.free,s.size≤maxLen):Au (KL Tryz.prog cfg) 17 [pA p,sA s,.d (.int .i64 (n))] []=.ok (.ret (.tup [eT (G6 p s n).1,.d (.int .i64 ((G6 p s n).2))]),[]):=by
 obtain⟨r,hr,hpost⟩:=OK p s hp 10 [];replace hp:=AA.mk hp;by_cases h0:A8 p s=0
 .obtain⟨st,id,V,g,rfl,hL⟩:=hpost.good h0;have hg:=hL.own;have g0: ∀n,¬n=10→ ∀L,AB.get (g++L) [0,n]=AB.get L [0,n]:=fun n hn L=>A2 (hg _ (Bd [] hn));replace hg:=AA.mk hg;obtain⟨st2,hf⟩:=Ko h0;have hlk:=hL.looks;rw[hf.looks]at hlk;cases hlk;have hF:=hf.formed;have hs:=hf.sok;replace hL:=AA.mk hL;replace hF:=AA.mk hF;replace hs:=AA.mk hs
  (refine AU rfl Tryz.func17 rfl rfl rfl ?_;show Wp _ _ _ _ (Tryz.f17.body.get rfl) _ _;simp only[Tryz.f17,Option.get_some])
  refine aw ?_;refine W8 fun r0 hr0=>?_;have hTm:=OX hF.out hs.out;obtain⟨I,hI⟩: ∃I:List C9→AB→Prop,I=fun l g=>g.get [0,12]=some (.loop r0)∧g.get [0,3]=some (.box [.d (.int .i64 (0)),.d (.int .i64 (0)),.d (.int .i64 (0)),.nils])∧g.get [0,4]=some (.box [.d (.int .i64 0)])∧g.get [0,2]=some (.box [.d (.int .i64 (n))])∧ ∃pre:List C9,BE p s=pre++l∧g.get [0,6]=some (.box [.d (.int .i64 (pre.length))])∧ ¬(0≤n∧n<pre.length):=⟨_,rfl⟩;obtain⟨D,hD⟩: ∃D:AQ→AB→Prop,D=fun o g=>o=.ret (.d (.bool (false)))∧g.get [0,12]=some (.loop {r0 with state:=.done,pend:=some .ret})∧g.get [0,4]=some (.box [.d (.int .i64 0)])∧ ∃x pv,0≤n∧(BE p s)[n.toNat]? =some x∧g.get [0,3]=some (.box [.d (.int .i64 (x.wait)),.d (.int .i64 (x.group)),.d (.int .i64 (x.rule)),pv])∧((pv=.nils∧x.picks=[])∨XA g pv x.picks):=⟨_,rfl⟩
  have hE:N8 Wi [0,12] (fun i=>i=[0,12]∨i=[0,6]) I D [13]:=by
   refine⟨.inl rfl,fun i hi=>?_,fun hI2=>?_,fun{x l H ρ v r} hI2 hr hv hρ hid=>?_,fun hI2 hs=>?_,fun hD2 hs=>?_⟩
   .rcases hi with rfl|rfl<;>rfl
   .rw[hI]at hI2;exact⟨_,hI2.1⟩
   .rw[hI]at hI2;obtain⟨g9,g3,g4,g2,pre,hpre,g6,hnot⟩:=hI2;rw[g9]at hr;cases hr;obtain⟨pv,rfl,hpv⟩:=hv;have hpc:pv.isCell=true:=by rcases hpv with⟨rfl,_⟩|⟨_,rfl,_⟩<;>rfl
    have hl:=congrArg List.length hpre;rw[List.length_append,List.length_cons]at hl;have w1:IntKind.i64.wrap ((pre.length:Int)+1)=(pre.length:Int)+1:=wrap_id (by omega) (by omega);have u2:=hρ [0,2] rfl;have u3:=hρ [0,3] rfl;have u4:=hρ [0,4] rfl;have u6:=hρ [0,6] rfl;have u9:=hρ [0,12] rfl;have a2:=AI u2;have a3:=AI u3;have a4:=AI u4;have a6:=AI u6;have a9:=AI u9;have b3:=Ao u3;have b4:=Ao u4;have b6:=Ao u6;have b9:=Ao u9;subst hr0;replace hI:=AA.mk hI;replace hD:=AA.mk hD;replace hpre:=AA.mk hpre;replace hnot:=AA.mk hnot;replace hl:=AA.mk hl;replace hpv:=AA.mk hpv;replace hρ:=AA.mk hρ;replace hid:=AA.mk hid;clear hTm;by_cases hkn:(pre.length:Int)=n
    .refine Ha rfl ?_;refine ax ?_;refine .inr ⟨.inl rfl,?_,fun i q1 q2=>?_⟩
     .rw[hD.out];refine⟨rfl,?_,?_,x,pv,by omega,?_,?_,hpv.out.imp_right fun⟨id,e,k1,l,k2⟩=>⟨id,e,?_,l,k2⟩⟩
      .simp only[go_sem]
      .simp only[go_sem,Bool.false_eq_true]
      .rw[hpre.out,show n.toNat=pre.length by omega];simp
      .simp only[go_sem,Bool.false_eq_true]
      .subst k2;have u:=AI (hid.out (1::l) (by rw[e];simp[AE,An])).2 0 0;simp only[go_sem,u,k1,Bool.false_eq_true]
     .have p1: ∀k,¬k=13→Id.is [0,k] i=false:=fun k hk=>AM fun e=>by subst e;rw[Bd [] hk]at q1;cases q1
      have p2:=AI q2 0 0;simp only[go_sem,p1 12 (by decide),p1 3 (by decide),p1 4 (by decide),p2,Bool.false_eq_true]
    .refine Ha rfl ?_;refine ax ?_;refine .inl ⟨rfl,?_,fun i q1 q2=>?_⟩
     .rw[hI.out];refine⟨?_,?_,?_,?_,pre++[x],by rw[hpre.out];simp,?_,fun hn=>hnot.out ⟨hn.1,by have:=hn.2;simp at this;omega⟩⟩
      .simp only[go_sem]
      .simp only[go_sem,a3,g3,Bool.false_eq_true]
      .simp only[go_sem,a4,g4,Bool.false_eq_true]
      .simp only[go_sem,a2,g2,Bool.false_eq_true]
      .rw[List.length_append];simp only[go_sem,Bool.false_eq_true];rfl
     .have p1:=AM fun e=>q1 (.inl e.symm);have p3:=AM fun e=>q1 (.inr e.symm);have p2:=AI q2 0 0;simp only[go_sem,p1,p2,p3,Bool.false_eq_true]
   .rw[hI]at hI2⊢;obtain⟨k1,k2,k3,k4,pre,k5,k6,k7⟩:=hI2;exact⟨(hs _ rfl).trans k1,(hs _ rfl).trans k2,(hs _ rfl).trans k3,(hs _ rfl).trans k4,pre,k5,(hs _ rfl).trans k6,k7⟩
   .rw[hD]at hD2⊢;obtain⟨k1,k2,k3,x,pv,k4,k5,k6,k7⟩:=hD2;refine⟨k1,(hs _ (.inl rfl)).trans k2,(hs _ (.inl rfl)).trans k3,x,pv,k4,k5,(hs _ (.inl rfl)).trans k6,k7.imp_right fun⟨id,q1,q2,l,q3⟩=>⟨id,q1,(hs _ (.inr ⟨l,q3⟩)).trans q2,l,q3⟩⟩
  refine Io (R4 hF.out (PL hL.out.rep fun i o hi=>?_) (fun i hi=>?_) hs.out hE (fun i hi=>?_) ?_) (fun o1 g5 p1=>?_)
  .have hu:Id.under [10] i=true:=by
    cases hx:Id.under [10] i with
    |true=>rfl
    |false=>rw[hg.out i hx]at hi;cases hi
   have q:Id.is [0,12] i=false:=AM fun e=>by subst e;cases hu
   rw[get_put,q,if_neg (by simp),B6 hi]
  .have:=hL.out.ids i hi;cases hx:Id.under [13] i with
   |false=>rfl
   |true=>have:=EN (π:=[]) this hx;omega
  .have:=hL.out.ids i hi;rintro(rfl|rfl)<;>cases this
  .rw[hI];have g02:=g0 2 (by decide);have g03:=g0 3 (by decide);have g04:=g0 4 (by decide);have g06:=g0 6 (by decide);refine⟨?_,?_,?_,?_,[],rfl,?_,fun hn=>by have:=hn.2;simp at this;omega⟩
   .simp only[go_sem]
   .simp only[go_sem,g03]
   .simp only[go_sem,g04]
   .simp only[go_sem,g02]
   .simp only[go_sem,g06]
  rcases p1 with⟨rfl,p1,p2⟩|⟨rfl,p1⟩|⟨⟨v,rfl⟩,p1⟩
  .rw[hI]at p1;obtain⟨k9,k3,k4,k2,pre,k5,k6,k7⟩:=p1;rw[List.append_nil]at k5;subst hr0;replace p2:=AA.mk p2;replace hI:=AA.mk hI;replace hD:=AA.mk hD;replace hE:=AA.mk hE;replace k5:=AA.mk k5;replace k7:=AA.mk k7;have gg: ∀i,Id.under [12] i=false→Id.under [13] i=false→(gc [12] (gc [13] g5)).get i=g5.get i:=fun i q1 q2=>by rw[Aj _ _ _ q1,Aj _ _ _ q2]
   have k3':=(gg [0,3] rfl rfl).trans k3;have k4':=(gg [0,4] rfl rfl).trans k4;replace gg:=AA.mk gg;refine aw ?_;rw[IW h0 (by rw[k5.out];have:=k7.out;omega)];rfl
  .rw[hD]at p1;obtain⟨_,k9,k4,x,pv,k5,k6,k3,k7⟩:=p1;subst hr0;replace hI:=AA.mk hI;replace hD:=AA.mk hD;replace hE:=AA.mk hE;replace k6:=AA.mk k6;have gg: ∀i,Id.under [12] i=false→Id.under [13] i=false→(gc [12] (gc [13] g5)).get i=g5.get i:=fun i q1 q2=>by rw[Aj _ _ _ q1,Aj _ _ _ q2]
   have k3':=(gg [0,3] rfl rfl).trans k3;have k4':=(gg [0,4] rfl rfl).trans k4;rcases k7 with⟨rfl,k7⟩|⟨id2,rfl,k7,l,rfl⟩
   .replace gg:=AA.mk gg;refine aw ?_;rw[KH h0 k5 k6.out,eT,k7];rfl
   .have k7':(gc [12] (gc [13] g5)).get (1::l)=_:=(Gp _ _ _).trans ((Gp _ _ _).trans k7);replace gg:=AA.mk gg;refine aw ?_;rw[KH h0 k5 k6.out]
  .rw[hD]at p1;cases p1.1
 .obtain rfl:=hpost.bad h0;have h2:=AA.mk (L7 h0);have hc:=AA.mk (QM n h0)
  (refine AU rfl Tryz.func17 rfl rfl rfl ?_;show Wp _ _ _ _ (Tryz.f17.body.get rfl) _ _;simp only[Tryz.f17,Option.get_some])
  (repeat' (first|simp only[go_sem, *,CI]|(refine sx ?_ ?_<;>intro hc)|refine sy (by omega) fun x hx hm=>?_|simp(disch:=first|assumption|omega) only[wrap_id,AF,AC,slice_int]))
  rw[hc.out];rfl
end Go.Proofs
namespace Go.Proofs
open Go Go.Abs
set_option maxRecDepth 100000
set_option maxHeartbeats 4000000
def Vt(sz:Nat)(π:List Nat)(h:AB)(v:AV)(L:List (List AN))(o:AQ)(h':AB):Prop:= ∃v',o=.ret v'∧Nl h' sz v' L∧(∀id∈AE v',id∈AE v∨(Id.under π id=true∧ ∃l,id=1::l))∧ ∀id,id∉AE v→Id.under π id=false→h'.get id=h.get id
structure Dc(sz:Nat)(π:List Nat)(h:AB)(v:AV)(b:Nat)(g:AB)(w:AV)(L:List (List AN)):Prop where
 slv:Nl g sz w L
 ids: ∀id∈AE w,id∈AE v∨ ∃n,n<b∧Id.under (n::π) id=true∧ ∃l,id=1::l
 frame: ∀id,id∉AE v→Id.under π id=false→g.get id=h.get id
section
variable{sz:Nat}{π:List Nat}{h g H g1:AB}{v w:AV}{b k:Nat}{L L':List (List AN)}{o:AQ}
theorem Dc.not(hu: ∀id∈AE v,Id.under π id=false)(hI:Dc sz π h v b g w L){id:Abs.Id}(hid:id∈AE w)(a n:Nat)(hn:b≤n):Id.is (a::n::π) id=false:=by
 rcases hI.ids id hid with h|⟨m,h1,h2,_⟩
 .exact AI (hu id h) a n
 .refine AM fun e=>?_;subst e;have:=EN h2 (n':=n) (under_iff.2 ⟨[a],rfl⟩);omega
theorem Dc.apart(hu: ∀id∈AE v,Id.under π id=false)(hI:Dc sz π h v b g w L){id:Abs.Id}(hid:id∈AE w)(hk:b≤k):Id.under (k::π) id=false:=by
 rcases hI.ids id hid with h|⟨m,h1,h2,_⟩
 .exact AD (hu id h) k
 .cases hx:Id.under (k::π) id with
  |false=>rfl
  |true=>
   have:=EN h2 hx;omega
theorem Dc.loc(hu: ∀id∈AE v,Id.under π id=false)(hI:Dc sz π h v b g w L)(hl: ∀id,(∀a n,b≤n→Id.is (a::n::π) id=false)→H.get id=g.get id):Dc sz π h v b H w L:=
 ⟨GK hI.slv fun id hid=>hl id fun a n hn=>hI.not hu hid a n hn,hI.ids,fun id h1 h2=>by rw[hl id fun a n _=>AI h2 a n];exact hI.frame id h1 h2⟩
theorem Dc.up(hI:Dc sz π h v b g w L){b':Nat}(hb:b≤b'):Dc sz π h v b' g w L:=⟨hI.slv,fun id hid=>(hI.ids id hid).imp_right fun⟨n,h1,h2⟩=>⟨n,by omega,h2⟩,hI.frame⟩
theorem Dc.call(hu: ∀id∈AE v,Id.under π id=false)(hI:Dc sz π h v b H w L)(hk:b≤k)(ho:Vt sz (k::π) H w L' o g1): ∃w',o=.ret w'∧Dc sz π h v (k+1) (gc (k::π) g1) w' L':=by
 obtain⟨w',h1,h2,h3,h4⟩:=ho;have hw: ∀id∈AE w',(gc (k::π) g1).get id=g1.get id:=fun id hid=>by
  rcases h3 id hid with e|⟨_,l,rfl⟩
  .exact Aj _ _ _ (hI.apart hu e hk)
  .exact Gp _ _ _
 refine⟨w',h1,GK h2 hw,fun id hid=>?_,fun id a1 a2=>?_⟩
 .rcases h3 id hid with e|e
  .exact(hI.ids id e).imp_right fun⟨n,q1,q2⟩=>⟨n,by omega,q2⟩
  .exact .inr ⟨k,by omega,e⟩
 .rw[Aj _ _ _ (AD a2 k),h4 id (fun hw=>?_) (AD a2 k)]
  .exact hI.frame id a1 a2
  .rcases hI.ids id hw with hh|⟨n,_,q2,_⟩
   .exact a1 hh
   .rw[DY q2]at a2;cases a2
theorem Dc.fin(hI:Dc sz π h v b g w L):Vt sz π h v L (.ret w) g:=⟨w,rfl,hI.slv,fun id hid=>(hI.ids id hid).imp_right fun⟨n,_,q2,q3⟩=>⟨DY q2,q3⟩,hI.frame⟩
end
theorem K0: ∀{l:List Nat},(∀n∈l,n≤12)→(BB l).length≤12 ^ l.length
 |[],_=>by simp[BB]
 |n::l,h=>by
  have h1:=K0 (l:=l) fun n hn=>h n (List.mem_cons_of_mem _ hn);have h2:=h n (by simp);have key: ∀m,((List.range m).flatMap fun(i:Nat)=>(BB l).map fun t=>(i:Int)::t).length=m*(BB l).length:=fun m=>by
   induction m with
   |zero=>simp
   |succ m ih=>rw[List.range_succ,List.flatMap_append,List.length_append,ih];simp[Nat.add_mul]
  rw[BB,key,List.length_cons,Nat.pow_succ,Nat.mul_comm];exact Nat.mul_le_mul h1 h2
theorem Sr(a0 b:Int)(many:List Nat)(hm0:0<many.length)(hm:many.length≤3)(hmm: ∀n∈many,n≤12): ∀(k:Nat) (h:AB) (π:List Nat) (v tv:AV) (acc:List C9) (t:List Int),acc.length+12 ^ k≤100000000→Nl h 4 v (acc.map Dn)→Nl h 1 tv (t.map AG)→(t.length=0→tv=.nils)→(∀id,id∈AE v∨id∈AE tv→Id.under π id=false)→t.length+k=many.length→
 ∃o h',KL Tryz.prog cfg (.fn 73) [v,.d (.int .i64 (a0)),.d (.int .i64 (b)),.d (.lst ((many.map fun(n:Nat)=>(n:Int)).map AG)),tv] h π true none=.ok (o,h')∧Vt 4 π h v ((acc++(BB (many.drop t.length)).map fun u=>(⟨-1,a0,b,t++u⟩:C9)).map Dn) o h'
 |0,h,π,v,tv,acc,t,ha,hv,ht,htn,hu,hk=>by
  have e0:many.drop t.length=[]:=List.drop_eq_nil_of_le (by omega);rw[e0];simp only[BB,List.map_cons,List.map_nil,List.append_nil];rcases ht with⟨rfl,hz⟩|⟨ti,tx,rfl,gt⟩
  .rw[List.map_eq_nil_iff.1 hz]at hk;simp at hk;omega
  have ut:=hu ti (.inr (by simp[AE]));have e1:=AI ut;have e2:=Ao ut;rw[List.length_map];have tl:t.length=many.length:=by omega
  have tl0:0<t.length:=by omega
  have ap:=MJ t many.length (by omega) (by omega) (by omega);have tk:=PD t tx many.length (by omega);have tk2:List.take many.length (t.map AG)=t.map AG:=List.take_of_length_le (by simp;omega);rcases hv with⟨rfl,hz2⟩|⟨vi,vx,rfl,gv⟩
  .have hz3:=List.map_eq_nil_iff.1 hz2;subst hz3
   (refine A0 rfl Tryz.func73 rfl rfl rfl ?_;show Wp _ _ _ _ (Tryz.f73.body.get rfl) _ _;simp only[Tryz.f73,Option.get_some])
   refine aw ?_;refine⟨_,rfl,GH [] rfl ?_,fun id hid=>.inr ?_,fun id h1 h2=>?_⟩
   .simp only[go_sem]
   .simp only[AE,List.mem_singleton]at hid;subst hid;exact⟨Dm [1,14],_,rfl⟩
   .have q:=AI h2;simp only[go_sem,q,Bool.false_eq_true]
  .have uv:=hu vi (.inl (by simp[AE]));have e3:=AI uv;have e4:=Ao uv;rw[List.length_map];rcases vx with _|⟨y,vx⟩
   ·(refine A0 rfl Tryz.func73 rfl rfl rfl ?_;show Wp _ _ _ _ (Tryz.f73.body.get rfl) _ _;simp only[Tryz.f73,Option.get_some])
    refine ax ?_;refine⟨_,rfl,GH [] (by simp) ?_,fun id hid=>.inr ?_,fun id h1 h2=>?_⟩
    .simp only[go_sem,List.map_append,List.map_nil,Bool.false_eq_true]
    .simp only[AE,List.mem_singleton]at hid;subst hid;exact⟨Dm [1,14],_,rfl⟩
    .have q:=AI h2;have q2:Id.is vi id=false:=AM fun e=>h1 (by simp[AE,e]);simp only[go_sem,q,q2,Bool.false_eq_true]
   ·(refine A0 rfl Tryz.func73 rfl rfl rfl ?_;show Wp _ _ _ _ (Tryz.f73.body.get rfl) _ _;simp only[Tryz.f73,Option.get_some])
    refine ax ?_;refine⟨_,rfl,GH vx (by simp) ?_,fun _ h=>.inl h,fun id h1 h2=>?_⟩
    .simp only[go_sem,List.map_append,List.map_nil,Bool.false_eq_true]
    .have q:=AI h2;have q2:Id.is vi id=false:=AM fun e=>h1 (by simp[AE,e]);simp only[go_sem,q,q2,Bool.false_eq_true]
 |k+1,h,π,v,tv,acc,t,ha,hv,ht,htn,hu,hk=>by
  have IH:=Sr a0 b many hm0 hm hmm k;obtain⟨n,hn⟩:=get_some (l:=many) (i:=t.length) (by omega);have hn12:=hmm n (List.mem_of_getElem? hn);have hdr:=AJ hn;obtain⟨f,hf⟩: ∃f:Nat→List C9,f=fun i=>(List.range i).flatMap fun(c:Nat)=>(BB (many.drop (t.length+1))).map fun u=>(⟨-1,a0,b,t++[(c:Int)]++u⟩:C9):=⟨_,rfl⟩;have hf0:f 0=[]:=by rw[hf];rfl
  have hfs: ∀i,f (i+1)=f i++(BB (many.drop (t.length+1))).map fun u=>(⟨-1,a0,b,t++[(i:Int)]++u⟩:C9):=fun i=>by rw[hf];simp[List.range_succ]
  have hfn:((BB (many.drop t.length)).map fun u=>(⟨-1,a0,b,t++u⟩:C9))=f n:=by
   rw[hdr,BB,hf,List.map_flatMap];simp[List.map_map,Function.comp_def]
  have hfl: ∀i,i≤n→(f i).length≤i*12 ^ k:=fun i=>by
   induction i with
   |zero=>simp[hf0]
   |succ i ih=>
    intro h;have h1:=ih (by omega);have h2:=K0 (l:=many.drop (t.length+1)) fun n hn=>hmm n (List.mem_of_mem_drop hn);rw[hfs,List.length_append,List.length_map,Nat.add_mul,Nat.one_mul];rw[show(many.drop (t.length+1)).length=k by rw[List.length_drop];omega]at h2;omega
  rw[hfn];have hmi:(many.map fun(n:Nat)=>(n:Int))[t.length]? =some (n:Int):=by rw[List.getElem?_map,hn];rfl
  have tl: ¬(t.length:Int)=many.length:=by omega
  have tl2:t.length<many.length:=by omega
  have hle: ∀i,i<n→(acc++f i).length+12 ^ k≤100000000:=fun i hi=>by
   have h1:=hfl i (by omega);have h2:(i+1)*12 ^ k≤12*12 ^ k:=Nat.mul_le_mul_right _ (by omega);rw[Nat.add_mul,Nat.one_mul]at h2;rw[Nat.pow_succ,Nat.mul_comm]at ha;rw[List.length_append];omega
  clear hfl;replace hle:=AA.mk hle;replace hdr:=AA.mk hdr;replace hfn:=AA.mk hfn;replace hf:=AA.mk hf;replace hfs:=AA.mk hfs;replace hu:=AA.mk hu;replace hv:=AA.mk hv;have huv: ∀id∈AE v,Id.under π id=false:=fun id hid=>hu.out id (.inl hid);rcases ht with⟨rfl,hz⟩|⟨ti,tx,rfl,gt⟩
  .have hz2:=List.map_eq_nil_iff.1 hz;subst hz2;clear hz;simp only[List.length_nil,Nat.zero_add]at hk hn hmi hdr hfs hf;clear tl tl2;have tl: ¬(0:Int)=many.length:=by omega
   (refine A0 rfl Tryz.func73 rfl rfl rfl ?_;show Wp _ _ _ _ (Tryz.f73.body.get rfl) _ _;simp only[Tryz.f73,Option.get_some])
   refine aw ?_;refine AO (List.range n) (n:Int) (S:=fun _ i (a:(AV×AB)×Nat)=>⟨[(0,a.1.1),(1,.d (.int .i64 (a0))),(2,.d (.int .i64 (b))),(3,.d (.lst ((many.map fun(n:Nat)=>(n:Int)).map AG))),(4,.nils),(11,.d (.int .i64 (i)))],a.1.2,a.2+7,[]⟩)
    (Inv:=fun i rest a=>AA (Dc 4 π h v (a.2+7) a.1.2 a.1.1 ((acc++f i).map Dn))) (b0:=((_,_),0)) (by simp) ⟨?_⟩ ?_ ?_
   .simp only[hf0,List.append_nil];exact⟨hv.out,fun id hid=>.inl hid,fun _ _ _=>rfl⟩
   .rintro i y ⟨⟨w,g⟩,c⟩ hy hi him hI IHL;dsimp only at*;have hin:i<n:=by simpa using hi
    refine aw ?_;have hlo: ∀id,(∀a n,c+7≤n→Id.is (a::n::π) id=false)→((g.put (1::(c+22)::π) (.darr 1 [[.int .i64 i]])).put (1::(c+23)::π) (.darr 1 [[.int .i64 i]])).get id=g.get id:=fun id hid=>by
     rw[get_put,get_put,hid _ _ (by omega),hid _ _ (by omega)];rfl
    have hI2:=hI.out.loc huv hlo;refine Ax (IH _ ((c+24)::π) w (.osl (1::(c+23)::π) 0 1) (acc++f i) [(i:Int)] (hle.out i hin) hI2.slv (GH [] rfl ?_) (by simp) (fun id hid=>?_) (by simp;omega)) (fun o1 g1 p1=>?_)
    .simp only[go_sem]
    .rcases hid with hid|hid
     .exact hI2.apart huv hid (by omega)
     .simp only[AE,List.mem_singleton]at hid;subst hid;exact Ew _ _ _ _ (by omega)
    obtain⟨w',rfl,hI3⟩:=hI2.call huv (by omega) p1;clear p1;replace hI3:=AA.mk hI3;refine aw ?_;refine IHL.out ((w',_),c+22) ⟨?_⟩;have hL:=hI3.out.up (b':=c+22+7) (by omega)
    rwa [show(acc++f i++(BB (many.drop [(i:Int)].length)).map fun u=>(⟨-1,a0,b,[(i:Int)]++u⟩:C9))=acc++f (i+1) by rw[hfs.out,←List.append_assoc];rfl]at hL
   .rintro i ⟨⟨w,g⟩,c⟩ hi him hI;dsimp only at*;have hin:i=n:=by have:=hi.out;simpa using this
    subst hin;refine aw ?_;exact hI.out.fin
  .rw[List.length_map];have ut:=hu.out ti (.inr (by simp[AE]));have e1:=AI ut;have e2:=Ao ut;have tl0:0<t.length:=Nat.pos_of_ne_zero fun e=>by cases htn e
   have tb:t.length≤3:=by omega
   have ap:=MJ t t.length rfl tl0 (by omega);have tk:=PD t tx t.length rfl;have hvt:ti∉AE v:=fun e=>by
    obtain⟨x,hx⟩:=HS hv.out e;rw[gt]at hx;cases hx
   (refine A0 rfl Tryz.func73 rfl rfl rfl ?_;show Wp _ _ _ _ (Tryz.f73.body.get rfl) _ _;simp only[Tryz.f73,Option.get_some])
   refine aw ?_;refine AO (List.range n) (n:Int) (S:=fun _ i (a:(AV×AB)×Nat)=>⟨[(0,a.1.1),(1,.d (.int .i64 (a0))),(2,.d (.int .i64 (b))),(3,.d (.lst ((many.map fun(n:Nat)=>(n:Int)).map AG))),(4,.osl ti 0 t.length),(11,.d (.int .i64 (i)))],a.1.2,a.2+7,[]⟩)
    (Inv:=fun i rest a=>AA (Dc 4 π h v (a.2+7) a.1.2 a.1.1 ((acc++f i).map Dn))) (b0:=((_,_),0)) (by simp) ⟨?_⟩ ?_ ?_
   .simp only[hf0,List.append_nil];exact⟨hv.out,fun id hid=>.inl hid,fun _ _ _=>rfl⟩
   .rintro i y ⟨⟨w,g⟩,c⟩ hy hi him hI IHL;dsimp only at*;have hin:i<n:=by simpa using hi
    have gt2:=(hI.out.frame ti hvt ut).trans gt;have hlo: ∀id,(∀a n,c+7≤n→Id.is (a::n::π) id=false)→((((g.put (1::(c+20)::π) (.darr 1 (t.map AG))).put (1::(c+22)::π) (.darr 1 [[.int .i64 i]])).put (1::(c+20)::π) (.fro 0 [])).put (1::(c+23)::π) (.darr 1 (t.map AG++[[.int .i64 i]]))).get id=g.get id:=fun id hid=>by
     rw[get_put,get_put,get_put,get_put,hid _ _ (by omega),hid _ _ (by omega),hid _ _ (by omega)];rfl
    have hI2:=hI.out.loc huv hlo;replace hI:=AA.mk hI2;have c2: ¬c+2=c:=by omega
    have c3: ¬c+3=c:=by omega
    refine ax ?_;refine Ax (IH _ ((c+24)::π) w (.osl (1::(c+23)::π) 0 (t.length+1)) (acc++f i) (t++[(i:Int)]) (hle.out i hin) hI2.slv (GH [] (by simp) ?_) (by simp) (fun id hid=>?_) (by simp;omega)) (fun o1 g1 p1=>?_)
    .simp only[go_sem,List.map_append]
    .rcases hid with hid|hid
     .exact hI2.apart huv hid (by omega)
     .simp only[AE,List.mem_singleton]at hid;subst hid;exact Ew _ _ _ _ (by omega)
    obtain⟨w',rfl,hI3⟩:=hI2.call huv (by omega) p1;clear p1;replace hI3:=AA.mk hI3;refine aw ?_;refine IHL.out ((w',_),c+22) ⟨?_⟩;have hL:=hI3.out.up (b':=c+22+7) (by omega)
    rwa [show(acc++f i++(BB (many.drop (t++[(i:Int)]).length)).map fun u=>(⟨-1,a0,b,t++[(i:Int)]++u⟩:C9))=acc++f (i+1) by rw[hfs.out,←List.append_assoc,List.length_append];rfl]at hL
   .rintro i ⟨⟨w,g⟩,c⟩ hi him hI;dsimp only at*;have hin:i=n:=by have:=hi.out;simpa using this
    subst hin;refine aw ?_;exact hI.out.fin
end Go.Proofs
namespace Go.Proofs
open Go Go.Abs
set_option maxRecDepth 100000
set_option maxHeartbeats 4000000
theorem bf(b:Nat)(e:BI)(h:AB)(bs:Nat)(π:List Nat)(prot:Option (List Nat))(rnd:Bool)(nt:Nat):DS cfg ⟨34,π,false,prot,rnd,nt⟩ b ⟨e,h,bs,[]⟩=LG cfg 34 π b e h:=by
 rw[EP];exact Kt _ _ _ _ _
attribute [go_sem 2000] bf
structure bk(p:AL)(s:Bz)(A B:Abs.Id)(v:AV)(g:AB)(b:Nat)(L:List C9):Prop where
 pa:g.get A=some (.box [.d (.lst (p.free.map AY)),.d (.lst (p.nodes.map AP)),.d (.lst (p.defs.map Ab)),.d (.int .i64 (p.main))])
 sb:g.get B=some (.box [.d (.lst (s.spots.map AX)),.d (.lst (s.groups.map Aa)),.d (.lst (s.chans.map Bp)),.d (.lst (s.waits.map A3))])
 slv:Nl g 4 v (L.map Dn)
 na:Ga [] b A
 nb:Ga [] b B
 nv: ∀id∈AE v,Ga [] b id
theorem S2{π:List Nat}{b:Nat}{A:Abs.Id}(h:Ga π b A)(t j:Nat)(hj:b≤j):Id.is (t::j::π) A=false:=by
 obtain⟨t',j',h1,rfl⟩:=h;exact AM (by simp;omega)
theorem Mo{π:List Nat}{b:Nat}{A:Abs.Id}(h:Ga π b A)(t j:Nat)(hj:b≤j):Id.is A (t::j::π)=false:=by
 obtain⟨t',j',h1,rfl⟩:=h;exact AM (by simp;omega)
theorem Xx(l:List (Nat×AN)):Hx (l.map fun y=>(y.1,AV.d y.2))=[]:=by
 induction l with
 |nil=>rfl
 |cons x l ih=>simp[Hx,AE,An]at*;exact ih
theorem DG{K:AH}{fr:Fr}{bl:Nat}{x:Code}{Q:Cq→St→Prop}{E:BI}{H:AB}{p:AL}{s:Bz}{A B:Abs.Id}{v:AV}{L:List C9}(rest:List (Nat×AN))
 (hE:JL E (cfg.live 34 bl)=(2,.ptr A 0)::(3,.ptr B 0)::(5,v)::rest.map fun y=>(y.1,AV.d y.2)) (h1:H.get A=some (.box [.d (.lst (p.free.map AY)),.d (.lst (p.nodes.map AP)),.d (.lst (p.defs.map Ab)),.d (.int .i64 (p.main))])) (h2:H.get B=some (.box [.d (.lst (s.spots.map AX)),.d (.lst (s.groups.map Aa)),.d (.lst (s.chans.map Bp)),.d (.lst (s.waits.map A3))])) (h3:Nl H 4 v (L.map Dn))
 (hn: ∀A' B' v' g b,bk p s A' B' v' g b L→ZT cfg K fr bl x ⟨(2,.ptr A' 0)::(3,.ptr B' 0)::(5,v')::rest.map fun y=>(y.1,AV.d y.2),g,b,[]⟩ Q):ZT cfg K fr bl x (LG cfg 34 [] bl E H) Q:=by
 rw[EP,hE];have hvl:(AE v).length≤1:=by rcases h3 with⟨rfl,_⟩|⟨id,x,rfl,_⟩<;>simp[AE]
 obtain⟨ν,h',n,hc,hnM,hR⟩:=Lb [] H ((2,.ptr A 0)::(3,.ptr B 0)::(5,v)::rest.map fun y=>(y.1,AV.d y.2)) (A::B::AE v) (by simp only[List.length_cons];omega) (by
  intro y hy;have h0:=Xx rest;have e0:Hx ((2,.ptr A 0)::(3,.ptr B 0)::(5,v)::rest.map fun y=>(y.1,AV.d y.2))=A::B::(AE v++Hx (rest.map fun y=>(y.1,AV.d y.2))):=by simp[Hx,An,AE]
  rw[e0,h0]at hy;simpa using hy) (by
  intro y hy z hz;rcases List.mem_cons.1 hy with rfl|hy
  .rw[h1]at hz;simp[Eg,An,AE]at hz
  rcases List.mem_cons.1 hy with rfl|hy
  .rw[h2]at hz;simp[Eg,An,AE]at hz
  .obtain⟨x,hx⟩:=HS h3 hy;rw[hx]at hz;simp[Eg]at hz)
 obtain⟨z,hz⟩:=hR.env A (by simp[Hx,AE,An]);obtain⟨z2,hz2⟩:=hR.env B (by simp[Hx,AE,An]);have g1:=hR.get A z _ hz h1;have g2:=hR.get B z2 _ hz2 h2;simp[Eu,Fk,GQ]at g1 g2;have hnm: ∀x z,ν x=some z→Ga [] n z:=fun x z h=>by obtain⟨j,hj,rfl⟩:=hR.name x z h;exact⟨_,j,hj,rfl⟩
 have hrest: ∀l:List (Nat×AN),(l.map fun y=>(y.1,AV.d y.2)).map (fun p=>(p.1,GQ ν p.2))=l.map fun y=>(y.1,AV.d y.2):=fun l=>by simp[GQ]
 rw[hc,List.map_cons,List.map_cons,List.map_cons,hrest];have key:Nl h' 4 (GQ ν v) (L.map Dn)∧ ∀id∈AE (GQ ν v),Ga [] n id:=by
  rcases h3 with⟨rfl,hz⟩|⟨id,x,rfl,hg⟩
  .exact⟨.inl ⟨by simp[GQ],hz⟩,by simp[GQ,AE]⟩
  .obtain⟨y,hy⟩:=hR.env id (by simp[Hx,AE,An]);have hg:=hR.get id y _ hy hg;have e:GQ ν (.osl id 0 (L.map Dn).length)=.osl y 0 (L.map Dn).length:=by simp[GQ,hy]
   rw[e];exact⟨.inr ⟨y,x,rfl,by simpa[Eu]using hg⟩,fun id hid=>by
    simp only[AE,List.mem_singleton]at hid;subst hid;exact hnm _ _ hy⟩
 have:=hn z z2 (GQ ν v) h' n ⟨g1,g2,key.1,hnm _ _ hz,hnm _ _ hz2,key.2⟩;simpa[GQ,hz,hz2]using this
theorem NF{π:List Nat}{b n:Nat}{A:Abs.Id}(h:Ga π b A)(hn:b≤n):Id.under (n::π) A=false:=by
 obtain⟨t',j',h1,rfl⟩:=h;exact Ew _ _ _ _ (by omega)
theorem Vs{p:AL}{sz:List Int}{s:Bz}{g:Ae}{d:Ba}{r:Ey}(h:WR p sz s g d r):(Fy s d g r=[]∧CV s d g r=[])∨ ∃many:List Nat,Fy s d g r=many.map (fun(n:Nat)=>(n:Int))∧CV s d g r=BB many∧0<many.length∧many.length≤3∧ ∀n∈many,n≤12:=by
 unfold Fy CV Jc;by_cases hd:A5 s.spots (g.place d r.at_)=true
 .exact .inl ⟨by rw[if_pos hd],by rw[if_pos hd]⟩
 rw[if_neg hd,if_neg hd];by_cases hz:0∈BO s d g r
 .exact .inl ⟨by rw[if_pos hz],Lv hz⟩
 .refine .inr ⟨_,by rw[if_neg hz],rfl,by simpa[BO]using h.j0,by simpa[BO]using h.j1,fun n hn=>?_⟩;obtain⟨c,hc,rfl⟩:=List.mem_map.1 hn;obtain⟨_,_,_,q,_,h1,h2⟩:=h.join c hc;rw[h2];exact h1
theorem OQ(p:AL)(s:Bz): ∀(l:List Hs) (i:Nat),(BQ p s i l).length≤l.length
 |[],i=>by simp[BQ]
 |w::l,i=>by
  have:=OQ p s l (i+1);rw[BQ,List.length_append,List.length_cons];split<;>simp<;>omega
theorem M4{p:AL}{sz:List Int}{s:Bz}(hF:Dz p sz)(hs:TT p sz s):Au (KL Tryz.prog cfg) 34 [pA p,sA s] []=.ok (.ret (.d (.lst ((BE p s).map Dn))),[]):=by
 have hss:=hs.small;simp only[Bz.small,Bool.and_eq_true,decide_eq_true_eq]at hss;obtain⟨s1,s2,s3,s4⟩:=hss;have hwl:=AA.mk (OQ p s s.waits 0);obtain⟨W,hW⟩: ∃W,W=BQ p s 0 s.waits:=⟨_,rfl⟩;have hst:AA (BE p s=W++Bg p s 0 s.groups):=⟨by rw[BE,hW]⟩;rw[←hW]at hwl;replace hs:=AA.mk hs;replace hF:=AA.mk hF
 (refine AU rfl Tryz.func34 rfl rfl rfl ?_;show Wp _ _ _ _ (Tryz.f34.body.get rfl) _ _;simp only[Tryz.f34,Option.get_some])
 refine aw ?_;refine DG [(6,.int .i64 0)] rfl (by simp only[go_sem];rfl) (by simp only[go_sem];rfl) (L:=[]) (.inl ⟨rfl,rfl⟩) fun A B v g b hI=>?_;refine Ad s.waits (S:=fun i (a:Abs.Id×Abs.Id×AV×AB×Nat)=>⟨[(2,.ptr a.1 0),(3,.ptr a.2.1 0),(5,a.2.2.1),(6,.d (.int .i64 (i)))],a.2.2.2.1,a.2.2.2.2,[]⟩)
  (Inv:=fun i rest a=>AA (∃L,bk p s a.1 a.2.1 a.2.2.1 a.2.2.2.1 a.2.2.2.2 L∧L++BQ p s i rest=W)) (b0:=(A,B,v,g,b)) ⟨_,hI,by rw[hW];rfl⟩ ?_ ?_
 .clear hI A B v g b;rintro i w ⟨A,B,v,g,b⟩ hy hi him hI IH;obtain⟨L,hI,hL⟩:=hI.out;dsimp only at*;obtain⟨x,hw⟩:=Wz hF.out (hs.out.wait w (List.mem_of_getElem? hy));have hg:=bp hF.out hs.out hw;have pa:=hI.pa;have sb:=hI.sb;have na:=S2 hI.na;have na':=Mo hI.na;have nb:=S2 hI.nb;have nb':=Mo hI.nb;have hLl:L.length≤100:=by
   have:=hwl.out;rw[←hL,List.length_append]at this;omega
  rw[BQ]at hL;replace hL:=AA.mk hL;replace hw:=AA.mk hw;have fin:AA (∀A' B' v' g' b' L',L'=L++(if goes p s w=true then [⟨i,0,0,[]⟩]else [])→bk p s A' B' v' g' b' L'→_):=⟨fun A' B' v' g' b' L' hL' hI'=>IH.out (A',B',v',g',b') ⟨L',hI',by rw[←hL.out,hL',List.append_assoc]⟩⟩;rcases hI.slv with⟨rfl,hz⟩|⟨id,xs,rfl,gv⟩
  .have hz2:=List.map_eq_nil_iff.1 hz;subst hz2;replace hI:=AA.mk hI
   (repeat' (first|simp only[go_sem, *]|(refine sx ?_ ?_<;>intro hc)|refine sy (by omega) fun x hx hm=>?_|simp(disch:=first|assumption|omega) only[wrap_id,AF,AC,slice_int]))
   .refine DG [(6,.int .i64 (i+1))] rfl (by simp only[go_sem,na,pa,Bool.false_eq_true]) (by simp only[go_sem,nb,sb,Bool.false_eq_true]) (L:=[⟨i,0,0,[]⟩]) (GH [] rfl (by simp only[go_sem])) fun A B v g b hI2=>fin.out A B v g b _ (by simp[*]) hI2
   .exact DG [(6,.int .i64 (i+1))] rfl pa sb (L:=[]) (.inl ⟨rfl,rfl⟩) fun A B v g b hI2=>fin.out A B v g b _ (by simp[*]) hI2
  .have ni:=S2 (hI.nv id (by simp[AE]));have ni':=Mo (hI.nv id (by simp[AE]));have ai:Id.is A id=false:=AM fun e=>by rw[←e,pa]at gv;cases gv
   have ia:Id.is id A=false:=AM fun e=>by rw[e,pa]at gv;cases gv
   have bi:Id.is B id=false:=AM fun e=>by rw[←e,sb]at gv;cases gv
   have ib:Id.is id B=false:=AM fun e=>by rw[e,sb]at gv;cases gv
   rw[List.length_map];replace hI:=AA.mk hI;rcases xs with _|⟨y,xs⟩
   ·(repeat' (first|simp only[go_sem, *,Bool.false_eq_true]|(refine sx ?_ ?_<;>intro hc)|refine sy (by omega) fun x hx hm=>?_|simp(disch:=first|assumption|omega) only[wrap_id,AF,AC,slice_int]))
    .refine DG [(6,.int .i64 (i+1))] rfl (by simp only[go_sem,na,ia,pa,Bool.false_eq_true]) (by simp only[go_sem,nb,ib,sb,Bool.false_eq_true]) (L:=L++[⟨i,0,0,[]⟩]) (GH [] (by simp) (by simp only[go_sem,ni,List.map_append,Bool.false_eq_true];done)) fun A B v g b hI2=>fin.out A B v g b _ (by simp[*]) hI2
    .exact DG [(6,.int .i64 (i+1))] rfl pa sb (L:=L) (GH [] (by simp) gv) fun A B v g b hI2=>fin.out A B v g b _ (by simp[*]) hI2
   ·(repeat' (first|simp only[go_sem, *,Bool.false_eq_true]|(refine sx ?_ ?_<;>intro hc)|refine sy (by omega) fun x hx hm=>?_|simp(disch:=first|assumption|omega) only[wrap_id,AF,AC,slice_int]))
    .refine DG [(6,.int .i64 (i+1))] rfl (by simp only[go_sem,na,ia,pa,Bool.false_eq_true]) (by simp only[go_sem,nb,ib,sb,Bool.false_eq_true]) (L:=L++[⟨i,0,0,[]⟩]) (GH xs (by simp) (by simp only[go_sem,ni,List.map_append,Bool.false_eq_true];done)) fun A B v g b hI2=>fin.out A B v g b _ (by simp[*]) hI2
    .exact DG [(6,.int .i64 (i+1))] rfl pa sb (L:=L) (GH (y::xs) (by simp) gv) fun A B v g b hI2=>fin.out A B v g b _ (by simp[*]) hI2
 .rintro i ⟨A,B,v,g,b⟩ hi him hI;obtain⟨L,hS,hL⟩:=hI.out;clear hI;dsimp only at*;rw[BQ,List.append_nil]at hL;subst hL;clear hW;have pa:=hS.pa;have sb:=hS.sb;have hv:=hS.slv;clear hS;replace hv:=AA.mk hv;refine aw ?_;refine DG [(7,.int .i64 0)] rfl pa sb (L:=L) hv.out fun A B v g b hI=>?_;clear pa sb hv;refine Ad s.groups (S:=fun i (a:Abs.Id×Abs.Id×AV×AB×Nat)=>⟨[(2,.ptr a.1 0),(3,.ptr a.2.1 0),(5,a.2.2.1),(7,.d (.int .i64 (i)))],a.2.2.2.1,a.2.2.2.2,[]⟩)
   (Inv:=fun i rest a=>AA (∃L,bk p s a.1 a.2.1 a.2.2.1 a.2.2.2.1 a.2.2.2.2 L∧L++Bg p s i rest=BE p s∧L.length≤40+i*60000)) (b0:=(A,B,v,g,b)) ⟨_,hI,hst.out.symm,by have:=hwl.out;omega⟩ ?_ ?_
  .clear hI A B v g b;rintro i gr ⟨A,B,v,g,b⟩ hy hi him hI IH;obtain⟨L,hS,hL,hLl⟩:=hI.out;clear hI;dsimp only at*;obtain⟨d,hd⟩:=hs.out.grp i gr hy;obtain⟨g0,hdd⟩:=I3 hd.def_;have hdl:=AK hdd;have hdr:=(C4 hF.out hdd).ok.rules;have pa:=hS.pa;have sb:=hS.sb;have hv:=hS.slv;clear hS;replace hv:=AA.mk hv;rw[Bg,hd.def_]at hL;dsimp only at hL;replace hL:=AA.mk hL;replace hd:=AA.mk hd;refine aw ?_;refine DG [(7,.int .i64 i),(8,.int .i64 0)] rfl pa sb (L:=L) hv.out fun A B v g b hI=>?_;clear pa sb hv;refine Ad d.rules (S:=fun k (a:Abs.Id×Abs.Id×AV×AB×Nat)=>⟨[(2,.ptr a.1 0),(3,.ptr a.2.1 0),(5,a.2.2.1),(7,.d (.int .i64 (i))),(8,.d (.int .i64 (k)))],a.2.2.2.1,a.2.2.2.2,[]⟩)
    (Inv:=fun k rest a=>AA (∃L,bk p s a.1 a.2.1 a.2.2.1 a.2.2.2.1 a.2.2.2.2 L∧L++(BM s d gr i k rest++Bg p s (i+1) (s.groups.drop (i+1)))=BE p s∧L.length≤40+i*60000+k*2000)) (b0:=(A,B,v,g,b)) ⟨_,hI,hL.out,by omega⟩ ?_ ?_
   .clear hI hL hLl A B v g b;rintro k r ⟨A,B,v,g,b⟩ hr hk hkm hI IHk;obtain⟨L,hS,hL,hLl⟩:=hI.out;clear hI;dsimp only at*;have hq:=XD hF.out hs.out hy hd.out hr;have pa:=hS.pa;have sb:=hS.sb;have na:=S2 hS.na;have na':=Mo hS.na;have nb:=S2 hS.nb;have nb':=Mo hS.nb;have hri:=KM hF.out hs.out hy hd.out (List.mem_of_getElem? hr);rw[BM]at hL;have hv:=AA.mk hS.slv;have hun:AA (∀id∈AE v,Id.under [b+27] id=false):=⟨fun id hid=>NF (hS.nv id hid) (by omega)⟩;have uA:Id.under [b+27] A=false:=NF hS.na (by omega);have uB:Id.under [b+27] B=false:=NF hS.nb (by omega);replace hL:=AA.mk hL;replace hS:=AA.mk hS;have hil:(i:Int)<1000000:=by omega
    rcases Vs hri with⟨q0,q1⟩|⟨many,q0,q1,m0,m3,m12⟩
    .rw[q0]at hq;rw[q1]at hL;replace hri:=AA.mk hri;clear q0 q1;refine aw ?_;refine DG [(7,.int .i64 i),(8,.int .i64 (k+1))] rfl pa sb (L:=L) hv.out fun A B v g b hI2=>IHk.out (A,B,v,g,b) ⟨L,hI2,hL.out,by omega⟩
    .rw[q0]at hq;have m0':(0:Int)<many.length:=by omega
     rw[q1]at hL;replace hri:=AA.mk hri;replace m12:=AA.mk m12;clear q0 q1;refine aw ?_;refine Ax (Sr i k many m0 m3 m12.out many.length g [b+27] v .nils L [] ?_ hv.out (.inl ⟨rfl,rfl⟩) (fun _=>rfl) (fun id hid=>?_) (by simp)) (fun o1 g1 p1=>?_)
     .have:12 ^ many.length≤12 ^ 3:=Nat.pow_le_pow_right (by omega) m3;omega
     .rcases hid with hid|hid
      .exact hun.out id hid
      .simp[AE]at hid
     obtain⟨v',rfl,p2,p3,p4⟩:=p1;have pa2:(gc [b+27] g1).get A=_:=(Aj _ _ _ uA).trans ((p4 A (fun e=>by obtain⟨x,hx⟩:=HS hv.out e;rw[pa]at hx;cases hx) uA).trans pa);have sb2:(gc [b+27] g1).get B=_:=(Aj _ _ _ uB).trans ((p4 B (fun e=>by obtain⟨x,hx⟩:=HS hv.out e;rw[sb]at hx;cases hx) uB).trans sb);have hv2:=GK p2 (g':=gc [b+27] g1) fun id hid=>by
      rcases p3 id hid with e|⟨_,l,rfl⟩
      .exact Aj _ _ _ (hun.out id e)
      .exact Gp _ _ _
     replace hv2:=AA.mk hv2;clear p2 p3 p4;refine aw ?_;refine DG [(7,.int .i64 i),(8,.int .i64 (k+1))] rfl pa2 sb2 hv2.out fun A B v g b hI2=>IHk.out (A,B,v,g,b) ⟨_,hI2,?_,?_⟩
     .rw[←hL.out];simp
     .have h1:=K0 m12.out;have:12 ^ many.length≤12 ^ 3:=Nat.pow_le_pow_right (by omega) m3;simp only[List.length_append,List.length_map,List.length_nil,List.drop_zero];omega
   .rintro k ⟨A,B,v,g,b⟩ hk hkm hI;obtain⟨L,hS,hL,hLl⟩:=hI.out;clear hI;dsimp only at*;have pa:=hS.pa;have sb:=hS.sb;have hv:=hS.slv;clear hS;replace hv:=AA.mk hv;refine aw ?_;refine DG [(7,.int .i64 (i+1))] rfl pa sb (L:=L) hv.out fun A B v g b hI2=>IH.out (A,B,v,g,b) ⟨L,hI2,by simpa[BM]using hL,by have:=hk.out;omega⟩
  .rintro i ⟨A,B,v,g,b⟩ hi him hI;obtain⟨L,hS,hL,hLl⟩:=hI.out;clear hI;dsimp only at*;rw[Bg,List.append_nil]at hL;subst hL;have sb:=hS.sb;rcases hS.slv with⟨rfl,hz⟩|⟨id,xs,rfl,gv⟩
   .rw[hz];clear hz hS hLl;exact au
   .rw[List.length_map];have tk:List.take (BE p s).length ((BE p s).map Dn++xs)=(BE p s).map Dn:=KA _ _ _;clear hS hLl
    (repeat' (first|simp only[go_sem, *,Nat.le_refl]|(refine sx ?_ ?_<;>intro hc)|refine sy (by omega) fun x hx hm=>?_|simp(disch:=first|assumption|omega) only[wrap_id,AF,AC,slice_int]))
end Go.Proofs
namespace Go.Proofs
open Go Go.Abs
set_option maxRecDepth 100000
set_option maxHeartbeats 4000000
theorem Yb{a b:List Int}(hl:a.length=b.length){i:Nat}{x y:Int}(hx:a[i]? =some x)(hy:b[i]? =some y)(h: ¬x=y):decide (a=b)=false:=by
 refine decide_eq_false fun e=>?_;subst e;rw[hx]at hy;exact h (Option.some.inj hy)
theorem SP(a b:List Int)(ha:a.length≤1000000):Au (KL Tryz.prog cfg) 29 [.d (.lst (a.map AG)),.d (.lst (b.map AG))] []=.ok (.ret (.d (.bool (decide (a=b)))),[]):=by
 by_cases hl:(a.length:Int)=b.length
 ·(refine AU rfl Tryz.func29 rfl rfl rfl ?_;show Wp _ _ _ _ (Tryz.f29.body.get rfl) _ _;simp only[Tryz.f29,Option.get_some])
  refine aw ?_;refine Ad a (S:=fun i (_:Unit)=>⟨[(0,.d (.lst (a.map AG))),(1,.d (.lst (b.map AG))),(5,.d (.int .i64 (i)))],[],0,[]⟩)
   (Inv:=fun i rest _=>AA (a.take i=b.take i)) (b0:=()) ⟨by simp⟩ ?_ ?_
  .rintro i y _ hy hi him hI IH;have hil:i<b.length:=by omega
   have hib:(i:Int)<b.length:=by omega
   have w1:IntKind.i64.wrap ((i:Int)+1)=(i:Int)+1:=wrap_id (by omega) (by omega);obtain⟨z,hz⟩:=get_some hil;have hs:=AA.mk (Yb (by omega) hy hz);by_cases hyz:y=z
   .subst hyz;have ht:AA (a.take (i+1)=b.take (i+1)):=⟨by rw[List.take_add_one,List.take_add_one,hI.out,hy,hz]⟩;refine aw ?_;exact IH.out () ht
   .rw[hs.out hyz];exact au
  .rintro i _ hi him hI;have:decide (a=b)=true:=decide_eq_true (by
    have h:=hI.out
    rwa [hi.out,List.take_length,show a.length=b.length by omega,List.take_length]at h)
   rw[this];have hib: ¬(i:Int)<b.length:=by omega
   exact au
 .rw[decide_eq_false fun e=>hl (by rw[e])]
  (refine AU rfl Tryz.func29 rfl rfl rfl ?_;show Wp _ _ _ _ (Tryz.f29.body.get rfl) _ _;simp only[Tryz.f29,Option.get_some])
  exact au
theorem ST(x y:C9)(hx:x.picks.length≤1000000):Au (KL Tryz.prog cfg) 19 [eT x,eT y] []=.ok (.ret (.d (.bool (decide (x=y)))),[]):=by
 have h1:=SP x.picks y.picks hx;have he:AA (decide (x=y)=(decide (x.wait=y.wait)&&(decide (x.group=y.group)&&(decide (x.rule=y.rule)&&decide (x.picks=y.picks))))):=⟨by
  have:(x=y)↔(x.wait=y.wait∧x.group=y.group∧x.rule=y.rule∧x.picks=y.picks):=by cases x;cases y;simp
  rw[Bool.eq_iff_iff];simp only[Bool.and_eq_true,decide_eq_true_eq];exact this⟩
 rw[he.out]
 (refine AU rfl Tryz.func19 rfl rfl rfl ?_;show Wp _ _ _ _ (Tryz.f19.body.get rfl) _ _;simp only[Tryz.f19,Option.get_some])
 exact au;all_goals simp[*]
theorem aL(p:AL)(s:Bz):Au (KL Tryz.prog cfg) 16 [pA p,sA s] []=.ok (.ret (.tup [.d (.int .i64 (E6 p s)),.d (.int .i64 (A8 p s))]),[]):=by
 have h1:=PM p s;by_cases h0:A8 p s=0
 .obtain⟨st,hf⟩:=Ko h0;have h2:=M4 hf.formed hf.sok;have hc:AA (E6 p s=(BE p s).length):=⟨by rw[E6,if_pos h0]⟩;rw[hc.out,h0];rw[h0]at h1;clear hf
  (refine AU rfl Tryz.func16 rfl rfl rfl ?_;show Wp _ _ _ _ (Tryz.f16.body.get rfl) _ _;simp only[Tryz.f16,Option.get_some])
  exact au
 .have hc:AA (E6 p s=0):=⟨by rw[E6,if_neg h0]⟩;have h3:=L7 h0;rw[hc.out,h3];rw[h3]at h1;clear h0
  (refine AU rfl Tryz.func16 rfl rfl rfl ?_;show Wp _ _ _ _ (Tryz.f16.body.get rfl) _ _;simp only[Tryz.f16,Option.get_some])
  exact au
theorem iJ(p:AL)(s:Bz)(n:Int):Au (KL Tryz.prog cfg) 18 [pA p,sA s,.d (.int .i64 (n))] []=.ok (.ret (.tup [eT (G6 p s n).1,.d (.int .i64 ((G6 p s n).2))]),[]):=by
 have h1:=PM p s;by_cases h0:A8 p s=0
 .obtain⟨st,hf⟩:=Ko h0;have h2:=M4 hf.formed hf.sok;have h00:=AA.mk h0;rw[h0]at h1;clear hf h0;by_cases hn:0≤n
  .have hn': ¬n<0:=by omega
   by_cases hl:n<(BE p s).length
   .obtain⟨x,hx⟩:=get_some (l:=BE p s) (i:=n.toNat) (by omega);have hl': ¬(BE p s).length≤n:=by omega
    rw[KH h00.out hn hx]
    (refine AU rfl Tryz.func18 rfl rfl rfl ?_;show Wp _ _ _ _ (Tryz.f18.body.get rfl) _ _;simp only[Tryz.f18,Option.get_some])
    exact au
   .have hl':(BE p s).length≤n:=by omega
    rw[IW h00.out (.inr hl')]
    (refine AU rfl Tryz.func18 rfl rfl rfl ?_;show Wp _ _ _ _ (Tryz.f18.body.get rfl) _ _;simp only[Tryz.f18,Option.get_some])
    refine aw ?_;rfl
  .have hn':n<0:=by omega
   rw[IW h00.out (.inl hn')]
   (refine AU rfl Tryz.func18 rfl rfl rfl ?_;show Wp _ _ _ _ (Tryz.f18.body.get rfl) _ _;simp only[Tryz.f18,Option.get_some])
   refine aw ?_;rfl
 .have h3:=L7 h0;rw[QM n h0];rw[h3]at h1;clear h0
  (refine AU rfl Tryz.func18 rfl rfl rfl ?_;show Wp _ _ _ _ (Tryz.f18.body.get rfl) _ _;simp only[Tryz.f18,Option.get_some])
  refine aw ?_;rfl
end Go.Proofs
namespace Go.Proofs
open Go Go.Abs
inductive Below:List Nat→List Int→Prop
 |nil:Below [] []
 |cons {n:Nat} {k:Int} {l:List Nat} {t:List Int}:0≤k→k<n→Below l t→Below (n::l) (k::t)
theorem JA: ∀{l:List Nat} {t:List Int},t∈BB l↔Below l t
 |[],t=>by
  rw[BB,List.mem_singleton];exact⟨fun h=>h▸ .nil,fun h=>by cases h;rfl⟩
 |n::l,t=>by
  rw[BB,List.mem_flatMap];constructor
  .rintro⟨i,hi,ht⟩;obtain⟨u,hu,rfl⟩:=List.mem_map.1 ht;have:=List.mem_range.1 hi;exact .cons (by omega) (by omega) (JA.1 hu)
  .intro h;cases h with
   | @cons _ k _ t h1 h2 h3=>exact⟨k.toNat,List.mem_range.2 (by omega),List.mem_map.2 ⟨t,JA.2 h3,by rw[Int.toNat_of_nonneg h1]⟩⟩
theorem Below.len: ∀{l:List Nat} {t:List Int},Below l t→t.length=l.length
 |_,_,.nil=>rfl
 |_,_,.cons _ _ h=>by rw[List.length_cons,List.length_cons,h.len]
inductive WQ(p:AL)(s:Bz):C9→Prop
 |wait {i:Nat} {w:Hs}:s.waits[i]? =some w→goes p s w=true→WQ p s ⟨i,0,0,[]⟩
 |rule {i k:Nat} {g:Ae} {d:Ba} {r:Ey} {t:List Int}:s.groups[i]? =some g→p.def? g.def_=some d→d.rules[k]? =some r→A5 s.spots (g.place d r.at_)=false→Below (BO s d g r) t→WQ p s ⟨-1,i,k,t⟩
theorem Oc{p:AL}{s:Bz}{x:C9}: ∀{l:List Hs} {i:Nat},s.waits.drop i=l→(x∈BQ p s i l↔ ∃j:Nat,i≤j∧ ∃w,s.waits[j]? =some w∧goes p s w=true∧x=⟨j,0,0,[]⟩)
 |[],i,h=>by
  have:s.waits.length≤i:=List.drop_eq_nil_iff.1 h;constructor
  .intro h;cases h
  .rintro⟨j,hj,w,hw,_⟩;obtain⟨h1,_⟩:=List.getElem?_eq_some_iff.1 hw;omega
 |w::l,i,h=>by
  have hg:s.waits[i]? =some w:=by
   have:=congrArg (fun l=>l[0]?) h;simpa using this
  have ih:=Oc (x:=x) (p:=p) (l:=l) (i:=i+1) (by rw[AJ hg]at h;exact(List.cons.inj h).2);rw[BQ,List.mem_append,ih];constructor
  .rintro(h1|⟨j,h1,h2⟩)
   .split at h1
    .exact⟨i,Nat.le_refl _,w,hg,by assumption,List.mem_singleton.1 h1⟩
    .cases h1
   .exact⟨j,by omega,h2⟩
  .rintro⟨j,h1,w2,h2,h3,h4⟩;by_cases e:j=i
   .subst e;rw[hg]at h2;cases h2;exact .inl (by rw[if_pos h3,h4];simp)
   .exact .inr ⟨j,by omega,w2,h2,h3,h4⟩
theorem K9{s:Bz}{d:Ba}{g:Ae}{i:Nat}{x:C9}: ∀{l:List Ey} {k:Nat},d.rules.drop k=l→(x∈BM s d g i k l↔ ∃j:Nat,k≤j∧ ∃r,d.rules[j]? =some r∧ ∃t∈CV s d g r,x=⟨-1,i,j,t⟩)
 |[],k,h=>by
  have:d.rules.length≤k:=List.drop_eq_nil_iff.1 h;constructor
  .intro h;cases h
  .rintro⟨j,hj,w,hw,_⟩;obtain⟨h1,_⟩:=List.getElem?_eq_some_iff.1 hw;omega
 |r::l,k,h=>by
  have hg:d.rules[k]? =some r:=by
   have:=congrArg (fun l=>l[0]?) h;simpa using this
  have ih:=K9 (x:=x) (s:=s) (g:=g) (i:=i) (l:=l) (k:=k+1) (by rw[AJ hg]at h;exact(List.cons.inj h).2);rw[BM,List.mem_append,ih];constructor
  .rintro(h1|⟨j,h1,h2⟩)
   .obtain⟨t,ht,rfl⟩:=List.mem_map.1 h1;exact⟨k,Nat.le_refl _,r,hg,t,ht,rfl⟩
   .exact⟨j,by omega,h2⟩
  .rintro⟨j,h1,w2,h2,h3⟩;by_cases e:j=k
   .subst e;rw[hg]at h2;cases h2;obtain⟨t,ht,rfl⟩:=h3;exact .inl (List.mem_map.2 ⟨t,ht,rfl⟩)
   .exact .inr ⟨j,by omega,w2,h2,h3⟩
theorem O9{p:AL}{s:Bz}{x:C9}: ∀{l:List Ae} {i:Nat},s.groups.drop i=l→(x∈Bg p s i l↔ ∃j:Nat,i≤j∧ ∃g d,s.groups[j]? =some g∧p.def? g.def_=some d∧x∈BM s d g j 0 d.rules)
 |[],i,h=>by
  have:s.groups.length≤i:=List.drop_eq_nil_iff.1 h;constructor
  .intro h;cases h
  .rintro⟨j,hj,w,_,hw,_⟩;obtain⟨h1,_⟩:=List.getElem?_eq_some_iff.1 hw;omega
 |g::l,i,h=>by
  have hg:s.groups[i]? =some g:=by
   have:=congrArg (fun l=>l[0]?) h;simpa using this
  have ih:=O9 (x:=x) (p:=p) (l:=l) (i:=i+1) (by rw[AJ hg]at h;exact(List.cons.inj h).2);rw[Bg,List.mem_append,ih];constructor
  .rintro(h1|⟨j,h1,h2⟩)
   .split at h1
    .exact⟨i,Nat.le_refl _,g,_,hg,by assumption,h1⟩
    .cases h1
   .exact⟨j,by omega,h2⟩
  .rintro⟨j,h1,w2,d,h2,h3,h4⟩;by_cases e:j=i
   .subst e;rw[hg]at h2;cases h2;exact .inl (by rw[h3];exact h4)
   .exact .inr ⟨j,by omega,w2,d,h2,h3,h4⟩
theorem jV{p:AL}{s:Bz}{x:C9}:x∈BE p s↔WQ p s x:=by
 rw[BE,List.mem_append,Oc (l:=s.waits) (i:=0) rfl,O9 (l:=s.groups) (i:=0) rfl];constructor
 .rintro(⟨j,_,w,h1,h2,rfl⟩|⟨j,_,g,d,h1,h2,h3⟩)
  .exact .wait h1 h2
  .obtain⟨k,_,r,h4,t,h5,rfl⟩:=(K9 (l:=d.rules) (k:=0) rfl).1 h3;rw[CV]at h5;split at h5
   .cases h5
   .rename_i hd;exact .rule h1 h2 h4 (by simpa using hd) (JA.1 h5)
 .rintro(⟨h1,h2⟩|⟨h1,h2,h3,h4,h5⟩)
  .exact .inl ⟨_,Nat.zero_le _,_,h1,h2,rfl⟩
  .exact .inr ⟨_,Nat.zero_le _,_,_,h1,h2,(K9 (l:=_) (k:=0) rfl).2 ⟨_,Nat.zero_le _,_,h3,_,by rw[CV,h4,if_neg (by simp)];exact JA.2 h5,rfl⟩⟩
theorem eR{p:AL}{sz:List Int}{s:Bz}(hF:Dz p sz)(hs:TT p sz s){x:C9}(h:x∈BE p s):x.picks.length≤3:=by
 cases jV.1 h with
 |wait _ _=>exact Nat.zero_le _
 |rule h1 h2 h3 _ h5=>
  obtain⟨d,hd⟩:=hs.grp _ _ h1;rw[hd.def_]at h2;cases h2;have:=(KM hF hs h1 hd (List.mem_of_getElem? h3)).j1;have e:=h5.len;rw[BO,List.length_map]at e;exact e▸this
theorem lR{p:AL}{s:Bz}{n:Int}:(G6 p s n).1.picks.length≤1000000:=by
 by_cases h:A8 p s=0
 .obtain⟨st,hf⟩:=Ko h;by_cases hn:0≤n
  .cases hx:(BE p s)[n.toNat]? with
   |none=>rw[IW h (.inr (by have:=List.getElem?_eq_none_iff.1 hx;omega))];decide
   |some x=>
    rw[KH h hn hx];have:=eR hf.formed hf.sok (List.mem_of_getElem? hx);exact Nat.le_trans this (by decide)
  .rw[IW h (.inl (by omega))];decide
 .rw[QM n h];decide
end Go.Proofs
