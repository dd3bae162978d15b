/-
  Parts of it.
-/
import Derived.Test.YtbinfhpngacfgaaGreatDe10
import Derived.Test.YtbinfhpngacfgaaGreatDe11
set_option linter.all false
namespace Go.Abs
def tlC:Nat→Code→Code
 |n+1,.seq _ y=>tlC n y
 |_,c=>c
def jS:Nat→Code→Code→Code
 |n+1,.seq x y,t=>.seq x (jS n y t)
 |0,_,t=>t
 |_,c,_=>c
theorem rZ: ∀(n:Nat) (c:Code),jS n c (tlC n c)=c
 |0,c=>by cases c<;>rfl
 |n+1,c=>by
  cases c with
  |seq x y=>rw[tlC,jS,rZ n y]
  |_=>rfl
theorem xK{C:CZ}{K:AN}{fr:Fr}{b:Nat}{c:Code}{st:St}{Q:Dx→St→Prop}(n:Nat)(h: ∀T,T=tlC n c→Wp C K fr b (jS n c T) st Q):Wp C K fr b c st Q:=by
 have:=h _ rfl
 rwa [rZ]at this
end Go.Abs
namespace Go.Proofs
open Go Go.Abs
noncomputable def Hq(b b':Nat)(π:List Nat)(id:Abs.Id):Bool:= @decide (∃n,b≤n∧n<b'∧Id.under (n::π) id=true) (Classical.propDecidable _)
variable{b b':Nat}{π:List Nat}
theorem JK{id:Abs.Id}:Hq b b' π id=true↔ ∃n,b≤n∧n<b'∧Id.under (n::π) id=true:=by
 unfold Hq;rw[@decide_eq_true_eq _ (Classical.propDecidable _)]
theorem DB{b b':Nat}{π:List Nat}{id:Abs.Id}(h:Hq b b' π id=false)(a n:Nat)(h1:b≤n)(h2:n<b'):Id.is (a::n::π) id=false:=AE fun e=>by
 subst e;have:Hq b b' π (a::n::π)=true:=JK.2 ⟨n,h1,h2,under_iff.2 ⟨[a],rfl⟩⟩;rw[h]at this;cases this
theorem Kv(n:Nat)(l:List Nat)(h1:b≤n)(h2:n<b'):Hq b b' π (l++n::π)=true:=JK.2 ⟨n,h1,h2,under_iff.2 ⟨l,rfl⟩⟩
section
variable{p:AI}{sz:List Int}{π:List Nat}{m:Abs.Id}{V V':MV}{h g H g1:AB}{b b':Nat}{st st':CK}
theorem CU.apartB(hu:CC π V m)(hr:CU p sz π m V h b V' st g):LB (Hq b b' π) V' m:=fun id hid=>by
 cases hx:Hq b b' π id with
 |false=>rfl
 |true=>
  obtain⟨n,h1,_,h2⟩:=JK.1 hx;rcases hr.ids id hid with hh|⟨k,h3,h4,_⟩
  .have:=hu id hh;rw[BR h2]at this;cases this
  .have:=Bg h4 h2;omega
theorem CU.step(hb:b≤b')(hr:CU p sz π m V h b V' st g)(hp:NI p sz (Hq b b' π) m V' g st' H): ∃V2,CU p sz π m V h b' V2 st' H∧ ∀id,id∉V'.ids m→Hq b b' π id=false→id∉V2.ids m:=by
 obtain⟨V2,hM,hK⟩:=hp;refine⟨V2,⟨hM,fun id hid=>?_,fun id h1 h2=>?_⟩,fun id h1 h2 h3=>?_⟩
 .rcases hK.ids id hid with hh|⟨hh,hl⟩
  .exact(hr.ids id hh).imp_right fun⟨n,a,c⟩=>⟨n,by omega,c⟩
  .obtain⟨n,_,h2,h3⟩:=JK.1 hh;exact .inr ⟨n,h2,h3,hl⟩
 .have hnb:Hq b b' π id=false:=by
   cases hx:Hq b b' π id with
   |false=>rfl
   |true=>
    obtain⟨n,_,_,h3⟩:=JK.1 hx;rw[BR h3]at h2;cases h2
  rw[hK.frame id (fun hh=>?_) hnb]
  .exact hr.frame id h1 h2
  .rcases hr.ids id hh with hh|⟨k,_,h3,_⟩
   .exact h1 hh
   .rw[BR h3]at h2;cases h2
 .rcases hK.ids id h3 with hh|⟨hh,_⟩
  .exact h1 hh
  .rw[h2]at hh;cases hh
end
theorem Oz{b b' n:Nat}{π:List Nat}{id:Abs.Id}(hn:n<b)(hu:Id.under (n::π) id=true):Hq b b' π id=false:=by
 cases hx:Hq b b' π id with
 |false=>rfl
 |true=>
  obtain⟨k,h1,_,h2⟩:=JK.1 hx;have:=Bg hu h2;omega
theorem rQ{p:AI}{sz:List Int}{N:Abs.Id→Bool}{h:AB}{m:Abs.Id}{V:MV}{st:CK}(hM:Dq p sz h m V st)(hu:LB N V m){q:GR}(hq:q.queue=[])(A:Abs.Id)(h':AB)
 (a1:h'.get m=some (.box (Aq p sz {V with v3:=.em A 0 (V.rows.length+1)} st.work))) (a0:h'.get A=some (.arr 4 (V.rows++[A3 q .ci]))) (a3:N A=true∧ ∃l,A=1::l)
 (a4: ∀id,Id.is m id=false→(∀id2∈AD V.v3,Id.is id2 id=false)→N id=false→h'.get id=h.get id):NI p sz N m V h {st with d9:={st.d9 with am:=st.d9.am++[q]}} h':=by
 have hfr: ∀id,id≠m→id∉AD V.v3→N id=false→h'.get id=h.get id:=fun id b1 b2 b3=>a4 id (AE fun e=>b1 e.symm) (fun id2 hid=>AE fun e=>b2 (by rw[←e];exact hid)) b3;have hids:(V.rows++[A3 q .ci]).flatMap A5=V.rows.flatMap A5:=by simp[Bp,AD]
 refine QV (v3:=.em A 0 (V.rows.length+1)) (rows:=V.rows++[A3 q .ci]) hM hu a1 (.inr ⟨A,by simp,a0⟩) ⟨by simp[hM.am.len],fun j q2 hj=>?_⟩ (by rw[hids];exact hM.qd) (fun id hid=>?_) (fun j hj=>by match j,hj with|0,_|1,_|2,_|3,_=>rfl) fun id b1 b2 _ b4=>hfr id b1 b2 b4
 .have hj2:(st.d9.am++[q])[j]? =some q2:=hj;have hl:=hM.am.len;by_cases hjl:j<st.d9.am.length
  .rw[Be hjl]at hj2;obtain⟨v,h1,h2⟩:=hM.am.row j q2 hj2;refine⟨v,by rw[Be (by omega)];exact h1,Db h2 fun id hid=>?_⟩;have hmem:id∈V.rows.flatMap A5:=Bi.2 ⟨_,Ac h1,by rw[Bp];exact hid⟩;obtain⟨x,hx⟩:=Eh h2 hid;refine hfr id (fun e=>?_) (fun e=>?_) (hu _ (V.row_mem m hmem))
   .rw[e,hM.box]at hx;cases hx
   .rw[HO hM.arr e]at hx;cases hx
  .have hlt:=AH hj2;rw[CI,II]at hlt;obtain rfl:j=st.d9.am.length:=by omega
   rw[CO (by omega)]at hj2;simp only[MD,Ex,Bv]at hj2;subst hj2;exact⟨.ci,by rw[CO (by omega),hl];simp,.inl ⟨rfl,by rw[hq];rfl⟩⟩
 .rw[hids]at hid;rcases hid with hid|hid
  .simp only[AD,As]at hid;rw[hid];exact .inr a3
  .exact .inl (.inr hid)
structure N1(p:AI)(sz:List Int)(π:List Nat)(m:Abs.Id)(V:MV)(h:AB)(b n:Nat)(V':MV)(g:AB)(r:Option CK)(o:Ae)(g':AB):Prop where
 box: ∀k,k<b→g'.get (0::k::π)=g.get (0::k::π)
 rg: ∀i,i∉V'.ids m→(∀a k,b≤k→Id.is (a::k::π) i=false)→Id.under (n::π) i=false→g'.get i=g.get i
 f9:r=none→o=.f9 (CL 3)∧FL p sz π m V h none o g'
 ret: ∀st2,r=some st2→o=.ret (.ge [])∧ ∃V2,CU p sz π m V h (n+1) V2 st2 g'∧ ∀i,i∉V'.ids m→Id.under (n::π) i=false→i∉V2.ids m
theorem jE{p:AI}{sz:List Int}{π:List Nat}{m:Abs.Id}{V V':MV}{h g H g1:AB}{b n:Nat}{st:CK}{r:Option CK}{o:Ae}(hu:CC π V m)(hr:CU p sz π m V h b V' st g)(hl: ∀id,(∀a n,b≤n→Id.is (a::n::π) id=false)→H.get id=g.get id)(hn:b≤n)(ho:FL p sz (n::π) m V' H r o g1):N1 p sz π m V h b n V' g r o (gc (n::π) g1):=by
 have hr2:=hr.loc hu hl;refine⟨fun k hk=>?_,fun i h1 h2 h3=>?_,fun e=>?_,fun st2 e=>?_⟩
 .rw[hr2.box hu (by omega) ho];exact hl _ fun a n hn=>AE fun e=>by simp at e;omega
 .rw[U4 ho h1 h3];exact hl i h2
 .subst e;exact⟨ho.1,hr2.f9 hu hn ho⟩
 .subst e;exact⟨ho.1,hr2.call hu hn ho⟩
theorem UX{p:AI}{sz:List Int}{k:Nat}(IH0:Im p sz k){π:List Nat}{m:Abs.Id}{V V':MV}{h g:AB}{b:Nat}{st:CK}(hu:CC π V m)(hr:CU p sz π m V h b V' st g)(hI:PN p sz k st){j:Ga}(hj:Cl p sz st.d9 j)(H:AB)(n:Nat)(hn:b≤n)(hl: ∀id,(∀a n,b≤n→Id.is (a::n::π) id=false)→H.get id=g.get id):
 ∃o g1,KL Tryz.prog cfg (.fn 66) [.ptr m 0,.d (.int .i64 j.node),.d (.int .i64 j.at_),.d (.be (j.env.map AL))] H (n::π) true none=.ok (o,g1)∧N1 p sz π m V h b n V' g (Fb p k j st) o (gc (n::π) g1):=by
 have hr2:=hr.loc hu hl;obtain⟨o,g1,h1,h2⟩:=IH0 H (n::π) m V' st j hr2.rep (hr2.apart hu hn) hI.rc hj hI.w0 hI.w1 hI.w2 hI.ev;exact⟨o,g1,h1,jE hu hr hl hn h2⟩
end Go.Proofs
namespace Go.Proofs
open Go Go.Abs
set_option maxRecDepth 100000
set_option maxHeartbeats 4000000
@[go_sem] theorem AFK(n m:Int):BJ (KL Tryz.prog cfg) 58 [.d (.int .i64 n),.d (.int .i64 m)] []=B4 (CL 3) (decide (n≤m)):=by
  by_cases h:n≤m
  .rw[Co h,K2]
   (refine Ar rfl Tryz.func58 rfl rfl rfl ?_;show Wp _ _ _ _ (Tryz.f58.body.get rfl) _ _;simp only[Tryz.f58,AS])
   (repeat' (first|simp only[go_sem, *]|(refine sx ?_ ?_<;>intro hc)|refine sy (by omega) fun x hx hm=>?_|simp(disch:=first|assumption|omega) only[AJ]))
   all_goals omega
  .rw[CE h,Ju]
   (refine Ar rfl Tryz.func58 rfl rfl rfl ?_;show Wp _ _ _ _ (Tryz.f58.body.get rfl) _ _;simp only[Tryz.f58,AS])
   (repeat' (first|simp only[go_sem, *]|(refine sx ?_ ?_<;>intro hc)|refine sy (by omega) fun x hx hm=>?_|simp(disch:=first|assumption|omega) only[AJ]))
   all_goals omega
theorem JB{p:AI}{sz:List Int}{h:AB}{π:List Nat}{m:Abs.Id}{V:MV}{st:CK}(hM:Dq p sz h m V st)(hu:CC π V m)(d a n r:Int)(l:List CT)(hl:l.length≤1000000)(he:st.ev.length≤1000000):
 ∃o h',KL Tryz.prog cfg (.fn 103) [.ptr m 0,.d (.int .i64 (d)),.d (.int .i64 (a)),.d (.int .i64 (n)),.d (.int .i64 (r)),.d (.be (l.map AL))] h π true none=.ok (o,h')∧FL p sz π m V h (some {st with ev:=st.ev++[⟨d,a,n,r,l⟩]}) o h':=by
 have go:=AA.mk (H0 (st':={st with ev:=st.ev++[⟨d,a,n,r,l⟩]}) 3 (by omega) hM hu (AEq rfl) rfl)
 have hm:=hM.box;have um:=hu m (V.m_mem m);have hv:=hM.sl 3 (by omega);have hw:=fun id hid=>hu id (V.s_mem m (i:=3) (by omega) hid);simp only[Aq]at hm;simp only[GQ,A8]at hv;have e1:=AG um;have e2:=Al um;have e3:=EJ um;have e4:=KR um;have h1:=Jt l hl;replace hM:=AA.mk hM;replace hu:=AA.mk hu;rcases hv with⟨hv,hz⟩|⟨id,x,hv,hg⟩
 .rw[hv]at hm;replace hz:=AA.mk (Gt.1 hz);replace hw:=AA.mk hw;by_cases h0:l.length=0;all_goals
   (first|(obtain rfl:=Cs h0;simp only[List.length_nil,Cj,D4]at h1)|simp only[DD h0]at h1);have fa:=Cm
   (refine Ah rfl Tryz.func103 rfl rfl rfl ?_;show Wp _ _ _ _ (Tryz.f103.body.get rfl) _ _;simp only[Tryz.f103,AS])
   refine ax ?_;refine⟨rfl,?_⟩
   (refine go.out (.em (1::13::π) 0 1) _ ?_ (BZ [] (by simp[A8,hz.out]) ?_) (.inr fun id2 hid=>?_) (fun id2 b1 b2 b3=>?_);all_goals (try simp only[A8,GQ,hz.out,Gc]);all_goals (first|(simp only[AD,As]at hid;subst hid;exact⟨Ag [1,13],_,rfl⟩)|(have q1:=AG b3;have q3:=EJ b3;simp only[go_sem,q1,q3,b1,AM];done)|(simp;done)|(simp only[go_sem,e1,e2,e3,e4,D0,D4,AM];first|done|rfl)))
 .rw[hv]at hm;have ui:=hw id (by rw[hv];simp[AD]);have i1:=AG ui;have i2:=Al ui;have i3:=EJ ui;have i4:=KR ui;replace hw:=AA.mk hw;simp only[BI]at hm;have him:Id.is id m=false:=AE fun e=>by rw[e,hm]at hg;cases hg
  have hmi:Id.is m id=false:=AE fun e=>by rw[←e,hm]at hg;cases hg
  replace hv:=AA.mk hv;have n1: ∀v,v=.em id 0 (st.ev.length+1)→AD v=AD (V.s 3):=fun v e=>by rw[e,hv.out];rfl
  have n2: ∀id3,(∀id2∈AD (V.s 3),Id.is id2 id3=false)→Id.is id id3=false:=fun id3 b=>b id (by rw[hv.out];simp[AD]);by_cases h0:l.length=0;all_goals rcases x with _|⟨y,x⟩
  all_goals
   (first|(obtain rfl:=Cs h0;simp only[List.length_nil,Cj,D4]at h1)|simp only[DD h0]at h1);have fa:=Cm
   (refine Ah rfl Tryz.func103 rfl rfl rfl ?_;show Wp _ _ _ _ (Tryz.f103.body.get rfl) _ _;simp only[Tryz.f103,AS])
   refine ax ?_;refine⟨rfl,?_⟩
   (first|(refine go.out (.em (1::13::π) 0 (st.ev.length+1)) _ ?_ (BZ [] ?_ ?_) (.inr fun id2 hid=>?_) (fun id2 b1 b2 b3=>?_);all_goals (try simp only[A8,GQ]);all_goals (first|(simp only[AD,As]at hid;subst hid;exact⟨Ag [1,13],_,rfl⟩)|(have q1:=AG b3;have q3:=EJ b3;have q5:=n2 _ b2;simp only[go_sem,q1,q3,b1,q5,AM];done)|(simp;done)|(simp only[go_sem,e1,e2,e3,e4,i1,i2,i3,i4,him,hmi,D0,D4,AM];first|done|rfl));done)|(refine go.out (.em id 0 (st.ev.length+1)) _ ?_ (BZ x ?_ ?_) (.inl (n1 _ rfl)) (fun id2 b1 b2 b3=>?_);all_goals (try simp only[A8,GQ]);all_goals (first|(simp only[AD,As]at hid;subst hid;exact⟨Ag [1,13],_,rfl⟩)|(have q1:=AG b3;have q3:=EJ b3;have q5:=n2 _ b2;simp only[go_sem,q1,q3,b1,q5,AM];done)|(simp;done)|(simp only[go_sem,e1,e2,e3,e4,i1,i2,i3,i4,him,hmi,D0,D4,AM];first|done|rfl))))
theorem ABU{p:AI}{sz:List Int}{h:AB}{π:List Nat}{m:Abs.Id}{V:MV}{st:CK}(hM:Dq p sz h m V st)(hu:CC π V m)(j:Ga)(hl:j.env.length≤1000000)(he:st.d9.waits.length≤1000000):
 ∃o h',KL Tryz.prog cfg (.fn 114) [.ptr m 0,.agg [.d (.int .i64 (j.node)),.d (.int .i64 (j.at_)),.d (.be (j.env.map AL))]] h π true none=.ok (o,h')∧FL p sz π m V h (IL j st) o h':=by
 have go:=AA.mk (H0 (st':={st with d9:={st.d9 with waits:=st.d9.waits++[⟨j.at_,j.node,j.env⟩]}}) 2 (by omega) hM hu (tE rfl rfl rfl) rfl)
 have gf:=AA.mk fun v h' a1 a2 a3 a4=>QW (go.out v h' a1 a2 a3 a4);have hd:AA (IL j st=if st.d9.waits.length<40 then some {st with d9:={st.d9 with waits:=st.d9.waits++[⟨j.at_,j.node,j.env⟩]}}else none):=⟨rfl⟩
 have hm:=hM.box;have um:=hu m (V.m_mem m);have hv:=hM.sl 2 (by omega);have hw:=fun id hid=>hu id (V.s_mem m (i:=2) (by omega) hid);simp only[Aq]at hm;simp only[GQ,A8]at hv;have e1:=AG um;have e2:=Al um;have e3:=EJ um;have e4:=KR um;have h1:=Jt j.env hl;replace hM:=AA.mk hM;replace hu:=AA.mk hu;rcases hv with⟨hv,hz⟩|⟨id,x,hv,hg⟩
 .rw[hv]at hm;replace hz:=AA.mk (Gt.1 hz);replace hw:=AA.mk hw;obtain⟨jn,ja,l⟩:=j;dsimp only at*;by_cases h0:l.length=0;all_goals
   (first|(obtain rfl:=Cs h0;simp only[List.length_nil,Cj,D4]at h1)|simp only[DD h0]at h1);have fa:=Cm
   (refine Ah rfl Tryz.func114 rfl rfl rfl ?_;show Wp _ _ _ _ (Tryz.f114.body.get rfl) _ _;simp only[Tryz.f114,AS])
   refine ax ?_;rw[hd.out,DO (by rw[hz.out];decide)];refine⟨rfl,?_⟩
   (refine go.out (.em (1::16::π) 0 1) _ ?_ (BZ [] (by simp[A8,hz.out]) ?_) (.inr fun id2 hid=>?_) (fun id2 b1 b2 b3=>?_);all_goals (try simp only[A8,GQ,hz.out,Gc]);all_goals (first|(simp only[AD,As]at hid;subst hid;exact⟨Ag [1,16],_,rfl⟩)|(have q1:=AG b3;have q3:=EJ b3;simp only[go_sem,q1,q3,b1,AM];done)|(simp;done)|(simp only[go_sem,e1,e2,e3,e4,D0,D4,AM];first|done|rfl)))
 .rw[hv]at hm;have ui:=hw id (by rw[hv];simp[AD]);have i1:=AG ui;have i2:=Al ui;have i3:=EJ ui;have i4:=KR ui;replace hw:=AA.mk hw;simp only[BI]at hm;have him:Id.is id m=false:=AE fun e=>by rw[e,hm]at hg;cases hg
  have hmi:Id.is m id=false:=AE fun e=>by rw[←e,hm]at hg;cases hg
  replace hv:=AA.mk hv;have n1: ∀v,v=.em id 0 (st.d9.waits.length+1)→AD v=AD (V.s 2):=fun v e=>by rw[e,hv.out];rfl
  have n2: ∀id3,(∀id2∈AD (V.s 2),Id.is id2 id3=false)→Id.is id id3=false:=fun id3 b=>b id (by rw[hv.out];simp[AD]);obtain⟨jn,ja,l⟩:=j;dsimp only at*;by_cases h0:l.length=0;all_goals rcases x with _|⟨y,x⟩
  all_goals
   (first|(obtain rfl:=Cs h0;simp only[List.length_nil,Cj,D4]at h1)|simp only[DD h0]at h1);have fa:=Cm
   (refine Ah rfl Tryz.func114 rfl rfl rfl ?_;show Wp _ _ _ _ (Tryz.f114.body.get rfl) _ _;simp only[Tryz.f114,AS])
   (repeat' (first|simp only[go_sem, *,AM]|(refine sx ?_ ?_<;>intro hc)|refine sy (by omega) fun x hx hm=>?_|simp(disch:=first|assumption|omega) only[AJ]))
   all_goals rw[hd.out]
   .rw[DO (by omega)];refine⟨rfl,?_⟩
    (first|(refine go.out (.em (1::16::π) 0 (st.d9.waits.length+1)) _ ?_ (BZ [] ?_ ?_) (.inr fun id2 hid=>?_) (fun id2 b1 b2 b3=>?_);all_goals (try simp only[A8,GQ]);all_goals (first|(simp only[AD,As]at hid;subst hid;exact⟨Ag [1,16],_,rfl⟩)|(have q1:=AG b3;have q3:=EJ b3;have q5:=n2 _ b2;simp only[go_sem,q1,q3,b1,q5,AM];done)|(simp;done)|(simp only[go_sem,e1,e2,e3,e4,i1,i2,i3,i4,him,hmi,D0,D4,AM];first|done|rfl));done)|(refine go.out (.em id 0 (st.d9.waits.length+1)) _ ?_ (BZ x ?_ ?_) (.inl (n1 _ rfl)) (fun id2 b1 b2 b3=>?_);all_goals (try simp only[A8,GQ]);all_goals (first|(simp only[AD,As]at hid;subst hid;exact⟨Ag [1,16],_,rfl⟩)|(have q1:=AG b3;have q3:=EJ b3;have q5:=n2 _ b2;simp only[go_sem,q1,q3,b1,q5,AM];done)|(simp;done)|(simp only[go_sem,e1,e2,e3,e4,i1,i2,i3,i4,him,hmi,D0,D4,AM];first|done|rfl))))
   .rw[CS (by omega)];refine⟨rfl,?_⟩;replace go:=gf
    (first|(refine go.out (.em (1::16::π) 0 (st.d9.waits.length+1)) _ ?_ (BZ [] ?_ ?_) (.inr fun id2 hid=>?_) (fun id2 b1 b2 b3=>?_);all_goals (try simp only[A8,GQ]);all_goals (first|(simp only[AD,As]at hid;subst hid;exact⟨Ag [1,16],_,rfl⟩)|(have q1:=AG b3;have q3:=EJ b3;have q5:=n2 _ b2;simp only[go_sem,q1,q3,b1,q5,AM];done)|(simp;done)|(simp only[go_sem,e1,e2,e3,e4,i1,i2,i3,i4,him,hmi,D0,D4,AM];first|done|rfl));done)|(refine go.out (.em id 0 (st.d9.waits.length+1)) _ ?_ (BZ x ?_ ?_) (.inl (n1 _ rfl)) (fun id2 b1 b2 b3=>?_);all_goals (try simp only[A8,GQ]);all_goals (first|(simp only[AD,As]at hid;subst hid;exact⟨Ag [1,16],_,rfl⟩)|(have q1:=AG b3;have q3:=EJ b3;have q5:=n2 _ b2;simp only[go_sem,q1,q3,b1,q5,AM];done)|(simp;done)|(simp only[go_sem,e1,e2,e3,e4,i1,i2,i3,i4,him,hmi,D0,D4,AM];first|done|rfl))))
structure MM(p:AI)(j:Ga)(x:Cq):Prop where
 n0:0≤j.node
 node:p.nodes[j.node.toNat]? =some x
 len:j.env.length≤10000
variable{p:AI}{x:Cq}
theorem O1{j:Ga}(h:MM p j x):j.node.toNat<p.nodes.length:=AH h.node
theorem ABJ{p:AI}{sz:List Int}{h:AB}{π:List Nat}{m:Abs.Id}{V:MV}{st:CK}(hM:Dq p sz h m V st)(hu:CC π V m)(j:Ga){x:Cq}(hj:MM p j x)(hp:p.nodes.length≤60)(hal:x.args.length≤3)(haf: ∀e∈x.args,e.formed j.env.length=true)(hn0:0≤x.n)(hn1:x.n<j.env.length)
 (hin:j.env.all (CT.inB p st.d9.am.length st.d9.ac.length)=true) (hc: ∀(c:Nat) (q:GR),st.d9.am[c]? =some q→gK p st.d9 q) (he:st.ev.length≤1000000):
 ∃o h',KL Tryz.prog cfg (.fn 110) [.ptr m 0,.agg [.d (.int .i64 (j.node)),.d (.int .i64 (j.at_)),.d (.be (j.env.map AL))]] h π true none=.ok (o,h')∧FL p sz π m V h (Ec p x j st) o h':=by
 have hm:=hM.box;have um:=hu m (V.m_mem m);simp only[Aq]at hm;have e1:=AG um;have e2:=Al um;have e3:=EJ um;have e4:=KR um;obtain⟨L,hL⟩: ∃L,L=x.args.map fun e=>e.value j.env:=⟨_,rfl⟩;have hLl:L.length=x.args.length:=by rw[hL,BI]
 have hx:=hj.node;have hn:=hj.n0;have hel:=hj.len;obtain⟨to,hto⟩:=get_some (l:=j.env) (i:=x.n.toNat) (by omega);have hxl:=O1 hj;replace hM:=AA.mk hM;replace hu:=AA.mk hu;replace hc:=AA.mk hc;replace hin:=AA.mk hin;replace hL:=AA.mk hL;replace hLl:=AA.mk hLl;replace haf:=AA.mk haf
 (refine Ah rfl Tryz.func110 rfl rfl rfl ?_;show Wp _ _ _ _ (Tryz.f110.body.get rfl) _ _;simp only[Tryz.f110,AS])
 refine aw ?_;refine AY x.args _ (S:=fun m' i (a:(AV×AB)×Nat)=>⟨[(0,.ptr m 0),(3,.ptr (0::0::π) 0),(4,.ptr (0::10::π) 0),(5,a.1.1),(20,.d (.be (x.args.map BU))),(21,.d (.int .i64 (m'))),(22,.d (.int .i64 (i)))],a.1.2,a.2+17,[]⟩)
  (Inv:=fun i rest a=>(∀id,Id.under π id=false→a.1.2.get id=h.get id)∧a.1.2.get (0::0::π)=some (.box [.d (.int .i64 (j.node)),.d (.int .i64 (j.at_)),.d (.be (j.env.map AL))])∧a.1.2.get (0::10::π)=some (.box [.d (.int .i64 (x.op)),.d (.int .i64 (x.n)),.d (.be (x.args.map BU)),.d (.be (x.kids.map AK))])∧AA ((i=0∧a.1.1=.ci)∨ ∃n,n<a.2+17∧a.1.1=.em (1::n::π) 0 i∧a.1.2.get (1::n::π)=some (.co 2 ((L.take i).map AL)))) (b0:=((_,_),_)) rfl ⟨?_,?_,?_,⟨.inl ⟨rfl,rfl⟩⟩⟩ ?_ ?_
 .intro id b;have q1:=AG b;simp only[go_sem,q1,AM]
 .simp only[go_sem]
 .simp only[go_sem]
 .rintro i y ⟨⟨t5,g⟩,b⟩ hy hi him ⟨k1,k2,k3,kl⟩ IH;dsimp only at*;have hyf:=haf.out y (Ac hy);have hLi:AA (L[i]? =some (y.value j.env)):=⟨by rw[hL.out,D1,hy];rfl⟩;replace k1:=AA.mk k1;have hLt:AA (L.take (i+1)=L.take i++[y.value j.env]):=⟨by rw[Is,hLi.out];rfl⟩;rcases kl.out with⟨rfl,rfl⟩|⟨n,hnb,rfl,hg⟩
  .clear kl;have him0:(0:Int)<x.args.length:=him;refine aw ?_;refine IH.out ((_,_),_) ⟨fun id b=>?_,?_,?_,⟨.inr ⟨b+28,by simp,rfl,?_⟩⟩⟩
   .have q1:=AG b;have q2:=k1.out id b;simp only[go_sem,q1,q2,AM]
   .simp only[go_sem,k2]
   .simp only[go_sem,k3]
   .rw[hLt.out];simp only[go_sem]
  .clear kl;have d0:(L.take i).length=i:=by have:=hLl.out;rw[IP];omega
   have d1:List.take i (List.map AL (List.take i L))=List.map AL (List.take i L):=DL (by simp;omega);have d2: ¬b+27=n:=by omega
   have d3: ¬b+20=n:=by omega
   have d4: ¬n=b+27:=by omega
   have d5: ¬n=b+28:=by omega
   refine ax ?_;refine IH.out ((_,_),_) ⟨fun id b=>?_,?_,?_,⟨.inr ⟨b+28,by simp,rfl,?_⟩⟩⟩
   .have q1:=AG b;have q2:=k1.out id b;simp only[go_sem,q1,q2,AM]
   .simp only[go_sem,k2]
   .simp only[go_sem,k3]
   .rw[hLt.out];simp only[go_sem,d5,D0]
 .rintro i ⟨⟨t5,g⟩,b⟩ hi him ⟨k1,k2,k3,kl⟩;dsimp only at*;have hiL:i=L.length:=by rw[hi.out,hLl.out]
  clear hi;have hto2:IE j.env x.n=to:=by rw[IE,hto];rfl
  have htl:List.take L.length L=L:=Em;have hL3:L.length≤3:=by have:=hLl.out;omega
  replace k1:=AA.mk k1;by_cases kk2:to.kind=2
  .have hd:AA (Ec p x j st=some {st with ev:=st.ev++[⟨5,j.at_,to.n,0,L⟩]}):=⟨by
    simp only[Ec,hto2,kk2,F3,hL.out];rfl⟩
   rcases kl.out with⟨rfl,rfl⟩|⟨n,hnb,rfl,hg⟩
   .clear kl;have him0: ¬(0:Int)<x.args.length:=him;have hL0:=Cs hiL.symm;subst hL0;clear hiL;refine aw ?_;refine AX (JB (V:=V) (st:=st) (EF hM.out hu.out ?_) (hu.out.ext _) 5 j.at_ to.n 0 [] (by simp) he) (fun o1 g1 p1=>?_)
    .intro id b;have q1:=AG b;have q2:=k1.out id b;simp only[go_sem,q1,q2,AM]
    .have fin:=Pq (h:=h) hu.out (fun id b=>?_) p1
     .obtain rfl:=p1.1;refine aw ?_;rw[hd.out];exact fin
     .have q1:=AG b;have q2:=k1.out id b;simp only[go_sem,q1,q2,AM]
   .clear kl;subst hiL;refine aw ?_;refine AX (JB (V:=V) (st:=st) (EF hM.out hu.out ?_) (hu.out.ext _) 5 j.at_ to.n 0 L (by omega) he) (fun o1 g1 p1=>?_)
    .intro id b;have q1:=AG b;have q2:=k1.out id b;simp only[go_sem,q1,q2,AM]
    .have fin:=Pq (h:=h) hu.out (fun id b=>?_) p1
     .obtain rfl:=p1.1;refine aw ?_;rw[hd.out];exact fin
     .have q1:=AG b;have q2:=k1.out id b;simp only[go_sem,q1,q2,AM]
  by_cases kk3:to.kind=3
  .have hib:=Ci.1 hin.out to (Ac hto);simp only[CT.inB,kk3,Int.reduceEq,F3,ES,AP,Ap]at hib;obtain⟨t0,t1⟩:=hib;obtain⟨q,hq⟩:=get_some (l:=st.d9.am) (i:=to.n.toNat) (by omega);obtain⟨v,hr,hqs⟩:=hM.out.am.row _ _ hq;have hr0:=AA.mk hr;have hcf:=hc.out _ _ hq;obtain⟨c1,c2⟩:=hcf.at_;obtain⟨gr,d,ch,hgr,c3,hdd,hch⟩:=hcf.ex;have c4:=hcf.g0;have c5:=hcf.i0;have c6:=hcf.len;obtain⟨sp,hsp⟩:=get_some (l:=st.d9.ac) (i:=q.at_.toNat) (by omega);obtain⟨S,xs,hS,gS,xS,lS,lS2⟩:=JU (hM.out.sl 0 (by omega)) hsp;obtain⟨G,ys,hG,gG,xG,lG,lG2⟩:=JU (hM.out.sl 1 (by omega)) hgr;have hA:=hM.out.arr;rcases hA with⟨_,hA⟩|⟨A,hA,gA⟩
   .rw[hA]at hr;simp at hr
   have lA:=AH hr;have sg: ∀r:List AV,(V.rows.set to.n.toNat r)[to.n.toNat]? =some r:=fun r=>List.getElem?_set_self lA;have uA:=hu.out A (V.v3_mem m (by rw[hA];simp[AD]));have uS:=hu.out S (V.s_mem m (i:=0) (by omega) (by rw[hS];simp[AD]));have uG:=hu.out G (V.s_mem m (i:=1) (by omega) (by rw[hG];simp[AD]));have gm:=(k1.out m um).trans hm;rw[hA,hS,hG]at gm;replace gA:=(k1.out A uA).trans gA;replace gS:=(k1.out S uS).trans gS;replace gG:=(k1.out G uG).trans gG;have a1:=AG uA;have a2:=Al uA;have a3:=AG uS;have a4:=AG uG;have ldd:=AH hdd;have lch:=AH hch;have hsd:AW st.d9.ac q.at_=sp.dead:=by simp[AW,hsp]
   have hmn:EE p st.d9 q=ch.many:=by simp[EE,hgr,hdd,hch]
   have hd:AA (Ec p x j st=(P6 p st.d9 to.n L).map fun s=>{st with d9:=s}):=⟨by
    simp only[Ec,hto2,kk3,F3,hL.out];rfl⟩
   have hd2:AA (P6 p st.d9 to.n L=if sp.dead=false∧ch.many=L.length then Xz st.d9 to.n q L else some st.d9):=⟨by
    rw[P6,hq];simp only[hsd,hmn]⟩
   clear hsd hmn hcf;replace hm:=AA.mk hm;replace hS:=AA.mk hS;replace hG:=AA.mk hG;replace hA:=AA.mk hA;simp only[A3]at hr;simp only[GQ]at gS gG;have go:=AA.mk (So hM.out hu.out hA.out hq hr0.out (q.queue++[L]));have gf:=AA.mk fun v h' a1 a0 a2 a3 a4=>QW (go.out v h' a1 a0 a2 a3 a4);have hs1:AA (sp.dead=true→Ec p x j st=some st):=⟨fun h=>by rw[hd.out,hd2.out,CS (by simp[h])];rfl⟩;have hs2:AA (¬ch.many=L.length→Ec p x j st=some st):=⟨fun h=>by rw[hd.out,hd2.out,CS (fun hh=>h hh.2)];rfl⟩;have hs3:AA (sp.dead=false→ch.many=L.length→q.queue.length+1≤12→Ec p x j st=some {st with d9:={st.d9 with am:=st.d9.am.set to.n.toNat {q with queue:=q.queue++[L]}}}):=⟨fun h1 h2 h3=>by rw[hd.out,hd2.out,DO ⟨h1,h2⟩,Xz,DO (by omega)];rfl⟩
   have hs4:AA (sp.dead=false→ch.many=L.length→ ¬q.queue.length+1≤12→Ec p x j st=none):=⟨fun h1 h2 h3=>by rw[hd.out,hd2.out,DO ⟨h1,h2⟩,Xz,CS (by omega)];rfl⟩;clear hd hd2;have Am:Id.is A m=false:=AE fun e=>by rw[e,gm]at gA;cases gA
   have mA:Id.is m A=false:=AE fun e=>by rw[←e,gm]at gA;cases gA
   have same:AA (∀H:AB,(∀id,Id.under π id=false→H.get id=g.get id)→FL p sz π m V h (some st) (.ret (.ge [])) H):=⟨fun H hH=>Pr hM.out hu.out fun id b=>(hH id b).trans (k1.out id b)⟩;rcases hqs with⟨rfl,hz⟩|⟨Q,zs,rfl,gQ⟩
   .replace hz:=AA.mk (Gt.1 hz);rcases kl.out with⟨rfl,rfl⟩|⟨n,hnb,rfl,hg⟩;all_goals clear kl
    .have him0: ¬(0:Int)<x.args.length:=him;have hL0:=Cs hiL.symm;subst hL0;clear hiL
     (repeat' (first|simp only[go_sem, *,AM]|(refine sx ?_ ?_<;>intro hc)|refine sy (by omega) fun x hx hm=>?_|simp(disch:=first|assumption|omega) only[AJ]))
     all_goals (first|(rw[hs1.out (by assumption)];exact same.out _ (fun id b=>by have q1:=AG b;simp only[go_sem,q1,AM]))|(rw[hs2.out (by first|assumption|(show¬ch.many=0;assumption))];exact same.out _ (fun id b=>by have q1:=AG b;simp only[go_sem,q1,AM]))|(rw[hs3.out (by assumption) (by first|assumption|(show ch.many=0;assumption)) (by first|assumption|omega|(rw[hz.out];decide))];refine⟨rfl,?_⟩;first|(refine go.out (.em (1::(b+94)::π) 0 1) _ ?_ ?_ (BZ [] ?_ ?_) (.inr fun id2 hid=>?_) fun id2 b1 b2 b3 b4=>?_;all_goals (first|(simp only[AD,As]at hid;subst hid;exact⟨Ag [1,b+94],_,rfl⟩)|(have q1:=AG b4;have q2:=k1.out id2 b4;simp only[go_sem,q1,q2,b1,b2,AM];done)|(simp[hz.out];done)|(simp only[go_sem,e1,e2,a1,a2,Am,mA,gm,Aq,hS.out,hG.out,hA.out,A3,D0,D4,AM,hz.out];first|done|rfl));done)))
    .subst hiL;have d1: ¬b+93=n:=by omega
     have d2: ¬n=b+93:=by omega
     have d3: ¬b+94=n:=by omega
     have d4: ¬n=b+94:=by omega
     (repeat' (first|simp only[go_sem, *,AM]|(refine sx ?_ ?_<;>intro hc)|refine sy (by omega) fun x hx hm=>?_|simp(disch:=first|assumption|omega) only[AJ]))
     all_goals (first|(rw[hs1.out (by assumption)];exact same.out _ (fun id b=>by have q1:=AG b;simp only[go_sem,q1,AM]))|(rw[hs2.out (by first|assumption|(show¬ch.many=0;assumption))];exact same.out _ (fun id b=>by have q1:=AG b;simp only[go_sem,q1,AM]))|(rw[hs3.out (by assumption) (by first|assumption|(show ch.many=0;assumption)) (by first|assumption|omega|(rw[hz.out];decide))];refine⟨rfl,?_⟩;first|(refine go.out (.em (1::(b+94)::π) 0 1) _ ?_ ?_ (BZ [] ?_ ?_) (.inr fun id2 hid=>?_) fun id2 b1 b2 b3 b4=>?_;all_goals (first|(simp only[AD,As]at hid;subst hid;exact⟨Ag [1,b+94],_,rfl⟩)|(have q1:=AG b4;have q2:=k1.out id2 b4;simp only[go_sem,q1,q2,b1,b2,AM];done)|(simp[hz.out];done)|(simp only[go_sem,e1,e2,a1,a2,Am,mA,gm,Aq,hS.out,hG.out,hA.out,A3,D0,D4,AM,hz.out];first|done|rfl));done)))
   .have uQ:=hu.out Q (V.row_mem m (Bi.2 ⟨_,Ac hr0.out,by simp[Bp,AD]⟩));replace gQ:=(k1.out Q uQ).trans gQ;have a5:=AG uQ;have a6:=Al uQ;have QA:Id.is Q A=false:=AE fun e=>by rw[e,gA]at gQ;cases gQ
    have AQ:Id.is A Q=false:=AE fun e=>by rw[←e,gA]at gQ;cases gQ
    have Qm:Id.is Q m=false:=AE fun e=>by rw[e,gm]at gQ;cases gQ
    have mQ:Id.is m Q=false:=AE fun e=>by rw[←e,gm]at gQ;cases gQ
    rcases kl.out with⟨rfl,rfl⟩|⟨n,hnb,rfl,hg⟩;all_goals clear kl
    .have him0: ¬(0:Int)<x.args.length:=him;have hL0:=Cs hiL.symm;subst hL0;clear hiL;rcases zs with _|⟨z,zs⟩;all_goals
      (repeat' (first|simp only[go_sem, *,AM]|(refine sx ?_ ?_<;>intro hc)|refine sy (by omega) fun x hx hm=>?_|simp(disch:=first|assumption|omega) only[AJ]))
      all_goals (first|(rw[hs1.out (by assumption)];exact same.out _ (fun id b=>by have q1:=AG b;simp only[go_sem,q1,AM]))|(rw[hs2.out (by first|assumption|(show¬ch.many=0;assumption))];exact same.out _ (fun id b=>by have q1:=AG b;simp only[go_sem,q1,AM]))|(rw[hs3.out (by assumption) (by first|assumption|(show ch.many=0;assumption)) (by first|assumption|omega|(rw[hz.out];decide))];refine⟨rfl,?_⟩;first|(refine go.out (.em (1::(b+94)::π) 0 (q.queue.length+1)) _ ?_ ?_ (BZ [] ?_ ?_) (.inr fun id2 hid=>?_) fun id2 b1 b2 b3 b4=>?_;all_goals (first|(simp only[AD,As]at hid;subst hid;exact⟨Ag [1,b+94],_,rfl⟩)|(have q1:=AG b4;have q2:=k1.out id2 b4;have q5:=b3 Q (by simp[AD]);simp only[go_sem,q1,q2,b1,b2,q5,AM];done)|(simp;done)|(simp only[go_sem,e1,e2,a1,a2,Am,mA,gm,Aq,hS.out,hG.out,hA.out,A3,D0,D4,AM,a5,a6,QA,AQ,Qm,mQ];first|done|rfl));done)|(refine go.out (.em Q 0 (q.queue.length+1)) _ ?_ ?_ (BZ zs ?_ ?_) (.inl rfl) fun id2 b1 b2 b3 b4=>?_;all_goals (first|(simp only[AD,As]at hid;subst hid;exact⟨Ag [1,b+94],_,rfl⟩)|(have q1:=AG b4;have q2:=k1.out id2 b4;have q5:=b3 Q (by simp[AD]);simp only[go_sem,q1,q2,b1,b2,q5,AM];done)|(simp;done)|(simp only[go_sem,e1,e2,a1,a2,Am,mA,gm,Aq,hS.out,hG.out,hA.out,A3,D0,D4,AM,a5,a6,QA,AQ,Qm,mQ];first|done|rfl))))|(rw[hs4.out (by assumption) (by first|assumption|(show ch.many=0;assumption)) (by first|assumption|omega)];refine⟨rfl,?_⟩;first|(refine gf.out (.em (1::(b+94)::π) 0 (q.queue.length+1)) _ ?_ ?_ (BZ [] ?_ ?_) (.inr fun id2 hid=>?_) fun id2 b1 b2 b3 b4=>?_;all_goals (first|(simp only[AD,As]at hid;subst hid;exact⟨Ag [1,b+94],_,rfl⟩)|(have q1:=AG b4;have q2:=k1.out id2 b4;have q5:=b3 Q (by simp[AD]);simp only[go_sem,q1,q2,b1,b2,q5,AM];done)|(simp;done)|(simp only[go_sem,e1,e2,a1,a2,Am,mA,gm,Aq,hS.out,hG.out,hA.out,A3,D0,D4,AM,a5,a6,QA,AQ,Qm,mQ];first|done|rfl));done)|(refine gf.out (.em Q 0 (q.queue.length+1)) _ ?_ ?_ (BZ zs ?_ ?_) (.inl rfl) fun id2 b1 b2 b3 b4=>?_;all_goals (first|(simp only[AD,As]at hid;subst hid;exact⟨Ag [1,b+94],_,rfl⟩)|(have q1:=AG b4;have q2:=k1.out id2 b4;have q5:=b3 Q (by simp[AD]);simp only[go_sem,q1,q2,b1,b2,q5,AM];done)|(simp;done)|(simp only[go_sem,e1,e2,a1,a2,Am,mA,gm,Aq,hS.out,hG.out,hA.out,A3,D0,D4,AM,a5,a6,QA,AQ,Qm,mQ];first|done|rfl)))))
    .subst hiL;have d1: ¬b+93=n:=by omega
     have d2: ¬n=b+93:=by omega
     have d3: ¬b+94=n:=by omega
     have d4: ¬n=b+94:=by omega
     rcases zs with _|⟨z,zs⟩;all_goals
      (repeat' (first|simp only[go_sem, *,AM]|(refine sx ?_ ?_<;>intro hc)|refine sy (by omega) fun x hx hm=>?_|simp(disch:=first|assumption|omega) only[AJ]))
      all_goals (first|(rw[hs1.out (by assumption)];exact same.out _ (fun id b=>by have q1:=AG b;simp only[go_sem,q1,AM]))|(rw[hs2.out (by first|assumption|(show¬ch.many=0;assumption))];exact same.out _ (fun id b=>by have q1:=AG b;simp only[go_sem,q1,AM]))|(rw[hs3.out (by assumption) (by first|assumption|(show ch.many=0;assumption)) (by first|assumption|omega|(rw[hz.out];decide))];refine⟨rfl,?_⟩;first|(refine go.out (.em (1::(b+94)::π) 0 (q.queue.length+1)) _ ?_ ?_ (BZ [] ?_ ?_) (.inr fun id2 hid=>?_) fun id2 b1 b2 b3 b4=>?_;all_goals (first|(simp only[AD,As]at hid;subst hid;exact⟨Ag [1,b+94],_,rfl⟩)|(have q1:=AG b4;have q2:=k1.out id2 b4;have q5:=b3 Q (by simp[AD]);simp only[go_sem,q1,q2,b1,b2,q5,AM];done)|(simp;done)|(simp only[go_sem,e1,e2,a1,a2,Am,mA,gm,Aq,hS.out,hG.out,hA.out,A3,D0,D4,AM,a5,a6,QA,AQ,Qm,mQ];first|done|rfl));done)|(refine go.out (.em Q 0 (q.queue.length+1)) _ ?_ ?_ (BZ zs ?_ ?_) (.inl rfl) fun id2 b1 b2 b3 b4=>?_;all_goals (first|(simp only[AD,As]at hid;subst hid;exact⟨Ag [1,b+94],_,rfl⟩)|(have q1:=AG b4;have q2:=k1.out id2 b4;have q5:=b3 Q (by simp[AD]);simp only[go_sem,q1,q2,b1,b2,q5,AM];done)|(simp;done)|(simp only[go_sem,e1,e2,a1,a2,Am,mA,gm,Aq,hS.out,hG.out,hA.out,A3,D0,D4,AM,a5,a6,QA,AQ,Qm,mQ];first|done|rfl))))|(rw[hs4.out (by assumption) (by first|assumption|(show ch.many=0;assumption)) (by first|assumption|omega)];refine⟨rfl,?_⟩;first|(refine gf.out (.em (1::(b+94)::π) 0 (q.queue.length+1)) _ ?_ ?_ (BZ [] ?_ ?_) (.inr fun id2 hid=>?_) fun id2 b1 b2 b3 b4=>?_;all_goals (first|(simp only[AD,As]at hid;subst hid;exact⟨Ag [1,b+94],_,rfl⟩)|(have q1:=AG b4;have q2:=k1.out id2 b4;have q5:=b3 Q (by simp[AD]);simp only[go_sem,q1,q2,b1,b2,q5,AM];done)|(simp;done)|(simp only[go_sem,e1,e2,a1,a2,Am,mA,gm,Aq,hS.out,hG.out,hA.out,A3,D0,D4,AM,a5,a6,QA,AQ,Qm,mQ];first|done|rfl));done)|(refine gf.out (.em Q 0 (q.queue.length+1)) _ ?_ ?_ (BZ zs ?_ ?_) (.inl rfl) fun id2 b1 b2 b3 b4=>?_;all_goals (first|(simp only[AD,As]at hid;subst hid;exact⟨Ag [1,b+94],_,rfl⟩)|(have q1:=AG b4;have q2:=k1.out id2 b4;have q5:=b3 Q (by simp[AD]);simp only[go_sem,q1,q2,b1,b2,q5,AM];done)|(simp;done)|(simp only[go_sem,e1,e2,a1,a2,Am,mA,gm,Aq,hS.out,hG.out,hA.out,A3,D0,D4,AM,a5,a6,QA,AQ,Qm,mQ];first|done|rfl)))))
  .have hd:AA (Ec p x j st=some st):=⟨by simp only[Ec,hto2,kk2,kk3,ES]⟩;rcases kl.out with⟨rfl,rfl⟩|⟨n,hnb,rfl,hg⟩;all_goals clear kl
   .have him0: ¬(0:Int)<x.args.length:=him;clear hiL;refine aw ?_;rw[hd.out];refine Pr hM.out hu.out fun id b=>?_;have q1:=AG b;have q2:=k1.out id b;simp only[go_sem,q1,q2,AM]
   .subst hiL;refine aw ?_;rw[hd.out];refine Pr hM.out hu.out fun id b=>?_;have q1:=AG b;have q2:=k1.out id b;simp only[go_sem,q1,q2,AM]
def FO(l:List Int)(at_:Int)(env:List CT):List Ga:=l.map fun n=>⟨n,at_,env⟩
variable{sz:List Int}{h:AB}{π:List Nat}{m:Abs.Id}{V:MV}{st:CK}
theorem xm{k:Nat}(hF:BD p sz)(IH0:Im p sz k)(hM:Dq p sz h m V st)(hu:CC π V m)(hI:PN p sz k st)(j:Ga)(hj:MM p j x)(hp:p.nodes.length≤60)(hkl:x.kids.length≤2)(hjs: ∀j'∈FO x.kids j.at_ j.env,Cl p sz st.d9 j'):
 ∃o h',KL Tryz.prog cfg (.fn 111) [.ptr m 0,.agg [.d (.int .i64 (j.node)),.d (.int .i64 (j.at_)),.d (.be (j.env.map AL))]] h π true none=.ok (o,h')∧FL p sz π m V h (Bn (Fb p k) (FO x.kids j.at_ j.env) st) o h':=by
 have hm:=hM.box;have um:=hu m (V.m_mem m);simp only[Aq]at hm;have e1:=AG um;have e2:=Al um;have hx:=hj.node;have hn:=hj.n0;have hel:=hj.len;have hxl:=O1 hj;replace hM:=AA.mk hM;replace hu:=AA.mk hu;replace hjs:=AA.mk hjs;replace hI:=AA.mk hI
 (refine Ah rfl Tryz.func111 rfl rfl rfl ?_;show Wp _ _ _ _ (Tryz.f111.body.get rfl) _ _;simp only[Tryz.f111,AS])
 refine aw ?_;refine AY x.kids _ (S:=fun m' i (a:AB×Nat)=>⟨[(0,.ptr m 0),(3,.ptr (0::0::π) 0),(15,.d (.be (x.kids.map AK))),(16,.d (.int .i64 (m'))),(17,.d (.int .i64 (i)))],a.1,a.2+13,[]⟩)
  (Inv:=fun i rest a=>AA (∃V' st',CU p sz π m V h (a.2+13) V' st' a.1∧PN p sz k st'∧(∀j'∈FO rest j.at_ j.env,Cl p sz st'.d9 j')∧Bn (Fb p k) (FO x.kids j.at_ j.env) st=Bn (Fb p k) (FO rest j.at_ j.env) st')∧a.1.get (0::0::π)=some (.box [.d (.int .i64 (j.node)),.d (.int .i64 (j.at_)),.d (.be (j.env.map AL))])) (b0:=(_,_)) rfl ⟨⟨V,st,?_,hI.out,hjs.out,rfl⟩,?_⟩ ?_ ?_
 .refine(P5 hM.out hu.out fun id b=>?_).up (I4 _);have q1:=AG b;simp only[go_sem,q1,AM]
 .simp only[go_sem]
 .rintro i y ⟨g,b⟩ hy hi him ⟨hl,k2⟩ IH;dsimp only at*;obtain⟨V',st',hR,hI',hj',he⟩:=hl.out;clear hl;replace he:=AA.mk he;replace hI':=AA.mk hI';replace hj':=AA.mk hj';replace hR:=AA.mk hR;refine aw ?_;have hjy:=hj'.out ⟨y,j.at_,j.env⟩ (by simp[FO]);refine AX (IH0 g ((b+23)::π) m V' st' ⟨y,j.at_,j.env⟩ hR.out.rep (hR.out.apart hu.out (by omega)) hI'.out.rc hjy hI'.out.w0 hI'.out.w1 hI'.out.w2 hI'.out.ev) (fun o1 g1 p1=>?_);have hb:=(hR.out.box hu.out (k:=0) (n:=b+23) (by omega) p1).trans k2;have hgo:AA (Bn (Fb p k) (FO (y::x.kids.drop (i+1)) j.at_ j.env) st'=(Fb p k ⟨y,j.at_,j.env⟩ st').bind (Bn (Fb p k) (FO (x.kids.drop (i+1)) j.at_ j.env))):=⟨rfl⟩;cases hd:Fb p k ⟨y,j.at_,j.env⟩ st' with
  |none=>
   rw[hd]at p1 hgo;have fin:=hR.out.f9 hu.out (by omega) p1;obtain rfl:=p1.1;refine aw ?_;rw[he.out,hgo.out];exact fin
  |some st2=>
   rw[hd]at p1 hgo;have hdp:=Iy hF k _ _ _ hI'.out.rc hjy hd;obtain⟨V2,hR2,_⟩:=hR.out.call hu.out (by omega) p1;obtain rfl:=p1.1;replace p1:=AA.mk p1;replace hd:=AA.mk hd;replace hR2:=AA.mk hR2;refine aw ?_;refine IH.out (_,_) ⟨⟨V2,st2,hR2.out.up (by omega),hI'.out.post hdp,fun j' hj2=>Q0 (hj'.out j' ?_) hdp.ext,?_⟩,hb⟩
   .simp only[FO,D8,Ce]at*;exact .inr hj2
   .rw[he.out,hgo.out];rfl
 .rintro i ⟨g,b⟩ hi him ⟨hl,k2⟩;dsimp only at*;obtain⟨V',st',hR,hI',hj',he⟩:=hl.out;clear hl;replace he:=AA.mk he;refine aw ?_;rw[he.out];exact hR.fin
theorem SM(f:Ga→CK→Option CK)(j:Ga)(st:CK):Bn f [j] st=f j st:=by
 simp only[Bn];cases f j st<;>rfl
theorem jV{p:AI}{sz:List Int}{k:Nat}(hF:BD p sz)(IH0:Im p sz k){h:AB}{π:List Nat}{m:Abs.Id}{V:MV}{st:CK}(hM:Dq p sz h m V st)(hu:CC π V m)(hI:PN p sz k st)(j:Ga){x:Cq}(hj:MM p j x)(hp:p.nodes.length≤60){e0:BS}(ha:x.args=[e0])(hf:e0.formed j.env.length=true){ka kb:Int}(hk:x.kids=[ka,kb])
 (hja:Cl p sz st.d9 ⟨ka,j.at_,j.env⟩) (hjb:Cl p sz st.d9 ⟨kb,j.at_,j.env⟩):
 ∃o h',KL Tryz.prog cfg (.fn 113) [.ptr m 0,.agg [.d (.int .i64 (j.node)),.d (.int .i64 (j.at_)),.d (.be (j.env.map AL))]] h π true none=.ok (o,h')∧FL p sz π m V h (Bn (Fb p k) (Bj x (Ur x j.env) j.at_ j.env) st) o h':=by
 have hm:=hM.box;have um:=hu m (V.m_mem m);simp only[Aq]at hm;have e1:=AG um;have e2:=Al um;have hx:=hj.node;have hn:=hj.n0;have hel:=hj.len;have hxl:=O1 hj;obtain⟨xo,xn,xa,xk⟩:=x;dsimp only at ha hk;subst ha;subst hk;have hvk: ∃v,v=e0.value j.env:=⟨_,rfl⟩;obtain⟨v,hv⟩:=hvk;have hval:=xF j.env e0 hf;rw[←hv]at hval;have hif:AA (Ur ⟨xo,xn,[e0],[ka,kb]⟩ j.env=if v.kind=1∧v.n≠0 then 0 else 1):=⟨by simp only[Ur,Ex,hv]⟩;replace hv:=AA.mk hv;replace hM:=AA.mk hM;replace hu:=AA.mk hu;replace hja:=AA.mk hja;replace hjb:=AA.mk hjb;replace hI:=AA.mk hI;have go:AA (∀(c:Int),Cl p sz st.d9 ⟨c,j.at_,j.env⟩→ ∀H n,(∀id,Id.under π id=false→H.get id=h.get id)→ ∃o g1,KL Tryz.prog cfg (.fn 66) [.ptr m 0,.d (.int .i64 (c)),.d (.int .i64 (j.at_)),.d (.be (j.env.map AL))] H (n::π) true none=.ok (o,g1)∧FL p sz π m V h (Fb p k ⟨c,j.at_,j.env⟩ st) o (gc (n::π) g1)):=⟨fun c hc H n hH=>by
  obtain⟨o,g1,h1,h2⟩:=IH0 H (n::π) m V st ⟨c,j.at_,j.env⟩ (EF hM.out hu.out hH) (hu.out.ext n) hI.out.rc hc hI.out.w0 hI.out.w1 hI.out.w2 hI.out.ev;exact⟨o,g1,h1,Pq hu.out hH h2⟩⟩
 by_cases hc:v.kind=1∧v.n≠0
 .rw[hif.out,DO hc];clear hif;have hgo:AA (Bn (Fb p k) (Bj ⟨xo,xn,[e0],[ka,kb]⟩ 0 j.at_ j.env) st=Fb p k ⟨ka,j.at_,j.env⟩ st):=⟨SM _ _ _⟩
  (refine Ah rfl Tryz.func113 rfl rfl rfl ?_;show Wp _ _ _ _ (Tryz.f113.body.get rfl) _ _;simp only[Tryz.f113,AS])
  refine aw ?_;refine Eu (go.out ka hja.out _ _ fun id b=>?_) (fun o1 g1 p1=>?_)
  .have q1:=AG b;simp only[go_sem,q1,AM]
  .rw[←hgo.out]at p1;cases hr:Bn (Fb p k) (Bj ⟨xo,xn,[e0],[ka,kb]⟩ 0 j.at_ j.env) st;all_goals
    rw[hr]at p1;have fin:=AA.mk p1;obtain rfl:=p1.1;replace p1:=AA.mk p1;refine aw ?_;exact fin.out
 .rw[hif.out,CS hc];clear hif;have hgo:AA (Bn (Fb p k) (Bj ⟨xo,xn,[e0],[ka,kb]⟩ 1 j.at_ j.env) st=Fb p k ⟨kb,j.at_,j.env⟩ st):=⟨SM _ _ _⟩;have hz:(if v.kind=1 then v.n else 0)=0:=by
   split
   .rename_i hk;by_cases h0:v.n=0
    .exact h0
    .exact absurd ⟨hk,h0⟩ hc
   .rfl
  clear hc
  (refine Ah rfl Tryz.func113 rfl rfl rfl ?_;show Wp _ _ _ _ (Tryz.f113.body.get rfl) _ _;simp only[Tryz.f113,AS])
  refine aw ?_;refine Eu (go.out kb hjb.out _ _ fun id b=>?_) (fun o1 g1 p1=>?_)
  .have q1:=AG b;simp only[go_sem,q1,AM]
  .rw[←hgo.out]at p1;cases hr:Bn (Fb p k) (Bj ⟨xo,xn,[e0],[ka,kb]⟩ 1 j.at_ j.env) st;all_goals
    rw[hr]at p1;have fin:=AA.mk p1;obtain rfl:=p1.1;replace p1:=AA.mk p1;refine aw ?_;exact fin.out
variable{x1 x2 x3 x4 x5 x7 x8 x9 x10 x11 x12:AV}
theorem Wx{x0:AV}{ds:List Bq}{g:Ao}{d:Bq}(hm:h.get m=some (.box [x0,x1,x2,x3,x4,x5,.d (.be (ds.map Ax)),x7,x8,x9,x10,x11,x12]))(um:Id.under π m=false)(h0:0≤g.eq)(hd:ds[g.eq.toNat]? =some d)(c1:d.am.length≤30)(c2:d.ac.length≤30)(he:d.own≤g.env.length)(hl:g.env.length≤10000)(c:Bool)(n:Int)(hn:0≤n)(hn2:n<if c then(d.am.length:Int)else d.ac.length):
 ∃o h',KL Tryz.prog cfg (.fn 95) [.ptr m 0,.agg [.d (.int .i64 (g.eq)),.d (.int .i64 (g.at_)),.d (.be (g.env.map AL))],.d (.bool (c)),.d (.int .i64 (n))] h π true (some π)=.ok (o,h')∧o=.ret (.d (.int .i64 (g.own d c n))):=by
 have hdl:=AH hd;have e1:=AG um;have e2:=Al um;unfold Bq.own at he;cases c with
 |true=>
  simp only[F3]at hn2;have hlt:g.env.length-d.ac.length-d.am.length+n.toNat<g.env.length:=by omega
  obtain⟨v,hv⟩:=get_some hlt;have hpl:AA (g.own d true n=v.n):=⟨by
   rw[Ao.own];simp only[F3];rw[hv];rfl⟩
  have q1:((g.env.length:Int)-(d.ac.length:Int)-(d.am.length:Int)+n).toNat=g.env.length-d.ac.length-d.am.length+n.toNat:=by omega
  rw[←q1]at hv;replace q1:=AA.mk q1;have q2:0≤(g.env.length:Int)-(d.ac.length:Int)-(d.am.length:Int)+n:=by omega
  (refine Ah rfl Tryz.func95 rfl rfl rfl ?_;show Wp _ _ _ _ (Tryz.f95.body.get rfl) _ _;simp only[Tryz.f95,AS])
  refine aw ?_;rw[hpl.out]
 |false=>
  simp only[AM,ES]at hn2;have hlt:g.env.length-d.ac.length-0+n.toNat<g.env.length:=by omega
  obtain⟨v,hv⟩:=get_some hlt;have hpl:AA (g.own d false n=v.n):=⟨by
   rw[Ao.own];simp only[AM,ES];rw[hv];rfl⟩
  have q1:((g.env.length:Int)-(d.ac.length:Int)+n).toNat=g.env.length-d.ac.length-0+n.toNat:=by omega
  rw[←q1]at hv;replace q1:=AA.mk q1;have q2:0≤(g.env.length:Int)-(d.ac.length:Int)+n:=by omega
  (refine Ah rfl Tryz.func95 rfl rfl rfl ?_;show Wp _ _ _ _ (Tryz.f95.body.get rfl) _ _;simp only[Tryz.f95,AS])
  refine aw ?_;rw[hpl.out]
theorem Mn{h:AB}{π:List Nat}{m:Abs.Id}{x0 x1 x2 x3 x4 x5 x7 x8 x9 x10 x11 x12:AV}{ds:List Bq}{g:Ao}{d:Bq}(hm:h.get m=some (.box [x0,x1,x2,x3,x4,x5,.d (.be (ds.map Ax)),x7,x8,x9,x10,x11,x12]))(um:Id.under π m=false)(h0:0≤g.eq)(hd:ds[g.eq.toNat]? =some d)(c1:d.am.length≤30)(c2:d.ac.length≤30)(he:d.own≤g.env.length)(hl:g.env.length≤10000)(n:Int)(hn:0≤n)(hn2:n≤d.ac.length):
 ∃o h',KL Tryz.prog cfg (.fn 94) [.ptr m 0,.agg [.d (.int .i64 (g.eq)),.d (.int .i64 (g.at_)),.d (.be (g.env.map AL))],.d (.int .i64 (n))] h π true (some π)=.ok (o,h')∧o=.ret (.d (.int .i64 (g.place d n))):=by
 have e1:=AG um;have e2:=Al um;have e3:=AF um;by_cases hn0:n=0
 ·(refine Ah rfl Tryz.func94 rfl rfl rfl ?_;show Wp _ _ _ _ (Tryz.f94.body.get rfl) _ _;simp only[Tryz.f94,AS])
  (repeat' (first|simp only[go_sem, *,Ao.place]|(refine sx ?_ ?_<;>intro hc)|refine sy (by omega) fun x hx hm=>?_|simp(disch:=first|assumption|omega) only[AJ]))
 .have w:IntKind.i64.wrap (n-1)=n-1:=wrap_id (by omega) (by omega);have hp:g.place d n=g.own d false (n-1):=by rw[Ao.place,CS hn0]
  rw[hp]
  (refine Ah rfl Tryz.func94 rfl rfl rfl ?_;show Wp _ _ _ _ (Tryz.f94.body.get rfl) _ _;simp only[Tryz.f94,AS])
  refine aw ?_;refine DF (Wx (d:=d) (Eq.trans (b:=h.get m) ?_ hm) (e3 _) h0 hd c1 c2 he hl false (n-1) (by omega) (by simp only[AM,ES];omega)) (fun o1 g1 p1=>?_)
  .simp only[go_sem,e1,AM]
  subst p1;exact au
variable{x6:AV}{sp:List (List AZ)}
theorem aQ(hm:h.get m=some (.box [.d (.be sp),x1,x2,x3,x4,x5,x6,x7,x8,x9,x10,x11,x12]))(hl:sp.length≤1000000)(n:Int):
 ∃o h',KL Tryz.prog cfg (.fn 146) [.ptr m 0,.d (.int .i64 (n))] h π true (some π)=.ok (o,h')∧o=(H6 (CL 2) (decide (0≤n)&&decide (n<sp.length))).1:=by
 (refine Ah rfl Tryz.func146 rfl rfl rfl ?_;show Wp _ _ _ _ (Tryz.f146.body.get rfl) _ _;simp only[Tryz.f146,AS])
 (repeat' (first|simp only[go_sem, *]|(refine sx ?_ ?_<;>intro hc)|refine sy (by omega) fun x hx hm=>?_|simp(disch:=first|assumption|omega) only[AJ]))
 all_goals simp[H6, *]
variable{ch:List (List AZ)}
theorem sI(hm:h.get m=some (.box [.d (.be sp),x1,.d (.be ch),x3,.d (.be (p.free.map Av)),x5,x6,x7,x8,x9,x10,x11,x12]))(um:Id.under π m=false)(h1:sp.length≤1000000)(h2:ch.length≤1000000)(h3:p.free.length≤1000000)(v:CT):
 ∃o h',KL Tryz.prog cfg (.fn 180) [.ptr m 0,.agg [.d (.int .i64 (v.kind)),.d (.int .i64 (v.n))]] h π true (some π)=.ok (o,h')∧o=(H6 (CL 2) (v.inB p ch.length sp.length)).1:=by
 have e1:=AG um;have e2:=Al um;have w1:IntKind.i64.wrap ((p.free.length:Int)-1)=(p.free.length:Int)-1:=wrap_id (by omega) (by omega);have w2:IntKind.i64.wrap ((ch.length:Int)-1)=(ch.length:Int)-1:=wrap_id (by omega) (by omega);have w3:IntKind.i64.wrap ((sp.length:Int)-1)=(sp.length:Int)-1:=wrap_id (by omega) (by omega)
 (refine Ah rfl Tryz.func180 rfl rfl rfl ?_;show Wp _ _ _ _ (Tryz.f180.body.get rfl) _ _;simp only[Tryz.f180,AS])
 (repeat' (first|simp only[go_sem, *]|(refine sx ?_ ?_<;>intro hc)|refine sy (by omega) fun x hx hm=>?_|simp(disch:=first|assumption|omega) only[AJ]))
 all_goals clear hm e1 e2 w1 w2 w3
 all_goals first
 |(have hz:v.inB p ch.length sp.length=true:=by(unfold CT.inB;grind)
   rw[hz];rfl)
 |(have hz:v.inB p ch.length sp.length=false:=by(unfold CT.inB;grind)
   rw[hz];rfl)
theorem WC(hm:h.get m=some (.box [.d (.be sp),x1,.d (.be ch),x3,.d (.be (p.free.map Av)),x5,x6,x7,x8,x9,x10,x11,x12]))(um:Id.under π m=false)(h1:sp.length≤1000000)(h2:ch.length≤1000000)(h3:p.free.length≤1000000)(l:List CT)(n:Int)(hn:n≤1000000):
 ∃o h',KL Tryz.prog cfg (.fn 147) [.ptr m 0,.d (.be (l.map AL)),.d (.int .i64 (n))] h π true (some π)=.ok (o,h')∧o=(H6 (CL 2) (decide ((l.length:Int)=n)&&l.all (CT.inB p ch.length sp.length))).1:=by
 have e1:=AG um;have e2:=Al um;have e3:=AF um;by_cases hl:(l.length:Int)=n
 .have hl2:l.length≤1000000:=by omega
  rw[Co hl,D7]
  (refine Ah rfl Tryz.func147 rfl rfl rfl ?_;show Wp _ _ _ _ (Tryz.f147.body.get rfl) _ _;simp only[Tryz.f147,AS])
  refine aw ?_;refine AY l _ (S:=fun m' i (a:AB×Nat)=>⟨[(0,.ptr m 0),(13,.d (.be (l.map AL))),(14,.d (.int .i64 (m'))),(15,.d (.int .i64 (i)))],a.1,a.2+7,[]⟩)
   (Inv:=fun i rest a=>a.1.get m=h.get m∧AA (l.all (CT.inB p ch.length sp.length)=rest.all (CT.inB p ch.length sp.length))) (b0:=(h,_)) ?_ ⟨rfl,⟨rfl⟩⟩ ?_ ?_
  .omega
  .rintro i y ⟨g,c⟩ hy hi him ⟨hg,hr⟩ IH;dsimp only at*;refine aw ?_;refine DF (sI (p:=p) (sp:=sp) (ch:=ch) (Eq.trans (b:=h.get m) ?_ hm) (e3 _) h1 h2 h3 y) (fun o1 g1 p1=>?_)
   .simp only[go_sem,e1,hg,AM]
   cases hv:y.inB p ch.length sp.length with
   |true=>
    rw[hv]at p1;obtain rfl:o1=.ret (.ge []):=p1;refine aw ?_;refine IH.out (_,_) ⟨?_,⟨?_⟩⟩
    .simp only[go_sem,e1,hg,AM]
    .rw[hr.out,D3,hv,D7]
   |false=>
    rw[hv]at p1;obtain rfl:o1=.f9 (CL 2):=p1;refine aw ?_;rw[hr.out,D3,hv,By];rfl
  .rintro i ⟨g,c⟩ hi him ⟨hg,hr⟩;dsimp only at*;refine aw ?_;rw[hr.out];rfl
 .rw[CE hl,By]
  (refine Ah rfl Tryz.func147 rfl rfl rfl ?_;show Wp _ _ _ _ (Tryz.f147.body.get rfl) _ _;simp only[Tryz.f147,AS])
  refine aw ?_;rfl
def N4(π:List Nat)(g:AB)(b:Nat)(v:AV)(L:List CT):Prop:=(L=[]∧v=.ci)∨ ∃id,v=.em id 0 L.length∧g.get id=some (.co 2 (L.map AL))∧ ∃n,n<b∧Id.under (n::π) id=true∧ ∃l,id=1::l
def FZ(c n:Nat):List CT:=(List.range' c n).map fun(i:Nat)=>⟨3,(i:Int)⟩
def J6(c n:Nat):List CT:=(List.range' c n).map fun(i:Nat)=>⟨4,(i:Int)⟩
theorem Xr(c n:Nat):FZ c (n+1)=FZ c n++[⟨3,((c+n:Nat):Int)⟩]:=by simp[FZ,List.range'_1_concat]
theorem aO(c n:Nat):J6 c (n+1)=J6 c n++[⟨4,((c+n:Nat):Int)⟩]:=by simp[J6,List.range'_1_concat]
variable{g:AB}{b:Nat}{L:List CT}
theorem Q3{b':Nat}{v:AV}(h:N4 π g b v L)(hb:b≤b'):N4 π g b' v L:=by
 rcases h with h|⟨id,h1,h2,n,h3,h4⟩
 .exact .inl h
 .exact .inr ⟨id,h1,h2,n,by omega,h4⟩
theorem GK{π:List Nat}{b n:Nat}{id:Abs.Id}(hn:n<b)(hu:Id.under (n::π) id=true)(hl: ∃l,id=1::l):(∀a k,b≤k→Id.is (a::k::π) id=false)∧(∀a k,b≤k→Id.is id (a::k::π)=false)∧(∀l,Id.is (0::l) id=false)∧(∀l,Id.is id (0::l)=false):=by
 have key: ∀a k,b≤k→a::k::π≠id:=fun a k hk e=>by
  subst e;have:=Bg hu (n':=k) (under_iff.2 ⟨[a],rfl⟩);omega
 obtain⟨l0,rfl⟩:=hl;exact⟨fun a k hk=>AE (key a k hk),fun a k hk=>AE fun e=>key a k hk e.symm,fun l=>AE (by simp),fun l=>AE (by simp)⟩
variable{n:Nat}
theorem Mf{k:Nat}(hn:n<b)(hk:k=L.length)(hg:g.get (1::n::π)=some (.co 2 (L.map AL))):N4 π g b (.em (1::n::π) 0 k) L:=.inr ⟨_,by rw[hk],hg,n,hn,under_iff.2 ⟨[1],rfl⟩,_,rfl⟩
theorem Nc{π:List Nat}{g:AB}{b:Nat}{v:AV}{L:List CT}(h:N4 π g b v L)(b':Nat): ∀i∈AD v,Hq b b' π i=false:=by
 rcases h with⟨_,rfl⟩|⟨id,rfl,_,n,h3,h4,_⟩
 .intro i hi;simp[AD]at hi
 .intro i hi;simp only[AD,As]at hi;subst hi;exact Oz h3 h4
theorem tT{π:List Nat}{g:AB}{b:Nat}{v:AV}{L:List CT}(h:N4 π g b v L){V:MV}{m:Abs.Id}(hu:CC π V m): ∀i∈AD v,i∉V.ids m:=by
 rcases h with⟨_,rfl⟩|⟨id,rfl,_,n,h3,h4,_⟩
 .intro i hi;simp[AD]at hi
 .intro i hi hv;simp only[AD,As]at hi;subst hi;have:=hu _ hv;rw[BR h4]at this;cases this
def an(π:List Nat)(g:AB)(b:Nat)(v:AV)(L:List CT):Prop:=(L=[]∧v=.ci)∨ ∃id,v=.em id 0 L.length∧g.get id=some (.it 2 (L.map AL))∧ ∃n,n<b∧Id.under (n::π) id=true∧ ∃l,id=1::l
theorem Uf{g':AB}{v:AV}(h:an π g b v L)(hk: ∀i∈AD v,g'.get i=g.get i):an π g' b v L:=by
 rcases h with h|⟨id,rfl,h2,h3⟩
 .exact .inl h
 .exact .inr ⟨id,rfl,by rw[hk id (by simp[AD])];exact h2,h3⟩
theorem sG{π:List Nat}{g:AB}{b:Nat}{v:AV}{L:List CT}(h:an π g b v L)(a k:Nat)(hk:b≤k): ∀i∈AD v,Id.is (a::k::π) i=false:=by
 rcases h with⟨_,rfl⟩|⟨id,rfl,_,n,h3,h4,_⟩
 .intro i hi;simp[AD]at hi
 .intro i hi;simp only[AD,As]at hi;subst hi;refine AE fun e=>?_;subst e;have:=Bg h4 (n':=k) (under_iff.2 ⟨[a],rfl⟩);omega
theorem bt{π:List Nat}{g:AB}{b n:Nat}{v:AV}{L:List CT}(h:an π g b v L)(hn:b≤n): ∀i∈AD v,Id.under (n::π) i=false:=by
 rcases h with⟨_,rfl⟩|⟨id,rfl,_,k,h3,h4,_⟩
 .intro i hi;simp[AD]at hi
 .intro i hi;simp only[AD,As]at hi;subst hi;cases hx:Id.under (n::π) i with
  |false=>rfl
  |true=>
   have:=Bg h4 hx;omega
theorem VL{j:Ga}{d:Bq}{G:Ao}(hF:BD p sz)(hd:Fh p sz st.d9 j x d)(hG:G=Ak st.d9 d x.n j)(H:AB)(ρ:List Nat)(Vx:MV)(w:Int)(hb:H.get m=some (.box (Aq p sz Vx w)))(hu2:Id.under ρ m=false)(n:Int)(hn1:0≤n)(hn2:n≤d.ac.length):
 ∃o h',KL Tryz.prog cfg (.fn 94) [.ptr m 0,.agg [.d (.int .i64 (x.n)),.d (.int .i64 (j.at_)),.d (.be (G.env.map AL))],.d (.int .i64 (n))] H ρ true (some ρ)=.ok (o,h')∧o=.ret (.d (.int .i64 (G.place d n))):=by
 have hGo:d.own≤G.env.length∧G.env.length≤10000:=by
  rw[hG,hd.env];have:=hd.ok.am;have:=hd.ok.ac;obtain⟨_,_,_,_,_,_,hjl⟩:=KM hF hd.job;unfold Bq.own;omega
 have hGd:G.eq=x.n:=by rw[hG];rfl
 have hGa:G.at_=j.at_:=by rw[hG];rfl
 have:=Mn (ds:=p.defs) (g:=G) (d:=d) hb hu2 (by rw[hGd];exact hd.n0) (by rw[hGd];exact hd.eq) hd.ok.am hd.ok.ac hGo.1 hGo.2 n hn1 hn2
 rwa [hGd,hGa]at this
theorem jW{p:AI}{sz:List Int}{k:Nat}(hF:BD p sz)(IH0:Im p sz k){h:AB}{π:List Nat}{m:Abs.Id}{V:MV}{st:CK}(hu:CC π V m)(hI:PN p sz k st){j:Ga}{x:Cq}{d:Bq}(hd:Fh p sz st.d9 j x d){G:Ao}(hG:G=Ak st.d9 d x.n j)
 {e:Bm} {g:AB} {b:Nat} {ev:AV} {V2:MV} (en0:e.get 0=.ptr m 0) (en3:e.get 3=.ptr (0::0::π) 0) (n4:e.get 4=.ptr (0::10::π) 0) (n5:e.get 5=.ptr (0::21::π) 0) (n6:e.get 6=.ptr (0::31::π) 0) (hb:60≤b) (hR:CU p sz π m V h b V2 {st with d9:=CM st.d9 d G} g) (hev: ∀i∈AD ev,i∉V2.ids m)
 (k2:g.get (0::0::π)=some (.box [.d (.int .i64 (j.node)),.d (.int .i64 (j.at_)),.d (.be (j.env.map AL))])) (k3:g.get (0::10::π)=some (.box [.d (.int .i64 (x.op)),.d (.int .i64 (x.n)),.d (.be (x.args.map BU)),.d (.be (x.kids.map AK))])) (k4:g.get (0::21::π)=some (.box [.d (.be (d.am.map Az)),.d (.be (d.ac.map Aj)),.d (.be (d.rules.map Ay))])) (k5:g.get (0::31::π)=some (.box [.d (.int .i64 (x.n)),.d (.int .i64 (j.at_)),ev])) (hfe:an π g b ev G.env):
 Wp cfg (KL Tryz.prog cfg) ⟨112,π,true,none,false,204⟩ 0 (tlC 9 (Tryz.f112.body.get rfl)) ⟨e,g,b,[]⟩ (R4 cfg none [] π true (FL p sz π m V h (NQ (Fb p k) (Hh p x j st)))):=by
 have um:=hu m (V.m_mem m);have e1:=AG um;have e2:=Al um;have hx:=hd.node;have hdl:=hd.eq;have d1:=hd.ok.am;have d2:=hd.ok.ac;obtain⟨n3,hn3⟩: ∃n,n=st.d9.am.length:=⟨_,rfl⟩;obtain⟨n0,hn0⟩: ∃n,n=st.d9.ac.length:=⟨_,rfl⟩;obtain⟨ng,hng⟩: ∃n,n=st.d9.bi.length:=⟨_,rfl⟩;have c1:(CM st.d9 d G).am.length=n3+d.am.length:=by simp[CM,Gx,hn3]
 have c2:(CM st.d9 d G).ac.length=n0+d.ac.length:=by simp[CM,FP,hn0]
 have c3:(CM st.d9 d G).bi.length=ng+1:=by simp[CM,hng]
 have hdo2:Hh p x j st=if n3+d.am.length≤60∧n0+d.ac.length≤24∧ng+1≤40 then some ({st with d9:=CM st.d9 d G},Dc d G 0 d.ac++Bj x 0 j.at_ G.env)else none:=by
  simp only[Hh,hdl,←hG,c1,c2,c3]
 have hmS:=hI.rc.small;simp only[BM.small,AP,Ap]at hmS;obtain⟨s1,s2,s3,s4⟩:=hmS;have gm:=hR.rep.box;simp only[Aq]at gm;have hl3:=Q2 hR.rep.arr;rw[hR.rep.am.len,c1]at hl3;have hl0:=HV (hR.rep.sl 0 (by omega));simp only[A8,BI,c2]at hl0;have hl1:=HV (hR.rep.sl 1 (by omega));simp only[A8,BI,c3]at hl1;have hpan:AA (¬(n3+d.am.length≤60∧n0+d.ac.length≤24∧ng+1≤40)→FL p sz π m V h (NQ (Fb p k) (Hh p x j st)) (.f9 (CL 3)) g):=⟨fun hn=>by
  rw[hdo2,CS hn];exact⟨rfl,hR.frame⟩⟩
 clear c1 c2 c3;have hplace:=AA.mk (VL (m:=m) hF hd hG);replace hdo2:=AA.mk hdo2;replace hG:=AA.mk hG;replace hu:=AA.mk hu;replace hd:=AA.mk hd;replace hI:=AA.mk hI;replace hR:=AA.mk hR;replace hev:=AA.mk hev;replace hn3:=AA.mk hn3;replace hn0:=AA.mk hn0;replace hng:=AA.mk hng;simp only[Tryz.f112,AS,tlC]
 (repeat' (first|simp only[go_sem, *,↓hl3,↓hl0,↓hl1,AM]|(refine sx ?_ ?_<;>intro hc)|refine sy (by omega) fun x hx hm=>?_|simp(disch:=first|assumption|omega) only[AJ]))
 .have hszs:n3+d.am.length≤60∧n0+d.ac.length≤24∧ng+1≤40:=by omega
  have hjp:=X6 (st':={st with d9:=CM st.d9 d G}) hF hI.out.rc hd.out.job hx hd.out.op (by rw[hdo2.out,DO hszs])
  have hdoD:AA (NQ (Fb p k) (Hh p x j st)=Bn (Fb p k) (Dc d G 0 d.ac++Bj x 0 j.at_ G.env) {st with d9:=CM st.d9 d G}):=⟨by rw[hdo2.out,DO hszs];rfl⟩
  replace hjp:=AA.mk hjp;clear en0 en3 n4 n5 n6 k4 hl3 hl0 hl1 gm hpan;refine AY d.ac _ (S:=fun m' i (a:AB×Nat)=>⟨[(0,.ptr m 0),(3,.ptr (0::0::π) 0),(4,.ptr (0::10::π) 0),(6,.ptr (0::31::π) 0),(175,.d (.be (d.ac.map Aj))),(176,.d (.int .i64 (m'))),(177,.d (.int .i64 (i)))],a.1,a.2+25,[]⟩)
   (Inv:=fun i rest a=>AA (∃V' st',CU p sz π m V h (a.2+25) V' st' a.1∧(∀i∈AD ev,i∉V'.ids m)∧PN p sz k st'∧(∀j'∈Dc d G i rest++Bj x 0 j.at_ G.env,Cl p sz st'.d9 j')∧NQ (Fb p k) (Hh p x j st)=Bn (Fb p k) (Dc d G i rest++Bj x 0 j.at_ G.env) st')∧a.1.get (0::0::π)=some (.box [.d (.int .i64 (j.node)),.d (.int .i64 (j.at_)),.d (.be (j.env.map AL))])∧a.1.get (0::10::π)=some (.box [.d (.int .i64 (x.op)),.d (.int .i64 (x.n)),.d (.be (x.args.map BU)),.d (.be (x.kids.map AK))])∧a.1.get (0::31::π)=some (.box [.d (.int .i64 (x.n)),.d (.int .i64 (j.at_)),ev])∧b≤a.2∧AA (an π a.1 b ev G.env)) (b0:=(_,b)) rfl ⟨⟨V2,_,by simpa using hR.out.up (by omega),hev.out,⟨hjp.out.rc,hI.out.w0,hI.out.w1,hI.out.w2,hI.out.ev⟩,hjp.out.jobs,hdoD.out⟩,k2,k3,k5,EL _,⟨hfe⟩⟩ ?_ ?_
  .clear hR hev k2 k3 k5 hfe g V2;rintro i y ⟨g,c⟩ hy hi him ⟨hR,k2,k3,k5,hbc,hfe⟩ IH;dsimp only at*;obtain⟨V',st',hR,hev,hI',hj',he'⟩:=hR.out;have gm:=hR.rep.box;have hm0:=hR.rep.box;simp only[Aq]at gm;have c2: ¬c=2:=by omega
   have w1:IntKind.i64.wrap ((i:Int)+1)=(i:Int)+1:=wrap_id (by omega) (by omega);have hpl:=fun(H:AB) (n:Nat) (hH:H.get m=g.get m)=>hplace.out H (n::π) V' st'.work (hH.trans hm0) (AF um n) ((i:Int)+1) (by omega) (by omega);have hca:AA (∀H:AB,(∀id,(∀a n,c+25≤n→Id.is (a::n::π) id=false)→H.get id=g.get id)→ ∃o g1,KL Tryz.prog cfg (.fn 66) [.ptr m 0,.d (.int .i64 (y.node)),.d (.int .i64 (G.place d ((i:Int)+1))),.d (.be (G.env.map AL))] H ((c+42)::π) true none=.ok (o,g1)∧N1 p sz π m V h (c+25) (c+42) V' g (Fb p k ⟨y.node,G.place d ((i:Int)+1),G.env⟩ st') o (gc ((c+42)::π) g1)):=⟨fun H hH=>UX IH0 hu.out hR hI' (j:=⟨y.node,G.place d ((i:Int)+1),G.env⟩) (hj' _ (by rw[Dc];simp)) H (c+42) (by omega) hH⟩;have hevk:AA (∀i∈AD ev,(∀a k,c+25≤k→Id.is (a::k::π) i=false)∧Id.under ((c+42)::π) i=false):=⟨fun i hi=>⟨fun a k hk=>sG hfe.out a k (by omega) i hi,bt hfe.out (by omega) i hi⟩⟩;replace hm0:=AA.mk hm0;replace hpl:=AA.mk hpl;replace hR:=AA.mk hR;replace hev:=AA.mk hev;replace hI':=AA.mk hI';replace hj':=AA.mk hj';replace he':=AA.mk he';have hjy:AA (Cl p sz st'.d9 ⟨y.node,G.place d ((i:Int)+1),G.env⟩):=⟨hj'.out _ (by rw[Dc];simp)⟩;have hgo2:AA (Bn (Fb p k) (Dc d G i (y::d.ac.drop (i+1))++Bj x 0 j.at_ G.env) st'=(Fb p k ⟨y.node,G.place d ((i:Int)+1),G.env⟩ st').bind (Bn (Fb p k) (Dc d G (i+1) (d.ac.drop (i+1))++Bj x 0 j.at_ G.env))):=⟨rfl⟩;rcases hfe.out with⟨hz8,he8⟩|⟨id8,he8,hg8,n8,hn8,hun8,hl8⟩
   .rw[he8]at k5;have hpl2:=hpl.out;have hca2:=hca.out;rw[show G.env.map AL=[] by rw[hz8];rfl]at hpl2 hca2;replace hpl2:=AA.mk hpl2;replace hca2:=AA.mk hca2;refine ax ?_;refine C2 (hpl2.out _ _ ?_) (fun o1 g1 p1=>?_)
    .simp only[go_sem,e1,AM]
    subst p1;refine ax ?_;refine Eu (hca2.out _ fun id2 b2=>?_) (fun o1 g1 p1=>?_)
    .simp only[go_sem,b2,AM]
    cases hdn:Fb p k ⟨y.node,G.place d ((i:Int)+1),G.env⟩ st' with
    |none=>
     rw[hdn]at p1 hgo2;obtain⟨w8,w9⟩:=p1.f9 rfl;replace p1:=AA.mk p1;subst w8;replace w9:=AA.mk w9;refine ax ?_;rw[he'.out,hgo2.out];exact w9.out
    |some st2=>
     rw[hdn]at p1 hgo2;have hdp:=Iy hF k _ _ _ hI'.out.rc hjy.out hdn;obtain⟨w8,V3,w9,w10⟩:=p1.ret st2 rfl;subst w8;have b0:=(p1.box 0 (by omega)).trans k2;have b10:=(p1.box 10 (by omega)).trans k3;have b31:=(p1.box 31 (by omega)).trans k5;have hk8:=fun i hi=>p1.rg i (hev.out i hi) (hevk.out i hi).1 (hevk.out i hi).2;replace p1:=AA.mk p1;replace hdn:=AA.mk hdn;replace w9:=AA.mk w9;replace w10:=AA.mk w10;replace hk8:=AA.mk hk8;refine ax ?_;refine IH.out (_,c+20) ⟨⟨V3,st2,w9.out.up (by omega),fun i hi=>w10.out i (hev.out i hi) (hevk.out i hi).2,hI'.out.post hdp,fun j' hj2=>Q0 (hj'.out j' ?_) hdp.ext,?_⟩,b0,b10,?_,by omega,⟨Uf hfe.out hk8.out⟩⟩
     .rw[Dc,FN];exact FD _ hj2
     .rw[he'.out,hgo2.out];rfl
     .exact b31.trans (by rw[he8])
   .rw[he8]at k5;have q8:=hevk.out id8 (by rw[he8];simp[AD]);have q81:=q8.1;replace q8:=AA.mk q8.2;have q82:Id.is m id8=false:=AE fun e=>by rw[←e,gm]at hg8;cases hg8
    have q83: ∀l,Id.is (0::l) id8=false:=fun l=>by obtain⟨l0,rfl⟩:=hl8;exact AE (by simp)
    refine ax ?_;refine C2 (hpl.out _ _ ?_) (fun o1 g1 p1=>?_)
    .simp only[go_sem,e1,AM]
    subst p1;refine ax ?_;refine Eu (hca.out _ fun id2 b2=>?_) (fun o1 g1 p1=>?_)
    .simp only[go_sem,b2,AM]
    cases hdn:Fb p k ⟨y.node,G.place d ((i:Int)+1),G.env⟩ st' with
    |none=>
     rw[hdn]at p1 hgo2;obtain⟨w8,w9⟩:=p1.f9 rfl;replace p1:=AA.mk p1;subst w8;replace w9:=AA.mk w9;refine ax ?_;rw[he'.out,hgo2.out];exact w9.out
    |some st2=>
     rw[hdn]at p1 hgo2;have hdp:=Iy hF k _ _ _ hI'.out.rc hjy.out hdn;obtain⟨w8,V3,w9,w10⟩:=p1.ret st2 rfl;subst w8;have b0:=(p1.box 0 (by omega)).trans k2;have b10:=(p1.box 10 (by omega)).trans k3;have b31:=(p1.box 31 (by omega)).trans k5;have hk8:=fun i hi=>p1.rg i (hev.out i hi) (hevk.out i hi).1 (hevk.out i hi).2;replace p1:=AA.mk p1;replace hdn:=AA.mk hdn;replace w9:=AA.mk w9;replace w10:=AA.mk w10;replace hk8:=AA.mk hk8;refine ax ?_;refine IH.out (_,c+20) ⟨⟨V3,st2,w9.out.up (by omega),fun i hi=>w10.out i (hev.out i hi) (hevk.out i hi).2,hI'.out.post hdp,fun j' hj2=>Q0 (hj'.out j' ?_) hdp.ext,?_⟩,b0,b10,?_,by omega,⟨Uf hfe.out hk8.out⟩⟩
     .rw[Dc,FN];exact FD _ hj2
     .rw[he'.out,hgo2.out];rfl
     .exact b31.trans (by rw[he8])
  .clear hR hev k2 k3 k5 hfe g V2;rintro i ⟨g,c⟩ hi him ⟨hR,k2,k3,k5,hbc,hfe⟩;dsimp only at*;obtain⟨V',st',hR9,hev,hI',hj',he'⟩:=hR.out;clear hR;have gi:=hi.out;subst gi;clear hi;obtain⟨kd,hkd,_⟩:=hd.out.kid;have hkj:Dc d G d.ac.length []++Bj x 0 j.at_ G.env=[⟨kd,j.at_,G.env⟩]:=by rw[Bj,hkd];rfl
   rw[hkj]at hj' he';rw[SM]at he';have hca:AA (∀H:AB,(∀id,(∀a n,c+25≤n→Id.is (a::n::π) id=false)→H.get id=g.get id)→ ∃o g1,KL Tryz.prog cfg (.fn 66) [.ptr m 0,.d (.int .i64 (kd)),.d (.int .i64 (j.at_)),.d (.be (G.env.map AL))] H ((c+35)::π) true none=.ok (o,g1)∧N1 p sz π m V h (c+25) (c+35) V' g (Fb p k ⟨kd,j.at_,G.env⟩ st') o (gc ((c+35)::π) g1)):=⟨fun H hH=>UX IH0 hu.out hR9 hI' (j:=⟨kd,j.at_,G.env⟩) (hj' _ (by simp)) H (c+35) (by omega) hH⟩;replace hR9:=AA.mk hR9;replace hev:=AA.mk hev;replace hI':=AA.mk hI';replace hj':=AA.mk hj';replace he':=AA.mk he';replace hkj:=AA.mk hkj;rw[hkd]at k3;replace hkd:=AA.mk hkd;rcases hfe.out with⟨hz8,he8⟩|⟨id8,he8,hg8,n8,hn8,hun8,hl8⟩
   .rw[he8]at k5;have hca2:=hca.out;rw[show G.env.map AL=[] by rw[hz8];rfl]at hca2;replace hca2:=AA.mk hca2;refine ax ?_;refine AX (hca2.out _ fun id2 b2=>?_) (fun o1 g1 p1=>?_)
    .rfl
    cases hdn:Fb p k ⟨kd,j.at_,G.env⟩ st' with
    |none=>
     rw[hdn]at p1 he';obtain⟨w8,w9⟩:=p1.f9 rfl;replace p1:=AA.mk p1;subst w8;replace w9:=AA.mk w9;refine ax ?_;rw[he'.out];exact w9.out
    |some st2=>
     rw[hdn]at p1 he';obtain⟨w8,V3,w9,w10⟩:=p1.ret st2 rfl;subst w8;replace p1:=AA.mk p1;replace hdn:=AA.mk hdn;replace w9:=AA.mk w9;replace w10:=AA.mk w10;refine ax ?_;rw[he'.out];exact w9.out.fin
   .rw[he8]at k5;refine ax ?_;refine AX (hca.out _ fun id2 b2=>?_) (fun o1 g1 p1=>?_)
    .rfl
    cases hdn:Fb p k ⟨kd,j.at_,G.env⟩ st' with
    |none=>
     rw[hdn]at p1 he';obtain⟨w8,w9⟩:=p1.f9 rfl;replace p1:=AA.mk p1;subst w8;replace w9:=AA.mk w9;refine ax ?_;rw[he'.out];exact w9.out
    |some st2=>
     rw[hdn]at p1 he';obtain⟨w8,V3,w9,w10⟩:=p1.ret st2 rfl;subst w8;replace p1:=AA.mk p1;replace hdn:=AA.mk hdn;replace w9:=AA.mk w9;replace w10:=AA.mk w10;refine ax ?_;rw[he'.out];exact w9.out.fin
 all_goals exact hpan.out (by omega)
theorem jX{p:AI}{sz:List Int}{k:Nat}(hF:BD p sz)(IH0:Im p sz k){h:AB}{π:List Nat}{m:Abs.Id}{V:MV}{st:CK}(hM:Dq p sz h m V st)(hu:CC π V m)(hI:PN p sz k st){j:Ga}{x:Cq}{d:Bq}(hd:Fh p sz st.d9 j x d){G:Ao}(hG:G=Ak st.d9 d x.n j)
 {e:Bm} {g:AB} {b:Nat} {ev:AV} (en0:e.get 0=.ptr m 0) (en3:e.get 3=.ptr (0::0::π) 0) (en4:e.get 4=.ptr (0::10::π) 0) (en5:e.get 5=.ptr (0::21::π) 0) (en6:e.get 6=.ptr (0::31::π) 0) (k1: ∀id,Id.under π id=false→g.get id=h.get id)
 (k2:g.get (0::0::π)=some (.box [.d (.int .i64 (j.node)),.d (.int .i64 (j.at_)),.d (.be (j.env.map AL))])) (k3:g.get (0::10::π)=some (.box [.d (.int .i64 (x.op)),.d (.int .i64 (x.n)),.d (.be (x.args.map BU)),.d (.be (x.kids.map AK))])) (k4:g.get (0::21::π)=some (.box [.d (.be (d.am.map Az)),.d (.be (d.ac.map Aj)),.d (.be (d.rules.map Ay))])) (k5:g.get (0::31::π)=some (.box [.d (.int .i64 (x.n)),.d (.int .i64 (j.at_)),ev])) (kl2:N4 π g (b+43) ev G.env):
 Wp cfg (KL Tryz.prog cfg) ⟨112,π,true,none,false,204⟩ 0 (tlC 6 (Tryz.f112.body.get rfl)) ⟨e,g,b+43,[]⟩ (R4 cfg none [] π true (FL p sz π m V h (NQ (Fb p k) (Hh p x j st)))):=by
 have um:=hu m (V.m_mem m);have e1:=AG um;have e2:=Al um;have d1:=hd.ok.am;have d2:=hd.ok.ac;have hGd:G.eq=x.n:=by rw[hG];rfl
 have hGa:G.at_=j.at_:=by rw[hG];rfl
 have hmS:=hI.rc.small;simp only[BM.small,AP,Ap]at hmS;obtain⟨s1,s2,s3,s4⟩:=hmS;obtain⟨ng,hng⟩: ∃n,n=st.d9.bi.length:=⟨_,rfl⟩;obtain⟨n3,hn3⟩: ∃n,n=st.d9.am.length:=⟨_,rfl⟩;obtain⟨n0,hn0⟩: ∃n,n=st.d9.ac.length:=⟨_,rfl⟩;have s2':ng≤40:=by omega
 obtain⟨NC,hNC⟩: ∃l,l=FG d G ng 0 d.am:=⟨_,rfl⟩;have hNCa: ∀(t:Nat) c,d.am[t]? =some c→NC[t]? =some ⟨ng,t,G.place d c.at_,[]⟩:=fun t c hc=>by rw[hNC,Jl,hc];simp
 have hplace:=AA.mk (VL (m:=m) hF hd hG);have hR:AA (CU p sz π m V h (b+43) V st g):=⟨(P5 hM hu k1).up (by omega)⟩;refine xK 3 fun T hT=>?_;have hend:AA (∀(e:Bm) (H:AB) (c:Nat),e.get 0=.ptr m 0→e.get 3=.ptr (0::0::π) 0→e.get 4=.ptr (0::10::π) 0→e.get 5=.ptr (0::21::π) 0→e.get 6=.ptr (0::31::π) 0→(∃V2,CU p sz π m V h (c+66) V2 {st with d9:=CM st.d9 d G} H∧ ∀i∈AD ev,i∉V2.ids m)→H.get (0::0::π)=some (.box [.d (.int .i64 (j.node)),.d (.int .i64 (j.at_)),.d (.be (j.env.map AL))])→H.get (0::10::π)=some (.box [.d (.int .i64 (x.op)),.d (.int .i64 (x.n)),.d (.be (x.args.map BU)),.d (.be (x.kids.map AK))])→H.get (0::21::π)=some (.box [.d (.be (d.am.map Az)),.d (.be (d.ac.map Aj)),.d (.be (d.rules.map Ay))])→H.get (0::31::π)=some (.box [.d (.int .i64 (x.n)),.d (.int .i64 (j.at_)),ev])→an π H (c+66) ev G.env→Wp cfg (KL Tryz.prog cfg) ⟨112,π,true,none,false,204⟩ 0 T ⟨e,H,c+66,[]⟩ (R4 cfg none [] π true (FL p sz π m V h (NQ (Fb p k) (Hh p x j st))))):=⟨fun e H c x0 x3 x4 x5 x6 hr y2 y3 y4 y5 hf=>by
  obtain⟨V2,hr,hv⟩:=hr;rw[hT];exact jW hF IH0 hu hI hd hG x0 x3 x4 x5 x6 (by omega) hr hv y2 y3 y4 y5 hf⟩
 replace hT:=AA.mk hT;replace hM:=AA.mk hM;replace hu:=AA.mk hu;replace hd:=AA.mk hd;replace hI:=AA.mk hI;replace hG:=AA.mk hG;replace hng:=AA.mk hng;replace hn3:=AA.mk hn3;replace hn0:=AA.mk hn0;replace hNC:=AA.mk hNC;replace hNCa:=AA.mk hNCa;replace k1:=AA.mk k1;simp only[Tryz.f112,AS,tlC,jS];refine aw ?_;clear en0 en3 en4 en5 en6;refine AY d.am _ (S:=fun m' i (a:AB×Nat)=>⟨[(0,.ptr m 0),(3,.ptr (0::0::π) 0),(4,.ptr (0::10::π) 0),(5,.ptr (0::21::π) 0),(6,.ptr (0::31::π) 0),(84,.d (.be (d.am.map Az))),(85,.d (.int .i64 (m'))),(86,.d (.int .i64 (i)))],a.1,a.2+47,[]⟩)
  (Inv:=fun i rest a=>AA (∃V',CU p sz π m V h (a.2+47) V' {st with d9:={st.d9 with am:=st.d9.am++NC.take i}} a.1∧ ∀i∈AD ev,i∉V'.ids m)∧a.1.get (0::0::π)=some (.box [.d (.int .i64 (j.node)),.d (.int .i64 (j.at_)),.d (.be (j.env.map AL))])∧a.1.get (0::10::π)=some (.box [.d (.int .i64 (x.op)),.d (.int .i64 (x.n)),.d (.be (x.args.map BU)),.d (.be (x.kids.map AK))])∧a.1.get (0::21::π)=some (.box [.d (.be (d.am.map Az)),.d (.be (d.ac.map Aj)),.d (.be (d.rules.map Ay))])∧a.1.get (0::31::π)=some (.box [.d (.int .i64 (x.n)),.d (.int .i64 (j.at_)),ev])∧AA (N4 π a.1 (a.2+47) ev G.env)) (b0:=(_,b)) rfl ⟨⟨V,by simpa using hR.out.up (by omega),tT kl2 hu.out⟩,k2,k3,k4,k5,⟨Q3 kl2 (by omega)⟩⟩ ?_ ?_
 .clear hR kl2 k1 k2 k3 k4 k5 g b;rintro i y ⟨g,b⟩ hy hi him ⟨hR,k2,k3,k4,k5,kl⟩ IH;dsimp only at*;obtain⟨V',hR,hev⟩:=hR.out;have hevn:=Nc kl.out (b+81);have hpy:=hd.out.ok.chan y (Ac hy);have gm:=hR.rep.box;have hpl:=fun(H:AB) (n:Nat) (hH:H.get m=g.get m)=>hplace.out H (n::π) V' st.work (hH.trans gm) (AF um n) y.at_ hpy.1 hpy.2.1;replace hpl:=AA.mk hpl;simp only[Aq]at gm;have hl1:=HV (hR.rep.sl 1 (by omega));simp only[A8,BI,←hng.out]at hl1;have hv3:=hR.rep.arr;have hA3:AA (∀A,V'.v3=.em A 0 V'.rows.length→(∀a n,b+47≤n→Id.is (a::n::π) A=false)∧(∀a n,b+47≤n→Id.is A (a::n::π)=false)∧Id.is A m=false∧Id.is m A=false∧ ∀k,Id.is A (0::k::π)=false):=⟨fun A hA=>by
   have hi:=hR.ids A (V'.v3_mem m (by rw[hA];simp[AD]));have hg:=HO hR.rep.arr (id:=A) (by rw[hA];simp[AD]);exact⟨FQ (b':=0) hu.out hi,KQ hu.out hi,AE fun e=>(by rw[e,gm]at hg;cases hg),AE fun e=>(by rw[←e,gm]at hg;cases hg),fun k=>AE fun e=>HN hR hu.out k (by rw[←e];exact V'.v3_mem m (by rw[hA];simp[AD]))⟩⟩
  have hrl:V'.rows.length≤1000:=by
   have:=hR.rep.am.len;simp only[CI,IP]at this;omega
  have hgo:AA (∀H:AB,H.get m=some (.box (Aq p sz {V' with v3:=.em (1::(b+74)::π) 0 (V'.rows.length+1)} st.work))→H.get (1::(b+74)::π)=some (.arr 4 (V'.rows++[A3 ⟨ng,i,G.place d y.at_,[]⟩ .ci]))→(∀id,Id.is m id=false→(∀id2∈AD V'.v3,Id.is id2 id=false)→Hq (b+47) (b+81) π id=false→H.get id=g.get id)→ ∃V2,CU p sz π m V h (b+81) V2 {st with d9:={st.d9 with am:=st.d9.am++NC.take (i+1)}} H∧ ∀i∈AD ev,i∉V2.ids m):=⟨fun H a1 a0 a4=>by
   obtain⟨V2,z1,z2⟩:=hR.step (b':=b+81) (by omega) (rQ hR.rep (hR.apartB hu.out) (q:=⟨ng,i,G.place d y.at_,[]⟩) rfl (1::(b+74)::π) H a1 a0 ⟨Kv (b+74) [1] (by omega) (by omega),_,rfl⟩ a4);rw[Is,hNCa.out i y hy,←EM];exact⟨V2,z1,fun i hi=>z2 i (hev i hi) (hevn i hi)⟩⟩
  replace hevn:=AA.mk hevn;replace hev:=AA.mk hev;replace hR:=AA.mk hR;replace kl:=kl.out;rcases kl with⟨hz,rfl⟩|⟨id,rfl,hg,n,hnb,hun,hl⟩
  .have hpl2:=hpl.out;rw[hz,D4]at hpl2;replace hpl2:=AA.mk hpl2;replace hz:=AA.mk hz;rcases hv3 with⟨hv3,hr0⟩|⟨A,hv3,gA⟩
   .rw[hv3]at gm
    (repeat' (first|simp only[go_sem, *,↓hl1,AM]|(refine sx ?_ ?_<;>intro hc)|refine sy (by omega) fun x hx hm=>?_|simp(disch:=first|assumption|omega) only[AJ]))
    refine C2 (hpl2.out _ _ ?_) (fun o1 g1 p1=>?_)
    .simp only[go_sem,e1,AM]
    subst p1
    (repeat' (first|simp only[go_sem, *,↓hl1,AM]|(refine sx ?_ ?_<;>intro hc)|refine sy (by omega) fun x hx hm=>?_|simp(disch:=first|assumption|omega) only[AJ]))
    refine IH.out (_,_) ⟨⟨hgo.out _ ?_ ?_ fun id b1 b2 b3=>?_⟩,?_,?_,?_,?_,⟨.inl ⟨hz.out,rfl⟩⟩⟩
    .rw[hr0];simp only[go_sem,Aq];first|done|rfl
    .rw[hr0];simp only[go_sem,e2,AM];rfl
    .have q5:=DB b3;simp only[go_sem,q5,b1,AM]
    .simp only[go_sem,k2,e2,AM]
    .simp only[go_sem,k3,e2,AM]
    .simp only[go_sem,k4,e2,AM]
    .simp only[go_sem,k5,e2,AM]
   .obtain⟨q1,q2,q3,q4,q5⟩:=hA3.out A hv3;rw[hv3]at gm
    (repeat' (first|simp only[go_sem, *,↓hl1,Em,AM]|(refine sx ?_ ?_<;>intro hc)|refine sy (by omega) fun x hx hm=>?_|simp(disch:=first|assumption|omega) only[AJ]))
    refine C2 (hpl2.out _ _ ?_) (fun o1 g1 p1=>?_)
    .simp only[go_sem,e1,AM,q1,q2,q3,q4,q5]
    subst p1
    (repeat' (first|simp only[go_sem, *,↓hl1,Em,AM]|(refine sx ?_ ?_<;>intro hc)|refine sy (by omega) fun x hx hm=>?_|simp(disch:=first|assumption|omega) only[AJ]))
    refine IH.out (_,_) ⟨⟨hgo.out _ ?_ ?_ fun id2 b1 b2 b3=>?_⟩,?_,?_,?_,?_,⟨.inl ⟨hz.out,rfl⟩⟩⟩
    .simp only[go_sem,Aq,AM,q1,q2,q3,q4,q5];first|done|rfl
    .simp only[go_sem,e2,A3,AM,q1,q2,q3,q4,q5];first|done|rfl
    .have q6:=DB b3;have q7:=b2 A (by rw[hv3];simp[AD]);simp only[go_sem,q6,b1,q7,AM]
    .simp only[go_sem,k2,e2,AM,q1,q2,q3,q4,q5]
    .simp only[go_sem,k3,e2,AM,q1,q2,q3,q4,q5]
    .simp only[go_sem,k4,e2,AM,q1,q2,q3,q4,q5]
    .simp only[go_sem,k5,e2,AM,q1,q2,q3,q4,q5]
  .obtain⟨f1,f2,f3,f4⟩:=GK hnb hun hl;have mi:Id.is m id=false:=AE fun e=>by rw[←e,gm]at hg;cases hg
   have im:Id.is id m=false:=AE fun e=>by rw[e,gm]at hg;cases hg
   replace hun:=AA.mk hun;replace hl:=AA.mk hl;rcases hv3 with⟨hv3,hr0⟩|⟨A,hv3,gA⟩
   .rw[hv3]at gm
    (repeat' (first|simp only[go_sem, *,↓hl1,Em,AM]|(refine sx ?_ ?_<;>intro hc)|refine sy (by omega) fun x hx hm=>?_|simp(disch:=first|assumption|omega) only[AJ]))
    refine C2 (hpl.out _ _ ?_) (fun o1 g1 p1=>?_)
    .simp only[go_sem,e1,AM,f1,f2,f3,f4,mi,im]
    subst p1
    (repeat' (first|simp only[go_sem, *,↓hl1,Em,AM]|(refine sx ?_ ?_<;>intro hc)|refine sy (by omega) fun x hx hm=>?_|simp(disch:=first|assumption|omega) only[AJ]))
    refine IH.out (_,_) ⟨⟨hgo.out _ ?_ ?_ fun id2 b1 b2 b3=>?_⟩,?_,?_,?_,?_,⟨.inr ⟨id,rfl,?_,n,by omega,hun.out,hl.out⟩⟩⟩
    .rw[hr0];simp only[go_sem,Aq,AM,f1,f2,f3,f4,mi,im];first|done|rfl
    .rw[hr0];simp only[go_sem,e2,A3,AM,f1,f2,f3,f4,mi,im];first|done|rfl
    .have q6:=DB b3;simp only[go_sem,q6,b1,AM]
    .simp only[go_sem,k2,e2,AM,f1,f2,f3,f4,mi,im]
    .simp only[go_sem,k3,e2,AM,f1,f2,f3,f4,mi,im]
    .simp only[go_sem,k4,e2,AM,f1,f2,f3,f4,mi,im]
    .simp only[go_sem,k5,e2,AM,f1,f2,f3,f4,mi,im]
    .simp only[go_sem,hg,AM,f1,f2,f3,f4,mi,im]
   .obtain⟨q1,q2,q3,q4,q5⟩:=hA3.out A hv3;rw[hv3]at gm;have Ai:Id.is A id=false:=AE fun e=>by rw[e,hg]at gA;cases gA
    have iA:Id.is id A=false:=AE fun e=>by rw[←e,hg]at gA;cases gA
    (repeat' (first|simp only[go_sem, *,↓hl1,Em,AM]|(refine sx ?_ ?_<;>intro hc)|refine sy (by omega) fun x hx hm=>?_|simp(disch:=first|assumption|omega) only[AJ]))
    refine C2 (hpl.out _ _ ?_) (fun o1 g1 p1=>?_)
    .simp only[go_sem,e1,AM,f1,f2,f3,f4,mi,im,q1,q2,q3,q4,q5,Ai,iA]
    subst p1
    (repeat' (first|simp only[go_sem, *,↓hl1,Em,AM]|(refine sx ?_ ?_<;>intro hc)|refine sy (by omega) fun x hx hm=>?_|simp(disch:=first|assumption|omega) only[AJ]))
    refine IH.out (_,_) ⟨⟨hgo.out _ ?_ ?_ fun id2 b1 b2 b3=>?_⟩,?_,?_,?_,?_,⟨.inr ⟨id,rfl,?_,n,by omega,hun.out,hl.out⟩⟩⟩
    .simp only[go_sem,Aq,AM,f1,f2,f3,f4,mi,im,q1,q2,q3,q4,q5,Ai,iA];first|done|rfl
    .simp only[go_sem,e2,A3,AM,f1,f2,f3,f4,mi,im,q1,q2,q3,q4,q5,Ai,iA];first|done|rfl
    .have q6:=DB b3;have q7:=b2 A (by rw[hv3];simp[AD]);simp only[go_sem,q6,b1,q7,AM]
    .simp only[go_sem,k2,e2,AM,f1,f2,f3,f4,mi,im,q1,q2,q3,q4,q5,Ai,iA]
    .simp only[go_sem,k3,e2,AM,f1,f2,f3,f4,mi,im,q1,q2,q3,q4,q5,Ai,iA]
    .simp only[go_sem,k4,e2,AM,f1,f2,f3,f4,mi,im,q1,q2,q3,q4,q5,Ai,iA]
    .simp only[go_sem,k5,e2,AM,f1,f2,f3,f4,mi,im,q1,q2,q3,q4,q5,Ai,iA]
    .simp only[go_sem,hg,AM,f1,f2,f3,f4,mi,im,q1,q2,q3,q4,q5,Ai,iA]
 .clear hR kl2 k1 k2 k3 k4 k5 g b;rintro i ⟨g,b⟩ hi him ⟨hR,k2,k3,k4,k5,kl⟩;dsimp only at*;have gi:=hi.out;subst gi;clear hi;have hNCl:NC.length=d.am.length:=by rw[hNC.out,Gx]
  rw[←hNCl,Em]at hR;obtain⟨V0,hR0,hev0⟩:=hR.out;clear hR;replace hev0:=AA.mk hev0;replace hR0:=AA.mk hR0;have kl2:=kl;clear kl;refine aw ?_;obtain⟨NS,hNS⟩: ∃l,l=DC d G d.ac:=⟨_,rfl⟩;have hNSa: ∀(t:Nat) c,d.ac[t]? =some c→NS[t]? =some ⟨G.place d c.of,false⟩:=fun t c hc=>by rw[hNS,DC,D1,hc];rfl
  have hNSl:NS.length=d.ac.length:=by rw[hNS,FP]
  have hn1:1≤n0:=by rw[hn0.out];exact hI.out.rc.tree.pos
  replace hNS:=AA.mk hNS;replace hNSa:=AA.mk hNSa;replace hNCl:=AA.mk hNCl;replace hNSl:=AA.mk hNSl;refine AY d.ac _ (S:=fun m' i (a:AB×Nat)=>⟨[(0,.ptr m 0),(3,.ptr (0::0::π) 0),(4,.ptr (0::10::π) 0),(5,.ptr (0::21::π) 0),(6,.ptr (0::31::π) 0),(117,.d (.be (d.ac.map Aj))),(118,.d (.int .i64 (m'))),(119,.d (.int .i64 (i)))],a.1,a.2+52,[]⟩)
   (Inv:=fun i rest a=>AA (∃V',CU p sz π m V h (a.2+52) V' {st with d9:={st.d9 with am:=st.d9.am++NC,ac:=st.d9.ac++NS.take i}} a.1∧ ∀i∈AD ev,i∉V'.ids m)∧a.1.get (0::0::π)=some (.box [.d (.int .i64 (j.node)),.d (.int .i64 (j.at_)),.d (.be (j.env.map AL))])∧a.1.get (0::10::π)=some (.box [.d (.int .i64 (x.op)),.d (.int .i64 (x.n)),.d (.be (x.args.map BU)),.d (.be (x.kids.map AK))])∧a.1.get (0::21::π)=some (.box [.d (.be (d.am.map Az)),.d (.be (d.ac.map Aj)),.d (.be (d.rules.map Ay))])∧a.1.get (0::31::π)=some (.box [.d (.int .i64 (x.n)),.d (.int .i64 (j.at_)),ev])∧AA (N4 π a.1 (a.2+52) ev G.env)) (b0:=(_,b)) rfl ⟨⟨V0,by simpa using hR0.out.up (by omega),hev0.out⟩,k2,k3,k4,k5,⟨Q3 kl2.out (by omega)⟩⟩ ?_ ?_
  .clear hR0 hev0 kl2 k2 k3 k4 k5 g b V0;rintro i y ⟨g,b⟩ hy hi him ⟨hR,k2,k3,k4,k5,kl⟩ IH;dsimp only at*;obtain⟨V',hR,hev⟩:=hR.out;have hevn:=Nc kl.out (b+77);have hpy:=K1 hd.out.ok.spot i y hy;have gm:=hR.rep.box;have hpl:=fun(H:AB) (n:Nat) (hH:H.get m=g.get m)=>hplace.out H (n::π) V' st.work (hH.trans gm) (AF um n) y.of hpy.1 (by omega);replace hpl:=AA.mk hpl;simp only[Aq]at gm;have hs:=hR.rep.sl 0 (by omega);obtain⟨LS,hLS⟩: ∃l,l=st.d9.ac++NS.take i:=⟨_,rfl⟩;have hLSl:LS.length≤100:=by rw[hLS];simp;omega
   simp only[GQ,A8,←hLS]at hs;have hLS0:LS≠ []:=by
    intro e;have h2:LS.length=0:=by rw[e];rfl
    rw[hLS,CI]at h2;have:=hI.out.rc.tree.pos;omega
   rcases hs with⟨_,hs⟩|⟨S,xs,hs,gS⟩
   .exact absurd (Gt.1 hs) hLS0
   have hgo:AA (∀(v:AV) (H:AB),H.get m=some (.box (Aq p sz (V'.ii 0 v) st.work))→K9 H 2 v ((LS++[(⟨G.place d y.of,false⟩:BL)]).map Aa)→(AD v=AD (V'.s 0)∨ ∀id∈AD v,Hq (b+52) (b+77) π id=true∧ ∃l,id=1::l)→(∀id,Id.is m id=false→(∀id2∈AD (V'.s 0),Id.is id2 id=false)→Hq (b+52) (b+77) π id=false→H.get id=g.get id)→ ∃V2,CU p sz π m V h (b+77) V2 {st with d9:={st.d9 with am:=st.d9.am++NC,ac:=st.d9.ac++NS.take (i+1)}} H∧ ∀i∈AD ev,i∉V2.ids m):=⟨fun v H a1 a2 a3 a4=>by
    obtain⟨V2,z1,z2⟩:=hR.step (b':=b+77) (by omega) (H0 (st':={st with d9:={st.d9 with am:=st.d9.am++NC,ac:=LS++[⟨G.place d y.of,false⟩]}}) 0 (by omega) hR.rep (hR.apartB hu.out) (tD rfl rfl rfl) rfl v H a1 a2 a3 a4)
    rw[Is,hNSa.out i y hy,←EM,←hLS];exact⟨V2,z1,fun i hi=>z2 i (hev i hi) (hevn i hi)⟩⟩
   replace hevn:=AA.mk hevn;replace hev:=AA.mk hev;rw[BI]at hs;have hSi:=hR.ids S (V'.s_mem m (i:=0) (by omega) (by rw[hs];simp[AD]));have q1:=fun a n hn=>FQ (b':=0) hu.out hSi a n hn;have q2:=fun a n hn=>KQ hu.out hSi a n hn;have q3:Id.is S m=false:=AE fun e=>by rw[e,gm]at gS;cases gS
   have q4:Id.is m S=false:=AE fun e=>by rw[←e,gm]at gS;cases gS
   have q5: ∀k,Id.is S (0::k::π)=false:=fun k=>AE fun e=>HN hR hu.out k (by rw[←e];exact V'.s_mem m (i:=0) (by omega) (by rw[hs];simp[AD]));rw[hs]at gm;replace hLS:=AA.mk hLS;replace hR:=AA.mk hR;replace kl:=kl.out;rcases kl with⟨hz,rfl⟩|⟨id,rfl,hg,n,hnb,hun,hl⟩
   .have hpl2:=hpl.out;rw[hz,D4]at hpl2;replace hpl2:=AA.mk hpl2;replace hz:=AA.mk hz;rcases xs with _|⟨z,xs⟩
    ·(repeat' (first|simp only[go_sem, *,Em,AM]|(refine sx ?_ ?_<;>intro hc)|refine sy (by omega) fun x hx hm=>?_|simp(disch:=first|assumption|omega) only[AJ]))
     refine C2 (hpl2.out _ _ ?_) (fun o1 g1 p1=>?_)
     .simp only[go_sem,e1,AM,q1,q2,q3,q4,q5]
     subst p1
     (repeat' (first|simp only[go_sem, *,Em,AM]|(refine sx ?_ ?_<;>intro hc)|refine sy (by omega) fun x hx hm=>?_|simp(disch:=first|assumption|omega) only[AJ]))
     refine IH.out (_,_) ⟨⟨hgo.out (.em (1::(b+70)::π) 0 (LS.length+1)) _ ?_ (BZ [] (by simp) ?_) (.inr fun id2 hid=>?_) fun id2 b1 b2 b3=>?_⟩,?_,?_,?_,?_,⟨.inl ⟨hz.out,rfl⟩⟩⟩
     .simp only[go_sem,Aq,AM,q1,q2,q3,q4,q5];first|done|rfl
     .simp only[go_sem,e2,D0,D4,AM,q1,q2,q3,q4,q5];first|done|rfl
     .simp only[AD,As]at hid;subst hid;exact⟨Kv (b+70) [1] (by omega) (by omega),_,rfl⟩
     .have q6:=DB b3;have q7:=b2 S (by rw[hs];simp[AD]);simp only[go_sem,q6,b1,q7,AM]
     .simp only[go_sem,k2,e2,AM,q1,q2,q3,q4,q5]
     .simp only[go_sem,k3,e2,AM,q1,q2,q3,q4,q5]
     .simp only[go_sem,k4,e2,AM,q1,q2,q3,q4,q5]
     .simp only[go_sem,k5,e2,AM,q1,q2,q3,q4,q5]
    ·(repeat' (first|simp only[go_sem, *,Em,AM]|(refine sx ?_ ?_<;>intro hc)|refine sy (by omega) fun x hx hm=>?_|simp(disch:=first|assumption|omega) only[AJ]))
     refine C2 (hpl2.out _ _ ?_) (fun o1 g1 p1=>?_)
     .simp only[go_sem,e1,AM,q1,q2,q3,q4,q5]
     subst p1
     (repeat' (first|simp only[go_sem, *,Em,AM]|(refine sx ?_ ?_<;>intro hc)|refine sy (by omega) fun x hx hm=>?_|simp(disch:=first|assumption|omega) only[AJ]))
     refine IH.out (_,_) ⟨⟨hgo.out (.em S 0 (LS.length+1)) _ ?_ (BZ xs (by simp) ?_) (.inl (by rw[hs];rfl)) fun id2 b1 b2 b3=>?_⟩,?_,?_,?_,?_,⟨.inl ⟨hz.out,rfl⟩⟩⟩
     .simp only[go_sem,Aq,AM,q1,q2,q3,q4,q5];first|done|rfl
     .simp only[go_sem,e2,D0,D4,AM,q1,q2,q3,q4,q5];first|done|rfl
     .have q6:=DB b3;have q7:=b2 S (by rw[hs];simp[AD]);simp only[go_sem,q6,b1,q7,AM]
     .simp only[go_sem,k2,e2,AM,q1,q2,q3,q4,q5]
     .simp only[go_sem,k3,e2,AM,q1,q2,q3,q4,q5]
     .simp only[go_sem,k4,e2,AM,q1,q2,q3,q4,q5]
     .simp only[go_sem,k5,e2,AM,q1,q2,q3,q4,q5]
   .obtain⟨f1,f2,f3,f4⟩:=GK hnb hun hl;have mi:Id.is m id=false:=AE fun e=>by rw[←e,gm]at hg;cases hg
    have im:Id.is id m=false:=AE fun e=>by rw[e,gm]at hg;cases hg
    have Ai:Id.is S id=false:=AE fun e=>hev.out id (by simp[AD]) (by rw[←e];exact V'.s_mem m (i:=0) (by omega) (by rw[hs];simp[AD]));have iA:Id.is id S=false:=AE fun e=>by rw[e,is_self]at Ai;cases Ai
    replace hun:=AA.mk hun;replace hl:=AA.mk hl;rcases xs with _|⟨z,xs⟩
    ·(repeat' (first|simp only[go_sem, *,Em,AM]|(refine sx ?_ ?_<;>intro hc)|refine sy (by omega) fun x hx hm=>?_|simp(disch:=first|assumption|omega) only[AJ]))
     refine C2 (hpl.out _ _ ?_) (fun o1 g1 p1=>?_)
     .simp only[go_sem,e1,AM,q1,q2,q3,q4,q5,f1,f2,f3,f4,mi,im,Ai,iA]
     subst p1
     (repeat' (first|simp only[go_sem, *,Em,AM]|(refine sx ?_ ?_<;>intro hc)|refine sy (by omega) fun x hx hm=>?_|simp(disch:=first|assumption|omega) only[AJ]))
     refine IH.out (_,_) ⟨⟨hgo.out (.em (1::(b+70)::π) 0 (LS.length+1)) _ ?_ (BZ [] (by simp) ?_) (.inr fun id2 hid=>?_) fun id2 b1 b2 b3=>?_⟩,?_,?_,?_,?_,⟨.inr ⟨id,rfl,?_,n,by omega,hun.out,hl.out⟩⟩⟩
     .simp only[go_sem,Aq,AM,q1,q2,q3,q4,q5,f1,f2,f3,f4,mi,im,Ai,iA];first|done|rfl
     .simp only[go_sem,e2,D0,D4,AM,q1,q2,q3,q4,q5,f1,f2,f3,f4,mi,im,Ai,iA];first|done|rfl
     .simp only[AD,As]at hid;subst hid;exact⟨Kv (b+70) [1] (by omega) (by omega),_,rfl⟩
     .have q6:=DB b3;have q7:=b2 S (by rw[hs];simp[AD]);simp only[go_sem,q6,b1,q7,AM]
     .simp only[go_sem,k2,e2,AM,q1,q2,q3,q4,q5,f1,f2,f3,f4,mi,im,Ai,iA]
     .simp only[go_sem,k3,e2,AM,q1,q2,q3,q4,q5,f1,f2,f3,f4,mi,im,Ai,iA]
     .simp only[go_sem,k4,e2,AM,q1,q2,q3,q4,q5,f1,f2,f3,f4,mi,im,Ai,iA]
     .simp only[go_sem,k5,e2,AM,q1,q2,q3,q4,q5,f1,f2,f3,f4,mi,im,Ai,iA]
     .simp only[go_sem,hg,AM,q1,q2,q3,q4,q5,f1,f2,f3,f4,mi,im,Ai,iA]
    ·(repeat' (first|simp only[go_sem, *,Em,AM]|(refine sx ?_ ?_<;>intro hc)|refine sy (by omega) fun x hx hm=>?_|simp(disch:=first|assumption|omega) only[AJ]))
     refine C2 (hpl.out _ _ ?_) (fun o1 g1 p1=>?_)
     .simp only[go_sem,e1,AM,q1,q2,q3,q4,q5,f1,f2,f3,f4,mi,im,Ai,iA]
     subst p1
     (repeat' (first|simp only[go_sem, *,Em,AM]|(refine sx ?_ ?_<;>intro hc)|refine sy (by omega) fun x hx hm=>?_|simp(disch:=first|assumption|omega) only[AJ]))
     refine IH.out (_,_) ⟨⟨hgo.out (.em S 0 (LS.length+1)) _ ?_ (BZ xs (by simp) ?_) (.inl (by rw[hs];rfl)) fun id2 b1 b2 b3=>?_⟩,?_,?_,?_,?_,⟨.inr ⟨id,rfl,?_,n,by omega,hun.out,hl.out⟩⟩⟩
     .simp only[go_sem,Aq,AM,q1,q2,q3,q4,q5,f1,f2,f3,f4,mi,im,Ai,iA];first|done|rfl
     .simp only[go_sem,e2,D0,D4,AM,q1,q2,q3,q4,q5,f1,f2,f3,f4,mi,im,Ai,iA];first|done|rfl
     .have q6:=DB b3;have q7:=b2 S (by rw[hs];simp[AD]);simp only[go_sem,q6,b1,q7,AM]
     .simp only[go_sem,k2,e2,AM,q1,q2,q3,q4,q5,f1,f2,f3,f4,mi,im,Ai,iA]
     .simp only[go_sem,k3,e2,AM,q1,q2,q3,q4,q5,f1,f2,f3,f4,mi,im,Ai,iA]
     .simp only[go_sem,k4,e2,AM,q1,q2,q3,q4,q5,f1,f2,f3,f4,mi,im,Ai,iA]
     .simp only[go_sem,k5,e2,AM,q1,q2,q3,q4,q5,f1,f2,f3,f4,mi,im,Ai,iA]
     .simp only[go_sem,hg,AM,q1,q2,q3,q4,q5,f1,f2,f3,f4,mi,im,Ai,iA]
  .clear hR0 hev0 kl2 k2 k3 k4 k5 g b V0 him;rintro i ⟨g,b⟩ hi him ⟨hR,k2,k3,k4,k5,kl⟩;dsimp only at*;have gi:=hi.out;subst gi;clear hi;have hNSl2:=hNSl.out;rw[←hNSl2,Em]at hR;obtain⟨V',hR,hev⟩:=hR.out;have hevn:=Nc kl.out (b+66);have gm:=hR.rep.box;simp only[Aq]at gm;have hl3:=Q2 hR.rep.arr;rw[hR.rep.am.len]at hl3;simp only[CI,←hn3.out,hNCl.out]at hl3;have hl0:=HV (hR.rep.sl 0 (by omega));simp only[A8,BI,CI,←hn0.out,hNSl2]at hl0;have hs:=hR.rep.sl 1 (by omega);simp only[GQ,A8]at hs;clear hNSl2;have hgo:AA (∀(g1:AB) (v:AV) (H:AB),(∀i∈V'.ids m,g1.get i=g.get i)→(∀i,Id.under π i=false→g1.get i=g.get i)→H.get m=some (.box (Aq p sz (V'.ii 1 v) st.work))→K9 H 3 v ((st.d9.bi++[G]).map An)→(AD v=AD (V'.s 1)∨ ∀id∈AD v,Hq (b+52) (b+66) π id=true∧ ∃l,id=1::l)→(∀id,Id.is m id=false→(∀id2∈AD (V'.s 1),Id.is id2 id=false)→Hq (b+52) (b+66) π id=false→H.get id=g1.get id)→ ∃V2,CU p sz π m V h (b+66) V2 {st with d9:=CM st.d9 d G} H∧ ∀i∈AD ev,i∉V2.ids m):=⟨fun g1 v H b1 b2 a1 a2 a3 a4=>by
    have hR1:CU p sz π m V h (b+52) V' {st with d9:={st.d9 with am:=st.d9.am++NC,ac:=st.d9.ac++NS}} g1:=⟨Bf hR.rep b1,hR.ids,fun id c1 c2=>(b2 id c2).trans (hR.frame id c1 c2)⟩
    obtain⟨V2,z1,z2⟩:=hR1.step (b':=b+66) (by omega) (H0 (st':={st with d9:={st.d9 with am:=st.d9.am++NC,ac:=st.d9.ac++NS,bi:=st.d9.bi++[G]}}) 1 (by omega) hR1.rep (hR1.apartB hu.out) (AEr rfl rfl rfl) rfl v H a1 a2 a3 a4)
    refine⟨V2,?_,fun i hi=>z2 i (hev i hi) (hevn i hi)⟩;rw[CM,←hng.out,←hNC.out,←hNS.out];exact z1⟩
   have hsq:AA (∀S,V'.s 1=.em S 0 st.d9.bi.length→(∀a n,b+52≤n→Id.is (a::n::π) S=false)∧(∀a n,b+52≤n→Id.is S (a::n::π)=false)∧Id.is S m=false∧Id.is m S=false∧(∀k,Id.is S (0::k::π)=false)∧(∀i∈AD ev,Id.is S i=false∧Id.is i S=false)):=⟨fun S hS=>by
    have hm2:S∈V'.ids m:=V'.s_mem m (i:=1) (by omega) (by rw[hS];simp[AD]);have hi:=hR.ids S hm2;obtain⟨x0,hg⟩:=Eh (hR.rep.sl 1 (by omega)) (id:=S) (by rw[hS];simp[AD]);exact⟨fun a n hn=>FQ (b':=0) hu.out hi a n hn,KQ hu.out hi,AE fun e=>(by rw[e,gm]at hg;cases hg),AE fun e=>(by rw[←e,gm]at hg;cases hg),fun k=>AE fun e=>HN hR hu.out k (by rw[←e];exact hm2),fun i hi=>⟨AE fun e=>hev i hi (by rw[←e];exact hm2),AE fun e=>hev i hi (by rw[e];exact hm2)⟩⟩⟩
   have hvi:AA (∀i∈V'.ids m,∀i2∈AD ev,Id.is i2 i=false):=⟨fun i hi i2 hi2=>AE fun e=>hev i2 hi2 (by rw[e];exact hi)⟩;have hui:AA (∀i,Id.under π i=false→ ∀i2∈AD ev,Id.is i2 i=false):=⟨fun i hi i2 hi2=>AE fun e=>by
    rcases kl.out with⟨_,rfl⟩|⟨id,rfl,_,n,_,hun,_⟩
    .simp[AD]at hi2
    .simp only[AD,As]at hi2;subst hi2;rw[←e,BR hun]at hi;cases hi⟩
   replace hevn:=AA.mk hevn;replace hev:=AA.mk hev;replace hR:=AA.mk hR;replace kl:=kl.out;rcases kl with⟨hz,he⟩|⟨id,he,hg,n,hnb,hun,hl⟩
   .rw[he]at k5;rcases hs with⟨hs,hs0⟩|⟨S,xs,hs,gS⟩
    .have hs1:=AA.mk (Gt.1 hs0);rw[hs]at gm
     (repeat' (first|simp only[go_sem, *,↓hl3,↓hl0,AM]|(refine sx ?_ ?_<;>intro hc)|refine sy (by omega) fun x hx hm=>?_|simp(disch:=first|assumption|omega) only[AJ]))
     refine hend.out _ _ _ rfl rfl rfl rfl rfl (hgo.out g (.em (1::(b+61)::π) 0 1) _ (fun _ _=>rfl) (fun _ _=>rfl) ?_ (BZ [] ?_ ?_) (.inr fun id2 hid=>?_) fun id2 b1 b2 b3=>?_) ?_ ?_ ?_ ?_ ?_
     .simp only[go_sem,Aq,AM,hGd,hGa,hz];first|done|rfl
     .rw[hs1.out];rfl
     .rw[hs1.out];simp only[go_sem,e2,AM,hGd,hGa,hz];first|done|rfl
     .simp only[AD,As]at hid;subst hid;exact⟨Kv (b+61) [1] (by omega) (by omega),_,rfl⟩
     .have q6:=DB b3;simp only[go_sem,q6,b1,AM]
     .simp only[go_sem,k2,e2,AM,hGd,hGa,hz]
     .simp only[go_sem,k3,e2,AM,hGd,hGa,hz]
     .simp only[go_sem,k4,e2,AM,hGd,hGa,hz]
     .rw[he];simp only[go_sem,k5,e2,AM,hGd,hGa,hz]
     .exact .inl ⟨hz,he⟩
    .rw[BI]at hs;rcases xs with _|⟨z,xs⟩
     .skip
      obtain⟨q1,q2,q3,q4,q5,q8⟩:=hsq.out S hs;replace q8:=AA.mk q8;rw[hs]at gm
      (repeat' (first|simp only[go_sem, *,↓hl3,↓hl0,AM]|(refine sx ?_ ?_<;>intro hc)|refine sy (by omega) fun x hx hm=>?_|simp(disch:=first|assumption|omega) only[AJ]))
      refine hend.out _ _ _ rfl rfl rfl rfl rfl (hgo.out g (.em (1::(b+61)::π) 0 (st.d9.bi.length+1)) _ (fun _ _=>rfl) (fun _ _=>rfl) ?_ (BZ [] ?_ ?_) (.inr fun id2 hid=>?_) fun id2 b1 b2 b3=>?_) ?_ ?_ ?_ ?_ ?_
      .simp only[go_sem,Aq,AM,hGd,hGa,q1,q2,q3,q4,q5,hz];first|done|rfl
      .simp
      .simp only[go_sem,e2,D0,D4,AM,hGd,hGa,q1,q2,q3,q4,q5,hz];first|done|rfl
      .simp only[AD,As]at hid;subst hid;exact⟨Kv (b+61) [1] (by omega) (by omega),_,rfl⟩
      .have q6:=DB b3;have q7:=b2 S (by rw[hs];simp[AD]);simp only[go_sem,q6,b1,q7,AM]
      .simp only[go_sem,k2,e2,AM,hGd,hGa,q1,q2,q3,q4,q5,hz]
      .simp only[go_sem,k3,e2,AM,hGd,hGa,q1,q2,q3,q4,q5,hz]
      .simp only[go_sem,k4,e2,AM,hGd,hGa,q1,q2,q3,q4,q5,hz]
      .rw[he];simp only[go_sem,k5,e2,AM,hGd,hGa,q1,q2,q3,q4,q5,hz]
      .exact .inl ⟨hz,he⟩
     .skip
      obtain⟨q1,q2,q3,q4,q5,q8⟩:=hsq.out S hs;replace q8:=AA.mk q8;rw[hs]at gm
      (repeat' (first|simp only[go_sem, *,↓hl3,↓hl0,AM]|(refine sx ?_ ?_<;>intro hc)|refine sy (by omega) fun x hx hm=>?_|simp(disch:=first|assumption|omega) only[AJ]))
      refine hend.out _ _ _ rfl rfl rfl rfl rfl (hgo.out g (.em S 0 (st.d9.bi.length+1)) _ (fun _ _=>rfl) (fun _ _=>rfl) ?_ (BZ xs ?_ ?_) (.inl (by rw[hs];rfl)) fun id2 b1 b2 b3=>?_) ?_ ?_ ?_ ?_ ?_
      .simp only[go_sem,Aq,AM,hGd,hGa,q1,q2,q3,q4,q5,hz];first|done|rfl
      .simp
      .simp only[go_sem,e2,D0,D4,AM,hGd,hGa,q1,q2,q3,q4,q5,hz];first|done|rfl
      .have q6:=DB b3;have q7:=b2 S (by rw[hs];simp[AD]);simp only[go_sem,q6,b1,q7,AM]
      .simp only[go_sem,k2,e2,AM,hGd,hGa,q1,q2,q3,q4,q5,hz]
      .simp only[go_sem,k3,e2,AM,hGd,hGa,q1,q2,q3,q4,q5,hz]
      .simp only[go_sem,k4,e2,AM,hGd,hGa,q1,q2,q3,q4,q5,hz]
      .rw[he];simp only[go_sem,k5,e2,AM,hGd,hGa,q1,q2,q3,q4,q5,hz]
      .exact .inl ⟨hz,he⟩
   .rw[he]at k5;obtain⟨f1,f2,f3,f4⟩:=GK hnb hun hl;have mi:Id.is m id=false:=AE fun e=>by rw[←e,gm]at hg;cases hg
    have im:Id.is id m=false:=AE fun e=>by rw[e,gm]at hg;cases hg
    replace hun:=AA.mk hun;replace hl:=AA.mk hl;rcases hs with⟨hs,hs0⟩|⟨S,xs,hs,gS⟩
    .have hs1:=AA.mk (Gt.1 hs0);rw[hs]at gm
     (repeat' (first|simp only[go_sem, *,↓hl3,↓hl0,AM]|(refine sx ?_ ?_<;>intro hc)|refine sy (by omega) fun x hx hm=>?_|simp(disch:=first|assumption|omega) only[AJ]))
     refine hend.out _ _ _ rfl rfl rfl rfl rfl (hgo.out (g.put id (.it 2 (G.env.map AL))) (.em (1::(b+61)::π) 0 1) _ (fun i hi=>by rw[get_put,hvi.out i hi id (by rw[he];simp[AD])];simp) (fun i hi=>by rw[get_put,hui.out i hi id (by rw[he];simp[AD])];simp) ?_ (BZ [] ?_ ?_) (.inr fun id2 hid=>?_) fun id2 b1 b2 b3=>?_) ?_ ?_ ?_ ?_ ?_
     .simp only[go_sem,Aq,AM,hGd,hGa,f1,f2,f3,f4,mi,im];first|done|rfl
     .rw[hs1.out];rfl
     .rw[hs1.out];simp only[go_sem,e2,AM,hGd,hGa,f1,f2,f3,f4,mi,im];first|done|rfl
     .simp only[AD,As]at hid;subst hid;exact⟨Kv (b+61) [1] (by omega) (by omega),_,rfl⟩
     .have q6:=DB b3;simp only[go_sem,q6,b1,AM]
     .simp only[go_sem,k2,e2,AM,hGd,hGa,f1,f2,f3,f4,mi,im]
     .simp only[go_sem,k3,e2,AM,hGd,hGa,f1,f2,f3,f4,mi,im]
     .simp only[go_sem,k4,e2,AM,hGd,hGa,f1,f2,f3,f4,mi,im]
     .rw[he];simp only[go_sem,k5,e2,AM,hGd,hGa,f1,f2,f3,f4,mi,im]
     .refine .inr ⟨id,he,?_,n,by omega,hun.out,hl.out⟩;simp only[go_sem,e2,AM,hGd,hGa,f1,f2,f3,f4,mi,im]
    .rw[BI]at hs;rcases xs with _|⟨z,xs⟩
     .skip
      obtain⟨q1,q2,q3,q4,q5,q8⟩:=hsq.out S hs;obtain⟨q9,q10⟩:=q8 id (by rw[he];simp[AD]);replace q8:=AA.mk q8;rw[hs]at gm
      (repeat' (first|simp only[go_sem, *,↓hl3,↓hl0,AM]|(refine sx ?_ ?_<;>intro hc)|refine sy (by omega) fun x hx hm=>?_|simp(disch:=first|assumption|omega) only[AJ]))
      refine hend.out _ _ _ rfl rfl rfl rfl rfl (hgo.out (g.put id (.it 2 (G.env.map AL))) (.em (1::(b+61)::π) 0 (st.d9.bi.length+1)) _ (fun i hi=>by rw[get_put,hvi.out i hi id (by rw[he];simp[AD])];simp) (fun i hi=>by rw[get_put,hui.out i hi id (by rw[he];simp[AD])];simp) ?_ (BZ [] ?_ ?_) (.inr fun id2 hid=>?_) fun id2 b1 b2 b3=>?_) ?_ ?_ ?_ ?_ ?_
      .simp only[go_sem,Aq,AM,hGd,hGa,q1,q2,q3,q4,q5,q9,q10,f1,f2,f3,f4,mi,im];first|done|rfl
      .simp
      .simp only[go_sem,e2,D0,D4,AM,hGd,hGa,q1,q2,q3,q4,q5,q9,q10,f1,f2,f3,f4,mi,im];first|done|rfl
      .simp only[AD,As]at hid;subst hid;exact⟨Kv (b+61) [1] (by omega) (by omega),_,rfl⟩
      .have q6:=DB b3;have q7:=b2 S (by rw[hs];simp[AD]);simp only[go_sem,q6,b1,q7,AM]
      .simp only[go_sem,k2,e2,AM,hGd,hGa,q1,q2,q3,q4,q5,q9,q10,f1,f2,f3,f4,mi,im]
      .simp only[go_sem,k3,e2,AM,hGd,hGa,q1,q2,q3,q4,q5,q9,q10,f1,f2,f3,f4,mi,im]
      .simp only[go_sem,k4,e2,AM,hGd,hGa,q1,q2,q3,q4,q5,q9,q10,f1,f2,f3,f4,mi,im]
      .rw[he];simp only[go_sem,k5,e2,AM,hGd,hGa,q1,q2,q3,q4,q5,q9,q10,f1,f2,f3,f4,mi,im]
      .refine .inr ⟨id,he,?_,n,by omega,hun.out,hl.out⟩;simp only[go_sem,e2,AM,hGd,hGa,q1,q2,q3,q4,q5,q9,q10,f1,f2,f3,f4,mi,im]
     .skip
      obtain⟨q1,q2,q3,q4,q5,q8⟩:=hsq.out S hs;obtain⟨q9,q10⟩:=q8 id (by rw[he];simp[AD]);replace q8:=AA.mk q8;rw[hs]at gm
      (repeat' (first|simp only[go_sem, *,↓hl3,↓hl0,AM]|(refine sx ?_ ?_<;>intro hc)|refine sy (by omega) fun x hx hm=>?_|simp(disch:=first|assumption|omega) only[AJ]))
      refine hend.out _ _ _ rfl rfl rfl rfl rfl (hgo.out (g.put id (.it 2 (G.env.map AL))) (.em S 0 (st.d9.bi.length+1)) _ (fun i hi=>by rw[get_put,hvi.out i hi id (by rw[he];simp[AD])];simp) (fun i hi=>by rw[get_put,hui.out i hi id (by rw[he];simp[AD])];simp) ?_ (BZ xs ?_ ?_) (.inl (by rw[hs];rfl)) fun id2 b1 b2 b3=>?_) ?_ ?_ ?_ ?_ ?_
      .simp only[go_sem,Aq,AM,hGd,hGa,q1,q2,q3,q4,q5,q9,q10,f1,f2,f3,f4,mi,im];first|done|rfl
      .simp
      .simp only[go_sem,e2,D0,D4,AM,hGd,hGa,q1,q2,q3,q4,q5,q9,q10,f1,f2,f3,f4,mi,im];first|done|rfl
      .have q6:=DB b3;have q7:=b2 S (by rw[hs];simp[AD]);simp only[go_sem,q6,b1,q7,AM]
      .simp only[go_sem,k2,e2,AM,hGd,hGa,q1,q2,q3,q4,q5,q9,q10,f1,f2,f3,f4,mi,im]
      .simp only[go_sem,k3,e2,AM,hGd,hGa,q1,q2,q3,q4,q5,q9,q10,f1,f2,f3,f4,mi,im]
      .simp only[go_sem,k4,e2,AM,hGd,hGa,q1,q2,q3,q4,q5,q9,q10,f1,f2,f3,f4,mi,im]
      .rw[he];simp only[go_sem,k5,e2,AM,hGd,hGa,q1,q2,q3,q4,q5,q9,q10,f1,f2,f3,f4,mi,im]
      .refine .inr ⟨id,he,?_,n,by omega,hun.out,hl.out⟩;simp only[go_sem,e2,AM,hGd,hGa,q1,q2,q3,q4,q5,q9,q10,f1,f2,f3,f4,mi,im]
theorem jZ{p:AI}{sz:List Int}{k:Nat}(hF:BD p sz)(IH0:Im p sz k){h:AB}{π:List Nat}{m:Abs.Id}{V:MV}{st:CK}(hM:Dq p sz h m V st)(hu:CC π V m)(hI:PN p sz k st)(j:Ga){x:Cq}(hj:MM p j x){d:Bq}(hd:Fh p sz st.d9 j x d):
 ∃o h',KL Tryz.prog cfg (.fn 112) [.ptr m 0,.agg [.d (.int .i64 (j.node)),.d (.int .i64 (j.at_)),.d (.be (j.env.map AL))]] h π true none=.ok (o,h')∧FL p sz π m V h (NQ (Fb p k) (Hh p x j st)) o h':=by
 have hm:=hM.box;have um:=hu m (V.m_mem m);simp only[Aq]at hm;have e1:=AG um;have e2:=Al um;have e3:=EJ um;have e4:=KR um;have hx:=hj.node;have hn:=hj.n0;have hel:=hj.len;have hxl:=O1 hj;have hsm:=hF.small;simp only[AI.small,AP,Ap]at hsm;obtain⟨z1,z2,z3⟩:=hsm;have hdd:=hd.eq;have hd0:=hd.n0;have hdl:=AH hdd;have d1:=hd.ok.am;have d2:=hd.ok.ac;have h1:=Jt j.env (by omega);have hmS:=hI.rc.small;simp only[BM.small,AP,Ap]at hmS;obtain⟨s1,s2,s3,s4⟩:=hmS;replace hM:=AA.mk hM;replace hu:=AA.mk hu;replace hd:=AA.mk hd;replace hI:=AA.mk hI;have hl3:=Q2 hM.out.arr;have hl0:=HV (hM.out.sl 0 (by omega));rw[hM.out.am.len]at hl3;simp only[A8,BI]at hl0;obtain⟨n3,hn3⟩: ∃n,n=st.d9.am.length:=⟨_,rfl⟩;obtain⟨n0,hn0⟩: ∃n,n=st.d9.ac.length:=⟨_,rfl⟩;rw[←hn3]at hl3;rw[←hn0]at hl0;have s3':n3≤60:=by omega
 have s1':n0≤24:=by omega
 replace hn3:=AA.mk hn3;replace hn0:=AA.mk hn0;by_cases h0:j.env.length=0;all_goals
  first
  |simp only[Cj h0]at h1
  |simp only[DD h0]at h1
  have fa:=Cm
  (refine Ah rfl Tryz.func112 rfl rfl rfl ?_;show Wp _ _ _ _ (Tryz.f112.body.get rfl) _ _;simp only[Tryz.f112,AS])
  refine xK 6 fun T hT=>?_;have hend:AA (∀(e:Bm) (H:AB) (c:Nat),e.get 0=.ptr m 0→e.get 3=.ptr (0::0::π) 0→e.get 4=.ptr (0::10::π) 0→e.get 5=.ptr (0::21::π) 0→e.get 6=.ptr (0::31::π) 0→(∀id,Id.under π id=false→H.get id=h.get id)→H.get (0::0::π)=some (.box [.d (.int .i64 (j.node)),.d (.int .i64 (j.at_)),.d (.be (j.env.map AL))])→H.get (0::10::π)=some (.box [.d (.int .i64 (x.op)),.d (.int .i64 (x.n)),.d (.be (x.args.map BU)),.d (.be (x.kids.map AK))])→H.get (0::21::π)=some (.box [.d (.be (d.am.map Az)),.d (.be (d.ac.map Aj)),.d (.be (d.rules.map Ay))])→(∃ev,H.get (0::31::π)=some (.box [.d (.int .i64 (x.n)),.d (.int .i64 (j.at_)),ev])∧N4 π H (c+43) ev (j.env++FZ n3 d.am.length++J6 n0 d.ac.length))→Wp cfg (KL Tryz.prog cfg) ⟨112,π,true,none,false,204⟩ 0 T ⟨e,H,c+43,[]⟩ (R4 cfg none [] π true (FL p sz π m V h (NQ (Fb p k) (Hh p x j st))))):=⟨fun e H c x0 x3 x4 x5 x6 k1 y2 y3 y4 hev=>by
   obtain⟨ev,y5,hl⟩:=hev;rw[hT];refine jX hF IH0 hM.out hu.out hI.out hd.out rfl x0 x3 x4 x5 x6 k1 y2 y3 y4 y5 ?_;have:(Ak st.d9 d x.n j).env=j.env++FZ n3 d.am.length++J6 n0 d.ac.length:=by rw[hn3.out,hn0.out,Ak,Ef,EM];rfl
   rw[this];exact hl⟩
  replace hT:=AA.mk hT;simp only[Tryz.f112,AS,jS];refine ax ?_;clear h1;refine AY d.am _ (S:=fun m' i (a:AB×Nat)=>⟨[(0,.ptr m 0),(3,.ptr (0::0::π) 0),(4,.ptr (0::10::π) 0),(5,.ptr (0::21::π) 0),(6,.ptr (0::31::π) 0),(43,.d (.int .i64 (m'))),(44,.d (.int .i64 (i)))],a.1,a.2+37,[]⟩)
   (Inv:=fun i rest a=>AA (∀id,Id.under π id=false→a.1.get id=h.get id)∧a.1.get (0::0::π)=some (.box [.d (.int .i64 (j.node)),.d (.int .i64 (j.at_)),.d (.be (j.env.map AL))])∧a.1.get (0::10::π)=some (.box [.d (.int .i64 (x.op)),.d (.int .i64 (x.n)),.d (.be (x.args.map BU)),.d (.be (x.kids.map AK))])∧a.1.get (0::21::π)=some (.box [.d (.be (d.am.map Az)),.d (.be (d.ac.map Aj)),.d (.be (d.rules.map Ay))])∧AA (∃ev,a.1.get (0::31::π)=some (.box [.d (.int .i64 (x.n)),.d (.int .i64 (j.at_)),ev])∧N4 π a.1 (a.2+37) ev (j.env++FZ n3 i))) (b0:=(_,_)) rfl ⟨⟨fun id b=>?_⟩,?_,?_,?_,⟨?_⟩⟩ ?_ ?_
  .have q1:=AG b;have q4:=EJ b;simp only[go_sem,q1,q4,AM]
  .simp only[go_sem]
  .simp only[go_sem]
  .simp only[go_sem]
  .first
   |(refine⟨.ci,?_,.inl ⟨by simp[FZ,Cs h0],rfl⟩⟩
     simp only[go_sem]
     done)
   |(refine⟨.em (1::0::2::29::π) 0 j.env.length,?_,.inr ⟨_,by simp[FZ],?_,29,by omega,under_iff.2 ⟨[1,0,2],rfl⟩,_,rfl⟩⟩
     .simp only[go_sem]
     .simp only[FZ,List.range'_zero,D4,D9];simp only[go_sem])
  .rintro i y ⟨g,b⟩ hy hi him ⟨k1,k2,k3,k4,kl⟩ IH;dsimp only at*;obtain⟨ev,k5,kl⟩:=kl.out;have gm:=(k1.out m um).trans hm;have w1:IntKind.i64.wrap ((n3:Int)+(i:Int))=(n3:Int)+(i:Int):=wrap_id (by omega) (by omega);obtain⟨L,hL⟩: ∃L,L=j.env++FZ n3 i:=⟨_,rfl⟩;have hLs:AA (j.env++FZ n3 (i+1)=L++[⟨3,(n3:Int)+(i:Int)⟩]):=⟨by rw[Xr,←EM,←hL];simp⟩;rw[←hL]at kl;have hLm:L.length≤20000:=by rw[hL];simp[FZ];omega
   replace hL:=AA.mk hL;rcases kl with⟨hz,rfl⟩|⟨id,rfl,hg,n,hnb,hun,hl⟩
   ·(repeat' (first|simp only[go_sem, *,↓hl3,↓hl0]|(refine sx ?_ ?_<;>intro hc)|refine sy (by omega) fun x hx hm=>?_|simp(disch:=first|assumption|omega) only[AJ]))
    refine IH.out (_,_) ⟨⟨fun id b=>?_⟩,?_,?_,?_,⟨.em (1::(b+52)::π) 0 1,?_,?_⟩⟩
    .have q1:=AG b;simp only[go_sem,q1,k1.out id b,AM]
    .simp only[go_sem,k2]
    .simp only[go_sem,k3]
    .simp only[go_sem,k4]
    .simp only[go_sem]
    .rw[hLs.out,hz];refine Mf (by omega) rfl ?_;simp only[go_sem]
   .obtain⟨f1,f2,f3,f4⟩:=GK hnb hun hl;have hun2:=AA.mk (BR hun);clear hl hun hnb
    (repeat' (first|simp only[go_sem, *,↓hl3,↓hl0,AM]|(refine sx ?_ ?_<;>intro hc)|refine sy (by omega) fun x hx hm=>?_|simp(disch:=first|assumption|omega) only[AJ]))
    refine IH.out (_,_) ⟨⟨fun id2 b2=>?_⟩,?_,?_,?_,⟨.em (1::(b+52)::π) 0 (L.length+1),?_,?_⟩⟩
    .have q1:=AG b2;have q2:Id.is id id2=false:=AE fun e=>by rw[←e,hun2.out]at b2;cases b2
     simp only[go_sem,q1,q2,k1.out id2 b2,AM]
    .simp only[go_sem,k2,f3,f4,AM]
    .simp only[go_sem,k3,f3,f4,AM]
    .simp only[go_sem,k4,f3,f4,AM]
    .simp only[go_sem]
    .rw[hLs.out];refine Mf (by omega) (by simp) ?_;simp only[go_sem,f1,f2,D0,AM]
  .clear s3';rintro i ⟨g,b⟩ hi him ⟨k1,k2,k3,k4,kl⟩;dsimp only at*;have gi:=hi.out;subst gi;clear hi;replace hl3:=AA.mk hl3;refine aw ?_;refine AY d.ac _ (S:=fun m' i (a:AB×Nat)=>⟨[(0,.ptr m 0),(3,.ptr (0::0::π) 0),(4,.ptr (0::10::π) 0),(5,.ptr (0::21::π) 0),(6,.ptr (0::31::π) 0),(64,.d (.int .i64 (m'))),(65,.d (.int .i64 (i)))],a.1,a.2+42,[]⟩)
    (Inv:=fun i rest a=>AA (∀id,Id.under π id=false→a.1.get id=h.get id)∧a.1.get (0::0::π)=some (.box [.d (.int .i64 (j.node)),.d (.int .i64 (j.at_)),.d (.be (j.env.map AL))])∧a.1.get (0::10::π)=some (.box [.d (.int .i64 (x.op)),.d (.int .i64 (x.n)),.d (.be (x.args.map BU)),.d (.be (x.kids.map AK))])∧a.1.get (0::21::π)=some (.box [.d (.be (d.am.map Az)),.d (.be (d.ac.map Aj)),.d (.be (d.rules.map Ay))])∧AA (∃ev,a.1.get (0::31::π)=some (.box [.d (.int .i64 (x.n)),.d (.int .i64 (j.at_)),ev])∧N4 π a.1 (a.2+42) ev (j.env++FZ n3 d.am.length++J6 n0 i))) (b0:=(_,b)) rfl ⟨k1,k2,k3,k4,⟨by obtain⟨ev,q1,q2⟩:=kl.out;exact⟨ev,q1,by simpa[J6]using Q3 q2 (by omega)⟩⟩⟩ ?_ ?_
   .clear kl k1 k2 k3 k4 g b;rintro i y ⟨g,b⟩ hy hi him ⟨k1,k2,k3,k4,kl⟩ IH;dsimp only at*;obtain⟨ev,k5,kl⟩:=kl.out;have gm:=(k1.out m um).trans hm;have w1:IntKind.i64.wrap ((n0:Int)+(i:Int))=(n0:Int)+(i:Int):=wrap_id (by omega) (by omega);obtain⟨L,hL⟩: ∃L,L=j.env++FZ n3 d.am.length++J6 n0 i:=⟨_,rfl⟩;have hLs:AA (j.env++FZ n3 d.am.length++J6 n0 (i+1)=L++[⟨4,(n0:Int)+(i:Int)⟩]):=⟨by rw[aO,←EM,←hL];simp⟩;rw[←hL]at kl;have hLm:L.length≤20000:=by rw[hL];simp[FZ,J6];omega
    replace hL:=AA.mk hL;rcases kl with⟨hz,rfl⟩|⟨id,rfl,hg,n,hnb,hun,hl⟩
    ·(repeat' (first|simp only[go_sem, *,↓hl0]|(refine sx ?_ ?_<;>intro hc)|refine sy (by omega) fun x hx hm=>?_|simp(disch:=first|assumption|omega) only[AJ]))
     refine IH.out (_,_) ⟨⟨fun id b2=>?_⟩,?_,?_,?_,⟨.em (1::(b+57)::π) 0 1,?_,?_⟩⟩
     .have q1:=AG b2;simp only[go_sem,q1,k1.out id b2,AM]
     .simp only[go_sem,k2]
     .simp only[go_sem,k3]
     .simp only[go_sem,k4]
     .simp only[go_sem]
     .rw[hLs.out,hz];refine Mf (by omega) rfl ?_;simp only[go_sem]
    .obtain⟨f1,f2,f3,f4⟩:=GK hnb hun hl;have hun2:=AA.mk (BR hun);clear hl hun hnb
     (repeat' (first|simp only[go_sem, *,↓hl0,AM]|(refine sx ?_ ?_<;>intro hc)|refine sy (by omega) fun x hx hm=>?_|simp(disch:=first|assumption|omega) only[AJ]))
     refine IH.out (_,_) ⟨⟨fun id2 b2=>?_⟩,?_,?_,?_,⟨.em (1::(b+57)::π) 0 (L.length+1),?_,?_⟩⟩
     .have q1:=AG b2;have q2:Id.is id id2=false:=AE fun e=>by rw[←e,hun2.out]at b2;cases b2
      simp only[go_sem,q1,q2,k1.out id2 b2,AM]
     .simp only[go_sem,k2,f3,f4,AM]
     .simp only[go_sem,k3,f3,f4,AM]
     .simp only[go_sem,k4,f3,f4,AM]
     .simp only[go_sem]
     .rw[hLs.out];refine Mf (by omega) (by simp) ?_;simp only[go_sem,f1,f2,D0,AM]
   .clear kl k1 k2 k3 k4 g b him;rintro i ⟨g,b⟩ hi him ⟨k1,k2,k3,k4,kl⟩;dsimp only at*;have gi:=hi.out;subst gi;clear hi;refine aw ?_;exact hend.out _ _ _ rfl rfl rfl rfl rfl k1.out k2 k3 k4 (by obtain⟨ev,q1,q2⟩:=kl.out;exact⟨ev,q1,Q3 q2 (by omega)⟩)
theorem vN(h:DN x.op=some x.kids.length):x.op=1∨x.op=2∨x.op=3∨x.op=4∨x.op=5∨x.op=6∨x.op=7∨x.op=8:=by
 unfold DN at h;repeat (split at h;· omega)
 cases h
theorem X9(f:Ga→CK→Option CK)(r:Option CK):NQ f (r.map fun st=>(st,[]))=r:=by cases r<;>rfl
theorem Qv{p:AI}{sz:List Int}(hF:BD p sz): ∀k,Im p sz k
 |0=>fun h π m V st j hM hu hS hj w0 w1 w2 hev=>by omega
 |k+1=>fun h π m V st j hM hu hS hj w0 w1 w2 hev=>by
  have IH0:=Qv hF k;obtain⟨x,l,hx,hok,hl,hq,hle⟩:=KM hF hj;have hok2:=hok;simp only[Cc,AP,Ap,Ci]at hok;obtain⟨hk,hn,har,hex⟩:=hok;have hfc:MM p j x:=⟨hj.n0,hx,by omega⟩;have hn0:=hj.n0;have hxl:=O1 hfc;have hm:=hM.box;have um:=hu m (V.m_mem m);simp only[Aq]at hm;have hacts:=hM.qr;have mA:Id.is m V.qr=false:=AE fun e=>by rw[←e,hm]at hacts;cases hacts
  have e1:=AG um;have e2:=Al um;have ww:IntKind.i64.wrap (st.work+1)=st.work+1:=wrap_id (by omega) (by omega);obtain⟨st1,hst1⟩: ∃s,s={st with work:=st.work+1}:=⟨_,rfl⟩
  have hsm:=hF.small;simp only[AI.small,AP,Ap]at hsm;obtain⟨z1,z2,z3⟩:=hsm;have hd:AA (Fb p (k+1) j st=if st.work<400 then NQ (Fb p k) (Jd p j st1)else none):=⟨by rw[hst1];rfl⟩;have hrun:AA (∀H:AB,H.get m=some (.box (Aq p sz V (st.work+1)))→(∀id,Id.is m id=false→Id.under π id=false→H.get id=h.get id)→CU p sz π m V h 0 V st1 H):=⟨fun H a1 a2=>by
   have:=U5 (st':=st1) hM hu (by rw[hst1];exact a1) (by rw[hst1];exact⟨rfl,rfl⟩) fun id b1 b2=>a2 id (AE fun e=>b1 e.symm) b2;exact⟨this.1,fun id hid=>.inl hid,this.2.frame⟩⟩
  have hI1:AA (st.work<400→PN p sz k st1):=⟨fun h=>by rw[hst1];exact⟨hS,by dsimp only;omega,by dsimp only;omega,by dsimp only;omega,by dsimp only;omega⟩⟩;have hj1:AA (Cl p sz st1.d9 j):=⟨by rw[hst1];exact hj⟩;have hsol:AA (st1.d9=st.d9):=⟨by rw[hst1]⟩;have hwl:AA (st.d9.waits.length≤1000000):=⟨by
   have:=hS.small;simp only[BM.small,AP,Ap]at this;omega⟩
  have hevl:AA (st1.ev.length≤1000000):=⟨by rw[hst1];dsimp only;omega⟩;replace hst1:=AA.mk hst1;replace hM:=AA.mk hM;replace hu:=AA.mk hu;replace hS:=AA.mk hS;replace hj:=AA.mk hj;replace hex:=AA.mk hex;replace hok2:=AA.mk hok2;replace hfc:=AA.mk hfc;replace hq:=AA.mk hq;replace hl:=AA.mk hl;have fin:AA (∀(H g1:AB) (n:Nat) (o:Ae) (r:Option CK),CU p sz π m V h 0 V st1 H→FL p sz (n::π) m V H r o g1→FL p sz π m V h r o (gc (n::π) g1)):=⟨fun H g1 n o r hr ho=>by
   cases r with
   |none=>exact hr.f9 hu.out (I4 _) ho
   |some st2=>
    obtain⟨V2,h2,_⟩:=hr.call hu.out (I4 _) ho;obtain⟨rfl,_⟩:=ho;exact h2.fin⟩
  by_cases hw:st.work<400
  .have hw2:st.work+1≤400:=by omega
   rw[hd.out,DO hw];have hJ:AA (Jd p j st1=if x.op=2 then(Ec p x j st1).map fun st=>(st,[])else if x.op=3 then some (st1,Bj x 0 j.at_ j.env++Bj x 1 j.at_ j.env)else if x.op=4 then Hh p x j st1 else if x.op=5 then some (st1,Bj x (Ur x j.env) j.at_ j.env)else if DS x.op=true then(IL j st1).map fun st=>(st,[])else some (st1,[])):=⟨by rw[Jd,hx]⟩;have hI1:=hI1.out hw;replace hI1:=AA.mk hI1;have hr:CU p sz π m V h 0 V st1 (h.put m (.box (Aq p sz V (st.work+1)))):=by
    refine hrun.out _ ?_ ?_
    .simp only[go_sem]
    .intro id b1 b2;simp only[go_sem,b1,AM]
   have ap:=AA.mk (hr.apart hu.out (n:=36) (I4 _));have hfn:=fun g1 o r=>fin.out _ g1 36 o r hr;replace hfn:=AA.mk hfn;replace hr:=AA.mk hr;have hal:=AA.mk har;clear har;rcases vN hk with ho|ho|ho|ho|ho|ho|ho|ho
   .rw[hJ.out];simp only[ho,Int.reduceEq,F3,ES,DS,decide_false,Bool.or_self,AM,NQ,Bn]
    (refine Ah rfl Tryz.func66 rfl rfl rfl ?_;show Wp _ _ _ _ (Tryz.f66.body.get rfl) _ _;simp only[Tryz.f66,AS])
    (repeat' (first|simp only[go_sem, *,IB]|(refine sx ?_ ?_<;>intro hc)|refine sy (by omega) fun x hx hm=>?_|simp(disch:=first|assumption|omega) only[AJ]))
    exact hr.out.fin
   .rw[hJ.out];simp only[ho,Int.reduceEq,F3,ES,X9];have hn1:0≤x.n∧x.n<j.env.length:=by simpa[Wo,ho]using hn
    have ha3:x.args.length≤3:=by simpa[Ea,ho]using hal.out
    have hef: ∀e∈x.args,e.formed j.env.length=true:=fun e he=>by
     have:=hex.out e he;simp only[BS.ok,AP]at this;exact this.2.2
    replace hef:=AA.mk hef
    (refine Ah rfl Tryz.func66 rfl rfl rfl ?_;show Wp _ _ _ _ (Tryz.f66.body.get rfl) _ _;simp only[Tryz.f66,AS])
    (repeat' (first|simp only[go_sem, *,IB]|(refine sx ?_ ?_<;>intro hc)|refine sy (by omega) fun x hx hm=>?_|simp(disch:=first|assumption|omega) only[AJ]))
    refine AX (ABJ (V:=V) (st:=st1) hr.out.rep ap.out j hfc.out z2 ha3 hef.out hn1.1 hn1.2 (by rw[hsol.out];exact hj.out.jp) (fun c q hq=>by rw[hsol.out]at hq⊢;exact Xt hF hS.out hq) hevl.out) (fun o1 g1 p1=>?_);have fn:=hfn.out g1 o1 _ p1;obtain⟨r,hr9⟩: ∃r,r=Ec p x j st1:=⟨_,rfl⟩;rw[←hr9]at fn p1⊢;clear hr9;cases r;all_goals
     have w9:=p1.1;subst w9;replace fn:=AA.mk fn;replace p1:=AA.mk p1;refine aw ?_;exact fn.out
   .rw[hJ.out];simp only[ho,Int.reduceEq,F3,ES];have hk2:x.kids.length=2:=by simpa[DN,ho]using hk.symm
    obtain⟨ka,kb,hkk⟩:=aZ hk2;have hkj:Bj x 0 j.at_ j.env++Bj x 1 j.at_ j.env=FO x.kids j.at_ j.env:=by simp[Bj,FO,hkk]
    have hkid: ∀j'∈FO x.kids j.at_ j.env,Cl p sz st1.d9 j':=by
     rw[←hkj];intro j' hj';rcases EX.1 hj' with h1|h1
     .exact Pj hj1.out (by omega) hl.out hq.out 0 j' h1
     .exact Pj hj1.out (by omega) hl.out hq.out 1 j' h1
    rw[NQ,hkj];replace hkj:=AA.mk hkj;replace hkk:=AA.mk hkk;replace hkid:=AA.mk hkid
    (refine Ah rfl Tryz.func66 rfl rfl rfl ?_;show Wp _ _ _ _ (Tryz.f66.body.get rfl) _ _;simp only[Tryz.f66,AS])
    (repeat' (first|simp only[go_sem, *,IB]|(refine sx ?_ ?_<;>intro hc)|refine sy (by omega) fun x hx hm=>?_|simp(disch:=first|assumption|omega) only[AJ]))
    refine AX (xm hF IH0 (V:=V) (st:=st1) hr.out.rep ap.out hI1.out j hfc.out z2 (by omega) hkid.out) (fun o1 g1 p1=>?_);have fn:=hfn.out g1 o1 _ p1;obtain⟨r,hr9⟩: ∃r,r=Bn (Fb p k) (FO x.kids j.at_ j.env) st1:=⟨_,rfl⟩;rw[←hr9]at fn p1⊢;clear hr9;cases r;all_goals
     have w9:=p1.1;subst w9;replace fn:=AA.mk fn;replace p1:=AA.mk p1;refine aw ?_;exact fn.out
   .rw[hJ.out];simp only[ho,Int.reduceEq,F3,ES];obtain⟨d,hdi⟩:=rb hF (s:=st1.d9) (by rw[hsol.out];exact hS.out) hj1.out hx ho;replace hdi:=AA.mk hdi
    (refine Ah rfl Tryz.func66 rfl rfl rfl ?_;show Wp _ _ _ _ (Tryz.f66.body.get rfl) _ _;simp only[Tryz.f66,AS])
    (repeat' (first|simp only[go_sem, *,IB]|(refine sx ?_ ?_<;>intro hc)|refine sy (by omega) fun x hx hm=>?_|simp(disch:=first|assumption|omega) only[AJ]))
    refine AX (jZ hF IH0 (V:=V) (st:=st1) hr.out.rep ap.out hI1.out j hfc.out hdi.out) (fun o1 g1 p1=>?_);have fn:=hfn.out g1 o1 _ p1;obtain⟨r,hr9⟩: ∃r,r=NQ (Fb p k) (Hh p x j st1):=⟨_,rfl⟩;rw[←hr9]at fn p1⊢;clear hr9;cases r;all_goals
     have w9:=p1.1;subst w9;replace fn:=AA.mk fn;replace p1:=AA.mk p1;refine aw ?_;exact fn.out
   .rw[hJ.out];simp only[ho,Int.reduceEq,F3,ES];have hk2:x.kids.length=2:=by simpa[DN,ho]using hk.symm
    obtain⟨ka,kb,hkk⟩:=aZ hk2;have ha1:x.args.length=1:=by simpa[Ea,ho]using hal.out
    obtain⟨e0,he0⟩: ∃e,x.args=[e]:=by
     match hxa:x.args,ha1 with
     |[e],_=>exact⟨e,rfl⟩
    have hef:e0.formed j.env.length=true:=by
     have:=hex.out e0 (by rw[he0];simp);simp only[BS.ok,AP]at this;exact this.2.2
    have hka:Cl p sz st1.d9 ⟨ka,j.at_,j.env⟩:=Pj hj1.out (by omega) hl.out hq.out 0 _ (by simp[Bj,hkk]);have hkb:Cl p sz st1.d9 ⟨kb,j.at_,j.env⟩:=Pj hj1.out (by omega) hl.out hq.out 1 _ (by simp[Bj,hkk]);rw[NQ];replace hkk:=AA.mk hkk;replace he0:=AA.mk he0;replace hka:=AA.mk hka;replace hkb:=AA.mk hkb
    (refine Ah rfl Tryz.func66 rfl rfl rfl ?_;show Wp _ _ _ _ (Tryz.f66.body.get rfl) _ _;simp only[Tryz.f66,AS])
    (repeat' (first|simp only[go_sem, *,IB]|(refine sx ?_ ?_<;>intro hc)|refine sy (by omega) fun x hx hm=>?_|simp(disch:=first|assumption|omega) only[AJ]))
    refine AX (jV hF IH0 (V:=V) (st:=st1) hr.out.rep ap.out hI1.out j hfc.out z2 he0.out hef hkk.out hka.out hkb.out) (fun o1 g1 p1=>?_);have fn:=hfn.out g1 o1 _ p1;obtain⟨r,hr9⟩: ∃r,r=Bn (Fb p k) (Bj x (Ur x j.env) j.at_ j.env) st1:=⟨_,rfl⟩;rw[←hr9]at fn p1⊢;clear hr9;cases r;all_goals
     have w9:=p1.1;subst w9;replace fn:=AA.mk fn;replace p1:=AA.mk p1;refine aw ?_;exact fn.out
   all_goals
    rw[hJ.out];simp only[ho,Int.reduceEq,F3,ES,X9,DS,decide_true,decide_false,Bool.true_or,Bool.or_true,Bool.or_self,AM]
    (refine Ah rfl Tryz.func66 rfl rfl rfl ?_;show Wp _ _ _ _ (Tryz.f66.body.get rfl) _ _;simp only[Tryz.f66,AS])
    (repeat' (first|simp only[go_sem, *,IB]|(refine sx ?_ ?_<;>intro hc)|refine sy (by omega) fun x hx hm=>?_|simp(disch:=first|assumption|omega) only[AJ]))
    refine AX (ABU (V:=V) (st:=st1) hr.out.rep ap.out j (by omega) (by rw[hsol.out];exact hwl.out)) (fun o1 g1 p1=>?_);have fn:=hfn.out g1 o1 _ p1;obtain⟨r,hr9⟩: ∃r,r=IL j st1:=⟨_,rfl⟩;rw[←hr9]at fn p1⊢;clear hr9;cases r;all_goals
     have w9:=p1.1;subst w9;replace fn:=AA.mk fn;replace p1:=AA.mk p1;refine aw ?_;exact fn.out
  .have hw2: ¬st.work+1≤400:=by omega
   rw[hd.out,CS hw]
   (refine Ah rfl Tryz.func66 rfl rfl rfl ?_;show Wp _ _ _ _ (Tryz.f66.body.get rfl) _ _;simp only[Tryz.f66,AS])
   refine aw ?_;refine⟨rfl,(hrun.out _ ?_ ?_).frame⟩
   .simp only[go_sem,Aq];first|done|rfl
   .intro id b1 b2;simp only[go_sem,b1,AM]
def nn(l:List Int):Int:=match l with
 |[]=>0
 |x::l=>l.foldl min x
theorem YS: ∀(l:List Int) (x:Int),l.foldl min x≤x∧(∀y∈l,l.foldl min x≤y)∧(l.foldl min x=x∨l.foldl min x∈l)
 |[],x=>by simp
 |y::l,x=>by
  obtain⟨h1,h2,h3⟩:=YS l (min x y);rw[MP];refine⟨by omega,fun z hz=>?_,?_⟩
  .rcases Ce.1 hz with rfl|hz
   .omega
   .exact h2 z hz
  .rcases h3 with h3|h3
   .by_cases hxy:x≤y
    .exact .inl (by omega)
    .exact .inr (Ce.2 (.inl (by omega)))
   .exact .inr (FD _ h3)
theorem ZA{l:List Nat}(h:0<l.length):nn (l.map fun(n:Nat)=>(n:Int))=0↔0∈l:=by
 cases l with
 |nil=>simp at h
 |cons x l=>
  obtain⟨h1,h2,h3⟩:=YS (l.map fun(n:Nat)=>(n:Int)) (x:Int);have e0:nn ((x::l).map fun(n:Nat)=>(n:Int))=(l.map fun(n:Nat)=>(n:Int)).foldl min (x:Int):=rfl;rw[e0];constructor
  .intro e;rw[e]at h3;rcases h3 with h3|h3
   .have:x=0:=by omega
    simp[this]
   .obtain⟨y,hy,e2⟩:=F0.1 h3;have:y=0:=by omega
    subst this;exact FD _ hy
  .intro e;have hn:0≤(l.map fun(n:Nat)=>(n:Int)).foldl min (x:Int):=by
    rcases h3 with h3|h3
    .omega
    .obtain⟨y,hy,e2⟩:=F0.1 h3;omega
   rcases Ce.1 e with e|e
   .omega
   .have:=h2 0 (F0.2 ⟨0,e,rfl⟩);omega
theorem AB5(L:List Int)(h0:0<L.length)(hl:L.length≤1000000):BJ (KL Tryz.prog cfg) 159 [.d (.be (L.map AK))] []=.ok (.ret (.d (.int .i64 (nn L))),[]):=by
 obtain⟨x,hx⟩:=get_some (l:=L) (i:=0) h0;have hm:AA (nn L=(L.drop 1).foldl min x):=⟨by
  cases L with
  |nil=>cases hx
  |cons y l=>cases hx;rfl⟩
 have hd:AA ((L.drop 1).length=L.length-1):=⟨by simp⟩;have z1: ¬(L.length:Int)<1:=by omega
 have z2:(0:Int)<L.length:=by omega
 (refine Ar rfl Tryz.func159 rfl rfl rfl ?_;show Wp _ _ _ _ (Tryz.f159.body.get rfl) _ _;simp only[Tryz.f159,AS])
 refine aw ?_;refine Aw (L.drop 1) (S:=fun i (c:Int)=>⟨[(0,.d (.be (L.map AK))),(3,.d (.int .i64 (c))),(4,.d (.int .i64 ((i:Int)+1)))],[],0,[]⟩) (Inv:=fun i rest c=>AA (nn L=rest.foldl min c)) (b0:=x) hm ?_ ?_
 .rintro i y c hy hi him hI IH;have hd:=hd.out;have a1:(i:Int)+1<L.length:=by omega
  have a2:((i:Int)+1).toNat=i+1:=by omega
  have a4:0≤(i:Int)+1:=by omega
  have a3:IntKind.i64.wrap ((i:Int)+1+1)=(i:Int)+1+1:=wrap_id (by omega) (by omega);rw[HE,Nat.add_comm]at hy;clear hd hi him;refine aw ?_;rw[show(if y<c then y else c)=min c y by split<;>omega];exact IH.out (min c y) hI
 .rintro i c hi him hI;have hd:=hd.out;have a1: ¬(i:Int)+1<L.length:=by omega
  clear hd him;refine aw ?_;rw[hI.out];rfl
theorem YL(l:List Int)(id:Abs.Id)(o n:Nat):BT (.em id o n) [(id,.co 1 (l.map AK))]=some (id,.co 1 (l.map AK)):=by
 rw[GV,DO];simp[AK,EH]
theorem rU(l:List Int)(h0:0<l.length)(hl:l.length≤1000000)(k:Nat)(ρ:List Nat):BJ (KL Tryz.prog cfg) 160 [.d (.be (l.map AK))] (k::ρ)=.ok (.ret (.em (1::5::k::ρ) 0 l.length),[(1::5::k::ρ,.co 1 (l.map AK))]):=by
 have ap:=qo l l.length rfl h0 hl
 (refine Ar rfl Tryz.func160 rfl rfl rfl ?_;show Wp _ _ _ _ (Tryz.f160.body.get rfl) _ _;simp only[Tryz.f160,AS])
 exact au
def JS:List Nat→List Int→List (List Int)
 |n::l,d::c=>((JS l c).map fun t=>d::t)++(List.range' (d.toNat+1) (n-(d.toNat+1))).flatMap fun(i:Nat)=>(Ds l).map fun t=>(i:Int)::t
 |_,_=>[[]]
def FK(n:Nat):List Int:=List.replicate n 0
def Jm:List Nat→List Int→Option (List Int)
 |n::l,d::c=>match Jm l c with
  |some t=>some (d::t)
  |none=>if d+1<n then some ((d+1)::FK c.length)else none
 |_,_=>none
inductive H7:List Nat→List Int→Prop where
 |nil:H7 [] []
 |cons {n:Nat} {l:List Nat} {d:Int} {c:List Int}:0≤d→d<n→H7 l c→H7 (n::l) (d::c)
variable{l:List Nat}
theorem H7.len{c:List Int}(h:H7 l c):c.length=l.length:=by
 induction h with
 |nil=>rfl
 |cons _ _ _ ih=>simp[ih]
theorem La: ∀{l:List Nat},0∉l→H7 l (FK l.length)
 |[],_=>.nil
 |n::l,h=>by
  simp only[Ce,not_or]at h;exact .cons (by omega) (by omega) (La h.2)
theorem P1: ∀{l:List Nat},0∉l→JS l (FK l.length)=Ds l
 |[],_=>rfl
 |n::l,h=>by
  simp only[Ce,not_or]at h;have ih:=P1 h.2;rw[List.length_cons,FK,RT,JS,Ds];rw[FK]at ih;rw[ih];obtain⟨m,rfl⟩: ∃m,n=m+1:=⟨n-1,by omega⟩;rw[List.range_eq_range',List.range'_succ,D2];simp
def Z4(l:List Nat):Option (List Int)→List (List Int)
 |some c=>JS l c
 |none=>[]
theorem pT{c:List Int}(h:H7 l c)(h0:0∉l):JS l c=c::Z4 l (Jm l c)∧ ∀c',Jm l c=some c'→H7 l c':=by
 induction h with
 |nil=>exact⟨rfl,fun c' h=>by cases h⟩
 | @cons n l d c hd0 hd1 hc ih=>
   simp only[Ce,not_or]at h0;obtain⟨ih1,ih2⟩:=ih h0.2;cases hn:Jm l c with
   |some t=>
    rw[hn]at ih1;have e:Jm (n::l) (d::c)=some (d::t):=by rw[Jm,hn]
    rw[e];refine⟨?_,fun c' h=>by cases h;exact .cons hd0 hd1 (ih2 t hn)⟩;simp only[JS,Z4,ih1];rfl
   |none=>
    rw[hn]at ih1;have e:Jm (n::l) (d::c)=if d+1<n then some ((d+1)::FK c.length)else none:=by rw[Jm,hn]
    rw[e];have hz:=La h0.2;rw[←hc.len]at hz;have hr:=P1 h0.2;rw[←hc.len]at hr;by_cases hlt:d+1<n
    .rw[DO hlt];refine⟨?_,fun c' h=>by cases h;exact .cons (by omega) hlt hz⟩;simp only[JS,Z4,ih1,hr];obtain⟨m,hm⟩: ∃m,n-(d.toNat+1)=m+1:=⟨n-(d.toNat+1)-1,by omega⟩;have e1:(d+1).toNat=d.toNat+1:=by omega
     rw[e1,hm,List.range'_succ,D2,show n-(d.toNat+1+1)=m by omega];simp;intro a _;omega
    .rw[CS hlt];refine⟨?_,fun c' h=>by cases h⟩;have:n-(d.toNat+1)=0:=by omega
     simp only[JS,Z4,ih1,this];rfl
theorem rk{l:List Nat}{c:List Int}(h:H7 l c): ∀{j:Nat} {d:Int} {n:Nat},c[j]? =some d→l[j]? =some n→0≤d∧d<n:=by
 induction h with
 |nil=>intro j d n h1;simp at h1
 |cons h1 h2 _ ih=>
  intro j d n hd hn;cases j with
  |zero=>
   simp only[Ex,Bv]at hd hn;subst hd hn;exact⟨h1,h2⟩
  |succ j=>exact ih hd hn
def gJ(l:List Nat)(c:List Int)(j:Nat):Prop:= ∀t,j≤t→t<l.length→ ∃(d:Int) (n:Nat),c[t]? =some d∧l[t]? =some n∧d=n-1
theorem VA{l:List Nat}{c:List Int}(h:H7 l c)(he:gJ l c 0):Jm l c=none:=by
 induction h with
 |nil=>rfl
 | @cons n l d c hd0 hd1 hc ih=>
   have h1:=ih fun t _ ht=>by
    have:=he (t+1) (by omega) (by simp;omega);simpa using this
   obtain⟨d',n',e1,e2,e3⟩:=he 0 (by omega) (by simp);simp only[Ex,Bv]at e1 e2;subst e1 e2;rw[Jm,h1];simp only;rw[CS (by omega)]
theorem oA{l:List Nat}{c:List Int}(h:H7 l c): ∀{j:Nat} {d:Int} {n:Nat},gJ l c (j+1)→c[j]? =some d→l[j]? =some n→ ¬d=n-1→Jm l c=some (c.take j++(d+1)::FK (l.length-(j+1))):=by
 induction h with
 |nil=>intro j d n _ h1;simp at h1
 | @cons n0 l d0 c hd0 hd1 hc ih=>
   intro j d n he hd hn hne;have he': ∀k,k+1≥j+1→gJ l c k:=fun k hk t h1 h2=>by
    have:=he (t+1) (by omega) (by simp;omega);simpa using this
   cases j with
   |zero=>
    simp only[Ex,Bv]at hd hn;subst hd hn;rw[Jm,VA hc (he' 0 (by omega))];simp only;rw[DO (by omega)];simp[hc.len]
   |succ j=>
    simp only[F4]at hd hn;rw[Jm,ih (he' (j+1) (by omega)) hd hn hne];simp
def XO(ρ:List Nat)(i:Abs.Id):Prop:= ∃j l,i=1::j::l∧Id.under ρ l=true
def LG(π:List Nat)(b:Nat)(i:Abs.Id):Prop:= ∃n,n<b∧XO (n::π) i
variable{ρ:List Nat}
theorem XO.up{i:Abs.Id}(h:XO ρ i):Id.under ρ i=true:=by
 obtain⟨j,l,rfl,h⟩:=h;obtain⟨t,rfl⟩:=under_iff.1 h;exact under_iff.2 ⟨1::j::t,rfl⟩
theorem XO.out{i:Abs.Id}(h:XO (n::π) i):XO π i:=by
 obtain⟨j,l,rfl,h⟩:=h;exact⟨j,l,rfl,BR h⟩
theorem XO.not{i:Abs.Id}(h:XO (n::π) i)(a m:Nat):Id.is (a::m::π) i=false:=AE fun e=>by
 obtain⟨j,l,rfl,h⟩:=h;obtain⟨t,rfl⟩:=under_iff.1 h;have:=congrArg List.length e;simp at this;omega
theorem XO.sib{m:Nat}{i:Abs.Id}(h:XO (n::π) i)(hm: ¬n=m):Id.under (m::π) i=false:=by
 cases hx:Id.under (m::π) i with
 |false=>rfl
 |true=>exact absurd (Bg h.up hx) hm
theorem LG.up{i:Abs.Id}(h:LG π b i):XO π i:=by
 obtain⟨n,_,h⟩:=h;exact h.out
theorem LG.not{i:Abs.Id}(h:LG π b i)(a m:Nat):Id.is (a::m::π) i=false:=by
 obtain⟨n,_,h⟩:=h;exact h.not a m
theorem LG.sib{m:Nat}{i:Abs.Id}(h:LG π b i)(hm:b≤m):Id.under (m::π) i=false:=by
 obtain⟨n,h1,h⟩:=h;exact h.sib (by omega)
theorem LG.mono{c:Nat}{i:Abs.Id}(h:LG π b i)(hc:b≤c):LG π c i:=by
 obtain⟨n,h1,h⟩:=h;exact⟨n,by omega,h⟩
def xY{α:Type}(C:Abs.Id→Prop)(I:List α→(Abs.Id→Prop)→AB→Prop)(D:Ae→AB→Prop)(π ρ:List Nat)(l:List α)(M:Abs.Id→Prop)(vi:List Abs.Id)(H:AB)(o:Ae)(h':AB):Prop:=
 (o=.ret (.d (.bool (true)))∧ ∃M',I l M' h'∧(∀i,M' i→M i∨i∈vi∨XO ρ i)∧ ∀i,¬C i→ ¬M i→i∉vi→Id.under ρ i=false→h'.get i=H.get i)∨((o=.ret (.d (.bool (false)))∨ ∃v,o=.f9 v)∧D o h'∧ ∀j,Id.under π (0::j)=true→Id.under ρ (0::j)=false→h'.get (0::j)=H.get (0::j))
structure LF{α:Type}(val:AB→AV→α→Prop)(id:Abs.Id)(C:Abs.Id→Prop)(I:List α→(Abs.Id→Prop)→AB→Prop)(D:Ae→AB→Prop)(π:List Nat):Prop where
 own:C id
 apart: ∀i,C i→Id.under π i=false
 tag: ∀{l:List α} {M:Abs.Id→Prop} {H:AB},I l M H→ ∀i,M i→ ∃l,i=1::l
 loop: ∀{l:List α} {M:Abs.Id→Prop} {H:AB},I l M H→ ∃r,H.get id=some (.loop r)
 eat: ∀{x:α} {l:List α} {M:Abs.Id→Prop} {H:AB} {ρ:List Nat} {v:AV} {r:Lp},I (x::l) M H→H.get id=some (.loop r)→val H v x→(∀i,Id.under π i=false→Id.under ρ i=false)→(∀i,M i→Id.under ρ i=false)→(∀i∈AD v,¬C i∧Id.under ρ i=false∧XO π i)→
  ∃o h',KL Tryz.prog cfg (.round id r) [v] H ρ true none=.ok (o,h')∧xY C I D π ρ l M (AD v) H o h'
 same: ∀{l:List α} {M:Abs.Id→Prop} {H H':AB},I l M H→(∀i,(Id.under π i=false∨M i)→H'.get i=H.get i)→I l M H'
 sameD: ∀{o:Ae} {H H':AB},D o H→(∀i,(Id.under π i=false∨ ∃l,i=1::l)→H'.get i=H.get i)→D o H'
def qI{α:Type}(C:Abs.Id→Prop)(I:List α→(Abs.Id→Prop)→AB→Prop)(D:Ae→AB→Prop)(π:List Nat)(M:Abs.Id→Prop)(h:AB)(o:Ae)(h':AB):Prop:=
 (o=.ret (.ge [])∧ ∃M',I [] M' h'∧(∀i,M' i→M i∨XO π i)∧ ∀i,¬C i→ ¬M i→Id.under π i=false→h'.get i=h.get i)∨(o=.ret (.ge [])∧D (.ret (.d (.bool (false)))) h')∨((∃v,o=.f9 v)∧D o h')
variable{α:Type}{val:AB→AV→α→Prop}{C:Abs.Id→Prop}{I:List α→(Abs.Id→Prop)→AB→Prop}{D:Ae→AB→Prop}{H:AB}
theorem LF.gcI{id:Abs.Id}(hE:LF val id C I D π){l:List α}{M:Abs.Id→Prop}(h:I l M H)(n:Nat):I l M (gc (n::π) H):=hE.same h fun i hi=>by
 rcases hi with hi|hi
 .exact Ab _ _ _ (AF hi n)
 .obtain⟨l,rfl⟩:=hE.tag h i hi;exact E2 _ _ _
theorem LF.gcD{id:Abs.Id}(hE:LF val id C I D π){o:Ae}(h:D o H)(n:Nat):D o (gc (n::π) H):=hE.sameD h fun i hi=>by
 rcases hi with hi|⟨l,rfl⟩
 .exact Ab _ _ _ (AF hi n)
 .exact E2 _ _ _
def qN(H:AB)(v:AV)(x:List Int):Prop:= ∃id,v=.em id 0 x.length∧H.get id=some (.co 1 (x.map AK))∧ ∃l,id=1::l
structure AFa(C:Abs.Id→Prop)(I:List (List Int)→(Abs.Id→Prop)→AB→Prop)(π:List Nat)(M:Abs.Id→Prop)(h:AB)(A:Abs.Id)(many:List Nat)(c:List Int)(L:List (List Int))(a:List Int)(b:Nat)(g:AB):Prop where
 arr:g.get A=some (.co 1 (a.map AK))
 dig:H7 many c
 eat: ∃M',I L M' g∧ ∀i,M' i→M i∨LG π b i
 frame: ∀i,¬C i→ ¬M i→Id.under π i=false→g.get i=h.get i
theorem wQ{c z:List Int}{j:Nat}(hj:j<c.length)(x:Int):(c.take (j+1)++z).set j x=c.take j++x::z:=by
 obtain⟨d,hd⟩:=get_some hj;have hl:(c.take j).length=j:=by rw[IP];omega
 rw[Is,hd,EM,List.set_append,CS (by omega),hl,MD];rfl
theorem bU{many:List Nat}(h0:0<many.length)(hl:many.length≤1000)(hm: ∀n∈many,n≤1000000){id:Abs.Id}{C:Abs.Id→Prop}{I:List (List Int)→(Abs.Id→Prop)→AB→Prop}{D:Ae→AB→Prop}{π:List Nat}(hE:LF qN id C I D π){M:Abs.Id→Prop}{h:AB}{B:Abs.Id}(hB:h.get B=some (.box [.d (.be ((many.map fun(n:Nat)=>(n:Int)).map AK))]))(uB:Id.under π B=false)(nB: ¬C B)(mB: ¬M B)(hM: ∀i,M i→Id.under π i=false)(hI:I (Ds many) M h):
 ∃o h',KL Tryz.prog cfg (.fn 158) [.v6 id,.ptr B 0] h π true none=.ok (o,h')∧qI C I D π M h o h':=by
 have uC:=hE.apart;have e1:=AG uB;have e2:=Al uB;have hmk:=AB5 (many.map fun(n:Nat)=>(n:Int)) (by simpa using h0) (by simp;omega);by_cases hz:0∈many
 .rw[(ZA h0).2 hz]at hmk;rw[Zr hz]at hI
  (refine Ah rfl Tryz.func158 rfl rfl rfl ?_;show Wp _ _ _ _ (Tryz.f158.body.get rfl) _ _;simp only[Tryz.f158,AS])
  refine aw ?_;exact .inl ⟨rfl,M,hI,fun i hi=>.inl hi,fun _ _ _ _=>rfl⟩
 .have hmz: ¬nn (many.map fun(n:Nat)=>(n:Int))=0:=fun e=>hz ((ZA h0).1 e);replace hI:=AA.mk hI;replace hE:=AA.mk hE;replace uC:=AA.mk uC;replace hm:=AA.mk hm;replace hM:=AA.mk hM;replace mB:=AA.mk mB
  (refine Ah rfl Tryz.func158 rfl rfl rfl ?_;show Wp _ _ _ _ (Tryz.f158.body.get rfl) _ _;simp only[Tryz.f158,AS])
  have hcl:=fun(l:List Int) (hl:l.length=many.length)=>rU l (by omega) (by omega);replace hcl:=AA.mk hcl
  (repeat' (first|simp only[go_sem, *]|(refine sx ?_ ?_<;>intro hc)|refine sy (by omega) fun x hx hm=>?_|simp(disch:=first|assumption|omega) only[AJ,EP]))
  refine rounds (S:=fun(a:(List Int×AB)×Nat)=>⟨[(0,.v6 id),(1,.ptr B 0),(3,.em (1::5::π) 0 many.length)],a.1.2,a.2+7,[]⟩)
   (Inv:=fun a=>AA (AFa C I π M h (1::5::π) many a.1.1 (JS many a.1.1) a.1.1 (a.2+7) a.1.2)) (m:=fun a=>(JS many a.1.1).length) (a:=((FK many.length,_),0)) ⟨?_⟩ ?_
  .refine⟨?_,La hz,⟨M,?_,fun i hi=>.inl hi⟩,fun i q1 _ q2=>?_⟩
   .show(h.put (1::5::π) _).get (1::5::π)=_;rw[get_put,is_self];rfl
   .rw[P1 hz];exact hE.out.same hI.out fun i hi=>by rw[get_put,AG (hi.elim (fun h=>h) (hM.out i)) 1 5];rfl
   .show(h.put (1::5::π) _).get i=_;rw[get_put,AG q2 1 5];rfl
  .rintro⟨⟨c,g⟩,b⟩ hI2 IH;dsimp only at*;have gA:=hI2.out.arr;have hcl:=hcl.out c (hI2.out.dig.len);have hcl0:=hI2.out.dig.len;have gB:g.get B=_:=(hI2.out.frame B nB mB.out uB).trans hB;obtain⟨M1,hI1,hM1⟩:=hI2.out.eat;have n1: ∀i,¬M i→Id.under π i=false→ ¬M1 i:=fun i q1 q2 q3=>by
    rcases hM1 i q3 with q|q
    .exact q1 q
    .rw[q.up.up]at q2;cases q2
   have nX: ∀m,b+7≤m→ ∀i,M1 i→Id.under (m::π) i=false:=fun m h i hi=>(hM1 i hi).elim (fun q=>AF (hM.out i q) m) fun q=>q.sib h;have nA: ∀i,M1 i→Id.is (1::5::π) i=false:=fun i hi=>(hM1 i hi).elim (fun q=>AG (hM.out i q) 1 5) fun q=>q.not 1 5;have fa:=YL c;have tk:List.take many.length (c.map AK)=c.map AK:=DL (by simp;omega);have ui:=uC.out id hE.out.own;have i1:=AG ui;have i2:Id.is (1::5::(b+9)::π) id=false:=AG (AF ui (b+9)) 1 5;obtain⟨r,hr⟩:=hE.out.loop hI1;obtain⟨rest,hrest⟩: ∃t,t=Z4 many (Jm many c):=⟨_,rfl⟩;obtain⟨rn1,rn2⟩:=pT hI2.out.dig hz;rw[←hrest]at rn1;have hsm:=AA.mk fun l=>hE.out.same (l:=l) (M:=M1) (H:=g) (H':=(1::5::(b+9)::π,.co 1 (c.map AK))::g);have hi3:=hI1;rw[rn1]at hi3;replace hi3:=AA.mk hi3;replace hI1:=AA.mk hI1;replace hM1:=AA.mk hM1;replace n1:=AA.mk n1;replace nX:=AA.mk nX;replace nA:=AA.mk nA;replace rn1:=AA.mk rn1;replace rn2:=AA.mk rn2;replace hrest:=AA.mk hrest;refine ax ?_;refine AX (hE.out.eat (x:=c) (l:=rest) (hsm.out _ hi3.out fun i hi=>?_) (by simp only[go_sem,i2,hr,AM]) ⟨_,by rw[hcl0],by simp only[go_sem],_,rfl⟩ (fun i hi=>AF hi _) (nX.out _ (by omega)) (fun i hi=>?_)) (fun o1 g1 p1=>?_)
   .have q:=AG (hi.elim (fun h=>AF h (b+9)) (nX.out _ (by omega) i)) 1 5;simp only[go_sem,q,AM]
   .simp only[AD,As]at hi;subst hi;exact⟨fun hc=>(by have:=uC.out _ hc;rw[show Id.under π (1::5::(b+9)::π)=true from Ag [1,5,b+9]]at this;cases this),JX _ _ _ _ _ (by omega),5,(b+9)::π,rfl,Ag [b+9]⟩
   rcases p1 with⟨rfl,M2,p1,m2,p2⟩|⟨p0,p1,_⟩
   .have m3: ∀i,M2 i→M i∨LG π (b+11) i:=fun i hi=>by
     rcases m2 i hi with q|q|q
     .exact(hM1.out i q).imp_right fun q=>q.mono (by omega)
     .simp only[AD,As]at q;subst q;exact .inr ⟨b+9,by omega,5,_,rfl,Ag []⟩
     .exact .inr ⟨b+10,by omega,q⟩
    have nA2: ∀i,M2 i→Id.is (1::5::π) i=false:=fun i hi=>(m3 i hi).elim (fun q=>AG (hM.out i q) 1 5) fun q=>q.not 1 5;have mA: ¬M1 (1::5::π):=fun h=>by have:=nA.out _ h;rw[is_self]at this;cases this
    have mB1:=n1.out B mB.out uB;have fr: ∀i,¬C i→ ¬M1 i→Id.under ((b+10)::π) i=false→Id.is (1::5::(b+9)::π) i=false→(gc ((b+10)::π) g1).get i=g.get i:=fun i q1 q0 q2 q3=>by
     rw[Ab _ _ _ q2,p2 i q1 q0 (fun h=>by simp only[AD,As]at h;rw[h,is_self]at q3;cases q3) q2,Bd,q3];rfl
    have gB2:=(fr B nB mB1 (AF uB _) (AG (AF uB (b+9)) 1 5)).trans gB;have gA2:=(fr (1::5::π) (fun hc=>by have:=uC.out _ hc;rw[show Id.under π (1::5::π)=true from Ag [1,5]]at this;cases this) mA (My _ _ _ _ (by omega)) (AE (by simp))).trans gA;have frm:AA (∀i,¬C i→ ¬M i→Id.under π i=false→(gc ((b+10)::π) g1).get i=h.get i):=⟨fun i q1 q0 q2=>(fr i q1 (n1.out i q0 q2) (AF q2 _) (AG (AF q2 (b+9)) 1 5)).trans (hI2.out.frame i q1 q0 q2)⟩;clear p2 fr m2 mA mB1;replace m3:=AA.mk m3;replace nA2:=AA.mk nA2;replace p1:=AA.mk (hE.out.gcI p1 (b+10));refine ax ?_;have hdg:=AA.mk hI2.out.dig;replace hI2:=AA.mk hI2;refine rounds (S:=fun(a:(Nat×AB)×Nat)=>⟨[(0,.v6 id),(1,.ptr B 0),(3,.em (1::5::π) 0 many.length),(4,.d (.int .i64 ((a.1.1:Int)-1)))],a.1.2,b+a.2+16,[]⟩)
     (Inv:=fun a=>a.1.1≤many.length∧AA (gJ many c a.1.1)∧a.1.2.get (1::5::π)=some (.co 1 ((c.take a.1.1++FK (many.length-a.1.1)).map AK))∧a.1.2.get B=some (.box [.d (.be ((many.map fun(n:Nat)=>(n:Int)).map AK))])∧AA (I rest M2 a.1.2∧ ∀i,¬C i→ ¬M i→Id.under π i=false→a.1.2.get i=h.get i)) (m:=fun a=>a.1.1) (a:=((many.length,_),0)) ⟨EL _,⟨fun t h1 h2=>absurd h2 (Nat.not_lt.2 h1)⟩,?_,gB2,⟨p1.out,frm.out⟩⟩ ?_
    .show(gc ((b+10)::π) g1).get (1::5::π)=some (.co 1 ((c.take many.length++FK (many.length-many.length)).map AK));rw[gA2,MD,FK,List.replicate_zero,D9,DL (by omega)]
    clear gA2 gB2 p1 frm gA gB hr hcl;rintro⟨⟨j,g2⟩,b2⟩ ⟨hj,hend,gA,gB,hI3⟩ IH2;dsimp only at*;rcases j with _|j
    .have hr0:AA (rest=[]):=⟨by rw[hrest.out,VA hdg.out hend.out];rfl⟩;refine ax ?_;all_goals first
     |omega
     |exact .inl ⟨rfl,M2,by have:=hI3.out.1;rwa [hr0.out]at this,fun i hi=>(m3.out i hi).imp_right fun q=>q.up,hI3.out.2⟩
    .obtain⟨d,hd⟩:=get_some (l:=c) (i:=j) (by omega);obtain⟨n,hn⟩:=get_some (l:=many) (i:=j) (by omega);obtain⟨a,ha⟩: ∃a,a=c.take (j+1)++FK (many.length-(j+1)):=⟨_,rfl⟩;have al:a.length=many.length:=by rw[ha,CI,IP,FK,I0];omega
     have ad:a[j]? =some d:=by rw[ha,Be (by rw[IP];omega),It,DO (by omega),hd]
     rw[←ha]at gA;have ek:(((j+1:Nat):Int)-1)=j:=by omega
     have hmn:(many.map fun(n:Nat)=>(n:Int))[j]? =some (n:Int):=by rw[D1,hn];rfl
     have hnm:=hm.out n (Ac hn);have w1:IntKind.i64.wrap ((n:Int)-1)=(n:Int)-1:=wrap_id (by omega) (by omega);have jl:j<many.length:=by omega
     have j0: ¬(j:Int)<0:=by omega
     replace ha:=AA.mk ha;rw[ek];have put: ∀o,AA (I rest M2 (g2.put (1::5::π) o)∧(g2.put (1::5::π) o).get B=some (.box [.d (.be ((many.map fun(n:Nat)=>(n:Int)).map AK))])∧ ∀i,¬C i→ ¬M i→Id.under π i=false→(g2.put (1::5::π) o).get i=h.get i):=fun o=>⟨hE.out.same hI3.out.1 (fun i hi=>by rw[get_put,hi.elim (fun h=>AG h 1 5) (nA2.out i)];rfl),by rw[get_put,e1];exact gB,fun i q1 q0 q2=>by rw[get_put,AG q2 1 5];exact hI3.out.2 i q1 q0 q2⟩;have hdg0:=hdg.out;by_cases hdn:d=(n:Int)-1
     .have hset: ∀x:Int,(a.map AK).set j [.int .i64 x]=(c.take j++x::FK (many.length-(j+1))).map AK:=fun x=>by
       rw[←wQ (by omega),←ha.out,JP];rfl
      replace hset:=AA.mk hset;replace put:=AA.mk put;replace hdg0:=AA.mk hdg0;refine ax ?_;rw[hset.out];refine IH2.out ((j,_),b2+21) (by simp) ⟨by dsimp only;omega,⟨fun t h1 h2=>?_⟩,?_,(put.out _).out.2.1,⟨(put.out _).out.1,(put.out _).out.2.2⟩⟩
      .by_cases htj:t=j
       .subst htj;exact⟨d,n,hd,hn,hdn⟩
       .exact hend.out t (by dsimp only at h1;omega) h2
      .show(g2.put (1::5::π) _).get (1::5::π)=some (.co 1 ((c.take j++FK (many.length-j)).map AK));rw[get_put,is_self,show many.length-j=(many.length-(j+1))+1 by omega];rfl
     .have hns:=oA hdg0 hend.out hd hn hdn;have hset: ∀x:Int,(a.map AK).set j [.int .i64 x]=(c.take j++x::FK (many.length-(j+1))).map AK:=fun x=>by
       rw[←wQ (by omega),←ha.out,JP];rfl
      have w2:IntKind.i64.wrap (d+1)=d+1:=by
       have:=rk hdg0 hd hn;exact wrap_id (by omega) (by omega)
      obtain⟨c',hc'⟩: ∃t,t=c.take j++(d+1)::FK (many.length-(j+1)):=⟨_,rfl⟩;rw[←hc']at hns;have hre:AA (rest=JS many c'):=⟨by rw[hrest.out,hns];rfl⟩;have hdc:=AA.mk (rn2.out c' hns);replace hset:=AA.mk hset;replace put:=AA.mk put;replace hdg0:=AA.mk hdg0;replace hns:=AA.mk hns;replace hc':=AA.mk hc';refine ax ?_;rw[hset.out,←hc'.out];refine IH.out ((c',_),b+b2+32) ?_ ⟨?_,hdc.out,⟨M2,by rw[←hre.out];exact(put.out _).out.1,fun i hi=>(m3.out i hi).imp_right fun q=>q.mono (by dsimp only;omega)⟩,(put.out _).out.2.2⟩
      .dsimp only;rw[rn1.out,←hre.out];simp
      .dsimp only;rw[get_put,is_self];rfl
   .replace p1:=AA.mk (hE.out.gcD p1 (b+10));rcases p0 with rfl|⟨v,rfl⟩
    .refine ax ?_;exact .inr (.inl ⟨rfl,p1.out⟩)
    .refine ax ?_;exact .inr (.inr ⟨⟨v,rfl⟩,p1.out⟩)
variable{s:BM}{w:GI}
theorem zF(hx:p.nodes[w.node.toNat]? =some x):lc p s w=if x.op=7 then true else if (IE w.env x.n).kind=4 then(if x.op=8 then AW s.ac (IE w.env x.n).n else decide (w.at_≠0)&&(!AW s.ac (IE w.env x.n).n&& !CF s.ac (IE w.env x.n).n w.at_))else false:=by
 rw[lc,hx]
theorem s6(hM:Dq p sz h m V st)(hu:CC ρ V m)(hs:E6 p sz st.d9)(hw:RM p sz st.d9 w x):
 ∃o h',KL Tryz.prog cfg (.fn 93) [.ptr m 0,.agg [.d (.int .i64 (w.at_)),.d (.int .i64 (w.node)),.d (.be (w.env.map AL))]] h ρ true (some ρ)=.ok (o,h')∧o=.ret (.d (.bool (lc p st.d9 w))):=by
 have hm:=hM.box;simp only[Aq]at hm;have um:=hu m (V.m_mem m);have e1:=AG um;have e2:=Al um;have hx:=hw.node;have hn:=hw.n0;have hxl:=AH hx;rw[zF hx];by_cases ho:x.op=7
 ·(refine Ah rfl Tryz.func93 rfl rfl rfl ?_;show Wp _ _ _ _ (Tryz.f93.body.get rfl) _ _;simp only[Tryz.f93,AS])
  exact au
 obtain⟨v,hv,hvn,hk⟩:=hw.val ho;have⟨n0,n1⟩:=hw.n ho;rw[hvn];by_cases h4:v.kind=4
 .obtain⟨hr,y,hy,hyd⟩:=hk h4;obtain⟨r0,r1⟩:=hr;have hss:=hs.small;simp only[BM.small,AP,Ap]at hss;obtain⟨w0,w1⟩:=hw.at_;have hin:=Vc st.d9.ac v.n w.at_ (by omega) hs.tree ⟨r0,r1⟩ w0
  obtain⟨S,xs,hS,gS,xS,lS,lS2⟩:=JU (hM.sl 0 (by omega)) hy;have uS:=hu S (V.s_mem m (i:=0) (by omega) (by rw[hS];simp[AD]));have a3:=AG uS;have a4:=Al uS;rw[hS]at hm;simp only[GQ]at gS;replace hM:=AA.mk hM;replace hu:=AA.mk hu;by_cases ho8:x.op=8;all_goals
   rw[hyd];clear hk
   (refine Ah rfl Tryz.func93 rfl rfl rfl ?_;show Wp _ _ _ _ (Tryz.f93.body.get rfl) _ _;simp only[Tryz.f93,AS])
   (repeat' (first|simp only[go_sem, *,AM]|(refine sx ?_ ?_<;>intro hc)|refine sy (by omega) fun x hx hm=>?_|simp(disch:=first|assumption|omega) only[AJ]))
   all_goals first|done|simp[*]
 .clear hk
  (refine Ah rfl Tryz.func93 rfl rfl rfl ?_;show Wp _ _ _ _ (Tryz.f93.body.get rfl) _ _;simp only[Tryz.f93,AS])
  exact au
theorem MY{i:Nat}{g:Ao}{d:Bq}(hF:BD p sz)(h:M7 p sz s i g d):g.env.length≤10000:=by
 have hf:=CD hF (Fv h.eq).2;obtain⟨_,_,v,_,_,_,_,h0,h1,h2,_⟩:=hf.node;have:=h.len;rw[h2,F5]at this;have:=hf.ok.am;have:=hf.ok.ac;unfold Bq.own at*;omega
end Go.Proofs
namespace Go.Abs
def QC(ds:List Df):Prop:= ∀d∈ds,∃id,d=.mark id
theorem U1:QC []=True:=by simp[QC]
theorem SX(id:Id)(ds:List Df):QC (.mark id::ds)=QC ds:=by simp[QC]
theorem QQ{C:CZ}{bv:Option (List Nat)}{p:Option AV}{h:AB}: ∀{ds:List Df},QC ds→C5 C bv ds p h=.ok (p,h)
 |[],_=>rfl
 |d::ds,hd=>by
  obtain⟨id,rfl⟩:=hd d (by simp);rw[SQ];exact QQ fun d hd2=>hd d (by simp[hd2])
attribute [go_sem] U1 SX QQ
theorem jN(id:Id):(AV.v6 id).cells=[.v6 id]:=rfl
theorem rM(id:Id):AV.isCell (.v6 id)=true:=rfl
attribute [go_sem] jN rM
end Go.Abs
namespace Go.Proofs
open Go Go.Abs
set_option maxRecDepth 100000
set_option maxHeartbeats 4000000
def qb(H:AB)(v:AV)(x:FY):Prop:= ∃pv,v=.agg [.d (.int .i64 (x.wait)),.d (.int .i64 (x.group)),.d (.int .i64 (x.ut)),pv]∧((pv=.ci∧x.picks=[])∨qN H pv x.picks)
def Nt(π:List Nat)(i:Abs.Id):Prop:= ∀a n,Id.is (a::n::π) i=false
def Fd{α:Type}(I:List α→(Abs.Id→Prop)→AB→Prop)(π:List Nat)(M:Abs.Id→Prop)(b:Nat)(L:List α)(g:AB):Prop:= ∃M',I L M' g∧ ∀i,M' i→M i∨LG π b i
section
variable{α:Type}{val:AB→AV→α→Prop}{id:Abs.Id}{C M M':Abs.Id→Prop}{I:List α→(Abs.Id→Prop)→AB→Prop}{D:Ae→AB→Prop}{π:List Nat}{b b':Nat}{L:List α}{g G:AB}
theorem XO.wide{ρ:List Nat}{i:Abs.Id}(hρ: ∀i,Id.under π i=false→Id.under ρ i=false)(h:XO ρ i):XO π i:=by
 obtain⟨j,l,rfl,h⟩:=h;refine⟨j,l,rfl,?_⟩;cases hx:Id.under π l with
 |true=>rfl
 |false=>rw[hρ l hx]at h;cases h
theorem Wq(hM: ∀i,M i→Id.under π i=false)(h: ∀i,M' i→M i∨LG π b i)(i:Abs.Id)(hi:Id.under π i=false∨M' i):Nt π i:=by
 rcases hi with hi|hi
 .exact AG hi
 .rcases h i hi with q|q
  .exact AG (hM i q)
  .exact q.not
theorem vI(h: ∀i,M' i→M i∨LG π b i)(i:Abs.Id)(q0: ¬M i)(q2:Id.under π i=false): ¬M' i:=fun q3=>by
 rcases h i q3 with q|q
 .exact q0 q
 .rw[q.up.up]at q2;cases q2
theorem Tx(hM: ∀i,M i→Id.under π i=false)(h: ∀i,M' i→M i∨LG π b i){m:Nat}(hm:b≤m)(i:Abs.Id)(hi:M' i):Id.under (m::π) i=false:=(h i hi).elim (fun q=>AF (hM i q) m) fun q=>q.sib hm
theorem Fd.mv(hE:LF val id C I D π)(hM: ∀i,M i→Id.under π i=false)(h:Fd I π M b L g)(hl: ∀i,Nt π i→G.get i=g.get i)(hb:b≤b'):Fd I π M b' L G:=by
 obtain⟨M',h1,h2⟩:=h;exact⟨M',hE.same h1 fun i hi=>hl i (Wq hM h2 i hi),fun i hi=>(h2 i hi).imp_right fun q=>q.mono hb⟩
theorem Fd.gc(hE:LF val id C I D π)(h:Fd I π M b L g)(n:Nat):Fd I π M b L (gc (n::π) g):=by
 obtain⟨M',h1,h2⟩:=h;exact⟨M',hE.gcI h1 n,h2⟩
end
structure StepsIn(C M:Abs.Id→Prop)(π:List Nat)(h:AB)(id:Abs.Id)(E:AB→Prop)(g:AB):Prop where
 box:g.get (0::0::π)=some (.box [.v6 id])
 eat:E g
 frame: ∀i,¬C i→ ¬M i→Id.under π i=false→g.get i=h.get i
structure Vk(C M:Abs.Id→Prop)(π:List Nat)(h:AB)(id:Abs.Id)(b c:Nat)(i k:Int)(gr:Ao)(E:AB→Prop)(g:AB):Prop where
 st:StepsIn C M π h id E g
 x6:g.get (0::(b+20)::π)=some (.box [.d (.int .i64 (i))])
 x7:g.get (0::(b+21)::π)=some (.box [.d (.int .i64 (gr.eq)),.d (.int .i64 (gr.at_)),.d (.be (gr.env.map AL))])
 x8:g.get (0::(c+40)::π)=some (.box [.d (.int .i64 (k))])
variable{C M:Abs.Id→Prop}{π:List Nat}{h g H:AB}{b:Nat}{gr:Ao}
theorem Vk.loc{I:List FY→(Abs.Id→Prop)→AB→Prop}{D:Ae→AB→Prop}{id:Abs.Id}(hE:LF qb id C I D π)(hM: ∀i,M i→Id.under π i=false){c B:Nat}{i k:Int}{L:List FY}(hJ:Vk C M π h id b c i k gr (Fd I π M B L) g)(hl: ∀x,(∀n,Id.is (1::n::π) x=false)→H.get x=g.get x):Vk C M π h id b c i k gr (Fd I π M B L) H:=by
 have h0: ∀l,H.get (0::l)=g.get (0::l):=fun l=>hl _ fun n=>AE (by simp);exact⟨⟨(h0 _).trans hJ.st.box,hJ.st.eat.mv hE hM (fun i hi=>hl i fun n=>hi 1 n) (EL _),fun i q1 q0 q2=>(hl i fun n=>AG q2 1 n).trans (hJ.st.frame i q1 q0 q2)⟩,(h0 _).trans hJ.x6,(h0 _).trans hJ.x7,(h0 _).trans hJ.x8⟩
theorem Vk.mv{id:Abs.Id}{c:Nat}{i k:Int}{E E':AB→Prop}(hJ:Vk C M π h id b c i k gr E g)(hI:E' H)(hb: ∀n,n=0∨n=b+20∨n=b+21∨n=c+40→H.get (0::n::π)=g.get (0::n::π))(hf: ∀i,¬C i→ ¬M i→Id.under π i=false→H.get i=g.get i):Vk C M π h id b c i k gr E' H:=
 ⟨⟨(hb _ (by simp)).trans hJ.st.box,hI,fun i q1 q0 q2=>(hf i q1 q0 q2).trans (hJ.st.frame i q1 q0 q2)⟩,(hb _ (by simp)).trans hJ.x6,(hb _ (by simp)).trans hJ.x7,(hb _ (by simp)).trans hJ.x8⟩
theorem nP{K:AN}{bv:Option (List Nat)}{ρ ρ2:List Nat}{id2:Abs.Id}{e:Bm}{bs:Nat}{ds:List Df}{Q:Dx→St→Prop}{t:Tgt}{args:List AV}{x:Abs.Id×Abs.Obj}{r:Lp}(hn: ∀r',r'=r→HH ρ ρ2 id2 e bs ds Q (K t args (x::H.put id2 (.loop r')) ρ2 true bv)):HH ρ ρ2 id2 e bs ds Q (K t args (x::H.put id2 (.loop r)) ρ2 true bv):=hn r rfl
theorem Xw(L:List Int)(k:Nat)(ρ:List Nat):BJ (KL Tryz.prog cfg) 96 [.d (.be (L.map AK))] (k::ρ)=.ok (.ret (.fn 158 [] [.ptr (0::0::k::ρ) 0]),[(0::0::k::ρ,.box [.d (.be (L.map AK))])]):=by
 (refine Ar rfl Tryz.func96 rfl rfl rfl ?_;show Wp _ _ _ _ (Tryz.f96.body.get rfl) _ _;simp only[Tryz.f96,AS])
 exact au
theorem po{p:AI}{sz:List Int}(hF:BD p sz){h:AB}{π:List Nat}{m:Abs.Id}{V:MV}{st:CK}(hM:Dq p sz h m V st)(hu:CC π V m)(hs:E6 p sz st.d9){id:Abs.Id}{C:Abs.Id→Prop}{I:List FY→(Abs.Id→Prop)→AB→Prop}{D:Ae→AB→Prop}(hE:LF qb id C I D π)(hCV: ∀i∈V.ids m,¬C i){M:Abs.Id→Prop}(hMV: ∀i∈V.ids m,¬M i)(hMu: ∀i,M i→Id.under π i=false)(hI:I (Cz p st.d9) M h):
 ∃o h',KL Tryz.prog cfg (.fn 52) [.ptr m 0,.v6 id] h π true none=.ok (o,h')∧qI C I D π M h o h':=by
 have uC:=hE.apart;have hm:=hM.box;simp only[Aq]at hm;have um:=hu m (V.m_mem m);have e1:=AG um;have e2:=Al um;have hss:=hs.small;simp only[BM.small,AP,Ap]at hss;obtain⟨s1,s2,s3,s4⟩:=hss;have hl2:=HV (hM.sl 2 (by omega));simp only[A8,BI]at hl2;have uid:=uC id hE.own;have i1:=AG uid;replace hM:=AA.mk hM;replace hu:=AA.mk hu;replace hE:=AA.mk hE;replace hCV:=AA.mk hCV;replace hMV:=AA.mk hMV;replace hMu:=AA.mk hMu;replace uC:=AA.mk uC;replace hs:=AA.mk hs
 (refine Ah rfl Tryz.func52 rfl rfl rfl ?_;show Wp _ _ _ _ (Tryz.f52.body.get rfl) _ _;simp only[Tryz.f52,AS])
 (repeat' (first|simp only[go_sem, *,↓hl2,AM]|(refine sx ?_ ?_<;>intro hc)|refine sy (by omega) fun x hx hm=>?_|simp(disch:=first|assumption|omega) only[AJ]))
 have hW:AA (Cz p st.d9=Dp p st.d9 0 st.d9.waits++DY p st.d9 0 st.d9.bi):=⟨rfl⟩;obtain⟨G,hG⟩: ∃G,G=DY p st.d9 0 st.d9.bi:=⟨_,rfl⟩;rw[←hG]at hW;rw[hW.out]at hI;replace hI:=AA.mk hI;refine AY st.d9.waits _ (S:=fun m' i (a:AB×Nat)=>⟨[(0,.ptr m 0),(3,.ptr (0::0::π) 0),(13,Bm.get [] 13),(18,V.s 2),(19,.d (.int .i64 (m'))),(20,.d (.int .i64 (i))),(102,Bm.get [] 102),(103,Bm.get [] 103),(104,Bm.get [] 104),(105,Bm.get [] 105),(106,Bm.get [] 106),(107,Bm.get [] 107),(108,Bm.get [] 108),(109,Bm.get [] 109)],a.1,a.2+8,[]⟩)
  (Inv:=fun i rest a=>AA (StepsIn C M π h id (Fd I π M (a.2+8) (Dp p st.d9 i rest++G)) a.1)) (b0:=(_,0)) rfl ⟨⟨?_,⟨M,hE.out.same hI.out fun i hi=>?_,fun i hi=>.inl hi⟩,fun i q1 _ q2=>?_⟩⟩ ?_ ?_
 .simp only[go_sem]
 .have q:=AG (hi.elim (fun h=>h) (hMu.out i));simp only[go_sem,q,AM]
 .have q:=AG q2;simp only[go_sem,q,AM]
 .rintro i w ⟨g,b⟩ hy hi him hI2 IH;dsimp only at*;obtain⟨x,hw⟩:=PK hF (hs.out.wait w (Ac hy));have hM2:=Bf hM.out (h':=g) fun i hi=>hI2.out.frame i (hCV.out i hi) (hMV.out i hi) (hu.out i hi);obtain⟨W,xs,hWs,gW,xW,lW,lW2⟩:=JU (hM2.sl 2 (by omega)) hy;have uW:=hu.out W (V.s_mem m (i:=2) (by omega) (by rw[hWs];simp[AD]));have a3:=AG uW;have a4:=Al uW;have gB:=hI2.out.box;simp only[GQ]at gW;rw[hWs]at IH⊢;replace hM2:=AA.mk hM2;replace hWs:=AA.mk hWs;have hx2:=AA.mk hw;clear hw;have hgo:=AA.mk fun H hH=>s6 (EF hM2.out hu.out (h':=H) hH) (hu.out.ext (b+17)) hs.out hx2.out;have box0:=AA.mk hI2.out.box;obtain⟨M1,hIe,hM1⟩:=hI2.out.eat;have nt1:=AA.mk (Wq hMu.out hM1);have n1:=AA.mk (vI hM1);have nX:=AA.mk fun(m:Nat) (hm:b+8≤m)=>Tx hMu.out hM1 hm;have nz: ∀l,¬M1 (0::l):=fun l hl=>by obtain⟨l2,h2⟩:=hE.out.tag hIe _ hl;cases h2
  replace nz:=AA.mk nz;replace hM1:=AA.mk hM1;rw[Dp]at hIe;obtain⟨rest,hrest⟩: ∃t,t=Dp p st.d9 (i+1) (st.d9.waits.drop (i+1))++G:=⟨_,rfl⟩;have hI2f:=AA.mk hI2.out.frame;obtain⟨r,hr⟩:=hE.out.loop hIe;rw[EM,←hrest]at hIe;replace hIe:=AA.mk hIe;replace hrest:=AA.mk hrest;have i2:=EJ uid;refine ax ?_;refine DF (hgo.out _ fun i hi=>?_) (fun o1 g1 p1=>?_)
  .have q:=AG hi;simp only[go_sem,q,AM]
  subst p1;replace hI2:=AA.mk hI2;clear hgo;have same: ∀o o':Abs.Obj,∀i,Nt π i→((g.put (0::(b+12)::π) o).put (0::(b+12)::π) o').get i=g.get i:=fun o o' i hi=>by
   rw[get_put,get_put,hi];rfl
  replace same:=AA.mk same;cases hg:lc p st.d9 w with
  |true=>
   rw[hg]at hIe;replace hg:=AA.mk hg;refine ax ?_;refine AX (hE.out.eat (x:=⟨i,0,0,[]⟩) (l:=rest) (hE.out.same hIe.out fun i hi=>same.out _ _ i (nt1.out i hi)) (by rw[same.out _ _ _ (AG uid)];exact hr) ⟨_,rfl,.inl ⟨rfl,rfl⟩⟩ (fun i hi=>AF hi _) (nX.out _ (by omega)) (fun i hi=>by simp[AD,A5]at hi)) (fun o1 g1 p1=>?_);rcases p1 with⟨rfl,M2,p1,m2,p2⟩|⟨p0,p1,_⟩
   .have m3:AA (∀i,M2 i→M i∨LG π (b+23) i):=⟨fun i hi=>by
     rcases m2 i hi with q|q|q
     .exact(hM1.out i q).imp_right fun q=>q.mono (by omega)
     .simp[AD,A5]at q
     .exact .inr ⟨b+22,by omega,q⟩⟩
    have frm:AA (∀i,¬C i→ ¬M i→Id.under π i=false→(gc ((b+22)::π) g1).get i=h.get i):=⟨fun i q1 q0 q2=>by rw[Ab _ _ _ (AF q2 _),p2 i q1 (n1.out i q0 q2) (by simp[AD,A5]) (AF q2 _),same.out _ _ i (AG q2)];exact hI2f.out i q1 q0 q2⟩;have nC: ¬C (0::0::π):=fun hc=>by have:=uC.out _ hc;rw[show Id.under π (0::0::π)=true from Ag [0,0]]at this;cases this
    have box2:(gc ((b+22)::π) g1).get (0::0::π)=some (.box [.v6 id]):=by
     rw[Ab _ _ _ (AR π (by omega)),p2 _ nC (nz.out _) (by simp[AD,A5]) (AR π (by omega))];rw[get_put,get_put,AE (by simp)];exact box0.out
    clear p2 m2;replace box0:=AA.mk box2;replace p1:=AA.mk (hE.out.gcI p1 (b+22));refine ax ?_;refine IH.out (_,b+19) ⟨⟨box0.out,⟨M2,?_,fun i hi=>(m3.out i hi).imp_right fun q=>q.mono (by dsimp only;omega)⟩,frm.out⟩⟩;rw[←hrest.out];exact p1.out
   .replace p1:=AA.mk (hE.out.gcD p1 (b+22));rcases p0 with rfl|⟨v,rfl⟩
    .refine ax ?_;exact .inr (.inl ⟨rfl,p1.out⟩)
    .refine ax ?_;exact .inr (.inr ⟨⟨v,rfl⟩,p1.out⟩)
  |false=>
   rw[hg]at hIe;replace hg:=AA.mk hg;refine ax ?_;refine IH.out (_,b+19) ⟨⟨?_,⟨M1,?_,fun i hi=>(hM1.out i hi).imp_right fun q=>q.mono (by dsimp only;omega)⟩,fun i q1 q0 q2=>(same.out _ _ i (AG q2)).trans (hI2f.out i q1 q0 q2)⟩⟩
   .dsimp only;rw[get_put,get_put,AE (by simp)];exact box0.out
   .rw[←hrest.out];exact hE.out.same hIe.out fun i hi=>same.out _ _ i (nt1.out i hi)
 .rintro i ⟨g,b⟩ hi him hI2;dsimp only at*;have hM2:=Bf hM.out (h':=g) fun i hi=>hI2.out.frame i (hCV.out i hi) (hMV.out i hi) (hu.out i hi);have hm2:=hM2.box;simp only[Aq]at hm2;have gB:=hI2.out.box;have hl1:=HV (hM2.sl 1 (by omega));simp only[A8,BI]at hl1;replace hM2:=AA.mk hM2;rw[Dp,Gc,hG]at hI2;clear hI hW hG hl2 hi
  (repeat' (first|simp only[go_sem, *,↓hl1,AM]|(refine sx ?_ ?_<;>intro hc)|refine sy (by omega) fun x hx hm=>?_|simp(disch:=first|assumption|omega) only[AJ]))
  refine AY st.d9.bi _ (S:=fun m' i (a:AB×Nat×List Df)=>⟨[(0,.ptr m 0),(3,.ptr (0::0::π) 0),(13,Bm.get [] 13),(40,V.s 1),(41,.d (.int .i64 (m'))),(42,.d (.int .i64 (i))),(102,Bm.get [] 102),(103,Bm.get [] 103),(104,Bm.get [] 104),(105,Bm.get [] 105),(106,Bm.get [] 106),(107,Bm.get [] 107),(108,Bm.get [] 108),(109,Bm.get [] 109)],a.1,a.2.1+16,a.2.2⟩)
   (Inv:=fun i rest a=>AA (StepsIn C M π h id (Fd I π M (a.2.1+16) (DY p st.d9 i rest)) a.1)∧QC a.2.2) (b0:=(_,b,[])) rfl ⟨⟨⟨hI2.out.box,hI2.out.eat.mv hE.out hMu.out (fun _ _=>rfl) (by dsimp only;omega),hI2.out.frame⟩⟩,by rw[U1];trivial⟩ ?_ ?_
  .clear hM2 hm2 gB hl1 hI2;clear him i g;clear b;rintro i gr ⟨g,b,ds⟩ hy hi him ⟨hI2,hds⟩ IH;have b1: ¬b+1=b:=by omega
   have b3: ¬b=b+1:=by omega
   dsimp only at*;obtain⟨d,hd⟩:=hs.out.grp i gr hy;obtain⟨g0,hdd⟩:=Fv hd.eq;have hdl:=AH hdd;have hdr:=(CD hF hdd).ok.rules;have hM2:=Bf hM.out (h':=g) fun i hi=>hI2.out.frame i (hCV.out i hi) (hMV.out i hi) (hu.out i hi);have hm2:=hM2.box;simp only[Aq]at hm2;obtain⟨W,xs,hWs,gW,xW,lW,lW2⟩:=JU (hM2.sl 1 (by omega)) hy;have uW:=hu.out W (V.s_mem m (i:=1) (by omega) (by rw[hWs];simp[AD]));have a3:=AG uW;have a4:=Al uW;have gB:=hI2.out.box;simp only[GQ]at gW;rw[hWs]at IH⊢;replace hM2:=AA.mk hM2;replace hWs:=AA.mk hWs;replace hd:=AA.mk hd;refine ax ?_;have hg2:AA (DY p st.d9 i (gr::st.d9.bi.drop (i+1))=CV st.d9 d gr i 0 d.rules++DY p st.d9 (i+1) (st.d9.bi.drop (i+1))):=⟨by rw[DY,hd.out.eq]⟩;have same: ∀o1 o2 o3 o4:Abs.Obj,∀i,Nt π i→((((g.put (0::(b+20)::π) o1).put (0::(b+21)::π) o2).put (0::(b+20)::π) o3).put (0::(b+21)::π) o4).get i=g.get i:=fun o1 o2 o3 o4 i hi=>by
    rw[get_put,get_put,get_put,get_put,hi,hi];rfl
   obtain⟨R,hR⟩: ∃R,R=DY p st.d9 (i+1) (st.d9.bi.drop (i+1)):=⟨_,rfl⟩;rw[←hR]at hg2;rw[hg2.out]at hI2;refine AY d.rules _ (S:=fun m' k (a:AB×Nat×List Df)=>⟨[(0,.ptr m 0),(3,.ptr (0::0::π) 0),(6,.ptr (0::(b+20)::π) 0),(7,.ptr (0::(b+21)::π) 0),(13,Bm.get [] 13),(40,.em W 0 st.d9.bi.length),(41,.d (.int .i64 (st.d9.bi.length))),(42,.d (.int .i64 (i))),(56,.d (.be (d.rules.map Ay))),(57,.d (.int .i64 (m'))),(58,.d (.int .i64 (k))),(102,Bm.get [] 102),(103,Bm.get [] 103),(104,Bm.get [] 104),(105,Bm.get [] 105),(106,Bm.get [] 106),(107,Bm.get [] 107),(108,Bm.get [] 108),(109,Bm.get [] 109)],a.1,a.2.1+36,a.2.2⟩)
    (Inv:=fun k rest a=>AA (StepsIn C M π h id (Fd I π M (a.2.1+36) (CV st.d9 d gr i k rest++R)) a.1)∧a.1.get (0::(b+20)::π)=some (.box [.d (.int .i64 (i))])∧a.1.get (0::(b+21)::π)=some (.box [.d (.int .i64 (gr.eq)),.d (.int .i64 (gr.at_)),.d (.be (gr.env.map AL))])∧b≤a.2.1∧QC a.2.2) (b0:=(_,b,ds)) rfl ⟨⟨⟨?_,hI2.out.eat.mv hE.out hMu.out (fun i hi=>same _ _ _ _ i hi) (by dsimp only;omega),fun i q1 q0 q2=>(same _ _ _ _ i (AG q2)).trans (hI2.out.frame i q1 q0 q2)⟩⟩,?_,?_,EL _,hds⟩ ?_ ?_
   .dsimp only;rw[get_put,get_put,get_put,get_put,AE (by simp),AE (by simp)];exact gB
   .simp only[go_sem,b1,b3]
   .simp only[go_sem,b1,b3]
   .clear hg2 same hI2 hm2 gB gW a3 a4 xW lW lW2;clear hM2;clear hds ds;rintro k r ⟨g2,c,ds⟩ hr hk hkm ⟨hI3,x6,x7,hbc,hds⟩ IHk;dsimp only at*;have hri:=Q6 hF hs.out hy hd.out (Ac hr);have hM2:=Bf hM.out (h':=g2) fun i hi=>hI3.out.frame i (hCV.out i hi) (hMV.out i hi) (hu.out i hi);have hm2:=hM2.box;simp only[Aq]at hm2;have hl1:=HV (hM2.sl 1 (by omega));have r0:=hri.place.1;have r1:=hri.place.2;obtain⟨y,hyp⟩:=get_some (l:=st.d9.ac) (i:=(gr.place d r.at_).toNat) (by omega);obtain⟨S,ys,hSs,gS,xS,lS,lS2⟩:=JU (hM2.sl 0 (by omega)) hyp;have uS:=hu.out S (V.s_mem m (i:=0) (by omega) (by rw[hSs];simp[AD]));have a3:=AG uS;have a4:=Al uS;have c1: ¬c+1=c:=by omega
    have c0: ¬c=c+1:=by omega
    have hpl:=AA.mk fun(H:AB) (n:Nat) (hH:H.get m=g2.get m)=>Mn (ds:=p.defs) (g:=gr) (d:=d) (hH.trans hm2) (AF um n) g0 hdd (CD hF hdd).ok.am (CD hF hdd).ok.ac (MZ hd.out) (MY hF hd.out) r.at_ hri.at0 hri.at1;have c2: ¬c+20=b:=by omega
    have c3: ¬c+19=b:=by omega
    have c4: ¬c+21=b:=by omega
    have c5: ¬b=c+20:=by omega
    have c6: ¬b=c+19:=by omega
    have c7: ¬b=c+21:=by omega
    simp only[GQ]at gS;rw[hSs]at hm2;have same2: ∀o1 o2 o3 o4:Abs.Obj,∀i,Nt π i→((((g2.put (0::(c+40)::π) o1).put (0::(c+41)::π) o2).put (0::(c+40)::π) o3).put (0::(c+41)::π) o4).get i=g2.get i:=fun o1 o2 o3 o4 i hi=>by
     rw[get_put,get_put,get_put,get_put,hi,hi];rfl
    replace hM2:=AA.mk hM2;replace hri:=AA.mk hri;refine ax ?_;refine C2 (hpl.out _ _ ?_) (fun o1 g1 p1=>?_)
    .simp only[go_sem,e1,AM]
    subst p1;cases hyd:y.dead with
    |true=>
     have hz:AA (Fd I π M (c+36) (CV st.d9 d gr (i:Nat) (k+1) (d.rules.drop (k+1))++R) g2):=⟨by
      have:=hI3.out.eat
      rwa [CV,Ev,DO (by rw[AW,hyp];exact hyd),D4,Gc]at this⟩
     refine ax ?_;refine IHk.out (_,c+23,ds) ⟨⟨⟨?_,hz.out.mv hE.out hMu.out (fun i hi=>same2 _ _ _ _ i hi) (by dsimp only;omega),fun i q1 q0 q2=>(same2 _ _ _ _ i (AG q2)).trans (hI3.out.frame i q1 q0 q2)⟩⟩,?_,?_,by dsimp only;omega,hds⟩
     .dsimp only;rw[get_put,get_put,get_put,get_put,AE (by simp),AE (by simp)];exact hI3.out.box
     .simp only[go_sem,x6,c0,c1,c2,c3,c4,c5,c6,c7]
     .simp only[go_sem,x7,c0,c1,c2,c3,c4,c5,c6,c7]
    |false=>
     refine ax ?_;obtain⟨g3,hg3⟩: ∃g3,g3=((((g2.put (0::(c+40)::π) (.box [.d (.int .i64 (0))])).put (0::(c+41)::π) (.box [.d (.int .i64 (0)),.ci,.d (.int .i64 (0))])).put (0::(c+40)::π) (.box [.d (.int .i64 (k))])).put (0::(c+41)::π) (.box [.d (.int .i64 (r.at_)),.d (.be (r.d8.map AK)),.d (.int .i64 (r.node))])):=⟨_,rfl⟩;rw[←hg3];have hgs: ∀i,Nt π i→g3.get i=g2.get i:=fun i hi=>by rw[hg3];exact same2 _ _ _ _ i hi
     have hJ0:Vk C M π h id b c i k gr (Fd I π M (c+36) (CV st.d9 d gr i k (r::d.rules.drop (k+1))++R)) g3:=by
      refine⟨⟨?_,hI3.out.eat.mv hE.out hMu.out (fun i hi=>hgs i hi) (EL _),fun i q1 q0 q2=>(hgs i (AG q2)).trans (hI3.out.frame i q1 q0 q2)⟩,?_,?_,?_⟩;all_goals rw[hg3]
      .rw[get_put,get_put,get_put,get_put,AE (by simp),AE (by simp)];exact hI3.out.box
      .simp only[go_sem,x6,c0,c1,c2,c3,c4,c5,c6,c7]
      .simp only[go_sem,x7,c0,c1,c2,c3,c4,c5,c6,c7]
      .simp only[go_sem,c0,c1,c2,c3,c4,c5,c6,c7]
     have hpick:AA (Ev st.d9 d gr r=Ds (B7 st.d9 d gr r)):=⟨by rw[Ev,CS (by rw[AW,hyp,El,F5,hyd];simp)]⟩;clear hgs same2 hm2 hl1 gS xS lS lS2 a3 a4 hyp hI3 x6 x7 hg3 hpl hSs hyd;clear hM2;refine AY r.d8 _ (S:=fun m' j (a:(AV×AB)×Nat)=>⟨[(0,.ptr m 0),(3,.ptr (0::0::π) 0),(6,.ptr (0::(b+20)::π) 0),(7,.ptr (0::(b+21)::π) 0),(8,.ptr (0::(c+40)::π) 0),(10,a.1.1),(13,Bm.get [] 13),(40,.em W 0 st.d9.bi.length),(41,.d (.int .i64 (st.d9.bi.length))),(42,.d (.int .i64 (i))),(56,.d (.be (d.rules.map Ay))),(57,.d (.int .i64 (d.rules.length))),(58,.d (.int .i64 (k))),(77,.d (.be (r.d8.map AK))),(78,.d (.int .i64 (m'))),(79,.d (.int .i64 (j))),(102,Bm.get [] 102),(103,Bm.get [] 103),(104,Bm.get [] 104),(105,Bm.get [] 105),(106,Bm.get [] 106),(107,Bm.get [] 107),(108,Bm.get [] 108),(109,Bm.get [] 109)],a.1.2,a.2+62,ds⟩)
      (Inv:=fun j rest a=>AA (Vk C M π h id b c i k gr (Fd I π M (c+36) (CV st.d9 d gr i k (r::d.rules.drop (k+1))++R)) a.1.2)∧c≤a.2∧AA ((j=0∧a.1.1=.ci)∨ ∃n,0<j∧n<a.2+62∧a.1.1=.em (1::n::π) 0 j∧a.1.2.get (1::n::π)=some (.co 1 (((r.d8.take j).map fun q=>((Tl st.d9 (gr.own d true q):Nat):Int)).map AK)))) (b0:=((_,_),c)) rfl ⟨⟨hJ0⟩,EL _,⟨.inl ⟨rfl,rfl⟩⟩⟩ ?_ ?_
     .clear hJ0 IHk g2 g3;rintro j q ⟨⟨v,g4⟩,e⟩ hq hj hjm ⟨hJ,hce,hv⟩ IHj;dsimp only at*;obtain⟨q0,q1,o0,ch,hch,ch12,hql⟩:=hri.out.join q (Ac hq);have hM2:=Bf hM.out (h':=g4) fun i hi=>hJ.out.st.frame i (hCV.out i hi) (hMV.out i hi) (hu.out i hi);have hm2:=hM2.box;simp only[Aq]at hm2;obtain⟨qv,hrow,hqs⟩:=hM2.am.row _ _ hch;have hlq:=HV hqs;rw[BI]at hlq;have hA:=hM2.arr;rcases hA with⟨_,hA⟩|⟨A,hA,gA⟩
      .rw[hA]at hrow;simp at hrow
      have lA:=AH hrow;have uA:=hu.out A (V.v3_mem m (by rw[hA];simp[AD]));have a3:=AG uA;have a4:=Al uA;rw[hA]at hm2;have x7:=hJ.out.x7;simp only[A3]at hrow;have hown:=AA.mk fun(H:AB) (n:Nat) (hH:H.get m=g4.get m)=>Wx (ds:=p.defs) (g:=gr) (d:=d) (hH.trans hm2) (AF um n) g0 hdd (CD hF hdd).ok.am (CD hF hdd).ok.ac (MZ hd.out) (MY hF hd.out) true q q0 (by simpa using q1);have ht:AA (((r.d8.take (j+1)).map fun q=>((Tl st.d9 (gr.own d true q):Nat):Int))=((r.d8.take j).map fun q=>((Tl st.d9 (gr.own d true q):Nat):Int))++[(ch.queue.length:Int)]):=⟨by rw[Is,hq];simp[hql]⟩;replace hql:=AA.mk hql;replace hM2:=AA.mk hM2;replace hqs:=AA.mk hqs;rcases hv.out with⟨rfl,rfl⟩|⟨n,hj0,hn,rfl,hg⟩
      .clear hv;have hj0:(0:Int)<r.d8.length:=hjm
       (repeat' (first|simp only[go_sem, *,↓hlq,AM]|(refine sx ?_ ?_<;>intro hc)|refine sy (by omega) fun x hx hm=>?_|simp(disch:=first|assumption|omega) only[AJ]))
       refine C2 (hown.out _ _ rfl) (fun o1 g1 p1=>?_);subst p1
       (repeat' (first|simp only[go_sem, *,↓hlq,AM]|(refine sx ?_ ?_<;>intro hc)|refine sy (by omega) fun x hx hm=>?_|simp(disch:=first|assumption|omega) only[AJ]))
       refine IHj.out ((_,_),e+23) ⟨⟨hJ.out.loc hE.out hMu.out fun x hx=>?_⟩,by dsimp only;omega,⟨.inr ⟨e+81,by omega,by dsimp only;omega,rfl,?_⟩⟩⟩
       .dsimp only;rw[get_put,get_put,hx,hx];rfl
       .rw[ht.out];simp only[go_sem,List.take_zero,D4,Gc]
      .clear hv;obtain⟨L,hL⟩: ∃L,L=(r.d8.take j).map fun q=>((Tl st.d9 (gr.own d true q):Nat):Int):=⟨_,rfl⟩;have d0:L.length=j:=by rw[hL,BI,IP];omega
       have d1:List.take j (L.map AK)=L.map AK:=DL (by simp;omega);have d2:j+1≤4:=by have:=hri.out.j1;omega
       have d3: ¬e+80=n:=by omega
       have d4: ¬n=e+80:=by omega
       have d5: ¬e+81=n:=by omega
       have d6: ¬n=e+81:=by omega
       rw[←hL]at ht hg;replace hL:=AA.mk hL
       (repeat' (first|simp only[go_sem, *,↓hlq,AM]|(refine sx ?_ ?_<;>intro hc)|refine sy (by omega) fun x hx hm=>?_|simp(disch:=first|assumption|omega) only[AJ]))
       refine C2 (hown.out _ _ rfl) (fun o1 g1 p1=>?_);subst p1
       (repeat' (first|simp only[go_sem, *,↓hlq,AM]|(refine sx ?_ ?_<;>intro hc)|refine sy (by omega) fun x hx hm=>?_|simp(disch:=first|assumption|omega) only[AJ]))
       refine IHj.out ((_,_),e+23) ⟨⟨hJ.out.loc hE.out hMu.out fun x hx=>?_⟩,by dsimp only;omega,⟨.inr ⟨e+81,by omega,by dsimp only;omega,rfl,?_⟩⟩⟩
       .dsimp only;rw[get_put,get_put,get_put,hx,hx,hx];rfl
       .rw[ht.out];simp only[go_sem,D0,d3,d4,d5,d6]
     .clear hJ0;rintro j ⟨⟨v,g4⟩,e⟩ hj hjm ⟨hJ,hce,hv⟩;dsimp only at*;rcases hv.out with⟨rfl,rfl⟩|⟨n,hj0,hn,rfl,hg⟩
      .exact absurd hri.out.j0 (by have:=hj.out;omega)
      have hmany:AA (((r.d8.take j).map fun q=>((Tl st.d9 (gr.own d true q):Nat):Int))=(B7 st.d9 d gr r).map fun(n:Nat)=>(n:Int)):=⟨by rw[hj.out,Em,B7,List.map_map];rfl⟩;rw[hmany.out]at hg;have hlen:(B7 st.d9 d gr r).length=j:=by rw[B7,BI,hj.out]
      obtain⟨many,hmn⟩: ∃many,many=B7 st.d9 d gr r:=⟨_,rfl⟩;rw[←hmn]at hg hlen;have tk:List.take j ((many.map fun(n:Nat)=>(n:Int)).map AK)=(many.map fun(n:Nat)=>(n:Int)).map AK:=DL (by simp;omega);have hch:=Xw (many.map fun(n:Nat)=>(n:Int)) (e+64) π;have jl:j≤many.length:=by omega
      replace hlen:=AA.mk hlen;replace hmn:=AA.mk hmn;replace hmany:=AA.mk hmany;clear hv;refine ax ?_;refine nP fun r0 hr0=>?_;have nC: ∀n,¬C (0::n::π):=fun n hc=>by have:=uC.out _ hc;rw[show Id.under π (0::n::π)=true from Ag [0,n]]at this;cases this
      obtain⟨I',hI'⟩: ∃I':List (List Int)→(Abs.Id→Prop)→AB→Prop,I'=fun l M2 g=>(Vk C M π h id b c i k gr (I ((l.map fun t=>⟨-1,i,k,t⟩)++(CV st.d9 d gr i (k+1) (d.rules.drop (k+1))++R)) M2) g∧ ∀i,M2 i→M i∨LG π (e+67) i)∧g.get (0::(e+65)::π)=some (.loop r0):=⟨_,rfl⟩;obtain⟨D',hD'⟩: ∃D':Ae→AB→Prop,D'=fun o g=>(o=.ret (.d (.bool (false)))∧D (.ret (.d (.bool (false)))) g∧g.get (0::(e+65)::π)=some (.loop {r0 with state:=.done,rt:=some .ret}))∨((∃v,o=.f9 v)∧D o g):=⟨_,rfl⟩
      have hE2:LF qN (0::(e+65)::π) (fun i=>C i∨i=0::(e+65)::π) I' D' ((e+66)::π):=by
       refine⟨.inr rfl,fun i hi=>?_,fun hI=>?_,fun hI=>?_,fun{x l M2 H ρ v r} hI hr hv hρ hMρ hid=>?_,fun hI hs=>?_,fun hD hs=>?_⟩
       .rcases hi with hi|rfl
        .exact AF (uC.out i hi) _
        .exact AR π (by omega)
       .rw[hI']at hI;exact hE.out.tag hI.1.1.st.eat
       .rw[hI']at hI;exact⟨_,hI.2⟩
       .rw[hI']at hI;obtain⟨⟨hJ,hm2⟩,hlo⟩:=hI;rw[hlo]at hr;cases hr;have nz: ∀l,¬M2 (0::l):=fun l hl=>by obtain⟨l2,h2⟩:=hE.out.tag hJ.st.eat _ hl;cases h2
        have nt2:=AA.mk (Wq hMu.out hm2);have nn2:=AA.mk (vI hm2);replace nz:=AA.mk nz;replace hm2:=AA.mk hm2;replace hMρ:=AA.mk hMρ;obtain⟨idx,rfl,hga,lx,rfl⟩:=hv;rw[D8,FN]at hJ;have hidx:=hid (1::lx) (by simp[AD]);have bx0:=hJ.st.box;have bx6:=hJ.x6;have bx8:=hJ.x8;obtain⟨r2,hr2⟩:=hE.out.loop hJ.st.eat;have n1: ¬e+65=b+20:=by omega
        have n2: ¬e+65=c+40:=by omega
        have hE3:=AA.mk fun(H':AB) (q: ∀i,Nt π i→H'.get i=H.get i)=>hE.out.same hJ.st.eat fun i hi=>q i (nt2.out i hi);have u2:Id.under ρ (0::(e+65)::π)=false:=hρ _ (AR π (by omega));replace hJ:=AA.mk hJ;replace hρ:=AA.mk hρ;subst hr0;refine GN rfl ?_;clear hid;replace hI':=AA.mk hI';replace hD':=AA.mk hD';refine ax ?_;refine AX (hE.out.eat (hE3.out _ fun i hi=>?_) (by simp only[go_sem,i1,hr2,AM]) ⟨_,rfl,.inr ⟨1::lx,rfl,?_,lx,rfl⟩⟩ (fun i hi=>AF (hρ.out i (AF hi _)) _) (fun i hi=>AF (hMρ.out i hi) _) (fun i hi=>?_)) (fun o1 g1 p1=>?_)
        .have q:=hi;rw[Nt]at q;simp only[go_sem,q,AM]
        .rw[get_put,AE (by simp)];exact hga
        .simp only[AD,A5,Gc,D9,As]at hi;subst hi;exact⟨fun hc=>hidx.1 (.inl hc),AF hidx.2.1 _,hidx.2.2.out⟩
        have hb0: ∀n,¬n=e+65→ ¬n=e+66→ ∀o,(H.put (0::(e+65)::π) o).get (0::n::π)=H.get (0::n::π):=fun n q1 q2 o=>by rw[get_put,AE (by simp;omega)];rfl
        rcases p1 with⟨rfl,M3,p1,m3,p2⟩|⟨p0,p1,p2⟩
        .have glo:=(Ab (6::ρ) g1 _ (AF u2 _)).trans (p2 _ (nC _) (nz.out _) (by simp[AD,A5]) (AF u2 _));replace m3:=AA.mk m3;rw[get_put,is_self]at glo;replace p1:=AA.mk p1;replace p2:=AA.mk p2;refine ax ?_;have fr: ∀o,∀i,¬C i→ ¬M2 i→ ¬i=1::lx→ ¬i=0::(e+65)::π→Id.under ρ i=false→((gc (6::ρ) g1).put (0::(e+65)::π) o).get i=H.get i:=fun o i q1 q0 qv q2 q3=>by
          rw[get_put,AE (fun e=>q2 e.symm),Ab _ _ _ (AF q3 _),p2.out i q1 q0 (by simpa[AD,A5]using qv) (AF q3 _),get_put,AE (fun e=>q2 e.symm)];rfl
         refine .inl ⟨rfl,M3,?_,fun i2 hi2=>?_,fun i2 q1 q0 qv q2=>?_⟩
         rotate_left
         .rcases m3.out i2 hi2 with q|q|q
          .exact .inl q
          .exact .inr (.inl (by simpa[AD,A5]using q))
          .exact .inr (.inr q.out)
         rotate_left
         .rw[hI'.out];refine⟨⟨hJ.out.mv ?_ (fun n hn=>fr _ _ (nC n) (nz.out _) (by simp) (by simp;omega) (hρ.out _ (AR π (by omega)))) fun i q1 q0 q2=>fr _ _ q1 (nn2.out i q0 q2) (fun e=>by rw[e,hidx.2.2.out.up]at q2;cases q2) (fun e=>by rw[e,show Id.under π (0::_::π)=true from Ag [0,_]]at q2;cases q2) (hρ.out _ (AF q2 _)),fun i hi=>?_⟩,?_⟩
          .refine hE.out.same p1.out fun i hi=>?_;rcases hi with hi|hi
           .have q:=AG hi;rw[get_put,q,Ab _ _ _ (AF (hρ.out _ (AF hi _)) _)];rfl
           .obtain⟨l2,rfl⟩:=hE.out.tag p1.out i hi;rw[get_put,AE (by simp),E2];rfl
          .rcases m3.out i hi with q|q|q
           .exact hm2.out i q
           .simp only[AD,A5,Gc,D9,As]at q;subst q;exact .inr ⟨e+66,by omega,hidx.2.2⟩
           .exact .inr ⟨e+66,by omega,q.out.wide hρ.out⟩
          .rw[get_put,is_self];rfl
         .exact fr _ i2 (fun h=>q1 (.inl h)) q0 (by simpa[AD]using qv) (fun h=>q1 (.inr h)) q2
        .have glo:=(Ab (6::ρ) g1 _ (AF u2 _)).trans (p2 _ (Ag [0,e+65]) (AF u2 _));rw[get_put,is_self]at glo;have kp: ∀j,Id.under ((e+66)::π) (0::j)=true→Id.under ρ (0::j)=false→(gc (6::ρ) g1).get (0::j)=H.get (0::j):=fun i q1 q2=>by
          have q3:Id.is (0::(e+65)::π) (0::i)=false:=AE fun e3=>by rw[←e3,AR π (by omega)]at q1;cases q1
          rw[Ab _ _ _ (AF q2 _),p2 i (BR q1) (AF q2 _),get_put,q3];rfl
         have sD:=hE.out.sameD (H':=gc (6::ρ) g1) p1 fun i hi=>by
          rcases hi with hi|⟨l,rfl⟩
          .exact Ab _ _ _ (AF (hρ.out _ (AF hi _)) _)
          .exact E2 _ _ _
         replace kp:=AA.mk kp;replace sD:=AA.mk sD;clear p1 p2;rcases p0 with rfl|⟨v,rfl⟩
         .refine ax ?_;refine .inr ⟨.inl rfl,?_,fun i q1 q2=>?_⟩
          .rw[hD'.out];refine .inl ⟨rfl,hE.out.sameD sD.out fun i hi=>?_,by rw[get_put,is_self];rfl⟩;rw[get_put,show Id.is (0::(e+65)::π) i=false by
            rcases hi with hi|⟨l,rfl⟩
            .exact AG hi _ _
            .exact AE (by simp)]
           rfl
          .rw[get_put,AE fun e3=>by rw[←e3,AR π (by omega)]at q1;cases q1];exact kp.out i q1 q2
         .refine ax ?_;exact .inr ⟨.inr ⟨v,rfl⟩,by rw[hD'.out];exact .inr ⟨⟨v,rfl⟩,sD.out⟩,kp.out⟩
       .rw[hI']at hI⊢;obtain⟨⟨hJ,hm2⟩,hlo⟩:=hI;have u0: ∀n,¬n=e+66→Id.under ((e+66)::π) (0::n::π)=false:=fun n hn=>AR π hn;exact⟨⟨hJ.mv (hE.out.same hJ.st.eat fun i hi=>hs i (hi.imp_left fun hi=>AF hi _)) (fun n hn=>hs _ (.inl (u0 n (by omega)))) fun i q1 _ q2=>hs i (.inl (AF q2 _)),hm2⟩,(hs _ (.inl (u0 _ (by omega)))).trans hlo⟩
       .rw[hD']at hD⊢;have key: ∀o,D o _→D o _:=fun o hd=>hE.out.sameD hd fun i hi=>hs i (hi.imp_left fun hi=>AF hi _);rcases hD with⟨h1,h2,h3⟩|⟨h1,h2⟩
        .exact .inl ⟨h1,key _ h2,(hs _ (.inl (AR π (by omega)))).trans h3⟩
        .exact .inr ⟨h1,key _ h2⟩
      obtain⟨M4,hI4,hM4⟩:=hJ.out.st.eat;have nt4:=Wq hMu.out hM4;have tg4:=hE.out.tag hI4;have ap4:=fun(m:Nat) (hm:c+36≤m)=>Tx hMu.out hM4 hm;replace nt4:=AA.mk nt4;replace tg4:=AA.mk tg4;replace ap4:=AA.mk ap4;have hst:I' (Ds many) M4 ((0::0::(e+64)::π,Abs.Obj.box [.d (.be ((many.map fun(n:Nat)=>(n:Int)).map AK))])::(g4.put (1::n::π) (Obj.it 1 ((many.map fun(n:Nat)=>(n:Int)).map AK))).put (0::(e+65)::π) (.loop r0)):=by
       have q0: ∀i,Id.is (1::n::π) i=false→Id.is (0::(e+65)::π) i=false→Id.is (0::0::(e+64)::π) i=false→ ∀o o1 o2,AB.get ((0::0::(e+64)::π,o)::(g4.put (1::n::π) o1).put (0::(e+65)::π) o2) i=g4.get i:=fun i q1 q2 q3 o o1 o2=>by
        rw[Bd,q3,get_put,q2,get_put,q1];rfl
       rw[hI'];refine⟨⟨hJ.out.mv (hE.out.same (by
        have:=hI4;rw[CV,hpick.out,←hmn.out,EM]at this;exact this) fun i hi=>?_) (fun n2 hn2=>?_) fun i _ _ hi=>?_,fun i hi=>(hM4 i hi).imp_right fun q=>q.mono (by omega)⟩,?_⟩
       .refine q0 i (nt4.out i hi _ _) (nt4.out i hi _ _) ?_ _ _ _;rcases hi with hi|hi
        .exact AG (AF hi _) _ _
        .obtain⟨l2,rfl⟩:=tg4.out i hi;exact AE (by simp)
       .exact q0 _ (AE (by simp)) (AE (by simp;omega)) (AE (by simp)) _ _ _
       .exact q0 i (AG hi _ _) (AG hi _ _) (AG (AF hi _) _ _) _ _ _
       .rw[Bd,AE (by simp),get_put,is_self];rfl
      have m0:0<many.length:=by have:=hlen.out;omega
      have m1:many.length≤1000:=by have:=hlen.out;have:=hj.out;have:=hri.out.j1;omega
      refine Qb (bU m0 m1 (fun n hn=>?_) hE2 (B:=0::0::(e+64)::π) ?_ ?_ ?_ (fun hb=>?_) (ap4.out _ (by omega)) hst) (fun o1 g5 p1=>?_)
      .rw[hmn.out,B7]at hn;obtain⟨q,hq,rfl⟩:=F0.1 hn;obtain⟨_,_,_,ch,_,h12,hql⟩:=hri.out.join q hq;rw[hql];omega
      .rw[Bd,is_self];rfl
      .cases hx:Id.under ((e+66)::π) (0::0::(e+64)::π)with
       |false=>rfl
       |true=>
        have:=Bg hx (n':=e+64) (under_iff.2 ⟨[0,0],rfl⟩);omega
      .rintro(hc|hc)
       .have:=uC.out _ hc;rw[show Id.under π (0::0::(e+64)::π)=true from Ag [0,0,e+64]]at this;cases this
       .simp at hc
      .obtain⟨l2,h2⟩:=tg4.out _ hb;cases h2
      rcases p1 with⟨rfl,M5,p1,m5,p2⟩|⟨rfl,p1⟩|⟨⟨v,rfl⟩,p1⟩
      .clear m5 hI4 hM4;rw[hI']at p1;have glo:=p1.2;replace p1:=AA.mk p1;replace p2:=AA.mk p2;replace hI':=AA.mk hI';replace hD':=AA.mk hD';clear hst;clear hE2;subst hr0;refine ax ?_;have hJ5:=p1.out.1.1;have gg: ∀i,Id.under ((e+65)::π) i=false→Id.under ((e+66)::π) i=false→(gc ((e+65)::π) (gc ((e+66)::π) g5)).get i=g5.get i:=fun i q1 q2=>by rw[Ab _ _ _ q1,Ab _ _ _ q2]
       have gb: ∀n,n≤c+40→(gc ((e+65)::π) (gc ((e+66)::π) g5)).get (0::n::π)=g5.get (0::n::π):=fun n hn=>gg _ (AR π (by omega)) (AR π (by omega));refine IHk.out (_,e+33,_) ⟨⟨⟨(gb _ (by omega)).trans hJ5.st.box,⟨M5,hE.out.gcI (hE.out.gcI hJ5.st.eat _) _,fun i hi=>(p1.out.1.2 i hi).imp_right fun q=>q.mono (by dsimp only;omega)⟩,fun i q1 q0 q2=>(gg i (AF q2 _) (AF q2 _)).trans (hJ5.st.frame i q1 q0 q2)⟩⟩,(gb _ (by omega)).trans hJ5.x6,(gb _ (by omega)).trans hJ5.x7,by dsimp only;omega,by rw[SX];exact hds⟩
      .rw[hD']at p1;rcases p1 with⟨_,p1,glo⟩|⟨⟨v,hv⟩,_⟩
       .replace p1:=AA.mk p1;replace hI':=AA.mk hI';replace hD':=AA.mk hD';clear hst;clear hE2;subst hr0;refine ax ?_;exact .inr (.inl ⟨rfl,hE.out.gcD (hE.out.gcD p1.out _) _⟩)
       .cases hv
      .rw[hD']at p1;rcases p1 with⟨hv,_⟩|⟨_,p1⟩
       .cases hv
       .replace p1:=AA.mk p1;refine ax ?_;exact .inr (.inr ⟨⟨v,rfl⟩,hE.out.gcD (hE.out.gcD p1.out _) _⟩)
   .rintro k ⟨g2,c,ds⟩ hr hkm ⟨hI3,x6,x7,hbc,hds⟩;dsimp only at*;have h3:=hI3.out;rw[CV,Gc]at h3;replace h3:=AA.mk h3;refine ax ?_;refine IH.out (_,c+23,_) ⟨⟨?_⟩,hds⟩;rw[←hR];exact⟨h3.out.box,h3.out.eat.mv hE.out hMu.out (fun _ _=>rfl) (by dsimp only;omega),h3.out.frame⟩
  .rintro i ⟨g,b2,ds⟩ hi him2 ⟨hI2,hds⟩;dsimp only at*;rw[DY]at hI2;refine ax ?_;obtain⟨M1,h1,h2⟩:=hI2.out.eat;exact .inl ⟨rfl,M1,h1,fun i hi=>(h2 i hi).imp_right fun q=>q.up,hI2.out.frame⟩
end Go.Proofs
namespace Go.Proofs
open Go Go.Abs
set_option maxRecDepth 100000
set_option maxHeartbeats 4000000
structure Qs(p:AI)(sz:List Int)(π:List Nat)(m:Abs.Id)(V:MV)(h:AB)(st:CK)(d:Bq)(g:Ao)(r:Fi)(t:List Int)(j b:Nat)(v:AV)(H:AB)(V':MV)(s':BM)(L:List CT):Prop where
 run:CU p sz π m V h b V' ⟨s',st.ev,0⟩ H
 env:N4 π H b v L
 out: ∀i∈AD v,i∉V'.ids m
 ne:L=[]→v=.ci
 rc:E6 p sz s'
 all:BO d g r.d8 t st.d9=(L++(BO d g (r.d8.drop j) (t.drop j) s').1,(BO d g (r.d8.drop j) (t.drop j) s').2)
 bi:s'.bi=st.d9.bi
 ac:s'.ac=st.d9.ac
 nc:s'.am.length=st.d9.am.length
 rest: ∀(i:Nat) c k,j≤i→r.d8[i]? =some c→t[i]? =some k→0≤k∧ ∃q,s'.am[(g.own d true c).toNat]? =some q∧k.toNat<q.queue.length∧q.queue.length≤12∧EE p s' q=((d.am[c.toNat]?).map Hb.many).getD 0
 len:L.length≤30*j
variable{p:AI}{sz:List Int}{n a:Nat}{q:GR}{msg:List CT}
theorem iG{s:BM}{d:Bq}{c:Int}(hd:N2 d)(hs:E6 p sz s)(hq:s.am[n]? =some q)(hmsg:q.queue[a]? =some msg)(hm:EE p s q=((d.am[c.toNat]?).map Hb.many).getD 0):msg.length≤3:=by
 have h1:=(hs.que _ q hq).msgs msg (Ac hmsg);simp only[E3,AP,Ap]at h1;rw[hm]at h1;cases hc:d.am[c.toNat]? with
 |none=>
  rw[hc]at h1;simp only[Option.map_none,Option.getD_none]at h1;omega
 |some ch=>
  rw[hc]at h1;have h2:=(hd.chan ch (Ac hc)).2.2;have h3:=h1.1;simp only[El,F5]at h3;omega
variable{π:List Nat}{m:Abs.Id}{V V':MV}{h g H:AB}{b:Nat}{st:CK}
theorem CU.oth(hr:CU p sz π m V h b V' st g){x:Abs.Id}(hx:x∉V'.ids m)(hxu:Id.under π x=true)(hl: ∀id,id≠x→H.get id=g.get id):CU p sz π m V h b V' st H:=
 ⟨Bf hr.rep fun id hid=>hl id fun e=>hx (e▸hid),hr.ids,fun id h1 h2=>by rw[hl id fun e=>by rw[e,hxu]at h2;cases h2];exact hr.frame id h1 h2⟩
theorem CU.new(hu:CC π V m)(hr:CU p sz π m V h b V' st g)(a n:Nat)(hn:b≤n):a::n::π∉V'.ids m:=fun hh=>by
 have:=FQ (b':=0) hu (hr.ids _ hh) a n hn;rw[is_self]at this;cases this
variable{b':Nat}
theorem JL{id:Abs.Id}(h:Hq b b' π id=false)(h1:b≤n)(h2:n<b'):Id.under (n::π) id=false:=by
 cases hx:Id.under (n::π) id with
 |false=>rfl
 |true=>have:=JK.2 ⟨n,h1,h2,hx⟩;rw[h]at this;cases this
theorem fP{d:Bq}{g:Ao}{r:Fi}{t:List Int}{j:Nat}{v:AV}{s':BM}{L:List CT}(hR:Qs p sz π m V h st d g r t j b v H V' s' L)(hu:CC π V m)(hd:N2 d){c:Int}{A Q:Abs.Id}(hc:r.d8[j]? =some c)(hk:t[j]? =some (a:Int))(hq:s'.am[(g.own d true c).toNat]? =some q)(hmsg:q.queue[a]? =some msg)(hm:EE p s' q=((d.am[c.toNat]?).map Hb.many).getD 0)
 (hA:V'.v3=.em A 0 V'.rows.length) (hrow:V'.rows[(g.own d true c).toNat]? =some (A3 q (.em Q 0 q.queue.length))) (hdi: ∀i c2,j<i→r.d8[i]? =some c2→(g.own d true c2).toNat≠(g.own d true c).toNat) {b1:Nat} (hb:b1≤b') (v':AV) (H2 G:AB) (hrun:CU p sz π m V h b1 V' ⟨s',st.ev,0⟩ H2) (a1:G.get m=H2.get m) (a0:G.get A=some (.arr 4 (V'.rows.set (g.own d true c).toNat (A3 q (.em Q 0 (q.queue.length-1)))))) (a2: ∃y,G.get Q=some (.co 1 ((q.queue.map BW).take a++(q.queue.map BW).drop (a+1)++y)))
 (a4: ∀id,Id.is m id=false→Id.is A id=false→Id.is Q id=false→Hq b1 b' π id=false→G.get id=H2.get id) (he:N4 π G b' v' (L++msg)) (ho: ∀i∈AD v',i∉V'.ids m∧Hq b1 b' π i=false) (hz:L++msg=[]→v'=.ci): ∃V2 s2 L2,Qs p sz π m V h st d g r t (j+1) b' v' G V2 s2 L2:=by
 have hkq:=AH hmsg;have hel:(CN q.queue a).length=q.queue.length-1:=Ud (by simpa using hkq);have hem:(CN q.queue a).map BW=(q.queue.map BW).take a++(q.queue.map BW).drop (a+1):=by rw[CN,D0,S1,TO];rfl
 have hS:K9 G 1 (.em Q 0 (q.queue.length-1)) ((CN q.queue a).map BW):=by
  obtain⟨y,hy⟩:=a2;exact .inr ⟨Q,y,by rw[BI,hel],by rw[hem];exact hy⟩
 obtain⟨V2,z1,z2⟩:=hrun.step (b':=b') hb (So hrun.rep (hrun.apartB hu) hA hq hrow (CN q.queue a) (.em Q 0 (q.queue.length-1)) G (a1.trans hrun.rep.box) a0 hS (.inl rfl) (fun id b1 b2 b3 b4=>a4 id b1 b2 (b3 Q (by simp[AD])) b4));obtain⟨t1,t2,t3,t4,t5⟩:=aY hR.rc hq (k:=a) (by simpa using hkq);have e:FU s' (g.own d true c) a=(msg,{s' with am:=s'.am.set (g.own d true c).toNat {q with queue:=CN q.queue a}}):=by rw[FU,hq];simp[hmsg]
 rw[e]at t1 t2 t3 t4 t5;have hml:=iG hd hR.rc hq hmsg hm;refine⟨V2,_,L++msg,z1,he,fun i hi=>z2 i (ho i hi).1 (ho i hi).2,hz,t1,?_,t2.bi.trans hR.bi,t2.ac.trans hR.ac,t2.len.trans hR.nc,fun i c2 k2 hi e1 e2=>?_,by have:=hR.len;rw[CI];omega⟩
 .rw[hR.all,AO hc,AO hk,BO,e,EM]
 .obtain⟨f1,q2,f2,f3,f4,f5⟩:=hR.rest i c2 k2 (by omega) e1 e2;refine⟨f1,q2,by rw[t5 _ (hdi i c2 (by omega) e1)];exact f2,f3,f4,?_⟩;rw[←f5,EE,EE,t2.bi]
theorem wj(d:Bq)(g:Ao)(ks:List Int)(s:BM):BO d g [] ks s=([],s):=by
 rw[BO];intro c cs k ks e;cases e
theorem CU.locU(hu:CC π V m)(hr:CU p sz π m V h b V' st g)(hl: ∀id,(∀n,b≤n→Id.under (n::π) id=false)→H.get id=g.get id):CU p sz π m V h b V' st H:=
 ⟨Bf hr.rep fun id hid=>hl id fun n hn=>hr.apart hu hn id hid,hr.ids,fun id h1 h2=>by rw[hl id fun n _=>AF h2 n];exact hr.frame id h1 h2⟩
theorem OG(hF:BD p sz)(hu:CC π V m)(hr:CU p sz π m V h b V' st g)(hI:PN p sz 401 st){j:Ga}(hj:Cl p sz st.d9 j)(H:AB)(n:Nat)(hn:b≤n)(hl: ∀id,(∀k,b≤k→Id.under (k::π) id=false)→H.get id=g.get id):
 ∃o g1,KL Tryz.prog cfg (.fn 66) [.ptr m 0,.d (.int .i64 (j.node)),.d (.int .i64 (j.at_)),.d (.be (j.env.map AL))] H (n::π) true none=.ok (o,g1)∧FL p sz π m V h (Fb p 401 j st) o (gc (n::π) g1)∧(o=.ret (.ge [])∨o=.f9 (CL 3)):=by
 have hr2:=hr.locU hu hl;obtain⟨o,g1,e1,e2⟩:=Qv hF 401 H (n::π) m V' st j hr2.rep (hr2.apart hu hn) hI.rc hj hI.w0 hI.w1 hI.w2 hI.ev;refine⟨o,g1,e1,?_⟩;cases hd:Fb p 401 j st with
 |none=>rw[hd]at e2;exact⟨hr2.f9 hu hn e2,.inr e2.1⟩
 |some st2=>
  rw[hd]at e2;obtain⟨V2,h2,_⟩:=hr2.call hu hn e2;obtain⟨rfl,_⟩:=e2;exact⟨h2.fin,.inl rfl⟩
theorem vw{p:AI}{sz:List Int}(hF:BD p sz){h:AB}{π:List Nat}{m:Abs.Id}{V:MV}{st:CK}(hM:Dq p sz h m V st)(hu:CC π V m)(hs:E6 p sz st.d9){i k:Nat}{g:Ao}{d:Bq}{r:Fi}{t:List Int}(h1:st.d9.bi[i]? =some g)(h2:p.def? g.eq=some d)(h3:d.rules[k]? =some r)(h4:AW st.d9.ac (g.place d r.at_)=false)(h5:Below (B7 st.d9 d g r) t)(hw:st.work=0)(hev:st.ev.length≤500000):
 ∃o h',KL Tryz.prog cfg (.fn 100) [.ptr m 0,AE8 ⟨-1,i,k,t⟩] h π true none=.ok (o,h')∧FL p sz π m V h (Fb p 401 ⟨r.node,g.place d r.at_,g.env++(BO d g r.d8 t st.d9).1⟩ ⟨(BO d g r.d8 t st.d9).2,st.ev++[⟨1,g.place d r.at_,i,k,(BO d g r.d8 t st.d9).1⟩],0⟩) o h':=by
 obtain⟨d2,hd⟩:=hs.grp i g h1;have hd2:=hd.eq;rw[h2]at hd2;cases hd2;obtain⟨g0,hdd⟩:=Fv hd.eq;have hdl:=AH hdd;have hrl:=AH h3;have hri:=Q6 hF hs h1 hd (Ac h3);have hjl:=hri.j1;have htl:t.length=r.d8.length:=by have:=h5.len;rw[B7,BI]at this;exact this
 have hm:=hM.box;have um:=hu m (V.m_mem m);simp only[Aq]at hm;have e1:=AG um;have e2:=Al um;obtain⟨W,xs,hWs,gW,xW,lW,lW2⟩:=JU (hM.sl 1 (by omega)) h1;have uW:=hu W (V.s_mem m (i:=1) (by omega) (by rw[hWs];simp[AD]));have a3:=AG uW;have a4:=Al uW;simp only[GQ]at gW;have hss:=hs.small;simp only[BM.small,AP,Ap]at hss;obtain⟨s1,s2,s3,s4⟩:=hss;have hm0:=AA.mk hm;rw[hWs]at hm;have hdif:AA (∀(a b:Nat) c c2,a<b→r.d8[a]? =some c→r.d8[b]? =some c2→(g.own d true c2).toNat≠(g.own d true c).toNat):=⟨fun a b c c2 hab e1 e2=>by
  have hro:=(CD hF hdd).ok.ut r (Ac h3);simp only[BX,AP,Ap]at hro;have:=SN rfl hro.2.2.2 b a c2 c (I4 _) hab e2 e1;obtain⟨q1,q2,_⟩:=hri.join c (Ac e1);obtain⟨q3,q4,_⟩:=hri.join c2 (Ac e2);have:=Lz hd.wn q1 q2;have:=Lz hd.wn q3 q4;omega⟩
 have hjob:=AA.mk (PD hF hs h1 h2 h3 h4 h5);replace hM:=AA.mk hM;replace hu:=AA.mk hu;replace hs:=AA.mk hs;replace hd:=AA.mk hd;replace h5:=AA.mk h5;replace hri:=AA.mk hri;replace hWs:=AA.mk hWs
 (refine Ah rfl Tryz.func100 rfl rfl rfl ?_;show Wp _ _ _ _ (Tryz.f100.body.get rfl) _ _;simp only[Tryz.f100,AS])
 refine ax ?_;refine AY r.d8 _ (S:=fun m' j (a:(AV×AB)×Nat)=>⟨[(0,.ptr m 0),(3,.ptr (0::0::π) 0),(4,.ptr (0::10::π) 0),(5,.ptr (0::26::π) 0),(6,a.1.1),(35,.d (.be (r.d8.map AK))),(36,.d (.int .i64 (m'))),(37,.d (.int .i64 (j)))],a.1.2,a.2+33,[]⟩)
  (Inv:=fun j rest a=>AA (∃V' s' L,Qs p sz π m V h st d g r t j (a.2+33) a.1.1 a.1.2 V' s' L)∧a.1.2.get (0::0::π)=some (.box [.d (.int .i64 (-1)),.d (.int .i64 (i)),.d (.int .i64 (k)),.d (.be (t.map AK))])∧a.1.2.get (0::10::π)=some (.box [.d (.int .i64 (g.eq)),.d (.int .i64 (g.at_)),.d (.be (g.env.map AL))])∧a.1.2.get (0::26::π)=some (.box [.d (.int .i64 (r.at_)),.d (.be (r.d8.map AK)),.d (.int .i64 (r.node))])) (b0:=((_,_),0)) rfl ⟨⟨V,st.d9,[],?_⟩,?_,?_,?_⟩ ?_ ?_
 .refine⟨⟨Bf (h:=h) ?_ fun id hid=>?_,fun id hid=>.inl hid,fun id _ hh=>?_⟩,.inl ⟨rfl,rfl⟩,by simp[AD],fun _=>rfl,hs.out,?_,rfl,rfl,rfl,fun i2 c k2 _ f1 f2=>?_,by simp⟩
  .have:=hM.out
   rwa [show st=⟨st.d9,st.ev,0⟩ by rw[←hw]]at this
  .have q1:=AG (hu.out id hid);simp only[go_sem,q1,AM]
  .have q1:=AG hh;simp only[go_sem,q1,AM]
  .simp
  .obtain⟨q1,q2,q3,q,q4,q5,q6⟩:=hri.out.join c (Ac f1);obtain⟨b1,b2⟩:=Rh h5.out i2 _ k2 (by rw[B7,D1,f1];rfl) f2;have b2:k2<(Tl st.d9 (g.own d true c):Nat):=b2;rw[q6]at b2;refine⟨b1,q,q4,by omega,q5,?_⟩;obtain⟨ch,hch⟩:=get_some (l:=d.am) (i:=c.toNat) (by omega);obtain⟨q7,g1,g2,g3,_⟩:=hd.out.am _ ch hch;have:=Lz hd.out.wn q1 q2;rw[show(g.own d true c).toNat=(Gb p (st.d9.bi.take i)).1+c.toNat by omega,g1]at q4;cases q4;rw[Mg h1 h2 hch g2 g3,hch];rfl
 .simp only[go_sem]
 .simp only[go_sem]
 .simp only[go_sem]
 .clear hm gW xW lW lW2 a3 a4 hm0;rintro j c ⟨⟨v,H⟩,b⟩ hc hj hjm ⟨hR,k3,k4,k5⟩ IH;dsimp only at*;obtain⟨V',s',L,hR⟩:=hR.out;have hM2:=hR.run.rep;have hm2:=hM2.box;simp only[Aq]at hm2;obtain⟨kk,hkk⟩:=get_some (l:=t) (i:=j) (by omega);obtain⟨kk0,q,hq,hkq,hq12,hmany⟩:=hR.rest j c kk (EL _) hc hkk;obtain⟨a,rfl⟩: ∃a:Nat,kk=a:=⟨kk.toNat,by omega⟩;rw[F9]at hkq;obtain⟨c0,c1,o0,_⟩:=hri.out.join c (Ac hc);obtain⟨qv,hrow,hqs⟩:=hM2.am.row _ _ hq;rcases hM2.arr with⟨_,hA⟩|⟨A,hA,gA⟩
  .rw[hA]at hrow;simp at hrow
  have lA:=AH hrow;rcases hqs with⟨_,hz⟩|⟨Q,zs,rfl,gQ⟩
  .rw[Gt.1 hz]at hkq;simp at hkq
  rw[BI]at hrow;obtain⟨msg,hmsg⟩:=get_some (l:=q.queue) (i:=a) hkq;have hiA:=hR.run.ids A (V'.v3_mem m (by rw[hA];simp[AD]));have hiQ:=hR.run.ids Q (V'.row_mem m (Bi.2 ⟨_,Ac hrow,by rw[Bp];simp[AD]⟩));have him:=hR.run.ids m (V'.m_mem m);have hap:=hR.run.apart hu.out (n:=b+81) (by omega);have uA:=hap A (V'.v3_mem m (by rw[hA];simp[AD]));have uQ:=hap Q (V'.row_mem m (Bi.2 ⟨_,Ac hrow,by rw[Bp];simp[AD]⟩));have uM:=hap m (V'.m_mem m);have nA:=FQ (b':=0) hu.out hiA;have nA':=KQ hu.out hiA;have nQ:=FQ (b':=0) hu.out hiQ;have nQ':=KQ hu.out hiQ;have nM:=FQ (b':=0) hu.out him;have nM':=KQ hu.out him;have bA: ∀k,Id.is A (0::k::π)=false:=fun k=>AE fun e=>HN hR.run hu.out k (by rw[←e];exact V'.v3_mem m (by rw[hA];simp[AD]));have bQ: ∀k,Id.is Q (0::k::π)=false:=fun k=>AE fun e=>HN hR.run hu.out k (by rw[←e];exact V'.row_mem m (Bi.2 ⟨_,Ac hrow,by rw[Bp];simp[AD]⟩));have AQ:Id.is A Q=false:=AE fun e=>by rw[←e,gA]at gQ;cases gQ
  have QA:Id.is Q A=false:=AE fun e=>by rw[e,gA]at gQ;cases gQ
  have Am:Id.is A m=false:=AE fun e=>by rw[e,hm2]at gA;cases gA
  have mA:Id.is m A=false:=AE fun e=>by rw[←e,hm2]at gA;cases gA
  have Qm:Id.is Q m=false:=AE fun e=>by rw[e,hm2]at gQ;cases gQ
  have mQ:Id.is m Q=false:=AE fun e=>by rw[←e,hm2]at gQ;cases gQ
  have hml:=iG (CD hF hdd).ok hR.rc hq hmsg hmany;have hnx:=AA.mk (fP hR hu.out (CD hF hdd).ok hc hkk hq hmsg hmany hA hrow (fun i c2 hi e2=>hdif.out j i c c2 hi hc e2) (b1:=b+81) (b':=b+54+33) (by omega));have hrow0:=AA.mk hrow;replace hiA:=AA.mk hiA;replace hiQ:=AA.mk hiQ;replace him:=AA.mk him;replace hap:=AA.mk hap;have hown:=AA.mk fun(H':AB) (n:Nat) (hH:H'.get m=H.get m)=>Wx (ds:=p.defs) (g:=g) (d:=d) (hH.trans hm2) (AF um n) g0 hdd (CD hF hdd).ok.am (CD hF hdd).ok.ac (MZ hd.out) (MY hF hd.out) true c c0 (by simpa using c1);rw[hA]at hm2;simp only[A3]at hrow;replace hM2:=AA.mk hM2;replace hR:=AA.mk hR;have hfin:AA (∀(H2 g1:AB) (v':AV),CU p sz π m V h (b+81) V' ⟨s',st.ev,0⟩ H2→H2.get A=some (.arr 4 V'.rows)→(∀k,H2.get (0::k::π)=H.get (0::k::π))→(∃y,g1.get Q=some (.co 1 (List.take a (q.queue.map BW)++List.drop (a+1) (q.queue.map BW)++y)))→(∀i,Id.is Q i=false→g1.get i=H2.get i)→N4 π H2 (b+81) v' (L++msg)→(∀i∈AD v',i∉V'.ids m∧Hq (b+81) (b+54+33) π i=false)→(L++msg=[]→v'=.ci)→
   AA (∃V2 s2 L2,Qs p sz π m V h st d g r t (j+1) (b+54+33) v' ((gc ((b+81)::π) g1).put A (.arr 4 (V'.rows.set (g.own d true c).toNat [.d (.int .i64 (q.group)),.d (.int .i64 (q.index)),.d (.int .i64 (q.at_)),.em Q 0 (q.queue.length-1)]))) V2 s2 L2)∧((gc ((b+81)::π) g1).put A (.arr 4 (V'.rows.set (g.own d true c).toNat [.d (.int .i64 (q.group)),.d (.int .i64 (q.index)),.d (.int .i64 (q.at_)),.em Q 0 (q.queue.length-1)]))).get (0::0::π)=some (.box [.d (.int .i64 (-1)),.d (.int .i64 (i)),.d (.int .i64 (k)),.d (.be (t.map AK))])∧((gc ((b+81)::π) g1).put A (.arr 4 (V'.rows.set (g.own d true c).toNat [.d (.int .i64 (q.group)),.d (.int .i64 (q.index)),.d (.int .i64 (q.at_)),.em Q 0 (q.queue.length-1)]))).get (0::10::π)=some (.box [.d (.int .i64 (g.eq)),.d (.int .i64 (g.at_)),.d (.be (g.env.map AL))])∧((gc ((b+81)::π) g1).put A (.arr 4 (V'.rows.set (g.own d true c).toNat [.d (.int .i64 (q.group)),.d (.int .i64 (q.index)),.d (.int .i64 (q.at_)),.em Q 0 (q.queue.length-1)]))).get (0::26::π)=some (.box [.d (.int .i64 (r.at_)),.d (.be (r.d8.map AK)),.d (.int .i64 (r.node))])):=⟨fun H2 g1 v' c1 c2 c3 c4 c5 c6 c7 c8=>by
   have gG: ∀i,Id.is A i=false→Id.is Q i=false→Id.under ((b+81)::π) i=false→((gc ((b+81)::π) g1).put A (.arr 4 (V'.rows.set (g.own d true c).toNat [.d (.int .i64 (q.group)),.d (.int .i64 (q.index)),.d (.int .i64 (q.at_)),.em Q 0 (q.queue.length-1)]))).get i=H2.get i:=fun i q0 q1 q2=>by rw[get_put,q0,CS (by simp),Ab _ _ _ q2,c5 i q1]
   have bx: ∀k,¬k=b+81→((gc ((b+81)::π) g1).put A (.arr 4 (V'.rows.set (g.own d true c).toNat [.d (.int .i64 (q.group)),.d (.int .i64 (q.index)),.d (.int .i64 (q.at_)),.em Q 0 (q.queue.length-1)]))).get (0::k::π)=H.get (0::k::π):=fun k hk=>(gG _ (bA k) (bQ k) (AR π hk)).trans (c3 k);refine⟨⟨hnx.out v' H2 _ c1 (gG m Am Qm uM) ?_ (c4.imp fun y hy=>?_) (fun id b1 b2 b3 b4=>gG id b2 b3 (JL b4 (by omega) (by omega))) ?_ c7 c8⟩,(bx 0 (by omega)).trans k3,(bx 10 (by omega)).trans k4,(bx 26 (by omega)).trans k5⟩
   .rw[get_put,is_self];rfl
   .rw[get_put,AQ,CS (by simp),Ab _ _ _ uQ];exact hy
   .rcases c6 with c6|⟨l,l1,l2,n,l3,l4,l5⟩
    .exact .inl c6
    .refine .inr ⟨l,l1,?_,n,by omega,l4,l5⟩;have hl:=c7 l (by rw[l1];simp[AD]);have hA2:Id.is A l=false:=AE fun e=>hl.1 (e▸V'.v3_mem m (by rw[hA];simp[AD]));have hQ2:Id.is Q l=false:=AE fun e=>hl.1 (e▸V'.row_mem m (Bi.2 ⟨_,Ac hrow0.out,by rw[Bp];simp[AD]⟩));rw[gG l hA2 hQ2 (JL hl.2 (by omega) (by omega))];exact l2⟩
  rcases hR.out.env with⟨rfl,rfl⟩|⟨lid,rfl,hg,n,hnb,hun,hl⟩
  .refine ax ?_;refine C2 (hown.out _ _ rfl) (fun o1 g1 p1=>?_);subst p1;have lz:a<q.queue.length+zs.length:=by omega
   have w1:IntKind.i64.wrap ((a:Int)+1)=(a:Int)+1:=wrap_id (by omega) (by omega);have msx:(q.queue.map BW++zs)[a]? =some (BW msg):=by rw[Be (by simpa using hkq),D1,hmsg];rfl
   have hdel:=fun(H2:AB) (hH:H2.get Q=some (.co 1 (q.queue.map BW++zs)))=>OC (π:=(b+81)::π) hH uQ (n:=q.queue.length) (a:=a) (by simp) (by omega) (by intro e he;obtain⟨x,_,rfl⟩:=F0.1 he;rfl) (by omega);replace hdel:=AA.mk hdel;by_cases hmz:msg=[]
   .subst hmz;refine ax ?_;refine AX (hdel.out _ ?_) (fun o1 g1 p1=>?_)
    .simp only[go_sem,gQ]
    obtain⟨rfl,p1,p2⟩:=p1;have fin:=hfin.out H g1 .ci (hR.out.run.up (by omega)) gA (fun _=>rfl) p1 p2 (.inl ⟨rfl,rfl⟩) (fun i hi=>by simp[AD]at hi) (fun _=>rfl);replace fin:=AA.mk fin;have gG: ∀i,Id.is Q i=false→Id.under ((b+81)::π) i=false→(gc ((b+81)::π) g1).get i=H.get i:=fun i q1 q2=>by rw[Ab _ _ _ q2,p2 i q1]
    replace p1:=AA.mk p1;replace p2:=AA.mk p2;refine ax ?_;exact IH.out ((_,_),b+54) fin.out
   .have ap:=gR (sz:=2) (msg.map AL) (by simpa using hmz) (by intro e he;obtain⟨x,_,rfl⟩:=F0.1 he;rfl) (by decide) (by simp;omega);simp only[BI]at ap;replace hmz:=AA.mk hmz;refine ax ?_;refine AX (hdel.out _ ?_) (fun o1 g1 p1=>?_)
    .simp only[go_sem,gQ,nQ]
    obtain⟨rfl,p1,p2⟩:=p1;have fin:=hfin.out (H.put (1::(b+63)::π) (.co 2 (msg.map AL))) g1 (.em (1::(b+63)::π) 0 msg.length) ((hR.out.run.up (b':=b+63) (by omega)).loc hu.out (fun id hh=>by rw[get_put,hh 1 (b+63) (by omega)];rfl)|>.up (by omega)) (by simp only[go_sem,gA,nA]) (fun k=>by simp only[go_sem]) p1 p2 (Mf (by omega) rfl (by simp only[go_sem])) (fun i hi=>⟨(by simp only[AD,As]at hi;subst hi;exact hR.out.run.new hu.out 1 _ (by omega)),(by simp only[AD,As]at hi;subst hi;exact Oz (n:=b+63) (by omega) (under_iff.2 ⟨[1],rfl⟩))⟩) (fun e=>absurd (OK.1 e).2 hmz.out);replace fin:=AA.mk fin;have gG: ∀i,Id.is Q i=false→Id.under ((b+81)::π) i=false→(gc ((b+81)::π) g1).get i=(H.put (1::(b+63)::π) (.co 2 (msg.map AL))).get i:=fun i q1 q2=>by rw[Ab _ _ _ q2,p2 i q1]
    replace p1:=AA.mk p1;replace p2:=AA.mk p2;refine ax ?_;exact IH.out ((_,_),b+54) fin.out
  .obtain⟨f1,f2,f3,f4⟩:=GK hnb hun hl;have hno:=hR.out.out lid (by simp[AD]);have lA2:Id.is lid A=false:=AE fun e=>hno (e▸V'.v3_mem m (by rw[hA];simp[AD]));have Al2:Id.is A lid=false:=AE fun e=>hno (e▸V'.v3_mem m (by rw[hA];simp[AD]));have lQ2:Id.is lid Q=false:=AE fun e=>hno (e▸V'.row_mem m (Bi.2 ⟨_,Ac hrow0.out,by rw[Bp];simp[AD]⟩));have Ql2:Id.is Q lid=false:=AE fun e=>hno (e▸V'.row_mem m (Bi.2 ⟨_,Ac hrow0.out,by rw[Bp];simp[AD]⟩));have lm:Id.is lid m=false:=AE fun e=>hno (e▸V'.m_mem m);have ml:Id.is m lid=false:=AE fun e=>hno (e▸V'.m_mem m);have hLl:=hR.out.len;have lz:a<q.queue.length+zs.length:=by omega
   have w1:IntKind.i64.wrap ((a:Int)+1)=(a:Int)+1:=wrap_id (by omega) (by omega);have msx:(q.queue.map BW++zs)[a]? =some (BW msg):=by rw[Be (by simpa using hkq),D1,hmsg];rfl
   have hdel:=fun(H2:AB) (hH:H2.get Q=some (.co 1 (q.queue.map BW++zs)))=>OC (π:=(b+81)::π) hH uQ (n:=q.queue.length) (a:=a) (by simp) (by omega) (by intro e he;obtain⟨x,_,rfl⟩:=F0.1 he;rfl) (by omega);replace hdel:=AA.mk hdel;replace hun:=AA.mk hun;replace hl:=AA.mk hl;by_cases hmz:msg=[]
   .subst hmz;refine ax ?_;refine C2 (hown.out _ _ rfl) (fun o1 g1 p1=>?_);subst p1;refine ax ?_;refine AX (hdel.out _ ?_) (fun o1 g1 p1=>?_)
    .simp only[go_sem,gQ]
    obtain⟨rfl,p1,p2⟩:=p1;have fin:=hfin.out H g1 (.em lid 0 L.length) (hR.out.run.up (by omega)) gA (fun _=>rfl) p1 p2 (.inr ⟨lid,by simp,by rw[hg,D9],n,by omega,hun.out,hl.out⟩) (fun i hi=>by simp only[AD,As]at hi;subst hi;exact⟨hno,Oz (n:=n) (by omega) hun.out⟩) (fun e=>by have:=hR.out.ne (OK.1 e).1;cases this);replace fin:=AA.mk fin;have gG: ∀i,Id.is Q i=false→Id.under ((b+81)::π) i=false→(gc ((b+81)::π) g1).get i=H.get i:=fun i q1 q2=>by rw[Ab _ _ _ q2,p2 i q1]
    replace p1:=AA.mk p1;replace p2:=AA.mk p2;refine ax ?_;exact IH.out ((_,_),b+54) fin.out
   .have ap:=Xc (sz:=2) (id:=lid) (L.map AL) (msg.map AL) (by simpa using hmz) (by intro e he;obtain⟨x,_,rfl⟩:=F0.1 he;rfl) (by decide) (by simp;omega) L.length (by simp);simp only[BI]at ap;replace hmz:=AA.mk hmz;refine ax ?_;refine C2 (hown.out _ _ rfl) (fun o1 g1 p1=>?_);subst p1;refine ax ?_;refine AX (hdel.out _ ?_) (fun o1 g1 p1=>?_)
    .simp only[go_sem,gQ,nQ,lQ2]
    obtain⟨rfl,p1,p2⟩:=p1;obtain⟨H2,hH2⟩: ∃H2,H2=(H.put lid (.it 0 [])).put (1::(b+63)::π) (.co 2 (L.map AL++msg.map AL)):=⟨_,rfl⟩;have nl:=f1 1 (b+63) (by omega);have hr1:=(hR.out.run.oth (H:=H.put lid (.it 0 [])) hno (BR hun.out) fun id e=>by rw[get_put,AE fun e2=>e e2.symm];rfl).up (b':=b+63) (by omega);have hr2:=(hr1.loc hu.out (H:=H2) fun id hh=>by rw[hH2,get_put,hh 1 (b+63) (by omega)];rfl).up (b':=b+81) (by omega);have fin:=hfin.out H2 g1 (.em (1::(b+63)::π) 0 (L.length+msg.length)) hr2 (by rw[hH2,get_put,nA _ _ (by omega),get_put,lA2];exact gA) (fun k=>by rw[hH2,get_put,AE (by simp),get_put,f4];rfl) p1 (fun i hi=>by rw[hH2];exact p2 i hi) (Mf (by omega) (by simp) (by rw[hH2,get_put,is_self,D0];rfl)) (fun i hi=>⟨(by simp only[AD,As]at hi;subst hi;exact hR.out.run.new hu.out 1 _ (by omega)),(by simp only[AD,As]at hi;subst hi;exact Oz (n:=b+63) (by omega) (under_iff.2 ⟨[1],rfl⟩))⟩) (fun e=>absurd (OK.1 e).2 hmz.out);replace fin:=AA.mk fin;have gG: ∀i,Id.is Q i=false→Id.under ((b+81)::π) i=false→(gc ((b+81)::π) g1).get i=((H.put lid (.it 0 [])).put (1::(b+63)::π) (.co 2 (L.map AL++msg.map AL))).get i:=fun i q1 q2=>by rw[Ab _ _ _ q2,p2 i q1]
    replace p1:=AA.mk p1;replace p2:=AA.mk p2;replace hH2:=AA.mk hH2;replace hr1:=AA.mk hr1;replace hr2:=AA.mk hr2;refine ax ?_;exact IH.out ((_,_),b+54) fin.out
 .clear hm gW xW lW lW2 a3 a4 hm0;rintro j ⟨⟨v,H⟩,b⟩ hj hjm ⟨hR,k3,k4,k5⟩;dsimp only at*;obtain⟨V',s',L,hR⟩:=hR.out;have hm2:=hR.run.rep.box;simp only[Aq]at hm2;have hpl:=AA.mk fun(H':AB) (n:Nat) (hH:H'.get m=H.get m)=>Mn (ds:=p.defs) (g:=g) (d:=d) (hH.trans hm2) (AF um n) g0 hdd (CD hF hdd).ok.am (CD hF hdd).ok.ac (MZ hd.out) (MY hF hd.out) r.at_ hri.out.at0 hri.out.at1;have hall:=hR.all;have hjob:=hjob.out;rw[hj.out,List.drop_length,wj,D9]at hall;rw[hall]at hjob⊢;replace hjob:=AA.mk hjob;replace hR:=AA.mk hR;replace hall:=AA.mk hall;rcases hR.out.env with⟨rfl,rfl⟩|⟨lid,rfl,hg,n,hnb,hun,hl⟩
  .refine ax ?_;refine DF (hpl.out _ _ ?_) (fun o1 g1 p1=>?_)
   .simp only[go_sem]
   subst p1;refine ax ?_;refine AX (JB (V:=V') (st:=⟨s',st.ev,0⟩) (EF hR.out.run.rep (hR.out.run.apart hu.out (n:=b+47) (by omega)) ?_) (hR.out.run.apart hu.out (by omega)) 1 (g.place d r.at_) i k [] (by simp) (by dsimp only;omega)) (fun o1 g1 p1=>?_)
   .intro id b;rfl
   obtain⟨V2,hR2,_⟩:=hR.out.run.call hu.out (n:=b+47) (by omega) p1;have m4:=(hR.out.run.box hu.out (k:=10) (by omega) p1).trans k4;have m5:=(hR.out.run.box hu.out (k:=26) (by omega) p1).trans k5;obtain rfl:=p1.1;have gm2:=hR2.rep.box;simp only[Aq]at gm2;replace hR2:=AA.mk hR2;replace p1:=AA.mk p1;have hgl:=MY hF hd.out;obtain⟨E,hE⟩: ∃E,E=g.env:=⟨_,rfl⟩;rw[←hE]at m4 hgl⊢;have h1:=Jt E (by omega);have hend:=AA.mk fun H2=>OG hF hu.out hR2.out (j:=⟨r.node,g.place d r.at_,E++[]⟩) ⟨hR.out.rc,by dsimp only;omega,by dsimp only;omega,by dsimp only;omega,by simp;omega⟩ (by rw[hE];exact hjob.out.2) H2 (b+57) (by omega);simp only[D9]at hend;replace hE:=AA.mk hE;by_cases h0:E.length=0;all_goals
    (first|(obtain rfl:=Cs h0;simp only[List.length_nil,Cj,D4]at h1)|simp only[DD h0]at h1);have fa:=Cm
    refine ax ?_;refine Eu (hend.out _ fun id hh=>?_) (fun o2 g2 p2=>?_)
    .first|rfl|(have q1:=AE (a:=1::0::2::(b+54)::π) (b:=id) fun e=>(by have:=hh (b+54) (by omega);rw[←e,show Id.under ((b+54)::π) (1::0::2::(b+54)::π)=true from Ag [1,0,2]]at this;cases this);simp only[go_sem,q1,AM])
    obtain⟨p2,p3⟩:=p2;replace p2:=AA.mk p2;rcases p3 with rfl|rfl;all_goals
     refine ax ?_;exact p2.out
  .obtain⟨f1,f2,f3,f4⟩:=GK hnb hun hl;have hno:=hR.out.out lid (by simp[AD]);have lm:Id.is lid m=false:=AE fun e=>hno (e▸V'.m_mem m);have ml:Id.is m lid=false:=AE fun e=>hno (e▸V'.m_mem m);have hLl:L.length≤90:=by have:=hR.out.len;have:=hj.out;omega
   have ul:Id.under ((b+47)::π) lid=false:=by
    cases hx:Id.under ((b+47)::π) lid with
    |false=>rfl
    |true=>have:=Bg hun hx;omega
   have hr0:=AA.mk (hR.out.run.oth (H:=H.put lid (.it 2 (L.map AL))) hno (BR hun) fun id e=>by rw[get_put,AE fun e2=>e e2.symm];rfl);replace hun:=AA.mk hun;replace hl:=AA.mk hl;refine ax ?_;refine DF (hpl.out _ _ ?_) (fun o1 g1 p1=>?_)
   .simp only[go_sem]
   subst p1;refine ax ?_;have hmr:=EF hr0.out.rep (hR.out.run.apart hu.out (n:=b+47) (by omega)) (h':=H.put lid (.it 2 (L.map AL))) fun _ _=>rfl;refine AX (JB (V:=V') (st:=⟨s',st.ev,0⟩) hmr (hR.out.run.apart hu.out (by omega)) 1 (g.place d r.at_) i k L (by omega) (by dsimp only;omega)) (fun o1 g1 p1=>?_);obtain⟨V2,hR2,_⟩:=hr0.out.call hu.out (n:=b+47) (by omega) p1;have m4:=(hr0.out.box hu.out (k:=10) (by omega) p1).trans ((show(H.put lid (.it 2 (L.map AL))).get (0::10::π)=H.get (0::10::π) by rw[get_put,f4];rfl).trans k4);have m5:=(hr0.out.box hu.out (k:=26) (by omega) p1).trans ((show(H.put lid (.it 2 (L.map AL))).get (0::26::π)=H.get (0::26::π) by rw[get_put,f4];rfl).trans k5);have ml2:=(U4 p1 hno ul).trans (show(H.put lid (.it 2 (L.map AL))).get lid=some (.it 2 (L.map AL)) by rw[get_put,is_self];rfl);obtain rfl:=p1.1;have gm2:=hR2.rep.box;simp only[Aq]at gm2;replace hR2:=AA.mk hR2;replace p1:=AA.mk p1;have hgl:=MY hF hd.out;obtain⟨E,hE⟩: ∃E,E=g.env:=⟨_,rfl⟩;rw[←hE]at m4 hgl⊢;have h1:=Jt E (by omega);have hend:=AA.mk fun H2=>OG hF hu.out hR2.out (j:=⟨r.node,g.place d r.at_,E++L⟩) ⟨hR.out.rc,by dsimp only;omega,by dsimp only;omega,by dsimp only;omega,by simp;omega⟩ (by rw[hE];exact hjob.out.2) H2 (b+57) (by omega);replace hE:=AA.mk hE;by_cases hLz:L=[]
   .have:=hR.out.ne hLz;cases this
   .have hL0: ¬L.map AL=[]:=by simpa using hLz
    have tk:List.take L.length ((L.map AL).map fun x=>x.map AV.d)=(L.map AL).map fun x=>x.map AV.d:=DL (by simp);have n54: ∀l,Id.is (l++(b+54)::π) lid=false:=fun l=>AE fun e=>by
     have:=Bg (n:=n) (n':=b+54) hun.out (by rw[←e];exact Ag l);omega
    have n54': ∀l,Id.is lid (l++(b+54)::π)=false:=fun l=>AE fun e=>by
     have:=Bg (n:=n) (n':=b+54) hun.out (by rw[e];exact Ag l);omega
    have n55:=n54 [1,0,2];have n55':=n54' [1,0,2];simp only[FN,Gc]at n55 n55';have tk2:List.take (E.length+L.length) (E.map AL++L.map AL)=E.map AL++L.map AL:=DL (by simp);replace n54:=AA.mk n54;replace n54':=AA.mk n54';replace hLz:=AA.mk hLz;by_cases h0:E.length=0
    .have ap:=gR (sz:=2) (L.map AL) hL0 (by intro e he;obtain⟨x,_,rfl⟩:=F0.1 he;rfl) (by decide) (by simp;omega);simp only[BI]at ap;replace hL0:=AA.mk hL0
     (first|(obtain rfl:=Cs h0;simp only[List.length_nil,Cj,D4]at h1)|simp only[DD h0]at h1);have fa:=Cm
     simp only[Gc]at hend⊢;refine ax ?_;refine Eu (hend.out _ fun id hh=>?_) (fun o2 g2 p2=>?_)
     .have q1:=AE (a:=1::0::2::(b+54)::π) (b:=id) fun e=>(by have:=hh (b+54) (by omega);rw[←e,show Id.under ((b+54)::π) (1::0::2::(b+54)::π)=true from Ag [1,0,2]]at this;cases this);have q2:=AE (a:=1::(b+56)::π) (b:=id) fun e=>(by have:=hh (b+56) (by omega);rw[←e,show Id.under ((b+56)::π) (1::(b+56)::π)=true from Ag [1]]at this;cases this);simp only[go_sem,q1,q2,AM]
     obtain⟨p2,p3⟩:=p2;replace p2:=AA.mk p2;rcases p3 with rfl|rfl;all_goals
      refine ax ?_;exact p2.out
    .have ap:=Xc (sz:=2) (id:=1::0::2::(b+54)::π) (E.map AL) (L.map AL) hL0 (by intro e he;obtain⟨x,_,rfl⟩:=F0.1 he;rfl) (by decide) (by simp;omega) E.length (by simp);simp only[BI]at ap;replace hL0:=AA.mk hL0
     (first|(obtain rfl:=Cs h0;simp only[List.length_nil,Cj,D4]at h1)|simp only[DD h0]at h1);have fa:=Cm
     have hend:=hend.out;simp only[D0]at hend;replace hend:=AA.mk hend;refine ax ?_;refine Eu (hend.out _ fun id hh=>?_) (fun o2 g2 p2=>?_)
     .have q1:=AE (a:=1::0::2::(b+54)::π) (b:=id) fun e=>(by have:=hh (b+54) (by omega);rw[←e,show Id.under ((b+54)::π) (1::0::2::(b+54)::π)=true from Ag [1,0,2]]at this;cases this);have q2:=AE (a:=1::(b+56)::π) (b:=id) fun e=>(by have:=hh (b+56) (by omega);rw[←e,show Id.under ((b+56)::π) (1::(b+56)::π)=true from Ag [1]]at this;cases this);simp only[go_sem,q1,q2,AM]
     obtain⟨p2,p3⟩:=p2;replace p2:=AA.mk p2;rcases p3 with rfl|rfl;all_goals
      refine ax ?_;exact p2.out
end Go.Proofs
namespace Go.Abs
theorem ZL(T:TypeId→Option TI)(g:G)(i:TI)(id:Id)(off n:Nat)(hn:0<n)(hk:i.kind=.slice):GA T g (some i) (.em id off n)=bW g id off n (T i.elem):=by
 obtain⟨m,rfl⟩: ∃m,n=m+1:=⟨n-1,by omega⟩;unfold GA;simp only[hk];cases T i.elem<;>rfl
theorem rj{h h':AB}{id:Id}{o:Obj}(h1:h.get id=some o)(h2:Obj.same o (h'.get id)=true):(UW h h').all (fun y=> !Id.is id y)=true:=by
 rw[Ci];intro y hy;rw[AE]
 .rfl
 .intro e;subst e;obtain⟨p,hp,rfl⟩:=F0.1 hy;have:=(Pp.1 hp).2;rw[h1]at this;simp only[h2]at this;cases this
end Go.Abs
namespace Go.Proofs
open Go Go.Abs
set_option maxRecDepth 100000
set_option maxHeartbeats 4000000
structure NH(h:AB)(π:List Nat)(m bx S:Abs.Id)(L:List BL):Prop where
 gb:h.get bx=some (.box [.ptr m 0])
 gm: ∃x1 x2 x3 x4 x5 x6 x7 x8 x9 x10 x11 x12,h.get m=some (.box [.em S 0 L.length,x1,x2,x3,x4,x5,x6,x7,x8,x9,x10,x11,x12])
 gS: ∃y,h.get S=some (.co 2 (L.map Aa++y))
 ub:Id.under π bx=false
 um:Id.under π m=false
 uS:Id.under π S=false
variable{h:AB}{π:List Nat}{m bx S:Abs.Id}{L:List BL}
theorem NH.up{h':AB}{ρ:List Nat}(hD:NH h π m bx S L)(hk: ∀i,Id.under π i=false→i=bx∨i=m∨i=S→h'.get i=h.get i)(hp: ∀i,Id.under π i=false→Id.under ρ i=false):NH h' ρ m bx S L:=by
 refine⟨(hk _ hD.ub (by simp)).trans hD.gb,?_,?_,hp _ hD.ub,hp _ hD.um,hp _ hD.uS⟩
 .rw[hk _ hD.um (by simp)];exact hD.gm
 .rw[hk _ hD.uS (by simp)];exact hD.gS
theorem gd(hD:NH h π m bx S L)(w:GI)(hw:Dd L w.at_):
 ∃o h',KL Tryz.prog cfg (.fn 163) [.agg [.d (.int .i64 (w.at_)),.d (.int .i64 (w.node)),.d (.be (w.env.map AL))],.ptr bx 0] h π true (some π)=.ok (o,h')∧o=.ret (.d (.bool (AW L w.at_))):=by
 obtain⟨hb,⟨x1,x2,x3,x4,x5,x6,x7,x8,x9,x10,x11,x12,hm⟩,⟨y,hS⟩,u1,u2,u3⟩:=hD;have e1:=AG u1;have e2:=AG u2;have e3:=AG u3;have w0:=hw.1;have w1:=hw.2;obtain⟨sp,hsp⟩:=get_some (l:=L) (i:=w.at_.toNat) (by omega);have lS:w.at_.toNat<L.length:=by omega
 have lS2:w.at_.toNat<L.length+y.length:=by omega
 have hx:(L.map Aa++y)[w.at_.toNat]? =some (Aa sp):=by rw[Be (by simpa using lS),D1,hsp];rfl
 have hd:AW L w.at_=sp.dead:=by rw[AW,hsp];rfl
 rw[hd]
 (refine Ah rfl Tryz.func163 rfl rfl rfl ?_;show Wp _ _ _ _ (Tryz.f163.body.get rfl) _ _;simp only[Tryz.f163,AS])
 exact af
inductive Vf{α:Type}(f:α→Bool)(l:List α):Int→Prop
 |none:(∀x∈l,f x=false)→Vf f l (-1)
 |some (k:Nat):(∀x∈l.take k,f x=false)→(∃x,l[k]? =some x∧f x=true)→Vf f l k
theorem Uu{h:AB}{π:List Nat}{m bx S:Abs.Id}{L:List BL}(hD:NH h π m bx S L)(l:List GI)(hl:l.length≤1000000)(hw: ∀w∈l,Dd L w.at_):
 ∃o h',KL Tryz.prog cfg (.fn 185) [.d (.be (l.map AU)),.fn 163 [] [.ptr bx 0]] h π true (some π)=.ok (o,h')∧ ∃r,o=.ret (.d (.int .i64 (r)))∧Vf (fun w:GI=>AW L w.at_) l r:=by
 have hD0:=AA.mk hD;clear hD;have hw0:=AA.mk hw;clear hw
 (refine Ah rfl Tryz.func185 rfl rfl rfl ?_;show Wp _ _ _ _ (Tryz.f185.body.get rfl) _ _;simp only[Tryz.f185,AS])
 refine ax ?_;refine AY l _ (S:=fun m' i (a:AB×Nat)=>⟨[(0,.d (.be (l.map AU))),(1,.fn 163 [] [.ptr bx 0]),(7,.d (.int .i64 (m'))),(8,.d (.int .i64 (i)))],a.1,a.2+4,[]⟩)
  (Inv:=fun i rest a=>AA ((∀x,Id.under π x=false→a.1.get x=h.get x)∧ ∀w∈l.take i,AW L w.at_=false)) (b0:=(h,0)) rfl ⟨⟨fun _ _=>rfl,by simp⟩⟩ ?_ ?_
 .rintro i w ⟨g,b⟩ hy hi him hI IH;dsimp only at*;have hfd:AA (∀H n,(∀x,Id.under π x=false→H.get x=g.get x)→ ∃o h',KL Tryz.prog cfg (.fn 163) [.agg [.d (.int .i64 (w.at_)),.d (.int .i64 (w.node)),.d (.be (w.env.map AL))],.ptr bx 0] H (n::π) true (some (n::π))=.ok (o,h')∧o=.ret (.d (.bool (AW L w.at_)))):=⟨fun H n hH=>gd (hD0.out.up (fun x hx _=>(hH x hx).trans (hI.out.1 x hx)) fun x hx=>AF hx n) w (hw0.out w (Ac hy))⟩;refine ax ?_;refine DF (hfd.out _ _ fun x hx=>rfl) (fun o1 g1 p1=>?_);subst p1;cases hdd:AW L w.at_ with
  |true=>
   refine ax ?_;exact⟨_,rfl,.some i hI.out.2 ⟨w,hy,hdd⟩⟩
  |false=>
   refine ax ?_;refine IH.out (g,b+11) ⟨⟨hI.out.1,fun x hx=>?_⟩⟩;rw[Is,hy]at hx;rcases EX.1 hx with hx|hx
   .exact hI.out.2 x hx
   .simp only[Option.toList_some,As]at hx;subst hx;exact hdd
 .rintro i ⟨g,b⟩ hi him hI;dsimp only at*;have hI2:AA (∀w∈l,AW L w.at_=false):=⟨by have:=hI.out.2;rwa [hi.out,Em]at this⟩;refine ax ?_;exact⟨_,rfl,.none hI2.out⟩
theorem xz{h:AB}{π:List Nat}{m bx S W:Abs.Id}{L:List BL}(hD:NH h π m bx S L)(l:List GI){x:List (List AZ)}(hg:h.get W=some (.co 3 (l.map AU++x)))(uW:Id.under π W=false)(hW:W≠bx∧W≠m∧W≠S){n:Nat}(hn:n=l.length)(hl:l.length≤1000000)(hw: ∀w∈l,Dd L w.at_):
 ∃o h',KL Tryz.prog cfg (.fn 162) [.em W 0 n,.fn 163 [] [.ptr bx 0]] h π true none=.ok (o,h')∧ ∃y,o=.ret (.em W 0 (l.filter fun w=> !AW L w.at_).length)∧h'.get W=some (.co 3 ((l.filter fun w=> !AW L w.at_).map AU++y))∧ ∀i,Id.is W i=false→Id.under π i=false→h'.get i=h.get i:=by
 subst hn;have q1:=AG uW;have q2:=Al uW;have hD0:=AA.mk hD;have hw0:=AA.mk hw;clear hw;have hix:=AA.mk fun(H:AB) (k:Nat) (hH: ∀i,i=bx∨i=m∨i=S→H.get i=h.get i)=>Uu (π:=k::π) (hD0.out.up (ρ:=k::π) (fun i _ hi=>hH i hi) fun x hx=>AF hx k) l hl hw0.out;have hu3:AA (∀i,i=bx∨i=m∨i=S→Id.under π i=false):=⟨fun i hi=>by rcases hi with rfl|rfl|rfl;exact hD.ub;exact hD.um;exact hD.uS⟩
 clear hD;obtain⟨f,hf⟩: ∃f:GI→Bool,f=fun w=> !AW L w.at_:=⟨_,rfl⟩;rw[←hf];replace hf:=AA.mk hf
 (refine Ah rfl Tryz.func162 rfl rfl rfl ?_;show Wp _ _ _ _ (Tryz.f162.body.get rfl) _ _;simp only[Tryz.f162,AS])
 refine ax ?_;refine DF (hix.out _ 3 ?_) (fun o1 g1 p1=>?_)
 .rintro i (rfl|rfl|rfl)
  .rw[get_put,AE hW.1];rfl
  .rw[get_put,AE hW.2.1];rfl
  .rw[get_put,AE hW.2.2];rfl
 obtain⟨r,rfl,hr⟩:=p1;cases hr with
 |none hall=>
  have hfl:AA (l.filter f=l):=⟨List.filter_eq_self.2 fun w hw=>by rw[hf.out];simp[hall w hw]⟩;replace hall:=AA.mk hall;refine ax ?_;rw[hfl.out];exact⟨x,rfl,rfl,fun _ _ _=>trivial⟩
 |some k hbe hk=>
  obtain⟨w0,hw1,hw2⟩:=hk;have hkl:=AH hw1;have hneg: ¬(k:Int)= -1:=by omega
  replace hbe:=AA.mk hbe;have hfk:((l.take (k+1)).filter f)=l.take k:=by
   rw[Is,hw1,List.filter_append,List.filter_eq_self.2 fun w hw=>by rw[hf.out];simp[hbe.out w hw]];simp[hf.out,hw2]
  have hlk:(l.take k).length=k:=by rw[IP];omega
  replace hw2:=AA.mk hw2;refine ax ?_;refine rounds (S:=fun(a:(Nat×Nat)×AB×Nat)=>⟨[(0,.em W 0 l.length),(1,.fn 163 [] [.ptr bx 0]),(5,.d (.int .i64 (a.1.2))),(6,.d (.int .i64 (a.1.1)))],a.2.1,a.2.2+10,[]⟩)
   (Inv:=fun a=>a.1.2<a.1.1∧a.1.1≤l.length∧AA (∃Y,a.1.2+Y.length=a.1.1∧(∀e∈Y,e.length=3)∧((l.take a.1.1).filter f).length=a.1.2∧a.2.1.get W=some (.co 3 (((l.take a.1.1).filter f).map AU++(Y++((l.drop a.1.1).map AU++x)))))∧AA (∀i,Id.is W i=false→Id.under π i=false→a.2.1.get i=h.get i)) (m:=fun a=>l.length-a.1.1) (a:=((k+1,k),h,0)) ⟨by dsimp only;omega,by dsimp only;omega,⟨[AU w0],rfl,by simp[AU],by dsimp only;rw[hfk,hlk],?_⟩,⟨fun _ _ _=>rfl⟩⟩ ?_
  .dsimp only;rw[hfk,hg];have:=MA hw1;rw[show l.map AU=(l.take k).map AU++([AU w0]++(l.drop (k+1)).map AU) by rw[←List.map_singleton,←D0,←D0];exact congrArg _ this];simp
  .rintro⟨⟨j,i⟩,g,b⟩ ⟨j1,j2,hY,hfr⟩ IH;dsimp only at*;obtain⟨Y,hYl,hY3,hfi,hgW⟩:=hY.out;by_cases hjl:j<l.length
   .obtain⟨w,hw⟩:=get_some hjl;have hFl:((l.take j).filter f).map AU++(Y++((l.drop j).map AU++x))=(((l.take j).filter f).map AU++Y)++((l.drop j).map AU++x):=by simp
    have hal:(((l.take j).filter f).map AU++Y).length=j:=by rw[CI,BI];omega
    have hix:(((l.take j).filter f).map AU++(Y++((l.drop j).map AU++x)))[j]? =some (AU w):=by
     rw[hFl,CO (by omega),hal,MD,AO hw];rfl
    have hjx:j<(((l.take j).filter f).map AU++(Y++((l.drop j).map AU++x))).length:=AH hix;have hfd:AA (∀H n,(∀i,i=bx∨i=m∨i=S→H.get i=g.get i)→ ∃o h',KL Tryz.prog cfg (.fn 163) [.agg [.d (.int .i64 (w.at_)),.d (.int .i64 (w.node)),.d (.be (w.env.map AL))],.ptr bx 0] H (n::π) true (some (n::π))=.ok (o,h')∧o=.ret (.d (.bool (AW L w.at_)))):=⟨fun H n hH=>gd (hD0.out.up (fun i hu hi=>(hH i hi).trans (hfr.out i (AE fun e=>by subst e;rcases hi with e|e|e;exact hW.1 e;exact hW.2.1 e;exact hW.2.2 e) hu)) fun x hx=>AF hx n) w (hw0.out w (Ac hw))⟩
    have hjl2:(j:Int)<l.length:=by omega
    obtain⟨ar,har⟩: ∃ar,ar=((l.take j).filter f).map AU++(Y++((l.drop j).map AU++x)):=⟨_,rfl⟩;rw[←har]at hix hgW hjx;replace har:=AA.mk har;refine ax ?_;refine DF (hfd.out _ _ ?_) (fun o1 g1 p1=>?_)
    .intro i hi;have q:=AG (hu3.out i hi);simp only[go_sem,q,AM]
    subst p1;have ht:(l.take (j+1)).filter f=(l.take j).filter f++if f w=true then [w]else []:=by
     rw[Is,hw,List.filter_append];simp[Rx]
    cases hdd:AW L w.at_ with
    |true=>
     have hfw:f w=false:=by rw[hf.out];simp[hdd]
     rw[hfw,CS (by simp),D9]at ht;replace hfw:=AA.mk hfw;replace ht:=AA.mk ht;refine ax ?_;refine IH.out ((j+1,i),_,b+17) (by dsimp only;omega) ⟨by dsimp only;omega,by dsimp only;omega,⟨Y++[AU w],by simp;omega,?_,by rw[ht.out];exact hfi,?_⟩,⟨fun i2 u1 u2=>?_⟩⟩
     .intro e he;rcases EX.1 he with he|he
      .exact hY3 e he
      .rw[As]at he;subst he;rfl
     .rw[ht.out];dsimp only;rw[get_put,AE (by intro e;exact absurd (AG uW 0 (b+18)) (by rw[e,is_self];simp)),get_put,AE (by intro e;exact absurd (AG uW 0 (b+18)) (by rw[e,is_self];simp))];simp only[AM,ES];rw[hgW,har.out,AO hw];simp
     .dsimp only;rw[get_put,AG u2,get_put,AG u2];exact hfr.out i2 u1 u2
    |false=>
     have hfw:f w=true:=by rw[hf.out];simp[hdd]
     rw[hfw,DO rfl]at ht;have hil:i<ar.length:=by omega
     have w1:IntKind.i64.wrap ((i:Int)+1)=(i:Int)+1:=wrap_id (by omega) (by omega);replace hfw:=AA.mk hfw;replace ht:=AA.mk ht;obtain⟨e0,he0⟩:=get_some (l:=ar) (i:=i) hil;have hil2:i<l.length:=by omega
     have hY0:0<Y.length:=by omega
     obtain⟨y0,Y',rfl⟩: ∃y0 Y',Y=y0::Y':=by
      cases Y with
      |nil=>simp at hY0
      |cons y0 Y'=>exact⟨y0,Y',rfl⟩
     have hle:i=(((l.take j).filter f).map AU).length:=by rw[BI,hfi]
     have he:e0=y0:=by
      rw[har.out,CO (by omega),hle,MD]at he0;simpa using he0.symm
     subst he;obtain⟨z0,z1,z2,rfl⟩: ∃a b c,e0=[a,b,c]:=by
      have:=hY3 e0 (by simp)
      match e0,this with
      |[a,b,c],_=>exact⟨a,b,c,rfl⟩
     replace hle:=AA.mk hle;have hset:AA (ar.set i (AU w)=((l.take (j+1)).filter f).map AU++((Y'++[AU w])++((l.drop (j+1)).map AU++x))):=⟨by
      rw[har.out,ht.out,List.set_append_right _ _ (Nat.le_of_eq hle.out.symm),←hle.out,MD,FN,List.set_cons_zero,AO hw];simp⟩
     refine ax ?_;refine IH.out ((j+1,i+1),_,b+25) (by dsimp only;omega) ⟨by dsimp only;omega,by dsimp only;omega,⟨Y'++[AU w],by simp at hYl⊢;omega,?_,by rw[ht.out];simp[hfi],?_⟩,⟨fun i2 u1 u2=>?_⟩⟩
     .intro e he;rcases EX.1 he with he|he
      .exact hY3 e (by simp[he])
      .rw[As]at he;subst he;rfl
     .dsimp only;rw[←hset.out];simp only[go_sem]
     .simp only[go_sem,u1,AG u2];exact hfr.out i2 u1 u2
   .have hje:j=l.length:=by omega
    rw[hje,Em]at hfi hgW;rw[List.drop_length,D4,Gc]at hgW;have hjl2: ¬(j:Int)<l.length:=by omega
    have hYl2:Y.length=l.length-i:=by omega
    obtain⟨F,hF⟩: ∃F,F=l.filter f:=⟨_,rfl⟩;rw[←hF]at hfi hgW⊢;have hi0:0<l.length-i:=by omega
    have hFm:(F.map AU).length=i:=by simpa using hfi
    have c5:=S5 (g:=g.get) (n:=l.length) hgW (a:=i) (by omega) (by omega) (by simp;omega) (by simp;omega);simp only[F9]at c5;have c6: ∀(j:TI),j.size=3→j.zero=[.d (.int .i64 (0)),.d (.int .i64 (0)),.ci]→HP g.get W i (l.length-i) j=some ⟨.undef,[(W,.co 3 (F.map AU++(List.replicate (l.length-i) [.int .i64 0,.int .i64 0,.be []]++x)))]⟩:=fun j e1 e2=>by
     rw[Xy (z:=[.int .i64 0,.int .i64 0,.be []]) hgW e1 (by rw[e2];rfl) rfl ⟨⟨by rw[e2];rfl,by rw[e2];rfl⟩,by decide⟩ (by simp;omega),List.take_left' hFm,show F.map AU++(Y++x)=(F.map AU++Y)++x from(EM ..).symm,List.drop_left' (l₁:=F.map AU++Y) (by rw[CI,hFm,hYl2])]
    have c7:=fun(g':G) (hg':g' W=some (.co 3 (F.map AU++(List.replicate (l.length-i) [.int .i64 0,.int .i64 0,.be []]++x))))=>S4 (n:=l.length) hg' (b:=i) (by omega) (by simp;omega) (by simp;omega);simp only[F9]at c7;have hcl:=fun T' (i0:TI)=>ZL T' g.get i0 W i (l.length-i) hi0;replace hF:=AA.mk hF;replace hfi:=AA.mk hfi;replace hje:=AA.mk hje;replace hYl2:=AA.mk hYl2;replace hYl:=AA.mk hYl;replace hFm:=AA.mk hFm;refine ax ?_;exact⟨_,by rw[hfi.out],rfl,fun i2 u1 u2=>by rw[u1,CS (by simp)];exact hfr.out i2 u1 u2⟩
theorem yA{h:AB}{π:List Nat}{m bx S:Abs.Id}{L:List BL}(hD:NH h π m bx S L)(l:List GI){v:AV}(hv:K9 h 3 v (l.map AU))(uv: ∀i∈AD v,Id.under π i=false∧i≠bx∧i≠m∧i≠S)(hl:l.length≤1000000)(hw: ∀w∈l,Dd L w.at_):
 ∃o h',KL Tryz.prog cfg (.fn 162) [v,.fn 163 [] [.ptr bx 0]] h π true none=.ok (o,h')∧ ∃v',o=.ret v'∧K9 h' 3 v' ((l.filter fun w=> !AW L w.at_).map AU)∧AD v'=AD v∧(v'.isCell=true∧v'.cells=[v'])∧ ∀i,(∀id∈AD v,Id.is id i=false)→Id.under π i=false→h'.get i=h.get i:=by
 rcases hv with⟨rfl,hz⟩|⟨W,x,rfl,hg⟩
 .have hz:=Gt.1 hz;subst hz;have hix:=AA.mk fun(H:AB) (k:Nat) (hH: ∀i,i=bx∨i=m∨i=S→H.get i=h.get i)=>Uu (π:=k::π) (hD.up (ρ:=k::π) (fun i _ hi=>hH i hi) fun x hx=>AF hx k) [] hl hw;clear hD
  (refine Ah rfl Tryz.func162 rfl rfl rfl ?_;show Wp _ _ _ _ (Tryz.f162.body.get rfl) _ _;simp only[Tryz.f162,AS])
  refine ax ?_;refine DF (hix.out _ 3 fun _ _=>rfl) (fun o1 g1 p1=>?_);obtain⟨r,rfl,hr⟩:=p1;cases hr with
  |none _=>
   refine ax ?_;exact⟨_,rfl,.inl ⟨rfl,rfl⟩,rfl,⟨rfl,rfl⟩,fun _ _ _=>trivial⟩
  |some k _ hk=>
   obtain⟨_,hk,_⟩:=hk;simp at hk
 .obtain⟨u1,u2,u3,u4⟩:=uv W (by simp[AD]);rw[BI];obtain⟨o,h',k1,y,rfl,k2,k3⟩:=xz hD l hg u1 ⟨u2,u3,u4⟩ rfl hl hw;exact⟨_,h',k1,_,rfl,.inr ⟨W,y,by rw[BI],k2⟩,rfl,⟨rfl,rfl⟩,fun i q1 q2=>k3 i (q1 W (by simp[AD])) q2⟩
end Go.Proofs
namespace Go.Proofs
open Go Go.Abs
def LZ(l:List BL)(at_:Int)(n:Nat):List BL:=(KF l at_).take n++l.drop n
variable{n:Nat}
theorem Rz(l:List BL)(at_:Int)(hn:n≤l.length):(LZ l at_ n).length=l.length:=by
 rw[LZ,CI,IP,Io,Ek];omega
theorem OD(l:List BL)(at_:Int)(hn:n≤l.length)(k:Nat):(LZ l at_ n)[k]? =(l[k]?).map fun x=>if k<n then{x with dead:=x.dead||CF l k at_}else x:=by
 have hl:((KF l at_).take n).length=n:=by rw[IP,Ek];omega
 rw[LZ];by_cases hk:k<n
 .rw[Be (by omega),It,DO hk,R0];simp[hk]
 .rw[CO (by omega),hl,HE,show n+(k-n)=k by omega];cases l[k]? <;>simp[hk]
theorem jc(l:List BL)(at_:Int):LZ l at_ 0=l:=by simp[LZ]
theorem re(l:List BL)(at_:Int):LZ l at_ l.length=KF l at_:=by
 rw[LZ,List.drop_length,D9,DL (by rw[Ek];exact EL _)]
theorem jb{l:List BL}{at_:Int}{n:Nat}{x:BL}(hx:l[n]? =some x):LZ l at_ (n+1)=(LZ l at_ n).set n {x with dead:=x.dead||CF l n at_}:=by
 have hn:=AH hx;refine List.ext_getElem? fun k=>?_;rw[OD l at_ (by omega),HW,Rz l at_ (by omega),OD l at_ (by omega)];by_cases e:n=k
 .subst e;rw[DO rfl,DO hn,hx,El,DO (by omega)]
 .rw[CS e];congr 1;funext y;by_cases h:k<n
  .rw[DO h,DO (by omega)]
  .rw[CS h,CS (by omega)]
variable{l:List BL}{at_:Int}
theorem yB{x:BL}(hx:l[n]? =some x):(LZ l at_ n)[n]? =some x:=by
 have hn:=AH hx;rw[OD l at_ (by omega),hx];simp
theorem rf(l:List BL)(at_:Int)(hn:n≤l.length)(i:Int):BF (LZ l at_ n) i=BF l i:=by
 rw[BF,BF,OD l at_ hn];cases l[i.toNat]? with
 |none=>rfl
 |some x=>
  simp only[El,F5];split<;>rfl
variable{m:List BL}
theorem Sy(hp: ∀i,BF m i=BF l i)(hl:m.length=l.length): ∀(k:Nat) (i:Int),A7 m k i=A7 l k i
 |0,i=>rfl
 |k+1,i=>by
  rw[A7,A7,hp,Sy hp hl k];congr 2;exact decide_eq_decide.2 (by unfold Dd;rw[hl])
theorem aE(hp: ∀i,BF m i=BF l i): ∀(k:Nat) (i:Int),QD m k i=QD l k i
 |0,i=>rfl
 |k+1,i=>by rw[QD,QD,hp,aE hp k]
theorem pa(hp: ∀i,BF m i=BF l i)(hl:m.length=l.length)(h:GG l):GG m:=
 ⟨by rw[hl];exact h.pos,by rw[hp];exact h.top,fun i hi=>by rw[Sy hp hl,hl];exact h.pm i (by rw[Dd,hl]at hi;exact hi)⟩
theorem aG(hp: ∀i,BF m i=BF l i)(hl:m.length=l.length)(b a:Int):CF m b a=CF l b a:=by
 rw[CF,CF,hl,aE hp]
def Rv(l:List BL)(q:GR):GR:=if AW l q.at_=true then{q with queue:=[]}else q
def NP(l:List BL)(c:List GR)(n:Nat):List GR:=(c.take n).map (Rv l)++c.drop n
theorem jU(l:List BL)(c:List GR):NP l c 0=c:=by simp[NP]
theorem rV(l:List BL)(c:List GR):NP l c c.length=c.map (Rv l):=by simp[NP]
theorem rY(l:List BL)(c:List GR)(hn:n≤c.length):(NP l c n).length=c.length:=by
 rw[NP,CI,BI,IP,Io];omega
variable{q:GR}
theorem Vz{c:List GR}(hq:c[n]? =some q):(NP l c n)[n]? =some q:=by
 have hn:=AH hq;have hl:((c.take n).map (Rv l)).length=n:=by rw[BI,IP];omega
 rw[NP,CO (by omega),hl,MD,AO hq];rfl
theorem jT{c:List GR}(hq:c[n]? =some q):NP l c (n+1)=(NP l c n).set n (Rv l q):=by
 have hn:=AH hq;have hl:((c.take n).map (Rv l)).length=n:=by rw[BI,IP];omega
 rw[NP,NP,Is,hq,List.set_append_right _ _ (by omega),hl,MD,AO hq];simp
theorem yC(s:BM)(at_:Int):PZ s at_=⟨KF s.ac at_,s.bi,s.am.map (Rv (KF s.ac at_)),s.waits.filter fun w=> !AW (KF s.ac at_) w.at_⟩:=rfl
set_option maxRecDepth 100000
set_option maxHeartbeats 4000000
theorem aI{α:Type}{l:List α}{i:Nat}{x:α}(h:l[i]? =some x):l.set i x=l:=by
 obtain⟨h1,h2⟩:=BE.1 h;rw[←h2];exact List.set_getElem_self h1
variable{p:AI}{sz:List Int}{V:MV}
theorem qx{V2:MV}{w w2:Int}(h:Aq p sz V w=Aq p sz V2 w2):V2.v3=V.v3:=by
 simp only[Aq,NO]at h;exact h.2.2.1.symm
theorem ABM(hF:BD p sz){h:AB}{π:List Nat}{m:Abs.Id}{st:CK}(hM:Dq p sz h m V st)(hu:CC π V m)(hs:E6 p sz st.d9)(ha:Dd st.d9.ac at_)(hev:st.ev.length≤900000):
 ∃o h',KL Tryz.prog cfg (.fn 102) [.ptr m 0,.d (.int .i64 (at_))] h π true none=.ok (o,h')∧FL p sz π m V h (some ⟨PZ st.d9 at_,st.ev++[⟨3,at_,0,0,[]⟩],st.work⟩) o h':=by
 have hm:=hM.box;simp only[Aq]at hm;have um:=hu m (V.m_mem m);have e1:=AG um;have e2:=Al um;have hss:=hs.small;simp only[BM.small,AP,Ap]at hss;obtain⟨s1,s2,s3,s4⟩:=hss;have a0:=ha.1;have a1:=ha.2;replace hM:=AA.mk hM;replace hu:=AA.mk hu;replace hs:=AA.mk hs;replace ha:=AA.mk ha
 (refine Ah rfl Tryz.func102 rfl rfl rfl ?_;show Wp _ _ _ _ (Tryz.f102.body.get rfl) _ _;simp only[Tryz.f102,AS])
 refine ax ?_;refine AX (JB (V:=V) (st:=st) (EF hM.out hu.out ?_) (hu.out.ext _) 3 at_ 0 0 [] (by simp) (by omega)) (fun o1 g1 p1=>?_)
 .intro id b;have q1:=AG b;simp only[go_sem,q1,AM]
 have hr0:CU p sz π m V h 0 V st (h.put (0::0::π) (.box [.ptr m 0])):=P5 hM.out hu.out fun id b=>by
  have q1:=AG b;rw[get_put,q1];rfl
 obtain⟨V1,hR1,_⟩:=(hr0.up (b':=3) (by omega)).call hu.out (n:=3) (by omega) p1;have k2:=(hr0.up (b':=3) (by omega)).box hu.out (k:=0) (by omega) p1;rw[get_put,is_self,DO rfl]at k2;obtain rfl:=p1.1;have gm1:=hR1.rep.box;simp only[Aq]at gm1;have hl0:=HV (hR1.rep.sl 0 (by omega));simp only[A8,BI]at hl0;obtain⟨EV,hEV⟩: ∃EV,EV=st.ev++[(⟨3,at_,0,0,[]⟩:EK)]:=⟨_,rfl⟩;rw[←hEV]at hR1⊢;replace hEV:=AA.mk hEV;replace hR1:=AA.mk hR1;replace hr0:=AA.mk hr0;replace p1:=AA.mk p1
 (repeat' (first|simp only[go_sem, *,↓hl0,AM]|(refine sx ?_ ?_<;>intro hc)|refine sy (by omega) fun x hx hm=>?_|simp(disch:=first|assumption|omega) only[AJ]))
 clear hm gm1 hl0 p1;refine AY st.d9.ac _ (S:=fun m' i (a:AB×Nat)=>⟨[(1,.d (.int .i64 (at_))),(2,.ptr (0::0::π) 0),(15,.d (.int .i64 (m'))),(16,.d (.int .i64 (i)))],a.1,a.2+11,[]⟩)
  (Inv:=fun i rest a=>a.1.get (0::0::π)=some (.box [.ptr m 0])∧AA (∃V',CU p sz π m V h (a.2+11) V' ⟨{st.d9 with ac:=LZ st.d9.ac at_ i},EV,st.work⟩ a.1)) (b0:=(_,0)) rfl ⟨k2,⟨V1,by rw[jc];exact hR1.out.up (by omega)⟩⟩ ?_ ?_
 .rintro i x ⟨g,b⟩ hx hi him ⟨k2,hR⟩ IH;dsimp only at*;obtain⟨V',hR⟩:=hR.out;obtain⟨D,hD⟩: ∃D,D=LZ st.d9.ac at_ i:=⟨_,rfl⟩;have hil:=AH hx;have hDl:D.length=st.d9.ac.length:=by rw[hD];exact Rz _ _ (by omega)
  have hDx:D[i]? =some x:=by rw[hD];exact yB hx
  have hDp: ∀i,BF D i=BF st.d9.ac i:=fun k=>by rw[hD];exact rf _ _ (by omega) k
  have hDs:AA (LZ st.d9.ac at_ (i+1)=D.set i {x with dead:=x.dead||CF st.d9.ac i at_}):=⟨by rw[hD];exact jb hx⟩
  have hDt:=pa hDp hDl hs.out.tree;have hDi:=aG hDp hDl (i:Int) at_;rw[←hD]at hR;replace hD:=AA.mk hD;have gm:=hR.rep.box;simp only[Aq]at gm;obtain⟨S,ys,hSs,gS,xS,lS,lS2⟩:=JU (hR.rep.sl 0 (by omega)) hDx;simp only[GQ]at gS;have hwi:=Vc D i at_ (by omega) hDt ⟨by omega,by omega⟩ a0
  rw[hDi]at hwi;have hiS:=hR.ids S (V'.s_mem m (i:=0) (by omega) (by rw[hSs];simp[AD]));have hbS: ∀k,Id.is S (0::k::π)=false:=fun k=>AE fun e=>HN hR hu.out k (by rw[←e];exact V'.s_mem m (i:=0) (by omega) (by rw[hSs];simp[AD]));have hgo:=AA.mk (H0 (N:=Hq (b+11) (b+33) π) (st:=⟨{st.d9 with ac:=D},EV,st.work⟩) (st':=⟨{st.d9 with ac:=LZ st.d9.ac at_ (i+1)},EV,st.work⟩) 0 (by omega) hR.rep (hR.apartB hu.out) (tD rfl rfl rfl) rfl (.em S 0 D.length))
  rw[hSs]at gm;replace hDp:=AA.mk hDp;replace hDt:=AA.mk hDt;replace hDi:=AA.mk hDi;replace hiS:=AA.mk hiS;replace hR:=AA.mk hR;have hDl2:=AA.mk hDl;cases hin:CF st.d9.ac i at_ with
  |true=>
   rw[hin]at hwi hDs;rw[Bool.or_true]at hDs;replace hDl:=AA.mk hDl;refine ax ?_;have hSm:Id.is S m=false:=AE fun e=>by rw[e,gm]at gS;cases gS
   have hmS:Id.is m S=false:=AE fun e=>by rw[←e,gm]at gS;cases gS
   have hst:(D.set i {x with dead:=true}).map Aa++ys=(D.map Aa++ys).set i [.int .i64 x.of,.bool true]:=by
    rw[List.set_append_left _ _ (by simpa using lS),JP];rfl
   obtain⟨V2,hR2,_⟩:=hR.out.step (b':=b+33) (by omega) (hgo.out (g.put S (.co 2 ((D.map Aa++ys).set i [.int .i64 x.of,.bool true]))) (by rw[get_put,hSm];exact gm) (BZ ys (by simp only[A8,BI];rw[Rz _ _ (by omega)];exact hDl2.out) (by rw[get_put,is_self,←hst,←hDs.out];rfl)) (.inl (by rw[hSs])) fun id b1 b2 b3=>by rw[get_put,b2 S (by rw[hSs];simp[AD])];rfl);refine IH.out (_,b+22) ⟨?_,⟨V2,hR2⟩⟩;dsimp only;rw[get_put,hbS];exact k2
  |false=>
   rw[hin,Bool.or_false]at hDs;rw[hin]at hwi;replace hDl:=AA.mk hDl;refine ax ?_;refine IH.out (g,b+13) ⟨k2,⟨V',?_⟩⟩;have:LZ st.d9.ac at_ (i+1)=D:=by
    rw[hDs.out];exact aI hDx
   dsimp only;rw[this];exact hR.out.up (by omega)
 .rintro i ⟨g,b⟩ hi him ⟨k2,hR⟩;dsimp only at*;obtain⟨V',hR⟩:=hR.out;rw[hi.out,re]at hR;obtain⟨D,hD⟩: ∃D,D=KF st.d9.ac at_:=⟨_,rfl⟩;have hDl:D.length=st.d9.ac.length:=by rw[hD,Ek]
  rw[yC,←hD];rw[←hD]at hR;replace hD:=AA.mk hD;have gm:=hR.rep.box;simp only[Aq]at gm;have hl3:=Q2 hR.rep.arr;rw[hR.rep.am.len]at hl3;dsimp only at hl3;have h2:=hR.rep.sl 2 (by omega);have h0:=hR.rep.sl 0 (by omega);simp only[A8,GQ]at h2 h0;rcases h0 with⟨_,hz0⟩|⟨S,ys,h0,gS⟩
  .rw[Gt.1 hz0]at hDl;have:=hs.out.tree.pos;simp at hDl;omega
  rw[BI]at h0;have hSi:=V'.s_mem m (i:=0) (by omega) (id:=S) (by rw[h0];simp[AD]);have uS:=hR.apart hu.out (n:=b+19) (by omega) S hSi;have hwr: ∀w∈st.d9.waits,Dd D w.at_:=fun w hw=>by
   have:=hs.out.wait w hw;simp only[Bz,AP,Ap]at this;rw[Dd,hDl];exact this.1
  obtain⟨w2,hw2⟩: ∃w2,w2=V'.s 2:=⟨_,rfl⟩;rw[←hw2]at h2 gm;have huv: ∀i∈AD w2,Id.under ((b+19)::π) i=false∧i≠0::0::π∧i≠m∧i≠S:=fun i hi=>by
   have hWi:=V'.s_mem m (i:=2) (by omega) (id:=i) (by rw[←hw2];exact hi);obtain⟨x,hx⟩:=Eh h2 hi;exact⟨hR.apart hu.out (n:=b+19) (by omega) i hWi,fun e=>HN hR hu.out 0 (e▸hWi),fun e=>(by rw[e,gm]at hx;cases hx),fun e=>(by rw[e,gS]at hx;cases hx)⟩
  have hdel:=AA.mk (yA (h:=g) (π:=(b+19)::π) (m:=m) (bx:=0::0::π) (S:=S) (L:=D) ⟨k2,⟨_,_,_,_,_,_,_,_,_,_,_,_,by rw[gm,h0]⟩,⟨ys,gS⟩,AR π (by omega),AF um _,uS⟩ st.d9.waits h2 huv (by omega) hwr);have hgo:=AA.mk fun v=>H0 (N:=Hq (b+11) (b+31) π) (st:=⟨{st.d9 with ac:=D},EV,st.work⟩) (st':=⟨{st.d9 with ac:=D,waits:=st.d9.waits.filter fun w=> !AW D w.at_},EV,st.work⟩) 2 (by omega) hR.rep (hR.apartB hu.out) (tE rfl rfl rfl) rfl v
  have gm0:=AA.mk gm;replace h2:=AA.mk h2;replace hw2:=AA.mk hw2;replace huv:=AA.mk huv;replace hR:=AA.mk hR;replace hwr:=AA.mk hwr;replace hDl:=AA.mk hDl;refine ax ?_;refine Eu hdel.out (fun o1 g1 p1=>?_);obtain⟨v',rfl,p1,p3,⟨p4,p5⟩,p2⟩:=p1;have um2:=AF um (b+19);have Wm: ∀id∈AD w2,Id.is id m=false:=fun id hid=>AE (huv.out id hid).2.2.1;have gm2:=(Ab _ g1 _ um2).trans ((p2 m Wm um2).trans gm);have k3:=(Ab _ g1 _ (AR π (show 0≠b+19 by omega))).trans ((p2 (0::0::π) (fun id hid=>AE (huv.out id hid).2.1) (AR π (by omega))).trans k2);have hdf:=rj (h:=g) (h':=gc ((b+19)::π) g1) k2 (by rw[k3];simp[Obj.same,AV.sames,AV.same,is_self]);obtain⟨F,hF2⟩: ∃F,F=st.d9.waits.filter fun w=> !AW D w.at_:=⟨_,rfl⟩;rw[←hF2]at p1 hgo⊢;obtain⟨H3,hH3⟩: ∃H3,H3=(gc ((b+19)::π) g1).put m (.box [.em S 0 D.length,V'.s 1,V'.v3,v',.d (.be (p.free.map Av)),.d (.be (p.nodes.map Ad)),.d (.be (p.defs.map Ax)),.d (.int .i64 (p.main)),.d (.be (sz.map AK)),V'.v9,.mp V'.qr,V'.s 3,.d (.int .i64 (st.work))]):=⟨_,rfl⟩;have A1:H3.get m=some (.box (Aq p sz (V'.ii 2 v') st.work)):=by
   rw[hH3,get_put,is_self,←h0];rfl
  have A2:K9 H3 3 v' (F.map AU):=Db p1 fun id hid=>by
   rw[p3]at hid;have hh:=huv.out id hid;rw[hH3,get_put,AE fun e=>hh.2.2.1 e.symm,CS (by simp),Ab _ _ _ hh.1]
  obtain⟨V2,hr2,_⟩:=hR.out.step (b':=b+31) (by omega) (hgo.out v' H3 A1 A2 (.inl (by rw[p3,hw2.out])) fun id b1 b2 b3=>by rw[hH3,get_put,b1,CS (by simp),Ab _ _ _ (JL b3 (by omega) (by omega)),p2 id (by rw[hw2.out];exact b2) (JL b3 (by omega) (by omega))]);have k4:H3.get (0::0::π)=some (.box [.ptr m 0]):=by
   rw[hH3,get_put,e2,CS (by simp)];exact k3
  replace hF2:=AA.mk hF2;replace p1:=AA.mk p1;replace p2:=AA.mk p2;replace p3:=AA.mk p3;replace Wm:=AA.mk Wm;replace hr2:=AA.mk hr2;replace k4:=AA.mk k4;replace A1:=AA.mk A1;replace A2:=AA.mk A2;replace hH3:=AA.mk hH3
  (repeat' (first|simp only[go_sem, *,↓hl3,AM]|(refine sx ?_ ?_<;>intro hc)|refine sy (by omega) fun x hx hm=>?_|simp(disch:=first|assumption|omega) only[AJ]))
  rw[←hH3.out];have hv3:V2.v3=V'.v3:=qx (V:=V'.ii 2 v') (Obj.box.inj (NL (A1.out.symm.trans hr2.out.rep.box)));obtain⟨X3,hX3⟩: ∃X3,X3=V'.v3:=⟨_,rfl⟩;rw[←hX3]at hv3⊢;replace hX3:=AA.mk hX3;clear gm gm2 hdf k3 hl3 gS h0;clear hSi uS e1;refine AY st.d9.am _ (S:=fun m' i (a:AB×Nat)=>⟨[(2,.ptr (0::0::π) 0),(51,X3),(52,.d (.int .i64 (m'))),(53,.d (.int .i64 (i)))],a.1,a.2+31,[]⟩)
   (Inv:=fun i rest a=>a.1.get (0::0::π)=some (.box [.ptr m 0])∧AA (∃V',V'.v3=X3∧CU p sz π m V h (a.2+31) V' ⟨⟨D,st.d9.bi,NP D st.d9.am i,F⟩,EV,st.work⟩ a.1)) (b0:=(H3,b)) rfl ⟨k4.out,⟨V2,hv3,by rw[jU];exact hr2.out⟩⟩ ?_ ?_
  .clear hR1 hR;rintro i q ⟨g,b⟩ hq hi him ⟨k2,hR⟩ IH;dsimp only at*;obtain⟨V',hv,hR⟩:=hR.out;have gm:=hR.rep.box;simp only[Aq,hv]at gm;have hqa:=(Xt hF hs.out hq).at_;have q0:=hqa.1;have q1:=hqa.2;obtain⟨qv,hrow,hqs⟩:=hR.rep.am.row _ _ (Vz (l:=D) hq);rcases hR.rep.arr with⟨_,hA⟩|⟨A,hA,gA⟩
   .rw[hA]at hrow;simp at hrow
   have lA:=AH hrow;rw[hv]at hA;have hrl:V'.rows.length=st.d9.am.length:=by
    have:=hR.rep.am.len;simp only at this;rw[this,rY _ _ (by have:=AH hq;omega)]
   have hDl3:=hDl.out;obtain⟨sp,hsp⟩:=get_some (l:=D) (i:=q.at_.toNat) (by omega);obtain⟨S2,ys2,hSs,gS,xS,lS,lS2⟩:=JU (hR.rep.sl 0 (by omega)) hsp;simp only[GQ]at gS;rw[hSs]at gm;have hAi:=V'.v3_mem m (id:=A) (by rw[hv,hA];simp[AD]);have hSi:=V'.s_mem m (i:=0) (by omega) (id:=S2) (by rw[hSs];simp[AD]);have nA:=FQ (b':=0) hu.out (hR.ids A hAi);have nS:=FQ (b':=0) hu.out (hR.ids S2 hSi);have nM:=FQ (b':=0) hu.out (hR.ids m (V'.m_mem m));have bA: ∀k,Id.is A (0::k::π)=false:=fun k=>AE fun e=>HN hR hu.out k (by rw[←e];exact hAi);have hcu:AA (NP D st.d9.am (i+1)=(NP D st.d9.am i).set i (Rv D q)):=⟨jT hq⟩;have hdd:AW D q.at_=sp.dead:=by rw[AW,hsp];rfl
   have hgo:=AA.mk fun h'=>So (N:=Hq (b+31) (b+59) π) hR.rep (hR.apartB hu.out) (by rw[hv];exact hA) (Vz (l:=D) hq) hrow [] .ci h';have hqc:qv.isCell=true:=by rcases hqs with⟨rfl,_⟩|⟨_,_,rfl,_⟩<;>rfl
   have hqd:qv.cells=[qv]:=by rcases hqs with⟨rfl,_⟩|⟨_,_,rfl,_⟩<;>rfl
   have hrow0:=AA.mk hrow;simp only[A3]at hrow;replace hDl3:=AA.mk hDl3;replace hR:=AA.mk hR;replace hv:=AA.mk hv;replace hdd:=AA.mk hdd;replace hrl:=AA.mk hrl
   (repeat' (first|simp only[go_sem, *,AM]|(refine sx ?_ ?_<;>intro hc)|refine sy (by omega) fun x hx hm=>?_|simp(disch:=first|assumption|omega) only[AJ]))
   .have hcut:AA (Rv D q={q with queue:=[]}):=⟨by rw[Rv,hdd.out,hc,DO rfl]⟩
    obtain⟨H4,hH4⟩: ∃H4,H4=((g.put (0::(b+35)::π) (.box [.d (.int .i64 (0)),.d (.int .i64 (0)),.d (.int .i64 (0)),.ci])).put (0::(b+35)::π) (.box [.d (.int .i64 (q.group)),.d (.int .i64 (q.index)),.d (.int .i64 (q.at_)),qv])).put A (.arr 4 (V'.rows.set i [.d (.int .i64 (q.group)),.d (.int .i64 (q.index)),.d (.int .i64 (q.at_)),.ci])):=⟨_,rfl⟩;have B1:H4.get m=some (.box (Aq p sz V' st.work)):=by
     rw[hH4,get_put,AE (show A≠m from fun e=>by rw[e,gm]at gA;cases gA),get_put,nM _ _ (by omega),get_put,nM _ _ (by omega)];exact hR.out.rep.box
    have B0:H4.get A=some (.arr 4 (V'.rows.set i (A3 q .ci))):=by
     rw[hH4,get_put,is_self];rfl
    obtain⟨V3,hR3,_⟩:=hR.out.step (b':=b+59) (by omega) (hgo.out H4 B1 B0 (.inl ⟨rfl,rfl⟩) (.inr fun id hid=>by simp[AD]at hid) fun id b1 b2 b3 b4=>by rw[hH4,get_put,b2,get_put,DB b4 0 (b+35) (by omega) (by omega),get_put,DB b4 0 (b+35) (by omega) (by omega)];rfl);rw[←hH4];have B2:H4.get (0::0::π)=some (.box [.ptr m 0]):=by
     rw[hH4,get_put,bA,get_put,AE (by simp),get_put,AE (by simp)];exact k2
    have hv3:V3.v3=V'.v3:=qx (V:=V') (Obj.box.inj (NL (B1.symm.trans hR3.rep.box)));rw[←hA];refine IH.out (H4,b+28) ⟨B2,⟨V3,hv3.trans hv.out,?_⟩⟩;dsimp only;rw[hcu.out,hcut.out];exact hR3
   .have hcut:AA (Rv D q=q):=⟨by rw[Rv,hdd.out,hc,CS (by simp)]⟩;rw[←hA];refine IH.out (_,b+19) ⟨?_,⟨V',hv.out,?_⟩⟩
    .dsimp only;rw[get_put,AE (by simp),get_put,AE (by simp)];exact k2
    .dsimp only;rw[hcu.out,hcut.out,aI (Vz (l:=D) hq)];exact(hR.out.loc hu.out fun id hh=>by rw[get_put,hh 0 (b+35) (by omega),get_put,hh 0 (b+35) (by omega)];rfl).up (by omega)
  .rintro i ⟨g,b⟩ hi him ⟨k2,hR⟩;dsimp only at*;obtain⟨V',hv,hR⟩:=hR.out;rw[hi.out,rV]at hR;replace hR:=AA.mk hR;refine ax ?_;exact hR.out.fin
def Nm(e:List EK)(st:CK):CK:=⟨st.d9,e++st.ev,st.work⟩
theorem rl(p:AI)(j:Ga)(e:List EK)(st:CK):Jd p j (Nm e st)=(Jd p j st).map fun r=>(Nm e r.1,r.2):=by
 simp only[Jd];cases p.nodes[j.node.toNat]? with
 |none=>rfl
 |some x=>
  dsimp only;by_cases h2:x.op=2
  .simp only[h2,F3,Ec,Nm];by_cases k2:(IE j.env x.n).kind=2
   .simp only[k2,F3,El,EM]
   .by_cases k3:(IE j.env x.n).kind=3
    .simp only[k3,F3,Int.reduceEq,ES];cases P6 p st.d9 (IE j.env x.n).n (x.args.map (·.value j.env))<;>rfl
    .simp only[k2,k3,ES];rfl
  by_cases h3:x.op=3
  .simp only[h3,Int.reduceEq,ES,F3];rfl
  by_cases h4:x.op=4
  .simp only[h4,Int.reduceEq,ES,F3,Hh,Nm];cases p.defs[x.n.toNat]? with
   |none=>rfl
   |some d=>
    dsimp only;split<;>rename_i hc<;>simp[hc]
  by_cases h5:x.op=5
  .simp only[h5,Int.reduceEq,ES,F3];rfl
  by_cases h6:DS x.op=true
  .simp only[h2,h3,h4,h5,h6,ES,F3,IL,Nm];split<;>rename_i hc<;>simp[hc]
  .simp only[h2,h3,h4,h5,h6,ES];rfl
theorem gy{f:Ga→CK→Option CK}{e:List EK}(hf: ∀j st,f j (Nm e st)=(f j st).map (Nm e)): ∀(l:List Ga) (st:CK),Bn f l (Nm e st)=(Bn f l st).map (Nm e)
 |[],st=>rfl
 |j::l,st=>by
  rw[Bn,Bn,hf];cases f j st with
  |none=>rfl
  |some st1=>exact gy hf l st1
theorem V9(p:AI)(e:List EK): ∀(k:Nat) (j:Ga) (st:CK),Fb p k j (Nm e st)=(Fb p k j st).map (Nm e)
 |0,j,st=>rfl
 |k+1,j,st=>by
  rw[Fb,Fb];have hw:(Nm e st).work=st.work:=rfl;rw[hw];by_cases h:st.work<400
  .rw[DO h,DO h];have:=rl p j e {st with work:=st.work+1}
   rw[show({Nm e st with work:=st.work+1}:CK)=Nm e {st with work:=st.work+1}from rfl,this]
   cases Jd p j {st with work:=st.work+1}with
   |none=>rfl
   |some r=>exact gy (fun j st=>V9 p e k j st) r.2 r.1
  .rw[CS h,CS h];rfl
def JV(p:AI)(s:BM)(e:List EK)(x:FY):Option CK:=(EO p s x).map (Nm e)
theorem Uv(f:Ga→CK→Option CK)(j:Ga)(st:CK):Bn f [j] st=f j st:=by
 rw[Bn];cases f j st<;>rfl
section
variable{p:AI}{s:BM}{e:List EK}{i:Nat}{w:GI}{y:Cq}
theorem Lb(h1:s.waits[i]? =some w)(h2:p.nodes[w.node.toNat]? =some y):EO p s ⟨i,0,0,[]⟩=J7 p {s with waits:=CN s.waits i} w y:=by
 rw[EO,CS (by dsimp only;omega),MI];simp only[F9,h1,h2]
theorem fo(h1:s.waits[i]? =some w)(h2:p.nodes[w.node.toNat]? =some y)(ho:y.op=7):JV p s e ⟨i,0,0,[]⟩=some ⟨PZ {s with waits:=CN s.waits i} w.at_,e++[⟨3,w.at_,0,0,[]⟩],0⟩:=by
 rw[JV,Lb h1 h2,J7,DO ho];rfl
theorem wb(h1:s.waits[i]? =some w)(h2:p.nodes[w.node.toNat]? =some y)(ho:y.op=6){kd:Int}(hk:y.kids=[kd]){v:CT}(hv:IE w.env y.n=v):JV p s e ⟨i,0,0,[]⟩=Fb p 401 ⟨kd,w.at_,w.env⟩ ⟨{s with waits:=CN s.waits i,ac:=GY s.ac w.at_ v.n},e++[⟨2,w.at_,v.n,0,[]⟩],0⟩:=by
 rw[JV,Lb h1 h2,J7,CS (by omega),DO ho,hv,Bj,hk];simp only[Ex];rw[Uv];exact(V9 p e 401 _ _).symm
theorem fq(h1:s.waits[i]? =some w)(h2:p.nodes[w.node.toNat]? =some y)(ho:y.op=8){kd:Int}(hk:y.kids=[kd]){v:CT}(hv:IE w.env y.n=v):JV p s e ⟨i,0,0,[]⟩=Fb p 401 ⟨kd,w.at_,w.env⟩ ⟨{s with waits:=CN s.waits i},e++[⟨4,w.at_,v.n,0,[]⟩],0⟩:=by
 rw[JV,Lb h1 h2,J7,CS (by omega),CS (by omega),hv,Bj,hk];simp only[Ex];rw[Uv];exact(V9 p e 401 _ _).symm
end
variable{p:AI}{sz:List Int}
theorem xI{s:BM}{w:GI}{y:Cq}(hF:BD p sz)(h:RM p sz s w y)(ho: ¬y.op=7): ∃kd,y.kids=[kd]:=by
 have hj:Cl p sz s ⟨w.node,w.at_,w.env⟩:=⟨h.n0,h.size,h.at_,h.live,h.jp⟩;obtain⟨y2,l,h1,h2,_⟩:=KM hF hj;have h1:p.nodes[w.node.toNat]? =some y2:=h1;rw[h.node]at h1;cases h1;simp only[Cc,AP,Ap]at h2;have hk:=h2.1;have hl:y.kids.length=1:=by
  rcases h.op with e|e|e
  .rw[e]at hk;simpa[DN]using hk.symm
  .exact absurd e ho
  .rw[e]at hk;simpa[DN]using hk.symm
 match y.kids,hl with
 |[kd],_=>exact⟨kd,rfl⟩
variable{π:List Nat}{m:Abs.Id}{V:MV}{h:AB}
theorem ZC{V':MV}{H g1:AB}{b n:Nat}{st1:CK}{o:Ae}{r:Option CK}(hu:CC π V m)(hr:CU p sz π m V h b V' st1 H)(hn:b≤n)(ho:FL p sz (n::π) m V' H r o g1):FL p sz π m V h r o (gc (n::π) g1)∧(o=.ret (.ge [])∨o=.f9 (CL 3)):=by
 cases r with
 |none=>exact⟨hr.f9 hu hn ho,.inr ho.1⟩
 |some st2=>
  obtain⟨V2,h2,_⟩:=hr.call hu hn ho;obtain⟨rfl,_⟩:=ho;exact⟨h2.fin,.inl rfl⟩
theorem AEe(hF:BD p sz){st:CK}(hM:Dq p sz h m V st)(hu:CC π V m)(hs:E6 p sz st.d9){x:FY}(hx:Kc p st.d9 x)(hev:st.ev.length≤400000):
 ∃o h',KL Tryz.prog cfg (.fn 55) [.ptr m 0,AE8 x] h π true none=.ok (o,h')∧FL p sz π m V h (JV p st.d9 st.ev x) o h':=by
 have hm:=hM.box;simp only[Aq]at hm;have um:=hu m (V.m_mem m);have e1:=AG um;have e2:=Al um;have hss:=hs.small;simp only[BM.small,AP,Ap]at hss;obtain⟨s1,s2,s3,s4⟩:=hss;obtain⟨st0,hst0⟩: ∃st0:CK,st0=⟨st.d9,st.ev,0⟩:=⟨_,rfl⟩;have hrun:AA (∀H:AB,H.get m=some (.box (Aq p sz V 0))→(∀id,Id.is m id=false→Id.under π id=false→H.get id=h.get id)→CU p sz π m V h 0 V st0 H):=⟨fun H a1 a2=>by
  have:=U5 (st':=st0) hM hu (by rw[hst0];exact a1) (by rw[hst0];exact⟨rfl,rfl⟩) fun id b1 b2=>a2 id (AE fun e=>b1 e.symm) b2;exact⟨this.1,fun id hid=>.inl hid,this.2.frame⟩⟩
 replace hM:=AA.mk hM;replace hu:=AA.mk hu;replace hs:=AA.mk hs;cases hx with
 | @ut i k g d r t h1 h2 h3 h4 h5=>
   have hE:AA (JV p st.d9 st.ev ⟨-1,i,k,t⟩=Fb p 401 ⟨r.node,g.place d r.at_,g.env++(BO d g r.d8 t st.d9).1⟩ ⟨(BO d g r.d8 t st.d9).2,st.ev++[⟨1,g.place d r.at_,i,k,(BO d g r.d8 t st.d9).1⟩],0⟩):=⟨by
    have h1':st.d9.bi[((i:Nat):Int).toNat]? =some g:=h1;have h3':d.rules[((k:Nat):Int).toNat]? =some r:=h3;rw[JV,EO,DO (by dsimp only;omega),Z2];simp only[h1',(Fv h2).2,h3',O8];exact(V9 p st.ev 401 _ ⟨(BO d g r.d8 t st.d9).2,[⟨1,g.place d r.at_,i,k,(BO d g r.d8 t st.d9).1⟩],0⟩).symm⟩
   replace h5:=AA.mk h5;replace hst0:=AA.mk hst0;have hr1:CU p sz π m V h 0 V st0 ((h.put (0::0::π) (.box [.d (.int .i64 (-1)),.d (.int .i64 (i)),.d (.int .i64 (k)),.d (.be (t.map AK))])).put m (.box (Aq p sz V 0))):=hrun.out _ (by rw[get_put,is_self];rfl) fun id b1 b2=>by
    have q1:=AG b2;rw[get_put,b1,get_put,q1];rfl
   have hre:=AA.mk (vw hF (π:=10::π) (st:=st0) hr1.rep (hr1.apart hu.out (n:=10) (by omega)) (i:=i) (k:=k) (g:=g) (d:=d) (r:=r) (t:=t) (by rw[hst0.out];exact hs.out) (by rw[hst0.out];exact h1) h2 h3 (by rw[hst0.out];exact h4) (by rw[hst0.out];exact h5.out) (by rw[hst0.out]) (by rw[hst0.out];dsimp only;omega));have hfn:=AA.mk fun o g1 r=>ZC (o:=o) (g1:=g1) (r:=r) hu.out hr1 (show 0≤10 by omega);replace hr1:=AA.mk hr1
   (refine Ah rfl Tryz.func55 rfl rfl rfl ?_;show Wp _ _ _ _ (Tryz.f55.body.get rfl) _ _;simp only[Tryz.f55,AS])
   refine ax ?_;refine AX hre.out (fun o1 g1 p1=>?_);obtain⟨p2,p3⟩:=hfn.out _ _ _ p1;have hE2:FL p sz π m V h (JV p st.d9 st.ev ⟨-1,i,k,t⟩) o1 (gc (10::π) g1):=by
    rw[hE.out];rw[hst0.out]at p2;exact p2
   replace hE2:=AA.mk hE2;replace p1:=AA.mk p1;replace p2:=AA.mk p2;rcases p3 with rfl|rfl;all_goals
    refine ax ?_;exact hE2.out
 | @wait i w h1 h2=>
   obtain⟨y,hw⟩:=PK hF (hs.out.wait w (Ac h1));have hil:=AH h1;obtain⟨W,xs,hWs,gW,xW,lW,lW2⟩:=JU (hM.out.sl 2 (by omega)) h1;simp only[GQ]at gW;have hWi:=V.s_mem m (i:=2) (by omega) (id:=W) (by rw[hWs];simp[AD]);have uW:=hu.out W hWi;have a3:=AG uW;have a4:=Al uW;have Wm:Id.is W m=false:=AE fun e=>by rw[e,hm]at gW;cases gW
   have mW:Id.is m W=false:=AE fun e=>by rw[←e,hm]at gW;cases gW
   have hneg: ¬(i:Int)<0:=by omega
   have w1:IntKind.i64.wrap ((i:Int)+1)=(i:Int)+1:=wrap_id (by omega) (by omega);have hnd:=hw.node;have hn0:=hw.n0;have hnl:=AH hnd;have hm0:=AA.mk hm;rw[hWs]at hm;replace hst0:=AA.mk hst0;replace hw:=AA.mk hw;have hdel:=fun(H:AB) (n:Nat) (hH:H.get W=some (.co 3 (st.d9.waits.map AU++xs)))=>V7 (π:=n::π) hH (AF uW n) (n:=st.d9.waits.length) (a:=i) (by simp) (by omega) (by intro e he;obtain⟨x,_,rfl⟩:=F0.1 he;rfl) (by omega);replace hdel:=AA.mk hdel;obtain⟨H1,hH1⟩: ∃H1:AB,H1=(((h.put (0::0::π) (.box [.d (.int .i64 (i)),.d (.int .i64 (0)),.d (.int .i64 (0)),.d (.be [])])).put m (.box [V.s 0,V.s 1,V.v3,.em W 0 st.d9.waits.length,.d (.be (p.free.map Av)),.d (.be (p.nodes.map Ad)),.d (.be (p.defs.map Ax)),.d (.int .i64 (p.main)),.d (.be (sz.map AK)),V.v9,.mp V.qr,V.s 3,.d (.int .i64 (0))])).put (0::17::π) (.box [.d (.int .i64 (0)),.d (.int .i64 (0)),.ci])).put (0::17::π) (.box [.d (.int .i64 (w.at_)),.d (.int .i64 (w.node)),.d (.be (w.env.map AL))]):=⟨_,rfl⟩;have hr1:CU p sz π m V h 0 V st0 H1:=hrun.out H1 (by rw[hH1,get_put,e1,get_put,e1,get_put,is_self,CS (by simp),CS (by simp),DO rfl,Aq,hWs]) fun id b1 b2=>by
    have q1:=AG b2;rw[hH1,get_put,q1,get_put,q1,get_put,b1,get_put,q1];rfl
   have k0:H1.get (0::0::π)=some (.box [.d (.int .i64 (i)),.d (.int .i64 (0)),.d (.int .i64 (0)),.d (.be [])]):=by
    rw[hH1,get_put,AE (by simp),get_put,AE (by simp),get_put,e2,get_put,is_self];rfl
   have k17:H1.get (0::17::π)=some (.box [.d (.int .i64 (w.at_)),.d (.int .i64 (w.node)),.d (.be (w.env.map AL))]):=by
    rw[hH1,get_put,is_self];rfl
   clear k0;have gm1:H1.get m=some (.box [V.s 0,V.s 1,V.v3,.em W 0 st.d9.waits.length,.d (.be (p.free.map Av)),.d (.be (p.nodes.map Ad)),.d (.be (p.defs.map Ax)),.d (.int .i64 (p.main)),.d (.be (sz.map AK)),V.v9,.mp V.qr,V.s 3,.d (.int .i64 (0))]):=by rw[hr1.rep.box,Aq,hWs,hst0.out]
   have gW1:H1.get W=some (.co 3 (st.d9.waits.map AU++xs)):=by
    rw[hH1,get_put,a3,get_put,a3,get_put,mW,get_put,a3];exact gW
   (refine Ah rfl Tryz.func55 rfl rfl rfl ?_;show Wp _ _ _ _ (Tryz.f55.body.get rfl) _ _;simp only[Tryz.f55,AS])
   refine ax ?_;rw[←hH1];refine AX (hdel.out _ 30 gW1) (fun o1 g1 p1=>?_);obtain⟨rfl,⟨y2,p1⟩,p2⟩:=p1;have uW3:=AF uW 30;have um3:=AF um 30;have k17':=(Ab (30::π) g1 _ (AR π (show 17≠30 by omega))).trans ((p2 _ (a4 0 17)).trans k17);have gm3:=(Ab (30::π) g1 _ um3).trans ((p2 _ Wm).trans gm1);have gW3:=(Ab (30::π) g1 _ uW3).trans p1;obtain⟨s1',hs1'⟩: ∃s1:BM,s1={st.d9 with waits:=CN st.d9.waits i}:=⟨_,rfl⟩
   obtain⟨H2,hH2⟩: ∃H2,H2=((gc (30::π) g1).put m (.box [V.s 0,V.s 1,V.v3,.em W 0 (st.d9.waits.length-1),.d (.be (p.free.map Av)),.d (.be (p.nodes.map Ad)),.d (.be (p.defs.map Ax)),.d (.int .i64 (p.main)),.d (.be (sz.map AK)),V.v9,.mp V.qr,V.s 3,.d (.int .i64 (0))])):=⟨_,rfl⟩;have A1:H2.get m=some (.box (Aq p sz (V.ii 2 (.em W 0 (st.d9.waits.length-1))) 0)):=by rw[hH2,get_put,is_self];rfl
   have A2:K9 H2 3 (.em W 0 (st.d9.waits.length-1)) (A8 ⟨s1',st.ev,0⟩ 2):=by
    refine BZ y2 ?_ ?_
    .rw[hs1',A8,BI,Ud (by simpa using hil)]
    .rw[hH2,get_put,mW,CS (by simp),gW3,hs1',A8,CN,D0,S1,TO,F9]
   obtain⟨V2,hr2,_⟩:=(hr1.up (b':=30) (by omega)).step (b':=36) (by omega) (H0 (st':=⟨s1',st.ev,0⟩) 2 (by omega) hr1.rep ((hr1.up (b':=30) (by omega)).apartB hu.out) (tE (by rw[hs1',hst0.out]) (by rw[hs1',hst0.out]) (by rw[hst0.out])) (by rw[hs1',hst0.out]) (.em W 0 (st.d9.waits.length-1)) H2 A1 A2 (.inl (by rw[hWs];rfl)) fun id b1 b2 b3=>by rw[hH2,get_put,b1,CS (by simp),Ab _ _ _ (JL b3 (by omega) (by omega)),p2 id (b2 W (by rw[hWs];simp[AD]))]);have k17:H2.get (0::17::π)=some (.box [.d (.int .i64 (w.at_)),.d (.int .i64 (w.node)),.d (.be (w.env.map AL))]):=by
    rw[hH2,get_put,e2,CS (by simp)];exact k17'
   have gm4:=hr2.rep.box;have hVs:V2.s 0=V.s 0:=by
    have:=Obj.box.inj (NL (A1.symm.trans hr2.rep.box));simp only[Aq,NO]at this;exact this.1.symm
   simp only[Aq]at gm4;replace A1:=AA.mk A1;replace A2:=AA.mk A2;replace hH1:=AA.mk hH1;replace hr1:=AA.mk hr1;replace hs1':=AA.mk hs1';replace p1:=AA.mk p1;replace p2:=AA.mk p2;clear gm1 gW1 gW3;replace hH2:=AA.mk hH2;replace gm4:=AA.mk gm4;replace k17:=AA.mk k17;have hsw:E6 p sz s1':=by
    rw[hs1'.out];exact Mx hs.out (by have:=OJ st.d9.waits (i:Int);omega) fun v hv=>hs.out.wait v (MQ hv)
   have hwo:=hs.out.wait w (Ac h1);replace hsw:=AA.mk hsw;replace hwo:=AA.mk hwo;have hop:=hw.out.op;by_cases h7:y.op=7
   .have hE:AA (JV p st.d9 st.ev ⟨i,0,0,[]⟩=some ⟨PZ s1' w.at_,st.ev++[⟨3,w.at_,0,0,[]⟩],0⟩):=⟨by rw[hs1'.out];exact fo h1 hnd h7⟩;clear hop;replace h2:=AA.mk h2;replace hr2:=AA.mk hr2;have hst:=AA.mk fun H hl=>ABM hF (h:=H) (π:=53::π) (hr2.out.loc hu.out (H:=H) hl).rep (hr2.out.apart hu.out (n:=53) (by omega)) hsw.out (at_:=w.at_) (by have:=hwo.out;simp only[Bz,AP,Ap]at this;rw[hs1'.out];exact this.1) (by dsimp only;omega);have hfn:=AA.mk fun H hl o g1 r=>ZC (o:=o) (g1:=g1) (r:=r) hu.out (hr2.out.loc hu.out (H:=H) hl) (show 36≤53 by omega);refine ax ?_;rw[←hH2.out];have hloc: ∀o1 o2:Abs.Obj,∀id,(∀a n,36≤n→Id.is (a::n::π) id=false)→((H2.put (0::44::π) o1).put (0::44::π) o2).get id=H2.get id:=fun o1 o2 id hh=>by rw[get_put,hh 0 44 (by omega),get_put,hh 0 44 (by omega)];rfl
    refine AX (hst.out _ (hloc _ _)) (fun o1 g1 p1=>?_);obtain⟨q2,q3⟩:=hfn.out _ (hloc _ _) _ _ _ p1;replace q2:=AA.mk q2;obtain rfl:=p1.1;replace p1:=AA.mk p1;refine ax ?_;rw[hE.out];exact q2.out
   .obtain⟨v,hv,hvn,hvk⟩:=hw.out.val h7;obtain⟨kd,hkd⟩:=xI hF hw.out h7;obtain⟨n0,n1⟩:=hw.out.n h7;have hg:=h2;rw[lc,hnd]at hg;simp only[h7,ES,hvn]at hg;have hk4:v.kind=4:=by
     by_cases hk:v.kind=4
     .exact hk
     .rw[CS hk]at hg;cases hg
    rw[DO hk4]at hg;obtain⟨vr,vy,hvy,hvd⟩:=hvk hk4;have hv0:=vr.1;have hv1:=vr.2;have hat:=hw.out.at_;have hjk:=fun(s:BM) (h:Bz p sz s w=true)=>MJ hF h hnd 0;rw[show Bj y 0 w.at_ w.env=[⟨kd,w.at_,w.env⟩] by rw[Bj,hkd];rfl]at hjk;replace h2:=AA.mk h2;replace hvk:=AA.mk hvk;replace hr2:=AA.mk hr2;replace vr:=AA.mk vr;replace hjk:=AA.mk hjk;by_cases h6:y.op=6
    .rw[CS (by omega)]at hg;simp only[AP,Ap,Gs]at hg;have hpos:0<w.at_:=by have:=hat.1;omega
     have hat0:=hat.1;have hat1:=hat.2;obtain⟨sp,hsp⟩:=get_some (l:=st.d9.ac) (i:=w.at_.toNat) (by omega);have hmv:=KP hs.out hpos hat vr.out hg.2.1 hg.2.2;have hmv2:=KP hsw.out (i:=w.at_) (n:=v.n) hpos (by rw[hs1'.out];exact hat) (by rw[hs1'.out];exact vr.out) (by rw[hs1'.out];exact hg.2.1) (by rw[hs1'.out];exact hg.2.2);obtain⟨S,ys,hSs,gS,xS,lS,lS2⟩:=JU (hr2.out.rep.sl 0 (by omega)) (show s1'.ac[w.at_.toNat]? =some sp by rw[hs1'.out];exact hsp);simp only[GQ]at gS;have hsl:s1'.ac.length=st.d9.ac.length:=by rw[hs1'.out]
     have hset:AA (GY s1'.ac w.at_ v.n=s1'.ac.set w.at_.toNat {sp with of:=v.n}):=⟨by rw[GY,hs1'.out];simp only[hsp]⟩
     obtain⟨s2',hs2'⟩: ∃s2:BM,s2={s1' with ac:=GY s1'.ac w.at_ v.n}:=⟨_,rfl⟩
     have hE:AA (JV p st.d9 st.ev ⟨i,0,0,[]⟩=Fb p 401 ⟨kd,w.at_,w.env⟩ ⟨s2',st.ev++[⟨2,w.at_,v.n,0,[]⟩],0⟩):=⟨by rw[hs2',hs1'.out];exact wb h1 hnd h6 hkd hvn⟩;obtain⟨H3,hH3⟩: ∃H3,H3=(H2.put (0::44::π) (.box [.d (.int .i64 (0)),.d (.int .i64 (0)),.ci,.ci])).put (0::44::π) (.box [.d (.int .i64 (6)),.d (.int .i64 (y.n)),.d (.be (y.args.map BU)),.d (.be [[.int .i64 kd]])]):=⟨_,rfl⟩;have hr3:CU p sz π m V h 52 V2 ⟨s1',st.ev,0⟩ H3:=(hr2.out.loc hu.out (H:=H3) fun id hh=>by rw[hH3,get_put,hh 0 44 (by omega),get_put,hh 0 44 (by omega)];rfl).up (by omega);have hSi:=V2.s_mem m (i:=0) (by omega) (id:=S) (by rw[hSs];simp[AD]);have nS:=FQ (b':=0) hu.out (hr2.out.ids S hSi);have bS: ∀k,Id.is S (0::k::π)=false:=fun k=>AE fun e=>HN hr2.out hu.out k (by rw[←e];exact hSi);have hSm:Id.is S m=false:=AE fun e=>by rw[e,hr2.out.rep.box]at gS;cases gS
     have hmS:Id.is m S=false:=AE fun e=>by rw[←e,hr2.out.rep.box]at gS;cases gS
     have gS3:(gc (30::π) g1).get S=some (.co 2 (s1'.ac.map Aa++ys)):=by
      have h9:=gS
      rwa [hH2.out,get_put,hmS,CS (by simp)]at h9
     have hH2b:=hH2.out;rw[←hVs,hSs,hsl]at gm3 hH2b;have hS3:H3.get S=some (.co 2 (s1'.ac.map Aa++ys)):=by
      rw[hH3,get_put,AE (fun e=>by have:=bS 44;rw[e,is_self]at this;cases this),get_put,AE (fun e=>by have:=bS 44;rw[e,is_self]at this;cases this)];exact gS
     obtain⟨H4,hH4⟩: ∃H4,H4=H3.put S (.co 2 ((s1'.ac.map Aa++ys).set w.at_.toNat [.int .i64 v.n,.bool sp.dead])):=⟨_,rfl⟩;have hst2:s2'.ac.map Aa++ys=(s1'.ac.map Aa++ys).set w.at_.toNat [.int .i64 v.n,.bool sp.dead]:=by
      rw[hs2',hset.out,List.set_append_left _ _ (by simp;omega),JP];rfl
     have B1:H4.get m=some (.box (Aq p sz (V2.ii 0 (.em S 0 s1'.ac.length)) 0)):=by
      rw[hH4,get_put,hSm,CS (by simp),hr3.rep.box];simp only[Aq,←hSs];rfl
     have B2:K9 H4 2 (.em S 0 s1'.ac.length) (A8 ⟨s2',st.ev,0⟩ 0):=by
      refine BZ ys ?_ ?_
      .rw[A8,BI,hs2',Hp]
      .rw[hH4,get_put,is_self,DO rfl,A8,hst2]
     obtain⟨V3',hr5,_⟩:=hr3.step (b':=69) (by omega) (H0 (st':=⟨s2',st.ev,0⟩) 0 (by omega) hr3.rep (hr3.apartB hu.out) (tD (by rw[hs2']) (by rw[hs2']) rfl) (by rw[hs2']) (.em S 0 s1'.ac.length) H4 B1 B2 (.inl (by rw[hSs])) fun id b1 b2 b3=>by rw[hH4,get_put,b2 S (by rw[hSs];simp[AD])];rfl);have k44:H4.get (0::44::π)=some (.box [.d (.int .i64 (6)),.d (.int .i64 (y.n)),.d (.be (y.args.map BU)),.d (.be [[.int .i64 kd]])]):=by rw[hH4,get_put,bS,CS (by simp),hH3,get_put,is_self];rfl
     have k17b:H4.get (0::17::π)=some (.box [.d (.int .i64 (w.at_)),.d (.int .i64 (w.node)),.d (.be (w.env.map AL))]):=by
      rw[hH4,get_put,bS,CS (by simp),hH3,get_put,AE (by simp),get_put,AE (by simp)];exact k17.out
     replace B1:=AA.mk B1;replace B2:=AA.mk B2;replace hst2:=AA.mk hst2;replace hS3:=AA.mk hS3;replace hr5:=AA.mk hr5;replace k44:=AA.mk k44;replace k17b:=AA.mk k17b;replace hH4:=AA.mk hH4;replace hH2b:=AA.mk hH2b;rw[hsl]at lS lS2;replace hr3:=AA.mk hr3;replace hH3:=AA.mk hH3;replace hs2':=AA.mk hs2';replace hmv:=AA.mk hmv;replace hmv2:=AA.mk hmv2;replace hg:=AA.mk hg;replace hvn:=AA.mk hvn;replace hat:=AA.mk hat;replace hVs:=AA.mk hVs;refine ax ?_;rw[←hH2b.out,←hH3.out,←hH4.out];refine AX (JB (V:=V3') (st:=⟨s2',st.ev,0⟩) hr5.out.rep (hr5.out.apart hu.out (n:=79) (by omega)) 2 w.at_ v.n 0 [] (by simp) (by dsimp only;omega)) (fun o1 g1 p1=>?_);obtain⟨V4,hr4,_⟩:=hr5.out.call hu.out (n:=79) (by omega) p1;have m17:=(hr5.out.box hu.out (k:=17) (by omega) p1).trans k17b.out;have m44:=(hr5.out.box hu.out (k:=44) (by omega) p1).trans k44.out;obtain rfl:=p1.1;have gm6:=hr4.rep.box;simp only[Aq]at gm6;have hend:=AA.mk fun H2=>OG hF hu.out hr4 (j:=⟨kd,w.at_,w.env⟩) ⟨by rw[hs2'.out];exact hmv2.out,by dsimp only;omega,by dsimp only;omega,by dsimp only;omega,by simp;omega⟩ (by rw[hs2'.out,hs1'.out];exact Ig (hjk.out _ (hmv.out.wait w (Ac h1)) ⟨kd,w.at_,w.env⟩ (by simp)) (CN st.d9.waits i)) H2 89 (by omega);replace hr4:=AA.mk hr4;replace p1:=AA.mk p1;refine ax ?_;refine AX (hend.out _ fun id hh=>rfl) (fun o2 g2 q2=>?_);obtain⟨q2,q3⟩:=q2;rw[←hE.out]at q2;replace q2:=AA.mk q2;rcases q3 with rfl|rfl;all_goals
      refine ax ?_;exact q2.out
    .have h8:y.op=8:=by omega
     have hE:AA (JV p st.d9 st.ev ⟨i,0,0,[]⟩=Fb p 401 ⟨kd,w.at_,w.env⟩ ⟨s1',st.ev++[⟨4,w.at_,v.n,0,[]⟩],0⟩):=⟨by rw[hs1'.out];exact fq h1 hnd h8 hkd hvn⟩;replace hg:=AA.mk hg;replace hvn:=AA.mk hvn;obtain⟨H3,hH3⟩: ∃H3,H3=(H2.put (0::44::π) (.box [.d (.int .i64 (0)),.d (.int .i64 (0)),.ci,.ci])).put (0::44::π) (.box [.d (.int .i64 (8)),.d (.int .i64 (y.n)),.d (.be (y.args.map BU)),.d (.be [[.int .i64 kd]])]):=⟨_,rfl⟩;have hr3:CU p sz π m V h 54 V2 ⟨s1',st.ev,0⟩ H3:=(hr2.out.loc hu.out (H:=H3) fun id hh=>by rw[hH3,get_put,hh 0 44 (by omega),get_put,hh 0 44 (by omega)];rfl).up (by omega);have k44:H3.get (0::44::π)=some (.box [.d (.int .i64 (8)),.d (.int .i64 (y.n)),.d (.be (y.args.map BU)),.d (.be [[.int .i64 kd]])]):=by rw[hH3,get_put,is_self];rfl
     have k17b:H3.get (0::17::π)=some (.box [.d (.int .i64 (w.at_)),.d (.int .i64 (w.node)),.d (.be (w.env.map AL))]):=by
      rw[hH3,get_put,AE (by simp),get_put,AE (by simp)];exact k17.out
     replace hr3:=AA.mk hr3;replace k44:=AA.mk k44;replace k17b:=AA.mk k17b;replace hH3:=AA.mk hH3;refine ax ?_;rw[←hH2.out,←hH3.out];refine AX (JB (V:=V2) (st:=⟨s1',st.ev,0⟩) hr3.out.rep (hr3.out.apart hu.out (n:=64) (by omega)) 4 w.at_ v.n 0 [] (by simp) (by dsimp only;omega)) (fun o1 g1 p1=>?_);obtain⟨V3,hr4,_⟩:=hr3.out.call hu.out (n:=64) (by omega) p1;have m17:=(hr3.out.box hu.out (k:=17) (by omega) p1).trans k17b.out;have m44:=(hr3.out.box hu.out (k:=44) (by omega) p1).trans k44.out;obtain rfl:=p1.1;have gm6:=hr4.rep.box;simp only[Aq]at gm6;have hend:=AA.mk fun H2=>OG hF hu.out hr4 (j:=⟨kd,w.at_,w.env⟩) ⟨hsw.out,by dsimp only;omega,by dsimp only;omega,by dsimp only;omega,by simp;omega⟩ (by rw[hs1'.out];exact Ig (hjk.out _ hwo.out ⟨kd,w.at_,w.env⟩ (by simp)) _) H2 74 (by omega);replace hr4:=AA.mk hr4;replace p1:=AA.mk p1;refine ax ?_;refine AX (hend.out _ fun id hh=>rfl) (fun o2 g2 q2=>?_);obtain⟨q2,q3⟩:=q2;rw[←hE.out]at q2;replace q2:=AA.mk q2;rcases q3 with rfl|rfl;all_goals
      refine ax ?_;exact q2.out
def qL(sz:Nat)(π:List Nat)(h:AB)(v:AV)(L:List (List AZ))(o:Ae)(h':AB):Prop:= ∃v',o=.ret v'∧K9 h' sz v' L∧(∀id∈AD v',id∈AD v∨(Id.under π id=true∧ ∃l,id=1::l))∧ ∀id,id∉AD v→Id.under π id=false→h'.get id=h.get id
structure GF(sz:Nat)(π:List Nat)(h:AB)(v:AV)(b:Nat)(g:AB)(w:AV)(L:List (List AZ)):Prop where
 slv:K9 g sz w L
 ids: ∀id∈AD w,id∈AD v∨ ∃n,n<b∧Id.under (n::π) id=true∧ ∃l,id=1::l
 frame: ∀id,id∉AD v→Id.under π id=false→g.get id=h.get id
section
variable{sz:Nat}{π:List Nat}{h g H g1:AB}{v w:AV}{b k:Nat}{L L':List (List AZ)}{o:Ae}
theorem GF.not(hu: ∀id∈AD v,Id.under π id=false)(hI:GF sz π h v b g w L){id:Abs.Id}(hid:id∈AD w)(a n:Nat)(hn:b≤n):Id.is (a::n::π) id=false:=by
 rcases hI.ids id hid with h|⟨m,h1,h2,_⟩
 .exact AG (hu id h) a n
 .refine AE fun e=>?_;subst e;have:=Bg h2 (n':=n) (under_iff.2 ⟨[a],rfl⟩);omega
theorem GF.apart(hu: ∀id∈AD v,Id.under π id=false)(hI:GF sz π h v b g w L){id:Abs.Id}(hid:id∈AD w)(hk:b≤k):Id.under (k::π) id=false:=by
 rcases hI.ids id hid with h|⟨m,h1,h2,_⟩
 .exact AF (hu id h) k
 .cases hx:Id.under (k::π) id with
  |false=>rfl
  |true=>
   have:=Bg h2 hx;omega
theorem GF.loc(hu: ∀id∈AD v,Id.under π id=false)(hI:GF sz π h v b g w L)(hl: ∀id,(∀a n,b≤n→Id.is (a::n::π) id=false)→H.get id=g.get id):GF sz π h v b H w L:=
 ⟨Db hI.slv fun id hid=>hl id fun a n hn=>hI.not hu hid a n hn,hI.ids,fun id h1 h2=>by rw[hl id fun a n _=>AG h2 a n];exact hI.frame id h1 h2⟩
theorem GF.up(hI:GF sz π h v b g w L){b':Nat}(hb:b≤b'):GF sz π h v b' g w L:=⟨hI.slv,fun id hid=>(hI.ids id hid).imp_right fun⟨n,h1,h2⟩=>⟨n,by omega,h2⟩,hI.frame⟩
theorem GF.call(hu: ∀id∈AD v,Id.under π id=false)(hI:GF sz π h v b H w L)(hk:b≤k)(ho:qL sz (k::π) H w L' o g1): ∃w',o=.ret w'∧GF sz π h v (k+1) (gc (k::π) g1) w' L':=by
 obtain⟨w',h1,h2,h3,h4⟩:=ho;have hw: ∀id∈AD w',(gc (k::π) g1).get id=g1.get id:=fun id hid=>by
  rcases h3 id hid with e|⟨_,l,rfl⟩
  .exact Ab _ _ _ (hI.apart hu e hk)
  .exact E2 _ _ _
 refine⟨w',h1,Db h2 hw,fun id hid=>?_,fun id a1 a2=>?_⟩
 .rcases h3 id hid with e|e
  .exact(hI.ids id e).imp_right fun⟨n,q1,q2⟩=>⟨n,by omega,q2⟩
  .exact .inr ⟨k,by omega,e⟩
 .rw[Ab _ _ _ (AF a2 k),h4 id (fun hw=>?_) (AF a2 k)]
  .exact hI.frame id a1 a2
  .rcases hI.ids id hw with hh|⟨n,_,q2,_⟩
   .exact a1 hh
   .rw[BR q2]at a2;cases a2
theorem GF.fin(hI:GF sz π h v b g w L):qL sz π h v L (.ret w) g:=⟨w,rfl,hI.slv,fun id hid=>(hI.ids id hid).imp_right fun⟨n,_,q2,q3⟩=>⟨BR q2,q3⟩,hI.frame⟩
end
end Go.Proofs
