/-
  Parts of it.
-/
import Derived.Test.YtbinfhpngacfgaaGreatKe11
import Derived.Test.YtbinfhpngacfgaaGreatKe12
set_option linter.all false
namespace Go.Proofs
open Go Go.Abs
set_option maxRecDepth 100000
set_option maxHeartbeats 4000000
structure Ra(p:AL)(sz:List Int)(π:List Nat)(m:Abs.Id)(V:MV)(h:AD)(st:Ck)(d:Bs)(g:Al)(r:FG)(t:List Int)(j b:Nat)(v:AV)(H:AD)(V':MV)(s':BF)(L:List CV):Prop where
 run:Cb p sz π m V h b V' ⟨s',st.ev,0⟩ H
 env:Og π H b v L
 out: ∀i∈AF v,i∉V'.ids m
 ne:L=[]→v=.co
 pm:FH p sz s'
 all:BM d g r.d7 t st.em=(L++(BM d g (r.d7.drop j) (t.drop j) s').1,(BM d g (r.d7.drop j) (t.drop j) s').2)
 bv:s'.bv=st.em.bv
 ac:s'.ac=st.em.ac
 nc:s'.am.length=st.em.am.length
 rest: ∀(i:Nat) c k,j≤i→r.d7[i]? =some c→t[i]? =some k→0≤k∧ ∃q,s'.am[(g.own d true c).toNat]? =some q∧k.toNat<q.queue.length∧q.queue.length≤12∧EP p s' q=((d.am[c.toNat]?).map Hy.many).getD 0
 len:L.length≤30*j
variable{p:AL}{sz:List Int}{n a:Nat}{q:Fo}{msg:List CV}
theorem ju{s:BF}{d:Bs}{c:Int}(hd:Od d)(hs:FH p sz s)(hq:s.am[n]? =some q)(hmsg:q.queue[a]? =some msg)(hm:EP p s q=((d.am[c.toNat]?).map Hy.many).getD 0):msg.length≤3:=by
 have h1:=(hs.que _ q hq).msgs msg (Ac hmsg);simp only[FA,AP,Ap]at h1;rw[hm]at h1;cases hc:d.am[c.toNat]? with
 |none=>
  rw[hc]at h1;simp only[Option.map_none,Option.getD_none]at h1;omega
 |some ch=>
  rw[hc]at h1;have h2:=(hd.chan ch (Ac hc)).2.2;have h3:=h1.1;simp only[Es,F4]at h3;omega
variable{π:List Nat}{m:Abs.Id}{V V':MV}{h g H:AD}{b:Nat}{st:Ck}
theorem Cb.oth(hr:Cb p sz π m V h b V' st g){x:Abs.Id}(hx:x∉V'.ids m)(hxu:Id.under π x=true)(hl: ∀id,id≠x→H.get id=g.get id):Cb p sz π m V h b V' st H:=
 ⟨Ba hr.rep fun id hid=>hl id fun e=>hx (e▸hid),hr.ids,fun id h1 h2=>by rw[hl id fun e=>by rw[e,hxu]at h2;cases h2];exact hr.frame id h1 h2⟩
theorem Cb.new(hu:Ca π V m)(hr:Cb p sz π m V h b V' st g)(a n:Nat)(hn:b≤n):a::n::π∉V'.ids m:=fun hh=>by
 have:=Fe (b':=0) hu (hr.ids _ hh) a n hn;rw[is_self]at this;cases this
variable{b':Nat}
theorem Jg{id:Abs.Id}(h:IB b b' π id=false)(h1:b≤n)(h2:n<b'):Id.under (n::π) id=false:=by
 cases hx:Id.under (n::π) id with
 |false=>rfl
 |true=>have:=Jf.2 ⟨n,h1,h2,hx⟩;rw[h]at this;cases this
theorem iC{d:Bs}{g:Al}{r:FG}{t:List Int}{j:Nat}{v:AV}{s':BF}{L:List CV}(hR:Ra p sz π m V h st d g r t j b v H V' s' L)(hu:Ca π V m)(hd:Od d){c:Int}{A Q:Abs.Id}(hc:r.d7[j]? =some c)(hk:t[j]? =some (a:Int))(hq:s'.am[(g.own d true c).toNat]? =some q)(hmsg:q.queue[a]? =some msg)(hm:EP p s' q=((d.am[c.toNat]?).map Hy.many).getD 0)
 (hA:V'.v3=.eq A 0 V'.rows.length) (hrow:V'.rows[(g.own d true c).toNat]? =some (A5 q (.eq Q 0 q.queue.length))) (hdi: ∀i c2,j<i→r.d7[i]? =some c2→(g.own d true c2).toNat≠(g.own d true c).toNat) {b1:Nat} (hb:b1≤b') (v':AV) (H2 G:AD) (hrun:Cb p sz π m V h b1 V' ⟨s',st.ev,0⟩ H2) (a1:G.get m=H2.get m) (a0:G.get A=some (.arr 4 (V'.rows.set (g.own d true c).toNat (A5 q (.eq Q 0 (q.queue.length-1)))))) (a2: ∃y,G.get Q=some (.d9 1 ((q.queue.map BG).take a++(q.queue.map BG).drop (a+1)++y)))
 (a4: ∀id,Id.is m id=false→Id.is A id=false→Id.is Q id=false→IB b1 b' π id=false→G.get id=H2.get id) (he:Og π G b' v' (L++msg)) (ho: ∀i∈AF v',i∉V'.ids m∧IB b1 b' π i=false) (hz:L++msg=[]→v'=.co): ∃V2 s2 L2,Ra p sz π m V h st d g r t (j+1) b' v' G V2 s2 L2:=by
 have hkq:=AI hmsg;have hel:(Bh q.queue a).length=q.queue.length-1:=VG (by simpa using hkq);have hem:(Bh q.queue a).map BG=(q.queue.map BG).take a++(q.queue.map BG).drop (a+1):=by rw[Bh,D1,List.map_take,List.map_drop];rfl
 have hS:Ju G 1 (.eq Q 0 (q.queue.length-1)) ((Bh q.queue a).map BG):=by
  obtain⟨y,hy⟩:=a2;exact .inr ⟨Q,y,by rw[BI,hel],by rw[hem];exact hy⟩
 obtain⟨V2,z1,z2⟩:=hrun.step (b':=b') hb (TT hrun.rep (hrun.apartB hu) hA hq hrow (Bh q.queue a) (.eq Q 0 (q.queue.length-1)) G (a1.trans hrun.rep.box) a0 hS (.inl rfl) (fun id b1 b2 b3 b4=>a4 id b1 b2 (b3 Q (by simp[AF])) b4));obtain⟨t1,t2,t3,t4,t5⟩:=bw hR.pm hq (k:=a) (by simpa using hkq);have e:EC s' (g.own d true c) a=(msg,{s' with am:=s'.am.set (g.own d true c).toNat {q with queue:=Bh q.queue a}}):=by rw[EC,hq];simp[hmsg]
 rw[e]at t1 t2 t3 t4 t5;have hml:=ju hd hR.pm hq hmsg hm;refine⟨V2,_,L++msg,z1,he,fun i hi=>z2 i (ho i hi).1 (ho i hi).2,hz,t1,?_,t2.bv.trans hR.bv,t2.ac.trans hR.ac,t2.len.trans hR.nc,fun i c2 k2 hi e1 e2=>?_,by have:=hR.len;rw[Bi];omega⟩
 .rw[hR.all,AR hc,AR hk,BM,e,D9]
 .obtain⟨f1,q2,f2,f3,f4,f5⟩:=hR.rest i c2 k2 (by omega) e1 e2;refine⟨f1,q2,by rw[t5 _ (hdi i c2 (by omega) e1)];exact f2,f3,f4,?_⟩;rw[←f5,EP,EP,t2.bv]
theorem yz(d:Bs)(g:Al)(ks:List Int)(s:BF):BM d g [] ks s=([],s):=by
 rw[BM];intro c cs k ks e;cases e
theorem Cb.locU(hu:Ca π V m)(hr:Cb p sz π m V h b V' st g)(hl: ∀id,(∀n,b≤n→Id.under (n::π) id=false)→H.get id=g.get id):Cb p sz π m V h b V' st H:=
 ⟨Ba hr.rep fun id hid=>hl id fun n hn=>hr.apart hu hn id hid,hr.ids,fun id h1 h2=>by rw[hl id fun n _=>AG h2 n];exact hr.frame id h1 h2⟩
theorem O1(hF:BK p sz)(hu:Ca π V m)(hr:Cb p sz π m V h b V' st g)(hI:Pw p sz 401 st){j:Hf}(hj:Cv p sz st.em j)(H:AD)(n:Nat)(hn:b≤n)(hl: ∀id,(∀k,b≤k→Id.under (k::π) id=false)→H.get id=g.get id):
 ∃o g1,KL Tryz.prog cfg (.fn 66) [.ptr m 0,.d (.int .i64 (j.node)),.d (.int .i64 (j.at_)),.d (.be (j.env.map AN))] H (n::π) true none=.ok (o,g1)∧FI p sz π m V h (GD p 401 j st) o (gc (n::π) g1)∧(o=.ret (.ge [])∨o=.f9 (CL 3)):=by
 have hr2:=hr.locU hu hl;obtain⟨o,g1,e1,e2⟩:=Rb hF 401 H (n::π) m V' st j hr2.rep (hr2.apart hu hn) hI.pm hj hI.w0 hI.w1 hI.w2 hI.ev;refine⟨o,g1,e1,?_⟩;cases hd:GD p 401 j st with
 |none=>rw[hd]at e2;exact⟨hr2.f9 hu hn e2,.inr e2.1⟩
 |some st2=>
  rw[hd]at e2;obtain⟨V2,h2,_⟩:=hr2.call hu hn e2;obtain⟨rfl,_⟩:=e2;exact⟨h2.fin,.inl rfl⟩
theorem yW{p:AL}{sz:List Int}(hF:BK p sz){h:AD}{π:List Nat}{m:Abs.Id}{V:MV}{st:Ck}(hM:Dw p sz h m V st)(hu:Ca π V m)(hs:FH p sz st.em){i k:Nat}{g:Al}{d:Bs}{r:FG}{t:List Int}(h1:st.em.bv[i]? =some g)(h2:p.def? g.f8=some d)(h3:d.rules[k]? =some r)(h4:AY st.em.ac (g.place d r.at_)=false)(h5:Below (BP st.em d g r) t)(hw:st.work=0)(hev:st.ev.length≤500000):
 ∃o h',KL Tryz.prog cfg (.fn 100) [.ptr m 0,OW ⟨-1,i,k,t⟩] h π true none=.ok (o,h')∧FI p sz π m V h (GD p 401 ⟨r.node,g.place d r.at_,g.env++(BM d g r.d7 t st.em).1⟩ ⟨(BM d g r.d7 t st.em).2,st.ev++[⟨1,g.place d r.at_,i,k,(BM d g r.d7 t st.em).1⟩],0⟩) o h':=by
 obtain⟨d2,hd⟩:=hs.grp i g h1;have hd2:=hd.f8;rw[h2]at hd2;cases hd2;obtain⟨g0,hdd⟩:=Dx hd.f8;have hdl:=AI hdd;have hrl:=AI h3;have hri:=Ix hF hs h1 hd (Ac h3);have hjl:=hri.j1;have htl:t.length=r.d7.length:=by have:=h5.len;rw[BP,BI]at this;exact this
 have hm:=hM.box;have um:=hu m (V.m_mem m);simp only[Au]at hm;have e1:=AH um;have e2:=Ak um;obtain⟨W,xs,hWs,gW,xW,lW,lW2⟩:=Jl (hM.sl 1 (by omega)) h1;have uW:=hu W (V.s_mem m (i:=1) (by omega) (by rw[hWs];simp[AF]));have a3:=AH uW;have a4:=Ak uW;simp only[Gg]at gW;have hss:=hs.small;simp only[BF.small,AP,Ap]at hss;obtain⟨s1,s2,s3,s4⟩:=hss;have hm0:=AA.mk hm;rw[hWs]at hm;have hdif:AA (∀(a b:Nat) c c2,a<b→r.d7[a]? =some c→r.d7[b]? =some c2→(g.own d true c2).toNat≠(g.own d true c).toNat):=⟨fun a b c c2 hab e1 e2=>by
  have hro:=(B3 hF hdd).ok.i9 r (Ac h3);simp only[Bd,AP,Ap]at hro;have:=N3 rfl hro.2.2.2 b a c2 c (I5 _) hab e2 e1;obtain⟨q1,q2,_⟩:=hri.join c (Ac e1);obtain⟨q3,q4,_⟩:=hri.join c2 (Ac e2);have:=Ko hd.wt q1 q2;have:=Ko hd.wt q3 q4;omega⟩
 have hjob:=AA.mk (Pk hF hs h1 h2 h3 h4 h5);replace hM:=AA.mk hM;replace hu:=AA.mk hu;replace hs:=AA.mk hs;replace hd:=AA.mk hd;replace h5:=AA.mk h5;replace hri:=AA.mk hri;replace hWs:=AA.mk hWs
 (refine Aj rfl Tryz.func100 rfl rfl rfl ?_;show Wp _ _ _ _ (Tryz.f100.body.get rfl) _ _;simp only[Tryz.f100,AS])
 refine ax ?_;refine AX r.d7 _ (S:=fun m' j (a:(AV×AD)×Nat)=>⟨[(0,.ptr m 0),(3,.ptr (0::0::π) 0),(4,.ptr (0::10::π) 0),(5,.ptr (0::26::π) 0),(6,a.1.1),(35,.d (.be (r.d7.map AJ))),(36,.d (.int .i64 (m'))),(37,.d (.int .i64 (j)))],a.1.2,a.2+33,[]⟩)
  (Inv:=fun j rest a=>AA (∃V' s' L,Ra p sz π m V h st d g r t j (a.2+33) a.1.1 a.1.2 V' s' L)∧a.1.2.get (0::0::π)=some (.box [.d (.int .i64 (-1)),.d (.int .i64 (i)),.d (.int .i64 (k)),.d (.be (t.map AJ))])∧a.1.2.get (0::10::π)=some (.box [.d (.int .i64 (g.f8)),.d (.int .i64 (g.at_)),.d (.be (g.env.map AN))])∧a.1.2.get (0::26::π)=some (.box [.d (.int .i64 (r.at_)),.d (.be (r.d7.map AJ)),.d (.int .i64 (r.node))])) (b0:=((_,_),0)) rfl ⟨⟨V,st.em,[],?_⟩,?_,?_,?_⟩ ?_ ?_
 .refine⟨⟨Ba (h:=h) ?_ fun id hid=>?_,fun id hid=>.inl hid,fun id _ hh=>?_⟩,.inl ⟨rfl,rfl⟩,by simp[AF],fun _=>rfl,hs.out,?_,rfl,rfl,rfl,fun i2 c k2 _ f1 f2=>?_,by simp⟩
  .have:=hM.out
   rwa [show st=⟨st.em,st.ev,0⟩ by rw[←hw]]at this
  .have q1:=AH (hu.out id hid);simp only[go_sem,q1,AM]
  .have q1:=AH hh;simp only[go_sem,q1,AM]
  .simp
  .obtain⟨q1,q2,q3,q,q4,q5,q6⟩:=hri.out.join c (Ac f1);obtain⟨b1,b2⟩:=Om h5.out i2 _ k2 (by rw[BP,D2,f1];rfl) f2;have b2:k2<(Kr st.em (g.own d true c):Nat):=b2;rw[q6]at b2;refine⟨b1,q,q4,by omega,q5,?_⟩;obtain⟨ch,hch⟩:=get_some (l:=d.am) (i:=c.toNat) (by omega);obtain⟨q7,g1,g2,g3,_⟩:=hd.out.am _ ch hch;have:=Ko hd.out.wt q1 q2;rw[show(g.own d true c).toNat=(GZ p (st.em.bv.take i)).1+c.toNat by omega,g1]at q4;cases q4;rw[NH h1 h2 hch g2 g3,hch];rfl
 .simp only[go_sem]
 .simp only[go_sem]
 .simp only[go_sem]
 .clear hm gW xW lW lW2 a3 a4 hm0;rintro j c ⟨⟨v,H⟩,b⟩ hc hj hjm ⟨hR,k3,k4,k5⟩ IH;dsimp only at*;obtain⟨V',s',L,hR⟩:=hR.out;have hM2:=hR.run.rep;have hm2:=hM2.box;simp only[Au]at hm2;obtain⟨kk,hkk⟩:=get_some (l:=t) (i:=j) (by omega);obtain⟨kk0,q,hq,hkq,hq12,hmany⟩:=hR.rest j c kk (EX _) hc hkk;obtain⟨a,rfl⟩: ∃a:Nat,kk=a:=⟨kk.toNat,by omega⟩;rw[GO]at hkq;obtain⟨c0,c1,o0,_⟩:=hri.out.join c (Ac hc);obtain⟨qv,hrow,hqs⟩:=hM2.am.row _ _ hq;rcases hM2.arr with⟨_,hA⟩|⟨A,hA,gA⟩
  .rw[hA]at hrow;simp at hrow
  have lA:=AI hrow;rcases hqs with⟨_,hz⟩|⟨Q,zs,rfl,gQ⟩
  .rw[F5.1 hz]at hkq;simp at hkq
  rw[BI]at hrow;obtain⟨msg,hmsg⟩:=get_some (l:=q.queue) (i:=a) hkq;have hiA:=hR.run.ids A (V'.v3_mem m (by rw[hA];simp[AF]));have hiQ:=hR.run.ids Q (V'.row_mem m (Bv.2 ⟨_,Ac hrow,by rw[Bz];simp[AF]⟩));have him:=hR.run.ids m (V'.m_mem m);have hap:=hR.run.apart hu.out (n:=b+81) (by omega);have uA:=hap A (V'.v3_mem m (by rw[hA];simp[AF]));have uQ:=hap Q (V'.row_mem m (Bv.2 ⟨_,Ac hrow,by rw[Bz];simp[AF]⟩));have uM:=hap m (V'.m_mem m);have nA:=Fe (b':=0) hu.out hiA;have nA':=Kl hu.out hiA;have nQ:=Fe (b':=0) hu.out hiQ;have nQ':=Kl hu.out hiQ;have nM:=Fe (b':=0) hu.out him;have nM':=Kl hu.out him;have bA: ∀k,Id.is A (0::k::π)=false:=fun k=>AE fun e=>Hh hR.run hu.out k (by rw[←e];exact V'.v3_mem m (by rw[hA];simp[AF]));have bQ: ∀k,Id.is Q (0::k::π)=false:=fun k=>AE fun e=>Hh hR.run hu.out k (by rw[←e];exact V'.row_mem m (Bv.2 ⟨_,Ac hrow,by rw[Bz];simp[AF]⟩));have AQ:Id.is A Q=false:=AE fun e=>by rw[←e,gA]at gQ;cases gQ
  have QA:Id.is Q A=false:=AE fun e=>by rw[e,gA]at gQ;cases gQ
  have Am:Id.is A m=false:=AE fun e=>by rw[e,hm2]at gA;cases gA
  have mA:Id.is m A=false:=AE fun e=>by rw[←e,hm2]at gA;cases gA
  have Qm:Id.is Q m=false:=AE fun e=>by rw[e,hm2]at gQ;cases gQ
  have mQ:Id.is m Q=false:=AE fun e=>by rw[←e,hm2]at gQ;cases gQ
  have hml:=ju (B3 hF hdd).ok hR.pm hq hmsg hmany;have hnx:=AA.mk (iC hR hu.out (B3 hF hdd).ok hc hkk hq hmsg hmany hA hrow (fun i c2 hi e2=>hdif.out j i c c2 hi hc e2) (b1:=b+81) (b':=b+54+33) (by omega));have hrow0:=AA.mk hrow;replace hiA:=AA.mk hiA;replace hiQ:=AA.mk hiQ;replace him:=AA.mk him;replace hap:=AA.mk hap;have hown:=AA.mk fun(H':AD) (n:Nat) (hH:H'.get m=H.get m)=>Xd (ds:=p.defs) (g:=g) (d:=d) (hH.trans hm2) (AG um n) g0 hdd (B3 hF hdd).ok.am (B3 hF hdd).ok.ac (LH hd.out) (LG hF hd.out) true c c0 (by simpa using c1);rw[hA]at hm2;simp only[A5]at hrow;replace hM2:=AA.mk hM2;replace hR:=AA.mk hR;have hfin:AA (∀(H2 g1:AD) (v':AV),Cb p sz π m V h (b+81) V' ⟨s',st.ev,0⟩ H2→H2.get A=some (.arr 4 V'.rows)→(∀k,H2.get (0::k::π)=H.get (0::k::π))→(∃y,g1.get Q=some (.d9 1 (List.take a (q.queue.map BG)++List.drop (a+1) (q.queue.map BG)++y)))→(∀i,Id.is Q i=false→g1.get i=H2.get i)→Og π H2 (b+81) v' (L++msg)→(∀i∈AF v',i∉V'.ids m∧IB (b+81) (b+54+33) π i=false)→(L++msg=[]→v'=.co)→
   AA (∃V2 s2 L2,Ra p sz π m V h st d g r t (j+1) (b+54+33) v' ((gc ((b+81)::π) g1).put A (.arr 4 (V'.rows.set (g.own d true c).toNat [.d (.int .i64 (q.group)),.d (.int .i64 (q.index)),.d (.int .i64 (q.at_)),.eq Q 0 (q.queue.length-1)]))) V2 s2 L2)∧((gc ((b+81)::π) g1).put A (.arr 4 (V'.rows.set (g.own d true c).toNat [.d (.int .i64 (q.group)),.d (.int .i64 (q.index)),.d (.int .i64 (q.at_)),.eq Q 0 (q.queue.length-1)]))).get (0::0::π)=some (.box [.d (.int .i64 (-1)),.d (.int .i64 (i)),.d (.int .i64 (k)),.d (.be (t.map AJ))])∧((gc ((b+81)::π) g1).put A (.arr 4 (V'.rows.set (g.own d true c).toNat [.d (.int .i64 (q.group)),.d (.int .i64 (q.index)),.d (.int .i64 (q.at_)),.eq Q 0 (q.queue.length-1)]))).get (0::10::π)=some (.box [.d (.int .i64 (g.f8)),.d (.int .i64 (g.at_)),.d (.be (g.env.map AN))])∧((gc ((b+81)::π) g1).put A (.arr 4 (V'.rows.set (g.own d true c).toNat [.d (.int .i64 (q.group)),.d (.int .i64 (q.index)),.d (.int .i64 (q.at_)),.eq Q 0 (q.queue.length-1)]))).get (0::26::π)=some (.box [.d (.int .i64 (r.at_)),.d (.be (r.d7.map AJ)),.d (.int .i64 (r.node))])):=⟨fun H2 g1 v' c1 c2 c3 c4 c5 c6 c7 c8=>by
   have gG: ∀i,Id.is A i=false→Id.is Q i=false→Id.under ((b+81)::π) i=false→((gc ((b+81)::π) g1).put A (.arr 4 (V'.rows.set (g.own d true c).toNat [.d (.int .i64 (q.group)),.d (.int .i64 (q.index)),.d (.int .i64 (q.at_)),.eq Q 0 (q.queue.length-1)]))).get i=H2.get i:=fun i q0 q1 q2=>by rw[get_put,q0,CI (by simp),AU _ _ _ q2,c5 i q1]
   have bx: ∀k,¬k=b+81→((gc ((b+81)::π) g1).put A (.arr 4 (V'.rows.set (g.own d true c).toNat [.d (.int .i64 (q.group)),.d (.int .i64 (q.index)),.d (.int .i64 (q.at_)),.eq Q 0 (q.queue.length-1)]))).get (0::k::π)=H.get (0::k::π):=fun k hk=>(gG _ (bA k) (bQ k) (Ag π hk)).trans (c3 k);refine⟨⟨hnx.out v' H2 _ c1 (gG m Am Qm uM) ?_ (c4.imp fun y hy=>?_) (fun id b1 b2 b3 b4=>gG id b2 b3 (Jg b4 (by omega) (by omega))) ?_ c7 c8⟩,(bx 0 (by omega)).trans k3,(bx 10 (by omega)).trans k4,(bx 26 (by omega)).trans k5⟩
   .rw[get_put,is_self];rfl
   .rw[get_put,AQ,CI (by simp),AU _ _ _ uQ];exact hy
   .rcases c6 with c6|⟨l,l1,l2,n,l3,l4,l5⟩
    .exact .inl c6
    .refine .inr ⟨l,l1,?_,n,by omega,l4,l5⟩;have hl:=c7 l (by rw[l1];simp[AF]);have hA2:Id.is A l=false:=AE fun e=>hl.1 (e▸V'.v3_mem m (by rw[hA];simp[AF]));have hQ2:Id.is Q l=false:=AE fun e=>hl.1 (e▸V'.row_mem m (Bv.2 ⟨_,Ac hrow0.out,by rw[Bz];simp[AF]⟩));rw[gG l hA2 hQ2 (Jg hl.2 (by omega) (by omega))];exact l2⟩
  rcases hR.out.env with⟨rfl,rfl⟩|⟨lid,rfl,hg,n,hnb,hun,hl⟩
  .refine ax ?_;refine DA (hown.out _ _ rfl) (fun o1 g1 p1=>?_);subst p1;have lz:a<q.queue.length+zs.length:=by omega
   have w1:IntKind.i64.wrap ((a:Int)+1)=(a:Int)+1:=wrap_id (by omega) (by omega);have msx:(q.queue.map BG++zs)[a]? =some (BG msg):=by rw[Be (by simpa using hkq),D2,hmsg];rfl
   have hdel:=fun(H2:AD) (hH:H2.get Q=some (.d9 1 (q.queue.map BG++zs)))=>Oy (π:=(b+81)::π) hH uQ (n:=q.queue.length) (a:=a) (by simp) (by omega) (by intro e he;obtain⟨x,_,rfl⟩:=FN.1 he;rfl) (by omega);replace hdel:=AA.mk hdel;by_cases hmz:msg=[]
   .subst hmz;refine ax ?_;refine AZ (hdel.out _ ?_) (fun o1 g1 p1=>?_)
    .simp only[go_sem,gQ]
    obtain⟨rfl,p1,p2⟩:=p1;have fin:=hfin.out H g1 .co (hR.out.run.up (by omega)) gA (fun _=>rfl) p1 p2 (.inl ⟨rfl,rfl⟩) (fun i hi=>by simp[AF]at hi) (fun _=>rfl);replace fin:=AA.mk fin;have gG: ∀i,Id.is Q i=false→Id.under ((b+81)::π) i=false→(gc ((b+81)::π) g1).get i=H.get i:=fun i q1 q2=>by rw[AU _ _ _ q2,p2 i q1]
    replace p1:=AA.mk p1;replace p2:=AA.mk p2;refine ax ?_;exact IH.out ((_,_),b+54) fin.out
   .have ap:=jK (sz:=2) (msg.map AN) (by simpa using hmz) (by intro e he;obtain⟨x,_,rfl⟩:=FN.1 he;rfl) (by decide) (by simp;omega);simp only[BI]at ap;replace hmz:=AA.mk hmz;refine ax ?_;refine AZ (hdel.out _ ?_) (fun o1 g1 p1=>?_)
    .simp only[go_sem,gQ,nQ]
    obtain⟨rfl,p1,p2⟩:=p1;have fin:=hfin.out (H.put (1::(b+63)::π) (.d9 2 (msg.map AN))) g1 (.eq (1::(b+63)::π) 0 msg.length) ((hR.out.run.up (b':=b+63) (by omega)).loc hu.out (fun id hh=>by rw[get_put,hh 1 (b+63) (by omega)];rfl)|>.up (by omega)) (by simp only[go_sem,gA,nA]) (fun k=>by simp only[go_sem]) p1 p2 (NG (by omega) rfl (by simp only[go_sem])) (fun i hi=>⟨(by simp only[AF,As]at hi;subst hi;exact hR.out.run.new hu.out 1 _ (by omega)),(by simp only[AF,As]at hi;subst hi;exact PX (n:=b+63) (by omega) (under_iff.2 ⟨[1],rfl⟩))⟩) (fun e=>absurd (OL.1 e).2 hmz.out);replace fin:=AA.mk fin;have gG: ∀i,Id.is Q i=false→Id.under ((b+81)::π) i=false→(gc ((b+81)::π) g1).get i=(H.put (1::(b+63)::π) (.d9 2 (msg.map AN))).get i:=fun i q1 q2=>by rw[AU _ _ _ q2,p2 i q1]
    replace p1:=AA.mk p1;replace p2:=AA.mk p2;refine ax ?_;exact IH.out ((_,_),b+54) fin.out
  .obtain⟨f1,f2,f3,f4⟩:=GY hnb hun hl;have hno:=hR.out.out lid (by simp[AF]);have lA2:Id.is lid A=false:=AE fun e=>hno (e▸V'.v3_mem m (by rw[hA];simp[AF]));have Al2:Id.is A lid=false:=AE fun e=>hno (e▸V'.v3_mem m (by rw[hA];simp[AF]));have lQ2:Id.is lid Q=false:=AE fun e=>hno (e▸V'.row_mem m (Bv.2 ⟨_,Ac hrow0.out,by rw[Bz];simp[AF]⟩));have Ql2:Id.is Q lid=false:=AE fun e=>hno (e▸V'.row_mem m (Bv.2 ⟨_,Ac hrow0.out,by rw[Bz];simp[AF]⟩));have lm:Id.is lid m=false:=AE fun e=>hno (e▸V'.m_mem m);have ml:Id.is m lid=false:=AE fun e=>hno (e▸V'.m_mem m);have hLl:=hR.out.len;have lz:a<q.queue.length+zs.length:=by omega
   have w1:IntKind.i64.wrap ((a:Int)+1)=(a:Int)+1:=wrap_id (by omega) (by omega);have msx:(q.queue.map BG++zs)[a]? =some (BG msg):=by rw[Be (by simpa using hkq),D2,hmsg];rfl
   have hdel:=fun(H2:AD) (hH:H2.get Q=some (.d9 1 (q.queue.map BG++zs)))=>Oy (π:=(b+81)::π) hH uQ (n:=q.queue.length) (a:=a) (by simp) (by omega) (by intro e he;obtain⟨x,_,rfl⟩:=FN.1 he;rfl) (by omega);replace hdel:=AA.mk hdel;replace hun:=AA.mk hun;replace hl:=AA.mk hl;by_cases hmz:msg=[]
   .subst hmz;refine ax ?_;refine DA (hown.out _ _ rfl) (fun o1 g1 p1=>?_);subst p1;refine ax ?_;refine AZ (hdel.out _ ?_) (fun o1 g1 p1=>?_)
    .simp only[go_sem,gQ]
    obtain⟨rfl,p1,p2⟩:=p1;have fin:=hfin.out H g1 (.eq lid 0 L.length) (hR.out.run.up (by omega)) gA (fun _=>rfl) p1 p2 (.inr ⟨lid,by simp,by rw[hg,D6],n,by omega,hun.out,hl.out⟩) (fun i hi=>by simp only[AF,As]at hi;subst hi;exact⟨hno,PX (n:=n) (by omega) hun.out⟩) (fun e=>by have:=hR.out.ne (OL.1 e).1;cases this);replace fin:=AA.mk fin;have gG: ∀i,Id.is Q i=false→Id.under ((b+81)::π) i=false→(gc ((b+81)::π) g1).get i=H.get i:=fun i q1 q2=>by rw[AU _ _ _ q2,p2 i q1]
    replace p1:=AA.mk p1;replace p2:=AA.mk p2;refine ax ?_;exact IH.out ((_,_),b+54) fin.out
   .have ap:=YO (sz:=2) (id:=lid) (L.map AN) (msg.map AN) (by simpa using hmz) (by intro e he;obtain⟨x,_,rfl⟩:=FN.1 he;rfl) (by decide) (by simp;omega) L.length (by simp);simp only[BI]at ap;replace hmz:=AA.mk hmz;refine ax ?_;refine DA (hown.out _ _ rfl) (fun o1 g1 p1=>?_);subst p1;refine ax ?_;refine AZ (hdel.out _ ?_) (fun o1 g1 p1=>?_)
    .simp only[go_sem,gQ,nQ,lQ2]
    obtain⟨rfl,p1,p2⟩:=p1;obtain⟨H2,hH2⟩: ∃H2,H2=(H.put lid (.i5 0 [])).put (1::(b+63)::π) (.d9 2 (L.map AN++msg.map AN)):=⟨_,rfl⟩;have nl:=f1 1 (b+63) (by omega);have hr1:=(hR.out.run.oth (H:=H.put lid (.i5 0 [])) hno (Bk hun.out) fun id e=>by rw[get_put,AE fun e2=>e e2.symm];rfl).up (b':=b+63) (by omega);have hr2:=(hr1.loc hu.out (H:=H2) fun id hh=>by rw[hH2,get_put,hh 1 (b+63) (by omega)];rfl).up (b':=b+81) (by omega);have fin:=hfin.out H2 g1 (.eq (1::(b+63)::π) 0 (L.length+msg.length)) hr2 (by rw[hH2,get_put,nA _ _ (by omega),get_put,lA2];exact gA) (fun k=>by rw[hH2,get_put,AE (by simp),get_put,f4];rfl) p1 (fun i hi=>by rw[hH2];exact p2 i hi) (NG (by omega) (by simp) (by rw[hH2,get_put,is_self,D1];rfl)) (fun i hi=>⟨(by simp only[AF,As]at hi;subst hi;exact hR.out.run.new hu.out 1 _ (by omega)),(by simp only[AF,As]at hi;subst hi;exact PX (n:=b+63) (by omega) (under_iff.2 ⟨[1],rfl⟩))⟩) (fun e=>absurd (OL.1 e).2 hmz.out);replace fin:=AA.mk fin;have gG: ∀i,Id.is Q i=false→Id.under ((b+81)::π) i=false→(gc ((b+81)::π) g1).get i=((H.put lid (.i5 0 [])).put (1::(b+63)::π) (.d9 2 (L.map AN++msg.map AN))).get i:=fun i q1 q2=>by rw[AU _ _ _ q2,p2 i q1]
    replace p1:=AA.mk p1;replace p2:=AA.mk p2;replace hH2:=AA.mk hH2;replace hr1:=AA.mk hr1;replace hr2:=AA.mk hr2;refine ax ?_;exact IH.out ((_,_),b+54) fin.out
 .clear hm gW xW lW lW2 a3 a4 hm0;rintro j ⟨⟨v,H⟩,b⟩ hj hjm ⟨hR,k3,k4,k5⟩;dsimp only at*;obtain⟨V',s',L,hR⟩:=hR.out;have hm2:=hR.run.rep.box;simp only[Au]at hm2;have hpl:=AA.mk fun(H':AD) (n:Nat) (hH:H'.get m=H.get m)=>NP (ds:=p.defs) (g:=g) (d:=d) (hH.trans hm2) (AG um n) g0 hdd (B3 hF hdd).ok.am (B3 hF hdd).ok.ac (LH hd.out) (LG hF hd.out) r.at_ hri.out.at0 hri.out.at1;have hall:=hR.all;have hjob:=hjob.out;rw[hj.out,List.drop_length,yz,D6]at hall;rw[hall]at hjob⊢;replace hjob:=AA.mk hjob;replace hR:=AA.mk hR;replace hall:=AA.mk hall;rcases hR.out.env with⟨rfl,rfl⟩|⟨lid,rfl,hg,n,hnb,hun,hl⟩
  .refine ax ?_;refine DQ (hpl.out _ _ ?_) (fun o1 g1 p1=>?_)
   .simp only[go_sem]
   subst p1;refine ax ?_;refine AZ (JU (V:=V') (st:=⟨s',st.ev,0⟩) (Eo hR.out.run.rep (hR.out.run.apart hu.out (n:=b+47) (by omega)) ?_) (hR.out.run.apart hu.out (by omega)) 1 (g.place d r.at_) i k [] (by simp) (by dsimp only;omega)) (fun o1 g1 p1=>?_)
   .intro id b;rfl
   obtain⟨V2,hR2,_⟩:=hR.out.run.call hu.out (n:=b+47) (by omega) p1;have m4:=(hR.out.run.box hu.out (k:=10) (by omega) p1).trans k4;have m5:=(hR.out.run.box hu.out (k:=26) (by omega) p1).trans k5;obtain rfl:=p1.1;have gm2:=hR2.rep.box;simp only[Au]at gm2;replace hR2:=AA.mk hR2;replace p1:=AA.mk p1;have hgl:=LG hF hd.out;obtain⟨E,hE⟩: ∃E,E=g.env:=⟨_,rfl⟩;rw[←hE]at m4 hgl⊢;have h1:=KD E (by omega);have hend:=AA.mk fun H2=>O1 hF hu.out hR2.out (j:=⟨r.node,g.place d r.at_,E++[]⟩) ⟨hR.out.pm,by dsimp only;omega,by dsimp only;omega,by dsimp only;omega,by simp;omega⟩ (by rw[hE];exact hjob.out.2) H2 (b+57) (by omega);simp only[D6]at hend;replace hE:=AA.mk hE;by_cases h0:E.length=0;all_goals
    (first|(obtain rfl:=DL h0;simp only[List.length_nil,Ct,Dl]at h1)|simp only[DN h0]at h1);have fa:=Cw
    refine ax ?_;refine E3 (hend.out _ fun id hh=>?_) (fun o2 g2 p2=>?_)
    .first|rfl|(have q1:=AE (a:=1::0::2::(b+54)::π) (b:=id) fun e=>(by have:=hh (b+54) (by omega);rw[←e,show Id.under ((b+54)::π) (1::0::2::(b+54)::π)=true from Ay [1,0,2]]at this;cases this);simp only[go_sem,q1,AM])
    obtain⟨p2,p3⟩:=p2;replace p2:=AA.mk p2;rcases p3 with rfl|rfl;all_goals
     refine ax ?_;exact p2.out
  .obtain⟨f1,f2,f3,f4⟩:=GY hnb hun hl;have hno:=hR.out.out lid (by simp[AF]);have lm:Id.is lid m=false:=AE fun e=>hno (e▸V'.m_mem m);have ml:Id.is m lid=false:=AE fun e=>hno (e▸V'.m_mem m);have hLl:L.length≤90:=by have:=hR.out.len;have:=hj.out;omega
   have ul:Id.under ((b+47)::π) lid=false:=by
    cases hx:Id.under ((b+47)::π) lid with
    |false=>rfl
    |true=>have:=Bl hun hx;omega
   have hr0:=AA.mk (hR.out.run.oth (H:=H.put lid (.i5 2 (L.map AN))) hno (Bk hun) fun id e=>by rw[get_put,AE fun e2=>e e2.symm];rfl);replace hun:=AA.mk hun;replace hl:=AA.mk hl;refine ax ?_;refine DQ (hpl.out _ _ ?_) (fun o1 g1 p1=>?_)
   .simp only[go_sem]
   subst p1;refine ax ?_;have hmr:=Eo hr0.out.rep (hR.out.run.apart hu.out (n:=b+47) (by omega)) (h':=H.put lid (.i5 2 (L.map AN))) fun _ _=>rfl;refine AZ (JU (V:=V') (st:=⟨s',st.ev,0⟩) hmr (hR.out.run.apart hu.out (by omega)) 1 (g.place d r.at_) i k L (by omega) (by dsimp only;omega)) (fun o1 g1 p1=>?_);obtain⟨V2,hR2,_⟩:=hr0.out.call hu.out (n:=b+47) (by omega) p1;have m4:=(hr0.out.box hu.out (k:=10) (by omega) p1).trans ((show(H.put lid (.i5 2 (L.map AN))).get (0::10::π)=H.get (0::10::π) by rw[get_put,f4];rfl).trans k4);have m5:=(hr0.out.box hu.out (k:=26) (by omega) p1).trans ((show(H.put lid (.i5 2 (L.map AN))).get (0::26::π)=H.get (0::26::π) by rw[get_put,f4];rfl).trans k5);have ml2:=(Vc p1 hno ul).trans (show(H.put lid (.i5 2 (L.map AN))).get lid=some (.i5 2 (L.map AN)) by rw[get_put,is_self];rfl);obtain rfl:=p1.1;have gm2:=hR2.rep.box;simp only[Au]at gm2;replace hR2:=AA.mk hR2;replace p1:=AA.mk p1;have hgl:=LG hF hd.out;obtain⟨E,hE⟩: ∃E,E=g.env:=⟨_,rfl⟩;rw[←hE]at m4 hgl⊢;have h1:=KD E (by omega);have hend:=AA.mk fun H2=>O1 hF hu.out hR2.out (j:=⟨r.node,g.place d r.at_,E++L⟩) ⟨hR.out.pm,by dsimp only;omega,by dsimp only;omega,by dsimp only;omega,by simp;omega⟩ (by rw[hE];exact hjob.out.2) H2 (b+57) (by omega);replace hE:=AA.mk hE;by_cases hLz:L=[]
   .have:=hR.out.ne hLz;cases this
   .have hL0: ¬L.map AN=[]:=by simpa using hLz
    have tk:List.take L.length ((L.map AN).map fun x=>x.map AV.d)=(L.map AN).map fun x=>x.map AV.d:=CS (by simp);have n54: ∀l,Id.is (l++(b+54)::π) lid=false:=fun l=>AE fun e=>by
     have:=Bl (n:=n) (n':=b+54) hun.out (by rw[←e];exact Ay l);omega
    have n54': ∀l,Id.is lid (l++(b+54)::π)=false:=fun l=>AE fun e=>by
     have:=Bl (n:=n) (n':=b+54) hun.out (by rw[e];exact Ay l);omega
    have n55:=n54 [1,0,2];have n55':=n54' [1,0,2];simp only[F3,HM]at n55 n55';have tk2:List.take (E.length+L.length) (E.map AN++L.map AN)=E.map AN++L.map AN:=CS (by simp);replace n54:=AA.mk n54;replace n54':=AA.mk n54';replace hLz:=AA.mk hLz;by_cases h0:E.length=0
    .have ap:=jK (sz:=2) (L.map AN) hL0 (by intro e he;obtain⟨x,_,rfl⟩:=FN.1 he;rfl) (by decide) (by simp;omega);simp only[BI]at ap;replace hL0:=AA.mk hL0
     (first|(obtain rfl:=DL h0;simp only[List.length_nil,Ct,Dl]at h1)|simp only[DN h0]at h1);have fa:=Cw
     simp only[HM]at hend⊢;refine ax ?_;refine E3 (hend.out _ fun id hh=>?_) (fun o2 g2 p2=>?_)
     .have q1:=AE (a:=1::0::2::(b+54)::π) (b:=id) fun e=>(by have:=hh (b+54) (by omega);rw[←e,show Id.under ((b+54)::π) (1::0::2::(b+54)::π)=true from Ay [1,0,2]]at this;cases this);have q2:=AE (a:=1::(b+56)::π) (b:=id) fun e=>(by have:=hh (b+56) (by omega);rw[←e,show Id.under ((b+56)::π) (1::(b+56)::π)=true from Ay [1]]at this;cases this);simp only[go_sem,q1,q2,AM]
     obtain⟨p2,p3⟩:=p2;replace p2:=AA.mk p2;rcases p3 with rfl|rfl;all_goals
      refine ax ?_;exact p2.out
    .have ap:=YO (sz:=2) (id:=1::0::2::(b+54)::π) (E.map AN) (L.map AN) hL0 (by intro e he;obtain⟨x,_,rfl⟩:=FN.1 he;rfl) (by decide) (by simp;omega) E.length (by simp);simp only[BI]at ap;replace hL0:=AA.mk hL0
     (first|(obtain rfl:=DL h0;simp only[List.length_nil,Ct,Dl]at h1)|simp only[DN h0]at h1);have fa:=Cw
     have hend:=hend.out;simp only[D1]at hend;replace hend:=AA.mk hend;refine ax ?_;refine E3 (hend.out _ fun id hh=>?_) (fun o2 g2 p2=>?_)
     .have q1:=AE (a:=1::0::2::(b+54)::π) (b:=id) fun e=>(by have:=hh (b+54) (by omega);rw[←e,show Id.under ((b+54)::π) (1::0::2::(b+54)::π)=true from Ay [1,0,2]]at this;cases this);have q2:=AE (a:=1::(b+56)::π) (b:=id) fun e=>(by have:=hh (b+56) (by omega);rw[←e,show Id.under ((b+56)::π) (1::(b+56)::π)=true from Ay [1]]at this;cases this);simp only[go_sem,q1,q2,AM]
     obtain⟨p2,p3⟩:=p2;replace p2:=AA.mk p2;rcases p3 with rfl|rfl;all_goals
      refine ax ?_;exact p2.out
end Go.Proofs
namespace Go.Abs
theorem Z7(T:TypeId→Option TI)(g:G)(i:TI)(id:Id)(off n:Nat)(hn:0<n)(hk:i.kind=.slice):GQ T g (some i) (.eq id off n)=cn g id off n (T i.elem):=by
 obtain⟨m,rfl⟩: ∃m,n=m+1:=⟨n-1,by omega⟩;unfold GQ;simp only[hk];cases T i.elem<;>rfl
theorem tw{h h':AD}{id:Id}{o:Obj}(h1:h.get id=some o)(h2:Obj.same o (h'.get id)=true):(U9 h h').all (fun y=> !Id.is id y)=true:=by
 rw[DO];intro y hy;rw[AE]
 .rfl
 .intro e;subst e;obtain⟨p,hp,rfl⟩:=FN.1 hy;have:=(QR.1 hp).2;rw[h1]at this;simp only[h2]at this;cases this
end Go.Abs
namespace Go.Proofs
open Go Go.Abs
set_option maxRecDepth 100000
set_option maxHeartbeats 4000000
structure Nm(h:AD)(π:List Nat)(m bx S:Abs.Id)(L:List BS):Prop where
 gb:h.get bx=some (.box [.ptr m 0])
 gm: ∃x1 x2 x3 x4 x5 x6 x7 x8 x9 x10 x11 x12,h.get m=some (.box [.eq S 0 L.length,x1,x2,x3,x4,x5,x6,x7,x8,x9,x10,x11,x12])
 gS: ∃y,h.get S=some (.d9 2 (L.map Ab++y))
 ub:Id.under π bx=false
 um:Id.under π m=false
 uS:Id.under π S=false
variable{h:AD}{π:List Nat}{m bx S:Abs.Id}{L:List BS}
theorem Nm.up{h':AD}{ρ:List Nat}(hD:Nm h π m bx S L)(hk: ∀i,Id.under π i=false→i=bx∨i=m∨i=S→h'.get i=h.get i)(hp: ∀i,Id.under π i=false→Id.under ρ i=false):Nm h' ρ m bx S L:=by
 refine⟨(hk _ hD.ub (by simp)).trans hD.gb,?_,?_,hp _ hD.ub,hp _ hD.um,hp _ hD.uS⟩
 .rw[hk _ hD.um (by simp)];exact hD.gm
 .rw[hk _ hD.uS (by simp)];exact hD.gS
theorem jR(hD:Nm h π m bx S L)(w:Fq)(hw:EF L w.at_):
 ∃o h',KL Tryz.prog cfg (.fn 163) [.agg [.d (.int .i64 (w.at_)),.d (.int .i64 (w.node)),.d (.be (w.env.map AN))],.ptr bx 0] h π true (some π)=.ok (o,h')∧o=.ret (.d (.bool (AY L w.at_))):=by
 obtain⟨hb,⟨x1,x2,x3,x4,x5,x6,x7,x8,x9,x10,x11,x12,hm⟩,⟨y,hS⟩,u1,u2,u3⟩:=hD;have e1:=AH u1;have e2:=AH u2;have e3:=AH u3;have w0:=hw.1;have w1:=hw.2;obtain⟨sp,hsp⟩:=get_some (l:=L) (i:=w.at_.toNat) (by omega);have lS:w.at_.toNat<L.length:=by omega
 have lS2:w.at_.toNat<L.length+y.length:=by omega
 have hx:(L.map Ab++y)[w.at_.toNat]? =some (Ab sp):=by rw[Be (by simpa using lS),D2,hsp];rfl
 have hd:AY L w.at_=sp.dead:=by rw[AY,hsp];rfl
 rw[hd]
 (refine Aj rfl Tryz.func163 rfl rfl rfl ?_;show Wp _ _ _ _ (Tryz.f163.body.get rfl) _ _;simp only[Tryz.f163,AS])
 exact af
inductive WU{α:Type}(f:α→Bool)(l:List α):Int→Prop
 |none:(∀x∈l,f x=false)→WU f l (-1)
 |some (k:Nat):(∀x∈l.take k,f x=false)→(∃x,l[k]? =some x∧f x=true)→WU f l k
theorem VT{h:AD}{π:List Nat}{m bx S:Abs.Id}{L:List BS}(hD:Nm h π m bx S L)(l:List Fq)(hl:l.length≤1000000)(hw: ∀w∈l,EF L w.at_):
 ∃o h',KL Tryz.prog cfg (.fn 185) [.d (.be (l.map AW)),.fn 163 [] [.ptr bx 0]] h π true (some π)=.ok (o,h')∧ ∃r,o=.ret (.d (.int .i64 (r)))∧WU (fun w:Fq=>AY L w.at_) l r:=by
 have hD0:=AA.mk hD;clear hD;have hw0:=AA.mk hw;clear hw
 (refine Aj rfl Tryz.func185 rfl rfl rfl ?_;show Wp _ _ _ _ (Tryz.f185.body.get rfl) _ _;simp only[Tryz.f185,AS])
 refine ax ?_;refine AX l _ (S:=fun m' i (a:AD×Nat)=>⟨[(0,.d (.be (l.map AW))),(1,.fn 163 [] [.ptr bx 0]),(7,.d (.int .i64 (m'))),(8,.d (.int .i64 (i)))],a.1,a.2+4,[]⟩)
  (Inv:=fun i rest a=>AA ((∀x,Id.under π x=false→a.1.get x=h.get x)∧ ∀w∈l.take i,AY L w.at_=false)) (b0:=(h,0)) rfl ⟨⟨fun _ _=>rfl,by simp⟩⟩ ?_ ?_
 .rintro i w ⟨g,b⟩ hy hi him hI IH;dsimp only at*;have hfd:AA (∀H n,(∀x,Id.under π x=false→H.get x=g.get x)→ ∃o h',KL Tryz.prog cfg (.fn 163) [.agg [.d (.int .i64 (w.at_)),.d (.int .i64 (w.node)),.d (.be (w.env.map AN))],.ptr bx 0] H (n::π) true (some (n::π))=.ok (o,h')∧o=.ret (.d (.bool (AY L w.at_)))):=⟨fun H n hH=>jR (hD0.out.up (fun x hx _=>(hH x hx).trans (hI.out.1 x hx)) fun x hx=>AG hx n) w (hw0.out w (Ac hy))⟩;refine ax ?_;refine DQ (hfd.out _ _ fun x hx=>rfl) (fun o1 g1 p1=>?_);subst p1;cases hdd:AY L w.at_ with
  |true=>
   refine ax ?_;exact⟨_,rfl,.some i hI.out.2 ⟨w,hy,hdd⟩⟩
  |false=>
   refine ax ?_;refine IH.out (g,b+11) ⟨⟨hI.out.1,fun x hx=>?_⟩⟩;rw[GC,hy]at hx;rcases ES.1 hx with hx|hx
   .exact hI.out.2 x hx
   .simp only[Option.toList_some,As]at hx;subst hx;exact hdd
 .rintro i ⟨g,b⟩ hi him hI;dsimp only at*;have hI2:AA (∀w∈l,AY L w.at_=false):=⟨by have:=hI.out.2;rwa [hi.out,EL]at this⟩;refine ax ?_;exact⟨_,rfl,.none hI2.out⟩
theorem AAA{h:AD}{π:List Nat}{m bx S W:Abs.Id}{L:List BS}(hD:Nm h π m bx S L)(l:List Fq){x:List (List Aa)}(hg:h.get W=some (.d9 3 (l.map AW++x)))(uW:Id.under π W=false)(hW:W≠bx∧W≠m∧W≠S){n:Nat}(hn:n=l.length)(hl:l.length≤1000000)(hw: ∀w∈l,EF L w.at_):
 ∃o h',KL Tryz.prog cfg (.fn 162) [.eq W 0 n,.fn 163 [] [.ptr bx 0]] h π true none=.ok (o,h')∧ ∃y,o=.ret (.eq W 0 (l.filter fun w=> !AY L w.at_).length)∧h'.get W=some (.d9 3 ((l.filter fun w=> !AY L w.at_).map AW++y))∧ ∀i,Id.is W i=false→Id.under π i=false→h'.get i=h.get i:=by
 subst hn;have q1:=AH uW;have q2:=Ak uW;have hD0:=AA.mk hD;have hw0:=AA.mk hw;clear hw;have hix:=AA.mk fun(H:AD) (k:Nat) (hH: ∀i,i=bx∨i=m∨i=S→H.get i=h.get i)=>VT (π:=k::π) (hD0.out.up (ρ:=k::π) (fun i _ hi=>hH i hi) fun x hx=>AG hx k) l hl hw0.out;have hu3:AA (∀i,i=bx∨i=m∨i=S→Id.under π i=false):=⟨fun i hi=>by rcases hi with rfl|rfl|rfl;exact hD.ub;exact hD.um;exact hD.uS⟩
 clear hD;obtain⟨f,hf⟩: ∃f:Fq→Bool,f=fun w=> !AY L w.at_:=⟨_,rfl⟩;rw[←hf];replace hf:=AA.mk hf
 (refine Aj rfl Tryz.func162 rfl rfl rfl ?_;show Wp _ _ _ _ (Tryz.f162.body.get rfl) _ _;simp only[Tryz.f162,AS])
 refine ax ?_;refine DQ (hix.out _ 3 ?_) (fun o1 g1 p1=>?_)
 .rintro i (rfl|rfl|rfl)
  .rw[get_put,AE hW.1];rfl
  .rw[get_put,AE hW.2.1];rfl
  .rw[get_put,AE hW.2.2];rfl
 obtain⟨r,rfl,hr⟩:=p1;cases hr with
 |none hall=>
  have hfl:AA (l.filter f=l):=⟨List.filter_eq_self.2 fun w hw=>by rw[hf.out];simp[hall w hw]⟩;replace hall:=AA.mk hall;refine ax ?_;rw[hfl.out];exact⟨x,rfl,rfl,fun _ _ _=>trivial⟩
 |some k hbe hk=>
  obtain⟨w0,hw1,hw2⟩:=hk;have hkl:=AI hw1;have hneg: ¬(k:Int)= -1:=by omega
  replace hbe:=AA.mk hbe;have hfk:((l.take (k+1)).filter f)=l.take k:=by
   rw[GC,hw1,List.filter_append,List.filter_eq_self.2 fun w hw=>by rw[hf.out];simp[hbe.out w hw]];simp[hf.out,hw2]
  have hlk:(l.take k).length=k:=by rw[Hw];omega
  replace hw2:=AA.mk hw2;refine ax ?_;refine rounds (S:=fun(a:(Nat×Nat)×AD×Nat)=>⟨[(0,.eq W 0 l.length),(1,.fn 163 [] [.ptr bx 0]),(5,.d (.int .i64 (a.1.2))),(6,.d (.int .i64 (a.1.1)))],a.2.1,a.2.2+10,[]⟩)
   (Inv:=fun a=>a.1.2<a.1.1∧a.1.1≤l.length∧AA (∃Y,a.1.2+Y.length=a.1.1∧(∀e∈Y,e.length=3)∧((l.take a.1.1).filter f).length=a.1.2∧a.2.1.get W=some (.d9 3 (((l.take a.1.1).filter f).map AW++(Y++((l.drop a.1.1).map AW++x)))))∧AA (∀i,Id.is W i=false→Id.under π i=false→a.2.1.get i=h.get i)) (m:=fun a=>l.length-a.1.1) (a:=((k+1,k),h,0)) ⟨by dsimp only;omega,by dsimp only;omega,⟨[AW w0],rfl,by simp[AW],by dsimp only;rw[hfk,hlk],?_⟩,⟨fun _ _ _=>rfl⟩⟩ ?_
  .dsimp only;rw[hfk,hg];have:=Mi hw1;rw[show l.map AW=(l.take k).map AW++([AW w0]++(l.drop (k+1)).map AW) by rw[←List.map_singleton,←D1,←D1];exact congrArg _ this];simp
  .rintro⟨⟨j,i⟩,g,b⟩ ⟨j1,j2,hY,hfr⟩ IH;dsimp only at*;obtain⟨Y,hYl,hY3,hfi,hgW⟩:=hY.out;by_cases hjl:j<l.length
   .obtain⟨w,hw⟩:=get_some hjl;have hFl:((l.take j).filter f).map AW++(Y++((l.drop j).map AW++x))=(((l.take j).filter f).map AW++Y)++((l.drop j).map AW++x):=by simp
    have hal:(((l.take j).filter f).map AW++Y).length=j:=by rw[Bi,BI];omega
    have hix:(((l.take j).filter f).map AW++(Y++((l.drop j).map AW++x)))[j]? =some (AW w):=by
     rw[hFl,Ce (by omega),hal,MP,AR hw];rfl
    have hjx:j<(((l.take j).filter f).map AW++(Y++((l.drop j).map AW++x))).length:=AI hix;have hfd:AA (∀H n,(∀i,i=bx∨i=m∨i=S→H.get i=g.get i)→ ∃o h',KL Tryz.prog cfg (.fn 163) [.agg [.d (.int .i64 (w.at_)),.d (.int .i64 (w.node)),.d (.be (w.env.map AN))],.ptr bx 0] H (n::π) true (some (n::π))=.ok (o,h')∧o=.ret (.d (.bool (AY L w.at_)))):=⟨fun H n hH=>jR (hD0.out.up (fun i hu hi=>(hH i hi).trans (hfr.out i (AE fun e=>by subst e;rcases hi with e|e|e;exact hW.1 e;exact hW.2.1 e;exact hW.2.2 e) hu)) fun x hx=>AG hx n) w (hw0.out w (Ac hw))⟩
    have hjl2:(j:Int)<l.length:=by omega
    obtain⟨ar,har⟩: ∃ar,ar=((l.take j).filter f).map AW++(Y++((l.drop j).map AW++x)):=⟨_,rfl⟩;rw[←har]at hix hgW hjx;replace har:=AA.mk har;refine ax ?_;refine DQ (hfd.out _ _ ?_) (fun o1 g1 p1=>?_)
    .intro i hi;have q:=AH (hu3.out i hi);simp only[go_sem,q,AM]
    subst p1;have ht:(l.take (j+1)).filter f=(l.take j).filter f++if f w=true then [w]else []:=by
     rw[GC,hw,List.filter_append];simp[SP]
    cases hdd:AY L w.at_ with
    |true=>
     have hfw:f w=false:=by rw[hf.out];simp[hdd]
     rw[hfw,CI (by simp),D6]at ht;replace hfw:=AA.mk hfw;replace ht:=AA.mk ht;refine ax ?_;refine IH.out ((j+1,i),_,b+17) (by dsimp only;omega) ⟨by dsimp only;omega,by dsimp only;omega,⟨Y++[AW w],by simp;omega,?_,by rw[ht.out];exact hfi,?_⟩,⟨fun i2 u1 u2=>?_⟩⟩
     .intro e he;rcases ES.1 he with he|he
      .exact hY3 e he
      .rw[As]at he;subst he;rfl
     .rw[ht.out];dsimp only;rw[get_put,AE (by intro e;exact absurd (AH uW 0 (b+18)) (by rw[e,is_self];simp)),get_put,AE (by intro e;exact absurd (AH uW 0 (b+18)) (by rw[e,is_self];simp))];simp only[AM,El];rw[hgW,har.out,AR hw];simp
     .dsimp only;rw[get_put,AH u2,get_put,AH u2];exact hfr.out i2 u1 u2
    |false=>
     have hfw:f w=true:=by rw[hf.out];simp[hdd]
     rw[hfw,D0 rfl]at ht;have hil:i<ar.length:=by omega
     have w1:IntKind.i64.wrap ((i:Int)+1)=(i:Int)+1:=wrap_id (by omega) (by omega);replace hfw:=AA.mk hfw;replace ht:=AA.mk ht;obtain⟨e0,he0⟩:=get_some (l:=ar) (i:=i) hil;have hil2:i<l.length:=by omega
     have hY0:0<Y.length:=by omega
     obtain⟨y0,Y',rfl⟩: ∃y0 Y',Y=y0::Y':=by
      cases Y with
      |nil=>simp at hY0
      |cons y0 Y'=>exact⟨y0,Y',rfl⟩
     have hle:i=(((l.take j).filter f).map AW).length:=by rw[BI,hfi]
     have he:e0=y0:=by
      rw[har.out,Ce (by omega),hle,MP]at he0;simpa using he0.symm
     subst he;obtain⟨z0,z1,z2,rfl⟩: ∃a b c,e0=[a,b,c]:=by
      have:=hY3 e0 (by simp)
      match e0,this with
      |[a,b,c],_=>exact⟨a,b,c,rfl⟩
     replace hle:=AA.mk hle;have hset:AA (ar.set i (AW w)=((l.take (j+1)).filter f).map AW++((Y'++[AW w])++((l.drop (j+1)).map AW++x))):=⟨by
      rw[har.out,ht.out,List.set_append_right _ _ (Nat.le_of_eq hle.out.symm),←hle.out,MP,F3,List.set_cons_zero,AR hw];simp⟩
     refine ax ?_;refine IH.out ((j+1,i+1),_,b+25) (by dsimp only;omega) ⟨by dsimp only;omega,by dsimp only;omega,⟨Y'++[AW w],by simp at hYl⊢;omega,?_,by rw[ht.out];simp[hfi],?_⟩,⟨fun i2 u1 u2=>?_⟩⟩
     .intro e he;rcases ES.1 he with he|he
      .exact hY3 e (by simp[he])
      .rw[As]at he;subst he;rfl
     .dsimp only;rw[←hset.out];simp only[go_sem]
     .simp only[go_sem,u1,AH u2];exact hfr.out i2 u1 u2
   .have hje:j=l.length:=by omega
    rw[hje,EL]at hfi hgW;rw[List.drop_length,Dl,HM]at hgW;have hjl2: ¬(j:Int)<l.length:=by omega
    have hYl2:Y.length=l.length-i:=by omega
    obtain⟨F,hF⟩: ∃F,F=l.filter f:=⟨_,rfl⟩;rw[←hF]at hfi hgW⊢;have hi0:0<l.length-i:=by omega
    have hFm:(F.map AW).length=i:=by simpa using hfi
    have c5:=Tg (g:=g.get) (n:=l.length) hgW (a:=i) (by omega) (by omega) (by simp;omega) (by simp;omega);simp only[GO]at c5;have c6: ∀(j:TI),j.size=3→j.zero=[.d (.int .i64 (0)),.d (.int .i64 (0)),.co]→Hj g.get W i (l.length-i) j=some ⟨.undef,[(W,.d9 3 (F.map AW++(List.replicate (l.length-i) [.int .i64 0,.int .i64 0,.be []]++x)))]⟩:=fun j e1 e2=>by
     rw[Yh (z:=[.int .i64 0,.int .i64 0,.be []]) hgW e1 (by rw[e2];rfl) rfl ⟨⟨by rw[e2];rfl,by rw[e2];rfl⟩,by decide⟩ (by simp;omega),List.take_left' hFm,show F.map AW++(Y++x)=(F.map AW++Y)++x from(D9 ..).symm,List.drop_left' (l₁:=F.map AW++Y) (by rw[Bi,hFm,hYl2])]
    have c7:=fun(g':G) (hg':g' W=some (.d9 3 (F.map AW++(List.replicate (l.length-i) [.int .i64 0,.int .i64 0,.be []]++x))))=>Tf (n:=l.length) hg' (b:=i) (by omega) (by simp;omega) (by simp;omega);simp only[GO]at c7;have hcl:=fun T' (i0:TI)=>Z7 T' g.get i0 W i (l.length-i) hi0;replace hF:=AA.mk hF;replace hfi:=AA.mk hfi;replace hje:=AA.mk hje;replace hYl2:=AA.mk hYl2;replace hYl:=AA.mk hYl;replace hFm:=AA.mk hFm;refine ax ?_;exact⟨_,by rw[hfi.out],rfl,fun i2 u1 u2=>by rw[u1,CI (by simp)];exact hfr.out i2 u1 u2⟩
theorem AAB{h:AD}{π:List Nat}{m bx S:Abs.Id}{L:List BS}(hD:Nm h π m bx S L)(l:List Fq){v:AV}(hv:Ju h 3 v (l.map AW))(uv: ∀i∈AF v,Id.under π i=false∧i≠bx∧i≠m∧i≠S)(hl:l.length≤1000000)(hw: ∀w∈l,EF L w.at_):
 ∃o h',KL Tryz.prog cfg (.fn 162) [v,.fn 163 [] [.ptr bx 0]] h π true none=.ok (o,h')∧ ∃v',o=.ret v'∧Ju h' 3 v' ((l.filter fun w=> !AY L w.at_).map AW)∧AF v'=AF v∧(v'.isCell=true∧v'.cells=[v'])∧ ∀i,(∀id∈AF v,Id.is id i=false)→Id.under π i=false→h'.get i=h.get i:=by
 rcases hv with⟨rfl,hz⟩|⟨W,x,rfl,hg⟩
 .have hz:=F5.1 hz;subst hz;have hix:=AA.mk fun(H:AD) (k:Nat) (hH: ∀i,i=bx∨i=m∨i=S→H.get i=h.get i)=>VT (π:=k::π) (hD.up (ρ:=k::π) (fun i _ hi=>hH i hi) fun x hx=>AG hx k) [] hl hw;clear hD
  (refine Aj rfl Tryz.func162 rfl rfl rfl ?_;show Wp _ _ _ _ (Tryz.f162.body.get rfl) _ _;simp only[Tryz.f162,AS])
  refine ax ?_;refine DQ (hix.out _ 3 fun _ _=>rfl) (fun o1 g1 p1=>?_);obtain⟨r,rfl,hr⟩:=p1;cases hr with
  |none _=>
   refine ax ?_;exact⟨_,rfl,.inl ⟨rfl,rfl⟩,rfl,⟨rfl,rfl⟩,fun _ _ _=>trivial⟩
  |some k _ hk=>
   obtain⟨_,hk,_⟩:=hk;simp at hk
 .obtain⟨u1,u2,u3,u4⟩:=uv W (by simp[AF]);rw[BI];obtain⟨o,h',k1,y,rfl,k2,k3⟩:=AAA hD l hg u1 ⟨u2,u3,u4⟩ rfl hl hw;exact⟨_,h',k1,_,rfl,.inr ⟨W,y,by rw[BI],k2⟩,rfl,⟨rfl,rfl⟩,fun i q1 q2=>k3 i (q1 W (by simp[AF])) q2⟩
end Go.Proofs
namespace Go.Proofs
open Go Go.Abs
set_option maxRecDepth 100000
set_option maxHeartbeats 4000000
theorem bf{α:Type}{l:List α}{i:Nat}{x:α}(h:l[i]? =some x):l.set i x=l:=by
 obtain⟨h1,h2⟩:=BE.1 h;rw[←h2];exact List.set_getElem_self h1
variable{p:AL}{sz:List Int}{V:MV}
theorem tJ{V2:MV}{w w2:Int}(h:Au p sz V w=Au p sz V2 w2):V2.v3=V.v3:=by
 simp only[Au,No]at h;exact h.2.2.1.symm
variable{h:AD}{π:List Nat}{m:Abs.Id}{st:Ck}
theorem AC6(hF:BK p sz)(hM:Dw p sz h m V st)(hu:Ca π V m)(hs:FH p sz st.em){at_:Int}(ha:EF st.em.ac at_)(hev:st.ev.length≤900000):
 ∃o h',KL Tryz.prog cfg (.fn 102) [.ptr m 0,.d (.int .i64 (at_))] h π true none=.ok (o,h')∧FI p sz π m V h (some ⟨Na st.em at_,st.ev++[⟨3,at_,0,0,[]⟩],st.work⟩) o h':=by
 have hm:=hM.box;simp only[Au]at hm;have um:=hu m (V.m_mem m);have e1:=AH um;have e2:=Ak um;have hss:=hs.small;simp only[BF.small,AP,Ap]at hss;obtain⟨s1,s2,s3,s4⟩:=hss;have a0:=ha.1;have a1:=ha.2;replace hM:=AA.mk hM;replace hu:=AA.mk hu;replace hs:=AA.mk hs;replace ha:=AA.mk ha
 (refine Aj rfl Tryz.func102 rfl rfl rfl ?_;show Wp _ _ _ _ (Tryz.f102.body.get rfl) _ _;simp only[Tryz.f102,AS])
 refine ax ?_;refine AZ (JU (V:=V) (st:=st) (Eo hM.out hu.out ?_) (hu.out.ext _) 3 at_ 0 0 [] (by simp) (by omega)) (fun o1 g1 p1=>?_)
 .intro id b;have q1:=AH b;simp only[go_sem,q1,AM]
 have hr0:Cb p sz π m V h 0 V st (h.put (0::0::π) (.box [.ptr m 0])):=Qc hM.out hu.out fun id b=>by
  have q1:=AH b;rw[get_put,q1];rfl
 obtain⟨V1,hR1,_⟩:=(hr0.up (b':=3) (by omega)).call hu.out (n:=3) (by omega) p1;have k2:=(hr0.up (b':=3) (by omega)).box hu.out (k:=0) (by omega) p1;rw[get_put,is_self,D0 rfl]at k2;obtain rfl:=p1.1;have gm1:=hR1.rep.box;simp only[Au]at gm1;have hl0:=Hp (hR1.rep.sl 0 (by omega));simp only[A7,BI]at hl0;obtain⟨EV,hEV⟩: ∃EV,EV=st.ev++[(⟨3,at_,0,0,[]⟩:Ib)]:=⟨_,rfl⟩;rw[←hEV]at hR1⊢;replace hEV:=AA.mk hEV;replace hR1:=AA.mk hR1;replace hr0:=AA.mk hr0;replace p1:=AA.mk p1
 (repeat' (first|simp only[go_sem, *,↓hl0,AM]|(refine sx ?_ ?_<;>intro hc)|refine sy (by omega) fun x hx hm=>?_|simp(disch:=first|assumption|omega) only[AK]))
 clear hm gm1 hl0 p1;refine AX st.em.ac _ (S:=fun m' i (a:AD×Nat)=>⟨[(1,.d (.int .i64 (at_))),(2,.ptr (0::0::π) 0),(15,.d (.int .i64 (m'))),(16,.d (.int .i64 (i)))],a.1,a.2+11,[]⟩)
  (Inv:=fun i rest a=>a.1.get (0::0::π)=some (.box [.ptr m 0])∧AA (∃V',Cb p sz π m V h (a.2+11) V' ⟨{st.em with ac:=L8 st.em.ac at_ i},EV,st.work⟩ a.1)) (b0:=(_,0)) rfl ⟨k2,⟨V1,by rw[lZ];exact hR1.out.up (by omega)⟩⟩ ?_ ?_
 .rintro i x ⟨g,b⟩ hx hi him ⟨k2,hR⟩ IH;dsimp only at*;obtain⟨V',hR⟩:=hR.out;obtain⟨D,hD⟩: ∃D,D=L8 st.em.ac at_ i:=⟨_,rfl⟩;have hil:=AI hx;have hDl:D.length=st.em.ac.length:=by rw[hD];exact SV _ _ (by omega)
  have hDx:D[i]? =some x:=by rw[hD];exact AAC hx
  have hDp: ∀i,BL D i=BL st.em.ac i:=fun k=>by rw[hD];exact tr _ _ (by omega) k
  have hDs:AA (L8 st.em.ac at_ (i+1)=D.set i {x with dead:=x.dead||Cg st.em.ac i at_}):=⟨by rw[hD];exact lY hx⟩
  have hDt:=rh hDp hDl hs.out.tree;have hDi:=bc hDp hDl (i:Int) at_;rw[←hD]at hR;replace hD:=AA.mk hD;have gm:=hR.rep.box;simp only[Au]at gm;obtain⟨S,ys,hSs,gS,xS,lS,lS2⟩:=Jl (hR.rep.sl 0 (by omega)) hDx;simp only[Gg]at gS;have hwi:=WK D i at_ (by omega) hDt ⟨by omega,by omega⟩ a0
  rw[hDi]at hwi;have hiS:=hR.ids S (V'.s_mem m (i:=0) (by omega) (by rw[hSs];simp[AF]));have hbS: ∀k,Id.is S (0::k::π)=false:=fun k=>AE fun e=>Hh hR hu.out k (by rw[←e];exact V'.s_mem m (i:=0) (by omega) (by rw[hSs];simp[AF]));have hgo:=AA.mk (IQ (N:=IB (b+11) (b+33) π) (st:=⟨{st.em with ac:=D},EV,st.work⟩) (st':=⟨{st.em with ac:=L8 st.em.ac at_ (i+1)},EV,st.work⟩) 0 (by omega) hR.rep (hR.apartB hu.out) (vj rfl rfl rfl) rfl (.eq S 0 D.length))
  rw[hSs]at gm;replace hDp:=AA.mk hDp;replace hDt:=AA.mk hDt;replace hDi:=AA.mk hDi;replace hiS:=AA.mk hiS;replace hR:=AA.mk hR;have hDl2:=AA.mk hDl;cases hin:Cg st.em.ac i at_ with
  |true=>
   rw[hin]at hwi hDs;rw[Bool.or_true]at hDs;replace hDl:=AA.mk hDl;refine ax ?_;have hSm:Id.is S m=false:=AE fun e=>by rw[e,gm]at gS;cases gS
   have hmS:Id.is m S=false:=AE fun e=>by rw[←e,gm]at gS;cases gS
   have hst:(D.set i {x with dead:=true}).map Ab++ys=(D.map Ab++ys).set i [.int .i64 x.rc,.bool true]:=by
    rw[List.set_append_left _ _ (by simpa using lS),Jp];rfl
   obtain⟨V2,hR2,_⟩:=hR.out.step (b':=b+33) (by omega) (hgo.out (g.put S (.d9 2 ((D.map Ab++ys).set i [.int .i64 x.rc,.bool true]))) (by rw[get_put,hSm];exact gm) (BR ys (by simp only[A7,BI];rw[SV _ _ (by omega)];exact hDl2.out) (by rw[get_put,is_self,←hst,←hDs.out];rfl)) (.inl (by rw[hSs])) fun id b1 b2 b3=>by rw[get_put,b2 S (by rw[hSs];simp[AF])];rfl);refine IH.out (_,b+22) ⟨?_,⟨V2,hR2⟩⟩;dsimp only;rw[get_put,hbS];exact k2
  |false=>
   rw[hin,Bool.or_false]at hDs;rw[hin]at hwi;replace hDl:=AA.mk hDl;refine ax ?_;refine IH.out (g,b+13) ⟨k2,⟨V',?_⟩⟩;have:L8 st.em.ac at_ (i+1)=D:=by
    rw[hDs.out];exact bf hDx
   dsimp only;rw[this];exact hR.out.up (by omega)
 .rintro i ⟨g,b⟩ hi him ⟨k2,hR⟩;dsimp only at*;obtain⟨V',hR⟩:=hR.out;rw[hi.out,tq]at hR;obtain⟨D,hD⟩: ∃D,D=Jr st.em.ac at_:=⟨_,rfl⟩;have hDl:D.length=st.em.ac.length:=by rw[hD,FO]
  rw[AAD,←hD];rw[←hD]at hR;replace hD:=AA.mk hD;have gm:=hR.rep.box;simp only[Au]at gm;have hl3:=Rl hR.rep.arr;rw[hR.rep.am.len]at hl3;dsimp only at hl3;have h2:=hR.rep.sl 2 (by omega);have h0:=hR.rep.sl 0 (by omega);simp only[A7,Gg]at h2 h0;rcases h0 with⟨_,hz0⟩|⟨S,ys,h0,gS⟩
  .rw[F5.1 hz0]at hDl;have:=hs.out.tree.pos;simp at hDl;omega
  rw[BI]at h0;have hSi:=V'.s_mem m (i:=0) (by omega) (id:=S) (by rw[h0];simp[AF]);have uS:=hR.apart hu.out (n:=b+19) (by omega) S hSi;have hwr: ∀w∈st.em.waits,EF D w.at_:=fun w hw=>by
   have:=hs.out.wait w hw;simp only[CA,AP,Ap]at this;rw[EF,hDl];exact this.1
  obtain⟨w2,hw2⟩: ∃w2,w2=V'.s 2:=⟨_,rfl⟩;rw[←hw2]at h2 gm;have huv: ∀i∈AF w2,Id.under ((b+19)::π) i=false∧i≠0::0::π∧i≠m∧i≠S:=fun i hi=>by
   have hWi:=V'.s_mem m (i:=2) (by omega) (id:=i) (by rw[←hw2];exact hi);obtain⟨x,hx⟩:=DE h2 hi;exact⟨hR.apart hu.out (n:=b+19) (by omega) i hWi,fun e=>Hh hR hu.out 0 (e▸hWi),fun e=>(by rw[e,gm]at hx;cases hx),fun e=>(by rw[e,gS]at hx;cases hx)⟩
  have hdel:=AA.mk (AAB (h:=g) (π:=(b+19)::π) (m:=m) (bx:=0::0::π) (S:=S) (L:=D) ⟨k2,⟨_,_,_,_,_,_,_,_,_,_,_,_,by rw[gm,h0]⟩,⟨ys,gS⟩,Ag π (by omega),AG um _,uS⟩ st.em.waits h2 huv (by omega) hwr);have hgo:=AA.mk fun v=>IQ (N:=IB (b+11) (b+31) π) (st:=⟨{st.em with ac:=D},EV,st.work⟩) (st':=⟨{st.em with ac:=D,waits:=st.em.waits.filter fun w=> !AY D w.at_},EV,st.work⟩) 2 (by omega) hR.rep (hR.apartB hu.out) (vn rfl rfl rfl) rfl v
  have gm0:=AA.mk gm;replace h2:=AA.mk h2;replace hw2:=AA.mk hw2;replace huv:=AA.mk huv;replace hR:=AA.mk hR;replace hwr:=AA.mk hwr;replace hDl:=AA.mk hDl;refine ax ?_;refine E3 hdel.out (fun o1 g1 p1=>?_);obtain⟨v',rfl,p1,p3,⟨p4,p5⟩,p2⟩:=p1;have um2:=AG um (b+19);have Wm: ∀id∈AF w2,Id.is id m=false:=fun id hid=>AE (huv.out id hid).2.2.1;have gm2:=(AU _ g1 _ um2).trans ((p2 m Wm um2).trans gm);have k3:=(AU _ g1 _ (Ag π (show 0≠b+19 by omega))).trans ((p2 (0::0::π) (fun id hid=>AE (huv.out id hid).2.1) (Ag π (by omega))).trans k2);have hdf:=tw (h:=g) (h':=gc ((b+19)::π) g1) k2 (by rw[k3];simp[Obj.same,AV.sames,AV.same,is_self]);obtain⟨F,hF2⟩: ∃F,F=st.em.waits.filter fun w=> !AY D w.at_:=⟨_,rfl⟩;rw[←hF2]at p1 hgo⊢;obtain⟨H3,hH3⟩: ∃H3,H3=(gc ((b+19)::π) g1).put m (.box [.eq S 0 D.length,V'.s 1,V'.v3,v',.d (.be (p.free.map Av)),.d (.be (p.nodes.map Af)),.d (.be (p.defs.map Ax)),.d (.int .i64 (p.main)),.d (.be (sz.map AJ)),V'.v9,.mp V'.rx,V'.s 3,.d (.int .i64 (st.work))]):=⟨_,rfl⟩;have A1:H3.get m=some (.box (Au p sz (V'.ii 2 v') st.work)):=by
   rw[hH3,get_put,is_self,←h0];rfl
  have A2:Ju H3 3 v' (F.map AW):=Ee p1 fun id hid=>by
   rw[p3]at hid;have hh:=huv.out id hid;rw[hH3,get_put,AE fun e=>hh.2.2.1 e.symm,CI (by simp),AU _ _ _ hh.1]
  obtain⟨V2,hr2,_⟩:=hR.out.step (b':=b+31) (by omega) (hgo.out v' H3 A1 A2 (.inl (by rw[p3,hw2.out])) fun id b1 b2 b3=>by rw[hH3,get_put,b1,CI (by simp),AU _ _ _ (Jg b3 (by omega) (by omega)),p2 id (by rw[hw2.out];exact b2) (Jg b3 (by omega) (by omega))]);have k4:H3.get (0::0::π)=some (.box [.ptr m 0]):=by
   rw[hH3,get_put,e2,CI (by simp)];exact k3
  replace hF2:=AA.mk hF2;replace p1:=AA.mk p1;replace p2:=AA.mk p2;replace p3:=AA.mk p3;replace Wm:=AA.mk Wm;replace hr2:=AA.mk hr2;replace k4:=AA.mk k4;replace A1:=AA.mk A1;replace A2:=AA.mk A2;replace hH3:=AA.mk hH3
  (repeat' (first|simp only[go_sem, *,↓hl3,AM]|(refine sx ?_ ?_<;>intro hc)|refine sy (by omega) fun x hx hm=>?_|simp(disch:=first|assumption|omega) only[AK]))
  rw[←hH3.out];have hv3:V2.v3=V'.v3:=tJ (V:=V'.ii 2 v') (Obj.box.inj (MK (A1.out.symm.trans hr2.out.rep.box)));obtain⟨X3,hX3⟩: ∃X3,X3=V'.v3:=⟨_,rfl⟩;rw[←hX3]at hv3⊢;replace hX3:=AA.mk hX3;clear gm gm2 hdf k3 hl3 gS h0;clear hSi uS e1;refine AX st.em.am _ (S:=fun m' i (a:AD×Nat)=>⟨[(2,.ptr (0::0::π) 0),(51,X3),(52,.d (.int .i64 (m'))),(53,.d (.int .i64 (i)))],a.1,a.2+31,[]⟩)
   (Inv:=fun i rest a=>a.1.get (0::0::π)=some (.box [.ptr m 0])∧AA (∃V',V'.v3=X3∧Cb p sz π m V h (a.2+31) V' ⟨⟨D,st.em.bv,Nu D st.em.am i,F⟩,EV,st.work⟩ a.1)) (b0:=(H3,b)) rfl ⟨k4.out,⟨V2,hv3,by rw[lP];exact hr2.out⟩⟩ ?_ ?_
  .clear hR1 hR;rintro i q ⟨g,b⟩ hq hi him ⟨k2,hR⟩ IH;dsimp only at*;obtain⟨V',hv,hR⟩:=hR.out;have gm:=hR.rep.box;simp only[Au,hv]at gm;have hqa:=(Ot hF hs.out hq).at_;have q0:=hqa.1;have q1:=hqa.2;obtain⟨qv,hrow,hqs⟩:=hR.rep.am.row _ _ (Wy (l:=D) hq);rcases hR.rep.arr with⟨_,hA⟩|⟨A,hA,gA⟩
   .rw[hA]at hrow;simp at hrow
   have lA:=AI hrow;rw[hv]at hA;have hrl:V'.rows.length=st.em.am.length:=by
    have:=hR.rep.am.len;simp only at this;rw[this,tj _ _ (by have:=AI hq;omega)]
   have hDl3:=hDl.out;obtain⟨sp,hsp⟩:=get_some (l:=D) (i:=q.at_.toNat) (by omega);obtain⟨S2,ys2,hSs,gS,xS,lS,lS2⟩:=Jl (hR.rep.sl 0 (by omega)) hsp;simp only[Gg]at gS;rw[hSs]at gm;have hAi:=V'.v3_mem m (id:=A) (by rw[hv,hA];simp[AF]);have hSi:=V'.s_mem m (i:=0) (by omega) (id:=S2) (by rw[hSs];simp[AF]);have nA:=Fe (b':=0) hu.out (hR.ids A hAi);have nS:=Fe (b':=0) hu.out (hR.ids S2 hSi);have nM:=Fe (b':=0) hu.out (hR.ids m (V'.m_mem m));have bA: ∀k,Id.is A (0::k::π)=false:=fun k=>AE fun e=>Hh hR hu.out k (by rw[←e];exact hAi);have hcu:AA (Nu D st.em.am (i+1)=(Nu D st.em.am i).set i (SS D q)):=⟨lO hq⟩;have hdd:AY D q.at_=sp.dead:=by rw[AY,hsp];rfl
   have hgo:=AA.mk fun h'=>TT (N:=IB (b+31) (b+59) π) hR.rep (hR.apartB hu.out) (by rw[hv];exact hA) (Wy (l:=D) hq) hrow [] .co h';have hqc:qv.isCell=true:=by rcases hqs with⟨rfl,_⟩|⟨_,_,rfl,_⟩<;>rfl
   have hqd:qv.cells=[qv]:=by rcases hqs with⟨rfl,_⟩|⟨_,_,rfl,_⟩<;>rfl
   have hrow0:=AA.mk hrow;simp only[A5]at hrow;replace hDl3:=AA.mk hDl3;replace hR:=AA.mk hR;replace hv:=AA.mk hv;replace hdd:=AA.mk hdd;replace hrl:=AA.mk hrl
   (repeat' (first|simp only[go_sem, *,AM]|(refine sx ?_ ?_<;>intro hc)|refine sy (by omega) fun x hx hm=>?_|simp(disch:=first|assumption|omega) only[AK]))
   .have hcut:AA (SS D q={q with queue:=[]}):=⟨by rw[SS,hdd.out,hc,D0 rfl]⟩
    obtain⟨H4,hH4⟩: ∃H4,H4=((g.put (0::(b+35)::π) (.box [.d (.int .i64 (0)),.d (.int .i64 (0)),.d (.int .i64 (0)),.co])).put (0::(b+35)::π) (.box [.d (.int .i64 (q.group)),.d (.int .i64 (q.index)),.d (.int .i64 (q.at_)),qv])).put A (.arr 4 (V'.rows.set i [.d (.int .i64 (q.group)),.d (.int .i64 (q.index)),.d (.int .i64 (q.at_)),.co])):=⟨_,rfl⟩;have B1:H4.get m=some (.box (Au p sz V' st.work)):=by
     rw[hH4,get_put,AE (show A≠m from fun e=>by rw[e,gm]at gA;cases gA),get_put,nM _ _ (by omega),get_put,nM _ _ (by omega)];exact hR.out.rep.box
    have B0:H4.get A=some (.arr 4 (V'.rows.set i (A5 q .co))):=by
     rw[hH4,get_put,is_self];rfl
    obtain⟨V3,hR3,_⟩:=hR.out.step (b':=b+59) (by omega) (hgo.out H4 B1 B0 (.inl ⟨rfl,rfl⟩) (.inr fun id hid=>by simp[AF]at hid) fun id b1 b2 b3 b4=>by rw[hH4,get_put,b2,get_put,DK b4 0 (b+35) (by omega) (by omega),get_put,DK b4 0 (b+35) (by omega) (by omega)];rfl);rw[←hH4];have B2:H4.get (0::0::π)=some (.box [.ptr m 0]):=by
     rw[hH4,get_put,bA,get_put,AE (by simp),get_put,AE (by simp)];exact k2
    have hv3:V3.v3=V'.v3:=tJ (V:=V') (Obj.box.inj (MK (B1.symm.trans hR3.rep.box)));rw[←hA];refine IH.out (H4,b+28) ⟨B2,⟨V3,hv3.trans hv.out,?_⟩⟩;dsimp only;rw[hcu.out,hcut.out];exact hR3
   .have hcut:AA (SS D q=q):=⟨by rw[SS,hdd.out,hc,CI (by simp)]⟩;rw[←hA];refine IH.out (_,b+19) ⟨?_,⟨V',hv.out,?_⟩⟩
    .dsimp only;rw[get_put,AE (by simp),get_put,AE (by simp)];exact k2
    .dsimp only;rw[hcu.out,hcut.out,bf (Wy (l:=D) hq)];exact(hR.out.loc hu.out fun id hh=>by rw[get_put,hh 0 (b+35) (by omega),get_put,hh 0 (b+35) (by omega)];rfl).up (by omega)
  .rintro i ⟨g,b⟩ hi him ⟨k2,hR⟩;dsimp only at*;obtain⟨V',hv,hR⟩:=hR.out;rw[hi.out,th]at hR;replace hR:=AA.mk hR;refine ax ?_;exact hR.out.fin
theorem Zy{V':MV}{H g1:AD}{b n:Nat}{st1:Ck}{o:Ad}{r:Option Ck}(hu:Ca π V m)(hr:Cb p sz π m V h b V' st1 H)(hn:b≤n)(ho:FI p sz (n::π) m V' H r o g1):FI p sz π m V h r o (gc (n::π) g1)∧(o=.ret (.ge [])∨o=.f9 (CL 3)):=by
 cases r with
 |none=>exact⟨hr.f9 hu hn ho,.inr ho.1⟩
 |some st2=>
  obtain⟨V2,h2,_⟩:=hr.call hu hn ho;obtain⟨rfl,_⟩:=ho;exact⟨h2.fin,.inl rfl⟩
theorem AGW(hF:BK p sz)(hM:Dw p sz h m V st)(hu:Ca π V m)(hs:FH p sz st.em){x:Cc}(hx:Kz p st.em x)(hev:st.ev.length≤400000):
 ∃o h',KL Tryz.prog cfg (.fn 55) [.ptr m 0,OW x] h π true none=.ok (o,h')∧FI p sz π m V h (Jm p st.em st.ev x) o h':=by
 have hm:=hM.box;simp only[Au]at hm;have um:=hu m (V.m_mem m);have e1:=AH um;have e2:=Ak um;have hss:=hs.small;simp only[BF.small,AP,Ap]at hss;obtain⟨s1,s2,s3,s4⟩:=hss;obtain⟨st0,hst0⟩: ∃st0:Ck,st0=⟨st.em,st.ev,0⟩:=⟨_,rfl⟩;have hrun:AA (∀H:AD,H.get m=some (.box (Au p sz V 0))→(∀id,Id.is m id=false→Id.under π id=false→H.get id=h.get id)→Cb p sz π m V h 0 V st0 H):=⟨fun H a1 a2=>by
  have:=Vd (st':=st0) hM hu (by rw[hst0];exact a1) (by rw[hst0];exact⟨rfl,rfl⟩) fun id b1 b2=>a2 id (AE fun e=>b1 e.symm) b2;exact⟨this.1,fun id hid=>.inl hid,this.2.frame⟩⟩
 replace hM:=AA.mk hM;replace hu:=AA.mk hu;replace hs:=AA.mk hs;cases hx with
 | @i9 i k g d r t h1 h2 h3 h4 h5=>
   have hE:AA (Jm p st.em st.ev ⟨-1,i,k,t⟩=GD p 401 ⟨r.node,g.place d r.at_,g.env++(BM d g r.d7 t st.em).1⟩ ⟨(BM d g r.d7 t st.em).2,st.ev++[⟨1,g.place d r.at_,i,k,(BM d g r.d7 t st.em).1⟩],0⟩):=⟨by
    have h1':st.em.bv[((i:Nat):Int).toNat]? =some g:=h1;have h3':d.rules[((k:Nat):Int).toNat]? =some r:=h3;rw[Jm,Di,D0 (by dsimp only;omega),j5];simp only[h1',(Dx h2).2,h3',Rq];exact(W3 p st.ev 401 _ ⟨(BM d g r.d7 t st.em).2,[⟨1,g.place d r.at_,i,k,(BM d g r.d7 t st.em).1⟩],0⟩).symm⟩
   replace h5:=AA.mk h5;replace hst0:=AA.mk hst0;have hr1:Cb p sz π m V h 0 V st0 ((h.put (0::0::π) (.box [.d (.int .i64 (-1)),.d (.int .i64 (i)),.d (.int .i64 (k)),.d (.be (t.map AJ))])).put m (.box (Au p sz V 0))):=hrun.out _ (by rw[get_put,is_self];rfl) fun id b1 b2=>by
    have q1:=AH b2;rw[get_put,b1,get_put,q1];rfl
   have hre:=AA.mk (yW hF (π:=10::π) (st:=st0) hr1.rep (hr1.apart hu.out (n:=10) (by omega)) (i:=i) (k:=k) (g:=g) (d:=d) (r:=r) (t:=t) (by rw[hst0.out];exact hs.out) (by rw[hst0.out];exact h1) h2 h3 (by rw[hst0.out];exact h4) (by rw[hst0.out];exact h5.out) (by rw[hst0.out]) (by rw[hst0.out];dsimp only;omega));have hfn:=AA.mk fun o g1 r=>Zy (o:=o) (g1:=g1) (r:=r) hu.out hr1 (show 0≤10 by omega);replace hr1:=AA.mk hr1
   (refine Aj rfl Tryz.func55 rfl rfl rfl ?_;show Wp _ _ _ _ (Tryz.f55.body.get rfl) _ _;simp only[Tryz.f55,AS])
   refine ax ?_;refine AZ hre.out (fun o1 g1 p1=>?_);obtain⟨p2,p3⟩:=hfn.out _ _ _ p1;have hE2:FI p sz π m V h (Jm p st.em st.ev ⟨-1,i,k,t⟩) o1 (gc (10::π) g1):=by
    rw[hE.out];rw[hst0.out]at p2;exact p2
   replace hE2:=AA.mk hE2;replace p1:=AA.mk p1;replace p2:=AA.mk p2;rcases p3 with rfl|rfl;all_goals
    refine ax ?_;exact hE2.out
 | @wait i w h1 h2=>
   obtain⟨y,hw⟩:=NY hF (hs.out.wait w (Ac h1));have hil:=AI h1;obtain⟨W,xs,hWs,gW,xW,lW,lW2⟩:=Jl (hM.out.sl 2 (by omega)) h1;simp only[Gg]at gW;have hWi:=V.s_mem m (i:=2) (by omega) (id:=W) (by rw[hWs];simp[AF]);have uW:=hu.out W hWi;have a3:=AH uW;have a4:=Ak uW;have Wm:Id.is W m=false:=AE fun e=>by rw[e,hm]at gW;cases gW
   have mW:Id.is m W=false:=AE fun e=>by rw[←e,hm]at gW;cases gW
   have hneg: ¬(i:Int)<0:=by omega
   have w1:IntKind.i64.wrap ((i:Int)+1)=(i:Int)+1:=wrap_id (by omega) (by omega);have hnd:=hw.node;have hn0:=hw.n0;have hnl:=AI hnd;have hm0:=AA.mk hm;rw[hWs]at hm;replace hst0:=AA.mk hst0;replace hw:=AA.mk hw;have hdel:=fun(H:AD) (n:Nat) (hH:H.get W=some (.d9 3 (st.em.waits.map AW++xs)))=>W1 (π:=n::π) hH (AG uW n) (n:=st.em.waits.length) (a:=i) (by simp) (by omega) (by intro e he;obtain⟨x,_,rfl⟩:=FN.1 he;rfl) (by omega);replace hdel:=AA.mk hdel;obtain⟨H1,hH1⟩: ∃H1:AD,H1=(((h.put (0::0::π) (.box [.d (.int .i64 (i)),.d (.int .i64 (0)),.d (.int .i64 (0)),.d (.be [])])).put m (.box [V.s 0,V.s 1,V.v3,.eq W 0 st.em.waits.length,.d (.be (p.free.map Av)),.d (.be (p.nodes.map Af)),.d (.be (p.defs.map Ax)),.d (.int .i64 (p.main)),.d (.be (sz.map AJ)),V.v9,.mp V.rx,V.s 3,.d (.int .i64 (0))])).put (0::17::π) (.box [.d (.int .i64 (0)),.d (.int .i64 (0)),.co])).put (0::17::π) (.box [.d (.int .i64 (w.at_)),.d (.int .i64 (w.node)),.d (.be (w.env.map AN))]):=⟨_,rfl⟩;have hr1:Cb p sz π m V h 0 V st0 H1:=hrun.out H1 (by rw[hH1,get_put,e1,get_put,e1,get_put,is_self,CI (by simp),CI (by simp),D0 rfl,Au,hWs]) fun id b1 b2=>by
    have q1:=AH b2;rw[hH1,get_put,q1,get_put,q1,get_put,b1,get_put,q1];rfl
   have k0:H1.get (0::0::π)=some (.box [.d (.int .i64 (i)),.d (.int .i64 (0)),.d (.int .i64 (0)),.d (.be [])]):=by
    rw[hH1,get_put,AE (by simp),get_put,AE (by simp),get_put,e2,get_put,is_self];rfl
   have k17:H1.get (0::17::π)=some (.box [.d (.int .i64 (w.at_)),.d (.int .i64 (w.node)),.d (.be (w.env.map AN))]):=by
    rw[hH1,get_put,is_self];rfl
   clear k0;have gm1:H1.get m=some (.box [V.s 0,V.s 1,V.v3,.eq W 0 st.em.waits.length,.d (.be (p.free.map Av)),.d (.be (p.nodes.map Af)),.d (.be (p.defs.map Ax)),.d (.int .i64 (p.main)),.d (.be (sz.map AJ)),V.v9,.mp V.rx,V.s 3,.d (.int .i64 (0))]):=by rw[hr1.rep.box,Au,hWs,hst0.out]
   have gW1:H1.get W=some (.d9 3 (st.em.waits.map AW++xs)):=by
    rw[hH1,get_put,a3,get_put,a3,get_put,mW,get_put,a3];exact gW
   (refine Aj rfl Tryz.func55 rfl rfl rfl ?_;show Wp _ _ _ _ (Tryz.f55.body.get rfl) _ _;simp only[Tryz.f55,AS])
   refine ax ?_;rw[←hH1];refine AZ (hdel.out _ 30 gW1) (fun o1 g1 p1=>?_);obtain⟨rfl,⟨y2,p1⟩,p2⟩:=p1;have uW3:=AG uW 30;have um3:=AG um 30;have k17':=(AU (30::π) g1 _ (Ag π (show 17≠30 by omega))).trans ((p2 _ (a4 0 17)).trans k17);have gm3:=(AU (30::π) g1 _ um3).trans ((p2 _ Wm).trans gm1);have gW3:=(AU (30::π) g1 _ uW3).trans p1;obtain⟨s1',hs1'⟩: ∃s1:BF,s1={st.em with waits:=Bh st.em.waits i}:=⟨_,rfl⟩
   obtain⟨H2,hH2⟩: ∃H2,H2=((gc (30::π) g1).put m (.box [V.s 0,V.s 1,V.v3,.eq W 0 (st.em.waits.length-1),.d (.be (p.free.map Av)),.d (.be (p.nodes.map Af)),.d (.be (p.defs.map Ax)),.d (.int .i64 (p.main)),.d (.be (sz.map AJ)),V.v9,.mp V.rx,V.s 3,.d (.int .i64 (0))])):=⟨_,rfl⟩;have A1:H2.get m=some (.box (Au p sz (V.ii 2 (.eq W 0 (st.em.waits.length-1))) 0)):=by rw[hH2,get_put,is_self];rfl
   have A2:Ju H2 3 (.eq W 0 (st.em.waits.length-1)) (A7 ⟨s1',st.ev,0⟩ 2):=by
    refine BR y2 ?_ ?_
    .rw[hs1',A7,BI,VG (by simpa using hil)]
    .rw[hH2,get_put,mW,CI (by simp),gW3,hs1',A7,Bh,D1,List.map_take,List.map_drop,GO]
   obtain⟨V2,hr2,_⟩:=(hr1.up (b':=30) (by omega)).step (b':=36) (by omega) (IQ (st':=⟨s1',st.ev,0⟩) 2 (by omega) hr1.rep ((hr1.up (b':=30) (by omega)).apartB hu.out) (vn (by rw[hs1',hst0.out]) (by rw[hs1',hst0.out]) (by rw[hst0.out])) (by rw[hs1',hst0.out]) (.eq W 0 (st.em.waits.length-1)) H2 A1 A2 (.inl (by rw[hWs];rfl)) fun id b1 b2 b3=>by rw[hH2,get_put,b1,CI (by simp),AU _ _ _ (Jg b3 (by omega) (by omega)),p2 id (b2 W (by rw[hWs];simp[AF]))]);have k17:H2.get (0::17::π)=some (.box [.d (.int .i64 (w.at_)),.d (.int .i64 (w.node)),.d (.be (w.env.map AN))]):=by
    rw[hH2,get_put,e2,CI (by simp)];exact k17'
   have gm4:=hr2.rep.box;have hVs:V2.s 0=V.s 0:=by
    have:=Obj.box.inj (MK (A1.symm.trans hr2.rep.box));simp only[Au,No]at this;exact this.1.symm
   simp only[Au]at gm4;replace A1:=AA.mk A1;replace A2:=AA.mk A2;replace hH1:=AA.mk hH1;replace hr1:=AA.mk hr1;replace hs1':=AA.mk hs1';replace p1:=AA.mk p1;replace p2:=AA.mk p2;clear gm1 gW1 gW3;replace hH2:=AA.mk hH2;replace gm4:=AA.mk gm4;replace k17:=AA.mk k17;have hsw:FH p sz s1':=by
    rw[hs1'.out];exact NX hs.out (by have:=MC st.em.waits (i:Int);omega) fun v hv=>hs.out.wait v (M0 hv)
   have hwo:=hs.out.wait w (Ac h1);replace hsw:=AA.mk hsw;replace hwo:=AA.mk hwo;have hop:=hw.out.op;by_cases h7:y.op=7
   .have hE:AA (Jm p st.em st.ev ⟨i,0,0,[]⟩=some ⟨Na s1' w.at_,st.ev++[⟨3,w.at_,0,0,[]⟩],0⟩):=⟨by rw[hs1'.out];exact ig h1 hnd h7⟩;clear hop;replace h2:=AA.mk h2;replace hr2:=AA.mk hr2;have hst:=AA.mk fun H hl=>AC6 hF (h:=H) (π:=53::π) (hr2.out.loc hu.out (H:=H) hl).rep (hr2.out.apart hu.out (n:=53) (by omega)) hsw.out (at_:=w.at_) (by have:=hwo.out;simp only[CA,AP,Ap]at this;rw[hs1'.out];exact this.1) (by dsimp only;omega);have hfn:=AA.mk fun H hl o g1 r=>Zy (o:=o) (g1:=g1) (r:=r) hu.out (hr2.out.loc hu.out (H:=H) hl) (show 36≤53 by omega);refine ax ?_;rw[←hH2.out];have hloc: ∀o1 o2:Abs.Obj,∀id,(∀a n,36≤n→Id.is (a::n::π) id=false)→((H2.put (0::44::π) o1).put (0::44::π) o2).get id=H2.get id:=fun o1 o2 id hh=>by rw[get_put,hh 0 44 (by omega),get_put,hh 0 44 (by omega)];rfl
    refine AZ (hst.out _ (hloc _ _)) (fun o1 g1 p1=>?_);obtain⟨q2,q3⟩:=hfn.out _ (hloc _ _) _ _ _ p1;replace q2:=AA.mk q2;obtain rfl:=p1.1;replace p1:=AA.mk p1;refine ax ?_;rw[hE.out];exact q2.out
   .obtain⟨v,hv,hvn,hvk⟩:=hw.out.val h7;obtain⟨kd,hkd⟩:=zN hF hw.out h7;obtain⟨n0,n1⟩:=hw.out.n h7;have hg:=h2;rw[lc,hnd]at hg;simp only[h7,El,hvn]at hg;have hk4:v.kind=4:=by
     by_cases hk:v.kind=4
     .exact hk
     .rw[CI hk]at hg;cases hg
    rw[D0 hk4]at hg;obtain⟨vr,vy,hvy,hvd⟩:=hvk hk4;have hv0:=vr.1;have hv1:=vr.2;have hat:=hw.out.at_;have hjk:=fun(s:BF) (h:CA p sz s w=true)=>Mr hF h hnd 0;rw[show Bq y 0 w.at_ w.env=[⟨kd,w.at_,w.env⟩] by rw[Bq,hkd];rfl]at hjk;replace h2:=AA.mk h2;replace hvk:=AA.mk hvk;replace hr2:=AA.mk hr2;replace vr:=AA.mk vr;replace hjk:=AA.mk hjk;by_cases h6:y.op=6
    .rw[CI (by omega)]at hg;simp only[AP,Ap,HU]at hg;have hpos:0<w.at_:=by have:=hat.1;omega
     have hat0:=hat.1;have hat1:=hat.2;obtain⟨sp,hsp⟩:=get_some (l:=st.em.ac) (i:=w.at_.toNat) (by omega);have hmv:=Kk hs.out hpos hat vr.out hg.2.1 hg.2.2;have hmv2:=Kk hsw.out (i:=w.at_) (n:=v.n) hpos (by rw[hs1'.out];exact hat) (by rw[hs1'.out];exact vr.out) (by rw[hs1'.out];exact hg.2.1) (by rw[hs1'.out];exact hg.2.2);obtain⟨S,ys,hSs,gS,xS,lS,lS2⟩:=Jl (hr2.out.rep.sl 0 (by omega)) (show s1'.ac[w.at_.toNat]? =some sp by rw[hs1'.out];exact hsp);simp only[Gg]at gS;have hsl:s1'.ac.length=st.em.ac.length:=by rw[hs1'.out]
     have hset:AA (HD s1'.ac w.at_ v.n=s1'.ac.set w.at_.toNat {sp with rc:=v.n}):=⟨by rw[HD,hs1'.out];simp only[hsp]⟩
     obtain⟨s2',hs2'⟩: ∃s2:BF,s2={s1' with ac:=HD s1'.ac w.at_ v.n}:=⟨_,rfl⟩
     have hE:AA (Jm p st.em st.ev ⟨i,0,0,[]⟩=GD p 401 ⟨kd,w.at_,w.env⟩ ⟨s2',st.ev++[⟨2,w.at_,v.n,0,[]⟩],0⟩):=⟨by rw[hs2',hs1'.out];exact yu h1 hnd h6 hkd hvn⟩;obtain⟨H3,hH3⟩: ∃H3,H3=(H2.put (0::44::π) (.box [.d (.int .i64 (0)),.d (.int .i64 (0)),.co,.co])).put (0::44::π) (.box [.d (.int .i64 (6)),.d (.int .i64 (y.n)),.d (.be (y.args.map Bg)),.d (.be [[.int .i64 kd]])]):=⟨_,rfl⟩;have hr3:Cb p sz π m V h 52 V2 ⟨s1',st.ev,0⟩ H3:=(hr2.out.loc hu.out (H:=H3) fun id hh=>by rw[hH3,get_put,hh 0 44 (by omega),get_put,hh 0 44 (by omega)];rfl).up (by omega);have hSi:=V2.s_mem m (i:=0) (by omega) (id:=S) (by rw[hSs];simp[AF]);have nS:=Fe (b':=0) hu.out (hr2.out.ids S hSi);have bS: ∀k,Id.is S (0::k::π)=false:=fun k=>AE fun e=>Hh hr2.out hu.out k (by rw[←e];exact hSi);have hSm:Id.is S m=false:=AE fun e=>by rw[e,hr2.out.rep.box]at gS;cases gS
     have hmS:Id.is m S=false:=AE fun e=>by rw[←e,hr2.out.rep.box]at gS;cases gS
     have gS3:(gc (30::π) g1).get S=some (.d9 2 (s1'.ac.map Ab++ys)):=by
      have h9:=gS
      rwa [hH2.out,get_put,hmS,CI (by simp)]at h9
     have hH2b:=hH2.out;rw[←hVs,hSs,hsl]at gm3 hH2b;have hS3:H3.get S=some (.d9 2 (s1'.ac.map Ab++ys)):=by
      rw[hH3,get_put,AE (fun e=>by have:=bS 44;rw[e,is_self]at this;cases this),get_put,AE (fun e=>by have:=bS 44;rw[e,is_self]at this;cases this)];exact gS
     obtain⟨H4,hH4⟩: ∃H4,H4=H3.put S (.d9 2 ((s1'.ac.map Ab++ys).set w.at_.toNat [.int .i64 v.n,.bool sp.dead])):=⟨_,rfl⟩;have hst2:s2'.ac.map Ab++ys=(s1'.ac.map Ab++ys).set w.at_.toNat [.int .i64 v.n,.bool sp.dead]:=by
      rw[hs2',hset.out,List.set_append_left _ _ (by simp;omega),Jp];rfl
     have B1:H4.get m=some (.box (Au p sz (V2.ii 0 (.eq S 0 s1'.ac.length)) 0)):=by
      rw[hH4,get_put,hSm,CI (by simp),hr3.rep.box];simp only[Au,←hSs];rfl
     have B2:Ju H4 2 (.eq S 0 s1'.ac.length) (A7 ⟨s2',st.ev,0⟩ 0):=by
      refine BR ys ?_ ?_
      .rw[A7,BI,hs2',Je]
      .rw[hH4,get_put,is_self,D0 rfl,A7,hst2]
     obtain⟨V3',hr5,_⟩:=hr3.step (b':=69) (by omega) (IQ (st':=⟨s2',st.ev,0⟩) 0 (by omega) hr3.rep (hr3.apartB hu.out) (vj (by rw[hs2']) (by rw[hs2']) rfl) (by rw[hs2']) (.eq S 0 s1'.ac.length) H4 B1 B2 (.inl (by rw[hSs])) fun id b1 b2 b3=>by rw[hH4,get_put,b2 S (by rw[hSs];simp[AF])];rfl);have k44:H4.get (0::44::π)=some (.box [.d (.int .i64 (6)),.d (.int .i64 (y.n)),.d (.be (y.args.map Bg)),.d (.be [[.int .i64 kd]])]):=by rw[hH4,get_put,bS,CI (by simp),hH3,get_put,is_self];rfl
     have k17b:H4.get (0::17::π)=some (.box [.d (.int .i64 (w.at_)),.d (.int .i64 (w.node)),.d (.be (w.env.map AN))]):=by
      rw[hH4,get_put,bS,CI (by simp),hH3,get_put,AE (by simp),get_put,AE (by simp)];exact k17.out
     replace B1:=AA.mk B1;replace B2:=AA.mk B2;replace hst2:=AA.mk hst2;replace hS3:=AA.mk hS3;replace hr5:=AA.mk hr5;replace k44:=AA.mk k44;replace k17b:=AA.mk k17b;replace hH4:=AA.mk hH4;replace hH2b:=AA.mk hH2b;rw[hsl]at lS lS2;replace hr3:=AA.mk hr3;replace hH3:=AA.mk hH3;replace hs2':=AA.mk hs2';replace hmv:=AA.mk hmv;replace hmv2:=AA.mk hmv2;replace hg:=AA.mk hg;replace hvn:=AA.mk hvn;replace hat:=AA.mk hat;replace hVs:=AA.mk hVs;refine ax ?_;rw[←hH2b.out,←hH3.out,←hH4.out];refine AZ (JU (V:=V3') (st:=⟨s2',st.ev,0⟩) hr5.out.rep (hr5.out.apart hu.out (n:=79) (by omega)) 2 w.at_ v.n 0 [] (by simp) (by dsimp only;omega)) (fun o1 g1 p1=>?_);obtain⟨V4,hr4,_⟩:=hr5.out.call hu.out (n:=79) (by omega) p1;have m17:=(hr5.out.box hu.out (k:=17) (by omega) p1).trans k17b.out;have m44:=(hr5.out.box hu.out (k:=44) (by omega) p1).trans k44.out;obtain rfl:=p1.1;have gm6:=hr4.rep.box;simp only[Au]at gm6;have hend:=AA.mk fun H2=>O1 hF hu.out hr4 (j:=⟨kd,w.at_,w.env⟩) ⟨by rw[hs2'.out];exact hmv2.out,by dsimp only;omega,by dsimp only;omega,by dsimp only;omega,by simp;omega⟩ (by rw[hs2'.out,hs1'.out];exact JD (hjk.out _ (hmv.out.wait w (Ac h1)) ⟨kd,w.at_,w.env⟩ (by simp)) (Bh st.em.waits i)) H2 89 (by omega);replace hr4:=AA.mk hr4;replace p1:=AA.mk p1;refine ax ?_;refine AZ (hend.out _ fun id hh=>rfl) (fun o2 g2 q2=>?_);obtain⟨q2,q3⟩:=q2;rw[←hE.out]at q2;replace q2:=AA.mk q2;rcases q3 with rfl|rfl;all_goals
      refine ax ?_;exact q2.out
    .have h8:y.op=8:=by omega
     have hE:AA (Jm p st.em st.ev ⟨i,0,0,[]⟩=GD p 401 ⟨kd,w.at_,w.env⟩ ⟨s1',st.ev++[⟨4,w.at_,v.n,0,[]⟩],0⟩):=⟨by rw[hs1'.out];exact ij h1 hnd h8 hkd hvn⟩;replace hg:=AA.mk hg;replace hvn:=AA.mk hvn;obtain⟨H3,hH3⟩: ∃H3,H3=(H2.put (0::44::π) (.box [.d (.int .i64 (0)),.d (.int .i64 (0)),.co,.co])).put (0::44::π) (.box [.d (.int .i64 (8)),.d (.int .i64 (y.n)),.d (.be (y.args.map Bg)),.d (.be [[.int .i64 kd]])]):=⟨_,rfl⟩;have hr3:Cb p sz π m V h 54 V2 ⟨s1',st.ev,0⟩ H3:=(hr2.out.loc hu.out (H:=H3) fun id hh=>by rw[hH3,get_put,hh 0 44 (by omega),get_put,hh 0 44 (by omega)];rfl).up (by omega);have k44:H3.get (0::44::π)=some (.box [.d (.int .i64 (8)),.d (.int .i64 (y.n)),.d (.be (y.args.map Bg)),.d (.be [[.int .i64 kd]])]):=by rw[hH3,get_put,is_self];rfl
     have k17b:H3.get (0::17::π)=some (.box [.d (.int .i64 (w.at_)),.d (.int .i64 (w.node)),.d (.be (w.env.map AN))]):=by
      rw[hH3,get_put,AE (by simp),get_put,AE (by simp)];exact k17.out
     replace hr3:=AA.mk hr3;replace k44:=AA.mk k44;replace k17b:=AA.mk k17b;replace hH3:=AA.mk hH3;refine ax ?_;rw[←hH2.out,←hH3.out];refine AZ (JU (V:=V2) (st:=⟨s1',st.ev,0⟩) hr3.out.rep (hr3.out.apart hu.out (n:=64) (by omega)) 4 w.at_ v.n 0 [] (by simp) (by dsimp only;omega)) (fun o1 g1 p1=>?_);obtain⟨V3,hr4,_⟩:=hr3.out.call hu.out (n:=64) (by omega) p1;have m17:=(hr3.out.box hu.out (k:=17) (by omega) p1).trans k17b.out;have m44:=(hr3.out.box hu.out (k:=44) (by omega) p1).trans k44.out;obtain rfl:=p1.1;have gm6:=hr4.rep.box;simp only[Au]at gm6;have hend:=AA.mk fun H2=>O1 hF hu.out hr4 (j:=⟨kd,w.at_,w.env⟩) ⟨hsw.out,by dsimp only;omega,by dsimp only;omega,by dsimp only;omega,by simp;omega⟩ (by rw[hs1'.out];exact JD (hjk.out _ hwo.out ⟨kd,w.at_,w.env⟩ (by simp)) _) H2 74 (by omega);replace hr4:=AA.mk hr4;replace p1:=AA.mk p1;refine ax ?_;refine AZ (hend.out _ fun id hh=>rfl) (fun o2 g2 q2=>?_);obtain⟨q2,q3⟩:=q2;rw[←hE.out]at q2;replace q2:=AA.mk q2;rcases q3 with rfl|rfl;all_goals
      refine ax ?_;exact q2.out
theorem Vy{a b:List Int}(hl:a.length=b.length){i:Nat}{x y:Int}(hx:a[i]? =some x)(hy:b[i]? =some y)(h: ¬x=y):decide (a=b)=false:=by
 refine By fun e=>?_;subst e;rw[hx]at hy;exact h (MK hy)
theorem YA(a b:List Int)(ha:a.length≤1000000):BB (KL Tryz.prog cfg) 29 [.d (.be (a.map AJ)),.d (.be (b.map AJ))] []=.ok (.ret (.d (.bool (decide (a=b)))),[]):=by
 by_cases hl:(a.length:Int)=b.length
 ·(refine Ae rfl Tryz.func29 rfl rfl rfl ?_;show Wp _ _ _ _ (Tryz.f29.body.get rfl) _ _;simp only[Tryz.f29,AS])
  refine aw ?_;refine Ah a (S:=fun i (_:Unit)=>⟨[(0,.d (.be (a.map AJ))),(1,.d (.be (b.map AJ))),(5,.d (.int .i64 (i)))],[],0,[]⟩)
   (Inv:=fun i rest _=>AA (a.take i=b.take i)) (b0:=()) ⟨by simp⟩ ?_ ?_
  .rintro i y _ hy hi him hI IH;have hil:i<b.length:=by omega
   have hib:(i:Int)<b.length:=by omega
   have w1:IntKind.i64.wrap ((i:Int)+1)=(i:Int)+1:=wrap_id (by omega) (by omega);obtain⟨z,hz⟩:=get_some hil;have hs:=AA.mk (Vy (by omega) hy hz);by_cases hyz:y=z
   .subst hyz;have ht:AA (a.take (i+1)=b.take (i+1)):=⟨by rw[GC,GC,hI.out,hy,hz]⟩;refine aw ?_;exact IH.out () ht
   .rw[hs.out hyz];exact au
  .rintro i _ hi him hI;have:decide (a=b)=true:=Ci (by
    have h:=hI.out
    rwa [hi.out,EL,show a.length=b.length by omega,EL]at h)
   rw[this];have hib: ¬(i:Int)<b.length:=by omega
   exact au
 .rw[By fun e=>hl (by rw[e])]
  (refine Ae rfl Tryz.func29 rfl rfl rfl ?_;show Wp _ _ _ _ (Tryz.f29.body.get rfl) _ _;simp only[Tryz.f29,AS])
  exact au
theorem YB(x y:Cc)(hx:x.it.length≤1000000):BB (KL Tryz.prog cfg) 19 [OW x,OW y] []=.ok (.ret (.d (.bool (decide (x=y)))),[]):=by
 have h1:=YA x.it y.it hx;have he:AA (decide (x=y)=(decide (x.wait=y.wait)&&(decide (x.group=y.group)&&(decide (x.i9=y.i9)&&decide (x.it=y.it))))):=⟨by
  have:(x=y)↔(x.wait=y.wait∧x.group=y.group∧x.i9=y.i9∧x.it=y.it):=by cases x;cases y;simp
  rw[Lc];simp only[AP,Ap];exact this⟩
 rw[he.out]
 (refine Ae rfl Tryz.func19 rfl rfl rfl ?_;show Wp _ _ _ _ (Tryz.f19.body.get rfl) _ _;simp only[Tryz.f19,AS])
 exact au;all_goals simp[*]
theorem uY(a b:List Int)(hb:b.length≤1000000):BB (KL Tryz.prog cfg) 99 [.d (.be (a.map AJ)),.d (.be (b.map AJ))] []=.ok (.ret (.d (.bool (decide (a=b)))),[]):=by
 by_cases hl:(a.length:Int)=b.length
 .have hln: ¬ ¬(a.length:Int)=b.length:=fun h=>h hl
  (refine Ae rfl Tryz.func99 rfl rfl rfl ?_;show Wp _ _ _ _ (Tryz.f99.body.get rfl) _ _;simp only[Tryz.f99,AS])
  refine aw ?_;refine AX a _ (S:=fun m' i (_:Unit)=>⟨[(0,.d (.be (a.map AJ))),(1,.d (.be (b.map AJ))),(12,.d (.int .i64 (m'))),(13,.d (.int .i64 (i)))],[],0,[]⟩)
   (Inv:=fun i rest _=>AA (a.take i=b.take i)) (b0:=()) (by omega) ⟨by simp⟩ ?_ ?_
  .rintro i y _ hy hi him hI IH;have hil:i<b.length:=by omega
   have hia:i<a.length:=by omega
   have hib:(i:Int)<b.length:=by omega
   have w1:IntKind.i64.wrap ((i:Int)+1)=(i:Int)+1:=wrap_id (by omega) (by omega);obtain⟨z,hz⟩:=get_some hil;have hs:=AA.mk (Vy (by omega) hy hz);by_cases hyz:y=z
   .subst hyz;have ht:AA (a.take (i+1)=b.take (i+1)):=⟨by rw[GC,GC,hI.out,hy,hz]⟩;refine aw ?_;exact IH.out () ht
   .rw[hs.out hyz];exact au
  .rintro i _ hi him hI;have:decide (a=b)=true:=Ci (by
    have h:=hI.out
    rwa [hi.out,EL,show a.length=b.length by omega,EL]at h)
   rw[this];have hib: ¬(i:Int)<b.length:=by have:=hi.out;omega
   exact au
 .rw[By fun e=>hl (by rw[e])]
  (refine Ae rfl Tryz.func99 rfl rfl rfl ?_;show Wp _ _ _ _ (Tryz.f99.body.get rfl) _ _;simp only[Tryz.f99,AS])
  exact au
theorem Xm(x y:Cc)(hx:y.it.length≤1000000):BB (KL Tryz.prog cfg) 54 [OW x,OW y] []=.ok (.ret (.d (.bool (decide (x=y)))),[]):=by
 have h1:=uY x.it y.it hx;have he:AA (decide (x=y)=(decide (x.wait=y.wait)&&(decide (x.group=y.group)&&(decide (x.i9=y.i9)&&decide (x.it=y.it))))):=⟨by
  have:(x=y)↔(x.wait=y.wait∧x.group=y.group∧x.i9=y.i9∧x.it=y.it):=by cases x;cases y;simp
  rw[Lc];simp only[AP,Ap];exact this⟩
 rw[he.out]
 (refine Ae rfl Tryz.func54 rfl rfl rfl ?_;show Wp _ _ _ _ (Tryz.f54.body.get rfl) _ _;simp only[Tryz.f54,AS])
 exact au;all_goals simp[*]
end Go.Proofs
namespace Go.Abs
theorem Te{α:Type}{f:α→List Aa}{l:List α}{g:G}{sz:Nat}{k:IntKind}{m:Int}(hf: ∀a,(f a).length=sz)(h0:0≤m)(hm:m≤l.length):ET g .slice sz (.d (.be (l.map f))) (some (.d (.int k m))) none none=some (.d (.be ((l.drop m.toNat).map f))):=by
 have hb:EH (some (.d (.int k m))) none none (l.map f).length=some (m.toNat,(l.map f).length,none):=by
  simp[EH,HQ,IZ,h0,hm]
 have he:Mz sz (l.map f)=true:=by
  cases l with
  |nil=>rfl
  |cons a l=>simp only[Cs,Mz,Hg,Ap];exact hf a
 show Qe sz (l.map f) (EH (some (.d (.int k m))) none none (l.map f).length)=_;rw[hb];have hr:Nat.ble m.toNat (l.map f).length=true:=by rw[Gx];simp;omega
 have h2:Nat.ble (l.map f).length (l.map f).length=true:=by rw[Gx];simp
 simp only[Qe,hr,h2,he,NO,F2,List.map_drop];rw[CS (by simp)]
end Go.Abs
namespace Go.Proofs
open Go Go.Abs
set_option maxRecDepth 100000
set_option maxHeartbeats 4000000
variable{g:G}{k:IntKind}{m:Int}
theorem iW{l:List BS}(h0:0≤m)(hm:m≤l.length):ET g .slice 2 (.d (.be (l.map Ab))) (some (.d (.int k m))) none none=some (.d (.be ((l.drop m.toNat).map Ab))):=Te (fun _=>rfl) h0 hm
theorem rn{l:List CV}(h0:0≤m)(hm:m≤l.length):ET g .slice 2 (.d (.be (l.map AN))) (some (.d (.int k m))) none none=some (.d (.be ((l.drop m.toNat).map AN))):=Te (fun _=>rfl) h0 hm
theorem Sj{h:AD}{π:List Nat}{m gid:Abs.Id}{p:AL}{s:BF}{st:BT}{x9 x10 x11 x12:AV}(hlk:looks p=some st)
 (hm:h.get m=some (.box [.d (.be (s.ac.map Ab)),.d (.be (s.bv.map Ar)),.d (.be (s.am.map Bm)),.d (.be (s.waits.map AW)),.d (.be (p.free.map Av)),.d (.be (p.nodes.map Af)),.d (.be (p.defs.map Ax)),.d (.int .i64 (p.main)),.d (.be (st.ci.map AJ)),x9,x10,x11,x12])) (um:Id.under π m=false) (h9:x9=wd gid p.defs.length) (hg:p.defs.length≠0→h.get gid=some (.d9 1 ((Bb p st.ci).map AJ))) (ug:Id.under π gid=false):
 ∃o h',KL Tryz.prog cfg (.fn 91) [.ptr m 0] h π true (some π)=.ok (o,h')∧o=(IV (CL 2) (DT p st.ci s)).1:=by
 have e1:=AH um;have e2:=Ak um;have e3:=AG um;have e4:=AH ug;have e5:=Ak ug;have e6:=AG ug;have hF:=AA.mk (CF hlk);have hsm:=hF.out.small;simp only[AL.small,AP,Ap]at hsm;obtain⟨c1,c2,c3⟩:=hsm;have hgl:(Bb p st.ci).length=p.defs.length:=by rw[Bb,Ir];simp
 by_cases hss:s.small=true
 .have hok:AA (DT p st.ci s=(Gn s.ac&&(Ft s.ac (s.ac.drop 1)&&(B4 p (Bb p st.ci) s 0 0 1 s.bv&&s.waits.all (CA p st.ci s))))):=⟨by rw[DT,hss,EM]⟩;simp only[BF.small,AP,Ap]at hss;obtain⟨s1,s2,s3,s4⟩:=hss;have y1:(s.ac.length:Int)≤24:=by omega
  have y2:(s.bv.length:Int)≤40:=by omega
  have y3:(s.am.length:Int)≤60:=by omega
  have y4:(s.waits.length:Int)≤40:=by omega
  have htr:=AC7 s.ac (by omega);cases htb:Gn s.ac with
  |false=>
   rw[htb]at hok htr;rw[hok.out]
   (refine Aj rfl Tryz.func91 rfl rfl rfl ?_;show Wp _ _ _ _ (Tryz.f91.body.get rfl) _ _;simp only[Tryz.f91,AS])
   refine aw ?_;rfl
  |true=>
   rw[htb,EM]at hok;rw[htb]at htr;have hT:=Ps htb;have htop:=hT.top;have hn0:(1:Int)≤s.ac.length:=by have:=hT.pos;omega
   replace hT:=AA.mk hT
   (refine Aj rfl Tryz.func91 rfl rfl rfl ?_;show Wp _ _ _ _ (Tryz.f91.body.get rfl) _ _;simp only[Tryz.f91,AS])
   (repeat' (first|simp only[go_sem, *]|(refine sx ?_ ?_<;>intro hc)|refine sy (by omega) fun x hx hm=>?_|simp(disch:=first|assumption|omega) only[AK,iW]))
   refine AX (s.ac.drop 1) _ (S:=fun m' i (a:AD×Nat)=>⟨[(0,.ptr m 0),(65,.d (.be ((s.ac.drop 1).map Ab))),(66,.d (.int .i64 (m'))),(67,.d (.int .i64 (i)))],a.1,a.2+49,[]⟩)
    (Inv:=fun i rest a=>a.1.get m=h.get m∧a.1.get gid=h.get gid∧AA (Ft s.ac (s.ac.drop 1)=Ft s.ac rest)) (b0:=(h,_)) rfl ⟨rfl,rfl,⟨rfl⟩⟩ ?_ ?_
   .rintro i y ⟨g,c⟩ hy hi him ⟨hgm,hgg,hr⟩ IH;dsimp only at*;have hy0:=hy;rw[HW]at hy;have hi0:=hi;rw[Io]at hi;have hbad:AA (Ft s.ac (s.ac.drop 1)=false→Ad.f9 (CL 2)=(IV (CL 2) (DT p st.ci s)).1):=⟨fun h=>by rw[hok.out,h];rfl⟩;have hpar:EF s.ac y.rc:=by
     have h1:=hT.out.qr (((1+i:Nat):Int)) ⟨by omega,by omega⟩;obtain⟨k,hk⟩: ∃k,s.ac.length=k+1:=⟨s.ac.length-1,by omega⟩;rw[hk]at h1;have h2:=(FL (by omega) h1).1
     rwa [KA (s:=y) (by rw[←hy];congr 1)]at h2
    obtain⟨p1,p2⟩:=hpar;obtain⟨z,hz⟩:=get_some (l:=s.ac) (i:=y.rc.toNat) (by omega);have hda:AA (AY s.ac y.rc=z.dead):=⟨by simp[AY,hz]⟩;rw[Ft]at hr;replace hy:=AA.mk hy;cases hyd:y.dead<;>cases hzd:z.dead;all_goals (refine aw ?_)
    all_goals first
    |(refine IH.out (_,_) ⟨?_,?_,⟨?_⟩⟩
      .simp only[go_sem,e1,hgm,AM]
      .simp only[go_sem,e4,hgg,AM]
      .rw[hr.out,hyd,hda.out,hzd];simp)
    |(refine IH.out (_,_) ⟨?_,?_,⟨?_⟩⟩
      .simp only[go_sem,e1,hgm,AM]
      .simp only[go_sem,e4,hgg,AM]
      .rw[hr.out,hyd];simp)
    |exact hbad.out (by rw[hr.out,hyd,hda.out,hzd];rfl)
   .rintro i ⟨g,c⟩ hi him ⟨hgm,hgg,hr⟩;dsimp only at*;rw[Ft]at hr;refine aw ?_;clear hi him;have hok2:AA (DT p st.ci s=(B4 p (Bb p st.ci) s 0 0 1 s.bv&&s.waits.all (CA p st.ci s))):=⟨by rw[hok.out,hr.out,EM]⟩;clear hok hr i;refine AX s.bv _ (S:=fun m' i (a:AD×Nat×Nat×Nat)=>⟨[(0,.ptr m 0),(4,.d (.int .i64 (a.2.2.1))),(5,.d (.int .i64 (a.2.2.2))),(92,.d (.be (s.bv.map Ar))),(93,.d (.int .i64 (m'))),(94,.d (.int .i64 (i)))],a.1,a.2.1+59,[]⟩)
     (Inv:=fun i rest a=>a.1.get m=h.get m∧a.1.get gid=h.get gid∧a.2.2.1≤30*i∧a.2.2.2≤30*i+1∧AA (DT p st.ci s=(B4 p (Bb p st.ci) s i a.2.2.1 a.2.2.2 rest&&s.waits.all (CA p st.ci s)))) (b0:=(g,_,0,1)) rfl ⟨hgm,hgg,by simp,by simp,hok2⟩ ?_ ?_
    .clear hgm hgg hok2 g c;rintro i gr ⟨g,n,c,k⟩ hy hi him ⟨hgm,hgg,b1,b2,hr⟩ IH;dsimp only at*;by_cases x0:gr.f8<0
     .have x0: ¬0≤gr.f8:=by omega
      have hf:AA (DT p st.ci s=false):=⟨by rw[hr.out,B4,AL.def?,CI (by omega),CO]⟩;refine aw ?_;all_goals (rw[hf.out];rfl)
     by_cases x1:(p.defs.length:Int)≤gr.f8
     .have x1: ¬gr.f8<p.defs.length:=by omega
      have x0:0≤gr.f8:=by omega
      have hf:AA (DT p st.ci s=false):=⟨by rw[hr.out,B4,AL.def?,D0 (by omega),I1 (by omega),CO]⟩;refine aw ?_;all_goals (rw[hf.out];rfl)
     have x2:0≤gr.f8:=by omega
     have x3:gr.f8<p.defs.length:=by omega
     have hdl:gr.f8.toNat<p.defs.length:=by omega
     have hD:p.defs.length≠0:=by omega
     obtain⟨d,hd⟩:=get_some hdl;have hdf:=B3 hF.out hd;obtain⟨v,hv⟩:=get_some (l:=Bb p st.ci) (i:=gr.f8.toNat) (by omega);have hv2:d.own≤v∧v≤5060:=by
      obtain⟨_,_,s0,_,_,_,_,q0,q1,q2,_⟩:=hdf.node;rw[hv]at q2;cases q2;have:=OE hdf.ok;omega
     have hstep:AA (DT p st.ci s=((Ja p (Bb p st.ci) s i c k gr d&&B4 p (Bb p st.ci) s (i+1) (c+d.am.length) (k+d.ac.length) (s.bv.drop (i+1)))&&s.waits.all (CA p st.ci s))):=⟨by
      rw[hr.out,B4,AL.def?,D0 x2,hd]⟩
     have hgo:AA (Ja p (Bb p st.ci) s i c k gr d=(decide (EF s.ac gr.at_)&&(decide ((gr.env.length:Int)=v)&&(gr.env.all (CV.inB p s.am.length s.ac.length)&&(DG d c k gr&&EI p s d gr i c 0 d.am))))):=⟨by
      rw[Ja,hv];rfl⟩
     have hbad:AA (Ja p (Bb p st.ci) s i c k gr d=false→Ad.f9 (CL 2)=(IV (CL 2) (DT p st.ci s)).1):=⟨fun h=>by rw[hstep.out,h];rfl⟩;have hdo:=hdf.ok;have d1:=hdo.am;have d2:=hdo.ac;have d3:d.own=d.am.length+d.ac.length:=rfl;replace hdo:=AA.mk hdo;replace hdf:=AA.mk hdf;have hg2:=hg hD;rw[BJ hD]at h9;refine aw ?_;refine DQ (bn (sp:=s.ac.map Ab) (Eq.trans (b:=h.get m) ?_ hm) (by simp;omega) gr.at_) (fun o1 g1 p1=>?_)
     .simp only[go_sem,e1,hgm,AM]
     by_cases hin:EF s.ac gr.at_
     .have hin2:=hin;replace p1:o1=.ret (.ge []):=by
       rw[p1,Ci hin.1,BI,Ci hin.2];rfl
      subst p1;replace hin:=AA.mk hin;have hge:h.get gid=some (.d9 1 ((Bb p st.ci).map AJ)):=hg2;refine aw ?_;refine DQ (W7 (p:=p) (sp:=s.ac.map Ab) (ch:=s.am.map Bm) (Eq.trans (b:=h.get m) ?_ hm) (e3 _) (by simp;omega) (by simp;omega) (by omega) gr.env v (by omega)) (fun o2 g2 p2=>?_)
      .simp only[go_sem,e1,hgm,AM]
      rw[BI,BI]at p2;by_cases hev:(decide ((gr.env.length:Int)=v)&&gr.env.all (CV.inB p s.am.length s.ac.length))=true
      .rw[hev]at p2;replace p2:o2=.ret (.ge []):=p2;subst p2;rw[AP,Ap]at hev;obtain⟨hlen,hall⟩:=hev;have hlt:gr.env.length≤5060:=by omega
       have hown:d.own≤gr.env.length:=by omega
       have hgo2:AA (Ja p (Bb p st.ci) s i c k gr d=(DG d c k gr&&EI p s d gr i c 0 d.am)):=⟨by
        rw[hgo.out,Ci hin.out,Ci hlen,hall,EM,EM,EM]⟩
       clear hgo;replace hlen:=AA.mk hlen;replace hall:=AA.mk hall;obtain⟨E,hE⟩: ∃E,E=gr.env.drop (gr.env.length-d.am.length-d.ac.length):=⟨_,rfl⟩;have hEl:E.length=d.am.length+d.ac.length:=by rw[hE,Io];omega
       have w1:IntKind.i64.wrap ((gr.env.length:Int)-(d.am.length:Int))=(gr.env.length:Int)-(d.am.length:Int):=wrap_id (by omega) (by omega);have w2:IntKind.i64.wrap ((gr.env.length:Int)-(d.am.length:Int)-(d.ac.length:Int))=((gr.env.length-d.am.length-d.ac.length:Nat):Int):=by rw[wrap_id (by omega) (by omega)];omega
       have w3: ∀g0:G,ET g0 .slice 2 (.d (.be (gr.env.map AN))) (some (.d (.int .i64 ((gr.env.length-d.am.length-d.ac.length:Nat):Int)))) none none=some (.d (.be ((gr.env.drop (gr.env.length-d.am.length-d.ac.length)).map AN))):=fun g0=>rn (by omega) (by omega);rw[←hE]at w3;have hm0:AA (DG d c k gr=decide (E.drop 0=(En c k d).drop 0)):=⟨by rw[hE];rfl⟩;replace hE:=AA.mk hE;have q43: ¬n=n+43:=by omega
       have r43: ¬n+43=n:=by omega
       refine ax ?_;clear w1 w2 w3 q43 r43;refine AX d.am _ (S:=fun m' i2 (a:AD×Nat)=>⟨[(0,.ptr m 0),(4,.d (.int .i64 (c))),(5,.d (.int .i64 (k))),(6,.d (.int .i64 (i))),(7,.ptr (0::(n+63)::π) 0),(8,.ptr (0::(n+106)::π) 0),(9,.d (.be (E.map AN))),(92,.d (.be (s.bv.map Ar))),(93,.d (.int .i64 (s.bv.length))),(94,.d (.int .i64 (i))),(155,.d (.int .i64 (m'))),(156,.d (.int .i64 (i2)))],a.1,a.2+127,[]⟩)
        (Inv:=fun i2 rest a=>a.1.get m=h.get m∧a.1.get gid=h.get gid∧a.1.get (0::(n+63)::π)=some (.box [.d (.int .i64 (gr.f8)),.d (.int .i64 (gr.at_)),.d (.be (gr.env.map AN))])∧a.1.get (0::(n+106)::π)=some (.box [.d (.be (d.am.map A3)),.d (.be (d.ac.map Ao)),.d (.be (d.rules.map A0))])∧n≤a.2∧AA (DG d c k gr=decide (E.drop i2=(En c k d).drop i2))) (b0:=(_,_)) rfl ⟨?_,?_,?_,?_,?_,hm0⟩ ?_ ?_
       .simp only[go_sem,e1,hgm,AM]
       .simp only[go_sem,e4,hgg,AM]
       .have q43: ¬n=n+43:=by omega
        have r43: ¬n+43=n:=by omega
        simp only[go_sem,q43,r43,AM]
       .simp only[go_sem,AM]
       .exact EX _
       .clear hm0 hgm hgg g;rintro i2 y ⟨g,n2⟩ hy2 hi2 him2 ⟨hgm,hgg,g63,g106,hn2,hr2⟩ IH2;dsimp only at*;obtain⟨u,hu⟩:=get_some (l:=E) (i:=i2) (by omega);have hE2:(i2:Int)<E.length:=by omega
        have hr3:AA (DG d c k gr=(decide (u=⟨3,(c:Int)+(i2:Int)⟩)&&decide (E.drop (i2+1)=(En c k d).drop (i2+1)))):=⟨by
         rw[hr2.out,JS hu,JS (MN c k d hi2),Lc];simp⟩
        have w4:IntKind.i64.wrap ((c:Int)+(i2:Int))=(c:Int)+(i2:Int):=wrap_id (by omega) (by omega);by_cases hu2:u=⟨3,(c:Int)+(i2:Int)⟩
        .subst hu2;refine ax ?_;refine IH2.out (_,_) ⟨hgm,hgg,g63,g106,?_,⟨?_⟩⟩
         .dsimp only;omega
         .rw[hr3.out,Ci rfl,EM]
        .have hne:(decide (u.kind=3)&&decide (u.n=(c:Int)+(i2:Int)))=false:=by
          rw[←Kw,AP,Ap,Ap];rintro⟨h1,h2⟩;exact hu2 (by cases u;simp_all)
         refine ax ?_;exact hbad.out (by rw[hgo2.out,hr3.out,By hu2];rfl)
       .clear hm0 hgm hgg g;rintro i2 ⟨g,n2⟩ hi2 him2 ⟨hgm,hgg,g63,g106,hn2,hr2⟩;dsimp only at*;rw[hi2.out]at hr2;refine ax ?_;clear hi2 him2 i2;refine AX d.ac _ (S:=fun m' j (a:AD×Nat)=>⟨[(0,.ptr m 0),(4,.d (.int .i64 (c))),(5,.d (.int .i64 (k))),(6,.d (.int .i64 (i))),(7,.ptr (0::(n+63)::π) 0),(8,.ptr (0::(n+106)::π) 0),(9,.d (.be (E.map AN))),(92,.d (.be (s.bv.map Ar))),(93,.d (.int .i64 (s.bv.length))),(94,.d (.int .i64 (i))),(172,.d (.int .i64 (m'))),(173,.d (.int .i64 (j)))],a.1,a.2+132,[]⟩)
         (Inv:=fun j rest a=>a.1.get m=h.get m∧a.1.get gid=h.get gid∧a.1.get (0::(n+63)::π)=some (.box [.d (.int .i64 (gr.f8)),.d (.int .i64 (gr.at_)),.d (.be (gr.env.map AN))])∧a.1.get (0::(n+106)::π)=some (.box [.d (.be (d.am.map A3)),.d (.be (d.ac.map Ao)),.d (.be (d.rules.map A0))])∧n≤a.2∧AA (DG d c k gr=decide (E.drop (d.am.length+j)=(En c k d).drop (d.am.length+j)))) (b0:=(g,n2)) rfl ⟨hgm,hgg,g63,g106,hn2,hr2⟩ ?_ ?_
        .clear hr2 hgm hgg g63 g106 g hn2 n2;rintro j y ⟨g,n2⟩ hyj hij himj ⟨hgm,hgg,g63,g106,hn2,hr2⟩ IH2;dsimp only at*;obtain⟨u,hu⟩:=get_some (l:=E) (i:=d.am.length+j) (by omega);have hr3:AA (DG d c k gr=(decide (u=⟨4,(k:Int)+(j:Int)⟩)&&decide (E.drop (d.am.length+(j+1))=(En c k d).drop (d.am.length+(j+1))))):=⟨by
          rw[hr2.out,JS hu,JS (MO c k d hij),Lc];simp[RG]⟩
         have w4:IntKind.i64.wrap ((k:Int)+(j:Int))=(k:Int)+(j:Int):=wrap_id (by omega) (by omega);have w5:IntKind.i64.wrap ((d.am.length:Int)+(j:Int))=(d.am.length:Int)+(j:Int):=wrap_id (by omega) (by omega);have ix:((d.am.length:Int)+(j:Int)).toNat=d.am.length+j:=by omega
         rw[←ix]at hu;replace ix:=AA.mk ix;have ix2:0≤(d.am.length:Int)+(j:Int):=by omega
         have ix3:(d.am.length:Int)+(j:Int)<E.length:=by omega
         by_cases hu2:u=⟨4,(k:Int)+(j:Int)⟩
         .subst hu2;refine ax ?_;refine IH2.out (_,_) ⟨hgm,hgg,g63,g106,?_,⟨?_⟩⟩
          .dsimp only;omega
          .rw[hr3.out,Ci rfl,EM]
         .have hne:(decide (u.kind=4)&&decide (u.n=(k:Int)+(j:Int)))=false:=by
           rw[←Kw,AP,Ap,Ap];rintro⟨h1,h2⟩;exact hu2 (by cases u;simp_all)
          refine ax ?_;exact hbad.out (by rw[hgo2.out,hr3.out,By hu2];rfl)
        .clear hr2 hgm hgg g63 g106 g hn2 n2;rintro j ⟨g,n2⟩ hij himj ⟨hgm,hgg,g63,g106,hn2,hr2⟩;dsimp only at*;have hmine:DG d c k gr=true:=by
          have hjj:=hij.out;rw[hr2.out,D7 (by omega),D7 (by rw[Jd];omega)];rfl
         have hgo3:AA (Ja p (Bb p st.ci) s i c k gr d=EI p s d gr i c 0 d.am):=⟨by rw[hgo2.out,hmine,EM]⟩;replace hmine:=AA.mk hmine;clear hr2 hgo2;refine ax ?_;clear hij himj j;refine AX d.am _ (S:=fun m' j (a:AD×Nat)=>⟨[(0,.ptr m 0),(4,.d (.int .i64 (c))),(5,.d (.int .i64 (k))),(6,.d (.int .i64 (i))),(7,.ptr (0::(n+63)::π) 0),(8,.ptr (0::(n+106)::π) 0),(92,.d (.be (s.bv.map Ar))),(93,.d (.int .i64 (s.bv.length))),(94,.d (.int .i64 (i))),(192,.d (.be (d.am.map A3))),(193,.d (.int .i64 (m'))),(194,.d (.int .i64 (j)))],a.1,a.2+137,[]⟩)
          (Inv:=fun j rest a=>a.1.get m=h.get m∧a.1.get gid=h.get gid∧a.1.get (0::(n+63)::π)=some (.box [.d (.int .i64 (gr.f8)),.d (.int .i64 (gr.at_)),.d (.be (gr.env.map AN))])∧a.1.get (0::(n+106)::π)=some (.box [.d (.be (d.am.map A3)),.d (.be (d.ac.map Ao)),.d (.be (d.rules.map A0))])∧n≤a.2∧AA (EI p s d gr i c 0 d.am=EI p s d gr i c j rest)) (b0:=(g,n2)) rfl ⟨hgm,hgg,g63,g106,hn2,⟨rfl⟩⟩ ?_ ?_
         .clear hgm hgg g63 g106 g hn2 n2;rintro j ch ⟨g,n2⟩ hyj hij himj ⟨hgm,hgg,g63,g106,hn2,hrj⟩ IHj;dsimp only at*;have hcj:c+j<s.am.length:=by
           have:=DO.1 hall.out _ (Ac (Va hmine.out hij));simp[CV.inB]at this;omega
          obtain⟨q,hq⟩:=get_some hcj;have hca:=hdo.out.chan ch (Ac hyj);have hpi:=Pd hmine.out hown hin.out hall.out (n:=ch.at_) hca.1 hca.2.1;obtain⟨hp1,hp2⟩:=hpi;obtain⟨sp,hsp⟩:=get_some (l:=s.ac) (i:=(gr.place d ch.at_).toNat) (by omega);have hda:AA (AY s.ac (gr.place d ch.at_)=sp.dead):=⟨by simp[AY,hsp]⟩;have hck:AA (KY p s d gr i j (c+j) ch=(decide (q.group=i)&&(decide (q.index=j)&&(decide (q.at_=gr.place d ch.at_)&&(decide (q.queue.length≤12)&&((decide (q.queue.length=0)|| !AY s.ac q.at_)&&q.queue.all (FA p s.am.length s.ac.length ch.many))))))):=⟨by rw[KY,hq];rfl⟩;have hbc:AA (KY p s d gr i j (c+j) ch=false→Ad.f9 (CL 2)=(IV (CL 2) (DT p st.ci s)).1):=⟨fun h=>hbad.out (by rw[hgo3.out,hrj.out,EI,h,CO])⟩;have w4:IntKind.i64.wrap ((c:Int)+(j:Int))=(c:Int)+(j:Int):=wrap_id (by omega) (by omega);have ix:((c:Int)+(j:Int)).toNat=c+j:=by omega
          rw[←ix]at hq;replace ix:=AA.mk ix;have ix2:0≤(c:Int)+(j:Int):=by omega
          have ix3:(c:Int)+(j:Int)<s.am.length:=by omega
          have q1: ¬n2+78=n:=by omega
          have q2: ¬n=n2+78:=by omega
          have q3: ¬n2+91=n:=by omega
          have q4: ¬n=n2+91:=by omega
          have q5: ¬n2+35=n:=by omega
          have q6: ¬n=n2+35:=by omega
          have q7: ¬n2+48=n:=by omega
          have q8: ¬n=n2+48:=by omega
          have q9: ¬n2+13=n2:=by omega
          have q0: ¬n2=n2+13:=by omega
          by_cases g1:q.group=i
          .by_cases g2:q.index=j
           .refine ax ?_;refine DA (NP (d:=d) (ds:=p.defs) (Eq.trans (b:=h.get m) ?_ hm) (e3 _) x2 hd d1 d2 hown (by omega) ch.at_ hca.1 hca.2.1) (fun o3 g3 p3=>?_)
            .simp only[go_sem,e1,hgm,AM]
            subst p3;by_cases g4:q.at_=gr.place d ch.at_
            .rw[g4]
             (repeat' (first|simp only[go_sem, *,AM]|(refine sx ?_ ?_<;>intro hc)|refine sy (by omega) fun x hx hm=>?_|simp(disch:=first|assumption|omega) only[AK]))
             all_goals try
              refine hbc.out ?_;rw[hck.out,g4,hda.out];clear IH IHj hr hstep hbad hbc hck hgo3 hrj hy hd hv hT hF hm hg htr hlk hgm hgg g63 g106;grind
             all_goals
              have hfin:AA (KY p s d gr i j (c+j) ch=q.queue.all (FA p s.am.length s.ac.length ch.many)):=⟨by
               rw[hck.out,g4,hda.out];clear IH IHj hr hstep hbad hbc hck hgo3 hrj hy hd hv hT hF hm hg htr hlk hgm hgg g63 g106;grind⟩
              refine AX q.queue _ (S:=fun m' l (a:AD×Nat)=>⟨[(0,.ptr m 0),(4,.d (.int .i64 (c))),(5,.d (.int .i64 (k))),(6,.d (.int .i64 (i))),(7,.ptr (0::(n+63)::π) 0),(8,.ptr (0::(n+106)::π) 0),(13,.ptr (0::(n2+141)::π) 0),(92,.d (.be (s.bv.map Ar))),(93,.d (.int .i64 (s.bv.length))),(94,.d (.int .i64 (i))),(192,.d (.be (d.am.map A3))),(193,.d (.int .i64 (d.am.length))),(194,.d (.int .i64 (j))),(255,.d (.be (q.queue.map BG))),(256,.d (.int .i64 (m'))),(257,.d (.int .i64 (l)))],a.1,a.2+205,[]⟩)
               (Inv:=fun l rest a=>a.1.get m=h.get m∧a.1.get gid=h.get gid∧a.1.get (0::(n+63)::π)=some (.box [.d (.int .i64 (gr.f8)),.d (.int .i64 (gr.at_)),.d (.be (gr.env.map AN))])∧a.1.get (0::(n+106)::π)=some (.box [.d (.be (d.am.map A3)),.d (.be (d.ac.map Ao)),.d (.be (d.rules.map A0))])∧a.1.get (0::(n2+141)::π)=some (.box [.d (.int .i64 (ch.at_)),.d (.int .i64 (ch.many))])∧n2≤a.2∧AA (q.queue.all (FA p s.am.length s.ac.length ch.many)=rest.all (FA p s.am.length s.ac.length ch.many))) (b0:=(_,n2)) ?_ ⟨?_,?_,?_,?_,?_,?_,⟨rfl⟩⟩ ?_ ?_
              .omega
              .simp only[go_sem,e1,hgm,AM]
              .simp only[go_sem,e4,hgg,AM]
              .simp only[go_sem,g63,q1,q2,q3,q4,AM]
              .simp only[go_sem,g106,q5,q6,q7,q8,AM]
              .simp only[go_sem,q9,q0,AM]
              .exact EX _
              .clear hgm hgg g63 g106 g q1 q2 q3 q4 q5 q6 q7 q8 q9 q0;rintro l y ⟨g,n3⟩ hyl hil himl ⟨hgm,hgg,g63,g106,g141,hn3,hrl⟩ IHl;dsimp only at*;have q1: ¬n3+67=n2:=by omega
               have q2: ¬n2=n3+67:=by omega
               refine ax ?_;refine DQ (W7 (p:=p) (sp:=s.ac.map Ab) (ch:=s.am.map Bm) (Eq.trans (b:=h.get m) ?_ hm) (e3 _) (by simp;omega) (by simp;omega) (by omega) y ch.many (by omega)) (fun o4 g4' p4=>?_)
               .simp only[go_sem,e1,hgm,AM]
               rw[BI,BI]at p4;have hmk:(decide ((y.length:Int)=ch.many)&&y.all (CV.inB p s.am.length s.ac.length))=FA p s.am.length s.ac.length ch.many y:=rfl;rw[hmk]at p4;clear hmk;cases hmo:FA p s.am.length s.ac.length ch.many y with
               |true=>
                rw[hmo]at p4;replace p4:o4=.ret (.ge []):=p4;subst p4;refine ax ?_;refine IHl.out (_,_) ⟨?_,?_,?_,?_,?_,?_,⟨?_⟩⟩
                .simp only[go_sem,e1,hgm,AM]
                .simp only[go_sem,e4,hgg,AM]
                .have q3: ¬n3+145=n:=by omega
                 have q4: ¬n=n3+145:=by omega
                 simp only[go_sem,g63,q3,q4,AM]
                .have q3: ¬n3+102=n:=by omega
                 have q4: ¬n=n3+102:=by omega
                 simp only[go_sem,g106,q3,q4,AM]
                .simp only[go_sem,g141,q1,q2,AM]
                .dsimp only;omega
                .rw[hrl.out,D4,hmo,EM]
               |false=>
                rw[hmo]at p4;replace p4:o4=.f9 (CL 2):=p4;subst p4;refine ax ?_;exact hbc.out (by rw[hfin.out,hrl.out,D4,hmo,CO])
              .clear hgm hgg g63 g106 g q1 q2 q3 q4 q5 q6 q7 q8 q9 q0;rintro l ⟨g,n3⟩ hil himl ⟨hgm,hgg,g63,g106,g141,hn3,hrl⟩;dsimp only at*;refine ax ?_;refine IHj.out (_,_) ⟨hgm,hgg,g63,g106,?_,⟨?_⟩⟩
               .dsimp only;omega
               .rw[hrj.out,EI,hfin.out,hrl.out];rfl
            .refine ax ?_;exact hbc.out (by rw[hck.out,By g4];simp)
           .refine ax ?_;exact hbc.out (by rw[hck.out,By g2];simp)
          .refine ax ?_;exact hbc.out (by rw[hck.out,By g1];simp)
         .clear hgm hgg g63 g106 g hn2 n2;rintro j ⟨g,n2⟩ hij himj ⟨hgm,hgg,g63,g106,hn2,hrj⟩;dsimp only at*;have hgok:AA (Ja p (Bb p st.ci) s i c k gr d=true):=⟨by rw[hgo3.out,hrj.out];rfl⟩;refine ax ?_;refine IH.out (g,_,c+d.am.length,k+d.ac.length) ⟨hgm,hgg,?_,?_,⟨?_⟩⟩
          .dsimp only;omega
          .dsimp only;omega
          .dsimp only;rw[hstep.out,hgok.out,EM]
      .rw[Kw]at hev;rw[hev]at p2;replace p2:o2=.f9 (CL 2):=p2;subst p2;refine aw ?_;refine hbad.out ?_;rw[hgo.out];clear IH hr hstep hbad hgo hy hd hv hT hF hm hg htr hlk hgm hgg;grind
     .replace p1:o1=.f9 (CL 2):=by
       rw[p1,BI];have:(decide (0≤gr.at_)&&decide (gr.at_<(s.ac.length:Int)))=false:=by
        rw[←Kw,AP,Ap,Ap];exact hin
       rw[this];rfl
      subst p1;refine aw ?_;exact hbad.out (by rw[hgo.out,By hin,CO])
    .rintro i ⟨g,n,c,k⟩ hi him ⟨hgm,hgg,b1,b2,hr⟩;dsimp only at*;have hfin:AA (DT p st.ci s=((decide (c=s.am.length)&&decide (k=s.ac.length))&&s.waits.all (CA p st.ci s))):=⟨by rw[hr.out,B4]⟩;by_cases g1:c=s.am.length
     .by_cases g2:k=s.ac.length
      .have hf2:AA (DT p st.ci s=s.waits.all (CA p st.ci s)):=⟨by rw[hfin.out,Ci g1,Ci g2];rfl⟩;clear hfin hr;refine aw ?_;clear hi him i b1 b2;refine AX s.waits _ (S:=fun m' i (a:AD×Nat)=>⟨[(0,.ptr m 0),(303,.d (.be (s.waits.map AW))),(304,.d (.int .i64 (m'))),(305,.d (.int .i64 (i)))],a.1,a.2+86,[]⟩)
        (Inv:=fun i rest a=>a.1.get m=h.get m∧AA (DT p st.ci s=rest.all (CA p st.ci s))) (b0:=(g,n)) rfl ⟨hgm,hf2⟩ ?_ ?_
       .clear hgm hgg hf2 g n;rintro i w ⟨g,n⟩ hy hi him ⟨hgm,hr⟩ IH;dsimp only at*;have hwo:AA (CA p st.ci s w=(decide (EF s.ac w.at_)&&(!AY s.ac w.at_&&(decide (0≤w.node)&&((match p.nodes[w.node.toNat]? with|some x=>Da x.op|none=>false)&&(decide ((w.env.length:Int)=(st.ci[w.node.toNat]?).getD 0)&&w.env.all (CV.inB p s.am.length s.ac.length))))))):=⟨rfl⟩
        have hbad:AA (CA p st.ci s w=false→Ad.f9 (CL 2)=(IV (CL 2) (DT p st.ci s)).1):=⟨fun h=>by rw[hr.out,D4,h];rfl⟩;refine ax ?_;refine DQ (bn (sp:=s.ac.map Ab) (Eq.trans (b:=h.get m) ?_ hm) (by simp;omega) w.at_) (fun o1 g1 p1=>?_)
        .simp only[go_sem,e1,hgm,AM]
        by_cases hin:EF s.ac w.at_
        .replace p1:o1=.ret (.ge []):=by
          rw[p1,Ci hin.1,BI,Ci hin.2];rfl
         subst p1;obtain⟨i1,i2⟩:=hin;obtain⟨sp,hsp⟩:=get_some (l:=s.ac) (i:=w.at_.toNat) (by omega);have hda:AA (AY s.ac w.at_=sp.dead):=⟨by simp[AY,hsp]⟩;by_cases n0:0≤w.node
         .by_cases n1:w.node<p.nodes.length
          .obtain⟨x,hx⟩:=get_some (l:=p.nodes) (i:=w.node.toNat) (by omega);obtain⟨v,_,hv,v0,v1,_⟩:=hF.out.node _ x hx;have hln:=AA.mk hF.out.len;have hlv:=AI hv;have hwo2:AA (CA p st.ci s w=(!AY s.ac w.at_&&(Da x.op&&(decide ((w.env.length:Int)=v)&&w.env.all (CV.inB p s.am.length s.ac.length))))):=⟨by
            rw[hwo.out,hx,hv,Ci n0,Ci ⟨i1,i2⟩];rfl⟩
           clear hwo;cases hsd:sp.dead with
           |true=>
            refine ax ?_;all_goals exact hbad.out (by rw[hwo2.out,hda.out,hsd];rfl)
           |false=>
            by_cases ho:Da x.op=true
            .have hwo3:AA (CA p st.ci s w=(decide ((w.env.length:Int)=v)&&w.env.all (CV.inB p s.am.length s.ac.length))):=⟨by
              rw[hwo2.out,hda.out,hsd,ho];rfl⟩
             simp only[Da,I3,Ap]at ho;replace ho:=AA.mk ho
             (repeat' (first|simp only[go_sem, *,AM]|(refine sx ?_ ?_<;>intro hc)|refine sy (by omega) fun x hx hm=>?_|simp(disch:=first|assumption|omega) only[AK]))
             all_goals try(exfalso;have:=ho.out;omega)
             all_goals
              refine DQ (W7 (p:=p) (sp:=s.ac.map Ab) (ch:=s.am.map Bm) (Eq.trans (b:=h.get m) ?_ hm) (e3 _) (by simp;omega) (by simp;omega) (by omega) w.env v (by omega)) (fun o4 g4' p4=>?_)
              .simp only[go_sem,e1,hgm,AM]
              rw[BI,BI]at p4;rw[←hwo3.out]at p4;cases hmo:CA p st.ci s w with
              |true=>
               rw[hmo]at p4;replace p4:o4=.ret (.ge []):=p4;subst p4;refine ax ?_;refine IH.out (_,_) ⟨?_,⟨?_⟩⟩
               .simp only[go_sem,e1,hgm,AM]
               .rw[hr.out,D4,hmo,EM]
              |false=>
               rw[hmo]at p4;replace p4:o4=.f9 (CL 2):=p4;subst p4;refine ax ?_;exact hbad.out hmo
            .have hof:AA (Da x.op=false):=⟨by simpa using ho⟩;simp only[Da,I3,Ap,not_or]at ho;obtain⟨u1,u2,u3⟩:=ho;refine ax ?_;all_goals exact hbad.out (by rw[hwo2.out,hda.out,hof.out];simp)
          ·(repeat' (first|simp only[go_sem, *,AM]|(refine sx ?_ ?_<;>intro hc)|refine sy (by omega) fun x hx hm=>?_|simp(disch:=first|assumption|omega) only[AK]))
           all_goals exact hbad.out (by rw[hwo.out,I1 (show p.nodes.length≤w.node.toNat by omega)];simp)
         ·(repeat' (first|simp only[go_sem, *,AM]|(refine sx ?_ ?_<;>intro hc)|refine sy (by omega) fun x hx hm=>?_|simp(disch:=first|assumption|omega) only[AK]))
          all_goals exact hbad.out (by rw[hwo.out,By n0];simp)
        .replace p1:o1=.f9 (CL 2):=by
          rw[p1,BI];have:(decide (0≤w.at_)&&decide (w.at_<(s.ac.length:Int)))=false:=by
           rw[←Kw,AP,Ap,Ap];exact hin
          rw[this];rfl
         subst p1;refine ax ?_;exact hbad.out (by rw[hwo.out,By hin];rfl)
       .rintro i ⟨g,n⟩ hi him ⟨hgm,hr⟩;dsimp only at*;refine aw ?_;rw[hr.out];rfl
      .have g3: ¬(k:Int)=s.ac.length:=by omega
       refine aw ?_;rw[hfin.out,By g2];simp[IV]
     .have g3: ¬(c:Int)=s.am.length:=by omega
      refine aw ?_;rw[hfin.out,By g1];rfl
 .have hk0:DT p st.ci s=false:=by rw[DT];simp[hss]
  rw[hk0];have hss:AA (¬(s.ac.length≤24∧s.bv.length≤40∧s.am.length≤60∧s.waits.length≤40)):=⟨by simpa[BF.small]using hss⟩
  (refine Aj rfl Tryz.func91 rfl rfl rfl ?_;show Wp _ _ _ _ (Tryz.f91.body.get rfl) _ _;simp only[Tryz.f91,AS])
  (repeat' (first|simp only[go_sem, *]|(refine sx ?_ ?_<;>intro hc)|refine sy (by omega) fun x hx hm=>?_|simp(disch:=first|assumption|omega) only[AK]))
  all_goals first
  |rfl
  |(have:=hss.out;exfalso;omega)
end Go.Proofs
namespace Go.Abs
def xd(id:Id)(x:Aa)(v:AV)(es:List (Aa×AV)):Option (Option AV)→Option CU
 |some _=>some ⟨.undef,[(id,.map (Ec es x v))]⟩
 |none=>none
def jr(id:Id)(x:Aa)(v:AV):Option Obj→Option CU
 |some (.map es)=>xd id x v es (C4 es x)
 |_=>none
def xe(x:Aa)(v:AV)(id:Id)(o:Option Obj):Option TI→Option CU
 |some j=>if (J3 j.kind x&&v.isCell)=true then jr id x v o else none
 |none=>none
theorem pe(T:TypeId→Option TI)(g:G)(i:TI)(id:Id)(x:Aa)(v:AV)(hk:i.kind=.map):mapPut T g (some i) (.mp id) (.d x) v=xe x v id (g id) (T i.key):=by
 unfold mapPut;simp only[L6,hk];cases T i.key with
 |none=>rfl
 |some j=>
  simp only[xe];cases J3 j.kind x&&v.isCell with
  |false=>rfl
  |true=>
   simp only[F2];cases g id with
   |none=>rfl
   |some o=>
    cases o with
    |map es=>
     simp only[jr];cases C4 es x<;>rfl
    |_=>rfl
theorem er(x:Aa)(v:AV)(id:Id)(o:Option Obj)(j:TI):xe x v id o (some j)=if (J3 j.kind x&&v.isCell)=true then jr id x v o else none:=rfl
theorem qA(id:Id)(x:Aa)(v:AV)(es:List (Aa×AV)):jr id x v (some (.map es))=xd id x v es (C4 es x):=rfl
theorem ep(id:Id)(x:Aa)(v:AV)(es:List (Aa×AV))(o:Option AV):xd id x v es (some o)=some ⟨.undef,[(id,.map (Ec es x v))]⟩:=rfl
theorem eW(x:Aa)(v:AV):Ec [] x v=[(x,v)]:=rfl
theorem eV(k:IntKind)(a b:Int)(v w:AV)(es:List (Aa×AV)):Ec ((.int k a,w)::es) (.int k b) v=if a=b then(.int k a,v)::es else(.int k a,w)::Ec es (.int k b) v:=by
 rw[Ec];by_cases h:a=b
 .have hb:(a==b)=decide (a=b):=by rw[Lc];simp
  simp[HJ,h,hb]
 .have hb:(a==b)=decide (a=b):=by rw[Lc];simp
  simp[HJ,h,hb]
attribute [go_sem] pe er qA ep eW eV
end Go.Abs
namespace Go.Proofs
open Go Go.Abs
set_option maxRecDepth 100000
set_option maxHeartbeats 4000000
def Kq(π:List Nat)(p:AL)(st:BT):AD:=if p.defs.length=0 then
    [(0::0::π,.box [.co,.co,.co,.co,.d (.be (p.free.map Av)),.d (.be (p.nodes.map Af)),.d (.be (p.defs.map Ax)),.d (.int .i64 (p.main)),.d (.be (st.ci.map AJ)),.emp,.mp (1::3::π),.co,.d (.int .i64 (0))]),(1::3::π,.map Ic)]
 else [(0::0::π,.box [.co,.co,.co,.co,.d (.be (p.free.map Av)),.d (.be (p.nodes.map Af)),.d (.be (p.defs.map Ax)),.d (.int .i64 (p.main)),.d (.be (st.ci.map AJ)),.eq (1::1::π) 0 p.defs.length,.mp (1::4::π),.co,.d (.int .i64 (0))]),(1::1::π,.d9 1 ((Bb p st.ci).map AJ)),(1::4::π,.map Ic)]
structure sj(π:List Nat)(p:AL)(r:Ad×AD):Prop where
 f9:looks p=none→r=(.f9 (CL 2),[])
 ret: ∀st,looks p=some st→r=(.ret (.ptr (0::0::π) 0),Kq π p st)
theorem RE(p:AL)(hp: ∀s∈p.free,s.size≤maxLen)(k:Nat)(ρ:List Nat): ∃r,BB (KL Tryz.prog cfg) 65 [.agg [.d (.be (p.free.map Av)),.d (.be (p.nodes.map Af)),.d (.be (p.defs.map Ax)),.d (.int .i64 (p.main))]] (k::ρ)=.ok r∧sj (k::ρ) p r:=by
 have hsz:=sq p hp;replace hp:=AA.mk hp;cases hlk:looks p with
 |none=>
  rw[hlk]at hsz;simp only[KR]at hsz
  (refine GJ rfl Tryz.func65 rfl rfl rfl ?_;show Wp _ _ _ _ (Tryz.f65.body.get rfl) _ _;simp only[Tryz.f65,AS])
  refine aw ?_;exact⟨fun _=>rfl,fun st h=>by rw[hlk]at h;cases h⟩
 |some st=>
  rw[hlk]at hsz;simp only[KR]at hsz;have hF:=AA.mk (CF hlk);have hsm:=hF.out.small;simp only[AL.small,AP,Ap]at hsm;obtain⟨c1,c2,c3⟩:=hsm
  (refine GJ rfl Tryz.func65 rfl rfl rfl ?_;show Wp _ _ _ _ (Tryz.f65.body.get rfl) _ _;simp only[Tryz.f65,AS])
  by_cases hD0:p.defs.length=0
  ·(repeat' (first|simp only[go_sem, *]|(refine sx ?_ ?_<;>intro hc)|refine sy (by omega) fun x hx hm=>?_|simp(disch:=first|assumption|omega) only[AK,Eb]))
   refine AX p.nodes _ (S:=fun m i (_:Unit)=>⟨[(3,.d (.be (st.ci.map AJ))),(5,.ptr (0::0::k::ρ) 0),(25,.d (.be (p.nodes.map Af))),(26,.d (.int .i64 (m))),(27,.d (.int .i64 (i)))],[(0::0::k::ρ,.box [.co,.co,.co,.co,.d (.be (p.free.map Av)),.d (.be (p.nodes.map Af)),.d (.be (p.defs.map Ax)),.d (.int .i64 (p.main)),.d (.be (st.ci.map AJ)),.emp,.d .v6,.co,.d (.int .i64 (0))])],1,[]⟩)
    (Inv:=fun i rest _=>True) (b0:=()) rfl trivial ?_ ?_
   .rintro i y _ hy hi him _ IH;have ho: ¬y.op=4:=fun ho=>by
     have:=L7 hF.out hy ho;omega
    refine aw ?_;exact IH.out () trivial
   .rintro i _ hi him _;have hD1:=AA.mk hD0;refine aw ?_;exact⟨fun h=>(by rw[hlk]at h;cases h),fun st h=>by rw[hlk]at h;cases h;rw[Kq,D0 hD1.out];rfl⟩
  ·(repeat' (first|simp only[go_sem, *]|(refine sx ?_ ?_<;>intro hc)|refine sy (by omega) fun x hx hm=>?_|simp(disch:=first|assumption|omega) only[AK,Eb]))
   refine AX p.nodes _ (S:=fun m i (out:List Int)=>⟨[(3,.d (.be (st.ci.map AJ))),(5,.ptr (0::0::k::ρ) 0),(25,.d (.be (p.nodes.map Af))),(26,.d (.int .i64 (m))),(27,.d (.int .i64 (i)))],[(0::0::k::ρ,.box [.co,.co,.co,.co,.d (.be (p.free.map Av)),.d (.be (p.nodes.map Af)),.d (.be (p.defs.map Ax)),.d (.int .i64 (p.main)),.d (.be (st.ci.map AJ)),.eq (1::1::k::ρ) 0 p.defs.length,.d .v6,.co,.d (.int .i64 (0))]),(1::1::k::ρ,.d9 1 (out.map AJ))],2,[]⟩)
    (Inv:=fun i rest out=>out.length=p.defs.length∧AA (Bb p st.ci=Ew st.ci out rest)) (b0:=List.replicate p.defs.length 0) rfl ⟨by simp,⟨rfl⟩⟩ ?_ ?_
   .rintro i y out hy hi him ⟨hol,hr⟩ IH;by_cases ho:y.op=4
    .obtain⟨n1,n2,kk,v,hk,hk0,hkv,hks,_,_⟩:=L7 hF.out hy ho;obtain⟨o,hoo⟩:=get_some (l:=out) (i:=y.n.toNat) (by omega);have hyn:y.n.toNat<p.defs.length:=by omega
     have hks:=AA.mk hks;refine aw ?_;have e:(out.map AJ).set y.n.toNat [.int .i64 v]=(out.set y.n.toNat v).map AJ:=by rw[Jp];rfl
     rw[e];refine IH.out (out.set y.n.toNat v) ⟨by simpa using hol,⟨?_⟩⟩;rw[hr.out,Ew,D0 ho,hks.out]
    .refine aw ?_;refine IH.out out ⟨hol,⟨?_⟩⟩;rw[hr.out,Ew,CI ho]
   .rintro i out hi him ⟨hol,hr⟩;have hgr:AA (Bb p st.ci=out):=⟨by rw[hr.out];rfl⟩;refine aw ?_;exact⟨fun h=>(by rw[hlk]at h;cases h),fun st h=>by rw[hlk]at h;cases h;rw[Kq,CI hD0,hgr.out];rfl⟩
end Go.Proofs
namespace Go.Proofs
open Go Go.Abs
set_option maxRecDepth 100000
set_option maxHeartbeats 4000000
def UW(v1 v2 v3 v4 v9:AV)(a:Abs.Id)(rows:List (List AV)):MV:=⟨fun i=>match i with|0=>v1|1=>v2|2=>v4|_=>.co,v3,v9,a,rows⟩
variable{π ρ:List Nat}{s:BF}{rows:List (List AV)}{g:AD}{m a:Abs.Id}{v9:AV}{p:AL}{sz:List Int}
theorem Ym{v1 v2 v3 v4:AV}(hC:sQ π s v1 v2 v3 v4 rows g){G:AD}{n:Nat}(hρ:π=n::ρ)(hb:G.get m=some (.box (Au p sz (UW v1 v2 v3 v4 v9 a rows) 0)))(ha:G.get a=some (.map Ic))
 (hg: ∀id o,g.get id=some o→G.get id=some o) (hm:Id.under ρ m=true) (ham:Id.under ρ a=true):Dw p sz G m (UW v1 v2 v3 v4 v9 a rows) ⟨s,[],0⟩∧ ∀id∈(UW v1 v2 v3 v4 v9 a rows).ids m,Id.under ρ id=true:=by
 have key: ∀{sz:Nat} {v:AV} {es:List (List Aa)},Ju g sz v es→Ju G sz v es:=fun h=>by
  refine Ee h fun id hid=>?_;obtain⟨x,hx⟩:=DE h hid;rw[hx];exact hg _ _ hx
 refine⟨⟨hb,ha,fun i hi=>?_,?_,?_,hC.gw,hC.qd⟩,fun id hid=>?_⟩
 .match i,hi with
  |0,_=>exact key hC.s0
  |1,_=>exact key hC.s1
  |2,_=>exact key hC.s2
  |3,_=>exact .inl ⟨rfl,rfl⟩
 .refine L3 hC.arr fun id hid=>?_;have:=Hi hC.arr hid;rw[this];exact hg _ _ this
 .refine L1 hC.am fun id hid=>?_;obtain⟨x,hx⟩:=K6 hC.am hid;rw[hx];exact hg _ _ hx
 .have hu:=fun h=>Bk (n:=n) (hρ▸hC.ids id h);rcases(MV.mem _ m id).1 hid with rfl|rfl|⟨i,hi,h⟩|h|h
  .exact hm
  .exact ham
  .match i,hi with
   |0,_=>exact hu (.inl h)
   |1,_=>exact hu (.inr (.inl h))
   |2,_=>exact hu (.inr (.inr (.inl h)))
   |3,_=>simp[UW,AF]at h
  .exact hu (.inr (.inr (.inr (.inl h))))
  .exact hu (.inr (.inr (.inr (.inr h))))
structure sZ(π:List Nat)(p:AL)(s:BF)(st:BT)(id:Abs.Id)(V:MV)(g:AD):Prop where
 looks:looks p=some st
 rep:Dw p st.ci g id V ⟨s,[],0⟩
 ids: ∀x∈V.ids id,Id.under π x=true
 own: ∀x,Id.under π x=false→g.get x=none
structure sc(π:List Nat)(p:AL)(s:BF)(r:Ad×AD):Prop where
 bad:BU p s≠0→r=(.f9 (CL 2),[])
 i6:BU p s=0→ ∃st id V g,r=(.ret (.ptr id 0),g)∧sZ π p s st id V g
variable{V:MV}
theorem jh{st:BT}{id:Abs.Id}(h1:looks p=some st)(h2:Dw p st.ci g id V ⟨s,[],0⟩∧ ∀x∈V.ids id,Id.under π x=true)(h3: ∀x,Id.under π x=false→g.get x=none):sZ π p s st id V g:=⟨h1,h2.1,h2.2,h3⟩
theorem QI(p:AL)(s:BF)(hp: ∀s∈p.free,s.size≤maxLen)(k:Nat)(ρ:List Nat): ∃r,BB (KL Tryz.prog cfg) 51 [.agg [.d (.be (p.free.map Av)),.d (.be (p.nodes.map Af)),.d (.be (p.defs.map Ax)),.d (.int .i64 (p.main))],.agg [.d (.be (s.ac.map Ab)),.d (.be (s.bv.map Ar)),.d (.be (s.am.map Bm)),.d (.be (s.waits.map AW))]] (k::ρ)=.ok r∧sc (k::ρ) p s r:=by
 obtain⟨r,hr,hpost⟩:=RE p hp 4 (k::ρ);replace hp:=AA.mk hp;cases hlk:looks p with
 |none=>
  obtain rfl:=hpost.f9 hlk
  (refine GJ rfl Tryz.func51 rfl rfl rfl ?_;show Wp _ _ _ _ (Tryz.f51.body.get rfl) _ _;simp only[Tryz.f51,AS])
  refine aw ?_;exact⟨fun _=>rfl,fun h=>by rw[BU,hlk]at h;cases h⟩
 |some st=>
  obtain rfl:=hpost.ret st hlk;have hse:AA (BU p s=if DT p st.ci s=true then 0 else 2):=⟨by rw[BU,hlk]⟩;have hfit:=fun h=>lL s (OU hlk h);by_cases hD0:p.defs.length=0
  .simp only[Kq,hD0,F2,El,Ic]at hr
   (refine GJ rfl Tryz.func51 rfl rfl rfl ?_;show Wp _ _ _ _ (Tryz.f51.body.get rfl) _ _;simp only[Tryz.f51,AS])
   refine aw ?_;refine DQ (Sj (s:=s) (x9:=.emp) (x10:=.mp (1::3::4::k::ρ)) (x11:=.co) (x12:=.d (.int .i64 (0))) (gid:=1::1::4::k::ρ) hlk ?_ ?_ ?_ ?_ ?_) (fun o1 g1 p1=>?_)
   .simp only[go_sem]
   .exact Ef _ _ _ _ _ (by decide)
   .simp only[wd,hD0,F2,El]
   .intro hh;first
    |exact absurd hD0 hh
    |(simp only[go_sem];done)
    |(simp only[go_sem];rfl)
   .exact Ef _ _ _ _ _ (by decide)
   cases hso:DT p st.ci s with
   |false=>
    rw[hso]at p1;replace p1:o1=.f9 (CL 2):=p1;subst p1;replace hfit:=AA.mk hfit;refine aw ?_;exact⟨fun _=>rfl,fun h=>by rw[hse.out,hso]at h;cases h⟩
   |true=>
    rw[hso]at p1;replace p1:o1=.ret (.ge []):=p1;subst p1;obtain⟨r2,hr2,v1,v2,v3,v4,rows,g,rfl,hC⟩:=hfit hso 15 (k::ρ);clear hfit;have hgn:=hC.own;have hgm: ∀L,AD.get (g++L) (0::0::4::k::ρ)=AD.get L (0::0::4::k::ρ):=fun L=>BW (hgn _ (Ef _ _ _ _ _ (by decide)));replace hgn:=AA.mk hgn;have hgood:AA (BU p s=0):=⟨by rw[hse.out,hso];rfl⟩;have hcr:=AA.mk fun G v9 h1 h2 h3=>Ym hC (G:=G) (m:=0::0::4::k::ρ) (a:=1::3::4::k::ρ) (v9:=v9) (p:=p) (sz:=st.ci) rfl h1 h2 h3 (under_iff.2 ⟨[0,0,4],rfl⟩) (under_iff.2 ⟨[1,3,4],rfl⟩);have hga:AA (∀L,AD.get (g++L) (1::3::4::k::ρ)=AD.get L (1::3::4::k::ρ)):=⟨fun L=>BW (hC.own _ (Ef _ _ _ _ _ (by decide)))⟩;have hnis:AA (∀id o,g.get id=some o→Id.is (0::0::4::k::ρ) id=false):=⟨fun id o ho=>AE fun e=>by rw[←e,hC.own _ (Ef _ _ _ _ _ (by decide))]at ho;cases ho⟩;have hX:=AA.mk hlk;have h1:=hC.s0;have h2:=hC.s1;have h3:=hC.arr;have h4:=hC.s2;replace hC:=AA.mk hC;rcases h1 with⟨rfl,z1⟩|⟨i1,x1,rfl,z1⟩;all_goals rcases h2 with⟨rfl,z2⟩|⟨i2,x2,rfl,z2⟩
    all_goals rcases h3 with⟨rfl,z3⟩|⟨i3,rfl,z3⟩
    all_goals rcases h4 with⟨rfl,z4⟩|⟨i4,x4,rfl,z4⟩
    all_goals
     replace z1:=AA.mk z1;replace z2:=AA.mk z2;replace z3:=AA.mk z3;replace z4:=AA.mk z4;refine aw ?_;refine⟨fun h=>absurd hgood.out h,fun _=>⟨st,_,_,_,rfl,jh hX.out (hcr.out _ .emp ?_ ?_ fun id o ho=>?_) fun id hu=>?_⟩⟩
     .simp only[go_sem,Au,UW];first|done|rfl
     .simp only[go_sem,hga.out,Ic];first|done|rfl
     .have q1:=hnis.out id o ho;have q2: ∀L,AD.get (g++L) id=some o:=fun L=>CT ho;simp only[go_sem,q1,q2,AM]
     .have a1:=AH hu;have a2:=AH (AG hu 4);have a3: ∀L,AD.get (g++L) id=AD.get L id:=fun L=>BW (hC.out.own id (AG hu 15));simp only[go_sem,a1,a2,a3,AM]
  .simp only[Kq,hD0,F2,El,Ic]at hr
   (refine GJ rfl Tryz.func51 rfl rfl rfl ?_;show Wp _ _ _ _ (Tryz.f51.body.get rfl) _ _;simp only[Tryz.f51,AS])
   refine aw ?_;refine DQ (Sj (s:=s) (x9:=.eq (1::1::4::k::ρ) 0 p.defs.length) (x10:=.mp (1::4::4::k::ρ)) (x11:=.co) (x12:=.d (.int .i64 (0))) (gid:=1::1::4::k::ρ) hlk ?_ ?_ ?_ ?_ ?_) (fun o1 g1 p1=>?_)
   .simp only[go_sem]
   .exact Ef _ _ _ _ _ (by decide)
   .simp only[wd,hD0,F2,El]
   .intro hh;first
    |exact absurd hD0 hh
    |(simp only[go_sem];done)
    |(simp only[go_sem];rfl)
   .exact Ef _ _ _ _ _ (by decide)
   cases hso:DT p st.ci s with
   |false=>
    rw[hso]at p1;replace p1:o1=.f9 (CL 2):=p1;subst p1;replace hfit:=AA.mk hfit;refine aw ?_;exact⟨fun _=>rfl,fun h=>by rw[hse.out,hso]at h;cases h⟩
   |true=>
    rw[hso]at p1;replace p1:o1=.ret (.ge []):=p1;subst p1;obtain⟨r2,hr2,v1,v2,v3,v4,rows,g,rfl,hC⟩:=hfit hso 15 (k::ρ);clear hfit;have hgn:=hC.own;have hgm: ∀L,AD.get (g++L) (0::0::4::k::ρ)=AD.get L (0::0::4::k::ρ):=fun L=>BW (hgn _ (Ef _ _ _ _ _ (by decide)));replace hgn:=AA.mk hgn;have hgood:AA (BU p s=0):=⟨by rw[hse.out,hso];rfl⟩;have hcr:=AA.mk fun G v9 h1 h2 h3=>Ym hC (G:=G) (m:=0::0::4::k::ρ) (a:=1::4::4::k::ρ) (v9:=v9) (p:=p) (sz:=st.ci) rfl h1 h2 h3 (under_iff.2 ⟨[0,0,4],rfl⟩) (under_iff.2 ⟨[1,4,4],rfl⟩);have hga:AA (∀L,AD.get (g++L) (1::4::4::k::ρ)=AD.get L (1::4::4::k::ρ)):=⟨fun L=>BW (hC.own _ (Ef _ _ _ _ _ (by decide)))⟩;have hnis:AA (∀id o,g.get id=some o→Id.is (0::0::4::k::ρ) id=false):=⟨fun id o ho=>AE fun e=>by rw[←e,hC.own _ (Ef _ _ _ _ _ (by decide))]at ho;cases ho⟩;have hX:=AA.mk hlk;have h1:=hC.s0;have h2:=hC.s1;have h3:=hC.arr;have h4:=hC.s2;replace hC:=AA.mk hC;rcases h1 with⟨rfl,z1⟩|⟨i1,x1,rfl,z1⟩;all_goals rcases h2 with⟨rfl,z2⟩|⟨i2,x2,rfl,z2⟩
    all_goals rcases h3 with⟨rfl,z3⟩|⟨i3,rfl,z3⟩
    all_goals rcases h4 with⟨rfl,z4⟩|⟨i4,x4,rfl,z4⟩
    all_goals
     replace z1:=AA.mk z1;replace z2:=AA.mk z2;replace z3:=AA.mk z3;replace z4:=AA.mk z4;refine aw ?_;refine⟨fun h=>absurd hgood.out h,fun _=>⟨st,_,_,_,rfl,jh hX.out (hcr.out _ (.eq (1::1::4::k::ρ) 0 p.defs.length) ?_ ?_ fun id o ho=>?_) fun id hu=>?_⟩⟩
     .simp only[go_sem,Au,UW];first|done|rfl
     .simp only[go_sem,hga.out,Ic];first|done|rfl
     .have q1:=hnis.out id o ho;have q2: ∀L,AD.get (g++L) id=some o:=fun L=>CT ho;simp only[go_sem,q1,q2,AM]
     .have a1:=AH hu;have a2:=AH (AG hu 4);have a3: ∀L,AD.get (g++L) id=AD.get L id:=fun L=>BW (hC.out.own id (AG hu 15));simp only[go_sem,a1,a2,a3,AM]
variable{K:AO}{ds:List Df}{Q:Ds→St→Prop}{H:AD}
theorem XU{ce:Option (List Nat)}{ρ2:List Nat}{id2:Abs.Id}{e:Bn}{bs:Nat}{t:Tgt}{args:List AV}{r:Lp}(hn: ∀r',r'=r→HY ρ ρ2 id2 e bs ds Q (K t args (H.put id2 (.loop r')) ρ2 true ce)):HY ρ ρ2 id2 e bs ds Q (K t args (H.put id2 (.loop r)) ρ2 true ce):=hn r rfl
theorem NK{G:AD}{st:Ck}(h:Dw p sz g m V st)(hg: ∀id o,g.get id=some o→G.get id=some o):Dw p sz G m V st:=by
 refine⟨hg _ _ h.box,hg _ _ h.rx,fun i hi=>Ee (h.sl i hi) fun id hid=>?_,L3 h.arr fun id hid=>?_,L1 h.am fun id hid=>?_,h.gw,h.qd⟩
 .obtain⟨x,hx⟩:=DE (h.sl i hi) hid;rw[hx];exact hg _ _ hx
 .have:=Hi h.arr hid;rw[this];exact hg _ _ this
 .obtain⟨x,hx⟩:=K6 h.am hid;rw[hx];exact hg _ _ hx
theorem kD(p:AL)(s:BF)(hp: ∀s∈p.free,s.size≤maxLen):BB (KL Tryz.prog cfg) 15 [pA p,sA s] []=.ok (.ret (.ge [.d (.int .i64 (Ov p s)),.d (.int .i64 (BU p s))]),[]):=by
 obtain⟨r,hr,hpost⟩:=QI p s hp 7 [];replace hp:=AA.mk hp;by_cases h0:BU p s=0
 .obtain⟨st,id,V,g,rfl,hL⟩:=hpost.i6 h0;have hg:=hL.own;have g0: ∀n,¬n=7→ ∀L,AD.get (g++L) [0,n]=AD.get L [0,n]:=fun n hn L=>BW (hg _ (Ag [] hn));replace hg:=AA.mk hg;obtain⟨st2,hf⟩:=XE h0;have hlk:=hL.looks;rw[hf.looks]at hlk;cases hlk;have hF:=hf.formed;have hs:=hf.pm;replace hL:=AA.mk hL;replace hF:=AA.mk hF;replace hs:=AA.mk hs
  (refine Ae rfl Tryz.func15 rfl rfl rfl ?_;show Wp _ _ _ _ (Tryz.f15.body.get rfl) _ _;simp only[Tryz.f15,AS])
  refine aw ?_;refine XU fun r0 hr0=>?_;obtain⟨T,hT⟩: ∃T:Int,T=(BZ p s).length:=⟨_,rfl⟩;have hTm:T≤3000000:=by rw[hT];have:=Qi hF.out hs.out;omega
  obtain⟨I,hI⟩: ∃I:List Cc→AD→Prop,I=fun l g=>g.get [0,9]=some (.loop r0)∧g.get [0,2]=some (.box [.d (.int .i64 (T-l.length))])∧g.get [0,3]=some (.box [.d (.int .i64 0)])∧(l.length:Int)≤T:=⟨_,rfl⟩;have hE:kE Uk [0,9] (fun i=>i=[0,9]∨i=[0,2]) I (fun _ _=>False) [10]:=by
   refine⟨.inl rfl,fun i hi=>?_,fun hI2=>?_,fun{x l H ρ v r} hI2 hr hv hρ hid=>?_,fun hI2 hs=>?_,fun hD _=>hD.elim⟩
   .rcases hi with rfl|rfl<;>rfl
   .rw[hI]at hI2;exact⟨_,hI2.1⟩
   .rw[hI]at hI2;obtain⟨g9,g2,g3,hl⟩:=hI2;rw[g9]at hr;cases hr;rw[List.length_cons]at g2 hl;have w1:IntKind.i64.wrap (T-((l.length+1:Nat):Int)+1)=T-(l.length:Nat):=by rw[wrap_id (by omega) (by omega)];omega
    subst hr0;replace hI:=AA.mk hI;replace hT:=AA.mk hT;refine FX rfl ?_;refine aw ?_;refine .inl ⟨rfl,?_,fun i q1 q2=>?_⟩
    .rw[hI.out];refine⟨?_,?_,?_,by omega⟩<;>simp only[go_sem,g3,w1]
    .have q3:Id.is [0,9] i=false:=AE fun e=>q1 (.inl e.symm);have q4:Id.is [0,2] i=false:=AE fun e=>q1 (.inr e.symm);rw[get_put,q3,get_put,q4,get_put,q3];rfl
   .rw[hI]at hI2⊢;exact⟨(hs _ rfl).trans hI2.1,(hs _ rfl).trans hI2.2.1,(hs _ rfl).trans hI2.2.2.1,hI2.2.2.2⟩
  refine KB (Tl hF.out (NK hL.out.rep fun i o hi=>?_) (fun i hi=>?_) hs.out hE (fun i hi=>?_) ?_) (fun o1 g5 p1=>?_)
  .have hu:Id.under [7] i=true:=by
    cases hx:Id.under [7] i with
    |true=>rfl
    |false=>rw[hg.out i hx]at hi;cases hi
   have q:Id.is [0,9] i=false:=AE fun e=>by subst e;cases hu
   rw[get_put,q,CI (by simp),CT hi]
  .have:=hL.out.ids i hi;cases hx:Id.under [10] i with
   |false=>rfl
   |true=>have:=Bl (π:=[]) this hx;omega
  .have:=hL.out.ids i hi;rintro(rfl|rfl)<;>cases this
  .rw[hI];have h9:AD.get g [0,9]=none:=hg.out _ rfl;have g02:=g0 2 (by decide);have g03:=g0 3 (by decide);have e0:T-((BZ p s).length:Nat)=0:=by omega
   refine⟨?_,?_,?_,by rw[hT];exact Int.le_refl _⟩
   .simp only[go_sem]
   .simp only[go_sem,g02,e0]
   .simp only[go_sem,g03]
  rcases p1 with⟨rfl,p1,p2⟩|⟨_,p1⟩|⟨_,p1⟩
  .rw[hI]at p1;obtain⟨k9,k2,k3,_⟩:=p1;subst hr0;replace p2:=AA.mk p2;replace hI:=AA.mk hI;replace hT:=AA.mk hT;have gg: ∀i,Id.under [9] i=false→Id.under [10] i=false→(gc [9] (gc [10] g5)).get i=g5.get i:=fun i q1 q2=>by rw[AU _ _ _ q1,AU _ _ _ q2]
   have k2':=(gg [0,2] rfl rfl).trans k2;have k3':=(gg [0,3] rfl rfl).trans k3;replace gg:=AA.mk gg;refine aw ?_;rw[Yn h0,hT.out];simp
  .exact p1.elim
  .exact p1.elim
 .obtain rfl:=hpost.bad h0;have h2:=AA.mk (W9 h0);have hc:AA (Ov p s=0):=⟨by rw[Ov,CI h0]⟩
  (refine Ae rfl Tryz.func15 rfl rfl rfl ?_;show Wp _ _ _ _ (Tryz.f15.body.get rfl) _ _;simp only[Tryz.f15,AS])
  (repeat' (first|simp only[go_sem, *,CL]|(refine sx ?_ ?_<;>intro hc)|refine sy (by omega) fun x hx hm=>?_|simp(disch:=first|assumption|omega) only[AK]))
  rw[h2.out,hc.out]
theorem zg(p:AL)(s:BF)(n:Int)(hp: ∀s∈p.free,s.size≤maxLen):BB (KL Tryz.prog cfg) 17 [pA p,sA s,.d (.int .i64 (n))] []=.ok (.ret (.ge [OW (Q8 p s n).1,.d (.int .i64 ((Q8 p s n).2))]),[]):=by
 obtain⟨r,hr,hpost⟩:=QI p s hp 10 [];replace hp:=AA.mk hp;by_cases h0:BU p s=0
 .obtain⟨st,id,V,g,rfl,hL⟩:=hpost.i6 h0;have hg:=hL.own;have g0: ∀n,¬n=10→ ∀L,AD.get (g++L) [0,n]=AD.get L [0,n]:=fun n hn L=>BW (hg _ (Ag [] hn));replace hg:=AA.mk hg;obtain⟨st2,hf⟩:=XE h0;have hlk:=hL.looks;rw[hf.looks]at hlk;cases hlk;have hF:=hf.formed;have hs:=hf.pm;replace hL:=AA.mk hL;replace hF:=AA.mk hF;replace hs:=AA.mk hs
  (refine Ae rfl Tryz.func17 rfl rfl rfl ?_;show Wp _ _ _ _ (Tryz.f17.body.get rfl) _ _;simp only[Tryz.f17,AS])
  refine aw ?_;refine XU fun r0 hr0=>?_;have hTm:=Qi hF.out hs.out;obtain⟨I,hI⟩: ∃I:List Cc→AD→Prop,I=fun l g=>g.get [0,12]=some (.loop r0)∧g.get [0,3]=some (.box [.d (.int .i64 (0)),.d (.int .i64 (0)),.d (.int .i64 (0)),.co])∧g.get [0,4]=some (.box [.d (.int .i64 0)])∧g.get [0,2]=some (.box [.d (.int .i64 (n))])∧ ∃pre:List Cc,BZ p s=pre++l∧g.get [0,6]=some (.box [.d (.int .i64 (pre.length))])∧ ¬(0≤n∧n<pre.length):=⟨_,rfl⟩;obtain⟨D,hD⟩: ∃D:Ad→AD→Prop,D=fun o g=>o=.ret (.d (.bool (false)))∧g.get [0,12]=some (.loop {r0 with state:=.done,rt:=some .ret})∧g.get [0,4]=some (.box [.d (.int .i64 0)])∧ ∃x pv,0≤n∧(BZ p s)[n.toNat]? =some x∧g.get [0,3]=some (.box [.d (.int .i64 (x.wait)),.d (.int .i64 (x.group)),.d (.int .i64 (x.i9)),pv])∧((pv=.co∧x.it=[])∨jF g pv x.it):=⟨_,rfl⟩
  have hE:kE Uk [0,12] (fun i=>i=[0,12]∨i=[0,6]) I D [13]:=by
   refine⟨.inl rfl,fun i hi=>?_,fun hI2=>?_,fun{x l H ρ v r} hI2 hr hv hρ hid=>?_,fun hI2 hs=>?_,fun hD2 hs=>?_⟩
   .rcases hi with rfl|rfl<;>rfl
   .rw[hI]at hI2;exact⟨_,hI2.1⟩
   .rw[hI]at hI2;obtain⟨g9,g3,g4,g2,pre,hpre,g6,hnot⟩:=hI2;rw[g9]at hr;cases hr;obtain⟨pv,rfl,hpv⟩:=hv;have hpc:pv.isCell=true:=by rcases hpv with⟨rfl,_⟩|⟨_,rfl,_⟩<;>rfl
    have hl:=congrArg List.length hpre;rw[Bi,List.length_cons]at hl;have w1:IntKind.i64.wrap ((pre.length:Int)+1)=(pre.length:Int)+1:=wrap_id (by omega) (by omega);have u2:=hρ [0,2] rfl;have u3:=hρ [0,3] rfl;have u4:=hρ [0,4] rfl;have u6:=hρ [0,6] rfl;have u9:=hρ [0,12] rfl;have a2:=AH u2;have a3:=AH u3;have a4:=AH u4;have a6:=AH u6;have a9:=AH u9;have b3:=Ak u3;have b4:=Ak u4;have b6:=Ak u6;have b9:=Ak u9;subst hr0;replace hI:=AA.mk hI;replace hD:=AA.mk hD;replace hpre:=AA.mk hpre;replace hnot:=AA.mk hnot;replace hl:=AA.mk hl;replace hpv:=AA.mk hpv;replace hρ:=AA.mk hρ;replace hid:=AA.mk hid;clear hTm;by_cases hkn:(pre.length:Int)=n
    .refine FX rfl ?_;refine ax ?_;refine .inr ⟨.inl rfl,?_,fun i q1 q2=>?_⟩
     .rw[hD.out];refine⟨rfl,?_,?_,x,pv,by omega,?_,?_,hpv.out.imp_right fun⟨id,e,k1,l,k2⟩=>⟨id,e,?_,l,k2⟩⟩
      .simp only[go_sem]
      .simp only[go_sem,AM]
      .rw[hpre.out,show n.toNat=pre.length by omega];simp
      .simp only[go_sem,AM]
      .subst k2;have u:=AH (hid.out (1::l) (by rw[e];simp[AF,Az])).2.1 0 0;simp only[go_sem,u,k1,AM]
     .have p1: ∀k,¬k=13→Id.is [k] i=false:=fun k hk=>AE fun e=>by subst e;rw[Ag [] hk]at q1;cases q1
      have p2:Id.is (0::ρ) i=false:=AE fun e=>by have:=AH q2 0 0;rw[←e,is_self]at this;cases this
      simp only[go_sem,p1 12 (by decide),p1 3 (by decide),p1 4 (by decide),p2,AM]
    .refine FX rfl ?_;refine ax ?_;refine .inl ⟨rfl,?_,fun i q1 q2=>?_⟩
     .rw[hI.out];refine⟨?_,?_,?_,?_,pre++[x],by rw[hpre.out];simp,?_,fun hn=>hnot.out ⟨hn.1,by have:=hn.2;simp at this;omega⟩⟩
      .simp only[go_sem]
      .simp only[go_sem,a3,g3,AM]
      .simp only[go_sem,a4,g4,AM]
      .simp only[go_sem,a2,g2,AM]
      .rw[Bi];simp only[go_sem,AM];rfl
     .have p1:=AE fun e=>q1 (.inl e.symm);have p3:=AE fun e=>q1 (.inr e.symm);have p2:=AH q2 0 0;simp only[go_sem,p1,p2,p3,AM]
   .rw[hI]at hI2⊢;obtain⟨k1,k2,k3,k4,pre,k5,k6,k7⟩:=hI2;exact⟨(hs _ rfl).trans k1,(hs _ rfl).trans k2,(hs _ rfl).trans k3,(hs _ rfl).trans k4,pre,k5,(hs _ rfl).trans k6,k7⟩
   .rw[hD]at hD2⊢;obtain⟨k1,k2,k3,x,pv,k4,k5,k6,k7⟩:=hD2;refine⟨k1,(hs _ (.inl rfl)).trans k2,(hs _ (.inl rfl)).trans k3,x,pv,k4,k5,(hs _ (.inl rfl)).trans k6,k7.imp_right fun⟨id,q1,q2,l,q3⟩=>⟨id,q1,(hs _ (.inr ⟨l,q3⟩)).trans q2,l,q3⟩⟩
  refine KB (Tl hF.out (NK hL.out.rep fun i o hi=>?_) (fun i hi=>?_) hs.out hE (fun i hi=>?_) ?_) (fun o1 g5 p1=>?_)
  .have hu:Id.under [10] i=true:=by
    cases hx:Id.under [10] i with
    |true=>rfl
    |false=>rw[hg.out i hx]at hi;cases hi
   have q:Id.is [0,12] i=false:=AE fun e=>by subst e;cases hu
   rw[get_put,q,CI (by simp),CT hi]
  .have:=hL.out.ids i hi;cases hx:Id.under [13] i with
   |false=>rfl
   |true=>have:=Bl (π:=[]) this hx;omega
  .have:=hL.out.ids i hi;rintro(rfl|rfl)<;>cases this
  .rw[hI];have g02:=g0 2 (by decide);have g03:=g0 3 (by decide);have g04:=g0 4 (by decide);have g06:=g0 6 (by decide);refine⟨?_,?_,?_,?_,[],rfl,?_,fun hn=>by have:=hn.2;simp at this;omega⟩
   .simp only[go_sem]
   .simp only[go_sem,g03]
   .simp only[go_sem,g04]
   .simp only[go_sem,g02]
   .simp only[go_sem,g06]
  rcases p1 with⟨rfl,p1,p2⟩|⟨rfl,p1⟩|⟨⟨v,rfl⟩,p1⟩
  .rw[hI]at p1;obtain⟨k9,k3,k4,k2,pre,k5,k6,k7⟩:=p1;rw[D6]at k5;subst hr0;replace p2:=AA.mk p2;replace hI:=AA.mk hI;replace hD:=AA.mk hD;replace hE:=AA.mk hE;replace k5:=AA.mk k5;replace k7:=AA.mk k7;have gg: ∀i,Id.under [12] i=false→Id.under [13] i=false→(gc [12] (gc [13] g5)).get i=g5.get i:=fun i q1 q2=>by rw[AU _ _ _ q1,AU _ _ _ q2]
   have k3':=(gg [0,3] rfl rfl).trans k3;have k4':=(gg [0,4] rfl rfl).trans k4;replace gg:=AA.mk gg;refine aw ?_;rw[xu h0 (by rw[k5.out];have:=k7.out;omega)];rfl
  .rw[hD]at p1;obtain⟨_,k9,k4,x,pv,k5,k6,k3,k7⟩:=p1;subst hr0;replace hI:=AA.mk hI;replace hD:=AA.mk hD;replace hE:=AA.mk hE;replace k6:=AA.mk k6;have gg: ∀i,Id.under [12] i=false→Id.under [13] i=false→(gc [12] (gc [13] g5)).get i=g5.get i:=fun i q1 q2=>by rw[AU _ _ _ q1,AU _ _ _ q2]
   have k3':=(gg [0,3] rfl rfl).trans k3;have k4':=(gg [0,4] rfl rfl).trans k4;rcases k7 with⟨rfl,k7⟩|⟨id2,rfl,k7,l,rfl⟩
   .replace gg:=AA.mk gg;refine aw ?_;rw[TF h0 k5 k6.out,OW,k7];rfl
   .have k7':(gc [12] (gc [13] g5)).get (1::l)=_:=(EY _ _ _).trans ((EY _ _ _).trans k7);replace gg:=AA.mk gg;refine aw ?_;rw[TF h0 k5 k6.out]
  .rw[hD]at p1;cases p1.1
 .obtain rfl:=hpost.bad h0;have h2:=AA.mk (W9 h0);have hc:=AA.mk (ACn n h0)
  (refine Ae rfl Tryz.func17 rfl rfl rfl ?_;show Wp _ _ _ _ (Tryz.f17.body.get rfl) _ _;simp only[Tryz.f17,AS])
  (repeat' (first|simp only[go_sem, *,CL]|(refine sx ?_ ?_<;>intro hc)|refine sy (by omega) fun x hx hm=>?_|simp(disch:=first|assumption|omega) only[AK]))
  rw[hc.out];rfl
variable{v:AV}{es:List (List Aa)}
theorem DS{sz:Nat}(h:Ju g sz v es):v.isCell=true∧v.cells=[v]:=by
 rcases h with⟨rfl,_⟩|⟨_,_,rfl,_⟩<;>exact⟨rfl,rfl⟩
theorem Ou(h:zZ g v rows):v.isCell=true∧v.cells=[v]:=by
 rcases h with⟨rfl,_⟩|⟨_,rfl,_⟩<;>exact⟨rfl,rfl⟩
theorem j7{α:Type}(l x:List α)(n:Nat)(hn:n=l.length):Js (l++x) 0 n=some l:=by
 subst hn;unfold Js;rw[D0 (by simp)];simp
theorem ZL{sz:Nat}(h:Ju g sz v es):FQ g.get v=some (.be es):=by
 rcases h with⟨rfl,rfl⟩|⟨id,x,rfl,hg⟩
 .rfl
 .simp only[FQ,hg,j7 es x _ rfl,Es]
theorem JX{sz:Nat}(h:Ju g sz v es):Dv g.get v=some (.be es):=by
 have h1:=ZL h;rcases h with⟨rfl,rfl⟩|⟨id,x,rfl,hg⟩
 .rfl
 .simp only[Dv,hg];exact h1
theorem ZK{sz:Nat}(h:Ju g sz v es):Ej g.get v=some (.d (.be es)):=by
 have h1:=JX h;rcases h with⟨rfl,rfl⟩|⟨id,x,rfl,hg⟩
 .rfl
 .simp only[Ej,h1,Es]
theorem VL{g:AD}: ∀{rows:List (List AV)} {l:List Fo},rows.length=l.length→(∀(j:Nat) (q:Fo),l[j]? =some q→ ∃v,rows[j]? =some (A5 q v)∧Ju g 1 v (q.queue.map BG))→C6 g.get rows=some (l.map Bm)
 |[],[],_,_=>rfl
 |[],_::_,h,_=>by cases h
 |_::_,[],h,_=>by cases h
 |r::rows,q::l,h,hr=>by
  obtain⟨v,h1,h2⟩:=hr 0 q rfl;simp only[F0,CE]at h1;subst h1;have ih:=VL (rows:=rows) (l:=l) (by simpa using h) fun j q hj=>by
   have:=hr (j+1) q (by simpa using hj);simpa using this
  have h3:=ZL h2;have h4:C2 g.get (A5 q v)=some (Bm q):=by
   simp only[A5,C2,h3,show∀x,FQ g.get (.d x)=some x from fun _=>rfl,Bm]
  simp only[C6,h4,ih,Cs]
theorem ZO{l:List Fo}(h:zZ g v rows)(hc:Chs g rows l):Dv g.get v=some (.be (l.map Bm)):=by
 have h1:=VL hc.len hc.row;have hl:=hc.len;rcases h with⟨rfl,rfl⟩|⟨id,rfl,hg⟩
 .cases l with
  |nil=>rfl
  |cons q l=>cases hl
 .have:=j7 (l.map Bm) [] rows.length (by rw[BI,hl]);rw[D6]at this;simp only[Dv,hg,h1,this,Es]
theorem ADq(p:AL)(s:BF)(x:Cc)(hp: ∀s∈p.free,s.size≤maxLen):BB (KL Tryz.prog cfg) 21 [pA p,sA s,OW x] []=.ok (.ret (Q2 (cy p s x)),[]):=by
 obtain⟨r,hr,hpost⟩:=QI p s hp 9 [];replace hp:=AA.mk hp;by_cases h0:BU p s=0
 .obtain⟨st,id,V,g,rfl,hL⟩:=hpost.i6 h0;have hg:=hL.own;have g0: ∀n,¬n=9→ ∀L,AD.get (g++L) [0,n]=AD.get L [0,n]:=fun n hn L=>BW (hg _ (Ag [] hn));replace hg:=AA.mk hg;obtain⟨st2,hf⟩:=XE h0;have hlk:=hL.looks;rw[hf.looks]at hlk;cases hlk;have hF:=hf.formed;have hs:=hf.pm;replace hL:=AA.mk hL;replace hF:=AA.mk hF;replace hs:=AA.mk hs;have hVu: ∀i∈V.ids id,∀k,¬k=9→Id.under [k] i=false:=fun i hi k hk=>by
   have:=hL.out.ids i hi;cases hx:Id.under [k] i with
   |false=>rfl
   |true=>have:=Bl (π:=[]) this hx;omega
  replace hVu:=AA.mk hVu
  (refine Ae rfl Tryz.func21 rfl rfl rfl ?_;show Wp _ _ _ _ (Tryz.f21.body.get rfl) _ _;simp only[Tryz.f21,AS])
  refine aw ?_;refine XU fun r0 hr0=>?_;obtain⟨I,hI⟩: ∃I:List Cc→AD→Prop,I=fun l g=>g.get [0,14]=some (.loop r0)∧g.get [0,2]=some (.box [.d (.int .i64 (x.wait)),.d (.int .i64 (x.group)),.d (.int .i64 (x.i9)),.d (.be (x.it.map AJ))])∧g.get [0,3]=some (.box [.co,.co,.co,.co])∧g.get [0,4]=some (.box [.co])∧g.get [0,5]=some (.box [.d (.int .i64 (0))])∧g.get [0,10]=some (.box [.ptr id 0])∧Dw p st.ci g id V ⟨s,[],0⟩∧ ∃pre:List Cc,BZ p s=pre++l∧x∉pre:=⟨_,rfl⟩;obtain⟨D,hD⟩: ∃D:Ad→AD→Prop,D=fun o g=>(o=.ret (.d (.bool (false)))∧g.get [0,14]=some (.loop {r0 with state:=.done,rt:=some .ret})∧x∈BZ p s∧ ∃V' st',Di p s x=some st'∧Dw p st.ci g id V' st'∧(∀i∈V'.ids id,(Id.under [15] i=false∧Id.under [14] i=false)∨ ∃l,i=1::l)∧g.get [0,3]=some (.box [V'.s 0,V'.s 1,V'.v3,V'.s 2])∧g.get [0,4]=some (.box [V'.s 3])∧g.get [0,5]=some (.box [.d (.int .i64 (0))]))∨(o=.f9 (CL 3)∧x∈BZ p s∧Di p s x=none∧g.get [0,3]=some (.box [.co,.co,.co,.co])∧g.get [0,4]=some (.box [.co])∧g.get [0,5]=some (.box [.d (.int .i64 (0))])):=⟨_,rfl⟩
  have hE:kE Uk [0,14] (fun i=>i=[0,14]) I D [15]:=by
   refine⟨rfl,fun i hi=>?_,fun hI2=>?_,fun{y l H ρ v r} hI2 hr hv hρ hid=>?_,fun hI2 hs=>?_,fun hD2 hs=>?_⟩
   .subst hi;rfl
   .rw[hI]at hI2;exact⟨_,hI2.1⟩
   .rw[hI]at hI2;obtain⟨g14,g2,g3,g4,g5,g10,hM,pre,hpre,hnot⟩:=hI2;rw[g14]at hr;cases hr;obtain⟨pv,rfl,hpv⟩:=hv;have hpc:pv.isCell=true:=by rcases hpv with⟨rfl,_⟩|⟨_,rfl,_⟩<;>rfl
    have hyin:y∈BZ p s:=by rw[hpre];simp
    have hyl:=bq hF.out hs.out hyin;have hss:=Xm x y (by omega);have u2:=hρ [0,2] rfl;have u3:=hρ [0,3] rfl;have u4:=hρ [0,4] rfl;have u5:=hρ [0,5] rfl;have u10:=hρ [0,10] rfl;have u14:=hρ [0,14] rfl;have a2:=AH u2;have a3:=AH u3;have a4:=AH u4;have a5:=AH u5;have a10:=AH u10;have a14:=AH u14;subst hr0;replace hI:=AA.mk hI;replace hD:=AA.mk hD;replace hpre:=AA.mk hpre;replace hM:=AA.mk hM;replace hρ:=AA.mk hρ;replace hid:=AA.mk hid;replace hnot:=AA.mk hnot;replace hyin:=AA.mk hyin;have hVr:AA (∀i∈V.ids id,∀n,Id.under (n::ρ) i=false):=⟨fun i hi n=>AG (hρ.out i (hVu.out i hi 15 (by decide))) n⟩;have nV: ∀k,¬k=9→[0,k] ∉V.ids id:=fun k hk hh=>by have:=hL.out.ids _ hh;rw[Ag [] hk]at this;cases this
    have nV2:AA (∀j,Id.under [15] (0::j)=true→0::j∉V.ids id):=⟨fun j hj hh=>by rw[hVu.out _ hh 15 (by decide)]at hj;cases hj⟩;have hdo:AA (x∈BZ p s→ ∀Hx:AD,(∀i∈V.ids id,Hx.get i=H.get i)→ ∃o g1,KL Tryz.prog cfg (.fn 55) [.ptr id 0,OW x] Hx (7::ρ) true none=.ok (o,g1)∧FI p st.ci (7::ρ) id V Hx (Di p s x) o g1):=⟨fun hxin Hx hx=>by
     have:=AGW hF.out (h:=Hx) (π:=7::ρ) (m:=id) (V:=V) (st:=⟨s,[],0⟩) (Ba hM.out hx) (fun i hi=>hVr.out i hi 7) hs.out (x:=x) (Xp.1 hxin) (by simp)
     rwa [rq]at this⟩
    by_cases hxy:x=y
    .subst hxy;rw[Ci rfl]at hss;have hdo:=hdo.out hyin.out;rcases hpv with⟨rfl,hz⟩|⟨id2,rfl,g2',l2,rfl⟩
     .simp only[OW,hz,Dl]at g2 hss hdo;replace hdo:=AA.mk hdo;refine FX rfl ?_;refine ax ?_;refine AZ (hdo.out _ fun i hi=>?_) (fun o1 g1 p1=>?_)
      .have q:=AH (hρ.out i (hVu.out i hi 15 (by decide)));have q14:Id.is [0,14] i=false:=AE fun e=>nV 14 (by decide) (e▸hi);simp only[go_sem,q,q14,AM]
      cases hds:Di p s x with
      |none=>
       rw[hds]at p1;obtain⟨rfl,p2⟩:=p1;have k14:=p2 [0,14] (nV 14 (by decide)) (AG u14 7);have k3:=(AU (7::ρ) g1 _ (AG u3 7)).trans (p2 [0,3] (nV 3 (by decide)) (AG u3 7));have k4:=(AU (7::ρ) g1 _ (AG u4 7)).trans (p2 [0,4] (nV 4 (by decide)) (AG u4 7));have k5:=(AU (7::ρ) g1 _ (AG u5 7)).trans (p2 [0,5] (nV 5 (by decide)) (AG u5 7));replace p2:=AA.mk p2;refine ax ?_;refine .inr ⟨.inr ⟨_,rfl⟩,?_,fun j q1 q2=>?_⟩
       .rw[hD.out];refine .inr ⟨rfl,hyin.out,hds,?_,?_,?_⟩
        .simp only[go_sem,k3,a3,g3,AM]
        .simp only[go_sem,k4,a4,g4,AM]
        .simp only[go_sem,k5,a5,g5,AM]
       .rw[AU _ _ _ (AG q2 7),p2.out _ (nV2.out j q1) (AG q2 7)];have b1:=AH q2 0 0;have b2:Id.is [0,14] (0::j)=false:=AE fun e=>by rw[←e]at q1;cases q1
        have b3:Id.is [14] j=false:=AE fun e=>by rw[←e]at q1;cases q1
        have b4:Id.is (0::ρ) j=false:=AE fun e=>by rw[←e,is_self]at b1;cases b1
        simp only[go_sem,b1,b2,b3,b4,AM]
      |some st'=>
       rw[hds]at p1;obtain⟨rfl,V',hM',hK⟩:=p1;have gm:=hM'.box;simp only[Au]at gm;obtain⟨c0,d0⟩:=DS (hM'.sl 0 (by omega));obtain⟨c1,d1⟩:=DS (hM'.sl 1 (by omega));obtain⟨c2,d2⟩:=DS (hM'.sl 2 (by omega));obtain⟨c3,d3⟩:=DS (hM'.sl 3 (by omega));obtain⟨c4,d4⟩:=Ou hM'.arr;have uid:=hVr.out id (V.m_mem id) 7;have gm2:=(AU _ _ _ uid).trans gm;have k14:=(AU (7::ρ) g1 _ (AG u14 7)).trans (hK.frame [0,14] (nV 14 (by decide)) (AG u14 7));have k3:=(AU (7::ρ) g1 _ (AG u3 7)).trans (hK.frame [0,3] (nV 3 (by decide)) (AG u3 7));have k4:=(AU (7::ρ) g1 _ (AG u4 7)).trans (hK.frame [0,4] (nV 4 (by decide)) (AG u4 7));have k5:=(AU (7::ρ) g1 _ (AG u5 7)).trans (hK.frame [0,5] (nV 5 (by decide)) (AG u5 7));have k10:=(AU (7::ρ) g1 _ (AG u10 7)).trans (hK.frame [0,10] (nV 10 (by decide)) (AG u10 7));have i3: ∀k,¬k=9→Id.is id [0,k]=false:=fun k hk=>AE fun e=>nV k hk (e▸V.m_mem id);have i33:=i3 3 (by decide);replace i3:=AA.mk i3;replace nV:=AA.mk nV;replace hM':=AA.mk hM';replace hK:=AA.mk hK;refine ax ?_;refine .inr ⟨.inl rfl,?_,fun j q1 q2=>?_⟩
       .rw[hD.out];refine .inl ⟨rfl,?_,hyin.out,V',st',hds,Ba hM'.out fun i hi=>?_,fun i hi=>?_,?_,?_,?_⟩
        .simp only[go_sem]
        .rcases hK.out.ids i hi with hh|⟨hh,l3,rfl⟩
         .have b0: ∀k,¬k=9→Id.is [0,k] i=false:=fun k hk=>AE fun e=>nV.out k hk (e▸hh);rw[get_put,b0 14 (by decide),get_put,b0 5 (by decide),get_put,b0 4 (by decide),get_put,b0 3 (by decide),AU _ _ _ (hVr.out i hh 7)];rfl
         .rw[get_put,AE (by simp),get_put,AE (by simp),get_put,AE (by simp),get_put,AE (by simp),EY];rfl
        .rcases hK.out.ids i hi with hh|⟨_,l3,rfl⟩
         .exact .inl ⟨hVu.out i hh 15 (by decide),hVu.out i hh 14 (by decide)⟩
         .exact .inr ⟨l3,rfl⟩
        .simp only[go_sem]
        .simp only[go_sem]
        .simp only[go_sem]
       .have b0: ∀k,¬k=15→Id.is [0,k] (0::j)=false:=fun k hk=>AE fun e=>by rw[←e,Ag [] hk]at q1;cases q1
        rw[get_put,b0 14 (by decide),get_put,b0 5 (by decide),get_put,b0 4 (by decide),get_put,b0 3 (by decide)];simp only[AM,El];rw[AU _ _ _ (AG q2 7),hK.out.frame _ (nV2.out j q1) (AG q2 7)];have b1:=AH q2 0 0;have b2:=b0 14 (by decide);have b3:Id.is [14] j=false:=AE fun e=>by rw[←e]at q1;cases q1
        have b4:Id.is (0::ρ) j=false:=AE fun e=>by rw[←e,is_self]at b1;cases b1
        simp only[go_sem,b1,b2,b3,b4,AM]
     .replace hdo:=AA.mk hdo;refine FX rfl ?_;refine ax ?_;refine AZ (hdo.out _ fun i hi=>?_) (fun o1 g1 p1=>?_)
      .have q:=AH (hρ.out i (hVu.out i hi 15 (by decide)));have q14:Id.is [0,14] i=false:=AE fun e=>nV 14 (by decide) (e▸hi);have qv:Id.is (1::l2) i=false:=AE fun e=>by have:=hVu.out i hi 15 (by decide);rw[←e,(hid.out (1::l2) (by simp[AF,Az])).2.2]at this;cases this
       simp only[go_sem,q,q14,qv,AM]
      cases hds:Di p s x with
      |none=>
       rw[hds]at p1;obtain⟨rfl,p2⟩:=p1;have k14:=p2 [0,14] (nV 14 (by decide)) (AG u14 7);have k3:=(AU (7::ρ) g1 _ (AG u3 7)).trans (p2 [0,3] (nV 3 (by decide)) (AG u3 7));have k4:=(AU (7::ρ) g1 _ (AG u4 7)).trans (p2 [0,4] (nV 4 (by decide)) (AG u4 7));have k5:=(AU (7::ρ) g1 _ (AG u5 7)).trans (p2 [0,5] (nV 5 (by decide)) (AG u5 7));replace p2:=AA.mk p2;refine ax ?_;refine .inr ⟨.inr ⟨_,rfl⟩,?_,fun j q1 q2=>?_⟩
       .rw[hD.out];refine .inr ⟨rfl,hyin.out,hds,?_,?_,?_⟩
        .simp only[go_sem,k3,a3,g3,AM]
        .simp only[go_sem,k4,a4,g4,AM]
        .simp only[go_sem,k5,a5,g5,AM]
       .rw[AU _ _ _ (AG q2 7),p2.out _ (nV2.out j q1) (AG q2 7)];have b1:=AH q2 0 0;have b2:Id.is [0,14] (0::j)=false:=AE fun e=>by rw[←e]at q1;cases q1
        have b3:Id.is [14] j=false:=AE fun e=>by rw[←e]at q1;cases q1
        have b4:Id.is (0::ρ) j=false:=AE fun e=>by rw[←e,is_self]at b1;cases b1
        simp only[go_sem,b1,b2,b3,b4,AM]
      |some st'=>
       rw[hds]at p1;obtain⟨rfl,V',hM',hK⟩:=p1;have gm:=hM'.box;simp only[Au]at gm;obtain⟨c0,d0⟩:=DS (hM'.sl 0 (by omega));obtain⟨c1,d1⟩:=DS (hM'.sl 1 (by omega));obtain⟨c2,d2⟩:=DS (hM'.sl 2 (by omega));obtain⟨c3,d3⟩:=DS (hM'.sl 3 (by omega));obtain⟨c4,d4⟩:=Ou hM'.arr;have uid:=hVr.out id (V.m_mem id) 7;have gm2:=(AU _ _ _ uid).trans gm;have k14:=(AU (7::ρ) g1 _ (AG u14 7)).trans (hK.frame [0,14] (nV 14 (by decide)) (AG u14 7));have k3:=(AU (7::ρ) g1 _ (AG u3 7)).trans (hK.frame [0,3] (nV 3 (by decide)) (AG u3 7));have k4:=(AU (7::ρ) g1 _ (AG u4 7)).trans (hK.frame [0,4] (nV 4 (by decide)) (AG u4 7));have k5:=(AU (7::ρ) g1 _ (AG u5 7)).trans (hK.frame [0,5] (nV 5 (by decide)) (AG u5 7));have k10:=(AU (7::ρ) g1 _ (AG u10 7)).trans (hK.frame [0,10] (nV 10 (by decide)) (AG u10 7));have i3: ∀k,¬k=9→Id.is id [0,k]=false:=fun k hk=>AE fun e=>nV k hk (e▸V.m_mem id);have i33:=i3 3 (by decide);replace i3:=AA.mk i3;replace nV:=AA.mk nV;replace hM':=AA.mk hM';replace hK:=AA.mk hK;refine ax ?_;refine .inr ⟨.inl rfl,?_,fun j q1 q2=>?_⟩
       .rw[hD.out];refine .inl ⟨rfl,?_,hyin.out,V',st',hds,Ba hM'.out fun i hi=>?_,fun i hi=>?_,?_,?_,?_⟩
        .simp only[go_sem]
        .rcases hK.out.ids i hi with hh|⟨hh,l3,rfl⟩
         .have b0: ∀k,¬k=9→Id.is [0,k] i=false:=fun k hk=>AE fun e=>nV.out k hk (e▸hh);rw[get_put,b0 14 (by decide),get_put,b0 5 (by decide),get_put,b0 4 (by decide),get_put,b0 3 (by decide),AU _ _ _ (hVr.out i hh 7)];rfl
         .rw[get_put,AE (by simp),get_put,AE (by simp),get_put,AE (by simp),get_put,AE (by simp),EY];rfl
        .rcases hK.out.ids i hi with hh|⟨_,l3,rfl⟩
         .exact .inl ⟨hVu.out i hh 15 (by decide),hVu.out i hh 14 (by decide)⟩
         .exact .inr ⟨l3,rfl⟩
        .simp only[go_sem]
        .simp only[go_sem]
        .simp only[go_sem]
       .have b0: ∀k,¬k=15→Id.is [0,k] (0::j)=false:=fun k hk=>AE fun e=>by rw[←e,Ag [] hk]at q1;cases q1
        rw[get_put,b0 14 (by decide),get_put,b0 5 (by decide),get_put,b0 4 (by decide),get_put,b0 3 (by decide)];simp only[AM,El];rw[AU _ _ _ (AG q2 7),hK.out.frame _ (nV2.out j q1) (AG q2 7)];have b1:=AH q2 0 0;have b2:=b0 14 (by decide);have b3:Id.is [14] j=false:=AE fun e=>by rw[←e]at q1;cases q1
        have b4:Id.is (0::ρ) j=false:=AE fun e=>by rw[←e,is_self]at b1;cases b1
        simp only[go_sem,b1,b2,b3,b4,AM]
    .rw[By hxy]at hss;replace hxy:=AA.mk hxy;rcases hpv with⟨rfl,hz⟩|⟨id2,rfl,g2',l2,rfl⟩
     .simp only[OW,hz,Dl]at hss;refine FX rfl ?_;refine ax ?_;refine .inl ⟨rfl,?_,fun i q1 q2=>?_⟩
      .rw[hI.out];refine⟨?_,?_,?_,?_,?_,?_,Ba hM.out fun i hi=>?_,pre++[y],by rw[hpre.out];simp,fun hh=>?_⟩
       .simp only[go_sem]
       .simp only[go_sem,a2,g2,AM]
       .simp only[go_sem,a3,g3,AM]
       .simp only[go_sem,a4,g4,AM]
       .simp only[go_sem,a5,g5,AM]
       .simp only[go_sem,a10,g10,AM]
       .have q:=AH (hρ.out i (hVu.out i hi 15 (by decide)));have q14:Id.is [0,14] i=false:=AE fun e=>nV 14 (by decide) (e▸hi);simp only[go_sem,q,q14,AM]
       .rcases ES.1 hh with hh|hh
        .exact hnot.out hh
        .exact hxy.out (As.1 hh)
      .have b1:=AH q2 0 0;have b2:Id.is [0,14] i=false:=AE fun e=>q1 e.symm;simp only[go_sem,b1,b2,AM]
     .refine FX rfl ?_;refine ax ?_;refine .inl ⟨rfl,?_,fun i q1 q2=>?_⟩
      .rw[hI.out];refine⟨?_,?_,?_,?_,?_,?_,Ba hM.out fun i hi=>?_,pre++[y],by rw[hpre.out];simp,fun hh=>?_⟩
       .simp only[go_sem]
       .simp only[go_sem,a2,g2,AM]
       .simp only[go_sem,a3,g3,AM]
       .simp only[go_sem,a4,g4,AM]
       .simp only[go_sem,a5,g5,AM]
       .simp only[go_sem,a10,g10,AM]
       .have q:=AH (hρ.out i (hVu.out i hi 15 (by decide)));have q14:Id.is [0,14] i=false:=AE fun e=>nV 14 (by decide) (e▸hi);simp only[go_sem,q,q14,AM]
       .rcases ES.1 hh with hh|hh
        .exact hnot.out hh
        .exact hxy.out (As.1 hh)
      .have b1:=AH q2 0 0;have b2:Id.is [0,14] i=false:=AE fun e=>q1 e.symm;simp only[go_sem,b1,b2,AM]
   .rw[hI]at hI2⊢;obtain⟨k1,k2,k3,k4,k5,k6,k7,pre,k8,k9⟩:=hI2;exact⟨(hs _ rfl).trans k1,(hs _ rfl).trans k2,(hs _ rfl).trans k3,(hs _ rfl).trans k4,(hs _ rfl).trans k5,(hs _ rfl).trans k6,Ba k7 fun i hi=>hs i (hVu.out i hi 15 (by decide)),pre,k8,k9⟩
   .rw[hD]at hD2⊢;rcases hD2 with⟨k1,k2,k3,V',st',k4,k5,k6,k7,k8,k9⟩|⟨k1,k2,k3,k4,k5,k6⟩
    .exact .inl ⟨k1,(hs _ (.inl rfl)).trans k2,k3,V',st',k4,Ba k5 fun i hi=>hs i ((k6 i hi).imp_left And.left),k6,(hs _ (.inl rfl)).trans k7,(hs _ (.inl rfl)).trans k8,(hs _ (.inl rfl)).trans k9⟩
    .exact .inr ⟨k1,k2,k3,(hs _ (.inl rfl)).trans k4,(hs _ (.inl rfl)).trans k5,(hs _ (.inl rfl)).trans k6⟩
  refine KB (Tl hF.out (NK hL.out.rep fun i o hi=>?_) (fun i hi=>hVu.out i hi 15 (by decide)) hs.out hE (fun i hi=>?_) ?_) (fun o1 g5 p1=>?_)
  .have hu:Id.under [9] i=true:=by
    cases hx:Id.under [9] i with
    |true=>rfl
    |false=>rw[hg.out i hx]at hi;cases hi
   have q:Id.is [0,14] i=false:=AE fun e=>by subst e;cases hu
   have q2:Id.is [0,10] i=false:=AE fun e=>by subst e;cases hu
   rw[get_put,q,CI (by simp),get_put,q2,CI (by simp),get_put,q2,CI (by simp),CT hi]
  .have:=hL.out.ids i hi;rintro rfl;cases this
  .rw[hI];have g02:=g0 2 (by decide);have g03:=g0 3 (by decide);have g04:=g0 4 (by decide);have g05:=g0 5 (by decide);refine⟨?_,?_,?_,?_,?_,?_,NK hL.out.rep fun i o hi=>?_,[],rfl,by simp⟩
   .simp only[go_sem]
   .simp only[go_sem,g02]
   .simp only[go_sem,g03]
   .simp only[go_sem,g04]
   .simp only[go_sem,g05]
   .simp only[go_sem]
   .have hu:Id.under [9] i=true:=by
     cases hx:Id.under [9] i with
     |true=>rfl
     |false=>rw[hg.out i hx]at hi;cases hi
    have q:Id.is [0,14] i=false:=AE fun e=>by subst e;cases hu
    have q2:Id.is [0,10] i=false:=AE fun e=>by subst e;cases hu
    rw[get_put,q,CI (by simp),get_put,q2,CI (by simp),get_put,q2,CI (by simp),CT hi]
  have gg: ∀g5:AD,∀i,Id.under [14] i=false→Id.under [15] i=false→(gc [14] (gc [15] g5)).get i=g5.get i:=fun g5 i q1 q2=>by rw[AU _ _ _ q1,AU _ _ _ q2]
  rcases p1 with⟨rfl,p1,p2⟩|⟨rfl,p1⟩|⟨⟨v,rfl⟩,p1⟩
  .rw[hI]at p1;obtain⟨k14,k2,k3,k4,k5,k10,_,pre,k8,k9⟩:=p1;rw[D6]at k8;subst hr0;replace p2:=AA.mk p2;replace hI:=AA.mk hI;replace hD:=AA.mk hD;replace hE:=AA.mk hE;replace k8:=AA.mk k8;replace k9:=AA.mk k9;have k3':=(gg g5 [0,3] rfl rfl).trans k3;have k4':=(gg g5 [0,4] rfl rfl).trans k4;have k5':=(gg g5 [0,5] rfl rfl).trans k5;replace gg:=AA.mk gg;refine aw ?_;rw[AAF h0 (by rw[k8.out];exact k9.out)];rfl
  .rw[hD]at p1;rcases p1 with⟨_,k14,kx,V',st',kd,kM,kV,k3,k4,k5⟩|⟨e,_⟩
   .subst hr0;replace hI:=AA.mk hI;replace hD:=AA.mk hD;replace hE:=AA.mk hE;have k3':=(gg g5 [0,3] rfl rfl).trans k3;have k4':=(gg g5 [0,4] rfl rfl).trans k4;have k5':=(gg g5 [0,5] rfl rfl).trans k5;replace gg:=AA.mk gg;have kM2:=Ba (h':=gc [14] (gc [15] g5)) kM fun i hi=>by
     rcases kV i hi with⟨u1,u2⟩|⟨l,rfl⟩
     .rw[AU _ _ _ u2,AU _ _ _ u1]
     .rw[EY,EY]
    have f0:=JX (kM2.sl 0 (by omega));have f1:=JX (kM2.sl 1 (by omega));have f2:=JX (kM2.sl 2 (by omega));have f3:=ZK (kM2.sl 3 (by omega));have f4:=ZO kM2.arr kM2.am;simp only[A7]at f0 f1 f2 f3;replace kM:=AA.mk kM;replace kM2:=AA.mk kM2;replace kV:=AA.mk kV;refine aw ?_;rw[W4 h0 kx,kd];rfl
   .cases e
  .rw[hD]at p1;rcases p1 with⟨e,_⟩|⟨e,kx,kd,k3,k4,k5⟩
   .cases e
   .cases e;subst hr0;replace hI:=AA.mk hI;replace hD:=AA.mk hD;replace hE:=AA.mk hE;have k3':=(gg g5 [0,3] rfl rfl).trans k3;have k4':=(gg g5 [0,4] rfl rfl).trans k4;have k5':=(gg g5 [0,5] rfl rfl).trans k5;replace gg:=AA.mk gg
    (repeat' (first|simp only[go_sem, *,CL]|(refine sx ?_ ?_<;>intro hc)|refine sy (by omega) fun x hx hm=>?_|simp(disch:=first|assumption|omega) only[AK]))
    rw[W4 h0 kx,kd];rfl
 .obtain rfl:=hpost.bad h0;have h2:=AA.mk (W9 h0);have hc:=AA.mk (AEE x h0)
  (refine Ae rfl Tryz.func21 rfl rfl rfl ?_;show Wp _ _ _ _ (Tryz.f21.body.get rfl) _ _;simp only[Tryz.f21,AS])
  (repeat' (first|simp only[go_sem, *,CL]|(refine sx ?_ ?_<;>intro hc)|refine sy (by omega) fun x hx hm=>?_|simp(disch:=first|assumption|omega) only[AK]))
  rw[hc.out];rfl
theorem RL(a:List CV)(ha:a.length≤1000000):BB (KL Tryz.prog cfg) 57 [.d (.be (a.map AN)),.d (.be (a.map AN))] []=.ok (.ret (.d (.bool (true))),[]):=by
 (refine Ae rfl Tryz.func57 rfl rfl rfl ?_;show Wp _ _ _ _ (Tryz.f57.body.get rfl) _ _;simp only[Tryz.f57,AS])
 refine aw ?_;refine Ah a (S:=fun i (_:Unit)=>⟨[(0,.d (.be (a.map AN))),(1,.d (.be (a.map AN))),(5,.d (.int .i64 (i)))],[],0,[]⟩)
  (Inv:=fun i rest _=>True) (b0:=()) trivial ?_ ?_
 .rintro i y _ hy hi him hI IH;have hil:i<a.length:=by omega
  have w1:IntKind.i64.wrap ((i:Int)+1)=(i:Int)+1:=wrap_id (by omega) (by omega);refine aw ?_;exact IH.out () trivial
 .rintro i _ hi him hI;exact au
theorem Xl(a:List (List CV))(ha:a.length≤1000000)(hm: ∀m∈a,m.length≤1000000):BB (KL Tryz.prog cfg) 37 [.d (.be (a.map BG)),.d (.be (a.map BG))] []=.ok (.ret (.d (.bool (true))),[]):=by
 replace hm:=AA.mk hm
 (refine Ae rfl Tryz.func37 rfl rfl rfl ?_;show Wp _ _ _ _ (Tryz.f37.body.get rfl) _ _;simp only[Tryz.f37,AS])
 refine aw ?_;refine Ah a (S:=fun i (_:Unit)=>⟨[(0,.d (.be (a.map BG))),(1,.d (.be (a.map BG))),(5,.d (.int .i64 (i)))],[],0,[]⟩)
  (Inv:=fun i rest _=>True) (b0:=()) trivial ?_ ?_
 .rintro i y _ hy hi him hI IH;have hil:i<a.length:=by omega
  have w1:IntKind.i64.wrap ((i:Int)+1)=(i:Int)+1:=wrap_id (by omega) (by omega);have hv:=RL y (hm.out y (Ac hy));refine aw ?_;exact IH.out () trivial
 .rintro i _ hi him hI;exact au
theorem vY(s s':BF)(h:ADR s s')(hs:s.ac.length≤1000000)(hg:s.bv.length≤1000000)(hc:s.am.length≤1000000)(he: ∀g∈s.bv,g.env.length≤1000000):BB (KL Tryz.prog cfg) 35 [sA s,sA s'] []=.ok (.ret (.d (.bool (true))),[]):=by
 have h1:=h.sl;have h2:=h.gl;have h3:=h.cl;replace h:=AA.mk h;replace he:=AA.mk he
 (refine Ae rfl Tryz.func35 rfl rfl rfl ?_;show Wp _ _ _ _ (Tryz.f35.body.get rfl) _ _;simp only[Tryz.f35,AS])
 (repeat' (first|simp only[go_sem, *]|(refine sx ?_ ?_<;>intro hc)|refine sy (by omega) fun x hx hm=>?_|simp(disch:=first|assumption|omega) only[AK]))
 all_goals first|(exfalso;omega)|skip
 refine Ah s.ac (S:=fun j (_:Unit)=>⟨[(2,.ptr [0,0] 0),(3,.ptr [0,1] 0),(5,.d (.int .i64 (j)))],[([0,0],.box [.d (.be (s.ac.map Ab)),.d (.be (s.bv.map Ar)),.d (.be (s.am.map Bm)),.d (.be (s.waits.map AW))]),([0,1],.box [.d (.be (s'.ac.map Ab)),.d (.be (s'.bv.map Ar)),.d (.be (s'.am.map Bm)),.d (.be (s'.waits.map AW))])],2,[]⟩) (Inv:=fun _ _ _=>True) (b0:=()) trivial ?_ ?_
 .rintro j x _ hx hj hjm _ IH;have w1:IntKind.i64.wrap ((j:Int)+1)=(j:Int)+1:=wrap_id (by omega) (by omega);obtain⟨y,hy,hd⟩:=h.out.sp j x hx;cases hxd:x.dead with
  |true=>
   obtain rfl:=hd hxd
   (repeat' (first|simp only[go_sem, *]|(refine sx ?_ ?_<;>intro hc)|refine sy (by omega) fun x hx hm=>?_|simp(disch:=first|assumption|omega) only[AK]))
   all_goals first|(exact IH.out () trivial)|(exfalso;omega)|exact absurd hc (by decide)
  |false=>
   replace hd:=AA.mk hd
   (repeat' (first|simp only[go_sem, *]|(refine sx ?_ ?_<;>intro hc)|refine sy (by omega) fun x hx hm=>?_|simp(disch:=first|assumption|omega) only[AK]))
   all_goals first|(exact IH.out () trivial)|(exfalso;omega)|skip
 rintro j _ _ _ _
 (repeat' (first|simp only[go_sem, *]|(refine sx ?_ ?_<;>intro hc)|refine sy (by omega) fun x hx hm=>?_|simp(disch:=first|assumption|omega) only[AK]))
 refine Ah s.bv (S:=fun j (_:Unit)=>⟨[(2,.ptr [0,0] 0),(3,.ptr [0,1] 0),(6,.d (.int .i64 (j)))],[([0,0],.box [.d (.be (s.ac.map Ab)),.d (.be (s.bv.map Ar)),.d (.be (s.am.map Bm)),.d (.be (s.waits.map AW))]),([0,1],.box [.d (.be (s'.ac.map Ab)),.d (.be (s'.bv.map Ar)),.d (.be (s'.am.map Bm)),.d (.be (s'.waits.map AW))])],2,[]⟩) (Inv:=fun _ _ _=>True) (b0:=()) trivial ?_ ?_
 .rintro j x _ hx hj hjm _ IH;have w1:IntKind.i64.wrap ((j:Int)+1)=(j:Int)+1:=wrap_id (by omega) (by omega);have hy:=h.out.gr j x hx;have hv:=RL x.env (he.out x (Ac hx))
  (repeat' (first|simp only[go_sem, *]|(refine sx ?_ ?_<;>intro hc)|refine sy (by omega) fun x hx hm=>?_|simp(disch:=first|assumption|omega) only[AK]))
  all_goals first|(exact IH.out () trivial)|(exfalso;omega)|skip
 rintro j _ _ _ _
 (repeat' (first|simp only[go_sem, *]|(refine sx ?_ ?_<;>intro hc)|refine sy (by omega) fun x hx hm=>?_|simp(disch:=first|assumption|omega) only[AK]))
 refine Ah s.am (S:=fun j (_:Unit)=>⟨[(2,.ptr [0,0] 0),(3,.ptr [0,1] 0),(7,.d (.int .i64 (j)))],[([0,0],.box [.d (.be (s.ac.map Ab)),.d (.be (s.bv.map Ar)),.d (.be (s.am.map Bm)),.d (.be (s.waits.map AW))]),([0,1],.box [.d (.be (s'.ac.map Ab)),.d (.be (s'.bv.map Ar)),.d (.be (s'.am.map Bm)),.d (.be (s'.waits.map AW))])],2,[]⟩) (Inv:=fun _ _ _=>True) (b0:=()) trivial ?_ ?_
 .rintro j x _ hx hj hjm _ IH;have w1:IntKind.i64.wrap ((j:Int)+1)=(j:Int)+1:=wrap_id (by omega) (by omega);obtain⟨y,hy,e1,e2,e3⟩:=h.out.ch j x hx
  (repeat' (first|simp only[go_sem, *]|(refine sx ?_ ?_<;>intro hc)|refine sy (by omega) fun x hx hm=>?_|simp(disch:=first|assumption|omega) only[AK]))
  all_goals first|(exact IH.out () trivial)|(exfalso;omega)|skip
 rintro j _ _ _ _;exact au
def AGv:Option (BF×List Ib)→Made
 |some (s,ev)=>⟨s,ev,0⟩
 |none=>⟨HH,[],3⟩
theorem yF{k:Int}{n j:Nat}(hj:j=(max k 0).toNat % n):(if 0>k then 0 else k).tmod (n:Int)=(j:Int):=by
 subst hj;by_cases hk:0>k
 .rw[D0 hk,show max k 0=0 by omega];simp
 .obtain⟨m,rfl⟩: ∃m:Nat,k=m:=⟨k.toNat,by omega⟩;rw[CI hk,show(max (m:Int) 0).toNat=m by omega];exact(Int.tmod_eq_emod_of_nonneg (by omega)).trans (by omega)
theorem j4{id:Abs.Id}{ev:List Ib}{w:Int}(hM:Dw p sz g id V ⟨s,ev,w⟩):AET (fun o' h'=>nrm (o',h')=(Ad.ret (Q2 (AGv (some (s,ev)))),[])) (Option.map AV.ge (VM (Option.map AV.agg (Ny (Dv g.get (V.s 0)) (Ny (Dv g.get (V.s 1)) (Ny (Dv g.get V.v3) (Ny (Dv g.get (V.s 2)) (some [])))))) (VM (Ej g.get (V.s 3)) (some [.d (.int .i64 0)])))):=by
 have f0:=JX (hM.sl 0 (by omega));have f1:=JX (hM.sl 1 (by omega));have f2:=JX (hM.sl 2 (by omega));have f3:=ZK (hM.sl 3 (by omega));have f4:=ZO hM.arr hM.am;simp only[A7]at f0 f1 f2 f3;rw[f0,f1,f2,f3,f4];rfl
def JW(p:AL):Made:=if (looks p).isSome=true then Zr (Jy p)else⟨HH,[],2⟩
theorem nN{fr:Fr}{bl:Nat}{x:Code}{E:Bn}{b:Nat}(hn: ∀G,G=H→Wb cfg K fr bl x ⟨E,G,b,ds⟩ Q):Wb cfg K fr bl x ⟨E,H,b,ds⟩ Q:=hn H rfl
structure Px(p:AL)(sz:List Int)(V:MV)(G:AD):Prop where
 rep:Dw p sz G [0,0,6] V ⟨DJ,[],0⟩
 x0:G.get [0,0]=some (.box [.d (.be (p.free.map Av)),.d (.be (p.nodes.map Af)),.d (.be (p.defs.map Ax)),.d (.int .i64 (p.main))])
 x1:G.get [0,1]=some (.box [.co,.co,.co,.co])
 x3:G.get [0,3]=some (.box [.d (.int .i64 (0))])
theorem Y2{G:AD}(h0:G.get [0,0,6]=some (.box (Au p sz (UW (.eq [1,10] 0 1) .co .co .co v9 a []) 0)))(h1:G.get a=some (.map Ic))(h2:G.get [1,10]=some (.d9 2 [[.int .i64 (-1),.bool false]])):Dw p sz G [0,0,6] (UW (.eq [1,10] 0 1) .co .co .co v9 a []) ⟨DJ,[],0⟩:=by
 refine⟨h0,h1,fun i hi=>?_,.inl ⟨rfl,rfl⟩,⟨rfl,fun j q hj=>by cases hj⟩,fun id hid=>(by cases hid),by simp[UW]⟩
 match i,hi with
 |0,_=>exact BR [] rfl h2
 |1,_=>exact .inl ⟨rfl,rfl⟩
 |2,_=>exact .inl ⟨rfl,rfl⟩
 |3,_=>exact .inl ⟨rfl,rfl⟩
theorem Px.mono{p:AL}{sz:List Int}{V:MV}{G G':AD}(h:Px p sz V G)(hV: ∀j∈V.ids [0,0,6],∃n,n<20∧Id.under [n] j=true∧ ¬j=[0,1]∧ ¬j=[0,3])(hl: ∀j,(∀k,20≤k→Id.is [1,k] j=false)→G'.get j=G.get j):Px p sz V G':=by
 refine⟨Ba h.rep fun j hj=>hl j fun k hk=>AE fun e=>?_,(hl _ fun k _=>rfl).trans h.x0,(hl _ fun k _=>rfl).trans h.x1,(hl _ fun k _=>rfl).trans h.x3⟩;obtain⟨n,h1,h2,_⟩:=hV j hj;subst e;have:=Bl (π:=[]) h2 (under_iff.2 ⟨[1],rfl⟩:Id.under [k] [1,k]=true);omega
theorem mM(n:Nat):B9 (n+1)=B9 n++[⟨2,(n:Int)⟩]:=by
 simp[B9,List.range_succ]
theorem sU(p:AL)(hp: ∀s∈p.free,s.size≤maxLen):BB (KL Tryz.prog cfg) 31 [pA p] []=.ok (.ret (Q2 (JW p)),[]):=by
 obtain⟨r,hr,hpost⟩:=RE p hp 6 [];replace hp:=AA.mk hp;cases hlk:looks p with
 |none=>
  obtain rfl:=hpost.f9 hlk;have hR:AA (JW p=⟨HH,[],2⟩):=⟨by rw[JW,hlk];rfl⟩;rw[hR.out]
  (refine Ae rfl Tryz.func31 rfl rfl rfl ?_;show Wp _ _ _ _ (Tryz.f31.body.get rfl) _ _;simp only[Tryz.f31,AS])
  (repeat' (first|simp only[go_sem, *,CL]|(refine sx ?_ ?_<;>intro hc)|refine sy (by omega) fun x hx hm=>?_|simp(disch:=first|assumption|omega) only[AK]))
  rfl
 |some st=>
  obtain rfl:=hpost.ret st hlk;have hF:=CF hlk;have hR:AA (JW p=Zr (Jy p)):=⟨by rw[JW,hlk];rfl⟩;rw[hR.out];replace hF:=AA.mk hF;replace hlk:=AA.mk hlk;by_cases hD0:p.defs.length=0;all_goals
   simp only[Kq,hD0,F2,El,Ic]at hr
   (refine Ae rfl Tryz.func31 rfl rfl rfl ?_;show Wp _ _ _ _ (Tryz.f31.body.get rfl) _ _;simp only[Tryz.f31,AS])
   refine aw ?_;refine nN fun G hG=>?_;have hK: ∃V,Px p st.ci V G∧ ∀j∈V.ids [0,0,6],∃n,n<20∧Id.under [n] j=true∧ ¬j=[0,1]∧ ¬j=[0,3]:=by
    subst hG;first
    |(refine⟨_,⟨Y2 (v9:=.emp) (a:=[1,3,6]) ?_ ?_ ?_,?_,?_,?_⟩,fun j hj=>?_⟩
      .rfl
      .rfl
      .rfl
      .rfl
      .rfl
      .rfl
      .rcases(MV.mem _ _ j).1 hj with rfl|rfl|⟨i,hi,h⟩|h|h
       .exact⟨6,by omega,rfl,(by intro e;cases e),(by intro e;cases e)⟩
       .exact⟨6,by omega,rfl,(by intro e;cases e),(by intro e;cases e)⟩
       .match i,hi with
        |0,_=>simp only[UW,AF,As]at h;subst h;exact⟨10,by omega,rfl,(by intro e;cases e),(by intro e;cases e)⟩
        |1,_=>simp[UW,AF]at h
        |2,_=>simp[UW,AF]at h
        |3,_=>simp[UW,AF]at h
       .simp[UW,AF]at h
       .simp[UW,AF]at h)
    |(refine⟨_,⟨Y2 (v9:=.eq [1,1,6] 0 p.defs.length) (a:=[1,4,6]) ?_ ?_ ?_,?_,?_,?_⟩,fun j hj=>?_⟩
      .rfl
      .rfl
      .rfl
      .rfl
      .rfl
      .rfl
      .rcases(MV.mem _ _ j).1 hj with rfl|rfl|⟨i,hi,h⟩|h|h
       .exact⟨6,by omega,rfl,(by intro e;cases e),(by intro e;cases e)⟩
       .exact⟨6,by omega,rfl,(by intro e;cases e),(by intro e;cases e)⟩
       .match i,hi with
        |0,_=>simp only[UW,AF,As]at h;subst h;exact⟨10,by omega,rfl,(by intro e;cases e),(by intro e;cases e)⟩
        |1,_=>simp[UW,AF]at h
        |2,_=>simp[UW,AF]at h
        |3,_=>simp[UW,AF]at h
       .simp[UW,AF]at h
       .simp[UW,AF]at h)
   clear hG;clear hr;obtain⟨V,hM,hV⟩:=hK;have freeN:p.free.length≤1000000:=by
    have:=hF.out.small;simp only[AL.small,AP,Ap]at this;omega
   refine Ah p.free (S:=fun i (a:(AD×AV)×Nat)=>⟨[(1,.ptr [0,0] 0),(2,.ptr [0,1] 0),(3,.co),(4,.ptr [0,3] 0),(5,.ptr [0,0,6] 0),(6,a.1.2),(18,.d (.int .i64 (p.free.length))),(19,.d (.int .i64 (i)))],a.1.1,a.2+20,[.call 50 [.ptr [0,3] 0]]⟩)
    (Inv:=fun i rest a=>AA (Px p st.ci V a.1.1)∧AA (Ju a.1.1 2 a.1.2 ((B9 i).map AN))∧AA (∀j∈AF a.1.2,∃n,20≤n∧n<a.2+20∧j=[1,n])) (b0:=((_,.co),0)) ⟨⟨hM⟩,⟨.inl ⟨rfl,rfl⟩⟩,⟨fun j hj=>by simp[AF]at hj⟩⟩ ?_ ?_
   .clear hM G;rintro i y ⟨⟨G,v⟩,b⟩ hy hi him ⟨hM,hv,hid⟩ IH;dsimp only at*;have x0:=hM.out.x0;have hfl:(B9 i).length=i:=by simp[B9]
    have hfs:=AA.mk (mM i);have hfm:=freeN;have w1:IntKind.i64.wrap ((i:Int)+1)=(i:Int)+1:=wrap_id (by omega) (by omega);replace hV:=AA.mk hV;rcases hv.out with⟨rfl,hz⟩|⟨S,xs,rfl,gS⟩
    .have hz2:=F5.1 hz;have hi0:i=0:=by rw[hz2]at hfl;exact hfl.symm
     subst hi0;clear hz;replace hfl:=AA.mk hfl;replace hz2:=AA.mk hz2;have h00:(0:Int)<p.free.length:=by omega
     refine aw ?_;refine IH.out ((_,_),b+11) ⟨⟨hM.out.mono hV.out fun j hj=>?_⟩,⟨BR [] rfl ?_⟩,⟨fun j hj=>?_⟩⟩
     .have q1:=hj (b+26) (by omega);have q2:=hj (b+27) (by omega);simp only[go_sem,q1,q2,AM]
     .rw[hfs.out,hz2.out];simp only[go_sem]
     .simp only[AF,As]at hj;exact⟨b+27,by omega,by dsimp only;omega,hj⟩
    .obtain⟨n,n1,n2,rfl⟩:=hid.out S (by simp[AF]);rw[BI,hfl];have n3: ¬b+26=n:=by omega
     have n4: ¬n=b+26:=by omega
     have n5: ¬b+27=n:=by omega
     have n6: ¬n=b+27:=by omega
     have tk:List.take i ((B9 i).map AN)=(B9 i).map AN:=CS (by rw[BI];omega);have tk2: ∀l:List (List Aa),List.take i ((B9 i).map AN++l)=(B9 i).map AN:=fun l=>by rw[IN (by rw[BI];omega),tk]
     have dr: ∀(x:List Aa) (l:List (List Aa)),List.drop (i+1) ((B9 i).map AN++x::l)=l:=fun x l=>by
      rw[List.drop_append,Lm (by rw[BI];omega),BI,hfl,show i+1-i=1 by omega];rfl
     rcases xs with _|⟨x,xs⟩
     .refine aw ?_;refine IH.out ((_,_),b+11) ⟨⟨hM.out.mono hV.out fun j hj=>?_⟩,⟨BR [] (by simp[B9]) ?_⟩,⟨fun j hj=>?_⟩⟩
      .have q1:=hj (b+26) (by omega);have q2:=hj (b+27) (by omega);have q3:=hj n (by omega);simp only[go_sem,q1,q2,q3,AM]
      .rw[hfs.out,D1];simp only[go_sem,tk,tk2,dr]
      .simp only[AF,As]at hj;exact⟨b+27,by omega,by dsimp only;omega,hj⟩
     .refine aw ?_;refine IH.out ((_,_),b+11) ⟨⟨hM.out.mono hV.out fun j hj=>?_⟩,⟨BR xs (by simp[B9]) ?_⟩,⟨fun j hj=>?_⟩⟩
      .have q1:=hj (b+26) (by omega);have q3:=hj n (by omega);simp only[go_sem,q1,q3,AM]
      .rw[hfs.out,D1];simp only[go_sem,tk,tk2,dr]
      .simp only[AF,As]at hj;exact⟨n,by omega,by dsimp only;omega,hj⟩
   .clear hM G;rintro i ⟨⟨G,v⟩,b⟩ hi him ⟨hM,hv,hid⟩;dsimp only at*;have x0:=hM.out.x0;have hfl:(B9 i).length=i:=by simp[B9]
    replace hV:=AA.mk hV;rcases hv.out with⟨rfl,hz⟩|⟨S,xs,rfl,gS⟩
    .have hz2:=AA.mk (F5.1 hz);clear hz;replace hfl:=AA.mk hfl;refine aw ?_;have hM3:=hM.out;replace hM:=AA.mk hM;rw[show(List.nil:List (List Aa))=(B9 i).map AN by rw[hz2.out];rfl];refine AZ (Rb hF.out 401 _ [b+25] [0,0,6] V ⟨DJ,[],0⟩ ⟨p.main,0,B9 i⟩ hM3.rep (fun j hj=>?_) (QB _ _) ?_ (by dsimp only;omega) (by dsimp only;omega) (by dsimp only;omega) (by simp)) (fun o1 g1 p1=>?_)
     .obtain⟨n,h1,h2,_⟩:=hV.out j hj;cases hx:Id.under [b+25] j with
      |false=>rfl
      |true=>have:=Bl (π:=[]) h2 hx;omega
     .rw[hi.out];exact P9 hF.out
     have hdo:GD p 401 ⟨p.main,0,B9 i⟩ ⟨DJ,[],0⟩=Jy p:=by rw[hi.out];rfl
     rw[hdo]at p1;replace hdo:=AA.mk hdo;cases hds:Jy p with
     |none=>
      rw[hds]at p1;obtain⟨rfl,p2⟩:=p1;have n01:[0,1] ∉V.ids [0,0,6]:=fun hh=>by obtain⟨n,_,_,q,_⟩:=hV.out _ hh;exact q rfl
      have n03:[0,3] ∉V.ids [0,0,6]:=fun hh=>by obtain⟨n,_,_,_,q⟩:=hV.out _ hh;exact q rfl
      have q01:=((AU [b+25] g1 [0,1] (Ag [] (by omega))).trans (p2 _ n01 (Ag [] (by omega)))).trans hM3.x1;have q03:=((AU [b+25] g1 [0,3] (Ag [] (by omega))).trans (p2 _ n03 (Ag [] (by omega)))).trans hM3.x3;replace p2:=AA.mk p2;replace hM3:=AA.mk hM3;clear hds
      (repeat' (first|simp only[go_sem, *,CL]|(refine sx ?_ ?_<;>intro hc)|refine sy (by omega) fun x hx hm=>?_|simp(disch:=first|assumption|omega) only[AK]))
      rfl
     |some st'=>
      have hds2:=hds;rw[hds]at p1;obtain⟨rfl,V2,hM4,hK⟩:=p1;have n01:[0,1] ∉V.ids [0,0,6]:=fun hh=>by obtain⟨n,_,_,q,_⟩:=hV.out _ hh;exact q rfl
      have n03:[0,3] ∉V.ids [0,0,6]:=fun hh=>by obtain⟨n,_,_,_,q⟩:=hV.out _ hh;exact q rfl
      have q01:=((AU [b+25] g1 [0,1] (Ag [] (by omega))).trans (hK.frame _ n01 (Ag [] (by omega)))).trans hM3.x1;have q03:=((AU [b+25] g1 [0,3] (Ag [] (by omega))).trans (hK.frame _ n03 (Ag [] (by omega)))).trans hM3.x3;have hW: ∀j∈V2.ids [0,0,6],¬j=[0,1]∧ ¬j=[0,3]:=fun j hj=>by
       rcases hK.ids j hj with q|⟨_,l,rfl⟩
       .obtain⟨_,_,_,q⟩:=hV.out j q;exact q
       .exact⟨by simp,by simp⟩
      have hM5:Dw p st.ci (gc [b+25] g1) [0,0,6] V2 st':=Ba hM4 fun j hj=>by
       rcases hK.ids j hj with q|⟨_,l,rfl⟩
       .obtain⟨n,h1,h2,_⟩:=hV.out j q;refine AU _ _ _ ?_;cases hx:Id.under [b+25] j with
        |false=>rfl
        |true=>have:=Bl (π:=[]) h2 hx;omega
       .exact EY _ _ _
      have gm:=hM5.box;simp only[Au]at gm;obtain⟨c0,d0⟩:=DS (hM5.sl 0 (by omega));obtain⟨c1,d1⟩:=DS (hM5.sl 1 (by omega));obtain⟨c2,d2⟩:=DS (hM5.sl 2 (by omega));obtain⟨c3,d3⟩:=DS (hM5.sl 3 (by omega));obtain⟨c4,d4⟩:=Ou hM5.arr;replace hM3:=AA.mk hM3;replace hM4:=AA.mk hM4;replace hM5:=AA.mk hM5;replace hK:=AA.mk hK;replace hW:=AA.mk hW;replace hds2:=AA.mk hds2;refine aw ?_;refine j4 (s:=st'.em) (ev:=st'.ev) (w:=st'.work) (Ba hM5.out fun j hj=>?_);rw[get_put,AE (fun e=>(hW.out j hj).2 e.symm),get_put,AE (fun e=>(hW.out j hj).1 e.symm)];rfl
    .obtain⟨n,n1,n2,rfl⟩:=hid.out S (by simp[AF]);rw[BI,hfl];have tk2: ∀l:List (List Aa),List.take i ((B9 i).map AN++l)=(B9 i).map AN:=fun l=>by rw[IN (by rw[BI];omega),CS (by rw[BI];omega)]
     refine aw ?_;have hM3:Px p st.ci V (G.put [1,n] (Obj.i5 2 ((B9 i).map AN++xs))):=hM.out.mono hV.out fun j hj=>by
      rw[get_put,hj n (by omega)];rfl
     replace hM:=AA.mk hM;refine AZ (Rb hF.out 401 _ [b+25] [0,0,6] V ⟨DJ,[],0⟩ ⟨p.main,0,B9 i⟩ hM3.rep (fun j hj=>?_) (QB _ _) ?_ (by dsimp only;omega) (by dsimp only;omega) (by dsimp only;omega) (by simp)) (fun o1 g1 p1=>?_)
     .obtain⟨n,h1,h2,_⟩:=hV.out j hj;cases hx:Id.under [b+25] j with
      |false=>rfl
      |true=>have:=Bl (π:=[]) h2 hx;omega
     .rw[hi.out];exact P9 hF.out
     have hdo:GD p 401 ⟨p.main,0,B9 i⟩ ⟨DJ,[],0⟩=Jy p:=by rw[hi.out];rfl
     rw[hdo]at p1;replace hdo:=AA.mk hdo;cases hds:Jy p with
     |none=>
      rw[hds]at p1;obtain⟨rfl,p2⟩:=p1;have n01:[0,1] ∉V.ids [0,0,6]:=fun hh=>by obtain⟨n,_,_,q,_⟩:=hV.out _ hh;exact q rfl
      have n03:[0,3] ∉V.ids [0,0,6]:=fun hh=>by obtain⟨n,_,_,_,q⟩:=hV.out _ hh;exact q rfl
      have q01:=((AU [b+25] g1 [0,1] (Ag [] (by omega))).trans (p2 _ n01 (Ag [] (by omega)))).trans hM3.x1;have q03:=((AU [b+25] g1 [0,3] (Ag [] (by omega))).trans (p2 _ n03 (Ag [] (by omega)))).trans hM3.x3;replace p2:=AA.mk p2;replace hM3:=AA.mk hM3;clear hds
      (repeat' (first|simp only[go_sem, *,CL]|(refine sx ?_ ?_<;>intro hc)|refine sy (by omega) fun x hx hm=>?_|simp(disch:=first|assumption|omega) only[AK]))
      rfl
     |some st'=>
      have hds2:=hds;rw[hds]at p1;obtain⟨rfl,V2,hM4,hK⟩:=p1;have n01:[0,1] ∉V.ids [0,0,6]:=fun hh=>by obtain⟨n,_,_,q,_⟩:=hV.out _ hh;exact q rfl
      have n03:[0,3] ∉V.ids [0,0,6]:=fun hh=>by obtain⟨n,_,_,_,q⟩:=hV.out _ hh;exact q rfl
      have q01:=((AU [b+25] g1 [0,1] (Ag [] (by omega))).trans (hK.frame _ n01 (Ag [] (by omega)))).trans hM3.x1;have q03:=((AU [b+25] g1 [0,3] (Ag [] (by omega))).trans (hK.frame _ n03 (Ag [] (by omega)))).trans hM3.x3;have hW: ∀j∈V2.ids [0,0,6],¬j=[0,1]∧ ¬j=[0,3]:=fun j hj=>by
       rcases hK.ids j hj with q|⟨_,l,rfl⟩
       .obtain⟨_,_,_,q⟩:=hV.out j q;exact q
       .exact⟨by simp,by simp⟩
      have hM5:Dw p st.ci (gc [b+25] g1) [0,0,6] V2 st':=Ba hM4 fun j hj=>by
       rcases hK.ids j hj with q|⟨_,l,rfl⟩
       .obtain⟨n,h1,h2,_⟩:=hV.out j q;refine AU _ _ _ ?_;cases hx:Id.under [b+25] j with
        |false=>rfl
        |true=>have:=Bl (π:=[]) h2 hx;omega
       .exact EY _ _ _
      have gm:=hM5.box;simp only[Au]at gm;obtain⟨c0,d0⟩:=DS (hM5.sl 0 (by omega));obtain⟨c1,d1⟩:=DS (hM5.sl 1 (by omega));obtain⟨c2,d2⟩:=DS (hM5.sl 2 (by omega));obtain⟨c3,d3⟩:=DS (hM5.sl 3 (by omega));obtain⟨c4,d4⟩:=Ou hM5.arr;replace hM3:=AA.mk hM3;replace hM4:=AA.mk hM4;replace hM5:=AA.mk hM5;replace hK:=AA.mk hK;replace hW:=AA.mk hW;replace hds2:=AA.mk hds2;refine aw ?_;refine j4 (s:=st'.em) (ev:=st'.ev) (w:=st'.work) (Ba hM5.out fun j hj=>?_);rw[get_put,AE (fun e=>(hW.out j hj).2 e.symm),get_put,AE (fun e=>(hW.out j hj).1 e.symm)];rfl
theorem s8(l:List Cc)(x:Cc)(hl:l.length≤3000000)(hp: ∀y∈l,y.it.length≤1000000):BB (KL Tryz.prog cfg) 33 [.d (.be (l.map Ei)),OW x] []=.ok (.ret (.d (.bool (decide (x∈l)))),[]):=by
 have hs:=fun y (hy:y∈l)=>YB y x (hp y hy);replace hs:=AA.mk hs;replace hp:=AA.mk hp
 (refine Ae rfl Tryz.func33 rfl rfl rfl ?_;show Wp _ _ _ _ (Tryz.f33.body.get rfl) _ _;simp only[Tryz.f33,AS])
 (repeat' (first|simp only[go_sem, *]|(refine sx ?_ ?_<;>intro hc)|refine sy (by omega) fun x hx hm=>?_|simp(disch:=first|assumption|omega) only[AK]))
 refine Ah l (S:=fun j (_:Unit)=>⟨[(0,.d (.be (l.map Ei))),(3,.ptr [0,0] 0),(5,.d (.int .i64 (j)))],[([0,0],.box [.d (.int .i64 (x.wait)),.d (.int .i64 (x.group)),.d (.int .i64 (x.i9)),.d (.be (x.it.map AJ))])],1,[]⟩)
  (Inv:=fun j _ _=>AA (x∉l.take j)) (b0:=()) ⟨by simp⟩ ?_ ?_
 .rintro j y _ hy hj hjm hI IH;have h1:=hs.out y (Ac hy);have w1:IntKind.i64.wrap ((j:Int)+1)=(j:Int)+1:=wrap_id (by omega) (by omega);by_cases hxy:y=x
  .have hd:decide (x∈l)=true:=Ci (hxy▸Ac hy);rw[Ci hxy]at h1;rw[hd];replace hxy:=AA.mk hxy;replace hd:=AA.mk hd;exact au
  .have hn:AA (x∉l.take (j+1)):=⟨by rw[GC,hy];exact fun h=>(ES.1 h).elim (fun h=>hI.out h) fun h=>hxy (by simpa using(by simpa using h:x=y).symm)⟩;rw[By hxy]at h1;replace hxy:=AA.mk hxy
   (repeat' (first|simp only[go_sem, *]|(refine sx ?_ ?_<;>intro hc)|refine sy (by omega) fun x hx hm=>?_|simp(disch:=first|assumption|omega) only[AK]))
   exact IH.out () hn
 .rintro j _ hj hjm hI;have hd:decide (x∈l)=false:=By (by have:=hI.out;rwa [hj.out,EL]at this);rw[hd];exact au
end Go.Proofs
