/-
  Parts of it.
-/
import Derived.Test.YtbinfhpngacfgaaGreatSp10
import Derived.Test.YtbinfhpngacfgaaGreatSp11
set_option linter.all false
namespace Go.Proofs
open Go Go.Abs
set_option maxRecDepth 100000
set_option maxHeartbeats 4000000
def WE(ρ:List Nat)(i:Abs.Id):Prop:= ∃j l,i=1::j::l∧Id.under ρ l=true
def Kg(π:List Nat)(b:Nat)(i:Abs.Id):Prop:= ∃n,n<b∧WE (n::π) i
variable{ρ:List Nat}
theorem WE.up{i:Abs.Id}(h:WE ρ i):Id.under ρ i=true:=by
 obtain⟨j,l,rfl,h⟩:=h;obtain⟨t,rfl⟩:=under_iff.1 h;exact under_iff.2 ⟨1::j::t,rfl⟩
variable{π:List Nat}{n:Nat}
theorem WE.out{i:Abs.Id}(h:WE (n::π) i):WE π i:=by
 obtain⟨j,l,rfl,h⟩:=h;exact⟨j,l,rfl,BD h⟩
theorem WE.not{i:Abs.Id}(h:WE (n::π) i)(a m:Nat):Id.is (a::m::π) i=false:=AE fun e=>by
 obtain⟨j,l,rfl,h⟩:=h;obtain⟨t,rfl⟩:=under_iff.1 h;have:=congrArg List.length e;simp at this;omega
variable{m:Nat}
theorem WE.sib{i:Abs.Id}(h:WE (n::π) i)(hm: ¬n=m):Id.under (m::π) i=false:=by
 cases hx:Id.under (m::π) i with
 |false=>rfl
 |true=>exact absurd (B6 h.up hx) hm
variable{b:Nat}
theorem Kg.up{i:Abs.Id}(h:Kg π b i):WE π i:=by
 obtain⟨n,_,h⟩:=h;exact h.out
theorem Kg.not{i:Abs.Id}(h:Kg π b i)(a m:Nat):Id.is (a::m::π) i=false:=by
 obtain⟨n,_,h⟩:=h;exact h.not a m
theorem Kg.sib{i:Abs.Id}(h:Kg π b i)(hm:b≤m):Id.under (m::π) i=false:=by
 obtain⟨n,h1,h⟩:=h;exact h.sib (by omega)
theorem Kg.mono{c:Nat}{i:Abs.Id}(h:Kg π b i)(hc:b≤c):Kg π c i:=by
 obtain⟨n,h1,h⟩:=h;exact⟨n,by omega,h⟩
def uh{α:Type}(C:Abs.Id→Prop)(I:List α→(Abs.Id→Prop)→AB→Prop)(D:AZ→AB→Prop)(π ρ:List Nat)(l:List α)(M:Abs.Id→Prop)(vi:List Abs.Id)(H:AB)(o:AZ)(h':AB):Prop:=
 (o=.ret (.d (.bool (true)))∧ ∃M',I l M' h'∧(∀i,M' i→M i∨i∈vi∨WE ρ i)∧ ∀i,¬C i→ ¬M i→i∉vi→Id.under ρ i=false→h'.get i=H.get i)∨((o=.ret (.d (.bool (false)))∨ ∃v,o=.f9 v)∧D o h'∧ ∀j,Id.under π (0::j)=true→Id.under ρ (0::j)=false→h'.get (0::j)=H.get (0::j))
structure Kf{α:Type}(val:AB→AV→α→Prop)(id:Abs.Id)(C:Abs.Id→Prop)(I:List α→(Abs.Id→Prop)→AB→Prop)(D:AZ→AB→Prop)(π:List Nat):Prop where
 own:C id
 apart: ∀i,C i→Id.under π i=false
 tag: ∀{l:List α} {M:Abs.Id→Prop} {H:AB},I l M H→ ∀i,M i→ ∃l,i=1::l
 loop: ∀{l:List α} {M:Abs.Id→Prop} {H:AB},I l M H→ ∃r,H.get id=some (.loop r)
 eat: ∀{x:α} {l:List α} {M:Abs.Id→Prop} {H:AB} {ρ:List Nat} {v:AV} {r:Lp},I (x::l) M H→H.get id=some (.loop r)→val H v x→(∀i,Id.under π i=false→Id.under ρ i=false)→(∀i,M i→Id.under ρ i=false)→(∀i∈AD v,¬C i∧Id.under ρ i=false∧WE π i)→
  ∃o h',KL Tryz.prog cfg (.round id r) [v] H ρ true none=.ok (o,h')∧uh C I D π ρ l M (AD v) H o h'
 same: ∀{l:List α} {M:Abs.Id→Prop} {H H':AB},I l M H→(∀i,(Id.under π i=false∨M i)→H'.get i=H.get i)→I l M H'
 sameD: ∀{o:AZ} {H H':AB},D o H→(∀i,(Id.under π i=false∨ ∃l,i=1::l)→H'.get i=H.get i)→D o H'
def nf{α:Type}(C:Abs.Id→Prop)(I:List α→(Abs.Id→Prop)→AB→Prop)(D:AZ→AB→Prop)(π:List Nat)(M:Abs.Id→Prop)(h:AB)(o:AZ)(h':AB):Prop:=
 (o=.ret (.it [])∧ ∃M',I [] M' h'∧(∀i,M' i→M i∨WE π i)∧ ∀i,¬C i→ ¬M i→Id.under π i=false→h'.get i=h.get i)∨(o=.ret (.it [])∧D (.ret (.d (.bool (false)))) h')∨((∃v,o=.f9 v)∧D o h')
variable{α:Type}{val:AB→AV→α→Prop}{C:Abs.Id→Prop}{I:List α→(Abs.Id→Prop)→AB→Prop}{D:AZ→AB→Prop}{H:AB}
theorem Kf.gcI{id:Abs.Id}(hE:Kf val id C I D π){l:List α}{M:Abs.Id→Prop}(h:I l M H)(n:Nat):I l M (gc (n::π) H):=hE.same h fun i hi=>by
 rcases hi with hi|hi
 .exact Al _ _ _ (AF hi n)
 .obtain⟨l,rfl⟩:=hE.tag h i hi;exact FM _ _ _
theorem Kf.gcD{id:Abs.Id}(hE:Kf val id C I D π){o:AZ}(h:D o H)(n:Nat):D o (gc (n::π) H):=hE.sameD h fun i hi=>by
 rcases hi with hi|⟨l,rfl⟩
 .exact Al _ _ _ (AF hi n)
 .exact FM _ _ _
def nk(H:AB)(v:AV)(x:List Int):Prop:= ∃id,v=.f8 id 0 x.length∧H.get id=some (.d7 1 (x.map AL))∧ ∃l,id=1::l
structure AC7(C:Abs.Id→Prop)(I:List (List Int)→(Abs.Id→Prop)→AB→Prop)(π:List Nat)(M:Abs.Id→Prop)(h:AB)(A:Abs.Id)(many:List Nat)(c:List Int)(L:List (List Int))(a:List Int)(b:Nat)(g:AB):Prop where
 arr:g.get A=some (.d7 1 (a.map AL))
 dig:HT many c
 eat: ∃M',I L M' g∧ ∀i,M' i→M i∨Kg π b i
 frame: ∀i,¬C i→ ¬M i→Id.under π i=false→g.get i=h.get i
theorem tQ{c z:List Int}{j:Nat}(hj:j<c.length)(x:Int):(c.take (j+1)++z).set j x=c.take j++x::z:=by
 obtain⟨d,hd⟩:=get_some hj;have hl:(c.take j).length=j:=by rw[He];omega
 rw[Is,hd,D3,List.set_append,Ci (by omega),hl,LI];rfl
theorem Zu{many:List Nat}(h0:0<many.length)(hl:many.length≤1000)(hm: ∀n∈many,n≤1000000){id:Abs.Id}{C:Abs.Id→Prop}{I:List (List Int)→(Abs.Id→Prop)→AB→Prop}{D:AZ→AB→Prop}{π:List Nat}(hE:Kf nk id C I D π){M:Abs.Id→Prop}{h:AB}{B:Abs.Id}(hB:h.get B=some (.box [.d (.ce ((many.map fun(n:Nat)=>(n:Int)).map AL))]))(uB:Id.under π B=false)(nB: ¬C B)(mB: ¬M B)(hM: ∀i,M i→Id.under π i=false)(hI:I (DS many) M h):
 ∃o h',KL Tryz.prog cfg (.fn 158) [.v6 id,.ptr B 0] h π true none=.ok (o,h')∧nf C I D π M h o h':=by
 have uC:=hE.apart;have e1:=AG uB;have e2:=Av uB;have hmk:=zh (many.map fun(n:Nat)=>(n:Int)) (by simpa using h0) (by simp;omega);by_cases hz:0∈many
 .rw[(YE h0).2 hz]at hmk;rw[Ym hz]at hI
  (refine Af rfl Tryz.func158 rfl rfl rfl ?_;show Wp _ _ _ _ (Tryz.f158.body.get rfl) _ _;simp only[Tryz.f158,AS])
  refine aw ?_;exact .inl ⟨rfl,M,hI,fun i hi=>.inl hi,fun _ _ _ _=>rfl⟩
 .have hmz: ¬ku (many.map fun(n:Nat)=>(n:Int))=0:=fun e=>hz ((YE h0).1 e);replace hI:=AA.mk hI;replace hE:=AA.mk hE;replace uC:=AA.mk uC;replace hm:=AA.mk hm;replace hM:=AA.mk hM;replace mB:=AA.mk mB
  (refine Af rfl Tryz.func158 rfl rfl rfl ?_;show Wp _ _ _ _ (Tryz.f158.body.get rfl) _ _;simp only[Tryz.f158,AS])
  have hcl:=fun(l:List Int) (hl:l.length=many.length)=>pE l (by omega) (by omega);replace hcl:=AA.mk hcl
  (repeat' (first|simp only[go_sem, *]|(refine sx ?_ ?_<;>intro hc)|refine sy (by omega) fun x hx hm=>?_|simp(disch:=first|assumption|omega) only[AN,Jt]))
  refine rounds (S:=fun(a:(List Int×AB)×Nat)=>⟨[(0,.v6 id),(1,.ptr B 0),(3,.f8 (1::5::π) 0 many.length)],a.1.2,a.2+7,[]⟩)
   (Inv:=fun a=>AA (AC7 C I π M h (1::5::π) many a.1.1 (Ij many a.1.1) a.1.1 (a.2+7) a.1.2)) (m:=fun a=>(Ij many a.1.1).length) (a:=((Ek many.length,_),0)) ⟨?_⟩ ?_
  .refine⟨?_,Ku hz,⟨M,?_,fun i hi=>.inl hi⟩,fun i q1 _ q2=>?_⟩
   .show(h.put (1::5::π) _).get (1::5::π)=_;rw[get_put,is_self];rfl
   .rw[Ox hz];exact hE.out.same hI.out fun i hi=>by rw[get_put,AG (hi.elim (fun h=>h) (hM.out i)) 1 5];rfl
   .show(h.put (1::5::π) _).get i=_;rw[get_put,AG q2 1 5];rfl
  .rintro⟨⟨c,g⟩,b⟩ hI2 IH;dsimp only at*;have gA:=hI2.out.arr;have hcl:=hcl.out c (hI2.out.dig.len);have hcl0:=hI2.out.dig.len;have gB:g.get B=_:=(hI2.out.frame B nB mB.out uB).trans hB;obtain⟨M1,hI1,hM1⟩:=hI2.out.eat;have n1: ∀i,¬M i→Id.under π i=false→ ¬M1 i:=fun i q1 q2 q3=>by
    rcases hM1 i q3 with q|q
    .exact q1 q
    .rw[q.up.up]at q2;cases q2
   have nX: ∀m,b+7≤m→ ∀i,M1 i→Id.under (m::π) i=false:=fun m h i hi=>(hM1 i hi).elim (fun q=>AF (hM.out i q) m) fun q=>q.sib h;have nA: ∀i,M1 i→Id.is (1::5::π) i=false:=fun i hi=>(hM1 i hi).elim (fun q=>AG (hM.out i q) 1 5) fun q=>q.not 1 5;have fa:=XN c;have tk:List.take many.length (c.map AL)=c.map AL:=DL (by simp;omega);have ui:=uC.out id hE.out.own;have i1:=AG ui;have i2:Id.is (1::5::(b+9)::π) id=false:=AG (AF ui (b+9)) 1 5;obtain⟨r,hr⟩:=hE.out.loop hI1;obtain⟨rest,hrest⟩: ∃t,t=Yz many (JK many c):=⟨_,rfl⟩;obtain⟨rn1,rn2⟩:=mc hI2.out.dig hz;rw[←hrest]at rn1;have hsm:=AA.mk fun l=>hE.out.same (l:=l) (M:=M1) (H:=g) (H':=(1::5::(b+9)::π,.d7 1 (c.map AL))::g);have hi3:=hI1;rw[rn1]at hi3;replace hi3:=AA.mk hi3;replace hI1:=AA.mk hI1;replace hM1:=AA.mk hM1;replace n1:=AA.mk n1;replace nX:=AA.mk nX;replace nA:=AA.mk nA;replace rn1:=AA.mk rn1;replace rn2:=AA.mk rn2;replace hrest:=AA.mk hrest;refine ax ?_;refine AY (hE.out.eat (x:=c) (l:=rest) (hsm.out _ hi3.out fun i hi=>?_) (by simp only[go_sem,i2,hr,AM]) ⟨_,by rw[hcl0],by simp only[go_sem],_,rfl⟩ (fun i hi=>AF hi _) (nX.out _ (by omega)) (fun i hi=>?_)) (fun o1 g1 p1=>?_)
   .have q:=AG (hi.elim (fun h=>AF h (b+9)) (nX.out _ (by omega) i)) 1 5;simp only[go_sem,q,AM]
   .simp only[AD,As]at hi;subst hi;exact⟨fun hc=>(by have:=uC.out _ hc;rw[show Id.under π (1::5::(b+9)::π)=true from Ab [1,5,b+9]]at this;cases this),Iv _ _ _ _ _ (by omega),5,(b+9)::π,rfl,Ab [b+9]⟩
   rcases p1 with⟨rfl,M2,p1,m2,p2⟩|⟨p0,p1,_⟩
   .have m3: ∀i,M2 i→M i∨Kg π (b+11) i:=fun i hi=>by
     rcases m2 i hi with q|q|q
     .exact(hM1.out i q).imp_right fun q=>q.mono (by omega)
     .simp only[AD,As]at q;subst q;exact .inr ⟨b+9,by omega,5,_,rfl,Ab []⟩
     .exact .inr ⟨b+10,by omega,q⟩
    have nA2: ∀i,M2 i→Id.is (1::5::π) i=false:=fun i hi=>(m3 i hi).elim (fun q=>AG (hM.out i q) 1 5) fun q=>q.not 1 5;have mA: ¬M1 (1::5::π):=fun h=>by have:=nA.out _ h;rw[is_self]at this;cases this
    have mB1:=n1.out B mB.out uB;have fr: ∀i,¬C i→ ¬M1 i→Id.under ((b+10)::π) i=false→Id.is (1::5::(b+9)::π) i=false→(gc ((b+10)::π) g1).get i=g.get i:=fun i q1 q0 q2 q3=>by
     rw[Al _ _ _ q2,p2 i q1 q0 (fun h=>by simp only[AD,As]at h;rw[h,is_self]at q3;cases q3) q2,BL,q3];rfl
    have gB2:=(fr B nB mB1 (AF uB _) (AG (AF uB (b+9)) 1 5)).trans gB;have gA2:=(fr (1::5::π) (fun hc=>by have:=uC.out _ hc;rw[show Id.under π (1::5::π)=true from Ab [1,5]]at this;cases this) mA (MB _ _ _ _ (by omega)) (AE (by simp))).trans gA;have frm:AA (∀i,¬C i→ ¬M i→Id.under π i=false→(gc ((b+10)::π) g1).get i=h.get i):=⟨fun i q1 q0 q2=>(fr i q1 (n1.out i q0 q2) (AF q2 _) (AG (AF q2 (b+9)) 1 5)).trans (hI2.out.frame i q1 q0 q2)⟩;clear p2 fr m2 mA mB1;replace m3:=AA.mk m3;replace nA2:=AA.mk nA2;replace p1:=AA.mk (hE.out.gcI p1 (b+10));refine ax ?_;have hdg:=AA.mk hI2.out.dig;replace hI2:=AA.mk hI2;refine rounds (S:=fun(a:(Nat×AB)×Nat)=>⟨[(0,.v6 id),(1,.ptr B 0),(3,.f8 (1::5::π) 0 many.length),(4,.d (.int .i64 ((a.1.1:Int)-1)))],a.1.2,b+a.2+16,[]⟩)
     (Inv:=fun a=>a.1.1≤many.length∧AA (eH many c a.1.1)∧a.1.2.get (1::5::π)=some (.d7 1 ((c.take a.1.1++Ek (many.length-a.1.1)).map AL))∧a.1.2.get B=some (.box [.d (.ce ((many.map fun(n:Nat)=>(n:Int)).map AL))])∧AA (I rest M2 a.1.2∧ ∀i,¬C i→ ¬M i→Id.under π i=false→a.1.2.get i=h.get i)) (m:=fun a=>a.1.1) (a:=((many.length,_),0)) ⟨D6 _,⟨fun t h1 h2=>absurd h2 (Nat.not_lt.2 h1)⟩,?_,gB2,⟨p1.out,frm.out⟩⟩ ?_
    .show(gc ((b+10)::π) g1).get (1::5::π)=some (.d7 1 ((c.take many.length++Ek (many.length-many.length)).map AL));rw[gA2,LI,Ek,List.replicate_zero,CS,DL (by omega)]
    clear gA2 gB2 p1 frm gA gB hr hcl;rintro⟨⟨j,g2⟩,b2⟩ ⟨hj,hend,gA,gB,hI3⟩ IH2;dsimp only at*;rcases j with _|j
    .have hr0:AA (rest=[]):=⟨by rw[hrest.out,UA hdg.out hend.out];rfl⟩;refine ax ?_;all_goals first
     |omega
     |exact .inl ⟨rfl,M2,by have:=hI3.out.1;rwa [hr0.out]at this,fun i hi=>(m3.out i hi).imp_right fun q=>q.up,hI3.out.2⟩
    .obtain⟨d,hd⟩:=get_some (l:=c) (i:=j) (by omega);obtain⟨n,hn⟩:=get_some (l:=many) (i:=j) (by omega);obtain⟨a,ha⟩: ∃a,a=c.take (j+1)++Ek (many.length-(j+1)):=⟨_,rfl⟩;have al:a.length=many.length:=by rw[ha,CE,He,Ek,Lc];omega
     have ad:a[j]? =some d:=by rw[ha,Be (by rw[He];omega),Io,D1 (by omega),hd]
     rw[←ha]at gA;have ek:(((j+1:Nat):Int)-1)=j:=by omega
     have hmn:(many.map fun(n:Nat)=>(n:Int))[j]? =some (n:Int):=by rw[Cs,hn];rfl
     have hnm:=hm.out n (Ac hn);have w1:IntKind.i64.wrap ((n:Int)-1)=(n:Int)-1:=wrap_id (by omega) (by omega);have jl:j<many.length:=by omega
     have j0: ¬(j:Int)<0:=by omega
     replace ha:=AA.mk ha;rw[ek];have put: ∀o,AA (I rest M2 (g2.put (1::5::π) o)∧(g2.put (1::5::π) o).get B=some (.box [.d (.ce ((many.map fun(n:Nat)=>(n:Int)).map AL))])∧ ∀i,¬C i→ ¬M i→Id.under π i=false→(g2.put (1::5::π) o).get i=h.get i):=fun o=>⟨hE.out.same hI3.out.1 (fun i hi=>by rw[get_put,hi.elim (fun h=>AG h 1 5) (nA2.out i)];rfl),by rw[get_put,e1];exact gB,fun i q1 q0 q2=>by rw[get_put,AG q2 1 5];exact hI3.out.2 i q1 q0 q2⟩;have hdg0:=hdg.out;by_cases hdn:d=(n:Int)-1
     .have hset: ∀x:Int,(a.map AL).set j [.int .i64 x]=(c.take j++x::Ek (many.length-(j+1))).map AL:=fun x=>by
       rw[←tQ (by omega),←ha.out,NO];rfl
      replace hset:=AA.mk hset;replace put:=AA.mk put;replace hdg0:=AA.mk hdg0;refine ax ?_;rw[hset.out];refine IH2.out ((j,_),b2+21) (by simp) ⟨by dsimp only;omega,⟨fun t h1 h2=>?_⟩,?_,(put.out _).out.2.1,⟨(put.out _).out.1,(put.out _).out.2.2⟩⟩
      .by_cases htj:t=j
       .subst htj;exact⟨d,n,hd,hn,hdn⟩
       .exact hend.out t (by dsimp only at h1;omega) h2
      .show(g2.put (1::5::π) _).get (1::5::π)=some (.d7 1 ((c.take j++Ek (many.length-j)).map AL));rw[get_put,is_self,show many.length-j=(many.length-(j+1))+1 by omega];rfl
     .have hns:=lF hdg0 hend.out hd hn hdn;have hset: ∀x:Int,(a.map AL).set j [.int .i64 x]=(c.take j++x::Ek (many.length-(j+1))).map AL:=fun x=>by
       rw[←tQ (by omega),←ha.out,NO];rfl
      have w2:IntKind.i64.wrap (d+1)=d+1:=by
       have:=pT hdg0 hd hn;exact wrap_id (by omega) (by omega)
      obtain⟨c',hc'⟩: ∃t,t=c.take j++(d+1)::Ek (many.length-(j+1)):=⟨_,rfl⟩;rw[←hc']at hns;have hre:AA (rest=Ij many c'):=⟨by rw[hrest.out,hns];rfl⟩;have hdc:=AA.mk (rn2.out c' hns);replace hset:=AA.mk hset;replace put:=AA.mk put;replace hdg0:=AA.mk hdg0;replace hns:=AA.mk hns;replace hc':=AA.mk hc';refine ax ?_;rw[hset.out,←hc'.out];refine IH.out ((c',_),b+b2+32) ?_ ⟨?_,hdc.out,⟨M2,by rw[←hre.out];exact(put.out _).out.1,fun i hi=>(m3.out i hi).imp_right fun q=>q.mono (by dsimp only;omega)⟩,(put.out _).out.2.2⟩
      .dsimp only;rw[rn1.out,←hre.out];simp
      .dsimp only;rw[get_put,is_self];rfl
   .replace p1:=AA.mk (hE.out.gcD p1 (b+10));rcases p0 with rfl|⟨v,rfl⟩
    .refine ax ?_;exact .inr (.inl ⟨rfl,p1.out⟩)
    .refine ax ?_;exact .inr (.inr ⟨⟨v,rfl⟩,p1.out⟩)
variable{p:AI}{s:A9}{w:Fk}{x:CR}
theorem wg(hx:p.nodes[w.node.toNat]? =some x):pm p s w=if x.op=7 then true else if (Hb w.env x.n).kind=4 then(if x.op=8 then AX s.ac (Hb w.env x.n).n else decide (w.at_≠0)&&(!AX s.ac (Hb w.env x.n).n&& !Cc s.ac (Hb w.env x.n).n w.at_))else false:=by
 rw[pm,hx]
variable{sz:List Int}
theorem qY{h:AB}{m:Abs.Id}{V:MV}{st:B7}(hM:Dt p sz h m V st)(hu:Bn ρ V m)(hs:FB p sz st.d9)(hw:QE p sz st.d9 w x):
 ∃o h',KL Tryz.prog cfg (.fn 93) [.ptr m 0,.agg [.d (.int .i64 (w.at_)),.d (.int .i64 (w.node)),.d (.ce (w.env.map AJ))]] h ρ true (some ρ)=.ok (o,h')∧o=.ret (.d (.bool (pm p st.d9 w))):=by
 have hm:=hM.box;simp only[Ah]at hm;have um:=hu m (V.m_mem m);have e1:=AG um;have e2:=Av um;have hx:=hw.node;have hn:=hw.n0;have hxl:=AH hx;rw[wg hx];by_cases ho:x.op=7
 ·(refine Af rfl Tryz.func93 rfl rfl rfl ?_;show Wp _ _ _ _ (Tryz.f93.body.get rfl) _ _;simp only[Tryz.f93,AS])
  exact au
 obtain⟨v,hv,hvn,hk⟩:=hw.val ho;have⟨n0,n1⟩:=hw.n ho;rw[hvn];by_cases h4:v.kind=4
 .obtain⟨hr,y,hy,hyd⟩:=hk h4;obtain⟨r0,r1⟩:=hr;have hss:=hs.small;simp only[A9.small,AP,Ap]at hss;obtain⟨w0,w1⟩:=hw.at_;have hin:=Ub st.d9.ac v.n w.at_ (by omega) hs.tree ⟨r0,r1⟩ w0
  obtain⟨S,xs,hS,gS,xS,lS,lS2⟩:=Il (hM.sl 0 (by omega)) hy;have uS:=hu S (V.s_mem m (i:=0) (by omega) (by rw[hS];simp[AD]));have a3:=AG uS;have a4:=Av uS;rw[hS]at hm;simp only[Ff]at gS;replace hM:=AA.mk hM;replace hu:=AA.mk hu;by_cases ho8:x.op=8;all_goals
   rw[hyd];clear hk
   (refine Af rfl Tryz.func93 rfl rfl rfl ?_;show Wp _ _ _ _ (Tryz.f93.body.get rfl) _ _;simp only[Tryz.f93,AS])
   (repeat' (first|simp only[go_sem, *,AM]|(refine sx ?_ ?_<;>intro hc)|refine sy (by omega) fun x hx hm=>?_|simp(disch:=first|assumption|omega) only[AN]))
   all_goals first|done|simp[*]
 .clear hk
  (refine Af rfl Tryz.func93 rfl rfl rfl ?_;show Wp _ _ _ _ (Tryz.f93.body.get rfl) _ _;simp only[Tryz.f93,AS])
  exact au
theorem Ll{i:Nat}{g:Ak}{d:CF}(hF:BC p sz)(h:MH p sz s i g d):g.env.length≤10000:=by
 have hf:=B3 hF (GD h.ge).2;obtain⟨_,_,v,_,_,_,_,h0,h1,h2,_⟩:=hf.node;have:=h.len;rw[h2,F4]at this;have:=hf.ok.be;have:=hf.ok.ac;unfold CF.own at*;omega
end Go.Proofs
namespace Go.Abs
def O8(ds:List Df):Prop:= ∀d∈ds,∃id,d=.mark id
theorem Tr:O8 []=True:=by simp[O8]
theorem RN(id:Id)(ds:List Df):O8 (.mark id::ds)=O8 ds:=by simp[O8]
theorem PO{C:B9}{bi:Option (List Nat)}{p:Option AV}{h:AB}: ∀{ds:List Df},O8 ds→Cl C bi ds p h=.ok (p,h)
 |[],_=>rfl
 |d::ds,hd=>by
  obtain⟨id,rfl⟩:=hd d (by simp);rw[RH];exact PO fun d hd2=>hd d (by simp[hd2])
attribute [go_sem] Tr RN PO
theorem gL(id:Id):(AV.v6 id).cells=[.v6 id]:=rfl
theorem o8(id:Id):AV.isCell (.v6 id)=true:=rfl
attribute [go_sem] gL o8
end Go.Abs
namespace Go.Proofs
open Go Go.Abs
set_option maxRecDepth 100000
set_option maxHeartbeats 4000000
def oC(H:AB)(v:AV)(x:FU):Prop:= ∃pv,v=.agg [.d (.int .i64 (x.wait)),.d (.int .i64 (x.group)),.d (.int .i64 (x.wd)),pv]∧((pv=.co∧x.picks=[])∨nk H pv x.picks)
def Nt(π:List Nat)(i:Abs.Id):Prop:= ∀a n,Id.is (a::n::π) i=false
def Fd{α:Type}(I:List α→(Abs.Id→Prop)→AB→Prop)(π:List Nat)(M:Abs.Id→Prop)(b:Nat)(L:List α)(g:AB):Prop:= ∃M',I L M' g∧ ∀i,M' i→M i∨Kg π b i
section
variable{α:Type}{val:AB→AV→α→Prop}{id:Abs.Id}{C M M':Abs.Id→Prop}{I:List α→(Abs.Id→Prop)→AB→Prop}{D:AZ→AB→Prop}{π:List Nat}{b b':Nat}{L:List α}{g G:AB}
theorem WE.wide{ρ:List Nat}{i:Abs.Id}(hρ: ∀i,Id.under π i=false→Id.under ρ i=false)(h:WE ρ i):WE π i:=by
 obtain⟨j,l,rfl,h⟩:=h;refine⟨j,l,rfl,?_⟩;cases hx:Id.under π l with
 |true=>rfl
 |false=>rw[hρ l hx]at h;cases h
theorem Vd(hM: ∀i,M i→Id.under π i=false)(h: ∀i,M' i→M i∨Kg π b i)(i:Abs.Id)(hi:Id.under π i=false∨M' i):Nt π i:=by
 rcases hi with hi|hi
 .exact AG hi
 .rcases h i hi with q|q
  .exact AG (hM i q)
  .exact q.not
theorem sM(h: ∀i,M' i→M i∨Kg π b i)(i:Abs.Id)(q0: ¬M i)(q2:Id.under π i=false): ¬M' i:=fun q3=>by
 rcases h i q3 with q|q
 .exact q0 q
 .rw[q.up.up]at q2;cases q2
theorem S0(hM: ∀i,M i→Id.under π i=false)(h: ∀i,M' i→M i∨Kg π b i){m:Nat}(hm:b≤m)(i:Abs.Id)(hi:M' i):Id.under (m::π) i=false:=(h i hi).elim (fun q=>AF (hM i q) m) fun q=>q.sib hm
theorem Fd.mv(hE:Kf val id C I D π)(hM: ∀i,M i→Id.under π i=false)(h:Fd I π M b L g)(hl: ∀i,Nt π i→G.get i=g.get i)(hb:b≤b'):Fd I π M b' L G:=by
 obtain⟨M',h1,h2⟩:=h;exact⟨M',hE.same h1 fun i hi=>hl i (Vd hM h2 i hi),fun i hi=>(h2 i hi).imp_right fun q=>q.mono hb⟩
theorem Fd.gc(hE:Kf val id C I D π)(h:Fd I π M b L g)(n:Nat):Fd I π M b L (gc (n::π) g):=by
 obtain⟨M',h1,h2⟩:=h;exact⟨M',hE.gcI h1 n,h2⟩
end
structure StepsIn(C M:Abs.Id→Prop)(π:List Nat)(h:AB)(id:Abs.Id)(E:AB→Prop)(g:AB):Prop where
 box:g.get (0::0::π)=some (.box [.v6 id])
 eat:E g
 frame: ∀i,¬C i→ ¬M i→Id.under π i=false→g.get i=h.get i
structure Uj(C M:Abs.Id→Prop)(π:List Nat)(h:AB)(id:Abs.Id)(b c:Nat)(i k:Int)(gr:Ak)(E:AB→Prop)(g:AB):Prop where
 st:StepsIn C M π h id E g
 x6:g.get (0::(b+20)::π)=some (.box [.d (.int .i64 (i))])
 x7:g.get (0::(b+21)::π)=some (.box [.d (.int .i64 (gr.ge)),.d (.int .i64 (gr.at_)),.d (.ce (gr.env.map AJ))])
 x8:g.get (0::(c+40)::π)=some (.box [.d (.int .i64 (k))])
variable{C M:Abs.Id→Prop}{π:List Nat}{h g H:AB}{b:Nat}{gr:Ak}
theorem Uj.loc{I:List FU→(Abs.Id→Prop)→AB→Prop}{D:AZ→AB→Prop}{id:Abs.Id}(hE:Kf oC id C I D π)(hM: ∀i,M i→Id.under π i=false){c B:Nat}{i k:Int}{L:List FU}(hJ:Uj C M π h id b c i k gr (Fd I π M B L) g)(hl: ∀x,(∀n,Id.is (1::n::π) x=false)→H.get x=g.get x):Uj C M π h id b c i k gr (Fd I π M B L) H:=by
 have h0: ∀l,H.get (0::l)=g.get (0::l):=fun l=>hl _ fun n=>AE (by simp);exact⟨⟨(h0 _).trans hJ.st.box,hJ.st.eat.mv hE hM (fun i hi=>hl i fun n=>hi 1 n) (D6 _),fun i q1 q0 q2=>(hl i fun n=>AG q2 1 n).trans (hJ.st.frame i q1 q0 q2)⟩,(h0 _).trans hJ.x6,(h0 _).trans hJ.x7,(h0 _).trans hJ.x8⟩
theorem Uj.mv{id:Abs.Id}{c:Nat}{i k:Int}{E E':AB→Prop}(hJ:Uj C M π h id b c i k gr E g)(hI:E' H)(hb: ∀n,n=0∨n=b+20∨n=b+21∨n=c+40→H.get (0::n::π)=g.get (0::n::π))(hf: ∀i,¬C i→ ¬M i→Id.under π i=false→H.get i=g.get i):Uj C M π h id b c i k gr E' H:=
 ⟨⟨(hb _ (by simp)).trans hJ.st.box,hI,fun i q1 q0 q2=>(hf i q1 q0 q2).trans (hJ.st.frame i q1 q0 q2)⟩,(hb _ (by simp)).trans hJ.x6,(hb _ (by simp)).trans hJ.x7,(hb _ (by simp)).trans hJ.x8⟩
theorem kQ{K:AK}{bi:Option (List Nat)}{ρ ρ2:List Nat}{id2:Abs.Id}{e:BT}{bs:Nat}{ds:List Df}{Q:DW→St→Prop}{t:zl}{args:List AV}{x:Abs.Id×Abs.Obj}{r:Lp}(hn: ∀r',r'=r→Gk ρ ρ2 id2 e bs ds Q (K t args (x::H.put id2 (.loop r')) ρ2 true bi)):Gk ρ ρ2 id2 e bs ds Q (K t args (x::H.put id2 (.loop r)) ρ2 true bi):=hn r rfl
theorem W2(L:List Int)(k:Nat)(ρ:List Nat):BU (KL Tryz.prog cfg) 96 [.d (.ce (L.map AL))] (k::ρ)=.ok (.ret (.fn 158 [] [.ptr (0::0::k::ρ) 0]),[(0::0::k::ρ,.box [.d (.ce (L.map AL))])]):=by
 (refine Ao rfl Tryz.func96 rfl rfl rfl ?_;show Wp _ _ _ _ (Tryz.f96.body.get rfl) _ _;simp only[Tryz.f96,AS])
 exact au
theorem mz{p:AI}{sz:List Int}(hF:BC p sz){h:AB}{π:List Nat}{m:Abs.Id}{V:MV}{st:B7}(hM:Dt p sz h m V st)(hu:Bn π V m)(hs:FB p sz st.d9){id:Abs.Id}{C:Abs.Id→Prop}{I:List FU→(Abs.Id→Prop)→AB→Prop}{D:AZ→AB→Prop}(hE:Kf oC id C I D π)(hCV: ∀i∈V.ids m,¬C i){M:Abs.Id→Prop}(hMV: ∀i∈V.ids m,¬M i)(hMu: ∀i,M i→Id.under π i=false)(hI:I (CC p st.d9) M h):
 ∃o h',KL Tryz.prog cfg (.fn 52) [.ptr m 0,.v6 id] h π true none=.ok (o,h')∧nf C I D π M h o h':=by
 have uC:=hE.apart;have hm:=hM.box;simp only[Ah]at hm;have um:=hu m (V.m_mem m);have e1:=AG um;have e2:=Av um;have hss:=hs.small;simp only[A9.small,AP,Ap]at hss;obtain⟨s1,s2,s3,s4⟩:=hss;have hl2:=G0 (hM.sl 2 (by omega));simp only[Ax,BY]at hl2;have uid:=uC id hE.own;have i1:=AG uid;replace hM:=AA.mk hM;replace hu:=AA.mk hu;replace hE:=AA.mk hE;replace hCV:=AA.mk hCV;replace hMV:=AA.mk hMV;replace hMu:=AA.mk hMu;replace uC:=AA.mk uC;replace hs:=AA.mk hs
 (refine Af rfl Tryz.func52 rfl rfl rfl ?_;show Wp _ _ _ _ (Tryz.f52.body.get rfl) _ _;simp only[Tryz.f52,AS])
 (repeat' (first|simp only[go_sem, *,↓hl2,AM]|(refine sx ?_ ?_<;>intro hc)|refine sy (by omega) fun x hx hm=>?_|simp(disch:=first|assumption|omega) only[AN]))
 have hW:AA (CC p st.d9=DM p st.d9 0 st.d9.waits++C6 p st.d9 0 st.d9.bv):=⟨rfl⟩;obtain⟨G,hG⟩: ∃G,G=C6 p st.d9 0 st.d9.bv:=⟨_,rfl⟩;rw[←hG]at hW;rw[hW.out]at hI;replace hI:=AA.mk hI;refine AU st.d9.waits _ (S:=fun m' i (a:AB×Nat)=>⟨[(0,.ptr m 0),(3,.ptr (0::0::π) 0),(13,BT.get [] 13),(18,V.s 2),(19,.d (.int .i64 (m'))),(20,.d (.int .i64 (i))),(102,BT.get [] 102),(103,BT.get [] 103),(104,BT.get [] 104),(105,BT.get [] 105),(106,BT.get [] 106),(107,BT.get [] 107),(108,BT.get [] 108),(109,BT.get [] 109)],a.1,a.2+8,[]⟩)
  (Inv:=fun i rest a=>AA (StepsIn C M π h id (Fd I π M (a.2+8) (DM p st.d9 i rest++G)) a.1)) (b0:=(_,0)) rfl ⟨⟨?_,⟨M,hE.out.same hI.out fun i hi=>?_,fun i hi=>.inl hi⟩,fun i q1 _ q2=>?_⟩⟩ ?_ ?_
 .simp only[go_sem]
 .have q:=AG (hi.elim (fun h=>h) (hMu.out i));simp only[go_sem,q,AM]
 .have q:=AG q2;simp only[go_sem,q,AM]
 .rintro i w ⟨g,b⟩ hy hi him hI2 IH;dsimp only at*;obtain⟨x,hw⟩:=P6 hF (hs.out.wait w (Ac hy));have hM2:=B4 hM.out (h':=g) fun i hi=>hI2.out.frame i (hCV.out i hi) (hMV.out i hi) (hu.out i hi);obtain⟨W,xs,hWs,gW,xW,lW,lW2⟩:=Il (hM2.sl 2 (by omega)) hy;have uW:=hu.out W (V.s_mem m (i:=2) (by omega) (by rw[hWs];simp[AD]));have a3:=AG uW;have a4:=Av uW;have gB:=hI2.out.box;simp only[Ff]at gW;rw[hWs]at IH⊢;replace hM2:=AA.mk hM2;replace hWs:=AA.mk hWs;have hx2:=AA.mk hw;clear hw;have hgo:=AA.mk fun H hH=>qY (Dd hM2.out hu.out (h':=H) hH) (hu.out.ext (b+17)) hs.out hx2.out;have box0:=AA.mk hI2.out.box;obtain⟨M1,hIe,hM1⟩:=hI2.out.eat;have nt1:=AA.mk (Vd hMu.out hM1);have n1:=AA.mk (sM hM1);have nX:=AA.mk fun(m:Nat) (hm:b+8≤m)=>S0 hMu.out hM1 hm;have nz: ∀l,¬M1 (0::l):=fun l hl=>by obtain⟨l2,h2⟩:=hE.out.tag hIe _ hl;cases h2
  replace nz:=AA.mk nz;replace hM1:=AA.mk hM1;rw[DM]at hIe;obtain⟨rest,hrest⟩: ∃t,t=DM p st.d9 (i+1) (st.d9.waits.drop (i+1))++G:=⟨_,rfl⟩;have hI2f:=AA.mk hI2.out.frame;obtain⟨r,hr⟩:=hE.out.loop hIe;rw[D3,←hrest]at hIe;replace hIe:=AA.mk hIe;replace hrest:=AA.mk hrest;have i2:=Dj uid;refine ax ?_;refine Cu (hgo.out _ fun i hi=>?_) (fun o1 g1 p1=>?_)
  .have q:=AG hi;simp only[go_sem,q,AM]
  subst p1;replace hI2:=AA.mk hI2;clear hgo;have same: ∀o o':Abs.Obj,∀i,Nt π i→((g.put (0::(b+12)::π) o).put (0::(b+12)::π) o').get i=g.get i:=fun o o' i hi=>by
   rw[get_put,get_put,hi];rfl
  replace same:=AA.mk same;cases hg:pm p st.d9 w with
  |true=>
   rw[hg]at hIe;replace hg:=AA.mk hg;refine ax ?_;refine AY (hE.out.eat (x:=⟨i,0,0,[]⟩) (l:=rest) (hE.out.same hIe.out fun i hi=>same.out _ _ i (nt1.out i hi)) (by rw[same.out _ _ _ (AG uid)];exact hr) ⟨_,rfl,.inl ⟨rfl,rfl⟩⟩ (fun i hi=>AF hi _) (nX.out _ (by omega)) (fun i hi=>by simp[AD,Au]at hi)) (fun o1 g1 p1=>?_);rcases p1 with⟨rfl,M2,p1,m2,p2⟩|⟨p0,p1,_⟩
   .have m3:AA (∀i,M2 i→M i∨Kg π (b+23) i):=⟨fun i hi=>by
     rcases m2 i hi with q|q|q
     .exact(hM1.out i q).imp_right fun q=>q.mono (by omega)
     .simp[AD,Au]at q
     .exact .inr ⟨b+22,by omega,q⟩⟩
    have frm:AA (∀i,¬C i→ ¬M i→Id.under π i=false→(gc ((b+22)::π) g1).get i=h.get i):=⟨fun i q1 q0 q2=>by rw[Al _ _ _ (AF q2 _),p2 i q1 (n1.out i q0 q2) (by simp[AD,Au]) (AF q2 _),same.out _ _ i (AG q2)];exact hI2f.out i q1 q0 q2⟩;have nC: ¬C (0::0::π):=fun hc=>by have:=uC.out _ hc;rw[show Id.under π (0::0::π)=true from Ab [0,0]]at this;cases this
    have box2:(gc ((b+22)::π) g1).get (0::0::π)=some (.box [.v6 id]):=by
     rw[Al _ _ _ (AW π (by omega)),p2 _ nC (nz.out _) (by simp[AD,Au]) (AW π (by omega))];rw[get_put,get_put,AE (by simp)];exact box0.out
    clear p2 m2;replace box0:=AA.mk box2;replace p1:=AA.mk (hE.out.gcI p1 (b+22));refine ax ?_;refine IH.out (_,b+19) ⟨⟨box0.out,⟨M2,?_,fun i hi=>(m3.out i hi).imp_right fun q=>q.mono (by dsimp only;omega)⟩,frm.out⟩⟩;rw[←hrest.out];exact p1.out
   .replace p1:=AA.mk (hE.out.gcD p1 (b+22));rcases p0 with rfl|⟨v,rfl⟩
    .refine ax ?_;exact .inr (.inl ⟨rfl,p1.out⟩)
    .refine ax ?_;exact .inr (.inr ⟨⟨v,rfl⟩,p1.out⟩)
  |false=>
   rw[hg]at hIe;replace hg:=AA.mk hg;refine ax ?_;refine IH.out (_,b+19) ⟨⟨?_,⟨M1,?_,fun i hi=>(hM1.out i hi).imp_right fun q=>q.mono (by dsimp only;omega)⟩,fun i q1 q0 q2=>(same.out _ _ i (AG q2)).trans (hI2f.out i q1 q0 q2)⟩⟩
   .dsimp only;rw[get_put,get_put,AE (by simp)];exact box0.out
   .rw[←hrest.out];exact hE.out.same hIe.out fun i hi=>same.out _ _ i (nt1.out i hi)
 .rintro i ⟨g,b⟩ hi him hI2;dsimp only at*;have hM2:=B4 hM.out (h':=g) fun i hi=>hI2.out.frame i (hCV.out i hi) (hMV.out i hi) (hu.out i hi);have hm2:=hM2.box;simp only[Ah]at hm2;have gB:=hI2.out.box;have hl1:=G0 (hM2.sl 1 (by omega));simp only[Ax,BY]at hl1;replace hM2:=AA.mk hM2;rw[DM,D8,hG]at hI2;clear hI hW hG hl2 hi
  (repeat' (first|simp only[go_sem, *,↓hl1,AM]|(refine sx ?_ ?_<;>intro hc)|refine sy (by omega) fun x hx hm=>?_|simp(disch:=first|assumption|omega) only[AN]))
  refine AU st.d9.bv _ (S:=fun m' i (a:AB×Nat×List Df)=>⟨[(0,.ptr m 0),(3,.ptr (0::0::π) 0),(13,BT.get [] 13),(40,V.s 1),(41,.d (.int .i64 (m'))),(42,.d (.int .i64 (i))),(102,BT.get [] 102),(103,BT.get [] 103),(104,BT.get [] 104),(105,BT.get [] 105),(106,BT.get [] 106),(107,BT.get [] 107),(108,BT.get [] 108),(109,BT.get [] 109)],a.1,a.2.1+16,a.2.2⟩)
   (Inv:=fun i rest a=>AA (StepsIn C M π h id (Fd I π M (a.2.1+16) (C6 p st.d9 i rest)) a.1)∧O8 a.2.2) (b0:=(_,b,[])) rfl ⟨⟨⟨hI2.out.box,hI2.out.eat.mv hE.out hMu.out (fun _ _=>rfl) (by dsimp only;omega),hI2.out.frame⟩⟩,by rw[Tr];trivial⟩ ?_ ?_
  .clear hM2 hm2 gB hl1 hI2;clear him i g;clear b;rintro i gr ⟨g,b,ds⟩ hy hi him ⟨hI2,hds⟩ IH;have b1: ¬b+1=b:=by omega
   have b3: ¬b=b+1:=by omega
   dsimp only at*;obtain⟨d,hd⟩:=hs.out.grp i gr hy;obtain⟨g0,hdd⟩:=GD hd.ge;have hdl:=AH hdd;have hdr:=(B3 hF hdd).ok.rules;have hM2:=B4 hM.out (h':=g) fun i hi=>hI2.out.frame i (hCV.out i hi) (hMV.out i hi) (hu.out i hi);have hm2:=hM2.box;simp only[Ah]at hm2;obtain⟨W,xs,hWs,gW,xW,lW,lW2⟩:=Il (hM2.sl 1 (by omega)) hy;have uW:=hu.out W (V.s_mem m (i:=1) (by omega) (by rw[hWs];simp[AD]));have a3:=AG uW;have a4:=Av uW;have gB:=hI2.out.box;simp only[Ff]at gW;rw[hWs]at IH⊢;replace hM2:=AA.mk hM2;replace hWs:=AA.mk hWs;replace hd:=AA.mk hd;refine ax ?_;have hg2:AA (C6 p st.d9 i (gr::st.d9.bv.drop (i+1))=B5 st.d9 d gr i 0 d.rules++C6 p st.d9 (i+1) (st.d9.bv.drop (i+1))):=⟨by rw[C6,hd.out.ge]⟩;have same: ∀o1 o2 o3 o4:Abs.Obj,∀i,Nt π i→((((g.put (0::(b+20)::π) o1).put (0::(b+21)::π) o2).put (0::(b+20)::π) o3).put (0::(b+21)::π) o4).get i=g.get i:=fun o1 o2 o3 o4 i hi=>by
    rw[get_put,get_put,get_put,get_put,hi,hi];rfl
   obtain⟨R,hR⟩: ∃R,R=C6 p st.d9 (i+1) (st.d9.bv.drop (i+1)):=⟨_,rfl⟩;rw[←hR]at hg2;rw[hg2.out]at hI2;refine AU d.rules _ (S:=fun m' k (a:AB×Nat×List Df)=>⟨[(0,.ptr m 0),(3,.ptr (0::0::π) 0),(6,.ptr (0::(b+20)::π) 0),(7,.ptr (0::(b+21)::π) 0),(13,BT.get [] 13),(40,.f8 W 0 st.d9.bv.length),(41,.d (.int .i64 (st.d9.bv.length))),(42,.d (.int .i64 (i))),(56,.d (.ce (d.rules.map BG))),(57,.d (.int .i64 (m'))),(58,.d (.int .i64 (k))),(102,BT.get [] 102),(103,BT.get [] 103),(104,BT.get [] 104),(105,BT.get [] 105),(106,BT.get [] 106),(107,BT.get [] 107),(108,BT.get [] 108),(109,BT.get [] 109)],a.1,a.2.1+36,a.2.2⟩)
    (Inv:=fun k rest a=>AA (StepsIn C M π h id (Fd I π M (a.2.1+36) (B5 st.d9 d gr i k rest++R)) a.1)∧a.1.get (0::(b+20)::π)=some (.box [.d (.int .i64 (i))])∧a.1.get (0::(b+21)::π)=some (.box [.d (.int .i64 (gr.ge)),.d (.int .i64 (gr.at_)),.d (.ce (gr.env.map AJ))])∧b≤a.2.1∧O8 a.2.2) (b0:=(_,b,ds)) rfl ⟨⟨⟨?_,hI2.out.eat.mv hE.out hMu.out (fun i hi=>same _ _ _ _ i hi) (by dsimp only;omega),fun i q1 q0 q2=>(same _ _ _ _ i (AG q2)).trans (hI2.out.frame i q1 q0 q2)⟩⟩,?_,?_,D6 _,hds⟩ ?_ ?_
   .dsimp only;rw[get_put,get_put,get_put,get_put,AE (by simp),AE (by simp)];exact gB
   .simp only[go_sem,b1,b3]
   .simp only[go_sem,b1,b3]
   .clear hg2 same hI2 hm2 gB gW a3 a4 xW lW lW2;clear hM2;clear hds ds;rintro k r ⟨g2,c,ds⟩ hr hk hkm ⟨hI3,x6,x7,hbc,hds⟩ IHk;dsimp only at*;have hri:=P4 hF hs.out hy hd.out (Ac hr);have hM2:=B4 hM.out (h':=g2) fun i hi=>hI3.out.frame i (hCV.out i hi) (hMV.out i hi) (hu.out i hi);have hm2:=hM2.box;simp only[Ah]at hm2;have hl1:=G0 (hM2.sl 1 (by omega));have r0:=hri.place.1;have r1:=hri.place.2;obtain⟨y,hyp⟩:=get_some (l:=st.d9.ac) (i:=(gr.place d r.at_).toNat) (by omega);obtain⟨S,ys,hSs,gS,xS,lS,lS2⟩:=Il (hM2.sl 0 (by omega)) hyp;have uS:=hu.out S (V.s_mem m (i:=0) (by omega) (by rw[hSs];simp[AD]));have a3:=AG uS;have a4:=Av uS;have c1: ¬c+1=c:=by omega
    have c0: ¬c=c+1:=by omega
    have hpl:=AA.mk fun(H:AB) (n:Nat) (hH:H.get m=g2.get m)=>L3 (ds:=p.defs) (g:=gr) (d:=d) (hH.trans hm2) (AF um n) g0 hdd (B3 hF hdd).ok.be (B3 hF hdd).ok.ac (Ln hd.out) (Ll hF hd.out) r.at_ hri.at0 hri.at1;have c2: ¬c+20=b:=by omega
    have c3: ¬c+19=b:=by omega
    have c4: ¬c+21=b:=by omega
    have c5: ¬b=c+20:=by omega
    have c6: ¬b=c+19:=by omega
    have c7: ¬b=c+21:=by omega
    simp only[Ff]at gS;rw[hSs]at hm2;have same2: ∀o1 o2 o3 o4:Abs.Obj,∀i,Nt π i→((((g2.put (0::(c+40)::π) o1).put (0::(c+41)::π) o2).put (0::(c+40)::π) o3).put (0::(c+41)::π) o4).get i=g2.get i:=fun o1 o2 o3 o4 i hi=>by
     rw[get_put,get_put,get_put,get_put,hi,hi];rfl
    replace hM2:=AA.mk hM2;replace hri:=AA.mk hri;refine ax ?_;refine Cf (hpl.out _ _ ?_) (fun o1 g1 p1=>?_)
    .simp only[go_sem,e1,AM]
    subst p1;cases hyd:y.dead with
    |true=>
     have hz:AA (Fd I π M (c+36) (B5 st.d9 d gr (i:Nat) (k+1) (d.rules.drop (k+1))++R) g2):=⟨by
      have:=hI3.out.eat
      rwa [B5,EP,D1 (by rw[AX,hyp];exact hyd),CO,D8]at this⟩
     refine ax ?_;refine IHk.out (_,c+23,ds) ⟨⟨⟨?_,hz.out.mv hE.out hMu.out (fun i hi=>same2 _ _ _ _ i hi) (by dsimp only;omega),fun i q1 q0 q2=>(same2 _ _ _ _ i (AG q2)).trans (hI3.out.frame i q1 q0 q2)⟩⟩,?_,?_,by dsimp only;omega,hds⟩
     .dsimp only;rw[get_put,get_put,get_put,get_put,AE (by simp),AE (by simp)];exact hI3.out.box
     .simp only[go_sem,x6,c0,c1,c2,c3,c4,c5,c6,c7]
     .simp only[go_sem,x7,c0,c1,c2,c3,c4,c5,c6,c7]
    |false=>
     refine ax ?_;obtain⟨g3,hg3⟩: ∃g3,g3=((((g2.put (0::(c+40)::π) (.box [.d (.int .i64 (0))])).put (0::(c+41)::π) (.box [.d (.int .i64 (0)),.co,.d (.int .i64 (0))])).put (0::(c+40)::π) (.box [.d (.int .i64 (k))])).put (0::(c+41)::π) (.box [.d (.int .i64 (r.at_)),.d (.ce (r.eq.map AL)),.d (.int .i64 (r.node))])):=⟨_,rfl⟩;rw[←hg3];have hgs: ∀i,Nt π i→g3.get i=g2.get i:=fun i hi=>by rw[hg3];exact same2 _ _ _ _ i hi
     have hJ0:Uj C M π h id b c i k gr (Fd I π M (c+36) (B5 st.d9 d gr i k (r::d.rules.drop (k+1))++R)) g3:=by
      refine⟨⟨?_,hI3.out.eat.mv hE.out hMu.out (fun i hi=>hgs i hi) (D6 _),fun i q1 q0 q2=>(hgs i (AG q2)).trans (hI3.out.frame i q1 q0 q2)⟩,?_,?_,?_⟩;all_goals rw[hg3]
      .rw[get_put,get_put,get_put,get_put,AE (by simp),AE (by simp)];exact hI3.out.box
      .simp only[go_sem,x6,c0,c1,c2,c3,c4,c5,c6,c7]
      .simp only[go_sem,x7,c0,c1,c2,c3,c4,c5,c6,c7]
      .simp only[go_sem,c0,c1,c2,c3,c4,c5,c6,c7]
     have hpick:AA (EP st.d9 d gr r=DS (Bq st.d9 d gr r)):=⟨by rw[EP,Ci (by rw[AX,hyp,D9,F4,hyd];simp)]⟩;clear hgs same2 hm2 hl1 gS xS lS lS2 a3 a4 hyp hI3 x6 x7 hg3 hpl hSs hyd;clear hM2;refine AU r.eq _ (S:=fun m' j (a:(AV×AB)×Nat)=>⟨[(0,.ptr m 0),(3,.ptr (0::0::π) 0),(6,.ptr (0::(b+20)::π) 0),(7,.ptr (0::(b+21)::π) 0),(8,.ptr (0::(c+40)::π) 0),(10,a.1.1),(13,BT.get [] 13),(40,.f8 W 0 st.d9.bv.length),(41,.d (.int .i64 (st.d9.bv.length))),(42,.d (.int .i64 (i))),(56,.d (.ce (d.rules.map BG))),(57,.d (.int .i64 (d.rules.length))),(58,.d (.int .i64 (k))),(77,.d (.ce (r.eq.map AL))),(78,.d (.int .i64 (m'))),(79,.d (.int .i64 (j))),(102,BT.get [] 102),(103,BT.get [] 103),(104,BT.get [] 104),(105,BT.get [] 105),(106,BT.get [] 106),(107,BT.get [] 107),(108,BT.get [] 108),(109,BT.get [] 109)],a.1.2,a.2+62,ds⟩)
      (Inv:=fun j rest a=>AA (Uj C M π h id b c i k gr (Fd I π M (c+36) (B5 st.d9 d gr i k (r::d.rules.drop (k+1))++R)) a.1.2)∧c≤a.2∧AA ((j=0∧a.1.1=.co)∨ ∃n,0<j∧n<a.2+62∧a.1.1=.f8 (1::n::π) 0 j∧a.1.2.get (1::n::π)=some (.d7 1 (((r.eq.take j).map fun q=>((Sn st.d9 (gr.own d true q):Nat):Int)).map AL)))) (b0:=((_,_),c)) rfl ⟨⟨hJ0⟩,D6 _,⟨.inl ⟨rfl,rfl⟩⟩⟩ ?_ ?_
     .clear hJ0 IHk g2 g3;rintro j q ⟨⟨v,g4⟩,e⟩ hq hj hjm ⟨hJ,hce,hv⟩ IHj;dsimp only at*;obtain⟨q0,q1,o0,ch,hch,ch12,hql⟩:=hri.out.join q (Ac hq);have hM2:=B4 hM.out (h':=g4) fun i hi=>hJ.out.st.frame i (hCV.out i hi) (hMV.out i hi) (hu.out i hi);have hm2:=hM2.box;simp only[Ah]at hm2;obtain⟨qv,hrow,hqs⟩:=hM2.be.row _ _ hch;have hlq:=G0 hqs;rw[BY]at hlq;have hA:=hM2.arr;rcases hA with⟨_,hA⟩|⟨A,hA,gA⟩
      .rw[hA]at hrow;simp at hrow
      have lA:=AH hrow;have uA:=hu.out A (V.v3_mem m (by rw[hA];simp[AD]));have a3:=AG uA;have a4:=Av uA;rw[hA]at hm2;have x7:=hJ.out.x7;simp only[Aq]at hrow;have hown:=AA.mk fun(H:AB) (n:Nat) (hH:H.get m=g4.get m)=>Vg (ds:=p.defs) (g:=gr) (d:=d) (hH.trans hm2) (AF um n) g0 hdd (B3 hF hdd).ok.be (B3 hF hdd).ok.ac (Ln hd.out) (Ll hF hd.out) true q q0 (by simpa using q1);have ht:AA (((r.eq.take (j+1)).map fun q=>((Sn st.d9 (gr.own d true q):Nat):Int))=((r.eq.take j).map fun q=>((Sn st.d9 (gr.own d true q):Nat):Int))++[(ch.queue.length:Int)]):=⟨by rw[Is,hq];simp[hql]⟩;replace hql:=AA.mk hql;replace hM2:=AA.mk hM2;replace hqs:=AA.mk hqs;rcases hv.out with⟨rfl,rfl⟩|⟨n,hj0,hn,rfl,hg⟩
      .clear hv;have hj0:(0:Int)<r.eq.length:=hjm
       (repeat' (first|simp only[go_sem, *,↓hlq,AM]|(refine sx ?_ ?_<;>intro hc)|refine sy (by omega) fun x hx hm=>?_|simp(disch:=first|assumption|omega) only[AN]))
       refine Cf (hown.out _ _ rfl) (fun o1 g1 p1=>?_);subst p1
       (repeat' (first|simp only[go_sem, *,↓hlq,AM]|(refine sx ?_ ?_<;>intro hc)|refine sy (by omega) fun x hx hm=>?_|simp(disch:=first|assumption|omega) only[AN]))
       refine IHj.out ((_,_),e+23) ⟨⟨hJ.out.loc hE.out hMu.out fun x hx=>?_⟩,by dsimp only;omega,⟨.inr ⟨e+81,by omega,by dsimp only;omega,rfl,?_⟩⟩⟩
       .dsimp only;rw[get_put,get_put,hx,hx];rfl
       .rw[ht.out];simp only[go_sem,List.take_zero,CO,D8]
      .clear hv;obtain⟨L,hL⟩: ∃L,L=(r.eq.take j).map fun q=>((Sn st.d9 (gr.own d true q):Nat):Int):=⟨_,rfl⟩;have d0:L.length=j:=by rw[hL,BY,He];omega
       have d1:List.take j (L.map AL)=L.map AL:=DL (by simp;omega);have d2:j+1≤4:=by have:=hri.out.j1;omega
       have d3: ¬e+80=n:=by omega
       have d4: ¬n=e+80:=by omega
       have d5: ¬e+81=n:=by omega
       have d6: ¬n=e+81:=by omega
       rw[←hL]at ht hg;replace hL:=AA.mk hL
       (repeat' (first|simp only[go_sem, *,↓hlq,AM]|(refine sx ?_ ?_<;>intro hc)|refine sy (by omega) fun x hx hm=>?_|simp(disch:=first|assumption|omega) only[AN]))
       refine Cf (hown.out _ _ rfl) (fun o1 g1 p1=>?_);subst p1
       (repeat' (first|simp only[go_sem, *,↓hlq,AM]|(refine sx ?_ ?_<;>intro hc)|refine sy (by omega) fun x hx hm=>?_|simp(disch:=first|assumption|omega) only[AN]))
       refine IHj.out ((_,_),e+23) ⟨⟨hJ.out.loc hE.out hMu.out fun x hx=>?_⟩,by dsimp only;omega,⟨.inr ⟨e+81,by omega,by dsimp only;omega,rfl,?_⟩⟩⟩
       .dsimp only;rw[get_put,get_put,get_put,hx,hx,hx];rfl
       .rw[ht.out];simp only[go_sem,By,d3,d4,d5,d6]
     .clear hJ0;rintro j ⟨⟨v,g4⟩,e⟩ hj hjm ⟨hJ,hce,hv⟩;dsimp only at*;rcases hv.out with⟨rfl,rfl⟩|⟨n,hj0,hn,rfl,hg⟩
      .exact absurd hri.out.j0 (by have:=hj.out;omega)
      have hmany:AA (((r.eq.take j).map fun q=>((Sn st.d9 (gr.own d true q):Nat):Int))=(Bq st.d9 d gr r).map fun(n:Nat)=>(n:Int)):=⟨by rw[hj.out,EM,Bq,List.map_map];rfl⟩;rw[hmany.out]at hg;have hlen:(Bq st.d9 d gr r).length=j:=by rw[Bq,BY,hj.out]
      obtain⟨many,hmn⟩: ∃many,many=Bq st.d9 d gr r:=⟨_,rfl⟩;rw[←hmn]at hg hlen;have tk:List.take j ((many.map fun(n:Nat)=>(n:Int)).map AL)=(many.map fun(n:Nat)=>(n:Int)).map AL:=DL (by simp;omega);have hch:=W2 (many.map fun(n:Nat)=>(n:Int)) (e+64) π;have jl:j≤many.length:=by omega
      replace hlen:=AA.mk hlen;replace hmn:=AA.mk hmn;replace hmany:=AA.mk hmany;clear hv;refine ax ?_;refine kQ fun r0 hr0=>?_;have nC: ∀n,¬C (0::n::π):=fun n hc=>by have:=uC.out _ hc;rw[show Id.under π (0::n::π)=true from Ab [0,n]]at this;cases this
      obtain⟨I',hI'⟩: ∃I':List (List Int)→(Abs.Id→Prop)→AB→Prop,I'=fun l M2 g=>(Uj C M π h id b c i k gr (I ((l.map fun t=>⟨-1,i,k,t⟩)++(B5 st.d9 d gr i (k+1) (d.rules.drop (k+1))++R)) M2) g∧ ∀i,M2 i→M i∨Kg π (e+67) i)∧g.get (0::(e+65)::π)=some (.loop r0):=⟨_,rfl⟩;obtain⟨D',hD'⟩: ∃D':AZ→AB→Prop,D'=fun o g=>(o=.ret (.d (.bool (false)))∧D (.ret (.d (.bool (false)))) g∧g.get (0::(e+65)::π)=some (.loop {r0 with state:=.done,rt:=some .ret}))∨((∃v,o=.f9 v)∧D o g):=⟨_,rfl⟩
      have hE2:Kf nk (0::(e+65)::π) (fun i=>C i∨i=0::(e+65)::π) I' D' ((e+66)::π):=by
       refine⟨.inr rfl,fun i hi=>?_,fun hI=>?_,fun hI=>?_,fun{x l M2 H ρ v r} hI hr hv hρ hMρ hid=>?_,fun hI hs=>?_,fun hD hs=>?_⟩
       .rcases hi with hi|rfl
        .exact AF (uC.out i hi) _
        .exact AW π (by omega)
       .rw[hI']at hI;exact hE.out.tag hI.1.1.st.eat
       .rw[hI']at hI;exact⟨_,hI.2⟩
       .rw[hI']at hI;obtain⟨⟨hJ,hm2⟩,hlo⟩:=hI;rw[hlo]at hr;cases hr;have nz: ∀l,¬M2 (0::l):=fun l hl=>by obtain⟨l2,h2⟩:=hE.out.tag hJ.st.eat _ hl;cases h2
        have nt2:=AA.mk (Vd hMu.out hm2);have nn2:=AA.mk (sM hm2);replace nz:=AA.mk nz;replace hm2:=AA.mk hm2;replace hMρ:=AA.mk hMρ;obtain⟨idx,rfl,hga,lx,rfl⟩:=hv;rw[El,Ge]at hJ;have hidx:=hid (1::lx) (by simp[AD]);have bx0:=hJ.st.box;have bx6:=hJ.x6;have bx8:=hJ.x8;obtain⟨r2,hr2⟩:=hE.out.loop hJ.st.eat;have n1: ¬e+65=b+20:=by omega
        have n2: ¬e+65=c+40:=by omega
        have hE3:=AA.mk fun(H':AB) (q: ∀i,Nt π i→H'.get i=H.get i)=>hE.out.same hJ.st.eat fun i hi=>q i (nt2.out i hi);have u2:Id.under ρ (0::(e+65)::π)=false:=hρ _ (AW π (by omega));replace hJ:=AA.mk hJ;replace hρ:=AA.mk hρ;subst hr0;refine Fc rfl ?_;clear hid;replace hI':=AA.mk hI';replace hD':=AA.mk hD';refine ax ?_;refine AY (hE.out.eat (hE3.out _ fun i hi=>?_) (by simp only[go_sem,i1,hr2,AM]) ⟨_,rfl,.inr ⟨1::lx,rfl,?_,lx,rfl⟩⟩ (fun i hi=>AF (hρ.out i (AF hi _)) _) (fun i hi=>AF (hMρ.out i hi) _) (fun i hi=>?_)) (fun o1 g1 p1=>?_)
        .have q:=hi;rw[Nt]at q;simp only[go_sem,q,AM]
        .rw[get_put,AE (by simp)];exact hga
        .simp only[AD,Au,D8,CS,As]at hi;subst hi;exact⟨fun hc=>hidx.1 (.inl hc),AF hidx.2.1 _,hidx.2.2.out⟩
        have hb0: ∀n,¬n=e+65→ ¬n=e+66→ ∀o,(H.put (0::(e+65)::π) o).get (0::n::π)=H.get (0::n::π):=fun n q1 q2 o=>by rw[get_put,AE (by simp;omega)];rfl
        rcases p1 with⟨rfl,M3,p1,m3,p2⟩|⟨p0,p1,p2⟩
        .have glo:=(Al (6::ρ) g1 _ (AF u2 _)).trans (p2 _ (nC _) (nz.out _) (by simp[AD,Au]) (AF u2 _));replace m3:=AA.mk m3;rw[get_put,is_self]at glo;replace p1:=AA.mk p1;replace p2:=AA.mk p2;refine ax ?_;have fr: ∀o,∀i,¬C i→ ¬M2 i→ ¬i=1::lx→ ¬i=0::(e+65)::π→Id.under ρ i=false→((gc (6::ρ) g1).put (0::(e+65)::π) o).get i=H.get i:=fun o i q1 q0 qv q2 q3=>by
          rw[get_put,AE (fun e=>q2 e.symm),Al _ _ _ (AF q3 _),p2.out i q1 q0 (by simpa[AD,Au]using qv) (AF q3 _),get_put,AE (fun e=>q2 e.symm)];rfl
         refine .inl ⟨rfl,M3,?_,fun i2 hi2=>?_,fun i2 q1 q0 qv q2=>?_⟩
         rotate_left
         .rcases m3.out i2 hi2 with q|q|q
          .exact .inl q
          .exact .inr (.inl (by simpa[AD,Au]using q))
          .exact .inr (.inr q.out)
         rotate_left
         .rw[hI'.out];refine⟨⟨hJ.out.mv ?_ (fun n hn=>fr _ _ (nC n) (nz.out _) (by simp) (by simp;omega) (hρ.out _ (AW π (by omega)))) fun i q1 q0 q2=>fr _ _ q1 (nn2.out i q0 q2) (fun e=>by rw[e,hidx.2.2.out.up]at q2;cases q2) (fun e=>by rw[e,show Id.under π (0::_::π)=true from Ab [0,_]]at q2;cases q2) (hρ.out _ (AF q2 _)),fun i hi=>?_⟩,?_⟩
          .refine hE.out.same p1.out fun i hi=>?_;rcases hi with hi|hi
           .have q:=AG hi;rw[get_put,q,Al _ _ _ (AF (hρ.out _ (AF hi _)) _)];rfl
           .obtain⟨l2,rfl⟩:=hE.out.tag p1.out i hi;rw[get_put,AE (by simp),FM];rfl
          .rcases m3.out i hi with q|q|q
           .exact hm2.out i q
           .simp only[AD,Au,D8,CS,As]at q;subst q;exact .inr ⟨e+66,by omega,hidx.2.2⟩
           .exact .inr ⟨e+66,by omega,q.out.wide hρ.out⟩
          .rw[get_put,is_self];rfl
         .exact fr _ i2 (fun h=>q1 (.inl h)) q0 (by simpa[AD]using qv) (fun h=>q1 (.inr h)) q2
        .have glo:=(Al (6::ρ) g1 _ (AF u2 _)).trans (p2 _ (Ab [0,e+65]) (AF u2 _));rw[get_put,is_self]at glo;have kp: ∀j,Id.under ((e+66)::π) (0::j)=true→Id.under ρ (0::j)=false→(gc (6::ρ) g1).get (0::j)=H.get (0::j):=fun i q1 q2=>by
          have q3:Id.is (0::(e+65)::π) (0::i)=false:=AE fun e3=>by rw[←e3,AW π (by omega)]at q1;cases q1
          rw[Al _ _ _ (AF q2 _),p2 i (BD q1) (AF q2 _),get_put,q3];rfl
         have sD:=hE.out.sameD (H':=gc (6::ρ) g1) p1 fun i hi=>by
          rcases hi with hi|⟨l,rfl⟩
          .exact Al _ _ _ (AF (hρ.out _ (AF hi _)) _)
          .exact FM _ _ _
         replace kp:=AA.mk kp;replace sD:=AA.mk sD;clear p1 p2;rcases p0 with rfl|⟨v,rfl⟩
         .refine ax ?_;refine .inr ⟨.inl rfl,?_,fun i q1 q2=>?_⟩
          .rw[hD'.out];refine .inl ⟨rfl,hE.out.sameD sD.out fun i hi=>?_,by rw[get_put,is_self];rfl⟩;rw[get_put,show Id.is (0::(e+65)::π) i=false by
            rcases hi with hi|⟨l,rfl⟩
            .exact AG hi _ _
            .exact AE (by simp)]
           rfl
          .rw[get_put,AE fun e3=>by rw[←e3,AW π (by omega)]at q1;cases q1];exact kp.out i q1 q2
         .refine ax ?_;exact .inr ⟨.inr ⟨v,rfl⟩,by rw[hD'.out];exact .inr ⟨⟨v,rfl⟩,sD.out⟩,kp.out⟩
       .rw[hI']at hI⊢;obtain⟨⟨hJ,hm2⟩,hlo⟩:=hI;have u0: ∀n,¬n=e+66→Id.under ((e+66)::π) (0::n::π)=false:=fun n hn=>AW π hn;exact⟨⟨hJ.mv (hE.out.same hJ.st.eat fun i hi=>hs i (hi.imp_left fun hi=>AF hi _)) (fun n hn=>hs _ (.inl (u0 n (by omega)))) fun i q1 _ q2=>hs i (.inl (AF q2 _)),hm2⟩,(hs _ (.inl (u0 _ (by omega)))).trans hlo⟩
       .rw[hD']at hD⊢;have key: ∀o,D o _→D o _:=fun o hd=>hE.out.sameD hd fun i hi=>hs i (hi.imp_left fun hi=>AF hi _);rcases hD with⟨h1,h2,h3⟩|⟨h1,h2⟩
        .exact .inl ⟨h1,key _ h2,(hs _ (.inl (AW π (by omega)))).trans h3⟩
        .exact .inr ⟨h1,key _ h2⟩
      obtain⟨M4,hI4,hM4⟩:=hJ.out.st.eat;have nt4:=Vd hMu.out hM4;have tg4:=hE.out.tag hI4;have ap4:=fun(m:Nat) (hm:c+36≤m)=>S0 hMu.out hM4 hm;replace nt4:=AA.mk nt4;replace tg4:=AA.mk tg4;replace ap4:=AA.mk ap4;have hst:I' (DS many) M4 ((0::0::(e+64)::π,Abs.Obj.box [.d (.ce ((many.map fun(n:Nat)=>(n:Int)).map AL))])::(g4.put (1::n::π) (Obj.i5 1 ((many.map fun(n:Nat)=>(n:Int)).map AL))).put (0::(e+65)::π) (.loop r0)):=by
       have q0: ∀i,Id.is (1::n::π) i=false→Id.is (0::(e+65)::π) i=false→Id.is (0::0::(e+64)::π) i=false→ ∀o o1 o2,AB.get ((0::0::(e+64)::π,o)::(g4.put (1::n::π) o1).put (0::(e+65)::π) o2) i=g4.get i:=fun i q1 q2 q3 o o1 o2=>by
        rw[BL,q3,get_put,q2,get_put,q1];rfl
       rw[hI'];refine⟨⟨hJ.out.mv (hE.out.same (by
        have:=hI4;rw[B5,hpick.out,←hmn.out,D3]at this;exact this) fun i hi=>?_) (fun n2 hn2=>?_) fun i _ _ hi=>?_,fun i hi=>(hM4 i hi).imp_right fun q=>q.mono (by omega)⟩,?_⟩
       .refine q0 i (nt4.out i hi _ _) (nt4.out i hi _ _) ?_ _ _ _;rcases hi with hi|hi
        .exact AG (AF hi _) _ _
        .obtain⟨l2,rfl⟩:=tg4.out i hi;exact AE (by simp)
       .exact q0 _ (AE (by simp)) (AE (by simp;omega)) (AE (by simp)) _ _ _
       .exact q0 i (AG hi _ _) (AG hi _ _) (AG (AF hi _) _ _) _ _ _
       .rw[BL,AE (by simp),get_put,is_self];rfl
      have m0:0<many.length:=by have:=hlen.out;omega
      have m1:many.length≤1000:=by have:=hlen.out;have:=hj.out;have:=hri.out.j1;omega
      refine Pa (Zu m0 m1 (fun n hn=>?_) hE2 (B:=0::0::(e+64)::π) ?_ ?_ ?_ (fun hb=>?_) (ap4.out _ (by omega)) hst) (fun o1 g5 p1=>?_)
      .rw[hmn.out,Bq]at hn;obtain⟨q,hq,rfl⟩:=Em.1 hn;obtain⟨_,_,_,ch,_,h12,hql⟩:=hri.out.join q hq;rw[hql];omega
      .rw[BL,is_self];rfl
      .cases hx:Id.under ((e+66)::π) (0::0::(e+64)::π)with
       |false=>rfl
       |true=>
        have:=B6 hx (n':=e+64) (under_iff.2 ⟨[0,0],rfl⟩);omega
      .rintro(hc|hc)
       .have:=uC.out _ hc;rw[show Id.under π (0::0::(e+64)::π)=true from Ab [0,0,e+64]]at this;cases this
       .simp at hc
      .obtain⟨l2,h2⟩:=tg4.out _ hb;cases h2
      rcases p1 with⟨rfl,M5,p1,m5,p2⟩|⟨rfl,p1⟩|⟨⟨v,rfl⟩,p1⟩
      .clear m5 hI4 hM4;rw[hI']at p1;have glo:=p1.2;replace p1:=AA.mk p1;replace p2:=AA.mk p2;replace hI':=AA.mk hI';replace hD':=AA.mk hD';clear hst;clear hE2;subst hr0;refine ax ?_;have hJ5:=p1.out.1.1;have gg: ∀i,Id.under ((e+65)::π) i=false→Id.under ((e+66)::π) i=false→(gc ((e+65)::π) (gc ((e+66)::π) g5)).get i=g5.get i:=fun i q1 q2=>by rw[Al _ _ _ q1,Al _ _ _ q2]
       have gb: ∀n,n≤c+40→(gc ((e+65)::π) (gc ((e+66)::π) g5)).get (0::n::π)=g5.get (0::n::π):=fun n hn=>gg _ (AW π (by omega)) (AW π (by omega));refine IHk.out (_,e+33,_) ⟨⟨⟨(gb _ (by omega)).trans hJ5.st.box,⟨M5,hE.out.gcI (hE.out.gcI hJ5.st.eat _) _,fun i hi=>(p1.out.1.2 i hi).imp_right fun q=>q.mono (by dsimp only;omega)⟩,fun i q1 q0 q2=>(gg i (AF q2 _) (AF q2 _)).trans (hJ5.st.frame i q1 q0 q2)⟩⟩,(gb _ (by omega)).trans hJ5.x6,(gb _ (by omega)).trans hJ5.x7,by dsimp only;omega,by rw[RN];exact hds⟩
      .rw[hD']at p1;rcases p1 with⟨_,p1,glo⟩|⟨⟨v,hv⟩,_⟩
       .replace p1:=AA.mk p1;replace hI':=AA.mk hI';replace hD':=AA.mk hD';clear hst;clear hE2;subst hr0;refine ax ?_;exact .inr (.inl ⟨rfl,hE.out.gcD (hE.out.gcD p1.out _) _⟩)
       .cases hv
      .rw[hD']at p1;rcases p1 with⟨hv,_⟩|⟨_,p1⟩
       .cases hv
       .replace p1:=AA.mk p1;refine ax ?_;exact .inr (.inr ⟨⟨v,rfl⟩,hE.out.gcD (hE.out.gcD p1.out _) _⟩)
   .rintro k ⟨g2,c,ds⟩ hr hkm ⟨hI3,x6,x7,hbc,hds⟩;dsimp only at*;have h3:=hI3.out;rw[B5,D8]at h3;replace h3:=AA.mk h3;refine ax ?_;refine IH.out (_,c+23,_) ⟨⟨?_⟩,hds⟩;rw[←hR];exact⟨h3.out.box,h3.out.eat.mv hE.out hMu.out (fun _ _=>rfl) (by dsimp only;omega),h3.out.frame⟩
  .rintro i ⟨g,b2,ds⟩ hi him2 ⟨hI2,hds⟩;dsimp only at*;rw[C6]at hI2;refine ax ?_;obtain⟨M1,h1,h2⟩:=hI2.out.eat;exact .inl ⟨rfl,M1,h1,fun i hi=>(h2 i hi).imp_right fun q=>q.up,hI2.out.frame⟩
end Go.Proofs
namespace Go.Proofs
open Go Go.Abs
set_option maxRecDepth 100000
set_option maxHeartbeats 4000000
structure Pr(p:AI)(sz:List Int)(π:List Nat)(m:Abs.Id)(V:MV)(h:AB)(st:B7)(d:CF)(g:Ak)(r:GX)(t:List Int)(j b:Nat)(v:AV)(H:AB)(V':MV)(s':A9)(L:List CW):Prop where
 run:Bz p sz π m V h b V' ⟨s',st.ev,0⟩ H
 env:NF π H b v L
 out: ∀i∈AD v,i∉V'.ids m
 ne:L=[]→v=.co
 qr:FB p sz s'
 all:BQ d g r.eq t st.d9=(L++(BQ d g (r.eq.drop j) (t.drop j) s').1,(BQ d g (r.eq.drop j) (t.drop j) s').2)
 bv:s'.bv=st.d9.bv
 ac:s'.ac=st.d9.ac
 nc:s'.be.length=st.d9.be.length
 rest: ∀(i:Nat) c k,j≤i→r.eq[i]? =some c→t[i]? =some k→0≤k∧ ∃q,s'.be[(g.own d true c).toNat]? =some q∧k.toNat<q.queue.length∧q.queue.length≤12∧Dc p s' q=((d.be[c.toNat]?).map HS.many).getD 0
 len:L.length≤30*j
variable{p:AI}{sz:List Int}{n a:Nat}{q:Fg}{msg:List CW}
theorem fG{s:A9}{d:CF}{c:Int}(hd:P9 d)(hs:FB p sz s)(hq:s.be[n]? =some q)(hmsg:q.queue[a]? =some msg)(hm:Dc p s q=((d.be[c.toNat]?).map HS.many).getD 0):msg.length≤3:=by
 have h1:=(hs.que _ q hq).msgs msg (Ac hmsg);simp only[Ha,AP,Ap]at h1;rw[hm]at h1;cases hc:d.be[c.toNat]? with
 |none=>
  rw[hc]at h1;simp only[Option.map_none,Option.getD_none]at h1;omega
 |some ch=>
  rw[hc]at h1;have h2:=(hd.chan ch (Ac hc)).2.2;have h3:=h1.1;simp only[D9,F4]at h3;omega
variable{π:List Nat}{m:Abs.Id}{V V':MV}{h g H:AB}{b:Nat}{st:B7}
theorem Bz.oth(hr:Bz p sz π m V h b V' st g){x:Abs.Id}(hx:x∉V'.ids m)(hxu:Id.under π x=true)(hl: ∀id,id≠x→H.get id=g.get id):Bz p sz π m V h b V' st H:=
 ⟨B4 hr.rep fun id hid=>hl id fun e=>hx (e▸hid),hr.ids,fun id h1 h2=>by rw[hl id fun e=>by rw[e,hxu]at h2;cases h2];exact hr.frame id h1 h2⟩
theorem Bz.new(hu:Bn π V m)(hr:Bz p sz π m V h b V' st g)(a n:Nat)(hn:b≤n):a::n::π∉V'.ids m:=fun hh=>by
 have:=Ev (b':=0) hu (hr.ids _ hh) a n hn;rw[is_self]at this;cases this
variable{b':Nat}
theorem Ia{id:Abs.Id}(h:HG b b' π id=false)(h1:b≤n)(h2:n<b'):Id.under (n::π) id=false:=by
 cases hx:Id.under (n::π) id with
 |false=>rfl
 |true=>have:=IZ.2 ⟨n,h1,h2,hx⟩;rw[h]at this;cases this
theorem dR{d:CF}{g:Ak}{r:GX}{t:List Int}{j:Nat}{v:AV}{s':A9}{L:List CW}(hR:Pr p sz π m V h st d g r t j b v H V' s' L)(hu:Bn π V m)(hd:P9 d){c:Int}{A Q:Abs.Id}(hc:r.eq[j]? =some c)(hk:t[j]? =some (a:Int))(hq:s'.be[(g.own d true c).toNat]? =some q)(hmsg:q.queue[a]? =some msg)(hm:Dc p s' q=((d.be[c.toNat]?).map HS.many).getD 0)
 (hA:V'.v3=.f8 A 0 V'.rows.length) (hrow:V'.rows[(g.own d true c).toNat]? =some (Aq q (.f8 Q 0 q.queue.length))) (hdi: ∀i c2,j<i→r.eq[i]? =some c2→(g.own d true c2).toNat≠(g.own d true c).toNat) {b1:Nat} (hb:b1≤b') (v':AV) (H2 G:AB) (hrun:Bz p sz π m V h b1 V' ⟨s',st.ev,0⟩ H2) (a1:G.get m=H2.get m) (a0:G.get A=some (.arr 4 (V'.rows.set (g.own d true c).toNat (Aq q (.f8 Q 0 (q.queue.length-1)))))) (a2: ∃y,G.get Q=some (.d7 1 ((q.queue.map BF).take a++(q.queue.map BF).drop (a+1)++y)))
 (a4: ∀id,Id.is m id=false→Id.is A id=false→Id.is Q id=false→HG b1 b' π id=false→G.get id=H2.get id) (he:NF π G b' v' (L++msg)) (ho: ∀i∈AD v',i∉V'.ids m∧HG b1 b' π i=false) (hz:L++msg=[]→v'=.co): ∃V2 s2 L2,Pr p sz π m V h st d g r t (j+1) b' v' G V2 s2 L2:=by
 have hkq:=AH hmsg;have hel:(CY q.queue a).length=q.queue.length-1:=TU (by simpa using hkq);have hem:(CY q.queue a).map BF=(q.queue.map BF).take a++(q.queue.map BF).drop (a+1):=by rw[CY,By,List.map_take,List.map_drop];rfl
 have hS:Kc G 1 (.f8 Q 0 (q.queue.length-1)) ((CY q.queue a).map BF):=by
  obtain⟨y,hy⟩:=a2;exact .inr ⟨Q,y,by rw[BY,hel],by rw[hem];exact hy⟩
 obtain⟨V2,z1,z2⟩:=hrun.step (b':=b') hb (Rn hrun.rep (hrun.apartB hu) hA hq hrow (CY q.queue a) (.f8 Q 0 (q.queue.length-1)) G (a1.trans hrun.rep.box) a0 hS (.inl rfl) (fun id b1 b2 b3 b4=>a4 id b1 b2 (b3 Q (by simp[AD])) b4));obtain⟨t1,t2,t3,t4,t5⟩:=ZO hR.qr hq (k:=a) (by simpa using hkq);have e:Ez s' (g.own d true c) a=(msg,{s' with be:=s'.be.set (g.own d true c).toNat {q with queue:=CY q.queue a}}):=by rw[Ez,hq];simp[hmsg]
 rw[e]at t1 t2 t3 t4 t5;have hml:=fG hd hR.qr hq hmsg hm;refine⟨V2,_,L++msg,z1,he,fun i hi=>z2 i (ho i hi).1 (ho i hi).2,hz,t1,?_,t2.bv.trans hR.bv,t2.ac.trans hR.ac,t2.len.trans hR.nc,fun i c2 k2 hi e1 e2=>?_,by have:=hR.len;rw[CE];omega⟩
 .rw[hR.all,Ae hc,Ae hk,BQ,e,D3]
 .obtain⟨f1,q2,f2,f3,f4,f5⟩:=hR.rest i c2 k2 (by omega) e1 e2;refine⟨f1,q2,by rw[t5 _ (hdi i c2 (by omega) e1)];exact f2,f3,f4,?_⟩;rw[←f5,Dc,Dc,t2.bv]
theorem th(d:CF)(g:Ak)(ks:List Int)(s:A9):BQ d g [] ks s=([],s):=by
 rw[BQ];intro c cs k ks e;cases e
theorem Bz.locU(hu:Bn π V m)(hr:Bz p sz π m V h b V' st g)(hl: ∀id,(∀n,b≤n→Id.under (n::π) id=false)→H.get id=g.get id):Bz p sz π m V h b V' st H:=
 ⟨B4 hr.rep fun id hid=>hl id fun n hn=>hr.apart hu hn id hid,hr.ids,fun id h1 h2=>by rw[hl id fun n _=>AF h2 n];exact hr.frame id h1 h2⟩
theorem NU(hF:BC p sz)(hu:Bn π V m)(hr:Bz p sz π m V h b V' st g)(hI:OG p sz 401 st){j:Fq}(hj:CQ p sz st.d9 j)(H:AB)(n:Nat)(hn:b≤n)(hl: ∀id,(∀k,b≤k→Id.under (k::π) id=false)→H.get id=g.get id):
 ∃o g1,KL Tryz.prog cfg (.fn 66) [.ptr m 0,.d (.int .i64 (j.node)),.d (.int .i64 (j.at_)),.d (.ce (j.env.map AJ))] H (n::π) true none=.ok (o,g1)∧Eo p sz π m V h (FX p 401 j st) o (gc (n::π) g1)∧(o=.ret (.it [])∨o=.f9 (CA 3)):=by
 have hr2:=hr.locU hu hl;obtain⟨o,g1,e1,e2⟩:=ef hF 401 H (n::π) m V' st j hr2.rep (hr2.apart hu hn) hI.qr hj hI.w0 hI.w1 hI.w2 hI.ev;refine⟨o,g1,e1,?_⟩;cases hd:FX p 401 j st with
 |none=>rw[hd]at e2;exact⟨hr2.f9 hu hn e2,.inr e2.1⟩
 |some st2=>
  rw[hd]at e2;obtain⟨V2,h2,_⟩:=hr2.call hu hn e2;obtain⟨rfl,_⟩:=e2;exact⟨h2.fin,.inl rfl⟩
theorem s8{p:AI}{sz:List Int}(hF:BC p sz){h:AB}{π:List Nat}{m:Abs.Id}{V:MV}{st:B7}(hM:Dt p sz h m V st)(hu:Bn π V m)(hs:FB p sz st.d9){i k:Nat}{g:Ak}{d:CF}{r:GX}{t:List Int}(h1:st.d9.bv[i]? =some g)(h2:p.def? g.ge=some d)(h3:d.rules[k]? =some r)(h4:AX st.d9.ac (g.place d r.at_)=false)(h5:Below (Bq st.d9 d g r) t)(hw:st.work=0)(hev:st.ev.length≤500000):
 ∃o h',KL Tryz.prog cfg (.fn 100) [.ptr m 0,ACb ⟨-1,i,k,t⟩] h π true none=.ok (o,h')∧Eo p sz π m V h (FX p 401 ⟨r.node,g.place d r.at_,g.env++(BQ d g r.eq t st.d9).1⟩ ⟨(BQ d g r.eq t st.d9).2,st.ev++[⟨1,g.place d r.at_,i,k,(BQ d g r.eq t st.d9).1⟩],0⟩) o h':=by
 obtain⟨d2,hd⟩:=hs.grp i g h1;have hd2:=hd.ge;rw[h2]at hd2;cases hd2;obtain⟨g0,hdd⟩:=GD hd.ge;have hdl:=AH hdd;have hrl:=AH h3;have hri:=P4 hF hs h1 hd (Ac h3);have hjl:=hri.j1;have htl:t.length=r.eq.length:=by have:=h5.len;rw[Bq,BY]at this;exact this
 have hm:=hM.box;have um:=hu m (V.m_mem m);simp only[Ah]at hm;have e1:=AG um;have e2:=Av um;obtain⟨W,xs,hWs,gW,xW,lW,lW2⟩:=Il (hM.sl 1 (by omega)) h1;have uW:=hu W (V.s_mem m (i:=1) (by omega) (by rw[hWs];simp[AD]));have a3:=AG uW;have a4:=Av uW;simp only[Ff]at gW;have hss:=hs.small;simp only[A9.small,AP,Ap]at hss;obtain⟨s1,s2,s3,s4⟩:=hss;have hm0:=AA.mk hm;rw[hWs]at hm;have hdif:AA (∀(a b:Nat) c c2,a<b→r.eq[a]? =some c→r.eq[b]? =some c2→(g.own d true c2).toNat≠(g.own d true c).toNat):=⟨fun a b c c2 hab e1 e2=>by
  have hro:=(B3 hF hdd).ok.wd r (Ac h3);simp only[Dq,AP,Ap]at hro;have:=RE rfl hro.2.2.2 b a c2 c (I6 _) hab e2 e1;obtain⟨q1,q2,_⟩:=hri.join c (Ac e1);obtain⟨q3,q4,_⟩:=hri.join c2 (Ac e2);have:=LD hd.ws q1 q2;have:=LD hd.ws q3 q4;omega⟩
 have hjob:=AA.mk (Rz hF hs h1 h2 h3 h4 h5);replace hM:=AA.mk hM;replace hu:=AA.mk hu;replace hs:=AA.mk hs;replace hd:=AA.mk hd;replace h5:=AA.mk h5;replace hri:=AA.mk hri;replace hWs:=AA.mk hWs
 (refine Af rfl Tryz.func100 rfl rfl rfl ?_;show Wp _ _ _ _ (Tryz.f100.body.get rfl) _ _;simp only[Tryz.f100,AS])
 refine ax ?_;refine AU r.eq _ (S:=fun m' j (a:(AV×AB)×Nat)=>⟨[(0,.ptr m 0),(3,.ptr (0::0::π) 0),(4,.ptr (0::10::π) 0),(5,.ptr (0::26::π) 0),(6,a.1.1),(35,.d (.ce (r.eq.map AL))),(36,.d (.int .i64 (m'))),(37,.d (.int .i64 (j)))],a.1.2,a.2+33,[]⟩)
  (Inv:=fun j rest a=>AA (∃V' s' L,Pr p sz π m V h st d g r t j (a.2+33) a.1.1 a.1.2 V' s' L)∧a.1.2.get (0::0::π)=some (.box [.d (.int .i64 (-1)),.d (.int .i64 (i)),.d (.int .i64 (k)),.d (.ce (t.map AL))])∧a.1.2.get (0::10::π)=some (.box [.d (.int .i64 (g.ge)),.d (.int .i64 (g.at_)),.d (.ce (g.env.map AJ))])∧a.1.2.get (0::26::π)=some (.box [.d (.int .i64 (r.at_)),.d (.ce (r.eq.map AL)),.d (.int .i64 (r.node))])) (b0:=((_,_),0)) rfl ⟨⟨V,st.d9,[],?_⟩,?_,?_,?_⟩ ?_ ?_
 .refine⟨⟨B4 (h:=h) ?_ fun id hid=>?_,fun id hid=>.inl hid,fun id _ hh=>?_⟩,.inl ⟨rfl,rfl⟩,by simp[AD],fun _=>rfl,hs.out,?_,rfl,rfl,rfl,fun i2 c k2 _ f1 f2=>?_,by simp⟩
  .have:=hM.out
   rwa [show st=⟨st.d9,st.ev,0⟩ by rw[←hw]]at this
  .have q1:=AG (hu.out id hid);simp only[go_sem,q1,AM]
  .have q1:=AG hh;simp only[go_sem,q1,AM]
  .simp
  .obtain⟨q1,q2,q3,q,q4,q5,q6⟩:=hri.out.join c (Ac f1);obtain⟨b1,b2⟩:=QS h5.out i2 _ k2 (by rw[Bq,Cs,f1];rfl) f2;have b2:k2<(Sn st.d9 (g.own d true c):Nat):=b2;rw[q6]at b2;refine⟨b1,q,q4,by omega,q5,?_⟩;obtain⟨ch,hch⟩:=get_some (l:=d.be) (i:=c.toNat) (by omega);obtain⟨q7,g1,g2,g3,_⟩:=hd.out.be _ ch hch;have:=LD hd.out.ws q1 q2;rw[show(g.own d true c).toNat=(Fm p (st.d9.bv.take i)).1+c.toNat by omega,g1]at q4;cases q4;rw[Lx h1 h2 hch g2 g3,hch];rfl
 .simp only[go_sem]
 .simp only[go_sem]
 .simp only[go_sem]
 .clear hm gW xW lW lW2 a3 a4 hm0;rintro j c ⟨⟨v,H⟩,b⟩ hc hj hjm ⟨hR,k3,k4,k5⟩ IH;dsimp only at*;obtain⟨V',s',L,hR⟩:=hR.out;have hM2:=hR.run.rep;have hm2:=hM2.box;simp only[Ah]at hm2;obtain⟨kk,hkk⟩:=get_some (l:=t) (i:=j) (by omega);obtain⟨kk0,q,hq,hkq,hq12,hmany⟩:=hR.rest j c kk (D6 _) hc hkk;obtain⟨a,rfl⟩: ∃a:Nat,kk=a:=⟨kk.toNat,by omega⟩;rw[F7]at hkq;obtain⟨c0,c1,o0,_⟩:=hri.out.join c (Ac hc);obtain⟨qv,hrow,hqs⟩:=hM2.be.row _ _ hq;rcases hM2.arr with⟨_,hA⟩|⟨A,hA,gA⟩
  .rw[hA]at hrow;simp at hrow
  have lA:=AH hrow;rcases hqs with⟨_,hz⟩|⟨Q,zs,rfl,gQ⟩
  .rw[F9.1 hz]at hkq;simp at hkq
  rw[BY]at hrow;obtain⟨msg,hmsg⟩:=get_some (l:=q.queue) (i:=a) hkq;have hiA:=hR.run.ids A (V'.v3_mem m (by rw[hA];simp[AD]));have hiQ:=hR.run.ids Q (V'.row_mem m (Bv.2 ⟨_,Ac hrow,by rw[BX];simp[AD]⟩));have him:=hR.run.ids m (V'.m_mem m);have hap:=hR.run.apart hu.out (n:=b+81) (by omega);have uA:=hap A (V'.v3_mem m (by rw[hA];simp[AD]));have uQ:=hap Q (V'.row_mem m (Bv.2 ⟨_,Ac hrow,by rw[BX];simp[AD]⟩));have uM:=hap m (V'.m_mem m);have nA:=Ev (b':=0) hu.out hiA;have nA':=Jv hu.out hiA;have nQ:=Ev (b':=0) hu.out hiQ;have nQ':=Jv hu.out hiQ;have nM:=Ev (b':=0) hu.out him;have nM':=Jv hu.out him;have bA: ∀k,Id.is A (0::k::π)=false:=fun k=>AE fun e=>Gr hR.run hu.out k (by rw[←e];exact V'.v3_mem m (by rw[hA];simp[AD]));have bQ: ∀k,Id.is Q (0::k::π)=false:=fun k=>AE fun e=>Gr hR.run hu.out k (by rw[←e];exact V'.row_mem m (Bv.2 ⟨_,Ac hrow,by rw[BX];simp[AD]⟩));have AQ:Id.is A Q=false:=AE fun e=>by rw[←e,gA]at gQ;cases gQ
  have QA:Id.is Q A=false:=AE fun e=>by rw[e,gA]at gQ;cases gQ
  have Am:Id.is A m=false:=AE fun e=>by rw[e,hm2]at gA;cases gA
  have mA:Id.is m A=false:=AE fun e=>by rw[←e,hm2]at gA;cases gA
  have Qm:Id.is Q m=false:=AE fun e=>by rw[e,hm2]at gQ;cases gQ
  have mQ:Id.is m Q=false:=AE fun e=>by rw[←e,hm2]at gQ;cases gQ
  have hml:=fG (B3 hF hdd).ok hR.qr hq hmsg hmany;have hnx:=AA.mk (dR hR hu.out (B3 hF hdd).ok hc hkk hq hmsg hmany hA hrow (fun i c2 hi e2=>hdif.out j i c c2 hi hc e2) (b1:=b+81) (b':=b+54+33) (by omega));have hrow0:=AA.mk hrow;replace hiA:=AA.mk hiA;replace hiQ:=AA.mk hiQ;replace him:=AA.mk him;replace hap:=AA.mk hap;have hown:=AA.mk fun(H':AB) (n:Nat) (hH:H'.get m=H.get m)=>Vg (ds:=p.defs) (g:=g) (d:=d) (hH.trans hm2) (AF um n) g0 hdd (B3 hF hdd).ok.be (B3 hF hdd).ok.ac (Ln hd.out) (Ll hF hd.out) true c c0 (by simpa using c1);rw[hA]at hm2;simp only[Aq]at hrow;replace hM2:=AA.mk hM2;replace hR:=AA.mk hR;have hfin:AA (∀(H2 g1:AB) (v':AV),Bz p sz π m V h (b+81) V' ⟨s',st.ev,0⟩ H2→H2.get A=some (.arr 4 V'.rows)→(∀k,H2.get (0::k::π)=H.get (0::k::π))→(∃y,g1.get Q=some (.d7 1 (List.take a (q.queue.map BF)++List.drop (a+1) (q.queue.map BF)++y)))→(∀i,Id.is Q i=false→g1.get i=H2.get i)→NF π H2 (b+81) v' (L++msg)→(∀i∈AD v',i∉V'.ids m∧HG (b+81) (b+54+33) π i=false)→(L++msg=[]→v'=.co)→
   AA (∃V2 s2 L2,Pr p sz π m V h st d g r t (j+1) (b+54+33) v' ((gc ((b+81)::π) g1).put A (.arr 4 (V'.rows.set (g.own d true c).toNat [.d (.int .i64 (q.group)),.d (.int .i64 (q.index)),.d (.int .i64 (q.at_)),.f8 Q 0 (q.queue.length-1)]))) V2 s2 L2)∧((gc ((b+81)::π) g1).put A (.arr 4 (V'.rows.set (g.own d true c).toNat [.d (.int .i64 (q.group)),.d (.int .i64 (q.index)),.d (.int .i64 (q.at_)),.f8 Q 0 (q.queue.length-1)]))).get (0::0::π)=some (.box [.d (.int .i64 (-1)),.d (.int .i64 (i)),.d (.int .i64 (k)),.d (.ce (t.map AL))])∧((gc ((b+81)::π) g1).put A (.arr 4 (V'.rows.set (g.own d true c).toNat [.d (.int .i64 (q.group)),.d (.int .i64 (q.index)),.d (.int .i64 (q.at_)),.f8 Q 0 (q.queue.length-1)]))).get (0::10::π)=some (.box [.d (.int .i64 (g.ge)),.d (.int .i64 (g.at_)),.d (.ce (g.env.map AJ))])∧((gc ((b+81)::π) g1).put A (.arr 4 (V'.rows.set (g.own d true c).toNat [.d (.int .i64 (q.group)),.d (.int .i64 (q.index)),.d (.int .i64 (q.at_)),.f8 Q 0 (q.queue.length-1)]))).get (0::26::π)=some (.box [.d (.int .i64 (r.at_)),.d (.ce (r.eq.map AL)),.d (.int .i64 (r.node))])):=⟨fun H2 g1 v' c1 c2 c3 c4 c5 c6 c7 c8=>by
   have gG: ∀i,Id.is A i=false→Id.is Q i=false→Id.under ((b+81)::π) i=false→((gc ((b+81)::π) g1).put A (.arr 4 (V'.rows.set (g.own d true c).toNat [.d (.int .i64 (q.group)),.d (.int .i64 (q.index)),.d (.int .i64 (q.at_)),.f8 Q 0 (q.queue.length-1)]))).get i=H2.get i:=fun i q0 q1 q2=>by rw[get_put,q0,Ci (by simp),Al _ _ _ q2,c5 i q1]
   have bx: ∀k,¬k=b+81→((gc ((b+81)::π) g1).put A (.arr 4 (V'.rows.set (g.own d true c).toNat [.d (.int .i64 (q.group)),.d (.int .i64 (q.index)),.d (.int .i64 (q.at_)),.f8 Q 0 (q.queue.length-1)]))).get (0::k::π)=H.get (0::k::π):=fun k hk=>(gG _ (bA k) (bQ k) (AW π hk)).trans (c3 k);refine⟨⟨hnx.out v' H2 _ c1 (gG m Am Qm uM) ?_ (c4.imp fun y hy=>?_) (fun id b1 b2 b3 b4=>gG id b2 b3 (Ia b4 (by omega) (by omega))) ?_ c7 c8⟩,(bx 0 (by omega)).trans k3,(bx 10 (by omega)).trans k4,(bx 26 (by omega)).trans k5⟩
   .rw[get_put,is_self];rfl
   .rw[get_put,AQ,Ci (by simp),Al _ _ _ uQ];exact hy
   .rcases c6 with c6|⟨l,l1,l2,n,l3,l4,l5⟩
    .exact .inl c6
    .refine .inr ⟨l,l1,?_,n,by omega,l4,l5⟩;have hl:=c7 l (by rw[l1];simp[AD]);have hA2:Id.is A l=false:=AE fun e=>hl.1 (e▸V'.v3_mem m (by rw[hA];simp[AD]));have hQ2:Id.is Q l=false:=AE fun e=>hl.1 (e▸V'.row_mem m (Bv.2 ⟨_,Ac hrow0.out,by rw[BX];simp[AD]⟩));rw[gG l hA2 hQ2 (Ia hl.2 (by omega) (by omega))];exact l2⟩
  rcases hR.out.env with⟨rfl,rfl⟩|⟨lid,rfl,hg,n,hnb,hun,hl⟩
  .refine ax ?_;refine Cf (hown.out _ _ rfl) (fun o1 g1 p1=>?_);subst p1;have lz:a<q.queue.length+zs.length:=by omega
   have w1:IntKind.i64.wrap ((a:Int)+1)=(a:Int)+1:=wrap_id (by omega) (by omega);have msx:(q.queue.map BF++zs)[a]? =some (BF msg):=by rw[Be (by simpa using hkq),Cs,hmsg];rfl
   have hdel:=fun(H2:AB) (hH:H2.get Q=some (.d7 1 (q.queue.map BF++zs)))=>NP (π:=(b+81)::π) hH uQ (n:=q.queue.length) (a:=a) (by simp) (by omega) (by intro e he;obtain⟨x,_,rfl⟩:=Em.1 he;rfl) (by omega);replace hdel:=AA.mk hdel;by_cases hmz:msg=[]
   .subst hmz;refine ax ?_;refine AY (hdel.out _ ?_) (fun o1 g1 p1=>?_)
    .simp only[go_sem,gQ]
    obtain⟨rfl,p1,p2⟩:=p1;have fin:=hfin.out H g1 .co (hR.out.run.up (by omega)) gA (fun _=>rfl) p1 p2 (.inl ⟨rfl,rfl⟩) (fun i hi=>by simp[AD]at hi) (fun _=>rfl);replace fin:=AA.mk fin;have gG: ∀i,Id.is Q i=false→Id.under ((b+81)::π) i=false→(gc ((b+81)::π) g1).get i=H.get i:=fun i q1 q2=>by rw[Al _ _ _ q2,p2 i q1]
    replace p1:=AA.mk p1;replace p2:=AA.mk p2;refine ax ?_;exact IH.out ((_,_),b+54) fin.out
   .have ap:=eP (sz:=2) (msg.map AJ) (by simpa using hmz) (by intro e he;obtain⟨x,_,rfl⟩:=Em.1 he;rfl) (by decide) (by simp;omega);simp only[BY]at ap;replace hmz:=AA.mk hmz;refine ax ?_;refine AY (hdel.out _ ?_) (fun o1 g1 p1=>?_)
    .simp only[go_sem,gQ,nQ]
    obtain⟨rfl,p1,p2⟩:=p1;have fin:=hfin.out (H.put (1::(b+63)::π) (.d7 2 (msg.map AJ))) g1 (.f8 (1::(b+63)::π) 0 msg.length) ((hR.out.run.up (b':=b+63) (by omega)).loc hu.out (fun id hh=>by rw[get_put,hh 1 (b+63) (by omega)];rfl)|>.up (by omega)) (by simp only[go_sem,gA,nA]) (fun k=>by simp only[go_sem]) p1 p2 (Lv (by omega) rfl (by simp only[go_sem])) (fun i hi=>⟨(by simp only[AD,As]at hi;subst hi;exact hR.out.run.new hu.out 1 _ (by omega)),(by simp only[AD,As]at hi;subst hi;exact Nz (n:=b+63) (by omega) (under_iff.2 ⟨[1],rfl⟩))⟩) (fun e=>absurd (Ms.1 e).2 hmz.out);replace fin:=AA.mk fin;have gG: ∀i,Id.is Q i=false→Id.under ((b+81)::π) i=false→(gc ((b+81)::π) g1).get i=(H.put (1::(b+63)::π) (.d7 2 (msg.map AJ))).get i:=fun i q1 q2=>by rw[Al _ _ _ q2,p2 i q1]
    replace p1:=AA.mk p1;replace p2:=AA.mk p2;refine ax ?_;exact IH.out ((_,_),b+54) fin.out
  .obtain⟨f1,f2,f3,f4⟩:=FZ hnb hun hl;have hno:=hR.out.out lid (by simp[AD]);have lA2:Id.is lid A=false:=AE fun e=>hno (e▸V'.v3_mem m (by rw[hA];simp[AD]));have Al2:Id.is A lid=false:=AE fun e=>hno (e▸V'.v3_mem m (by rw[hA];simp[AD]));have lQ2:Id.is lid Q=false:=AE fun e=>hno (e▸V'.row_mem m (Bv.2 ⟨_,Ac hrow0.out,by rw[BX];simp[AD]⟩));have Ql2:Id.is Q lid=false:=AE fun e=>hno (e▸V'.row_mem m (Bv.2 ⟨_,Ac hrow0.out,by rw[BX];simp[AD]⟩));have lm:Id.is lid m=false:=AE fun e=>hno (e▸V'.m_mem m);have ml:Id.is m lid=false:=AE fun e=>hno (e▸V'.m_mem m);have hLl:=hR.out.len;have lz:a<q.queue.length+zs.length:=by omega
   have w1:IntKind.i64.wrap ((a:Int)+1)=(a:Int)+1:=wrap_id (by omega) (by omega);have msx:(q.queue.map BF++zs)[a]? =some (BF msg):=by rw[Be (by simpa using hkq),Cs,hmsg];rfl
   have hdel:=fun(H2:AB) (hH:H2.get Q=some (.d7 1 (q.queue.map BF++zs)))=>NP (π:=(b+81)::π) hH uQ (n:=q.queue.length) (a:=a) (by simp) (by omega) (by intro e he;obtain⟨x,_,rfl⟩:=Em.1 he;rfl) (by omega);replace hdel:=AA.mk hdel;replace hun:=AA.mk hun;replace hl:=AA.mk hl;by_cases hmz:msg=[]
   .subst hmz;refine ax ?_;refine Cf (hown.out _ _ rfl) (fun o1 g1 p1=>?_);subst p1;refine ax ?_;refine AY (hdel.out _ ?_) (fun o1 g1 p1=>?_)
    .simp only[go_sem,gQ]
    obtain⟨rfl,p1,p2⟩:=p1;have fin:=hfin.out H g1 (.f8 lid 0 L.length) (hR.out.run.up (by omega)) gA (fun _=>rfl) p1 p2 (.inr ⟨lid,by simp,by rw[hg,CS],n,by omega,hun.out,hl.out⟩) (fun i hi=>by simp only[AD,As]at hi;subst hi;exact⟨hno,Nz (n:=n) (by omega) hun.out⟩) (fun e=>by have:=hR.out.ne (Ms.1 e).1;cases this);replace fin:=AA.mk fin;have gG: ∀i,Id.is Q i=false→Id.under ((b+81)::π) i=false→(gc ((b+81)::π) g1).get i=H.get i:=fun i q1 q2=>by rw[Al _ _ _ q2,p2 i q1]
    replace p1:=AA.mk p1;replace p2:=AA.mk p2;refine ax ?_;exact IH.out ((_,_),b+54) fin.out
   .have ap:=QP (sz:=2) (id:=lid) (L.map AJ) (msg.map AJ) (by simpa using hmz) (by intro e he;obtain⟨x,_,rfl⟩:=Em.1 he;rfl) (by decide) (by simp;omega) L.length (by simp);simp only[BY]at ap;replace hmz:=AA.mk hmz;refine ax ?_;refine Cf (hown.out _ _ rfl) (fun o1 g1 p1=>?_);subst p1;refine ax ?_;refine AY (hdel.out _ ?_) (fun o1 g1 p1=>?_)
    .simp only[go_sem,gQ,nQ,lQ2]
    obtain⟨rfl,p1,p2⟩:=p1;obtain⟨H2,hH2⟩: ∃H2,H2=(H.put lid (.i5 0 [])).put (1::(b+63)::π) (.d7 2 (L.map AJ++msg.map AJ)):=⟨_,rfl⟩;have nl:=f1 1 (b+63) (by omega);have hr1:=(hR.out.run.oth (H:=H.put lid (.i5 0 [])) hno (BD hun.out) fun id e=>by rw[get_put,AE fun e2=>e e2.symm];rfl).up (b':=b+63) (by omega);have hr2:=(hr1.loc hu.out (H:=H2) fun id hh=>by rw[hH2,get_put,hh 1 (b+63) (by omega)];rfl).up (b':=b+81) (by omega);have fin:=hfin.out H2 g1 (.f8 (1::(b+63)::π) 0 (L.length+msg.length)) hr2 (by rw[hH2,get_put,nA _ _ (by omega),get_put,lA2];exact gA) (fun k=>by rw[hH2,get_put,AE (by simp),get_put,f4];rfl) p1 (fun i hi=>by rw[hH2];exact p2 i hi) (Lv (by omega) (by simp) (by rw[hH2,get_put,is_self,By];rfl)) (fun i hi=>⟨(by simp only[AD,As]at hi;subst hi;exact hR.out.run.new hu.out 1 _ (by omega)),(by simp only[AD,As]at hi;subst hi;exact Nz (n:=b+63) (by omega) (under_iff.2 ⟨[1],rfl⟩))⟩) (fun e=>absurd (Ms.1 e).2 hmz.out);replace fin:=AA.mk fin;have gG: ∀i,Id.is Q i=false→Id.under ((b+81)::π) i=false→(gc ((b+81)::π) g1).get i=((H.put lid (.i5 0 [])).put (1::(b+63)::π) (.d7 2 (L.map AJ++msg.map AJ))).get i:=fun i q1 q2=>by rw[Al _ _ _ q2,p2 i q1]
    replace p1:=AA.mk p1;replace p2:=AA.mk p2;replace hH2:=AA.mk hH2;replace hr1:=AA.mk hr1;replace hr2:=AA.mk hr2;refine ax ?_;exact IH.out ((_,_),b+54) fin.out
 .clear hm gW xW lW lW2 a3 a4 hm0;rintro j ⟨⟨v,H⟩,b⟩ hj hjm ⟨hR,k3,k4,k5⟩;dsimp only at*;obtain⟨V',s',L,hR⟩:=hR.out;have hm2:=hR.run.rep.box;simp only[Ah]at hm2;have hpl:=AA.mk fun(H':AB) (n:Nat) (hH:H'.get m=H.get m)=>L3 (ds:=p.defs) (g:=g) (d:=d) (hH.trans hm2) (AF um n) g0 hdd (B3 hF hdd).ok.be (B3 hF hdd).ok.ac (Ln hd.out) (Ll hF hd.out) r.at_ hri.out.at0 hri.out.at1;have hall:=hR.all;have hjob:=hjob.out;rw[hj.out,List.drop_length,th,CS]at hall;rw[hall]at hjob⊢;replace hjob:=AA.mk hjob;replace hR:=AA.mk hR;replace hall:=AA.mk hall;rcases hR.out.env with⟨rfl,rfl⟩|⟨lid,rfl,hg,n,hnb,hun,hl⟩
  .refine ax ?_;refine Cu (hpl.out _ _ ?_) (fun o1 g1 p1=>?_)
   .simp only[go_sem]
   subst p1;refine ax ?_;refine AY (IM (V:=V') (st:=⟨s',st.ev,0⟩) (Dd hR.out.run.rep (hR.out.run.apart hu.out (n:=b+47) (by omega)) ?_) (hR.out.run.apart hu.out (by omega)) 1 (g.place d r.at_) i k [] (by simp) (by dsimp only;omega)) (fun o1 g1 p1=>?_)
   .intro id b;rfl
   obtain⟨V2,hR2,_⟩:=hR.out.run.call hu.out (n:=b+47) (by omega) p1;have m4:=(hR.out.run.box hu.out (k:=10) (by omega) p1).trans k4;have m5:=(hR.out.run.box hu.out (k:=26) (by omega) p1).trans k5;obtain rfl:=p1.1;have gm2:=hR2.rep.box;simp only[Ah]at gm2;replace hR2:=AA.mk hR2;replace p1:=AA.mk p1;have hgl:=Ll hF hd.out;obtain⟨E,hE⟩: ∃E,E=g.env:=⟨_,rfl⟩;rw[←hE]at m4 hgl⊢;have h1:=JQ E (by omega);have hend:=AA.mk fun H2=>NU hF hu.out hR2.out (j:=⟨r.node,g.place d r.at_,E++[]⟩) ⟨hR.out.qr,by dsimp only;omega,by dsimp only;omega,by dsimp only;omega,by simp;omega⟩ (by rw[hE];exact hjob.out.2) H2 (b+57) (by omega);simp only[CS]at hend;replace hE:=AA.mk hE;by_cases h0:E.length=0;all_goals
    (first|(obtain rfl:=Dl h0;simp only[List.length_nil,CH,CO]at h1)|simp only[Cr h0]at h1);have fa:=CK
    refine ax ?_;refine Ew (hend.out _ fun id hh=>?_) (fun o2 g2 p2=>?_)
    .first|rfl|(have q1:=AE (a:=1::0::2::(b+54)::π) (b:=id) fun e=>(by have:=hh (b+54) (by omega);rw[←e,show Id.under ((b+54)::π) (1::0::2::(b+54)::π)=true from Ab [1,0,2]]at this;cases this);simp only[go_sem,q1,AM])
    obtain⟨p2,p3⟩:=p2;replace p2:=AA.mk p2;rcases p3 with rfl|rfl;all_goals
     refine ax ?_;exact p2.out
  .obtain⟨f1,f2,f3,f4⟩:=FZ hnb hun hl;have hno:=hR.out.out lid (by simp[AD]);have lm:Id.is lid m=false:=AE fun e=>hno (e▸V'.m_mem m);have ml:Id.is m lid=false:=AE fun e=>hno (e▸V'.m_mem m);have hLl:L.length≤90:=by have:=hR.out.len;have:=hj.out;omega
   have ul:Id.under ((b+47)::π) lid=false:=by
    cases hx:Id.under ((b+47)::π) lid with
    |false=>rfl
    |true=>have:=B6 hun hx;omega
   have hr0:=AA.mk (hR.out.run.oth (H:=H.put lid (.i5 2 (L.map AJ))) hno (BD hun) fun id e=>by rw[get_put,AE fun e2=>e e2.symm];rfl);replace hun:=AA.mk hun;replace hl:=AA.mk hl;refine ax ?_;refine Cu (hpl.out _ _ ?_) (fun o1 g1 p1=>?_)
   .simp only[go_sem]
   subst p1;refine ax ?_;have hmr:=Dd hr0.out.rep (hR.out.run.apart hu.out (n:=b+47) (by omega)) (h':=H.put lid (.i5 2 (L.map AJ))) fun _ _=>rfl;refine AY (IM (V:=V') (st:=⟨s',st.ev,0⟩) hmr (hR.out.run.apart hu.out (by omega)) 1 (g.place d r.at_) i k L (by omega) (by dsimp only;omega)) (fun o1 g1 p1=>?_);obtain⟨V2,hR2,_⟩:=hr0.out.call hu.out (n:=b+47) (by omega) p1;have m4:=(hr0.out.box hu.out (k:=10) (by omega) p1).trans ((show(H.put lid (.i5 2 (L.map AJ))).get (0::10::π)=H.get (0::10::π) by rw[get_put,f4];rfl).trans k4);have m5:=(hr0.out.box hu.out (k:=26) (by omega) p1).trans ((show(H.put lid (.i5 2 (L.map AJ))).get (0::26::π)=H.get (0::26::π) by rw[get_put,f4];rfl).trans k5);have ml2:=(Tu p1 hno ul).trans (show(H.put lid (.i5 2 (L.map AJ))).get lid=some (.i5 2 (L.map AJ)) by rw[get_put,is_self];rfl);obtain rfl:=p1.1;have gm2:=hR2.rep.box;simp only[Ah]at gm2;replace hR2:=AA.mk hR2;replace p1:=AA.mk p1;have hgl:=Ll hF hd.out;obtain⟨E,hE⟩: ∃E,E=g.env:=⟨_,rfl⟩;rw[←hE]at m4 hgl⊢;have h1:=JQ E (by omega);have hend:=AA.mk fun H2=>NU hF hu.out hR2.out (j:=⟨r.node,g.place d r.at_,E++L⟩) ⟨hR.out.qr,by dsimp only;omega,by dsimp only;omega,by dsimp only;omega,by simp;omega⟩ (by rw[hE];exact hjob.out.2) H2 (b+57) (by omega);replace hE:=AA.mk hE;by_cases hLz:L=[]
   .have:=hR.out.ne hLz;cases this
   .have hL0: ¬L.map AJ=[]:=by simpa using hLz
    have tk:List.take L.length ((L.map AJ).map fun x=>x.map AV.d)=(L.map AJ).map fun x=>x.map AV.d:=DL (by simp);have n54: ∀l,Id.is (l++(b+54)::π) lid=false:=fun l=>AE fun e=>by
     have:=B6 (n:=n) (n':=b+54) hun.out (by rw[←e];exact Ab l);omega
    have n54': ∀l,Id.is lid (l++(b+54)::π)=false:=fun l=>AE fun e=>by
     have:=B6 (n:=n) (n':=b+54) hun.out (by rw[e];exact Ab l);omega
    have n55:=n54 [1,0,2];have n55':=n54' [1,0,2];simp only[Ge,D8]at n55 n55';have tk2:List.take (E.length+L.length) (E.map AJ++L.map AJ)=E.map AJ++L.map AJ:=DL (by simp);replace n54:=AA.mk n54;replace n54':=AA.mk n54';replace hLz:=AA.mk hLz;by_cases h0:E.length=0
    .have ap:=eP (sz:=2) (L.map AJ) hL0 (by intro e he;obtain⟨x,_,rfl⟩:=Em.1 he;rfl) (by decide) (by simp;omega);simp only[BY]at ap;replace hL0:=AA.mk hL0
     (first|(obtain rfl:=Dl h0;simp only[List.length_nil,CH,CO]at h1)|simp only[Cr h0]at h1);have fa:=CK
     simp only[D8]at hend⊢;refine ax ?_;refine Ew (hend.out _ fun id hh=>?_) (fun o2 g2 p2=>?_)
     .have q1:=AE (a:=1::0::2::(b+54)::π) (b:=id) fun e=>(by have:=hh (b+54) (by omega);rw[←e,show Id.under ((b+54)::π) (1::0::2::(b+54)::π)=true from Ab [1,0,2]]at this;cases this);have q2:=AE (a:=1::(b+56)::π) (b:=id) fun e=>(by have:=hh (b+56) (by omega);rw[←e,show Id.under ((b+56)::π) (1::(b+56)::π)=true from Ab [1]]at this;cases this);simp only[go_sem,q1,q2,AM]
     obtain⟨p2,p3⟩:=p2;replace p2:=AA.mk p2;rcases p3 with rfl|rfl;all_goals
      refine ax ?_;exact p2.out
    .have ap:=QP (sz:=2) (id:=1::0::2::(b+54)::π) (E.map AJ) (L.map AJ) hL0 (by intro e he;obtain⟨x,_,rfl⟩:=Em.1 he;rfl) (by decide) (by simp;omega) E.length (by simp);simp only[BY]at ap;replace hL0:=AA.mk hL0
     (first|(obtain rfl:=Dl h0;simp only[List.length_nil,CH,CO]at h1)|simp only[Cr h0]at h1);have fa:=CK
     have hend:=hend.out;simp only[By]at hend;replace hend:=AA.mk hend;refine ax ?_;refine Ew (hend.out _ fun id hh=>?_) (fun o2 g2 p2=>?_)
     .have q1:=AE (a:=1::0::2::(b+54)::π) (b:=id) fun e=>(by have:=hh (b+54) (by omega);rw[←e,show Id.under ((b+54)::π) (1::0::2::(b+54)::π)=true from Ab [1,0,2]]at this;cases this);have q2:=AE (a:=1::(b+56)::π) (b:=id) fun e=>(by have:=hh (b+56) (by omega);rw[←e,show Id.under ((b+56)::π) (1::(b+56)::π)=true from Ab [1]]at this;cases this);simp only[go_sem,q1,q2,AM]
     obtain⟨p2,p3⟩:=p2;replace p2:=AA.mk p2;rcases p3 with rfl|rfl;all_goals
      refine ax ?_;exact p2.out
end Go.Proofs
namespace Go.Abs
theorem YN(T:TypeId→Option TI)(g:G)(i:TI)(id:Id)(off n:Nat)(hn:0<n)(hk:i.kind=.slice):FP T g (some i) (.f8 id off n)=Zv g id off n (T i.elem):=by
 obtain⟨m,rfl⟩: ∃m,n=m+1:=⟨n-1,by omega⟩;unfold FP;simp only[hk];cases T i.elem<;>rfl
theorem pS{h h':AB}{id:Id}{o:Obj}(h1:h.get id=some o)(h2:Obj.same o (h'.get id)=true):(TL h h').all (fun y=> !Id.is id y)=true:=by
 rw[Ce];intro y hy;rw[AE]
 .rfl
 .intro e;subst e;obtain⟨p,hp,rfl⟩:=Em.1 hy;have:=(PI.1 hp).2;rw[h1]at this;simp only[h2]at this;cases this
end Go.Abs
namespace Go.Proofs
open Go Go.Abs
set_option maxRecDepth 100000
set_option maxHeartbeats 4000000
structure MQ(h:AB)(π:List Nat)(m bx S:Abs.Id)(L:List A7):Prop where
 gb:h.get bx=some (.box [.ptr m 0])
 gm: ∃x1 x2 x3 x4 x5 x6 x7 x8 x9 x10 x11 x12,h.get m=some (.box [.f8 S 0 L.length,x1,x2,x3,x4,x5,x6,x7,x8,x9,x10,x11,x12])
 gS: ∃y,h.get S=some (.d7 2 (L.map Aj++y))
 ub:Id.under π bx=false
 um:Id.under π m=false
 uS:Id.under π S=false
variable{h:AB}{π:List Nat}{m bx S:Abs.Id}{L:List A7}
theorem MQ.up{h':AB}{ρ:List Nat}(hD:MQ h π m bx S L)(hk: ∀i,Id.under π i=false→i=bx∨i=m∨i=S→h'.get i=h.get i)(hp: ∀i,Id.under π i=false→Id.under ρ i=false):MQ h' ρ m bx S L:=by
 refine⟨(hk _ hD.ub (by simp)).trans hD.gb,?_,?_,hp _ hD.ub,hp _ hD.um,hp _ hD.uS⟩
 .rw[hk _ hD.um (by simp)];exact hD.gm
 .rw[hk _ hD.uS (by simp)];exact hD.gS
theorem eZ(hD:MQ h π m bx S L)(w:Fk)(hw:En L w.at_):
 ∃o h',KL Tryz.prog cfg (.fn 163) [.agg [.d (.int .i64 (w.at_)),.d (.int .i64 (w.node)),.d (.ce (w.env.map AJ))],.ptr bx 0] h π true (some π)=.ok (o,h')∧o=.ret (.d (.bool (AX L w.at_))):=by
 obtain⟨hb,⟨x1,x2,x3,x4,x5,x6,x7,x8,x9,x10,x11,x12,hm⟩,⟨y,hS⟩,u1,u2,u3⟩:=hD;have e1:=AG u1;have e2:=AG u2;have e3:=AG u3;have w0:=hw.1;have w1:=hw.2;obtain⟨sp,hsp⟩:=get_some (l:=L) (i:=w.at_.toNat) (by omega);have lS:w.at_.toNat<L.length:=by omega
 have lS2:w.at_.toNat<L.length+y.length:=by omega
 have hx:(L.map Aj++y)[w.at_.toNat]? =some (Aj sp):=by rw[Be (by simpa using lS),Cs,hsp];rfl
 have hd:AX L w.at_=sp.dead:=by rw[AX,hsp];rfl
 rw[hd]
 (refine Af rfl Tryz.func163 rfl rfl rfl ?_;show Wp _ _ _ _ (Tryz.f163.body.get rfl) _ _;simp only[Tryz.f163,AS])
 exact af
inductive Ue{α:Type}(f:α→Bool)(l:List α):Int→Prop
 |none:(∀x∈l,f x=false)→Ue f l (-1)
 |some (k:Nat):(∀x∈l.take k,f x=false)→(∃x,l[k]? =some x∧f x=true)→Ue f l k
theorem Th{h:AB}{π:List Nat}{m bx S:Abs.Id}{L:List A7}(hD:MQ h π m bx S L)(l:List Fk)(hl:l.length≤1000000)(hw: ∀w∈l,En L w.at_):
 ∃o h',KL Tryz.prog cfg (.fn 185) [.d (.ce (l.map AO)),.fn 163 [] [.ptr bx 0]] h π true (some π)=.ok (o,h')∧ ∃r,o=.ret (.d (.int .i64 (r)))∧Ue (fun w:Fk=>AX L w.at_) l r:=by
 have hD0:=AA.mk hD;clear hD;have hw0:=AA.mk hw;clear hw
 (refine Af rfl Tryz.func185 rfl rfl rfl ?_;show Wp _ _ _ _ (Tryz.f185.body.get rfl) _ _;simp only[Tryz.f185,AS])
 refine ax ?_;refine AU l _ (S:=fun m' i (a:AB×Nat)=>⟨[(0,.d (.ce (l.map AO))),(1,.fn 163 [] [.ptr bx 0]),(7,.d (.int .i64 (m'))),(8,.d (.int .i64 (i)))],a.1,a.2+4,[]⟩)
  (Inv:=fun i rest a=>AA ((∀x,Id.under π x=false→a.1.get x=h.get x)∧ ∀w∈l.take i,AX L w.at_=false)) (b0:=(h,0)) rfl ⟨⟨fun _ _=>rfl,by simp⟩⟩ ?_ ?_
 .rintro i w ⟨g,b⟩ hy hi him hI IH;dsimp only at*;have hfd:AA (∀H n,(∀x,Id.under π x=false→H.get x=g.get x)→ ∃o h',KL Tryz.prog cfg (.fn 163) [.agg [.d (.int .i64 (w.at_)),.d (.int .i64 (w.node)),.d (.ce (w.env.map AJ))],.ptr bx 0] H (n::π) true (some (n::π))=.ok (o,h')∧o=.ret (.d (.bool (AX L w.at_)))):=⟨fun H n hH=>eZ (hD0.out.up (fun x hx _=>(hH x hx).trans (hI.out.1 x hx)) fun x hx=>AF hx n) w (hw0.out w (Ac hy))⟩;refine ax ?_;refine Cu (hfd.out _ _ fun x hx=>rfl) (fun o1 g1 p1=>?_);subst p1;cases hdd:AX L w.at_ with
  |true=>
   refine ax ?_;exact⟨_,rfl,.some i hI.out.2 ⟨w,hy,hdd⟩⟩
  |false=>
   refine ax ?_;refine IH.out (g,b+11) ⟨⟨hI.out.1,fun x hx=>?_⟩⟩;rw[Is,hy]at hx;rcases D5.1 hx with hx|hx
   .exact hI.out.2 x hx
   .simp only[Option.toList_some,As]at hx;subst hx;exact hdd
 .rintro i ⟨g,b⟩ hi him hI;dsimp only at*;have hI2:AA (∀w∈l,AX L w.at_=false):=⟨by have:=hI.out.2;rwa [hi.out,EM]at this⟩;refine ax ?_;exact⟨_,rfl,.none hI2.out⟩
theorem vH{h:AB}{π:List Nat}{m bx S W:Abs.Id}{L:List A7}(hD:MQ h π m bx S L)(l:List Fk){x:List (List AR)}(hg:h.get W=some (.d7 3 (l.map AO++x)))(uW:Id.under π W=false)(hW:W≠bx∧W≠m∧W≠S){n:Nat}(hn:n=l.length)(hl:l.length≤1000000)(hw: ∀w∈l,En L w.at_):
 ∃o h',KL Tryz.prog cfg (.fn 162) [.f8 W 0 n,.fn 163 [] [.ptr bx 0]] h π true none=.ok (o,h')∧ ∃y,o=.ret (.f8 W 0 (l.filter fun w=> !AX L w.at_).length)∧h'.get W=some (.d7 3 ((l.filter fun w=> !AX L w.at_).map AO++y))∧ ∀i,Id.is W i=false→Id.under π i=false→h'.get i=h.get i:=by
 subst hn;have q1:=AG uW;have q2:=Av uW;have hD0:=AA.mk hD;have hw0:=AA.mk hw;clear hw;have hix:=AA.mk fun(H:AB) (k:Nat) (hH: ∀i,i=bx∨i=m∨i=S→H.get i=h.get i)=>Th (π:=k::π) (hD0.out.up (ρ:=k::π) (fun i _ hi=>hH i hi) fun x hx=>AF hx k) l hl hw0.out;have hu3:AA (∀i,i=bx∨i=m∨i=S→Id.under π i=false):=⟨fun i hi=>by rcases hi with rfl|rfl|rfl;exact hD.ub;exact hD.um;exact hD.uS⟩
 clear hD;obtain⟨f,hf⟩: ∃f:Fk→Bool,f=fun w=> !AX L w.at_:=⟨_,rfl⟩;rw[←hf];replace hf:=AA.mk hf
 (refine Af rfl Tryz.func162 rfl rfl rfl ?_;show Wp _ _ _ _ (Tryz.f162.body.get rfl) _ _;simp only[Tryz.f162,AS])
 refine ax ?_;refine Cu (hix.out _ 3 ?_) (fun o1 g1 p1=>?_)
 .rintro i (rfl|rfl|rfl)
  .rw[get_put,AE hW.1];rfl
  .rw[get_put,AE hW.2.1];rfl
  .rw[get_put,AE hW.2.2];rfl
 obtain⟨r,rfl,hr⟩:=p1;cases hr with
 |none hall=>
  have hfl:AA (l.filter f=l):=⟨List.filter_eq_self.2 fun w hw=>by rw[hf.out];simp[hall w hw]⟩;replace hall:=AA.mk hall;refine ax ?_;rw[hfl.out];exact⟨x,rfl,rfl,fun _ _ _=>trivial⟩
 |some k hbe hk=>
  obtain⟨w0,hw1,hw2⟩:=hk;have hkl:=AH hw1;have hneg: ¬(k:Int)= -1:=by omega
  replace hbe:=AA.mk hbe;have hfk:((l.take (k+1)).filter f)=l.take k:=by
   rw[Is,hw1,List.filter_append,List.filter_eq_self.2 fun w hw=>by rw[hf.out];simp[hbe.out w hw]];simp[hf.out,hw2]
  have hlk:(l.take k).length=k:=by rw[He];omega
  replace hw2:=AA.mk hw2;refine ax ?_;refine rounds (S:=fun(a:(Nat×Nat)×AB×Nat)=>⟨[(0,.f8 W 0 l.length),(1,.fn 163 [] [.ptr bx 0]),(5,.d (.int .i64 (a.1.2))),(6,.d (.int .i64 (a.1.1)))],a.2.1,a.2.2+10,[]⟩)
   (Inv:=fun a=>a.1.2<a.1.1∧a.1.1≤l.length∧AA (∃Y,a.1.2+Y.length=a.1.1∧(∀e∈Y,e.length=3)∧((l.take a.1.1).filter f).length=a.1.2∧a.2.1.get W=some (.d7 3 (((l.take a.1.1).filter f).map AO++(Y++((l.drop a.1.1).map AO++x)))))∧AA (∀i,Id.is W i=false→Id.under π i=false→a.2.1.get i=h.get i)) (m:=fun a=>l.length-a.1.1) (a:=((k+1,k),h,0)) ⟨by dsimp only;omega,by dsimp only;omega,⟨[AO w0],rfl,by simp[AO],by dsimp only;rw[hfk,hlk],?_⟩,⟨fun _ _ _=>rfl⟩⟩ ?_
  .dsimp only;rw[hfk,hg];have:=LQ hw1;rw[show l.map AO=(l.take k).map AO++([AO w0]++(l.drop (k+1)).map AO) by rw[←List.map_singleton,←By,←By];exact congrArg _ this];simp
  .rintro⟨⟨j,i⟩,g,b⟩ ⟨j1,j2,hY,hfr⟩ IH;dsimp only at*;obtain⟨Y,hYl,hY3,hfi,hgW⟩:=hY.out;by_cases hjl:j<l.length
   .obtain⟨w,hw⟩:=get_some hjl;have hFl:((l.take j).filter f).map AO++(Y++((l.drop j).map AO++x))=(((l.take j).filter f).map AO++Y)++((l.drop j).map AO++x):=by simp
    have hal:(((l.take j).filter f).map AO++Y).length=j:=by rw[CE,BY];omega
    have hix:(((l.take j).filter f).map AO++(Y++((l.drop j).map AO++x)))[j]? =some (AO w):=by
     rw[hFl,CI (by omega),hal,LI,Ae hw];rfl
    have hjx:j<(((l.take j).filter f).map AO++(Y++((l.drop j).map AO++x))).length:=AH hix;have hfd:AA (∀H n,(∀i,i=bx∨i=m∨i=S→H.get i=g.get i)→ ∃o h',KL Tryz.prog cfg (.fn 163) [.agg [.d (.int .i64 (w.at_)),.d (.int .i64 (w.node)),.d (.ce (w.env.map AJ))],.ptr bx 0] H (n::π) true (some (n::π))=.ok (o,h')∧o=.ret (.d (.bool (AX L w.at_)))):=⟨fun H n hH=>eZ (hD0.out.up (fun i hu hi=>(hH i hi).trans (hfr.out i (AE fun e=>by subst e;rcases hi with e|e|e;exact hW.1 e;exact hW.2.1 e;exact hW.2.2 e) hu)) fun x hx=>AF hx n) w (hw0.out w (Ac hw))⟩
    have hjl2:(j:Int)<l.length:=by omega
    obtain⟨ar,har⟩: ∃ar,ar=((l.take j).filter f).map AO++(Y++((l.drop j).map AO++x)):=⟨_,rfl⟩;rw[←har]at hix hgW hjx;replace har:=AA.mk har;refine ax ?_;refine Cu (hfd.out _ _ ?_) (fun o1 g1 p1=>?_)
    .intro i hi;have q:=AG (hu3.out i hi);simp only[go_sem,q,AM]
    subst p1;have ht:(l.take (j+1)).filter f=(l.take j).filter f++if f w=true then [w]else []:=by
     rw[Is,hw,List.filter_append];simp[Rd]
    cases hdd:AX L w.at_ with
    |true=>
     have hfw:f w=false:=by rw[hf.out];simp[hdd]
     rw[hfw,Ci (by simp),CS]at ht;replace hfw:=AA.mk hfw;replace ht:=AA.mk ht;refine ax ?_;refine IH.out ((j+1,i),_,b+17) (by dsimp only;omega) ⟨by dsimp only;omega,by dsimp only;omega,⟨Y++[AO w],by simp;omega,?_,by rw[ht.out];exact hfi,?_⟩,⟨fun i2 u1 u2=>?_⟩⟩
     .intro e he;rcases D5.1 he with he|he
      .exact hY3 e he
      .rw[As]at he;subst he;rfl
     .rw[ht.out];dsimp only;rw[get_put,AE (by intro e;exact absurd (AG uW 0 (b+18)) (by rw[e,is_self];simp)),get_put,AE (by intro e;exact absurd (AG uW 0 (b+18)) (by rw[e,is_self];simp))];simp only[AM,Ex];rw[hgW,har.out,Ae hw];simp
     .dsimp only;rw[get_put,AG u2,get_put,AG u2];exact hfr.out i2 u1 u2
    |false=>
     have hfw:f w=true:=by rw[hf.out];simp[hdd]
     rw[hfw,D1 rfl]at ht;have hil:i<ar.length:=by omega
     have w1:IntKind.i64.wrap ((i:Int)+1)=(i:Int)+1:=wrap_id (by omega) (by omega);replace hfw:=AA.mk hfw;replace ht:=AA.mk ht;obtain⟨e0,he0⟩:=get_some (l:=ar) (i:=i) hil;have hil2:i<l.length:=by omega
     have hY0:0<Y.length:=by omega
     obtain⟨y0,Y',rfl⟩: ∃y0 Y',Y=y0::Y':=by
      cases Y with
      |nil=>simp at hY0
      |cons y0 Y'=>exact⟨y0,Y',rfl⟩
     have hle:i=(((l.take j).filter f).map AO).length:=by rw[BY,hfi]
     have he:e0=y0:=by
      rw[har.out,CI (by omega),hle,LI]at he0;simpa using he0.symm
     subst he;obtain⟨z0,z1,z2,rfl⟩: ∃a b c,e0=[a,b,c]:=by
      have:=hY3 e0 (by simp)
      match e0,this with
      |[a,b,c],_=>exact⟨a,b,c,rfl⟩
     replace hle:=AA.mk hle;have hset:AA (ar.set i (AO w)=((l.take (j+1)).filter f).map AO++((Y'++[AO w])++((l.drop (j+1)).map AO++x))):=⟨by
      rw[har.out,ht.out,List.set_append_right _ _ (Nat.le_of_eq hle.out.symm),←hle.out,LI,Ge,List.set_cons_zero,Ae hw];simp⟩
     refine ax ?_;refine IH.out ((j+1,i+1),_,b+25) (by dsimp only;omega) ⟨by dsimp only;omega,by dsimp only;omega,⟨Y'++[AO w],by simp at hYl⊢;omega,?_,by rw[ht.out];simp[hfi],?_⟩,⟨fun i2 u1 u2=>?_⟩⟩
     .intro e he;rcases D5.1 he with he|he
      .exact hY3 e (by simp[he])
      .rw[As]at he;subst he;rfl
     .dsimp only;rw[←hset.out];simp only[go_sem]
     .simp only[go_sem,u1,AG u2];exact hfr.out i2 u1 u2
   .have hje:j=l.length:=by omega
    rw[hje,EM]at hfi hgW;rw[List.drop_length,CO,D8]at hgW;have hjl2: ¬(j:Int)<l.length:=by omega
    have hYl2:Y.length=l.length-i:=by omega
    obtain⟨F,hF⟩: ∃F,F=l.filter f:=⟨_,rfl⟩;rw[←hF]at hfi hgW⊢;have hi0:0<l.length-i:=by omega
    have hFm:(F.map AO).length=i:=by simpa using hfi
    have c5:=R6 (g:=g.get) (n:=l.length) hgW (a:=i) (by omega) (by omega) (by simp;omega) (by simp;omega);simp only[F7]at c5;have c6: ∀(j:TI),j.size=3→j.zero=[.d (.int .i64 (0)),.d (.int .i64 (0)),.co]→Gv g.get W i (l.length-i) j=some ⟨.undef,[(W,.d7 3 (F.map AO++(List.replicate (l.length-i) [.int .i64 0,.int .i64 0,.ce []]++x)))]⟩:=fun j e1 e2=>by
     rw[W4 (z:=[.int .i64 0,.int .i64 0,.ce []]) hgW e1 (by rw[e2];rfl) rfl ⟨⟨by rw[e2];rfl,by rw[e2];rfl⟩,by decide⟩ (by simp;omega),List.take_left' hFm,show F.map AO++(Y++x)=(F.map AO++Y)++x from(D3 ..).symm,List.drop_left' (l₁:=F.map AO++Y) (by rw[CE,hFm,hYl2])]
    have c7:=fun(g':G) (hg':g' W=some (.d7 3 (F.map AO++(List.replicate (l.length-i) [.int .i64 0,.int .i64 0,.ce []]++x))))=>R5 (n:=l.length) hg' (b:=i) (by omega) (by simp;omega) (by simp;omega);simp only[F7]at c7;have hcl:=fun T' (i0:TI)=>YN T' g.get i0 W i (l.length-i) hi0;replace hF:=AA.mk hF;replace hfi:=AA.mk hfi;replace hje:=AA.mk hje;replace hYl2:=AA.mk hYl2;replace hYl:=AA.mk hYl;replace hFm:=AA.mk hFm;refine ax ?_;exact⟨_,by rw[hfi.out],rfl,fun i2 u1 u2=>by rw[u1,Ci (by simp)];exact hfr.out i2 u1 u2⟩
theorem vI{h:AB}{π:List Nat}{m bx S:Abs.Id}{L:List A7}(hD:MQ h π m bx S L)(l:List Fk){v:AV}(hv:Kc h 3 v (l.map AO))(uv: ∀i∈AD v,Id.under π i=false∧i≠bx∧i≠m∧i≠S)(hl:l.length≤1000000)(hw: ∀w∈l,En L w.at_):
 ∃o h',KL Tryz.prog cfg (.fn 162) [v,.fn 163 [] [.ptr bx 0]] h π true none=.ok (o,h')∧ ∃v',o=.ret v'∧Kc h' 3 v' ((l.filter fun w=> !AX L w.at_).map AO)∧AD v'=AD v∧(v'.isCell=true∧v'.cells=[v'])∧ ∀i,(∀id∈AD v,Id.is id i=false)→Id.under π i=false→h'.get i=h.get i:=by
 rcases hv with⟨rfl,hz⟩|⟨W,x,rfl,hg⟩
 .have hz:=F9.1 hz;subst hz;have hix:=AA.mk fun(H:AB) (k:Nat) (hH: ∀i,i=bx∨i=m∨i=S→H.get i=h.get i)=>Th (π:=k::π) (hD.up (ρ:=k::π) (fun i _ hi=>hH i hi) fun x hx=>AF hx k) [] hl hw;clear hD
  (refine Af rfl Tryz.func162 rfl rfl rfl ?_;show Wp _ _ _ _ (Tryz.f162.body.get rfl) _ _;simp only[Tryz.f162,AS])
  refine ax ?_;refine Cu (hix.out _ 3 fun _ _=>rfl) (fun o1 g1 p1=>?_);obtain⟨r,rfl,hr⟩:=p1;cases hr with
  |none _=>
   refine ax ?_;exact⟨_,rfl,.inl ⟨rfl,rfl⟩,rfl,⟨rfl,rfl⟩,fun _ _ _=>trivial⟩
  |some k _ hk=>
   obtain⟨_,hk,_⟩:=hk;simp at hk
 .obtain⟨u1,u2,u3,u4⟩:=uv W (by simp[AD]);rw[BY];obtain⟨o,h',k1,y,rfl,k2,k3⟩:=vH hD l hg u1 ⟨u2,u3,u4⟩ rfl hl hw;exact⟨_,h',k1,_,rfl,.inr ⟨W,y,by rw[BY],k2⟩,rfl,⟨rfl,rfl⟩,fun i q1 q2=>k3 i (q1 W (by simp[AD])) q2⟩
end Go.Proofs
namespace Go.Proofs
open Go Go.Abs
def Kt(l:List A7)(at_:Int)(n:Nat):List A7:=(Kb l at_).take n++l.drop n
variable{n:Nat}
theorem Qi(l:List A7)(at_:Int)(hn:n≤l.length):(Kt l at_ n).length=l.length:=by
 rw[Kt,CE,He,I2,Ec];omega
theorem NQ(l:List A7)(at_:Int)(hn:n≤l.length)(k:Nat):(Kt l at_ n)[k]? =(l[k]?).map fun x=>if k<n then{x with dead:=x.dead||Cc l k at_}else x:=by
 have hl:((Kb l at_).take n).length=n:=by rw[He,Ec];omega
 rw[Kt];by_cases hk:k<n
 .rw[Be (by omega),Io,D1 hk,U7];simp[hk]
 .rw[CI (by omega),hl,Gs,show n+(k-n)=k by omega];cases l[k]? <;>simp[hk]
theorem gk(l:List A7)(at_:Int):Kt l at_ 0=l:=by simp[Kt]
theorem pN(l:List A7)(at_:Int):Kt l at_ l.length=Kb l at_:=by
 rw[Kt,List.drop_length,CS,DL (by rw[Ec];exact D6 _)]
theorem gj{l:List A7}{at_:Int}{n:Nat}{x:A7}(hx:l[n]? =some x):Kt l at_ (n+1)=(Kt l at_ n).set n {x with dead:=x.dead||Cc l n at_}:=by
 have hn:=AH hx;refine List.ext_getElem? fun k=>?_;rw[NQ l at_ (by omega),HU,Qi l at_ (by omega),NQ l at_ (by omega)];by_cases e:n=k
 .subst e;rw[D1 rfl,D1 hn,hx,D9,D1 (by omega)]
 .rw[Ci e];congr 1;funext y;by_cases h:k<n
  .rw[D1 h,D1 (by omega)]
  .rw[Ci h,Ci (by omega)]
variable{l:List A7}{at_:Int}
theorem vJ{x:A7}(hx:l[n]? =some x):(Kt l at_ n)[n]? =some x:=by
 have hn:=AH hx;rw[NQ l at_ (by omega),hx];simp
theorem pO(l:List A7)(at_:Int)(hn:n≤l.length)(i:Int):A5 (Kt l at_ n) i=A5 l i:=by
 rw[A5,A5,NQ l at_ hn];cases l[i.toNat]? with
 |none=>rfl
 |some x=>
  simp only[D9,F4];split<;>rfl
variable{m:List A7}
theorem R3(hp: ∀i,A5 m i=A5 l i)(hl:m.length=l.length): ∀(k:Nat) (i:Int),BA m k i=BA l k i
 |0,i=>rfl
 |k+1,i=>by
  rw[BA,BA,hp,R3 hp hl k];congr 2;exact decide_eq_decide.2 (by unfold En;rw[hl])
theorem Y8(hp: ∀i,A5 m i=A5 l i): ∀(k:Nat) (i:Int),Pk m k i=Pk l k i
 |0,i=>rfl
 |k+1,i=>by rw[Pk,Pk,hp,Y8 hp k]
theorem mh(hp: ∀i,A5 m i=A5 l i)(hl:m.length=l.length)(h:Fu l):Fu m:=
 ⟨by rw[hl];exact h.pos,by rw[hp];exact h.top,fun i hi=>by rw[R3 hp hl,hl];exact h.rx i (by rw[En,hl]at hi;exact hi)⟩
theorem Y9(hp: ∀i,A5 m i=A5 l i)(hl:m.length=l.length)(b a:Int):Cc m b a=Cc l b a:=by
 rw[Cc,Cc,hl,Y8 hp]
def Qf(l:List A7)(q:Fg):Fg:=if AX l q.at_=true then{q with queue:=[]}else q
def Ma(l:List A7)(c:List Fg)(n:Nat):List Fg:=(c.take n).map (Qf l)++c.drop n
theorem gV(l:List A7)(c:List Fg):Ma l c 0=c:=by simp[Ma]
theorem pF(l:List A7)(c:List Fg):Ma l c c.length=c.map (Qf l):=by simp[Ma]
theorem pG(l:List A7)(c:List Fg)(hn:n≤c.length):(Ma l c n).length=c.length:=by
 rw[Ma,CE,BY,He,I2];omega
variable{q:Fg}
theorem U4{c:List Fg}(hq:c[n]? =some q):(Ma l c n)[n]? =some q:=by
 have hn:=AH hq;have hl:((c.take n).map (Qf l)).length=n:=by rw[BY,He];omega
 rw[Ma,CI (by omega),hl,LI,Ae hq];rfl
theorem gU{c:List Fg}(hq:c[n]? =some q):Ma l c (n+1)=(Ma l c n).set n (Qf l q):=by
 have hn:=AH hq;have hl:((c.take n).map (Qf l)).length=n:=by rw[BY,He];omega
 rw[Ma,Ma,Is,hq,List.set_append_right _ _ (by omega),hl,LI,Ae hq];simp
theorem vL(s:A9)(at_:Int):OW s at_=⟨Kb s.ac at_,s.bv,s.be.map (Qf (Kb s.ac at_)),s.waits.filter fun w=> !AX (Kb s.ac at_) w.at_⟩:=rfl
set_option maxRecDepth 100000
set_option maxHeartbeats 4000000
theorem ZB{α:Type}{l:List α}{i:Nat}{x:α}(h:l[i]? =some x):l.set i x=l:=by
 obtain⟨h1,h2⟩:=BE.1 h;rw[←h2];exact List.set_getElem_self h1
variable{p:AI}{sz:List Int}{V:MV}
theorem og{V2:MV}{w w2:Int}(h:Ah p sz V w=Ah p sz V2 w2):V2.v3=V.v3:=by
 simp only[Ah,Md]at h;exact h.2.2.1.symm
theorem yr(hF:BC p sz){h:AB}{π:List Nat}{m:Abs.Id}{st:B7}(hM:Dt p sz h m V st)(hu:Bn π V m)(hs:FB p sz st.d9)(ha:En st.d9.ac at_)(hev:st.ev.length≤900000):
 ∃o h',KL Tryz.prog cfg (.fn 102) [.ptr m 0,.d (.int .i64 (at_))] h π true none=.ok (o,h')∧Eo p sz π m V h (some ⟨OW st.d9 at_,st.ev++[⟨3,at_,0,0,[]⟩],st.work⟩) o h':=by
 have hm:=hM.box;simp only[Ah]at hm;have um:=hu m (V.m_mem m);have e1:=AG um;have e2:=Av um;have hss:=hs.small;simp only[A9.small,AP,Ap]at hss;obtain⟨s1,s2,s3,s4⟩:=hss;have a0:=ha.1;have a1:=ha.2;replace hM:=AA.mk hM;replace hu:=AA.mk hu;replace hs:=AA.mk hs;replace ha:=AA.mk ha
 (refine Af rfl Tryz.func102 rfl rfl rfl ?_;show Wp _ _ _ _ (Tryz.f102.body.get rfl) _ _;simp only[Tryz.f102,AS])
 refine ax ?_;refine AY (IM (V:=V) (st:=st) (Dd hM.out hu.out ?_) (hu.out.ext _) 3 at_ 0 0 [] (by simp) (by omega)) (fun o1 g1 p1=>?_)
 .intro id b;have q1:=AG b;simp only[go_sem,q1,AM]
 have hr0:Bz p sz π m V h 0 V st (h.put (0::0::π) (.box [.ptr m 0])):=O0 hM.out hu.out fun id b=>by
  have q1:=AG b;rw[get_put,q1];rfl
 obtain⟨V1,hR1,_⟩:=(hr0.up (b':=3) (by omega)).call hu.out (n:=3) (by omega) p1;have k2:=(hr0.up (b':=3) (by omega)).box hu.out (k:=0) (by omega) p1;rw[get_put,is_self,D1 rfl]at k2;obtain rfl:=p1.1;have gm1:=hR1.rep.box;simp only[Ah]at gm1;have hl0:=G0 (hR1.rep.sl 0 (by omega));simp only[Ax,BY]at hl0;obtain⟨EV,hEV⟩: ∃EV,EV=st.ev++[(⟨3,at_,0,0,[]⟩:Du)]:=⟨_,rfl⟩;rw[←hEV]at hR1⊢;replace hEV:=AA.mk hEV;replace hR1:=AA.mk hR1;replace hr0:=AA.mk hr0;replace p1:=AA.mk p1
 (repeat' (first|simp only[go_sem, *,↓hl0,AM]|(refine sx ?_ ?_<;>intro hc)|refine sy (by omega) fun x hx hm=>?_|simp(disch:=first|assumption|omega) only[AN]))
 clear hm gm1 hl0 p1;refine AU st.d9.ac _ (S:=fun m' i (a:AB×Nat)=>⟨[(1,.d (.int .i64 (at_))),(2,.ptr (0::0::π) 0),(15,.d (.int .i64 (m'))),(16,.d (.int .i64 (i)))],a.1,a.2+11,[]⟩)
  (Inv:=fun i rest a=>a.1.get (0::0::π)=some (.box [.ptr m 0])∧AA (∃V',Bz p sz π m V h (a.2+11) V' ⟨{st.d9 with ac:=Kt st.d9.ac at_ i},EV,st.work⟩ a.1)) (b0:=(_,0)) rfl ⟨k2,⟨V1,by rw[gk];exact hR1.out.up (by omega)⟩⟩ ?_ ?_
 .rintro i x ⟨g,b⟩ hx hi him ⟨k2,hR⟩ IH;dsimp only at*;obtain⟨V',hR⟩:=hR.out;obtain⟨D,hD⟩: ∃D,D=Kt st.d9.ac at_ i:=⟨_,rfl⟩;have hil:=AH hx;have hDl:D.length=st.d9.ac.length:=by rw[hD];exact Qi _ _ (by omega)
  have hDx:D[i]? =some x:=by rw[hD];exact vJ hx
  have hDp: ∀i,A5 D i=A5 st.d9.ac i:=fun k=>by rw[hD];exact pO _ _ (by omega) k
  have hDs:AA (Kt st.d9.ac at_ (i+1)=D.set i {x with dead:=x.dead||Cc st.d9.ac i at_}):=⟨by rw[hD];exact gj hx⟩
  have hDt:=mh hDp hDl hs.out.tree;have hDi:=Y9 hDp hDl (i:Int) at_;rw[←hD]at hR;replace hD:=AA.mk hD;have gm:=hR.rep.box;simp only[Ah]at gm;obtain⟨S,ys,hSs,gS,xS,lS,lS2⟩:=Il (hR.rep.sl 0 (by omega)) hDx;simp only[Ff]at gS;have hwi:=Ub D i at_ (by omega) hDt ⟨by omega,by omega⟩ a0
  rw[hDi]at hwi;have hiS:=hR.ids S (V'.s_mem m (i:=0) (by omega) (by rw[hSs];simp[AD]));have hbS: ∀k,Id.is S (0::k::π)=false:=fun k=>AE fun e=>Gr hR hu.out k (by rw[←e];exact V'.s_mem m (i:=0) (by omega) (by rw[hSs];simp[AD]));have hgo:=AA.mk (HP (N:=HG (b+11) (b+33) π) (st:=⟨{st.d9 with ac:=D},EV,st.work⟩) (st':=⟨{st.d9 with ac:=Kt st.d9.ac at_ (i+1)},EV,st.work⟩) 0 (by omega) hR.rep (hR.apartB hu.out) (qh rfl rfl rfl) rfl (.f8 S 0 D.length))
  rw[hSs]at gm;replace hDp:=AA.mk hDp;replace hDt:=AA.mk hDt;replace hDi:=AA.mk hDi;replace hiS:=AA.mk hiS;replace hR:=AA.mk hR;have hDl2:=AA.mk hDl;cases hin:Cc st.d9.ac i at_ with
  |true=>
   rw[hin]at hwi hDs;rw[Bool.or_true]at hDs;replace hDl:=AA.mk hDl;refine ax ?_;have hSm:Id.is S m=false:=AE fun e=>by rw[e,gm]at gS;cases gS
   have hmS:Id.is m S=false:=AE fun e=>by rw[←e,gm]at gS;cases gS
   have hst:(D.set i {x with dead:=true}).map Aj++ys=(D.map Aj++ys).set i [.int .i64 x.un,.bool true]:=by
    rw[List.set_append_left _ _ (by simpa using lS),NO];rfl
   obtain⟨V2,hR2,_⟩:=hR.out.step (b':=b+33) (by omega) (hgo.out (g.put S (.d7 2 ((D.map Aj++ys).set i [.int .i64 x.un,.bool true]))) (by rw[get_put,hSm];exact gm) (BP ys (by simp only[Ax,BY];rw[Qi _ _ (by omega)];exact hDl2.out) (by rw[get_put,is_self,←hst,←hDs.out];rfl)) (.inl (by rw[hSs])) fun id b1 b2 b3=>by rw[get_put,b2 S (by rw[hSs];simp[AD])];rfl);refine IH.out (_,b+22) ⟨?_,⟨V2,hR2⟩⟩;dsimp only;rw[get_put,hbS];exact k2
  |false=>
   rw[hin,Bool.or_false]at hDs;rw[hin]at hwi;replace hDl:=AA.mk hDl;refine ax ?_;refine IH.out (g,b+13) ⟨k2,⟨V',?_⟩⟩;have:Kt st.d9.ac at_ (i+1)=D:=by
    rw[hDs.out];exact ZB hDx
   dsimp only;rw[this];exact hR.out.up (by omega)
 .rintro i ⟨g,b⟩ hi him ⟨k2,hR⟩;dsimp only at*;obtain⟨V',hR⟩:=hR.out;rw[hi.out,pN]at hR;obtain⟨D,hD⟩: ∃D,D=Kb st.d9.ac at_:=⟨_,rfl⟩;have hDl:D.length=st.d9.ac.length:=by rw[hD,Ec]
  rw[vL,←hD];rw[←hD]at hR;replace hD:=AA.mk hD;have gm:=hR.rep.box;simp only[Ah]at gm;have hl3:=Pz hR.rep.arr;rw[hR.rep.be.len]at hl3;dsimp only at hl3;have h2:=hR.rep.sl 2 (by omega);have h0:=hR.rep.sl 0 (by omega);simp only[Ax,Ff]at h2 h0;rcases h0 with⟨_,hz0⟩|⟨S,ys,h0,gS⟩
  .rw[F9.1 hz0]at hDl;have:=hs.out.tree.pos;simp at hDl;omega
  rw[BY]at h0;have hSi:=V'.s_mem m (i:=0) (by omega) (id:=S) (by rw[h0];simp[AD]);have uS:=hR.apart hu.out (n:=b+19) (by omega) S hSi;have hwr: ∀w∈st.d9.waits,En D w.at_:=fun w hw=>by
   have:=hs.out.wait w hw;simp only[CD,AP,Ap]at this;rw[En,hDl];exact this.1
  obtain⟨w2,hw2⟩: ∃w2,w2=V'.s 2:=⟨_,rfl⟩;rw[←hw2]at h2 gm;have huv: ∀i∈AD w2,Id.under ((b+19)::π) i=false∧i≠0::0::π∧i≠m∧i≠S:=fun i hi=>by
   have hWi:=V'.s_mem m (i:=2) (by omega) (id:=i) (by rw[←hw2];exact hi);obtain⟨x,hx⟩:=ED h2 hi;exact⟨hR.apart hu.out (n:=b+19) (by omega) i hWi,fun e=>Gr hR hu.out 0 (e▸hWi),fun e=>(by rw[e,gm]at hx;cases hx),fun e=>(by rw[e,gS]at hx;cases hx)⟩
  have hdel:=AA.mk (vI (h:=g) (π:=(b+19)::π) (m:=m) (bx:=0::0::π) (S:=S) (L:=D) ⟨k2,⟨_,_,_,_,_,_,_,_,_,_,_,_,by rw[gm,h0]⟩,⟨ys,gS⟩,AW π (by omega),AF um _,uS⟩ st.d9.waits h2 huv (by omega) hwr);have hgo:=AA.mk fun v=>HP (N:=HG (b+11) (b+31) π) (st:=⟨{st.d9 with ac:=D},EV,st.work⟩) (st':=⟨{st.d9 with ac:=D,waits:=st.d9.waits.filter fun w=> !AX D w.at_},EV,st.work⟩) 2 (by omega) hR.rep (hR.apartB hu.out) (qi rfl rfl rfl) rfl v
  have gm0:=AA.mk gm;replace h2:=AA.mk h2;replace hw2:=AA.mk hw2;replace huv:=AA.mk huv;replace hR:=AA.mk hR;replace hwr:=AA.mk hwr;replace hDl:=AA.mk hDl;refine ax ?_;refine Ew hdel.out (fun o1 g1 p1=>?_);obtain⟨v',rfl,p1,p3,⟨p4,p5⟩,p2⟩:=p1;have um2:=AF um (b+19);have Wm: ∀id∈AD w2,Id.is id m=false:=fun id hid=>AE (huv.out id hid).2.2.1;have gm2:=(Al _ g1 _ um2).trans ((p2 m Wm um2).trans gm);have k3:=(Al _ g1 _ (AW π (show 0≠b+19 by omega))).trans ((p2 (0::0::π) (fun id hid=>AE (huv.out id hid).2.1) (AW π (by omega))).trans k2);have hdf:=pS (h:=g) (h':=gc ((b+19)::π) g1) k2 (by rw[k3];simp[Obj.same,AV.sames,AV.same,is_self]);obtain⟨F,hF2⟩: ∃F,F=st.d9.waits.filter fun w=> !AX D w.at_:=⟨_,rfl⟩;rw[←hF2]at p1 hgo⊢;obtain⟨H3,hH3⟩: ∃H3,H3=(gc ((b+19)::π) g1).put m (.box [.f8 S 0 D.length,V'.s 1,V'.v3,v',.d (.ce (p.free.map CM)),.d (.ce (p.nodes.map Bg)),.d (.ce (p.defs.map CX)),.d (.int .i64 (p.main)),.d (.ce (sz.map AL)),V'.v9,.mp V'.pp,V'.s 3,.d (.int .i64 (st.work))]):=⟨_,rfl⟩;have A1:H3.get m=some (.box (Ah p sz (V'.ii 2 v') st.work)):=by
   rw[hH3,get_put,is_self,←h0];rfl
  have A2:Kc H3 3 v' (F.map AO):=C9 p1 fun id hid=>by
   rw[p3]at hid;have hh:=huv.out id hid;rw[hH3,get_put,AE fun e=>hh.2.2.1 e.symm,Ci (by simp),Al _ _ _ hh.1]
  obtain⟨V2,hr2,_⟩:=hR.out.step (b':=b+31) (by omega) (hgo.out v' H3 A1 A2 (.inl (by rw[p3,hw2.out])) fun id b1 b2 b3=>by rw[hH3,get_put,b1,Ci (by simp),Al _ _ _ (Ia b3 (by omega) (by omega)),p2 id (by rw[hw2.out];exact b2) (Ia b3 (by omega) (by omega))]);have k4:H3.get (0::0::π)=some (.box [.ptr m 0]):=by
   rw[hH3,get_put,e2,Ci (by simp)];exact k3
  replace hF2:=AA.mk hF2;replace p1:=AA.mk p1;replace p2:=AA.mk p2;replace p3:=AA.mk p3;replace Wm:=AA.mk Wm;replace hr2:=AA.mk hr2;replace k4:=AA.mk k4;replace A1:=AA.mk A1;replace A2:=AA.mk A2;replace hH3:=AA.mk hH3
  (repeat' (first|simp only[go_sem, *,↓hl3,AM]|(refine sx ?_ ?_<;>intro hc)|refine sy (by omega) fun x hx hm=>?_|simp(disch:=first|assumption|omega) only[AN]))
  rw[←hH3.out];have hv3:V2.v3=V'.v3:=og (V:=V'.ii 2 v') (Obj.box.inj (MP (A1.out.symm.trans hr2.out.rep.box)));obtain⟨X3,hX3⟩: ∃X3,X3=V'.v3:=⟨_,rfl⟩;rw[←hX3]at hv3⊢;replace hX3:=AA.mk hX3;clear gm gm2 hdf k3 hl3 gS h0;clear hSi uS e1;refine AU st.d9.be _ (S:=fun m' i (a:AB×Nat)=>⟨[(2,.ptr (0::0::π) 0),(51,X3),(52,.d (.int .i64 (m'))),(53,.d (.int .i64 (i)))],a.1,a.2+31,[]⟩)
   (Inv:=fun i rest a=>a.1.get (0::0::π)=some (.box [.ptr m 0])∧AA (∃V',V'.v3=X3∧Bz p sz π m V h (a.2+31) V' ⟨⟨D,st.d9.bv,Ma D st.d9.be i,F⟩,EV,st.work⟩ a.1)) (b0:=(H3,b)) rfl ⟨k4.out,⟨V2,hv3,by rw[gV];exact hr2.out⟩⟩ ?_ ?_
  .clear hR1 hR;rintro i q ⟨g,b⟩ hq hi him ⟨k2,hR⟩ IH;dsimp only at*;obtain⟨V',hv,hR⟩:=hR.out;have gm:=hR.rep.box;simp only[Ah,hv]at gm;have hqa:=(Wy hF hs.out hq).at_;have q0:=hqa.1;have q1:=hqa.2;obtain⟨qv,hrow,hqs⟩:=hR.rep.be.row _ _ (U4 (l:=D) hq);rcases hR.rep.arr with⟨_,hA⟩|⟨A,hA,gA⟩
   .rw[hA]at hrow;simp at hrow
   have lA:=AH hrow;rw[hv]at hA;have hrl:V'.rows.length=st.d9.be.length:=by
    have:=hR.rep.be.len;simp only at this;rw[this,pG _ _ (by have:=AH hq;omega)]
   have hDl3:=hDl.out;obtain⟨sp,hsp⟩:=get_some (l:=D) (i:=q.at_.toNat) (by omega);obtain⟨S2,ys2,hSs,gS,xS,lS,lS2⟩:=Il (hR.rep.sl 0 (by omega)) hsp;simp only[Ff]at gS;rw[hSs]at gm;have hAi:=V'.v3_mem m (id:=A) (by rw[hv,hA];simp[AD]);have hSi:=V'.s_mem m (i:=0) (by omega) (id:=S2) (by rw[hSs];simp[AD]);have nA:=Ev (b':=0) hu.out (hR.ids A hAi);have nS:=Ev (b':=0) hu.out (hR.ids S2 hSi);have nM:=Ev (b':=0) hu.out (hR.ids m (V'.m_mem m));have bA: ∀k,Id.is A (0::k::π)=false:=fun k=>AE fun e=>Gr hR hu.out k (by rw[←e];exact hAi);have hcu:AA (Ma D st.d9.be (i+1)=(Ma D st.d9.be i).set i (Qf D q)):=⟨gU hq⟩;have hdd:AX D q.at_=sp.dead:=by rw[AX,hsp];rfl
   have hgo:=AA.mk fun h'=>Rn (N:=HG (b+31) (b+59) π) hR.rep (hR.apartB hu.out) (by rw[hv];exact hA) (U4 (l:=D) hq) hrow [] .co h';have hqc:qv.isCell=true:=by rcases hqs with⟨rfl,_⟩|⟨_,_,rfl,_⟩<;>rfl
   have hqd:qv.cells=[qv]:=by rcases hqs with⟨rfl,_⟩|⟨_,_,rfl,_⟩<;>rfl
   have hrow0:=AA.mk hrow;simp only[Aq]at hrow;replace hDl3:=AA.mk hDl3;replace hR:=AA.mk hR;replace hv:=AA.mk hv;replace hdd:=AA.mk hdd;replace hrl:=AA.mk hrl
   (repeat' (first|simp only[go_sem, *,AM]|(refine sx ?_ ?_<;>intro hc)|refine sy (by omega) fun x hx hm=>?_|simp(disch:=first|assumption|omega) only[AN]))
   .have hcut:AA (Qf D q={q with queue:=[]}):=⟨by rw[Qf,hdd.out,hc,D1 rfl]⟩
    obtain⟨H4,hH4⟩: ∃H4,H4=((g.put (0::(b+35)::π) (.box [.d (.int .i64 (0)),.d (.int .i64 (0)),.d (.int .i64 (0)),.co])).put (0::(b+35)::π) (.box [.d (.int .i64 (q.group)),.d (.int .i64 (q.index)),.d (.int .i64 (q.at_)),qv])).put A (.arr 4 (V'.rows.set i [.d (.int .i64 (q.group)),.d (.int .i64 (q.index)),.d (.int .i64 (q.at_)),.co])):=⟨_,rfl⟩;have B1:H4.get m=some (.box (Ah p sz V' st.work)):=by
     rw[hH4,get_put,AE (show A≠m from fun e=>by rw[e,gm]at gA;cases gA),get_put,nM _ _ (by omega),get_put,nM _ _ (by omega)];exact hR.out.rep.box
    have B0:H4.get A=some (.arr 4 (V'.rows.set i (Aq q .co))):=by
     rw[hH4,get_put,is_self];rfl
    obtain⟨V3,hR3,_⟩:=hR.out.step (b':=b+59) (by omega) (hgo.out H4 B1 B0 (.inl ⟨rfl,rfl⟩) (.inr fun id hid=>by simp[AD]at hid) fun id b1 b2 b3 b4=>by rw[hH4,get_put,b2,get_put,Cp b4 0 (b+35) (by omega) (by omega),get_put,Cp b4 0 (b+35) (by omega) (by omega)];rfl);rw[←hH4];have B2:H4.get (0::0::π)=some (.box [.ptr m 0]):=by
     rw[hH4,get_put,bA,get_put,AE (by simp),get_put,AE (by simp)];exact k2
    have hv3:V3.v3=V'.v3:=og (V:=V') (Obj.box.inj (MP (B1.symm.trans hR3.rep.box)));rw[←hA];refine IH.out (H4,b+28) ⟨B2,⟨V3,hv3.trans hv.out,?_⟩⟩;dsimp only;rw[hcu.out,hcut.out];exact hR3
   .have hcut:AA (Qf D q=q):=⟨by rw[Qf,hdd.out,hc,Ci (by simp)]⟩;rw[←hA];refine IH.out (_,b+19) ⟨?_,⟨V',hv.out,?_⟩⟩
    .dsimp only;rw[get_put,AE (by simp),get_put,AE (by simp)];exact k2
    .dsimp only;rw[hcu.out,hcut.out,ZB (U4 (l:=D) hq)];exact(hR.out.loc hu.out fun id hh=>by rw[get_put,hh 0 (b+35) (by omega),get_put,hh 0 (b+35) (by omega)];rfl).up (by omega)
  .rintro i ⟨g,b⟩ hi him ⟨k2,hR⟩;dsimp only at*;obtain⟨V',hv,hR⟩:=hR.out;rw[hi.out,pF]at hR;replace hR:=AA.mk hR;refine ax ?_;exact hR.out.fin
def Mx(e:List Du)(st:B7):B7:=⟨st.d9,e++st.ev,st.work⟩
theorem pV(p:AI)(j:Fq)(e:List Du)(st:B7):JC p j (Mx e st)=(JC p j st).map fun r=>(Mx e r.1,r.2):=by
 simp only[JC];cases p.nodes[j.node.toNat]? with
 |none=>rfl
 |some x=>
  dsimp only;by_cases h2:x.op=2
  .simp only[h2,F5,Dy,Mx];by_cases k2:(Hb j.env x.n).kind=2
   .simp only[k2,F5,D9,D3]
   .by_cases k3:(Hb j.env x.n).kind=3
    .simp only[k3,F5,Int.reduceEq,Ex];cases O1 p st.d9 (Hb j.env x.n).n (x.args.map (·.value j.env))<;>rfl
    .simp only[k2,k3,Ex];rfl
  by_cases h3:x.op=3
  .simp only[h3,Int.reduceEq,Ex,F5];rfl
  by_cases h4:x.op=4
  .simp only[h4,Int.reduceEq,Ex,F5,G9,Mx];cases p.defs[x.n.toNat]? with
   |none=>rfl
   |some d=>
    dsimp only;split<;>rename_i hc<;>simp[hc]
  by_cases h5:x.op=5
  .simp only[h5,Int.reduceEq,Ex,F5];rfl
  by_cases h6:EZ x.op=true
  .simp only[h2,h3,h4,h5,h6,Ex,F5,Hh,Mx];split<;>rename_i hc<;>simp[hc]
  .simp only[h2,h3,h4,h5,h6,Ex];rfl
theorem et{f:Fq→B7→Option B7}{e:List Du}(hf: ∀j st,f j (Mx e st)=(f j st).map (Mx e)): ∀(l:List Fq) (st:B7),BZ f l (Mx e st)=(BZ f l st).map (Mx e)
 |[],st=>rfl
 |j::l,st=>by
  rw[BZ,BZ,hf];cases f j st with
  |none=>rfl
  |some st1=>exact et hf l st1
theorem VA(p:AI)(e:List Du): ∀(k:Nat) (j:Fq) (st:B7),FX p k j (Mx e st)=(FX p k j st).map (Mx e)
 |0,j,st=>rfl
 |k+1,j,st=>by
  rw[FX,FX];have hw:(Mx e st).work=st.work:=rfl;rw[hw];by_cases h:st.work<400
  .rw[D1 h,D1 h];have:=pV p j e {st with work:=st.work+1}
   rw[show({Mx e st with work:=st.work+1}:B7)=Mx e {st with work:=st.work+1}from rfl,this]
   cases JC p j {st with work:=st.work+1}with
   |none=>rfl
   |some r=>exact et (fun j st=>VA p e k j st) r.2 r.1
  .rw[Ci h,Ci h];rfl
def Im(p:AI)(s:A9)(e:List Du)(x:FU):Option B7:=(Ed p s x).map (Mx e)
theorem Ti(f:Fq→B7→Option B7)(j:Fq)(st:B7):BZ f [j] st=f j st:=by
 rw[BZ];cases f j st<;>rfl
section
variable{p:AI}{s:A9}{e:List Du}{i:Nat}{w:Fk}{y:CR}
theorem Kx(h1:s.waits[i]? =some w)(h2:p.nodes[w.node.toNat]? =some y):Ed p s ⟨i,0,0,[]⟩=LX p {s with waits:=CY s.waits i} w y:=by
 rw[Ed,Ci (by dsimp only;omega),OE];simp only[F7,h1,h2]
theorem dw(h1:s.waits[i]? =some w)(h2:p.nodes[w.node.toNat]? =some y)(ho:y.op=7):Im p s e ⟨i,0,0,[]⟩=some ⟨OW {s with waits:=CY s.waits i} w.at_,e++[⟨3,w.at_,0,0,[]⟩],0⟩:=by
 rw[Im,Kx h1 h2,LX,D1 ho];rfl
theorem tb(h1:s.waits[i]? =some w)(h2:p.nodes[w.node.toNat]? =some y)(ho:y.op=6){kd:Int}(hk:y.kids=[kd]){v:CW}(hv:Hb w.env y.n=v):Im p s e ⟨i,0,0,[]⟩=FX p 401 ⟨kd,w.at_,w.env⟩ ⟨{s with waits:=CY s.waits i,ac:=Gd s.ac w.at_ v.n},e++[⟨2,w.at_,v.n,0,[]⟩],0⟩:=by
 rw[Im,Kx h1 h2,LX,Ci (by omega),D1 ho,hv,BN,hk];simp only[Es];rw[Ti];exact(VA p e 401 _ _).symm
theorem dx(h1:s.waits[i]? =some w)(h2:p.nodes[w.node.toNat]? =some y)(ho:y.op=8){kd:Int}(hk:y.kids=[kd]){v:CW}(hv:Hb w.env y.n=v):Im p s e ⟨i,0,0,[]⟩=FX p 401 ⟨kd,w.at_,w.env⟩ ⟨{s with waits:=CY s.waits i},e++[⟨4,w.at_,v.n,0,[]⟩],0⟩:=by
 rw[Im,Kx h1 h2,LX,Ci (by omega),Ci (by omega),hv,BN,hk];simp only[Es];rw[Ti];exact(VA p e 401 _ _).symm
end
variable{p:AI}{sz:List Int}
theorem uH{s:A9}{w:Fk}{y:CR}(hF:BC p sz)(h:QE p sz s w y)(ho: ¬y.op=7): ∃kd,y.kids=[kd]:=by
 have hj:CQ p sz s ⟨w.node,w.at_,w.env⟩:=⟨h.n0,h.size,h.at_,h.live,h.kw⟩;obtain⟨y2,l,h1,h2,_⟩:=Jr hF hj;have h1:p.nodes[w.node.toNat]? =some y2:=h1;rw[h.node]at h1;cases h1;simp only[Dn,AP,Ap]at h2;have hk:=h2.1;have hl:y.kids.length=1:=by
  rcases h.op with e|e|e
  .rw[e]at hk;simpa[FY]using hk.symm
  .exact absurd e ho
  .rw[e]at hk;simpa[FY]using hk.symm
 match y.kids,hl with
 |[kd],_=>exact⟨kd,rfl⟩
variable{π:List Nat}{m:Abs.Id}{V:MV}{h:AB}
theorem YG{V':MV}{H g1:AB}{b n:Nat}{st1:B7}{o:AZ}{r:Option B7}(hu:Bn π V m)(hr:Bz p sz π m V h b V' st1 H)(hn:b≤n)(ho:Eo p sz (n::π) m V' H r o g1):Eo p sz π m V h r o (gc (n::π) g1)∧(o=.ret (.it [])∨o=.f9 (CA 3)):=by
 cases r with
 |none=>exact⟨hr.f9 hu hn ho,.inr ho.1⟩
 |some st2=>
  obtain⟨V2,h2,_⟩:=hr.call hu hn ho;obtain⟨rfl,_⟩:=ho;exact⟨h2.fin,.inl rfl⟩
theorem AB0(hF:BC p sz){st:B7}(hM:Dt p sz h m V st)(hu:Bn π V m)(hs:FB p sz st.d9){x:FU}(hx:MU p st.d9 x)(hev:st.ev.length≤400000):
 ∃o h',KL Tryz.prog cfg (.fn 55) [.ptr m 0,ACb x] h π true none=.ok (o,h')∧Eo p sz π m V h (Im p st.d9 st.ev x) o h':=by
 have hm:=hM.box;simp only[Ah]at hm;have um:=hu m (V.m_mem m);have e1:=AG um;have e2:=Av um;have hss:=hs.small;simp only[A9.small,AP,Ap]at hss;obtain⟨s1,s2,s3,s4⟩:=hss;obtain⟨st0,hst0⟩: ∃st0:B7,st0=⟨st.d9,st.ev,0⟩:=⟨_,rfl⟩;have hrun:AA (∀H:AB,H.get m=some (.box (Ah p sz V 0))→(∀id,Id.is m id=false→Id.under π id=false→H.get id=h.get id)→Bz p sz π m V h 0 V st0 H):=⟨fun H a1 a2=>by
  have:=Tv (st':=st0) hM hu (by rw[hst0];exact a1) (by rw[hst0];exact⟨rfl,rfl⟩) fun id b1 b2=>a2 id (AE fun e=>b1 e.symm) b2;exact⟨this.1,fun id hid=>.inl hid,this.2.frame⟩⟩
 replace hM:=AA.mk hM;replace hu:=AA.mk hu;replace hs:=AA.mk hs;cases hx with
 | @wd i k g d r t h1 h2 h3 h4 h5=>
   have hE:AA (Im p st.d9 st.ev ⟨-1,i,k,t⟩=FX p 401 ⟨r.node,g.place d r.at_,g.env++(BQ d g r.eq t st.d9).1⟩ ⟨(BQ d g r.eq t st.d9).2,st.ev++[⟨1,g.place d r.at_,i,k,(BQ d g r.eq t st.d9).1⟩],0⟩):=⟨by
    have h1':st.d9.bv[((i:Nat):Int).toNat]? =some g:=h1;have h3':d.rules[((k:Nat):Int).toNat]? =some r:=h3;rw[Im,Ed,D1 (by dsimp only;omega),fL];simp only[h1',(GD h2).2,h3',P3];exact(VA p st.ev 401 _ ⟨(BQ d g r.eq t st.d9).2,[⟨1,g.place d r.at_,i,k,(BQ d g r.eq t st.d9).1⟩],0⟩).symm⟩
   replace h5:=AA.mk h5;replace hst0:=AA.mk hst0;have hr1:Bz p sz π m V h 0 V st0 ((h.put (0::0::π) (.box [.d (.int .i64 (-1)),.d (.int .i64 (i)),.d (.int .i64 (k)),.d (.ce (t.map AL))])).put m (.box (Ah p sz V 0))):=hrun.out _ (by rw[get_put,is_self];rfl) fun id b1 b2=>by
    have q1:=AG b2;rw[get_put,b1,get_put,q1];rfl
   have hre:=AA.mk (s8 hF (π:=10::π) (st:=st0) hr1.rep (hr1.apart hu.out (n:=10) (by omega)) (i:=i) (k:=k) (g:=g) (d:=d) (r:=r) (t:=t) (by rw[hst0.out];exact hs.out) (by rw[hst0.out];exact h1) h2 h3 (by rw[hst0.out];exact h4) (by rw[hst0.out];exact h5.out) (by rw[hst0.out]) (by rw[hst0.out];dsimp only;omega));have hfn:=AA.mk fun o g1 r=>YG (o:=o) (g1:=g1) (r:=r) hu.out hr1 (show 0≤10 by omega);replace hr1:=AA.mk hr1
   (refine Af rfl Tryz.func55 rfl rfl rfl ?_;show Wp _ _ _ _ (Tryz.f55.body.get rfl) _ _;simp only[Tryz.f55,AS])
   refine ax ?_;refine AY hre.out (fun o1 g1 p1=>?_);obtain⟨p2,p3⟩:=hfn.out _ _ _ p1;have hE2:Eo p sz π m V h (Im p st.d9 st.ev ⟨-1,i,k,t⟩) o1 (gc (10::π) g1):=by
    rw[hE.out];rw[hst0.out]at p2;exact p2
   replace hE2:=AA.mk hE2;replace p1:=AA.mk p1;replace p2:=AA.mk p2;rcases p3 with rfl|rfl;all_goals
    refine ax ?_;exact hE2.out
 | @wait i w h1 h2=>
   obtain⟨y,hw⟩:=P6 hF (hs.out.wait w (Ac h1));have hil:=AH h1;obtain⟨W,xs,hWs,gW,xW,lW,lW2⟩:=Il (hM.out.sl 2 (by omega)) h1;simp only[Ff]at gW;have hWi:=V.s_mem m (i:=2) (by omega) (id:=W) (by rw[hWs];simp[AD]);have uW:=hu.out W hWi;have a3:=AG uW;have a4:=Av uW;have Wm:Id.is W m=false:=AE fun e=>by rw[e,hm]at gW;cases gW
   have mW:Id.is m W=false:=AE fun e=>by rw[←e,hm]at gW;cases gW
   have hneg: ¬(i:Int)<0:=by omega
   have w1:IntKind.i64.wrap ((i:Int)+1)=(i:Int)+1:=wrap_id (by omega) (by omega);have hnd:=hw.node;have hn0:=hw.n0;have hnl:=AH hnd;have hm0:=AA.mk hm;rw[hWs]at hm;replace hst0:=AA.mk hst0;replace hw:=AA.mk hw;have hdel:=fun(H:AB) (n:Nat) (hH:H.get W=some (.d7 3 (st.d9.waits.map AO++xs)))=>U6 (π:=n::π) hH (AF uW n) (n:=st.d9.waits.length) (a:=i) (by simp) (by omega) (by intro e he;obtain⟨x,_,rfl⟩:=Em.1 he;rfl) (by omega);replace hdel:=AA.mk hdel;obtain⟨H1,hH1⟩: ∃H1:AB,H1=(((h.put (0::0::π) (.box [.d (.int .i64 (i)),.d (.int .i64 (0)),.d (.int .i64 (0)),.d (.ce [])])).put m (.box [V.s 0,V.s 1,V.v3,.f8 W 0 st.d9.waits.length,.d (.ce (p.free.map CM)),.d (.ce (p.nodes.map Bg)),.d (.ce (p.defs.map CX)),.d (.int .i64 (p.main)),.d (.ce (sz.map AL)),V.v9,.mp V.pp,V.s 3,.d (.int .i64 (0))])).put (0::17::π) (.box [.d (.int .i64 (0)),.d (.int .i64 (0)),.co])).put (0::17::π) (.box [.d (.int .i64 (w.at_)),.d (.int .i64 (w.node)),.d (.ce (w.env.map AJ))]):=⟨_,rfl⟩;have hr1:Bz p sz π m V h 0 V st0 H1:=hrun.out H1 (by rw[hH1,get_put,e1,get_put,e1,get_put,is_self,Ci (by simp),Ci (by simp),D1 rfl,Ah,hWs]) fun id b1 b2=>by
    have q1:=AG b2;rw[hH1,get_put,q1,get_put,q1,get_put,b1,get_put,q1];rfl
   have k0:H1.get (0::0::π)=some (.box [.d (.int .i64 (i)),.d (.int .i64 (0)),.d (.int .i64 (0)),.d (.ce [])]):=by
    rw[hH1,get_put,AE (by simp),get_put,AE (by simp),get_put,e2,get_put,is_self];rfl
   have k17:H1.get (0::17::π)=some (.box [.d (.int .i64 (w.at_)),.d (.int .i64 (w.node)),.d (.ce (w.env.map AJ))]):=by
    rw[hH1,get_put,is_self];rfl
   clear k0;have gm1:H1.get m=some (.box [V.s 0,V.s 1,V.v3,.f8 W 0 st.d9.waits.length,.d (.ce (p.free.map CM)),.d (.ce (p.nodes.map Bg)),.d (.ce (p.defs.map CX)),.d (.int .i64 (p.main)),.d (.ce (sz.map AL)),V.v9,.mp V.pp,V.s 3,.d (.int .i64 (0))]):=by rw[hr1.rep.box,Ah,hWs,hst0.out]
   have gW1:H1.get W=some (.d7 3 (st.d9.waits.map AO++xs)):=by
    rw[hH1,get_put,a3,get_put,a3,get_put,mW,get_put,a3];exact gW
   (refine Af rfl Tryz.func55 rfl rfl rfl ?_;show Wp _ _ _ _ (Tryz.f55.body.get rfl) _ _;simp only[Tryz.f55,AS])
   refine ax ?_;rw[←hH1];refine AY (hdel.out _ 30 gW1) (fun o1 g1 p1=>?_);obtain⟨rfl,⟨y2,p1⟩,p2⟩:=p1;have uW3:=AF uW 30;have um3:=AF um 30;have k17':=(Al (30::π) g1 _ (AW π (show 17≠30 by omega))).trans ((p2 _ (a4 0 17)).trans k17);have gm3:=(Al (30::π) g1 _ um3).trans ((p2 _ Wm).trans gm1);have gW3:=(Al (30::π) g1 _ uW3).trans p1;obtain⟨s1',hs1'⟩: ∃s1:A9,s1={st.d9 with waits:=CY st.d9.waits i}:=⟨_,rfl⟩
   obtain⟨H2,hH2⟩: ∃H2,H2=((gc (30::π) g1).put m (.box [V.s 0,V.s 1,V.v3,.f8 W 0 (st.d9.waits.length-1),.d (.ce (p.free.map CM)),.d (.ce (p.nodes.map Bg)),.d (.ce (p.defs.map CX)),.d (.int .i64 (p.main)),.d (.ce (sz.map AL)),V.v9,.mp V.pp,V.s 3,.d (.int .i64 (0))])):=⟨_,rfl⟩;have A1:H2.get m=some (.box (Ah p sz (V.ii 2 (.f8 W 0 (st.d9.waits.length-1))) 0)):=by rw[hH2,get_put,is_self];rfl
   have A2:Kc H2 3 (.f8 W 0 (st.d9.waits.length-1)) (Ax ⟨s1',st.ev,0⟩ 2):=by
    refine BP y2 ?_ ?_
    .rw[hs1',Ax,BY,TU (by simpa using hil)]
    .rw[hH2,get_put,mW,Ci (by simp),gW3,hs1',Ax,CY,By,List.map_take,List.map_drop,F7]
   obtain⟨V2,hr2,_⟩:=(hr1.up (b':=30) (by omega)).step (b':=36) (by omega) (HP (st':=⟨s1',st.ev,0⟩) 2 (by omega) hr1.rep ((hr1.up (b':=30) (by omega)).apartB hu.out) (qi (by rw[hs1',hst0.out]) (by rw[hs1',hst0.out]) (by rw[hst0.out])) (by rw[hs1',hst0.out]) (.f8 W 0 (st.d9.waits.length-1)) H2 A1 A2 (.inl (by rw[hWs];rfl)) fun id b1 b2 b3=>by rw[hH2,get_put,b1,Ci (by simp),Al _ _ _ (Ia b3 (by omega) (by omega)),p2 id (b2 W (by rw[hWs];simp[AD]))]);have k17:H2.get (0::17::π)=some (.box [.d (.int .i64 (w.at_)),.d (.int .i64 (w.node)),.d (.ce (w.env.map AJ))]):=by
    rw[hH2,get_put,e2,Ci (by simp)];exact k17'
   have gm4:=hr2.rep.box;have hVs:V2.s 0=V.s 0:=by
    have:=Obj.box.inj (MP (A1.symm.trans hr2.rep.box));simp only[Ah,Md]at this;exact this.1.symm
   simp only[Ah]at gm4;replace A1:=AA.mk A1;replace A2:=AA.mk A2;replace hH1:=AA.mk hH1;replace hr1:=AA.mk hr1;replace hs1':=AA.mk hs1';replace p1:=AA.mk p1;replace p2:=AA.mk p2;clear gm1 gW1 gW3;replace hH2:=AA.mk hH2;replace gm4:=AA.mk gm4;replace k17:=AA.mk k17;have hsw:FB p sz s1':=by
    rw[hs1'.out];exact O4 hs.out (by have:=Qp st.d9.waits (i:Int);omega) fun v hv=>hs.out.wait v (OX hv)
   have hwo:=hs.out.wait w (Ac h1);replace hsw:=AA.mk hsw;replace hwo:=AA.mk hwo;have hop:=hw.out.op;by_cases h7:y.op=7
   .have hE:AA (Im p st.d9 st.ev ⟨i,0,0,[]⟩=some ⟨OW s1' w.at_,st.ev++[⟨3,w.at_,0,0,[]⟩],0⟩):=⟨by rw[hs1'.out];exact dw h1 hnd h7⟩;clear hop;replace h2:=AA.mk h2;replace hr2:=AA.mk hr2;have hst:=AA.mk fun H hl=>yr hF (h:=H) (π:=53::π) (hr2.out.loc hu.out (H:=H) hl).rep (hr2.out.apart hu.out (n:=53) (by omega)) hsw.out (at_:=w.at_) (by have:=hwo.out;simp only[CD,AP,Ap]at this;rw[hs1'.out];exact this.1) (by dsimp only;omega);have hfn:=AA.mk fun H hl o g1 r=>YG (o:=o) (g1:=g1) (r:=r) hu.out (hr2.out.loc hu.out (H:=H) hl) (show 36≤53 by omega);refine ax ?_;rw[←hH2.out];have hloc: ∀o1 o2:Abs.Obj,∀id,(∀a n,36≤n→Id.is (a::n::π) id=false)→((H2.put (0::44::π) o1).put (0::44::π) o2).get id=H2.get id:=fun o1 o2 id hh=>by rw[get_put,hh 0 44 (by omega),get_put,hh 0 44 (by omega)];rfl
    refine AY (hst.out _ (hloc _ _)) (fun o1 g1 p1=>?_);obtain⟨q2,q3⟩:=hfn.out _ (hloc _ _) _ _ _ p1;replace q2:=AA.mk q2;obtain rfl:=p1.1;replace p1:=AA.mk p1;refine ax ?_;rw[hE.out];exact q2.out
   .obtain⟨v,hv,hvn,hvk⟩:=hw.out.val h7;obtain⟨kd,hkd⟩:=uH hF hw.out h7;obtain⟨n0,n1⟩:=hw.out.n h7;have hg:=h2;rw[pm,hnd]at hg;simp only[h7,Ex,hvn]at hg;have hk4:v.kind=4:=by
     by_cases hk:v.kind=4
     .exact hk
     .rw[Ci hk]at hg;cases hg
    rw[D1 hk4]at hg;obtain⟨vr,vy,hvy,hvd⟩:=hvk hk4;have hv0:=vr.1;have hv1:=vr.2;have hat:=hw.out.at_;have hjk:=fun(s:A9) (h:CD p sz s w=true)=>SF hF h hnd 0;rw[show BN y 0 w.at_ w.env=[⟨kd,w.at_,w.env⟩] by rw[BN,hkd];rfl]at hjk;replace h2:=AA.mk h2;replace hvk:=AA.mk hvk;replace hr2:=AA.mk hr2;replace vr:=AA.mk vr;replace hjk:=AA.mk hjk;by_cases h6:y.op=6
    .rw[Ci (by omega)]at hg;simp only[AP,Ap,GS]at hg;have hpos:0<w.at_:=by have:=hat.1;omega
     have hat0:=hat.1;have hat1:=hat.2;obtain⟨sp,hsp⟩:=get_some (l:=st.d9.ac) (i:=w.at_.toNat) (by omega);have hmv:=Ny hs.out hpos hat vr.out hg.2.1 hg.2.2;have hmv2:=Ny hsw.out (i:=w.at_) (n:=v.n) hpos (by rw[hs1'.out];exact hat) (by rw[hs1'.out];exact vr.out) (by rw[hs1'.out];exact hg.2.1) (by rw[hs1'.out];exact hg.2.2);obtain⟨S,ys,hSs,gS,xS,lS,lS2⟩:=Il (hr2.out.rep.sl 0 (by omega)) (show s1'.ac[w.at_.toNat]? =some sp by rw[hs1'.out];exact hsp);simp only[Ff]at gS;have hsl:s1'.ac.length=st.d9.ac.length:=by rw[hs1'.out]
     have hset:AA (Gd s1'.ac w.at_ v.n=s1'.ac.set w.at_.toNat {sp with un:=v.n}):=⟨by rw[Gd,hs1'.out];simp only[hsp]⟩
     obtain⟨s2',hs2'⟩: ∃s2:A9,s2={s1' with ac:=Gd s1'.ac w.at_ v.n}:=⟨_,rfl⟩
     have hE:AA (Im p st.d9 st.ev ⟨i,0,0,[]⟩=FX p 401 ⟨kd,w.at_,w.env⟩ ⟨s2',st.ev++[⟨2,w.at_,v.n,0,[]⟩],0⟩):=⟨by rw[hs2',hs1'.out];exact tb h1 hnd h6 hkd hvn⟩;obtain⟨H3,hH3⟩: ∃H3,H3=(H2.put (0::44::π) (.box [.d (.int .i64 (0)),.d (.int .i64 (0)),.co,.co])).put (0::44::π) (.box [.d (.int .i64 (6)),.d (.int .i64 (y.n)),.d (.ce (y.args.map Bp)),.d (.ce [[.int .i64 kd]])]):=⟨_,rfl⟩;have hr3:Bz p sz π m V h 52 V2 ⟨s1',st.ev,0⟩ H3:=(hr2.out.loc hu.out (H:=H3) fun id hh=>by rw[hH3,get_put,hh 0 44 (by omega),get_put,hh 0 44 (by omega)];rfl).up (by omega);have hSi:=V2.s_mem m (i:=0) (by omega) (id:=S) (by rw[hSs];simp[AD]);have nS:=Ev (b':=0) hu.out (hr2.out.ids S hSi);have bS: ∀k,Id.is S (0::k::π)=false:=fun k=>AE fun e=>Gr hr2.out hu.out k (by rw[←e];exact hSi);have hSm:Id.is S m=false:=AE fun e=>by rw[e,hr2.out.rep.box]at gS;cases gS
     have hmS:Id.is m S=false:=AE fun e=>by rw[←e,hr2.out.rep.box]at gS;cases gS
     have gS3:(gc (30::π) g1).get S=some (.d7 2 (s1'.ac.map Aj++ys)):=by
      have h9:=gS
      rwa [hH2.out,get_put,hmS,Ci (by simp)]at h9
     have hH2b:=hH2.out;rw[←hVs,hSs,hsl]at gm3 hH2b;have hS3:H3.get S=some (.d7 2 (s1'.ac.map Aj++ys)):=by
      rw[hH3,get_put,AE (fun e=>by have:=bS 44;rw[e,is_self]at this;cases this),get_put,AE (fun e=>by have:=bS 44;rw[e,is_self]at this;cases this)];exact gS
     obtain⟨H4,hH4⟩: ∃H4,H4=H3.put S (.d7 2 ((s1'.ac.map Aj++ys).set w.at_.toNat [.int .i64 v.n,.bool sp.dead])):=⟨_,rfl⟩;have hst2:s2'.ac.map Aj++ys=(s1'.ac.map Aj++ys).set w.at_.toNat [.int .i64 v.n,.bool sp.dead]:=by
      rw[hs2',hset.out,List.set_append_left _ _ (by simp;omega),NO];rfl
     have B1:H4.get m=some (.box (Ah p sz (V2.ii 0 (.f8 S 0 s1'.ac.length)) 0)):=by
      rw[hH4,get_put,hSm,Ci (by simp),hr3.rep.box];simp only[Ah,←hSs];rfl
     have B2:Kc H4 2 (.f8 S 0 s1'.ac.length) (Ax ⟨s2',st.ev,0⟩ 0):=by
      refine BP ys ?_ ?_
      .rw[Ax,BY,hs2',IY]
      .rw[hH4,get_put,is_self,D1 rfl,Ax,hst2]
     obtain⟨V3',hr5,_⟩:=hr3.step (b':=69) (by omega) (HP (st':=⟨s2',st.ev,0⟩) 0 (by omega) hr3.rep (hr3.apartB hu.out) (qh (by rw[hs2']) (by rw[hs2']) rfl) (by rw[hs2']) (.f8 S 0 s1'.ac.length) H4 B1 B2 (.inl (by rw[hSs])) fun id b1 b2 b3=>by rw[hH4,get_put,b2 S (by rw[hSs];simp[AD])];rfl);have k44:H4.get (0::44::π)=some (.box [.d (.int .i64 (6)),.d (.int .i64 (y.n)),.d (.ce (y.args.map Bp)),.d (.ce [[.int .i64 kd]])]):=by rw[hH4,get_put,bS,Ci (by simp),hH3,get_put,is_self];rfl
     have k17b:H4.get (0::17::π)=some (.box [.d (.int .i64 (w.at_)),.d (.int .i64 (w.node)),.d (.ce (w.env.map AJ))]):=by
      rw[hH4,get_put,bS,Ci (by simp),hH3,get_put,AE (by simp),get_put,AE (by simp)];exact k17.out
     replace B1:=AA.mk B1;replace B2:=AA.mk B2;replace hst2:=AA.mk hst2;replace hS3:=AA.mk hS3;replace hr5:=AA.mk hr5;replace k44:=AA.mk k44;replace k17b:=AA.mk k17b;replace hH4:=AA.mk hH4;replace hH2b:=AA.mk hH2b;rw[hsl]at lS lS2;replace hr3:=AA.mk hr3;replace hH3:=AA.mk hH3;replace hs2':=AA.mk hs2';replace hmv:=AA.mk hmv;replace hmv2:=AA.mk hmv2;replace hg:=AA.mk hg;replace hvn:=AA.mk hvn;replace hat:=AA.mk hat;replace hVs:=AA.mk hVs;refine ax ?_;rw[←hH2b.out,←hH3.out,←hH4.out];refine AY (IM (V:=V3') (st:=⟨s2',st.ev,0⟩) hr5.out.rep (hr5.out.apart hu.out (n:=79) (by omega)) 2 w.at_ v.n 0 [] (by simp) (by dsimp only;omega)) (fun o1 g1 p1=>?_);obtain⟨V4,hr4,_⟩:=hr5.out.call hu.out (n:=79) (by omega) p1;have m17:=(hr5.out.box hu.out (k:=17) (by omega) p1).trans k17b.out;have m44:=(hr5.out.box hu.out (k:=44) (by omega) p1).trans k44.out;obtain rfl:=p1.1;have gm6:=hr4.rep.box;simp only[Ah]at gm6;have hend:=AA.mk fun H2=>NU hF hu.out hr4 (j:=⟨kd,w.at_,w.env⟩) ⟨by rw[hs2'.out];exact hmv2.out,by dsimp only;omega,by dsimp only;omega,by dsimp only;omega,by simp;omega⟩ (by rw[hs2'.out,hs1'.out];exact Lu (hjk.out _ (hmv.out.wait w (Ac h1)) ⟨kd,w.at_,w.env⟩ (by simp)) (CY st.d9.waits i)) H2 89 (by omega);replace hr4:=AA.mk hr4;replace p1:=AA.mk p1;refine ax ?_;refine AY (hend.out _ fun id hh=>rfl) (fun o2 g2 q2=>?_);obtain⟨q2,q3⟩:=q2;rw[←hE.out]at q2;replace q2:=AA.mk q2;rcases q3 with rfl|rfl;all_goals
      refine ax ?_;exact q2.out
    .have h8:y.op=8:=by omega
     have hE:AA (Im p st.d9 st.ev ⟨i,0,0,[]⟩=FX p 401 ⟨kd,w.at_,w.env⟩ ⟨s1',st.ev++[⟨4,w.at_,v.n,0,[]⟩],0⟩):=⟨by rw[hs1'.out];exact dx h1 hnd h8 hkd hvn⟩;replace hg:=AA.mk hg;replace hvn:=AA.mk hvn;obtain⟨H3,hH3⟩: ∃H3,H3=(H2.put (0::44::π) (.box [.d (.int .i64 (0)),.d (.int .i64 (0)),.co,.co])).put (0::44::π) (.box [.d (.int .i64 (8)),.d (.int .i64 (y.n)),.d (.ce (y.args.map Bp)),.d (.ce [[.int .i64 kd]])]):=⟨_,rfl⟩;have hr3:Bz p sz π m V h 54 V2 ⟨s1',st.ev,0⟩ H3:=(hr2.out.loc hu.out (H:=H3) fun id hh=>by rw[hH3,get_put,hh 0 44 (by omega),get_put,hh 0 44 (by omega)];rfl).up (by omega);have k44:H3.get (0::44::π)=some (.box [.d (.int .i64 (8)),.d (.int .i64 (y.n)),.d (.ce (y.args.map Bp)),.d (.ce [[.int .i64 kd]])]):=by rw[hH3,get_put,is_self];rfl
     have k17b:H3.get (0::17::π)=some (.box [.d (.int .i64 (w.at_)),.d (.int .i64 (w.node)),.d (.ce (w.env.map AJ))]):=by
      rw[hH3,get_put,AE (by simp),get_put,AE (by simp)];exact k17.out
     replace hr3:=AA.mk hr3;replace k44:=AA.mk k44;replace k17b:=AA.mk k17b;replace hH3:=AA.mk hH3;refine ax ?_;rw[←hH2.out,←hH3.out];refine AY (IM (V:=V2) (st:=⟨s1',st.ev,0⟩) hr3.out.rep (hr3.out.apart hu.out (n:=64) (by omega)) 4 w.at_ v.n 0 [] (by simp) (by dsimp only;omega)) (fun o1 g1 p1=>?_);obtain⟨V3,hr4,_⟩:=hr3.out.call hu.out (n:=64) (by omega) p1;have m17:=(hr3.out.box hu.out (k:=17) (by omega) p1).trans k17b.out;have m44:=(hr3.out.box hu.out (k:=44) (by omega) p1).trans k44.out;obtain rfl:=p1.1;have gm6:=hr4.rep.box;simp only[Ah]at gm6;have hend:=AA.mk fun H2=>NU hF hu.out hr4 (j:=⟨kd,w.at_,w.env⟩) ⟨hsw.out,by dsimp only;omega,by dsimp only;omega,by dsimp only;omega,by simp;omega⟩ (by rw[hs1'.out];exact Lu (hjk.out _ hwo.out ⟨kd,w.at_,w.env⟩ (by simp)) _) H2 74 (by omega);replace hr4:=AA.mk hr4;replace p1:=AA.mk p1;refine ax ?_;refine AY (hend.out _ fun id hh=>rfl) (fun o2 g2 q2=>?_);obtain⟨q2,q3⟩:=q2;rw[←hE.out]at q2;replace q2:=AA.mk q2;rcases q3 with rfl|rfl;all_goals
      refine ax ?_;exact q2.out
def ni(sz:Nat)(π:List Nat)(h:AB)(v:AV)(L:List (List AR))(o:AZ)(h':AB):Prop:= ∃v',o=.ret v'∧Kc h' sz v' L∧(∀id∈AD v',id∈AD v∨(Id.under π id=true∧ ∃l,id=1::l))∧ ∀id,id∉AD v→Id.under π id=false→h'.get id=h.get id
structure FT(sz:Nat)(π:List Nat)(h:AB)(v:AV)(b:Nat)(g:AB)(w:AV)(L:List (List AR)):Prop where
 slv:Kc g sz w L
 ids: ∀id∈AD w,id∈AD v∨ ∃n,n<b∧Id.under (n::π) id=true∧ ∃l,id=1::l
 frame: ∀id,id∉AD v→Id.under π id=false→g.get id=h.get id
section
variable{sz:Nat}{π:List Nat}{h g H g1:AB}{v w:AV}{b k:Nat}{L L':List (List AR)}{o:AZ}
theorem FT.not(hu: ∀id∈AD v,Id.under π id=false)(hI:FT sz π h v b g w L){id:Abs.Id}(hid:id∈AD w)(a n:Nat)(hn:b≤n):Id.is (a::n::π) id=false:=by
 rcases hI.ids id hid with h|⟨m,h1,h2,_⟩
 .exact AG (hu id h) a n
 .refine AE fun e=>?_;subst e;have:=B6 h2 (n':=n) (under_iff.2 ⟨[a],rfl⟩);omega
theorem FT.apart(hu: ∀id∈AD v,Id.under π id=false)(hI:FT sz π h v b g w L){id:Abs.Id}(hid:id∈AD w)(hk:b≤k):Id.under (k::π) id=false:=by
 rcases hI.ids id hid with h|⟨m,h1,h2,_⟩
 .exact AF (hu id h) k
 .cases hx:Id.under (k::π) id with
  |false=>rfl
  |true=>
   have:=B6 h2 hx;omega
theorem FT.loc(hu: ∀id∈AD v,Id.under π id=false)(hI:FT sz π h v b g w L)(hl: ∀id,(∀a n,b≤n→Id.is (a::n::π) id=false)→H.get id=g.get id):FT sz π h v b H w L:=
 ⟨C9 hI.slv fun id hid=>hl id fun a n hn=>hI.not hu hid a n hn,hI.ids,fun id h1 h2=>by rw[hl id fun a n _=>AG h2 a n];exact hI.frame id h1 h2⟩
theorem FT.up(hI:FT sz π h v b g w L){b':Nat}(hb:b≤b'):FT sz π h v b' g w L:=⟨hI.slv,fun id hid=>(hI.ids id hid).imp_right fun⟨n,h1,h2⟩=>⟨n,by omega,h2⟩,hI.frame⟩
theorem FT.call(hu: ∀id∈AD v,Id.under π id=false)(hI:FT sz π h v b H w L)(hk:b≤k)(ho:ni sz (k::π) H w L' o g1): ∃w',o=.ret w'∧FT sz π h v (k+1) (gc (k::π) g1) w' L':=by
 obtain⟨w',h1,h2,h3,h4⟩:=ho;have hw: ∀id∈AD w',(gc (k::π) g1).get id=g1.get id:=fun id hid=>by
  rcases h3 id hid with e|⟨_,l,rfl⟩
  .exact Al _ _ _ (hI.apart hu e hk)
  .exact FM _ _ _
 refine⟨w',h1,C9 h2 hw,fun id hid=>?_,fun id a1 a2=>?_⟩
 .rcases h3 id hid with e|e
  .exact(hI.ids id e).imp_right fun⟨n,q1,q2⟩=>⟨n,by omega,q2⟩
  .exact .inr ⟨k,by omega,e⟩
 .rw[Al _ _ _ (AF a2 k),h4 id (fun hw=>?_) (AF a2 k)]
  .exact hI.frame id a1 a2
  .rcases hI.ids id hw with hh|⟨n,_,q2,_⟩
   .exact a1 hh
   .rw[BD q2]at a2;cases a2
theorem FT.fin(hI:FT sz π h v b g w L):ni sz π h v L (.ret w) g:=⟨w,rfl,hI.slv,fun id hid=>(hI.ids id hid).imp_right fun⟨n,_,q2,q3⟩=>⟨BD q2,q3⟩,hI.frame⟩
end
end Go.Proofs
namespace Go.Abs
theorem R4{α:Type}{f:α→List AR}{l:List α}{g:G}{sz:Nat}{k:IntKind}{m:Int}(hf: ∀a,(f a).length=sz)(h0:0≤m)(hm:m≤l.length):ET g .slice sz (.d (.ce (l.map f))) (some (.d (.int k m))) none none=some (.d (.ce ((l.drop m.toNat).map f))):=by
 have hb:DY (some (.d (.int k m))) none none (l.map f).length=some (m.toNat,(l.map f).length,none):=by
  simp[DY,Gg,HX,h0,hm]
 have he:Lf sz (l.map f)=true:=by
  cases l with
  |nil=>rfl
  |cons a l=>simp only[El,Lf,Gq,Ap];exact hf a
 show O2 sz (l.map f) (DY (some (.d (.int k m))) none none (l.map f).length)=_;rw[hb];have hr:Nat.ble m.toNat (l.map f).length=true:=by rw[Fw];simp;omega
 have h2:Nat.ble (l.map f).length (l.map f).length=true:=by rw[Fw];simp
 simp only[O2,hr,h2,he,OF,F5,List.map_drop];rw[DL (by simp)]
end Go.Abs
namespace Go.Proofs
open Go Go.Abs
set_option maxRecDepth 100000
set_option maxHeartbeats 4000000
theorem di{l:List A7}{g:G}{k:IntKind}{m:Int}(h0:0≤m)(hm:m≤l.length):ET g .slice 2 (.d (.ce (l.map Aj))) (some (.d (.int k m))) none none=some (.d (.ce ((l.drop m.toNat).map Aj))):=R4 (fun _=>rfl) h0 hm
theorem mq{l:List CW}{g:G}{k:IntKind}{m:Int}(h0:0≤m)(hm:m≤l.length):ET g .slice 2 (.d (.ce (l.map AJ))) (some (.d (.int k m))) none none=some (.d (.ce ((l.drop m.toNat).map AJ))):=R4 (fun _=>rfl) h0 hm
theorem Qx{h:AB}{π:List Nat}{m gid:Abs.Id}{p:AI}{s:A9}{st:Bo}{x9 x10 x11 x12:AV}(hlk:looks p=some st)
 (hm:h.get m=some (.box [.d (.ce (s.ac.map Aj)),.d (.ce (s.bv.map A8)),.d (.ce (s.be.map Cm)),.d (.ce (s.waits.map AO)),.d (.ce (p.free.map CM)),.d (.ce (p.nodes.map Bg)),.d (.ce (p.defs.map CX)),.d (.int .i64 (p.main)),.d (.ce (st.ci.map AL)),x9,x10,x11,x12])) (um:Id.under π m=false) (h9:x9=slv gid p.defs.length) (hg:p.defs.length≠0→h.get gid=some (.d7 1 ((Bs p st.ci).map AL))) (ug:Id.under π gid=false):
 ∃o h',KL Tryz.prog cfg (.fn 91) [.ptr m 0] h π true (some π)=.ok (o,h')∧o=(HQ (CA 2) (Dr p st.ci s)).1:=by
 have e1:=AG um;have e2:=Av um;have e3:=AF um;have e4:=AG ug;have e5:=Av ug;have e6:=AF ug;have hF:=AA.mk (Et hlk);have hsm:=hF.out.small;simp only[AI.small,AP,Ap]at hsm;obtain⟨c1,c2,c3⟩:=hsm;have hgl:(Bs p st.ci).length=p.defs.length:=by rw[Bs,Ng];simp
 by_cases hss:s.small=true
 .have hok:AA (Dr p st.ci s=(Iu s.ac&&(IJ s.ac (s.ac.drop 1)&&(E4 p (Bs p st.ci) s 0 0 1 s.bv&&s.waits.all (CD p st.ci s))))):=⟨by rw[Dr,hss,F1]⟩;simp only[A9.small,AP,Ap]at hss;obtain⟨s1,s2,s3,s4⟩:=hss;have y1:(s.ac.length:Int)≤24:=by omega
  have y2:(s.bv.length:Int)≤40:=by omega
  have y3:(s.be.length:Int)≤60:=by omega
  have y4:(s.waits.length:Int)≤40:=by omega
  have htr:=yu s.ac (by omega);cases htb:Iu s.ac with
  |false=>
   rw[htb]at hok htr;rw[hok.out]
   (refine Af rfl Tryz.func91 rfl rfl rfl ?_;show Wp _ _ _ _ (Tryz.f91.body.get rfl) _ _;simp only[Tryz.f91,AS])
   refine aw ?_;rfl
  |true=>
   rw[htb,F1]at hok;rw[htb]at htr;have hT:=ZP htb;have htop:=hT.top;have hn0:(1:Int)≤s.ac.length:=by have:=hT.pos;omega
   replace hT:=AA.mk hT
   (refine Af rfl Tryz.func91 rfl rfl rfl ?_;show Wp _ _ _ _ (Tryz.f91.body.get rfl) _ _;simp only[Tryz.f91,AS])
   (repeat' (first|simp only[go_sem, *]|(refine sx ?_ ?_<;>intro hc)|refine sy (by omega) fun x hx hm=>?_|simp(disch:=first|assumption|omega) only[AN,di]))
   refine AU (s.ac.drop 1) _ (S:=fun m' i (a:AB×Nat)=>⟨[(0,.ptr m 0),(65,.d (.ce ((s.ac.drop 1).map Aj))),(66,.d (.int .i64 (m'))),(67,.d (.int .i64 (i)))],a.1,a.2+49,[]⟩)
    (Inv:=fun i rest a=>a.1.get m=h.get m∧a.1.get gid=h.get gid∧AA (IJ s.ac (s.ac.drop 1)=IJ s.ac rest)) (b0:=(h,_)) rfl ⟨rfl,rfl,⟨rfl⟩⟩ ?_ ?_
   .rintro i y ⟨g,c⟩ hy hi him ⟨hgm,hgg,hr⟩ IH;dsimp only at*;have hy0:=hy;rw[Gs]at hy;have hi0:=hi;rw[I2]at hi;have hbad:AA (IJ s.ac (s.ac.drop 1)=false→AZ.f9 (CA 2)=(HQ (CA 2) (Dr p st.ci s)).1):=⟨fun h=>by rw[hok.out,h];rfl⟩;have hpar:En s.ac y.un:=by
     have h1:=hT.out.rx (((1+i:Nat):Int)) ⟨by omega,by omega⟩;obtain⟨k,hk⟩: ∃k,s.ac.length=k+1:=⟨s.ac.length-1,by omega⟩;rw[hk]at h1;have h2:=(Gh (by omega) h1).1
     rwa [P1 (s:=y) (by rw[←hy];congr 1)]at h2
    obtain⟨p1,p2⟩:=hpar;obtain⟨z,hz⟩:=get_some (l:=s.ac) (i:=y.un.toNat) (by omega);have hda:AA (AX s.ac y.un=z.dead):=⟨by simp[AX,hz]⟩;rw[IJ]at hr;replace hy:=AA.mk hy;cases hyd:y.dead<;>cases hzd:z.dead;all_goals (refine aw ?_)
    all_goals first
    |(refine IH.out (_,_) ⟨?_,?_,⟨?_⟩⟩
      .simp only[go_sem,e1,hgm,AM]
      .simp only[go_sem,e4,hgg,AM]
      .rw[hr.out,hyd,hda.out,hzd];simp)
    |(refine IH.out (_,_) ⟨?_,?_,⟨?_⟩⟩
      .simp only[go_sem,e1,hgm,AM]
      .simp only[go_sem,e4,hgg,AM]
      .rw[hr.out,hyd];simp)
    |exact hbad.out (by rw[hr.out,hyd,hda.out,hzd];rfl)
   .rintro i ⟨g,c⟩ hi him ⟨hgm,hgg,hr⟩;dsimp only at*;rw[IJ]at hr;refine aw ?_;clear hi him;have hok2:AA (Dr p st.ci s=(E4 p (Bs p st.ci) s 0 0 1 s.bv&&s.waits.all (CD p st.ci s))):=⟨by rw[hok.out,hr.out,F1]⟩;clear hok hr i;refine AU s.bv _ (S:=fun m' i (a:AB×Nat×Nat×Nat)=>⟨[(0,.ptr m 0),(4,.d (.int .i64 (a.2.2.1))),(5,.d (.int .i64 (a.2.2.2))),(92,.d (.ce (s.bv.map A8))),(93,.d (.int .i64 (m'))),(94,.d (.int .i64 (i)))],a.1,a.2.1+59,[]⟩)
     (Inv:=fun i rest a=>a.1.get m=h.get m∧a.1.get gid=h.get gid∧a.2.2.1≤30*i∧a.2.2.2≤30*i+1∧AA (Dr p st.ci s=(E4 p (Bs p st.ci) s i a.2.2.1 a.2.2.2 rest&&s.waits.all (CD p st.ci s)))) (b0:=(g,_,0,1)) rfl ⟨hgm,hgg,by simp,by simp,hok2⟩ ?_ ?_
    .clear hgm hgg hok2 g c;rintro i gr ⟨g,n,c,k⟩ hy hi him ⟨hgm,hgg,b1,b2,hr⟩ IH;dsimp only at*;by_cases x0:gr.ge<0
     .have x0: ¬0≤gr.ge:=by omega
      have hf:AA (Dr p st.ci s=false):=⟨by rw[hr.out,E4,AI.def?,Ci (by omega),EL]⟩;refine aw ?_;all_goals (rw[hf.out];rfl)
     by_cases x1:(p.defs.length:Int)≤gr.ge
     .have x1: ¬gr.ge<p.defs.length:=by omega
      have x0:0≤gr.ge:=by omega
      have hf:AA (Dr p st.ci s=false):=⟨by rw[hr.out,E4,AI.def?,D1 (by omega),No (by omega),EL]⟩;refine aw ?_;all_goals (rw[hf.out];rfl)
     have x2:0≤gr.ge:=by omega
     have x3:gr.ge<p.defs.length:=by omega
     have hdl:gr.ge.toNat<p.defs.length:=by omega
     have hD:p.defs.length≠0:=by omega
     obtain⟨d,hd⟩:=get_some hdl;have hdf:=B3 hF.out hd;obtain⟨v,hv⟩:=get_some (l:=Bs p st.ci) (i:=gr.ge.toNat) (by omega);have hv2:d.own≤v∧v≤5060:=by
      obtain⟨_,_,s0,_,_,_,_,q0,q1,q2,_⟩:=hdf.node;rw[hv]at q2;cases q2;have:=Re hdf.ok;omega
     have hstep:AA (Dr p st.ci s=((KY p (Bs p st.ci) s i c k gr d&&E4 p (Bs p st.ci) s (i+1) (c+d.be.length) (k+d.ac.length) (s.bv.drop (i+1)))&&s.waits.all (CD p st.ci s))):=⟨by
      rw[hr.out,E4,AI.def?,D1 x2,hd]⟩
     have hgo:AA (KY p (Bs p st.ci) s i c k gr d=(decide (En s.ac gr.at_)&&(decide ((gr.env.length:Int)=v)&&(gr.env.all (CW.inB p s.be.length s.ac.length)&&(EB d c k gr&&GA p s d gr i c 0 d.be))))):=⟨by
      rw[KY,hv];rfl⟩
     have hbad:AA (KY p (Bs p st.ci) s i c k gr d=false→AZ.f9 (CA 2)=(HQ (CA 2) (Dr p st.ci s)).1):=⟨fun h=>by rw[hstep.out,h];rfl⟩;have hdo:=hdf.ok;have d1:=hdo.be;have d2:=hdo.ac;have d3:d.own=d.be.length+d.ac.length:=rfl;replace hdo:=AA.mk hdo;replace hdf:=AA.mk hdf;have hg2:=hg hD;rw[DF hD]at h9;refine aw ?_;refine Cu (ZJ (sp:=s.ac.map Aj) (Eq.trans (b:=h.get m) ?_ hm) (by simp;omega) gr.at_) (fun o1 g1 p1=>?_)
     .simp only[go_sem,e1,hgm,AM]
     by_cases hin:En s.ac gr.at_
     .have hin2:=hin;replace p1:o1=.ret (.it []):=by
       rw[p1,D7 hin.1,BY,D7 hin.2];rfl
      subst p1;replace hin:=AA.mk hin;have hge:h.get gid=some (.d7 1 ((Bs p st.ci).map AL)):=hg2;refine aw ?_;refine Cu (VE (p:=p) (sp:=s.ac.map Aj) (ch:=s.be.map Cm) (Eq.trans (b:=h.get m) ?_ hm) (e3 _) (by simp;omega) (by simp;omega) (by omega) gr.env v (by omega)) (fun o2 g2 p2=>?_)
      .simp only[go_sem,e1,hgm,AM]
      rw[BY,BY]at p2;by_cases hev:(decide ((gr.env.length:Int)=v)&&gr.env.all (CW.inB p s.be.length s.ac.length))=true
      .rw[hev]at p2;replace p2:o2=.ret (.it []):=p2;subst p2;rw[AP,Ap]at hev;obtain⟨hlen,hall⟩:=hev;have hlt:gr.env.length≤5060:=by omega
       have hown:d.own≤gr.env.length:=by omega
       have hgo2:AA (KY p (Bs p st.ci) s i c k gr d=(EB d c k gr&&GA p s d gr i c 0 d.be)):=⟨by
        rw[hgo.out,D7 hin.out,D7 hlen,hall,F1,F1,F1]⟩
       clear hgo;replace hlen:=AA.mk hlen;replace hall:=AA.mk hall;obtain⟨E,hE⟩: ∃E,E=gr.env.drop (gr.env.length-d.be.length-d.ac.length):=⟨_,rfl⟩;have hEl:E.length=d.be.length+d.ac.length:=by rw[hE,I2];omega
       have w1:IntKind.i64.wrap ((gr.env.length:Int)-(d.be.length:Int))=(gr.env.length:Int)-(d.be.length:Int):=wrap_id (by omega) (by omega);have w2:IntKind.i64.wrap ((gr.env.length:Int)-(d.be.length:Int)-(d.ac.length:Int))=((gr.env.length-d.be.length-d.ac.length:Nat):Int):=by rw[wrap_id (by omega) (by omega)];omega
       have w3: ∀g0:G,ET g0 .slice 2 (.d (.ce (gr.env.map AJ))) (some (.d (.int .i64 ((gr.env.length-d.be.length-d.ac.length:Nat):Int)))) none none=some (.d (.ce ((gr.env.drop (gr.env.length-d.be.length-d.ac.length)).map AJ))):=fun g0=>mq (by omega) (by omega);rw[←hE]at w3;have hm0:AA (EB d c k gr=decide (E.drop 0=(E6 c k d).drop 0)):=⟨by rw[hE];rfl⟩;replace hE:=AA.mk hE;have q43: ¬n=n+43:=by omega
       have r43: ¬n+43=n:=by omega
       refine ax ?_;clear w1 w2 w3 q43 r43;refine AU d.be _ (S:=fun m' i2 (a:AB×Nat)=>⟨[(0,.ptr m 0),(4,.d (.int .i64 (c))),(5,.d (.int .i64 (k))),(6,.d (.int .i64 (i))),(7,.ptr (0::(n+63)::π) 0),(8,.ptr (0::(n+106)::π) 0),(9,.d (.ce (E.map AJ))),(92,.d (.ce (s.bv.map A8))),(93,.d (.int .i64 (s.bv.length))),(94,.d (.int .i64 (i))),(155,.d (.int .i64 (m'))),(156,.d (.int .i64 (i2)))],a.1,a.2+127,[]⟩)
        (Inv:=fun i2 rest a=>a.1.get m=h.get m∧a.1.get gid=h.get gid∧a.1.get (0::(n+63)::π)=some (.box [.d (.int .i64 (gr.ge)),.d (.int .i64 (gr.at_)),.d (.ce (gr.env.map AJ))])∧a.1.get (0::(n+106)::π)=some (.box [.d (.ce (d.be.map BJ)),.d (.ce (d.ac.map A6)),.d (.ce (d.rules.map BG))])∧n≤a.2∧AA (EB d c k gr=decide (E.drop i2=(E6 c k d).drop i2))) (b0:=(_,_)) rfl ⟨?_,?_,?_,?_,?_,hm0⟩ ?_ ?_
       .simp only[go_sem,e1,hgm,AM]
       .simp only[go_sem,e4,hgg,AM]
       .have q43: ¬n=n+43:=by omega
        have r43: ¬n+43=n:=by omega
        simp only[go_sem,q43,r43,AM]
       .simp only[go_sem,AM]
       .exact D6 _
       .clear hm0 hgm hgg g;rintro i2 y ⟨g,n2⟩ hy2 hi2 him2 ⟨hgm,hgg,g63,g106,hn2,hr2⟩ IH2;dsimp only at*;obtain⟨u,hu⟩:=get_some (l:=E) (i:=i2) (by omega);have hE2:(i2:Int)<E.length:=by omega
        have hr3:AA (EB d c k gr=(decide (u=⟨3,(c:Int)+(i2:Int)⟩)&&decide (E.drop (i2+1)=(E6 c k d).drop (i2+1)))):=⟨by
         rw[hr2.out,IK hu,IK (PS c k d hi2),OP];simp⟩
        have w4:IntKind.i64.wrap ((c:Int)+(i2:Int))=(c:Int)+(i2:Int):=wrap_id (by omega) (by omega);by_cases hu2:u=⟨3,(c:Int)+(i2:Int)⟩
        .subst hu2;refine ax ?_;refine IH2.out (_,_) ⟨hgm,hgg,g63,g106,?_,⟨?_⟩⟩
         .dsimp only;omega
         .rw[hr3.out,D7 rfl,F1]
        .have hne:(decide (u.kind=3)&&decide (u.n=(c:Int)+(i2:Int)))=false:=by
          rw[←Mt,AP,Ap,Ap];rintro⟨h1,h2⟩;exact hu2 (by cases u;simp_all)
         refine ax ?_;exact hbad.out (by rw[hgo2.out,hr3.out,D4 hu2];rfl)
       .clear hm0 hgm hgg g;rintro i2 ⟨g,n2⟩ hi2 him2 ⟨hgm,hgg,g63,g106,hn2,hr2⟩;dsimp only at*;rw[hi2.out]at hr2;refine ax ?_;clear hi2 him2 i2;refine AU d.ac _ (S:=fun m' j (a:AB×Nat)=>⟨[(0,.ptr m 0),(4,.d (.int .i64 (c))),(5,.d (.int .i64 (k))),(6,.d (.int .i64 (i))),(7,.ptr (0::(n+63)::π) 0),(8,.ptr (0::(n+106)::π) 0),(9,.d (.ce (E.map AJ))),(92,.d (.ce (s.bv.map A8))),(93,.d (.int .i64 (s.bv.length))),(94,.d (.int .i64 (i))),(172,.d (.int .i64 (m'))),(173,.d (.int .i64 (j)))],a.1,a.2+132,[]⟩)
         (Inv:=fun j rest a=>a.1.get m=h.get m∧a.1.get gid=h.get gid∧a.1.get (0::(n+63)::π)=some (.box [.d (.int .i64 (gr.ge)),.d (.int .i64 (gr.at_)),.d (.ce (gr.env.map AJ))])∧a.1.get (0::(n+106)::π)=some (.box [.d (.ce (d.be.map BJ)),.d (.ce (d.ac.map A6)),.d (.ce (d.rules.map BG))])∧n≤a.2∧AA (EB d c k gr=decide (E.drop (d.be.length+j)=(E6 c k d).drop (d.be.length+j)))) (b0:=(g,n2)) rfl ⟨hgm,hgg,g63,g106,hn2,hr2⟩ ?_ ?_
        .clear hr2 hgm hgg g63 g106 g hn2 n2;rintro j y ⟨g,n2⟩ hyj hij himj ⟨hgm,hgg,g63,g106,hn2,hr2⟩ IH2;dsimp only at*;obtain⟨u,hu⟩:=get_some (l:=E) (i:=d.be.length+j) (by omega);have hr3:AA (EB d c k gr=(decide (u=⟨4,(k:Int)+(j:Int)⟩)&&decide (E.drop (d.be.length+(j+1))=(E6 c k d).drop (d.be.length+(j+1))))):=⟨by
          rw[hr2.out,IK hu,IK (PT c k d hij),OP];simp[Pl]⟩
         have w4:IntKind.i64.wrap ((k:Int)+(j:Int))=(k:Int)+(j:Int):=wrap_id (by omega) (by omega);have w5:IntKind.i64.wrap ((d.be.length:Int)+(j:Int))=(d.be.length:Int)+(j:Int):=wrap_id (by omega) (by omega);have ix:((d.be.length:Int)+(j:Int)).toNat=d.be.length+j:=by omega
         rw[←ix]at hu;replace ix:=AA.mk ix;have ix2:0≤(d.be.length:Int)+(j:Int):=by omega
         have ix3:(d.be.length:Int)+(j:Int)<E.length:=by omega
         by_cases hu2:u=⟨4,(k:Int)+(j:Int)⟩
         .subst hu2;refine ax ?_;refine IH2.out (_,_) ⟨hgm,hgg,g63,g106,?_,⟨?_⟩⟩
          .dsimp only;omega
          .rw[hr3.out,D7 rfl,F1]
         .have hne:(decide (u.kind=4)&&decide (u.n=(k:Int)+(j:Int)))=false:=by
           rw[←Mt,AP,Ap,Ap];rintro⟨h1,h2⟩;exact hu2 (by cases u;simp_all)
          refine ax ?_;exact hbad.out (by rw[hgo2.out,hr3.out,D4 hu2];rfl)
        .clear hr2 hgm hgg g63 g106 g hn2 n2;rintro j ⟨g,n2⟩ hij himj ⟨hgm,hgg,g63,g106,hn2,hr2⟩;dsimp only at*;have hmine:EB d c k gr=true:=by
          have hjj:=hij.out;rw[hr2.out,F6 (by omega),F6 (by rw[Mr];omega)];rfl
         have hgo3:AA (KY p (Bs p st.ci) s i c k gr d=GA p s d gr i c 0 d.be):=⟨by rw[hgo2.out,hmine,F1]⟩;replace hmine:=AA.mk hmine;clear hr2 hgo2;refine ax ?_;clear hij himj j;refine AU d.be _ (S:=fun m' j (a:AB×Nat)=>⟨[(0,.ptr m 0),(4,.d (.int .i64 (c))),(5,.d (.int .i64 (k))),(6,.d (.int .i64 (i))),(7,.ptr (0::(n+63)::π) 0),(8,.ptr (0::(n+106)::π) 0),(92,.d (.ce (s.bv.map A8))),(93,.d (.int .i64 (s.bv.length))),(94,.d (.int .i64 (i))),(192,.d (.ce (d.be.map BJ))),(193,.d (.int .i64 (m'))),(194,.d (.int .i64 (j)))],a.1,a.2+137,[]⟩)
          (Inv:=fun j rest a=>a.1.get m=h.get m∧a.1.get gid=h.get gid∧a.1.get (0::(n+63)::π)=some (.box [.d (.int .i64 (gr.ge)),.d (.int .i64 (gr.at_)),.d (.ce (gr.env.map AJ))])∧a.1.get (0::(n+106)::π)=some (.box [.d (.ce (d.be.map BJ)),.d (.ce (d.ac.map A6)),.d (.ce (d.rules.map BG))])∧n≤a.2∧AA (GA p s d gr i c 0 d.be=GA p s d gr i c j rest)) (b0:=(g,n2)) rfl ⟨hgm,hgg,g63,g106,hn2,⟨rfl⟩⟩ ?_ ?_
         .clear hgm hgg g63 g106 g hn2 n2;rintro j ch ⟨g,n2⟩ hyj hij himj ⟨hgm,hgg,g63,g106,hn2,hrj⟩ IHj;dsimp only at*;have hcj:c+j<s.be.length:=by
           have:=Ce.1 hall.out _ (Ac (Ts hmine.out hij));simp[CW.inB]at this;omega
          obtain⟨q,hq⟩:=get_some hcj;have hca:=hdo.out.chan ch (Ac hyj);have hpi:=Ri hmine.out hown hin.out hall.out (n:=ch.at_) hca.1 hca.2.1;obtain⟨hp1,hp2⟩:=hpi;obtain⟨sp,hsp⟩:=get_some (l:=s.ac) (i:=(gr.place d ch.at_).toNat) (by omega);have hda:AA (AX s.ac (gr.place d ch.at_)=sp.dead):=⟨by simp[AX,hsp]⟩;have hck:AA (MI p s d gr i j (c+j) ch=(decide (q.group=i)&&(decide (q.index=j)&&(decide (q.at_=gr.place d ch.at_)&&(decide (q.queue.length≤12)&&((decide (q.queue.length=0)|| !AX s.ac q.at_)&&q.queue.all (Ha p s.be.length s.ac.length ch.many))))))):=⟨by rw[MI,hq];rfl⟩;have hbc:AA (MI p s d gr i j (c+j) ch=false→AZ.f9 (CA 2)=(HQ (CA 2) (Dr p st.ci s)).1):=⟨fun h=>hbad.out (by rw[hgo3.out,hrj.out,GA,h,EL])⟩;have w4:IntKind.i64.wrap ((c:Int)+(j:Int))=(c:Int)+(j:Int):=wrap_id (by omega) (by omega);have ix:((c:Int)+(j:Int)).toNat=c+j:=by omega
          rw[←ix]at hq;replace ix:=AA.mk ix;have ix2:0≤(c:Int)+(j:Int):=by omega
          have ix3:(c:Int)+(j:Int)<s.be.length:=by omega
          have q1: ¬n2+78=n:=by omega
          have q2: ¬n=n2+78:=by omega
          have q3: ¬n2+91=n:=by omega
          have q4: ¬n=n2+91:=by omega
          have q5: ¬n2+35=n:=by omega
          have q6: ¬n=n2+35:=by omega
          have q7: ¬n2+48=n:=by omega
          have q8: ¬n=n2+48:=by omega
          have q9: ¬n2+13=n2:=by omega
          have q0: ¬n2=n2+13:=by omega
          by_cases g1:q.group=i
          .by_cases g2:q.index=j
           .refine ax ?_;refine Cf (L3 (d:=d) (ds:=p.defs) (Eq.trans (b:=h.get m) ?_ hm) (e3 _) x2 hd d1 d2 hown (by omega) ch.at_ hca.1 hca.2.1) (fun o3 g3 p3=>?_)
            .simp only[go_sem,e1,hgm,AM]
            subst p3;by_cases g4:q.at_=gr.place d ch.at_
            .rw[g4]
             (repeat' (first|simp only[go_sem, *,AM]|(refine sx ?_ ?_<;>intro hc)|refine sy (by omega) fun x hx hm=>?_|simp(disch:=first|assumption|omega) only[AN]))
             all_goals try
              refine hbc.out ?_;rw[hck.out,g4,hda.out];clear IH IHj hr hstep hbad hbc hck hgo3 hrj hy hd hv hT hF hm hg htr hlk hgm hgg g63 g106;grind
             all_goals
              have hfin:AA (MI p s d gr i j (c+j) ch=q.queue.all (Ha p s.be.length s.ac.length ch.many)):=⟨by
               rw[hck.out,g4,hda.out];clear IH IHj hr hstep hbad hbc hck hgo3 hrj hy hd hv hT hF hm hg htr hlk hgm hgg g63 g106;grind⟩
              refine AU q.queue _ (S:=fun m' l (a:AB×Nat)=>⟨[(0,.ptr m 0),(4,.d (.int .i64 (c))),(5,.d (.int .i64 (k))),(6,.d (.int .i64 (i))),(7,.ptr (0::(n+63)::π) 0),(8,.ptr (0::(n+106)::π) 0),(13,.ptr (0::(n2+141)::π) 0),(92,.d (.ce (s.bv.map A8))),(93,.d (.int .i64 (s.bv.length))),(94,.d (.int .i64 (i))),(192,.d (.ce (d.be.map BJ))),(193,.d (.int .i64 (d.be.length))),(194,.d (.int .i64 (j))),(255,.d (.ce (q.queue.map BF))),(256,.d (.int .i64 (m'))),(257,.d (.int .i64 (l)))],a.1,a.2+205,[]⟩)
               (Inv:=fun l rest a=>a.1.get m=h.get m∧a.1.get gid=h.get gid∧a.1.get (0::(n+63)::π)=some (.box [.d (.int .i64 (gr.ge)),.d (.int .i64 (gr.at_)),.d (.ce (gr.env.map AJ))])∧a.1.get (0::(n+106)::π)=some (.box [.d (.ce (d.be.map BJ)),.d (.ce (d.ac.map A6)),.d (.ce (d.rules.map BG))])∧a.1.get (0::(n2+141)::π)=some (.box [.d (.int .i64 (ch.at_)),.d (.int .i64 (ch.many))])∧n2≤a.2∧AA (q.queue.all (Ha p s.be.length s.ac.length ch.many)=rest.all (Ha p s.be.length s.ac.length ch.many))) (b0:=(_,n2)) ?_ ⟨?_,?_,?_,?_,?_,?_,⟨rfl⟩⟩ ?_ ?_
              .omega
              .simp only[go_sem,e1,hgm,AM]
              .simp only[go_sem,e4,hgg,AM]
              .simp only[go_sem,g63,q1,q2,q3,q4,AM]
              .simp only[go_sem,g106,q5,q6,q7,q8,AM]
              .simp only[go_sem,q9,q0,AM]
              .exact D6 _
              .clear hgm hgg g63 g106 g q1 q2 q3 q4 q5 q6 q7 q8 q9 q0;rintro l y ⟨g,n3⟩ hyl hil himl ⟨hgm,hgg,g63,g106,g141,hn3,hrl⟩ IHl;dsimp only at*;have q1: ¬n3+67=n2:=by omega
               have q2: ¬n2=n3+67:=by omega
               refine ax ?_;refine Cu (VE (p:=p) (sp:=s.ac.map Aj) (ch:=s.be.map Cm) (Eq.trans (b:=h.get m) ?_ hm) (e3 _) (by simp;omega) (by simp;omega) (by omega) y ch.many (by omega)) (fun o4 g4' p4=>?_)
               .simp only[go_sem,e1,hgm,AM]
               rw[BY,BY]at p4;have hmk:(decide ((y.length:Int)=ch.many)&&y.all (CW.inB p s.be.length s.ac.length))=Ha p s.be.length s.ac.length ch.many y:=rfl;rw[hmk]at p4;clear hmk;cases hmo:Ha p s.be.length s.ac.length ch.many y with
               |true=>
                rw[hmo]at p4;replace p4:o4=.ret (.it []):=p4;subst p4;refine ax ?_;refine IHl.out (_,_) ⟨?_,?_,?_,?_,?_,?_,⟨?_⟩⟩
                .simp only[go_sem,e1,hgm,AM]
                .simp only[go_sem,e4,hgg,AM]
                .have q3: ¬n3+145=n:=by omega
                 have q4: ¬n=n3+145:=by omega
                 simp only[go_sem,g63,q3,q4,AM]
                .have q3: ¬n3+102=n:=by omega
                 have q4: ¬n=n3+102:=by omega
                 simp only[go_sem,g106,q3,q4,AM]
                .simp only[go_sem,g141,q1,q2,AM]
                .dsimp only;omega
                .rw[hrl.out,F0,hmo,F1]
               |false=>
                rw[hmo]at p4;replace p4:o4=.f9 (CA 2):=p4;subst p4;refine ax ?_;exact hbc.out (by rw[hfin.out,hrl.out,F0,hmo,EL])
              .clear hgm hgg g63 g106 g q1 q2 q3 q4 q5 q6 q7 q8 q9 q0;rintro l ⟨g,n3⟩ hil himl ⟨hgm,hgg,g63,g106,g141,hn3,hrl⟩;dsimp only at*;refine ax ?_;refine IHj.out (_,_) ⟨hgm,hgg,g63,g106,?_,⟨?_⟩⟩
               .dsimp only;omega
               .rw[hrj.out,GA,hfin.out,hrl.out];rfl
            .refine ax ?_;exact hbc.out (by rw[hck.out,D4 g4];simp)
           .refine ax ?_;exact hbc.out (by rw[hck.out,D4 g2];simp)
          .refine ax ?_;exact hbc.out (by rw[hck.out,D4 g1];simp)
         .clear hgm hgg g63 g106 g hn2 n2;rintro j ⟨g,n2⟩ hij himj ⟨hgm,hgg,g63,g106,hn2,hrj⟩;dsimp only at*;have hgok:AA (KY p (Bs p st.ci) s i c k gr d=true):=⟨by rw[hgo3.out,hrj.out];rfl⟩;refine ax ?_;refine IH.out (g,_,c+d.be.length,k+d.ac.length) ⟨hgm,hgg,?_,?_,⟨?_⟩⟩
          .dsimp only;omega
          .dsimp only;omega
          .dsimp only;rw[hstep.out,hgok.out,F1]
      .rw[Mt]at hev;rw[hev]at p2;replace p2:o2=.f9 (CA 2):=p2;subst p2;refine aw ?_;refine hbad.out ?_;rw[hgo.out];clear IH hr hstep hbad hgo hy hd hv hT hF hm hg htr hlk hgm hgg;grind
     .replace p1:o1=.f9 (CA 2):=by
       rw[p1,BY];have:(decide (0≤gr.at_)&&decide (gr.at_<(s.ac.length:Int)))=false:=by
        rw[←Mt,AP,Ap,Ap];exact hin
       rw[this];rfl
      subst p1;refine aw ?_;exact hbad.out (by rw[hgo.out,D4 hin,EL])
    .rintro i ⟨g,n,c,k⟩ hi him ⟨hgm,hgg,b1,b2,hr⟩;dsimp only at*;have hfin:AA (Dr p st.ci s=((decide (c=s.be.length)&&decide (k=s.ac.length))&&s.waits.all (CD p st.ci s))):=⟨by rw[hr.out,E4]⟩;by_cases g1:c=s.be.length
     .by_cases g2:k=s.ac.length
      .have hf2:AA (Dr p st.ci s=s.waits.all (CD p st.ci s)):=⟨by rw[hfin.out,D7 g1,D7 g2];rfl⟩;clear hfin hr;refine aw ?_;clear hi him i b1 b2;refine AU s.waits _ (S:=fun m' i (a:AB×Nat)=>⟨[(0,.ptr m 0),(303,.d (.ce (s.waits.map AO))),(304,.d (.int .i64 (m'))),(305,.d (.int .i64 (i)))],a.1,a.2+86,[]⟩)
        (Inv:=fun i rest a=>a.1.get m=h.get m∧AA (Dr p st.ci s=rest.all (CD p st.ci s))) (b0:=(g,n)) rfl ⟨hgm,hf2⟩ ?_ ?_
       .clear hgm hgg hf2 g n;rintro i w ⟨g,n⟩ hy hi him ⟨hgm,hr⟩ IH;dsimp only at*;have hwo:AA (CD p st.ci s w=(decide (En s.ac w.at_)&&(!AX s.ac w.at_&&(decide (0≤w.node)&&((match p.nodes[w.node.toNat]? with|some x=>EZ x.op|none=>false)&&(decide ((w.env.length:Int)=(st.ci[w.node.toNat]?).getD 0)&&w.env.all (CW.inB p s.be.length s.ac.length))))))):=⟨rfl⟩
        have hbad:AA (CD p st.ci s w=false→AZ.f9 (CA 2)=(HQ (CA 2) (Dr p st.ci s)).1):=⟨fun h=>by rw[hr.out,F0,h];rfl⟩;refine ax ?_;refine Cu (ZJ (sp:=s.ac.map Aj) (Eq.trans (b:=h.get m) ?_ hm) (by simp;omega) w.at_) (fun o1 g1 p1=>?_)
        .simp only[go_sem,e1,hgm,AM]
        by_cases hin:En s.ac w.at_
        .replace p1:o1=.ret (.it []):=by
          rw[p1,D7 hin.1,BY,D7 hin.2];rfl
         subst p1;obtain⟨i1,i2⟩:=hin;obtain⟨sp,hsp⟩:=get_some (l:=s.ac) (i:=w.at_.toNat) (by omega);have hda:AA (AX s.ac w.at_=sp.dead):=⟨by simp[AX,hsp]⟩;by_cases n0:0≤w.node
         .by_cases n1:w.node<p.nodes.length
          .obtain⟨x,hx⟩:=get_some (l:=p.nodes) (i:=w.node.toNat) (by omega);obtain⟨v,_,hv,v0,v1,_⟩:=hF.out.node _ x hx;have hln:=AA.mk hF.out.len;have hlv:=AH hv;have hwo2:AA (CD p st.ci s w=(!AX s.ac w.at_&&(EZ x.op&&(decide ((w.env.length:Int)=v)&&w.env.all (CW.inB p s.be.length s.ac.length))))):=⟨by
            rw[hwo.out,hx,hv,D7 n0,D7 ⟨i1,i2⟩];rfl⟩
           clear hwo;cases hsd:sp.dead with
           |true=>
            refine ax ?_;all_goals exact hbad.out (by rw[hwo2.out,hda.out,hsd];rfl)
           |false=>
            by_cases ho:EZ x.op=true
            .have hwo3:AA (CD p st.ci s w=(decide ((w.env.length:Int)=v)&&w.env.all (CW.inB p s.be.length s.ac.length))):=⟨by
              rw[hwo2.out,hda.out,hsd,ho];rfl⟩
             simp only[EZ,Ip,Ap]at ho;replace ho:=AA.mk ho
             (repeat' (first|simp only[go_sem, *,AM]|(refine sx ?_ ?_<;>intro hc)|refine sy (by omega) fun x hx hm=>?_|simp(disch:=first|assumption|omega) only[AN]))
             all_goals try(exfalso;have:=ho.out;omega)
             all_goals
              refine Cu (VE (p:=p) (sp:=s.ac.map Aj) (ch:=s.be.map Cm) (Eq.trans (b:=h.get m) ?_ hm) (e3 _) (by simp;omega) (by simp;omega) (by omega) w.env v (by omega)) (fun o4 g4' p4=>?_)
              .simp only[go_sem,e1,hgm,AM]
              rw[BY,BY]at p4;rw[←hwo3.out]at p4;cases hmo:CD p st.ci s w with
              |true=>
               rw[hmo]at p4;replace p4:o4=.ret (.it []):=p4;subst p4;refine ax ?_;refine IH.out (_,_) ⟨?_,⟨?_⟩⟩
               .simp only[go_sem,e1,hgm,AM]
               .rw[hr.out,F0,hmo,F1]
              |false=>
               rw[hmo]at p4;replace p4:o4=.f9 (CA 2):=p4;subst p4;refine ax ?_;exact hbad.out hmo
            .have hof:AA (EZ x.op=false):=⟨by simpa using ho⟩;simp only[EZ,Ip,Ap,not_or]at ho;obtain⟨u1,u2,u3⟩:=ho;refine ax ?_;all_goals exact hbad.out (by rw[hwo2.out,hda.out,hof.out];simp)
          ·(repeat' (first|simp only[go_sem, *,AM]|(refine sx ?_ ?_<;>intro hc)|refine sy (by omega) fun x hx hm=>?_|simp(disch:=first|assumption|omega) only[AN]))
           all_goals exact hbad.out (by rw[hwo.out,No (show p.nodes.length≤w.node.toNat by omega)];simp)
         ·(repeat' (first|simp only[go_sem, *,AM]|(refine sx ?_ ?_<;>intro hc)|refine sy (by omega) fun x hx hm=>?_|simp(disch:=first|assumption|omega) only[AN]))
          all_goals exact hbad.out (by rw[hwo.out,D4 n0];simp)
        .replace p1:o1=.f9 (CA 2):=by
          rw[p1,BY];have:(decide (0≤w.at_)&&decide (w.at_<(s.ac.length:Int)))=false:=by
           rw[←Mt,AP,Ap,Ap];exact hin
          rw[this];rfl
         subst p1;refine ax ?_;exact hbad.out (by rw[hwo.out,D4 hin];rfl)
       .rintro i ⟨g,n⟩ hi him ⟨hgm,hr⟩;dsimp only at*;refine aw ?_;rw[hr.out];rfl
      .have g3: ¬(k:Int)=s.ac.length:=by omega
       refine aw ?_;rw[hfin.out,D4 g2];simp[HQ]
     .have g3: ¬(c:Int)=s.be.length:=by omega
      refine aw ?_;rw[hfin.out,D4 g1];rfl
 .have hk0:Dr p st.ci s=false:=by rw[Dr];simp[hss]
  rw[hk0];have hss:AA (¬(s.ac.length≤24∧s.bv.length≤40∧s.be.length≤60∧s.waits.length≤40)):=⟨by simpa[A9.small]using hss⟩
  (refine Af rfl Tryz.func91 rfl rfl rfl ?_;show Wp _ _ _ _ (Tryz.f91.body.get rfl) _ _;simp only[Tryz.f91,AS])
  (repeat' (first|simp only[go_sem, *]|(refine sx ?_ ?_<;>intro hc)|refine sy (by omega) fun x hx hm=>?_|simp(disch:=first|assumption|omega) only[AN]))
  all_goals first
  |rfl
  |(have:=hss.out;exfalso;omega)
end Go.Proofs
namespace Go.Abs
def sC(id:Id)(x:AR)(v:AV)(es:List (AR×AV)):Option (Option AV)→Option Br
 |some _=>some ⟨.undef,[(id,.map (Dm es x v))]⟩
 |none=>none
def fE(id:Id)(x:AR)(v:AV):Option Obj→Option Br
 |some (.map es)=>sC id x v es (Ca es x)
 |_=>none
def sE(x:AR)(v:AV)(id:Id)(o:Option Obj):Option TI→Option Br
 |some j=>if (JH j.kind x&&v.isCell)=true then fE id x v o else none
 |none=>none
theorem kV(T:TypeId→Option TI)(g:G)(i:TI)(id:Id)(x:AR)(v:AV)(hk:i.kind=.map):mapPut T g (some i) (.mp id) (.d x) v=sE x v id (g id) (T i.key):=by
 unfold mapPut;simp only[Ks,hk];cases T i.key with
 |none=>rfl
 |some j=>
  simp only[sE];cases JH j.kind x&&v.isCell with
  |false=>rfl
  |true=>
   simp only[F5];cases g id with
   |none=>rfl
   |some o=>
    cases o with
    |map es=>
     simp only[fE];cases Ca es x<;>rfl
    |_=>rfl
theorem bp(x:AR)(v:AV)(id:Id)(o:Option Obj)(j:TI):sE x v id o (some j)=if (JH j.kind x&&v.isCell)=true then fE id x v o else none:=rfl
theorem k9(id:Id)(x:AR)(v:AV)(es:List (AR×AV)):fE id x v (some (.map es))=sC id x v es (Ca es x):=rfl
theorem bo(id:Id)(x:AR)(v:AV)(es:List (AR×AV))(o:Option AV):sC id x v es (some o)=some ⟨.undef,[(id,.map (Dm es x v))]⟩:=rfl
theorem ba(x:AR)(v:AV):Dm [] x v=[(x,v)]:=rfl
theorem bZ(k:IntKind)(a b:Int)(v w:AV)(es:List (AR×AV)):Dm ((.int k a,w)::es) (.int k b) v=if a=b then(.int k a,v)::es else(.int k a,w)::Dm es (.int k b) v:=by
 rw[Dm];by_cases h:a=b
 .have hb:(a==b)=decide (a=b):=by rw[OP];simp
  simp[GY,h,hb]
 .have hb:(a==b)=decide (a=b):=by rw[OP];simp
  simp[GY,h,hb]
attribute [go_sem] kV bp k9 bo ba bZ
end Go.Abs
namespace Go.Proofs
open Go Go.Abs
set_option maxRecDepth 100000
set_option maxHeartbeats 4000000
def LH(π:List Nat)(p:AI)(st:Bo):AB:=if p.defs.length=0 then
    [(0::0::π,.box [.co,.co,.co,.co,.d (.ce (p.free.map CM)),.d (.ce (p.nodes.map Bg)),.d (.ce (p.defs.map CX)),.d (.int .i64 (p.main)),.d (.ce (st.ci.map AL)),.emp,.mp (1::3::π),.co,.d (.int .i64 (0))]),(1::3::π,.map Iz)]
 else [(0::0::π,.box [.co,.co,.co,.co,.d (.ce (p.free.map CM)),.d (.ce (p.nodes.map Bg)),.d (.ce (p.defs.map CX)),.d (.int .i64 (p.main)),.d (.ce (st.ci.map AL)),.f8 (1::1::π) 0 p.defs.length,.mp (1::4::π),.co,.d (.int .i64 (0))]),(1::1::π,.d7 1 ((Bs p st.ci).map AL)),(1::4::π,.map Iz)]
structure nx(π:List Nat)(p:AI)(r:AZ×AB):Prop where
 f9:looks p=none→r=(.f9 (CA 2),[])
 ret: ∀st,looks p=some st→r=(.ret (.ptr (0::0::π) 0),LH π p st)
theorem Yq(p:AI)(hp: ∀s∈p.free,s.size≤maxLen)(k:Nat)(ρ:List Nat): ∃r,BU (KL Tryz.prog cfg) 65 [.agg [.d (.ce (p.free.map CM)),.d (.ce (p.nodes.map Bg)),.d (.ce (p.defs.map CX)),.d (.int .i64 (p.main))]] (k::ρ)=.ok r∧nx (k::ρ) p r:=by
 have hsz:=oB p hp;replace hp:=AA.mk hp;cases hlk:looks p with
 |none=>
  rw[hlk]at hsz;simp only[Jd]at hsz
  (refine Gp rfl Tryz.func65 rfl rfl rfl ?_;show Wp _ _ _ _ (Tryz.f65.body.get rfl) _ _;simp only[Tryz.f65,AS])
  refine aw ?_;exact⟨fun _=>rfl,fun st h=>by rw[hlk]at h;cases h⟩
 |some st=>
  rw[hlk]at hsz;simp only[Jd]at hsz;have hF:=AA.mk (Et hlk);have hsm:=hF.out.small;simp only[AI.small,AP,Ap]at hsm;obtain⟨c1,c2,c3⟩:=hsm
  (refine Gp rfl Tryz.func65 rfl rfl rfl ?_;show Wp _ _ _ _ (Tryz.f65.body.get rfl) _ _;simp only[Tryz.f65,AS])
  by_cases hD0:p.defs.length=0
  ·(repeat' (first|simp only[go_sem, *]|(refine sx ?_ ?_<;>intro hc)|refine sy (by omega) fun x hx hm=>?_|simp(disch:=first|assumption|omega) only[AN,Jt]))
   refine AU p.nodes _ (S:=fun m i (_:Unit)=>⟨[(3,.d (.ce (st.ci.map AL))),(5,.ptr (0::0::k::ρ) 0),(25,.d (.ce (p.nodes.map Bg))),(26,.d (.int .i64 (m))),(27,.d (.int .i64 (i)))],[(0::0::k::ρ,.box [.co,.co,.co,.co,.d (.ce (p.free.map CM)),.d (.ce (p.nodes.map Bg)),.d (.ce (p.defs.map CX)),.d (.int .i64 (p.main)),.d (.ce (st.ci.map AL)),.emp,.d .rc,.co,.d (.int .i64 (0))])],1,[]⟩)
    (Inv:=fun i rest _=>True) (b0:=()) rfl trivial ?_ ?_
   .rintro i y _ hy hi him _ IH;have ho: ¬y.op=4:=fun ho=>by
     have:=Qh hF.out hy ho;omega
    refine aw ?_;exact IH.out () trivial
   .rintro i _ hi him _;have hD1:=AA.mk hD0;refine aw ?_;exact⟨fun h=>(by rw[hlk]at h;cases h),fun st h=>by rw[hlk]at h;cases h;rw[LH,D1 hD1.out];rfl⟩
  ·(repeat' (first|simp only[go_sem, *]|(refine sx ?_ ?_<;>intro hc)|refine sy (by omega) fun x hx hm=>?_|simp(disch:=first|assumption|omega) only[AN,Jt]))
   refine AU p.nodes _ (S:=fun m i (out:List Int)=>⟨[(3,.d (.ce (st.ci.map AL))),(5,.ptr (0::0::k::ρ) 0),(25,.d (.ce (p.nodes.map Bg))),(26,.d (.int .i64 (m))),(27,.d (.int .i64 (i)))],[(0::0::k::ρ,.box [.co,.co,.co,.co,.d (.ce (p.free.map CM)),.d (.ce (p.nodes.map Bg)),.d (.ce (p.defs.map CX)),.d (.int .i64 (p.main)),.d (.ce (st.ci.map AL)),.f8 (1::1::k::ρ) 0 p.defs.length,.d .rc,.co,.d (.int .i64 (0))]),(1::1::k::ρ,.d7 1 (out.map AL))],2,[]⟩)
    (Inv:=fun i rest out=>out.length=p.defs.length∧AA (Bs p st.ci=GK st.ci out rest)) (b0:=List.replicate p.defs.length 0) rfl ⟨by simp,⟨rfl⟩⟩ ?_ ?_
   .rintro i y out hy hi him ⟨hol,hr⟩ IH;by_cases ho:y.op=4
    .obtain⟨n1,n2,kk,v,hk,hk0,hkv,hks,_,_⟩:=Qh hF.out hy ho;obtain⟨o,hoo⟩:=get_some (l:=out) (i:=y.n.toNat) (by omega);have hyn:y.n.toNat<p.defs.length:=by omega
     have hks:=AA.mk hks;refine aw ?_;have e:(out.map AL).set y.n.toNat [.int .i64 v]=(out.set y.n.toNat v).map AL:=by rw[NO];rfl
     rw[e];refine IH.out (out.set y.n.toNat v) ⟨by simpa using hol,⟨?_⟩⟩;rw[hr.out,GK,D1 ho,hks.out]
    .refine aw ?_;refine IH.out out ⟨hol,⟨?_⟩⟩;rw[hr.out,GK,Ci ho]
   .rintro i out hi him ⟨hol,hr⟩;have hgr:AA (Bs p st.ci=out):=⟨by rw[hr.out];rfl⟩;refine aw ?_;exact⟨fun h=>(by rw[hlk]at h;cases h),fun st h=>by rw[hlk]at h;cases h;rw[LH,Ci hD0,hgr.out];rfl⟩
end Go.Proofs
namespace Go.Proofs
open Go Go.Abs
set_option maxRecDepth 100000
set_option maxHeartbeats 4000000
def cpV(v1 v2 v3 v4 v9:AV)(a:Abs.Id)(rows:List (List AV)):MV:=⟨fun i=>match i with|0=>v1|1=>v2|2=>v4|_=>.co,v3,v9,a,rows⟩
variable{π ρ:List Nat}{s:A9}{rows:List (List AV)}{g:AB}{m:Abs.Id}{p:AI}{sz:List Int}
theorem W9{v1 v2 v3 v4:AV}(hC:na π s v1 v2 v3 v4 rows g){G:AB}{a:Abs.Id}{v9:AV}{n:Nat}(hρ:π=n::ρ)(hb:G.get m=some (.box (Ah p sz (cpV v1 v2 v3 v4 v9 a rows) 0)))(ha:G.get a=some (.map Iz))
 (hg: ∀id o,g.get id=some o→G.get id=some o) (hm:Id.under ρ m=true) (ham:Id.under ρ a=true):Dt p sz G m (cpV v1 v2 v3 v4 v9 a rows) ⟨s,[],0⟩∧ ∀id∈(cpV v1 v2 v3 v4 v9 a rows).ids m,Id.under ρ id=true:=by
 have key: ∀{sz:Nat} {v:AV} {es:List (List AR)},Kc g sz v es→Kc G sz v es:=fun h=>by
  refine C9 h fun id hid=>?_;obtain⟨x,hx⟩:=ED h hid;rw[hx];exact hg _ _ hx
 refine⟨⟨hb,ha,fun i hi=>?_,?_,?_,hC.gw,hC.qd⟩,fun id hid=>?_⟩
 .match i,hi with
  |0,_=>exact key hC.s0
  |1,_=>exact key hC.s1
  |2,_=>exact key hC.s2
  |3,_=>exact .inl ⟨rfl,rfl⟩
 .refine Kp hC.arr fun id hid=>?_;have:=Gu hC.arr hid;rw[this];exact hg _ _ this
 .refine Ko hC.be fun id hid=>?_;obtain⟨x,hx⟩:=J9 hC.be hid;rw[hx];exact hg _ _ hx
 .have hu:=fun h=>BD (n:=n) (hρ▸hC.ids id h);rcases(MV.mem _ m id).1 hid with rfl|rfl|⟨i,hi,h⟩|h|h
  .exact hm
  .exact ham
  .match i,hi with
   |0,_=>exact hu (.inl h)
   |1,_=>exact hu (.inr (.inl h))
   |2,_=>exact hu (.inr (.inr (.inl h)))
   |3,_=>simp[cpV,AD]at h
  .exact hu (.inr (.inr (.inr (.inl h))))
  .exact hu (.inr (.inr (.inr (.inr h))))
structure nn(π:List Nat)(p:AI)(s:A9)(st:Bo)(id:Abs.Id)(V:MV)(g:AB):Prop where
 looks:looks p=some st
 rep:Dt p st.ci g id V ⟨s,[],0⟩
 ids: ∀x∈V.ids id,Id.under π x=true
 own: ∀x,Id.under π x=false→g.get x=none
structure np(π:List Nat)(p:AI)(s:A9)(r:AZ×AB):Prop where
 bad:EE p s≠0→r=(.f9 (CA 2),[])
 i6:EE p s=0→ ∃st id V g,r=(.ret (.ptr id 0),g)∧nn π p s st id V g
variable{V:MV}
theorem ey{st:Bo}{id:Abs.Id}(h1:looks p=some st)(h2:Dt p st.ci g id V ⟨s,[],0⟩∧ ∀x∈V.ids id,Id.under π x=true)(h3: ∀x,Id.under π x=false→g.get x=none):nn π p s st id V g:=⟨h1,h2.1,h2.2,h3⟩
theorem kH(p:AI)(s:A9)(hp: ∀s∈p.free,s.size≤maxLen)(k:Nat)(ρ:List Nat): ∃r,BU (KL Tryz.prog cfg) 51 [.agg [.d (.ce (p.free.map CM)),.d (.ce (p.nodes.map Bg)),.d (.ce (p.defs.map CX)),.d (.int .i64 (p.main))],.agg [.d (.ce (s.ac.map Aj)),.d (.ce (s.bv.map A8)),.d (.ce (s.be.map Cm)),.d (.ce (s.waits.map AO))]] (k::ρ)=.ok r∧np (k::ρ) p s r:=by
 obtain⟨r,hr,hpost⟩:=Yq p hp 4 (k::ρ);replace hp:=AA.mk hp;cases hlk:looks p with
 |none=>
  obtain rfl:=hpost.f9 hlk
  (refine Gp rfl Tryz.func51 rfl rfl rfl ?_;show Wp _ _ _ _ (Tryz.f51.body.get rfl) _ _;simp only[Tryz.f51,AS])
  refine aw ?_;exact⟨fun _=>rfl,fun h=>by rw[EE,hlk]at h;cases h⟩
 |some st=>
  obtain rfl:=hpost.ret st hlk;have hse:AA (EE p s=if Dr p st.ci s=true then 0 else 2):=⟨by rw[EE,hlk]⟩;have hfit:=fun h=>gP s (R7 hlk h);by_cases hD0:p.defs.length=0
  .simp only[LH,hD0,F5,Ex,Iz]at hr
   (refine Gp rfl Tryz.func51 rfl rfl rfl ?_;show Wp _ _ _ _ (Tryz.f51.body.get rfl) _ _;simp only[Tryz.f51,AS])
   refine aw ?_;refine Cu (Qx (s:=s) (x9:=.emp) (x10:=.mp (1::3::4::k::ρ)) (x11:=.co) (x12:=.d (.int .i64 (0))) (gid:=1::1::4::k::ρ) hlk ?_ ?_ ?_ ?_ ?_) (fun o1 g1 p1=>?_)
   .simp only[go_sem]
   .exact Ds _ _ _ _ _ (by decide)
   .simp only[slv,hD0,F5,Ex]
   .intro hh;first
    |exact absurd hD0 hh
    |(simp only[go_sem];done)
    |(simp only[go_sem];rfl)
   .exact Ds _ _ _ _ _ (by decide)
   cases hso:Dr p st.ci s with
   |false=>
    rw[hso]at p1;replace p1:o1=.f9 (CA 2):=p1;subst p1;replace hfit:=AA.mk hfit;refine aw ?_;exact⟨fun _=>rfl,fun h=>by rw[hse.out,hso]at h;cases h⟩
   |true=>
    rw[hso]at p1;replace p1:o1=.ret (.it []):=p1;subst p1;obtain⟨r2,hr2,v1,v2,v3,v4,rows,g,rfl,hC⟩:=hfit hso 15 (k::ρ);clear hfit;have hgn:=hC.own;have hgm: ∀L,AB.get (g++L) (0::0::4::k::ρ)=AB.get L (0::0::4::k::ρ):=fun L=>BH (hgn _ (Ds _ _ _ _ _ (by decide)));replace hgn:=AA.mk hgn;have hgood:AA (EE p s=0):=⟨by rw[hse.out,hso];rfl⟩;have hcr:=AA.mk fun G v9 h1 h2 h3=>W9 hC (G:=G) (m:=0::0::4::k::ρ) (a:=1::3::4::k::ρ) (v9:=v9) (p:=p) (sz:=st.ci) rfl h1 h2 h3 (under_iff.2 ⟨[0,0,4],rfl⟩) (under_iff.2 ⟨[1,3,4],rfl⟩);have hga:AA (∀L,AB.get (g++L) (1::3::4::k::ρ)=AB.get L (1::3::4::k::ρ)):=⟨fun L=>BH (hC.own _ (Ds _ _ _ _ _ (by decide)))⟩;have hnis:AA (∀id o,g.get id=some o→Id.is (0::0::4::k::ρ) id=false):=⟨fun id o ho=>AE fun e=>by rw[←e,hC.own _ (Ds _ _ _ _ _ (by decide))]at ho;cases ho⟩;have hX:=AA.mk hlk;have h1:=hC.s0;have h2:=hC.s1;have h3:=hC.arr;have h4:=hC.s2;replace hC:=AA.mk hC;rcases h1 with⟨rfl,z1⟩|⟨i1,x1,rfl,z1⟩;all_goals rcases h2 with⟨rfl,z2⟩|⟨i2,x2,rfl,z2⟩
    all_goals rcases h3 with⟨rfl,z3⟩|⟨i3,rfl,z3⟩
    all_goals rcases h4 with⟨rfl,z4⟩|⟨i4,x4,rfl,z4⟩
    all_goals
     replace z1:=AA.mk z1;replace z2:=AA.mk z2;replace z3:=AA.mk z3;replace z4:=AA.mk z4;refine aw ?_;refine⟨fun h=>absurd hgood.out h,fun _=>⟨st,_,_,_,rfl,ey hX.out (hcr.out _ .emp ?_ ?_ fun id o ho=>?_) fun id hu=>?_⟩⟩
     .simp only[go_sem,Ah,cpV];first|done|rfl
     .simp only[go_sem,hga.out,Iz];first|done|rfl
     .have q1:=hnis.out id o ho;have q2: ∀L,AB.get (g++L) id=some o:=fun L=>Cx ho;simp only[go_sem,q1,q2,AM]
     .have a1:=AG hu;have a2:=AG (AF hu 4);have a3: ∀L,AB.get (g++L) id=AB.get L id:=fun L=>BH (hC.out.own id (AF hu 15));simp only[go_sem,a1,a2,a3,AM]
  .simp only[LH,hD0,F5,Ex,Iz]at hr
   (refine Gp rfl Tryz.func51 rfl rfl rfl ?_;show Wp _ _ _ _ (Tryz.f51.body.get rfl) _ _;simp only[Tryz.f51,AS])
   refine aw ?_;refine Cu (Qx (s:=s) (x9:=.f8 (1::1::4::k::ρ) 0 p.defs.length) (x10:=.mp (1::4::4::k::ρ)) (x11:=.co) (x12:=.d (.int .i64 (0))) (gid:=1::1::4::k::ρ) hlk ?_ ?_ ?_ ?_ ?_) (fun o1 g1 p1=>?_)
   .simp only[go_sem]
   .exact Ds _ _ _ _ _ (by decide)
   .simp only[slv,hD0,F5,Ex]
   .intro hh;first
    |exact absurd hD0 hh
    |(simp only[go_sem];done)
    |(simp only[go_sem];rfl)
   .exact Ds _ _ _ _ _ (by decide)
   cases hso:Dr p st.ci s with
   |false=>
    rw[hso]at p1;replace p1:o1=.f9 (CA 2):=p1;subst p1;replace hfit:=AA.mk hfit;refine aw ?_;exact⟨fun _=>rfl,fun h=>by rw[hse.out,hso]at h;cases h⟩
   |true=>
    rw[hso]at p1;replace p1:o1=.ret (.it []):=p1;subst p1;obtain⟨r2,hr2,v1,v2,v3,v4,rows,g,rfl,hC⟩:=hfit hso 15 (k::ρ);clear hfit;have hgn:=hC.own;have hgm: ∀L,AB.get (g++L) (0::0::4::k::ρ)=AB.get L (0::0::4::k::ρ):=fun L=>BH (hgn _ (Ds _ _ _ _ _ (by decide)));replace hgn:=AA.mk hgn;have hgood:AA (EE p s=0):=⟨by rw[hse.out,hso];rfl⟩;have hcr:=AA.mk fun G v9 h1 h2 h3=>W9 hC (G:=G) (m:=0::0::4::k::ρ) (a:=1::4::4::k::ρ) (v9:=v9) (p:=p) (sz:=st.ci) rfl h1 h2 h3 (under_iff.2 ⟨[0,0,4],rfl⟩) (under_iff.2 ⟨[1,4,4],rfl⟩);have hga:AA (∀L,AB.get (g++L) (1::4::4::k::ρ)=AB.get L (1::4::4::k::ρ)):=⟨fun L=>BH (hC.own _ (Ds _ _ _ _ _ (by decide)))⟩;have hnis:AA (∀id o,g.get id=some o→Id.is (0::0::4::k::ρ) id=false):=⟨fun id o ho=>AE fun e=>by rw[←e,hC.own _ (Ds _ _ _ _ _ (by decide))]at ho;cases ho⟩;have hX:=AA.mk hlk;have h1:=hC.s0;have h2:=hC.s1;have h3:=hC.arr;have h4:=hC.s2;replace hC:=AA.mk hC;rcases h1 with⟨rfl,z1⟩|⟨i1,x1,rfl,z1⟩;all_goals rcases h2 with⟨rfl,z2⟩|⟨i2,x2,rfl,z2⟩
    all_goals rcases h3 with⟨rfl,z3⟩|⟨i3,rfl,z3⟩
    all_goals rcases h4 with⟨rfl,z4⟩|⟨i4,x4,rfl,z4⟩
    all_goals
     replace z1:=AA.mk z1;replace z2:=AA.mk z2;replace z3:=AA.mk z3;replace z4:=AA.mk z4;refine aw ?_;refine⟨fun h=>absurd hgood.out h,fun _=>⟨st,_,_,_,rfl,ey hX.out (hcr.out _ (.f8 (1::1::4::k::ρ) 0 p.defs.length) ?_ ?_ fun id o ho=>?_) fun id hu=>?_⟩⟩
     .simp only[go_sem,Ah,cpV];first|done|rfl
     .simp only[go_sem,hga.out,Iz];first|done|rfl
     .have q1:=hnis.out id o ho;have q2: ∀L,AB.get (g++L) id=some o:=fun L=>Cx ho;simp only[go_sem,q1,q2,AM]
     .have a1:=AG hu;have a2:=AG (AF hu 4);have a3: ∀L,AB.get (g++L) id=AB.get L id:=fun L=>BH (hC.out.own id (AF hu 15));simp only[go_sem,a1,a2,a3,AM]
theorem xB{K:AK}{bi:Option (List Nat)}{ρ2:List Nat}{id2:Abs.Id}{e:BT}{bs:Nat}{ds:List Df}{Q:DW→St→Prop}{t:zl}{args:List AV}{H:AB}{r:Lp}(hn: ∀r',r'=r→Gk ρ ρ2 id2 e bs ds Q (K t args (H.put id2 (.loop r')) ρ2 true bi)):Gk ρ ρ2 id2 e bs ds Q (K t args (H.put id2 (.loop r)) ρ2 true bi):=hn r rfl
variable{st:B7}
theorem lB{G:AB}(h:Dt p sz g m V st)(hg: ∀id o,g.get id=some o→G.get id=some o):Dt p sz G m V st:=by
 refine⟨hg _ _ h.box,hg _ _ h.pp,fun i hi=>C9 (h.sl i hi) fun id hid=>?_,Kp h.arr fun id hid=>?_,Ko h.be fun id hid=>?_,h.gw,h.qd⟩
 .obtain⟨x,hx⟩:=ED (h.sl i hi) hid;rw[hx];exact hg _ _ hx
 .have:=Gu h.arr hid;rw[this];exact hg _ _ this
 .obtain⟨x,hx⟩:=J9 h.be hid;rw[hx];exact hg _ _ hx
def Dk:A9:=⟨[],[],[],[]⟩
structure Made where
 d9:A9
 ev:List Du
 err:Int
abbrev Tn(r:Made):AV:=.it [sA r.d9,.d (.ce (r.ev.map EG)),.d (.int .i64 r.err)]
variable{es:List (List AR)}
theorem EJ{sz:Nat}{v:AV}(h:Kc g sz v es):v.isCell=true∧v.cells=[v]:=by
 rcases h with⟨rfl,_⟩|⟨_,_,rfl,_⟩<;>exact⟨rfl,rfl⟩
theorem Qa{v:AV}(h:ue g v rows):v.isCell=true∧v.cells=[v]:=by
 rcases h with⟨rfl,_⟩|⟨_,rfl,_⟩<;>exact⟨rfl,rfl⟩
theorem fP{α:Type}(l x:List α)(n:Nat)(hn:n=l.length):Ix (l++x) 0 n=some l:=by
 subst hn;unfold Ix;rw[D1 (by simp)];simp
theorem Xd{sz:Nat}{v:AV}(h:Kc g sz v es):Ee g.get v=some (.ce es):=by
 rcases h with⟨rfl,rfl⟩|⟨id,x,rfl,hg⟩
 .rfl
 .simp only[Ee,hg,fP es x _ rfl,D9]
theorem Nd{sz:Nat}{v:AV}(h:Kc g sz v es):DJ g.get v=some (.ce es):=by
 have h1:=Xd h;rcases h with⟨rfl,rfl⟩|⟨id,x,rfl,hg⟩
 .rfl
 .simp only[DJ,hg];exact h1
theorem qE{sz:Nat}{v:AV}(h:Kc g sz v es):Dz g.get v=some (.d (.ce es)):=by
 have h1:=Nd h;rcases h with⟨rfl,rfl⟩|⟨id,x,rfl,hg⟩
 .rfl
 .simp only[Dz,h1,D9]
theorem Ta{g:AB}: ∀{rows:List (List AV)} {l:List Fg},rows.length=l.length→(∀(j:Nat) (q:Fg),l[j]? =some q→ ∃v,rows[j]? =some (Aq q v)∧Kc g 1 v (q.queue.map BF))→Cb g.get rows=some (l.map Cm)
 |[],[],_,_=>rfl
 |[],_::_,h,_=>by cases h
 |_::_,[],h,_=>by cases h
 |r::rows,q::l,h,hr=>by
  obtain⟨v,h1,h2⟩:=hr 0 q rfl;simp only[Es,Bi]at h1;subst h1;have ih:=Ta (rows:=rows) (l:=l) (by simpa using h) fun j q hj=>by
   have:=hr (j+1) q (by simpa using hj);simpa using this
  have h3:=Xd h2;have h4:CU g.get (Aq q v)=some (Cm q):=by
   simp only[Aq,CU,h3,show∀x,Ee g.get (.d x)=some x from fun _=>rfl,Cm]
  simp only[Cb,h4,ih,El]
theorem qJ{v:AV}{l:List Fg}(h:ue g v rows)(hc:zF g rows l):DJ g.get v=some (.ce (l.map Cm)):=by
 have h1:=Ta hc.len hc.row;have hl:=hc.len;rcases h with⟨rfl,rfl⟩|⟨id,rfl,hg⟩
 .cases l with
  |nil=>rfl
  |cons q l=>cases hl
 .have:=fP (l.map Cm) [] rows.length (by rw[BY,hl]);rw[CS]at this;simp only[DJ,hg,h1,this,D9]
theorem iy{p:AI}{sz:List Int}{s:A9}{st:B7}{h:AB}{π:List Nat}{m:Abs.Id}{V:MV}(hF:BC p sz)(hM:Dt p sz h m V st)(hst:st.d9=s)(hu:Bn π V m)(hs:FB p sz s): ∃o h',KL Tryz.prog cfg (.fn 108) [.co,.fn 52 [.ptr m 0] []] h π true none=.ok (o,h')∧ ∃v,o=.ret v∧Kc h' 4 v ((CC p s).map EW)∧(∀i∈AD v,Id.under π i=true∧ ∃l,i=1::l)∧ ∀i,Id.under π i=false→h'.get i=h.get i:=by
 subst hst;have hlen:=UX hF hs;replace hM:=AA.mk hM;replace hF:=AA.mk hF;replace hs:=AA.mk hs;replace hu:=AA.mk hu
 (refine Af rfl Tryz.func108 rfl rfl rfl ?_;show Wp _ _ _ _ (Tryz.f108.body.get rfl) _ _;simp only[Tryz.f108,AS])
 refine aw ?_;refine xB fun r0 hr0=>?_;obtain⟨I,hI⟩: ∃I:List FU→(Abs.Id→Prop)→AB→Prop,I=fun l M g=>g.get (0::3::π)=some (.loop r0)∧(∀i,M i→ ∃l,i=1::l)∧ ∃v pre,CC p st.d9=pre++l∧g.get (0::0::π)=some (.box [v])∧Kc g 4 v (pre.map EW)∧ ∀i∈AD v,M i:=⟨_,rfl⟩;have hE:Kf oC (0::3::π) (fun i=>i=0::3::π∨i=0::0::π) I (fun _ _=>False) (4::π):=by
  refine⟨.inl rfl,fun i hi=>?_,fun h=>?_,fun h=>?_,fun{x l M H ρ v r} hI2 hr hv hρ hMρ hid=>?_,fun h hs=>?_,fun h _=>h.elim⟩
  .rcases hi with rfl|rfl
   .exact AW π (by omega)
   .exact AW π (by omega)
  .rw[hI]at h;exact h.2.1
  .rw[hI]at h;exact⟨_,h.1⟩
  .rw[hI]at hI2;obtain⟨g3,hMt,av,pre,hpre,g0,ha,hM⟩:=hI2;rw[g3]at hr;cases hr;have hpl:=congrArg List.length hpre;rw[CE,List.length_cons]at hpl;obtain⟨pv,rfl,hpv⟩:=hv;have u3:=hρ _ (AW (k:=3) (n:=4) π (by omega));have u0:=hρ _ (AW (k:=0) (n:=4) π (by omega));have a3:=AG u3;have b3:=Av u3;have a0:=AG u0;have b0:=Av u0;subst hr0;replace hI:=AA.mk hI;replace hpre:=AA.mk hpre;replace hM:=AA.mk hM;replace hMt:=AA.mk hMt;replace hρ:=AA.mk hρ;replace hMρ:=AA.mk hMρ;rcases ha with⟨rfl,hz⟩|⟨A,xs,rfl,gA⟩
   .have hz2:=F9.1 hz;subst hz2;clear hz hpl;rcases hpv with⟨rfl,hp0⟩|⟨X,rfl,gX,lX,rfl⟩
    .have he:EW x=[.int .i64 x.wait,.int .i64 x.group,.int .i64 x.wd,.ce []]:=by rw[EW,hp0];rfl
     replace hp0:=AA.mk hp0;replace he:=AA.mk he;refine Fc rfl ?_;refine aw ?_;refine .inl ⟨rfl,fun i=>i=1::5::ρ,?_,fun i hi=>.inr (.inr ⟨5,ρ,hi,Ab []⟩),fun i q1 q0 qv q2=>?_⟩
     .rw[hI.out];refine⟨?_,fun i hi=>⟨_,hi⟩,.f8 (1::5::ρ) 0 1,[x],hpre.out,?_,BP [] rfl ?_,fun i hi=>by simpa[AD]using hi⟩
      .simp only[go_sem]
      .simp only[go_sem]
      .rw[El,he.out];simp only[go_sem]
     .have p3:=AE fun e=>q1 (.inl e.symm);have p0:=AE fun e=>q1 (.inr e.symm);have p2:=AG q2;simp only[go_sem,p0,p2,p3,AM]
    .replace gX:=gX;refine Fc rfl ?_;refine aw ?_;refine .inl ⟨rfl,fun i=>i=1::5::ρ,?_,fun i hi=>.inr (.inr ⟨5,ρ,hi,Ab []⟩),fun i q1 q0 qv q2=>?_⟩
     .rw[hI.out];refine⟨?_,fun i hi=>⟨_,hi⟩,.f8 (1::5::ρ) 0 1,[x],hpre.out,?_,BP [] rfl ?_,fun i hi=>by simpa[AD]using hi⟩
      .simp only[go_sem]
      .simp only[go_sem]
      .rw[El,EW];simp only[go_sem]
     .have pX:Id.is (1::lX) i=false:=AE fun e=>qv (by simp[AD,Au,e]);have p3:=AE fun e=>q1 (.inl e.symm);have p0:=AE fun e=>q1 (.inr e.symm);have p2:=AG q2;simp only[go_sem,p0,p2,p3,pX,AM]
   .obtain⟨lA,rfl⟩:=hMt.out A (hM.out A (by simp[AD]));have uA:=hMρ.out (1::lA) (hM.out _ (by simp[AD]));have c1:=AG uA;have c2:=Av uA;have hpx:AA (CC p st.d9=(pre++[x])++l):=⟨by rw[hpre.out,D3];rfl⟩;rw[BY]at g0;rcases hpv with⟨rfl,hp0⟩|⟨X,rfl,gX,lX,rfl⟩
    .have he:EW x=[.int .i64 x.wait,.int .i64 x.group,.int .i64 x.wd,.ce []]:=by rw[EW,hp0];rfl
     replace hp0:=AA.mk hp0;replace he:=AA.mk he;rcases xs with _|⟨y,xs⟩
     .refine Fc rfl ?_;refine ax ?_;refine .inl ⟨rfl,fun i=>i=1::5::ρ,?_,fun i hi=>.inr (.inr ⟨5,ρ,hi,Ab []⟩),fun i q1 q0 qv q2=>?_⟩
      .rw[hI.out];refine⟨?_,fun i hi=>⟨_,hi⟩,.f8 (1::5::ρ) 0 (pre.length+1),pre++[x],hpx.out,?_,BP [] (by simp) ?_,fun i hi=>by simpa[AD]using hi⟩
       .simp only[go_sem]
       .simp only[go_sem]
       .rw[By,El,he.out,CO];simp only[go_sem,AM]
      .have pA:Id.is (1::lA) i=false:=AE fun e=>q0 (e▸hM.out (1::lA) (by simp[AD]));have p3:=AE fun e=>q1 (.inl e.symm);have p0:=AE fun e=>q1 (.inr e.symm);have p2:=AG q2;simp only[go_sem,p0,p2,p3,pA,AM]
     .refine Fc rfl ?_;refine ax ?_;refine .inl ⟨rfl,M,?_,fun i hi=>.inl hi,fun i q1 q0 qv q2=>?_⟩
      .rw[hI.out];refine⟨?_,hMt.out,.f8 (1::lA) 0 (pre.length+1),pre++[x],hpx.out,?_,BP xs (by simp) ?_,fun i hi=>hM.out i (by simpa[AD]using hi)⟩
       .simp only[go_sem]
       .simp only[go_sem]
       .rw[By,El,he.out,CO];simp only[go_sem,AM]
      .have pA:Id.is (1::lA) i=false:=AE fun e=>q0 (e▸hM.out (1::lA) (by simp[AD]));have p3:=AE fun e=>q1 (.inl e.symm);have p0:=AE fun e=>q1 (.inr e.symm);have p2:=AG q2;simp only[go_sem,p0,p2,p3,pA,AM]
    .have c5:Id.is (1::lX) (1::lA)=false:=AE fun e=>by rw[e]at gX;rw[gX]at gA;cases gA
     have c6:Id.is (1::lA) (1::lX)=false:=AE fun e=>by rw[←e]at gX;rw[gX]at gA;cases gA
     rcases xs with _|⟨y,xs⟩
     .refine Fc rfl ?_;refine ax ?_;refine .inl ⟨rfl,fun i=>i=1::5::ρ,?_,fun i hi=>.inr (.inr ⟨5,ρ,hi,Ab []⟩),fun i q1 q0 qv q2=>?_⟩
      .rw[hI.out];refine⟨?_,fun i hi=>⟨_,hi⟩,.f8 (1::5::ρ) 0 (pre.length+1),pre++[x],hpx.out,?_,BP [] (by simp) ?_,fun i hi=>by simpa[AD]using hi⟩
       .simp only[go_sem]
       .simp only[go_sem]
       .rw[By,El,EW,CO];simp only[go_sem,AM]
      .have pA:Id.is (1::lA) i=false:=AE fun e=>q0 (e▸hM.out (1::lA) (by simp[AD]));have pX:Id.is (1::lX) i=false:=AE fun e=>qv (by simp[AD,Au,e]);have p3:=AE fun e=>q1 (.inl e.symm);have p0:=AE fun e=>q1 (.inr e.symm);have p2:=AG q2;simp only[go_sem,p0,p2,p3,pA,pX,AM]
     .refine Fc rfl ?_;refine ax ?_;refine .inl ⟨rfl,M,?_,fun i hi=>.inl hi,fun i q1 q0 qv q2=>?_⟩
      .rw[hI.out];refine⟨?_,hMt.out,.f8 (1::lA) 0 (pre.length+1),pre++[x],hpx.out,?_,BP xs (by simp) ?_,fun i hi=>hM.out i (by simpa[AD]using hi)⟩
       .simp only[go_sem]
       .simp only[go_sem]
       .rw[By,El,EW,CO];simp only[go_sem,AM]
      .have pA:Id.is (1::lA) i=false:=AE fun e=>q0 (e▸hM.out (1::lA) (by simp[AD]));have pX:Id.is (1::lX) i=false:=AE fun e=>qv (by simp[AD,Au,e]);have p3:=AE fun e=>q1 (.inl e.symm);have p0:=AE fun e=>q1 (.inr e.symm);have p2:=AG q2;simp only[go_sem,p0,p2,p3,pA,pX,AM]
  .rw[hI]at h⊢;obtain⟨g3,hMt,v,pre,hpre,g0,ha,hM⟩:=h;exact⟨(hs _ (.inl (AW π (by omega)))).trans g3,hMt,v,pre,hpre,(hs _ (.inl (AW π (by omega)))).trans g0,C9 ha fun i hi=>hs i (.inr (hM i hi)),hM⟩
 refine Pa (mz hF.out (Dd hM.out hu.out fun i b=>?_) (hu.out.ext 4) hs.out hE (fun i hi hc=>?_) (M:=fun _=>False) (fun _ _ h=>h) (fun _ h=>h.elim) ?_) (fun o1 g5 p1=>?_)
 .have q1:=AG b;simp only[go_sem,q1,AM]
 .have:=hu.out i hi;rcases hc with rfl|rfl
  .rw[show Id.under π (0::3::π)=true from Ab [0,3]]at this;cases this
  .rw[show Id.under π (0::0::π)=true from Ab [0,0]]at this;cases this
 .rw[hI];refine⟨?_,fun _ h=>h.elim,.co,[],rfl,?_,.inl ⟨rfl,rfl⟩,fun i hi=>by simp[AD]at hi⟩
  .simp only[go_sem]
  .simp only[go_sem]
 rcases p1 with⟨rfl,M',p1,m',p2⟩|⟨_,p1⟩|⟨_,p1⟩
 .rw[hI]at p1;obtain⟨k3,hMt,v,pre,hpre,k0,ha,hM2⟩:=p1;rw[CS]at hpre;subst hr0;have hv:v.isCell=true∧v.cells=[v]:=by rcases ha with⟨rfl,_⟩|⟨_,_,rfl,_⟩<;>exact⟨rfl,rfl⟩
  obtain⟨hv1,hv2⟩:=hv;have gg: ∀i,Id.under (3::π) i=false→Id.under (4::π) i=false→(gc (3::π) (gc (4::π) g5)).get i=g5.get i:=fun i q1 q2=>by rw[Al _ _ _ q1,Al _ _ _ q2]
  have k0':=(gg (0::0::π) (AW π (by omega)) (AW π (by omega))).trans k0;replace gg:=AA.mk gg;replace p2:=AA.mk p2;replace m':=AA.mk m';replace hI:=AA.mk hI;replace ha:=AA.mk ha;replace hpre:=AA.mk hpre;replace hMt:=AA.mk hMt;replace hM2:=AA.mk hM2;clear hE hlen;refine aw ?_;refine⟨v,rfl,?_,fun i hi=>?_,fun i hi=>?_⟩
  .rw[hpre.out];exact C9 ha.out fun i hi=>by
    obtain⟨l,rfl⟩:=hMt.out i (hM2.out i hi);rw[FM,FM]
  .rcases m'.out i (hM2.out i hi)with q|q
   .exact q.elim
   .exact⟨q.out.up,hMt.out i (hM2.out i hi)⟩
  .have q:=AG hi;rw[gg.out i (AF hi _) (AF hi _),p2.out i (fun hc=>?_) (fun h=>h) (AF hi _)]
   .simp only[go_sem,q,AM]
   .rcases hc with rfl|rfl
    .rw[show Id.under π (0::3::π)=true from Ab [0,3]]at hi;cases hi
    .rw[show Id.under π (0::0::π)=true from Ab [0,0]]at hi;cases hi
 .exact p1.elim
 .exact p1.elim
theorem Zx{h:AB}(hF:BC p sz)(hM:Dt p sz h m V st)(hst:st.d9=s)(hu:Bn π V m)(hs:FB p sz s): ∃o h',KL Tryz.prog cfg (.fn 59) [.fn 52 [.ptr m 0] []] h π true none=.ok (o,h')∧ ∃v,o=.ret v∧Kc h' 4 v ((CC p s).map EW)∧(∀i∈AD v,Id.under π i=true∧ ∃l,i=1::l)∧ ∀i,Id.under π i=false→h'.get i=h.get i:=by
 replace hM:=AA.mk hM;replace hF:=AA.mk hF;replace hs:=AA.mk hs;replace hu:=AA.mk hu
 (refine Af rfl Tryz.func59 rfl rfl rfl ?_;show Wp _ _ _ _ (Tryz.f59.body.get rfl) _ _;simp only[Tryz.f59,AS])
 refine aw ?_;refine AY (iy hF.out hM.out hst (hu.out.ext 2) hs.out) (fun o1 g1 p1=>?_);obtain⟨v,rfl,h1,h2,h3⟩:=p1;have hv:v.isCell=true∧v.cells=[v]:=by rcases h1 with⟨rfl,_⟩|⟨_,_,rfl,_⟩<;>exact⟨rfl,rfl⟩
 obtain⟨hv1,hv2⟩:=hv;replace h1:=AA.mk h1;replace h2:=AA.mk h2;replace h3:=AA.mk h3;refine aw ?_;refine⟨v,rfl,C9 h1.out fun i hi=>?_,fun i hi=>?_,fun i hi=>?_⟩
 .obtain⟨l,rfl⟩:=(h2.out i hi).2;rw[FM]
 .exact⟨BD (h2.out i hi).1,(h2.out i hi).2⟩
 .rw[Al _ _ _ (AF hi _),h3.out i (AF hi _)]
def Rp:Option (A9×List Du)→Made
 |some (s,ev)=>⟨s,ev,0⟩
 |none=>⟨Dk,[],3⟩
def LN(p:AI)(s:A9)(ks:List Int):Made:=if EE p s=0 then if ks.length≤200 then Rp (DU p ks s [])else⟨Dk,[],3⟩else⟨Dk,[],2⟩
theorem sZ{k:Int}{n j:Nat}(hj:j=(max k 0).toNat % n):(if 0>k then 0 else k).tmod (n:Int)=(j:Int):=by
 subst hj;by_cases hk:0>k
 .rw[D1 hk,show max k 0=0 by omega];simp
 .obtain⟨m,rfl⟩: ∃m:Nat,k=m:=⟨k.toNat,by omega⟩;rw[Ci hk,show(max (m:Int) 0).toNat=m by omega];exact(Int.tmod_eq_emod_of_nonneg (by omega)).trans (by omega)
theorem Vm{id:Abs.Id}{ev:List Du}{w:Int}(hM:Dt p sz g id V ⟨s,ev,w⟩):AAM (fun o' h'=>zT (o',h')=(AZ.ret (Tn (Rp (some (s,ev)))),[])) (Option.map AV.it (Tb (Option.map AV.agg (Mf (DJ g.get (V.s 0)) (Mf (DJ g.get (V.s 1)) (Mf (DJ g.get V.v3) (Mf (DJ g.get (V.s 2)) (some [])))))) (Tb (Dz g.get (V.s 3)) (some [.d (.int .i64 0)])))):=by
 have f0:=Nd (hM.sl 0 (by omega));have f1:=Nd (hM.sl 1 (by omega));have f2:=Nd (hM.sl 2 (by omega));have f3:=qE (hM.sl 3 (by omega));have f4:=qJ hM.arr hM.be;simp only[Ax]at f0 f1 f2 f3;rw[f0,f1,f2,f3,f4];rfl
theorem Uk(p:AI)(s:A9)(ks:List Int)(hp: ∀s∈p.free,s.size≤maxLen):BU (KL Tryz.prog cfg) 25 [pA p,sA s,.d (.ce (ks.map AL))] []=.ok (.ret (Tn (LN p s ks)),[]):=by
 obtain⟨r,hr,hpost⟩:=kH p s hp 8 [];replace hp:=AA.mk hp;by_cases h0:EE p s=0
 .obtain⟨st,id,V,g,rfl,hL⟩:=hpost.i6 h0;have hg:=hL.own;have g0: ∀n,¬n=8→ ∀L,AB.get (g++L) [0,n]=AB.get L [0,n]:=fun n hn L=>BH (hg _ (AW [] hn));replace hg:=AA.mk hg;obtain⟨st2,hf⟩:=ei h0;have hlk:=hL.looks;rw[hf.looks]at hlk;cases hlk;have hF:=hf.formed;have hs:=hf.qr;replace hL:=AA.mk hL;replace hF:=AA.mk hF;replace hs:=AA.mk hs;have hVu: ∀i∈V.ids id,∀k,¬k=8→Id.under [k] i=false:=fun i hi k hk=>by
   have:=hL.out.ids i hi;cases hx:Id.under [k] i with
   |false=>rfl
   |true=>have:=B6 (π:=[]) this hx;omega
  replace hVu:=AA.mk hVu;by_cases hk:(ks.length:Int)≤200
  .have hr1:AA (LN p s ks=Rp (DU p ks s [])):=⟨by rw[LN,D1 h0,D1 (by omega)]⟩;obtain⟨R,hR⟩: ∃R,R=DU p ks s []:=⟨_,rfl⟩;rw[hr1.out,←hR];clear hr1;replace hR:=AA.mk hR
   (refine Ao rfl Tryz.func25 rfl rfl rfl ?_;show Wp _ _ _ _ (Tryz.f25.body.get rfl) _ _;simp only[Tryz.f25,AS])
   refine aw ?_;have g02:=g0 2 (by decide);have g04:=g0 4 (by decide);refine Cg ks (S:=fun i (a:(AB×MV)×Nat)=>⟨[(6,.ptr [0,2] 0),(7,.co),(8,.ptr [0,4] 0),(9,.ptr id 0),(19,.d (.ce (ks.map AL))),(20,.d (.int .i64 (ks.length))),(21,.d (.int .i64 (i)))],a.1.1,a.2+16,[.call 50 [.ptr [0,4] 0]]⟩)
    (Inv:=fun i rest a=>a.1.1.get [0,2]=some (.box [.co,.co,.co,.co])∧a.1.1.get [0,4]=some (.box [.d (.int .i64 (0))])∧AA (∃s' ev w,Dt p st.ci a.1.1 id a.1.2 ⟨s',ev,w⟩∧FB p st.ci s'∧ev.length≤401*i∧DU p rest s' ev=R)∧AA (∀j∈a.1.2.ids id,(∃n,n<a.2+16∧Id.under [n] j=true)∧ ¬j=[0,2]∧ ¬j=[0,4])) (b0:=((_,V),0)) ⟨?_,?_,⟨s,[],0,lB hL.out.rep fun i o hi=>Cx hi,hs.out,by simp,hR.out.symm⟩,⟨fun j hj=>?_⟩⟩ ?_ ?_
   .simp only[go_sem,g02]
   .simp only[go_sem,g04]
   .have:=hL.out.ids j hj;refine⟨⟨8,by dsimp only;omega,this⟩,fun e=>?_,fun e=>?_⟩
    .rw[e]at this;cases this
    .rw[e]at this;cases this
   .clear g02 g04 hVu;clear hL;rintro i k ⟨⟨g2,V⟩,b⟩ hy hi him ⟨g02,g04,hI,hV⟩ IH;dsimp only at*;obtain⟨s',ev,w,hM,hs',hel,hrun⟩:=hI.out;have ap: ∀n,b+16≤n→Bn [n] V id:=fun n hn j hj=>by
     obtain⟨⟨m,h1,h2⟩,_⟩:=hV.out j hj;cases hx:Id.under [n] j with
     |false=>rfl
     |true=>have:=B6 (π:=[]) h2 hx;omega
    have hsl:=UX hF.out hs';have hw:IntKind.i64.wrap ((i:Int)+1)=(i:Int)+1:=wrap_id (by omega) (by omega);replace ap:=AA.mk ap;replace hM:=AA.mk hM;replace hs':=AA.mk hs';replace hrun:=AA.mk hrun;refine aw ?_;refine AY (Zx hF.out hM.out rfl (ap.out _ (by omega)) hs'.out) (fun o1 g1 p1=>?_);obtain⟨v,rfl,h1,h2,h3⟩:=p1;dsimp only at h1;have hVi: ∀j∈V.ids id,∀n,b+16≤n→(gc [n] g1).get j=g1.get j:=fun j hj n hn=>Al _ _ _ (ap.out n hn j hj);have k02:=(Al [b+22] g1 [0,2] (AW [] (by omega))).trans ((h3 [0,2] (AW [] (by omega))).trans g02);have k04:=(Al [b+22] g1 [0,4] (AW [] (by omega))).trans ((h3 [0,4] (AW [] (by omega))).trans g04);have hM2:=B4 hM.out fun j hj=>(hVi j hj (b+22) (by omega)).trans (h3 j (ap.out _ (by omega) j hj));replace hVi:=AA.mk hVi;replace h2:=AA.mk h2;replace h3:=AA.mk h3;replace hM2:=AA.mk hM2;rcases h1 with⟨rfl,hz⟩|⟨S,xs,rfl,gS⟩
    .have hz2:=F9.1 hz;replace hz2:=AA.mk hz2;clear hz;have gm:=(hM2.out).box;simp only[Ah]at gm;obtain⟨c0,d0⟩:=EJ ((hM2.out).sl 0 (by omega));obtain⟨c1,d1⟩:=EJ ((hM2.out).sl 1 (by omega));obtain⟨c2,d2⟩:=EJ ((hM2.out).sl 2 (by omega));obtain⟨c3,d3⟩:=EJ ((hM2.out).sl 3 (by omega));obtain⟨c4,d4⟩:=Qa (hM2.out).arr;replace hM:=AA.mk hM;have hR2:AA (R=some (s',ev)):=⟨by rw[←hrun.out,DU,EI,hz2.out];rfl⟩;rw[hR2.out];refine aw ?_;rw[NJ 1 0 _ rfl];refine aw ?_;refine⟨by rw[AE (hV.out id (V.m_mem id)).2.1];rfl,Vm (B4 hM2.out fun j hj=>?_)⟩;rw[get_put,AE (fun e=>(hV.out j hj).2.2 e.symm),get_put,AE (fun e=>(hV.out j hj).2.1 e.symm)];rfl
    .by_cases hT0:CC p s'=[]
     .have hT:=AA.mk hT0;rw[hT0]at gS⊢;clear hT0;have gm:=(hM2.out).box;simp only[Ah]at gm;obtain⟨c0,d0⟩:=EJ ((hM2.out).sl 0 (by omega));obtain⟨c1,d1⟩:=EJ ((hM2.out).sl 1 (by omega));obtain⟨c2,d2⟩:=EJ ((hM2.out).sl 2 (by omega));obtain⟨c3,d3⟩:=EJ ((hM2.out).sl 3 (by omega));obtain⟨c4,d4⟩:=Qa (hM2.out).arr;replace hM:=AA.mk hM;have hR2:AA (R=some (s',ev)):=⟨by rw[←hrun.out,DU,EI,hT.out];rfl⟩;rw[hR2.out];refine aw ?_;rw[NJ 1 0 _ rfl];refine aw ?_;refine⟨by rw[AE (hV.out id (V.m_mem id)).2.1];rfl,Vm (B4 hM2.out fun j hj=>?_)⟩;rw[get_put,AE (fun e=>(hV.out j hj).2.2 e.symm),get_put,AE (fun e=>(hV.out j hj).2.1 e.symm)];rfl
     .obtain⟨n,hn⟩: ∃n,n=(CC p s').length:=⟨_,rfl⟩;have hn0: ¬(n:Int)=0:=fun e=>hT0 (Dl (by omega));obtain⟨j,hj⟩: ∃j,j=(max k 0).toNat % n:=⟨_,rfl⟩;have hjn:j<n:=by rw[hj];exact Ro _ (by omega)
      have hji:(j:Int)<n:=by omega
      obtain⟨x,hx⟩:=get_some (l:=CC p s') (i:=j) (by omega);have hidx:(if 0>k then 0 else k).tmod (n:Int)=(j:Int):=sZ hj;have hpick:AA (EI (CC p s') k=some x):=⟨by rw[EI,←hn,←hj];exact hx⟩;have hnl:n≤3000000:=by omega
      rw[BY,←hn];have hin:=AA.mk (Ac hx);replace hj:=AA.mk hj;have hn2:n=(CC p s').length:=hn;replace hT0:=AA.mk hT0;clear hsl;obtain⟨lS,rfl⟩:=(h2.out S (by simp[AD])).2;have gS2:=(FM [b+22] g1 lS).trans gS;have lSl:j<((CC p s').map EW++xs).length:=by rw[CE,BY];omega
      have lSx:((CC p s').map EW++xs)[j]? =some (EW x):=by rw[Be (by rw[BY];omega),Cs,hx];rfl
      have lSl2:j<(CC p s').length+xs.length:=by omega
      replace hx:=AA.mk hx;replace hn:=AA.mk hn;replace hn2:=AA.mk hn2;refine aw ?_;refine AY (AB0 hF.out hM2.out (ap.out _ (by omega)) hs'.out (x:=x) (Vs.1 hin.out) (by dsimp only;omega)) (fun o2 g3 p2=>?_);cases hds:Ed p s' x with
      |none=>
       rw[Im,hds]at p2;obtain⟨rfl,p2⟩:=p2;have n02:[0,2] ∉V.ids id:=fun hh=>(hV.out _ hh).2.1 rfl;have n04:[0,4] ∉V.ids id:=fun hh=>(hV.out _ hh).2.2 rfl;have q02:=((Al [b+36] g3 [0,2] (AW [] (by omega))).trans (p2 _ n02 (AW [] (by omega)))).trans k02;have q04:=((Al [b+36] g3 [0,4] (AW [] (by omega))).trans (p2 _ n04 (AW [] (by omega)))).trans k04;have hR2:AA (R=none):=⟨by rw[←hrun.out,DU,hpick.out];simp only[hds]⟩;rw[hR2.out];replace p2:=AA.mk p2
       (repeat' (first|simp only[go_sem, *,CA]|(refine sx ?_ ?_<;>intro hc)|refine sy (by omega) fun x hx hm=>?_|simp(disch:=first|assumption|omega) only[AN]))
       rfl
      |some m=>
       rw[Im,hds]at p2;obtain⟨rfl,V2,hM3,hK⟩:=p2;obtain⟨h3a,h3b,h3c⟩:=UW hF.out hs'.out (Vs.1 hin.out) hds;have n02:[0,2] ∉V.ids id:=fun hh=>(hV.out _ hh).2.1 rfl;have n04:[0,4] ∉V.ids id:=fun hh=>(hV.out _ hh).2.2 rfl;have q02:=((Al [b+36] g3 [0,2] (AW [] (by omega))).trans (hK.frame _ n02 (AW [] (by omega)))).trans k02;have q04:=((Al [b+36] g3 [0,4] (AW [] (by omega))).trans (hK.frame _ n04 (AW [] (by omega)))).trans k04;replace hM3:=AA.mk hM3;replace hK:=AA.mk hK;replace h3a:=AA.mk h3a;replace h3c:=AA.mk h3c;replace h3b:=AA.mk h3b;refine aw ?_;refine IH.out ((gc [b+36] g3,V2),b+23) ⟨q02,q04,⟨m.d9,ev++m.ev,m.work,B4 hM3.out fun j hj=>?_,?_,?_,?_⟩,⟨fun j hj=>?_⟩⟩
       .rcases hK.out.ids j hj with q|⟨_,l,rfl⟩
        .exact Al _ _ _ (ap.out _ (by omega) j q)
        .exact FM _ _ _
       .exact h3a.out
       .have:=h3c.out;rw[CE];omega
       .rw[←hrun.out,DU,hpick.out];simp only[hds]
       .rcases hK.out.ids j hj with q|⟨q,l,rfl⟩
        .obtain⟨⟨n,q1,q2⟩,q3⟩:=hV.out j q;exact⟨⟨n,by dsimp only;omega,q2⟩,q3⟩
        .exact⟨⟨b+36,by dsimp only;omega,q⟩,by simp,by simp⟩
   .clear g02 g04 hVu;clear hL;rintro i ⟨⟨g2,V⟩,b⟩ hi him ⟨g02,g04,hI,hV⟩;dsimp only at*;obtain⟨s',ev,w,hM,hs',hel,hrun⟩:=hI.out;have gm:=(hM).box;simp only[Ah]at gm;obtain⟨c0,d0⟩:=EJ ((hM).sl 0 (by omega));obtain⟨c1,d1⟩:=EJ ((hM).sl 1 (by omega));obtain⟨c2,d2⟩:=EJ ((hM).sl 2 (by omega));obtain⟨c3,d3⟩:=EJ ((hM).sl 3 (by omega));obtain⟨c4,d4⟩:=Qa (hM).arr;replace hM:=AA.mk hM;have hR2:AA (R=some (s',ev)):=⟨by rw[←hrun];rfl⟩;clear hrun;rw[hR2.out];replace hs':=AA.mk hs';refine aw ?_;refine⟨by rw[AE (hV.out id (V.m_mem id)).2.1];rfl,Vm (B4 hM.out fun j hj=>?_)⟩;rw[get_put,AE (fun e=>(hV.out j hj).2.2 e.symm),get_put,AE (fun e=>(hV.out j hj).2.1 e.symm)];rfl
  .have hr2:AA (LN p s ks=⟨Dk,[],3⟩):=⟨by rw[LN,D1 h0,Ci (by omega)]⟩;have g02:=g0 2 (by decide);have g04:=g0 4 (by decide)
   (refine Ao rfl Tryz.func25 rfl rfl rfl ?_;show Wp _ _ _ _ (Tryz.f25.body.get rfl) _ _;simp only[Tryz.f25,AS])
   (repeat' (first|simp only[go_sem, *,CA]|(refine sx ?_ ?_<;>intro hc)|refine sy (by omega) fun x hx hm=>?_|simp(disch:=first|assumption|omega) only[AN]))
   rw[hr2.out];rfl
 .obtain rfl:=hpost.bad h0;have h2:=AA.mk (vV h0);have hc:AA (LN p s ks=⟨Dk,[],2⟩):=⟨by rw[LN,Ci h0]⟩
  (refine Ao rfl Tryz.func25 rfl rfl rfl ?_;show Wp _ _ _ _ (Tryz.f25.body.get rfl) _ _;simp only[Tryz.f25,AS])
  (repeat' (first|simp only[go_sem, *,CA]|(refine sx ?_ ?_<;>intro hc)|refine sy (by omega) fun x hx hm=>?_|simp(disch:=first|assumption|omega) only[AN]))
  rw[hc.out];rfl
theorem JN(a:List CW)(ha:a.length≤1000000):BU (KL Tryz.prog cfg) 57 [.d (.ce (a.map AJ)),.d (.ce (a.map AJ))] []=.ok (.ret (.d (.bool (true))),[]):=by
 (refine Ao rfl Tryz.func57 rfl rfl rfl ?_;show Wp _ _ _ _ (Tryz.f57.body.get rfl) _ _;simp only[Tryz.f57,AS])
 refine aw ?_;refine Cg a (S:=fun i (_:Unit)=>⟨[(0,.d (.ce (a.map AJ))),(1,.d (.ce (a.map AJ))),(5,.d (.int .i64 (i)))],[],0,[]⟩)
  (Inv:=fun i rest _=>True) (b0:=()) trivial ?_ ?_
 .rintro i y _ hy hi him hI IH;have hil:i<a.length:=by omega
  have w1:IntKind.i64.wrap ((i:Int)+1)=(i:Int)+1:=wrap_id (by omega) (by omega);refine aw ?_;exact IH.out () trivial
 .rintro i _ hi him hI;exact au
theorem Vp(a:List (List CW))(ha:a.length≤1000000)(hm: ∀m∈a,m.length≤1000000):BU (KL Tryz.prog cfg) 37 [.d (.ce (a.map BF)),.d (.ce (a.map BF))] []=.ok (.ret (.d (.bool (true))),[]):=by
 replace hm:=AA.mk hm
 (refine Ao rfl Tryz.func37 rfl rfl rfl ?_;show Wp _ _ _ _ (Tryz.f37.body.get rfl) _ _;simp only[Tryz.f37,AS])
 refine aw ?_;refine Cg a (S:=fun i (_:Unit)=>⟨[(0,.d (.ce (a.map BF))),(1,.d (.ce (a.map BF))),(5,.d (.int .i64 (i)))],[],0,[]⟩)
  (Inv:=fun i rest _=>True) (b0:=()) trivial ?_ ?_
 .rintro i y _ hy hi him hI IH;have hil:i<a.length:=by omega
  have w1:IntKind.i64.wrap ((i:Int)+1)=(i:Int)+1:=wrap_id (by omega) (by omega);have hv:=JN y (hm.out y (Ac hy));refine aw ?_;exact IH.out () trivial
 .rintro i _ hi him hI;exact au
structure A9.fits(s:A9):Prop where
 ac:s.ac.length≤1000000
 bv:s.bv.length≤1000000
 be:s.be.length≤1000000
 waits:s.waits.length≤1000000
 envs: ∀g∈s.bv,g.env.length≤1000000
 ques: ∀q∈s.be,q.queue.length≤1000000∧ ∀m∈q.queue,m.length≤1000000
 wenv: ∀w∈s.waits,w.env.length≤1000000
theorem fO(s:A9)(h:s.fits):BU (KL Tryz.prog cfg) 23 [sA s,sA s] []=.ok (.ret (.d (.bool (true))),[]):=by
 obtain⟨h1,h2,h3,h4,h5,h6,h7⟩:=h;replace h5:=AA.mk h5;replace h6:=AA.mk h6;replace h7:=AA.mk h7
 (refine Ao rfl Tryz.func23 rfl rfl rfl ?_;show Wp _ _ _ _ (Tryz.f23.body.get rfl) _ _;simp only[Tryz.f23,AS])
 refine aw ?_;refine Cg s.ac (S:=fun i (_:Unit)=>⟨[(2,.ptr [0,0] 0),(3,.ptr [0,1] 0),(5,.d (.int .i64 (i)))],[([0,0],.box [.d (.ce (s.ac.map Aj)),.d (.ce (s.bv.map A8)),.d (.ce (s.be.map Cm)),.d (.ce (s.waits.map AO))]),([0,1],.box [.d (.ce (s.ac.map Aj)),.d (.ce (s.bv.map A8)),.d (.ce (s.be.map Cm)),.d (.ce (s.waits.map AO))])],2,[]⟩)
  (Inv:=fun i rest _=>True) (b0:=()) trivial ?_ ?_
 .rintro i y _ hy hi him hI IH;have hil:i<s.ac.length:=by omega
  have hbb:(y.dead==y.dead)=true:=by simp
  have w1:IntKind.i64.wrap ((i:Int)+1)=(i:Int)+1:=wrap_id (by omega) (by omega);refine aw ?_;exact IH.out () trivial
 rintro i _ hi him hI;clear hi;refine aw ?_;refine Cg s.bv (S:=fun i (_:Unit)=>⟨[(2,.ptr [0,0] 0),(3,.ptr [0,1] 0),(6,.d (.int .i64 (i)))],[([0,0],.box [.d (.ce (s.ac.map Aj)),.d (.ce (s.bv.map A8)),.d (.ce (s.be.map Cm)),.d (.ce (s.waits.map AO))]),([0,1],.box [.d (.ce (s.ac.map Aj)),.d (.ce (s.bv.map A8)),.d (.ce (s.be.map Cm)),.d (.ce (s.waits.map AO))])],2,[]⟩)
  (Inv:=fun i rest _=>True) (b0:=()) trivial ?_ ?_
 .rintro i y _ hy hi him hI IH;have hil:i<s.bv.length:=by omega
  have w1:IntKind.i64.wrap ((i:Int)+1)=(i:Int)+1:=wrap_id (by omega) (by omega);have hv:=JN y.env (h5.out y (Ac hy));refine aw ?_;exact IH.out () trivial
 rintro i _ hi him hI;clear hi;refine aw ?_;refine Cg s.be (S:=fun i (_:Unit)=>⟨[(2,.ptr [0,0] 0),(3,.ptr [0,1] 0),(7,.d (.int .i64 (i)))],[([0,0],.box [.d (.ce (s.ac.map Aj)),.d (.ce (s.bv.map A8)),.d (.ce (s.be.map Cm)),.d (.ce (s.waits.map AO))]),([0,1],.box [.d (.ce (s.ac.map Aj)),.d (.ce (s.bv.map A8)),.d (.ce (s.be.map Cm)),.d (.ce (s.waits.map AO))])],2,[]⟩)
  (Inv:=fun i rest _=>True) (b0:=()) trivial ?_ ?_
 .rintro i y _ hy hi him hI IH;have hil:i<s.be.length:=by omega
  have w1:IntKind.i64.wrap ((i:Int)+1)=(i:Int)+1:=wrap_id (by omega) (by omega);have hv:=Vp y.queue (h6.out y (Ac hy)).1 (h6.out y (Ac hy)).2;refine aw ?_;exact IH.out () trivial
 rintro i _ hi him hI;clear hi;refine aw ?_;refine Cg s.waits (S:=fun i (_:Unit)=>⟨[(2,.ptr [0,0] 0),(3,.ptr [0,1] 0),(8,.d (.int .i64 (i)))],[([0,0],.box [.d (.ce (s.ac.map Aj)),.d (.ce (s.bv.map A8)),.d (.ce (s.be.map Cm)),.d (.ce (s.waits.map AO))]),([0,1],.box [.d (.ce (s.ac.map Aj)),.d (.ce (s.bv.map A8)),.d (.ce (s.be.map Cm)),.d (.ce (s.waits.map AO))])],2,[]⟩)
  (Inv:=fun i rest _=>True) (b0:=()) trivial ?_ ?_
 .rintro i y _ hy hi him hI IH;have hil:i<s.waits.length:=by omega
  have w1:IntKind.i64.wrap ((i:Int)+1)=(i:Int)+1:=wrap_id (by omega) (by omega);have hv:=JN y.env (h7.out y (Ac hy));refine aw ?_;exact IH.out () trivial
 rintro i _ hi him hI;clear hi;exact au
theorem Sv(l:List Du)(hl:l.length≤1000000)(hv: ∀e∈l,e.kw.length≤1000000):BU (KL Tryz.prog cfg) 24 [.d (.ce (l.map EG)),.d (.ce (l.map EG))] []=.ok (.ret (.d (.bool (true))),[]):=by
 replace hv:=AA.mk hv
 (refine Ao rfl Tryz.func24 rfl rfl rfl ?_;show Wp _ _ _ _ (Tryz.f24.body.get rfl) _ _;simp only[Tryz.f24,AS])
 refine aw ?_;refine Cg l (S:=fun i (_:Unit)=>⟨[(0,.d (.ce (l.map EG))),(1,.d (.ce (l.map EG))),(5,.d (.int .i64 (i)))],[],0,[]⟩)
  (Inv:=fun i rest _=>True) (b0:=()) trivial ?_ ?_
 .rintro i y _ hy hi him hI IH;have hil:i<l.length:=by omega
  have w1:IntKind.i64.wrap ((i:Int)+1)=(i:Int)+1:=wrap_id (by omega) (by omega);have hv:=JN y.kw (hv.out y (Ac hy));refine aw ?_;exact IH.out () trivial
 .rintro i _ hi him hI;clear hi;exact au
theorem nV:Dk.fits:=⟨by decide,by decide,by decide,by decide,by simp[Dk],by simp[Dk],by simp[Dk]⟩
theorem yY:BU (KL Tryz.prog cfg) 30 [sA Dk,.d (.ce [])] []=.ok (.ret (.d (.bool (true))),[]):=by
 have h1:=fO Dk nV;simp only[sA,Dk,CO]at h1⊢
 (refine Ao rfl Tryz.func30 rfl rfl rfl ?_;show Wp _ _ _ _ (Tryz.f30.body.get rfl) _ _;simp only[Tryz.f30,AS])
 exact au
def ZX(e:Du):Prop:=e.kw.length≤5000
theorem Nj{f:Fq→B7→Option B7}(hf: ∀j st st',f j st=some st'→(∀e∈st.ev,ZX e)→ ∀e∈st'.ev,ZX e): ∀(js:List Fq) (st st':B7),BZ f js st=some st'→(∀e∈st.ev,ZX e)→ ∀e∈st'.ev,ZX e
 |[],st,st',h,hb=>by
  rw[BZ]at h;cases h;exact hb
 |j::js,st,st',h,hb=>by
  rw[BZ]at h;obtain⟨s1,h1,h2⟩:=IF.1 h;exact Nj hf js s1 st' h2 (hf j st s1 h1 hb)
theorem tL(hF:BC p sz){x:CR}{i:Nat}(hx:p.nodes[i]? =some x)(ho:x.op=2){j:Fq}{st':B7}(h:Dy p x j st=some st')(hb: ∀e∈st.ev,ZX e): ∀e∈st'.ev,ZX e:=by
 obtain⟨s,l,_,_,_,hn,_⟩:=hF.node i x hx;simp only[Dn,AP]at hn;have ha:=hn.2.2.1;rw[JW,D1 ho,Ap]at ha;simp only[Dy]at h;split at h
 .cases h;intro e he;rcases D5.1 he with he|he
  .exact hb e he
  .rw[As.1 he];show(x.args.map _).length≤5000;rw[BY];omega
 split at h
 .obtain⟨s,_,rfl⟩:=BI.1 h;exact hb
 .cases h;exact hb
theorem gp(hF:BC p sz){j:Fq}{r:B7×List Fq}(h:JC p j st=some r)(hb: ∀e∈st.ev,ZX e): ∀e∈r.1.ev,ZX e:=by
 unfold JC at h;split at h
 .rename_i x hx;split at h
  .rename_i ho;obtain⟨s,h1,rfl⟩:=BI.1 h;exact tL hF hx ho h1 hb
  split at h
  .cases h;exact hb
  split at h
  .unfold G9 at h;split at h
   .dsimp only at h;split at h
    .cases h;exact hb
    .cases h
   .cases h
  split at h
  .cases h;exact hb
  split at h
  .obtain⟨s,h1,rfl⟩:=BI.1 h;unfold Hh at h1;split at h1
   .cases h1;exact hb
   .cases h1
  .cases h;exact hb
 .cases h
theorem Ps(hF:BC p sz): ∀(k:Nat) (j:Fq) (st st':B7),FX p k j st=some st'→(∀e∈st.ev,ZX e)→ ∀e∈st'.ev,ZX e
 |0,j,st,st',h,_=>by cases h
 |k+1,j,st,st',h,hb=>by
  rw[FX]at h;split at h
  .cases hd:JC p j {st with work:=st.work+1}with
   |none=>rw[hd]at h;cases h
   |some r=>
    rw[hd]at h;have:=gp hF hd hb;exact Nj (Ps hF k) r.2 r.1 st' h this
  .cases h
variable{x:FU}
theorem tc(hF:BC p sz)(hs:FB p sz s)(h:MU p s x)(hd:Ed p s x=some st): ∀e∈st.ev,ZX e:=by
 have one: ∀a:Du,ZX a→ ∀e∈ [a],ZX e:=fun a ha e he=>by rw[As.1 he];exact ha
 have nil: ∀a b c d:Int,ZX ⟨a,b,c,d,[]⟩:=fun _ _ _ _=>I6 _;cases h with
 | @wait i w h1 h2=>
   rw[Ed,Ci (by dsimp only;omega),OE]at hd;simp only[F7,h1]at hd;split at hd
   .unfold LX at hd;dsimp only at hd;split at hd
    .cases hd;exact one _ (nil _ _ _ _)
    split at hd
    .exact Nj (Ps hF 401) _ _ _ hd (one _ (nil _ _ _ _))
    .exact Nj (Ps hF 401) _ _ _ hd (one _ (nil _ _ _ _))
   .cases hd
 | @wd i k g d r t h1 h2 h3 h4 h5=>
   obtain⟨_,hj⟩:=Rz hF hs h1 h2 h3 h4 h5;obtain⟨_,_,_,_,_,_,hl⟩:=Jr hF hj;dsimp only at hl;rw[CE]at hl;have h1':s.bv[((i:Nat):Int).toNat]? =some g:=h1;have h3':d.rules[((k:Nat):Int).toNat]? =some r:=h3;rw[Ed,D1 (by dsimp only;omega),fL]at hd;simp only[h1',(GD h2).2,h3',P3]at hd;exact Ps hF 401 _ _ _ hd (one _ (by show(BQ d g r.eq t s).1.length≤5000;omega))
variable{l:List FU}
theorem lu{k:Int}(h:EI l k=none):l=[]:=by
 cases l with
 |nil=>rfl
 |cons a l=>
  rw[EI,List.getElem?_eq_none_iff]at h;exact absurd h (Nat.not_le.2 (Ro _ (by simp)))
theorem sc{k:Int}(h:EI l k=some x):x∈l:=Ac h
theorem tH(h:CC p s=[]): ∀(ks:List Int) (ev:List Du),DU p ks s ev=some (s,ev)
 |[],ev=>rfl
 |k::ks,ev=>by rw[DU,h,EI];rfl
theorem fM(p:AI): ∀(a b:List Int) (s:A9) (ev:List Du),DU p (a++b) s ev=(DU p a s ev).bind fun r=>DU p b r.1 r.2
 |[],b,s,ev=>rfl
 |k::a,b,s,ev=>by
  rw[Ge,DU,DU];cases hp:EI (CC p s) k with
  |none=>
   simp only[IT];exact(tH (lu hp) b ev).symm
  |some x=>
   simp only;cases hd:Ed p s x with
   |none=>rfl
   |some m=>exact fM p a b m.d9 _
theorem tG(p:AI): ∀(ks:List Int) (s:A9) (e ev:List Du),DU p ks s (e++ev)=(DU p ks s ev).map fun r=>(r.1,e++r.2)
 |[],s,e,ev=>rfl
 |k::ks,s,e,ev=>by
  rw[DU,DU];cases hp:EI (CC p s) k with
  |none=>rfl
  |some x=>
   simp only;cases hd:Ed p s x with
   |none=>rfl
   |some m=>
    simp only;rw[D3];exact tG p ks m.d9 e _
theorem dg(hF:BC p sz): ∀(ks:List Int) (s:A9) (ev:List Du) (r:A9×List Du),FB p sz s→(∀e∈ev,ZX e)→DU p ks s ev=some r→FB p sz r.1∧(∀e∈r.2,ZX e)∧r.2.length≤ev.length+401*ks.length
 |[],s,ev,r,hs,hb,h=>by cases h;exact⟨hs,hb,by simp⟩
 |k::ks,s,ev,r,hs,hb,h=>by
  rw[DU]at h;cases hp:EI (CC p s) k with
  |none=>
   rw[hp]at h;cases h;exact⟨hs,hb,by simp⟩
  |some x=>
   rw[hp]at h;simp only at h;cases hd:Ed p s x with
   |none=>rw[hd]at h;cases h
   |some m=>
    rw[hd]at h;have hx:=Vs.1 (sc hp);obtain⟨h1,_,h3⟩:=UW hF hs hx hd;have h4:=tc hF hs hx hd;obtain⟨q1,q2,q3⟩:=dg hF ks m.d9 (ev++m.ev) r h1 (fun e he=>(D5.1 he).elim (hb e) (h4 e)) h;refine⟨q1,q2,?_⟩;rw[CE]at q3;rw[List.length_cons];omega
end Go.Proofs
