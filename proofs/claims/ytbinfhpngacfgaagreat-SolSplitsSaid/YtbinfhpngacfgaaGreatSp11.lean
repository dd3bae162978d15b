/-
  Parts of it.
-/
import Derived.Test.YtbinfhpngacfgaaGreatSp10
set_option linter.all false
namespace Go.Proofs
open Go Go.Abs
@[irreducible] def Ux(C:B9)(f:FuncId)(π:List Nat)(b:Nat)(e:BT)(h:AB):St:=MY π h (Nr e (C.live f b))
theorem Ht(C:B9)(f:FuncId)(π:List Nat)(b:Nat)(e:BT)(h:AB):Ux C f π b e h=MY π h (Nr e (C.live f b)):=by unfold Ux;rfl
theorem fy(b:Nat)(e:BT)(h:AB)(bs:Nat)(π:List Nat)(bi:Option (List Nat))(wn:Bool)(nt:Nat):Eb cfg ⟨153,π,false,bi,wn,nt⟩ b ⟨e,h,bs,[]⟩=Ux cfg 153 π b e h:=by
 rw[Ht];exact TD _ _ _ _ _
attribute [go_sem 2000] fy
def zi(g:AB)(v:AV)(q:List (List CW)):Prop:=(q.length=0∧v=.co)∨(q.length≠0∧ ∃id,v=.f8 id 0 q.length∧g.get id=some (.d7 1 (q.map BF)))
structure Ft(g:AB)(es:List (List AV))(l:List Fg):Prop where
 len:es.length=l.length
 row: ∀(j:Nat) (x:Fg),l[j]? =some x→ ∃v,es[j]? =some (Aq x v)∧zi g v x.queue
 diff:(es.flatMap Au).Nodup
def Sy(π:List Nat)(b:Nat)(id:Abs.Id):Prop:= ∃t j,j<b∧id=t::j::π
structure nd(π:List Nat)(l:List Fg)(i:Nat)(v:AV)(g:AB)(b:Nat)(A:Abs.Id)(es:List (List AV)):Prop where
 val:v=.f8 A 0 i
 arr:g.get A=some (.arr 4 es)
 rep:Ft g es (l.take i)
 a:Sy π b A
 ids: ∀id∈es.flatMap Au,Sy π b id
 own: ∀id,Id.under π id=false→g.get id=none
variable{k b:Nat}{ρ:List Nat}
theorem K6{A:Abs.Id}(h:Sy (k::ρ) b A)(t j:Nat)(hj:b≤j):Id.is (t::j::k::ρ) A=false∧Id.is A (t::j::k::ρ)=false:=by
 obtain⟨t',j',h1,rfl⟩:=h;exact⟨AE (by simp;omega),AE (by simp;omega)⟩
theorem Hy{A:Abs.Id}(h:Sy (k::ρ) b A)(m:List Nat)(hm:2<m.length):Id.is (m++k::ρ) A=false∧Id.is A (m++k::ρ)=false:=by
 obtain⟨t',j',h1,rfl⟩:=h;constructor
 .refine AE fun e=>?_;have:=congrArg List.length e;simp at this;omega
 .refine AE fun e=>?_;have:=congrArg List.length e;simp at this;omega
theorem Ef(x:Fg)(v:AV):Au (Aq x v)=AD v:=by simp[Aq,Au,AD]
theorem N5{g:AB}{v:AV}{q:List (List CW)}(h:zi g v q):(v=.co∧AD v=[])∨ ∃id,v=.f8 id 0 q.length∧AD v=[id]∧g.get id=some (.d7 1 (q.map BF)):=by
 rcases h with⟨_,rfl⟩|⟨_,id,rfl,h⟩
 .exact .inl ⟨rfl,rfl⟩
 .exact .inr ⟨id,rfl,rfl,h⟩
theorem Kn{g:AB}{es:List (List AV)}{l:List Fg}(h:Ft g es l){id:Abs.Id}(hi:id∈es.flatMap Au): ∃q:List (List CW),g.get id=some (.d7 1 (q.map BF)):=by
 obtain⟨row,hr,hid⟩:=Bv.1 hi;obtain⟨j,hj⟩:=Hm hr;have hjl:=(BE.1 hj).1;obtain⟨x,hx⟩:=get_some (l:=l) (i:=j) (by rw[←h.len];exact hjl);obtain⟨v,hv,hq⟩:=h.row j x hx;rw[hj]at hv;cases hv;rw[Ef]at hid;rcases N5 hq with⟨_,e⟩|⟨id2,_,e,hg⟩
 .rw[e]at hid;cases hid
 .rw[e,As]at hid;subst hid;exact⟨_,hg⟩
variable{H:AB}{l:List Fg}
theorem J8{g:AB}{es:List (List AV)}(h:Ft g es l)(hk: ∀id∈es.flatMap Au,H.get id=g.get id):Ft H es l:=by
 refine⟨h.len,fun j x hx=>?_,h.diff⟩;obtain⟨v,hv,hq⟩:=h.row j x hx;refine⟨v,hv,?_⟩;rcases hq with hq|⟨h0,id,rfl,hg⟩
 .exact .inl hq
 .refine .inr ⟨h0,id,rfl,?_⟩;rw[hk id (Bv.2 ⟨_,Ac hv,by rw[Ef];simp[AD]⟩)];exact hg
theorem JB{H:AB}{es:List (List AV)}{l:List Fg}(h:Ft H es l){x:Fg}{v:AV}(hq:zi H v x.queue)(hn: ∀id∈AD v,id∉es.flatMap Au):Ft H (es++[Aq x v]) (l++[x]):=by
 refine⟨by simp[h.len],fun j y hy=>?_,?_⟩
 .by_cases hj:j<l.length
  .rw[Be hj]at hy;obtain⟨v',hv',hq'⟩:=h.row j y hy;exact⟨v',by rw[Be (by rw[h.len];exact hj)];exact hv',hq'⟩
  .have hlt:=(BE.1 hy).1;rw[CE,IN]at hlt;obtain rfl:j=l.length:=by omega
   rw[CI (by omega)]at hy;simp only[LI,Es,Bi]at hy;subst hy;exact⟨v,by rw[CI (by rw[h.len];omega),h.len];simp,hq⟩
 .rw[LC,KW];refine⟨h.diff,?_,?_⟩
  .simp only[D0,Gc,CS,Ef];rcases N5 hq with⟨_,e⟩|⟨id2,_,e,_⟩<;>rw[e]<;>simp
  .intro a ha b hb hab;subst hab;simp only[D0,Gc,CS,Ef]at hb;exact hn a hb ha
theorem N2{α β:Type}{f:α→β}: ∀{l:List α},l.Nodup→(∀x∈l,∀y∈l,f x=f y→x=y)→(l.map f).Nodup
 |[],_,_=>List.nodup_nil
 |x::l,h,hf=>by
  rw[List.nodup_cons]at h;rw[El,List.nodup_cons];refine⟨fun hm=>?_,N2 h.2 fun a ha b hb=>hf a (FD _ ha) b (FD _ hb)⟩;obtain⟨y,hy,e⟩:=Em.1 hm;have:=hf y (FD _ hy) x (by simp) e;subst this;exact h.1 hy
theorem XR{es:List (List AV)}(h: ∀r∈es,(Au r).length≤1):(es.flatMap Au).length≤es.length:=by
 induction es with
 |nil=>simp
 |cons r es ih=>
  have h1:=h r (by simp);have h2:=ih fun r hr=>h r (FD _ hr);simp only[D0,CE,List.length_cons];omega
theorem Wz{g:AB}{es:List (List AV)}(h:Ft g es l):(es.flatMap Au).length≤es.length:=by
 refine XR fun r hr=>?_;obtain⟨j,hj⟩:=Hm hr;have hjl:=(BE.1 hj).1;obtain⟨x,hx⟩:=get_some (l:=l) (i:=j) (by rw[←h.len];exact hjl);obtain⟨v,hv,hq⟩:=h.row j x hx;rw[hj]at hv;cases hv;rw[Ef];rcases N5 hq with⟨_,e⟩|⟨id2,_,e,hg⟩<;>rw[e]<;>simp
theorem W1{π:List Nat}{H H':AB}{e:BT}{ν:Abs.Id→Option Abs.Id}{n:Nat}(hR:Ren π H e ν H' n){es:List (List AV)}{l:List Fg}(h:Ft H es l)(hν: ∀id∈es.flatMap Au,∃z,ν id=some z):Ft H' (es.map (Ig ν)) l∧ ∀id∈(es.map (Ig ν)).flatMap Au,Sy π n id:=by
 have key: ∀r∈es,Au (Ig ν r)=(Au r).map fun id=>(ν id).getD []:=by
  intro r hr;obtain⟨j,hj⟩:=Hm hr;have hjl:=(BE.1 hj).1;obtain⟨x,hx⟩:=get_some (l:=l) (i:=j) (by rw[←h.len];exact hjl);obtain⟨v,hv,hq⟩:=h.row j x hx;rw[hj]at hv;cases hv;have e1:Ig ν (Aq x v)=Aq x (L7 ν v):=by simp[Aq,Ig,L7]
  rw[e1,Ef,Ef];rcases N5 hq with⟨rfl,e⟩|⟨id2,rfl,e,hg⟩
  .simp[L7,AD]
  .obtain⟨z,hz⟩:=hν id2 (Bv.2 ⟨_,hr,by rw[Ef];simp[AD]⟩);simp[L7,hz,AD]
 have key2:(es.map (Ig ν)).flatMap Au=(es.flatMap Au).map fun id=>(ν id).getD []:=by
  rw[List.flatMap_map,List.map_flatMap];have: ∀(l:List (List AV)),(∀r∈l,Au (Ig ν r)=(Au r).map fun id=>(ν id).getD [])→(l.flatMap fun a=>Au (Ig ν a))=l.flatMap fun a=>(Au a).map fun id=>(ν id).getD []:=by
   intro l hl;induction l with
   |nil=>rfl
   |cons r l ih=>rw[D0,D0,hl r (by simp),ih fun r hr=>hl r (FD _ hr)]
  exact this es key
 refine⟨⟨by rw[BY,h.len],fun j x hx=>?_,?_⟩,?_⟩
 .obtain⟨v,hv,hq⟩:=h.row j x hx;refine⟨L7 ν v,?_,?_⟩
  .rw[Cs,hv];simp[Aq,Ig,L7]
  .rcases hq with⟨h0,rfl⟩|⟨h0,id,rfl,hg⟩
   .exact .inl ⟨h0,rfl⟩
   .obtain⟨z,hz⟩:=hν id (Bv.2 ⟨_,Ac hv,by rw[Ef];simp[AD]⟩);refine .inr ⟨h0,z,by simp[L7,hz],?_⟩;have:=hR.get id z _ hz hg;simpa[Ih]using this
 .rw[key2];refine N2 h.diff fun x hx y hy e=>?_;obtain⟨z,hz⟩:=hν x hx;obtain⟨z2,hz2⟩:=hν y hy;rw[hz,hz2]at e;simp only[F4]at e;subst e;exact hR.inj x y z hz hz2
 .intro id hid;rw[key2]at hid;obtain⟨x,hx,rfl⟩:=Em.1 hid;obtain⟨z,hz⟩:=hν x hx;obtain⟨j,hj,rfl⟩:=hR.name x z hz;rw[hz];exact⟨_,j,hj,rfl⟩
theorem Qk{K:AK}{fr:Fr}{bl:Nat}{x:Code}{Q:DW→St→Prop}{E:BT}{B:Abs.Id}{i:Nat}{es:List (List AV)}{x8 x9 x10:AR}
 (hE:Nr E (cfg.live 153 0)=[(1,.fn 154 [] []),(5,.f8 B 0 i),(8,.d x8),(9,.d x9),(10,.d x10)]) (h1:H.get B=some (.arr 4 es)) (h2:Ft H es (l.take i)) (hi:es.length≤60)
 (hn: ∀v g b A es,nd (k::ρ) l i v g b A es→oG cfg K fr bl x ⟨[(1,.fn 154 [] []),(5,v),(8,.d x8),(9,.d x9),(10,.d x10)],g,b,[]⟩ Q):oG cfg K fr bl x (Ux cfg 153 (k::ρ) 0 E H) Q:=by
 rw[Ht,hE];have hlen:=Wz h2;obtain⟨ν,h',n,hc,hnM,hR⟩:=Wi (k::ρ) H [(1,.fn 154 [] []),(5,.f8 B 0 i),(8,.d x8),(9,.d x9),(10,.d x10)] (B::es.flatMap Au) (by simp only[List.length_cons];omega) (by
  intro y hy;simp[Sg,AD,Au]at hy;simp[hy]) (by
  intro y hy z hz;rcases DO.1 hy with rfl|hy
  .rw[h1]at hz;exact FD _ hz
  .obtain⟨q,hq⟩:=Kn h2 hy;rw[hq]at hz;cases hz)
 obtain⟨z,hz⟩:=hR.env B (by simp[Sg,AD,Au]);have hν: ∀id∈es.flatMap Au,∃z,ν id=some z:=fun id hid=>hR.deep B z hz id (by rw[h1];exact hid);obtain⟨r1,r2⟩:=W1 hR h2 hν;rw[hc];have:=hn (.f8 z 0 i) h' n z (es.map (Ig ν)) ⟨rfl,by have:=hR.get B z _ hz h1;simpa[Ih]using this,r1,by obtain⟨j,hj,rfl⟩:=hR.name B z hz;exact⟨_,j,hj,rfl⟩,r2,fun id hu=>by
  cases hg:h'.get id with
  |none=>rfl
  |some o=>
   obtain⟨y,hy⟩:=hR.only id o hg;obtain⟨j,hj,rfl⟩:=hR.name y id hy;rw[J0]at hu;cases hu⟩
 simpa[L7,Ig,hz]using this
set_option maxRecDepth 100000
set_option maxHeartbeats 4000000
def nZ(π:List Nat)(l:List Fg)(r:AZ×AB):Prop:=(l.length=0∧r=(.ret .co,[]))∨(l.length≠0∧ ∃v g b A es,r=(.ret v,g)∧nd π l l.length v g b A es)
theorem vO(l:List Fg)(hl:l.length≤60)(hf: ∀x∈l,x.queue.length≤1000000∧ ∀y∈x.queue,y.length≤1000000)(k:Nat)(ρ:List Nat): ∃r,BU (KL Tryz.prog cfg) 153 [.d (.ce (l.map Cm)),.fn 154 [] []] (k::ρ)=.ok r∧nZ (k::ρ) l r:=by
 (refine Gp rfl Tryz.func153 rfl rfl rfl ?_;show Wp _ _ _ _ (Tryz.f153.body.get rfl) _ _;simp only[Tryz.f153,AS])
 (repeat' (first|simp only[go_sem, *,Ht]|(refine sx ?_ ?_<;>intro hc)|refine sy (by omega) fun x hx hm=>?_|simp(disch:=first|assumption|omega) only[AN]))
 refine AU l _ (S:=fun m i (a:(AV×AB)×Nat)=>⟨[(1,.fn 154 [] []),(5,a.1.1),(8,.d (.ce (l.map Cm))),(9,.d (.int .i64 (m))),(10,.d (.int .i64 (i)))],a.1.2,a.2,[]⟩)
  (Inv:=fun i rest a=>AA (i=0∧a=((.co,[]),0)∨0<i∧ ∃A es,nd (k::ρ) l i a.1.1 a.1.2 a.2 A es)) (b0:=((_,[]),_)) ?_ ⟨.inl ⟨rfl,rfl⟩⟩ ?_ ?_
 .rfl
 .rintro i x ⟨⟨v,g⟩,b⟩ hy hi him hv IH;dsimp only at*;have hx:=fun k ρ=>U3 x (hf x (Ac hy)).1 (hf x (Ac hy)).2 k ρ;replace hf:=AA.mk hf;have ht:AA (l.take (i+1)=l.take i++[x]):=⟨by rw[Is,hy];rfl⟩;rcases hv.out with⟨rfl,he⟩|⟨hi0,A,es,hE⟩
  .clear hv;cases he;have him0:(0:Int)<l.length:=him;by_cases h0:x.queue.length=0
   .simp only[Mw,D1 h0,Aq]at hx
    (repeat' (first|simp only[go_sem, *,Gq,Ht]|(refine sx ?_ ?_<;>intro hc)|refine sy (by omega) fun x hx hm=>?_|simp(disch:=first|assumption|omega) only[AN]))
    refine IH.out ((_,_),_) ⟨.inr ⟨by omega,1::0::k::ρ,[Aq x .co],rfl,by simp only[go_sem];rfl,?_,⟨1,0,Nat.lt_succ_self 0,rfl⟩,?_,?_⟩⟩
    .rw[ht.out];exact JB (es:=[]) (l:=[]) ⟨rfl,by simp,by simp⟩ (.inl ⟨h0,rfl⟩) (by simp[AD])
    .simp[Ef,AD]
    .intro id hu;rw[BL,AE (by rintro rfl;rw[J0]at hu;cases hu)];rfl
   .simp only[Mw,Ci h0,Aq]at hx;have fa:=JD h0
    (repeat' (first|simp only[go_sem, *,Gq,Ht]|(refine sx ?_ ?_<;>intro hc)|refine sy (by omega) fun x hx hm=>?_|simp(disch:=first|assumption|omega) only[AN]))
    refine IH.out ((_,_),_) ⟨.inr ⟨by omega,1::0::k::ρ,[Aq x (.f8 (1::1::k::ρ) 0 x.queue.length)],rfl,by simp only[go_sem];rfl,?_,⟨1,0,Nat.succ_pos 1,rfl⟩,?_,?_⟩⟩
    .rw[ht.out];refine JB (es:=[]) (l:=[]) ⟨rfl,by simp,by simp⟩ (.inr ⟨h0,_,rfl,?_⟩) (by simp[AD]);simp only[go_sem]
    .intro id hid;simp[Ef,AD]at hid;subst hid;exact⟨1,1,Nat.lt_succ_self 1,rfl⟩
    .intro id hu;rw[BL,AE (by rintro rfl;rw[J0]at hu;cases hu),Ci (by simp),BL,AE (by rintro rfl;rw[J0]at hu;cases hu)];rfl
  .clear hv;obtain rfl:=hE.val;have hA:=hE.arr;have hes:=hE.rep.len;have hti:(l.take i).length=i:=by simp;omega
   have hrep:=hE.rep;have hid:=hE.ids;have fr: ∀id,Sy (k::ρ) b id→id≠A→AA (Id.is (0::(b+3)::k::ρ) id=false∧Id.is (1::(b+9)::k::ρ) id=false∧Id.is (1::(b+10)::k::ρ) id=false∧Id.is (0::0::(b+8)::k::ρ) id=false∧Id.is (0::1::(b+8)::k::ρ) id=false∧Id.is (1::0::2::10::(b+8)::k::ρ) id=false∧Id.is A id=false):=fun id h hne=>⟨(K6 h 0 (b+3) (by omega)).1,(K6 h 1 (b+9) (by omega)).1,(K6 h 1 (b+10) (by omega)).1,(Hy h [0,0,b+8] (by simp)).1,(Hy h [0,1,b+8] (by simp)).1,(Hy h [1,0,2,10,b+8] (by simp)).1,AE fun e=>hne e.symm⟩;have hneA: ∀id∈es.flatMap Au,id≠A:=fun id h e=>by
    obtain⟨q,hq⟩:=Kn hrep h;rw[e,hA]at hq;cases hq
   have hX:1::0::2::10::(b+8)::k::ρ∉es.flatMap Au:=fun h=>by
    obtain⟨t,j,_,e⟩:=hid _ h;have:=congrArg List.length e;simp at this;omega
   obtain⟨m1,m2⟩:=K6 hE.a 0 (b+3) (by omega);obtain⟨m3,m4⟩:=K6 hE.a 1 (b+9) (by omega);obtain⟨m5,m6⟩:=Hy hE.a [0,0,b+8] (by simp);obtain⟨m7,m8⟩:=Hy hE.a [0,1,b+8] (by simp);obtain⟨m9,m10⟩:=Hy hE.a [1,0,2,10,b+8] (by simp);simp only[Ge,D8]at m5 m6 m7 m8 m9 m10;rw[hti]at hes;have tke:es.take i=es:=DL (by omega);replace hE:=AA.mk hE;replace hrep:=AA.mk hrep;replace hid:=AA.mk hid;replace hneA:=AA.mk hneA;replace fr:=AA.mk fr;replace hX:=AA.mk hX;have nle: ¬i+1≤i:=by omega
   have lm:i+1≤Az:=by unfold Az;omega
   by_cases h0:x.queue.length=0
   .simp only[Mw,D1 h0,Aq]at hx
    (repeat' (first|simp only[go_sem, *,Gq]|(refine sx ?_ ?_<;>intro hc)|refine sy (by omega) fun x hx hm=>?_|simp(disch:=first|assumption|omega) only[AN]))
    refine Qk (B:=1::(b+10)::k::ρ) (i:=i+1) (es:=es++[Aq x .co]) ?_ ?_ ?_ ?_ (fun v g b A es hE2=>IH.out ((v,g),b) ⟨.inr ⟨by omega,A,es,hE2⟩⟩)
    .simp only[go_sem];rfl
    .simp only[go_sem];rfl
    .rw[ht.out];refine JB (J8 hrep.out fun id h=>?_) (.inl ⟨h0,rfl⟩) (by simp[AD]);obtain⟨f1,f2,f3,f4,f5,f6,f7⟩:=(fr.out id (hid.out id h) (hneA.out id h)).out;simp only[go_sem,f1,f2,f3,f4,f5,f6,f7,AM]
    .simp;omega
   .simp only[Mw,Ci h0,Aq]at hx;have fa:=JD h0
    (repeat' (first|simp only[go_sem, *,Gq]|(refine sx ?_ ?_<;>intro hc)|refine sy (by omega) fun x hx hm=>?_|simp(disch:=first|assumption|omega) only[AN]))
    refine Qk (B:=1::(b+10)::k::ρ) (i:=i+1) (es:=es++[Aq x (.f8 (1::0::2::10::(b+8)::k::ρ) 0 x.queue.length)]) ?_ ?_ ?_ ?_ (fun v g b A es hE2=>IH.out ((v,g),b) ⟨.inr ⟨by omega,A,es,hE2⟩⟩)
    .simp only[go_sem];rfl
    .simp only[go_sem];rfl
    .rw[ht.out];refine JB (J8 hrep.out fun id h=>?_) (.inr ⟨h0,_,rfl,?_⟩) (by simp only[AD,As];rintro id rfl;exact hX.out)
     .obtain⟨f1,f2,f3,f4,f5,f6,f7⟩:=(fr.out id (hid.out id h) (hneA.out id h)).out;simp only[go_sem,f1,f2,f3,f4,f5,f6,f7,AM]
     .simp only[go_sem]
    .simp;omega
 .rintro i ⟨⟨v,g⟩,b⟩ hi him hv;dsimp only at*;rcases hv.out with⟨rfl,he⟩|⟨hi0,A,es,hE⟩
  .cases he;have him0: ¬(0:Int)<l.length:=him;have hl0:=AA.mk hi.out.symm;clear hv
   (repeat' (first|simp only[go_sem, *,Ht]|(refine sx ?_ ?_<;>intro hc)|refine sy (by omega) fun x hx hm=>?_|simp(disch:=first|assumption|omega) only[AN]))
   exact .inl ⟨hl0.out,rfl⟩
  .clear hv;have hii:=AA.mk hi.out;obtain rfl:=hE.val;replace hE:=AA.mk hE
   (repeat' (first|simp only[go_sem, *]|(refine sx ?_ ?_<;>intro hc)|refine sy (by omega) fun x hx hm=>?_|simp(disch:=first|assumption|omega) only[AN]))
   obtain rfl:=hii.out;exact .inr ⟨by omega,_,_,b,A,es,rfl,hE.out⟩
structure A9.Fits(s:A9):Prop where
 ac:s.ac.length≤1000000
 bv:s.bv.length≤1000000
 be:s.be.length≤60
 waits:s.waits.length≤1000000
 group: ∀x∈s.bv,x.env.length≤1000000
 chan: ∀x∈s.be,x.queue.length≤1000000∧ ∀y∈x.queue,y.length≤1000000
 wait: ∀x∈s.waits,x.env.length≤1000000
structure na(π:List Nat)(s:A9)(v1 v2 v3 v4:AV)(rows:List (List AV))(g:AB):Prop where
 s0:Kc g 2 v1 (s.ac.map Aj)
 s1:Kc g 3 v2 (s.bv.map A8)
 s2:Kc g 3 v4 (s.waits.map AO)
 arr:ue g v3 rows
 be:zF g rows s.be
 qd:(rows.flatMap Au).Nodup
 gw: ∀id∈AD v2,id∉AD v4
 ids: ∀id,id∈AD v1∨id∈AD v2∨id∈AD v4∨id∈AD v3∨id∈rows.flatMap Au→Id.under π id=true
 own: ∀id,Id.under π id=false→g.get id=none
def nb(π:List Nat)(s:A9)(r:AZ×AB):Prop:= ∃v1 v2 v3 v4 rows g,r=(.ret (.agg [v1,v2,v3,v4]),g)∧na π s v1 v2 v3 v4 rows g
variable{α:Type}{f:α→List AR}
theorem M8{g:AB}{sz:Nat}{l:List α}(h:l.length=0):Kc g sz .co (l.map f):=.inl ⟨rfl,by rw[Dl h];rfl⟩
theorem M7{g:AB}{sz:Nat}{l:List α}{id:Abs.Id}(h:g.get id=some (.d7 sz (l.map f))):Kc g sz (.f8 id 0 l.length) (l.map f):=BP [] (by simp) (by rw[CS];exact h)
theorem tq(a b c:Nat)(π:List Nat):Id.under π (a::b::c::π)=true:=under_iff.2 ⟨[a,b,c],rfl⟩
theorem MB(i t j:Nat)(π:List Nat)(h:i≠j):Id.under (i::π) (t::j::π)=false:=Dw fun hs=>by
 rcases HM.1 hs with e|hs
 .have:=congrArg List.length e;simp at this
 rcases HM.1 hs with e|hs
 .simp only[Md,and_true]at e;exact h e
 .have:=hs.length_le;simp at this;omega
theorem Iv(i a t j:Nat)(π:List Nat)(h:i≠j):Id.under (i::π) (a::t::j::π)=false:=Dw fun hs=>by
 rcases HM.1 hs with e|hs
 .have:=congrArg List.length e;simp at this
 have:=MB i t j π h;rw[under_iff.2 hs]at this;cases this
theorem Xw: ∀{g:AB} {x:Abs.Id},x∈g.map (fun x=>x.1)→g.get x≠none
 |(k,o)::g,x,hx=>by
  rw[BL];split
  .simp
  .rename_i hk;rw[El,DO]at hx;rcases hx with rfl|hx
   .exact absurd (is_self _) hk
   .exact Xw hx
theorem uu{g:AB}{id:Abs.Id}(h:g.get id=none):((g.map fun x=>x.1).all fun x=> !Id.is x id)=true:=by
 rw[Ce];intro x hx;rw[AE]
 .rfl
 .rintro rfl;exact Xw hx h
theorem z5{g:AB}{es:List (List AV)}(h:Ft g es l):zF g es l:=by
 refine⟨h.len,fun j q hq=>?_⟩;obtain⟨v,h1,h2⟩:=h.row j q hq;refine⟨v,h1,?_⟩;rcases h2 with⟨h3,rfl⟩|⟨h3,id,rfl,h4⟩
 .exact M8 h3
 .exact M7 h4
theorem gP(s:A9)(h:s.Fits)(k:Nat)(ρ:List Nat): ∃r,BU (KL Tryz.prog cfg) 92 [.agg [.d (.ce (s.ac.map Aj)),.d (.ce (s.bv.map A8)),.d (.ce (s.be.map Cm)),.d (.ce (s.waits.map AO))]] (k::ρ)=.ok r∧nb (k::ρ) s r:=by
 have h1:=pa 149 rfl s.ac (fun x _=>Y7 x) h.ac 4 (k::ρ);have h2:=gv 151 rfl s.bv (fun x hx=>Qe x (h.group x hx)) h.bv 7 (k::ρ);obtain⟨r,h3,hp⟩:=vO s.be h.be h.chan 10 (k::ρ);have h4:=pb 157 rfl s.waits (fun x hx=>Sf x (h.wait x hx)) h.waits 13 (k::ρ);replace h:=AA.mk h;rcases hp with⟨z3,rfl⟩|⟨z3,v,g,b,A,es,rfl,hE⟩
 .by_cases z1:s.ac.length=0;all_goals by_cases z2:s.bv.length=0
  all_goals by_cases z4:s.waits.length=0
  all_goals
   simp only[Ie,z1,z2,z4,↓reduceIte]at h1 h2 h4
   (refine Gp rfl Tryz.func92 rfl rfl rfl ?_;show Wp _ _ _ _ (Tryz.f92.body.get rfl) _ _;simp only[Tryz.f92,AS])
   (repeat' (first|simp only[go_sem, *,NZ,MN,Na,ne_eq,not_false_eq_true]|(refine sx ?_ ?_<;>intro hc)|refine sy (by omega) fun x hx hm=>?_|simp(disch:=first|assumption|omega) only[AN]))
   refine⟨_,_,_,_,[],_,rfl,?_,?_,?_,.inl ⟨rfl,rfl⟩,⟨z3.symm,fun j q hq=>by rw[Dl z3]at hq;cases hq⟩,List.nodup_nil,?_,fun id hid=>?_,fun id hu=>?_⟩
   .first
    |exact M8 z1
    |(refine M7 ?_;simp only[go_sem];done)
   .first
    |exact M8 z2
    |(refine M7 ?_;simp only[go_sem];done)
   .first
    |exact M8 z4
    |(refine M7 ?_;simp only[go_sem];done)
   .simp[AD]
   .simp only[AD,As,ID,Gc,PU,false_or]at hid
    repeat' (rcases hid with hid|hid)
    all_goals exact tq _ _ _ _
   .have a1:=AG hu;have a2:=AG (AF hu 4);have a3:=AG (AF hu 7);have a4:=AG (AF hu 13);simp only[go_sem,a1,a2,a3,a4,AM]
 .obtain rfl:=hE.val;have hgA:=hE.arr;have n00:=hE.own _ (MB 10 0 0 (k::ρ) (by decide));have n01:=hE.own _ (MB 10 0 1 (k::ρ) (by decide));have g00: ∀L,AB.get (g++L) (0::0::k::ρ)=AB.get L (0::0::k::ρ):=fun L=>BH n00;have g01: ∀L,AB.get (g++L) (0::1::k::ρ)=AB.get L (0::1::k::ρ):=fun L=>BH n01;have g04: ∀L,AB.get (g++L) (1::0::4::k::ρ)=AB.get L (1::0::4::k::ρ):=fun L=>BH (hE.own _ (Iv _ _ _ _ _ (by decide)));have g07: ∀L,AB.get (g++L) (1::0::7::k::ρ)=AB.get L (1::0::7::k::ρ):=fun L=>BH (hE.own _ (Iv _ _ _ _ _ (by decide)));have g13: ∀L,AB.get (g++L) (1::0::13::k::ρ)=AB.get L (1::0::13::k::ρ):=fun L=>BH (hE.own _ (Iv _ _ _ _ _ (by decide)));have gal:=uu n00;have hrep:=hE.rep;rw[EM]at hrep;have hlr:=AA.mk hrep.len;have n13:g.get (1::0::13::k::ρ)=none:=hE.own _ (Iv _ _ _ _ _ (by decide));have nis: ∀{x y:Abs.Id} {o:Abs.Obj},g.get x=none→g.get y=some o→Id.is x y=false:=fun h1 h2=>AE fun e=>by rw[e,h2]at h1;cases h1
  have hgA2:AA (Id.is (0::1::k::ρ) A=false∧Id.is (1::0::13::k::ρ) A=false∧ ∀L,AB.get (g++L) A=some (.arr 4 es)):=⟨nis n01 hgA,nis n13 hgA,fun L=>Cx hgA⟩;have hgE:AA (∀id∈es.flatMap Au,Id.is (0::1::k::ρ) id=false∧Id.is (1::0::13::k::ρ) id=false∧ ∀L,AB.get (g++L) id=AB.get g id):=⟨fun id hid=>by
   obtain⟨q,hq⟩:=Kn hrep hid;exact⟨nis n01 hq,nis n13 hq,fun L=>by rw[hq];exact Cx hq⟩⟩
  clear n13 nis;replace hrep:=AA.mk hrep;have hA10:AA (Id.under (k::ρ) A=true):=⟨by obtain⟨t,j,_,rfl⟩:=hE.a;exact under_iff.2 ⟨[t,j,10],rfl⟩⟩;have hE10:AA (∀id∈es.flatMap Au,Id.under (k::ρ) id=true):=⟨fun id hid=>by obtain⟨t,j,_,rfl⟩:=hE.ids id hid;exact under_iff.2 ⟨[t,j,10],rfl⟩⟩;replace hE:=AA.mk hE;have f3: ∀o m,BK (.f8 A o m) g=none:=fun o m=>by simp only[BK,hgA]
  by_cases z1:s.ac.length=0;all_goals by_cases z2:s.bv.length=0
  all_goals by_cases z4:s.waits.length=0
  all_goals
   simp only[Ie,z1,z2,z4,↓reduceIte]at h1 h2 h4
   (refine Gp rfl Tryz.func92 rfl rfl rfl ?_;show Wp _ _ _ _ (Tryz.f92.body.get rfl) _ _;simp only[Tryz.f92,AS])
   (repeat' (first|simp only[go_sem, *,NZ,MN,Na,ne_eq,not_false_eq_true]|(refine sx ?_ ?_<;>intro hc)|refine sy (by omega) fun x hx hm=>?_|simp(disch:=first|assumption|omega) only[AN]))
   refine⟨_,_,_,_,es,_,rfl,?_,?_,?_,.inr ⟨A,?_,?_⟩,z5 (J8 hrep.out fun id hid=>?_),hrep.out.diff,?_,fun id hid=>?_,fun id hu=>?_⟩
   .first
    |exact M8 z1
    |(refine M7 ?_;simp only[go_sem,g04,g07,g13];done)
   .first
    |exact M8 z2
    |(refine M7 ?_;simp only[go_sem,g04,g07,g13];done)
   .first
    |exact M8 z4
    |(refine M7 ?_;simp only[go_sem,g04,g07,g13];done)
   .rw[hlr.out]
   .obtain⟨q1,q2,q3⟩:=hgA2.out;simp only[go_sem,q1,q2,q3,AM]
   .obtain⟨q1,q2,q3⟩:=hgE.out id hid;simp only[go_sem,q1,q2,q3,AM]
   .simp[AD]
   .simp only[AD,As,ID,PU,false_or]at hid
    repeat' (rcases hid with hid|hid)
    all_goals first
    |exact tq _ _ _ _
    |exact hA10.out
    |exact hE10.out _ hid
   .have a1:=AG hu;have a2:=AG (AF hu 4);have a3:=AG (AF hu 7);have a4:=AG (AF hu 13);have a5: ∀L,AB.get (g++L) id=AB.get L id:=fun L=>BH (hE.out.own id (AF hu 10));simp only[go_sem,a1,a2,a3,a4,a5,AM]
theorem TG{p:AI}{s:A9}{d:CF}{g:Ak}{i c:Nat}: ∀{l:List HS} {j:Nat},GA p s d g i c j l=true→ ∀(t:Nat) (ch:HS),l[t]? =some ch→MI p s d g i (j+t) (c+(j+t)) ch=true
 |x::l,j,h,t,ch,ht=>by
  rw[GA,AP]at h;cases t with
  |zero=>
   simp only[Es,Bi]at ht;subst ht;exact h.1
  |succ t=>
   rw[FN]at ht;have:=TG h.2 t ch ht
   rwa [show j+1+t=j+(t+1) by omega]at this
theorem Q5{p:AI}{ci:List Int}(hF:BC p ci){s:A9}: ∀(l:List Ak) (i c k:Nat),E4 p (Bs p ci) s i c k l=true→
 (∀g∈l,g.env.length≤10000)∧ ∀a,c≤a→a<s.be.length→ ∃q g d ch i j,s.be[a]? =some q∧PC p s d g i j q ch=true∧ch.many≤3
 |[],i,c,k,h=>by
  rw[E4,AP,Ap]at h;exact⟨fun g hg=>(by cases hg),fun a h1 h2=>by omega⟩
 |g::l,i,c,k,h=>by
  rw[E4]at h;cases hd:p.def? g.ge with
  |none=>rw[hd]at h;cases h
  |some d=>
   rw[hd]at h;simp only[AP]at h;obtain⟨h1,h2⟩:=h;obtain⟨i1,i2⟩:=Q5 hF l _ _ _ h2;rw[AI.def?]at hd;split at hd
   .rename_i h0;have hdf:=B3 hF hd;rw[KY]at h1;simp only[AP,Ap]at h1;obtain⟨_,hl,_,_,hch⟩:=h1;obtain⟨_,_,s0,_,_,_,_,q0,q1,q2,_⟩:=hdf.node;rw[q2]at hl;have hown:=Re hdf.ok;simp only[F4]at hl;refine⟨fun y hy=>?_,fun a ha hb=>?_⟩
    .rcases DO.1 hy with rfl|hy
     .omega
     .exact i1 y hy
    .by_cases hac:a<c+d.be.length
     .obtain⟨ch,hch2⟩:=get_some (l:=d.be) (i:=a-c) (by omega);have:=TG hch (a-c) ch hch2;rw[show c+(0+(a-c))=a by omega,MI]at this;cases hq:s.be[a]? with
      |none=>rw[hq]at this;cases this
      |some q=>
       rw[hq]at this;exact⟨q,g,d,ch,_,_,rfl,this,(hdf.ok.chan ch (Ac hch2)).2.2.2⟩
     .exact i2 a (by omega) hb
   .cases hd
theorem R7{p:AI}{st:Bo}(hlk:looks p=some st){s:A9}(h:Dr p st.ci s=true):s.Fits:=by
 have hF:=Et hlk;simp only[Dr,A9.small,AP,Ap]at h;obtain⟨⟨a1,a2,a3,a4⟩,_,_,hg,hw⟩:=h;obtain⟨g1,g2⟩:=Q5 hF _ _ _ _ hg;refine⟨by omega,by omega,a3,by omega,fun x hx=>by have:=g1 x hx;omega,fun x hx=>?_,fun x hx=>?_⟩
 .obtain⟨a,ha⟩:=Hm hx;have hal:=(BE.1 ha).1;obtain⟨q,g,d,ch,i,j,hq,hok,hm⟩:=g2 a (by omega) hal;rw[ha]at hq;cases hq;simp only[PC,AP,Ap,Ce]at hok;obtain⟨_,_,_,h12,_,hall⟩:=hok;refine⟨by omega,fun y hy=>?_⟩;have:=hall y hy;simp only[Ha,AP,Ap]at this;omega
 .have:=Ce.1 hw x hx;simp only[CD,AP,Ap]at this;obtain⟨_,_,_,hn,hl,_⟩:=this;cases hxn:p.nodes[x.node.toNat]? with
  |none=>rw[hxn]at hn;cases hn
  |some y=>
   obtain⟨v,_,hv,v0,v1,_⟩:=hF.node _ y hxn;rw[hv]at hl;simp only[F4]at hl;omega
def Fm(p:AI)(l:List Ak):Nat×Nat:=l.foldl (fun a g=>match p.def? g.ge with|some d=>(a.1+d.be.length,a.2+d.ac.length)|none=>a) (0,1)
structure MH(p:AI)(sz:List Int)(s:A9)(i:Nat)(g:Ak)(d:CF):Prop where
 ge:p.def? g.ge=some d
 at_:En s.ac g.at_
 len:(g.env.length:Int)=((Bs p sz)[g.ge.toNat]?).getD 0
 kw:g.env.all (CW.inB p s.be.length s.ac.length)=true
 ws:EB d (Fm p (s.bv.take i)).1 (Fm p (s.bv.take i)).2 g=true
 be: ∀(j:Nat) ch,d.be[j]? =some ch→ ∃q,s.be[(Fm p (s.bv.take i)).1+j]? =some q∧q.group=i∧q.index=j∧q.at_=g.place d ch.at_
structure QOk(p:AI)(s:A9)(q:Fg):Prop where
 len:q.queue.length≤12
 dead:q.queue.length=0∨AX s.ac q.at_=false
 msgs: ∀m∈q.queue,Ha p s.be.length s.ac.length (Dc p s q) m=true
structure FB(p:AI)(sz:List Int)(s:A9):Prop where
 small:s.small=true
 tree:Fu s.ac
 dead: ∀(i:Nat) x,1≤i→s.ac[i]? =some x→x.dead=true∨AX s.ac x.un=false
 grp: ∀(i:Nat) g,s.bv[i]? =some g→ ∃d,MH p sz s i g d
 tot:Fm p s.bv=(s.be.length,s.ac.length)
 que: ∀(c:Nat) q,s.be[c]? =some q→QOk p s q
 wait: ∀w∈s.waits,CD p sz s w=true
variable{m:List A7}
theorem Qg{l:List A7}:IJ l m=true↔ ∀x∈m,x.dead=true∨AX l x.un=false:=by
 induction m with
 |nil=>simp[IJ]
 |cons x m ih=>
  rw[IJ,AP,ih];simp only[Ip,GS,DO,IS]
theorem UB(p:AI)(l:List Ak)(g:Ak){d:CF}(h:p.def? g.ge=some d):Fm p (l++[g])=((Fm p l).1+d.be.length,(Fm p l).2+d.ac.length):=by
 unfold Fm;rw[List.foldl_append];simp only[MT,List.foldl_nil,h]
theorem UC{p:AI}{l:List Ak}{i:Nat}{g:Ak}{d:CF}(hg:l[i]? =some g)(h:p.def? g.ge=some d):Fm p (l.take (i+1))=((Fm p (l.take i)).1+d.be.length,(Fm p (l.take i)).2+d.ac.length):=by
 rw[Is,hg];exact UB p _ g h
theorem MZ{p:AI}{s:A9}{d:CF}{g:Ak}{i c:Nat}: ∀{l:List HS} {j:Nat},GA p s d g i c j l=true↔ ∀(t:Nat) ch,l[t]? =some ch→MI p s d g i (j+t) (c+(j+t)) ch=true
 |[],j=>by simp[GA]
 |x::l,j=>by
  rw[GA,AP,MZ (j:=j+1)];constructor
  .rintro⟨h1,h2⟩ t ch ht;cases t with
   |zero=>
    simp only[Es,Bi]at ht;subst ht;exact h1
   |succ t=>
    rw[FN]at ht;have:=h2 t ch ht
    rwa [show j+1+t=j+(t+1) by omega]at this
  .intro h;refine⟨h 0 x rfl,fun t ch ht=>?_⟩;have:=h (t+1) ch (by rw[FN];exact ht)
   rwa [show j+(t+1)=j+1+t by omega]at this
theorem Q6{p:AI}{sz:List Int}{s:A9}: ∀{l:List Ak} {i:Nat},s.bv.drop i=l→i≤s.bv.length→
 (E4 p (Bs p sz) s i (Fm p (s.bv.take i)).1 (Fm p (s.bv.take i)).2 l=true↔Fm p s.bv=(s.be.length,s.ac.length)∧ ∀(k:Nat) g,i≤k→s.bv[k]? =some g→ ∃d,p.def? g.ge=some d∧KY p (Bs p sz) s k (Fm p (s.bv.take k)).1 (Fm p (s.bv.take k)).2 g d=true)
 |[],i,hd,hi=>by
  have hil:s.bv.length≤i:=by
   have:=congrArg List.length hd;simp at this;omega
  rw[E4,AP,Ap,Ap,DL hil];constructor
  .rintro⟨h1,h2⟩;exact⟨by rw[←h1,←h2],fun k g hk hg=>by have:=AH hg;omega⟩
  .rintro⟨h,_⟩;rw[h];exact⟨rfl,rfl⟩
 |g::l,i,hd,hi=>by
  have hg:s.bv[i]? =some g:=by
   have:=congrArg (fun l=>l[0]?) hd;simpa using this
  have hil:=AH hg;have hd2:s.bv.drop (i+1)=l:=by
   rw[Ae hg]at hd;exact(RG hd).2
  rw[E4];cases hdf:p.def? g.ge with
  |none=>
   simp only[AM,false_iff];rintro⟨_,h⟩;obtain⟨d,h1,_⟩:=h i g (D6 _) hg;rw[hdf]at h1;cases h1
  |some d=>
   have ih:=Q6 (p:=p) (sz:=sz) (s:=s) hd2 hil;rw[UC hg hdf]at ih;simp only[AP,ih];constructor
   .rintro⟨h1,h2,h3⟩;refine⟨h2,fun k g2 hk hg2=>?_⟩;by_cases hki:k=i
    .subst hki;rw[hg]at hg2;cases hg2;exact⟨d,hdf,h1⟩
    .exact h3 k g2 (by omega) hg2
   .rintro⟨h1,h2⟩;obtain⟨d2,h3,h4⟩:=h2 i g (D6 _) hg;rw[hdf]at h3;cases h3;exact⟨h4,h1,fun k g2 hk hg2=>h2 k g2 (by omega) hg2⟩
variable{j:Nat}{ch:HS}
theorem Lx{p:AI}{s:A9}{i:Nat}{g:Ak}{d:CF}{q:Fg}(hg:s.bv[i]? =some g)(hd:p.def? g.ge=some d)(hc:d.be[j]? =some ch)(h1:q.group=i)(h2:q.index=j):Dc p s q=ch.many:=by
 have hd2:p.defs[g.ge.toNat]? =some d:=by
  rw[AI.def?]at hd;split at hd
  .exact hd
  .cases hd
 simp[Dc,h1,h2,hg,hd2,hc]
theorem GD{p:AI}{n:Int}{d:CF}(h:p.def? n=some d):0≤n∧p.defs[n.toNat]? =some d:=by
 rw[AI.def?]at h;split at h
 .exact⟨by assumption,h⟩
 .cases h
theorem eW{p:AI}{sz:List Int}{s:A9}(hg: ∀(i:Nat) g,s.bv[i]? =some g→ ∃d,MH p sz s i g d): ∀(n:Nat),n≤s.bv.length→ ∀c,c<(Fm p (s.bv.take n)).1→ ∃i g d j ch,i<n∧s.bv[i]? =some g∧MH p sz s i g d∧d.be[j]? =some ch∧c=(Fm p (s.bv.take i)).1+j
 |0,_,c,h=>by simp[Fm]at h
 |n+1,hn,c,h=>by
  obtain⟨g,hgn⟩:=get_some (l:=s.bv) (i:=n) (by omega);obtain⟨d,hd⟩:=hg n g hgn;rw[UC hgn hd.ge]at h;by_cases hc:c<(Fm p (s.bv.take n)).1
  .obtain⟨i,g,d,j,ch,h1,h2⟩:=eW hg n (by omega) c hc;exact⟨i,g,d,j,ch,by omega,h2⟩
  .obtain⟨ch,hch⟩:=get_some (l:=d.be) (i:=c-(Fm p (s.bv.take n)).1) (by dsimp only at h;omega);exact⟨n,g,d,_,ch,by omega,hgn,hd,hch,by omega⟩
structure zE(p:AI)(sz:List Int)(s:A9)(c:Nat)(q:Fg)(i j:Nat)(g:Ak)(d:CF)(ch:HS):Prop where
 grp:s.bv[i]? =some g
 st:MH p sz s i g d
 cha:d.be[j]? =some ch
 at_:c=(Fm p (s.bv.take i)).1+j
 group:q.group=i
 index:q.index=j
 place:q.at_=g.place d ch.at_
theorem FB.chn{p:AI}{sz:List Int}{s:A9}(hg: ∀(i:Nat) g,s.bv[i]? =some g→ ∃d,MH p sz s i g d)(ht:Fm p s.bv=(s.be.length,s.ac.length)){c:Nat}{q:Fg}(hq:s.be[c]? =some q): ∃i j g d ch,zE p sz s c q i j g d ch:=by
 obtain⟨i,g,d,j,ch,h1,h2,h3,h4,h5⟩:=eW hg s.bv.length (D6 _) c (by rw[EM,ht];exact AH hq);obtain⟨q2,h6,h7,h8,h9⟩:=h3.be j ch h4;rw[←h5,hq]at h6;cases h6;exact⟨i,j,g,d,ch,h2,h3,h4,h5,h7,h8,h9⟩
theorem ABG{p:AI}{sz:List Int}{s:A9}(h:Dr p sz s=true):FB p sz s:=by
 simp only[Dr,AP]at h;obtain⟨h1,h2,h3,h4,h5⟩:=h;have h4:=(Q6 (p:=p) (sz:=sz) (s:=s) (l:=s.bv) (i:=0) rfl (by omega)).1 h4;have key: ∀(i:Nat) g,s.bv[i]? =some g→ ∃d,MH p sz s i g d∧ ∀(j:Nat) ch,d.be[j]? =some ch→ ∃q,s.be[(Fm p (s.bv.take i)).1+j]? =some q∧PC p s d g i j q ch=true:=by
  intro i g hi;obtain⟨d,hd,hok⟩:=h4.2 i g (by omega) hi;simp only[KY,AP,Ap]at hok;obtain⟨g1,g2,g3,g4,g5⟩:=hok;have g5:=MZ.1 g5;have key: ∀(j:Nat) ch,d.be[j]? =some ch→ ∃q,s.be[(Fm p (s.bv.take i)).1+j]? =some q∧PC p s d g i j q ch=true:=by
   intro j ch hj;have:=g5 j ch hj;rw[I1,MI]at this;split at this
   .rename_i q hq;exact⟨q,hq,this⟩
   .cases this
  refine⟨d,⟨hd,g1,g2,g3,g4,fun j ch hj=>?_⟩,key⟩;obtain⟨q,hq,hok⟩:=key j ch hj;simp only[PC,AP,Ap]at hok;exact⟨q,hq,hok.1,hok.2.1,hok.2.2.1⟩
 have hgrp: ∀(i:Nat) g,s.bv[i]? =some g→ ∃d,MH p sz s i g d:=fun i g hi=>by
  obtain⟨d,hd,_⟩:=key i g hi;exact⟨d,hd⟩
 refine⟨h1,ZP h2,fun i x hi hx=>Qg.1 h3 x ?_,hgrp,h4.1,fun c q hq=>?_,Ce.1 h5⟩
 .rw[NL];exact⟨i-1,by rw[Gs,show 1+(i-1)=i by omega];exact hx⟩
 .obtain⟨i,j,g,d,ch,hc⟩:=FB.chn hgrp h4.1 hq;obtain⟨d2,hd2,hk⟩:=key i g hc.grp;have:=hd2.ge;rw[hc.st.ge]at this;cases this;obtain⟨q2,hq2,hok⟩:=hk j ch hc.cha;rw[←hc.at_,hq]at hq2;cases hq2;simp only[PC,AP,Ap,Ip,GS,Ce]at hok;exact⟨hok.2.2.2.1,hok.2.2.2.2.1,fun m hm=>by rw[Lx hc.grp hc.st.ge hc.cha hc.group hc.index];exact hok.2.2.2.2.2 m hm⟩
theorem tV{p:AI}{sz:List Int}{s:A9}(h:FB p sz s):Dr p sz s=true:=by
 simp only[Dr,AP];refine⟨h.small,tp h.tree,Qg.2 fun x hx=>?_,(Q6 (p:=p) (sz:=sz) (s:=s) (l:=s.bv) (i:=0) rfl (by omega)).2 ⟨h.tot,fun i g hi hg=>?_⟩,Ce.2 h.wait⟩
 .obtain⟨i,hi⟩:=Hm hx;rw[Gs]at hi;exact h.dead _ x (by omega) hi
 .obtain⟨d,hd⟩:=h.grp i g hg;refine⟨d,hd.ge,?_⟩;simp only[KY,AP,Ap];refine⟨hd.at_,hd.len,hd.kw,hd.ws,MZ.2 fun j ch hj=>?_⟩;obtain⟨q,hq,q1,q2,q3⟩:=hd.be j ch hj;have hqo:=h.que _ q hq;rw[I1,MI,hq];simp only[PC,AP,Ap,Ip,GS,Ce];exact⟨q1,q2,q3,hqo.len,hqo.dead,fun m hm=>by rw[←Lx hg hd.ge hj q1 q2];exact hqo.msgs m hm⟩
structure V5(s s':A9):Prop where
 sp: ∀(i:Nat) x,s.ac[i]? =some x→s'.ac[i]? =some x
 gr: ∀(i:Nat) g,s.bv[i]? =some g→s'.bv[i]? =some g
 ch: ∀(c:Nat) q,s.be[c]? =some q→ ∃l,s'.be[c]? =some {q with queue:=q.queue++l}
theorem HB(s:A9):V5 s s:=⟨fun _ _ h=>h,fun _ _ h=>h,fun c q h=>⟨[],by simpa using h⟩⟩
theorem iB{a b c:A9}(h1:V5 a b)(h2:V5 b c):V5 a c:=by
 refine⟨fun i x h=>h2.sp i x (h1.sp i x h),fun i x h=>h2.gr i x (h1.gr i x h),fun i q h=>?_⟩;obtain⟨l,h3⟩:=h1.ch i q h;obtain⟨l2,h4⟩:=h2.ch i _ h3;exact⟨l++l2,by rw[h4];simp⟩
theorem Tl{β:Type}{a:List α}{b:List β}(h: ∀(i:Nat) x,a[i]? =some x→ ∃y,b[i]? =some y):a.length≤b.length:=by
 by_cases h0:a.length=0
 .omega
 .obtain⟨x,hx⟩:=get_some (l:=a) (i:=a.length-1) (by omega);obtain⟨y,hy⟩:=h _ x hx;have:=AH hy;omega
variable{s':A9}
theorem V5.ns{s:A9}(h:V5 s s'):s.ac.length≤s'.ac.length:=Tl fun i x hx=>⟨_,h.sp i x hx⟩
theorem V5.nc{s:A9}(h:V5 s s'):s.be.length≤s'.be.length:=Tl fun i x hx=>by obtain⟨l,hl⟩:=h.ch i x hx;exact⟨_,hl⟩
variable{nc' ns':Nat}
theorem qk{p:AI}{nc ns:Nat}{v:CW}(h1:nc≤nc')(h2:ns≤ns')(h:v.inB p nc ns=true):v.inB p nc' ns'=true:=by
 unfold CW.inB at*;split
 .rename_i hk;simpa[hk]using h
 .rename_i hk1;rw[Ci hk1]at h;split
  .rename_i hk;simpa[hk]using h
  .rename_i hk2;rw[Ci hk2]at h;split
   .rename_i hk;rw[D1 hk]at h;simp only[AP,Ap]at*;omega
   .rename_i hk3;rw[Ci hk3]at h;split
    .rename_i hk;rw[D1 hk]at h;simp only[AP,Ap]at*;omega
    .rename_i hk4;rw[Ci hk4]at h;exact h
theorem Fv{p:AI}{nc ns:Nat}{l:List CW}(h1:nc≤nc')(h2:ns≤ns')(h:l.all (CW.inB p nc ns)=true):l.all (CW.inB p nc' ns')=true:=by
 rw[Ce]at*;exact fun v hv=>qk h1 h2 (h v hv)
theorem HD{l l':List A7}{i:Int}(h:l.length≤l'.length)(hi:En l i):En l' i:=⟨hi.1,by have:=hi.2;omega⟩
theorem Ji{s:A9}(h:V5 s s'){i:Int}(hi:En s.ac i):AX s'.ac i=AX s.ac i:=by
 obtain⟨x,hx⟩:=get_some (l:=s.ac) (i:=i.toNat) (by have:=hi.1;have:=hi.2;omega);rw[AX,AX,h.sp _ _ hx,hx]
theorem nK{p:AI}{nc ns:Nat}{env:List CW}(he:env.all (CW.inB p nc ns)=true)(x:Bt)(hf:x.formed env.length=true):(x.value env).inB p nc ns=true:=by
 obtain⟨op,n,kids⟩:=x;by_cases h1:op=1
 .subst h1;rw[UZ];rcases kids with _|⟨a,_|⟨b,_|⟨c,l⟩⟩⟩<;>simp[Bt.formed]at hf;simp[CW.inB,hf]
 by_cases h2:op=2
 .subst h2;rw[SD];obtain⟨hn,hl⟩:=PJ hf;obtain⟨v,hv⟩:=get_some (l:=env) (i:=n.toNat) (by omega);rw[hv];exact Ce.1 he v (Ac hv)
 obtain⟨h3,h4,h5,a,b,rfl,hfa,hfb⟩:=Qy hf h1 h2;rw[UY env op n a b h1 h2];generalize opV op (br (a.value env)) (br (b.value env))=k;have: -1000000000≤OT k∧OT k≤1000000000:=by unfold OT;omega
 simp[CW.inB,this]
theorem dk{p:AI}{sz:List Int}{s:A9}(h:FB p sz s)(hl:l.length=s.be.length)(hq: ∀(c:Nat) q,s.be[c]? =some q→ ∃m,l[c]? =some {q with queue:=m}∧QOk p s {q with queue:=m}):FB p sz {s with be:=l}:=by
 have hsm:=h.small;simp only[A9.small,AP,Ap]at hsm;refine⟨by simp only[A9.small,AP,Ap];omega,h.tree,h.dead,fun i g hg=>?_,by rw[hl];exact h.tot,fun c q hc=>?_,fun w hw=>?_⟩
 .obtain⟨d,hd⟩:=h.grp i g hg;refine⟨d,hd.ge,hd.at_,hd.len,by rw[hl];exact hd.kw,hd.ws,fun j ch hj=>?_⟩;obtain⟨q,h1,h2⟩:=hd.be j ch hj;obtain⟨m,h3,_⟩:=hq _ q h1;exact⟨_,h3,h2⟩
 .obtain⟨q0,h0⟩:=get_some (l:=s.be) (i:=c) (by rw[←hl];exact AH hc);obtain⟨m,h3,h4⟩:=hq c q0 h0;rw[h3]at hc;cases hc;exact⟨h4.len,h4.dead,fun m hm=>by rw[hl];exact h4.msgs m hm⟩
 .have:=h.wait w hw;simpa only[CD,hl]using this
theorem UQ{p:AI}{sz:List Int}{s:A9}(h:FB p sz s){c:Nat}{q:Fg}(hq:s.be[c]? =some q){l:List (List CW)}(hl:QOk p s {q with queue:=l}):FB p sz {s with be:=s.be.set c {q with queue:=l}}:=by
 refine dk h (by simp) fun c2 q2 h2=>?_;rw[HU];by_cases e:c=c2
 .subst e;rw[hq]at h2;cases h2;rw[D1 rfl,D1 (AH hq)];exact⟨l,rfl,hl⟩
 .rw[Ci e];exact⟨q2.queue,h2,h.que c2 q2 h2⟩
theorem hZ{s:A9}{c:Nat}{q:Fg}(hq:s.be[c]? =some q)(l:List (List CW)):V5 s {s with be:=s.be.set c {q with queue:=q.queue++l}}:=by
 refine⟨fun _ _ h=>h,fun _ _ h=>h,fun c2 q2 h2=>?_⟩;dsimp only;rw[HU];by_cases e:c=c2
 .subst e;rw[hq]at h2;cases h2;rw[D1 rfl,D1 (AH hq)];exact⟨l,rfl⟩
 .rw[Ci e];exact⟨[],by simpa using h2⟩
theorem O4{p:AI}{sz:List Int}{s:A9}(h:FB p sz s){l:List Fk}(hl:l.length≤40)(hw: ∀w∈l,CD p sz s w=true):FB p sz {s with waits:=l}:=by
 have hsm:=h.small;simp only[A9.small,AP,Ap]at hsm;exact⟨by simp only[A9.small,AP,Ap];omega,h.tree,h.dead,fun i g hg=>by obtain⟨d,hd⟩:=h.grp i g hg;exact⟨d,hd.ge,hd.at_,hd.len,hd.kw,hd.ws,hd.be⟩,h.tot,fun c q hc=>by have:=h.que c q hc;exact⟨this.len,this.dead,this.msgs⟩,hw⟩
structure CQ(p:AI)(sz:List Int)(s:A9)(j:Fq):Prop where
 n0:0≤j.node
 size:sz[j.node.toNat]? =some (j.env.length:Int)
 at_:En s.ac j.at_
 live:AX s.ac j.at_=false
 kw:j.env.all (CW.inB p s.be.length s.ac.length)=true
theorem Py{p:AI}{sz:List Int}{s:A9}{j:Fq}(h:CQ p sz s j)(he:V5 s s'):CQ p sz s' j:=⟨h.n0,h.size,HD he.ns h.at_,by rw[Ji he h.at_];exact h.live,Fv he.nc he.ns h.kw⟩
theorem Jr{p:AI}{sz:List Int}{s:A9}{j:Fq}(hF:BC p sz)(h:CQ p sz s j): ∃x l,p.nodes[j.node.toNat]? =some x∧Dn p j.env.length x=true∧Ir p j.env.length x=some l∧(∀q∈l,0≤q.1∧sz[q.1.toNat]? =some q.2)∧j.env.length≤5000:=by
 have hl:=AH h.size;rw[hF.len]at hl;obtain⟨x,hx⟩:=get_some hl;obtain⟨s0,l,h1,h2,h3,h4,h5,h6⟩:=hF.node _ x hx;rw[h.size]at h1;cases h1;exact⟨x,l,hx,h4,h5,h6,by omega⟩
theorem Od{p:AI}{sz:List Int}{s:A9}{j:Fq}{x:CR}{l:List (Int×Int)}(h:CQ p sz s j)(ho: ¬x.op=4)(hl:Ir p j.env.length x=some l)(hq: ∀q∈l,0≤q.1∧sz[q.1.toNat]? =some q.2)(k:Nat): ∀j'∈BN x k j.at_ j.env,CQ p sz s j':=by
 intro j' hj';rw[BN]at hj';split at hj'
 .rename_i n hn;rw[Ir,Ci ho]at hl;cases hl;have:=hq (n,j.env.length) (by simp only[DC,Em];exact⟨n,Ac hn,rfl⟩);rw[As]at hj';subst hj';exact⟨this.1,this.2,h.at_,h.live,h.kw⟩
 .cases hj'
theorem fJ{l:List A7}{i:Int}(hi:En l i):A5 (l++m) i=A5 l i:=by
 have:=hi.1;have:=hi.2;rw[A5,A5,Be (by omega)]
theorem OU{l:List A7}: ∀{k:Nat} {i:Int},En l i→BA l k i=true→BA (l++m) k i=true
 |0,i,hi,h=>h
 |k+1,i,hi,h=>by
  rw[BA]at h⊢;by_cases h0:i=0
  .simp[h0]
  .simp only[h0,decide_false,It,AP,Ap]at h⊢;rw[fJ hi];exact⟨HD (by simp) h.1,OU h.1 h.2⟩
theorem KR: ∀{l:List MG} {i:Nat},FQ i l=true→ ∀(t:Nat) y,l[t]? =some y→0≤y.un∧y.un≤((i+t:Nat):Int)
 |x::l,i,h,t,y,ht=>by
  rw[FQ,AP,AP,Ap,Ap]at h;cases t with
  |zero=>
   simp only[Es,Bi]at ht;subst ht;exact⟨h.1,by simpa using h.2.1⟩
  |succ t=>
   rw[FN]at ht;have:=KR h.2.2 t y ht
   rwa [show i+1+t=i+(t+1) by omega]at this
theorem GL(d:CF)(g:Ak)(i:Nat): ∀(l:List HS) (k:Nat),(Eh d g i k l).length=l.length
 |[],k=>rfl
 |c::l,k=>by simp[Eh,GL d g i l (k+1)]
theorem JJ(d:CF)(g:Ak)(i:Nat): ∀(l:List HS) (k t:Nat),(Eh d g i k l)[t]? =(l[t]?).map fun c=>(⟨(i:Int),((k+t:Nat):Int),g.place d c.at_,[]⟩:Fg)
 |[],k,t=>by simp[Eh]
 |c::l,k,0=>by simp[Eh]
 |c::l,k,t+1=>by
  rw[Eh,FN,FN,JJ d g i l (k+1) t];congr 1;funext c;rw[show k+1+t=k+(t+1) by omega]
theorem OB{d:CF}{g:Ak}: ∀{l:List MG} {k:Nat} {j:Fq},j∈DA d g k l→ ∃(t:Nat) (y:MG),l[t]? =some y∧j=⟨y.node,g.place d ((k+t:Nat)+1),g.env⟩
 |[],k,j,h=>by cases h
 |y::l,k,j,h=>by
  rw[DA]at h;rcases DO.1 h with rfl|h
  .exact⟨0,y,rfl,rfl⟩
  .obtain⟨t,y,h1,h2⟩:=OB h;exact⟨t+1,y,by rw[FN];exact h1,by rw[h2,show k+1+t=k+(t+1) by omega]⟩
structure FA(p:AI)(sz:List Int)(s:A9)(j:Fq)(x:CR)(d:CF):Prop where
 qr:FB p sz s
 job:CQ p sz s j
 node:p.nodes[j.node.toNat]? =some x
 op:x.op=4
 n0:0≤x.n
 ge:p.defs[x.n.toNat]? =some d
 ok:P9 d
 grp:((Bs p sz)[x.n.toNat]?)=some ((j.env.length:Int)+d.own)
 rules: ∀r∈d.rules,0≤r.node∧sz[r.node.toNat]? =some ((j.env.length:Int)+d.own+DB d r.eq)
 ac: ∀y∈d.ac,0≤y.node∧sz[y.node.toNat]? =some ((j.env.length:Int)+d.own)
 kid: ∃k,x.kids=[k]∧0≤k∧sz[k.toNat]? =some ((j.env.length:Int)+d.own)
theorem pK{p:AI}{sz:List Int}{s:A9}{j:Fq}{x:CR}(hF:BC p sz)(hs:FB p sz s)(hj:CQ p sz s j)(hx:p.nodes[j.node.toNat]? =some x)(ho:x.op=4): ∃d,FA p sz s j x d:=by
 obtain⟨n1,n2,_⟩:=Qh hF hx ho;obtain⟨d,hd⟩:=get_some (l:=p.defs) (i:=x.n.toNat) (by omega);have hdf:=B3 hF hd;obtain⟨i,x2,s0,h1,h2,h3,h4,h5,h6,h7,h8,h9,k,h10,h11,h12⟩:=hdf.node;have hij:i=j.node.toNat:=by
  by_cases e:i=j.node.toNat
  .exact e
  .exact absurd h3 (hF.diff i j.node.toNat x2 x e h1 h2 hx ho)
 subst hij;rw[hx]at h1;cases h1;rw[hj.size]at h4;cases h4;exact⟨d,hs,hj,hx,ho,n1,hd,hdf.ok,h7,h8,h9,k,h10,h11,h12⟩
theorem Ln{p:AI}{sz:List Int}{s:A9}{i:Nat}{g:Ak}{d:CF}(h:MH p sz s i g d):d.own≤g.env.length:=by
 have hm:=h.ws;rw[EB,Ap]at hm;have:=congrArg List.length hm;rw[Mr,I2]at this;omega
theorem eY{p:AI}{sz:List Int}{s:A9}{c:Nat}{q:Fg}{i:Nat}{g:Ak}{d:CF}(hF:BC p sz)(hc:zE p sz s c q i j g d ch):En s.ac q.at_:=by
 rw[hc.place];have hdf:=B3 hF (GD hc.st.ge).2;obtain⟨c1,c2,_⟩:=hdf.ok.chan ch (Ac hc.cha);exact Ri hc.st.ws (Ln hc.st) hc.st.at_ hc.st.kw c1 c2
theorem Wy{p:AI}{sz:List Int}{s:A9}(hF:BC p sz)(h:FB p sz s){c:Nat}{q:Fg}(hq:s.be[c]? =some q):eI p s q:=by
 obtain⟨i,j,g,d,ch,hc⟩:=FB.chn h.grp h.tot hq;obtain⟨d0,d1⟩:=GD hc.st.ge;refine⟨eY hF hc,by rw[hc.group];omega,by rw[hc.index];omega,⟨g,d,ch,by rw[hc.group];exact hc.grp,d0,d1,by rw[hc.index];exact hc.cha⟩,(h.que c q hq).len⟩
section
variable{p:AI}{sz:List Int}{s:A9}{j:Fq}{x:CR}{d:CF}
theorem FA.env(h:FA p sz s j x d):(Ad s d x.n j).env.length=j.env.length+d.own:=by simp[Ad,Mr]
theorem FA.ws(h:FA p sz s j x d):EB d s.be.length s.ac.length (Ad s d x.n j)=true:=by
 have e:j.env.length+d.own-d.be.length-d.ac.length=j.env.length:=by unfold CF.own;omega
 rw[EB,Ap,h.env,e,Ad,List.drop_left]
theorem FA.place(h:FA p sz s j x d){n:Int}(h1:1≤n)(h2:n≤d.ac.length):(Ad s d x.n j).place d n=(s.ac.length:Int)+(n-1):=Rj h.ws (by rw[h.env];omega) h1 h2
theorem Rk(g:Ak)(d:CF):g.place d 0=g.at_:=by simp[Ak.place]
theorem Eu(d:CF)(g:Ak)(l:List MG):(Cq d g l).length=l.length:=by simp[Cq]
theorem FA.spot(h:FA p sz s j x d){n:Int}(h1:0≤n)(h2:n≤d.ac.length):En (s.ac++Cq d (Ad s d x.n j) d.ac) ((Ad s d x.n j).place d n)∧AX (s.ac++Cq d (Ad s d x.n j) d.ac) ((Ad s d x.n j).place d n)=false:=by
 by_cases h0:n=0
 .subst h0;rw[Rk];have:=h.job.at_;refine⟨HD (by simp) this,?_⟩;have hl:=h.job.live;have e:(Ad s d x.n j).at_=j.at_:=rfl;rw[e];rw[AX]at hl⊢;have a1:=this.1;have a2:=this.2;rw[Be (by omega)];exact hl
 .rw[h.place (by omega) h2];refine⟨⟨by omega,by simp[Eu];omega⟩,?_⟩;rw[AX,CI (by omega),Cq,Cs];cases d.ac[((s.ac.length:Int)+(n-1)).toNat-s.ac.length]? <;>rfl
theorem FA.kw(h:FA p sz s j x d):(Ad s d x.n j).env.all (CW.inB p (s.be.length+d.be.length) (s.ac.length+d.ac.length))=true:=by
 rw[Ad,RO,AP];refine⟨Fv (by omega) (by omega) h.job.kw,?_⟩;rw[E6,RO,AP];constructor
 .rw[Ce];intro v hv;obtain⟨i,hi,rfl⟩:=Em.1 hv;have:=List.mem_range'_1.1 hi;simp only[CW.inB,Int.reduceEq,F5,Ex,AP,Ap];omega
 .rw[Ce];intro v hv;obtain⟨i,hi,rfl⟩:=Em.1 hv;have:=List.mem_range'_1.1 hi;simp only[CW.inB,Int.reduceEq,F5,Ex,AP,Ap];omega
theorem FA.tree(h:FA p sz s j x d):Fu (s.ac++Cq d (Ad s d x.n j) d.ac):=by
 have hT:=h.qr.tree;refine⟨by simp;have:=hT.pos;omega,by rw[fJ ⟨by omega,by have:=hT.pos;omega⟩];exact hT.top,fun i hi=>?_⟩;have key: ∀(n t:Nat),t<n→t<d.ac.length→ ∃k,BA (s.ac++Cq d (Ad s d x.n j) d.ac) k ((s.ac.length:Int)+t)=true:=by
  intro n;induction n with
  |zero=>intro t ht;omega
  |succ n ih=>
   intro t ht htd;obtain⟨y,hy⟩:=get_some htd;obtain⟨y0,y1⟩:=KR h.ok.spot t y hy;have hpar:A5 (s.ac++Cq d (Ad s d x.n j) d.ac) ((s.ac.length:Int)+t)=(Ad s d x.n j).place d y.un:=by
    rw[A5,CI (by omega),Cq,Cs,show((s.ac.length:Int)+t).toNat-s.ac.length=t by omega,hy];rfl
   have hin:=(h.spot (n:=y.un) y0 (by omega)).1;have: ∃k,BA (s.ac++Cq d (Ad s d x.n j) d.ac) k ((Ad s d x.n j).place d y.un)=true:=by
    by_cases h0:y.un=0
    .rw[h0,Rk];exact⟨_,OU h.job.at_ (hT.rx _ h.job.at_)⟩
    .rw[h.place (by omega) (by omega)];have:=ih (y.un-1).toNat (by omega) (by omega)
     rwa [show(((y.un-1).toNat:Nat):Int)=y.un-1 by omega]at this
   obtain⟨k,hk⟩:=this;refine⟨k+1,?_⟩;rw[BA,hpar,hk,D7 hin];simp
 by_cases hil:i<s.ac.length
 .have hi2:En s.ac i:=⟨hi.1,hil⟩;exact Kq (by simp) (OU hi2 (hT.rx i hi2))
 .have hi1:=hi.1;have hi3:=hi.2;simp only[CE,Eu]at hi3;obtain⟨k,hk⟩:=key d.ac.length (i-s.ac.length).toNat (by omega) (by omega);rw[show(s.ac.length:Int)+((i-s.ac.length).toNat:Nat)=i by omega]at hk;exact Kq (by omega) (PE hi hk)
theorem FA.ext(h:FA p sz s j x d):V5 s (Bu s d (Ad s d x.n j)):=by
 refine⟨fun i y hy=>?_,fun i y hy=>?_,fun i y hy=>⟨[],?_⟩⟩
 .show(s.ac++_)[i]? =_;rw[Be (AH hy)];exact hy
 .show(s.bv++_)[i]? =_;rw[Be (AH hy)];exact hy
 .show(s.be++_)[i]? =_;rw[Be (AH hy)];simpa using hy
theorem rn{s s':A9}(he:V5 s s'){q:Fg}{i j:Nat}{g:Ak}{d:CF}{ch:HS}(hg:s.bv[i]? =some g)(hd:p.def? g.ge=some d)(hc:d.be[j]? =some ch)(h1:q.group=i)(h2:q.index=j):Dc p s' q=Dc p s q:=by
 rw[Lx hg hd hc h1 h2,Lx (he.gr i g hg) hd hc h1 h2]
theorem sY{l:List A7}(h:Fu l){i:Nat}(h1:1≤i){y:A7}(hy:l[i]? =some y):En l y.un:=by
 have hil:=AH hy;have hc:=h.rx i ⟨by omega,by omega⟩;obtain⟨k,hk⟩: ∃k,l.length=k+1:=⟨l.length-1,by omega⟩;rw[hk]at hc;have:=(Gh (by omega) hc).1
 rwa [A5,show((i:Nat):Int).toNat=i from rfl,hy]at this
theorem sF{nc ns nc' ns':Nat}{n:Int}{m:List CW}(h1:nc≤nc')(h2:ns≤ns')(h:Ha p nc ns n m=true):Ha p nc' ns' n m=true:=by
 rw[Ha,AP]at*;exact⟨h.1,Fv h1 h2 h.2⟩
theorem uF{s s':A9}(he:V5 s s'){w:Fk}(h:CD p sz s w=true):CD p sz s' w=true:=by
 simp only[CD,AP,Ap,GS]at*;obtain⟨h1,h2,h3,h4,h5,h6⟩:=h;exact⟨HD he.ns h1,by rw[Ji he h1];exact h2,h3,h4,h5,Fv he.nc he.ns h6⟩
theorem FA.sok'(hF:BC p sz)(h:FA p sz s j x d)(hs:(Bu s d (Ad s d x.n j)).be.length≤60∧(Bu s d (Ad s d x.n j)).ac.length≤24∧(Bu s d (Ad s d x.n j)).bv.length≤40):FB p sz (Bu s d (Ad s d x.n j)):=by
 have he:=h.ext;have hsm:=h.qr.small;simp only[A9.small,AP,Ap]at hsm;have hdx:p.def? x.n=some d:=by rw[AI.def?,D1 h.n0];exact h.ge
 have hcl:(Bu s d (Ad s d x.n j)).be.length=s.be.length+d.be.length:=by simp[Bu,GL]
 have hsl:(Bu s d (Ad s d x.n j)).ac.length=s.ac.length+d.ac.length:=by simp[Bu,Eu]
 have htk: ∀i,i≤s.bv.length→(Bu s d (Ad s d x.n j)).bv.take i=s.bv.take i:=fun i hi=>Lt hi;refine⟨?_,h.tree,fun i y hi hy=>?_,fun i g hg=>?_,?_,fun c q hq=>?_,fun w hw=>uF he (h.qr.wait w hw)⟩
 .simp only[A9.small,AP,Ap];exact⟨hs.2.1,hs.2.2,hs.1,hsm.2.2.2⟩
 .by_cases hil:i<s.ac.length
  .have hy2:s.ac[i]? =some y:=by
    have:(s.ac++Cq d (Ad s d x.n j) d.ac)[i]? =some y:=hy
    rwa [Be hil]at this
   rw[Ji he (sY h.qr.tree hi hy2)];exact h.qr.dead i y hi hy2
  .right;have:(s.ac++Cq d (Ad s d x.n j) d.ac)[i]? =some y:=hy;rw[CI (by omega),Cq,Cs]at this;cases hz:d.ac[i-s.ac.length]? with
   |none=>rw[hz]at this;cases this
   |some z=>
    rw[hz]at this;cases this;obtain⟨z0,z1⟩:=KR h.ok.spot _ z hz;have:=AH hz;exact(h.spot (n:=z.un) z0 (by omega)).2
 .by_cases hil:i<s.bv.length
  .have hg2:s.bv[i]? =some g:=by
    have:(s.bv++[Ad s d x.n j])[i]? =some g:=hg
    rwa [Be hil]at this
   obtain⟨d2,hd2⟩:=h.qr.grp i g hg2;refine⟨d2,hd2.ge,HD he.ns hd2.at_,hd2.len,Fv he.nc he.ns hd2.kw,by rw[htk i (by omega)];exact hd2.ws,fun k ch hk=>?_⟩;obtain⟨q,h1,h2,h3,h4⟩:=hd2.be k ch hk;obtain⟨l,hl⟩:=he.ch _ q h1;rw[htk i (by omega)];exact⟨_,hl,h2,h3,h4⟩
  .have hg2:(s.bv++[Ad s d x.n j])[i]? =some g:=hg;have hlt:=AH hg2;rw[CE,IN]at hlt;obtain rfl:i=s.bv.length:=by omega
   rw[CI (by omega)]at hg2;simp only[LI,Es,Bi]at hg2;subst hg2;have e1:(Fm p ((Bu s d (Ad s d x.n j)).bv.take s.bv.length))=(s.be.length,s.ac.length):=by rw[htk _ (by omega),EM,h.qr.tot]
   refine⟨d,hdx,HD he.ns h.job.at_,?_,by rw[hcl,hsl];exact h.kw,by rw[e1];exact h.ws,fun k ch hk=>?_⟩
   .have:=h.grp;rw[show(Ad s d x.n j).ge=x.n from rfl,this,h.env];simp
   .rw[e1];refine⟨⟨s.bv.length,k,(Ad s d x.n j).place d ch.at_,[]⟩,?_,rfl,rfl,rfl⟩;show(s.be++Eh d (Ad s d x.n j) s.bv.length 0 d.be)[s.be.length+k]? =_;rw[CI (by omega),JJ,show s.be.length+k-s.be.length=k by omega,hk];simp
 .show Fm p (s.bv++[Ad s d x.n j])=_;rw[UB p _ _ (d:=d) hdx,h.qr.tot,hcl,hsl]
 .have hq2:(s.be++Eh d (Ad s d x.n j) s.bv.length 0 d.be)[c]? =some q:=hq;by_cases hil:c<s.be.length
  .rw[Be hil]at hq2;have hqo:=h.qr.que c q hq2;obtain⟨i,k,g,d2,ch,hc⟩:=FB.chn h.qr.grp h.qr.tot hq2;have hin:En s.ac q.at_:=eY hF hc;exact⟨hqo.len,by rw[Ji he hin];exact hqo.dead,fun m hm=>by rw[rn he hc.grp hc.st.ge hc.cha hc.group hc.index];exact sF he.nc he.ns (hqo.msgs m hm)⟩
  .rw[CI (by omega),JJ]at hq2;cases hz:d.be[c-s.be.length]? with
   |none=>rw[hz]at hq2;cases hq2
   |some z=>
    rw[hz]at hq2;cases hq2;exact⟨by simp,.inl rfl,fun m hm=>by cases hm⟩
end
abbrev pA(p:AI):AV:=.agg [.d (.ce (p.free.map CM)),.d (.ce (p.nodes.map Bg)),.d (.ce (p.defs.map CX)),.d (.int .i64 p.main)]
abbrev sA(s:A9):AV:=.agg [.d (.ce (s.ac.map Aj)),.d (.ce (s.bv.map A8)),.d (.ce (s.be.map Cm)),.d (.ce (s.waits.map AO))]
structure QE(p:AI)(sz:List Int)(s:A9)(w:Fk)(x:CR):Prop where
 n0:0≤w.node
 node:p.nodes[w.node.toNat]? =some x
 op:x.op=6∨x.op=7∨x.op=8
 at_:En s.ac w.at_
 live:AX s.ac w.at_=false
 size:sz[w.node.toNat]? =some (w.env.length:Int)
 len:w.env.length≤5000
 n: ¬x.op=7→0≤x.n∧x.n<w.env.length
 kw:w.env.all (CW.inB p s.be.length s.ac.length)=true
variable{w:Fk}
theorem P6{p:AI}{sz:List Int}{s:A9}(hF:BC p sz)(h:CD p sz s w=true): ∃x,QE p sz s w x:=by
 simp only[CD,AP,Ap,GS]at h;obtain⟨h1,h2,h3,h4,h5,h6⟩:=h;cases hx:p.nodes[w.node.toNat]? with
 |none=>rw[hx]at h4;cases h4
 |some x=>
  rw[hx]at h4;simp only[EZ,Ip,Ap]at h4;obtain⟨v,l,h7,h8,h9,h10,_⟩:=hF.node _ x hx;rw[h7]at h5;have h5:(w.env.length:Int)=v:=h5;rw[←h5]at h7 h8 h9 h10;refine⟨x,h3,hx,h4,h1,h2,h7,by omega,fun ho=>?_,h6⟩;simp only[Dn,AP]at h10;have h11:=h10.2.1;rw[uY,D1 (by omega)]at h11;exact of_decide_eq_true h11
theorem QE.val{p:AI}{sz:List Int}{s:A9}{x:CR}(h:QE p sz s w x)(ho: ¬x.op=7): ∃v,w.env[x.n.toNat]? =some v∧Hb w.env x.n=v∧(v.kind=4→En s.ac v.n∧ ∃y,s.ac[v.n.toNat]? =some y∧AX s.ac v.n=y.dead):=by
 have:=h.n ho;obtain⟨v,hv⟩:=get_some (l:=w.env) (i:=x.n.toNat) (by omega);refine⟨v,hv,by rw[Hb,hv];rfl,fun hk=>?_⟩;have hb:=Ce.1 h.kw v (Ac hv);simp only[CW.inB,hk,Int.reduceEq,F5,Ex,AP,Ap]at hb;obtain⟨y,hy⟩:=get_some (l:=s.ac) (i:=v.n.toNat) (by omega);exact⟨hb,y,hy,by simp[AX,hy]⟩
structure oA(p:AI)(sz:List Int)(s:A9)(g:Ak)(d:CF)(r:GX):Prop where
 at0:0≤r.at_
 at1:r.at_≤d.ac.length
 place:En s.ac (g.place d r.at_)
 j0:0<r.eq.length
 j1:r.eq.length≤3
 join: ∀c∈r.eq,0≤c∧c<d.be.length∧0≤g.own d true c∧ ∃q,s.be[(g.own d true c).toNat]? =some q∧q.queue.length≤12∧Sn s (g.own d true c)=q.queue.length
theorem X4{d:CF}{r:GX}: ∀{l:List Int} {i:Nat},joinsOk d r i l=true→ ∀c∈l,0≤c∧c<d.be.length
 |[],_,_,c,hc=>by simp at hc
 |x::l,i,h,c,hc=>by
  rw[joinsOk]at h;simp only[KJ,AP,Ap]at h;rcases DO.1 hc with rfl|hc
  .exact⟨h.1.1,h.1.2.1⟩
  .exact X4 h.2 c hc
theorem P4{p:AI}{sz:List Int}{s:A9}{i:Nat}{g:Ak}{d:CF}{r:GX}(hF:BC p sz)(hs:FB p sz s)(hg:s.bv[i]? =some g)(hd:MH p sz s i g d)(hr:r∈d.rules):oA p sz s g d r:=by
 have ho:=(B3 hF (GD hd.ge).2).ok;have hr1:=ho.wd r hr;simp only[Dq,AP,Ap]at hr1;obtain⟨⟨h1,h2⟩,h3,h4,h5⟩:=hr1;refine⟨h1,h2,Ri hd.ws (Ln hd) hd.at_ hd.kw h1 h2,h3,h4,fun c hc=>?_⟩;obtain⟨c0,c1⟩:=X4 h5 c hc;obtain⟨ch,hch⟩:=get_some (l:=d.be) (i:=c.toNat) (by omega);obtain⟨q,hq,_⟩:=hd.be _ ch hch;have ho:=LD hd.ws c0 c1;have:(g.own d true c).toNat=(Fm p (s.bv.take i)).1+c.toNat:=by omega
 refine⟨c0,c1,by omega,q,by rw[this];exact hq,(hs.que _ q hq).len,by rw[Sn,this,hq];rfl⟩
theorem Ym{l:List Nat}(h:0∈l):DS l=[]:=by
 induction l with
 |nil=>simp at h
 |cons n l ih=>
  rw[DS];rcases DO.1 h with h|h
  .subst h;rfl
  .simp[ih h]
theorem CT{α β:Type}{f:α→List β}{n:Nat}: ∀{l:List α},(∀x∈l,(f x).length≤n)→(l.flatMap f).length≤l.length*n
 |[],_=>by simp
 |x::l,h=>by
  have h1:=h x (by simp);have h2:=CT (f:=f) (n:=n) (l:=l) fun y hy=>h y (by simp[hy]);rw[D0,CE,List.length_cons,RX];omega
theorem Yn: ∀{l:List Nat},(∀n∈l,n≤12)→(DS l).length≤12 ^ l.length
 |[],_=>by simp[DS]
 |n::l,h=>by
  have h1:=h n (by simp);have h2:=Yn (l:=l) fun y hy=>h y (by simp[hy]);rw[DS,List.length_cons,Nat.pow_succ];have h3:=CT (l:=List.range n) (f:=fun(i:Nat)=>(DS l).map fun t=>(i:Int)::t) (n:=12 ^ l.length) fun x hx=>by simpa using h2
  rw[List.length_range]at h3;have h4:n*12 ^ l.length≤12*12 ^ l.length:=GC _ h1;omega
theorem tF{p:AI}{sz:List Int}{s:A9}{g:Ak}{d:CF}{r:GX}(h:oA p sz s g d r):(EP s d g r).length≤1728:=by
 rw[EP];split
 .simp
 .have h1:=Yn (l:=Bq s d g r) fun n hn=>by
   rw[Bq]at hn;obtain⟨c,hc,rfl⟩:=Em.1 hn;obtain⟨_,_,_,q,_,h2,h3⟩:=h.join c hc;omega
  have h2:(Bq s d g r).length≤3:=by rw[Bq,BY];exact h.j1
  have h3:12 ^ (Bq s d g r).length≤12 ^ 3:=Nat.pow_le_pow_right (by omega) h2;omega
theorem UM{s:A9}{d:CF}{g:Ak}{i:Nat}: ∀{l:List GX} (k:Nat),(∀r∈l,(EP s d g r).length≤1728)→(B5 s d g i k l).length≤l.length*1728
 |[],k,_=>by simp[B5]
 |r::l,k,h=>by
  have h1:=h r (by simp);have h2:=UM (s:=s) (d:=d) (g:=g) (i:=i) (l:=l) (k+1) fun y hy=>h y (by simp[hy]);rw[B5,CE,BY,List.length_cons];omega
theorem SJ(p:AI)(s:A9): ∀(l:List Fk) (i:Nat),(DM p s i l).length≤l.length
 |[],i=>by simp[DM]
 |w::l,i=>by
  have:=SJ p s l (i+1);rw[DM,CE,List.length_cons];split<;>simp<;>omega
theorem Xr{p:AI}{sz:List Int}{s:A9}(hF:BC p sz)(hs:FB p sz s): ∀(l:List Ak) (i:Nat),s.bv.drop i=l→(C6 p s i l).length≤l.length*51840
 |[],i,_=>by simp[C6]
 |g::l,i,h=>by
  have hg:s.bv[i]? =some g:=by
   have:=congrArg (fun l=>l[0]?) h;simpa using this
  have h2:=Xr hF hs l (i+1) (by rw[Ae hg]at h;exact(RG h).2);obtain⟨d,hd⟩:=hs.grp i g hg;rw[C6,CE,List.length_cons,hd.ge];have h3:=UM (s:=s) (d:=d) (g:=g) (i:=i) (l:=d.rules) 0 fun r hr=>tF (P4 hF hs hg hd hr);have h4:=(B3 hF (GD hd.ge).2).ok.rules;dsimp only;omega
theorem UX{p:AI}{sz:List Int}{s:A9}(hF:BC p sz)(hs:FB p sz s):(CC p s).length≤3000000:=by
 have hsm:=hs.small;simp only[A9.small,AP,Ap]at hsm;have h1:=SJ p s s.waits 0;have h2:=Xr hF hs s.bv 0 rfl;rw[CC,CE];omega
structure P8(x:Bt)(size depth n:Int)(h:AB)(π:List Nat)(idn:Abs.Id)(o:AZ)(h':AB):Prop where
 ret:UD x size depth (60-n)→o=.ret (.it [])∧h'.get idn=some (.box [.d (.int .i64 (n+x.size))])
 f9: ¬UD x size depth (60-n)→o=.f9 Ga
 frame: ∀id',Id.under π id'=false→Id.is idn id'=false→h'.get id'=h.get id'
variable{size depth n:Int}{h h':AB}{π:List Nat}
theorem Jj{x:Bt}{id:Abs.Id}(hk: ¬UD x size depth (60-n))(hf: ∀id',Id.under π id'=false→Id.is id id'=false→h'.get id'=h.get id'):P8 x size depth n h π id (.f9 Ga) h':=⟨fun h=>absurd h hk,fun _=>rfl,hf⟩
theorem NM{x:Bt}{id:Abs.Id}(hk:UD x size depth (60-n))(hg:h'.get id=some (.box [.d (.int .i64 (n+x.size))]))(hf: ∀id',Id.under π id'=false→Id.is id id'=false→h'.get id'=h.get id'):P8 x size depth n h π id (.ret (.it [])) h':=⟨fun _=>⟨rfl,hg⟩,fun h=>absurd hk h,hf⟩
theorem vG(x:Bt): ∀(size depth n:Int) (h:AB) (π:List Nat) (idn ids idd:Abs.Id),h.get idn=some (.box [.d (.int .i64 n)])→h.get ids=some (.box [.d (.int .i64 size)])→h.get idd=some (.box [.fn 217 [] [.ptr idn 0,.ptr ids 0,.ptr idd 0]])→Id.under π idn=false→Id.under π ids=false→Id.under π idd=false→Id.is idn ids=false→Id.is idn idd=false→0≤n→n≤60→1≤depth→depth≤70→
 ∃o h',KL Tryz.prog cfg (.fn 217) [.agg [.d (.int .i64 x.op),.d (.int .i64 x.n),.d (.ce (x.kids.map Bp))],.d (.int .i64 depth),.ptr idn 0,.ptr ids 0,.ptr idd 0] h π true none=.ok (o,h')∧P8 x size depth n h π idn o h':=by
 induction x using Bt.ind with
 |h op m kids ih=>
 intro size depth n h π idn ids idd hg hgs hgd hu hus hud hns hnd h1 h2 h3 h4;simp only[Bt.op_mk,Bt.n_mk,Bt.kids_mk]at*;have u1:=AG hu;have u2:=Av hu;have u3:=AF hu;have v1:=AG hus;have v3:=AF hus;have x1:=AG hud;have x3:=AF hud;have w1:IntKind.i64.wrap (n+1)=n+1:=wrap_id (by omega) (by omega);have w2:IntKind.i64.wrap (depth+1)=depth+1:=wrap_id (by omega) (by omega)
 (refine Af rfl Tryz.func217 rfl rfl rfl ?_;show Wp _ _ _ _ (Tryz.f217.body.get rfl) _ _;simp only[Tryz.f217,AS])
 have ih:=AA.mk ih;rcases kids with _|⟨a,_|⟨b,_|⟨c,l⟩⟩⟩
 ·(repeat' (first|simp only[go_sem, *]|(refine sx ?_ ?_<;>intro hc)|refine sy (by omega) fun x hx hm=>?_|simp(disch:=first|assumption|omega) only[AN]))
  all_goals try(rw[La];refine aw ?_)
  all_goals first
   |omega
   |(refine Jj ?_ (fun id' e1 e2=>?_)
     .clear ih;grind [UD,Bt.size,Hc,Bt.depth,HV,Bt.formed]
     .simp only[get_put,AG e1,e2,AM,Ex])
   |(refine NM ?_ ?_ (fun id' e1 e2=>?_)
     .clear ih;grind [UD,Bt.size,Hc,Bt.depth,HV,Bt.formed]
     .simp[get_put,is_self,Bt.size,Hc]
     .simp only[get_put,AG e1,e2,AM,Ex])
 ·(repeat' (first|simp only[go_sem, *]|(refine sx ?_ ?_<;>intro hc)|refine sy (by omega) fun x hx hm=>?_|simp(disch:=first|assumption|omega) only[AN]))
  all_goals first
   |omega
   |(refine Jj ?_ (fun id' e1 e2=>?_)
     .clear ih;grind [UD,Bt.size,Hc,Bt.depth,HV,Bt.formed]
     .simp only[get_put,AG e1,e2,AM,Ex])
   |(refine NM ?_ ?_ (fun id' e1 e2=>?_)
     .clear ih;grind [UD,Bt.size,Hc,Bt.depth,HV,Bt.formed]
     .simp[get_put,is_self,Bt.size,Hc]
     .simp only[get_put,AG e1,e2,AM,Ex])
 .have iha:=AA.mk (ih.out a (by simp));have ihb:=AA.mk (ih.out b (by simp));clear ih;have sa:=ZD a;have sb:=ZD b
  (repeat' (first|simp only[go_sem, *]|(refine sx ?_ ?_<;>intro hc)|refine sy (by omega) fun x hx hm=>?_|simp(disch:=first|assumption|omega) only[AN]))
  all_goals try
   (refine Jj ?_ (fun id' e1 e2=>?_)
    .clear iha ihb;grind [UD,Bt.size,Hc,Bt.depth,HV,Bt.formed]
    .simp only[get_put,AG e1,e2,AM,Ex])
  all_goals (rw[La];refine aw ?_)
  all_goals
   refine AY (iha.out size (depth+1) (n+1) _ _ idn ids idd ?_ ?_ ?_ (u3 _) (v3 _) (x3 _) hns hnd ?_ ?_ ?_ ?_) (fun o1 g1 p1=>?_)
   .simp only[go_sem,u1,hg]
   .simp only[go_sem,v1,hns,hgs,AM]
   .simp only[go_sem,x1,hnd,hgd,AM]
   .omega
   .omega
   .omega
   .omega
   have f1:=p1.frame;have s1:g1.get ids=some (.box [.d (.int .i64 size)]):=by
    rw[f1 ids (v3 _) hns];simp only[go_sem,v1,hns,hgs,AM]
   have d1:g1.get idd=some (.box [.fn 217 [] [.ptr idn 0,.ptr ids 0,.ptr idd 0]]):=by
    rw[f1 idd (x3 _) hnd];simp only[go_sem,x1,hnd,hgd,AM]
   have fr1: ∀id',Id.under π id'=false→Id.is idn id'=false→g1.get id'=h.get id':=fun id' e1 e2=>by
    rw[f1 id' (AF e1 _) e2];simp only[get_put,AG e1,e2,AM,Ex]
   clear f1;by_cases ka:UD a size (depth+1) (60-(n+1))
   .obtain⟨rfl,r1⟩:=p1.ret ka;clear p1;have fr1:=AA.mk fr1;refine aw ?_;rw[La];refine aw ?_;refine AY (ihb.out size (depth+1) (n+1+a.size) _ _ idn ids idd ?_ ?_ ?_ (u3 _) (v3 _) (x3 _) hns hnd ?_ ?_ ?_ ?_) (fun o2 g2 p2=>?_)
    .simp only[go_sem,u1,u3,r1,AM]
    .simp only[go_sem,v1,v3,hns,s1,AM]
    .simp only[go_sem,x1,x3,hnd,d1,AM]
    .omega
    .grind [UD]
    .omega
    .omega
    have f2:=p2.frame;have fr: ∀id',Id.under π id'=false→Id.is idn id'=false→g2.get id'=h.get id':=fun id' e1 e2=>by
     rw[f2 id' (AF e1 _) e2];simp only[get_put,AG e1,Al _ _ _ (AF e1 _),fr1.out id' e1 e2,AM,Ex]
    have fr:=AA.mk fr;clear f2 fr1;by_cases kb:UD b size (depth+1) (60-(n+1+a.size))
    .obtain⟨rfl,r2⟩:=p2.ret kb;clear p2;refine aw ?_;rw[La];refine aw ?_;refine NM ?_ ?_ fun id' e1 e2=>?_
     .clear iha ihb fr;grind [UD,Bt.size,Hc,Bt.depth,HV,Bt.formed]
     .rw[Al _ _ _ (u3 _),r2];simp[Bt.size,Hc];omega
     .rw[Al _ _ _ (AF e1 _),fr.out id' e1 e2]
    .obtain rfl:=p2.f9 kb;clear p2;refine aw ?_;refine Jj ?_ fun id' e1 e2=>?_
     .clear iha ihb fr;grind [UD,Bt.size,Hc,Bt.depth,HV,Bt.formed]
     .rw[Al _ _ _ (AF e1 _),fr.out id' e1 e2]
   .obtain rfl:=p1.f9 ka;clear p1;refine aw ?_;refine Jj ?_ (fun id' e1 e2=>?_)
    .clear iha ihb;grind [UD,Bt.size,Hc,Bt.depth,HV,Bt.formed]
    .rw[Al _ _ _ (AF e1 _),fr1 id' e1 e2]
 ·(repeat' (first|simp only[go_sem, *]|(refine sx ?_ ?_<;>intro hc)|refine sy (by omega) fun x hx hm=>?_|simp(disch:=first|assumption|omega) only[AN]))
  all_goals first
   |omega
   |(refine Jj ?_ (fun id' e1 e2=>?_)
     .clear ih;grind [UD,Bt.size,Hc,Bt.depth,HV,Bt.formed]
     .simp only[get_put,AG e1,e2,AM,Ex])
   |(refine NM ?_ ?_ (fun id' e1 e2=>?_)
     .clear ih;grind [UD,Bt.size,Hc,Bt.depth,HV,Bt.formed]
     .simp[get_put,is_self,Bt.size,Hc]
     .simp only[get_put,AG e1,e2,AM,Ex])
theorem AAB(x:Bt)(size:Int):BU (KL Tryz.prog cfg) 212 [.agg [.d (.int .i64 x.op),.d (.int .i64 x.n),.d (.ce (x.kids.map Bp))],.d (.int .i64 size)] []=.ok (HQ Ga (x.ok size)):=by
 (refine Ao rfl Tryz.func212 rfl rfl rfl ?_;show Wp _ _ _ _ (Tryz.f212.body.get rfl) _ _;simp only[Tryz.f212,AS])
 refine aw ?_;refine AY (vG x size 1 0 _ _ [0,2] [0,1] [0,4] rfl rfl rfl rfl rfl rfl rfl rfl ?_ ?_ ?_ ?_) (fun o1 g1 p1=>?_)
 .omega
 .omega
 .omega
 .omega
 have e:UD x size 1 (60-0)↔x.ok size=true:=AA5 x size;cases hx:x.ok size with
 |true=>
  obtain⟨rfl,r1⟩:=p1.ret (e.2 hx);clear p1;refine aw ?_;rfl
 |false=>
  obtain rfl:=p1.f9 (fun h=>by rw[e.1 h]at hx;cases hx);clear p1;refine aw ?_;rfl
def slv(id:Abs.Id)(n:Nat):AV:=if n=0 then .emp else .f8 id 0 n
theorem DF{id:Abs.Id}{n:Nat}(h:n≠0):slv id n=.f8 id 0 n:=by rw[slv,Ci h]
structure uk(π:List Nat)(l sz mt df:Abs.Id):Prop where
 ul:Id.under π l=false
 us:Id.under π sz=false
 um:Id.under π mt=false
 ud:Id.under π df=false
 ls:Id.is l sz=false
 lm:Id.is l mt=false
 ld:Id.is l df=false
 sl:Id.is sz l=false
 sm:Id.is sz mt=false
 sd:Id.is sz df=false
 ml:Id.is mt l=false
 ms:Id.is mt sz=false
 md:Id.is mt df=false
 dl:Id.is df l=false
 ds:Id.is df sz=false
 dm:Id.is df mt=false
structure H7(h:AB)(p:AI)(l sz mt df:Abs.Id)(st:Bo):Prop where
 box:h.get l=some (.box [.d (.ce (p.free.map CM)),.d (.ce (p.nodes.map Bg)),.d (.ce (p.defs.map CX)),.d (.int .i64 p.main),slv sz p.nodes.length,slv mt p.nodes.length,slv df p.defs.length])
 ci:p.nodes.length≠0→h.get sz=some (.d7 1 (st.ci.map AL))
 met:p.nodes.length≠0→h.get mt=some (.d7 1 (st.met.map DP))
 defs:p.defs.length≠0→h.get df=some (.d7 1 (st.defs.map DP))
structure QB(p:AI)(l sz mt df:Abs.Id)(h:AB)(π:List Nat)(r:Option Bo)(o:AZ)(h':AB):Prop where
 ret: ∀st',r=some st'→o=.ret (.it [])∧H7 h' p l sz mt df st'∧ ∀id',Id.under π id'=false→Id.is sz id'=false→Id.is mt id'=false→Id.is df id'=false→h'.get id'=h.get id'
 f9:r=none→o=.f9 Ga
variable{l df:Abs.Id}
theorem C7{p:AI}{sz mt:Abs.Id}{r:Option Bo}(hr:r=none):QB p l sz mt df h π r (.f9 Ga) h':=⟨fun st' hs=>by{rw[hr]at hs;cases hs},fun _=>rfl⟩
@[go_sem] theorem ACx:cfg.wp 307 "cabotage/scope.kids" =some 236:=rfl
@[go_sem] theorem ACy:cfg.wp 308 "cabotage/scope.kids" =some 237:=rfl
@[go_sem] theorem ACz:cfg.wp 309 "cabotage/scope.kids" =some 238:=rfl
@[go_sem] theorem AC0:cfg.wp 310 "cabotage/scope.kids" =some 239:=rfl
@[go_sem] theorem AC1:cfg.wp 314 "cabotage/scope.kids" =some 240:=rfl
structure nv(p:AI)(l sz mt df:Abs.Id)(h:AB)(π:List Nat)(L:List (Nat×Abs.Obj))(st:Bo)(g:AB):Prop where
 looks:H7 g p l sz mt df st
 node: ∀q∈L,g.get (0::q.1::π)=some q.2
 frame: ∀id',Id.under π id'=false→Id.is sz id'=false→Id.is mt id'=false→Id.is df id'=false→g.get id'=h.get id'
theorem KI{sz mt:Abs.Id}(h:uk π l sz mt df)(n:Nat):uk (n::π) l sz mt df:={h with ul:=AF h.ul n,us:=AF h.us n,um:=AF h.um n,ud:=AF h.ud n}
theorem nJ(i j:Nat)(π:List Nat)(h:i≠j):Id.under (i::π) (0::j::π)=false:=Dw fun hs=>by
 rcases HM.1 hs with e|hs
 .have:=congrArg List.length e;simp at this
 rcases HM.1 hs with e|hs
 .simp only[Md,and_true]at e;exact h e
 .have:=hs.length_le;simp at this;omega
variable{st:Bo}
theorem K4{g:AB}{p:AI}{sz mt:Abs.Id}{ρ:List Nat}(h:H7 g p l sz mt df st)(hi:uk ρ l sz mt df):H7 (gc ρ g) p l sz mt df st:=
 ⟨by rw[Al _ _ _ hi.ul];exact h.box,fun hn=>by rw[Al _ _ _ hi.us];exact h.ci hn,fun hn=>by rw[Al _ _ _ hi.um];exact h.met hn,fun hn=>by rw[Al _ _ _ hi.ud];exact h.defs hn⟩
variable{L:List (Nat×Abs.Obj)}{j:Nat}
theorem G1{p:AI}{sz mt:Abs.Id}{g:AB}(hf:nv p l sz mt df h π L st g)(hi:uk π l sz mt df){o:Abs.Obj}(hj: ∀q∈L,j≠q.1):nv p l sz mt df h π L st (g.put (0::j::π) o):=by
 refine⟨⟨?_,fun hn=>?_,fun hn=>?_,fun hn=>?_⟩,fun q hq=>?_,fun id' h1 h2 h3 h4=>?_⟩
 .rw[get_put,AG hi.ul];exact hf.looks.box
 .rw[get_put,AG hi.us];exact hf.looks.ci hn
 .rw[get_put,AG hi.um];exact hf.looks.met hn
 .rw[get_put,AG hi.ud];exact hf.looks.defs hn
 .have:Id.is (0::j::π) (0::q.1::π)=false:=AE fun e=>hj q hq (by simpa using e);rw[get_put,this];exact hf.node q hq
 .rw[get_put,AG h1];exact hf.frame id' h1 h2 h3 h4
variable{st':Bo}
theorem N0{p:AI}{sz mt:Abs.Id}{g g':AB}(hf:nv p l sz mt df h π L st g)(hi:uk π l sz mt df)(hj: ∀q∈L,j≠q.1)(hl:H7 g' p l sz mt df st')(hg: ∀id',Id.under (j::π) id'=false→Id.is sz id'=false→Id.is mt id'=false→Id.is df id'=false→g'.get id'=g.get id'):nv p l sz mt df h π L st' (gc (j::π) g'):=by
 refine⟨K4 hl (KI hi j),fun q hq=>?_,fun id' h1 h2 h3 h4=>?_⟩
 .have hu:=nJ j q.1 π (hj q hq);rw[Al _ _ _ hu,hg _ hu (Av hi.us _ _) (Av hi.um _ _) (Av hi.ud _ _)];exact hf.node q hq
 .rw[Al _ _ _ (AF h1 j),hg _ (AF h1 j) h2 h3 h4];exact hf.frame id' h1 h2 h3 h4
theorem NY{p:AI}(h:st.fit p)(hg:uj st st'):st'.fit p:=⟨hg.ci.trans h.ci,hg.met.trans h.met,hg.defs.trans h.defs⟩
theorem ph(x:Bt)(size:Int):BU (KL Tryz.prog cfg) 212 [.agg [.d (.int .i64 x.op),.d (.int .i64 x.n),.d (.ce (x.kids.map Bp))],.d (.int .i64 size)] []=Bf Ga (x.ok size):=by rw[AAB,SG]
theorem NN(d:CF):BU (KL Tryz.prog cfg) 213 [.agg [.d (.ce (d.be.map BJ)),.d (.ce (d.ac.map A6)),.d (.ce (d.rules.map BG))]] []=Bf Ga d.okG:=by rw[z6,SG]
variable{k:Nat}
theorem SE{p:AI}{x:CR}(hn:0≤n)(ht:st.met[n.toNat]? =some false)(hx:p.nodes[n.toNat]? =some x):Cj p (k+1) n size st=if Dn p size x=true then match VQ p size x (st.meet n size)with
 |some (l,st2)=>GG (Cj p k) l st2
 |none=>none
 else none:=by
 rw[Cj,D1 ⟨hn,ht⟩,hx];all_goals rfl
theorem nN{p:AI}{x:CR}(hn:0≤n)(ht:st.met[n.toNat]? =some false)(hx:p.nodes[n.toNat]? =some x)(hb:Dn p size x=false):Cj p (k+1) n size st=none:=by
 rw[SE hn ht hx,hb,Ci (by simp)]
theorem K9(p:AI)(hN:p.nodes.length≤60)(n size:Int)(st:Bo)(h:AB)(π:List Nat)(l sz mt df:Abs.Id)(hfit:st.fit p)(hid:uk π l sz mt df)(hl:H7 h p l sz mt df st)(hb:0≤n→n<p.nodes.length→st.met[n.toNat]? =some true):
 ∃o h',KL Tryz.prog cfg (.fn 201) [.ptr l 0,.d (.int .i64 n),.d (.int .i64 size)] h π true none=.ok (o,h')∧QB p l sz mt df h π none o h':=by
 obtain⟨ul,us,um,ud,ls,lm,ld,sl,sm,sd,ml,ms,md,dl,ds,dm⟩:=hid;obtain⟨lbox,lsz,lmt,ldf⟩:=hl;have lsz:=AA.mk lsz;have ldf:=AA.mk ldf;have hb:=AA.mk hb;have hfm:=hfit.met
 (refine Af rfl Tryz.func201 rfl rfl rfl ?_;show Wp _ _ _ _ (Tryz.f201.body.get rfl) _ _;simp only[Tryz.f201,AS])
 by_cases hn:0≤n
 .by_cases hn2:n<p.nodes.length
  .have hne:p.nodes.length≠0:=by omega
   have hlt:n.toNat<p.nodes.length:=by omega
   have ht:=hb.out hn hn2;have lmt:=lmt hne;rw[DF hne,DF hne]at lbox;refine aw ?_;exact C7 rfl
  .refine aw ?_;exact C7 rfl
 .refine aw ?_;exact C7 rfl
theorem fH(p:AI)(hN:p.nodes.length≤60)(hD:p.defs.length≤12): ∀(k:Nat) (n size:Int) (st:Bo) (h:AB) (π:List Nat) (l sz mt df:Abs.Id),J1 st.met≤k→st.fit p→0≤size→size+70*k≤5000→uk π l sz mt df→H7 h p l sz mt df st→
 ∃o h',KL Tryz.prog cfg (.fn 201) [.ptr l 0,.d (.int .i64 n),.d (.int .i64 size)] h π true none=.ok (o,h')∧QB p l sz mt df h π (Cj p k n size st) o h':=by
 intro k;induction k with
 |zero=>
  intro n size st h π l sz mt df hk hfit h0 hb hid hl;refine K9 p hN n size st h π l sz mt df hfit hid hl fun h1 h2=>?_;obtain⟨t,ht⟩:=get_some (l:=st.met) (i:=n.toNat) (by rw[hfit.met];omega);cases t with
  |true=>exact ht
  |false=>have:=H5 ht;omega
 |succ k ih=>
 intro n size st h π l sz mt df hk hfit h0 hb hid hl;have hid2:=AA.mk hid;obtain⟨ul,us,um,ud,ls,lm,ld,sl,sm,sd,ml,ms,md,dl,ds,dm⟩:=hid;have hl2:=AA.mk hl;obtain⟨lbox,lsz,lmt,ldf⟩:=hl;have e1:=AG ul;have e2:=AG us;have e3:=AG um;have e4:=AG ud;have e5:=Av ul;have e6:=Av us;have e7:=Av um;have e8:=Av ud;by_cases hn:0≤n
 .by_cases hn2:n<p.nodes.length
  .have hne:p.nodes.length≠0:=by omega
   have hlt:n.toNat<p.nodes.length:=by omega
   obtain⟨x,hx⟩:=get_some hlt;obtain⟨t,ht⟩:=get_some (l:=st.met) (i:=n.toNat) (by rw[hfit.met];omega);obtain⟨s0,hs0⟩:=get_some (l:=st.ci) (i:=n.toNat) (by rw[hfit.ci];omega);have lmt:=lmt hne;have lsz:=lsz hne;rw[DF hne,DF hne]at lbox;have ih:=AA.mk ih;have ldf:=AA.mk ldf;have hfs:=hfit.ci;have hfm:=hfit.met;cases t with
   |true=>
    have e:Cj p (k+1) n size st=none:=by
     rw[Cj,Ci];rw[ht];simp
    rw[e];exact K9 p hN n size st h π l sz mt df hfit hid2.out hl2.out fun _ _=>ht
   |false=>
    (refine Af rfl Tryz.func201 rfl rfl rfl ?_;show Wp _ _ _ _ (Tryz.f201.body.get rfl) _ _;simp only[Tryz.f201,AS])
    have hs:=AA.mk (SE (p:=p) (k:=k) (size:=size) hn ht hx);have hbad:=AA.mk (nN (p:=p) (k:=k) (size:=size) hn ht hx);obtain⟨xo,xn,xa,xk⟩:=x;have hn0:AA (∀o o',nv p l sz mt df h π [(46,o')] (st.meet n size) ((((h.put mt (.d7 1 ((List.map DP st.met).set n.toNat [.bool true]))).put sz (.d7 1 ((List.map AL st.ci).set n.toNat [.int .i64 size]))).put (0::46::π) o).put (0::46::π) o')):=.mk fun o o'=>by
     refine⟨⟨?_,fun _=>?_,fun _=>?_,fun hd=>?_⟩,?_,fun id' h1 h2 h3 h4=>?_⟩
     .rw[DF hne,DF hne];simp only[get_put,e1,sl,ml,AM,Ex,lbox]
     .simp only[get_put,e2,is_self,AM,Ex,F5,Bo.meet,NO];rfl
     .simp only[get_put,e3,sm,is_self,AM,Ex,F5,Bo.meet,NO];rfl
     .simp only[get_put,e4,sd,md,AM,Ex,Bo.meet,ldf.out hd]
     .intro q hq;cases As.1 hq;simp only[get_put,is_self,F5]
     .simp only[get_put,AG h1,h2,h3,AM,Ex]
    by_cases o4:xo=4
    .subst o4;by_cases x0:xn<0
     ·(repeat' (first|simp only[go_sem, *,Gn,LP]|(refine sx ?_ ?_<;>intro hc)|refine sy (by omega) fun x hx hm=>?_|simp(disch:=first|assumption|omega) only[AN]))
      all_goals try(exfalso;omega)
      all_goals (exact C7 (hbad.out (by clear e1 e2 e3 e4 e5 e6 e7 e8 lbox lmt lsz hs hbad ih hn0;grind [Dn,FY,uY,JW])))
     by_cases x1:(p.defs.length:Int)≤xn
     ·(repeat' (first|simp only[go_sem, *,Gn,LP]|(refine sx ?_ ?_<;>intro hc)|refine sy (by omega) fun x hx hm=>?_|simp(disch:=first|assumption|omega) only[AN]))
      all_goals try(exfalso;omega)
      all_goals (exact C7 (hbad.out (by clear e1 e2 e3 e4 e5 e6 e7 e8 lbox lmt lsz hs hbad ih hn0;grind [Dn,FY,uY,JW])))
     have x2:0≤xn:=by omega
     have x3:xn<p.defs.length:=by omega
     have hdl:p.defs.length≠0:=by omega
     have hxlt:xn.toNat<p.defs.length:=by omega
     obtain⟨d,hd⟩:=get_some hxlt;obtain⟨t,htd⟩:=get_some (l:=st.defs) (i:=xn.toNat) (by rw[hfit.defs];omega);have hfd:=hfit.defs;have ldf2:=ldf.out hdl;rw[DF hdl]at lbox;have hinto:VQ p size ⟨4,xn,xa,xk⟩ (st.meet n size)=if st.defs[xn.toNat]? =some false∧d.okG=true then some (HL d (size+d.own) d.rules++(GU (size+d.own) d.ac++DC (size+d.own) xk),{st.meet n size with defs:=st.defs.set xn.toNat true})else none:=by
      rw[VQ,D1 rfl,hd];rfl
     have hinto:=AA.mk hinto;have hn1:AA (∀o o' b,nv p l sz mt df h π [(131,o'),(46,b)] {st.meet n size with defs:=st.defs.set xn.toNat true} (((((((h.put mt (.d7 1 ((List.map DP st.met).set n.toNat [.bool true]))).put sz (.d7 1 ((List.map AL st.ci).set n.toNat [.int .i64 size]))).put (0::46::π) (.box [.d (.int .i64 0),.d (.int .i64 0),.co,.co])).put (0::46::π) b).put df (.d7 1 ((List.map DP st.defs).set xn.toNat [.bool true]))).put (0::131::π) o).put (0::131::π) o')):=.mk fun o o' b=>by
      refine⟨⟨?_,fun _=>?_,fun _=>?_,fun hd=>?_⟩,?_,fun id' h1 h2 h3 h4=>?_⟩
      .rw[DF hne,DF hne,DF hdl];simp only[get_put,e1,sl,ml,dl,AM,Ex,lbox]
      .simp only[get_put,e2,ds,is_self,AM,Ex,F5,Bo.meet,NO];rfl
      .simp only[get_put,e3,sm,dm,is_self,AM,Ex,F5,Bo.meet,NO];rfl
      .simp only[get_put,e4,is_self,AM,Ex,F5,Bo.meet,NO];rfl
      .simp only[DO,ID,PU,IS,forall_eq];simp only[go_sem,e8]
      .simp only[get_put,AG h1,h2,h3,h4,AM,Ex]
     by_cases hgt:t=false∧d.okG=true
     .obtain⟨rfl,hg⟩:=hgt;have hdo:=Ve hg;have c1:=hdo.be;have c2:=hdo.ac;have c3:=hdo.rules;have hown:=Re hdo;have hok:=AA8 d (by omega) (by omega);have hdo:=AA.mk hdo
      (repeat' (first|simp only[go_sem, *,Gn,LP,NN]|(refine sx ?_ ?_<;>intro hc)|refine sy (by omega) fun x hx hm=>?_|simp(disch:=first|assumption|omega) only[AN]))
      all_goals try(exfalso;omega)
      all_goals try(exact C7 (hbad.out (by clear e1 e2 e3 e4 e5 e6 e7 e8 lbox lmt lsz hs hbad ih hn0;grind [Dn,FY,uY,JW])))
      rw[La]
      (repeat' (first|simp only[go_sem, *,NN]|(refine sx ?_ ?_<;>intro hc)|refine sy (by omega) fun x hx hm=>?_|simp(disch:=first|assumption|omega) only[AN]))
      refine AU d.rules _ (fun m i a=>⟨[(0,.ptr l 0),(2,.d (.int .i64 (size+(d.own:Int)))),(6,.ptr (0::46::π) 0),(11,.ptr (0::131::π) 0),(190,.d (.ce (d.rules.map BG))),(191,.d (.int .i64 m)),(192,.d (.int .i64 i))],a.1.1,a.2+144,[]⟩)
       (Inv:=fun i rest a=>nv p l sz mt df h π [(131,.box [.d (.ce (d.be.map BJ)),.d (.ce (d.ac.map A6)),.d (.ce (d.rules.map BG))]),(46,.box [.d (.int .i64 4),.d (.int .i64 xn),.d (.ce (xa.map Bp)),.d (.ce (xk.map AL))])] a.1.2 a.1.1∧a.1.2.fit p∧J1 a.1.2.met≤k∧AA (Cj p (k+1) n size st=GG (Cj p k) (HL d (size+d.own) rest++(GU (size+d.own) d.ac++DC (size+d.own) xk)) a.1.2)) (b0:=((_,{st.meet n size with defs:=st.defs.set xn.toNat true}),_)) ?_ ⟨hn1.out _ _ _,?_,?_,⟨?_⟩⟩ ?_ ?_
      .rfl
      .have:=YD hfit n size;exact⟨this.ci,this.met,by simp[hfit.defs]⟩
      .have:=H5 ht;simp only[Bo.meet];omega
      .rw[hs.out,D1,hinto.out,D1 ⟨htd,hg⟩];have h00:((xa.length:Int)=0):=by assumption
       have hxa:xa=[]:=Dl (by omega);clear e1 e2 e3 e4 e5 e6 e7 e8 lbox lmt lsz hs hbad ih hn0 hn1 hdo hinto;grind [Dn,FY,uY,JW]
      .rintro i r ⟨⟨g,st1⟩,c⟩ hy hi him ⟨hf,hfit1,hun,hv⟩ IH;dsimp only at*;have hr1:=hf.node _ (II ..);dsimp only at hr1;have hj:=R0 hdo.out (Ac hy);have hb1:=ft d r hj;have hb2:=MX hj.2.2 r.eq;have hb3:=hj.1;have hj:=AA.mk hj;refine aw ?_;refine Ew (ih.out r.node (size+d.own+DB d r.eq) st1 _ _ l sz mt df hun hfit1 (by omega) (by omega) (KI hid2.out _) (G1 (G1 hf hid2.out ?_) hid2.out ?_).looks) (fun o1 g1 p1=>?_)
       .simp only[DO,ID,PU,IS,forall_eq];omega
       .simp only[DO,ID,PU,IS,forall_eq];omega
       cases hvy:Cj p k r.node (size+d.own+DB d r.eq) st1 with
       |none=>
        obtain rfl:=p1.f9 hvy;clear p1;refine aw ?_;refine C7 (hv.out.trans ?_);simp only[HL,El,Ge,GG,hvy]
       |some st2=>
        obtain⟨rfl,hl2,hfr⟩:=p1.ret st2 hvy;have hfr:=AA.mk hfr;clear p1;refine aw ?_;have hgr:=Ej p _ _ _ _ _ hvy;refine IH.out ((_,st2),_) ⟨N0 (G1 (G1 hf hid2.out ?_) hid2.out ?_) hid2.out ?_ hl2 hfr.out,NY hfit1 hgr,IP hgr.less hun,⟨?_⟩⟩
        .simp only[DO,ID,PU,IS,forall_eq];omega
        .simp only[DO,ID,PU,IS,forall_eq];omega
        .simp only[DO,ID,PU,IS,forall_eq];omega
        .rw[hv.out];simp only[HL,El,Ge,GG,hvy]
      .rintro i ⟨⟨g,st1⟩,c⟩ hi him ⟨hf,hfit1,hun,hv⟩;dsimp only at*;have hr1:=hf.node _ (II ..);have hr2:=hf.node _ (FD _ (II ..));dsimp only at hr1 hr2;refine aw ?_;refine AU d.ac _ (fun m i a=>⟨[(0,.ptr l 0),(2,.d (.int .i64 (size+(d.own:Int)))),(6,.ptr (0::46::π) 0),(207,.d (.ce (d.ac.map A6))),(208,.d (.int .i64 m)),(209,.d (.int .i64 i))],a.1.1,a.2+144,[]⟩)
        (Inv:=fun i rest a=>nv p l sz mt df h π [(131,.box [.d (.ce (d.be.map BJ)),.d (.ce (d.ac.map A6)),.d (.ce (d.rules.map BG))]),(46,.box [.d (.int .i64 4),.d (.int .i64 xn),.d (.ce (xa.map Bp)),.d (.ce (xk.map AL))])] a.1.2 a.1.1∧a.1.2.fit p∧J1 a.1.2.met≤k∧AA (Cj p (k+1) n size st=GG (Cj p k) (GU (size+d.own) rest++DC (size+d.own) xk) a.1.2)) (b0:=((g,st1),_)) rfl ⟨hf,hfit1,hun,⟨?_⟩⟩ ?_ ?_
       .exact hv.out
       .clear hf hfit1 hun hv hr1 hr2 i hi him g st1 c;rintro i r ⟨⟨g,st1⟩,c⟩ hy hi him ⟨hf,hfit1,hun,hv⟩ IH;dsimp only at*;refine aw ?_;refine AY (ih.out r.node (size+d.own) st1 _ _ l sz mt df hun hfit1 (by omega) (by omega) (KI hid2.out _) (G1 (G1 hf hid2.out ?_) hid2.out ?_).looks) (fun o1 g1 p1=>?_)
        .simp only[DO,ID,PU,IS,forall_eq];omega
        .simp only[DO,ID,PU,IS,forall_eq];omega
        cases hvy:Cj p k r.node (size+d.own) st1 with
        |none=>
         obtain rfl:=p1.f9 hvy;clear p1;refine aw ?_;refine C7 (hv.out.trans ?_);simp only[GU,El,Ge,GG,hvy]
        |some st2=>
         obtain⟨rfl,hl2,hfr⟩:=p1.ret st2 hvy;have hfr:=AA.mk hfr;clear p1;refine aw ?_;have hgr:=Ej p _ _ _ _ _ hvy;refine IH.out ((_,st2),_) ⟨N0 (G1 (G1 hf hid2.out ?_) hid2.out ?_) hid2.out ?_ hl2 hfr.out,NY hfit1 hgr,IP hgr.less hun,⟨?_⟩⟩
         .simp only[DO,ID,PU,IS,forall_eq];omega
         .simp only[DO,ID,PU,IS,forall_eq];omega
         .simp only[DO,ID,PU,IS,forall_eq];omega
         .rw[hv.out];simp only[GU,El,Ge,GG,hvy]
       .clear hf hfit1 hun hv hr1 hr2 i hi him g st1 c;rintro i ⟨⟨g,st1⟩,c⟩ hi him ⟨hf,hfit1,hun,hv⟩;dsimp only at*;have hr1:=hf.node _ (II ..);have hr2:=hf.node _ (FD _ (II ..));dsimp only at hr1 hr2;refine aw ?_;refine AU xk _ (fun m i a=>⟨[(0,.ptr l 0),(2,.d (.int .i64 (size+(d.own:Int)))),(220,.d (.ce (xk.map AL))),(221,.d (.int .i64 m)),(222,.d (.int .i64 i))],a.1.1,a.2+144,[]⟩)
         (Inv:=fun i rest a=>nv p l sz mt df h π [(131,.box [.d (.ce (d.be.map BJ)),.d (.ce (d.ac.map A6)),.d (.ce (d.rules.map BG))]),(46,.box [.d (.int .i64 4),.d (.int .i64 xn),.d (.ce (xa.map Bp)),.d (.ce (xk.map AL))])] a.1.2 a.1.1∧a.1.2.fit p∧J1 a.1.2.met≤k∧AA (Cj p (k+1) n size st=GG (Cj p k) (DC (size+d.own) rest) a.1.2)) (b0:=((g,st1),_)) ?_ ⟨hf,hfit1,hun,⟨?_⟩⟩ ?_ ?_
        .omega
        .exact hv.out
        .clear hf hfit1 hun hv hr1 hr2 i hi him g st1 c;rintro i y ⟨⟨g,st1⟩,c⟩ hy hi him ⟨hf,hfit1,hun,hv⟩ IH;dsimp only at*;refine aw ?_;refine AY (ih.out y (size+d.own) st1 _ _ l sz mt df hun hfit1 (by omega) (by omega) (KI hid2.out _) hf.looks) (fun o1 g1 p1=>?_);cases hvy:Cj p k y (size+d.own) st1 with
         |none=>
          obtain rfl:=p1.f9 hvy;clear p1;refine aw ?_;refine C7 (hv.out.trans ?_);simp only[DC,El,Ge,GG,hvy]
         |some st2=>
          obtain⟨rfl,hl2,hfr⟩:=p1.ret st2 hvy;have hfr:=AA.mk hfr;clear p1;refine aw ?_;have hgr:=Ej p _ _ _ _ _ hvy;refine IH.out ((_,st2),_) ⟨N0 hf hid2.out ?_ hl2 hfr.out,NY hfit1 hgr,IP hgr.less hun,⟨?_⟩⟩
          .simp only[DO,ID,PU,IS,forall_eq];omega
          .rw[hv.out];simp only[DC,El,Ge,GG,hvy]
        .clear hf hfit1 hun hv hr1 hr2 i hi him g st1 c;rintro i ⟨⟨g,st1⟩,c⟩ hi him ⟨hf,hfit1,hun,hv⟩;dsimp only at*;refine aw ?_;refine⟨fun st' hst=>?_,fun hst=>?_⟩
         .rw[hv.out]at hst;cases hst;exact⟨rfl,hf.looks,hf.frame⟩
         .rw[hv.out]at hst;cases hst
     .have hno:AA (Cj p (k+1) n size st=none):=by
       refine⟨?_⟩;rw[hs.out,hinto.out,htd];split
       .rw[Ci (by simpa using hgt)]
       .rfl
      cases t
      .have hg:d.okG=false:=by simpa using hgt
       (repeat' (first|simp only[go_sem, *,Gn,LP,NN]|(refine sx ?_ ?_<;>intro hc)|refine sy (by omega) fun x hx hm=>?_|simp(disch:=first|assumption|omega) only[AN]))
       all_goals try(exfalso;omega)
       all_goals try(exact C7 hno.out)
       rw[La]
       (repeat' (first|simp only[go_sem, *,NN]|(refine sx ?_ ?_<;>intro hc)|refine sy (by omega) fun x hx hm=>?_|simp(disch:=first|assumption|omega) only[AN]))
       try exact C7 hno.out
      ·(repeat' (first|simp only[go_sem, *,Gn,LP]|(refine sx ?_ ?_<;>intro hc)|refine sy (by omega) fun x hx hm=>?_|simp(disch:=first|assumption|omega) only[AN]))
       all_goals try(exfalso;omega)
       all_goals (exact C7 hno.out)
    have hop:xo=1∨xo=7∨xo=3∨(xo=2∧3<(xa.length:Int))∨(xo=2∧ ¬3<(xa.length:Int))∨xo=5∨xo=6∨xo=8∨(¬xo=1∧ ¬xo=7∧ ¬xo=3∧ ¬xo=2∧ ¬xo=5∧ ¬xo=6∧ ¬xo=8):=by omega
    rcases hop with rfl|rfl|rfl|⟨rfl,ha⟩|⟨rfl,ha⟩|rfl|rfl|rfl|⟨n1,n2,n3,n4,n5,n6,n7⟩;all_goals ((repeat' (first|simp only[go_sem, *,Gn,LP]|(refine sx ?_ ?_<;>intro hc)|refine sy (by omega) fun x hx hm=>?_|simp(disch:=first|assumption|omega) only[AN])))
    all_goals try(exfalso;omega)
    all_goals try(exact C7 (hbad.out (by clear e1 e2 e3 e4 e5 e6 e7 e8 lbox lmt lsz hs hbad ih hn0;grind [Dn,FY,uY,JW])))
    all_goals
     refine AU xa _ (fun m i a=>⟨[(0,.ptr l 0),(2,.d (.int .i64 size)),(6,.ptr (0::46::π) 0),(154,.d (.ce (xa.map Bp))),(155,.d (.int .i64 m)),(156,.d (.int .i64 i))],a.1,a.2+60,[]⟩)
      (Inv:=fun i rest a=>nv p l sz mt df h π _ (st.meet n size) a.1∧AA (xa.all (Bt.ok size)=rest.all (Bt.ok size))) (b0:=(_,_)) ?_ ⟨hn0.out _ _,⟨rfl⟩⟩ ?_ ?_
     .omega
     .rintro i y ⟨g,c⟩ hy hi him ⟨hf,hr⟩ IH;dsimp only at*;try(exfalso;omega)
      all_goals ((repeat' (first|simp only[go_sem, *,ph]|(refine sx ?_ ?_<;>intro hc)|refine sy (by omega) fun x hx hm=>?_|simp(disch:=first|assumption|omega) only[AN])))
      all_goals first
      |exact C7 (hbad.out (by simp only[Dn,hr.out,F0, *,EL,I3]))
      |(refine IH.out (_,_) ⟨G1 (G1 hf hid2.out ?_) hid2.out ?_,⟨?_⟩⟩
        .intro q hq;cases As.1 hq;dsimp only;omega
        .intro q hq;cases As.1 hq;dsimp only;omega
        .rw[hr.out,F0];simp only[*,F1])
     .rintro i ⟨g,c⟩ hi him ⟨hf,hr⟩;dsimp only at*;have hnode:=hf.node _ (II ..);dsimp only at hnode;refine aw ?_;refine AU xk _ (fun m i a=>⟨[(0,.ptr l 0),(2,.d (.int .i64 size)),(220,.d (.ce (xk.map AL))),(221,.d (.int .i64 m)),(222,.d (.int .i64 i))],a.1.1,a.2+60,[]⟩)
       (Inv:=fun i rest a=>nv p l sz mt df h π _ a.1.2 a.1.1∧a.1.2.fit p∧J1 a.1.2.met≤k∧AA (Cj p (k+1) n size st=GG (Cj p k) (DC size rest) a.1.2)) (b0:=((_,st.meet n size),_)) ?_ ⟨hf,YD hfit _ _,?_,⟨?_⟩⟩ ?_ ?_
      .omega
      .have:=H5 ht;simp only[Bo.meet];omega
      .rw[hs.out,D1,VQ]
       .rfl
       .have hall:xa.all (Bt.ok size)=true:=by rw[hr.out];rfl
        clear e1 e2 e3 e4 e5 e6 e7 e8 lbox lmt lsz hs hbad ih hn0 hf hr hnode;grind [Dn,FY,uY,JW]
      .rintro i y ⟨⟨g,st1⟩,c⟩ hy hi him ⟨hf,hfit1,hun,hv⟩ IH;dsimp only at*;try(exfalso;omega)
       all_goals (refine aw ?_)
       all_goals
       refine AY (ih.out y size st1 g _ l sz mt df hun hfit1 h0 (by omega) (KI hid2.out _) hf.looks) (fun o1 g1 p1=>?_);cases hvy:Cj p k y size st1 with
       |none=>
        obtain rfl:=p1.f9 hvy;clear p1;refine aw ?_;refine C7 (hv.out.trans ?_);simp only[DC,El,GG,hvy]
       |some st2=>
        obtain⟨rfl,hl2,hfr⟩:=p1.ret st2 hvy;have hfr:=AA.mk hfr;clear p1;refine aw ?_;have hgr:=Ej p _ _ _ _ _ hvy;refine IH.out ((_,st2),_) ⟨N0 hf hid2.out ?_ hl2 hfr.out,NY hfit1 hgr,IP hgr.less hun,⟨?_⟩⟩
        .intro q hq;cases As.1 hq;dsimp only;omega
        .rw[hv.out];simp only[DC,El,GG,hvy]
      .rintro i ⟨⟨g,st1⟩,c⟩ hi him ⟨hf,hfit1,hun,hv⟩;dsimp only at*;refine aw ?_;refine⟨fun st' hst=>?_,fun hst=>?_⟩
       .rw[hv.out]at hst;cases hst;exact⟨rfl,hf.looks,hf.frame⟩
       .rw[hv.out]at hst;cases hst
  .have e:Cj p (k+1) n size st=none:=by
    rw[Cj];split
    .rename_i hh;have:=AH hh.2;rw[hfit.met]at this;omega
    .rfl
   rw[e];exact K9 p hN n size st h π l sz mt df hfit hid2.out hl2.out fun _ h=>absurd h hn2
 .have e:Cj p (k+1) n size st=none:=by
   rw[Cj,Ci fun hh=>hn hh.1]
  rw[e];exact K9 p hN n size st h π l sz mt df hfit hid2.out hl2.out fun h=>absurd h hn
def Si(x:Bool):List Bool→Int→Int
 |[],_=> -1
 |y::l,i=>if (x==y)=true then i else Si x l (i+1)
theorem Xy(v:Bool): ∀(l:List Bool) (i:Int),0≤i→(0≤Si v l i↔v∈l)
 |[],i,h=>by simp[Si]
 |y::l,i,h=>by
  rw[Si];split
  .rename_i e;have:v=y:=by simpa using e
   simp[this,h]
  .rename_i e;have: ¬v=y:=by simpa using e
   rw[Xy v l (i+1) (by omega)];simp[this]
@[go_sem] theorem ABZ(l:List Bool)(v:Bool)(hl:l.length≤1000000):BU (KL Tryz.prog cfg) 216 [.d (.ce (l.map DP)),.d (.bool v)] []=.ok (.ret (.d (.int .i64 (Si v l 0))),[]):=by
  (refine Ao rfl Tryz.func216 rfl rfl rfl ?_;show Wp _ _ _ _ (Tryz.f216.body.get rfl) _ _;simp only[Tryz.f216,AS])
  refine aw ?_;refine Cg l (S:=fun i (u:Unit)=>⟨[(0,.d (.ce (l.map DP))),(1,.d (.bool v)),(7,.d (.int .i64 l.length)),(8,.d (.int .i64 i))],[],0,[]⟩) (Inv:=fun i rest _=>AA (Si v l 0=Si v rest i)) (b0:=()) ⟨rfl⟩ ?_ ?_
  .rintro i y ⟨⟩ hy hi him hr IH
   (repeat' (first|simp only[go_sem, *]|(refine sx ?_ ?_<;>intro hc)|refine sy (by omega) fun x hx hm=>?_|simp(disch:=first|assumption|omega) only[AN]))
   .rw[hr.out,Si,D1 (by assumption)]
   .refine IH.out () ⟨?_⟩;rw[hr.out,Si,Ci (by simp[*])];rfl
  .rintro i ⟨⟩ hi him hr;refine aw ?_;rw[hr.out,Si]
@[go_sem] theorem KB(l:List Bool)(v:Bool)(hl:l.length≤1000000):BU (KL Tryz.prog cfg) 202 [.d (.ce (l.map DP)),.d (.bool v)] []=.ok (.ret (.d (.bool (decide (v∈l)))),[]):=by
  have h:=Xy v l 0 (by omega)
  (refine Ao rfl Tryz.func202 rfl rfl rfl ?_;show Wp _ _ _ _ (Tryz.f202.body.get rfl) _ _;simp only[Tryz.f202,AS])
  exact au
theorem Jt(g:G)(id:Abs.Id)(n:Nat)(h:0<n)(hm:n≤1073741824):FO g id n {kind:=TK.int,size:=1,agg:=false,str:=false,zero:=[.d (.int .i64 0)],flds:=[],elem:=0,key:=0,mix:=false}=some ⟨.f8 (1::id) 0 n,[(1::id,.d7 1 ((List.replicate n (0:Int)).map AL))]⟩:=by
 have e:(List.replicate n (0:Int)).map AL=List.replicate n [.int .i64 0]:=by rw[List.map_replicate];rfl
 rw[e];exact Tp (zs:=[.int .i64 0]) h (by unfold Az;omega) rfl rfl (by decide) rfl
theorem Oh(g:G)(id:Abs.Id)(n:Nat)(h:0<n)(hm:n≤1073741824):FO g id n {kind:=TK.bool,size:=1,agg:=false,str:=false,zero:=[.d (.bool false)],flds:=[],elem:=0,key:=0,mix:=false}=some ⟨.f8 (1::id) 0 n,[(1::id,.d7 1 ((List.replicate n false).map DP))]⟩:=by
 have e:(List.replicate n false).map DP=List.replicate n [.bool false]:=by rw[List.map_replicate];rfl
 rw[e];exact Tp (zs:=[.bool false]) h (by unfold Az;omega) rfl rfl (by decide) rfl
theorem GV(i t j:Nat)(π:List Nat)(h:i≠j):Id.under (i::π) (t::j::π)=false:=Dw fun hs=>by
 rcases HM.1 hs with e|hs
 .have:=congrArg List.length e;simp at this
 rcases HM.1 hs with e|hs
 .simp only[Md,and_true]at e;exact h e
 .have:=hs.length_le;simp at this;omega
theorem ur(l:List Bool):l.all id=true↔ ¬false∈l:=by
 induction l with
 |nil=>simp
 |cons b l ih=>cases b<;>simp
theorem X8{p:AI}(hs:p.small=true)(hf:Qz p.free=true)(hv:Cj p (p.nodes.length+1) p.main p.free.length (Bo.init p)=some st):looks p=if (¬false∈st.met)∧(¬false∈st.defs)then some st else none:=by
 unfold looks;rw[D1 ⟨hs,hf⟩,hv];simp only[ur]
theorem tU{id:Abs.Id}{n:Nat}(h:n=0):slv id n=.emp:=by rw[slv,D1 h]
@[go_sem] theorem uX(v:Bool):BU (KL Tryz.prog cfg) 202 [.d (.ce []),.d (.bool v)] []=.ok (.ret (.d (.bool false)),[]):=by
  have:=KB [] v (by simp);simpa using this
structure nq(p:AI)(π:List Nat)(r:AZ×AB):Prop where
 f9:looks p=none→r=(.f9 Ga,[])
 ret: ∀st,looks p=some st→ ∃h,r=(.ret (.ptr (0::16::π) 0),h)∧H7 h p (0::16::π) (1::6::π) (1::10::π) (1::14::π) st∧ ∀id',Id.under π id'=false→h.get id'=none
theorem xA(p:AI)(hp: ∀s∈p.free,s.size≤maxLen)(k:Nat)(ρ:List Nat): ∃r:AZ×AB,BU (KL Tryz.prog cfg) 190 [.agg [.d (.ce (p.free.map CM)),.d (.ce (p.nodes.map Bg)),.d (.ce (p.defs.map CX)),.d (.int .i64 p.main)]] (k::ρ)=.ok r∧nq p (k::ρ) r:=by
 have hp:=AA.mk hp;by_cases hs:p.small=true
 ·(refine Gp rfl Tryz.func190 rfl rfl rfl ?_;show Wp _ _ _ _ (Tryz.f190.body.get rfl) _ _;simp only[Tryz.f190,AS])
  have hs2:=AA.mk hs;simp only[AI.small,AP,Ap]at hs;obtain⟨c1,c2,c3⟩:=hs;have c1:(p.free.length:Int)≤12:=by omega
  have c2:(p.nodes.length:Int)≤60:=by omega
  have c3:(p.defs.length:Int)≤12:=by omega
  refine aw ?_;refine AU p.free _ (S:=fun m i (u:Unit)=>⟨[(1,.ptr (0::0::k::ρ) 0),(24,.d (.ce (p.free.map CM))),(25,.d (.int .i64 m)),(26,.d (.int .i64 i))],[(0::0::k::ρ,.box [.d (.ce (p.free.map CM)),.d (.ce (p.nodes.map Bg)),.d (.ce (p.defs.map CX)),.d (.int .i64 p.main)])],1,[]⟩)
   (Inv:=fun i rest _=>AA (Qz p.free=K1 (if i=0 then none else p.free[i-1]?) rest)) (b0:=()) rfl ⟨rfl⟩ ?_ ?_
  .rintro i y ⟨⟩ hy hi him hr IH;have hys:=hp.out y (Ac hy);have hnm:=yX y hys;have hbad:AA (Qz p.free=false→looks p=none):=.mk fun hf=>by
    rw[looks,Ci (by rw[hf];simp)]
   rcases i with _|j
   .rw[D1 rfl]at hr;have him0:(0:Int)<p.free.length:=by omega
    (repeat' (first|simp only[go_sem, *]|(refine sx ?_ ?_<;>intro hc)|refine sy (by omega) fun x hx hm=>?_|simp(disch:=first|assumption|omega) only[AN]))
    all_goals first
    |(exact⟨fun _=>rfl,fun st hst=>by rw[hbad.out (by rw[hr.out,K1];simp only[*,EL])]at hst;cases hst⟩)
    |(refine IH.out () ⟨?_⟩
      rw[hr.out,K1,Ci (by omega)];simp only[*,F1];try rfl)
   .obtain⟨b,hb⟩:=get_some (l:=p.free) (i:=j) (by omega);rw[Ci (by omega),Nat.add_sub_cancel,hb]at hr;have w:IntKind.i64.wrap (((j+1:Nat):Int)-1)=(j:Int):=by rw[wrap_id (by omega) (by omega)];omega
    have w0: ¬((j+1:Nat):Int)=0:=by omega
    (repeat' (first|simp only[go_sem, *]|(refine sx ?_ ?_<;>intro hc)|refine sy (by omega) fun x hx hm=>?_|simp(disch:=first|assumption|omega) only[AN]))
    .refine IH.out () ⟨?_⟩;rw[hr.out,K1,Ci (by omega),Nat.add_sub_cancel,hy];simp only[tg, *,F1]
    .exact⟨fun _=>rfl,fun st hst=>by rw[hbad.out (by rw[hr.out,K1];simp only[tg, *,EL,I3])]at hst;cases hst⟩
    .exact⟨fun _=>rfl,fun st hst=>by rw[hbad.out (by rw[hr.out,K1];simp only[*,EL])]at hst;cases hst⟩
  .rintro i ⟨⟩ hi him hr;have hfree:AA (Qz p.free=true):=⟨hr.out⟩;clear hr;by_cases hN0:p.nodes.length=0
   .have e:looks p=none:=by
     unfold looks;split
     .have:Cj p (p.nodes.length+1) p.main p.free.length (Bo.init p)=none:=by
       rw[Cj,Ci];intro hh;have:=AH hh.2;simp[Bo.init]at this;omega
      rw[this]
     .rfl
    by_cases hD0:p.defs.length=0;all_goals
     (repeat' (first|simp only[go_sem, *]|(refine sx ?_ ?_<;>intro hc)|refine sy (by omega) fun x hx hm=>?_|simp(disch:=first|assumption|omega) only[AN,Jt,Oh]))
     refine AY (K9 p (by omega) p.main p.free.length (Bo.init p) _ _ (0::16::k::ρ) (1::6::k::ρ) (1::10::k::ρ) (1::14::k::ρ) ⟨?_,?_,?_⟩ ?_ ⟨?_,fun h=>absurd hN0 h,fun h=>absurd hN0 h,fun _=>?_⟩ ?_) (fun o1 g1 p1=>?_)
     .simp[Bo.init]
     .simp[Bo.init]
     .simp[Bo.init]
     .constructor<;>first|exact GV _ _ _ _ (by decide)|simp only[go_sem]
     .simp only[slv,hN0,hD0,Ex,F5];simp only[go_sem]
     .first|(exact absurd hD0 ‹_›)|simp only[go_sem,Bo.init]
     .omega
     obtain rfl:=p1.f9 rfl;clear p1;refine aw ?_;exact⟨fun _=>rfl,fun st hst=>by rw[e]at hst;cases hst⟩
   .by_cases hD0:p.defs.length=0
    ·(repeat' (first|simp only[go_sem, *]|(refine sx ?_ ?_<;>intro hc)|refine sy (by omega) fun x hx hm=>?_|simp(disch:=first|assumption|omega) only[AN,Jt,Oh]))
     refine AY (fH p (by omega) (by omega) (p.nodes.length+1) p.main p.free.length (Bo.init p) _ _ (0::16::k::ρ) (1::6::k::ρ) (1::10::k::ρ) (1::14::k::ρ) ?_ ⟨?_,?_,?_⟩ ?_ ?_ ?_ ⟨?_,fun _=>?_,fun _=>?_,fun _=>?_⟩) (fun o1 g1 p1=>?_)
     .have:=SB (Bo.init p).met;simp only[Bo.init,Lc]at*;omega
     .simp[Bo.init]
     .simp[Bo.init]
     .simp[Bo.init]
     .omega
     .omega
     .constructor<;>first|exact GV _ _ _ _ (by decide)|simp only[go_sem]
     .simp only[slv,hN0,hD0,Ex,F5];simp only[go_sem]
     .simp only[go_sem,Bo.init]
     .simp only[go_sem,Bo.init]
     .exact absurd hD0 ‹_›
     cases hv:Cj p (p.nodes.length+1) p.main p.free.length (Bo.init p)with
     |none=>
      obtain rfl:=p1.f9 hv;have e:looks p=none:=by
       unfold looks;rw[hv];split<;>rfl
      clear p1;refine aw ?_;exact⟨fun _=>rfl,fun st hst=>by rw[e]at hst;cases hst⟩
     |some st=>
      obtain⟨rfl,hl,hfr⟩:=p1.ret st hv;clear p1;have hfr:=AA.mk hfr;have hlk: ∃x,looks p=x:=⟨_,rfl⟩;obtain⟨x,hlk⟩:=hlk;have hlk:=AA.mk hlk;have hL:=K4 (ρ:=24::k::ρ) hl (by constructor<;>first|exact GV _ _ _ _ (by decide)|simp only[go_sem]);have hL:=AA.mk hL;obtain⟨b1,b2,b3,b4⟩:=hl;have b2:=b2 hN0;have b3:=b3 hN0;rw[DF hN0,DF hN0,tU hD0]at b1;have hg:=Ej p _ _ _ _ _ hv;have m1:st.met.length=p.nodes.length:=by rw[hg.met];simp[Bo.init]
      have m2:st.defs.length=p.defs.length:=by rw[hg.defs];simp[Bo.init]
      have gu: ∀(t j:Nat),24≠j→(gc (24::k::ρ) g1).get (t::j::k::ρ)=g1.get (t::j::k::ρ):=fun t j hj=>Al _ _ _ (GV _ _ _ _ hj);have q1:=(gu 0 16 (by decide)).trans b1;have q2:=(gu 1 6 (by decide)).trans b2;have q3:=(gu 1 10 (by decide)).trans b3;clear gu;have tk1:List.take p.nodes.length (List.map DP st.met)=List.map DP st.met:=DL (by simp[m1]);have dn:st.defs=[]:=Dl (by omega)
      (repeat' (first|simp only[go_sem, *,D6,q1,q2,q3]|(refine sx ?_ ?_<;>intro hc)|refine sy (by omega) fun x hx hm=>?_|simp(disch:=first|assumption|omega) only[AN,KB]))
      all_goals (have hlk:=hlk.out;subst hlk)
      all_goals (have hlk:=X8 hs2.out hfree.out hv)
      all_goals first
      |(refine⟨fun _=>rfl,fun st' hst=>?_⟩
        rw[hlk,Ci (by simp[*])]at hst;cases hst)
      |(refine⟨fun hst=>?_,fun st' hst=>?_⟩
        .rw[hlk,D1 (by simp[*])]at hst;cases hst
        .rw[hlk,D1 (by simp[*])]at hst;cases hst;refine⟨_,rfl,hL.out,fun id' hu=>?_⟩;have hu1:=AG hu;rw[Al _ _ _ (AF hu _),hfr.out id' (AF hu _) (hu1 _ _) (hu1 _ _) (hu1 _ _)];simp only[go_sem,hu1,AM])
    ·(repeat' (first|simp only[go_sem, *]|(refine sx ?_ ?_<;>intro hc)|refine sy (by omega) fun x hx hm=>?_|simp(disch:=first|assumption|omega) only[AN,Jt,Oh]))
     refine AY (fH p (by omega) (by omega) (p.nodes.length+1) p.main p.free.length (Bo.init p) _ _ (0::16::k::ρ) (1::6::k::ρ) (1::10::k::ρ) (1::14::k::ρ) ?_ ⟨?_,?_,?_⟩ ?_ ?_ ?_ ⟨?_,fun _=>?_,fun _=>?_,fun _=>?_⟩) (fun o1 g1 p1=>?_)
     .have:=SB (Bo.init p).met;simp only[Bo.init,Lc]at*;omega
     .simp[Bo.init]
     .simp[Bo.init]
     .simp[Bo.init]
     .omega
     .omega
     .constructor<;>first|exact GV _ _ _ _ (by decide)|simp only[go_sem]
     .simp only[slv,hN0,hD0,Ex];simp only[go_sem]
     .simp only[go_sem,Bo.init]
     .simp only[go_sem,Bo.init]
     .simp only[go_sem,Bo.init]
     cases hv:Cj p (p.nodes.length+1) p.main p.free.length (Bo.init p)with
     |none=>
      obtain rfl:=p1.f9 hv;have e:looks p=none:=by
       unfold looks;rw[hv];split<;>rfl
      clear p1;refine aw ?_;exact⟨fun _=>rfl,fun st hst=>by rw[e]at hst;cases hst⟩
     |some st=>
      obtain⟨rfl,hl,hfr⟩:=p1.ret st hv;clear p1;have hfr:=AA.mk hfr;have hlk: ∃x,looks p=x:=⟨_,rfl⟩;obtain⟨x,hlk⟩:=hlk;have hlk:=AA.mk hlk;have hL:=K4 (ρ:=24::k::ρ) hl (by constructor<;>first|exact GV _ _ _ _ (by decide)|simp only[go_sem]);have hL:=AA.mk hL;obtain⟨b1,b2,b3,b4⟩:=hl;have b2:=b2 hN0;have b3:=b3 hN0;have b4:=b4 hD0;rw[DF hN0,DF hN0,DF hD0]at b1;have hg:=Ej p _ _ _ _ _ hv;have m1:st.met.length=p.nodes.length:=by rw[hg.met];simp[Bo.init]
      have m2:st.defs.length=p.defs.length:=by rw[hg.defs];simp[Bo.init]
      have gu: ∀(t j:Nat),24≠j→(gc (24::k::ρ) g1).get (t::j::k::ρ)=g1.get (t::j::k::ρ):=fun t j hj=>Al _ _ _ (GV _ _ _ _ hj);have q1:=(gu 0 16 (by decide)).trans b1;have q2:=(gu 1 6 (by decide)).trans b2;have q3:=(gu 1 10 (by decide)).trans b3;have q4:=(gu 1 14 (by decide)).trans b4;clear gu;have tk1:List.take p.nodes.length (List.map DP st.met)=List.map DP st.met:=DL (by simp[m1]);have tk2:List.take p.defs.length (List.map DP st.defs)=List.map DP st.defs:=DL (by simp[m2])
      (repeat' (first|simp only[go_sem, *,D6,q1,q2,q3,q4]|(refine sx ?_ ?_<;>intro hc)|refine sy (by omega) fun x hx hm=>?_|simp(disch:=first|assumption|omega) only[AN,KB]))
      all_goals (have hlk:=hlk.out;subst hlk)
      all_goals (have hlk:=X8 hs2.out hfree.out hv)
      all_goals first
      |(refine⟨fun _=>rfl,fun st' hst=>?_⟩
        rw[hlk,Ci (by simp[*])]at hst;cases hst)
      |(refine⟨fun hst=>?_,fun st' hst=>?_⟩
        .rw[hlk,D1 (by simp[*])]at hst;cases hst
        .rw[hlk,D1 (by simp[*])]at hst;cases hst;refine⟨_,rfl,hL.out,fun id' hu=>?_⟩;have hu1:=AG hu;rw[Al _ _ _ (AF hu _),hfr.out id' (AF hu _) (hu1 _ _) (hu1 _ _) (hu1 _ _)];simp only[go_sem,hu1,AM])
 .have e:looks p=none:=by
   unfold looks;rw[Ci fun h=>hs h.1]
  have hs: ¬(p.free.length≤12∧p.nodes.length≤60∧p.defs.length≤12):=by
   intro h;apply hs;simp only[AI.small,AP,Ap];exact h
  have hs:=AA.mk hs
  (refine Gp rfl Tryz.func190 rfl rfl rfl ?_;show Wp _ _ _ _ (Tryz.f190.body.get rfl) _ _;simp only[Tryz.f190,AS])
  (repeat' (first|simp only[go_sem, *]|(refine sx ?_ ?_<;>intro hc)|refine sy (by omega) fun x hx hm=>?_|simp(disch:=first|assumption|omega) only[AN]))
  all_goals first
  |exact⟨fun _=>rfl,fun st hst=>by rw[e]at hst;cases hst⟩
  |(have hs:=hs.out;exfalso;omega)
def VD(b:Bool):List AR:=[.int .i64 (if b then 1 else 0)]
theorem pd:VD true=[.int .i64 1]:=rfl
theorem pc:VD false=[.int .i64 0]:=rfl
attribute [go_sem] pd pc
def ACO(p:AI)(sz ow us:Abs.Id)(bad:Bool):Abs.Obj:=.box [.d (.ce (p.free.map CM)),.d (.ce (p.nodes.map Bg)),.d (.ce (p.defs.map CX)),.d (.int .i64 p.main),slv sz p.nodes.length,slv ow p.nodes.length,slv us p.defs.length,.d (.bool bad)]
structure Zc(h:AB)(p:AI)(l sz ow us:Abs.Id)(st:Bo)(bad:Bool):Prop where
 box:h.get l=some (ACO p sz ow us bad)
 ci:bad=false→p.nodes.length≠0→h.get sz=some (.d7 1 (st.ci.map AL))
 met:bad=false→p.nodes.length≠0→h.get ow=some (.d7 1 (st.met.map VD))
 defs:bad=false→p.defs.length≠0→h.get us=some (.d7 1 (st.defs.map VD))
 ks:p.nodes.length≠0→ ∃A,h.get sz=some (.d7 1 A)
 km:p.nodes.length≠0→ ∃A,h.get ow=some (.d7 1 A)
 kd:p.defs.length≠0→ ∃A,h.get us=some (.d7 1 A)
theorem Zc.any{p:AI}{sz ow us:Abs.Id}{st0:Bo}(hl:Zc h p l sz ow us st true):Zc h p l sz ow us st0 true:=⟨hl.box,fun h=>(by cases h),fun h=>(by cases h),fun h=>(by cases h),hl.ks,hl.km,hl.kd⟩
theorem tR{p:AI}{sz mt:Abs.Id}{i:Nat}{s:Int}(hl:H7 h p l sz mt df st)(hi:i<p.nodes.length)(hs:st.ci[i]? =some s)(hz:st.ci.length=p.nodes.length)(π:List Nat):KL Tryz.prog cfg (.fn 166) [.ptr l 0,.d (.int .i64 i)] h π true none=.ok (.ret (.d (.int .i64 s)),h):=by
 obtain⟨b1,b2,b3,b4⟩:=hl;have hN:p.nodes.length≠0:=by omega
 have b2:=b2 hN;rw[DF hN,DF hN]at b1;refine ABh rfl Tryz.func166 rfl rfl rfl ?_;show Wp _ _ _ _ (Tryz.f166.body.get rfl) _ _;simp only[Tryz.f166,AS];exact au
theorem Js{p:AI}{sz mt:Abs.Id}{g:AB}(hf:H7 g p l sz mt df st)(hi:uk π l sz mt df)(t j:Nat)(o:Abs.Obj):H7 (g.put (t::j::π) o) p l sz mt df st:=
 ⟨by rw[get_put,AG hi.ul];exact hf.box,fun hn=>by rw[get_put,AG hi.us];exact hf.ci hn,fun hn=>by rw[get_put,AG hi.um];exact hf.met hn,fun hn=>by rw[get_put,AG hi.ud];exact hf.defs hn⟩
theorem uo(p:AI)(hN:p.nodes.length≤60)(st:Bo)(h:AB)(π:List Nat)(l sz mt df a b:Abs.Id)(hl:H7 h p l sz mt df st)(hz:st.ci.length=p.nodes.length)(hid:uk π l sz mt df)
 (ha:h.get a=some (.box [.d (.ce (p.free.map CM)),.d (.ce (p.nodes.map Bg)),.d (.ce (p.defs.map CX)),.d (.int .i64 p.main)])) (hb:h.get b=some (.box [.fn 166 [] []])) (ua:Id.under π a=false) (ub:Id.under π b=false) (hp:0<p.nodes.length):
 ∃o h',KL Tryz.prog cfg (.fn 187) [.ptr l 0,.ptr a 0,.ptr b 0] h π true none=.ok (o,h')∧(∃j,o=.ret (.f8 (1::j::π) 0 p.nodes.length)∧h'.get (1::j::π)=some (.d7 1 (st.ci.map AL)))∧ ∀id',Id.under π id'=false→h'.get id'=h.get id':=by
 (refine Af rfl Tryz.func187 rfl rfl rfl ?_;show Wp _ _ _ _ (Tryz.f187.body.get rfl) _ _;simp only[Tryz.f187,AS])
 have hid:=AA.mk hid;have hl:=AA.mk hl;have hz2:=AA.mk hz;have u1:=AG ub;have u2:=AF ub;refine aw ?_;refine AU st.ci _ (fun m i a=>⟨[(0,.ptr l 0),(2,.ptr b 0),(5,a.1.2),(9,.d (.int .i64 m)),(10,.d (.int .i64 i))],a.1.1,a.2+6,[]⟩)
  (Inv:=fun i rest a=>AA (H7 a.1.1 p l sz mt df st)∧a.1.1.get b=some (.box [.fn 166 [] []])∧AA (∀id',Id.under π id'=false→a.1.1.get id'=h.get id')∧AA (i=0∧a.1.2=.co∨ ∃j,j<a.2+6∧a.1.2=.f8 (1::j::π) 0 i∧a.1.1.get (1::j::π)=some (.d7 1 ((st.ci.take i).map AL)))) (b0:=((h,.co),0)) ?_ ⟨hl,hb,⟨fun _ _=>rfl⟩,⟨.inl ⟨rfl,rfl⟩⟩⟩ ?_ ?_
 .omega
 .rintro i y ⟨⟨g,v⟩,c⟩ hy hi him ⟨hl,hb,hfr,hv⟩ IH;dsimp only at*;have hk:=fun ρ=>tR hl.out (by omega) hy hz ρ;rcases hv.out with⟨rfl,rfl⟩|⟨j,hj,rfl,hj2⟩
  .clear hv;have him0:(0:Int)<p.nodes.length:=by omega
   have hk: ∀ρ,KL Tryz.prog cfg (.fn 166) [.ptr l 0,.d (.int .i64 0)] g ρ true none=.ok (.ret (.d (.int .i64 y)),g):=hk;refine aw ?_;refine IH.out ((_,_),_) ⟨⟨Js (Js (K4 hl.out (KI hid.out _)) hid.out _ _ _) hid.out _ _ _⟩,?_,⟨fun id' hu=>?_⟩,⟨.inr ⟨_,?_,rfl,?_⟩⟩⟩
   .simp only[go_sem,u1,u2,hb]
   .have hu1:=AG hu;have hu2:=AF hu;simp only[go_sem,hu1,hu2,hfr.out id' hu,AM]
   .omega
   .simp only[go_sem];rw[I7,hy];rfl
  .clear hv;have n1: ¬c+13=j:=by omega
   have n2: ¬c+14=j:=by omega
   have n3: ¬c+15=j:=by omega
   have tk:(st.ci.take i).length=i:=by simp;omega
   have nle: ¬i+1≤i:=by omega
   (repeat' (first|simp only[go_sem, *,D6]|(refine sx ?_ ?_<;>intro hc)|refine sy (by omega) fun x hx hm=>?_|simp(disch:=first|assumption|omega) only[AN]))
   refine IH.out ((_,_),_) ⟨⟨Js (Js (Js (K4 hl.out (KI hid.out _)) hid.out _ _ _) hid.out _ _ _) hid.out _ _ _⟩,?_,⟨fun id' hu=>?_⟩,⟨.inr ⟨_,?_,rfl,?_⟩⟩⟩
   .simp only[go_sem,u1,u2,hb]
   .have hu1:=AG hu;have hu2:=AF hu;simp only[go_sem,hu1,hu2,hfr.out id' hu,AM]
   .omega
   .simp only[go_sem];have:List.take i (List.map AL (List.take i st.ci))=List.map AL (List.take i st.ci):=DL (by simp;omega);rw[this,I7,hy,By];rfl
 .rintro i ⟨⟨g,v⟩,c⟩ hi him ⟨hl,hb,hfr,hv⟩;dsimp only at*;rcases hv.out with⟨rfl,rfl⟩|⟨j,hj,rfl,hj2⟩
  .exfalso;omega
  .clear hv;refine aw ?_;have hiN:=hi.out;refine⟨⟨_,by rw[hiN,hz],?_⟩,hfr.out⟩;rw[hj2,hiN,EM]
theorem Ds(i t j k:Nat)(π:List Nat)(h:i≠k):Id.under (i::π) (t::j::k::π)=false:=Dw fun hs=>by
 rcases HM.1 hs with e|hs
 .have:=congrArg List.length e;simp at this
 rcases HM.1 hs with e|hs
 .have:=congrArg List.length e;simp at this
 rcases HM.1 hs with e|hs
 .simp only[Md,and_true]at e;exact h e
 .have:=hs.length_le;simp at this;omega
theorem kL{g:AB}{p:AI}{sz mt:Abs.Id}(hl:H7 g p l sz mt df st):H7 (g++h) p l sz mt df st:=⟨Cx hl.box,fun hn=>Cx (hl.ci hn),fun hn=>Cx (hl.met hn),fun hn=>Cx (hl.defs hn)⟩
structure Zb(p:AI)(o:AZ)(h':AB):Prop where
 no:looks p=none→o=.ret (.it [.co,.d (.int .i64 2)])
 yes: ∀st,looks p=some st→ ∃id,o=.ret (.it [.f8 (1::id) 0 p.nodes.length,.d (.int .i64 0)])∧h'.get (1::id)=some (.d7 1 (st.ci.map AL))
theorem kK(p:AI)(hp: ∀s∈p.free,s.size≤maxLen)(h:AB)(π:List Nat)(a b:Abs.Id)
 (ha:h.get a=some (.box [.d (.ce (p.free.map CM)),.d (.ce (p.nodes.map Bg)),.d (.ce (p.defs.map CX)),.d (.int .i64 p.main)])) (hb:h.get b=some (.box [.fn 166 [] []])) (ua:Id.under π a=false) (ub:Id.under π b=false):
 ∃o h',KL Tryz.prog cfg (.fn 186) [.agg [.d (.ce (p.free.map CM)),.d (.ce (p.nodes.map Bg)),.d (.ce (p.defs.map CX)),.d (.int .i64 p.main)],.fn 187 [] [.ptr a 0,.ptr b 0]] h π true none=.ok (o,h')∧Zb p o h':=by
 (refine Af rfl Tryz.func186 rfl rfl rfl ?_;show Wp _ _ _ _ (Tryz.f186.body.get rfl) _ _;simp only[Tryz.f186,AS])
 have hp:=AA.mk hp;have u1:=AG ua;have u2:=AF ua;have v1:=AG ub;have v2:=AF ub;obtain⟨r,e,hpost⟩:=xA p hp.out 6 π;cases hlk:looks p with
 |none=>
  obtain rfl:=hpost.f9 hlk;refine aw ?_;exact⟨fun _=>rfl,fun st hst=>by rw[hlk]at hst;cases hst⟩
 |some st=>
  obtain⟨hh,rfl,hL,hnew⟩:=hpost.ret st hlk;replace hnew:=AA.mk hnew;replace hL:=AA.mk hL;have hF:=AA.mk (Et hlk);have hz:=hF.out.len;have hsm:=hF.out.small;simp only[AI.small,AP,Ap]at hsm;have hN:0<p.nodes.length:=by
   have h1:=hF.out.main.2;have:=AH h1;omega
  refine aw ?_;refine AY (uo p hsm.2.1 st _ _ (0::16::6::π) (1::6::6::π) (1::10::6::π) (1::14::6::π) a b (kL hL.out) hz ?_ ?_ ?_ (u2 _) (v2 _) hN) (fun o1 g1 p1=>?_)
  .constructor<;>first|exact Ds _ _ _ _ _ (by decide)|simp only[go_sem]
  .rw[BH (hnew.out a (u2 _))];simp only[go_sem,u1,ha,AM]
  .rw[BH (hnew.out b (v2 _))];simp only[go_sem,v1,hb,AM]
  obtain⟨⟨j,rfl,r1⟩,fr⟩:=p1;have r2:=fr (0::2::π) (GV _ _ _ _ (by decide));rw[BH (hnew.out (0::2::π) (GV _ _ _ _ (by decide)))]at r2;simp only[get_put,is_self,F5]at r2;replace fr:=AA.mk fr;refine aw ?_;refine⟨fun hst=>by{rw[hlk]at hst;cases hst},fun st' hst=>?_⟩;rw[hlk]at hst;cases hst;exact⟨_,rfl,by simp only[go_sem,r1]⟩
def Jd:Option Bo→AV
 |none=>.it [.d (.ce []),.d (.int .i64 2)]
 |some st=>.it [.d (.ce (st.ci.map AL)),.d (.int .i64 0)]
theorem vR(p:AI)(hp: ∀s∈p.free,s.size≤maxLen):BU (KL Tryz.prog cfg) 165 [.agg [.d (.ce (p.free.map CM)),.d (.ce (p.nodes.map Bg)),.d (.ce (p.defs.map CX)),.d (.int .i64 p.main)],.fn 166 [] []] []=.ok (.ret (Jd (looks p)),[]):=by
 replace hp:=AA.mk hp
 (refine Ao rfl Tryz.func165 rfl rfl rfl ?_;show Wp _ _ _ _ (Tryz.f165.body.get rfl) _ _;simp only[Tryz.f165,AS])
 refine aw ?_;refine AY (kK p hp.out _ _ _ _ ?_ ?_ ?_ ?_) (fun o1 g1 p1=>?_)
 .simp only[go_sem]
 .simp only[go_sem]
 .simp only[go_sem]
 .simp only[go_sem]
 cases hlk:looks p with
 |none=>
  obtain rfl:=p1.no hlk;clear p1
  (repeat' (first|simp only[go_sem, *,Jd]|(refine sx ?_ ?_<;>intro hc)|refine sy (by omega) fun x hx hm=>?_|simp(disch:=first|assumption|omega) only[AN]))
 |some st=>
  obtain⟨id,rfl,r1⟩:=p1.yes st hlk;clear p1;have hz:=(Et hlk).len;have tk1:List.take p.nodes.length (List.map AL st.ci)=List.map AL st.ci:=DL (by simp[hz])
  (repeat' (first|simp only[go_sem, *,Jd,D6]|(refine sx ?_ ?_<;>intro hc)|refine sy (by omega) fun x hx hm=>?_|simp(disch:=first|assumption|omega) only[AN]))
theorem oB(p:AI)(hp: ∀s∈p.free,s.size≤maxLen):BU (KL Tryz.prog cfg) 109 [.agg [.d (.ce (p.free.map CM)),.d (.ce (p.nodes.map Bg)),.d (.ce (p.defs.map CX)),.d (.int .i64 p.main)]] []=.ok (.ret (Jd (looks p)),[]):=by
 have hk:=vR p hp;clear hp
 (refine Ao rfl Tryz.func109 rfl rfl rfl ?_;show Wp _ _ _ _ (Tryz.f109.body.get rfl) _ _;simp only[Tryz.f109,AS])
 cases hlk:looks p with
 |none=>
  rw[hlk,Jd]at hk
  (repeat' (first|simp only[go_sem, *,Jd]|(refine sx ?_ ?_<;>intro hc)|refine sy (by omega) fun x hx hm=>?_|simp(disch:=first|assumption|omega) only[AN]))
 |some st=>
  rw[hlk,Jd]at hk
  (repeat' (first|simp only[go_sem, *,Jd]|(refine sx ?_ ?_<;>intro hc)|refine sy (by omega) fun x hx hm=>?_|simp(disch:=first|assumption|omega) only[AN]))
def st0:Bo:=⟨[],[],[]⟩
theorem y6(t:Bool):Bf (CA 2) t=.ok (HQ (CA 2) t):=SG _ _
theorem P1{l:List A7}{i:Int}{s:A7}(h:l[i.toNat]? =some s):A5 l i=s.un:=by simp[A5,h]
theorem yu(l:List A7)(hl:l.length≤1000):BU (KL Tryz.prog cfg) 61 [.d (.ce (l.map Aj))] []=Bf (CA 2) (Iu l):=by
 rw[y6]
 (refine Ao rfl Tryz.func61 rfl rfl rfl ?_;show Wp _ _ _ _ (Tryz.f61.body.get rfl) _ _;simp only[Tryz.f61,AS])
 by_cases h0:(0:Int)<l.length
 .obtain⟨s0,hs0⟩:=get_some (l:=l) (i:=0) (by omega);have hp0:A5 l 0=s0.un:=P1 hs0
  (repeat' (first|simp only[go_sem, *]|(refine sx ?_ ?_<;>intro hc)|refine sy (by omega) fun x hx hm=>?_|simp(disch:=first|assumption|omega) only[AN]))
  .refine AU l _ (S:=fun m i (_:Unit)=>⟨[(0,.d (.ce (l.map Aj))),(17,.d (.int .i64 m)),(18,.d (.int .i64 i))],[],0,[]⟩)
    (Inv:=fun i rest _=>AA (Iu l=IE l i rest.length)) (b0:=()) rfl ⟨?_⟩ ?_ ?_
   .simp only[Iu];rw[D7 (show 0<l.length by omega),D7 (show A5 l 0= -1 by rw[hp0];assumption)];rfl
   .rintro i y _ hy hi him hr IH;rw[List.length_cons,IE]at hr;refine aw ?_;have hr0:=hr;refine rounds (S:=fun a:Int×Nat=>⟨[(0,.d (.ce (l.map Aj))),(3,.d (.int .i64 (a.1))),(4,.d (.int .i64 (a.2))),(17,.d (.int .i64 (l.length))),(18,.d (.int .i64 (i)))],[],0,[]⟩)
     (Inv:=fun a=>En l a.1∧a.2≤l.length∧AA (BA l l.length i=BA l (l.length-a.2) a.1)) (m:=fun a=>l.length+1-a.2) (a:=(i,0)) ⟨⟨by omega,by omega⟩,by omega,⟨rfl⟩⟩ ?_
    rintro⟨at_,n⟩ ⟨⟨hr1,hr2⟩,hn,hcl⟩ IH2;dsimp only at*;have hlt:at_.toNat<l.length:=by omega
    obtain⟨s,hs⟩:=get_some hlt;have hps:=AA.mk (P1 hs)
    (repeat' (first|simp only[go_sem, *]|(refine sx ?_ ?_<;>intro hc)|refine sy (by omega) fun x hx hm=>?_|simp(disch:=first|assumption|omega) only[AN]))
    .refine IH.out () ⟨?_⟩;rw[hr.out,hcl.out,show at_=0 by assumption,FW,F1]
    .refine IH2.out (s.un,n+1) (by dsimp only;omega) ⟨⟨by assumption,by assumption⟩,by dsimp only;omega,⟨?_⟩⟩;dsimp only;rw[hcl.out];obtain⟨j,hj⟩: ∃j,l.length-n=j+1:=⟨l.length-n-1,by omega⟩;rw[hj,show l.length-(n+1)=j by omega,BA,hps.out];simp only[D4 (show¬at_=0 by assumption),It];rw[D7 (show En l s.un from⟨by assumption,by assumption⟩),F1]
    all_goals
     have hf:Iu l=false:=by
      rw[hr0.out,hcl.out];rcases Nat.eq_zero_or_pos (l.length-n)with hz|hz
      .rw[hz,BA];simp only[D4 (show¬at_=0 by assumption),EL]
      .obtain⟨j,hj⟩: ∃j,l.length-n=j+1:=⟨l.length-n-1,by omega⟩;rw[hj,BA,hps.out];simp only[D4 (show¬at_=0 by assumption),It];rw[D4 (show¬En l s.un from fun h=>by have:=h.1;have:=h.2;omega),EL,EL]
     rw[hf];rfl
   .rintro i _ hi him hr;refine aw ?_;rw[hr.out];rfl
  .have:Iu l=false:=by
    simp only[Iu,hp0,D4 (show¬s0.un= -1 by assumption),EL,I3]
   rw[this];rfl
 .have:Iu l=false:=by simp[Iu];omega
  rw[this];refine aw ?_;rfl
theorem Ub(l:List A7)(b a:Int)(hl:l.length≤1000)(ht:Fu l)(hb:En l b)(ha:0≤a):BU (KL Tryz.prog cfg) 63 [.d (.ce (l.map Aj)),.d (.int .i64 (b)),.d (.int .i64 (a))] []=.ok (.ret (.d (.bool (Cc l b a))),[]):=by
 (refine Ao rfl Tryz.func63 rfl rfl rfl ?_;show Wp _ _ _ _ (Tryz.f63.body.get rfl) _ _;simp only[Tryz.f63,AS])
 refine aw ?_;refine rounds (S:=fun c:Int×Nat=>⟨[(0,.d (.ce (l.map Aj))),(1,.d (.int .i64 (c.1))),(2,.d (.int .i64 (a)))],[],0,[]⟩)
  (Inv:=fun c=>(En l c.1∧BA l c.2 c.1=true∧AA (Cc l b a=decide (a∈Pk l c.2 c.1)))∨(c.1= -1∧c.2=0∧AA (Cc l b a=false))) (m:=fun c=>if c.1= -1 then 0 else c.2+1) (a:=(b,l.length)) (.inl ⟨hb,ht.rx b hb,⟨rfl⟩⟩) ?_
 rintro⟨c,k⟩ hI IH;dsimp only at*;rcases hI with⟨⟨h1,h2⟩,hcl,hin⟩|⟨rfl,rfl,hin⟩
 .have hlt:c.toNat<l.length:=by omega
  obtain⟨s,hs⟩:=get_some hlt;have hps:=AA.mk (P1 hs)
  (repeat' (first|simp only[go_sem, *]|(refine sx ?_ ?_<;>intro hc)|refine sy (by omega) fun x hx hm=>?_|simp(disch:=first|assumption|omega) only[AN]))
  .rw[hin.out,D7 (by rw[←show c=a by assumption];exact oM _ _ _)]
  .by_cases hc0:c=0
   .subst hc0;have hp1:s.un= -1:=by rw[←hps.out];exact ht.top
    rw[hp1];refine IH.out (-1,0) (by dsimp only;rw[D1 rfl,Ci (by decide)];omega) (.inr ⟨rfl,rfl,⟨?_⟩⟩);rw[hin.out,oO,D4];simp only[As];omega
   .rcases k with _|k
    .simp[BA,hc0]at hcl
    .have h3:=Gh hc0 hcl;rw[hps.out]at h3;have:=h3.1.1;refine IH.out (s.un,k) (by dsimp only;rw[Ci (by omega),Ci (by omega)];omega) (.inl ⟨h3.1,h3.2,⟨?_⟩⟩);rw[hin.out,uw hc0 hcl,hps.out];have hne: ¬a=c:=fun e=>by omega
     simp only[DO,hne,false_or]
 ·(repeat' (first|simp only[go_sem, *]|(refine sx ?_ ?_<;>intro hc)|refine sy (by omega) fun x hx hm=>?_|simp(disch:=first|assumption|omega) only[AN]))
  .omega
  .rw[hin.out]
def EE(p:AI)(s:A9):Int:=match looks p with|some st=>if Dr p st.ci s=true then 0 else 2|none=>2
instance:DecidableEq FU:=fun a b=>decidable_of_iff (a.wait=b.wait∧a.group=b.group∧a.wd=b.wd∧a.picks=b.picks) (by cases a;cases b;simp)
structure zG(p:AI)(s:A9)(st:Bo):Prop where
 looks:looks p=some st
 formed:BC p st.ci
 qr:FB p st.ci s
theorem ei{p:AI}{s:A9}(h:EE p s=0): ∃st,zG p s st:=by
 rw[EE]at h;split at h
 .rename_i st hlk;split at h
  .rename_i hs;exact⟨st,hlk,Et hlk,ABG hs⟩
  .cases h
 .cases h
theorem vV{p:AI}{s:A9}(h: ¬EE p s=0):EE p s=2:=by
 rw[EE]at h⊢;split at h
 .split at h
  .exact absurd rfl h
  .rename_i hh;simp[hh]
 .rfl
abbrev ACb(x:FU):AV:=.agg [.d (.int .i64 x.wait),.d (.int .i64 x.group),.d (.int .i64 x.wd),.d (.ce (x.picks.map AL))]
inductive Below:List Nat→List Int→Prop
 |nil:Below [] []
 |cons {n:Nat} {k:Int} {l:List Nat} {t:List Int}:0≤k→k<n→Below l t→Below (n::l) (k::t)
theorem Lz: ∀{l:List Nat} {t:List Int},t∈DS l↔Below l t
 |[],t=>by
  rw[DS,As];exact⟨fun h=>h▸ .nil,fun h=>by cases h;rfl⟩
 |n::l,t=>by
  rw[DS,Bv];constructor
  .rintro⟨i,hi,ht⟩;obtain⟨u,hu,rfl⟩:=Em.1 ht;have:=Of.1 hi;exact .cons (by omega) (by omega) (Lz.1 hu)
  .intro h;cases h with
   | @cons _ k _ t h1 h2 h3=>exact⟨k.toNat,Of.2 (by omega),Em.2 ⟨t,Lz.2 h3,by rw[OR h1]⟩⟩
theorem Below.len: ∀{l:List Nat} {t:List Int},Below l t→t.length=l.length
 |_,_,.nil=>rfl
 |_,_,.cons _ _ h=>by rw[List.length_cons,List.length_cons,h.len]
inductive MU(p:AI)(s:A9):FU→Prop
 |wait {i:Nat} {w:Fk}:s.waits[i]? =some w→pm p s w=true→MU p s ⟨i,0,0,[]⟩
 |wd {i k:Nat} {g:Ak} {d:CF} {r:GX} {t:List Int}:s.bv[i]? =some g→p.def? g.ge=some d→d.rules[k]? =some r→AX s.ac (g.place d r.at_)=false→Below (Bq s d g r) t→MU p s ⟨-1,i,k,t⟩
theorem Uc{p:AI}{s:A9}{x:FU}: ∀{l:List Fk} {i:Nat},s.waits.drop i=l→(x∈DM p s i l↔ ∃j:Nat,i≤j∧ ∃w,s.waits[j]? =some w∧pm p s w=true∧x=⟨j,0,0,[]⟩)
 |[],i,h=>by
  have:s.waits.length≤i:=OL.1 h;constructor
  .intro h;cases h
  .rintro⟨j,hj,w,hw,_⟩;obtain⟨h1,_⟩:=BE.1 hw;omega
 |w::l,i,h=>by
  have hg:s.waits[i]? =some w:=by
   have:=congrArg (fun l=>l[0]?) h;simpa using this
  have ih:=Uc (x:=x) (p:=p) (l:=l) (i:=i+1) (by rw[Ae hg]at h;exact(RG h).2);rw[DM,D5,ih];constructor
  .rintro(h1|⟨j,h1,h2⟩)
   .split at h1
    .exact⟨i,D6 _,w,hg,by assumption,As.1 h1⟩
    .cases h1
   .exact⟨j,by omega,h2⟩
  .rintro⟨j,h1,w2,h2,h3,h4⟩;by_cases e:j=i
   .subst e;rw[hg]at h2;cases h2;exact .inl (by rw[D1 h3,h4];simp)
   .exact .inr ⟨j,by omega,w2,h2,h3,h4⟩
theorem Oz{s:A9}{d:CF}{g:Ak}{i:Nat}{x:FU}: ∀{l:List GX} {k:Nat},d.rules.drop k=l→(x∈B5 s d g i k l↔ ∃j:Nat,k≤j∧ ∃r,d.rules[j]? =some r∧ ∃t∈EP s d g r,x=⟨-1,i,j,t⟩)
 |[],k,h=>by
  have:d.rules.length≤k:=OL.1 h;constructor
  .intro h;cases h
  .rintro⟨j,hj,w,hw,_⟩;obtain⟨h1,_⟩:=BE.1 hw;omega
 |r::l,k,h=>by
  have hg:d.rules[k]? =some r:=by
   have:=congrArg (fun l=>l[0]?) h;simpa using this
  have ih:=Oz (x:=x) (s:=s) (g:=g) (i:=i) (l:=l) (k:=k+1) (by rw[Ae hg]at h;exact(RG h).2);rw[B5,D5,ih];constructor
  .rintro(h1|⟨j,h1,h2⟩)
   .obtain⟨t,ht,rfl⟩:=Em.1 h1;exact⟨k,D6 _,r,hg,t,ht,rfl⟩
   .exact⟨j,by omega,h2⟩
  .rintro⟨j,h1,w2,h2,h3⟩;by_cases e:j=k
   .subst e;rw[hg]at h2;cases h2;obtain⟨t,ht,rfl⟩:=h3;exact .inl (Em.2 ⟨t,ht,rfl⟩)
   .exact .inr ⟨j,by omega,w2,h2,h3⟩
theorem Te{p:AI}{s:A9}{x:FU}: ∀{l:List Ak} {i:Nat},s.bv.drop i=l→(x∈C6 p s i l↔ ∃j:Nat,i≤j∧ ∃g d,s.bv[j]? =some g∧p.def? g.ge=some d∧x∈B5 s d g j 0 d.rules)
 |[],i,h=>by
  have:s.bv.length≤i:=OL.1 h;constructor
  .intro h;cases h
  .rintro⟨j,hj,w,_,hw,_⟩;obtain⟨h1,_⟩:=BE.1 hw;omega
 |g::l,i,h=>by
  have hg:s.bv[i]? =some g:=by
   have:=congrArg (fun l=>l[0]?) h;simpa using this
  have ih:=Te (x:=x) (p:=p) (l:=l) (i:=i+1) (by rw[Ae hg]at h;exact(RG h).2);rw[C6,D5,ih];constructor
  .rintro(h1|⟨j,h1,h2⟩)
   .split at h1
    .exact⟨i,D6 _,g,_,hg,by assumption,h1⟩
    .cases h1
   .exact⟨j,by omega,h2⟩
  .rintro⟨j,h1,w2,d,h2,h3,h4⟩;by_cases e:j=i
   .subst e;rw[hg]at h2;cases h2;exact .inl (by rw[h3];exact h4)
   .exact .inr ⟨j,by omega,w2,d,h2,h3,h4⟩
theorem Vs{p:AI}{s:A9}{x:FU}:x∈CC p s↔MU p s x:=by
 rw[CC,D5,Uc (l:=s.waits) (i:=0) rfl,Te (l:=s.bv) (i:=0) rfl];constructor
 .rintro(⟨j,_,w,h1,h2,rfl⟩|⟨j,_,g,d,h1,h2,h3⟩)
  .exact .wait h1 h2
  .obtain⟨k,_,r,h4,t,h5,rfl⟩:=(Oz (l:=d.rules) (k:=0) rfl).1 h3;rw[EP]at h5;split at h5
   .cases h5
   .rename_i hd;exact .wd h1 h2 h4 (by simpa using hd) (Lz.1 h5)
 .rintro(⟨h1,h2⟩|⟨h1,h2,h3,h4,h5⟩)
  .exact .inl ⟨_,I6 _,_,h1,h2,rfl⟩
  .exact .inr ⟨_,I6 _,_,_,h1,h2,(Oz (l:=_) (k:=0) rfl).2 ⟨_,I6 _,_,h3,_,by rw[EP,h4,Ci (by simp)];exact Lz.2 h5,rfl⟩⟩
def Um(s:A9)(e:Du):Prop:=e.deed=5∧En s.ac e.at_∧AX s.ac e.at_=false
structure Pq(p:AI)(sz:List Int)(st st':B7)(js:List Fq):Prop where
 qr:FB p sz st'.d9
 ext:V5 st.d9 st'.d9
 jobs: ∀j∈js,CQ p sz st'.d9 j
 work:st'.work=st.work
 ev: ∃l,st'.ev=st.ev++l∧l.length≤1∧ ∀e∈l,Um st'.d9 e
structure JU(p:AI)(sz:List Int)(st st':B7):Prop where
 qr:FB p sz st'.d9
 ext:V5 st.d9 st'.d9
 work:st.work≤st'.work
 top:st.work≤400→st'.work≤400
 evs: ∃l,st'.ev=st.ev++l∧(l.length:Int)≤st'.work-st.work∧ ∀e∈l,Um st'.d9 e
theorem JU.ev{p:AI}{sz:List Int}{st st':B7}(h:JU p sz st st'):(st'.ev.length:Int)≤st.ev.length+(st'.work-st.work):=by
 obtain⟨l,h1,h2,_⟩:=h.evs;rw[h1,CE];omega
theorem tI{s s':A9}(h:V5 s s'){e:Du}(he:Um s e):Um s' e:=⟨he.1,HD h.ns he.2.1,by rw[Ji h he.2.1];exact he.2.2⟩
theorem l7{p:AI}{sz:List Int}{st:B7}(h:FB p sz st.d9):JU p sz st st:=⟨h,HB _,by omega,fun h=>h,[],by simp,by simp,by simp⟩
theorem Rl{p:AI}{sz:List Int}{a b c:B7}(h1:JU p sz a b)(h2:JU p sz b c):JU p sz a c:=by
 obtain⟨l,e1,n1,w1⟩:=h1.evs;obtain⟨m,e2,n2,w2⟩:=h2.evs;refine⟨h2.qr,iB h1.ext h2.ext,by have:=h1.work;have:=h2.work;omega,fun h=>h2.top (h1.top h),l++m,by rw[e2,e1,D3],by rw[CE];omega,fun e he=>?_⟩;rcases D5.1 he with he|he
 .exact tI h2.ext (w1 e he)
 .exact w2 e he
section
variable{p:AI}{sz:List Int}{st:B7}{j:Fq}{x:CR}
theorem sn{s:A9}{n:Nat}{q:Fg}(hs:FB p sz s)(hq:s.be[n]? =some q){l:List CW}(hl:q.queue.length<12)(hd:AX s.ac q.at_=false)(hm:Dc p s q=l.length)(hv:l.all (CW.inB p s.be.length s.ac.length)=true):QOk p s {q with queue:=q.queue++[l]}:=by
 have h:=hs.que n q hq;refine⟨by simp;omega,.inr hd,fun m hm2=>?_⟩;rcases D5.1 hm2 with h2|h2
 .exact h.msgs m h2
 .rw[As]at h2;subst h2;show Ha p _ _ (Dc p s q) m=true;rw[Ha,hm,hv];simp
theorem mm(hs:FB p sz st.d9)(hj:CQ p sz st.d9 j)(ha: ∀e∈x.args,e.formed j.env.length=true){st':B7}(h:Dy p x j st=some st'):Pq p sz st st' []:=by
 have hv:(x.args.map (·.value j.env)).all (CW.inB p st.d9.be.length st.d9.ac.length)=true:=by
  rw[Ce];intro v hv;obtain⟨e,he,rfl⟩:=Em.1 hv;exact nK hj.kw e (ha e he)
 simp only[Dy]at h;split at h
 .cases h;exact⟨hs,HB _,by simp,rfl,_,rfl,by simp,fun e he=>by rw[As]at he;subst he;exact⟨rfl,hj.at_,hj.live⟩⟩
 split at h
 .obtain⟨s,hs2,rfl⟩:=BI.1 h;have key:FB p sz s∧V5 st.d9 s:=by
   rw[O1]at hs2;split at hs2
   .rename_i q hq;split at hs2
    .rename_i hc;rw[W5]at hs2;split at hs2
     .rename_i hl;cases hs2;exact⟨UQ hs hq (sn hs hq hl hc.1 hc.2 hv),hZ hq _⟩
     .cases hs2
    .cases hs2;exact⟨hs,HB _⟩
   .cases hs2;exact⟨hs,HB _⟩
  exact⟨key.1,key.2,by simp,rfl,[],by simp,by simp,by simp⟩
 .cases h;exact⟨hs,HB _,by simp,rfl,[],by simp,by simp,by simp⟩
theorem XB(hF:BC p sz)(hs:FB p sz st.d9)(hj:CQ p sz st.d9 j)(hx:p.nodes[j.node.toNat]? =some x)(ho:x.op=4){st':B7}{js:List Fq}(h:G9 p x j st=some (st',js)):Pq p sz st st' js:=by
 obtain⟨d,hd⟩:=pK hF hs hj hx ho;simp only[G9,hd.ge]at h;split at h
 .rename_i hc;cases h;have he:=hd.ext;have hl:(Bu st.d9 d (Ad st.d9 d x.n j)).be.length=st.d9.be.length+d.be.length:=by simp[Bu,GL]
  have hsl:(Bu st.d9 d (Ad st.d9 d x.n j)).ac.length=st.d9.ac.length+d.ac.length:=by simp[Bu,Eu]
  have hv:(Ad st.d9 d x.n j).env.all (CW.inB p (Bu st.d9 d (Ad st.d9 d x.n j)).be.length (Bu st.d9 d (Ad st.d9 d x.n j)).ac.length)=true:=by rw[hl,hsl];exact hd.kw
  have hn:((Ad st.d9 d x.n j).env.length:Int)=(j.env.length:Int)+d.own:=by rw[hd.env];omega
  refine⟨hd.sok' hF hc,he,fun j' hj'=>?_,rfl,[],by simp,by simp,by simp⟩;rcases D5.1 hj' with hj'|hj'
  .obtain⟨t,y,h1,rfl⟩:=OB hj';have h2:=hd.ac y (Ac h1);have h3:=AH h1;have h4:=hd.spot (n:=((0+t:Nat):Int)+1) (by omega) (by omega);exact⟨h2.1,by rw[h2.2,hn],h4.1,h4.2,hv⟩
  .obtain⟨k,hk,k0,k1⟩:=hd.kid;rw[BN,hk]at hj';simp only[Es,As]at hj';subst hj';exact⟨k0,by rw[k1,hn],HD he.ns hj.at_,by rw[Ji he hj.at_];exact hj.live,hv⟩
 .cases h
theorem eD(hs:FB p sz st.d9)(hj:CQ p sz st.d9 j)(hx:p.nodes[j.node.toNat]? =some x)(ho:EZ x.op=true){st':B7}(h:Hh j st=some st'):Pq p sz st st' []:=by
 rw[Hh]at h;split at h
 .rename_i hc;cases h;refine⟨O4 hs (by simp;omega) fun w hw=>?_,⟨fun _ _ h=>h,fun _ _ h=>h,fun c q hq=>⟨[],by simpa using hq⟩⟩,by simp,rfl,[],by simp,by simp,by simp⟩;rcases D5.1 hw with hw|hw
  .exact hs.wait w hw
  .rw[As]at hw;subst hw;simp only[CD,hj.live,hj.kw,hx,ho,hj.size,AP,Ap,GS,F4];exact⟨hj.at_,trivial,hj.n0,trivial,trivial,trivial⟩
 .cases h
theorem Z2(hF:BC p sz)(hs:FB p sz st.d9)(hj:CQ p sz st.d9 j){st':B7}{js:List Fq}(h:JC p j st=some (st',js)):Pq p sz st st' js:=by
 obtain⟨x,l,hx,hok,hsub,hq,_⟩:=Jr hF hj;simp only[JC,hx]at h;have kids: ¬x.op=4→ ∀k,∀j'∈BN x k j.at_ j.env,CQ p sz st.d9 j':=fun ho k=>Od hj ho hsub hq k;split at h
 .rename_i ho;obtain⟨s,hs2,e⟩:=BI.1 h;cases e;simp only[Dn,AP,Ce]at hok;exact mm hs hj (fun e he=>by have:=hok.2.2.2 e he;simp only[Bt.ok,AP]at this;exact this.2.2) hs2
 split at h
 .rename_i ho;cases h;refine⟨hs,HB _,fun j' hj'=>?_,rfl,[],by simp,by simp,by simp⟩;rcases D5.1 hj' with hj'|hj'
  .exact kids (by omega) 0 j' hj'
  .exact kids (by omega) 1 j' hj'
 split at h
 .rename_i ho;exact XB hF hs hj hx ho h
 split at h
 .rename_i ho4 ho;cases h;exact⟨hs,HB _,kids ho4 _,rfl,[],by simp,by simp,by simp⟩
 split at h
 .rename_i ho;obtain⟨s,hs2,e⟩:=BI.1 h;cases e;exact eD hs hj hx ho hs2
 .cases h;exact⟨hs,HB _,by simp,rfl,[],by simp,by simp,by simp⟩
end
theorem Oc{p:AI}{sz:List Int}{f:Fq→B7→Option B7}(hf: ∀j st st',FB p sz st.d9→CQ p sz st.d9 j→f j st=some st'→JU p sz st st'): ∀(l:List Fq) (st st':B7),FB p sz st.d9→(∀j∈l,CQ p sz st.d9 j)→BZ f l st=some st'→JU p sz st st'
 |[],st,st',hs,_,h=>by cases h;exact l7 hs
 |j::l,st,st',hs,hj,h=>by
  rw[BZ]at h;obtain⟨st1,h1,h2⟩:=IF.1 h;have hp:=hf j st st1 hs (hj j (by simp)) h1;exact Rl hp (Oc hf l st1 st' hp.qr (fun j' hj'=>Py (hj j' (by simp[hj'])) hp.ext) h2)
theorem Kv{p:AI}{sz:List Int}(hF:BC p sz): ∀(k:Nat) (j:Fq) (st st':B7),FB p sz st.d9→CQ p sz st.d9 j→FX p k j st=some st'→JU p sz st st'
 |0,j,st,st',_,_,h=>by cases h
 |k+1,j,st,st',hs,hj,h=>by
  rw[FX]at h;split at h
  .rename_i hw;cases hd:JC p j {st with work:=st.work+1}with
   |none=>rw[hd]at h;cases h
   |some r=>
    obtain⟨st1,js⟩:=r;rw[hd]at h;have hp:=Z2 (st:={st with work:=st.work+1}) hF hs hj hd
    obtain⟨l,e1,e2,e3⟩:=hp.ev;have w1:st1.work=st.work+1:=hp.work;refine Rl (b:=st1) ⟨hp.qr,hp.ext,by omega,by omega,l,e1,by omega,e3⟩ (Oc (fun j st st'=>Kv hF k j st st') js st1 st' hp.qr hp.jobs h)
  .cases h
variable{α:Type}{l:List α}
theorem OX{i:Int}{x:α}(h:x∈CY l i):x∈l:=by
 rcases D5.1 h with h|h
 .exact JP h
 .exact Jp h
theorem TU{i:Int}(h:i.toNat<l.length):(CY l i).length=l.length-1:=by
 rw[CY,CE,He,I2];omega
theorem Qp(l:List α)(i:Int):(CY l i).length≤l.length:=by
 rw[CY,CE,He,I2];omega
theorem mJ{p:AI}{s:A9}{q:Fg}(h:QOk p s q)(k:Int):QOk p s {q with queue:=CY q.queue k}:=by
 have:=Qp q.queue k;refine⟨IP this h.len,?_,fun m hm=>h.msgs m (OX hm)⟩;rcases h.dead with hd|hd
 .exact .inl (show(CY q.queue k).length=0 by omega)
 .exact .inr hd
structure Sz(s s':A9):Prop where
 ac:s'.ac=s.ac
 bv:s'.bv=s.bv
 waits:s'.waits=s.waits
 len:s'.be.length=s.be.length
theorem ZO{p:AI}{sz:List Int}{s:A9}(hs:FB p sz s){c:Int}{q:Fg}(hq:s.be[c.toNat]? =some q){k:Int}(hk:k.toNat<q.queue.length):FB p sz (Ez s c k).2∧Sz s (Ez s c k).2∧(Ez s c k).1.all (CW.inB p s.be.length s.ac.length)=true∧(((Ez s c k).1.length:Nat):Int)=Dc p s q∧ ∀c2:Nat,c2≠c.toNat→(Ez s c k).2.be[c2]? =s.be[c2]? :=by
 obtain⟨m,hm⟩:=get_some hk;have hqo:=hs.que _ q hq;have hmo:=hqo.msgs m (Ac hm);simp only[Ha,AP,Ap]at hmo;have e:Ez s c k=(m,{s with be:=s.be.set c.toNat {q with queue:=CY q.queue k}}):=by rw[Ez,hq];simp[hm]
 rw[e];refine⟨UQ hs hq (mJ hqo k),⟨rfl,rfl,rfl,by simp⟩,hmo.2,hmo.1,fun c2 h2=>?_⟩;dsimp only;rw[HU,Ci (fun e=>h2 e.symm)]
structure WH(p:AI)(sz:List Int)(d:CF)(cs:List Int)(s:A9)(t:List CW×A9):Prop where
 qr:FB p sz t.2
 only:Sz s t.2
 kw:t.1.all (CW.inB p s.be.length s.ac.length)=true
 len:((t.1.length:Nat):Int)=DB d cs
theorem ZN{p:AI}{sz:List Int}{d:CF}{g:Ak}: ∀{cs ks:List Int} {s:A9},FB p sz s→cs.length=ks.length→
 (∀(i:Nat) c k,cs[i]? =some c→ks[i]? =some k→ ∃q,s.be[(g.own d true c).toNat]? =some q∧k.toNat<q.queue.length∧Dc p s q=((d.be[c.toNat]?).map HS.many).getD 0)→
 (∀(i j:Nat) c c2,i<j→cs[i]? =some c→cs[j]? =some c2→(g.own d true c2).toNat≠(g.own d true c).toNat)→WH p sz d cs s (BQ d g cs ks s)
 |[],ks,s,hs,_,_,_=>by
  rw[BQ]
  .exact⟨hs,⟨rfl,rfl,rfl,rfl⟩,rfl,rfl⟩
  .intro c cs k ks h;cases h
 |c::cs,[],s,hs,hl,_,_=>by cases hl
 |c::cs,k::ks,s,hs,hl,hq,hd=>by
  obtain⟨q,h1,h2,h3⟩:=hq 0 c k rfl rfl;obtain⟨a1,a2,a3,a4,a5⟩:=ZO hs h1 h2;have ih:=ZN (p:=p) (sz:=sz) (d:=d) (g:=g) (cs:=cs) (ks:=ks) (s:=(Ez s (g.own d true c) k).2) a1 (by simpa using hl) (fun i c2 k2 e1 e2=>?_) (fun i j c2 c3 hij e1 e2=>hd (i+1) (j+1) c2 c3 (by omega) (by simpa using e1) (by simpa using e2))
  .rw[BQ];refine⟨ih.qr,⟨ih.only.ac.trans a2.ac,ih.only.bv.trans a2.bv,ih.only.waits.trans a2.waits,ih.only.len.trans a2.len⟩,?_,?_⟩
   .rw[RO,a3,F1];have:=ih.kw
    rwa [a2.len,a2.ac]at this
   .have:=ih.len;rw[CE,DB];omega
  .obtain⟨q2,b1,b2,b3⟩:=hq (i+1) c2 k2 (by simpa using e1) (by simpa using e2);refine⟨q2,by rw[a5 _ (hd 0 (i+1) c c2 (by omega) rfl (by simpa using e1))];exact b1,b2,?_⟩;rw[←b3,Dc,Dc,a2.bv]
theorem jJ{l:List A7}(hT:Fu l){b a:Int}(hb:En l b)(h0: ¬b=0):Cc l b a=(decide (a=b)||Cc l (A5 l b) a):=by
 have hc:=hT.rx b hb;obtain⟨k,hk⟩: ∃k,l.length=k+1:=⟨l.length-1,by have:=hT.pos;omega⟩;rw[hk]at hc;have hs:=Gh h0 hc;have e:Pk l (k+1) (A5 l b)=Pk l k (A5 l b):=QJ l k (k+1) _ hs.2 (by omega);rw[Cc,Cc,hk,e,Pk,Ci h0];simp[DO]
def Kb(l:List A7)(at_:Int):List A7:=GF l at_ 0 l
theorem ed(l:List A7)(at_:Int): ∀(m:List A7) (i:Nat),(GF l at_ i m).length=m.length
 |[],i=>rfl
 |x::m,i=>by rw[GF,List.length_cons,List.length_cons,ed l at_ m (i+1)]
theorem ec(l:List A7)(at_:Int): ∀(m:List A7) (i k:Nat),(GF l at_ i m)[k]? =(m[k]?).map fun x=>{x with dead:=x.dead||Cc l ((i+k:Nat):Int) at_}
 |[],i,k=>by simp[GF]
 |x::m,i,0=>by simp[GF]
 |x::m,i,k+1=>by
  rw[GF,FN,FN,ec l at_ m (i+1) k,show i+1+k=i+(k+1) by omega]
theorem U7(l:List A7)(at_:Int)(k:Nat):(Kb l at_)[k]? =(l[k]?).map fun x=>{x with dead:=x.dead||Cc l k at_}:=by
 rw[Kb,ec];simp
theorem Ec(l:List A7)(at_:Int):(Kb l at_).length=l.length:=ed l at_ l 0
theorem ee(l:List A7)(at_ i:Int):A5 (Kb l at_) i=A5 l i:=by
 rw[A5,A5,U7];cases l[i.toNat]? <;>rfl
theorem TJ(l:List A7)(at_:Int): ∀(k:Nat) (i:Int),BA (Kb l at_) k i=BA l k i
 |0,i=>rfl
 |k+1,i=>by
  rw[BA,BA,ee,TJ l at_ k];congr 2;exact decide_eq_decide.2 (by unfold En;rw[Ec])
theorem pQ(l:List A7)(at_:Int){i:Int}(hi:En l i):AX (Kb l at_) i=(AX l i||Cc l i at_):=by
 have h0:=hi.1;have h1:=hi.2;obtain⟨x,hx⟩:=get_some (l:=l) (i:=i.toNat) (by omega);rw[AX,AX,U7,hx,show((i.toNat:Nat):Int)=i by omega];rfl
theorem pR{l:List A7}(h:Fu l)(at_:Int):Fu (Kb l at_):=
 ⟨by rw[Ec];exact h.pos,by rw[ee];exact h.top,fun i hi=>by rw[TJ,Ec];exact h.rx i (by rw[En,Ec]at hi;exact hi)⟩
theorem vK{p:AI}{sz:List Int}{s:A9}(hF:BC p sz)(h:FB p sz s)(at_:Int):FB p sz (OW s at_):=by
 have hsm:=h.small;simp only[A9.small,AP,Ap]at hsm;have hsp:(OW s at_).ac=Kb s.ac at_:=rfl;have hch:(OW s at_).be=s.be.map fun q=>if AX (Kb s.ac at_) q.at_=true then{q with queue:=[]}else q:=rfl
 have hwt:(OW s at_).waits=s.waits.filter fun w=> !AX (Kb s.ac at_) w.at_:=rfl;have hgr:(OW s at_).bv=s.bv:=rfl;have hcl:(OW s at_).be.length=s.be.length:=by rw[hch,BY]
 have hsl:(OW s at_).ac.length=s.ac.length:=by rw[hsp,Ec]
 have hmany: ∀q l,Dc p (OW s at_) {q with queue:=l}=Dc p s q:=fun q l=>rfl
 refine⟨?_,by rw[hsp];exact pR h.tree _,fun i x hi hx=>?_,fun i g hg=>?_,by rw[hgr,hcl,hsl];exact h.tot,fun c q hq=>?_,fun w hw=>?_⟩
 .simp only[A9.small,AP,Ap];rw[hgr,hcl,hsl,hwt];have:=List.length_filter_le (fun w=> !AX (Kb s.ac at_) w.at_) s.waits;omega
 .rw[hsp]at hx⊢;rw[U7]at hx;obtain⟨y,hy,rfl⟩:=BI.1 hx;have hin:=sY h.tree hi hy;have hiR:En s.ac i:=⟨by omega,by have:=AH hy;omega⟩;dsimp only;rw[pQ _ _ hin,Ip,Bool.or_eq_false_iff];rcases h.dead i y hi hy with hd|hd
  .exact .inl (.inl hd)
  .cases hz:Cc s.ac i at_ with
   |true=>exact .inl (.inr rfl)
   |false=>
    refine .inr ⟨hd,?_⟩;rw[jJ h.tree hiR (by omega),Bool.or_eq_false_iff]at hz;have hp:A5 s.ac i=y.un:=by rw[A5,show((i:Nat):Int).toNat=i from rfl,hy];rfl
    rw[hp]at hz;exact hz.2
 .rw[hgr]at hg;obtain⟨d,hd⟩:=h.grp i g hg;refine⟨d,hd.ge,by rw[hsp,En,Ec];exact hd.at_,hd.len,by rw[hcl,hsl];exact hd.kw,by rw[hgr];exact hd.ws,fun j ch hj=>?_⟩;obtain⟨q,h1,h2,h3,h4⟩:=hd.be j ch hj;rw[hgr,hch,Cs,h1];refine⟨_,rfl,?_⟩;dsimp only;split<;>exact⟨h2,h3,h4⟩
 .rw[hch,Cs]at hq;obtain⟨q0,h0,rfl⟩:=BI.1 hq;have hqo:=h.que c q0 h0;split
  .exact⟨by simp,.inl rfl,fun m hm=>by cases hm⟩
  .rename_i hd;refine⟨hqo.len,?_,fun m hm=>?_⟩
   .rw[hsp];exact .inr (by simpa using hd)
   .rw[hcl,hsl];exact hqo.msgs m hm
 .rw[hwt,PI]at hw;have:=h.wait w hw.1;simp only[CD,AP,Ap,GS]at this⊢;obtain⟨h1,h2,h3,h4,h5,h6⟩:=this;rw[hcl,hsl,hsp];exact⟨by rw[En,Ec];exact h1,by simpa using hw.2,h3,h4,h5,h6⟩
section
variable{l:List A7}{i n:Int}{x:A7}
theorem IY(l:List A7)(i n:Int):(Gd l i n).length=l.length:=by
 rw[Gd];split<;>simp
theorem RQ(hx:l[i.toNat]? =some x)(k:Nat):(Gd l i n)[k]? =if k=i.toNat then some {x with un:=n}else l[k]? :=by
 rw[Gd,hx];dsimp only;rw[HU];have:=AH hx;by_cases e:i.toNat=k
 .rw[D1 e,D1 e.symm,D1 (by omega)]
 .rw[Ci e,Ci fun h=>e h.symm]
theorem Nx(hi:0≤i)(hx:l[i.toNat]? =some x){k:Int}(hk:0≤k):A5 (Gd l i n) k=if k=i then n else A5 l k:=by
 rw[A5,A5,RQ hx];by_cases e:k=i
 .rw[D1 (by omega),D1 e];rfl
 .rw[Ci (by omega),Ci e]
theorem Om(hx:l[i.toNat]? =some x)(k:Int):AX (Gd l i n) k=AX l k:=by
 rw[AX,AX,RQ hx];split
 .rename_i e;rw[e,hx];rfl
 .rfl
theorem YI(hi:0≤i)(hx:l[i.toNat]? =some x): ∀{k:Nat} {b:Int},En l b→BA l k b=true→i∉Pk l k b→BA (Gd l i n) k b=true
 |0,b,hb,hc,h=>hc
 |k+1,b,hb,hc,h=>by
  by_cases h0:b=0
  .subst h0;exact FW _ _
  .have hs:=Gh h0 hc;rw[Pk,Ci h0,DO,not_or]at h;rw[BA,Nx hi hx hb.1,Ci fun e=>h.1 e.symm,YI hi hx hs.1 hs.2 h.2];have:En (Gd l i n) (A5 l b):=by rw[En,IY];exact hs.1
   rw[D7 this];simp
theorem YH(hT:Fu l)(hi:0<i)(hx:l[i.toNat]? =some x)(hn:En l n)(ho:Cc l n i=false): ∀{k:Nat} {b:Int},En l b→BA l k b=true→ ∃m,BA (Gd l i n) m b=true
 |0,b,hb,hc=>by
  simp only[BA,Ap]at hc;subst hc;exact⟨0,FW _ _⟩
 |k+1,b,hb,hc=>by
  by_cases h0:b=0
  .subst h0;exact⟨0,FW _ _⟩
  .have hs:=Gh h0 hc;by_cases e:b=i
   .have h1:=YI (n:=n) (by omega) hx hn (hT.rx n hn) (by simpa[Cc]using ho);refine⟨l.length+1,?_⟩;have:En (Gd l i n) n:=by rw[En,IY];exact hn
    rw[BA,Nx (by omega) hx hb.1,D1 e,h1,D7 this];simp
   .obtain⟨m,hm⟩:=YH hT hi hx hn ho hs.1 hs.2;refine⟨m+1,?_⟩;have:En (Gd l i n) (A5 l b):=by rw[En,IY];exact hs.1
    rw[BA,Nx (by omega) hx hb.1,Ci e,hm,D7 this];simp
theorem k8(hT:Fu l)(hi:0<i)(hx:l[i.toNat]? =some x)(hn:En l n)(ho:Cc l n i=false):Fu (Gd l i n):=by
 refine⟨by rw[IY];exact hT.pos,by rw[Nx (by omega) hx (by omega),Ci (by omega)];exact hT.top,fun b hb=>?_⟩;have hb2:En l b:=by rw[En,IY]at hb;exact hb
 obtain⟨m,hm⟩:=YH hT hi hx hn ho hb2 (hT.rx b hb2);exact Kq (by omega) (PE hb hm)
end
theorem Ny{p:AI}{sz:List Int}{s:A9}(h:FB p sz s){i n:Int}(hi:0<i)(hir:En s.ac i)(hn:En s.ac n)(hl:AX s.ac n=false)(ho:Cc s.ac n i=false):FB p sz {s with ac:=Gd s.ac i n}:=by
 have hsm:=h.small;simp only[A9.small,AP,Ap]at hsm;have h1:=hir.1;have h2:=hir.2;obtain⟨x,hx⟩:=get_some (l:=s.ac) (i:=i.toNat) (by omega);have hlen:=IY s.ac i n;refine⟨by simp only[A9.small,AP,Ap,hlen];omega,k8 h.tree hi hx hn ho,fun k y hk hy=>?_,fun k g hg=>?_,by dsimp only;rw[hlen];exact h.tot,fun c q hq=>?_,fun w hw=>?_⟩
 .dsimp only at hy⊢;rw[Om hx];rw[RQ hx]at hy;split at hy
  .cases hy;exact .inr hl
  .exact h.dead k y hk hy
 .obtain⟨d,hd⟩:=h.grp k g hg;exact⟨d,hd.ge,by dsimp only;rw[En,hlen];exact hd.at_,hd.len,by dsimp only;rw[hlen];exact hd.kw,hd.ws,hd.be⟩
 .have:=h.que c q hq;exact⟨this.len,by dsimp only;rw[Om hx];exact this.dead,fun m hm=>by dsimp only;rw[hlen];exact this.msgs m hm⟩
 .have:=h.wait w hw;simp only[CD,AP,Ap,GS]at this⊢;rw[Om hx,hlen,En,hlen];exact this
theorem QS: ∀{l:List Nat} {t:List Int},Below l t→ ∀(i:Nat) n k,l[i]? =some n→t[i]? =some k→0≤k∧k<n
 |_,_,.nil,i,n,k,h,_=>by simp at h
 |_,_,.cons h1 h2 h3,0,n,k,e1,e2=>by
  simp only[Es,Bi]at e1 e2;subst e1 e2;exact⟨h1,h2⟩
 |_,_,.cons h1 h2 h3,i+1,n,k,e1,e2=>QS h3 i n k (by simpa using e1) (by simpa using e2)
theorem RE{d:CF}{r:GX}{l:List Int}: ∀{i:Nat},r.eq.drop i=l→joinsOk d r i l=true→ ∀(j k:Nat) c c2,i≤j→k<j→r.eq[j]? =some c→r.eq[k]? =some c2→c≠c2:=by
 induction l with
 |nil=>
  intro i h _ j k c c2 hj _ e1 _;have:=OL.1 h;have:=AH e1;omega
 |cons x l ih=>
  intro i h ho j k c c2 hj hk e1 e2;rw[joinsOk,AP]at ho;have hx:r.eq[i]? =some x:=by
   have:=congrArg (fun l=>l[0]?) h;simpa using this
  by_cases e:j=i
  .subst e;rw[hx]at e1;cases e1;have h1:=ho.1;simp only[KJ,AP,Ap,GS,RD]at h1;intro e;subst e;exact h1.2.2.2 (NL.2 ⟨k,by rw[Io,D1 hk];exact e2⟩)
  .exact ih (by rw[Ae hx]at h;exact(RG h).2) ho.2 j k c c2 (by omega) hk e1 e2
structure zg(p:AI)(sz:List Int)(s:A9)(x:FU)(s1:A9)(e:Du)(js:List Fq):Prop where
 qr:FB p sz s1
 jobs: ∀j∈js,CQ p sz s1 j
 run:Ed p s x=BZ (FX p 401) js ⟨s1,[e],0⟩
 one:js.length≤1
theorem ew(x:CR)(k:Nat)(a:Int)(e:List CW):(BN x k a e).length≤1:=by
 rw[BN];split<;>simp
variable{w:Fk}
theorem SF{p:AI}{sz:List Int}{s:A9}{x:CR}(hF:BC p sz)(h:CD p sz s w=true)(hx:p.nodes[w.node.toNat]? =some x)(k:Nat): ∀j∈BN x k w.at_ w.env,CQ p sz s j:=by
 obtain⟨y,hw⟩:=P6 hF h;have hj:CQ p sz s ⟨w.node,w.at_,w.env⟩:=⟨hw.n0,hw.size,hw.at_,hw.live,hw.kw⟩;obtain⟨y2,l,h1,h2,h3,h4,_⟩:=Jr hF hj;have h1:p.nodes[w.node.toNat]? =some y2:=h1;rw[hw.node]at h1;rw[hw.node]at hx;cases hx;cases h1;exact Od hj (by have:=hw.op;omega) h3 h4 k
theorem Lu{p:AI}{sz:List Int}{s:A9}{j:Fq}(h:CQ p sz s j)(l:List Fk):CQ p sz {s with waits:=l} j:=⟨h.n0,h.size,h.at_,h.live,h.kw⟩
theorem my{p:AI}{sz:List Int}{s:A9}{i:Nat}(hF:BC p sz)(hs:FB p sz s)(hw:s.waits[i]? =some w)(hg:pm p s w=true): ∃s1 e js,zg p sz s ⟨i,0,0,[]⟩ s1 e js:=by
 have hwo:=hs.wait w (Ac hw);obtain⟨x,hx⟩:=P6 hF hwo;have hsm:=hs.small;simp only[A9.small,AP,Ap]at hsm;have hs1:FB p sz {s with waits:=CY s.waits i}:=O4 hs (by have:=Qp s.waits (i:Int);omega) fun v hv=>hs.wait v (OX hv)
 have hd:Ed p s ⟨i,0,0,[]⟩=LX p {s with waits:=CY s.waits i} w x:=by
  rw[Ed,Ci (by dsimp only;omega),OE];simp only[F7,hw,hx.node]
 rw[LX]at hd;have ho:=hx.op;by_cases h7:x.op=7
 .rw[D1 h7]at hd;exact⟨_,_,[],vK hF hs1 w.at_,by simp,hd,by simp⟩
 .rw[Ci h7]at hd;obtain⟨v,hv,hn,hk⟩:=hx.val h7;rw[pm,hx.node]at hg;simp only[h7,Ex,hn]at hg;split at hg
  .rename_i hk4;obtain⟨hr,y,hy,hyd⟩:=hk hk4;by_cases h6:x.op=6
   .rw[D1 h6]at hd;rw[Ci (by omega)]at hg;simp only[AP,Ap,GS]at hg;have hat:=hx.at_;have a0:=hat.1;have hm:=Ny hs1 (i:=w.at_) (n:=v.n) (by omega) hat hr hg.2.1 hg.2.2;have hm2:=Ny hs (i:=w.at_) (n:=v.n) (by omega) hat hr hg.2.1 hg.2.2;rw[hn]at hd;exact⟨_,_,_,hm,fun j hj=>Lu (SF hF (hm2.wait w (Ac hw)) hx.node 0 j hj) (CY s.waits i),hd,ew _ _ _ _⟩
   .rw[Ci h6]at hd;exact⟨_,_,_,hs1,fun j hj=>Lu (SF hF hwo hx.node 0 j hj) (CY s.waits i),hd,ew _ _ _ _⟩
  .cases hg
variable{k:Nat}{t:List Int}
theorem Rz{p:AI}{sz:List Int}{s:A9}{i:Nat}{g:Ak}{d:CF}{r:GX}(hF:BC p sz)(hs:FB p sz s)(h1:s.bv[i]? =some g)(h2:p.def? g.ge=some d)(h3:d.rules[k]? =some r)(h4:AX s.ac (g.place d r.at_)=false)(h5:Below (Bq s d g r) t):WH p sz d r.eq s (BQ d g r.eq t s)∧CQ p sz (BQ d g r.eq t s).2 ⟨r.node,g.place d r.at_,g.env++(BQ d g r.eq t s).1⟩:=by
 obtain⟨d2,hd⟩:=hs.grp i g h1;have hr:=Ac h3;have hd2:=hd.ge;rw[h2]at hd2;cases hd2;have hri:=P4 hF hs h1 hd hr;have hdf:=B3 hF (GD h2).2;have hro:=hdf.ok.wd r hr;simp only[Dq,AP,Ap]at hro;have hown: ∀c∈r.eq,(g.own d true c).toNat=(Fm p (s.bv.take i)).1+c.toNat:=fun c hc=>by
  obtain⟨a,b,_⟩:=hri.join c hc;have:=LD hd.ws a b;omega
 have ht:=ZN (p:=p) (sz:=sz) (d:=d) (g:=g) (cs:=r.eq) (ks:=t) hs (by have:=h5.len;rw[Bq,BY]at this;exact this.symm) (fun j c k2 e1 e2=>?_) (fun a b c c2 hab e1 e2=>?_)
 .obtain⟨_,x,s0,b1,b2,b3,b4,b5,b6,b7,b8,_⟩:=hdf.node;have hlen:=hd.len;rw[b7]at hlen;simp only[F4]at hlen;obtain⟨c1,c2⟩:=b8 r hr;refine⟨ht,c1,?_,by rw[ht.only.ac];exact hri.place,by rw[ht.only.ac];exact h4,?_⟩
  .have:=ht.len;dsimp only;rw[c2,CE];congr 1;omega
  .rw[ht.only.ac,ht.only.len,RO,hd.kw,ht.kw];rfl
 .obtain⟨c0,c1,c2,q,c3,c4,c5⟩:=hri.join c (Ac e1);have hb:=QS h5 j (Sn s (g.own d true c)) k2 (by rw[Bq,Cs,e1];rfl) e2;refine⟨q,c3,by omega,?_⟩;obtain⟨ch,hch⟩:=get_some (l:=d.be) (i:=c.toNat) (by omega);obtain⟨q2,f1,f2,f3,_⟩:=hd.be _ ch hch;rw[hown c (Ac e1),f1]at c3;cases c3;rw[Lx h1 h2 hch f2 f3,hch];rfl
 .rw[hown c (Ac e1),hown c2 (Ac e2)];have:=RE rfl hro.2.2.2 b a c2 c (I6 _) hab e2 e1;have q1:=(hri.join c (Ac e1)).1;have q2:=(hri.join c2 (Ac e2)).1;omega
theorem mw{p:AI}{sz:List Int}{s:A9}{i:Nat}{g:Ak}{d:CF}{r:GX}(hF:BC p sz)(hs:FB p sz s)(h1:s.bv[i]? =some g)(h2:p.def? g.ge=some d)(h3:d.rules[k]? =some r)(h4:AX s.ac (g.place d r.at_)=false)(h5:Below (Bq s d g r) t): ∃s1 e js,zg p sz s ⟨-1,i,k,t⟩ s1 e js:=by
 obtain⟨ht,hj⟩:=Rz hF hs h1 h2 h3 h4 h5;have h1':s.bv[((i:Nat):Int).toNat]? =some g:=h1;have h3':d.rules[((k:Nat):Int).toNat]? =some r:=h3;refine⟨(BQ d g r.eq t s).2,⟨1,g.place d r.at_,i,k,(BQ d g r.eq t s).1⟩,[⟨r.node,g.place d r.at_,g.env++(BQ d g r.eq t s).1⟩],ht.qr,fun j hj2=>by rw[As.1 hj2];exact hj,?_,by simp⟩;rw[Ed,D1 (by dsimp only;omega),fL];simp only[h1',(GD h2).2,h3',P3];rw[BZ];cases FX p 401 ⟨r.node,g.place d r.at_,g.env++(BQ d g r.eq t s).1⟩ ⟨(BQ d g r.eq t s).2,[⟨1,g.place d r.at_,i,k,(BQ d g r.eq t s).1⟩],0⟩<;>rfl
theorem td{p:AI}{sz:List Int}{s:A9}{x:FU}(hF:BC p sz)(hs:FB p sz s)(h:MU p s x): ∃s1 e js,zg p sz s x s1 e js:=by
 cases h with
 |wait h1 h2=>exact my hF hs h1 h2
 |wd h1 h2 h3 h4 h5=>exact mw hF hs h1 h2 h3 h4 h5
variable{st:B7}
theorem UW{p:AI}{sz:List Int}{s:A9}{x:FU}(hF:BC p sz)(hs:FB p sz s)(h:MU p s x)(hd:Ed p s x=some st):FB p sz st.d9∧st.ev≠ []∧st.ev.length≤401:=by
 obtain⟨s1,e,js,hm⟩:=td hF hs h;rw[hm.run]at hd;have hp:=Oc (fun j st st'=>Kv hF 401 j st st') js ⟨s1,[e],0⟩ st hm.qr hm.jobs hd;obtain⟨l,h1,_⟩:=hp.evs;refine⟨hp.qr,by rw[h1];simp,?_⟩;have h2:=hp.ev;have h3:=hp.top (by dsimp only;omega);dsimp only[List.length_cons,List.length_nil]at h2;omega
variable{α:Type}{l:List α}
theorem LQ{r:α}(h:l[k]? =some r):l=l.take k++r::l.drop (k+1):=by
 rw[←Ae h,LM]
theorem UO{r:α}(h:l[k]? =some r)(r':α):l.set k r'=l.take k++r'::l.drop (k+1):=by
 have hk:=AH h;rw[List.set_eq_take_append_cons_drop,D1 hk]
variable{β:Type}{f:α→List β}
theorem iQ(h:(l.flatMap f).Nodup){j:Nat}{r r2:α}(hj:l[j]? =some r2)(hk:l[k]? =some r)(hjk:j≠k){x:β}(hx:x∈f r2):x∉f r:=by
 intro hy;rw[LQ hk,LC,D0,KW]at h;obtain⟨_,h2,h3⟩:=h;rw[KW]at h2;have hkl:=AH hk;have hjl:=AH hj;by_cases hlt:j<k
 .exact h3 x (Bv.2 ⟨r2,Ac (i:=j) (by rw[Io,D1 hlt];exact hj),hx⟩) x (GO _ hy) rfl
 .exact h2.2.2 x hy x (Bv.2 ⟨r2,Ac (i:=j-(k+1)) (by rw[Gs,show k+1+(j-(k+1))=j by omega];exact hj),hx⟩) rfl
variable{r':α}
theorem Qw(h:(l.flatMap f).Nodup){r:α}(hk:l[k]? =some r)(hn:(f r').Nodup)(hd: ∀x∈f r',x∈f r∨x∉l.flatMap f):((l.set k r').flatMap f).Nodup:=by
 have h0:=h;rw[LQ hk,LC,D0,KW]at h;obtain⟨h1,h2,h3⟩:=h;rw[KW]at h2;rw[UO hk,LC,D0,KW];have key: ∀x∈f r',x∉(l.take k).flatMap f∧x∉(l.drop (k+1)).flatMap f:=fun x hx=>by
  rcases hd x hx with hh|hh
  .exact⟨fun e=>h3 x e x (GO _ hh) rfl,fun e=>h2.2.2 x hh x e rfl⟩
  .rw[LQ hk,LC,D0]at hh;simp only[D5,not_or]at hh;exact⟨hh.1,hh.2.2⟩
 refine⟨h1,KW.2 ⟨hn,h2.2.1,fun a ha b hb e=>(key a ha).2 (by rw[e];exact hb)⟩,fun a ha b hb e=>?_⟩;rcases D5.1 hb with hb|hb
 .exact(key b hb).1 (by rw[←e];exact ha)
 .exact h3 a ha b (F8 _ hb) e
theorem Vc{r:α}(hk:l[k]? =some r){x:β}(hx:x∈(l.set k r').flatMap f):x∈l.flatMap f∨x∈f r':=by
 rw[UO hk,LC,D0]at hx;rw[LQ hk,LC,D0];simp only[D5]at*;rcases hx with h|h|h
 .exact .inl (.inl h)
 .exact .inr h
 .exact .inl (.inr (.inr h))
theorem PV{p:AI}{sz:List Int}{N:Abs.Id→Bool}{h h':AB}{m:Abs.Id}{V:MV}{st st':B7}{v3:AV}{rows:List (List AV)}(hM:Dt p sz h m V st)(hu:Kd N V m)
 (hb:h'.get m=some (.box (Ah p sz {V with v3:=v3,rows:=rows} st'.work))) (ha:ue h' v3 rows) (hc:zF h' rows st'.d9.be) (hq:(rows.flatMap Au).Nodup)
 (hi: ∀id,id∈AD v3∨id∈rows.flatMap Au→(id∈AD V.v3∨id∈V.rows.flatMap Au)∨(N id=true∧ ∃l,id=1::l)) (ho: ∀j,j<4→Ax st' j=Ax st j)
 (hk: ∀id,id≠m→id∉AD V.v3→id∉V.rows.flatMap Au→N id=false→h'.get id=h.get id):MR p sz N m V h st' h':=by
 have hne: ∀id,(∀cs,h.get id≠some (.box cs))→id≠m:=fun id hh e=>hh _ (by subst e;exact hM.box);refine⟨{V with v3:=v3,rows:=rows},⟨hb,?_,fun j hj=>?_,ha,hc,hM.gw,hq⟩,fun id hid=>?_,fun id h1 h2=>hk id (fun e=>h1 (by rw[e];exact V.m_mem m)) (fun e=>h1 (V.v3_mem m e)) (fun e=>h1 (V.row_mem m e)) h2⟩
 .show h'.get V.pp=_;rw[hk _ (hne _ (by rw[hM.pp];simp)) (fun e=>?_) (fun e=>?_) (hu _ (V.acts_mem m))]
  .exact hM.pp
  .have:=Gu hM.arr e;rw[hM.pp]at this;cases this
  .obtain⟨x,hx⟩:=J9 hM.be e;rw[hM.pp]at hx;cases hx
 .rw[ho j hj];refine C9 (hM.sl j hj) fun id hid=>?_;obtain⟨x,hx⟩:=ED (hM.sl j hj) hid;refine hk id (hne _ (by rw[hx];simp)) (fun e=>?_) (fun e=>?_) (hu _ (V.s_mem m hj hid))
  .have:=Gu hM.arr e;rw[hx]at this;cases this
  .obtain⟨y,hy⟩:=J9 hM.be e;rw[hx]at hy
   match j,hj with
   |0,_|1,_|2,_|3,_=>simp[Ff]at hy
 .rcases(({V with v3:=v3,rows:=rows}:MV).mem m id).1 hid with hh|hh|⟨j,hj,hh⟩|hh|hh
  .exact .inl (by rw[hh];exact V.m_mem m)
  .exact .inl (by rw[hh];exact V.acts_mem m)
  .exact .inl (V.s_mem m hj hh)
  .exact(hi id (.inl hh)).imp_left fun e=>e.elim (V.v3_mem m) (V.row_mem m)
  .exact(hi id (.inr hh)).imp_left fun e=>e.elim (V.v3_mem m) (V.row_mem m)
variable{h:AB}{m:Abs.Id}{V:MV}
theorem Rn{p:AI}{sz:List Int}{N:Abs.Id→Bool}{A:Abs.Id}{q:Fg}{v:AV}(hM:Dt p sz h m V st)(hu:Kd N V m)(hA:V.v3=.f8 A 0 V.rows.length)(hq:st.d9.be[k]? =some q)(hr:V.rows[k]? =some (Aq q v))(l:List (List CW))
 (v':AV) (h':AB) (a1:h'.get m=some (.box (Ah p sz V st.work))) (a0:h'.get A=some (.arr 4 (V.rows.set k (Aq q v')))) (a2:Kc h' 1 v' (l.map BF)) (a3:AD v'=AD v∨ ∀id∈AD v',N id=true∧ ∃l,id=1::l)
 (a4: ∀id,Id.is m id=false→Id.is A id=false→(∀id2∈AD v,Id.is id2 id=false)→N id=false→h'.get id=h.get id):MR p sz N m V h {st with d9:={st.d9 with be:=st.d9.be.set k {q with queue:=l}}} h':=by
 have hAi:AD V.v3=[A]:=by rw[hA];rfl
 have hvr: ∀x,x∈AD v→x∈V.rows.flatMap Au:=fun x hx=>Bv.2 ⟨_,Ac hr,by rw[BX];exact hx⟩;have hfr: ∀id,id≠m→id∉AD V.v3→id∉AD v→N id=false→h'.get id=h.get id:=fun id b1 b2 b3 b4=>a4 id (AE fun e=>b1 e.symm) (AE fun e=>b2 (by rw[hAi,←e];simp)) (fun id2 hid=>AE fun e=>b3 (by rw[←e];exact hid)) b4;have hv1:(AD v').Nodup∧(AD v').length≤1:=by
  rcases a2 with⟨rfl,_⟩|⟨i,x,rfl,_⟩<;>simp[AD]
 have hlen:(V.rows.set k (Aq q v')).length=V.rows.length:=by simp
 refine PV (v3:=V.v3) (rows:=V.rows.set k (Aq q v')) hM hu a1 (.inr ⟨A,by rw[hlen];exact hA,a0⟩) ⟨?_,fun j q2 hj=>?_⟩ ?_ (fun id hid=>?_) (fun j hj=>by match j,hj with|0,_|1,_|2,_|3,_=>rfl) fun id b1 b2 b3 b4=>hfr id b1 b2 (fun e=>b3 (hvr id e)) b4
 .simp[hM.be.len]
 .dsimp only at hj;rw[HU]at hj⊢;have hkl:=AH hr;by_cases hjk:k=j
  .have hkl2:=AH hq;rw[D1 hjk,D1 hkl2]at hj;rw[D1 hjk,D1 hkl];cases hj;exact⟨v',rfl,a2⟩
  .rw[Ci hjk]at hj⊢;obtain⟨w,hw,hs⟩:=hM.be.row j q2 hj;refine⟨w,hw,C9 hs fun id hid=>?_⟩;have hmem:id∈V.rows.flatMap Au:=Bv.2 ⟨_,Ac hw,by rw[BX];exact hid⟩;obtain⟨x,hx⟩:=ED hs hid;refine hfr id (fun e=>?_) (fun e=>?_) ?_ (hu _ (V.row_mem m hmem))
   .rw[e,hM.box]at hx;cases hx
   .rw[Gu hM.arr e]at hx;cases hx
   .have:=iQ hM.qd hw hr (fun e=>hjk e.symm) (x:=id) (by rw[BX];exact hid)
    rwa [BX]at this
 .refine Qw hM.qd hr (by rw[BX];exact hv1.1) fun x hx=>?_;rw[BX]at hx⊢;rcases a3 with e|e
  .exact .inl (by rw[←e];exact hx)
  .refine .inr fun hh=>?_;have:=hu _ (V.row_mem m hh);rw[(e x hx).1]at this;cases this
 .rcases hid with hid|hid
  .exact .inl (.inl hid)
  .rcases Vc hr hid with hh|hh
   .exact .inl (.inr hh)
   .rw[BX]at hh;rcases a3 with e|e
    .rw[e]at hh;exact .inl (.inr (hvr id hh))
    .exact .inr (e id hh)
variable{π:List Nat}{n:Nat}{H:AB}
theorem Oi{p:AI}{sz:List Int}{g:AB}{r:Option B7}{o:AZ}(hu:Bn π V m)(hl: ∀id,Id.under π id=false→H.get id=h.get id)(ho:Eo p sz (n::π) m V H r o g):Eo p sz π m V h r o (gc (n::π) g):=by
 cases r with
 |none=>exact⟨ho.1,fun id h1 h2=>by rw[Al _ _ _ (AF h2 n),ho.2 id h1 (AF h2 n),hl id h2]⟩
 |some st'=>
  obtain⟨h1,V',hM,hK⟩:=ho;refine⟨h1,V',fF hM hK (hu.ext n),fun id hid=>(hK.ids id hid).imp_right fun hh=>⟨BD hh.1,hh.2⟩,fun id a b=>?_⟩;rw[Al _ _ _ (AF b n),hK.frame id a (AF b n),hl id b]
theorem Oj{p:AI}{sz:List Int}(hM:Dt p sz h m V st)(hu:Bn π V m)(hl: ∀id,Id.under π id=false→H.get id=h.get id):Eo p sz π m V h (some st) (.ret (.it [])) H:=⟨rfl,V,Dd hM hu hl,qw hl⟩
theorem Il{f:α→List AR}{g:AB}{sz:Nat}{v:AV}(h:Kc g sz v (l.map f)){y:α}(hy:l[k]? =some y): ∃id xs,v=.f8 id 0 l.length∧g.get id=some (.d7 sz (l.map f++xs))∧(l.map f++xs)[k]? =some (f y)∧k<l.length∧k<l.length+xs.length:=by
 have hk:=AH hy;rcases h with⟨_,h⟩|⟨id,xs,rfl,h⟩
 .rw[F9.1 h]at hk;simp at hk
 .exact⟨id,xs,by rw[BY],h,by rw[Be (by simpa using hk),Cs,hy];rfl,hk,by omega⟩
theorem B6{n':Nat}{id:Abs.Id}(h:Id.under (n::π) id=true)(h':Id.under (n'::π) id=true):n=n':=by
 rw[under_iff]at h h';have:=List.suffix_of_suffix_length_le h h' (by simp);have:=this.eq_of_length (by simp);simpa using this
structure Bz(p:AI)(sz:List Int)(π:List Nat)(m:Abs.Id)(V:MV)(h:AB)(b:Nat)(V':MV)(st:B7)(g:AB):Prop where
 rep:Dt p sz g m V' st
 ids: ∀id∈V'.ids m,id∈V.ids m∨ ∃n,n<b∧Id.under (n::π) id=true∧ ∃l,id=1::l
 frame: ∀id,id∉V.ids m→Id.under π id=false→g.get id=h.get id
section
variable{p:AI}{sz:List Int}{π:List Nat}{m:Abs.Id}{V V':MV}{h g H g1:AB}{b:Nat}{st:B7}
theorem Ev{b':Nat}{id:Abs.Id}(hu:Bn π V m)(hi:id∈V.ids m∨ ∃n,n<b∧Id.under (n::π) id=true∧ ∃l,id=1::l)(a n:Nat)(hn:b≤n):Id.is (a::n::π) id=false:=by
 rcases hi with hi|⟨k,hk,hk2,_⟩
 .exact AG (hu id hi) a n
 .refine AE fun e=>?_;subst e;have:=B6 hk2 (n':=n) (under_iff.2 ⟨[a],rfl⟩);omega
theorem Jv{id:Abs.Id}(hu:Bn π V m)(hi:id∈V.ids m∨ ∃n,n<b∧Id.under (n::π) id=true∧ ∃l,id=1::l)(a n:Nat)(hn:b≤n):Id.is id (a::n::π)=false:=by
 have:=Ev (b':=b) hu hi a n hn;exact AE fun e=>by rw[e,is_self]at this;cases this
theorem O0(hM:Dt p sz h m V st)(hu:Bn π V m)(hl: ∀id,Id.under π id=false→g.get id=h.get id):Bz p sz π m V h 0 V st g:=
 ⟨Dd hM hu hl,fun id hid=>.inl hid,fun id _ hh=>hl id hh⟩
theorem Bz.up(hr:Bz p sz π m V h b V' st g){b':Nat}(hb:b≤b'):Bz p sz π m V h b' V' st g:=
 ⟨hr.rep,fun id hid=>(hr.ids id hid).imp_right fun⟨n,h1,h2⟩=>⟨n,by omega,h2⟩,hr.frame⟩
theorem Bz.loc(hu:Bn π V m)(hr:Bz p sz π m V h b V' st g)(hl: ∀id,(∀a n,b≤n→Id.is (a::n::π) id=false)→H.get id=g.get id):Bz p sz π m V h b V' st H:=
 ⟨B4 hr.rep fun id hid=>hl id fun a n hn=>Ev (b':=b) hu (hr.ids id hid) a n hn,hr.ids,fun id h1 h2=>by rw[hl id fun a n _=>AG h2 a n];exact hr.frame id h1 h2⟩
variable{n:Nat}
theorem Bz.apart(hu:Bn π V m)(hr:Bz p sz π m V h b V' st g)(hn:b≤n):Bn (n::π) V' m:=fun id hid=>by
 rcases hr.ids id hid with hh|⟨k,h1,h2,_⟩
 .exact AF (hu id hh) n
 .cases hx:Id.under (n::π) id with
  |false=>rfl
  |true=>
   have:=B6 h2 hx;omega
theorem Bz.fin(hr:Bz p sz π m V h b V' st g):Eo p sz π m V h (some st) (.ret (.it [])) g:=
 ⟨rfl,V',hr.rep,fun id hid=>(hr.ids id hid).imp_right fun⟨n,_,h2,h3⟩=>⟨BD h2,h3⟩,hr.frame⟩
variable{o:AZ}
theorem Bz.call(hu:Bn π V m)(hr:Bz p sz π m V h b V' st H){st':B7}(hn:b≤n)(ho:Eo p sz (n::π) m V' H (some st') o g1): ∃V'',Bz p sz π m V h (n+1) V'' st' (gc (n::π) g1)∧ ∀id,id∉V'.ids m→Id.under (n::π) id=false→id∉V''.ids m:=by
 obtain⟨_,V'',hM,hK⟩:=ho;have hap:=hr.apart hu hn;refine⟨V'',⟨fF hM hK hap,fun id hid=>?_,fun id h1 h2=>?_⟩,fun id h1 h2 h3=>?_⟩
 .rcases hK.ids id hid with hh|⟨h1,h2⟩
  .exact(hr.ids id hh).imp_right fun⟨k,a,c⟩=>⟨k,by omega,c⟩
  .exact .inr ⟨n,by omega,h1,h2⟩
 .rw[Al _ _ _ (AF h2 n),hK.frame id (fun hh=>?_) (AF h2 n)]
  .exact hr.frame id h1 h2
  .rcases hr.ids id hh with hh|⟨k,_,h3,_⟩
   .exact h1 hh
   .rw[BD h3]at h2;cases h2
 .rcases hK.ids id h3 with hh|⟨hh,_⟩
  .exact h1 hh
  .rw[h2]at hh;cases hh
theorem Bz.f9(hu:Bn π V m)(hr:Bz p sz π m V h b V' st H)(hn:b≤n)(ho:Eo p sz (n::π) m V' H none o g1):Eo p sz π m V h none o (gc (n::π) g1):=by
 obtain⟨h1,h2⟩:=ho;refine⟨h1,fun id a c=>?_⟩;rw[Al _ _ _ (AF c n),h2 id (fun hh=>?_) (AF c n)]
 .exact hr.frame id a c
 .rcases hr.ids id hh with hh|⟨k,_,h3,_⟩
  .exact a hh
  .rw[BD h3]at c;cases c
theorem Tu{r:Option B7}(ho:Eo p sz (n::π) m V' H r o g1){id:Abs.Id}(h1:id∉V'.ids m)(h2:Id.under (n::π) id=false):(gc (n::π) g1).get id=H.get id:=by
 rw[Al _ _ _ h2];cases r with
 |none=>exact ho.2 _ h1 h2
 |some st'=>
  obtain⟨_,V'',_,hK⟩:=ho;exact hK.frame _ h1 h2
theorem Gr(hr:Bz p sz π m V h b V' st H)(hu:Bn π V m)(k:Nat):0::k::π∉V'.ids m:=fun hh=>by
 rcases hr.ids _ hh with hh|⟨_,_,_,l,e⟩
 .have:=hu _ hh;rw[show Id.under π (0::k::π)=true from under_iff.2 ⟨[0,k],rfl⟩]at this;cases this
 .cases e
variable{k:Nat}
theorem AW(π:List Nat)(h:k≠n):Id.under (n::π) (0::k::π)=false:=by
 cases hx:Id.under (n::π) (0::k::π)with
 |false=>rfl
 |true=>
  have:=B6 hx (n':=k) (under_iff.2 ⟨[0],rfl⟩);omega
theorem Bz.box(hu:Bn π V m)(hr:Bz p sz π m V h b V' st H){r:Option B7}(hk:k≠n)(ho:Eo p sz (n::π) m V' H r o g1):(gc (n::π) g1).get (0::k::π)=H.get (0::k::π):=by
 have h1:=AW π hk;rw[Al _ _ _ h1];have h2:=Gr hr hu k;cases r with
 |none=>exact ho.2 _ h2 h1
 |some st'=>
  obtain⟨_,V'',_,hK⟩:=ho;exact hK.frame _ h2 h1
end
def H6(p:AI)(sz:List Int)(k:Nat):Prop:= ∀(h:AB) (π:List Nat) (m:Abs.Id) (V:MV) (st:B7) (j:Fq),Dt p sz h m V st→Bn π V m→FB p sz st.d9→CQ p sz st.d9 j→0≤st.work→st.work≤400→401≤st.work+k→(st.ev.length:Int)≤900000+st.work→
 ∃o h',KL Tryz.prog cfg (.fn 66) [.ptr m 0,.d (.int .i64 j.node),.d (.int .i64 j.at_),.d (.ce (j.env.map AJ))] h π true none=.ok (o,h')∧Eo p sz π m V h (FX p k j st) o h'
structure OG(p:AI)(sz:List Int)(k:Nat)(st:B7):Prop where
 qr:FB p sz st.d9
 w0:0≤st.work
 w1:st.work≤400
 w2:401≤st.work+k
 ev:(st.ev.length:Int)≤900000+st.work
theorem OG.post{p:AI}{sz:List Int}{k:Nat}{st st':B7}(h:OG p sz k st)(hp:JU p sz st st'):OG p sz k st':=⟨hp.qr,by have:=hp.work;have:=h.w0;omega,hp.top h.w1,by have:=hp.work;have:=h.w2;omega,by have:=hp.ev;have:=h.ev;omega⟩
end Go.Proofs
namespace Go.Abs
def zY:Nat→Code→Code
 |n+1,.seq _ y=>zY n y
 |_,c=>c
def gR:Nat→Code→Code→Code
 |n+1,.seq x y,t=>.seq x (gR n y t)
 |0,_,t=>t
 |_,c,_=>c
theorem pH: ∀(n:Nat) (c:Code),gR n c (zY n c)=c
 |0,c=>by cases c<;>rfl
 |n+1,c=>by
  cases c with
  |seq x y=>rw[zY,gR,pH n y]
  |_=>rfl
theorem uJ{C:B9}{K:AK}{fr:Fr}{b:Nat}{c:Code}{st:St}{Q:DW→St→Prop}(n:Nat)(h: ∀T,T=zY n c→Wp C K fr b (gR n c T) st Q):Wp C K fr b c st Q:=by
 have:=h _ rfl
 rwa [pH]at this
end Go.Abs
namespace Go.Proofs
open Go Go.Abs
noncomputable def HG(b b':Nat)(π:List Nat)(id:Abs.Id):Bool:= @decide (∃n,b≤n∧n<b'∧Id.under (n::π) id=true) (Classical.propDecidable _)
variable{b b':Nat}{π:List Nat}
theorem IZ{id:Abs.Id}:HG b b' π id=true↔ ∃n,b≤n∧n<b'∧Id.under (n::π) id=true:=by
 unfold HG;rw[@decide_eq_true_eq _ (Classical.propDecidable _)]
theorem Cp{b b':Nat}{π:List Nat}{id:Abs.Id}(h:HG b b' π id=false)(a n:Nat)(h1:b≤n)(h2:n<b'):Id.is (a::n::π) id=false:=AE fun e=>by
 subst e;have:HG b b' π (a::n::π)=true:=IZ.2 ⟨n,h1,h2,under_iff.2 ⟨[a],rfl⟩⟩;rw[h]at this;cases this
theorem KN(n:Nat)(l:List Nat)(h1:b≤n)(h2:n<b'):HG b b' π (l++n::π)=true:=IZ.2 ⟨n,h1,h2,under_iff.2 ⟨l,rfl⟩⟩
section
variable{p:AI}{sz:List Int}{π:List Nat}{m:Abs.Id}{V V':MV}{h g H g1:AB}{b b':Nat}{st st':B7}
theorem Bz.apartB(hu:Bn π V m)(hr:Bz p sz π m V h b V' st g):Kd (HG b b' π) V' m:=fun id hid=>by
 cases hx:HG b b' π id with
 |false=>rfl
 |true=>
  obtain⟨n,h1,_,h2⟩:=IZ.1 hx;rcases hr.ids id hid with hh|⟨k,h3,h4,_⟩
  .have:=hu id hh;rw[BD h2]at this;cases this
  .have:=B6 h4 h2;omega
theorem Bz.step(hb:b≤b')(hr:Bz p sz π m V h b V' st g)(hp:MR p sz (HG b b' π) m V' g st' H): ∃V2,Bz p sz π m V h b' V2 st' H∧ ∀id,id∉V'.ids m→HG b b' π id=false→id∉V2.ids m:=by
 obtain⟨V2,hM,hK⟩:=hp;refine⟨V2,⟨hM,fun id hid=>?_,fun id h1 h2=>?_⟩,fun id h1 h2 h3=>?_⟩
 .rcases hK.ids id hid with hh|⟨hh,hl⟩
  .exact(hr.ids id hh).imp_right fun⟨n,a,c⟩=>⟨n,by omega,c⟩
  .obtain⟨n,_,h2,h3⟩:=IZ.1 hh;exact .inr ⟨n,h2,h3,hl⟩
 .have hnb:HG b b' π id=false:=by
   cases hx:HG b b' π id with
   |false=>rfl
   |true=>
    obtain⟨n,_,_,h3⟩:=IZ.1 hx;rw[BD h3]at h2;cases h2
  rw[hK.frame id (fun hh=>?_) hnb]
  .exact hr.frame id h1 h2
  .rcases hr.ids id hh with hh|⟨k,_,h3,_⟩
   .exact h1 hh
   .rw[BD h3]at h2;cases h2
 .rcases hK.ids id h3 with hh|⟨hh,_⟩
  .exact h1 hh
  .rw[h2]at hh;cases hh
end
theorem Nz{b b' n:Nat}{π:List Nat}{id:Abs.Id}(hn:n<b)(hu:Id.under (n::π) id=true):HG b b' π id=false:=by
 cases hx:HG b b' π id with
 |false=>rfl
 |true=>
  obtain⟨k,h1,_,h2⟩:=IZ.1 hx;have:=B6 hu h2;omega
theorem pC{p:AI}{sz:List Int}{N:Abs.Id→Bool}{h:AB}{m:Abs.Id}{V:MV}{st:B7}(hM:Dt p sz h m V st)(hu:Kd N V m){q:Fg}(hq:q.queue=[])(A:Abs.Id)(h':AB)
 (a1:h'.get m=some (.box (Ah p sz {V with v3:=.f8 A 0 (V.rows.length+1)} st.work))) (a0:h'.get A=some (.arr 4 (V.rows++[Aq q .co]))) (a3:N A=true∧ ∃l,A=1::l)
 (a4: ∀id,Id.is m id=false→(∀id2∈AD V.v3,Id.is id2 id=false)→N id=false→h'.get id=h.get id):MR p sz N m V h {st with d9:={st.d9 with be:=st.d9.be++[q]}} h':=by
 have hfr: ∀id,id≠m→id∉AD V.v3→N id=false→h'.get id=h.get id:=fun id b1 b2 b3=>a4 id (AE fun e=>b1 e.symm) (fun id2 hid=>AE fun e=>b2 (by rw[←e];exact hid)) b3;have hids:(V.rows++[Aq q .co]).flatMap Au=V.rows.flatMap Au:=by simp[BX,AD]
 refine PV (v3:=.f8 A 0 (V.rows.length+1)) (rows:=V.rows++[Aq q .co]) hM hu a1 (.inr ⟨A,by simp,a0⟩) ⟨by simp[hM.be.len],fun j q2 hj=>?_⟩ (by rw[hids];exact hM.qd) (fun id hid=>?_) (fun j hj=>by match j,hj with|0,_|1,_|2,_|3,_=>rfl) fun id b1 b2 _ b4=>hfr id b1 b2 b4
 .have hj2:(st.d9.be++[q])[j]? =some q2:=hj;have hl:=hM.be.len;by_cases hjl:j<st.d9.be.length
  .rw[Be hjl]at hj2;obtain⟨v,h1,h2⟩:=hM.be.row j q2 hj2;refine⟨v,by rw[Be (by omega)];exact h1,C9 h2 fun id hid=>?_⟩;have hmem:id∈V.rows.flatMap Au:=Bv.2 ⟨_,Ac h1,by rw[BX];exact hid⟩;obtain⟨x,hx⟩:=ED h2 hid;refine hfr id (fun e=>?_) (fun e=>?_) (hu _ (V.row_mem m hmem))
   .rw[e,hM.box]at hx;cases hx
   .rw[Gu hM.arr e]at hx;cases hx
  .have hlt:=AH hj2;rw[CE,IN]at hlt;obtain rfl:j=st.d9.be.length:=by omega
   rw[CI (by omega)]at hj2;simp only[LI,Es,Bi]at hj2;subst hj2;exact⟨.co,by rw[CI (by omega),hl];simp,.inl ⟨rfl,by rw[hq];rfl⟩⟩
 .rw[hids]at hid;rcases hid with hid|hid
  .simp only[AD,As]at hid;rw[hid];exact .inr a3
  .exact .inl (.inr hid)
structure NB(p:AI)(sz:List Int)(π:List Nat)(m:Abs.Id)(V:MV)(h:AB)(b n:Nat)(V':MV)(g:AB)(r:Option B7)(o:AZ)(g':AB):Prop where
 box: ∀k,k<b→g'.get (0::k::π)=g.get (0::k::π)
 rg: ∀i,i∉V'.ids m→(∀a k,b≤k→Id.is (a::k::π) i=false)→Id.under (n::π) i=false→g'.get i=g.get i
 f9:r=none→o=.f9 (CA 3)∧Eo p sz π m V h none o g'
 ret: ∀st2,r=some st2→o=.ret (.it [])∧ ∃V2,Bz p sz π m V h (n+1) V2 st2 g'∧ ∀i,i∉V'.ids m→Id.under (n::π) i=false→i∉V2.ids m
theorem fx{p:AI}{sz:List Int}{π:List Nat}{m:Abs.Id}{V V':MV}{h g H g1:AB}{b n:Nat}{st:B7}{r:Option B7}{o:AZ}(hu:Bn π V m)(hr:Bz p sz π m V h b V' st g)(hl: ∀id,(∀a n,b≤n→Id.is (a::n::π) id=false)→H.get id=g.get id)(hn:b≤n)(ho:Eo p sz (n::π) m V' H r o g1):NB p sz π m V h b n V' g r o (gc (n::π) g1):=by
 have hr2:=hr.loc hu hl;refine⟨fun k hk=>?_,fun i h1 h2 h3=>?_,fun e=>?_,fun st2 e=>?_⟩
 .rw[hr2.box hu (by omega) ho];exact hl _ fun a n hn=>AE fun e=>by simp at e;omega
 .rw[Tu ho h1 h3];exact hl i h2
 .subst e;exact⟨ho.1,hr2.f9 hu hn ho⟩
 .subst e;exact⟨ho.1,hr2.call hu hn ho⟩
theorem TM{p:AI}{sz:List Int}{k:Nat}(IH0:H6 p sz k){π:List Nat}{m:Abs.Id}{V V':MV}{h g:AB}{b:Nat}{st:B7}(hu:Bn π V m)(hr:Bz p sz π m V h b V' st g)(hI:OG p sz k st){j:Fq}(hj:CQ p sz st.d9 j)(H:AB)(n:Nat)(hn:b≤n)(hl: ∀id,(∀a n,b≤n→Id.is (a::n::π) id=false)→H.get id=g.get id):
 ∃o g1,KL Tryz.prog cfg (.fn 66) [.ptr m 0,.d (.int .i64 j.node),.d (.int .i64 j.at_),.d (.ce (j.env.map AJ))] H (n::π) true none=.ok (o,g1)∧NB p sz π m V h b n V' g (FX p k j st) o (gc (n::π) g1):=by
 have hr2:=hr.loc hu hl;obtain⟨o,g1,h1,h2⟩:=IH0 H (n::π) m V' st j hr2.rep (hr2.apart hu hn) hI.qr hj hI.w0 hI.w1 hI.w2 hI.ev;exact⟨o,g1,h1,fx hu hr hl hn h2⟩
end Go.Proofs
namespace Go.Proofs
open Go Go.Abs
set_option maxRecDepth 100000
set_option maxHeartbeats 4000000
@[go_sem] theorem ACp(n m:Int):BU (KL Tryz.prog cfg) 58 [.d (.int .i64 n),.d (.int .i64 m)] []=Bf (CA 3) (decide (n≤m)):=by
  by_cases h:n≤m
  .rw[D7 h,KS]
   (refine Ao rfl Tryz.func58 rfl rfl rfl ?_;show Wp _ _ _ _ (Tryz.f58.body.get rfl) _ _;simp only[Tryz.f58,AS])
   (repeat' (first|simp only[go_sem, *]|(refine sx ?_ ?_<;>intro hc)|refine sy (by omega) fun x hx hm=>?_|simp(disch:=first|assumption|omega) only[AN]))
   all_goals omega
  .rw[D4 h,JR]
   (refine Ao rfl Tryz.func58 rfl rfl rfl ?_;show Wp _ _ _ _ (Tryz.f58.body.get rfl) _ _;simp only[Tryz.f58,AS])
   (repeat' (first|simp only[go_sem, *]|(refine sx ?_ ?_<;>intro hc)|refine sy (by omega) fun x hx hm=>?_|simp(disch:=first|assumption|omega) only[AN]))
   all_goals omega
theorem IM{p:AI}{sz:List Int}{h:AB}{π:List Nat}{m:Abs.Id}{V:MV}{st:B7}(hM:Dt p sz h m V st)(hu:Bn π V m)(d a n r:Int)(l:List CW)(hl:l.length≤1000000)(he:st.ev.length≤1000000):
 ∃o h',KL Tryz.prog cfg (.fn 103) [.ptr m 0,.d (.int .i64 (d)),.d (.int .i64 (a)),.d (.int .i64 (n)),.d (.int .i64 (r)),.d (.ce (l.map AJ))] h π true none=.ok (o,h')∧Eo p sz π m V h (some {st with ev:=st.ev++[⟨d,a,n,r,l⟩]}) o h':=by
 have go:=AA.mk (HP (st':={st with ev:=st.ev++[⟨d,a,n,r,l⟩]}) 3 (by omega) hM hu (ACD rfl) rfl)
 have hm:=hM.box;have um:=hu m (V.m_mem m);have hv:=hM.sl 3 (by omega);have hw:=fun id hid=>hu id (V.s_mem m (i:=3) (by omega) hid);simp only[Ah]at hm;simp only[Ff,Ax]at hv;have e1:=AG um;have e2:=Av um;have e3:=Dj um;have e4:=Jw um;have h1:=JQ l hl;replace hM:=AA.mk hM;replace hu:=AA.mk hu;rcases hv with⟨hv,hz⟩|⟨id,x,hv,hg⟩
 .rw[hv]at hm;replace hz:=AA.mk (F9.1 hz);replace hw:=AA.mk hw;by_cases h0:l.length=0;all_goals
   (first|(obtain rfl:=Dl h0;simp only[List.length_nil,CH,CO]at h1)|simp only[Cr h0]at h1);have fa:=CK
   (refine Af rfl Tryz.func103 rfl rfl rfl ?_;show Wp _ _ _ _ (Tryz.f103.body.get rfl) _ _;simp only[Tryz.f103,AS])
   refine ax ?_;refine⟨rfl,?_⟩
   (refine go.out (.f8 (1::13::π) 0 1) _ ?_ (BP [] (by simp[Ax,hz.out]) ?_) (.inr fun id2 hid=>?_) (fun id2 b1 b2 b3=>?_);all_goals (try simp only[Ax,Ff,hz.out,D8]);all_goals (first|(simp only[AD,As]at hid;subst hid;exact⟨Ab [1,13],_,rfl⟩)|(have q1:=AG b3;have q3:=Dj b3;simp only[go_sem,q1,q3,b1,AM];done)|(simp;done)|(simp only[go_sem,e1,e2,e3,e4,By,CO,AM];first|done|rfl)))
 .rw[hv]at hm;have ui:=hw id (by rw[hv];simp[AD]);have i1:=AG ui;have i2:=Av ui;have i3:=Dj ui;have i4:=Jw ui;replace hw:=AA.mk hw;simp only[BY]at hm;have him:Id.is id m=false:=AE fun e=>by rw[e,hm]at hg;cases hg
  have hmi:Id.is m id=false:=AE fun e=>by rw[←e,hm]at hg;cases hg
  replace hv:=AA.mk hv;have n1: ∀v,v=.f8 id 0 (st.ev.length+1)→AD v=AD (V.s 3):=fun v e=>by rw[e,hv.out];rfl
  have n2: ∀id3,(∀id2∈AD (V.s 3),Id.is id2 id3=false)→Id.is id id3=false:=fun id3 b=>b id (by rw[hv.out];simp[AD]);by_cases h0:l.length=0;all_goals rcases x with _|⟨y,x⟩
  all_goals
   (first|(obtain rfl:=Dl h0;simp only[List.length_nil,CH,CO]at h1)|simp only[Cr h0]at h1);have fa:=CK
   (refine Af rfl Tryz.func103 rfl rfl rfl ?_;show Wp _ _ _ _ (Tryz.f103.body.get rfl) _ _;simp only[Tryz.f103,AS])
   refine ax ?_;refine⟨rfl,?_⟩
   (first|(refine go.out (.f8 (1::13::π) 0 (st.ev.length+1)) _ ?_ (BP [] ?_ ?_) (.inr fun id2 hid=>?_) (fun id2 b1 b2 b3=>?_);all_goals (try simp only[Ax,Ff]);all_goals (first|(simp only[AD,As]at hid;subst hid;exact⟨Ab [1,13],_,rfl⟩)|(have q1:=AG b3;have q3:=Dj b3;have q5:=n2 _ b2;simp only[go_sem,q1,q3,b1,q5,AM];done)|(simp;done)|(simp only[go_sem,e1,e2,e3,e4,i1,i2,i3,i4,him,hmi,By,CO,AM];first|done|rfl));done)|(refine go.out (.f8 id 0 (st.ev.length+1)) _ ?_ (BP x ?_ ?_) (.inl (n1 _ rfl)) (fun id2 b1 b2 b3=>?_);all_goals (try simp only[Ax,Ff]);all_goals (first|(simp only[AD,As]at hid;subst hid;exact⟨Ab [1,13],_,rfl⟩)|(have q1:=AG b3;have q3:=Dj b3;have q5:=n2 _ b2;simp only[go_sem,q1,q3,b1,q5,AM];done)|(simp;done)|(simp only[go_sem,e1,e2,e3,e4,i1,i2,i3,i4,him,hmi,By,CO,AM];first|done|rfl))))
theorem yz{p:AI}{sz:List Int}{h:AB}{π:List Nat}{m:Abs.Id}{V:MV}{st:B7}(hM:Dt p sz h m V st)(hu:Bn π V m)(j:Fq)(hl:j.env.length≤1000000)(he:st.d9.waits.length≤1000000):
 ∃o h',KL Tryz.prog cfg (.fn 114) [.ptr m 0,.agg [.d (.int .i64 (j.node)),.d (.int .i64 (j.at_)),.d (.ce (j.env.map AJ))]] h π true none=.ok (o,h')∧Eo p sz π m V h (Hh j st) o h':=by
 have go:=AA.mk (HP (st':={st with d9:={st.d9 with waits:=st.d9.waits++[⟨j.at_,j.node,j.env⟩]}}) 2 (by omega) hM hu (qi rfl rfl rfl) rfl)
 have gf:=AA.mk fun v h' a1 a2 a3 a4=>PW (go.out v h' a1 a2 a3 a4);have hd:AA (Hh j st=if st.d9.waits.length<40 then some {st with d9:={st.d9 with waits:=st.d9.waits++[⟨j.at_,j.node,j.env⟩]}}else none):=⟨rfl⟩
 have hm:=hM.box;have um:=hu m (V.m_mem m);have hv:=hM.sl 2 (by omega);have hw:=fun id hid=>hu id (V.s_mem m (i:=2) (by omega) hid);simp only[Ah]at hm;simp only[Ff,Ax]at hv;have e1:=AG um;have e2:=Av um;have e3:=Dj um;have e4:=Jw um;have h1:=JQ j.env hl;replace hM:=AA.mk hM;replace hu:=AA.mk hu;rcases hv with⟨hv,hz⟩|⟨id,x,hv,hg⟩
 .rw[hv]at hm;replace hz:=AA.mk (F9.1 hz);replace hw:=AA.mk hw;obtain⟨jn,ja,l⟩:=j;dsimp only at*;by_cases h0:l.length=0;all_goals
   (first|(obtain rfl:=Dl h0;simp only[List.length_nil,CH,CO]at h1)|simp only[Cr h0]at h1);have fa:=CK
   (refine Af rfl Tryz.func114 rfl rfl rfl ?_;show Wp _ _ _ _ (Tryz.f114.body.get rfl) _ _;simp only[Tryz.f114,AS])
   refine ax ?_;rw[hd.out,D1 (by rw[hz.out];decide)];refine⟨rfl,?_⟩
   (refine go.out (.f8 (1::16::π) 0 1) _ ?_ (BP [] (by simp[Ax,hz.out]) ?_) (.inr fun id2 hid=>?_) (fun id2 b1 b2 b3=>?_);all_goals (try simp only[Ax,Ff,hz.out,D8]);all_goals (first|(simp only[AD,As]at hid;subst hid;exact⟨Ab [1,16],_,rfl⟩)|(have q1:=AG b3;have q3:=Dj b3;simp only[go_sem,q1,q3,b1,AM];done)|(simp;done)|(simp only[go_sem,e1,e2,e3,e4,By,CO,AM];first|done|rfl)))
 .rw[hv]at hm;have ui:=hw id (by rw[hv];simp[AD]);have i1:=AG ui;have i2:=Av ui;have i3:=Dj ui;have i4:=Jw ui;replace hw:=AA.mk hw;simp only[BY]at hm;have him:Id.is id m=false:=AE fun e=>by rw[e,hm]at hg;cases hg
  have hmi:Id.is m id=false:=AE fun e=>by rw[←e,hm]at hg;cases hg
  replace hv:=AA.mk hv;have n1: ∀v,v=.f8 id 0 (st.d9.waits.length+1)→AD v=AD (V.s 2):=fun v e=>by rw[e,hv.out];rfl
  have n2: ∀id3,(∀id2∈AD (V.s 2),Id.is id2 id3=false)→Id.is id id3=false:=fun id3 b=>b id (by rw[hv.out];simp[AD]);obtain⟨jn,ja,l⟩:=j;dsimp only at*;by_cases h0:l.length=0;all_goals rcases x with _|⟨y,x⟩
  all_goals
   (first|(obtain rfl:=Dl h0;simp only[List.length_nil,CH,CO]at h1)|simp only[Cr h0]at h1);have fa:=CK
   (refine Af rfl Tryz.func114 rfl rfl rfl ?_;show Wp _ _ _ _ (Tryz.f114.body.get rfl) _ _;simp only[Tryz.f114,AS])
   (repeat' (first|simp only[go_sem, *,AM]|(refine sx ?_ ?_<;>intro hc)|refine sy (by omega) fun x hx hm=>?_|simp(disch:=first|assumption|omega) only[AN]))
   all_goals rw[hd.out]
   .rw[D1 (by omega)];refine⟨rfl,?_⟩
    (first|(refine go.out (.f8 (1::16::π) 0 (st.d9.waits.length+1)) _ ?_ (BP [] ?_ ?_) (.inr fun id2 hid=>?_) (fun id2 b1 b2 b3=>?_);all_goals (try simp only[Ax,Ff]);all_goals (first|(simp only[AD,As]at hid;subst hid;exact⟨Ab [1,16],_,rfl⟩)|(have q1:=AG b3;have q3:=Dj b3;have q5:=n2 _ b2;simp only[go_sem,q1,q3,b1,q5,AM];done)|(simp;done)|(simp only[go_sem,e1,e2,e3,e4,i1,i2,i3,i4,him,hmi,By,CO,AM];first|done|rfl));done)|(refine go.out (.f8 id 0 (st.d9.waits.length+1)) _ ?_ (BP x ?_ ?_) (.inl (n1 _ rfl)) (fun id2 b1 b2 b3=>?_);all_goals (try simp only[Ax,Ff]);all_goals (first|(simp only[AD,As]at hid;subst hid;exact⟨Ab [1,16],_,rfl⟩)|(have q1:=AG b3;have q3:=Dj b3;have q5:=n2 _ b2;simp only[go_sem,q1,q3,b1,q5,AM];done)|(simp;done)|(simp only[go_sem,e1,e2,e3,e4,i1,i2,i3,i4,him,hmi,By,CO,AM];first|done|rfl))))
   .rw[Ci (by omega)];refine⟨rfl,?_⟩;replace go:=gf
    (first|(refine go.out (.f8 (1::16::π) 0 (st.d9.waits.length+1)) _ ?_ (BP [] ?_ ?_) (.inr fun id2 hid=>?_) (fun id2 b1 b2 b3=>?_);all_goals (try simp only[Ax,Ff]);all_goals (first|(simp only[AD,As]at hid;subst hid;exact⟨Ab [1,16],_,rfl⟩)|(have q1:=AG b3;have q3:=Dj b3;have q5:=n2 _ b2;simp only[go_sem,q1,q3,b1,q5,AM];done)|(simp;done)|(simp only[go_sem,e1,e2,e3,e4,i1,i2,i3,i4,him,hmi,By,CO,AM];first|done|rfl));done)|(refine go.out (.f8 id 0 (st.d9.waits.length+1)) _ ?_ (BP x ?_ ?_) (.inl (n1 _ rfl)) (fun id2 b1 b2 b3=>?_);all_goals (try simp only[Ax,Ff]);all_goals (first|(simp only[AD,As]at hid;subst hid;exact⟨Ab [1,16],_,rfl⟩)|(have q1:=AG b3;have q3:=Dj b3;have q5:=n2 _ b2;simp only[go_sem,q1,q3,b1,q5,AM];done)|(simp;done)|(simp only[go_sem,e1,e2,e3,e4,i1,i2,i3,i4,him,hmi,By,CO,AM];first|done|rfl))))
structure LZ(p:AI)(j:Fq)(x:CR):Prop where
 n0:0≤j.node
 node:p.nodes[j.node.toNat]? =some x
 len:j.env.length≤10000
variable{j:Fq}
theorem N1{p:AI}{x:CR}(h:LZ p j x):j.node.toNat<p.nodes.length:=AH h.node
theorem yo{p:AI}{sz:List Int}{h:AB}{π:List Nat}{m:Abs.Id}{V:MV}{st:B7}(hM:Dt p sz h m V st)(hu:Bn π V m)(j:Fq){x:CR}(hj:LZ p j x)(hp:p.nodes.length≤60)(hal:x.args.length≤3)(haf: ∀e∈x.args,e.formed j.env.length=true)(hn0:0≤x.n)(hn1:x.n<j.env.length)
 (hin:j.env.all (CW.inB p st.d9.be.length st.d9.ac.length)=true) (hc: ∀(c:Nat) (q:Fg),st.d9.be[c]? =some q→eI p st.d9 q) (he:st.ev.length≤1000000):
 ∃o h',KL Tryz.prog cfg (.fn 110) [.ptr m 0,.agg [.d (.int .i64 (j.node)),.d (.int .i64 (j.at_)),.d (.ce (j.env.map AJ))]] h π true none=.ok (o,h')∧Eo p sz π m V h (Dy p x j st) o h':=by
 have hm:=hM.box;have um:=hu m (V.m_mem m);simp only[Ah]at hm;have e1:=AG um;have e2:=Av um;have e3:=Dj um;have e4:=Jw um;obtain⟨L,hL⟩: ∃L,L=x.args.map fun e=>e.value j.env:=⟨_,rfl⟩;have hLl:L.length=x.args.length:=by rw[hL,BY]
 have hx:=hj.node;have hn:=hj.n0;have hel:=hj.len;obtain⟨to,hto⟩:=get_some (l:=j.env) (i:=x.n.toNat) (by omega);have hxl:=N1 hj;replace hM:=AA.mk hM;replace hu:=AA.mk hu;replace hc:=AA.mk hc;replace hin:=AA.mk hin;replace hL:=AA.mk hL;replace hLl:=AA.mk hLl;replace haf:=AA.mk haf
 (refine Af rfl Tryz.func110 rfl rfl rfl ?_;show Wp _ _ _ _ (Tryz.f110.body.get rfl) _ _;simp only[Tryz.f110,AS])
 refine aw ?_;refine AU x.args _ (S:=fun m' i (a:(AV×AB)×Nat)=>⟨[(0,.ptr m 0),(3,.ptr (0::0::π) 0),(4,.ptr (0::10::π) 0),(5,a.1.1),(20,.d (.ce (x.args.map Bp))),(21,.d (.int .i64 (m'))),(22,.d (.int .i64 (i)))],a.1.2,a.2+17,[]⟩)
  (Inv:=fun i rest a=>(∀id,Id.under π id=false→a.1.2.get id=h.get id)∧a.1.2.get (0::0::π)=some (.box [.d (.int .i64 (j.node)),.d (.int .i64 (j.at_)),.d (.ce (j.env.map AJ))])∧a.1.2.get (0::10::π)=some (.box [.d (.int .i64 (x.op)),.d (.int .i64 (x.n)),.d (.ce (x.args.map Bp)),.d (.ce (x.kids.map AL))])∧AA ((i=0∧a.1.1=.co)∨ ∃n,n<a.2+17∧a.1.1=.f8 (1::n::π) 0 i∧a.1.2.get (1::n::π)=some (.d7 2 ((L.take i).map AJ)))) (b0:=((_,_),_)) rfl ⟨?_,?_,?_,⟨.inl ⟨rfl,rfl⟩⟩⟩ ?_ ?_
 .intro id b;have q1:=AG b;simp only[go_sem,q1,AM]
 .simp only[go_sem]
 .simp only[go_sem]
 .rintro i y ⟨⟨t5,g⟩,b⟩ hy hi him ⟨k1,k2,k3,kl⟩ IH;dsimp only at*;have hyf:=haf.out y (Ac hy);have hLi:AA (L[i]? =some (y.value j.env)):=⟨by rw[hL.out,Cs,hy];rfl⟩;replace k1:=AA.mk k1;have hLt:AA (L.take (i+1)=L.take i++[y.value j.env]):=⟨by rw[Is,hLi.out];rfl⟩;rcases kl.out with⟨rfl,rfl⟩|⟨n,hnb,rfl,hg⟩
  .clear kl;have him0:(0:Int)<x.args.length:=him;refine aw ?_;refine IH.out ((_,_),_) ⟨fun id b=>?_,?_,?_,⟨.inr ⟨b+28,by simp,rfl,?_⟩⟩⟩
   .have q1:=AG b;have q2:=k1.out id b;simp only[go_sem,q1,q2,AM]
   .simp only[go_sem,k2]
   .simp only[go_sem,k3]
   .rw[hLt.out];simp only[go_sem]
  .clear kl;have d0:(L.take i).length=i:=by have:=hLl.out;rw[He];omega
   have d1:List.take i (List.map AJ (List.take i L))=List.map AJ (List.take i L):=DL (by simp;omega);have d2: ¬b+27=n:=by omega
   have d3: ¬b+20=n:=by omega
   have d4: ¬n=b+27:=by omega
   have d5: ¬n=b+28:=by omega
   refine ax ?_;refine IH.out ((_,_),_) ⟨fun id b=>?_,?_,?_,⟨.inr ⟨b+28,by simp,rfl,?_⟩⟩⟩
   .have q1:=AG b;have q2:=k1.out id b;simp only[go_sem,q1,q2,AM]
   .simp only[go_sem,k2]
   .simp only[go_sem,k3]
   .rw[hLt.out];simp only[go_sem,d5,By]
 .rintro i ⟨⟨t5,g⟩,b⟩ hi him ⟨k1,k2,k3,kl⟩;dsimp only at*;have hiL:i=L.length:=by rw[hi.out,hLl.out]
  clear hi;have hto2:Hb j.env x.n=to:=by rw[Hb,hto];rfl
  have htl:List.take L.length L=L:=EM;have hL3:L.length≤3:=by have:=hLl.out;omega
  replace k1:=AA.mk k1;by_cases kk2:to.kind=2
  .have hd:AA (Dy p x j st=some {st with ev:=st.ev++[⟨5,j.at_,to.n,0,L⟩]}):=⟨by
    simp only[Dy,hto2,kk2,F5,hL.out];rfl⟩
   rcases kl.out with⟨rfl,rfl⟩|⟨n,hnb,rfl,hg⟩
   .clear kl;have him0: ¬(0:Int)<x.args.length:=him;have hL0:=Dl hiL.symm;subst hL0;clear hiL;refine aw ?_;refine AY (IM (V:=V) (st:=st) (Dd hM.out hu.out ?_) (hu.out.ext _) 5 j.at_ to.n 0 [] (by simp) he) (fun o1 g1 p1=>?_)
    .intro id b;have q1:=AG b;have q2:=k1.out id b;simp only[go_sem,q1,q2,AM]
    .have fin:=Oi (h:=h) hu.out (fun id b=>?_) p1
     .obtain rfl:=p1.1;refine aw ?_;rw[hd.out];exact fin
     .have q1:=AG b;have q2:=k1.out id b;simp only[go_sem,q1,q2,AM]
   .clear kl;subst hiL;refine aw ?_;refine AY (IM (V:=V) (st:=st) (Dd hM.out hu.out ?_) (hu.out.ext _) 5 j.at_ to.n 0 L (by omega) he) (fun o1 g1 p1=>?_)
    .intro id b;have q1:=AG b;have q2:=k1.out id b;simp only[go_sem,q1,q2,AM]
    .have fin:=Oi (h:=h) hu.out (fun id b=>?_) p1
     .obtain rfl:=p1.1;refine aw ?_;rw[hd.out];exact fin
     .have q1:=AG b;have q2:=k1.out id b;simp only[go_sem,q1,q2,AM]
  by_cases kk3:to.kind=3
  .have hib:=Ce.1 hin.out to (Ac hto);simp only[CW.inB,kk3,Int.reduceEq,F5,Ex,AP,Ap]at hib;obtain⟨t0,t1⟩:=hib;obtain⟨q,hq⟩:=get_some (l:=st.d9.be) (i:=to.n.toNat) (by omega);obtain⟨v,hr,hqs⟩:=hM.out.be.row _ _ hq;have hr0:=AA.mk hr;have hcf:=hc.out _ _ hq;obtain⟨c1,c2⟩:=hcf.at_;obtain⟨gr,d,ch,hgr,c3,hdd,hch⟩:=hcf.ex;have c4:=hcf.g0;have c5:=hcf.i0;have c6:=hcf.len;obtain⟨sp,hsp⟩:=get_some (l:=st.d9.ac) (i:=q.at_.toNat) (by omega);obtain⟨S,xs,hS,gS,xS,lS,lS2⟩:=Il (hM.out.sl 0 (by omega)) hsp;obtain⟨G,ys,hG,gG,xG,lG,lG2⟩:=Il (hM.out.sl 1 (by omega)) hgr;have hA:=hM.out.arr;rcases hA with⟨_,hA⟩|⟨A,hA,gA⟩
   .rw[hA]at hr;simp at hr
   have lA:=AH hr;have sg: ∀r:List AV,(V.rows.set to.n.toNat r)[to.n.toNat]? =some r:=fun r=>List.getElem?_set_self lA;have uA:=hu.out A (V.v3_mem m (by rw[hA];simp[AD]));have uS:=hu.out S (V.s_mem m (i:=0) (by omega) (by rw[hS];simp[AD]));have uG:=hu.out G (V.s_mem m (i:=1) (by omega) (by rw[hG];simp[AD]));have gm:=(k1.out m um).trans hm;rw[hA,hS,hG]at gm;replace gA:=(k1.out A uA).trans gA;replace gS:=(k1.out S uS).trans gS;replace gG:=(k1.out G uG).trans gG;have a1:=AG uA;have a2:=Av uA;have a3:=AG uS;have a4:=AG uG;have ldd:=AH hdd;have lch:=AH hch;have hsd:AX st.d9.ac q.at_=sp.dead:=by simp[AX,hsp]
   have hmn:Dc p st.d9 q=ch.many:=by simp[Dc,hgr,hdd,hch]
   have hd:AA (Dy p x j st=(O1 p st.d9 to.n L).map fun s=>{st with d9:=s}):=⟨by
    simp only[Dy,hto2,kk3,F5,hL.out];rfl⟩
   have hd2:AA (O1 p st.d9 to.n L=if sp.dead=false∧ch.many=L.length then W5 st.d9 to.n q L else some st.d9):=⟨by
    rw[O1,hq];simp only[hsd,hmn]⟩
   clear hsd hmn hcf;replace hm:=AA.mk hm;replace hS:=AA.mk hS;replace hG:=AA.mk hG;replace hA:=AA.mk hA;simp only[Aq]at hr;simp only[Ff]at gS gG;have go:=AA.mk (Rn hM.out hu.out hA.out hq hr0.out (q.queue++[L]));have gf:=AA.mk fun v h' a1 a0 a2 a3 a4=>PW (go.out v h' a1 a0 a2 a3 a4);have hs1:AA (sp.dead=true→Dy p x j st=some st):=⟨fun h=>by rw[hd.out,hd2.out,Ci (by simp[h])];rfl⟩;have hs2:AA (¬ch.many=L.length→Dy p x j st=some st):=⟨fun h=>by rw[hd.out,hd2.out,Ci (fun hh=>h hh.2)];rfl⟩;have hs3:AA (sp.dead=false→ch.many=L.length→q.queue.length+1≤12→Dy p x j st=some {st with d9:={st.d9 with be:=st.d9.be.set to.n.toNat {q with queue:=q.queue++[L]}}}):=⟨fun h1 h2 h3=>by rw[hd.out,hd2.out,D1 ⟨h1,h2⟩,W5,D1 (by omega)];rfl⟩
   have hs4:AA (sp.dead=false→ch.many=L.length→ ¬q.queue.length+1≤12→Dy p x j st=none):=⟨fun h1 h2 h3=>by rw[hd.out,hd2.out,D1 ⟨h1,h2⟩,W5,Ci (by omega)];rfl⟩;clear hd hd2;have Am:Id.is A m=false:=AE fun e=>by rw[e,gm]at gA;cases gA
   have mA:Id.is m A=false:=AE fun e=>by rw[←e,gm]at gA;cases gA
   have same:AA (∀H:AB,(∀id,Id.under π id=false→H.get id=g.get id)→Eo p sz π m V h (some st) (.ret (.it [])) H):=⟨fun H hH=>Oj hM.out hu.out fun id b=>(hH id b).trans (k1.out id b)⟩;rcases hqs with⟨rfl,hz⟩|⟨Q,zs,rfl,gQ⟩
   .replace hz:=AA.mk (F9.1 hz);rcases kl.out with⟨rfl,rfl⟩|⟨n,hnb,rfl,hg⟩;all_goals clear kl
    .have him0: ¬(0:Int)<x.args.length:=him;have hL0:=Dl hiL.symm;subst hL0;clear hiL
     (repeat' (first|simp only[go_sem, *,AM]|(refine sx ?_ ?_<;>intro hc)|refine sy (by omega) fun x hx hm=>?_|simp(disch:=first|assumption|omega) only[AN]))
     all_goals (first|(rw[hs1.out (by assumption)];exact same.out _ (fun id b=>by have q1:=AG b;simp only[go_sem,q1,AM]))|(rw[hs2.out (by first|assumption|(show¬ch.many=0;assumption))];exact same.out _ (fun id b=>by have q1:=AG b;simp only[go_sem,q1,AM]))|(rw[hs3.out (by assumption) (by first|assumption|(show ch.many=0;assumption)) (by first|assumption|omega|(rw[hz.out];decide))];refine⟨rfl,?_⟩;first|(refine go.out (.f8 (1::(b+94)::π) 0 1) _ ?_ ?_ (BP [] ?_ ?_) (.inr fun id2 hid=>?_) fun id2 b1 b2 b3 b4=>?_;all_goals (first|(simp only[AD,As]at hid;subst hid;exact⟨Ab [1,b+94],_,rfl⟩)|(have q1:=AG b4;have q2:=k1.out id2 b4;simp only[go_sem,q1,q2,b1,b2,AM];done)|(simp[hz.out];done)|(simp only[go_sem,e1,e2,a1,a2,Am,mA,gm,Ah,hS.out,hG.out,hA.out,Aq,By,CO,AM,hz.out];first|done|rfl));done)))
    .subst hiL;have d1: ¬b+93=n:=by omega
     have d2: ¬n=b+93:=by omega
     have d3: ¬b+94=n:=by omega
     have d4: ¬n=b+94:=by omega
     (repeat' (first|simp only[go_sem, *,AM]|(refine sx ?_ ?_<;>intro hc)|refine sy (by omega) fun x hx hm=>?_|simp(disch:=first|assumption|omega) only[AN]))
     all_goals (first|(rw[hs1.out (by assumption)];exact same.out _ (fun id b=>by have q1:=AG b;simp only[go_sem,q1,AM]))|(rw[hs2.out (by first|assumption|(show¬ch.many=0;assumption))];exact same.out _ (fun id b=>by have q1:=AG b;simp only[go_sem,q1,AM]))|(rw[hs3.out (by assumption) (by first|assumption|(show ch.many=0;assumption)) (by first|assumption|omega|(rw[hz.out];decide))];refine⟨rfl,?_⟩;first|(refine go.out (.f8 (1::(b+94)::π) 0 1) _ ?_ ?_ (BP [] ?_ ?_) (.inr fun id2 hid=>?_) fun id2 b1 b2 b3 b4=>?_;all_goals (first|(simp only[AD,As]at hid;subst hid;exact⟨Ab [1,b+94],_,rfl⟩)|(have q1:=AG b4;have q2:=k1.out id2 b4;simp only[go_sem,q1,q2,b1,b2,AM];done)|(simp[hz.out];done)|(simp only[go_sem,e1,e2,a1,a2,Am,mA,gm,Ah,hS.out,hG.out,hA.out,Aq,By,CO,AM,hz.out];first|done|rfl));done)))
   .have uQ:=hu.out Q (V.row_mem m (Bv.2 ⟨_,Ac hr0.out,by simp[BX,AD]⟩));replace gQ:=(k1.out Q uQ).trans gQ;have a5:=AG uQ;have a6:=Av uQ;have QA:Id.is Q A=false:=AE fun e=>by rw[e,gA]at gQ;cases gQ
    have AQ:Id.is A Q=false:=AE fun e=>by rw[←e,gA]at gQ;cases gQ
    have Qm:Id.is Q m=false:=AE fun e=>by rw[e,gm]at gQ;cases gQ
    have mQ:Id.is m Q=false:=AE fun e=>by rw[←e,gm]at gQ;cases gQ
    rcases kl.out with⟨rfl,rfl⟩|⟨n,hnb,rfl,hg⟩;all_goals clear kl
    .have him0: ¬(0:Int)<x.args.length:=him;have hL0:=Dl hiL.symm;subst hL0;clear hiL;rcases zs with _|⟨z,zs⟩;all_goals
      (repeat' (first|simp only[go_sem, *,AM]|(refine sx ?_ ?_<;>intro hc)|refine sy (by omega) fun x hx hm=>?_|simp(disch:=first|assumption|omega) only[AN]))
      all_goals (first|(rw[hs1.out (by assumption)];exact same.out _ (fun id b=>by have q1:=AG b;simp only[go_sem,q1,AM]))|(rw[hs2.out (by first|assumption|(show¬ch.many=0;assumption))];exact same.out _ (fun id b=>by have q1:=AG b;simp only[go_sem,q1,AM]))|(rw[hs3.out (by assumption) (by first|assumption|(show ch.many=0;assumption)) (by first|assumption|omega|(rw[hz.out];decide))];refine⟨rfl,?_⟩;first|(refine go.out (.f8 (1::(b+94)::π) 0 (q.queue.length+1)) _ ?_ ?_ (BP [] ?_ ?_) (.inr fun id2 hid=>?_) fun id2 b1 b2 b3 b4=>?_;all_goals (first|(simp only[AD,As]at hid;subst hid;exact⟨Ab [1,b+94],_,rfl⟩)|(have q1:=AG b4;have q2:=k1.out id2 b4;have q5:=b3 Q (by simp[AD]);simp only[go_sem,q1,q2,b1,b2,q5,AM];done)|(simp;done)|(simp only[go_sem,e1,e2,a1,a2,Am,mA,gm,Ah,hS.out,hG.out,hA.out,Aq,By,CO,AM,a5,a6,QA,AQ,Qm,mQ];first|done|rfl));done)|(refine go.out (.f8 Q 0 (q.queue.length+1)) _ ?_ ?_ (BP zs ?_ ?_) (.inl rfl) fun id2 b1 b2 b3 b4=>?_;all_goals (first|(simp only[AD,As]at hid;subst hid;exact⟨Ab [1,b+94],_,rfl⟩)|(have q1:=AG b4;have q2:=k1.out id2 b4;have q5:=b3 Q (by simp[AD]);simp only[go_sem,q1,q2,b1,b2,q5,AM];done)|(simp;done)|(simp only[go_sem,e1,e2,a1,a2,Am,mA,gm,Ah,hS.out,hG.out,hA.out,Aq,By,CO,AM,a5,a6,QA,AQ,Qm,mQ];first|done|rfl))))|(rw[hs4.out (by assumption) (by first|assumption|(show ch.many=0;assumption)) (by first|assumption|omega)];refine⟨rfl,?_⟩;first|(refine gf.out (.f8 (1::(b+94)::π) 0 (q.queue.length+1)) _ ?_ ?_ (BP [] ?_ ?_) (.inr fun id2 hid=>?_) fun id2 b1 b2 b3 b4=>?_;all_goals (first|(simp only[AD,As]at hid;subst hid;exact⟨Ab [1,b+94],_,rfl⟩)|(have q1:=AG b4;have q2:=k1.out id2 b4;have q5:=b3 Q (by simp[AD]);simp only[go_sem,q1,q2,b1,b2,q5,AM];done)|(simp;done)|(simp only[go_sem,e1,e2,a1,a2,Am,mA,gm,Ah,hS.out,hG.out,hA.out,Aq,By,CO,AM,a5,a6,QA,AQ,Qm,mQ];first|done|rfl));done)|(refine gf.out (.f8 Q 0 (q.queue.length+1)) _ ?_ ?_ (BP zs ?_ ?_) (.inl rfl) fun id2 b1 b2 b3 b4=>?_;all_goals (first|(simp only[AD,As]at hid;subst hid;exact⟨Ab [1,b+94],_,rfl⟩)|(have q1:=AG b4;have q2:=k1.out id2 b4;have q5:=b3 Q (by simp[AD]);simp only[go_sem,q1,q2,b1,b2,q5,AM];done)|(simp;done)|(simp only[go_sem,e1,e2,a1,a2,Am,mA,gm,Ah,hS.out,hG.out,hA.out,Aq,By,CO,AM,a5,a6,QA,AQ,Qm,mQ];first|done|rfl)))))
    .subst hiL;have d1: ¬b+93=n:=by omega
     have d2: ¬n=b+93:=by omega
     have d3: ¬b+94=n:=by omega
     have d4: ¬n=b+94:=by omega
     rcases zs with _|⟨z,zs⟩;all_goals
      (repeat' (first|simp only[go_sem, *,AM]|(refine sx ?_ ?_<;>intro hc)|refine sy (by omega) fun x hx hm=>?_|simp(disch:=first|assumption|omega) only[AN]))
      all_goals (first|(rw[hs1.out (by assumption)];exact same.out _ (fun id b=>by have q1:=AG b;simp only[go_sem,q1,AM]))|(rw[hs2.out (by first|assumption|(show¬ch.many=0;assumption))];exact same.out _ (fun id b=>by have q1:=AG b;simp only[go_sem,q1,AM]))|(rw[hs3.out (by assumption) (by first|assumption|(show ch.many=0;assumption)) (by first|assumption|omega|(rw[hz.out];decide))];refine⟨rfl,?_⟩;first|(refine go.out (.f8 (1::(b+94)::π) 0 (q.queue.length+1)) _ ?_ ?_ (BP [] ?_ ?_) (.inr fun id2 hid=>?_) fun id2 b1 b2 b3 b4=>?_;all_goals (first|(simp only[AD,As]at hid;subst hid;exact⟨Ab [1,b+94],_,rfl⟩)|(have q1:=AG b4;have q2:=k1.out id2 b4;have q5:=b3 Q (by simp[AD]);simp only[go_sem,q1,q2,b1,b2,q5,AM];done)|(simp;done)|(simp only[go_sem,e1,e2,a1,a2,Am,mA,gm,Ah,hS.out,hG.out,hA.out,Aq,By,CO,AM,a5,a6,QA,AQ,Qm,mQ];first|done|rfl));done)|(refine go.out (.f8 Q 0 (q.queue.length+1)) _ ?_ ?_ (BP zs ?_ ?_) (.inl rfl) fun id2 b1 b2 b3 b4=>?_;all_goals (first|(simp only[AD,As]at hid;subst hid;exact⟨Ab [1,b+94],_,rfl⟩)|(have q1:=AG b4;have q2:=k1.out id2 b4;have q5:=b3 Q (by simp[AD]);simp only[go_sem,q1,q2,b1,b2,q5,AM];done)|(simp;done)|(simp only[go_sem,e1,e2,a1,a2,Am,mA,gm,Ah,hS.out,hG.out,hA.out,Aq,By,CO,AM,a5,a6,QA,AQ,Qm,mQ];first|done|rfl))))|(rw[hs4.out (by assumption) (by first|assumption|(show ch.many=0;assumption)) (by first|assumption|omega)];refine⟨rfl,?_⟩;first|(refine gf.out (.f8 (1::(b+94)::π) 0 (q.queue.length+1)) _ ?_ ?_ (BP [] ?_ ?_) (.inr fun id2 hid=>?_) fun id2 b1 b2 b3 b4=>?_;all_goals (first|(simp only[AD,As]at hid;subst hid;exact⟨Ab [1,b+94],_,rfl⟩)|(have q1:=AG b4;have q2:=k1.out id2 b4;have q5:=b3 Q (by simp[AD]);simp only[go_sem,q1,q2,b1,b2,q5,AM];done)|(simp;done)|(simp only[go_sem,e1,e2,a1,a2,Am,mA,gm,Ah,hS.out,hG.out,hA.out,Aq,By,CO,AM,a5,a6,QA,AQ,Qm,mQ];first|done|rfl));done)|(refine gf.out (.f8 Q 0 (q.queue.length+1)) _ ?_ ?_ (BP zs ?_ ?_) (.inl rfl) fun id2 b1 b2 b3 b4=>?_;all_goals (first|(simp only[AD,As]at hid;subst hid;exact⟨Ab [1,b+94],_,rfl⟩)|(have q1:=AG b4;have q2:=k1.out id2 b4;have q5:=b3 Q (by simp[AD]);simp only[go_sem,q1,q2,b1,b2,q5,AM];done)|(simp;done)|(simp only[go_sem,e1,e2,a1,a2,Am,mA,gm,Ah,hS.out,hG.out,hA.out,Aq,By,CO,AM,a5,a6,QA,AQ,Qm,mQ];first|done|rfl)))))
  .have hd:AA (Dy p x j st=some st):=⟨by simp only[Dy,hto2,kk2,kk3,Ex]⟩;rcases kl.out with⟨rfl,rfl⟩|⟨n,hnb,rfl,hg⟩;all_goals clear kl
   .have him0: ¬(0:Int)<x.args.length:=him;clear hiL;refine aw ?_;rw[hd.out];refine Oj hM.out hu.out fun id b=>?_;have q1:=AG b;have q2:=k1.out id b;simp only[go_sem,q1,q2,AM]
   .subst hiL;refine aw ?_;rw[hd.out];refine Oj hM.out hu.out fun id b=>?_;have q1:=AG b;have q2:=k1.out id b;simp only[go_sem,q1,q2,AM]
def Er(l:List Int)(at_:Int)(env:List CW):List Fq:=l.map fun n=>⟨n,at_,env⟩
variable{k:Nat}{h:AB}{π:List Nat}{m:Abs.Id}{st:B7}
theorem vB{p:AI}{sz:List Int}(hF:BC p sz)(IH0:H6 p sz k){V:MV}(hM:Dt p sz h m V st)(hu:Bn π V m)(hI:OG p sz k st)(j:Fq){x:CR}(hj:LZ p j x)(hp:p.nodes.length≤60)(hkl:x.kids.length≤2)(hjs: ∀j'∈Er x.kids j.at_ j.env,CQ p sz st.d9 j'):
 ∃o h',KL Tryz.prog cfg (.fn 111) [.ptr m 0,.agg [.d (.int .i64 (j.node)),.d (.int .i64 (j.at_)),.d (.ce (j.env.map AJ))]] h π true none=.ok (o,h')∧Eo p sz π m V h (BZ (FX p k) (Er x.kids j.at_ j.env) st) o h':=by
 have hm:=hM.box;have um:=hu m (V.m_mem m);simp only[Ah]at hm;have e1:=AG um;have e2:=Av um;have hx:=hj.node;have hn:=hj.n0;have hel:=hj.len;have hxl:=N1 hj;replace hM:=AA.mk hM;replace hu:=AA.mk hu;replace hjs:=AA.mk hjs;replace hI:=AA.mk hI
 (refine Af rfl Tryz.func111 rfl rfl rfl ?_;show Wp _ _ _ _ (Tryz.f111.body.get rfl) _ _;simp only[Tryz.f111,AS])
 refine aw ?_;refine AU x.kids _ (S:=fun m' i (a:AB×Nat)=>⟨[(0,.ptr m 0),(3,.ptr (0::0::π) 0),(15,.d (.ce (x.kids.map AL))),(16,.d (.int .i64 (m'))),(17,.d (.int .i64 (i)))],a.1,a.2+13,[]⟩)
  (Inv:=fun i rest a=>AA (∃V' st',Bz p sz π m V h (a.2+13) V' st' a.1∧OG p sz k st'∧(∀j'∈Er rest j.at_ j.env,CQ p sz st'.d9 j')∧BZ (FX p k) (Er x.kids j.at_ j.env) st=BZ (FX p k) (Er rest j.at_ j.env) st')∧a.1.get (0::0::π)=some (.box [.d (.int .i64 (j.node)),.d (.int .i64 (j.at_)),.d (.ce (j.env.map AJ))])) (b0:=(_,_)) rfl ⟨⟨V,st,?_,hI.out,hjs.out,rfl⟩,?_⟩ ?_ ?_
 .refine(O0 hM.out hu.out fun id b=>?_).up (I6 _);have q1:=AG b;simp only[go_sem,q1,AM]
 .simp only[go_sem]
 .rintro i y ⟨g,b⟩ hy hi him ⟨hl,k2⟩ IH;dsimp only at*;obtain⟨V',st',hR,hI',hj',he⟩:=hl.out;clear hl;replace he:=AA.mk he;replace hI':=AA.mk hI';replace hj':=AA.mk hj';replace hR:=AA.mk hR;refine aw ?_;have hjy:=hj'.out ⟨y,j.at_,j.env⟩ (by simp[Er]);refine AY (IH0 g ((b+23)::π) m V' st' ⟨y,j.at_,j.env⟩ hR.out.rep (hR.out.apart hu.out (by omega)) hI'.out.qr hjy hI'.out.w0 hI'.out.w1 hI'.out.w2 hI'.out.ev) (fun o1 g1 p1=>?_);have hb:=(hR.out.box hu.out (k:=0) (n:=b+23) (by omega) p1).trans k2;have hgo:AA (BZ (FX p k) (Er (y::x.kids.drop (i+1)) j.at_ j.env) st'=(FX p k ⟨y,j.at_,j.env⟩ st').bind (BZ (FX p k) (Er (x.kids.drop (i+1)) j.at_ j.env))):=⟨rfl⟩;cases hd:FX p k ⟨y,j.at_,j.env⟩ st' with
  |none=>
   rw[hd]at p1 hgo;have fin:=hR.out.f9 hu.out (by omega) p1;obtain rfl:=p1.1;refine aw ?_;rw[he.out,hgo.out];exact fin
  |some st2=>
   rw[hd]at p1 hgo;have hdp:=Kv hF k _ _ _ hI'.out.qr hjy hd;obtain⟨V2,hR2,_⟩:=hR.out.call hu.out (by omega) p1;obtain rfl:=p1.1;replace p1:=AA.mk p1;replace hd:=AA.mk hd;replace hR2:=AA.mk hR2;refine aw ?_;refine IH.out (_,_) ⟨⟨V2,st2,hR2.out.up (by omega),hI'.out.post hdp,fun j' hj2=>Py (hj'.out j' ?_) hdp.ext,?_⟩,hb⟩
   .simp only[Er,El,DO]at*;exact .inr hj2
   .rw[he.out,hgo.out];rfl
 .rintro i ⟨g,b⟩ hi him ⟨hl,k2⟩;dsimp only at*;obtain⟨V',st',hR,hI',hj',he⟩:=hl.out;clear hl;replace he:=AA.mk he;refine aw ?_;rw[he.out];exact hR.fin
theorem RA(f:Fq→B7→Option B7)(j:Fq)(st:B7):BZ f [j] st=f j st:=by
 simp only[BZ];cases f j st<;>rfl
theorem gY{p:AI}{sz:List Int}{k:Nat}(hF:BC p sz)(IH0:H6 p sz k){h:AB}{π:List Nat}{m:Abs.Id}{V:MV}{st:B7}(hM:Dt p sz h m V st)(hu:Bn π V m)(hI:OG p sz k st)(j:Fq){x:CR}(hj:LZ p j x)(hp:p.nodes.length≤60){e0:Bt}(ha:x.args=[e0])(hf:e0.formed j.env.length=true){ka kb:Int}(hk:x.kids=[ka,kb])
 (hja:CQ p sz st.d9 ⟨ka,j.at_,j.env⟩) (hjb:CQ p sz st.d9 ⟨kb,j.at_,j.env⟩):
 ∃o h',KL Tryz.prog cfg (.fn 113) [.ptr m 0,.agg [.d (.int .i64 (j.node)),.d (.int .i64 (j.at_)),.d (.ce (j.env.map AJ))]] h π true none=.ok (o,h')∧Eo p sz π m V h (BZ (FX p k) (BN x (Tg x j.env) j.at_ j.env) st) o h':=by
 have hm:=hM.box;have um:=hu m (V.m_mem m);simp only[Ah]at hm;have e1:=AG um;have e2:=Av um;have hx:=hj.node;have hn:=hj.n0;have hel:=hj.len;have hxl:=N1 hj;obtain⟨xo,xn,xa,xk⟩:=x;dsimp only at ha hk;subst ha;subst hk;have hvk: ∃v,v=e0.value j.env:=⟨_,rfl⟩;obtain⟨v,hv⟩:=hvk;have hval:=uE j.env e0 hf;rw[←hv]at hval;have hif:AA (Tg ⟨xo,xn,[e0],[ka,kb]⟩ j.env=if v.kind=1∧v.n≠0 then 0 else 1):=⟨by simp only[Tg,Es,hv]⟩;replace hv:=AA.mk hv;replace hM:=AA.mk hM;replace hu:=AA.mk hu;replace hja:=AA.mk hja;replace hjb:=AA.mk hjb;replace hI:=AA.mk hI;have go:AA (∀(c:Int),CQ p sz st.d9 ⟨c,j.at_,j.env⟩→ ∀H n,(∀id,Id.under π id=false→H.get id=h.get id)→ ∃o g1,KL Tryz.prog cfg (.fn 66) [.ptr m 0,.d (.int .i64 (c)),.d (.int .i64 (j.at_)),.d (.ce (j.env.map AJ))] H (n::π) true none=.ok (o,g1)∧Eo p sz π m V h (FX p k ⟨c,j.at_,j.env⟩ st) o (gc (n::π) g1)):=⟨fun c hc H n hH=>by
  obtain⟨o,g1,h1,h2⟩:=IH0 H (n::π) m V st ⟨c,j.at_,j.env⟩ (Dd hM.out hu.out hH) (hu.out.ext n) hI.out.qr hc hI.out.w0 hI.out.w1 hI.out.w2 hI.out.ev;exact⟨o,g1,h1,Oi hu.out hH h2⟩⟩
 by_cases hc:v.kind=1∧v.n≠0
 .rw[hif.out,D1 hc];clear hif;have hgo:AA (BZ (FX p k) (BN ⟨xo,xn,[e0],[ka,kb]⟩ 0 j.at_ j.env) st=FX p k ⟨ka,j.at_,j.env⟩ st):=⟨RA _ _ _⟩
  (refine Af rfl Tryz.func113 rfl rfl rfl ?_;show Wp _ _ _ _ (Tryz.f113.body.get rfl) _ _;simp only[Tryz.f113,AS])
  refine aw ?_;refine Ew (go.out ka hja.out _ _ fun id b=>?_) (fun o1 g1 p1=>?_)
  .have q1:=AG b;simp only[go_sem,q1,AM]
  .rw[←hgo.out]at p1;cases hr:BZ (FX p k) (BN ⟨xo,xn,[e0],[ka,kb]⟩ 0 j.at_ j.env) st;all_goals
    rw[hr]at p1;have fin:=AA.mk p1;obtain rfl:=p1.1;replace p1:=AA.mk p1;refine aw ?_;exact fin.out
 .rw[hif.out,Ci hc];clear hif;have hgo:AA (BZ (FX p k) (BN ⟨xo,xn,[e0],[ka,kb]⟩ 1 j.at_ j.env) st=FX p k ⟨kb,j.at_,j.env⟩ st):=⟨RA _ _ _⟩;have hz:(if v.kind=1 then v.n else 0)=0:=by
   split
   .rename_i hk;by_cases h0:v.n=0
    .exact h0
    .exact absurd ⟨hk,h0⟩ hc
   .rfl
  clear hc
  (refine Af rfl Tryz.func113 rfl rfl rfl ?_;show Wp _ _ _ _ (Tryz.f113.body.get rfl) _ _;simp only[Tryz.f113,AS])
  refine aw ?_;refine Ew (go.out kb hjb.out _ _ fun id b=>?_) (fun o1 g1 p1=>?_)
  .have q1:=AG b;simp only[go_sem,q1,AM]
  .rw[←hgo.out]at p1;cases hr:BZ (FX p k) (BN ⟨xo,xn,[e0],[ka,kb]⟩ 1 j.at_ j.env) st;all_goals
    rw[hr]at p1;have fin:=AA.mk p1;obtain rfl:=p1.1;replace p1:=AA.mk p1;refine aw ?_;exact fin.out
variable{x1 x2 x3 x4 x5 x7 x8 x9 x10 x11 x12:AV}
theorem Vg{x0:AV}{ds:List CF}{g:Ak}{d:CF}(hm:h.get m=some (.box [x0,x1,x2,x3,x4,x5,.d (.ce (ds.map CX)),x7,x8,x9,x10,x11,x12]))(um:Id.under π m=false)(h0:0≤g.ge)(hd:ds[g.ge.toNat]? =some d)(c1:d.be.length≤30)(c2:d.ac.length≤30)(he:d.own≤g.env.length)(hl:g.env.length≤10000)(c:Bool)(n:Int)(hn:0≤n)(hn2:n<if c then(d.be.length:Int)else d.ac.length):
 ∃o h',KL Tryz.prog cfg (.fn 95) [.ptr m 0,.agg [.d (.int .i64 (g.ge)),.d (.int .i64 (g.at_)),.d (.ce (g.env.map AJ))],.d (.bool (c)),.d (.int .i64 (n))] h π true (some π)=.ok (o,h')∧o=.ret (.d (.int .i64 (g.own d c n))):=by
 have hdl:=AH hd;have e1:=AG um;have e2:=Av um;unfold CF.own at he;cases c with
 |true=>
  simp only[F5]at hn2;have hlt:g.env.length-d.ac.length-d.be.length+n.toNat<g.env.length:=by omega
  obtain⟨v,hv⟩:=get_some hlt;have hpl:AA (g.own d true n=v.n):=⟨by
   rw[Ak.own];simp only[F5];rw[hv];rfl⟩
  have q1:((g.env.length:Int)-(d.ac.length:Int)-(d.be.length:Int)+n).toNat=g.env.length-d.ac.length-d.be.length+n.toNat:=by omega
  rw[←q1]at hv;replace q1:=AA.mk q1;have q2:0≤(g.env.length:Int)-(d.ac.length:Int)-(d.be.length:Int)+n:=by omega
  (refine Af rfl Tryz.func95 rfl rfl rfl ?_;show Wp _ _ _ _ (Tryz.f95.body.get rfl) _ _;simp only[Tryz.f95,AS])
  refine aw ?_;rw[hpl.out]
 |false=>
  simp only[AM,Ex]at hn2;have hlt:g.env.length-d.ac.length-0+n.toNat<g.env.length:=by omega
  obtain⟨v,hv⟩:=get_some hlt;have hpl:AA (g.own d false n=v.n):=⟨by
   rw[Ak.own];simp only[AM,Ex];rw[hv];rfl⟩
  have q1:((g.env.length:Int)-(d.ac.length:Int)+n).toNat=g.env.length-d.ac.length-0+n.toNat:=by omega
  rw[←q1]at hv;replace q1:=AA.mk q1;have q2:0≤(g.env.length:Int)-(d.ac.length:Int)+n:=by omega
  (refine Af rfl Tryz.func95 rfl rfl rfl ?_;show Wp _ _ _ _ (Tryz.f95.body.get rfl) _ _;simp only[Tryz.f95,AS])
  refine aw ?_;rw[hpl.out]
theorem L3{h:AB}{π:List Nat}{m:Abs.Id}{x0 x1 x2 x3 x4 x5 x7 x8 x9 x10 x11 x12:AV}{ds:List CF}{g:Ak}{d:CF}(hm:h.get m=some (.box [x0,x1,x2,x3,x4,x5,.d (.ce (ds.map CX)),x7,x8,x9,x10,x11,x12]))(um:Id.under π m=false)(h0:0≤g.ge)(hd:ds[g.ge.toNat]? =some d)(c1:d.be.length≤30)(c2:d.ac.length≤30)(he:d.own≤g.env.length)(hl:g.env.length≤10000)(n:Int)(hn:0≤n)(hn2:n≤d.ac.length):
 ∃o h',KL Tryz.prog cfg (.fn 94) [.ptr m 0,.agg [.d (.int .i64 (g.ge)),.d (.int .i64 (g.at_)),.d (.ce (g.env.map AJ))],.d (.int .i64 (n))] h π true (some π)=.ok (o,h')∧o=.ret (.d (.int .i64 (g.place d n))):=by
 have e1:=AG um;have e2:=Av um;have e3:=AF um;by_cases hn0:n=0
 ·(refine Af rfl Tryz.func94 rfl rfl rfl ?_;show Wp _ _ _ _ (Tryz.f94.body.get rfl) _ _;simp only[Tryz.f94,AS])
  (repeat' (first|simp only[go_sem, *,Ak.place]|(refine sx ?_ ?_<;>intro hc)|refine sy (by omega) fun x hx hm=>?_|simp(disch:=first|assumption|omega) only[AN]))
 .have w:IntKind.i64.wrap (n-1)=n-1:=wrap_id (by omega) (by omega);have hp:g.place d n=g.own d false (n-1):=by rw[Ak.place,Ci hn0]
  rw[hp]
  (refine Af rfl Tryz.func94 rfl rfl rfl ?_;show Wp _ _ _ _ (Tryz.f94.body.get rfl) _ _;simp only[Tryz.f94,AS])
  refine aw ?_;refine Cu (Vg (d:=d) (Eq.trans (b:=h.get m) ?_ hm) (e3 _) h0 hd c1 c2 he hl false (n-1) (by omega) (by simp only[AM,Ex];omega)) (fun o1 g1 p1=>?_)
  .simp only[go_sem,e1,AM]
  subst p1;exact au
variable{x6:AV}{sp:List (List AR)}
theorem ZJ(hm:h.get m=some (.box [.d (.ce sp),x1,x2,x3,x4,x5,x6,x7,x8,x9,x10,x11,x12]))(hl:sp.length≤1000000)(n:Int):
 ∃o h',KL Tryz.prog cfg (.fn 146) [.ptr m 0,.d (.int .i64 (n))] h π true (some π)=.ok (o,h')∧o=(HQ (CA 2) (decide (0≤n)&&decide (n<sp.length))).1:=by
 (refine Af rfl Tryz.func146 rfl rfl rfl ?_;show Wp _ _ _ _ (Tryz.f146.body.get rfl) _ _;simp only[Tryz.f146,AS])
 (repeat' (first|simp only[go_sem, *]|(refine sx ?_ ?_<;>intro hc)|refine sy (by omega) fun x hx hm=>?_|simp(disch:=first|assumption|omega) only[AN]))
 all_goals simp[HQ, *]
variable{ch:List (List AR)}
theorem pt{p:AI}(hm:h.get m=some (.box [.d (.ce sp),x1,.d (.ce ch),x3,.d (.ce (p.free.map CM)),x5,x6,x7,x8,x9,x10,x11,x12]))(um:Id.under π m=false)(h1:sp.length≤1000000)(h2:ch.length≤1000000)(h3:p.free.length≤1000000)(v:CW):
 ∃o h',KL Tryz.prog cfg (.fn 180) [.ptr m 0,.agg [.d (.int .i64 (v.kind)),.d (.int .i64 (v.n))]] h π true (some π)=.ok (o,h')∧o=(HQ (CA 2) (v.inB p ch.length sp.length)).1:=by
 have e1:=AG um;have e2:=Av um;have w1:IntKind.i64.wrap ((p.free.length:Int)-1)=(p.free.length:Int)-1:=wrap_id (by omega) (by omega);have w2:IntKind.i64.wrap ((ch.length:Int)-1)=(ch.length:Int)-1:=wrap_id (by omega) (by omega);have w3:IntKind.i64.wrap ((sp.length:Int)-1)=(sp.length:Int)-1:=wrap_id (by omega) (by omega)
 (refine Af rfl Tryz.func180 rfl rfl rfl ?_;show Wp _ _ _ _ (Tryz.f180.body.get rfl) _ _;simp only[Tryz.f180,AS])
 (repeat' (first|simp only[go_sem, *]|(refine sx ?_ ?_<;>intro hc)|refine sy (by omega) fun x hx hm=>?_|simp(disch:=first|assumption|omega) only[AN]))
 all_goals clear hm e1 e2 w1 w2 w3
 all_goals first
 |(have hz:v.inB p ch.length sp.length=true:=by(unfold CW.inB;grind)
   rw[hz];rfl)
 |(have hz:v.inB p ch.length sp.length=false:=by(unfold CW.inB;grind)
   rw[hz];rfl)
theorem VE{p:AI}(hm:h.get m=some (.box [.d (.ce sp),x1,.d (.ce ch),x3,.d (.ce (p.free.map CM)),x5,x6,x7,x8,x9,x10,x11,x12]))(um:Id.under π m=false)(h1:sp.length≤1000000)(h2:ch.length≤1000000)(h3:p.free.length≤1000000)(l:List CW)(n:Int)(hn:n≤1000000):
 ∃o h',KL Tryz.prog cfg (.fn 147) [.ptr m 0,.d (.ce (l.map AJ)),.d (.int .i64 (n))] h π true (some π)=.ok (o,h')∧o=(HQ (CA 2) (decide ((l.length:Int)=n)&&l.all (CW.inB p ch.length sp.length))).1:=by
 have e1:=AG um;have e2:=Av um;have e3:=AF um;by_cases hl:(l.length:Int)=n
 .have hl2:l.length≤1000000:=by omega
  rw[D7 hl,F1]
  (refine Af rfl Tryz.func147 rfl rfl rfl ?_;show Wp _ _ _ _ (Tryz.f147.body.get rfl) _ _;simp only[Tryz.f147,AS])
  refine aw ?_;refine AU l _ (S:=fun m' i (a:AB×Nat)=>⟨[(0,.ptr m 0),(13,.d (.ce (l.map AJ))),(14,.d (.int .i64 (m'))),(15,.d (.int .i64 (i)))],a.1,a.2+7,[]⟩)
   (Inv:=fun i rest a=>a.1.get m=h.get m∧AA (l.all (CW.inB p ch.length sp.length)=rest.all (CW.inB p ch.length sp.length))) (b0:=(h,_)) ?_ ⟨rfl,⟨rfl⟩⟩ ?_ ?_
  .omega
  .rintro i y ⟨g,c⟩ hy hi him ⟨hg,hr⟩ IH;dsimp only at*;refine aw ?_;refine Cu (pt (p:=p) (sp:=sp) (ch:=ch) (Eq.trans (b:=h.get m) ?_ hm) (e3 _) h1 h2 h3 y) (fun o1 g1 p1=>?_)
   .simp only[go_sem,e1,hg,AM]
   cases hv:y.inB p ch.length sp.length with
   |true=>
    rw[hv]at p1;obtain rfl:o1=.ret (.it []):=p1;refine aw ?_;refine IH.out (_,_) ⟨?_,⟨?_⟩⟩
    .simp only[go_sem,e1,hg,AM]
    .rw[hr.out,F0,hv,F1]
   |false=>
    rw[hv]at p1;obtain rfl:o1=.f9 (CA 2):=p1;refine aw ?_;rw[hr.out,F0,hv,EL];rfl
  .rintro i ⟨g,c⟩ hi him ⟨hg,hr⟩;dsimp only at*;refine aw ?_;rw[hr.out];rfl
 .rw[D4 hl,EL]
  (refine Af rfl Tryz.func147 rfl rfl rfl ?_;show Wp _ _ _ _ (Tryz.f147.body.get rfl) _ _;simp only[Tryz.f147,AS])
  refine aw ?_;rfl
def NF(π:List Nat)(g:AB)(b:Nat)(v:AV)(L:List CW):Prop:=(L=[]∧v=.co)∨ ∃id,v=.f8 id 0 L.length∧g.get id=some (.d7 2 (L.map AJ))∧ ∃n,n<b∧Id.under (n::π) id=true∧ ∃l,id=1::l
def E3(c n:Nat):List CW:=(List.range' c n).map fun(i:Nat)=>⟨3,(i:Int)⟩
def Je(c n:Nat):List CW:=(List.range' c n).map fun(i:Nat)=>⟨4,(i:Int)⟩
theorem Wx(c n:Nat):E3 c (n+1)=E3 c n++[⟨3,((c+n:Nat):Int)⟩]:=by simp[E3,List.range'_1_concat]
theorem ZI(c n:Nat):Je c (n+1)=Je c n++[⟨4,((c+n:Nat):Int)⟩]:=by simp[Je,List.range'_1_concat]
variable{b:Nat}{L:List CW}
theorem P0{g:AB}{b':Nat}{v:AV}(h:NF π g b v L)(hb:b≤b'):NF π g b' v L:=by
 rcases h with h|⟨id,h1,h2,n,h3,h4⟩
 .exact .inl h
 .exact .inr ⟨id,h1,h2,n,by omega,h4⟩
theorem FZ{π:List Nat}{b n:Nat}{id:Abs.Id}(hn:n<b)(hu:Id.under (n::π) id=true)(hl: ∃l,id=1::l):(∀a k,b≤k→Id.is (a::k::π) id=false)∧(∀a k,b≤k→Id.is id (a::k::π)=false)∧(∀l,Id.is (0::l) id=false)∧(∀l,Id.is id (0::l)=false):=by
 have key: ∀a k,b≤k→a::k::π≠id:=fun a k hk e=>by
  subst e;have:=B6 hu (n':=k) (under_iff.2 ⟨[a],rfl⟩);omega
 obtain⟨l0,rfl⟩:=hl;exact⟨fun a k hk=>AE (key a k hk),fun a k hk=>AE fun e=>key a k hk e.symm,fun l=>AE (by simp),fun l=>AE (by simp)⟩
theorem Lv{g:AB}{n:Nat}(hn:n<b)(hk:k=L.length)(hg:g.get (1::n::π)=some (.d7 2 (L.map AJ))):NF π g b (.f8 (1::n::π) 0 k) L:=.inr ⟨_,by rw[hk],hg,n,hn,under_iff.2 ⟨[1],rfl⟩,_,rfl⟩
theorem Mm{π:List Nat}{g:AB}{b:Nat}{v:AV}{L:List CW}(h:NF π g b v L)(b':Nat): ∀i∈AD v,HG b b' π i=false:=by
 rcases h with⟨_,rfl⟩|⟨id,rfl,_,n,h3,h4,_⟩
 .intro i hi;simp[AD]at hi
 .intro i hi;simp only[AD,As]at hi;subst hi;exact Nz h3 h4
theorem rA{π:List Nat}{g:AB}{b:Nat}{v:AV}{L:List CW}(h:NF π g b v L){V:MV}{m:Abs.Id}(hu:Bn π V m): ∀i∈AD v,i∉V.ids m:=by
 rcases h with⟨_,rfl⟩|⟨id,rfl,_,n,h3,h4,_⟩
 .intro i hi;simp[AD]at hi
 .intro i hi hv;simp only[AD,As]at hi;subst hi;have:=hu _ hv;rw[BD h4]at this;cases this
def ZZ(π:List Nat)(g:AB)(b:Nat)(v:AV)(L:List CW):Prop:=(L=[]∧v=.co)∨ ∃id,v=.f8 id 0 L.length∧g.get id=some (.i5 2 (L.map AJ))∧ ∃n,n<b∧Id.under (n::π) id=true∧ ∃l,id=1::l
theorem TW{g g':AB}{v:AV}(h:ZZ π g b v L)(hk: ∀i∈AD v,g'.get i=g.get i):ZZ π g' b v L:=by
 rcases h with h|⟨id,rfl,h2,h3⟩
 .exact .inl h
 .exact .inr ⟨id,rfl,by rw[hk id (by simp[AD])];exact h2,h3⟩
theorem pq{π:List Nat}{g:AB}{b:Nat}{v:AV}{L:List CW}(h:ZZ π g b v L)(a k:Nat)(hk:b≤k): ∀i∈AD v,Id.is (a::k::π) i=false:=by
 rcases h with⟨_,rfl⟩|⟨id,rfl,_,n,h3,h4,_⟩
 .intro i hi;simp[AD]at hi
 .intro i hi;simp only[AD,As]at hi;subst hi;refine AE fun e=>?_;subst e;have:=B6 h4 (n':=k) (under_iff.2 ⟨[a],rfl⟩);omega
theorem aB{π:List Nat}{g:AB}{b n:Nat}{v:AV}{L:List CW}(h:ZZ π g b v L)(hn:b≤n): ∀i∈AD v,Id.under (n::π) i=false:=by
 rcases h with⟨_,rfl⟩|⟨id,rfl,_,k,h3,h4,_⟩
 .intro i hi;simp[AD]at hi
 .intro i hi;simp only[AD,As]at hi;subst hi;cases hx:Id.under (n::π) i with
  |false=>rfl
  |true=>
   have:=B6 h4 hx;omega
theorem UI{p:AI}{sz:List Int}{x:CR}{d:CF}{G:Ak}(hF:BC p sz)(hd:FA p sz st.d9 j x d)(hG:G=Ad st.d9 d x.n j)(H:AB)(ρ:List Nat)(Vx:MV)(w:Int)(hb:H.get m=some (.box (Ah p sz Vx w)))(hu2:Id.under ρ m=false)(n:Int)(hn1:0≤n)(hn2:n≤d.ac.length):
 ∃o h',KL Tryz.prog cfg (.fn 94) [.ptr m 0,.agg [.d (.int .i64 (x.n)),.d (.int .i64 (j.at_)),.d (.ce (G.env.map AJ))],.d (.int .i64 (n))] H ρ true (some ρ)=.ok (o,h')∧o=.ret (.d (.int .i64 (G.place d n))):=by
 have hGo:d.own≤G.env.length∧G.env.length≤10000:=by
  rw[hG,hd.env];have:=hd.ok.be;have:=hd.ok.ac;obtain⟨_,_,_,_,_,_,hjl⟩:=Jr hF hd.job;unfold CF.own;omega
 have hGd:G.ge=x.n:=by rw[hG];rfl
 have hGa:G.at_=j.at_:=by rw[hG];rfl
 have:=L3 (ds:=p.defs) (g:=G) (d:=d) hb hu2 (by rw[hGd];exact hd.n0) (by rw[hGd];exact hd.ge) hd.ok.be hd.ok.ac hGo.1 hGo.2 n hn1 hn2
 rwa [hGd,hGa]at this
theorem gZ{p:AI}{sz:List Int}{k:Nat}(hF:BC p sz)(IH0:H6 p sz k){h:AB}{π:List Nat}{m:Abs.Id}{V:MV}{st:B7}(hu:Bn π V m)(hI:OG p sz k st){j:Fq}{x:CR}{d:CF}(hd:FA p sz st.d9 j x d){G:Ak}(hG:G=Ad st.d9 d x.n j)
 {e:BT} {g:AB} {b:Nat} {ev:AV} {V2:MV} (en0:e.get 0=.ptr m 0) (en3:e.get 3=.ptr (0::0::π) 0) (n4:e.get 4=.ptr (0::10::π) 0) (n5:e.get 5=.ptr (0::21::π) 0) (n6:e.get 6=.ptr (0::31::π) 0) (hb:60≤b) (hR:Bz p sz π m V h b V2 {st with d9:=Bu st.d9 d G} g) (hev: ∀i∈AD ev,i∉V2.ids m)
 (k2:g.get (0::0::π)=some (.box [.d (.int .i64 (j.node)),.d (.int .i64 (j.at_)),.d (.ce (j.env.map AJ))])) (k3:g.get (0::10::π)=some (.box [.d (.int .i64 (x.op)),.d (.int .i64 (x.n)),.d (.ce (x.args.map Bp)),.d (.ce (x.kids.map AL))])) (k4:g.get (0::21::π)=some (.box [.d (.ce (d.be.map BJ)),.d (.ce (d.ac.map A6)),.d (.ce (d.rules.map BG))])) (k5:g.get (0::31::π)=some (.box [.d (.int .i64 (x.n)),.d (.int .i64 (j.at_)),ev])) (hfe:ZZ π g b ev G.env):
 Wp cfg (KL Tryz.prog cfg) ⟨112,π,true,none,false,204⟩ 0 (zY 9 (Tryz.f112.body.get rfl)) ⟨e,g,b,[]⟩ (Qn cfg none [] π true (Eo p sz π m V h (Mb (FX p k) (G9 p x j st)))):=by
 have um:=hu m (V.m_mem m);have e1:=AG um;have e2:=Av um;have hx:=hd.node;have hdl:=hd.ge;have d1:=hd.ok.be;have d2:=hd.ok.ac;obtain⟨n3,hn3⟩: ∃n,n=st.d9.be.length:=⟨_,rfl⟩;obtain⟨n0,hn0⟩: ∃n,n=st.d9.ac.length:=⟨_,rfl⟩;obtain⟨ng,hng⟩: ∃n,n=st.d9.bv.length:=⟨_,rfl⟩;have c1:(Bu st.d9 d G).be.length=n3+d.be.length:=by simp[Bu,GL,hn3]
 have c2:(Bu st.d9 d G).ac.length=n0+d.ac.length:=by simp[Bu,Eu,hn0]
 have c3:(Bu st.d9 d G).bv.length=ng+1:=by simp[Bu,hng]
 have hdo2:G9 p x j st=if n3+d.be.length≤60∧n0+d.ac.length≤24∧ng+1≤40 then some ({st with d9:=Bu st.d9 d G},DA d G 0 d.ac++BN x 0 j.at_ G.env)else none:=by
  simp only[G9,hdl,←hG,c1,c2,c3]
 have hmS:=hI.qr.small;simp only[A9.small,AP,Ap]at hmS;obtain⟨s1,s2,s3,s4⟩:=hmS;have gm:=hR.rep.box;simp only[Ah]at gm;have hl3:=Pz hR.rep.arr;rw[hR.rep.be.len,c1]at hl3;have hl0:=G0 (hR.rep.sl 0 (by omega));simp only[Ax,BY,c2]at hl0;have hl1:=G0 (hR.rep.sl 1 (by omega));simp only[Ax,BY,c3]at hl1;have hpan:AA (¬(n3+d.be.length≤60∧n0+d.ac.length≤24∧ng+1≤40)→Eo p sz π m V h (Mb (FX p k) (G9 p x j st)) (.f9 (CA 3)) g):=⟨fun hn=>by
  rw[hdo2,Ci hn];exact⟨rfl,hR.frame⟩⟩
 clear c1 c2 c3;have hplace:=AA.mk (UI (m:=m) hF hd hG);replace hdo2:=AA.mk hdo2;replace hG:=AA.mk hG;replace hu:=AA.mk hu;replace hd:=AA.mk hd;replace hI:=AA.mk hI;replace hR:=AA.mk hR;replace hev:=AA.mk hev;replace hn3:=AA.mk hn3;replace hn0:=AA.mk hn0;replace hng:=AA.mk hng;simp only[Tryz.f112,AS,zY]
 (repeat' (first|simp only[go_sem, *,↓hl3,↓hl0,↓hl1,AM]|(refine sx ?_ ?_<;>intro hc)|refine sy (by omega) fun x hx hm=>?_|simp(disch:=first|assumption|omega) only[AN]))
 .have hszs:n3+d.be.length≤60∧n0+d.ac.length≤24∧ng+1≤40:=by omega
  have hjp:=XB (st':={st with d9:=Bu st.d9 d G}) hF hI.out.qr hd.out.job hx hd.out.op (by rw[hdo2.out,D1 hszs])
  have hdoD:AA (Mb (FX p k) (G9 p x j st)=BZ (FX p k) (DA d G 0 d.ac++BN x 0 j.at_ G.env) {st with d9:=Bu st.d9 d G}):=⟨by rw[hdo2.out,D1 hszs];rfl⟩
  replace hjp:=AA.mk hjp;clear en0 en3 n4 n5 n6 k4 hl3 hl0 hl1 gm hpan;refine AU d.ac _ (S:=fun m' i (a:AB×Nat)=>⟨[(0,.ptr m 0),(3,.ptr (0::0::π) 0),(4,.ptr (0::10::π) 0),(6,.ptr (0::31::π) 0),(175,.d (.ce (d.ac.map A6))),(176,.d (.int .i64 (m'))),(177,.d (.int .i64 (i)))],a.1,a.2+25,[]⟩)
   (Inv:=fun i rest a=>AA (∃V' st',Bz p sz π m V h (a.2+25) V' st' a.1∧(∀i∈AD ev,i∉V'.ids m)∧OG p sz k st'∧(∀j'∈DA d G i rest++BN x 0 j.at_ G.env,CQ p sz st'.d9 j')∧Mb (FX p k) (G9 p x j st)=BZ (FX p k) (DA d G i rest++BN x 0 j.at_ G.env) st')∧a.1.get (0::0::π)=some (.box [.d (.int .i64 (j.node)),.d (.int .i64 (j.at_)),.d (.ce (j.env.map AJ))])∧a.1.get (0::10::π)=some (.box [.d (.int .i64 (x.op)),.d (.int .i64 (x.n)),.d (.ce (x.args.map Bp)),.d (.ce (x.kids.map AL))])∧a.1.get (0::31::π)=some (.box [.d (.int .i64 (x.n)),.d (.int .i64 (j.at_)),ev])∧b≤a.2∧AA (ZZ π a.1 b ev G.env)) (b0:=(_,b)) rfl ⟨⟨V2,_,by simpa using hR.out.up (by omega),hev.out,⟨hjp.out.qr,hI.out.w0,hI.out.w1,hI.out.w2,hI.out.ev⟩,hjp.out.jobs,hdoD.out⟩,k2,k3,k5,D6 _,⟨hfe⟩⟩ ?_ ?_
  .clear hR hev k2 k3 k5 hfe g V2;rintro i y ⟨g,c⟩ hy hi him ⟨hR,k2,k3,k5,hbc,hfe⟩ IH;dsimp only at*;obtain⟨V',st',hR,hev,hI',hj',he'⟩:=hR.out;have gm:=hR.rep.box;have hm0:=hR.rep.box;simp only[Ah]at gm;have c2: ¬c=2:=by omega
   have w1:IntKind.i64.wrap ((i:Int)+1)=(i:Int)+1:=wrap_id (by omega) (by omega);have hpl:=fun(H:AB) (n:Nat) (hH:H.get m=g.get m)=>hplace.out H (n::π) V' st'.work (hH.trans hm0) (AF um n) ((i:Int)+1) (by omega) (by omega);have hca:AA (∀H:AB,(∀id,(∀a n,c+25≤n→Id.is (a::n::π) id=false)→H.get id=g.get id)→ ∃o g1,KL Tryz.prog cfg (.fn 66) [.ptr m 0,.d (.int .i64 (y.node)),.d (.int .i64 (G.place d ((i:Int)+1))),.d (.ce (G.env.map AJ))] H ((c+42)::π) true none=.ok (o,g1)∧NB p sz π m V h (c+25) (c+42) V' g (FX p k ⟨y.node,G.place d ((i:Int)+1),G.env⟩ st') o (gc ((c+42)::π) g1)):=⟨fun H hH=>TM IH0 hu.out hR hI' (j:=⟨y.node,G.place d ((i:Int)+1),G.env⟩) (hj' _ (by rw[DA];simp)) H (c+42) (by omega) hH⟩;have hevk:AA (∀i∈AD ev,(∀a k,c+25≤k→Id.is (a::k::π) i=false)∧Id.under ((c+42)::π) i=false):=⟨fun i hi=>⟨fun a k hk=>pq hfe.out a k (by omega) i hi,aB hfe.out (by omega) i hi⟩⟩;replace hm0:=AA.mk hm0;replace hpl:=AA.mk hpl;replace hR:=AA.mk hR;replace hev:=AA.mk hev;replace hI':=AA.mk hI';replace hj':=AA.mk hj';replace he':=AA.mk he';have hjy:AA (CQ p sz st'.d9 ⟨y.node,G.place d ((i:Int)+1),G.env⟩):=⟨hj'.out _ (by rw[DA];simp)⟩;have hgo2:AA (BZ (FX p k) (DA d G i (y::d.ac.drop (i+1))++BN x 0 j.at_ G.env) st'=(FX p k ⟨y.node,G.place d ((i:Int)+1),G.env⟩ st').bind (BZ (FX p k) (DA d G (i+1) (d.ac.drop (i+1))++BN x 0 j.at_ G.env))):=⟨rfl⟩;rcases hfe.out with⟨hz8,he8⟩|⟨id8,he8,hg8,n8,hn8,hun8,hl8⟩
   .rw[he8]at k5;have hpl2:=hpl.out;have hca2:=hca.out;rw[show G.env.map AJ=[] by rw[hz8];rfl]at hpl2 hca2;replace hpl2:=AA.mk hpl2;replace hca2:=AA.mk hca2;refine ax ?_;refine Cf (hpl2.out _ _ ?_) (fun o1 g1 p1=>?_)
    .simp only[go_sem,e1,AM]
    subst p1;refine ax ?_;refine Ew (hca2.out _ fun id2 b2=>?_) (fun o1 g1 p1=>?_)
    .simp only[go_sem,b2,AM]
    cases hdn:FX p k ⟨y.node,G.place d ((i:Int)+1),G.env⟩ st' with
    |none=>
     rw[hdn]at p1 hgo2;obtain⟨w8,w9⟩:=p1.f9 rfl;replace p1:=AA.mk p1;subst w8;replace w9:=AA.mk w9;refine ax ?_;rw[he'.out,hgo2.out];exact w9.out
    |some st2=>
     rw[hdn]at p1 hgo2;have hdp:=Kv hF k _ _ _ hI'.out.qr hjy.out hdn;obtain⟨w8,V3,w9,w10⟩:=p1.ret st2 rfl;subst w8;have b0:=(p1.box 0 (by omega)).trans k2;have b10:=(p1.box 10 (by omega)).trans k3;have b31:=(p1.box 31 (by omega)).trans k5;have hk8:=fun i hi=>p1.rg i (hev.out i hi) (hevk.out i hi).1 (hevk.out i hi).2;replace p1:=AA.mk p1;replace hdn:=AA.mk hdn;replace w9:=AA.mk w9;replace w10:=AA.mk w10;replace hk8:=AA.mk hk8;refine ax ?_;refine IH.out (_,c+20) ⟨⟨V3,st2,w9.out.up (by omega),fun i hi=>w10.out i (hev.out i hi) (hevk.out i hi).2,hI'.out.post hdp,fun j' hj2=>Py (hj'.out j' ?_) hdp.ext,?_⟩,b0,b10,?_,by omega,⟨TW hfe.out hk8.out⟩⟩
     .rw[DA,Ge];exact FD _ hj2
     .rw[he'.out,hgo2.out];rfl
     .exact b31.trans (by rw[he8])
   .rw[he8]at k5;have q8:=hevk.out id8 (by rw[he8];simp[AD]);have q81:=q8.1;replace q8:=AA.mk q8.2;have q82:Id.is m id8=false:=AE fun e=>by rw[←e,gm]at hg8;cases hg8
    have q83: ∀l,Id.is (0::l) id8=false:=fun l=>by obtain⟨l0,rfl⟩:=hl8;exact AE (by simp)
    refine ax ?_;refine Cf (hpl.out _ _ ?_) (fun o1 g1 p1=>?_)
    .simp only[go_sem,e1,AM]
    subst p1;refine ax ?_;refine Ew (hca.out _ fun id2 b2=>?_) (fun o1 g1 p1=>?_)
    .simp only[go_sem,b2,AM]
    cases hdn:FX p k ⟨y.node,G.place d ((i:Int)+1),G.env⟩ st' with
    |none=>
     rw[hdn]at p1 hgo2;obtain⟨w8,w9⟩:=p1.f9 rfl;replace p1:=AA.mk p1;subst w8;replace w9:=AA.mk w9;refine ax ?_;rw[he'.out,hgo2.out];exact w9.out
    |some st2=>
     rw[hdn]at p1 hgo2;have hdp:=Kv hF k _ _ _ hI'.out.qr hjy.out hdn;obtain⟨w8,V3,w9,w10⟩:=p1.ret st2 rfl;subst w8;have b0:=(p1.box 0 (by omega)).trans k2;have b10:=(p1.box 10 (by omega)).trans k3;have b31:=(p1.box 31 (by omega)).trans k5;have hk8:=fun i hi=>p1.rg i (hev.out i hi) (hevk.out i hi).1 (hevk.out i hi).2;replace p1:=AA.mk p1;replace hdn:=AA.mk hdn;replace w9:=AA.mk w9;replace w10:=AA.mk w10;replace hk8:=AA.mk hk8;refine ax ?_;refine IH.out (_,c+20) ⟨⟨V3,st2,w9.out.up (by omega),fun i hi=>w10.out i (hev.out i hi) (hevk.out i hi).2,hI'.out.post hdp,fun j' hj2=>Py (hj'.out j' ?_) hdp.ext,?_⟩,b0,b10,?_,by omega,⟨TW hfe.out hk8.out⟩⟩
     .rw[DA,Ge];exact FD _ hj2
     .rw[he'.out,hgo2.out];rfl
     .exact b31.trans (by rw[he8])
  .clear hR hev k2 k3 k5 hfe g V2;rintro i ⟨g,c⟩ hi him ⟨hR,k2,k3,k5,hbc,hfe⟩;dsimp only at*;obtain⟨V',st',hR9,hev,hI',hj',he'⟩:=hR.out;clear hR;have gi:=hi.out;subst gi;clear hi;obtain⟨kd,hkd,_⟩:=hd.out.kid;have hkj:DA d G d.ac.length []++BN x 0 j.at_ G.env=[⟨kd,j.at_,G.env⟩]:=by rw[BN,hkd];rfl
   rw[hkj]at hj' he';rw[RA]at he';have hca:AA (∀H:AB,(∀id,(∀a n,c+25≤n→Id.is (a::n::π) id=false)→H.get id=g.get id)→ ∃o g1,KL Tryz.prog cfg (.fn 66) [.ptr m 0,.d (.int .i64 (kd)),.d (.int .i64 (j.at_)),.d (.ce (G.env.map AJ))] H ((c+35)::π) true none=.ok (o,g1)∧NB p sz π m V h (c+25) (c+35) V' g (FX p k ⟨kd,j.at_,G.env⟩ st') o (gc ((c+35)::π) g1)):=⟨fun H hH=>TM IH0 hu.out hR9 hI' (j:=⟨kd,j.at_,G.env⟩) (hj' _ (by simp)) H (c+35) (by omega) hH⟩;replace hR9:=AA.mk hR9;replace hev:=AA.mk hev;replace hI':=AA.mk hI';replace hj':=AA.mk hj';replace he':=AA.mk he';replace hkj:=AA.mk hkj;rw[hkd]at k3;replace hkd:=AA.mk hkd;rcases hfe.out with⟨hz8,he8⟩|⟨id8,he8,hg8,n8,hn8,hun8,hl8⟩
   .rw[he8]at k5;have hca2:=hca.out;rw[show G.env.map AJ=[] by rw[hz8];rfl]at hca2;replace hca2:=AA.mk hca2;refine ax ?_;refine AY (hca2.out _ fun id2 b2=>?_) (fun o1 g1 p1=>?_)
    .rfl
    cases hdn:FX p k ⟨kd,j.at_,G.env⟩ st' with
    |none=>
     rw[hdn]at p1 he';obtain⟨w8,w9⟩:=p1.f9 rfl;replace p1:=AA.mk p1;subst w8;replace w9:=AA.mk w9;refine ax ?_;rw[he'.out];exact w9.out
    |some st2=>
     rw[hdn]at p1 he';obtain⟨w8,V3,w9,w10⟩:=p1.ret st2 rfl;subst w8;replace p1:=AA.mk p1;replace hdn:=AA.mk hdn;replace w9:=AA.mk w9;replace w10:=AA.mk w10;refine ax ?_;rw[he'.out];exact w9.out.fin
   .rw[he8]at k5;refine ax ?_;refine AY (hca.out _ fun id2 b2=>?_) (fun o1 g1 p1=>?_)
    .rfl
    cases hdn:FX p k ⟨kd,j.at_,G.env⟩ st' with
    |none=>
     rw[hdn]at p1 he';obtain⟨w8,w9⟩:=p1.f9 rfl;replace p1:=AA.mk p1;subst w8;replace w9:=AA.mk w9;refine ax ?_;rw[he'.out];exact w9.out
    |some st2=>
     rw[hdn]at p1 he';obtain⟨w8,V3,w9,w10⟩:=p1.ret st2 rfl;subst w8;replace p1:=AA.mk p1;replace hdn:=AA.mk hdn;replace w9:=AA.mk w9;replace w10:=AA.mk w10;refine ax ?_;rw[he'.out];exact w9.out.fin
 all_goals exact hpan.out (by omega)
theorem ga{p:AI}{sz:List Int}{k:Nat}(hF:BC p sz)(IH0:H6 p sz k){h:AB}{π:List Nat}{m:Abs.Id}{V:MV}{st:B7}(hM:Dt p sz h m V st)(hu:Bn π V m)(hI:OG p sz k st){j:Fq}{x:CR}{d:CF}(hd:FA p sz st.d9 j x d){G:Ak}(hG:G=Ad st.d9 d x.n j)
 {e:BT} {g:AB} {b:Nat} {ev:AV} (en0:e.get 0=.ptr m 0) (en3:e.get 3=.ptr (0::0::π) 0) (en4:e.get 4=.ptr (0::10::π) 0) (en5:e.get 5=.ptr (0::21::π) 0) (en6:e.get 6=.ptr (0::31::π) 0) (k1: ∀id,Id.under π id=false→g.get id=h.get id)
 (k2:g.get (0::0::π)=some (.box [.d (.int .i64 (j.node)),.d (.int .i64 (j.at_)),.d (.ce (j.env.map AJ))])) (k3:g.get (0::10::π)=some (.box [.d (.int .i64 (x.op)),.d (.int .i64 (x.n)),.d (.ce (x.args.map Bp)),.d (.ce (x.kids.map AL))])) (k4:g.get (0::21::π)=some (.box [.d (.ce (d.be.map BJ)),.d (.ce (d.ac.map A6)),.d (.ce (d.rules.map BG))])) (k5:g.get (0::31::π)=some (.box [.d (.int .i64 (x.n)),.d (.int .i64 (j.at_)),ev])) (kl2:NF π g (b+43) ev G.env):
 Wp cfg (KL Tryz.prog cfg) ⟨112,π,true,none,false,204⟩ 0 (zY 6 (Tryz.f112.body.get rfl)) ⟨e,g,b+43,[]⟩ (Qn cfg none [] π true (Eo p sz π m V h (Mb (FX p k) (G9 p x j st)))):=by
 have um:=hu m (V.m_mem m);have e1:=AG um;have e2:=Av um;have d1:=hd.ok.be;have d2:=hd.ok.ac;have hGd:G.ge=x.n:=by rw[hG];rfl
 have hGa:G.at_=j.at_:=by rw[hG];rfl
 have hmS:=hI.qr.small;simp only[A9.small,AP,Ap]at hmS;obtain⟨s1,s2,s3,s4⟩:=hmS;obtain⟨ng,hng⟩: ∃n,n=st.d9.bv.length:=⟨_,rfl⟩;obtain⟨n3,hn3⟩: ∃n,n=st.d9.be.length:=⟨_,rfl⟩;obtain⟨n0,hn0⟩: ∃n,n=st.d9.ac.length:=⟨_,rfl⟩;have s2':ng≤40:=by omega
 obtain⟨NC,hNC⟩: ∃l,l=Eh d G ng 0 d.be:=⟨_,rfl⟩;have hNCa: ∀(t:Nat) c,d.be[t]? =some c→NC[t]? =some ⟨ng,t,G.place d c.at_,[]⟩:=fun t c hc=>by rw[hNC,JJ,hc];simp
 have hplace:=AA.mk (UI (m:=m) hF hd hG);have hR:AA (Bz p sz π m V h (b+43) V st g):=⟨(O0 hM hu k1).up (by omega)⟩;refine uJ 3 fun T hT=>?_;have hend:AA (∀(e:BT) (H:AB) (c:Nat),e.get 0=.ptr m 0→e.get 3=.ptr (0::0::π) 0→e.get 4=.ptr (0::10::π) 0→e.get 5=.ptr (0::21::π) 0→e.get 6=.ptr (0::31::π) 0→(∃V2,Bz p sz π m V h (c+66) V2 {st with d9:=Bu st.d9 d G} H∧ ∀i∈AD ev,i∉V2.ids m)→H.get (0::0::π)=some (.box [.d (.int .i64 (j.node)),.d (.int .i64 (j.at_)),.d (.ce (j.env.map AJ))])→H.get (0::10::π)=some (.box [.d (.int .i64 (x.op)),.d (.int .i64 (x.n)),.d (.ce (x.args.map Bp)),.d (.ce (x.kids.map AL))])→H.get (0::21::π)=some (.box [.d (.ce (d.be.map BJ)),.d (.ce (d.ac.map A6)),.d (.ce (d.rules.map BG))])→H.get (0::31::π)=some (.box [.d (.int .i64 (x.n)),.d (.int .i64 (j.at_)),ev])→ZZ π H (c+66) ev G.env→Wp cfg (KL Tryz.prog cfg) ⟨112,π,true,none,false,204⟩ 0 T ⟨e,H,c+66,[]⟩ (Qn cfg none [] π true (Eo p sz π m V h (Mb (FX p k) (G9 p x j st))))):=⟨fun e H c x0 x3 x4 x5 x6 hr y2 y3 y4 y5 hf=>by
  obtain⟨V2,hr,hv⟩:=hr;rw[hT];exact gZ hF IH0 hu hI hd hG x0 x3 x4 x5 x6 (by omega) hr hv y2 y3 y4 y5 hf⟩
 replace hT:=AA.mk hT;replace hM:=AA.mk hM;replace hu:=AA.mk hu;replace hd:=AA.mk hd;replace hI:=AA.mk hI;replace hG:=AA.mk hG;replace hng:=AA.mk hng;replace hn3:=AA.mk hn3;replace hn0:=AA.mk hn0;replace hNC:=AA.mk hNC;replace hNCa:=AA.mk hNCa;replace k1:=AA.mk k1;simp only[Tryz.f112,AS,zY,gR];refine aw ?_;clear en0 en3 en4 en5 en6;refine AU d.be _ (S:=fun m' i (a:AB×Nat)=>⟨[(0,.ptr m 0),(3,.ptr (0::0::π) 0),(4,.ptr (0::10::π) 0),(5,.ptr (0::21::π) 0),(6,.ptr (0::31::π) 0),(84,.d (.ce (d.be.map BJ))),(85,.d (.int .i64 (m'))),(86,.d (.int .i64 (i)))],a.1,a.2+47,[]⟩)
  (Inv:=fun i rest a=>AA (∃V',Bz p sz π m V h (a.2+47) V' {st with d9:={st.d9 with be:=st.d9.be++NC.take i}} a.1∧ ∀i∈AD ev,i∉V'.ids m)∧a.1.get (0::0::π)=some (.box [.d (.int .i64 (j.node)),.d (.int .i64 (j.at_)),.d (.ce (j.env.map AJ))])∧a.1.get (0::10::π)=some (.box [.d (.int .i64 (x.op)),.d (.int .i64 (x.n)),.d (.ce (x.args.map Bp)),.d (.ce (x.kids.map AL))])∧a.1.get (0::21::π)=some (.box [.d (.ce (d.be.map BJ)),.d (.ce (d.ac.map A6)),.d (.ce (d.rules.map BG))])∧a.1.get (0::31::π)=some (.box [.d (.int .i64 (x.n)),.d (.int .i64 (j.at_)),ev])∧AA (NF π a.1 (a.2+47) ev G.env)) (b0:=(_,b)) rfl ⟨⟨V,by simpa using hR.out.up (by omega),rA kl2 hu.out⟩,k2,k3,k4,k5,⟨P0 kl2 (by omega)⟩⟩ ?_ ?_
 .clear hR kl2 k1 k2 k3 k4 k5 g b;rintro i y ⟨g,b⟩ hy hi him ⟨hR,k2,k3,k4,k5,kl⟩ IH;dsimp only at*;obtain⟨V',hR,hev⟩:=hR.out;have hevn:=Mm kl.out (b+81);have hpy:=hd.out.ok.chan y (Ac hy);have gm:=hR.rep.box;have hpl:=fun(H:AB) (n:Nat) (hH:H.get m=g.get m)=>hplace.out H (n::π) V' st.work (hH.trans gm) (AF um n) y.at_ hpy.1 hpy.2.1;replace hpl:=AA.mk hpl;simp only[Ah]at gm;have hl1:=G0 (hR.rep.sl 1 (by omega));simp only[Ax,BY,←hng.out]at hl1;have hv3:=hR.rep.arr;have hA3:AA (∀A,V'.v3=.f8 A 0 V'.rows.length→(∀a n,b+47≤n→Id.is (a::n::π) A=false)∧(∀a n,b+47≤n→Id.is A (a::n::π)=false)∧Id.is A m=false∧Id.is m A=false∧ ∀k,Id.is A (0::k::π)=false):=⟨fun A hA=>by
   have hi:=hR.ids A (V'.v3_mem m (by rw[hA];simp[AD]));have hg:=Gu hR.rep.arr (id:=A) (by rw[hA];simp[AD]);exact⟨Ev (b':=0) hu.out hi,Jv hu.out hi,AE fun e=>(by rw[e,gm]at hg;cases hg),AE fun e=>(by rw[←e,gm]at hg;cases hg),fun k=>AE fun e=>Gr hR hu.out k (by rw[←e];exact V'.v3_mem m (by rw[hA];simp[AD]))⟩⟩
  have hrl:V'.rows.length≤1000:=by
   have:=hR.rep.be.len;simp only[CE,He]at this;omega
  have hgo:AA (∀H:AB,H.get m=some (.box (Ah p sz {V' with v3:=.f8 (1::(b+74)::π) 0 (V'.rows.length+1)} st.work))→H.get (1::(b+74)::π)=some (.arr 4 (V'.rows++[Aq ⟨ng,i,G.place d y.at_,[]⟩ .co]))→(∀id,Id.is m id=false→(∀id2∈AD V'.v3,Id.is id2 id=false)→HG (b+47) (b+81) π id=false→H.get id=g.get id)→ ∃V2,Bz p sz π m V h (b+81) V2 {st with d9:={st.d9 with be:=st.d9.be++NC.take (i+1)}} H∧ ∀i∈AD ev,i∉V2.ids m):=⟨fun H a1 a0 a4=>by
   obtain⟨V2,z1,z2⟩:=hR.step (b':=b+81) (by omega) (pC hR.rep (hR.apartB hu.out) (q:=⟨ng,i,G.place d y.at_,[]⟩) rfl (1::(b+74)::π) H a1 a0 ⟨KN (b+74) [1] (by omega) (by omega),_,rfl⟩ a4);rw[Is,hNCa.out i y hy,←D3];exact⟨V2,z1,fun i hi=>z2 i (hev i hi) (hevn i hi)⟩⟩
  replace hevn:=AA.mk hevn;replace hev:=AA.mk hev;replace hR:=AA.mk hR;replace kl:=kl.out;rcases kl with⟨hz,rfl⟩|⟨id,rfl,hg,n,hnb,hun,hl⟩
  .have hpl2:=hpl.out;rw[hz,CO]at hpl2;replace hpl2:=AA.mk hpl2;replace hz:=AA.mk hz;rcases hv3 with⟨hv3,hr0⟩|⟨A,hv3,gA⟩
   .rw[hv3]at gm
    (repeat' (first|simp only[go_sem, *,↓hl1,AM]|(refine sx ?_ ?_<;>intro hc)|refine sy (by omega) fun x hx hm=>?_|simp(disch:=first|assumption|omega) only[AN]))
    refine Cf (hpl2.out _ _ ?_) (fun o1 g1 p1=>?_)
    .simp only[go_sem,e1,AM]
    subst p1
    (repeat' (first|simp only[go_sem, *,↓hl1,AM]|(refine sx ?_ ?_<;>intro hc)|refine sy (by omega) fun x hx hm=>?_|simp(disch:=first|assumption|omega) only[AN]))
    refine IH.out (_,_) ⟨⟨hgo.out _ ?_ ?_ fun id b1 b2 b3=>?_⟩,?_,?_,?_,?_,⟨.inl ⟨hz.out,rfl⟩⟩⟩
    .rw[hr0];simp only[go_sem,Ah];first|done|rfl
    .rw[hr0];simp only[go_sem,e2,AM];rfl
    .have q5:=Cp b3;simp only[go_sem,q5,b1,AM]
    .simp only[go_sem,k2,e2,AM]
    .simp only[go_sem,k3,e2,AM]
    .simp only[go_sem,k4,e2,AM]
    .simp only[go_sem,k5,e2,AM]
   .obtain⟨q1,q2,q3,q4,q5⟩:=hA3.out A hv3;rw[hv3]at gm
    (repeat' (first|simp only[go_sem, *,↓hl1,EM,AM]|(refine sx ?_ ?_<;>intro hc)|refine sy (by omega) fun x hx hm=>?_|simp(disch:=first|assumption|omega) only[AN]))
    refine Cf (hpl2.out _ _ ?_) (fun o1 g1 p1=>?_)
    .simp only[go_sem,e1,AM,q1,q2,q3,q4,q5]
    subst p1
    (repeat' (first|simp only[go_sem, *,↓hl1,EM,AM]|(refine sx ?_ ?_<;>intro hc)|refine sy (by omega) fun x hx hm=>?_|simp(disch:=first|assumption|omega) only[AN]))
    refine IH.out (_,_) ⟨⟨hgo.out _ ?_ ?_ fun id2 b1 b2 b3=>?_⟩,?_,?_,?_,?_,⟨.inl ⟨hz.out,rfl⟩⟩⟩
    .simp only[go_sem,Ah,AM,q1,q2,q3,q4,q5];first|done|rfl
    .simp only[go_sem,e2,Aq,AM,q1,q2,q3,q4,q5];first|done|rfl
    .have q6:=Cp b3;have q7:=b2 A (by rw[hv3];simp[AD]);simp only[go_sem,q6,b1,q7,AM]
    .simp only[go_sem,k2,e2,AM,q1,q2,q3,q4,q5]
    .simp only[go_sem,k3,e2,AM,q1,q2,q3,q4,q5]
    .simp only[go_sem,k4,e2,AM,q1,q2,q3,q4,q5]
    .simp only[go_sem,k5,e2,AM,q1,q2,q3,q4,q5]
  .obtain⟨f1,f2,f3,f4⟩:=FZ hnb hun hl;have mi:Id.is m id=false:=AE fun e=>by rw[←e,gm]at hg;cases hg
   have im:Id.is id m=false:=AE fun e=>by rw[e,gm]at hg;cases hg
   replace hun:=AA.mk hun;replace hl:=AA.mk hl;rcases hv3 with⟨hv3,hr0⟩|⟨A,hv3,gA⟩
   .rw[hv3]at gm
    (repeat' (first|simp only[go_sem, *,↓hl1,EM,AM]|(refine sx ?_ ?_<;>intro hc)|refine sy (by omega) fun x hx hm=>?_|simp(disch:=first|assumption|omega) only[AN]))
    refine Cf (hpl.out _ _ ?_) (fun o1 g1 p1=>?_)
    .simp only[go_sem,e1,AM,f1,f2,f3,f4,mi,im]
    subst p1
    (repeat' (first|simp only[go_sem, *,↓hl1,EM,AM]|(refine sx ?_ ?_<;>intro hc)|refine sy (by omega) fun x hx hm=>?_|simp(disch:=first|assumption|omega) only[AN]))
    refine IH.out (_,_) ⟨⟨hgo.out _ ?_ ?_ fun id2 b1 b2 b3=>?_⟩,?_,?_,?_,?_,⟨.inr ⟨id,rfl,?_,n,by omega,hun.out,hl.out⟩⟩⟩
    .rw[hr0];simp only[go_sem,Ah,AM,f1,f2,f3,f4,mi,im];first|done|rfl
    .rw[hr0];simp only[go_sem,e2,Aq,AM,f1,f2,f3,f4,mi,im];first|done|rfl
    .have q6:=Cp b3;simp only[go_sem,q6,b1,AM]
    .simp only[go_sem,k2,e2,AM,f1,f2,f3,f4,mi,im]
    .simp only[go_sem,k3,e2,AM,f1,f2,f3,f4,mi,im]
    .simp only[go_sem,k4,e2,AM,f1,f2,f3,f4,mi,im]
    .simp only[go_sem,k5,e2,AM,f1,f2,f3,f4,mi,im]
    .simp only[go_sem,hg,AM,f1,f2,f3,f4,mi,im]
   .obtain⟨q1,q2,q3,q4,q5⟩:=hA3.out A hv3;rw[hv3]at gm;have Ai:Id.is A id=false:=AE fun e=>by rw[e,hg]at gA;cases gA
    have iA:Id.is id A=false:=AE fun e=>by rw[←e,hg]at gA;cases gA
    (repeat' (first|simp only[go_sem, *,↓hl1,EM,AM]|(refine sx ?_ ?_<;>intro hc)|refine sy (by omega) fun x hx hm=>?_|simp(disch:=first|assumption|omega) only[AN]))
    refine Cf (hpl.out _ _ ?_) (fun o1 g1 p1=>?_)
    .simp only[go_sem,e1,AM,f1,f2,f3,f4,mi,im,q1,q2,q3,q4,q5,Ai,iA]
    subst p1
    (repeat' (first|simp only[go_sem, *,↓hl1,EM,AM]|(refine sx ?_ ?_<;>intro hc)|refine sy (by omega) fun x hx hm=>?_|simp(disch:=first|assumption|omega) only[AN]))
    refine IH.out (_,_) ⟨⟨hgo.out _ ?_ ?_ fun id2 b1 b2 b3=>?_⟩,?_,?_,?_,?_,⟨.inr ⟨id,rfl,?_,n,by omega,hun.out,hl.out⟩⟩⟩
    .simp only[go_sem,Ah,AM,f1,f2,f3,f4,mi,im,q1,q2,q3,q4,q5,Ai,iA];first|done|rfl
    .simp only[go_sem,e2,Aq,AM,f1,f2,f3,f4,mi,im,q1,q2,q3,q4,q5,Ai,iA];first|done|rfl
    .have q6:=Cp b3;have q7:=b2 A (by rw[hv3];simp[AD]);simp only[go_sem,q6,b1,q7,AM]
    .simp only[go_sem,k2,e2,AM,f1,f2,f3,f4,mi,im,q1,q2,q3,q4,q5,Ai,iA]
    .simp only[go_sem,k3,e2,AM,f1,f2,f3,f4,mi,im,q1,q2,q3,q4,q5,Ai,iA]
    .simp only[go_sem,k4,e2,AM,f1,f2,f3,f4,mi,im,q1,q2,q3,q4,q5,Ai,iA]
    .simp only[go_sem,k5,e2,AM,f1,f2,f3,f4,mi,im,q1,q2,q3,q4,q5,Ai,iA]
    .simp only[go_sem,hg,AM,f1,f2,f3,f4,mi,im,q1,q2,q3,q4,q5,Ai,iA]
 .clear hR kl2 k1 k2 k3 k4 k5 g b;rintro i ⟨g,b⟩ hi him ⟨hR,k2,k3,k4,k5,kl⟩;dsimp only at*;have gi:=hi.out;subst gi;clear hi;have hNCl:NC.length=d.be.length:=by rw[hNC.out,GL]
  rw[←hNCl,EM]at hR;obtain⟨V0,hR0,hev0⟩:=hR.out;clear hR;replace hev0:=AA.mk hev0;replace hR0:=AA.mk hR0;have kl2:=kl;clear kl;refine aw ?_;obtain⟨NS,hNS⟩: ∃l,l=Cq d G d.ac:=⟨_,rfl⟩;have hNSa: ∀(t:Nat) c,d.ac[t]? =some c→NS[t]? =some ⟨G.place d c.un,false⟩:=fun t c hc=>by rw[hNS,Cq,Cs,hc];rfl
  have hNSl:NS.length=d.ac.length:=by rw[hNS,Eu]
  have hn1:1≤n0:=by rw[hn0.out];exact hI.out.qr.tree.pos
  replace hNS:=AA.mk hNS;replace hNSa:=AA.mk hNSa;replace hNCl:=AA.mk hNCl;replace hNSl:=AA.mk hNSl;refine AU d.ac _ (S:=fun m' i (a:AB×Nat)=>⟨[(0,.ptr m 0),(3,.ptr (0::0::π) 0),(4,.ptr (0::10::π) 0),(5,.ptr (0::21::π) 0),(6,.ptr (0::31::π) 0),(117,.d (.ce (d.ac.map A6))),(118,.d (.int .i64 (m'))),(119,.d (.int .i64 (i)))],a.1,a.2+52,[]⟩)
   (Inv:=fun i rest a=>AA (∃V',Bz p sz π m V h (a.2+52) V' {st with d9:={st.d9 with be:=st.d9.be++NC,ac:=st.d9.ac++NS.take i}} a.1∧ ∀i∈AD ev,i∉V'.ids m)∧a.1.get (0::0::π)=some (.box [.d (.int .i64 (j.node)),.d (.int .i64 (j.at_)),.d (.ce (j.env.map AJ))])∧a.1.get (0::10::π)=some (.box [.d (.int .i64 (x.op)),.d (.int .i64 (x.n)),.d (.ce (x.args.map Bp)),.d (.ce (x.kids.map AL))])∧a.1.get (0::21::π)=some (.box [.d (.ce (d.be.map BJ)),.d (.ce (d.ac.map A6)),.d (.ce (d.rules.map BG))])∧a.1.get (0::31::π)=some (.box [.d (.int .i64 (x.n)),.d (.int .i64 (j.at_)),ev])∧AA (NF π a.1 (a.2+52) ev G.env)) (b0:=(_,b)) rfl ⟨⟨V0,by simpa using hR0.out.up (by omega),hev0.out⟩,k2,k3,k4,k5,⟨P0 kl2.out (by omega)⟩⟩ ?_ ?_
  .clear hR0 hev0 kl2 k2 k3 k4 k5 g b V0;rintro i y ⟨g,b⟩ hy hi him ⟨hR,k2,k3,k4,k5,kl⟩ IH;dsimp only at*;obtain⟨V',hR,hev⟩:=hR.out;have hevn:=Mm kl.out (b+77);have hpy:=KR hd.out.ok.spot i y hy;have gm:=hR.rep.box;have hpl:=fun(H:AB) (n:Nat) (hH:H.get m=g.get m)=>hplace.out H (n::π) V' st.work (hH.trans gm) (AF um n) y.un hpy.1 (by omega);replace hpl:=AA.mk hpl;simp only[Ah]at gm;have hs:=hR.rep.sl 0 (by omega);obtain⟨LS,hLS⟩: ∃l,l=st.d9.ac++NS.take i:=⟨_,rfl⟩;have hLSl:LS.length≤100:=by rw[hLS];simp;omega
   simp only[Ff,Ax,←hLS]at hs;have hLS0:LS≠ []:=by
    intro e;have h2:LS.length=0:=by rw[e];rfl
    rw[hLS,CE]at h2;have:=hI.out.qr.tree.pos;omega
   rcases hs with⟨_,hs⟩|⟨S,xs,hs,gS⟩
   .exact absurd (F9.1 hs) hLS0
   have hgo:AA (∀(v:AV) (H:AB),H.get m=some (.box (Ah p sz (V'.ii 0 v) st.work))→Kc H 2 v ((LS++[(⟨G.place d y.un,false⟩:A7)]).map Aj)→(AD v=AD (V'.s 0)∨ ∀id∈AD v,HG (b+52) (b+77) π id=true∧ ∃l,id=1::l)→(∀id,Id.is m id=false→(∀id2∈AD (V'.s 0),Id.is id2 id=false)→HG (b+52) (b+77) π id=false→H.get id=g.get id)→ ∃V2,Bz p sz π m V h (b+77) V2 {st with d9:={st.d9 with be:=st.d9.be++NC,ac:=st.d9.ac++NS.take (i+1)}} H∧ ∀i∈AD ev,i∉V2.ids m):=⟨fun v H a1 a2 a3 a4=>by
    obtain⟨V2,z1,z2⟩:=hR.step (b':=b+77) (by omega) (HP (st':={st with d9:={st.d9 with be:=st.d9.be++NC,ac:=LS++[⟨G.place d y.un,false⟩]}}) 0 (by omega) hR.rep (hR.apartB hu.out) (qh rfl rfl rfl) rfl v H a1 a2 a3 a4)
    rw[Is,hNSa.out i y hy,←D3,←hLS];exact⟨V2,z1,fun i hi=>z2 i (hev i hi) (hevn i hi)⟩⟩
   replace hevn:=AA.mk hevn;replace hev:=AA.mk hev;rw[BY]at hs;have hSi:=hR.ids S (V'.s_mem m (i:=0) (by omega) (by rw[hs];simp[AD]));have q1:=fun a n hn=>Ev (b':=0) hu.out hSi a n hn;have q2:=fun a n hn=>Jv hu.out hSi a n hn;have q3:Id.is S m=false:=AE fun e=>by rw[e,gm]at gS;cases gS
   have q4:Id.is m S=false:=AE fun e=>by rw[←e,gm]at gS;cases gS
   have q5: ∀k,Id.is S (0::k::π)=false:=fun k=>AE fun e=>Gr hR hu.out k (by rw[←e];exact V'.s_mem m (i:=0) (by omega) (by rw[hs];simp[AD]));rw[hs]at gm;replace hLS:=AA.mk hLS;replace hR:=AA.mk hR;replace kl:=kl.out;rcases kl with⟨hz,rfl⟩|⟨id,rfl,hg,n,hnb,hun,hl⟩
   .have hpl2:=hpl.out;rw[hz,CO]at hpl2;replace hpl2:=AA.mk hpl2;replace hz:=AA.mk hz;rcases xs with _|⟨z,xs⟩
    ·(repeat' (first|simp only[go_sem, *,EM,AM]|(refine sx ?_ ?_<;>intro hc)|refine sy (by omega) fun x hx hm=>?_|simp(disch:=first|assumption|omega) only[AN]))
     refine Cf (hpl2.out _ _ ?_) (fun o1 g1 p1=>?_)
     .simp only[go_sem,e1,AM,q1,q2,q3,q4,q5]
     subst p1
     (repeat' (first|simp only[go_sem, *,EM,AM]|(refine sx ?_ ?_<;>intro hc)|refine sy (by omega) fun x hx hm=>?_|simp(disch:=first|assumption|omega) only[AN]))
     refine IH.out (_,_) ⟨⟨hgo.out (.f8 (1::(b+70)::π) 0 (LS.length+1)) _ ?_ (BP [] (by simp) ?_) (.inr fun id2 hid=>?_) fun id2 b1 b2 b3=>?_⟩,?_,?_,?_,?_,⟨.inl ⟨hz.out,rfl⟩⟩⟩
     .simp only[go_sem,Ah,AM,q1,q2,q3,q4,q5];first|done|rfl
     .simp only[go_sem,e2,By,CO,AM,q1,q2,q3,q4,q5];first|done|rfl
     .simp only[AD,As]at hid;subst hid;exact⟨KN (b+70) [1] (by omega) (by omega),_,rfl⟩
     .have q6:=Cp b3;have q7:=b2 S (by rw[hs];simp[AD]);simp only[go_sem,q6,b1,q7,AM]
     .simp only[go_sem,k2,e2,AM,q1,q2,q3,q4,q5]
     .simp only[go_sem,k3,e2,AM,q1,q2,q3,q4,q5]
     .simp only[go_sem,k4,e2,AM,q1,q2,q3,q4,q5]
     .simp only[go_sem,k5,e2,AM,q1,q2,q3,q4,q5]
    ·(repeat' (first|simp only[go_sem, *,EM,AM]|(refine sx ?_ ?_<;>intro hc)|refine sy (by omega) fun x hx hm=>?_|simp(disch:=first|assumption|omega) only[AN]))
     refine Cf (hpl2.out _ _ ?_) (fun o1 g1 p1=>?_)
     .simp only[go_sem,e1,AM,q1,q2,q3,q4,q5]
     subst p1
     (repeat' (first|simp only[go_sem, *,EM,AM]|(refine sx ?_ ?_<;>intro hc)|refine sy (by omega) fun x hx hm=>?_|simp(disch:=first|assumption|omega) only[AN]))
     refine IH.out (_,_) ⟨⟨hgo.out (.f8 S 0 (LS.length+1)) _ ?_ (BP xs (by simp) ?_) (.inl (by rw[hs];rfl)) fun id2 b1 b2 b3=>?_⟩,?_,?_,?_,?_,⟨.inl ⟨hz.out,rfl⟩⟩⟩
     .simp only[go_sem,Ah,AM,q1,q2,q3,q4,q5];first|done|rfl
     .simp only[go_sem,e2,By,CO,AM,q1,q2,q3,q4,q5];first|done|rfl
     .have q6:=Cp b3;have q7:=b2 S (by rw[hs];simp[AD]);simp only[go_sem,q6,b1,q7,AM]
     .simp only[go_sem,k2,e2,AM,q1,q2,q3,q4,q5]
     .simp only[go_sem,k3,e2,AM,q1,q2,q3,q4,q5]
     .simp only[go_sem,k4,e2,AM,q1,q2,q3,q4,q5]
     .simp only[go_sem,k5,e2,AM,q1,q2,q3,q4,q5]
   .obtain⟨f1,f2,f3,f4⟩:=FZ hnb hun hl;have mi:Id.is m id=false:=AE fun e=>by rw[←e,gm]at hg;cases hg
    have im:Id.is id m=false:=AE fun e=>by rw[e,gm]at hg;cases hg
    have Ai:Id.is S id=false:=AE fun e=>hev.out id (by simp[AD]) (by rw[←e];exact V'.s_mem m (i:=0) (by omega) (by rw[hs];simp[AD]));have iA:Id.is id S=false:=AE fun e=>by rw[e,is_self]at Ai;cases Ai
    replace hun:=AA.mk hun;replace hl:=AA.mk hl;rcases xs with _|⟨z,xs⟩
    ·(repeat' (first|simp only[go_sem, *,EM,AM]|(refine sx ?_ ?_<;>intro hc)|refine sy (by omega) fun x hx hm=>?_|simp(disch:=first|assumption|omega) only[AN]))
     refine Cf (hpl.out _ _ ?_) (fun o1 g1 p1=>?_)
     .simp only[go_sem,e1,AM,q1,q2,q3,q4,q5,f1,f2,f3,f4,mi,im,Ai,iA]
     subst p1
     (repeat' (first|simp only[go_sem, *,EM,AM]|(refine sx ?_ ?_<;>intro hc)|refine sy (by omega) fun x hx hm=>?_|simp(disch:=first|assumption|omega) only[AN]))
     refine IH.out (_,_) ⟨⟨hgo.out (.f8 (1::(b+70)::π) 0 (LS.length+1)) _ ?_ (BP [] (by simp) ?_) (.inr fun id2 hid=>?_) fun id2 b1 b2 b3=>?_⟩,?_,?_,?_,?_,⟨.inr ⟨id,rfl,?_,n,by omega,hun.out,hl.out⟩⟩⟩
     .simp only[go_sem,Ah,AM,q1,q2,q3,q4,q5,f1,f2,f3,f4,mi,im,Ai,iA];first|done|rfl
     .simp only[go_sem,e2,By,CO,AM,q1,q2,q3,q4,q5,f1,f2,f3,f4,mi,im,Ai,iA];first|done|rfl
     .simp only[AD,As]at hid;subst hid;exact⟨KN (b+70) [1] (by omega) (by omega),_,rfl⟩
     .have q6:=Cp b3;have q7:=b2 S (by rw[hs];simp[AD]);simp only[go_sem,q6,b1,q7,AM]
     .simp only[go_sem,k2,e2,AM,q1,q2,q3,q4,q5,f1,f2,f3,f4,mi,im,Ai,iA]
     .simp only[go_sem,k3,e2,AM,q1,q2,q3,q4,q5,f1,f2,f3,f4,mi,im,Ai,iA]
     .simp only[go_sem,k4,e2,AM,q1,q2,q3,q4,q5,f1,f2,f3,f4,mi,im,Ai,iA]
     .simp only[go_sem,k5,e2,AM,q1,q2,q3,q4,q5,f1,f2,f3,f4,mi,im,Ai,iA]
     .simp only[go_sem,hg,AM,q1,q2,q3,q4,q5,f1,f2,f3,f4,mi,im,Ai,iA]
    ·(repeat' (first|simp only[go_sem, *,EM,AM]|(refine sx ?_ ?_<;>intro hc)|refine sy (by omega) fun x hx hm=>?_|simp(disch:=first|assumption|omega) only[AN]))
     refine Cf (hpl.out _ _ ?_) (fun o1 g1 p1=>?_)
     .simp only[go_sem,e1,AM,q1,q2,q3,q4,q5,f1,f2,f3,f4,mi,im,Ai,iA]
     subst p1
     (repeat' (first|simp only[go_sem, *,EM,AM]|(refine sx ?_ ?_<;>intro hc)|refine sy (by omega) fun x hx hm=>?_|simp(disch:=first|assumption|omega) only[AN]))
     refine IH.out (_,_) ⟨⟨hgo.out (.f8 S 0 (LS.length+1)) _ ?_ (BP xs (by simp) ?_) (.inl (by rw[hs];rfl)) fun id2 b1 b2 b3=>?_⟩,?_,?_,?_,?_,⟨.inr ⟨id,rfl,?_,n,by omega,hun.out,hl.out⟩⟩⟩
     .simp only[go_sem,Ah,AM,q1,q2,q3,q4,q5,f1,f2,f3,f4,mi,im,Ai,iA];first|done|rfl
     .simp only[go_sem,e2,By,CO,AM,q1,q2,q3,q4,q5,f1,f2,f3,f4,mi,im,Ai,iA];first|done|rfl
     .have q6:=Cp b3;have q7:=b2 S (by rw[hs];simp[AD]);simp only[go_sem,q6,b1,q7,AM]
     .simp only[go_sem,k2,e2,AM,q1,q2,q3,q4,q5,f1,f2,f3,f4,mi,im,Ai,iA]
     .simp only[go_sem,k3,e2,AM,q1,q2,q3,q4,q5,f1,f2,f3,f4,mi,im,Ai,iA]
     .simp only[go_sem,k4,e2,AM,q1,q2,q3,q4,q5,f1,f2,f3,f4,mi,im,Ai,iA]
     .simp only[go_sem,k5,e2,AM,q1,q2,q3,q4,q5,f1,f2,f3,f4,mi,im,Ai,iA]
     .simp only[go_sem,hg,AM,q1,q2,q3,q4,q5,f1,f2,f3,f4,mi,im,Ai,iA]
  .clear hR0 hev0 kl2 k2 k3 k4 k5 g b V0 him;rintro i ⟨g,b⟩ hi him ⟨hR,k2,k3,k4,k5,kl⟩;dsimp only at*;have gi:=hi.out;subst gi;clear hi;have hNSl2:=hNSl.out;rw[←hNSl2,EM]at hR;obtain⟨V',hR,hev⟩:=hR.out;have hevn:=Mm kl.out (b+66);have gm:=hR.rep.box;simp only[Ah]at gm;have hl3:=Pz hR.rep.arr;rw[hR.rep.be.len]at hl3;simp only[CE,←hn3.out,hNCl.out]at hl3;have hl0:=G0 (hR.rep.sl 0 (by omega));simp only[Ax,BY,CE,←hn0.out,hNSl2]at hl0;have hs:=hR.rep.sl 1 (by omega);simp only[Ff,Ax]at hs;clear hNSl2;have hgo:AA (∀(g1:AB) (v:AV) (H:AB),(∀i∈V'.ids m,g1.get i=g.get i)→(∀i,Id.under π i=false→g1.get i=g.get i)→H.get m=some (.box (Ah p sz (V'.ii 1 v) st.work))→Kc H 3 v ((st.d9.bv++[G]).map A8)→(AD v=AD (V'.s 1)∨ ∀id∈AD v,HG (b+52) (b+66) π id=true∧ ∃l,id=1::l)→(∀id,Id.is m id=false→(∀id2∈AD (V'.s 1),Id.is id2 id=false)→HG (b+52) (b+66) π id=false→H.get id=g1.get id)→ ∃V2,Bz p sz π m V h (b+66) V2 {st with d9:=Bu st.d9 d G} H∧ ∀i∈AD ev,i∉V2.ids m):=⟨fun g1 v H b1 b2 a1 a2 a3 a4=>by
    have hR1:Bz p sz π m V h (b+52) V' {st with d9:={st.d9 with be:=st.d9.be++NC,ac:=st.d9.ac++NS}} g1:=⟨B4 hR.rep b1,hR.ids,fun id c1 c2=>(b2 id c2).trans (hR.frame id c1 c2)⟩
    obtain⟨V2,z1,z2⟩:=hR1.step (b':=b+66) (by omega) (HP (st':={st with d9:={st.d9 with be:=st.d9.be++NC,ac:=st.d9.ac++NS,bv:=st.d9.bv++[G]}}) 1 (by omega) hR1.rep (hR1.apartB hu.out) (ACE rfl rfl rfl) rfl v H a1 a2 a3 a4)
    refine⟨V2,?_,fun i hi=>z2 i (hev i hi) (hevn i hi)⟩;rw[Bu,←hng.out,←hNC.out,←hNS.out];exact z1⟩
   have hsq:AA (∀S,V'.s 1=.f8 S 0 st.d9.bv.length→(∀a n,b+52≤n→Id.is (a::n::π) S=false)∧(∀a n,b+52≤n→Id.is S (a::n::π)=false)∧Id.is S m=false∧Id.is m S=false∧(∀k,Id.is S (0::k::π)=false)∧(∀i∈AD ev,Id.is S i=false∧Id.is i S=false)):=⟨fun S hS=>by
    have hm2:S∈V'.ids m:=V'.s_mem m (i:=1) (by omega) (by rw[hS];simp[AD]);have hi:=hR.ids S hm2;obtain⟨x0,hg⟩:=ED (hR.rep.sl 1 (by omega)) (id:=S) (by rw[hS];simp[AD]);exact⟨fun a n hn=>Ev (b':=0) hu.out hi a n hn,Jv hu.out hi,AE fun e=>(by rw[e,gm]at hg;cases hg),AE fun e=>(by rw[←e,gm]at hg;cases hg),fun k=>AE fun e=>Gr hR hu.out k (by rw[←e];exact hm2),fun i hi=>⟨AE fun e=>hev i hi (by rw[←e];exact hm2),AE fun e=>hev i hi (by rw[e];exact hm2)⟩⟩⟩
   have hvi:AA (∀i∈V'.ids m,∀i2∈AD ev,Id.is i2 i=false):=⟨fun i hi i2 hi2=>AE fun e=>hev i2 hi2 (by rw[e];exact hi)⟩;have hui:AA (∀i,Id.under π i=false→ ∀i2∈AD ev,Id.is i2 i=false):=⟨fun i hi i2 hi2=>AE fun e=>by
    rcases kl.out with⟨_,rfl⟩|⟨id,rfl,_,n,_,hun,_⟩
    .simp[AD]at hi2
    .simp only[AD,As]at hi2;subst hi2;rw[←e,BD hun]at hi;cases hi⟩
   replace hevn:=AA.mk hevn;replace hev:=AA.mk hev;replace hR:=AA.mk hR;replace kl:=kl.out;rcases kl with⟨hz,he⟩|⟨id,he,hg,n,hnb,hun,hl⟩
   .rw[he]at k5;rcases hs with⟨hs,hs0⟩|⟨S,xs,hs,gS⟩
    .have hs1:=AA.mk (F9.1 hs0);rw[hs]at gm
     (repeat' (first|simp only[go_sem, *,↓hl3,↓hl0,AM]|(refine sx ?_ ?_<;>intro hc)|refine sy (by omega) fun x hx hm=>?_|simp(disch:=first|assumption|omega) only[AN]))
     refine hend.out _ _ _ rfl rfl rfl rfl rfl (hgo.out g (.f8 (1::(b+61)::π) 0 1) _ (fun _ _=>rfl) (fun _ _=>rfl) ?_ (BP [] ?_ ?_) (.inr fun id2 hid=>?_) fun id2 b1 b2 b3=>?_) ?_ ?_ ?_ ?_ ?_
     .simp only[go_sem,Ah,AM,hGd,hGa,hz];first|done|rfl
     .rw[hs1.out];rfl
     .rw[hs1.out];simp only[go_sem,e2,AM,hGd,hGa,hz];first|done|rfl
     .simp only[AD,As]at hid;subst hid;exact⟨KN (b+61) [1] (by omega) (by omega),_,rfl⟩
     .have q6:=Cp b3;simp only[go_sem,q6,b1,AM]
     .simp only[go_sem,k2,e2,AM,hGd,hGa,hz]
     .simp only[go_sem,k3,e2,AM,hGd,hGa,hz]
     .simp only[go_sem,k4,e2,AM,hGd,hGa,hz]
     .rw[he];simp only[go_sem,k5,e2,AM,hGd,hGa,hz]
     .exact .inl ⟨hz,he⟩
    .rw[BY]at hs;rcases xs with _|⟨z,xs⟩
     .skip
      obtain⟨q1,q2,q3,q4,q5,q8⟩:=hsq.out S hs;replace q8:=AA.mk q8;rw[hs]at gm
      (repeat' (first|simp only[go_sem, *,↓hl3,↓hl0,AM]|(refine sx ?_ ?_<;>intro hc)|refine sy (by omega) fun x hx hm=>?_|simp(disch:=first|assumption|omega) only[AN]))
      refine hend.out _ _ _ rfl rfl rfl rfl rfl (hgo.out g (.f8 (1::(b+61)::π) 0 (st.d9.bv.length+1)) _ (fun _ _=>rfl) (fun _ _=>rfl) ?_ (BP [] ?_ ?_) (.inr fun id2 hid=>?_) fun id2 b1 b2 b3=>?_) ?_ ?_ ?_ ?_ ?_
      .simp only[go_sem,Ah,AM,hGd,hGa,q1,q2,q3,q4,q5,hz];first|done|rfl
      .simp
      .simp only[go_sem,e2,By,CO,AM,hGd,hGa,q1,q2,q3,q4,q5,hz];first|done|rfl
      .simp only[AD,As]at hid;subst hid;exact⟨KN (b+61) [1] (by omega) (by omega),_,rfl⟩
      .have q6:=Cp b3;have q7:=b2 S (by rw[hs];simp[AD]);simp only[go_sem,q6,b1,q7,AM]
      .simp only[go_sem,k2,e2,AM,hGd,hGa,q1,q2,q3,q4,q5,hz]
      .simp only[go_sem,k3,e2,AM,hGd,hGa,q1,q2,q3,q4,q5,hz]
      .simp only[go_sem,k4,e2,AM,hGd,hGa,q1,q2,q3,q4,q5,hz]
      .rw[he];simp only[go_sem,k5,e2,AM,hGd,hGa,q1,q2,q3,q4,q5,hz]
      .exact .inl ⟨hz,he⟩
     .skip
      obtain⟨q1,q2,q3,q4,q5,q8⟩:=hsq.out S hs;replace q8:=AA.mk q8;rw[hs]at gm
      (repeat' (first|simp only[go_sem, *,↓hl3,↓hl0,AM]|(refine sx ?_ ?_<;>intro hc)|refine sy (by omega) fun x hx hm=>?_|simp(disch:=first|assumption|omega) only[AN]))
      refine hend.out _ _ _ rfl rfl rfl rfl rfl (hgo.out g (.f8 S 0 (st.d9.bv.length+1)) _ (fun _ _=>rfl) (fun _ _=>rfl) ?_ (BP xs ?_ ?_) (.inl (by rw[hs];rfl)) fun id2 b1 b2 b3=>?_) ?_ ?_ ?_ ?_ ?_
      .simp only[go_sem,Ah,AM,hGd,hGa,q1,q2,q3,q4,q5,hz];first|done|rfl
      .simp
      .simp only[go_sem,e2,By,CO,AM,hGd,hGa,q1,q2,q3,q4,q5,hz];first|done|rfl
      .have q6:=Cp b3;have q7:=b2 S (by rw[hs];simp[AD]);simp only[go_sem,q6,b1,q7,AM]
      .simp only[go_sem,k2,e2,AM,hGd,hGa,q1,q2,q3,q4,q5,hz]
      .simp only[go_sem,k3,e2,AM,hGd,hGa,q1,q2,q3,q4,q5,hz]
      .simp only[go_sem,k4,e2,AM,hGd,hGa,q1,q2,q3,q4,q5,hz]
      .rw[he];simp only[go_sem,k5,e2,AM,hGd,hGa,q1,q2,q3,q4,q5,hz]
      .exact .inl ⟨hz,he⟩
   .rw[he]at k5;obtain⟨f1,f2,f3,f4⟩:=FZ hnb hun hl;have mi:Id.is m id=false:=AE fun e=>by rw[←e,gm]at hg;cases hg
    have im:Id.is id m=false:=AE fun e=>by rw[e,gm]at hg;cases hg
    replace hun:=AA.mk hun;replace hl:=AA.mk hl;rcases hs with⟨hs,hs0⟩|⟨S,xs,hs,gS⟩
    .have hs1:=AA.mk (F9.1 hs0);rw[hs]at gm
     (repeat' (first|simp only[go_sem, *,↓hl3,↓hl0,AM]|(refine sx ?_ ?_<;>intro hc)|refine sy (by omega) fun x hx hm=>?_|simp(disch:=first|assumption|omega) only[AN]))
     refine hend.out _ _ _ rfl rfl rfl rfl rfl (hgo.out (g.put id (.i5 2 (G.env.map AJ))) (.f8 (1::(b+61)::π) 0 1) _ (fun i hi=>by rw[get_put,hvi.out i hi id (by rw[he];simp[AD])];simp) (fun i hi=>by rw[get_put,hui.out i hi id (by rw[he];simp[AD])];simp) ?_ (BP [] ?_ ?_) (.inr fun id2 hid=>?_) fun id2 b1 b2 b3=>?_) ?_ ?_ ?_ ?_ ?_
     .simp only[go_sem,Ah,AM,hGd,hGa,f1,f2,f3,f4,mi,im];first|done|rfl
     .rw[hs1.out];rfl
     .rw[hs1.out];simp only[go_sem,e2,AM,hGd,hGa,f1,f2,f3,f4,mi,im];first|done|rfl
     .simp only[AD,As]at hid;subst hid;exact⟨KN (b+61) [1] (by omega) (by omega),_,rfl⟩
     .have q6:=Cp b3;simp only[go_sem,q6,b1,AM]
     .simp only[go_sem,k2,e2,AM,hGd,hGa,f1,f2,f3,f4,mi,im]
     .simp only[go_sem,k3,e2,AM,hGd,hGa,f1,f2,f3,f4,mi,im]
     .simp only[go_sem,k4,e2,AM,hGd,hGa,f1,f2,f3,f4,mi,im]
     .rw[he];simp only[go_sem,k5,e2,AM,hGd,hGa,f1,f2,f3,f4,mi,im]
     .refine .inr ⟨id,he,?_,n,by omega,hun.out,hl.out⟩;simp only[go_sem,e2,AM,hGd,hGa,f1,f2,f3,f4,mi,im]
    .rw[BY]at hs;rcases xs with _|⟨z,xs⟩
     .skip
      obtain⟨q1,q2,q3,q4,q5,q8⟩:=hsq.out S hs;obtain⟨q9,q10⟩:=q8 id (by rw[he];simp[AD]);replace q8:=AA.mk q8;rw[hs]at gm
      (repeat' (first|simp only[go_sem, *,↓hl3,↓hl0,AM]|(refine sx ?_ ?_<;>intro hc)|refine sy (by omega) fun x hx hm=>?_|simp(disch:=first|assumption|omega) only[AN]))
      refine hend.out _ _ _ rfl rfl rfl rfl rfl (hgo.out (g.put id (.i5 2 (G.env.map AJ))) (.f8 (1::(b+61)::π) 0 (st.d9.bv.length+1)) _ (fun i hi=>by rw[get_put,hvi.out i hi id (by rw[he];simp[AD])];simp) (fun i hi=>by rw[get_put,hui.out i hi id (by rw[he];simp[AD])];simp) ?_ (BP [] ?_ ?_) (.inr fun id2 hid=>?_) fun id2 b1 b2 b3=>?_) ?_ ?_ ?_ ?_ ?_
      .simp only[go_sem,Ah,AM,hGd,hGa,q1,q2,q3,q4,q5,q9,q10,f1,f2,f3,f4,mi,im];first|done|rfl
      .simp
      .simp only[go_sem,e2,By,CO,AM,hGd,hGa,q1,q2,q3,q4,q5,q9,q10,f1,f2,f3,f4,mi,im];first|done|rfl
      .simp only[AD,As]at hid;subst hid;exact⟨KN (b+61) [1] (by omega) (by omega),_,rfl⟩
      .have q6:=Cp b3;have q7:=b2 S (by rw[hs];simp[AD]);simp only[go_sem,q6,b1,q7,AM]
      .simp only[go_sem,k2,e2,AM,hGd,hGa,q1,q2,q3,q4,q5,q9,q10,f1,f2,f3,f4,mi,im]
      .simp only[go_sem,k3,e2,AM,hGd,hGa,q1,q2,q3,q4,q5,q9,q10,f1,f2,f3,f4,mi,im]
      .simp only[go_sem,k4,e2,AM,hGd,hGa,q1,q2,q3,q4,q5,q9,q10,f1,f2,f3,f4,mi,im]
      .rw[he];simp only[go_sem,k5,e2,AM,hGd,hGa,q1,q2,q3,q4,q5,q9,q10,f1,f2,f3,f4,mi,im]
      .refine .inr ⟨id,he,?_,n,by omega,hun.out,hl.out⟩;simp only[go_sem,e2,AM,hGd,hGa,q1,q2,q3,q4,q5,q9,q10,f1,f2,f3,f4,mi,im]
     .skip
      obtain⟨q1,q2,q3,q4,q5,q8⟩:=hsq.out S hs;obtain⟨q9,q10⟩:=q8 id (by rw[he];simp[AD]);replace q8:=AA.mk q8;rw[hs]at gm
      (repeat' (first|simp only[go_sem, *,↓hl3,↓hl0,AM]|(refine sx ?_ ?_<;>intro hc)|refine sy (by omega) fun x hx hm=>?_|simp(disch:=first|assumption|omega) only[AN]))
      refine hend.out _ _ _ rfl rfl rfl rfl rfl (hgo.out (g.put id (.i5 2 (G.env.map AJ))) (.f8 S 0 (st.d9.bv.length+1)) _ (fun i hi=>by rw[get_put,hvi.out i hi id (by rw[he];simp[AD])];simp) (fun i hi=>by rw[get_put,hui.out i hi id (by rw[he];simp[AD])];simp) ?_ (BP xs ?_ ?_) (.inl (by rw[hs];rfl)) fun id2 b1 b2 b3=>?_) ?_ ?_ ?_ ?_ ?_
      .simp only[go_sem,Ah,AM,hGd,hGa,q1,q2,q3,q4,q5,q9,q10,f1,f2,f3,f4,mi,im];first|done|rfl
      .simp
      .simp only[go_sem,e2,By,CO,AM,hGd,hGa,q1,q2,q3,q4,q5,q9,q10,f1,f2,f3,f4,mi,im];first|done|rfl
      .have q6:=Cp b3;have q7:=b2 S (by rw[hs];simp[AD]);simp only[go_sem,q6,b1,q7,AM]
      .simp only[go_sem,k2,e2,AM,hGd,hGa,q1,q2,q3,q4,q5,q9,q10,f1,f2,f3,f4,mi,im]
      .simp only[go_sem,k3,e2,AM,hGd,hGa,q1,q2,q3,q4,q5,q9,q10,f1,f2,f3,f4,mi,im]
      .simp only[go_sem,k4,e2,AM,hGd,hGa,q1,q2,q3,q4,q5,q9,q10,f1,f2,f3,f4,mi,im]
      .rw[he];simp only[go_sem,k5,e2,AM,hGd,hGa,q1,q2,q3,q4,q5,q9,q10,f1,f2,f3,f4,mi,im]
      .refine .inr ⟨id,he,?_,n,by omega,hun.out,hl.out⟩;simp only[go_sem,e2,AM,hGd,hGa,q1,q2,q3,q4,q5,q9,q10,f1,f2,f3,f4,mi,im]
theorem gh{p:AI}{sz:List Int}{k:Nat}(hF:BC p sz)(IH0:H6 p sz k){h:AB}{π:List Nat}{m:Abs.Id}{V:MV}{st:B7}(hM:Dt p sz h m V st)(hu:Bn π V m)(hI:OG p sz k st)(j:Fq){x:CR}(hj:LZ p j x){d:CF}(hd:FA p sz st.d9 j x d):
 ∃o h',KL Tryz.prog cfg (.fn 112) [.ptr m 0,.agg [.d (.int .i64 (j.node)),.d (.int .i64 (j.at_)),.d (.ce (j.env.map AJ))]] h π true none=.ok (o,h')∧Eo p sz π m V h (Mb (FX p k) (G9 p x j st)) o h':=by
 have hm:=hM.box;have um:=hu m (V.m_mem m);simp only[Ah]at hm;have e1:=AG um;have e2:=Av um;have e3:=Dj um;have e4:=Jw um;have hx:=hj.node;have hn:=hj.n0;have hel:=hj.len;have hxl:=N1 hj;have hsm:=hF.small;simp only[AI.small,AP,Ap]at hsm;obtain⟨z1,z2,z3⟩:=hsm;have hdd:=hd.ge;have hd0:=hd.n0;have hdl:=AH hdd;have d1:=hd.ok.be;have d2:=hd.ok.ac;have h1:=JQ j.env (by omega);have hmS:=hI.qr.small;simp only[A9.small,AP,Ap]at hmS;obtain⟨s1,s2,s3,s4⟩:=hmS;replace hM:=AA.mk hM;replace hu:=AA.mk hu;replace hd:=AA.mk hd;replace hI:=AA.mk hI;have hl3:=Pz hM.out.arr;have hl0:=G0 (hM.out.sl 0 (by omega));rw[hM.out.be.len]at hl3;simp only[Ax,BY]at hl0;obtain⟨n3,hn3⟩: ∃n,n=st.d9.be.length:=⟨_,rfl⟩;obtain⟨n0,hn0⟩: ∃n,n=st.d9.ac.length:=⟨_,rfl⟩;rw[←hn3]at hl3;rw[←hn0]at hl0;have s3':n3≤60:=by omega
 have s1':n0≤24:=by omega
 replace hn3:=AA.mk hn3;replace hn0:=AA.mk hn0;by_cases h0:j.env.length=0;all_goals
  first
  |simp only[CH h0]at h1
  |simp only[Cr h0]at h1
  have fa:=CK
  (refine Af rfl Tryz.func112 rfl rfl rfl ?_;show Wp _ _ _ _ (Tryz.f112.body.get rfl) _ _;simp only[Tryz.f112,AS])
  refine uJ 6 fun T hT=>?_;have hend:AA (∀(e:BT) (H:AB) (c:Nat),e.get 0=.ptr m 0→e.get 3=.ptr (0::0::π) 0→e.get 4=.ptr (0::10::π) 0→e.get 5=.ptr (0::21::π) 0→e.get 6=.ptr (0::31::π) 0→(∀id,Id.under π id=false→H.get id=h.get id)→H.get (0::0::π)=some (.box [.d (.int .i64 (j.node)),.d (.int .i64 (j.at_)),.d (.ce (j.env.map AJ))])→H.get (0::10::π)=some (.box [.d (.int .i64 (x.op)),.d (.int .i64 (x.n)),.d (.ce (x.args.map Bp)),.d (.ce (x.kids.map AL))])→H.get (0::21::π)=some (.box [.d (.ce (d.be.map BJ)),.d (.ce (d.ac.map A6)),.d (.ce (d.rules.map BG))])→(∃ev,H.get (0::31::π)=some (.box [.d (.int .i64 (x.n)),.d (.int .i64 (j.at_)),ev])∧NF π H (c+43) ev (j.env++E3 n3 d.be.length++Je n0 d.ac.length))→Wp cfg (KL Tryz.prog cfg) ⟨112,π,true,none,false,204⟩ 0 T ⟨e,H,c+43,[]⟩ (Qn cfg none [] π true (Eo p sz π m V h (Mb (FX p k) (G9 p x j st))))):=⟨fun e H c x0 x3 x4 x5 x6 k1 y2 y3 y4 hev=>by
   obtain⟨ev,y5,hl⟩:=hev;rw[hT];refine ga hF IH0 hM.out hu.out hI.out hd.out rfl x0 x3 x4 x5 x6 k1 y2 y3 y4 y5 ?_;have:(Ad st.d9 d x.n j).env=j.env++E3 n3 d.be.length++Je n0 d.ac.length:=by rw[hn3.out,hn0.out,Ad,E6,D3];rfl
   rw[this];exact hl⟩
  replace hT:=AA.mk hT;simp only[Tryz.f112,AS,gR];refine ax ?_;clear h1;refine AU d.be _ (S:=fun m' i (a:AB×Nat)=>⟨[(0,.ptr m 0),(3,.ptr (0::0::π) 0),(4,.ptr (0::10::π) 0),(5,.ptr (0::21::π) 0),(6,.ptr (0::31::π) 0),(43,.d (.int .i64 (m'))),(44,.d (.int .i64 (i)))],a.1,a.2+37,[]⟩)
   (Inv:=fun i rest a=>AA (∀id,Id.under π id=false→a.1.get id=h.get id)∧a.1.get (0::0::π)=some (.box [.d (.int .i64 (j.node)),.d (.int .i64 (j.at_)),.d (.ce (j.env.map AJ))])∧a.1.get (0::10::π)=some (.box [.d (.int .i64 (x.op)),.d (.int .i64 (x.n)),.d (.ce (x.args.map Bp)),.d (.ce (x.kids.map AL))])∧a.1.get (0::21::π)=some (.box [.d (.ce (d.be.map BJ)),.d (.ce (d.ac.map A6)),.d (.ce (d.rules.map BG))])∧AA (∃ev,a.1.get (0::31::π)=some (.box [.d (.int .i64 (x.n)),.d (.int .i64 (j.at_)),ev])∧NF π a.1 (a.2+37) ev (j.env++E3 n3 i))) (b0:=(_,_)) rfl ⟨⟨fun id b=>?_⟩,?_,?_,?_,⟨?_⟩⟩ ?_ ?_
  .have q1:=AG b;have q4:=Dj b;simp only[go_sem,q1,q4,AM]
  .simp only[go_sem]
  .simp only[go_sem]
  .simp only[go_sem]
  .first
   |(refine⟨.co,?_,.inl ⟨by simp[E3,Dl h0],rfl⟩⟩
     simp only[go_sem]
     done)
   |(refine⟨.f8 (1::0::2::29::π) 0 j.env.length,?_,.inr ⟨_,by simp[E3],?_,29,by omega,under_iff.2 ⟨[1,0,2],rfl⟩,_,rfl⟩⟩
     .simp only[go_sem]
     .simp only[E3,List.range'_zero,CO,CS];simp only[go_sem])
  .rintro i y ⟨g,b⟩ hy hi him ⟨k1,k2,k3,k4,kl⟩ IH;dsimp only at*;obtain⟨ev,k5,kl⟩:=kl.out;have gm:=(k1.out m um).trans hm;have w1:IntKind.i64.wrap ((n3:Int)+(i:Int))=(n3:Int)+(i:Int):=wrap_id (by omega) (by omega);obtain⟨L,hL⟩: ∃L,L=j.env++E3 n3 i:=⟨_,rfl⟩;have hLs:AA (j.env++E3 n3 (i+1)=L++[⟨3,(n3:Int)+(i:Int)⟩]):=⟨by rw[Wx,←D3,←hL];simp⟩;rw[←hL]at kl;have hLm:L.length≤20000:=by rw[hL];simp[E3];omega
   replace hL:=AA.mk hL;rcases kl with⟨hz,rfl⟩|⟨id,rfl,hg,n,hnb,hun,hl⟩
   ·(repeat' (first|simp only[go_sem, *,↓hl3,↓hl0]|(refine sx ?_ ?_<;>intro hc)|refine sy (by omega) fun x hx hm=>?_|simp(disch:=first|assumption|omega) only[AN]))
    refine IH.out (_,_) ⟨⟨fun id b=>?_⟩,?_,?_,?_,⟨.f8 (1::(b+52)::π) 0 1,?_,?_⟩⟩
    .have q1:=AG b;simp only[go_sem,q1,k1.out id b,AM]
    .simp only[go_sem,k2]
    .simp only[go_sem,k3]
    .simp only[go_sem,k4]
    .simp only[go_sem]
    .rw[hLs.out,hz];refine Lv (by omega) rfl ?_;simp only[go_sem]
   .obtain⟨f1,f2,f3,f4⟩:=FZ hnb hun hl;have hun2:=AA.mk (BD hun);clear hl hun hnb
    (repeat' (first|simp only[go_sem, *,↓hl3,↓hl0,AM]|(refine sx ?_ ?_<;>intro hc)|refine sy (by omega) fun x hx hm=>?_|simp(disch:=first|assumption|omega) only[AN]))
    refine IH.out (_,_) ⟨⟨fun id2 b2=>?_⟩,?_,?_,?_,⟨.f8 (1::(b+52)::π) 0 (L.length+1),?_,?_⟩⟩
    .have q1:=AG b2;have q2:Id.is id id2=false:=AE fun e=>by rw[←e,hun2.out]at b2;cases b2
     simp only[go_sem,q1,q2,k1.out id2 b2,AM]
    .simp only[go_sem,k2,f3,f4,AM]
    .simp only[go_sem,k3,f3,f4,AM]
    .simp only[go_sem,k4,f3,f4,AM]
    .simp only[go_sem]
    .rw[hLs.out];refine Lv (by omega) (by simp) ?_;simp only[go_sem,f1,f2,By,AM]
  .clear s3';rintro i ⟨g,b⟩ hi him ⟨k1,k2,k3,k4,kl⟩;dsimp only at*;have gi:=hi.out;subst gi;clear hi;replace hl3:=AA.mk hl3;refine aw ?_;refine AU d.ac _ (S:=fun m' i (a:AB×Nat)=>⟨[(0,.ptr m 0),(3,.ptr (0::0::π) 0),(4,.ptr (0::10::π) 0),(5,.ptr (0::21::π) 0),(6,.ptr (0::31::π) 0),(64,.d (.int .i64 (m'))),(65,.d (.int .i64 (i)))],a.1,a.2+42,[]⟩)
    (Inv:=fun i rest a=>AA (∀id,Id.under π id=false→a.1.get id=h.get id)∧a.1.get (0::0::π)=some (.box [.d (.int .i64 (j.node)),.d (.int .i64 (j.at_)),.d (.ce (j.env.map AJ))])∧a.1.get (0::10::π)=some (.box [.d (.int .i64 (x.op)),.d (.int .i64 (x.n)),.d (.ce (x.args.map Bp)),.d (.ce (x.kids.map AL))])∧a.1.get (0::21::π)=some (.box [.d (.ce (d.be.map BJ)),.d (.ce (d.ac.map A6)),.d (.ce (d.rules.map BG))])∧AA (∃ev,a.1.get (0::31::π)=some (.box [.d (.int .i64 (x.n)),.d (.int .i64 (j.at_)),ev])∧NF π a.1 (a.2+42) ev (j.env++E3 n3 d.be.length++Je n0 i))) (b0:=(_,b)) rfl ⟨k1,k2,k3,k4,⟨by obtain⟨ev,q1,q2⟩:=kl.out;exact⟨ev,q1,by simpa[Je]using P0 q2 (by omega)⟩⟩⟩ ?_ ?_
   .clear kl k1 k2 k3 k4 g b;rintro i y ⟨g,b⟩ hy hi him ⟨k1,k2,k3,k4,kl⟩ IH;dsimp only at*;obtain⟨ev,k5,kl⟩:=kl.out;have gm:=(k1.out m um).trans hm;have w1:IntKind.i64.wrap ((n0:Int)+(i:Int))=(n0:Int)+(i:Int):=wrap_id (by omega) (by omega);obtain⟨L,hL⟩: ∃L,L=j.env++E3 n3 d.be.length++Je n0 i:=⟨_,rfl⟩;have hLs:AA (j.env++E3 n3 d.be.length++Je n0 (i+1)=L++[⟨4,(n0:Int)+(i:Int)⟩]):=⟨by rw[ZI,←D3,←hL];simp⟩;rw[←hL]at kl;have hLm:L.length≤20000:=by rw[hL];simp[E3,Je];omega
    replace hL:=AA.mk hL;rcases kl with⟨hz,rfl⟩|⟨id,rfl,hg,n,hnb,hun,hl⟩
    ·(repeat' (first|simp only[go_sem, *,↓hl0]|(refine sx ?_ ?_<;>intro hc)|refine sy (by omega) fun x hx hm=>?_|simp(disch:=first|assumption|omega) only[AN]))
     refine IH.out (_,_) ⟨⟨fun id b2=>?_⟩,?_,?_,?_,⟨.f8 (1::(b+57)::π) 0 1,?_,?_⟩⟩
     .have q1:=AG b2;simp only[go_sem,q1,k1.out id b2,AM]
     .simp only[go_sem,k2]
     .simp only[go_sem,k3]
     .simp only[go_sem,k4]
     .simp only[go_sem]
     .rw[hLs.out,hz];refine Lv (by omega) rfl ?_;simp only[go_sem]
    .obtain⟨f1,f2,f3,f4⟩:=FZ hnb hun hl;have hun2:=AA.mk (BD hun);clear hl hun hnb
     (repeat' (first|simp only[go_sem, *,↓hl0,AM]|(refine sx ?_ ?_<;>intro hc)|refine sy (by omega) fun x hx hm=>?_|simp(disch:=first|assumption|omega) only[AN]))
     refine IH.out (_,_) ⟨⟨fun id2 b2=>?_⟩,?_,?_,?_,⟨.f8 (1::(b+57)::π) 0 (L.length+1),?_,?_⟩⟩
     .have q1:=AG b2;have q2:Id.is id id2=false:=AE fun e=>by rw[←e,hun2.out]at b2;cases b2
      simp only[go_sem,q1,q2,k1.out id2 b2,AM]
     .simp only[go_sem,k2,f3,f4,AM]
     .simp only[go_sem,k3,f3,f4,AM]
     .simp only[go_sem,k4,f3,f4,AM]
     .simp only[go_sem]
     .rw[hLs.out];refine Lv (by omega) (by simp) ?_;simp only[go_sem,f1,f2,By,AM]
   .clear kl k1 k2 k3 k4 g b him;rintro i ⟨g,b⟩ hi him ⟨k1,k2,k3,k4,kl⟩;dsimp only at*;have gi:=hi.out;subst gi;clear hi;refine aw ?_;exact hend.out _ _ _ rfl rfl rfl rfl rfl k1.out k2 k3 k4 (by obtain⟨ev,q1,q2⟩:=kl.out;exact⟨ev,q1,P0 q2 (by omega)⟩)
theorem sR{x:CR}(h:FY x.op=some x.kids.length):x.op=1∨x.op=2∨x.op=3∨x.op=4∨x.op=5∨x.op=6∨x.op=7∨x.op=8:=by
 unfold FY at h;repeat (split at h;· omega)
 cases h
theorem XC(f:Fq→B7→Option B7)(r:Option B7):Mb f (r.map fun st=>(st,[]))=r:=by cases r<;>rfl
theorem ef{p:AI}{sz:List Int}(hF:BC p sz): ∀k,H6 p sz k
 |0=>fun h π m V st j hM hu hS hj w0 w1 w2 hev=>by omega
 |k+1=>fun h π m V st j hM hu hS hj w0 w1 w2 hev=>by
  have IH0:=ef hF k;obtain⟨x,l,hx,hok,hl,hq,hle⟩:=Jr hF hj;have hok2:=hok;simp only[Dn,AP,Ap,Ce]at hok;obtain⟨hk,hn,har,hex⟩:=hok;have hfc:LZ p j x:=⟨hj.n0,hx,by omega⟩;have hn0:=hj.n0;have hxl:=N1 hfc;have hm:=hM.box;have um:=hu m (V.m_mem m);simp only[Ah]at hm;have hacts:=hM.pp;have mA:Id.is m V.pp=false:=AE fun e=>by rw[←e,hm]at hacts;cases hacts
  have e1:=AG um;have e2:=Av um;have ww:IntKind.i64.wrap (st.work+1)=st.work+1:=wrap_id (by omega) (by omega);obtain⟨st1,hst1⟩: ∃s,s={st with work:=st.work+1}:=⟨_,rfl⟩
  have hsm:=hF.small;simp only[AI.small,AP,Ap]at hsm;obtain⟨z1,z2,z3⟩:=hsm;have hd:AA (FX p (k+1) j st=if st.work<400 then Mb (FX p k) (JC p j st1)else none):=⟨by rw[hst1];rfl⟩;have hrun:AA (∀H:AB,H.get m=some (.box (Ah p sz V (st.work+1)))→(∀id,Id.is m id=false→Id.under π id=false→H.get id=h.get id)→Bz p sz π m V h 0 V st1 H):=⟨fun H a1 a2=>by
   have:=Tv (st':=st1) hM hu (by rw[hst1];exact a1) (by rw[hst1];exact⟨rfl,rfl⟩) fun id b1 b2=>a2 id (AE fun e=>b1 e.symm) b2;exact⟨this.1,fun id hid=>.inl hid,this.2.frame⟩⟩
  have hI1:AA (st.work<400→OG p sz k st1):=⟨fun h=>by rw[hst1];exact⟨hS,by dsimp only;omega,by dsimp only;omega,by dsimp only;omega,by dsimp only;omega⟩⟩;have hj1:AA (CQ p sz st1.d9 j):=⟨by rw[hst1];exact hj⟩;have hsol:AA (st1.d9=st.d9):=⟨by rw[hst1]⟩;have hwl:AA (st.d9.waits.length≤1000000):=⟨by
   have:=hS.small;simp only[A9.small,AP,Ap]at this;omega⟩
  have hevl:AA (st1.ev.length≤1000000):=⟨by rw[hst1];dsimp only;omega⟩;replace hst1:=AA.mk hst1;replace hM:=AA.mk hM;replace hu:=AA.mk hu;replace hS:=AA.mk hS;replace hj:=AA.mk hj;replace hex:=AA.mk hex;replace hok2:=AA.mk hok2;replace hfc:=AA.mk hfc;replace hq:=AA.mk hq;replace hl:=AA.mk hl;have fin:AA (∀(H g1:AB) (n:Nat) (o:AZ) (r:Option B7),Bz p sz π m V h 0 V st1 H→Eo p sz (n::π) m V H r o g1→Eo p sz π m V h r o (gc (n::π) g1)):=⟨fun H g1 n o r hr ho=>by
   cases r with
   |none=>exact hr.f9 hu.out (I6 _) ho
   |some st2=>
    obtain⟨V2,h2,_⟩:=hr.call hu.out (I6 _) ho;obtain⟨rfl,_⟩:=ho;exact h2.fin⟩
  by_cases hw:st.work<400
  .have hw2:st.work+1≤400:=by omega
   rw[hd.out,D1 hw];have hJ:AA (JC p j st1=if x.op=2 then(Dy p x j st1).map fun st=>(st,[])else if x.op=3 then some (st1,BN x 0 j.at_ j.env++BN x 1 j.at_ j.env)else if x.op=4 then G9 p x j st1 else if x.op=5 then some (st1,BN x (Tg x j.env) j.at_ j.env)else if EZ x.op=true then(Hh j st1).map fun st=>(st,[])else some (st1,[])):=⟨by rw[JC,hx]⟩;have hI1:=hI1.out hw;replace hI1:=AA.mk hI1;have hr:Bz p sz π m V h 0 V st1 (h.put m (.box (Ah p sz V (st.work+1)))):=by
    refine hrun.out _ ?_ ?_
    .simp only[go_sem]
    .intro id b1 b2;simp only[go_sem,b1,AM]
   have ap:=AA.mk (hr.apart hu.out (n:=36) (I6 _));have hfn:=fun g1 o r=>fin.out _ g1 36 o r hr;replace hfn:=AA.mk hfn;replace hr:=AA.mk hr;have hal:=AA.mk har;clear har;rcases sR hk with ho|ho|ho|ho|ho|ho|ho|ho
   .rw[hJ.out];simp only[ho,Int.reduceEq,F5,Ex,EZ,decide_false,Bool.or_self,AM,Mb,BZ]
    (refine Af rfl Tryz.func66 rfl rfl rfl ?_;show Wp _ _ _ _ (Tryz.f66.body.get rfl) _ _;simp only[Tryz.f66,AS])
    (repeat' (first|simp only[go_sem, *,Iz]|(refine sx ?_ ?_<;>intro hc)|refine sy (by omega) fun x hx hm=>?_|simp(disch:=first|assumption|omega) only[AN]))
    exact hr.out.fin
   .rw[hJ.out];simp only[ho,Int.reduceEq,F5,Ex,XC];have hn1:0≤x.n∧x.n<j.env.length:=by simpa[uY,ho]using hn
    have ha3:x.args.length≤3:=by simpa[JW,ho]using hal.out
    have hef: ∀e∈x.args,e.formed j.env.length=true:=fun e he=>by
     have:=hex.out e he;simp only[Bt.ok,AP]at this;exact this.2.2
    replace hef:=AA.mk hef
    (refine Af rfl Tryz.func66 rfl rfl rfl ?_;show Wp _ _ _ _ (Tryz.f66.body.get rfl) _ _;simp only[Tryz.f66,AS])
    (repeat' (first|simp only[go_sem, *,Iz]|(refine sx ?_ ?_<;>intro hc)|refine sy (by omega) fun x hx hm=>?_|simp(disch:=first|assumption|omega) only[AN]))
    refine AY (yo (V:=V) (st:=st1) hr.out.rep ap.out j hfc.out z2 ha3 hef.out hn1.1 hn1.2 (by rw[hsol.out];exact hj.out.kw) (fun c q hq=>by rw[hsol.out]at hq⊢;exact Wy hF hS.out hq) hevl.out) (fun o1 g1 p1=>?_);have fn:=hfn.out g1 o1 _ p1;obtain⟨r,hr9⟩: ∃r,r=Dy p x j st1:=⟨_,rfl⟩;rw[←hr9]at fn p1⊢;clear hr9;cases r;all_goals
     have w9:=p1.1;subst w9;replace fn:=AA.mk fn;replace p1:=AA.mk p1;refine aw ?_;exact fn.out
   .rw[hJ.out];simp only[ho,Int.reduceEq,F5,Ex];have hk2:x.kids.length=2:=by simpa[FY,ho]using hk.symm
    obtain⟨ka,kb,hkk⟩:=ZQ hk2;have hkj:BN x 0 j.at_ j.env++BN x 1 j.at_ j.env=Er x.kids j.at_ j.env:=by simp[BN,Er,hkk]
    have hkid: ∀j'∈Er x.kids j.at_ j.env,CQ p sz st1.d9 j':=by
     rw[←hkj];intro j' hj';rcases D5.1 hj' with h1|h1
     .exact Od hj1.out (by omega) hl.out hq.out 0 j' h1
     .exact Od hj1.out (by omega) hl.out hq.out 1 j' h1
    rw[Mb,hkj];replace hkj:=AA.mk hkj;replace hkk:=AA.mk hkk;replace hkid:=AA.mk hkid
    (refine Af rfl Tryz.func66 rfl rfl rfl ?_;show Wp _ _ _ _ (Tryz.f66.body.get rfl) _ _;simp only[Tryz.f66,AS])
    (repeat' (first|simp only[go_sem, *,Iz]|(refine sx ?_ ?_<;>intro hc)|refine sy (by omega) fun x hx hm=>?_|simp(disch:=first|assumption|omega) only[AN]))
    refine AY (vB hF IH0 (V:=V) (st:=st1) hr.out.rep ap.out hI1.out j hfc.out z2 (by omega) hkid.out) (fun o1 g1 p1=>?_);have fn:=hfn.out g1 o1 _ p1;obtain⟨r,hr9⟩: ∃r,r=BZ (FX p k) (Er x.kids j.at_ j.env) st1:=⟨_,rfl⟩;rw[←hr9]at fn p1⊢;clear hr9;cases r;all_goals
     have w9:=p1.1;subst w9;replace fn:=AA.mk fn;replace p1:=AA.mk p1;refine aw ?_;exact fn.out
   .rw[hJ.out];simp only[ho,Int.reduceEq,F5,Ex];obtain⟨d,hdi⟩:=pK hF (s:=st1.d9) (by rw[hsol.out];exact hS.out) hj1.out hx ho;replace hdi:=AA.mk hdi
    (refine Af rfl Tryz.func66 rfl rfl rfl ?_;show Wp _ _ _ _ (Tryz.f66.body.get rfl) _ _;simp only[Tryz.f66,AS])
    (repeat' (first|simp only[go_sem, *,Iz]|(refine sx ?_ ?_<;>intro hc)|refine sy (by omega) fun x hx hm=>?_|simp(disch:=first|assumption|omega) only[AN]))
    refine AY (gh hF IH0 (V:=V) (st:=st1) hr.out.rep ap.out hI1.out j hfc.out hdi.out) (fun o1 g1 p1=>?_);have fn:=hfn.out g1 o1 _ p1;obtain⟨r,hr9⟩: ∃r,r=Mb (FX p k) (G9 p x j st1):=⟨_,rfl⟩;rw[←hr9]at fn p1⊢;clear hr9;cases r;all_goals
     have w9:=p1.1;subst w9;replace fn:=AA.mk fn;replace p1:=AA.mk p1;refine aw ?_;exact fn.out
   .rw[hJ.out];simp only[ho,Int.reduceEq,F5,Ex];have hk2:x.kids.length=2:=by simpa[FY,ho]using hk.symm
    obtain⟨ka,kb,hkk⟩:=ZQ hk2;have ha1:x.args.length=1:=by simpa[JW,ho]using hal.out
    obtain⟨e0,he0⟩: ∃e,x.args=[e]:=by
     match hxa:x.args,ha1 with
     |[e],_=>exact⟨e,rfl⟩
    have hef:e0.formed j.env.length=true:=by
     have:=hex.out e0 (by rw[he0];simp);simp only[Bt.ok,AP]at this;exact this.2.2
    have hka:CQ p sz st1.d9 ⟨ka,j.at_,j.env⟩:=Od hj1.out (by omega) hl.out hq.out 0 _ (by simp[BN,hkk]);have hkb:CQ p sz st1.d9 ⟨kb,j.at_,j.env⟩:=Od hj1.out (by omega) hl.out hq.out 1 _ (by simp[BN,hkk]);rw[Mb];replace hkk:=AA.mk hkk;replace he0:=AA.mk he0;replace hka:=AA.mk hka;replace hkb:=AA.mk hkb
    (refine Af rfl Tryz.func66 rfl rfl rfl ?_;show Wp _ _ _ _ (Tryz.f66.body.get rfl) _ _;simp only[Tryz.f66,AS])
    (repeat' (first|simp only[go_sem, *,Iz]|(refine sx ?_ ?_<;>intro hc)|refine sy (by omega) fun x hx hm=>?_|simp(disch:=first|assumption|omega) only[AN]))
    refine AY (gY hF IH0 (V:=V) (st:=st1) hr.out.rep ap.out hI1.out j hfc.out z2 he0.out hef hkk.out hka.out hkb.out) (fun o1 g1 p1=>?_);have fn:=hfn.out g1 o1 _ p1;obtain⟨r,hr9⟩: ∃r,r=BZ (FX p k) (BN x (Tg x j.env) j.at_ j.env) st1:=⟨_,rfl⟩;rw[←hr9]at fn p1⊢;clear hr9;cases r;all_goals
     have w9:=p1.1;subst w9;replace fn:=AA.mk fn;replace p1:=AA.mk p1;refine aw ?_;exact fn.out
   all_goals
    rw[hJ.out];simp only[ho,Int.reduceEq,F5,Ex,XC,EZ,decide_true,decide_false,Bool.true_or,Bool.or_true,Bool.or_self,AM]
    (refine Af rfl Tryz.func66 rfl rfl rfl ?_;show Wp _ _ _ _ (Tryz.f66.body.get rfl) _ _;simp only[Tryz.f66,AS])
    (repeat' (first|simp only[go_sem, *,Iz]|(refine sx ?_ ?_<;>intro hc)|refine sy (by omega) fun x hx hm=>?_|simp(disch:=first|assumption|omega) only[AN]))
    refine AY (yz (V:=V) (st:=st1) hr.out.rep ap.out j (by omega) (by rw[hsol.out];exact hwl.out)) (fun o1 g1 p1=>?_);have fn:=hfn.out g1 o1 _ p1;obtain⟨r,hr9⟩: ∃r,r=Hh j st1:=⟨_,rfl⟩;rw[←hr9]at fn p1⊢;clear hr9;cases r;all_goals
     have w9:=p1.1;subst w9;replace fn:=AA.mk fn;replace p1:=AA.mk p1;refine aw ?_;exact fn.out
  .have hw2: ¬st.work+1≤400:=by omega
   rw[hd.out,Ci hw]
   (refine Af rfl Tryz.func66 rfl rfl rfl ?_;show Wp _ _ _ _ (Tryz.f66.body.get rfl) _ _;simp only[Tryz.f66,AS])
   refine aw ?_;refine⟨rfl,(hrun.out _ ?_ ?_).frame⟩
   .simp only[go_sem,Ah];first|done|rfl
   .intro id b1 b2;simp only[go_sem,b1,AM]
def ku(l:List Int):Int:=match l with
 |[]=>0
 |x::l=>l.foldl min x
theorem XV: ∀(l:List Int) (x:Int),l.foldl min x≤x∧(∀y∈l,l.foldl min x≤y)∧(l.foldl min x=x∨l.foldl min x∈l)
 |[],x=>by simp
 |y::l,x=>by
  obtain⟨h1,h2,h3⟩:=XV l (min x y);rw[MT];refine⟨by omega,fun z hz=>?_,?_⟩
  .rcases DO.1 hz with rfl|hz
   .omega
   .exact h2 z hz
  .rcases h3 with h3|h3
   .by_cases hxy:x≤y
    .exact .inl (by omega)
    .exact .inr (DO.2 (.inl (by omega)))
   .exact .inr (FD _ h3)
theorem YE{l:List Nat}(h:0<l.length):ku (l.map fun(n:Nat)=>(n:Int))=0↔0∈l:=by
 cases l with
 |nil=>simp at h
 |cons x l=>
  obtain⟨h1,h2,h3⟩:=XV (l.map fun(n:Nat)=>(n:Int)) (x:Int);have e0:ku ((x::l).map fun(n:Nat)=>(n:Int))=(l.map fun(n:Nat)=>(n:Int)).foldl min (x:Int):=rfl;rw[e0];constructor
  .intro e;rw[e]at h3;rcases h3 with h3|h3
   .have:x=0:=by omega
    simp[this]
   .obtain⟨y,hy,e2⟩:=Em.1 h3;have:y=0:=by omega
    subst this;exact FD _ hy
  .intro e;have hn:0≤(l.map fun(n:Nat)=>(n:Int)).foldl min (x:Int):=by
    rcases h3 with h3|h3
    .omega
    .obtain⟨y,hy,e2⟩:=Em.1 h3;omega
   rcases DO.1 e with e|e
   .omega
   .have:=h2 0 (Em.2 ⟨0,e,rfl⟩);omega
theorem zh(L:List Int)(h0:0<L.length)(hl:L.length≤1000000):BU (KL Tryz.prog cfg) 159 [.d (.ce (L.map AL))] []=.ok (.ret (.d (.int .i64 (ku L))),[]):=by
 obtain⟨x,hx⟩:=get_some (l:=L) (i:=0) h0;have hm:AA (ku L=(L.drop 1).foldl min x):=⟨by
  cases L with
  |nil=>cases hx
  |cons y l=>cases hx;rfl⟩
 have hd:AA ((L.drop 1).length=L.length-1):=⟨by simp⟩;have z1: ¬(L.length:Int)<1:=by omega
 have z2:(0:Int)<L.length:=by omega
 (refine Ao rfl Tryz.func159 rfl rfl rfl ?_;show Wp _ _ _ _ (Tryz.f159.body.get rfl) _ _;simp only[Tryz.f159,AS])
 refine aw ?_;refine Cg (L.drop 1) (S:=fun i (c:Int)=>⟨[(0,.d (.ce (L.map AL))),(3,.d (.int .i64 (c))),(4,.d (.int .i64 ((i:Int)+1)))],[],0,[]⟩) (Inv:=fun i rest c=>AA (ku L=rest.foldl min c)) (b0:=x) hm ?_ ?_
 .rintro i y c hy hi him hI IH;have hd:=hd.out;have a1:(i:Int)+1<L.length:=by omega
  have a2:((i:Int)+1).toNat=i+1:=by omega
  have a4:0≤(i:Int)+1:=by omega
  have a3:IntKind.i64.wrap ((i:Int)+1+1)=(i:Int)+1+1:=wrap_id (by omega) (by omega);rw[Gs,Nat.add_comm]at hy;clear hd hi him;refine aw ?_;rw[show(if y<c then y else c)=min c y by split<;>omega];exact IH.out (min c y) hI
 .rintro i c hi him hI;have hd:=hd.out;have a1: ¬(i:Int)+1<L.length:=by omega
  clear hd him;refine aw ?_;rw[hI.out];rfl
theorem XN(l:List Int)(id:Abs.Id)(o n:Nat):BK (.f8 id o n) [(id,.d7 1 (l.map AL))]=some (id,.d7 1 (l.map AL)):=by
 rw[Fi,D1];simp[AL,Dg]
theorem pE(l:List Int)(h0:0<l.length)(hl:l.length≤1000000)(k:Nat)(ρ:List Nat):BU (KL Tryz.prog cfg) 160 [.d (.ce (l.map AL))] (k::ρ)=.ok (.ret (.f8 (1::5::k::ρ) 0 l.length),[(1::5::k::ρ,.d7 1 (l.map AL))]):=by
 have ap:=oX l l.length rfl h0 hl
 (refine Ao rfl Tryz.func160 rfl rfl rfl ?_;show Wp _ _ _ _ (Tryz.f160.body.get rfl) _ _;simp only[Tryz.f160,AS])
 exact au
def Ij:List Nat→List Int→List (List Int)
 |n::l,d::c=>((Ij l c).map fun t=>d::t)++(List.range' (d.toNat+1) (n-(d.toNat+1))).flatMap fun(i:Nat)=>(DS l).map fun t=>(i:Int)::t
 |_,_=>[[]]
def Ek(n:Nat):List Int:=List.replicate n 0
def JK:List Nat→List Int→Option (List Int)
 |n::l,d::c=>match JK l c with
  |some t=>some (d::t)
  |none=>if d+1<n then some ((d+1)::Ek c.length)else none
 |_,_=>none
inductive HT:List Nat→List Int→Prop where
 |nil:HT [] []
 |cons {n:Nat} {l:List Nat} {d:Int} {c:List Int}:0≤d→d<n→HT l c→HT (n::l) (d::c)
variable{l:List Nat}
theorem HT.len{c:List Int}(h:HT l c):c.length=l.length:=by
 induction h with
 |nil=>rfl
 |cons _ _ _ ih=>simp[ih]
theorem Ku: ∀{l:List Nat},0∉l→HT l (Ek l.length)
 |[],_=>.nil
 |n::l,h=>by
  simp only[DO,not_or]at h;exact .cons (by omega) (by omega) (Ku h.2)
theorem Ox: ∀{l:List Nat},0∉l→Ij l (Ek l.length)=DS l
 |[],_=>rfl
 |n::l,h=>by
  simp only[DO,not_or]at h;have ih:=Ox h.2;rw[List.length_cons,Ek,QR,Ij,DS];rw[Ek]at ih;rw[ih];obtain⟨m,rfl⟩: ∃m,n=m+1:=⟨n-1,by omega⟩;rw[List.range_eq_range',List.range'_succ,D0];simp
def Yz(l:List Nat):Option (List Int)→List (List Int)
 |some c=>Ij l c
 |none=>[]
theorem mc{c:List Int}(h:HT l c)(h0:0∉l):Ij l c=c::Yz l (JK l c)∧ ∀c',JK l c=some c'→HT l c':=by
 induction h with
 |nil=>exact⟨rfl,fun c' h=>by cases h⟩
 | @cons n l d c hd0 hd1 hc ih=>
   simp only[DO,not_or]at h0;obtain⟨ih1,ih2⟩:=ih h0.2;cases hn:JK l c with
   |some t=>
    rw[hn]at ih1;have e:JK (n::l) (d::c)=some (d::t):=by rw[JK,hn]
    rw[e];refine⟨?_,fun c' h=>by cases h;exact .cons hd0 hd1 (ih2 t hn)⟩;simp only[Ij,Yz,ih1];rfl
   |none=>
    rw[hn]at ih1;have e:JK (n::l) (d::c)=if d+1<n then some ((d+1)::Ek c.length)else none:=by rw[JK,hn]
    rw[e];have hz:=Ku h0.2;rw[←hc.len]at hz;have hr:=Ox h0.2;rw[←hc.len]at hr;by_cases hlt:d+1<n
    .rw[D1 hlt];refine⟨?_,fun c' h=>by cases h;exact .cons (by omega) hlt hz⟩;simp only[Ij,Yz,ih1,hr];obtain⟨m,hm⟩: ∃m,n-(d.toNat+1)=m+1:=⟨n-(d.toNat+1)-1,by omega⟩;have e1:(d+1).toNat=d.toNat+1:=by omega
     rw[e1,hm,List.range'_succ,D0,show n-(d.toNat+1+1)=m by omega];simp;intro a _;omega
    .rw[Ci hlt];refine⟨?_,fun c' h=>by cases h⟩;have:n-(d.toNat+1)=0:=by omega
     simp only[Ij,Yz,ih1,this];rfl
theorem pT{l:List Nat}{c:List Int}(h:HT l c): ∀{j:Nat} {d:Int} {n:Nat},c[j]? =some d→l[j]? =some n→0≤d∧d<n:=by
 induction h with
 |nil=>intro j d n h1;simp at h1
 |cons h1 h2 _ ih=>
  intro j d n hd hn;cases j with
  |zero=>
   simp only[Es,Bi]at hd hn;subst hd hn;exact⟨h1,h2⟩
  |succ j=>exact ih hd hn
def eH(l:List Nat)(c:List Int)(j:Nat):Prop:= ∀t,j≤t→t<l.length→ ∃(d:Int) (n:Nat),c[t]? =some d∧l[t]? =some n∧d=n-1
theorem UA{l:List Nat}{c:List Int}(h:HT l c)(he:eH l c 0):JK l c=none:=by
 induction h with
 |nil=>rfl
 | @cons n l d c hd0 hd1 hc ih=>
   have h1:=ih fun t _ ht=>by
    have:=he (t+1) (by omega) (by simp;omega);simpa using this
   obtain⟨d',n',e1,e2,e3⟩:=he 0 (by omega) (by simp);simp only[Es,Bi]at e1 e2;subst e1 e2;rw[JK,h1];simp only;rw[Ci (by omega)]
theorem lF{l:List Nat}{c:List Int}(h:HT l c): ∀{j:Nat} {d:Int} {n:Nat},eH l c (j+1)→c[j]? =some d→l[j]? =some n→ ¬d=n-1→JK l c=some (c.take j++(d+1)::Ek (l.length-(j+1))):=by
 induction h with
 |nil=>intro j d n _ h1;simp at h1
 | @cons n0 l d0 c hd0 hd1 hc ih=>
   intro j d n he hd hn hne;have he': ∀k,k+1≥j+1→eH l c k:=fun k hk t h1 h2=>by
    have:=he (t+1) (by omega) (by simp;omega);simpa using this
   cases j with
   |zero=>
    simp only[Es,Bi]at hd hn;subst hd hn;rw[JK,UA hc (he' 0 (by omega))];simp only;rw[D1 (by omega)];simp[hc.len]
   |succ j=>
    simp only[FN]at hd hn;rw[JK,ih (he' (j+1) (by omega)) hd hn hne];simp
end Go.Proofs
