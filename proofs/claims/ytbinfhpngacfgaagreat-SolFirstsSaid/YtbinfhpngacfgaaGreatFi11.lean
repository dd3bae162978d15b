/-
  Parts of it.
-/
import Derived.Test.YtbinfhpngacfgaaGreatFi5
import Derived.Test.YtbinfhpngacfgaaGreatFi10
set_option linter.all false
namespace Go.Proofs
open Go Go.Abs
variable{α:Type}{l:List α}{k:Nat}{r:α}
theorem Nn(h:l[k]? =some r):l=l.take k++r::l.drop (k+1):=by
 rw[←AN h,LM]
theorem Sy(h:l[k]? =some r)(r':α):l.set k r'=l.take k++r'::l.drop (k+1):=by
 have hk:=AL h;rw[List.set_eq_take_append_cons_drop,D7 hk]
variable{β:Type}{f:α→List β}
theorem er(h:(l.flatMap f).Nodup){j:Nat}{r2:α}(hj:l[j]? =some r2)(hk:l[k]? =some r)(hjk:j≠k){x:β}(hx:x∈f r2):x∉f r:=by
 intro hy;rw[Nn hk,KW,D2,JP]at h;obtain⟨_,h2,h3⟩:=h;rw[JP]at h2;have hkl:=AL hk;have hjl:=AL hj;by_cases hlt:j<k
 .exact h3 x (By.2 ⟨r2,Ap (i:=j) (by rw[I7,D7 hlt];exact hj),hx⟩) x (Ge _ hy) rfl
 .exact h2.2.2 x hy x (By.2 ⟨r2,Ap (i:=j-(k+1)) (by rw[IT,show k+1+(j-(k+1))=j by omega];exact hj),hx⟩) rfl
variable{r':α}
theorem QJ(h:(l.flatMap f).Nodup)(hk:l[k]? =some r)(hn:(f r').Nodup)(hd: ∀x∈f r',x∈f r∨x∉l.flatMap f):((l.set k r').flatMap f).Nodup:=by
 have h0:=h;rw[Nn hk,KW,D2,JP]at h;obtain⟨h1,h2,h3⟩:=h;rw[JP]at h2;rw[Sy hk,KW,D2,JP];have key: ∀x∈f r',x∉(l.take k).flatMap f∧x∉(l.drop (k+1)).flatMap f:=fun x hx=>by
  rcases hd x hx with hh|hh
  .exact⟨fun e=>h3 x e x (Ge _ hh) rfl,fun e=>h2.2.2 x hh x e rfl⟩
  .rw[Nn hk,KW,D2]at hh;simp only[F2,not_or]at hh;exact⟨hh.1,hh.2.2⟩
 refine⟨h1,JP.2 ⟨hn,h2.2.1,fun a ha b hb e=>(key a ha).2 (by rw[e];exact hb)⟩,fun a ha b hb e=>?_⟩;rcases F2.1 hb with hb|hb
 .exact(key b hb).1 (by rw[←e];exact ha)
 .exact h3 a ha b (GO _ hb) e
theorem Tz(hk:l[k]? =some r){x:β}(hx:x∈(l.set k r').flatMap f):x∈l.flatMap f∨x∈f r':=by
 rw[Sy hk,KW,D2]at hx;rw[Nn hk,KW,D2];simp only[F2]at*;rcases hx with h|h|h
 .exact .inl (.inl h)
 .exact .inr h
 .exact .inl (.inr (.inr h))
theorem O0{B:MV→Int→List AV}{c:Bool}{N:Abs.Id→Bool}{h h':AB}{m:Abs.Id}{V:MV}{st st':CC}{v3:AV}{rows:List (List AV)}(hM:EY B c h m V st)(hu:KM N V m)
 (hb:h'.get m=some (.box (B {V with v3:=v3,rows:=rows} st'.work))) (ha:qo h' v3 rows) (hc:YT c h' rows st'.d7.ac) (hq:(rows.flatMap A5).Nodup)
 (hi: ∀id,id∈AD v3∨id∈rows.flatMap A5→(id∈AD V.v3∨id∈V.rows.flatMap A5)∨(N id=true∧ ∃l,id=1::l)) (ho: ∀j,j<4→Ad st' j=Ad st j)
 (hk: ∀id,id≠m→id∉AD V.v3→id∉V.rows.flatMap A5→N id=false→h'.get id=h.get id):Ji B c N m V h st' h':=by
 have hne: ∀id,(∀cs,h.get id≠some (.box cs))→id≠m:=fun id hh e=>hh _ (by subst e;exact hM.box);refine⟨{V with v3:=v3,rows:=rows},⟨hb,?_,fun j hj=>?_,ha,hc,hM.gw,hq,hM.inv⟩,fun id hid=>?_,fun id h1 h2=>hk id (fun e=>h1 (by rw[e];exact V.m_mem m)) (fun e=>h1 (V.v3_mem m e)) (fun e=>h1 (V.row_mem m e)) h2⟩
 .show(V.rc=m∧c=false)∨h'.get V.rc=_;refine LG hM fun e ea=>hk _ e (fun e=>?_) (fun e=>?_) (hu _ (V.acts_mem m))
  .have:=GW hM.arr e;rw[ea]at this;cases this
  .obtain⟨x,hx⟩:=LK hM.ac e;rw[ea]at hx;cases hx
 .rw[ho j hj];refine IC (hM.sl j hj) fun id hid=>?_;obtain⟨x,hx⟩:=Fv (hM.sl j hj) hid;refine hk id (hne _ (by rw[hx];simp)) (fun e=>?_) (fun e=>?_) (hu _ (V.s_mem m hj hid))
  .have:=GW hM.arr e;rw[hx]at this;cases this
  .obtain⟨y,hy⟩:=LK hM.ac e;rw[hx]at hy
   match j,hj with
   |0,_|1,_|2,_|3,_=>simp[Er]at hy
 .rcases(({V with v3:=v3,rows:=rows}:MV).mem m id).1 hid with hh|hh|⟨j,hj,hh⟩|hh|hh
  .exact .inl (by rw[hh];exact V.m_mem m)
  .exact .inl (by rw[hh];exact V.acts_mem m)
  .exact .inl (V.s_mem m hj hh)
  .exact(hi id (.inl hh)).imp_left fun e=>e.elim (V.v3_mem m) (V.row_mem m)
  .exact(hi id (.inr hh)).imp_left fun e=>e.elim (V.v3_mem m) (V.row_mem m)
variable{h:AB}{m:Abs.Id}{V:MV}{st:CC}
theorem Xz{B:MV→Int→List AV}{c:Bool}{N:Abs.Id→Bool}{A:Abs.Id}{q:HY}{v:AV}(hM:EY B c h m V st)(hu:KM N V m)(hA:V.v3=.d8 A 0 V.rows.length)(hq:st.d7.ac[k]? =some q)(hr:V.rows[k]? =some (Ah q v))(l:List (List CZ))
 (v':AV) (h':AB) (a1:h'.get m=some (.box (B V st.work))) (a0:h'.get A=some (.arr 4 (V.rows.set k (Ah q v')))) (a2:Nw c 2 h' 1 v' (l.map CU)) (a3:AD v'=AD v∨ ∀id∈AD v',N id=true∧ ∃l,id=1::l)
 (a4: ∀id,Id.is m id=false→Id.is A id=false→(∀id2∈AD v,Id.is id2 id=false)→N id=false→h'.get id=h.get id):Ji B c N m V h {st with d7:={st.d7 with ac:=st.d7.ac.set k {q with queue:=l}}} h':=by
 have hAi:AD V.v3=[A]:=by rw[hA];rfl
 have hvr: ∀x,x∈AD v→x∈V.rows.flatMap A5:=fun x hx=>By.2 ⟨_,Ap hr,by rw[Cc];exact hx⟩;have hfr: ∀id,id≠m→id∉AD V.v3→id∉AD v→N id=false→h'.get id=h.get id:=fun id b1 b2 b3 b4=>a4 id (AF fun e=>b1 e.symm) (AF fun e=>b2 (by rw[hAi,←e];simp)) (fun id2 hid=>AF fun e=>b3 (by rw[←e];exact hid)) b4;have hv1:(AD v').Nodup∧(AD v').length≤1:=by
  rcases Q1 a2 with(⟨rfl,_⟩|⟨i,x,rfl,_⟩)|⟨rfl,_⟩<;>simp[AD]
 have hlen:(V.rows.set k (Ah q v')).length=V.rows.length:=by simp
 refine O0 (v3:=V.v3) (rows:=V.rows.set k (Ah q v')) hM hu (a1.trans (by rw[←hM.inv V (V.rows.set k (Ah q v')) st.work])) (.inr ⟨A,by rw[hlen];exact hA,a0⟩) ⟨?_,fun j q2 hj=>?_⟩ ?_ (fun id hid=>?_) (fun j hj=>by match j,hj with|0,_|1,_|2,_|3,_=>rfl) fun id b1 b2 b3 b4=>hfr id b1 b2 (fun e=>b3 (hvr id e)) b4
 .simp[hM.ac.len]
 .dsimp only at hj;rw[IS]at hj⊢;have hkl:=AL hr;by_cases hjk:k=j
  .have hkl2:=AL hq;rw[D7 hjk,D7 hkl2]at hj;rw[D7 hjk,D7 hkl];cases hj;exact⟨v',rfl,a2⟩
  .rw[D3 hjk]at hj⊢;obtain⟨w,hw,hs⟩:=hM.ac.row j q2 hj;refine⟨w,hw,IC hs fun id hid=>?_⟩;have hmem:id∈V.rows.flatMap A5:=By.2 ⟨_,Ap hw,by rw[Cc];exact hid⟩;obtain⟨x,hx⟩:=Fv hs hid;refine hfr id (fun e=>?_) (fun e=>?_) ?_ (hu _ (V.row_mem m hmem))
   .rw[e,hM.box]at hx;cases hx
   .rw[GW hM.arr e]at hx;cases hx
   .have:=er hM.qd hw hr (fun e=>hjk e.symm) (x:=id) (by rw[Cc];exact hid)
    rwa [Cc]at this
 .refine QJ hM.qd hr (by rw[Cc];exact hv1.1) fun x hx=>?_;rw[Cc]at hx⊢;rcases a3 with e|e
  .exact .inl (by rw[←e];exact hx)
  .refine .inr fun hh=>?_;have:=hu _ (V.row_mem m hh);rw[(e x hx).1]at this;cases this
 .rcases hid with hid|hid
  .exact .inl (.inl hid)
  .rcases Tz hr hid with hh|hh
   .exact .inl (.inr hh)
   .rw[Cc]at hh;rcases a3 with e|e
    .rw[e]at hh;exact .inl (.inr (hvr id hh))
    .exact .inr (e id hh)
variable{π:List Nat}{H g:AB}
theorem N9{p:AK}{sz:List Int}{n:Nat}{r:Option CC}{o:Ae}(hu:B4 π V m)(hl: ∀id,Id.under π id=false→H.get id=h.get id)(ho:GF p sz (n::π) m V H r o g):GF p sz π m V h r o (gc (n::π) g):=by
 cases r with
 |none=>exact⟨ho.1,fun id h1 h2=>by rw[Ag _ _ _ (AH h2 n),ho.2 id h1 (AH h2 n),hl id h2]⟩
 |some st'=>
  obtain⟨h1,V',hM,hK⟩:=ho;refine⟨h1,V',PW hM hK (hu.ext n),fun id hid=>(hK.ids id hid).imp_right fun hh=>⟨BB hh.1,hh.2⟩,fun id a b=>?_⟩;rw[Ag _ _ _ (AH b n),hK.frame id a (AH b n),hl id b]
theorem OA{p:AK}{sz:List Int}(hM:KP p sz h m V st)(hu:B4 π V m)(hl: ∀id,Id.under π id=false→H.get id=h.get id):GF p sz π m V h (some st) (.ret (.f8 [])) H:=⟨rfl,V,GL hM hu hl,Wo hl⟩
theorem S0{sz:Nat}{v:AV}{es:List (List AU)}(h:vt g sz v es):((v=.ci∨v=.emp)∧es=[])∨ ∃id x,v=.d8 id 0 es.length∧g.get id=some (.d6 sz (es++x)):=by
 rcases h with(h|h)|h
 .exact .inl ⟨.inl h.1,h.2⟩
 .exact .inr h
 .exact .inl ⟨.inr h.1,h.2⟩
theorem UW{f:α→List AU}{sz:Nat}{v:AV}(h:Nv g sz v (l.map f)){y:α}(hy:l[k]? =some y): ∃id xs,v=.d8 id 0 l.length∧g.get id=some (.d6 sz (l.map f++xs))∧(l.map f++xs)[k]? =some (f y)∧k<l.length∧k<l.length+xs.length:=by
 have hk:=AL hy;rcases h with⟨_,h⟩|⟨id,xs,rfl,h⟩
 .rw[F9.1 h]at hk;simp at hk
 .exact⟨id,xs,by rw[Bi],h,by rw[Bv (by simpa using hk),D5,hy];rfl,hk,by omega⟩
end Go.Proofs
namespace Go.Abs
theorem dH(l:List Id)(x y:Id):y∈KH l x↔y∈l∨y=x:=by
 unfold KH;split
 .rename_i h;obtain⟨z,hz,e⟩:=RW.1 h;have:x=z:=is_iff.1 e;subst this;constructor
  .exact .inl
  .rintro(h|rfl)
   .exact h
   .exact hz
 .simp
theorem Ux{l:List Id}(h:l.Nodup)(x:Id):(KH l x).Nodup:=by
 unfold KH;split
 .exact h
 .rename_i hx;rw[JP];refine⟨h,by simp,fun a ha b hb=>?_⟩;rw[Ac]at hb;subst hb;rintro rfl;have:l.any (Id.is a)=true:=RW.2 ⟨a,ha,is_self a⟩;rw[this]at hx;cases hx
theorem dI(l:List Id)(x:Id): ∃m,KH l x=l++m:=by
 unfold KH;split
 .exact⟨[],by simp⟩
 .exact⟨[x],rfl⟩
theorem GG: ∀(new l:List Id) (y:Id),y∈EN l new↔y∈l∨y∈new
 |[],l,y=>by simp[EN]
 |x::new,l,y=>by
  have:=GG new (KH l x) y;unfold EN at*;rw[MT,this,dH,DL,or_assoc]
theorem Jj: ∀(new:List Id) {l:List Id},l.Nodup→(EN l new).Nodup
 |[],l,h=>h
 |x::new,l,h=>Jj new (Ux h x)
theorem Po: ∀(new l:List Id),∃m,EN l new=l++m
 |[],l=>⟨[],by simp[EN]⟩
 |x::new,l=>by
  obtain⟨m,hm⟩:=dI l x;obtain⟨m2,hm2⟩:=Po new (KH l x);refine⟨m++m2,?_⟩;have:EN l (x::new)=EN (KH l x) new:=rfl;rw[this,hm2,hm,ES]
theorem Qt(h:AB)(M:List Id)(hc: ∀x∈M,∀y∈H6 (h.get x),y∈M): ∀(n:Nat) (l:List Id) (i:Nat),l.Nodup→(∀x∈l,x∈M)→(∀j x,j<i→l[j]? =some x→ ∀y∈H6 (h.get x),y∈l)→M.length≤i+n→
 (Bp h n l i).Nodup∧(∀x∈Bp h n l i,x∈M)∧(∀x∈l,x∈Bp h n l i)∧ ∀x∈Bp h n l i,∀y∈H6 (h.get x),y∈Bp h n l i
 |0,l,i,hn,hm,hd,hi=>by
  have e:Bp h 0 l i=l:=rfl;rw[e];refine⟨hn,hm,fun x hx=>hx,fun x hx y hy=>?_⟩;obtain⟨j,hj⟩:=Hm hx;have h1:=hn.length_le_of_subset (l₂:=M) hm;have h2:=(BE.1 hj).1;exact hd j x (by omega) hj y hy
 |n+1,l,i,hn,hm,hd,hi=>by
  cases hl:l[i]? with
  |none=>
   have e:Bp h (n+1) l i=l:=by rw[Bp,hl]
   rw[e];refine⟨hn,hm,fun x hx=>hx,fun x hx y hy=>?_⟩;obtain⟨j,hj⟩:=Hm hx;have h1:=List.getElem?_eq_none_iff.1 hl;have h2:=(BE.1 hj).1;exact hd j x (by omega) hj y hy
  |some id=>
   have e:Bp h (n+1) l i=Bp h n (EN l (H6 (h.get id))) (i+1):=by rw[Bp,hl]
   rw[e];have hid:=Ap hl;obtain⟨m,hm2⟩:=Po (H6 (h.get id)) l;have ih:=Qt h M hc n (EN l (H6 (h.get id))) (i+1) (Jj _ hn) (fun x hx=>by
    rcases(GG _ _ _).1 hx with hx|hx
    .exact hm x hx
    .exact hc id (hm id hid) x hx) (fun j x hj hx y hy=>by
    rw[GG];by_cases hji:j=i
    .subst hji;rw[hm2,Bv (BE.1 hl).1,hl]at hx;cases hx;exact .inr hy
    .have hil:=(BE.1 hl).1;rw[hm2,Bv (by omega)]at hx;exact .inl (hd j x (by omega) hx y hy)) (by omega)
   exact⟨ih.1,ih.2.1,fun x hx=>ih.2.2.1 x ((GG _ _ _).2 (.inl hx)),ih.2.2.2⟩
theorem HQ(π:List Nat): ∀(l:List Id) (n:Nat) (x:Id),x∈l→ ∃j,DB π l n x=some (Q6 x::(n+j)::π)∧j<l.length
 |y::l,n,x,hx=>by
  rw[Qe];by_cases h:Id.is y x=true
  .rw[D7 h];exact⟨0,rfl,by simp⟩
  .rw[D3 h];have hx2:x∈l:=by
    rcases DL.1 hx with rfl|hx
    .exact absurd (is_self _) h
    .exact hx
   obtain⟨j,hj,hlt⟩:=HQ π l (n+1) x hx2;exact⟨j+1,by rw[hj];congr 3;omega,by simp;omega⟩
theorem Xo(h:AB)(ν:Id→Option Id)(hinj: ∀x y z,ν x=some z→ν y=some z→x=y){x z:Id}{o:Obj}(hz:ν x=some z)(ho:h.get x=some o): ∀(l:List Id),x∈l→(Cv h ν l).get z=some (H9 ν o)
 |y::l,hx=>by
  by_cases hxy:y=x
  .subst hxy;rw[Cv,ho,hz,Bo,is_self,D7 rfl]
  .have hx2:x∈l:=by
    rcases DL.1 hx with rfl|hx
    .exact absurd rfl hxy
    .exact hx
   have ih:=Xo h ν hinj hz ho l hx2;rw[Cv];split
   .rename_i o' z' h1 h2;rw[Bo,AF (fun e=>hxy (hinj _ _ _ h2 (by rw[e];exact hz))),D3 (by simp)];exact ih
   .exact ih
structure Ren(π:List Nat)(h:AB)(e:CB)(ν:Id→Option Id)(h':AB)(n:Nat):Prop where
 env: ∀x∈Re e,∃z,ν x=some z
 name: ∀x z,ν x=some z→ ∃j,j<n∧z=Q6 x::j::π
 inj: ∀x y z,ν x=some z→ν y=some z→x=y
 get: ∀x z o,ν x=some z→h.get x=some o→h'.get z=some (H9 ν o)
 deep: ∀x z,ν x=some z→ ∀y∈H6 (h.get x),∃z',ν y=some z'
 only: ∀z o,h'.get z=some o→ ∃x,ν x=some z
theorem VD(π:List Nat)(h:AB)(e:CB)(M:List Id)(hM:M.length≤1000)(he: ∀x∈Re e,x∈M)(hc: ∀x∈M,∀y∈H6 (h.get x),y∈M):
 ∃ν h' n,L6 π h e=⟨e.map fun p=>(p.1,Lj ν p.2),h',n,[]⟩∧n≤M.length∧Ren π h e ν h' n:=by
 obtain⟨r1,r2,r3,r4⟩:=Qt h M hc 1000 (EN [] (Re e)) 0 (Jj _ .nil) (fun x hx=>by
  rcases(GG _ _ _).1 hx with hx|hx
  .cases hx
  .exact he x hx) (fun j x hj=>by omega) (by omega)
 unfold L6 TM;generalize Bp h 1000 (EN [] (Re e)) 0=L at*;refine⟨DB π L 0,Cv h (DB π L 0) L,L.length,rfl,r1.length_le_of_subset r2,?_,?_,fun x y z=>Ks,fun x z o hz ho=>?_,fun x z hz y hy=>?_,fun z o hz=>?_⟩
 .intro x hx;obtain⟨j,hj,_⟩:=HQ π L 0 x (r3 x ((GG _ _ _).2 (.inr hx)));exact⟨_,hj⟩
 .intro x z hz;obtain⟨j,t,h1,h2⟩:=Dz hz;obtain⟨j2,h3,h4⟩:=HQ π L 0 x (Ap h1);rw[hz]at h3;cases h3;exact⟨0+j2,by omega,rfl⟩
 .obtain⟨j,t,h1,h2⟩:=Dz hz;exact Xo h _ (fun x y z=>Ks) hz ho L (Ap h1)
 .obtain⟨j,t,h1,h2⟩:=Dz hz;obtain⟨j2,h3,h4⟩:=HQ π L 0 y (r4 x (Ap h1) y hy);exact⟨_,h3⟩
 .obtain⟨x,o,_,h2,_⟩:=EJ hz;exact⟨x,h2⟩
end Go.Abs
namespace Go.Proofs
open Go Go.Abs
@[irreducible] def TL(C:CA)(f:FuncId)(π:List Nat)(b:Nat)(e:CB)(h:AB):St:=L6 π h (NQ e (C.live f b))
theorem Hb(C:CA)(f:FuncId)(π:List Nat)(b:Nat)(e:CB)(h:AB):TL C f π b e h=L6 π h (NQ e (C.live f b)):=by unfold TL;rfl
theorem di(b:Nat)(e:CB)(h:AB)(bs:Nat)(π:List Nat)(bi:Option (List Nat))(v6:Bool)(nt:Nat):Ea cfg ⟨153,π,false,bi,v6,nt⟩ b ⟨e,h,bs,[]⟩=TL cfg 153 π b e h:=by
 rw[Hb];exact R8 _ _ _ _ _
attribute [go_sem 2000] di
def wZ(g:AB)(v:AV)(q:List (List CZ)):Prop:=(q.length=0∧v=.ci)∨(q.length≠0∧ ∃id,v=.d8 id 0 q.length∧g.get id=some (.d6 1 (q.map CU)))
structure FY(g:AB)(es:List (List AV))(l:List HY):Prop where
 len:es.length=l.length
 row: ∀(j:Nat) (x:HY),l[j]? =some x→ ∃v,es[j]? =some (Ah x v)∧wZ g v x.queue
 diff:(es.flatMap A5).Nodup
def Ry(π:List Nat)(b:Nat)(id:Abs.Id):Prop:= ∃t j,j<b∧id=t::j::π
structure kc(π:List Nat)(l:List HY)(i:Nat)(v:AV)(g:AB)(b:Nat)(A:Abs.Id)(es:List (List AV)):Prop where
 val:v=.d8 A 0 i
 arr:g.get A=some (.arr 4 es)
 rep:FY g es (l.take i)
 a:Ry π b A
 ids: ∀id∈es.flatMap A5,Ry π b id
 own: ∀id,Id.under π id=false→g.get id=none
variable{k b:Nat}{ρ:List Nat}
theorem Kr{A:Abs.Id}(h:Ry (k::ρ) b A)(t j:Nat)(hj:b≤j):Id.is (t::j::k::ρ) A=false∧Id.is A (t::j::k::ρ)=false:=by
 obtain⟨t',j',h1,rfl⟩:=h;exact⟨AF (by simp;omega),AF (by simp;omega)⟩
theorem Hg{A:Abs.Id}(h:Ry (k::ρ) b A)(m:List Nat)(hm:2<m.length):Id.is (m++k::ρ) A=false∧Id.is A (m++k::ρ)=false:=by
 obtain⟨t',j',h1,rfl⟩:=h;constructor
 .refine AF fun e=>?_;have:=congrArg List.length e;simp at this;omega
 .refine AF fun e=>?_;have:=congrArg List.length e;simp at this;omega
theorem Eb(x:HY)(v:AV):A5 (Ah x v)=AD v:=by simp[Ah,A5,AD]
variable{g:AB}
theorem Nh{v:AV}{q:List (List CZ)}(h:wZ g v q):(v=.ci∧AD v=[])∨ ∃id,v=.d8 id 0 q.length∧AD v=[id]∧g.get id=some (.d6 1 (q.map CU)):=by
 rcases h with⟨_,rfl⟩|⟨_,id,rfl,h⟩
 .exact .inl ⟨rfl,rfl⟩
 .exact .inr ⟨id,rfl,rfl,h⟩
theorem KX{g:AB}{es:List (List AV)}{l:List HY}(h:FY g es l){id:Abs.Id}(hi:id∈es.flatMap A5): ∃q:List (List CZ),g.get id=some (.d6 1 (q.map CU)):=by
 obtain⟨row,hr,hid⟩:=By.1 hi;obtain⟨j,hj⟩:=Hm hr;have hjl:=(BE.1 hj).1;obtain⟨x,hx⟩:=get_some (l:=l) (i:=j) (by rw[←h.len];exact hjl);obtain⟨v,hv,hq⟩:=h.row j x hx;rw[hj]at hv;cases hv;rw[Eb]at hid;rcases Nh hq with⟨_,e⟩|⟨id2,_,e,hg⟩
 .rw[e]at hid;cases hid
 .rw[e,Ac]at hid;subst hid;exact⟨_,hg⟩
variable{H:AB}{l:List HY}
theorem Jq{es:List (List AV)}(h:FY g es l)(hk: ∀id∈es.flatMap A5,H.get id=g.get id):FY H es l:=by
 refine⟨h.len,fun j x hx=>?_,h.diff⟩;obtain⟨v,hv,hq⟩:=h.row j x hx;refine⟨v,hv,?_⟩;rcases hq with hq|⟨h0,id,rfl,hg⟩
 .exact .inl hq
 .refine .inr ⟨h0,id,rfl,?_⟩;rw[hk id (By.2 ⟨_,Ap hv,by rw[Eb];simp[AD]⟩)];exact hg
theorem IV{H:AB}{es:List (List AV)}{l:List HY}(h:FY H es l){x:HY}{v:AV}(hq:wZ H v x.queue)(hn: ∀id∈AD v,id∉es.flatMap A5):FY H (es++[Ah x v]) (l++[x]):=by
 refine⟨by simp[h.len],fun j y hy=>?_,?_⟩
 .by_cases hj:j<l.length
  .rw[Bv hj]at hy;obtain⟨v',hv',hq'⟩:=h.row j y hy;exact⟨v',by rw[Bv (by rw[h.len];exact hj)];exact hv',hq'⟩
  .have hlt:=(BE.1 hy).1;rw[D9,IF]at hlt;obtain rfl:j=l.length:=by omega
   rw[CS (by omega)]at hy;simp only[Nat.sub_self,F7,CI]at hy;subst hy;exact⟨v,by rw[CS (by rw[h.len];omega),h.len];simp,hq⟩
 .rw[KW,JP];refine⟨h.diff,?_,?_⟩
  .simp only[D2,HE,EL,Eb];rcases Nh hq with⟨_,e⟩|⟨id2,_,e,_⟩<;>rw[e]<;>simp
  .intro a ha b hb hab;subst hab;simp only[D2,HE,EL,Eb]at hb;exact hn a hb ha
theorem Nb{α β:Type}{f:α→β}: ∀{l:List α},l.Nodup→(∀x∈l,∀y∈l,f x=f y→x=y)→(l.map f).Nodup
 |[],_,_=>List.nodup_nil
 |x::l,h,hf=>by
  rw[List.nodup_cons]at h;rw[Ci,List.nodup_cons];refine⟨fun hm=>?_,Nb h.2 fun a ha b hb=>hf a (EX _ ha) b (EX _ hb)⟩;obtain⟨y,hy,e⟩:=ID.1 hm;have:=hf y (EX _ hy) x (by simp) e;subst this;exact h.1 hy
theorem Vq{es:List (List AV)}(h: ∀r∈es,(A5 r).length≤1):(es.flatMap A5).length≤es.length:=by
 induction es with
 |nil=>simp
 |cons r es ih=>
  have h1:=h r (by simp);have h2:=ih fun r hr=>h r (EX _ hr);simp only[D2,D9,Gc];omega
theorem VM{es:List (List AV)}(h:FY g es l):(es.flatMap A5).length≤es.length:=by
 refine Vq fun r hr=>?_;obtain⟨j,hj⟩:=Hm hr;have hjl:=(BE.1 hj).1;obtain⟨x,hx⟩:=get_some (l:=l) (i:=j) (by rw[←h.len];exact hjl);obtain⟨v,hv,hq⟩:=h.row j x hx;rw[hj]at hv;cases hv;rw[Eb];rcases Nh hq with⟨_,e⟩|⟨id2,_,e,hg⟩<;>rw[e]<;>simp
theorem VN{π:List Nat}{H H':AB}{e:CB}{ν:Abs.Id→Option Abs.Id}{n:Nat}(hR:Ren π H e ν H' n){es:List (List AV)}{l:List HY}(h:FY H es l)(hν: ∀id∈es.flatMap A5,∃z,ν id=some z):FY H' (es.map (H8 ν)) l∧ ∀id∈(es.map (H8 ν)).flatMap A5,Ry π n id:=by
 have key: ∀r∈es,A5 (H8 ν r)=(A5 r).map fun id=>(ν id).getD []:=by
  intro r hr;obtain⟨j,hj⟩:=Hm hr;have hjl:=(BE.1 hj).1;obtain⟨x,hx⟩:=get_some (l:=l) (i:=j) (by rw[←h.len];exact hjl);obtain⟨v,hv,hq⟩:=h.row j x hx;rw[hj]at hv;cases hv;have e1:H8 ν (Ah x v)=Ah x (Lj ν v):=by simp[Ah,H8,Lj]
  rw[e1,Eb,Eb];rcases Nh hq with⟨rfl,e⟩|⟨id2,rfl,e,hg⟩
  .simp[Lj,AD]
  .obtain⟨z,hz⟩:=hν id2 (By.2 ⟨_,hr,by rw[Eb];simp[AD]⟩);simp[Lj,hz,AD]
 have key2:(es.map (H8 ν)).flatMap A5=(es.flatMap A5).map fun id=>(ν id).getD []:=by
  rw[List.flatMap_map,List.map_flatMap];have: ∀(l:List (List AV)),(∀r∈l,A5 (H8 ν r)=(A5 r).map fun id=>(ν id).getD [])→(l.flatMap fun a=>A5 (H8 ν a))=l.flatMap fun a=>(A5 a).map fun id=>(ν id).getD []:=by
   intro l hl;induction l with
   |nil=>rfl
   |cons r l ih=>rw[D2,D2,hl r (by simp),ih fun r hr=>hl r (EX _ hr)]
  exact this es key
 refine⟨⟨by rw[Bi,h.len],fun j x hx=>?_,?_⟩,?_⟩
 .obtain⟨v,hv,hq⟩:=h.row j x hx;refine⟨Lj ν v,?_,?_⟩
  .rw[D5,hv];simp[Ah,H8,Lj]
  .rcases hq with⟨h0,rfl⟩|⟨h0,id,rfl,hg⟩
   .exact .inl ⟨h0,rfl⟩
   .obtain⟨z,hz⟩:=hν id (By.2 ⟨_,Ap hv,by rw[Eb];simp[AD]⟩);refine .inr ⟨h0,z,by simp[Lj,hz],?_⟩;have:=hR.get id z _ hz hg;simpa[H9]using this
 .rw[key2];refine Nb h.diff fun x hx y hy e=>?_;obtain⟨z,hz⟩:=hν x hx;obtain⟨z2,hz2⟩:=hν y hy;rw[hz,hz2]at e;simp only[GS]at e;subst e;exact hR.inj x y z hz hz2
 .intro id hid;rw[key2]at hid;obtain⟨x,hx,rfl⟩:=ID.1 hid;obtain⟨z,hz⟩:=hν x hx;obtain⟨j,hj,rfl⟩:=hR.name x z hz;rw[hz];exact⟨_,j,hj,rfl⟩
theorem QB{K:AJ}{fr:Fr}{bl:Nat}{x:Code}{Q:Dc→St→Prop}{E:CB}{B:Abs.Id}{i:Nat}{es:List (List AV)}{x8 x9 x10:AU}
 (hE:NQ E (cfg.live 153 0)=[(1,.fn 154 [] []),(5,.d8 B 0 i),(8,.d x8),(9,.d x9),(10,.d x10)]) (h1:H.get B=some (.arr 4 es)) (h2:FY H es (l.take i)) (hi:es.length≤60)
 (hn: ∀v g b A es,kc (k::ρ) l i v g b A es→dF cfg K fr bl x ⟨[(1,.fn 154 [] []),(5,v),(8,.d x8),(9,.d x9),(10,.d x10)],g,b,[]⟩ Q):dF cfg K fr bl x (TL cfg 153 (k::ρ) 0 E H) Q:=by
 rw[Hb,hE];have hlen:=VM h2;obtain⟨ν,h',n,hc,hnM,hR⟩:=VD (k::ρ) H [(1,.fn 154 [] []),(5,.d8 B 0 i),(8,.d x8),(9,.d x9),(10,.d x10)] (B::es.flatMap A5) (by simp only[Gc];omega) (by
  intro y hy;simp[Re,AD,A5]at hy;simp[hy]) (by
  intro y hy z hz;rcases DL.1 hy with rfl|hy
  .rw[h1]at hz;exact EX _ hz
  .obtain⟨q,hq⟩:=KX h2 hy;rw[hq]at hz;cases hz)
 obtain⟨z,hz⟩:=hR.env B (by simp[Re,AD,A5]);have hν: ∀id∈es.flatMap A5,∃z,ν id=some z:=fun id hid=>hR.deep B z hz id (by rw[h1];exact hid);obtain⟨r1,r2⟩:=VN hR h2 hν;rw[hc];have:=hn (.d8 z 0 i) h' n z (es.map (H8 ν)) ⟨rfl,by have:=hR.get B z _ hz h1;simpa[H9]using this,r1,by obtain⟨j,hj,rfl⟩:=hR.name B z hz;exact⟨_,j,hj,rfl⟩,r2,fun id hu=>by
  cases hg:h'.get id with
  |none=>rfl
  |some o=>
   obtain⟨y,hy⟩:=hR.only id o hg;obtain⟨j,hj,rfl⟩:=hR.name y id hy;rw[Jd]at hu;cases hu⟩
 simpa[Lj,H8,hz]using this
set_option maxRecDepth 100000
set_option maxHeartbeats 4000000
def kV(π:List Nat)(l:List HY)(r:Ae×AB):Prop:=(l.length=0∧r=(.ret .ci,[]))∨(l.length≠0∧ ∃v g b A es,r=(.ret v,g)∧kc π l l.length v g b A es)
theorem rQ(l:List HY)(hl:l.length≤60)(hf: ∀x∈l,x.queue.length≤1000000∧ ∀y∈x.queue,y.length≤1000000)(k:Nat)(ρ:List Nat): ∃r,BJ (KL Tryz.prog cfg) 153 [.d (.be (l.map Cy)),.fn 154 [] []] (k::ρ)=.ok r∧kV (k::ρ) l r:=by
 (refine FA rfl Tryz.func153 rfl rfl rfl ?_;show Wp _ _ _ _ (Tryz.f153.body.get rfl) _ _;simp only[Tryz.f153,AP])
 (repeat' (first|simp only[go_sem, *,Hb]|(refine sx ?_ ?_<;>intro hc)|refine sy (by omega) fun x hx hm=>?_|simp(disch:=first|assumption|omega) only[AG]))
 refine AY l _ (S:=fun m i (a:(AV×AB)×Nat)=>⟨[(1,.fn 154 [] []),(5,a.1.1),(8,.d (.be (l.map Cy))),(9,.d (.int .i64 (m))),(10,.d (.int .i64 (i)))],a.1.2,a.2,[]⟩)
  (Inv:=fun i rest a=>AA (i=0∧a=((.ci,[]),0)∨0<i∧ ∃A es,kc (k::ρ) l i a.1.1 a.1.2 a.2 A es)) (b0:=((_,[]),_)) ?_ ⟨.inl ⟨rfl,rfl⟩⟩ ?_ ?_
 .rfl
 .rintro i x ⟨⟨v,g⟩,b⟩ hy hi him hv IH;dsimp only at*;have hx:=fun k ρ=>TS x (hf x (Ap hy)).1 (hf x (Ap hy)).2 k ρ;replace hf:=AA.mk hf;have ht:AA (l.take (i+1)=l.take i++[x]):=⟨by rw[I5,hy];rfl⟩;rcases hv.out with⟨rfl,he⟩|⟨hi0,A,es,hE⟩
  .clear hv;cases he;have him0:(0:Int)<l.length:=him;by_cases h0:x.queue.length=0
   .simp only[MQ,D7 h0,Ah]at hx
    (repeat' (first|simp only[go_sem, *,HJ,Hb]|(refine sx ?_ ?_<;>intro hc)|refine sy (by omega) fun x hx hm=>?_|simp(disch:=first|assumption|omega) only[AG]))
    refine IH.out ((_,_),_) ⟨.inr ⟨by omega,1::0::k::ρ,[Ah x .ci],rfl,by simp only[go_sem];rfl,?_,⟨1,0,Nat.lt_succ_self 0,rfl⟩,?_,?_⟩⟩
    .rw[ht.out];exact IV (es:=[]) (l:=[]) ⟨rfl,by simp,by simp⟩ (.inl ⟨h0,rfl⟩) (by simp[AD])
    .simp[Eb,AD]
    .intro id hu;rw[Bo,AF (by rintro rfl;rw[Jd]at hu;cases hu)];rfl
   .simp only[MQ,D3 h0,Ah]at hx;have fa:=IW h0
    (repeat' (first|simp only[go_sem, *,HJ,Hb]|(refine sx ?_ ?_<;>intro hc)|refine sy (by omega) fun x hx hm=>?_|simp(disch:=first|assumption|omega) only[AG]))
    refine IH.out ((_,_),_) ⟨.inr ⟨by omega,1::0::k::ρ,[Ah x (.d8 (1::1::k::ρ) 0 x.queue.length)],rfl,by simp only[go_sem];rfl,?_,⟨1,0,Nat.succ_pos 1,rfl⟩,?_,?_⟩⟩
    .rw[ht.out];refine IV (es:=[]) (l:=[]) ⟨rfl,by simp,by simp⟩ (.inr ⟨h0,_,rfl,?_⟩) (by simp[AD]);simp only[go_sem]
    .intro id hid;simp[Eb,AD]at hid;subst hid;exact⟨1,1,Nat.lt_succ_self 1,rfl⟩
    .intro id hu;rw[Bo,AF (by rintro rfl;rw[Jd]at hu;cases hu),D3 (by simp),Bo,AF (by rintro rfl;rw[Jd]at hu;cases hu)];rfl
  .clear hv;obtain rfl:=hE.val;have hA:=hE.arr;have hes:=hE.rep.len;have hti:(l.take i).length=i:=by simp;omega
   have hrep:=hE.rep;have hid:=hE.ids;have fr: ∀id,Ry (k::ρ) b id→id≠A→AA (Id.is (0::(b+3)::k::ρ) id=false∧Id.is (1::(b+9)::k::ρ) id=false∧Id.is (1::(b+10)::k::ρ) id=false∧Id.is (0::0::(b+8)::k::ρ) id=false∧Id.is (0::1::(b+8)::k::ρ) id=false∧Id.is (1::0::2::10::(b+8)::k::ρ) id=false∧Id.is A id=false):=fun id h hne=>⟨(Kr h 0 (b+3) (by omega)).1,(Kr h 1 (b+9) (by omega)).1,(Kr h 1 (b+10) (by omega)).1,(Hg h [0,0,b+8] (by simp)).1,(Hg h [0,1,b+8] (by simp)).1,(Hg h [1,0,2,10,b+8] (by simp)).1,AF fun e=>hne e.symm⟩;have hneA: ∀id∈es.flatMap A5,id≠A:=fun id h e=>by
    obtain⟨q,hq⟩:=KX hrep h;rw[e,hA]at hq;cases hq
   have hX:1::0::2::10::(b+8)::k::ρ∉es.flatMap A5:=fun h=>by
    obtain⟨t,j,_,e⟩:=hid _ h;have:=congrArg List.length e;simp at this;omega
   obtain⟨m1,m2⟩:=Kr hE.a 0 (b+3) (by omega);obtain⟨m3,m4⟩:=Kr hE.a 1 (b+9) (by omega);obtain⟨m5,m6⟩:=Hg hE.a [0,0,b+8] (by simp);obtain⟨m7,m8⟩:=Hg hE.a [0,1,b+8] (by simp);obtain⟨m9,m10⟩:=Hg hE.a [1,0,2,10,b+8] (by simp);simp only[Es,Ex]at m5 m6 m7 m8 m9 m10;rw[hti]at hes;have tke:es.take i=es:=D6 (by omega);replace hE:=AA.mk hE;replace hrep:=AA.mk hrep;replace hid:=AA.mk hid;replace hneA:=AA.mk hneA;replace fr:=AA.mk fr;replace hX:=AA.mk hX;have nle: ¬i+1≤i:=by omega
   have lm:i+1≤BD:=by unfold BD;omega
   by_cases h0:x.queue.length=0
   .simp only[MQ,D7 h0,Ah]at hx
    (repeat' (first|simp only[go_sem, *,HJ]|(refine sx ?_ ?_<;>intro hc)|refine sy (by omega) fun x hx hm=>?_|simp(disch:=first|assumption|omega) only[AG]))
    refine QB (B:=1::(b+10)::k::ρ) (i:=i+1) (es:=es++[Ah x .ci]) ?_ ?_ ?_ ?_ (fun v g b A es hE2=>IH.out ((v,g),b) ⟨.inr ⟨by omega,A,es,hE2⟩⟩)
    .simp only[go_sem];rfl
    .simp only[go_sem];rfl
    .rw[ht.out];refine IV (Jq hrep.out fun id h=>?_) (.inl ⟨h0,rfl⟩) (by simp[AD]);obtain⟨f1,f2,f3,f4,f5,f6,f7⟩:=(fr.out id (hid.out id h) (hneA.out id h)).out;simp only[go_sem,f1,f2,f3,f4,f5,f6,f7,AM]
    .simp;omega
   .simp only[MQ,D3 h0,Ah]at hx;have fa:=IW h0
    (repeat' (first|simp only[go_sem, *,HJ]|(refine sx ?_ ?_<;>intro hc)|refine sy (by omega) fun x hx hm=>?_|simp(disch:=first|assumption|omega) only[AG]))
    refine QB (B:=1::(b+10)::k::ρ) (i:=i+1) (es:=es++[Ah x (.d8 (1::0::2::10::(b+8)::k::ρ) 0 x.queue.length)]) ?_ ?_ ?_ ?_ (fun v g b A es hE2=>IH.out ((v,g),b) ⟨.inr ⟨by omega,A,es,hE2⟩⟩)
    .simp only[go_sem];rfl
    .simp only[go_sem];rfl
    .rw[ht.out];refine IV (Jq hrep.out fun id h=>?_) (.inr ⟨h0,_,rfl,?_⟩) (by simp only[AD,Ac];rintro id rfl;exact hX.out)
     .obtain⟨f1,f2,f3,f4,f5,f6,f7⟩:=(fr.out id (hid.out id h) (hneA.out id h)).out;simp only[go_sem,f1,f2,f3,f4,f5,f6,f7,AM]
     .simp only[go_sem]
    .simp;omega
 .rintro i ⟨⟨v,g⟩,b⟩ hi him hv;dsimp only at*;rcases hv.out with⟨rfl,he⟩|⟨hi0,A,es,hE⟩
  .cases he;have him0: ¬(0:Int)<l.length:=him;have hl0:=AA.mk hi.out.symm;clear hv
   (repeat' (first|simp only[go_sem, *,Hb]|(refine sx ?_ ?_<;>intro hc)|refine sy (by omega) fun x hx hm=>?_|simp(disch:=first|assumption|omega) only[AG]))
   exact .inl ⟨hl0.out,rfl⟩
  .clear hv;have hii:=AA.mk hi.out;obtain rfl:=hE.val;replace hE:=AA.mk hE
   (repeat' (first|simp only[go_sem, *]|(refine sx ?_ ?_<;>intro hc)|refine sy (by omega) fun x hx hm=>?_|simp(disch:=first|assumption|omega) only[AG]))
   obtain rfl:=hii.out;exact .inr ⟨by omega,_,_,b,A,es,rfl,hE.out⟩
structure CW.Fits(s:CW):Prop where
 am:s.am.length≤1000000
 ce:s.ce.length≤1000000
 ac:s.ac.length≤60
 waits:s.waits.length≤1000000
 group: ∀x∈s.ce,x.env.length≤1000000
 chan: ∀x∈s.ac,x.queue.length≤1000000∧ ∀y∈x.queue,y.length≤1000000
 wait: ∀x∈s.waits,x.env.length≤1000000
structure kY(π:List Nat)(s:CW)(v1 v2 v3 v4:AV)(rows:List (List AV))(g:AB):Prop where
 s0:Nv g 2 v1 (s.am.map A9)
 s1:Nv g 3 v2 (s.ce.map BG)
 s2:Nv g 3 v4 (s.waits.map Bh)
 arr:qo g v3 rows
 ac:Chs g rows s.ac
 qd:(rows.flatMap A5).Nodup
 gw: ∀id∈AD v2,id∉AD v4
 ids: ∀id,id∈AD v1∨id∈AD v2∨id∈AD v4∨id∈AD v3∨id∈rows.flatMap A5→Id.under π id=true
 own: ∀id,Id.under π id=false→g.get id=none
def kZ(π:List Nat)(s:CW)(r:Ae×AB):Prop:= ∃v1 v2 v3 v4 rows g,r=(.ret (.agg [v1,v2,v3,v4]),g)∧kY π s v1 v2 v3 v4 rows g
variable{α:Type}{f:α→List AU}
theorem Ma{sz:Nat}{l:List α}(h:l.length=0):Nv g sz .ci (l.map f):=.inl ⟨rfl,by rw[CE h];rfl⟩
theorem MZ{sz:Nat}{l:List α}{id:Abs.Id}(h:g.get id=some (.d6 sz (l.map f))):Nv g sz (.d8 id 0 l.length) (l.map f):=Aq [] (by simp) (by rw[EL];exact h)
theorem qS(a b c:Nat)(π:List Nat):Id.under π (a::b::c::π)=true:=under_iff.2 ⟨[a,b,c],rfl⟩
theorem OX(i t j:Nat)(π:List Nat)(h:i≠j):Id.under (i::π) (t::j::π)=false:=Du fun hs=>by
 rcases He.1 hs with e|hs
 .have:=congrArg List.length e;simp at this
 rcases He.1 hs with e|hs
 .simp only[Ok,and_true]at e;exact h e
 .have:=hs.length_le;simp at this;omega
theorem KA(i a t j:Nat)(π:List Nat)(h:i≠j):Id.under (i::π) (a::t::j::π)=false:=Du fun hs=>by
 rcases He.1 hs with e|hs
 .have:=congrArg List.length e;simp at this
 have:=OX i t j π h;rw[under_iff.2 hs]at this;cases this
theorem Wb: ∀{g:AB} {x:Abs.Id},x∈g.map (fun x=>x.1)→g.get x≠none
 |(k,o)::g,x,hx=>by
  rw[Bo];split
  .simp
  .rename_i hk;rw[Ci,DL]at hx;rcases hx with rfl|hx
   .exact absurd (is_self _) hk
   .exact Wb hx
theorem qv{id:Abs.Id}(h:g.get id=none):((g.map fun x=>x.1).all fun x=> !Id.is x id)=true:=by
 rw[CO];intro x hx;rw[AF]
 .rfl
 .rintro rfl;exact Wb hx h
theorem wx{es:List (List AV)}(h:FY g es l):Chs g es l:=by
 refine⟨h.len,fun j q hq=>?_⟩;obtain⟨v,h1,h2⟩:=h.row j q hq;refine⟨v,h1,?_⟩;rcases h2 with⟨h3,rfl⟩|⟨h3,id,rfl,h4⟩
 .exact Ma h3
 .exact MZ h4
theorem eA(s:CW)(h:s.Fits)(k:Nat)(ρ:List Nat): ∃r,BJ (KL Tryz.prog cfg) 92 [.agg [.d (.be (s.am.map A9)),.d (.be (s.ce.map BG)),.d (.be (s.ac.map Cy)),.d (.be (s.waits.map Bh))]] (k::ρ)=.ok r∧kZ (k::ρ) s r:=by
 have h1:=mM 149 rfl s.am (fun x _=>X8 x) h.am 4 (k::ρ);have h2:=eK 151 rfl s.ce (fun x hx=>P6 x (h.group x hx)) h.ce 7 (k::ρ);obtain⟨r,h3,hp⟩:=rQ s.ac h.ac h.chan 10 (k::ρ);have h4:=mN 157 rfl s.waits (fun x hx=>Rb x (h.wait x hx)) h.waits 13 (k::ρ);replace h:=AA.mk h;rcases hp with⟨z3,rfl⟩|⟨z3,v,g,b,A,es,rfl,hE⟩
 .by_cases z1:s.am.length=0;all_goals by_cases z2:s.ce.length=0
  all_goals by_cases z4:s.waits.length=0
  all_goals
   simp only[H7,z1,z2,z4,↓reduceIte]at h1 h2 h4
   (refine FA rfl Tryz.func92 rfl rfl rfl ?_;show Wp _ _ _ _ (Tryz.f92.body.get rfl) _ _;simp only[Tryz.f92,AP])
   (repeat' (first|simp only[go_sem, *,M7,Lx,M8,ne_eq,not_false_eq_true]|(refine sx ?_ ?_<;>intro hc)|refine sy (by omega) fun x hx hm=>?_|simp(disch:=first|assumption|omega) only[AG]))
   refine⟨_,_,_,_,[],_,rfl,?_,?_,?_,.inl ⟨rfl,rfl⟩,⟨z3.symm,fun j q hq=>by rw[CE z3]at hq;cases hq⟩,List.nodup_nil,?_,fun id hid=>?_,fun id hu=>?_⟩
   .first
    |exact Ma z1
    |(refine MZ ?_;simp only[go_sem];done)
   .first
    |exact Ma z2
    |(refine MZ ?_;simp only[go_sem];done)
   .first
    |exact Ma z4
    |(refine MZ ?_;simp only[go_sem];done)
   .simp[AD]
   .simp only[AD,Ac,F6,HE,LC,false_or]at hid
    repeat' (rcases hid with hid|hid)
    all_goals exact qS _ _ _ _
   .have a1:=AE hu;have a2:=AE (AH hu 4);have a3:=AE (AH hu 7);have a4:=AE (AH hu 13);simp only[go_sem,a1,a2,a3,a4,AM]
 .obtain rfl:=hE.val;have hgA:=hE.arr;have n00:=hE.own _ (OX 10 0 0 (k::ρ) (by decide));have n01:=hE.own _ (OX 10 0 1 (k::ρ) (by decide));have g00: ∀L,AB.get (g++L) (0::0::k::ρ)=AB.get L (0::0::k::ρ):=fun L=>BK n00;have g01: ∀L,AB.get (g++L) (0::1::k::ρ)=AB.get L (0::1::k::ρ):=fun L=>BK n01;have g04: ∀L,AB.get (g++L) (1::0::4::k::ρ)=AB.get L (1::0::4::k::ρ):=fun L=>BK (hE.own _ (KA _ _ _ _ _ (by decide)));have g07: ∀L,AB.get (g++L) (1::0::7::k::ρ)=AB.get L (1::0::7::k::ρ):=fun L=>BK (hE.own _ (KA _ _ _ _ _ (by decide)));have g13: ∀L,AB.get (g++L) (1::0::13::k::ρ)=AB.get L (1::0::13::k::ρ):=fun L=>BK (hE.own _ (KA _ _ _ _ _ (by decide)));have gal:=qv n00;have hrep:=hE.rep;rw[D4]at hrep;have hlr:=AA.mk hrep.len;have n13:g.get (1::0::13::k::ρ)=none:=hE.own _ (KA _ _ _ _ _ (by decide));have nis: ∀{x y:Abs.Id} {o:Abs.Obj},g.get x=none→g.get y=some o→Id.is x y=false:=fun h1 h2=>AF fun e=>by rw[e,h2]at h1;cases h1
  have hgA2:AA (Id.is (0::1::k::ρ) A=false∧Id.is (1::0::13::k::ρ) A=false∧ ∀L,AB.get (g++L) A=some (.arr 4 es)):=⟨nis n01 hgA,nis n13 hgA,fun L=>DN hgA⟩;have hgE:AA (∀id∈es.flatMap A5,Id.is (0::1::k::ρ) id=false∧Id.is (1::0::13::k::ρ) id=false∧ ∀L,AB.get (g++L) id=AB.get g id):=⟨fun id hid=>by
   obtain⟨q,hq⟩:=KX hrep hid;exact⟨nis n01 hq,nis n13 hq,fun L=>by rw[hq];exact DN hq⟩⟩
  clear n13 nis;replace hrep:=AA.mk hrep;have hA10:AA (Id.under (k::ρ) A=true):=⟨by obtain⟨t,j,_,rfl⟩:=hE.a;exact under_iff.2 ⟨[t,j,10],rfl⟩⟩;have hE10:AA (∀id∈es.flatMap A5,Id.under (k::ρ) id=true):=⟨fun id hid=>by obtain⟨t,j,_,rfl⟩:=hE.ids id hid;exact under_iff.2 ⟨[t,j,10],rfl⟩⟩;replace hE:=AA.mk hE;have f3: ∀o m,Ba (.d8 A o m) g=none:=fun o m=>by simp only[Ba,hgA]
  by_cases z1:s.am.length=0;all_goals by_cases z2:s.ce.length=0
  all_goals by_cases z4:s.waits.length=0
  all_goals
   simp only[H7,z1,z2,z4,↓reduceIte]at h1 h2 h4
   (refine FA rfl Tryz.func92 rfl rfl rfl ?_;show Wp _ _ _ _ (Tryz.f92.body.get rfl) _ _;simp only[Tryz.f92,AP])
   (repeat' (first|simp only[go_sem, *,M7,Lx,M8,ne_eq,not_false_eq_true]|(refine sx ?_ ?_<;>intro hc)|refine sy (by omega) fun x hx hm=>?_|simp(disch:=first|assumption|omega) only[AG]))
   refine⟨_,_,_,_,es,_,rfl,?_,?_,?_,.inr ⟨A,?_,?_⟩,wx (Jq hrep.out fun id hid=>?_),hrep.out.diff,?_,fun id hid=>?_,fun id hu=>?_⟩
   .first
    |exact Ma z1
    |(refine MZ ?_;simp only[go_sem,g04,g07,g13];done)
   .first
    |exact Ma z2
    |(refine MZ ?_;simp only[go_sem,g04,g07,g13];done)
   .first
    |exact Ma z4
    |(refine MZ ?_;simp only[go_sem,g04,g07,g13];done)
   .rw[hlr.out]
   .obtain⟨q1,q2,q3⟩:=hgA2.out;simp only[go_sem,q1,q2,q3,AM]
   .obtain⟨q1,q2,q3⟩:=hgE.out id hid;simp only[go_sem,q1,q2,q3,AM]
   .simp[AD]
   .simp only[AD,Ac,F6,LC,false_or]at hid
    repeat' (rcases hid with hid|hid)
    all_goals first
    |exact qS _ _ _ _
    |exact hA10.out
    |exact hE10.out _ hid
   .have a1:=AE hu;have a2:=AE (AH hu 4);have a3:=AE (AH hu 7);have a4:=AE (AH hu 13);have a5: ∀L,AB.get (g++L) id=AB.get L id:=fun L=>BK (hE.out.own id (AH hu 10));simp only[go_sem,a1,a2,a3,a4,a5,AM]
theorem SB{p:AK}{s:CW}{d:Bz}{g:Ay}{i c:Nat}: ∀{l:List Ir} {j:Nat},Fg p s d g i c j l=true→ ∀(t:Nat) (ch:Ir),l[t]? =some ch→Mq p s d g i (j+t) (c+(j+t)) ch=true
 |x::l,j,h,t,ch,ht=>by
  rw[Fg,AS]at h;cases t with
  |zero=>
   simp only[F7,CI]at ht;subst ht;exact h.1
  |succ t=>
   rw[GC]at ht;have:=SB h.2 t ch ht
   rwa [show j+1+t=j+(t+1) by omega]at this
theorem QS{p:AK}{bv:List Int}(hF:Bq p bv){s:CW}: ∀(l:List Ay) (i c k:Nat),Ew p (Bx p bv) s i c k l=true→
 (∀g∈l,g.env.length≤10000)∧ ∀a,c≤a→a<s.ac.length→ ∃q g d ch i j,s.ac[a]? =some q∧cN p s d g i j q ch=true∧ch.many≤3
 |[],i,c,k,h=>by
  rw[Ew,AS,As]at h;exact⟨fun g hg=>(by cases hg),fun a h1 h2=>by omega⟩
 |g::l,i,c,k,h=>by
  rw[Ew]at h;cases hd:p.def? g.eq with
  |none=>rw[hd]at h;cases h
  |some d=>
   rw[hd]at h;simp only[AS]at h;obtain⟨h1,h2⟩:=h;obtain⟨i1,i2⟩:=QS hF l _ _ _ h2;rw[AK.def?]at hd;split at hd
   .rename_i h0;have hdf:=My hF hd;rw[Ki]at h1;simp only[AS,As]at h1;obtain⟨_,hl,_,_,hch⟩:=h1;obtain⟨_,_,s0,_,_,_,_,q0,q1,q2,_⟩:=hdf.node;rw[q2]at hl;have hown:=OE hdf.ok;simp only[GS]at hl;refine⟨fun y hy=>?_,fun a ha hb=>?_⟩
    .rcases DL.1 hy with rfl|hy
     .omega
     .exact i1 y hy
    .by_cases hac:a<c+d.ac.length
     .obtain⟨ch,hch2⟩:=get_some (l:=d.ac) (i:=a-c) (by omega);have:=SB hch (a-c) ch hch2;rw[show c+(0+(a-c))=a by omega,Mq]at this;cases hq:s.ac[a]? with
      |none=>rw[hq]at this;cases this
      |some q=>
       rw[hq]at this;exact⟨q,g,d,ch,_,_,rfl,this,(hdf.ok.chan ch (Ap hch2)).2.2.2⟩
     .exact i2 a (by omega) hb
   .cases hd
theorem Q4{p:AK}{st:BF}(hlk:looks p=some st){s:CW}(h:EG p st.bv s=true):s.Fits:=by
 have hF:=C0 hlk;simp only[EG,CW.small,AS,As]at h;obtain⟨⟨a1,a2,a3,a4⟩,_,_,hg,hw⟩:=h;obtain⟨g1,g2⟩:=QS hF _ _ _ _ hg;refine⟨by omega,by omega,a3,by omega,fun x hx=>by have:=g1 x hx;omega,fun x hx=>?_,fun x hx=>?_⟩
 .obtain⟨a,ha⟩:=Hm hx;have hal:=(BE.1 ha).1;obtain⟨q,g,d,ch,i,j,hq,hok,hm⟩:=g2 a (by omega) hal;rw[ha]at hq;cases hq;simp only[cN,AS,As,CO]at hok;obtain⟨_,_,_,h12,_,hall⟩:=hok;refine⟨by omega,fun y hy=>?_⟩;have:=hall y hy;simp only[Ig,AS,As]at this;omega
 .have:=CO.1 hw x hx;simp only[Db,AS,As]at this;obtain⟨_,_,_,hn,hl,_⟩:=this;cases hxn:p.nodes[x.node.toNat]? with
  |none=>rw[hxn]at hn;cases hn
  |some y=>
   obtain⟨v,_,hv,v0,v1,_⟩:=hF.node _ y hxn;rw[hv]at hl;simp only[GS]at hl;omega
def HC(p:AK)(l:List Ay):Nat×Nat:=l.foldl (fun a g=>match p.def? g.eq with|some d=>(a.1+d.ac.length,a.2+d.am.length)|none=>a) (0,1)
structure Ru(p:AK)(sz:List Int)(s:CW)(i:Nat)(g:Ay)(d:Bz):Prop where
 eq:p.def? g.eq=some d
 at_:KK s.am g.at_
 len:(g.env.length:Int)=((Bx p sz)[g.eq.toNat]?).getD 0
 of:g.env.all (CZ.inB p s.ac.length s.am.length)=true
 wt:EO d (HC p (s.ce.take i)).1 (HC p (s.ce.take i)).2 g=true
 ac: ∀(j:Nat) ch,d.ac[j]? =some ch→ ∃q,s.ac[(HC p (s.ce.take i)).1+j]? =some q∧q.group=i∧q.index=j∧q.at_=g.place d ch.at_
structure QOk(p:AK)(s:CW)(q:HY):Prop where
 len:q.queue.length≤12
 dead:q.queue.length=0∨BU s.am q.at_=false
 msgs: ∀m∈q.queue,Ig p s.ac.length s.am.length (HB p s q) m=true
structure Lq(p:AK)(sz:List Int)(s:CW):Prop where
 small:s.small=true
 tree:Pk s.am
 dead: ∀(i:Nat) x,1≤i→s.am[i]? =some x→x.dead=true∨BU s.am x.pp=false
 grp: ∀(i:Nat) g,s.ce[i]? =some g→ ∃d,Ru p sz s i g d
 tot:HC p s.ce=(s.ac.length,s.am.length)
 que: ∀(c:Nat) q,s.ac[c]? =some q→QOk p s q
 wait: ∀w∈s.waits,Db p sz s w=true
variable{m:List Cr}
theorem Yw{l:List Cr}:Ht l m=true↔ ∀x∈m,x.dead=true∨BU l x.pp=false:=by
 induction m with
 |nil=>simp[Ht]
 |cons x m ih=>
  rw[Ht,AS,ih];simp only[I8,I1,DL,F8]
variable{d:Bz}
theorem Sk(p:AK)(l:List Ay)(g:Ay)(h:p.def? g.eq=some d):HC p (l++[g])=((HC p l).1+d.ac.length,(HC p l).2+d.am.length):=by
 unfold HC;rw[List.foldl_append];simp only[MT,List.foldl_nil,h]
theorem Sl{p:AK}{l:List Ay}{i:Nat}{g:Ay}(hg:l[i]? =some g)(h:p.def? g.eq=some d):HC p (l.take (i+1))=((HC p (l.take i)).1+d.ac.length,(HC p (l.take i)).2+d.am.length):=by
 rw[I5,hg];exact Sk p _ g h
theorem P0{p:AK}{s:CW}{d:Bz}{g:Ay}{i c:Nat}: ∀{l:List Ir} {j:Nat},Fg p s d g i c j l=true↔ ∀(t:Nat) ch,l[t]? =some ch→Mq p s d g i (j+t) (c+(j+t)) ch=true
 |[],j=>by simp[Fg]
 |x::l,j=>by
  rw[Fg,AS,P0 (j:=j+1)];constructor
  .rintro⟨h1,h2⟩ t ch ht;cases t with
   |zero=>
    simp only[F7,CI]at ht;subst ht;exact h1
   |succ t=>
    rw[GC]at ht;have:=h2 t ch ht
    rwa [show j+1+t=j+(t+1) by omega]at this
  .intro h;refine⟨h 0 x rfl,fun t ch ht=>?_⟩;have:=h (t+1) ch (by rw[GC];exact ht)
   rwa [show j+(t+1)=j+1+t by omega]at this
theorem WX{p:AK}{sz:List Int}{s:CW}: ∀{l:List Ay} {i:Nat},s.ce.drop i=l→i≤s.ce.length→
 (Ew p (Bx p sz) s i (HC p (s.ce.take i)).1 (HC p (s.ce.take i)).2 l=true↔HC p s.ce=(s.ac.length,s.am.length)∧ ∀(k:Nat) g,i≤k→s.ce[k]? =some g→ ∃d,p.def? g.eq=some d∧Ki p (Bx p sz) s k (HC p (s.ce.take k)).1 (HC p (s.ce.take k)).2 g d=true)
 |[],i,hd,hi=>by
  have hil:s.ce.length≤i:=by
   have:=congrArg List.length hd;simp at this;omega
  rw[Ew,AS,As,As,D6 hil];constructor
  .rintro⟨h1,h2⟩;exact⟨by rw[←h1,←h2],fun k g hk hg=>by have:=AL hg;omega⟩
  .rintro⟨h,_⟩;rw[h];exact⟨rfl,rfl⟩
 |g::l,i,hd,hi=>by
  have hg:s.ce[i]? =some g:=by
   have:=congrArg (fun l=>l[0]?) hd;simpa using this
  have hil:=AL hg;have hd2:s.ce.drop (i+1)=l:=by
   rw[AN hg]at hd;exact(List.cons.inj hd).2
  rw[Ew];cases hdf:p.def? g.eq with
  |none=>
   simp only[AM,false_iff];rintro⟨_,h⟩;obtain⟨d,h1,_⟩:=h i g (El _) hg;rw[hdf]at h1;cases h1
  |some d=>
   have ih:=WX (p:=p) (sz:=sz) (s:=s) hd2 hil;rw[Sl hg hdf]at ih;simp only[AS,ih];constructor
   .rintro⟨h1,h2,h3⟩;refine⟨h2,fun k g2 hk hg2=>?_⟩;by_cases hki:k=i
    .subst hki;rw[hg]at hg2;cases hg2;exact⟨d,hdf,h1⟩
    .exact h3 k g2 (by omega) hg2
   .rintro⟨h1,h2⟩;obtain⟨d2,h3,h4⟩:=h2 i g (El _) hg;rw[hdf]at h3;cases h3;exact⟨h4,h1,fun k g2 hk hg2=>h2 k g2 (by omega) hg2⟩
variable{j:Nat}{ch:Ir}
theorem Tw{p:AK}{s:CW}{i:Nat}{g:Ay}{q:HY}(hg:s.ce[i]? =some g)(hd:p.def? g.eq=some d)(hc:d.ac[j]? =some ch)(h1:q.group=i)(h2:q.index=j):HB p s q=ch.many:=by
 have hd2:p.defs[g.eq.toNat]? =some d:=by
  rw[AK.def?]at hd;split at hd
  .exact hd
  .cases hd
 simp[HB,h1,h2,hg,hd2,hc]
theorem cR{p:AK}{n:Int}(h:p.def? n=some d):0≤n∧p.defs[n.toNat]? =some d:=by
 rw[AK.def?]at h;split at h
 .exact⟨by assumption,h⟩
 .cases h
theorem cP{p:AK}{sz:List Int}{s:CW}(hg: ∀(i:Nat) g,s.ce[i]? =some g→ ∃d,Ru p sz s i g d): ∀(n:Nat),n≤s.ce.length→ ∀c,c<(HC p (s.ce.take n)).1→ ∃i g d j ch,i<n∧s.ce[i]? =some g∧Ru p sz s i g d∧d.ac[j]? =some ch∧c=(HC p (s.ce.take i)).1+j
 |0,_,c,h=>by simp[HC]at h
 |n+1,hn,c,h=>by
  obtain⟨g,hgn⟩:=get_some (l:=s.ce) (i:=n) (by omega);obtain⟨d,hd⟩:=hg n g hgn;rw[Sl hgn hd.eq]at h;by_cases hc:c<(HC p (s.ce.take n)).1
  .obtain⟨i,g,d,j,ch,h1,h2⟩:=cP hg n (by omega) c hc;exact⟨i,g,d,j,ch,by omega,h2⟩
  .obtain⟨ch,hch⟩:=get_some (l:=d.ac) (i:=c-(HC p (s.ce.take n)).1) (by dsimp only at h;omega);exact⟨n,g,d,_,ch,by omega,hgn,hd,hch,by omega⟩
structure vn(p:AK)(sz:List Int)(s:CW)(c:Nat)(q:HY)(i j:Nat)(g:Ay)(d:Bz)(ch:Ir):Prop where
 grp:s.ce[i]? =some g
 st:Ru p sz s i g d
 cha:d.ac[j]? =some ch
 at_:c=(HC p (s.ce.take i)).1+j
 group:q.group=i
 index:q.index=j
 place:q.at_=g.place d ch.at_
variable{c:Nat}
theorem Lq.chn{p:AK}{sz:List Int}{s:CW}(hg: ∀(i:Nat) g,s.ce[i]? =some g→ ∃d,Ru p sz s i g d)(ht:HC p s.ce=(s.ac.length,s.am.length)){q:HY}(hq:s.ac[c]? =some q): ∃i j g d ch,vn p sz s c q i j g d ch:=by
 obtain⟨i,g,d,j,ch,h1,h2,h3,h4,h5⟩:=cP hg s.ce.length (El _) c (by rw[D4,ht];exact AL hq);obtain⟨q2,h6,h7,h8,h9⟩:=h3.ac j ch h4;rw[←h5,hq]at h6;cases h6;exact⟨i,j,g,d,ch,h2,h3,h4,h5,h7,h8,h9⟩
theorem qH{p:AK}{sz:List Int}{s:CW}(h:Lq p sz s):EG p sz s=true:=by
 simp only[EG,AS];refine⟨h.small,qQ h.tree,Yw.2 fun x hx=>?_,(WX (p:=p) (sz:=sz) (s:=s) (l:=s.ce) (i:=0) rfl (by omega)).2 ⟨h.tot,fun i g hi hg=>?_⟩,CO.2 h.wait⟩
 .obtain⟨i,hi⟩:=Hm hx;rw[IT]at hi;exact h.dead _ x (by omega) hi
 .obtain⟨d,hd⟩:=h.grp i g hg;refine⟨d,hd.eq,?_⟩;simp only[Ki,AS,As];refine⟨hd.at_,hd.len,hd.of,hd.wt,P0.2 fun j ch hj=>?_⟩;obtain⟨q,hq,q1,q2,q3⟩:=hd.ac j ch hj;have hqo:=h.que _ q hq;rw[I9,Mq,hq];simp only[cN,AS,As,I8,I1,CO];exact⟨q1,q2,q3,hqo.len,hqo.dead,fun m hm=>by rw[←Tw hg hd.eq hj q1 q2];exact hqo.msgs m hm⟩
structure Ug(s s':CW):Prop where
 sp: ∀(i:Nat) x,s.am[i]? =some x→s'.am[i]? =some x
 gr: ∀(i:Nat) g,s.ce[i]? =some g→s'.ce[i]? =some g
 ch: ∀(c:Nat) q,s.ac[c]? =some q→ ∃l,s'.ac[c]? =some {q with queue:=q.queue++l}
theorem Gn(s:CW):Ug s s:=⟨fun _ _ h=>h,fun _ _ h=>h,fun c q h=>⟨[],by simpa using h⟩⟩
theorem eY{a b c:CW}(h1:Ug a b)(h2:Ug b c):Ug a c:=by
 refine⟨fun i x h=>h2.sp i x (h1.sp i x h),fun i x h=>h2.gr i x (h1.gr i x h),fun i q h=>?_⟩;obtain⟨l,h3⟩:=h1.ch i q h;obtain⟨l2,h4⟩:=h2.ch i _ h3;exact⟨l++l2,by rw[h4];simp⟩
theorem SY{β:Type}{a:List α}{b:List β}(h: ∀(i:Nat) x,a[i]? =some x→ ∃y,b[i]? =some y):a.length≤b.length:=by
 by_cases h0:a.length=0
 .omega
 .obtain⟨x,hx⟩:=get_some (l:=a) (i:=a.length-1) (by omega);obtain⟨y,hy⟩:=h _ x hx;have:=AL hy;omega
variable{s':CW}
theorem Ug.ns{s:CW}(h:Ug s s'):s.am.length≤s'.am.length:=SY fun i x hx=>⟨_,h.sp i x hx⟩
theorem Ug.nc{s:CW}(h:Ug s s'):s.ac.length≤s'.ac.length:=SY fun i x hx=>by obtain⟨l,hl⟩:=h.ch i x hx;exact⟨_,hl⟩
variable{nc' ns':Nat}
theorem ni{p:AK}{nc ns:Nat}{v:CZ}(h1:nc≤nc')(h2:ns≤ns')(h:v.inB p nc ns=true):v.inB p nc' ns'=true:=by
 unfold CZ.inB at*;split
 .rename_i hk;simpa[hk]using h
 .rename_i hk1;rw[D3 hk1]at h;split
  .rename_i hk;simpa[hk]using h
  .rename_i hk2;rw[D3 hk2]at h;split
   .rename_i hk;rw[D7 hk]at h;simp only[AS,As]at*;omega
   .rename_i hk3;rw[D3 hk3]at h;split
    .rename_i hk;rw[D7 hk]at h;simp only[AS,As]at*;omega
    .rename_i hk4;rw[D3 hk4]at h;exact h
theorem Fb{p:AK}{nc ns:Nat}{l:List CZ}(h1:nc≤nc')(h2:ns≤ns')(h:l.all (CZ.inB p nc ns)=true):l.all (CZ.inB p nc' ns')=true:=by
 rw[CO]at*;exact fun v hv=>ni h1 h2 (h v hv)
theorem Gu{l l':List Cr}{i:Int}(h:l.length≤l'.length)(hi:KK l i):KK l' i:=⟨hi.1,by have:=hi.2;omega⟩
theorem JH{s:CW}(h:Ug s s'){i:Int}(hi:KK s.am i):BU s'.am i=BU s.am i:=by
 obtain⟨x,hx⟩:=get_some (l:=s.am) (i:=i.toNat) (by have:=hi.1;have:=hi.2;omega);rw[BU,BU,h.sp _ _ hx,hx]
theorem kN{p:AK}{nc ns:Nat}{env:List CZ}(he:env.all (CZ.inB p nc ns)=true)(x:BM)(hf:x.formed env.length=true):(x.value env).inB p nc ns=true:=by
 obtain⟨op,n,kids⟩:=x;by_cases h1:op=1
 .subst h1;rw[OZ];rcases kids with _|⟨a,_|⟨b,_|⟨c,l⟩⟩⟩<;>simp[BM.formed]at hf;simp[CZ.inB,hf]
 by_cases h2:op=2
 .subst h2;rw[Me];obtain⟨hn,hl⟩:=Kf hf;obtain⟨v,hv⟩:=get_some (l:=env) (i:=n.toNat) (by omega);rw[hv];exact CO.1 he v (Ap hv)
 obtain⟨h3,h4,h5,a,b,rfl,hfa,hfb⟩:=L9 hf h1 h2;rw[OY env op n a b h1 h2];generalize zx op (XB (a.value env)) (XB (b.value env))=k;have: -1000000000≤Jr k∧Jr k≤1000000000:=by unfold Jr;omega
 simp[CZ.inB,this]
theorem bt{p:AK}{sz:List Int}{s:CW}(h:Lq p sz s)(hl:l.length=s.ac.length)(hq: ∀(c:Nat) q,s.ac[c]? =some q→ ∃m,l[c]? =some {q with queue:=m}∧QOk p s {q with queue:=m}):Lq p sz {s with ac:=l}:=by
 have hsm:=h.small;simp only[CW.small,AS,As]at hsm;refine⟨by simp only[CW.small,AS,As];omega,h.tree,h.dead,fun i g hg=>?_,by rw[hl];exact h.tot,fun c q hc=>?_,fun w hw=>?_⟩
 .obtain⟨d,hd⟩:=h.grp i g hg;refine⟨d,hd.eq,hd.at_,hd.len,by rw[hl];exact hd.of,hd.wt,fun j ch hj=>?_⟩;obtain⟨q,h1,h2⟩:=hd.ac j ch hj;obtain⟨m,h3,_⟩:=hq _ q h1;exact⟨_,h3,h2⟩
 .obtain⟨q0,h0⟩:=get_some (l:=s.ac) (i:=c) (by rw[←hl];exact AL hc);obtain⟨m,h3,h4⟩:=hq c q0 h0;rw[h3]at hc;cases hc;exact⟨h4.len,h4.dead,fun m hm=>by rw[hl];exact h4.msgs m hm⟩
 .have:=h.wait w hw;simpa only[Db,hl]using this
theorem kC{p:AK}{sz:List Int}{s:CW}(h:Lq p sz s){c:Nat}{q:HY}(hq:s.ac[c]? =some q){l:List (List CZ)}(hl:QOk p s {q with queue:=l}):Lq p sz {s with ac:=s.ac.set c {q with queue:=l}}:=by
 refine bt h (by simp) fun c2 q2 h2=>?_;rw[IS];by_cases e:c=c2
 .subst e;rw[hq]at h2;cases h2;rw[D7 rfl,D7 (AL hq)];exact⟨l,rfl,hl⟩
 .rw[D3 e];exact⟨q2.queue,h2,h.que c2 q2 h2⟩
theorem eW{s:CW}{c:Nat}{q:HY}(hq:s.ac[c]? =some q)(l:List (List CZ)):Ug s {s with ac:=s.ac.set c {q with queue:=q.queue++l}}:=by
 refine⟨fun _ _ h=>h,fun _ _ h=>h,fun c2 q2 h2=>?_⟩;dsimp only;rw[IS];by_cases e:c=c2
 .subst e;rw[hq]at h2;cases h2;rw[D7 rfl,D7 (AL hq)];exact⟨l,rfl⟩
 .rw[D3 e];exact⟨[],by simpa using h2⟩
theorem kD{p:AK}{sz:List Int}{s:CW}(h:Lq p sz s){l:List L4}(hl:l.length≤40)(hw: ∀w∈l,Db p sz s w=true):Lq p sz {s with waits:=l}:=by
 have hsm:=h.small;simp only[CW.small,AS,As]at hsm;exact⟨by simp only[CW.small,AS,As];omega,h.tree,h.dead,fun i g hg=>by obtain⟨d,hd⟩:=h.grp i g hg;exact⟨d,hd.eq,hd.at_,hd.len,hd.of,hd.wt,hd.ac⟩,h.tot,fun c q hc=>by have:=h.que c q hc;exact⟨this.len,this.dead,this.msgs⟩,hw⟩
structure Br(p:AK)(sz:List Int)(s:CW)(j:FW):Prop where
 n0:0≤j.node
 size:sz[j.node.toNat]? =some (j.env.length:Int)
 at_:KK s.am j.at_
 live:BU s.am j.at_=false
 of:j.env.all (CZ.inB p s.ac.length s.am.length)=true
theorem J2{p:AK}{sz:List Int}{s:CW}{j:FW}(h:Br p sz s j)(he:Ug s s'):Br p sz s' j:=⟨h.n0,h.size,Gu he.ns h.at_,by rw[JH he h.at_];exact h.live,Fb he.nc he.ns h.of⟩
theorem Kk{p:AK}{sz:List Int}{s:CW}{j:FW}(hF:Bq p sz)(h:Br p sz s j): ∃x l,p.nodes[j.node.toNat]? =some x∧CV p j.env.length x=true∧HD p j.env.length x=some l∧(∀q∈l,0≤q.1∧sz[q.1.toNat]? =some q.2)∧j.env.length≤5000:=by
 have hl:=AL h.size;rw[hF.len]at hl;obtain⟨x,hx⟩:=get_some hl;obtain⟨s0,l,h1,h2,h3,h4,h5,h6⟩:=hF.node _ x hx;rw[h.size]at h1;cases h1;exact⟨x,l,hx,h4,h5,h6,by omega⟩
theorem J3{p:AK}{sz:List Int}{s:CW}{j:FW}{x:CT}{l:List (Int×Int)}(h:Br p sz s j)(ho: ¬x.op=4)(hl:HD p j.env.length x=some l)(hq: ∀q∈l,0≤q.1∧sz[q.1.toNat]? =some q.2)(k:Nat): ∀j'∈A6 x k j.at_ j.env,Br p sz s j':=by
 intro j' hj';rw[A6]at hj';split at hj'
 .rename_i n hn;rw[HD,D3 ho]at hl;cases hl;have:=hq (n,j.env.length) (by simp only[Bm,ID];exact⟨n,Ap hn,rfl⟩);rw[Ac]at hj';subst hj';exact⟨this.1,this.2,h.at_,h.live,h.of⟩
 .cases hj'
theorem cn{l:List Cr}{i:Int}(hi:KK l i):EA (l++m) i=EA l i:=by
 have:=hi.1;have:=hi.2;rw[EA,EA,Bv (by omega)]
theorem Nz{l:List Cr}: ∀{k:Nat} {i:Int},KK l i→CH l k i=true→CH (l++m) k i=true
 |0,i,hi,h=>h
 |k+1,i,hi,h=>by
  rw[CH]at h⊢;by_cases h0:i=0
  .simp[h0]
  .simp only[h0,decide_false,Ip,AS,As]at h⊢;rw[cn hi];exact⟨Gu (by simp) h.1,Nz h.1 h.2⟩
theorem IE: ∀{l:List Lo} {i:Nat},Cq i l=true→ ∀(t:Nat) y,l[t]? =some y→0≤y.pp∧y.pp≤((i+t:Nat):Int)
 |x::l,i,h,t,y,ht=>by
  rw[Cq,AS,AS,As,As]at h;cases t with
  |zero=>
   simp only[F7,CI]at ht;subst ht;exact⟨h.1,by simpa using h.2.1⟩
  |succ t=>
   rw[GC]at ht;have:=IE h.2.2 t y ht
   rwa [show i+1+t=i+(t+1) by omega]at this
theorem Dy(d:Bz)(g:Ay)(i:Nat): ∀(l:List Ir) (k:Nat),(EE d g i k l).length=l.length
 |[],k=>rfl
 |c::l,k=>by simp[EE,Dy d g i l (k+1)]
theorem Gv(d:Bz)(g:Ay)(i:Nat): ∀(l:List Ir) (k t:Nat),(EE d g i k l)[t]? =(l[t]?).map fun c=>(⟨(i:Int),((k+t:Nat):Int),g.place d c.at_,[]⟩:HY)
 |[],k,t=>by simp[EE]
 |c::l,k,0=>by simp[EE]
 |c::l,k,t+1=>by
  rw[EE,GC,GC,Gv d g i l (k+1) t];congr 1;funext c;rw[show k+1+t=k+(t+1) by omega]
theorem Np{g:Ay}: ∀{l:List Lo} {k:Nat} {j:FW},j∈BP d g k l→ ∃(t:Nat) (y:Lo),l[t]? =some y∧j=⟨y.node,g.place d ((k+t:Nat)+1),g.env⟩
 |[],k,j,h=>by cases h
 |y::l,k,j,h=>by
  rw[BP]at h;rcases DL.1 h with rfl|h
  .exact⟨0,y,rfl,rfl⟩
  .obtain⟨t,y,h1,h2⟩:=Np h;exact⟨t+1,y,by rw[GC];exact h1,by rw[h2,show k+1+t=k+(t+1) by omega]⟩
structure Dr(p:AK)(sz:List Int)(s:CW)(j:FW)(x:CT)(d:Bz):Prop where
 ol:Lq p sz s
 job:Br p sz s j
 node:p.nodes[j.node.toNat]? =some x
 op:x.op=4
 n0:0≤x.n
 eq:p.defs[x.n.toNat]? =some d
 ok:Rq d
 grp:((Bx p sz)[x.n.toNat]?)=some ((j.env.length:Int)+d.own)
 rules: ∀r∈d.rules,0≤r.node∧sz[r.node.toNat]? =some ((j.env.length:Int)+d.own+CD d r.d9)
 am: ∀y∈d.am,0≤y.node∧sz[y.node.toNat]? =some ((j.env.length:Int)+d.own)
 kid: ∃k,x.kids=[k]∧0≤k∧sz[k.toNat]? =some ((j.env.length:Int)+d.own)
theorem Yz{p:AK}{sz:List Int}{s:CW}{j:FW}{x:CT}(hF:Bq p sz)(hs:Lq p sz s)(hj:Br p sz s j)(hx:p.nodes[j.node.toNat]? =some x)(ho:x.op=4): ∃d,Dr p sz s j x d:=by
 obtain⟨n1,n2,_⟩:=P7 hF hx ho;obtain⟨d,hd⟩:=get_some (l:=p.defs) (i:=x.n.toNat) (by omega);have hdf:=My hF hd;obtain⟨i,x2,s0,h1,h2,h3,h4,h5,h6,h7,h8,h9,k,h10,h11,h12⟩:=hdf.node;have hij:i=j.node.toNat:=by
  by_cases e:i=j.node.toNat
  .exact e
  .exact absurd h3 (hF.diff i j.node.toNat x2 x e h1 h2 hx ho)
 subst hij;rw[hx]at h1;cases h1;rw[hj.size]at h4;cases h4;exact⟨d,hs,hj,hx,ho,n1,hd,hdf.ok,h7,h8,h9,k,h10,h11,h12⟩
theorem sh{p:AK}{sz:List Int}{s:CW}{i:Nat}{g:Ay}(h:Ru p sz s i g d):d.own≤g.env.length:=by
 have hm:=h.wt;rw[EO,As]at hm;have:=congrArg List.length hm;rw[MM,RT]at this;omega
theorem cQ{p:AK}{sz:List Int}{s:CW}{q:HY}{i:Nat}{g:Ay}(hF:Bq p sz)(hc:vn p sz s c q i j g d ch):KK s.am q.at_:=by
 rw[hc.place];have hdf:=My hF (cR hc.st.eq).2;obtain⟨c1,c2,_⟩:=hdf.ok.chan ch (Ap hc.cha);exact Xp hc.st.wt (sh hc.st) hc.st.at_ hc.st.of c1 c2
theorem VL{p:AK}{sz:List Int}{s:CW}(hF:Bq p sz)(h:Lq p sz s){q:HY}(hq:s.ac[c]? =some q):S9 p s q:=by
 obtain⟨i,j,g,d,ch,hc⟩:=Lq.chn h.grp h.tot hq;obtain⟨d0,d1⟩:=cR hc.st.eq;refine⟨cQ hF hc,by rw[hc.group];omega,by rw[hc.index];omega,⟨g,d,ch,by rw[hc.group];exact hc.grp,d0,d1,by rw[hc.index];exact hc.cha⟩,(h.que c q hq).len⟩
section
variable{p:AK}{sz:List Int}{s:CW}{j:FW}{x:CT}{d:Bz}
theorem Dr.env(h:Dr p sz s j x d):(AX s d x.n j).env.length=j.env.length+d.own:=by simp[AX,MM]
theorem Dr.wt(h:Dr p sz s j x d):EO d s.ac.length s.am.length (AX s d x.n j)=true:=by
 have e:j.env.length+d.own-d.ac.length-d.am.length=j.env.length:=by unfold Bz.own;omega
 rw[EO,As,h.env,e,AX,List.drop_left]
theorem Dr.place(h:Dr p sz s j x d){n:Int}(h1:1≤n)(h2:n≤d.am.length):(AX s d x.n j).place d n=(s.am.length:Int)+(n-1):=Qo h.wt (by rw[h.env];omega) h1 h2
theorem Qp(g:Ay)(d:Bz):g.place d 0=g.at_:=by simp[Ay.place]
theorem DP(d:Bz)(g:Ay)(l:List Lo):(CY d g l).length=l.length:=by simp[CY]
theorem Dr.spot(h:Dr p sz s j x d){n:Int}(h1:0≤n)(h2:n≤d.am.length):KK (s.am++CY d (AX s d x.n j) d.am) ((AX s d x.n j).place d n)∧BU (s.am++CY d (AX s d x.n j) d.am) ((AX s d x.n j).place d n)=false:=by
 by_cases h0:n=0
 .subst h0;rw[Qp];have:=h.job.at_;refine⟨Gu (by simp) this,?_⟩;have hl:=h.job.live;have e:(AX s d x.n j).at_=j.at_:=rfl;rw[e];rw[BU]at hl⊢;have a1:=this.1;have a2:=this.2;rw[Bv (by omega)];exact hl
 .rw[h.place (by omega) h2];refine⟨⟨by omega,by simp[DP];omega⟩,?_⟩;rw[BU,CS (by omega),CY,D5];cases d.am[((s.am.length:Int)+(n-1)).toNat-s.am.length]? <;>rfl
theorem Dr.of(h:Dr p sz s j x d):(AX s d x.n j).env.all (CZ.inB p (s.ac.length+d.ac.length) (s.am.length+d.am.length))=true:=by
 rw[AX,List.all_append,AS];refine⟨Fb (by omega) (by omega) h.job.of,?_⟩;rw[Ed,List.all_append,AS];constructor
 .rw[CO];intro v hv;obtain⟨i,hi,rfl⟩:=ID.1 hv;have:=List.mem_range'_1.1 hi;simp only[CZ.inB,Int.reduceEq,F3,D8,AS,As];omega
 .rw[CO];intro v hv;obtain⟨i,hi,rfl⟩:=ID.1 hv;have:=List.mem_range'_1.1 hi;simp only[CZ.inB,Int.reduceEq,F3,D8,AS,As];omega
theorem Dr.tree(h:Dr p sz s j x d):Pk (s.am++CY d (AX s d x.n j) d.am):=by
 have hT:=h.ol.tree;refine⟨by simp;have:=hT.pos;omega,by rw[cn ⟨by omega,by have:=hT.pos;omega⟩];exact hT.top,fun i hi=>?_⟩;have key: ∀(n t:Nat),t<n→t<d.am.length→ ∃k,CH (s.am++CY d (AX s d x.n j) d.am) k ((s.am.length:Int)+t)=true:=by
  intro n;induction n with
  |zero=>intro t ht;omega
  |succ n ih=>
   intro t ht htd;obtain⟨y,hy⟩:=get_some htd;obtain⟨y0,y1⟩:=IE h.ok.spot t y hy;have hpar:EA (s.am++CY d (AX s d x.n j) d.am) ((s.am.length:Int)+t)=(AX s d x.n j).place d y.pp:=by
    rw[EA,CS (by omega),CY,D5,show((s.am.length:Int)+t).toNat-s.am.length=t by omega,hy];rfl
   have hin:=(h.spot (n:=y.pp) y0 (by omega)).1;have: ∃k,CH (s.am++CY d (AX s d x.n j) d.am) k ((AX s d x.n j).place d y.pp)=true:=by
    by_cases h0:y.pp=0
    .rw[h0,Qp];exact⟨_,Nz h.job.at_ (hT.ws _ h.job.at_)⟩
    .rw[h.place (by omega) (by omega)];have:=ih (y.pp-1).toNat (by omega) (by omega)
     rwa [show(((y.pp-1).toNat:Nat):Int)=y.pp-1 by omega]at this
   obtain⟨k,hk⟩:=this;refine⟨k+1,?_⟩;rw[CH,hpar,hk,DO hin];simp
 by_cases hil:i<s.am.length
 .have hi2:KK s.am i:=⟨hi.1,hil⟩;exact Mw (by simp) (Nz hi2 (hT.ws i hi2))
 .have hi1:=hi.1;have hi3:=hi.2;simp only[D9,DP]at hi3;obtain⟨k,hk⟩:=key d.am.length (i-s.am.length).toNat (by omega) (by omega);rw[show(s.am.length:Int)+((i-s.am.length).toNat:Nat)=i by omega]at hk;exact Mw (by omega) (VP hi hk)
theorem Dr.ext(h:Dr p sz s j x d):Ug s (BN s d (AX s d x.n j)):=by
 refine⟨fun i y hy=>?_,fun i y hy=>?_,fun i y hy=>⟨[],?_⟩⟩
 .show(s.am++_)[i]? =_;rw[Bv (AL hy)];exact hy
 .show(s.ce++_)[i]? =_;rw[Bv (AL hy)];exact hy
 .show(s.ac++_)[i]? =_;rw[Bv (AL hy)];simpa using hy
theorem om{s s':CW}(he:Ug s s'){q:HY}{i j:Nat}{g:Ay}{d:Bz}{ch:Ir}(hg:s.ce[i]? =some g)(hd:p.def? g.eq=some d)(hc:d.ac[j]? =some ch)(h1:q.group=i)(h2:q.index=j):HB p s' q=HB p s q:=by
 rw[Tw hg hd hc h1 h2,Tw (he.gr i g hg) hd hc h1 h2]
theorem ya{l:List Cr}(h:Pk l){i:Nat}(h1:1≤i){y:Cr}(hy:l[i]? =some y):KK l y.pp:=by
 have hil:=AL hy;have hc:=h.ws i ⟨by omega,by omega⟩;obtain⟨k,hk⟩: ∃k,l.length=k+1:=⟨l.length-1,by omega⟩;rw[hk]at hc;have:=(P4 (by omega) hc).1
 rwa [EA,show((i:Nat):Int).toNat=i from rfl,hy]at this
theorem pD{nc ns nc' ns':Nat}{n:Int}{m:List CZ}(h1:nc≤nc')(h2:ns≤ns')(h:Ig p nc ns n m=true):Ig p nc' ns' n m=true:=by
 rw[Ig,AS]at*;exact⟨h.1,Fb h1 h2 h.2⟩
theorem qe{s s':CW}(he:Ug s s'){w:L4}(h:Db p sz s w=true):Db p sz s' w=true:=by
 simp only[Db,AS,As,I1]at*;obtain⟨h1,h2,h3,h4,h5,h6⟩:=h;exact⟨Gu he.ns h1,by rw[JH he h1];exact h2,h3,h4,h5,Fb he.nc he.ns h6⟩
theorem Dr.sok'(hF:Bq p sz)(h:Dr p sz s j x d)(hs:(BN s d (AX s d x.n j)).ac.length≤60∧(BN s d (AX s d x.n j)).am.length≤24∧(BN s d (AX s d x.n j)).ce.length≤40):Lq p sz (BN s d (AX s d x.n j)):=by
 have he:=h.ext;have hsm:=h.ol.small;simp only[CW.small,AS,As]at hsm;have hdx:p.def? x.n=some d:=by rw[AK.def?,D7 h.n0];exact h.eq
 have hcl:(BN s d (AX s d x.n j)).ac.length=s.ac.length+d.ac.length:=by simp[BN,Dy]
 have hsl:(BN s d (AX s d x.n j)).am.length=s.am.length+d.am.length:=by simp[BN,DP]
 have htk: ∀i,i≤s.ce.length→(BN s d (AX s d x.n j)).ce.take i=s.ce.take i:=fun i hi=>Lm hi;refine⟨?_,h.tree,fun i y hi hy=>?_,fun i g hg=>?_,?_,fun c q hq=>?_,fun w hw=>qe he (h.ol.wait w hw)⟩
 .simp only[CW.small,AS,As];exact⟨hs.2.1,hs.2.2,hs.1,hsm.2.2.2⟩
 .by_cases hil:i<s.am.length
  .have hy2:s.am[i]? =some y:=by
    have:(s.am++CY d (AX s d x.n j) d.am)[i]? =some y:=hy
    rwa [Bv hil]at this
   rw[JH he (ya h.ol.tree hi hy2)];exact h.ol.dead i y hi hy2
  .right;have:(s.am++CY d (AX s d x.n j) d.am)[i]? =some y:=hy;rw[CS (by omega),CY,D5]at this;cases hz:d.am[i-s.am.length]? with
   |none=>rw[hz]at this;cases this
   |some z=>
    rw[hz]at this;cases this;obtain⟨z0,z1⟩:=IE h.ok.spot _ z hz;have:=AL hz;exact(h.spot (n:=z.pp) z0 (by omega)).2
 .by_cases hil:i<s.ce.length
  .have hg2:s.ce[i]? =some g:=by
    have:(s.ce++[AX s d x.n j])[i]? =some g:=hg
    rwa [Bv hil]at this
   obtain⟨d2,hd2⟩:=h.ol.grp i g hg2;refine⟨d2,hd2.eq,Gu he.ns hd2.at_,hd2.len,Fb he.nc he.ns hd2.of,by rw[htk i (by omega)];exact hd2.wt,fun k ch hk=>?_⟩;obtain⟨q,h1,h2,h3,h4⟩:=hd2.ac k ch hk;obtain⟨l,hl⟩:=he.ch _ q h1;rw[htk i (by omega)];exact⟨_,hl,h2,h3,h4⟩
  .have hg2:(s.ce++[AX s d x.n j])[i]? =some g:=hg;have hlt:=AL hg2;rw[D9,IF]at hlt;obtain rfl:i=s.ce.length:=by omega
   rw[CS (by omega)]at hg2;simp only[Nat.sub_self,F7,CI]at hg2;subst hg2;have e1:(HC p ((BN s d (AX s d x.n j)).ce.take s.ce.length))=(s.ac.length,s.am.length):=by rw[htk _ (by omega),D4,h.ol.tot]
   refine⟨d,hdx,Gu he.ns h.job.at_,?_,by rw[hcl,hsl];exact h.of,by rw[e1];exact h.wt,fun k ch hk=>?_⟩
   .have:=h.grp;rw[show(AX s d x.n j).eq=x.n from rfl,this,h.env];simp
   .rw[e1];refine⟨⟨s.ce.length,k,(AX s d x.n j).place d ch.at_,[]⟩,?_,rfl,rfl,rfl⟩;show(s.ac++EE d (AX s d x.n j) s.ce.length 0 d.ac)[s.ac.length+k]? =_;rw[CS (by omega),Gv,show s.ac.length+k-s.ac.length=k by omega,hk];simp
 .show HC p (s.ce++[AX s d x.n j])=_;rw[Sk p _ _ (d:=d) hdx,h.ol.tot,hcl,hsl]
 .have hq2:(s.ac++EE d (AX s d x.n j) s.ce.length 0 d.ac)[c]? =some q:=hq;by_cases hil:c<s.ac.length
  .rw[Bv hil]at hq2;have hqo:=h.ol.que c q hq2;obtain⟨i,k,g,d2,ch,hc⟩:=Lq.chn h.ol.grp h.ol.tot hq2;have hin:KK s.am q.at_:=cQ hF hc;exact⟨hqo.len,by rw[JH he hin];exact hqo.dead,fun m hm=>by rw[om he hc.grp hc.st.eq hc.cha hc.group hc.index];exact pD he.nc he.ns (hqo.msgs m hm)⟩
  .rw[CS (by omega),Gv]at hq2;cases hz:d.ac[c-s.ac.length]? with
   |none=>rw[hz]at hq2;cases hq2
   |some z=>
    rw[hz]at hq2;cases hq2;exact⟨by simp,.inl rfl,fun m hm=>by cases hm⟩
end
def Ph(s:CW)(e:KD):Prop:=e.deed=5∧KK s.am e.at_∧BU s.am e.at_=false
structure PK(p:AK)(sz:List Int)(st st':CC)(js:List FW):Prop where
 ol:Lq p sz st'.d7
 ext:Ug st.d7 st'.d7
 jobs: ∀j∈js,Br p sz st'.d7 j
 work:st'.work=st.work
 ev: ∃l,st'.ev=st.ev++l∧l.length≤1∧ ∀e∈l,Ph st'.d7 e
structure Iw(p:AK)(sz:List Int)(st st':CC):Prop where
 ol:Lq p sz st'.d7
 ext:Ug st.d7 st'.d7
 work:st.work≤st'.work
 top:st.work≤400→st'.work≤400
 evs: ∃l,st'.ev=st.ev++l∧(l.length:Int)≤st'.work-st.work∧ ∀e∈l,Ph st'.d7 e
theorem Iw.ev{p:AK}{sz:List Int}{st st':CC}(h:Iw p sz st st'):(st'.ev.length:Int)≤st.ev.length+(st'.work-st.work):=by
 obtain⟨l,h1,h2,_⟩:=h.evs;rw[h1,D9];omega
theorem p6{s s':CW}(h:Ug s s'){e:KD}(he:Ph s e):Ph s' e:=⟨he.1,Gu h.ns he.2.1,by rw[JH h he.2.1];exact he.2.2⟩
theorem jc{p:AK}{sz:List Int}{st:CC}(h:Lq p sz st.d7):Iw p sz st st:=⟨h,Gn _,by omega,fun h=>h,[],by simp,by simp,by simp⟩
theorem Qq{p:AK}{sz:List Int}{a b c:CC}(h1:Iw p sz a b)(h2:Iw p sz b c):Iw p sz a c:=by
 obtain⟨l,e1,n1,w1⟩:=h1.evs;obtain⟨m,e2,n2,w2⟩:=h2.evs;refine⟨h2.ol,eY h1.ext h2.ext,by have:=h1.work;have:=h2.work;omega,fun h=>h2.top (h1.top h),l++m,by rw[e2,e1,ES],by rw[D9];omega,fun e he=>?_⟩;rcases F2.1 he with he|he
 .exact p6 h2.ext (w1 e he)
 .exact w2 e he
section
variable{p:AK}{sz:List Int}{st:CC}{j:FW}{x:CT}
theorem pf{s:CW}{n:Nat}{q:HY}(hs:Lq p sz s)(hq:s.ac[n]? =some q){l:List CZ}(hl:q.queue.length<12)(hd:BU s.am q.at_=false)(hm:HB p s q=l.length)(hv:l.all (CZ.inB p s.ac.length s.am.length)=true):QOk p s {q with queue:=q.queue++[l]}:=by
 have h:=hs.que n q hq;refine⟨by simp;omega,.inr hd,fun m hm2=>?_⟩;rcases F2.1 hm2 with h2|h2
 .exact h.msgs m h2
 .rw[Ac]at h2;subst h2;show Ig p _ _ (HB p s q) m=true;rw[Ig,hm,hv];simp
theorem j9(hs:Lq p sz st.d7)(hj:Br p sz st.d7 j)(ha: ∀e∈x.args,e.formed j.env.length=true){st':CC}(h:B0 p x j st=some st'):PK p sz st st' []:=by
 have hv:(x.args.map (·.value j.env)).all (CZ.inB p st.d7.ac.length st.d7.am.length)=true:=by
  rw[CO];intro v hv;obtain⟨e,he,rfl⟩:=ID.1 hv;exact kN hj.of e (ha e he)
 simp only[B0]at h;split at h
 .cases h;exact⟨hs,Gn _,by simp,rfl,_,rfl,by simp,fun e he=>by rw[Ac]at he;subst he;exact⟨rfl,hj.at_,hj.live⟩⟩
 split at h
 .obtain⟨s,hs2,rfl⟩:=BI.1 h;have key:Lq p sz s∧Ug st.d7 s:=by
   rw[K3]at hs2;split at hs2
   .rename_i q hq;split at hs2
    .rename_i hc;rw[Oh]at hs2;split at hs2
     .rename_i hl;cases hs2;exact⟨kC hs hq (pf hs hq hl hc.1 hc.2 hv),eW hq _⟩
     .cases hs2
    .cases hs2;exact⟨hs,Gn _⟩
   .cases hs2;exact⟨hs,Gn _⟩
  exact⟨key.1,key.2,by simp,rfl,[],by simp,by simp,by simp⟩
 .cases h;exact⟨hs,Gn _,by simp,rfl,[],by simp,by simp,by simp⟩
theorem P8(hF:Bq p sz)(hs:Lq p sz st.d7)(hj:Br p sz st.d7 j)(hx:p.nodes[j.node.toNat]? =some x)(ho:x.op=4){st':CC}{js:List FW}(h:Ds p x j st=some (st',js)):PK p sz st st' js:=by
 obtain⟨d,hd⟩:=Yz hF hs hj hx ho;simp only[Ds,hd.eq]at h;split at h
 .rename_i hc;cases h;have he:=hd.ext;have hl:(BN st.d7 d (AX st.d7 d x.n j)).ac.length=st.d7.ac.length+d.ac.length:=by simp[BN,Dy]
  have hsl:(BN st.d7 d (AX st.d7 d x.n j)).am.length=st.d7.am.length+d.am.length:=by simp[BN,DP]
  have hv:(AX st.d7 d x.n j).env.all (CZ.inB p (BN st.d7 d (AX st.d7 d x.n j)).ac.length (BN st.d7 d (AX st.d7 d x.n j)).am.length)=true:=by rw[hl,hsl];exact hd.of
  have hn:((AX st.d7 d x.n j).env.length:Int)=(j.env.length:Int)+d.own:=by rw[hd.env];omega
  refine⟨hd.sok' hF hc,he,fun j' hj'=>?_,rfl,[],by simp,by simp,by simp⟩;rcases F2.1 hj' with hj'|hj'
  .obtain⟨t,y,h1,rfl⟩:=Np hj';have h2:=hd.am y (Ap h1);have h3:=AL h1;have h4:=hd.spot (n:=((0+t:Nat):Int)+1) (by omega) (by omega);exact⟨h2.1,by rw[h2.2,hn],h4.1,h4.2,hv⟩
  .obtain⟨k,hk,k0,k1⟩:=hd.kid;rw[A6,hk]at hj';simp only[F7,Ac]at hj';subst hj';exact⟨k0,by rw[k1,hn],Gu he.ns hj.at_,by rw[JH he hj.at_];exact hj.live,hv⟩
 .cases h
theorem cA(hs:Lq p sz st.d7)(hj:Br p sz st.d7 j)(hx:p.nodes[j.node.toNat]? =some x)(ho:ED x.op=true){st':CC}(h:Dw j st=some st'):PK p sz st st' []:=by
 rw[Dw]at h;split at h
 .rename_i hc;cases h;refine⟨kD hs (by simp;omega) fun w hw=>?_,⟨fun _ _ h=>h,fun _ _ h=>h,fun c q hq=>⟨[],by simpa using hq⟩⟩,by simp,rfl,[],by simp,by simp,by simp⟩;rcases F2.1 hw with hw|hw
  .exact hs.wait w hw
  .rw[Ac]at hw;subst hw;simp only[Db,hj.live,hj.of,hx,ho,hj.size,AS,As,I1,GS];exact⟨hj.at_,trivial,hj.n0,trivial,trivial,trivial⟩
 .cases h
theorem Y2(hF:Bq p sz)(hs:Lq p sz st.d7)(hj:Br p sz st.d7 j){st':CC}{js:List FW}(h:JK p j st=some (st',js)):PK p sz st st' js:=by
 obtain⟨x,l,hx,hok,hsub,hq,_⟩:=Kk hF hj;simp only[JK,hx]at h;have kids: ¬x.op=4→ ∀k,∀j'∈A6 x k j.at_ j.env,Br p sz st.d7 j':=fun ho k=>J3 hj ho hsub hq k;split at h
 .rename_i ho;obtain⟨s,hs2,e⟩:=BI.1 h;cases e;simp only[CV,AS,CO]at hok;exact j9 hs hj (fun e he=>by have:=hok.2.2.2 e he;simp only[BM.ok,AS]at this;exact this.2.2) hs2
 split at h
 .rename_i ho;cases h;refine⟨hs,Gn _,fun j' hj'=>?_,rfl,[],by simp,by simp,by simp⟩;rcases F2.1 hj' with hj'|hj'
  .exact kids (by omega) 0 j' hj'
  .exact kids (by omega) 1 j' hj'
 split at h
 .rename_i ho;exact P8 hF hs hj hx ho h
 split at h
 .rename_i ho4 ho;cases h;exact⟨hs,Gn _,kids ho4 _,rfl,[],by simp,by simp,by simp⟩
 split at h
 .rename_i ho;obtain⟨s,hs2,e⟩:=BI.1 h;cases e;exact cA hs hj hx ho hs2
 .cases h;exact⟨hs,Gn _,by simp,rfl,[],by simp,by simp,by simp⟩
end
theorem SV{p:AK}{sz:List Int}{f:FW→CC→Option CC}(hf: ∀j st st',Lq p sz st.d7→Br p sz st.d7 j→f j st=some st'→Iw p sz st st'): ∀(l:List FW) (st st':CC),Lq p sz st.d7→(∀j∈l,Br p sz st.d7 j)→Bj f l st=some st'→Iw p sz st st'
 |[],st,st',hs,_,h=>by cases h;exact jc hs
 |j::l,st,st',hs,hj,h=>by
  rw[Bj]at h;obtain⟨st1,h1,h2⟩:=HM.1 h;have hp:=hf j st st1 hs (hj j (by simp)) h1;exact Qq hp (SV hf l st1 st' hp.ol (fun j' hj'=>J2 (hj j' (by simp[hj'])) hp.ext) h2)
theorem Gl{p:AK}{sz:List Int}(hF:Bq p sz): ∀(k:Nat) (j:FW) (st st':CC),Lq p sz st.d7→Br p sz st.d7 j→Dg p k j st=some st'→Iw p sz st st'
 |0,j,st,st',_,_,h=>by cases h
 |k+1,j,st,st',hs,hj,h=>by
  rw[Dg]at h;split at h
  .rename_i hw;cases hd:JK p j {st with work:=st.work+1}with
   |none=>rw[hd]at h;cases h
   |some r=>
    obtain⟨st1,js⟩:=r;rw[hd]at h;have hp:=Y2 (st:={st with work:=st.work+1}) hF hs hj hd
    obtain⟨l,e1,e2,e3⟩:=hp.ev;have w1:st1.work=st.work+1:=hp.work;refine Qq (b:=st1) ⟨hp.ol,hp.ext,by omega,by omega,l,e1,by omega,e3⟩ (SV (fun j st st'=>Gl hF k j st st') js st1 st' hp.ol hp.jobs h)
  .cases h
theorem B6{π:List Nat}{n n':Nat}{id:Abs.Id}(h:Id.under (n::π) id=true)(h':Id.under (n'::π) id=true):n=n':=by
 rw[under_iff]at h h';have:=List.suffix_of_suffix_length_le h h' (by simp);have:=this.eq_of_length (by simp);simpa using this
structure B5(B:MV→Int→List AV)(c:Bool)(π:List Nat)(m:Abs.Id)(V:MV)(h:AB)(b:Nat)(V':MV)(st:CC)(g:AB):Prop where
 rep:EY B c g m V' st
 ids: ∀id∈V'.ids m,id∈V.ids m∨ ∃n,n<b∧Id.under (n::π) id=true∧ ∃l,id=1::l
 frame: ∀id,id∉V.ids m→Id.under π id=false→g.get id=h.get id
abbrev IL(p:AK)(sz:List Int):=B5 (BS p sz) true
section
variable{p:AK}{sz:List Int}{B:MV→Int→List AV}{c:Bool}{π:List Nat}{m:Abs.Id}{V V':MV}{h g H g1:AB}{b:Nat}{st:CC}
theorem HS{b':Nat}{id:Abs.Id}(hu:B4 π V m)(hi:id∈V.ids m∨ ∃n,n<b∧Id.under (n::π) id=true∧ ∃l,id=1::l)(a n:Nat)(hn:b≤n):Id.is (a::n::π) id=false:=by
 rcases hi with hi|⟨k,hk,hk2,_⟩
 .exact AE (hu id hi) a n
 .refine AF fun e=>?_;subst e;have:=B6 hk2 (n':=n) (under_iff.2 ⟨[a],rfl⟩);omega
theorem JX{id:Abs.Id}(hu:B4 π V m)(hi:id∈V.ids m∨ ∃n,n<b∧Id.under (n::π) id=true∧ ∃l,id=1::l)(a n:Nat)(hn:b≤n):Id.is id (a::n::π)=false:=by
 have:=HS (b':=b) hu hi a n hn;exact AF fun e=>by rw[e,is_self]at this;cases this
theorem OT(hM:EY B c h m V st)(hu:B4 π V m)(hl: ∀id,Id.under π id=false→g.get id=h.get id):B5 B c π m V h 0 V st g:=
 ⟨GL hM hu hl,fun id hid=>.inl hid,fun id _ hh=>hl id hh⟩
theorem B5.up(hr:B5 B c π m V h b V' st g){b':Nat}(hb:b≤b'):B5 B c π m V h b' V' st g:=
 ⟨hr.rep,fun id hid=>(hr.ids id hid).imp_right fun⟨n,h1,h2⟩=>⟨n,by omega,h2⟩,hr.frame⟩
theorem B5.loc(hu:B4 π V m)(hr:B5 B c π m V h b V' st g)(hl: ∀id,(∀a n,b≤n→Id.is (a::n::π) id=false)→H.get id=g.get id):B5 B c π m V h b V' st H:=
 ⟨DJ hr.rep fun id hid=>hl id fun a n hn=>HS (b':=b) hu (hr.ids id hid) a n hn,hr.ids,fun id h1 h2=>by rw[hl id fun a n _=>AE h2 a n];exact hr.frame id h1 h2⟩
variable{n:Nat}
theorem B5.apart(hu:B4 π V m)(hr:B5 B c π m V h b V' st g)(hn:b≤n):B4 (n::π) V' m:=fun id hid=>by
 rcases hr.ids id hid with hh|⟨k,h1,h2,_⟩
 .exact AH (hu id hh) n
 .cases hx:Id.under (n::π) id with
  |false=>rfl
  |true=>
   have:=B6 h2 hx;omega
theorem B5.fin(hr:IL p sz π m V h b V' st g):GF p sz π m V h (some st) (.ret (.f8 [])) g:=
 ⟨rfl,V',hr.rep,fun id hid=>(hr.ids id hid).imp_right fun⟨n,_,h2,h3⟩=>⟨BB h2,h3⟩,hr.frame⟩
variable{st':CC}
theorem B5.callL(hu:B4 π V m)(hr:B5 B c π m V h b V' st H)(hn:b≤n)(ho:Ji B c (Id.under (n::π)) m V' H st' g1): ∃V'',B5 B c π m V h (n+1) V'' st' (gc (n::π) g1)∧ ∀id,id∉V'.ids m→Id.under (n::π) id=false→id∉V''.ids m:=by
 obtain⟨V'',hM,hK⟩:=ho;have hap:=hr.apart hu hn;refine⟨V'',⟨PW hM hK hap,fun id hid=>?_,fun id h1 h2=>?_⟩,fun id h1 h2 h3=>?_⟩
 .rcases hK.ids id hid with hh|⟨h1,h2⟩
  .exact(hr.ids id hh).imp_right fun⟨k,a,c⟩=>⟨k,by omega,c⟩
  .exact .inr ⟨n,by omega,h1,h2⟩
 .rw[Ag _ _ _ (AH h2 n),hK.frame id (fun hh=>?_) (AH h2 n)]
  .exact hr.frame id h1 h2
  .rcases hr.ids id hh with hh|⟨k,_,h3,_⟩
   .exact h1 hh
   .rw[BB h3]at h2;cases h2
 .rcases hK.ids id h3 with hh|⟨hh,_⟩
  .exact h1 hh
  .rw[h2]at hh;cases hh
theorem B5.call(hu:B4 π V m)(hr:IL p sz π m V h b V' st H){o:Ae}(hn:b≤n)(ho:GF p sz (n::π) m V' H (some st') o g1): ∃V'',IL p sz π m V h (n+1) V'' st' (gc (n::π) g1)∧ ∀id,id∉V'.ids m→Id.under (n::π) id=false→id∉V''.ids m:=hr.callL hu hn ho.2
theorem B5.em(hu:B4 π V m)(hr:IL p sz π m V h b V' st H){o:Ae}(hn:b≤n)(ho:GF p sz (n::π) m V' H none o g1):GF p sz π m V h none o (gc (n::π) g1):=by
 obtain⟨h1,h2⟩:=ho;refine⟨h1,fun id a c=>?_⟩;rw[Ag _ _ _ (AH c n),h2 id (fun hh=>?_) (AH c n)]
 .exact hr.frame id a c
 .rcases hr.ids id hh with hh|⟨k,_,h3,_⟩
  .exact a hh
  .rw[BB h3]at c;cases c
variable{r:Option CC}
theorem iz{o:Ae}(ho:GF p sz (n::π) m V' H r o g1){id:Abs.Id}(h1:id∉V'.ids m)(h2:Id.under (n::π) id=false):(gc (n::π) g1).get id=H.get id:=by
 rw[Ag _ _ _ h2];cases r with
 |none=>exact ho.2 _ h1 h2
 |some st'=>
  obtain⟨_,V'',_,hK⟩:=ho;exact hK.frame _ h1 h2
theorem HK(hr:B5 B c π m V h b V' st H)(hu:B4 π V m)(k:Nat):0::k::π∉V'.ids m:=fun hh=>by
 rcases hr.ids _ hh with hh|⟨_,_,_,l,e⟩
 .have:=hu _ hh;rw[show Id.under π (0::k::π)=true from under_iff.2 ⟨[0,k],rfl⟩]at this;cases this
 .cases e
variable{k:Nat}
theorem BH(π:List Nat)(h:k≠n):Id.under (n::π) (0::k::π)=false:=by
 cases hx:Id.under (n::π) (0::k::π)with
 |false=>rfl
 |true=>
  have:=B6 hx (n':=k) (under_iff.2 ⟨[0],rfl⟩);omega
theorem B5.box(hu:B4 π V m)(hr:IL p sz π m V h b V' st H){o:Ae}(hk:k≠n)(ho:GF p sz (n::π) m V' H r o g1):(gc (n::π) g1).get (0::k::π)=H.get (0::k::π):=by
 have h1:=BH π hk;rw[Ag _ _ _ h1];have h2:=HK hr hu k;cases r with
 |none=>exact ho.2 _ h2 h1
 |some st'=>
  obtain⟨_,V'',_,hK⟩:=ho;exact hK.frame _ h2 h1
end
def Hl(p:AK)(sz:List Int)(k:Nat):Prop:= ∀(h:AB) (π:List Nat) (m:Abs.Id) (V:MV) (st:CC) (j:FW),KP p sz h m V st→B4 π V m→Lq p sz st.d7→Br p sz st.d7 j→0≤st.work→st.work≤400→401≤st.work+k→(st.ev.length:Int)≤900000+st.work→
 ∃o h',KL Tryz.prog cfg (.fn 66) [.ptr m 0,.d (.int .i64 j.node),.d (.int .i64 j.at_),.d (.be (j.env.map AI))] h π true none=.ok (o,h')∧GF p sz π m V h (Dg p k j st) o h'
structure Iv(p:AK)(sz:List Int)(k:Nat)(st:CC):Prop where
 ol:Lq p sz st.d7
 w0:0≤st.work
 w1:st.work≤400
 w2:401≤st.work+k
 ev:(st.ev.length:Int)≤900000+st.work
theorem Iv.post{p:AK}{sz:List Int}{k:Nat}{st st':CC}(h:Iv p sz k st)(hp:Iw p sz st st'):Iv p sz k st':=⟨hp.ol,by have:=hp.work;have:=h.w0;omega,hp.top h.w1,by have:=hp.work;have:=h.w2;omega,by have:=hp.ev;have:=h.ev;omega⟩
end Go.Proofs
namespace Go.Abs
def YK:Nat→Code→Code
 |n+1,.seq _ y=>YK n y
 |_,c=>c
def PG:Nat→Code→Code→Code
 |n+1,.seq x y,t=>.seq x (PG n y t)
 |0,_,t=>t
 |_,c,_=>c
theorem mG: ∀(n:Nat) (c:Code),PG n c (YK n c)=c
 |0,c=>by cases c<;>rfl
 |n+1,c=>by
  cases c with
  |seq x y=>rw[YK,PG,mG n y]
  |_=>rfl
theorem RA{C:CA}{K:AJ}{fr:Fr}{b:Nat}{c:Code}{st:St}{Q:Dc→St→Prop}(n:Nat)(h: ∀T,T=YK n c→Wp C K fr b (PG n c T) st Q):Wp C K fr b c st Q:=by
 have:=h _ rfl
 rwa [mG]at this
end Go.Abs
namespace Go.Proofs
open Go Go.Abs
noncomputable def HP(b b':Nat)(π:List Nat)(id:Abs.Id):Bool:= @decide (∃n,b≤n∧n<b'∧Id.under (n::π) id=true) (Classical.propDecidable _)
variable{b b':Nat}{π:List Nat}
theorem JW{id:Abs.Id}:HP b b' π id=true↔ ∃n,b≤n∧n<b'∧Id.under (n::π) id=true:=by
 unfold HP;rw[@decide_eq_true_eq _ (Classical.propDecidable _)]
theorem BO{b b':Nat}{π:List Nat}{id:Abs.Id}(h:HP b b' π id=false)(a n:Nat)(h1:b≤n)(h2:n<b'):Id.is (a::n::π) id=false:=AF fun e=>by
 subst e;have:HP b b' π (a::n::π)=true:=JW.2 ⟨n,h1,h2,under_iff.2 ⟨[a],rfl⟩⟩;rw[h]at this;cases this
theorem EU(n:Nat)(l:List Nat)(h1:b≤n)(h2:n<b'):HP b b' π (l++n::π)=true:=JW.2 ⟨n,h1,h2,under_iff.2 ⟨l,rfl⟩⟩
section
variable{p:AK}{sz:List Int}{B:MV→Int→List AV}{c:Bool}{π:List Nat}{m:Abs.Id}{V V':MV}{h g H g1:AB}{b b':Nat}{st st':CC}
theorem B5.apartB(hu:B4 π V m)(hr:B5 B c π m V h b V' st g):KM (HP b b' π) V' m:=fun id hid=>by
 cases hx:HP b b' π id with
 |false=>rfl
 |true=>
  obtain⟨n,h1,_,h2⟩:=JW.1 hx;rcases hr.ids id hid with hh|⟨k,h3,h4,_⟩
  .have:=hu id hh;rw[BB h2]at this;cases this
  .have:=B6 h4 h2;omega
theorem B5.step(hb:b≤b')(hr:B5 B c π m V h b V' st g)(hp:Ji B c (HP b b' π) m V' g st' H): ∃V2,B5 B c π m V h b' V2 st' H∧ ∀id,id∉V'.ids m→HP b b' π id=false→id∉V2.ids m:=by
 obtain⟨V2,hM,hK⟩:=hp;refine⟨V2,⟨hM,fun id hid=>?_,fun id h1 h2=>?_⟩,fun id h1 h2 h3=>?_⟩
 .rcases hK.ids id hid with hh|⟨hh,hl⟩
  .exact(hr.ids id hh).imp_right fun⟨n,a,c⟩=>⟨n,by omega,c⟩
  .obtain⟨n,_,h2,h3⟩:=JW.1 hh;exact .inr ⟨n,h2,h3,hl⟩
 .have hnb:HP b b' π id=false:=by
   cases hx:HP b b' π id with
   |false=>rfl
   |true=>
    obtain⟨n,_,_,h3⟩:=JW.1 hx;rw[BB h3]at h2;cases h2
  rw[hK.frame id (fun hh=>?_) hnb]
  .exact hr.frame id h1 h2
  .rcases hr.ids id hh with hh|⟨k,_,h3,_⟩
   .exact h1 hh
   .rw[BB h3]at h2;cases h2
 .rcases hK.ids id h3 with hh|⟨hh,_⟩
  .exact h1 hh
  .rw[h2]at hh;cases hh
end
theorem pF{b b' n:Nat}{π:List Nat}{id:Abs.Id}(hn:n<b)(hu:Id.under (n::π) id=true):HP b b' π id=false:=by
 cases hx:HP b b' π id with
 |false=>rfl
 |true=>
  obtain⟨k,h1,_,h2⟩:=JW.1 hx;have:=B6 hu h2;omega
theorem VK{B:MV→Int→List AV}{c:Bool}{N:Abs.Id→Bool}{h:AB}{m:Abs.Id}{V:MV}{st:CC}(hM:EY B c h m V st)(hu:KM N V m){q:HY}(hq:q.queue=[])(A:Abs.Id)(h':AB)
 (a1:h'.get m=some (.box (B {V with v3:=.d8 A 0 (V.rows.length+1)} st.work))) (a0:h'.get A=some (.arr 4 (V.rows++[Ah q .ci]))) (a3:N A=true∧ ∃l,A=1::l)
 (a4: ∀id,Id.is m id=false→(∀id2∈AD V.v3,Id.is id2 id=false)→N id=false→h'.get id=h.get id):Ji B c N m V h {st with d7:={st.d7 with ac:=st.d7.ac++[q]}} h':=by
 have hfr: ∀id,id≠m→id∉AD V.v3→N id=false→h'.get id=h.get id:=fun id b1 b2 b3=>a4 id (AF fun e=>b1 e.symm) (fun id2 hid=>AF fun e=>b2 (by rw[←e];exact hid)) b3;have hids:(V.rows++[Ah q .ci]).flatMap A5=V.rows.flatMap A5:=by simp[Cc,AD]
 refine O0 (v3:=.d8 A 0 (V.rows.length+1)) (rows:=V.rows++[Ah q .ci]) hM hu (a1.trans (by rw[←hM.inv {V with v3:=.d8 A 0 (V.rows.length+1)} (V.rows++[Ah q .ci]) st.work])) (.inr ⟨A,by simp,a0⟩) ⟨by simp[hM.ac.len],fun j q2 hj=>?_⟩ (by rw[hids];exact hM.qd) (fun id hid=>?_) (fun j hj=>by match j,hj with|0,_|1,_|2,_|3,_=>rfl) fun id b1 b2 _ b4=>hfr id b1 b2 b4
 .have hj2:(st.d7.ac++[q])[j]? =some q2:=hj;have hl:=hM.ac.len;by_cases hjl:j<st.d7.ac.length
  .rw[Bv hjl]at hj2;obtain⟨v,h1,h2⟩:=hM.ac.row j q2 hj2;refine⟨v,by rw[Bv (by omega)];exact h1,IC h2 fun id hid=>?_⟩;have hmem:id∈V.rows.flatMap A5:=By.2 ⟨_,Ap h1,by rw[Cc];exact hid⟩;obtain⟨x,hx⟩:=Fv h2 hid;refine hfr id (fun e=>?_) (fun e=>?_) (hu _ (V.row_mem m hmem))
   .rw[e,hM.box]at hx;cases hx
   .rw[GW hM.arr e]at hx;cases hx
  .have hlt:=AL hj2;rw[D9,IF]at hlt;obtain rfl:j=st.d7.ac.length:=by omega
   rw[CS (by omega)]at hj2;simp only[Nat.sub_self,F7,CI]at hj2;subst hj2;exact⟨.ci,by rw[CS (by omega),hl];simp,MY (.inl ⟨rfl,by rw[hq];rfl⟩)⟩
 .rw[hids]at hid;rcases hid with hid|hid
  .simp only[AD,Ac]at hid;rw[hid];exact .inr a3
  .exact .inl (.inr hid)
structure Mh(p:AK)(sz:List Int)(π:List Nat)(m:Abs.Id)(V:MV)(h:AB)(b n:Nat)(V':MV)(g:AB)(r:Option CC)(o:Ae)(g':AB):Prop where
 box: ∀k,k<b→g'.get (0::k::π)=g.get (0::k::π)
 ne: ∀i,i∉V'.ids m→(∀a k,b≤k→Id.is (a::k::π) i=false)→Id.under (n::π) i=false→g'.get i=g.get i
 em:r=none→o=.em (CQ 3)∧GF p sz π m V h none o g'
 ret: ∀st2,r=some st2→o=.ret (.f8 [])∧ ∃V2,IL p sz π m V h (n+1) V2 st2 g'∧ ∀i,i∉V'.ids m→Id.under (n::π) i=false→i∉V2.ids m
theorem dh{p:AK}{sz:List Int}{π:List Nat}{m:Abs.Id}{V V':MV}{h g H g1:AB}{b n:Nat}{st:CC}{r:Option CC}{o:Ae}(hu:B4 π V m)(hr:IL p sz π m V h b V' st g)(hl: ∀id,(∀a n,b≤n→Id.is (a::n::π) id=false)→H.get id=g.get id)(hn:b≤n)(ho:GF p sz (n::π) m V' H r o g1):Mh p sz π m V h b n V' g r o (gc (n::π) g1):=by
 have hr2:=hr.loc hu hl;refine⟨fun k hk=>?_,fun i h1 h2 h3=>?_,fun e=>?_,fun st2 e=>?_⟩
 .rw[hr2.box hu (by omega) ho];exact hl _ fun a n hn=>AF fun e=>by simp at e;omega
 .rw[iz ho h1 h3];exact hl i h2
 .subst e;exact⟨ho.1,hr2.em hu hn ho⟩
 .subst e;exact⟨ho.1,hr2.call hu hn ho⟩
theorem SE{p:AK}{sz:List Int}{k:Nat}(IH0:Hl p sz k){π:List Nat}{m:Abs.Id}{V V':MV}{h g:AB}{b:Nat}{st:CC}(hu:B4 π V m)(hr:IL p sz π m V h b V' st g)(hI:Iv p sz k st){j:FW}(hj:Br p sz st.d7 j)(H:AB)(n:Nat)(hn:b≤n)(hl: ∀id,(∀a n,b≤n→Id.is (a::n::π) id=false)→H.get id=g.get id):
 ∃o g1,KL Tryz.prog cfg (.fn 66) [.ptr m 0,.d (.int .i64 j.node),.d (.int .i64 j.at_),.d (.be (j.env.map AI))] H (n::π) true none=.ok (o,g1)∧Mh p sz π m V h b n V' g (Dg p k j st) o (gc (n::π) g1):=by
 have hr2:=hr.loc hu hl;obtain⟨o,g1,h1,h2⟩:=IH0 H (n::π) m V' st j hr2.rep (hr2.apart hu hn) hI.ol hj hI.w0 hI.w1 hI.w2 hI.ev;exact⟨o,g1,h1,dh hu hr hl hn h2⟩
end Go.Proofs
namespace Go.Proofs
open Go Go.Abs
set_option maxRecDepth 100000
set_option maxHeartbeats 4000000
@[go_sem] theorem AAU(n m:Int):BJ (KL Tryz.prog cfg) 58 [.d (.int .i64 n),.d (.int .i64 m)] []=Bg (CQ 3) (decide (n≤m)):=by
  by_cases h:n≤m
  .rw[DO h,KB]
   (refine Ao rfl Tryz.func58 rfl rfl rfl ?_;show Wp _ _ _ _ (Tryz.f58.body.get rfl) _ _;simp only[Tryz.f58,AP])
   (repeat' (first|simp only[go_sem, *]|(refine sx ?_ ?_<;>intro hc)|refine sy (by omega) fun x hx hm=>?_|simp(disch:=first|assumption|omega) only[AG]))
   all_goals omega
  .rw[Cs h,Iq]
   (refine Ao rfl Tryz.func58 rfl rfl rfl ?_;show Wp _ _ _ _ (Tryz.f58.body.get rfl) _ _;simp only[Tryz.f58,AP])
   (repeat' (first|simp only[go_sem, *]|(refine sx ?_ ?_<;>intro hc)|refine sy (by omega) fun x hx hm=>?_|simp(disch:=first|assumption|omega) only[AG]))
   all_goals omega
theorem Vf{p:AK}{sz:List Int}{h:AB}{π:List Nat}{m:Abs.Id}{V:MV}{st:CC}(hM:KP p sz h m V st)(hu:B4 π V m)(d a n r:Int)(l:List CZ)(hl:l.length≤1000000)(he:st.ev.length≤1000000):
 ∃o h',KL Tryz.prog cfg (.fn 103) [.ptr m 0,.d (.int .i64 (d)),.d (.int .i64 (a)),.d (.int .i64 (n)),.d (.int .i64 (r)),.d (.be (l.map AI))] h π true none=.ok (o,h')∧GF p sz π m V h (some {st with ev:=st.ev++[⟨d,a,n,r,l⟩]}) o h':=by
 have go:=AA.mk (G4 (st':={st with ev:=st.ev++[⟨d,a,n,r,l⟩]}) 3 (by omega) hM hu (v8 rfl) rfl)
 have hm:=hM.box;have um:=hu m (V.m_mem m);have hv:=hM.sl 3 (by omega);have hw:=fun id hid=>hu id (V.s_mem m (i:=3) (by omega) hid);simp only[BS]at hm;simp only[Er,Ad]at hv;have e1:=AE um;have e2:=AZ um;have e3:=C1 um;have e4:=Gw um;have h1:=Lk l hl;replace hM:=AA.mk hM;replace hu:=AA.mk hu;rcases hv with⟨hv,hz⟩|⟨id,x,hv,hg⟩
 .rw[hv]at hm;replace hz:=AA.mk (F9.1 hz);replace hw:=AA.mk hw;by_cases h0:l.length=0;all_goals
   (first|(obtain rfl:=CE h0;simp only[Io,C7,Be]at h1)|simp only[Dm h0]at h1);have fa:=CP
   (refine Aa rfl Tryz.func103 rfl rfl rfl ?_;show Wp _ _ _ _ (Tryz.f103.body.get rfl) _ _;simp only[Tryz.f103,AP])
   refine ax ?_;refine⟨rfl,?_⟩
   (refine go.out (.d8 (1::13::π) 0 1) _ ?_ (Aq [] (by simp[Ad,hz.out]) ?_) (.inr fun id2 hid=>?_) (fun id2 b1 b2 b3=>?_);all_goals (try simp only[Ad,Er,hz.out,Ex]);all_goals (first|(simp only[AD,Ac]at hid;subst hid;exact⟨A4 [1,13],_,rfl⟩)|(have q1:=AE b3;have q3:=C1 b3;simp only[go_sem,q1,q3,b1,AM];done)|(simp;done)|(simp only[go_sem,e1,e2,e3,e4,BV,Be,AM];first|done|rfl)))
 .rw[hv]at hm;have ui:=hw id (by rw[hv];simp[AD]);have i1:=AE ui;have i2:=AZ ui;have i3:=C1 ui;have i4:=Gw ui;replace hw:=AA.mk hw;simp only[Bi]at hm;have him:Id.is id m=false:=AF fun e=>by rw[e,hm]at hg;cases hg
  have hmi:Id.is m id=false:=AF fun e=>by rw[←e,hm]at hg;cases hg
  replace hv:=AA.mk hv;have n1: ∀v,v=.d8 id 0 (st.ev.length+1)→AD v=AD (V.s 3):=fun v e=>by rw[e,hv.out];rfl
  have n2: ∀id3,(∀id2∈AD (V.s 3),Id.is id2 id3=false)→Id.is id id3=false:=fun id3 b=>b id (by rw[hv.out];simp[AD]);by_cases h0:l.length=0;all_goals rcases x with _|⟨y,x⟩
  all_goals
   (first|(obtain rfl:=CE h0;simp only[Io,C7,Be]at h1)|simp only[Dm h0]at h1);have fa:=CP
   (refine Aa rfl Tryz.func103 rfl rfl rfl ?_;show Wp _ _ _ _ (Tryz.f103.body.get rfl) _ _;simp only[Tryz.f103,AP])
   refine ax ?_;refine⟨rfl,?_⟩
   (first|(refine go.out (.d8 (1::13::π) 0 (st.ev.length+1)) _ ?_ (Aq [] ?_ ?_) (.inr fun id2 hid=>?_) (fun id2 b1 b2 b3=>?_);all_goals (try simp only[Ad,Er]);all_goals (first|(simp only[AD,Ac]at hid;subst hid;exact⟨A4 [1,13],_,rfl⟩)|(have q1:=AE b3;have q3:=C1 b3;have q5:=n2 _ b2;simp only[go_sem,q1,q3,b1,q5,AM];done)|(simp;done)|(simp only[go_sem,e1,e2,e3,e4,i1,i2,i3,i4,him,hmi,BV,Be,AM];first|done|rfl));done)|(refine go.out (.d8 id 0 (st.ev.length+1)) _ ?_ (Aq x ?_ ?_) (.inl (n1 _ rfl)) (fun id2 b1 b2 b3=>?_);all_goals (try simp only[Ad,Er]);all_goals (first|(simp only[AD,Ac]at hid;subst hid;exact⟨A4 [1,13],_,rfl⟩)|(have q1:=AE b3;have q3:=C1 b3;have q5:=n2 _ b2;simp only[go_sem,q1,q3,b1,q5,AM];done)|(simp;done)|(simp only[go_sem,e1,e2,e3,e4,i1,i2,i3,i4,him,hmi,BV,Be,AM];first|done|rfl))))
theorem vX{p:AK}{sz:List Int}{h:AB}{π:List Nat}{m:Abs.Id}{V:MV}{st:CC}(hM:KP p sz h m V st)(hu:B4 π V m)(j:FW)(hl:j.env.length≤1000000)(he:st.d7.waits.length≤1000000):
 ∃o h',KL Tryz.prog cfg (.fn 114) [.ptr m 0,.agg [.d (.int .i64 (j.node)),.d (.int .i64 (j.at_)),.d (.be (j.env.map AI))]] h π true none=.ok (o,h')∧GF p sz π m V h (Dw j st) o h':=by
 have go:=AA.mk (G4 (st':={st with d7:={st.d7 with waits:=st.d7.waits++[⟨j.at_,j.node,j.env⟩]}}) 2 (by omega) hM hu (wC rfl rfl rfl) rfl)
 have gf:=AA.mk fun v h' a1 a2 a3 a4=>Kq (go.out v h' a1 a2 a3 a4);have hd:AA (Dw j st=if st.d7.waits.length<40 then some {st with d7:={st.d7 with waits:=st.d7.waits++[⟨j.at_,j.node,j.env⟩]}}else none):=⟨rfl⟩
 have hm:=hM.box;have um:=hu m (V.m_mem m);have hv:=hM.sl 2 (by omega);have hw:=fun id hid=>hu id (V.s_mem m (i:=2) (by omega) hid);simp only[BS]at hm;simp only[Er,Ad]at hv;have e1:=AE um;have e2:=AZ um;have e3:=C1 um;have e4:=Gw um;have h1:=Lk j.env hl;replace hM:=AA.mk hM;replace hu:=AA.mk hu;rcases hv with⟨hv,hz⟩|⟨id,x,hv,hg⟩
 .rw[hv]at hm;replace hz:=AA.mk (F9.1 hz);replace hw:=AA.mk hw;obtain⟨jn,ja,l⟩:=j;dsimp only at*;by_cases h0:l.length=0;all_goals
   (first|(obtain rfl:=CE h0;simp only[Io,C7,Be]at h1)|simp only[Dm h0]at h1);have fa:=CP
   (refine Aa rfl Tryz.func114 rfl rfl rfl ?_;show Wp _ _ _ _ (Tryz.f114.body.get rfl) _ _;simp only[Tryz.f114,AP])
   refine ax ?_;rw[hd.out,D7 (by rw[hz.out];decide)];refine⟨rfl,?_⟩
   (refine go.out (.d8 (1::16::π) 0 1) _ ?_ (Aq [] (by simp[Ad,hz.out]) ?_) (.inr fun id2 hid=>?_) (fun id2 b1 b2 b3=>?_);all_goals (try simp only[Ad,Er,hz.out,Ex]);all_goals (first|(simp only[AD,Ac]at hid;subst hid;exact⟨A4 [1,16],_,rfl⟩)|(have q1:=AE b3;have q3:=C1 b3;simp only[go_sem,q1,q3,b1,AM];done)|(simp;done)|(simp only[go_sem,e1,e2,e3,e4,BV,Be,AM];first|done|rfl)))
 .rw[hv]at hm;have ui:=hw id (by rw[hv];simp[AD]);have i1:=AE ui;have i2:=AZ ui;have i3:=C1 ui;have i4:=Gw ui;replace hw:=AA.mk hw;simp only[Bi]at hm;have him:Id.is id m=false:=AF fun e=>by rw[e,hm]at hg;cases hg
  have hmi:Id.is m id=false:=AF fun e=>by rw[←e,hm]at hg;cases hg
  replace hv:=AA.mk hv;have n1: ∀v,v=.d8 id 0 (st.d7.waits.length+1)→AD v=AD (V.s 2):=fun v e=>by rw[e,hv.out];rfl
  have n2: ∀id3,(∀id2∈AD (V.s 2),Id.is id2 id3=false)→Id.is id id3=false:=fun id3 b=>b id (by rw[hv.out];simp[AD]);obtain⟨jn,ja,l⟩:=j;dsimp only at*;by_cases h0:l.length=0;all_goals rcases x with _|⟨y,x⟩
  all_goals
   (first|(obtain rfl:=CE h0;simp only[Io,C7,Be]at h1)|simp only[Dm h0]at h1);have fa:=CP
   (refine Aa rfl Tryz.func114 rfl rfl rfl ?_;show Wp _ _ _ _ (Tryz.f114.body.get rfl) _ _;simp only[Tryz.f114,AP])
   (repeat' (first|simp only[go_sem, *,AM]|(refine sx ?_ ?_<;>intro hc)|refine sy (by omega) fun x hx hm=>?_|simp(disch:=first|assumption|omega) only[AG]))
   all_goals rw[hd.out]
   .rw[D7 (by omega)];refine⟨rfl,?_⟩
    (first|(refine go.out (.d8 (1::16::π) 0 (st.d7.waits.length+1)) _ ?_ (Aq [] ?_ ?_) (.inr fun id2 hid=>?_) (fun id2 b1 b2 b3=>?_);all_goals (try simp only[Ad,Er]);all_goals (first|(simp only[AD,Ac]at hid;subst hid;exact⟨A4 [1,16],_,rfl⟩)|(have q1:=AE b3;have q3:=C1 b3;have q5:=n2 _ b2;simp only[go_sem,q1,q3,b1,q5,AM];done)|(simp;done)|(simp only[go_sem,e1,e2,e3,e4,i1,i2,i3,i4,him,hmi,BV,Be,AM];first|done|rfl));done)|(refine go.out (.d8 id 0 (st.d7.waits.length+1)) _ ?_ (Aq x ?_ ?_) (.inl (n1 _ rfl)) (fun id2 b1 b2 b3=>?_);all_goals (try simp only[Ad,Er]);all_goals (first|(simp only[AD,Ac]at hid;subst hid;exact⟨A4 [1,16],_,rfl⟩)|(have q1:=AE b3;have q3:=C1 b3;have q5:=n2 _ b2;simp only[go_sem,q1,q3,b1,q5,AM];done)|(simp;done)|(simp only[go_sem,e1,e2,e3,e4,i1,i2,i3,i4,him,hmi,BV,Be,AM];first|done|rfl))))
   .rw[D3 (by omega)];refine⟨rfl,?_⟩;replace go:=gf
    (first|(refine go.out (.d8 (1::16::π) 0 (st.d7.waits.length+1)) _ ?_ (Aq [] ?_ ?_) (.inr fun id2 hid=>?_) (fun id2 b1 b2 b3=>?_);all_goals (try simp only[Ad,Er]);all_goals (first|(simp only[AD,Ac]at hid;subst hid;exact⟨A4 [1,16],_,rfl⟩)|(have q1:=AE b3;have q3:=C1 b3;have q5:=n2 _ b2;simp only[go_sem,q1,q3,b1,q5,AM];done)|(simp;done)|(simp only[go_sem,e1,e2,e3,e4,i1,i2,i3,i4,him,hmi,BV,Be,AM];first|done|rfl));done)|(refine go.out (.d8 id 0 (st.d7.waits.length+1)) _ ?_ (Aq x ?_ ?_) (.inl (n1 _ rfl)) (fun id2 b1 b2 b3=>?_);all_goals (try simp only[Ad,Er]);all_goals (first|(simp only[AD,Ac]at hid;subst hid;exact⟨A4 [1,16],_,rfl⟩)|(have q1:=AE b3;have q3:=C1 b3;have q5:=n2 _ b2;simp only[go_sem,q1,q3,b1,q5,AM];done)|(simp;done)|(simp only[go_sem,e1,e2,e3,e4,i1,i2,i3,i4,him,hmi,BV,Be,AM];first|done|rfl))))
structure LF(p:AK)(j:FW)(x:CT):Prop where
 n0:0≤j.node
 node:p.nodes[j.node.toNat]? =some x
 len:j.env.length≤10000
theorem Na{p:AK}{j:FW}{x:CT}(h:LF p j x):j.node.toNat<p.nodes.length:=AL h.node
theorem vO{p:AK}{sz:List Int}{h:AB}{π:List Nat}{m:Abs.Id}{V:MV}{st:CC}(hM:KP p sz h m V st)(hu:B4 π V m)(j:FW){x:CT}(hj:LF p j x)(hp:p.nodes.length≤60)(hal:x.args.length≤3)(haf: ∀e∈x.args,e.formed j.env.length=true)(hn0:0≤x.n)(hn1:x.n<j.env.length)
 (hin:j.env.all (CZ.inB p st.d7.ac.length st.d7.am.length)=true) (hc: ∀(c:Nat) (q:HY),st.d7.ac[c]? =some q→S9 p st.d7 q) (he:st.ev.length≤1000000):
 ∃o h',KL Tryz.prog cfg (.fn 110) [.ptr m 0,.agg [.d (.int .i64 (j.node)),.d (.int .i64 (j.at_)),.d (.be (j.env.map AI))]] h π true none=.ok (o,h')∧GF p sz π m V h (B0 p x j st) o h':=by
 have hm:=hM.box;have um:=hu m (V.m_mem m);simp only[BS]at hm;have e1:=AE um;have e2:=AZ um;have e3:=C1 um;have e4:=Gw um;obtain⟨L,hL⟩: ∃L,L=x.args.map fun e=>e.value j.env:=⟨_,rfl⟩;have hLl:L.length=x.args.length:=by rw[hL,Bi]
 have hx:=hj.node;have hn:=hj.n0;have hel:=hj.len;obtain⟨to,hto⟩:=get_some (l:=j.env) (i:=x.n.toNat) (by omega);have hxl:=Na hj;replace hM:=AA.mk hM;replace hu:=AA.mk hu;replace hc:=AA.mk hc;replace hin:=AA.mk hin;replace hL:=AA.mk hL;replace hLl:=AA.mk hLl;replace haf:=AA.mk haf
 (refine Aa rfl Tryz.func110 rfl rfl rfl ?_;show Wp _ _ _ _ (Tryz.f110.body.get rfl) _ _;simp only[Tryz.f110,AP])
 refine aw ?_;refine AY x.args _ (S:=fun m' i (a:(AV×AB)×Nat)=>⟨[(0,.ptr m 0),(3,.ptr (0::0::π) 0),(4,.ptr (0::10::π) 0),(5,a.1.1),(20,.d (.be (x.args.map Av))),(21,.d (.int .i64 (m'))),(22,.d (.int .i64 (i)))],a.1.2,a.2+17,[]⟩)
  (Inv:=fun i rest a=>(∀id,Id.under π id=false→a.1.2.get id=h.get id)∧a.1.2.get (0::0::π)=some (.box [.d (.int .i64 (j.node)),.d (.int .i64 (j.at_)),.d (.be (j.env.map AI))])∧a.1.2.get (0::10::π)=some (.box [.d (.int .i64 (x.op)),.d (.int .i64 (x.n)),.d (.be (x.args.map Av)),.d (.be (x.kids.map AO))])∧AA ((i=0∧a.1.1=.ci)∨ ∃n,n<a.2+17∧a.1.1=.d8 (1::n::π) 0 i∧a.1.2.get (1::n::π)=some (.d6 2 ((L.take i).map AI)))) (b0:=((_,_),_)) rfl ⟨?_,?_,?_,⟨.inl ⟨rfl,rfl⟩⟩⟩ ?_ ?_
 .intro id b;have q1:=AE b;simp only[go_sem,q1,AM]
 .simp only[go_sem]
 .simp only[go_sem]
 .rintro i y ⟨⟨t5,g⟩,b⟩ hy hi him ⟨k1,k2,k3,kl⟩ IH;dsimp only at*;have hyf:=haf.out y (Ap hy);have hLi:AA (L[i]? =some (y.value j.env)):=⟨by rw[hL.out,D5,hy];rfl⟩;replace k1:=AA.mk k1;have hLt:AA (L.take (i+1)=L.take i++[y.value j.env]):=⟨by rw[I5,hLi.out];rfl⟩;rcases kl.out with⟨rfl,rfl⟩|⟨n,hnb,rfl,hg⟩
  .clear kl;have him0:(0:Int)<x.args.length:=him;refine aw ?_;refine IH.out ((_,_),_) ⟨fun id b=>?_,?_,?_,⟨.inr ⟨b+28,by simp,rfl,?_⟩⟩⟩
   .have q1:=AE b;have q2:=k1.out id b;simp only[go_sem,q1,q2,AM]
   .simp only[go_sem,k2]
   .simp only[go_sem,k3]
   .rw[hLt.out];simp only[go_sem]
  .clear kl;have d0:(L.take i).length=i:=by have:=hLl.out;rw[RS];omega
   have d1:List.take i (List.map AI (List.take i L))=List.map AI (List.take i L):=D6 (by simp;omega);have d2: ¬b+27=n:=by omega
   have d3: ¬b+20=n:=by omega
   have d4: ¬n=b+27:=by omega
   have d5: ¬n=b+28:=by omega
   refine ax ?_;refine IH.out ((_,_),_) ⟨fun id b=>?_,?_,?_,⟨.inr ⟨b+28,by simp,rfl,?_⟩⟩⟩
   .have q1:=AE b;have q2:=k1.out id b;simp only[go_sem,q1,q2,AM]
   .simp only[go_sem,k2]
   .simp only[go_sem,k3]
   .rw[hLt.out];simp only[go_sem,d5,BV]
 .rintro i ⟨⟨t5,g⟩,b⟩ hi him ⟨k1,k2,k3,kl⟩;dsimp only at*;have hiL:i=L.length:=by rw[hi.out,hLl.out]
  clear hi;have hto2:Nc j.env x.n=to:=by rw[Nc,hto];rfl
  have htl:List.take L.length L=L:=D4;have hL3:L.length≤3:=by have:=hLl.out;omega
  replace k1:=AA.mk k1;by_cases kk2:to.kind=2
  .have hd:AA (B0 p x j st=some {st with ev:=st.ev++[⟨5,j.at_,to.n,0,L⟩]}):=⟨by
    simp only[B0,hto2,kk2,F3,hL.out];rfl⟩
   rcases kl.out with⟨rfl,rfl⟩|⟨n,hnb,rfl,hg⟩
   .clear kl;have him0: ¬(0:Int)<x.args.length:=him;have hL0:=CE hiL.symm;subst hL0;clear hiL;refine aw ?_;refine AW (Vf (V:=V) (st:=st) (GL hM.out hu.out ?_) (hu.out.ext _) 5 j.at_ to.n 0 [] (by simp) he) (fun o1 g1 p1=>?_)
    .intro id b;have q1:=AE b;have q2:=k1.out id b;simp only[go_sem,q1,q2,AM]
    .have fin:=N9 (h:=h) hu.out (fun id b=>?_) p1
     .obtain rfl:=p1.1;refine aw ?_;rw[hd.out];exact fin
     .have q1:=AE b;have q2:=k1.out id b;simp only[go_sem,q1,q2,AM]
   .clear kl;subst hiL;refine aw ?_;refine AW (Vf (V:=V) (st:=st) (GL hM.out hu.out ?_) (hu.out.ext _) 5 j.at_ to.n 0 L (by omega) he) (fun o1 g1 p1=>?_)
    .intro id b;have q1:=AE b;have q2:=k1.out id b;simp only[go_sem,q1,q2,AM]
    .have fin:=N9 (h:=h) hu.out (fun id b=>?_) p1
     .obtain rfl:=p1.1;refine aw ?_;rw[hd.out];exact fin
     .have q1:=AE b;have q2:=k1.out id b;simp only[go_sem,q1,q2,AM]
  by_cases kk3:to.kind=3
  .have hib:=CO.1 hin.out to (Ap hto);simp only[CZ.inB,kk3,Int.reduceEq,F3,D8,AS,As]at hib;obtain⟨t0,t1⟩:=hib;obtain⟨q,hq⟩:=get_some (l:=st.d7.ac) (i:=to.n.toNat) (by omega);obtain⟨v,hr,hqs⟩:=hM.out.ac.row _ _ hq;have hr0:=AA.mk hr;have hcf:=hc.out _ _ hq;obtain⟨c1,c2⟩:=hcf.at_;obtain⟨gr,d,ch,hgr,c3,hdd,hch⟩:=hcf.ex;have c4:=hcf.g0;have c5:=hcf.i0;have c6:=hcf.len;obtain⟨sp,hsp⟩:=get_some (l:=st.d7.am) (i:=q.at_.toNat) (by omega);obtain⟨S,xs,hS,gS,xS,lS,lS2⟩:=UW (hM.out.sl 0 (by omega)) hsp;obtain⟨G,ys,hG,gG,xG,lG,lG2⟩:=UW (hM.out.sl 1 (by omega)) hgr;have hA:=hM.out.arr;rcases hA with⟨_,hA⟩|⟨A,hA,gA⟩
   .rw[hA]at hr;simp at hr
   have lA:=AL hr;have sg: ∀r:List AV,(V.rows.set to.n.toNat r)[to.n.toNat]? =some r:=fun r=>List.getElem?_set_self lA;have uA:=hu.out A (V.v3_mem m (by rw[hA];simp[AD]));have uS:=hu.out S (V.s_mem m (i:=0) (by omega) (by rw[hS];simp[AD]));have uG:=hu.out G (V.s_mem m (i:=1) (by omega) (by rw[hG];simp[AD]));have gm:=(k1.out m um).trans hm;rw[hA,hS,hG]at gm;replace gA:=(k1.out A uA).trans gA;replace gS:=(k1.out S uS).trans gS;replace gG:=(k1.out G uG).trans gG;have a1:=AE uA;have a2:=AZ uA;have a3:=AE uS;have a4:=AE uG;have ldd:=AL hdd;have lch:=AL hch;have hsd:BU st.d7.am q.at_=sp.dead:=by simp[BU,hsp]
   have hmn:HB p st.d7 q=ch.many:=by simp[HB,hgr,hdd,hch]
   have hd:AA (B0 p x j st=(K3 p st.d7 to.n L).map fun s=>{st with d7:=s}):=⟨by
    simp only[B0,hto2,kk3,F3,hL.out];rfl⟩
   have hd2:AA (K3 p st.d7 to.n L=if sp.dead=false∧ch.many=L.length then Oh st.d7 to.n q L else some st.d7):=⟨by
    rw[K3,hq];simp only[hsd,hmn]⟩
   clear hsd hmn hcf;replace hm:=AA.mk hm;replace hS:=AA.mk hS;replace hG:=AA.mk hG;replace hA:=AA.mk hA;simp only[Ah]at hr;simp only[Er]at gS gG;have go:=AA.mk (Xz hM.out hu.out hA.out hq hr0.out (q.queue++[L]));have gf:=AA.mk fun v h' a1 a0 a2 a3 a4=>Kq (go.out v h' a1 a0 a2 a3 a4);have hs1:AA (sp.dead=true→B0 p x j st=some st):=⟨fun h=>by rw[hd.out,hd2.out,D3 (by simp[h])];rfl⟩;have hs2:AA (¬ch.many=L.length→B0 p x j st=some st):=⟨fun h=>by rw[hd.out,hd2.out,D3 (fun hh=>h hh.2)];rfl⟩;have hs3:AA (sp.dead=false→ch.many=L.length→q.queue.length+1≤12→B0 p x j st=some {st with d7:={st.d7 with ac:=st.d7.ac.set to.n.toNat {q with queue:=q.queue++[L]}}}):=⟨fun h1 h2 h3=>by rw[hd.out,hd2.out,D7 ⟨h1,h2⟩,Oh,D7 (by omega)];rfl⟩
   have hs4:AA (sp.dead=false→ch.many=L.length→ ¬q.queue.length+1≤12→B0 p x j st=none):=⟨fun h1 h2 h3=>by rw[hd.out,hd2.out,D7 ⟨h1,h2⟩,Oh,D3 (by omega)];rfl⟩;clear hd hd2;have Am:Id.is A m=false:=AF fun e=>by rw[e,gm]at gA;cases gA
   have mA:Id.is m A=false:=AF fun e=>by rw[←e,gm]at gA;cases gA
   have same:AA (∀H:AB,(∀id,Id.under π id=false→H.get id=g.get id)→GF p sz π m V h (some st) (.ret (.f8 [])) H):=⟨fun H hH=>OA hM.out hu.out fun id b=>(hH id b).trans (k1.out id b)⟩;rcases hqs with⟨rfl,hz⟩|⟨Q,zs,rfl,gQ⟩
   .replace hz:=AA.mk (F9.1 hz);rcases kl.out with⟨rfl,rfl⟩|⟨n,hnb,rfl,hg⟩;all_goals clear kl
    .have him0: ¬(0:Int)<x.args.length:=him;have hL0:=CE hiL.symm;subst hL0;clear hiL
     (repeat' (first|simp only[go_sem, *,AM]|(refine sx ?_ ?_<;>intro hc)|refine sy (by omega) fun x hx hm=>?_|simp(disch:=first|assumption|omega) only[AG]))
     all_goals (first|(rw[hs1.out (by assumption)];exact same.out _ (fun id b=>by have q1:=AE b;simp only[go_sem,q1,AM]))|(rw[hs2.out (by first|assumption|(show¬ch.many=0;assumption))];exact same.out _ (fun id b=>by have q1:=AE b;simp only[go_sem,q1,AM]))|(rw[hs3.out (by assumption) (by first|assumption|(show ch.many=0;assumption)) (by first|assumption|omega|(rw[hz.out];decide))];refine⟨rfl,?_⟩;first|(refine go.out (.d8 (1::(b+94)::π) 0 1) _ ?_ ?_ (Aq [] ?_ ?_) (.inr fun id2 hid=>?_) fun id2 b1 b2 b3 b4=>?_;all_goals (first|(simp only[AD,Ac]at hid;subst hid;exact⟨A4 [1,b+94],_,rfl⟩)|(have q1:=AE b4;have q2:=k1.out id2 b4;simp only[go_sem,q1,q2,b1,b2,AM];done)|(simp[hz.out];done)|(simp only[go_sem,e1,e2,a1,a2,Am,mA,gm,BS,hS.out,hG.out,hA.out,Ah,BV,Be,AM,hz.out];first|done|rfl));done)))
    .subst hiL;have d1: ¬b+93=n:=by omega
     have d2: ¬n=b+93:=by omega
     have d3: ¬b+94=n:=by omega
     have d4: ¬n=b+94:=by omega
     (repeat' (first|simp only[go_sem, *,AM]|(refine sx ?_ ?_<;>intro hc)|refine sy (by omega) fun x hx hm=>?_|simp(disch:=first|assumption|omega) only[AG]))
     all_goals (first|(rw[hs1.out (by assumption)];exact same.out _ (fun id b=>by have q1:=AE b;simp only[go_sem,q1,AM]))|(rw[hs2.out (by first|assumption|(show¬ch.many=0;assumption))];exact same.out _ (fun id b=>by have q1:=AE b;simp only[go_sem,q1,AM]))|(rw[hs3.out (by assumption) (by first|assumption|(show ch.many=0;assumption)) (by first|assumption|omega|(rw[hz.out];decide))];refine⟨rfl,?_⟩;first|(refine go.out (.d8 (1::(b+94)::π) 0 1) _ ?_ ?_ (Aq [] ?_ ?_) (.inr fun id2 hid=>?_) fun id2 b1 b2 b3 b4=>?_;all_goals (first|(simp only[AD,Ac]at hid;subst hid;exact⟨A4 [1,b+94],_,rfl⟩)|(have q1:=AE b4;have q2:=k1.out id2 b4;simp only[go_sem,q1,q2,b1,b2,AM];done)|(simp[hz.out];done)|(simp only[go_sem,e1,e2,a1,a2,Am,mA,gm,BS,hS.out,hG.out,hA.out,Ah,BV,Be,AM,hz.out];first|done|rfl));done)))
   .have uQ:=hu.out Q (V.row_mem m (By.2 ⟨_,Ap hr0.out,by simp[Cc,AD]⟩));replace gQ:=(k1.out Q uQ).trans gQ;have a5:=AE uQ;have a6:=AZ uQ;have QA:Id.is Q A=false:=AF fun e=>by rw[e,gA]at gQ;cases gQ
    have AQ:Id.is A Q=false:=AF fun e=>by rw[←e,gA]at gQ;cases gQ
    have Qm:Id.is Q m=false:=AF fun e=>by rw[e,gm]at gQ;cases gQ
    have mQ:Id.is m Q=false:=AF fun e=>by rw[←e,gm]at gQ;cases gQ
    rcases kl.out with⟨rfl,rfl⟩|⟨n,hnb,rfl,hg⟩;all_goals clear kl
    .have him0: ¬(0:Int)<x.args.length:=him;have hL0:=CE hiL.symm;subst hL0;clear hiL;rcases zs with _|⟨z,zs⟩;all_goals
      (repeat' (first|simp only[go_sem, *,AM]|(refine sx ?_ ?_<;>intro hc)|refine sy (by omega) fun x hx hm=>?_|simp(disch:=first|assumption|omega) only[AG]))
      all_goals (first|(rw[hs1.out (by assumption)];exact same.out _ (fun id b=>by have q1:=AE b;simp only[go_sem,q1,AM]))|(rw[hs2.out (by first|assumption|(show¬ch.many=0;assumption))];exact same.out _ (fun id b=>by have q1:=AE b;simp only[go_sem,q1,AM]))|(rw[hs3.out (by assumption) (by first|assumption|(show ch.many=0;assumption)) (by first|assumption|omega|(rw[hz.out];decide))];refine⟨rfl,?_⟩;first|(refine go.out (.d8 (1::(b+94)::π) 0 (q.queue.length+1)) _ ?_ ?_ (Aq [] ?_ ?_) (.inr fun id2 hid=>?_) fun id2 b1 b2 b3 b4=>?_;all_goals (first|(simp only[AD,Ac]at hid;subst hid;exact⟨A4 [1,b+94],_,rfl⟩)|(have q1:=AE b4;have q2:=k1.out id2 b4;have q5:=b3 Q (by simp[AD]);simp only[go_sem,q1,q2,b1,b2,q5,AM];done)|(simp;done)|(simp only[go_sem,e1,e2,a1,a2,Am,mA,gm,BS,hS.out,hG.out,hA.out,Ah,BV,Be,AM,a5,a6,QA,AQ,Qm,mQ];first|done|rfl));done)|(refine go.out (.d8 Q 0 (q.queue.length+1)) _ ?_ ?_ (Aq zs ?_ ?_) (.inl rfl) fun id2 b1 b2 b3 b4=>?_;all_goals (first|(simp only[AD,Ac]at hid;subst hid;exact⟨A4 [1,b+94],_,rfl⟩)|(have q1:=AE b4;have q2:=k1.out id2 b4;have q5:=b3 Q (by simp[AD]);simp only[go_sem,q1,q2,b1,b2,q5,AM];done)|(simp;done)|(simp only[go_sem,e1,e2,a1,a2,Am,mA,gm,BS,hS.out,hG.out,hA.out,Ah,BV,Be,AM,a5,a6,QA,AQ,Qm,mQ];first|done|rfl))))|(rw[hs4.out (by assumption) (by first|assumption|(show ch.many=0;assumption)) (by first|assumption|omega)];refine⟨rfl,?_⟩;first|(refine gf.out (.d8 (1::(b+94)::π) 0 (q.queue.length+1)) _ ?_ ?_ (Aq [] ?_ ?_) (.inr fun id2 hid=>?_) fun id2 b1 b2 b3 b4=>?_;all_goals (first|(simp only[AD,Ac]at hid;subst hid;exact⟨A4 [1,b+94],_,rfl⟩)|(have q1:=AE b4;have q2:=k1.out id2 b4;have q5:=b3 Q (by simp[AD]);simp only[go_sem,q1,q2,b1,b2,q5,AM];done)|(simp;done)|(simp only[go_sem,e1,e2,a1,a2,Am,mA,gm,BS,hS.out,hG.out,hA.out,Ah,BV,Be,AM,a5,a6,QA,AQ,Qm,mQ];first|done|rfl));done)|(refine gf.out (.d8 Q 0 (q.queue.length+1)) _ ?_ ?_ (Aq zs ?_ ?_) (.inl rfl) fun id2 b1 b2 b3 b4=>?_;all_goals (first|(simp only[AD,Ac]at hid;subst hid;exact⟨A4 [1,b+94],_,rfl⟩)|(have q1:=AE b4;have q2:=k1.out id2 b4;have q5:=b3 Q (by simp[AD]);simp only[go_sem,q1,q2,b1,b2,q5,AM];done)|(simp;done)|(simp only[go_sem,e1,e2,a1,a2,Am,mA,gm,BS,hS.out,hG.out,hA.out,Ah,BV,Be,AM,a5,a6,QA,AQ,Qm,mQ];first|done|rfl)))))
    .subst hiL;have d1: ¬b+93=n:=by omega
     have d2: ¬n=b+93:=by omega
     have d3: ¬b+94=n:=by omega
     have d4: ¬n=b+94:=by omega
     rcases zs with _|⟨z,zs⟩;all_goals
      (repeat' (first|simp only[go_sem, *,AM]|(refine sx ?_ ?_<;>intro hc)|refine sy (by omega) fun x hx hm=>?_|simp(disch:=first|assumption|omega) only[AG]))
      all_goals (first|(rw[hs1.out (by assumption)];exact same.out _ (fun id b=>by have q1:=AE b;simp only[go_sem,q1,AM]))|(rw[hs2.out (by first|assumption|(show¬ch.many=0;assumption))];exact same.out _ (fun id b=>by have q1:=AE b;simp only[go_sem,q1,AM]))|(rw[hs3.out (by assumption) (by first|assumption|(show ch.many=0;assumption)) (by first|assumption|omega|(rw[hz.out];decide))];refine⟨rfl,?_⟩;first|(refine go.out (.d8 (1::(b+94)::π) 0 (q.queue.length+1)) _ ?_ ?_ (Aq [] ?_ ?_) (.inr fun id2 hid=>?_) fun id2 b1 b2 b3 b4=>?_;all_goals (first|(simp only[AD,Ac]at hid;subst hid;exact⟨A4 [1,b+94],_,rfl⟩)|(have q1:=AE b4;have q2:=k1.out id2 b4;have q5:=b3 Q (by simp[AD]);simp only[go_sem,q1,q2,b1,b2,q5,AM];done)|(simp;done)|(simp only[go_sem,e1,e2,a1,a2,Am,mA,gm,BS,hS.out,hG.out,hA.out,Ah,BV,Be,AM,a5,a6,QA,AQ,Qm,mQ];first|done|rfl));done)|(refine go.out (.d8 Q 0 (q.queue.length+1)) _ ?_ ?_ (Aq zs ?_ ?_) (.inl rfl) fun id2 b1 b2 b3 b4=>?_;all_goals (first|(simp only[AD,Ac]at hid;subst hid;exact⟨A4 [1,b+94],_,rfl⟩)|(have q1:=AE b4;have q2:=k1.out id2 b4;have q5:=b3 Q (by simp[AD]);simp only[go_sem,q1,q2,b1,b2,q5,AM];done)|(simp;done)|(simp only[go_sem,e1,e2,a1,a2,Am,mA,gm,BS,hS.out,hG.out,hA.out,Ah,BV,Be,AM,a5,a6,QA,AQ,Qm,mQ];first|done|rfl))))|(rw[hs4.out (by assumption) (by first|assumption|(show ch.many=0;assumption)) (by first|assumption|omega)];refine⟨rfl,?_⟩;first|(refine gf.out (.d8 (1::(b+94)::π) 0 (q.queue.length+1)) _ ?_ ?_ (Aq [] ?_ ?_) (.inr fun id2 hid=>?_) fun id2 b1 b2 b3 b4=>?_;all_goals (first|(simp only[AD,Ac]at hid;subst hid;exact⟨A4 [1,b+94],_,rfl⟩)|(have q1:=AE b4;have q2:=k1.out id2 b4;have q5:=b3 Q (by simp[AD]);simp only[go_sem,q1,q2,b1,b2,q5,AM];done)|(simp;done)|(simp only[go_sem,e1,e2,a1,a2,Am,mA,gm,BS,hS.out,hG.out,hA.out,Ah,BV,Be,AM,a5,a6,QA,AQ,Qm,mQ];first|done|rfl));done)|(refine gf.out (.d8 Q 0 (q.queue.length+1)) _ ?_ ?_ (Aq zs ?_ ?_) (.inl rfl) fun id2 b1 b2 b3 b4=>?_;all_goals (first|(simp only[AD,Ac]at hid;subst hid;exact⟨A4 [1,b+94],_,rfl⟩)|(have q1:=AE b4;have q2:=k1.out id2 b4;have q5:=b3 Q (by simp[AD]);simp only[go_sem,q1,q2,b1,b2,q5,AM];done)|(simp;done)|(simp only[go_sem,e1,e2,a1,a2,Am,mA,gm,BS,hS.out,hG.out,hA.out,Ah,BV,Be,AM,a5,a6,QA,AQ,Qm,mQ];first|done|rfl)))))
  .have hd:AA (B0 p x j st=some st):=⟨by simp only[B0,hto2,kk2,kk3,D8]⟩;rcases kl.out with⟨rfl,rfl⟩|⟨n,hnb,rfl,hg⟩;all_goals clear kl
   .have him0: ¬(0:Int)<x.args.length:=him;clear hiL;refine aw ?_;rw[hd.out];refine OA hM.out hu.out fun id b=>?_;have q1:=AE b;have q2:=k1.out id b;simp only[go_sem,q1,q2,AM]
   .subst hiL;refine aw ?_;rw[hd.out];refine OA hM.out hu.out fun id b=>?_;have q1:=AE b;have q2:=k1.out id b;simp only[go_sem,q1,q2,AM]
end Go.Proofs
namespace Go.Abs
theorem O9(sz:Nat)(es:List (List AU))(h: ∀e∈es,e.length=sz):EV sz (es.map fun e=>e.map .d)=true:=by
 induction es with
 |nil=>rfl
 |cons e es ih=>
  rw[Ci,HV,ih fun e he=>h e (EX _ he)];simp[h e (by simp),AV.isCell]
theorem dM(g:G)(newId:Id)(j:TI)(s:AV)(es:List (List AU))(h0:0<j.size)(h: ∀e∈es,e.length=j.size)(hn:es≠ [])(hl:es.length≤BD):Yb g newId j s (some (es.map fun e=>e.map .d))=appTo g newId j s (es.map fun e=>e.map .d):=by
 cases es with
 |nil=>exact absurd rfl hn
 |cons e es=>
  have hs:=O9 j.size (e::es) h;rw[Ci]at hs⊢;rw[R1,hs];have:(e.map AV.d::es.map fun e=>e.map AV.d).length≤BD:=by simpa using hl
  simp only[this,h0,decide_true,No,R0]
theorem W7(g:G)(newId:Id)(j:TI)(es:List (List AU))(hm:j.mix=false)(h0:0<j.size)(h: ∀e∈es,e.length=j.size)(hl:es.length≤BD):newArr g newId j (es.map fun e=>e.map .d)=some ⟨.d8 (1::newId) 0 es.length,[(1::newId,.d6 j.size es)]⟩:=by
 have h1:((es.map fun e=>e.map AV.d).all fun e=>e.length==j.size&&e.all AV.isCell)=true:=by
  rw[MX];exact O9 _ _ h
 have h2:Nat.blt 0 j.size=true:=by rw[Nat.blt_eq];exact h0
 have h3:Nat.ble es.length BD=true:=Nat.ble_eq_true_of_le hl;unfold newArr;rw[h1];simp only[Bi,h2,h3,No,hm,MB,Kp,Ex]
theorem qw(g:G)(newId:Id)(j:TI)(es:List (List AU))(hm:j.mix=false)(h0:0<j.size)(h: ∀e∈es,e.length=j.size)(hn:es≠ [])(hl:es.length≤BD):Yb g newId j .emp (some (es.map fun e=>e.map .d))=some ⟨.d8 (1::newId) 0 es.length,[(1::newId,.d6 j.size es)]⟩:=by
 rw[dM g newId j .emp es h0 h hn hl];exact W7 g newId j es hm h0 h hl
end Go.Abs
namespace Go.Abs
end Go.Abs
namespace Go.Proofs
open Go Go.Abs
theorem Ga{g0:AB}{s0:Nat}{v:AV}{es:List (List AU)}(h:Nv g0 s0 v es)(g:G):Ts g .slice v=some es.length:=by
 rcases h with⟨rfl,rfl⟩|⟨id,x,rfl,_⟩<;>rfl
theorem La{g0:AB}{v:AV}{rows:List (List AV)}(h:qo g0 v rows)(g:G):Ts g .slice v=some rows.length:=by
 rcases h with⟨rfl,rfl⟩|⟨id,rfl,_⟩<;>rfl
end Go.Proofs
namespace Go.Abs
def wy(g:G)(id:Id)(off n:Nat):Option TI→Option Bw
 |some j=>LL g id off n j
 |none=>none
theorem VO(g:G)(id:Id)(off n:Nat)(j:TI):wy g id off n (some j)=LL g id off n j:=rfl
attribute [go_sem] VO
end Go.Abs
namespace Go.Proofs
open Go Go.Abs
set_option maxRecDepth 100000
set_option maxHeartbeats 4000000
def BT(p:AK)(mu:Bool)(V:MV)(w:Int):List AV:=[.d (.be (p.free.map A0)),.d (.be (p.nodes.map Al)),.d (.be (p.defs.map A8)),.d (.int .i64 (p.main)),V.s 0,V.s 1,V.v3,V.s 2,V.s 3,.d (.int .i64 (w)),.d (.bool (mu))]
abbrev lJ(p:AK):=EY (BT p false) false
def L3(p:AK)(π:List Nat)(m:Abs.Id)(V:MV)(h:AB):Option CC→Ae→AB→Prop
 |some st,o,h'=>o=.ret (.f8 [])∧Ji (BT p false) false (Id.under π) m V h st h'
 |none,o,h'=>o=.ret (.f8 [])∧(∃V' w,h'.get m=some (.box (BT p true V' w)))∧ ∀id,id∉V.ids m→Id.under π id=false→h'.get id=h.get id
theorem lR(l:List CZ)(h0: ¬l.length=0)(hl:l.length≤1000000): ∀(g:G) (newId:Abs.Id) (j:TI),j.mix=false→j.size=2→Yb g newId j .emp (some ((l.map AI).map fun x=>x.map AV.d))=some ⟨.d8 (1::newId) 0 l.length,[(1::newId,.d6 2 (l.map AI))]⟩:=by
 intro g newId j hm hs;have:=qw g newId j (l.map AI) hm (by omega) (fun e he=>by
  obtain⟨x,_,rfl⟩:=ID.1 he;rw[hs];rfl) (fun e=>h0 (by rw[F9.1 e];rfl)) (by simp[BD];omega)
 rw[this,Bi,hs]
def aG(π:List Nat)(l:List CZ):Ae×AB:=if l.length=0 then(.ret .emp,[])else(.ret (.d8 (1::3::π) 0 l.length),[(1::3::π,.d6 2 (l.map AI))])
theorem YN(l:List CZ)(hl:l.length≤1000000)(k:Nat)(ρ:List Nat):BJ (KL Tryz.prog cfg) 145 [.d (.be (l.map AI))] (k::ρ)=.ok (aG (k::ρ) l):=by
 by_cases h0:l.length=0
 .rw[aG,D7 h0];obtain rfl:=CE h0
  (refine Ao rfl Tryz.func145 rfl rfl rfl ?_;show Wp _ _ _ _ (Tryz.f145.body.get rfl) _ _;simp only[Tryz.f145,AP])
  exact au
 .rw[aG,D3 h0];have ap:=lR l h0 hl;have fa:=CP
  (refine Ao rfl Tryz.func145 rfl rfl rfl ?_;show Wp _ _ _ _ (Tryz.f145.body.get rfl) _ _;simp only[Tryz.f145,AP])
  exact au
theorem p9{p:AK}{h:AB}{π:List Nat}{m:Abs.Id}{V:MV}{st:CC}(hM:lJ p h m V st)(hu:B4 π V m)(j:FW){x:CT}(hel:j.env.length≤10000)(hal:x.args.length≤3)(haf: ∀e∈x.args,e.formed j.env.length=true)(hn0:0≤x.n)(hn1:x.n<j.env.length)
 (hin:j.env.all (CZ.inB p st.d7.ac.length st.d7.am.length)=true) (hc: ∀(c:Nat) (q:HY),st.d7.ac[c]? =some q→S9 p st.d7 q) (he:st.ev.length≤1000000):
 ∃o h',KL Tryz.prog cfg (.fn 143) [.ptr m 0,.agg [.d (.int .i64 (x.op)),.d (.int .i64 (x.n)),.d (.be (x.args.map Av)),.d (.be (x.kids.map AO))],.d (.int .i64 (j.at_)),.d (.be (j.env.map AI))] h π true none=.ok (o,h')∧L3 p π m V h (B0 p x j st) o h':=by
 have hm:=hM.box;have um:=hu m (V.m_mem m);simp only[BT]at hm;have e1:=AE um;have e2:=AZ um;have e3:=C1 um;have e4:=Gw um;obtain⟨L,hL⟩: ∃L,L=x.args.map fun e=>e.value j.env:=⟨_,rfl⟩;have hLl:L.length=x.args.length:=by rw[hL,Bi]
 obtain⟨to,hto⟩:=get_some (l:=j.env) (i:=x.n.toNat) (by omega);replace hM:=AA.mk hM;replace hu:=AA.mk hu;replace hc:=AA.mk hc;replace hin:=AA.mk hin;replace hL:=AA.mk hL;replace hLl:=AA.mk hLl;replace haf:=AA.mk haf
 (refine Aa rfl Tryz.func143 rfl rfl rfl ?_;show Wp _ _ _ _ (Tryz.f143.body.get rfl) _ _;simp only[Tryz.f143,AP])
 (repeat' (first|simp only[go_sem, *]|(refine sx ?_ ?_<;>intro hc)|refine sy (by omega) fun x hx hm=>?_|simp(disch:=first|assumption|omega) only[AG]))
 refine Au x.args (S:=fun i (a:(AV×AB)×Nat)=>⟨[(0,.ptr m 0),(2,.d (.int .i64 (j.at_))),(3,.d (.be (j.env.map AI))),(5,.ptr (0::0::π) 0),(8,a.1.1),(9,.d (.int .i64 (i)))],a.1.2,a.2+3,[]⟩)
  (Inv:=fun i rest a=>(∀id,Id.under π id=false→a.1.2.get id=h.get id)∧a.1.2.get (0::0::π)=some (.box [.d (.int .i64 (x.op)),.d (.int .i64 (x.n)),.d (.be (x.args.map Av)),.d (.be (x.kids.map AO))])∧AA ((i=0∧a.1.1=.ci)∨ ∃n,n<a.2+3∧a.1.1=.d8 (1::n::π) 0 i∧a.1.2.get (1::n::π)=some (.d6 2 ((L.take i).map AI)))) (b0:=((_,_),_)) ⟨?_,?_,⟨.inl ⟨rfl,rfl⟩⟩⟩ ?_ ?_
 .intro id b;have q1:=AE b;simp only[go_sem,q1,AM]
 .simp only[go_sem]
 .rintro i y ⟨⟨t8,g⟩,b⟩ hy hi him ⟨k1,k2,kl⟩ IH;dsimp only at*;have hyf:=haf.out y (Ap hy);have hLi:AA (L[i]? =some (y.value j.env)):=⟨by rw[hL.out,D5,hy];rfl⟩;have w1:IntKind.i64.wrap ((i:Int)+1)=(i:Int)+1:=wrap_id (by omega) (by omega);replace k1:=AA.mk k1;have hLt:AA (L.take (i+1)=L.take i++[y.value j.env]):=⟨by rw[I5,hLi.out];rfl⟩;rcases kl.out with⟨rfl,rfl⟩|⟨n,hnb,rfl,hg⟩
  .clear kl;have him0:(0:Int)<x.args.length:=him
   (repeat' (first|simp only[go_sem, *]|(refine sx ?_ ?_<;>intro hc)|refine sy (by omega) fun x hx hm=>?_|simp(disch:=first|assumption|omega) only[AG]))
   refine IH.out ((_,_),_) ⟨fun id b=>?_,?_,⟨.inr ⟨b+17,by simp,rfl,?_⟩⟩⟩
   .have q1:=AE b;have q2:=k1.out id b;simp only[go_sem,q1,q2,AM]
   .simp only[go_sem,k2]
   .rw[hLt.out];simp only[go_sem]
  .clear kl;have d0:(L.take i).length=i:=by have:=hLl.out;rw[RS];omega
   have d1:List.take i (List.map AI (List.take i L))=List.map AI (List.take i L):=D6 (by simp;omega);have d2: ¬b+16=n:=by omega
   have d3: ¬b+9=n:=by omega
   have d4: ¬n=b+16:=by omega
   have d5: ¬n=b+17:=by omega
   (repeat' (first|simp only[go_sem, *,AM]|(refine sx ?_ ?_<;>intro hc)|refine sy (by omega) fun x hx hm=>?_|simp(disch:=first|assumption|omega) only[AG]))
   refine IH.out ((_,_),_) ⟨fun id b=>?_,?_,⟨.inr ⟨b+17,by simp,rfl,?_⟩⟩⟩
   .have q1:=AE b;have q2:=k1.out id b;simp only[go_sem,q1,q2,AM]
   .simp only[go_sem,k2]
   .rw[hLt.out];simp only[go_sem,d5,BV]
 .rintro i ⟨⟨t8,g⟩,b⟩ hi him ⟨k1,k2,kl⟩;dsimp only at*;have hiL:i=L.length:=by rw[hi.out,hLl.out]
  clear hi;have hto2:Nc j.env x.n=to:=by rw[Nc,hto];rfl
  have htl:List.take L.length L=L:=D4;have hL3:L.length≤3:=by have:=hLl.out;omega
  have gm:=(k1 m um).trans hm;replace k1:=AA.mk k1;by_cases kk2:to.kind=2
  .have hd:AA (B0 p x j st=some {st with ev:=st.ev++[⟨5,j.at_,to.n,0,L⟩]}):=⟨by
    simp only[B0,hto2,kk2,F3,hL.out];rfl⟩
   have go:=AA.mk (G4 (st':={st with ev:=st.ev++[⟨5,j.at_,to.n,0,L⟩]}) 3 (by omega) hM.out hu.out (v8 rfl) rfl)
   rcases hM.out.sl 3 (by omega)with⟨hv,hz⟩|⟨E,ys,hv,gE⟩
   .rw[hv]at gm;replace hv:=AA.mk hv;replace hz:=AA.mk (F9.1 hz);rcases kl.out with⟨rfl,rfl⟩|⟨n,hnb,rfl,hg⟩
    .clear kl;have him0: ¬(0:Int)<x.args.length:=him;have hL0:=CE hiL.symm;subst hL0;clear hiL
     (repeat' (first|simp only[go_sem, *]|(refine sx ?_ ?_<;>intro hc)|refine sy (by omega) fun x hx hm=>?_|simp(disch:=first|assumption|omega) only[AG]))
     rw[hd.out];refine⟨rfl,go.out (.d8 (1::(b+29)::π) 0 1) _ ?_ (Aq [] (by simp[Ad,hz.out]) ?_) (.inr fun id hid=>?_) fun id b1 b2 b3=>?_⟩
     .simp only[go_sem,e1,e2];first|done|rfl
     .simp only[Er,Ad,EL,BV,Ci,Be,hz.out];simp only[go_sem,e1,e2,Ex]
     .simp only[AD,Ac]at hid;subst hid;exact⟨A4 [1,b+29],_,rfl⟩
     .have q1:=AE b3;have q2:=k1.out id b3;simp only[go_sem,q1,q2,b1,AM]
    .clear kl;subst hiL;have d1: ¬b+29=n:=by omega
     have d2: ¬b+28=n:=by omega
     have d3: ¬n=b+28:=by omega
     have d4: ¬n=b+29:=by omega
     (repeat' (first|simp only[go_sem, *]|(refine sx ?_ ?_<;>intro hc)|refine sy (by omega) fun x hx hm=>?_|simp(disch:=first|assumption|omega) only[AG]))
     rw[hd.out];refine⟨rfl,go.out (.d8 (1::(b+29)::π) 0 1) _ ?_ (Aq [] (by simp[Ad,hz.out]) ?_) (.inr fun id hid=>?_) fun id b1 b2 b3=>?_⟩
     .simp only[go_sem,e1,e2];first|done|rfl
     .simp only[Er,Ad,EL,BV,Ci,Be,hz.out];simp only[go_sem,e1,e2,Ex]
     .simp only[AD,Ac]at hid;subst hid;exact⟨A4 [1,b+29],_,rfl⟩
     .have q1:=AE b3;have q2:=k1.out id b3;simp only[go_sem,q1,q2,b1,AM]
   .simp only[Er,Ad,Bi]at hv gE;rw[hv]at gm;have uE:=hu.out E (V.s_mem m (i:=3) (by omega) (by rw[hv];simp[AD]));replace gE:=(k1.out E uE).trans gE;have i1:=AE uE;have i2:=AZ uE;have Em:Id.is E m=false:=AF fun e=>by rw[e,gm]at gE;cases gE
    have mE:Id.is m E=false:=AF fun e=>by rw[←e,gm]at gE;cases gE
    replace hv:=AA.mk hv;rcases ys with _|⟨y,ys⟩
    .rcases kl.out with⟨rfl,rfl⟩|⟨n,hnb,rfl,hg⟩
     .clear kl;have him0: ¬(0:Int)<x.args.length:=him;have hL0:=CE hiL.symm;subst hL0;clear hiL
      (repeat' (first|simp only[go_sem, *,AM]|(refine sx ?_ ?_<;>intro hc)|refine sy (by omega) fun x hx hm=>?_|simp(disch:=first|assumption|omega) only[AG]))
      rw[hd.out];refine⟨rfl,go.out (.d8 (1::(b+29)::π) 0 (st.ev.length+1)) _ ?_ (Aq [] (by simp[Ad]) ?_) (.inr fun id hid=>?_) fun id b1 b2 b3=>?_⟩
      .simp only[go_sem,e1,e2,i1,i2,Em,mE,AM];first|done|rfl
      .simp only[Er,Ad,EL,BV,Ci,Be];simp only[go_sem,e1,e2,i1,i2,Em,mE,AM,Ex]
      .simp only[AD,Ac]at hid;subst hid;exact⟨A4 [1,b+29],_,rfl⟩
      .have q1:=AE b3;have q2:=k1.out id b3;simp only[go_sem,q1,q2,b1,b2 E (by rw[hv.out];simp[AD]),AM]
     .clear kl;subst hiL;have d1: ¬b+29=n:=by omega
      have d2: ¬b+28=n:=by omega
      have d3: ¬n=b+28:=by omega
      have d4: ¬n=b+29:=by omega
      (repeat' (first|simp only[go_sem, *,AM]|(refine sx ?_ ?_<;>intro hc)|refine sy (by omega) fun x hx hm=>?_|simp(disch:=first|assumption|omega) only[AG]))
      rw[hd.out];refine⟨rfl,go.out (.d8 (1::(b+29)::π) 0 (st.ev.length+1)) _ ?_ (Aq [] (by simp[Ad]) ?_) (.inr fun id hid=>?_) fun id b1 b2 b3=>?_⟩
      .simp only[go_sem,e1,e2,i1,i2,Em,mE,AM];first|done|rfl
      .simp only[Er,Ad,EL,BV,Ci,Be];simp only[go_sem,e1,e2,i1,i2,Em,mE,AM,Ex]
      .simp only[AD,Ac]at hid;subst hid;exact⟨A4 [1,b+29],_,rfl⟩
      .have q1:=AE b3;have q2:=k1.out id b3;simp only[go_sem,q1,q2,b1,b2 E (by rw[hv.out];simp[AD]),AM]
    .rcases kl.out with⟨rfl,rfl⟩|⟨n,hnb,rfl,hg⟩
     .clear kl;have him0: ¬(0:Int)<x.args.length:=him;have hL0:=CE hiL.symm;subst hL0;clear hiL
      (repeat' (first|simp only[go_sem, *,AM]|(refine sx ?_ ?_<;>intro hc)|refine sy (by omega) fun x hx hm=>?_|simp(disch:=first|assumption|omega) only[AG]))
      rw[hd.out];refine⟨rfl,go.out (.d8 E 0 (st.ev.length+1)) _ ?_ (Aq ys (by simp[Ad]) ?_) (.inl (by rw[hv.out];rfl)) fun id b1 b2 b3=>?_⟩
      .simp only[go_sem,e1,e2,i1,i2,Em,mE,AM];first|done|rfl
      .simp only[Er,Ad,BV,Ci,Be,ES,Es,Ex];simp only[go_sem,e1,e2,i1,i2,Em,mE,AM]
      .have q1:=AE b3;have q2:=k1.out id b3;simp only[go_sem,q1,q2,b1,b2 E (by rw[hv.out];simp[AD]),AM]
     .clear kl;subst hiL;have d1: ¬b+29=n:=by omega
      have d2: ¬b+28=n:=by omega
      have d3: ¬n=b+28:=by omega
      have d4: ¬n=b+29:=by omega
      (repeat' (first|simp only[go_sem, *,AM]|(refine sx ?_ ?_<;>intro hc)|refine sy (by omega) fun x hx hm=>?_|simp(disch:=first|assumption|omega) only[AG]))
      rw[hd.out];refine⟨rfl,go.out (.d8 E 0 (st.ev.length+1)) _ ?_ (Aq ys (by simp[Ad]) ?_) (.inl (by rw[hv.out];rfl)) fun id b1 b2 b3=>?_⟩
      .simp only[go_sem,e1,e2,i1,i2,Em,mE,AM];first|done|rfl
      .simp only[Er,Ad,BV,Ci,Be,ES,Es,Ex];simp only[go_sem,e1,e2,i1,i2,Em,mE,AM]
      .have q1:=AE b3;have q2:=k1.out id b3;simp only[go_sem,q1,q2,b1,b2 E (by rw[hv.out];simp[AD]),AM]
  have same:AA (∀H:AB,(∀id,Id.under π id=false→H.get id=g.get id)→L3 p π m V h (some st) (.ret (.f8 [])) H):=⟨fun H hH=>⟨rfl,V,GL hM.out hu.out fun id b=>(hH id b).trans (k1.out id b),Wo fun id b=>(hH id b).trans (k1.out id b)⟩⟩;by_cases kk3:to.kind=3
  .have hib:=CO.1 hin.out to (Ap hto);simp only[CZ.inB,kk3,Int.reduceEq,F3,D8,AS,As]at hib;obtain⟨t0,t1⟩:=hib;obtain⟨q,hq⟩:=get_some (l:=st.d7.ac) (i:=to.n.toNat) (by omega);obtain⟨v,hr,hqs⟩:=hM.out.ac.row _ _ hq;have hr0:=AA.mk hr;have hcf:=hc.out _ _ hq;obtain⟨c1,c2⟩:=hcf.at_;obtain⟨gr,d,ch,hgr,c3,hdd,hch⟩:=hcf.ex;have c4:=hcf.g0;have c5:=hcf.i0;have c6:=hcf.len;obtain⟨sp,hsp⟩:=get_some (l:=st.d7.am) (i:=q.at_.toNat) (by omega);obtain⟨S,xs,hS,gS,xS,lS,lS2⟩:=UW (hM.out.sl 0 (by omega)) hsp;obtain⟨G,ys,hG,gG,xG,lG,lG2⟩:=UW (hM.out.sl 1 (by omega)) hgr;have hA:=hM.out.arr;rcases hA with⟨_,hA⟩|⟨A,hA,gA⟩
   .rw[hA]at hr;simp at hr
   have lA:=AL hr;have sg: ∀r:List AV,(V.rows.set to.n.toNat r)[to.n.toNat]? =some r:=fun r=>List.getElem?_set_self lA;have uA:=hu.out A (V.v3_mem m (by rw[hA];simp[AD]));have uS:=hu.out S (V.s_mem m (i:=0) (by omega) (by rw[hS];simp[AD]));have uG:=hu.out G (V.s_mem m (i:=1) (by omega) (by rw[hG];simp[AD]));rw[hA,hS,hG]at gm;replace gA:=(k1.out A uA).trans gA;replace gS:=(k1.out S uS).trans gS;replace gG:=(k1.out G uG).trans gG;have a1:=AE uA;have a2:=AZ uA;have a3:=AE uS;have a3':=AZ uS;have a4:=AE uG;have a4':=AZ uG;have n1: ¬b=b+17:=by omega
   have n2: ¬b+17=b:=by omega
   have n3: ¬b=b+11:=by omega
   have n4: ¬b+11=b:=by omega
   have n5: ¬b=b+28:=by omega
   have n6: ¬b+28=b:=by omega
   have ldd:=AL hdd;have lch:=AL hch;have hsd:BU st.d7.am q.at_=sp.dead:=by simp[BU,hsp]
   have hmn:HB p st.d7 q=ch.many:=by simp[HB,hgr,hdd,hch]
   have hd:AA (B0 p x j st=(K3 p st.d7 to.n L).map fun s=>{st with d7:=s}):=⟨by
    simp only[B0,hto2,kk3,F3,hL.out];rfl⟩
   have hd2:AA (K3 p st.d7 to.n L=if sp.dead=false∧ch.many=L.length then Oh st.d7 to.n q L else some st.d7):=⟨by
    rw[K3,hq];simp only[hsd,hmn]⟩
   clear hsd hmn hcf;replace hm:=AA.mk hm;replace hS:=AA.mk hS;replace hG:=AA.mk hG;replace hA:=AA.mk hA;simp only[Ah]at hr;simp only[Er]at gS gG;have go:=AA.mk (Xz hM.out hu.out hA.out hq hr0.out (q.queue++[L]));have hs1:AA (sp.dead=true→B0 p x j st=some st):=⟨fun h=>by rw[hd.out,hd2.out,D3 (by simp[h])];rfl⟩;have hs2:AA (¬ch.many=L.length→B0 p x j st=some st):=⟨fun h=>by rw[hd.out,hd2.out,D3 (fun hh=>h hh.2)];rfl⟩;have hs3:AA (sp.dead=false→ch.many=L.length→q.queue.length<12→B0 p x j st=some {st with d7:={st.d7 with ac:=st.d7.ac.set to.n.toNat {q with queue:=q.queue++[L]}}}):=⟨fun h1 h2 h3=>by rw[hd.out,hd2.out,D7 ⟨h1,h2⟩,Oh,D7 h3];rfl⟩
   have hs4:AA (sp.dead=false→ch.many=L.length→ ¬q.queue.length<12→B0 p x j st=none):=⟨fun h1 h2 h3=>by rw[hd.out,hd2.out,D7 ⟨h1,h2⟩,Oh,D3 h3];rfl⟩;clear hd hd2;have Am:Id.is A m=false:=AF fun e=>by rw[e,gm]at gA;cases gA
   have mA:Id.is m A=false:=AF fun e=>by rw[←e,gm]at gA;cases gA
   rcases S0 hqs with⟨hv0,hz⟩|⟨Q,zs,rfl,gQ⟩
   .replace hz:=AA.mk (F9.1 hz);rcases kl.out with⟨rfl,rfl⟩|⟨n,hnb,rfl,hg⟩;all_goals clear kl
    .have him0: ¬(0:Int)<x.args.length:=him;have hL0:=CE hiL.symm;subst hL0;clear hiL;rcases hv0 with rfl|rfl;all_goals
      (repeat' (first|simp only[go_sem, *,AM]|(refine sx ?_ ?_<;>intro hc)|refine sy (by omega) fun x hx hm=>?_|simp(disch:=first|assumption|omega) only[AG]))
      all_goals
       first
       |(rw[hs1.out (by assumption)];exact same.out _ (fun id b=>by have q1:=AE b;simp only[go_sem,q1,AM]))
       |(rw[hs2.out (by first|assumption|(show¬ch.many=0;assumption))];exact same.out _ (fun id b=>by have q1:=AE b;simp only[go_sem,q1,AM]))
       |(rw[hs3.out (by assumption) (by first|assumption|(show ch.many=0;assumption)) (by first|assumption|omega|(rw[hz.out];decide))];refine⟨rfl,?_⟩;refine go.out (.d8 (1::(b+85)::π) 0 1) _ ?_ ?_ (MY (Aq [] ?_ ?_)) (.inr fun id2 hid=>?_) fun id2 b1 b2 b3 b4=>?_;all_goals (first|(simp only[AD,Ac]at hid;subst hid;exact⟨A4 [1,b+85],_,rfl⟩)|(have q1:=AE b4;have q2:=k1.out id2 b4;simp only[go_sem,q1,q2,b1,b2,AM];done)|(simp[hz.out];done)|(simp only[go_sem,e1,e2,a1,a2,Am,mA,gm,BT,hS.out,hG.out,hA.out,Ah,BV,Be,AM,hz.out];first|done|rfl));done)
    .subst hiL;have d1: ¬b+84=n:=by omega
     have d2: ¬n=b+84:=by omega
     have d3: ¬b+85=n:=by omega
     have d4: ¬n=b+85:=by omega
     rcases hv0 with rfl|rfl;all_goals
      (repeat' (first|simp only[go_sem, *,AM]|(refine sx ?_ ?_<;>intro hc)|refine sy (by omega) fun x hx hm=>?_|simp(disch:=first|assumption|omega) only[AG]))
      all_goals
       first
       |(rw[hs1.out (by assumption)];exact same.out _ (fun id b=>by have q1:=AE b;simp only[go_sem,q1,AM]))
       |(rw[hs2.out (by first|assumption|(show¬ch.many=0;assumption))];exact same.out _ (fun id b=>by have q1:=AE b;simp only[go_sem,q1,AM]))
       |(rw[hs3.out (by assumption) (by first|assumption|(show ch.many=0;assumption)) (by first|assumption|omega|(rw[hz.out];decide))];refine⟨rfl,?_⟩;refine go.out (.d8 (1::(b+85)::π) 0 1) _ ?_ ?_ (MY (Aq [] ?_ ?_)) (.inr fun id2 hid=>?_) fun id2 b1 b2 b3 b4=>?_;all_goals (first|(simp only[AD,Ac]at hid;subst hid;exact⟨A4 [1,b+85],_,rfl⟩)|(have q1:=AE b4;have q2:=k1.out id2 b4;simp only[go_sem,q1,q2,b1,b2,AM];done)|(simp[hz.out];done)|(simp only[go_sem,e1,e2,a1,a2,Am,mA,gm,BT,hS.out,hG.out,hA.out,Ah,BV,Be,AM,hz.out];first|done|rfl));done)
   .have hQm:=V.row_mem m (By.2 ⟨_,Ap hr0.out,(by simp[Cc,AD]:Q∈A5 (Ah q (.d8 Q 0 (q.queue.map CU).length)))⟩);have uQ:=hu.out Q hQm;replace hQm:=AA.mk hQm;replace gQ:=(k1.out Q uQ).trans gQ;have a5:=AE uQ;have a6:=AZ uQ;have QA:Id.is Q A=false:=AF fun e=>by rw[e,gA]at gQ;cases gQ
    have AQ:Id.is A Q=false:=AF fun e=>by rw[←e,gA]at gQ;cases gQ
    have Qm:Id.is Q m=false:=AF fun e=>by rw[e,gm]at gQ;cases gQ
    have mQ:Id.is m Q=false:=AF fun e=>by rw[←e,gm]at gQ;cases gQ
    rcases kl.out with⟨rfl,rfl⟩|⟨n,hnb,rfl,hg⟩;all_goals clear kl
    .have him0: ¬(0:Int)<x.args.length:=him;have hL0:=CE hiL.symm;subst hL0;clear hiL;by_cases hq12:(12:Int)≤q.queue.length;all_goals rcases zs with _|⟨z,zs⟩
     all_goals
      (repeat' (first|simp only[go_sem, *,AM]|(refine sx ?_ ?_<;>intro hc)|refine sy (by omega) fun x hx hm=>?_|simp(disch:=first|assumption|omega) only[AG]))
      all_goals
       first
       |(rw[hs1.out (by assumption)];exact same.out _ (fun id b=>by have q1:=AE b;simp only[go_sem,q1,AM]))
       |(rw[hs2.out (by first|assumption|(show¬ch.many=0;assumption))];exact same.out _ (fun id b=>by have q1:=AE b;simp only[go_sem,q1,AM]))
       |(rw[hs3.out (by assumption) (by first|assumption|(show ch.many=0;assumption)) (by first|assumption|omega|(rw[hz.out];decide))];refine⟨rfl,?_⟩;refine go.out (.d8 (1::(b+85)::π) 0 (q.queue.length+1)) _ ?_ ?_ (MY (Aq [] ?_ ?_)) (.inr fun id2 hid=>?_) fun id2 b1 b2 b3 b4=>?_;all_goals (first|(simp only[AD,Ac]at hid;subst hid;exact⟨A4 [1,b+85],_,rfl⟩)|(have q1:=AE b4;have q2:=k1.out id2 b4;have q5:=b3 Q (by simp[AD]);simp only[go_sem,q1,q2,b1,b2,q5,AM];done)|(simp;done)|(simp only[go_sem,e1,e2,a1,a2,Am,mA,gm,BT,hS.out,hG.out,hA.out,Ah,BV,Be,AM,a5,a6,QA,AQ,Qm,mQ];first|done|rfl));done)
       |(rw[hs3.out (by assumption) (by first|assumption|(show ch.many=0;assumption)) (by first|assumption|omega)];refine⟨rfl,?_⟩;refine go.out (.d8 Q 0 (q.queue.length+1)) _ ?_ ?_ (MY (Aq zs ?_ ?_)) (.inl rfl) fun id2 b1 b2 b3 b4=>?_;all_goals (first|(simp only[AD,Ac]at hid;subst hid;exact⟨A4 [1,b+85],_,rfl⟩)|(have q1:=AE b4;have q2:=k1.out id2 b4;have q5:=b3 Q (by simp[AD]);simp only[go_sem,q1,q2,b1,b2,q5,AM];done)|(simp;done)|(simp only[go_sem,e1,e2,a1,a2,Am,mA,gm,BT,hS.out,hG.out,hA.out,Ah,BV,Be,AM,a5,a6,QA,AQ,Qm,mQ];first|done|rfl));done)
       |(rw[hs4.out (by assumption) (by first|assumption|(show ch.many=0;assumption)) (by first|assumption|omega)];exact⟨rfl,⟨V,st.work,by simp only[go_sem,e1,e2,a1,a2,Am,mA,gm,BT,hS.out,hG.out,hA.out,Ah,BV,Be,AM,a5,a6,QA,AQ,Qm,mQ];first|done|rfl⟩,fun id2 b0 b4=>by(have b1:Id.is m id2=false:=AF fun e=>b0 (by rw[←e];exact V.m_mem m);have b2:Id.is A id2=false:=AF fun e=>b0 (by rw[←e];exact V.v3_mem m (by rw[hA.out];simp[AD]));have q5:Id.is Q id2=false:=AF fun e=>b0 (by rw[←e];exact hQm.out);have q1:=AE b4;have q2:=k1.out id2 b4;simp only[go_sem,q1,q2,b1,b2,q5,AM])⟩)
    .subst hiL;have d1: ¬b+84=n:=by omega
     have d2: ¬n=b+84:=by omega
     have d3: ¬b+85=n:=by omega
     have d4: ¬n=b+85:=by omega
     by_cases hq12:(12:Int)≤q.queue.length;all_goals rcases zs with _|⟨z,zs⟩
     all_goals
      (repeat' (first|simp only[go_sem, *,AM]|(refine sx ?_ ?_<;>intro hc)|refine sy (by omega) fun x hx hm=>?_|simp(disch:=first|assumption|omega) only[AG]))
      all_goals
       first
       |(rw[hs1.out (by assumption)];exact same.out _ (fun id b=>by have q1:=AE b;simp only[go_sem,q1,AM]))
       |(rw[hs2.out (by first|assumption|(show¬ch.many=0;assumption))];exact same.out _ (fun id b=>by have q1:=AE b;simp only[go_sem,q1,AM]))
       |(rw[hs3.out (by assumption) (by first|assumption|(show ch.many=0;assumption)) (by first|assumption|omega|(rw[hz.out];decide))];refine⟨rfl,?_⟩;refine go.out (.d8 (1::(b+85)::π) 0 (q.queue.length+1)) _ ?_ ?_ (MY (Aq [] ?_ ?_)) (.inr fun id2 hid=>?_) fun id2 b1 b2 b3 b4=>?_;all_goals (first|(simp only[AD,Ac]at hid;subst hid;exact⟨A4 [1,b+85],_,rfl⟩)|(have q1:=AE b4;have q2:=k1.out id2 b4;have q5:=b3 Q (by simp[AD]);simp only[go_sem,q1,q2,b1,b2,q5,AM];done)|(simp;done)|(simp only[go_sem,e1,e2,a1,a2,Am,mA,gm,BT,hS.out,hG.out,hA.out,Ah,BV,Be,AM,a5,a6,QA,AQ,Qm,mQ];first|done|rfl));done)
       |(rw[hs3.out (by assumption) (by first|assumption|(show ch.many=0;assumption)) (by first|assumption|omega)];refine⟨rfl,?_⟩;refine go.out (.d8 Q 0 (q.queue.length+1)) _ ?_ ?_ (MY (Aq zs ?_ ?_)) (.inl rfl) fun id2 b1 b2 b3 b4=>?_;all_goals (first|(simp only[AD,Ac]at hid;subst hid;exact⟨A4 [1,b+85],_,rfl⟩)|(have q1:=AE b4;have q2:=k1.out id2 b4;have q5:=b3 Q (by simp[AD]);simp only[go_sem,q1,q2,b1,b2,q5,AM];done)|(simp;done)|(simp only[go_sem,e1,e2,a1,a2,Am,mA,gm,BT,hS.out,hG.out,hA.out,Ah,BV,Be,AM,a5,a6,QA,AQ,Qm,mQ];first|done|rfl));done)
       |(rw[hs4.out (by assumption) (by first|assumption|(show ch.many=0;assumption)) (by first|assumption|omega)];exact⟨rfl,⟨V,st.work,by simp only[go_sem,e1,e2,a1,a2,Am,mA,gm,BT,hS.out,hG.out,hA.out,Ah,BV,Be,AM,a5,a6,QA,AQ,Qm,mQ];first|done|rfl⟩,fun id2 b0 b4=>by(have b1:Id.is m id2=false:=AF fun e=>b0 (by rw[←e];exact V.m_mem m);have b2:Id.is A id2=false:=AF fun e=>b0 (by rw[←e];exact V.v3_mem m (by rw[hA.out];simp[AD]));have q5:Id.is Q id2=false:=AF fun e=>b0 (by rw[←e];exact hQm.out);have q1:=AE b4;have q2:=k1.out id2 b4;simp only[go_sem,q1,q2,b1,b2,q5,AM])⟩)
  .have hd:AA (B0 p x j st=some st):=⟨by simp only[B0,hto2,kk2,kk3,D8]⟩;rcases kl.out with⟨rfl,rfl⟩|⟨n,hnb,rfl,hg⟩;all_goals clear kl
   .have him0: ¬(0:Int)<x.args.length:=him;clear hiL
    (repeat' (first|simp only[go_sem, *]|(refine sx ?_ ?_<;>intro hc)|refine sy (by omega) fun x hx hm=>?_|simp(disch:=first|assumption|omega) only[AG]))
    rw[hd.out];refine same.out _ fun id b=>?_;have q1:=AE b;simp only[go_sem,q1,AM]
   .subst hiL
    (repeat' (first|simp only[go_sem, *]|(refine sx ?_ ?_<;>intro hc)|refine sy (by omega) fun x hx hm=>?_|simp(disch:=first|assumption|omega) only[AG]))
    rw[hd.out];refine same.out _ fun id b=>?_;have q1:=AE b;simp only[go_sem,q1,AM]
def En(l:List Int)(at_:Int)(env:List CZ):List FW:=l.map fun n=>⟨n,at_,env⟩
variable{k:Nat}{h:AB}{π:List Nat}{m:Abs.Id}
theorem rB{p:AK}{sz:List Int}(hF:Bq p sz)(IH0:Hl p sz k){V:MV}{st:CC}(hM:KP p sz h m V st)(hu:B4 π V m)(hI:Iv p sz k st)(j:FW){x:CT}(hj:LF p j x)(hp:p.nodes.length≤60)(hkl:x.kids.length≤2)(hjs: ∀j'∈En x.kids j.at_ j.env,Br p sz st.d7 j'):
 ∃o h',KL Tryz.prog cfg (.fn 111) [.ptr m 0,.agg [.d (.int .i64 (j.node)),.d (.int .i64 (j.at_)),.d (.be (j.env.map AI))]] h π true none=.ok (o,h')∧GF p sz π m V h (Bj (Dg p k) (En x.kids j.at_ j.env) st) o h':=by
 have hm:=hM.box;have um:=hu m (V.m_mem m);simp only[BS]at hm;have e1:=AE um;have e2:=AZ um;have hx:=hj.node;have hn:=hj.n0;have hel:=hj.len;have hxl:=Na hj;replace hM:=AA.mk hM;replace hu:=AA.mk hu;replace hjs:=AA.mk hjs;replace hI:=AA.mk hI
 (refine Aa rfl Tryz.func111 rfl rfl rfl ?_;show Wp _ _ _ _ (Tryz.f111.body.get rfl) _ _;simp only[Tryz.f111,AP])
 refine aw ?_;refine AY x.kids _ (S:=fun m' i (a:AB×Nat)=>⟨[(0,.ptr m 0),(3,.ptr (0::0::π) 0),(15,.d (.be (x.kids.map AO))),(16,.d (.int .i64 (m'))),(17,.d (.int .i64 (i)))],a.1,a.2+13,[]⟩)
  (Inv:=fun i rest a=>AA (∃V' st',IL p sz π m V h (a.2+13) V' st' a.1∧Iv p sz k st'∧(∀j'∈En rest j.at_ j.env,Br p sz st'.d7 j')∧Bj (Dg p k) (En x.kids j.at_ j.env) st=Bj (Dg p k) (En rest j.at_ j.env) st')∧a.1.get (0::0::π)=some (.box [.d (.int .i64 (j.node)),.d (.int .i64 (j.at_)),.d (.be (j.env.map AI))])) (b0:=(_,_)) rfl ⟨⟨V,st,?_,hI.out,hjs.out,rfl⟩,?_⟩ ?_ ?_
 .refine(OT hM.out hu.out fun id b=>?_).up (I4 _);have q1:=AE b;simp only[go_sem,q1,AM]
 .simp only[go_sem]
 .rintro i y ⟨g,b⟩ hy hi him ⟨hl,k2⟩ IH;dsimp only at*;obtain⟨V',st',hR,hI',hj',he⟩:=hl.out;clear hl;replace he:=AA.mk he;replace hI':=AA.mk hI';replace hj':=AA.mk hj';replace hR:=AA.mk hR;refine aw ?_;have hjy:=hj'.out ⟨y,j.at_,j.env⟩ (by simp[En]);refine AW (IH0 g ((b+23)::π) m V' st' ⟨y,j.at_,j.env⟩ hR.out.rep (hR.out.apart hu.out (by omega)) hI'.out.ol hjy hI'.out.w0 hI'.out.w1 hI'.out.w2 hI'.out.ev) (fun o1 g1 p1=>?_);have hb:=(hR.out.box hu.out (k:=0) (n:=b+23) (by omega) p1).trans k2;have hgo:AA (Bj (Dg p k) (En (y::x.kids.drop (i+1)) j.at_ j.env) st'=(Dg p k ⟨y,j.at_,j.env⟩ st').bind (Bj (Dg p k) (En (x.kids.drop (i+1)) j.at_ j.env))):=⟨rfl⟩;cases hd:Dg p k ⟨y,j.at_,j.env⟩ st' with
  |none=>
   rw[hd]at p1 hgo;have fin:=hR.out.em hu.out (by omega) p1;obtain rfl:=p1.1;refine aw ?_;rw[he.out,hgo.out];exact fin
  |some st2=>
   rw[hd]at p1 hgo;have hdp:=Gl hF k _ _ _ hI'.out.ol hjy hd;obtain⟨V2,hR2,_⟩:=hR.out.call hu.out (by omega) p1;obtain rfl:=p1.1;replace p1:=AA.mk p1;replace hd:=AA.mk hd;replace hR2:=AA.mk hR2;refine aw ?_;refine IH.out (_,_) ⟨⟨V2,st2,hR2.out.up (by omega),hI'.out.post hdp,fun j' hj2=>J2 (hj'.out j' ?_) hdp.ext,?_⟩,hb⟩
   .simp only[En,Ci,DL]at*;exact .inr hj2
   .rw[he.out,hgo.out];rfl
 .rintro i ⟨g,b⟩ hi him ⟨hl,k2⟩;dsimp only at*;obtain⟨V',st',hR,hI',hj',he⟩:=hl.out;clear hl;replace he:=AA.mk he;refine aw ?_;rw[he.out];exact hR.fin
theorem Kl(f:FW→CC→Option CC)(j:FW)(st:CC):Bj f [j] st=f j st:=by
 simp only[Bj];cases f j st<;>rfl
theorem eB{p:AK}{sz:List Int}{k:Nat}(hF:Bq p sz)(IH0:Hl p sz k){h:AB}{π:List Nat}{m:Abs.Id}{V:MV}{st:CC}(hM:KP p sz h m V st)(hu:B4 π V m)(hI:Iv p sz k st)(j:FW){x:CT}(hj:LF p j x)(hp:p.nodes.length≤60){e0:BM}(ha:x.args=[e0])(hf:e0.formed j.env.length=true){ka kb:Int}(hk:x.kids=[ka,kb])
 (hja:Br p sz st.d7 ⟨ka,j.at_,j.env⟩) (hjb:Br p sz st.d7 ⟨kb,j.at_,j.env⟩):
 ∃o h',KL Tryz.prog cfg (.fn 113) [.ptr m 0,.agg [.d (.int .i64 (j.node)),.d (.int .i64 (j.at_)),.d (.be (j.env.map AI))]] h π true none=.ok (o,h')∧GF p sz π m V h (Bj (Dg p k) (A6 x (NH x j.env) j.at_ j.env) st) o h':=by
 have hm:=hM.box;have um:=hu m (V.m_mem m);simp only[BS]at hm;have e1:=AE um;have e2:=AZ um;have hx:=hj.node;have hn:=hj.n0;have hel:=hj.len;have hxl:=Na hj;obtain⟨xo,xn,xa,xk⟩:=x;dsimp only at ha hk;subst ha;subst hk;have hvk: ∃v,v=e0.value j.env:=⟨_,rfl⟩;obtain⟨v,hv⟩:=hvk;have hval:=qb j.env e0 hf;rw[←hv]at hval;have hif:AA (NH ⟨xo,xn,[e0],[ka,kb]⟩ j.env=if v.kind=1∧v.n≠0 then 0 else 1):=⟨by simp only[NH,F7,hv]⟩;replace hv:=AA.mk hv;replace hM:=AA.mk hM;replace hu:=AA.mk hu;replace hja:=AA.mk hja;replace hjb:=AA.mk hjb;replace hI:=AA.mk hI;have go:AA (∀(c:Int),Br p sz st.d7 ⟨c,j.at_,j.env⟩→ ∀H n,(∀id,Id.under π id=false→H.get id=h.get id)→ ∃o g1,KL Tryz.prog cfg (.fn 66) [.ptr m 0,.d (.int .i64 (c)),.d (.int .i64 (j.at_)),.d (.be (j.env.map AI))] H (n::π) true none=.ok (o,g1)∧GF p sz π m V h (Dg p k ⟨c,j.at_,j.env⟩ st) o (gc (n::π) g1)):=⟨fun c hc H n hH=>by
  obtain⟨o,g1,h1,h2⟩:=IH0 H (n::π) m V st ⟨c,j.at_,j.env⟩ (GL hM.out hu.out hH) (hu.out.ext n) hI.out.ol hc hI.out.w0 hI.out.w1 hI.out.w2 hI.out.ev;exact⟨o,g1,h1,N9 hu.out hH h2⟩⟩
 by_cases hc:v.kind=1∧v.n≠0
 .rw[hif.out,D7 hc];clear hif;have hgo:AA (Bj (Dg p k) (A6 ⟨xo,xn,[e0],[ka,kb]⟩ 0 j.at_ j.env) st=Dg p k ⟨ka,j.at_,j.env⟩ st):=⟨Kl _ _ _⟩
  (refine Aa rfl Tryz.func113 rfl rfl rfl ?_;show Wp _ _ _ _ (Tryz.f113.body.get rfl) _ _;simp only[Tryz.f113,AP])
  refine aw ?_;refine FU (go.out ka hja.out _ _ fun id b=>?_) (fun o1 g1 p1=>?_)
  .have q1:=AE b;simp only[go_sem,q1,AM]
  .rw[←hgo.out]at p1;cases hr:Bj (Dg p k) (A6 ⟨xo,xn,[e0],[ka,kb]⟩ 0 j.at_ j.env) st;all_goals
    rw[hr]at p1;have fin:=AA.mk p1;obtain rfl:=p1.1;replace p1:=AA.mk p1;refine aw ?_;exact fin.out
 .rw[hif.out,D3 hc];clear hif;have hgo:AA (Bj (Dg p k) (A6 ⟨xo,xn,[e0],[ka,kb]⟩ 1 j.at_ j.env) st=Dg p k ⟨kb,j.at_,j.env⟩ st):=⟨Kl _ _ _⟩;have hz:(if v.kind=1 then v.n else 0)=0:=by
   split
   .rename_i hk;by_cases h0:v.n=0
    .exact h0
    .exact absurd ⟨hk,h0⟩ hc
   .rfl
  clear hc
  (refine Aa rfl Tryz.func113 rfl rfl rfl ?_;show Wp _ _ _ _ (Tryz.f113.body.get rfl) _ _;simp only[Tryz.f113,AP])
  refine aw ?_;refine FU (go.out kb hjb.out _ _ fun id b=>?_) (fun o1 g1 p1=>?_)
  .have q1:=AE b;simp only[go_sem,q1,AM]
  .rw[←hgo.out]at p1;cases hr:Bj (Dg p k) (A6 ⟨xo,xn,[e0],[ka,kb]⟩ 1 j.at_ j.env) st;all_goals
    rw[hr]at p1;have fin:=AA.mk p1;obtain rfl:=p1.1;replace p1:=AA.mk p1;refine aw ?_;exact fin.out
def J9(op:Int):Int×Int×Bool:=
 if op=1 then(0,0,true)else if op=7 then(0,0,true)else if op=2 then(-1,0,true)else if op=3 then(0,2,true)else if op=5 then(1,2,true)
 else if op=4 then(0,1,true)else if op=6 then(0,1,true)else if op=8 then(0,1,true)else(0,0,false)
theorem Jc(op:Int):BJ (KL Tryz.prog cfg) 168 [.d (.int .i64 op)] []=.ok (.ret (.f8 [.d (.int .i64 (J9 op).1),.d (.int .i64 (J9 op).2.1),.d (.bool (J9 op).2.2)]),[]):=by
 (refine Ao rfl Tryz.func168 rfl rfl rfl ?_;show Wp _ _ _ _ (Tryz.f168.body.get rfl) _ _;simp only[Tryz.f168,AP])
 (repeat' (first|simp only[go_sem, *]|(refine sx ?_ ?_<;>intro hc)|refine sy (by omega) fun x hx hm=>?_|simp(disch:=first|assumption|omega) only[AG]))
 all_goals simp[J9, *]
structure Pc(x:BM)(size depth n:Int)(h:AB)(π:List Nat)(idn:Abs.Id)(o:Ae)(h':AB):Prop where
 ret:Sm x size depth (60-n)→o=.ret (.f8 [])∧h'.get idn=some (.box [.d (.int .i64 (n+x.size))])
 em: ¬Sm x size depth (60-n)→o=.em GB
 frame: ∀id',Id.under π id'=false→Id.is idn id'=false→h'.get id'=h.get id'
variable{size depth n:Int}{h':AB}
theorem JI{x:BM}{id:Abs.Id}(hk: ¬Sm x size depth (60-n))(hf: ∀id',Id.under π id'=false→Id.is id id'=false→h'.get id'=h.get id'):Pc x size depth n h π id (.em GB) h':=⟨fun h=>absurd h hk,fun _=>rfl,hf⟩
theorem Mx{x:BM}{id:Abs.Id}(hk:Sm x size depth (60-n))(hg:h'.get id=some (.box [.d (.int .i64 (n+x.size))]))(hf: ∀id',Id.under π id'=false→Id.is id id'=false→h'.get id'=h.get id'):Pc x size depth n h π id (.ret (.f8 [])) h':=⟨fun _=>⟨rfl,hg⟩,fun h=>absurd hk h,hf⟩
theorem rJ(x:BM): ∀(size depth n:Int) (h:AB) (π:List Nat) (idn ids idd:Abs.Id),h.get idn=some (.box [.d (.int .i64 n)])→h.get ids=some (.box [.d (.int .i64 size)])→h.get idd=some (.box [.fn 217 [] [.ptr idn 0,.ptr ids 0,.ptr idd 0]])→Id.under π idn=false→Id.under π ids=false→Id.under π idd=false→Id.is idn ids=false→Id.is idn idd=false→0≤n→n≤60→1≤depth→depth≤70→
 ∃o h',KL Tryz.prog cfg (.fn 217) [.agg [.d (.int .i64 x.op),.d (.int .i64 x.n),.d (.be (x.kids.map Av))],.d (.int .i64 depth),.ptr idn 0,.ptr ids 0,.ptr idd 0] h π true none=.ok (o,h')∧Pc x size depth n h π idn o h':=by
 induction x using BM.ind with
 |h op m kids ih=>
 intro size depth n h π idn ids idd hg hgs hgd hu hus hud hns hnd h1 h2 h3 h4;simp only[BM.op_mk,BM.n_mk,BM.kids_mk]at*;have u1:=AE hu;have u2:=AZ hu;have u3:=AH hu;have v1:=AE hus;have v3:=AH hus;have x1:=AE hud;have x3:=AH hud;have w1:IntKind.i64.wrap (n+1)=n+1:=wrap_id (by omega) (by omega);have w2:IntKind.i64.wrap (depth+1)=depth+1:=wrap_id (by omega) (by omega)
 (refine Aa rfl Tryz.func217 rfl rfl rfl ?_;show Wp _ _ _ _ (Tryz.f217.body.get rfl) _ _;simp only[Tryz.f217,AP])
 have ih:=AA.mk ih;rcases kids with _|⟨a,_|⟨b,_|⟨c,l⟩⟩⟩
 ·(repeat' (first|simp only[go_sem, *]|(refine sx ?_ ?_<;>intro hc)|refine sy (by omega) fun x hx hm=>?_|simp(disch:=first|assumption|omega) only[AG]))
  all_goals try(rw[Cf];refine aw ?_)
  all_goals first
   |omega
   |(refine JI ?_ (fun id' e1 e2=>?_)
     .clear ih;grind [Sm,BM.size,DQ,BM.depth,DX,BM.formed]
     .simp only[get_put,AE e1,e2,AM,D8])
   |(refine Mx ?_ ?_ (fun id' e1 e2=>?_)
     .clear ih;grind [Sm,BM.size,DQ,BM.depth,DX,BM.formed]
     .simp[get_put,is_self,BM.size,DQ]
     .simp only[get_put,AE e1,e2,AM,D8])
 ·(repeat' (first|simp only[go_sem, *]|(refine sx ?_ ?_<;>intro hc)|refine sy (by omega) fun x hx hm=>?_|simp(disch:=first|assumption|omega) only[AG]))
  all_goals first
   |omega
   |(refine JI ?_ (fun id' e1 e2=>?_)
     .clear ih;grind [Sm,BM.size,DQ,BM.depth,DX,BM.formed]
     .simp only[get_put,AE e1,e2,AM,D8])
   |(refine Mx ?_ ?_ (fun id' e1 e2=>?_)
     .clear ih;grind [Sm,BM.size,DQ,BM.depth,DX,BM.formed]
     .simp[get_put,is_self,BM.size,DQ]
     .simp only[get_put,AE e1,e2,AM,D8])
 .have iha:=AA.mk (ih.out a (by simp));have ihb:=AA.mk (ih.out b (by simp));clear ih;have sa:=Q0 a;have sb:=Q0 b
  (repeat' (first|simp only[go_sem, *]|(refine sx ?_ ?_<;>intro hc)|refine sy (by omega) fun x hx hm=>?_|simp(disch:=first|assumption|omega) only[AG]))
  all_goals try
   (refine JI ?_ (fun id' e1 e2=>?_)
    .clear iha ihb;grind [Sm,BM.size,DQ,BM.depth,DX,BM.formed]
    .simp only[get_put,AE e1,e2,AM,D8])
  all_goals (rw[Cf];refine aw ?_)
  all_goals
   refine AW (iha.out size (depth+1) (n+1) _ _ idn ids idd ?_ ?_ ?_ (u3 _) (v3 _) (x3 _) hns hnd ?_ ?_ ?_ ?_) (fun o1 g1 p1=>?_)
   .simp only[go_sem,u1,hg]
   .simp only[go_sem,v1,hns,hgs,AM]
   .simp only[go_sem,x1,hnd,hgd,AM]
   .omega
   .omega
   .omega
   .omega
   have f1:=p1.frame;have s1:g1.get ids=some (.box [.d (.int .i64 size)]):=by
    rw[f1 ids (v3 _) hns];simp only[go_sem,v1,hns,hgs,AM]
   have d1:g1.get idd=some (.box [.fn 217 [] [.ptr idn 0,.ptr ids 0,.ptr idd 0]]):=by
    rw[f1 idd (x3 _) hnd];simp only[go_sem,x1,hnd,hgd,AM]
   have fr1: ∀id',Id.under π id'=false→Id.is idn id'=false→g1.get id'=h.get id':=fun id' e1 e2=>by
    rw[f1 id' (AH e1 _) e2];simp only[get_put,AE e1,e2,AM,D8]
   clear f1;by_cases ka:Sm a size (depth+1) (60-(n+1))
   .obtain⟨rfl,r1⟩:=p1.ret ka;clear p1;have fr1:=AA.mk fr1;refine aw ?_;rw[Cf];refine aw ?_;refine AW (ihb.out size (depth+1) (n+1+a.size) _ _ idn ids idd ?_ ?_ ?_ (u3 _) (v3 _) (x3 _) hns hnd ?_ ?_ ?_ ?_) (fun o2 g2 p2=>?_)
    .simp only[go_sem,u1,u3,r1,AM]
    .simp only[go_sem,v1,v3,hns,s1,AM]
    .simp only[go_sem,x1,x3,hnd,d1,AM]
    .omega
    .grind [Sm]
    .omega
    .omega
    have f2:=p2.frame;have fr: ∀id',Id.under π id'=false→Id.is idn id'=false→g2.get id'=h.get id':=fun id' e1 e2=>by
     rw[f2 id' (AH e1 _) e2];simp only[get_put,AE e1,Ag _ _ _ (AH e1 _),fr1.out id' e1 e2,AM,D8]
    have fr:=AA.mk fr;clear f2 fr1;by_cases kb:Sm b size (depth+1) (60-(n+1+a.size))
    .obtain⟨rfl,r2⟩:=p2.ret kb;clear p2;refine aw ?_;rw[Cf];refine aw ?_;refine Mx ?_ ?_ fun id' e1 e2=>?_
     .clear iha ihb fr;grind [Sm,BM.size,DQ,BM.depth,DX,BM.formed]
     .rw[Ag _ _ _ (u3 _),r2];simp[BM.size,DQ];omega
     .rw[Ag _ _ _ (AH e1 _),fr.out id' e1 e2]
    .obtain rfl:=p2.em kb;clear p2;refine aw ?_;refine JI ?_ fun id' e1 e2=>?_
     .clear iha ihb fr;grind [Sm,BM.size,DQ,BM.depth,DX,BM.formed]
     .rw[Ag _ _ _ (AH e1 _),fr.out id' e1 e2]
   .obtain rfl:=p1.em ka;clear p1;refine aw ?_;refine JI ?_ (fun id' e1 e2=>?_)
    .clear iha ihb;grind [Sm,BM.size,DQ,BM.depth,DX,BM.formed]
    .rw[Ag _ _ _ (AH e1 _),fr1 id' e1 e2]
 ·(repeat' (first|simp only[go_sem, *]|(refine sx ?_ ?_<;>intro hc)|refine sy (by omega) fun x hx hm=>?_|simp(disch:=first|assumption|omega) only[AG]))
  all_goals first
   |omega
   |(refine JI ?_ (fun id' e1 e2=>?_)
     .clear ih;grind [Sm,BM.size,DQ,BM.depth,DX,BM.formed]
     .simp only[get_put,AE e1,e2,AM,D8])
   |(refine Mx ?_ ?_ (fun id' e1 e2=>?_)
     .clear ih;grind [Sm,BM.size,DQ,BM.depth,DX,BM.formed]
     .simp[get_put,is_self,BM.size,DQ]
     .simp only[get_put,AE e1,e2,AM,D8])
theorem xB(x:BM)(size:Int):BJ (KL Tryz.prog cfg) 212 [.agg [.d (.int .i64 x.op),.d (.int .i64 x.n),.d (.be (x.kids.map Av))],.d (.int .i64 size)] []=.ok (G6 GB (x.ok size)):=by
 (refine Ao rfl Tryz.func212 rfl rfl rfl ?_;show Wp _ _ _ _ (Tryz.f212.body.get rfl) _ _;simp only[Tryz.f212,AP])
 refine aw ?_;refine AW (rJ x size 1 0 _ _ [0,2] [0,1] [0,4] rfl rfl rfl rfl rfl rfl rfl rfl ?_ ?_ ?_ ?_) (fun o1 g1 p1=>?_)
 .omega
 .omega
 .omega
 .omega
 have e:Sm x size 1 (60-0)↔x.ok size=true:=yU x size;cases hx:x.ok size with
 |true=>
  obtain⟨rfl,r1⟩:=p1.ret (e.2 hx);clear p1;refine aw ?_;rfl
 |false=>
  obtain rfl:=p1.em (fun h=>by rw[e.1 h]at hx;cases hx);clear p1;refine aw ?_;rfl
def wd(id:Abs.Id)(n:Nat):AV:=if n=0 then .emp else .d8 id 0 n
theorem A3{id:Abs.Id}{n:Nat}(h:n≠0):wd id n=.d8 id 0 n:=by rw[wd,D3 h]
structure Uh(π:List Nat)(l sz mt df:Abs.Id):Prop where
 ul:Id.under π l=false
 us:Id.under π sz=false
 um:Id.under π mt=false
 ud:Id.under π df=false
 ls:Id.is l sz=false
 lm:Id.is l mt=false
 ld:Id.is l df=false
 sl:Id.is sz l=false
 sm:Id.is sz mt=false
 sd:Id.is sz df=false
 ml:Id.is mt l=false
 ms:Id.is mt sz=false
 md:Id.is mt df=false
 dl:Id.is df l=false
 ds:Id.is df sz=false
 dm:Id.is df mt=false
structure Hn(h:AB)(p:AK)(l sz mt df:Abs.Id)(st:BF):Prop where
 box:h.get l=some (.box [.d (.be (p.free.map A0)),.d (.be (p.nodes.map Al)),.d (.be (p.defs.map A8)),.d (.int .i64 p.main),wd sz p.nodes.length,wd mt p.nodes.length,wd df p.defs.length])
 bv:p.nodes.length≠0→h.get sz=some (.d6 1 (st.bv.map AO))
 met:p.nodes.length≠0→h.get mt=some (.d6 1 (st.met.map B7))
 defs:p.defs.length≠0→h.get df=some (.d6 1 (st.defs.map B7))
structure Pe(p:AK)(l sz mt df:Abs.Id)(h:AB)(π:List Nat)(r:Option BF)(o:Ae)(h':AB):Prop where
 ret: ∀st',r=some st'→o=.ret (.f8 [])∧Hn h' p l sz mt df st'∧ ∀id',Id.under π id'=false→Id.is sz id'=false→Id.is mt id'=false→Id.is df id'=false→h'.get id'=h.get id'
 em:r=none→o=.em GB
variable{l df:Abs.Id}{r:Option BF}
theorem C9{p:AK}{sz mt:Abs.Id}(hr:r=none):Pe p l sz mt df h π r (.em GB) h':=⟨fun st' hs=>by{rw[hr]at hs;cases hs},fun _=>rfl⟩
@[go_sem] theorem AAb:cfg.rx 307 "cabotage/scope.kids" =some 236:=rfl
@[go_sem] theorem AAc:cfg.rx 308 "cabotage/scope.kids" =some 237:=rfl
@[go_sem] theorem AAd:cfg.rx 309 "cabotage/scope.kids" =some 238:=rfl
@[go_sem] theorem AAe:cfg.rx 310 "cabotage/scope.kids" =some 239:=rfl
@[go_sem] theorem AAf:cfg.rx 314 "cabotage/scope.kids" =some 240:=rfl
structure k8(p:AK)(l sz mt df:Abs.Id)(h:AB)(π:List Nat)(L:List (Nat×Abs.Obj))(st:BF)(g:AB):Prop where
 looks:Hn g p l sz mt df st
 node: ∀q∈L,g.get (0::q.1::π)=some q.2
 frame: ∀id',Id.under π id'=false→Id.is sz id'=false→Id.is mt id'=false→Id.is df id'=false→g.get id'=h.get id'
theorem Ej{sz mt:Abs.Id}(h:Uh π l sz mt df)(n:Nat):Uh (n::π) l sz mt df:={h with ul:=AH h.ul n,us:=AH h.us n,um:=AH h.um n,ud:=AH h.ud n}
theorem S5(i j:Nat)(π:List Nat)(h:i≠j):Id.under (i::π) (0::j::π)=false:=Du fun hs=>by
 rcases He.1 hs with e|hs
 .have:=congrArg List.length e;simp at this
 rcases He.1 hs with e|hs
 .simp only[Ok,and_true]at e;exact h e
 .have:=hs.length_le;simp at this;omega
variable{g:AB}{st:BF}{ρ:List Nat}
theorem Kn{p:AK}{sz mt:Abs.Id}(h:Hn g p l sz mt df st)(hi:Uh ρ l sz mt df):Hn (gc ρ g) p l sz mt df st:=
 ⟨by rw[Ag _ _ _ hi.ul];exact h.box,fun hn=>by rw[Ag _ _ _ hi.us];exact h.bv hn,fun hn=>by rw[Ag _ _ _ hi.um];exact h.met hn,fun hn=>by rw[Ag _ _ _ hi.ud];exact h.defs hn⟩
variable{L:List (Nat×Abs.Obj)}{j:Nat}
theorem Gb{p:AK}{sz mt:Abs.Id}(hf:k8 p l sz mt df h π L st g)(hi:Uh π l sz mt df){o:Abs.Obj}(hj: ∀q∈L,j≠q.1):k8 p l sz mt df h π L st (g.put (0::j::π) o):=by
 refine⟨⟨?_,fun hn=>?_,fun hn=>?_,fun hn=>?_⟩,fun q hq=>?_,fun id' h1 h2 h3 h4=>?_⟩
 .rw[get_put,AE hi.ul];exact hf.looks.box
 .rw[get_put,AE hi.us];exact hf.looks.bv hn
 .rw[get_put,AE hi.um];exact hf.looks.met hn
 .rw[get_put,AE hi.ud];exact hf.looks.defs hn
 .have:Id.is (0::j::π) (0::q.1::π)=false:=AF fun e=>hj q hq (by simpa using e);rw[get_put,this];exact hf.node q hq
 .rw[get_put,AE h1];exact hf.frame id' h1 h2 h3 h4
variable{st':BF}{g':AB}
theorem NZ{p:AK}{sz mt:Abs.Id}(hf:k8 p l sz mt df h π L st g)(hi:Uh π l sz mt df)(hj: ∀q∈L,j≠q.1)(hl:Hn g' p l sz mt df st')(hg: ∀id',Id.under (j::π) id'=false→Id.is sz id'=false→Id.is mt id'=false→Id.is df id'=false→g'.get id'=g.get id'):k8 p l sz mt df h π L st' (gc (j::π) g'):=by
 refine⟨Kn hl (Ej hi j),fun q hq=>?_,fun id' h1 h2 h3 h4=>?_⟩
 .have hu:=S5 j q.1 π (hj q hq);rw[Ag _ _ _ hu,hg _ hu (AZ hi.us _ _) (AZ hi.um _ _) (AZ hi.ud _ _)];exact hf.node q hq
 .rw[Ag _ _ _ (AH h1 j),hg _ (AH h1 j) h2 h3 h4];exact hf.frame id' h1 h2 h3 h4
theorem Fk{p:AK}(h:st.fit p)(hg:dB st st'):st'.fit p:=⟨hg.bv.trans h.bv,hg.met.trans h.met,hg.defs.trans h.defs⟩
theorem mZ(x:BM)(size:Int):BJ (KL Tryz.prog cfg) 212 [.agg [.d (.int .i64 x.op),.d (.int .i64 x.n),.d (.be (x.kids.map Av))],.d (.int .i64 size)] []=Bg GB (x.ok size):=by rw[xB,Q8]
theorem Mz(d:Bz):BJ (KL Tryz.prog cfg) 213 [.agg [.d (.be (d.ac.map Ab)),.d (.be (d.am.map AR)),.d (.be (d.rules.map Af))]] []=Bg GB d.okG:=by rw[wz,Q8]
theorem Mf{p:AK}{x:CT}(hn:0≤n)(ht:st.met[n.toNat]? =some false)(hx:p.nodes[n.toNat]? =some x):Az p (k+1) n size st=if CV p size x=true then match PH p size x (st.meet n size)with
 |some (l,st2)=>Bl (Az p k) l st2
 |none=>none
 else none:=by
 rw[Az,D7 ⟨hn,ht⟩,hx];all_goals rfl
theorem S7{p:AK}{x:CT}(hn:0≤n)(ht:st.met[n.toNat]? =some false)(hx:p.nodes[n.toNat]? =some x)(hb:CV p size x=false):Az p (k+1) n size st=none:=by
 rw[Mf hn ht hx,hb,D3 (by simp)]
theorem Ku(p:AK)(hN:p.nodes.length≤60)(n size:Int)(st:BF)(h:AB)(π:List Nat)(l sz mt df:Abs.Id)(hfit:st.fit p)(hid:Uh π l sz mt df)(hl:Hn h p l sz mt df st)(hb:0≤n→n<p.nodes.length→st.met[n.toNat]? =some true):
 ∃o h',KL Tryz.prog cfg (.fn 201) [.ptr l 0,.d (.int .i64 n),.d (.int .i64 size)] h π true none=.ok (o,h')∧Pe p l sz mt df h π none o h':=by
 obtain⟨ul,us,um,ud,ls,lm,ld,sl,sm,sd,ml,ms,md,dl,ds,dm⟩:=hid;obtain⟨lbox,lsz,lmt,ldf⟩:=hl;have lsz:=AA.mk lsz;have ldf:=AA.mk ldf;have hb:=AA.mk hb;have hfm:=hfit.met
 (refine Aa rfl Tryz.func201 rfl rfl rfl ?_;show Wp _ _ _ _ (Tryz.f201.body.get rfl) _ _;simp only[Tryz.f201,AP])
 by_cases hn:0≤n
 .by_cases hn2:n<p.nodes.length
  .have hne:p.nodes.length≠0:=by omega
   have hlt:n.toNat<p.nodes.length:=by omega
   have ht:=hb.out hn hn2;have lmt:=lmt hne;rw[A3 hne,A3 hne]at lbox;refine aw ?_;exact C9 rfl
  .refine aw ?_;exact C9 rfl
 .refine aw ?_;exact C9 rfl
theorem ck(p:AK)(hN:p.nodes.length≤60)(hD:p.defs.length≤12): ∀(k:Nat) (n size:Int) (st:BF) (h:AB) (π:List Nat) (l sz mt df:Abs.Id),DT st.met≤k→st.fit p→0≤size→size+70*k≤5000→Uh π l sz mt df→Hn h p l sz mt df st→
 ∃o h',KL Tryz.prog cfg (.fn 201) [.ptr l 0,.d (.int .i64 n),.d (.int .i64 size)] h π true none=.ok (o,h')∧Pe p l sz mt df h π (Az p k n size st) o h':=by
 intro k;induction k with
 |zero=>
  intro n size st h π l sz mt df hk hfit h0 hb hid hl;refine Ku p hN n size st h π l sz mt df hfit hid hl fun h1 h2=>?_;obtain⟨t,ht⟩:=get_some (l:=st.met) (i:=n.toNat) (by rw[hfit.met];omega);cases t with
  |true=>exact ht
  |false=>have:=EK ht;omega
 |succ k ih=>
 intro n size st h π l sz mt df hk hfit h0 hb hid hl;have hid2:=AA.mk hid;obtain⟨ul,us,um,ud,ls,lm,ld,sl,sm,sd,ml,ms,md,dl,ds,dm⟩:=hid;have hl2:=AA.mk hl;obtain⟨lbox,lsz,lmt,ldf⟩:=hl;have e1:=AE ul;have e2:=AE us;have e3:=AE um;have e4:=AE ud;have e5:=AZ ul;have e6:=AZ us;have e7:=AZ um;have e8:=AZ ud;by_cases hn:0≤n
 .by_cases hn2:n<p.nodes.length
  .have hne:p.nodes.length≠0:=by omega
   have hlt:n.toNat<p.nodes.length:=by omega
   obtain⟨x,hx⟩:=get_some hlt;obtain⟨t,ht⟩:=get_some (l:=st.met) (i:=n.toNat) (by rw[hfit.met];omega);obtain⟨s0,hs0⟩:=get_some (l:=st.bv) (i:=n.toNat) (by rw[hfit.bv];omega);have lmt:=lmt hne;have lsz:=lsz hne;rw[A3 hne,A3 hne]at lbox;have ih:=AA.mk ih;have ldf:=AA.mk ldf;have hfs:=hfit.bv;have hfm:=hfit.met;cases t with
   |true=>
    have e:Az p (k+1) n size st=none:=by
     rw[Az,D3];rw[ht];simp
    rw[e];exact Ku p hN n size st h π l sz mt df hfit hid2.out hl2.out fun _ _=>ht
   |false=>
    (refine Aa rfl Tryz.func201 rfl rfl rfl ?_;show Wp _ _ _ _ (Tryz.f201.body.get rfl) _ _;simp only[Tryz.f201,AP])
    have hs:=AA.mk (Mf (p:=p) (k:=k) (size:=size) hn ht hx);have hbad:=AA.mk (S7 (p:=p) (k:=k) (size:=size) hn ht hx);obtain⟨xo,xn,xa,xk⟩:=x;have hn0:AA (∀o o',k8 p l sz mt df h π [(46,o')] (st.meet n size) ((((h.put mt (.d6 1 ((List.map B7 st.met).set n.toNat [.bool true]))).put sz (.d6 1 ((List.map AO st.bv).set n.toNat [.int .i64 size]))).put (0::46::π) o).put (0::46::π) o')):=.mk fun o o'=>by
     refine⟨⟨?_,fun _=>?_,fun _=>?_,fun hd=>?_⟩,?_,fun id' h1 h2 h3 h4=>?_⟩
     .rw[A3 hne,A3 hne];simp only[get_put,e1,sl,ml,AM,D8,lbox]
     .simp only[get_put,e2,is_self,AM,D8,F3,BF.meet,Ms];rfl
     .simp only[get_put,e3,sm,is_self,AM,D8,F3,BF.meet,Ms];rfl
     .simp only[get_put,e4,sd,md,AM,D8,BF.meet,ldf.out hd]
     .intro q hq;cases Ac.1 hq;simp only[get_put,is_self,F3]
     .simp only[get_put,AE h1,h2,h3,AM,D8]
    by_cases o4:xo=4
    .subst o4;by_cases x0:xn<0
     ·(repeat' (first|simp only[go_sem, *,GR,K5]|(refine sx ?_ ?_<;>intro hc)|refine sy (by omega) fun x hx hm=>?_|simp(disch:=first|assumption|omega) only[AG]))
      all_goals try(exfalso;omega)
      all_goals (exact C9 (hbad.out (by clear e1 e2 e3 e4 e5 e6 e7 e8 lbox lmt lsz hs hbad ih hn0;grind [CV,Cz,UA,DV])))
     by_cases x1:(p.defs.length:Int)≤xn
     ·(repeat' (first|simp only[go_sem, *,GR,K5]|(refine sx ?_ ?_<;>intro hc)|refine sy (by omega) fun x hx hm=>?_|simp(disch:=first|assumption|omega) only[AG]))
      all_goals try(exfalso;omega)
      all_goals (exact C9 (hbad.out (by clear e1 e2 e3 e4 e5 e6 e7 e8 lbox lmt lsz hs hbad ih hn0;grind [CV,Cz,UA,DV])))
     have x2:0≤xn:=by omega
     have x3:xn<p.defs.length:=by omega
     have hdl:p.defs.length≠0:=by omega
     have hxlt:xn.toNat<p.defs.length:=by omega
     obtain⟨d,hd⟩:=get_some hxlt;obtain⟨t,htd⟩:=get_some (l:=st.defs) (i:=xn.toNat) (by rw[hfit.defs];omega);have hfd:=hfit.defs;have ldf2:=ldf.out hdl;rw[A3 hdl]at lbox;have hinto:PH p size ⟨4,xn,xa,xk⟩ (st.meet n size)=if st.defs[xn.toNat]? =some false∧d.okG=true then some (CK d (size+d.own) d.rules++(Bt (size+d.own) d.am++Bm (size+d.own) xk),{st.meet n size with defs:=st.defs.set xn.toNat true})else none:=by
      rw[PH,D7 rfl,hd];rfl
     have hinto:=AA.mk hinto;have hn1:AA (∀o o' b,k8 p l sz mt df h π [(131,o'),(46,b)] {st.meet n size with defs:=st.defs.set xn.toNat true} (((((((h.put mt (.d6 1 ((List.map B7 st.met).set n.toNat [.bool true]))).put sz (.d6 1 ((List.map AO st.bv).set n.toNat [.int .i64 size]))).put (0::46::π) (.box [.d (.int .i64 0),.d (.int .i64 0),.ci,.ci])).put (0::46::π) b).put df (.d6 1 ((List.map B7 st.defs).set xn.toNat [.bool true]))).put (0::131::π) o).put (0::131::π) o')):=.mk fun o o' b=>by
      refine⟨⟨?_,fun _=>?_,fun _=>?_,fun hd=>?_⟩,?_,fun id' h1 h2 h3 h4=>?_⟩
      .rw[A3 hne,A3 hne,A3 hdl];simp only[get_put,e1,sl,ml,dl,AM,D8,lbox]
      .simp only[get_put,e2,ds,is_self,AM,D8,F3,BF.meet,Ms];rfl
      .simp only[get_put,e3,sm,dm,is_self,AM,D8,F3,BF.meet,Ms];rfl
      .simp only[get_put,e4,is_self,AM,D8,F3,BF.meet,Ms];rfl
      .simp only[DL,F6,LC,F8,forall_eq];simp only[go_sem,e8]
      .simp only[get_put,AE h1,h2,h3,h4,AM,D8]
     by_cases hgt:t=false∧d.okG=true
     .obtain⟨rfl,hg⟩:=hgt;have hdo:=Qh hg;have c1:=hdo.ac;have c2:=hdo.am;have c3:=hdo.rules;have hown:=OE hdo;have hok:=yY d (by omega) (by omega);have hdo:=AA.mk hdo
      (repeat' (first|simp only[go_sem, *,GR,K5,Mz]|(refine sx ?_ ?_<;>intro hc)|refine sy (by omega) fun x hx hm=>?_|simp(disch:=first|assumption|omega) only[AG]))
      all_goals try(exfalso;omega)
      all_goals try(exact C9 (hbad.out (by clear e1 e2 e3 e4 e5 e6 e7 e8 lbox lmt lsz hs hbad ih hn0;grind [CV,Cz,UA,DV])))
      rw[Cf]
      (repeat' (first|simp only[go_sem, *,Mz]|(refine sx ?_ ?_<;>intro hc)|refine sy (by omega) fun x hx hm=>?_|simp(disch:=first|assumption|omega) only[AG]))
      refine AY d.rules _ (fun m i a=>⟨[(0,.ptr l 0),(2,.d (.int .i64 (size+(d.own:Int)))),(6,.ptr (0::46::π) 0),(11,.ptr (0::131::π) 0),(190,.d (.be (d.rules.map Af))),(191,.d (.int .i64 m)),(192,.d (.int .i64 i))],a.1.1,a.2+144,[]⟩)
       (Inv:=fun i rest a=>k8 p l sz mt df h π [(131,.box [.d (.be (d.ac.map Ab)),.d (.be (d.am.map AR)),.d (.be (d.rules.map Af))]),(46,.box [.d (.int .i64 4),.d (.int .i64 xn),.d (.be (xa.map Av)),.d (.be (xk.map AO))])] a.1.2 a.1.1∧a.1.2.fit p∧DT a.1.2.met≤k∧AA (Az p (k+1) n size st=Bl (Az p k) (CK d (size+d.own) rest++(Bt (size+d.own) d.am++Bm (size+d.own) xk)) a.1.2)) (b0:=((_,{st.meet n size with defs:=st.defs.set xn.toNat true}),_)) ?_ ⟨hn1.out _ _ _,?_,?_,⟨?_⟩⟩ ?_ ?_
      .rfl
      .have:=NY hfit n size;exact⟨this.bv,this.met,by simp[hfit.defs]⟩
      .have:=EK ht;simp only[BF.meet];omega
      .rw[hs.out,D7,hinto.out,D7 ⟨htd,hg⟩];have h00:((xa.length:Int)=0):=by assumption
       have hxa:xa=[]:=CE (by omega);clear e1 e2 e3 e4 e5 e6 e7 e8 lbox lmt lsz hs hbad ih hn0 hn1 hdo hinto;grind [CV,Cz,UA,DV]
      .rintro i r ⟨⟨g,st1⟩,c⟩ hy hi him ⟨hf,hfit1,hun,hv⟩ IH;dsimp only at*;have hr1:=hf.node _ (FD ..);dsimp only at hr1;have hj:=MU hdo.out (Ap hy);have hb1:=dc d r hj;have hb2:=Jm hj.2.2 r.d9;have hb3:=hj.1;have hj:=AA.mk hj;refine aw ?_;refine FU (ih.out r.node (size+d.own+CD d r.d9) st1 _ _ l sz mt df hun hfit1 (by omega) (by omega) (Ej hid2.out _) (Gb (Gb hf hid2.out ?_) hid2.out ?_).looks) (fun o1 g1 p1=>?_)
       .simp only[DL,F6,LC,F8,forall_eq];omega
       .simp only[DL,F6,LC,F8,forall_eq];omega
       cases hvy:Az p k r.node (size+d.own+CD d r.d9) st1 with
       |none=>
        obtain rfl:=p1.em hvy;clear p1;refine aw ?_;refine C9 (hv.out.trans ?_);simp only[CK,Ci,Es,Bl,hvy]
       |some st2=>
        obtain⟨rfl,hl2,hfr⟩:=p1.ret st2 hvy;have hfr:=AA.mk hfr;clear p1;refine aw ?_;have hgr:=B3 p _ _ _ _ _ hvy;refine IH.out ((_,st2),_) ⟨NZ (Gb (Gb hf hid2.out ?_) hid2.out ?_) hid2.out ?_ hl2 hfr.out,Fk hfit1 hgr,Hw hgr.less hun,⟨?_⟩⟩
        .simp only[DL,F6,LC,F8,forall_eq];omega
        .simp only[DL,F6,LC,F8,forall_eq];omega
        .simp only[DL,F6,LC,F8,forall_eq];omega
        .rw[hv.out];simp only[CK,Ci,Es,Bl,hvy]
      .rintro i ⟨⟨g,st1⟩,c⟩ hi him ⟨hf,hfit1,hun,hv⟩;dsimp only at*;have hr1:=hf.node _ (FD ..);have hr2:=hf.node _ (EX _ (FD ..));dsimp only at hr1 hr2;refine aw ?_;refine AY d.am _ (fun m i a=>⟨[(0,.ptr l 0),(2,.d (.int .i64 (size+(d.own:Int)))),(6,.ptr (0::46::π) 0),(207,.d (.be (d.am.map AR))),(208,.d (.int .i64 m)),(209,.d (.int .i64 i))],a.1.1,a.2+144,[]⟩)
        (Inv:=fun i rest a=>k8 p l sz mt df h π [(131,.box [.d (.be (d.ac.map Ab)),.d (.be (d.am.map AR)),.d (.be (d.rules.map Af))]),(46,.box [.d (.int .i64 4),.d (.int .i64 xn),.d (.be (xa.map Av)),.d (.be (xk.map AO))])] a.1.2 a.1.1∧a.1.2.fit p∧DT a.1.2.met≤k∧AA (Az p (k+1) n size st=Bl (Az p k) (Bt (size+d.own) rest++Bm (size+d.own) xk) a.1.2)) (b0:=((g,st1),_)) rfl ⟨hf,hfit1,hun,⟨?_⟩⟩ ?_ ?_
       .exact hv.out
       .clear hf hfit1 hun hv hr1 hr2 i hi him g st1 c;rintro i r ⟨⟨g,st1⟩,c⟩ hy hi him ⟨hf,hfit1,hun,hv⟩ IH;dsimp only at*;refine aw ?_;refine AW (ih.out r.node (size+d.own) st1 _ _ l sz mt df hun hfit1 (by omega) (by omega) (Ej hid2.out _) (Gb (Gb hf hid2.out ?_) hid2.out ?_).looks) (fun o1 g1 p1=>?_)
        .simp only[DL,F6,LC,F8,forall_eq];omega
        .simp only[DL,F6,LC,F8,forall_eq];omega
        cases hvy:Az p k r.node (size+d.own) st1 with
        |none=>
         obtain rfl:=p1.em hvy;clear p1;refine aw ?_;refine C9 (hv.out.trans ?_);simp only[Bt,Ci,Es,Bl,hvy]
        |some st2=>
         obtain⟨rfl,hl2,hfr⟩:=p1.ret st2 hvy;have hfr:=AA.mk hfr;clear p1;refine aw ?_;have hgr:=B3 p _ _ _ _ _ hvy;refine IH.out ((_,st2),_) ⟨NZ (Gb (Gb hf hid2.out ?_) hid2.out ?_) hid2.out ?_ hl2 hfr.out,Fk hfit1 hgr,Hw hgr.less hun,⟨?_⟩⟩
         .simp only[DL,F6,LC,F8,forall_eq];omega
         .simp only[DL,F6,LC,F8,forall_eq];omega
         .simp only[DL,F6,LC,F8,forall_eq];omega
         .rw[hv.out];simp only[Bt,Ci,Es,Bl,hvy]
       .clear hf hfit1 hun hv hr1 hr2 i hi him g st1 c;rintro i ⟨⟨g,st1⟩,c⟩ hi him ⟨hf,hfit1,hun,hv⟩;dsimp only at*;have hr1:=hf.node _ (FD ..);have hr2:=hf.node _ (EX _ (FD ..));dsimp only at hr1 hr2;refine aw ?_;refine AY xk _ (fun m i a=>⟨[(0,.ptr l 0),(2,.d (.int .i64 (size+(d.own:Int)))),(220,.d (.be (xk.map AO))),(221,.d (.int .i64 m)),(222,.d (.int .i64 i))],a.1.1,a.2+144,[]⟩)
         (Inv:=fun i rest a=>k8 p l sz mt df h π [(131,.box [.d (.be (d.ac.map Ab)),.d (.be (d.am.map AR)),.d (.be (d.rules.map Af))]),(46,.box [.d (.int .i64 4),.d (.int .i64 xn),.d (.be (xa.map Av)),.d (.be (xk.map AO))])] a.1.2 a.1.1∧a.1.2.fit p∧DT a.1.2.met≤k∧AA (Az p (k+1) n size st=Bl (Az p k) (Bm (size+d.own) rest) a.1.2)) (b0:=((g,st1),_)) ?_ ⟨hf,hfit1,hun,⟨?_⟩⟩ ?_ ?_
        .omega
        .exact hv.out
        .clear hf hfit1 hun hv hr1 hr2 i hi him g st1 c;rintro i y ⟨⟨g,st1⟩,c⟩ hy hi him ⟨hf,hfit1,hun,hv⟩ IH;dsimp only at*;refine aw ?_;refine AW (ih.out y (size+d.own) st1 _ _ l sz mt df hun hfit1 (by omega) (by omega) (Ej hid2.out _) hf.looks) (fun o1 g1 p1=>?_);cases hvy:Az p k y (size+d.own) st1 with
         |none=>
          obtain rfl:=p1.em hvy;clear p1;refine aw ?_;refine C9 (hv.out.trans ?_);simp only[Bm,Ci,Es,Bl,hvy]
         |some st2=>
          obtain⟨rfl,hl2,hfr⟩:=p1.ret st2 hvy;have hfr:=AA.mk hfr;clear p1;refine aw ?_;have hgr:=B3 p _ _ _ _ _ hvy;refine IH.out ((_,st2),_) ⟨NZ hf hid2.out ?_ hl2 hfr.out,Fk hfit1 hgr,Hw hgr.less hun,⟨?_⟩⟩
          .simp only[DL,F6,LC,F8,forall_eq];omega
          .rw[hv.out];simp only[Bm,Ci,Es,Bl,hvy]
        .clear hf hfit1 hun hv hr1 hr2 i hi him g st1 c;rintro i ⟨⟨g,st1⟩,c⟩ hi him ⟨hf,hfit1,hun,hv⟩;dsimp only at*;refine aw ?_;refine⟨fun st' hst=>?_,fun hst=>?_⟩
         .rw[hv.out]at hst;cases hst;exact⟨rfl,hf.looks,hf.frame⟩
         .rw[hv.out]at hst;cases hst
     .have hno:AA (Az p (k+1) n size st=none):=by
       refine⟨?_⟩;rw[hs.out,hinto.out,htd];split
       .rw[D3 (by simpa using hgt)]
       .rfl
      cases t
      .have hg:d.okG=false:=by simpa using hgt
       (repeat' (first|simp only[go_sem, *,GR,K5,Mz]|(refine sx ?_ ?_<;>intro hc)|refine sy (by omega) fun x hx hm=>?_|simp(disch:=first|assumption|omega) only[AG]))
       all_goals try(exfalso;omega)
       all_goals try(exact C9 hno.out)
       rw[Cf]
       (repeat' (first|simp only[go_sem, *,Mz]|(refine sx ?_ ?_<;>intro hc)|refine sy (by omega) fun x hx hm=>?_|simp(disch:=first|assumption|omega) only[AG]))
       try exact C9 hno.out
      ·(repeat' (first|simp only[go_sem, *,GR,K5]|(refine sx ?_ ?_<;>intro hc)|refine sy (by omega) fun x hx hm=>?_|simp(disch:=first|assumption|omega) only[AG]))
       all_goals try(exfalso;omega)
       all_goals (exact C9 hno.out)
    have hop:xo=1∨xo=7∨xo=3∨(xo=2∧3<(xa.length:Int))∨(xo=2∧ ¬3<(xa.length:Int))∨xo=5∨xo=6∨xo=8∨(¬xo=1∧ ¬xo=7∧ ¬xo=3∧ ¬xo=2∧ ¬xo=5∧ ¬xo=6∧ ¬xo=8):=by omega
    rcases hop with rfl|rfl|rfl|⟨rfl,ha⟩|⟨rfl,ha⟩|rfl|rfl|rfl|⟨n1,n2,n3,n4,n5,n6,n7⟩;all_goals ((repeat' (first|simp only[go_sem, *,GR,K5]|(refine sx ?_ ?_<;>intro hc)|refine sy (by omega) fun x hx hm=>?_|simp(disch:=first|assumption|omega) only[AG])))
    all_goals try(exfalso;omega)
    all_goals try(exact C9 (hbad.out (by clear e1 e2 e3 e4 e5 e6 e7 e8 lbox lmt lsz hs hbad ih hn0;grind [CV,Cz,UA,DV])))
    all_goals
     refine AY xa _ (fun m i a=>⟨[(0,.ptr l 0),(2,.d (.int .i64 size)),(6,.ptr (0::46::π) 0),(154,.d (.be (xa.map Av))),(155,.d (.int .i64 m)),(156,.d (.int .i64 i))],a.1,a.2+60,[]⟩)
      (Inv:=fun i rest a=>k8 p l sz mt df h π _ (st.meet n size) a.1∧AA (xa.all (BM.ok size)=rest.all (BM.ok size))) (b0:=(_,_)) ?_ ⟨hn0.out _ _,⟨rfl⟩⟩ ?_ ?_
     .omega
     .rintro i y ⟨g,c⟩ hy hi him ⟨hf,hr⟩ IH;dsimp only at*;try(exfalso;omega)
      all_goals ((repeat' (first|simp only[go_sem, *,mZ]|(refine sx ?_ ?_<;>intro hc)|refine sy (by omega) fun x hx hm=>?_|simp(disch:=first|assumption|omega) only[AG])))
      all_goals first
      |exact C9 (hbad.out (by simp only[CV,hr.out,D0, *,Ce,Gs]))
      |(refine IH.out (_,_) ⟨Gb (Gb hf hid2.out ?_) hid2.out ?_,⟨?_⟩⟩
        .intro q hq;cases Ac.1 hq;dsimp only;omega
        .intro q hq;cases Ac.1 hq;dsimp only;omega
        .rw[hr.out,D0];simp only[*,F0])
     .rintro i ⟨g,c⟩ hi him ⟨hf,hr⟩;dsimp only at*;have hnode:=hf.node _ (FD ..);dsimp only at hnode;refine aw ?_;refine AY xk _ (fun m i a=>⟨[(0,.ptr l 0),(2,.d (.int .i64 size)),(220,.d (.be (xk.map AO))),(221,.d (.int .i64 m)),(222,.d (.int .i64 i))],a.1.1,a.2+60,[]⟩)
       (Inv:=fun i rest a=>k8 p l sz mt df h π _ a.1.2 a.1.1∧a.1.2.fit p∧DT a.1.2.met≤k∧AA (Az p (k+1) n size st=Bl (Az p k) (Bm size rest) a.1.2)) (b0:=((_,st.meet n size),_)) ?_ ⟨hf,NY hfit _ _,?_,⟨?_⟩⟩ ?_ ?_
      .omega
      .have:=EK ht;simp only[BF.meet];omega
      .rw[hs.out,D7,PH]
       .rfl
       .have hall:xa.all (BM.ok size)=true:=by rw[hr.out];rfl
        clear e1 e2 e3 e4 e5 e6 e7 e8 lbox lmt lsz hs hbad ih hn0 hf hr hnode;grind [CV,Cz,UA,DV]
      .rintro i y ⟨⟨g,st1⟩,c⟩ hy hi him ⟨hf,hfit1,hun,hv⟩ IH;dsimp only at*;try(exfalso;omega)
       all_goals (refine aw ?_)
       all_goals
       refine AW (ih.out y size st1 g _ l sz mt df hun hfit1 h0 (by omega) (Ej hid2.out _) hf.looks) (fun o1 g1 p1=>?_);cases hvy:Az p k y size st1 with
       |none=>
        obtain rfl:=p1.em hvy;clear p1;refine aw ?_;refine C9 (hv.out.trans ?_);simp only[Bm,Ci,Bl,hvy]
       |some st2=>
        obtain⟨rfl,hl2,hfr⟩:=p1.ret st2 hvy;have hfr:=AA.mk hfr;clear p1;refine aw ?_;have hgr:=B3 p _ _ _ _ _ hvy;refine IH.out ((_,st2),_) ⟨NZ hf hid2.out ?_ hl2 hfr.out,Fk hfit1 hgr,Hw hgr.less hun,⟨?_⟩⟩
        .intro q hq;cases Ac.1 hq;dsimp only;omega
        .rw[hv.out];simp only[Bm,Ci,Bl,hvy]
      .rintro i ⟨⟨g,st1⟩,c⟩ hi him ⟨hf,hfit1,hun,hv⟩;dsimp only at*;refine aw ?_;refine⟨fun st' hst=>?_,fun hst=>?_⟩
       .rw[hv.out]at hst;cases hst;exact⟨rfl,hf.looks,hf.frame⟩
       .rw[hv.out]at hst;cases hst
  .have e:Az p (k+1) n size st=none:=by
    rw[Az];split
    .rename_i hh;have:=AL hh.2;rw[hfit.met]at this;omega
    .rfl
   rw[e];exact Ku p hN n size st h π l sz mt df hfit hid2.out hl2.out fun _ h=>absurd h hn2
 .have e:Az p (k+1) n size st=none:=by
   rw[Az,D3 fun hh=>hn hh.1]
  rw[e];exact Ku p hN n size st h π l sz mt df hfit hid2.out hl2.out fun h=>absurd h hn
def Rf(x:Bool):List Bool→Int→Int
 |[],_=> -1
 |y::l,i=>if (x==y)=true then i else Rf x l (i+1)
theorem We(v:Bool): ∀(l:List Bool) (i:Int),0≤i→(0≤Rf v l i↔v∈l)
 |[],i,h=>by simp[Rf]
 |y::l,i,h=>by
  rw[Rf];split
  .rename_i e;have:v=y:=by simpa using e
   simp[this,h]
  .rename_i e;have: ¬v=y:=by simpa using e
   rw[We v l (i+1) (by omega)];simp[this]
@[go_sem] theorem y6(l:List Bool)(v:Bool)(hl:l.length≤1000000):BJ (KL Tryz.prog cfg) 216 [.d (.be (l.map B7)),.d (.bool v)] []=.ok (.ret (.d (.int .i64 (Rf v l 0))),[]):=by
  (refine Ao rfl Tryz.func216 rfl rfl rfl ?_;show Wp _ _ _ _ (Tryz.f216.body.get rfl) _ _;simp only[Tryz.f216,AP])
  refine aw ?_;refine Au l (S:=fun i (u:Unit)=>⟨[(0,.d (.be (l.map B7))),(1,.d (.bool v)),(7,.d (.int .i64 l.length)),(8,.d (.int .i64 i))],[],0,[]⟩) (Inv:=fun i rest _=>AA (Rf v l 0=Rf v rest i)) (b0:=()) ⟨rfl⟩ ?_ ?_
  .rintro i y ⟨⟩ hy hi him hr IH
   (repeat' (first|simp only[go_sem, *]|(refine sx ?_ ?_<;>intro hc)|refine sy (by omega) fun x hx hm=>?_|simp(disch:=first|assumption|omega) only[AG]))
   .rw[hr.out,Rf,D7 (by assumption)]
   .refine IH.out () ⟨?_⟩;rw[hr.out,Rf,D3 (by simp[*])];rfl
  .rintro i ⟨⟩ hi him hr;refine aw ?_;rw[hr.out,Rf]
@[go_sem] theorem Ju(l:List Bool)(v:Bool)(hl:l.length≤1000000):BJ (KL Tryz.prog cfg) 202 [.d (.be (l.map B7)),.d (.bool v)] []=.ok (.ret (.d (.bool (decide (v∈l)))),[]):=by
  have h:=We v l 0 (by omega)
  (refine Ao rfl Tryz.func202 rfl rfl rfl ?_;show Wp _ _ _ _ (Tryz.f202.body.get rfl) _ _;simp only[Tryz.f202,AP])
  exact au
theorem E5(g:G)(id:Abs.Id)(n:Nat)(h:0<n)(hm:n≤1073741824):FG g id n {kind:=TK.int,size:=1,agg:=false,str:=false,zero:=[.d (.int .i64 0)],wp:=[],elem:=0,key:=0,mix:=false}=some ⟨.d8 (1::id) 0 n,[(1::id,.d6 1 ((List.replicate n (0:Int)).map AO))]⟩:=by
 have e:(List.replicate n (0:Int)).map AO=List.replicate n [.int .i64 0]:=by rw[Mt];rfl
 rw[e];exact N8 (zs:=[.int .i64 0]) h (by unfold BD;omega) rfl rfl (by decide) rfl
theorem FR(g:G)(id:Abs.Id)(n:Nat)(h:0<n)(hm:n≤1073741824):FG g id n {kind:=TK.bool,size:=1,agg:=false,str:=false,zero:=[.d (.bool false)],wp:=[],elem:=0,key:=0,mix:=false}=some ⟨.d8 (1::id) 0 n,[(1::id,.d6 1 ((List.replicate n false).map B7))]⟩:=by
 have e:(List.replicate n false).map B7=List.replicate n [.bool false]:=by rw[Mt];rfl
 rw[e];exact N8 (zs:=[.bool false]) h (by unfold BD;omega) rfl rfl (by decide) rfl
theorem CL(i t j:Nat)(π:List Nat)(h:i≠j):Id.under (i::π) (t::j::π)=false:=Du fun hs=>by
 rcases He.1 hs with e|hs
 .have:=congrArg List.length e;simp at this
 rcases He.1 hs with e|hs
 .simp only[Ok,and_true]at e;exact h e
 .have:=hs.length_le;simp at this;omega
theorem HI(l:List Bool):l.all id=true↔ ¬false∈l:=by
 induction l with
 |nil=>simp
 |cons b l ih=>cases b<;>simp
theorem NU{p:AK}(hs:p.small=true)(hf:Jw p.free=true)(hv:Az p (p.nodes.length+1) p.main p.free.length (BF.init p)=some st):looks p=if (¬false∈st.met)∧(¬false∈st.defs)then some st else none:=by
 unfold looks;rw[D7 ⟨hs,hf⟩,hv];simp only[HI]
theorem G5{id:Abs.Id}{n:Nat}(h:n=0):wd id n=.emp:=by rw[wd,D7 h]
@[go_sem] theorem qk(v:Bool):BJ (KL Tryz.prog cfg) 202 [.d (.be []),.d (.bool v)] []=.ok (.ret (.d (.bool false)),[]):=by
  have:=Ju [] v (by simp);simpa using this
structure kv(p:AK)(π:List Nat)(r:Ae×AB):Prop where
 em:looks p=none→r=(.em GB,[])
 ret: ∀st,looks p=some st→ ∃h,r=(.ret (.ptr (0::16::π) 0),h)∧Hn h p (0::16::π) (1::6::π) (1::10::π) (1::14::π) st∧ ∀id',Id.under π id'=false→h.get id'=none
theorem s7(p:AK)(hp: ∀s∈p.free,s.size≤maxLen)(k:Nat)(ρ:List Nat): ∃r:Ae×AB,BJ (KL Tryz.prog cfg) 190 [.agg [.d (.be (p.free.map A0)),.d (.be (p.nodes.map Al)),.d (.be (p.defs.map A8)),.d (.int .i64 p.main)]] (k::ρ)=.ok r∧kv p (k::ρ) r:=by
 have hp:=AA.mk hp;by_cases hs:p.small=true
 ·(refine FA rfl Tryz.func190 rfl rfl rfl ?_;show Wp _ _ _ _ (Tryz.f190.body.get rfl) _ _;simp only[Tryz.f190,AP])
  have hs2:=AA.mk hs;simp only[AK.small,AS,As]at hs;obtain⟨c1,c2,c3⟩:=hs;have c1:(p.free.length:Int)≤12:=by omega
  have c2:(p.nodes.length:Int)≤60:=by omega
  have c3:(p.defs.length:Int)≤12:=by omega
  refine aw ?_;refine AY p.free _ (S:=fun m i (u:Unit)=>⟨[(1,.ptr (0::0::k::ρ) 0),(24,.d (.be (p.free.map A0))),(25,.d (.int .i64 m)),(26,.d (.int .i64 i))],[(0::0::k::ρ,.box [.d (.be (p.free.map A0)),.d (.be (p.nodes.map Al)),.d (.be (p.defs.map A8)),.d (.int .i64 p.main)])],1,[]⟩)
   (Inv:=fun i rest _=>AA (Jw p.free=HA (if i=0 then none else p.free[i-1]?) rest)) (b0:=()) rfl ⟨rfl⟩ ?_ ?_
  .rintro i y ⟨⟩ hy hi him hr IH;have hys:=hp.out y (Ap hy);have hnm:=uw y hys;have hbad:AA (Jw p.free=false→looks p=none):=.mk fun hf=>by
    rw[looks,D3 (by rw[hf];simp)]
   rcases i with _|j
   .rw[D7 rfl]at hr;have him0:(0:Int)<p.free.length:=by omega
    (repeat' (first|simp only[go_sem, *]|(refine sx ?_ ?_<;>intro hc)|refine sy (by omega) fun x hx hm=>?_|simp(disch:=first|assumption|omega) only[AG]))
    all_goals first
    |(exact⟨fun _=>rfl,fun st hst=>by rw[hbad.out (by rw[hr.out,HA];simp only[*,Ce])]at hst;cases hst⟩)
    |(refine IH.out () ⟨?_⟩
      rw[hr.out,HA,D3 (by omega)];simp only[*,F0];try rfl)
   .obtain⟨b,hb⟩:=get_some (l:=p.free) (i:=j) (by omega);rw[D3 (by omega),OS,hb]at hr;have w:IntKind.i64.wrap (((j+1:Nat):Int)-1)=(j:Int):=by rw[wrap_id (by omega) (by omega)];omega
    have w0: ¬((j+1:Nat):Int)=0:=by omega
    (repeat' (first|simp only[go_sem, *]|(refine sx ?_ ?_<;>intro hc)|refine sy (by omega) fun x hx hm=>?_|simp(disch:=first|assumption|omega) only[AG]))
    .refine IH.out () ⟨?_⟩;rw[hr.out,HA,D3 (by omega),OS,hy];simp only[YJ, *,F0]
    .exact⟨fun _=>rfl,fun st hst=>by rw[hbad.out (by rw[hr.out,HA];simp only[YJ, *,Ce,Gs])]at hst;cases hst⟩
    .exact⟨fun _=>rfl,fun st hst=>by rw[hbad.out (by rw[hr.out,HA];simp only[*,Ce])]at hst;cases hst⟩
  .rintro i ⟨⟩ hi him hr;have hfree:AA (Jw p.free=true):=⟨hr.out⟩;clear hr;by_cases hN0:p.nodes.length=0
   .have e:looks p=none:=by
     unfold looks;split
     .have:Az p (p.nodes.length+1) p.main p.free.length (BF.init p)=none:=by
       rw[Az,D3];intro hh;have:=AL hh.2;simp[BF.init]at this;omega
      rw[this]
     .rfl
    by_cases hD0:p.defs.length=0;all_goals
     (repeat' (first|simp only[go_sem, *]|(refine sx ?_ ?_<;>intro hc)|refine sy (by omega) fun x hx hm=>?_|simp(disch:=first|assumption|omega) only[AG,E5,FR]))
     refine AW (Ku p (by omega) p.main p.free.length (BF.init p) _ _ (0::16::k::ρ) (1::6::k::ρ) (1::10::k::ρ) (1::14::k::ρ) ⟨?_,?_,?_⟩ ?_ ⟨?_,fun h=>absurd hN0 h,fun h=>absurd hN0 h,fun _=>?_⟩ ?_) (fun o1 g1 p1=>?_)
     .simp[BF.init]
     .simp[BF.init]
     .simp[BF.init]
     .constructor<;>first|exact CL _ _ _ _ (by decide)|simp only[go_sem]
     .simp only[wd,hN0,hD0,D8,F3];simp only[go_sem]
     .first|(exact absurd hD0 ‹_›)|simp only[go_sem,BF.init]
     .omega
     obtain rfl:=p1.em rfl;clear p1;refine aw ?_;exact⟨fun _=>rfl,fun st hst=>by rw[e]at hst;cases hst⟩
   .by_cases hD0:p.defs.length=0
    ·(repeat' (first|simp only[go_sem, *]|(refine sx ?_ ?_<;>intro hc)|refine sy (by omega) fun x hx hm=>?_|simp(disch:=first|assumption|omega) only[AG,E5,FR]))
     refine AW (ck p (by omega) (by omega) (p.nodes.length+1) p.main p.free.length (BF.init p) _ _ (0::16::k::ρ) (1::6::k::ρ) (1::10::k::ρ) (1::14::k::ρ) ?_ ⟨?_,?_,?_⟩ ?_ ?_ ?_ ⟨?_,fun _=>?_,fun _=>?_,fun _=>?_⟩) (fun o1 g1 p1=>?_)
     .have:=LA (BF.init p).met;simp only[BF.init,It]at*;omega
     .simp[BF.init]
     .simp[BF.init]
     .simp[BF.init]
     .omega
     .omega
     .constructor<;>first|exact CL _ _ _ _ (by decide)|simp only[go_sem]
     .simp only[wd,hN0,hD0,D8,F3];simp only[go_sem]
     .simp only[go_sem,BF.init]
     .simp only[go_sem,BF.init]
     .exact absurd hD0 ‹_›
     cases hv:Az p (p.nodes.length+1) p.main p.free.length (BF.init p)with
     |none=>
      obtain rfl:=p1.em hv;have e:looks p=none:=by
       unfold looks;rw[hv];split<;>rfl
      clear p1;refine aw ?_;exact⟨fun _=>rfl,fun st hst=>by rw[e]at hst;cases hst⟩
     |some st=>
      obtain⟨rfl,hl,hfr⟩:=p1.ret st hv;clear p1;have hfr:=AA.mk hfr;have hlk: ∃x,looks p=x:=⟨_,rfl⟩;obtain⟨x,hlk⟩:=hlk;have hlk:=AA.mk hlk;have hL:=Kn (ρ:=24::k::ρ) hl (by constructor<;>first|exact CL _ _ _ _ (by decide)|simp only[go_sem]);have hL:=AA.mk hL;obtain⟨b1,b2,b3,b4⟩:=hl;have b2:=b2 hN0;have b3:=b3 hN0;rw[A3 hN0,A3 hN0,G5 hD0]at b1;have hg:=B3 p _ _ _ _ _ hv;have m1:st.met.length=p.nodes.length:=by rw[hg.met];simp[BF.init]
      have m2:st.defs.length=p.defs.length:=by rw[hg.defs];simp[BF.init]
      have gu: ∀(t j:Nat),24≠j→(gc (24::k::ρ) g1).get (t::j::k::ρ)=g1.get (t::j::k::ρ):=fun t j hj=>Ag _ _ _ (CL _ _ _ _ hj);have q1:=(gu 0 16 (by decide)).trans b1;have q2:=(gu 1 6 (by decide)).trans b2;have q3:=(gu 1 10 (by decide)).trans b3;clear gu;have tk1:List.take p.nodes.length (List.map B7 st.met)=List.map B7 st.met:=D6 (by simp[m1]);have dn:st.defs=[]:=CE (by omega)
      (repeat' (first|simp only[go_sem, *,El,q1,q2,q3]|(refine sx ?_ ?_<;>intro hc)|refine sy (by omega) fun x hx hm=>?_|simp(disch:=first|assumption|omega) only[AG,Ju]))
      all_goals (have hlk:=hlk.out;subst hlk)
      all_goals (have hlk:=NU hs2.out hfree.out hv)
      all_goals first
      |(refine⟨fun _=>rfl,fun st' hst=>?_⟩
        rw[hlk,D3 (by simp[*])]at hst;cases hst)
      |(refine⟨fun hst=>?_,fun st' hst=>?_⟩
        .rw[hlk,D7 (by simp[*])]at hst;cases hst
        .rw[hlk,D7 (by simp[*])]at hst;cases hst;refine⟨_,rfl,hL.out,fun id' hu=>?_⟩;have hu1:=AE hu;rw[Ag _ _ _ (AH hu _),hfr.out id' (AH hu _) (hu1 _ _) (hu1 _ _) (hu1 _ _)];simp only[go_sem,hu1,AM])
    ·(repeat' (first|simp only[go_sem, *]|(refine sx ?_ ?_<;>intro hc)|refine sy (by omega) fun x hx hm=>?_|simp(disch:=first|assumption|omega) only[AG,E5,FR]))
     refine AW (ck p (by omega) (by omega) (p.nodes.length+1) p.main p.free.length (BF.init p) _ _ (0::16::k::ρ) (1::6::k::ρ) (1::10::k::ρ) (1::14::k::ρ) ?_ ⟨?_,?_,?_⟩ ?_ ?_ ?_ ⟨?_,fun _=>?_,fun _=>?_,fun _=>?_⟩) (fun o1 g1 p1=>?_)
     .have:=LA (BF.init p).met;simp only[BF.init,It]at*;omega
     .simp[BF.init]
     .simp[BF.init]
     .simp[BF.init]
     .omega
     .omega
     .constructor<;>first|exact CL _ _ _ _ (by decide)|simp only[go_sem]
     .simp only[wd,hN0,hD0,D8];simp only[go_sem]
     .simp only[go_sem,BF.init]
     .simp only[go_sem,BF.init]
     .simp only[go_sem,BF.init]
     cases hv:Az p (p.nodes.length+1) p.main p.free.length (BF.init p)with
     |none=>
      obtain rfl:=p1.em hv;have e:looks p=none:=by
       unfold looks;rw[hv];split<;>rfl
      clear p1;refine aw ?_;exact⟨fun _=>rfl,fun st hst=>by rw[e]at hst;cases hst⟩
     |some st=>
      obtain⟨rfl,hl,hfr⟩:=p1.ret st hv;clear p1;have hfr:=AA.mk hfr;have hlk: ∃x,looks p=x:=⟨_,rfl⟩;obtain⟨x,hlk⟩:=hlk;have hlk:=AA.mk hlk;have hL:=Kn (ρ:=24::k::ρ) hl (by constructor<;>first|exact CL _ _ _ _ (by decide)|simp only[go_sem]);have hL:=AA.mk hL;obtain⟨b1,b2,b3,b4⟩:=hl;have b2:=b2 hN0;have b3:=b3 hN0;have b4:=b4 hD0;rw[A3 hN0,A3 hN0,A3 hD0]at b1;have hg:=B3 p _ _ _ _ _ hv;have m1:st.met.length=p.nodes.length:=by rw[hg.met];simp[BF.init]
      have m2:st.defs.length=p.defs.length:=by rw[hg.defs];simp[BF.init]
      have gu: ∀(t j:Nat),24≠j→(gc (24::k::ρ) g1).get (t::j::k::ρ)=g1.get (t::j::k::ρ):=fun t j hj=>Ag _ _ _ (CL _ _ _ _ hj);have q1:=(gu 0 16 (by decide)).trans b1;have q2:=(gu 1 6 (by decide)).trans b2;have q3:=(gu 1 10 (by decide)).trans b3;have q4:=(gu 1 14 (by decide)).trans b4;clear gu;have tk1:List.take p.nodes.length (List.map B7 st.met)=List.map B7 st.met:=D6 (by simp[m1]);have tk2:List.take p.defs.length (List.map B7 st.defs)=List.map B7 st.defs:=D6 (by simp[m2])
      (repeat' (first|simp only[go_sem, *,El,q1,q2,q3,q4]|(refine sx ?_ ?_<;>intro hc)|refine sy (by omega) fun x hx hm=>?_|simp(disch:=first|assumption|omega) only[AG,Ju]))
      all_goals (have hlk:=hlk.out;subst hlk)
      all_goals (have hlk:=NU hs2.out hfree.out hv)
      all_goals first
      |(refine⟨fun _=>rfl,fun st' hst=>?_⟩
        rw[hlk,D3 (by simp[*])]at hst;cases hst)
      |(refine⟨fun hst=>?_,fun st' hst=>?_⟩
        .rw[hlk,D7 (by simp[*])]at hst;cases hst
        .rw[hlk,D7 (by simp[*])]at hst;cases hst;refine⟨_,rfl,hL.out,fun id' hu=>?_⟩;have hu1:=AE hu;rw[Ag _ _ _ (AH hu _),hfr.out id' (AH hu _) (hu1 _ _) (hu1 _ _) (hu1 _ _)];simp only[go_sem,hu1,AM])
 .have e:looks p=none:=by
   unfold looks;rw[D3 fun h=>hs h.1]
  have hs: ¬(p.free.length≤12∧p.nodes.length≤60∧p.defs.length≤12):=by
   intro h;apply hs;simp only[AK.small,AS,As];exact h
  have hs:=AA.mk hs
  (refine FA rfl Tryz.func190 rfl rfl rfl ?_;show Wp _ _ _ _ (Tryz.f190.body.get rfl) _ _;simp only[Tryz.f190,AP])
  (repeat' (first|simp only[go_sem, *]|(refine sx ?_ ?_<;>intro hc)|refine sy (by omega) fun x hx hm=>?_|simp(disch:=first|assumption|omega) only[AG]))
  all_goals first
  |exact⟨fun _=>rfl,fun st hst=>by rw[e]at hst;cases hst⟩
  |(have hs:=hs.out;exfalso;omega)
def G9(b:Bool):List AU:=[.int .i64 (if b then 1 else 0)]
theorem mR:G9 true=[.int .i64 1]:=rfl
theorem mO:G9 false=[.int .i64 0]:=rfl
attribute [go_sem] mR mO
def DD(p:AK)(sz ow us:Abs.Id)(bad:Bool):Abs.Obj:=.box [.d (.be (p.free.map A0)),.d (.be (p.nodes.map Al)),.d (.be (p.defs.map A8)),.d (.int .i64 p.main),wd sz p.nodes.length,wd ow p.nodes.length,wd us p.defs.length,.d (.bool bad)]
structure FZ(h:AB)(p:AK)(l sz ow us:Abs.Id)(st:BF)(bad:Bool):Prop where
 box:h.get l=some (DD p sz ow us bad)
 bv:bad=false→p.nodes.length≠0→h.get sz=some (.d6 1 (st.bv.map AO))
 met:bad=false→p.nodes.length≠0→h.get ow=some (.d6 1 (st.met.map G9))
 defs:bad=false→p.defs.length≠0→h.get us=some (.d6 1 (st.defs.map G9))
 ks:p.nodes.length≠0→ ∃A,h.get sz=some (.d6 1 A)
 km:p.nodes.length≠0→ ∃A,h.get ow=some (.d6 1 A)
 kd:p.defs.length≠0→ ∃A,h.get us=some (.d6 1 A)
structure Pf(p:AK)(l sz ow us:Abs.Id)(h:AB)(π:List Nat)(r:Option BF)(o:Ae)(h':AB):Prop where
 ret:o=.ret (.f8 [])
 frame: ∀id',Id.under π id'=false→Id.is l id'=false→Id.is sz id'=false→Id.is ow id'=false→Id.is us id'=false→h'.get id'=h.get id'
 yes: ∀st',r=some st'→FZ h' p l sz ow us st' false
 no:r=none→ ∀st0,FZ h' p l sz ow us st0 true
structure Ui(p:AK)(l sz ow us:Abs.Id)(h:AB)(π:List Nat)(L:List (Nat×Abs.Obj))(st:BF)(bad:Bool)(g:AB):Prop where
 looks:FZ g p l sz ow us st bad
 node: ∀q∈L,g.get (0::q.1::π)=some q.2
 frame: ∀id',Id.under π id'=false→Id.is l id'=false→Id.is sz id'=false→Id.is ow id'=false→Id.is us id'=false→g.get id'=h.get id'
variable{b:Bool}
theorem GK{p:AK}{sz mt:Abs.Id}(h:FZ g p l sz mt df st b)(hi:Uh ρ l sz mt df):FZ (gc ρ g) p l sz mt df st b:=
 ⟨by rw[Ag _ _ _ hi.ul];exact h.box,fun hb hn=>by rw[Ag _ _ _ hi.us];exact h.bv hb hn,fun hb hn=>by rw[Ag _ _ _ hi.um];exact h.met hb hn,fun hb hn=>by rw[Ag _ _ _ hi.ud];exact h.defs hb hn,fun hn=>by rw[Ag _ _ _ hi.us];exact h.ks hn,fun hn=>by rw[Ag _ _ _ hi.um];exact h.km hn,fun hn=>by rw[Ag _ _ _ hi.ud];exact h.kd hn⟩
variable{b':Bool}
theorem ct{p:AK}{sz mt:Abs.Id}{o:Abs.Obj}(hf:Ui p l sz mt df h π L st b g)(hi:Uh π l sz mt df)(ho:o=DD p sz mt df b')(hbb:b'=false→b=false):Ui p l sz mt df h π L st b' (g.put l o):=by
 refine⟨⟨?_,fun hb hn=>?_,fun hb hn=>?_,fun hb hn=>?_,fun hn=>?_,fun hn=>?_,fun hn=>?_⟩,fun q hq=>?_,fun id' h1 h0 h2 h3 h4=>?_⟩
 .rw[get_put,is_self,ho];rfl
 .rw[get_put,hi.ls];exact hf.looks.bv (hbb hb) hn
 .rw[get_put,hi.lm];exact hf.looks.met (hbb hb) hn
 .rw[get_put,hi.ld];exact hf.looks.defs (hbb hb) hn
 .rw[get_put,hi.ls];exact hf.looks.ks hn
 .rw[get_put,hi.lm];exact hf.looks.km hn
 .rw[get_put,hi.ld];exact hf.looks.kd hn
 .rw[get_put,AZ hi.ul];exact hf.node q hq
 .rw[get_put,h0];exact hf.frame id' h1 h0 h2 h3 h4
theorem E8{p:AK}{sz mt:Abs.Id}(hf:Ui p l sz mt df h π L st b g)(hi:Uh π l sz mt df)(hj: ∀q∈L,j≠q.1)(hl:FZ g' p l sz mt df st' b')(hg: ∀id',Id.under (j::π) id'=false→Id.is l id'=false→Id.is sz id'=false→Id.is mt id'=false→Id.is df id'=false→g'.get id'=g.get id'):Ui p l sz mt df h π L st' b' (gc (j::π) g'):=by
 refine⟨GK hl (Ej hi j),fun q hq=>?_,fun id' h1 h0 h2 h3 h4=>?_⟩
 .have hu:=S5 j q.1 π (hj q hq);rw[Ag _ _ _ hu,hg _ hu (AZ hi.ul _ _) (AZ hi.us _ _) (AZ hi.um _ _) (AZ hi.ud _ _)];exact hf.node q hq
 .rw[Ag _ _ _ (AH h1 j),hg _ (AH h1 j) h0 h2 h3 h4];exact hf.frame id' h1 h0 h2 h3 h4
theorem ye{p:AK}{sz mt:Abs.Id}(hf:Ui p l sz mt df h π L st false g)(hi:Uh π l sz mt df)(i:Nat):Ui p l sz mt df h π L {st with defs:=st.defs.set i true} false (g.put df (.d6 1 ((st.defs.map G9).set i [.int .i64 1]))):=by
 refine⟨⟨?_,fun hb hn=>?_,fun hb hn=>?_,fun hb hn=>?_,fun hn=>?_,fun hn=>?_,fun hn=>?_⟩,fun q hq=>?_,fun id' h1 h0 h2 h3 h4=>?_⟩
 .rw[get_put,hi.dl];exact hf.looks.box
 .rw[get_put,hi.ds];exact hf.looks.bv hb hn
 .rw[get_put,hi.dm];exact hf.looks.met hb hn
 .rw[get_put,is_self,Ms];rfl
 .rw[get_put,hi.ds];exact hf.looks.ks hn
 .rw[get_put,hi.dm];exact hf.looks.km hn
 .rw[get_put,is_self];exact⟨_,rfl⟩
 .rw[get_put,AZ hi.ud];exact hf.node q hq
 .rw[get_put,h4];exact hf.frame id' h1 h0 h2 h3 h4
theorem FZ.any{p:AK}{sz ow us:Abs.Id}{st0:BF}(hl:FZ h p l sz ow us st true):FZ h p l sz ow us st0 true:=⟨hl.box,fun h=>(by cases h),fun h=>(by cases h),fun h=>(by cases h),hl.ks,hl.km,hl.kd⟩
theorem Eh{p:AK}{sz mt:Abs.Id}{o:Abs.Obj}(hf:Ui p l sz mt df h π L st b g)(hi:Uh π l sz mt df)(ho:o=DD p sz mt df true)(hr:r=none):Pf p l sz mt df h π r (.ret (.f8 [])) (g.put l o):=by
 refine⟨rfl,fun id' h1 h0 h2 h3 h4=>?_,fun st' e=>?_,fun _ st0=>?_⟩
 .rw[get_put,h0];exact hf.frame id' h1 h0 h2 h3 h4
 .rw[hr]at e;cases e
 .exact(ct (b':=true) {hf with looks:={hf.looks with bv:=hf.looks.bv,met:=hf.looks.met,defs:=hf.looks.defs}} hi ho (by simp)).looks.any
theorem Eo{p:AK}{sz mt:Abs.Id}(hf:Ui p l sz mt df h π L st true g)(hr:r=none):Pf p l sz mt df h π r (.ret (.f8 [])) g:=by
 refine⟨rfl,hf.frame,fun st' e=>?_,fun _ st0=>hf.looks.any⟩;rw[hr]at e;cases e
theorem OQ{p:AK}{sz mt:Abs.Id}(hf:Ui p l sz mt df h π L st false g)(hr:r=some st):Pf p l sz mt df h π r (.ret (.f8 [])) g:=by
 refine⟨rfl,hf.frame,fun st' e=>?_,fun e=>?_⟩
 .rw[hr]at e;cases e;exact hf.looks
 .rw[hr]at e;cases e
theorem M3{f:Int→Int→BF→Option BF}: ∀{l m:List (Int×Int)} {st:BF},Bl f (l++m) st=match Bl f l st with|some st'=>Bl f m st'|none=>none
 |[],m,st=>rfl
 |(n,s)::l,m,st=>by
  rw[Es,Bl,Bl];cases f n s st with
  |none=>rfl
  |some st1=>exact M3
def zH(p:AK)(k:Nat):Prop:= ∀(n size:Int) (st:BF) (h:AB) (π:List Nat) (l sz ow us:Abs.Id),DT st.met≤k→st.fit p→0≤size→size+70*k≤5000→Uh π l sz ow us→FZ h p l sz ow us st false→
    ∃o h',KL Tryz.prog cfg (.fn 129) [.ptr l 0,.d (.int .i64 n),.d (.int .i64 size)] h π true none=.ok (o,h')∧Pf p l sz ow us h π (Az p k n size st) o h'
theorem rK(p:AK)(hN:p.nodes.length≤60)(hD:p.defs.length≤12)(k:Nat)(ih:zH p k)(d:Bz)(hdo:Rq d)(size:Int)(st:BF)(h:AB)(π:List Nat)(l sz ow us:Abs.Id)(hk:DT st.met≤k)(hfit:st.fit p)(h0:0≤size)(hb:size+10+70*k≤5000)(hid:Uh π l sz ow us)(hl:FZ h p l sz ow us st false):
 ∃o h',KL Tryz.prog cfg (.fn 170) [.ptr l 0,.agg [.d (.be (d.ac.map Ab)),.d (.be (d.am.map AR)),.d (.be (d.rules.map Af))],.d (.int .i64 size)] h π true none=.ok (o,h')∧Pf p l sz ow us h π (Bl (Az p k) (CK d size d.rules++Bt size d.am) st) o h':=by
 have hid2:=AA.mk hid;have c1:=hdo.ac;have c2:=hdo.am;have c3:=hdo.rules;replace hdo:=AA.mk hdo;replace ih:=AA.mk ih;have hlb:=hl.box;rw[DD]at hlb;have e1:=AE hid.ul;have e5:=AZ hid.ul;clear hid;have hd0:AA (Ui p l sz ow us h π [(0,.box [.d (.be (d.ac.map Ab)),.d (.be (d.am.map AR)),.d (.be (d.rules.map Af))])] st false (h.put (0::0::π) (.box [.d (.be (d.ac.map Ab)),.d (.be (d.am.map AR)),.d (.be (d.rules.map Af))]))):=by
  refine⟨⟨⟨?_,fun _ hn=>?_,fun _ hn=>?_,fun _ hn=>?_,fun hn=>?_,fun hn=>?_,fun hn=>?_⟩,?_,fun id' h1 h0 h2 h3 h4=>?_⟩⟩
  .rw[get_put,AE hid2.out.ul];exact hl.box
  .rw[get_put,AE hid2.out.us];exact hl.bv rfl hn
  .rw[get_put,AE hid2.out.um];exact hl.met rfl hn
  .rw[get_put,AE hid2.out.ud];exact hl.defs rfl hn
  .rw[get_put,AE hid2.out.us];exact hl.ks hn
  .rw[get_put,AE hid2.out.um];exact hl.km hn
  .rw[get_put,AE hid2.out.ud];exact hl.kd hn
  .intro q hq;cases Ac.1 hq;simp only[get_put,is_self,F3]
  .simp only[get_put,AE h1,AM,D8]
 replace hl:=AA.mk hl
 (refine Aa rfl Tryz.func170 rfl rfl rfl ?_;show Wp _ _ _ _ (Tryz.f170.body.get rfl) _ _;simp only[Tryz.f170,AP])
 refine aw ?_;refine Au d.rules (S:=fun i a=>⟨[(0,.ptr l 0),(2,.d (.int .i64 size)),(4,.ptr (0::0::π) 0),(6,.d (.int .i64 i))],a.1.1,a.2+2,[]⟩)
  (Inv:=fun i rest a=> ∃b,Ui p l sz ow us h π [(0,.box [.d (.be (d.ac.map Ab)),.d (.be (d.am.map AR)),.d (.be (d.rules.map Af))])] a.1.2 b a.1.1∧a.1.2.fit p∧DT a.1.2.met≤k∧AA (b=false→Bl (Az p k) (CK d size d.rules++Bt size d.am) st=Bl (Az p k) (CK d size rest++Bt size d.am) a.1.2)∧AA (b=true→Bl (Az p k) (CK d size d.rules++Bt size d.am) st=none)) (b0:=((_,st),_)) ?_ ?_ ?_
 .exact⟨false,hd0.out,hfit,hk,⟨fun _=>rfl⟩,⟨fun h=>(by cases h)⟩⟩
 .rintro i r ⟨⟨g,st1⟩,c⟩ hy hi him ⟨b,hf,hfit1,hun,hv,hno⟩ IH;dsimp only at*;have hr1:=hf.node _ (FD ..);have hr2:=hf.looks.box;rw[DD]at hr2;dsimp only at hr1;cases b
  .have hj:=MU hdo.out (Ap hy);have hb1:=ur d r hj;have hb2:=Jm hj.2.2 r.d9;have hb3:=hj.1;replace hj:=AA.mk hj;refine aw ?_;refine FU (ih.out r.node (size+CD d r.d9) st1 _ _ l sz ow us hun hfit1 (by omega) (by omega) (Ej hid2.out _) hf.looks) (fun o1 g1 p1=>?_);obtain rfl:=p1.ret;replace p1:=AA.mk p1;refine aw ?_;cases hvy:Az p k r.node (size+CD d r.d9) st1 with
   |none=>
    refine IH.out ((_,st1),_) ⟨true,E8 hf hid2.out ?_ (p1.out.no hvy _) p1.out.frame,hfit1,hun,⟨fun h=>(by cases h)⟩,⟨fun _=>?_⟩⟩
    .simp only[DL,F6,LC,F8,forall_eq];omega
    .rw[hv.out rfl];simp only[CK,Ci,Es,Bl,hvy]
   |some st2=>
    have hgr:=B3 p _ _ _ _ _ hvy;refine IH.out ((_,st2),_) ⟨false,E8 hf hid2.out ?_ (p1.out.yes _ hvy) p1.out.frame,Fk hfit1 hgr,Hw hgr.less hun,⟨fun _=>?_⟩,⟨fun h=>(by cases h)⟩⟩
    .simp only[DL,F6,LC,F8,forall_eq];omega
    .rw[hv.out rfl];simp only[CK,Ci,Es,Bl,hvy]
  .refine aw ?_;rw[Cf]
   (repeat' (first|simp only[go_sem, *]|(refine sx ?_ ?_<;>intro hc)|refine sy (by omega) fun x hx hm=>?_|simp(disch:=first|assumption|omega) only[AG]))
   all_goals exact Eo hf (hno.out rfl)
 .rintro i ⟨⟨g,st1⟩,c⟩ hi him ⟨b,hf,hfit1,hun,hv,hno⟩;dsimp only at*;have hr1:=hf.node _ (FD ..);have hr2:=hf.looks.box;rw[DD]at hr2;dsimp only at hr1;cases b
  .refine aw ?_;refine Au d.am (S:=fun i a=>⟨[(0,.ptr l 0),(2,.d (.int .i64 size)),(4,.ptr (0::0::π) 0),(7,.d (.int .i64 i))],a.1.1,a.2+2,[]⟩)
    (Inv:=fun i rest a=> ∃b,Ui p l sz ow us h π [(0,.box [.d (.be (d.ac.map Ab)),.d (.be (d.am.map AR)),.d (.be (d.rules.map Af))])] a.1.2 b a.1.1∧a.1.2.fit p∧DT a.1.2.met≤k∧AA (b=false→Bl (Az p k) (CK d size d.rules++Bt size d.am) st=Bl (Az p k) (Bt size rest) a.1.2)∧AA (b=true→Bl (Az p k) (CK d size d.rules++Bt size d.am) st=none)) (b0:=((_,st1),_)) ?_ ?_ ?_
   .exact⟨false,hf,hfit1,hun,⟨fun _=>hv.out rfl⟩,⟨fun h=>(by cases h)⟩⟩
   .clear hf hr1 hr2 hi him hfit1 hun hv hno g c i st1;rintro i r ⟨⟨g,st1⟩,c⟩ hy hi him ⟨b,hf,hfit1,hun,hv,hno⟩ IH;dsimp only at*;have hr1:=hf.node _ (FD ..);have hr2:=hf.looks.box;rw[DD]at hr2;dsimp only at hr1;cases b
    .refine aw ?_;refine AW (ih.out r.node size st1 _ _ l sz ow us hun hfit1 (by omega) (by omega) (Ej hid2.out _) hf.looks) (fun o1 g1 p1=>?_);obtain rfl:=p1.ret;replace p1:=AA.mk p1;refine aw ?_;cases hvy:Az p k r.node size st1 with
     |none=>
      refine IH.out ((_,st1),_) ⟨true,E8 hf hid2.out ?_ (p1.out.no hvy _) p1.out.frame,hfit1,hun,⟨fun h=>(by cases h)⟩,⟨fun _=>?_⟩⟩
      .simp only[DL,F6,LC,F8,forall_eq];omega
      .rw[hv.out rfl];simp only[Bt,Ci,Es,Bl,hvy]
     |some st2=>
      have hgr:=B3 p _ _ _ _ _ hvy;refine IH.out ((_,st2),_) ⟨false,E8 hf hid2.out ?_ (p1.out.yes _ hvy) p1.out.frame,Fk hfit1 hgr,Hw hgr.less hun,⟨fun _=>?_⟩,⟨fun h=>(by cases h)⟩⟩
      .simp only[DL,F6,LC,F8,forall_eq];omega
      .rw[hv.out rfl];simp only[Bt,Ci,Es,Bl,hvy]
    .refine aw ?_;exact Eo hf (hno.out rfl)
   .clear hf hr1 hr2 hi him hfit1 hun hv hno g c i st1;rintro i ⟨⟨g,st1⟩,c⟩ hi him ⟨b,hf,hfit1,hun,hv,hno⟩;dsimp only at*;have hr1:=hf.node _ (FD ..);have hr2:=hf.looks.box;rw[DD]at hr2;dsimp only at hr1;cases b
    .refine aw ?_;exact OQ hf (hv.out rfl)
    .refine aw ?_;exact Eo hf (hno.out rfl)
  .refine aw ?_;rw[Cf]
   (repeat' (first|simp only[go_sem, *]|(refine sx ?_ ?_<;>intro hc)|refine sy (by omega) fun x hx hm=>?_|simp(disch:=first|assumption|omega) only[AG]))
   all_goals exact Eo hf (hno.out rfl)
theorem Hh(p:AK)(hN:p.nodes.length≤60)(n size:Int)(st:BF)(h:AB)(π:List Nat)(l sz ow us:Abs.Id)(hfit:st.fit p)(hid:Uh π l sz ow us)(hl:FZ h p l sz ow us st false)(hb:0≤n→n<p.nodes.length→st.met[n.toNat]? =some true):
 ∃o h',KL Tryz.prog cfg (.fn 129) [.ptr l 0,.d (.int .i64 n),.d (.int .i64 size)] h π true none=.ok (o,h')∧Pf p l sz ow us h π none o h':=by
 have hR:Ui p l sz ow us h π [] st false h:=⟨hl,by simp,fun _ _ _ _ _ _=>rfl⟩;have hlv: ∀b,DD p sz ow us b=.box [.d (.be (p.free.map A0)),.d (.be (p.nodes.map Al)),.d (.be (p.defs.map A8)),.d (.int .i64 p.main),wd sz p.nodes.length,wd ow p.nodes.length,wd us p.defs.length,.d (.bool b)]:=fun b=>rfl;have lbox:=hl.box;rw[DD]at lbox;have lmt:=hl.met rfl;have e1:=AE hid.ul;replace hl:=AA.mk hl;replace hb:=AA.mk hb;replace hR:=AA.mk hR;have hid2:=AA.mk hid;have hfm:=hfit.met;by_cases hn:n<0
 ·(refine Aa rfl Tryz.func129 rfl rfl rfl ?_;show Wp _ _ _ _ (Tryz.f129.body.get rfl) _ _;simp only[Tryz.f129,AP])
  refine aw ?_;exact Eh hR.out hid2.out rfl rfl
 .by_cases hn2:(p.nodes.length:Int)≤n
  ·(refine Aa rfl Tryz.func129 rfl rfl rfl ?_;show Wp _ _ _ _ (Tryz.f129.body.get rfl) _ _;simp only[Tryz.f129,AP])
   refine aw ?_;exact Eh hR.out hid2.out rfl rfl
  .have hne:p.nodes.length≠0:=by omega
   have hn0:0≤n:=by omega
   have hlt:n.toNat<p.nodes.length:=by omega
   have ht:=hb.out (by omega) (by omega);have lmt:=lmt hne;rw[A3 hne,A3 hne]at lbox;have hlv:AA (Abs.Obj.box [.d (.be (p.free.map A0)),.d (.be (p.nodes.map Al)),.d (.be (p.defs.map A8)),.d (.int .i64 p.main),.d8 sz 0 p.nodes.length,.d8 ow 0 p.nodes.length,wd us p.defs.length,.d (.bool true)]=DD p sz ow us true):=⟨by rw[DD,A3 hne,A3 hne]⟩
   (refine Aa rfl Tryz.func129 rfl rfl rfl ?_;show Wp _ _ _ _ (Tryz.f129.body.get rfl) _ _;simp only[Tryz.f129,AP])
   refine aw ?_;exact Eh hR.out hid2.out hlv.out rfl
theorem W9(p:AK)(hN:p.nodes.length≤60)(hD:p.defs.length≤12)(hdefs: ∀d∈p.defs,d.okG=true): ∀(k:Nat) (n size:Int) (st:BF) (h:AB) (π:List Nat) (l sz ow us:Abs.Id),DT st.met≤k→st.fit p→0≤size→size+70*k≤5000→Uh π l sz ow us→FZ h p l sz ow us st false→
 ∃o h',KL Tryz.prog cfg (.fn 129) [.ptr l 0,.d (.int .i64 n),.d (.int .i64 size)] h π true none=.ok (o,h')∧Pf p l sz ow us h π (Az p k n size st) o h':=by
 intro k;induction k with
 |zero=>
  intro n size st h π l sz ow us hk hfit h0 hb hid hl;refine Hh p hN n size st h π l sz ow us hfit hid hl fun h1 h2=>?_;obtain⟨t,ht⟩:=get_some (l:=st.met) (i:=n.toNat) (by rw[hfit.met];omega);cases t with
  |true=>exact ht
  |false=>have:=EK ht;omega
 |succ k ih=>
 intro n size st h π l sz ow us hk hfit h0 hb hid hl;have hid2:=AA.mk hid;obtain⟨ul,us_,um,ud,ls,lm,ld,sl,sm,sd,ml,ms,md,dl,ds,dm⟩:=hid;have hl2:=AA.mk hl;obtain⟨lbox,lsz,lmt,ldf,_,_,_⟩:=hl;have e1:=AE ul;have e2:=AE us_;have e3:=AE um;have e4:=AE ud;have e5:=AZ ul;have e6:=AZ us_;have e7:=AZ um;have e8:=AZ ud;by_cases hn:n<0
 .have e:Az p (k+1) n size st=none:=by
   rw[Az,D3 fun hh=>by omega]
  rw[e];exact Hh p hN n size st h π l sz ow us hfit hid2.out hl2.out fun h=>by omega
 .by_cases hn2:(p.nodes.length:Int)≤n
  .have e:Az p (k+1) n size st=none:=by
    rw[Az];split
    .rename_i hh;have:=AL hh.2;rw[hfit.met]at this;omega
    .rfl
   rw[e];exact Hh p hN n size st h π l sz ow us hfit hid2.out hl2.out fun _ h=>by omega
  .have hne:p.nodes.length≠0:=by omega
   have hn0:0≤n:=by omega
   have hn3:n<p.nodes.length:=by omega
   have hlt:n.toNat<p.nodes.length:=by omega
   obtain⟨x,hx⟩:=get_some hlt;obtain⟨t,ht⟩:=get_some (l:=st.met) (i:=n.toNat) (by rw[hfit.met];omega);obtain⟨s0,hs0⟩:=get_some (l:=st.bv) (i:=n.toNat) (by rw[hfit.bv];omega);have lmt:=lmt rfl hne;have lsz:=lsz rfl hne;rw[DD,A3 hne,A3 hne]at lbox;replace ih:=AA.mk ih;replace ldf:=AA.mk ldf;have hfs:=hfit.bv;have hfm:=hfit.met;cases t with
   |true=>
    have e:Az p (k+1) n size st=none:=by
     rw[Az,D3];rw[ht];simp
    rw[e];exact Hh p hN n size st h π l sz ow us hfit hid2.out hl2.out fun _ _=>ht
   |false=>
    (refine Aa rfl Tryz.func129 rfl rfl rfl ?_;show Wp _ _ _ _ (Tryz.f129.body.get rfl) _ _;simp only[Tryz.f129,AP])
    have hs:=AA.mk (Mf (p:=p) (k:=k) (size:=size) hn0 ht hx);have hbad:=AA.mk (S7 (p:=p) (k:=k) (size:=size) hn0 ht hx);obtain⟨xo,xn,xa,xk⟩:=x;have hLV:AA (∀b,Abs.Obj.box [.d (.be (p.free.map A0)),.d (.be (p.nodes.map Al)),.d (.be (p.defs.map A8)),.d (.int .i64 p.main),.d8 sz 0 p.nodes.length,.d8 ow 0 p.nodes.length,wd us p.defs.length,.d (.bool b)]=DD p sz ow us b):=.mk fun b=>by
     rw[DD,A3 hne,A3 hne]
    have hn0':AA (∀o o',Ui p l sz ow us h π [(48,o')] (st.meet n size) false ((((h.put ow (.d6 1 ((List.map G9 st.met).set n.toNat [.int .i64 1]))).put sz (.d6 1 ((List.map AO st.bv).set n.toNat [.int .i64 size]))).put (0::48::π) o).put (0::48::π) o')):=.mk fun o o'=>by
     refine⟨⟨?_,fun _ _=>?_,fun _ _=>?_,fun _ hd=>?_,fun _=>?_,fun _=>?_,fun hd=>?_⟩,?_,fun id' h1 h0 h2 h3 h4=>?_⟩
     .rw[←hLV.out];simp only[get_put,e1,sl,ml,AM,D8,lbox]
     .simp only[get_put,e2,is_self,AM,D8,F3,BF.meet,Ms];rfl
     .simp only[get_put,e3,sm,is_self,AM,D8,F3,BF.meet,Ms];rfl
     .simp only[get_put,e4,sd,md,AM,D8,BF.meet,ldf.out rfl hd]
     .exact⟨_,by simp only[get_put,e2,is_self,AM,D8,F3];rfl⟩
     .exact⟨_,by simp only[get_put,e3,sm,is_self,AM,D8,F3];rfl⟩
     .exact⟨_,by simp only[get_put,e4,sd,md,AM,D8,ldf.out rfl hd];rfl⟩
     .intro q hq;cases Ac.1 hq;simp only[get_put,is_self,F3]
     .simp only[get_put,AE h1,h2,h3,AM,D8]
    by_cases o4:xo=4
    .subst o4;have hgood: ∀{P:Prop},P→AA P:=fun h=>⟨h⟩;by_cases x0:xn<0
     ·(repeat' (first|simp only[go_sem, *,Jc,J9]|(refine sx ?_ ?_<;>intro hc)|refine sy (by omega) fun x hx hm=>?_|simp(disch:=first|assumption|omega) only[AG]))
      all_goals try(exact Eh (hn0'.out _ _) hid2.out (hLV.out _) (hbad.out (by clear e1 e2 e3 e4 e5 e6 e7 e8 lbox lmt lsz hs hbad ih hn0' hLV;grind [CV,Cz,UA,DV])))
      rw[Cf];refine aw ?_;exact Eh (hn0'.out _ _) hid2.out (hLV.out _) (hbad.out (by clear e1 e2 e3 e4 e5 e6 e7 e8 lbox lmt lsz hs hbad ih hn0' hLV;grind [CV,Cz,UA,DV]))
     by_cases x1:(p.defs.length:Int)≤xn
     ·(repeat' (first|simp only[go_sem, *,Jc,J9]|(refine sx ?_ ?_<;>intro hc)|refine sy (by omega) fun x hx hm=>?_|simp(disch:=first|assumption|omega) only[AG]))
      all_goals try(exact Eh (hn0'.out _ _) hid2.out (hLV.out _) (hbad.out (by clear e1 e2 e3 e4 e5 e6 e7 e8 lbox lmt lsz hs hbad ih hn0' hLV;grind [CV,Cz,UA,DV])))
      rw[Cf];refine aw ?_;exact Eh (hn0'.out _ _) hid2.out (hLV.out _) (hbad.out (by clear e1 e2 e3 e4 e5 e6 e7 e8 lbox lmt lsz hs hbad ih hn0' hLV;grind [CV,Cz,UA,DV]))
     have x2:0≤xn:=by omega
     have x3:xn<p.defs.length:=by omega
     have hdl:p.defs.length≠0:=by omega
     have hxlt:xn.toNat<p.defs.length:=by omega
     obtain⟨d,hd⟩:=get_some hxlt;obtain⟨t,htd⟩:=get_some (l:=st.defs) (i:=xn.toNat) (by rw[hfit.defs];omega);have hfd:=hfit.defs;have ldf2:=ldf.out rfl hdl;rw[A3 hdl]at lbox;have hg:=hdefs d (Ap hd);have hdo:=Qh hg;have c1:=hdo.ac;have c2:=hdo.am;have c3:=hdo.rules;have hown:=OE hdo;have hok:=vA d (by omega) (by omega);replace hdo:=AA.mk hdo;have hinto:AA (PH p size ⟨4,xn,xa,xk⟩ (st.meet n size)=if st.defs[xn.toNat]? =some false∧d.okG=true then some (CK d (size+d.own) d.rules++(Bt (size+d.own) d.am++Bm (size+d.own) xk),{st.meet n size with defs:=st.defs.set xn.toNat true})else none):=by
      refine⟨?_⟩;rw[PH,D7 rfl,hd];rfl
     have hLV2:AA (∀b,Abs.Obj.box [.d (.be (p.free.map A0)),.d (.be (p.nodes.map Al)),.d (.be (p.defs.map A8)),.d (.int .i64 p.main),.d8 sz 0 p.nodes.length,.d8 ow 0 p.nodes.length,.d8 us 0 p.defs.length,.d (.bool b)]=DD p sz ow us b):=.mk fun b=>by
      rw[DD,A3 hne,A3 hne,A3 hdl]
     cases t with
     |true=>
      have hno:AA (Az p (k+1) n size st=none):=by
       refine⟨?_⟩;rw[hs.out,hinto.out,htd];split
       .rw[D3 (by simp)]
       .rfl
      (repeat' (first|simp only[go_sem, *,Jc,J9]|(refine sx ?_ ?_<;>intro hc)|refine sy (by omega) fun x hx hm=>?_|simp(disch:=first|assumption|omega) only[AG]))
      all_goals try(exact Eh (hn0'.out _ _) hid2.out (hLV2.out _) hno.out)
      rw[Cf];refine aw ?_;exact Eh (hn0'.out _ _) hid2.out (hLV2.out _) hno.out
     |false=>
      (repeat' (first|simp only[go_sem, *,Jc,J9]|(refine sx ?_ ?_<;>intro hc)|refine sy (by omega) fun x hx hm=>?_|simp(disch:=first|assumption|omega) only[AG]))
      all_goals try(exact Eh (hn0'.out _ _) hid2.out (hLV2.out _) (hbad.out (by clear e1 e2 e3 e4 e5 e6 e7 e8 lbox lmt lsz hs hbad ih hn0' hLV;grind [CV,Cz,UA,DV])))
      rw[Cf];refine aw ?_;have hR:=ye (hn0'.out (.box [.d (.int .i64 0),.d (.int .i64 0),.ci,.ci]) (.box [.d (.int .i64 4),.d (.int .i64 xn),.d (.be (xa.map Av)),.d (.be (xk.map AO))])) hid2.out xn.toNat;have hfit2:BF.fit p {st.meet n size with defs:=(st.meet n size).defs.set xn.toNat true}:=by
       have:=NY hfit n size;exact⟨this.bv,this.met,by simp[BF.meet,hfit.defs]⟩
      have hun2:DT (st.meet n size).met≤k:=by
       have:=EK ht;simp only[BF.meet];omega
      have h00:(xa.length:Int)=0:=by assumption
      have h11:(xk.length:Int)=1:=by assumption
      have hxa:xa=[]:=CE (by omega);have hv0:AA (Az p (k+1) n size st=match Bl (Az p k) (CK d (size+d.own) d.rules++Bt (size+d.own) d.am) {st.meet n size with defs:=(st.meet n size).defs.set xn.toNat true}with|some st'=>Bl (Az p k) (Bm (size+d.own) xk) st'|none=>none):=by
       refine⟨?_⟩;rw[hs.out,D7,hinto.out,D7 ⟨htd,hg⟩]
       .rw[←M3,ES];rfl
       .clear e1 e2 e3 e4 e5 e6 e7 e8 lbox lmt lsz hs hbad ih hn0' hLV hR hfit2 hun2;grind [CV,Cz,UA,DV]
      refine AW (rK p hN hD k ih.out d hdo.out (size+d.own) {st.meet n size with defs:=(st.meet n size).defs.set xn.toNat true} _ _ l sz ow us hun2 hfit2 (by omega) (by omega) (Ej hid2.out _) hR.looks) (fun o1 g1 p1=>?_)
      obtain rfl:=p1.ret;have hn1: ∀j,j≠48→ ∀q∈ [((48:Nat),Abs.Obj.box [.d (.int .i64 4),.d (.int .i64 xn),.d (.be (xa.map Av)),.d (.be (xk.map AO))])],j≠q.1:=by
       intro j hj q hq;cases Ac.1 hq;exact hj
      cases hvd:Bl (Az p k) (CK d (size+d.own) d.rules++Bt (size+d.own) d.am) {st.meet n size with defs:=(st.meet n size).defs.set xn.toNat true}with
      |none=>
       have hf:=E8 hR hid2.out (hn1 168 (by decide)) (st':=st) (b':=true) (p1.no hvd _) p1.frame;have hr1:=hf.node _ (FD ..);have hr2:=hf.looks.box;rw[←hLV2.out]at hr2;dsimp only at hr1;replace p1:=AA.mk p1;replace hR:=AA.mk hR;replace hn1:=AA.mk hn1;replace hvd:=AA.mk hvd;refine aw ?_;rw[Cf];refine aw ?_;exact Eo hf (by rw[hv0.out,hvd.out])
      |some st2=>
       have hf:=E8 hR hid2.out (hn1 168 (by decide)) (p1.yes _ hvd) p1.frame;have hg2:dB {st.meet n size with defs:=(st.meet n size).defs.set xn.toNat true} st2:=N1 (R:=dB) (fun st=>⟨rfl,rfl,rfl,El _⟩) (fun a b c h1 h2=>⟨h2.1.trans h1.1,h2.2.trans h1.2,h2.3.trans h1.3,Hw h2.4 h1.4⟩) (B3 p k) hvd
       rw[hvd]at hv0;replace p1:=AA.mk p1;replace hR:=AA.mk hR;replace hn1:=AA.mk hn1;replace hvd:=AA.mk hvd;refine aw ?_;refine Au xk (S:=fun i a=>⟨[(0,.ptr l 0),(6,.ptr (0::48::π) 0),(11,.d (.int .i64 (size+(d.own:Int)))),(12,.d (.int .i64 i))],a.1.1,a.2+170,[]⟩)
        (Inv:=fun i rest a=> ∃b,Ui p l sz ow us h π [(48,.box [.d (.int .i64 4),.d (.int .i64 xn),.d (.be (xa.map Av)),.d (.be (xk.map AO))])] a.1.2 b a.1.1∧a.1.2.fit p∧DT a.1.2.met≤k∧AA (b=false→Az p (k+1) n size st=Bl (Az p k) (Bm (size+d.own) rest) a.1.2)∧AA (b=true→Az p (k+1) n size st=none)) (b0:=((_,st2),_)) ?_ ?_ ?_
       .exact⟨false,hf,Fk hfit2 hg2,Hw hg2.less hun2,⟨fun _=>hv0.out⟩,⟨fun h=>(by cases h)⟩⟩
       all_goals clear hf p1 hR hn1 hvd g1 hv0 hg2 st2 hfit2 hun2
       .rintro i y ⟨⟨g,st1⟩,c⟩ hy hi him ⟨b,hf,hfit1,hun,hv,hno⟩ IH;dsimp only at*;have hr1:=hf.node _ (FD ..);have hr2:=hf.looks.box;rw[←hLV2.out]at hr2;dsimp only at hr1;try simp only[*]at him
        cases b
        .refine aw ?_;refine AW (ih.out y (size+d.own) st1 _ _ l sz ow us hun hfit1 (by omega) (by omega) (Ej hid2.out _) hf.looks) (fun o1 g1 p1=>?_);obtain rfl:=p1.ret;replace p1:=AA.mk p1;refine aw ?_;cases hvy:Az p k y (size+d.own) st1 with
         |none=>
          refine IH.out ((_,st1),_) ⟨true,E8 hf hid2.out ?_ (p1.out.no hvy _) p1.out.frame,hfit1,hun,⟨fun h=>(by cases h)⟩,⟨fun _=>?_⟩⟩
          .simp only[DL,F6,LC,F8,forall_eq];omega
          .rw[hv.out rfl];simp only[Bm,Ci,Es,Bl,hvy]
         |some st2=>
          have hgr:=B3 p _ _ _ _ _ hvy;refine IH.out ((_,st2),_) ⟨false,E8 hf hid2.out ?_ (p1.out.yes _ hvy) p1.out.frame,Fk hfit1 hgr,Hw hgr.less hun,⟨fun _=>?_⟩,⟨fun h=>(by cases h)⟩⟩
          .simp only[DL,F6,LC,F8,forall_eq];omega
          .rw[hv.out rfl];simp only[Bm,Ci,Es,Bl,hvy]
        .refine aw ?_;exact Eo hf (hno.out rfl)
       .rintro i ⟨⟨g,st1⟩,c⟩ hi him ⟨b,hf,hfit1,hun,hv,hno⟩;dsimp only at*;have hr1:=hf.node _ (FD ..);have hr2:=hf.looks.box;rw[←hLV2.out]at hr2;dsimp only at hr1;try simp only[*]at him
        cases b
        .refine aw ?_;exact OQ hf (hv.out rfl)
        .refine aw ?_;exact Eo hf (hno.out rfl)
    have hop:xo=3∨xo=1∨xo=7∨(xo=2)∨xo=5∨xo=6∨xo=8∨(¬xo=1∧ ¬xo=7∧ ¬xo=3∧ ¬xo=2∧ ¬xo=5∧ ¬xo=6∧ ¬xo=8):=by omega
    rcases hop with rfl|rfl|rfl|rfl|rfl|rfl|rfl|⟨n1,n2,n3,n4,n5,n6,n7⟩;all_goals ((repeat' (first|simp only[go_sem, *,Jc,J9]|(refine sx ?_ ?_<;>intro hc)|refine sy (by omega) fun x hx hm=>?_|simp(disch:=first|assumption|omega) only[AG])))
    all_goals try(exfalso;omega)
    all_goals try(exact Eh (hn0'.out _ _) hid2.out (hLV.out _) (hbad.out (by clear e1 e2 e3 e4 e5 e6 e7 e8 lbox lmt lsz hs hbad ih hn0' hLV;grind [CV,Cz,UA,DV])))
    all_goals
     refine Au xa (S:=fun i a=>⟨[(0,.ptr l 0),(2,.d (.int .i64 size)),(6,.ptr (0::48::π) 0),(10,.d (.int .i64 i))],a.1.1,a.2+60,[]⟩)
      (Inv:=fun i rest a=>Ui p l sz ow us h π _ (st.meet n size) a.1.2 a.1.1∧AA (xa.all (BM.ok size)=(!a.1.2&&rest.all (BM.ok size)))) (b0:=((_,false),_)) ⟨hn0'.out _ _,⟨rfl⟩⟩ ?_ ?_
     .rintro i y ⟨⟨g,b⟩,c⟩ hy hi him ⟨hf,hr⟩ IH;dsimp only at*;try(exfalso;omega)
      all_goals
       have hr1:=hf.node _ (FD ..);have hr2:=hf.looks.box;rw[←hLV.out]at hr2;dsimp only at hr1;try simp only[*]at him
      all_goals
       cases b
       .refine aw ?_;refine IH.out ((_,_),_) ⟨ct hf hid2.out (hLV.out _) (by simp),⟨?_⟩⟩;rw[hr.out,D0];cases BM.ok size y<;>simp
       .refine aw ?_;refine IH.out ((_,_),_) ⟨ct hf hid2.out (hLV.out _) (by simp),⟨?_⟩⟩;rw[hr.out,D0];cases BM.ok size y<;>simp
     .rintro i ⟨⟨g,b⟩,c⟩ hi him ⟨hf,hr⟩;dsimp only at*;have hr1:=hf.node _ (FD ..);have hr2:=hf.looks.box;rw[←hLV.out]at hr2;dsimp only at hr1;try simp only[*]at him
      cases b;all_goals
       ((repeat' (first|simp only[go_sem, *]|(refine sx ?_ ?_<;>intro hc)|refine sy (by omega) fun x hx hm=>?_|simp(disch:=first|assumption|omega) only[AG])))
      all_goals
       have hall:AA (xa.all (BM.ok size)=_):=hr;simp only[Ol,MK,Nl,OK]at hall;obtain⟨L,hLe⟩: ∃L,Ui p l sz ow us h π L (st.meet n size) _ g∧ ∃o,L=[(48,o)]∧g.get (0::48::π)=some o:=⟨_,hf,_,rfl,hr1⟩;clear hf;obtain⟨hf,ob,hLe,hob⟩:=hLe;have hob2:=hr1.symm.trans hob;simp only[CI]at hob2;replace hob2:=AA.mk hob2;clear hob;refine Au xk (S:=fun i a=>⟨[(0,.ptr l 0),(6,.ptr (0::48::π) 0),(11,.d (.int .i64 size)),(12,.d (.int .i64 i))],a.1.1,a.2+60,[]⟩)
        (Inv:=fun i rest a=> ∃b,Ui p l sz ow us h π L a.1.2 b a.1.1∧a.1.2.fit p∧DT a.1.2.met≤k∧AA (b=false→Az p (k+1) n size st=Bl (Az p k) (Bm size rest) a.1.2)∧AA (b=true→Az p (k+1) n size st=none)) (b0:=((_,st.meet n size),_)) ?_ ?_ ?_
       .dsimp only;refine⟨_,ct hf hid2.out (hLV.out _) (by simp),NY hfit _ _,?_,⟨fun hb'=>?_⟩,⟨fun hb'=>?_⟩⟩
        .have:=EK ht;simp only[BF.meet];omega
        .rw[hs.out,D7,PH]
         .simp
         .replace hall:=hall.out;clear e1 e2 e3 e4 e5 e6 e7 e8 lbox lmt lsz hs hbad ih hn0' hLV hf hr1 hr2;grind [CV,Cz,UA,DV]
        .refine hbad.out ?_;replace hall:=hall.out;clear e1 e2 e3 e4 e5 e6 e7 e8 lbox lmt lsz hs hbad ih hn0' hLV hf hr1 hr2;grind [CV,Cz,UA,DV]
       all_goals clear hf hr1 hr2 hr hi him g c i hall
       .rintro i y ⟨⟨g,st1⟩,c⟩ hy hi him ⟨b,hf,hfit1,hun,hv,hno⟩ IH;dsimp only at*;try(exfalso;omega)
        all_goals
         have hr1:=hf.node (48,ob) (by rw[hLe];exact FD ..);rw[←hob2.out]at hr1;have hr2:=hf.looks.box;rw[←hLV.out]at hr2;dsimp only at hr1;try simp only[*]at him
        all_goals
         cases b
         .refine aw ?_;refine AW (ih.out y size st1 g _ l sz ow us hun hfit1 h0 (by omega) (Ej hid2.out _) hf.looks) (fun o1 g1 p1=>?_);obtain rfl:=p1.ret;replace p1:=AA.mk p1;refine aw ?_;cases hvy:Az p k y size st1 with
          |none=>
           refine IH.out ((_,st1),_) ⟨true,E8 hf hid2.out ?_ (p1.out.no hvy _) p1.out.frame,hfit1,hun,⟨fun h=>(by cases h)⟩,⟨fun _=>?_⟩⟩
           .rw[hLe];simp only[DL,F6,LC,F8,forall_eq];omega
           .rw[hv.out rfl];simp only[Bm,Ci,Bl,hvy]
          |some st2=>
           have hgr:=B3 p _ _ _ _ _ hvy;refine IH.out ((_,st2),_) ⟨false,E8 hf hid2.out ?_ (p1.out.yes _ hvy) p1.out.frame,Fk hfit1 hgr,Hw hgr.less hun,⟨fun _=>?_⟩,⟨fun h=>(by cases h)⟩⟩
           .rw[hLe];simp only[DL,F6,LC,F8,forall_eq];omega
           .rw[hv.out rfl];simp only[Bm,Ci,Bl,hvy]
         .refine aw ?_;exact Eo hf (hno.out rfl)
       .rintro i ⟨⟨g,st1⟩,c⟩ hi him ⟨b,hf,hfit1,hun,hv,hno⟩;dsimp only at*;have hr1:=hf.node (48,ob) (by rw[hLe];exact FD ..);rw[←hob2.out]at hr1;have hr2:=hf.looks.box;rw[←hLV.out]at hr2;dsimp only at hr1;try simp only[*]at him
        cases b
        .refine aw ?_;exact OQ hf (hv.out rfl)
        .refine aw ?_;exact Eo hf (hno.out rfl)
theorem qE{p:AK}{sz mt:Abs.Id}{i:Nat}{s:Int}(hl:Hn h p l sz mt df st)(hi:i<p.nodes.length)(hs:st.bv[i]? =some s)(hz:st.bv.length=p.nodes.length)(π:List Nat):KL Tryz.prog cfg (.fn 166) [.ptr l 0,.d (.int .i64 i)] h π true none=.ok (.ret (.d (.int .i64 s)),h):=by
 obtain⟨b1,b2,b3,b4⟩:=hl;have hN:p.nodes.length≠0:=by omega
 have b2:=b2 hN;rw[A3 hN,A3 hN]at b1;refine zF rfl Tryz.func166 rfl rfl rfl ?_;show Wp _ _ _ _ (Tryz.f166.body.get rfl) _ _;simp only[Tryz.f166,AP];exact au
theorem JU{p:AK}{sz mt:Abs.Id}(hf:Hn g p l sz mt df st)(hi:Uh π l sz mt df)(t j:Nat)(o:Abs.Obj):Hn (g.put (t::j::π) o) p l sz mt df st:=
 ⟨by rw[get_put,AE hi.ul];exact hf.box,fun hn=>by rw[get_put,AE hi.us];exact hf.bv hn,fun hn=>by rw[get_put,AE hi.um];exact hf.met hn,fun hn=>by rw[get_put,AE hi.ud];exact hf.defs hn⟩
theorem qt(p:AK)(hN:p.nodes.length≤60)(st:BF)(h:AB)(π:List Nat)(l sz mt df a b:Abs.Id)(hl:Hn h p l sz mt df st)(hz:st.bv.length=p.nodes.length)(hid:Uh π l sz mt df)
 (ha:h.get a=some (.box [.d (.be (p.free.map A0)),.d (.be (p.nodes.map Al)),.d (.be (p.defs.map A8)),.d (.int .i64 p.main)])) (hb:h.get b=some (.box [.fn 166 [] []])) (ua:Id.under π a=false) (ub:Id.under π b=false) (hp:0<p.nodes.length):
 ∃o h',KL Tryz.prog cfg (.fn 187) [.ptr l 0,.ptr a 0,.ptr b 0] h π true none=.ok (o,h')∧(∃j,o=.ret (.d8 (1::j::π) 0 p.nodes.length)∧h'.get (1::j::π)=some (.d6 1 (st.bv.map AO)))∧ ∀id',Id.under π id'=false→h'.get id'=h.get id':=by
 (refine Aa rfl Tryz.func187 rfl rfl rfl ?_;show Wp _ _ _ _ (Tryz.f187.body.get rfl) _ _;simp only[Tryz.f187,AP])
 have hid:=AA.mk hid;have hl:=AA.mk hl;have hz2:=AA.mk hz;have u1:=AE ub;have u2:=AH ub;refine aw ?_;refine AY st.bv _ (fun m i a=>⟨[(0,.ptr l 0),(2,.ptr b 0),(5,a.1.2),(9,.d (.int .i64 m)),(10,.d (.int .i64 i))],a.1.1,a.2+6,[]⟩)
  (Inv:=fun i rest a=>AA (Hn a.1.1 p l sz mt df st)∧a.1.1.get b=some (.box [.fn 166 [] []])∧AA (∀id',Id.under π id'=false→a.1.1.get id'=h.get id')∧AA (i=0∧a.1.2=.ci∨ ∃j,j<a.2+6∧a.1.2=.d8 (1::j::π) 0 i∧a.1.1.get (1::j::π)=some (.d6 1 ((st.bv.take i).map AO)))) (b0:=((h,.ci),0)) ?_ ⟨hl,hb,⟨fun _ _=>rfl⟩,⟨.inl ⟨rfl,rfl⟩⟩⟩ ?_ ?_
 .omega
 .rintro i y ⟨⟨g,v⟩,c⟩ hy hi him ⟨hl,hb,hfr,hv⟩ IH;dsimp only at*;have hk:=fun ρ=>qE hl.out (by omega) hy hz ρ;rcases hv.out with⟨rfl,rfl⟩|⟨j,hj,rfl,hj2⟩
  .clear hv;have him0:(0:Int)<p.nodes.length:=by omega
   have hk: ∀ρ,KL Tryz.prog cfg (.fn 166) [.ptr l 0,.d (.int .i64 0)] g ρ true none=.ok (.ret (.d (.int .i64 y)),g):=hk;refine aw ?_;refine IH.out ((_,_),_) ⟨⟨JU (JU (Kn hl.out (Ej hid.out _)) hid.out _ _ _) hid.out _ _ _⟩,?_,⟨fun id' hu=>?_⟩,⟨.inr ⟨_,?_,rfl,?_⟩⟩⟩
   .simp only[go_sem,u1,u2,hb]
   .have hu1:=AE hu;have hu2:=AH hu;simp only[go_sem,hu1,hu2,hfr.out id' hu,AM]
   .omega
   .simp only[go_sem];rw[I3,hy];rfl
  .clear hv;have n1: ¬c+13=j:=by omega
   have n2: ¬c+14=j:=by omega
   have n3: ¬c+15=j:=by omega
   have tk:(st.bv.take i).length=i:=by simp;omega
   have nle: ¬i+1≤i:=by omega
   (repeat' (first|simp only[go_sem, *,El]|(refine sx ?_ ?_<;>intro hc)|refine sy (by omega) fun x hx hm=>?_|simp(disch:=first|assumption|omega) only[AG]))
   refine IH.out ((_,_),_) ⟨⟨JU (JU (JU (Kn hl.out (Ej hid.out _)) hid.out _ _ _) hid.out _ _ _) hid.out _ _ _⟩,?_,⟨fun id' hu=>?_⟩,⟨.inr ⟨_,?_,rfl,?_⟩⟩⟩
   .simp only[go_sem,u1,u2,hb]
   .have hu1:=AE hu;have hu2:=AH hu;simp only[go_sem,hu1,hu2,hfr.out id' hu,AM]
   .omega
   .simp only[go_sem];have:List.take i (List.map AO (List.take i st.bv))=List.map AO (List.take i st.bv):=D6 (by simp;omega);rw[this,I3,hy,BV];rfl
 .rintro i ⟨⟨g,v⟩,c⟩ hi him ⟨hl,hb,hfr,hv⟩;dsimp only at*;rcases hv.out with⟨rfl,rfl⟩|⟨j,hj,rfl,hj2⟩
  .exfalso;omega
  .clear hv;refine aw ?_;have hiN:=hi.out;refine⟨⟨_,by rw[hiN,hz],?_⟩,hfr.out⟩;rw[hj2,hiN,D4]
theorem Dq(i t j k:Nat)(π:List Nat)(h:i≠k):Id.under (i::π) (t::j::k::π)=false:=Du fun hs=>by
 rcases He.1 hs with e|hs
 .have:=congrArg List.length e;simp at this
 rcases He.1 hs with e|hs
 .have:=congrArg List.length e;simp at this
 rcases He.1 hs with e|hs
 .simp only[Ok,and_true]at e;exact h e
 .have:=hs.length_le;simp at this;omega
theorem iM{p:AK}{sz mt:Abs.Id}(hl:Hn g p l sz mt df st):Hn (g++h) p l sz mt df st:=⟨DN hl.box,fun hn=>DN (hl.bv hn),fun hn=>DN (hl.met hn),fun hn=>DN (hl.defs hn)⟩
structure YX(p:AK)(o:Ae)(h':AB):Prop where
 no:looks p=none→o=.ret (.f8 [.ci,.d (.int .i64 2)])
 yes: ∀st,looks p=some st→ ∃id,o=.ret (.f8 [.d8 (1::id) 0 p.nodes.length,.d (.int .i64 0)])∧h'.get (1::id)=some (.d6 1 (st.bv.map AO))
theorem iL(p:AK)(hp: ∀s∈p.free,s.size≤maxLen)(h:AB)(π:List Nat)(a b:Abs.Id)
 (ha:h.get a=some (.box [.d (.be (p.free.map A0)),.d (.be (p.nodes.map Al)),.d (.be (p.defs.map A8)),.d (.int .i64 p.main)])) (hb:h.get b=some (.box [.fn 166 [] []])) (ua:Id.under π a=false) (ub:Id.under π b=false):
 ∃o h',KL Tryz.prog cfg (.fn 186) [.agg [.d (.be (p.free.map A0)),.d (.be (p.nodes.map Al)),.d (.be (p.defs.map A8)),.d (.int .i64 p.main)],.fn 187 [] [.ptr a 0,.ptr b 0]] h π true none=.ok (o,h')∧YX p o h':=by
 (refine Aa rfl Tryz.func186 rfl rfl rfl ?_;show Wp _ _ _ _ (Tryz.f186.body.get rfl) _ _;simp only[Tryz.f186,AP])
 have hp:=AA.mk hp;have u1:=AE ua;have u2:=AH ua;have v1:=AE ub;have v2:=AH ub;obtain⟨r,e,hpost⟩:=s7 p hp.out 6 π;cases hlk:looks p with
 |none=>
  obtain rfl:=hpost.em hlk;refine aw ?_;exact⟨fun _=>rfl,fun st hst=>by rw[hlk]at hst;cases hst⟩
 |some st=>
  obtain⟨hh,rfl,hL,hnew⟩:=hpost.ret st hlk;replace hnew:=AA.mk hnew;replace hL:=AA.mk hL;have hF:=AA.mk (C0 hlk);have hz:=hF.out.len;have hsm:=hF.out.small;simp only[AK.small,AS,As]at hsm;have hN:0<p.nodes.length:=by
   have h1:=hF.out.main.2;have:=AL h1;omega
  refine aw ?_;refine AW (qt p hsm.2.1 st _ _ (0::16::6::π) (1::6::6::π) (1::10::6::π) (1::14::6::π) a b (iM hL.out) hz ?_ ?_ ?_ (u2 _) (v2 _) hN) (fun o1 g1 p1=>?_)
  .constructor<;>first|exact Dq _ _ _ _ _ (by decide)|simp only[go_sem]
  .rw[BK (hnew.out a (u2 _))];simp only[go_sem,u1,ha,AM]
  .rw[BK (hnew.out b (v2 _))];simp only[go_sem,v1,hb,AM]
  obtain⟨⟨j,rfl,r1⟩,fr⟩:=p1;have r2:=fr (0::2::π) (CL _ _ _ _ (by decide));rw[BK (hnew.out (0::2::π) (CL _ _ _ _ (by decide)))]at r2;simp only[get_put,is_self,F3]at r2;replace fr:=AA.mk fr;refine aw ?_;refine⟨fun hst=>by{rw[hlk]at hst;cases hst},fun st' hst=>?_⟩;rw[hlk]at hst;cases hst;exact⟨_,rfl,by simp only[go_sem,r1]⟩
def JD:Option BF→AV
 |none=>.f8 [.d (.be []),.d (.int .i64 2)]
 |some st=>.f8 [.d (.be (st.bv.map AO)),.d (.int .i64 0)]
theorem rV(p:AK)(hp: ∀s∈p.free,s.size≤maxLen):BJ (KL Tryz.prog cfg) 165 [.agg [.d (.be (p.free.map A0)),.d (.be (p.nodes.map Al)),.d (.be (p.defs.map A8)),.d (.int .i64 p.main)],.fn 166 [] []] []=.ok (.ret (JD (looks p)),[]):=by
 replace hp:=AA.mk hp
 (refine Ao rfl Tryz.func165 rfl rfl rfl ?_;show Wp _ _ _ _ (Tryz.f165.body.get rfl) _ _;simp only[Tryz.f165,AP])
 refine aw ?_;refine AW (iL p hp.out _ _ _ _ ?_ ?_ ?_ ?_) (fun o1 g1 p1=>?_)
 .simp only[go_sem]
 .simp only[go_sem]
 .simp only[go_sem]
 .simp only[go_sem]
 cases hlk:looks p with
 |none=>
  obtain rfl:=p1.no hlk;clear p1
  (repeat' (first|simp only[go_sem, *,JD]|(refine sx ?_ ?_<;>intro hc)|refine sy (by omega) fun x hx hm=>?_|simp(disch:=first|assumption|omega) only[AG]))
 |some st=>
  obtain⟨id,rfl,r1⟩:=p1.yes st hlk;clear p1;have hz:=(C0 hlk).len;have tk1:List.take p.nodes.length (List.map AO st.bv)=List.map AO st.bv:=D6 (by simp[hz])
  (repeat' (first|simp only[go_sem, *,JD,El]|(refine sx ?_ ?_<;>intro hc)|refine sy (by omega) fun x hx hm=>?_|simp(disch:=first|assumption|omega) only[AG]))
theorem lF(p:AK)(hp: ∀s∈p.free,s.size≤maxLen):BJ (KL Tryz.prog cfg) 109 [.agg [.d (.be (p.free.map A0)),.d (.be (p.nodes.map Al)),.d (.be (p.defs.map A8)),.d (.int .i64 p.main)]] []=.ok (.ret (JD (looks p)),[]):=by
 have hk:=rV p hp;clear hp
 (refine Ao rfl Tryz.func109 rfl rfl rfl ?_;show Wp _ _ _ _ (Tryz.f109.body.get rfl) _ _;simp only[Tryz.f109,AP])
 cases hlk:looks p with
 |none=>
  rw[hlk,JD]at hk
  (repeat' (first|simp only[go_sem, *,JD]|(refine sx ?_ ?_<;>intro hc)|refine sy (by omega) fun x hx hm=>?_|simp(disch:=first|assumption|omega) only[AG]))
 |some st=>
  rw[hlk,JD]at hk
  (repeat' (first|simp only[go_sem, *,JD]|(refine sx ?_ ?_<;>intro hc)|refine sy (by omega) fun x hx hm=>?_|simp(disch:=first|assumption|omega) only[AG]))
theorem cZ: ∀(a b:List UInt8),(Op.bytesLess a b||a==b)= !Op.bytesLess b a
 |[],[]=>by simp[Op.bytesLess]
 |[],b::y=>by simp[Op.bytesLess]
 |a::x,[]=>by simp[Op.bytesLess]
 |a::x,b::y=>by
  have ih:=cZ x y;simp only[Op.bytesLess,List.cons_beq_cons];by_cases h1:a<b
  .have h2: ¬b<a:=fun h=>by
    have:=UInt8.lt_asymm h1 h;exact this
   have h3:(b==a)=false:=by
    simp only[beq_eq_false_iff_ne];intro h;subst h;exact UInt8.lt_irrefl _ h1
   simp[h1,h2,h3]
  .by_cases h2:b<a
   .have h3:(a==b)=false:=by
     simp only[beq_eq_false_iff_ne];intro h;subst h;exact UInt8.lt_irrefl _ h2
    simp[h1,h2,h3]
   .have h3:a=b:=UInt8.le_antisymm (UInt8.not_lt.1 h2) (UInt8.not_lt.1 h1);subst h3;simp only[h1,decide_false,Ip,beq_self_eq_true,F0];exact ih
theorem kH(a b:ByteArray):(Op.bytesLess a.toList b.toList||a.toList==b.toList)= !YJ b a:=cZ _ _
theorem Vt{p:AK}{bv:List Int}(h:Bq p bv): ∀d∈p.defs,d.okG=true:=by
 intro d hd;obtain⟨i,hi⟩:=Hm hd;obtain⟨j,x,hx,hxo,hxn⟩:=h.used i (BE.1 hi).1;obtain⟨s,l,_,_,_,_,hl,_⟩:=h.node j x hx;rw[HD,D7 hxo,hxn,hi]at hl;dsimp only at hl;split at hl
 .assumption
 .cases hl
structure qm(p:AK)(r:Ae×AB):Prop where
 no:looks p=none→ ∃h l x0 x1 x2 x3 x4 x5 x6,r=(.ret (.ptr (0::l) 0),h)∧h.get (0::l)=some (.box [x0,x1,x2,x3,x4,x5,x6,.d (.bool true)])
 yes: ∀st,looks p=some st→ ∃h l sz ow us,r=(.ret (.ptr (0::l) 0),h)∧FZ h p (0::l) (1::sz) (1::ow) (1::us) st false
theorem PX(n:Nat):(List.replicate n (0:Int)).map AO=(List.replicate n false).map G9:=by
 rw[Mt,Mt];rfl
def st0:BF:=⟨[],[],[]⟩
theorem wi(p:AK)(k:Nat)(ρ:List Nat): ∃r:Ae×AB,BJ (KL Tryz.prog cfg) 83 [.agg [.d (.be (p.free.map A0)),.d (.be (p.nodes.map Al)),.d (.be (p.defs.map A8)),.d (.int .i64 p.main)]] (k::ρ)=.ok r∧qm p r:=by
 by_cases hs:p.small=true
 .have hs2:=AA.mk hs;simp only[AK.small,AS,As]at hs;obtain⟨c1,c2,c3⟩:=hs;have d1: ¬(12:Int)<p.free.length:=by omega
  have d2: ¬(60:Int)<p.nodes.length:=by omega
  have d3: ¬(12:Int)<p.defs.length:=by omega
  (refine FA rfl Tryz.func83 rfl rfl rfl ?_;show Wp _ _ _ _ (Tryz.f83.body.get rfl) _ _;simp only[Tryz.f83,AP])
  refine aw ?_;refine Au p.free (S:=fun i b=>⟨[(1,.ptr (0::0::k::ρ) 0),(3,.ptr (0::1::k::ρ) 0),(4,.d (.int .i64 i))],[(0::0::k::ρ,.box [.d (.be (p.free.map A0)),.d (.be (p.nodes.map Al)),.d (.be (p.defs.map A8)),.d (.int .i64 p.main)]),(0::1::k::ρ,.box [.d (.be (p.free.map A0)),.d (.be (p.nodes.map Al)),.d (.be (p.defs.map A8)),.d (.int .i64 p.main),.ci,.ci,.ci,.d (.bool b)])],2,[]⟩)
   (Inv:=fun i rest b=>AA ((!b&&HA (if i=0 then none else p.free[i-1]?) rest)=Jw p.free)) (b0:=false) ⟨rfl⟩ ?_ ?_
  .rintro i y b hy hi him hr IH;have hnm:=pE y;rcases i with _|j
   .rw[D7 rfl]at hr;have him0:(0:Int)<p.free.length:=by omega
    cases b;all_goals ((repeat' (first|simp only[go_sem, *]|(refine sx ?_ ?_<;>intro hc)|refine sy (by omega) fun x hx hm=>?_|simp(disch:=first|assumption|omega) only[AG])))
    all_goals
     refine IH.out _ ⟨?_⟩;rw[←hr.out];rw[D3 (by omega),OS,hy];simp[HA,YJ, *]
   .obtain⟨q,hq⟩:=get_some (l:=p.free) (i:=j) (by omega);rw[D3 (by omega),OS,hq]at hr;have w:IntKind.i64.wrap (((j+1:Nat):Int)-1)=(j:Int):=by rw[wrap_id (by omega) (by omega)];omega
    have w0:(0:Int)<((j+1:Nat):Int):=by omega
    cases b;all_goals ((repeat' (first|simp only[go_sem, *]|(refine sx ?_ ?_<;>intro hc)|refine sy (by omega) fun x hx hm=>?_|simp(disch:=first|assumption|omega) only[AG])))
    all_goals
     refine IH.out _ ⟨?_⟩;rw[←hr.out];rw[D3 (by omega),OS,hy];simp[HA,kH, *]
  .rintro i b hi him hr;rw[HA,MK]at hr;refine aw ?_;refine Au p.defs (S:=fun i b=>⟨[(1,.ptr (0::0::k::ρ) 0),(3,.ptr (0::1::k::ρ) 0),(5,.d (.int .i64 i))],[(0::0::k::ρ,.box [.d (.be (p.free.map A0)),.d (.be (p.nodes.map Al)),.d (.be (p.defs.map A8)),.d (.int .i64 p.main)]),(0::1::k::ρ,.box [.d (.be (p.free.map A0)),.d (.be (p.nodes.map Al)),.d (.be (p.defs.map A8)),.d (.int .i64 p.main),.ci,.ci,.ci,.d (.bool b)])],2,[]⟩)
    (Inv:=fun i rest b=>AA ((!b&&rest.all Bz.okG)=(Jw p.free&&p.defs.all Bz.okG))) (b0:=b) ⟨?_⟩ ?_ ?_
   .rw[←hr.out]
   .clear hr hi him i b;rintro i y b hy hi him hr IH;have hdr:=rL y;rw[zw]at hdr;cases b;all_goals (refine aw ?_)
    all_goals
     refine IH.out _ ⟨?_⟩;rw[←hr.out,D0];cases y.okG<;>simp
   .clear hr hi him i b;rintro i b hi him hr;rw[Ol,MK]at hr;have him2: ¬(i:Int)<0:=by omega
    have hbadL:AA (b=true→looks p=none):=⟨fun hb=>by
     have hr:=hr.out;rw[hb]at hr;cases hl:looks p with
     |none=>rfl
     |some st=>
      exfalso;have hf:Jw p.free=true:=by
       unfold looks at hl;split at hl
       .rename_i h;exact h.2
       .cases hl
      have hd:p.defs.all Bz.okG=true:=CO.2 (Vt (C0 hl));rw[hf,hd]at hr;cases hr⟩
    cases b
    .have hfree:AA (Jw p.free=true):=⟨by have:=hr.out;simp at this;exact this.1.symm▸rfl⟩;have hdef:AA (∀d∈p.defs,d.okG=true):=⟨by have:=hr.out;simp at this;exact this.2⟩;by_cases hN0:p.nodes.length=0
     .by_cases hD0:p.defs.length=0
      ·(repeat' (first|simp only[go_sem, *]|(refine sx ?_ ?_<;>intro hc)|refine sy (by omega) fun x hx hm=>?_|simp(disch:=first|assumption|omega) only[AG,E5,FR]))
       refine AW (Hh p c2 p.main p.free.length (BF.init p) _ _ (0::1::k::ρ) (1::13::k::ρ) (1::17::k::ρ) (1::21::k::ρ) ⟨?_,?_,?_⟩ ?_ ⟨?_,fun _ h=>absurd hN0 h,fun _ h=>absurd hN0 h,fun _ _=>?_,fun h=>absurd hN0 h,fun h=>absurd hN0 h,fun _=>?_⟩ ?_) (fun o1 g1 p1=>?_)
       .simp[BF.init]
       .simp[BF.init]
       .simp[BF.init]
       .constructor<;>first|exact CL _ _ _ _ (by decide)|simp only[go_sem]
       .simp only[DD,wd,hN0,hD0,D8,F3];simp only[go_sem]
       .exact absurd hD0 ‹_›
       .exact absurd hD0 ‹_›
       .omega
       obtain rfl:=p1.ret;have hl:=GK (ρ:=41::k::ρ) (p1.no rfl st0) (by constructor<;>first|exact CL _ _ _ _ (by decide)|simp only[go_sem]);have q1:=hl.box;rw[DD,G5 hN0,G5 hN0,G5 hD0]at q1;have hno:AA (looks p=none):=⟨by
        unfold looks;split
        .have:Az p (p.nodes.length+1) p.main p.free.length (BF.init p)=none:=by
          rw[Az,D3];intro hh;have:=AL hh.2;simp[BF.init]at this;omega
         rw[this]
        .rfl⟩
       replace hl:=AA.mk hl;replace p1:=AA.mk p1;refine aw ?_;rw[Cf];refine aw ?_;rw[Cf];refine aw ?_;exact⟨fun _=>⟨_,_,_,_,_,_,_,_,_,rfl,by(simp only[go_sem];try rfl)⟩,fun st hs=>(by rw[hno.out]at hs;cases hs)⟩
      ·(repeat' (first|simp only[go_sem, *]|(refine sx ?_ ?_<;>intro hc)|refine sy (by omega) fun x hx hm=>?_|simp(disch:=first|assumption|omega) only[AG,E5,FR]))
       refine AW (Hh p c2 p.main p.free.length (BF.init p) _ _ (0::1::k::ρ) (1::13::k::ρ) (1::17::k::ρ) (1::21::k::ρ) ⟨?_,?_,?_⟩ ?_ ⟨?_,fun _ h=>absurd hN0 h,fun _ h=>absurd hN0 h,fun _ _=>?_,fun h=>absurd hN0 h,fun h=>absurd hN0 h,fun _=>?_⟩ ?_) (fun o1 g1 p1=>?_)
       .simp[BF.init]
       .simp[BF.init]
       .simp[BF.init]
       .constructor<;>first|exact CL _ _ _ _ (by decide)|simp only[go_sem]
       .simp only[DD,wd,hN0,hD0,D8,F3];simp only[go_sem]
       .simp only[go_sem,BF.init,PX]
       .exact⟨_,by(simp only[go_sem];rfl)⟩
       .omega
       obtain rfl:=p1.ret;have hl:=GK (ρ:=41::k::ρ) (p1.no rfl st0) (by constructor<;>first|exact CL _ _ _ _ (by decide)|simp only[go_sem]);obtain⟨C,q4⟩:=hl.kd hD0;have q1:=hl.box;rw[DD,G5 hN0,G5 hN0,A3 hD0]at q1;have hno:AA (looks p=none):=⟨by
        unfold looks;split
        .have:Az p (p.nodes.length+1) p.main p.free.length (BF.init p)=none:=by
          rw[Az,D3];intro hh;have:=AL hh.2;simp[BF.init]at this;omega
         rw[this]
        .rfl⟩
       replace hl:=AA.mk hl;replace p1:=AA.mk p1;refine aw ?_;rw[Cf];refine aw ?_;clear q1 q4 hl p1 hbadL hr him him2 hi i;refine AY (List.replicate p.defs.length ()) (S:=fun _ i (_:Unit)=>⟨[(3,.ptr (0::0::k::ρ) 0),(7,.d (.int .i64 i))],[(0::0::k::ρ,.box [.d (.be (p.free.map A0)),.d (.be (p.nodes.map Al)),.d (.be (p.defs.map A8)),.d (.int .i64 p.main),.emp,.emp,.d8 (1::1::k::ρ) 0 p.defs.length,.d (.bool true)]),(1::1::k::ρ,.d6 1 C)],2,[]⟩)
        (Inv:=fun i rest b=>True) (b0:=()) (m:=p.defs.length) (by simp) trivial ?_ ?_
       .rintro i y b hy hi him hr IH;refine aw ?_;exact IH.out () trivial
       .rintro i b hi him hr;refine aw ?_;exact⟨fun _=>⟨_,_,_,_,_,_,_,_,_,rfl,by(simp only[go_sem];try rfl)⟩,fun st hs=>(by rw[hno.out]at hs;cases hs)⟩
     .by_cases hD0:p.defs.length=0
      ·(repeat' (first|simp only[go_sem, *]|(refine sx ?_ ?_<;>intro hc)|refine sy (by omega) fun x hx hm=>?_|simp(disch:=first|assumption|omega) only[AG,E5,FR]))
       refine AW (W9 p c2 c3 hdef.out (p.nodes.length+1) p.main p.free.length (BF.init p) _ _ (0::1::k::ρ) (1::13::k::ρ) (1::17::k::ρ) (1::21::k::ρ) ?_ ⟨?_,?_,?_⟩ ?_ ?_ ?_ ⟨?_,fun _ _=>?_,fun _ _=>?_,fun _ _=>?_,fun _=>?_,fun _=>?_,fun _=>?_⟩) (fun o1 g1 p1=>?_)
       .have:=LA (BF.init p).met;simp only[BF.init,It]at*;omega
       .simp[BF.init]
       .simp[BF.init]
       .simp[BF.init]
       .omega
       .omega
       .constructor<;>first|exact CL _ _ _ _ (by decide)|simp only[go_sem]
       .simp only[DD,wd,hN0,hD0,D8,F3];simp only[go_sem]
       .simp only[go_sem,BF.init]
       .simp only[go_sem,BF.init,PX]
       .exact absurd hD0 ‹_›
       .exact⟨_,by(simp only[go_sem];rfl)⟩
       .exact⟨_,by(simp only[go_sem];rfl)⟩
       .exact absurd hD0 ‹_›
       obtain rfl:=p1.ret;cases hv:Az p (p.nodes.length+1) p.main p.free.length (BF.init p)with
       |none=>
        have hl:=GK (ρ:=41::k::ρ) (p1.no hv st0) (by constructor<;>first|exact CL _ _ _ _ (by decide)|simp only[go_sem]);obtain⟨A,q2⟩:=hl.ks hN0;obtain⟨B,q3⟩:=hl.km hN0;have q1:=hl.box;rw[DD,A3 hN0,A3 hN0,G5 hD0]at q1;have hno:AA (looks p=none):=⟨by
         unfold looks;rw[hv];split<;>rfl⟩
        replace hl:=AA.mk hl;replace p1:=AA.mk p1;refine aw ?_;clear q1 q2 q3 hl p1 hbadL hr him him2 hi i;refine AY (List.replicate p.nodes.length ()) (S:=fun _ i (_:Unit)=>⟨[(3,.ptr (0::0::k::ρ) 0),(6,.d (.int .i64 i))],[(0::0::k::ρ,.box [.d (.be (p.free.map A0)),.d (.be (p.nodes.map Al)),.d (.be (p.defs.map A8)),.d (.int .i64 p.main),.d8 (1::1::k::ρ) 0 p.nodes.length,.d8 (1::2::k::ρ) 0 p.nodes.length,.emp,.d (.bool true)]),(1::1::k::ρ,.d6 1 (A)),(1::2::k::ρ,.d6 1 (B))],3,[]⟩)
         (Inv:=fun i rest b=>True) (b0:=()) (m:=p.nodes.length) (by simp) trivial ?_ ?_
        .rintro i y b hy hi him hr IH;refine aw ?_;exact IH.out () trivial
        .rintro i b hi him hr;refine aw ?_;rw[Cf];refine aw ?_;exact⟨fun _=>⟨_,_,_,_,_,_,_,_,_,rfl,by(simp only[go_sem];try rfl)⟩,fun st hs=>(by rw[hno.out]at hs;cases hs)⟩
       |some st=>
        have hl:=GK (ρ:=41::k::ρ) (p1.yes st hv) (by constructor<;>first|exact CL _ _ _ _ (by decide)|simp only[go_sem]);have q1:=hl.box;have q2:=hl.bv rfl hN0;have q3:=hl.met rfl hN0;rw[DD,A3 hN0,A3 hN0,G5 hD0]at q1;replace hl:=AA.mk hl;replace p1:=AA.mk p1;refine aw ?_;have hg:=B3 p _ _ _ _ _ hv;have m1:st.met.length=p.nodes.length:=by rw[hg.met];simp[BF.init]
        have m2:st.defs.length=p.defs.length:=by rw[hg.defs];simp[BF.init]
        have hlk:=AA.mk (NU hs2.out hfree.out hv);clear q1 q2 q3 hl p1 hbadL hr him him2 hi i;refine AY st.met (S:=fun _ i b=>⟨[(3,.ptr (0::0::k::ρ) 0),(6,.d (.int .i64 i))],[(0::0::k::ρ,.box [.d (.be (p.free.map A0)),.d (.be (p.nodes.map Al)),.d (.be (p.defs.map A8)),.d (.int .i64 p.main),.d8 (1::1::k::ρ) 0 p.nodes.length,.d8 (1::2::k::ρ) 0 p.nodes.length,.emp,.d (.bool b)]),(1::1::k::ρ,.d6 1 (st.bv.map AO)),(1::2::k::ρ,.d6 1 (st.met.map G9))],3,[]⟩)
         (Inv:=fun i rest b=>AA ((!b&&rest.all id)=st.met.all id)) (b0:=false) (m:=p.nodes.length) (by omega) ⟨rfl⟩ ?_ ?_
        .rintro i y b hy hi him hr IH;have hiN:=Int.ofNat_lt.1 him;cases b<;>cases y;all_goals (refine aw ?_)
         all_goals
          refine IH.out _ ⟨?_⟩;rw[←hr.out];simp
        .rintro i b hi him hr;rw[Ol,MK]at hr;refine aw ?_;rw[Cf];refine aw ?_;have hr:AA ((!b)=(st.met.all id&&st.defs.all id)):=⟨by
          rw[hr.out,CE (m2.trans hD0)];simp⟩
         have hx:=hlk.out;cases b
         .have:st.met.all id=true∧st.defs.all id=true:=by have:=hr.out;simp only[OK]at this;exact(AS _ _).mp this.symm
          rw[HI,HI]at this;rw[D7 this]at hx;refine⟨fun hn=>(by rw[hx]at hn;cases hn),fun st' hs=>?_⟩;rw[hx]at hs;cases hs;refine⟨_,_,1::k::ρ,2::k::ρ,3::k::ρ,rfl,⟨?_,fun _ _=>?_,fun _ _=>?_,fun _ _=>?_,fun _=>?_,fun _=>?_,fun _=>?_⟩⟩
          .simp only[DD,wd,hN0,hD0,D8,F3];simp only[go_sem]
          .simp only[go_sem]
          .simp only[go_sem]
          .exact absurd hD0 ‹_›
          .exact⟨_,by(simp only[go_sem];try rfl)⟩
          .exact⟨_,by(simp only[go_sem];try rfl)⟩
          .exact absurd hD0 ‹_›
         .have: ¬((¬false∈st.met)∧(¬false∈st.defs)):=fun h=>by
           rw[←HI,←HI]at h;have:=hr.out;rw[h.1,h.2]at this;cases this
          rw[D3 this]at hx;exact⟨fun _=>⟨_,_,_,_,_,_,_,_,_,rfl,by(simp only[go_sem];try rfl)⟩,fun st hs=>(by rw[hx]at hs;cases hs)⟩
      ·(repeat' (first|simp only[go_sem, *]|(refine sx ?_ ?_<;>intro hc)|refine sy (by omega) fun x hx hm=>?_|simp(disch:=first|assumption|omega) only[AG,E5,FR]))
       refine AW (W9 p c2 c3 hdef.out (p.nodes.length+1) p.main p.free.length (BF.init p) _ _ (0::1::k::ρ) (1::13::k::ρ) (1::17::k::ρ) (1::21::k::ρ) ?_ ⟨?_,?_,?_⟩ ?_ ?_ ?_ ⟨?_,fun _ _=>?_,fun _ _=>?_,fun _ _=>?_,fun _=>?_,fun _=>?_,fun _=>?_⟩) (fun o1 g1 p1=>?_)
       .have:=LA (BF.init p).met;simp only[BF.init,It]at*;omega
       .simp[BF.init]
       .simp[BF.init]
       .simp[BF.init]
       .omega
       .omega
       .constructor<;>first|exact CL _ _ _ _ (by decide)|simp only[go_sem]
       .simp only[DD,wd,hN0,hD0,D8,F3];simp only[go_sem]
       .simp only[go_sem,BF.init]
       .simp only[go_sem,BF.init,PX]
       .simp only[go_sem,BF.init,PX]
       .exact⟨_,by(simp only[go_sem];rfl)⟩
       .exact⟨_,by(simp only[go_sem];rfl)⟩
       .exact⟨_,by(simp only[go_sem];rfl)⟩
       obtain rfl:=p1.ret;cases hv:Az p (p.nodes.length+1) p.main p.free.length (BF.init p)with
       |none=>
        have hl:=GK (ρ:=41::k::ρ) (p1.no hv st0) (by constructor<;>first|exact CL _ _ _ _ (by decide)|simp only[go_sem]);obtain⟨A,q2⟩:=hl.ks hN0;obtain⟨B,q3⟩:=hl.km hN0;obtain⟨C,q4⟩:=hl.kd hD0;have q1:=hl.box;rw[DD,A3 hN0,A3 hN0,A3 hD0]at q1;have hno:AA (looks p=none):=⟨by
         unfold looks;rw[hv];split<;>rfl⟩
        replace hl:=AA.mk hl;replace p1:=AA.mk p1;refine aw ?_;clear q1 q2 q3 q4 hl p1 hbadL hr him him2 hi i;refine AY (List.replicate p.nodes.length ()) (S:=fun _ i (_:Unit)=>⟨[(3,.ptr (0::0::k::ρ) 0),(6,.d (.int .i64 i))],[(0::0::k::ρ,.box [.d (.be (p.free.map A0)),.d (.be (p.nodes.map Al)),.d (.be (p.defs.map A8)),.d (.int .i64 p.main),.d8 (1::1::k::ρ) 0 p.nodes.length,.d8 (1::2::k::ρ) 0 p.nodes.length,.d8 (1::3::k::ρ) 0 p.defs.length,.d (.bool true)]),(1::1::k::ρ,.d6 1 (A)),(1::2::k::ρ,.d6 1 (B)),(1::3::k::ρ,.d6 1 (C))],4,[]⟩)
         (Inv:=fun i rest b=>True) (b0:=()) (m:=p.nodes.length) (by simp) trivial ?_ ?_
        .rintro i y b hy hi him hr IH;refine aw ?_;exact IH.out () trivial
        .rintro i b hi him hr;refine aw ?_;refine AY (List.replicate p.defs.length ()) (S:=fun _ i (_:Unit)=>⟨[(3,.ptr (0::0::k::ρ) 0),(7,.d (.int .i64 i))],[(0::0::k::ρ,.box [.d (.be (p.free.map A0)),.d (.be (p.nodes.map Al)),.d (.be (p.defs.map A8)),.d (.int .i64 p.main),.d8 (1::1::k::ρ) 0 p.nodes.length,.d8 (1::2::k::ρ) 0 p.nodes.length,.d8 (1::3::k::ρ) 0 p.defs.length,.d (.bool true)]),(1::1::k::ρ,.d6 1 (A)),(1::2::k::ρ,.d6 1 (B)),(1::3::k::ρ,.d6 1 (C))],4,[]⟩)
          (Inv:=fun i rest b=>True) (b0:=()) (m:=p.defs.length) (by simp) trivial ?_ ?_
         .clear hr hi him i b;rintro i y b hy hi him hr IH;refine aw ?_;exact IH.out () trivial
         .clear hr hi him i b;rintro i b hi him hr;refine aw ?_;exact⟨fun _=>⟨_,_,_,_,_,_,_,_,_,rfl,by(simp only[go_sem];try rfl)⟩,fun st hs=>(by rw[hno.out]at hs;cases hs)⟩
       |some st=>
        have hl:=GK (ρ:=41::k::ρ) (p1.yes st hv) (by constructor<;>first|exact CL _ _ _ _ (by decide)|simp only[go_sem]);have q1:=hl.box;have q2:=hl.bv rfl hN0;have q3:=hl.met rfl hN0;have q4:=hl.defs rfl hD0;rw[DD,A3 hN0,A3 hN0,A3 hD0]at q1;replace hl:=AA.mk hl;replace p1:=AA.mk p1;refine aw ?_;have hg:=B3 p _ _ _ _ _ hv;have m1:st.met.length=p.nodes.length:=by rw[hg.met];simp[BF.init]
        have m2:st.defs.length=p.defs.length:=by rw[hg.defs];simp[BF.init]
        have hlk:=AA.mk (NU hs2.out hfree.out hv);clear q1 q2 q3 q4 hl p1 hbadL hr him him2 hi i;refine AY st.met (S:=fun _ i b=>⟨[(3,.ptr (0::0::k::ρ) 0),(6,.d (.int .i64 i))],[(0::0::k::ρ,.box [.d (.be (p.free.map A0)),.d (.be (p.nodes.map Al)),.d (.be (p.defs.map A8)),.d (.int .i64 p.main),.d8 (1::1::k::ρ) 0 p.nodes.length,.d8 (1::2::k::ρ) 0 p.nodes.length,.d8 (1::3::k::ρ) 0 p.defs.length,.d (.bool b)]),(1::1::k::ρ,.d6 1 (st.bv.map AO)),(1::2::k::ρ,.d6 1 (st.met.map G9)),(1::3::k::ρ,.d6 1 (st.defs.map G9))],4,[]⟩)
         (Inv:=fun i rest b=>AA ((!b&&rest.all id)=st.met.all id)) (b0:=false) (m:=p.nodes.length) (by omega) ⟨rfl⟩ ?_ ?_
        .rintro i y b hy hi him hr IH;have hiN:=Int.ofNat_lt.1 him;cases b<;>cases y;all_goals (refine aw ?_)
         all_goals
          refine IH.out _ ⟨?_⟩;rw[←hr.out];simp
        .rintro i b hi him hr;rw[Ol,MK]at hr;refine aw ?_;refine AY st.defs (S:=fun _ i b=>⟨[(3,.ptr (0::0::k::ρ) 0),(7,.d (.int .i64 i))],[(0::0::k::ρ,.box [.d (.be (p.free.map A0)),.d (.be (p.nodes.map Al)),.d (.be (p.defs.map A8)),.d (.int .i64 p.main),.d8 (1::1::k::ρ) 0 p.nodes.length,.d8 (1::2::k::ρ) 0 p.nodes.length,.d8 (1::3::k::ρ) 0 p.defs.length,.d (.bool b)]),(1::1::k::ρ,.d6 1 (st.bv.map AO)),(1::2::k::ρ,.d6 1 (st.met.map G9)),(1::3::k::ρ,.d6 1 (st.defs.map G9))],4,[]⟩)
          (Inv:=fun i rest b=>AA ((!b&&rest.all id)=(st.met.all id&&st.defs.all id))) (b0:=b) (m:=p.defs.length) (by omega) ⟨?_⟩ ?_ ?_
         .rw[hr.out]
         .clear hr hi him i b;rintro i y b hy hi him hr IH;have hiN:=Int.ofNat_lt.1 him;cases b<;>cases y;all_goals (refine aw ?_)
          all_goals
           refine IH.out _ ⟨?_⟩;rw[←hr.out];simp
         .clear hr hi him i b;rintro i b hi him hr;rw[Ol,MK]at hr;refine aw ?_;have hx:=hlk.out;cases b
          .have:st.met.all id=true∧st.defs.all id=true:=by have:=hr.out;simp only[OK]at this;exact(AS _ _).mp this.symm
           rw[HI,HI]at this;rw[D7 this]at hx;refine⟨fun hn=>(by rw[hx]at hn;cases hn),fun st' hs=>?_⟩;rw[hx]at hs;cases hs;refine⟨_,_,1::k::ρ,2::k::ρ,3::k::ρ,rfl,⟨?_,fun _ _=>?_,fun _ _=>?_,fun _ _=>?_,fun _=>?_,fun _=>?_,fun _=>?_⟩⟩
           .simp only[DD,wd,hN0,hD0,D8,F3];simp only[go_sem]
           .simp only[go_sem]
           .simp only[go_sem]
           .simp only[go_sem]
           .exact⟨_,by(simp only[go_sem];try rfl)⟩
           .exact⟨_,by(simp only[go_sem];try rfl)⟩
           .exact⟨_,by(simp only[go_sem];try rfl)⟩
          .have: ¬((¬false∈st.met)∧(¬false∈st.defs)):=fun h=>by
            rw[←HI,←HI]at h;have:=hr.out;rw[h.1,h.2]at this;cases this
           rw[D3 this]at hx;exact⟨fun _=>⟨_,_,_,_,_,_,_,_,_,rfl,by(simp only[go_sem];try rfl)⟩,fun st hs=>(by rw[hx]at hs;cases hs)⟩
    .by_cases hN0:p.nodes.length=0<;>by_cases hD0:p.defs.length=0;all_goals ((repeat' (first|simp only[go_sem, *]|(refine sx ?_ ?_<;>intro hc)|refine sy (by omega) fun x hx hm=>?_|simp(disch:=first|assumption|omega) only[AG,E5,FR])))
     all_goals exact⟨fun _=>⟨_,_,_,_,_,_,_,_,_,rfl,by(simp only[go_sem];try rfl)⟩,fun st hs=>(by rw[hbadL.out rfl]at hs;cases hs)⟩
 .have e:looks p=none:=by
   unfold looks;rw[D3 fun h=>hs h.1]
  have hs: ¬(p.free.length≤12∧p.nodes.length≤60∧p.defs.length≤12):=by
   intro h;apply hs;simp only[AK.small,AS,As];exact h
  replace hs:=AA.mk hs
  (refine FA rfl Tryz.func83 rfl rfl rfl ?_;show Wp _ _ _ _ (Tryz.f83.body.get rfl) _ _;simp only[Tryz.f83,AP])
  (repeat' (first|simp only[go_sem, *]|(refine sx ?_ ?_<;>intro hc)|refine sy (by omega) fun x hx hm=>?_|simp(disch:=first|assumption|omega) only[AG]))
  all_goals first
  |exact⟨fun _=>⟨_,_,_,_,_,_,_,_,_,rfl,by(simp only[go_sem];try rfl)⟩,fun st hs=>(by rw[e]at hs;cases hs)⟩
  |(have hs:=hs.out;exfalso;omega)
def Y7(p:AK):Int:=match looks p with|some _=>0|none=>2
theorem c9(p:AK):BJ (KL Tryz.prog cfg) 44 [.agg [.d (.be (p.free.map A0)),.d (.be (p.nodes.map Al)),.d (.be (p.defs.map A8)),.d (.int .i64 p.main)]] []=.ok (.ret (.d (.int .i64 (Y7 p))),[]):=by
 (refine Ao rfl Tryz.func44 rfl rfl rfl ?_;show Wp _ _ _ _ (Tryz.f44.body.get rfl) _ _;simp only[Tryz.f44,AP])
 obtain⟨r,e,hp⟩:=wi p 3 [];cases hl:looks p with
 |none=>
  obtain⟨h,l,x0,x1,x2,x3,x4,x5,x6,rfl,hg⟩:=hp.no hl;replace hp:=AA.mk hp;have he:Y7 p=2:=by rw[Y7,hl]
  rw[he]
  (repeat' (first|simp only[go_sem, *,PV]|(refine sx ?_ ?_<;>intro hc)|refine sy (by omega) fun x hx hm=>?_|simp(disch:=first|assumption|omega) only[AG]))
 |some st=>
  obtain⟨h,l,sz,ow,us,rfl,hg⟩:=hp.yes st hl;have q1:=hg.box;rw[DD]at q1;replace hp:=AA.mk hp;have he:Y7 p=0:=by rw[Y7,hl]
  rw[he]
  (repeat' (first|simp only[go_sem, *,PV]|(refine sx ?_ ?_<;>intro hc)|refine sy (by omega) fun x hx hm=>?_|simp(disch:=first|assumption|omega) only[AG]))
theorem vY(t:Bool):Bg (CQ 2) t=.ok (G6 (CQ 2) t):=Q8 _ _
theorem UE{l:List Cr}{i:Int}{s:Cr}(h:l[i.toNat]? =some s):EA l i=s.pp:=by simp[EA,h]
theorem vR(l:List Cr)(hl:l.length≤1000):BJ (KL Tryz.prog cfg) 61 [.d (.be (l.map A9))] []=Bg (CQ 2) (IJ l):=by
 rw[vY]
 (refine Ao rfl Tryz.func61 rfl rfl rfl ?_;show Wp _ _ _ _ (Tryz.f61.body.get rfl) _ _;simp only[Tryz.f61,AP])
 by_cases h0:(0:Int)<l.length
 .obtain⟨s0,hs0⟩:=get_some (l:=l) (i:=0) (by omega);have hp0:EA l 0=s0.pp:=UE hs0
  (repeat' (first|simp only[go_sem, *]|(refine sx ?_ ?_<;>intro hc)|refine sy (by omega) fun x hx hm=>?_|simp(disch:=first|assumption|omega) only[AG]))
  .refine AY l _ (S:=fun m i (_:Unit)=>⟨[(0,.d (.be (l.map A9))),(17,.d (.int .i64 m)),(18,.d (.int .i64 i))],[],0,[]⟩)
    (Inv:=fun i rest _=>AA (IJ l=Hr l i rest.length)) (b0:=()) rfl ⟨?_⟩ ?_ ?_
   .simp only[IJ];rw[DO (show 0<l.length by omega),DO (show EA l 0= -1 by rw[hp0];assumption)];rfl
   .rintro i y _ hy hi him hr IH;rw[Gc,Hr]at hr;refine aw ?_;have hr0:=hr;refine rounds (S:=fun a:Int×Nat=>⟨[(0,.d (.be (l.map A9))),(3,.d (.int .i64 (a.1))),(4,.d (.int .i64 (a.2))),(17,.d (.int .i64 (l.length))),(18,.d (.int .i64 (i)))],[],0,[]⟩)
     (Inv:=fun a=>KK l a.1∧a.2≤l.length∧AA (CH l l.length i=CH l (l.length-a.2) a.1)) (m:=fun a=>l.length+1-a.2) (a:=(i,0)) ⟨⟨by omega,by omega⟩,by omega,⟨rfl⟩⟩ ?_
    rintro⟨at_,n⟩ ⟨⟨hr1,hr2⟩,hn,hcl⟩ IH2;dsimp only at*;have hlt:at_.toNat<l.length:=by omega
    obtain⟨s,hs⟩:=get_some hlt;have hps:=AA.mk (UE hs)
    (repeat' (first|simp only[go_sem, *]|(refine sx ?_ ?_<;>intro hc)|refine sy (by omega) fun x hx hm=>?_|simp(disch:=first|assumption|omega) only[AG]))
    .refine IH.out () ⟨?_⟩;rw[hr.out,hcl.out,show at_=0 by assumption,Jt,F0]
    .refine IH2.out (s.pp,n+1) (by dsimp only;omega) ⟨⟨by assumption,by assumption⟩,by dsimp only;omega,⟨?_⟩⟩;dsimp only;rw[hcl.out];obtain⟨j,hj⟩: ∃j,l.length-n=j+1:=⟨l.length-n-1,by omega⟩;rw[hj,show l.length-(n+1)=j by omega,CH,hps.out];simp only[Cs (show¬at_=0 by assumption),Ip];rw[DO (show KK l s.pp from⟨by assumption,by assumption⟩),F0]
    all_goals
     have hf:IJ l=false:=by
      rw[hr0.out,hcl.out];rcases Nat.eq_zero_or_pos (l.length-n)with hz|hz
      .rw[hz,CH];simp only[Cs (show¬at_=0 by assumption),Ce]
      .obtain⟨j,hj⟩: ∃j,l.length-n=j+1:=⟨l.length-n-1,by omega⟩;rw[hj,CH,hps.out];simp only[Cs (show¬at_=0 by assumption),Ip];rw[Cs (show¬KK l s.pp from fun h=>by have:=h.1;have:=h.2;omega),Ce,Ce]
     rw[hf];rfl
   .rintro i _ hi him hr;refine aw ?_;rw[hr.out];rfl
  .have:IJ l=false:=by
    simp only[IJ,hp0,Cs (show¬s0.pp= -1 by assumption),Ce,Gs]
   rw[this];rfl
 .have:IJ l=false:=by simp[IJ];omega
  rw[this];refine aw ?_;rfl
theorem jX(p:AK)(g:Ay)(d:Bz)(n:Int)(h0:0≤g.eq)(hd:p.defs[g.eq.toNat]? =some d)(c1:d.ac.length≤30)(c2:d.am.length≤30)(he:d.own≤g.env.length)(hl:g.env.length≤10000)(hn:0≤n)(hn2:n≤d.am.length):BJ (KL Tryz.prog cfg) 118 [.agg [.d (.be (p.free.map A0)),.d (.be (p.nodes.map Al)),.d (.be (p.defs.map A8)),.d (.int .i64 (p.main))],.agg [.d (.int .i64 (g.eq)),.d (.int .i64 (g.at_)),.d (.be (g.env.map AI))],.d (.int .i64 (n))] []=.ok (.ret (.d (.int .i64 (g.place d n))),[]):=by
 unfold Bz.own at he
 (refine Ao rfl Tryz.func118 rfl rfl rfl ?_;show Wp _ _ _ _ (Tryz.f118.body.get rfl) _ _;simp only[Tryz.f118,AP])
 by_cases hn0:n=0
 ·(repeat' (first|simp only[go_sem, *,Ay.place]|(refine sx ?_ ?_<;>intro hc)|refine sy (by omega) fun x hx hm=>?_|simp(disch:=first|assumption|omega) only[AG]))
 .have hlt:g.env.length-d.am.length-0+(n-1).toNat<g.env.length:=by omega
  obtain⟨v,hv⟩:=get_some hlt;have hpl:AA (g.place d n=v.n):=⟨by
   rw[Ay.place,D3 hn0,Ay.own];simp only[AM,D8];rw[hv];rfl⟩
  have e1:((g.env.length:Int)-(d.am.length:Int)+n-1).toNat=g.env.length-d.am.length-0+(n-1).toNat:=by omega
  rw[←e1]at hv;replace e1:=AA.mk e1;have e2:0≤(g.env.length:Int)-(d.am.length:Int)+n-1:=by omega
  refine aw ?_;rw[hpl.out]
def GV(p:AK)(s:CW):Int:=match looks p with|some st=>if EG p st.bv s=true then 0 else 2|none=>2
variable{x1 x2 x3 x4 x5 x7 x8 x9 x10 x11 x12:AV}{d:Bz}
theorem vB{x0:AV}{ds:List Bz}{g:Ay}(hm:h.get m=some (.box [x0,x1,x2,x3,x4,x5,.d (.be (ds.map A8)),x7,x8,x9,x10,x11,x12]))(um:Id.under π m=false)(h0:0≤g.eq)(hd:ds[g.eq.toNat]? =some d)(c1:d.ac.length≤30)(c2:d.am.length≤30)(he:d.own≤g.env.length)(hl:g.env.length≤10000)(c:Bool)(n:Int)(hn:0≤n)(hn2:n<if c then(d.ac.length:Int)else d.am.length):
 ∃o h',KL Tryz.prog cfg (.fn 95) [.ptr m 0,.agg [.d (.int .i64 (g.eq)),.d (.int .i64 (g.at_)),.d (.be (g.env.map AI))],.d (.bool (c)),.d (.int .i64 (n))] h π true (some π)=.ok (o,h')∧o=.ret (.d (.int .i64 (g.own d c n))):=by
 have hdl:=AL hd;have e1:=AE um;have e2:=AZ um;unfold Bz.own at he;cases c with
 |true=>
  simp only[F3]at hn2;have hlt:g.env.length-d.am.length-d.ac.length+n.toNat<g.env.length:=by omega
  obtain⟨v,hv⟩:=get_some hlt;have hpl:AA (g.own d true n=v.n):=⟨by
   rw[Ay.own];simp only[F3];rw[hv];rfl⟩
  have q1:((g.env.length:Int)-(d.am.length:Int)-(d.ac.length:Int)+n).toNat=g.env.length-d.am.length-d.ac.length+n.toNat:=by omega
  rw[←q1]at hv;replace q1:=AA.mk q1;have q2:0≤(g.env.length:Int)-(d.am.length:Int)-(d.ac.length:Int)+n:=by omega
  (refine Aa rfl Tryz.func95 rfl rfl rfl ?_;show Wp _ _ _ _ (Tryz.f95.body.get rfl) _ _;simp only[Tryz.f95,AP])
  refine aw ?_;rw[hpl.out]
 |false=>
  simp only[AM,D8]at hn2;have hlt:g.env.length-d.am.length-0+n.toNat<g.env.length:=by omega
  obtain⟨v,hv⟩:=get_some hlt;have hpl:AA (g.own d false n=v.n):=⟨by
   rw[Ay.own];simp only[AM,D8];rw[hv];rfl⟩
  have q1:((g.env.length:Int)-(d.am.length:Int)+n).toNat=g.env.length-d.am.length-0+n.toNat:=by omega
  rw[←q1]at hv;replace q1:=AA.mk q1;have q2:0≤(g.env.length:Int)-(d.am.length:Int)+n:=by omega
  (refine Aa rfl Tryz.func95 rfl rfl rfl ?_;show Wp _ _ _ _ (Tryz.f95.body.get rfl) _ _;simp only[Tryz.f95,AP])
  refine aw ?_;rw[hpl.out]
theorem Ss{h:AB}{π:List Nat}{m:Abs.Id}{x0 x1 x2 x3 x4 x5 x7 x8 x9 x10 x11 x12:AV}{ds:List Bz}{g:Ay}{d:Bz}(hm:h.get m=some (.box [x0,x1,x2,x3,x4,x5,.d (.be (ds.map A8)),x7,x8,x9,x10,x11,x12]))(um:Id.under π m=false)(h0:0≤g.eq)(hd:ds[g.eq.toNat]? =some d)(c1:d.ac.length≤30)(c2:d.am.length≤30)(he:d.own≤g.env.length)(hl:g.env.length≤10000)(n:Int)(hn:0≤n)(hn2:n≤d.am.length):
 ∃o h',KL Tryz.prog cfg (.fn 94) [.ptr m 0,.agg [.d (.int .i64 (g.eq)),.d (.int .i64 (g.at_)),.d (.be (g.env.map AI))],.d (.int .i64 (n))] h π true (some π)=.ok (o,h')∧o=.ret (.d (.int .i64 (g.place d n))):=by
 have e1:=AE um;have e2:=AZ um;have e3:=AH um;by_cases hn0:n=0
 ·(refine Aa rfl Tryz.func94 rfl rfl rfl ?_;show Wp _ _ _ _ (Tryz.f94.body.get rfl) _ _;simp only[Tryz.f94,AP])
  (repeat' (first|simp only[go_sem, *,Ay.place]|(refine sx ?_ ?_<;>intro hc)|refine sy (by omega) fun x hx hm=>?_|simp(disch:=first|assumption|omega) only[AG]))
 .have w:IntKind.i64.wrap (n-1)=n-1:=wrap_id (by omega) (by omega);have hp:g.place d n=g.own d false (n-1):=by rw[Ay.place,D3 hn0]
  rw[hp]
  (refine Aa rfl Tryz.func94 rfl rfl rfl ?_;show Wp _ _ _ _ (Tryz.f94.body.get rfl) _ _;simp only[Tryz.f94,AP])
  refine aw ?_;refine Fu (vB (d:=d) (Eq.trans (b:=h.get m) ?_ hm) (e3 _) h0 hd c1 c2 he hl false (n-1) (by omega) (by simp only[AM,D8];omega)) (fun o1 g1 p1=>?_)
  .simp only[go_sem,e1,AM]
  subst p1;exact au
variable{x6:AV}{sp:List (List AU)}
theorem YF(hm:h.get m=some (.box [.d (.be sp),x1,x2,x3,x4,x5,x6,x7,x8,x9,x10,x11,x12]))(hl:sp.length≤1000000)(n:Int):
 ∃o h',KL Tryz.prog cfg (.fn 146) [.ptr m 0,.d (.int .i64 (n))] h π true (some π)=.ok (o,h')∧o=(G6 (CQ 2) (decide (0≤n)&&decide (n<sp.length))).1:=by
 (refine Aa rfl Tryz.func146 rfl rfl rfl ?_;show Wp _ _ _ _ (Tryz.f146.body.get rfl) _ _;simp only[Tryz.f146,AP])
 (repeat' (first|simp only[go_sem, *]|(refine sx ?_ ?_<;>intro hc)|refine sy (by omega) fun x hx hm=>?_|simp(disch:=first|assumption|omega) only[AG]))
 all_goals simp[G6, *]
variable{ch:List (List AU)}
theorem mg{p:AK}(hm:h.get m=some (.box [.d (.be sp),x1,.d (.be ch),x3,.d (.be (p.free.map A0)),x5,x6,x7,x8,x9,x10,x11,x12]))(um:Id.under π m=false)(h1:sp.length≤1000000)(h2:ch.length≤1000000)(h3:p.free.length≤1000000)(v:CZ):
 ∃o h',KL Tryz.prog cfg (.fn 180) [.ptr m 0,.agg [.d (.int .i64 (v.kind)),.d (.int .i64 (v.n))]] h π true (some π)=.ok (o,h')∧o=(G6 (CQ 2) (v.inB p ch.length sp.length)).1:=by
 have e1:=AE um;have e2:=AZ um;have w1:IntKind.i64.wrap ((p.free.length:Int)-1)=(p.free.length:Int)-1:=wrap_id (by omega) (by omega);have w2:IntKind.i64.wrap ((ch.length:Int)-1)=(ch.length:Int)-1:=wrap_id (by omega) (by omega);have w3:IntKind.i64.wrap ((sp.length:Int)-1)=(sp.length:Int)-1:=wrap_id (by omega) (by omega)
 (refine Aa rfl Tryz.func180 rfl rfl rfl ?_;show Wp _ _ _ _ (Tryz.f180.body.get rfl) _ _;simp only[Tryz.f180,AP])
 (repeat' (first|simp only[go_sem, *]|(refine sx ?_ ?_<;>intro hc)|refine sy (by omega) fun x hx hm=>?_|simp(disch:=first|assumption|omega) only[AG]))
 all_goals clear hm e1 e2 w1 w2 w3
 all_goals first
 |(have hz:v.inB p ch.length sp.length=true:=by(unfold CZ.inB;grind)
   rw[hz];rfl)
 |(have hz:v.inB p ch.length sp.length=false:=by(unfold CZ.inB;grind)
   rw[hz];rfl)
theorem TZ{p:AK}(hm:h.get m=some (.box [.d (.be sp),x1,.d (.be ch),x3,.d (.be (p.free.map A0)),x5,x6,x7,x8,x9,x10,x11,x12]))(um:Id.under π m=false)(h1:sp.length≤1000000)(h2:ch.length≤1000000)(h3:p.free.length≤1000000)(l:List CZ)(n:Int)(hn:n≤1000000):
 ∃o h',KL Tryz.prog cfg (.fn 147) [.ptr m 0,.d (.be (l.map AI)),.d (.int .i64 (n))] h π true (some π)=.ok (o,h')∧o=(G6 (CQ 2) (decide ((l.length:Int)=n)&&l.all (CZ.inB p ch.length sp.length))).1:=by
 have e1:=AE um;have e2:=AZ um;have e3:=AH um;by_cases hl:(l.length:Int)=n
 .have hl2:l.length≤1000000:=by omega
  rw[DO hl,F0]
  (refine Aa rfl Tryz.func147 rfl rfl rfl ?_;show Wp _ _ _ _ (Tryz.f147.body.get rfl) _ _;simp only[Tryz.f147,AP])
  refine aw ?_;refine AY l _ (S:=fun m' i (a:AB×Nat)=>⟨[(0,.ptr m 0),(13,.d (.be (l.map AI))),(14,.d (.int .i64 (m'))),(15,.d (.int .i64 (i)))],a.1,a.2+7,[]⟩)
   (Inv:=fun i rest a=>a.1.get m=h.get m∧AA (l.all (CZ.inB p ch.length sp.length)=rest.all (CZ.inB p ch.length sp.length))) (b0:=(h,_)) ?_ ⟨rfl,⟨rfl⟩⟩ ?_ ?_
  .omega
  .rintro i y ⟨g,c⟩ hy hi him ⟨hg,hr⟩ IH;dsimp only at*;refine aw ?_;refine Fu (mg (p:=p) (sp:=sp) (ch:=ch) (Eq.trans (b:=h.get m) ?_ hm) (e3 _) h1 h2 h3 y) (fun o1 g1 p1=>?_)
   .simp only[go_sem,e1,hg,AM]
   cases hv:y.inB p ch.length sp.length with
   |true=>
    rw[hv]at p1;obtain rfl:o1=.ret (.f8 []):=p1;refine aw ?_;refine IH.out (_,_) ⟨?_,⟨?_⟩⟩
    .simp only[go_sem,e1,hg,AM]
    .rw[hr.out,D0,hv,F0]
   |false=>
    rw[hv]at p1;obtain rfl:o1=.em (CQ 2):=p1;refine aw ?_;rw[hr.out,D0,hv,Ce];rfl
  .rintro i ⟨g,c⟩ hi him ⟨hg,hr⟩;dsimp only at*;refine aw ?_;rw[hr.out];rfl
 .rw[Cs hl,Ce]
  (refine Aa rfl Tryz.func147 rfl rfl rfl ?_;show Wp _ _ _ _ (Tryz.f147.body.get rfl) _ _;simp only[Tryz.f147,AP])
  refine aw ?_;rfl
def KF(z:AV)(π:List Nat)(g:AB)(b:Nat)(v:AV)(L:List CZ):Prop:=(L=[]∧v=z)∨ ∃id,v=.d8 id 0 L.length∧g.get id=some (.d6 2 (L.map AI))∧ ∃n,n<b∧Id.under (n::π) id=true∧ ∃l,id=1::l
abbrev dC:=KF .ci
def CF(c n:Nat):List CZ:=(List.range' c n).map fun(i:Nat)=>⟨3,(i:Int)⟩
def Ei(c n:Nat):List CZ:=(List.range' c n).map fun(i:Nat)=>⟨4,(i:Int)⟩
theorem Oe(c n:Nat):CF c (n+1)=CF c n++[⟨3,((c+n:Nat):Int)⟩]:=by simp[CF,List.range'_1_concat]
theorem PB(c n:Nat):Ei c (n+1)=Ei c n++[⟨4,((c+n:Nat):Int)⟩]:=by simp[Ei,List.range'_1_concat]
variable{z:AV}
theorem Ic{b b':Nat}{v:AV}{L:List CZ}(h:KF z π g b v L)(hb:b≤b'):KF z π g b' v L:=by
 rcases h with h|⟨id,h1,h2,n,h3,h4⟩
 .exact .inl h
 .exact .inr ⟨id,h1,h2,n,by omega,h4⟩
theorem Da{π:List Nat}{b n:Nat}{id:Abs.Id}(hn:n<b)(hu:Id.under (n::π) id=true)(hl: ∃l,id=1::l):(∀a k,b≤k→Id.is (a::k::π) id=false)∧(∀a k,b≤k→Id.is id (a::k::π)=false)∧(∀l,Id.is (0::l) id=false)∧(∀l,Id.is id (0::l)=false):=by
 have key: ∀a k,b≤k→a::k::π≠id:=fun a k hk e=>by
  subst e;have:=B6 hu (n':=k) (under_iff.2 ⟨[a],rfl⟩);omega
 obtain⟨l0,rfl⟩:=hl;exact⟨fun a k hk=>AF (key a k hk),fun a k hk=>AF fun e=>key a k hk e.symm,fun l=>AF (by simp),fun l=>AF (by simp)⟩
theorem Ib{b n:Nat}{L:List CZ}(hn:n<b)(hk:k=L.length)(hg:g.get (1::n::π)=some (.d6 2 (L.map AI))):KF z π g b (.d8 (1::n::π) 0 k) L:=.inr ⟨_,by rw[hk],hg,n,hn,under_iff.2 ⟨[1],rfl⟩,_,rfl⟩
theorem GJ{z:AV}{π:List Nat}{g:AB}{b:Nat}{v:AV}{L:List CZ}(h:KF z π g b v L)(b':Nat)(hz:AD z=[]:=by rfl): ∀i∈AD v,HP b b' π i=false:=by
 rcases h with⟨_,rfl⟩|⟨id,rfl,_,n,h3,h4,_⟩
 .intro i hi;rw[hz]at hi;cases hi
 .intro i hi;simp only[AD,Ac]at hi;subst hi;exact pF h3 h4
theorem Wu{z:AV}{π:List Nat}{g:AB}{b:Nat}{v:AV}{L:List CZ}(h:KF z π g b v L){V:MV}{m:Abs.Id}(hu:B4 π V m)(hz:AD z=[]:=by rfl): ∀i∈AD v,i∉V.ids m:=by
 rcases h with⟨_,rfl⟩|⟨id,rfl,_,n,h3,h4,_⟩
 .intro i hi;rw[hz]at hi;cases hi
 .intro i hi hv;simp only[AD,Ac]at hi;subst hi;have:=hu _ hv;rw[BB h4]at this;cases this
def KO(z:AV)(π:List Nat)(g:AB)(b:Nat)(v:AV)(L:List CZ):Prop:=(L=[]∧v=z)∨ ∃id,v=.d8 id 0 L.length∧g.get id=some (.it 2 (L.map AI))∧ ∃n,n<b∧Id.under (n::π) id=true∧ ∃l,id=1::l
abbrev wU:=KO .ci
theorem JO{b:Nat}{v:AV}{L:List CZ}(h:KO z π g b v L)(hk: ∀i∈AD v,g'.get i=g.get i):KO z π g' b v L:=by
 rcases h with h|⟨id,rfl,h2,h3⟩
 .exact .inl h
 .exact .inr ⟨id,rfl,by rw[hk id (by simp[AD])];exact h2,h3⟩
theorem QG{z:AV}{π:List Nat}{g:AB}{b:Nat}{v:AV}{L:List CZ}(h:KO z π g b v L)(a k:Nat)(hk:b≤k)(hz:AD z=[]:=by rfl): ∀i∈AD v,Id.is (a::k::π) i=false:=by
 rcases h with⟨_,rfl⟩|⟨id,rfl,_,n,h3,h4,_⟩
 .intro i hi;rw[hz]at hi;cases hi
 .intro i hi;simp only[AD,Ac]at hi;subst hi;refine AF fun e=>?_;subst e;have:=B6 h4 (n':=k) (under_iff.2 ⟨[a],rfl⟩);omega
theorem FM{z:AV}{π:List Nat}{g:AB}{b n:Nat}{v:AV}{L:List CZ}(h:KO z π g b v L)(hn:b≤n)(hz:AD z=[]:=by rfl): ∀i∈AD v,Id.under (n::π) i=false:=by
 rcases h with⟨_,rfl⟩|⟨id,rfl,_,k,h3,h4,_⟩
 .intro i hi;rw[hz]at hi;cases hi
 .intro i hi;simp only[AD,Ac]at hi;subst hi;cases hx:Id.under (n::π) i with
  |false=>rfl
  |true=>
   have:=B6 h4 hx;omega
theorem Su{p:AK}{sz:List Int}{st:CC}{j:FW}{x:CT}{G:Ay}(hF:Bq p sz)(hd:Dr p sz st.d7 j x d)(hG:G=AX st.d7 d x.n j)(H:AB)(ρ:List Nat)(Vx:MV)(w:Int)(hb:H.get m=some (.box (BS p sz Vx w)))(hu2:Id.under ρ m=false)(n:Int)(hn1:0≤n)(hn2:n≤d.am.length):
 ∃o h',KL Tryz.prog cfg (.fn 94) [.ptr m 0,.agg [.d (.int .i64 (x.n)),.d (.int .i64 (j.at_)),.d (.be (G.env.map AI))],.d (.int .i64 (n))] H ρ true (some ρ)=.ok (o,h')∧o=.ret (.d (.int .i64 (G.place d n))):=by
 have hGo:d.own≤G.env.length∧G.env.length≤10000:=by
  rw[hG,hd.env];have:=hd.ok.ac;have:=hd.ok.am;obtain⟨_,_,_,_,_,_,hjl⟩:=Kk hF hd.job;unfold Bz.own;omega
 have hGd:G.eq=x.n:=by rw[hG];rfl
 have hGa:G.at_=j.at_:=by rw[hG];rfl
 have:=Ss (ds:=p.defs) (g:=G) (d:=d) hb hu2 (by rw[hGd];exact hd.n0) (by rw[hGd];exact hd.eq) hd.ok.ac hd.ok.am hGo.1 hGo.2 n hn1 hn2
 rwa [hGd,hGa]at this
theorem eC{p:AK}{sz:List Int}{k:Nat}(hF:Bq p sz)(IH0:Hl p sz k){h:AB}{π:List Nat}{m:Abs.Id}{V:MV}{st:CC}(hu:B4 π V m)(hI:Iv p sz k st){j:FW}{x:CT}{d:Bz}(hd:Dr p sz st.d7 j x d){G:Ay}(hG:G=AX st.d7 d x.n j)
 {e:CB} {g:AB} {b:Nat} {ev:AV} {V2:MV} (en0:e.get 0=.ptr m 0) (en3:e.get 3=.ptr (0::0::π) 0) (n4:e.get 4=.ptr (0::10::π) 0) (n5:e.get 5=.ptr (0::21::π) 0) (n6:e.get 6=.ptr (0::31::π) 0) (hb:60≤b) (hR:IL p sz π m V h b V2 {st with d7:=BN st.d7 d G} g) (hev: ∀i∈AD ev,i∉V2.ids m)
 (k2:g.get (0::0::π)=some (.box [.d (.int .i64 (j.node)),.d (.int .i64 (j.at_)),.d (.be (j.env.map AI))])) (k3:g.get (0::10::π)=some (.box [.d (.int .i64 (x.op)),.d (.int .i64 (x.n)),.d (.be (x.args.map Av)),.d (.be (x.kids.map AO))])) (k4:g.get (0::21::π)=some (.box [.d (.be (d.ac.map Ab)),.d (.be (d.am.map AR)),.d (.be (d.rules.map Af))])) (k5:g.get (0::31::π)=some (.box [.d (.int .i64 (x.n)),.d (.int .i64 (j.at_)),ev])) (hfe:wU π g b ev G.env):
 Wp cfg (KL Tryz.prog cfg) ⟨112,π,true,none,false,204⟩ 0 (YK 9 (Tryz.f112.body.get rfl)) ⟨e,g,b,[]⟩ (Ka cfg none [] π true (GF p sz π m V h (Fy (Dg p k) (Ds p x j st)))):=by
 have um:=hu m (V.m_mem m);have e1:=AE um;have e2:=AZ um;have hx:=hd.node;have hdl:=hd.eq;have d1:=hd.ok.ac;have d2:=hd.ok.am;obtain⟨n3,hn3⟩: ∃n,n=st.d7.ac.length:=⟨_,rfl⟩;obtain⟨n0,hn0⟩: ∃n,n=st.d7.am.length:=⟨_,rfl⟩;obtain⟨ng,hng⟩: ∃n,n=st.d7.ce.length:=⟨_,rfl⟩;have c1:(BN st.d7 d G).ac.length=n3+d.ac.length:=by simp[BN,Dy,hn3]
 have c2:(BN st.d7 d G).am.length=n0+d.am.length:=by simp[BN,DP,hn0]
 have c3:(BN st.d7 d G).ce.length=ng+1:=by simp[BN,hng]
 have hdo2:Ds p x j st=if n3+d.ac.length≤60∧n0+d.am.length≤24∧ng+1≤40 then some ({st with d7:=BN st.d7 d G},BP d G 0 d.am++A6 x 0 j.at_ G.env)else none:=by
  simp only[Ds,hdl,←hG,c1,c2,c3]
 have hmS:=hI.ol.small;simp only[CW.small,AS,As]at hmS;obtain⟨s1,s2,s3,s4⟩:=hmS;have gm:=hR.rep.box;simp only[BS]at gm;have hl3:=La hR.rep.arr;rw[hR.rep.ac.len,c1]at hl3;have hl0:=Ga (hR.rep.sl 0 (by omega));simp only[Ad,Bi,c2]at hl0;have hl1:=Ga (hR.rep.sl 1 (by omega));simp only[Ad,Bi,c3]at hl1;have hpan:AA (¬(n3+d.ac.length≤60∧n0+d.am.length≤24∧ng+1≤40)→GF p sz π m V h (Fy (Dg p k) (Ds p x j st)) (.em (CQ 3)) g):=⟨fun hn=>by
  rw[hdo2,D3 hn];exact⟨rfl,hR.frame⟩⟩
 clear c1 c2 c3;have hplace:=AA.mk (Su (m:=m) hF hd hG);replace hdo2:=AA.mk hdo2;replace hG:=AA.mk hG;replace hu:=AA.mk hu;replace hd:=AA.mk hd;replace hI:=AA.mk hI;replace hR:=AA.mk hR;replace hev:=AA.mk hev;replace hn3:=AA.mk hn3;replace hn0:=AA.mk hn0;replace hng:=AA.mk hng;simp only[Tryz.f112,AP,YK]
 (repeat' (first|simp only[go_sem, *,↓hl3,↓hl0,↓hl1,AM]|(refine sx ?_ ?_<;>intro hc)|refine sy (by omega) fun x hx hm=>?_|simp(disch:=first|assumption|omega) only[AG]))
 .have hszs:n3+d.ac.length≤60∧n0+d.am.length≤24∧ng+1≤40:=by omega
  have hjp:=P8 (st':={st with d7:=BN st.d7 d G}) hF hI.out.ol hd.out.job hx hd.out.op (by rw[hdo2.out,D7 hszs])
  have hdoD:AA (Fy (Dg p k) (Ds p x j st)=Bj (Dg p k) (BP d G 0 d.am++A6 x 0 j.at_ G.env) {st with d7:=BN st.d7 d G}):=⟨by rw[hdo2.out,D7 hszs];rfl⟩
  replace hjp:=AA.mk hjp;clear en0 en3 n4 n5 n6 k4 hl3 hl0 hl1 gm hpan;refine AY d.am _ (S:=fun m' i (a:AB×Nat)=>⟨[(0,.ptr m 0),(3,.ptr (0::0::π) 0),(4,.ptr (0::10::π) 0),(6,.ptr (0::31::π) 0),(175,.d (.be (d.am.map AR))),(176,.d (.int .i64 (m'))),(177,.d (.int .i64 (i)))],a.1,a.2+25,[]⟩)
   (Inv:=fun i rest a=>AA (∃V' st',IL p sz π m V h (a.2+25) V' st' a.1∧(∀i∈AD ev,i∉V'.ids m)∧Iv p sz k st'∧(∀j'∈BP d G i rest++A6 x 0 j.at_ G.env,Br p sz st'.d7 j')∧Fy (Dg p k) (Ds p x j st)=Bj (Dg p k) (BP d G i rest++A6 x 0 j.at_ G.env) st')∧a.1.get (0::0::π)=some (.box [.d (.int .i64 (j.node)),.d (.int .i64 (j.at_)),.d (.be (j.env.map AI))])∧a.1.get (0::10::π)=some (.box [.d (.int .i64 (x.op)),.d (.int .i64 (x.n)),.d (.be (x.args.map Av)),.d (.be (x.kids.map AO))])∧a.1.get (0::31::π)=some (.box [.d (.int .i64 (x.n)),.d (.int .i64 (j.at_)),ev])∧b≤a.2∧AA (wU π a.1 b ev G.env)) (b0:=(_,b)) rfl ⟨⟨V2,_,by simpa using hR.out.up (by omega),hev.out,⟨hjp.out.ol,hI.out.w0,hI.out.w1,hI.out.w2,hI.out.ev⟩,hjp.out.jobs,hdoD.out⟩,k2,k3,k5,El _,⟨hfe⟩⟩ ?_ ?_
  .clear hR hev k2 k3 k5 hfe g V2;rintro i y ⟨g,c⟩ hy hi him ⟨hR,k2,k3,k5,hbc,hfe⟩ IH;dsimp only at*;obtain⟨V',st',hR,hev,hI',hj',he'⟩:=hR.out;have gm:=hR.rep.box;have hm0:=hR.rep.box;simp only[BS]at gm;have c2: ¬c=2:=by omega
   have w1:IntKind.i64.wrap ((i:Int)+1)=(i:Int)+1:=wrap_id (by omega) (by omega);have hpl:=fun(H:AB) (n:Nat) (hH:H.get m=g.get m)=>hplace.out H (n::π) V' st'.work (hH.trans hm0) (AH um n) ((i:Int)+1) (by omega) (by omega);have hca:AA (∀H:AB,(∀id,(∀a n,c+25≤n→Id.is (a::n::π) id=false)→H.get id=g.get id)→ ∃o g1,KL Tryz.prog cfg (.fn 66) [.ptr m 0,.d (.int .i64 (y.node)),.d (.int .i64 (G.place d ((i:Int)+1))),.d (.be (G.env.map AI))] H ((c+42)::π) true none=.ok (o,g1)∧Mh p sz π m V h (c+25) (c+42) V' g (Dg p k ⟨y.node,G.place d ((i:Int)+1),G.env⟩ st') o (gc ((c+42)::π) g1)):=⟨fun H hH=>SE IH0 hu.out hR hI' (j:=⟨y.node,G.place d ((i:Int)+1),G.env⟩) (hj' _ (by rw[BP];simp)) H (c+42) (by omega) hH⟩;have hevk:AA (∀i∈AD ev,(∀a k,c+25≤k→Id.is (a::k::π) i=false)∧Id.under ((c+42)::π) i=false):=⟨fun i hi=>⟨fun a k hk=>QG hfe.out a k (by omega) rfl i hi,FM hfe.out (by omega) rfl i hi⟩⟩;replace hm0:=AA.mk hm0;replace hpl:=AA.mk hpl;replace hR:=AA.mk hR;replace hev:=AA.mk hev;replace hI':=AA.mk hI';replace hj':=AA.mk hj';replace he':=AA.mk he';have hjy:AA (Br p sz st'.d7 ⟨y.node,G.place d ((i:Int)+1),G.env⟩):=⟨hj'.out _ (by rw[BP];simp)⟩;have hgo2:AA (Bj (Dg p k) (BP d G i (y::d.am.drop (i+1))++A6 x 0 j.at_ G.env) st'=(Dg p k ⟨y.node,G.place d ((i:Int)+1),G.env⟩ st').bind (Bj (Dg p k) (BP d G (i+1) (d.am.drop (i+1))++A6 x 0 j.at_ G.env))):=⟨rfl⟩;rcases hfe.out with⟨hz8,he8⟩|⟨id8,he8,hg8,n8,hn8,hun8,hl8⟩
   .rw[he8]at k5;have hpl2:=hpl.out;have hca2:=hca.out;rw[show G.env.map AI=[] by rw[hz8];rfl]at hpl2 hca2;replace hpl2:=AA.mk hpl2;replace hca2:=AA.mk hca2
    (repeat' (first|simp only[go_sem, *,AM]|(refine sx ?_ ?_<;>intro hc)|refine sy (by omega) fun x hx hm=>?_|simp(disch:=first|assumption|omega) only[AG]))
    refine Eg (hpl2.out _ _ ?_) (fun o1 g1 p1=>?_)
    .simp only[go_sem,e1,AM]
    subst p1
    (repeat' (first|simp only[go_sem, *,AM]|(refine sx ?_ ?_<;>intro hc)|refine sy (by omega) fun x hx hm=>?_|simp(disch:=first|assumption|omega) only[AG]))
    refine FU (hca2.out _ fun id2 b2=>?_) (fun o1 g1 p1=>?_)
    .simp only[go_sem,b2,AM]
    cases hdn:Dg p k ⟨y.node,G.place d ((i:Int)+1),G.env⟩ st' with
    |none=>
     rw[hdn]at p1 hgo2;obtain⟨w8,w9⟩:=p1.em rfl;replace p1:=AA.mk p1;subst w8;replace w9:=AA.mk w9
     (repeat' (first|simp only[go_sem, *,AM]|(refine sx ?_ ?_<;>intro hc)|refine sy (by omega) fun x hx hm=>?_|simp(disch:=first|assumption|omega) only[AG]))
     rw[he'.out,hgo2.out];exact w9.out
    |some st2=>
     rw[hdn]at p1 hgo2;have hdp:=Gl hF k _ _ _ hI'.out.ol hjy.out hdn;obtain⟨w8,V3,w9,w10⟩:=p1.ret st2 rfl;subst w8;have b0:=(p1.box 0 (by omega)).trans k2;have b10:=(p1.box 10 (by omega)).trans k3;have b31:=(p1.box 31 (by omega)).trans k5;have hk8:=fun i hi=>p1.ne i (hev.out i hi) (hevk.out i hi).1 (hevk.out i hi).2;replace p1:=AA.mk p1;replace hdn:=AA.mk hdn;replace w9:=AA.mk w9;replace w10:=AA.mk w10;replace hk8:=AA.mk hk8
     (repeat' (first|simp only[go_sem, *,AM]|(refine sx ?_ ?_<;>intro hc)|refine sy (by omega) fun x hx hm=>?_|simp(disch:=first|assumption|omega) only[AG]))
     refine IH.out (_,c+20) ⟨⟨V3,st2,w9.out.up (by omega),fun i hi=>w10.out i (hev.out i hi) (hevk.out i hi).2,hI'.out.post hdp,fun j' hj2=>J2 (hj'.out j' ?_) hdp.ext,?_⟩,b0,b10,?_,by omega,⟨JO hfe.out hk8.out⟩⟩
     .rw[BP,Es];exact EX _ hj2
     .rw[he'.out,hgo2.out];rfl
     .exact b31.trans (by rw[he8])
   .rw[he8]at k5;have q8:=hevk.out id8 (by rw[he8];simp[AD]);have q81:=q8.1;replace q8:=AA.mk q8.2;have q82:Id.is m id8=false:=AF fun e=>by rw[←e,gm]at hg8;cases hg8
    have q83: ∀l,Id.is (0::l) id8=false:=fun l=>by obtain⟨l0,rfl⟩:=hl8;exact AF (by simp)
    (repeat' (first|simp only[go_sem, *,AM]|(refine sx ?_ ?_<;>intro hc)|refine sy (by omega) fun x hx hm=>?_|simp(disch:=first|assumption|omega) only[AG]))
    refine Eg (hpl.out _ _ ?_) (fun o1 g1 p1=>?_)
    .simp only[go_sem,e1,AM]
    subst p1
    (repeat' (first|simp only[go_sem, *,AM]|(refine sx ?_ ?_<;>intro hc)|refine sy (by omega) fun x hx hm=>?_|simp(disch:=first|assumption|omega) only[AG]))
    refine FU (hca.out _ fun id2 b2=>?_) (fun o1 g1 p1=>?_)
    .simp only[go_sem,b2,AM]
    cases hdn:Dg p k ⟨y.node,G.place d ((i:Int)+1),G.env⟩ st' with
    |none=>
     rw[hdn]at p1 hgo2;obtain⟨w8,w9⟩:=p1.em rfl;replace p1:=AA.mk p1;subst w8;replace w9:=AA.mk w9
     (repeat' (first|simp only[go_sem, *,AM]|(refine sx ?_ ?_<;>intro hc)|refine sy (by omega) fun x hx hm=>?_|simp(disch:=first|assumption|omega) only[AG]))
     rw[he'.out,hgo2.out];exact w9.out
    |some st2=>
     rw[hdn]at p1 hgo2;have hdp:=Gl hF k _ _ _ hI'.out.ol hjy.out hdn;obtain⟨w8,V3,w9,w10⟩:=p1.ret st2 rfl;subst w8;have b0:=(p1.box 0 (by omega)).trans k2;have b10:=(p1.box 10 (by omega)).trans k3;have b31:=(p1.box 31 (by omega)).trans k5;have hk8:=fun i hi=>p1.ne i (hev.out i hi) (hevk.out i hi).1 (hevk.out i hi).2;replace p1:=AA.mk p1;replace hdn:=AA.mk hdn;replace w9:=AA.mk w9;replace w10:=AA.mk w10;replace hk8:=AA.mk hk8
     (repeat' (first|simp only[go_sem, *,AM]|(refine sx ?_ ?_<;>intro hc)|refine sy (by omega) fun x hx hm=>?_|simp(disch:=first|assumption|omega) only[AG]))
     refine IH.out (_,c+20) ⟨⟨V3,st2,w9.out.up (by omega),fun i hi=>w10.out i (hev.out i hi) (hevk.out i hi).2,hI'.out.post hdp,fun j' hj2=>J2 (hj'.out j' ?_) hdp.ext,?_⟩,b0,b10,?_,by omega,⟨JO hfe.out hk8.out⟩⟩
     .rw[BP,Es];exact EX _ hj2
     .rw[he'.out,hgo2.out];rfl
     .exact b31.trans (by rw[he8])
  .clear hR hev k2 k3 k5 hfe g V2;rintro i ⟨g,c⟩ hi him ⟨hR,k2,k3,k5,hbc,hfe⟩;dsimp only at*;obtain⟨V',st',hR9,hev,hI',hj',he'⟩:=hR.out;clear hR;have gi:=hi.out;subst gi;clear hi;obtain⟨kd,hkd,_⟩:=hd.out.kid;have hkj:BP d G d.am.length []++A6 x 0 j.at_ G.env=[⟨kd,j.at_,G.env⟩]:=by rw[A6,hkd];rfl
   rw[hkj]at hj' he';rw[Kl]at he';have hca:AA (∀H:AB,(∀id,(∀a n,c+25≤n→Id.is (a::n::π) id=false)→H.get id=g.get id)→ ∃o g1,KL Tryz.prog cfg (.fn 66) [.ptr m 0,.d (.int .i64 (kd)),.d (.int .i64 (j.at_)),.d (.be (G.env.map AI))] H ((c+35)::π) true none=.ok (o,g1)∧Mh p sz π m V h (c+25) (c+35) V' g (Dg p k ⟨kd,j.at_,G.env⟩ st') o (gc ((c+35)::π) g1)):=⟨fun H hH=>SE IH0 hu.out hR9 hI' (j:=⟨kd,j.at_,G.env⟩) (hj' _ (by simp)) H (c+35) (by omega) hH⟩;replace hR9:=AA.mk hR9;replace hev:=AA.mk hev;replace hI':=AA.mk hI';replace hj':=AA.mk hj';replace he':=AA.mk he';replace hkj:=AA.mk hkj;rw[hkd]at k3;replace hkd:=AA.mk hkd;rcases hfe.out with⟨hz8,he8⟩|⟨id8,he8,hg8,n8,hn8,hun8,hl8⟩
   .rw[he8]at k5;have hca2:=hca.out;rw[show G.env.map AI=[] by rw[hz8];rfl]at hca2;replace hca2:=AA.mk hca2
    (repeat' (first|simp only[go_sem, *,AM]|(refine sx ?_ ?_<;>intro hc)|refine sy (by omega) fun x hx hm=>?_|simp(disch:=first|assumption|omega) only[AG]))
    refine AW (hca2.out _ fun id2 b2=>?_) (fun o1 g1 p1=>?_)
    .rfl
    cases hdn:Dg p k ⟨kd,j.at_,G.env⟩ st' with
    |none=>
     rw[hdn]at p1 he';obtain⟨w8,w9⟩:=p1.em rfl;replace p1:=AA.mk p1;subst w8;replace w9:=AA.mk w9
     (repeat' (first|simp only[go_sem, *,AM]|(refine sx ?_ ?_<;>intro hc)|refine sy (by omega) fun x hx hm=>?_|simp(disch:=first|assumption|omega) only[AG]))
     rw[he'.out];exact w9.out
    |some st2=>
     rw[hdn]at p1 he';obtain⟨w8,V3,w9,w10⟩:=p1.ret st2 rfl;subst w8;replace p1:=AA.mk p1;replace hdn:=AA.mk hdn;replace w9:=AA.mk w9;replace w10:=AA.mk w10
     (repeat' (first|simp only[go_sem, *,AM]|(refine sx ?_ ?_<;>intro hc)|refine sy (by omega) fun x hx hm=>?_|simp(disch:=first|assumption|omega) only[AG]))
     rw[he'.out];exact w9.out.fin
   .rw[he8]at k5
    (repeat' (first|simp only[go_sem, *,AM]|(refine sx ?_ ?_<;>intro hc)|refine sy (by omega) fun x hx hm=>?_|simp(disch:=first|assumption|omega) only[AG]))
    refine AW (hca.out _ fun id2 b2=>?_) (fun o1 g1 p1=>?_)
    .rfl
    cases hdn:Dg p k ⟨kd,j.at_,G.env⟩ st' with
    |none=>
     rw[hdn]at p1 he';obtain⟨w8,w9⟩:=p1.em rfl;replace p1:=AA.mk p1;subst w8;replace w9:=AA.mk w9
     (repeat' (first|simp only[go_sem, *,AM]|(refine sx ?_ ?_<;>intro hc)|refine sy (by omega) fun x hx hm=>?_|simp(disch:=first|assumption|omega) only[AG]))
     rw[he'.out];exact w9.out
    |some st2=>
     rw[hdn]at p1 he';obtain⟨w8,V3,w9,w10⟩:=p1.ret st2 rfl;subst w8;replace p1:=AA.mk p1;replace hdn:=AA.mk hdn;replace w9:=AA.mk w9;replace w10:=AA.mk w10
     (repeat' (first|simp only[go_sem, *,AM]|(refine sx ?_ ?_<;>intro hc)|refine sy (by omega) fun x hx hm=>?_|simp(disch:=first|assumption|omega) only[AG]))
     rw[he'.out];exact w9.out.fin
 all_goals exact hpan.out (by omega)
end Go.Proofs
