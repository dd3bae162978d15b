/-
  Parts: SolJ2 EngCan SolC2b SolC3 SolC4 SolM4 SolG1 SolG2 SolG3 SolG5 SolG6 SolS5 SolS6 SolS7 SolS9 SolS8 SolP6 SolS10 SolS11 SolL1 SolL2 SolL3 SolL4 SolG7 SolG8 SolG4 SolG9 SolR3 SolR5 SolR7 SolR2 SolR4 SolR6 SolL5 SolR8a.
-/
import Derived.Test.YtbinfhpngacfgaaGreatSt5
import Derived.Test.YtbinfhpngacfgaaGreatSt10
set_option linter.all false
set_option linter.unusedSimpArgs false
set_option linter.unusedVariables false
namespace Go.Proofs
open Go Go.Abs
set_option maxRecDepth 100000
set_option maxHeartbeats 4000000
theorem NK{h:AB}{π:List Nat}{id:Abs.Id}{es x:List (List AW)}{n a:Nat}(hm:h.get id=some (.darr 1 (es++x)))(hu:Id.under π id=false)(hn:n=es.length)(ha:a<n)(hs: ∀e∈es,e.length=1)(hl:n≤1000000):
 ∃o h',KL Tryz.prog cfg (.fn 161) [.osl id 0 n,.d (.int .i64 (a)),.d (.int .i64 ((a:Int)+1))] h π true none=.ok (o,h')∧o=.ret (.osl id 0 (n-1))∧(∃y,h'.get id=some (.darr 1 (es.take a++es.drop (a+1)++y)))∧ ∀i,Id.is id i=false→h'.get i=h.get i:=by
 subst hn;have w1:IntKind.i64.wrap ((a:Int)+1)=(a:Int)+1:=wrap_id (by omega) (by omega);have q1:=AG hu;have c1:=fR (g:=h.get) (n:=es.length) hm (a:=a) (b:=(a:Int)+1) (m:=es.length) (by omega) (by omega) (by omega) (by simp;omega) (by omega);have c2:=R4 (g:=h.get) (n:=es.length) hm (b:=a) (by omega) (by simp;omega) (by simp;omega);have c3:=R5 (g:=h.get) (n:=es.length) hm (a:=(a:Int)+1) (by omega) (by omega) (by simp) (by simp;omega);have t1:((a:Int)).toNat=a:=rfl;have t2:((a:Int)+1).toNat=a+1:=by omega
 rw[t1]at c2;rw[t2]at c3;have c4:=S3 hm rfl ha hs (by decide) hl;replace hs:=AA.mk hs;have hle:a+(1+(es.length-(a+1)))≤es.length+x.length:=by omega
 have hd: ¬(a:Int)=(a:Int)+1:=by omega
 (refine Ak rfl Tryz.func161 rfl rfl rfl ?_;show Wp _ _ _ _ (Tryz.f161.body.get rfl) _ _;simp only[Tryz.f161,Option.get_some])
 have w2:es.length-(es.length-1)=1:=by omega
 have c6:=fun L hL=>Qc (es:=es) (x:=x) (sz:=1) (z:=[.lst []]) (zs:=[.nils]) L ha hL rfl rfl ⟨⟨rfl,rfl⟩,by decide⟩ (id:=id);by_cases hz:a+1=es.length
 .rw[if_pos hz]at c4;have c5:=fun(g:G) (hg:g id=some (.darr 1 (es++x)))=>MC (n:=es.length-1) hg (a:=((es.length-1:Nat):Int)) (b:=es.length) (by omega) (by omega) (by simp;omega) (by simp;omega);simp only[Int.toNat_natCast,w2]at c5;have c6:=c6 (es++x) (by rw[←List.append_assoc,show es.length-1=a by omega,List.drop_of_length_le (show es.length≤a+1 by omega)];simp[←List.append_assoc]);replace hz:=AA.mk hz;refine aw ?_;exact⟨⟨_,rfl⟩,fun i hi=>by simp[hi]⟩
 .rw[if_neg hz]at c4;have c5:=fun(g:G) (hg:g id=some (.darr 1 (es.take a++(es.drop (a+1)++(es.drop (es.length-1)++x)))))=>MC (n:=es.length-1) hg (a:=((es.length-1:Nat):Int)) (b:=es.length) (by omega) (by omega) (by simp;omega) (by simp;omega);simp only[Int.toNat_natCast,w2]at c5;have c6:=c6 _ rfl;refine aw ?_;exact⟨⟨_,rfl⟩,fun i hi=>by simp[hi]⟩
theorem Uz{h:AB}{π:List Nat}{id:Abs.Id}{es x:List (List AW)}{n a:Nat}(hm:h.get id=some (.darr 3 (es++x)))(hu:Id.under π id=false)(hn:n=es.length)(ha:a<n)(hs: ∀e∈es,e.length=3)(hl:n≤1000000):
 ∃o h',KL Tryz.prog cfg (.fn 101) [.osl id 0 n,.d (.int .i64 (a)),.d (.int .i64 ((a:Int)+1))] h π true none=.ok (o,h')∧o=.ret (.osl id 0 (n-1))∧(∃y,h'.get id=some (.darr 3 (es.take a++es.drop (a+1)++y)))∧ ∀i,Id.is id i=false→h'.get i=h.get i:=by
 subst hn;have w1:IntKind.i64.wrap ((a:Int)+1)=(a:Int)+1:=wrap_id (by omega) (by omega);have q1:=AG hu;have c1:=fR (g:=h.get) (n:=es.length) hm (a:=a) (b:=(a:Int)+1) (m:=es.length) (by omega) (by omega) (by omega) (by simp;omega) (by omega);have c2:=R4 (g:=h.get) (n:=es.length) hm (b:=a) (by omega) (by simp;omega) (by simp;omega);have c3:=R5 (g:=h.get) (n:=es.length) hm (a:=(a:Int)+1) (by omega) (by omega) (by simp) (by simp;omega);have t1:((a:Int)).toNat=a:=rfl;have t2:((a:Int)+1).toNat=a+1:=by omega
 rw[t1]at c2;rw[t2]at c3;have c4:=S3 hm rfl ha hs (by decide) hl;replace hs:=AA.mk hs;have hle:a+(1+(es.length-(a+1)))≤es.length+x.length:=by omega
 have hd: ¬(a:Int)=(a:Int)+1:=by omega
 (refine Ak rfl Tryz.func101 rfl rfl rfl ?_;show Wp _ _ _ _ (Tryz.f101.body.get rfl) _ _;simp only[Tryz.f101,Option.get_some])
 have w2:es.length-(es.length-1)=1:=by omega
 have c6:=fun L hL=>Qc (es:=es) (x:=x) (sz:=3) (z:=[.int .i64 0,.int .i64 0,.lst []]) (zs:=[.d (.int .i64 0),.d (.int .i64 0),.nils]) L ha hL rfl rfl ⟨⟨rfl,rfl⟩,by decide⟩ (id:=id);by_cases hz:a+1=es.length
 .rw[if_pos hz]at c4;have c5:=fun(g:G) (hg:g id=some (.darr 3 (es++x)))=>MC (n:=es.length-1) hg (a:=((es.length-1:Nat):Int)) (b:=es.length) (by omega) (by omega) (by simp;omega) (by simp;omega);simp only[Int.toNat_natCast,w2]at c5;have c6:=c6 (es++x) (by rw[←List.append_assoc,show es.length-1=a by omega,List.drop_of_length_le (show es.length≤a+1 by omega)];simp[←List.append_assoc]);replace hz:=AA.mk hz;refine aw ?_;exact⟨⟨_,rfl⟩,fun i hi=>by simp[hi]⟩
 .rw[if_neg hz]at c4;have c5:=fun(g:G) (hg:g id=some (.darr 3 (es.take a++(es.drop (a+1)++(es.drop (es.length-1)++x)))))=>MC (n:=es.length-1) hg (a:=((es.length-1:Nat):Int)) (b:=es.length) (by omega) (by omega) (by simp;omega) (by simp;omega);simp only[Int.toNat_natCast,w2]at c5;have c6:=c6 _ rfl;refine aw ?_;exact⟨⟨_,rfl⟩,fun i hi=>by simp[hi]⟩
end Go.Proofs
namespace Go.Abs
theorem fb(l:List Id)(x y:Id):y∈KY l x↔y∈l∨y=x:=by
 unfold KY;split
 .rename_i h;obtain⟨z,hz,e⟩:=List.any_eq_true.1 h;have:x=z:=is_iff.1 e;subst this;constructor
  .exact .inl
  .rintro(h|rfl)
   .exact h
   .exact hz
 .simp
theorem WG{l:List Id}(h:l.Nodup)(x:Id):(KY l x).Nodup:=by
 unfold KY;split
 .exact h
 .rename_i hx;rw[List.nodup_append];refine⟨h,by simp,fun a ha b hb=>?_⟩;rw[List.mem_singleton]at hb;subst hb;rintro rfl;have:l.any (Id.is a)=true:=List.any_eq_true.2 ⟨a,ha,is_self a⟩;rw[this]at hx;cases hx
theorem fc(l:List Id)(x:Id): ∃m,KY l x=l++m:=by
 unfold KY;split
 .exact⟨[],by simp⟩
 .exact⟨[x],rfl⟩
theorem GZ: ∀(new l:List Id) (y:Id),y∈EK l new↔y∈l∨y∈new
 |[],l,y=>by simp[EK]
 |x::new,l,y=>by
  have:=GZ new (KY l x) y;unfold EK at*;rw[List.foldl_cons,this,fb,List.mem_cons,or_assoc]
theorem J3: ∀(new:List Id) {l:List Id},l.Nodup→(EK l new).Nodup
 |[],l,h=>h
 |x::new,l,h=>J3 new (WG h x)
theorem QI: ∀(new l:List Id),∃m,EK l new=l++m
 |[],l=>⟨[],by simp[EK]⟩
 |x::new,l=>by
  obtain⟨m,hm⟩:=fc l x;obtain⟨m2,hm2⟩:=QI new (KY l x);refine⟨m++m2,?_⟩;have:EK l (x::new)=EK (KY l x) new:=rfl;rw[this,hm2,hm,List.append_assoc]
theorem Ru(h:AB)(M:List Id)(hc: ∀x∈M,∀y∈FV (h.get x),y∈M): ∀(n:Nat) (l:List Id) (i:Nat),l.Nodup→(∀x∈l,x∈M)→(∀j x,j<i→l[j]? =some x→ ∀y∈FV (h.get x),y∈l)→M.length≤i+n→
 (Br h n l i).Nodup∧(∀x∈Br h n l i,x∈M)∧(∀x∈l,x∈Br h n l i)∧ ∀x∈Br h n l i,∀y∈FV (h.get x),y∈Br h n l i
 |0,l,i,hn,hm,hd,hi=>by
  have e:Br h 0 l i=l:=rfl;rw[e];refine⟨hn,hm,fun x hx=>hx,fun x hx y hy=>?_⟩;obtain⟨j,hj⟩:=List.getElem?_of_mem hx;have h1:=hn.length_le_of_subset (l₂:=M) hm;have h2:=(List.getElem?_eq_some_iff.1 hj).1;exact hd j x (by omega) hj y hy
 |n+1,l,i,hn,hm,hd,hi=>by
  cases hl:l[i]? with
  |none=>
   have e:Br h (n+1) l i=l:=by rw[Br,hl]
   rw[e];refine⟨hn,hm,fun x hx=>hx,fun x hx y hy=>?_⟩;obtain⟨j,hj⟩:=List.getElem?_of_mem hx;have h1:=List.getElem?_eq_none_iff.1 hl;have h2:=(List.getElem?_eq_some_iff.1 hj).1;exact hd j x (by omega) hj y hy
  |some id=>
   have e:Br h (n+1) l i=Br h n (EK l (FV (h.get id))) (i+1):=by rw[Br,hl]
   rw[e];have hid:=List.mem_of_getElem? hl;obtain⟨m,hm2⟩:=QI (FV (h.get id)) l;have ih:=Ru h M hc n (EK l (FV (h.get id))) (i+1) (J3 _ hn) (fun x hx=>by
    rcases(GZ _ _ _).1 hx with hx|hx
    .exact hm x hx
    .exact hc id (hm id hid) x hx) (fun j x hj hx y hy=>by
    rw[GZ];by_cases hji:j=i
    .subst hji;rw[hm2,List.getElem?_append_left (List.getElem?_eq_some_iff.1 hl).1,hl]at hx;cases hx;exact .inr hy
    .have hil:=(List.getElem?_eq_some_iff.1 hl).1;rw[hm2,List.getElem?_append_left (by omega)]at hx;exact .inl (hd j x (by omega) hx y hy)) (by omega)
   exact⟨ih.1,ih.2.1,fun x hx=>ih.2.2.1 x ((GZ _ _ _).2 (.inl hx)),ih.2.2.2⟩
theorem Hn(π:List Nat): ∀(l:List Id) (n:Nat) (x:Id),x∈l→ ∃j,DH π l n x=some (R9 x::(n+j)::π)∧j<l.length
 |y::l,n,x,hx=>by
  rw[RV];by_cases h:Id.is y x=true
  .rw[if_pos h];exact⟨0,rfl,by simp⟩
  .rw[if_neg h];have hx2:x∈l:=by
    rcases List.mem_cons.1 hx with rfl|hx
    .exact absurd (is_self _) h
    .exact hx
   obtain⟨j,hj,hlt⟩:=Hn π l (n+1) x hx2;exact⟨j+1,by rw[hj];congr 3;omega,by simp;omega⟩
theorem Yl(h:AB)(ν:Id→Option Id)(hinj: ∀x y z,ν x=some z→ν y=some z→x=y){x z:Id}{o:Obj}(hz:ν x=some z)(ho:h.get x=some o): ∀(l:List Id),x∈l→(Cz h ν l).get z=some (GL ν o)
 |y::l,hx=>by
  by_cases hxy:y=x
  .subst hxy;rw[Cz,ho,hz,BN,is_self,if_pos rfl]
  .have hx2:x∈l:=by
    rcases List.mem_cons.1 hx with rfl|hx
    .exact absurd rfl hxy
    .exact hx
   have ih:=Yl h ν hinj hz ho l hx2;rw[Cz];split
   .rename_i o' z' h1 h2;rw[BN,AD (fun e=>hxy (hinj _ _ _ h2 (by rw[e];exact hz))),if_neg (by simp)];exact ih
   .exact ih
structure Ren(π:List Nat)(h:AB)(e:BS)(ν:Id→Option Id)(h':AB)(n:Nat):Prop where
 env: ∀x∈Gf e,∃z,ν x=some z
 name: ∀x z,ν x=some z→ ∃j,j<n∧z=R9 x::j::π
 inj: ∀x y z,ν x=some z→ν y=some z→x=y
 get: ∀x z o,ν x=some z→h.get x=some o→h'.get z=some (GL ν o)
 deep: ∀x z,ν x=some z→ ∀y∈FV (h.get x),∃z',ν y=some z'
 only: ∀z o,h'.get z=some o→ ∃x,ν x=some z
theorem PE(π:List Nat)(h:AB)(e:BS)(M:List Id)(hM:M.length≤1000)(he: ∀x∈Gf e,x∈M)(hc: ∀x∈M,∀y∈FV (h.get x),y∈M):
 ∃ν h' n,MZ π h e=⟨e.map fun p=>(p.1,Ih ν p.2),h',n,[]⟩∧n≤M.length∧Ren π h e ν h' n:=by
 obtain⟨r1,r2,r3,r4⟩:=Ru h M hc 1000 (EK [] (Gf e)) 0 (J3 _ .nil) (fun x hx=>by
  rcases(GZ _ _ _).1 hx with hx|hx
  .cases hx
  .exact he x hx) (fun j x hj=>by omega) (by omega)
 unfold MZ Uo;generalize Br h 1000 (EK [] (Gf e)) 0=L at*;refine⟨DH π L 0,Cz h (DH π L 0) L,L.length,rfl,r1.length_le_of_subset r2,?_,?_,fun x y z=>K9,fun x z o hz ho=>?_,fun x z hz y hy=>?_,fun z o hz=>?_⟩
 .intro x hx;obtain⟨j,hj,_⟩:=Hn π L 0 x (r3 x ((GZ _ _ _).2 (.inr hx)));exact⟨_,hj⟩
 .intro x z hz;obtain⟨j,t,h1,h2⟩:=EB hz;obtain⟨j2,h3,h4⟩:=Hn π L 0 x (List.mem_of_getElem? h1);rw[hz]at h3;cases h3;exact⟨0+j2,by omega,rfl⟩
 .obtain⟨j,t,h1,h2⟩:=EB hz;exact Yl h _ (fun x y z=>K9) hz ho L (List.mem_of_getElem? h1)
 .obtain⟨j,t,h1,h2⟩:=EB hz;obtain⟨j2,h3,h4⟩:=Hn π L 0 y (r4 x (List.mem_of_getElem? h1) y hy);exact⟨_,h3⟩
 .obtain⟨x,o,_,h2,_⟩:=EJ hz;exact⟨x,h2⟩
end Go.Abs
namespace Go.Proofs
open Go Go.Abs
@[irreducible] def OO(C:CG)(f:FuncId)(π:List Nat)(b:Nat)(e:BS)(h:AB):St:=MZ π h (K5 e (C.live f b))
theorem Fb(C:CG)(f:FuncId)(π:List Nat)(b:Nat)(e:BS)(h:AB):OO C f π b e h=MZ π h (K5 e (C.live f b)):=by unfold OO;rfl
theorem gF(b:Nat)(e:BS)(h:AB)(bs:Nat)(π:List Nat)(prot:Option (List Nat))(rnd:Bool)(nt:Nat):EP cfg ⟨153,π,false,prot,rnd,nt⟩ b ⟨e,h,bs,[]⟩=OO cfg 153 π b e h:=by
 rw[Fb];exact OQ _ _ _ _ _
attribute [go_sem 2000] gF
def zv(g:AB)(v:AV)(q:List (List Cc)):Prop:=(q.length=0∧v=.nils)∨(q.length≠0∧ ∃id,v=.osl id 0 q.length∧g.get id=some (.darr 1 (q.map BG)))
structure Fk(g:AB)(es:List (List AV))(l:List Fa):Prop where
 len:es.length=l.length
 row: ∀(j:Nat) (x:Fa),l[j]? =some x→ ∃v,es[j]? =some (Aq x v)∧zv g v x.queue
 diff:(es.flatMap Al).Nodup
def H9(π:List Nat)(b:Nat)(id:Abs.Id):Prop:= ∃t j,j<b∧id=t::j::π
structure oD(π:List Nat)(l:List Fa)(i:Nat)(v:AV)(g:AB)(b:Nat)(A:Abs.Id)(es:List (List AV)):Prop where
 val:v=.osl A 0 i
 arr:g.get A=some (.arr 4 es)
 rep:Fk g es (l.take i)
 a:H9 π b A
 ids: ∀id∈es.flatMap Al,H9 π b id
 own: ∀id,Id.under π id=false→g.get id=none
theorem K8{k b:Nat}{ρ:List Nat}{A:Abs.Id}(h:H9 (k::ρ) b A)(t j:Nat)(hj:b≤j):Id.is (t::j::k::ρ) A=false∧Id.is A (t::j::k::ρ)=false:=by
 obtain⟨t',j',h1,rfl⟩:=h;exact⟨AD (by simp;omega),AD (by simp;omega)⟩
theorem Hz{k b:Nat}{ρ:List Nat}{A:Abs.Id}(h:H9 (k::ρ) b A)(m:List Nat)(hm:2<m.length):Id.is (m++k::ρ) A=false∧Id.is A (m++k::ρ)=false:=by
 obtain⟨t',j',h1,rfl⟩:=h;constructor
 .refine AD fun e=>?_;have:=congrArg List.length e;simp at this;omega
 .refine AD fun e=>?_;have:=congrArg List.length e;simp at this;omega
theorem Eb(x:Fa)(v:AV):Al (Aq x v)=AE v:=by simp[Aq,Al,AE]
theorem N1{g:AB}{v:AV}{q:List (List Cc)}(h:zv g v q):(v=.nils∧AE v=[])∨ ∃id,v=.osl id 0 q.length∧AE v=[id]∧g.get id=some (.darr 1 (q.map BG)):=by
 rcases h with⟨_,rfl⟩|⟨_,id,rfl,h⟩
 .exact .inl ⟨rfl,rfl⟩
 .exact .inr ⟨id,rfl,rfl,h⟩
theorem Km{g:AB}{es:List (List AV)}{l:List Fa}(h:Fk g es l){id:Abs.Id}(hi:id∈es.flatMap Al): ∃q:List (List Cc),g.get id=some (.darr 1 (q.map BG)):=by
 obtain⟨row,hr,hid⟩:=List.mem_flatMap.1 hi;obtain⟨j,hj⟩:=List.getElem?_of_mem hr;have hjl:=(List.getElem?_eq_some_iff.1 hj).1;obtain⟨x,hx⟩:=get_some (l:=l) (i:=j) (by rw[←h.len];exact hjl);obtain⟨v,hv,hq⟩:=h.row j x hx;rw[hj]at hv;cases hv;rw[Eb]at hid;rcases N1 hq with⟨_,e⟩|⟨id2,_,e,hg⟩
 .rw[e]at hid;cases hid
 .rw[e,List.mem_singleton]at hid;subst hid;exact⟨_,hg⟩
theorem J7{g H:AB}{es:List (List AV)}{l:List Fa}(h:Fk g es l)(hk: ∀id∈es.flatMap Al,H.get id=g.get id):Fk H es l:=by
 refine⟨h.len,fun j x hx=>?_,h.diff⟩;obtain⟨v,hv,hq⟩:=h.row j x hx;refine⟨v,hv,?_⟩;rcases hq with hq|⟨h0,id,rfl,hg⟩
 .exact .inl hq
 .refine .inr ⟨h0,id,rfl,?_⟩;rw[hk id (List.mem_flatMap.2 ⟨_,List.mem_of_getElem? hv,by rw[Eb];simp[AE]⟩)];exact hg
theorem JB{H:AB}{es:List (List AV)}{l:List Fa}(h:Fk H es l){x:Fa}{v:AV}(hq:zv H v x.queue)(hn: ∀id∈AE v,id∉es.flatMap Al):Fk H (es++[Aq x v]) (l++[x]):=by
 refine⟨by simp[h.len],fun j y hy=>?_,?_⟩
 .by_cases hj:j<l.length
  .rw[List.getElem?_append_left hj]at hy;obtain⟨v',hv',hq'⟩:=h.row j y hy;exact⟨v',by rw[List.getElem?_append_left (by rw[h.len];exact hj)];exact hv',hq'⟩
  .have hlt:=(List.getElem?_eq_some_iff.1 hy).1;rw[List.length_append,List.length_singleton]at hlt;obtain rfl:j=l.length:=by omega
   rw[List.getElem?_append_right (by omega)]at hy;simp only[Nat.sub_self,List.getElem?_cons_zero,Option.some.injEq]at hy;subst hy;exact⟨v,by rw[List.getElem?_append_right (by rw[h.len];omega),h.len];simp,hq⟩
 .rw[List.flatMap_append,List.nodup_append];refine⟨h.diff,?_,?_⟩
  .simp only[List.flatMap_cons,List.flatMap_nil,List.append_nil,Eb];rcases N1 hq with⟨_,e⟩|⟨id2,_,e,_⟩<;>rw[e]<;>simp
  .intro a ha b hb hab;subst hab;simp only[List.flatMap_cons,List.flatMap_nil,List.append_nil,Eb]at hb;exact hn a hb ha
theorem Ny{α β:Type}{f:α→β}: ∀{l:List α},l.Nodup→(∀x∈l,∀y∈l,f x=f y→x=y)→(l.map f).Nodup
 |[],_,_=>List.nodup_nil
 |x::l,h,hf=>by
  rw[List.nodup_cons]at h;rw[List.map_cons,List.nodup_cons];refine⟨fun hm=>?_,Ny h.2 fun a ha b hb=>hf a (List.mem_cons_of_mem _ ha) b (List.mem_cons_of_mem _ hb)⟩;obtain⟨y,hy,e⟩:=List.mem_map.1 hm;have:=hf y (List.mem_cons_of_mem _ hy) x (by simp) e;subst this;exact h.1 hy
theorem XQ{es:List (List AV)}(h: ∀r∈es,(Al r).length≤1):(es.flatMap Al).length≤es.length:=by
 induction es with
 |nil=>simp
 |cons r es ih=>
  have h1:=h r (by simp);have h2:=ih fun r hr=>h r (List.mem_cons_of_mem _ hr);simp only[List.flatMap_cons,List.length_append,List.length_cons];omega
theorem Wv{g:AB}{es:List (List AV)}{l:List Fa}(h:Fk g es l):(es.flatMap Al).length≤es.length:=by
 refine XQ fun r hr=>?_;obtain⟨j,hj⟩:=List.getElem?_of_mem hr;have hjl:=(List.getElem?_eq_some_iff.1 hj).1;obtain⟨x,hx⟩:=get_some (l:=l) (i:=j) (by rw[←h.len];exact hjl);obtain⟨v,hv,hq⟩:=h.row j x hx;rw[hj]at hv;cases hv;rw[Eb];rcases N1 hq with⟨_,e⟩|⟨id2,_,e,hg⟩<;>rw[e]<;>simp
theorem Wx{π:List Nat}{H H':AB}{e:BS}{ν:Abs.Id→Option Abs.Id}{n:Nat}(hR:Ren π H e ν H' n){es:List (List AV)}{l:List Fa}(h:Fk H es l)(hν: ∀id∈es.flatMap Al,∃z,ν id=some z):Fk H' (es.map (HG ν)) l∧ ∀id∈(es.map (HG ν)).flatMap Al,H9 π n id:=by
 have key: ∀r∈es,Al (HG ν r)=(Al r).map fun id=>(ν id).getD []:=by
  intro r hr;obtain⟨j,hj⟩:=List.getElem?_of_mem hr;have hjl:=(List.getElem?_eq_some_iff.1 hj).1;obtain⟨x,hx⟩:=get_some (l:=l) (i:=j) (by rw[←h.len];exact hjl);obtain⟨v,hv,hq⟩:=h.row j x hx;rw[hj]at hv;cases hv;have e1:HG ν (Aq x v)=Aq x (Ih ν v):=by simp[Aq,HG,Ih]
  rw[e1,Eb,Eb];rcases N1 hq with⟨rfl,e⟩|⟨id2,rfl,e,hg⟩
  .simp[Ih,AE]
  .obtain⟨z,hz⟩:=hν id2 (List.mem_flatMap.2 ⟨_,hr,by rw[Eb];simp[AE]⟩);simp[Ih,hz,AE]
 have key2:(es.map (HG ν)).flatMap Al=(es.flatMap Al).map fun id=>(ν id).getD []:=by
  rw[List.flatMap_map,List.map_flatMap];have: ∀(l:List (List AV)),(∀r∈l,Al (HG ν r)=(Al r).map fun id=>(ν id).getD [])→(l.flatMap fun a=>Al (HG ν a))=l.flatMap fun a=>(Al a).map fun id=>(ν id).getD []:=by
   intro l hl;induction l with
   |nil=>rfl
   |cons r l ih=>rw[List.flatMap_cons,List.flatMap_cons,hl r (by simp),ih fun r hr=>hl r (List.mem_cons_of_mem _ hr)]
  exact this es key
 refine⟨⟨by rw[List.length_map,h.len],fun j x hx=>?_,?_⟩,?_⟩
 .obtain⟨v,hv,hq⟩:=h.row j x hx;refine⟨Ih ν v,?_,?_⟩
  .rw[List.getElem?_map,hv];simp[Aq,HG,Ih]
  .rcases hq with⟨h0,rfl⟩|⟨h0,id,rfl,hg⟩
   .exact .inl ⟨h0,rfl⟩
   .obtain⟨z,hz⟩:=hν id (List.mem_flatMap.2 ⟨_,List.mem_of_getElem? hv,by rw[Eb];simp[AE]⟩);refine .inr ⟨h0,z,by simp[Ih,hz],?_⟩;have:=hR.get id z _ hz hg;simpa[GL]using this
 .rw[key2];refine Ny h.diff fun x hx y hy e=>?_;obtain⟨z,hz⟩:=hν x hx;obtain⟨z2,hz2⟩:=hν y hy;rw[hz,hz2]at e;simp only[Option.getD_some]at e;subst e;exact hR.inj x y z hz hz2
 .intro id hid;rw[key2]at hid;obtain⟨x,hx,rfl⟩:=List.mem_map.1 hid;obtain⟨z,hz⟩:=hν x hx;obtain⟨j,hj,rfl⟩:=hR.name x z hz;rw[hz];exact⟨_,j,hj,rfl⟩
theorem Ql{K:AL}{fr:Fr}{bl:Nat}{x:Code}{Q:DX→St→Prop}{k:Nat}{ρ:List Nat}{l:List Fa}{E:BS}{H:AB}{B:Abs.Id}{i:Nat}{es:List (List AV)}{x8 x9 x10:AW}
 (hE:K5 E (cfg.live 153 0)=[(1,.fn 154 [] []),(5,.osl B 0 i),(8,.d x8),(9,.d x9),(10,.d x10)]) (h1:H.get B=some (.arr 4 es)) (h2:Fk H es (l.take i)) (hi:es.length≤60)
 (hn: ∀v g b A es,oD (k::ρ) l i v g b A es→fY cfg K fr bl x ⟨[(1,.fn 154 [] []),(5,v),(8,.d x8),(9,.d x9),(10,.d x10)],g,b,[]⟩ Q):fY cfg K fr bl x (OO cfg 153 (k::ρ) 0 E H) Q:=by
 rw[Fb,hE];have hlen:=Wv h2;obtain⟨ν,h',n,hc,hnM,hR⟩:=PE (k::ρ) H [(1,.fn 154 [] []),(5,.osl B 0 i),(8,.d x8),(9,.d x9),(10,.d x10)] (B::es.flatMap Al) (by simp only[List.length_cons];omega) (by
  intro y hy;simp[Gf,AE,Al]at hy;simp[hy]) (by
  intro y hy z hz;rcases List.mem_cons.1 hy with rfl|hy
  .rw[h1]at hz;exact List.mem_cons_of_mem _ hz
  .obtain⟨q,hq⟩:=Km h2 hy;rw[hq]at hz;cases hz)
 obtain⟨z,hz⟩:=hR.env B (by simp[Gf,AE,Al]);have hν: ∀id∈es.flatMap Al,∃z,ν id=some z:=fun id hid=>hR.deep B z hz id (by rw[h1];exact hid);obtain⟨r1,r2⟩:=Wx hR h2 hν;rw[hc];have:=hn (.osl z 0 i) h' n z (es.map (HG ν)) ⟨rfl,by have:=hR.get B z _ hz h1;simpa[GL]using this,r1,by obtain⟨j,hj,rfl⟩:=hR.name B z hz;exact⟨_,j,hj,rfl⟩,r2,fun id hu=>by
  cases hg:h'.get id with
  |none=>rfl
  |some o=>
   obtain⟨y,hy⟩:=hR.only id o hg;obtain⟨j,hj,rfl⟩:=hR.name y id hy;rw[Jy]at hu;cases hu⟩
 simpa[Ih,HG,hz]using this
end Go.Proofs
namespace Go.Proofs
open Go Go.Abs
set_option maxRecDepth 100000
set_option maxHeartbeats 4000000
def oA(π:List Nat)(l:List Fa)(r:AZ×AB):Prop:=(l.length=0∧r=(.ret .nils,[]))∨(l.length≠0∧ ∃v g b A es,r=(.ret v,g)∧oD π l l.length v g b A es)
theorem vX(l:List Fa)(hl:l.length≤60)(hf: ∀x∈l,x.queue.length≤1000000∧ ∀y∈x.queue,y.length≤1000000)(k:Nat)(ρ:List Nat): ∃r,BM (KL Tryz.prog cfg) 153 [.d (.lst (l.map CK)),.fn 154 [] []] (k::ρ)=.ok r∧oA (k::ρ) l r:=by
 (refine Gm rfl Tryz.func153 rfl rfl rfl ?_;show Wp _ _ _ _ (Tryz.f153.body.get rfl) _ _;simp only[Tryz.f153,Option.get_some])
 (repeat' (first|simp only[go_sem, *,Fb]|(refine sx ?_ ?_<;>intro hc)|refine sy (by omega) fun x hx hm=>?_|simp(disch:=first|assumption|omega) only[wrap_id,AK,AH,slice_int]))
 refine AX l _ (S:=fun m i (a:(AV×AB)×Nat)=>⟨[(1,.fn 154 [] []),(5,a.1.1),(8,.d (.lst (l.map CK))),(9,.d (.int .i64 (m))),(10,.d (.int .i64 (i)))],a.1.2,a.2,[]⟩)
  (Inv:=fun i rest a=>AA (i=0∧a=((.nils,[]),0)∨0<i∧ ∃A es,oD (k::ρ) l i a.1.1 a.1.2 a.2 A es)) (b0:=((_,[]),_)) ?_ ⟨.inl ⟨rfl,rfl⟩⟩ ?_ ?_
 .rfl
 .rintro i x ⟨⟨v,g⟩,b⟩ hy hi him hv IH;dsimp only at*;have hx:=fun k ρ=>Uw x (hf x (List.mem_of_getElem? hy)).1 (hf x (List.mem_of_getElem? hy)).2 k ρ;replace hf:=AA.mk hf;have ht:AA (l.take (i+1)=l.take i++[x]):=⟨by rw[List.take_add_one,hy];rfl⟩;rcases hv.out with⟨rfl,he⟩|⟨hi0,A,es,hE⟩
  .clear hv;cases he;have him0:(0:Int)<l.length:=him;by_cases h0:x.queue.length=0
   .simp only[Mx,if_pos h0,Aq]at hx
    (repeat' (first|simp only[go_sem, *,Gn,Fb]|(refine sx ?_ ?_<;>intro hc)|refine sy (by omega) fun x hx hm=>?_|simp(disch:=first|assumption|omega) only[wrap_id,AK,AH,slice_int]))
    refine IH.out ((_,_),_) ⟨.inr ⟨by omega,1::0::k::ρ,[Aq x .nils],rfl,by simp only[go_sem];rfl,?_,⟨1,0,Nat.lt_succ_self 0,rfl⟩,?_,?_⟩⟩
    .rw[ht.out];exact JB (es:=[]) (l:=[]) ⟨rfl,by simp,by simp⟩ (.inl ⟨h0,rfl⟩) (by simp[AE])
    .simp[Eb,AE]
    .intro id hu;rw[BN,AD (by rintro rfl;rw[Jy]at hu;cases hu)];rfl
   .simp only[Mx,if_neg h0,Aq]at hx;have fa:=JD h0
    (repeat' (first|simp only[go_sem, *,Gn,Fb]|(refine sx ?_ ?_<;>intro hc)|refine sy (by omega) fun x hx hm=>?_|simp(disch:=first|assumption|omega) only[wrap_id,AK,AH,slice_int]))
    refine IH.out ((_,_),_) ⟨.inr ⟨by omega,1::0::k::ρ,[Aq x (.osl (1::1::k::ρ) 0 x.queue.length)],rfl,by simp only[go_sem];rfl,?_,⟨1,0,Nat.succ_pos 1,rfl⟩,?_,?_⟩⟩
    .rw[ht.out];refine JB (es:=[]) (l:=[]) ⟨rfl,by simp,by simp⟩ (.inr ⟨h0,_,rfl,?_⟩) (by simp[AE]);simp only[go_sem]
    .intro id hid;simp[Eb,AE]at hid;subst hid;exact⟨1,1,Nat.lt_succ_self 1,rfl⟩
    .intro id hu;rw[BN,AD (by rintro rfl;rw[Jy]at hu;cases hu),if_neg (by simp),BN,AD (by rintro rfl;rw[Jy]at hu;cases hu)];rfl
  .clear hv;obtain rfl:=hE.val;have hA:=hE.arr;have hes:=hE.rep.len;have hti:(l.take i).length=i:=by simp;omega
   have hrep:=hE.rep;have hid:=hE.ids;have fr: ∀id,H9 (k::ρ) b id→id≠A→AA (Id.is (0::(b+3)::k::ρ) id=false∧Id.is (1::(b+9)::k::ρ) id=false∧Id.is (1::(b+10)::k::ρ) id=false∧Id.is (0::0::(b+8)::k::ρ) id=false∧Id.is (0::1::(b+8)::k::ρ) id=false∧Id.is (1::0::2::10::(b+8)::k::ρ) id=false∧Id.is A id=false):=fun id h hne=>⟨(K8 h 0 (b+3) (by omega)).1,(K8 h 1 (b+9) (by omega)).1,(K8 h 1 (b+10) (by omega)).1,(Hz h [0,0,b+8] (by simp)).1,(Hz h [0,1,b+8] (by simp)).1,(Hz h [1,0,2,10,b+8] (by simp)).1,AD fun e=>hne e.symm⟩;have hneA: ∀id∈es.flatMap Al,id≠A:=fun id h e=>by
    obtain⟨q,hq⟩:=Km hrep h;rw[e,hA]at hq;cases hq
   have hX:1::0::2::10::(b+8)::k::ρ∉es.flatMap Al:=fun h=>by
    obtain⟨t,j,_,e⟩:=hid _ h;have:=congrArg List.length e;simp at this;omega
   obtain⟨m1,m2⟩:=K8 hE.a 0 (b+3) (by omega);obtain⟨m3,m4⟩:=K8 hE.a 1 (b+9) (by omega);obtain⟨m5,m6⟩:=Hz hE.a [0,0,b+8] (by simp);obtain⟨m7,m8⟩:=Hz hE.a [0,1,b+8] (by simp);obtain⟨m9,m10⟩:=Hz hE.a [1,0,2,10,b+8] (by simp);simp only[List.cons_append,List.nil_append]at m5 m6 m7 m8 m9 m10;rw[hti]at hes;have tke:es.take i=es:=List.take_of_length_le (by omega);replace hE:=AA.mk hE;replace hrep:=AA.mk hrep;replace hid:=AA.mk hid;replace hneA:=AA.mk hneA;replace fr:=AA.mk fr;replace hX:=AA.mk hX;have nle: ¬i+1≤i:=by omega
   have lm:i+1≤A4:=by unfold A4;omega
   by_cases h0:x.queue.length=0
   .simp only[Mx,if_pos h0,Aq]at hx
    (repeat' (first|simp only[go_sem, *,Gn]|(refine sx ?_ ?_<;>intro hc)|refine sy (by omega) fun x hx hm=>?_|simp(disch:=first|assumption|omega) only[wrap_id,AK,AH,slice_int]))
    refine Ql (B:=1::(b+10)::k::ρ) (i:=i+1) (es:=es++[Aq x .nils]) ?_ ?_ ?_ ?_ (fun v g b A es hE2=>IH.out ((v,g),b) ⟨.inr ⟨by omega,A,es,hE2⟩⟩)
    .simp only[go_sem];rfl
    .simp only[go_sem];rfl
    .rw[ht.out];refine JB (J7 hrep.out fun id h=>?_) (.inl ⟨h0,rfl⟩) (by simp[AE]);obtain⟨f1,f2,f3,f4,f5,f6,f7⟩:=(fr.out id (hid.out id h) (hneA.out id h)).out;simp only[go_sem,f1,f2,f3,f4,f5,f6,f7,Bool.false_eq_true]
    .simp;omega
   .simp only[Mx,if_neg h0,Aq]at hx;have fa:=JD h0
    (repeat' (first|simp only[go_sem, *,Gn]|(refine sx ?_ ?_<;>intro hc)|refine sy (by omega) fun x hx hm=>?_|simp(disch:=first|assumption|omega) only[wrap_id,AK,AH,slice_int]))
    refine Ql (B:=1::(b+10)::k::ρ) (i:=i+1) (es:=es++[Aq x (.osl (1::0::2::10::(b+8)::k::ρ) 0 x.queue.length)]) ?_ ?_ ?_ ?_ (fun v g b A es hE2=>IH.out ((v,g),b) ⟨.inr ⟨by omega,A,es,hE2⟩⟩)
    .simp only[go_sem];rfl
    .simp only[go_sem];rfl
    .rw[ht.out];refine JB (J7 hrep.out fun id h=>?_) (.inr ⟨h0,_,rfl,?_⟩) (by simp only[AE,List.mem_singleton];rintro id rfl;exact hX.out)
     .obtain⟨f1,f2,f3,f4,f5,f6,f7⟩:=(fr.out id (hid.out id h) (hneA.out id h)).out;simp only[go_sem,f1,f2,f3,f4,f5,f6,f7,Bool.false_eq_true]
     .simp only[go_sem]
    .simp;omega
 .rintro i ⟨⟨v,g⟩,b⟩ hi him hv;dsimp only at*;rcases hv.out with⟨rfl,he⟩|⟨hi0,A,es,hE⟩
  .cases he;have him0: ¬(0:Int)<l.length:=him;have hl0:=AA.mk hi.out.symm;clear hv
   (repeat' (first|simp only[go_sem, *,Fb]|(refine sx ?_ ?_<;>intro hc)|refine sy (by omega) fun x hx hm=>?_|simp(disch:=first|assumption|omega) only[wrap_id,AK,AH,slice_int]))
   exact .inl ⟨hl0.out,rfl⟩
  .clear hv;have hii:=AA.mk hi.out;obtain rfl:=hE.val;replace hE:=AA.mk hE
   (repeat' (first|simp only[go_sem, *]|(refine sx ?_ ?_<;>intro hc)|refine sy (by omega) fun x hx hm=>?_|simp(disch:=first|assumption|omega) only[wrap_id,AK,AH,slice_int]))
   obtain rfl:=hii.out;exact .inr ⟨by omega,_,_,b,A,es,rfl,hE.out⟩
end Go.Proofs
namespace Go.Proofs
open Go Go.Abs
set_option maxRecDepth 100000
set_option maxHeartbeats 4000000
structure A8.Fits(s:A8):Prop where
 spots:s.spots.length≤1000000
 groups:s.groups.length≤1000000
 chans:s.chans.length≤60
 waits:s.waits.length≤1000000
 group: ∀x∈s.groups,x.env.length≤1000000
 chan: ∀x∈s.chans,x.queue.length≤1000000∧ ∀y∈x.queue,y.length≤1000000
 wait: ∀x∈s.waits,x.env.length≤1000000
structure oB(π:List Nat)(s:A8)(v1 v2 v3 v4:AV)(rows:List (List AV))(g:AB):Prop where
 s0:Kc g 2 v1 (s.spots.map Af)
 s1:Kc g 3 v2 (s.groups.map A3)
 s2:Kc g 3 v4 (s.waits.map AR)
 arr:uu g v3 rows
 chans:zQ g rows s.chans
 qd:(rows.flatMap Al).Nodup
 gw: ∀id∈AE v2,id∉AE v4
 ids: ∀id,id∈AE v1∨id∈AE v2∨id∈AE v4∨id∈AE v3∨id∈rows.flatMap Al→Id.under π id=true
 own: ∀id,Id.under π id=false→g.get id=none
def oC(π:List Nat)(s:A8)(r:AZ×AB):Prop:= ∃v1 v2 v3 v4 rows g,r=(.ret (.agg [v1,v2,v3,v4]),g)∧oB π s v1 v2 v3 v4 rows g
theorem M5{α:Type}{f:α→List AW}{g:AB}{sz:Nat}{l:List α}(h:l.length=0):Kc g sz .nils (l.map f):=.inl ⟨rfl,by rw[List.eq_nil_of_length_eq_zero h];rfl⟩
theorem M4{α:Type}{f:α→List AW}{g:AB}{sz:Nat}{l:List α}{id:Abs.Id}(h:g.get id=some (.darr sz (l.map f))):Kc g sz (.osl id 0 l.length) (l.map f):=BU [] (by simp) (by rw[List.append_nil];exact h)
theorem uD(a b c:Nat)(π:List Nat):Id.under π (a::b::c::π)=true:=under_iff.2 ⟨[a,b,c],rfl⟩
theorem ME(i t j:Nat)(π:List Nat)(h:i≠j):Id.under (i::π) (t::j::π)=false:=DW fun hs=>by
 rcases List.suffix_cons_iff.1 hs with e|hs
 .have:=congrArg List.length e;simp at this
 rcases List.suffix_cons_iff.1 hs with e|hs
 .simp only[List.cons.injEq,and_true]at e;exact h e
 .have:=hs.length_le;simp at this;omega
theorem Iu(i a t j:Nat)(π:List Nat)(h:i≠j):Id.under (i::π) (a::t::j::π)=false:=DW fun hs=>by
 rcases List.suffix_cons_iff.1 hs with e|hs
 .have:=congrArg List.length e;simp at this
 have:=ME i t j π h;rw[under_iff.2 hs]at this;cases this
theorem Xv: ∀{g:AB} {x:Abs.Id},x∈g.map (fun x=>x.1)→g.get x≠none
 |(k,o)::g,x,hx=>by
  rw[BN];split
  .simp
  .rename_i hk;rw[List.map_cons,List.mem_cons]at hx;rcases hx with rfl|hx
   .exact absurd (is_self _) hk
   .exact Xv hx
theorem vD{g:AB}{id:Abs.Id}(h:g.get id=none):((g.map fun x=>x.1).all fun x=> !Id.is x id)=true:=by
 rw[List.all_eq_true];intro x hx;rw[AD]
 .rfl
 .rintro rfl;exact Xv hx h
theorem AAI{g:AB}{es:List (List AV)}{l:List Fa}(h:Fk g es l):zQ g es l:=by
 refine⟨h.len,fun j q hq=>?_⟩;obtain⟨v,h1,h2⟩:=h.row j q hq;refine⟨v,h1,?_⟩;rcases h2 with⟨h3,rfl⟩|⟨h3,id,rfl,h4⟩
 .exact M5 h3
 .exact M4 h4
theorem gV(s:A8)(h:s.Fits)(k:Nat)(ρ:List Nat): ∃r,BM (KL Tryz.prog cfg) 92 [.agg [.d (.lst (s.spots.map Af)),.d (.lst (s.groups.map A3)),.d (.lst (s.chans.map CK)),.d (.lst (s.waits.map AR))]] (k::ρ)=.ok r∧oC (k::ρ) s r:=by
 have h1:=pw 149 rfl s.spots (fun x _=>Y8 x) h.spots 4 (k::ρ);have h2:=hO 151 rfl s.groups (fun x hx=>Qf x (h.group x hx)) h.groups 7 (k::ρ);obtain⟨r,h3,hp⟩:=vX s.chans h.chans h.chan 10 (k::ρ);have h4:=px 157 rfl s.waits (fun x hx=>Sg x (h.wait x hx)) h.waits 13 (k::ρ);replace h:=AA.mk h;rcases hp with⟨z3,rfl⟩|⟨z3,v,g,b,A,es,rfl,hE⟩
 .by_cases z1:s.spots.length=0;all_goals by_cases z2:s.groups.length=0
  all_goals by_cases z4:s.waits.length=0
  all_goals
   simp only[Ig,z1,z2,z4,↓reduceIte]at h1 h2 h4
   (refine Gm rfl Tryz.func92 rfl rfl rfl ?_;show Wp _ _ _ _ (Tryz.f92.body.get rfl) _ _;simp only[Tryz.f92,Option.get_some])
   (repeat' (first|simp only[go_sem, *,NX,MO,NY,ne_eq,not_false_eq_true]|(refine sx ?_ ?_<;>intro hc)|refine sy (by omega) fun x hx hm=>?_|simp(disch:=first|assumption|omega) only[wrap_id,AK,AH,slice_int]))
   refine⟨_,_,_,_,[],_,rfl,?_,?_,?_,.inl ⟨rfl,rfl⟩,⟨z3.symm,fun j q hq=>by rw[List.eq_nil_of_length_eq_zero z3]at hq;cases hq⟩,List.nodup_nil,?_,fun id hid=>?_,fun id hu=>?_⟩
   .first
    |exact M5 z1
    |(refine M4 ?_;simp only[go_sem];done)
   .first
    |exact M5 z2
    |(refine M4 ?_;simp only[go_sem];done)
   .first
    |exact M5 z4
    |(refine M4 ?_;simp only[go_sem];done)
   .simp[AE]
   .simp only[AE,List.mem_singleton,List.not_mem_nil,List.flatMap_nil,or_false,false_or]at hid
    repeat' (rcases hid with hid|hid)
    all_goals exact uD _ _ _ _
   .have a1:=AG hu;have a2:=AG (AF hu 4);have a3:=AG (AF hu 7);have a4:=AG (AF hu 13);simp only[go_sem,a1,a2,a3,a4,Bool.false_eq_true]
 .obtain rfl:=hE.val;have hgA:=hE.arr;have n00:=hE.own _ (ME 10 0 0 (k::ρ) (by decide));have n01:=hE.own _ (ME 10 0 1 (k::ρ) (by decide));have g00: ∀L,AB.get (g++L) (0::0::k::ρ)=AB.get L (0::0::k::ρ):=fun L=>A0 n00;have g01: ∀L,AB.get (g++L) (0::1::k::ρ)=AB.get L (0::1::k::ρ):=fun L=>A0 n01;have g04: ∀L,AB.get (g++L) (1::0::4::k::ρ)=AB.get L (1::0::4::k::ρ):=fun L=>A0 (hE.own _ (Iu _ _ _ _ _ (by decide)));have g07: ∀L,AB.get (g++L) (1::0::7::k::ρ)=AB.get L (1::0::7::k::ρ):=fun L=>A0 (hE.own _ (Iu _ _ _ _ _ (by decide)));have g13: ∀L,AB.get (g++L) (1::0::13::k::ρ)=AB.get L (1::0::13::k::ρ):=fun L=>A0 (hE.own _ (Iu _ _ _ _ _ (by decide)));have gal:=vD n00;have hrep:=hE.rep;rw[List.take_length]at hrep;have hlr:=AA.mk hrep.len;have n13:g.get (1::0::13::k::ρ)=none:=hE.own _ (Iu _ _ _ _ _ (by decide));have nis: ∀{x y:Abs.Id} {o:Abs.Obj},g.get x=none→g.get y=some o→Id.is x y=false:=fun h1 h2=>AD fun e=>by rw[e,h2]at h1;cases h1
  have hgA2:AA (Id.is (0::1::k::ρ) A=false∧Id.is (1::0::13::k::ρ) A=false∧ ∀L,AB.get (g++L) A=some (.arr 4 es)):=⟨nis n01 hgA,nis n13 hgA,fun L=>Bw hgA⟩;have hgE:AA (∀id∈es.flatMap Al,Id.is (0::1::k::ρ) id=false∧Id.is (1::0::13::k::ρ) id=false∧ ∀L,AB.get (g++L) id=AB.get g id):=⟨fun id hid=>by
   obtain⟨q,hq⟩:=Km hrep hid;exact⟨nis n01 hq,nis n13 hq,fun L=>by rw[hq];exact Bw hq⟩⟩
  clear n13 nis;replace hrep:=AA.mk hrep;have hA10:AA (Id.under (k::ρ) A=true):=⟨by obtain⟨t,j,_,rfl⟩:=hE.a;exact under_iff.2 ⟨[t,j,10],rfl⟩⟩;have hE10:AA (∀id∈es.flatMap Al,Id.under (k::ρ) id=true):=⟨fun id hid=>by obtain⟨t,j,_,rfl⟩:=hE.ids id hid;exact under_iff.2 ⟨[t,j,10],rfl⟩⟩;replace hE:=AA.mk hE;have f3: ∀o m,BL (.osl A o m) g=none:=fun o m=>by simp only[BL,hgA]
  by_cases z1:s.spots.length=0;all_goals by_cases z2:s.groups.length=0
  all_goals by_cases z4:s.waits.length=0
  all_goals
   simp only[Ig,z1,z2,z4,↓reduceIte]at h1 h2 h4
   (refine Gm rfl Tryz.func92 rfl rfl rfl ?_;show Wp _ _ _ _ (Tryz.f92.body.get rfl) _ _;simp only[Tryz.f92,Option.get_some])
   (repeat' (first|simp only[go_sem, *,NX,MO,NY,ne_eq,not_false_eq_true]|(refine sx ?_ ?_<;>intro hc)|refine sy (by omega) fun x hx hm=>?_|simp(disch:=first|assumption|omega) only[wrap_id,AK,AH,slice_int]))
   refine⟨_,_,_,_,es,_,rfl,?_,?_,?_,.inr ⟨A,?_,?_⟩,AAI (J7 hrep.out fun id hid=>?_),hrep.out.diff,?_,fun id hid=>?_,fun id hu=>?_⟩
   .first
    |exact M5 z1
    |(refine M4 ?_;simp only[go_sem,g04,g07,g13];done)
   .first
    |exact M5 z2
    |(refine M4 ?_;simp only[go_sem,g04,g07,g13];done)
   .first
    |exact M5 z4
    |(refine M4 ?_;simp only[go_sem,g04,g07,g13];done)
   .rw[hlr.out]
   .obtain⟨q1,q2,q3⟩:=hgA2.out;simp only[go_sem,q1,q2,q3,Bool.false_eq_true]
   .obtain⟨q1,q2,q3⟩:=hgE.out id hid;simp only[go_sem,q1,q2,q3,Bool.false_eq_true]
   .simp[AE]
   .simp only[AE,List.mem_singleton,List.not_mem_nil,or_false,false_or]at hid
    repeat' (rcases hid with hid|hid)
    all_goals first
    |exact uD _ _ _ _
    |exact hA10.out
    |exact hE10.out _ hid
   .have a1:=AG hu;have a2:=AG (AF hu 4);have a3:=AG (AF hu 7);have a4:=AG (AF hu 13);have a5: ∀L,AB.get (g++L) id=AB.get L id:=fun L=>A0 (hE.out.own id (AF hu 10));simp only[go_sem,a1,a2,a3,a4,a5,Bool.false_eq_true]
end Go.Proofs
namespace Go.Proofs
open Go Go.Abs
theorem TD{p:AJ}{s:A8}{d:CH}{g:Ah}{i c:Nat}: ∀{l:List HP} {j:Nat},Fw p s d g i c j l=true→ ∀(t:Nat) (ch:HP),l[t]? =some ch→MJ p s d g i (j+t) (c+(j+t)) ch=true
 |x::l,j,h,t,ch,ht=>by
  rw[Fw,Bool.and_eq_true]at h;cases t with
  |zero=>
   simp only[List.getElem?_cons_zero,Option.some.injEq]at ht;subst ht;exact h.1
  |succ t=>
   rw[List.getElem?_cons_succ]at ht;have:=TD h.2 t ch ht
   rwa [show j+1+t=j+(t+1) by omega]at this
theorem Q7{p:AJ}{sizes:List Int}(hF:BO p sizes){s:A8}: ∀(l:List Ah) (i c k:Nat),E0 p (Bx p sizes) s i c k l=true→
 (∀g∈l,g.env.length≤10000)∧ ∀a,c≤a→a<s.chans.length→ ∃q g d ch i j,s.chans[a]? =some q∧PF p s d g i j q ch=true∧ch.many≤3
 |[],i,c,k,h=>by
  rw[E0,Bool.and_eq_true,decide_eq_true_eq]at h;exact⟨fun g hg=>(by cases hg),fun a h1 h2=>by omega⟩
 |g::l,i,c,k,h=>by
  rw[E0]at h;cases hd:p.def? g.def_ with
  |none=>rw[hd]at h;cases h
  |some d=>
   rw[hd]at h;simp only[Bool.and_eq_true]at h;obtain⟨h1,h2⟩:=h;obtain⟨i1,i2⟩:=Q7 hF l _ _ _ h2;rw[AJ.def?]at hd;split at hd
   .rename_i h0;have hdf:=CA hF hd;rw[KZ]at h1;simp only[Bool.and_eq_true,decide_eq_true_eq]at h1;obtain⟨_,hl,_,_,hch⟩:=h1;obtain⟨_,_,s0,_,_,_,_,q0,q1,q2,_⟩:=hdf.node;rw[q2]at hl;have hown:=Rh hdf.ok;simp only[Option.getD_some]at hl;refine⟨fun y hy=>?_,fun a ha hb=>?_⟩
    .rcases List.mem_cons.1 hy with rfl|hy
     .omega
     .exact i1 y hy
    .by_cases hac:a<c+d.chans.length
     .obtain⟨ch,hch2⟩:=get_some (l:=d.chans) (i:=a-c) (by omega);have:=TD hch (a-c) ch hch2;rw[show c+(0+(a-c))=a by omega,MJ]at this;cases hq:s.chans[a]? with
      |none=>rw[hq]at this;cases this
      |some q=>
       rw[hq]at this;exact⟨q,g,d,ch,_,_,rfl,this,(hdf.ok.chan ch (List.mem_of_getElem? hch2)).2.2.2⟩
     .exact i2 a (by omega) hb
   .cases hd
theorem du{p:AJ}{st:Bu}(hlk:looks p=some st){s:A8}(h:Du p st.sizes s=true):s.Fits:=by
 have hF:=Ek hlk;simp only[Du,A8.small,Bool.and_eq_true,decide_eq_true_eq]at h;obtain⟨⟨a1,a2,a3,a4⟩,_,_,hg,hw⟩:=h;obtain⟨g1,g2⟩:=Q7 hF _ _ _ _ hg;refine⟨by omega,by omega,a3,by omega,fun x hx=>by have:=g1 x hx;omega,fun x hx=>?_,fun x hx=>?_⟩
 .obtain⟨a,ha⟩:=List.getElem?_of_mem hx;have hal:=(List.getElem?_eq_some_iff.1 ha).1;obtain⟨q,g,d,ch,i,j,hq,hok,hm⟩:=g2 a (by omega) hal;rw[ha]at hq;cases hq;simp only[PF,Bool.and_eq_true,decide_eq_true_eq,List.all_eq_true]at hok;obtain⟨_,_,_,h12,_,hall⟩:=hok;refine⟨by omega,fun y hy=>?_⟩;have:=hall y hy;simp only[Hb,Bool.and_eq_true,decide_eq_true_eq]at this;omega
 .have:=List.all_eq_true.1 hw x hx;simp only[CP,Bool.and_eq_true,decide_eq_true_eq]at this;obtain⟨_,_,_,hn,hl,_⟩:=this;cases hxn:p.nodes[x.node.toNat]? with
  |none=>rw[hxn]at hn;cases hn
  |some y=>
   obtain⟨v,_,hv,v0,v1,_⟩:=hF.node _ y hxn;rw[hv]at hl;simp only[Option.getD_some]at hl;omega
end Go.Proofs
namespace Go.Proofs
open Go Go.Abs
def Fh(p:AJ)(l:List Ah):Nat×Nat:=l.foldl (fun a g=>match p.def? g.def_ with|some d=>(a.1+d.chans.length,a.2+d.spots.length)|none=>a) (0,1)
structure MI(p:AJ)(sz:List Int)(s:A8)(i:Nat)(g:Ah)(d:CH):Prop where
 def_:p.def? g.def_=some d
 at_:Ei s.spots g.at_
 len:(g.env.length:Int)=((Bx p sz)[g.def_.toNat]?).getD 0
 vals:g.env.all (Cc.inB p s.chans.length s.spots.length)=true
 mine:Dz d (Fh p (s.groups.take i)).1 (Fh p (s.groups.take i)).2 g=true
 chans: ∀(j:Nat) ch,d.chans[j]? =some ch→ ∃q,s.chans[(Fh p (s.groups.take i)).1+j]? =some q∧q.group=i∧q.index=j∧q.at_=g.place d ch.at_
structure QOk(p:AJ)(s:A8)(q:Fa):Prop where
 len:q.queue.length≤12
 dead:q.queue.length=0∨AY s.spots q.at_=false
 msgs: ∀m∈q.queue,Hb p s.chans.length s.spots.length (Dd p s q) m=true
structure Fm(p:AJ)(sz:List Int)(s:A8):Prop where
 small:s.small=true
 tree:Fo s.spots
 dead: ∀(i:Nat) x,1≤i→s.spots[i]? =some x→x.dead=true∨AY s.spots x.in_=false
 grp: ∀(i:Nat) g,s.groups[i]? =some g→ ∃d,MI p sz s i g d
 tot:Fh p s.groups=(s.chans.length,s.spots.length)
 que: ∀(c:Nat) q,s.chans[c]? =some q→QOk p s q
 wait: ∀w∈s.waits,CP p sz s w=true
theorem Qh{l m:List BC}:IL l m=true↔ ∀x∈m,x.dead=true∨AY l x.in_=false:=by
 induction m with
 |nil=>simp[IL]
 |cons x m ih=>
  rw[IL,Bool.and_eq_true,ih];simp only[Bool.or_eq_true,Bool.not_eq_true',List.mem_cons,forall_eq_or_imp]
theorem Tv(p:AJ)(l:List Ah)(g:Ah){d:CH}(h:p.def? g.def_=some d):Fh p (l++[g])=((Fh p l).1+d.chans.length,(Fh p l).2+d.spots.length):=by
 unfold Fh;rw[List.foldl_append];simp only[List.foldl_cons,List.foldl_nil,h]
theorem Tw{p:AJ}{l:List Ah}{i:Nat}{g:Ah}{d:CH}(hg:l[i]? =some g)(h:p.def? g.def_=some d):Fh p (l.take (i+1))=((Fh p (l.take i)).1+d.chans.length,(Fh p (l.take i)).2+d.spots.length):=by
 rw[List.take_add_one,hg];exact Tv p _ g h
theorem Ma{p:AJ}{s:A8}{d:CH}{g:Ah}{i c:Nat}: ∀{l:List HP} {j:Nat},Fw p s d g i c j l=true↔ ∀(t:Nat) ch,l[t]? =some ch→MJ p s d g i (j+t) (c+(j+t)) ch=true
 |[],j=>by simp[Fw]
 |x::l,j=>by
  rw[Fw,Bool.and_eq_true,Ma (j:=j+1)];constructor
  .rintro⟨h1,h2⟩ t ch ht;cases t with
   |zero=>
    simp only[List.getElem?_cons_zero,Option.some.injEq]at ht;subst ht;exact h1
   |succ t=>
    rw[List.getElem?_cons_succ]at ht;have:=h2 t ch ht
    rwa [show j+1+t=j+(t+1) by omega]at this
  .intro h;refine⟨h 0 x rfl,fun t ch ht=>?_⟩;have:=h (t+1) ch (by rw[List.getElem?_cons_succ];exact ht)
   rwa [show j+(t+1)=j+1+t by omega]at this
theorem Q8{p:AJ}{sz:List Int}{s:A8}: ∀{l:List Ah} {i:Nat},s.groups.drop i=l→i≤s.groups.length→
 (E0 p (Bx p sz) s i (Fh p (s.groups.take i)).1 (Fh p (s.groups.take i)).2 l=true↔Fh p s.groups=(s.chans.length,s.spots.length)∧ ∀(k:Nat) g,i≤k→s.groups[k]? =some g→ ∃d,p.def? g.def_=some d∧KZ p (Bx p sz) s k (Fh p (s.groups.take k)).1 (Fh p (s.groups.take k)).2 g d=true)
 |[],i,hd,hi=>by
  have hil:s.groups.length≤i:=by
   have:=congrArg List.length hd;simp at this;omega
  rw[E0,Bool.and_eq_true,decide_eq_true_eq,decide_eq_true_eq,List.take_of_length_le hil];constructor
  .rintro⟨h1,h2⟩;exact⟨by rw[←h1,←h2],fun k g hk hg=>by have:=AI hg;omega⟩
  .rintro⟨h,_⟩;rw[h];exact⟨rfl,rfl⟩
 |g::l,i,hd,hi=>by
  have hg:s.groups[i]? =some g:=by
   have:=congrArg (fun l=>l[0]?) hd;simpa using this
  have hil:=AI hg;have hd2:s.groups.drop (i+1)=l:=by
   rw[Ae hg]at hd;exact(List.cons.inj hd).2
  rw[E0];cases hdf:p.def? g.def_ with
  |none=>
   simp only[Bool.false_eq_true,false_iff];rintro⟨_,h⟩;obtain⟨d,h1,_⟩:=h i g (Nat.le_refl _) hg;rw[hdf]at h1;cases h1
  |some d=>
   have ih:=Q8 (p:=p) (sz:=sz) (s:=s) hd2 hil;rw[Tw hg hdf]at ih;simp only[Bool.and_eq_true,ih];constructor
   .rintro⟨h1,h2,h3⟩;refine⟨h2,fun k g2 hk hg2=>?_⟩;by_cases hki:k=i
    .subst hki;rw[hg]at hg2;cases hg2;exact⟨d,hdf,h1⟩
    .exact h3 k g2 (by omega) hg2
   .rintro⟨h1,h2⟩;obtain⟨d2,h3,h4⟩:=h2 i g (Nat.le_refl _) hg;rw[hdf]at h3;cases h3;exact⟨h4,h1,fun k g2 hk hg2=>h2 k g2 (by omega) hg2⟩
theorem Lz{p:AJ}{s:A8}{i j:Nat}{g:Ah}{d:CH}{ch:HP}{q:Fa}(hg:s.groups[i]? =some g)(hd:p.def? g.def_=some d)(hc:d.chans[j]? =some ch)(h1:q.group=i)(h2:q.index=j):Dd p s q=ch.many:=by
 have hd2:p.defs[g.def_.toNat]? =some d:=by
  rw[AJ.def?]at hd;split at hd
  .exact hd
  .cases hd
 simp[Dd,h1,h2,hg,hd2,hc]
theorem Gu{p:AJ}{n:Int}{d:CH}(h:p.def? n=some d):0≤n∧p.defs[n.toNat]? =some d:=by
 rw[AJ.def?]at h;split at h
 .exact⟨by assumption,h⟩
 .cases h
theorem ec{p:AJ}{sz:List Int}{s:A8}(hg: ∀(i:Nat) g,s.groups[i]? =some g→ ∃d,MI p sz s i g d): ∀(n:Nat),n≤s.groups.length→ ∀c,c<(Fh p (s.groups.take n)).1→ ∃i g d j ch,i<n∧s.groups[i]? =some g∧MI p sz s i g d∧d.chans[j]? =some ch∧c=(Fh p (s.groups.take i)).1+j
 |0,_,c,h=>by simp[Fh]at h
 |n+1,hn,c,h=>by
  obtain⟨g,hgn⟩:=get_some (l:=s.groups) (i:=n) (by omega);obtain⟨d,hd⟩:=hg n g hgn;rw[Tw hgn hd.def_]at h;by_cases hc:c<(Fh p (s.groups.take n)).1
  .obtain⟨i,g,d,j,ch,h1,h2⟩:=ec hg n (by omega) c hc;exact⟨i,g,d,j,ch,by omega,h2⟩
  .obtain⟨ch,hch⟩:=get_some (l:=d.chans) (i:=c-(Fh p (s.groups.take n)).1) (by dsimp only at h;omega);exact⟨n,g,d,_,ch,by omega,hgn,hd,hch,by omega⟩
structure zP(p:AJ)(sz:List Int)(s:A8)(c:Nat)(q:Fa)(i j:Nat)(g:Ah)(d:CH)(ch:HP):Prop where
 grp:s.groups[i]? =some g
 st:MI p sz s i g d
 cha:d.chans[j]? =some ch
 at_:c=(Fh p (s.groups.take i)).1+j
 group:q.group=i
 index:q.index=j
 place:q.at_=g.place d ch.at_
theorem Fm.chn{p:AJ}{sz:List Int}{s:A8}(hg: ∀(i:Nat) g,s.groups[i]? =some g→ ∃d,MI p sz s i g d)(ht:Fh p s.groups=(s.chans.length,s.spots.length)){c:Nat}{q:Fa}(hq:s.chans[c]? =some q): ∃i j g d ch,zP p sz s c q i j g d ch:=by
 obtain⟨i,g,d,j,ch,h1,h2,h3,h4,h5⟩:=ec hg s.groups.length (Nat.le_refl _) c (by rw[List.take_length,ht];exact AI hq);obtain⟨q2,h6,h7,h8,h9⟩:=h3.chans j ch h4;rw[←h5,hq]at h6;cases h6;exact⟨i,j,g,d,ch,h2,h3,h4,h5,h7,h8,h9⟩
theorem ABZ{p:AJ}{sz:List Int}{s:A8}(h:Du p sz s=true):Fm p sz s:=by
 simp only[Du,Bool.and_eq_true]at h;obtain⟨h1,h2,h3,h4,h5⟩:=h;have h4:=(Q8 (p:=p) (sz:=sz) (s:=s) (l:=s.groups) (i:=0) rfl (by omega)).1 h4;have key: ∀(i:Nat) g,s.groups[i]? =some g→ ∃d,MI p sz s i g d∧ ∀(j:Nat) ch,d.chans[j]? =some ch→ ∃q,s.chans[(Fh p (s.groups.take i)).1+j]? =some q∧PF p s d g i j q ch=true:=by
  intro i g hi;obtain⟨d,hd,hok⟩:=h4.2 i g (by omega) hi;simp only[KZ,Bool.and_eq_true,decide_eq_true_eq]at hok;obtain⟨g1,g2,g3,g4,g5⟩:=hok;have g5:=Ma.1 g5;have key: ∀(j:Nat) ch,d.chans[j]? =some ch→ ∃q,s.chans[(Fh p (s.groups.take i)).1+j]? =some q∧PF p s d g i j q ch=true:=by
   intro j ch hj;have:=g5 j ch hj;rw[Nat.zero_add,MJ]at this;split at this
   .rename_i q hq;exact⟨q,hq,this⟩
   .cases this
  refine⟨d,⟨hd,g1,g2,g3,g4,fun j ch hj=>?_⟩,key⟩;obtain⟨q,hq,hok⟩:=key j ch hj;simp only[PF,Bool.and_eq_true,decide_eq_true_eq]at hok;exact⟨q,hq,hok.1,hok.2.1,hok.2.2.1⟩
 have hgrp: ∀(i:Nat) g,s.groups[i]? =some g→ ∃d,MI p sz s i g d:=fun i g hi=>by
  obtain⟨d,hd,_⟩:=key i g hi;exact⟨d,hd⟩
 refine⟨h1,ZR h2,fun i x hi hx=>Qh.1 h3 x ?_,hgrp,h4.1,fun c q hq=>?_,List.all_eq_true.1 h5⟩
 .rw[List.mem_iff_getElem?];exact⟨i-1,by rw[List.getElem?_drop,show 1+(i-1)=i by omega];exact hx⟩
 .obtain⟨i,j,g,d,ch,hc⟩:=Fm.chn hgrp h4.1 hq;obtain⟨d2,hd2,hk⟩:=key i g hc.grp;have:=hd2.def_;rw[hc.st.def_]at this;cases this;obtain⟨q2,hq2,hok⟩:=hk j ch hc.cha;rw[←hc.at_,hq]at hq2;cases hq2;simp only[PF,Bool.and_eq_true,decide_eq_true_eq,Bool.or_eq_true,Bool.not_eq_true',List.all_eq_true]at hok;exact⟨hok.2.2.2.1,hok.2.2.2.2.1,fun m hm=>by rw[Lz hc.grp hc.st.def_ hc.cha hc.group hc.index];exact hok.2.2.2.2.2 m hm⟩
theorem ABa{p:AJ}{sz:List Int}{s:A8}(h:Fm p sz s):Du p sz s=true:=by
 simp only[Du,Bool.and_eq_true];refine⟨h.small,tz h.tree,Qh.2 fun x hx=>?_,(Q8 (p:=p) (sz:=sz) (s:=s) (l:=s.groups) (i:=0) rfl (by omega)).2 ⟨h.tot,fun i g hi hg=>?_⟩,List.all_eq_true.2 h.wait⟩
 .obtain⟨i,hi⟩:=List.getElem?_of_mem hx;rw[List.getElem?_drop]at hi;exact h.dead _ x (by omega) hi
 .obtain⟨d,hd⟩:=h.grp i g hg;refine⟨d,hd.def_,?_⟩;simp only[KZ,Bool.and_eq_true,decide_eq_true_eq];refine⟨hd.at_,hd.len,hd.vals,hd.mine,Ma.2 fun j ch hj=>?_⟩;obtain⟨q,hq,q1,q2,q3⟩:=hd.chans j ch hj;have hqo:=h.que _ q hq;rw[Nat.zero_add,MJ,hq];simp only[PF,Bool.and_eq_true,decide_eq_true_eq,Bool.or_eq_true,Bool.not_eq_true',List.all_eq_true];exact⟨q1,q2,q3,hqo.len,hqo.dead,fun m hm=>by rw[←Lz hg hd.def_ hj q1 q2];exact hqo.msgs m hm⟩
end Go.Proofs
namespace Go.Proofs
open Go Go.Abs
structure Vv(s s':A8):Prop where
 sp: ∀(i:Nat) x,s.spots[i]? =some x→s'.spots[i]? =some x
 gr: ∀(i:Nat) g,s.groups[i]? =some g→s'.groups[i]? =some g
 ch: ∀(c:Nat) q,s.chans[c]? =some q→ ∃l,s'.chans[c]? =some {q with queue:=q.queue++l}
theorem G7(s:A8):Vv s s:=⟨fun _ _ h=>h,fun _ _ h=>h,fun c q h=>⟨[],by simpa using h⟩⟩
theorem iJ{a b c:A8}(h1:Vv a b)(h2:Vv b c):Vv a c:=by
 refine⟨fun i x h=>h2.sp i x (h1.sp i x h),fun i x h=>h2.gr i x (h1.gr i x h),fun i q h=>?_⟩;obtain⟨l,h3⟩:=h1.ch i q h;obtain⟨l2,h4⟩:=h2.ch i _ h3;exact⟨l++l2,by rw[h4];simp⟩
theorem Th{α β:Type}{a:List α}{b:List β}(h: ∀(i:Nat) x,a[i]? =some x→ ∃y,b[i]? =some y):a.length≤b.length:=by
 by_cases h0:a.length=0
 .omega
 .obtain⟨x,hx⟩:=get_some (l:=a) (i:=a.length-1) (by omega);obtain⟨y,hy⟩:=h _ x hx;have:=AI hy;omega
theorem Vv.ns{s s':A8}(h:Vv s s'):s.spots.length≤s'.spots.length:=Th fun i x hx=>⟨_,h.sp i x hx⟩
theorem Vv.nc{s s':A8}(h:Vv s s'):s.chans.length≤s'.chans.length:=Th fun i x hx=>by obtain⟨l,hl⟩:=h.ch i x hx;exact⟨_,hl⟩
theorem rF{p:AJ}{nc ns nc' ns':Nat}{v:Cc}(h1:nc≤nc')(h2:ns≤ns')(h:v.inB p nc ns=true):v.inB p nc' ns'=true:=by
 unfold Cc.inB at*;split
 .rename_i hk;simpa[hk]using h
 .rename_i hk1;rw[if_neg hk1]at h;split
  .rename_i hk;simpa[hk]using h
  .rename_i hk2;rw[if_neg hk2]at h;split
   .rename_i hk;rw[if_pos hk]at h;simp only[Bool.and_eq_true,decide_eq_true_eq]at*;omega
   .rename_i hk3;rw[if_neg hk3]at h;split
    .rename_i hk;rw[if_pos hk]at h;simp only[Bool.and_eq_true,decide_eq_true_eq]at*;omega
    .rename_i hk4;rw[if_neg hk4]at h;exact h
theorem Fq{p:AJ}{nc ns nc' ns':Nat}{l:List Cc}(h1:nc≤nc')(h2:ns≤ns')(h:l.all (Cc.inB p nc ns)=true):l.all (Cc.inB p nc' ns')=true:=by
 rw[List.all_eq_true]at*;exact fun v hv=>rF h1 h2 (h v hv)
theorem G9{l l':List BC}{i:Int}(h:l.length≤l'.length)(hi:Ei l i):Ei l' i:=⟨hi.1,by have:=hi.2;omega⟩
theorem Jh{s s':A8}(h:Vv s s'){i:Int}(hi:Ei s.spots i):AY s'.spots i=AY s.spots i:=by
 obtain⟨x,hx⟩:=get_some (l:=s.spots) (i:=i.toNat) (by have:=hi.1;have:=hi.2;omega);rw[AY,AY,h.sp _ _ hx,hx]
theorem nm{p:AJ}{nc ns:Nat}{env:List Cc}(he:env.all (Cc.inB p nc ns)=true)(x:B4)(hf:x.formed env.length=true):(x.value env).inB p nc ns=true:=by
 obtain⟨op,n,kids⟩:=x;by_cases h1:op=1
 .subst h1;rw[UU];rcases kids with _|⟨a,_|⟨b,_|⟨c,l⟩⟩⟩<;>simp[B4.formed]at hf;simp[Cc.inB,hf]
 by_cases h2:op=2
 .subst h2;rw[SC];obtain⟨hn,hl⟩:=PO hf;obtain⟨v,hv⟩:=get_some (l:=env) (i:=n.toNat) (by omega);rw[hv];exact List.all_eq_true.1 he v (List.mem_of_getElem? hv)
 obtain⟨h3,h4,h5,a,b,rfl,hfa,hfb⟩:=Q0 hf h1 h2;rw[UR env op n a b h1 h2];generalize opV op (bu (a.value env)) (bu (b.value env))=k;have: -1000000000≤OT k∧OT k≤1000000000:=by unfold OT;omega
 simp[Cc.inB,this]
theorem dt{p:AJ}{sz:List Int}{s:A8}(h:Fm p sz s){l:List Fa}(hl:l.length=s.chans.length)(hq: ∀(c:Nat) q,s.chans[c]? =some q→ ∃m,l[c]? =some {q with queue:=m}∧QOk p s {q with queue:=m}):Fm p sz {s with chans:=l}:=by
 have hsm:=h.small;simp only[A8.small,Bool.and_eq_true,decide_eq_true_eq]at hsm;refine⟨by simp only[A8.small,Bool.and_eq_true,decide_eq_true_eq];omega,h.tree,h.dead,fun i g hg=>?_,by rw[hl];exact h.tot,fun c q hc=>?_,fun w hw=>?_⟩
 .obtain⟨d,hd⟩:=h.grp i g hg;refine⟨d,hd.def_,hd.at_,hd.len,by rw[hl];exact hd.vals,hd.mine,fun j ch hj=>?_⟩;obtain⟨q,h1,h2⟩:=hd.chans j ch hj;obtain⟨m,h3,_⟩:=hq _ q h1;exact⟨_,h3,h2⟩
 .obtain⟨q0,h0⟩:=get_some (l:=s.chans) (i:=c) (by rw[←hl];exact AI hc);obtain⟨m,h3,h4⟩:=hq c q0 h0;rw[h3]at hc;cases hc;exact⟨h4.len,h4.dead,fun m hm=>by rw[hl];exact h4.msgs m hm⟩
 .have:=h.wait w hw;simpa only[CP,hl]using this
theorem UK{p:AJ}{sz:List Int}{s:A8}(h:Fm p sz s){c:Nat}{q:Fa}(hq:s.chans[c]? =some q){l:List (List Cc)}(hl:QOk p s {q with queue:=l}):Fm p sz {s with chans:=s.chans.set c {q with queue:=l}}:=by
 refine dt h (by simp) fun c2 q2 h2=>?_;rw[List.getElem?_set];by_cases e:c=c2
 .subst e;rw[hq]at h2;cases h2;rw[if_pos rfl,if_pos (AI hq)];exact⟨l,rfl,hl⟩
 .rw[if_neg e];exact⟨q2.queue,h2,h.que c2 q2 h2⟩
theorem iH{s:A8}{c:Nat}{q:Fa}(hq:s.chans[c]? =some q)(l:List (List Cc)):Vv s {s with chans:=s.chans.set c {q with queue:=q.queue++l}}:=by
 refine⟨fun _ _ h=>h,fun _ _ h=>h,fun c2 q2 h2=>?_⟩;dsimp only;rw[List.getElem?_set];by_cases e:c=c2
 .subst e;rw[hq]at h2;cases h2;rw[if_pos rfl,if_pos (AI hq)];exact⟨l,rfl⟩
 .rw[if_neg e];exact⟨[],by simpa using h2⟩
theorem O4{p:AJ}{sz:List Int}{s:A8}(h:Fm p sz s){l:List E7}(hl:l.length≤40)(hw: ∀w∈l,CP p sz s w=true):Fm p sz {s with waits:=l}:=by
 have hsm:=h.small;simp only[A8.small,Bool.and_eq_true,decide_eq_true_eq]at hsm;exact⟨by simp only[A8.small,Bool.and_eq_true,decide_eq_true_eq];omega,h.tree,h.dead,fun i g hg=>by obtain⟨d,hd⟩:=h.grp i g hg;exact⟨d,hd.def_,hd.at_,hd.len,hd.vals,hd.mine,hd.chans⟩,h.tot,fun c q hc=>by have:=h.que c q hc;exact⟨this.len,this.dead,this.msgs⟩,hw⟩
structure CZ(p:AJ)(sz:List Int)(s:A8)(j:Gl):Prop where
 n0:0≤j.node
 size:sz[j.node.toNat]? =some (j.env.length:Int)
 at_:Ei s.spots j.at_
 live:AY s.spots j.at_=false
 vals:j.env.all (Cc.inB p s.chans.length s.spots.length)=true
theorem P1{p:AJ}{sz:List Int}{s s':A8}{j:Gl}(h:CZ p sz s j)(he:Vv s s'):CZ p sz s' j:=⟨h.n0,h.size,G9 he.ns h.at_,by rw[Jh he h.at_];exact h.live,Fq he.nc he.ns h.vals⟩
theorem K3{p:AJ}{sz:List Int}{s:A8}{j:Gl}(hF:BO p sz)(h:CZ p sz s j): ∃x l,p.nodes[j.node.toNat]? =some x∧EC p j.env.length x=true∧Iq p j.env.length x=some l∧(∀q∈l,0≤q.1∧sz[q.1.toNat]? =some q.2)∧j.env.length≤5000:=by
 have hl:=AI h.size;rw[hF.len]at hl;obtain⟨x,hx⟩:=get_some hl;obtain⟨s0,l,h1,h2,h3,h4,h5,h6⟩:=hF.node _ x hx;rw[h.size]at h1;cases h1;exact⟨x,l,hx,h4,h5,h6,by omega⟩
theorem Oe{p:AJ}{sz:List Int}{s:A8}{j:Gl}{x:Cd}{l:List (Int×Int)}(h:CZ p sz s j)(ho: ¬x.op=4)(hl:Iq p j.env.length x=some l)(hq: ∀q∈l,0≤q.1∧sz[q.1.toNat]? =some q.2)(k:Nat): ∀j'∈BR x k j.at_ j.env,CZ p sz s j':=by
 intro j' hj';rw[BR]at hj';split at hj'
 .rename_i n hn;rw[Iq,if_neg ho]at hl;cases hl;have:=hq (n,j.env.length) (by simp only[DG,List.mem_map];exact⟨n,List.mem_of_getElem? hn,rfl⟩);rw[List.mem_singleton]at hj';subst hj';exact⟨this.1,this.2,h.at_,h.live,h.vals⟩
 .cases hj'
end Go.Proofs
namespace Go.Proofs
open Go Go.Abs
theorem fO{l m:List BC}{i:Int}(hi:Ei l i):A9 (l++m) i=A9 l i:=by
 have:=hi.1;have:=hi.2;rw[A9,A9,List.getElem?_append_left (by omega)]
theorem OU{l m:List BC}: ∀{k:Nat} {i:Int},Ei l i→BD l k i=true→BD (l++m) k i=true
 |0,i,hi,h=>h
 |k+1,i,hi,h=>by
  rw[BD]at h⊢;by_cases h0:i=0
  .simp[h0]
  .simp only[h0,decide_false,Bool.false_or,Bool.and_eq_true,decide_eq_true_eq]at h⊢;rw[fO hi];exact⟨G9 (by simp) h.1,OU h.1 h.2⟩
theorem KS: ∀{l:List MH} {i:Nat},FL i l=true→ ∀(t:Nat) y,l[t]? =some y→0≤y.in_∧y.in_≤((i+t:Nat):Int)
 |x::l,i,h,t,y,ht=>by
  rw[FL,Bool.and_eq_true,Bool.and_eq_true,decide_eq_true_eq,decide_eq_true_eq]at h;cases t with
  |zero=>
   simp only[List.getElem?_cons_zero,Option.some.injEq]at ht;subst ht;exact⟨h.1,by simpa using h.2.1⟩
  |succ t=>
   rw[List.getElem?_cons_succ]at ht;have:=KS h.2.2 t y ht
   rwa [show i+1+t=i+(t+1) by omega]at this
theorem GH(d:CH)(g:Ah)(i:Nat): ∀(l:List HP) (k:Nat),(Ed d g i k l).length=l.length
 |[],k=>rfl
 |c::l,k=>by simp[Ed,GH d g i l (k+1)]
theorem JJ(d:CH)(g:Ah)(i:Nat): ∀(l:List HP) (k t:Nat),(Ed d g i k l)[t]? =(l[t]?).map fun c=>(⟨(i:Int),((k+t:Nat):Int),g.place d c.at_,[]⟩:Fa)
 |[],k,t=>by simp[Ed]
 |c::l,k,0=>by simp[Ed]
 |c::l,k,t+1=>by
  rw[Ed,List.getElem?_cons_succ,List.getElem?_cons_succ,JJ d g i l (k+1) t];congr 1;funext c;rw[show k+1+t=k+(t+1) by omega]
theorem N9{d:CH}{g:Ah}: ∀{l:List MH} {k:Nat} {j:Gl},j∈DE d g k l→ ∃(t:Nat) (y:MH),l[t]? =some y∧j=⟨y.node,g.place d ((k+t:Nat)+1),g.env⟩
 |[],k,j,h=>by cases h
 |y::l,k,j,h=>by
  rw[DE]at h;rcases List.mem_cons.1 h with rfl|h
  .exact⟨0,y,rfl,rfl⟩
  .obtain⟨t,y,h1,h2⟩:=N9 h;exact⟨t+1,y,by rw[List.getElem?_cons_succ];exact h1,by rw[h2,show k+1+t=k+(t+1) by omega]⟩
structure E6(p:AJ)(sz:List Int)(s:A8)(j:Gl)(x:Cd)(d:CH):Prop where
 sok:Fm p sz s
 job:CZ p sz s j
 node:p.nodes[j.node.toNat]? =some x
 op:x.op=4
 n0:0≤x.n
 def_:p.defs[x.n.toNat]? =some d
 ok:QC d
 grp:((Bx p sz)[x.n.toNat]?)=some ((j.env.length:Int)+d.own)
 rules: ∀r∈d.rules,0≤r.node∧sz[r.node.toNat]? =some ((j.env.length:Int)+d.own+DF d r.joins)
 spots: ∀y∈d.spots,0≤y.node∧sz[y.node.toNat]? =some ((j.env.length:Int)+d.own)
 kid: ∃k,x.kids=[k]∧0≤k∧sz[k.toNat]? =some ((j.env.length:Int)+d.own)
theorem pe{p:AJ}{sz:List Int}{s:A8}{j:Gl}{x:Cd}(hF:BO p sz)(hs:Fm p sz s)(hj:CZ p sz s j)(hx:p.nodes[j.node.toNat]? =some x)(ho:x.op=4): ∃d,E6 p sz s j x d:=by
 obtain⟨n1,n2,_⟩:=Qi hF hx ho;obtain⟨d,hd⟩:=get_some (l:=p.defs) (i:=x.n.toNat) (by omega);have hdf:=CA hF hd;obtain⟨i,x2,s0,h1,h2,h3,h4,h5,h6,h7,h8,h9,k,h10,h11,h12⟩:=hdf.node;have hij:i=j.node.toNat:=by
  by_cases e:i=j.node.toNat
  .exact e
  .exact absurd h3 (hF.diff i j.node.toNat x2 x e h1 h2 hx ho)
 subst hij;rw[hx]at h1;cases h1;rw[hj.size]at h4;cases h4;exact⟨d,hs,hj,hx,ho,n1,hd,hdf.ok,h7,h8,h9,k,h10,h11,h12⟩
theorem Lo{p:AJ}{sz:List Int}{s:A8}{i:Nat}{g:Ah}{d:CH}(h:MI p sz s i g d):d.own≤g.env.length:=by
 have hm:=h.mine;rw[Dz,decide_eq_true_eq]at hm;have:=congrArg List.length hm;rw[Mr,List.length_drop]at this;omega
theorem ed{p:AJ}{sz:List Int}{s:A8}{c:Nat}{q:Fa}{i j:Nat}{g:Ah}{d:CH}{ch:HP}(hF:BO p sz)(hc:zP p sz s c q i j g d ch):Ei s.spots q.at_:=by
 rw[hc.place];have hdf:=CA hF (Gu hc.st.def_).2;obtain⟨c1,c2,_⟩:=hdf.ok.chan ch (List.mem_of_getElem? hc.cha);exact Rk hc.st.mine (Lo hc.st) hc.st.at_ hc.st.vals c1 c2
theorem Wu{p:AJ}{sz:List Int}{s:A8}(hF:BO p sz)(h:Fm p sz s){c:Nat}{q:Fa}(hq:s.chans[c]? =some q):eN p s q:=by
 obtain⟨i,j,g,d,ch,hc⟩:=Fm.chn h.grp h.tot hq;obtain⟨d0,d1⟩:=Gu hc.st.def_;refine⟨ed hF hc,by rw[hc.group];omega,by rw[hc.index];omega,⟨g,d,ch,by rw[hc.group];exact hc.grp,d0,d1,by rw[hc.index];exact hc.cha⟩,(h.que c q hq).len⟩
section
variable{p:AJ}{sz:List Int}{s:A8}{j:Gl}{x:Cd}{d:CH}
theorem E6.env(h:E6 p sz s j x d):(Ad s d x.n j).env.length=j.env.length+d.own:=by simp[Ad,Mr]
theorem E6.mine(h:E6 p sz s j x d):Dz d s.chans.length s.spots.length (Ad s d x.n j)=true:=by
 have e:j.env.length+d.own-d.chans.length-d.spots.length=j.env.length:=by unfold CH.own;omega
 rw[Dz,decide_eq_true_eq,h.env,e,Ad,List.drop_left]
theorem E6.place(h:E6 p sz s j x d){n:Int}(h1:1≤n)(h2:n≤d.spots.length):(Ad s d x.n j).place d n=(s.spots.length:Int)+(n-1):=Rl h.mine (by rw[h.env];omega) h1 h2
theorem Rm(g:Ah)(d:CH):g.place d 0=g.at_:=by simp[Ah.place]
theorem En(d:CH)(g:Ah)(l:List MH):(Cx d g l).length=l.length:=by simp[Cx]
theorem E6.spot(h:E6 p sz s j x d){n:Int}(h1:0≤n)(h2:n≤d.spots.length):Ei (s.spots++Cx d (Ad s d x.n j) d.spots) ((Ad s d x.n j).place d n)∧AY (s.spots++Cx d (Ad s d x.n j) d.spots) ((Ad s d x.n j).place d n)=false:=by
 by_cases h0:n=0
 .subst h0;rw[Rm];have:=h.job.at_;refine⟨G9 (by simp) this,?_⟩;have hl:=h.job.live;have e:(Ad s d x.n j).at_=j.at_:=rfl;rw[e];rw[AY]at hl⊢;have a1:=this.1;have a2:=this.2;rw[List.getElem?_append_left (by omega)];exact hl
 .rw[h.place (by omega) h2];refine⟨⟨by omega,by simp[En];omega⟩,?_⟩;rw[AY,List.getElem?_append_right (by omega),Cx,List.getElem?_map];cases d.spots[((s.spots.length:Int)+(n-1)).toNat-s.spots.length]? <;>rfl
theorem E6.vals(h:E6 p sz s j x d):(Ad s d x.n j).env.all (Cc.inB p (s.chans.length+d.chans.length) (s.spots.length+d.spots.length))=true:=by
 rw[Ad,List.all_append,Bool.and_eq_true];refine⟨Fq (by omega) (by omega) h.job.vals,?_⟩;rw[E2,List.all_append,Bool.and_eq_true];constructor
 .rw[List.all_eq_true];intro v hv;obtain⟨i,hi,rfl⟩:=List.mem_map.1 hv;have:=List.mem_range'_1.1 hi;simp only[Cc.inB,Int.reduceEq,if_true,if_false,Bool.and_eq_true,decide_eq_true_eq];omega
 .rw[List.all_eq_true];intro v hv;obtain⟨i,hi,rfl⟩:=List.mem_map.1 hv;have:=List.mem_range'_1.1 hi;simp only[Cc.inB,Int.reduceEq,if_true,if_false,Bool.and_eq_true,decide_eq_true_eq];omega
theorem E6.tree(h:E6 p sz s j x d):Fo (s.spots++Cx d (Ad s d x.n j) d.spots):=by
 have hT:=h.sok.tree;refine⟨by simp;have:=hT.pos;omega,by rw[fO ⟨by omega,by have:=hT.pos;omega⟩];exact hT.top,fun i hi=>?_⟩;have key: ∀(n t:Nat),t<n→t<d.spots.length→ ∃k,BD (s.spots++Cx d (Ad s d x.n j) d.spots) k ((s.spots.length:Int)+t)=true:=by
  intro n;induction n with
  |zero=>intro t ht;omega
  |succ n ih=>
   intro t ht htd;obtain⟨y,hy⟩:=get_some htd;obtain⟨y0,y1⟩:=KS h.ok.spot t y hy;have hpar:A9 (s.spots++Cx d (Ad s d x.n j) d.spots) ((s.spots.length:Int)+t)=(Ad s d x.n j).place d y.in_:=by
    rw[A9,List.getElem?_append_right (by omega),Cx,List.getElem?_map,show((s.spots.length:Int)+t).toNat-s.spots.length=t by omega,hy];rfl
   have hin:=(h.spot (n:=y.in_) y0 (by omega)).1;have: ∃k,BD (s.spots++Cx d (Ad s d x.n j) d.spots) k ((Ad s d x.n j).place d y.in_)=true:=by
    by_cases h0:y.in_=0
    .rw[h0,Rm];exact⟨_,OU h.job.at_ (hT.climbs _ h.job.at_)⟩
    .rw[h.place (by omega) (by omega)];have:=ih (y.in_-1).toNat (by omega) (by omega)
     rwa [show(((y.in_-1).toNat:Nat):Int)=y.in_-1 by omega]at this
   obtain⟨k,hk⟩:=this;refine⟨k+1,?_⟩;rw[BD,hpar,hk,decide_eq_true hin];simp
 by_cases hil:i<s.spots.length
 .have hi2:Ei s.spots i:=⟨hi.1,hil⟩;exact Kp (by simp) (OU hi2 (hT.climbs i hi2))
 .have hi1:=hi.1;have hi3:=hi.2;simp only[List.length_append,En]at hi3;obtain⟨k,hk⟩:=key d.spots.length (i-s.spots.length).toNat (by omega) (by omega);rw[show(s.spots.length:Int)+((i-s.spots.length).toNat:Nat)=i by omega]at hk;exact Kp (by omega) (PH hi hk)
theorem E6.ext(h:E6 p sz s j x d):Vv s (B5 s d (Ad s d x.n j)):=by
 refine⟨fun i y hy=>?_,fun i y hy=>?_,fun i y hy=>⟨[],?_⟩⟩
 .show(s.spots++_)[i]? =_;rw[List.getElem?_append_left (AI hy)];exact hy
 .show(s.groups++_)[i]? =_;rw[List.getElem?_append_left (AI hy)];exact hy
 .show(s.chans++_)[i]? =_;rw[List.getElem?_append_left (AI hy)];simpa using hy
theorem sH{s s':A8}(he:Vv s s'){q:Fa}{i j:Nat}{g:Ah}{d:CH}{ch:HP}(hg:s.groups[i]? =some g)(hd:p.def? g.def_=some d)(hc:d.chans[j]? =some ch)(h1:q.group=i)(h2:q.index=j):Dd p s' q=Dd p s q:=by
 rw[Lz hg hd hc h1 h2,Lz (he.gr i g hg) hd hc h1 h2]
theorem sv{l:List BC}(h:Fo l){i:Nat}(h1:1≤i){y:BC}(hy:l[i]? =some y):Ei l y.in_:=by
 have hil:=AI hy;have hc:=h.climbs i ⟨by omega,by omega⟩;obtain⟨k,hk⟩: ∃k,l.length=k+1:=⟨l.length-1,by omega⟩;rw[hk]at hc;have:=(Gb (by omega) hc).1
 rwa [A9,show((i:Nat):Int).toNat=i from rfl,hy]at this
theorem sX{nc ns nc' ns':Nat}{n:Int}{m:List Cc}(h1:nc≤nc')(h2:ns≤ns')(h:Hb p nc ns n m=true):Hb p nc' ns' n m=true:=by
 rw[Hb,Bool.and_eq_true]at*;exact⟨h.1,Fq h1 h2 h.2⟩
theorem uV{s s':A8}(he:Vv s s'){w:E7}(h:CP p sz s w=true):CP p sz s' w=true:=by
 simp only[CP,Bool.and_eq_true,decide_eq_true_eq,Bool.not_eq_true']at*;obtain⟨h1,h2,h3,h4,h5,h6⟩:=h;exact⟨G9 he.ns h1,by rw[Jh he h1];exact h2,h3,h4,h5,Fq he.nc he.ns h6⟩
theorem E6.sok'(hF:BO p sz)(h:E6 p sz s j x d)(hs:(B5 s d (Ad s d x.n j)).chans.length≤60∧(B5 s d (Ad s d x.n j)).spots.length≤24∧(B5 s d (Ad s d x.n j)).groups.length≤40):Fm p sz (B5 s d (Ad s d x.n j)):=by
 have he:=h.ext;have hsm:=h.sok.small;simp only[A8.small,Bool.and_eq_true,decide_eq_true_eq]at hsm;have hdx:p.def? x.n=some d:=by rw[AJ.def?,if_pos h.n0];exact h.def_
 have hcl:(B5 s d (Ad s d x.n j)).chans.length=s.chans.length+d.chans.length:=by simp[B5,GH]
 have hsl:(B5 s d (Ad s d x.n j)).spots.length=s.spots.length+d.spots.length:=by simp[B5,En]
 have htk: ∀i,i≤s.groups.length→(B5 s d (Ad s d x.n j)).groups.take i=s.groups.take i:=fun i hi=>List.take_append_of_le_length hi;refine⟨?_,h.tree,fun i y hi hy=>?_,fun i g hg=>?_,?_,fun c q hq=>?_,fun w hw=>uV he (h.sok.wait w hw)⟩
 .simp only[A8.small,Bool.and_eq_true,decide_eq_true_eq];exact⟨hs.2.1,hs.2.2,hs.1,hsm.2.2.2⟩
 .by_cases hil:i<s.spots.length
  .have hy2:s.spots[i]? =some y:=by
    have:(s.spots++Cx d (Ad s d x.n j) d.spots)[i]? =some y:=hy
    rwa [List.getElem?_append_left hil]at this
   rw[Jh he (sv h.sok.tree hi hy2)];exact h.sok.dead i y hi hy2
  .right;have:(s.spots++Cx d (Ad s d x.n j) d.spots)[i]? =some y:=hy;rw[List.getElem?_append_right (by omega),Cx,List.getElem?_map]at this;cases hz:d.spots[i-s.spots.length]? with
   |none=>rw[hz]at this;cases this
   |some z=>
    rw[hz]at this;cases this;obtain⟨z0,z1⟩:=KS h.ok.spot _ z hz;have:=AI hz;exact(h.spot (n:=z.in_) z0 (by omega)).2
 .by_cases hil:i<s.groups.length
  .have hg2:s.groups[i]? =some g:=by
    have:(s.groups++[Ad s d x.n j])[i]? =some g:=hg
    rwa [List.getElem?_append_left hil]at this
   obtain⟨d2,hd2⟩:=h.sok.grp i g hg2;refine⟨d2,hd2.def_,G9 he.ns hd2.at_,hd2.len,Fq he.nc he.ns hd2.vals,by rw[htk i (by omega)];exact hd2.mine,fun k ch hk=>?_⟩;obtain⟨q,h1,h2,h3,h4⟩:=hd2.chans k ch hk;obtain⟨l,hl⟩:=he.ch _ q h1;rw[htk i (by omega)];exact⟨_,hl,h2,h3,h4⟩
  .have hg2:(s.groups++[Ad s d x.n j])[i]? =some g:=hg;have hlt:=AI hg2;rw[List.length_append,List.length_singleton]at hlt;obtain rfl:i=s.groups.length:=by omega
   rw[List.getElem?_append_right (by omega)]at hg2;simp only[Nat.sub_self,List.getElem?_cons_zero,Option.some.injEq]at hg2;subst hg2;have e1:(Fh p ((B5 s d (Ad s d x.n j)).groups.take s.groups.length))=(s.chans.length,s.spots.length):=by rw[htk _ (by omega),List.take_length,h.sok.tot]
   refine⟨d,hdx,G9 he.ns h.job.at_,?_,by rw[hcl,hsl];exact h.vals,by rw[e1];exact h.mine,fun k ch hk=>?_⟩
   .have:=h.grp;rw[show(Ad s d x.n j).def_=x.n from rfl,this,h.env];simp
   .rw[e1];refine⟨⟨s.groups.length,k,(Ad s d x.n j).place d ch.at_,[]⟩,?_,rfl,rfl,rfl⟩;show(s.chans++Ed d (Ad s d x.n j) s.groups.length 0 d.chans)[s.chans.length+k]? =_;rw[List.getElem?_append_right (by omega),JJ,show s.chans.length+k-s.chans.length=k by omega,hk];simp
 .show Fh p (s.groups++[Ad s d x.n j])=_;rw[Tv p _ _ (d:=d) hdx,h.sok.tot,hcl,hsl]
 .have hq2:(s.chans++Ed d (Ad s d x.n j) s.groups.length 0 d.chans)[c]? =some q:=hq;by_cases hil:c<s.chans.length
  .rw[List.getElem?_append_left hil]at hq2;have hqo:=h.sok.que c q hq2;obtain⟨i,k,g,d2,ch,hc⟩:=Fm.chn h.sok.grp h.sok.tot hq2;have hin:Ei s.spots q.at_:=ed hF hc;exact⟨hqo.len,by rw[Jh he hin];exact hqo.dead,fun m hm=>by rw[sH he hc.grp hc.st.def_ hc.cha hc.group hc.index];exact sX he.nc he.ns (hqo.msgs m hm)⟩
  .rw[List.getElem?_append_right (by omega),JJ]at hq2;cases hz:d.chans[c-s.chans.length]? with
   |none=>rw[hz]at hq2;cases hq2
   |some z=>
    rw[hz]at hq2;cases hq2;exact⟨by simp,.inl rfl,fun m hm=>by cases hm⟩
end
end Go.Proofs
namespace Go.Proofs
open Go Go.Abs
abbrev pA(p:AJ):AV:=.agg [.d (.lst (p.free.map Bt)),.d (.lst (p.nodes.map BQ)),.d (.lst (p.defs.map B6)),.d (.int .i64 p.main)]
abbrev sA(s:A8):AV:=.agg [.d (.lst (s.spots.map Af)),.d (.lst (s.groups.map A3)),.d (.lst (s.chans.map CK)),.d (.lst (s.waits.map AR))]
structure QH(p:AJ)(sz:List Int)(s:A8)(w:E7)(x:Cd):Prop where
 n0:0≤w.node
 node:p.nodes[w.node.toNat]? =some x
 op:x.op=6∨x.op=7∨x.op=8
 at_:Ei s.spots w.at_
 live:AY s.spots w.at_=false
 size:sz[w.node.toNat]? =some (w.env.length:Int)
 len:w.env.length≤5000
 n: ¬x.op=7→0≤x.n∧x.n<w.env.length
 vals:w.env.all (Cc.inB p s.chans.length s.spots.length)=true
theorem P8{p:AJ}{sz:List Int}{s:A8}{w:E7}(hF:BO p sz)(h:CP p sz s w=true): ∃x,QH p sz s w x:=by
 simp only[CP,Bool.and_eq_true,decide_eq_true_eq,Bool.not_eq_true']at h;obtain⟨h1,h2,h3,h4,h5,h6⟩:=h;cases hx:p.nodes[w.node.toNat]? with
 |none=>rw[hx]at h4;cases h4
 |some x=>
  rw[hx]at h4;simp only[ET,Bool.or_eq_true,decide_eq_true_eq]at h4;obtain⟨v,l,h7,h8,h9,h10,_⟩:=hF.node _ x hx;rw[h7]at h5;have h5:(w.env.length:Int)=v:=h5;rw[←h5]at h7 h8 h9 h10;refine⟨x,h3,hx,h4,h1,h2,h7,by omega,fun ho=>?_,h6⟩;simp only[EC,Bool.and_eq_true]at h10;have h11:=h10.2.1;rw[uo,if_pos (by omega)]at h11;exact of_decide_eq_true h11
theorem QH.val{p:AJ}{sz:List Int}{s:A8}{w:E7}{x:Cd}(h:QH p sz s w x)(ho: ¬x.op=7): ∃v,w.env[x.n.toNat]? =some v∧Hc w.env x.n=v∧(v.kind=4→Ei s.spots v.n∧ ∃y,s.spots[v.n.toNat]? =some y∧AY s.spots v.n=y.dead):=by
 have:=h.n ho;obtain⟨v,hv⟩:=get_some (l:=w.env) (i:=x.n.toNat) (by omega);refine⟨v,hv,by rw[Hc,hv];rfl,fun hk=>?_⟩;have hb:=List.all_eq_true.1 h.vals v (List.mem_of_getElem? hv);simp only[Cc.inB,hk,Int.reduceEq,if_true,if_false,Bool.and_eq_true,decide_eq_true_eq]at hb;obtain⟨y,hy⟩:=get_some (l:=s.spots) (i:=v.n.toNat) (by omega);exact⟨hb,y,hy,by simp[AY,hy]⟩
structure oY(p:AJ)(sz:List Int)(s:A8)(g:Ah)(d:CH)(r:FP):Prop where
 at0:0≤r.at_
 at1:r.at_≤d.spots.length
 place:Ei s.spots (g.place d r.at_)
 j0:0<r.joins.length
 j1:r.joins.length≤3
 join: ∀c∈r.joins,0≤c∧c<d.chans.length∧0≤g.own d true c∧ ∃q,s.chans[(g.own d true c).toNat]? =some q∧q.queue.length≤12∧Sn s (g.own d true c)=q.queue.length
theorem X2{d:CH}{r:FP}: ∀{l:List Int} {i:Nat},joinsOk d r i l=true→ ∀c∈l,0≤c∧c<d.chans.length
 |[],_,_,c,hc=>by simp at hc
 |x::l,i,h,c,hc=>by
  rw[joinsOk]at h;simp only[KK,Bool.and_eq_true,decide_eq_true_eq]at h;rcases List.mem_cons.1 hc with rfl|hc
  .exact⟨h.1.1,h.1.2.1⟩
  .exact X2 h.2 c hc
theorem N7{p:AJ}{sz:List Int}{s:A8}{i:Nat}{g:Ah}{d:CH}{r:FP}(hF:BO p sz)(hs:Fm p sz s)(hg:s.groups[i]? =some g)(hd:MI p sz s i g d)(hr:r∈d.rules):oY p sz s g d r:=by
 have ho:=(CA hF (Gu hd.def_).2).ok;have hr1:=ho.rule r hr;simp only[Ds,Bool.and_eq_true,decide_eq_true_eq]at hr1;obtain⟨⟨h1,h2⟩,h3,h4,h5⟩:=hr1;refine⟨h1,h2,Rk hd.mine (Lo hd) hd.at_ hd.vals h1 h2,h3,h4,fun c hc=>?_⟩;obtain⟨c0,c1⟩:=X2 h5 c hc;obtain⟨ch,hch⟩:=get_some (l:=d.chans) (i:=c.toNat) (by omega);obtain⟨q,hq,_⟩:=hd.chans _ ch hch;have ho:=LG hd.mine c0 c1;have:(g.own d true c).toNat=(Fh p (s.groups.take i)).1+c.toNat:=by omega
 refine⟨c0,c1,by omega,q,by rw[this];exact hq,(hs.que _ q hq).len,by rw[Sn,this,hq];rfl⟩
theorem Ym{l:List Nat}(h:0∈l):Ct l=[]:=by
 induction l with
 |nil=>simp at h
 |cons n l ih=>
  rw[Ct];rcases List.mem_cons.1 h with h|h
  .subst h;rfl
  .simp[ih h]
end Go.Proofs
namespace Go.Proofs
open Go Go.Abs
theorem Ca{α β:Type}{f:α→List β}{n:Nat}: ∀{l:List α},(∀x∈l,(f x).length≤n)→(l.flatMap f).length≤l.length*n
 |[],_=>by simp
 |x::l,h=>by
  have h1:=h x (by simp);have h2:=Ca (f:=f) (n:=n) (l:=l) fun y hy=>h y (by simp[hy]);rw[List.flatMap_cons,List.length_append,List.length_cons,Nat.succ_mul];omega
theorem Yn: ∀{l:List Nat},(∀n∈l,n≤12)→(Ct l).length≤12 ^ l.length
 |[],_=>by simp[Ct]
 |n::l,h=>by
  have h1:=h n (by simp);have h2:=Yn (l:=l) fun y hy=>h y (by simp[hy]);rw[Ct,List.length_cons,Nat.pow_succ];have h3:=Ca (l:=List.range n) (f:=fun(i:Nat)=>(Ct l).map fun t=>(i:Int)::t) (n:=12 ^ l.length) fun x hx=>by simpa using h2
  rw[List.length_range]at h3;have h4:n*12 ^ l.length≤12*12 ^ l.length:=Nat.mul_le_mul_right _ h1;omega
theorem tT{p:AJ}{sz:List Int}{s:A8}{g:Ah}{d:CH}{r:FP}(h:oY p sz s g d r):(DQ s d g r).length≤1728:=by
 rw[DQ];split
 .simp
 .have h1:=Yn (l:=Bn s d g r) fun n hn=>by
   rw[Bn]at hn;obtain⟨c,hc,rfl⟩:=List.mem_map.1 hn;obtain⟨_,_,_,q,_,h2,h3⟩:=h.join c hc;omega
  have h2:(Bn s d g r).length≤3:=by rw[Bn,List.length_map];exact h.j1
  have h3:12 ^ (Bn s d g r).length≤12 ^ 3:=Nat.pow_le_pow_right (by omega) h2;omega
theorem UH{s:A8}{d:CH}{g:Ah}{i:Nat}: ∀{l:List FP} (k:Nat),(∀r∈l,(DQ s d g r).length≤1728)→(BX s d g i k l).length≤l.length*1728
 |[],k,_=>by simp[BX]
 |r::l,k,h=>by
  have h1:=h r (by simp);have h2:=UH (s:=s) (d:=d) (g:=g) (i:=i) (l:=l) (k+1) fun y hy=>h y (by simp[hy]);rw[BX,List.length_append,List.length_map,List.length_cons];omega
theorem SJ(p:AJ)(s:A8): ∀(l:List E7) (i:Nat),(CC p s i l).length≤l.length
 |[],i=>by simp[CC]
 |w::l,i=>by
  have:=SJ p s l (i+1);rw[CC,List.length_append,List.length_cons];split<;>simp<;>omega
theorem Xq{p:AJ}{sz:List Int}{s:A8}(hF:BO p sz)(hs:Fm p sz s): ∀(l:List Ah) (i:Nat),s.groups.drop i=l→(CL p s i l).length≤l.length*51840
 |[],i,_=>by simp[CL]
 |g::l,i,h=>by
  have hg:s.groups[i]? =some g:=by
   have:=congrArg (fun l=>l[0]?) h;simpa using this
  have h2:=Xq hF hs l (i+1) (by rw[Ae hg]at h;exact(List.cons.inj h).2);obtain⟨d,hd⟩:=hs.grp i g hg;rw[CL,List.length_append,List.length_cons,hd.def_];have h3:=UH (s:=s) (d:=d) (g:=g) (i:=i) (l:=d.rules) 0 fun r hr=>tT (N7 hF hs hg hd hr);have h4:=(CA hF (Gu hd.def_).2).ok.rules;dsimp only;omega
theorem UQ{p:AJ}{sz:List Int}{s:A8}(hF:BO p sz)(hs:Fm p sz s):(Au p s).length≤3000000:=by
 have hsm:=hs.small;simp only[A8.small,Bool.and_eq_true,decide_eq_true_eq]at hsm;have h1:=SJ p s s.waits 0;have h2:=Xq hF hs s.groups 0 rfl;rw[Au,List.length_append];omega
end Go.Proofs
namespace Go.Proofs
open Go Go.Abs
set_option maxRecDepth 100000
set_option maxHeartbeats 4000000
structure QB(x:B4)(size depth n:Int)(h:AB)(π:List Nat)(idn:Abs.Id)(o:AZ)(h':AB):Prop where
 ret:Tx x size depth (60-n)→o=.ret (.tup [])∧h'.get idn=some (.box [.d (.int .i64 (n+x.size))])
 pan: ¬Tx x size depth (60-n)→o=.pan GW
 frame: ∀id',Id.under π id'=false→Id.is idn id'=false→h'.get id'=h.get id'
theorem Ji{x:B4}{size depth n:Int}{h:AB}{π:List Nat}{id:Abs.Id}{h':AB}(hk: ¬Tx x size depth (60-n))(hf: ∀id',Id.under π id'=false→Id.is id id'=false→h'.get id'=h.get id'):QB x size depth n h π id (.pan GW) h':=⟨fun h=>absurd h hk,fun _=>rfl,hf⟩
theorem NI{x:B4}{size depth n:Int}{h:AB}{π:List Nat}{id:Abs.Id}{h':AB}(hk:Tx x size depth (60-n))(hg:h'.get id=some (.box [.d (.int .i64 (n+x.size))]))(hf: ∀id',Id.under π id'=false→Id.is id id'=false→h'.get id'=h.get id'):QB x size depth n h π id (.ret (.tup [])) h':=⟨fun _=>⟨rfl,hg⟩,fun h=>absurd hk h,hf⟩
theorem vP(x:B4): ∀(size depth n:Int) (h:AB) (π:List Nat) (idn ids idd:Abs.Id),h.get idn=some (.box [.d (.int .i64 n)])→h.get ids=some (.box [.d (.int .i64 size)])→h.get idd=some (.box [.fn 217 [] [.ptr idn 0,.ptr ids 0,.ptr idd 0]])→Id.under π idn=false→Id.under π ids=false→Id.under π idd=false→Id.is idn ids=false→Id.is idn idd=false→0≤n→n≤60→1≤depth→depth≤70→
 ∃o h',KL Tryz.prog cfg (.fn 217) [.agg [.d (.int .i64 x.op),.d (.int .i64 x.n),.d (.lst (x.kids.map Bs))],.d (.int .i64 depth),.ptr idn 0,.ptr ids 0,.ptr idd 0] h π true none=.ok (o,h')∧QB x size depth n h π idn o h':=by
 induction x using B4.ind with
 |h op m kids ih=>
 intro size depth n h π idn ids idd hg hgs hgd hu hus hud hns hnd h1 h2 h3 h4;simp only[B4.op_mk,B4.n_mk,B4.kids_mk]at*;have u1:=AG hu;have u2:=Ar hu;have u3:=AF hu;have v1:=AG hus;have v3:=AF hus;have x1:=AG hud;have x3:=AF hud;have w1:IntKind.i64.wrap (n+1)=n+1:=wrap_id (by omega) (by omega);have w2:IntKind.i64.wrap (depth+1)=depth+1:=wrap_id (by omega) (by omega)
 (refine Ak rfl Tryz.func217 rfl rfl rfl ?_;show Wp _ _ _ _ (Tryz.f217.body.get rfl) _ _;simp only[Tryz.f217,Option.get_some])
 have ih:=AA.mk ih;rcases kids with _|⟨a,_|⟨b,_|⟨c,l⟩⟩⟩
 ·(repeat' (first|simp only[go_sem, *]|(refine sx ?_ ?_<;>intro hc)|refine sy (by omega) fun x hx hm=>?_|simp(disch:=first|assumption|omega) only[wrap_id,AK,AH,slice_int]))
  all_goals try(rw[Lb];refine aw ?_)
  all_goals first
   |omega
   |(refine Ji ?_ (fun id' e1 e2=>?_)
     .clear ih;grind [Tx,B4.size,Hf,B4.depth,HS,B4.formed]
     .simp only[get_put,AG e1,e2,Bool.false_eq_true,if_false])
   |(refine NI ?_ ?_ (fun id' e1 e2=>?_)
     .clear ih;grind [Tx,B4.size,Hf,B4.depth,HS,B4.formed]
     .simp[get_put,is_self,B4.size,Hf]
     .simp only[get_put,AG e1,e2,Bool.false_eq_true,if_false])
 ·(repeat' (first|simp only[go_sem, *]|(refine sx ?_ ?_<;>intro hc)|refine sy (by omega) fun x hx hm=>?_|simp(disch:=first|assumption|omega) only[wrap_id,AK,AH,slice_int]))
  all_goals first
   |omega
   |(refine Ji ?_ (fun id' e1 e2=>?_)
     .clear ih;grind [Tx,B4.size,Hf,B4.depth,HS,B4.formed]
     .simp only[get_put,AG e1,e2,Bool.false_eq_true,if_false])
   |(refine NI ?_ ?_ (fun id' e1 e2=>?_)
     .clear ih;grind [Tx,B4.size,Hf,B4.depth,HS,B4.formed]
     .simp[get_put,is_self,B4.size,Hf]
     .simp only[get_put,AG e1,e2,Bool.false_eq_true,if_false])
 .have iha:=AA.mk (ih.out a (by simp));have ihb:=AA.mk (ih.out b (by simp));clear ih;have sa:=ZE a;have sb:=ZE b
  (repeat' (first|simp only[go_sem, *]|(refine sx ?_ ?_<;>intro hc)|refine sy (by omega) fun x hx hm=>?_|simp(disch:=first|assumption|omega) only[wrap_id,AK,AH,slice_int]))
  all_goals try
   (refine Ji ?_ (fun id' e1 e2=>?_)
    .clear iha ihb;grind [Tx,B4.size,Hf,B4.depth,HS,B4.formed]
    .simp only[get_put,AG e1,e2,Bool.false_eq_true,if_false])
  all_goals (rw[Lb];refine aw ?_)
  all_goals
   refine Ab (iha.out size (depth+1) (n+1) _ _ idn ids idd ?_ ?_ ?_ (u3 _) (v3 _) (x3 _) hns hnd ?_ ?_ ?_ ?_) (fun o1 g1 p1=>?_)
   .simp only[go_sem,u1,hg]
   .simp only[go_sem,v1,hns,hgs,Bool.false_eq_true]
   .simp only[go_sem,x1,hnd,hgd,Bool.false_eq_true]
   .omega
   .omega
   .omega
   .omega
   have f1:=p1.frame;have s1:g1.get ids=some (.box [.d (.int .i64 size)]):=by
    rw[f1 ids (v3 _) hns];simp only[go_sem,v1,hns,hgs,Bool.false_eq_true]
   have d1:g1.get idd=some (.box [.fn 217 [] [.ptr idn 0,.ptr ids 0,.ptr idd 0]]):=by
    rw[f1 idd (x3 _) hnd];simp only[go_sem,x1,hnd,hgd,Bool.false_eq_true]
   have fr1: ∀id',Id.under π id'=false→Id.is idn id'=false→g1.get id'=h.get id':=fun id' e1 e2=>by
    rw[f1 id' (AF e1 _) e2];simp only[get_put,AG e1,e2,Bool.false_eq_true,if_false]
   clear f1;by_cases ka:Tx a size (depth+1) (60-(n+1))
   .obtain⟨rfl,r1⟩:=p1.ret ka;clear p1;have fr1:=AA.mk fr1;refine aw ?_;rw[Lb];refine aw ?_;refine Ab (ihb.out size (depth+1) (n+1+a.size) _ _ idn ids idd ?_ ?_ ?_ (u3 _) (v3 _) (x3 _) hns hnd ?_ ?_ ?_ ?_) (fun o2 g2 p2=>?_)
    .simp only[go_sem,u1,u3,r1,Bool.false_eq_true]
    .simp only[go_sem,v1,v3,hns,s1,Bool.false_eq_true]
    .simp only[go_sem,x1,x3,hnd,d1,Bool.false_eq_true]
    .omega
    .grind [Tx]
    .omega
    .omega
    have f2:=p2.frame;have fr: ∀id',Id.under π id'=false→Id.is idn id'=false→g2.get id'=h.get id':=fun id' e1 e2=>by
     rw[f2 id' (AF e1 _) e2];simp only[get_put,AG e1,AU _ _ _ (AF e1 _),fr1.out id' e1 e2,Bool.false_eq_true,if_false]
    have fr:=AA.mk fr;clear f2 fr1;by_cases kb:Tx b size (depth+1) (60-(n+1+a.size))
    .obtain⟨rfl,r2⟩:=p2.ret kb;clear p2;refine aw ?_;rw[Lb];refine aw ?_;refine NI ?_ ?_ fun id' e1 e2=>?_
     .clear iha ihb fr;grind [Tx,B4.size,Hf,B4.depth,HS,B4.formed]
     .rw[AU _ _ _ (u3 _),r2];simp[B4.size,Hf];omega
     .rw[AU _ _ _ (AF e1 _),fr.out id' e1 e2]
    .obtain rfl:=p2.pan kb;clear p2;refine aw ?_;refine Ji ?_ fun id' e1 e2=>?_
     .clear iha ihb fr;grind [Tx,B4.size,Hf,B4.depth,HS,B4.formed]
     .rw[AU _ _ _ (AF e1 _),fr.out id' e1 e2]
   .obtain rfl:=p1.pan ka;clear p1;refine aw ?_;refine Ji ?_ (fun id' e1 e2=>?_)
    .clear iha ihb;grind [Tx,B4.size,Hf,B4.depth,HS,B4.formed]
    .rw[AU _ _ _ (AF e1 _),fr1 id' e1 e2]
 ·(repeat' (first|simp only[go_sem, *]|(refine sx ?_ ?_<;>intro hc)|refine sy (by omega) fun x hx hm=>?_|simp(disch:=first|assumption|omega) only[wrap_id,AK,AH,slice_int]))
  all_goals first
   |omega
   |(refine Ji ?_ (fun id' e1 e2=>?_)
     .clear ih;grind [Tx,B4.size,Hf,B4.depth,HS,B4.formed]
     .simp only[get_put,AG e1,e2,Bool.false_eq_true,if_false])
   |(refine NI ?_ ?_ (fun id' e1 e2=>?_)
     .clear ih;grind [Tx,B4.size,Hf,B4.depth,HS,B4.formed]
     .simp[get_put,is_self,B4.size,Hf]
     .simp only[get_put,AG e1,e2,Bool.false_eq_true,if_false])
theorem AAO(x:B4)(size:Int):BM (KL Tryz.prog cfg) 212 [.agg [.d (.int .i64 x.op),.d (.int .i64 x.n),.d (.lst (x.kids.map Bs))],.d (.int .i64 size)] []=.ok (HO GW (x.ok size)):=by
 (refine Ay rfl Tryz.func212 rfl rfl rfl ?_;show Wp _ _ _ _ (Tryz.f212.body.get rfl) _ _;simp only[Tryz.f212,Option.get_some])
 refine aw ?_;refine Ab (vP x size 1 0 _ _ [0,2] [0,1] [0,4] rfl rfl rfl rfl rfl rfl rfl rfl ?_ ?_ ?_ ?_) (fun o1 g1 p1=>?_)
 .omega
 .omega
 .omega
 .omega
 have e:Tx x size 1 (60-0)↔x.ok size=true:=ABN x size;cases hx:x.ok size with
 |true=>
  obtain⟨rfl,r1⟩:=p1.ret (e.2 hx);clear p1;refine aw ?_;rfl
 |false=>
  obtain rfl:=p1.pan (fun h=>by rw[e.1 h]at hx;cases hx);clear p1;refine aw ?_;rfl
end Go.Proofs
namespace Go.Proofs
open Go Go.Abs
set_option maxRecDepth 100000
set_option maxHeartbeats 4000000
def slv(id:Abs.Id)(n:Nat):AV:=if n=0 then .emp else .osl id 0 n
theorem DJ{id:Abs.Id}{n:Nat}(h:n≠0):slv id n=.osl id 0 n:=by rw[slv,if_neg h]
structure uy(π:List Nat)(l sz mt df:Abs.Id):Prop where
 ul:Id.under π l=false
 us:Id.under π sz=false
 um:Id.under π mt=false
 ud:Id.under π df=false
 ls:Id.is l sz=false
 lm:Id.is l mt=false
 ld:Id.is l df=false
 sl:Id.is sz l=false
 sm:Id.is sz mt=false
 sd:Id.is sz df=false
 ml:Id.is mt l=false
 ms:Id.is mt sz=false
 md:Id.is mt df=false
 dl:Id.is df l=false
 ds:Id.is df sz=false
 dm:Id.is df mt=false
structure H8(h:AB)(p:AJ)(l sz mt df:Abs.Id)(st:Bu):Prop where
 box:h.get l=some (.box [.d (.lst (p.free.map Bt)),.d (.lst (p.nodes.map BQ)),.d (.lst (p.defs.map B6)),.d (.int .i64 p.main),slv sz p.nodes.length,slv mt p.nodes.length,slv df p.defs.length])
 sizes:p.nodes.length≠0→h.get sz=some (.darr 1 (st.sizes.map AO))
 met:p.nodes.length≠0→h.get mt=some (.darr 1 (st.met.map DS))
 defs:p.defs.length≠0→h.get df=some (.darr 1 (st.defs.map DS))
structure QE(p:AJ)(l sz mt df:Abs.Id)(h:AB)(π:List Nat)(r:Option Bu)(o:AZ)(h':AB):Prop where
 ret: ∀st',r=some st'→o=.ret (.tup [])∧H8 h' p l sz mt df st'∧ ∀id',Id.under π id'=false→Id.is sz id'=false→Id.is mt id'=false→Id.is df id'=false→h'.get id'=h.get id'
 pan:r=none→o=.pan GW
theorem DC{p:AJ}{l sz mt df:Abs.Id}{h:AB}{π:List Nat}{r:Option Bu}{h':AB}(hr:r=none):QE p l sz mt df h π r (.pan GW) h':=⟨fun st' hs=>by{rw[hr]at hs;cases hs},fun _=>rfl⟩
@[go_sem] theorem ADI:cfg.meth 307 "cabotage/scope.kids" =some 236:=rfl
@[go_sem] theorem ADJ:cfg.meth 308 "cabotage/scope.kids" =some 237:=rfl
@[go_sem] theorem ADK:cfg.meth 309 "cabotage/scope.kids" =some 238:=rfl
@[go_sem] theorem ADL:cfg.meth 310 "cabotage/scope.kids" =some 239:=rfl
@[go_sem] theorem ADM:cfg.meth 314 "cabotage/scope.kids" =some 240:=rfl
structure oU(p:AJ)(l sz mt df:Abs.Id)(h:AB)(π:List Nat)(L:List (Nat×Abs.Obj))(st:Bu)(g:AB):Prop where
 looks:H8 g p l sz mt df st
 node: ∀q∈L,g.get (0::q.1::π)=some q.2
 frame: ∀id',Id.under π id'=false→Id.is sz id'=false→Id.is mt id'=false→Id.is df id'=false→g.get id'=h.get id'
theorem KJ{π:List Nat}{l sz mt df:Abs.Id}(h:uy π l sz mt df)(n:Nat):uy (n::π) l sz mt df:={h with ul:=AF h.ul n,us:=AF h.us n,um:=AF h.um n,ud:=AF h.ud n}
theorem nj(i j:Nat)(π:List Nat)(h:i≠j):Id.under (i::π) (0::j::π)=false:=DW fun hs=>by
 rcases List.suffix_cons_iff.1 hs with e|hs
 .have:=congrArg List.length e;simp at this
 rcases List.suffix_cons_iff.1 hs with e|hs
 .simp only[List.cons.injEq,and_true]at e;exact h e
 .have:=hs.length_le;simp at this;omega
theorem K6{g:AB}{p:AJ}{l sz mt df:Abs.Id}{st:Bu}{ρ:List Nat}(h:H8 g p l sz mt df st)(hi:uy ρ l sz mt df):H8 (gc ρ g) p l sz mt df st:=
 ⟨by rw[AU _ _ _ hi.ul];exact h.box,fun hn=>by rw[AU _ _ _ hi.us];exact h.sizes hn,fun hn=>by rw[AU _ _ _ hi.um];exact h.met hn,fun hn=>by rw[AU _ _ _ hi.ud];exact h.defs hn⟩
theorem Gz{p:AJ}{l sz mt df:Abs.Id}{h:AB}{π:List Nat}{L:List (Nat×Abs.Obj)}{st:Bu}{g:AB}(hf:oU p l sz mt df h π L st g)(hi:uy π l sz mt df){j:Nat}{o:Abs.Obj}(hj: ∀q∈L,j≠q.1):oU p l sz mt df h π L st (g.put (0::j::π) o):=by
 refine⟨⟨?_,fun hn=>?_,fun hn=>?_,fun hn=>?_⟩,fun q hq=>?_,fun id' h1 h2 h3 h4=>?_⟩
 .rw[get_put,AG hi.ul];exact hf.looks.box
 .rw[get_put,AG hi.us];exact hf.looks.sizes hn
 .rw[get_put,AG hi.um];exact hf.looks.met hn
 .rw[get_put,AG hi.ud];exact hf.looks.defs hn
 .have:Id.is (0::j::π) (0::q.1::π)=false:=AD fun e=>hj q hq (by simpa using e);rw[get_put,this];exact hf.node q hq
 .rw[get_put,AG h1];exact hf.frame id' h1 h2 h3 h4
theorem Nv{p:AJ}{l sz mt df:Abs.Id}{h:AB}{π:List Nat}{L:List (Nat×Abs.Obj)}{st st':Bu}{g g':AB}(hf:oU p l sz mt df h π L st g)(hi:uy π l sz mt df){j:Nat}(hj: ∀q∈L,j≠q.1)(hl:H8 g' p l sz mt df st')(hg: ∀id',Id.under (j::π) id'=false→Id.is sz id'=false→Id.is mt id'=false→Id.is df id'=false→g'.get id'=g.get id'):oU p l sz mt df h π L st' (gc (j::π) g'):=by
 refine⟨K6 hl (KJ hi j),fun q hq=>?_,fun id' h1 h2 h3 h4=>?_⟩
 .have hu:=nj j q.1 π (hj q hq);rw[AU _ _ _ hu,hg _ hu (Ar hi.us _ _) (Ar hi.um _ _) (Ar hi.ud _ _)];exact hf.node q hq
 .rw[AU _ _ _ (AF h1 j),hg _ (AF h1 j) h2 h3 h4];exact hf.frame id' h1 h2 h3 h4
theorem NW{p:AJ}{st st':Bu}(h:st.fit p)(hg:ux st st'):st'.fit p:=⟨hg.sizes.trans h.sizes,hg.met.trans h.met,hg.defs.trans h.defs⟩
theorem qB(x:B4)(size:Int):BM (KL Tryz.prog cfg) 212 [.agg [.d (.int .i64 x.op),.d (.int .i64 x.n),.d (.lst (x.kids.map Bs))],.d (.int .i64 size)] []=Bl GW (x.ok size):=by rw[AAO,SG]
theorem NJ(d:CH):BM (KL Tryz.prog cfg) 213 [.agg [.d (.lst (d.chans.map BK)),.d (.lst (d.spots.map BB)),.d (.lst (d.rules.map BJ))]] []=Bl GW d.okG:=by rw[AAJ,SG]
theorem SD{p:AJ}{k:Nat}{n size:Int}{st:Bu}{x:Cd}(hn:0≤n)(ht:st.met[n.toNat]? =some false)(hx:p.nodes[n.toNat]? =some x):Cp p (k+1) n size st=if EC p size x=true then match VK p size x (st.meet n size)with
 |some (l,st2)=>Fz (Cp p k) l st2
 |none=>none
 else none:=by
 rw[Cp,if_pos ⟨hn,ht⟩,hx];all_goals rfl
theorem nn{p:AJ}{k:Nat}{n size:Int}{st:Bu}{x:Cd}(hn:0≤n)(ht:st.met[n.toNat]? =some false)(hx:p.nodes[n.toNat]? =some x)(hb:EC p size x=false):Cp p (k+1) n size st=none:=by
 rw[SD hn ht hx,hb,if_neg (by simp)]
theorem LB(p:AJ)(hN:p.nodes.length≤60)(n size:Int)(st:Bu)(h:AB)(π:List Nat)(l sz mt df:Abs.Id)(hfit:st.fit p)(hid:uy π l sz mt df)(hl:H8 h p l sz mt df st)(hb:0≤n→n<p.nodes.length→st.met[n.toNat]? =some true):
 ∃o h',KL Tryz.prog cfg (.fn 201) [.ptr l 0,.d (.int .i64 n),.d (.int .i64 size)] h π true none=.ok (o,h')∧QE p l sz mt df h π none o h':=by
 obtain⟨ul,us,um,ud,ls,lm,ld,sl,sm,sd,ml,ms,md,dl,ds,dm⟩:=hid;obtain⟨lbox,lsz,lmt,ldf⟩:=hl;have lsz:=AA.mk lsz;have ldf:=AA.mk ldf;have hb:=AA.mk hb;have hfm:=hfit.met
 (refine Ak rfl Tryz.func201 rfl rfl rfl ?_;show Wp _ _ _ _ (Tryz.f201.body.get rfl) _ _;simp only[Tryz.f201,Option.get_some])
 by_cases hn:0≤n
 .by_cases hn2:n<p.nodes.length
  .have hne:p.nodes.length≠0:=by omega
   have hlt:n.toNat<p.nodes.length:=by omega
   have ht:=hb.out hn hn2;have lmt:=lmt hne;rw[DJ hne,DJ hne]at lbox;refine aw ?_;exact DC rfl
  .refine aw ?_;exact DC rfl
 .refine aw ?_;exact DC rfl
theorem fL(p:AJ)(hN:p.nodes.length≤60)(hD:p.defs.length≤12): ∀(k:Nat) (n size:Int) (st:Bu) (h:AB) (π:List Nat) (l sz mt df:Abs.Id),Jz st.met≤k→st.fit p→0≤size→size+70*k≤5000→uy π l sz mt df→H8 h p l sz mt df st→
 ∃o h',KL Tryz.prog cfg (.fn 201) [.ptr l 0,.d (.int .i64 n),.d (.int .i64 size)] h π true none=.ok (o,h')∧QE p l sz mt df h π (Cp p k n size st) o h':=by
 intro k;induction k with
 |zero=>
  intro n size st h π l sz mt df hk hfit h0 hb hid hl;refine LB p hN n size st h π l sz mt df hfit hid hl fun h1 h2=>?_;obtain⟨t,ht⟩:=get_some (l:=st.met) (i:=n.toNat) (by rw[hfit.met];omega);cases t with
  |true=>exact ht
  |false=>have:=H6 ht;omega
 |succ k ih=>
 intro n size st h π l sz mt df hk hfit h0 hb hid hl;have hid2:=AA.mk hid;obtain⟨ul,us,um,ud,ls,lm,ld,sl,sm,sd,ml,ms,md,dl,ds,dm⟩:=hid;have hl2:=AA.mk hl;obtain⟨lbox,lsz,lmt,ldf⟩:=hl;have e1:=AG ul;have e2:=AG us;have e3:=AG um;have e4:=AG ud;have e5:=Ar ul;have e6:=Ar us;have e7:=Ar um;have e8:=Ar ud;by_cases hn:0≤n
 .by_cases hn2:n<p.nodes.length
  .have hne:p.nodes.length≠0:=by omega
   have hlt:n.toNat<p.nodes.length:=by omega
   obtain⟨x,hx⟩:=get_some hlt;obtain⟨t,ht⟩:=get_some (l:=st.met) (i:=n.toNat) (by rw[hfit.met];omega);obtain⟨s0,hs0⟩:=get_some (l:=st.sizes) (i:=n.toNat) (by rw[hfit.sizes];omega);have lmt:=lmt hne;have lsz:=lsz hne;rw[DJ hne,DJ hne]at lbox;have ih:=AA.mk ih;have ldf:=AA.mk ldf;have hfs:=hfit.sizes;have hfm:=hfit.met;cases t with
   |true=>
    have e:Cp p (k+1) n size st=none:=by
     rw[Cp,if_neg];rw[ht];simp
    rw[e];exact LB p hN n size st h π l sz mt df hfit hid2.out hl2.out fun _ _=>ht
   |false=>
    (refine Ak rfl Tryz.func201 rfl rfl rfl ?_;show Wp _ _ _ _ (Tryz.f201.body.get rfl) _ _;simp only[Tryz.f201,Option.get_some])
    have hs:=AA.mk (SD (p:=p) (k:=k) (size:=size) hn ht hx);have hbad:=AA.mk (nn (p:=p) (k:=k) (size:=size) hn ht hx);obtain⟨xo,xn,xa,xk⟩:=x;have hn0:AA (∀o o',oU p l sz mt df h π [(46,o')] (st.meet n size) ((((h.put mt (.darr 1 ((List.map DS st.met).set n.toNat [.bool true]))).put sz (.darr 1 ((List.map AO st.sizes).set n.toNat [.int .i64 size]))).put (0::46::π) o).put (0::46::π) o')):=.mk fun o o'=>by
     refine⟨⟨?_,fun _=>?_,fun _=>?_,fun hd=>?_⟩,?_,fun id' h1 h2 h3 h4=>?_⟩
     .rw[DJ hne,DJ hne];simp only[get_put,e1,sl,ml,Bool.false_eq_true,if_false,lbox]
     .simp only[get_put,e2,is_self,Bool.false_eq_true,if_false,if_true,Bu.meet,List.map_set];rfl
     .simp only[get_put,e3,sm,is_self,Bool.false_eq_true,if_false,if_true,Bu.meet,List.map_set];rfl
     .simp only[get_put,e4,sd,md,Bool.false_eq_true,if_false,Bu.meet,ldf.out hd]
     .intro q hq;cases List.mem_singleton.1 hq;simp only[get_put,is_self,if_true]
     .simp only[get_put,AG h1,h2,h3,Bool.false_eq_true,if_false]
    by_cases o4:xo=4
    .subst o4;by_cases x0:xn<0
     ·(repeat' (first|simp only[go_sem, *,Gk,LR]|(refine sx ?_ ?_<;>intro hc)|refine sy (by omega) fun x hx hm=>?_|simp(disch:=first|assumption|omega) only[wrap_id,AK,AH,slice_int]))
      all_goals try(exfalso;omega)
      all_goals (exact DC (hbad.out (by clear e1 e2 e3 e4 e5 e6 e7 e8 lbox lmt lsz hs hbad ih hn0;grind [EC,FT,uo,J5])))
     by_cases x1:(p.defs.length:Int)≤xn
     ·(repeat' (first|simp only[go_sem, *,Gk,LR]|(refine sx ?_ ?_<;>intro hc)|refine sy (by omega) fun x hx hm=>?_|simp(disch:=first|assumption|omega) only[wrap_id,AK,AH,slice_int]))
      all_goals try(exfalso;omega)
      all_goals (exact DC (hbad.out (by clear e1 e2 e3 e4 e5 e6 e7 e8 lbox lmt lsz hs hbad ih hn0;grind [EC,FT,uo,J5])))
     have x2:0≤xn:=by omega
     have x3:xn<p.defs.length:=by omega
     have hdl:p.defs.length≠0:=by omega
     have hxlt:xn.toNat<p.defs.length:=by omega
     obtain⟨d,hd⟩:=get_some hxlt;obtain⟨t,htd⟩:=get_some (l:=st.defs) (i:=xn.toNat) (by rw[hfit.defs];omega);have hfd:=hfit.defs;have ldf2:=ldf.out hdl;rw[DJ hdl]at lbox;have hinto:VK p size ⟨4,xn,xa,xk⟩ (st.meet n size)=if st.defs[xn.toNat]? =some false∧d.okG=true then some (HI d (size+d.own) d.rules++(GP (size+d.own) d.spots++DG (size+d.own) xk),{st.meet n size with defs:=st.defs.set xn.toNat true})else none:=by
      rw[VK,if_pos rfl,hd];rfl
     have hinto:=AA.mk hinto;have hn1:AA (∀o o' b,oU p l sz mt df h π [(131,o'),(46,b)] {st.meet n size with defs:=st.defs.set xn.toNat true} (((((((h.put mt (.darr 1 ((List.map DS st.met).set n.toNat [.bool true]))).put sz (.darr 1 ((List.map AO st.sizes).set n.toNat [.int .i64 size]))).put (0::46::π) (.box [.d (.int .i64 0),.d (.int .i64 0),.nils,.nils])).put (0::46::π) b).put df (.darr 1 ((List.map DS st.defs).set xn.toNat [.bool true]))).put (0::131::π) o).put (0::131::π) o')):=.mk fun o o' b=>by
      refine⟨⟨?_,fun _=>?_,fun _=>?_,fun hd=>?_⟩,?_,fun id' h1 h2 h3 h4=>?_⟩
      .rw[DJ hne,DJ hne,DJ hdl];simp only[get_put,e1,sl,ml,dl,Bool.false_eq_true,if_false,lbox]
      .simp only[get_put,e2,ds,is_self,Bool.false_eq_true,if_false,if_true,Bu.meet,List.map_set];rfl
      .simp only[get_put,e3,sm,dm,is_self,Bool.false_eq_true,if_false,if_true,Bu.meet,List.map_set];rfl
      .simp only[get_put,e4,is_self,Bool.false_eq_true,if_false,if_true,Bu.meet,List.map_set];rfl
      .simp only[List.mem_cons,List.not_mem_nil,or_false,forall_eq_or_imp,forall_eq];simp only[go_sem,e8]
      .simp only[get_put,AG h1,h2,h3,h4,Bool.false_eq_true,if_false]
     by_cases hgt:t=false∧d.okG=true
     .obtain⟨rfl,hg⟩:=hgt;have hdo:=VZ hg;have c1:=hdo.chans;have c2:=hdo.spots;have c3:=hdo.rules;have hown:=Rh hdo;have hok:=ABQ d (by omega) (by omega);have hdo:=AA.mk hdo
      (repeat' (first|simp only[go_sem, *,Gk,LR,NJ]|(refine sx ?_ ?_<;>intro hc)|refine sy (by omega) fun x hx hm=>?_|simp(disch:=first|assumption|omega) only[wrap_id,AK,AH,slice_int]))
      all_goals try(exfalso;omega)
      all_goals try(exact DC (hbad.out (by clear e1 e2 e3 e4 e5 e6 e7 e8 lbox lmt lsz hs hbad ih hn0;grind [EC,FT,uo,J5])))
      rw[Lb]
      (repeat' (first|simp only[go_sem, *,NJ]|(refine sx ?_ ?_<;>intro hc)|refine sy (by omega) fun x hx hm=>?_|simp(disch:=first|assumption|omega) only[wrap_id,AK,AH,slice_int]))
      refine AX d.rules _ (fun m i a=>⟨[(0,.ptr l 0),(2,.d (.int .i64 (size+(d.own:Int)))),(6,.ptr (0::46::π) 0),(11,.ptr (0::131::π) 0),(190,.d (.lst (d.rules.map BJ))),(191,.d (.int .i64 m)),(192,.d (.int .i64 i))],a.1.1,a.2+144,[]⟩)
       (Inv:=fun i rest a=>oU p l sz mt df h π [(131,.box [.d (.lst (d.chans.map BK)),.d (.lst (d.spots.map BB)),.d (.lst (d.rules.map BJ))]),(46,.box [.d (.int .i64 4),.d (.int .i64 xn),.d (.lst (xa.map Bs)),.d (.lst (xk.map AO))])] a.1.2 a.1.1∧a.1.2.fit p∧Jz a.1.2.met≤k∧AA (Cp p (k+1) n size st=Fz (Cp p k) (HI d (size+d.own) rest++(GP (size+d.own) d.spots++DG (size+d.own) xk)) a.1.2)) (b0:=((_,{st.meet n size with defs:=st.defs.set xn.toNat true}),_)) ?_ ⟨hn1.out _ _ _,?_,?_,⟨?_⟩⟩ ?_ ?_
      .rfl
      .have:=YC hfit n size;exact⟨this.sizes,this.met,by simp[hfit.defs]⟩
      .have:=H6 ht;simp only[Bu.meet];omega
      .rw[hs.out,if_pos,hinto.out,if_pos ⟨htd,hg⟩];have h00:((xa.length:Int)=0):=by assumption
       have hxa:xa=[]:=List.eq_nil_of_length_eq_zero (by omega);clear e1 e2 e3 e4 e5 e6 e7 e8 lbox lmt lsz hs hbad ih hn0 hn1 hdo hinto;grind [EC,FT,uo,J5]
      .rintro i r ⟨⟨g,st1⟩,c⟩ hy hi him ⟨hf,hfit1,hun,hv⟩ IH;dsimp only at*;have hr1:=hf.node _ (List.mem_cons_self ..);dsimp only at hr1;have hj:=R0 hdo.out (List.mem_of_getElem? hy);have hb1:=fx d r hj;have hb2:=MY hj.2.2 r.joins;have hb3:=hj.1;have hj:=AA.mk hj;refine aw ?_;refine Ep (ih.out r.node (size+d.own+DF d r.joins) st1 _ _ l sz mt df hun hfit1 (by omega) (by omega) (KJ hid2.out _) (Gz (Gz hf hid2.out ?_) hid2.out ?_).looks) (fun o1 g1 p1=>?_)
       .simp only[List.mem_cons,List.not_mem_nil,or_false,forall_eq_or_imp,forall_eq];omega
       .simp only[List.mem_cons,List.not_mem_nil,or_false,forall_eq_or_imp,forall_eq];omega
       cases hvy:Cp p k r.node (size+d.own+DF d r.joins) st1 with
       |none=>
        obtain rfl:=p1.pan hvy;clear p1;refine aw ?_;refine DC (hv.out.trans ?_);simp only[HI,List.map_cons,List.cons_append,Fz,hvy]
       |some st2=>
        obtain⟨rfl,hl2,hfr⟩:=p1.ret st2 hvy;have hfr:=AA.mk hfr;clear p1;refine aw ?_;have hgr:=Eg p _ _ _ _ _ hvy;refine IH.out ((_,st2),_) ⟨Nv (Gz (Gz hf hid2.out ?_) hid2.out ?_) hid2.out ?_ hl2 hfr.out,NW hfit1 hgr,Nat.le_trans hgr.less hun,⟨?_⟩⟩
        .simp only[List.mem_cons,List.not_mem_nil,or_false,forall_eq_or_imp,forall_eq];omega
        .simp only[List.mem_cons,List.not_mem_nil,or_false,forall_eq_or_imp,forall_eq];omega
        .simp only[List.mem_cons,List.not_mem_nil,or_false,forall_eq_or_imp,forall_eq];omega
        .rw[hv.out];simp only[HI,List.map_cons,List.cons_append,Fz,hvy]
      .rintro i ⟨⟨g,st1⟩,c⟩ hi him ⟨hf,hfit1,hun,hv⟩;dsimp only at*;have hr1:=hf.node _ (List.mem_cons_self ..);have hr2:=hf.node _ (List.mem_cons_of_mem _ (List.mem_cons_self ..));dsimp only at hr1 hr2;refine aw ?_;refine AX d.spots _ (fun m i a=>⟨[(0,.ptr l 0),(2,.d (.int .i64 (size+(d.own:Int)))),(6,.ptr (0::46::π) 0),(207,.d (.lst (d.spots.map BB))),(208,.d (.int .i64 m)),(209,.d (.int .i64 i))],a.1.1,a.2+144,[]⟩)
        (Inv:=fun i rest a=>oU p l sz mt df h π [(131,.box [.d (.lst (d.chans.map BK)),.d (.lst (d.spots.map BB)),.d (.lst (d.rules.map BJ))]),(46,.box [.d (.int .i64 4),.d (.int .i64 xn),.d (.lst (xa.map Bs)),.d (.lst (xk.map AO))])] a.1.2 a.1.1∧a.1.2.fit p∧Jz a.1.2.met≤k∧AA (Cp p (k+1) n size st=Fz (Cp p k) (GP (size+d.own) rest++DG (size+d.own) xk) a.1.2)) (b0:=((g,st1),_)) rfl ⟨hf,hfit1,hun,⟨?_⟩⟩ ?_ ?_
       .exact hv.out
       .clear hf hfit1 hun hv hr1 hr2 i hi him g st1 c;rintro i r ⟨⟨g,st1⟩,c⟩ hy hi him ⟨hf,hfit1,hun,hv⟩ IH;dsimp only at*;refine aw ?_;refine Ab (ih.out r.node (size+d.own) st1 _ _ l sz mt df hun hfit1 (by omega) (by omega) (KJ hid2.out _) (Gz (Gz hf hid2.out ?_) hid2.out ?_).looks) (fun o1 g1 p1=>?_)
        .simp only[List.mem_cons,List.not_mem_nil,or_false,forall_eq_or_imp,forall_eq];omega
        .simp only[List.mem_cons,List.not_mem_nil,or_false,forall_eq_or_imp,forall_eq];omega
        cases hvy:Cp p k r.node (size+d.own) st1 with
        |none=>
         obtain rfl:=p1.pan hvy;clear p1;refine aw ?_;refine DC (hv.out.trans ?_);simp only[GP,List.map_cons,List.cons_append,Fz,hvy]
        |some st2=>
         obtain⟨rfl,hl2,hfr⟩:=p1.ret st2 hvy;have hfr:=AA.mk hfr;clear p1;refine aw ?_;have hgr:=Eg p _ _ _ _ _ hvy;refine IH.out ((_,st2),_) ⟨Nv (Gz (Gz hf hid2.out ?_) hid2.out ?_) hid2.out ?_ hl2 hfr.out,NW hfit1 hgr,Nat.le_trans hgr.less hun,⟨?_⟩⟩
         .simp only[List.mem_cons,List.not_mem_nil,or_false,forall_eq_or_imp,forall_eq];omega
         .simp only[List.mem_cons,List.not_mem_nil,or_false,forall_eq_or_imp,forall_eq];omega
         .simp only[List.mem_cons,List.not_mem_nil,or_false,forall_eq_or_imp,forall_eq];omega
         .rw[hv.out];simp only[GP,List.map_cons,List.cons_append,Fz,hvy]
       .clear hf hfit1 hun hv hr1 hr2 i hi him g st1 c;rintro i ⟨⟨g,st1⟩,c⟩ hi him ⟨hf,hfit1,hun,hv⟩;dsimp only at*;have hr1:=hf.node _ (List.mem_cons_self ..);have hr2:=hf.node _ (List.mem_cons_of_mem _ (List.mem_cons_self ..));dsimp only at hr1 hr2;refine aw ?_;refine AX xk _ (fun m i a=>⟨[(0,.ptr l 0),(2,.d (.int .i64 (size+(d.own:Int)))),(220,.d (.lst (xk.map AO))),(221,.d (.int .i64 m)),(222,.d (.int .i64 i))],a.1.1,a.2+144,[]⟩)
         (Inv:=fun i rest a=>oU p l sz mt df h π [(131,.box [.d (.lst (d.chans.map BK)),.d (.lst (d.spots.map BB)),.d (.lst (d.rules.map BJ))]),(46,.box [.d (.int .i64 4),.d (.int .i64 xn),.d (.lst (xa.map Bs)),.d (.lst (xk.map AO))])] a.1.2 a.1.1∧a.1.2.fit p∧Jz a.1.2.met≤k∧AA (Cp p (k+1) n size st=Fz (Cp p k) (DG (size+d.own) rest) a.1.2)) (b0:=((g,st1),_)) ?_ ⟨hf,hfit1,hun,⟨?_⟩⟩ ?_ ?_
        .omega
        .exact hv.out
        .clear hf hfit1 hun hv hr1 hr2 i hi him g st1 c;rintro i y ⟨⟨g,st1⟩,c⟩ hy hi him ⟨hf,hfit1,hun,hv⟩ IH;dsimp only at*;refine aw ?_;refine Ab (ih.out y (size+d.own) st1 _ _ l sz mt df hun hfit1 (by omega) (by omega) (KJ hid2.out _) hf.looks) (fun o1 g1 p1=>?_);cases hvy:Cp p k y (size+d.own) st1 with
         |none=>
          obtain rfl:=p1.pan hvy;clear p1;refine aw ?_;refine DC (hv.out.trans ?_);simp only[DG,List.map_cons,List.cons_append,Fz,hvy]
         |some st2=>
          obtain⟨rfl,hl2,hfr⟩:=p1.ret st2 hvy;have hfr:=AA.mk hfr;clear p1;refine aw ?_;have hgr:=Eg p _ _ _ _ _ hvy;refine IH.out ((_,st2),_) ⟨Nv hf hid2.out ?_ hl2 hfr.out,NW hfit1 hgr,Nat.le_trans hgr.less hun,⟨?_⟩⟩
          .simp only[List.mem_cons,List.not_mem_nil,or_false,forall_eq_or_imp,forall_eq];omega
          .rw[hv.out];simp only[DG,List.map_cons,List.cons_append,Fz,hvy]
        .clear hf hfit1 hun hv hr1 hr2 i hi him g st1 c;rintro i ⟨⟨g,st1⟩,c⟩ hi him ⟨hf,hfit1,hun,hv⟩;dsimp only at*;refine aw ?_;refine⟨fun st' hst=>?_,fun hst=>?_⟩
         .rw[hv.out]at hst;cases hst;exact⟨rfl,hf.looks,hf.frame⟩
         .rw[hv.out]at hst;cases hst
     .have hno:AA (Cp p (k+1) n size st=none):=by
       refine⟨?_⟩;rw[hs.out,hinto.out,htd];split
       .rw[if_neg (by simpa using hgt)]
       .rfl
      cases t
      .have hg:d.okG=false:=by simpa using hgt
       (repeat' (first|simp only[go_sem, *,Gk,LR,NJ]|(refine sx ?_ ?_<;>intro hc)|refine sy (by omega) fun x hx hm=>?_|simp(disch:=first|assumption|omega) only[wrap_id,AK,AH,slice_int]))
       all_goals try(exfalso;omega)
       all_goals try(exact DC hno.out)
       rw[Lb]
       (repeat' (first|simp only[go_sem, *,NJ]|(refine sx ?_ ?_<;>intro hc)|refine sy (by omega) fun x hx hm=>?_|simp(disch:=first|assumption|omega) only[wrap_id,AK,AH,slice_int]))
       try exact DC hno.out
      ·(repeat' (first|simp only[go_sem, *,Gk,LR]|(refine sx ?_ ?_<;>intro hc)|refine sy (by omega) fun x hx hm=>?_|simp(disch:=first|assumption|omega) only[wrap_id,AK,AH,slice_int]))
       all_goals try(exfalso;omega)
       all_goals (exact DC hno.out)
    have hop:xo=1∨xo=7∨xo=3∨(xo=2∧3<(xa.length:Int))∨(xo=2∧ ¬3<(xa.length:Int))∨xo=5∨xo=6∨xo=8∨(¬xo=1∧ ¬xo=7∧ ¬xo=3∧ ¬xo=2∧ ¬xo=5∧ ¬xo=6∧ ¬xo=8):=by omega
    rcases hop with rfl|rfl|rfl|⟨rfl,ha⟩|⟨rfl,ha⟩|rfl|rfl|rfl|⟨n1,n2,n3,n4,n5,n6,n7⟩;all_goals ((repeat' (first|simp only[go_sem, *,Gk,LR]|(refine sx ?_ ?_<;>intro hc)|refine sy (by omega) fun x hx hm=>?_|simp(disch:=first|assumption|omega) only[wrap_id,AK,AH,slice_int])))
    all_goals try(exfalso;omega)
    all_goals try(exact DC (hbad.out (by clear e1 e2 e3 e4 e5 e6 e7 e8 lbox lmt lsz hs hbad ih hn0;grind [EC,FT,uo,J5])))
    all_goals
     refine AX xa _ (fun m i a=>⟨[(0,.ptr l 0),(2,.d (.int .i64 size)),(6,.ptr (0::46::π) 0),(154,.d (.lst (xa.map Bs))),(155,.d (.int .i64 m)),(156,.d (.int .i64 i))],a.1,a.2+60,[]⟩)
      (Inv:=fun i rest a=>oU p l sz mt df h π _ (st.meet n size) a.1∧AA (xa.all (B4.ok size)=rest.all (B4.ok size))) (b0:=(_,_)) ?_ ⟨hn0.out _ _,⟨rfl⟩⟩ ?_ ?_
     .omega
     .rintro i y ⟨g,c⟩ hy hi him ⟨hf,hr⟩ IH;dsimp only at*;try(exfalso;omega)
      all_goals ((repeat' (first|simp only[go_sem, *,qB]|(refine sx ?_ ?_<;>intro hc)|refine sy (by omega) fun x hx hm=>?_|simp(disch:=first|assumption|omega) only[wrap_id,AK,AH,slice_int])))
      all_goals first
      |exact DC (hbad.out (by simp only[EC,hr.out,List.all_cons, *,Bool.false_and,Bool.and_false]))
      |(refine IH.out (_,_) ⟨Gz (Gz hf hid2.out ?_) hid2.out ?_,⟨?_⟩⟩
        .intro q hq;cases List.mem_singleton.1 hq;dsimp only;omega
        .intro q hq;cases List.mem_singleton.1 hq;dsimp only;omega
        .rw[hr.out,List.all_cons];simp only[*,Bool.true_and])
     .rintro i ⟨g,c⟩ hi him ⟨hf,hr⟩;dsimp only at*;have hnode:=hf.node _ (List.mem_cons_self ..);dsimp only at hnode;refine aw ?_;refine AX xk _ (fun m i a=>⟨[(0,.ptr l 0),(2,.d (.int .i64 size)),(220,.d (.lst (xk.map AO))),(221,.d (.int .i64 m)),(222,.d (.int .i64 i))],a.1.1,a.2+60,[]⟩)
       (Inv:=fun i rest a=>oU p l sz mt df h π _ a.1.2 a.1.1∧a.1.2.fit p∧Jz a.1.2.met≤k∧AA (Cp p (k+1) n size st=Fz (Cp p k) (DG size rest) a.1.2)) (b0:=((_,st.meet n size),_)) ?_ ⟨hf,YC hfit _ _,?_,⟨?_⟩⟩ ?_ ?_
      .omega
      .have:=H6 ht;simp only[Bu.meet];omega
      .rw[hs.out,if_pos,VK]
       .rfl
       .have hall:xa.all (B4.ok size)=true:=by rw[hr.out];rfl
        clear e1 e2 e3 e4 e5 e6 e7 e8 lbox lmt lsz hs hbad ih hn0 hf hr hnode;grind [EC,FT,uo,J5]
      .rintro i y ⟨⟨g,st1⟩,c⟩ hy hi him ⟨hf,hfit1,hun,hv⟩ IH;dsimp only at*;try(exfalso;omega)
       all_goals (refine aw ?_)
       all_goals
       refine Ab (ih.out y size st1 g _ l sz mt df hun hfit1 h0 (by omega) (KJ hid2.out _) hf.looks) (fun o1 g1 p1=>?_);cases hvy:Cp p k y size st1 with
       |none=>
        obtain rfl:=p1.pan hvy;clear p1;refine aw ?_;refine DC (hv.out.trans ?_);simp only[DG,List.map_cons,Fz,hvy]
       |some st2=>
        obtain⟨rfl,hl2,hfr⟩:=p1.ret st2 hvy;have hfr:=AA.mk hfr;clear p1;refine aw ?_;have hgr:=Eg p _ _ _ _ _ hvy;refine IH.out ((_,st2),_) ⟨Nv hf hid2.out ?_ hl2 hfr.out,NW hfit1 hgr,Nat.le_trans hgr.less hun,⟨?_⟩⟩
        .intro q hq;cases List.mem_singleton.1 hq;dsimp only;omega
        .rw[hv.out];simp only[DG,List.map_cons,Fz,hvy]
      .rintro i ⟨⟨g,st1⟩,c⟩ hi him ⟨hf,hfit1,hun,hv⟩;dsimp only at*;refine aw ?_;refine⟨fun st' hst=>?_,fun hst=>?_⟩
       .rw[hv.out]at hst;cases hst;exact⟨rfl,hf.looks,hf.frame⟩
       .rw[hv.out]at hst;cases hst
  .have e:Cp p (k+1) n size st=none:=by
    rw[Cp];split
    .rename_i hh;have:=AI hh.2;rw[hfit.met]at this;omega
    .rfl
   rw[e];exact LB p hN n size st h π l sz mt df hfit hid2.out hl2.out fun _ h=>absurd h hn2
 .have e:Cp p (k+1) n size st=none:=by
   rw[Cp,if_neg fun hh=>hn hh.1]
  rw[e];exact LB p hN n size st h π l sz mt df hfit hid2.out hl2.out fun h=>absurd h hn
end Go.Proofs
namespace Go.Proofs
open Go Go.Abs
set_option maxRecDepth 100000
set_option maxHeartbeats 4000000
def Si(x:Bool):List Bool→Int→Int
 |[],_=> -1
 |y::l,i=>if (x==y)=true then i else Si x l (i+1)
theorem Xx(v:Bool): ∀(l:List Bool) (i:Int),0≤i→(0≤Si v l i↔v∈l)
 |[],i,h=>by simp[Si]
 |y::l,i,h=>by
  rw[Si];split
  .rename_i e;have:v=y:=by simpa using e
   simp[this,h]
  .rename_i e;have: ¬v=y:=by simpa using e
   rw[Xx v l (i+1) (by omega)];simp[this]
@[go_sem] theorem ABt(l:List Bool)(v:Bool)(hl:l.length≤1000000):BM (KL Tryz.prog cfg) 216 [.d (.lst (l.map DS)),.d (.bool v)] []=.ok (.ret (.d (.int .i64 (Si v l 0))),[]):=by
  (refine Ay rfl Tryz.func216 rfl rfl rfl ?_;show Wp _ _ _ _ (Tryz.f216.body.get rfl) _ _;simp only[Tryz.f216,Option.get_some])
  refine aw ?_;refine C8 l (S:=fun i (u:Unit)=>⟨[(0,.d (.lst (l.map DS))),(1,.d (.bool v)),(7,.d (.int .i64 l.length)),(8,.d (.int .i64 i))],[],0,[]⟩) (Inv:=fun i rest _=>AA (Si v l 0=Si v rest i)) (b0:=()) ⟨rfl⟩ ?_ ?_
  .rintro i y ⟨⟩ hy hi him hr IH
   (repeat' (first|simp only[go_sem, *]|(refine sx ?_ ?_<;>intro hc)|refine sy (by omega) fun x hx hm=>?_|simp(disch:=first|assumption|omega) only[wrap_id,AK,AH,slice_int]))
   .rw[hr.out,Si,if_pos (by assumption)]
   .refine IH.out () ⟨?_⟩;rw[hr.out,Si,if_neg (by simp[*])];rfl
  .rintro i ⟨⟩ hi him hr;refine aw ?_;rw[hr.out,Si]
@[go_sem] theorem KA(l:List Bool)(v:Bool)(hl:l.length≤1000000):BM (KL Tryz.prog cfg) 202 [.d (.lst (l.map DS)),.d (.bool v)] []=.ok (.ret (.d (.bool (decide (v∈l)))),[]):=by
  have h:=Xx v l 0 (by omega)
  (refine Ay rfl Tryz.func202 rfl rfl rfl ?_;show Wp _ _ _ _ (Tryz.f202.body.get rfl) _ _;simp only[Tryz.f202,Option.get_some])
  exact au
theorem Jr(g:G)(id:Abs.Id)(n:Nat)(h:0<n)(hm:n≤1073741824):FJ g id n {kind:=TK.int,size:=1,agg:=false,str:=false,zero:=[.d (.int .i64 0)],flds:=[],elem:=0,key:=0,mix:=false}=some ⟨.osl (1::id) 0 n,[(1::id,.darr 1 ((List.replicate n (0:Int)).map AO))]⟩:=by
 have e:(List.replicate n (0:Int)).map AO=List.replicate n [.int .i64 0]:=by rw[List.map_replicate];rfl
 rw[e];exact Tj (zs:=[.int .i64 0]) h (by unfold A4;omega) rfl rfl (by decide) rfl
theorem Oh(g:G)(id:Abs.Id)(n:Nat)(h:0<n)(hm:n≤1073741824):FJ g id n {kind:=TK.bool,size:=1,agg:=false,str:=false,zero:=[.d (.bool false)],flds:=[],elem:=0,key:=0,mix:=false}=some ⟨.osl (1::id) 0 n,[(1::id,.darr 1 ((List.replicate n false).map DS))]⟩:=by
 have e:(List.replicate n false).map DS=List.replicate n [.bool false]:=by rw[List.map_replicate];rfl
 rw[e];exact Tj (zs:=[.bool false]) h (by unfold A4;omega) rfl rfl (by decide) rfl
theorem GQ(i t j:Nat)(π:List Nat)(h:i≠j):Id.under (i::π) (t::j::π)=false:=DW fun hs=>by
 rcases List.suffix_cons_iff.1 hs with e|hs
 .have:=congrArg List.length e;simp at this
 rcases List.suffix_cons_iff.1 hs with e|hs
 .simp only[List.cons.injEq,and_true]at e;exact h e
 .have:=hs.length_le;simp at this;omega
theorem vC(l:List Bool):l.all id=true↔ ¬false∈l:=by
 induction l with
 |nil=>simp
 |cons b l ih=>cases b<;>simp
theorem X7{p:AJ}{st:Bu}(hs:p.small=true)(hf:Q1 p.free=true)(hv:Cp p (p.nodes.length+1) p.main p.free.length (Bu.init p)=some st):looks p=if (¬false∈st.met)∧(¬false∈st.defs)then some st else none:=by
 unfold looks;rw[if_pos ⟨hs,hf⟩,hv];simp only[vC]
theorem tg{id:Abs.Id}{n:Nat}(h:n=0):slv id n=.emp:=by rw[slv,if_pos h]
@[go_sem] theorem uk(v:Bool):BM (KL Tryz.prog cfg) 202 [.d (.lst []),.d (.bool v)] []=.ok (.ret (.d (.bool false)),[]):=by
  have:=KA [] v (by simp);simpa using this
structure oO(p:AJ)(π:List Nat)(r:AZ×AB):Prop where
 pan:looks p=none→r=(.pan GW,[])
 ret: ∀st,looks p=some st→ ∃h,r=(.ret (.ptr (0::16::π) 0),h)∧H8 h p (0::16::π) (1::6::π) (1::10::π) (1::14::π) st∧ ∀id',Id.under π id'=false→h.get id'=none
theorem xJ(p:AJ)(hp: ∀s∈p.free,s.size≤maxLen)(k:Nat)(ρ:List Nat): ∃r:AZ×AB,BM (KL Tryz.prog cfg) 190 [.agg [.d (.lst (p.free.map Bt)),.d (.lst (p.nodes.map BQ)),.d (.lst (p.defs.map B6)),.d (.int .i64 p.main)]] (k::ρ)=.ok r∧oO p (k::ρ) r:=by
 have hp:=AA.mk hp;by_cases hs:p.small=true
 ·(refine Gm rfl Tryz.func190 rfl rfl rfl ?_;show Wp _ _ _ _ (Tryz.f190.body.get rfl) _ _;simp only[Tryz.f190,Option.get_some])
  have hs2:=AA.mk hs;simp only[AJ.small,Bool.and_eq_true,decide_eq_true_eq]at hs;obtain⟨c1,c2,c3⟩:=hs;have c1:(p.free.length:Int)≤12:=by omega
  have c2:(p.nodes.length:Int)≤60:=by omega
  have c3:(p.defs.length:Int)≤12:=by omega
  refine aw ?_;refine AX p.free _ (S:=fun m i (u:Unit)=>⟨[(1,.ptr (0::0::k::ρ) 0),(24,.d (.lst (p.free.map Bt))),(25,.d (.int .i64 m)),(26,.d (.int .i64 i))],[(0::0::k::ρ,.box [.d (.lst (p.free.map Bt)),.d (.lst (p.nodes.map BQ)),.d (.lst (p.defs.map B6)),.d (.int .i64 p.main)])],1,[]⟩)
   (Inv:=fun i rest _=>AA (Q1 p.free=K1 (if i=0 then none else p.free[i-1]?) rest)) (b0:=()) rfl ⟨rfl⟩ ?_ ?_
  .rintro i y ⟨⟩ hy hi him hr IH;have hys:=hp.out y (List.mem_of_getElem? hy);have hnm:=yg y hys;have hbad:AA (Q1 p.free=false→looks p=none):=.mk fun hf=>by
    rw[looks,if_neg (by rw[hf];simp)]
   rcases i with _|j
   .rw[if_pos rfl]at hr;have him0:(0:Int)<p.free.length:=by omega
    (repeat' (first|simp only[go_sem, *]|(refine sx ?_ ?_<;>intro hc)|refine sy (by omega) fun x hx hm=>?_|simp(disch:=first|assumption|omega) only[wrap_id,AK,AH,slice_int]))
    all_goals first
    |(exact⟨fun _=>rfl,fun st hst=>by rw[hbad.out (by rw[hr.out,K1];simp only[*,Bool.false_and])]at hst;cases hst⟩)
    |(refine IH.out () ⟨?_⟩
      rw[hr.out,K1,if_neg (by omega)];simp only[*,Bool.true_and];try rfl)
   .obtain⟨b,hb⟩:=get_some (l:=p.free) (i:=j) (by omega);rw[if_neg (by omega),Nat.add_sub_cancel,hb]at hr;have w:IntKind.i64.wrap (((j+1:Nat):Int)-1)=(j:Int):=by rw[wrap_id (by omega) (by omega)];omega
    have w0: ¬((j+1:Nat):Int)=0:=by omega
    (repeat' (first|simp only[go_sem, *]|(refine sx ?_ ?_<;>intro hc)|refine sy (by omega) fun x hx hm=>?_|simp(disch:=first|assumption|omega) only[wrap_id,AK,AH,slice_int]))
    .refine IH.out () ⟨?_⟩;rw[hr.out,K1,if_neg (by omega),Nat.add_sub_cancel,hy];simp only[tt, *,Bool.true_and]
    .exact⟨fun _=>rfl,fun st hst=>by rw[hbad.out (by rw[hr.out,K1];simp only[tt, *,Bool.false_and,Bool.and_false])]at hst;cases hst⟩
    .exact⟨fun _=>rfl,fun st hst=>by rw[hbad.out (by rw[hr.out,K1];simp only[*,Bool.false_and])]at hst;cases hst⟩
  .rintro i ⟨⟩ hi him hr;have hfree:AA (Q1 p.free=true):=⟨hr.out⟩;clear hr;by_cases hN0:p.nodes.length=0
   .have e:looks p=none:=by
     unfold looks;split
     .have:Cp p (p.nodes.length+1) p.main p.free.length (Bu.init p)=none:=by
       rw[Cp,if_neg];intro hh;have:=AI hh.2;simp[Bu.init]at this;omega
      rw[this]
     .rfl
    by_cases hD0:p.defs.length=0;all_goals
     (repeat' (first|simp only[go_sem, *]|(refine sx ?_ ?_<;>intro hc)|refine sy (by omega) fun x hx hm=>?_|simp(disch:=first|assumption|omega) only[wrap_id,AK,AH,slice_int,Jr,Oh]))
     refine Ab (LB p (by omega) p.main p.free.length (Bu.init p) _ _ (0::16::k::ρ) (1::6::k::ρ) (1::10::k::ρ) (1::14::k::ρ) ⟨?_,?_,?_⟩ ?_ ⟨?_,fun h=>absurd hN0 h,fun h=>absurd hN0 h,fun _=>?_⟩ ?_) (fun o1 g1 p1=>?_)
     .simp[Bu.init]
     .simp[Bu.init]
     .simp[Bu.init]
     .constructor<;>first|exact GQ _ _ _ _ (by decide)|simp only[go_sem]
     .simp only[slv,hN0,hD0,if_false,if_true];simp only[go_sem]
     .first|(exact absurd hD0 ‹_›)|simp only[go_sem,Bu.init]
     .omega
     obtain rfl:=p1.pan rfl;clear p1;refine aw ?_;exact⟨fun _=>rfl,fun st hst=>by rw[e]at hst;cases hst⟩
   .by_cases hD0:p.defs.length=0
    ·(repeat' (first|simp only[go_sem, *]|(refine sx ?_ ?_<;>intro hc)|refine sy (by omega) fun x hx hm=>?_|simp(disch:=first|assumption|omega) only[wrap_id,AK,AH,slice_int,Jr,Oh]))
     refine Ab (fL p (by omega) (by omega) (p.nodes.length+1) p.main p.free.length (Bu.init p) _ _ (0::16::k::ρ) (1::6::k::ρ) (1::10::k::ρ) (1::14::k::ρ) ?_ ⟨?_,?_,?_⟩ ?_ ?_ ?_ ⟨?_,fun _=>?_,fun _=>?_,fun _=>?_⟩) (fun o1 g1 p1=>?_)
     .have:=SA (Bu.init p).met;simp only[Bu.init,List.length_replicate]at*;omega
     .simp[Bu.init]
     .simp[Bu.init]
     .simp[Bu.init]
     .omega
     .omega
     .constructor<;>first|exact GQ _ _ _ _ (by decide)|simp only[go_sem]
     .simp only[slv,hN0,hD0,if_false,if_true];simp only[go_sem]
     .simp only[go_sem,Bu.init]
     .simp only[go_sem,Bu.init]
     .exact absurd hD0 ‹_›
     cases hv:Cp p (p.nodes.length+1) p.main p.free.length (Bu.init p)with
     |none=>
      obtain rfl:=p1.pan hv;have e:looks p=none:=by
       unfold looks;rw[hv];split<;>rfl
      clear p1;refine aw ?_;exact⟨fun _=>rfl,fun st hst=>by rw[e]at hst;cases hst⟩
     |some st=>
      obtain⟨rfl,hl,hfr⟩:=p1.ret st hv;clear p1;have hfr:=AA.mk hfr;have hlk: ∃x,looks p=x:=⟨_,rfl⟩;obtain⟨x,hlk⟩:=hlk;have hlk:=AA.mk hlk;have hL:=K6 (ρ:=24::k::ρ) hl (by constructor<;>first|exact GQ _ _ _ _ (by decide)|simp only[go_sem]);have hL:=AA.mk hL;obtain⟨b1,b2,b3,b4⟩:=hl;have b2:=b2 hN0;have b3:=b3 hN0;rw[DJ hN0,DJ hN0,tg hD0]at b1;have hg:=Eg p _ _ _ _ _ hv;have m1:st.met.length=p.nodes.length:=by rw[hg.met];simp[Bu.init]
      have m2:st.defs.length=p.defs.length:=by rw[hg.defs];simp[Bu.init]
      have gu: ∀(t j:Nat),24≠j→(gc (24::k::ρ) g1).get (t::j::k::ρ)=g1.get (t::j::k::ρ):=fun t j hj=>AU _ _ _ (GQ _ _ _ _ hj);have q1:=(gu 0 16 (by decide)).trans b1;have q2:=(gu 1 6 (by decide)).trans b2;have q3:=(gu 1 10 (by decide)).trans b3;clear gu;have tk1:List.take p.nodes.length (List.map DS st.met)=List.map DS st.met:=List.take_of_length_le (by simp[m1]);have dn:st.defs=[]:=List.eq_nil_of_length_eq_zero (by omega)
      (repeat' (first|simp only[go_sem, *,Nat.le_refl,q1,q2,q3]|(refine sx ?_ ?_<;>intro hc)|refine sy (by omega) fun x hx hm=>?_|simp(disch:=first|assumption|omega) only[wrap_id,AK,AH,slice_int,KA]))
      all_goals (have hlk:=hlk.out;subst hlk)
      all_goals (have hlk:=X7 hs2.out hfree.out hv)
      all_goals first
      |(refine⟨fun _=>rfl,fun st' hst=>?_⟩
        rw[hlk,if_neg (by simp[*])]at hst;cases hst)
      |(refine⟨fun hst=>?_,fun st' hst=>?_⟩
        .rw[hlk,if_pos (by simp[*])]at hst;cases hst
        .rw[hlk,if_pos (by simp[*])]at hst;cases hst;refine⟨_,rfl,hL.out,fun id' hu=>?_⟩;have hu1:=AG hu;rw[AU _ _ _ (AF hu _),hfr.out id' (AF hu _) (hu1 _ _) (hu1 _ _) (hu1 _ _)];simp only[go_sem,hu1,Bool.false_eq_true])
    ·(repeat' (first|simp only[go_sem, *]|(refine sx ?_ ?_<;>intro hc)|refine sy (by omega) fun x hx hm=>?_|simp(disch:=first|assumption|omega) only[wrap_id,AK,AH,slice_int,Jr,Oh]))
     refine Ab (fL p (by omega) (by omega) (p.nodes.length+1) p.main p.free.length (Bu.init p) _ _ (0::16::k::ρ) (1::6::k::ρ) (1::10::k::ρ) (1::14::k::ρ) ?_ ⟨?_,?_,?_⟩ ?_ ?_ ?_ ⟨?_,fun _=>?_,fun _=>?_,fun _=>?_⟩) (fun o1 g1 p1=>?_)
     .have:=SA (Bu.init p).met;simp only[Bu.init,List.length_replicate]at*;omega
     .simp[Bu.init]
     .simp[Bu.init]
     .simp[Bu.init]
     .omega
     .omega
     .constructor<;>first|exact GQ _ _ _ _ (by decide)|simp only[go_sem]
     .simp only[slv,hN0,hD0,if_false];simp only[go_sem]
     .simp only[go_sem,Bu.init]
     .simp only[go_sem,Bu.init]
     .simp only[go_sem,Bu.init]
     cases hv:Cp p (p.nodes.length+1) p.main p.free.length (Bu.init p)with
     |none=>
      obtain rfl:=p1.pan hv;have e:looks p=none:=by
       unfold looks;rw[hv];split<;>rfl
      clear p1;refine aw ?_;exact⟨fun _=>rfl,fun st hst=>by rw[e]at hst;cases hst⟩
     |some st=>
      obtain⟨rfl,hl,hfr⟩:=p1.ret st hv;clear p1;have hfr:=AA.mk hfr;have hlk: ∃x,looks p=x:=⟨_,rfl⟩;obtain⟨x,hlk⟩:=hlk;have hlk:=AA.mk hlk;have hL:=K6 (ρ:=24::k::ρ) hl (by constructor<;>first|exact GQ _ _ _ _ (by decide)|simp only[go_sem]);have hL:=AA.mk hL;obtain⟨b1,b2,b3,b4⟩:=hl;have b2:=b2 hN0;have b3:=b3 hN0;have b4:=b4 hD0;rw[DJ hN0,DJ hN0,DJ hD0]at b1;have hg:=Eg p _ _ _ _ _ hv;have m1:st.met.length=p.nodes.length:=by rw[hg.met];simp[Bu.init]
      have m2:st.defs.length=p.defs.length:=by rw[hg.defs];simp[Bu.init]
      have gu: ∀(t j:Nat),24≠j→(gc (24::k::ρ) g1).get (t::j::k::ρ)=g1.get (t::j::k::ρ):=fun t j hj=>AU _ _ _ (GQ _ _ _ _ hj);have q1:=(gu 0 16 (by decide)).trans b1;have q2:=(gu 1 6 (by decide)).trans b2;have q3:=(gu 1 10 (by decide)).trans b3;have q4:=(gu 1 14 (by decide)).trans b4;clear gu;have tk1:List.take p.nodes.length (List.map DS st.met)=List.map DS st.met:=List.take_of_length_le (by simp[m1]);have tk2:List.take p.defs.length (List.map DS st.defs)=List.map DS st.defs:=List.take_of_length_le (by simp[m2])
      (repeat' (first|simp only[go_sem, *,Nat.le_refl,q1,q2,q3,q4]|(refine sx ?_ ?_<;>intro hc)|refine sy (by omega) fun x hx hm=>?_|simp(disch:=first|assumption|omega) only[wrap_id,AK,AH,slice_int,KA]))
      all_goals (have hlk:=hlk.out;subst hlk)
      all_goals (have hlk:=X7 hs2.out hfree.out hv)
      all_goals first
      |(refine⟨fun _=>rfl,fun st' hst=>?_⟩
        rw[hlk,if_neg (by simp[*])]at hst;cases hst)
      |(refine⟨fun hst=>?_,fun st' hst=>?_⟩
        .rw[hlk,if_pos (by simp[*])]at hst;cases hst
        .rw[hlk,if_pos (by simp[*])]at hst;cases hst;refine⟨_,rfl,hL.out,fun id' hu=>?_⟩;have hu1:=AG hu;rw[AU _ _ _ (AF hu _),hfr.out id' (AF hu _) (hu1 _ _) (hu1 _ _) (hu1 _ _)];simp only[go_sem,hu1,Bool.false_eq_true])
 .have e:looks p=none:=by
   unfold looks;rw[if_neg fun h=>hs h.1]
  have hs: ¬(p.free.length≤12∧p.nodes.length≤60∧p.defs.length≤12):=by
   intro h;apply hs;simp only[AJ.small,Bool.and_eq_true,decide_eq_true_eq];exact h
  have hs:=AA.mk hs
  (refine Gm rfl Tryz.func190 rfl rfl rfl ?_;show Wp _ _ _ _ (Tryz.f190.body.get rfl) _ _;simp only[Tryz.f190,Option.get_some])
  (repeat' (first|simp only[go_sem, *]|(refine sx ?_ ?_<;>intro hc)|refine sy (by omega) fun x hx hm=>?_|simp(disch:=first|assumption|omega) only[wrap_id,AK,AH,slice_int]))
  all_goals first
  |exact⟨fun _=>rfl,fun st hst=>by rw[e]at hst;cases hst⟩
  |(have hs:=hs.out;exfalso;omega)
end Go.Proofs
namespace Go.Proofs
open Go Go.Abs
set_option maxRecDepth 100000
set_option maxHeartbeats 4000000
def U6(b:Bool):List AW:=[.int .i64 (if b then 1 else 0)]
theorem p6:U6 true=[.int .i64 1]:=rfl
theorem py:U6 false=[.int .i64 0]:=rfl
attribute [go_sem] p6 py
def ACk(p:AJ)(sz ow us:Abs.Id)(bad:Bool):Abs.Obj:=.box [.d (.lst (p.free.map Bt)),.d (.lst (p.nodes.map BQ)),.d (.lst (p.defs.map B6)),.d (.int .i64 p.main),slv sz p.nodes.length,slv ow p.nodes.length,slv us p.defs.length,.d (.bool bad)]
structure Zd(h:AB)(p:AJ)(l sz ow us:Abs.Id)(st:Bu)(bad:Bool):Prop where
 box:h.get l=some (ACk p sz ow us bad)
 sizes:bad=false→p.nodes.length≠0→h.get sz=some (.darr 1 (st.sizes.map AO))
 met:bad=false→p.nodes.length≠0→h.get ow=some (.darr 1 (st.met.map U6))
 defs:bad=false→p.defs.length≠0→h.get us=some (.darr 1 (st.defs.map U6))
 ks:p.nodes.length≠0→ ∃A,h.get sz=some (.darr 1 A)
 km:p.nodes.length≠0→ ∃A,h.get ow=some (.darr 1 A)
 kd:p.defs.length≠0→ ∃A,h.get us=some (.darr 1 A)
theorem Zd.any{h:AB}{p:AJ}{l sz ow us:Abs.Id}{st st0:Bu}(hl:Zd h p l sz ow us st true):Zd h p l sz ow us st0 true:=⟨hl.box,fun h=>(by cases h),fun h=>(by cases h),fun h=>(by cases h),hl.ks,hl.km,hl.kd⟩
end Go.Proofs
namespace Go.Proofs
open Go Go.Abs
set_option maxRecDepth 100000
set_option maxHeartbeats 4000000
theorem td{p:AJ}{st:Bu}{h:AB}{l sz mt df:Abs.Id}{i:Nat}{s:Int}(hl:H8 h p l sz mt df st)(hi:i<p.nodes.length)(hs:st.sizes[i]? =some s)(hz:st.sizes.length=p.nodes.length)(π:List Nat):KL Tryz.prog cfg (.fn 166) [.ptr l 0,.d (.int .i64 i)] h π true none=.ok (.ret (.d (.int .i64 s)),h):=by
 obtain⟨b1,b2,b3,b4⟩:=hl;have hN:p.nodes.length≠0:=by omega
 have b2:=b2 hN;rw[DJ hN,DJ hN]at b1;refine AB2 rfl Tryz.func166 rfl rfl rfl ?_;show Wp _ _ _ _ (Tryz.f166.body.get rfl) _ _;simp only[Tryz.f166,Option.get_some];exact au
theorem Jq{p:AJ}{l sz mt df:Abs.Id}{π:List Nat}{st:Bu}{g:AB}(hf:H8 g p l sz mt df st)(hi:uy π l sz mt df)(t j:Nat)(o:Abs.Obj):H8 (g.put (t::j::π) o) p l sz mt df st:=
 ⟨by rw[get_put,AG hi.ul];exact hf.box,fun hn=>by rw[get_put,AG hi.us];exact hf.sizes hn,fun hn=>by rw[get_put,AG hi.um];exact hf.met hn,fun hn=>by rw[get_put,AG hi.ud];exact hf.defs hn⟩
theorem vA(p:AJ)(hN:p.nodes.length≤60)(st:Bu)(h:AB)(π:List Nat)(l sz mt df a b:Abs.Id)(hl:H8 h p l sz mt df st)(hz:st.sizes.length=p.nodes.length)(hid:uy π l sz mt df)
 (ha:h.get a=some (.box [.d (.lst (p.free.map Bt)),.d (.lst (p.nodes.map BQ)),.d (.lst (p.defs.map B6)),.d (.int .i64 p.main)])) (hb:h.get b=some (.box [.fn 166 [] []])) (ua:Id.under π a=false) (ub:Id.under π b=false) (hp:0<p.nodes.length):
 ∃o h',KL Tryz.prog cfg (.fn 187) [.ptr l 0,.ptr a 0,.ptr b 0] h π true none=.ok (o,h')∧(∃j,o=.ret (.osl (1::j::π) 0 p.nodes.length)∧h'.get (1::j::π)=some (.darr 1 (st.sizes.map AO)))∧ ∀id',Id.under π id'=false→h'.get id'=h.get id':=by
 (refine Ak rfl Tryz.func187 rfl rfl rfl ?_;show Wp _ _ _ _ (Tryz.f187.body.get rfl) _ _;simp only[Tryz.f187,Option.get_some])
 have hid:=AA.mk hid;have hl:=AA.mk hl;have hz2:=AA.mk hz;have u1:=AG ub;have u2:=AF ub;refine aw ?_;refine AX st.sizes _ (fun m i a=>⟨[(0,.ptr l 0),(2,.ptr b 0),(5,a.1.2),(9,.d (.int .i64 m)),(10,.d (.int .i64 i))],a.1.1,a.2+6,[]⟩)
  (Inv:=fun i rest a=>AA (H8 a.1.1 p l sz mt df st)∧a.1.1.get b=some (.box [.fn 166 [] []])∧AA (∀id',Id.under π id'=false→a.1.1.get id'=h.get id')∧AA (i=0∧a.1.2=.nils∨ ∃j,j<a.2+6∧a.1.2=.osl (1::j::π) 0 i∧a.1.1.get (1::j::π)=some (.darr 1 ((st.sizes.take i).map AO)))) (b0:=((h,.nils),0)) ?_ ⟨hl,hb,⟨fun _ _=>rfl⟩,⟨.inl ⟨rfl,rfl⟩⟩⟩ ?_ ?_
 .omega
 .rintro i y ⟨⟨g,v⟩,c⟩ hy hi him ⟨hl,hb,hfr,hv⟩ IH;dsimp only at*;have hk:=fun ρ=>td hl.out (by omega) hy hz ρ;rcases hv.out with⟨rfl,rfl⟩|⟨j,hj,rfl,hj2⟩
  .clear hv;have him0:(0:Int)<p.nodes.length:=by omega
   have hk: ∀ρ,KL Tryz.prog cfg (.fn 166) [.ptr l 0,.d (.int .i64 0)] g ρ true none=.ok (.ret (.d (.int .i64 y)),g):=hk;refine aw ?_;refine IH.out ((_,_),_) ⟨⟨Jq (Jq (K6 hl.out (KJ hid.out _)) hid.out _ _ _) hid.out _ _ _⟩,?_,⟨fun id' hu=>?_⟩,⟨.inr ⟨_,?_,rfl,?_⟩⟩⟩
   .simp only[go_sem,u1,u2,hb]
   .have hu1:=AG hu;have hu2:=AF hu;simp only[go_sem,hu1,hu2,hfr.out id' hu,Bool.false_eq_true]
   .omega
   .simp only[go_sem];rw[List.take_succ,hy];rfl
  .clear hv;have n1: ¬c+13=j:=by omega
   have n2: ¬c+14=j:=by omega
   have n3: ¬c+15=j:=by omega
   have tk:(st.sizes.take i).length=i:=by simp;omega
   have nle: ¬i+1≤i:=by omega
   (repeat' (first|simp only[go_sem, *,Nat.le_refl]|(refine sx ?_ ?_<;>intro hc)|refine sy (by omega) fun x hx hm=>?_|simp(disch:=first|assumption|omega) only[wrap_id,AK,AH,slice_int]))
   refine IH.out ((_,_),_) ⟨⟨Jq (Jq (Jq (K6 hl.out (KJ hid.out _)) hid.out _ _ _) hid.out _ _ _) hid.out _ _ _⟩,?_,⟨fun id' hu=>?_⟩,⟨.inr ⟨_,?_,rfl,?_⟩⟩⟩
   .simp only[go_sem,u1,u2,hb]
   .have hu1:=AG hu;have hu2:=AF hu;simp only[go_sem,hu1,hu2,hfr.out id' hu,Bool.false_eq_true]
   .omega
   .simp only[go_sem];have:List.take i (List.map AO (List.take i st.sizes))=List.map AO (List.take i st.sizes):=List.take_of_length_le (by simp;omega);rw[this,List.take_succ,hy,List.map_append];rfl
 .rintro i ⟨⟨g,v⟩,c⟩ hi him ⟨hl,hb,hfr,hv⟩;dsimp only at*;rcases hv.out with⟨rfl,rfl⟩|⟨j,hj,rfl,hj2⟩
  .exfalso;omega
  .clear hv;refine aw ?_;have hiN:=hi.out;refine⟨⟨_,by rw[hiN,hz],?_⟩,hfr.out⟩;rw[hj2,hiN,List.take_length]
theorem Dv(i t j k:Nat)(π:List Nat)(h:i≠k):Id.under (i::π) (t::j::k::π)=false:=DW fun hs=>by
 rcases List.suffix_cons_iff.1 hs with e|hs
 .have:=congrArg List.length e;simp at this
 rcases List.suffix_cons_iff.1 hs with e|hs
 .have:=congrArg List.length e;simp at this
 rcases List.suffix_cons_iff.1 hs with e|hs
 .simp only[List.cons.injEq,and_true]at e;exact h e
 .have:=hs.length_le;simp at this;omega
theorem kT{g h:AB}{p:AJ}{l sz mt df:Abs.Id}{st:Bu}(hl:H8 g p l sz mt df st):H8 (g++h) p l sz mt df st:=⟨Bw hl.box,fun hn=>Bw (hl.sizes hn),fun hn=>Bw (hl.met hn),fun hn=>Bw (hl.defs hn)⟩
structure Zc(p:AJ)(o:AZ)(h':AB):Prop where
 no:looks p=none→o=.ret (.tup [.nils,.d (.int .i64 2)])
 yes: ∀st,looks p=some st→ ∃id,o=.ret (.tup [.osl (1::id) 0 p.nodes.length,.d (.int .i64 0)])∧h'.get (1::id)=some (.darr 1 (st.sizes.map AO))
theorem kR(p:AJ)(hp: ∀s∈p.free,s.size≤maxLen)(h:AB)(π:List Nat)(a b:Abs.Id)
 (ha:h.get a=some (.box [.d (.lst (p.free.map Bt)),.d (.lst (p.nodes.map BQ)),.d (.lst (p.defs.map B6)),.d (.int .i64 p.main)])) (hb:h.get b=some (.box [.fn 166 [] []])) (ua:Id.under π a=false) (ub:Id.under π b=false):
 ∃o h',KL Tryz.prog cfg (.fn 186) [.agg [.d (.lst (p.free.map Bt)),.d (.lst (p.nodes.map BQ)),.d (.lst (p.defs.map B6)),.d (.int .i64 p.main)],.fn 187 [] [.ptr a 0,.ptr b 0]] h π true none=.ok (o,h')∧Zc p o h':=by
 (refine Ak rfl Tryz.func186 rfl rfl rfl ?_;show Wp _ _ _ _ (Tryz.f186.body.get rfl) _ _;simp only[Tryz.f186,Option.get_some])
 have hp:=AA.mk hp;have u1:=AG ua;have u2:=AF ua;have v1:=AG ub;have v2:=AF ub;obtain⟨r,e,hpost⟩:=xJ p hp.out 6 π;cases hlk:looks p with
 |none=>
  obtain rfl:=hpost.pan hlk;refine aw ?_;exact⟨fun _=>rfl,fun st hst=>by rw[hlk]at hst;cases hst⟩
 |some st=>
  obtain⟨hh,rfl,hL,hnew⟩:=hpost.ret st hlk;replace hnew:=AA.mk hnew;replace hL:=AA.mk hL;have hF:=AA.mk (Ek hlk);have hz:=hF.out.len;have hsm:=hF.out.small;simp only[AJ.small,Bool.and_eq_true,decide_eq_true_eq]at hsm;have hN:0<p.nodes.length:=by
   have h1:=hF.out.main.2;have:=AI h1;omega
  refine aw ?_;refine Ab (vA p hsm.2.1 st _ _ (0::16::6::π) (1::6::6::π) (1::10::6::π) (1::14::6::π) a b (kT hL.out) hz ?_ ?_ ?_ (u2 _) (v2 _) hN) (fun o1 g1 p1=>?_)
  .constructor<;>first|exact Dv _ _ _ _ _ (by decide)|simp only[go_sem]
  .rw[A0 (hnew.out a (u2 _))];simp only[go_sem,u1,ha,Bool.false_eq_true]
  .rw[A0 (hnew.out b (v2 _))];simp only[go_sem,v1,hb,Bool.false_eq_true]
  obtain⟨⟨j,rfl,r1⟩,fr⟩:=p1;have r2:=fr (0::2::π) (GQ _ _ _ _ (by decide));rw[A0 (hnew.out (0::2::π) (GQ _ _ _ _ (by decide)))]at r2;simp only[get_put,is_self,if_true]at r2;replace fr:=AA.mk fr;refine aw ?_;refine⟨fun hst=>by{rw[hlk]at hst;cases hst},fun st' hst=>?_⟩;rw[hlk]at hst;cases hst;exact⟨_,rfl,by simp only[go_sem,r1]⟩
def Jb:Option Bu→AV
 |none=>.tup [.d (.lst []),.d (.int .i64 2)]
 |some st=>.tup [.d (.lst (st.sizes.map AO)),.d (.int .i64 0)]
theorem vd(p:AJ)(hp: ∀s∈p.free,s.size≤maxLen):BM (KL Tryz.prog cfg) 165 [.agg [.d (.lst (p.free.map Bt)),.d (.lst (p.nodes.map BQ)),.d (.lst (p.defs.map B6)),.d (.int .i64 p.main)],.fn 166 [] []] []=.ok (.ret (Jb (looks p)),[]):=by
 replace hp:=AA.mk hp
 (refine Ay rfl Tryz.func165 rfl rfl rfl ?_;show Wp _ _ _ _ (Tryz.f165.body.get rfl) _ _;simp only[Tryz.f165,Option.get_some])
 refine aw ?_;refine Ab (kR p hp.out _ _ _ _ ?_ ?_ ?_ ?_) (fun o1 g1 p1=>?_)
 .simp only[go_sem]
 .simp only[go_sem]
 .simp only[go_sem]
 .simp only[go_sem]
 cases hlk:looks p with
 |none=>
  obtain rfl:=p1.no hlk;clear p1
  (repeat' (first|simp only[go_sem, *,Jb]|(refine sx ?_ ?_<;>intro hc)|refine sy (by omega) fun x hx hm=>?_|simp(disch:=first|assumption|omega) only[wrap_id,AK,AH,slice_int]))
 |some st=>
  obtain⟨id,rfl,r1⟩:=p1.yes st hlk;clear p1;have hz:=(Ek hlk).len;have tk1:List.take p.nodes.length (List.map AO st.sizes)=List.map AO st.sizes:=List.take_of_length_le (by simp[hz])
  (repeat' (first|simp only[go_sem, *,Jb,Nat.le_refl]|(refine sx ?_ ?_<;>intro hc)|refine sy (by omega) fun x hx hm=>?_|simp(disch:=first|assumption|omega) only[wrap_id,AK,AH,slice_int]))
theorem oZ(p:AJ)(hp: ∀s∈p.free,s.size≤maxLen):BM (KL Tryz.prog cfg) 109 [.agg [.d (.lst (p.free.map Bt)),.d (.lst (p.nodes.map BQ)),.d (.lst (p.defs.map B6)),.d (.int .i64 p.main)]] []=.ok (.ret (Jb (looks p)),[]):=by
 have hk:=vd p hp;clear hp
 (refine Ay rfl Tryz.func109 rfl rfl rfl ?_;show Wp _ _ _ _ (Tryz.f109.body.get rfl) _ _;simp only[Tryz.f109,Option.get_some])
 cases hlk:looks p with
 |none=>
  rw[hlk,Jb]at hk
  (repeat' (first|simp only[go_sem, *,Jb]|(refine sx ?_ ?_<;>intro hc)|refine sy (by omega) fun x hx hm=>?_|simp(disch:=first|assumption|omega) only[wrap_id,AK,AH,slice_int]))
 |some st=>
  rw[hlk,Jb]at hk
  (repeat' (first|simp only[go_sem, *,Jb]|(refine sx ?_ ?_<;>intro hc)|refine sy (by omega) fun x hx hm=>?_|simp(disch:=first|assumption|omega) only[wrap_id,AK,AH,slice_int]))
end Go.Proofs
namespace Go.Proofs
open Go Go.Abs
end Go.Proofs
namespace Go.Proofs
open Go Go.Abs
set_option maxRecDepth 100000
set_option maxHeartbeats 4000000
def st0:Bu:=⟨[],[],[]⟩
end Go.Proofs
namespace Go.Proofs
open Go Go.Abs
set_option maxRecDepth 100000
set_option maxHeartbeats 4000000
end Go.Proofs
namespace Go.Proofs
open Go Go.Abs
set_option maxRecDepth 100000
set_option maxHeartbeats 4000000
theorem zH(t:Bool):Bl (B3 2) t=.ok (HO (B3 2) t):=SG _ _
theorem P4{l:List BC}{i:Int}{s:BC}(h:l[i.toNat]? =some s):A9 l i=s.in_:=by simp[A9,h]
theorem zB(l:List BC)(hl:l.length≤1000):BM (KL Tryz.prog cfg) 61 [.d (.lst (l.map Af))] []=Bl (B3 2) (Ir l):=by
 rw[zH]
 (refine Ay rfl Tryz.func61 rfl rfl rfl ?_;show Wp _ _ _ _ (Tryz.f61.body.get rfl) _ _;simp only[Tryz.f61,Option.get_some])
 by_cases h0:(0:Int)<l.length
 .obtain⟨s0,hs0⟩:=get_some (l:=l) (i:=0) (by omega);have hp0:A9 l 0=s0.in_:=P4 hs0
  (repeat' (first|simp only[go_sem, *]|(refine sx ?_ ?_<;>intro hc)|refine sy (by omega) fun x hx hm=>?_|simp(disch:=first|assumption|omega) only[wrap_id,AK,AH,slice_int]))
  .refine AX l _ (S:=fun m i (_:Unit)=>⟨[(0,.d (.lst (l.map Af))),(17,.d (.int .i64 m)),(18,.d (.int .i64 i))],[],0,[]⟩)
    (Inv:=fun i rest _=>AA (Ir l=IJ l i rest.length)) (b0:=()) rfl ⟨?_⟩ ?_ ?_
   .simp only[Ir];rw[decide_eq_true (show 0<l.length by omega),decide_eq_true (show A9 l 0= -1 by rw[hp0];assumption)];rfl
   .rintro i y _ hy hi him hr IH;rw[List.length_cons,IJ]at hr;refine aw ?_;have hr0:=hr;refine rounds (S:=fun a:Int×Nat=>⟨[(0,.d (.lst (l.map Af))),(3,.d (.int .i64 (a.1))),(4,.d (.int .i64 (a.2))),(17,.d (.int .i64 (l.length))),(18,.d (.int .i64 (i)))],[],0,[]⟩)
     (Inv:=fun a=>Ei l a.1∧a.2≤l.length∧AA (BD l l.length i=BD l (l.length-a.2) a.1)) (m:=fun a=>l.length+1-a.2) (a:=(i,0)) ⟨⟨by omega,by omega⟩,by omega,⟨rfl⟩⟩ ?_
    rintro⟨at_,n⟩ ⟨⟨hr1,hr2⟩,hn,hcl⟩ IH2;dsimp only at*;have hlt:at_.toNat<l.length:=by omega
    obtain⟨s,hs⟩:=get_some hlt;have hps:=AA.mk (P4 hs)
    (repeat' (first|simp only[go_sem, *]|(refine sx ?_ ?_<;>intro hc)|refine sy (by omega) fun x hx hm=>?_|simp(disch:=first|assumption|omega) only[wrap_id,AK,AH,slice_int]))
    .refine IH.out () ⟨?_⟩;rw[hr.out,hcl.out,show at_=0 by assumption,FR,Bool.true_and]
    .refine IH2.out (s.in_,n+1) (by dsimp only;omega) ⟨⟨by assumption,by assumption⟩,by dsimp only;omega,⟨?_⟩⟩;dsimp only;rw[hcl.out];obtain⟨j,hj⟩: ∃j,l.length-n=j+1:=⟨l.length-n-1,by omega⟩;rw[hj,show l.length-(n+1)=j by omega,BD,hps.out];simp only[decide_eq_false (show¬at_=0 by assumption),Bool.false_or];rw[decide_eq_true (show Ei l s.in_ from⟨by assumption,by assumption⟩),Bool.true_and]
    all_goals
     have hf:Ir l=false:=by
      rw[hr0.out,hcl.out];rcases Nat.eq_zero_or_pos (l.length-n)with hz|hz
      .rw[hz,BD];simp only[decide_eq_false (show¬at_=0 by assumption),Bool.false_and]
      .obtain⟨j,hj⟩: ∃j,l.length-n=j+1:=⟨l.length-n-1,by omega⟩;rw[hj,BD,hps.out];simp only[decide_eq_false (show¬at_=0 by assumption),Bool.false_or];rw[decide_eq_false (show¬Ei l s.in_ from fun h=>by have:=h.1;have:=h.2;omega),Bool.false_and,Bool.false_and]
     rw[hf];rfl
   .rintro i _ hi him hr;refine aw ?_;rw[hr.out];rfl
  .have:Ir l=false:=by
    simp only[Ir,hp0,decide_eq_false (show¬s0.in_= -1 by assumption),Bool.false_and,Bool.and_false]
   rw[this];rfl
 .have:Ir l=false:=by simp[Ir];omega
  rw[this];refine aw ?_;rfl
theorem UX(l:List BC)(b a:Int)(hl:l.length≤1000)(ht:Fo l)(hb:Ei l b)(ha:0≤a):BM (KL Tryz.prog cfg) 63 [.d (.lst (l.map Af)),.d (.int .i64 (b)),.d (.int .i64 (a))] []=.ok (.ret (.d (.bool (Ck l b a))),[]):=by
 (refine Ay rfl Tryz.func63 rfl rfl rfl ?_;show Wp _ _ _ _ (Tryz.f63.body.get rfl) _ _;simp only[Tryz.f63,Option.get_some])
 refine aw ?_;refine rounds (S:=fun c:Int×Nat=>⟨[(0,.d (.lst (l.map Af))),(1,.d (.int .i64 (c.1))),(2,.d (.int .i64 (a)))],[],0,[]⟩)
  (Inv:=fun c=>(Ei l c.1∧BD l c.2 c.1=true∧AA (Ck l b a=decide (a∈Pr l c.2 c.1)))∨(c.1= -1∧c.2=0∧AA (Ck l b a=false))) (m:=fun c=>if c.1= -1 then 0 else c.2+1) (a:=(b,l.length)) (.inl ⟨hb,ht.climbs b hb,⟨rfl⟩⟩) ?_
 rintro⟨c,k⟩ hI IH;dsimp only at*;rcases hI with⟨⟨h1,h2⟩,hcl,hin⟩|⟨rfl,rfl,hin⟩
 .have hlt:c.toNat<l.length:=by omega
  obtain⟨s,hs⟩:=get_some hlt;have hps:=AA.mk (P4 hs)
  (repeat' (first|simp only[go_sem, *]|(refine sx ?_ ?_<;>intro hc)|refine sy (by omega) fun x hx hm=>?_|simp(disch:=first|assumption|omega) only[wrap_id,AK,AH,slice_int]))
  .rw[hin.out,decide_eq_true (by rw[←show c=a by assumption];exact oj _ _ _)]
  .by_cases hc0:c=0
   .subst hc0;have hp1:s.in_= -1:=by rw[←hps.out];exact ht.top
    rw[hp1];refine IH.out (-1,0) (by dsimp only;rw[if_pos rfl,if_neg (by decide)];omega) (.inr ⟨rfl,rfl,⟨?_⟩⟩);rw[hin.out,om,decide_eq_false];simp only[List.mem_singleton];omega
   .rcases k with _|k
    .simp[BD,hc0]at hcl
    .have h3:=Gb hc0 hcl;rw[hps.out]at h3;have:=h3.1.1;refine IH.out (s.in_,k) (by dsimp only;rw[if_neg (by omega),if_neg (by omega)];omega) (.inl ⟨h3.1,h3.2,⟨?_⟩⟩);rw[hin.out,vE hc0 hcl,hps.out];have hne: ¬a=c:=fun e=>by omega
     simp only[List.mem_cons,hne,false_or]
 ·(repeat' (first|simp only[go_sem, *]|(refine sx ?_ ?_<;>intro hc)|refine sy (by omega) fun x hx hm=>?_|simp(disch:=first|assumption|omega) only[wrap_id,AK,AH,slice_int]))
  .omega
  .rw[hin.out]
end Go.Proofs
namespace Go.Proofs
open Go Go.Abs
set_option maxRecDepth 100000
set_option maxHeartbeats 4000000
end Go.Proofs
namespace Go.Proofs
open Go Go.Abs
set_option maxRecDepth 100000
set_option maxHeartbeats 4000000
end Go.Proofs
namespace Go.Proofs
open Go Go.Abs
set_option maxRecDepth 100000
set_option maxHeartbeats 4000000
def Bh(p:AJ)(s:A8):Int:=match looks p with|some st=>if Du p st.sizes s=true then 0 else 2|none=>2
end Go.Proofs
namespace Go.Proofs
open Go Go.Abs
instance:DecidableEq CJ:=fun a b=>decidable_of_iff (a.wait=b.wait∧a.group=b.group∧a.rule=b.rule∧a.picks=b.picks) (by cases a;cases b;simp)
structure AB1(p:AJ)(s:A8)(st:Bu):Prop where
 looks:looks p=some st
 formed:BO p st.sizes
 sok:Fm p st.sizes s
theorem NV{p:AJ}{s:A8}(h:Bh p s=0): ∃st,AB1 p s st:=by
 rw[Bh]at h;split at h
 .rename_i st hlk;split at h
  .rename_i hs;exact⟨st,hlk,Ek hlk,ABZ hs⟩
  .cases h
 .cases h
theorem Py{p:AJ}{s:A8}(h: ¬Bh p s=0):Bh p s=2:=by
 rw[Bh]at h⊢;split at h
 .split at h
  .exact absurd rfl h
  .rename_i hh;simp[hh]
 .rfl
def KB(p:AJ)(s:A8):Int:=if Bh p s=0 then(Au p s).length else 0
abbrev O7(x:CJ):AV:=.agg [.d (.int .i64 x.wait),.d (.int .i64 x.group),.d (.int .i64 x.rule),.d (.lst (x.picks.map AO))]
def Pb(p:AJ)(s:A8)(n:Int):CJ×Int:=if Bh p s=0 then if 0≤n then match(Au p s)[n.toNat]? with|some x=>(x,0)|none=>(⟨0,0,0,[]⟩,5)else(⟨0,0,0,[]⟩,5)else(⟨0,0,0,[]⟩,2)
theorem ym{p:AJ}{s:A8}(n:Int)(h: ¬Bh p s=0):Pb p s n=(⟨0,0,0,[]⟩,2):=by rw[Pb,if_neg h]
theorem YL{p:AJ}{s:A8}{n:Int}(h:Bh p s=0)(hn:n<0∨(Au p s).length≤n):Pb p s n=(⟨0,0,0,[]⟩,5):=by
 rw[Pb,if_pos h];split
 .rw[List.getElem?_eq_none (by omega)]
 .rfl
theorem Ra{p:AJ}{s:A8}{n:Int}{x:CJ}(h:Bh p s=0)(hn:0≤n)(hx:(Au p s)[n.toNat]? =some x):Pb p s n=(x,0):=by rw[Pb,if_pos h,if_pos hn,hx]
theorem gY{p:AJ}{s:A8}(h: ¬Bh p s=0):KB p s=0:=by rw[KB,if_neg h]
theorem W8{p:AJ}{s:A8}(h:Bh p s=0):KB p s=(Au p s).length:=by rw[KB,if_pos h]
end Go.Proofs
namespace Go.Proofs
open Go Go.Abs
inductive Below:List Nat→List Int→Prop
 |nil:Below [] []
 |cons {n:Nat} {k:Int} {l:List Nat} {t:List Int}:0≤k→k<n→Below l t→Below (n::l) (k::t)
theorem L1: ∀{l:List Nat} {t:List Int},t∈Ct l↔Below l t
 |[],t=>by
  rw[Ct,List.mem_singleton];exact⟨fun h=>h▸ .nil,fun h=>by cases h;rfl⟩
 |n::l,t=>by
  rw[Ct,List.mem_flatMap];constructor
  .rintro⟨i,hi,ht⟩;obtain⟨u,hu,rfl⟩:=List.mem_map.1 ht;have:=List.mem_range.1 hi;exact .cons (by omega) (by omega) (L1.1 hu)
  .intro h;cases h with
   | @cons _ k _ t h1 h2 h3=>exact⟨k.toNat,List.mem_range.2 (by omega),List.mem_map.2 ⟨t,L1.2 h3,by rw[Int.toNat_of_nonneg h1]⟩⟩
theorem Below.len: ∀{l:List Nat} {t:List Int},Below l t→t.length=l.length
 |_,_,.nil=>rfl
 |_,_,.cons _ _ h=>by rw[List.length_cons,List.length_cons,h.len]
inductive OG(p:AJ)(s:A8):CJ→Prop
 |wait {i:Nat} {w:E7}:s.waits[i]? =some w→goes p s w=true→OG p s ⟨i,0,0,[]⟩
 |rule {i k:Nat} {g:Ah} {d:CH} {r:FP} {t:List Int}:s.groups[i]? =some g→p.def? g.def_=some d→d.rules[k]? =some r→AY s.spots (g.place d r.at_)=false→Below (Bn s d g r) t→OG p s ⟨-1,i,k,t⟩
theorem UY{p:AJ}{s:A8}{x:CJ}: ∀{l:List E7} {i:Nat},s.waits.drop i=l→(x∈CC p s i l↔ ∃j:Nat,i≤j∧ ∃w,s.waits[j]? =some w∧goes p s w=true∧x=⟨j,0,0,[]⟩)
 |[],i,h=>by
  have:s.waits.length≤i:=List.drop_eq_nil_iff.1 h;constructor
  .intro h;cases h
  .rintro⟨j,hj,w,hw,_⟩;obtain⟨h1,_⟩:=List.getElem?_eq_some_iff.1 hw;omega
 |w::l,i,h=>by
  have hg:s.waits[i]? =some w:=by
   have:=congrArg (fun l=>l[0]?) h;simpa using this
  have ih:=UY (x:=x) (p:=p) (l:=l) (i:=i+1) (by rw[Ae hg]at h;exact(List.cons.inj h).2);rw[CC,List.mem_append,ih];constructor
  .rintro(h1|⟨j,h1,h2⟩)
   .split at h1
    .exact⟨i,Nat.le_refl _,w,hg,by assumption,List.mem_singleton.1 h1⟩
    .cases h1
   .exact⟨j,by omega,h2⟩
  .rintro⟨j,h1,w2,h2,h3,h4⟩;by_cases e:j=i
   .subst e;rw[hg]at h2;cases h2;exact .inl (by rw[if_pos h3,h4];simp)
   .exact .inr ⟨j,by omega,w2,h2,h3,h4⟩
theorem Oz{s:A8}{d:CH}{g:Ah}{i:Nat}{x:CJ}: ∀{l:List FP} {k:Nat},d.rules.drop k=l→(x∈BX s d g i k l↔ ∃j:Nat,k≤j∧ ∃r,d.rules[j]? =some r∧ ∃t∈DQ s d g r,x=⟨-1,i,j,t⟩)
 |[],k,h=>by
  have:d.rules.length≤k:=List.drop_eq_nil_iff.1 h;constructor
  .intro h;cases h
  .rintro⟨j,hj,w,hw,_⟩;obtain⟨h1,_⟩:=List.getElem?_eq_some_iff.1 hw;omega
 |r::l,k,h=>by
  have hg:d.rules[k]? =some r:=by
   have:=congrArg (fun l=>l[0]?) h;simpa using this
  have ih:=Oz (x:=x) (s:=s) (g:=g) (i:=i) (l:=l) (k:=k+1) (by rw[Ae hg]at h;exact(List.cons.inj h).2);rw[BX,List.mem_append,ih];constructor
  .rintro(h1|⟨j,h1,h2⟩)
   .obtain⟨t,ht,rfl⟩:=List.mem_map.1 h1;exact⟨k,Nat.le_refl _,r,hg,t,ht,rfl⟩
   .exact⟨j,by omega,h2⟩
  .rintro⟨j,h1,w2,h2,h3⟩;by_cases e:j=k
   .subst e;rw[hg]at h2;cases h2;obtain⟨t,ht,rfl⟩:=h3;exact .inl (List.mem_map.2 ⟨t,ht,rfl⟩)
   .exact .inr ⟨j,by omega,w2,h2,h3⟩
theorem Ta{p:AJ}{s:A8}{x:CJ}: ∀{l:List Ah} {i:Nat},s.groups.drop i=l→(x∈CL p s i l↔ ∃j:Nat,i≤j∧ ∃g d,s.groups[j]? =some g∧p.def? g.def_=some d∧x∈BX s d g j 0 d.rules)
 |[],i,h=>by
  have:s.groups.length≤i:=List.drop_eq_nil_iff.1 h;constructor
  .intro h;cases h
  .rintro⟨j,hj,w,_,hw,_⟩;obtain⟨h1,_⟩:=List.getElem?_eq_some_iff.1 hw;omega
 |g::l,i,h=>by
  have hg:s.groups[i]? =some g:=by
   have:=congrArg (fun l=>l[0]?) h;simpa using this
  have ih:=Ta (x:=x) (p:=p) (l:=l) (i:=i+1) (by rw[Ae hg]at h;exact(List.cons.inj h).2);rw[CL,List.mem_append,ih];constructor
  .rintro(h1|⟨j,h1,h2⟩)
   .split at h1
    .exact⟨i,Nat.le_refl _,g,_,hg,by assumption,h1⟩
    .cases h1
   .exact⟨j,by omega,h2⟩
  .rintro⟨j,h1,w2,d,h2,h3,h4⟩;by_cases e:j=i
   .subst e;rw[hg]at h2;cases h2;exact .inl (by rw[h3];exact h4)
   .exact .inr ⟨j,by omega,w2,d,h2,h3,h4⟩
theorem P6{p:AJ}{s:A8}{x:CJ}:x∈Au p s↔OG p s x:=by
 rw[Au,List.mem_append,UY (l:=s.waits) (i:=0) rfl,Ta (l:=s.groups) (i:=0) rfl];constructor
 .rintro(⟨j,_,w,h1,h2,rfl⟩|⟨j,_,g,d,h1,h2,h3⟩)
  .exact .wait h1 h2
  .obtain⟨k,_,r,h4,t,h5,rfl⟩:=(Oz (l:=d.rules) (k:=0) rfl).1 h3;rw[DQ]at h5;split at h5
   .cases h5
   .rename_i hd;exact .rule h1 h2 h4 (by simpa using hd) (L1.1 h5)
 .rintro(⟨h1,h2⟩|⟨h1,h2,h3,h4,h5⟩)
  .exact .inl ⟨_,Nat.zero_le _,_,h1,h2,rfl⟩
  .exact .inr ⟨_,Nat.zero_le _,_,_,h1,h2,(Oz (l:=_) (k:=0) rfl).2 ⟨_,Nat.zero_le _,_,h3,_,by rw[DQ,h4,if_neg (by simp)];exact L1.2 h5,rfl⟩⟩
theorem ZM{p:AJ}{sz:List Int}{s:A8}(hF:BO p sz)(hs:Fm p sz s){x:CJ}(h:x∈Au p s):x.picks.length≤3:=by
 cases P6.1 h with
 |wait _ _=>exact Nat.zero_le _
 |rule h1 h2 h3 _ h5=>
  obtain⟨d,hd⟩:=hs.grp _ _ h1;rw[hd.def_]at h2;cases h2;have:=(N7 hF hs h1 hd (List.mem_of_getElem? h3)).j1;have e:=h5.len;rw[Bn,List.length_map]at e;exact e▸this
end Go.Proofs
namespace Go.Proofs
open Go Go.Abs
def Ug(s:A8)(e:Iy):Prop:=e.deed=5∧Ei s.spots e.at_∧AY s.spots e.at_=false
structure Pt(p:AJ)(sz:List Int)(st st':CU)(js:List Gl):Prop where
 sok:Fm p sz st'.sol
 ext:Vv st.sol st'.sol
 jobs: ∀j∈js,CZ p sz st'.sol j
 work:st'.work=st.work
 ev: ∃l,st'.ev=st.ev++l∧l.length≤1∧ ∀e∈l,Ug st'.sol e
structure JU(p:AJ)(sz:List Int)(st st':CU):Prop where
 sok:Fm p sz st'.sol
 ext:Vv st.sol st'.sol
 work:st.work≤st'.work
 top:st.work≤400→st'.work≤400
 evs: ∃l,st'.ev=st.ev++l∧(l.length:Int)≤st'.work-st.work∧ ∀e∈l,Ug st'.sol e
theorem JU.ev{p:AJ}{sz:List Int}{st st':CU}(h:JU p sz st st'):(st'.ev.length:Int)≤st.ev.length+(st'.work-st.work):=by
 obtain⟨l,h1,h2,_⟩:=h.evs;rw[h1,List.length_append];omega
theorem tU{s s':A8}(h:Vv s s'){e:Iy}(he:Ug s e):Ug s' e:=⟨he.1,G9 h.ns he.2.1,by rw[Jh h he.2.1];exact he.2.2⟩
theorem mN{p:AJ}{sz:List Int}{st:CU}(h:Fm p sz st.sol):JU p sz st st:=⟨h,G7 _,by omega,fun h=>h,[],by simp,by simp,by simp⟩
theorem Rn{p:AJ}{sz:List Int}{a b c:CU}(h1:JU p sz a b)(h2:JU p sz b c):JU p sz a c:=by
 obtain⟨l,e1,n1,w1⟩:=h1.evs;obtain⟨m,e2,n2,w2⟩:=h2.evs;refine⟨h2.sok,iJ h1.ext h2.ext,by have:=h1.work;have:=h2.work;omega,fun h=>h2.top (h1.top h),l++m,by rw[e2,e1,List.append_assoc],by rw[List.length_append];omega,fun e he=>?_⟩;rcases List.mem_append.1 he with he|he
 .exact tU h2.ext (w1 e he)
 .exact w2 e he
section
variable{p:AJ}{sz:List Int}{st:CU}{j:Gl}{x:Cd}
theorem tA{s:A8}{n:Nat}{q:Fa}(hs:Fm p sz s)(hq:s.chans[n]? =some q){l:List Cc}(hl:q.queue.length<12)(hd:AY s.spots q.at_=false)(hm:Dd p s q=l.length)(hv:l.all (Cc.inB p s.chans.length s.spots.length)=true):QOk p s {q with queue:=q.queue++[l]}:=by
 have h:=hs.que n q hq;refine⟨by simp;omega,.inr hd,fun m hm2=>?_⟩;rcases List.mem_append.1 hm2 with h2|h2
 .exact h.msgs m h2
 .rw[List.mem_singleton]at h2;subst h2;show Hb p _ _ (Dd p s q) m=true;rw[Hb,hm,hv];simp
theorem nH(hs:Fm p sz st.sol)(hj:CZ p sz st.sol j)(ha: ∀e∈x.args,e.formed j.env.length=true){st':CU}(h:EZ p x j st=some st'):Pt p sz st st' []:=by
 have hv:(x.args.map (·.value j.env)).all (Cc.inB p st.sol.chans.length st.sol.spots.length)=true:=by
  rw[List.all_eq_true];intro v hv;obtain⟨e,he,rfl⟩:=List.mem_map.1 hv;exact nm hj.vals e (ha e he)
 simp only[EZ]at h;split at h
 .cases h;exact⟨hs,G7 _,by simp,rfl,_,rfl,by simp,fun e he=>by rw[List.mem_singleton]at he;subst he;exact⟨rfl,hj.at_,hj.live⟩⟩
 split at h
 .obtain⟨s,hs2,rfl⟩:=Option.map_eq_some_iff.1 h;have key:Fm p sz s∧Vv st.sol s:=by
   rw[O1]at hs2;split at hs2
   .rename_i q hq;split at hs2
    .rename_i hc;rw[W3]at hs2;split at hs2
     .rename_i hl;cases hs2;exact⟨UK hs hq (tA hs hq hl hc.1 hc.2 hv),iH hq _⟩
     .cases hs2
    .cases hs2;exact⟨hs,G7 _⟩
   .cases hs2;exact⟨hs,G7 _⟩
  exact⟨key.1,key.2,by simp,rfl,[],by simp,by simp,by simp⟩
 .cases h;exact⟨hs,G7 _,by simp,rfl,[],by simp,by simp,by simp⟩
theorem XA(hF:BO p sz)(hs:Fm p sz st.sol)(hj:CZ p sz st.sol j)(hx:p.nodes[j.node.toNat]? =some x)(ho:x.op=4){st':CU}{js:List Gl}(h:HZ p x j st=some (st',js)):Pt p sz st st' js:=by
 obtain⟨d,hd⟩:=pe hF hs hj hx ho;simp only[HZ,hd.def_]at h;split at h
 .rename_i hc;cases h;have he:=hd.ext;have hl:(B5 st.sol d (Ad st.sol d x.n j)).chans.length=st.sol.chans.length+d.chans.length:=by simp[B5,GH]
  have hsl:(B5 st.sol d (Ad st.sol d x.n j)).spots.length=st.sol.spots.length+d.spots.length:=by simp[B5,En]
  have hv:(Ad st.sol d x.n j).env.all (Cc.inB p (B5 st.sol d (Ad st.sol d x.n j)).chans.length (B5 st.sol d (Ad st.sol d x.n j)).spots.length)=true:=by rw[hl,hsl];exact hd.vals
  have hn:((Ad st.sol d x.n j).env.length:Int)=(j.env.length:Int)+d.own:=by rw[hd.env];omega
  refine⟨hd.sok' hF hc,he,fun j' hj'=>?_,rfl,[],by simp,by simp,by simp⟩;rcases List.mem_append.1 hj' with hj'|hj'
  .obtain⟨t,y,h1,rfl⟩:=N9 hj';have h2:=hd.spots y (List.mem_of_getElem? h1);have h3:=AI h1;have h4:=hd.spot (n:=((0+t:Nat):Int)+1) (by omega) (by omega);exact⟨h2.1,by rw[h2.2,hn],h4.1,h4.2,hv⟩
  .obtain⟨k,hk,k0,k1⟩:=hd.kid;rw[BR,hk]at hj';simp only[List.getElem?_cons_zero,List.mem_singleton]at hj';subst hj';exact⟨k0,by rw[k1,hn],G9 he.ns hj.at_,by rw[Jh he hj.at_];exact hj.live,hv⟩
 .cases h
theorem eG(hs:Fm p sz st.sol)(hj:CZ p sz st.sol j)(hx:p.nodes[j.node.toNat]? =some x)(ho:ET x.op=true){st':CU}(h:JC j st=some st'):Pt p sz st st' []:=by
 rw[JC]at h;split at h
 .rename_i hc;cases h;refine⟨O4 hs (by simp;omega) fun w hw=>?_,⟨fun _ _ h=>h,fun _ _ h=>h,fun c q hq=>⟨[],by simpa using hq⟩⟩,by simp,rfl,[],by simp,by simp,by simp⟩;rcases List.mem_append.1 hw with hw|hw
  .exact hs.wait w hw
  .rw[List.mem_singleton]at hw;subst hw;simp only[CP,hj.live,hj.vals,hx,ho,hj.size,Bool.and_eq_true,decide_eq_true_eq,Bool.not_eq_true',Option.getD_some];exact⟨hj.at_,trivial,hj.n0,trivial,trivial,trivial⟩
 .cases h
theorem Z2(hF:BO p sz)(hs:Fm p sz st.sol)(hj:CZ p sz st.sol j){st':CU}{js:List Gl}(h:Ku p j st=some (st',js)):Pt p sz st st' js:=by
 obtain⟨x,l,hx,hok,hsub,hq,_⟩:=K3 hF hj;simp only[Ku,hx]at h;have kids: ¬x.op=4→ ∀k,∀j'∈BR x k j.at_ j.env,CZ p sz st.sol j':=fun ho k=>Oe hj ho hsub hq k;split at h
 .rename_i ho;obtain⟨s,hs2,e⟩:=Option.map_eq_some_iff.1 h;cases e;simp only[EC,Bool.and_eq_true,List.all_eq_true]at hok;exact nH hs hj (fun e he=>by have:=hok.2.2.2 e he;simp only[B4.ok,Bool.and_eq_true]at this;exact this.2.2) hs2
 split at h
 .rename_i ho;cases h;refine⟨hs,G7 _,fun j' hj'=>?_,rfl,[],by simp,by simp,by simp⟩;rcases List.mem_append.1 hj' with hj'|hj'
  .exact kids (by omega) 0 j' hj'
  .exact kids (by omega) 1 j' hj'
 split at h
 .rename_i ho;exact XA hF hs hj hx ho h
 split at h
 .rename_i ho4 ho;cases h;exact⟨hs,G7 _,kids ho4 _,rfl,[],by simp,by simp,by simp⟩
 split at h
 .rename_i ho;obtain⟨s,hs2,e⟩:=Option.map_eq_some_iff.1 h;cases e;exact eG hs hj hx ho hs2
 .cases h;exact⟨hs,G7 _,by simp,rfl,[],by simp,by simp,by simp⟩
end
theorem Od{p:AJ}{sz:List Int}{f:Gl→CU→Option CU}(hf: ∀j st st',Fm p sz st.sol→CZ p sz st.sol j→f j st=some st'→JU p sz st st'): ∀(l:List Gl) (st st':CU),Fm p sz st.sol→(∀j∈l,CZ p sz st.sol j)→Bo f l st=some st'→JU p sz st st'
 |[],st,st',hs,_,h=>by cases h;exact mN hs
 |j::l,st,st',hs,hj,h=>by
  rw[Bo]at h;obtain⟨st1,h1,h2⟩:=Option.bind_eq_some_iff.1 h;have hp:=hf j st st1 hs (hj j (by simp)) h1;exact Rn hp (Od hf l st1 st' hp.sok (fun j' hj'=>P1 (hj j' (by simp[hj'])) hp.ext) h2)
theorem Kv{p:AJ}{sz:List Int}(hF:BO p sz): ∀(k:Nat) (j:Gl) (st st':CU),Fm p sz st.sol→CZ p sz st.sol j→Fg p k j st=some st'→JU p sz st st'
 |0,j,st,st',_,_,h=>by cases h
 |k+1,j,st,st',hs,hj,h=>by
  rw[Fg]at h;split at h
  .rename_i hw;cases hd:Ku p j {st with work:=st.work+1}with
   |none=>rw[hd]at h;cases h
   |some r=>
    obtain⟨st1,js⟩:=r;rw[hd]at h;have hp:=Z2 (st:={st with work:=st.work+1}) hF hs hj hd
    obtain⟨l,e1,e2,e3⟩:=hp.ev;have w1:st1.work=st.work+1:=hp.work;refine Rn (b:=st1) ⟨hp.sok,hp.ext,by omega,by omega,l,e1,by omega,e3⟩ (Od (fun j st st'=>Kv hF k j st st') js st1 st' hp.sok hp.jobs h)
  .cases h
end Go.Proofs
namespace Go.Proofs
open Go Go.Abs
theorem OX{α:Type}{l:List α}{i:Int}{x:α}(h:x∈Cf l i):x∈l:=by
 rcases List.mem_append.1 h with h|h
 .exact List.mem_of_mem_take h
 .exact List.mem_of_mem_drop h
theorem TR{α:Type}{l:List α}{i:Int}(h:i.toNat<l.length):(Cf l i).length=l.length-1:=by
 rw[Cf,List.length_append,List.length_take,List.length_drop];omega
theorem Qs{α:Type}(l:List α)(i:Int):(Cf l i).length≤l.length:=by
 rw[Cf,List.length_append,List.length_take,List.length_drop];omega
theorem mb{p:AJ}{s:A8}{q:Fa}(h:QOk p s q)(k:Int):QOk p s {q with queue:=Cf q.queue k}:=by
 have:=Qs q.queue k;refine⟨Nat.le_trans this h.len,?_,fun m hm=>h.msgs m (OX hm)⟩;rcases h.dead with hd|hd
 .exact .inl (show(Cf q.queue k).length=0 by omega)
 .exact .inr hd
structure Sx(s s':A8):Prop where
 spots:s'.spots=s.spots
 groups:s'.groups=s.groups
 waits:s'.waits=s.waits
 len:s'.chans.length=s.chans.length
theorem ZQ{p:AJ}{sz:List Int}{s:A8}(hs:Fm p sz s){c:Int}{q:Fa}(hq:s.chans[c.toNat]? =some q){k:Int}(hk:k.toNat<q.queue.length):Fm p sz (Et s c k).2∧Sx s (Et s c k).2∧(Et s c k).1.all (Cc.inB p s.chans.length s.spots.length)=true∧(((Et s c k).1.length:Nat):Int)=Dd p s q∧ ∀c2:Nat,c2≠c.toNat→(Et s c k).2.chans[c2]? =s.chans[c2]? :=by
 obtain⟨m,hm⟩:=get_some hk;have hqo:=hs.que _ q hq;have hmo:=hqo.msgs m (List.mem_of_getElem? hm);simp only[Hb,Bool.and_eq_true,decide_eq_true_eq]at hmo;have e:Et s c k=(m,{s with chans:=s.chans.set c.toNat {q with queue:=Cf q.queue k}}):=by rw[Et,hq];simp[hm]
 rw[e];refine⟨UK hs hq (mb hqo k),⟨rfl,rfl,rfl,by simp⟩,hmo.2,hmo.1,fun c2 h2=>?_⟩;dsimp only;rw[List.getElem?_set,if_neg (fun e=>h2 e.symm)]
structure WE(p:AJ)(sz:List Int)(d:CH)(cs:List Int)(s:A8)(t:List Cc×A8):Prop where
 sok:Fm p sz t.2
 only:Sx s t.2
 vals:t.1.all (Cc.inB p s.chans.length s.spots.length)=true
 len:((t.1.length:Nat):Int)=DF d cs
theorem ZP{p:AJ}{sz:List Int}{d:CH}{g:Ah}: ∀{cs ks:List Int} {s:A8},Fm p sz s→cs.length=ks.length→
 (∀(i:Nat) c k,cs[i]? =some c→ks[i]? =some k→ ∃q,s.chans[(g.own d true c).toNat]? =some q∧k.toNat<q.queue.length∧Dd p s q=((d.chans[c.toNat]?).map HP.many).getD 0)→
 (∀(i j:Nat) c c2,i<j→cs[i]? =some c→cs[j]? =some c2→(g.own d true c2).toNat≠(g.own d true c).toNat)→WE p sz d cs s (Bc d g cs ks s)
 |[],ks,s,hs,_,_,_=>by
  rw[Bc]
  .exact⟨hs,⟨rfl,rfl,rfl,rfl⟩,rfl,rfl⟩
  .intro c cs k ks h;cases h
 |c::cs,[],s,hs,hl,_,_=>by cases hl
 |c::cs,k::ks,s,hs,hl,hq,hd=>by
  obtain⟨q,h1,h2,h3⟩:=hq 0 c k rfl rfl;obtain⟨a1,a2,a3,a4,a5⟩:=ZQ hs h1 h2;have ih:=ZP (p:=p) (sz:=sz) (d:=d) (g:=g) (cs:=cs) (ks:=ks) (s:=(Et s (g.own d true c) k).2) a1 (by simpa using hl) (fun i c2 k2 e1 e2=>?_) (fun i j c2 c3 hij e1 e2=>hd (i+1) (j+1) c2 c3 (by omega) (by simpa using e1) (by simpa using e2))
  .rw[Bc];refine⟨ih.sok,⟨ih.only.spots.trans a2.spots,ih.only.groups.trans a2.groups,ih.only.waits.trans a2.waits,ih.only.len.trans a2.len⟩,?_,?_⟩
   .rw[List.all_append,a3,Bool.true_and];have:=ih.vals
    rwa [a2.len,a2.spots]at this
   .have:=ih.len;rw[List.length_append,DF];omega
  .obtain⟨q2,b1,b2,b3⟩:=hq (i+1) c2 k2 (by simpa using e1) (by simpa using e2);refine⟨q2,by rw[a5 _ (hd 0 (i+1) c c2 (by omega) rfl (by simpa using e1))];exact b1,b2,?_⟩;rw[←b3,Dd,Dd,a2.groups]
theorem jQ{l:List BC}(hT:Fo l){b a:Int}(hb:Ei l b)(h0: ¬b=0):Ck l b a=(decide (a=b)||Ck l (A9 l b) a):=by
 have hc:=hT.climbs b hb;obtain⟨k,hk⟩: ∃k,l.length=k+1:=⟨l.length-1,by have:=hT.pos;omega⟩;rw[hk]at hc;have hs:=Gb h0 hc;have e:Pr l (k+1) (A9 l b)=Pr l k (A9 l b):=QM l k (k+1) _ hs.2 (by omega);rw[Ck,Ck,hk,e,Pr,if_neg h0];simp[List.mem_cons]
def Kd(l:List BC)(at_:Int):List BC:=Fy l at_ 0 l
theorem eg(l:List BC)(at_:Int): ∀(m:List BC) (i:Nat),(Fy l at_ i m).length=m.length
 |[],i=>rfl
 |x::m,i=>by rw[Fy,List.length_cons,List.length_cons,eg l at_ m (i+1)]
theorem ef(l:List BC)(at_:Int): ∀(m:List BC) (i k:Nat),(Fy l at_ i m)[k]? =(m[k]?).map fun x=>{x with dead:=x.dead||Ck l ((i+k:Nat):Int) at_}
 |[],i,k=>by simp[Fy]
 |x::m,i,0=>by simp[Fy]
 |x::m,i,k+1=>by
  rw[Fy,List.getElem?_cons_succ,List.getElem?_cons_succ,ef l at_ m (i+1) k,show i+1+k=i+(k+1) by omega]
theorem U0(l:List BC)(at_:Int)(k:Nat):(Kd l at_)[k]? =(l[k]?).map fun x=>{x with dead:=x.dead||Ck l k at_}:=by
 rw[Kd,ef];simp
theorem EY(l:List BC)(at_:Int):(Kd l at_).length=l.length:=eg l at_ l 0
theorem eh(l:List BC)(at_ i:Int):A9 (Kd l at_) i=A9 l i:=by
 rw[A9,A9,U0];cases l[i.toNat]? <;>rfl
theorem TF(l:List BC)(at_:Int): ∀(k:Nat) (i:Int),BD (Kd l at_) k i=BD l k i
 |0,i=>rfl
 |k+1,i=>by
  rw[BD,BD,eh,TF l at_ k];congr 2;exact decide_eq_decide.2 (by unfold Ei;rw[EY])
theorem ph(l:List BC)(at_:Int){i:Int}(hi:Ei l i):AY (Kd l at_) i=(AY l i||Ck l i at_):=by
 have h0:=hi.1;have h1:=hi.2;obtain⟨x,hx⟩:=get_some (l:=l) (i:=i.toNat) (by omega);rw[AY,AY,U0,hx,show((i.toNat:Nat):Int)=i by omega];rfl
theorem pj{l:List BC}(h:Fo l)(at_:Int):Fo (Kd l at_):=
 ⟨by rw[EY];exact h.pos,by rw[eh];exact h.top,fun i hi=>by rw[TF,EY];exact h.climbs i (by rw[Ei,EY]at hi;exact hi)⟩
theorem vT{p:AJ}{sz:List Int}{s:A8}(hF:BO p sz)(h:Fm p sz s)(at_:Int):Fm p sz (OW s at_):=by
 have hsm:=h.small;simp only[A8.small,Bool.and_eq_true,decide_eq_true_eq]at hsm;have hsp:(OW s at_).spots=Kd s.spots at_:=rfl;have hch:(OW s at_).chans=s.chans.map fun q=>if AY (Kd s.spots at_) q.at_=true then{q with queue:=[]}else q:=rfl
 have hwt:(OW s at_).waits=s.waits.filter fun w=> !AY (Kd s.spots at_) w.at_:=rfl;have hgr:(OW s at_).groups=s.groups:=rfl;have hcl:(OW s at_).chans.length=s.chans.length:=by rw[hch,List.length_map]
 have hsl:(OW s at_).spots.length=s.spots.length:=by rw[hsp,EY]
 have hmany: ∀q l,Dd p (OW s at_) {q with queue:=l}=Dd p s q:=fun q l=>rfl
 refine⟨?_,by rw[hsp];exact pj h.tree _,fun i x hi hx=>?_,fun i g hg=>?_,by rw[hgr,hcl,hsl];exact h.tot,fun c q hq=>?_,fun w hw=>?_⟩
 .simp only[A8.small,Bool.and_eq_true,decide_eq_true_eq];rw[hgr,hcl,hsl,hwt];have:=List.length_filter_le (fun w=> !AY (Kd s.spots at_) w.at_) s.waits;omega
 .rw[hsp]at hx⊢;rw[U0]at hx;obtain⟨y,hy,rfl⟩:=Option.map_eq_some_iff.1 hx;have hin:=sv h.tree hi hy;have hiR:Ei s.spots i:=⟨by omega,by have:=AI hy;omega⟩;dsimp only;rw[ph _ _ hin,Bool.or_eq_true,Bool.or_eq_false_iff];rcases h.dead i y hi hy with hd|hd
  .exact .inl (.inl hd)
  .cases hz:Ck s.spots i at_ with
   |true=>exact .inl (.inr rfl)
   |false=>
    refine .inr ⟨hd,?_⟩;rw[jQ h.tree hiR (by omega),Bool.or_eq_false_iff]at hz;have hp:A9 s.spots i=y.in_:=by rw[A9,show((i:Nat):Int).toNat=i from rfl,hy];rfl
    rw[hp]at hz;exact hz.2
 .rw[hgr]at hg;obtain⟨d,hd⟩:=h.grp i g hg;refine⟨d,hd.def_,by rw[hsp,Ei,EY];exact hd.at_,hd.len,by rw[hcl,hsl];exact hd.vals,by rw[hgr];exact hd.mine,fun j ch hj=>?_⟩;obtain⟨q,h1,h2,h3,h4⟩:=hd.chans j ch hj;rw[hgr,hch,List.getElem?_map,h1];refine⟨_,rfl,?_⟩;dsimp only;split<;>exact⟨h2,h3,h4⟩
 .rw[hch,List.getElem?_map]at hq;obtain⟨q0,h0,rfl⟩:=Option.map_eq_some_iff.1 hq;have hqo:=h.que c q0 h0;split
  .exact⟨by simp,.inl rfl,fun m hm=>by cases hm⟩
  .rename_i hd;refine⟨hqo.len,?_,fun m hm=>?_⟩
   .rw[hsp];exact .inr (by simpa using hd)
   .rw[hcl,hsl];exact hqo.msgs m hm
 .rw[hwt,List.mem_filter]at hw;have:=h.wait w hw.1;simp only[CP,Bool.and_eq_true,decide_eq_true_eq,Bool.not_eq_true']at this⊢;obtain⟨h1,h2,h3,h4,h5,h6⟩:=this;rw[hcl,hsl,hsp];exact⟨by rw[Ei,EY];exact h1,by simpa using hw.2,h3,h4,h5,h6⟩
section
variable{l:List BC}{i n:Int}{x:BC}
theorem Ia(l:List BC)(i n:Int):(GY l i n).length=l.length:=by
 rw[GY];split<;>simp
theorem RR(hx:l[i.toNat]? =some x)(k:Nat):(GY l i n)[k]? =if k=i.toNat then some {x with in_:=n}else l[k]? :=by
 rw[GY,hx];dsimp only;rw[List.getElem?_set];have:=AI hx;by_cases e:i.toNat=k
 .rw[if_pos e,if_pos e.symm,if_pos (by omega)]
 .rw[if_neg e,if_neg fun h=>e h.symm]
theorem Ns(hi:0≤i)(hx:l[i.toNat]? =some x){k:Int}(hk:0≤k):A9 (GY l i n) k=if k=i then n else A9 l k:=by
 rw[A9,A9,RR hx];by_cases e:k=i
 .rw[if_pos (by omega),if_pos e];rfl
 .rw[if_neg (by omega),if_neg e]
theorem Om(hx:l[i.toNat]? =some x)(k:Int):AY (GY l i n) k=AY l k:=by
 rw[AY,AY,RR hx];split
 .rename_i e;rw[e,hx];rfl
 .rfl
theorem YH(hi:0≤i)(hx:l[i.toNat]? =some x): ∀{k:Nat} {b:Int},Ei l b→BD l k b=true→i∉Pr l k b→BD (GY l i n) k b=true
 |0,b,hb,hc,h=>hc
 |k+1,b,hb,hc,h=>by
  by_cases h0:b=0
  .subst h0;exact FR _ _
  .have hs:=Gb h0 hc;rw[Pr,if_neg h0,List.mem_cons,not_or]at h;rw[BD,Ns hi hx hb.1,if_neg fun e=>h.1 e.symm,YH hi hx hs.1 hs.2 h.2];have:Ei (GY l i n) (A9 l b):=by rw[Ei,Ia];exact hs.1
   rw[decide_eq_true this];simp
theorem YG(hT:Fo l)(hi:0<i)(hx:l[i.toNat]? =some x)(hn:Ei l n)(ho:Ck l n i=false): ∀{k:Nat} {b:Int},Ei l b→BD l k b=true→ ∃m,BD (GY l i n) m b=true
 |0,b,hb,hc=>by
  simp only[BD,decide_eq_true_eq]at hc;subst hc;exact⟨0,FR _ _⟩
 |k+1,b,hb,hc=>by
  by_cases h0:b=0
  .subst h0;exact⟨0,FR _ _⟩
  .have hs:=Gb h0 hc;by_cases e:b=i
   .have h1:=YH (n:=n) (by omega) hx hn (hT.climbs n hn) (by simpa[Ck]using ho);refine⟨l.length+1,?_⟩;have:Ei (GY l i n) n:=by rw[Ei,Ia];exact hn
    rw[BD,Ns (by omega) hx hb.1,if_pos e,h1,decide_eq_true this];simp
   .obtain⟨m,hm⟩:=YG hT hi hx hn ho hs.1 hs.2;refine⟨m+1,?_⟩;have:Ei (GY l i n) (A9 l b):=by rw[Ei,Ia];exact hs.1
    rw[BD,Ns (by omega) hx hb.1,if_neg e,hm,decide_eq_true this];simp
theorem lQ(hT:Fo l)(hi:0<i)(hx:l[i.toNat]? =some x)(hn:Ei l n)(ho:Ck l n i=false):Fo (GY l i n):=by
 refine⟨by rw[Ia];exact hT.pos,by rw[Ns (by omega) hx (by omega),if_neg (by omega)];exact hT.top,fun b hb=>?_⟩;have hb2:Ei l b:=by rw[Ei,Ia]at hb;exact hb
 obtain⟨m,hm⟩:=YG hT hi hx hn ho hb2 (hT.climbs b hb2);exact Kp (by omega) (PH hb hm)
end
theorem Nt{p:AJ}{sz:List Int}{s:A8}(h:Fm p sz s){i n:Int}(hi:0<i)(hir:Ei s.spots i)(hn:Ei s.spots n)(hl:AY s.spots n=false)(ho:Ck s.spots n i=false):Fm p sz {s with spots:=GY s.spots i n}:=by
 have hsm:=h.small;simp only[A8.small,Bool.and_eq_true,decide_eq_true_eq]at hsm;have h1:=hir.1;have h2:=hir.2;obtain⟨x,hx⟩:=get_some (l:=s.spots) (i:=i.toNat) (by omega);have hlen:=Ia s.spots i n;refine⟨by simp only[A8.small,Bool.and_eq_true,decide_eq_true_eq,hlen];omega,lQ h.tree hi hx hn ho,fun k y hk hy=>?_,fun k g hg=>?_,by dsimp only;rw[hlen];exact h.tot,fun c q hq=>?_,fun w hw=>?_⟩
 .dsimp only at hy⊢;rw[Om hx];rw[RR hx]at hy;split at hy
  .cases hy;exact .inr hl
  .exact h.dead k y hk hy
 .obtain⟨d,hd⟩:=h.grp k g hg;exact⟨d,hd.def_,by dsimp only;rw[Ei,hlen];exact hd.at_,hd.len,by dsimp only;rw[hlen];exact hd.vals,hd.mine,hd.chans⟩
 .have:=h.que c q hq;exact⟨this.len,by dsimp only;rw[Om hx];exact this.dead,fun m hm=>by dsimp only;rw[hlen];exact this.msgs m hm⟩
 .have:=h.wait w hw;simp only[CP,Bool.and_eq_true,decide_eq_true_eq,Bool.not_eq_true']at this⊢;rw[Om hx,hlen,Ei,hlen];exact this
theorem QU: ∀{l:List Nat} {t:List Int},Below l t→ ∀(i:Nat) n k,l[i]? =some n→t[i]? =some k→0≤k∧k<n
 |_,_,.nil,i,n,k,h,_=>by simp at h
 |_,_,.cons h1 h2 h3,0,n,k,e1,e2=>by
  simp only[List.getElem?_cons_zero,Option.some.injEq]at e1 e2;subst e1 e2;exact⟨h1,h2⟩
 |_,_,.cons h1 h2 h3,i+1,n,k,e1,e2=>QU h3 i n k (by simpa using e1) (by simpa using e2)
theorem RF{d:CH}{r:FP}{l:List Int}: ∀{i:Nat},r.joins.drop i=l→joinsOk d r i l=true→ ∀(j k:Nat) c c2,i≤j→k<j→r.joins[j]? =some c→r.joins[k]? =some c2→c≠c2:=by
 induction l with
 |nil=>
  intro i h _ j k c c2 hj _ e1 _;have:=List.drop_eq_nil_iff.1 h;have:=AI e1;omega
 |cons x l ih=>
  intro i h ho j k c c2 hj hk e1 e2;rw[joinsOk,Bool.and_eq_true]at ho;have hx:r.joins[i]? =some x:=by
   have:=congrArg (fun l=>l[0]?) h;simpa using this
  by_cases e:j=i
  .subst e;rw[hx]at e1;cases e1;have h1:=ho.1;simp only[KK,Bool.and_eq_true,decide_eq_true_eq,Bool.not_eq_true',decide_eq_false_iff_not]at h1;intro e;subst e;exact h1.2.2.2 (List.mem_iff_getElem?.2 ⟨k,by rw[List.getElem?_take,if_pos hk];exact e2⟩)
  .exact ih (by rw[Ae hx]at h;exact(List.cons.inj h).2) ho.2 j k c c2 (by omega) hk e1 e2
structure zt(p:AJ)(sz:List Int)(s:A8)(x:CJ)(s1:A8)(e:Iy)(js:List Gl):Prop where
 sok:Fm p sz s1
 jobs: ∀j∈js,CZ p sz s1 j
 run:Dn p s x=Bo (Fg p 401) js ⟨s1,[e],0⟩
 one:js.length≤1
theorem fA(x:Cd)(k:Nat)(a:Int)(e:List Cc):(BR x k a e).length≤1:=by
 rw[BR];split<;>simp
theorem SF{p:AJ}{sz:List Int}{s:A8}{w:E7}{x:Cd}(hF:BO p sz)(h:CP p sz s w=true)(hx:p.nodes[w.node.toNat]? =some x)(k:Nat): ∀j∈BR x k w.at_ w.env,CZ p sz s j:=by
 obtain⟨y,hw⟩:=P8 hF h;have hj:CZ p sz s ⟨w.node,w.at_,w.env⟩:=⟨hw.n0,hw.size,hw.at_,hw.live,hw.vals⟩;obtain⟨y2,l,h1,h2,h3,h4,_⟩:=K3 hF hj;have h1:p.nodes[w.node.toNat]? =some y2:=h1;rw[hw.node]at h1;rw[hw.node]at hx;cases hx;cases h1;exact Oe hj (by have:=hw.op;omega) h3 h4 k
theorem Lv{p:AJ}{sz:List Int}{s:A8}{j:Gl}(h:CZ p sz s j)(l:List E7):CZ p sz {s with waits:=l} j:=⟨h.n0,h.size,h.at_,h.live,h.vals⟩
theorem nU{p:AJ}{sz:List Int}{s:A8}{i:Nat}{w:E7}(hF:BO p sz)(hs:Fm p sz s)(hw:s.waits[i]? =some w)(hg:goes p s w=true): ∃s1 e js,zt p sz s ⟨i,0,0,[]⟩ s1 e js:=by
 have hwo:=hs.wait w (List.mem_of_getElem? hw);obtain⟨x,hx⟩:=P8 hF hwo;have hsm:=hs.small;simp only[A8.small,Bool.and_eq_true,decide_eq_true_eq]at hsm;have hs1:Fm p sz {s with waits:=Cf s.waits i}:=O4 hs (by have:=Qs s.waits (i:Int);omega) fun v hv=>hs.wait v (OX hv)
 have hd:Dn p s ⟨i,0,0,[]⟩=M7 p {s with waits:=Cf s.waits i} w x:=by
  rw[Dn,if_neg (by dsimp only;omega),SE];simp only[Int.toNat_natCast,hw,hx.node]
 rw[M7]at hd;have ho:=hx.op;by_cases h7:x.op=7
 .rw[if_pos h7]at hd;exact⟨_,_,[],vT hF hs1 w.at_,by simp,hd,by simp⟩
 .rw[if_neg h7]at hd;obtain⟨v,hv,hn,hk⟩:=hx.val h7;rw[goes,hx.node]at hg;simp only[h7,if_false,hn]at hg;split at hg
  .rename_i hk4;obtain⟨hr,y,hy,hyd⟩:=hk hk4;by_cases h6:x.op=6
   .rw[if_pos h6]at hd;rw[if_neg (by omega)]at hg;simp only[Bool.and_eq_true,decide_eq_true_eq,Bool.not_eq_true']at hg;have hat:=hx.at_;have a0:=hat.1;have hm:=Nt hs1 (i:=w.at_) (n:=v.n) (by omega) hat hr hg.2.1 hg.2.2;have hm2:=Nt hs (i:=w.at_) (n:=v.n) (by omega) hat hr hg.2.1 hg.2.2;rw[hn]at hd;exact⟨_,_,_,hm,fun j hj=>Lv (SF hF (hm2.wait w (List.mem_of_getElem? hw)) hx.node 0 j hj) (Cf s.waits i),hd,fA _ _ _ _⟩
   .rw[if_neg h6]at hd;exact⟨_,_,_,hs1,fun j hj=>Lv (SF hF hwo hx.node 0 j hj) (Cf s.waits i),hd,fA _ _ _ _⟩
  .cases hg
theorem Y6{p:AJ}{sz:List Int}{s:A8}{i k:Nat}{g:Ah}{d:CH}{r:FP}{t:List Int}(hF:BO p sz)(hs:Fm p sz s)(h1:s.groups[i]? =some g)(h2:p.def? g.def_=some d)(h3:d.rules[k]? =some r)(h4:AY s.spots (g.place d r.at_)=false)(h5:Below (Bn s d g r) t):WE p sz d r.joins s (Bc d g r.joins t s)∧CZ p sz (Bc d g r.joins t s).2 ⟨r.node,g.place d r.at_,g.env++(Bc d g r.joins t s).1⟩:=by
 obtain⟨d2,hd⟩:=hs.grp i g h1;have hr:=List.mem_of_getElem? h3;have hd2:=hd.def_;rw[h2]at hd2;cases hd2;have hri:=N7 hF hs h1 hd hr;have hdf:=CA hF (Gu h2).2;have hro:=hdf.ok.rule r hr;simp only[Ds,Bool.and_eq_true,decide_eq_true_eq]at hro;have hown: ∀c∈r.joins,(g.own d true c).toNat=(Fh p (s.groups.take i)).1+c.toNat:=fun c hc=>by
  obtain⟨a,b,_⟩:=hri.join c hc;have:=LG hd.mine a b;omega
 have ht:=ZP (p:=p) (sz:=sz) (d:=d) (g:=g) (cs:=r.joins) (ks:=t) hs (by have:=h5.len;rw[Bn,List.length_map]at this;exact this.symm) (fun j c k2 e1 e2=>?_) (fun a b c c2 hab e1 e2=>?_)
 .obtain⟨_,x,s0,b1,b2,b3,b4,b5,b6,b7,b8,_⟩:=hdf.node;have hlen:=hd.len;rw[b7]at hlen;simp only[Option.getD_some]at hlen;obtain⟨c1,c2⟩:=b8 r hr;refine⟨ht,c1,?_,by rw[ht.only.spots];exact hri.place,by rw[ht.only.spots];exact h4,?_⟩
  .have:=ht.len;dsimp only;rw[c2,List.length_append];congr 1;omega
  .rw[ht.only.spots,ht.only.len,List.all_append,hd.vals,ht.vals];rfl
 .obtain⟨c0,c1,c2,q,c3,c4,c5⟩:=hri.join c (List.mem_of_getElem? e1);have hb:=QU h5 j (Sn s (g.own d true c)) k2 (by rw[Bn,List.getElem?_map,e1];rfl) e2;refine⟨q,c3,by omega,?_⟩;obtain⟨ch,hch⟩:=get_some (l:=d.chans) (i:=c.toNat) (by omega);obtain⟨q2,f1,f2,f3,_⟩:=hd.chans _ ch hch;rw[hown c (List.mem_of_getElem? e1),f1]at c3;cases c3;rw[Lz h1 h2 hch f2 f3,hch];rfl
 .rw[hown c (List.mem_of_getElem? e1),hown c2 (List.mem_of_getElem? e2)];have:=RF rfl hro.2.2.2 b a c2 c (Nat.zero_le _) hab e2 e1;have q1:=(hri.join c (List.mem_of_getElem? e1)).1;have q2:=(hri.join c2 (List.mem_of_getElem? e2)).1;omega
theorem nT{p:AJ}{sz:List Int}{s:A8}{i k:Nat}{g:Ah}{d:CH}{r:FP}{t:List Int}(hF:BO p sz)(hs:Fm p sz s)(h1:s.groups[i]? =some g)(h2:p.def? g.def_=some d)(h3:d.rules[k]? =some r)(h4:AY s.spots (g.place d r.at_)=false)(h5:Below (Bn s d g r) t): ∃s1 e js,zt p sz s ⟨-1,i,k,t⟩ s1 e js:=by
 obtain⟨ht,hj⟩:=Y6 hF hs h1 h2 h3 h4 h5;have h1':s.groups[((i:Nat):Int).toNat]? =some g:=h1;have h3':d.rules[((k:Nat):Int).toNat]? =some r:=h3;refine⟨(Bc d g r.joins t s).2,⟨1,g.place d r.at_,i,k,(Bc d g r.joins t s).1⟩,[⟨r.node,g.place d r.at_,g.env++(Bc d g r.joins t s).1⟩],ht.sok,fun j hj2=>by rw[List.mem_singleton.1 hj2];exact hj,?_,by simp⟩;rw[Dn,if_pos (by dsimp only;omega),tK];simp only[h1',(Gu h2).2,h3',Vh];rw[Bo];cases Fg p 401 ⟨r.node,g.place d r.at_,g.env++(Bc d g r.joins t s).1⟩ ⟨(Bc d g r.joins t s).2,[⟨1,g.place d r.at_,i,k,(Bc d g r.joins t s).1⟩],0⟩<;>rfl
theorem tp{p:AJ}{sz:List Int}{s:A8}{x:CJ}(hF:BO p sz)(hs:Fm p sz s)(h:OG p s x): ∃s1 e js,zt p sz s x s1 e js:=by
 cases h with
 |wait h1 h2=>exact nU hF hs h1 h2
 |rule h1 h2 h3 h4 h5=>exact nT hF hs h1 h2 h3 h4 h5
theorem nR{p:AJ}{sz:List Int}{s:A8}{x:CJ}(hF:BO p sz)(hs:Fm p sz s)(h:OG p s x){st:CU}(hd:Dn p s x=some st):Fm p sz st.sol∧st.ev≠ []∧st.ev.length≤401:=by
 obtain⟨s1,e,js,hm⟩:=tp hF hs h;rw[hm.run]at hd;have hp:=Od (fun j st st'=>Kv hF 401 j st st') js ⟨s1,[e],0⟩ st hm.sok hm.jobs hd;obtain⟨l,h1,_⟩:=hp.evs;refine⟨hp.sok,by rw[h1];simp,?_⟩;have h2:=hp.ev;have h3:=hp.top (by dsimp only;omega);dsimp only[List.length_cons,List.length_nil]at h2;omega
end Go.Proofs
namespace Go.Proofs
open Go Go.Abs
theorem LU{α:Type}{l:List α}{k:Nat}{r:α}(h:l[k]? =some r):l=l.take k++r::l.drop (k+1):=by
 rw[←Ae h,List.take_append_drop]
theorem UJ{α:Type}{l:List α}{k:Nat}{r:α}(h:l[k]? =some r)(r':α):l.set k r'=l.take k++r'::l.drop (k+1):=by
 have hk:=AI h;rw[List.set_eq_take_append_cons_drop,if_pos hk]
theorem iX{α β:Type}{f:α→List β}{l:List α}(h:(l.flatMap f).Nodup){j k:Nat}{r r2:α}(hj:l[j]? =some r2)(hk:l[k]? =some r)(hjk:j≠k){x:β}(hx:x∈f r2):x∉f r:=by
 intro hy;rw[LU hk,List.flatMap_append,List.flatMap_cons,List.nodup_append]at h;obtain⟨_,h2,h3⟩:=h;rw[List.nodup_append]at h2;have hkl:=AI hk;have hjl:=AI hj;by_cases hlt:j<k
 .exact h3 x (List.mem_flatMap.2 ⟨r2,List.mem_of_getElem? (i:=j) (by rw[List.getElem?_take,if_pos hlt];exact hj),hx⟩) x (List.mem_append_left _ hy) rfl
 .exact h2.2.2 x hy x (List.mem_flatMap.2 ⟨r2,List.mem_of_getElem? (i:=j-(k+1)) (by rw[List.getElem?_drop,show k+1+(j-(k+1))=j by omega];exact hj),hx⟩) rfl
theorem Qy{α β:Type}{f:α→List β}{l:List α}(h:(l.flatMap f).Nodup){k:Nat}{r r':α}(hk:l[k]? =some r)(hn:(f r').Nodup)(hd: ∀x∈f r',x∈f r∨x∉l.flatMap f):((l.set k r').flatMap f).Nodup:=by
 have h0:=h;rw[LU hk,List.flatMap_append,List.flatMap_cons,List.nodup_append]at h;obtain⟨h1,h2,h3⟩:=h;rw[List.nodup_append]at h2;rw[UJ hk,List.flatMap_append,List.flatMap_cons,List.nodup_append];have key: ∀x∈f r',x∉(l.take k).flatMap f∧x∉(l.drop (k+1)).flatMap f:=fun x hx=>by
  rcases hd x hx with hh|hh
  .exact⟨fun e=>h3 x e x (List.mem_append_left _ hh) rfl,fun e=>h2.2.2 x hh x e rfl⟩
  .rw[LU hk,List.flatMap_append,List.flatMap_cons]at hh;simp only[List.mem_append,not_or]at hh;exact⟨hh.1,hh.2.2⟩
 refine⟨h1,List.nodup_append.2 ⟨hn,h2.2.1,fun a ha b hb e=>(key a ha).2 (by rw[e];exact hb)⟩,fun a ha b hb e=>?_⟩;rcases List.mem_append.1 hb with hb|hb
 .exact(key b hb).1 (by rw[←e];exact ha)
 .exact h3 a ha b (List.mem_append_right _ hb) e
theorem VY{α β:Type}{f:α→List β}{l:List α}{k:Nat}{r r':α}(hk:l[k]? =some r){x:β}(hx:x∈(l.set k r').flatMap f):x∈l.flatMap f∨x∈f r':=by
 rw[UJ hk,List.flatMap_append,List.flatMap_cons]at hx;rw[LU hk,List.flatMap_append,List.flatMap_cons];simp only[List.mem_append]at*;rcases hx with h|h|h
 .exact .inl (.inl h)
 .exact .inr h
 .exact .inl (.inr (.inr h))
theorem PY{p:AJ}{sz:List Int}{N:Abs.Id→Bool}{h h':AB}{m:Abs.Id}{V:MV}{st st':CU}{v3:AV}{rows:List (List AV)}(hM:EE p sz h m V st)(hu:Ke N V m)
 (hb:h'.get m=some (.box (Aj p sz {V with v3:=v3,rows:=rows} st'.work))) (ha:uu h' v3 rows) (hc:zQ h' rows st'.sol.chans) (hq:(rows.flatMap Al).Nodup)
 (hi: ∀id,id∈AE v3∨id∈rows.flatMap Al→(id∈AE V.v3∨id∈V.rows.flatMap Al)∨(N id=true∧ ∃l,id=1::l)) (ho: ∀j,j<4→Aw st' j=Aw st j)
 (hk: ∀id,id≠m→id∉AE V.v3→id∉V.rows.flatMap Al→N id=false→h'.get id=h.get id):MU p sz N m V h st' h':=by
 have hne: ∀id,(∀cs,h.get id≠some (.box cs))→id≠m:=fun id hh e=>hh _ (by subst e;exact hM.box);refine⟨{V with v3:=v3,rows:=rows},⟨hb,?_,fun j hj=>?_,ha,hc,hM.gw,hq⟩,fun id hid=>?_,fun id h1 h2=>hk id (fun e=>h1 (by rw[e];exact V.m_mem m)) (fun e=>h1 (V.v3_mem m e)) (fun e=>h1 (V.row_mem m e)) h2⟩
 .show h'.get V.acts=_;rw[hk _ (hne _ (by rw[hM.acts];simp)) (fun e=>?_) (fun e=>?_) (hu _ (V.acts_mem m))]
  .exact hM.acts
  .have:=Gq hM.arr e;rw[hM.acts]at this;cases this
  .obtain⟨x,hx⟩:=J8 hM.chans e;rw[hM.acts]at hx;cases hx
 .rw[ho j hj];refine Dt (hM.sl j hj) fun id hid=>?_;obtain⟨x,hx⟩:=Dk (hM.sl j hj) hid;refine hk id (hne _ (by rw[hx];simp)) (fun e=>?_) (fun e=>?_) (hu _ (V.s_mem m hj hid))
  .have:=Gq hM.arr e;rw[hx]at this;cases this
  .obtain⟨y,hy⟩:=J8 hM.chans e;rw[hx]at hy
   match j,hj with
   |0,_|1,_|2,_|3,_=>simp[FZ]at hy
 .rcases(({V with v3:=v3,rows:=rows}:MV).mem m id).1 hid with hh|hh|⟨j,hj,hh⟩|hh|hh
  .exact .inl (by rw[hh];exact V.m_mem m)
  .exact .inl (by rw[hh];exact V.acts_mem m)
  .exact .inl (V.s_mem m hj hh)
  .exact(hi id (.inl hh)).imp_left fun e=>e.elim (V.v3_mem m) (V.row_mem m)
  .exact(hi id (.inr hh)).imp_left fun e=>e.elim (V.v3_mem m) (V.row_mem m)
theorem Rq{p:AJ}{sz:List Int}{N:Abs.Id→Bool}{h:AB}{m A:Abs.Id}{V:MV}{st:CU}{k:Nat}{q:Fa}{v:AV}(hM:EE p sz h m V st)(hu:Ke N V m)(hA:V.v3=.osl A 0 V.rows.length)(hq:st.sol.chans[k]? =some q)(hr:V.rows[k]? =some (Aq q v))(l:List (List Cc))
 (v':AV) (h':AB) (a1:h'.get m=some (.box (Aj p sz V st.work))) (a0:h'.get A=some (.arr 4 (V.rows.set k (Aq q v')))) (a2:Kc h' 1 v' (l.map BG)) (a3:AE v'=AE v∨ ∀id∈AE v',N id=true∧ ∃l,id=1::l)
 (a4: ∀id,Id.is m id=false→Id.is A id=false→(∀id2∈AE v,Id.is id2 id=false)→N id=false→h'.get id=h.get id):MU p sz N m V h {st with sol:={st.sol with chans:=st.sol.chans.set k {q with queue:=l}}} h':=by
 have hAi:AE V.v3=[A]:=by rw[hA];rfl
 have hvr: ∀x,x∈AE v→x∈V.rows.flatMap Al:=fun x hx=>List.mem_flatMap.2 ⟨_,List.mem_of_getElem? hr,by rw[Bb];exact hx⟩;have hfr: ∀id,id≠m→id∉AE V.v3→id∉AE v→N id=false→h'.get id=h.get id:=fun id b1 b2 b3 b4=>a4 id (AD fun e=>b1 e.symm) (AD fun e=>b2 (by rw[hAi,←e];simp)) (fun id2 hid=>AD fun e=>b3 (by rw[←e];exact hid)) b4;have hv1:(AE v').Nodup∧(AE v').length≤1:=by
  rcases a2 with⟨rfl,_⟩|⟨i,x,rfl,_⟩<;>simp[AE]
 have hlen:(V.rows.set k (Aq q v')).length=V.rows.length:=by simp
 refine PY (v3:=V.v3) (rows:=V.rows.set k (Aq q v')) hM hu a1 (.inr ⟨A,by rw[hlen];exact hA,a0⟩) ⟨?_,fun j q2 hj=>?_⟩ ?_ (fun id hid=>?_) (fun j hj=>by match j,hj with|0,_|1,_|2,_|3,_=>rfl) fun id b1 b2 b3 b4=>hfr id b1 b2 (fun e=>b3 (hvr id e)) b4
 .simp[hM.chans.len]
 .dsimp only at hj;rw[List.getElem?_set]at hj⊢;have hkl:=AI hr;by_cases hjk:k=j
  .have hkl2:=AI hq;rw[if_pos hjk,if_pos hkl2]at hj;rw[if_pos hjk,if_pos hkl];cases hj;exact⟨v',rfl,a2⟩
  .rw[if_neg hjk]at hj⊢;obtain⟨w,hw,hs⟩:=hM.chans.row j q2 hj;refine⟨w,hw,Dt hs fun id hid=>?_⟩;have hmem:id∈V.rows.flatMap Al:=List.mem_flatMap.2 ⟨_,List.mem_of_getElem? hw,by rw[Bb];exact hid⟩;obtain⟨x,hx⟩:=Dk hs hid;refine hfr id (fun e=>?_) (fun e=>?_) ?_ (hu _ (V.row_mem m hmem))
   .rw[e,hM.box]at hx;cases hx
   .rw[Gq hM.arr e]at hx;cases hx
   .have:=iX hM.qd hw hr (fun e=>hjk e.symm) (x:=id) (by rw[Bb];exact hid)
    rwa [Bb]at this
 .refine Qy hM.qd hr (by rw[Bb];exact hv1.1) fun x hx=>?_;rw[Bb]at hx⊢;rcases a3 with e|e
  .exact .inl (by rw[←e];exact hx)
  .refine .inr fun hh=>?_;have:=hu _ (V.row_mem m hh);rw[(e x hx).1]at this;cases this
 .rcases hid with hid|hid
  .exact .inl (.inl hid)
  .rcases VY hr hid with hh|hh
   .exact .inl (.inr hh)
   .rw[Bb]at hh;rcases a3 with e|e
    .rw[e]at hh;exact .inl (.inr (hvr id hh))
    .exact .inr (e id hh)
theorem Oi{p:AJ}{sz:List Int}{π:List Nat}{n:Nat}{h H g:AB}{m:Abs.Id}{V:MV}{r:Option CU}{o:AZ}(hu:CF π V m)(hl: ∀id,Id.under π id=false→H.get id=h.get id)(ho:EU p sz (n::π) m V H r o g):EU p sz π m V h r o (gc (n::π) g):=by
 cases r with
 |none=>exact⟨ho.1,fun id h1 h2=>by rw[AU _ _ _ (AF h2 n),ho.2 id h1 (AF h2 n),hl id h2]⟩
 |some st'=>
  obtain⟨h1,V',hM,hK⟩:=ho;refine⟨h1,V',fJ hM hK (hu.ext n),fun id hid=>(hK.ids id hid).imp_right fun hh=>⟨BH hh.1,hh.2⟩,fun id a b=>?_⟩;rw[AU _ _ _ (AF b n),hK.frame id a (AF b n),hl id b]
theorem Oj{p:AJ}{sz:List Int}{π:List Nat}{h H:AB}{m:Abs.Id}{V:MV}{st:CU}(hM:EE p sz h m V st)(hu:CF π V m)(hl: ∀id,Id.under π id=false→H.get id=h.get id):EU p sz π m V h (some st) (.ret (.tup [])) H:=⟨rfl,V,EA hM hu hl,rQ hl⟩
theorem HX{α:Type}{f:α→List AW}{g:AB}{sz:Nat}{v:AV}{l:List α}(h:Kc g sz v (l.map f)){k:Nat}{y:α}(hy:l[k]? =some y): ∃id xs,v=.osl id 0 l.length∧g.get id=some (.darr sz (l.map f++xs))∧(l.map f++xs)[k]? =some (f y)∧k<l.length∧k<l.length+xs.length:=by
 have hk:=AI hy;rcases h with⟨_,h⟩|⟨id,xs,rfl,h⟩
 .rw[List.map_eq_nil_iff.1 h]at hk;simp at hk
 .exact⟨id,xs,by rw[List.length_map],h,by rw[List.getElem?_append_left (by simpa using hk),List.getElem?_map,hy];rfl,hk,by omega⟩
end Go.Proofs
namespace Go.Proofs
open Go Go.Abs
theorem CB{π:List Nat}{n n':Nat}{id:Abs.Id}(h:Id.under (n::π) id=true)(h':Id.under (n'::π) id=true):n=n':=by
 rw[under_iff]at h h';have:=List.suffix_of_suffix_length_le h h' (by simp);have:=this.eq_of_length (by simp);simpa using this
structure B9(p:AJ)(sz:List Int)(π:List Nat)(m:Abs.Id)(V:MV)(h:AB)(b:Nat)(V':MV)(st:CU)(g:AB):Prop where
 rep:EE p sz g m V' st
 ids: ∀id∈V'.ids m,id∈V.ids m∨ ∃n,n<b∧Id.under (n::π) id=true∧ ∃l,id=1::l
 frame: ∀id,id∉V.ids m→Id.under π id=false→g.get id=h.get id
section
variable{p:AJ}{sz:List Int}{π:List Nat}{m:Abs.Id}{V V':MV}{h g H g1:AB}{b:Nat}{st:CU}
theorem Eo{b':Nat}{id:Abs.Id}(hu:CF π V m)(hi:id∈V.ids m∨ ∃n,n<b∧Id.under (n::π) id=true∧ ∃l,id=1::l)(a n:Nat)(hn:b≤n):Id.is (a::n::π) id=false:=by
 rcases hi with hi|⟨k,hk,hk2,_⟩
 .exact AG (hu id hi) a n
 .refine AD fun e=>?_;subst e;have:=CB hk2 (n':=n) (under_iff.2 ⟨[a],rfl⟩);omega
theorem Jt{id:Abs.Id}(hu:CF π V m)(hi:id∈V.ids m∨ ∃n,n<b∧Id.under (n::π) id=true∧ ∃l,id=1::l)(a n:Nat)(hn:b≤n):Id.is id (a::n::π)=false:=by
 have:=Eo (b':=b) hu hi a n hn;exact AD fun e=>by rw[e,is_self]at this;cases this
theorem O0(hM:EE p sz h m V st)(hu:CF π V m)(hl: ∀id,Id.under π id=false→g.get id=h.get id):B9 p sz π m V h 0 V st g:=
 ⟨EA hM hu hl,fun id hid=>.inl hid,fun id _ hh=>hl id hh⟩
theorem B9.up(hr:B9 p sz π m V h b V' st g){b':Nat}(hb:b≤b'):B9 p sz π m V h b' V' st g:=
 ⟨hr.rep,fun id hid=>(hr.ids id hid).imp_right fun⟨n,h1,h2⟩=>⟨n,by omega,h2⟩,hr.frame⟩
theorem B9.loc(hu:CF π V m)(hr:B9 p sz π m V h b V' st g)(hl: ∀id,(∀a n,b≤n→Id.is (a::n::π) id=false)→H.get id=g.get id):B9 p sz π m V h b V' st H:=
 ⟨Bg hr.rep fun id hid=>hl id fun a n hn=>Eo (b':=b) hu (hr.ids id hid) a n hn,hr.ids,fun id h1 h2=>by rw[hl id fun a n _=>AG h2 a n];exact hr.frame id h1 h2⟩
theorem B9.apart(hu:CF π V m)(hr:B9 p sz π m V h b V' st g){n:Nat}(hn:b≤n):CF (n::π) V' m:=fun id hid=>by
 rcases hr.ids id hid with hh|⟨k,h1,h2,_⟩
 .exact AF (hu id hh) n
 .cases hx:Id.under (n::π) id with
  |false=>rfl
  |true=>
   have:=CB h2 hx;omega
theorem B9.fin(hr:B9 p sz π m V h b V' st g):EU p sz π m V h (some st) (.ret (.tup [])) g:=
 ⟨rfl,V',hr.rep,fun id hid=>(hr.ids id hid).imp_right fun⟨n,_,h2,h3⟩=>⟨BH h2,h3⟩,hr.frame⟩
theorem B9.call(hu:CF π V m)(hr:B9 p sz π m V h b V' st H){n:Nat}{st':CU}{o:AZ}(hn:b≤n)(ho:EU p sz (n::π) m V' H (some st') o g1): ∃V'',B9 p sz π m V h (n+1) V'' st' (gc (n::π) g1)∧ ∀id,id∉V'.ids m→Id.under (n::π) id=false→id∉V''.ids m:=by
 obtain⟨_,V'',hM,hK⟩:=ho;have hap:=hr.apart hu hn;refine⟨V'',⟨fJ hM hK hap,fun id hid=>?_,fun id h1 h2=>?_⟩,fun id h1 h2 h3=>?_⟩
 .rcases hK.ids id hid with hh|⟨h1,h2⟩
  .exact(hr.ids id hh).imp_right fun⟨k,a,c⟩=>⟨k,by omega,c⟩
  .exact .inr ⟨n,by omega,h1,h2⟩
 .rw[AU _ _ _ (AF h2 n),hK.frame id (fun hh=>?_) (AF h2 n)]
  .exact hr.frame id h1 h2
  .rcases hr.ids id hh with hh|⟨k,_,h3,_⟩
   .exact h1 hh
   .rw[BH h3]at h2;cases h2
 .rcases hK.ids id h3 with hh|⟨hh,_⟩
  .exact h1 hh
  .rw[h2]at hh;cases hh
theorem B9.pan(hu:CF π V m)(hr:B9 p sz π m V h b V' st H){n:Nat}{o:AZ}(hn:b≤n)(ho:EU p sz (n::π) m V' H none o g1):EU p sz π m V h none o (gc (n::π) g1):=by
 obtain⟨h1,h2⟩:=ho;refine⟨h1,fun id a c=>?_⟩;rw[AU _ _ _ (AF c n),h2 id (fun hh=>?_) (AF c n)]
 .exact hr.frame id a c
 .rcases hr.ids id hh with hh|⟨k,_,h3,_⟩
  .exact a hh
  .rw[BH h3]at c;cases c
theorem Tp{n:Nat}{r:Option CU}{o:AZ}(ho:EU p sz (n::π) m V' H r o g1){id:Abs.Id}(h1:id∉V'.ids m)(h2:Id.under (n::π) id=false):(gc (n::π) g1).get id=H.get id:=by
 rw[AU _ _ _ h2];cases r with
 |none=>exact ho.2 _ h1 h2
 |some st'=>
  obtain⟨_,V'',_,hK⟩:=ho;exact hK.frame _ h1 h2
theorem Gp(hr:B9 p sz π m V h b V' st H)(hu:CF π V m)(k:Nat):0::k::π∉V'.ids m:=fun hh=>by
 rcases hr.ids _ hh with hh|⟨_,_,_,l,e⟩
 .have:=hu _ hh;rw[show Id.under π (0::k::π)=true from under_iff.2 ⟨[0,k],rfl⟩]at this;cases this
 .cases e
theorem BA{k n:Nat}(π:List Nat)(h:k≠n):Id.under (n::π) (0::k::π)=false:=by
 cases hx:Id.under (n::π) (0::k::π)with
 |false=>rfl
 |true=>
  have:=CB hx (n':=k) (under_iff.2 ⟨[0],rfl⟩);omega
theorem B9.box(hu:CF π V m)(hr:B9 p sz π m V h b V' st H){n k:Nat}{r:Option CU}{o:AZ}(hk:k≠n)(ho:EU p sz (n::π) m V' H r o g1):(gc (n::π) g1).get (0::k::π)=H.get (0::k::π):=by
 have h1:=BA π hk;rw[AU _ _ _ h1];have h2:=Gp hr hu k;cases r with
 |none=>exact ho.2 _ h2 h1
 |some st'=>
  obtain⟨_,V'',_,hK⟩:=ho;exact hK.frame _ h2 h1
end
def H7(p:AJ)(sz:List Int)(k:Nat):Prop:= ∀(h:AB) (π:List Nat) (m:Abs.Id) (V:MV) (st:CU) (j:Gl),EE p sz h m V st→CF π V m→Fm p sz st.sol→CZ p sz st.sol j→0≤st.work→st.work≤400→401≤st.work+k→(st.ev.length:Int)≤900000+st.work→
 ∃o h',KL Tryz.prog cfg (.fn 66) [.ptr m 0,.d (.int .i64 j.node),.d (.int .i64 j.at_),.d (.lst (j.env.map AN))] h π true none=.ok (o,h')∧EU p sz π m V h (Fg p k j st) o h'
structure OD(p:AJ)(sz:List Int)(k:Nat)(st:CU):Prop where
 sok:Fm p sz st.sol
 w0:0≤st.work
 w1:st.work≤400
 w2:401≤st.work+k
 ev:(st.ev.length:Int)≤900000+st.work
theorem OD.post{p:AJ}{sz:List Int}{k:Nat}{st st':CU}(h:OD p sz k st)(hp:JU p sz st st'):OD p sz k st':=⟨hp.sok,by have:=hp.work;have:=h.w0;omega,hp.top h.w1,by have:=hp.work;have:=h.w2;omega,by have:=hp.ev;have:=h.ev;omega⟩
end Go.Proofs
namespace Go.Abs
def zl:Nat→Code→Code
 |n+1,.seq _ y=>zl n y
 |_,c=>c
def gZ:Nat→Code→Code→Code
 |n+1,.seq x y,t=>.seq x (gZ n y t)
 |0,_,t=>t
 |_,c,_=>c
theorem pc: ∀(n:Nat) (c:Code),gZ n c (zl n c)=c
 |0,c=>by cases c<;>rfl
 |n+1,c=>by
  cases c with
  |seq x y=>rw[zl,gZ,pc n y]
  |_=>rfl
theorem uZ{C:CG}{K:AL}{fr:Fr}{b:Nat}{c:Code}{st:St}{Q:DX→St→Prop}(n:Nat)(h: ∀T,T=zl n c→Wp C K fr b (gZ n c T) st Q):Wp C K fr b c st Q:=by
 have:=h _ rfl
 rwa [pc]at this
end Go.Abs
namespace Go.Proofs
open Go Go.Abs
noncomputable def HB(b b':Nat)(π:List Nat)(id:Abs.Id):Bool:= @decide (∃n,b≤n∧n<b'∧Id.under (n::π) id=true) (Classical.propDecidable _)
theorem Ib{b b':Nat}{π:List Nat}{id:Abs.Id}:HB b b' π id=true↔ ∃n,b≤n∧n<b'∧Id.under (n::π) id=true:=by
 unfold HB;rw[@decide_eq_true_eq _ (Classical.propDecidable _)]
theorem Cw{b b':Nat}{π:List Nat}{id:Abs.Id}(h:HB b b' π id=false)(a n:Nat)(h1:b≤n)(h2:n<b'):Id.is (a::n::π) id=false:=AD fun e=>by
 subst e;have:HB b b' π (a::n::π)=true:=Ib.2 ⟨n,h1,h2,under_iff.2 ⟨[a],rfl⟩⟩;rw[h]at this;cases this
theorem KO{b b':Nat}{π:List Nat}(n:Nat)(l:List Nat)(h1:b≤n)(h2:n<b'):HB b b' π (l++n::π)=true:=Ib.2 ⟨n,h1,h2,under_iff.2 ⟨l,rfl⟩⟩
section
variable{p:AJ}{sz:List Int}{π:List Nat}{m:Abs.Id}{V V':MV}{h g H g1:AB}{b b':Nat}{st st':CU}
theorem B9.apartB(hu:CF π V m)(hr:B9 p sz π m V h b V' st g):Ke (HB b b' π) V' m:=fun id hid=>by
 cases hx:HB b b' π id with
 |false=>rfl
 |true=>
  obtain⟨n,h1,_,h2⟩:=Ib.1 hx;rcases hr.ids id hid with hh|⟨k,h3,h4,_⟩
  .have:=hu id hh;rw[BH h2]at this;cases this
  .have:=CB h4 h2;omega
theorem B9.step(hb:b≤b')(hr:B9 p sz π m V h b V' st g)(hp:MU p sz (HB b b' π) m V' g st' H): ∃V2,B9 p sz π m V h b' V2 st' H∧ ∀id,id∉V'.ids m→HB b b' π id=false→id∉V2.ids m:=by
 obtain⟨V2,hM,hK⟩:=hp;refine⟨V2,⟨hM,fun id hid=>?_,fun id h1 h2=>?_⟩,fun id h1 h2 h3=>?_⟩
 .rcases hK.ids id hid with hh|⟨hh,hl⟩
  .exact(hr.ids id hh).imp_right fun⟨n,a,c⟩=>⟨n,by omega,c⟩
  .obtain⟨n,_,h2,h3⟩:=Ib.1 hh;exact .inr ⟨n,h2,h3,hl⟩
 .have hnb:HB b b' π id=false:=by
   cases hx:HB b b' π id with
   |false=>rfl
   |true=>
    obtain⟨n,_,_,h3⟩:=Ib.1 hx;rw[BH h3]at h2;cases h2
  rw[hK.frame id (fun hh=>?_) hnb]
  .exact hr.frame id h1 h2
  .rcases hr.ids id hh with hh|⟨k,_,h3,_⟩
   .exact h1 hh
   .rw[BH h3]at h2;cases h2
 .rcases hK.ids id h3 with hh|⟨hh,_⟩
  .exact h1 hh
  .rw[h2]at hh;cases hh
end
theorem Nu{b b' n:Nat}{π:List Nat}{id:Abs.Id}(hn:n<b)(hu:Id.under (n::π) id=true):HB b b' π id=false:=by
 cases hx:HB b b' π id with
 |false=>rfl
 |true=>
  obtain⟨k,h1,_,h2⟩:=Ib.1 hx;have:=CB hu h2;omega
theorem pW{p:AJ}{sz:List Int}{N:Abs.Id→Bool}{h:AB}{m:Abs.Id}{V:MV}{st:CU}(hM:EE p sz h m V st)(hu:Ke N V m){q:Fa}(hq:q.queue=[])(A:Abs.Id)(h':AB)
 (a1:h'.get m=some (.box (Aj p sz {V with v3:=.osl A 0 (V.rows.length+1)} st.work))) (a0:h'.get A=some (.arr 4 (V.rows++[Aq q .nils]))) (a3:N A=true∧ ∃l,A=1::l)
 (a4: ∀id,Id.is m id=false→(∀id2∈AE V.v3,Id.is id2 id=false)→N id=false→h'.get id=h.get id):MU p sz N m V h {st with sol:={st.sol with chans:=st.sol.chans++[q]}} h':=by
 have hfr: ∀id,id≠m→id∉AE V.v3→N id=false→h'.get id=h.get id:=fun id b1 b2 b3=>a4 id (AD fun e=>b1 e.symm) (fun id2 hid=>AD fun e=>b2 (by rw[←e];exact hid)) b3;have hids:(V.rows++[Aq q .nils]).flatMap Al=V.rows.flatMap Al:=by simp[Bb,AE]
 refine PY (v3:=.osl A 0 (V.rows.length+1)) (rows:=V.rows++[Aq q .nils]) hM hu a1 (.inr ⟨A,by simp,a0⟩) ⟨by simp[hM.chans.len],fun j q2 hj=>?_⟩ (by rw[hids];exact hM.qd) (fun id hid=>?_) (fun j hj=>by match j,hj with|0,_|1,_|2,_|3,_=>rfl) fun id b1 b2 _ b4=>hfr id b1 b2 b4
 .have hj2:(st.sol.chans++[q])[j]? =some q2:=hj;have hl:=hM.chans.len;by_cases hjl:j<st.sol.chans.length
  .rw[List.getElem?_append_left hjl]at hj2;obtain⟨v,h1,h2⟩:=hM.chans.row j q2 hj2;refine⟨v,by rw[List.getElem?_append_left (by omega)];exact h1,Dt h2 fun id hid=>?_⟩;have hmem:id∈V.rows.flatMap Al:=List.mem_flatMap.2 ⟨_,List.mem_of_getElem? h1,by rw[Bb];exact hid⟩;obtain⟨x,hx⟩:=Dk h2 hid;refine hfr id (fun e=>?_) (fun e=>?_) (hu _ (V.row_mem m hmem))
   .rw[e,hM.box]at hx;cases hx
   .rw[Gq hM.arr e]at hx;cases hx
  .have hlt:=AI hj2;rw[List.length_append,List.length_singleton]at hlt;obtain rfl:j=st.sol.chans.length:=by omega
   rw[List.getElem?_append_right (by omega)]at hj2;simp only[Nat.sub_self,List.getElem?_cons_zero,Option.some.injEq]at hj2;subst hj2;exact⟨.nils,by rw[List.getElem?_append_right (by omega),hl];simp,.inl ⟨rfl,by rw[hq];rfl⟩⟩
 .rw[hids]at hid;rcases hid with hid|hid
  .simp only[AE,List.mem_singleton]at hid;rw[hid];exact .inr a3
  .exact .inl (.inr hid)
structure M9(p:AJ)(sz:List Int)(π:List Nat)(m:Abs.Id)(V:MV)(h:AB)(b n:Nat)(V':MV)(g:AB)(r:Option CU)(o:AZ)(g':AB):Prop where
 box: ∀k,k<b→g'.get (0::k::π)=g.get (0::k::π)
 keep: ∀i,i∉V'.ids m→(∀a k,b≤k→Id.is (a::k::π) i=false)→Id.under (n::π) i=false→g'.get i=g.get i
 pan:r=none→o=.pan (B3 3)∧EU p sz π m V h none o g'
 ret: ∀st2,r=some st2→o=.ret (.tup [])∧ ∃V2,B9 p sz π m V h (n+1) V2 st2 g'∧ ∀i,i∉V'.ids m→Id.under (n::π) i=false→i∉V2.ids m
theorem gD{p:AJ}{sz:List Int}{π:List Nat}{m:Abs.Id}{V V':MV}{h g H g1:AB}{b n:Nat}{st:CU}{r:Option CU}{o:AZ}(hu:CF π V m)(hr:B9 p sz π m V h b V' st g)(hl: ∀id,(∀a n,b≤n→Id.is (a::n::π) id=false)→H.get id=g.get id)(hn:b≤n)(ho:EU p sz (n::π) m V' H r o g1):M9 p sz π m V h b n V' g r o (gc (n::π) g1):=by
 have hr2:=hr.loc hu hl;refine⟨fun k hk=>?_,fun i h1 h2 h3=>?_,fun e=>?_,fun st2 e=>?_⟩
 .rw[hr2.box hu (by omega) ho];exact hl _ fun a n hn=>AD fun e=>by simp at e;omega
 .rw[Tp ho h1 h3];exact hl i h2
 .subst e;exact⟨ho.1,hr2.pan hu hn ho⟩
 .subst e;exact⟨ho.1,hr2.call hu hn ho⟩
theorem TH{p:AJ}{sz:List Int}{k:Nat}(IH0:H7 p sz k){π:List Nat}{m:Abs.Id}{V V':MV}{h g:AB}{b:Nat}{st:CU}(hu:CF π V m)(hr:B9 p sz π m V h b V' st g)(hI:OD p sz k st){j:Gl}(hj:CZ p sz st.sol j)(H:AB)(n:Nat)(hn:b≤n)(hl: ∀id,(∀a n,b≤n→Id.is (a::n::π) id=false)→H.get id=g.get id):
 ∃o g1,KL Tryz.prog cfg (.fn 66) [.ptr m 0,.d (.int .i64 j.node),.d (.int .i64 j.at_),.d (.lst (j.env.map AN))] H (n::π) true none=.ok (o,g1)∧M9 p sz π m V h b n V' g (Fg p k j st) o (gc (n::π) g1):=by
 have hr2:=hr.loc hu hl;obtain⟨o,g1,h1,h2⟩:=IH0 H (n::π) m V' st j hr2.rep (hr2.apart hu hn) hI.sok hj hI.w0 hI.w1 hI.w2 hI.ev;exact⟨o,g1,h1,gD hu hr hl hn h2⟩
end Go.Proofs
namespace Go.Proofs
open Go Go.Abs
set_option maxRecDepth 100000
set_option maxHeartbeats 4000000
@[go_sem] theorem AC9(n m:Int):BM (KL Tryz.prog cfg) 58 [.d (.int .i64 n),.d (.int .i64 m)] []=Bl (B3 3) (decide (n≤m)):=by
  by_cases h:n≤m
  .rw[decide_eq_true h,KT]
   (refine Ay rfl Tryz.func58 rfl rfl rfl ?_;show Wp _ _ _ _ (Tryz.f58.body.get rfl) _ _;simp only[Tryz.f58,Option.get_some])
   (repeat' (first|simp only[go_sem, *]|(refine sx ?_ ?_<;>intro hc)|refine sy (by omega) fun x hx hm=>?_|simp(disch:=first|assumption|omega) only[wrap_id,AK,AH,slice_int]))
   all_goals omega
  .rw[decide_eq_false h,JR]
   (refine Ay rfl Tryz.func58 rfl rfl rfl ?_;show Wp _ _ _ _ (Tryz.f58.body.get rfl) _ _;simp only[Tryz.f58,Option.get_some])
   (repeat' (first|simp only[go_sem, *]|(refine sx ?_ ?_<;>intro hc)|refine sy (by omega) fun x hx hm=>?_|simp(disch:=first|assumption|omega) only[wrap_id,AK,AH,slice_int]))
   all_goals omega
theorem IU{p:AJ}{sz:List Int}{h:AB}{π:List Nat}{m:Abs.Id}{V:MV}{st:CU}(hM:EE p sz h m V st)(hu:CF π V m)(d a n r:Int)(l:List Cc)(hl:l.length≤1000000)(he:st.ev.length≤1000000):
 ∃o h',KL Tryz.prog cfg (.fn 103) [.ptr m 0,.d (.int .i64 (d)),.d (.int .i64 (a)),.d (.int .i64 (n)),.d (.int .i64 (r)),.d (.lst (l.map AN))] h π true none=.ok (o,h')∧EU p sz π m V h (some {st with ev:=st.ev++[⟨d,a,n,r,l⟩]}) o h':=by
 have go:=AA.mk (HL (st':={st with ev:=st.ev++[⟨d,a,n,r,l⟩]}) 3 (by omega) hM hu (ACa rfl) rfl)
 have hm:=hM.box;have um:=hu m (V.m_mem m);have hv:=hM.sl 3 (by omega);have hw:=fun id hid=>hu id (V.s_mem m (i:=3) (by omega) hid);simp only[Aj]at hm;simp only[FZ,Aw]at hv;have e1:=AG um;have e2:=Ar um;have e3:=Dj um;have e4:=Ju um;have h1:=JQ l hl;replace hM:=AA.mk hM;replace hu:=AA.mk hu;rcases hv with⟨hv,hz⟩|⟨id,x,hv,hg⟩
 .rw[hv]at hm;replace hz:=AA.mk (List.map_eq_nil_iff.1 hz);replace hw:=AA.mk hw;by_cases h0:l.length=0;all_goals
   (first|(obtain rfl:=List.eq_nil_of_length_eq_zero h0;simp only[List.length_nil,CR,List.map_nil]at h1)|simp only[Cy h0]at h1);have fa:=CV
   (refine Ak rfl Tryz.func103 rfl rfl rfl ?_;show Wp _ _ _ _ (Tryz.f103.body.get rfl) _ _;simp only[Tryz.f103,Option.get_some])
   refine ax ?_;refine⟨rfl,?_⟩
   (refine go.out (.osl (1::13::π) 0 1) _ ?_ (BU [] (by simp[Aw,hz.out]) ?_) (.inr fun id2 hid=>?_) (fun id2 b1 b2 b3=>?_);all_goals (try simp only[Aw,FZ,hz.out,List.nil_append]);all_goals (first|(simp only[AE,List.mem_singleton]at hid;subst hid;exact⟨Ao [1,13],_,rfl⟩)|(have q1:=AG b3;have q3:=Dj b3;simp only[go_sem,q1,q3,b1,Bool.false_eq_true];done)|(simp;done)|(simp only[go_sem,e1,e2,e3,e4,List.map_append,List.map_nil,Bool.false_eq_true];first|done|rfl)))
 .rw[hv]at hm;have ui:=hw id (by rw[hv];simp[AE]);have i1:=AG ui;have i2:=Ar ui;have i3:=Dj ui;have i4:=Ju ui;replace hw:=AA.mk hw;simp only[List.length_map]at hm;have him:Id.is id m=false:=AD fun e=>by rw[e,hm]at hg;cases hg
  have hmi:Id.is m id=false:=AD fun e=>by rw[←e,hm]at hg;cases hg
  replace hv:=AA.mk hv;have n1: ∀v,v=.osl id 0 (st.ev.length+1)→AE v=AE (V.s 3):=fun v e=>by rw[e,hv.out];rfl
  have n2: ∀id3,(∀id2∈AE (V.s 3),Id.is id2 id3=false)→Id.is id id3=false:=fun id3 b=>b id (by rw[hv.out];simp[AE]);by_cases h0:l.length=0;all_goals rcases x with _|⟨y,x⟩
  all_goals
   (first|(obtain rfl:=List.eq_nil_of_length_eq_zero h0;simp only[List.length_nil,CR,List.map_nil]at h1)|simp only[Cy h0]at h1);have fa:=CV
   (refine Ak rfl Tryz.func103 rfl rfl rfl ?_;show Wp _ _ _ _ (Tryz.f103.body.get rfl) _ _;simp only[Tryz.f103,Option.get_some])
   refine ax ?_;refine⟨rfl,?_⟩
   (first|(refine go.out (.osl (1::13::π) 0 (st.ev.length+1)) _ ?_ (BU [] ?_ ?_) (.inr fun id2 hid=>?_) (fun id2 b1 b2 b3=>?_);all_goals (try simp only[Aw,FZ]);all_goals (first|(simp only[AE,List.mem_singleton]at hid;subst hid;exact⟨Ao [1,13],_,rfl⟩)|(have q1:=AG b3;have q3:=Dj b3;have q5:=n2 _ b2;simp only[go_sem,q1,q3,b1,q5,Bool.false_eq_true];done)|(simp;done)|(simp only[go_sem,e1,e2,e3,e4,i1,i2,i3,i4,him,hmi,List.map_append,List.map_nil,Bool.false_eq_true];first|done|rfl));done)|(refine go.out (.osl id 0 (st.ev.length+1)) _ ?_ (BU x ?_ ?_) (.inl (n1 _ rfl)) (fun id2 b1 b2 b3=>?_);all_goals (try simp only[Aw,FZ]);all_goals (first|(simp only[AE,List.mem_singleton]at hid;subst hid;exact⟨Ao [1,13],_,rfl⟩)|(have q1:=AG b3;have q3:=Dj b3;have q5:=n2 _ b2;simp only[go_sem,q1,q3,b1,q5,Bool.false_eq_true];done)|(simp;done)|(simp only[go_sem,e1,e2,e3,e4,i1,i2,i3,i4,him,hmi,List.map_append,List.map_nil,Bool.false_eq_true];first|done|rfl))))
theorem zG{p:AJ}{sz:List Int}{h:AB}{π:List Nat}{m:Abs.Id}{V:MV}{st:CU}(hM:EE p sz h m V st)(hu:CF π V m)(j:Gl)(hl:j.env.length≤1000000)(he:st.sol.waits.length≤1000000):
 ∃o h',KL Tryz.prog cfg (.fn 114) [.ptr m 0,.agg [.d (.int .i64 (j.node)),.d (.int .i64 (j.at_)),.d (.lst (j.env.map AN))]] h π true none=.ok (o,h')∧EU p sz π m V h (JC j st) o h':=by
 have go:=AA.mk (HL (st':={st with sol:={st.sol with waits:=st.sol.waits++[⟨j.at_,j.node,j.env⟩]}}) 2 (by omega) hM hu (rB rfl rfl rfl) rfl)
 have gf:=AA.mk fun v h' a1 a2 a3 a4=>PZ (go.out v h' a1 a2 a3 a4);have hd:AA (JC j st=if st.sol.waits.length<40 then some {st with sol:={st.sol with waits:=st.sol.waits++[⟨j.at_,j.node,j.env⟩]}}else none):=⟨rfl⟩
 have hm:=hM.box;have um:=hu m (V.m_mem m);have hv:=hM.sl 2 (by omega);have hw:=fun id hid=>hu id (V.s_mem m (i:=2) (by omega) hid);simp only[Aj]at hm;simp only[FZ,Aw]at hv;have e1:=AG um;have e2:=Ar um;have e3:=Dj um;have e4:=Ju um;have h1:=JQ j.env hl;replace hM:=AA.mk hM;replace hu:=AA.mk hu;rcases hv with⟨hv,hz⟩|⟨id,x,hv,hg⟩
 .rw[hv]at hm;replace hz:=AA.mk (List.map_eq_nil_iff.1 hz);replace hw:=AA.mk hw;obtain⟨jn,ja,l⟩:=j;dsimp only at*;by_cases h0:l.length=0;all_goals
   (first|(obtain rfl:=List.eq_nil_of_length_eq_zero h0;simp only[List.length_nil,CR,List.map_nil]at h1)|simp only[Cy h0]at h1);have fa:=CV
   (refine Ak rfl Tryz.func114 rfl rfl rfl ?_;show Wp _ _ _ _ (Tryz.f114.body.get rfl) _ _;simp only[Tryz.f114,Option.get_some])
   refine ax ?_;rw[hd.out,if_pos (by rw[hz.out];decide)];refine⟨rfl,?_⟩
   (refine go.out (.osl (1::16::π) 0 1) _ ?_ (BU [] (by simp[Aw,hz.out]) ?_) (.inr fun id2 hid=>?_) (fun id2 b1 b2 b3=>?_);all_goals (try simp only[Aw,FZ,hz.out,List.nil_append]);all_goals (first|(simp only[AE,List.mem_singleton]at hid;subst hid;exact⟨Ao [1,16],_,rfl⟩)|(have q1:=AG b3;have q3:=Dj b3;simp only[go_sem,q1,q3,b1,Bool.false_eq_true];done)|(simp;done)|(simp only[go_sem,e1,e2,e3,e4,List.map_append,List.map_nil,Bool.false_eq_true];first|done|rfl)))
 .rw[hv]at hm;have ui:=hw id (by rw[hv];simp[AE]);have i1:=AG ui;have i2:=Ar ui;have i3:=Dj ui;have i4:=Ju ui;replace hw:=AA.mk hw;simp only[List.length_map]at hm;have him:Id.is id m=false:=AD fun e=>by rw[e,hm]at hg;cases hg
  have hmi:Id.is m id=false:=AD fun e=>by rw[←e,hm]at hg;cases hg
  replace hv:=AA.mk hv;have n1: ∀v,v=.osl id 0 (st.sol.waits.length+1)→AE v=AE (V.s 2):=fun v e=>by rw[e,hv.out];rfl
  have n2: ∀id3,(∀id2∈AE (V.s 2),Id.is id2 id3=false)→Id.is id id3=false:=fun id3 b=>b id (by rw[hv.out];simp[AE]);obtain⟨jn,ja,l⟩:=j;dsimp only at*;by_cases h0:l.length=0;all_goals rcases x with _|⟨y,x⟩
  all_goals
   (first|(obtain rfl:=List.eq_nil_of_length_eq_zero h0;simp only[List.length_nil,CR,List.map_nil]at h1)|simp only[Cy h0]at h1);have fa:=CV
   (refine Ak rfl Tryz.func114 rfl rfl rfl ?_;show Wp _ _ _ _ (Tryz.f114.body.get rfl) _ _;simp only[Tryz.f114,Option.get_some])
   (repeat' (first|simp only[go_sem, *,Bool.false_eq_true]|(refine sx ?_ ?_<;>intro hc)|refine sy (by omega) fun x hx hm=>?_|simp(disch:=first|assumption|omega) only[wrap_id,AK,AH,slice_int]))
   all_goals rw[hd.out]
   .rw[if_pos (by omega)];refine⟨rfl,?_⟩
    (first|(refine go.out (.osl (1::16::π) 0 (st.sol.waits.length+1)) _ ?_ (BU [] ?_ ?_) (.inr fun id2 hid=>?_) (fun id2 b1 b2 b3=>?_);all_goals (try simp only[Aw,FZ]);all_goals (first|(simp only[AE,List.mem_singleton]at hid;subst hid;exact⟨Ao [1,16],_,rfl⟩)|(have q1:=AG b3;have q3:=Dj b3;have q5:=n2 _ b2;simp only[go_sem,q1,q3,b1,q5,Bool.false_eq_true];done)|(simp;done)|(simp only[go_sem,e1,e2,e3,e4,i1,i2,i3,i4,him,hmi,List.map_append,List.map_nil,Bool.false_eq_true];first|done|rfl));done)|(refine go.out (.osl id 0 (st.sol.waits.length+1)) _ ?_ (BU x ?_ ?_) (.inl (n1 _ rfl)) (fun id2 b1 b2 b3=>?_);all_goals (try simp only[Aw,FZ]);all_goals (first|(simp only[AE,List.mem_singleton]at hid;subst hid;exact⟨Ao [1,16],_,rfl⟩)|(have q1:=AG b3;have q3:=Dj b3;have q5:=n2 _ b2;simp only[go_sem,q1,q3,b1,q5,Bool.false_eq_true];done)|(simp;done)|(simp only[go_sem,e1,e2,e3,e4,i1,i2,i3,i4,him,hmi,List.map_append,List.map_nil,Bool.false_eq_true];first|done|rfl))))
   .rw[if_neg (by omega)];refine⟨rfl,?_⟩;replace go:=gf
    (first|(refine go.out (.osl (1::16::π) 0 (st.sol.waits.length+1)) _ ?_ (BU [] ?_ ?_) (.inr fun id2 hid=>?_) (fun id2 b1 b2 b3=>?_);all_goals (try simp only[Aw,FZ]);all_goals (first|(simp only[AE,List.mem_singleton]at hid;subst hid;exact⟨Ao [1,16],_,rfl⟩)|(have q1:=AG b3;have q3:=Dj b3;have q5:=n2 _ b2;simp only[go_sem,q1,q3,b1,q5,Bool.false_eq_true];done)|(simp;done)|(simp only[go_sem,e1,e2,e3,e4,i1,i2,i3,i4,him,hmi,List.map_append,List.map_nil,Bool.false_eq_true];first|done|rfl));done)|(refine go.out (.osl id 0 (st.sol.waits.length+1)) _ ?_ (BU x ?_ ?_) (.inl (n1 _ rfl)) (fun id2 b1 b2 b3=>?_);all_goals (try simp only[Aw,FZ]);all_goals (first|(simp only[AE,List.mem_singleton]at hid;subst hid;exact⟨Ao [1,16],_,rfl⟩)|(have q1:=AG b3;have q3:=Dj b3;have q5:=n2 _ b2;simp only[go_sem,q1,q3,b1,q5,Bool.false_eq_true];done)|(simp;done)|(simp only[go_sem,e1,e2,e3,e4,i1,i2,i3,i4,him,hmi,List.map_append,List.map_nil,Bool.false_eq_true];first|done|rfl))))
end Go.Proofs
namespace Go.Proofs
open Go Go.Abs
set_option maxRecDepth 100000
set_option maxHeartbeats 4000000
structure La(p:AJ)(j:Gl)(x:Cd):Prop where
 n0:0≤j.node
 node:p.nodes[j.node.toNat]? =some x
 len:j.env.length≤10000
theorem Nx{p:AJ}{j:Gl}{x:Cd}(h:La p j x):j.node.toNat<p.nodes.length:=AI h.node
theorem y7{p:AJ}{sz:List Int}{h:AB}{π:List Nat}{m:Abs.Id}{V:MV}{st:CU}(hM:EE p sz h m V st)(hu:CF π V m)(j:Gl){x:Cd}(hj:La p j x)(hp:p.nodes.length≤60)(hal:x.args.length≤3)(haf: ∀e∈x.args,e.formed j.env.length=true)(hn0:0≤x.n)(hn1:x.n<j.env.length)
 (hin:j.env.all (Cc.inB p st.sol.chans.length st.sol.spots.length)=true) (hc: ∀(c:Nat) (q:Fa),st.sol.chans[c]? =some q→eN p st.sol q) (he:st.ev.length≤1000000):
 ∃o h',KL Tryz.prog cfg (.fn 110) [.ptr m 0,.agg [.d (.int .i64 (j.node)),.d (.int .i64 (j.at_)),.d (.lst (j.env.map AN))]] h π true none=.ok (o,h')∧EU p sz π m V h (EZ p x j st) o h':=by
 have hm:=hM.box;have um:=hu m (V.m_mem m);simp only[Aj]at hm;have e1:=AG um;have e2:=Ar um;have e3:=Dj um;have e4:=Ju um;obtain⟨L,hL⟩: ∃L,L=x.args.map fun e=>e.value j.env:=⟨_,rfl⟩;have hLl:L.length=x.args.length:=by rw[hL,List.length_map]
 have hx:=hj.node;have hn:=hj.n0;have hel:=hj.len;obtain⟨to,hto⟩:=get_some (l:=j.env) (i:=x.n.toNat) (by omega);have hxl:=Nx hj;replace hM:=AA.mk hM;replace hu:=AA.mk hu;replace hc:=AA.mk hc;replace hin:=AA.mk hin;replace hL:=AA.mk hL;replace hLl:=AA.mk hLl;replace haf:=AA.mk haf
 (refine Ak rfl Tryz.func110 rfl rfl rfl ?_;show Wp _ _ _ _ (Tryz.f110.body.get rfl) _ _;simp only[Tryz.f110,Option.get_some])
 refine aw ?_;refine AX x.args _ (S:=fun m' i (a:(AV×AB)×Nat)=>⟨[(0,.ptr m 0),(3,.ptr (0::0::π) 0),(4,.ptr (0::10::π) 0),(5,a.1.1),(20,.d (.lst (x.args.map Bs))),(21,.d (.int .i64 (m'))),(22,.d (.int .i64 (i)))],a.1.2,a.2+17,[]⟩)
  (Inv:=fun i rest a=>(∀id,Id.under π id=false→a.1.2.get id=h.get id)∧a.1.2.get (0::0::π)=some (.box [.d (.int .i64 (j.node)),.d (.int .i64 (j.at_)),.d (.lst (j.env.map AN))])∧a.1.2.get (0::10::π)=some (.box [.d (.int .i64 (x.op)),.d (.int .i64 (x.n)),.d (.lst (x.args.map Bs)),.d (.lst (x.kids.map AO))])∧AA ((i=0∧a.1.1=.nils)∨ ∃n,n<a.2+17∧a.1.1=.osl (1::n::π) 0 i∧a.1.2.get (1::n::π)=some (.darr 2 ((L.take i).map AN)))) (b0:=((_,_),_)) rfl ⟨?_,?_,?_,⟨.inl ⟨rfl,rfl⟩⟩⟩ ?_ ?_
 .intro id b;have q1:=AG b;simp only[go_sem,q1,Bool.false_eq_true]
 .simp only[go_sem]
 .simp only[go_sem]
 .rintro i y ⟨⟨t5,g⟩,b⟩ hy hi him ⟨k1,k2,k3,kl⟩ IH;dsimp only at*;have hyf:=haf.out y (List.mem_of_getElem? hy);have hLi:AA (L[i]? =some (y.value j.env)):=⟨by rw[hL.out,List.getElem?_map,hy];rfl⟩;replace k1:=AA.mk k1;have hLt:AA (L.take (i+1)=L.take i++[y.value j.env]):=⟨by rw[List.take_add_one,hLi.out];rfl⟩;rcases kl.out with⟨rfl,rfl⟩|⟨n,hnb,rfl,hg⟩
  .clear kl;have him0:(0:Int)<x.args.length:=him;refine aw ?_;refine IH.out ((_,_),_) ⟨fun id b=>?_,?_,?_,⟨.inr ⟨b+28,by simp,rfl,?_⟩⟩⟩
   .have q1:=AG b;have q2:=k1.out id b;simp only[go_sem,q1,q2,Bool.false_eq_true]
   .simp only[go_sem,k2]
   .simp only[go_sem,k3]
   .rw[hLt.out];simp only[go_sem]
  .clear kl;have d0:(L.take i).length=i:=by have:=hLl.out;rw[List.length_take];omega
   have d1:List.take i (List.map AN (List.take i L))=List.map AN (List.take i L):=List.take_of_length_le (by simp;omega);have d2: ¬b+27=n:=by omega
   have d3: ¬b+20=n:=by omega
   have d4: ¬n=b+27:=by omega
   have d5: ¬n=b+28:=by omega
   refine ax ?_;refine IH.out ((_,_),_) ⟨fun id b=>?_,?_,?_,⟨.inr ⟨b+28,by simp,rfl,?_⟩⟩⟩
   .have q1:=AG b;have q2:=k1.out id b;simp only[go_sem,q1,q2,Bool.false_eq_true]
   .simp only[go_sem,k2]
   .simp only[go_sem,k3]
   .rw[hLt.out];simp only[go_sem,d5,List.map_append]
 .rintro i ⟨⟨t5,g⟩,b⟩ hi him ⟨k1,k2,k3,kl⟩;dsimp only at*;have hiL:i=L.length:=by rw[hi.out,hLl.out]
  clear hi;have hto2:Hc j.env x.n=to:=by rw[Hc,hto];rfl
  have htl:List.take L.length L=L:=List.take_length;have hL3:L.length≤3:=by have:=hLl.out;omega
  replace k1:=AA.mk k1;by_cases kk2:to.kind=2
  .have hd:AA (EZ p x j st=some {st with ev:=st.ev++[⟨5,j.at_,to.n,0,L⟩]}):=⟨by
    simp only[EZ,hto2,kk2,if_true,hL.out];rfl⟩
   rcases kl.out with⟨rfl,rfl⟩|⟨n,hnb,rfl,hg⟩
   .clear kl;have him0: ¬(0:Int)<x.args.length:=him;have hL0:=List.eq_nil_of_length_eq_zero hiL.symm;subst hL0;clear hiL;refine aw ?_;refine Ab (IU (V:=V) (st:=st) (EA hM.out hu.out ?_) (hu.out.ext _) 5 j.at_ to.n 0 [] (by simp) he) (fun o1 g1 p1=>?_)
    .intro id b;have q1:=AG b;have q2:=k1.out id b;simp only[go_sem,q1,q2,Bool.false_eq_true]
    .have fin:=Oi (h:=h) hu.out (fun id b=>?_) p1
     .obtain rfl:=p1.1;refine aw ?_;rw[hd.out];exact fin
     .have q1:=AG b;have q2:=k1.out id b;simp only[go_sem,q1,q2,Bool.false_eq_true]
   .clear kl;subst hiL;refine aw ?_;refine Ab (IU (V:=V) (st:=st) (EA hM.out hu.out ?_) (hu.out.ext _) 5 j.at_ to.n 0 L (by omega) he) (fun o1 g1 p1=>?_)
    .intro id b;have q1:=AG b;have q2:=k1.out id b;simp only[go_sem,q1,q2,Bool.false_eq_true]
    .have fin:=Oi (h:=h) hu.out (fun id b=>?_) p1
     .obtain rfl:=p1.1;refine aw ?_;rw[hd.out];exact fin
     .have q1:=AG b;have q2:=k1.out id b;simp only[go_sem,q1,q2,Bool.false_eq_true]
  by_cases kk3:to.kind=3
  .have hib:=List.all_eq_true.1 hin.out to (List.mem_of_getElem? hto);simp only[Cc.inB,kk3,Int.reduceEq,if_true,if_false,Bool.and_eq_true,decide_eq_true_eq]at hib;obtain⟨t0,t1⟩:=hib;obtain⟨q,hq⟩:=get_some (l:=st.sol.chans) (i:=to.n.toNat) (by omega);obtain⟨v,hr,hqs⟩:=hM.out.chans.row _ _ hq;have hr0:=AA.mk hr;have hcf:=hc.out _ _ hq;obtain⟨c1,c2⟩:=hcf.at_;obtain⟨gr,d,ch,hgr,c3,hdd,hch⟩:=hcf.ex;have c4:=hcf.g0;have c5:=hcf.i0;have c6:=hcf.len;obtain⟨sp,hsp⟩:=get_some (l:=st.sol.spots) (i:=q.at_.toNat) (by omega);obtain⟨S,xs,hS,gS,xS,lS,lS2⟩:=HX (hM.out.sl 0 (by omega)) hsp;obtain⟨G,ys,hG,gG,xG,lG,lG2⟩:=HX (hM.out.sl 1 (by omega)) hgr;have hA:=hM.out.arr;rcases hA with⟨_,hA⟩|⟨A,hA,gA⟩
   .rw[hA]at hr;simp at hr
   have lA:=AI hr;have sg: ∀r:List AV,(V.rows.set to.n.toNat r)[to.n.toNat]? =some r:=fun r=>List.getElem?_set_self lA;have uA:=hu.out A (V.v3_mem m (by rw[hA];simp[AE]));have uS:=hu.out S (V.s_mem m (i:=0) (by omega) (by rw[hS];simp[AE]));have uG:=hu.out G (V.s_mem m (i:=1) (by omega) (by rw[hG];simp[AE]));have gm:=(k1.out m um).trans hm;rw[hA,hS,hG]at gm;replace gA:=(k1.out A uA).trans gA;replace gS:=(k1.out S uS).trans gS;replace gG:=(k1.out G uG).trans gG;have a1:=AG uA;have a2:=Ar uA;have a3:=AG uS;have a4:=AG uG;have ldd:=AI hdd;have lch:=AI hch;have hsd:AY st.sol.spots q.at_=sp.dead:=by simp[AY,hsp]
   have hmn:Dd p st.sol q=ch.many:=by simp[Dd,hgr,hdd,hch]
   have hd:AA (EZ p x j st=(O1 p st.sol to.n L).map fun s=>{st with sol:=s}):=⟨by
    simp only[EZ,hto2,kk3,if_true,hL.out];rfl⟩
   have hd2:AA (O1 p st.sol to.n L=if sp.dead=false∧ch.many=L.length then W3 st.sol to.n q L else some st.sol):=⟨by
    rw[O1,hq];simp only[hsd,hmn]⟩
   clear hsd hmn hcf;replace hm:=AA.mk hm;replace hS:=AA.mk hS;replace hG:=AA.mk hG;replace hA:=AA.mk hA;simp only[Aq]at hr;simp only[FZ]at gS gG;have go:=AA.mk (Rq hM.out hu.out hA.out hq hr0.out (q.queue++[L]));have gf:=AA.mk fun v h' a1 a0 a2 a3 a4=>PZ (go.out v h' a1 a0 a2 a3 a4);have hs1:AA (sp.dead=true→EZ p x j st=some st):=⟨fun h=>by rw[hd.out,hd2.out,if_neg (by simp[h])];rfl⟩;have hs2:AA (¬ch.many=L.length→EZ p x j st=some st):=⟨fun h=>by rw[hd.out,hd2.out,if_neg (fun hh=>h hh.2)];rfl⟩;have hs3:AA (sp.dead=false→ch.many=L.length→q.queue.length+1≤12→EZ p x j st=some {st with sol:={st.sol with chans:=st.sol.chans.set to.n.toNat {q with queue:=q.queue++[L]}}}):=⟨fun h1 h2 h3=>by rw[hd.out,hd2.out,if_pos ⟨h1,h2⟩,W3,if_pos (by omega)];rfl⟩
   have hs4:AA (sp.dead=false→ch.many=L.length→ ¬q.queue.length+1≤12→EZ p x j st=none):=⟨fun h1 h2 h3=>by rw[hd.out,hd2.out,if_pos ⟨h1,h2⟩,W3,if_neg (by omega)];rfl⟩;clear hd hd2;have Am:Id.is A m=false:=AD fun e=>by rw[e,gm]at gA;cases gA
   have mA:Id.is m A=false:=AD fun e=>by rw[←e,gm]at gA;cases gA
   have same:AA (∀H:AB,(∀id,Id.under π id=false→H.get id=g.get id)→EU p sz π m V h (some st) (.ret (.tup [])) H):=⟨fun H hH=>Oj hM.out hu.out fun id b=>(hH id b).trans (k1.out id b)⟩;rcases hqs with⟨rfl,hz⟩|⟨Q,zs,rfl,gQ⟩
   .replace hz:=AA.mk (List.map_eq_nil_iff.1 hz);rcases kl.out with⟨rfl,rfl⟩|⟨n,hnb,rfl,hg⟩;all_goals clear kl
    .have him0: ¬(0:Int)<x.args.length:=him;have hL0:=List.eq_nil_of_length_eq_zero hiL.symm;subst hL0;clear hiL
     (repeat' (first|simp only[go_sem, *,Bool.false_eq_true]|(refine sx ?_ ?_<;>intro hc)|refine sy (by omega) fun x hx hm=>?_|simp(disch:=first|assumption|omega) only[wrap_id,AK,AH,slice_int]))
     all_goals (first|(rw[hs1.out (by assumption)];exact same.out _ (fun id b=>by have q1:=AG b;simp only[go_sem,q1,Bool.false_eq_true]))|(rw[hs2.out (by first|assumption|(show¬ch.many=0;assumption))];exact same.out _ (fun id b=>by have q1:=AG b;simp only[go_sem,q1,Bool.false_eq_true]))|(rw[hs3.out (by assumption) (by first|assumption|(show ch.many=0;assumption)) (by first|assumption|omega|(rw[hz.out];decide))];refine⟨rfl,?_⟩;first|(refine go.out (.osl (1::(b+94)::π) 0 1) _ ?_ ?_ (BU [] ?_ ?_) (.inr fun id2 hid=>?_) fun id2 b1 b2 b3 b4=>?_;all_goals (first|(simp only[AE,List.mem_singleton]at hid;subst hid;exact⟨Ao [1,b+94],_,rfl⟩)|(have q1:=AG b4;have q2:=k1.out id2 b4;simp only[go_sem,q1,q2,b1,b2,Bool.false_eq_true];done)|(simp[hz.out];done)|(simp only[go_sem,e1,e2,a1,a2,Am,mA,gm,Aj,hS.out,hG.out,hA.out,Aq,List.map_append,List.map_nil,Bool.false_eq_true,hz.out];first|done|rfl));done)))
    .subst hiL;have d1: ¬b+93=n:=by omega
     have d2: ¬n=b+93:=by omega
     have d3: ¬b+94=n:=by omega
     have d4: ¬n=b+94:=by omega
     (repeat' (first|simp only[go_sem, *,Bool.false_eq_true]|(refine sx ?_ ?_<;>intro hc)|refine sy (by omega) fun x hx hm=>?_|simp(disch:=first|assumption|omega) only[wrap_id,AK,AH,slice_int]))
     all_goals (first|(rw[hs1.out (by assumption)];exact same.out _ (fun id b=>by have q1:=AG b;simp only[go_sem,q1,Bool.false_eq_true]))|(rw[hs2.out (by first|assumption|(show¬ch.many=0;assumption))];exact same.out _ (fun id b=>by have q1:=AG b;simp only[go_sem,q1,Bool.false_eq_true]))|(rw[hs3.out (by assumption) (by first|assumption|(show ch.many=0;assumption)) (by first|assumption|omega|(rw[hz.out];decide))];refine⟨rfl,?_⟩;first|(refine go.out (.osl (1::(b+94)::π) 0 1) _ ?_ ?_ (BU [] ?_ ?_) (.inr fun id2 hid=>?_) fun id2 b1 b2 b3 b4=>?_;all_goals (first|(simp only[AE,List.mem_singleton]at hid;subst hid;exact⟨Ao [1,b+94],_,rfl⟩)|(have q1:=AG b4;have q2:=k1.out id2 b4;simp only[go_sem,q1,q2,b1,b2,Bool.false_eq_true];done)|(simp[hz.out];done)|(simp only[go_sem,e1,e2,a1,a2,Am,mA,gm,Aj,hS.out,hG.out,hA.out,Aq,List.map_append,List.map_nil,Bool.false_eq_true,hz.out];first|done|rfl));done)))
   .have uQ:=hu.out Q (V.row_mem m (List.mem_flatMap.2 ⟨_,List.mem_of_getElem? hr0.out,by simp[Bb,AE]⟩));replace gQ:=(k1.out Q uQ).trans gQ;have a5:=AG uQ;have a6:=Ar uQ;have QA:Id.is Q A=false:=AD fun e=>by rw[e,gA]at gQ;cases gQ
    have AQ:Id.is A Q=false:=AD fun e=>by rw[←e,gA]at gQ;cases gQ
    have Qm:Id.is Q m=false:=AD fun e=>by rw[e,gm]at gQ;cases gQ
    have mQ:Id.is m Q=false:=AD fun e=>by rw[←e,gm]at gQ;cases gQ
    rcases kl.out with⟨rfl,rfl⟩|⟨n,hnb,rfl,hg⟩;all_goals clear kl
    .have him0: ¬(0:Int)<x.args.length:=him;have hL0:=List.eq_nil_of_length_eq_zero hiL.symm;subst hL0;clear hiL;rcases zs with _|⟨z,zs⟩;all_goals
      (repeat' (first|simp only[go_sem, *,Bool.false_eq_true]|(refine sx ?_ ?_<;>intro hc)|refine sy (by omega) fun x hx hm=>?_|simp(disch:=first|assumption|omega) only[wrap_id,AK,AH,slice_int]))
      all_goals (first|(rw[hs1.out (by assumption)];exact same.out _ (fun id b=>by have q1:=AG b;simp only[go_sem,q1,Bool.false_eq_true]))|(rw[hs2.out (by first|assumption|(show¬ch.many=0;assumption))];exact same.out _ (fun id b=>by have q1:=AG b;simp only[go_sem,q1,Bool.false_eq_true]))|(rw[hs3.out (by assumption) (by first|assumption|(show ch.many=0;assumption)) (by first|assumption|omega|(rw[hz.out];decide))];refine⟨rfl,?_⟩;first|(refine go.out (.osl (1::(b+94)::π) 0 (q.queue.length+1)) _ ?_ ?_ (BU [] ?_ ?_) (.inr fun id2 hid=>?_) fun id2 b1 b2 b3 b4=>?_;all_goals (first|(simp only[AE,List.mem_singleton]at hid;subst hid;exact⟨Ao [1,b+94],_,rfl⟩)|(have q1:=AG b4;have q2:=k1.out id2 b4;have q5:=b3 Q (by simp[AE]);simp only[go_sem,q1,q2,b1,b2,q5,Bool.false_eq_true];done)|(simp;done)|(simp only[go_sem,e1,e2,a1,a2,Am,mA,gm,Aj,hS.out,hG.out,hA.out,Aq,List.map_append,List.map_nil,Bool.false_eq_true,a5,a6,QA,AQ,Qm,mQ];first|done|rfl));done)|(refine go.out (.osl Q 0 (q.queue.length+1)) _ ?_ ?_ (BU zs ?_ ?_) (.inl rfl) fun id2 b1 b2 b3 b4=>?_;all_goals (first|(simp only[AE,List.mem_singleton]at hid;subst hid;exact⟨Ao [1,b+94],_,rfl⟩)|(have q1:=AG b4;have q2:=k1.out id2 b4;have q5:=b3 Q (by simp[AE]);simp only[go_sem,q1,q2,b1,b2,q5,Bool.false_eq_true];done)|(simp;done)|(simp only[go_sem,e1,e2,a1,a2,Am,mA,gm,Aj,hS.out,hG.out,hA.out,Aq,List.map_append,List.map_nil,Bool.false_eq_true,a5,a6,QA,AQ,Qm,mQ];first|done|rfl))))|(rw[hs4.out (by assumption) (by first|assumption|(show ch.many=0;assumption)) (by first|assumption|omega)];refine⟨rfl,?_⟩;first|(refine gf.out (.osl (1::(b+94)::π) 0 (q.queue.length+1)) _ ?_ ?_ (BU [] ?_ ?_) (.inr fun id2 hid=>?_) fun id2 b1 b2 b3 b4=>?_;all_goals (first|(simp only[AE,List.mem_singleton]at hid;subst hid;exact⟨Ao [1,b+94],_,rfl⟩)|(have q1:=AG b4;have q2:=k1.out id2 b4;have q5:=b3 Q (by simp[AE]);simp only[go_sem,q1,q2,b1,b2,q5,Bool.false_eq_true];done)|(simp;done)|(simp only[go_sem,e1,e2,a1,a2,Am,mA,gm,Aj,hS.out,hG.out,hA.out,Aq,List.map_append,List.map_nil,Bool.false_eq_true,a5,a6,QA,AQ,Qm,mQ];first|done|rfl));done)|(refine gf.out (.osl Q 0 (q.queue.length+1)) _ ?_ ?_ (BU zs ?_ ?_) (.inl rfl) fun id2 b1 b2 b3 b4=>?_;all_goals (first|(simp only[AE,List.mem_singleton]at hid;subst hid;exact⟨Ao [1,b+94],_,rfl⟩)|(have q1:=AG b4;have q2:=k1.out id2 b4;have q5:=b3 Q (by simp[AE]);simp only[go_sem,q1,q2,b1,b2,q5,Bool.false_eq_true];done)|(simp;done)|(simp only[go_sem,e1,e2,a1,a2,Am,mA,gm,Aj,hS.out,hG.out,hA.out,Aq,List.map_append,List.map_nil,Bool.false_eq_true,a5,a6,QA,AQ,Qm,mQ];first|done|rfl)))))
    .subst hiL;have d1: ¬b+93=n:=by omega
     have d2: ¬n=b+93:=by omega
     have d3: ¬b+94=n:=by omega
     have d4: ¬n=b+94:=by omega
     rcases zs with _|⟨z,zs⟩;all_goals
      (repeat' (first|simp only[go_sem, *,Bool.false_eq_true]|(refine sx ?_ ?_<;>intro hc)|refine sy (by omega) fun x hx hm=>?_|simp(disch:=first|assumption|omega) only[wrap_id,AK,AH,slice_int]))
      all_goals (first|(rw[hs1.out (by assumption)];exact same.out _ (fun id b=>by have q1:=AG b;simp only[go_sem,q1,Bool.false_eq_true]))|(rw[hs2.out (by first|assumption|(show¬ch.many=0;assumption))];exact same.out _ (fun id b=>by have q1:=AG b;simp only[go_sem,q1,Bool.false_eq_true]))|(rw[hs3.out (by assumption) (by first|assumption|(show ch.many=0;assumption)) (by first|assumption|omega|(rw[hz.out];decide))];refine⟨rfl,?_⟩;first|(refine go.out (.osl (1::(b+94)::π) 0 (q.queue.length+1)) _ ?_ ?_ (BU [] ?_ ?_) (.inr fun id2 hid=>?_) fun id2 b1 b2 b3 b4=>?_;all_goals (first|(simp only[AE,List.mem_singleton]at hid;subst hid;exact⟨Ao [1,b+94],_,rfl⟩)|(have q1:=AG b4;have q2:=k1.out id2 b4;have q5:=b3 Q (by simp[AE]);simp only[go_sem,q1,q2,b1,b2,q5,Bool.false_eq_true];done)|(simp;done)|(simp only[go_sem,e1,e2,a1,a2,Am,mA,gm,Aj,hS.out,hG.out,hA.out,Aq,List.map_append,List.map_nil,Bool.false_eq_true,a5,a6,QA,AQ,Qm,mQ];first|done|rfl));done)|(refine go.out (.osl Q 0 (q.queue.length+1)) _ ?_ ?_ (BU zs ?_ ?_) (.inl rfl) fun id2 b1 b2 b3 b4=>?_;all_goals (first|(simp only[AE,List.mem_singleton]at hid;subst hid;exact⟨Ao [1,b+94],_,rfl⟩)|(have q1:=AG b4;have q2:=k1.out id2 b4;have q5:=b3 Q (by simp[AE]);simp only[go_sem,q1,q2,b1,b2,q5,Bool.false_eq_true];done)|(simp;done)|(simp only[go_sem,e1,e2,a1,a2,Am,mA,gm,Aj,hS.out,hG.out,hA.out,Aq,List.map_append,List.map_nil,Bool.false_eq_true,a5,a6,QA,AQ,Qm,mQ];first|done|rfl))))|(rw[hs4.out (by assumption) (by first|assumption|(show ch.many=0;assumption)) (by first|assumption|omega)];refine⟨rfl,?_⟩;first|(refine gf.out (.osl (1::(b+94)::π) 0 (q.queue.length+1)) _ ?_ ?_ (BU [] ?_ ?_) (.inr fun id2 hid=>?_) fun id2 b1 b2 b3 b4=>?_;all_goals (first|(simp only[AE,List.mem_singleton]at hid;subst hid;exact⟨Ao [1,b+94],_,rfl⟩)|(have q1:=AG b4;have q2:=k1.out id2 b4;have q5:=b3 Q (by simp[AE]);simp only[go_sem,q1,q2,b1,b2,q5,Bool.false_eq_true];done)|(simp;done)|(simp only[go_sem,e1,e2,a1,a2,Am,mA,gm,Aj,hS.out,hG.out,hA.out,Aq,List.map_append,List.map_nil,Bool.false_eq_true,a5,a6,QA,AQ,Qm,mQ];first|done|rfl));done)|(refine gf.out (.osl Q 0 (q.queue.length+1)) _ ?_ ?_ (BU zs ?_ ?_) (.inl rfl) fun id2 b1 b2 b3 b4=>?_;all_goals (first|(simp only[AE,List.mem_singleton]at hid;subst hid;exact⟨Ao [1,b+94],_,rfl⟩)|(have q1:=AG b4;have q2:=k1.out id2 b4;have q5:=b3 Q (by simp[AE]);simp only[go_sem,q1,q2,b1,b2,q5,Bool.false_eq_true];done)|(simp;done)|(simp only[go_sem,e1,e2,a1,a2,Am,mA,gm,Aj,hS.out,hG.out,hA.out,Aq,List.map_append,List.map_nil,Bool.false_eq_true,a5,a6,QA,AQ,Qm,mQ];first|done|rfl)))))
  .have hd:AA (EZ p x j st=some st):=⟨by simp only[EZ,hto2,kk2,kk3,if_false]⟩;rcases kl.out with⟨rfl,rfl⟩|⟨n,hnb,rfl,hg⟩;all_goals clear kl
   .have him0: ¬(0:Int)<x.args.length:=him;clear hiL;refine aw ?_;rw[hd.out];refine Oj hM.out hu.out fun id b=>?_;have q1:=AG b;have q2:=k1.out id b;simp only[go_sem,q1,q2,Bool.false_eq_true]
   .subst hiL;refine aw ?_;rw[hd.out];refine Oj hM.out hu.out fun id b=>?_;have q1:=AG b;have q2:=k1.out id b;simp only[go_sem,q1,q2,Bool.false_eq_true]
end Go.Proofs
namespace Go.Proofs
open Go Go.Abs
set_option maxRecDepth 100000
set_option maxHeartbeats 4000000
def Ej(l:List Int)(at_:Int)(env:List Cc):List Gl:=l.map fun n=>⟨n,at_,env⟩
theorem vK{p:AJ}{sz:List Int}{k:Nat}(hF:BO p sz)(IH0:H7 p sz k){h:AB}{π:List Nat}{m:Abs.Id}{V:MV}{st:CU}(hM:EE p sz h m V st)(hu:CF π V m)(hI:OD p sz k st)(j:Gl){x:Cd}(hj:La p j x)(hp:p.nodes.length≤60)(hkl:x.kids.length≤2)(hjs: ∀j'∈Ej x.kids j.at_ j.env,CZ p sz st.sol j'):
 ∃o h',KL Tryz.prog cfg (.fn 111) [.ptr m 0,.agg [.d (.int .i64 (j.node)),.d (.int .i64 (j.at_)),.d (.lst (j.env.map AN))]] h π true none=.ok (o,h')∧EU p sz π m V h (Bo (Fg p k) (Ej x.kids j.at_ j.env) st) o h':=by
 have hm:=hM.box;have um:=hu m (V.m_mem m);simp only[Aj]at hm;have e1:=AG um;have e2:=Ar um;have hx:=hj.node;have hn:=hj.n0;have hel:=hj.len;have hxl:=Nx hj;replace hM:=AA.mk hM;replace hu:=AA.mk hu;replace hjs:=AA.mk hjs;replace hI:=AA.mk hI
 (refine Ak rfl Tryz.func111 rfl rfl rfl ?_;show Wp _ _ _ _ (Tryz.f111.body.get rfl) _ _;simp only[Tryz.f111,Option.get_some])
 refine aw ?_;refine AX x.kids _ (S:=fun m' i (a:AB×Nat)=>⟨[(0,.ptr m 0),(3,.ptr (0::0::π) 0),(15,.d (.lst (x.kids.map AO))),(16,.d (.int .i64 (m'))),(17,.d (.int .i64 (i)))],a.1,a.2+13,[]⟩)
  (Inv:=fun i rest a=>AA (∃V' st',B9 p sz π m V h (a.2+13) V' st' a.1∧OD p sz k st'∧(∀j'∈Ej rest j.at_ j.env,CZ p sz st'.sol j')∧Bo (Fg p k) (Ej x.kids j.at_ j.env) st=Bo (Fg p k) (Ej rest j.at_ j.env) st')∧a.1.get (0::0::π)=some (.box [.d (.int .i64 (j.node)),.d (.int .i64 (j.at_)),.d (.lst (j.env.map AN))])) (b0:=(_,_)) rfl ⟨⟨V,st,?_,hI.out,hjs.out,rfl⟩,?_⟩ ?_ ?_
 .refine(O0 hM.out hu.out fun id b=>?_).up (Nat.zero_le _);have q1:=AG b;simp only[go_sem,q1,Bool.false_eq_true]
 .simp only[go_sem]
 .rintro i y ⟨g,b⟩ hy hi him ⟨hl,k2⟩ IH;dsimp only at*;obtain⟨V',st',hR,hI',hj',he⟩:=hl.out;clear hl;replace he:=AA.mk he;replace hI':=AA.mk hI';replace hj':=AA.mk hj';replace hR:=AA.mk hR;refine aw ?_;have hjy:=hj'.out ⟨y,j.at_,j.env⟩ (by simp[Ej]);refine Ab (IH0 g ((b+23)::π) m V' st' ⟨y,j.at_,j.env⟩ hR.out.rep (hR.out.apart hu.out (by omega)) hI'.out.sok hjy hI'.out.w0 hI'.out.w1 hI'.out.w2 hI'.out.ev) (fun o1 g1 p1=>?_);have hb:=(hR.out.box hu.out (k:=0) (n:=b+23) (by omega) p1).trans k2;have hgo:AA (Bo (Fg p k) (Ej (y::x.kids.drop (i+1)) j.at_ j.env) st'=(Fg p k ⟨y,j.at_,j.env⟩ st').bind (Bo (Fg p k) (Ej (x.kids.drop (i+1)) j.at_ j.env))):=⟨rfl⟩;cases hd:Fg p k ⟨y,j.at_,j.env⟩ st' with
  |none=>
   rw[hd]at p1 hgo;have fin:=hR.out.pan hu.out (by omega) p1;obtain rfl:=p1.1;refine aw ?_;rw[he.out,hgo.out];exact fin
  |some st2=>
   rw[hd]at p1 hgo;have hdp:=Kv hF k _ _ _ hI'.out.sok hjy hd;obtain⟨V2,hR2,_⟩:=hR.out.call hu.out (by omega) p1;obtain rfl:=p1.1;replace p1:=AA.mk p1;replace hd:=AA.mk hd;replace hR2:=AA.mk hR2;refine aw ?_;refine IH.out (_,_) ⟨⟨V2,st2,hR2.out.up (by omega),hI'.out.post hdp,fun j' hj2=>P1 (hj'.out j' ?_) hdp.ext,?_⟩,hb⟩
   .simp only[Ej,List.map_cons,List.mem_cons]at*;exact .inr hj2
   .rw[he.out,hgo.out];rfl
 .rintro i ⟨g,b⟩ hi him ⟨hl,k2⟩;dsimp only at*;obtain⟨V',st',hR,hI',hj',he⟩:=hl.out;clear hl;replace he:=AA.mk he;refine aw ?_;rw[he.out];exact hR.fin
theorem RB(f:Gl→CU→Option CU)(j:Gl)(st:CU):Bo f [j] st=f j st:=by
 simp only[Bo];cases f j st<;>rfl
theorem gh{p:AJ}{sz:List Int}{k:Nat}(hF:BO p sz)(IH0:H7 p sz k){h:AB}{π:List Nat}{m:Abs.Id}{V:MV}{st:CU}(hM:EE p sz h m V st)(hu:CF π V m)(hI:OD p sz k st)(j:Gl){x:Cd}(hj:La p j x)(hp:p.nodes.length≤60){e0:B4}(ha:x.args=[e0])(hf:e0.formed j.env.length=true){ka kb:Int}(hk:x.kids=[ka,kb])
 (hja:CZ p sz st.sol ⟨ka,j.at_,j.env⟩) (hjb:CZ p sz st.sol ⟨kb,j.at_,j.env⟩):
 ∃o h',KL Tryz.prog cfg (.fn 113) [.ptr m 0,.agg [.d (.int .i64 (j.node)),.d (.int .i64 (j.at_)),.d (.lst (j.env.map AN))]] h π true none=.ok (o,h')∧EU p sz π m V h (Bo (Fg p k) (BR x (Tc x j.env) j.at_ j.env) st) o h':=by
 have hm:=hM.box;have um:=hu m (V.m_mem m);simp only[Aj]at hm;have e1:=AG um;have e2:=Ar um;have hx:=hj.node;have hn:=hj.n0;have hel:=hj.len;have hxl:=Nx hj;obtain⟨xo,xn,xa,xk⟩:=x;dsimp only at ha hk;subst ha;subst hk;have hvk: ∃v,v=e0.value j.env:=⟨_,rfl⟩;obtain⟨v,hv⟩:=hvk;have hval:=uU j.env e0 hf;rw[←hv]at hval;have hif:AA (Tc ⟨xo,xn,[e0],[ka,kb]⟩ j.env=if v.kind=1∧v.n≠0 then 0 else 1):=⟨by simp only[Tc,List.getElem?_cons_zero,hv]⟩;replace hv:=AA.mk hv;replace hM:=AA.mk hM;replace hu:=AA.mk hu;replace hja:=AA.mk hja;replace hjb:=AA.mk hjb;replace hI:=AA.mk hI;have go:AA (∀(c:Int),CZ p sz st.sol ⟨c,j.at_,j.env⟩→ ∀H n,(∀id,Id.under π id=false→H.get id=h.get id)→ ∃o g1,KL Tryz.prog cfg (.fn 66) [.ptr m 0,.d (.int .i64 (c)),.d (.int .i64 (j.at_)),.d (.lst (j.env.map AN))] H (n::π) true none=.ok (o,g1)∧EU p sz π m V h (Fg p k ⟨c,j.at_,j.env⟩ st) o (gc (n::π) g1)):=⟨fun c hc H n hH=>by
  obtain⟨o,g1,h1,h2⟩:=IH0 H (n::π) m V st ⟨c,j.at_,j.env⟩ (EA hM.out hu.out hH) (hu.out.ext n) hI.out.sok hc hI.out.w0 hI.out.w1 hI.out.w2 hI.out.ev;exact⟨o,g1,h1,Oi hu.out hH h2⟩⟩
 by_cases hc:v.kind=1∧v.n≠0
 .rw[hif.out,if_pos hc];clear hif;have hgo:AA (Bo (Fg p k) (BR ⟨xo,xn,[e0],[ka,kb]⟩ 0 j.at_ j.env) st=Fg p k ⟨ka,j.at_,j.env⟩ st):=⟨RB _ _ _⟩
  (refine Ak rfl Tryz.func113 rfl rfl rfl ?_;show Wp _ _ _ _ (Tryz.f113.body.get rfl) _ _;simp only[Tryz.f113,Option.get_some])
  refine aw ?_;refine Ep (go.out ka hja.out _ _ fun id b=>?_) (fun o1 g1 p1=>?_)
  .have q1:=AG b;simp only[go_sem,q1,Bool.false_eq_true]
  .rw[←hgo.out]at p1;cases hr:Bo (Fg p k) (BR ⟨xo,xn,[e0],[ka,kb]⟩ 0 j.at_ j.env) st;all_goals
    rw[hr]at p1;have fin:=AA.mk p1;obtain rfl:=p1.1;replace p1:=AA.mk p1;refine aw ?_;exact fin.out
 .rw[hif.out,if_neg hc];clear hif;have hgo:AA (Bo (Fg p k) (BR ⟨xo,xn,[e0],[ka,kb]⟩ 1 j.at_ j.env) st=Fg p k ⟨kb,j.at_,j.env⟩ st):=⟨RB _ _ _⟩;have hz:(if v.kind=1 then v.n else 0)=0:=by
   split
   .rename_i hk;by_cases h0:v.n=0
    .exact h0
    .exact absurd ⟨hk,h0⟩ hc
   .rfl
  clear hc
  (refine Ak rfl Tryz.func113 rfl rfl rfl ?_;show Wp _ _ _ _ (Tryz.f113.body.get rfl) _ _;simp only[Tryz.f113,Option.get_some])
  refine aw ?_;refine Ep (go.out kb hjb.out _ _ fun id b=>?_) (fun o1 g1 p1=>?_)
  .have q1:=AG b;simp only[go_sem,q1,Bool.false_eq_true]
  .rw[←hgo.out]at p1;cases hr:Bo (Fg p k) (BR ⟨xo,xn,[e0],[ka,kb]⟩ 1 j.at_ j.env) st;all_goals
    rw[hr]at p1;have fin:=AA.mk p1;obtain rfl:=p1.1;replace p1:=AA.mk p1;refine aw ?_;exact fin.out
end Go.Proofs
namespace Go.Proofs
open Go Go.Abs
set_option maxRecDepth 100000
set_option maxHeartbeats 4000000
theorem Vb{h:AB}{π:List Nat}{m:Abs.Id}{x0 x1 x2 x3 x4 x5 x7 x8 x9 x10 x11 x12:AV}{ds:List CH}{g:Ah}{d:CH}(hm:h.get m=some (.box [x0,x1,x2,x3,x4,x5,.d (.lst (ds.map B6)),x7,x8,x9,x10,x11,x12]))(um:Id.under π m=false)(h0:0≤g.def_)(hd:ds[g.def_.toNat]? =some d)(c1:d.chans.length≤30)(c2:d.spots.length≤30)(he:d.own≤g.env.length)(hl:g.env.length≤10000)(c:Bool)(n:Int)(hn:0≤n)(hn2:n<if c then(d.chans.length:Int)else d.spots.length):
 ∃o h',KL Tryz.prog cfg (.fn 95) [.ptr m 0,.agg [.d (.int .i64 (g.def_)),.d (.int .i64 (g.at_)),.d (.lst (g.env.map AN))],.d (.bool (c)),.d (.int .i64 (n))] h π true (some π)=.ok (o,h')∧o=.ret (.d (.int .i64 (g.own d c n))):=by
 have hdl:=AI hd;have e1:=AG um;have e2:=Ar um;unfold CH.own at he;cases c with
 |true=>
  simp only[if_true]at hn2;have hlt:g.env.length-d.spots.length-d.chans.length+n.toNat<g.env.length:=by omega
  obtain⟨v,hv⟩:=get_some hlt;have hpl:AA (g.own d true n=v.n):=⟨by
   rw[Ah.own];simp only[if_true];rw[hv];rfl⟩
  have q1:((g.env.length:Int)-(d.spots.length:Int)-(d.chans.length:Int)+n).toNat=g.env.length-d.spots.length-d.chans.length+n.toNat:=by omega
  rw[←q1]at hv;replace q1:=AA.mk q1;have q2:0≤(g.env.length:Int)-(d.spots.length:Int)-(d.chans.length:Int)+n:=by omega
  (refine Ak rfl Tryz.func95 rfl rfl rfl ?_;show Wp _ _ _ _ (Tryz.f95.body.get rfl) _ _;simp only[Tryz.f95,Option.get_some])
  refine aw ?_;rw[hpl.out]
 |false=>
  simp only[Bool.false_eq_true,if_false]at hn2;have hlt:g.env.length-d.spots.length-0+n.toNat<g.env.length:=by omega
  obtain⟨v,hv⟩:=get_some hlt;have hpl:AA (g.own d false n=v.n):=⟨by
   rw[Ah.own];simp only[Bool.false_eq_true,if_false];rw[hv];rfl⟩
  have q1:((g.env.length:Int)-(d.spots.length:Int)+n).toNat=g.env.length-d.spots.length-0+n.toNat:=by omega
  rw[←q1]at hv;replace q1:=AA.mk q1;have q2:0≤(g.env.length:Int)-(d.spots.length:Int)+n:=by omega
  (refine Ak rfl Tryz.func95 rfl rfl rfl ?_;show Wp _ _ _ _ (Tryz.f95.body.get rfl) _ _;simp only[Tryz.f95,Option.get_some])
  refine aw ?_;rw[hpl.out]
theorem L6{h:AB}{π:List Nat}{m:Abs.Id}{x0 x1 x2 x3 x4 x5 x7 x8 x9 x10 x11 x12:AV}{ds:List CH}{g:Ah}{d:CH}(hm:h.get m=some (.box [x0,x1,x2,x3,x4,x5,.d (.lst (ds.map B6)),x7,x8,x9,x10,x11,x12]))(um:Id.under π m=false)(h0:0≤g.def_)(hd:ds[g.def_.toNat]? =some d)(c1:d.chans.length≤30)(c2:d.spots.length≤30)(he:d.own≤g.env.length)(hl:g.env.length≤10000)(n:Int)(hn:0≤n)(hn2:n≤d.spots.length):
 ∃o h',KL Tryz.prog cfg (.fn 94) [.ptr m 0,.agg [.d (.int .i64 (g.def_)),.d (.int .i64 (g.at_)),.d (.lst (g.env.map AN))],.d (.int .i64 (n))] h π true (some π)=.ok (o,h')∧o=.ret (.d (.int .i64 (g.place d n))):=by
 have e1:=AG um;have e2:=Ar um;have e3:=AF um;by_cases hn0:n=0
 ·(refine Ak rfl Tryz.func94 rfl rfl rfl ?_;show Wp _ _ _ _ (Tryz.f94.body.get rfl) _ _;simp only[Tryz.f94,Option.get_some])
  (repeat' (first|simp only[go_sem, *,Ah.place]|(refine sx ?_ ?_<;>intro hc)|refine sy (by omega) fun x hx hm=>?_|simp(disch:=first|assumption|omega) only[wrap_id,AK,AH,slice_int]))
 .have w:IntKind.i64.wrap (n-1)=n-1:=wrap_id (by omega) (by omega);have hp:g.place d n=g.own d false (n-1):=by rw[Ah.place,if_neg hn0]
  rw[hp]
  (refine Ak rfl Tryz.func94 rfl rfl rfl ?_;show Wp _ _ _ _ (Tryz.f94.body.get rfl) _ _;simp only[Tryz.f94,Option.get_some])
  refine aw ?_;refine C0 (Vb (d:=d) (Eq.trans (b:=h.get m) ?_ hm) (e3 _) h0 hd c1 c2 he hl false (n-1) (by omega) (by simp only[Bool.false_eq_true,if_false];omega)) (fun o1 g1 p1=>?_)
  .simp only[go_sem,e1,Bool.false_eq_true]
  subst p1;exact au
theorem ZJ{h:AB}{π:List Nat}{m:Abs.Id}{x1 x2 x3 x4 x5 x6 x7 x8 x9 x10 x11 x12:AV}{sp:List (List AW)}(hm:h.get m=some (.box [.d (.lst sp),x1,x2,x3,x4,x5,x6,x7,x8,x9,x10,x11,x12]))(hl:sp.length≤1000000)(n:Int):
 ∃o h',KL Tryz.prog cfg (.fn 146) [.ptr m 0,.d (.int .i64 (n))] h π true (some π)=.ok (o,h')∧o=(HO (B3 2) (decide (0≤n)&&decide (n<sp.length))).1:=by
 (refine Ak rfl Tryz.func146 rfl rfl rfl ?_;show Wp _ _ _ _ (Tryz.f146.body.get rfl) _ _;simp only[Tryz.f146,Option.get_some])
 (repeat' (first|simp only[go_sem, *]|(refine sx ?_ ?_<;>intro hc)|refine sy (by omega) fun x hx hm=>?_|simp(disch:=first|assumption|omega) only[wrap_id,AK,AH,slice_int]))
 all_goals simp[HO, *]
theorem qI{h:AB}{π:List Nat}{m:Abs.Id}{p:AJ}{x1 x3 x5 x6 x7 x8 x9 x10 x11 x12:AV}{sp ch:List (List AW)}(hm:h.get m=some (.box [.d (.lst sp),x1,.d (.lst ch),x3,.d (.lst (p.free.map Bt)),x5,x6,x7,x8,x9,x10,x11,x12]))(um:Id.under π m=false)(h1:sp.length≤1000000)(h2:ch.length≤1000000)(h3:p.free.length≤1000000)(v:Cc):
 ∃o h',KL Tryz.prog cfg (.fn 180) [.ptr m 0,.agg [.d (.int .i64 (v.kind)),.d (.int .i64 (v.n))]] h π true (some π)=.ok (o,h')∧o=(HO (B3 2) (v.inB p ch.length sp.length)).1:=by
 have e1:=AG um;have e2:=Ar um;have w1:IntKind.i64.wrap ((p.free.length:Int)-1)=(p.free.length:Int)-1:=wrap_id (by omega) (by omega);have w2:IntKind.i64.wrap ((ch.length:Int)-1)=(ch.length:Int)-1:=wrap_id (by omega) (by omega);have w3:IntKind.i64.wrap ((sp.length:Int)-1)=(sp.length:Int)-1:=wrap_id (by omega) (by omega)
 (refine Ak rfl Tryz.func180 rfl rfl rfl ?_;show Wp _ _ _ _ (Tryz.f180.body.get rfl) _ _;simp only[Tryz.f180,Option.get_some])
 (repeat' (first|simp only[go_sem, *]|(refine sx ?_ ?_<;>intro hc)|refine sy (by omega) fun x hx hm=>?_|simp(disch:=first|assumption|omega) only[wrap_id,AK,AH,slice_int]))
 all_goals clear hm e1 e2 w1 w2 w3
 all_goals first
 |(have hz:v.inB p ch.length sp.length=true:=by(unfold Cc.inB;grind)
   rw[hz];rfl)
 |(have hz:v.inB p ch.length sp.length=false:=by(unfold Cc.inB;grind)
   rw[hz];rfl)
theorem U7{h:AB}{π:List Nat}{m:Abs.Id}{p:AJ}{x1 x3 x5 x6 x7 x8 x9 x10 x11 x12:AV}{sp ch:List (List AW)}(hm:h.get m=some (.box [.d (.lst sp),x1,.d (.lst ch),x3,.d (.lst (p.free.map Bt)),x5,x6,x7,x8,x9,x10,x11,x12]))(um:Id.under π m=false)(h1:sp.length≤1000000)(h2:ch.length≤1000000)(h3:p.free.length≤1000000)(l:List Cc)(n:Int)(hn:n≤1000000):
 ∃o h',KL Tryz.prog cfg (.fn 147) [.ptr m 0,.d (.lst (l.map AN)),.d (.int .i64 (n))] h π true (some π)=.ok (o,h')∧o=(HO (B3 2) (decide ((l.length:Int)=n)&&l.all (Cc.inB p ch.length sp.length))).1:=by
 have e1:=AG um;have e2:=Ar um;have e3:=AF um;by_cases hl:(l.length:Int)=n
 .have hl2:l.length≤1000000:=by omega
  rw[decide_eq_true hl,Bool.true_and]
  (refine Ak rfl Tryz.func147 rfl rfl rfl ?_;show Wp _ _ _ _ (Tryz.f147.body.get rfl) _ _;simp only[Tryz.f147,Option.get_some])
  refine aw ?_;refine AX l _ (S:=fun m' i (a:AB×Nat)=>⟨[(0,.ptr m 0),(13,.d (.lst (l.map AN))),(14,.d (.int .i64 (m'))),(15,.d (.int .i64 (i)))],a.1,a.2+7,[]⟩)
   (Inv:=fun i rest a=>a.1.get m=h.get m∧AA (l.all (Cc.inB p ch.length sp.length)=rest.all (Cc.inB p ch.length sp.length))) (b0:=(h,_)) ?_ ⟨rfl,⟨rfl⟩⟩ ?_ ?_
  .omega
  .rintro i y ⟨g,c⟩ hy hi him ⟨hg,hr⟩ IH;dsimp only at*;refine aw ?_;refine C0 (qI (p:=p) (sp:=sp) (ch:=ch) (Eq.trans (b:=h.get m) ?_ hm) (e3 _) h1 h2 h3 y) (fun o1 g1 p1=>?_)
   .simp only[go_sem,e1,hg,Bool.false_eq_true]
   cases hv:y.inB p ch.length sp.length with
   |true=>
    rw[hv]at p1;obtain rfl:o1=.ret (.tup []):=p1;refine aw ?_;refine IH.out (_,_) ⟨?_,⟨?_⟩⟩
    .simp only[go_sem,e1,hg,Bool.false_eq_true]
    .rw[hr.out,List.all_cons,hv,Bool.true_and]
   |false=>
    rw[hv]at p1;obtain rfl:o1=.pan (B3 2):=p1;refine aw ?_;rw[hr.out,List.all_cons,hv,Bool.false_and];rfl
  .rintro i ⟨g,c⟩ hi him ⟨hg,hr⟩;dsimp only at*;refine aw ?_;rw[hr.out];rfl
 .rw[decide_eq_false hl,Bool.false_and]
  (refine Ak rfl Tryz.func147 rfl rfl rfl ?_;show Wp _ _ _ _ (Tryz.f147.body.get rfl) _ _;simp only[Tryz.f147,Option.get_some])
  refine aw ?_;rfl
end Go.Proofs
namespace Go.Proofs
open Go Go.Abs
set_option maxRecDepth 100000
set_option maxHeartbeats 4000000
def NB(π:List Nat)(g:AB)(b:Nat)(v:AV)(L:List Cc):Prop:=(L=[]∧v=.nils)∨ ∃id,v=.osl id 0 L.length∧g.get id=some (.darr 2 (L.map AN))∧ ∃n,n<b∧Id.under (n::π) id=true∧ ∃l,id=1::l
def Ez(c n:Nat):List Cc:=(List.range' c n).map fun(i:Nat)=>⟨3,(i:Int)⟩
def Jc(c n:Nat):List Cc:=(List.range' c n).map fun(i:Nat)=>⟨4,(i:Int)⟩
theorem Wq(c n:Nat):Ez c (n+1)=Ez c n++[⟨3,((c+n:Nat):Int)⟩]:=by simp[Ez,List.range'_1_concat]
theorem ZI(c n:Nat):Jc c (n+1)=Jc c n++[⟨4,((c+n:Nat):Int)⟩]:=by simp[Jc,List.range'_1_concat]
theorem P3{π:List Nat}{g:AB}{b b':Nat}{v:AV}{L:List Cc}(h:NB π g b v L)(hb:b≤b'):NB π g b' v L:=by
 rcases h with h|⟨id,h1,h2,n,h3,h4⟩
 .exact .inl h
 .exact .inr ⟨id,h1,h2,n,by omega,h4⟩
theorem FU{π:List Nat}{b n:Nat}{id:Abs.Id}(hn:n<b)(hu:Id.under (n::π) id=true)(hl: ∃l,id=1::l):(∀a k,b≤k→Id.is (a::k::π) id=false)∧(∀a k,b≤k→Id.is id (a::k::π)=false)∧(∀l,Id.is (0::l) id=false)∧(∀l,Id.is id (0::l)=false):=by
 have key: ∀a k,b≤k→a::k::π≠id:=fun a k hk e=>by
  subst e;have:=CB hu (n':=k) (under_iff.2 ⟨[a],rfl⟩);omega
 obtain⟨l0,rfl⟩:=hl;exact⟨fun a k hk=>AD (key a k hk),fun a k hk=>AD fun e=>key a k hk e.symm,fun l=>AD (by simp),fun l=>AD (by simp)⟩
theorem Lx{π:List Nat}{g:AB}{b n k:Nat}{L:List Cc}(hn:n<b)(hk:k=L.length)(hg:g.get (1::n::π)=some (.darr 2 (L.map AN))):NB π g b (.osl (1::n::π) 0 k) L:=.inr ⟨_,by rw[hk],hg,n,hn,under_iff.2 ⟨[1],rfl⟩,_,rfl⟩
theorem Mm{π:List Nat}{g:AB}{b:Nat}{v:AV}{L:List Cc}(h:NB π g b v L)(b':Nat): ∀i∈AE v,HB b b' π i=false:=by
 rcases h with⟨_,rfl⟩|⟨id,rfl,_,n,h3,h4,_⟩
 .intro i hi;simp[AE]at hi
 .intro i hi;simp only[AE,List.mem_singleton]at hi;subst hi;exact Nu h3 h4
theorem rV{π:List Nat}{g:AB}{b:Nat}{v:AV}{L:List Cc}(h:NB π g b v L){V:MV}{m:Abs.Id}(hu:CF π V m): ∀i∈AE v,i∉V.ids m:=by
 rcases h with⟨_,rfl⟩|⟨id,rfl,_,n,h3,h4,_⟩
 .intro i hi;simp[AE]at hi
 .intro i hi hv;simp only[AE,List.mem_singleton]at hi;subst hi;have:=hu _ hv;rw[BH h4]at this;cases this
def Za(π:List Nat)(g:AB)(b:Nat)(v:AV)(L:List Cc):Prop:=(L=[]∧v=.nils)∨ ∃id,v=.osl id 0 L.length∧g.get id=some (.fro 2 (L.map AN))∧ ∃n,n<b∧Id.under (n::π) id=true∧ ∃l,id=1::l
theorem TT{π:List Nat}{g g':AB}{b:Nat}{v:AV}{L:List Cc}(h:Za π g b v L)(hk: ∀i∈AE v,g'.get i=g.get i):Za π g' b v L:=by
 rcases h with h|⟨id,rfl,h2,h3⟩
 .exact .inl h
 .exact .inr ⟨id,rfl,by rw[hk id (by simp[AE])];exact h2,h3⟩
theorem qG{π:List Nat}{g:AB}{b:Nat}{v:AV}{L:List Cc}(h:Za π g b v L)(a k:Nat)(hk:b≤k): ∀i∈AE v,Id.is (a::k::π) i=false:=by
 rcases h with⟨_,rfl⟩|⟨id,rfl,_,n,h3,h4,_⟩
 .intro i hi;simp[AE]at hi
 .intro i hi;simp only[AE,List.mem_singleton]at hi;subst hi;refine AD fun e=>?_;subst e;have:=CB h4 (n':=k) (under_iff.2 ⟨[a],rfl⟩);omega
theorem aD{π:List Nat}{g:AB}{b n:Nat}{v:AV}{L:List Cc}(h:Za π g b v L)(hn:b≤n): ∀i∈AE v,Id.under (n::π) i=false:=by
 rcases h with⟨_,rfl⟩|⟨id,rfl,_,k,h3,h4,_⟩
 .intro i hi;simp[AE]at hi
 .intro i hi;simp only[AE,List.mem_singleton]at hi;subst hi;cases hx:Id.under (n::π) i with
  |false=>rfl
  |true=>
   have:=CB h4 hx;omega
theorem UD{p:AJ}{sz:List Int}{st:CU}{m:Abs.Id}{j:Gl}{x:Cd}{d:CH}{G:Ah}(hF:BO p sz)(hd:E6 p sz st.sol j x d)(hG:G=Ad st.sol d x.n j)(H:AB)(ρ:List Nat)(Vx:MV)(w:Int)(hb:H.get m=some (.box (Aj p sz Vx w)))(hu2:Id.under ρ m=false)(n:Int)(hn1:0≤n)(hn2:n≤d.spots.length):
 ∃o h',KL Tryz.prog cfg (.fn 94) [.ptr m 0,.agg [.d (.int .i64 (x.n)),.d (.int .i64 (j.at_)),.d (.lst (G.env.map AN))],.d (.int .i64 (n))] H ρ true (some ρ)=.ok (o,h')∧o=.ret (.d (.int .i64 (G.place d n))):=by
 have hGo:d.own≤G.env.length∧G.env.length≤10000:=by
  rw[hG,hd.env];have:=hd.ok.chans;have:=hd.ok.spots;obtain⟨_,_,_,_,_,_,hjl⟩:=K3 hF hd.job;unfold CH.own;omega
 have hGd:G.def_=x.n:=by rw[hG];rfl
 have hGa:G.at_=j.at_:=by rw[hG];rfl
 have:=L6 (ds:=p.defs) (g:=G) (d:=d) hb hu2 (by rw[hGd];exact hd.n0) (by rw[hGd];exact hd.def_) hd.ok.chans hd.ok.spots hGo.1 hGo.2 n hn1 hn2
 rwa [hGd,hGa]at this
theorem gj{p:AJ}{sz:List Int}{k:Nat}(hF:BO p sz)(IH0:H7 p sz k){h:AB}{π:List Nat}{m:Abs.Id}{V:MV}{st:CU}(hu:CF π V m)(hI:OD p sz k st){j:Gl}{x:Cd}{d:CH}(hd:E6 p sz st.sol j x d){G:Ah}(hG:G=Ad st.sol d x.n j)
 {e:BS} {g:AB} {b:Nat} {ev:AV} {V2:MV} (en0:e.get 0=.ptr m 0) (en3:e.get 3=.ptr (0::0::π) 0) (n4:e.get 4=.ptr (0::10::π) 0) (n5:e.get 5=.ptr (0::21::π) 0) (n6:e.get 6=.ptr (0::31::π) 0) (hb:60≤b) (hR:B9 p sz π m V h b V2 {st with sol:=B5 st.sol d G} g) (hev: ∀i∈AE ev,i∉V2.ids m)
 (k2:g.get (0::0::π)=some (.box [.d (.int .i64 (j.node)),.d (.int .i64 (j.at_)),.d (.lst (j.env.map AN))])) (k3:g.get (0::10::π)=some (.box [.d (.int .i64 (x.op)),.d (.int .i64 (x.n)),.d (.lst (x.args.map Bs)),.d (.lst (x.kids.map AO))])) (k4:g.get (0::21::π)=some (.box [.d (.lst (d.chans.map BK)),.d (.lst (d.spots.map BB)),.d (.lst (d.rules.map BJ))])) (k5:g.get (0::31::π)=some (.box [.d (.int .i64 (x.n)),.d (.int .i64 (j.at_)),ev])) (hfe:Za π g b ev G.env):
 Wp cfg (KL Tryz.prog cfg) ⟨112,π,true,none,false,204⟩ 0 (zl 9 (Tryz.f112.body.get rfl)) ⟨e,g,b,[]⟩ (Qp cfg none [] π true (EU p sz π m V h (Mc (Fg p k) (HZ p x j st)))):=by
 have um:=hu m (V.m_mem m);have e1:=AG um;have e2:=Ar um;have hx:=hd.node;have hdl:=hd.def_;have d1:=hd.ok.chans;have d2:=hd.ok.spots;obtain⟨n3,hn3⟩: ∃n,n=st.sol.chans.length:=⟨_,rfl⟩;obtain⟨n0,hn0⟩: ∃n,n=st.sol.spots.length:=⟨_,rfl⟩;obtain⟨ng,hng⟩: ∃n,n=st.sol.groups.length:=⟨_,rfl⟩;have c1:(B5 st.sol d G).chans.length=n3+d.chans.length:=by simp[B5,GH,hn3]
 have c2:(B5 st.sol d G).spots.length=n0+d.spots.length:=by simp[B5,En,hn0]
 have c3:(B5 st.sol d G).groups.length=ng+1:=by simp[B5,hng]
 have hdo2:HZ p x j st=if n3+d.chans.length≤60∧n0+d.spots.length≤24∧ng+1≤40 then some ({st with sol:=B5 st.sol d G},DE d G 0 d.spots++BR x 0 j.at_ G.env)else none:=by
  simp only[HZ,hdl,←hG,c1,c2,c3]
 have hmS:=hI.sok.small;simp only[A8.small,Bool.and_eq_true,decide_eq_true_eq]at hmS;obtain⟨s1,s2,s3,s4⟩:=hmS;have gm:=hR.rep.box;simp only[Aj]at gm;have hl3:=P2 hR.rep.arr;rw[hR.rep.chans.len,c1]at hl3;have hl0:=Gy (hR.rep.sl 0 (by omega));simp only[Aw,List.length_map,c2]at hl0;have hl1:=Gy (hR.rep.sl 1 (by omega));simp only[Aw,List.length_map,c3]at hl1;have hpan:AA (¬(n3+d.chans.length≤60∧n0+d.spots.length≤24∧ng+1≤40)→EU p sz π m V h (Mc (Fg p k) (HZ p x j st)) (.pan (B3 3)) g):=⟨fun hn=>by
  rw[hdo2,if_neg hn];exact⟨rfl,hR.frame⟩⟩
 clear c1 c2 c3;have hplace:=AA.mk (UD (m:=m) hF hd hG);replace hdo2:=AA.mk hdo2;replace hG:=AA.mk hG;replace hu:=AA.mk hu;replace hd:=AA.mk hd;replace hI:=AA.mk hI;replace hR:=AA.mk hR;replace hev:=AA.mk hev;replace hn3:=AA.mk hn3;replace hn0:=AA.mk hn0;replace hng:=AA.mk hng;simp only[Tryz.f112,Option.get_some,zl]
 (repeat' (first|simp only[go_sem, *,↓hl3,↓hl0,↓hl1,Bool.false_eq_true]|(refine sx ?_ ?_<;>intro hc)|refine sy (by omega) fun x hx hm=>?_|simp(disch:=first|assumption|omega) only[wrap_id,AK,AH,slice_int]))
 .have hszs:n3+d.chans.length≤60∧n0+d.spots.length≤24∧ng+1≤40:=by omega
  have hjp:=XA (st':={st with sol:=B5 st.sol d G}) hF hI.out.sok hd.out.job hx hd.out.op (by rw[hdo2.out,if_pos hszs])
  have hdoD:AA (Mc (Fg p k) (HZ p x j st)=Bo (Fg p k) (DE d G 0 d.spots++BR x 0 j.at_ G.env) {st with sol:=B5 st.sol d G}):=⟨by rw[hdo2.out,if_pos hszs];rfl⟩
  replace hjp:=AA.mk hjp;clear en0 en3 n4 n5 n6 k4 hl3 hl0 hl1 gm hpan;refine AX d.spots _ (S:=fun m' i (a:AB×Nat)=>⟨[(0,.ptr m 0),(3,.ptr (0::0::π) 0),(4,.ptr (0::10::π) 0),(6,.ptr (0::31::π) 0),(175,.d (.lst (d.spots.map BB))),(176,.d (.int .i64 (m'))),(177,.d (.int .i64 (i)))],a.1,a.2+25,[]⟩)
   (Inv:=fun i rest a=>AA (∃V' st',B9 p sz π m V h (a.2+25) V' st' a.1∧(∀i∈AE ev,i∉V'.ids m)∧OD p sz k st'∧(∀j'∈DE d G i rest++BR x 0 j.at_ G.env,CZ p sz st'.sol j')∧Mc (Fg p k) (HZ p x j st)=Bo (Fg p k) (DE d G i rest++BR x 0 j.at_ G.env) st')∧a.1.get (0::0::π)=some (.box [.d (.int .i64 (j.node)),.d (.int .i64 (j.at_)),.d (.lst (j.env.map AN))])∧a.1.get (0::10::π)=some (.box [.d (.int .i64 (x.op)),.d (.int .i64 (x.n)),.d (.lst (x.args.map Bs)),.d (.lst (x.kids.map AO))])∧a.1.get (0::31::π)=some (.box [.d (.int .i64 (x.n)),.d (.int .i64 (j.at_)),ev])∧b≤a.2∧AA (Za π a.1 b ev G.env)) (b0:=(_,b)) rfl ⟨⟨V2,_,by simpa using hR.out.up (by omega),hev.out,⟨hjp.out.sok,hI.out.w0,hI.out.w1,hI.out.w2,hI.out.ev⟩,hjp.out.jobs,hdoD.out⟩,k2,k3,k5,Nat.le_refl _,⟨hfe⟩⟩ ?_ ?_
  .clear hR hev k2 k3 k5 hfe g V2;rintro i y ⟨g,c⟩ hy hi him ⟨hR,k2,k3,k5,hbc,hfe⟩ IH;dsimp only at*;obtain⟨V',st',hR,hev,hI',hj',he'⟩:=hR.out;have gm:=hR.rep.box;have hm0:=hR.rep.box;simp only[Aj]at gm;have c2: ¬c=2:=by omega
   have w1:IntKind.i64.wrap ((i:Int)+1)=(i:Int)+1:=wrap_id (by omega) (by omega);have hpl:=fun(H:AB) (n:Nat) (hH:H.get m=g.get m)=>hplace.out H (n::π) V' st'.work (hH.trans hm0) (AF um n) ((i:Int)+1) (by omega) (by omega);have hca:AA (∀H:AB,(∀id,(∀a n,c+25≤n→Id.is (a::n::π) id=false)→H.get id=g.get id)→ ∃o g1,KL Tryz.prog cfg (.fn 66) [.ptr m 0,.d (.int .i64 (y.node)),.d (.int .i64 (G.place d ((i:Int)+1))),.d (.lst (G.env.map AN))] H ((c+42)::π) true none=.ok (o,g1)∧M9 p sz π m V h (c+25) (c+42) V' g (Fg p k ⟨y.node,G.place d ((i:Int)+1),G.env⟩ st') o (gc ((c+42)::π) g1)):=⟨fun H hH=>TH IH0 hu.out hR hI' (j:=⟨y.node,G.place d ((i:Int)+1),G.env⟩) (hj' _ (by rw[DE];simp)) H (c+42) (by omega) hH⟩;have hevk:AA (∀i∈AE ev,(∀a k,c+25≤k→Id.is (a::k::π) i=false)∧Id.under ((c+42)::π) i=false):=⟨fun i hi=>⟨fun a k hk=>qG hfe.out a k (by omega) i hi,aD hfe.out (by omega) i hi⟩⟩;replace hm0:=AA.mk hm0;replace hpl:=AA.mk hpl;replace hR:=AA.mk hR;replace hev:=AA.mk hev;replace hI':=AA.mk hI';replace hj':=AA.mk hj';replace he':=AA.mk he';have hjy:AA (CZ p sz st'.sol ⟨y.node,G.place d ((i:Int)+1),G.env⟩):=⟨hj'.out _ (by rw[DE];simp)⟩;have hgo2:AA (Bo (Fg p k) (DE d G i (y::d.spots.drop (i+1))++BR x 0 j.at_ G.env) st'=(Fg p k ⟨y.node,G.place d ((i:Int)+1),G.env⟩ st').bind (Bo (Fg p k) (DE d G (i+1) (d.spots.drop (i+1))++BR x 0 j.at_ G.env))):=⟨rfl⟩;rcases hfe.out with⟨hz8,he8⟩|⟨id8,he8,hg8,n8,hn8,hun8,hl8⟩
   .rw[he8]at k5;have hpl2:=hpl.out;have hca2:=hca.out;rw[show G.env.map AN=[] by rw[hz8];rfl]at hpl2 hca2;replace hpl2:=AA.mk hpl2;replace hca2:=AA.mk hca2;refine ax ?_;refine Cm (hpl2.out _ _ ?_) (fun o1 g1 p1=>?_)
    .simp only[go_sem,e1,Bool.false_eq_true]
    subst p1;refine ax ?_;refine Ep (hca2.out _ fun id2 b2=>?_) (fun o1 g1 p1=>?_)
    .simp only[go_sem,b2,Bool.false_eq_true]
    cases hdn:Fg p k ⟨y.node,G.place d ((i:Int)+1),G.env⟩ st' with
    |none=>
     rw[hdn]at p1 hgo2;obtain⟨w8,w9⟩:=p1.pan rfl;replace p1:=AA.mk p1;subst w8;replace w9:=AA.mk w9;refine ax ?_;rw[he'.out,hgo2.out];exact w9.out
    |some st2=>
     rw[hdn]at p1 hgo2;have hdp:=Kv hF k _ _ _ hI'.out.sok hjy.out hdn;obtain⟨w8,V3,w9,w10⟩:=p1.ret st2 rfl;subst w8;have b0:=(p1.box 0 (by omega)).trans k2;have b10:=(p1.box 10 (by omega)).trans k3;have b31:=(p1.box 31 (by omega)).trans k5;have hk8:=fun i hi=>p1.keep i (hev.out i hi) (hevk.out i hi).1 (hevk.out i hi).2;replace p1:=AA.mk p1;replace hdn:=AA.mk hdn;replace w9:=AA.mk w9;replace w10:=AA.mk w10;replace hk8:=AA.mk hk8;refine ax ?_;refine IH.out (_,c+20) ⟨⟨V3,st2,w9.out.up (by omega),fun i hi=>w10.out i (hev.out i hi) (hevk.out i hi).2,hI'.out.post hdp,fun j' hj2=>P1 (hj'.out j' ?_) hdp.ext,?_⟩,b0,b10,?_,by omega,⟨TT hfe.out hk8.out⟩⟩
     .rw[DE,List.cons_append];exact List.mem_cons_of_mem _ hj2
     .rw[he'.out,hgo2.out];rfl
     .exact b31.trans (by rw[he8])
   .rw[he8]at k5;have q8:=hevk.out id8 (by rw[he8];simp[AE]);have q81:=q8.1;replace q8:=AA.mk q8.2;have q82:Id.is m id8=false:=AD fun e=>by rw[←e,gm]at hg8;cases hg8
    have q83: ∀l,Id.is (0::l) id8=false:=fun l=>by obtain⟨l0,rfl⟩:=hl8;exact AD (by simp)
    refine ax ?_;refine Cm (hpl.out _ _ ?_) (fun o1 g1 p1=>?_)
    .simp only[go_sem,e1,Bool.false_eq_true]
    subst p1;refine ax ?_;refine Ep (hca.out _ fun id2 b2=>?_) (fun o1 g1 p1=>?_)
    .simp only[go_sem,b2,Bool.false_eq_true]
    cases hdn:Fg p k ⟨y.node,G.place d ((i:Int)+1),G.env⟩ st' with
    |none=>
     rw[hdn]at p1 hgo2;obtain⟨w8,w9⟩:=p1.pan rfl;replace p1:=AA.mk p1;subst w8;replace w9:=AA.mk w9;refine ax ?_;rw[he'.out,hgo2.out];exact w9.out
    |some st2=>
     rw[hdn]at p1 hgo2;have hdp:=Kv hF k _ _ _ hI'.out.sok hjy.out hdn;obtain⟨w8,V3,w9,w10⟩:=p1.ret st2 rfl;subst w8;have b0:=(p1.box 0 (by omega)).trans k2;have b10:=(p1.box 10 (by omega)).trans k3;have b31:=(p1.box 31 (by omega)).trans k5;have hk8:=fun i hi=>p1.keep i (hev.out i hi) (hevk.out i hi).1 (hevk.out i hi).2;replace p1:=AA.mk p1;replace hdn:=AA.mk hdn;replace w9:=AA.mk w9;replace w10:=AA.mk w10;replace hk8:=AA.mk hk8;refine ax ?_;refine IH.out (_,c+20) ⟨⟨V3,st2,w9.out.up (by omega),fun i hi=>w10.out i (hev.out i hi) (hevk.out i hi).2,hI'.out.post hdp,fun j' hj2=>P1 (hj'.out j' ?_) hdp.ext,?_⟩,b0,b10,?_,by omega,⟨TT hfe.out hk8.out⟩⟩
     .rw[DE,List.cons_append];exact List.mem_cons_of_mem _ hj2
     .rw[he'.out,hgo2.out];rfl
     .exact b31.trans (by rw[he8])
  .clear hR hev k2 k3 k5 hfe g V2;rintro i ⟨g,c⟩ hi him ⟨hR,k2,k3,k5,hbc,hfe⟩;dsimp only at*;obtain⟨V',st',hR9,hev,hI',hj',he'⟩:=hR.out;clear hR;have gi:=hi.out;subst gi;clear hi;obtain⟨kd,hkd,_⟩:=hd.out.kid;have hkj:DE d G d.spots.length []++BR x 0 j.at_ G.env=[⟨kd,j.at_,G.env⟩]:=by rw[BR,hkd];rfl
   rw[hkj]at hj' he';rw[RB]at he';have hca:AA (∀H:AB,(∀id,(∀a n,c+25≤n→Id.is (a::n::π) id=false)→H.get id=g.get id)→ ∃o g1,KL Tryz.prog cfg (.fn 66) [.ptr m 0,.d (.int .i64 (kd)),.d (.int .i64 (j.at_)),.d (.lst (G.env.map AN))] H ((c+35)::π) true none=.ok (o,g1)∧M9 p sz π m V h (c+25) (c+35) V' g (Fg p k ⟨kd,j.at_,G.env⟩ st') o (gc ((c+35)::π) g1)):=⟨fun H hH=>TH IH0 hu.out hR9 hI' (j:=⟨kd,j.at_,G.env⟩) (hj' _ (by simp)) H (c+35) (by omega) hH⟩;replace hR9:=AA.mk hR9;replace hev:=AA.mk hev;replace hI':=AA.mk hI';replace hj':=AA.mk hj';replace he':=AA.mk he';replace hkj:=AA.mk hkj;rw[hkd]at k3;replace hkd:=AA.mk hkd;rcases hfe.out with⟨hz8,he8⟩|⟨id8,he8,hg8,n8,hn8,hun8,hl8⟩
   .rw[he8]at k5;have hca2:=hca.out;rw[show G.env.map AN=[] by rw[hz8];rfl]at hca2;replace hca2:=AA.mk hca2;refine ax ?_;refine Ab (hca2.out _ fun id2 b2=>?_) (fun o1 g1 p1=>?_)
    .rfl
    cases hdn:Fg p k ⟨kd,j.at_,G.env⟩ st' with
    |none=>
     rw[hdn]at p1 he';obtain⟨w8,w9⟩:=p1.pan rfl;replace p1:=AA.mk p1;subst w8;replace w9:=AA.mk w9;refine ax ?_;rw[he'.out];exact w9.out
    |some st2=>
     rw[hdn]at p1 he';obtain⟨w8,V3,w9,w10⟩:=p1.ret st2 rfl;subst w8;replace p1:=AA.mk p1;replace hdn:=AA.mk hdn;replace w9:=AA.mk w9;replace w10:=AA.mk w10;refine ax ?_;rw[he'.out];exact w9.out.fin
   .rw[he8]at k5;refine ax ?_;refine Ab (hca.out _ fun id2 b2=>?_) (fun o1 g1 p1=>?_)
    .rfl
    cases hdn:Fg p k ⟨kd,j.at_,G.env⟩ st' with
    |none=>
     rw[hdn]at p1 he';obtain⟨w8,w9⟩:=p1.pan rfl;replace p1:=AA.mk p1;subst w8;replace w9:=AA.mk w9;refine ax ?_;rw[he'.out];exact w9.out
    |some st2=>
     rw[hdn]at p1 he';obtain⟨w8,V3,w9,w10⟩:=p1.ret st2 rfl;subst w8;replace p1:=AA.mk p1;replace hdn:=AA.mk hdn;replace w9:=AA.mk w9;replace w10:=AA.mk w10;refine ax ?_;rw[he'.out];exact w9.out.fin
 all_goals exact hpan.out (by omega)
end Go.Proofs
