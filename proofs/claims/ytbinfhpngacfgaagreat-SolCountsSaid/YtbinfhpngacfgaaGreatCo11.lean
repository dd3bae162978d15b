/-
  Parts: SolH1 SolN2 SolR3 EngCan SolC2b SolC3 SolC4 SolM4 SolG1 SolG2 SolG3 SolG4 SolR5 SolG5 SolS5 SolS6 SolS7 SolH2 SolS9 SolS8 SolP6 SolS10 SolS11 SolL1 SolL2 SolL3 SolL4 SolF1 SolH3 SolF2 SolL5.
-/
import Derived.Test.YtbinfhpngacfgaaGreatCo5
import Derived.Test.YtbinfhpngacfgaaGreatCo10
set_option linter.all false
set_option linter.unusedSimpArgs false
set_option linter.unusedVariables false
namespace Go.Proofs
open Go Go.Abs
set_option maxRecDepth 100000
set_option maxHeartbeats 4000000
def XN(l:List Int):Int:=match l with
 |[]=>0
 |x::l=>l.foldl min x
theorem Ql: ∀(l:List Int) (x:Int),l.foldl min x≤x∧(∀y∈l,l.foldl min x≤y)∧(l.foldl min x=x∨l.foldl min x∈l)
 |[],x=>by simp
 |y::l,x=>by
  obtain⟨h1,h2,h3⟩:=Ql l (min x y);rw[List.foldl_cons];refine⟨by omega,fun z hz=>?_,?_⟩
  .rcases List.mem_cons.1 hz with rfl|hz
   .omega
   .exact h2 z hz
  .rcases h3 with h3|h3
   .by_cases hxy:x≤y
    .exact .inl (by omega)
    .exact .inr (List.mem_cons.2 (.inl (by omega)))
   .exact .inr (List.mem_cons_of_mem _ h3)
theorem R7{l:List Nat}(h:0<l.length):XN (l.map fun(n:Nat)=>(n:Int))=0↔0∈l:=by
 cases l with
 |nil=>simp at h
 |cons x l=>
  obtain⟨h1,h2,h3⟩:=Ql (l.map fun(n:Nat)=>(n:Int)) (x:Int);have e0:XN ((x::l).map fun(n:Nat)=>(n:Int))=(l.map fun(n:Nat)=>(n:Int)).foldl min (x:Int):=rfl;rw[e0];constructor
  .intro e;rw[e]at h3;rcases h3 with h3|h3
   .have:x=0:=by omega
    simp[this]
   .obtain⟨y,hy,e2⟩:=List.mem_map.1 h3;have:y=0:=by omega
    subst this;exact List.mem_cons_of_mem _ hy
  .intro e;have hn:0≤(l.map fun(n:Nat)=>(n:Int)).foldl min (x:Int):=by
    rcases h3 with h3|h3
    .omega
    .obtain⟨y,hy,e2⟩:=List.mem_map.1 h3;omega
   rcases List.mem_cons.1 e with e|e
   .omega
   .have:=h2 0 (List.mem_map.2 ⟨0,e,rfl⟩);omega
theorem nz(L:List Int)(h0:0<L.length)(hl:L.length≤1000000):Au (KL Tryz.prog cfg) 159 [.d (.lst (L.map AG))] []=.ok (.ret (.d (.int .i64 (XN L))),[]):=by
 obtain⟨x,hx⟩:=get_some (l:=L) (i:=0) h0;have hm:AA (XN L=(L.drop 1).foldl min x):=⟨by
  cases L with
  |nil=>cases hx
  |cons y l=>cases hx;rfl⟩
 have hd:AA ((L.drop 1).length=L.length-1):=⟨by simp⟩;have z1: ¬(L.length:Int)<1:=by omega
 have z2:(0:Int)<L.length:=by omega
 (refine AU rfl Tryz.func159 rfl rfl rfl ?_;show Wp _ _ _ _ (Tryz.f159.body.get rfl) _ _;simp only[Tryz.f159,Option.get_some])
 refine aw ?_;refine Ad (L.drop 1) (S:=fun i (c:Int)=>⟨[(0,.d (.lst (L.map AG))),(3,.d (.int .i64 (c))),(4,.d (.int .i64 ((i:Int)+1)))],[],0,[]⟩) (Inv:=fun i rest c=>AA (XN L=rest.foldl min c)) (b0:=x) hm ?_ ?_
 .rintro i y c hy hi him hI IH;have hd:=hd.out;have a1:(i:Int)+1<L.length:=by omega
  have a2:((i:Int)+1).toNat=i+1:=by omega
  have a4:0≤(i:Int)+1:=by omega
  have a3:IntKind.i64.wrap ((i:Int)+1+1)=(i:Int)+1+1:=wrap_id (by omega) (by omega);rw[List.getElem?_drop,Nat.add_comm]at hy;clear hd hi him;refine aw ?_;rw[show(if y<c then y else c)=min c y by split<;>omega];exact IH.out (min c y) hI
 .rintro i c hi him hI;have hd:=hd.out;have a1: ¬(i:Int)+1<L.length:=by omega
  clear hd him;refine aw ?_;rw[hI.out];rfl
theorem Sf(l:List Int)(id:Abs.Id)(o n:Nat):A6 (.osl id o n) [(id,.darr 1 (l.map AG))]=some (id,.darr 1 (l.map AG)):=by
 rw[EM,if_pos];simp[AG,Cw]
theorem fL(l:List Int)(h0:0<l.length)(hl:l.length≤1000000)(k:Nat)(ρ:List Nat):Au (KL Tryz.prog cfg) 160 [.d (.lst (l.map AG))] (k::ρ)=.ok (.ret (.osl (1::5::k::ρ) 0 l.length),[(1::5::k::ρ,.darr 1 (l.map AG))]):=by
 have ap:=MJ l l.length rfl h0 hl
 (refine AU rfl Tryz.func160 rfl rfl rfl ?_;show Wp _ _ _ _ (Tryz.f160.body.get rfl) _ _;simp only[Tryz.f160,Option.get_some])
 exact au
end Go.Proofs
namespace Go.Proofs
open Go Go.Abs
def GJ:List Nat→List Int→List (List Int)
 |n::l,d::c=>((GJ l c).map fun t=>d::t)++(List.range' (d.toNat+1) (n-(d.toNat+1))).flatMap fun(i:Nat)=>(BB l).map fun t=>(i:Int)::t
 |_,_=>[[]]
def Di(n:Nat):List Int:=List.replicate n 0
def Gd:List Nat→List Int→Option (List Int)
 |n::l,d::c=>match Gd l c with
  |some t=>some (d::t)
  |none=>if d+1<n then some ((d+1)::Di c.length)else none
 |_,_=>none
inductive FW:List Nat→List Int→Prop where
 |nil:FW [] []
 |cons {n:Nat} {l:List Nat} {d:Int} {c:List Int}:0≤d→d<n→FW l c→FW (n::l) (d::c)
theorem FW.len{l:List Nat}{c:List Int}(h:FW l c):c.length=l.length:=by
 induction h with
 |nil=>rfl
 |cons _ _ _ ih=>simp[ih]
theorem Ig: ∀{l:List Nat},0∉l→FW l (Di l.length)
 |[],_=>.nil
 |n::l,h=>by
  simp only[List.mem_cons,not_or]at h;exact .cons (by omega) (by omega) (Ig h.2)
theorem K1: ∀{l:List Nat},0∉l→GJ l (Di l.length)=BB l
 |[],_=>rfl
 |n::l,h=>by
  simp only[List.mem_cons,not_or]at h;have ih:=K1 h.2;rw[List.length_cons,Di,List.replicate_succ,GJ,BB];rw[Di]at ih;rw[ih];obtain⟨m,rfl⟩: ∃m,n=m+1:=⟨n-1,by omega⟩;rw[List.range_eq_range',List.range'_succ,List.flatMap_cons];simp
def R1(l:List Nat):Option (List Int)→List (List Int)
 |some c=>GJ l c
 |none=>[]
theorem am{l:List Nat}{c:List Int}(h:FW l c)(h0:0∉l):GJ l c=c::R1 l (Gd l c)∧ ∀c',Gd l c=some c'→FW l c':=by
 induction h with
 |nil=>exact⟨rfl,fun c' h=>by cases h⟩
 | @cons n l d c hd0 hd1 hc ih=>
   simp only[List.mem_cons,not_or]at h0;obtain⟨ih1,ih2⟩:=ih h0.2;cases hn:Gd l c with
   |some t=>
    rw[hn]at ih1;have e:Gd (n::l) (d::c)=some (d::t):=by rw[Gd,hn]
    rw[e];refine⟨?_,fun c' h=>by cases h;exact .cons hd0 hd1 (ih2 t hn)⟩;simp only[GJ,R1,ih1];rfl
   |none=>
    rw[hn]at ih1;have e:Gd (n::l) (d::c)=if d+1<n then some ((d+1)::Di c.length)else none:=by rw[Gd,hn]
    rw[e];have hz:=Ig h0.2;rw[←hc.len]at hz;have hr:=K1 h0.2;rw[←hc.len]at hr;by_cases hlt:d+1<n
    .rw[if_pos hlt];refine⟨?_,fun c' h=>by cases h;exact .cons (by omega) hlt hz⟩;simp only[GJ,R1,ih1,hr];obtain⟨m,hm⟩: ∃m,n-(d.toNat+1)=m+1:=⟨n-(d.toNat+1)-1,by omega⟩;have e1:(d+1).toNat=d.toNat+1:=by omega
     rw[e1,hm,List.range'_succ,List.flatMap_cons,show n-(d.toNat+1+1)=m by omega];simp;intro a _;omega
    .rw[if_neg hlt];refine⟨?_,fun c' h=>by cases h⟩;have:n-(d.toNat+1)=0:=by omega
     simp only[GJ,R1,ih1,this];rfl
theorem dD{l:List Nat}{c:List Int}(h:FW l c): ∀{j:Nat} {d:Int} {n:Nat},c[j]? =some d→l[j]? =some n→0≤d∧d<n:=by
 induction h with
 |nil=>intro j d n h1;simp at h1
 |cons h1 h2 _ ih=>
  intro j d n hd hn;cases j with
  |zero=>
   simp only[List.getElem?_cons_zero,Option.some.injEq]at hd hn;subst hd hn;exact⟨h1,h2⟩
  |succ j=>exact ih hd hn
def W1(l:List Nat)(c:List Int)(j:Nat):Prop:= ∀t,j≤t→t<l.length→ ∃(d:Int) (n:Nat),c[t]? =some d∧l[t]? =some n∧d=n-1
theorem On{l:List Nat}{c:List Int}(h:FW l c)(he:W1 l c 0):Gd l c=none:=by
 induction h with
 |nil=>rfl
 | @cons n l d c hd0 hd1 hc ih=>
   have h1:=ih fun t _ ht=>by
    have:=he (t+1) (by omega) (by simp;omega);simpa using this
   obtain⟨d',n',e1,e2,e3⟩:=he 0 (by omega) (by simp);simp only[List.getElem?_cons_zero,Option.some.injEq]at e1 e2;subst e1 e2;rw[Gd,h1];simp only;rw[if_neg (by omega)]
theorem XQ{l:List Nat}{c:List Int}(h:FW l c): ∀{j:Nat} {d:Int} {n:Nat},W1 l c (j+1)→c[j]? =some d→l[j]? =some n→ ¬d=n-1→Gd l c=some (c.take j++(d+1)::Di (l.length-(j+1))):=by
 induction h with
 |nil=>intro j d n _ h1;simp at h1
 | @cons n0 l d0 c hd0 hd1 hc ih=>
   intro j d n he hd hn hne;have he': ∀k,k+1≥j+1→W1 l c k:=fun k hk t h1 h2=>by
    have:=he (t+1) (by omega) (by simp;omega);simpa using this
   cases j with
   |zero=>
    simp only[List.getElem?_cons_zero,Option.some.injEq]at hd hn;subst hd hn;rw[Gd,On hc (he' 0 (by omega))];simp only;rw[if_pos (by omega)];simp[hc.len]
   |succ j=>
    simp only[List.getElem?_cons_succ]at hd hn;rw[Gd,ih (he' (j+1) (by omega)) hd hn hne];simp
end Go.Proofs
namespace Go.Proofs
open Go Go.Abs
theorem SN{α:Type}{l:List α}{k:Nat}{r:α}(h:l[k]? =some r):l=l.take k++r::l.drop (k+1):=by
 rw[←AJ h,List.take_append_drop]
theorem Xv{α:Type}{l:List α}{k:Nat}{r:α}(h:l[k]? =some r)(r':α):l.set k r'=l.take k++r'::l.drop (k+1):=by
 have hk:=AK h;rw[List.set_eq_take_append_cons_drop,if_pos hk]
theorem SF{α β:Type}{f:α→List β}{l:List α}(h:(l.flatMap f).Nodup){k:Nat}{r r':α}(hk:l[k]? =some r)(hn:(f r').Nodup)(hd: ∀x∈f r',x∈f r∨x∉l.flatMap f):((l.set k r').flatMap f).Nodup:=by
 have h0:=h;rw[SN hk,List.flatMap_append,List.flatMap_cons,List.nodup_append]at h;obtain⟨h1,h2,h3⟩:=h;rw[List.nodup_append]at h2;rw[Xv hk,List.flatMap_append,List.flatMap_cons,List.nodup_append];have key: ∀x∈f r',x∉(l.take k).flatMap f∧x∉(l.drop (k+1)).flatMap f:=fun x hx=>by
  rcases hd x hx with hh|hh
  .exact⟨fun e=>h3 x e x (List.mem_append_left _ hh) rfl,fun e=>h2.2.2 x hh x e rfl⟩
  .rw[SN hk,List.flatMap_append,List.flatMap_cons]at hh;simp only[List.mem_append,not_or]at hh;exact⟨hh.1,hh.2.2⟩
 refine⟨h1,List.nodup_append.2 ⟨hn,h2.2.1,fun a ha b hb e=>(key a ha).2 (by rw[e];exact hb)⟩,fun a ha b hb e=>?_⟩;rcases List.mem_append.1 hb with hb|hb
 .exact(key b hb).1 (by rw[←e];exact ha)
 .exact h3 a ha b (List.mem_append_right _ hb) e
theorem P3{α:Type}{f:α→List AN}{g:AB}{sz:Nat}{v:AV}{l:List α}(h:Nl g sz v (l.map f)){k:Nat}{y:α}(hy:l[k]? =some y): ∃id xs,v=.osl id 0 l.length∧g.get id=some (.darr sz (l.map f++xs))∧(l.map f++xs)[k]? =some (f y)∧k<l.length∧k<l.length+xs.length:=by
 have hk:=AK hy;rcases h with⟨_,h⟩|⟨id,xs,rfl,h⟩
 .rw[List.map_eq_nil_iff.1 h]at hk;simp at hk
 .exact⟨id,xs,by rw[List.length_map],h,by rw[List.getElem?_append_left (by simpa using hk),List.getElem?_map,hy];rfl,hk,by omega⟩
end Go.Proofs
namespace Go.Abs
theorem Zt(l:List Id)(x y:Id):y∈Hq l x↔y∈l∨y=x:=by
 unfold Hq;split
 .rename_i h;obtain⟨z,hz,e⟩:=List.any_eq_true.1 h;have:x=z:=is_iff.1 e;subst this;constructor
  .exact .inl
  .rintro(h|rfl)
   .exact h
   .exact hz
 .simp
theorem R3{l:List Id}(h:l.Nodup)(x:Id):(Hq l x).Nodup:=by
 unfold Hq;split
 .exact h
 .rename_i hx;rw[List.nodup_append];refine⟨h,by simp,fun a ha b hb=>?_⟩;rw[List.mem_singleton]at hb;subst hb;rintro rfl;have:l.any (Id.is a)=true:=List.any_eq_true.2 ⟨a,ha,is_self a⟩;rw[this]at hx;cases hx
theorem Zp(l:List Id)(x:Id): ∃m,Hq l x=l++m:=by
 unfold Hq;split
 .exact⟨[],by simp⟩
 .exact⟨[x],rfl⟩
theorem E4: ∀(new l:List Id) (y:Id),y∈DQ l new↔y∈l∨y∈new
 |[],l,y=>by simp[DQ]
 |x::new,l,y=>by
  have:=E4 new (Hq l x) y;unfold DQ at*;rw[List.foldl_cons,this,Zt,List.mem_cons,or_assoc]
theorem Hf: ∀(new:List Id) {l:List Id},l.Nodup→(DQ l new).Nodup
 |[],l,h=>h
 |x::new,l,h=>Hf new (R3 h x)
theorem NH: ∀(new l:List Id),∃m,DQ l new=l++m
 |[],l=>⟨[],by simp[DQ]⟩
 |x::new,l=>by
  obtain⟨m,hm⟩:=Zp l x;obtain⟨m2,hm2⟩:=NH new (Hq l x);refine⟨m++m2,?_⟩;have:DQ l (x::new)=DQ (Hq l x) new:=rfl;rw[this,hm2,hm,List.append_assoc]
theorem MZ(h:AB)(M:List Id)(hc: ∀x∈M,∀y∈Eg (h.get x),y∈M): ∀(n:Nat) (l:List Id) (i:Nat),l.Nodup→(∀x∈l,x∈M)→(∀j x,j<i→l[j]? =some x→ ∀y∈Eg (h.get x),y∈l)→M.length≤i+n→
 (BU h n l i).Nodup∧(∀x∈BU h n l i,x∈M)∧(∀x∈l,x∈BU h n l i)∧ ∀x∈BU h n l i,∀y∈Eg (h.get x),y∈BU h n l i
 |0,l,i,hn,hm,hd,hi=>by
  have e:BU h 0 l i=l:=rfl;rw[e];refine⟨hn,hm,fun x hx=>hx,fun x hx y hy=>?_⟩;obtain⟨j,hj⟩:=List.getElem?_of_mem hx;have h1:=hn.length_le_of_subset (l₂:=M) hm;have h2:=(List.getElem?_eq_some_iff.1 hj).1;exact hd j x (by omega) hj y hy
 |n+1,l,i,hn,hm,hd,hi=>by
  cases hl:l[i]? with
  |none=>
   have e:BU h (n+1) l i=l:=by rw[BU,hl]
   rw[e];refine⟨hn,hm,fun x hx=>hx,fun x hx y hy=>?_⟩;obtain⟨j,hj⟩:=List.getElem?_of_mem hx;have h1:=List.getElem?_eq_none_iff.1 hl;have h2:=(List.getElem?_eq_some_iff.1 hj).1;exact hd j x (by omega) hj y hy
  |some id=>
   have e:BU h (n+1) l i=BU h n (DQ l (Eg (h.get id))) (i+1):=by rw[BU,hl]
   rw[e];have hid:=List.mem_of_getElem? hl;obtain⟨m,hm2⟩:=NH (Eg (h.get id)) l;have ih:=MZ h M hc n (DQ l (Eg (h.get id))) (i+1) (Hf _ hn) (fun x hx=>by
    rcases(E4 _ _ _).1 hx with hx|hx
    .exact hm x hx
    .exact hc id (hm id hid) x hx) (fun j x hj hx y hy=>by
    rw[E4];by_cases hji:j=i
    .subst hji;rw[hm2,List.getElem?_append_left (List.getElem?_eq_some_iff.1 hl).1,hl]at hx;cases hx;exact .inr hy
    .have hil:=(List.getElem?_eq_some_iff.1 hl).1;rw[hm2,List.getElem?_append_left (by omega)]at hx;exact .inl (hd j x (by omega) hx y hy)) (by omega)
   exact⟨ih.1,ih.2.1,fun x hx=>ih.2.2.1 x ((E4 _ _ _).2 (.inl hx)),ih.2.2.2⟩
theorem Fh(π:List Nat): ∀(l:List Id) (n:Nat) (x:Id),x∈l→ ∃j,Cb π l n x=some (Nk x::(n+j)::π)∧j<l.length
 |y::l,n,x,hx=>by
  rw[NI];by_cases h:Id.is y x=true
  .rw[if_pos h];exact⟨0,rfl,by simp⟩
  .rw[if_neg h];have hx2:x∈l:=by
    rcases List.mem_cons.1 hx with rfl|hx
    .exact absurd (is_self _) h
    .exact hx
   obtain⟨j,hj,hlt⟩:=Fh π l (n+1) x hx2;exact⟨j+1,by rw[hj];congr 3;omega,by simp;omega⟩
theorem TH(h:AB)(ν:Id→Option Id)(hinj: ∀x y z,ν x=some z→ν y=some z→x=y){x z:Id}{o:Obj}(hz:ν x=some z)(ho:h.get x=some o): ∀(l:List Id),x∈l→(CH h ν l).get z=some (Eu ν o)
 |y::l,hx=>by
  by_cases hxy:y=x
  .subst hxy;rw[CH,ho,hz,BA,is_self,if_pos rfl]
  .have hx2:x∈l:=by
    rcases List.mem_cons.1 hx with rfl|hx
    .exact absurd rfl hxy
    .exact hx
   have ih:=TH h ν hinj hz ho l hx2;rw[CH];split
   .rename_i o' z' h1 h2;rw[BA,AM (fun e=>hxy (hinj _ _ _ h2 (by rw[e];exact hz))),if_neg (by simp)];exact ih
   .exact ih
structure sk(π:List Nat)(h:AB)(e:BI)(ν:Id→Option Id)(h':AB)(n:Nat):Prop where
 env: ∀x∈Hx e,∃z,ν x=some z
 name: ∀x z,ν x=some z→ ∃j,j<n∧z=Nk x::j::π
 inj: ∀x y z,ν x=some z→ν y=some z→x=y
 get: ∀x z o,ν x=some z→h.get x=some o→h'.get z=some (Eu ν o)
 deep: ∀x z,ν x=some z→ ∀y∈Eg (h.get x),∃z',ν y=some z'
 only: ∀z o,h'.get z=some o→ ∃x,ν x=some z
theorem Lb(π:List Nat)(h:AB)(e:BI)(M:List Id)(hM:M.length≤1000)(he: ∀x∈Hx e,x∈M)(hc: ∀x∈M,∀y∈Eg (h.get x),y∈M):
 ∃ν h' n,JR π h e=⟨e.map fun p=>(p.1,GQ ν p.2),h',n,[]⟩∧n≤M.length∧sk π h e ν h' n:=by
 obtain⟨r1,r2,r3,r4⟩:=MZ h M hc 1000 (DQ [] (Hx e)) 0 (Hf _ .nil) (fun x hx=>by
  rcases(E4 _ _ _).1 hx with hx|hx
  .cases hx
  .exact he x hx) (fun j x hj=>by omega) (by omega)
 unfold JR QB;generalize BU h 1000 (DQ [] (Hx e)) 0=L at*;refine⟨Cb π L 0,CH h (Cb π L 0) L,L.length,rfl,r1.length_le_of_subset r2,?_,?_,fun x y z=>It,fun x z o hz ho=>?_,fun x z hz y hy=>?_,fun z o hz=>?_⟩
 .intro x hx;obtain⟨j,hj,_⟩:=Fh π L 0 x (r3 x ((E4 _ _ _).2 (.inr hx)));exact⟨_,hj⟩
 .intro x z hz;obtain⟨j,t,h1,h2⟩:=C8 hz;obtain⟨j2,h3,h4⟩:=Fh π L 0 x (List.mem_of_getElem? h1);rw[hz]at h3;cases h3;exact⟨0+j2,by omega,rfl⟩
 .obtain⟨j,t,h1,h2⟩:=C8 hz;exact TH h _ (fun x y z=>It) hz ho L (List.mem_of_getElem? h1)
 .obtain⟨j,t,h1,h2⟩:=C8 hz;obtain⟨j2,h3,h4⟩:=Fh π L 0 y (r4 x (List.mem_of_getElem? h1) y hy);exact⟨_,h3⟩
 .obtain⟨x,o,_,h2,_⟩:=DI hz;exact⟨x,h2⟩
end Go.Abs
namespace Go.Proofs
open Go Go.Abs
@[irreducible] def LG(C:Bk)(f:FuncId)(π:List Nat)(b:Nat)(e:BI)(h:AB):St:=JR π h (JL e (C.live f b))
theorem EP(C:Bk)(f:FuncId)(π:List Nat)(b:Nat)(e:BI)(h:AB):LG C f π b e h=JR π h (JL e (C.live f b)):=by unfold LG;rfl
theorem Zi(b:Nat)(e:BI)(h:AB)(bs:Nat)(π:List Nat)(prot:Option (List Nat))(rnd:Bool)(nt:Nat):DS cfg ⟨153,π,false,prot,rnd,nt⟩ b ⟨e,h,bs,[]⟩=LG cfg 153 π b e h:=by
 rw[EP];exact Kt _ _ _ _ _
attribute [go_sem 2000] Zi
def pq(g:AB)(v:AV)(q:List (List DU)):Prop:=(q.length=0∧v=.nils)∨(q.length≠0∧ ∃id,v=.osl id 0 q.length∧g.get id=some (.darr 1 (q.map CW)))
structure EW(g:AB)(es:List (List AV))(l:List Je):Prop where
 len:es.length=l.length
 row: ∀(j:Nat) (x:Je),l[j]? =some x→ ∃v,es[j]? =some (Bx x v)∧pq g v x.queue
 diff:(es.flatMap An).Nodup
def Ga(π:List Nat)(b:Nat)(id:Abs.Id):Prop:= ∃t j,j<b∧id=t::j::π
structure dp(π:List Nat)(l:List Je)(i:Nat)(v:AV)(g:AB)(b:Nat)(A:Abs.Id)(es:List (List AV)):Prop where
 val:v=.osl A 0 i
 arr:g.get A=some (.arr 4 es)
 rep:EW g es (l.take i)
 a:Ga π b A
 ids: ∀id∈es.flatMap An,Ga π b id
 own: ∀id,Id.under π id=false→g.get id=none
theorem Ir{k b:Nat}{ρ:List Nat}{A:Abs.Id}(h:Ga (k::ρ) b A)(t j:Nat)(hj:b≤j):Id.is (t::j::k::ρ) A=false∧Id.is A (t::j::k::ρ)=false:=by
 obtain⟨t',j',h1,rfl⟩:=h;exact⟨AM (by simp;omega),AM (by simp;omega)⟩
theorem Ft{k b:Nat}{ρ:List Nat}{A:Abs.Id}(h:Ga (k::ρ) b A)(m:List Nat)(hm:2<m.length):Id.is (m++k::ρ) A=false∧Id.is A (m++k::ρ)=false:=by
 obtain⟨t',j',h1,rfl⟩:=h;constructor
 .refine AM fun e=>?_;have:=congrArg List.length e;simp at this;omega
 .refine AM fun e=>?_;have:=congrArg List.length e;simp at this;omega
theorem Db(x:Je)(v:AV):An (Bx x v)=AE v:=by simp[Bx,An,AE]
theorem KC{g:AB}{v:AV}{q:List (List DU)}(h:pq g v q):(v=.nils∧AE v=[])∨ ∃id,v=.osl id 0 q.length∧AE v=[id]∧g.get id=some (.darr 1 (q.map CW)):=by
 rcases h with⟨_,rfl⟩|⟨_,id,rfl,h⟩
 .exact .inl ⟨rfl,rfl⟩
 .exact .inr ⟨id,rfl,rfl,h⟩
theorem IK{g:AB}{es:List (List AV)}{l:List Je}(h:EW g es l){id:Abs.Id}(hi:id∈es.flatMap An): ∃q:List (List DU),g.get id=some (.darr 1 (q.map CW)):=by
 obtain⟨row,hr,hid⟩:=List.mem_flatMap.1 hi;obtain⟨j,hj⟩:=List.getElem?_of_mem hr;have hjl:=(List.getElem?_eq_some_iff.1 hj).1;obtain⟨x,hx⟩:=get_some (l:=l) (i:=j) (by rw[←h.len];exact hjl);obtain⟨v,hv,hq⟩:=h.row j x hx;rw[hj]at hv;cases hv;rw[Db]at hid;rcases KC hq with⟨_,e⟩|⟨id2,_,e,hg⟩
 .rw[e]at hid;cases hid
 .rw[e,List.mem_singleton]at hid;subst hid;exact⟨_,hg⟩
theorem HP{g H:AB}{es:List (List AV)}{l:List Je}(h:EW g es l)(hk: ∀id∈es.flatMap An,H.get id=g.get id):EW H es l:=by
 refine⟨h.len,fun j x hx=>?_,h.diff⟩;obtain⟨v,hv,hq⟩:=h.row j x hx;refine⟨v,hv,?_⟩;rcases hq with hq|⟨h0,id,rfl,hg⟩
 .exact .inl hq
 .refine .inr ⟨h0,id,rfl,?_⟩;rw[hk id (List.mem_flatMap.2 ⟨_,List.mem_of_getElem? hv,by rw[Db];simp[AE]⟩)];exact hg
theorem GY{H:AB}{es:List (List AV)}{l:List Je}(h:EW H es l){x:Je}{v:AV}(hq:pq H v x.queue)(hn: ∀id∈AE v,id∉es.flatMap An):EW H (es++[Bx x v]) (l++[x]):=by
 refine⟨by simp[h.len],fun j y hy=>?_,?_⟩
 .by_cases hj:j<l.length
  .rw[List.getElem?_append_left hj]at hy;obtain⟨v',hv',hq'⟩:=h.row j y hy;exact⟨v',by rw[List.getElem?_append_left (by rw[h.len];exact hj)];exact hv',hq'⟩
  .have hlt:=(List.getElem?_eq_some_iff.1 hy).1;rw[List.length_append,List.length_singleton]at hlt;obtain rfl:j=l.length:=by omega
   rw[List.getElem?_append_right (by omega)]at hy;simp only[Nat.sub_self,List.getElem?_cons_zero,Option.some.injEq]at hy;subst hy;exact⟨v,by rw[List.getElem?_append_right (by rw[h.len];omega),h.len];simp,hq⟩
 .rw[List.flatMap_append,List.nodup_append];refine⟨h.diff,?_,?_⟩
  .simp only[List.flatMap_cons,List.flatMap_nil,List.append_nil,Db];rcases KC hq with⟨_,e⟩|⟨id2,_,e,_⟩<;>rw[e]<;>simp
  .intro a ha b hb hab;subst hab;simp only[List.flatMap_cons,List.flatMap_nil,List.append_nil,Db]at hb;exact hn a hb ha
theorem Kj{α β:Type}{f:α→β}: ∀{l:List α},l.Nodup→(∀x∈l,∀y∈l,f x=f y→x=y)→(l.map f).Nodup
 |[],_,_=>List.nodup_nil
 |x::l,h,hf=>by
  rw[List.nodup_cons]at h;rw[List.map_cons,List.nodup_cons];refine⟨fun hm=>?_,Kj h.2 fun a ha b hb=>hf a (List.mem_cons_of_mem _ ha) b (List.mem_cons_of_mem _ hb)⟩;obtain⟨y,hy,e⟩:=List.mem_map.1 hm;have:=hf y (List.mem_cons_of_mem _ hy) x (by simp) e;subst this;exact h.1 hy
theorem Ro{es:List (List AV)}(h: ∀r∈es,(An r).length≤1):(es.flatMap An).length≤es.length:=by
 induction es with
 |nil=>simp
 |cons r es ih=>
  have h1:=h r (by simp);have h2:=ih fun r hr=>h r (List.mem_cons_of_mem _ hr);simp only[List.flatMap_cons,List.length_append,List.length_cons];omega
theorem Qy{g:AB}{es:List (List AV)}{l:List Je}(h:EW g es l):(es.flatMap An).length≤es.length:=by
 refine Ro fun r hr=>?_;obtain⟨j,hj⟩:=List.getElem?_of_mem hr;have hjl:=(List.getElem?_eq_some_iff.1 hj).1;obtain⟨x,hx⟩:=get_some (l:=l) (i:=j) (by rw[←h.len];exact hjl);obtain⟨v,hv,hq⟩:=h.row j x hx;rw[hj]at hv;cases hv;rw[Db];rcases KC hq with⟨_,e⟩|⟨id2,_,e,hg⟩<;>rw[e]<;>simp
theorem Sm{π:List Nat}{H H':AB}{e:BI}{ν:Abs.Id→Option Abs.Id}{n:Nat}(hR:sk π H e ν H' n){es:List (List AV)}{l:List Je}(h:EW H es l)(hν: ∀id∈es.flatMap An,∃z,ν id=some z):EW H' (es.map (Fk ν)) l∧ ∀id∈(es.map (Fk ν)).flatMap An,Ga π n id:=by
 have key: ∀r∈es,An (Fk ν r)=(An r).map fun id=>(ν id).getD []:=by
  intro r hr;obtain⟨j,hj⟩:=List.getElem?_of_mem hr;have hjl:=(List.getElem?_eq_some_iff.1 hj).1;obtain⟨x,hx⟩:=get_some (l:=l) (i:=j) (by rw[←h.len];exact hjl);obtain⟨v,hv,hq⟩:=h.row j x hx;rw[hj]at hv;cases hv;have e1:Fk ν (Bx x v)=Bx x (GQ ν v):=by simp[Bx,Fk,GQ]
  rw[e1,Db,Db];rcases KC hq with⟨rfl,e⟩|⟨id2,rfl,e,hg⟩
  .simp[GQ,AE]
  .obtain⟨z,hz⟩:=hν id2 (List.mem_flatMap.2 ⟨_,hr,by rw[Db];simp[AE]⟩);simp[GQ,hz,AE]
 have key2:(es.map (Fk ν)).flatMap An=(es.flatMap An).map fun id=>(ν id).getD []:=by
  rw[List.flatMap_map,List.map_flatMap];have: ∀(l:List (List AV)),(∀r∈l,An (Fk ν r)=(An r).map fun id=>(ν id).getD [])→(l.flatMap fun a=>An (Fk ν a))=l.flatMap fun a=>(An a).map fun id=>(ν id).getD []:=by
   intro l hl;induction l with
   |nil=>rfl
   |cons r l ih=>rw[List.flatMap_cons,List.flatMap_cons,hl r (by simp),ih fun r hr=>hl r (List.mem_cons_of_mem _ hr)]
  exact this es key
 refine⟨⟨by rw[List.length_map,h.len],fun j x hx=>?_,?_⟩,?_⟩
 .obtain⟨v,hv,hq⟩:=h.row j x hx;refine⟨GQ ν v,?_,?_⟩
  .rw[List.getElem?_map,hv];simp[Bx,Fk,GQ]
  .rcases hq with⟨h0,rfl⟩|⟨h0,id,rfl,hg⟩
   .exact .inl ⟨h0,rfl⟩
   .obtain⟨z,hz⟩:=hν id (List.mem_flatMap.2 ⟨_,List.mem_of_getElem? hv,by rw[Db];simp[AE]⟩);refine .inr ⟨h0,z,by simp[GQ,hz],?_⟩;have:=hR.get id z _ hz hg;simpa[Eu]using this
 .rw[key2];refine Kj h.diff fun x hx y hy e=>?_;obtain⟨z,hz⟩:=hν x hx;obtain⟨z2,hz2⟩:=hν y hy;rw[hz,hz2]at e;simp only[Option.getD_some]at e;subst e;exact hR.inj x y z hz hz2
 .intro id hid;rw[key2]at hid;obtain⟨x,hx,rfl⟩:=List.mem_map.1 hid;obtain⟨z,hz⟩:=hν x hx;obtain⟨j,hj,rfl⟩:=hR.name x z hz;rw[hz];exact⟨_,j,hj,rfl⟩
theorem MK{K:AH}{fr:Fr}{bl:Nat}{x:Code}{Q:Cq→St→Prop}{k:Nat}{ρ:List Nat}{l:List Je}{E:BI}{H:AB}{B:Abs.Id}{i:Nat}{es:List (List AV)}{x8 x9 x10:AN}
 (hE:JL E (cfg.live 153 0)=[(1,.fn 154 [] []),(5,.osl B 0 i),(8,.d x8),(9,.d x9),(10,.d x10)]) (h1:H.get B=some (.arr 4 es)) (h2:EW H es (l.take i)) (hi:es.length≤60)
 (hn: ∀v g b A es,dp (k::ρ) l i v g b A es→ZT cfg K fr bl x ⟨[(1,.fn 154 [] []),(5,v),(8,.d x8),(9,.d x9),(10,.d x10)],g,b,[]⟩ Q):ZT cfg K fr bl x (LG cfg 153 (k::ρ) 0 E H) Q:=by
 rw[EP,hE];have hlen:=Qy h2;obtain⟨ν,h',n,hc,hnM,hR⟩:=Lb (k::ρ) H [(1,.fn 154 [] []),(5,.osl B 0 i),(8,.d x8),(9,.d x9),(10,.d x10)] (B::es.flatMap An) (by simp only[List.length_cons];omega) (by
  intro y hy;simp[Hx,AE,An]at hy;simp[hy]) (by
  intro y hy z hz;rcases List.mem_cons.1 hy with rfl|hy
  .rw[h1]at hz;exact List.mem_cons_of_mem _ hz
  .obtain⟨q,hq⟩:=IK h2 hy;rw[hq]at hz;cases hz)
 obtain⟨z,hz⟩:=hR.env B (by simp[Hx,AE,An]);have hν: ∀id∈es.flatMap An,∃z,ν id=some z:=fun id hid=>hR.deep B z hz id (by rw[h1];exact hid);obtain⟨r1,r2⟩:=Sm hR h2 hν;rw[hc];have:=hn (.osl z 0 i) h' n z (es.map (Fk ν)) ⟨rfl,by have:=hR.get B z _ hz h1;simpa[Eu]using this,r1,by obtain⟨j,hj,rfl⟩:=hR.name B z hz;exact⟨_,j,hj,rfl⟩,r2,fun id hu=>by
  cases hg:h'.get id with
  |none=>rfl
  |some o=>
   obtain⟨y,hy⟩:=hR.only id o hg;obtain⟨j,hj,rfl⟩:=hR.name y id hy;rw[G3]at hu;cases hu⟩
 simpa[GQ,Fk,hz]using this
end Go.Proofs
namespace Go.Proofs
open Go Go.Abs
set_option maxRecDepth 100000
set_option maxHeartbeats 4000000
def fB(π:List Nat)(l:List Je)(r:AQ×AB):Prop:=(l.length=0∧r=(.ret .nils,[]))∨(l.length≠0∧ ∃v g b A es,r=(.ret v,g)∧dp π l l.length v g b A es)
theorem iy(l:List Je)(hl:l.length≤60)(hf: ∀x∈l,x.queue.length≤1000000∧ ∀y∈x.queue,y.length≤1000000)(k:Nat)(ρ:List Nat): ∃r,Au (KL Tryz.prog cfg) 153 [.d (.lst (l.map Bp)),.fn 154 [] []] (k::ρ)=.ok r∧fB (k::ρ) l r:=by
 (refine EB rfl Tryz.func153 rfl rfl rfl ?_;show Wp _ _ _ _ (Tryz.f153.body.get rfl) _ _;simp only[Tryz.f153,Option.get_some])
 (repeat' (first|simp only[go_sem, *,EP]|(refine sx ?_ ?_<;>intro hc)|refine sy (by omega) fun x hx hm=>?_|simp(disch:=first|assumption|omega) only[wrap_id,AF,AC,slice_int]))
 refine AO l _ (S:=fun m i (a:(AV×AB)×Nat)=>⟨[(1,.fn 154 [] []),(5,a.1.1),(8,.d (.lst (l.map Bp))),(9,.d (.int .i64 (m))),(10,.d (.int .i64 (i)))],a.1.2,a.2,[]⟩)
  (Inv:=fun i rest a=>AA (i=0∧a=((.nils,[]),0)∨0<i∧ ∃A es,dp (k::ρ) l i a.1.1 a.1.2 a.2 A es)) (b0:=((_,[]),_)) ?_ ⟨.inl ⟨rfl,rfl⟩⟩ ?_ ?_
 .rfl
 .rintro i x ⟨⟨v,g⟩,b⟩ hy hi him hv IH;dsimp only at*;have hx:=fun k ρ=>Ps x (hf x (List.mem_of_getElem? hy)).1 (hf x (List.mem_of_getElem? hy)).2 k ρ;replace hf:=AA.mk hf;have ht:AA (l.take (i+1)=l.take i++[x]):=⟨by rw[List.take_add_one,hy];rfl⟩;rcases hv.out with⟨rfl,he⟩|⟨hi0,A,es,hE⟩
  .clear hv;cases he;have him0:(0:Int)<l.length:=him;by_cases h0:x.queue.length=0
   .simp only[Jv,if_pos h0,Bx]at hx
    (repeat' (first|simp only[go_sem, *,Ff,EP]|(refine sx ?_ ?_<;>intro hc)|refine sy (by omega) fun x hx hm=>?_|simp(disch:=first|assumption|omega) only[wrap_id,AF,AC,slice_int]))
    refine IH.out ((_,_),_) ⟨.inr ⟨by omega,1::0::k::ρ,[Bx x .nils],rfl,by simp only[go_sem];rfl,?_,⟨1,0,Nat.lt_succ_self 0,rfl⟩,?_,?_⟩⟩
    .rw[ht.out];exact GY (es:=[]) (l:=[]) ⟨rfl,by simp,by simp⟩ (.inl ⟨h0,rfl⟩) (by simp[AE])
    .simp[Db,AE]
    .intro id hu;rw[BA,AM (by rintro rfl;rw[G3]at hu;cases hu)];rfl
   .simp only[Jv,if_neg h0,Bx]at hx;have fa:=Gi h0
    (repeat' (first|simp only[go_sem, *,Ff,EP]|(refine sx ?_ ?_<;>intro hc)|refine sy (by omega) fun x hx hm=>?_|simp(disch:=first|assumption|omega) only[wrap_id,AF,AC,slice_int]))
    refine IH.out ((_,_),_) ⟨.inr ⟨by omega,1::0::k::ρ,[Bx x (.osl (1::1::k::ρ) 0 x.queue.length)],rfl,by simp only[go_sem];rfl,?_,⟨1,0,Nat.succ_pos 1,rfl⟩,?_,?_⟩⟩
    .rw[ht.out];refine GY (es:=[]) (l:=[]) ⟨rfl,by simp,by simp⟩ (.inr ⟨h0,_,rfl,?_⟩) (by simp[AE]);simp only[go_sem]
    .intro id hid;simp[Db,AE]at hid;subst hid;exact⟨1,1,Nat.lt_succ_self 1,rfl⟩
    .intro id hu;rw[BA,AM (by rintro rfl;rw[G3]at hu;cases hu),if_neg (by simp),BA,AM (by rintro rfl;rw[G3]at hu;cases hu)];rfl
  .clear hv;obtain rfl:=hE.val;have hA:=hE.arr;have hes:=hE.rep.len;have hti:(l.take i).length=i:=by simp;omega
   have hrep:=hE.rep;have hid:=hE.ids;have fr: ∀id,Ga (k::ρ) b id→id≠A→AA (Id.is (0::(b+3)::k::ρ) id=false∧Id.is (1::(b+9)::k::ρ) id=false∧Id.is (1::(b+10)::k::ρ) id=false∧Id.is (0::0::(b+8)::k::ρ) id=false∧Id.is (0::1::(b+8)::k::ρ) id=false∧Id.is (1::0::2::10::(b+8)::k::ρ) id=false∧Id.is A id=false):=fun id h hne=>⟨(Ir h 0 (b+3) (by omega)).1,(Ir h 1 (b+9) (by omega)).1,(Ir h 1 (b+10) (by omega)).1,(Ft h [0,0,b+8] (by simp)).1,(Ft h [0,1,b+8] (by simp)).1,(Ft h [1,0,2,10,b+8] (by simp)).1,AM fun e=>hne e.symm⟩;have hneA: ∀id∈es.flatMap An,id≠A:=fun id h e=>by
    obtain⟨q,hq⟩:=IK hrep h;rw[e,hA]at hq;cases hq
   have hX:1::0::2::10::(b+8)::k::ρ∉es.flatMap An:=fun h=>by
    obtain⟨t,j,_,e⟩:=hid _ h;have:=congrArg List.length e;simp at this;omega
   obtain⟨m1,m2⟩:=Ir hE.a 0 (b+3) (by omega);obtain⟨m3,m4⟩:=Ir hE.a 1 (b+9) (by omega);obtain⟨m5,m6⟩:=Ft hE.a [0,0,b+8] (by simp);obtain⟨m7,m8⟩:=Ft hE.a [0,1,b+8] (by simp);obtain⟨m9,m10⟩:=Ft hE.a [1,0,2,10,b+8] (by simp);simp only[List.cons_append,List.nil_append]at m5 m6 m7 m8 m9 m10;rw[hti]at hes;have tke:es.take i=es:=List.take_of_length_le (by omega);replace hE:=AA.mk hE;replace hrep:=AA.mk hrep;replace hid:=AA.mk hid;replace hneA:=AA.mk hneA;replace fr:=AA.mk fr;replace hX:=AA.mk hX;have nle: ¬i+1≤i:=by omega
   have lm:i+1≤Ay:=by unfold Ay;omega
   by_cases h0:x.queue.length=0
   .simp only[Jv,if_pos h0,Bx]at hx
    (repeat' (first|simp only[go_sem, *,Ff]|(refine sx ?_ ?_<;>intro hc)|refine sy (by omega) fun x hx hm=>?_|simp(disch:=first|assumption|omega) only[wrap_id,AF,AC,slice_int]))
    refine MK (B:=1::(b+10)::k::ρ) (i:=i+1) (es:=es++[Bx x .nils]) ?_ ?_ ?_ ?_ (fun v g b A es hE2=>IH.out ((v,g),b) ⟨.inr ⟨by omega,A,es,hE2⟩⟩)
    .simp only[go_sem];rfl
    .simp only[go_sem];rfl
    .rw[ht.out];refine GY (HP hrep.out fun id h=>?_) (.inl ⟨h0,rfl⟩) (by simp[AE]);obtain⟨f1,f2,f3,f4,f5,f6,f7⟩:=(fr.out id (hid.out id h) (hneA.out id h)).out;simp only[go_sem,f1,f2,f3,f4,f5,f6,f7,Bool.false_eq_true]
    .simp;omega
   .simp only[Jv,if_neg h0,Bx]at hx;have fa:=Gi h0
    (repeat' (first|simp only[go_sem, *,Ff]|(refine sx ?_ ?_<;>intro hc)|refine sy (by omega) fun x hx hm=>?_|simp(disch:=first|assumption|omega) only[wrap_id,AF,AC,slice_int]))
    refine MK (B:=1::(b+10)::k::ρ) (i:=i+1) (es:=es++[Bx x (.osl (1::0::2::10::(b+8)::k::ρ) 0 x.queue.length)]) ?_ ?_ ?_ ?_ (fun v g b A es hE2=>IH.out ((v,g),b) ⟨.inr ⟨by omega,A,es,hE2⟩⟩)
    .simp only[go_sem];rfl
    .simp only[go_sem];rfl
    .rw[ht.out];refine GY (HP hrep.out fun id h=>?_) (.inr ⟨h0,_,rfl,?_⟩) (by simp only[AE,List.mem_singleton];rintro id rfl;exact hX.out)
     .obtain⟨f1,f2,f3,f4,f5,f6,f7⟩:=(fr.out id (hid.out id h) (hneA.out id h)).out;simp only[go_sem,f1,f2,f3,f4,f5,f6,f7,Bool.false_eq_true]
     .simp only[go_sem]
    .simp;omega
 .rintro i ⟨⟨v,g⟩,b⟩ hi him hv;dsimp only at*;rcases hv.out with⟨rfl,he⟩|⟨hi0,A,es,hE⟩
  .cases he;have him0: ¬(0:Int)<l.length:=him;have hl0:=AA.mk hi.out.symm;clear hv
   (repeat' (first|simp only[go_sem, *,EP]|(refine sx ?_ ?_<;>intro hc)|refine sy (by omega) fun x hx hm=>?_|simp(disch:=first|assumption|omega) only[wrap_id,AF,AC,slice_int]))
   exact .inl ⟨hl0.out,rfl⟩
  .clear hv;have hii:=AA.mk hi.out;obtain rfl:=hE.val;replace hE:=AA.mk hE
   (repeat' (first|simp only[go_sem, *]|(refine sx ?_ ?_<;>intro hc)|refine sy (by omega) fun x hx hm=>?_|simp(disch:=first|assumption|omega) only[wrap_id,AF,AC,slice_int]))
   obtain rfl:=hii.out;exact .inr ⟨by omega,_,_,b,A,es,rfl,hE.out⟩
end Go.Proofs
namespace Go.Proofs
open Go Go.Abs
set_option maxRecDepth 100000
set_option maxHeartbeats 4000000
structure Bz.Fits(s:Bz):Prop where
 spots:s.spots.length≤1000000
 groups:s.groups.length≤1000000
 chans:s.chans.length≤60
 waits:s.waits.length≤1000000
 group: ∀x∈s.groups,x.env.length≤1000000
 chan: ∀x∈s.chans,x.queue.length≤1000000∧ ∀y∈x.queue,y.length≤1000000
 wait: ∀x∈s.waits,x.env.length≤1000000
structure gh(π:List Nat)(s:Bz)(v1 v2 v3 v4:AV)(rows:List (List AV))(g:AB):Prop where
 s0:Nl g 2 v1 (s.spots.map AX)
 s1:Nl g 3 v2 (s.groups.map Aa)
 s2:Nl g 3 v4 (s.waits.map A3)
 arr:qR g v3 rows
 chans:p9 g rows s.chans
 qd:(rows.flatMap An).Nodup
 gw: ∀id∈AE v2,id∉AE v4
 ids: ∀id,id∈AE v1∨id∈AE v2∨id∈AE v4∨id∈AE v3∨id∈rows.flatMap An→Id.under π id=true
 own: ∀id,Id.under π id=false→g.get id=none
def dZ(π:List Nat)(s:Bz)(r:AQ×AB):Prop:= ∃v1 v2 v3 v4 rows g,r=(.ret (.agg [v1,v2,v3,v4]),g)∧gh π s v1 v2 v3 v4 rows g
theorem Jx{α:Type}{f:α→List AN}{g:AB}{sz:Nat}{l:List α}(h:l.length=0):Nl g sz .nils (l.map f):=.inl ⟨rfl,by rw[List.eq_nil_of_length_eq_zero h];rfl⟩
theorem Jq{α:Type}{f:α→List AN}{g:AB}{sz:Nat}{l:List α}{id:Abs.Id}(h:g.get id=some (.darr sz (l.map f))):Nl g sz (.osl id 0 l.length) (l.map f):=GH [] (by simp) (by rw[List.append_nil];exact h)
theorem ct(a b c:Nat)(π:List Nat):Id.under π (a::b::c::π)=true:=under_iff.2 ⟨[a,b,c],rfl⟩
theorem Ew(i t j:Nat)(π:List Nat)(h:i≠j):Id.under (i::π) (t::j::π)=false:=C6 fun hs=>by
 rcases List.suffix_cons_iff.1 hs with e|hs
 .have:=congrArg List.length e;simp at this
 rcases List.suffix_cons_iff.1 hs with e|hs
 .simp only[List.cons.injEq,and_true]at e;exact h e
 .have:=hs.length_le;simp at this;omega
theorem GI(i a t j:Nat)(π:List Nat)(h:i≠j):Id.under (i::π) (a::t::j::π)=false:=C6 fun hs=>by
 rcases List.suffix_cons_iff.1 hs with e|hs
 .have:=congrArg List.length e;simp at this
 have:=Ew i t j π h;rw[under_iff.2 hs]at this;cases this
theorem TD: ∀{g:AB} {x:Abs.Id},x∈g.map (fun x=>x.1)→g.get x≠none
 |(k,o)::g,x,hx=>by
  rw[BA];split
  .simp
  .rename_i hk;rw[List.map_cons,List.mem_cons]at hx;rcases hx with rfl|hx
   .exact absurd (is_self _) hk
   .exact TD hx
theorem kJ{g:AB}{id:Abs.Id}(h:g.get id=none):((g.map fun x=>x.1).all fun x=> !Id.is x id)=true:=by
 rw[List.all_eq_true];intro x hx;rw[AM]
 .rfl
 .rintro rfl;exact TD hx h
theorem oI{g:AB}{es:List (List AV)}{l:List Je}(h:EW g es l):p9 g es l:=by
 refine⟨h.len,fun j q hq=>?_⟩;obtain⟨v,h1,h2⟩:=h.row j q hq;refine⟨v,h1,?_⟩;rcases h2 with⟨h3,rfl⟩|⟨h3,id,rfl,h4⟩
 .exact Jx h3
 .exact Jq h4
theorem Y7(s:Bz)(h:s.Fits)(k:Nat)(ρ:List Nat): ∃r,Au (KL Tryz.prog cfg) 92 [.agg [.d (.lst (s.spots.map AX)),.d (.lst (s.groups.map Aa)),.d (.lst (s.chans.map Bp)),.d (.lst (s.waits.map A3))]] (k::ρ)=.ok r∧dZ (k::ρ) s r:=by
 have h1:=fG 149 rfl s.spots (fun x _=>Qv x) h.spots 4 (k::ρ);have h2:=Xc 151 rfl s.groups (fun x hx=>NN x (h.group x hx)) h.groups 7 (k::ρ);obtain⟨r,h3,hp⟩:=iy s.chans h.chans h.chan 10 (k::ρ);have h4:=c9 157 rfl s.waits (fun x hx=>OB x (h.wait x hx)) h.waits 13 (k::ρ);replace h:=AA.mk h;rcases hp with⟨z3,rfl⟩|⟨z3,v,g,b,A,es,rfl,hE⟩
 .by_cases z1:s.spots.length=0;all_goals by_cases z2:s.groups.length=0
  all_goals by_cases z4:s.waits.length=0
  all_goals
   simp only[F1,z1,z2,z4,↓reduceIte]at h1 h2 h4
   (refine EB rfl Tryz.func92 rfl rfl rfl ?_;show Wp _ _ _ _ (Tryz.f92.body.get rfl) _ _;simp only[Tryz.f92,Option.get_some])
   (repeat' (first|simp only[go_sem, *,Ka,JK,KZ,ne_eq,not_false_eq_true]|(refine sx ?_ ?_<;>intro hc)|refine sy (by omega) fun x hx hm=>?_|simp(disch:=first|assumption|omega) only[wrap_id,AF,AC,slice_int]))
   refine⟨_,_,_,_,[],_,rfl,?_,?_,?_,.inl ⟨rfl,rfl⟩,⟨z3.symm,fun j q hq=>by rw[List.eq_nil_of_length_eq_zero z3]at hq;cases hq⟩,List.nodup_nil,?_,fun id hid=>?_,fun id hu=>?_⟩
   .first
    |exact Jx z1
    |(refine Jq ?_;simp only[go_sem];done)
   .first
    |exact Jx z2
    |(refine Jq ?_;simp only[go_sem];done)
   .first
    |exact Jx z4
    |(refine Jq ?_;simp only[go_sem];done)
   .simp[AE]
   .simp only[AE,List.mem_singleton,List.not_mem_nil,List.flatMap_nil,or_false,false_or]at hid
    repeat' (rcases hid with hid|hid)
    all_goals exact ct _ _ _ _
   .have a1:=AI hu;have a2:=AI (AD hu 4);have a3:=AI (AD hu 7);have a4:=AI (AD hu 13);simp only[go_sem,a1,a2,a3,a4,Bool.false_eq_true]
 .obtain rfl:=hE.val;have hgA:=hE.arr;have n00:=hE.own _ (Ew 10 0 0 (k::ρ) (by decide));have n01:=hE.own _ (Ew 10 0 1 (k::ρ) (by decide));have g00: ∀L,AB.get (g++L) (0::0::k::ρ)=AB.get L (0::0::k::ρ):=fun L=>A2 n00;have g01: ∀L,AB.get (g++L) (0::1::k::ρ)=AB.get L (0::1::k::ρ):=fun L=>A2 n01;have g04: ∀L,AB.get (g++L) (1::0::4::k::ρ)=AB.get L (1::0::4::k::ρ):=fun L=>A2 (hE.own _ (GI _ _ _ _ _ (by decide)));have g07: ∀L,AB.get (g++L) (1::0::7::k::ρ)=AB.get L (1::0::7::k::ρ):=fun L=>A2 (hE.own _ (GI _ _ _ _ _ (by decide)));have g13: ∀L,AB.get (g++L) (1::0::13::k::ρ)=AB.get L (1::0::13::k::ρ):=fun L=>A2 (hE.own _ (GI _ _ _ _ _ (by decide)));have gal:=kJ n00;have hrep:=hE.rep;rw[List.take_length]at hrep;have hlr:=AA.mk hrep.len;have n13:g.get (1::0::13::k::ρ)=none:=hE.own _ (GI _ _ _ _ _ (by decide));have nis: ∀{x y:Abs.Id} {o:Abs.Obj},g.get x=none→g.get y=some o→Id.is x y=false:=fun h1 h2=>AM fun e=>by rw[e,h2]at h1;cases h1
  have hgA2:AA (Id.is (0::1::k::ρ) A=false∧Id.is (1::0::13::k::ρ) A=false∧ ∀L,AB.get (g++L) A=some (.arr 4 es)):=⟨nis n01 hgA,nis n13 hgA,fun L=>B6 hgA⟩;have hgE:AA (∀id∈es.flatMap An,Id.is (0::1::k::ρ) id=false∧Id.is (1::0::13::k::ρ) id=false∧ ∀L,AB.get (g++L) id=AB.get g id):=⟨fun id hid=>by
   obtain⟨q,hq⟩:=IK hrep hid;exact⟨nis n01 hq,nis n13 hq,fun L=>by rw[hq];exact B6 hq⟩⟩
  clear n13 nis;replace hrep:=AA.mk hrep;have hA10:AA (Id.under (k::ρ) A=true):=⟨by obtain⟨t,j,_,rfl⟩:=hE.a;exact under_iff.2 ⟨[t,j,10],rfl⟩⟩;have hE10:AA (∀id∈es.flatMap An,Id.under (k::ρ) id=true):=⟨fun id hid=>by obtain⟨t,j,_,rfl⟩:=hE.ids id hid;exact under_iff.2 ⟨[t,j,10],rfl⟩⟩;replace hE:=AA.mk hE;have f3: ∀o m,A6 (.osl A o m) g=none:=fun o m=>by simp only[A6,hgA]
  by_cases z1:s.spots.length=0;all_goals by_cases z2:s.groups.length=0
  all_goals by_cases z4:s.waits.length=0
  all_goals
   simp only[F1,z1,z2,z4,↓reduceIte]at h1 h2 h4
   (refine EB rfl Tryz.func92 rfl rfl rfl ?_;show Wp _ _ _ _ (Tryz.f92.body.get rfl) _ _;simp only[Tryz.f92,Option.get_some])
   (repeat' (first|simp only[go_sem, *,Ka,JK,KZ,ne_eq,not_false_eq_true]|(refine sx ?_ ?_<;>intro hc)|refine sy (by omega) fun x hx hm=>?_|simp(disch:=first|assumption|omega) only[wrap_id,AF,AC,slice_int]))
   refine⟨_,_,_,_,es,_,rfl,?_,?_,?_,.inr ⟨A,?_,?_⟩,oI (HP hrep.out fun id hid=>?_),hrep.out.diff,?_,fun id hid=>?_,fun id hu=>?_⟩
   .first
    |exact Jx z1
    |(refine Jq ?_;simp only[go_sem,g04,g07,g13];done)
   .first
    |exact Jx z2
    |(refine Jq ?_;simp only[go_sem,g04,g07,g13];done)
   .first
    |exact Jx z4
    |(refine Jq ?_;simp only[go_sem,g04,g07,g13];done)
   .rw[hlr.out]
   .obtain⟨q1,q2,q3⟩:=hgA2.out;simp only[go_sem,q1,q2,q3,Bool.false_eq_true]
   .obtain⟨q1,q2,q3⟩:=hgE.out id hid;simp only[go_sem,q1,q2,q3,Bool.false_eq_true]
   .simp[AE]
   .simp only[AE,List.mem_singleton,List.not_mem_nil,or_false,false_or]at hid
    repeat' (rcases hid with hid|hid)
    all_goals first
    |exact ct _ _ _ _
    |exact hA10.out
    |exact hE10.out _ hid
   .have a1:=AI hu;have a2:=AI (AD hu 4);have a3:=AI (AD hu 7);have a4:=AI (AD hu 13);have a5: ∀L,AB.get (g++L) id=AB.get L id:=fun L=>A2 (hE.out.own id (AD hu 10));simp only[go_sem,a1,a2,a3,a4,a5,Bool.false_eq_true]
end Go.Proofs
namespace Go.Proofs
open Go Go.Abs
theorem O1{p:AL}{s:Bz}{d:Ba}{g:Ae}{i c:Nat}: ∀{l:List Hy} {j:Nat},Co p s d g i c j l=true→ ∀(t:Nat) (ch:Hy),l[t]? =some ch→Hp p s d g i (j+t) (c+(j+t)) ch=true
 |x::l,j,h,t,ch,ht=>by
  rw[Co,Bool.and_eq_true]at h;cases t with
  |zero=>
   simp only[List.getElem?_cons_zero,Option.some.injEq]at ht;subst ht;exact h.1
  |succ t=>
   rw[List.getElem?_cons_succ]at ht;have:=O1 h.2 t ch ht
   rwa [show j+1+t=j+(t+1) by omega]at this
theorem Mu{p:AL}{sizes:List Int}(hF:Dz p sizes){s:Bz}: ∀(l:List Ae) (i c k:Nat),BK p (A4 p sizes) s i c k l=true→
 (∀g∈l,g.env.length≤10000)∧ ∀a,c≤a→a<s.chans.length→ ∃q g d ch i j,s.chans[a]? =some q∧KI p s d g i j q ch=true∧ch.many≤3
 |[],i,c,k,h=>by
  rw[BK,Bool.and_eq_true,decide_eq_true_eq]at h;exact⟨fun g hg=>(by cases hg),fun a h1 h2=>by omega⟩
 |g::l,i,c,k,h=>by
  rw[BK]at h;cases hd:p.def? g.def_ with
  |none=>rw[hd]at h;cases h
  |some d=>
   rw[hd]at h;simp only[Bool.and_eq_true]at h;obtain⟨h1,h2⟩:=h;obtain⟨i1,i2⟩:=Mu hF l _ _ _ h2;rw[AL.def?]at hd;split at hd
   .rename_i h0;have hdf:=C4 hF hd;rw[GV]at h1;simp only[Bool.and_eq_true,decide_eq_true_eq]at h1;obtain⟨_,hl,_,_,hch⟩:=h1;obtain⟨_,_,s0,_,_,_,_,q0,q1,q2,_⟩:=hdf.node;rw[q2]at hl;have hown:=Jh hdf.ok;simp only[Option.getD_some]at hl;refine⟨fun y hy=>?_,fun a ha hb=>?_⟩
    .rcases List.mem_cons.1 hy with rfl|hy
     .omega
     .exact i1 y hy
    .by_cases hac:a<c+d.chans.length
     .obtain⟨ch,hch2⟩:=get_some (l:=d.chans) (i:=a-c) (by omega);have:=O1 hch (a-c) ch hch2;rw[show c+(0+(a-c))=a by omega,Hp]at this;cases hq:s.chans[a]? with
      |none=>rw[hq]at this;cases this
      |some q=>
       rw[hq]at this;exact⟨q,g,d,ch,_,_,rfl,this,(hdf.ok.chan ch (List.mem_of_getElem? hch2)).2.2.2⟩
     .exact i2 a (by omega) hb
   .cases hd
theorem VH{p:AL}{st:Aw}(hlk:looks p=some st){s:Bz}(h:CX p st.sizes s=true):s.Fits:=by
 have hF:=Bo hlk;simp only[CX,Bz.small,Bool.and_eq_true,decide_eq_true_eq]at h;obtain⟨⟨a1,a2,a3,a4⟩,_,_,hg,hw⟩:=h;obtain⟨g1,g2⟩:=Mu hF _ _ _ _ hg;refine⟨by omega,by omega,a3,by omega,fun x hx=>by have:=g1 x hx;omega,fun x hx=>?_,fun x hx=>?_⟩
 .obtain⟨a,ha⟩:=List.getElem?_of_mem hx;have hal:=(List.getElem?_eq_some_iff.1 ha).1;obtain⟨q,g,d,ch,i,j,hq,hok,hm⟩:=g2 a (by omega) hal;rw[ha]at hq;cases hq;simp only[KI,Bool.and_eq_true,decide_eq_true_eq,List.all_eq_true]at hok;obtain⟨_,_,_,h12,_,hall⟩:=hok;refine⟨by omega,fun y hy=>?_⟩;have:=hall y hy;simp only[FI,Bool.and_eq_true,decide_eq_true_eq]at this;omega
 .have:=List.all_eq_true.1 hw x hx;simp only[CY,Bool.and_eq_true,decide_eq_true_eq]at this;obtain⟨_,_,_,hn,hl,_⟩:=this;cases hxn:p.nodes[x.node.toNat]? with
  |none=>rw[hxn]at hn;cases hn
  |some y=>
   obtain⟨v,_,hv,v0,v1,_⟩:=hF.node _ y hxn;rw[hv]at hl;simp only[Option.getD_some]at hl;omega
end Go.Proofs
namespace Go.Proofs
open Go Go.Abs
def FU(p:AL)(l:List Ae):Nat×Nat:=l.foldl (fun a g=>match p.def? g.def_ with|some d=>(a.1+d.chans.length,a.2+d.spots.length)|none=>a) (0,1)
structure IP(p:AL)(sz:List Int)(s:Bz)(i:Nat)(g:Ae)(d:Ba):Prop where
 def_:p.def? g.def_=some d
 at_:Fe s.spots g.at_
 len:(g.env.length:Int)=((A4 p sz)[g.def_.toNat]?).getD 0
 vals:g.env.all (DU.inB p s.chans.length s.spots.length)=true
 mine:CF d (FU p (s.groups.take i)).1 (FU p (s.groups.take i)).2 g=true
 chans: ∀(j:Nat) ch,d.chans[j]? =some ch→ ∃q,s.chans[(FU p (s.groups.take i)).1+j]? =some q∧q.group=i∧q.index=j∧q.at_=g.place d ch.at_
structure tI(p:AL)(s:Bz)(q:Je):Prop where
 len:q.queue.length≤12
 dead:q.queue.length=0∨A5 s.spots q.at_=false
 msgs: ∀m∈q.queue,FI p s.chans.length s.spots.length (U6 p s q) m=true
structure TT(p:AL)(sz:List Int)(s:Bz):Prop where
 small:s.small=true
 tree:Mz s.spots
 dead: ∀(i:Nat) x,1≤i→s.spots[i]? =some x→x.dead=true∨A5 s.spots x.in_=false
 grp: ∀(i:Nat) g,s.groups[i]? =some g→ ∃d,IP p sz s i g d
 tot:FU p s.groups=(s.chans.length,s.spots.length)
 que: ∀(c:Nat) q,s.chans[c]? =some q→tI p s q
 wait: ∀w∈s.waits,CY p sz s w=true
theorem Vj{l m:List Ck}:Du l m=true↔ ∀x∈m,x.dead=true∨A5 l x.in_=false:=by
 induction m with
 |nil=>simp[Du]
 |cons x m ih=>
  rw[Du,Bool.and_eq_true,ih];simp only[Bool.or_eq_true,Bool.not_eq_true',List.mem_cons,forall_eq_or_imp]
theorem aV(p:AL)(l:List Ae)(g:Ae){d:Ba}(h:p.def? g.def_=some d):FU p (l++[g])=((FU p l).1+d.chans.length,(FU p l).2+d.spots.length):=by
 unfold FU;rw[List.foldl_append];simp only[List.foldl_cons,List.foldl_nil,h]
theorem PC{p:AL}{l:List Ae}{i:Nat}{g:Ae}{d:Ba}(hg:l[i]? =some g)(h:p.def? g.def_=some d):FU p (l.take (i+1))=((FU p (l.take i)).1+d.chans.length,(FU p (l.take i)).2+d.spots.length):=by
 rw[List.take_add_one,hg];exact aV p _ g h
theorem NY{p:AL}{s:Bz}{d:Ba}{g:Ae}{i c:Nat}: ∀{l:List Hy} {j:Nat},Co p s d g i c j l=true↔ ∀(t:Nat) ch,l[t]? =some ch→Hp p s d g i (j+t) (c+(j+t)) ch=true
 |[],j=>by simp[Co]
 |x::l,j=>by
  rw[Co,Bool.and_eq_true,NY (j:=j+1)];constructor
  .rintro⟨h1,h2⟩ t ch ht;cases t with
   |zero=>
    simp only[List.getElem?_cons_zero,Option.some.injEq]at ht;subst ht;exact h1
   |succ t=>
    rw[List.getElem?_cons_succ]at ht;have:=h2 t ch ht
    rwa [show j+1+t=j+(t+1) by omega]at this
  .intro h;refine⟨h 0 x rfl,fun t ch ht=>?_⟩;have:=h (t+1) ch (by rw[List.getElem?_cons_succ];exact ht)
   rwa [show j+(t+1)=j+1+t by omega]at this
theorem RU{p:AL}{sz:List Int}{s:Bz}: ∀{l:List Ae} {i:Nat},s.groups.drop i=l→i≤s.groups.length→
 (BK p (A4 p sz) s i (FU p (s.groups.take i)).1 (FU p (s.groups.take i)).2 l=true↔FU p s.groups=(s.chans.length,s.spots.length)∧ ∀(k:Nat) g,i≤k→s.groups[k]? =some g→ ∃d,p.def? g.def_=some d∧GV p (A4 p sz) s k (FU p (s.groups.take k)).1 (FU p (s.groups.take k)).2 g d=true)
 |[],i,hd,hi=>by
  have hil:s.groups.length≤i:=by
   have:=congrArg List.length hd;simp at this;omega
  rw[BK,Bool.and_eq_true,decide_eq_true_eq,decide_eq_true_eq,List.take_of_length_le hil];constructor
  .rintro⟨h1,h2⟩;exact⟨by rw[←h1,←h2],fun k g hk hg=>by have:=AK hg;omega⟩
  .rintro⟨h,_⟩;rw[h];exact⟨rfl,rfl⟩
 |g::l,i,hd,hi=>by
  have hg:s.groups[i]? =some g:=by
   have:=congrArg (fun l=>l[0]?) hd;simpa using this
  have hil:=AK hg;have hd2:s.groups.drop (i+1)=l:=by
   rw[AJ hg]at hd;exact(List.cons.inj hd).2
  rw[BK];cases hdf:p.def? g.def_ with
  |none=>
   simp only[Bool.false_eq_true,false_iff];rintro⟨_,h⟩;obtain⟨d,h1,_⟩:=h i g (Nat.le_refl _) hg;rw[hdf]at h1;cases h1
  |some d=>
   have ih:=RU (p:=p) (sz:=sz) (s:=s) hd2 hil;rw[PC hg hdf]at ih;simp only[Bool.and_eq_true,ih];constructor
   .rintro⟨h1,h2,h3⟩;refine⟨h2,fun k g2 hk hg2=>?_⟩;by_cases hki:k=i
    .subst hki;rw[hg]at hg2;cases hg2;exact⟨d,hdf,h1⟩
    .exact h3 k g2 (by omega) hg2
   .rintro⟨h1,h2⟩;obtain⟨d2,h3,h4⟩:=h2 i g (Nat.le_refl _) hg;rw[hdf]at h3;cases h3;exact⟨h4,h1,fun k g2 hk hg2=>h2 k g2 (by omega) hg2⟩
theorem lJ{p:AL}{s:Bz}{i j:Nat}{g:Ae}{d:Ba}{ch:Hy}{q:Je}(hg:s.groups[i]? =some g)(hd:p.def? g.def_=some d)(hc:d.chans[j]? =some ch)(h1:q.group=i)(h2:q.index=j):U6 p s q=ch.many:=by
 have hd2:p.defs[g.def_.toNat]? =some d:=by
  rw[AL.def?]at hd;split at hd
  .exact hd
  .cases hd
 simp[U6,h1,h2,hg,hd2,hc]
theorem I3{p:AL}{n:Int}{d:Ba}(h:p.def? n=some d):0≤n∧p.defs[n.toNat]? =some d:=by
 rw[AL.def?]at h;split at h
 .exact⟨by assumption,h⟩
 .cases h
theorem WZ{p:AL}{sz:List Int}{s:Bz}(hg: ∀(i:Nat) g,s.groups[i]? =some g→ ∃d,IP p sz s i g d): ∀(n:Nat),n≤s.groups.length→ ∀c,c<(FU p (s.groups.take n)).1→ ∃i g d j ch,i<n∧s.groups[i]? =some g∧IP p sz s i g d∧d.chans[j]? =some ch∧c=(FU p (s.groups.take i)).1+j
 |0,_,c,h=>by simp[FU]at h
 |n+1,hn,c,h=>by
  obtain⟨g,hgn⟩:=get_some (l:=s.groups) (i:=n) (by omega);obtain⟨d,hd⟩:=hg n g hgn;rw[PC hgn hd.def_]at h;by_cases hc:c<(FU p (s.groups.take n)).1
  .obtain⟨i,g,d,j,ch,h1,h2⟩:=WZ hg n (by omega) c hc;exact⟨i,g,d,j,ch,by omega,h2⟩
  .obtain⟨ch,hch⟩:=get_some (l:=d.chans) (i:=c-(FU p (s.groups.take n)).1) (by dsimp only at h;omega);exact⟨n,g,d,_,ch,by omega,hgn,hd,hch,by omega⟩
structure qw(p:AL)(sz:List Int)(s:Bz)(c:Nat)(q:Je)(i j:Nat)(g:Ae)(d:Ba)(ch:Hy):Prop where
 grp:s.groups[i]? =some g
 st:IP p sz s i g d
 cha:d.chans[j]? =some ch
 at_:c=(FU p (s.groups.take i)).1+j
 group:q.group=i
 index:q.index=j
 place:q.at_=g.place d ch.at_
theorem TT.chn{p:AL}{sz:List Int}{s:Bz}(hg: ∀(i:Nat) g,s.groups[i]? =some g→ ∃d,IP p sz s i g d)(ht:FU p s.groups=(s.chans.length,s.spots.length)){c:Nat}{q:Je}(hq:s.chans[c]? =some q): ∃i j g d ch,qw p sz s c q i j g d ch:=by
 obtain⟨i,g,d,j,ch,h1,h2,h3,h4,h5⟩:=WZ hg s.groups.length (Nat.le_refl _) c (by rw[List.take_length,ht];exact AK hq);obtain⟨q2,h6,h7,h8,h9⟩:=h3.chans j ch h4;rw[←h5,hq]at h6;cases h6;exact⟨i,j,g,d,ch,h2,h3,h4,h5,h7,h8,h9⟩
theorem pR{p:AL}{sz:List Int}{s:Bz}(h:CX p sz s=true):TT p sz s:=by
 simp only[CX,Bool.and_eq_true]at h;obtain⟨h1,h2,h3,h4,h5⟩:=h;have h4:=(RU (p:=p) (sz:=sz) (s:=s) (l:=s.groups) (i:=0) rfl (by omega)).1 h4;have key: ∀(i:Nat) g,s.groups[i]? =some g→ ∃d,IP p sz s i g d∧ ∀(j:Nat) ch,d.chans[j]? =some ch→ ∃q,s.chans[(FU p (s.groups.take i)).1+j]? =some q∧KI p s d g i j q ch=true:=by
  intro i g hi;obtain⟨d,hd,hok⟩:=h4.2 i g (by omega) hi;simp only[GV,Bool.and_eq_true,decide_eq_true_eq]at hok;obtain⟨g1,g2,g3,g4,g5⟩:=hok;have g5:=NY.1 g5;have key: ∀(j:Nat) ch,d.chans[j]? =some ch→ ∃q,s.chans[(FU p (s.groups.take i)).1+j]? =some q∧KI p s d g i j q ch=true:=by
   intro j ch hj;have:=g5 j ch hj;rw[Nat.zero_add,Hp]at this;split at this
   .rename_i q hq;exact⟨q,hq,this⟩
   .cases this
  refine⟨d,⟨hd,g1,g2,g3,g4,fun j ch hj=>?_⟩,key⟩;obtain⟨q,hq,hok⟩:=key j ch hj;simp only[KI,Bool.and_eq_true,decide_eq_true_eq]at hok;exact⟨q,hq,hok.1,hok.2.1,hok.2.2.1⟩
 have hgrp: ∀(i:Nat) g,s.groups[i]? =some g→ ∃d,IP p sz s i g d:=fun i g hi=>by
  obtain⟨d,hd,_⟩:=key i g hi;exact⟨d,hd⟩
 refine⟨h1,MN h2,fun i x hi hx=>Vj.1 h3 x ?_,hgrp,h4.1,fun c q hq=>?_,List.all_eq_true.1 h5⟩
 .rw[List.mem_iff_getElem?];exact⟨i-1,by rw[List.getElem?_drop,show 1+(i-1)=i by omega];exact hx⟩
 .obtain⟨i,j,g,d,ch,hc⟩:=TT.chn hgrp h4.1 hq;obtain⟨d2,hd2,hk⟩:=key i g hc.grp;have:=hd2.def_;rw[hc.st.def_]at this;cases this;obtain⟨q2,hq2,hok⟩:=hk j ch hc.cha;rw[←hc.at_,hq]at hq2;cases hq2;simp only[KI,Bool.and_eq_true,decide_eq_true_eq,Bool.or_eq_true,Bool.not_eq_true',List.all_eq_true]at hok;exact⟨hok.2.2.2.1,hok.2.2.2.2.1,fun m hm=>by rw[lJ hc.grp hc.st.def_ hc.cha hc.group hc.index];exact hok.2.2.2.2.2 m hm⟩
end Go.Proofs
namespace Go.Proofs
open Go Go.Abs
structure qC(s s':Bz):Prop where
 sp: ∀(i:Nat) x,s.spots[i]? =some x→s'.spots[i]? =some x
 gr: ∀(i:Nat) g,s.groups[i]? =some g→s'.groups[i]? =some g
 ch: ∀(c:Nat) q,s.chans[c]? =some q→ ∃l,s'.chans[c]? =some {q with queue:=q.queue++l}
theorem PN{α β:Type}{a:List α}{b:List β}(h: ∀(i:Nat) x,a[i]? =some x→ ∃y,b[i]? =some y):a.length≤b.length:=by
 by_cases h0:a.length=0
 .omega
 .obtain⟨x,hx⟩:=get_some (l:=a) (i:=a.length-1) (by omega);obtain⟨y,hy⟩:=h _ x hx;have:=AK hy;omega
theorem qC.ns{s s':Bz}(h:qC s s'):s.spots.length≤s'.spots.length:=PN fun i x hx=>⟨_,h.sp i x hx⟩
theorem qC.nc{s s':Bz}(h:qC s s'):s.chans.length≤s'.chans.length:=PN fun i x hx=>by obtain⟨l,hl⟩:=h.ch i x hx;exact⟨_,hl⟩
theorem g8{p:AL}{nc ns nc' ns':Nat}{v:DU}(h1:nc≤nc')(h2:ns≤ns')(h:v.inB p nc ns=true):v.inB p nc' ns'=true:=by
 unfold DU.inB at*;split
 .rename_i hk;simpa[hk]using h
 .rename_i hk1;rw[if_neg hk1]at h;split
  .rename_i hk;simpa[hk]using h
  .rename_i hk2;rw[if_neg hk2]at h;split
   .rename_i hk;rw[if_pos hk]at h;simp only[Bool.and_eq_true,decide_eq_true_eq]at*;omega
   .rename_i hk3;rw[if_neg hk3]at h;split
    .rename_i hk;rw[if_pos hk]at h;simp only[Bool.and_eq_true,decide_eq_true_eq]at*;omega
    .rename_i hk4;rw[if_neg hk4]at h;exact h
theorem Pu{p:AL}{nc ns nc' ns':Nat}{l:List DU}(h1:nc≤nc')(h2:ns≤ns')(h:l.all (DU.inB p nc ns)=true):l.all (DU.inB p nc' ns')=true:=by
 rw[List.all_eq_true]at*;exact fun v hv=>g8 h1 h2 (h v hv)
theorem Rt{l l':List Ck}{i:Int}(h:l.length≤l'.length)(hi:Fe l i):Fe l' i:=⟨hi.1,by have:=hi.2;omega⟩
structure rI(p:AL)(sz:List Int)(s:Bz)(j:qL):Prop where
 n0:0≤j.node
 size:sz[j.node.toNat]? =some (j.env.length:Int)
 at_:Fe s.spots j.at_
 live:A5 s.spots j.at_=false
 vals:j.env.all (DU.inB p s.chans.length s.spots.length)=true
end Go.Proofs
namespace Go.Proofs
open Go Go.Abs
theorem Wh{l m:List Ck}{i:Int}(hi:Fe l i):Ct (l++m) i=Ct l i:=by
 have:=hi.1;have:=hi.2;rw[Ct,Ct,List.getElem?_append_left (by omega)]
theorem Ks{l m:List Ck}: ∀{k:Nat} {i:Int},Fe l i→A7 l k i=true→A7 (l++m) k i=true
 |0,i,hi,h=>h
 |k+1,i,hi,h=>by
  rw[A7]at h⊢;by_cases h0:i=0
  .simp[h0]
  .simp only[h0,decide_false,Bool.false_or,Bool.and_eq_true,decide_eq_true_eq]at h⊢;rw[Wh hi];exact⟨Rt (by simp) h.1,Ks h.1 h.2⟩
theorem M5: ∀{l:List M9} {i:Nat},CE i l=true→ ∀(t:Nat) y,l[t]? =some y→0≤y.in_∧y.in_≤((i+t:Nat):Int)
 |x::l,i,h,t,y,ht=>by
  rw[CE,Bool.and_eq_true,Bool.and_eq_true,decide_eq_true_eq,decide_eq_true_eq]at h;cases t with
  |zero=>
   simp only[List.getElem?_cons_zero,Option.some.injEq]at ht;subst ht;exact⟨h.1,by simpa using h.2.1⟩
  |succ t=>
   rw[List.getElem?_cons_succ]at ht;have:=M5 h.2.2 t y ht
   rwa [show i+1+t=i+(t+1) by omega]at this
structure Gn(p:AL)(sz:List Int)(s:Bz)(j:qL)(x:DZ)(d:Ba):Prop where
 sok:TT p sz s
 job:rI p sz s j
 node:p.nodes[j.node.toNat]? =some x
 op:x.op=4
 n0:0≤x.n
 def_:p.defs[x.n.toNat]? =some d
 ok:Nb d
 grp:((A4 p sz)[x.n.toNat]?)=some ((j.env.length:Int)+d.own)
 rules: ∀r∈d.rules,0≤r.node∧sz[r.node.toNat]? =some ((j.env.length:Int)+d.own+Bn d r.joins)
 spots: ∀y∈d.spots,0≤y.node∧sz[y.node.toNat]? =some ((j.env.length:Int)+d.own)
 kid: ∃k,x.kids=[k]∧0≤k∧sz[k.toNat]? =some ((j.env.length:Int)+d.own)
theorem L5{p:AL}{sz:List Int}{s:Bz}{i:Nat}{g:Ae}{d:Ba}(h:IP p sz s i g d):d.own≤g.env.length:=by
 have hm:=h.mine;rw[CF,decide_eq_true_eq]at hm;have:=congrArg List.length hm;rw[GB,List.length_drop]at this;omega
section
variable{p:AL}{sz:List Int}{s:Bz}{j:qL}{x:DZ}{d:Ba}
theorem Gn.env(h:Gn p sz s j x d):(Bl s d x.n j).env.length=j.env.length+d.own:=by simp[Bl,GB]
theorem Gn.mine(h:Gn p sz s j x d):CF d s.chans.length s.spots.length (Bl s d x.n j)=true:=by
 have e:j.env.length+d.own-d.chans.length-d.spots.length=j.env.length:=by unfold Ba.own;omega
 rw[CF,decide_eq_true_eq,h.env,e,Bl,List.drop_left]
theorem Gn.place(h:Gn p sz s j x d){n:Int}(h1:1≤n)(h2:n≤d.spots.length):(Bl s d x.n j).place d n=(s.spots.length:Int)+(n-1):=MP h.mine (by rw[h.env];omega) h1 h2
theorem MC(g:Ae)(d:Ba):g.place d 0=g.at_:=by simp[Ae.place]
theorem Km(d:Ba)(g:Ae)(l:List M9):(Dd d g l).length=l.length:=by simp[Dd]
theorem Gn.spot(h:Gn p sz s j x d){n:Int}(h1:0≤n)(h2:n≤d.spots.length):Fe (s.spots++Dd d (Bl s d x.n j) d.spots) ((Bl s d x.n j).place d n)∧A5 (s.spots++Dd d (Bl s d x.n j) d.spots) ((Bl s d x.n j).place d n)=false:=by
 by_cases h0:n=0
 .subst h0;rw[MC];have:=h.job.at_;refine⟨Rt (by simp) this,?_⟩;have hl:=h.job.live;have e:(Bl s d x.n j).at_=j.at_:=rfl;rw[e];rw[A5]at hl⊢;have a1:=this.1;have a2:=this.2;rw[List.getElem?_append_left (by omega)];exact hl
 .rw[h.place (by omega) h2];refine⟨⟨by omega,by simp[Km];omega⟩,?_⟩;rw[A5,List.getElem?_append_right (by omega),Dd,List.getElem?_map];cases d.spots[((s.spots.length:Int)+(n-1)).toNat-s.spots.length]? <;>rfl
theorem Gn.vals(h:Gn p sz s j x d):(Bl s d x.n j).env.all (DU.inB p (s.chans.length+d.chans.length) (s.spots.length+d.spots.length))=true:=by
 rw[Bl,List.all_append,Bool.and_eq_true];refine⟨Pu (by omega) (by omega) h.job.vals,?_⟩;rw[DN,List.all_append,Bool.and_eq_true];constructor
 .rw[List.all_eq_true];intro v hv;obtain⟨i,hi,rfl⟩:=List.mem_map.1 hv;have:=List.mem_range'_1.1 hi;simp only[DU.inB,Int.reduceEq,if_true,if_false,Bool.and_eq_true,decide_eq_true_eq];omega
 .rw[List.all_eq_true];intro v hv;obtain⟨i,hi,rfl⟩:=List.mem_map.1 hv;have:=List.mem_range'_1.1 hi;simp only[DU.inB,Int.reduceEq,if_true,if_false,Bool.and_eq_true,decide_eq_true_eq];omega
theorem Gn.tree(h:Gn p sz s j x d):Mz (s.spots++Dd d (Bl s d x.n j) d.spots):=by
 have hT:=h.sok.tree;refine⟨by simp;have:=hT.pos;omega,by rw[Wh ⟨by omega,by have:=hT.pos;omega⟩];exact hT.top,fun i hi=>?_⟩;have key: ∀(n t:Nat),t<n→t<d.spots.length→ ∃k,A7 (s.spots++Dd d (Bl s d x.n j) d.spots) k ((s.spots.length:Int)+t)=true:=by
  intro n;induction n with
  |zero=>intro t ht;omega
  |succ n ih=>
   intro t ht htd;obtain⟨y,hy⟩:=get_some htd;obtain⟨y0,y1⟩:=M5 h.ok.spot t y hy;have hpar:Ct (s.spots++Dd d (Bl s d x.n j) d.spots) ((s.spots.length:Int)+t)=(Bl s d x.n j).place d y.in_:=by
    rw[Ct,List.getElem?_append_right (by omega),Dd,List.getElem?_map,show((s.spots.length:Int)+t).toNat-s.spots.length=t by omega,hy];rfl
   have hin:=(h.spot (n:=y.in_) y0 (by omega)).1;have: ∃k,A7 (s.spots++Dd d (Bl s d x.n j) d.spots) k ((Bl s d x.n j).place d y.in_)=true:=by
    by_cases h0:y.in_=0
    .rw[h0,MC];exact⟨_,Ks h.job.at_ (hT.climbs _ h.job.at_)⟩
    .rw[h.place (by omega) (by omega)];have:=ih (y.in_-1).toNat (by omega) (by omega)
     rwa [show(((y.in_-1).toNat:Nat):Int)=y.in_-1 by omega]at this
   obtain⟨k,hk⟩:=this;refine⟨k+1,?_⟩;rw[A7,hpar,hk,decide_eq_true hin];simp
 by_cases hil:i<s.spots.length
 .have hi2:Fe s.spots i:=⟨hi.1,hil⟩;exact IE (by simp) (Ks hi2 (hT.climbs i hi2))
 .have hi1:=hi.1;have hi3:=hi.2;simp only[List.length_append,Km]at hi3;obtain⟨k,hk⟩:=key d.spots.length (i-s.spots.length).toNat (by omega) (by omega);rw[show(s.spots.length:Int)+((i-s.spots.length).toNat:Nat)=i by omega]at hk;exact IE (by omega) (LV hi hk)
theorem Gn.ext(h:Gn p sz s j x d):qC s (oe s d (Bl s d x.n j)):=by
 refine⟨fun i y hy=>?_,fun i y hy=>?_,fun i y hy=>⟨[],?_⟩⟩
 .show(s.spots++_)[i]? =_;rw[List.getElem?_append_left (AK hy)];exact hy
 .show(s.groups++_)[i]? =_;rw[List.getElem?_append_left (AK hy)];exact hy
 .show(s.chans++_)[i]? =_;rw[List.getElem?_append_left (AK hy)];simpa using hy
end
end Go.Proofs
namespace Go.Proofs
open Go Go.Abs
def nq(s:Bz)(e:cm):Prop:=e.deed=5∧Fe s.spots e.at_∧A5 s.spots e.at_=false
structure UE(p:AL)(sz:List Int)(st st':QL):Prop where
 sok:TT p sz st'.sol
 ext:qC st.sol st'.sol
 work:st.work≤st'.work
 top:st.work≤400→st'.work≤400
 evs: ∃l,st'.ev=st.ev++l∧(l.length:Int)≤st'.work-st.work∧ ∀e∈l,nq st'.sol e
theorem UE.ev{p:AL}{sz:List Int}{st st':QL}(h:UE p sz st st'):(st'.ev.length:Int)≤st.ev.length+(st'.work-st.work):=by
 obtain⟨l,h1,h2,_⟩:=h.evs;rw[h1,List.length_append];omega
section
variable{p:AL}{sz:List Int}{st:QL}{j:qL}{x:DZ}
end
end Go.Proofs
namespace Go.Proofs
open Go Go.Abs
theorem EN{π:List Nat}{n n':Nat}{id:Abs.Id}(h:Id.under (n::π) id=true)(h':Id.under (n'::π) id=true):n=n':=by
 rw[under_iff]at h h';have:=List.suffix_of_suffix_length_le h h' (by simp);have:=this.eq_of_length (by simp);simpa using this
structure Hv(p:AL)(sz:List Int)(π:List Nat)(m:Abs.Id)(V:MV)(h:AB)(b:Nat)(V':MV)(st:QL)(g:AB):Prop where
 rep:Jn p sz g m V' st
 ids: ∀id∈V'.ids m,id∈V.ids m∨ ∃n,n<b∧Id.under (n::π) id=true∧ ∃l,id=1::l
 frame: ∀id,id∉V.ids m→Id.under π id=false→g.get id=h.get id
section
variable{p:AL}{sz:List Int}{π:List Nat}{m:Abs.Id}{V V':MV}{h g H g1:AB}{b:Nat}{st:QL}
theorem jq{b':Nat}{id:Abs.Id}(hu:GM π V m)(hi:id∈V.ids m∨ ∃n,n<b∧Id.under (n::π) id=true∧ ∃l,id=1::l)(a n:Nat)(hn:b≤n):Id.is (a::n::π) id=false:=by
 rcases hi with hi|⟨k,hk,hk2,_⟩
 .exact AI (hu id hi) a n
 .refine AM fun e=>?_;subst e;have:=EN hk2 (n':=n) (under_iff.2 ⟨[a],rfl⟩);omega
theorem Hv.up(hr:Hv p sz π m V h b V' st g){b':Nat}(hb:b≤b'):Hv p sz π m V h b' V' st g:=
 ⟨hr.rep,fun id hid=>(hr.ids id hid).imp_right fun⟨n,h1,h2⟩=>⟨n,by omega,h2⟩,hr.frame⟩
theorem Hv.loc(hu:GM π V m)(hr:Hv p sz π m V h b V' st g)(hl: ∀id,(∀a n,b≤n→Id.is (a::n::π) id=false)→H.get id=g.get id):Hv p sz π m V h b V' st H:=
 ⟨EL hr.rep fun id hid=>hl id fun a n hn=>jq (b':=b) hu (hr.ids id hid) a n hn,hr.ids,fun id h1 h2=>by rw[hl id fun a n _=>AI h2 a n];exact hr.frame id h1 h2⟩
theorem Hv.apart(hu:GM π V m)(hr:Hv p sz π m V h b V' st g){n:Nat}(hn:b≤n):GM (n::π) V' m:=fun id hid=>by
 rcases hr.ids id hid with hh|⟨k,h1,h2,_⟩
 .exact AD (hu id hh) n
 .cases hx:Id.under (n::π) id with
  |false=>rfl
  |true=>
   have:=EN h2 hx;omega
theorem Hv.fin(hr:Hv p sz π m V h b V' st g):ee p sz π m V h (some st) (.ret (.tup [])) g:=
 ⟨rfl,V',hr.rep,fun id hid=>(hr.ids id hid).imp_right fun⟨n,_,h2,h3⟩=>⟨DY h2,h3⟩,hr.frame⟩
theorem Hv.call(hu:GM π V m)(hr:Hv p sz π m V h b V' st H){n:Nat}{st':QL}{o:AQ}(hn:b≤n)(ho:ee p sz (n::π) m V' H (some st') o g1): ∃V'',Hv p sz π m V h (n+1) V'' st' (gc (n::π) g1)∧ ∀id,id∉V'.ids m→Id.under (n::π) id=false→id∉V''.ids m:=by
 obtain⟨_,V'',hM,hK⟩:=ho;have hap:=hr.apart hu hn;refine⟨V'',⟨jQ hM hK hap,fun id hid=>?_,fun id h1 h2=>?_⟩,fun id h1 h2 h3=>?_⟩
 .rcases hK.ids id hid with hh|⟨h1,h2⟩
  .exact(hr.ids id hh).imp_right fun⟨k,a,c⟩=>⟨k,by omega,c⟩
  .exact .inr ⟨n,by omega,h1,h2⟩
 .rw[Aj _ _ _ (AD h2 n),hK.frame id (fun hh=>?_) (AD h2 n)]
  .exact hr.frame id h1 h2
  .rcases hr.ids id hh with hh|⟨k,_,h3,_⟩
   .exact h1 hh
   .rw[DY h3]at h2;cases h2
 .rcases hK.ids id h3 with hh|⟨hh,_⟩
  .exact h1 hh
  .rw[h2]at hh;cases hh
theorem Hv.pan(hu:GM π V m)(hr:Hv p sz π m V h b V' st H){n:Nat}{o:AQ}(hn:b≤n)(ho:ee p sz (n::π) m V' H none o g1):ee p sz π m V h none o (gc (n::π) g1):=by
 obtain⟨h1,h2⟩:=ho;refine⟨h1,fun id a c=>?_⟩;rw[Aj _ _ _ (AD c n),h2 id (fun hh=>?_) (AD c n)]
 .exact hr.frame id a c
 .rcases hr.ids id hh with hh|⟨k,_,h3,_⟩
  .exact a hh
  .rw[DY h3]at c;cases c
theorem ko(hr:Hv p sz π m V h b V' st H)(hu:GM π V m)(k:Nat):0::k::π∉V'.ids m:=fun hh=>by
 rcases hr.ids _ hh with hh|⟨_,_,_,l,e⟩
 .have:=hu _ hh;rw[show Id.under π (0::k::π)=true from under_iff.2 ⟨[0,k],rfl⟩]at this;cases this
 .cases e
theorem Bd{k n:Nat}(π:List Nat)(h:k≠n):Id.under (n::π) (0::k::π)=false:=by
 cases hx:Id.under (n::π) (0::k::π)with
 |false=>rfl
 |true=>
  have:=EN hx (n':=k) (under_iff.2 ⟨[0],rfl⟩);omega
theorem Hv.box(hu:GM π V m)(hr:Hv p sz π m V h b V' st H){n k:Nat}{r:Option QL}{o:AQ}(hk:k≠n)(ho:ee p sz (n::π) m V' H r o g1):(gc (n::π) g1).get (0::k::π)=H.get (0::k::π):=by
 have h1:=Bd π hk;rw[Aj _ _ _ h1];have h2:=ko hr hu k;cases r with
 |none=>exact ho.2 _ h2 h1
 |some st'=>
  obtain⟨_,V'',_,hK⟩:=ho;exact hK.frame _ h2 h1
end
structure nD(p:AL)(sz:List Int)(k:Nat)(st:QL):Prop where
 sok:TT p sz st.sol
 w0:0≤st.work
 w1:st.work≤400
 w2:401≤st.work+k
 ev:(st.ev.length:Int)≤900000+st.work
theorem nD.post{p:AL}{sz:List Int}{k:Nat}{st st':QL}(h:nD p sz k st)(hp:UE p sz st st'):nD p sz k st':=⟨hp.sok,by have:=hp.work;have:=h.w0;omega,hp.top h.w1,by have:=hp.work;have:=h.w2;omega,by have:=hp.ev;have:=h.ev;omega⟩
end Go.Proofs
namespace Go.Proofs
open Go Go.Abs
abbrev pA(p:AL):AV:=.agg [.d (.lst (p.free.map AY)),.d (.lst (p.nodes.map AP)),.d (.lst (p.defs.map Ab)),.d (.int .i64 p.main)]
abbrev sA(s:Bz):AV:=.agg [.d (.lst (s.spots.map AX)),.d (.lst (s.groups.map Aa)),.d (.lst (s.chans.map Bp)),.d (.lst (s.waits.map A3))]
structure M0(p:AL)(sz:List Int)(s:Bz)(w:Hs)(x:DZ):Prop where
 n0:0≤w.node
 node:p.nodes[w.node.toNat]? =some x
 op:x.op=6∨x.op=7∨x.op=8
 at_:Fe s.spots w.at_
 live:A5 s.spots w.at_=false
 size:sz[w.node.toNat]? =some (w.env.length:Int)
 len:w.env.length≤5000
 n: ¬x.op=7→0≤x.n∧x.n<w.env.length
 vals:w.env.all (DU.inB p s.chans.length s.spots.length)=true
theorem Wz{p:AL}{sz:List Int}{s:Bz}{w:Hs}(hF:Dz p sz)(h:CY p sz s w=true): ∃x,M0 p sz s w x:=by
 simp only[CY,Bool.and_eq_true,decide_eq_true_eq,Bool.not_eq_true']at h;obtain⟨h1,h2,h3,h4,h5,h6⟩:=h;cases hx:p.nodes[w.node.toNat]? with
 |none=>rw[hx]at h4;cases h4
 |some x=>
  rw[hx]at h4;simp only[Dk,Bool.or_eq_true,decide_eq_true_eq]at h4;obtain⟨v,l,h7,h8,h9,h10,_⟩:=hF.node _ x hx;rw[h7]at h5;have h5:(w.env.length:Int)=v:=h5;rw[←h5]at h7 h8 h9 h10;refine⟨x,h3,hx,h4,h1,h2,h7,by omega,fun ho=>?_,h6⟩;simp only[CL,Bool.and_eq_true]at h10;have h11:=h10.2.1;rw[QU,if_pos (by omega)]at h11;exact of_decide_eq_true h11
theorem M0.val{p:AL}{sz:List Int}{s:Bz}{w:Hs}{x:DZ}(h:M0 p sz s w x)(ho: ¬x.op=7): ∃v,w.env[x.n.toNat]? =some v∧NS w.env x.n=v∧(v.kind=4→Fe s.spots v.n∧ ∃y,s.spots[v.n.toNat]? =some y∧A5 s.spots v.n=y.dead):=by
 have:=h.n ho;obtain⟨v,hv⟩:=get_some (l:=w.env) (i:=x.n.toNat) (by omega);refine⟨v,hv,by rw[NS,hv];rfl,fun hk=>?_⟩;have hb:=List.all_eq_true.1 h.vals v (List.mem_of_getElem? hv);simp only[DU.inB,hk,Int.reduceEq,if_true,if_false,Bool.and_eq_true,decide_eq_true_eq]at hb;obtain⟨y,hy⟩:=get_some (l:=s.spots) (i:=v.n.toNat) (by omega);exact⟨hb,y,hy,by simp[A5,hy]⟩
structure WR(p:AL)(sz:List Int)(s:Bz)(g:Ae)(d:Ba)(r:Ey):Prop where
 at0:0≤r.at_
 at1:r.at_≤d.spots.length
 place:Fe s.spots (g.place d r.at_)
 j0:0<r.joins.length
 j1:r.joins.length≤3
 join: ∀c∈r.joins,0≤c∧c<d.chans.length∧0≤g.own d true c∧ ∃q,s.chans[(g.own d true c).toNat]? =some q∧q.queue.length≤12∧Hw s (g.own d true c)=q.queue.length
theorem SW{d:Ba}{r:Ey}: ∀{l:List Int} {i:Nat},joinsOk d r i l=true→ ∀c∈l,0≤c∧c<d.chans.length
 |[],_,_,c,hc=>by simp at hc
 |x::l,i,h,c,hc=>by
  rw[joinsOk]at h;simp only[EU,Bool.and_eq_true,decide_eq_true_eq]at h;rcases List.mem_cons.1 hc with rfl|hc
  .exact⟨h.1.1,h.1.2.1⟩
  .exact SW h.2 c hc
theorem KM{p:AL}{sz:List Int}{s:Bz}{i:Nat}{g:Ae}{d:Ba}{r:Ey}(hF:Dz p sz)(hs:TT p sz s)(hg:s.groups[i]? =some g)(hd:IP p sz s i g d)(hr:r∈d.rules):WR p sz s g d r:=by
 have ho:=(C4 hF (I3 hd.def_).2).ok;have hr1:=ho.rule r hr;simp only[A9,Bool.and_eq_true,decide_eq_true_eq]at hr1;obtain⟨⟨h1,h2⟩,h3,h4,h5⟩:=hr1;refine⟨h1,h2,Mf hd.mine (L5 hd) hd.at_ hd.vals h1 h2,h3,h4,fun c hc=>?_⟩;obtain⟨c0,c1⟩:=SW h5 c hc;obtain⟨ch,hch⟩:=get_some (l:=d.chans) (i:=c.toNat) (by omega);obtain⟨q,hq,_⟩:=hd.chans _ ch hch;have ho:=dj hd.mine c0 c1;have:(g.own d true c).toNat=(FU p (s.groups.take i)).1+c.toNat:=by omega
 refine⟨c0,c1,by omega,q,by rw[this];exact hq,(hs.que _ q hq).len,by rw[Hw,this,hq];rfl⟩
theorem Lv{l:List Nat}(h:0∈l):BB l=[]:=by
 induction l with
 |nil=>simp at h
 |cons n l ih=>
  rw[BB];rcases List.mem_cons.1 h with h|h
  .subst h;rfl
  .simp[ih h]
end Go.Proofs
namespace Go.Proofs
open Go Go.Abs
set_option maxRecDepth 100000
set_option maxHeartbeats 4000000
def HU(op:Int):Int×Int×Bool:=
 if op=1 then(0,0,true)else if op=7 then(0,0,true)else if op=2 then(-1,0,true)else if op=3 then(0,2,true)else if op=5 then(1,2,true)
 else if op=4 then(0,1,true)else if op=6 then(0,1,true)else if op=8 then(0,1,true)else(0,0,false)
theorem HC(op:Int):Au (KL Tryz.prog cfg) 168 [.d (.int .i64 op)] []=.ok (.ret (.tup [.d (.int .i64 (HU op).1),.d (.int .i64 (HU op).2.1),.d (.bool (HU op).2.2)]),[]):=by
 (refine AU rfl Tryz.func168 rfl rfl rfl ?_;show Wp _ _ _ _ (Tryz.f168.body.get rfl) _ _;simp only[Tryz.f168,Option.get_some])
 (repeat' (first|simp only[go_sem, *]|(refine sx ?_ ?_<;>intro hc)|refine sy (by omega) fun x hx hm=>?_|simp(disch:=first|assumption|omega) only[wrap_id,AF,AC,slice_int]))
 all_goals simp[HU, *]
structure MH(x:BH)(size depth n:Int)(h:AB)(π:List Nat)(idn:Abs.Id)(o:AQ)(h':AB):Prop where
 ret:Oa x size depth (60-n)→o=.ret (.tup [])∧h'.get idn=some (.box [.d (.int .i64 (n+x.size))])
 pan: ¬Oa x size depth (60-n)→o=.pan Es
 frame: ∀id',Id.under π id'=false→Id.is idn id'=false→h'.get id'=h.get id'
theorem HF{x:BH}{size depth n:Int}{h:AB}{π:List Nat}{id:Abs.Id}{h':AB}(hk: ¬Oa x size depth (60-n))(hf: ∀id',Id.under π id'=false→Id.is id id'=false→h'.get id'=h.get id'):MH x size depth n h π id (.pan Es) h':=⟨fun h=>absurd h hk,fun _=>rfl,hf⟩
theorem Kb{x:BH}{size depth n:Int}{h:AB}{π:List Nat}{id:Abs.Id}{h':AB}(hk:Oa x size depth (60-n))(hg:h'.get id=some (.box [.d (.int .i64 (n+x.size))]))(hf: ∀id',Id.under π id'=false→Id.is id id'=false→h'.get id'=h.get id'):MH x size depth n h π id (.ret (.tup [])) h':=⟨fun _=>⟨rfl,hg⟩,fun h=>absurd hk h,hf⟩
theorem lB(x:BH): ∀(size depth n:Int) (h:AB) (π:List Nat) (idn ids idd:Abs.Id),h.get idn=some (.box [.d (.int .i64 n)])→h.get ids=some (.box [.d (.int .i64 size)])→h.get idd=some (.box [.fn 217 [] [.ptr idn 0,.ptr ids 0,.ptr idd 0]])→Id.under π idn=false→Id.under π ids=false→Id.under π idd=false→Id.is idn ids=false→Id.is idn idd=false→0≤n→n≤60→1≤depth→depth≤70→
 ∃o h',KL Tryz.prog cfg (.fn 217) [.agg [.d (.int .i64 x.op),.d (.int .i64 x.n),.d (.lst (x.kids.map B9))],.d (.int .i64 depth),.ptr idn 0,.ptr ids 0,.ptr idd 0] h π true none=.ok (o,h')∧MH x size depth n h π idn o h':=by
 induction x using BH.ind with
 |h op m kids ih=>
 intro size depth n h π idn ids idd hg hgs hgd hu hus hud hns hnd h1 h2 h3 h4;simp only[BH.op_mk,BH.n_mk,BH.kids_mk]at*;have u1:=AI hu;have u2:=Ao hu;have u3:=AD hu;have v1:=AI hus;have v3:=AD hus;have x1:=AI hud;have x3:=AD hud;have w1:IntKind.i64.wrap (n+1)=n+1:=wrap_id (by omega) (by omega);have w2:IntKind.i64.wrap (depth+1)=depth+1:=wrap_id (by omega) (by omega)
 (refine A0 rfl Tryz.func217 rfl rfl rfl ?_;show Wp _ _ _ _ (Tryz.f217.body.get rfl) _ _;simp only[Tryz.f217,Option.get_some])
 have ih:=AA.mk ih;rcases kids with _|⟨a,_|⟨b,_|⟨c,l⟩⟩⟩
 ·(repeat' (first|simp only[go_sem, *]|(refine sx ?_ ?_<;>intro hc)|refine sy (by omega) fun x hx hm=>?_|simp(disch:=first|assumption|omega) only[wrap_id,AF,AC,slice_int]))
  all_goals try(rw[B5];refine aw ?_)
  all_goals first
   |omega
   |(refine HF ?_ (fun id' e1 e2=>?_)
     .clear ih;grind [Oa,BH.size,Cl,BH.depth,Cs,BH.formed]
     .simp only[get_put,AI e1,e2,Bool.false_eq_true,if_false])
   |(refine Kb ?_ ?_ (fun id' e1 e2=>?_)
     .clear ih;grind [Oa,BH.size,Cl,BH.depth,Cs,BH.formed]
     .simp[get_put,is_self,BH.size,Cl]
     .simp only[get_put,AI e1,e2,Bool.false_eq_true,if_false])
 ·(repeat' (first|simp only[go_sem, *]|(refine sx ?_ ?_<;>intro hc)|refine sy (by omega) fun x hx hm=>?_|simp(disch:=first|assumption|omega) only[wrap_id,AF,AC,slice_int]))
  all_goals first
   |omega
   |(refine HF ?_ (fun id' e1 e2=>?_)
     .clear ih;grind [Oa,BH.size,Cl,BH.depth,Cs,BH.formed]
     .simp only[get_put,AI e1,e2,Bool.false_eq_true,if_false])
   |(refine Kb ?_ ?_ (fun id' e1 e2=>?_)
     .clear ih;grind [Oa,BH.size,Cl,BH.depth,Cs,BH.formed]
     .simp[get_put,is_self,BH.size,Cl]
     .simp only[get_put,AI e1,e2,Bool.false_eq_true,if_false])
 .have iha:=AA.mk (ih.out a (by simp));have ihb:=AA.mk (ih.out b (by simp));clear ih;have sa:=Md a;have sb:=Md b
  (repeat' (first|simp only[go_sem, *]|(refine sx ?_ ?_<;>intro hc)|refine sy (by omega) fun x hx hm=>?_|simp(disch:=first|assumption|omega) only[wrap_id,AF,AC,slice_int]))
  all_goals try
   (refine HF ?_ (fun id' e1 e2=>?_)
    .clear iha ihb;grind [Oa,BH.size,Cl,BH.depth,Cs,BH.formed]
    .simp only[get_put,AI e1,e2,Bool.false_eq_true,if_false])
  all_goals (rw[B5];refine aw ?_)
  all_goals
   refine Ax (iha.out size (depth+1) (n+1) _ _ idn ids idd ?_ ?_ ?_ (u3 _) (v3 _) (x3 _) hns hnd ?_ ?_ ?_ ?_) (fun o1 g1 p1=>?_)
   .simp only[go_sem,u1,hg]
   .simp only[go_sem,v1,hns,hgs,Bool.false_eq_true]
   .simp only[go_sem,x1,hnd,hgd,Bool.false_eq_true]
   .omega
   .omega
   .omega
   .omega
   have f1:=p1.frame;have s1:g1.get ids=some (.box [.d (.int .i64 size)]):=by
    rw[f1 ids (v3 _) hns];simp only[go_sem,v1,hns,hgs,Bool.false_eq_true]
   have d1:g1.get idd=some (.box [.fn 217 [] [.ptr idn 0,.ptr ids 0,.ptr idd 0]]):=by
    rw[f1 idd (x3 _) hnd];simp only[go_sem,x1,hnd,hgd,Bool.false_eq_true]
   have fr1: ∀id',Id.under π id'=false→Id.is idn id'=false→g1.get id'=h.get id':=fun id' e1 e2=>by
    rw[f1 id' (AD e1 _) e2];simp only[get_put,AI e1,e2,Bool.false_eq_true,if_false]
   clear f1;by_cases ka:Oa a size (depth+1) (60-(n+1))
   .obtain⟨rfl,r1⟩:=p1.ret ka;clear p1;have fr1:=AA.mk fr1;refine aw ?_;rw[B5];refine aw ?_;refine Ax (ihb.out size (depth+1) (n+1+a.size) _ _ idn ids idd ?_ ?_ ?_ (u3 _) (v3 _) (x3 _) hns hnd ?_ ?_ ?_ ?_) (fun o2 g2 p2=>?_)
    .simp only[go_sem,u1,u3,r1,Bool.false_eq_true]
    .simp only[go_sem,v1,v3,hns,s1,Bool.false_eq_true]
    .simp only[go_sem,x1,x3,hnd,d1,Bool.false_eq_true]
    .omega
    .grind [Oa]
    .omega
    .omega
    have f2:=p2.frame;have fr: ∀id',Id.under π id'=false→Id.is idn id'=false→g2.get id'=h.get id':=fun id' e1 e2=>by
     rw[f2 id' (AD e1 _) e2];simp only[get_put,AI e1,Aj _ _ _ (AD e1 _),fr1.out id' e1 e2,Bool.false_eq_true,if_false]
    have fr:=AA.mk fr;clear f2 fr1;by_cases kb:Oa b size (depth+1) (60-(n+1+a.size))
    .obtain⟨rfl,r2⟩:=p2.ret kb;clear p2;refine aw ?_;rw[B5];refine aw ?_;refine Kb ?_ ?_ fun id' e1 e2=>?_
     .clear iha ihb fr;grind [Oa,BH.size,Cl,BH.depth,Cs,BH.formed]
     .rw[Aj _ _ _ (u3 _),r2];simp[BH.size,Cl];omega
     .rw[Aj _ _ _ (AD e1 _),fr.out id' e1 e2]
    .obtain rfl:=p2.pan kb;clear p2;refine aw ?_;refine HF ?_ fun id' e1 e2=>?_
     .clear iha ihb fr;grind [Oa,BH.size,Cl,BH.depth,Cs,BH.formed]
     .rw[Aj _ _ _ (AD e1 _),fr.out id' e1 e2]
   .obtain rfl:=p1.pan ka;clear p1;refine aw ?_;refine HF ?_ (fun id' e1 e2=>?_)
    .clear iha ihb;grind [Oa,BH.size,Cl,BH.depth,Cs,BH.formed]
    .rw[Aj _ _ _ (AD e1 _),fr1 id' e1 e2]
 ·(repeat' (first|simp only[go_sem, *]|(refine sx ?_ ?_<;>intro hc)|refine sy (by omega) fun x hx hm=>?_|simp(disch:=first|assumption|omega) only[wrap_id,AF,AC,slice_int]))
  all_goals first
   |omega
   |(refine HF ?_ (fun id' e1 e2=>?_)
     .clear ih;grind [Oa,BH.size,Cl,BH.depth,Cs,BH.formed]
     .simp only[get_put,AI e1,e2,Bool.false_eq_true,if_false])
   |(refine Kb ?_ ?_ (fun id' e1 e2=>?_)
     .clear ih;grind [Oa,BH.size,Cl,BH.depth,Cs,BH.formed]
     .simp[get_put,is_self,BH.size,Cl]
     .simp only[get_put,AI e1,e2,Bool.false_eq_true,if_false])
theorem ng(x:BH)(size:Int):Au (KL Tryz.prog cfg) 212 [.agg [.d (.int .i64 x.op),.d (.int .i64 x.n),.d (.lst (x.kids.map B9))],.d (.int .i64 size)] []=.ok (FQ Es (x.ok size)):=by
 (refine AU rfl Tryz.func212 rfl rfl rfl ?_;show Wp _ _ _ _ (Tryz.f212.body.get rfl) _ _;simp only[Tryz.f212,Option.get_some])
 refine aw ?_;refine Ax (lB x size 1 0 _ _ [0,2] [0,1] [0,4] rfl rfl rfl rfl rfl rfl rfl rfl ?_ ?_ ?_ ?_) (fun o1 g1 p1=>?_)
 .omega
 .omega
 .omega
 .omega
 have e:Oa x size 1 (60-0)↔x.ok size=true:=oY x size;cases hx:x.ok size with
 |true=>
  obtain⟨rfl,r1⟩:=p1.ret (e.2 hx);clear p1;refine aw ?_;rfl
 |false=>
  obtain rfl:=p1.pan (fun h=>by rw[e.1 h]at hx;cases hx);clear p1;refine aw ?_;rfl
end Go.Proofs
namespace Go.Proofs
open Go Go.Abs
set_option maxRecDepth 100000
set_option maxHeartbeats 4000000
def slv(id:Abs.Id)(n:Nat):AV:=if n=0 then .emp else .osl id 0 n
theorem Al{id:Abs.Id}{n:Nat}(h:n≠0):slv id n=.osl id 0 n:=by rw[slv,if_neg h]
structure QW(π:List Nat)(l sz mt df:Abs.Id):Prop where
 ul:Id.under π l=false
 us:Id.under π sz=false
 um:Id.under π mt=false
 ud:Id.under π df=false
 ls:Id.is l sz=false
 lm:Id.is l mt=false
 ld:Id.is l df=false
 sl:Id.is sz l=false
 sm:Id.is sz mt=false
 sd:Id.is sz df=false
 ml:Id.is mt l=false
 ms:Id.is mt sz=false
 md:Id.is mt df=false
 dl:Id.is df l=false
 ds:Id.is df sz=false
 dm:Id.is df mt=false
structure GO(h:AB)(p:AL)(l sz mt df:Abs.Id)(st:Aw):Prop where
 box:h.get l=some (.box [.d (.lst (p.free.map AY)),.d (.lst (p.nodes.map AP)),.d (.lst (p.defs.map Ab)),.d (.int .i64 p.main),slv sz p.nodes.length,slv mt p.nodes.length,slv df p.defs.length])
 sizes:p.nodes.length≠0→h.get sz=some (.darr 1 (st.sizes.map AG))
 met:p.nodes.length≠0→h.get mt=some (.darr 1 (st.met.map Bh))
 defs:p.defs.length≠0→h.get df=some (.darr 1 (st.defs.map Bh))
structure Mh(p:AL)(l sz mt df:Abs.Id)(h:AB)(π:List Nat)(r:Option Aw)(o:AQ)(h':AB):Prop where
 ret: ∀st',r=some st'→o=.ret (.tup [])∧GO h' p l sz mt df st'∧ ∀id',Id.under π id'=false→Id.is sz id'=false→Id.is mt id'=false→Id.is df id'=false→h'.get id'=h.get id'
 pan:r=none→o=.pan Es
theorem CZ{p:AL}{l sz mt df:Abs.Id}{h:AB}{π:List Nat}{r:Option Aw}{h':AB}(hr:r=none):Mh p l sz mt df h π r (.pan Es) h':=⟨fun st' hs=>by{rw[hr]at hs;cases hs},fun _=>rfl⟩
@[go_sem] theorem rO:cfg.meth 307 "cabotage/scope.kids" =some 236:=rfl
@[go_sem] theorem rj:cfg.meth 308 "cabotage/scope.kids" =some 237:=rfl
@[go_sem] theorem rf:cfg.meth 309 "cabotage/scope.kids" =some 238:=rfl
@[go_sem] theorem rT:cfg.meth 310 "cabotage/scope.kids" =some 239:=rfl
@[go_sem] theorem rV:cfg.meth 314 "cabotage/scope.kids" =some 240:=rfl
structure fA(p:AL)(l sz mt df:Abs.Id)(h:AB)(π:List Nat)(L:List (Nat×Abs.Obj))(st:Aw)(g:AB):Prop where
 looks:GO g p l sz mt df st
 node: ∀q∈L,g.get (0::q.1::π)=some q.2
 frame: ∀id',Id.under π id'=false→Id.is sz id'=false→Id.is mt id'=false→Id.is df id'=false→g.get id'=h.get id'
theorem Dl{π:List Nat}{l sz mt df:Abs.Id}(h:QW π l sz mt df)(n:Nat):QW (n::π) l sz mt df:={h with ul:=AD h.ul n,us:=AD h.us n,um:=AD h.um n,ud:=AD h.ud n}
theorem Ot(i j:Nat)(π:List Nat)(h:i≠j):Id.under (i::π) (0::j::π)=false:=C6 fun hs=>by
 rcases List.suffix_cons_iff.1 hs with e|hs
 .have:=congrArg List.length e;simp at this
 rcases List.suffix_cons_iff.1 hs with e|hs
 .simp only[List.cons.injEq,and_true]at e;exact h e
 .have:=hs.length_le;simp at this;omega
theorem Iw{g:AB}{p:AL}{l sz mt df:Abs.Id}{st:Aw}{ρ:List Nat}(h:GO g p l sz mt df st)(hi:QW ρ l sz mt df):GO (gc ρ g) p l sz mt df st:=
 ⟨by rw[Aj _ _ _ hi.ul];exact h.box,fun hn=>by rw[Aj _ _ _ hi.us];exact h.sizes hn,fun hn=>by rw[Aj _ _ _ hi.um];exact h.met hn,fun hn=>by rw[Aj _ _ _ hi.ud];exact h.defs hn⟩
theorem FA{p:AL}{l sz mt df:Abs.Id}{h:AB}{π:List Nat}{L:List (Nat×Abs.Obj)}{st:Aw}{g:AB}(hf:fA p l sz mt df h π L st g)(hi:QW π l sz mt df){j:Nat}{o:Abs.Obj}(hj: ∀q∈L,j≠q.1):fA p l sz mt df h π L st (g.put (0::j::π) o):=by
 refine⟨⟨?_,fun hn=>?_,fun hn=>?_,fun hn=>?_⟩,fun q hq=>?_,fun id' h1 h2 h3 h4=>?_⟩
 .rw[get_put,AI hi.ul];exact hf.looks.box
 .rw[get_put,AI hi.us];exact hf.looks.sizes hn
 .rw[get_put,AI hi.um];exact hf.looks.met hn
 .rw[get_put,AI hi.ud];exact hf.looks.defs hn
 .have:Id.is (0::j::π) (0::q.1::π)=false:=AM fun e=>hj q hq (by simpa using e);rw[get_put,this];exact hf.node q hq
 .rw[get_put,AI h1];exact hf.frame id' h1 h2 h3 h4
theorem KF{p:AL}{l sz mt df:Abs.Id}{h:AB}{π:List Nat}{L:List (Nat×Abs.Obj)}{st st':Aw}{g g':AB}(hf:fA p l sz mt df h π L st g)(hi:QW π l sz mt df){j:Nat}(hj: ∀q∈L,j≠q.1)(hl:GO g' p l sz mt df st')(hg: ∀id',Id.under (j::π) id'=false→Id.is sz id'=false→Id.is mt id'=false→Id.is df id'=false→g'.get id'=g.get id'):fA p l sz mt df h π L st' (gc (j::π) g'):=by
 refine⟨Iw hl (Dl hi j),fun q hq=>?_,fun id' h1 h2 h3 h4=>?_⟩
 .have hu:=Ot j q.1 π (hj q hq);rw[Aj _ _ _ hu,hg _ hu (Ao hi.us _ _) (Ao hi.um _ _) (Ao hi.ud _ _)];exact hf.node q hq
 .rw[Aj _ _ _ (AD h1 j),hg _ (AD h1 j) h2 h3 h4];exact hf.frame id' h1 h2 h3 h4
theorem Ed{p:AL}{st st':Aw}(h:st.fit p)(hg:Z8 st st'):st'.fit p:=⟨hg.sizes.trans h.sizes,hg.met.trans h.met,hg.defs.trans h.defs⟩
theorem gH(x:BH)(size:Int):Au (KL Tryz.prog cfg) 212 [.agg [.d (.int .i64 x.op),.d (.int .i64 x.n),.d (.lst (x.kids.map B9))],.d (.int .i64 size)] []=BR Es (x.ok size):=by rw[ng,MO]
theorem KS(d:Ba):Au (KL Tryz.prog cfg) 213 [.agg [.d (.lst (d.chans.map Av)),.d (.lst (d.spots.map Af)),.d (.lst (d.rules.map Am))]] []=BR Es d.okG:=by rw[pJ,MO]
theorem JY{p:AL}{k:Nat}{n size:Int}{st:Aw}{x:DZ}(hn:0≤n)(ht:st.met[n.toNat]? =some false)(hx:p.nodes[n.toNat]? =some x):Ak p (k+1) n size st=if CL p size x=true then match Lx p size x (st.meet n size)with
 |some (l,st2)=>BT (Ak p k) l st2
 |none=>none
 else none:=by
 rw[Ak,if_pos ⟨hn,ht⟩,hx];all_goals rfl
theorem PA{p:AL}{k:Nat}{n size:Int}{st:Aw}{x:DZ}(hn:0≤n)(ht:st.met[n.toNat]? =some false)(hx:p.nodes[n.toNat]? =some x)(hb:CL p size x=false):Ak p (k+1) n size st=none:=by
 rw[JY hn ht hx,hb,if_neg (by simp)]
theorem IG(p:AL)(hN:p.nodes.length≤60)(n size:Int)(st:Aw)(h:AB)(π:List Nat)(l sz mt df:Abs.Id)(hfit:st.fit p)(hid:QW π l sz mt df)(hl:GO h p l sz mt df st)(hb:0≤n→n<p.nodes.length→st.met[n.toNat]? =some true):
 ∃o h',KL Tryz.prog cfg (.fn 201) [.ptr l 0,.d (.int .i64 n),.d (.int .i64 size)] h π true none=.ok (o,h')∧Mh p l sz mt df h π none o h':=by
 obtain⟨ul,us,um,ud,ls,lm,ld,sl,sm,sd,ml,ms,md,dl,ds,dm⟩:=hid;obtain⟨lbox,lsz,lmt,ldf⟩:=hl;have lsz:=AA.mk lsz;have ldf:=AA.mk ldf;have hb:=AA.mk hb;have hfm:=hfit.met
 (refine A0 rfl Tryz.func201 rfl rfl rfl ?_;show Wp _ _ _ _ (Tryz.f201.body.get rfl) _ _;simp only[Tryz.f201,Option.get_some])
 by_cases hn:0≤n
 .by_cases hn2:n<p.nodes.length
  .have hne:p.nodes.length≠0:=by omega
   have hlt:n.toNat<p.nodes.length:=by omega
   have ht:=hb.out hn hn2;have lmt:=lmt hne;rw[Al hne,Al hne]at lbox;refine aw ?_;exact CZ rfl
  .refine aw ?_;exact CZ rfl
 .refine aw ?_;exact CZ rfl
theorem W6(p:AL)(hN:p.nodes.length≤60)(hD:p.defs.length≤12): ∀(k:Nat) (n size:Int) (st:Aw) (h:AB) (π:List Nat) (l sz mt df:Abs.Id),Ci st.met≤k→st.fit p→0≤size→size+70*k≤5000→QW π l sz mt df→GO h p l sz mt df st→
 ∃o h',KL Tryz.prog cfg (.fn 201) [.ptr l 0,.d (.int .i64 n),.d (.int .i64 size)] h π true none=.ok (o,h')∧Mh p l sz mt df h π (Ak p k n size st) o h':=by
 intro k;induction k with
 |zero=>
  intro n size st h π l sz mt df hk hfit h0 hb hid hl;refine IG p hN n size st h π l sz mt df hfit hid hl fun h1 h2=>?_;obtain⟨t,ht⟩:=get_some (l:=st.met) (i:=n.toNat) (by rw[hfit.met];omega);cases t with
  |true=>exact ht
  |false=>have:=DK ht;omega
 |succ k ih=>
 intro n size st h π l sz mt df hk hfit h0 hb hid hl;have hid2:=AA.mk hid;obtain⟨ul,us,um,ud,ls,lm,ld,sl,sm,sd,ml,ms,md,dl,ds,dm⟩:=hid;have hl2:=AA.mk hl;obtain⟨lbox,lsz,lmt,ldf⟩:=hl;have e1:=AI ul;have e2:=AI us;have e3:=AI um;have e4:=AI ud;have e5:=Ao ul;have e6:=Ao us;have e7:=Ao um;have e8:=Ao ud;by_cases hn:0≤n
 .by_cases hn2:n<p.nodes.length
  .have hne:p.nodes.length≠0:=by omega
   have hlt:n.toNat<p.nodes.length:=by omega
   obtain⟨x,hx⟩:=get_some hlt;obtain⟨t,ht⟩:=get_some (l:=st.met) (i:=n.toNat) (by rw[hfit.met];omega);obtain⟨s0,hs0⟩:=get_some (l:=st.sizes) (i:=n.toNat) (by rw[hfit.sizes];omega);have lmt:=lmt hne;have lsz:=lsz hne;rw[Al hne,Al hne]at lbox;have ih:=AA.mk ih;have ldf:=AA.mk ldf;have hfs:=hfit.sizes;have hfm:=hfit.met;cases t with
   |true=>
    have e:Ak p (k+1) n size st=none:=by
     rw[Ak,if_neg];rw[ht];simp
    rw[e];exact IG p hN n size st h π l sz mt df hfit hid2.out hl2.out fun _ _=>ht
   |false=>
    (refine A0 rfl Tryz.func201 rfl rfl rfl ?_;show Wp _ _ _ _ (Tryz.f201.body.get rfl) _ _;simp only[Tryz.f201,Option.get_some])
    have hs:=AA.mk (JY (p:=p) (k:=k) (size:=size) hn ht hx);have hbad:=AA.mk (PA (p:=p) (k:=k) (size:=size) hn ht hx);obtain⟨xo,xn,xa,xk⟩:=x;have hn0:AA (∀o o',fA p l sz mt df h π [(46,o')] (st.meet n size) ((((h.put mt (.darr 1 ((List.map Bh st.met).set n.toNat [.bool true]))).put sz (.darr 1 ((List.map AG st.sizes).set n.toNat [.int .i64 size]))).put (0::46::π) o).put (0::46::π) o')):=.mk fun o o'=>by
     refine⟨⟨?_,fun _=>?_,fun _=>?_,fun hd=>?_⟩,?_,fun id' h1 h2 h3 h4=>?_⟩
     .rw[Al hne,Al hne];simp only[get_put,e1,sl,ml,Bool.false_eq_true,if_false,lbox]
     .simp only[get_put,e2,is_self,Bool.false_eq_true,if_false,if_true,Aw.meet,List.map_set];rfl
     .simp only[get_put,e3,sm,is_self,Bool.false_eq_true,if_false,if_true,Aw.meet,List.map_set];rfl
     .simp only[get_put,e4,sd,md,Bool.false_eq_true,if_false,Aw.meet,ldf.out hd]
     .intro q hq;cases List.mem_singleton.1 hq;simp only[get_put,is_self,if_true]
     .simp only[get_put,AI h1,h2,h3,Bool.false_eq_true,if_false]
    by_cases o4:xo=4
    .subst o4;by_cases x0:xn<0
     ·(repeat' (first|simp only[go_sem, *,E0,H3]|(refine sx ?_ ?_<;>intro hc)|refine sy (by omega) fun x hx hm=>?_|simp(disch:=first|assumption|omega) only[wrap_id,AF,AC,slice_int]))
      all_goals try(exfalso;omega)
      all_goals (exact CZ (hbad.out (by clear e1 e2 e3 e4 e5 e6 e7 e8 lbox lmt lsz hs hbad ih hn0;grind [CL,DP,QU,Dv])))
     by_cases x1:(p.defs.length:Int)≤xn
     ·(repeat' (first|simp only[go_sem, *,E0,H3]|(refine sx ?_ ?_<;>intro hc)|refine sy (by omega) fun x hx hm=>?_|simp(disch:=first|assumption|omega) only[wrap_id,AF,AC,slice_int]))
      all_goals try(exfalso;omega)
      all_goals (exact CZ (hbad.out (by clear e1 e2 e3 e4 e5 e6 e7 e8 lbox lmt lsz hs hbad ih hn0;grind [CL,DP,QU,Dv])))
     have x2:0≤xn:=by omega
     have x3:xn<p.defs.length:=by omega
     have hdl:p.defs.length≠0:=by omega
     have hxlt:xn.toNat<p.defs.length:=by omega
     obtain⟨d,hd⟩:=get_some hxlt;obtain⟨t,htd⟩:=get_some (l:=st.defs) (i:=xn.toNat) (by rw[hfit.defs];omega);have hfd:=hfit.defs;have ldf2:=ldf.out hdl;rw[Al hdl]at lbox;have hinto:Lx p size ⟨4,xn,xa,xk⟩ (st.meet n size)=if st.defs[xn.toNat]? =some false∧d.okG=true then some (Bm d (size+d.own) d.rules++(BW (size+d.own) d.spots++BZ (size+d.own) xk),{st.meet n size with defs:=st.defs.set xn.toNat true})else none:=by
      rw[Lx,if_pos rfl,hd];rfl
     have hinto:=AA.mk hinto;have hn1:AA (∀o o' b,fA p l sz mt df h π [(131,o'),(46,b)] {st.meet n size with defs:=st.defs.set xn.toNat true} (((((((h.put mt (.darr 1 ((List.map Bh st.met).set n.toNat [.bool true]))).put sz (.darr 1 ((List.map AG st.sizes).set n.toNat [.int .i64 size]))).put (0::46::π) (.box [.d (.int .i64 0),.d (.int .i64 0),.nils,.nils])).put (0::46::π) b).put df (.darr 1 ((List.map Bh st.defs).set xn.toNat [.bool true]))).put (0::131::π) o).put (0::131::π) o')):=.mk fun o o' b=>by
      refine⟨⟨?_,fun _=>?_,fun _=>?_,fun hd=>?_⟩,?_,fun id' h1 h2 h3 h4=>?_⟩
      .rw[Al hne,Al hne,Al hdl];simp only[get_put,e1,sl,ml,dl,Bool.false_eq_true,if_false,lbox]
      .simp only[get_put,e2,ds,is_self,Bool.false_eq_true,if_false,if_true,Aw.meet,List.map_set];rfl
      .simp only[get_put,e3,sm,dm,is_self,Bool.false_eq_true,if_false,if_true,Aw.meet,List.map_set];rfl
      .simp only[get_put,e4,is_self,Bool.false_eq_true,if_false,if_true,Aw.meet,List.map_set];rfl
      .simp only[List.mem_cons,List.not_mem_nil,or_false,forall_eq_or_imp,forall_eq];simp only[go_sem,e8]
      .simp only[get_put,AI h1,h2,h3,h4,Bool.false_eq_true,if_false]
     by_cases hgt:t=false∧d.okG=true
     .obtain⟨rfl,hg⟩:=hgt;have hdo:=Mv hg;have c1:=hdo.chans;have c2:=hdo.spots;have c3:=hdo.rules;have hown:=Jh hdo;have hok:=nN d (by omega) (by omega);have hdo:=AA.mk hdo
      (repeat' (first|simp only[go_sem, *,E0,H3,KS]|(refine sx ?_ ?_<;>intro hc)|refine sy (by omega) fun x hx hm=>?_|simp(disch:=first|assumption|omega) only[wrap_id,AF,AC,slice_int]))
      all_goals try(exfalso;omega)
      all_goals try(exact CZ (hbad.out (by clear e1 e2 e3 e4 e5 e6 e7 e8 lbox lmt lsz hs hbad ih hn0;grind [CL,DP,QU,Dv])))
      rw[B5]
      (repeat' (first|simp only[go_sem, *,KS]|(refine sx ?_ ?_<;>intro hc)|refine sy (by omega) fun x hx hm=>?_|simp(disch:=first|assumption|omega) only[wrap_id,AF,AC,slice_int]))
      refine AO d.rules _ (fun m i a=>⟨[(0,.ptr l 0),(2,.d (.int .i64 (size+(d.own:Int)))),(6,.ptr (0::46::π) 0),(11,.ptr (0::131::π) 0),(190,.d (.lst (d.rules.map Am))),(191,.d (.int .i64 m)),(192,.d (.int .i64 i))],a.1.1,a.2+144,[]⟩)
       (Inv:=fun i rest a=>fA p l sz mt df h π [(131,.box [.d (.lst (d.chans.map Av)),.d (.lst (d.spots.map Af)),.d (.lst (d.rules.map Am))]),(46,.box [.d (.int .i64 4),.d (.int .i64 xn),.d (.lst (xa.map B9)),.d (.lst (xk.map AG))])] a.1.2 a.1.1∧a.1.2.fit p∧Ci a.1.2.met≤k∧AA (Ak p (k+1) n size st=BT (Ak p k) (Bm d (size+d.own) rest++(BW (size+d.own) d.spots++BZ (size+d.own) xk)) a.1.2)) (b0:=((_,{st.meet n size with defs:=st.defs.set xn.toNat true}),_)) ?_ ⟨hn1.out _ _ _,?_,?_,⟨?_⟩⟩ ?_ ?_
      .rfl
      .have:=KQ hfit n size;exact⟨this.sizes,this.met,by simp[hfit.defs]⟩
      .have:=DK ht;simp only[Aw.meet];omega
      .rw[hs.out,if_pos,hinto.out,if_pos ⟨htd,hg⟩];have h00:((xa.length:Int)=0):=by assumption
       have hxa:xa=[]:=List.eq_nil_of_length_eq_zero (by omega);clear e1 e2 e3 e4 e5 e6 e7 e8 lbox lmt lsz hs hbad ih hn0 hn1 hdo hinto;grind [CL,DP,QU,Dv]
      .rintro i r ⟨⟨g,st1⟩,c⟩ hy hi him ⟨hf,hfit1,hun,hv⟩ IH;dsimp only at*;have hr1:=hf.node _ (List.mem_cons_self ..);dsimp only at hr1;have hj:=JW hdo.out (List.mem_of_getElem? hy);have hb1:=bT d r hj;have hb2:=HY hj.2.2 r.joins;have hb3:=hj.1;have hj:=AA.mk hj;refine aw ?_;refine PF (ih.out r.node (size+d.own+Bn d r.joins) st1 _ _ l sz mt df hun hfit1 (by omega) (by omega) (Dl hid2.out _) (FA (FA hf hid2.out ?_) hid2.out ?_).looks) (fun o1 g1 p1=>?_)
       .simp only[List.mem_cons,List.not_mem_nil,or_false,forall_eq_or_imp,forall_eq];omega
       .simp only[List.mem_cons,List.not_mem_nil,or_false,forall_eq_or_imp,forall_eq];omega
       cases hvy:Ak p k r.node (size+d.own+Bn d r.joins) st1 with
       |none=>
        obtain rfl:=p1.pan hvy;clear p1;refine aw ?_;refine CZ (hv.out.trans ?_);simp only[Bm,List.map_cons,List.cons_append,BT,hvy]
       |some st2=>
        obtain⟨rfl,hl2,hfr⟩:=p1.ret st2 hvy;have hfr:=AA.mk hfr;clear p1;refine aw ?_;have hgr:=Be p _ _ _ _ _ hvy;refine IH.out ((_,st2),_) ⟨KF (FA (FA hf hid2.out ?_) hid2.out ?_) hid2.out ?_ hl2 hfr.out,Ed hfit1 hgr,Nat.le_trans hgr.less hun,⟨?_⟩⟩
        .simp only[List.mem_cons,List.not_mem_nil,or_false,forall_eq_or_imp,forall_eq];omega
        .simp only[List.mem_cons,List.not_mem_nil,or_false,forall_eq_or_imp,forall_eq];omega
        .simp only[List.mem_cons,List.not_mem_nil,or_false,forall_eq_or_imp,forall_eq];omega
        .rw[hv.out];simp only[Bm,List.map_cons,List.cons_append,BT,hvy]
      .rintro i ⟨⟨g,st1⟩,c⟩ hi him ⟨hf,hfit1,hun,hv⟩;dsimp only at*;have hr1:=hf.node _ (List.mem_cons_self ..);have hr2:=hf.node _ (List.mem_cons_of_mem _ (List.mem_cons_self ..));dsimp only at hr1 hr2;refine aw ?_;refine AO d.spots _ (fun m i a=>⟨[(0,.ptr l 0),(2,.d (.int .i64 (size+(d.own:Int)))),(6,.ptr (0::46::π) 0),(207,.d (.lst (d.spots.map Af))),(208,.d (.int .i64 m)),(209,.d (.int .i64 i))],a.1.1,a.2+144,[]⟩)
        (Inv:=fun i rest a=>fA p l sz mt df h π [(131,.box [.d (.lst (d.chans.map Av)),.d (.lst (d.spots.map Af)),.d (.lst (d.rules.map Am))]),(46,.box [.d (.int .i64 4),.d (.int .i64 xn),.d (.lst (xa.map B9)),.d (.lst (xk.map AG))])] a.1.2 a.1.1∧a.1.2.fit p∧Ci a.1.2.met≤k∧AA (Ak p (k+1) n size st=BT (Ak p k) (BW (size+d.own) rest++BZ (size+d.own) xk) a.1.2)) (b0:=((g,st1),_)) rfl ⟨hf,hfit1,hun,⟨?_⟩⟩ ?_ ?_
       .exact hv.out
       .clear hf hfit1 hun hv hr1 hr2 i hi him g st1 c;rintro i r ⟨⟨g,st1⟩,c⟩ hy hi him ⟨hf,hfit1,hun,hv⟩ IH;dsimp only at*;refine aw ?_;refine Ax (ih.out r.node (size+d.own) st1 _ _ l sz mt df hun hfit1 (by omega) (by omega) (Dl hid2.out _) (FA (FA hf hid2.out ?_) hid2.out ?_).looks) (fun o1 g1 p1=>?_)
        .simp only[List.mem_cons,List.not_mem_nil,or_false,forall_eq_or_imp,forall_eq];omega
        .simp only[List.mem_cons,List.not_mem_nil,or_false,forall_eq_or_imp,forall_eq];omega
        cases hvy:Ak p k r.node (size+d.own) st1 with
        |none=>
         obtain rfl:=p1.pan hvy;clear p1;refine aw ?_;refine CZ (hv.out.trans ?_);simp only[BW,List.map_cons,List.cons_append,BT,hvy]
        |some st2=>
         obtain⟨rfl,hl2,hfr⟩:=p1.ret st2 hvy;have hfr:=AA.mk hfr;clear p1;refine aw ?_;have hgr:=Be p _ _ _ _ _ hvy;refine IH.out ((_,st2),_) ⟨KF (FA (FA hf hid2.out ?_) hid2.out ?_) hid2.out ?_ hl2 hfr.out,Ed hfit1 hgr,Nat.le_trans hgr.less hun,⟨?_⟩⟩
         .simp only[List.mem_cons,List.not_mem_nil,or_false,forall_eq_or_imp,forall_eq];omega
         .simp only[List.mem_cons,List.not_mem_nil,or_false,forall_eq_or_imp,forall_eq];omega
         .simp only[List.mem_cons,List.not_mem_nil,or_false,forall_eq_or_imp,forall_eq];omega
         .rw[hv.out];simp only[BW,List.map_cons,List.cons_append,BT,hvy]
       .clear hf hfit1 hun hv hr1 hr2 i hi him g st1 c;rintro i ⟨⟨g,st1⟩,c⟩ hi him ⟨hf,hfit1,hun,hv⟩;dsimp only at*;have hr1:=hf.node _ (List.mem_cons_self ..);have hr2:=hf.node _ (List.mem_cons_of_mem _ (List.mem_cons_self ..));dsimp only at hr1 hr2;refine aw ?_;refine AO xk _ (fun m i a=>⟨[(0,.ptr l 0),(2,.d (.int .i64 (size+(d.own:Int)))),(220,.d (.lst (xk.map AG))),(221,.d (.int .i64 m)),(222,.d (.int .i64 i))],a.1.1,a.2+144,[]⟩)
         (Inv:=fun i rest a=>fA p l sz mt df h π [(131,.box [.d (.lst (d.chans.map Av)),.d (.lst (d.spots.map Af)),.d (.lst (d.rules.map Am))]),(46,.box [.d (.int .i64 4),.d (.int .i64 xn),.d (.lst (xa.map B9)),.d (.lst (xk.map AG))])] a.1.2 a.1.1∧a.1.2.fit p∧Ci a.1.2.met≤k∧AA (Ak p (k+1) n size st=BT (Ak p k) (BZ (size+d.own) rest) a.1.2)) (b0:=((g,st1),_)) ?_ ⟨hf,hfit1,hun,⟨?_⟩⟩ ?_ ?_
        .omega
        .exact hv.out
        .clear hf hfit1 hun hv hr1 hr2 i hi him g st1 c;rintro i y ⟨⟨g,st1⟩,c⟩ hy hi him ⟨hf,hfit1,hun,hv⟩ IH;dsimp only at*;refine aw ?_;refine Ax (ih.out y (size+d.own) st1 _ _ l sz mt df hun hfit1 (by omega) (by omega) (Dl hid2.out _) hf.looks) (fun o1 g1 p1=>?_);cases hvy:Ak p k y (size+d.own) st1 with
         |none=>
          obtain rfl:=p1.pan hvy;clear p1;refine aw ?_;refine CZ (hv.out.trans ?_);simp only[BZ,List.map_cons,List.cons_append,BT,hvy]
         |some st2=>
          obtain⟨rfl,hl2,hfr⟩:=p1.ret st2 hvy;have hfr:=AA.mk hfr;clear p1;refine aw ?_;have hgr:=Be p _ _ _ _ _ hvy;refine IH.out ((_,st2),_) ⟨KF hf hid2.out ?_ hl2 hfr.out,Ed hfit1 hgr,Nat.le_trans hgr.less hun,⟨?_⟩⟩
          .simp only[List.mem_cons,List.not_mem_nil,or_false,forall_eq_or_imp,forall_eq];omega
          .rw[hv.out];simp only[BZ,List.map_cons,List.cons_append,BT,hvy]
        .clear hf hfit1 hun hv hr1 hr2 i hi him g st1 c;rintro i ⟨⟨g,st1⟩,c⟩ hi him ⟨hf,hfit1,hun,hv⟩;dsimp only at*;refine aw ?_;refine⟨fun st' hst=>?_,fun hst=>?_⟩
         .rw[hv.out]at hst;cases hst;exact⟨rfl,hf.looks,hf.frame⟩
         .rw[hv.out]at hst;cases hst
     .have hno:AA (Ak p (k+1) n size st=none):=by
       refine⟨?_⟩;rw[hs.out,hinto.out,htd];split
       .rw[if_neg (by simpa using hgt)]
       .rfl
      cases t
      .have hg:d.okG=false:=by simpa using hgt
       (repeat' (first|simp only[go_sem, *,E0,H3,KS]|(refine sx ?_ ?_<;>intro hc)|refine sy (by omega) fun x hx hm=>?_|simp(disch:=first|assumption|omega) only[wrap_id,AF,AC,slice_int]))
       all_goals try(exfalso;omega)
       all_goals try(exact CZ hno.out)
       rw[B5]
       (repeat' (first|simp only[go_sem, *,KS]|(refine sx ?_ ?_<;>intro hc)|refine sy (by omega) fun x hx hm=>?_|simp(disch:=first|assumption|omega) only[wrap_id,AF,AC,slice_int]))
       try exact CZ hno.out
      ·(repeat' (first|simp only[go_sem, *,E0,H3]|(refine sx ?_ ?_<;>intro hc)|refine sy (by omega) fun x hx hm=>?_|simp(disch:=first|assumption|omega) only[wrap_id,AF,AC,slice_int]))
       all_goals try(exfalso;omega)
       all_goals (exact CZ hno.out)
    have hop:xo=1∨xo=7∨xo=3∨(xo=2∧3<(xa.length:Int))∨(xo=2∧ ¬3<(xa.length:Int))∨xo=5∨xo=6∨xo=8∨(¬xo=1∧ ¬xo=7∧ ¬xo=3∧ ¬xo=2∧ ¬xo=5∧ ¬xo=6∧ ¬xo=8):=by omega
    rcases hop with rfl|rfl|rfl|⟨rfl,ha⟩|⟨rfl,ha⟩|rfl|rfl|rfl|⟨n1,n2,n3,n4,n5,n6,n7⟩;all_goals ((repeat' (first|simp only[go_sem, *,E0,H3]|(refine sx ?_ ?_<;>intro hc)|refine sy (by omega) fun x hx hm=>?_|simp(disch:=first|assumption|omega) only[wrap_id,AF,AC,slice_int])))
    all_goals try(exfalso;omega)
    all_goals try(exact CZ (hbad.out (by clear e1 e2 e3 e4 e5 e6 e7 e8 lbox lmt lsz hs hbad ih hn0;grind [CL,DP,QU,Dv])))
    all_goals
     refine AO xa _ (fun m i a=>⟨[(0,.ptr l 0),(2,.d (.int .i64 size)),(6,.ptr (0::46::π) 0),(154,.d (.lst (xa.map B9))),(155,.d (.int .i64 m)),(156,.d (.int .i64 i))],a.1,a.2+60,[]⟩)
      (Inv:=fun i rest a=>fA p l sz mt df h π _ (st.meet n size) a.1∧AA (xa.all (BH.ok size)=rest.all (BH.ok size))) (b0:=(_,_)) ?_ ⟨hn0.out _ _,⟨rfl⟩⟩ ?_ ?_
     .omega
     .rintro i y ⟨g,c⟩ hy hi him ⟨hf,hr⟩ IH;dsimp only at*;try(exfalso;omega)
      all_goals ((repeat' (first|simp only[go_sem, *,gH]|(refine sx ?_ ?_<;>intro hc)|refine sy (by omega) fun x hx hm=>?_|simp(disch:=first|assumption|omega) only[wrap_id,AF,AC,slice_int])))
      all_goals first
      |exact CZ (hbad.out (by simp only[CL,hr.out,List.all_cons, *,Bool.false_and,Bool.and_false]))
      |(refine IH.out (_,_) ⟨FA (FA hf hid2.out ?_) hid2.out ?_,⟨?_⟩⟩
        .intro q hq;cases List.mem_singleton.1 hq;dsimp only;omega
        .intro q hq;cases List.mem_singleton.1 hq;dsimp only;omega
        .rw[hr.out,List.all_cons];simp only[*,Bool.true_and])
     .rintro i ⟨g,c⟩ hi him ⟨hf,hr⟩;dsimp only at*;have hnode:=hf.node _ (List.mem_cons_self ..);dsimp only at hnode;refine aw ?_;refine AO xk _ (fun m i a=>⟨[(0,.ptr l 0),(2,.d (.int .i64 size)),(220,.d (.lst (xk.map AG))),(221,.d (.int .i64 m)),(222,.d (.int .i64 i))],a.1.1,a.2+60,[]⟩)
       (Inv:=fun i rest a=>fA p l sz mt df h π _ a.1.2 a.1.1∧a.1.2.fit p∧Ci a.1.2.met≤k∧AA (Ak p (k+1) n size st=BT (Ak p k) (BZ size rest) a.1.2)) (b0:=((_,st.meet n size),_)) ?_ ⟨hf,KQ hfit _ _,?_,⟨?_⟩⟩ ?_ ?_
      .omega
      .have:=DK ht;simp only[Aw.meet];omega
      .rw[hs.out,if_pos,Lx]
       .rfl
       .have hall:xa.all (BH.ok size)=true:=by rw[hr.out];rfl
        clear e1 e2 e3 e4 e5 e6 e7 e8 lbox lmt lsz hs hbad ih hn0 hf hr hnode;grind [CL,DP,QU,Dv]
      .rintro i y ⟨⟨g,st1⟩,c⟩ hy hi him ⟨hf,hfit1,hun,hv⟩ IH;dsimp only at*;try(exfalso;omega)
       all_goals (refine aw ?_)
       all_goals
       refine Ax (ih.out y size st1 g _ l sz mt df hun hfit1 h0 (by omega) (Dl hid2.out _) hf.looks) (fun o1 g1 p1=>?_);cases hvy:Ak p k y size st1 with
       |none=>
        obtain rfl:=p1.pan hvy;clear p1;refine aw ?_;refine CZ (hv.out.trans ?_);simp only[BZ,List.map_cons,BT,hvy]
       |some st2=>
        obtain⟨rfl,hl2,hfr⟩:=p1.ret st2 hvy;have hfr:=AA.mk hfr;clear p1;refine aw ?_;have hgr:=Be p _ _ _ _ _ hvy;refine IH.out ((_,st2),_) ⟨KF hf hid2.out ?_ hl2 hfr.out,Ed hfit1 hgr,Nat.le_trans hgr.less hun,⟨?_⟩⟩
        .intro q hq;cases List.mem_singleton.1 hq;dsimp only;omega
        .rw[hv.out];simp only[BZ,List.map_cons,BT,hvy]
      .rintro i ⟨⟨g,st1⟩,c⟩ hi him ⟨hf,hfit1,hun,hv⟩;dsimp only at*;refine aw ?_;refine⟨fun st' hst=>?_,fun hst=>?_⟩
       .rw[hv.out]at hst;cases hst;exact⟨rfl,hf.looks,hf.frame⟩
       .rw[hv.out]at hst;cases hst
  .have e:Ak p (k+1) n size st=none:=by
    rw[Ak];split
    .rename_i hh;have:=AK hh.2;rw[hfit.met]at this;omega
    .rfl
   rw[e];exact IG p hN n size st h π l sz mt df hfit hid2.out hl2.out fun _ h=>absurd h hn2
 .have e:Ak p (k+1) n size st=none:=by
   rw[Ak,if_neg fun hh=>hn hh.1]
  rw[e];exact IG p hN n size st h π l sz mt df hfit hid2.out hl2.out fun h=>absurd h hn
end Go.Proofs
namespace Go.Proofs
open Go Go.Abs
set_option maxRecDepth 100000
set_option maxHeartbeats 4000000
def Nw(x:Bool):List Bool→Int→Int
 |[],_=> -1
 |y::l,i=>if (x==y)=true then i else Nw x l (i+1)
theorem Rz(v:Bool): ∀(l:List Bool) (i:Int),0≤i→(0≤Nw v l i↔v∈l)
 |[],i,h=>by simp[Nw]
 |y::l,i,h=>by
  rw[Nw];split
  .rename_i e;have:v=y:=by simpa using e
   simp[this,h]
  .rename_i e;have: ¬v=y:=by simpa using e
   rw[Rz v l (i+1) (by omega)];simp[this]
@[go_sem] theorem p6(l:List Bool)(v:Bool)(hl:l.length≤1000000):Au (KL Tryz.prog cfg) 216 [.d (.lst (l.map Bh)),.d (.bool v)] []=.ok (.ret (.d (.int .i64 (Nw v l 0))),[]):=by
  (refine AU rfl Tryz.func216 rfl rfl rfl ?_;show Wp _ _ _ _ (Tryz.f216.body.get rfl) _ _;simp only[Tryz.f216,Option.get_some])
  refine aw ?_;refine Ad l (S:=fun i (u:Unit)=>⟨[(0,.d (.lst (l.map Bh))),(1,.d (.bool v)),(7,.d (.int .i64 l.length)),(8,.d (.int .i64 i))],[],0,[]⟩) (Inv:=fun i rest _=>AA (Nw v l 0=Nw v rest i)) (b0:=()) ⟨rfl⟩ ?_ ?_
  .rintro i y ⟨⟩ hy hi him hr IH
   (repeat' (first|simp only[go_sem, *]|(refine sx ?_ ?_<;>intro hc)|refine sy (by omega) fun x hx hm=>?_|simp(disch:=first|assumption|omega) only[wrap_id,AF,AC,slice_int]))
   .rw[hr.out,Nw,if_pos (by assumption)]
   .refine IH.out () ⟨?_⟩;rw[hr.out,Nw,if_neg (by simp[*])];rfl
  .rintro i ⟨⟩ hi him hr;refine aw ?_;rw[hr.out,Nw]
@[go_sem] theorem Hl(l:List Bool)(v:Bool)(hl:l.length≤1000000):Au (KL Tryz.prog cfg) 202 [.d (.lst (l.map Bh)),.d (.bool v)] []=.ok (.ret (.d (.bool (decide (v∈l)))),[]):=by
  have h:=Rz v l 0 (by omega)
  (refine AU rfl Tryz.func202 rfl rfl rfl ?_;show Wp _ _ _ _ (Tryz.f202.body.get rfl) _ _;simp only[Tryz.f202,Option.get_some])
  exact au
theorem C3(g:G)(id:Abs.Id)(n:Nat)(h:0<n)(hm:n≤1073741824):ED g id n {kind:=TK.int,size:=1,agg:=false,str:=false,zero:=[.d (.int .i64 0)],flds:=[],elem:=0,key:=0,mix:=false}=some ⟨.osl (1::id) 0 n,[(1::id,.darr 1 ((List.replicate n (0:Int)).map AG))]⟩:=by
 have e:(List.replicate n (0:Int)).map AG=List.replicate n [.int .i64 0]:=by rw[List.map_replicate];rfl
 rw[e];exact LK (zs:=[.int .i64 0]) h (by unfold Ay;omega) rfl rfl (by decide) rfl
theorem EO(g:G)(id:Abs.Id)(n:Nat)(h:0<n)(hm:n≤1073741824):ED g id n {kind:=TK.bool,size:=1,agg:=false,str:=false,zero:=[.d (.bool false)],flds:=[],elem:=0,key:=0,mix:=false}=some ⟨.osl (1::id) 0 n,[(1::id,.darr 1 ((List.replicate n false).map Bh))]⟩:=by
 have e:(List.replicate n false).map Bh=List.replicate n [.bool false]:=by rw[List.map_replicate];rfl
 rw[e];exact LK (zs:=[.bool false]) h (by unfold Ay;omega) rfl rfl (by decide) rfl
theorem Br(i t j:Nat)(π:List Nat)(h:i≠j):Id.under (i::π) (t::j::π)=false:=C6 fun hs=>by
 rcases List.suffix_cons_iff.1 hs with e|hs
 .have:=congrArg List.length e;simp at this
 rcases List.suffix_cons_iff.1 hs with e|hs
 .simp only[List.cons.injEq,and_true]at e;exact h e
 .have:=hs.length_le;simp at this;omega
theorem Fq(l:List Bool):l.all id=true↔ ¬false∈l:=by
 induction l with
 |nil=>simp
 |cons b l ih=>cases b<;>simp
theorem KV{p:AL}{st:Aw}(hs:p.small=true)(hf:HJ p.free=true)(hv:Ak p (p.nodes.length+1) p.main p.free.length (Aw.init p)=some st):looks p=if (¬false∈st.met)∧(¬false∈st.defs)then some st else none:=by
 unfold looks;rw[if_pos ⟨hs,hf⟩,hv];simp only[Fq]
theorem FK{id:Abs.Id}{n:Nat}(h:n=0):slv id n=.emp:=by rw[slv,if_pos h]
@[go_sem] theorem iG(v:Bool):Au (KL Tryz.prog cfg) 202 [.d (.lst []),.d (.bool v)] []=.ok (.ret (.d (.bool false)),[]):=by
  have:=Hl [] v (by simp);simpa using this
structure gP(p:AL)(π:List Nat)(r:AQ×AB):Prop where
 pan:looks p=none→r=(.pan Es,[])
 ret: ∀st,looks p=some st→ ∃h,r=(.ret (.ptr (0::16::π) 0),h)∧GO h p (0::16::π) (1::6::π) (1::10::π) (1::14::π) st∧ ∀id',Id.under π id'=false→h.get id'=none
theorem l5(p:AL)(hp: ∀s∈p.free,s.size≤maxLen)(k:Nat)(ρ:List Nat): ∃r:AQ×AB,Au (KL Tryz.prog cfg) 190 [.agg [.d (.lst (p.free.map AY)),.d (.lst (p.nodes.map AP)),.d (.lst (p.defs.map Ab)),.d (.int .i64 p.main)]] (k::ρ)=.ok r∧gP p (k::ρ) r:=by
 have hp:=AA.mk hp;by_cases hs:p.small=true
 ·(refine EB rfl Tryz.func190 rfl rfl rfl ?_;show Wp _ _ _ _ (Tryz.f190.body.get rfl) _ _;simp only[Tryz.f190,Option.get_some])
  have hs2:=AA.mk hs;simp only[AL.small,Bool.and_eq_true,decide_eq_true_eq]at hs;obtain⟨c1,c2,c3⟩:=hs;have c1:(p.free.length:Int)≤12:=by omega
  have c2:(p.nodes.length:Int)≤60:=by omega
  have c3:(p.defs.length:Int)≤12:=by omega
  refine aw ?_;refine AO p.free _ (S:=fun m i (u:Unit)=>⟨[(1,.ptr (0::0::k::ρ) 0),(24,.d (.lst (p.free.map AY))),(25,.d (.int .i64 m)),(26,.d (.int .i64 i))],[(0::0::k::ρ,.box [.d (.lst (p.free.map AY)),.d (.lst (p.nodes.map AP)),.d (.lst (p.defs.map Ab)),.d (.int .i64 p.main)])],1,[]⟩)
   (Inv:=fun i rest _=>AA (HJ p.free=FV (if i=0 then none else p.free[i-1]?) rest)) (b0:=()) rfl ⟨rfl⟩ ?_ ?_
  .rintro i y ⟨⟩ hy hi him hr IH;have hys:=hp.out y (List.mem_of_getElem? hy);have hnm:=lG y hys;have hbad:AA (HJ p.free=false→looks p=none):=.mk fun hf=>by
    rw[looks,if_neg (by rw[hf];simp)]
   rcases i with _|j
   .rw[if_pos rfl]at hr;have him0:(0:Int)<p.free.length:=by omega
    (repeat' (first|simp only[go_sem, *]|(refine sx ?_ ?_<;>intro hc)|refine sy (by omega) fun x hx hm=>?_|simp(disch:=first|assumption|omega) only[wrap_id,AF,AC,slice_int]))
    all_goals first
    |(exact⟨fun _=>rfl,fun st hst=>by rw[hbad.out (by rw[hr.out,FV];simp only[*,Bool.false_and])]at hst;cases hst⟩)
    |(refine IH.out () ⟨?_⟩
      rw[hr.out,FV,if_neg (by omega)];simp only[*,Bool.true_and];try rfl)
   .obtain⟨b,hb⟩:=get_some (l:=p.free) (i:=j) (by omega);rw[if_neg (by omega),Nat.add_sub_cancel,hb]at hr;have w:IntKind.i64.wrap (((j+1:Nat):Int)-1)=(j:Int):=by rw[wrap_id (by omega) (by omega)];omega
    have w0: ¬((j+1:Nat):Int)=0:=by omega
    (repeat' (first|simp only[go_sem, *]|(refine sx ?_ ?_<;>intro hc)|refine sy (by omega) fun x hx hm=>?_|simp(disch:=first|assumption|omega) only[wrap_id,AF,AC,slice_int]))
    .refine IH.out () ⟨?_⟩;rw[hr.out,FV,if_neg (by omega),Nat.add_sub_cancel,hy];simp only[Rj, *,Bool.true_and]
    .exact⟨fun _=>rfl,fun st hst=>by rw[hbad.out (by rw[hr.out,FV];simp only[Rj, *,Bool.false_and,Bool.and_false])]at hst;cases hst⟩
    .exact⟨fun _=>rfl,fun st hst=>by rw[hbad.out (by rw[hr.out,FV];simp only[*,Bool.false_and])]at hst;cases hst⟩
  .rintro i ⟨⟩ hi him hr;have hfree:AA (HJ p.free=true):=⟨hr.out⟩;clear hr;by_cases hN0:p.nodes.length=0
   .have e:looks p=none:=by
     unfold looks;split
     .have:Ak p (p.nodes.length+1) p.main p.free.length (Aw.init p)=none:=by
       rw[Ak,if_neg];intro hh;have:=AK hh.2;simp[Aw.init]at this;omega
      rw[this]
     .rfl
    by_cases hD0:p.defs.length=0;all_goals
     (repeat' (first|simp only[go_sem, *]|(refine sx ?_ ?_<;>intro hc)|refine sy (by omega) fun x hx hm=>?_|simp(disch:=first|assumption|omega) only[wrap_id,AF,AC,slice_int,C3,EO]))
     refine Ax (IG p (by omega) p.main p.free.length (Aw.init p) _ _ (0::16::k::ρ) (1::6::k::ρ) (1::10::k::ρ) (1::14::k::ρ) ⟨?_,?_,?_⟩ ?_ ⟨?_,fun h=>absurd hN0 h,fun h=>absurd hN0 h,fun _=>?_⟩ ?_) (fun o1 g1 p1=>?_)
     .simp[Aw.init]
     .simp[Aw.init]
     .simp[Aw.init]
     .constructor<;>first|exact Br _ _ _ _ (by decide)|simp only[go_sem]
     .simp only[slv,hN0,hD0,if_false,if_true];simp only[go_sem]
     .first|(exact absurd hD0 ‹_›)|simp only[go_sem,Aw.init]
     .omega
     obtain rfl:=p1.pan rfl;clear p1;refine aw ?_;exact⟨fun _=>rfl,fun st hst=>by rw[e]at hst;cases hst⟩
   .by_cases hD0:p.defs.length=0
    ·(repeat' (first|simp only[go_sem, *]|(refine sx ?_ ?_<;>intro hc)|refine sy (by omega) fun x hx hm=>?_|simp(disch:=first|assumption|omega) only[wrap_id,AF,AC,slice_int,C3,EO]))
     refine Ax (W6 p (by omega) (by omega) (p.nodes.length+1) p.main p.free.length (Aw.init p) _ _ (0::16::k::ρ) (1::6::k::ρ) (1::10::k::ρ) (1::14::k::ρ) ?_ ⟨?_,?_,?_⟩ ?_ ?_ ?_ ⟨?_,fun _=>?_,fun _=>?_,fun _=>?_⟩) (fun o1 g1 p1=>?_)
     .have:=Iu (Aw.init p).met;simp only[Aw.init,List.length_replicate]at*;omega
     .simp[Aw.init]
     .simp[Aw.init]
     .simp[Aw.init]
     .omega
     .omega
     .constructor<;>first|exact Br _ _ _ _ (by decide)|simp only[go_sem]
     .simp only[slv,hN0,hD0,if_false,if_true];simp only[go_sem]
     .simp only[go_sem,Aw.init]
     .simp only[go_sem,Aw.init]
     .exact absurd hD0 ‹_›
     cases hv:Ak p (p.nodes.length+1) p.main p.free.length (Aw.init p)with
     |none=>
      obtain rfl:=p1.pan hv;have e:looks p=none:=by
       unfold looks;rw[hv];split<;>rfl
      clear p1;refine aw ?_;exact⟨fun _=>rfl,fun st hst=>by rw[e]at hst;cases hst⟩
     |some st=>
      obtain⟨rfl,hl,hfr⟩:=p1.ret st hv;clear p1;have hfr:=AA.mk hfr;have hlk: ∃x,looks p=x:=⟨_,rfl⟩;obtain⟨x,hlk⟩:=hlk;have hlk:=AA.mk hlk;have hL:=Iw (ρ:=24::k::ρ) hl (by constructor<;>first|exact Br _ _ _ _ (by decide)|simp only[go_sem]);have hL:=AA.mk hL;obtain⟨b1,b2,b3,b4⟩:=hl;have b2:=b2 hN0;have b3:=b3 hN0;rw[Al hN0,Al hN0,FK hD0]at b1;have hg:=Be p _ _ _ _ _ hv;have m1:st.met.length=p.nodes.length:=by rw[hg.met];simp[Aw.init]
      have m2:st.defs.length=p.defs.length:=by rw[hg.defs];simp[Aw.init]
      have gu: ∀(t j:Nat),24≠j→(gc (24::k::ρ) g1).get (t::j::k::ρ)=g1.get (t::j::k::ρ):=fun t j hj=>Aj _ _ _ (Br _ _ _ _ hj);have q1:=(gu 0 16 (by decide)).trans b1;have q2:=(gu 1 6 (by decide)).trans b2;have q3:=(gu 1 10 (by decide)).trans b3;clear gu;have tk1:List.take p.nodes.length (List.map Bh st.met)=List.map Bh st.met:=List.take_of_length_le (by simp[m1]);have dn:st.defs=[]:=List.eq_nil_of_length_eq_zero (by omega)
      (repeat' (first|simp only[go_sem, *,Nat.le_refl,q1,q2,q3]|(refine sx ?_ ?_<;>intro hc)|refine sy (by omega) fun x hx hm=>?_|simp(disch:=first|assumption|omega) only[wrap_id,AF,AC,slice_int,Hl]))
      all_goals (have hlk:=hlk.out;subst hlk)
      all_goals (have hlk:=KV hs2.out hfree.out hv)
      all_goals first
      |(refine⟨fun _=>rfl,fun st' hst=>?_⟩
        rw[hlk,if_neg (by simp[*])]at hst;cases hst)
      |(refine⟨fun hst=>?_,fun st' hst=>?_⟩
        .rw[hlk,if_pos (by simp[*])]at hst;cases hst
        .rw[hlk,if_pos (by simp[*])]at hst;cases hst;refine⟨_,rfl,hL.out,fun id' hu=>?_⟩;have hu1:=AI hu;rw[Aj _ _ _ (AD hu _),hfr.out id' (AD hu _) (hu1 _ _) (hu1 _ _) (hu1 _ _)];simp only[go_sem,hu1,Bool.false_eq_true])
    ·(repeat' (first|simp only[go_sem, *]|(refine sx ?_ ?_<;>intro hc)|refine sy (by omega) fun x hx hm=>?_|simp(disch:=first|assumption|omega) only[wrap_id,AF,AC,slice_int,C3,EO]))
     refine Ax (W6 p (by omega) (by omega) (p.nodes.length+1) p.main p.free.length (Aw.init p) _ _ (0::16::k::ρ) (1::6::k::ρ) (1::10::k::ρ) (1::14::k::ρ) ?_ ⟨?_,?_,?_⟩ ?_ ?_ ?_ ⟨?_,fun _=>?_,fun _=>?_,fun _=>?_⟩) (fun o1 g1 p1=>?_)
     .have:=Iu (Aw.init p).met;simp only[Aw.init,List.length_replicate]at*;omega
     .simp[Aw.init]
     .simp[Aw.init]
     .simp[Aw.init]
     .omega
     .omega
     .constructor<;>first|exact Br _ _ _ _ (by decide)|simp only[go_sem]
     .simp only[slv,hN0,hD0,if_false];simp only[go_sem]
     .simp only[go_sem,Aw.init]
     .simp only[go_sem,Aw.init]
     .simp only[go_sem,Aw.init]
     cases hv:Ak p (p.nodes.length+1) p.main p.free.length (Aw.init p)with
     |none=>
      obtain rfl:=p1.pan hv;have e:looks p=none:=by
       unfold looks;rw[hv];split<;>rfl
      clear p1;refine aw ?_;exact⟨fun _=>rfl,fun st hst=>by rw[e]at hst;cases hst⟩
     |some st=>
      obtain⟨rfl,hl,hfr⟩:=p1.ret st hv;clear p1;have hfr:=AA.mk hfr;have hlk: ∃x,looks p=x:=⟨_,rfl⟩;obtain⟨x,hlk⟩:=hlk;have hlk:=AA.mk hlk;have hL:=Iw (ρ:=24::k::ρ) hl (by constructor<;>first|exact Br _ _ _ _ (by decide)|simp only[go_sem]);have hL:=AA.mk hL;obtain⟨b1,b2,b3,b4⟩:=hl;have b2:=b2 hN0;have b3:=b3 hN0;have b4:=b4 hD0;rw[Al hN0,Al hN0,Al hD0]at b1;have hg:=Be p _ _ _ _ _ hv;have m1:st.met.length=p.nodes.length:=by rw[hg.met];simp[Aw.init]
      have m2:st.defs.length=p.defs.length:=by rw[hg.defs];simp[Aw.init]
      have gu: ∀(t j:Nat),24≠j→(gc (24::k::ρ) g1).get (t::j::k::ρ)=g1.get (t::j::k::ρ):=fun t j hj=>Aj _ _ _ (Br _ _ _ _ hj);have q1:=(gu 0 16 (by decide)).trans b1;have q2:=(gu 1 6 (by decide)).trans b2;have q3:=(gu 1 10 (by decide)).trans b3;have q4:=(gu 1 14 (by decide)).trans b4;clear gu;have tk1:List.take p.nodes.length (List.map Bh st.met)=List.map Bh st.met:=List.take_of_length_le (by simp[m1]);have tk2:List.take p.defs.length (List.map Bh st.defs)=List.map Bh st.defs:=List.take_of_length_le (by simp[m2])
      (repeat' (first|simp only[go_sem, *,Nat.le_refl,q1,q2,q3,q4]|(refine sx ?_ ?_<;>intro hc)|refine sy (by omega) fun x hx hm=>?_|simp(disch:=first|assumption|omega) only[wrap_id,AF,AC,slice_int,Hl]))
      all_goals (have hlk:=hlk.out;subst hlk)
      all_goals (have hlk:=KV hs2.out hfree.out hv)
      all_goals first
      |(refine⟨fun _=>rfl,fun st' hst=>?_⟩
        rw[hlk,if_neg (by simp[*])]at hst;cases hst)
      |(refine⟨fun hst=>?_,fun st' hst=>?_⟩
        .rw[hlk,if_pos (by simp[*])]at hst;cases hst
        .rw[hlk,if_pos (by simp[*])]at hst;cases hst;refine⟨_,rfl,hL.out,fun id' hu=>?_⟩;have hu1:=AI hu;rw[Aj _ _ _ (AD hu _),hfr.out id' (AD hu _) (hu1 _ _) (hu1 _ _) (hu1 _ _)];simp only[go_sem,hu1,Bool.false_eq_true])
 .have e:looks p=none:=by
   unfold looks;rw[if_neg fun h=>hs h.1]
  have hs: ¬(p.free.length≤12∧p.nodes.length≤60∧p.defs.length≤12):=by
   intro h;apply hs;simp only[AL.small,Bool.and_eq_true,decide_eq_true_eq];exact h
  have hs:=AA.mk hs
  (refine EB rfl Tryz.func190 rfl rfl rfl ?_;show Wp _ _ _ _ (Tryz.f190.body.get rfl) _ _;simp only[Tryz.f190,Option.get_some])
  (repeat' (first|simp only[go_sem, *]|(refine sx ?_ ?_<;>intro hc)|refine sy (by omega) fun x hx hm=>?_|simp(disch:=first|assumption|omega) only[wrap_id,AF,AC,slice_int]))
  all_goals first
  |exact⟨fun _=>rfl,fun st hst=>by rw[e]at hst;cases hst⟩
  |(have hs:=hs.out;exfalso;omega)
end Go.Proofs
namespace Go.Proofs
open Go Go.Abs
set_option maxRecDepth 100000
set_option maxHeartbeats 4000000
def nU{α:Type}(C:Abs.Id→Prop)(I:List α→AB→Prop)(D:AQ→AB→Prop)(π ρ:List Nat)(l:List α)(H:AB)(o:AQ)(h':AB):Prop:=
 (o=.ret (.d (.bool (true)))∧I l h'∧ ∀i,¬C i→Id.under ρ i=false→h'.get i=H.get i)∨((o=.ret (.d (.bool (false)))∨ ∃v,o=.pan v)∧D o h'∧ ∀i,Id.under π i=true→Id.under ρ i=false→h'.get i=H.get i)
structure N8{α:Type}(val:AB→AV→α→Prop)(id:Abs.Id)(C:Abs.Id→Prop)(I:List α→AB→Prop)(D:AQ→AB→Prop)(π:List Nat):Prop where
 own:C id
 apart: ∀i,C i→Id.under π i=false
 loop: ∀{l:List α} {H:AB},I l H→ ∃r,H.get id=some (.loop r)
 eat: ∀{x:α} {l:List α} {H:AB} {ρ:List Nat} {v:AV} {r:Lp},I (x::l) H→H.get id=some (.loop r)→val H v x→(∀i,Id.under π i=false→Id.under ρ i=false)→(∀i∈AE v,¬C i∧Id.under ρ i=false)→
  ∃o h',KL Tryz.prog cfg (.round id r) [v] H ρ true none=.ok (o,h')∧nU C I D π ρ l H o h'
 same: ∀{l:List α} {H H':AB},I l H→(∀i,Id.under π i=false→H'.get i=H.get i)→I l H'
 sameD: ∀{o:AQ} {H H':AB},D o H→(∀i,(Id.under π i=false∨ ∃l,i=1::l)→H'.get i=H.get i)→D o H'
def mh{α:Type}(C:Abs.Id→Prop)(I:List α→AB→Prop)(D:AQ→AB→Prop)(π:List Nat)(h:AB)(o:AQ)(h':AB):Prop:=
 (o=.ret (.tup [])∧I [] h'∧ ∀i,¬C i→Id.under π i=false→h'.get i=h.get i)∨(o=.ret (.tup [])∧D (.ret (.d (.bool (false)))) h')∨((∃v,o=.pan v)∧D o h')
theorem N8.gcI{α:Type}{val:AB→AV→α→Prop}{id:Abs.Id}{C:Abs.Id→Prop}{I:List α→AB→Prop}{D:AQ→AB→Prop}{π:List Nat}(hE:N8 val id C I D π){l:List α}{H:AB}(h:I l H)(n:Nat):I l (gc (n::π) H):=hE.same h fun i hi=>Aj _ _ _ (AD hi n)
theorem N8.gcD{α:Type}{val:AB→AV→α→Prop}{id:Abs.Id}{C:Abs.Id→Prop}{I:List α→AB→Prop}{D:AQ→AB→Prop}{π:List Nat}(hE:N8 val id C I D π){o:AQ}{H:AB}(h:D o H)(n:Nat):D o (gc (n::π) H):=hE.sameD h fun i hi=>by
 rcases hi with hi|⟨l,rfl⟩
 .exact Aj _ _ _ (AD hi n)
 .exact Gp _ _ _
def XA(H:AB)(v:AV)(x:List Int):Prop:= ∃id,v=.osl id 0 x.length∧H.get id=some (.darr 1 (x.map AG))∧ ∃l,id=1::l
structure sc(C:Abs.Id→Prop)(I:List (List Int)→AB→Prop)(π:List Nat)(h:AB)(A:Abs.Id)(many:List Nat)(c:List Int)(L:List (List Int))(a:List Int)(g:AB):Prop where
 arr:g.get A=some (.darr 1 (a.map AG))
 dig:FW many c
 eat:I L g
 frame: ∀i,¬C i→Id.under π i=false→g.get i=h.get i
theorem cw{c z:List Int}{j:Nat}(hj:j<c.length)(x:Int):(c.take (j+1)++z).set j x=c.take j++x::z:=by
 obtain⟨d,hd⟩:=get_some hj;have hl:(c.take j).length=j:=by rw[List.length_take];omega
 rw[List.take_add_one,hd,List.append_assoc,List.set_append,if_neg (by omega),hl,Nat.sub_self];rfl
theorem WN{many:List Nat}(h0:0<many.length)(hl:many.length≤1000)(hm: ∀n∈many,n≤1000000){id:Abs.Id}{C:Abs.Id→Prop}{I:List (List Int)→AB→Prop}{D:AQ→AB→Prop}{π:List Nat}(hE:N8 XA id C I D π){h:AB}{B:Abs.Id}(hB:h.get B=some (.box [.d (.lst ((many.map fun(n:Nat)=>(n:Int)).map AG))]))(uB:Id.under π B=false)(nB: ¬C B)(hI:I (BB many) h):
 ∃o h',KL Tryz.prog cfg (.fn 158) [.yld id,.ptr B 0] h π true none=.ok (o,h')∧mh C I D π h o h':=by
 have uC:=hE.apart;have e1:=AI uB;have e2:=Ao uB;have hmk:=nz (many.map fun(n:Nat)=>(n:Int)) (by simpa using h0) (by simp;omega);by_cases hz:0∈many
 .rw[(R7 h0).2 hz]at hmk;rw[Lv hz]at hI
  (refine A0 rfl Tryz.func158 rfl rfl rfl ?_;show Wp _ _ _ _ (Tryz.f158.body.get rfl) _ _;simp only[Tryz.f158,Option.get_some])
  refine aw ?_;exact .inl ⟨rfl,hI,fun _ _ _=>rfl⟩
 .have hmz: ¬XN (many.map fun(n:Nat)=>(n:Int))=0:=fun e=>hz ((R7 h0).1 e);replace hI:=AA.mk hI;replace hE:=AA.mk hE;replace uC:=AA.mk uC;replace hm:=AA.mk hm
  (refine A0 rfl Tryz.func158 rfl rfl rfl ?_;show Wp _ _ _ _ (Tryz.f158.body.get rfl) _ _;simp only[Tryz.f158,Option.get_some])
  have hcl:=fun(l:List Int) (hl:l.length=many.length)=>fL l (by omega) (by omega);replace hcl:=AA.mk hcl
  (repeat' (first|simp only[go_sem, *]|(refine sx ?_ ?_<;>intro hc)|refine sy (by omega) fun x hx hm=>?_|simp(disch:=first|assumption|omega) only[wrap_id,AF,AC,slice_int,C3]))
  refine rounds (S:=fun(a:(List Int×AB)×Nat)=>⟨[(0,.yld id),(1,.ptr B 0),(3,.osl (1::5::π) 0 many.length)],a.1.2,a.2+7,[]⟩)
   (Inv:=fun a=>AA (sc C I π h (1::5::π) many a.1.1 (GJ many a.1.1) a.1.1 a.1.2)) (m:=fun a=>(GJ many a.1.1).length) (a:=((Di many.length,_),0)) ⟨?_⟩ ?_
  .refine⟨?_,Ig hz,?_,fun i q1 q2=>?_⟩
   .show(h.put (1::5::π) _).get (1::5::π)=_;rw[get_put,is_self];rfl
   .rw[K1 hz];exact hE.out.same hI.out fun i hi=>by rw[get_put,AI hi 1 5];rfl
   .show(h.put (1::5::π) _).get i=_;rw[get_put,AI q2 1 5];rfl
  .rintro⟨⟨c,g⟩,b⟩ hI2 IH;dsimp only at*;have gA:=hI2.out.arr;have hcl:=hcl.out c (hI2.out.dig.len);have hcl0:=hI2.out.dig.len;have gB:g.get B=_:=(hI2.out.frame B nB uB).trans hB;have fa:=Sf c;have tk:List.take many.length (c.map AG)=c.map AG:=List.take_of_length_le (by simp;omega);have ui:=uC.out id hE.out.own;have i1:=AI ui;have i2:Id.is (1::5::(b+9)::π) id=false:=AI (AD ui (b+9)) 1 5;obtain⟨r,hr⟩:=hE.out.loop hI2.out.eat;obtain⟨rest,hrest⟩: ∃t,t=R1 many (Gd many c):=⟨_,rfl⟩;obtain⟨rn1,rn2⟩:=am hI2.out.dig hz;rw[←hrest]at rn1;have hsm:=AA.mk fun l=>hE.out.same (l:=l) (H:=g) (H':=(1::5::(b+9)::π,.darr 1 (c.map AG))::g);have hi3:=hI2.out.eat;rw[rn1]at hi3;replace hi3:=AA.mk hi3;replace rn1:=AA.mk rn1;replace rn2:=AA.mk rn2;replace hrest:=AA.mk hrest;refine ax ?_;refine Ax (hE.out.eat (x:=c) (l:=rest) (hsm.out _ hi3.out fun i hi=>?_) (by simp only[go_sem,i2,hr,Bool.false_eq_true]) ⟨_,by rw[hcl0],by simp only[go_sem],_,rfl⟩ (fun i hi=>AD hi _) (fun i hi=>?_)) (fun o1 g1 p1=>?_)
   .have q:=AI (AD hi (b+9)) 1 5;simp only[go_sem,q,Bool.false_eq_true]
   .simp only[AE,List.mem_singleton]at hi;subst hi;exact⟨fun hc=>(by have:=uC.out _ hc;rw[show Id.under π (1::5::(b+9)::π)=true from Dm [1,5,b+9]]at this;cases this),GI _ _ _ _ _ (by omega)⟩
   rcases p1 with⟨rfl,p1,p2⟩|⟨p0,p1,_⟩
   .have fr: ∀i,¬C i→Id.under ((b+10)::π) i=false→Id.is (1::5::(b+9)::π) i=false→(gc ((b+10)::π) g1).get i=g.get i:=fun i q1 q2 q3=>by
     rw[Aj _ _ _ q2,p2 i q1 q2,BA,q3];rfl
    have gB2:=(fr B nB (AD uB _) (AI (AD uB (b+9)) 1 5)).trans gB;have gA2:=(fr (1::5::π) (fun hc=>by have:=uC.out _ hc;rw[show Id.under π (1::5::π)=true from Dm [1,5]]at this;cases this) (Ew _ _ _ _ (by omega)) (AM (by simp))).trans gA;have frm:AA (∀i,¬C i→Id.under π i=false→(gc ((b+10)::π) g1).get i=h.get i):=⟨fun i q1 q2=>(fr i q1 (AD q2 _) (AI (AD q2 (b+9)) 1 5)).trans (hI2.out.frame i q1 q2)⟩;clear p2 fr;replace p1:=AA.mk (hE.out.gcI p1 (b+10));refine ax ?_;have hdg:=AA.mk hI2.out.dig;replace hI2:=AA.mk hI2;refine rounds (S:=fun(a:(Nat×AB)×Nat)=>⟨[(0,.yld id),(1,.ptr B 0),(3,.osl (1::5::π) 0 many.length),(4,.d (.int .i64 ((a.1.1:Int)-1)))],a.1.2,b+a.2+16,[]⟩)
     (Inv:=fun a=>a.1.1≤many.length∧AA (W1 many c a.1.1)∧a.1.2.get (1::5::π)=some (.darr 1 ((c.take a.1.1++Di (many.length-a.1.1)).map AG))∧a.1.2.get B=some (.box [.d (.lst ((many.map fun(n:Nat)=>(n:Int)).map AG))])∧AA (I rest a.1.2∧ ∀i,¬C i→Id.under π i=false→a.1.2.get i=h.get i)) (m:=fun a=>a.1.1) (a:=((many.length,_),0)) ⟨Nat.le_refl _,⟨fun t h1 h2=>absurd h2 (Nat.not_lt.2 h1)⟩,?_,gB2,⟨p1.out,frm.out⟩⟩ ?_
    .show(gc ((b+10)::π) g1).get (1::5::π)=some (.darr 1 ((c.take many.length++Di (many.length-many.length)).map AG));rw[gA2,Nat.sub_self,Di,List.replicate_zero,List.append_nil,List.take_of_length_le (by omega)]
    clear gA2 gB2 p1 frm gA gB hr hcl;rintro⟨⟨j,g2⟩,b2⟩ ⟨hj,hend,gA,gB,hI3⟩ IH2;dsimp only at*;rcases j with _|j
    .have hr0:AA (rest=[]):=⟨by rw[hrest.out,On hdg.out hend.out];rfl⟩;refine ax ?_;all_goals first
     |omega
     |exact .inl ⟨rfl,by have:=hI3.out.1;rwa [hr0.out]at this,hI3.out.2⟩
    .obtain⟨d,hd⟩:=get_some (l:=c) (i:=j) (by omega);obtain⟨n,hn⟩:=get_some (l:=many) (i:=j) (by omega);obtain⟨a,ha⟩: ∃a,a=c.take (j+1)++Di (many.length-(j+1)):=⟨_,rfl⟩;have al:a.length=many.length:=by rw[ha,List.length_append,List.length_take,Di,List.length_replicate];omega
     have ad:a[j]? =some d:=by rw[ha,List.getElem?_append_left (by rw[List.length_take];omega),List.getElem?_take,if_pos (by omega),hd]
     rw[←ha]at gA;have ek:(((j+1:Nat):Int)-1)=j:=by omega
     have hmn:(many.map fun(n:Nat)=>(n:Int))[j]? =some (n:Int):=by rw[List.getElem?_map,hn];rfl
     have hnm:=hm.out n (List.mem_of_getElem? hn);have w1:IntKind.i64.wrap ((n:Int)-1)=(n:Int)-1:=wrap_id (by omega) (by omega);have jl:j<many.length:=by omega
     have j0: ¬(j:Int)<0:=by omega
     replace ha:=AA.mk ha;rw[ek];have put: ∀o,AA (I rest (g2.put (1::5::π) o)∧(g2.put (1::5::π) o).get B=some (.box [.d (.lst ((many.map fun(n:Nat)=>(n:Int)).map AG))])∧ ∀i,¬C i→Id.under π i=false→(g2.put (1::5::π) o).get i=h.get i):=fun o=>⟨hE.out.same hI3.out.1 (fun i hi=>by rw[get_put,AI hi 1 5];rfl),by rw[get_put,e1];exact gB,fun i q1 q2=>by rw[get_put,AI q2 1 5];exact hI3.out.2 i q1 q2⟩;have hdg0:=hdg.out;by_cases hdn:d=(n:Int)-1
     .have hset: ∀x:Int,(a.map AG).set j [.int .i64 x]=(c.take j++x::Di (many.length-(j+1))).map AG:=fun x=>by
       rw[←cw (by omega),←ha.out,List.map_set];rfl
      replace hset:=AA.mk hset;replace put:=AA.mk put;replace hdg0:=AA.mk hdg0;refine ax ?_;rw[hset.out];refine IH2.out ((j,_),b2+21) (by simp) ⟨by dsimp only;omega,⟨fun t h1 h2=>?_⟩,?_,(put.out _).out.2.1,⟨(put.out _).out.1,(put.out _).out.2.2⟩⟩
      .by_cases htj:t=j
       .subst htj;exact⟨d,n,hd,hn,hdn⟩
       .exact hend.out t (by dsimp only at h1;omega) h2
      .show(g2.put (1::5::π) _).get (1::5::π)=some (.darr 1 ((c.take j++Di (many.length-j)).map AG));rw[get_put,is_self,show many.length-j=(many.length-(j+1))+1 by omega];rfl
     .have hns:=XQ hdg0 hend.out hd hn hdn;have hset: ∀x:Int,(a.map AG).set j [.int .i64 x]=(c.take j++x::Di (many.length-(j+1))).map AG:=fun x=>by
       rw[←cw (by omega),←ha.out,List.map_set];rfl
      have w2:IntKind.i64.wrap (d+1)=d+1:=by
       have:=dD hdg0 hd hn;exact wrap_id (by omega) (by omega)
      obtain⟨c',hc'⟩: ∃t,t=c.take j++(d+1)::Di (many.length-(j+1)):=⟨_,rfl⟩;rw[←hc']at hns;have hre:AA (rest=GJ many c'):=⟨by rw[hrest.out,hns];rfl⟩;have hdc:=AA.mk (rn2.out c' hns);replace hset:=AA.mk hset;replace put:=AA.mk put;replace hdg0:=AA.mk hdg0;replace hns:=AA.mk hns;replace hc':=AA.mk hc';refine ax ?_;rw[hset.out,←hc'.out];refine IH.out ((c',_),b+b2+32) ?_ ⟨?_,hdc.out,by rw[←hre.out];exact(put.out _).out.1,(put.out _).out.2.2⟩
      .dsimp only;rw[rn1.out,←hre.out];simp
      .dsimp only;rw[get_put,is_self];rfl
   .replace p1:=AA.mk (hE.out.gcD p1 (b+10));rcases p0 with rfl|⟨v,rfl⟩
    .refine ax ?_;exact .inr (.inl ⟨rfl,p1.out⟩)
    .refine ax ?_;exact .inr (.inr ⟨⟨v,rfl⟩,p1.out⟩)
end Go.Proofs
namespace Go.Proofs
open Go Go.Abs
set_option maxRecDepth 100000
set_option maxHeartbeats 4000000
def FX(b:Bool):List AN:=[.int .i64 (if b then 1 else 0)]
theorem eN:FX true=[.int .i64 1]:=rfl
theorem co:FX false=[.int .i64 0]:=rfl
attribute [go_sem] eN co
def Ca(p:AL)(sz ow us:Abs.Id)(bad:Bool):Abs.Obj:=.box [.d (.lst (p.free.map AY)),.d (.lst (p.nodes.map AP)),.d (.lst (p.defs.map Ab)),.d (.int .i64 p.main),slv sz p.nodes.length,slv ow p.nodes.length,slv us p.defs.length,.d (.bool bad)]
structure EY(h:AB)(p:AL)(l sz ow us:Abs.Id)(st:Aw)(bad:Bool):Prop where
 box:h.get l=some (Ca p sz ow us bad)
 sizes:bad=false→p.nodes.length≠0→h.get sz=some (.darr 1 (st.sizes.map AG))
 met:bad=false→p.nodes.length≠0→h.get ow=some (.darr 1 (st.met.map FX))
 defs:bad=false→p.defs.length≠0→h.get us=some (.darr 1 (st.defs.map FX))
 ks:p.nodes.length≠0→ ∃A,h.get sz=some (.darr 1 A)
 km:p.nodes.length≠0→ ∃A,h.get ow=some (.darr 1 A)
 kd:p.defs.length≠0→ ∃A,h.get us=some (.darr 1 A)
structure Mg(p:AL)(l sz ow us:Abs.Id)(h:AB)(π:List Nat)(r:Option Aw)(o:AQ)(h':AB):Prop where
 ret:o=.ret (.tup [])
 frame: ∀id',Id.under π id'=false→Id.is l id'=false→Id.is sz id'=false→Id.is ow id'=false→Id.is us id'=false→h'.get id'=h.get id'
 yes: ∀st',r=some st'→EY h' p l sz ow us st' false
 no:r=none→ ∀st0,EY h' p l sz ow us st0 true
structure QX(p:AL)(l sz ow us:Abs.Id)(h:AB)(π:List Nat)(L:List (Nat×Abs.Obj))(st:Aw)(bad:Bool)(g:AB):Prop where
 looks:EY g p l sz ow us st bad
 node: ∀q∈L,g.get (0::q.1::π)=some q.2
 frame: ∀id',Id.under π id'=false→Id.is l id'=false→Id.is sz id'=false→Id.is ow id'=false→Id.is us id'=false→g.get id'=h.get id'
theorem E2{g:AB}{p:AL}{l sz mt df:Abs.Id}{st:Aw}{b:Bool}{ρ:List Nat}(h:EY g p l sz mt df st b)(hi:QW ρ l sz mt df):EY (gc ρ g) p l sz mt df st b:=
 ⟨by rw[Aj _ _ _ hi.ul];exact h.box,fun hb hn=>by rw[Aj _ _ _ hi.us];exact h.sizes hb hn,fun hb hn=>by rw[Aj _ _ _ hi.um];exact h.met hb hn,fun hb hn=>by rw[Aj _ _ _ hi.ud];exact h.defs hb hn,fun hn=>by rw[Aj _ _ _ hi.us];exact h.ks hn,fun hn=>by rw[Aj _ _ _ hi.um];exact h.km hn,fun hn=>by rw[Aj _ _ _ hi.ud];exact h.kd hn⟩
theorem Wg{p:AL}{l sz mt df:Abs.Id}{h:AB}{π:List Nat}{L:List (Nat×Abs.Obj)}{st:Aw}{b b':Bool}{g:AB}{o:Abs.Obj}(hf:QX p l sz mt df h π L st b g)(hi:QW π l sz mt df)(ho:o=Ca p sz mt df b')(hbb:b'=false→b=false):QX p l sz mt df h π L st b' (g.put l o):=by
 refine⟨⟨?_,fun hb hn=>?_,fun hb hn=>?_,fun hb hn=>?_,fun hn=>?_,fun hn=>?_,fun hn=>?_⟩,fun q hq=>?_,fun id' h1 h0 h2 h3 h4=>?_⟩
 .rw[get_put,is_self,ho];rfl
 .rw[get_put,hi.ls];exact hf.looks.sizes (hbb hb) hn
 .rw[get_put,hi.lm];exact hf.looks.met (hbb hb) hn
 .rw[get_put,hi.ld];exact hf.looks.defs (hbb hb) hn
 .rw[get_put,hi.ls];exact hf.looks.ks hn
 .rw[get_put,hi.lm];exact hf.looks.km hn
 .rw[get_put,hi.ld];exact hf.looks.kd hn
 .rw[get_put,Ao hi.ul];exact hf.node q hq
 .rw[get_put,h0];exact hf.frame id' h1 h0 h2 h3 h4
theorem D3{p:AL}{l sz mt df:Abs.Id}{h:AB}{π:List Nat}{L:List (Nat×Abs.Obj)}{st st':Aw}{b b':Bool}{g g':AB}(hf:QX p l sz mt df h π L st b g)(hi:QW π l sz mt df){j:Nat}(hj: ∀q∈L,j≠q.1)(hl:EY g' p l sz mt df st' b')(hg: ∀id',Id.under (j::π) id'=false→Id.is l id'=false→Id.is sz id'=false→Id.is mt id'=false→Id.is df id'=false→g'.get id'=g.get id'):QX p l sz mt df h π L st' b' (gc (j::π) g'):=by
 refine⟨E2 hl (Dl hi j),fun q hq=>?_,fun id' h1 h0 h2 h3 h4=>?_⟩
 .have hu:=Ot j q.1 π (hj q hq);rw[Aj _ _ _ hu,hg _ hu (Ao hi.ul _ _) (Ao hi.us _ _) (Ao hi.um _ _) (Ao hi.ud _ _)];exact hf.node q hq
 .rw[Aj _ _ _ (AD h1 j),hg _ (AD h1 j) h0 h2 h3 h4];exact hf.frame id' h1 h0 h2 h3 h4
theorem nj{p:AL}{l sz mt df:Abs.Id}{h:AB}{π:List Nat}{L:List (Nat×Abs.Obj)}{st:Aw}{g:AB}(hf:QX p l sz mt df h π L st false g)(hi:QW π l sz mt df)(i:Nat):QX p l sz mt df h π L {st with defs:=st.defs.set i true} false (g.put df (.darr 1 ((st.defs.map FX).set i [.int .i64 1]))):=by
 refine⟨⟨?_,fun hb hn=>?_,fun hb hn=>?_,fun hb hn=>?_,fun hn=>?_,fun hn=>?_,fun hn=>?_⟩,fun q hq=>?_,fun id' h1 h0 h2 h3 h4=>?_⟩
 .rw[get_put,hi.dl];exact hf.looks.box
 .rw[get_put,hi.ds];exact hf.looks.sizes hb hn
 .rw[get_put,hi.dm];exact hf.looks.met hb hn
 .rw[get_put,is_self,List.map_set];rfl
 .rw[get_put,hi.ds];exact hf.looks.ks hn
 .rw[get_put,hi.dm];exact hf.looks.km hn
 .rw[get_put,is_self];exact⟨_,rfl⟩
 .rw[get_put,Ao hi.ud];exact hf.node q hq
 .rw[get_put,h4];exact hf.frame id' h1 h0 h2 h3 h4
theorem EY.any{h:AB}{p:AL}{l sz ow us:Abs.Id}{st st0:Aw}(hl:EY h p l sz ow us st true):EY h p l sz ow us st0 true:=⟨hl.box,fun h=>(by cases h),fun h=>(by cases h),fun h=>(by cases h),hl.ks,hl.km,hl.kd⟩
theorem Dg{p:AL}{l sz mt df:Abs.Id}{h:AB}{π:List Nat}{L:List (Nat×Abs.Obj)}{st:Aw}{b:Bool}{g:AB}{o:Abs.Obj}{r:Option Aw}(hf:QX p l sz mt df h π L st b g)(hi:QW π l sz mt df)(ho:o=Ca p sz mt df true)(hr:r=none):Mg p l sz mt df h π r (.ret (.tup [])) (g.put l o):=by
 refine⟨rfl,fun id' h1 h0 h2 h3 h4=>?_,fun st' e=>?_,fun _ st0=>?_⟩
 .rw[get_put,h0];exact hf.frame id' h1 h0 h2 h3 h4
 .rw[hr]at e;cases e
 .exact(Wg (b':=true) {hf with looks:={hf.looks with sizes:=hf.looks.sizes,met:=hf.looks.met,defs:=hf.looks.defs}} hi ho (by simp)).looks.any
theorem Dj{p:AL}{l sz mt df:Abs.Id}{h:AB}{π:List Nat}{L:List (Nat×Abs.Obj)}{st:Aw}{g:AB}{r:Option Aw}(hf:QX p l sz mt df h π L st true g)(hr:r=none):Mg p l sz mt df h π r (.ret (.tup [])) g:=by
 refine⟨rfl,hf.frame,fun st' e=>?_,fun _ st0=>hf.looks.any⟩;rw[hr]at e;cases e
theorem K7{p:AL}{l sz mt df:Abs.Id}{h:AB}{π:List Nat}{L:List (Nat×Abs.Obj)}{st:Aw}{g:AB}{r:Option Aw}(hf:QX p l sz mt df h π L st false g)(hr:r=some st):Mg p l sz mt df h π r (.ret (.tup [])) g:=by
 refine⟨rfl,hf.frame,fun st' e=>?_,fun e=>?_⟩
 .rw[hr]at e;cases e;exact hf.looks
 .rw[hr]at e;cases e
theorem J5{f:Int→Int→Aw→Option Aw}: ∀{l m:List (Int×Int)} {st:Aw},BT f (l++m) st=match BT f l st with|some st'=>BT f m st'|none=>none
 |[],m,st=>rfl
 |(n,s)::l,m,st=>by
  rw[List.cons_append,BT,BT];cases f n s st with
  |none=>rfl
  |some st1=>exact J5
def qG(p:AL)(k:Nat):Prop:= ∀(n size:Int) (st:Aw) (h:AB) (π:List Nat) (l sz ow us:Abs.Id),Ci st.met≤k→st.fit p→0≤size→size+70*k≤5000→QW π l sz ow us→EY h p l sz ow us st false→
    ∃o h',KL Tryz.prog cfg (.fn 129) [.ptr l 0,.d (.int .i64 n),.d (.int .i64 size)] h π true none=.ok (o,h')∧Mg p l sz ow us h π (Ak p k n size st) o h'
theorem jW(p:AL)(hN:p.nodes.length≤60)(hD:p.defs.length≤12)(k:Nat)(ih:qG p k)(d:Ba)(hdo:Nb d)(size:Int)(st:Aw)(h:AB)(π:List Nat)(l sz ow us:Abs.Id)(hk:Ci st.met≤k)(hfit:st.fit p)(h0:0≤size)(hb:size+10+70*k≤5000)(hid:QW π l sz ow us)(hl:EY h p l sz ow us st false):
 ∃o h',KL Tryz.prog cfg (.fn 170) [.ptr l 0,.agg [.d (.lst (d.chans.map Av)),.d (.lst (d.spots.map Af)),.d (.lst (d.rules.map Am))],.d (.int .i64 size)] h π true none=.ok (o,h')∧Mg p l sz ow us h π (BT (Ak p k) (Bm d size d.rules++BW size d.spots) st) o h':=by
 have hid2:=AA.mk hid;have c1:=hdo.chans;have c2:=hdo.spots;have c3:=hdo.rules;replace hdo:=AA.mk hdo;replace ih:=AA.mk ih;have hlb:=hl.box;rw[Ca]at hlb;have e1:=AI hid.ul;have e5:=Ao hid.ul;clear hid;have hd0:AA (QX p l sz ow us h π [(0,.box [.d (.lst (d.chans.map Av)),.d (.lst (d.spots.map Af)),.d (.lst (d.rules.map Am))])] st false (h.put (0::0::π) (.box [.d (.lst (d.chans.map Av)),.d (.lst (d.spots.map Af)),.d (.lst (d.rules.map Am))]))):=by
  refine⟨⟨⟨?_,fun _ hn=>?_,fun _ hn=>?_,fun _ hn=>?_,fun hn=>?_,fun hn=>?_,fun hn=>?_⟩,?_,fun id' h1 h0 h2 h3 h4=>?_⟩⟩
  .rw[get_put,AI hid2.out.ul];exact hl.box
  .rw[get_put,AI hid2.out.us];exact hl.sizes rfl hn
  .rw[get_put,AI hid2.out.um];exact hl.met rfl hn
  .rw[get_put,AI hid2.out.ud];exact hl.defs rfl hn
  .rw[get_put,AI hid2.out.us];exact hl.ks hn
  .rw[get_put,AI hid2.out.um];exact hl.km hn
  .rw[get_put,AI hid2.out.ud];exact hl.kd hn
  .intro q hq;cases List.mem_singleton.1 hq;simp only[get_put,is_self,if_true]
  .simp only[get_put,AI h1,Bool.false_eq_true,if_false]
 replace hl:=AA.mk hl
 (refine A0 rfl Tryz.func170 rfl rfl rfl ?_;show Wp _ _ _ _ (Tryz.f170.body.get rfl) _ _;simp only[Tryz.f170,Option.get_some])
 refine aw ?_;refine Ad d.rules (S:=fun i a=>⟨[(0,.ptr l 0),(2,.d (.int .i64 size)),(4,.ptr (0::0::π) 0),(6,.d (.int .i64 i))],a.1.1,a.2+2,[]⟩)
  (Inv:=fun i rest a=> ∃b,QX p l sz ow us h π [(0,.box [.d (.lst (d.chans.map Av)),.d (.lst (d.spots.map Af)),.d (.lst (d.rules.map Am))])] a.1.2 b a.1.1∧a.1.2.fit p∧Ci a.1.2.met≤k∧AA (b=false→BT (Ak p k) (Bm d size d.rules++BW size d.spots) st=BT (Ak p k) (Bm d size rest++BW size d.spots) a.1.2)∧AA (b=true→BT (Ak p k) (Bm d size d.rules++BW size d.spots) st=none)) (b0:=((_,st),_)) ?_ ?_ ?_
 .exact⟨false,hd0.out,hfit,hk,⟨fun _=>rfl⟩,⟨fun h=>(by cases h)⟩⟩
 .rintro i r ⟨⟨g,st1⟩,c⟩ hy hi him ⟨b,hf,hfit1,hun,hv,hno⟩ IH;dsimp only at*;have hr1:=hf.node _ (List.mem_cons_self ..);have hr2:=hf.looks.box;rw[Ca]at hr2;dsimp only at hr1;cases b
  .have hj:=JW hdo.out (List.mem_of_getElem? hy);have hb1:=jB d r hj;have hb2:=HY hj.2.2 r.joins;have hb3:=hj.1;replace hj:=AA.mk hj;refine aw ?_;refine PF (ih.out r.node (size+Bn d r.joins) st1 _ _ l sz ow us hun hfit1 (by omega) (by omega) (Dl hid2.out _) hf.looks) (fun o1 g1 p1=>?_);obtain rfl:=p1.ret;replace p1:=AA.mk p1;refine aw ?_;cases hvy:Ak p k r.node (size+Bn d r.joins) st1 with
   |none=>
    refine IH.out ((_,st1),_) ⟨true,D3 hf hid2.out ?_ (p1.out.no hvy _) p1.out.frame,hfit1,hun,⟨fun h=>(by cases h)⟩,⟨fun _=>?_⟩⟩
    .simp only[List.mem_cons,List.not_mem_nil,or_false,forall_eq_or_imp,forall_eq];omega
    .rw[hv.out rfl];simp only[Bm,List.map_cons,List.cons_append,BT,hvy]
   |some st2=>
    have hgr:=Be p _ _ _ _ _ hvy;refine IH.out ((_,st2),_) ⟨false,D3 hf hid2.out ?_ (p1.out.yes _ hvy) p1.out.frame,Ed hfit1 hgr,Nat.le_trans hgr.less hun,⟨fun _=>?_⟩,⟨fun h=>(by cases h)⟩⟩
    .simp only[List.mem_cons,List.not_mem_nil,or_false,forall_eq_or_imp,forall_eq];omega
    .rw[hv.out rfl];simp only[Bm,List.map_cons,List.cons_append,BT,hvy]
  .refine aw ?_;rw[B5]
   (repeat' (first|simp only[go_sem, *]|(refine sx ?_ ?_<;>intro hc)|refine sy (by omega) fun x hx hm=>?_|simp(disch:=first|assumption|omega) only[wrap_id,AF,AC,slice_int]))
   all_goals exact Dj hf (hno.out rfl)
 .rintro i ⟨⟨g,st1⟩,c⟩ hi him ⟨b,hf,hfit1,hun,hv,hno⟩;dsimp only at*;have hr1:=hf.node _ (List.mem_cons_self ..);have hr2:=hf.looks.box;rw[Ca]at hr2;dsimp only at hr1;cases b
  .refine aw ?_;refine Ad d.spots (S:=fun i a=>⟨[(0,.ptr l 0),(2,.d (.int .i64 size)),(4,.ptr (0::0::π) 0),(7,.d (.int .i64 i))],a.1.1,a.2+2,[]⟩)
    (Inv:=fun i rest a=> ∃b,QX p l sz ow us h π [(0,.box [.d (.lst (d.chans.map Av)),.d (.lst (d.spots.map Af)),.d (.lst (d.rules.map Am))])] a.1.2 b a.1.1∧a.1.2.fit p∧Ci a.1.2.met≤k∧AA (b=false→BT (Ak p k) (Bm d size d.rules++BW size d.spots) st=BT (Ak p k) (BW size rest) a.1.2)∧AA (b=true→BT (Ak p k) (Bm d size d.rules++BW size d.spots) st=none)) (b0:=((_,st1),_)) ?_ ?_ ?_
   .exact⟨false,hf,hfit1,hun,⟨fun _=>hv.out rfl⟩,⟨fun h=>(by cases h)⟩⟩
   .clear hf hr1 hr2 hi him hfit1 hun hv hno g c i st1;rintro i r ⟨⟨g,st1⟩,c⟩ hy hi him ⟨b,hf,hfit1,hun,hv,hno⟩ IH;dsimp only at*;have hr1:=hf.node _ (List.mem_cons_self ..);have hr2:=hf.looks.box;rw[Ca]at hr2;dsimp only at hr1;cases b
    .refine aw ?_;refine Ax (ih.out r.node size st1 _ _ l sz ow us hun hfit1 (by omega) (by omega) (Dl hid2.out _) hf.looks) (fun o1 g1 p1=>?_);obtain rfl:=p1.ret;replace p1:=AA.mk p1;refine aw ?_;cases hvy:Ak p k r.node size st1 with
     |none=>
      refine IH.out ((_,st1),_) ⟨true,D3 hf hid2.out ?_ (p1.out.no hvy _) p1.out.frame,hfit1,hun,⟨fun h=>(by cases h)⟩,⟨fun _=>?_⟩⟩
      .simp only[List.mem_cons,List.not_mem_nil,or_false,forall_eq_or_imp,forall_eq];omega
      .rw[hv.out rfl];simp only[BW,List.map_cons,List.cons_append,BT,hvy]
     |some st2=>
      have hgr:=Be p _ _ _ _ _ hvy;refine IH.out ((_,st2),_) ⟨false,D3 hf hid2.out ?_ (p1.out.yes _ hvy) p1.out.frame,Ed hfit1 hgr,Nat.le_trans hgr.less hun,⟨fun _=>?_⟩,⟨fun h=>(by cases h)⟩⟩
      .simp only[List.mem_cons,List.not_mem_nil,or_false,forall_eq_or_imp,forall_eq];omega
      .rw[hv.out rfl];simp only[BW,List.map_cons,List.cons_append,BT,hvy]
    .refine aw ?_;exact Dj hf (hno.out rfl)
   .clear hf hr1 hr2 hi him hfit1 hun hv hno g c i st1;rintro i ⟨⟨g,st1⟩,c⟩ hi him ⟨b,hf,hfit1,hun,hv,hno⟩;dsimp only at*;have hr1:=hf.node _ (List.mem_cons_self ..);have hr2:=hf.looks.box;rw[Ca]at hr2;dsimp only at hr1;cases b
    .refine aw ?_;exact K7 hf (hv.out rfl)
    .refine aw ?_;exact Dj hf (hno.out rfl)
  .refine aw ?_;rw[B5]
   (repeat' (first|simp only[go_sem, *]|(refine sx ?_ ?_<;>intro hc)|refine sy (by omega) fun x hx hm=>?_|simp(disch:=first|assumption|omega) only[wrap_id,AF,AC,slice_int]))
   all_goals exact Dj hf (hno.out rfl)
theorem F0(p:AL)(hN:p.nodes.length≤60)(n size:Int)(st:Aw)(h:AB)(π:List Nat)(l sz ow us:Abs.Id)(hfit:st.fit p)(hid:QW π l sz ow us)(hl:EY h p l sz ow us st false)(hb:0≤n→n<p.nodes.length→st.met[n.toNat]? =some true):
 ∃o h',KL Tryz.prog cfg (.fn 129) [.ptr l 0,.d (.int .i64 n),.d (.int .i64 size)] h π true none=.ok (o,h')∧Mg p l sz ow us h π none o h':=by
 have hR:QX p l sz ow us h π [] st false h:=⟨hl,by simp,fun _ _ _ _ _ _=>rfl⟩;have hlv: ∀b,Ca p sz ow us b=.box [.d (.lst (p.free.map AY)),.d (.lst (p.nodes.map AP)),.d (.lst (p.defs.map Ab)),.d (.int .i64 p.main),slv sz p.nodes.length,slv ow p.nodes.length,slv us p.defs.length,.d (.bool b)]:=fun b=>rfl;have lbox:=hl.box;rw[Ca]at lbox;have lmt:=hl.met rfl;have e1:=AI hid.ul;replace hl:=AA.mk hl;replace hb:=AA.mk hb;replace hR:=AA.mk hR;have hid2:=AA.mk hid;have hfm:=hfit.met;by_cases hn:n<0
 ·(refine A0 rfl Tryz.func129 rfl rfl rfl ?_;show Wp _ _ _ _ (Tryz.f129.body.get rfl) _ _;simp only[Tryz.f129,Option.get_some])
  refine aw ?_;exact Dg hR.out hid2.out rfl rfl
 .by_cases hn2:(p.nodes.length:Int)≤n
  ·(refine A0 rfl Tryz.func129 rfl rfl rfl ?_;show Wp _ _ _ _ (Tryz.f129.body.get rfl) _ _;simp only[Tryz.f129,Option.get_some])
   refine aw ?_;exact Dg hR.out hid2.out rfl rfl
  .have hne:p.nodes.length≠0:=by omega
   have hn0:0≤n:=by omega
   have hlt:n.toNat<p.nodes.length:=by omega
   have ht:=hb.out (by omega) (by omega);have lmt:=lmt hne;rw[Al hne,Al hne]at lbox;have hlv:AA (Abs.Obj.box [.d (.lst (p.free.map AY)),.d (.lst (p.nodes.map AP)),.d (.lst (p.defs.map Ab)),.d (.int .i64 p.main),.osl sz 0 p.nodes.length,.osl ow 0 p.nodes.length,slv us p.defs.length,.d (.bool true)]=Ca p sz ow us true):=⟨by rw[Ca,Al hne,Al hne]⟩
   (refine A0 rfl Tryz.func129 rfl rfl rfl ?_;show Wp _ _ _ _ (Tryz.f129.body.get rfl) _ _;simp only[Tryz.f129,Option.get_some])
   refine aw ?_;exact Dg hR.out hid2.out hlv.out rfl
theorem Qa(p:AL)(hN:p.nodes.length≤60)(hD:p.defs.length≤12)(hdefs: ∀d∈p.defs,d.okG=true): ∀(k:Nat) (n size:Int) (st:Aw) (h:AB) (π:List Nat) (l sz ow us:Abs.Id),Ci st.met≤k→st.fit p→0≤size→size+70*k≤5000→QW π l sz ow us→EY h p l sz ow us st false→
 ∃o h',KL Tryz.prog cfg (.fn 129) [.ptr l 0,.d (.int .i64 n),.d (.int .i64 size)] h π true none=.ok (o,h')∧Mg p l sz ow us h π (Ak p k n size st) o h':=by
 intro k;induction k with
 |zero=>
  intro n size st h π l sz ow us hk hfit h0 hb hid hl;refine F0 p hN n size st h π l sz ow us hfit hid hl fun h1 h2=>?_;obtain⟨t,ht⟩:=get_some (l:=st.met) (i:=n.toNat) (by rw[hfit.met];omega);cases t with
  |true=>exact ht
  |false=>have:=DK ht;omega
 |succ k ih=>
 intro n size st h π l sz ow us hk hfit h0 hb hid hl;have hid2:=AA.mk hid;obtain⟨ul,us_,um,ud,ls,lm,ld,sl,sm,sd,ml,ms,md,dl,ds,dm⟩:=hid;have hl2:=AA.mk hl;obtain⟨lbox,lsz,lmt,ldf,_,_,_⟩:=hl;have e1:=AI ul;have e2:=AI us_;have e3:=AI um;have e4:=AI ud;have e5:=Ao ul;have e6:=Ao us_;have e7:=Ao um;have e8:=Ao ud;by_cases hn:n<0
 .have e:Ak p (k+1) n size st=none:=by
   rw[Ak,if_neg fun hh=>by omega]
  rw[e];exact F0 p hN n size st h π l sz ow us hfit hid2.out hl2.out fun h=>by omega
 .by_cases hn2:(p.nodes.length:Int)≤n
  .have e:Ak p (k+1) n size st=none:=by
    rw[Ak];split
    .rename_i hh;have:=AK hh.2;rw[hfit.met]at this;omega
    .rfl
   rw[e];exact F0 p hN n size st h π l sz ow us hfit hid2.out hl2.out fun _ h=>by omega
  .have hne:p.nodes.length≠0:=by omega
   have hn0:0≤n:=by omega
   have hn3:n<p.nodes.length:=by omega
   have hlt:n.toNat<p.nodes.length:=by omega
   obtain⟨x,hx⟩:=get_some hlt;obtain⟨t,ht⟩:=get_some (l:=st.met) (i:=n.toNat) (by rw[hfit.met];omega);obtain⟨s0,hs0⟩:=get_some (l:=st.sizes) (i:=n.toNat) (by rw[hfit.sizes];omega);have lmt:=lmt rfl hne;have lsz:=lsz rfl hne;rw[Ca,Al hne,Al hne]at lbox;replace ih:=AA.mk ih;replace ldf:=AA.mk ldf;have hfs:=hfit.sizes;have hfm:=hfit.met;cases t with
   |true=>
    have e:Ak p (k+1) n size st=none:=by
     rw[Ak,if_neg];rw[ht];simp
    rw[e];exact F0 p hN n size st h π l sz ow us hfit hid2.out hl2.out fun _ _=>ht
   |false=>
    (refine A0 rfl Tryz.func129 rfl rfl rfl ?_;show Wp _ _ _ _ (Tryz.f129.body.get rfl) _ _;simp only[Tryz.f129,Option.get_some])
    have hs:=AA.mk (JY (p:=p) (k:=k) (size:=size) hn0 ht hx);have hbad:=AA.mk (PA (p:=p) (k:=k) (size:=size) hn0 ht hx);obtain⟨xo,xn,xa,xk⟩:=x;have hLV:AA (∀b,Abs.Obj.box [.d (.lst (p.free.map AY)),.d (.lst (p.nodes.map AP)),.d (.lst (p.defs.map Ab)),.d (.int .i64 p.main),.osl sz 0 p.nodes.length,.osl ow 0 p.nodes.length,slv us p.defs.length,.d (.bool b)]=Ca p sz ow us b):=.mk fun b=>by
     rw[Ca,Al hne,Al hne]
    have hn0':AA (∀o o',QX p l sz ow us h π [(48,o')] (st.meet n size) false ((((h.put ow (.darr 1 ((List.map FX st.met).set n.toNat [.int .i64 1]))).put sz (.darr 1 ((List.map AG st.sizes).set n.toNat [.int .i64 size]))).put (0::48::π) o).put (0::48::π) o')):=.mk fun o o'=>by
     refine⟨⟨?_,fun _ _=>?_,fun _ _=>?_,fun _ hd=>?_,fun _=>?_,fun _=>?_,fun hd=>?_⟩,?_,fun id' h1 h0 h2 h3 h4=>?_⟩
     .rw[←hLV.out];simp only[get_put,e1,sl,ml,Bool.false_eq_true,if_false,lbox]
     .simp only[get_put,e2,is_self,Bool.false_eq_true,if_false,if_true,Aw.meet,List.map_set];rfl
     .simp only[get_put,e3,sm,is_self,Bool.false_eq_true,if_false,if_true,Aw.meet,List.map_set];rfl
     .simp only[get_put,e4,sd,md,Bool.false_eq_true,if_false,Aw.meet,ldf.out rfl hd]
     .exact⟨_,by simp only[get_put,e2,is_self,Bool.false_eq_true,if_false,if_true];rfl⟩
     .exact⟨_,by simp only[get_put,e3,sm,is_self,Bool.false_eq_true,if_false,if_true];rfl⟩
     .exact⟨_,by simp only[get_put,e4,sd,md,Bool.false_eq_true,if_false,ldf.out rfl hd];rfl⟩
     .intro q hq;cases List.mem_singleton.1 hq;simp only[get_put,is_self,if_true]
     .simp only[get_put,AI h1,h2,h3,Bool.false_eq_true,if_false]
    by_cases o4:xo=4
    .subst o4;have hgood: ∀{P:Prop},P→AA P:=fun h=>⟨h⟩;by_cases x0:xn<0
     ·(repeat' (first|simp only[go_sem, *,HC,HU]|(refine sx ?_ ?_<;>intro hc)|refine sy (by omega) fun x hx hm=>?_|simp(disch:=first|assumption|omega) only[wrap_id,AF,AC,slice_int]))
      all_goals try(exact Dg (hn0'.out _ _) hid2.out (hLV.out _) (hbad.out (by clear e1 e2 e3 e4 e5 e6 e7 e8 lbox lmt lsz hs hbad ih hn0' hLV;grind [CL,DP,QU,Dv])))
      rw[B5];refine aw ?_;exact Dg (hn0'.out _ _) hid2.out (hLV.out _) (hbad.out (by clear e1 e2 e3 e4 e5 e6 e7 e8 lbox lmt lsz hs hbad ih hn0' hLV;grind [CL,DP,QU,Dv]))
     by_cases x1:(p.defs.length:Int)≤xn
     ·(repeat' (first|simp only[go_sem, *,HC,HU]|(refine sx ?_ ?_<;>intro hc)|refine sy (by omega) fun x hx hm=>?_|simp(disch:=first|assumption|omega) only[wrap_id,AF,AC,slice_int]))
      all_goals try(exact Dg (hn0'.out _ _) hid2.out (hLV.out _) (hbad.out (by clear e1 e2 e3 e4 e5 e6 e7 e8 lbox lmt lsz hs hbad ih hn0' hLV;grind [CL,DP,QU,Dv])))
      rw[B5];refine aw ?_;exact Dg (hn0'.out _ _) hid2.out (hLV.out _) (hbad.out (by clear e1 e2 e3 e4 e5 e6 e7 e8 lbox lmt lsz hs hbad ih hn0' hLV;grind [CL,DP,QU,Dv]))
     have x2:0≤xn:=by omega
     have x3:xn<p.defs.length:=by omega
     have hdl:p.defs.length≠0:=by omega
     have hxlt:xn.toNat<p.defs.length:=by omega
     obtain⟨d,hd⟩:=get_some hxlt;obtain⟨t,htd⟩:=get_some (l:=st.defs) (i:=xn.toNat) (by rw[hfit.defs];omega);have hfd:=hfit.defs;have ldf2:=ldf.out rfl hdl;rw[Al hdl]at lbox;have hg:=hdefs d (List.mem_of_getElem? hd);have hdo:=Mv hg;have c1:=hdo.chans;have c2:=hdo.spots;have c3:=hdo.rules;have hown:=Jh hdo;have hok:=mB d (by omega) (by omega);replace hdo:=AA.mk hdo;have hinto:AA (Lx p size ⟨4,xn,xa,xk⟩ (st.meet n size)=if st.defs[xn.toNat]? =some false∧d.okG=true then some (Bm d (size+d.own) d.rules++(BW (size+d.own) d.spots++BZ (size+d.own) xk),{st.meet n size with defs:=st.defs.set xn.toNat true})else none):=by
      refine⟨?_⟩;rw[Lx,if_pos rfl,hd];rfl
     have hLV2:AA (∀b,Abs.Obj.box [.d (.lst (p.free.map AY)),.d (.lst (p.nodes.map AP)),.d (.lst (p.defs.map Ab)),.d (.int .i64 p.main),.osl sz 0 p.nodes.length,.osl ow 0 p.nodes.length,.osl us 0 p.defs.length,.d (.bool b)]=Ca p sz ow us b):=.mk fun b=>by
      rw[Ca,Al hne,Al hne,Al hdl]
     cases t with
     |true=>
      have hno:AA (Ak p (k+1) n size st=none):=by
       refine⟨?_⟩;rw[hs.out,hinto.out,htd];split
       .rw[if_neg (by simp)]
       .rfl
      (repeat' (first|simp only[go_sem, *,HC,HU]|(refine sx ?_ ?_<;>intro hc)|refine sy (by omega) fun x hx hm=>?_|simp(disch:=first|assumption|omega) only[wrap_id,AF,AC,slice_int]))
      all_goals try(exact Dg (hn0'.out _ _) hid2.out (hLV2.out _) hno.out)
      rw[B5];refine aw ?_;exact Dg (hn0'.out _ _) hid2.out (hLV2.out _) hno.out
     |false=>
      (repeat' (first|simp only[go_sem, *,HC,HU]|(refine sx ?_ ?_<;>intro hc)|refine sy (by omega) fun x hx hm=>?_|simp(disch:=first|assumption|omega) only[wrap_id,AF,AC,slice_int]))
      all_goals try(exact Dg (hn0'.out _ _) hid2.out (hLV2.out _) (hbad.out (by clear e1 e2 e3 e4 e5 e6 e7 e8 lbox lmt lsz hs hbad ih hn0' hLV;grind [CL,DP,QU,Dv])))
      rw[B5];refine aw ?_;have hR:=nj (hn0'.out (.box [.d (.int .i64 0),.d (.int .i64 0),.nils,.nils]) (.box [.d (.int .i64 4),.d (.int .i64 xn),.d (.lst (xa.map B9)),.d (.lst (xk.map AG))])) hid2.out xn.toNat;have hfit2:Aw.fit p {st.meet n size with defs:=(st.meet n size).defs.set xn.toNat true}:=by
       have:=KQ hfit n size;exact⟨this.sizes,this.met,by simp[Aw.meet,hfit.defs]⟩
      have hun2:Ci (st.meet n size).met≤k:=by
       have:=DK ht;simp only[Aw.meet];omega
      have h00:(xa.length:Int)=0:=by assumption
      have h11:(xk.length:Int)=1:=by assumption
      have hxa:xa=[]:=List.eq_nil_of_length_eq_zero (by omega);have hv0:AA (Ak p (k+1) n size st=match BT (Ak p k) (Bm d (size+d.own) d.rules++BW (size+d.own) d.spots) {st.meet n size with defs:=(st.meet n size).defs.set xn.toNat true}with|some st'=>BT (Ak p k) (BZ (size+d.own) xk) st'|none=>none):=by
       refine⟨?_⟩;rw[hs.out,if_pos,hinto.out,if_pos ⟨htd,hg⟩]
       .rw[←J5,List.append_assoc];rfl
       .clear e1 e2 e3 e4 e5 e6 e7 e8 lbox lmt lsz hs hbad ih hn0' hLV hR hfit2 hun2;grind [CL,DP,QU,Dv]
      refine Ax (jW p hN hD k ih.out d hdo.out (size+d.own) {st.meet n size with defs:=(st.meet n size).defs.set xn.toNat true} _ _ l sz ow us hun2 hfit2 (by omega) (by omega) (Dl hid2.out _) hR.looks) (fun o1 g1 p1=>?_)
      obtain rfl:=p1.ret;have hn1: ∀j,j≠48→ ∀q∈ [((48:Nat),Abs.Obj.box [.d (.int .i64 4),.d (.int .i64 xn),.d (.lst (xa.map B9)),.d (.lst (xk.map AG))])],j≠q.1:=by
       intro j hj q hq;cases List.mem_singleton.1 hq;exact hj
      cases hvd:BT (Ak p k) (Bm d (size+d.own) d.rules++BW (size+d.own) d.spots) {st.meet n size with defs:=(st.meet n size).defs.set xn.toNat true}with
      |none=>
       have hf:=D3 hR hid2.out (hn1 168 (by decide)) (st':=st) (b':=true) (p1.no hvd _) p1.frame;have hr1:=hf.node _ (List.mem_cons_self ..);have hr2:=hf.looks.box;rw[←hLV2.out]at hr2;dsimp only at hr1;replace p1:=AA.mk p1;replace hR:=AA.mk hR;replace hn1:=AA.mk hn1;replace hvd:=AA.mk hvd;refine aw ?_;rw[B5];refine aw ?_;exact Dj hf (by rw[hv0.out,hvd.out])
      |some st2=>
       have hf:=D3 hR hid2.out (hn1 168 (by decide)) (p1.yes _ hvd) p1.frame;have hg2:Z8 {st.meet n size with defs:=(st.meet n size).defs.set xn.toNat true} st2:=K8 (R:=Z8) (fun st=>⟨rfl,rfl,rfl,Nat.le_refl _⟩) (fun a b c h1 h2=>⟨h2.1.trans h1.1,h2.2.trans h1.2,h2.3.trans h1.3,Nat.le_trans h2.4 h1.4⟩) (Be p k) hvd
       rw[hvd]at hv0;replace p1:=AA.mk p1;replace hR:=AA.mk hR;replace hn1:=AA.mk hn1;replace hvd:=AA.mk hvd;refine aw ?_;refine Ad xk (S:=fun i a=>⟨[(0,.ptr l 0),(6,.ptr (0::48::π) 0),(11,.d (.int .i64 (size+(d.own:Int)))),(12,.d (.int .i64 i))],a.1.1,a.2+170,[]⟩)
        (Inv:=fun i rest a=> ∃b,QX p l sz ow us h π [(48,.box [.d (.int .i64 4),.d (.int .i64 xn),.d (.lst (xa.map B9)),.d (.lst (xk.map AG))])] a.1.2 b a.1.1∧a.1.2.fit p∧Ci a.1.2.met≤k∧AA (b=false→Ak p (k+1) n size st=BT (Ak p k) (BZ (size+d.own) rest) a.1.2)∧AA (b=true→Ak p (k+1) n size st=none)) (b0:=((_,st2),_)) ?_ ?_ ?_
       .exact⟨false,hf,Ed hfit2 hg2,Nat.le_trans hg2.less hun2,⟨fun _=>hv0.out⟩,⟨fun h=>(by cases h)⟩⟩
       all_goals clear hf p1 hR hn1 hvd g1 hv0 hg2 st2 hfit2 hun2
       .rintro i y ⟨⟨g,st1⟩,c⟩ hy hi him ⟨b,hf,hfit1,hun,hv,hno⟩ IH;dsimp only at*;have hr1:=hf.node _ (List.mem_cons_self ..);have hr2:=hf.looks.box;rw[←hLV2.out]at hr2;dsimp only at hr1;try simp only[*]at him
        cases b
        .refine aw ?_;refine Ax (ih.out y (size+d.own) st1 _ _ l sz ow us hun hfit1 (by omega) (by omega) (Dl hid2.out _) hf.looks) (fun o1 g1 p1=>?_);obtain rfl:=p1.ret;replace p1:=AA.mk p1;refine aw ?_;cases hvy:Ak p k y (size+d.own) st1 with
         |none=>
          refine IH.out ((_,st1),_) ⟨true,D3 hf hid2.out ?_ (p1.out.no hvy _) p1.out.frame,hfit1,hun,⟨fun h=>(by cases h)⟩,⟨fun _=>?_⟩⟩
          .simp only[List.mem_cons,List.not_mem_nil,or_false,forall_eq_or_imp,forall_eq];omega
          .rw[hv.out rfl];simp only[BZ,List.map_cons,List.cons_append,BT,hvy]
         |some st2=>
          have hgr:=Be p _ _ _ _ _ hvy;refine IH.out ((_,st2),_) ⟨false,D3 hf hid2.out ?_ (p1.out.yes _ hvy) p1.out.frame,Ed hfit1 hgr,Nat.le_trans hgr.less hun,⟨fun _=>?_⟩,⟨fun h=>(by cases h)⟩⟩
          .simp only[List.mem_cons,List.not_mem_nil,or_false,forall_eq_or_imp,forall_eq];omega
          .rw[hv.out rfl];simp only[BZ,List.map_cons,List.cons_append,BT,hvy]
        .refine aw ?_;exact Dj hf (hno.out rfl)
       .rintro i ⟨⟨g,st1⟩,c⟩ hi him ⟨b,hf,hfit1,hun,hv,hno⟩;dsimp only at*;have hr1:=hf.node _ (List.mem_cons_self ..);have hr2:=hf.looks.box;rw[←hLV2.out]at hr2;dsimp only at hr1;try simp only[*]at him
        cases b
        .refine aw ?_;exact K7 hf (hv.out rfl)
        .refine aw ?_;exact Dj hf (hno.out rfl)
    have hop:xo=3∨xo=1∨xo=7∨(xo=2)∨xo=5∨xo=6∨xo=8∨(¬xo=1∧ ¬xo=7∧ ¬xo=3∧ ¬xo=2∧ ¬xo=5∧ ¬xo=6∧ ¬xo=8):=by omega
    rcases hop with rfl|rfl|rfl|rfl|rfl|rfl|rfl|⟨n1,n2,n3,n4,n5,n6,n7⟩;all_goals ((repeat' (first|simp only[go_sem, *,HC,HU]|(refine sx ?_ ?_<;>intro hc)|refine sy (by omega) fun x hx hm=>?_|simp(disch:=first|assumption|omega) only[wrap_id,AF,AC,slice_int])))
    all_goals try(exfalso;omega)
    all_goals try(exact Dg (hn0'.out _ _) hid2.out (hLV.out _) (hbad.out (by clear e1 e2 e3 e4 e5 e6 e7 e8 lbox lmt lsz hs hbad ih hn0' hLV;grind [CL,DP,QU,Dv])))
    all_goals
     refine Ad xa (S:=fun i a=>⟨[(0,.ptr l 0),(2,.d (.int .i64 size)),(6,.ptr (0::48::π) 0),(10,.d (.int .i64 i))],a.1.1,a.2+60,[]⟩)
      (Inv:=fun i rest a=>QX p l sz ow us h π _ (st.meet n size) a.1.2 a.1.1∧AA (xa.all (BH.ok size)=(!a.1.2&&rest.all (BH.ok size)))) (b0:=((_,false),_)) ⟨hn0'.out _ _,⟨rfl⟩⟩ ?_ ?_
     .rintro i y ⟨⟨g,b⟩,c⟩ hy hi him ⟨hf,hr⟩ IH;dsimp only at*;try(exfalso;omega)
      all_goals
       have hr1:=hf.node _ (List.mem_cons_self ..);have hr2:=hf.looks.box;rw[←hLV.out]at hr2;dsimp only at hr1;try simp only[*]at him
      all_goals
       cases b
       .refine aw ?_;refine IH.out ((_,_),_) ⟨Wg hf hid2.out (hLV.out _) (by simp),⟨?_⟩⟩;rw[hr.out,List.all_cons];cases BH.ok size y<;>simp
       .refine aw ?_;refine IH.out ((_,_),_) ⟨Wg hf hid2.out (hLV.out _) (by simp),⟨?_⟩⟩;rw[hr.out,List.all_cons];cases BH.ok size y<;>simp
     .rintro i ⟨⟨g,b⟩,c⟩ hi him ⟨hf,hr⟩;dsimp only at*;have hr1:=hf.node _ (List.mem_cons_self ..);have hr2:=hf.looks.box;rw[←hLV.out]at hr2;dsimp only at hr1;try simp only[*]at him
      cases b;all_goals
       ((repeat' (first|simp only[go_sem, *]|(refine sx ?_ ?_<;>intro hc)|refine sy (by omega) fun x hx hm=>?_|simp(disch:=first|assumption|omega) only[wrap_id,AF,AC,slice_int])))
      all_goals
       have hall:AA (xa.all (BH.ok size)=_):=hr;simp only[List.all_nil,Bool.and_true,Bool.not_true,Bool.not_false]at hall;obtain⟨L,hLe⟩: ∃L,QX p l sz ow us h π L (st.meet n size) _ g∧ ∃o,L=[(48,o)]∧g.get (0::48::π)=some o:=⟨_,hf,_,rfl,hr1⟩;clear hf;obtain⟨hf,ob,hLe,hob⟩:=hLe;have hob2:=hr1.symm.trans hob;simp only[Option.some.injEq]at hob2;replace hob2:=AA.mk hob2;clear hob;refine Ad xk (S:=fun i a=>⟨[(0,.ptr l 0),(6,.ptr (0::48::π) 0),(11,.d (.int .i64 size)),(12,.d (.int .i64 i))],a.1.1,a.2+60,[]⟩)
        (Inv:=fun i rest a=> ∃b,QX p l sz ow us h π L a.1.2 b a.1.1∧a.1.2.fit p∧Ci a.1.2.met≤k∧AA (b=false→Ak p (k+1) n size st=BT (Ak p k) (BZ size rest) a.1.2)∧AA (b=true→Ak p (k+1) n size st=none)) (b0:=((_,st.meet n size),_)) ?_ ?_ ?_
       .dsimp only;refine⟨_,Wg hf hid2.out (hLV.out _) (by simp),KQ hfit _ _,?_,⟨fun hb'=>?_⟩,⟨fun hb'=>?_⟩⟩
        .have:=DK ht;simp only[Aw.meet];omega
        .rw[hs.out,if_pos,Lx]
         .simp
         .replace hall:=hall.out;clear e1 e2 e3 e4 e5 e6 e7 e8 lbox lmt lsz hs hbad ih hn0' hLV hf hr1 hr2;grind [CL,DP,QU,Dv]
        .refine hbad.out ?_;replace hall:=hall.out;clear e1 e2 e3 e4 e5 e6 e7 e8 lbox lmt lsz hs hbad ih hn0' hLV hf hr1 hr2;grind [CL,DP,QU,Dv]
       all_goals clear hf hr1 hr2 hr hi him g c i hall
       .rintro i y ⟨⟨g,st1⟩,c⟩ hy hi him ⟨b,hf,hfit1,hun,hv,hno⟩ IH;dsimp only at*;try(exfalso;omega)
        all_goals
         have hr1:=hf.node (48,ob) (by rw[hLe];exact List.mem_cons_self ..);rw[←hob2.out]at hr1;have hr2:=hf.looks.box;rw[←hLV.out]at hr2;dsimp only at hr1;try simp only[*]at him
        all_goals
         cases b
         .refine aw ?_;refine Ax (ih.out y size st1 g _ l sz ow us hun hfit1 h0 (by omega) (Dl hid2.out _) hf.looks) (fun o1 g1 p1=>?_);obtain rfl:=p1.ret;replace p1:=AA.mk p1;refine aw ?_;cases hvy:Ak p k y size st1 with
          |none=>
           refine IH.out ((_,st1),_) ⟨true,D3 hf hid2.out ?_ (p1.out.no hvy _) p1.out.frame,hfit1,hun,⟨fun h=>(by cases h)⟩,⟨fun _=>?_⟩⟩
           .rw[hLe];simp only[List.mem_cons,List.not_mem_nil,or_false,forall_eq_or_imp,forall_eq];omega
           .rw[hv.out rfl];simp only[BZ,List.map_cons,BT,hvy]
          |some st2=>
           have hgr:=Be p _ _ _ _ _ hvy;refine IH.out ((_,st2),_) ⟨false,D3 hf hid2.out ?_ (p1.out.yes _ hvy) p1.out.frame,Ed hfit1 hgr,Nat.le_trans hgr.less hun,⟨fun _=>?_⟩,⟨fun h=>(by cases h)⟩⟩
           .rw[hLe];simp only[List.mem_cons,List.not_mem_nil,or_false,forall_eq_or_imp,forall_eq];omega
           .rw[hv.out rfl];simp only[BZ,List.map_cons,BT,hvy]
         .refine aw ?_;exact Dj hf (hno.out rfl)
       .rintro i ⟨⟨g,st1⟩,c⟩ hi him ⟨b,hf,hfit1,hun,hv,hno⟩;dsimp only at*;have hr1:=hf.node (48,ob) (by rw[hLe];exact List.mem_cons_self ..);rw[←hob2.out]at hr1;have hr2:=hf.looks.box;rw[←hLV.out]at hr2;dsimp only at hr1;try simp only[*]at him
        cases b
        .refine aw ?_;exact K7 hf (hv.out rfl)
        .refine aw ?_;exact Dj hf (hno.out rfl)
end Go.Proofs
namespace Go.Proofs
open Go Go.Abs
set_option maxRecDepth 100000
set_option maxHeartbeats 4000000
theorem gK{p:AL}{st:Aw}{h:AB}{l sz mt df:Abs.Id}{i:Nat}{s:Int}(hl:GO h p l sz mt df st)(hi:i<p.nodes.length)(hs:st.sizes[i]? =some s)(hz:st.sizes.length=p.nodes.length)(π:List Nat):KL Tryz.prog cfg (.fn 166) [.ptr l 0,.d (.int .i64 i)] h π true none=.ok (.ret (.d (.int .i64 s)),h):=by
 obtain⟨b1,b2,b3,b4⟩:=hl;have hN:p.nodes.length≠0:=by omega
 have b2:=b2 hN;rw[Al hN,Al hN]at b1;refine qx rfl Tryz.func166 rfl rfl rfl ?_;show Wp _ _ _ _ (Tryz.f166.body.get rfl) _ _;simp only[Tryz.f166,Option.get_some];exact au
theorem G9{p:AL}{l sz mt df:Abs.Id}{π:List Nat}{st:Aw}{g:AB}(hf:GO g p l sz mt df st)(hi:QW π l sz mt df)(t j:Nat)(o:Abs.Obj):GO (g.put (t::j::π) o) p l sz mt df st:=
 ⟨by rw[get_put,AI hi.ul];exact hf.box,fun hn=>by rw[get_put,AI hi.us];exact hf.sizes hn,fun hn=>by rw[get_put,AI hi.um];exact hf.met hn,fun hn=>by rw[get_put,AI hi.ud];exact hf.defs hn⟩
theorem kg(p:AL)(hN:p.nodes.length≤60)(st:Aw)(h:AB)(π:List Nat)(l sz mt df a b:Abs.Id)(hl:GO h p l sz mt df st)(hz:st.sizes.length=p.nodes.length)(hid:QW π l sz mt df)
 (ha:h.get a=some (.box [.d (.lst (p.free.map AY)),.d (.lst (p.nodes.map AP)),.d (.lst (p.defs.map Ab)),.d (.int .i64 p.main)])) (hb:h.get b=some (.box [.fn 166 [] []])) (ua:Id.under π a=false) (ub:Id.under π b=false) (hp:0<p.nodes.length):
 ∃o h',KL Tryz.prog cfg (.fn 187) [.ptr l 0,.ptr a 0,.ptr b 0] h π true none=.ok (o,h')∧(∃j,o=.ret (.osl (1::j::π) 0 p.nodes.length)∧h'.get (1::j::π)=some (.darr 1 (st.sizes.map AG)))∧ ∀id',Id.under π id'=false→h'.get id'=h.get id':=by
 (refine A0 rfl Tryz.func187 rfl rfl rfl ?_;show Wp _ _ _ _ (Tryz.f187.body.get rfl) _ _;simp only[Tryz.f187,Option.get_some])
 have hid:=AA.mk hid;have hl:=AA.mk hl;have hz2:=AA.mk hz;have u1:=AI ub;have u2:=AD ub;refine aw ?_;refine AO st.sizes _ (fun m i a=>⟨[(0,.ptr l 0),(2,.ptr b 0),(5,a.1.2),(9,.d (.int .i64 m)),(10,.d (.int .i64 i))],a.1.1,a.2+6,[]⟩)
  (Inv:=fun i rest a=>AA (GO a.1.1 p l sz mt df st)∧a.1.1.get b=some (.box [.fn 166 [] []])∧AA (∀id',Id.under π id'=false→a.1.1.get id'=h.get id')∧AA (i=0∧a.1.2=.nils∨ ∃j,j<a.2+6∧a.1.2=.osl (1::j::π) 0 i∧a.1.1.get (1::j::π)=some (.darr 1 ((st.sizes.take i).map AG)))) (b0:=((h,.nils),0)) ?_ ⟨hl,hb,⟨fun _ _=>rfl⟩,⟨.inl ⟨rfl,rfl⟩⟩⟩ ?_ ?_
 .omega
 .rintro i y ⟨⟨g,v⟩,c⟩ hy hi him ⟨hl,hb,hfr,hv⟩ IH;dsimp only at*;have hk:=fun ρ=>gK hl.out (by omega) hy hz ρ;rcases hv.out with⟨rfl,rfl⟩|⟨j,hj,rfl,hj2⟩
  .clear hv;have him0:(0:Int)<p.nodes.length:=by omega
   have hk: ∀ρ,KL Tryz.prog cfg (.fn 166) [.ptr l 0,.d (.int .i64 0)] g ρ true none=.ok (.ret (.d (.int .i64 y)),g):=hk;refine aw ?_;refine IH.out ((_,_),_) ⟨⟨G9 (G9 (Iw hl.out (Dl hid.out _)) hid.out _ _ _) hid.out _ _ _⟩,?_,⟨fun id' hu=>?_⟩,⟨.inr ⟨_,?_,rfl,?_⟩⟩⟩
   .simp only[go_sem,u1,u2,hb]
   .have hu1:=AI hu;have hu2:=AD hu;simp only[go_sem,hu1,hu2,hfr.out id' hu,Bool.false_eq_true]
   .omega
   .simp only[go_sem];rw[List.take_succ,hy];rfl
  .clear hv;have n1: ¬c+13=j:=by omega
   have n2: ¬c+14=j:=by omega
   have n3: ¬c+15=j:=by omega
   have tk:(st.sizes.take i).length=i:=by simp;omega
   have nle: ¬i+1≤i:=by omega
   (repeat' (first|simp only[go_sem, *,Nat.le_refl]|(refine sx ?_ ?_<;>intro hc)|refine sy (by omega) fun x hx hm=>?_|simp(disch:=first|assumption|omega) only[wrap_id,AF,AC,slice_int]))
   refine IH.out ((_,_),_) ⟨⟨G9 (G9 (G9 (Iw hl.out (Dl hid.out _)) hid.out _ _ _) hid.out _ _ _) hid.out _ _ _⟩,?_,⟨fun id' hu=>?_⟩,⟨.inr ⟨_,?_,rfl,?_⟩⟩⟩
   .simp only[go_sem,u1,u2,hb]
   .have hu1:=AI hu;have hu2:=AD hu;simp only[go_sem,hu1,hu2,hfr.out id' hu,Bool.false_eq_true]
   .omega
   .simp only[go_sem];have:List.take i (List.map AG (List.take i st.sizes))=List.map AG (List.take i st.sizes):=List.take_of_length_le (by simp;omega);rw[this,List.take_succ,hy,List.map_append];rfl
 .rintro i ⟨⟨g,v⟩,c⟩ hi him ⟨hl,hb,hfr,hv⟩;dsimp only at*;rcases hv.out with⟨rfl,rfl⟩|⟨j,hj,rfl,hj2⟩
  .exfalso;omega
  .clear hv;refine aw ?_;have hiN:=hi.out;refine⟨⟨_,by rw[hiN,hz],?_⟩,hfr.out⟩;rw[hj2,hiN,List.take_length]
theorem C1(i t j k:Nat)(π:List Nat)(h:i≠k):Id.under (i::π) (t::j::k::π)=false:=C6 fun hs=>by
 rcases List.suffix_cons_iff.1 hs with e|hs
 .have:=congrArg List.length e;simp at this
 rcases List.suffix_cons_iff.1 hs with e|hs
 .have:=congrArg List.length e;simp at this
 rcases List.suffix_cons_iff.1 hs with e|hs
 .simp only[List.cons.injEq,and_true]at e;exact h e
 .have:=hs.length_le;simp at this;omega
theorem X2{g h:AB}{p:AL}{l sz mt df:Abs.Id}{st:Aw}(hl:GO g p l sz mt df st):GO (g++h) p l sz mt df st:=⟨B6 hl.box,fun hn=>B6 (hl.sizes hn),fun hn=>B6 (hl.met hn),fun hn=>B6 (hl.defs hn)⟩
structure Vl(p:AL)(o:AQ)(h':AB):Prop where
 no:looks p=none→o=.ret (.tup [.nils,.d (.int .i64 2)])
 yes: ∀st,looks p=some st→ ∃id,o=.ret (.tup [.osl (1::id) 0 p.nodes.length,.d (.int .i64 0)])∧h'.get (1::id)=some (.darr 1 (st.sizes.map AG))
theorem Xu(p:AL)(hp: ∀s∈p.free,s.size≤maxLen)(h:AB)(π:List Nat)(a b:Abs.Id)
 (ha:h.get a=some (.box [.d (.lst (p.free.map AY)),.d (.lst (p.nodes.map AP)),.d (.lst (p.defs.map Ab)),.d (.int .i64 p.main)])) (hb:h.get b=some (.box [.fn 166 [] []])) (ua:Id.under π a=false) (ub:Id.under π b=false):
 ∃o h',KL Tryz.prog cfg (.fn 186) [.agg [.d (.lst (p.free.map AY)),.d (.lst (p.nodes.map AP)),.d (.lst (p.defs.map Ab)),.d (.int .i64 p.main)],.fn 187 [] [.ptr a 0,.ptr b 0]] h π true none=.ok (o,h')∧Vl p o h':=by
 (refine A0 rfl Tryz.func186 rfl rfl rfl ?_;show Wp _ _ _ _ (Tryz.f186.body.get rfl) _ _;simp only[Tryz.f186,Option.get_some])
 have hp:=AA.mk hp;have u1:=AI ua;have u2:=AD ua;have v1:=AI ub;have v2:=AD ub;obtain⟨r,e,hpost⟩:=l5 p hp.out 6 π;cases hlk:looks p with
 |none=>
  obtain rfl:=hpost.pan hlk;refine aw ?_;exact⟨fun _=>rfl,fun st hst=>by rw[hlk]at hst;cases hst⟩
 |some st=>
  obtain⟨hh,rfl,hL,hnew⟩:=hpost.ret st hlk;replace hnew:=AA.mk hnew;replace hL:=AA.mk hL;have hF:=AA.mk (Bo hlk);have hz:=hF.out.len;have hsm:=hF.out.small;simp only[AL.small,Bool.and_eq_true,decide_eq_true_eq]at hsm;have hN:0<p.nodes.length:=by
   have h1:=hF.out.main.2;have:=AK h1;omega
  refine aw ?_;refine Ax (kg p hsm.2.1 st _ _ (0::16::6::π) (1::6::6::π) (1::10::6::π) (1::14::6::π) a b (X2 hL.out) hz ?_ ?_ ?_ (u2 _) (v2 _) hN) (fun o1 g1 p1=>?_)
  .constructor<;>first|exact C1 _ _ _ _ _ (by decide)|simp only[go_sem]
  .rw[A2 (hnew.out a (u2 _))];simp only[go_sem,u1,ha,Bool.false_eq_true]
  .rw[A2 (hnew.out b (v2 _))];simp only[go_sem,v1,hb,Bool.false_eq_true]
  obtain⟨⟨j,rfl,r1⟩,fr⟩:=p1;have r2:=fr (0::2::π) (Br _ _ _ _ (by decide));rw[A2 (hnew.out (0::2::π) (Br _ _ _ _ (by decide)))]at r2;simp only[get_put,is_self,if_true]at r2;replace fr:=AA.mk fr;refine aw ?_;refine⟨fun hst=>by{rw[hlk]at hst;cases hst},fun st' hst=>?_⟩;rw[hlk]at hst;cases hst;exact⟨_,rfl,by simp only[go_sem,r1]⟩
def Gv:Option Aw→AV
 |none=>.tup [.d (.lst []),.d (.int .i64 2)]
 |some st=>.tup [.d (.lst (st.sizes.map AG)),.d (.int .i64 0)]
theorem lO(p:AL)(hp: ∀s∈p.free,s.size≤maxLen):Au (KL Tryz.prog cfg) 165 [.agg [.d (.lst (p.free.map AY)),.d (.lst (p.nodes.map AP)),.d (.lst (p.defs.map Ab)),.d (.int .i64 p.main)],.fn 166 [] []] []=.ok (.ret (Gv (looks p)),[]):=by
 replace hp:=AA.mk hp
 (refine AU rfl Tryz.func165 rfl rfl rfl ?_;show Wp _ _ _ _ (Tryz.f165.body.get rfl) _ _;simp only[Tryz.f165,Option.get_some])
 refine aw ?_;refine Ax (Xu p hp.out _ _ _ _ ?_ ?_ ?_ ?_) (fun o1 g1 p1=>?_)
 .simp only[go_sem]
 .simp only[go_sem]
 .simp only[go_sem]
 .simp only[go_sem]
 cases hlk:looks p with
 |none=>
  obtain rfl:=p1.no hlk;clear p1
  (repeat' (first|simp only[go_sem, *,Gv]|(refine sx ?_ ?_<;>intro hc)|refine sy (by omega) fun x hx hm=>?_|simp(disch:=first|assumption|omega) only[wrap_id,AF,AC,slice_int]))
 |some st=>
  obtain⟨id,rfl,r1⟩:=p1.yes st hlk;clear p1;have hz:=(Bo hlk).len;have tk1:List.take p.nodes.length (List.map AG st.sizes)=List.map AG st.sizes:=List.take_of_length_le (by simp[hz])
  (repeat' (first|simp only[go_sem, *,Gv,Nat.le_refl]|(refine sx ?_ ?_<;>intro hc)|refine sy (by omega) fun x hx hm=>?_|simp(disch:=first|assumption|omega) only[wrap_id,AF,AC,slice_int]))
theorem eU(p:AL)(hp: ∀s∈p.free,s.size≤maxLen):Au (KL Tryz.prog cfg) 109 [.agg [.d (.lst (p.free.map AY)),.d (.lst (p.nodes.map AP)),.d (.lst (p.defs.map Ab)),.d (.int .i64 p.main)]] []=.ok (.ret (Gv (looks p)),[]):=by
 have hk:=lO p hp;clear hp
 (refine AU rfl Tryz.func109 rfl rfl rfl ?_;show Wp _ _ _ _ (Tryz.f109.body.get rfl) _ _;simp only[Tryz.f109,Option.get_some])
 cases hlk:looks p with
 |none=>
  rw[hlk,Gv]at hk
  (repeat' (first|simp only[go_sem, *,Gv]|(refine sx ?_ ?_<;>intro hc)|refine sy (by omega) fun x hx hm=>?_|simp(disch:=first|assumption|omega) only[wrap_id,AF,AC,slice_int]))
 |some st=>
  rw[hlk,Gv]at hk
  (repeat' (first|simp only[go_sem, *,Gv]|(refine sx ?_ ?_<;>intro hc)|refine sy (by omega) fun x hx hm=>?_|simp(disch:=first|assumption|omega) only[wrap_id,AF,AC,slice_int]))
end Go.Proofs
namespace Go.Proofs
open Go Go.Abs
theorem Wl: ∀(a b:List UInt8),(Op.bytesLess a b||a==b)= !Op.bytesLess b a
 |[],[]=>by simp[Op.bytesLess]
 |[],b::y=>by simp[Op.bytesLess]
 |a::x,[]=>by simp[Op.bytesLess]
 |a::x,b::y=>by
  have ih:=Wl x y;simp only[Op.bytesLess,List.cons_beq_cons];by_cases h1:a<b
  .have h2: ¬b<a:=fun h=>by
    have:=UInt8.lt_asymm h1 h;exact this
   have h3:(b==a)=false:=by
    simp only[beq_eq_false_iff_ne];intro h;subst h;exact UInt8.lt_irrefl _ h1
   simp[h1,h2,h3]
  .by_cases h2:b<a
   .have h3:(a==b)=false:=by
     simp only[beq_eq_false_iff_ne];intro h;subst h;exact UInt8.lt_irrefl _ h2
    simp[h1,h2,h3]
   .have h3:a=b:=UInt8.le_antisymm (UInt8.not_lt.1 h2) (UInt8.not_lt.1 h1);subst h3;simp only[h1,decide_false,Bool.false_or,beq_self_eq_true,Bool.true_and];exact ih
theorem Zo(a b:ByteArray):(Op.bytesLess a.toList b.toList||a.toList==b.toList)= !Rj b a:=Wl _ _
theorem Sc{p:AL}{sizes:List Int}(h:Dz p sizes): ∀d∈p.defs,d.okG=true:=by
 intro d hd;obtain⟨i,hi⟩:=List.getElem?_of_mem hd;obtain⟨j,x,hx,hxo,hxn⟩:=h.used i (List.getElem?_eq_some_iff.1 hi).1;obtain⟨s,l,_,_,_,_,hl,_⟩:=h.node j x hx;rw[HX,if_pos hxo,hxn,hi]at hl;dsimp only at hl;split at hl
 .assumption
 .cases hl
end Go.Proofs
namespace Go.Proofs
open Go Go.Abs
set_option maxRecDepth 100000
set_option maxHeartbeats 4000000
structure iz(p:AL)(r:AQ×AB):Prop where
 no:looks p=none→ ∃h l x0 x1 x2 x3 x4 x5 x6,r=(.ret (.ptr (0::l) 0),h)∧h.get (0::l)=some (.box [x0,x1,x2,x3,x4,x5,x6,.d (.bool true)])
 yes: ∀st,looks p=some st→ ∃h l sz ow us,r=(.ret (.ptr (0::l) 0),h)∧EY h p (0::l) (1::sz) (1::ow) (1::us) st false
theorem Lz(n:Nat):(List.replicate n (0:Int)).map AG=(List.replicate n false).map FX:=by
 rw[List.map_replicate,List.map_replicate];rfl
def st0:Aw:=⟨[],[],[]⟩
theorem dG(p:AL)(k:Nat)(ρ:List Nat): ∃r:AQ×AB,Au (KL Tryz.prog cfg) 83 [.agg [.d (.lst (p.free.map AY)),.d (.lst (p.nodes.map AP)),.d (.lst (p.defs.map Ab)),.d (.int .i64 p.main)]] (k::ρ)=.ok r∧iz p r:=by
 by_cases hs:p.small=true
 .have hs2:=AA.mk hs;simp only[AL.small,Bool.and_eq_true,decide_eq_true_eq]at hs;obtain⟨c1,c2,c3⟩:=hs;have d1: ¬(12:Int)<p.free.length:=by omega
  have d2: ¬(60:Int)<p.nodes.length:=by omega
  have d3: ¬(12:Int)<p.defs.length:=by omega
  (refine EB rfl Tryz.func83 rfl rfl rfl ?_;show Wp _ _ _ _ (Tryz.f83.body.get rfl) _ _;simp only[Tryz.f83,Option.get_some])
  refine aw ?_;refine Ad p.free (S:=fun i b=>⟨[(1,.ptr (0::0::k::ρ) 0),(3,.ptr (0::1::k::ρ) 0),(4,.d (.int .i64 i))],[(0::0::k::ρ,.box [.d (.lst (p.free.map AY)),.d (.lst (p.nodes.map AP)),.d (.lst (p.defs.map Ab)),.d (.int .i64 p.main)]),(0::1::k::ρ,.box [.d (.lst (p.free.map AY)),.d (.lst (p.nodes.map AP)),.d (.lst (p.defs.map Ab)),.d (.int .i64 p.main),.nils,.nils,.nils,.d (.bool b)])],2,[]⟩)
   (Inv:=fun i rest b=>AA ((!b&&FV (if i=0 then none else p.free[i-1]?) rest)=HJ p.free)) (b0:=false) ⟨rfl⟩ ?_ ?_
  .rintro i y b hy hi him hr IH;have hnm:=eY y;rcases i with _|j
   .rw[if_pos rfl]at hr;have him0:(0:Int)<p.free.length:=by omega
    cases b;all_goals ((repeat' (first|simp only[go_sem, *]|(refine sx ?_ ?_<;>intro hc)|refine sy (by omega) fun x hx hm=>?_|simp(disch:=first|assumption|omega) only[wrap_id,AF,AC,slice_int])))
    all_goals
     refine IH.out _ ⟨?_⟩;rw[←hr.out];rw[if_neg (by omega),Nat.add_sub_cancel,hy];simp[FV,Rj, *]
   .obtain⟨q,hq⟩:=get_some (l:=p.free) (i:=j) (by omega);rw[if_neg (by omega),Nat.add_sub_cancel,hq]at hr;have w:IntKind.i64.wrap (((j+1:Nat):Int)-1)=(j:Int):=by rw[wrap_id (by omega) (by omega)];omega
    have w0:(0:Int)<((j+1:Nat):Int):=by omega
    cases b;all_goals ((repeat' (first|simp only[go_sem, *]|(refine sx ?_ ?_<;>intro hc)|refine sy (by omega) fun x hx hm=>?_|simp(disch:=first|assumption|omega) only[wrap_id,AF,AC,slice_int])))
    all_goals
     refine IH.out _ ⟨?_⟩;rw[←hr.out];rw[if_neg (by omega),Nat.add_sub_cancel,hy];simp[FV,Zo, *]
  .rintro i b hi him hr;rw[FV,Bool.and_true]at hr;refine aw ?_;refine Ad p.defs (S:=fun i b=>⟨[(1,.ptr (0::0::k::ρ) 0),(3,.ptr (0::1::k::ρ) 0),(5,.d (.int .i64 i))],[(0::0::k::ρ,.box [.d (.lst (p.free.map AY)),.d (.lst (p.nodes.map AP)),.d (.lst (p.defs.map Ab)),.d (.int .i64 p.main)]),(0::1::k::ρ,.box [.d (.lst (p.free.map AY)),.d (.lst (p.nodes.map AP)),.d (.lst (p.defs.map Ab)),.d (.int .i64 p.main),.nils,.nils,.nils,.d (.bool b)])],2,[]⟩)
    (Inv:=fun i rest b=>AA ((!b&&rest.all Ba.okG)=(HJ p.free&&p.defs.all Ba.okG))) (b0:=b) ⟨?_⟩ ?_ ?_
   .rw[←hr.out]
   .clear hr hi him i b;rintro i y b hy hi him hr IH;have hdr:=kh y;rw[rA]at hdr;cases b;all_goals (refine aw ?_)
    all_goals
     refine IH.out _ ⟨?_⟩;rw[←hr.out,List.all_cons];cases y.okG<;>simp
   .clear hr hi him i b;rintro i b hi him hr;rw[List.all_nil,Bool.and_true]at hr;have him2: ¬(i:Int)<0:=by omega
    have hbadL:AA (b=true→looks p=none):=⟨fun hb=>by
     have hr:=hr.out;rw[hb]at hr;cases hl:looks p with
     |none=>rfl
     |some st=>
      exfalso;have hf:HJ p.free=true:=by
       unfold looks at hl;split at hl
       .rename_i h;exact h.2
       .cases hl
      have hd:p.defs.all Ba.okG=true:=List.all_eq_true.2 (Sc (Bo hl));rw[hf,hd]at hr;cases hr⟩
    cases b
    .have hfree:AA (HJ p.free=true):=⟨by have:=hr.out;simp at this;exact this.1.symm▸rfl⟩;have hdef:AA (∀d∈p.defs,d.okG=true):=⟨by have:=hr.out;simp at this;exact this.2⟩;by_cases hN0:p.nodes.length=0
     .by_cases hD0:p.defs.length=0
      ·(repeat' (first|simp only[go_sem, *]|(refine sx ?_ ?_<;>intro hc)|refine sy (by omega) fun x hx hm=>?_|simp(disch:=first|assumption|omega) only[wrap_id,AF,AC,slice_int,C3,EO]))
       refine Ax (F0 p c2 p.main p.free.length (Aw.init p) _ _ (0::1::k::ρ) (1::13::k::ρ) (1::17::k::ρ) (1::21::k::ρ) ⟨?_,?_,?_⟩ ?_ ⟨?_,fun _ h=>absurd hN0 h,fun _ h=>absurd hN0 h,fun _ _=>?_,fun h=>absurd hN0 h,fun h=>absurd hN0 h,fun _=>?_⟩ ?_) (fun o1 g1 p1=>?_)
       .simp[Aw.init]
       .simp[Aw.init]
       .simp[Aw.init]
       .constructor<;>first|exact Br _ _ _ _ (by decide)|simp only[go_sem]
       .simp only[Ca,slv,hN0,hD0,if_false,if_true];simp only[go_sem]
       .exact absurd hD0 ‹_›
       .exact absurd hD0 ‹_›
       .omega
       obtain rfl:=p1.ret;have hl:=E2 (ρ:=41::k::ρ) (p1.no rfl st0) (by constructor<;>first|exact Br _ _ _ _ (by decide)|simp only[go_sem]);have q1:=hl.box;rw[Ca,FK hN0,FK hN0,FK hD0]at q1;have hno:AA (looks p=none):=⟨by
        unfold looks;split
        .have:Ak p (p.nodes.length+1) p.main p.free.length (Aw.init p)=none:=by
          rw[Ak,if_neg];intro hh;have:=AK hh.2;simp[Aw.init]at this;omega
         rw[this]
        .rfl⟩
       replace hl:=AA.mk hl;replace p1:=AA.mk p1;refine aw ?_;rw[B5];refine aw ?_;rw[B5];refine aw ?_;exact⟨fun _=>⟨_,_,_,_,_,_,_,_,_,rfl,by(simp only[go_sem];try rfl)⟩,fun st hs=>(by rw[hno.out]at hs;cases hs)⟩
      ·(repeat' (first|simp only[go_sem, *]|(refine sx ?_ ?_<;>intro hc)|refine sy (by omega) fun x hx hm=>?_|simp(disch:=first|assumption|omega) only[wrap_id,AF,AC,slice_int,C3,EO]))
       refine Ax (F0 p c2 p.main p.free.length (Aw.init p) _ _ (0::1::k::ρ) (1::13::k::ρ) (1::17::k::ρ) (1::21::k::ρ) ⟨?_,?_,?_⟩ ?_ ⟨?_,fun _ h=>absurd hN0 h,fun _ h=>absurd hN0 h,fun _ _=>?_,fun h=>absurd hN0 h,fun h=>absurd hN0 h,fun _=>?_⟩ ?_) (fun o1 g1 p1=>?_)
       .simp[Aw.init]
       .simp[Aw.init]
       .simp[Aw.init]
       .constructor<;>first|exact Br _ _ _ _ (by decide)|simp only[go_sem]
       .simp only[Ca,slv,hN0,hD0,if_false,if_true];simp only[go_sem]
       .simp only[go_sem,Aw.init,Lz]
       .exact⟨_,by(simp only[go_sem];rfl)⟩
       .omega
       obtain rfl:=p1.ret;have hl:=E2 (ρ:=41::k::ρ) (p1.no rfl st0) (by constructor<;>first|exact Br _ _ _ _ (by decide)|simp only[go_sem]);obtain⟨C,q4⟩:=hl.kd hD0;have q1:=hl.box;rw[Ca,FK hN0,FK hN0,Al hD0]at q1;have hno:AA (looks p=none):=⟨by
        unfold looks;split
        .have:Ak p (p.nodes.length+1) p.main p.free.length (Aw.init p)=none:=by
          rw[Ak,if_neg];intro hh;have:=AK hh.2;simp[Aw.init]at this;omega
         rw[this]
        .rfl⟩
       replace hl:=AA.mk hl;replace p1:=AA.mk p1;refine aw ?_;rw[B5];refine aw ?_;clear q1 q4 hl p1 hbadL hr him him2 hi i;refine AO (List.replicate p.defs.length ()) (S:=fun _ i (_:Unit)=>⟨[(3,.ptr (0::0::k::ρ) 0),(7,.d (.int .i64 i))],[(0::0::k::ρ,.box [.d (.lst (p.free.map AY)),.d (.lst (p.nodes.map AP)),.d (.lst (p.defs.map Ab)),.d (.int .i64 p.main),.emp,.emp,.osl (1::1::k::ρ) 0 p.defs.length,.d (.bool true)]),(1::1::k::ρ,.darr 1 C)],2,[]⟩)
        (Inv:=fun i rest b=>True) (b0:=()) (m:=p.defs.length) (by simp) trivial ?_ ?_
       .rintro i y b hy hi him hr IH;refine aw ?_;exact IH.out () trivial
       .rintro i b hi him hr;refine aw ?_;exact⟨fun _=>⟨_,_,_,_,_,_,_,_,_,rfl,by(simp only[go_sem];try rfl)⟩,fun st hs=>(by rw[hno.out]at hs;cases hs)⟩
     .by_cases hD0:p.defs.length=0
      ·(repeat' (first|simp only[go_sem, *]|(refine sx ?_ ?_<;>intro hc)|refine sy (by omega) fun x hx hm=>?_|simp(disch:=first|assumption|omega) only[wrap_id,AF,AC,slice_int,C3,EO]))
       refine Ax (Qa p c2 c3 hdef.out (p.nodes.length+1) p.main p.free.length (Aw.init p) _ _ (0::1::k::ρ) (1::13::k::ρ) (1::17::k::ρ) (1::21::k::ρ) ?_ ⟨?_,?_,?_⟩ ?_ ?_ ?_ ⟨?_,fun _ _=>?_,fun _ _=>?_,fun _ _=>?_,fun _=>?_,fun _=>?_,fun _=>?_⟩) (fun o1 g1 p1=>?_)
       .have:=Iu (Aw.init p).met;simp only[Aw.init,List.length_replicate]at*;omega
       .simp[Aw.init]
       .simp[Aw.init]
       .simp[Aw.init]
       .omega
       .omega
       .constructor<;>first|exact Br _ _ _ _ (by decide)|simp only[go_sem]
       .simp only[Ca,slv,hN0,hD0,if_false,if_true];simp only[go_sem]
       .simp only[go_sem,Aw.init]
       .simp only[go_sem,Aw.init,Lz]
       .exact absurd hD0 ‹_›
       .exact⟨_,by(simp only[go_sem];rfl)⟩
       .exact⟨_,by(simp only[go_sem];rfl)⟩
       .exact absurd hD0 ‹_›
       obtain rfl:=p1.ret;cases hv:Ak p (p.nodes.length+1) p.main p.free.length (Aw.init p)with
       |none=>
        have hl:=E2 (ρ:=41::k::ρ) (p1.no hv st0) (by constructor<;>first|exact Br _ _ _ _ (by decide)|simp only[go_sem]);obtain⟨A,q2⟩:=hl.ks hN0;obtain⟨B,q3⟩:=hl.km hN0;have q1:=hl.box;rw[Ca,Al hN0,Al hN0,FK hD0]at q1;have hno:AA (looks p=none):=⟨by
         unfold looks;rw[hv];split<;>rfl⟩
        replace hl:=AA.mk hl;replace p1:=AA.mk p1;refine aw ?_;clear q1 q2 q3 hl p1 hbadL hr him him2 hi i;refine AO (List.replicate p.nodes.length ()) (S:=fun _ i (_:Unit)=>⟨[(3,.ptr (0::0::k::ρ) 0),(6,.d (.int .i64 i))],[(0::0::k::ρ,.box [.d (.lst (p.free.map AY)),.d (.lst (p.nodes.map AP)),.d (.lst (p.defs.map Ab)),.d (.int .i64 p.main),.osl (1::1::k::ρ) 0 p.nodes.length,.osl (1::2::k::ρ) 0 p.nodes.length,.emp,.d (.bool true)]),(1::1::k::ρ,.darr 1 (A)),(1::2::k::ρ,.darr 1 (B))],3,[]⟩)
         (Inv:=fun i rest b=>True) (b0:=()) (m:=p.nodes.length) (by simp) trivial ?_ ?_
        .rintro i y b hy hi him hr IH;refine aw ?_;exact IH.out () trivial
        .rintro i b hi him hr;refine aw ?_;rw[B5];refine aw ?_;exact⟨fun _=>⟨_,_,_,_,_,_,_,_,_,rfl,by(simp only[go_sem];try rfl)⟩,fun st hs=>(by rw[hno.out]at hs;cases hs)⟩
       |some st=>
        have hl:=E2 (ρ:=41::k::ρ) (p1.yes st hv) (by constructor<;>first|exact Br _ _ _ _ (by decide)|simp only[go_sem]);have q1:=hl.box;have q2:=hl.sizes rfl hN0;have q3:=hl.met rfl hN0;rw[Ca,Al hN0,Al hN0,FK hD0]at q1;replace hl:=AA.mk hl;replace p1:=AA.mk p1;refine aw ?_;have hg:=Be p _ _ _ _ _ hv;have m1:st.met.length=p.nodes.length:=by rw[hg.met];simp[Aw.init]
        have m2:st.defs.length=p.defs.length:=by rw[hg.defs];simp[Aw.init]
        have hlk:=AA.mk (KV hs2.out hfree.out hv);clear q1 q2 q3 hl p1 hbadL hr him him2 hi i;refine AO st.met (S:=fun _ i b=>⟨[(3,.ptr (0::0::k::ρ) 0),(6,.d (.int .i64 i))],[(0::0::k::ρ,.box [.d (.lst (p.free.map AY)),.d (.lst (p.nodes.map AP)),.d (.lst (p.defs.map Ab)),.d (.int .i64 p.main),.osl (1::1::k::ρ) 0 p.nodes.length,.osl (1::2::k::ρ) 0 p.nodes.length,.emp,.d (.bool b)]),(1::1::k::ρ,.darr 1 (st.sizes.map AG)),(1::2::k::ρ,.darr 1 (st.met.map FX))],3,[]⟩)
         (Inv:=fun i rest b=>AA ((!b&&rest.all id)=st.met.all id)) (b0:=false) (m:=p.nodes.length) (by omega) ⟨rfl⟩ ?_ ?_
        .rintro i y b hy hi him hr IH;have hiN:=Int.ofNat_lt.1 him;cases b<;>cases y;all_goals (refine aw ?_)
         all_goals
          refine IH.out _ ⟨?_⟩;rw[←hr.out];simp
        .rintro i b hi him hr;rw[List.all_nil,Bool.and_true]at hr;refine aw ?_;rw[B5];refine aw ?_;have hr:AA ((!b)=(st.met.all id&&st.defs.all id)):=⟨by
          rw[hr.out,List.eq_nil_of_length_eq_zero (m2.trans hD0)];simp⟩
         have hx:=hlk.out;cases b
         .have:st.met.all id=true∧st.defs.all id=true:=by have:=hr.out;simp only[Bool.not_false]at this;exact(Bool.and_eq_true _ _).mp this.symm
          rw[Fq,Fq]at this;rw[if_pos this]at hx;refine⟨fun hn=>(by rw[hx]at hn;cases hn),fun st' hs=>?_⟩;rw[hx]at hs;cases hs;refine⟨_,_,1::k::ρ,2::k::ρ,3::k::ρ,rfl,⟨?_,fun _ _=>?_,fun _ _=>?_,fun _ _=>?_,fun _=>?_,fun _=>?_,fun _=>?_⟩⟩
          .simp only[Ca,slv,hN0,hD0,if_false,if_true];simp only[go_sem]
          .simp only[go_sem]
          .simp only[go_sem]
          .exact absurd hD0 ‹_›
          .exact⟨_,by(simp only[go_sem];try rfl)⟩
          .exact⟨_,by(simp only[go_sem];try rfl)⟩
          .exact absurd hD0 ‹_›
         .have: ¬((¬false∈st.met)∧(¬false∈st.defs)):=fun h=>by
           rw[←Fq,←Fq]at h;have:=hr.out;rw[h.1,h.2]at this;cases this
          rw[if_neg this]at hx;exact⟨fun _=>⟨_,_,_,_,_,_,_,_,_,rfl,by(simp only[go_sem];try rfl)⟩,fun st hs=>(by rw[hx]at hs;cases hs)⟩
      ·(repeat' (first|simp only[go_sem, *]|(refine sx ?_ ?_<;>intro hc)|refine sy (by omega) fun x hx hm=>?_|simp(disch:=first|assumption|omega) only[wrap_id,AF,AC,slice_int,C3,EO]))
       refine Ax (Qa p c2 c3 hdef.out (p.nodes.length+1) p.main p.free.length (Aw.init p) _ _ (0::1::k::ρ) (1::13::k::ρ) (1::17::k::ρ) (1::21::k::ρ) ?_ ⟨?_,?_,?_⟩ ?_ ?_ ?_ ⟨?_,fun _ _=>?_,fun _ _=>?_,fun _ _=>?_,fun _=>?_,fun _=>?_,fun _=>?_⟩) (fun o1 g1 p1=>?_)
       .have:=Iu (Aw.init p).met;simp only[Aw.init,List.length_replicate]at*;omega
       .simp[Aw.init]
       .simp[Aw.init]
       .simp[Aw.init]
       .omega
       .omega
       .constructor<;>first|exact Br _ _ _ _ (by decide)|simp only[go_sem]
       .simp only[Ca,slv,hN0,hD0,if_false,if_true];simp only[go_sem]
       .simp only[go_sem,Aw.init]
       .simp only[go_sem,Aw.init,Lz]
       .simp only[go_sem,Aw.init,Lz]
       .exact⟨_,by(simp only[go_sem];rfl)⟩
       .exact⟨_,by(simp only[go_sem];rfl)⟩
       .exact⟨_,by(simp only[go_sem];rfl)⟩
       obtain rfl:=p1.ret;cases hv:Ak p (p.nodes.length+1) p.main p.free.length (Aw.init p)with
       |none=>
        have hl:=E2 (ρ:=41::k::ρ) (p1.no hv st0) (by constructor<;>first|exact Br _ _ _ _ (by decide)|simp only[go_sem]);obtain⟨A,q2⟩:=hl.ks hN0;obtain⟨B,q3⟩:=hl.km hN0;obtain⟨C,q4⟩:=hl.kd hD0;have q1:=hl.box;rw[Ca,Al hN0,Al hN0,Al hD0]at q1;have hno:AA (looks p=none):=⟨by
         unfold looks;rw[hv];split<;>rfl⟩
        replace hl:=AA.mk hl;replace p1:=AA.mk p1;refine aw ?_;clear q1 q2 q3 q4 hl p1 hbadL hr him him2 hi i;refine AO (List.replicate p.nodes.length ()) (S:=fun _ i (_:Unit)=>⟨[(3,.ptr (0::0::k::ρ) 0),(6,.d (.int .i64 i))],[(0::0::k::ρ,.box [.d (.lst (p.free.map AY)),.d (.lst (p.nodes.map AP)),.d (.lst (p.defs.map Ab)),.d (.int .i64 p.main),.osl (1::1::k::ρ) 0 p.nodes.length,.osl (1::2::k::ρ) 0 p.nodes.length,.osl (1::3::k::ρ) 0 p.defs.length,.d (.bool true)]),(1::1::k::ρ,.darr 1 (A)),(1::2::k::ρ,.darr 1 (B)),(1::3::k::ρ,.darr 1 (C))],4,[]⟩)
         (Inv:=fun i rest b=>True) (b0:=()) (m:=p.nodes.length) (by simp) trivial ?_ ?_
        .rintro i y b hy hi him hr IH;refine aw ?_;exact IH.out () trivial
        .rintro i b hi him hr;refine aw ?_;refine AO (List.replicate p.defs.length ()) (S:=fun _ i (_:Unit)=>⟨[(3,.ptr (0::0::k::ρ) 0),(7,.d (.int .i64 i))],[(0::0::k::ρ,.box [.d (.lst (p.free.map AY)),.d (.lst (p.nodes.map AP)),.d (.lst (p.defs.map Ab)),.d (.int .i64 p.main),.osl (1::1::k::ρ) 0 p.nodes.length,.osl (1::2::k::ρ) 0 p.nodes.length,.osl (1::3::k::ρ) 0 p.defs.length,.d (.bool true)]),(1::1::k::ρ,.darr 1 (A)),(1::2::k::ρ,.darr 1 (B)),(1::3::k::ρ,.darr 1 (C))],4,[]⟩)
          (Inv:=fun i rest b=>True) (b0:=()) (m:=p.defs.length) (by simp) trivial ?_ ?_
         .clear hr hi him i b;rintro i y b hy hi him hr IH;refine aw ?_;exact IH.out () trivial
         .clear hr hi him i b;rintro i b hi him hr;refine aw ?_;exact⟨fun _=>⟨_,_,_,_,_,_,_,_,_,rfl,by(simp only[go_sem];try rfl)⟩,fun st hs=>(by rw[hno.out]at hs;cases hs)⟩
       |some st=>
        have hl:=E2 (ρ:=41::k::ρ) (p1.yes st hv) (by constructor<;>first|exact Br _ _ _ _ (by decide)|simp only[go_sem]);have q1:=hl.box;have q2:=hl.sizes rfl hN0;have q3:=hl.met rfl hN0;have q4:=hl.defs rfl hD0;rw[Ca,Al hN0,Al hN0,Al hD0]at q1;replace hl:=AA.mk hl;replace p1:=AA.mk p1;refine aw ?_;have hg:=Be p _ _ _ _ _ hv;have m1:st.met.length=p.nodes.length:=by rw[hg.met];simp[Aw.init]
        have m2:st.defs.length=p.defs.length:=by rw[hg.defs];simp[Aw.init]
        have hlk:=AA.mk (KV hs2.out hfree.out hv);clear q1 q2 q3 q4 hl p1 hbadL hr him him2 hi i;refine AO st.met (S:=fun _ i b=>⟨[(3,.ptr (0::0::k::ρ) 0),(6,.d (.int .i64 i))],[(0::0::k::ρ,.box [.d (.lst (p.free.map AY)),.d (.lst (p.nodes.map AP)),.d (.lst (p.defs.map Ab)),.d (.int .i64 p.main),.osl (1::1::k::ρ) 0 p.nodes.length,.osl (1::2::k::ρ) 0 p.nodes.length,.osl (1::3::k::ρ) 0 p.defs.length,.d (.bool b)]),(1::1::k::ρ,.darr 1 (st.sizes.map AG)),(1::2::k::ρ,.darr 1 (st.met.map FX)),(1::3::k::ρ,.darr 1 (st.defs.map FX))],4,[]⟩)
         (Inv:=fun i rest b=>AA ((!b&&rest.all id)=st.met.all id)) (b0:=false) (m:=p.nodes.length) (by omega) ⟨rfl⟩ ?_ ?_
        .rintro i y b hy hi him hr IH;have hiN:=Int.ofNat_lt.1 him;cases b<;>cases y;all_goals (refine aw ?_)
         all_goals
          refine IH.out _ ⟨?_⟩;rw[←hr.out];simp
        .rintro i b hi him hr;rw[List.all_nil,Bool.and_true]at hr;refine aw ?_;refine AO st.defs (S:=fun _ i b=>⟨[(3,.ptr (0::0::k::ρ) 0),(7,.d (.int .i64 i))],[(0::0::k::ρ,.box [.d (.lst (p.free.map AY)),.d (.lst (p.nodes.map AP)),.d (.lst (p.defs.map Ab)),.d (.int .i64 p.main),.osl (1::1::k::ρ) 0 p.nodes.length,.osl (1::2::k::ρ) 0 p.nodes.length,.osl (1::3::k::ρ) 0 p.defs.length,.d (.bool b)]),(1::1::k::ρ,.darr 1 (st.sizes.map AG)),(1::2::k::ρ,.darr 1 (st.met.map FX)),(1::3::k::ρ,.darr 1 (st.defs.map FX))],4,[]⟩)
          (Inv:=fun i rest b=>AA ((!b&&rest.all id)=(st.met.all id&&st.defs.all id))) (b0:=b) (m:=p.defs.length) (by omega) ⟨?_⟩ ?_ ?_
         .rw[hr.out]
         .clear hr hi him i b;rintro i y b hy hi him hr IH;have hiN:=Int.ofNat_lt.1 him;cases b<;>cases y;all_goals (refine aw ?_)
          all_goals
           refine IH.out _ ⟨?_⟩;rw[←hr.out];simp
         .clear hr hi him i b;rintro i b hi him hr;rw[List.all_nil,Bool.and_true]at hr;refine aw ?_;have hx:=hlk.out;cases b
          .have:st.met.all id=true∧st.defs.all id=true:=by have:=hr.out;simp only[Bool.not_false]at this;exact(Bool.and_eq_true _ _).mp this.symm
           rw[Fq,Fq]at this;rw[if_pos this]at hx;refine⟨fun hn=>(by rw[hx]at hn;cases hn),fun st' hs=>?_⟩;rw[hx]at hs;cases hs;refine⟨_,_,1::k::ρ,2::k::ρ,3::k::ρ,rfl,⟨?_,fun _ _=>?_,fun _ _=>?_,fun _ _=>?_,fun _=>?_,fun _=>?_,fun _=>?_⟩⟩
           .simp only[Ca,slv,hN0,hD0,if_false,if_true];simp only[go_sem]
           .simp only[go_sem]
           .simp only[go_sem]
           .simp only[go_sem]
           .exact⟨_,by(simp only[go_sem];try rfl)⟩
           .exact⟨_,by(simp only[go_sem];try rfl)⟩
           .exact⟨_,by(simp only[go_sem];try rfl)⟩
          .have: ¬((¬false∈st.met)∧(¬false∈st.defs)):=fun h=>by
            rw[←Fq,←Fq]at h;have:=hr.out;rw[h.1,h.2]at this;cases this
           rw[if_neg this]at hx;exact⟨fun _=>⟨_,_,_,_,_,_,_,_,_,rfl,by(simp only[go_sem];try rfl)⟩,fun st hs=>(by rw[hx]at hs;cases hs)⟩
    .by_cases hN0:p.nodes.length=0<;>by_cases hD0:p.defs.length=0;all_goals ((repeat' (first|simp only[go_sem, *]|(refine sx ?_ ?_<;>intro hc)|refine sy (by omega) fun x hx hm=>?_|simp(disch:=first|assumption|omega) only[wrap_id,AF,AC,slice_int,C3,EO])))
     all_goals exact⟨fun _=>⟨_,_,_,_,_,_,_,_,_,rfl,by(simp only[go_sem];try rfl)⟩,fun st hs=>(by rw[hbadL.out rfl]at hs;cases hs)⟩
 .have e:looks p=none:=by
   unfold looks;rw[if_neg fun h=>hs h.1]
  have hs: ¬(p.free.length≤12∧p.nodes.length≤60∧p.defs.length≤12):=by
   intro h;apply hs;simp only[AL.small,Bool.and_eq_true,decide_eq_true_eq];exact h
  replace hs:=AA.mk hs
  (refine EB rfl Tryz.func83 rfl rfl rfl ?_;show Wp _ _ _ _ (Tryz.f83.body.get rfl) _ _;simp only[Tryz.f83,Option.get_some])
  (repeat' (first|simp only[go_sem, *]|(refine sx ?_ ?_<;>intro hc)|refine sy (by omega) fun x hx hm=>?_|simp(disch:=first|assumption|omega) only[wrap_id,AF,AC,slice_int]))
  all_goals first
  |exact⟨fun _=>⟨_,_,_,_,_,_,_,_,_,rfl,by(simp only[go_sem];try rfl)⟩,fun st hs=>(by rw[e]at hs;cases hs)⟩
  |(have hs:=hs.out;exfalso;omega)
end Go.Proofs
namespace Go.Proofs
open Go Go.Abs
set_option maxRecDepth 100000
set_option maxHeartbeats 4000000
def QO(p:AL):Int:=match looks p with|some _=>0|none=>2
theorem Xa(p:AL):Au (KL Tryz.prog cfg) 44 [.agg [.d (.lst (p.free.map AY)),.d (.lst (p.nodes.map AP)),.d (.lst (p.defs.map Ab)),.d (.int .i64 p.main)]] []=.ok (.ret (.d (.int .i64 (QO p))),[]):=by
 (refine AU rfl Tryz.func44 rfl rfl rfl ?_;show Wp _ _ _ _ (Tryz.f44.body.get rfl) _ _;simp only[Tryz.f44,Option.get_some])
 obtain⟨r,e,hp⟩:=dG p 3 [];cases hl:looks p with
 |none=>
  obtain⟨h,l,x0,x1,x2,x3,x4,x5,x6,rfl,hg⟩:=hp.no hl;replace hp:=AA.mk hp;have he:QO p=2:=by rw[QO,hl]
  rw[he]
  (repeat' (first|simp only[go_sem, *,KU]|(refine sx ?_ ?_<;>intro hc)|refine sy (by omega) fun x hx hm=>?_|simp(disch:=first|assumption|omega) only[wrap_id,AF,AC,slice_int]))
 |some st=>
  obtain⟨h,l,sz,ow,us,rfl,hg⟩:=hp.yes st hl;have q1:=hg.box;rw[Ca]at q1;replace hp:=AA.mk hp;have he:QO p=0:=by rw[QO,hl]
  rw[he]
  (repeat' (first|simp only[go_sem, *,KU]|(refine sx ?_ ?_<;>intro hc)|refine sy (by omega) fun x hx hm=>?_|simp(disch:=first|assumption|omega) only[wrap_id,AF,AC,slice_int]))
theorem Mt{p:AL}{st:Aw}(hl:looks p=some st):Au (KL Tryz.prog cfg) 68 [.agg [.d (.lst (p.free.map AY)),.d (.lst (p.nodes.map AP)),.d (.lst (p.defs.map Ab)),.d (.int .i64 p.main)]] []=.ok (.ret (.d (.lst (st.sizes.map AG))),[]):=by
 (refine AU rfl Tryz.func68 rfl rfl rfl ?_;show Wp _ _ _ _ (Tryz.f68.body.get rfl) _ _;simp only[Tryz.f68,Option.get_some])
 obtain⟨r,e,hp⟩:=dG p 3 [];obtain⟨h,l,sz,ow,us,rfl,hg⟩:=hp.yes st hl;have hF:=Bo hl;have hN:p.nodes.length≠0:=by
  have:=AK hF.main.2;rw[hF.len]at this;omega
 have q1:=hg.box;have q2:=hg.sizes rfl hN;rw[Ca,Al hN]at q1;have tk1:List.take p.nodes.length (List.map AG st.sizes)=List.map AG st.sizes:=List.take_of_length_le (by simp[hF.len]);have hF2:=hF.len;replace hp:=AA.mk hp;replace hg:=AA.mk hg;clear hF
 (repeat' (first|simp only[go_sem, *,Nat.le_refl,KU]|(refine sx ?_ ?_<;>intro hc)|refine sy (by omega) fun x hx hm=>?_|simp(disch:=first|assumption|omega) only[wrap_id,AF,AC,slice_int]))
end Go.Proofs
namespace Go.Proofs
open Go Go.Abs
set_option maxRecDepth 100000
set_option maxHeartbeats 4000000
theorem lN(t:Bool):BR (CI 2) t=.ok (FQ (CI 2) t):=MO _ _
theorem Gj{l:List Ck}{i:Int}{s:Ck}(h:l[i.toNat]? =some s):Ct l i=s.in_:=by simp[Ct,h]
theorem lc(l:List Ck)(hl:l.length≤1000):Au (KL Tryz.prog cfg) 61 [.d (.lst (l.map AX))] []=BR (CI 2) (Eo l):=by
 rw[lN]
 (refine AU rfl Tryz.func61 rfl rfl rfl ?_;show Wp _ _ _ _ (Tryz.f61.body.get rfl) _ _;simp only[Tryz.f61,Option.get_some])
 by_cases h0:(0:Int)<l.length
 .obtain⟨s0,hs0⟩:=get_some (l:=l) (i:=0) (by omega);have hp0:Ct l 0=s0.in_:=Gj hs0
  (repeat' (first|simp only[go_sem, *]|(refine sx ?_ ?_<;>intro hc)|refine sy (by omega) fun x hx hm=>?_|simp(disch:=first|assumption|omega) only[wrap_id,AF,AC,slice_int]))
  .refine AO l _ (S:=fun m i (_:Unit)=>⟨[(0,.d (.lst (l.map AX))),(17,.d (.int .i64 m)),(18,.d (.int .i64 i))],[],0,[]⟩)
    (Inv:=fun i rest _=>AA (Eo l=DH l i rest.length)) (b0:=()) rfl ⟨?_⟩ ?_ ?_
   .simp only[Eo];rw[decide_eq_true (show 0<l.length by omega),decide_eq_true (show Ct l 0= -1 by rw[hp0];assumption)];rfl
   .rintro i y _ hy hi him hr IH;rw[List.length_cons,DH]at hr;refine aw ?_;have hr0:=hr;refine rounds (S:=fun a:Int×Nat=>⟨[(0,.d (.lst (l.map AX))),(3,.d (.int .i64 (a.1))),(4,.d (.int .i64 (a.2))),(17,.d (.int .i64 (l.length))),(18,.d (.int .i64 (i)))],[],0,[]⟩)
     (Inv:=fun a=>Fe l a.1∧a.2≤l.length∧AA (A7 l l.length i=A7 l (l.length-a.2) a.1)) (m:=fun a=>l.length+1-a.2) (a:=(i,0)) ⟨⟨by omega,by omega⟩,by omega,⟨rfl⟩⟩ ?_
    rintro⟨at_,n⟩ ⟨⟨hr1,hr2⟩,hn,hcl⟩ IH2;dsimp only at*;have hlt:at_.toNat<l.length:=by omega
    obtain⟨s,hs⟩:=get_some hlt;have hps:=AA.mk (Gj hs)
    (repeat' (first|simp only[go_sem, *]|(refine sx ?_ ?_<;>intro hc)|refine sy (by omega) fun x hx hm=>?_|simp(disch:=first|assumption|omega) only[wrap_id,AF,AC,slice_int]))
    .refine IH.out () ⟨?_⟩;rw[hr.out,hcl.out,show at_=0 by assumption,F9,Bool.true_and]
    .refine IH2.out (s.in_,n+1) (by dsimp only;omega) ⟨⟨by assumption,by assumption⟩,by dsimp only;omega,⟨?_⟩⟩;dsimp only;rw[hcl.out];obtain⟨j,hj⟩: ∃j,l.length-n=j+1:=⟨l.length-n-1,by omega⟩;rw[hj,show l.length-(n+1)=j by omega,A7,hps.out];simp only[decide_eq_false (show¬at_=0 by assumption),Bool.false_or];rw[decide_eq_true (show Fe l s.in_ from⟨by assumption,by assumption⟩),Bool.true_and]
    all_goals
     have hf:Eo l=false:=by
      rw[hr0.out,hcl.out];rcases Nat.eq_zero_or_pos (l.length-n)with hz|hz
      .rw[hz,A7];simp only[decide_eq_false (show¬at_=0 by assumption),Bool.false_and]
      .obtain⟨j,hj⟩: ∃j,l.length-n=j+1:=⟨l.length-n-1,by omega⟩;rw[hj,A7,hps.out];simp only[decide_eq_false (show¬at_=0 by assumption),Bool.false_or];rw[decide_eq_false (show¬Fe l s.in_ from fun h=>by have:=h.1;have:=h.2;omega),Bool.false_and,Bool.false_and]
     rw[hf];rfl
   .rintro i _ hi him hr;refine aw ?_;rw[hr.out];rfl
  .have:Eo l=false:=by
    simp only[Eo,hp0,decide_eq_false (show¬s0.in_= -1 by assumption),Bool.false_and,Bool.and_false]
   rw[this];rfl
 .have:Eo l=false:=by simp[Eo];omega
  rw[this];refine aw ?_;rfl
theorem f8(l:List Ck)(x y z:AN)(hl:l.length≤1000):Au (KL Tryz.prog cfg) 64 [.agg [.d (.lst (l.map AX)),.d x,.d y,.d z]] []=.ok (.ret (.d (.bool (Eo l))),[]):=by
 have hb:Eo l=(decide (0<l.length)&&(decide (Ct l 0= -1)&&DH l 0 l.length)):=rfl;replace hb:=AA.mk hb
 (refine AU rfl Tryz.func64 rfl rfl rfl ?_;show Wp _ _ _ _ (Tryz.f64.body.get rfl) _ _;simp only[Tryz.f64,Option.get_some])
 refine aw ?_;refine Ad l (S:=fun i (_:Unit)=>⟨[(1,.ptr [0,0] 0),(3,.d (.int .i64 (i)))],[([0,0],.box [.d (.lst (l.map AX)),.d x,.d y,.d z])],1,[]⟩)
  (Inv:=fun i rest _=>AA (DH l 0 l.length=DH l i rest.length)) (b0:=()) ⟨rfl⟩ ?_ ?_
 .rintro i yy _ hy hi him hr IH;rw[List.length_cons,DH]at hr;refine aw ?_;refine rounds (S:=fun a:Int×Nat=>⟨[(1,.ptr [0,0] 0),(3,.d (.int .i64 (i))),(4,.d (.int .i64 (a.1))),(5,.d (.int .i64 (a.2)))],[([0,0],.box [.d (.lst (l.map AX)),.d x,.d y,.d z])],1,[]⟩)
   (Inv:=fun a=>Fe l a.1∧a.2≤l.length+1∧AA (A7 l (l.length+1) i=A7 l (l.length+1-a.2) a.1)) (m:=fun a=>l.length+1-a.2) (a:=(i,0)) ⟨⟨by omega,by omega⟩,by omega,⟨rfl⟩⟩ ?_
  rintro⟨at_,n⟩ ⟨⟨hr1,hr2⟩,hn,hcl⟩ IH2;dsimp only at*;have hlt:at_.toNat<l.length:=by omega
  obtain⟨s,hs⟩:=get_some hlt;have hps:=AA.mk (Gj hs);have hmo:=AA.mk (UP (l:=l) (i:=i) ⟨by omega,by omega⟩);have hok:AA (at_=0→A7 l l.length i=true):=⟨fun h=>by rw[←hmo.out,hcl.out,h,F9]⟩;have hno:AA (A7 l l.length i=false→Eo l=false):=⟨fun h=>by rw[hb.out,hr.out,h,Bool.false_and,Bool.and_false,Bool.and_false]⟩
  (repeat' (first|simp only[go_sem, *]|(refine sx ?_ ?_<;>intro hc)|refine sy (by omega) fun x hx hm=>?_|simp(disch:=first|assumption|omega) only[wrap_id,AF,AC,slice_int]))
  all_goals first
  |(refine IH.out () ⟨?_⟩
    rw[hr.out,hok.out (by assumption),Bool.true_and])
  |(refine IH2.out (s.in_,n+1) (by dsimp only;omega) ⟨⟨by dsimp only;omega,by dsimp only;omega⟩,by dsimp only;omega,⟨?_⟩⟩
    dsimp only;rw[hcl.out];obtain⟨j,hj⟩: ∃j,l.length+1-n=j+1:=⟨l.length+1-n-1,by omega⟩;rw[hj,show l.length+1-(n+1)=j by omega,A7,hps.out];simp only[decide_eq_false (show¬at_=0 by assumption),Bool.false_or];rw[decide_eq_true (show Fe l s.in_ from⟨by omega,by omega⟩),Bool.true_and])
  |(rw[hno.out]
    rw[←hmo.out,hcl.out];rcases Nat.eq_zero_or_pos (l.length+1-n)with hz|hz
    .rw[hz,A7];simp only[decide_eq_false (show¬at_=0 by assumption)]
    .obtain⟨j,hj⟩: ∃j,l.length+1-n=j+1:=⟨l.length+1-n-1,by omega⟩;rw[hj,A7,hps.out];simp only[decide_eq_false (show¬at_=0 by assumption),Bool.false_or];rw[decide_eq_false (show¬Fe l s.in_ from fun h=>by have:=h.1;have:=h.2;omega),Bool.false_and])
 .rintro i _ hi him hr;have hb1:AA (DH l 0 l.length=true):=⟨by rw[hr.out];rfl⟩;by_cases h0:(0:Int)<l.length
  .obtain⟨s0,hs0⟩:=get_some (l:=l) (i:=0) (by omega);have hp0:=AA.mk (show Ct l 0=s0.in_ from Gj hs0);refine aw ?_;rw[hb.out,hb1.out,hp0.out,decide_eq_true (show 0<l.length by omega),Bool.true_and,Bool.and_true]
  .refine aw ?_;rw[hb.out,decide_eq_false (show¬0<l.length by omega),Bool.false_and]
theorem Zk(l:List Ck)(b a:Int)(hl:l.length≤1000)(ht:Mz l)(hb:Fe l b)(ha:0≤a):Au (KL Tryz.prog cfg) 63 [.d (.lst (l.map AX)),.d (.int .i64 (b)),.d (.int .i64 (a))] []=.ok (.ret (.d (.bool (Ih l b a))),[]):=by
 (refine AU rfl Tryz.func63 rfl rfl rfl ?_;show Wp _ _ _ _ (Tryz.f63.body.get rfl) _ _;simp only[Tryz.f63,Option.get_some])
 refine aw ?_;refine rounds (S:=fun c:Int×Nat=>⟨[(0,.d (.lst (l.map AX))),(1,.d (.int .i64 (c.1))),(2,.d (.int .i64 (a)))],[],0,[]⟩)
  (Inv:=fun c=>(Fe l c.1∧A7 l c.2 c.1=true∧AA (Ih l b a=decide (a∈bb l c.2 c.1)))∨(c.1= -1∧c.2=0∧AA (Ih l b a=false))) (m:=fun c=>if c.1= -1 then 0 else c.2+1) (a:=(b,l.length)) (.inl ⟨hb,ht.climbs b hb,⟨rfl⟩⟩) ?_
 rintro⟨c,k⟩ hI IH;dsimp only at*;rcases hI with⟨⟨h1,h2⟩,hcl,hin⟩|⟨rfl,rfl,hin⟩
 .have hlt:c.toNat<l.length:=by omega
  obtain⟨s,hs⟩:=get_some hlt;have hps:=AA.mk (Gj hs)
  (repeat' (first|simp only[go_sem, *]|(refine sx ?_ ?_<;>intro hc)|refine sy (by omega) fun x hx hm=>?_|simp(disch:=first|assumption|omega) only[wrap_id,AF,AC,slice_int]))
  .rw[hin.out,decide_eq_true (by rw[←show c=a by assumption];exact Qk _ _ _)]
  .by_cases hc0:c=0
   .subst hc0;have hp1:s.in_= -1:=by rw[←hps.out];exact ht.top
    rw[hp1];refine IH.out (-1,0) (by dsimp only;rw[if_pos rfl,if_neg (by decide)];omega) (.inr ⟨rfl,rfl,⟨?_⟩⟩);rw[hin.out,Se,decide_eq_false];simp only[List.mem_singleton];omega
   .rcases k with _|k
    .simp[A7,hc0]at hcl
    .have h3:=HQ hc0 hcl;rw[hps.out]at h3;have:=h3.1.1;refine IH.out (s.in_,k) (by dsimp only;rw[if_neg (by omega),if_neg (by omega)];omega) (.inl ⟨h3.1,h3.2,⟨?_⟩⟩);rw[hin.out,Wq hc0 hcl,hps.out];have hne: ¬a=c:=fun e=>by omega
     simp only[List.mem_cons,hne,false_or]
 ·(repeat' (first|simp only[go_sem, *]|(refine sx ?_ ?_<;>intro hc)|refine sy (by omega) fun x hx hm=>?_|simp(disch:=first|assumption|omega) only[wrap_id,AF,AC,slice_int]))
  .omega
  .rw[hin.out]
theorem YR(l:List Ck)(x y z:AN)(b a:Int)(hl:l.length≤1000)(ht:Mz l)(hb:Fe l b)(ha:0≤a):Au (KL Tryz.prog cfg) 38 [.agg [.d (.lst (l.map AX)),.d x,.d y,.d z],.d (.int .i64 (b)),.d (.int .i64 (a))] []=.ok (.ret (.d (.bool (Ih l b a))),[]):=by
 (refine AU rfl Tryz.func38 rfl rfl rfl ?_;show Wp _ _ _ _ (Tryz.f38.body.get rfl) _ _;simp only[Tryz.f38,Option.get_some])
 refine aw ?_;refine rounds (S:=fun c:Int×Nat=>⟨[(1,.d (.int .i64 (c.1))),(2,.d (.int .i64 (a))),(3,.ptr [0,0] 0)],[([0,0],.box [.d (.lst (l.map AX)),.d x,.d y,.d z])],1,[]⟩)
  (Inv:=fun c=>(Fe l c.1∧A7 l c.2 c.1=true∧AA (Ih l b a=decide (a∈bb l c.2 c.1)))∨(c.1= -1∧c.2=0∧AA (Ih l b a=false))) (m:=fun c=>if c.1= -1 then 0 else c.2+1) (a:=(b,l.length)) (.inl ⟨hb,ht.climbs b hb,⟨rfl⟩⟩) ?_
 rintro⟨c,k⟩ hI IH;dsimp only at*;rcases hI with⟨⟨h1,h2⟩,hcl,hin⟩|⟨rfl,rfl,hin⟩
 .have hlt:c.toNat<l.length:=by omega
  obtain⟨s,hs⟩:=get_some hlt;have hps:=AA.mk (Gj hs)
  (repeat' (first|simp only[go_sem, *]|(refine sx ?_ ?_<;>intro hc)|refine sy (by omega) fun x hx hm=>?_|simp(disch:=first|assumption|omega) only[wrap_id,AF,AC,slice_int]))
  .rw[hin.out,decide_eq_true (by rw[←show c=a by assumption];exact Qk _ _ _)]
  .by_cases hc0:c=0
   .subst hc0;have hp1:s.in_= -1:=by rw[←hps.out];exact ht.top
    rw[hp1];refine IH.out (-1,0) (by dsimp only;rw[if_pos rfl,if_neg (by decide)];omega) (.inr ⟨rfl,rfl,⟨?_⟩⟩);rw[hin.out,Se,decide_eq_false];simp only[List.mem_singleton];omega
   .rcases k with _|k
    .simp[A7,hc0]at hcl
    .have h3:=HQ hc0 hcl;rw[hps.out]at h3;have:=h3.1.1;refine IH.out (s.in_,k) (by dsimp only;rw[if_neg (by omega),if_neg (by omega)];omega) (.inl ⟨h3.1,h3.2,⟨?_⟩⟩);rw[hin.out,Wq hc0 hcl,hps.out];have hne: ¬a=c:=fun e=>by omega
     simp only[List.mem_cons,hne,false_or]
 ·(repeat' (first|simp only[go_sem, *]|(refine sx ?_ ?_<;>intro hc)|refine sy (by omega) fun x hx hm=>?_|simp(disch:=first|assumption|omega) only[wrap_id,AF,AC,slice_int]))
  .omega
  .rw[hin.out]
theorem Ti(p:AL)(sp ch:List (List AN))(g w:AN)(v:DU)(h1:sp.length≤1000000)(h2:ch.length≤1000000)(h3:p.free.length≤1000000):Au (KL Tryz.prog cfg) 117 [.agg [.d (.lst (p.free.map AY)),.d (.lst (p.nodes.map AP)),.d (.lst (p.defs.map Ab)),.d (.int .i64 (p.main))],.agg [.d (.lst sp),.d g,.d (.lst ch),.d w],.agg [.d (.int .i64 (v.kind)),.d (.int .i64 (v.n))]] []=.ok (.ret (.d (.bool (v.inB p ch.length sp.length))),[]):=by
 (refine AU rfl Tryz.func117 rfl rfl rfl ?_;show Wp _ _ _ _ (Tryz.f117.body.get rfl) _ _;simp only[Tryz.f117,Option.get_some])
 (repeat' (first|simp only[go_sem, *]|(refine sx ?_ ?_<;>intro hc)|refine sy (by omega) fun x hx hm=>?_|simp(disch:=first|assumption|omega) only[wrap_id,AF,AC,slice_int]))
 all_goals simp[DU.inB, *]
theorem IM(p:AL)(sp ch:List (List AN))(g w:AN)(l:List DU)(h1:sp.length≤1000000)(h2:ch.length≤1000000)(h3:p.free.length≤1000000)(hl:l.length≤1000000):Au (KL Tryz.prog cfg) 70 [.agg [.d (.lst (p.free.map AY)),.d (.lst (p.nodes.map AP)),.d (.lst (p.defs.map Ab)),.d (.int .i64 (p.main))],.agg [.d (.lst sp),.d g,.d (.lst ch),.d w],.d (.lst (l.map Ac))] []=.ok (.ret (.d (.bool (l.all (DU.inB p ch.length sp.length)))),[]):=by
 (refine AU rfl Tryz.func70 rfl rfl rfl ?_;show Wp _ _ _ _ (Tryz.f70.body.get rfl) _ _;simp only[Tryz.f70,Option.get_some])
 refine aw ?_;refine Ad l (S:=fun i (_:Unit)=>⟨[(2,.d (.lst (l.map Ac))),(3,.ptr [0,0] 0),(4,.ptr [0,1] 0),(7,.d (.int .i64 (i)))],[([0,0],.box [.d (.lst (p.free.map AY)),.d (.lst (p.nodes.map AP)),.d (.lst (p.defs.map Ab)),.d (.int .i64 (p.main))]),([0,1],.box [.d (.lst sp),.d g,.d (.lst ch),.d w])],2,[]⟩)
  (Inv:=fun i rest _=>AA (l.all (DU.inB p ch.length sp.length)=rest.all (DU.inB p ch.length sp.length))) (b0:=()) ⟨rfl⟩ ?_ ?_
 .rintro i y _ hy hi him hr IH;have hv:=Ti p sp ch g w y h1 h2 h3
  (repeat' (first|simp only[go_sem, *]|(refine sx ?_ ?_<;>intro hc)|refine sy (by omega) fun x hx hm=>?_|simp(disch:=first|assumption|omega) only[wrap_id,AF,AC,slice_int]))
  all_goals first
  |(refine IH.out () ⟨?_⟩;rw[hr.out,List.all_cons];simp only[*,Bool.true_and];done)
  |(rw[hr.out,List.all_cons];simp only[*,Bool.false_and];done)
 .rintro i _ hi him hr;refine aw ?_;rw[hr.out];rfl
end Go.Proofs
namespace Go.Proofs
open Go Go.Abs
set_option maxRecDepth 100000
set_option maxHeartbeats 4000000
theorem JZ(op:Int):Au (KL Tryz.prog cfg) 69 [.d (.int .i64 (op))] []=.ok (.ret (.d (.bool (Dk op))),[]):=by
 (refine AU rfl Tryz.func69 rfl rfl rfl ?_;show Wp _ _ _ _ (Tryz.f69.body.get rfl) _ _;simp only[Tryz.f69,Option.get_some])
 (repeat' (first|simp only[go_sem, *]|(refine sx ?_ ?_<;>intro hc)|refine sy (by omega) fun x hx hm=>?_|simp(disch:=first|assumption|omega) only[wrap_id,AF,AC,slice_int]))
 all_goals simp[Dk, *]
theorem OI(p:AL)(g:Ae)(d:Ba)(n:Int)(h0:0≤g.def_)(hd:p.defs[g.def_.toNat]? =some d)(c1:d.chans.length≤30)(c2:d.spots.length≤30)(he:d.own≤g.env.length)(hl:g.env.length≤10000)(hn:0≤n)(hn2:n≤d.spots.length):Au (KL Tryz.prog cfg) 118 [.agg [.d (.lst (p.free.map AY)),.d (.lst (p.nodes.map AP)),.d (.lst (p.defs.map Ab)),.d (.int .i64 (p.main))],.agg [.d (.int .i64 (g.def_)),.d (.int .i64 (g.at_)),.d (.lst (g.env.map Ac))],.d (.int .i64 (n))] []=.ok (.ret (.d (.int .i64 (g.place d n))),[]):=by
 unfold Ba.own at he
 (refine AU rfl Tryz.func118 rfl rfl rfl ?_;show Wp _ _ _ _ (Tryz.f118.body.get rfl) _ _;simp only[Tryz.f118,Option.get_some])
 by_cases hn0:n=0
 ·(repeat' (first|simp only[go_sem, *,Ae.place]|(refine sx ?_ ?_<;>intro hc)|refine sy (by omega) fun x hx hm=>?_|simp(disch:=first|assumption|omega) only[wrap_id,AF,AC,slice_int]))
 .have hlt:g.env.length-d.spots.length-0+(n-1).toNat<g.env.length:=by omega
  obtain⟨v,hv⟩:=get_some hlt;have hpl:AA (g.place d n=v.n):=⟨by
   rw[Ae.place,if_neg hn0,Ae.own];simp only[Bool.false_eq_true,if_false];rw[hv];rfl⟩
  have e1:((g.env.length:Int)-(d.spots.length:Int)+n-1).toNat=g.env.length-d.spots.length-0+(n-1).toNat:=by omega
  rw[←e1]at hv;replace e1:=AA.mk e1;have e2:0≤(g.env.length:Int)-(d.spots.length:Int)+n-1:=by omega
  refine aw ?_;rw[hpl.out]
theorem SM{p:AL}{st:Aw}(hlk:looks p=some st):Au (KL Tryz.prog cfg) 115 [.agg [.d (.lst (p.free.map AY)),.d (.lst (p.nodes.map AP)),.d (.lst (p.defs.map Ab)),.d (.int .i64 (p.main))]] []=.ok (.ret (.d (.lst ((A4 p st.sizes).map AG))),[]):=by
 have hso:=Mt hlk;have hF:=Bo hlk;have hsm:=hF.small;simp only[AL.small,Bool.and_eq_true,decide_eq_true_eq]at hsm;obtain⟨c1,c2,c3⟩:=hsm;have hF2:=AA.mk hF;clear hF
 (refine AU rfl Tryz.func115 rfl rfl rfl ?_;show Wp _ _ _ _ (Tryz.f115.body.get rfl) _ _;simp only[Tryz.f115,Option.get_some])
 by_cases hD0:p.defs.length=0
 ·(repeat' (first|simp only[go_sem, *]|(refine sx ?_ ?_<;>intro hc)|refine sy (by omega) fun x hx hm=>?_|simp(disch:=first|assumption|omega) only[wrap_id,AF,AC,slice_int,C3]))
  refine Ad p.nodes (S:=fun i (_:Unit)=>⟨[(1,.ptr [0,0] 0),(3,.emp),(4,.d (.lst (st.sizes.map AG))),(5,.d (.int .i64 (i)))],[([0,0],.box [.d (.lst (p.free.map AY)),.d (.lst (p.nodes.map AP)),.d (.lst (p.defs.map Ab)),.d (.int .i64 (p.main))])],1,[]⟩)
   (Inv:=fun i rest _=>True) (b0:=()) trivial ?_ ?_
  .rintro i y _ hy hi him _ IH;have ho: ¬y.op=4:=fun ho=>by
    have:=Kg hF2.out hy ho;omega
   refine aw ?_;exact IH.out () trivial
  .rintro i _ hi him _;have:A4 p st.sizes=[]:=by
    refine List.eq_nil_of_length_eq_zero ?_;rw[A4,Fd];simpa using hD0
   rw[this];exact au
 ·(repeat' (first|simp only[go_sem, *]|(refine sx ?_ ?_<;>intro hc)|refine sy (by omega) fun x hx hm=>?_|simp(disch:=first|assumption|omega) only[wrap_id,AF,AC,slice_int,C3]))
  refine Ad p.nodes (S:=fun i (out:List Int)=>⟨[(1,.ptr [0,0] 0),(3,.osl [1,1] 0 p.defs.length),(4,.d (.lst (st.sizes.map AG))),(5,.d (.int .i64 (i)))],[([0,0],.box [.d (.lst (p.free.map AY)),.d (.lst (p.nodes.map AP)),.d (.lst (p.defs.map Ab)),.d (.int .i64 (p.main))]),([1,1],.darr 1 (out.map AG))],2,[]⟩)
   (Inv:=fun i rest out=>out.length=p.defs.length∧AA (A4 p st.sizes=DE st.sizes out rest)) (b0:=List.replicate p.defs.length 0) ⟨by simp,⟨rfl⟩⟩ ?_ ?_
  .rintro i y out hy hi him ⟨hol,hr⟩ IH;by_cases ho:y.op=4
   .obtain⟨n1,n2,k,v,hk,hk0,hkv,hks,_,_⟩:=Kg hF2.out hy ho;obtain⟨o,hoo⟩:=get_some (l:=out) (i:=y.n.toNat) (by omega);have hyn:y.n.toNat<p.defs.length:=by omega
    have hks:=AA.mk hks;refine aw ?_;have e:(out.map AG).set y.n.toNat [.int .i64 v]=(out.set y.n.toNat v).map AG:=by rw[List.map_set];rfl
    rw[e];refine IH.out (out.set y.n.toNat v) ⟨by simpa using hol,⟨?_⟩⟩;rw[hr.out,DE,if_pos ho,hks.out]
   .refine aw ?_;refine IH.out out ⟨hol,⟨?_⟩⟩;rw[hr.out,DE,if_neg ho]
  .rintro i out hi him ⟨hol,hr⟩;have tk:List.take p.defs.length (List.map AG out)=List.map AG out:=List.take_of_length_le (by simp[hol]);refine aw ?_;rw[hr.out];rfl
theorem kH(p:AL)(s:Bz)(g:Ae)(d:Ba)(ch:Hy)(c i j:Nat)(hc:c≤10000)(hi:i≤10000)(hg:s.groups[i]? =some g)(h0:0≤g.def_)(hd:p.defs[g.def_.toNat]? =some d)(hdo:Nb d)(hch:d.chans[j]? =some ch)(he:d.own≤g.env.length)(hl:g.env.length≤10000)(hp0:0≤g.place d ch.at_)(hp1:g.place d ch.at_<s.spots.length)(hf:p.free.length≤12)(hs1:s.spots.length≤24)(hs2:s.chans.length≤60):
 Au (KL Tryz.prog cfg) 116 [.agg [.d (.lst (p.free.map AY)),.d (.lst (p.nodes.map AP)),.d (.lst (p.defs.map Ab)),.d (.int .i64 (p.main))],.agg [.d (.lst (s.spots.map AX)),.d (.lst (s.groups.map Aa)),.d (.lst (s.chans.map Bp)),.d (.lst (s.waits.map A3))],.d (.int .i64 (c)),.d (.int .i64 (i)),.d (.int .i64 (j))] []=.ok (.ret (.d (.bool (Hp p s d g i j c ch))),[]):=by
 unfold Hp;have hj:=AK hch;have c1:=hdo.chans;have c2:=hdo.spots;have hca:=hdo.chan ch (List.mem_of_getElem? hch);have hpl:=OI p g d ch.at_ h0 hd c1 c2 he hl hca.1 hca.2.1;have hgi:=AK hg;have hdi:=AK hd;replace hdo:=AA.mk hdo;by_cases hcc:(s.chans.length:Int)≤c
 .rw[List.getElem?_eq_none (by omega)]
  (refine AU rfl Tryz.func116 rfl rfl rfl ?_;show Wp _ _ _ _ (Tryz.f116.body.get rfl) _ _;simp only[Tryz.f116,Option.get_some])
  exact au
 .have hcl:c<s.chans.length:=by omega
  obtain⟨q,hq⟩:=get_some hcl;rw[hq];dsimp only;obtain⟨sp,hsp⟩:=get_some (l:=s.spots) (i:=(g.place d ch.at_).toNat) (by omega);have hda:AA (A5 s.spots (g.place d ch.at_)=sp.dead):=⟨by simp[A5,hsp]⟩;have hck:AA (KI p s d g i j q ch=(decide (q.group=i)&&(decide (q.index=j)&&(decide (q.at_=g.place d ch.at_)&&(decide (q.queue.length≤12)&&((decide (q.queue.length=0)|| !A5 s.spots q.at_)&&q.queue.all (FI p s.chans.length s.spots.length ch.many))))))):=⟨rfl⟩
  (refine AU rfl Tryz.func116 rfl rfl rfl ?_;show Wp _ _ _ _ (Tryz.f116.body.get rfl) _ _;simp only[Tryz.f116,Option.get_some])
  (repeat' (first|simp only[go_sem, *]|(refine sx ?_ ?_<;>intro hc)|refine sy (by omega) fun x hx hm=>?_|simp(disch:=first|assumption|omega) only[wrap_id,AF,AC,slice_int]))
  all_goals try
   have e1:=hck.out;have e2:=hda.out;clear hpl hck hda;congr 3;grind
  all_goals
   have hfin:AA (KI p s d g i j q ch=q.queue.all (FI p s.chans.length s.spots.length ch.many)):=⟨by
    have e1:=hck.out;have e2:=hda.out;clear hpl hck hda;grind⟩
   refine Ad q.queue (S:=fun i' (_:Unit)=>⟨[(5,.ptr [0,0] 0),(6,.ptr [0,1] 0),(11,.ptr [0,2] 0),(13,.ptr [0,3] 0),(14,.d (.int .i64 (i')))],[([0,0],.box [.d (.lst (p.free.map AY)),.d (.lst (p.nodes.map AP)),.d (.lst (p.defs.map Ab)),.d (.int .i64 (p.main))]),([0,1],.box [.d (.lst (s.spots.map AX)),.d (.lst (s.groups.map Aa)),.d (.lst (s.chans.map Bp)),.d (.lst (s.waits.map A3))]),([0,2],.box [.d (.int .i64 (i)),.d (.int .i64 (j)),.d (.int .i64 (g.place d ch.at_)),.d (.lst (q.queue.map CW))]),([0,3],.box [.d (.int .i64 (ch.at_)),.d (.int .i64 (ch.many))])],4,[]⟩)
    (Inv:=fun _ rest _=>AA (q.queue.all (FI p s.chans.length s.spots.length ch.many)=rest.all (FI p s.chans.length s.spots.length ch.many))) (b0:=()) ⟨rfl⟩ ?_ ?_
   .rintro i' y _ hy hi' him hr IH;have hvs:=fun h=>IM p (s.spots.map AX) (s.chans.map Bp) (.lst (s.groups.map Aa)) (.lst (s.waits.map A3)) y (by simp;omega) (by simp;omega) (by omega) h;rw[List.length_map,List.length_map]at hvs;by_cases hym:(y.length:Int)=ch.many
    .have hvs:=hvs (by omega);have hmk:AA (FI p s.chans.length s.spots.length ch.many y=y.all (DU.inB p s.chans.length s.spots.length)):=⟨by
      rw[FI,decide_eq_true hym,Bool.true_and]⟩
     (repeat' (first|simp only[go_sem, *]|(refine sx ?_ ?_<;>intro hc)|refine sy (by omega) fun x hx hm=>?_|simp(disch:=first|assumption|omega) only[wrap_id,AF,AC,slice_int]))
     all_goals first
     |(refine IH.out () ⟨?_⟩;rw[hr.out,List.all_cons,hmk.out];simp only[*,Bool.true_and];done)
     |(rw[hfin.out,hr.out,List.all_cons,hmk.out];simp only[*,Bool.false_and];done)
    .have hmk:AA (FI p s.chans.length s.spots.length ch.many y=false):=⟨by
      rw[FI,decide_eq_false hym,Bool.false_and]⟩
     clear hvs;refine aw ?_;rw[hfin.out,hr.out,List.all_cons,hmk.out,Bool.false_and]
   .rintro i' _ hi' him hr;refine aw ?_;rw[hfin.out,hr.out];rfl
end Go.Proofs
namespace Go.Proofs
open Go Go.Abs
set_option maxRecDepth 100000
set_option maxHeartbeats 4000000
theorem U7(p:AL)(st:Aw)(s:Bz)(hlk:looks p=some st)(hss:s.small=true):Au (KL Tryz.prog cfg) 67 [.agg [.d (.lst (p.free.map AY)),.d (.lst (p.nodes.map AP)),.d (.lst (p.defs.map Ab)),.d (.int .i64 (p.main))],.agg [.d (.lst (s.spots.map AX)),.d (.lst (s.groups.map Aa)),.d (.lst (s.chans.map Bp)),.d (.lst (s.waits.map A3))]] []=.ok (.ret (.d (.bool (BK p (A4 p st.sizes) s 0 0 1 s.groups))),[]):=by
 have hks:=SM hlk;have hF:=AA.mk (Bo hlk);have hsm:=hF.out.small;simp only[AL.small,Bool.and_eq_true,decide_eq_true_eq]at hsm;obtain⟨c1,c2,c3⟩:=hsm;simp only[Bz.small,Bool.and_eq_true,decide_eq_true_eq]at hss;obtain⟨s1,s2,s3,s4⟩:=hss;have hgl:(A4 p st.sizes).length=p.defs.length:=by rw[A4,Fd];simp
 generalize hgs:A4 p st.sizes=gs at*;replace hgs:=AA.mk hgs
 (refine AU rfl Tryz.func67 rfl rfl rfl ?_;show Wp _ _ _ _ (Tryz.f67.body.get rfl) _ _;simp only[Tryz.f67,Option.get_some])
 refine aw ?_;refine Ad s.groups (S:=fun i (a:Nat×Nat)=>⟨[(2,.ptr [0,0] 0),(3,.ptr [0,1] 0),(5,.d (.lst (gs.map AG))),(6,.d (.int .i64 (a.1))),(7,.d (.int .i64 (a.2))),(8,.d (.int .i64 (i)))],[([0,0],.box [.d (.lst (p.free.map AY)),.d (.lst (p.nodes.map AP)),.d (.lst (p.defs.map Ab)),.d (.int .i64 (p.main))]),([0,1],.box [.d (.lst (s.spots.map AX)),.d (.lst (s.groups.map Aa)),.d (.lst (s.chans.map Bp)),.d (.lst (s.waits.map A3))])],2,[]⟩)
  (Inv:=fun i rest a=>a.1≤30*i∧a.2≤30*i+1∧AA (BK p gs s 0 0 1 s.groups=BK p gs s i a.1 a.2 rest)) (b0:=(0,1)) ⟨by simp,by simp,⟨rfl⟩⟩ ?_ ?_
 .rintro i g ⟨c,k⟩ hy hi him ⟨b1,b2,hr⟩ IH;dsimp only at*;by_cases x0:g.def_<0
  .have hf:AA (BK p gs s 0 0 1 s.groups=false):=⟨by rw[hr.out,BK,AL.def?,if_neg (by omega)]⟩;refine aw ?_;rw[hf.out]
  by_cases x1:(p.defs.length:Int)≤g.def_
  .have hf:AA (BK p gs s 0 0 1 s.groups=false):=⟨by rw[hr.out,BK,AL.def?,if_pos (by omega),List.getElem?_eq_none (by omega)]⟩;refine aw ?_;rw[hf.out]
  have x2:0≤g.def_:=by omega
  have hdl:g.def_.toNat<p.defs.length:=by omega
  obtain⟨d,hd⟩:=get_some hdl;have hdf:=C4 hF.out hd;obtain⟨v,hv⟩:=get_some (l:=gs) (i:=g.def_.toNat) (by omega);have hv2:d.own≤v∧v≤5060:=by
   obtain⟨_,_,s0,_,_,_,_,q0,q1,q2,_⟩:=hdf.node;rw[hgs.out,hv]at q2;cases q2;have:=Jh hdf.ok;omega
  have hstep:AA (BK p gs s 0 0 1 s.groups=(GV p gs s i c k g d&&BK p gs s (i+1) (c+d.chans.length) (k+d.spots.length) (s.groups.drop (i+1)))):=⟨by
   rw[hr.out,BK,AL.def?,if_pos x2,hd]⟩
  have hgo:AA (GV p gs s i c k g d=(decide (Fe s.spots g.at_)&&(decide ((g.env.length:Int)=v)&&(g.env.all (DU.inB p s.chans.length s.spots.length)&&(CF d c k g&&Co p s d g i c 0 d.chans))))):=⟨by
   rw[GV,hv];rfl⟩
  have hdo:=hdf.ok;have e1:=hdo.chans;have e2:=hdo.spots;have e3:d.own=d.chans.length+d.spots.length:=rfl;replace hdo:=AA.mk hdo;replace hdf:=AA.mk hdf;by_cases hlen:(g.env.length:Int)=v
  .have hvs:=IM p (s.spots.map AX) (s.chans.map Bp) (.lst (s.groups.map Aa)) (.lst (s.waits.map A3)) g.env (by simp;omega) (by simp;omega) (by omega) (by omega);rw[List.length_map,List.length_map]at hvs;have hlt2:g.env.length≤5060:=by omega
   have hown:d.own≤g.env.length:=by omega
   replace hlen:=AA.mk hlen;have hgv:=AA.mk (show gs[g.def_.toNat]? =some v from hv);rw[←hlen.out]at hv;have w1:IntKind.i64.wrap ((g.env.length:Int)-(d.spots.length:Int))=(g.env.length:Int)-(d.spots.length:Int):=wrap_id (by omega) (by omega);have w2:IntKind.i64.wrap ((g.env.length:Int)-(d.spots.length:Int)-(d.chans.length:Int))=((g.env.length-d.chans.length-d.spots.length:Nat):Int):=by rw[wrap_id (by omega) (by omega)];omega
   have w5:IntKind.i64.wrap ((d.chans.length:Int)+(d.spots.length:Int))=(d.chans.length:Int)+(d.spots.length:Int):=wrap_id (by omega) (by omega)
   (repeat' (first|simp only[go_sem, *]|(refine sx ?_ ?_<;>intro hc)|refine sy (by omega) fun x hx hm=>?_|simp(disch:=first|assumption|omega) only[wrap_id,AF,AC,slice_int]))
   all_goals try
    have q1:=hstep.out;have q2:=hgo.out;clear hks hgo hstep IH;congr 3;grind [Fe]
   have hin:Fe s.spots g.at_:=⟨by omega,by omega⟩;have hall:g.env.all (DU.inB p s.chans.length s.spots.length)=true:=by assumption
   have hg2:AA (BK p gs s 0 0 1 s.groups=((CF d c k g&&Co p s d g i c 0 d.chans)&&BK p gs s (i+1) (c+d.chans.length) (k+d.spots.length) (s.groups.drop (i+1)))):=⟨by
    rw[hstep.out,hgo.out,decide_eq_true hin,decide_eq_true hlen.out,hall];simp⟩
   replace hin:=AA.mk hin;replace hall:=AA.mk hall;have hm0:AA (CF d c k g=decide (g.env.drop (g.env.length-d.chans.length-d.spots.length+0)=DN c k d)):=⟨rfl⟩;clear hvs hgo hstep;refine Ad (DN c k d) (S:=fun i2 (a:Nat×Nat)=>⟨[(2,.ptr [0,0] 0),(3,.ptr [0,1] 0),(5,.d (.lst (gs.map AG))),(6,.d (.int .i64 (a.1))),(7,.d (.int .i64 (a.2))),(8,.d (.int .i64 (i))),(9,.ptr [0,2] 0),(10,.ptr [0,3] 0),(11,.d (.int .i64 (((g.env.length-d.chans.length-d.spots.length:Nat):Int)))),(12,.d (.int .i64 (i2)))],[([0,0],.box [.d (.lst (p.free.map AY)),.d (.lst (p.nodes.map AP)),.d (.lst (p.defs.map Ab)),.d (.int .i64 (p.main))]),([0,1],.box [.d (.lst (s.spots.map AX)),.d (.lst (s.groups.map Aa)),.d (.lst (s.chans.map Bp)),.d (.lst (s.waits.map A3))]),([0,2],.box [.d (.int .i64 (g.def_)),.d (.int .i64 (g.at_)),.d (.lst (g.env.map Ac))]),([0,3],.box [.d (.lst (d.chans.map Av)),.d (.lst (d.spots.map Af)),.d (.lst (d.rules.map Am))])],4,[]⟩)
    (Inv:=fun i2 rest a=>a.1=c+min i2 d.chans.length∧a.2=k+(i2-d.chans.length)∧AA (CF d c k g=decide (g.env.drop (g.env.length-d.chans.length-d.spots.length+i2)=rest))) (b0:=(c,k)) ⟨by simp,by simp,hm0⟩ ?_ ?_
   .rintro i2 y ⟨c',k'⟩ hy2 hi2 him2 ⟨ha1,ha2,hr2⟩ IH2;dsimp only at*;rw[GB]at hi2;obtain⟨u,hu,hdr⟩:=cP hown hi2;have hr3:AA (CF d c k g=(decide (u=y)&&decide (g.env.drop (g.env.length-d.chans.length-d.spots.length+(i2+1))=(DN c k d).drop (i2+1)))):=⟨by
     rw[hr2.out,hdr,Bool.eq_iff_iff];simp⟩
    have cnd:(i2:Int)<(d.chans.length:Int)+(d.spots.length:Int):=by omega
    have ix:(((g.env.length-d.chans.length-d.spots.length:Nat):Int)+(i2:Int)).toNat=g.env.length-d.chans.length-d.spots.length+i2:=by omega
    rw[←ix]at hu;have ix2:0≤((g.env.length-d.chans.length-d.spots.length:Nat):Int)+(i2:Int):=by omega
    replace ix:=AA.mk ix;have w3:IntKind.i64.wrap (((g.env.length-d.chans.length-d.spots.length:Nat):Int)+(i2:Int))=((g.env.length-d.chans.length-d.spots.length:Nat):Int)+(i2:Int):=wrap_id (by omega) (by omega);have hlt:AA (g.env.length≤10000):=⟨by have:=hlen.out;omega⟩;by_cases hch:i2<d.chans.length
    .have hge: ¬(d.chans.length:Int)≤(i2:Int):=by omega
     rw[IV _ _ _ hch]at hy2;cases hy2;obtain rfl:c'=c+i2:=by omega
     have ha:=AA.mk ha2;clear ha1 ha2;rw[←Int.natCast_add]at hr3;by_cases hu2:u=⟨3,((c+i2:Nat):Int)⟩
     .subst hu2;refine aw ?_;refine IH2.out (c+i2+1,k') ⟨by dsimp only;have:=ha.out;omega,by dsimp only;have:=ha.out;omega,⟨?_⟩⟩;rw[hr3.out];simp
     .have hne:(decide (u.kind=3)&&decide (u.n=((c+i2:Nat):Int)))=false:=by
       rw[←Bool.not_eq_true,Bool.and_eq_true,decide_eq_true_eq,decide_eq_true_eq];rintro⟨h1,h2⟩;exact hu2 (by cases u;simp_all)
      have hbad:AA (BK p gs s 0 0 1 s.groups=false):=⟨by
       rw[hg2.out,hr3.out,decide_eq_false hu2];simp⟩
      refine aw ?_;rw[hbad.out]
    .have hge:(d.chans.length:Int)≤(i2:Int):=by omega
     have hy3:=Iv c k d (j:=i2-d.chans.length) (by omega);rw[show d.chans.length+(i2-d.chans.length)=i2 by omega,hy2]at hy3;cases hy3;obtain rfl:k'=k+(i2-d.chans.length):=by omega
     have ha:=AA.mk ha1;clear ha1 ha2;rw[←Int.natCast_add]at hr3;by_cases hu2:u=⟨4,((k+(i2-d.chans.length):Nat):Int)⟩
     .subst hu2;refine aw ?_;refine IH2.out (c',k+(i2-d.chans.length)+1) ⟨by dsimp only;have:=ha.out;omega,by dsimp only;have:=ha.out;omega,⟨?_⟩⟩;rw[hr3.out];simp
     .have hne:(decide (u.kind=4)&&decide (u.n=((k+(i2-d.chans.length):Nat):Int)))=false:=by
       rw[←Bool.not_eq_true,Bool.and_eq_true,decide_eq_true_eq,decide_eq_true_eq];rintro⟨h1,h2⟩;exact hu2 (by cases u;simp_all)
      have hbad:AA (BK p gs s 0 0 1 s.groups=false):=⟨by
       rw[hg2.out,hr3.out,decide_eq_false hu2];simp⟩
      refine aw ?_;rw[hbad.out]
   .rintro i2 ⟨c',k'⟩ hi2 him2 ⟨ha1,ha2,hr2⟩;dsimp only at*;have hi3:=hi2.out;rw[GB]at hi3;obtain rfl:c'=c+d.chans.length:=by omega
    obtain rfl:k'=k+d.spots.length:=by omega
    clear ha1 ha2;have cnd: ¬(i2:Int)<(d.chans.length:Int)+(d.spots.length:Int):=by omega
    replace hi3:=AA.mk hi3;have hmine:AA (CF d c k g=true):=⟨by
     rw[hr2.out,List.drop_eq_nil_of_le (by have:=hi3.out;omega)];simp⟩
    have hg3:AA (BK p gs s 0 0 1 s.groups=(Co p s d g i c 0 d.chans&&BK p gs s (i+1) (c+d.chans.length) (k+d.spots.length) (s.groups.drop (i+1)))):=⟨by
     rw[hg2.out,hmine.out,Bool.true_and]⟩
    refine aw ?_;clear hr2 hi2 hi3 him2 cnd hm0 hg2 i2;refine Ad d.chans (S:=fun j (_:Unit)=>⟨[(2,.ptr [0,0] 0),(3,.ptr [0,1] 0),(5,.d (.lst (gs.map AG))),(6,.d (.int .i64 (((c+d.chans.length:Nat):Int)))),(7,.d (.int .i64 (((k+d.spots.length:Nat):Int)))),(8,.d (.int .i64 (i))),(10,.ptr [0,2] 0),(14,.d (.int .i64 (j)))],[([0,0],.box [.d (.lst (p.free.map AY)),.d (.lst (p.nodes.map AP)),.d (.lst (p.defs.map Ab)),.d (.int .i64 (p.main))]),([0,1],.box [.d (.lst (s.spots.map AX)),.d (.lst (s.groups.map Aa)),.d (.lst (s.chans.map Bp)),.d (.lst (s.waits.map A3))]),([0,2],.box [.d (.lst (d.chans.map Av)),.d (.lst (d.spots.map Af)),.d (.lst (d.rules.map Am))])],3,[]⟩)
     (Inv:=fun j rest _=>AA (Co p s d g i c 0 d.chans=Co p s d g i c j rest)) (b0:=()) ⟨rfl⟩ ?_ ?_
    .rintro j ch _ hyj hij himj hrj IHj;have hpi:=Mf hmine.out hown hin.out hall.out (n:=ch.at_) (hdo.out.chan ch (List.mem_of_getElem? hyj)).1 (hdo.out.chan ch (List.mem_of_getElem? hyj)).2.1;have hck:=kH p s g d ch (c+j) i j (by omega) (by omega) hy x2 hd hdo.out hyj hown (by omega) hpi.1 hpi.2 c1 s1 s3;have w6:IntKind.i64.wrap (((c+d.chans.length:Nat):Int)-(d.chans.length:Int))=(c:Int):=by rw[wrap_id (by omega) (by omega)];omega
     have w7:IntKind.i64.wrap ((c:Int)+(j:Int))=((c+j:Nat):Int):=by rw[wrap_id (by omega) (by omega)];omega
     replace hpi:=AA.mk hpi;rw[Co]at hrj;cases hv3:Hp p s d g i j (c+j) ch with
     |true=>
      rw[hv3]at hck hrj;refine aw ?_;refine IHj.out () ⟨?_⟩;rw[hrj.out,Bool.true_and]
     |false=>
      rw[hv3]at hck hrj;refine aw ?_;rw[hg3.out,hrj.out,Bool.false_and,Bool.false_and]
    .rintro j _ hij himj hrj;refine aw ?_;refine IH.out (c+d.chans.length,k+d.spots.length) ⟨by dsimp only;omega,by dsimp only;omega,⟨?_⟩⟩;dsimp only;rw[hg3.out,hrj.out,Co,Bool.true_and]
  ·(repeat' (first|simp only[go_sem, *]|(refine sx ?_ ?_<;>intro hc)|refine sy (by omega) fun x hx hm=>?_|simp(disch:=first|assumption|omega) only[wrap_id,AF,AC,slice_int]))
   all_goals
    have q1:=hstep.out;have q2:=hgo.out;clear hks hgo hstep IH;congr 3;grind [Fe]
 .rintro i ⟨c,k⟩ hi him ⟨b1,b2,hr⟩;dsimp only at*;have hfin:AA (BK p gs s 0 0 1 s.groups=(decide (c=s.chans.length)&&decide (k=s.spots.length))):=⟨by rw[hr.out,BK]⟩
  (repeat' (first|simp only[go_sem, *]|(refine sx ?_ ?_<;>intro hc)|refine sy (by omega) fun x hx hm=>?_|simp(disch:=first|assumption|omega) only[wrap_id,AF,AC,slice_int]))
  all_goals
   rw[hfin.out];congr 3;grind
end Go.Proofs
namespace Go.Proofs
open Go Go.Abs
set_option maxRecDepth 100000
set_option maxHeartbeats 4000000
def A8(p:AL)(s:Bz):Int:=match looks p with|some st=>if CX p st.sizes s=true then 0 else 2|none=>2
theorem PM(p:AL)(s:Bz):Au (KL Tryz.prog cfg) 32 [.agg [.d (.lst (p.free.map AY)),.d (.lst (p.nodes.map AP)),.d (.lst (p.defs.map Ab)),.d (.int .i64 (p.main))],.agg [.d (.lst (s.spots.map AX)),.d (.lst (s.groups.map Aa)),.d (.lst (s.chans.map Bp)),.d (.lst (s.waits.map A3))]] []=.ok (.ret (.d (.int .i64 (A8 p s))),[]):=by
 have hcp:=Xa p;cases hlk:looks p with
 |none=>
  have he:A8 p s=2:=by rw[A8,hlk]
  have he2:QO p=2:=by rw[QO,hlk]
  rw[he2]at hcp;rw[he]
  (refine AU rfl Tryz.func32 rfl rfl rfl ?_;show Wp _ _ _ _ (Tryz.f32.body.get rfl) _ _;simp only[Tryz.f32,Option.get_some])
  exact au
 |some st=>
  have he2:QO p=0:=by rw[QO,hlk]
  rw[he2]at hcp;have he:AA (A8 p s=if CX p st.sizes s=true then 0 else 2):=⟨by rw[A8,hlk]⟩;by_cases hss:s.small=true
  .have hbad:AA (CX p st.sizes s=false→A8 p s=2):=⟨fun h=>by rw[he.out,h];rfl⟩;have hF:=AA.mk (Bo hlk);have hsm:=hF.out.small;simp only[AL.small,Bool.and_eq_true,decide_eq_true_eq]at hsm;obtain⟨c1,c2,c3⟩:=hsm;have hok:AA (CX p st.sizes s=(Eo s.spots&&(Du s.spots (s.spots.drop 1)&&(BK p (A4 p st.sizes) s 0 0 1 s.groups&&s.waits.all (CY p st.sizes s))))):=⟨by rw[CX,hss,Bool.true_and]⟩;have hgr:=U7 p st s hlk hss;have hsz:=Mt hlk;simp only[Bz.small,Bool.and_eq_true,decide_eq_true_eq]at hss;obtain⟨s1,s2,s3,s4⟩:=hss;have z1: ¬(24:Int)<s.spots.length:=by omega
   have z2: ¬(40:Int)<s.groups.length:=by omega
   have z3: ¬(60:Int)<s.chans.length:=by omega
   have z4: ¬(40:Int)<s.waits.length:=by omega
   have htr:=f8 s.spots (.lst (s.groups.map Aa)) (.lst (s.chans.map Bp)) (.lst (s.waits.map A3)) (by omega);cases htb:Eo s.spots with
   |false=>
    rw[htb]at htr hok
    (refine AU rfl Tryz.func32 rfl rfl rfl ?_;show Wp _ _ _ _ (Tryz.f32.body.get rfl) _ _;simp only[Tryz.f32,Option.get_some])
    refine aw ?_;all_goals first
    |(exfalso;omega)
    |rw[hbad.out (by rw[hok.out];rfl)]
   |true=>
    rw[htb,Bool.true_and]at hok;rw[htb]at htr;have hT:=MN htb;have htop:=hT.top;replace hT:=AA.mk hT
    (refine AU rfl Tryz.func32 rfl rfl rfl ?_;show Wp _ _ _ _ (Tryz.f32.body.get rfl) _ _;simp only[Tryz.f32,Option.get_some])
    refine aw ?_;refine Ad (s.spots.drop 1) (S:=fun i (_:Unit)=>⟨[(2,.ptr [0,0] 0),(3,.ptr [0,1] 0),(5,.d (.int .i64 ((i:Int)+1)))],[([0,0],.box [.d (.lst (p.free.map AY)),.d (.lst (p.nodes.map AP)),.d (.lst (p.defs.map Ab)),.d (.int .i64 (p.main))]),([0,1],.box [.d (.lst (s.spots.map AX)),.d (.lst (s.groups.map Aa)),.d (.lst (s.chans.map Bp)),.d (.lst (s.waits.map A3))])],2,[]⟩)
     (Inv:=fun i rest _=>AA (Du s.spots (s.spots.drop 1)=Du s.spots rest)) (b0:=()) ⟨rfl⟩ ?_ ?_
    .rintro i y _ hy hi him hr IH;rw[List.getElem?_drop]at hy;rw[List.length_drop]at hi;have ix:((i:Int)+1).toNat=1+i:=by omega
     rw[←ix]at hy;replace ix:=AA.mk ix;have hi2:(i:Int)+1<s.spots.length:=by omega
     have hi3:0≤(i:Int)+1:=by omega
     have hpar:Fe s.spots y.in_:=by
      have h1:=hT.out.climbs ((i:Int)+1) ⟨by omega,by omega⟩;obtain⟨k,hk⟩: ∃k,s.spots.length=k+1:=⟨s.spots.length-1,by omega⟩;rw[hk]at h1;have h2:=(HQ (by omega) h1).1
      rwa [Gj hy]at h2
     obtain⟨p1,p2⟩:=hpar;obtain⟨z,hz⟩:=get_some (l:=s.spots) (i:=y.in_.toNat) (by omega);have hda:AA (A5 s.spots y.in_=z.dead):=⟨by simp[A5,hz]⟩;rw[Du]at hr;cases hyd:y.dead<;>cases hzd:z.dead;all_goals (refine aw ?_)
     all_goals first
     |(refine IH.out () ⟨?_⟩;rw[hr.out,hda.out,hyd,hzd];rfl)
     |(refine IH.out () ⟨?_⟩;rw[hr.out,hyd];rfl)
     |(rw[hbad.out (by rw[hok.out,hr.out,hda.out,hyd,hzd];rfl)])
    .rintro i _ hi him hr;have hi':=hi.out;rw[List.length_drop]at hi';have hi2: ¬(i:Int)+1<s.spots.length:=by omega
     replace hi':=AA.mk hi';rw[Du]at hr;cases hgv:BK p (A4 p st.sizes) s 0 0 1 s.groups with
     |false=>
      rw[hgv]at hgr;refine aw ?_;rw[hbad.out (by rw[hok.out,hgv,Bool.false_and,Bool.and_false])]
     |true=>
      rw[hgv]at hgr hok;refine aw ?_;have hr0:=hr;clear hr hi hi' him hi2;refine Ad s.waits (S:=fun i (_:Unit)=>⟨[(2,.ptr [0,0] 0),(3,.ptr [0,1] 0),(6,.d (.lst (st.sizes.map AG))),(7,.d (.int .i64 (i)))],[([0,0],.box [.d (.lst (p.free.map AY)),.d (.lst (p.nodes.map AP)),.d (.lst (p.defs.map Ab)),.d (.int .i64 (p.main))]),([0,1],.box [.d (.lst (s.spots.map AX)),.d (.lst (s.groups.map Aa)),.d (.lst (s.chans.map Bp)),.d (.lst (s.waits.map A3))])],2,[]⟩)
       (Inv:=fun i rest _=>AA (CX p st.sizes s=rest.all (CY p st.sizes s))) (b0:=()) ⟨?_⟩ ?_ ?_
      .rw[hok.out,hr0.out,Bool.true_and,Bool.true_and]
      .rintro i w _ hy hi him hr IH;have hwo:AA (CY p st.sizes s w=(decide (Fe s.spots w.at_)&&(!A5 s.spots w.at_&&(decide (0≤w.node)&&((match p.nodes[w.node.toNat]? with|some x=>Dk x.op|none=>false)&&(decide ((w.env.length:Int)=(st.sizes[w.node.toNat]?).getD 0)&&w.env.all (DU.inB p s.chans.length s.spots.length))))))):=⟨rfl⟩
       have hbw:AA (CY p st.sizes s w=false→A8 p s=2):=⟨fun h=>hbad.out (by rw[hr.out,List.all_cons,h,Bool.false_and])⟩;by_cases a0:w.at_<0
       .have hz:AA (A8 p s=2):=⟨hbw.out (by rw[hwo.out,decide_eq_false (show¬Fe s.spots w.at_ from fun h=>by have:=h.1;omega)];simp)⟩;refine aw ?_;all_goals rw[hz.out]
       by_cases a1:(s.spots.length:Int)≤w.at_
       .have hz:AA (A8 p s=2):=⟨hbw.out (by rw[hwo.out,decide_eq_false (show¬Fe s.spots w.at_ from fun h=>by have:=h.2;omega)];simp)⟩;refine aw ?_;all_goals rw[hz.out]
       have a2:0≤w.at_:=by omega
       obtain⟨sp,hsp⟩:=get_some (l:=s.spots) (i:=w.at_.toNat) (by omega);have hda:AA (A5 s.spots w.at_=sp.dead):=⟨by simp[A5,hsp]⟩;have hin:AA (decide (Fe s.spots w.at_)=true):=⟨decide_eq_true ⟨by omega,by omega⟩⟩;by_cases n0:w.node<0
       .have hz:AA (A8 p s=2):=⟨hbw.out (by rw[hwo.out,decide_eq_false (show¬0≤w.node by omega)];simp)⟩
        (repeat' (first|simp only[go_sem, *]|(refine sx ?_ ?_<;>intro hc)|refine sy (by omega) fun x hx hm=>?_|simp(disch:=first|assumption|omega) only[wrap_id,AF,AC,slice_int]))
        all_goals rw[hz.out]
       by_cases n1:(p.nodes.length:Int)≤w.node
       .have hz:AA (A8 p s=2):=⟨hbw.out (by rw[hwo.out,List.getElem?_eq_none (show p.nodes.length≤w.node.toNat by omega)];simp)⟩
        (repeat' (first|simp only[go_sem, *]|(refine sx ?_ ?_<;>intro hc)|refine sy (by omega) fun x hx hm=>?_|simp(disch:=first|assumption|omega) only[wrap_id,AF,AC,slice_int]))
        all_goals rw[hz.out]
       have n2:0≤w.node:=by omega
       obtain⟨x,hx⟩:=get_some (l:=p.nodes) (i:=w.node.toNat) (by omega);obtain⟨v,_,hv,v0,v1,_⟩:=hF.out.node _ x hx;have hln:=AA.mk hF.out.len;have hlv:=AK hv;by_cases hlen:(w.env.length:Int)=v
       .have hvs:=IM p (s.spots.map AX) (s.chans.map Bp) (.lst (s.groups.map Aa)) (.lst (s.waits.map A3)) w.env (by simp;omega) (by simp;omega) (by omega) (by omega);rw[List.length_map,List.length_map]at hvs;have hwo2:AA (CY p st.sizes s w=(decide (Fe s.spots w.at_)&&(!A5 s.spots w.at_&&(Dk x.op&&w.env.all (DU.inB p s.chans.length s.spots.length))))):=⟨by
         rw[hwo.out,decide_eq_true (show 0≤w.node by omega),hx,hv];simp[hlen]⟩
        rw[←hlen]at hv;replace hlen:=AA.mk hlen;cases hsd:sp.dead with
        |true=>
         have hz:AA (A8 p s=2):=⟨hbw.out (by rw[hwo2.out,hda.out,hsd];simp)⟩
         (repeat' (first|simp only[go_sem, *,JZ]|(refine sx ?_ ?_<;>intro hc)|refine sy (by omega) fun x hx hm=>?_|simp(disch:=first|assumption|omega) only[wrap_id,AF,AC,slice_int]))
         all_goals rw[hz.out]
        |false=>
         have hwo3:AA (CY p st.sizes s w=(Dk x.op&&w.env.all (DU.inB p s.chans.length s.spots.length))):=⟨by
          rw[hwo2.out,hin.out,hda.out,hsd];simp⟩
         (repeat' (first|simp only[go_sem, *,JZ]|(refine sx ?_ ?_<;>intro hc)|refine sy (by omega) fun x hx hm=>?_|simp(disch:=first|assumption|omega) only[wrap_id,AF,AC,slice_int]))
         all_goals first
         |(refine IH.out () ⟨?_⟩;rw[hr.out,List.all_cons,hwo3.out];simp only[*,Bool.true_and];done)
         |(rw[hbw.out (by rw[hwo3.out];simp only[*,Bool.false_and,Bool.and_false])];done)
       .have hz:AA (A8 p s=2):=⟨hbw.out (by rw[hwo.out,hv,decide_eq_false (show¬(w.env.length:Int)=(some v).getD 0 from hlen)];simp)⟩
        (repeat' (first|simp only[go_sem, *,JZ]|(refine sx ?_ ?_<;>intro hc)|refine sy (by omega) fun x hx hm=>?_|simp(disch:=first|assumption|omega) only[wrap_id,AF,AC,slice_int]))
        all_goals rw[hz.out]
      .rintro i _ hi him hr;have hz:AA (A8 p s=0):=⟨by rw[he.out,hr.out];rfl⟩;refine aw ?_;rw[hz.out]
  .have he3:A8 p s=2:=by
    rw[he.out,CX];simp[hss]
   rw[he3];have hss:AA (¬(s.spots.length≤24∧s.groups.length≤40∧s.chans.length≤60∧s.waits.length≤40)):=⟨by simpa[Bz.small]using hss⟩;clear he3
   (refine AU rfl Tryz.func32 rfl rfl rfl ?_;show Wp _ _ _ _ (Tryz.f32.body.get rfl) _ _;simp only[Tryz.f32,Option.get_some])
   (repeat' (first|simp only[go_sem, *]|(refine sx ?_ ?_<;>intro hc)|refine sy (by omega) fun x hx hm=>?_|simp(disch:=first|assumption|omega) only[wrap_id,AF,AC,slice_int]))
   all_goals (have:=hss.out;exfalso;omega)
end Go.Proofs
namespace Go.Proofs
open Go Go.Abs
set_option maxRecDepth 100000
set_option maxHeartbeats 4000000
theorem Wm{p:AL}{s:Bz}{w:Hs}{x:DZ}(hx:p.nodes[w.node.toNat]? =some x):goes p s w=if x.op=7 then true else if (NS w.env x.n).kind=4 then(if x.op=8 then A5 s.spots (NS w.env x.n).n else decide (w.at_≠0)&&(!A5 s.spots (NS w.env x.n).n&& !Ih s.spots (NS w.env x.n).n w.at_))else false:=by
 rw[goes,hx]
theorem bp{p:AL}{sz:List Int}{s:Bz}(hF:Dz p sz)(hs:TT p sz s){w:Hs}{x:DZ}(hw:M0 p sz s w x):Au (KL Tryz.prog cfg) 71 [pA p,sA s,.agg [.d (.int .i64 (w.at_)),.d (.int .i64 (w.node)),.d (.lst (w.env.map Ac))]] []=.ok (.ret (.d (.bool (goes p s w))),[]):=by
 have hx:=hw.node;have hn:=hw.n0;have hxl:=AK hx;rw[Wm hx];by_cases ho:x.op=7
 ·(refine AU rfl Tryz.func71 rfl rfl rfl ?_;show Wp _ _ _ _ (Tryz.f71.body.get rfl) _ _;simp only[Tryz.f71,Option.get_some])
  exact au
 obtain⟨v,hv,hvn,hk⟩:=hw.val ho;have⟨n0,n1⟩:=hw.n ho;rw[hvn];by_cases h4:v.kind=4
 .obtain⟨hr,y,hy,hyd⟩:=hk h4;obtain⟨r0,r1⟩:=hr;have hss:=hs.small;simp only[Bz.small,Bool.and_eq_true,decide_eq_true_eq]at hss;obtain⟨w0,w1⟩:=hw.at_;have hin:=YR s.spots (.lst (s.groups.map Aa)) (.lst (s.chans.map Bp)) (.lst (s.waits.map A3)) v.n w.at_ (by omega) hs.tree ⟨r0,r1⟩ w0;by_cases ho8:x.op=8
  .rw[hyd];clear hk
   (refine AU rfl Tryz.func71 rfl rfl rfl ?_;show Wp _ _ _ _ (Tryz.f71.body.get rfl) _ _;simp only[Tryz.f71,Option.get_some])
   exact au
  .rw[hyd];clear hk
   (refine AU rfl Tryz.func71 rfl rfl rfl ?_;show Wp _ _ _ _ (Tryz.f71.body.get rfl) _ _;simp only[Tryz.f71,Option.get_some])
   (repeat' (first|simp only[go_sem, *]|(refine sx ?_ ?_<;>intro hc)|refine sy (by omega) fun x hx hm=>?_|simp(disch:=first|assumption|omega) only[wrap_id,AF,AC,slice_int]))
   all_goals simp[*]
 .clear hk
  (refine AU rfl Tryz.func71 rfl rfl rfl ?_;show Wp _ _ _ _ (Tryz.f71.body.get rfl) _ _;simp only[Tryz.f71,Option.get_some])
  exact au
end Go.Proofs
namespace Go.Proofs
open Go Go.Abs
set_option maxRecDepth 100000
set_option maxHeartbeats 4000000
theorem dw{p:AL}{sz:List Int}{h:AB}{ρ:List Nat}{m:Abs.Id}{V:MV}{st:QL}(hM:Jn p sz h m V st)(hu:GM ρ V m)(hs:TT p sz st.sol){w:Hs}{x:DZ}(hw:M0 p sz st.sol w x):
 ∃o h',KL Tryz.prog cfg (.fn 93) [.ptr m 0,.agg [.d (.int .i64 (w.at_)),.d (.int .i64 (w.node)),.d (.lst (w.env.map Ac))]] h ρ true (some ρ)=.ok (o,h')∧o=.ret (.d (.bool (goes p st.sol w))):=by
 have hm:=hM.box;simp only[JI]at hm;have um:=hu m (V.m_mem m);have e1:=AI um;have e2:=Ao um;have hx:=hw.node;have hn:=hw.n0;have hxl:=AK hx;rw[Wm hx];by_cases ho:x.op=7
 ·(refine A0 rfl Tryz.func93 rfl rfl rfl ?_;show Wp _ _ _ _ (Tryz.f93.body.get rfl) _ _;simp only[Tryz.f93,Option.get_some])
  exact au
 obtain⟨v,hv,hvn,hk⟩:=hw.val ho;have⟨n0,n1⟩:=hw.n ho;rw[hvn];by_cases h4:v.kind=4
 .obtain⟨hr,y,hy,hyd⟩:=hk h4;obtain⟨r0,r1⟩:=hr;have hss:=hs.small;simp only[Bz.small,Bool.and_eq_true,decide_eq_true_eq]at hss;obtain⟨w0,w1⟩:=hw.at_;have hin:=Zk st.sol.spots v.n w.at_ (by omega) hs.tree ⟨r0,r1⟩ w0
  obtain⟨S,xs,hS,gS,xS,lS,lS2⟩:=P3 (hM.sl 0 (by omega)) hy;have uS:=hu S (V.s_mem m (i:=0) (by omega) (by rw[hS];simp[AE]));have a3:=AI uS;have a4:=Ao uS;rw[hS]at hm;simp only[ca]at gS;replace hM:=AA.mk hM;replace hu:=AA.mk hu;by_cases ho8:x.op=8;all_goals
   rw[hyd];clear hk
   (refine A0 rfl Tryz.func93 rfl rfl rfl ?_;show Wp _ _ _ _ (Tryz.f93.body.get rfl) _ _;simp only[Tryz.f93,Option.get_some])
   (repeat' (first|simp only[go_sem, *,Bool.false_eq_true]|(refine sx ?_ ?_<;>intro hc)|refine sy (by omega) fun x hx hm=>?_|simp(disch:=first|assumption|omega) only[wrap_id,AF,AC,slice_int]))
   all_goals first|done|simp[*]
 .clear hk
  (refine A0 rfl Tryz.func93 rfl rfl rfl ?_;show Wp _ _ _ _ (Tryz.f93.body.get rfl) _ _;simp only[Tryz.f93,Option.get_some])
  exact au
end Go.Proofs
namespace Go.Proofs
open Go Go.Abs
set_option maxRecDepth 100000
set_option maxHeartbeats 4000000
def Jc(l:List Nat):List Int:=if 0∈l then []else l.map fun(n:Nat)=>(n:Int)
def Fy(s:Bz)(d:Ba)(g:Ae)(r:Ey):List Int:=if A5 s.spots (g.place d r.at_)=true then []else Jc (BO s d g r)
theorem QD{p:AL}{sz:List Int}{s:Bz}{i:Nat}{g:Ae}{d:Ba}(hF:Dz p sz)(h:IP p sz s i g d):g.env.length≤10000:=by
 have hf:=C4 hF (I3 h.def_).2;obtain⟨_,_,v,_,_,_,_,h0,h1,h2,_⟩:=hf.node;have:=h.len;rw[h2,Option.getD_some]at this;have:=hf.ok.chans;have:=hf.ok.spots;unfold Ba.own at*;omega
theorem XD{p:AL}{sz:List Int}{s:Bz}(hF:Dz p sz)(hs:TT p sz s){i k:Nat}{g:Ae}{d:Ba}{r:Ey}(hg:s.groups[i]? =some g)(hd:IP p sz s i g d)(hr:d.rules[k]? =some r):Au (KL Tryz.prog cfg) 72 [pA p,sA s,.d (.int .i64 (i)),.d (.int .i64 (k))] []=.ok (.ret (.d (.lst ((Fy s d g r).map AG))),[]):=by
 have hri:=KM hF hs hg hd (List.mem_of_getElem? hr);obtain⟨g0,hdd⟩:=I3 hd.def_;have hdo:=(C4 hF hdd).ok;have d1:=hdo.chans;have d2:=hdo.spots;have d3:=hdo.rules;have hss:=hs.small;simp only[Bz.small,Bool.and_eq_true,decide_eq_true_eq]at hss;obtain⟨s1,s2,s3,s4⟩:=hss;have hgl:=AK hg;have hkl:=AK hr;have hdl:=AK hdd;have own:=L5 hd;have hel:=QD hF hd;have pl:=OI p g d r.at_ g0 hdd d1 d2 own hel hri.at0 hri.at1;obtain⟨r0,r1⟩:=hri.place;obtain⟨y,hy⟩:=get_some (l:=s.spots) (i:=(g.place d r.at_).toNat) (by omega);have hq:AA (Fy s d g r=if y.dead=true then []else Jc (BO s d g r)):=⟨by rw[Fy,A5,hy];rfl⟩;have hown:AA (∀c,g.own d true c=g.own d true c):=⟨fun _=>rfl⟩;have j0:=hri.j0;have j1:=hri.j1;replace hri:=AA.mk hri;unfold Ba.own at own;cases hyd:y.dead with
 |true=>
  rw[hq.out,hyd]
  (refine AU rfl Tryz.func72 rfl rfl rfl ?_;show Wp _ _ _ _ (Tryz.f72.body.get rfl) _ _;simp only[Tryz.f72,Option.get_some])
  exact au
 |false=>
  rw[hq.out,hyd]
  (refine AU rfl Tryz.func72 rfl rfl rfl ?_;show Wp _ _ _ _ (Tryz.f72.body.get rfl) _ _;simp only[Tryz.f72,Option.get_some])
  refine aw ?_;refine Ad r.joins (S:=fun i' (a:AV×AB×Nat)=>⟨[(5,.ptr [0,0] 0),(9,.ptr [0,1] 0),(11,.ptr [0,2] 0),(12,.d (.int .i64 ((g.env.length:Int)-(d.spots.length:Int)-(d.chans.length:Int)))),(13,a.1),(14,.d (.int .i64 (i')))],([0,0],.box [.d (.lst (s.spots.map AX)),.d (.lst (s.groups.map Aa)),.d (.lst (s.chans.map Bp)),.d (.lst (s.waits.map A3))])::([0,1],.box [.d (.int .i64 (g.def_)),.d (.int .i64 (g.at_)),.d (.lst (g.env.map Ac))])::([0,2],.box [.d (.int .i64 (r.at_)),.d (.lst (r.joins.map AG)),.d (.int .i64 (r.node))])::a.2.1,a.2.2,[]⟩)
   (Inv:=fun i' rest a=>AA (0∉(r.joins.take i').map fun c=>Hw s (g.own d true c))∧AA ((i'=0∧a=(.nils,[],3))∨(0<i'∧a=(.osl [1,3] 0 i',[([1,3],.darr 1 (((r.joins.take i').map fun c=>((Hw s (g.own d true c):Nat):Int)).map AG))],4)))) (b0:=(.nils,[],3)) ⟨⟨by simp⟩,⟨.inl ⟨rfl,rfl⟩⟩⟩ ?_ ?_
  .rintro i' c a hcc hi him ⟨h0,ha⟩ IH;obtain⟨c0,c1,o0,q,hqc,q12,hql⟩:=hri.out.join c (List.mem_of_getElem? hcc);obtain⟨v,hv⟩:=get_some (l:=g.env) (i:=g.env.length-d.spots.length-d.chans.length+c.toNat) (by omega);have hvo:g.own d true c=v.n:=by rw[Ae.own,if_pos rfl,hv];rfl
   rw[hvo]at o0 hqc hql;have ix:((g.env.length:Int)-(d.spots.length:Int)-(d.chans.length:Int)+c).toNat=g.env.length-d.spots.length-d.chans.length+c.toNat:=by omega
   rw[←ix]at hv;have w1:IntKind.i64.wrap ((g.env.length:Int)-(d.spots.length:Int)-(d.chans.length:Int)+c)=(g.env.length:Int)-(d.spots.length:Int)-(d.chans.length:Int)+c:=wrap_id (by omega) (by omega);have i0:0≤(g.env.length:Int)-(d.spots.length:Int)-(d.chans.length:Int)+c:=by omega
   have hcl:=AK hqc;replace ix:=AA.mk ix;have ht:AA (((r.joins.take (i'+1)).map fun c=>Hw s (g.own d true c))=((r.joins.take i').map fun c=>Hw s (g.own d true c))++[q.queue.length]):=⟨by rw[List.take_add_one,hcc];simp[hvo,hql]⟩;have ht2:AA (((r.joins.take (i'+1)).map fun c=>((Hw s (g.own d true c):Nat):Int))=((r.joins.take i').map fun c=>((Hw s (g.own d true c):Nat):Int))++[(q.queue.length:Int)]):=⟨by rw[List.take_add_one,hcc];simp[hvo,hql]⟩;have hall:AA (q.queue.length=0→Jc (BO s d g r)=[]):=⟨fun hz=>by rw[Jc,if_pos];exact List.mem_map.2 ⟨c,List.mem_of_getElem? hcc,by rw[hvo,hql,hz]⟩⟩;replace hvo:=AA.mk hvo;replace hql:=AA.mk hql;by_cases hz:(q.queue.length:Int)=0
   .rw[hall.out (by omega)];rcases ha.out with⟨rfl,rfl⟩|⟨hi0,rfl⟩;all_goals
     clear ha;dsimp only;exact au
   .rcases ha.out with⟨rfl,rfl⟩|⟨hi0,rfl⟩
    .clear ha;dsimp only;have him0:(0:Int)<r.joins.length:=him;refine aw ?_;refine IH.out (.osl [1,3] 0 1,[([1,3],.darr 1 [[.int .i64 q.queue.length]])],4) ⟨⟨?_⟩,⟨.inr ⟨by omega,?_⟩⟩⟩
     .rw[ht.out];simp only[List.take_zero,List.map_nil,List.nil_append,List.mem_singleton];omega
     .rw[ht2.out];rfl
    .clear ha;obtain⟨L,hL⟩: ∃L,L=(r.joins.take i').map fun c=>((Hw s (g.own d true c):Nat):Int):=⟨_,rfl⟩;have d0:L.length=i':=by rw[hL,List.length_map,List.length_take];omega
     have d1:List.take i' (L.map AG)=L.map AG:=List.take_of_length_le (by simp;omega);have d2:i'+1≤4:=by omega
     rw[←hL]at ht2⊢;replace hL:=AA.mk hL;dsimp only;refine aw ?_;refine IH.out (.osl [1,3] 0 (i'+1),[([1,3],.darr 1 (L.map AG++[[.int .i64 q.queue.length]]))],4) ⟨⟨?_⟩,⟨.inr ⟨by omega,?_⟩⟩⟩
     .rw[ht.out];simp only[List.mem_append,List.mem_singleton,not_or];exact⟨h0.out,by omega⟩
     .rw[ht2.out,List.map_append];rfl
  .rintro i' a hi him ⟨h0,ha⟩;have hi:=hi.out;subst hi;rw[List.take_length]at h0;rcases ha.out with⟨hi0,rfl⟩|⟨hi0,rfl⟩
   .omega
   .clear ha;have hm:AA (Jc (BO s d g r)=r.joins.map fun c=>((Hw s (g.own d true c):Nat):Int)):=⟨by rw[Jc,BO,if_neg h0.out,List.map_map];rfl⟩;dsimp only;rw[hm.out];have d1:List.take r.joins.length ((r.joins.map fun c=>((Hw s (g.own d true c):Nat):Int)).map AG)=(r.joins.map fun c=>((Hw s (g.own d true c):Nat):Int)).map AG:=List.take_of_length_le (by simp);simp only[List.take_length]
    (repeat' (first|simp only[go_sem, *,Nat.le_refl]|(refine sx ?_ ?_<;>intro hc)|refine sy (by omega) fun x hx hm=>?_|simp(disch:=first|assumption|omega) only[wrap_id,AF,AC,slice_int]))
end Go.Proofs
namespace Go.Proofs
open Go Go.Abs
set_option maxRecDepth 100000
set_option maxHeartbeats 4000000
theorem Wa{h:AB}{π:List Nat}{m:Abs.Id}{x0 x1 x2 x3 x4 x5 x7 x8 x9 x10 x11 x12:AV}{ds:List Ba}{g:Ae}{d:Ba}(hm:h.get m=some (.box [x0,x1,x2,x3,x4,x5,.d (.lst (ds.map Ab)),x7,x8,x9,x10,x11,x12]))(um:Id.under π m=false)(h0:0≤g.def_)(hd:ds[g.def_.toNat]? =some d)(c1:d.chans.length≤30)(c2:d.spots.length≤30)(he:d.own≤g.env.length)(hl:g.env.length≤10000)(c:Bool)(n:Int)(hn:0≤n)(hn2:n<if c then(d.chans.length:Int)else d.spots.length):
 ∃o h',KL Tryz.prog cfg (.fn 95) [.ptr m 0,.agg [.d (.int .i64 (g.def_)),.d (.int .i64 (g.at_)),.d (.lst (g.env.map Ac))],.d (.bool (c)),.d (.int .i64 (n))] h π true (some π)=.ok (o,h')∧o=.ret (.d (.int .i64 (g.own d c n))):=by
 have hdl:=AK hd;have e1:=AI um;have e2:=Ao um;unfold Ba.own at he;cases c with
 |true=>
  simp only[if_true]at hn2;have hlt:g.env.length-d.spots.length-d.chans.length+n.toNat<g.env.length:=by omega
  obtain⟨v,hv⟩:=get_some hlt;have hpl:AA (g.own d true n=v.n):=⟨by
   rw[Ae.own];simp only[if_true];rw[hv];rfl⟩
  have q1:((g.env.length:Int)-(d.spots.length:Int)-(d.chans.length:Int)+n).toNat=g.env.length-d.spots.length-d.chans.length+n.toNat:=by omega
  rw[←q1]at hv;replace q1:=AA.mk q1;have q2:0≤(g.env.length:Int)-(d.spots.length:Int)-(d.chans.length:Int)+n:=by omega
  (refine A0 rfl Tryz.func95 rfl rfl rfl ?_;show Wp _ _ _ _ (Tryz.f95.body.get rfl) _ _;simp only[Tryz.f95,Option.get_some])
  refine aw ?_;rw[hpl.out]
 |false=>
  simp only[Bool.false_eq_true,if_false]at hn2;have hlt:g.env.length-d.spots.length-0+n.toNat<g.env.length:=by omega
  obtain⟨v,hv⟩:=get_some hlt;have hpl:AA (g.own d false n=v.n):=⟨by
   rw[Ae.own];simp only[Bool.false_eq_true,if_false];rw[hv];rfl⟩
  have q1:((g.env.length:Int)-(d.spots.length:Int)+n).toNat=g.env.length-d.spots.length-0+n.toNat:=by omega
  rw[←q1]at hv;replace q1:=AA.mk q1;have q2:0≤(g.env.length:Int)-(d.spots.length:Int)+n:=by omega
  (refine A0 rfl Tryz.func95 rfl rfl rfl ?_;show Wp _ _ _ _ (Tryz.f95.body.get rfl) _ _;simp only[Tryz.f95,Option.get_some])
  refine aw ?_;rw[hpl.out]
theorem Oz{h:AB}{π:List Nat}{m:Abs.Id}{x0 x1 x2 x3 x4 x5 x7 x8 x9 x10 x11 x12:AV}{ds:List Ba}{g:Ae}{d:Ba}(hm:h.get m=some (.box [x0,x1,x2,x3,x4,x5,.d (.lst (ds.map Ab)),x7,x8,x9,x10,x11,x12]))(um:Id.under π m=false)(h0:0≤g.def_)(hd:ds[g.def_.toNat]? =some d)(c1:d.chans.length≤30)(c2:d.spots.length≤30)(he:d.own≤g.env.length)(hl:g.env.length≤10000)(n:Int)(hn:0≤n)(hn2:n≤d.spots.length):
 ∃o h',KL Tryz.prog cfg (.fn 94) [.ptr m 0,.agg [.d (.int .i64 (g.def_)),.d (.int .i64 (g.at_)),.d (.lst (g.env.map Ac))],.d (.int .i64 (n))] h π true (some π)=.ok (o,h')∧o=.ret (.d (.int .i64 (g.place d n))):=by
 have e1:=AI um;have e2:=Ao um;have e3:=AD um;by_cases hn0:n=0
 ·(refine A0 rfl Tryz.func94 rfl rfl rfl ?_;show Wp _ _ _ _ (Tryz.f94.body.get rfl) _ _;simp only[Tryz.f94,Option.get_some])
  (repeat' (first|simp only[go_sem, *,Ae.place]|(refine sx ?_ ?_<;>intro hc)|refine sy (by omega) fun x hx hm=>?_|simp(disch:=first|assumption|omega) only[wrap_id,AF,AC,slice_int]))
 .have w:IntKind.i64.wrap (n-1)=n-1:=wrap_id (by omega) (by omega);have hp:g.place d n=g.own d false (n-1):=by rw[Ae.place,if_neg hn0]
  rw[hp]
  (refine A0 rfl Tryz.func94 rfl rfl rfl ?_;show Wp _ _ _ _ (Tryz.f94.body.get rfl) _ _;simp only[Tryz.f94,Option.get_some])
  refine aw ?_;refine D0 (Wa (d:=d) (Eq.trans (b:=h.get m) ?_ hm) (e3 _) h0 hd c1 c2 he hl false (n-1) (by omega) (by simp only[Bool.false_eq_true,if_false];omega)) (fun o1 g1 p1=>?_)
  .simp only[go_sem,e1,Bool.false_eq_true]
  subst p1;exact au
theorem RB{h:AB}{π:List Nat}{m:Abs.Id}{x1 x2 x3 x4 x5 x6 x7 x8 x9 x10 x11 x12:AV}{sp:List (List AN)}(hm:h.get m=some (.box [.d (.lst sp),x1,x2,x3,x4,x5,x6,x7,x8,x9,x10,x11,x12]))(hl:sp.length≤1000000)(n:Int):
 ∃o h',KL Tryz.prog cfg (.fn 146) [.ptr m 0,.d (.int .i64 (n))] h π true (some π)=.ok (o,h')∧o=(FQ (CI 2) (decide (0≤n)&&decide (n<sp.length))).1:=by
 (refine A0 rfl Tryz.func146 rfl rfl rfl ?_;show Wp _ _ _ _ (Tryz.f146.body.get rfl) _ _;simp only[Tryz.f146,Option.get_some])
 (repeat' (first|simp only[go_sem, *]|(refine sx ?_ ?_<;>intro hc)|refine sy (by omega) fun x hx hm=>?_|simp(disch:=first|assumption|omega) only[wrap_id,AF,AC,slice_int]))
 all_goals simp[FQ, *]
theorem fY{h:AB}{π:List Nat}{m:Abs.Id}{p:AL}{x1 x3 x5 x6 x7 x8 x9 x10 x11 x12:AV}{sp ch:List (List AN)}(hm:h.get m=some (.box [.d (.lst sp),x1,.d (.lst ch),x3,.d (.lst (p.free.map AY)),x5,x6,x7,x8,x9,x10,x11,x12]))(um:Id.under π m=false)(h1:sp.length≤1000000)(h2:ch.length≤1000000)(h3:p.free.length≤1000000)(v:DU):
 ∃o h',KL Tryz.prog cfg (.fn 180) [.ptr m 0,.agg [.d (.int .i64 (v.kind)),.d (.int .i64 (v.n))]] h π true (some π)=.ok (o,h')∧o=(FQ (CI 2) (v.inB p ch.length sp.length)).1:=by
 have e1:=AI um;have e2:=Ao um;have w1:IntKind.i64.wrap ((p.free.length:Int)-1)=(p.free.length:Int)-1:=wrap_id (by omega) (by omega);have w2:IntKind.i64.wrap ((ch.length:Int)-1)=(ch.length:Int)-1:=wrap_id (by omega) (by omega);have w3:IntKind.i64.wrap ((sp.length:Int)-1)=(sp.length:Int)-1:=wrap_id (by omega) (by omega)
 (refine A0 rfl Tryz.func180 rfl rfl rfl ?_;show Wp _ _ _ _ (Tryz.f180.body.get rfl) _ _;simp only[Tryz.f180,Option.get_some])
 (repeat' (first|simp only[go_sem, *]|(refine sx ?_ ?_<;>intro hc)|refine sy (by omega) fun x hx hm=>?_|simp(disch:=first|assumption|omega) only[wrap_id,AF,AC,slice_int]))
 all_goals clear hm e1 e2 w1 w2 w3
 all_goals first
 |(have hz:v.inB p ch.length sp.length=true:=by(unfold DU.inB;grind)
   rw[hz];rfl)
 |(have hz:v.inB p ch.length sp.length=false:=by(unfold DU.inB;grind)
   rw[hz];rfl)
theorem Pn{h:AB}{π:List Nat}{m:Abs.Id}{p:AL}{x1 x3 x5 x6 x7 x8 x9 x10 x11 x12:AV}{sp ch:List (List AN)}(hm:h.get m=some (.box [.d (.lst sp),x1,.d (.lst ch),x3,.d (.lst (p.free.map AY)),x5,x6,x7,x8,x9,x10,x11,x12]))(um:Id.under π m=false)(h1:sp.length≤1000000)(h2:ch.length≤1000000)(h3:p.free.length≤1000000)(l:List DU)(n:Int)(hn:n≤1000000):
 ∃o h',KL Tryz.prog cfg (.fn 147) [.ptr m 0,.d (.lst (l.map Ac)),.d (.int .i64 (n))] h π true (some π)=.ok (o,h')∧o=(FQ (CI 2) (decide ((l.length:Int)=n)&&l.all (DU.inB p ch.length sp.length))).1:=by
 have e1:=AI um;have e2:=Ao um;have e3:=AD um;by_cases hl:(l.length:Int)=n
 .have hl2:l.length≤1000000:=by omega
  rw[decide_eq_true hl,Bool.true_and]
  (refine A0 rfl Tryz.func147 rfl rfl rfl ?_;show Wp _ _ _ _ (Tryz.f147.body.get rfl) _ _;simp only[Tryz.f147,Option.get_some])
  refine aw ?_;refine AO l _ (S:=fun m' i (a:AB×Nat)=>⟨[(0,.ptr m 0),(13,.d (.lst (l.map Ac))),(14,.d (.int .i64 (m'))),(15,.d (.int .i64 (i)))],a.1,a.2+7,[]⟩)
   (Inv:=fun i rest a=>a.1.get m=h.get m∧AA (l.all (DU.inB p ch.length sp.length)=rest.all (DU.inB p ch.length sp.length))) (b0:=(h,_)) ?_ ⟨rfl,⟨rfl⟩⟩ ?_ ?_
  .omega
  .rintro i y ⟨g,c⟩ hy hi him ⟨hg,hr⟩ IH;dsimp only at*;refine aw ?_;refine D0 (fY (p:=p) (sp:=sp) (ch:=ch) (Eq.trans (b:=h.get m) ?_ hm) (e3 _) h1 h2 h3 y) (fun o1 g1 p1=>?_)
   .simp only[go_sem,e1,hg,Bool.false_eq_true]
   cases hv:y.inB p ch.length sp.length with
   |true=>
    rw[hv]at p1;obtain rfl:o1=.ret (.tup []):=p1;refine aw ?_;refine IH.out (_,_) ⟨?_,⟨?_⟩⟩
    .simp only[go_sem,e1,hg,Bool.false_eq_true]
    .rw[hr.out,List.all_cons,hv,Bool.true_and]
   |false=>
    rw[hv]at p1;obtain rfl:o1=.pan (CI 2):=p1;refine aw ?_;rw[hr.out,List.all_cons,hv,Bool.false_and];rfl
  .rintro i ⟨g,c⟩ hi him ⟨hg,hr⟩;dsimp only at*;refine aw ?_;rw[hr.out];rfl
 .rw[decide_eq_false hl,Bool.false_and]
  (refine A0 rfl Tryz.func147 rfl rfl rfl ?_;show Wp _ _ _ _ (Tryz.f147.body.get rfl) _ _;simp only[Tryz.f147,Option.get_some])
  refine aw ?_;rfl
end Go.Proofs
