/-
  Parts of it.
-/
import Derived.Lib.QuoteBits
import Derived.Test.YtbinfhpngacfgaaGreatFi1
set_option linter.all false
namespace Go.Abs
variable{A:Nat→Prop}{P:Program}{mix:List TypeId}{β:Aj}{w:World}{M:Nat→Prop}
variable{t:TypeId}{d:TypeDesc}
theorem Ca(h:B1 P t d=.slice): ∃e,d=.slice e:=by
 cases d<;>simp[B1]at h⊢;split at h
 .split at h<;>cases h
 .cases h
variable{m:Nat}
theorem nx(h:B1 P t d=.arr m): ∃e,d=.array m e:=by
 cases d<;>simp[B1]at h⊢
 .exact h
 .split at h
  .split at h<;>cases h
  .cases h
theorem QV(h:B1 P t d=.map): ∃k e,d=.map k e:=by
 cases d<;>simp[B1]at h⊢;split at h
 .split at h<;>cases h
 .cases h
theorem Km(h:B1 P t d=.str):d=.string:=by
 cases d<;>simp[B1]at h⊢;split at h
 .split at h<;>cases h
 .cases h
theorem SW(h:B1 P t d=.bool):d=.bool:=by
 cases d<;>simp[B1]at h⊢;split at h
 .split at h<;>cases h
 .cases h
theorem ny(h:B1 P t d=.int): ∃k,d=.int k:=by
 cases d<;>simp[B1]at h⊢;split at h
 .split at h<;>cases h
 .cases h
theorem SX(h:B1 P t d=.func): ∃a b c,d=.func a b c:=by
 cases d<;>simp[B1]at h⊢;split at h
 .split at h<;>cases h
 .cases h
theorem Wq(h:B1 P t d=.ptr): ∃e,d=.pointer e:=by
 cases d<;>simp[B1]at h⊢;split at h
 .split at h<;>cases h
 .cases h
theorem MG(h:B1 P t d=.iface): ∃e,d=.interface e:=by
 cases d<;>simp[B1]at h⊢;split at h
 .split at h<;>cases h
 .cases h
variable{n:Nat}
theorem cC(h:n≤BD):IntKind.i64.wrap (n:Int)=n:=by
 refine Go.Lib.wrap_i64_small n ?_;have:n≤2 ^ 30:=h;omega
variable{h:AB}{ρ:List Nat}{eff:Bw}
theorem Tv(H:HR A β w h)(hf: ∀id,ρ<:+id→β id=none){l c:AV}{vl vc:Value}(hl:VR β w (MS A β h) l vl)(hc:VR β w (MS A β h) c vc)
 (ho:CR (Bc P mix) h.get ρ l c (Bc P mix t)=some eff):
 DE A ρ β w h ((do pure (.value (←Instr.makeSlice t vl vc)):Sem Next).run P w) eff:=by
 cases ht:Bc P mix t with
 |none=>simp[CR,ht]at ho
 |some i=>
  obtain⟨info,d,z,h1,h2,h3,_,rfl⟩:=Ar ht;simp only[CR,ht]at ho;split at ho
  .rename_i j k1 n k2 m hk hj;obtain⟨el,rfl⟩:=Ca hk;simp only[GY]at hj;obtain⟨info',d',z',g1,g2,g3,⟨hby,_⟩,rfl⟩:=Ar hj;split at ho
   .rename_i hn;obtain⟨hn0,rfl,hmax⟩:=hn;obtain⟨n,rfl⟩:=I0 hn0;have hmax:n≤BD:=by exact_mod_cast hmax
    cases hl with
    |d hl=>cases hl with
     |int _ _=>cases hc with
      |d hc=>cases hc with
       |int _ _=>
        have hbig:(info'.bytes:Int)*(n:Int)≤281474976710656:=by
         have h1:info'.bytes*n≤70368744177664:=Hw (Nat.mul_le_mul hby hmax) (Nat.le_of_eq rfl);have h3:=Int.ofNat_le.2 h1;rw[Int.natCast_mul]at h3;omega
        have hr: ∀zc:Array Value,(n*info'.size=0→zc= #[])→(n*info'.size≠0→zc=z'.cells)→
         ((do pure (.value (←Instr.makeSlice t (.int k1 n) (.int k2 n))):Sem Next).run P w)=
         .ok (.value (.slice (some ⟨w.heap.size,0,none⟩) n n)) (World.add w (.cells ((Array.range (n*info'.size)).map (zc[· % zc.size]!)) el)):=by
         intro zc z1 z2;have hw:=cC hmax;by_cases hz:n*info'.size=0
         .rw[z1 hz];simp[Instr.makeSlice,run_underlying h2,asInt,asIntOf,typeInfo,g1,hw,hbig,newRow,World.add,Bk g1,hz];intro hh;exfalso;omega
         .rw[z2 hz];simp[Instr.makeSlice,run_underlying h2,asInt,asIntOf,typeInfo,g1,hw,hbig,newRow,World.add,Bk g1,hz,C6 g1 g3];intro hh;exfalso;omega
        simp only[Kw]at ho;unfold FG at ho;split at ho
        .cases ho;rw[hr #[] (fun _=>rfl) (fun h=>absurd (Nat.zero_mul _) h)];exact .other H rfl (.emp _)
        .have ho':=ho;unfold newArr at ho';split at ho'
         .cases ho'
         .rename_i hcond;simp only[AS,CO,beq_iff_eq]at hcond;obtain⟨⟨hall,hpos⟩,_⟩:=hcond;have hpos:0<info'.size:=by simpa[Nat.blt_eq]using hpos
          have hnz:n≠0:=by assumption
          have hzs:z'.cells.size=info'.size:=by
           have:=(hall (z'.cells.toList.map Cw) (by simp[hnz])).1;simpa using this
          have hz:=YS (β:=β) (w:=w) (M:=MS A β h) (n:=n) hzs;have hok:=OB H (w₁:=w) rfl ⟨rfl,rfl⟩ hf (elem:=el) (c:=(Array.range (n*info'.size)).map (z'.cells[· % z'.cells.size]!)) (cap:=n) (by simp) (by simp) hz.2 ho;rw[hr z'.cells (fun h=>absurd h (Nat.ne_of_gt (Nat.mul_pos (Nat.pos_of_ne_zero hnz) hpos))) (fun _=>rfl)];simpa using hok
   .cases ho
  .cases ho
variable{A:Nat→Prop}{P:Program}{mix:List TypeId}{β:Aj}{w:World}{M:Nat→Prop}
variable{off:Nat}{c:Array Value}
theorem NR{b:Nat}{elem:TypeId}{fr:Nat×Nat}(hb:w.heap[b]? =some (.cells c elem fr))(hl:off+n≤c.size):
 (loadCells ⟨b,off,none⟩ n).run P w=.ok ((c.toList.drop off).take n).toArray w:=by
 have hlen:((c.toList.drop off).take n).length=n:=by simp;omega
 have:=run_loadCells_list (P:=P) w ⟨b,off,none⟩ ((c.toList.drop off).take n) (fun j v hj=>by
  rw[DK,LJ hb];rw[I7]at hj;split at hj
  .rw[IT]at hj;simpa using hj
  .cases hj)
 rw[hlen]at this;exact this
theorem Q9{i:Nat}(hi:i<n):((c.toList.drop off).take n).toArray[i]? =c[off+i]? :=by
 simp only[NL];rw[I7,D7 hi,IT];simp
theorem Vc{h:AB}(H:HR A β w h){x:AV}{vx:Value}(hx:VR β w (MS A β h) x vx){src:List (List AV)}(hs:DG h.get x=some src){size:Nat}(hsz: ∀e∈src,e.length=size):
 ∃a c,vx=.slice a src.length c∧ ∃arr:Array Value,(∀w':World,w'.heap=w.heap→(Builtin.firstCells size src.length vx).run P w'=.ok arr w')∧FK β w (MS A β h) src.flatten arr:=by
 have zero: ∀(a:Option Addr) (c:Nat),src=[]→vx=.slice a 0 c→ ∃a c,vx=.slice a src.length c∧ ∃arr:Array Value,(∀w':World,w'.heap=w.heap→(Builtin.firstCells size src.length vx).run P w'=.ok arr w')∧FK β w (MS A β h) src.flatten arr:=by
  intro a c h1 h2;subst h1 h2;refine⟨a,c,rfl, #[],?_,rfl,by simp⟩;intro w' _;cases a<;>simp[Builtin.firstCells,loadCells,loadCellsFrom]
 have main: ∀{b off:Nat} {c:Array Value} {elem:TypeId} {fr:Nat×Nat} {cap:Nat},w.heap[b]? =some (.cells c elem fr)→off+src.length*size≤c.size→
  (∀(i:Nat) (x:AV) (v:Value),src.flatten[i]? =some x→c[off+i]? =some v→VR β w (MS A β h) x v)→vx=.slice (some ⟨b,off,none⟩) src.length cap→
  ∃a c,vx=.slice a src.length c∧ ∃arr:Array Value,(∀w':World,w'.heap=w.heap→(Builtin.firstCells size src.length vx).run P w'=.ok arr w')∧FK β w (MS A β h) src.flatten arr:=by
  intro b off c elem fr cap h1 h2 h3 h4;subst h4;refine⟨some ⟨b,off,none⟩,cap,rfl,((c.toList.drop off).take (src.length*size)).toArray,?_,?_,?_⟩
  .intro w' hw';simp only[Builtin.firstCells];exact NR (by rw[hw'];exact h1) h2
  .rw[Cg hsz];simp;omega
  .intro i x v hx hv;have hi:i<src.length*size:=by rw[←Cg hsz];exact(BE.1 hx).1
   rw[Q9 hi]at hv;exact h3 i x v hx hv
 cases hx with
 |d hd=>
  cases hd with
  |rg a cap=>simp only[DG,Be,CI]at hs;exact zero a cap hs.symm rfl
  |be es b off cap sz c elem fr h1 h2 h3 h4 h5 h6=>
   simp only[DG,CI]at hs;subst hs;by_cases he:es=[]
   .subst he;exact zero _ _ rfl rfl
   .have hss:sz=size:=by
     obtain⟨e,es',rfl⟩:=PU he;have q1:=h3 e (by simp);have q2:=hsz (e.map .d) (by simp);simp at q2;omega
    subst hss;refine main (cap:=cap) h1 (by simpa using h4) (fun i x v hx hv=>?_) (by simp);rw[←RO,D5,BI]at hx;obtain⟨y,hy,rfl⟩:=hx;exact .d (h5 i y v hy hv)
  |_=>simp[DG]at hs
 |ci=>simp only[DG,CI]at hs;exact zero _ _ hs.symm rfl
 |emp a=>simp only[DG,CI]at hs;exact zero _ _ hs.symm rfl
 |d8 id off n k a cap hk hn hl ha=>
  simp only[DG,HM]at hs;obtain⟨es,hes,hseg⟩:=hs;obtain⟨s1,s2,s3⟩:=G3 hseg;by_cases hn0:n=0
  .subst hn0;exact zero a cap (I6.1 s2) rfl
  .have ha':a=some ⟨k.b,off*k.sz,none⟩:=ha.resolve_right (by omega);subst ha';have fin: ∀{c:Array Value} {elem:TypeId} {fr:Nat×Nat},w.heap[k.b]? =some (.cells c elem fr)→(∀e∈es,e.length=k.sz)→es.length*k.sz≤c.size→
    (∀(i:Nat) (x:AV) (v:Value),es.flatten[i]? =some x→c[i]? =some v→VR β w (MS A β h) x v)→
    ∃a c,Value.slice (some ⟨k.b,off*k.sz,none⟩) n cap=.slice a src.length c∧ ∃arr:Array Value,(∀w':World,w'.heap=w.heap→(Builtin.firstCells size src.length (.slice (some ⟨k.b,off*k.sz,none⟩) n cap)).run P w'=.ok arr w')∧FK β w (MS A β h) src.flatten arr:=by
    intro c elem fr h1 h2 h3 h4;obtain⟨f1,f2⟩:=QI h2 hseg;have hss:k.sz=size:=by
     have:src≠ []:=fun e=>by rw[e]at s2;simp at s2;omega
     obtain⟨e,es',rfl⟩:=PU this;have q1:=f1 e (by simp);have q2:=hsz e (by simp);omega
    refine main h1 ?_ (fun i x v hx hv=>?_) (by rw[s2])
    .have:=Gt k.sz s1;rw[IN]at this;rw[s2,←hss];omega
    .have hi:i<n*k.sz:=by rw[←s2,←Cg f1];exact(BE.1 hx).1
     rw[f2 i hi]at hx;exact h4 _ x v hx hv
   cases hg:h.get id with
   |none=>simp[hg,Mm]at hes
   |some o=>
    obtain⟨k',hk',ho⟩:=H.obj id o hg;rw[hk]at hk';cases hk';have dat: ∀{ds:List (List AU)} {c:Array Value},(∀(i:Nat) (x:AU) (v:Value),ds.flatten[i]? =some x→c[i]? =some v→DR w (MS A β h) x v)→
     ∀(i:Nat) (x:AV) (v:Value),(ds.map (·.map AV.d)).flatten[i]? =some x→c[i]? =some v→VR β w (MS A β h) x v:=by
     intro ds c hd i x v hx hv;rw[←RO,D5,BI]at hx;obtain⟨y,hy,rfl⟩:=hx;exact .d (hd i y v hy hv)
    have len: ∀{ds:List (List AU)} {sz:Nat},(∀e∈ds,e.length=sz)→ ∀e∈ds.map (·.map AV.d),e.length=sz:=by
     intro ds sz hd e he;obtain⟨e',he',rfl⟩:=ID.1 he;simpa using hd e' he'
    cases o with
    |d6 sz ds=>
     simp only[hg,Mm,CI]at hes;subst hes;obtain⟨c,elem,h1,h2,h3,h4,h5,h6,h7⟩:=ho;subst h2;exact fin h1 (len h5) (by simpa using h6) (dat h7)
    |it sz ds=>
     simp only[hg,Mm,CI]at hes;subst hes;rcases ho with rfl|⟨_,c,elem,fr,h1,h2,h3,h4,h5,h6,h7⟩
     .simp only[Be,Io]at s1;omega
     .subst h2;exact fin h1 (len h5) (by simpa using h6) (dat h7)
    |arr sz ds=>
     simp only[hg,Mm,CI]at hes;subst hes;obtain⟨c,elem,h1,h2,h3,h4,h5,h6,h7⟩:=ho;subst h2;exact fin h1 h5 h6 h7
    |_=>simp[hg,Mm]at hes
 |_=>simp[DG]at hs
structure qn(P:Program)(t t2 e:TypeId)(i:TypeInfo)(z:Value):Prop where
 ht:P.underlying t=some (.slice e)
 ht2: ∃e2,P.underlying t2=some (.slice e2)
 hi:P.info? e=some i
 hz:i.zero=some z
 hb:i.bytes≤65536
 hzs:z.cells.size=i.size
variable{t2 ty:TypeId}{i:TypeInfo}{z:Value}{base a:Option Addr}{cap:Nat}{arr:Array Value}
theorem R3{e:TypeId}(A:qn P t t2 e i z){c:Nat}(hm:n+m≤cap)
 (hfirst:(Builtin.firstCells i.size m (.slice a m c)).run P w=.ok arr w) {w':World} (hst: ∀ad,base=some ad→(storeCells (ad.add (n*i.size)) arr.toList).run P w=.ok () w') (hnone:base=none→w'=w):
 (Builtin.append_ #[t,t2] ty #[.slice base n cap,.slice a m c]).run P w=.ok (.slice base (n+m) cap) w':=by
 obtain⟨e2,h2⟩:=A.ht2;cases base with
 |none=>
  rw[hnone rfl];simp[Builtin.append_,run_underlying A.ht,run_underlying h2,Bk A.hi,Builtin.lenOf,hm,hfirst]
 |some ad=>
  simp[Builtin.append_,run_underlying A.ht,run_underlying h2,Bk A.hi,Builtin.lenOf,hm,hfirst,hst ad rfl]
theorem Oc{e:TypeId}(A:qn P t t2 e i z){c:Nat}{old:Array Value}(hm:cap<n+m)(hmax:n+m≤2147483648)
 (hold:(Builtin.firstCells i.size n (.slice base n cap)).run P w.drew=.ok old w.drew)
 (hfirst:(Builtin.firstCells i.size m (.slice a m c)).run P w.drew=.ok arr w.drew):
 ∃cap',n+m≤cap'∧(Builtin.append_ #[t,t2] ty #[.slice base n cap,.slice a m c]).run P w=
  .ok (.slice (some ⟨w.heap.size,0,none⟩) (n+m) cap') (World.add w.drew (.cells (old++arr++Builtin.zeroCells z.cells (cap'-(n+m))) e)):=by
 obtain⟨e2,h2⟩:=A.ht2;have hb:=A.hb;have hfit:Builtin.nextslicecap (n+m) cap*i.bytes≤281474976710656:=by
  refine growslice_fits hm ?_;exact Hw (Nat.mul_le_mul hmax hb) (Nat.le_of_eq rfl)
 refine⟨(Question.appendCap (n+m) cap e).cut (w.tape w.drawn (.appendCap (n+m) cap e)),by simp only[Question.cut];omega,?_⟩
 .have h63: ¬((n+m:Nat):Int)>IntKind.i64.max:=by
   have:=Int.ofNat_le.2 hmax;have e:IntKind.i64.max=9223372036854775807:=rfl;rw[e];omega
  have h63': ¬(9223372036854775807:Int)<((n:Int)+m):=by omega
  simp[Builtin.append_,run_underlying A.ht,run_underlying h2,Bk A.hi,Builtin.lenOf,Nat.not_le.2 hm,hold,hfirst,typeInfo,A.hi,hfit,C6 A.hi A.hz,newRow,World.add,Question.forced];rw[D3 (fun h=>h63' h.1),D3 (Nat.not_lt.2 hfit)];rfl
theorem HR.move{h:AB}(H:HR A β w h){id id':Id}{k:PJ}{o o':Obj}(ho:h.get id=some o)(hm:o.mut=true)(hk:β id=some k)(hid:β id'=none){x:Go.Obj}
 (hr: ∀{M'},Le β (β.put id' k)→DU A (MS A β h) w M' (World.f9 w k.b x)→KQ (β.put id' k) (World.f9 w k.b x) M' k o'):
 HR A (β.put id' k) (World.f9 w k.b x) ((h.put id (.it 0 [])).put id' o')∧DU A (MS A β h) w (MS A (β.put id' k) ((h.put id (.it 0 [])).put id' o')) (World.f9 w k.b x):=by
 have hne:id≠id':=fun e=>by rw[e,hid]at hk;cases hk
 have hp:DU A (MS A β h) w (MS A (β.put id' k) ((h.put id (.it 0 [])).put id' o')) (World.f9 w k.b x):=by
  refine⟨fun b _ hb=>EC x fun e=>hb.elim (fun hb=>hb (.inr ⟨id,o,k,ho,hm,hk,e.symm⟩)) (fun hb=>H.out id o k ho hm hk (e▸hb)),by rw[EH];omega,?_,rfl,rfl⟩;rintro b (hA|⟨i,oi,ki,h1,h2,h3,rfl⟩)
  .exact .inl (.inl hA)
  rw[AB.get_put]at h1;split at h1
  .rename_i e;subst e;simp at h3;subst h3;exact .inl (.inr ⟨id,o,k,ho,hm,hk,rfl⟩)
  .rename_i e;rw[BX β k (Ne.symm e)]at h3;rw[AB.get_put]at h1;split at h1
   .cases h1;cases h2
   .exact .inl (.inr ⟨i,oi,ki,h1,h2,h3,rfl⟩)
 refine⟨H.step (MH hid) hp ?_ ?_ ?_ ?_,hp⟩
 .intro i oi hg;rw[AB.get_put]at hg;split at hg
  .rename_i e;subst e;cases hg;exact .inr ⟨k,by simp,hr (MH hid) hp⟩
  .rename_i e;rw[AB.get_put]at hg;split at hg
   .rename_i e2;subst e2;cases hg;exact .inr ⟨k,by rw[BX β k (Ne.symm e)];exact hk,.inl rfl⟩
   .rename_i e2;obtain⟨ki,hki,hri⟩:=H.obj i oi hg;by_cases eb:ki.b=k.b
    .cases hm':oi.mut with
     |true=>exact absurd (H.inj id i o oi k ki ho hg hm hm' hk hki eb.symm) e2
     |false=>
      cases oi with
      |it sz es=>
       have:=H.it ho hm hk hg hki eb;exact .inr ⟨ki,by rw[BX β k (Ne.symm e)];exact hki,.inl this⟩
      |_=>simp[Obj.mut]at hm'
    .exact .inl ⟨hg,fun k2 hk2=>by rw[hki]at hk2;cases hk2;exact EC x eb⟩
 ·
  have inj: ∀{i:Id} {oi:Obj} {ki:PJ},((h.put id (.it 0 [])).put id' o').get i=some oi→oi.mut=true→β.put id' k i=some ki→(i=id'∧ki=k)∨(i≠id∧i≠id'∧h.get i=some oi∧β i=some ki):=by
   intro i oi ki h1 h2 h3;rw[AB.get_put]at h1;split at h1
   .rename_i e;subst e;simp at h3;exact .inl ⟨rfl,h3.symm⟩
   .rename_i e;rw[BX β k (Ne.symm e)]at h3;rw[AB.get_put]at h1;split at h1
    .cases h1;cases h2
    .rename_i e2;exact .inr ⟨Ne.symm e2,Ne.symm e,h1,h3⟩
  intro a b oa ob ka kb ha hb hma hmb hka hkb e;rcases inj ha hma hka with⟨rfl,rfl⟩|⟨a1,a2,a3,a4⟩<;>rcases inj hb hmb hkb with⟨rfl,rfl⟩|⟨b1,b2,b3,b4⟩
  .rfl
  .exact absurd (H.inj id b o ob _ kb ho b3 hm hmb hk b4 e).symm b1
  .exact absurd (H.inj id a o oa _ ka ho a3 hm hma hk a4 e.symm).symm a1
  .exact H.inj a b oa ob ka kb a3 b3 hma hmb a4 b4 e
 .intro i ki hki;rw[EH];by_cases e:i=id'
  .subst e;simp at hki;subst hki;exact H.ut id _ hk
  .rw[BX β k e]at hki;exact H.ut i ki hki
 .intro i oi ki hg hmi hki;rw[AB.get_put]at hg;split at hg
  .rename_i e;subst e;simp at hki;subst hki;exact H.out _ _ _ ho hm hk
  .rename_i e;rw[BX β k (Ne.symm e)]at hki;rw[AB.get_put]at hg;split at hg
   .cases hg;cases hmi
   .exact H.out i oi ki hg hmi hki
theorem R2{α:Type}{R:α→Value→Prop}{es ds:List (List α)}{sz:Nat}{c':Array Value}(he: ∀e∈es,e.length=sz)(hd: ∀e∈ds,e.length=sz)(hn:n≤es.length)
 (hc: ∀(i:Nat) (x:α) (v:Value),es.flatten[i]? =some x→c[i]? =some v→R x v) (ha: ∀(i:Nat) (x:α) (v:Value),ds.flatten[i]? =some x→arr[i]? =some v→R x v) (hs:arr.size=ds.length*sz)
 (h1: ∀i,i<n*sz→c'[i]? =c[i]?) (h2: ∀i,i<arr.size→c'[n*sz+i]? =arr[i]?):
 (∀e∈es.take n++ds,e.length=sz)∧(es.take n++ds).length=n+ds.length∧ ∀(i:Nat) (x:α) (v:Value),(es.take n++ds).flatten[i]? =some x→c'[i]? =some v→R x v:=by
 have ht: ∀e∈es.take n,e.length=sz:=fun e h=>he e (MD h);have hl:(es.take n).length=n:=by simp;omega
 have hfl:(es.take n).flatten.length=n*sz:=by rw[Cg ht,hl]
 refine⟨fun e h=>?_,by simp;omega,fun i x v hx hv=>?_⟩
 .rcases F2.1 h with h|h
  .exact ht e h
  .exact hd e h
 .rw[Jp]at hx;by_cases hi:i<n*sz
  .rw[Bv (by omega)]at hx;rw[h1 i hi]at hv;refine hc i x v ?_ hv;have:=LM n es;rw[←this,Jp,Bv (by omega)];exact hx
  .rw[CS (by omega),hfl]at hx;have hlt:i-n*sz<ds.flatten.length:=(BE.1 hx).1;rw[Cg hd,←hs]at hlt;have:=h2 (i-n*sz) hlt;rw[show n*sz+(i-n*sz)=i by omega,hv]at this;exact ha _ x v hx this.symm
variable{A:Nat→Prop}{P:Program}{mix:List TypeId}{β:Aj}{w:World}{M:Nat→Prop}
theorem PC{α:Type}{es new r:List (List α)}{sz:Nat}(he: ∀e∈es,e.length=sz)(hn: ∀e∈new,e.length=sz)(hs:B9 es off new=some r):
 (∀e∈r,e.length=sz)∧ ∀i,r.flatten[i]? =if i<off*sz then es.flatten[i]? else if i<off*sz+new.length*sz then new.flatten[i-off*sz]? else es.flatten[i]? :=by
 obtain⟨s1,_,_⟩:=DS hs;unfold B9 at hs;rw[D7 s1]at hs;cases hs;have ht: ∀e∈es.take off,e.length=sz:=fun e h=>he e (MD h);have hd: ∀e∈es.drop (off+new.length),e.length=sz:=fun e h=>he e (OL h);have hl:(es.take off).length=off:=by simp;omega
 have f1:(es.take off).flatten.length=off*sz:=by rw[Cg ht,hl]
 have f2:new.flatten.length=new.length*sz:=Cg hn;refine⟨fun e h=>?_,fun i=>?_⟩
 .rcases F2.1 h with h|h
  .rcases F2.1 h with h|h
   .exact ht e h
   .exact hn e h
  .exact hd e h
 .have hes:es.flatten=(es.take off).flatten++((es.drop off).take new.length).flatten++(es.drop (off+new.length)).flatten:=by
   rw[←Jp,←Jp];congr 1;rw[ES,←List.drop_drop,LM,LM]
  have f3:((es.drop off).take new.length).flatten.length=new.length*sz:=by
   rw[Cg (sz:=sz) (fun e h=>he e (OL (MD h)))];congr 1;simp;omega
  rw[Jp,Jp];by_cases a1:i<off*sz
  .rw[D7 a1,ES,Bv (by omega),hes,ES,Bv (by omega)]
  .rw[D3 a1];by_cases a2:i<off*sz+new.length*sz
   .rw[D7 a2,ES,CS (by omega),f1,Bv (by omega)]
   .rw[D3 a2,CS (by rw[D9];omega),hes,CS (by rw[D9];omega)];simp only[D9,f1,f2,f3]
structure YW(A:Nat→Prop)(α:Type) where
 ar:Nat→List (List α)→Obj
 R:Aj→World→(Nat→Prop)→α→Value→Prop
 obj: ∀{β w M k sz es},KQ β w M k (ar sz es)↔ ∃c elem,w.heap[k.b]? =some (.cells c elem (0,0))∧sz=k.sz∧0<sz∧c.size=k.n∧(∀e∈es,e.length=sz)∧es.length*sz≤c.size∧
    ∀(i:Nat) (x:α) (v:Value),es.flatten[i]? =some x→c[i]? =some v→R β w M x v
 mono: ∀{β β' w w' M M' x v},Le β β'→DU A M w M' w'→R β w M x v→R β' w' M' x v
 isMut: ∀sz es,(ar sz es).mut=true
def YW.dat(A:Nat→Prop):YW A AU:=⟨.d6,fun _ w M=>DR w M,Iff.rfl,fun _ hp h=>h.mono hp,fun _ _=>rfl⟩
def YW.mixed(A:Nat→Prop):YW A AV:=⟨.arr,VR,Iff.rfl,fun hβ hp h=>h.mono hβ hp,fun _ _=>rfl⟩
theorem Ob{α:Type}(κ:YW A α){h h₁:AB}(H₁:HR A β w h₁)(hs:Uj h h₁){δ₁:AB}(hδ₁:h.puts δ₁=h₁){ρ:List Nat}(hf: ∀id,ρ<:+id→β id=none)
 {t t2 e:TypeId} {i:TypeInfo} {z:Value} (AT:qn P t t2 e i z) {ty:TypeId} {id:Id} {k:PJ} {es ds:List (List α)} {off n cap:Nat} {a:Option Addr} (g₁:h₁.get id=some (κ.ar i.size es)) (hk:β id=some k)
 (hn:off*k.sz+cap*k.sz=k.n) (hl:n≤cap) (ha:a=some ⟨k.b,off*k.sz,none⟩∨cap=0) (hoff:off+n≤es.length) (hd: ∀e∈ds,e.length=i.size) (hne:ds≠ [])
 {ax:Option Addr} {cx:Nat} {arr:Array Value} (hfirst: ∀w':World,w'.heap=w.heap→(Builtin.firstCells i.size ds.length (.slice ax ds.length cx)).run P w'=.ok arr w')
 (hsz:arr.size=ds.length*i.size) (h1: ∀v∈arr,v.oneCell'=true) (hv: ∀(j:Nat) (x:α) (v:Value),ds.flatten[j]? =some x→arr[j]? =some v→κ.R β w (MS A β h₁) x v) {eff:Bw}
 (he:(∃es',B9 es (off+n) ds=some es'∧eff=⟨.d8 id off (n+ds.length),δ₁++[(id,κ.ar i.size es')]⟩)∨
  (off=0∧n+ds.length≤2147483648∧eff=⟨.d8 (1::ρ) 0 (n+ds.length),δ₁++[(id,.it 0 []),(1::ρ,κ.ar i.size (es.take n++ds))]⟩)):
 DE A ρ β w h (((Builtin.append_ #[t,t2] ty #[.slice a n cap,.slice ax ds.length cx]).run P w).andThen fun v w'=>.ok (.value v) w') eff:=by
 obtain⟨k',hk',hob⟩:=H₁.obj id _ g₁;rw[hk]at hk';cases hk';obtain⟨c,elem,q1,q2,q3,q4,q5,q6,q7⟩:=κ.obj.1 hob;have hpos:0<ds.length:=by cases ds with|nil=>exact absurd rfl hne|cons=>simp
 have hid:β (1::ρ)=none:=hf _ (Ep 1 ρ);have inplace:n+ds.length≤cap→off*k.sz+n*k.sz+arr.size≤c.size∧
  ((Builtin.append_ #[t,t2] ty #[.slice a n cap,.slice ax ds.length cx]).run P w)=.ok (.slice (some ⟨k.b,off*k.sz,none⟩) (n+ds.length) cap) (World.f9 w k.b (.cells (E1 c (off*k.sz+n*k.sz) arr.toList) elem (0,0))):=by
  intro hroom;have ha':a=some ⟨k.b,off*k.sz,none⟩:=ha.resolve_right (by omega);subst ha';have hle:off*k.sz+n*k.sz+arr.size≤c.size:=by
   have:=Gt k.sz hroom;rw[IN]at this;rw[hsz,q2,q4];omega
  refine⟨hle,R3 AT hroom (hfirst w rfl) (fun ad had=>?_) (fun hh=>by cases hh)⟩;cases had;rw[q2,DK];have:=Gg (P:=P) arr.toList (off*k.sz+n*k.sz) w c 0 q1 (by simpa using hle) (fun v hv=>h1 v (by simpa using hv));simpa using this
 rcases he with⟨es',hsp,rfl⟩|⟨rfl,hmax,rfl⟩
 .obtain⟨s1,s2,s3⟩:=DS hsp;have hroom:n+ds.length≤cap:=by
   have h2:(off+(n+ds.length))*k.sz≤(off+cap)*k.sz:=by
    have h3:=Gt k.sz s1;rw[q2]at q6;rw[IN off cap,hn,←q4];rw[←PL];omega
   have:=Nat.le_of_mul_le_mul_right h2 (by omega);omega
  obtain⟨hle,hrun⟩:=inplace hroom;have hpr:=Fs H₁ (o':=κ.ar i.size es') g₁ (κ.isMut _ _) hk (.cells (E1 c (off*k.sz+n*k.sz) arr.toList) elem (0,0));obtain⟨l1,l2⟩:=PC q5 hd hsp;refine⟨_,.slice (some ⟨k.b,off*k.sz,none⟩) (n+ds.length) cap,_,β,by rw[hrun];rfl,.inl rfl,.refl β,fun _ h=>.inl h,?_,?_,.d8 _ _ _ _ _ _ hk hn hroom (.inl rfl),Jo _ (GO _ (Ac.2 rfl)) hk,fun _ _ h=>.inl h⟩
  .rw[AB.puts_append,hδ₁];refine H₁.upd' g₁ (κ.isMut _ _) hk (κ.obj.2 ⟨_,elem,Gh _ (AL q1),q2,q3,by rw[EI (by simpa using hle)];exact q4,l1,by rw[EI (by simpa using hle),s2];exact q6,fun j x v hx hv'=>?_⟩);rw[l2]at hx;rw[EF (by simpa using hle)]at hv';have e1:off*k.sz+n*k.sz+arr.toList.length=off*k.sz+n*k.sz+ds.length*k.sz:=by rw[Md,hsz,q2]
   rw[IN,q2]at hx;by_cases a1:j<off*k.sz+n*k.sz
   .rw[D7 a1]at hx hv';exact κ.mono (.refl β) hpr (q7 j x v hx hv')
   .rw[D3 a1]at hx hv';by_cases a2:j<off*k.sz+n*k.sz+ds.length*k.sz
    .rw[D7 a2]at hx;rw[D7 (by omega)]at hv';exact κ.mono (.refl β) hpr (hv _ x v hx (by simpa using hv'))
    .rw[D3 a2]at hx;rw[D3 (by omega)]at hv';exact κ.mono (.refl β) hpr (q7 j x v hx hv')
  .rw[AB.puts_append,hδ₁];exact hs.ge.trans hpr
 .simp only[Nat.zero_mul,I9]at inplace hn ha hoff;by_cases hroom:n+ds.length≤cap
  .obtain⟨hle,hrun⟩:=inplace hroom;have cells:=R2 (R:=κ.R β w (MS A β h₁)) (c':=E1 c (n*k.sz) arr.toList) q5 hd hoff q7 hv hsz
    (fun j hj=>by rw[EF (by simpa using hle),D7 (by rw[←q2];exact hj)])
    (fun j hj=>by
     rw[EF (by simpa using hle),D3 (by rw[←q2];omega),D7 (by rw[←q2];simp;omega)];rw[←q2];simp)
   obtain⟨m1,m2⟩:=H₁.move g₁ (κ.isMut _ _) hk hid (x:=.cells (E1 c (n*k.sz) arr.toList) elem (0,0)) (o':=κ.ar i.size (es.take n++ds)) (fun hβ hp=>by
    refine κ.obj.2 ⟨_,elem,Gh _ (AL q1),q2,q3,by rw[EI (by simpa using hle)];exact q4,cells.1,?_,fun j x v hx hv'=>κ.mono hβ hp (cells.2.2 j x v hx hv')⟩;rw[EI (by simpa using hle),cells.2.1,q4,q2,←hn];exact Gt _ hroom)
   refine⟨_,.slice (some ⟨k.b,0,none⟩) (n+ds.length) cap,_,β.put (1::ρ) k,by rw[hrun];rfl,.inl rfl,MH hid,fun id' hne'=>?_,?_,?_,.d8 _ _ _ _ _ _ (E7 _ _ _) (by simpa using hn) hroom (.inl (by simp)),Jo _ (GO _ (FD ..)) hk,fun id' k' hk2=>?_⟩
   .by_cases e':id'=1::ρ
    .subst e';exact .inr (Ep 1 ρ)
    .rw[BX β k e']at hne';exact .inl hne'
   .rw[AB.puts_append,hδ₁];exact m1
   .rw[AB.puts_append,hδ₁];exact hs.ge.trans m2
   .by_cases e':id'=1::ρ
    .subst e';simp at hk2;subst hk2;exact .inr (.inr ⟨_,GO _ (FD ..),k,hk,rfl⟩)
    .rw[BX β k e']at hk2;exact .inl hk2
  ·
   have hold: ∀w':World,w'.heap=w.heap→ ∃old:Array Value,(Builtin.firstCells i.size n (.slice a n cap)).run P w'=.ok old w'∧old.size=n*i.size∧ ∀j,j<n*i.size→old[j]? =c[j]? :=by
    intro w' hw';by_cases hc0:cap=0
    .have:n=0:=by omega
     subst this;refine⟨#[],?_,by simp,by simp⟩;cases a<;>simp[Builtin.firstCells,loadCells,loadCellsFrom]
    .have ha':=ha.resolve_right hc0;subst ha';have hle:0+n*i.size≤c.size:=by
      rw[q4,←hn,q2,I9];exact Gt _ hl
     refine⟨((c.toList.drop 0).take (n*i.size)).toArray,?_,by simp;omega,fun j hj=>by rw[Q9 hj];simp⟩;simp only[Builtin.firstCells];exact NR (by rw[hw'];exact q1) hle
   obtain⟨old,o1,o2,o3⟩:=hold w.drew rfl;obtain⟨cap',hcap,hrun⟩:=Oc (w:=w) AT (ty:=ty) (Nat.lt_of_not_le hroom) hmax o1 (hfirst w.drew rfl);have hzc:(Builtin.zeroCells z.cells (cap'-(n+ds.length))).size=(cap'-(n+ds.length))*i.size:=by simp[Builtin.zeroCells,AT.hzs]
   have cells:=R2 (R:=κ.R β w (MS A β h₁)) (c':=old++arr++Builtin.zeroCells z.cells (cap'-(n+ds.length))) q5 hd hoff q7 hv hsz
    (fun j hj=>by rw[Array.append_assoc,I2 (by omega)];exact o3 j hj)
    (fun j hj=>by rw[Array.append_assoc,Array.getElem?_append_right (by omega),o2,Nat.add_sub_cancel_left,I2 hj])
   have hcs:(old++arr++Builtin.zeroCells z.cells (cap'-(n+ds.length))).size=cap'*i.size:=by
    simp only[RD,hzc,o2,hsz,←IN];congr 1;omega
   have Hk:=H₁.kill g₁ (κ.isMut _ _);have hsk:Uj h₁ (h₁.put id (.it 0 [])):=by
    intro id' o' ho' hm';rw[AB.get_put]at ho';split at ho'
    .cases ho';cases hm'
    .exact⟨o',ho',hm'⟩
   rw[hrun];refine Qf Hk (h:=h) (fun id' o' ho' hm'=>?_) (w₁:=w.drew) rfl ⟨rfl,rfl⟩ hf 1 (k:=⟨w.heap.size,i.size,cap'*i.size⟩) rfl (by rw[AB.puts_append,hδ₁];rfl) ?_ ?_
   .obtain⟨o2',r1,r2⟩:=hsk id' o' ho' hm';exact hs id' o2' r1 r2
   .intro M' hβ hp hp1;refine κ.obj.2 ⟨_,e,Jk w.drew _,rfl,q3,hcs,cells.1,?_,fun j x v hx hv'=>?_⟩
    .rw[hcs,cells.2.1];exact Gt _ hcap
    .exact κ.mono hβ (hsk.ge.trans hp1) (cells.2.2 j x v hx hv')
   .intro M';exact .d8 _ _ _ _ _ _ (E7 _ _ _) (by simp) hcap (.inl (by simp))
variable{cs:List AV}
theorem FK.cellsOne(h:FK β w M cs c)(hc: ∀x∈cs,x.isCell=true): ∀v∈c,v.oneCell'=true:=by
 intro v hv;obtain⟨i,hi,rfl⟩:=Array.mem_iff_getElem.1 hv;have hi':i<cs.length:=by rw[h.1];exact hi
 have hx:=h.2 i (cs[i]'hi') (c[i]'hi) (BY hi') (Dl hi);have hcell:=hc _ (Lt hi');have:=hx.cellsOk (by
  have:(cs[i]'hi').cells=[cs[i]'hi']:=by
   cases hh:cs[i]'hi'<;>first|rfl|(rw[hh]at hcell;simp[AV.isCell]at hcell)
  rw[this];simpa using hcell)
 refine this.2 _ ?_;have hce:(c[i]'hi).cells= #[c[i]'hi]:=by
  cases hh:c[i]'hi with
  |agg a=>
   rw[hh]at hx;cases hx':cs[i]'hi' with
   |d x=>rw[hx']at hx;cases hx with|d hd=>cases hd
   |agg _=>rw[hx']at hcell;simp[AV.isCell]at hcell
   |undef=>rw[hx']at hcell;simp[AV.isCell]at hcell
   |f8 _=>rw[hx']at hcell;simp[AV.isCell]at hcell
   |_=>rw[hx']at hx;cases hx
  |_=>rfl
 rw[hce];simp
theorem TH{h:AB}(H:HR A β w h){ρ:List Nat}(hf: ∀id,ρ<:+id→β id=none){t t2 ty:TypeId}{s x:AV}{vs vx:Value}(hs:VR β w (MS A β h) s vs)(hx:VR β w (MS A β h) x vx){eff:Bw}
 (ho:Gx (Bc P mix) h.get ρ (Bc P mix t) (Bc P mix t2) s x=some eff):
 DE A ρ β w h (((Builtin.append_ #[t,t2] ty #[vs,vx]).run P w).andThen fun v w'=>.ok (.value v) w') eff:=by
 unfold Gx at ho;split at ho
 .rename_i i1 u1 ht ht2;obtain⟨info,d,z,h1,h2,h3,_,rfl⟩:=Ar ht;obtain⟨info2,d2,z2,k1,k2,k3,_,rfl⟩:=Ar ht2;split at ho
  .rename_i j hk hk2 hj;obtain⟨el,rfl⟩:=Ca hk;obtain⟨el2,rfl⟩:=Ca hk2;simp only[GY]at hj;obtain⟨infe,de,ze,g1,g2,g3,⟨gb,gf,gz,_⟩,hje⟩:=Ar hj;have hjs:j.size=infe.size:=by rw[hje]
   have AT:qn P t t2 el infe ze:=⟨h2,⟨el2,k2⟩,g1,g3,gb,gz⟩;unfold appendV at ho;split at ho
   .cases ho
   ·
    rename_i hsrc;obtain⟨ax,cx,hvx,arr,hfirst0,harr⟩:=Vc (P:=P) H hx hsrc (size:=infe.size) (by simp);have hfirst:=hfirst0 w rfl;subst hvx;have h0:arr= #[]:=Lc harr.1.symm;subst h0;simp only[Io]at hfirst⊢;have run: ∀(a:Option Addr) (n cap:Nat),n≤cap→(Builtin.append_ #[t,t2] ty #[.slice a n cap,.slice ax 0 cx]).run P w=.ok (.slice a n cap) w:=by
     intro a n cap hle;have:=R3 (w:=w) (w':=w) AT (ty:=ty) (base:=a) (n:=n) (m:=0) (cap:=cap) (by simpa using hle) hfirst (fun ad _=>by simp[storeCells]) (fun _=>rfl);simpa using this
    split at ho
    .cases ho;cases hs;rw[run none 0 0 (El 0)];exact .plain H rfl rfl .ci
    .cases ho;cases hs with
     |emp a=>
      rw[run a 0 0 (El 0)];exact .plain H rfl rfl (.emp a)
    .cases ho;cases hs with
     |d8 _ _ _ k a cap hk' hn hl ha=>
      rw[run a _ cap hl];exact .plain H rfl rfl (.d8 _ _ _ _ _ _ hk' hn hl ha)
    .cases ho
   ·
    rename_i src hne hsrc;have hne:src≠ []:=fun e=>hne e;split at ho
    .rename_i hc;simp only[AS,CO,beq_iff_eq]at hc;obtain⟨⟨hall,hmax⟩,hpos⟩:=hc;have hmax:src.length≤BD:=F4 hmax;have hlen: ∀e∈src,e.length=infe.size:=fun e h=>by rw[(hall e h).1,hjs]
     have hcell: ∀x∈src.flatten,x.isCell=true:=by
      intro y hy;obtain⟨e,he,hy⟩:=Ls.1 hy;exact(hall e he).2 y hy
     obtain⟨ax,cx,hvx,arr,hfirst,harr⟩:=Vc (P:=P) H hx hsrc hlen;subst hvx;have hsz:arr.size=src.length*infe.size:=by rw[←harr.1,Cg hlen]
     have hone:=harr.cellsOne hcell;have hl30:BD=1073741824:=rfl;have hpos':0<src.length:=by cases src with|nil=>exact absurd rfl hne|cons=>simp
     have fresh: ∀(a:Option Addr),newArr h.get ρ j src=some eff→DE A ρ β w h (((Builtin.append_ #[t,t2] ty #[.slice a 0 0,.slice ax src.length cx]).run P w).andThen fun v w'=>.ok (.value v) w') eff:=by
      intro a hnew;have hold:(Builtin.firstCells infe.size 0 (.slice a 0 0)).run P w.drew=.ok #[] w.drew:=by
       cases a<;>simp[Builtin.firstCells,loadCells,loadCellsFrom]
      obtain⟨cap',hcap,hrun⟩:=Oc (w:=w) AT (ty:=ty) (base:=a) (n:=0) (m:=src.length) (cap:=0) (by omega) (by omega) hold (hfirst w.drew rfl);rw[hrun];simp only[I9]at hcap⊢;refine OB H (w₁:=w.drew) rfl ⟨rfl,rfl⟩ hf (cap:=cap') ?_ hcap ?_ hnew
      .simp only[RD,Builtin.zeroCells,Array.size_map,Array.size_range,gz,hsz,hjs,PM,Io,I9,←IN];congr 1;omega
      .intro i x v hx hv;have hi:i<src.length*infe.size:=by rw[←Cg hlen];exact(BE.1 hx).1
       rw[Array.empty_append,I2 (by omega)]at hv;exact harr.2 i x v hx hv
     unfold appTo at ho;split at ho
     .cases hs;exact fresh none ho
     .cases hs with
      |emp a=>exact fresh a ho
     .rename_i id off n;cases hs with
      |d8 _ _ _ k a cap hkk hn hl ha=>
       split at ho
       .rename_i sz es hg;split at ho
        .rename_i hcc;simp only[AS]at hcc;have hsj:sz=infe.size:=by rw[Co hcc.1,hjs]
         have hoff:off+n≤es.length:=F4 hcc.2;subst hsj;unfold appIn at ho;split at ho
         .rename_i ds hds hni;have hδ: ∀p∈src.flatMap (Bb h.get),∃sz es,p.2=.it sz es∧h.get p.1=some (.d6 sz es):=by
           intro p hp;obtain⟨e,_,hp⟩:=By.1 hp;exact H5 hp
          have hF:=ML hδ;have hfz:=JA (vs:=src.flatten) hδ (fun p hp=>by
           obtain⟨v,hv,hp⟩:=By.1 hp;obtain⟨e,he,hv⟩:=Ls.1 hv;exact By.2 ⟨e,he,By.2 ⟨v,hv,hp⟩⟩) (Dx hds)
          have hdl:ds.length=src.length:=(GH hds).1;have hdr:=WB H hF.sub harr (Dx hds) hfz;rw[←hdl];rw[←hdl]at hfirst hsz;refine Ob (YW.dat A) (hF.hr H) hF.sub rfl hf AT (es:=es) (ds:=ds) (by rw[JS (Qg hni)];exact hg) hkk hn hl ha hoff (Jx hds hlen) (fun e=>by rw[e]at hdl;simp at hdl;omega) hfirst hsz hone (fun j x v a b=>hdr.2 j x v a b) ?_;split at ho
          .rename_i es' hsp;cases ho;exact .inl ⟨es',hsp,rfl⟩
          .split at ho
           .rename_i hb;simp only[AS]at hb;cases ho;have hle:n+ds.length≤BD:=F4 hb.2;exact .inr ⟨Co hb.1,by omega,rfl⟩
           .cases ho
         .cases ho
        .cases ho
       .rename_i sz es hg;split at ho
        .rename_i hcc;simp only[AS]at hcc;have hsj:sz=infe.size:=by rw[Co hcc.1,hjs]
         have hoff:off+n≤es.length:=F4 hcc.2;subst hsj;unfold appMix at ho;refine Ob (YW.mixed A) H (.refl h) (δ₁:=[]) rfl hf AT (es:=es) (ds:=src) hg hkk hn hl ha hoff hlen hne hfirst hsz hone harr.2 ?_;split at ho
         .rename_i es' hsp;cases ho;exact .inl ⟨es',hsp,rfl⟩
         .split at ho
          .rename_i hb;simp only[AS]at hb;cases ho;have hle:n+src.length≤BD:=F4 hb.2;exact .inr ⟨Co hb.1,by omega,rfl⟩
          .cases ho
        .cases ho
       .cases ho
     .cases ho
    .cases ho
  .cases ho
 .cases ho
variable{A:Nat→Prop}{P:Program}{mix:List TypeId}{β:Aj}{w:World}{M:Nat→Prop}
variable{vx:Value}
theorem Tc(H:HR A β w h){k:Nat}{x:AV}(hx:VR β w (MS A β h) x vx)
 (ho:Dt k x (Bc P mix t)=some eff):DE A ρ β w h ((do pure (.value (←Instr.fieldAt t vx k)):Sem Next).run P w) eff:=by
 cases ht:Bc P mix t with
 |none=>simp[Dt,ht]at ho
 |some i=>
  obtain⟨info,d,z,h1,h2,h3,⟨_,hfk,_⟩,rfl⟩:=Ar ht;simp only[Dt,ht]at ho;cases d with
  |struct fs=>
   simp only[Ke,D5]at ho;cases hf:fs.toList[k]? with
   |none=>simp[hf]at ho
   |some f=>
    simp only[hf,F1]at ho;simp only[JR,CO,AS,Ii]at hfk;obtain⟨⟨fi,hfi⟩,_⟩:=hfk f (Ap hf);simp only[hfi,F1,GS]at ho;have hf':fs[k]? =some f:=by simpa using hf
    split at ho
    .cases ho
    .rename_i hne;have hnz:fi.size≠0:=fun e=>hne e;have run: ∀a:Addr,(Instr.fieldAt t (.pointer (some a)) k).run P w=.ok (.pointer (some (a.add f.offset))) w:=by
      intro a;simp[Instr.fieldAt,run_underlying h2,hf',Instr.sureAddr,fieldPlace,Bk hfi,hnz]
     split at ho
     .cases ho;cases hx with
      |ptr _ _ kb hk=>exact .plain H (v:=.pointer (some ⟨kb.b,_,none⟩)) (by simp[run,DK]) rfl (.ptr _ _ kb hk)
     .cases ho;cases hx with
      |ip _ _ _ kb hk=>exact .plain H (v:=.pointer (some ⟨kb.b,_,none⟩)) (by simp[run,DK,PL]) rfl (.ip _ _ _ kb hk)
     .split at ho
      .rename_i cs hle;cases ho;cases hx with
       |kw _ b off c elem fr g1 g2 g3 g4=>
        refine .plain H (v:=.pointer (some ⟨b,off+f.offset,none⟩)) (by simp[run,DK]) rfl (.kw _ b _ c elem fr g1 g2 (by simp;omega) fun i x v hx hv=>?_);rw[IT]at hx;exact g4 _ x v hx (by rw[←hv];congr 1;omega)
      .cases ho
     .cases ho
  |_=>simp[Ke]at ho
theorem vC{info:TypeInfo}(h1:P.info? t=some info)(h2:P.underlying t=some d){l:List AV}(hc:FK β w M cs c)(hs:IM cs off info.size=some l)
 {r:AV} (hr:Ev (KR d) l=some r): ∃v,(part t c off).run P w=.ok v w∧VR β w M r v:=by
 obtain⟨s1,s2,s3⟩:=G3 hs;unfold Ev at hr;split at hr
 .rename_i ha;cases hr;refine⟨.agg (c.extract off (off+info.size)),?_,.agg _ _ (by rw[s2];simp;rw[←hc.1];omega) fun i x v hx hv=>?_⟩
  .simp[part,Hc h2,ha,Bk h1]
  .have hi:i<info.size:=by rw[←s2];exact(BE.1 hx).1
   rw[s3 i hi]at hx;rw[Array.getElem?_extract]at hv;split at hv
   .exact hc.2 _ x v hx hv
   .cases hv
 .rename_i ha;split at hr
  .rename_i x;cases hr;simp only[Gc,Io]at s2;have hlt:off<c.size:=by rw[←hc.1];omega
   have hx:=s3 0 (by omega);simp only[F7,Nat.add_zero]at hx;refine⟨c[off],?_,hc.2 off _ _ hx.symm (by simp[hlt])⟩;simp[part,Hc h2,ha,hlt]
  .cases hr
theorem mf(H:HR A β w h){k:Nat}{x:AV}(hx:VR β w (MS A β h) x vx)
 (ho:Lf k x (Bc P mix t)=some eff):DE A ρ β w h ((do pure (.value (←Instr.field t vx k)):Sem Next).run P w) eff:=by
 cases ht:Bc P mix t with
 |none=>simp[Lf,ht]at ho
 |some i=>
  obtain⟨info,d,z,h1,h2,h3,⟨_,hfk,_⟩,rfl⟩:=Ar ht;simp only[Lf,ht]at ho;cases d with
  |struct fs=>
   simp only[Ke,D5]at ho;cases hf:fs.toList[k]? with
   |none=>simp[hf]at ho
   |some f=>
    simp only[hf,F1]at ho;simp only[JR,CO,AS,Ii]at hfk;obtain⟨⟨fi,hfi⟩,fd,hu⟩:=hfk f (Ap hf);have hf':fs[k]? =some f:=by simpa using hf
    cases x with
    |agg cs=>
     simp only[hfi,F1,GS]at ho;cases hx with
     |agg _ c q1 q2=>
      simp only[hu,F1,GS,BI,HM]at ho;obtain⟨r,⟨l,hl,hr⟩,rfl⟩:=ho;obtain⟨v,hv,hr'⟩:=vC hfi hu (c:=c) ⟨q1,q2⟩ hl hr;exact .plain H (v:=v) (by simp[Instr.field,run_underlying h2,hf',asAgg,hv]) rfl hr'
    |_=>simp at ho
  |_=>simp[Ke]at ho
theorem Ek{k:IntKind}{n:Int}{v:Value}(h:VR β w M (.d (.int k n)) v):v=.int k n:=by
 cases h with|d h=>cases h;rfl
theorem Gj{b:Bool}{v:Value}(h:VR β w M (.d (.bool b)) v):v=.bool b:=by
 cases h with|d h=>cases h;rfl
theorem HX{b:ByteArray}{v:Value}(h:VR β w M (.d (.str b)) v):v=.string b:=by
 cases h with|d h=>cases h;rfl
theorem Tl{h:AB}(H:HR A β w h){ρ:List Nat}{t:TypeId}{x i:AV}{vx vi:Value}(hx:VR β w (MS A β h) x vx)(hi:VR β w (MS A β h) i vi){eff:Bw}
 (ho:Ck (Bc P mix) h.get x i (Bc P mix t)=some eff):DE A ρ β w h ((do pure (.value (←Instr.indexAt t vx vi)):Sem Next).run P w) eff:=by
 cases ht:Bc P mix t with
 |none=>simp[Ck,ht]at ho
 |some ti=>
  obtain⟨info,d,z,h1,h2,h3,_,rfl⟩:=Ar ht;simp only[Ck,ht]at ho;split at ho
  .rename_i k n j hk hj;obtain⟨el,rfl⟩:=Ca hk;simp only[GY]at hj;obtain⟨info',d',z',g1,g2,g3,_,hje⟩:=Ar hj;have hjs:j.size=info'.size:=by rw[hje]
   have:=Ek hi;subst this;unfold Ly at ho;split at ho
   .rename_i hn;obtain⟨n,rfl⟩:=I0 hn;simp only[Kw]at ho;have run: ∀(a:Addr) (len cap:Nat),n<len→(Instr.indexAt t (.slice (some a) len cap) (.int k n)).run P w=.ok (.pointer (some (a.add (n*info'.size)))) w:=by
     intro a len cap hlt;have h1:(n:Int)<(len:Int):=by exact_mod_cast hlt
     simp[Instr.indexAt,asIntOf,run_underlying h2,hlt,Bk g1]
    split at ho
    .rename_i es;split at ho
     .rename_i c hc;split at ho
      .rename_i hb;cases ho;have hcl:c.length=info'.size:=by rw[Co hb,hjs]
       have hlt:n<es.length:=(BE.1 hc).1;cases hx with
       |d hd=>
        cases hd with
        |rg a cap=>simp at hlt
        |be _ b off cap sz c' elem fr q1 q2 q3 q4 q5 q6=>
         have hsz:sz=info'.size:=by rw[←hcl,q3 c (Ap hc)]
         subst hsz;refine .plain H (v:=.pointer (some ⟨b,off+n*info'.size,none⟩)) (by simp[run _ _ _ hlt,DK]) rfl (.kw c b _ c' elem fr q1 q2 ?_ fun i x v hx hv=>?_)
         .have:=Gt info'.size hlt;rw[RG]at this;omega
         .have hil:i<info'.size:=by rw[←hcl];exact(BE.1 hx).1
          refine q5 (n*info'.size+i) x v ?_ (by rw[←hv];congr 1;omega);rw[Gq q3 hc hil];exact hx
      .cases ho
     .cases ho
    .rename_i id off len;split at ho
     .rename_i hlt;cases hx with
      |d8 _ _ _ kb a cap hkb hcap hl ha=>
       have ha':a=some ⟨kb.b,off*kb.sz,none⟩:=ha.resolve_right (by omega);subst ha';have fin:kb.sz=info'.size→eff=⟨.ip id (off+n) 0,[]⟩→DE A ρ β w h ((do pure (.value (←Instr.indexAt t (.slice (some ⟨kb.b,off*kb.sz,none⟩) len cap) (.int k n))):Sem Next).run P w) eff:=by
        rintro e rfl;refine .plain H (v:=.pointer (some ⟨kb.b,(off+n)*kb.sz+0,none⟩)) (by simp[run _ _ _ hlt,DK,←e,IN]) rfl (.ip _ _ _ kb hkb)
       split at ho
       .rename_i sz es hg;obtain⟨k',hk',c,elem,q1,q2,_⟩:=H.obj id _ hg;rw[hkb]at hk';cases hk';split at ho
        .rename_i e;cases ho;exact fin (by rw[←q2,e.1,hjs]) rfl
        .cases ho
       .rename_i sz es hg;split at ho
        .rename_i e;cases ho;obtain⟨k',hk',ho'⟩:=H.obj id _ hg;rw[hkb]at hk';cases hk';rcases ho' with rfl|⟨_,c,elem,fr,q1,q2,_⟩
         .simp at e
         .exact fin (by rw[←q2,e.1,hjs]) rfl
        .cases ho
       .rename_i sz es hg;obtain⟨k',hk',c,elem,q1,q2,_⟩:=H.obj id _ hg;rw[hkb]at hk';cases hk';split at ho
        .rename_i e;cases ho;exact fin (by rw[←q2,e.1,hjs]) rfl
        .cases ho
       .cases ho
     .cases ho
    .cases ho
   .cases ho
  .rename_i k n m j hk hj;obtain⟨el,rfl⟩:=nx hk;simp only[GY]at hj;obtain⟨info',d',z',g1,g2,g3,_,hje⟩:=Ar hj;have hjs:j.size=info'.size:=by rw[hje]
   have:=Ek hi;subst this;unfold lh at ho;split at ho
   .split at ho
    .rename_i hn;cases ho;cases hx with
     |ptr _ _ kb hkb=>
      have h1:n<(m:Int):=by omega
      exact .plain H (v:=.pointer (some ⟨kb.b,_,none⟩)) (by simp[Instr.indexAt,asIntOf,run_underlying h2,hn.1,h1,Instr.sureAddr,Bk g1,DK,hjs]) rfl (.ptr _ _ kb hkb)
    .cases ho
   .cases ho
  .cases ho
variable{A:Nat→Prop}{P:Program}{mix:List TypeId}{β:Aj}{w:World}{M:Nat→Prop}
inductive dE(β:Aj)(w:World)(M:Nat→Prop):Option AV→Option Value→Prop
 |none:dE β w M none none
 |some {x v}:VR β w M x v→dE β w M (some x) (some v)
theorem dE.map{e:Nat→AV}{a:Act}(he:IK β w M e fun t=>a.tmps.getD t Go.undef)(x:Option Operand):dE β w M (x.map (ev e)) (x.map a.eval):=by
 cases x with
 |none=>exact .none
 |some x=>exact .some (HF he x)
theorem LZ{x:AV}{v:Value}{n:Int}(h:VR β w M x v)(hx:Kj x=some n): ∃k,v=.int k n:=by
 cases x with
 |d x=>
  cases x with
  |int k m=>simp only[Kj,CI]at hx;subst hx;exact⟨k,Ek h⟩
  |_=>simp[Kj]at hx
 |_=>simp[Kj]at hx
theorem Fw{k:IntKind}{y:Nat}(h:n≤y)(code:BoundsCode):(Instr.sliceBound (.int k n) y code).run P w=.ok n w:=by
 simp[Instr.sliceBound,asIntOf,h]
theorem Pw{lo hi mx:Option AV}{vlo vhi vmx:Option Value}(hlo:dE β w M lo vlo)(hhi:dE β w M hi vhi)(hmx:dE β w M mx vmx){len cap:Nat}{isSlice:Bool}{l r:Nat}{mo:Option Nat}
 (hb:FL lo hi mx len=some (l,r,mo)) (hc1:mo=none→r≤cap) (hc2: ∀m,mo=some m→m≤cap):
 (Instr.sliceBounds isSlice len cap vlo vhi vmx).run P w=.ok (l,r,mo.getD cap) w∧l≤r∧ ∀m,mo=some m→r≤m:=by
 unfold FL at hb;split at hb
 .rename_i li ri hl hr;have low: ∀y (code:BoundsCode) (K:Nat→Sem (Nat×Nat×Nat)),0≤li→li.toNat≤y→
   (match vlo with|some v=>(do let l←Instr.sliceBound v y code;K l)|none=>(do let l←pure 0;K l)).run P w=(K li.toNat).run P w:=by
   intro y code K h0 hy;cases hlo with
   |none=>simp only[Jl,CI]at hl;subst hl;simp
   |some hx=>
    simp only[Jl]at hl;obtain⟨k,rfl⟩:=LZ hx hl;obtain⟨n,rfl⟩:=I0 h0;simp only[Kw]at hy⊢;simp only[Sem.run_bind,Fw hy code,Result.andThen_ok]
  split at hb
  .split at hb
   .rename_i hc;simp only[CI,FN]at hb;obtain⟨rfl,rfl,rfl⟩:=hb;have hr0:0≤ri:=Int.le_trans hc.1 hc.2;refine⟨?_,by omega,by simp⟩;cases hmx;have hcap:=hc1 rfl;cases hhi with
    |none=>
     simp only[Jl,CI]at hr;subst hr;simp only[Kw]at*;simp only[Instr.sliceBounds,Sem.run_bind,Sem.run_pure,Result.andThen_ok];exact low len _ (fun l=>pure (l,len,cap)) hc.1 (by omega)
    |some hx=>
     simp only[Jl]at hr;obtain⟨k,rfl⟩:=LZ hx hr;obtain⟨n,rfl⟩:=I0 hr0;simp only[Kw]at*;simp only[Instr.sliceBounds,Sem.run_bind,Sem.run_pure,Result.andThen_ok,Fw hcap];exact low n _ (fun l=>pure (l,n,cap)) hc.1 (by omega)
   .cases hb
  .split at hb
   .rename_i hi' m hm;split at hb
    .rename_i hc;simp only[CI,FN]at hb;obtain⟨rfl,rfl,rfl⟩:=hb;have hr0:0≤ri:=Int.le_trans hc.1 hc.2.1;have hm0:0≤m:=Int.le_trans hr0 hc.2.2;refine⟨?_,by omega,by intro m' h;cases h;omega⟩;have hcap:=hc2 _ rfl;cases hmx with
     |some hxm=>
      cases hhi with
      |some hx=>
       simp only[Jl]at hr;obtain⟨k,rfl⟩:=LZ hx hr;obtain⟨km,rfl⟩:=LZ hxm hm;obtain⟨n,rfl⟩:=I0 hr0;obtain⟨m,rfl⟩:=I0 hm0;simp only[Kw]at*;have hnm:n≤m:=by omega
       simp only[Instr.sliceBounds,Sem.run_bind,Sem.run_pure,Result.andThen_ok,Fw hcap,Fw hnm];exact low n _ (fun l=>pure (l,n,m)) hc.1 (by omega)
    .cases hb
   .cases hb
 .cases hb
theorem PA(hd:P.underlying t=some d)(hna: ∀n e,d≠ .array n e){x:Value}{lo hi mx:Option Value}:
 (Instr.sliceAt t x lo hi mx).run P w=(Instr.slice t x lo hi mx).run P w:=by
 cases d<;>simp_all [Instr.sliceAt,run_underlying hd]
theorem YD{h:AB}(H:HR A β w h){ρ:List Nat}{t:TypeId}{x:AV}{vx:Value}(hx:VR β w (MS A β h) x vx){lo hi mx:Option AV}{vlo vhi vmx:Option Value}(hlo:dE β w (MS A β h) lo vlo)
 (hhi:dE β w (MS A β h) hi vhi) (hmx:dE β w (MS A β h) mx vmx) {eff:Bw}
 (ho:Gd (Bc P mix) h.get x lo hi mx (Bc P mix t)=some eff):DE A ρ β w h ((do pure (.value (←Instr.sliceAt t vx vlo vhi vmx)):Sem Next).run P w) eff:=by
 cases ht:Bc P mix t with
 |none=>simp[Gd,ht]at ho
 |some ti=>
  obtain⟨info,d,z,h1,h2,h3,_,rfl⟩:=Ar ht;simp only[Gd,ht]at ho
  suffices hs: ∃r,eff=⟨r,[]⟩∧ ∃v,(Instr.sliceAt t vx vlo vhi vmx).run P w=.ok v w∧VR β w (MS A β h) r v by
   obtain⟨r,rfl,v,h1,h2⟩:=hs;exact .plain H (v:=v) (by simp[h1]) rfl h2
  split at ho
  .rename_i j hk hj;obtain⟨el,rfl⟩:=Ca hk;rw[PA h2 (by simp)];simp only[GY]at hj;obtain⟨info',d',z',g1,g2,g3,_,hje⟩:=Ar hj;have hjs:j.size=info'.size:=by rw[hje]
   simp only[BI]at ho;obtain⟨r,hr,rfl⟩:=ho;refine⟨r,rfl,?_⟩;have run: ∀{a:Option Addr} {len cap l r:Nat} {mo:Option Nat},FL lo hi mx len=some (l,r,mo)→(mo=none→r≤cap)→(∀m,mo=some m→m≤cap)→
    (Instr.slice t (.slice a len cap) vlo vhi vmx).run P w=.ok (.slice (if mo.getD cap=l then a else a.map (·.add (l*info'.size))) (r-l) (mo.getD cap-l)) w∧l≤r∧ ∀m,mo=some m→r≤m:=by
    intro a len cap l r mo hb hc1 hc2;obtain⟨b1,b2⟩:=Pw (P:=P) (w:=w) (isSlice:=true) hlo hhi hmx hb hc1 hc2;refine⟨?_,b2⟩;simp only[Instr.slice,Sem.run_bind,run_underlying h2,Result.andThen_ok,b1,Bk g1,Sem.run_pure]
   unfold GU at hr;split at hr
   .rename_i es _;unfold OU at hr;split at hr
    .rename_i l r' m hb;split at hr
     .rename_i hc;simp only[AS]at hc;have hle:r'≤es.length:=F4 hc.1;cases hx with
      |d hd=>
       have hcap: ∃a cap,vx=.slice a es.length cap∧es.length≤cap:=by
        cases hd with
        |rg a cap=>exact⟨a,cap,rfl,by simp⟩
        |be _ b off cap sz c elem fr q1 q2 q3 q4 q5 q6=>exact⟨_,cap,rfl,q6⟩
       obtain⟨a,cap,rfl,hcap⟩:=hcap;split at hr
       .cases hr;obtain⟨e1,e2,_⟩:=run (a:=a) (cap:=cap) hb (fun _=>by omega) (by simp);refine⟨_,e1,.d ?_⟩;simp only[Option.getD_none];have hlen:((es.drop l).take (r'-l)).length=r'-l:=by simp;omega
        by_cases hz:r'-l=0
        .rw[hz,List.take_zero];exact .rg _ _
        .cases hd with
         |rg a cap=>simp at hle;omega
         |be _ b off _ sz c elem fr q1 q2 q3 q4 q5 q6=>
          have hes:es≠ []:=fun e=>by rw[e]at hle;simp at hle;omega
          have hsz:sz=info'.size:=by
           obtain⟨e,es',rfl⟩:=PU hes;have:=q3 e (by simp);have h4:e.length=j.size:=Co (by simpa[LN]using hc.2);omega
          subst hsz;have hne: ¬cap=l:=by omega
          have hseg:IM es l (r'-l)=some ((es.drop l).take (r'-l)):=by
           unfold IM;rw[D7 (by omega)]
          obtain⟨f1,f2⟩:=QI q3 hseg;have hfin:=DR.be (w:=w) (M:=MS A β h) ((es.drop l).take (r'-l)) b (off+l*info'.size) (cap-l) info'.size c elem fr q1 q2 f1 (by
           have h5:=Gt info'.size hle;rw[hlen];have h6:l*info'.size+(r'-l)*info'.size=r'*info'.size:=by rw[←IN];congr 1;omega
           omega) (fun i x v hx hv=>by
           have hi:i<(r'-l)*info'.size:=by
            have:=(BE.1 hx).1;rw[Cg f1,hlen]at this;exact this
           rw[f2 i hi]at hx;refine q5 _ x v hx ?_;rw[←hv];congr 1;omega) (by rw[hlen];omega)
          rw[hlen]at hfin;simpa[hne,DK]using hfin
       .rename_i m';split at hr
        .rename_i hb';cases hr;have hm:m'=l:=Co hb';subst hm;have hlr:m'≤r':=by
          unfold FL at hb;split at hb
          .split at hb
           .split at hb<;>cases hb
           .split at hb
            .split at hb
             .rename_i hcc;simp only[CI,FN]at hb;obtain⟨b1,b2,b3⟩:=hb;omega
             .cases hb
            .cases hb
          .cases hb
         obtain⟨e1,e2,e3⟩:=run (a:=a) (cap:=cap) hb (by simp) (fun m hm=>by cases hm;omega);have:=e3 m' rfl;refine⟨_,e1,?_⟩;have:r'-m'=0:=by omega
         simp only[GS,Nat.sub_self,this];exact .emp _
        .cases hr
     .cases hr
    .cases hr
   .rename_i id off n _;cases hx with
    |d8 _ _ _ k a cap hk hn hl ha=>
     unfold Q2 at hr;split at hr
     .rename_i l r' m hb;have fin: ∀(s N:Nat),s=k.sz→0<k.sz→N*k.sz≤k.n→ee j.size id off l r' m s N=some r→ ∃v,(Instr.slice t (.slice a n cap) vlo vhi vmx).run P w=.ok v w∧VR β w (MS A β h) r v:=by
       intro s N hs hpos hN hr;unfold ee at hr;split at hr
       .rename_i hc;simp only[AS]at hc;have c1:s=j.size:=Co hc.1.1.1;have c2:off+m.getD r'≤N:=F4 hc.1.1.2;have c3:off+r'≤N:=F4 hc.1.2;have hNc:N≤off+cap:=by
         have:N*k.sz≤(off+cap)*k.sz:=by rw[IN,hn];exact hN
         exact Nat.le_of_mul_le_mul_right this hpos
        obtain⟨e1,e2,e3⟩:=run (a:=a) (cap:=cap) hb (fun _=>by omega) (fun m' hm=>by subst hm;simp at c2;omega);refine⟨_,e1,?_⟩;cases m with
        |none=>
         simp only[CI]at hr;subst hr;simp only[Option.getD_none];refine .d8 _ _ _ k _ _ hk ?_ (by omega) ?_
         .rw[←IN,←hn,←IN];congr 1;omega
         .by_cases he:cap=l
          .exact .inr (by omega)
          .rcases ha with rfl|h0
           .left;simp only[he,D8,F1,DK];rw[←hjs,←c1,hs,IN]
           .exact .inr (by omega)
        |some m'=>
         simp only at hr;split at hr
         .rename_i hb';cases hr;have hm:m'=l:=Co hb';subst hm;have:=e3 m' rfl;have:r'-m'=0:=by omega
          simp only[GS,Nat.sub_self,this];exact .emp _
         .cases hr;exact .undef _
       .cases hr
      split at hr
      .rename_i s es hg;obtain⟨k',hk',c,elem,q1,q2,q3,q4,q5,q6,_⟩:=H.obj id _ hg;rw[hk]at hk';cases hk';exact fin s es.length q2 (by omega) (by rw[←q2,←q4];exact q6) hr
      .rename_i s es hg;obtain⟨k',hk',ho⟩:=H.obj id _ hg;rw[hk]at hk';cases hk';rcases ho with rfl|⟨_,c,elem,fr,q1,q2,q3,q4,q5,q6,_⟩
       .unfold ee at hr;rw[Io,show Nat.blt 0 0=false from rfl,Gs]at hr;cases hr
       .exact fin s es.length q2 (by omega) (by rw[←q2,←q4];exact q6) hr
      .rename_i s es hg;obtain⟨k',hk',c,elem,q1,q2,q3,q4,q5,q6,_⟩:=H.obj id _ hg;rw[hk]at hk';cases hk';exact fin s es.length q2 (by omega) (by rw[←q2,←q4];exact q6) hr
      .cases hr
     .cases hr
   .cases hx;unfold YC at hr;split at hr
    .rename_i hb;cases hr;obtain⟨e1,_⟩:=run (a:=none) (cap:=0) hb (by simp) (by simp);refine⟨_,e1,?_⟩;simp;exact .ci
    .rename_i hb;cases hr;obtain⟨e1,_⟩:=run (a:=none) (cap:=0) hb (by simp) (by simp);refine⟨_,e1,?_⟩;simp;exact .emp _
    .cases hr
   .rename_i hh;cases hh
   .cases hr
  .rename_i hk;have hd:=Km hk;subst hd;rw[PA h2 (by simp)];simp only[BI]at ho;obtain⟨r,hr,rfl⟩:=ho;refine⟨r,rfl,?_⟩;unfold GU at hr;split at hr
   .rename_i hh;cases hh
   .rename_i hh;cases hh
   .rename_i hh;cases hh
   .rename_i s _;unfold qF at hr;split at hr
    .rename_i l r' hb;split at hr
     .rename_i hle;cases hr;have:=HX hx;subst this;obtain⟨b1,b2,_⟩:=Pw (P:=P) (w:=w) (isSlice:=false) (cap:=s.size) hlo hhi hmx hb (fun _=>hle) (by simp);cases hmx with
      |none=>
       refine⟨.string (s.extract l r'),?_,.d (.str _)⟩;simp[Instr.slice,run_underlying h2,b1]
      |some hxm=>
       exfalso;unfold FL at hb;split at hb<;>(try split at hb)<;>(try split at hb)<;>(try split at hb)<;>simp_all
     .cases hr
    .cases hr
   .cases hr
  .cases ho
variable{A:Nat→Prop}{P:Program}{mix:List TypeId}{β:Aj}{w:World}{M:Nat→Prop}
theorem yR{h:AB}(H:HR A β w h){ρ:List Nat}{op:UnOp}{x:AV}{vx:Value}(hx:VR β w (MS A β h) x vx){eff:Bw}(ho:jD op x=some eff):
 DE A ρ β w h ((do pure (.value (←Op.unary op vx)):Sem Next).run P w) eff:=by
 unfold jD at ho;split at ho
 .unfold cm at ho;split at ho
  .cases ho;have:=Gj hx;subst this;exact .plain H (v:=.bool (!_)) (by simp[Op.unary]) rfl (.d (.bool _))
  .cases ho
 .cases ho
theorem vD{h:AB}(H:HR A β w h){ρ:List Nat}{c a b:AV}{vc va vb:Value}(hc:VR β w (MS A β h) c vc)(ha:VR β w (MS A β h) a va)(hb:VR β w (MS A β h) b vb){eff:Bw}(ho:MO c a b=some eff):
 DE A ρ β w h ((do pure (.value (if←asBool vc then va else vb)):Sem Next).run P w) eff:=by
 unfold MO at ho;split at ho
 .rename_i t;cases ho;have:=Gj hc;subst this;cases t
  .exact .plain H (v:=vb) (by simp[asBool]) rfl hb
  .exact .plain H (v:=va) (by simp[asBool]) rfl ha
 .cases ho
theorem Y8(H:HR A β w h){k:Nat}{x:AV}(hx:VR β w (MS A β h) x vx)(ho:Hi k x=some eff):
 DE A ρ β w h ((do pure (.value (←Instr.extract vx k)):Sem Next).run P w) eff:=by
 unfold Hi at ho;split at ho
 .rename_i vs;simp only[BI]at ho;obtain⟨v,hv,rfl⟩:=ho;cases hx with
  |f8 _ c h1 h2=>
   have hk:k<c.size:=by rw[←h1];exact(BE.1 hv).1
   exact .plain H (v:=c[k]) (by simp[Instr.extract,hk]) rfl (h2 k v _ hv (by simp[hk]))
 .cases ho
theorem nh(H:HR A β w h){x:AV}(hx:VR β w (MS A β h) x vx)(ho:J6 t x (Bc P mix t)=some eff):
 DE A ρ β w h ((do pure (.value (←Instr.makeInterface t vx)):Sem Next).run P w) eff:=by
 cases ht:Bc P mix t with
 |none=>simp[J6,ht]at ho
 |some i=>
  obtain⟨info,d,z,h1,h2,h3,_,rfl⟩:=Ar ht;simp only[J6,ht]at ho;split at ho
  .cases ho
  .rename_i hk;cases ho;refine .plain H (v:=.iface t vx) ?_ rfl (.iface _ _ _ hx);cases d<;>first|(simp[Instr.makeInterface,run_underlying h2];done)|(exact absurd rfl hk)
theorem YR{z:Value}{ag:Bool}(ha:QU z=ag){r:AV}(hr:Ev ag (z.cells.toList.map Cw)=some r):VR β w M r z:=by
 subst ha;cases z with
 |agg c=>
  simp only[QU,Ev,F3,CI]at hr;subst hr;refine .agg _ _ (by simp[Value.cells]) fun i x v hx hv=>?_;simp only[Value.cells,D5,BI,HU]at hx;obtain⟨y,hy,rfl⟩:=hx;rw[hv]at hy;cases hy;exact Gm
 |_=>
  simp[QU,Ev,Value.cells]at hr;subst hr;exact Gm
theorem dV{h:AB}(H:HR A β w h){ρ:List Nat}{xt t:TypeId}{x:AV}{vx:Value}(hx:VR β w (MS A β h) x vx){eff:Bw}(ho:Gy t x (Bc P mix t)=some eff):
 DE A ρ β w h ((do pure (.value (←Instr.typeAssert vx xt t true)):Sem Next).run P w) eff:=by
 cases ht:Bc P mix t with
 |none=>cases x<;>simp[Gy,ht]at ho
 |some i=>
  obtain⟨info,d,z,h1,h2,h3,⟨_,_,hzs,hza⟩,rfl⟩:=Ar ht;cases x with
  |iface t' v=>
   simp only[Gy,ht]at ho;split at ho
   .cases ho
   .rename_i hk;cases hx with
    |iface _ _ u hu=>
     have hni: ∀ms,d≠ .interface ms:=fun ms e=>by subst e;simp[B1]at hk
     split at ho
     .rename_i e;subst e;cases ho;refine .plain H (v:=.tuple #[u,.bool true]) ?_ rfl (.f8 _ _ rfl fun i x v hx hv=>?_)
      .cases d<;>first|(simp[Instr.typeAssert,run_underlying h2];done)|(exact absurd rfl (hni _))
      .match i with
       |0=>simp at hx hv;subst hx hv;exact hu
       |1=>simp at hx hv;subst hx hv;exact .d (.bool _)
       |i+2=>simp at hx
     .rename_i hne;simp only[BI]at ho;obtain⟨r,hr,rfl⟩:=ho;have hz:=YR (β:=β) (w:=w) (M:=MS A β h) hza hr;refine .plain H (v:=.tuple #[z,.bool false]) ?_ rfl (.f8 _ _ rfl fun i x v hx hv=>?_)
      .cases d<;>first|(simp[Instr.typeAssert,run_underlying h2,hne,C6 h1 h3];done)|(exact absurd rfl (hni _))
      .match i with
       |0=>simp at hx hv;subst hx hv;exact hz
       |1=>simp at hx hv;subst hx hv;exact .d (.bool _)
       |i+2=>simp at hx
  |_=>simp[Gy]at ho
theorem Wz{h:AB}(H:HR A β w h){ρ:List Nat}{f:Fn}{first cap:Array Operand}{e:Nat→AV}{a:Act}(he:IK β w (MS A β h) e fun t=>a.tmps.getD t Go.undef){eff:Bw}
 (ho:GM f (first.toList.map (ev e)) (cap.toList.map (ev e))=some eff):
 DE A ρ β w h ((do pure (.value (←Instr.makeFunc f (first.map a.eval) (cap.map a.eval))):Sem Next).run P w) eff:=by
 have hl: ∀(l:Array Operand) (i:Nat) (x:AV) (v:Value),(l.toList.map (ev e))[i]? =some x→(l.map a.eval)[i]? =some v→VR β w (MS A β h) x v:=by
  intro l i x v hx hv;simp only[D5,HU,BI]at hx;obtain⟨y,hy,rfl⟩:=hx;simp only[Of,hy,F1,CI]at hv;subst hv;exact HF he y
 unfold GM at ho;split at ho
 .cases ho;exact .plain H (v:=.func (.func _) (first.map a.eval) (cap.map a.eval)) (by simp[Instr.makeFunc]) rfl (.fn _ _ _ _ _ (by simp) (by simp) (hl first) (hl cap))
 .cases ho
theorem W8(H:HR A β w h){x:AV}(hx:VR β w (MS A β h) x vx)(ho:FO x=some eff):
 (∃a,vx=.pointer (some a))∧DE A ρ β w h (.ok (.value vx) w) eff:=by
 unfold FO at ho;split at ho<;>cases ho
 .refine⟨?_,.plain H rfl rfl hx⟩;cases hx;exact⟨_,rfl⟩
 .refine⟨?_,.plain H rfl rfl hx⟩;cases hx;exact⟨_,rfl⟩
 .refine⟨?_,.plain H rfl rfl hx⟩;cases hx;exact⟨_,rfl⟩
theorem xZ{h:AB}(H:HR A β w h){ρ:List Nat}{t ty:TypeId}{x:AV}{vx:Value}(hx:VR β w (MS A β h) x vx){n:Nat}{i:TI}(ht:Bc P mix t=some i)(ho:Ts h.get i.kind x=some n):
 DE A ρ β w h (((Builtin.len_ #[t] ty #[vx]).run P w).andThen fun v w'=>.ok (.value v) w') ⟨.d (.int .i64 n),[]⟩:=by
 obtain⟨info,d,z,h1,h2,h3,_,rfl⟩:=Ar ht;refine .plain H (v:=.int .i64 n) ?_ rfl (.d (.int _ _));unfold Ts at ho;split at ho
 .rename_i es hk;obtain⟨el,rfl⟩:=Ca hk;cases ho;cases hx with|d hd=>cases hd<;>simp[Builtin.len_,run_underlying h2,goInt]
 .rename_i s hk;have:=Km hk;subst this;cases ho;have:=HX hx;subst this;simp[Builtin.len_,run_underlying h2,goInt]
 .rename_i hk;obtain⟨el,rfl⟩:=Ca hk;cases ho;cases hx;simp[Builtin.len_,run_underlying h2,goInt]
 .rename_i hk;obtain⟨el,rfl⟩:=Ca hk;cases ho;cases hx;simp[Builtin.len_,run_underlying h2,goInt]
 .rename_i id off m hk;obtain⟨el,rfl⟩:=Ca hk;cases ho;cases hx;simp[Builtin.len_,run_underlying h2,goInt]
 .rename_i id hk;obtain⟨ke,el,rfl⟩:=QV hk;split at ho
  .rename_i es hg;cases ho;obtain⟨k,hk',en,cl,q1,q2,_⟩:=H.obj id _ hg;cases hx with
   |mp _ k2 hk2=>
    rw[hk']at hk2;cases hk2;simp[Builtin.len_,run_underlying h2,goInt,getObj,Sem.run,q1,q2]
  .cases ho
 .cases ho
theorem xc{h:AB}(H:HR A β w h){ρ:List Nat}{ts:Array TypeId}{ty:TypeId}{x y:AV}{vx vy:Value}(hx:VR β w (MS A β h) x vx)(hy:VR β w (MS A β h) y vy){eff:Bw}(ho:XD x y=some eff):
 DE A ρ β w h (((Builtin.max_ ts ty #[vx,vy]).run P w).andThen fun v w'=>.ok (.value v) w') eff:=by
 unfold XD at ho;split at ho
 .split at ho
  .rename_i e;cases ho;have:=Ek hx;have:=Ek hy;subst vx vy;exact .plain H (v:=.int _ _) (by simp[Builtin.max_,Builtin.max2]) rfl (.d (.int _ _))
  .cases ho
 .cases ho
theorem xf{h:AB}(H:HR A β w h){ρ:List Nat}{ts:Array TypeId}{ty:TypeId}{x y:AV}{vx vy:Value}(hx:VR β w (MS A β h) x vx)(hy:VR β w (MS A β h) y vy){eff:Bw}(ho:XE x y=some eff):
 DE A ρ β w h (((Builtin.min_ ts ty #[vx,vy]).run P w).andThen fun v w'=>.ok (.value v) w') eff:=by
 unfold XE at ho;split at ho
 .split at ho
  .rename_i e;cases ho;have:=Ek hx;have:=Ek hy;subst vx vy;exact .plain H (v:=.int _ _) (by simp[Builtin.min_,Builtin.min2]) rfl (.d (.int _ _))
  .cases ho
 .cases ho
variable{A:Nat→Prop}{P:Program}{mix:List TypeId}{β:Aj}{w:World}{M:Nat→Prop}
theorem nj{h:AB}(H:HR A β w h){ρ:List Nat}{t:TypeId}{x i:AV}{vx vi:Value}(hx:VR β w (MS A β h) x vx)(hi:VR β w (MS A β h) i vi){eff:Bw}(ho:J7 x i (Bc P mix t)=some eff):
 DE A ρ β w h ((do pure (.value (←Instr.index t vx vi)):Sem Next).run P w) eff:=by
 cases ht:Bc P mix t with
 |none=>simp[J7,ht]at ho
 |some ti=>
  obtain⟨info,d,z,h1,h2,h3,_,rfl⟩:=Ar ht;simp only[J7,ht,F1]at ho;split at ho
  .rename_i s k n hk;simp only[CI]at hk;have:=Km hk;subst this;have:=HX hx;have:=Ek hi;subst vx vi;split at ho
   .rename_i hn;obtain⟨n,rfl⟩:=I0 hn;simp only[Kw,BI]at ho;obtain⟨b,hb,rfl⟩:=ho;have hb':s[n]? =some b:=by
     have hlt:n<s.data.toList.length:=(BE.1 hb).1;have hlt':n<s.size:=by simpa using hlt
     have hb2:=hb;rw[BY hlt]at hb2;rw[getElem?_pos s n hlt'];have h3:s[n]'hlt'=s.data[n]'(by simpa using hlt):=rfl;rw[h3];simpa using hb2
    refine .plain H (v:=.int .u8 b.toNat) ?_ rfl (.d (.int _ _));simp[Instr.index,asIntOf,run_underlying h2,hb']
   .cases ho
  .cases ho
theorem Zt{h:AB}(H:HR A β w h){ρ:List Nat}(hf: ∀id,ρ<:+id→β id=none){t:TypeId}{r:Option Operand}{a:Act}{eff:Bw}(ho:GN ρ r=some eff):
 DE A ρ β w h ((do pure (.value (←Instr.makeMap t (r.map a.eval))):Sem Next).run P w) eff:=by
 cases r with
 |some _=>simp[GN]at ho
 |none=>
  simp only[GN,CI]at ho;subst ho;have hr:((do pure (.value (←Instr.makeMap t ((none:Option Operand).map a.eval))):Sem Next).run P w)=.ok (.value (.map (some w.heap.size))) (World.add w (.map #[] 0)):=by
   simp[Instr.makeMap,World.add]
  rw[hr];refine Qf H (.refl h) rfl ⟨rfl,rfl⟩ hf 1 (k:=⟨w.heap.size,0,0⟩) rfl rfl ?_ ?_
  .intro M' _ _ _;exact⟨#[],0,Jk w _,rfl,by simp⟩
  .intro M';exact .mp _ _ (E7 _ _ _)
theorem mF{h:AB}(H:HR A β w h){ρ:List Nat}{t ty:TypeId}{x:AV}{vx:Value}(hx:VR β w (MS A β h) x vx){eff:Bw}(ho:Ik (Bc P mix) h.get (Bc P mix t) x=some eff):
 DE A ρ β w h (((Builtin.clear_ #[t] ty #[vx]).run P w).andThen fun v w'=>.ok (.value v) w') eff:=by
 cases ht:Bc P mix t with
 |none=>simp[Ik,ht]at ho
 |some ti=>
  obtain⟨info,d,z,h1,h2,h3,_,rfl⟩:=Ar ht;simp only[Ik,ht]at ho;have nothing: ∀a cap,(Builtin.clear_ #[t] ty #[.slice a 0 cap]).run P w=.ok (.tuple #[]) w:=by
   intro a cap;cases a<;>simp[Builtin.clear_,run_underlying h2]
  split at ho
  .rename_i id off n hk;obtain⟨el,rfl⟩:=Ca hk;cases hx with
   |d8 _ _ _ k a cap hk' hn hl ha=>
    split at ho
    .cases ho;rw[nothing];exact .plain H rfl rfl (.undef _)
    .rename_i n' hn0;have hn0:n≠0:=fun e=>hn0 e;split at ho
     .rename_i j hj;simp only[GY]at hj;obtain⟨info',d',z',g1,g2,g3,⟨_,_,hzs,_⟩,hje⟩:=Ar hj;unfold LL at ho;split at ho
      .rename_i sz es hg;split at ho
       .rename_i zd hzd;split at ho
        .rename_i hc;obtain⟨c1,c2,c3,c4⟩:=hc;simp only[BI]at ho;obtain⟨es',hsp,rfl⟩:=ho;obtain⟨k',hk2,c,elem,q1,q2,q3,q4,q5,q6,q7⟩:=H.obj id _ hg;rw[hk']at hk2;cases hk2;subst q2;have ha':a=some ⟨k.b,off*k.sz,none⟩:=ha.resolve_right (by omega);subst ha';have hjz:j.zero=z'.cells.toList.map Cw:=by rw[hje]
         have hjs:j.size=info'.size:=by rw[hje]
         have hzl:z'.cells.size=k.sz:=by
          have:=(DZ hzd).1;rw[hjz]at this;simp at this;omega
         have hzr:FK β w (MS A β h) j.zero z'.cells:=by
          rw[hjz];exact⟨by simp,fun i x v hx hv=>by
           simp only[D5,BI,HU]at hx;obtain⟨y,hy,rfl⟩:=hx;rw[hv]at hy;cases hy;exact Gm⟩
         obtain⟨hone,hzdat⟩:(∀v∈z'.cells,v.oneCell'=true)∧ ∀{M':Nat→Prop} {w':World} (i:Nat) (x:AU) (v:Value),zd[i]? =some x→z'.cells[i]? =some v→DR w' M' x v:=by
          refine⟨hzr.cellsOne (fun x hx=>CO.1 c3 x hx),fun{M' w'} i x v hx hv=>?_⟩;obtain⟨f1,f2⟩:=DZ hzd;have hi:i<j.zero.length:=by rw[←f1];exact(BE.1 hx).1
          have hfc:=f2 i _ x (BY hi) hx;have hev:j.zero[i]? =some (Cw v):=by
           rw[hjz,D5,HU,hv];rfl
          rw[BY hi]at hev;simp only[CI]at hev;rw[hev]at hfc;have hvr:VR (fun _=>none) w' M' (Cw v) v:=Gm;cases hvr':Cw v with
          |d y=>
           rw[hvr']at hfc hvr;simp only[EW,CI]at hfc;subst hfc;cases hvr with|d hd=>exact hd
          |ci=>
           rw[hvr']at hfc hvr;simp only[EW,CI]at hfc;subst hfc;cases hvr;exact .rg _ _
          |emp=>
           rw[hvr']at hfc hvr;simp only[EW,CI]at hfc;subst hfc;cases hvr;exact .rg _ _
          |d8 id off len=>rw[hvr']at hvr;cases hvr with|d8 _ _ _ k a cap hk=>cases hk
          |_=>rw[hvr']at hfc;simp[EW]at hfc
         have hrepl: ∀e∈List.replicate n zd,e.length=k.sz:=fun e he=>by rw[ON he];exact c1
         obtain⟨l1,l2⟩:=PC q5 hrepl hsp;obtain⟨s1,s2,_⟩:=DS hsp;have hzc:(Builtin.zeroCells z'.cells n).size=n*k.sz:=by simp[Builtin.zeroCells,hzl]
         have hle:off*k.sz+(Builtin.zeroCells z'.cells n).size≤c.size:=by
          have:=Gt k.sz s1;rw[It,IN]at this;rw[hzc];omega
         have hzcell: ∀i,i<n*k.sz→(Builtin.zeroCells z'.cells n)[i]? =z'.cells[i % k.sz]? :=by
          intro i hi;have hm:i % k.sz<k.sz:=Nat.mod_lt _ q3;simp only[Builtin.zeroCells,Of,hzl];rw[Array.getElem?_range,D7 hi];simp only[F1];rw[getElem!_pos z'.cells (i % k.sz) (by omega)];rw[Dl (by omega)]
         have hrun:(Builtin.clear_ #[t] ty #[.slice (some ⟨k.b,off*k.sz,none⟩) n cap]).run P w=.ok (.tuple #[]) (World.f9 w k.b (.cells (E1 c (off*k.sz) (Builtin.zeroCells z'.cells n).toList) elem (0,0))):=by
          have hst:=Gg (P:=P) (Builtin.zeroCells z'.cells n).toList (off*k.sz) w c 0 q1 (by simpa using hle) (fun v hv=>by
           have hv':v∈Builtin.zeroCells z'.cells n:=by simpa using hv
           obtain⟨i,hi,rfl⟩:=Array.mem_iff_getElem.1 hv';have:=hzcell i (by omega);rw[Dl hi]at this;exact hone _ (PI this.symm))
          simp only[Nat.add_zero]at hst;obtain⟨m,rfl⟩:=Nat.exists_eq_succ_of_ne_zero hn0;simp[Builtin.clear_,run_underlying h2,C6 g1 g3,hst]
         have hpr:=Fs H (o':=.d6 k.sz es') hg rfl hk' (.cells (E1 c (off*k.sz) (Builtin.zeroCells z'.cells n).toList) elem (0,0));refine⟨_,.tuple #[],_,β,by rw[hrun];rfl,.inl rfl,.refl β,fun _ h=>.inl h,?_,hpr,.undef _,Jo _ (Ac.2 rfl) hk',fun _ _ h=>.inl h⟩;refine H.upd' hg rfl hk' ⟨_,elem,Gh _ (AL q1),rfl,q3,by rw[EI (by simpa using hle)];exact q4,l1,by rw[EI (by simpa using hle),s2];exact q6,fun i x v hx hv=>?_⟩;rw[l2]at hx;rw[EF (by simpa using hle)]at hv;have e1:off*k.sz+(Builtin.zeroCells z'.cells n).toList.length=off*k.sz+n*k.sz:=by rw[Md,hzc]
         rw[It]at hx;by_cases a1:i<off*k.sz
         .rw[D7 a1]at hx hv;exact(q7 i x v hx hv).mono hpr
         .rw[D3 a1]at hx hv;by_cases a2:i<off*k.sz+n*k.sz
          .rw[D7 a2]at hx;rw[D7 (by omega)]at hv;simp only[HU]at hv;have hi2:i-off*k.sz<n*k.sz:=by omega
           rw[hzcell _ hi2]at hv;have hd1:(i-off*k.sz)/k.sz<n:=Nat.div_lt_of_lt_mul (by rw[Pu k.sz n];exact hi2);have hd2:(i-off*k.sz) % k.sz<k.sz:=Nat.mod_lt _ q3;have hd3:(i-off*k.sz)/k.sz*k.sz+(i-off*k.sz) % k.sz=i-off*k.sz:=by rw[Pu];exact Nat.div_add_mod _ _
           have:=Gq hrepl (k:=(i-off*k.sz)/k.sz) (e:=zd) (by simp[hd1]) hd2;rw[hd3,hx]at this;exact hzdat _ x v this.symm hv
          .rw[D3 a2]at hx;rw[D3 (by omega)]at hv;exact(q7 i x v hx hv).mono hpr
        .cases ho
       .cases ho
      .cases ho
     .cases ho
  .cases ho;cases hx;rw[nothing];exact .plain H rfl rfl (.undef _)
  .cases ho;cases hx;rw[nothing];exact .plain H rfl rfl (.undef _)
  .cases ho
end Go.Abs
