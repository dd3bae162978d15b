/-
  Parts of it.
-/
import Derived.WalkKit
import Derived.Test.YtbinfhpngacfgaaGreatFi0
set_option linter.all false
namespace Go.Abs
variable{A:Nat→Prop}{P:Program}{mix:List TypeId}{β:Aj}{w:World}{M:Nat→Prop}
variable{t:TypeId}{i:TI}
theorem Ar(h:Bc P mix t=some i): ∃info d z,P.info? t=some info∧P.underlying t=some d∧info.zero=some z∧(info.bytes≤65536∧JR P d=true∧z.cells.size=info.size∧QU z=KR d)∧
 i={kind:=B1 P t d,size:=info.size,agg:=KR d,str:=np d,zero:=z.cells.toList.map Cw,wp:=Ke P d,elem:=GY d,key:=Tp d,mix:=mix.any (Nat.beq t)}:=by
 unfold Bc at h;split at h
 .rename_i info d h1 h2;split at h
  .rename_i z h3;split at h
   .rename_i h4;cases h;simp only[AS]at h4;exact⟨info,d,z,h1,h2,h3,⟨F4 h4.1.1.1,h4.1.1.2,Co h4.1.2,by simpa using h4.2⟩,rfl⟩
   .cases h
  .cases h
 .cases h
variable{b off:Nat}{c:Array Value}{elem:TypeId}{fr:Nat×Nat}
theorem LJ(h:w.heap[b]? =some (.cells c elem fr)):w.cell? ⟨b,off,none⟩=c[off]? :=by
 simp[World.cell?,h]
theorem DK(b off j:Nat):(⟨b,off,none⟩:Addr).add j=⟨b,off+j,none⟩:=by
 unfold Addr.add;split<;>simp_all
theorem Hc{d:TypeDesc}(h:P.underlying t=some d):(isAgg t).run P w=.ok (KR d) w:=by
 cases d<;>simp[isAgg,run_underlying h,KR]
theorem Bk{i:TypeInfo}(h:P.info? t=some i):(sizeOf t).run P w=.ok i.size w:=by
 simp[sizeOf,typeInfo,h]
variable{α:Type}{l r:List α}{n:Nat}
theorem G3(h:IM l off n=some r):off+n≤l.length∧r.length=n∧ ∀i,i<n→r[i]? =l[off+i]? :=by
 unfold IM at h;split at h
 .rename_i hl;cases h;refine⟨hl,by simp;omega,fun i hi=>?_⟩;rw[I7,D7 hi,IT]
 .cases h
theorem vN{γ:Type}(f:α→γ)(l:List α)(off n:Nat):IM (l.map f) off n=(IM l off n).map (·.map f):=by
 unfold IM;simp only[Bi];split<;>simp
theorem Gq{α:Type}{es:List (List α)}{sz k:Nat}{e:List α}(he: ∀e∈es,e.length=sz)(hk:es[k]? =some e){j:Nat}(hj:j<sz):es.flatten[k*sz+j]? =e[j]? :=by
 induction es generalizing k with
 |nil=>simp at hk
 |cons x es ih=>
  have hx:x.length=sz:=he x (by simp);cases k with
  |zero=>
   simp at hk;subst hk;simp only[Nat.zero_mul,I9,MP];rw[Bv (by omega)]
  |succ k=>
   simp at hk;have:=ih (fun e h=>he e (by simp[h])) hk;rw[MP,CS (by rw[hx,IN];omega),←this];congr 1;rw[hx,IN];omega
theorem Cg{es:List (List α)}{sz:Nat}(he: ∀e∈es,e.length=sz):es.flatten.length=es.length*sz:=by
 induction es with
 |nil=>simp
 |cons x es ih=>
  rw[MP,D9,ih (fun e h=>he e (by simp[h])),he x (by simp),Gc,IN];omega
theorem MI(ht:Bc P mix t=some i)(hb:w.heap[b]? =some (.cells c elem fr))
 {src:List AV} (hl:src.length=i.size) (hle:off+i.size≤c.size) (hv: ∀(j:Nat) (x:AV) (v:Value),src[j]? =some x→c[off+j]? =some v→VR β w M x v)
 {r:AV} (hr:Ev i.agg src=some r): ∃v,(loadVar t ⟨b,off,none⟩).run P w=.ok v w∧VR β w M r v:=by
 obtain⟨info,d,z,h1,h2,h3,h4,rfl⟩:=Ar ht;simp only at hl hle hr;unfold Ev at hr;split at hr
 .rename_i ha;cases hr;have hcs:(loadCells ⟨b,off,none⟩ ((c.toList.drop off).take info.size).length).run P w=.ok ((c.toList.drop off).take info.size).toArray w:=
   run_loadCells_list (P:=P) w ⟨b,off,none⟩ _ (fun j v hj=>by
    rw[DK,LJ hb];rw[I7]at hj;split at hj
    .rw[IT]at hj;simpa using hj
    .cases hj)
  have hlen:((c.toList.drop off).take info.size).length=info.size:=by simp;omega
  rw[hlen]at hcs;refine⟨.agg ((c.toList.drop off).take info.size).toArray,?_,.agg _ _ (by simp only[PM];omega) ?_⟩
  .simp[loadVar,Hc h2,ha,Bk h1,hcs]
  .intro j x v hx hv';refine hv j x v hx ?_;simp only[NL]at hv';rw[I7]at hv';split at hv'
   .rw[IT]at hv';simpa using hv'
   .cases hv'
 .rename_i ha;split at hr
  .rename_i x;cases hr;simp only[Gc,Io]at hl;have hlt:off<c.size:=by omega
   refine⟨c[off],?_,hv 0 _ _ (by simp) (by simp[hlt])⟩;simp[loadVar,Hc h2,ha,LJ hb,hlt]
  .cases hr
def zD(β:Aj)(w:World)(β':Aj)(w':World)(δ:AB):Prop:=
 (∀b,b<w.heap.size→(∀p∈δ,∀k,β p.1=some k→k.b≠b)→w'.heap[b]? =w.heap[b]?)∧ ∀id k,β' id=some k→β id=some k∨w.heap.size≤k.b∨ ∃p∈δ,∃k',β p.1=some k'∧k'.b=k.b
theorem zD.refl(β:Aj)(w:World)(δ:AB):zD β w β w δ:=⟨fun _ _ _=>rfl,fun _ _ h=>.inl h⟩
def DE(A:Nat→Prop)(ρ:List Nat)(β:Aj)(w:World)(h:AB)(r:Result Next)(eff:Bw):Prop:=
 ∃n v w' β',r=.ok n w'∧(n=.value v∨(n=.skip∧v=Go.undef))∧Le β β'∧(∀id,β' id≠none→β id≠none∨ρ<:+id)∧
  HR A β' w' (h.puts eff.δ)∧DU A (MS A β h) w (MS A β' (h.puts eff.δ)) w'∧VR β' w' (MS A β' (h.puts eff.δ)) eff.v v∧zD β w β' w' eff.δ
variable{ρ:List Nat}{h:AB}{eff:Bw}{v:Value}
theorem DE.plain(H:HR A β w h){r:Result Next}(hr:r=.ok (.value v) w)(hδ:eff.δ=[])(hv:VR β w (MS A β h) eff.v v):
 DE A ρ β w h r eff:=
 ⟨_,v,w,β,hr,.inl rfl,.refl β,fun _ h=>.inl h,by rw[hδ];exact H,by rw[hδ];exact .refl _ _,by rw[hδ];exact hv,zD.refl _ _ _⟩
theorem Gm:VR β w M (Cw v) v:=by
 unfold Cw;split
 .exact .d (.int _ _)
 .exact .d (.bool _)
 .exact .d (.str _)
 .exact .ci
 .exact .d .qr
 .exact .d .i7
 .exact .d .i9
 .exact .d .nl
 .exact .undef _
variable{e:Nat→AV}{a:Act}
theorem HF(he:IK β w M e fun t=>a.tmps.getD t Go.undef)(x:Operand):VR β w M (ev e x) (a.eval x):=by
 cases x with
 |tmp t=>exact he t
 |const v=>exact Gm
 |global g=>exact .undef _
 |func f=>exact .fn f [] [] #[] #[] rfl rfl (fun _ _ _ h=>by simp at h) (fun _ _ _ h=>by simp at h)
variable{va:Value}
theorem Wx(H:HR A β w h)(ht:Bc P mix t=some i){a:AV}(ha:VR β w (MS A β h) a va){r:AV}(hr:H4 h.get i a=some r):
 ∃a v,va=.pointer (some a)∧(loadVar t a).run P w=.ok v w∧VR β w (MS A β h) r v:=by
 cases ha with
 |ptr id off k hk=>
  simp only[H4]at hr;split at hr
  .rename_i cs hg;obtain⟨k',hk',c,elem,h1,h2,h3⟩:=H.obj id _ hg;rw[hk]at hk';cases hk';cases hs:IM cs off i.size with
   |none=>simp[hs]at hr
   |some l=>
    simp only[hs,IP]at hr;obtain⟨s1,s2,s3⟩:=G3 hs;obtain⟨v,hv,hr'⟩:=MI ht h1 s2 (by rw[←h2];exact s1) (fun j x v hj hv=>by
     have hj':j<i.size:=by rw[←s2];exact(BE.1 hj).1
     rw[s3 j hj']at hj;exact h3 _ x v hj hv) hr
    exact⟨_,v,rfl,hv,hr'⟩
  .cases hr
 |ip id k off kb hk=>
  have main: ∀{c:Array Value} {elem:TypeId} {fr:Nat×Nat} {sz:Nat} {es:List (List AV)} {e src:List AV},w.heap[kb.b]? =some (.cells c elem fr)→sz=kb.sz→
   (∀e∈es,e.length=sz)→es.length*sz≤c.size→(∀(i:Nat) (x:AV) (v:Value),es.flatten[i]? =some x→c[i]? =some v→VR β w (MS A β h) x v)→
   es[k]? =some e→IM e off i.size=some src→Ev i.agg src=some r→ ∃v,(loadVar t ⟨kb.b,k*kb.sz+off,none⟩).run P w=.ok v w∧VR β w (MS A β h) r v:=by
   intro c elem fr sz es e src h1 h2 h3 h4 h5 h6 h7 h8;obtain⟨s1,s2,s3⟩:=G3 h7;have hel:e.length=sz:=h3 e (Ap h6);have hklt:k<es.length:=(BE.1 h6).1;have hks:k*sz+sz≤es.length*sz:=by
    have:=Gt sz hklt;rw[RG]at this;exact this
   refine MI ht h1 s2 (by rw[←h2];omega) (fun j x v hj hv=>?_) h8;have hj':j<i.size:=by rw[←s2];exact(BE.1 hj).1
   rw[s3 j hj',←Gq h3 h6 (by omega)]at hj;refine h5 _ x v hj ?_;rw[←hv,←h2];congr 1;omega
  simp only[H4]at hr;obtain⟨k',hk',hob⟩: ∃k',β id=some k'∧ ∀o,h.get id=some o→KQ β w (MS A β h) k' o:=by
   cases hg:h.get id with
   |none=>simp[hg]at hr
   |some o=>
    obtain⟨k',h1,h2⟩:=H.obj id o hg;exact⟨k',h1,fun o' ho=>by cases ho;exact h2⟩
  rw[hk]at hk';cases hk';have dmain: ∀{c:Array Value} {elem:TypeId} {fr:Nat×Nat} {sz:Nat} {es:List (List AU)} {e src:List AU},w.heap[kb.b]? =some (.cells c elem fr)→sz=kb.sz→
     (∀e∈es,e.length=sz)→es.length*sz≤c.size→(∀(i:Nat) (x:AU) (v:Value),es.flatten[i]? =some x→c[i]? =some v→DR w (MS A β h) x v)→
     es[k]? =some e→IM e off i.size=some src→Ev i.agg (src.map .d)=some r→ ∃v,(loadVar t ⟨kb.b,k*kb.sz+off,none⟩).run P w=.ok v w∧VR β w (MS A β h) r v:=by
   intro c elem fr sz es e src h1 h2 h3 h4 h5 h6 h7 h8;refine main (es:=es.map (·.map .d)) (e:=e.map .d) (src:=src.map .d) h1 h2 ?_ (by simpa using h4) ?_ (by simp[h6]) ?_ h8
   .intro e he;obtain⟨e',he',rfl⟩:=ID.1 he;simpa using h3 e' he'
   .intro i x v hx hv;rw[←RO,D5,BI]at hx;obtain⟨y,hy,rfl⟩:=hx;exact .d (h5 i y v hy hv)
   .rw[vN,h7];rfl
  suffices hs: ∃v,(loadVar t ⟨kb.b,k*kb.sz+off,none⟩).run P w=.ok v w∧VR β w (MS A β h) r v by
   obtain⟨v,hv⟩:=hs;exact⟨_,v,rfl,hv⟩
  split at hr
  .rename_i sz es hg;obtain⟨c,elem,h1,h2,h3,h4,h5,h6,h7⟩:=hob _ hg;cases hek:es[k]? with
   |none=>simp[hek]at hr
   |some e=>
    simp only[hek,HM]at hr;obtain⟨l,hl,hr⟩:=hr;exact dmain h1 h2 h5 h6 h7 hek hl hr
  .rename_i sz es hg;cases hek:es[k]? with
   |none=>simp[hek]at hr
   |some e=>
    simp only[hek,HM]at hr;obtain⟨l,hl,hr⟩:=hr;rcases hob _ hg with rfl|⟨_,c,elem,fr,h1,h2,h3,h4,h5,h6,h7⟩
    .simp at hek
    .exact dmain h1 h2 h5 h6 h7 hek hl hr
  .rename_i sz es hg;obtain⟨c,elem,h1,h2,h3,h4,h5,h6,h7⟩:=hob _ hg;cases hek:es[k]? with
   |none=>simp[hek]at hr
   |some e=>
    simp only[hek,HM]at hr;obtain⟨l,hl,hr⟩:=hr;exact main h1 h2 h5 h6 h7 hek hl hr
  .cases hr
 |kw cs b off c elem fr h1 h2 h3 h4=>
  simp only[H4]at hr;cases hs:IM cs 0 i.size with
  |none=>simp[hs]at hr
  |some l=>
   simp only[hs,IP]at hr;obtain⟨s1,s2,s3⟩:=G3 hs;obtain⟨v,hv,hr'⟩:=MI ht (off:=off) (M:=MS A β h) (β:=β) h1 (src:=l.map .d) (by simpa using s2) (by omega) (fun j x v hj hv=>by
    simp only[D5,BI]at hj;obtain⟨y,hy,rfl⟩:=hj;have hj':j<i.size:=by rw[←s2];exact(BE.1 hy).1
    rw[s3 j hj',I9]at hy;exact .d (h4 _ y v hy hv)) hr
   exact⟨_,v,rfl,hv,hr'⟩
 |_=>simp[H4]at hr
theorem sw(H:HR A β w h){a:AV}(ha:VR β w (MS A β h) a va)(he:J8 h.get a (Bc P mix t)=some eff):
 DE A ρ β w h ((do pure (.value (←Instr.loadAt t va)):Sem Next).run P w) eff:=by
 cases ht:Bc P mix t with
 |none=>simp[J8,ht]at he
 |some i=>
  simp only[J8,ht,BI]at he;obtain⟨r,hr,rfl⟩:=he;obtain⟨ad,v,rfl,h1,h2⟩:=Wx H ht ha hr;exact .plain H (by simp[Instr.loadAt,Instr.sureAddr,h1]) rfl h2
def E1(c:Array Value)(off:Nat)(vs:List Value):Array Value:=(c.toList.take off++vs++c.toList.drop (off+vs.length)).toArray
variable{vs:List Value}
theorem EI(h:off+vs.length≤c.size):(E1 c off vs).size=c.size:=by
 simp[E1];omega
theorem EF(h:off+vs.length≤c.size)(i:Nat):
 (E1 c off vs)[i]? =if i<off then c[i]? else if i<off+vs.length then vs[i-off]? else c[i]? :=by
 simp only[E1,NL];have hl:(c.toList.take off).length=off:=by simp;omega
 split
 .rw[ES,Bv (by omega),I7,D7 (by assumption)];simp
 .split
  .rw[ES,CS (by omega),hl,Bv (by omega)]
  .rw[CS (by simp only[D9,hl];omega),IT];simp only[D9,hl,HU];congr 1;omega
variable{new:List α}
theorem DS(h:B9 l off new=some r):off+new.length≤l.length∧r.length=l.length∧
 ∀i,r[i]? =if i<off then l[i]? else if i<off+new.length then new[i-off]? else l[i]? :=by
 unfold B9 at h;split at h
 .rename_i hl;cases h;refine⟨hl,by simp;omega,fun i=>?_⟩;have hl':(l.take off).length=off:=by simp;omega
  split
  .rw[ES,Bv (by omega),I7,D7 (by assumption)]
  .split
   .rw[ES,CS (by omega),hl',Bv (by omega)]
   .rw[CS (by simp only[D9,hl'];omega),IT];simp only[D9,hl'];congr 1;omega
 .cases h
theorem K4{b off:Nat}{c:Array Value}{elem:TypeId}{fr:Nat×Nat}(hb:w.heap[b]? =some (.cells c elem fr))(v:Value):
 w.setCell ⟨b,off,none⟩ v=World.f9 w b (.cells (c.setIfInBounds off v) elem fr):=by
 unfold World.setCell World.f9;congr 1;apply OF;intro i;rw[Array.getElem?_modify];by_cases e:b=i
 .subst e;have hv:w.heap[b]'(AL hb)=.cells c elem fr:=(HW.1 hb).2;simp[AL hb,hv]
 .simp[e]
theorem vT(b:Nat)(x y:Go.Obj):World.f9 (World.f9 w b x) b y=World.f9 w b y:=by
 simp[World.f9]
theorem qW{b:Nat}{x:Go.Obj}(h:w.heap[b]? =some x):World.f9 w b x=w:=by
 unfold World.f9;have:w.heap.setIfInBounds b x=w.heap:=by
  apply OF;intro i;rw[Is];split
  .rename_i e;subst e;split
   .exact h.symm
   .rename_i hn;exact absurd (AL h) hn
  .rfl
 rw[this]
theorem Gg{b:Nat}{elem:TypeId}: ∀(vs:List Value) (off:Nat) (w:World) (c:Array Value) (j:Nat),w.heap[b]? =some (.cells c elem (0,0))→off+j+vs.length≤c.size→
 (∀v∈vs,v.oneCell'=true)→(storeCells ⟨b,off,none⟩ vs j).run P w=.ok () (World.f9 w b (.cells (E1 c (off+j) vs) elem (0,0)))
 |[],off,w,c,j,hb,hl,_=>by
  have ho:E1 c (off+j) []=c:=by simp[E1]
  simp only[storeCells,ho,qW hb];rfl
 |v::vs,off,w,c,j,hb,hl,h1=>by
  simp only[Gc]at hl;have hc:(w.cell? ⟨b,off+j,none⟩)=some (c[off+j]'(by omega)):=by rw[LJ hb];simp
  have hfz:w.frozen? ⟨b,off+j,none⟩=false:=by simp[World.frozen?,hb]
  have hst:(store ((⟨b,off,none⟩:Addr).add j) v).run P w=.ok () (World.f9 w b (.cells (c.setIfInBounds (off+j) v) elem (0,0))):=by
   rw[DK,run_store _ _ _ _ _ (h1 v (by simp)),hc];simp[hfz,K4 hb]
  have hb':(World.f9 w b (.cells (c.setIfInBounds (off+j) v) elem (0,0))).heap[b]? =some (.cells (c.setIfInBounds (off+j) v) elem (0,0)):=Gh _ (AL hb);have ih:=Gg vs off _ (c.setIfInBounds (off+j) v) (j+1) hb' (by simp;omega) (fun v hv=>h1 v (by simp[hv]));simp only[storeCells,Sem.run_bind,hst,Result.andThen_ok,ih,vT];congr 3;apply OF;intro i;rw[EF (c:=c.setIfInBounds (off+j) v) (off:=off+(j+1)) (vs:=vs) (by simp only[QR];omega) i,
   EF (c:=c) (off:=off+j) (vs:=v::vs) (by simp only[Gc];omega) i]
  simp only[Gc,Is];by_cases h2:i<off+j
  .have a1:i<off+(j+1):=by omega
   have a2: ¬off+j=i:=by omega
   simp only[h2,a1,a2,F3,D8]
  .by_cases h3:i=off+j
   .subst h3;have a1:off+j<off+(j+1):=by omega
    have a2:off+j<off+j+(vs.length+1):=by omega
    have a3:off+j<c.size:=by omega
    simp[a1,a2,a3]
   .have a1: ¬i<off+(j+1):=by omega
    have a2: ¬off+j=i:=by omega
    have a3:i-(off+j)=(i-(off+(j+1)))+1:=by omega
    have a4:(i<off+(j+1)+vs.length)↔(i<off+j+(vs.length+1)):=by omega
    simp only[h2,a1,a2,D8,a3,GC,a4]
theorem VR.cellsOk{x:AV}{v:Value}(h:VR β w M x v)(hc:x.cells.all AV.isCell=true):FK β w M x.cells v.cells∧ ∀u∈v.cells,u.oneCell'=true:=by
 have one: ∀{x:AV} {v:Value},VR β w M x v→x.isCell=true→v.oneCell'=true:=by
  intro x v h hc;cases h with
  |d h=>cases h<;>rfl
  |agg cs c h1 h2=>simp[AV.isCell]at hc
  |f8 cs c h1 h2=>simp[AV.isCell]at hc
  |undef v=>simp[AV.isCell]at hc
  |_=>rfl
 by_cases ha: ∃cs,x=.agg cs
 .obtain⟨cs,rfl⟩:=ha;cases h with
  |agg cs c h1 h2=>
   refine⟨⟨h1,h2⟩,fun u hu=>?_⟩;obtain⟨i,hi,rfl⟩:=Array.mem_iff_getElem.1 hu;simp only[AV.cells,CO]at hc;have hi':i<cs.length:=by rw[h1];exact hi
   exact one (h2 i (cs[i]'hi') (c[i]'hi) (BY hi') (Dl hi)) (hc _ (Lt hi'))
 .have hx:x.cells=[x]:=by cases x<;>first|rfl|exact absurd ⟨_,rfl⟩ ha
  rw[hx]at hc⊢;simp only[D0,Ol,MK]at hc;have h1:=one h hc;have hv:v.cells= #[v]:=by cases v<;>first|rfl|simp[Value.oneCell']at h1
  rw[hv];refine⟨⟨rfl,fun i y u hy hu=>?_⟩,fun u hu=>by simp at hu;subst hu;exact h1⟩;cases i with
  |zero=>simp at hy hu;subst hy;subst hu;exact h
  |succ i=>simp at hy
def Uj(h h':AB):Prop:= ∀id o,h'.get id=some o→o.mut=true→ ∃o',h.get id=some o'∧o'.mut=true
def FI(h':AB)(id:Id):Prop:= ∀o,h'.get id=some o→o.mut=false
theorem Uj.refl(h:AB):Uj h h:=fun _ o h1 h2=>⟨o,h1,h2⟩
variable{h':AB}
theorem Uj.ms(hs:Uj h h')(hb:MS A β h' b):MS A β h b:=by
 rcases hb with hb|⟨id,o,k,h1,h2,h3,h4⟩
 .exact .inl hb
 .obtain⟨o',h5,h6⟩:=hs id o h1 h2;exact .inr ⟨id,o',k,h5,h6,h3,h4⟩
theorem Uj.ge(hs:Uj h h'):DU A (MS A β h) w (MS A β h') w:=⟨fun _ _ _=>rfl,El _,fun _ hb=>.inl (hs.ms hb),rfl,rfl⟩
theorem Uj.nil(h:AB):Uj h []:=fun _ _ h1 _=>by simp at h1
theorem FI.nil(id:Id):FI [] id:=fun _ h=>by simp at h
theorem FI.notMS{h h':AB}(H:HR A β w h)(hs:Uj h h'){id:Id}{k:PJ}(hf:FI h' id)(hk:β id=some k){o:Obj}(ho:h.get id=some o)
 (hm:o.mut=true∨ ¬MS A β h k.b): ¬MS A β h' k.b:=by
 intro hb;rcases hm with hm|hm
 .rcases hb with hA|⟨id2,o2,k2,h1,h2,h3,h4⟩
  .exact H.out id o k ho hm hk hA
  obtain⟨o3,h5,h6⟩:=hs id2 o2 h1 h2;have:=H.inj id id2 o o3 k k2 ho h5 hm h6 hk h3 h4.symm;subst this;rw[hf o2 h1]at h2;cases h2
 .exact hm (hs.ms hb)
theorem QI{es l:List (List α)}{sz:Nat}(he: ∀e∈es,e.length=sz)(hs:IM es off n=some l):
 (∀e∈l,e.length=sz)∧ ∀i,i<n*sz→l.flatten[i]? =es.flatten[off*sz+i]? :=by
 obtain⟨s1,s2,s3⟩:=G3 hs;have hl: ∀e∈l,e.length=sz:=by
  intro e hel;obtain⟨i,hi,rfl⟩:=Pl.1 hel;have:=s3 i (by omega);rw[BY hi]at this;exact he _ (Ap this.symm)
 refine⟨hl,fun i hi=>?_⟩;have hpos:0<sz:=Nat.pos_of_mul_pos_left (Nat.lt_of_le_of_lt (I4 _) hi);have h1:i/sz<n:=Nat.div_lt_of_lt_mul (by rw[Pu];exact hi);have h2:i % sz<sz:=Nat.mod_lt _ hpos;have h3:i=i/sz*sz+i % sz:=by rw[Pu];exact(Nat.div_add_mod i sz).symm
 have h4:l[i/sz]? =es[off+i/sz]? :=s3 _ h1;have hlt:i/sz<l.length:=by omega
 rw[h3,Gq hl (BY hlt) h2];have h5:es[off+i/sz]? =some l[i/sz]:=by rw[←h4];exact BY hlt
 have:=Gq he h5 h2;rw[←this];congr 1;rw[IN];omega
theorem OV{es l:List (List AU)}{sz off n:Nat}{c:Array Value}{elem:TypeId}{fr:Nat×Nat}{b cap:Nat}{a:Option Addr}{M':Nat→Prop}
 (hb:w.heap[b]? =some (.cells c elem fr)) (hm: ¬M' b) (he: ∀e∈es,e.length=sz) (hl:es.length*sz≤c.size)
 (hd: ∀(i:Nat) (x:AU) (v:Value),es.flatten[i]? =some x→c[i]? =some v→DR w M' x v) (hs:IM es off n=some l) (ha:a=some ⟨b,off*sz,none⟩∨n=0) (hcap:n≤cap):
 DR w M' (.be l) (.slice a n cap):=by
 obtain⟨s1,s2,_⟩:=G3 hs;obtain⟨f1,f2⟩:=QI he hs;by_cases hn:n=0
 .subst hn;have:l=[]:=I6.1 s2;subst this;exact .rg a cap
 .rcases ha with rfl|ha
  .subst s2;have hle:off*sz+l.length*sz≤c.size:=by
    have:=Gt sz s1;rw[IN]at this;omega
   refine .be l b (off*sz) cap sz c elem fr hb hm f1 hle (fun i x v hx hv=>?_) hcap;have hi:i<l.length*sz:=by rw[←Cg f1];exact(BE.1 hx).1
   rw[f2 i hi]at hx;exact hd _ x v hx hv
  .exact absurd ha hn
def E0:AV→List Id
 |.d8 id _ _=>[id]
 |_=>[]
theorem LR{h h':AB}(H:HR A β w h)(hs:Uj h h'){v:AV}{u:Value}{x:AU}(hv:VR β w (MS A β h) v u)(hx:EW h.get v=some x)(hf: ∀id∈E0 v,FI h' id):
 DR w (MS A β h') x u:=by
 cases hv with
 |d hd=>simp only[EW,CI]at hx;subst hx;exact hd.mono hs.ge
 |ci=>simp only[EW,CI]at hx;subst hx;exact .rg _ _
 |emp a=>simp only[EW,CI]at hx;subst hx;exact .rg _ _
 |d8 id off len k a cap hk hn hl ha=>
  have hfz:=hf id (by simp[E0]);have ha':a=some ⟨k.b,off*k.sz,none⟩∨len=0:=ha.imp (fun h=>h) (fun h=>by omega);simp only[EW]at hx;split at hx
  .rename_i sz es hg;obtain⟨k',hk',c,elem,h1,h2,h3,h4,h5,h6,h7⟩:=H.obj id _ hg;rw[hk]at hk';cases hk';simp only[BI]at hx;obtain⟨l,hl',rfl⟩:=hx;subst h2;exact OV h1 (hfz.notMS H hs hk hg (.inl rfl)) h5 h6 (fun i x v a b=>(h7 i x v a b).mono hs.ge) hl' ha' hl
  .rename_i sz es hg;obtain⟨k',hk',ho⟩:=H.obj id _ hg;rw[hk]at hk';cases hk';simp only[BI]at hx;obtain⟨l,hl',rfl⟩:=hx;rcases ho with rfl|⟨hm,c,elem,fr,h1,h2,h3,h4,h5,h6,h7⟩
   .obtain⟨s1,s2,_⟩:=G3 hl';simp only[Io]at s1;have:len=0:=by omega
    subst this;have:l=[]:=I6.1 s2;subst this;exact .rg _ _
   .subst h2;exact OV h1 (hfz.notMS H hs hk hg (.inr hm)) h5 h6 (fun i x v a b=>(h7 i x v a b).mono hs.ge) hl' ha' hl
  .cases hx
 |_=>simp[EW]at hx
def DRs(w:World)(M:Nat→Prop)(ds:List AU)(c:Array Value):Prop:=ds.length=c.size∧ ∀(i:Nat) (x:AU) (v:Value),ds[i]? =some x→c[i]? =some v→DR w M x v
theorem DZ{g:G}: ∀{vs:List AV} {xs:List AU},Ch g vs=some xs→xs.length=vs.length∧ ∀(i:Nat) (v:AV) (x:AU),vs[i]? =some v→xs[i]? =some x→EW g v=some x
 |[],xs,h=>by simp[Ch]at h;subst h;simp
 |v::vs,xs,h=>by
  simp only[Ch]at h;split at h
  .rename_i x xs' h1 h2;cases h;obtain⟨i1,i2⟩:=DZ h2;refine⟨by simp[i1],fun i v' x' hv hx=>?_⟩;cases i with
   |zero=>simp at hv hx;subst hv;subst hx;exact h1
   |succ i=>simp at hv hx;exact i2 i v' x' hv hx
  .cases h
theorem GH{g:G}: ∀{vs:List (List AV)} {xs:List (List AU)},Cd g vs=some xs→xs.length=vs.length∧ ∀(i:Nat) (v:List AV) (x:List AU),vs[i]? =some v→xs[i]? =some x→Ch g v=some x
 |[],xs,h=>by simp[Cd]at h;subst h;simp
 |v::vs,xs,h=>by
  simp only[Cd]at h;split at h
  .rename_i x xs' h1 h2;cases h;obtain⟨i1,i2⟩:=GH h2;refine⟨by simp[i1],fun i v' x' hv hx=>?_⟩;cases i with
   |zero=>simp at hv hx;subst hv;subst hx;exact h1
   |succ i=>simp at hv hx;exact i2 i v' x' hv hx
  .cases h
theorem NA{g:G}: ∀{a b:List AV} {x y:List AU},Ch g a=some x→Ch g b=some y→Ch g (a++b)=some (x++y)
 |[],b,x,y,h1,h2=>by simp[Ch]at h1;subst h1;simpa using h2
 |v::a,b,x,y,h1,h2=>by
  simp only[Ch]at h1;split at h1
  .rename_i z zs h3 h4;cases h1;simp[Ch,h3,NA h4 h2]
  .cases h1
theorem Dx{g:G}: ∀{vs:List (List AV)} {xs:List (List AU)},Cd g vs=some xs→Ch g vs.flatten=some xs.flatten
 |[],xs,h=>by simp[Cd]at h;subst h;rfl
 |v::vs,xs,h=>by
  simp only[Cd]at h;split at h
  .rename_i x xs' h1 h2;cases h;exact NA h1 (Dx h2)
  .cases h
theorem Jx{g:G}{vs:List (List AV)}{xs:List (List AU)}(h:Cd g vs=some xs){sz:Nat}(he: ∀e∈vs,e.length=sz): ∀e∈xs,e.length=sz:=by
 obtain⟨h1,h2⟩:=GH h;intro e hx;obtain⟨i,hi,rfl⟩:=Pl.1 hx;have hi':i<vs.length:=by omega
 have:=h2 i _ _ (BY hi') (BY hi);rw[(DZ this).1];exact he _ (Lt hi')
structure yv(h h':AB):Prop where
 each: ∀id,h'.get id=h.get id∨(∃sz es,h.get id=some (.d6 sz es)∧h'.get id=some (.it sz es))∨
  ∃sz es ds,h.get id=some (.arr sz es)∧h'.get id=some (.it sz ds)∧Cd h.get es=some ds∧ ∀v∈es.flatten,∀id'∈E0 v,FI h' id'
theorem yv.sub(hf:yv h h'):Uj h h':=by
 intro id o ho hm;rcases hf.each id with e|⟨sz,es,h1,h2⟩|⟨sz,es,ds,h1,h2,_⟩
 .exact⟨o,e▸ho,hm⟩
 .rw[ho]at h2;cases h2;cases hm
 .rw[ho]at h2;cases h2;cases hm
theorem yv.hr(hf:yv h h')(H:HR A β w h):HR A β w h':=by
 refine H.step (.refl β) hf.sub.ge ?_ ?_ H.ut ?_
 .intro id o ho;rcases hf.each id with e|⟨sz,es,h1,h2⟩|⟨sz,es,ds,h1,h2,h3,h4⟩
  .exact .inl ⟨e▸ho,fun _ _=>rfl⟩
  .rw[ho]at h2;cases h2;obtain⟨k,hk,c,elem,g1,g2,g3,g4,g5,g6,g7⟩:=H.obj id _ h1;have hfz:FI h' id:=fun o' ho'=>by rw[ho]at ho';cases ho';rfl
   exact .inr ⟨k,hk,.inr ⟨hfz.notMS H hf.sub hk h1 (.inl rfl),c,elem,_,g1,g2,g3,g4,g5,g6,fun i x v a b=>(g7 i x v a b).mono hf.sub.ge⟩⟩
  .rw[ho]at h2;cases h2;obtain⟨k,hk,c,elem,g1,g2,g3,g4,g5,g6,g7⟩:=H.obj id _ h1;have hfz:FI h' id:=fun o' ho'=>by rw[ho]at ho';cases ho';rfl
   refine .inr ⟨k,hk,.inr ⟨hfz.notMS H hf.sub hk h1 (.inl rfl),c,elem,_,g1,g2,g3,g4,Jx h3 g5,by rw[(GH h3).1];exact g6,fun i x v a b=>?_⟩⟩;obtain⟨q1,q2⟩:=DZ (Dx h3);have hi:i<es.flatten.length:=by rw[←q1];exact(BE.1 a).1
   exact LR H hf.sub (g7 i _ v (BY hi) b) (q2 i _ x (BY hi) a) (h4 _ (Lt hi))
 .intro a b oa ob ka kb ha hb hma hmb hka hkb e;obtain⟨oa',h1,h2⟩:=hf.sub a oa ha hma;obtain⟨ob',h3,h4⟩:=hf.sub b ob hb hmb;exact H.inj a b oa' ob' ka kb h1 h3 h2 h4 hka hkb e
 .intro a oa ka ha hma hka;obtain⟨oa',h1,h2⟩:=hf.sub a oa ha hma;exact H.out a oa' ka h1 h2 hka
theorem Gz(δ:AB): ∀(h:AB) (id:Id),((h.puts δ).get id=h.get id∧ ∀p∈δ,p.1≠id)∨ ∃p∈δ,p.1=id∧(h.puts δ).get id=some p.2:=by
 induction δ with
 |nil=>intro h id;exact .inl ⟨rfl,by simp⟩
 |cons q δ ih=>
  intro h id;rw[AB.puts_cons];rcases ih (h.put q.1 q.2) id with⟨h1,h2⟩|⟨p,h1,h2,h3⟩
  .rw[AB.get_put]at h1;by_cases e:q.1=id
   .rw[D7 e]at h1;exact .inr ⟨q,by simp,e,h1⟩
   .rw[D3 e]at h1;refine .inl ⟨h1,fun p hp=>?_⟩;rcases DL.1 hp with rfl|hp
    .exact e
    .exact h2 p hp
  .exact .inr ⟨p,by simp[h1],h2,h3⟩
theorem H5{g:G}{vs:List AV}{p:Id×Obj}(h:p∈Bb g vs): ∃sz es,p.2=.it sz es∧g p.1=some (.d6 sz es):=by
 obtain⟨v,_,hp⟩:=By.1 h;cases v with
 |d8 id off n=>
  simp only[Ie]at hp;split at hp
  .rename_i sz es hg;simp at hp;subst hp;exact⟨sz,es,rfl,hg⟩
  .simp at hp
 |_=>simp[Ie]at hp
theorem ML{h:AB}{δ:AB}(hδ: ∀p∈δ,∃sz es,p.2=.it sz es∧h.get p.1=some (.d6 sz es)):yv h (h.puts δ):=by
 refine⟨fun id=>?_⟩;rcases Gz δ h id with⟨h1,_⟩|⟨p,h1,h2,h3⟩
 .exact .inl h1
 .obtain⟨sz,es,h4,h5⟩:=hδ p h1;subst h2;exact .inr (.inl ⟨sz,es,h5,by rw[h3,h4]⟩)
theorem JA{h:AB}{vs:List AV}{δ:AB}(hδ: ∀p∈δ,∃sz es,p.2=.it sz es∧h.get p.1=some (.d6 sz es))(hsub: ∀p∈Bb h.get vs,p∈δ){xs:List AU}(hx:Ch h.get vs=some xs):
 ∀v∈vs,∀id∈E0 v,FI (h.puts δ) id:=by
 intro v hv id hid o ho;cases v with
 |d8 id' off n=>
  simp only[E0,Ac]at hid;subst hid;obtain⟨i,hi,hvi⟩:=Pl.1 hv;obtain⟨q1,q2⟩:=DZ hx;have hfc:=q2 i _ (xs[i]'(by omega)) (BY hi) (BY (by omega));rw[hvi]at hfc;rcases Gz δ h id with⟨h1,h2⟩|⟨p,h1,h2,h3⟩
  .simp only[EW]at hfc;split at hfc
   .rename_i sz es hg;exact absurd rfl (h2 (id,.it sz es) (hsub _ (By.2 ⟨_,hv,by simp[Ie,hg]⟩)))
   .rename_i sz es hg;rw[h1,hg]at ho;cases ho;rfl
   .cases hfc
  .obtain⟨sz,es,h4,h5⟩:=hδ p h1;rw[h3,h4]at ho;cases ho;rfl
 |_=>simp[E0]at hid
theorem WB(H:HR A β w h)(hs:Uj h h'){vs:List AV}{xs:List AU}(hv:FK β w (MS A β h) vs c)(hx:Ch h.get vs=some xs)
 (hf: ∀v∈vs,∀id∈E0 v,FI h' id):DRs w (MS A β h') xs c:=by
 obtain⟨q1,q2⟩:=DZ hx;refine⟨by rw[q1];exact hv.1,fun i x v a b=>?_⟩;have hi:i<vs.length:=by rw[←q1];exact(BE.1 a).1
 exact LR H hs (hv.2 i _ v (BY hi) b) (q2 i _ x (BY hi) a) (hf _ (Lt hi))
variable{A:Nat→Prop}{P:Program}{mix:List TypeId}{β:Aj}{w:World}{M:Nat→Prop}
variable{w':World}
theorem DE.skip{r:Result Next}(hr:r=.ok .skip w')(hv:eff.v=.undef)
 (H:HR A β w' (h.puts eff.δ)) (hp:DU A (MS A β h) w (MS A β (h.puts eff.δ)) w') (hc: ∀b,b<w.heap.size→(∀p∈eff.δ,∀k,β p.1=some k→k.b≠b)→w'.heap[b]? =w.heap[b]?):DE A ρ β w h r eff:=
 ⟨_,Go.undef,w',β,hr,.inr ⟨rfl,rfl⟩,.refl β,fun _ h=>.inl h,H,hp,by rw[hv];exact .undef _,hc,fun _ _ h=>.inl h⟩
variable{δ:AB}
theorem Jo{id:Id}{o:Obj}{k:PJ}(x:Go.Obj)(hm:(id,o)∈δ)(hk:β id=some k):
 ∀b,b<w.heap.size→(∀p∈δ,∀k,β p.1=some k→k.b≠b)→(World.f9 w k.b x).heap[b]? =w.heap[b]? :=
 fun _ _ h=>EC x (Ne.symm (h _ hm k hk))
variable{cs:List AV}
theorem Pn{β:Aj}{w:World}{M:Nat→Prop}{new cs':List AV}(h:FK β w M cs c)(hn:FK β w M new vs.toArray)(hs:B9 cs off new=some cs'):
 FK β w M cs' (E1 c off vs):=by
 obtain⟨s1,s2,s3⟩:=DS hs;obtain⟨h1,h2⟩:=h;obtain⟨n1,n2⟩:=hn;simp only[PM]at n1;have hl:off+vs.length≤c.size:=by omega
 refine⟨by rw[EI hl,s2,h1],fun i x v hx hv=>?_⟩;rw[s3 i]at hx;rw[EF hl i]at hv;by_cases a1:i<off
 .simp only[a1,F3]at hx hv;exact h2 i x v hx hv
 .by_cases a2:i<off+new.length
  .have a3:i<off+vs.length:=by omega
   simp only[a1,a2,a3,F3,D8]at hx hv;exact n2 _ x v hx (by simpa using hv)
  .have a3: ¬i<off+vs.length:=by omega
   simp only[a1,a2,a3,D8]at hx hv;exact h2 i x v hx hv
theorem K7{info:TypeInfo}(hi:P.info? t=some info)(hb:w.heap[b]? =some (.cells c elem (0,0)))
 (hs:v.cells.size=info.size) (hl:off+v.cells.size≤c.size) (h1: ∀u∈v.cells,u.oneCell'=true):
 (storeVar t ⟨b,off,none⟩ v).run P w=.ok () (World.f9 w b (.cells (E1 c off v.cells.toList) elem (0,0))):=by
 have:=Gg (P:=P) v.cells.toList off w c 0 hb (by simpa using hl) (fun u hu=>h1 u (by simpa using hu));simp only[Nat.add_zero]at this;simp[storeVar,Bk hi,hs,this]
variable{k:Nat}{e':List α}
theorem QJ{es:List (List α)}{sz:Nat}{e:List α}(he: ∀e∈es,e.length=sz)(hk:es[k]? =some e)(he':e'.length=sz)(i:Nat):
 (es.set k e').flatten[i]? =if i<k*sz then es.flatten[i]? else if i<k*sz+sz then e'[i-k*sz]? else es.flatten[i]? :=by
 induction es generalizing k i with
 |nil=>simp at hk
 |cons x es ih=>
  have hx:x.length=sz:=he x (by simp);cases k with
  |zero=>
   simp only[List.set_cons_zero,MP,Nat.zero_mul,I9,Nat.not_lt_zero,D8,Nat.sub_zero];split
   .rw[Bv (by omega)]
   .rw[CS (by omega),CS (by omega),hx,he']
  |succ k=>
   simp at hk;have:=ih (fun e h=>he e (by simp[h])) hk (i-sz);simp only[List.set_cons_succ,MP];by_cases a:i<sz
   .rw[Bv (by omega),Bv (by omega),D7 (by rw[IN];omega)]
   .rw[CS (by omega),CS (by omega),hx,this];have e1:(i-sz<k*sz)↔(i<(k+1)*sz):=by rw[IN];omega
    have e2:(i-sz<k*sz+sz)↔(i<(k+1)*sz+sz):=by rw[IN];omega
    have e3:i-sz-k*sz=i-(k+1)*sz:=by rw[IN];omega
    simp only[e1,e2,e3]
theorem SG{R':α→Value→Prop}{es:List (List α)}{sz:Nat}{e:List α}(he: ∀e∈es,e.length=sz)(hk:es[k]? =some e)
 (hs:B9 e off new=some e') (hl:es.length*sz≤c.size) (hv: ∀(i:Nat) (x:α) (v:Value),es.flatten[i]? =some x→c[i]? =some v→R' x v)
 (hn:new.length=vs.length) (hnew: ∀(i:Nat) (x:α) (v:Value),new[i]? =some x→vs[i]? =some v→R' x v):
 k*sz+off+vs.length≤c.size∧(∀a∈es.set k e',a.length=sz)∧(es.set k e').length*sz≤(E1 c (k*sz+off) vs).size∧
  ∀(i:Nat) (x:α) (v:Value),(es.set k e').flatten[i]? =some x→(E1 c (k*sz+off) vs)[i]? =some v→R' x v:=by
 obtain⟨s1,s2,s3⟩:=DS hs;have hel:e.length=sz:=he e (Ap hk);have hklt:k<es.length:=(BE.1 hk).1;have hks:k*sz+sz≤es.length*sz:=by
  have:=Gt sz hklt;rw[RG]at this;exact this
 have hle:k*sz+off+vs.length≤c.size:=by omega
 refine⟨hle,?_,by rw[EI hle];simpa using hl,?_⟩
 .intro a ha;rcases List.mem_or_eq_of_mem_set ha with h|rfl
  .exact he a h
  .omega
 .intro i x v hx hv';rw[QJ he hk (by omega)]at hx;rw[EF hle]at hv';by_cases a1:i<k*sz
  .have a2:i<k*sz+off:=by omega
   simp only[a1,a2,F3]at hx hv';exact hv i x v hx hv'
  .by_cases a3:i<k*sz+sz
   .simp only[a1,a3,F3,D8]at hx;rw[s3]at hx;have hold:e[i-k*sz]? =some x→c[i]? =some v→R' x v:=by
     intro h1 h2;refine hv i x v ?_ h2;rw[←h1,←Gq he hk (show i-k*sz<sz by omega)];congr 1;omega
    by_cases a4:i-k*sz<off
    .have a5:i<k*sz+off:=by omega
     simp only[a4,a5,F3]at hx hv';exact hold hx hv'
    .by_cases a6:i-k*sz<off+new.length
     .have a5: ¬i<k*sz+off:=by omega
      have a7:i<k*sz+off+vs.length:=by omega
      simp only[a4,a5,a6,a7,F3,D8]at hx hv';refine hnew _ x v hx ?_;rw[←hv'];congr 1;omega
     .have a5: ¬i<k*sz+off:=by omega
      have a7: ¬i<k*sz+off+vs.length:=by omega
      simp only[a4,a5,a6,a7,D8]at hx hv';exact hold hx hv'
   .have a5: ¬i<k*sz+off:=by omega
    have a7: ¬i<k*sz+off+vs.length:=by omega
    simp only[a1,a3,a5,a7,D8]at hx hv';exact hv i x v hx hv'
theorem Qg{id:Id}(h:Kv id δ=true): ∀p∈δ,p.1≠id:=by
 intro p hp e;have:=CO.1 h p hp;rw[e]at this;simp at this
theorem JS{id:Id}(hn: ∀p∈δ,p.1≠id):(h.puts δ).get id=h.get id:=by
 rcases Gz δ h id with⟨h1,_⟩|⟨p,h1,h2,_⟩
 .exact h1
 .exact absurd h2 (hn p h1)
theorem qL{h:AB}(H:HR A β w h){ρ:List Nat}{t:TypeId}{a x:AV}{va vx:Value}(ha:VR β w (MS A β h) a va)(hx:VR β w (MS A β h) x vx){eff:Bw}
 (he:HT h.get a x (Bc P mix t)=some eff):DE A ρ β w h ((do Instr.storeAt t va vx;pure .skip:Sem Next).run P w) eff:=by
 cases ht:Bc P mix t with
 |none=>simp[HT,ht]at he
 |some i=>
  obtain⟨info,d,z,h1,h2,h3,h4,hi⟩:=Ar ht;have hsz:i.size=info.size:=by rw[hi]
  simp only[HT,ht,IG]at he;split at he
  .cases he
  .rename_i hcond;simp only[AS,beq_iff_eq]at hcond;obtain⟨hlen,hcell⟩:=hcond;obtain⟨⟨hv1,hv2⟩,hone⟩:=hx.cellsOk hcell;cases ha with
   |ptr id off k hk=>
    simp only at he;split at he
    .rename_i cs hg;obtain⟨k',hk',c,elem,g1,g2⟩:=H.obj id _ hg;rw[hk]at hk';cases hk';simp only[BI]at he;obtain⟨cs',hs,rfl⟩:=he;have hle:off+vx.cells.size≤c.size:=by rw[←hv1,←g2.1];exact(DS hs).1
     have hrun:=K7 (P:=P) h1 g1 (v:=vx) (by omega) hle hone;have hpr:=Fs H (o':=.box cs') hg rfl hk (.cells (E1 c off vx.cells.toList) elem (0,0));refine .skip (w':=World.f9 w k.b (.cells (E1 c off vx.cells.toList) elem (0,0))) (by simp[Instr.storeAt,Instr.sureAddr,hrun]) rfl ?_ hpr (Jo _ (Ac.2 rfl) hk);refine H.upd' hg rfl hk ⟨_,elem,Gh _ (AL g1),?_⟩;exact Pn (g2.mono (.refl β) hpr) ⟨by simpa using hv1,fun j y u hy hu=>(hv2 j y u hy (by simpa using hu)).mono (.refl β) hpr⟩ hs
    .cases he
   |ip id n off k hk=>
    simp only at he;split at he
    .rename_i sz es hg;obtain⟨k',hk',c,elem,g1,g2,g3,g4,g5,g6,g7⟩:=H.obj id _ hg;rw[hk]at hk';cases hk';subst g2;split at he
     .rename_i e ds hek hfr hni;simp only[BI]at he;obtain⟨e',hs,rfl⟩:=he;have hδ: ∀p∈Bb h.get x.cells,∃sz es,p.2=.it sz es∧h.get p.1=some (.d6 sz es):=fun p hp=>H5 hp;have hF:=ML hδ;have hfz:=JA hδ (fun p hp=>hp) hfr;have H1:=hF.hr H;have hg1:(h.puts (Bb h.get x.cells)).get id=some (.d6 k.sz es):=by rw[JS (Qg hni)];exact hg
      have hds:=WB H hF.sub ⟨hv1,hv2⟩ hfr hfz;have hpr:=Fs H1 (o':=.d6 k.sz (es.set n e')) hg1 rfl hk (.cells (E1 c (n*k.sz+off) vx.cells.toList) elem (0,0));obtain⟨q1,q2,q3,q4⟩:=SG (R':=DR (World.f9 w k.b (.cells (E1 c (n*k.sz+off) vx.cells.toList) elem (0,0))) (MS A β ((h.puts (Bb h.get x.cells)).put id (.d6 k.sz (es.set n e'))))) (vs:=vx.cells.toList) g5 hek hs g6
       (fun i x v a b=>(g7 i x v a b).mono (hF.sub.ge.trans hpr)) (by simpa using hds.1) (fun i y u hy hu=>(hds.2 i y u hy (by simpa using hu)).mono hpr)
      simp only[Md]at q1;have hrun:=K7 (P:=P) (off:=n*k.sz+off) h1 g1 (v:=vx) (by omega) q1 hone;refine .skip (w':=World.f9 w k.b (.cells (E1 c (n*k.sz+off) vx.cells.toList) elem (0,0))) (by simp[Instr.storeAt,Instr.sureAddr,hrun]) rfl ?_ ?_ (Jo _ (GO _ (Ac.2 rfl)) hk)
      .rw[AB.puts_append];refine H1.upd' hg1 rfl hk ⟨_,elem,Gh _ (AL g1),rfl,g3,?_,q2,q3,q4⟩;rw[EI (by simpa using q1)];exact g4
      .rw[AB.puts_append];exact hF.sub.ge.trans hpr
     .cases he
    .rename_i sz es hg;obtain⟨k',hk',c,elem,g1,g2,g3,g4,g5,g6,g7⟩:=H.obj id _ hg;rw[hk]at hk';cases hk';subst g2;split at he
     .rename_i e hek;simp only[BI]at he;obtain⟨e',hs,rfl⟩:=he;have hpr:=Fs H (o':=.arr k.sz (es.set n e')) hg rfl hk (.cells (E1 c (n*k.sz+off) vx.cells.toList) elem (0,0));obtain⟨q1,q2,q3,q4⟩:=SG (R':=VR β (World.f9 w k.b (.cells (E1 c (n*k.sz+off) vx.cells.toList) elem (0,0))) (MS A β (h.put id (.arr k.sz (es.set n e'))))) (vs:=vx.cells.toList) g5 hek hs g6
       (fun i x v a b=>(g7 i x v a b).mono (.refl β) hpr) (by simpa using hv1) (fun i y u hy hu=>(hv2 i y u hy (by simpa using hu)).mono (.refl β) hpr)
      simp only[Md]at q1;have hrun:=K7 (P:=P) (off:=n*k.sz+off) h1 g1 (v:=vx) (by omega) q1 hone;refine .skip (w':=World.f9 w k.b (.cells (E1 c (n*k.sz+off) vx.cells.toList) elem (0,0))) (by simp[Instr.storeAt,Instr.sureAddr,hrun]) rfl ?_ hpr (Jo _ (Ac.2 rfl) hk);refine H.upd' hg rfl hk ⟨_,elem,Gh _ (AL g1),rfl,g3,?_,q2,q3,q4⟩;rw[EI (by simpa using q1)];exact g4
     .cases he
    .cases he
   |_=>simp at he
theorem OI(e:w'.heap=w.heap)(eio:w'.os=w.os∧w'.output=w.output)(M:Nat→Prop):DU A M w M w':=⟨fun b _ _=>by rw[e],by rw[e];exact El _,fun _ h=>.inl h,eio⟩
theorem HR.heap(H:HR A β w h)(e:w'.heap=w.heap)(eio:w'.os=w.os∧w'.output=w.output):HR A β w' h:=
 H.step (.refl β) (OI e eio _) (fun _ _ ho=>.inl ⟨ho,fun _ _=>by rw[e]⟩) H.inj (fun id k hk=>by rw[e];exact H.ut id k hk) H.out
theorem Ep(a:Nat)(ρ:List Nat):ρ<:+a::ρ:=EM a ρ
theorem Qf{h h₁:AB}{w₁:World}(H₁:HR A β w h₁)(hs:Uj h h₁)(hw:w₁.heap=w.heap)(hio:w₁.os=w.os∧w₁.output=w.output){ρ:List Nat}(hf: ∀id,ρ<:+id→β id=none)(tag:Nat){x:Go.Obj}{o:Obj}{k:PJ}
 (hk:k.b=w.heap.size) {δ:AB} (hδ:h.puts δ=h₁.put (tag::ρ) o)
 (ho: ∀{M':Nat→Prop},Le β (β.put (tag::ρ) k)→DU A (MS A β h) w M' (World.add w₁ x)→DU A (MS A β h₁) w M' (World.add w₁ x)→KQ (β.put (tag::ρ) k) (World.add w₁ x) M' k o)
 {v:AV} {u:Value} (hv: ∀{M':Nat→Prop},VR (β.put (tag::ρ) k) (World.add w₁ x) M' v u):
 DE A ρ β w h (.ok (.value u) (World.add w₁ x)) ⟨v,δ⟩:=by
 have hid:β (tag::ρ)=none:=hf _ (Ep tag ρ);have H₂:=H₁.heap hw hio;have hk':k.b=w₁.heap.size:=by rw[hw];exact hk
 have hp:DU A (MS A β h₁) w (MS A (β.put (tag::ρ) k) (h₁.put (tag::ρ) o)) (World.add w₁ x):=(OI hw hio _).trans (Qs H₂ x hk');have hp':DU A (MS A β h) w (MS A (β.put (tag::ρ) k) (h₁.put (tag::ρ) o)) (World.add w₁ x):=hs.ge.trans hp;refine⟨_,u,_,β.put (tag::ρ) k,rfl,.inl rfl,MH hid,fun id hne=>?_,?_,?_,hv,fun b hb _=>by rw[HH w₁ x (by rw[hw];exact hb),hw],fun id k' hk2=>?_⟩
 .by_cases e:id=tag::ρ
  .subst e;exact .inr (Ep tag ρ)
  .rw[BX β k e]at hne;exact .inl hne
 .rw[hδ];exact H₂.add hid hk' (ho (MH hid) hp' hp)
 .rw[hδ];exact hp'
 .by_cases e:id=tag::ρ
  .subst e;simp at hk2;subst hk2;exact .inr (.inl (by omega))
  .rw[BX β k e]at hk2;exact .inl hk2
theorem ln(H:HR A β w h)(hf: ∀id,ρ<:+id→β id=none)(hc:FK β w (MS A β h) cs c)(elem:TypeId):
 DE A ρ β w h (.ok (.value (.pointer (some ⟨w.heap.size,0,none⟩))) (World.add w (.cells c elem))) ⟨.ptr (0::ρ) 0,[(0::ρ,.box cs)]⟩:=by
 refine Qf H (.refl h) rfl ⟨rfl,rfl⟩ hf 0 (k:=⟨w.heap.size,0,0⟩) rfl rfl ?_ ?_
 .intro M' hβ hp _;exact⟨c,elem,Jk w _,hc.mono hβ hp⟩
 .intro M';exact .ptr _ _ _ (E7 _ _ _)
variable{z:Value}
theorem vj(h1:(z.cells.toList.map Cw).all AV.isCell=true):FK β w M (z.cells.toList.map Cw) z.cells:=by
 refine⟨by simp,fun i x v hx hv=>?_⟩;simp only[D5,BI,HU]at hx;obtain⟨y,hy,rfl⟩:=hx;rw[hv]at hy;cases hy;exact Gm
theorem C6{i:TypeInfo}(h:P.info? t=some i)(hz:i.zero=some z):(zeroValue t).run P w=.ok z w:=by
 simp[zeroValue,typeInfo,h,hz]
theorem lP(H:HR A β w h)(hf: ∀id,ρ<:+id→β id=none)(he:Ih ρ (Bc P mix t)=some eff):
 DE A ρ β w h ((do pure (.value (←Instr.alloc t true (.tuple #[]))):Sem Next).run P w) eff:=by
 cases ht:Bc P mix t with
 |none=>simp[Ih,ht]at he
 |some i=>
  obtain⟨info,d,z,h1,h2,h3,h4,rfl⟩:=Ar ht;simp only[Ih,ht]at he;split at he
  .rename_i hc;cases he;have:=ln H hf (vj (β:=β) (w:=w) (M:=MS A β h) hc.2) t;have hr:((do pure (.value (←Instr.alloc t true (.tuple #[]))):Sem Next).run P w)=.ok (.value (.pointer (some ⟨w.heap.size,0,none⟩))) (World.add w (.cells z.cells t)):=by
    simp[Instr.alloc,C6 h1 h3,newVar,newRow,World.add]
   rw[hr];exact this
  .cases he
theorem db(H:HR A β w h)(hf: ∀id,ρ<:+id→β id=none){x:AV}{vx:Value}(hx:VR β w (MS A β h) x vx)
 (he:O1 ρ x (Bc P mix t)=some eff):DE A ρ β w h ((do pure (.value (←Instr.box t vx)):Sem Next).run P w) eff:=by
 cases ht:Bc P mix t with
 |none=>simp[O1,ht]at he
 |some i=>
  simp only[O1,ht]at he;split at he
  .rename_i hc;cases he;have:=ln H hf (hx.cellsOk hc.2).1 t;have hr:((do pure (.value (←Instr.box t vx)):Sem Next).run P w)=.ok (.value (.pointer (some ⟨w.heap.size,0,none⟩))) (World.add w (.cells vx.cells t)):=by
    simp[Instr.box,newVar,newRow,World.add]
   rw[hr];exact this
  .cases he
theorem OB(H:HR A β w h){w₁:World}(hw:w₁.heap=w.heap)(hio:w₁.os=w.os∧w₁.output=w.output)(hf: ∀id,ρ<:+id→β id=none){j:TI}{es:List (List AV)}{cap:Nat}
 (hsz:c.size=cap*j.size) (hle:es.length≤cap) (hv: ∀(i:Nat) (x:AV) (v:Value),es.flatten[i]? =some x→c[i]? =some v→VR β w (MS A β h) x v) 
 (he:newArr h.get ρ j es=some eff):
 DE A ρ β w h (.ok (.value (.slice (some ⟨w.heap.size,0,none⟩) es.length cap)) (World.add w₁ (.cells c elem))) eff:=by
 unfold newArr at he;split at he
 .cases he
 .rename_i hc;simp only[AS,CO,beq_iff_eq]at hc;obtain⟨⟨hall,hpos⟩,hmax⟩:=hc;have hpos:0<j.size:=by simpa[Nat.blt_eq]using hpos
  have hlen: ∀e∈es,e.length=j.size:=fun e h=>(hall e h).1;have hmul:es.length*j.size≤c.size:=by rw[hsz];exact Gt _ hle
  split at he
  .cases he;refine Qf H (.refl h) hw hio hf 1 (k:=⟨w.heap.size,j.size,c.size⟩) rfl rfl ?_ ?_
   .intro M' hβ hp _;exact⟨c,elem,by rw[←hw];exact Jk w₁ _,rfl,hpos,rfl,hlen,hmul,fun i x v a b=>(hv i x v a b).mono hβ hp⟩
   .intro M';exact .d8 _ _ _ _ _ _ (E7 _ _ _) (by simp[hsz]) hle (.inl (by simp))
  .split at he
   .rename_i ds hds;cases he;have hδ: ∀p∈es.flatMap (Bb h.get),∃sz es,p.2=.it sz es∧h.get p.1=some (.d6 sz es):=by
     intro p hp;obtain⟨e,_,hp⟩:=By.1 hp;exact H5 hp
    have hF:=ML hδ;have hfz:=JA (vs:=es.flatten) hδ (fun p hp=>by
     obtain⟨v,hv,hp⟩:=By.1 hp;obtain⟨e,he,hv⟩:=Ls.1 hv;exact By.2 ⟨e,he,By.2 ⟨v,hv,hp⟩⟩) (Dx hds)
    obtain⟨q1,q2⟩:=DZ (Dx hds);refine Qf (hF.hr H) hF.sub hw hio hf 1 (k:=⟨w.heap.size,j.size,c.size⟩) rfl (by rw[AB.puts_append];rfl) ?_ ?_
    .intro M' hβ hp hp1;refine⟨c,elem,by rw[←hw];exact Jk w₁ _,rfl,hpos,rfl,Jx hds hlen,by rw[(GH hds).1];exact hmul,fun i x v a b=>?_⟩;have hi:i<es.flatten.length:=by rw[←q1];exact(BE.1 a).1
     exact(LR H hF.sub (hv i _ v (BY hi) b) (q2 i _ x (BY hi) a) (hfz _ (Lt hi))).mono hp1
    .intro M';exact .d8 _ _ _ _ _ _ (E7 _ _ _) (by simp[hsz]) hle (.inl (by simp))
   .cases he
variable{A:Nat→Prop}{P:Program}{mix:List TypeId}{β:Aj}{w:World}{M:Nat→Prop}
theorem OH(x:Go.Obj)(M:Nat→Prop):DU A M w M (World.add w x):=⟨fun b hb _=>HH w x hb,by rw[Hp];omega,fun _ h=>.inl h,rfl,rfl⟩
theorem HR.add'(H:HR A β w h)(x:Go.Obj):HR A β (World.add w x) h:=
 H.step (.refl β) (OH x _) (fun _ _ ho=>.inl ⟨ho,fun k hk=>HH w x (H.ut _ k hk)⟩) H.inj (fun id k hk=>by rw[Hp];have:=H.ut id k hk;omega) H.out
theorem ZN(vs:List Value): ∀(c:Array Value) (off j:Nat),off+j+vs.length≤c.size→
 (vs.zipIdx j).foldl (fun cs (x:Value×Nat)=>cs.setIfInBounds (off+x.2) x.1) c=E1 c (off+j) vs:=by
 induction vs with
 |nil=>intro c off j _;simp[E1]
 |cons v vs ih=>
  intro c off j hl;simp only[Gc]at hl;rw[List.zipIdx_cons,MT,ih _ _ _ (by simp only[QR];omega)];apply OF;intro i;rw[EF (c:=c.setIfInBounds (off+j) v) (off:=off+(j+1)) (vs:=vs) (by simp only[QR];omega) i,
   EF (c:=c) (off:=off+j) (vs:=v::vs) (by simp only[Gc];omega) i]
  simp only[Gc,Is];by_cases h2:i<off+j
  .have a1:i<off+(j+1):=by omega
   have a2: ¬off+j=i:=by omega
   simp only[h2,a1,a2,F3,D8]
  .by_cases h3:i=off+j
   .subst h3;have a1:off+j<off+(j+1):=by omega
    have a2:off+j<off+j+(vs.length+1):=by omega
    have a3:off+j<c.size:=by omega
    simp[a1,a2,a3]
   .have a1: ¬i<off+(j+1):=by omega
    have a2: ¬off+j=i:=by omega
    have a3:i-(off+j)=(i-(off+(j+1)))+1:=by omega
    have a4:(i<off+(j+1)+vs.length)↔(i<off+j+(vs.length+1)):=by omega
    simp only[h2,a1,a2,D8,a3,GC,a4]
theorem PS{pl pl':Nat→Option (Nat×Nat)}(hpl: ∀i,pl i=pl' i): ∀(ps:List (Nat×AV)) (qs:List (Nat×Value)) (cs cs':List AV) (c:Array Value),FK β w M cs c→
 ps.length=qs.length→(∀(i:Nat) p q,ps[i]? =some p→qs[i]? =some q→p.1=q.1∧VR β w M p.2 q.2)→CM pl cs ps=some cs'→ ∃c',Instr.fill pl' c qs=some c'∧FK β w M cs' c'
 |[],qs,cs,cs',c,hc,hl,_,hf=>by
  cases qs with
  |nil=>simp[CM]at hf;subst hf;exact⟨c,rfl,hc⟩
  |cons q qs=>simp at hl
 |(i,v)::ps,qs,cs,cs',c,hc,hl,hr,hf=>by
  cases qs with
  |nil=>simp at hl
  |cons q qs=>
   obtain⟨j,u⟩:=q;obtain⟨e,hvu⟩:=hr 0 (i,v) (j,u) rfl rfl;simp only at e hvu;subst e;simp only[CM]at hf;split at hf
   .rename_i off size hp;split at hf
    .rename_i hcond;simp only[HM]at hf;obtain⟨cs1,hs,hf⟩:=hf;have hcells:=(hvu.cellsOk hcond.2).1;have hsz:u.cells.size=size:=by rw[←hcells.1];exact hcond.1
     have hle:off+u.cells.size≤c.size:=by rw[←hc.1,←hcells.1];exact(DS hs).1
     have hc1:=Pn hc (vs:=u.cells.toList) ⟨by simpa using hcells.1,fun a y z hy hz=>hcells.2 a y z hy (by simpa using hz)⟩ hs;obtain⟨c',h1,h2⟩:=PS hpl ps qs cs1 cs' _ hc1 (by simpa using hl) (fun a p q hp hq=>hr (a+1) p q (by simpa using hp) (by simpa using hq)) hf;refine⟨c',?_,h2⟩;have hfold:=ZN u.cells.toList c off 0 (by simpa using hle);rw[Instr.fill,←hpl,hp];simp only;rw[D3 (by simp[hsz];omega)];rw[←h1];congr 1;simp only[Nat.add_zero]at hfold;rw[←hfold,←Array.foldl_toList,Array.toList_zipIdx]
    .cases hf
   .cases hf
theorem Xm{e:Nat→AV}{a:Act}(he:IK β w M e fun t=>a.tmps.getD t Go.undef)(ps:Array (Nat×Operand)):
 (Dd e ps).length=(ps.map fun(x:Nat×Operand)=>(x.1,a.eval x.2)).toList.length∧
 ∀(i:Nat) p q,(Dd e ps)[i]? =some p→(ps.map fun(x:Nat×Operand)=>(x.1,a.eval x.2)).toList[i]? =some q→p.1=q.1∧VR β w M p.2 q.2:=by
 refine⟨by simp[Dd],fun i p q hp hq=>?_⟩;simp only[Dd,D5,HU,BI]at hp;obtain⟨x,hx,rfl⟩:=hp;simp only[HU,Of,hx,F1,CI]at hq;subst hq;exact⟨rfl,HF he _⟩
theorem Zw(fs:List Field)(hs: ∀f∈fs,∃i,P.info? f.type=some i):
 (fs.mapM fun(f:Field)=>(do pure (f.offset,←sizeOf f.type):Sem (Nat×Nat))).run P w=.ok (fs.map fun f=>(f.offset,P.cellsOf f.type)) w:=by
 induction fs with
 |nil=>rfl
 |cons f fs ih=>
  obtain⟨i,hi⟩:=hs f (by simp);rw[List.mapM_cons];simp only[Sem.run_bind,Bk hi,Result.andThen_ok,Sem.run_pure,ih (fun f h=>hs f (by simp[h])),Ci,Program.cellsOf,hi,F1,GS]
variable{ps:Array (Nat×Operand)}
theorem lq(H:HR A β w h)(he:IK β w (MS A β h) e fun t=>a.tmps.getD t Go.undef)
 (ho:Ij (Dd e ps) (Bc P mix t)=some eff):
 DE A ρ β w h ((do pure (.value (←Instr.build t (ps.map fun(x:Nat×Operand)=>(x.1,a.eval x.2)))):Sem Next).run P w) eff:=by
 cases ht:Bc P mix t with
 |none=>simp[Ij,ht]at ho
 |some i=>
  obtain⟨info,d,z,h1,h2,h3,⟨_,hfk,_⟩,rfl⟩:=Ar ht;simp only[Ij,ht]at ho;split at ho
  .cases ho
  .rename_i hc;simp only[AS,beq_iff_eq,Bi,Md]at hc;simp only[BI]at ho;obtain⟨cs,hfill,rfl⟩:=ho;obtain⟨p1,p2⟩:=Xm he ps;have hz:FK β w (MS A β h) (z.cells.toList.map Cw) z.cells:=⟨by simp,fun i x v hx hv=>by
    simp only[D5,BI,HU]at hx;obtain⟨y,hy,rfl⟩:=hx;rw[hv]at hy;cases hy;exact Gm⟩
   cases d with
   |struct fs=>
    simp only[JR,CO,AS,Ii]at hfk;have hm:=Zw (P:=P) (w:=w) fs.toList fun f hf=>(hfk f hf).1;have hpl: ∀k:Nat,(((Ke P (.struct fs))[k]?).map fun(f:Nat×Nat×Bool)=>(f.1,f.2.1))=(fs.toList.map fun f=>(f.offset,P.cellsOf f.type)).toArray[k]? :=by
     intro k;simp only[Ke,D5,Option.map_map,NL];cases fs.toList[k]? <;>simp[Program.cellsOf]
    obtain⟨c',q1,q2⟩:=PS (pl':=fun k=>(fs.toList.map fun f=>(f.offset,P.cellsOf f.type)).toArray[k]?) hpl _ _ _ _ z.cells hz p1 p2 hfill;have hm':(fs.mapM fun(f:Field)=>(do pure (f.offset,←sizeOf f.type):Sem (Nat×Nat))).run P w=.ok (fs.toList.map fun f=>(f.offset,P.cellsOf f.type)).toArray w:=by
     rw[Array.mapM_eq_mapM_toList,Sem.run_map,hm,Result.andThen_ok]
    refine .plain H (v:=.agg c') ?_ rfl (.agg _ _ q2.1 q2.2);simp only[Sem.run_bind,Instr.build,C6 h1 h3,Result.andThen_ok,run_underlying h2,hm',q1,Sem.run_pure]
   |_=>simp[np]at hc
theorem bc(z:Array Value)(n:Nat)(i:Nat):((Array.range n).map (z[· % z.size]!))[i]? =if i<n then some z[i % z.size]! else none:=by
 simp only[Of,Array.getElem?_range];split<;>rfl
theorem YS{z:Value}{n sz:Nat}(hz:z.cells.size=sz):FK β w M ((List.replicate n (z.cells.toList.map Cw)).flatten) ((Array.range (n*sz)).map (z.cells[· % z.cells.size]!)):=by
 subst hz;have hlen: ∀e∈List.replicate n (z.cells.toList.map Cw),e.length=z.cells.size:=by
  intro e he;rw[ON he];simp
 refine⟨by rw[Cg hlen];simp,fun i x v hx hv=>?_⟩;rw[bc]at hv;split at hv
 .rename_i hi;cases hv;have hpos:0<z.cells.size:=Nat.pos_of_mul_pos_left (Nat.lt_of_le_of_lt (I4 _) hi);have h1:i/z.cells.size<n:=Nat.div_lt_of_lt_mul (by rw[Pu];exact hi);have h2:i % z.cells.size<z.cells.size:=Nat.mod_lt _ hpos;have h3:i=i/z.cells.size*z.cells.size+i % z.cells.size:=by rw[Pu];exact(Nat.div_add_mod i _).symm
  have h4:=Gq hlen (k:=i/z.cells.size) (e:=z.cells.toList.map Cw) (by simp[h1]) h2;rw[←h3,hx]at h4;have h4:=h4.symm;simp only[D5,BI,HU]at h4;obtain⟨y,hy,rfl⟩:=h4;rw[getElem!_pos z.cells (i % z.cells.size) h2];rw[Dl h2]at hy;cases hy;exact Gm
 .cases hv
theorem P1(sz:Nat): ∀(n:Nat) (l:List α),(Fh sz n l).length=n
 |0,_=>rfl
 |n+1,l=>by simp[Fh,P1 sz n]
theorem Og{α:Type}(sz:Nat): ∀(n:Nat) (l:List α),l.length=n*sz→(Fh sz n l).flatten=l
 |0,l,h=>by
  have:l=[]:=I6.1 (by omega);subst this;rfl
 |n+1,l,h=>by
  simp only[Fh,MP];rw[Og sz n (l.drop sz) (by rw[RT,h,IN];omega),LM]
theorem DE.other(H:HR A β w h){x:Go.Obj}(hδ:eff.δ=[])(hv:VR β (World.add w x) (MS A β h) eff.v v):
 DE A ρ β w h (.ok (.value v) (World.add w x)) eff:=
 ⟨_,v,_,β,rfl,.inl rfl,.refl β,fun _ h=>.inl h,by rw[hδ];exact H.add' x,by rw[hδ];exact OH x _,by rw[hδ];exact hv,fun _ hb _=>HH w x hb,fun _ _ h=>.inl h⟩
theorem RV(H:HR A β w h)(hf: ∀id,ρ<:+id→β id=none)(he:IK β w (MS A β h) e fun t=>a.tmps.getD t Go.undef)
 (ho:CJ (Bc P mix) h.get ρ n (Dd e ps) (Bc P mix t)=some eff):
 DE A ρ β w h ((do pure (.value (←Instr.buildSlice t n (ps.map fun(x:Nat×Operand)=>(x.1,a.eval x.2)))):Sem Next).run P w) eff:=by
 cases ht:Bc P mix t with
 |none=>simp[CJ,ht]at ho
 |some i=>
  obtain⟨info,d,z,h1,h2,h3,_,rfl⟩:=Ar ht;simp only[CJ,ht]at ho;split at ho
  .rename_i j hk hj;cases d with
   |slice el=>
    simp only[GY]at hj;obtain⟨info',d',z',g1,g2,g3,_,rfl⟩:=Ar hj;unfold Fe at ho;split at ho
    .rename_i cs hfill;obtain⟨p1,p2⟩:=Xm he ps;split at ho
     .cases ho;obtain⟨c',q1,q2⟩:=PS (β:=β) (w:=w) (M:=MS A β h) (pl':=fun k=>some (k*info'.size,info'.size)) (fun _=>rfl) _ _ _ _ #[] ⟨rfl,by simp⟩ p1 p2 hfill;have hr:((do pure (.value (←Instr.buildSlice t 0 (ps.map fun(x:Nat×Operand)=>(x.1,a.eval x.2)))):Sem Next).run P w)=.ok (.value (.slice (some ⟨w.heap.size,0,none⟩) 0 0)) (World.add w (.cells c' el)):=by
       have he0:((Array.range 0).map ((#[]:Array Value)[· % (#[]:Array Value).size]!))= #[]:=by simp
       simp only[Sem.run_bind,Instr.buildSlice,run_underlying h2,Result.andThen_ok,Bk g1,Nat.zero_mul,F3,Sem.run_pure,he0];rw[D3 (by decide)];simp only[Sem.run_bind,Sem.run_pure,Result.andThen_ok,he0];rw[q1];simp[newRow,World.add]
      rw[hr];exact .other H rfl (.emp _)
     .rename_i n' hn0;split at ho
      .rename_i hc;simp only[AS,beq_iff_eq,Bi,Md]at hc;obtain⟨hb,hzs⟩:=hc;have hb:n*info'.size≤2 ^ 24:=F4 hb;obtain⟨c',q1,q2⟩:=PS (pl':=fun k=>some (k*info'.size,info'.size)) (fun _=>rfl) _ _ _ _ _ (YS (β:=β) (w:=w) (M:=MS A β h) (n:=n) hzs) p1 p2 hfill;have hcs:cs.length=n*info'.size:=by
        have hfl: ∀(pl:Nat→Option (Nat×Nat)) (ps:List (Nat×AV)) (cs cs':List AV),CM pl cs ps=some cs'→cs'.length=cs.length:=by
         intro pl ps;induction ps with
         |nil=>intro cs cs' hh;simp[CM]at hh;rw[hh]
         |cons p ps ih=>
          intro cs cs' hh;obtain⟨pi,pv⟩:=p;simp only[CM]at hh;split at hh
          .split at hh
           .simp only[HM]at hh;obtain⟨c1,s1,s2⟩:=hh;rw[ih _ _ s2];exact(DS s1).2.1
           .cases hh
          .cases hh
        rw[hfl _ _ _ _ hfill,Cg (sz:=info'.size) (fun e he=>by rw[ON he];simpa using hzs)];simp
       have hcl:(Fh info'.size n cs).length=n:=P1 _ _ _;have hok:=OB H (w₁:=w) rfl ⟨rfl,rfl⟩ hf (elem:=el) (c:=c') (cap:=n) (by simp only;rw[←q2.1,hcs]) (by rw[hcl];exact El n) (by
        rw[Og _ _ _ hcs];intro i x v hx hv;exact q2.2 i x v hx hv) ho
       rw[hcl]at hok;have hr:((do pure (.value (←Instr.buildSlice t n (ps.map fun(x:Nat×Operand)=>(x.1,a.eval x.2)))):Sem Next).run P w)=.ok (.value (.slice (some ⟨w.heap.size,0,none⟩) n n)) (World.add w (.cells c' el)):=by
        by_cases hn:n*info'.size=0
        .have hr0:((Array.range (n*info'.size)).map (z'.cells[· % z'.cells.size]!))= #[]:=by rw[hn];simp
         have he0:((Array.range 0).map ((#[]:Array Value)[· % (#[]:Array Value).size]!))= #[]:=by simp
         rw[hr0]at q1;simp only[Sem.run_bind,Instr.buildSlice,run_underlying h2,Result.andThen_ok,Bk g1,hn,F3,Sem.run_pure];rw[D3 (by decide)];simp only[Sem.run_bind,Sem.run_pure,Result.andThen_ok,he0];rw[q1];simp[newRow,World.add]
        .simp only[Sem.run_bind,Instr.buildSlice,run_underlying h2,Result.andThen_ok,Bk g1,D3 (Nat.not_lt.2 hb),hn,D8,Sem.run_pure,C6 g1 g3];rw[q1];simp[newRow,World.add]
       rw[hr];exact hok
      .cases ho
    .cases ho
   |_=>simp[B1]at hk<;>(try(split at hk<;>(try(split at hk))<;>cases hk))
  .cases ho
end Go.Abs
