/- P -/
import Derived.WalkKit
import Derived.Test.YtbinfhpngacfgaaGreatR0
set_option linter.all false
namespace Go
def zEi{p:Prop}(h:p:=by simpa using a):p:=h
def zEr{p:Prop}(h:p:=by simp only[List.length_cons];omega):p:=h
def zE3{p:Prop}(h:p:=by simp[Instr.storeAt,Instr.sureAddr,y]):p:=h
def zE4{p:Prop}(h:p:=by simpa using B):p:=h
def zE5{p:Prop}(h:p:=by simp[h]):p:=h
def zFE{p:Prop}(h:p:=by simpa using F):p:=h
def zFH{p:Prop}(h:p:=by simpa using l):p:=h
def zFT{p:Prop}(h:p:=by simp[World.frozen?,hb]):p:=h
def zFc{p:Prop}(h:p:=by simp only[SP];omega):p:=h
end Go
namespace Go
def zEC{p:Prop}(h:p:=by exact .f8 _ _ _ _ _ _ (HS _ _ _) (by simp[u]) t (.inl AG)):p:=h
end Go
namespace Go.Abs
variable{A:Nat->Prop}{P:Program}{mix:List TypeId}{β:BK}{w:World}{M:Nat->Prop}
variable{t:TypeId}{i:TI}
def BZ(h:Cb P mix t=some i): ∃info d z,P.info? t=some info/\P.underlying t=some d/\info.zero=some z/\(info.bytes<=65536/\L4 P d=true/\z.cells.size=info.size/\Uz z=NK d)/\
 i={kind:=DA P t d,size:=info.size,agg:=NK d,str:=vB d,zero:=z.cells.toList.map EJ,flds:=Nc P d,elem:=JK d,key:=Yy d,mix:=mix.any (Nat.beq t)}:=by
 unfold Cb at h;split at h
 .rename_i info d b h2;split at h
  .rename_i z c;split at h
   .rename_i a;cases h;simp only[AP]at a;exact⟨info,d,z,b,h2,c,⟨Ge a.1.1.1,a.1.1.2,D8 a.1.2,by simpa using a.2⟩,rfl⟩
   .cases h
  .cases h
 .cases h
variable{b off:Nat}{c:Array Value}{elem:TypeId}{fr:Nat×Nat}
def OX(h:w.heap[b]? =some (.cells c elem fr)):w.cell? ⟨b,off,none⟩=c[off]? :=by
 simp[World.cell?,h]
def E4(b off j:Nat):(⟨b,off,none⟩:Addr).add j=⟨b,off+j,none⟩:=by
 unfold Addr.add;split<;>simp_all
def KN{d:TypeDesc}(h:P.underlying t=some d):(isAgg t).run P w=.ok (NK d) w:=by
 cases d<;>simp[isAgg,run_underlying h,NK]
def Cp{i:TypeInfo}(h:P.info? t=some i):(sizeOf t).run P w=.ok i.size w:=by
 simp[sizeOf,typeInfo,h]
variable{α:Type}{l r:List α}{n:Nat}
def Jt(h:K2 l off n=some r):off+n<=l.length/\r.length=n/\ ∀i,i<n->r[i]? =l[off+i]? :=by
 unfold K2 at h;split at h
 .rename_i b;cases h;refine⟨b,Aa,fun i a=>?_⟩;rw[I6,D4 a,Hm]
 .cases h
def mo{a:Type}(f:α->a)(l:List α)(off n:Nat):K2 (l.map f) off n=(K2 l off n).map (·.map f):=by
 unfold K2;simp only[As];split<;>simp
def Je{α:Type}{es:List (List α)}{sz k:Nat}{e:List α}(b: ∀e∈es,e.length=sz)(a:es[k]? =some e){j:Nat}(g:j<sz):es.flatten[k*sz+j]? =e[j]? :=by
 induction es generalizing k with
 |nil=>simp at a
 |cons x es f=>
  have c:x.length=sz:=b x AG;cases k with
  |zero=>
   simp at a;subst a;simp only[Nat.zero_mul,I9,ON];rw[Ce AA]
  |succ k=>
   simp at a;have:=f (fun e h=>b e zE5) a;rw[ON,D1 (by rw[c,IT];omega),<-this];congr 1;rw[c,IT];omega
def Da{es:List (List α)}{sz:Nat}(a: ∀e∈es,e.length=sz):es.flatten.length=es.length*sz:=by
 induction es with
 |nil=>simp
 |cons x es b=>
  rw[ON,Be,b (fun e h=>a e zE5),a x AG,List.length_cons,IT];omega
def Pe(s:Cb P mix t=some i)(h:w.heap[b]? =some (.cells c elem fr))
 {src:List AV} (l:src.length=i.size) (p:off+i.size<=c.size) (n: ∀(j:Nat) (x:AV) (v:Value),src[j]? =some x->c[off+j]? =some v->VR β w M x v)
 {r:AV} (a:HH i.agg src=some r): ∃v,(loadVar t ⟨b,off,none⟩).run P w=.ok v w/\VR β w M r v:=by
 obtain⟨info,d,z,o,h2,y,A,rfl⟩:=BZ s;simp only at l p a;unfold HH at a;split at a
 .rename_i g;cases a;have k:(loadCells ⟨b,off,none⟩ ((c.toList.drop off).take info.size).length).run P w=.ok ((c.toList.drop off).take info.size).toArray w:=
   run_loadCells_list (P:=P) w ⟨b,off,none⟩ _ (fun j v f=>by
    rw[E4,OX h];rw[I6]at f;split at f
    .rw[Hm]at f;simpa using f
    .cases f)
  have q:((c.toList.drop off).take info.size).length=info.size:=Aa;rw[q]at k;refine⟨.agg ((c.toList.drop off).take info.size).toArray,?_,.agg _ _ (by simp only[Rd];omega) ?_⟩
  .simp[loadVar,KN h2,g,Cp o,k]
  .intro j x v u e;refine n j x v u ?_;simp only[On]at e;rw[I6]at e;split at e
   .rw[Hm]at e;simpa using e
   .cases e
 .rename_i g;split at a
  .rename_i x;cases a;simp only[List.length_cons,List.length_nil]at l;have m:off<c.size:=AA;refine⟨c[off],?_,n 0 _ _ AG (by simp[m])⟩;simp[loadVar,KN h2,g,OX h,m]
  .cases a
def E0(β:BK)(w:World)(β':BK)(w':World)(δ:AD):Prop:=
 (∀b,b<w.heap.size->(∀p∈δ,∀k,β p.1=some k->k.b≠b)->w'.heap[b]? =w.heap[b]?)/\ ∀id k,β' id=some k->β id=some k\/w.heap.size<=k.b\/ ∃p∈δ,∃k',β p.1=some k'/\k'.b=k.b
def E0.refl(β:BK)(w:World)(δ:AD):E0 β w β w δ:=⟨fun _ _ _=>rfl,fun _ _ h=>.inl h⟩
def Ew(A:Nat->Prop)(ρ:List Nat)(β:BK)(w:World)(h:AD)(r:Result Next)(eff:C0):Prop:=
 ∃n v w' β',r=.ok n w'/\(n=.value v\/(n=.skip/\v=Go.undef))/\Le β β'/\(∀id,β' id≠none->β id≠none\/ρ<:+id)/\
  HR A β' w' (h.puts eff.δ)/\FG A (MS A β h) w (MS A β' (h.puts eff.δ)) w'/\VR β' w' (MS A β' (h.puts eff.δ)) eff.v v/\E0 β w β' w' eff.δ
variable{ρ:List Nat}{h:AD}{eff:C0}{v:Value}
def Ew.plain(H:HR A β w h){r:Result Next}(b:r=.ok (.value v) w)(a:eff.δ=[])(c:VR β w (MS A β h) eff.v v):
 Ew A ρ β w h r eff:=
 ⟨_,v,w,β,b,.inl rfl,.refl β,fun _ h=>.inl h,by rw[a];exact H,by rw[a];exact .refl _ _,by rw[a];exact c,E0.refl _ _ _⟩
def Jc:VR β w M (EJ v) v:=by
 unfold EJ;split
 .exact .d (.int _ _)
 .exact .d (.bool _)
 .exact .d (.str _)
 .exact .d7
 .exact .d .wl
 .exact .d .kw
 .exact .d .rc
 .exact .d .wd
 .exact .undef _
variable{e:Nat->AV}{a:Act}
def J3(b:Kz β w M e fun t=>a.tmps.getD t Go.undef)(x:Operand):VR β w M (ev e x) (a.eval x):=by
 cases x with
 |tmp t=>exact b t
 |const v=>exact Jc
 |global g=>exact .undef _
 |func f=>exact .fn f [] [] #[] #[] rfl rfl (fun _ _ _ h=>by simp at h) (fun _ _ _ h=>by simp at h)
variable{va:Value}
def cH(H:HR A β w h)(U:Cb P mix t=some i){a:AV}(ac:VR β w (MS A β h) a va){r:AV}(f:Kk h.get i a=some r):
 ∃a v,va=.pointer (some a)/\(loadVar t a).run P w=.ok v w/\VR β w (MS A β h) r v:=by
 cases ac with
 |ptr id off k R=>
  simp only[Kk]at f;split at f
  .rename_i cs s;obtain⟨I,K,c,elem,g,h2,q⟩:=H.obj id _ s;rw[R]at K;cases K;cases C:K2 cs off i.size with
   |none=>simp[C]at f
   |some l=>
    simp only[C,I2]at f;obtain⟨V,D,O⟩:=Jt C;obtain⟨v,m,T⟩:=Pe U g D (by rw[<-h2];exact V) (fun j x v u m=>by
     have J:j<i.size:=by rw[<-D];exact(BV.1 u).1
     rw[O j J]at u;exact q _ x v u m) f
    exact⟨_,v,rfl,m,T⟩
  .cases f
 |jp id k off y R=>
  have Z: ∀{c:Array Value} {elem:TypeId} {fr:Nat×Nat} {sz:Nat} {es:List (List AV)} {e src:List AV},w.heap[y.b]? =some (.cells c elem fr)->sz=y.sz->
   (∀e∈es,e.length=sz)->es.length*sz<=c.size->(∀(i:Nat) (x:AV) (v:Value),es.flatten[i]? =some x->c[i]? =some v->VR β w (MS A β h) x v)->
   es[k]? =some e->K2 e off i.size=some src->HH i.agg src=some r-> ∃v,(loadVar t ⟨y.b,k*y.sz+off,none⟩).run P w=.ok v w/\VR β w (MS A β h) r v:=by
   intro c elem fr sz es e src g h2 q F z p B Q;obtain⟨V,D,O⟩:=Jt B;have av:e.length=sz:=q e (AS p);have ai:k<es.length:=(BV.1 p).1;have az:k*sz+sz<=es.length*sz:=by
    have:=HM sz ai;rw[T2]at this;exact this
   refine Pe U g D (by rw[<-h2];omega) (fun j x v u m=>?_) Q;have J:j<i.size:=by rw[<-D];exact(BV.1 u).1
   rw[O j J,<-Je q p AA]at u;refine z _ x v u ?_;rw[<-m,<-h2];congr 1;omega
  simp only[Kk]at f;obtain⟨I,K,S⟩: ∃I,β id=some I/\ ∀o,h.get id=some o->NI β w (MS A β h) I o:=by
   cases s:h.get id with
   |none=>simp[s]at f
   |some o=>
    obtain⟨I,g,h2⟩:=H.obj id o s;exact⟨I,g,fun o' ar=>by cases ar;exact h2⟩
  rw[R]at K;cases K;have X: ∀{c:Array Value} {elem:TypeId} {fr:Nat×Nat} {sz:Nat} {es:List (List Al)} {e src:List Al},w.heap[y.b]? =some (.cells c elem fr)->sz=y.sz->
     (∀e∈es,e.length=sz)->es.length*sz<=c.size->(∀(i:Nat) (x:Al) (v:Value),es.flatten[i]? =some x->c[i]? =some v->DR w (MS A β h) x v)->
     es[k]? =some e->K2 e off i.size=some src->HH i.agg (src.map .d)=some r-> ∃v,(loadVar t ⟨y.b,k*y.sz+off,none⟩).run P w=.ok v w/\VR β w (MS A β h) r v:=by
   intro c elem fr sz es e src g h2 q F z p B Q;refine Z (es:=es.map (·.map .d)) (e:=e.map .d) (src:=src.map .d) g h2 ?_ zFE ?_ (by simp[p]) ?_ Q
   .intro e ad;obtain⟨e',ag,rfl⟩:=F1.1 ad;simpa using q e' ag
   .intro i x v Y m;rw[<-T7,D7,Bv]at Y;obtain⟨W,N,rfl⟩:=Y;exact .d (z i W v N m)
   .rw[mo,B];rfl
  suffices C: ∃v,(loadVar t ⟨y.b,k*y.sz+off,none⟩).run P w=.ok v w/\VR β w (MS A β h) r v by
   obtain⟨v,m⟩:=C;exact⟨_,v,rfl,m⟩
  split at f
  .rename_i sz es s;obtain⟨c,elem,g,h2,q,F,z,p,B⟩:=S _ s;cases n:es[k]? with
   |none=>simp[n]at f
   |some e=>
    simp only[n,IN]at f;obtain⟨l,L,f⟩:=f;exact X g h2 z p B n L f
  .rename_i sz es s;cases n:es[k]? with
   |none=>simp[n]at f
   |some e=>
    simp only[n,IN]at f;obtain⟨l,L,f⟩:=f;rcases S _ s with rfl|⟨_,c,elem,fr,g,h2,q,F,z,p,B⟩
    .simp at n
    .exact X g h2 z p B n L f
  .rename_i sz es s;obtain⟨c,elem,g,h2,q,F,z,p,B⟩:=S _ s;cases n:es[k]? with
   |none=>simp[n]at f
   |some e=>
    simp only[n,IN]at f;obtain⟨l,L,f⟩:=f;exact Z g h2 z p B n L f
  .cases f
 |rg cs b off c elem fr g h2 q F=>
  simp only[Kk]at f;cases C:K2 cs 0 i.size with
  |none=>simp[C]at f
  |some l=>
   simp only[C,I2]at f;obtain⟨V,D,O⟩:=Jt C;obtain⟨v,m,T⟩:=Pe U (off:=off) (M:=MS A β h) (β:=β) g (src:=l.map .d) (by simpa using D) AA (fun j x v u m=>by
    simp only[D7,Bv]at u;obtain⟨W,N,rfl⟩:=u;have J:j<i.size:=by rw[<-D];exact(BV.1 N).1
    rw[O j J,I9]at N;exact .d (F _ W v N m)) f
   exact⟨_,v,rfl,m,T⟩
 |_=>simp[Kk]at f
def z5(H:HR A β w h){a:AV}(f:VR β w (MS A β h) a va)(b:Mo h.get a (Cb P mix t)=some eff):
 Ew A ρ β w h ((do pure (.value (<-Instr.loadAt t va)):Sem Next).run P w) eff:=by
 cases c:Cb P mix t with
 |none=>simp[Mo,c]at b
 |some i=>
  simp only[Mo,c,Bv]at b;obtain⟨r,g,rfl⟩:=b;obtain⟨j,v,rfl,e,h2⟩:=cH H c f g;exact .plain H (by simp[Instr.loadAt,Instr.sureAddr,e]) rfl h2
def HN(c:Array Value)(off:Nat)(vs:List Value):Array Value:=(c.toList.take off++vs++c.toList.drop (off+vs.length)).toArray
variable{vs:List Value}
def GU(h:off+vs.length<=c.size):(HN c off vs).size=c.size:=by
 simp[HN];omega
def GL(h:off+vs.length<=c.size)(i:Nat):
 (HN c off vs)[i]? =if i<off then c[i]? else if i<off+vs.length then vs[i-off]? else c[i]? :=by
 simp only[HN,On];have a:(c.toList.take off).length=off:=Aa;split
 .rw[DO,Ce AA,I6,D4 Bw];simp
 .split
  .rw[DO,D1 AA,a,Ce AA]
  .rw[D1 (by simp only[Be,a];omega),Hm];simp only[Be,a,IS];congr 1;omega
variable{new:List α}
def FC(h:Ck l off new=some r):off+new.length<=l.length/\r.length=l.length/\
 ∀i,r[i]? =if i<off then l[i]? else if i<off+new.length then new[i-off]? else l[i]? :=by
 unfold Ck at h;split at h
 .rename_i b;cases h;refine⟨b,Aa,fun i=>?_⟩;have a:(l.take off).length=off:=Aa;split
  .rw[DO,Ce AA,I6,D4 Bw]
  .split
   .rw[DO,D1 AA,a,Ce AA]
   .rw[D1 (by simp only[Be,a];omega),Hm];simp only[Be,a];congr 1;omega
 .cases h
def N4{b off:Nat}{c:Array Value}{elem:TypeId}{fr:Nat×Nat}(a:w.heap[b]? =some (.cells c elem fr))(v:Value):
 w.setCell ⟨b,off,none⟩ v=World.ip w b (.cells (c.setIfInBounds off v) elem fr):=by
 unfold World.setCell World.ip;congr 1;apply PL;intro i;rw[Array.getElem?_modify];by_cases e:b=i
 .subst e;have f:w.heap[b]'(AK a)=.cells c elem fr:=(Io.1 a).2;simp[AK a,f]
 .simp[e]
def AAr(b:Nat)(x y:Go.Obj):World.ip (World.ip w b x) b y=World.ip w b y:=by
 simp[World.ip]
def xi{b:Nat}{x:Go.Obj}(h:w.heap[b]? =some x):World.ip w b x=w:=by
 unfold World.ip;have:w.heap.setIfInBounds b x=w.heap:=by
  apply PL;intro i;rw[KW];split
  .rename_i e;subst e;split
   .exact h.symm
   .rename_i a;exact absurd (AK h) a
  .rfl
 rw[this]
def JR{b:Nat}{elem:TypeId}: ∀(vs:List Value) (off:Nat) (w:World) (c:Array Value) (j:Nat),w.heap[b]? =some (.cells c elem (0,0))->off+j+vs.length<=c.size->
 (∀v∈vs,v.oneCell'=true)->(storeCells ⟨b,off,none⟩ vs j).run P w=.ok () (World.ip w b (.cells (HN c (off+j) vs) elem (0,0)))
 |[],off,w,c,j,hb,hl,_=>by
  have n:HN c (off+j) []=c:=by simp[HN]
  simp only[storeCells,n,xi hb];rfl
 |v::vs,off,w,c,j,hb,hl,h1=>by
  simp only[List.length_cons]at hl;have l:(w.cell? ⟨b,off+j,none⟩)=some (c[off+j]'(AA)):=by rw[OX hb];simp
  have m:w.frozen? ⟨b,off+j,none⟩=false:=zFT
  have o:(store ((⟨b,off,none⟩:Addr).add j) v).run P w=.ok () (World.ip w b (.cells (c.setIfInBounds (off+j) v) elem (0,0))):=by
   rw[E4,run_store _ _ _ _ _ (h1 v AG),l];simp[m,N4 hb]
  have k:(World.ip w b (.cells (c.setIfInBounds (off+j) v) elem (0,0))).heap[b]? =some (.cells (c.setIfInBounds (off+j) v) elem (0,0)):=JS _ (AK hb);have q:=JR vs off _ (c.setIfInBounds (off+j) v) (j+1) k Aa (fun v p=>h1 v (by simp[p]));simp only[storeCells,Sem.run_bind,o,Result.andThen_ok,q,AAr];congr 3;apply PL;intro i;rw[GL (c:=c.setIfInBounds (off+j) v) (off:=off+(j+1)) (vs:=vs) zFc i,
   GL (c:=c) (off:=off+j) (vs:=v::vs) zEr i]
  simp only[List.length_cons,KW];by_cases h2:i<off+j
  .have a:i<off+(j+1):=AA;have e: ¬off+j=i:=AA;simp only[h2,a,e,F6,FN]
  .by_cases h:i=off+j
   .subst h;have a:off+j<off+(j+1):=AA;have e:off+j<off+j+(vs.length+1):=AA;have f:off+j<c.size:=AA;simp[a,e,f]
   .have a: ¬i<off+(j+1):=AA;have e: ¬off+j=i:=AA;have f:i-(off+j)=(i-(off+(j+1)))+1:=AA;have g:(i<off+(j+1)+vs.length)↔(i<off+j+(vs.length+1)):=AA;simp only[h2,a,e,FN,f,GS,g]
def VR.cellsOk{x:AV}{v:Value}(h:VR β w M x v)(a:x.cells.all AV.isCell=true):Hh β w M x.cells v.cells/\ ∀f∈v.cells,f.oneCell'=true:=by
 have one: ∀{x:AV} {v:Value},VR β w M x v->x.isCell=true->v.oneCell'=true:=by
  intro x v h a;cases h with
  |d h=>cases h<;>rfl
  |agg cs c b h2=>simp[AV.isCell]at a
  |ii cs c b h2=>simp[AV.isCell]at a
  |undef v=>simp[AV.isCell]at a
  |_=>rfl
 by_cases l: ∃cs,x=.agg cs
 .obtain⟨cs,rfl⟩:=l;cases h with
  |agg cs c b h2=>
   refine⟨⟨b,h2⟩,fun f e=>?_⟩;obtain⟨i,g,rfl⟩:=Array.mem_iff_getElem.1 e;simp only[AV.cells,D3]at a;have j:i<cs.length:=by rw[b];exact g
   exact one (h2 i (cs[i]'j) (c[i]'g) (CO j) (Ex g)) (a _ (No j))
 .have n:x.cells=[x]:=by cases x<;>first|rfl|exact absurd ⟨_,rfl⟩ l
  rw[n]at a⊢;simp only[D9,RT,Md]at a;have b:=one h a;have m:v.cells= #[v]:=by cases v<;>first|rfl|simp[Value.oneCell']at b
  rw[m];refine⟨⟨rfl,fun i o f k e=>?_⟩,fun f e=>by simp at e;subst e;exact b⟩;cases i with
  |zero=>simp at k e;subst k;subst e;exact h
  |succ i=>simp at k
def ZY(h h':AD):Prop:= ∀id o,h'.get id=some o->o.mut=true-> ∃o',h.get id=some o'/\o'.mut=true
def Gi(h':AD)(id:Id):Prop:= ∀o,h'.get id=some o->o.mut=false
def ZY.refl(h:AD):ZY h h:=fun _ o a h2=>⟨o,a,h2⟩
variable{h':AD}
def ZY.ms(j:ZY h h')(a:MS A β h' b):MS A β h b:=by
 rcases a with a|⟨id,o,k,c,h2,e,f⟩
 .exact .inl a
 .obtain⟨o',g,i⟩:=j id o c h2;exact .inr ⟨id,o',k,g,i,e,f⟩
def ZY.it(b:ZY h h'):FG A (MS A β h) w (MS A β h') w:=⟨fun _ _ _=>rfl,Es _,fun _ a=>.inl (b.ms a),rfl,rfl⟩
def ZY.nil(h:AD):ZY h []:=fun _ _ a _=>by simp at a
def Gi.nil(id:Id):Gi [] id:=fun _ h=>by simp at h
def Gi.notMS{h h':AD}(H:HR A β w h)(g:ZY h h'){id:Id}{k:TH}(r:Gi h' id)(e:β id=some k){o:Obj}(f:h.get id=some o)
 (a:o.mut=true\/ ¬MS A β h k.b): ¬MS A β h' k.b:=by
 intro c;rcases a with a|a
 .rcases c with q|⟨i,j,s,b,h2,l,m⟩
  .exact H.out id o k f a e q
  obtain⟨t,n,p⟩:=g i j b h2;have:=H.inj id i o t k s f n a p e l m.symm;subst this;rw[r j b]at h2;cases h2
 .exact a (g.ms c)
def Ue{es l:List (List α)}{sz:Nat}(b: ∀e∈es,e.length=sz)(q:K2 es off n=some l):
 (∀e∈l,e.length=sz)/\ ∀i,i<n*sz->l.flatten[i]? =es.flatten[off*sz+i]? :=by
 obtain⟨r,s,g⟩:=Jt q;have c: ∀e∈l,e.length=sz:=by
  intro e o;obtain⟨i,a,rfl⟩:=Rs.1 o;have:=g i AA;rw[CO a]at this;exact b _ (AS this.symm)
 refine⟨c,fun i a=>?_⟩;have p:0<sz:=Nat.pos_of_mul_pos_left (Nat.lt_of_le_of_lt (It _) a);have h:i/sz<n:=Nat.div_lt_of_lt_mul (by rw[Pm];exact a);have h2:i % sz<sz:=UN _ p;have j:i=i/sz*sz+i % sz:=by rw[Pm];exact(Nat.div_add_mod i sz).symm
 have k:l[i/sz]? =es[off+i/sz]? :=g _ h;have f:i/sz<l.length:=AA;rw[j,Je c (CO f) h2];have m:es[off+i/sz]? =some l[i/sz]:=by rw[<-k];exact CO f
 have:=Je b m h2;rw[<-this];congr 1;rw[IT];omega
def SL{es l:List (List Al)}{sz off n:Nat}{c:Array Value}{elem:TypeId}{fr:Nat×Nat}{b cap:Nat}{a:Option Addr}{f:Nat->Prop}
 (q:w.heap[b]? =some (.cells c elem fr)) (z: ¬f b) (t: ∀e∈es,e.length=sz) (C:es.length*sz<=c.size)
 (s: ∀(i:Nat) (x:Al) (v:Value),es.flatten[i]? =some x->c[i]? =some v->DR w f x v) (m:K2 es off n=some l) (g:a=some ⟨b,off*sz,none⟩\/n=0) (r:n<=cap):
 DR w f (.bv l) (.slice a n cap):=by
 obtain⟨B,o,_⟩:=Jt m;obtain⟨j,p⟩:=Ue t m;by_cases k:n=0
 .subst k;have:l=[]:=MD.1 o;subst this;exact .lst0 a cap
 .rcases g with rfl|g
  .subst o;have y:off*sz+l.length*sz<=c.size:=by
    have:=HM sz B;rw[IT]at this;omega
   refine .bv l b (off*sz) cap sz c elem fr q z j y (fun i x v h A=>?_) r;have u:i<l.length*sz:=by rw[<-Da j];exact(BV.1 h).1
   rw[p i u]at h;exact s _ x v h A
  .exact absurd g k
def GD:AV->List Id
 |.f8 id _ _=>[id]
 |_=>[]
def Oe{h h':AD}(H:HR A β w h)(j:ZY h h'){v:AV}{y:Value}{x:Al}(K:VR β w (MS A β h) v y)(e:FQ h.get v=some x)(F: ∀id∈GD v,Gi h' id):
 DR w (MS A β h') x y:=by
 cases K with
 |d D=>simp only[FQ,Co]at e;subst e;exact D.mono j.it
 |d7=>simp only[FQ,Co]at e;subst e;exact .lst0 _ _
 |emp a=>simp only[FQ,Co]at e;subst e;exact .lst0 _ _
 |f8 id off len k a cap m O u C=>
  have t:=F id (by simp[GD]);have s:a=some ⟨k.b,off*k.sz,none⟩\/len=0:=C.imp (fun h=>h) (fun h=>AA);simp only[FQ]at e;split at e
  .rename_i sz es f;obtain⟨L,g,c,elem,o,h2,z,B,p,q,r⟩:=H.obj id _ f;rw[m]at g;cases g;simp only[Bv]at e;obtain⟨l,n,rfl⟩:=e;subst h2;exact SL o (t.notMS H j m f (.inl rfl)) p q (fun i x v a b=>(r i x v a b).mono j.it) n s u
  .rename_i sz es f;obtain⟨L,g,J⟩:=H.obj id _ f;rw[m]at g;cases g;simp only[Bv]at e;obtain⟨l,n,rfl⟩:=e;rcases J with rfl|⟨I,c,elem,fr,o,h2,z,B,p,q,r⟩
   .obtain⟨M,N,_⟩:=Jt n;simp only[List.length_nil]at M;have:len=0:=AA;subst this;have:l=[]:=MD.1 N;subst this;exact .lst0 _ _
   .subst h2;exact SL o (t.notMS H j m f (.inr I)) p q (fun i x v a b=>(r i x v a b).mono j.it) n s u
  .cases e
 |_=>simp[FQ]at e
def yy(w:World)(M:Nat->Prop)(ds:List Al)(c:Array Value):Prop:=ds.length=c.size/\ ∀(i:Nat) (x:Al) (v:Value),ds[i]? =some x->c[i]? =some v->DR w M x v
def FR{g:G}: ∀{vs:List AV} {a:List Al},C6 g vs=some a->a.length=vs.length/\ ∀(i:Nat) (v:AV) (x:Al),vs[i]? =some v->a[i]? =some x->FQ g v=some x
 |[],a,h=>by simp[C6]at h;subst h;simp
 |v::vs,a,h=>by
  simp only[C6]at h;split at h
  .rename_i x m e h2;cases h;obtain⟨f,j⟩:=FR h2;refine⟨by simp[f],fun i k l b c=>?_⟩;cases i with
   |zero=>simp at b c;subst b;subst c;exact e
   |succ i=>simp at b c;exact j i k l b c
  .cases h
def Iu{g:G}: ∀{vs:List (List AV)} {a:List (List Al)},C7 g vs=some a->a.length=vs.length/\ ∀(i:Nat) (v:List AV) (x:List Al),vs[i]? =some v->a[i]? =some x->C6 g v=some x
 |[],a,h=>by simp[C7]at h;subst h;simp
 |v::vs,a,h=>by
  simp only[C7]at h;split at h
  .rename_i x m e h2;cases h;obtain⟨f,j⟩:=Iu h2;refine⟨by simp[f],fun i k l b c=>?_⟩;cases i with
   |zero=>simp at b c;subst b;subst c;exact e
   |succ i=>simp at b c;exact j i k l b c
  .cases h
def Qb{g:G}: ∀{a b:List AV} {x e:List Al},C6 g a=some x->C6 g b=some e->C6 g (a++b)=some (x++e)
 |[],b,x,e,c,h2=>by simp[C6]at c;subst c;simpa using h2
 |v::a,b,x,e,c,h2=>by
  simp only[C6]at c;split at c
  .rename_i z zs f h;cases c;simp[C6,f,Qb h h2]
  .cases c
def Fy{g:G}: ∀{vs:List (List AV)} {a:List (List Al)},C7 g vs=some a->C6 g vs.flatten=some a.flatten
 |[],a,h=>by simp[C7]at h;subst h;rfl
 |v::vs,a,h=>by
  simp only[C7]at h;split at h
  .rename_i x c b h2;cases h;exact Qb b (Fy h2)
  .cases h
def Ma{g:G}{vs:List (List AV)}{b:List (List Al)}(h:C7 g vs=some b){sz:Nat}(c: ∀e∈vs,e.length=sz): ∀e∈b,e.length=sz:=by
 obtain⟨k,h2⟩:=Iu h;intro e j;obtain⟨i,f,rfl⟩:=Rs.1 j;have a:i<vs.length:=AA;have:=h2 i _ _ (CO a) (CO f);rw[(FR this).1];exact c _ (No a)
structure A0(h h':AD):Prop where
 each: ∀id,h'.get id=h.get id\/(∃sz es,h.get id=some (.em sz es)/\h'.get id=some (.i7 sz es))\/
  ∃sz es ds,h.get id=some (.arr sz es)/\h'.get id=some (.i7 sz ds)/\C7 h.get es=some ds/\ ∀v∈es.flatten,∀id'∈GD v,Gi h' id'
def A0.sub(f:A0 h h'):ZY h h':=by
 intro id o b a;rcases f.each id with e|⟨sz,es,c,h2⟩|⟨sz,es,ds,c,h2,_⟩
 .exact⟨o,e▸b,a⟩
 .rw[b]at h2;cases h2;cases a
 .rw[b]at h2;cases h2;cases a
def A0.hr(g:A0 h h')(H:HR A β w h):HR A β w h':=by
 refine H.step (.refl β) g.sub.it ?_ ?_ H.bnd ?_
 .intro id o m;rcases g.each id with e|⟨sz,es,f,h2⟩|⟨sz,es,ds,f,h2,j,y⟩
  .exact .inl ⟨e▸m,fun _ _=>rfl⟩
  .rw[m]at h2;cases h2;obtain⟨k,l,c,elem,g1,p,q,r,s,t,u⟩:=H.obj id _ f;have B:Gi h' id:=fun o' n=>by rw[m]at n;cases n;rfl
   exact .inr ⟨k,l,.inr ⟨B.notMS H g.sub l f (.inl rfl),c,elem,_,g1,p,q,r,s,t,fun i x v a b=>(u i x v a b).mono g.sub.it⟩⟩
  .rw[m]at h2;cases h2;obtain⟨k,l,c,elem,g1,p,q,r,s,t,u⟩:=H.obj id _ f;have B:Gi h' id:=fun o' n=>by rw[m]at n;cases n;rfl
   refine .inr ⟨k,l,.inr ⟨B.notMS H g.sub l f (.inl rfl),c,elem,_,g1,p,q,r,Ma j s,by rw[(Iu j).1];exact t,fun i x v a b=>?_⟩⟩;obtain⟨R,S⟩:=FR (Fy j);have C:i<es.flatten.length:=by rw[<-R];exact(BV.1 a).1
   exact Oe H g.sub (u i _ v (CO C) b) (S i _ x (CO C) a) (y _ (No C))
 .intro a b J P I O z L F N D M e;obtain⟨K,f,h2⟩:=g.sub a J z F;obtain⟨Q,j,y⟩:=g.sub b P L N;exact H.inj a b K Q I O f j h2 y D M e
 .intro a J I z F D;obtain⟨K,f,h2⟩:=g.sub a J z F;exact H.out a K I f h2 D
def Jq(δ:AD): ∀(h:AD) (id:Id),((h.puts δ).get id=h.get id/\ ∀p∈δ,p.1≠id)\/ ∃p∈δ,p.1=id/\(h.puts δ).get id=some p.2:=by
 induction δ with
 |nil=>intro h id;exact .inl ⟨rfl,AG⟩
 |cons q δ f=>
  intro h id;rw[AD.puts_cons];rcases f (h.put q.1 q.2) id with⟨a,h2⟩|⟨p,a,h2,c⟩
  .rw[AD.get_put]at a;by_cases e:q.1=id
   .rw[D4 e]at a;exact .inr ⟨q,AG,e,a⟩
   .rw[Ci e]at a;refine .inl ⟨a,fun p b=>?_⟩;rcases D0.1 b with rfl|b
    .exact e
    .exact h2 p b
  .exact .inr ⟨p,by simp[a],h2,c⟩
def Kl{g:G}{vs:List AV}{p:Id×Obj}(h:p∈Ca g vs): ∃sz es,p.2=.i7 sz es/\g p.1=some (.em sz es):=by
 obtain⟨v,_,a⟩:=CS.1 h;cases v with
 |f8 id off n=>
  simp only[LB]at a;split at a
  .rename_i sz es b;simp at a;subst a;exact⟨sz,es,rfl,b⟩
  .simp at a
 |_=>simp[LB]at a
def Ph{h:AD}{δ:AD}(f: ∀p∈δ,∃sz es,p.2=.i7 sz es/\h.get p.1=some (.em sz es)):A0 h (h.puts δ):=by
 refine⟨fun id=>?_⟩;rcases Jq δ h id with⟨a,_⟩|⟨p,a,h2,b⟩
 .exact .inl a
 .obtain⟨sz,es,c,e⟩:=f p a;subst h2;exact .inr (.inl ⟨sz,es,e,by rw[b,c]⟩)
def La{h:AD}{vs:List AV}{δ:AD}(t: ∀p∈δ,∃sz es,p.2=.i7 sz es/\h.get p.1=some (.em sz es))(q: ∀p∈Ca h.get vs,p∈δ){j:List Al}(s:C6 h.get vs=some j):
 ∀v∈vs,∀id∈GD v,Gi (h.puts δ) id:=by
 intro v g id f o b;cases v with
 |f8 x off n=>
  simp only[GD,Ac]at f;subst f;obtain⟨i,m,r⟩:=Rs.1 g;obtain⟨y,u⟩:=FR s;have a:=u i _ (j[i]'(AA)) (CO m) (CO AA);rw[r]at a;rcases Jq δ h id with⟨c,h2⟩|⟨p,c,h2,k⟩
  .simp only[FQ]at a;split at a
   .rename_i sz es e;exact absurd rfl (h2 (id,.i7 sz es) (q _ (CS.2 ⟨_,g,by simp[LB,e]⟩)))
   .rename_i sz es e;rw[c,e]at b;cases b;rfl
   .cases a
  .obtain⟨sz,es,l,w⟩:=t p c;rw[k,l]at b;cases b;rfl
 |_=>simp[GD]at f
def bR(H:HR A β w h)(l:ZY h h'){vs:List AV}{j:List Al}(f:Hh β w (MS A β h) vs c)(m:C6 h.get vs=some j)
 (k: ∀v∈vs,∀id∈GD v,Gi h' id):yy w (MS A β h') j c:=by
 obtain⟨g,n⟩:=FR m;refine⟨by rw[g];exact f.1,fun i x v a b=>?_⟩;have e:i<vs.length:=by rw[<-g];exact(BV.1 a).1
 exact Oe H l (f.2 i _ v (CO e) b) (n i _ x (CO e) a) (k _ (No e))
variable{A:Nat->Prop}{P:Program}{mix:List TypeId}{β:BK}{w:World}{M:Nat->Prop}
variable{w':World}
def Ew.skip{r:Result Next}(e:r=.ok .skip w')(f:eff.v=.undef)
 (H:HR A β w' (h.puts eff.δ)) (c:FG A (MS A β h) w (MS A β (h.puts eff.δ)) w') (a: ∀b,b<w.heap.size->(∀p∈eff.δ,∀k,β p.1=some k->k.b≠b)->w'.heap[b]? =w.heap[b]?):Ew A ρ β w h r eff:=
 ⟨_,Go.undef,w',β,e,.inr ⟨rfl,rfl⟩,.refl β,fun _ h=>.inl h,H,c,by rw[f];exact .undef _,a,fun _ _ h=>.inl h⟩
variable{δ:AD}
def MO{id:Id}{o:Obj}{k:TH}(x:Go.Obj)(c:(id,o)∈δ)(a:β id=some k):
 ∀b,b<w.heap.size->(∀p∈δ,∀k,β p.1=some k->k.b≠b)->(World.ip w k.b x).heap[b]? =w.heap[b]? :=
 fun _ _ h=>GF x (Ne.symm (h _ c k a))
variable{cs:List AV}
def Tp{β:BK}{w:World}{M:Nat->Prop}{new j:List AV}(h:Hh β w M cs c)(m:Hh β w M new vs.toArray)(n:Ck cs off new=some j):
 Hh β w M j (HN c off vs):=by
 obtain⟨s,q,r⟩:=FC n;obtain⟨l,h2⟩:=h;obtain⟨o,p⟩:=m;simp only[Rd]at o;have k:off+vs.length<=c.size:=AA;refine⟨by rw[GU k,q,l],fun i x v b a=>?_⟩;rw[r i]at b;rw[GL k i]at a;by_cases e:i<off
 .simp only[e,F6]at b a;exact h2 i x v b a
 .by_cases g:i<off+new.length
  .have f:i<off+vs.length:=AA;simp only[e,g,f,F6,FN]at b a;exact p _ x v b zEi
  .have f: ¬i<off+vs.length:=AA;simp only[e,g,f,FN]at b a;exact h2 i x v b a
def N9{info:TypeInfo}(g:P.info? t=some info)(f:w.heap[b]? =some (.cells c elem (0,0)))
 (i:v.cells.size=info.size) (h:off+v.cells.size<=c.size) (e: ∀a∈v.cells,a.oneCell'=true):
 (storeVar t ⟨b,off,none⟩ v).run P w=.ok () (World.ip w b (.cells (HN c off v.cells.toList) elem (0,0))):=by
 have:=JR (P:=P) v.cells.toList off w c 0 f (by simpa using h) (fun a j=>e a (by simpa using j));simp only[Nat.add_zero]at this;simp[storeVar,Cp g,i,this]
variable{k:Nat}{e':List α}
def Uf{es:List (List α)}{sz:Nat}{e:List α}(c: ∀e∈es,e.length=sz)(b:es[k]? =some e)(m:e'.length=sz)(i:Nat):
 (es.set k e').flatten[i]? =if i<k*sz then es.flatten[i]? else if i<k*sz+sz then e'[i-k*sz]? else es.flatten[i]? :=by
 induction es generalizing k i with
 |nil=>simp at b
 |cons x es n=>
  have f:x.length=sz:=c x AG;cases k with
  |zero=>
   simp only[List.set_cons_zero,ON,Nat.zero_mul,I9,Nat.not_lt_zero,FN,Nat.sub_zero];split
   .rw[Ce AA]
   .rw[D1 AA,D1 AA,f,m]
  |succ k=>
   simp at b;have:=n (fun e h=>c e zE5) b (i-sz);simp only[List.set_cons_succ,ON];by_cases a:i<sz
   .rw[Ce AA,Ce AA,D4 (by rw[IT];omega)]
   .rw[D1 AA,D1 AA,f,this];have g:(i-sz<k*sz)↔(i<(k+1)*sz):=by rw[IT];omega
    have j:(i-sz<k*sz+sz)↔(i<(k+1)*sz+sz):=by rw[IT];omega
    have l:i-sz-k*sz=i-(k+1)*sz:=by rw[IT];omega
    simp only[g,j,l]
def XA{R':α->Value->Prop}{es:List (List α)}{sz:Nat}{e:List α}(l: ∀e∈es,e.length=sz)(m:es[k]? =some e)
 (C:Ck e off new=some e') (A:es.length*sz<=c.size) (q: ∀(i:Nat) (x:α) (v:Value),es.flatten[i]? =some x->c[i]? =some v->R' x v)
 (I:new.length=vs.length) (B: ∀(i:Nat) (x:α) (v:Value),new[i]? =some x->vs[i]? =some v->R' x v):
 k*sz+off+vs.length<=c.size/\(∀a∈es.set k e',a.length=sz)/\(es.set k e').length*sz<=(HN c (k*sz+off) vs).size/\
  ∀(i:Nat) (x:α) (v:Value),(es.set k e').flatten[i]? =some x->(HN c (k*sz+off) vs)[i]? =some v->R' x v:=by
 obtain⟨J,K,D⟩:=FC C;have F:e.length=sz:=l e (AS m);have z:k<es.length:=(BV.1 m).1;have H:k*sz+sz<=es.length*sz:=by
  have:=HM sz z;rw[T2]at this;exact this
 have p:k*sz+off+vs.length<=c.size:=AA;refine⟨p,?_,by rw[GU p];simpa using A,?_⟩
 .intro a y;rcases List.mem_or_eq_of_mem_set y with h|rfl
  .exact l a h
  .omega
 .intro i x v b f;rw[Uf l m AA]at b;rw[GL p]at f;by_cases n:i<k*sz
  .have u:i<k*sz+off:=AA;simp only[n,u,F6]at b f;exact q i x v b f
  .by_cases r:i<k*sz+sz
   .simp only[n,r,F6,FN]at b;rw[D]at b;have t:e[i-k*sz]? =some x->c[i]? =some v->R' x v:=by
     intro w h2;refine q i x v ?_ h2;rw[<-w,<-Je l m (show i-k*sz<sz by omega)];congr 1;omega
    by_cases o:i-k*sz<off
    .have g:i<k*sz+off:=AA;simp only[o,g,F6]at b f;exact t b f
    .by_cases s:i-k*sz<off+new.length
     .have g: ¬i<k*sz+off:=AA;have j:i<k*sz+off+vs.length:=AA;simp only[o,g,s,j,F6,FN]at b f;refine B _ x v b ?_;rw[<-f];congr 1;omega
     .have g: ¬i<k*sz+off:=AA;have j: ¬i<k*sz+off+vs.length:=AA;simp only[o,g,s,j,FN]at b f;exact t b f
   .have g: ¬i<k*sz+off:=AA;have j: ¬i<k*sz+off+vs.length:=AA;simp only[n,r,g,j,FN]at b f;exact q i x v b f
def VG{id:Id}(h:Nv id δ=true): ∀p∈δ,p.1≠id:=by
 intro p a e;have:=D3.1 h p a;rw[e]at this;simp at this
def L5{id:Id}(b: ∀p∈δ,p.1≠id):(h.puts δ).get id=h.get id:=by
 rcases Jq δ h id with⟨a,_⟩|⟨p,a,h2,_⟩
 .exact a
 .exact absurd h2 (b p a)
def xY{h:AD}(H:HR A β w h){ρ:List Nat}{t:TypeId}{a x:AV}{va g:Value}(a0:VR β w (MS A β h) a va)(a6:VR β w (MS A β h) x g){eff:C0}
 (f:KG h.get a x (Cb P mix t)=some eff):Ew A ρ β w h ((do Instr.storeAt t va g;pure .skip:Sem Next).run P w) eff:=by
 cases U:Cb P mix t with
 |none=>simp[KG,U]at f
 |some i=>
  obtain⟨info,d,z,Q,h2,a7,a',a3⟩:=BZ U;have be:i.size=info.size:=by rw[a3]
  simp only[KG,U,Kv]at f;split at f
  .cases f
  .rename_i ac;simp only[AP,beq_iff_eq]at ac;obtain⟨bc,a1⟩:=ac;obtain⟨⟨J,V⟩,S⟩:=a6.cellsOk a1;cases a0 with
   |ptr id off k l=>
    simp only at f;split at f
    .rename_i cs o;obtain⟨av,q,c,elem,g1,s⟩:=H.obj id _ o;rw[l]at q;cases q;simp only[Bv]at f;obtain⟨az,u,rfl⟩:=f;have a4:off+g.cells.size<=c.size:=by rw[<-J,<-s.1];exact(FC u).1
     have y:=N9 (P:=P) Q g1 (v:=g) AA a4 S;have m:=IU H (o':=.box az) o rfl l (.cells (HN c off g.cells.toList) elem (0,0));refine .skip (w':=World.ip w k.b (.cells (HN c off g.cells.toList) elem (0,0))) zE3 rfl ?_ m (MO _ (Ac.2 rfl) l);refine H.upd' o rfl l ⟨_,elem,JS _ (AK g1),?_⟩;exact Tp (s.mono (.refl β) m) ⟨by simpa using J,fun j F D C B=>(V j F D C zE4).mono (.refl β) m⟩ u
    .cases f
   |jp id n off k l=>
    simp only at f;split at f
    .rename_i sz es o;obtain⟨av,q,c,elem,g1,s,K,L,M,N,O⟩:=H.obj id _ o;rw[l]at q;cases q;subst s;split at f
     .rename_i e ds R ag a5;simp only[Bv]at f;obtain⟨e',u,rfl⟩:=f;have ar: ∀p∈Ca h.get x.cells,∃sz es,p.2=.i7 sz es/\h.get p.1=some (.em sz es):=fun p T=>Kl T;have I:=Ph ar;have a2:=La ar (fun p T=>T) ag;have Z:=I.hr H;have ai:(h.puts (Ca h.get x.cells)).get id=some (.em k.sz es):=by rw[L5 (VG a5)];exact o
      have ad:=bR H I.sub ⟨J,V⟩ ag a2;have m:=IU Z (o':=.em k.sz (es.set n e')) ai rfl l (.cells (HN c (n*k.sz+off) g.cells.toList) elem (0,0));obtain⟨r,W,X,Y⟩:=XA (R':=DR (World.ip w k.b (.cells (HN c (n*k.sz+off) g.cells.toList) elem (0,0))) (MS A β ((h.puts (Ca h.get x.cells)).put id (.em k.sz (es.set n e'))))) (vs:=g.cells.toList) M R u N
       (fun i x v a b=>(O i x v a b).mono (I.sub.it.trans m)) (by simpa using ad.1) (fun i F D C B=>(ad.2 i F D C zE4).mono m)
      simp only[OS]at r;have y:=N9 (P:=P) (off:=n*k.sz+off) Q g1 (v:=g) AA r S;refine .skip (w':=World.ip w k.b (.cells (HN c (n*k.sz+off) g.cells.toList) elem (0,0))) zE3 rfl ?_ ?_ (MO _ (HU _ (Ac.2 rfl)) l)
      .rw[AD.puts_append];refine Z.upd' ai rfl l ⟨_,elem,JS _ (AK g1),rfl,K,?_,W,X,Y⟩;rw[GU (by simpa using r)];exact L
      .rw[AD.puts_append];exact I.sub.it.trans m
     .cases f
    .rename_i sz es o;obtain⟨av,q,c,elem,g1,s,K,L,M,N,O⟩:=H.obj id _ o;rw[l]at q;cases q;subst s;split at f
     .rename_i e R;simp only[Bv]at f;obtain⟨e',u,rfl⟩:=f;have m:=IU H (o':=.arr k.sz (es.set n e')) o rfl l (.cells (HN c (n*k.sz+off) g.cells.toList) elem (0,0));obtain⟨r,W,X,Y⟩:=XA (R':=VR β (World.ip w k.b (.cells (HN c (n*k.sz+off) g.cells.toList) elem (0,0))) (MS A β (h.put id (.arr k.sz (es.set n e'))))) (vs:=g.cells.toList) M R u N
       (fun i x v a b=>(O i x v a b).mono (.refl β) m) (by simpa using J) (fun i F D C B=>(V i F D C zE4).mono (.refl β) m)
      simp only[OS]at r;have y:=N9 (P:=P) (off:=n*k.sz+off) Q g1 (v:=g) AA r S;refine .skip (w':=World.ip w k.b (.cells (HN c (n*k.sz+off) g.cells.toList) elem (0,0))) zE3 rfl ?_ m (MO _ (Ac.2 rfl) l);refine H.upd' o rfl l ⟨_,elem,JS _ (AK g1),rfl,K,?_,W,X,Y⟩;rw[GU (by simpa using r)];exact L
     .cases f
    .cases f
   |_=>simp at f
def SB(e:w'.heap=w.heap)(a:w'.os=w.os/\w'.output=w.output)(M:Nat->Prop):FG A M w M w':=⟨fun b _ _=>by rw[e],by rw[e];exact Es _,fun _ h=>.inl h,a⟩
def HR.heap(H:HR A β w h)(e:w'.heap=w.heap)(a:w'.os=w.os/\w'.output=w.output):HR A β w' h:=
 H.step (.refl β) (SB e a _) (fun _ _ c=>.inl ⟨c,fun _ _=>by rw[e]⟩) H.inj (fun id k b=>by rw[e];exact H.bnd id k b) H.out
def HB(a:Nat)(ρ:List Nat):ρ<:+a::ρ:=F5 a ρ
def VD{h a:AD}{w₁:World}(t:HR A β w a)(C:ZY h a)(f:w₁.heap=w.heap)(m:w₁.os=w.os/\w₁.output=w.output){ρ:List Nat}(y: ∀id,ρ<:+id->β id=none)(tag:Nat){x:Go.Obj}{o:Obj}{k:TH}
 (z:k.b=w.heap.size) {δ:AD} (s:h.puts δ=a.put (tag::ρ) o)
 (B: ∀{c:Nat->Prop},Le β (β.put (tag::ρ) k)->FG A (MS A β h) w c (World.add w₁ x)->FG A (MS A β a) w c (World.add w₁ x)->NI (β.put (tag::ρ) k) (World.add w₁ x) c k o)
 {v:AV} {j:Value} (D: ∀{c:Nat->Prop},VR (β.put (tag::ρ) k) (World.add w₁ x) c v j):
 Ew A ρ β w h (.ok (.value j) (World.add w₁ x)) ⟨v,δ⟩:=by
 have i:β (tag::ρ)=none:=y _ (HB tag ρ);have l:=t.heap f m;have n:k.b=w₁.heap.size:=by rw[f];exact z
 have q:FG A (MS A β a) w (MS A (β.put (tag::ρ) k) (a.put (tag::ρ) o)) (World.add w₁ x):=(SB f m _).trans (VQ l x n);have r:FG A (MS A β h) w (MS A (β.put (tag::ρ) k) (a.put (tag::ρ) o)) (World.add w₁ x):=C.it.trans q;refine⟨_,j,_,β.put (tag::ρ) k,rfl,.inl rfl,Pd i,fun id p=>?_,?_,?_,D,fun b u _=>by rw[J6 w₁ x (by rw[f];exact u),f],fun id F g=>?_⟩
 .by_cases e:id=tag::ρ
  .subst e;exact .inr (HB tag ρ)
  .rw[CV β k e]at p;exact .inl p
 .rw[s];exact l.add i n (B (Pd i) r q)
 .rw[s];exact r
 .by_cases e:id=tag::ρ
  .subst e;simp at g;subst g;exact .inr (.inl AA)
  .rw[CV β k e]at g;exact .inl g
def sR(H:HR A β w h)(e: ∀id,ρ<:+id->β id=none)(b:Hh β w (MS A β h) cs c)(elem:TypeId):
 Ew A ρ β w h (.ok (.value (.pointer (some ⟨w.heap.size,0,none⟩))) (World.add w (.cells c elem))) ⟨.ptr (0::ρ) 0,[(0::ρ,.box cs)]⟩:=by
 refine VD H (.refl h) rfl ⟨rfl,rfl⟩ e 0 (k:=⟨w.heap.size,0,0⟩) rfl rfl ?_ ?_
 .intro a g f _;exact⟨c,elem,MM w _,b.mono g f⟩
 .intro a;exact .ptr _ _ _ (HS _ _ _)
variable{z:Value}
def AA4(e:(z.cells.toList.map EJ).all AV.isCell=true):Hh β w M (z.cells.toList.map EJ) z.cells:=by
 refine⟨AG,fun i x v a c=>?_⟩;simp only[D7,Bv,IS]at a;obtain⟨f,b,rfl⟩:=a;rw[c]at b;cases b;exact Jc
def Eb{i:TypeInfo}(h:P.info? t=some i)(a:i.zero=some z):(zeroValue t).run P w=.ok z w:=by
 simp[zeroValue,typeInfo,h,a]
def sF(H:HR A β w h)(g: ∀id,ρ<:+id->β id=none)(a:LF ρ (Cb P mix t)=some eff):
 Ew A ρ β w h ((do pure (.value (<-Instr.alloc t true (.tuple #[]))):Sem Next).run P w) eff:=by
 cases b:Cb P mix t with
 |none=>simp[LF,b]at a
 |some i=>
  obtain⟨info,d,z,c,h2,e,k,rfl⟩:=BZ b;simp only[LF,b]at a;split at a
  .rename_i f;cases a;have:=sR H g (AA4 (β:=β) (w:=w) (M:=MS A β h) f.2) t;have j:((do pure (.value (<-Instr.alloc t true (.tuple #[]))):Sem Next).run P w)=.ok (.value (.pointer (some ⟨w.heap.size,0,none⟩))) (World.add w (.cells z.cells t)):=by
    simp[Instr.alloc,Eb c e,newVar,newRow,World.add]
   rw[j];exact this
  .cases a
def l9(H:HR A β w h)(f: ∀id,ρ<:+id->β id=none){x:AV}{b:Value}(j:VR β w (MS A β h) x b)
 (a:Sw ρ x (Cb P mix t)=some eff):Ew A ρ β w h ((do pure (.value (<-Instr.box t b)):Sem Next).run P w) eff:=by
 cases c:Cb P mix t with
 |none=>simp[Sw,c]at a
 |some i=>
  simp only[Sw,c]at a;split at a
  .rename_i e;cases a;have:=sR H f (j.cellsOk e.2).1 t;have g:((do pure (.value (<-Instr.box t b)):Sem Next).run P w)=.ok (.value (.pointer (some ⟨w.heap.size,0,none⟩))) (World.add w (.cells b.cells t)):=by
    simp[Instr.box,newVar,newRow,World.add]
   rw[g];exact this
  .cases a
def R4(H:HR A β w h){w₁:World}(o:w₁.heap=w.heap)(B:w₁.os=w.os/\w₁.output=w.output)(z: ∀id,ρ<:+id->β id=none){j:TI}{es:List (List AV)}{cap:Nat}
 (u:c.size=cap*j.size) (t:es.length<=cap) (l: ∀(i:Nat) (x:AV) (v:Value),es.flatten[i]? =some x->c[i]? =some v->VR β w (MS A β h) x v) 
 (f:newArr h.get ρ j es=some eff):
 Ew A ρ β w h (.ok (.value (.slice (some ⟨w.heap.size,0,none⟩) es.length cap)) (World.add w₁ (.cells c elem))) eff:=by
 unfold newArr at f;split at f
 .cases f
 .rename_i y;simp only[AP,D3,beq_iff_eq]at y;obtain⟨⟨J,n⟩,O⟩:=y;have n:0<j.size:=by simpa[UP]using n
  have C: ∀e∈es,e.length=j.size:=fun e h=>(J e h).1;have D:es.length*j.size<=c.size:=by rw[u];exact HM _ t
  split at f
  .cases f;refine VD H (.refl h) o B z 1 (k:=⟨w.heap.size,j.size,c.size⟩) rfl rfl ?_ ?_
   .intro q F g _;exact⟨c,elem,by rw[<-o];exact MM w₁ _,rfl,n,rfl,C,D,fun i x v a b=>(l i x v a b).mono F g⟩
   .intro q;exact zEC
  .split at f
   .rename_i ds m;cases f;have I: ∀p∈es.flatMap (Ca h.get),∃sz es,p.2=.i7 sz es/\h.get p.1=some (.em sz es):=by
     intro p g;obtain⟨e,_,g⟩:=CS.1 g;exact Kl g
    have r:=Ph I;have K:=La (vs:=es.flatten) I (fun p g=>by
     obtain⟨v,l,g⟩:=CS.1 g;obtain⟨e,f,l⟩:=Nl.1 l;exact CS.2 ⟨e,f,CS.2 ⟨v,l,g⟩⟩) (Fy m)
    obtain⟨M,N⟩:=FR (Fy m);refine VD (r.hr H) r.sub o B z 1 (k:=⟨w.heap.size,j.size,c.size⟩) rfl (by rw[AD.puts_append];rfl) ?_ ?_
    .intro q F g L;refine⟨c,elem,by rw[<-o];exact MM w₁ _,rfl,n,rfl,Ma m C,by rw[(Iu m).1];exact D,fun i x v a b=>?_⟩;have s:i<es.flatten.length:=by rw[<-M];exact(BV.1 a).1
     exact(Oe H r.sub (l i _ v (CO s) b) (N i _ x (CO s) a) (K _ (No s))).mono L
    .intro q;exact zEC
   .cases f
variable{A:Nat->Prop}{P:Program}{mix:List TypeId}{β:BK}{w:World}{M:Nat->Prop}
def SA(x:Go.Obj)(M:Nat->Prop):FG A M w M (World.add w x):=⟨fun b a _=>J6 w x a,by rw[KX];omega,fun _ h=>.inl h,rfl,rfl⟩
def HR.add'(H:HR A β w h)(x:Go.Obj):HR A β (World.add w x) h:=
 H.step (.refl β) (SA x _) (fun _ _ b=>.inl ⟨b,fun k a=>J6 w x (H.bnd _ k a)⟩) H.inj (fun id k a=>by rw[KX];have:=H.bnd id k a;omega) H.out
def fo(vs:List Value): ∀(c:Array Value) (off j:Nat),off+j+vs.length<=c.size->
 (vs.zipIdx j).foldl (fun cs (x:Value×Nat)=>cs.setIfInBounds (off+x.2) x.1) c=HN c (off+j) vs:=by
 induction vs with
 |nil=>intro c off j _;simp[HN]
 |cons v vs k=>
  intro c off j h;simp only[List.length_cons]at h;rw[List.zipIdx_cons,Mp,k _ _ _ zFc];apply PL;intro i;rw[GL (c:=c.setIfInBounds (off+j) v) (off:=off+(j+1)) (vs:=vs) zFc i,
   GL (c:=c) (off:=off+j) (vs:=v::vs) zEr i]
  simp only[List.length_cons,KW];by_cases h2:i<off+j
  .have a:i<off+(j+1):=AA;have b: ¬off+j=i:=AA;simp only[h2,a,b,F6,FN]
  .by_cases g:i=off+j
   .subst g;have a:off+j<off+(j+1):=AA;have b:off+j<off+j+(vs.length+1):=AA;have e:off+j<c.size:=AA;simp[a,b,e]
   .have a: ¬i<off+(j+1):=AA;have b: ¬off+j=i:=AA;have e:i-(off+j)=(i-(off+(j+1)))+1:=AA;have f:(i<off+(j+1)+vs.length)↔(i<off+j+(vs.length+1)):=AA;simp only[h2,a,b,FN,e,GS,f]
def TV{t pl':Nat->Option (Nat×Nat)}(o: ∀i,t i=pl' i): ∀(ps:List (Nat×AV)) (f:List (Nat×Value)) (cs g:List AV) (c:Array Value),Hh β w M cs c->
 ps.length=f.length->(∀(i:Nat) p q,ps[i]? =some p->f[i]? =some q->p.1=q.1/\VR β w M p.2 q.2)->DU t cs ps=some g-> ∃c',Instr.fill pl' c f=some c'/\Hh β w M g c'
 |[],f,cs,g,c,hc,hl,_,b=>by
  cases f with
  |nil=>simp[DU]at b;subst b;exact⟨c,rfl,hc⟩
  |cons q f=>simp at hl
 |(i,v)::ps,f,cs,g,c,hc,hl,hr,b=>by
  cases f with
  |nil=>simp at hl
  |cons q f=>
   obtain⟨j,h⟩:=q;obtain⟨e,s⟩:=hr 0 (i,v) (j,h) rfl rfl;simp only at e s;subst e;simp only[DU]at b;split at b
   .rename_i off size l;split at b
    .rename_i m;simp only[IN]at b;obtain⟨u,r,b⟩:=b;have k:=(s.cellsOk m.2).1;have C:h.cells.size=size:=by rw[<-k.1];exact m.1
     have A:off+h.cells.size<=c.size:=by rw[<-hc.1,<-k.1];exact(FC r).1
     have y:=Tp hc (vs:=h.cells.toList) ⟨by simpa using k.1,fun a H z D F=>k.2 a H z D zFE⟩ r;obtain⟨c',x,h2⟩:=TV o ps f u g _ y (by simpa using hl) (fun a p q l B=>hr (a+1) p q zFH zE4) b;refine⟨c',?_,h2⟩;have n:=fo h.cells.toList c off 0 (by simpa using A);rw[Instr.fill,<-o,l];simp only;rw[Ci (by simp[C];omega)];rw[<-x];congr 1;simp only[Nat.add_zero]at n;rw[<-n,<-Array.foldl_toList,Array.toList_zipIdx]
    .cases b
   .cases b
def cw{e:Nat->AV}{a:Act}(f:Kz β w M e fun t=>a.tmps.getD t Go.undef)(ps:Array (Nat×Operand)):
 (Fa e ps).length=(ps.map fun(x:Nat×Operand)=>(x.1,a.eval x.2)).toList.length/\
 ∀(i:Nat) p q,(Fa e ps)[i]? =some p->(ps.map fun(x:Nat×Operand)=>(x.1,a.eval x.2)).toList[i]? =some q->p.1=q.1/\VR β w M p.2 q.2:=by
 refine⟨by simp[Fa],fun i p q b c=>?_⟩;simp only[Fa,D7,IS,Bv]at b;obtain⟨x,g,rfl⟩:=b;simp only[IS,RD,g,F3,Co]at c;subst c;exact⟨rfl,J3 f _⟩
def iC(a:List Field)(c: ∀f∈a,∃i,P.info? f.type=some i):
 (a.mapM fun(f:Field)=>(do pure (f.offset,<-sizeOf f.type):Sem (Nat×Nat))).run P w=.ok (a.map fun f=>(f.offset,P.cellsOf f.type)) w:=by
 induction a with
 |nil=>rfl
 |cons f a e=>
  obtain⟨i,b⟩:=c f AG;rw[List.mapM_cons];simp only[Sem.run_bind,Cp b,Result.andThen_ok,Sem.run_pure,e (fun f h=>c f zE5),By,Program.cellsOf,b,F3,GO]
variable{ps:Array (Nat×Operand)}
def sU(H:HR A β w h)(r:Kz β w (MS A β h) e fun t=>a.tmps.getD t Go.undef)
 (c:LG (Fa e ps) (Cb P mix t)=some eff):
 Ew A ρ β w h ((do pure (.value (<-Instr.build t (ps.map fun(x:Nat×Operand)=>(x.1,a.eval x.2)))):Sem Next).run P w) eff:=by
 cases g:Cb P mix t with
 |none=>simp[LG,g]at c
 |some i=>
  obtain⟨info,d,z,p,h2,q,⟨_,l,_⟩,rfl⟩:=BZ g;simp only[LG,g]at c;split at c
  .cases c
  .rename_i j;simp only[AP,beq_iff_eq,As,OS]at j;simp only[Bv]at c;obtain⟨cs,u,rfl⟩:=c;obtain⟨I,J⟩:=cw r ps;have F:Hh β w (MS A β h) (z.cells.toList.map EJ) z.cells:=⟨AG,fun i x v m D=>by
    simp only[D7,Bv,IS]at m;obtain⟨L,n,rfl⟩:=m;rw[D]at n;cases n;exact Jc⟩
   cases d with
   |struct b=>
    simp only[L4,D3,AP,I5]at l;have y:=iC (P:=P) (w:=w) b.toList fun f s=>(l f s).1;have C: ∀k:Nat,(((Nc P (.struct b))[k]?).map fun(f:Nat×Nat×Bool)=>(f.1,f.2.1))=(b.toList.map fun f=>(f.offset,P.cellsOf f.type)).toArray[k]? :=by
     intro k;simp only[Nc,D7,Option.map_map,On];cases b.toList[k]? <;>simp[Program.cellsOf]
    obtain⟨c',K,o⟩:=TV (pl':=fun k=>(b.toList.map fun f=>(f.offset,P.cellsOf f.type)).toArray[k]?) C _ _ _ _ z.cells F I J u;have B:(b.mapM fun(f:Field)=>(do pure (f.offset,<-sizeOf f.type):Sem (Nat×Nat))).run P w=.ok (b.toList.map fun f=>(f.offset,P.cellsOf f.type)).toArray w:=by
     rw[Array.mapM_eq_mapM_toList,Sem.run_map,y,Result.andThen_ok]
    refine .plain H (v:=.agg c') ?_ rfl (.agg _ _ o.1 o.2);simp only[Sem.run_bind,Instr.build,Eb p q,Result.andThen_ok,run_underlying h2,B,K,Sem.run_pure]
   |_=>simp[vB]at j
def jD(z:Array Value)(n:Nat)(i:Nat):((Array.range n).map (z[· % z.size]!))[i]? =if i<n then some z[i % z.size]! else none:=by
 simp only[RD,Array.getElem?_range];split<;>rfl
def eH{z:Value}{n sz:Nat}(p:z.cells.size=sz):Hh β w M ((List.replicate n (z.cells.toList.map EJ)).flatten) ((Array.range (n*sz)).map (z.cells[· % z.cells.size]!)):=by
 subst p;have f: ∀e∈List.replicate n (z.cells.toList.map EJ),e.length=z.cells.size:=by
  intro e l;rw[Pl l];simp
 refine⟨by rw[Da f];simp,fun i x v o b=>?_⟩;rw[jD]at b;split at b
 .rename_i c;cases b;have m:0<z.cells.size:=Nat.pos_of_mul_pos_left (Nat.lt_of_le_of_lt (It _) c);have h:i/z.cells.size<n:=Nat.div_lt_of_lt_mul (by rw[Pm];exact c);have h2:i % z.cells.size<z.cells.size:=UN _ m;have j:i=i/z.cells.size*z.cells.size+i % z.cells.size:=by rw[Pm];exact(Nat.div_add_mod i _).symm
  have a:=Je f (k:=i/z.cells.size) (e:=z.cells.toList.map EJ) zE5 h2;rw[<-j,o]at a;have a:=a.symm;simp only[D7,Bv,IS]at a;obtain⟨q,g,rfl⟩:=a;rw[getElem!_pos z.cells (i % z.cells.size) h2];rw[Ex h2]at g;cases g;exact Jc
 .cases b
def UH(sz:Nat): ∀(n:Nat) (l:List α),(IB sz n l).length=n
 |0,_=>rfl
 |n+1,l=>by simp[IB,UH sz n]
def Sd{α:Type}(sz:Nat): ∀(n:Nat) (l:List α),l.length=n*sz->(IB sz n l).flatten=l
 |0,l,h=>by
  have:l=[]:=MD.1 AA;subst this;rfl
 |n+1,l,h=>by
  simp only[IB,ON];rw[Sd sz n (l.drop sz) (by rw[Ii,h,IT];omega),Mk]
def Ew.other(H:HR A β w h){x:Go.Obj}(a:eff.δ=[])(c:VR β (World.add w x) (MS A β h) eff.v v):
 Ew A ρ β w h (.ok (.value v) (World.add w x)) eff:=
 ⟨_,v,_,β,rfl,.inl rfl,.refl β,fun _ h=>.inl h,by rw[a];exact H.add' x,by rw[a];exact SA x _,by rw[a];exact c,fun _ b _=>J6 w x b,fun _ _ h=>.inl h⟩
def Vw(H:HR A β w h)(V: ∀id,ρ<:+id->β id=none)(u:Kz β w (MS A β h) e fun t=>a.tmps.getD t Go.undef)
 (b:DQ (Cb P mix) h.get ρ n (Fa e ps) (Cb P mix t)=some eff):
 Ew A ρ β w h ((do pure (.value (<-Instr.buildSlice t n (ps.map fun(x:Nat×Operand)=>(x.1,a.eval x.2)))):Sem Next).run P w) eff:=by
 cases D:Cb P mix t with
 |none=>simp[DQ,D]at b
 |some i=>
  obtain⟨info,d,z,az,h2,a0,_,rfl⟩:=BZ D;simp only[DQ,D]at b;split at b
  .rename_i j q L;cases d with
   |slice r=>
    simp only[JK]at L;obtain⟨g,ar,T,g1,av,U,_,rfl⟩:=BZ L;unfold H9 at b;split at b
    .rename_i cs y;obtain⟨Q,R⟩:=cw u ps;split at b
     .cases b;obtain⟨c',l,F⟩:=TV (β:=β) (w:=w) (M:=MS A β h) (pl':=fun k=>some (k*g.size,g.size)) (fun _=>rfl) _ _ _ _ #[] ⟨rfl,AG⟩ Q R y;have C:((do pure (.value (<-Instr.buildSlice t 0 (ps.map fun(x:Nat×Operand)=>(x.1,a.eval x.2)))):Sem Next).run P w)=.ok (.value (.slice (some ⟨w.heap.size,0,none⟩) 0 0)) (World.add w (.cells c' r)):=by
       have o:((Array.range 0).map ((#[]:Array Value)[· % (#[]:Array Value).size]!))= #[]:=AG;simp only[Sem.run_bind,Instr.buildSlice,run_underlying h2,Result.andThen_ok,Cp g1,Nat.zero_mul,F6,Sem.run_pure,o];rw[Ci AZ];simp only[Sem.run_bind,Sem.run_pure,Result.andThen_ok,o];rw[l];simp[newRow,World.add]
      rw[C];exact .other H rfl (.emp _)
     .rename_i n' a1;split at b
      .rename_i I;simp only[AP,beq_iff_eq,As,OS]at I;obtain⟨s,O⟩:=I;have s:n*g.size<=2 ^ 24:=Ge s;obtain⟨c',l,F⟩:=TV (pl':=fun k=>some (k*g.size,g.size)) (fun _=>rfl) _ _ _ _ _ (eH (β:=β) (w:=w) (M:=MS A β h) (n:=n) O) Q R y;have K:cs.length=n*g.size:=by
        have W: ∀(S:Nat->Option (Nat×Nat)) (ps:List (Nat×AV)) (cs m:List AV),DU S cs ps=some m->m.length=cs.length:=by
         intro S ps;induction ps with
         |nil=>intro cs m f;simp[DU]at f;rw[f]
         |cons p ps ac=>
          intro cs m f;obtain⟨a2,a3⟩:=p;simp only[DU]at f;split at f
          .split at f
           .simp only[IN]at f;obtain⟨ai,ad,ag⟩:=f;rw[ac _ _ ag];exact(FC ad).2.1
           .cases f
          .cases f
        rw[W _ _ _ _ y,Da (sz:=g.size) (fun e u=>by rw[Pl u];simpa using O)];simp
       have J:(IB g.size n cs).length=n:=UH _ _ _;have N:=R4 H (w₁:=w) rfl ⟨rfl,rfl⟩ V (elem:=r) (c:=c') (cap:=n) (by simp only;rw[<-F.1,K]) (by rw[J];exact Es n) (by
        rw[Sd _ _ _ K];intro i x v Z Y;exact F.2 i x v Z Y) b
       rw[J]at N;have C:((do pure (.value (<-Instr.buildSlice t n (ps.map fun(x:Nat×Operand)=>(x.1,a.eval x.2)))):Sem Next).run P w)=.ok (.value (.slice (some ⟨w.heap.size,0,none⟩) n n)) (World.add w (.cells c' r)):=by
        by_cases B:n*g.size=0
        .have X:((Array.range (n*g.size)).map (T.cells[· % T.cells.size]!))= #[]:=by rw[B];simp
         have o:((Array.range 0).map ((#[]:Array Value)[· % (#[]:Array Value).size]!))= #[]:=AG;rw[X]at l;simp only[Sem.run_bind,Instr.buildSlice,run_underlying h2,Result.andThen_ok,Cp g1,B,F6,Sem.run_pure];rw[Ci AZ];simp only[Sem.run_bind,Sem.run_pure,Result.andThen_ok,o];rw[l];simp[newRow,World.add]
        .simp only[Sem.run_bind,Instr.buildSlice,run_underlying h2,Result.andThen_ok,Cp g1,Ci (Nat.not_lt.2 s),B,FN,Sem.run_pure,Eb g1 U];rw[l];simp[newRow,World.add]
       rw[C];exact N
      .cases b
    .cases b
   |_=>simp[DA]at q<;>(try(split at q<;>(try(split at q))<;>cases q))
  .cases b
