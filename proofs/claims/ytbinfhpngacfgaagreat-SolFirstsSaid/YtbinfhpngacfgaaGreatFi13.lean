/-
  Parts of it.
-/
import Derived.ProofKit
import Derived.Test.YtbinfhpngacfgaaGreatFi6
import Derived.Test.YtbinfhpngacfgaaGreatFi12
set_option linter.all false
namespace Go.Abs
open Go
inductive Sh where
 |bool
 |int (k:IntKind)
 |str
 |be (e:TypeId)
def Hz(P:Program)(r:TypeId→Option (List Sh)):List Field→Nat→Option (List Sh)
 |[],_=>some []
 |f::fs,off=>if f.offset=off then(r f.type).bind fun ss=>if P.cellsOf f.type=ss.length then(Hz P r fs (off+ss.length)).map (ss++ ·)else none else none
def Cm(P:Program):Nat→TypeId→Option (List Sh)
 |0,_=>none
 |n+1,t=>match P.underlying t with
  |some .bool=>some [.bool]
  |some (.int k)=>some [.int k]
  |some .string=>some [.str]
  |some (.slice e)=>some [.be e]
  |some (.struct fs)=>(Hz P (Cm P n) fs.toList 0).bind fun ss=>if P.cellsOf t=ss.length then some ss else none
  |some (.array n' e)=>(Cm P n e).bind fun ss=>if P.cellsOf e=ss.length∧P.cellsOf t=n'*ss.length then some (List.replicate n' ss).flatten else none
  |_=>none
inductive YV(P:Program)(n:Nat):Sh→AU→Prop
 |bool (b):YV P n .bool (.bool b)
 |int (k m):(Lit.int k m).wf=true→YV P n (.int k) (.int k m)
 |str (s):s.size≤maxLen→YV P n .str (.str s)
 |be (t) (ss) (es:List (List AU)):Cm P n t=some ss→es.length≤maxLen→(∀e∈es,e.length=ss.length)→(∀e∈es,∀(i:Nat) s x,ss[i]? =some s→e[i]? =some x→YV P n s x)→YV P n (.be t) (.be es)
def Jg(P:Program)(n:Nat)(ss:List Sh)(xs:List AU):Prop:=xs.length=ss.length∧ ∀(i:Nat) s x,ss[i]? =some s→xs[i]? =some x→YV P n s x
def Sh.inE(E:List TypeId):Sh→Bool
 |.be e=>E.any (Nat.beq e)
 |_=>true
def y9(P:Program)(n:Nat)(E:List TypeId)(e:TypeId):Bool:=match Cm P n e with
 |some ss=>decide (P.cellsOf e=ss.length)&&decide (0<ss.length)&&ss.all (Sh.inE E)
 |none=>false
theorem pT{P:Program}{n:Nat}{E:List TypeId}(hE:E.all (y9 P n E)=true){e:TypeId}(h:Sh.inE E (.be e)=true): ∃ss,Cm P n e=some ss∧P.cellsOf e=ss.length∧0<ss.length∧ss.all (Sh.inE E)=true:=by
 simp only[Sh.inE,RW]at h;obtain⟨e',he,hb⟩:=h;have hb:=Co hb;subst hb;have:=CO.1 hE _ he;unfold y9 at this;split at this
 .rename_i ss hs;simp only[AS,As]at this;exact⟨ss,hs,this.1.1,this.1.2,this.2⟩
 .cases this
inductive Fl(P:Program)(n:Nat)(w:World):List Sh→List Value→List AU→Prop
 |nil:Fl P n w [] [] []
 |cons {s v x ss vs xs}:YV P n s x→DR w (fun _=>False) x v→Fl P n w ss vs xs→Fl P n w (s::ss) (v::vs) (x::xs)
variable{P:Program}{n:Nat}{w:World}
theorem Fl.append{ss ss':List Sh}{vs vs':List Value}{xs xs':List AU}(h:Fl P n w ss vs xs)(h':Fl P n w ss' vs' xs'):Fl P n w (ss++ss') (vs++vs') (xs++xs'):=by
 induction h with
 |nil=>exact h'
 |cons a b _ ih=>exact .cons a b ih
theorem Fl.len{ss:List Sh}{vs:List Value}{xs:List AU}(h:Fl P n w ss vs xs):vs.length=ss.length∧xs.length=ss.length:=by
 induction h with
 |nil=>exact⟨rfl,rfl⟩
 |cons a b _ ih=>simp[ih.1,ih.2]
theorem Fl.has{P:Program}{n:Nat}{w:World}{ss:List Sh}{vs:List Value}{xs:List AU}(h:Fl P n w ss vs xs):Jg P n ss xs:=by
 refine⟨h.len.2,?_⟩;induction h with
 |nil=>intro i s x h;simp at h
 |cons a b _ ih=>
  intro i s x h1 h2;cases i with
  |zero=>simp at h1 h2;subst h1 h2;exact a
  |succ i=>exact ih i s x (by simpa using h1) (by simpa using h2)
theorem Fl.dr{P:Program}{n:Nat}{w:World}{ss:List Sh}{vs:List Value}{xs:List AU}(h:Fl P n w ss vs xs): ∀(i:Nat) x v,xs[i]? =some x→vs[i]? =some v→DR w (fun _=>False) x v:=by
 induction h with
 |nil=>intro i s x h;simp at h
 |cons a b _ ih=>
  intro i x v h1 h2;cases i with
  |zero=>simp at h1 h2;subst h1 h2;exact b
  |succ i=>exact ih i x v (by simpa using h1) (by simpa using h2)
theorem NV{α β:Type}{f:α→Option β}: ∀{l:List α} {ys:List β},l.mapM f=some ys→ys.length=l.length∧ ∀(i:Nat) x,l[i]? =some x→ ∃y,ys[i]? =some y∧f x=some y
 |[],ys,h=>by simp at h;subst h;simp
 |a::l,ys,h=>by
  rw[List.mapM_cons]at h;cases ha:f a with
  |none=>simp[ha]at h
  |some b=>
   cases hl:l.mapM f with
   |none=>simp[ha,hl]at h
   |some bs=>
    simp[ha,hl]at h;subst h;obtain⟨h1,h2⟩:=NV hl;refine⟨by simp[h1],fun i x hx=>?_⟩;cases i with
    |zero=>simp at hx;subst hx;exact⟨b,rfl,ha⟩
    |succ i=>simpa using h2 i x (by simpa using hx)
theorem pick{α:Type}{p:Nat→α→Prop}: ∀(n:Nat),(∀i,i<n→ ∃d,p i d)→ ∃es:List α,es.length=n∧ ∀(i:Nat) d,es[i]? =some d→p i d
 |0,_=>⟨[],rfl,fun i d h=>by simp at h⟩
 |n+1,h=>by
  obtain⟨es,h1,h2⟩:=pick n fun i hi=>h i (by omega);obtain⟨d,hd⟩:=h n (by omega);refine⟨es++[d],by simp[h1],fun i x hx=>?_⟩;rw[List.getElem?_append]at hx;split at hx
  .exact h2 i x hx
  .rename_i hi;have:i-es.length=0:=by
    rcases Nat.eq_zero_or_pos (i-es.length)with h|h
    .exact h
    .rw[NO (by simp;omega)]at hx;cases hx
   have hi':i=n:=by omega
   rw[this]at hx;simp at hx;subst hx hi';exact hd
variable{H:Type}{enc:TypeId×Value→H}{P:Program}{w:World}{n:Nat}{E:List TypeId}
theorem SL{r:TypeId→List Value→Option (DataW H×List MemPlace)}{rs:TypeId→Option (List Sh)}(hr: ∀t cs y ss,r t cs=some y→rs t=some ss→ss.all (Sh.inE E)=true→ ∃xs,Fl P n w ss cs xs){cs:List Value}:
 ∀{fs:List Field} {off:Nat} {ss:List Sh} {ys},Hz P rs fs off=some ss→ss.all (Sh.inE E)=true→cs.length=off+ss.length→(fs.mapM fun f=>r f.type ((cs.drop f.offset).take (P.cellsOf f.type)))=some ys→ ∃xs,Fl P n w ss (cs.drop off) xs
 |[],off,ss,ys,h,_,hl,_=>by
  simp[Hz]at h;subst h;rw[D1 (by simp at hl;omega)];exact⟨[],.nil⟩
 |f::fs,off,ss,ys,h,ha,hl,hm=>by
  simp only[Hz]at h;split at h
  .rename_i ho;cases h1:rs f.type with
   |none=>simp[h1]at h
   |some s1=>
    simp only[h1,IP]at h;split at h
    .rename_i hc;cases h2:Hz P rs fs (off+s1.length)with
     |none=>simp[h2]at h
     |some s2=>
      simp[h2]at h;subst h;rw[List.all_append,AS]at ha;rw[List.mapM_cons]at hm;cases h3:r f.type ((cs.drop f.offset).take (P.cellsOf f.type))with
      |none=>simp[h3]at hm
      |some y=>
       cases h4:(fs.mapM fun f=>r f.type ((cs.drop f.offset).take (P.cellsOf f.type)))with
       |none=>simp[h3,h4]at hm
       |some y2=>
        obtain⟨x1,f1⟩:=hr _ _ _ _ h3 h1 ha.1;obtain⟨x2,f2⟩:=SL hr h2 ha.2 (by simp at hl;omega) h4;rw[ho,hc]at f1;have e:cs.drop off=(cs.drop off).take s1.length++cs.drop (off+s1.length):=by
         rw[←List.drop_drop,LM]
        rw[e];exact⟨x1++x2,f1.append f2⟩
    .cases h
  .cases h
variable{cs:List Value}
theorem U5{r:List Value→Option (DataW H×List MemPlace)}{ss:List Sh}(hr: ∀cs y,r cs=some y→ ∃xs,Fl P n w ss cs xs):
 ∀(m:Nat),(∀i,i<m→ ∃y,r ((cs.drop (i*ss.length)).take ss.length)=some y)→ ∃xs,Fl P n w (List.replicate m ss).flatten (cs.take (m*ss.length)) xs
 |0,_=>⟨[],by simpa using Fl.nil⟩
 |m+1,h=>by
  obtain⟨x1,f1⟩:=U5 hr m fun i hi=>h i (by omega);obtain⟨y,hy⟩:=h m (by omega);obtain⟨x2,f2⟩:=hr _ _ hy;refine⟨x1++x2,?_⟩;rw[List.replicate_succ',Jp,RG,List.take_add];simpa using f1.append f2
theorem SA{base:Nat}{a:Addr}(h:w.cells? base a n=some cs):cs.length=n∧ ∀j v,cs[j]? =some v→w.cell? (a.add j)=some v:=by
 unfold World.cells? at h;split at h
 .obtain⟨h1,h2⟩:=NV h;rw[List.length_range]at h1;refine⟨h1,fun j v hj=>?_⟩;have hlt:j<n:=by rw[←h1];exact(BE.1 hj).1
  obtain⟨y,e1,e2⟩:=h2 j j (by simp[hlt]);rw[e1]at hj;cases hj;exact e2
 .cases h
theorem VH{b off:Nat}{v:Value}(h:w.cell? ⟨b,off,none⟩=some v): ∃c elem fr,w.heap[b]? =some (.cells c elem fr)∧c[off]? =some v:=by
 unfold World.cell? at h;split at h
 .rename_i c elem fr hb;simp at h;exact⟨c,elem,fr,hb,h⟩
 .cases h
theorem qG{base sz len cap:Nat}{a:Addr}{t:TypeId}{ss:List Sh}(hsh:Cm P n t=some ss)(hsz:sz=ss.length)(h0:0<sz)(hmax:len≤maxLen)(hcap:len≤cap)
 (hel: ∀i,i<len→ ∃cs xs,w.cells? base (a.add (i*sz)) sz=some cs∧Fl P n w ss cs xs): ∃x,YV P n (.be t) x∧DR w (fun _=>False) x (.slice (some a) len cap):=by
 subst hsz;obtain⟨es,hl,hes⟩:=pick (p:=fun i xs=> ∃cs,w.cells? base (a.add (i*ss.length)) ss.length=some cs∧Fl P n w ss cs xs) len fun i hi=>by
  obtain⟨cs,xs,h1,h2⟩:=hel i hi;exact⟨xs,cs,h1,h2⟩
 have hlen: ∀e∈es,e.length=ss.length:=fun e he=>by
  obtain⟨i,hi⟩:=Hm he;obtain⟨cs,_,h2⟩:=hes i e hi;exact h2.len.2
 refine⟨.be es,.be t ss es hsh (by omega) hlen fun e he=>?_,?_⟩
 .obtain⟨i,hi⟩:=Hm he;obtain⟨cs,_,h2⟩:=hes i e hi;exact h2.has.2
 .by_cases hz:len=0
  .subst hz;have:es=[]:=CE hl;subst this;exact .rg _ _
  .have first: ∃v,w.cell? a=some v:=by
    obtain⟨cs,xs,h1,h2⟩:=hel 0 (by omega);obtain⟨l1,l2⟩:=SA h1;obtain⟨v,hv⟩: ∃v,cs[0]? =some v:=⟨cs[0],BY (by omega)⟩;have:=l2 0 v hv;simp[Addr.add]at this;exact⟨v,this⟩
   have hsp:a.spot=none:=by
    obtain⟨v,hv⟩:=first
    unfold World.cell? at hv;split at hv
    .cases hs:a.spot with
     |none=>rfl
     |some s=>simp[hs]at hv
    .cases hv
   obtain⟨b,off,sp⟩:=a;simp only at hsp;subst hsp;obtain⟨v0,hv0⟩:=first
   obtain⟨c,elem,fr,hb,_⟩:=VH hv0;have key: ∀i e,es[i]? =some e→ ∀j x,e[j]? =some x→ ∃v,c[off+(i*ss.length+j)]? =some v∧DR w (fun _=>False) x v:=by
    intro i e hi j x hj;obtain⟨cs,h1,h2⟩:=hes i e hi;obtain⟨l1,l2⟩:=SA h1;have hjl:j<cs.length:=by rw[h2.len.1,←h2.len.2];exact(BE.1 hj).1
    have hv:=BY hjl;have:=l2 j _ hv;rw[DK,DK]at this;obtain⟨c',elem',fr',hb',hc'⟩:=VH this;rw[hb]at hb';cases hb';exact⟨_,by rw[←PL];exact hc',h2.dr j x _ hj hv⟩
   rw[←hl];refine .be es b off cap ss.length c elem fr hb (fun h=>h) hlen ?_ ?_ (by omega)
   .have hlast:es.length-1<es.length:=by omega
    have hi:=BY hlast;have hle:=hlen _ (Ap hi);have hj:=BY (l:=es[es.length-1]) (i:=ss.length-1) (by omega);obtain⟨v,hv,_⟩:=key _ _ hi _ _ hj;have:=(HW.1 hv).1;have e1:es.length*ss.length=(es.length-1)*ss.length+ss.length:=by
     rw[←RG];congr 1;omega
    omega
   .intro k x v hk hv;have hkl:k<es.length*ss.length:=by
     have:=(BE.1 hk).1
     rwa [Cg hlen]at this
    have hq:k/ss.length<es.length:=(Nat.div_lt_iff_lt_mul h0).2 hkl;have hm:k % ss.length<ss.length:=Nat.mod_lt _ h0;have hi:=BY hq;have ek:k/ss.length*ss.length+k % ss.length=k:=by rw[Pu];exact Nat.div_add_mod ..
    have hf:=Gq hlen hi hm;rw[ek,hk]at hf;obtain⟨v',hv',hd⟩:=key _ _ hi _ _ hf.symm;rw[ek,hv]at hv';cases hv';exact hd
theorem Pa(hE:E.all (y9 P n E)=true){base:Nat}{spare:Nat→Bool}{held:Bool}: ∀{k m:Nat} {t:TypeId} {cs:List Value} {y ss},DataW.trod enc P w base spare held k t cs=some y→Cm P m t=some ss→ss.all (Sh.inE E)=true→ ∃xs,Fl P n w ss cs xs
 |0,_,_,_,_,_,h,_,_=>by simp[DataW.trod]at h
 |k+1,0,_,_,_,_,_,h,_=>by simp[Cm]at h
 |k+1,m+1,t,cs,y,ss,h,hs,ha=>by
  rw[DataW.trod_step]at h;simp only[DataW.trodStep]at h;simp only[Cm]at hs;split at hs
  .rename_i hu;cases hs;rw[hu]at h;split at h<;>rename_i e<;>first|(cases e;done)|(cases h;done)|skip
   exact⟨[_],.cons (.bool _) (.bool _) .nil⟩
  .rename_i k1 hu;cases hs;rw[hu]at h;split at h<;>rename_i e<;>first|(cases e;done)|(cases h;done)|skip
   cases e;split at h
   .rename_i hk;obtain⟨rfl,hwf⟩:=hk;exact⟨[_],.cons (.int _ _ hwf) (.int _ _) .nil⟩
   .cases h
  .rename_i hu;cases hs;rw[hu]at h;split at h<;>rename_i e<;>first|(cases e;done)|(cases h;done)|skip
   split at h
   .rename_i hk;exact⟨[_],.cons (.str _ hk) (.str _) .nil⟩
   .cases h
  .rename_i el hu;cases hs;simp only[D0,Ol,MK]at ha;obtain⟨s1,he,hc1,hc2,hc3⟩:=pT hE ha;rw[hu]at h;split at h<;>rename_i e<;>first|(cases e;done)|(cases h;done)|skip
   .exact⟨[.be []],.cons (.be _ _ _ he (by simp) (by simp) (by simp)) (.rg _ _) .nil⟩
   .cases e;split at h
    .rename_i a len cap hb;obtain⟨b1,b2,b3⟩:=hb;cases hm:(List.range len).mapM fun i=>(w.cells? base (a.add (i*P.cellsOf el)) (P.cellsOf el)).bind (DataW.trod enc P w base spare held k el)with
     |none=>rw[hm]at h;cases h
     |some elems=>
      obtain⟨m1,m2⟩:=NV hm;rw[hc1]at m2;obtain⟨x,x1,x2⟩:=qG (w:=w) (base:=base) (a:=a) (len:=len) (cap:=cap) he rfl hc2 (by omega) b2 fun i hi=>by
       obtain⟨y,_,y2⟩:=m2 i i (by simp[hi]);cases hcs:w.cells? base (a.add (i*s1.length)) s1.length with
       |none=>simp[hcs]at y2
       |some cs1=>
        simp only[hcs,IP]at y2;obtain⟨xs,hx⟩:=Pa hE y2 he hc3;exact⟨cs1,xs,rfl,hx⟩
      exact⟨[x],.cons x1 x2 .nil⟩
    .cases h
  .rename_i fs hu;cases he:Hz P (Cm P m) fs.toList 0 with
   |none=>simp[he]at hs
   |some s1=>
    simp only[he,IP]at hs;split at hs
    .rename_i hc;cases hs;simp only[hu]at h;split at h
     .rename_i hl;cases hm:(fs.toList.mapM fun f=>DataW.trod enc P w base spare held k f.type ((cs.drop f.offset).take (P.cellsOf f.type)))with
      |none=>rw[hm]at h;cases h
      |some ys=>
       have hl':cs.length=0+ss.length:=by omega
       obtain⟨xs,hx⟩:=SL (w:=w) (r:=DataW.trod enc P w base spare held k) (E:=E) (fun t cs y ss h1 h2 h3=>Pa hE h1 h2 h3) he ha hl' hm;exact⟨xs,by simpa using hx⟩
     .cases h
    .cases hs
  .rename_i n' el hu;cases he:Cm P m el with
   |none=>simp[he]at hs
   |some s1=>
    simp only[he,IP]at hs;split at hs
    .rename_i hc;cases hs;simp only[hu]at h;split at h
     .rename_i hl;cases hm:((List.range n').mapM fun i=>DataW.trod enc P w base spare held k el ((cs.drop (i*P.cellsOf el)).take (P.cellsOf el)))with
      |none=>rw[hm]at h;cases h
      |some ys=>
       obtain⟨m1,m2⟩:=NV hm;rw[hc.1]at m2;by_cases hn:n'=0
       .subst hn;have:cs.length=0:=by omega
        rw[I6.1 this];exact⟨[],.nil⟩
       .have ha':s1.all (Sh.inE E)=true:=by
         rw[CO]at ha⊢;intro x hx;exact ha x (Ls.2 ⟨s1,List.mem_replicate.2 ⟨hn,rfl⟩,hx⟩)
        obtain⟨xs,hx⟩:=U5 (w:=w) (r:=DataW.trod enc P w base spare held k el) (fun cs y h1=>Pa hE h1 he ha') (cs:=cs) n' fun i hi=>by
         obtain⟨y,_,y2⟩:=m2 i i (by simp[hi]);exact⟨y,y2⟩
        rw[D6 (by omega)]at hx;exact⟨xs,hx⟩
     .cases h
    .cases hs
  .cases hs
end Go.Abs
