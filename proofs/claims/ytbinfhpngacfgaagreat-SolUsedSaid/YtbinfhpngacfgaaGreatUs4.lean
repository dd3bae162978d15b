/- P -/
import Derived.MapKept
import Derived.Test.YtbinfhpngacfgaaGreatUs3
set_option linter.all false
open Go renaming World->G5,Value->Hk,TypeId->H5,Program->JH,Operand->M3,TypeDesc->Sm
open List renaming replicate->TL,length->U
open Option renaming some->J,none->I
open Bool renaming true->X,false->Z
namespace Go
def zCl{p:Prop}(h:p:=by cases a<;>rfl):p:=h
def zC1{p:Prop}(h:p:=by simp[Op.operands]at j⊢;simp[j]):p:=h
end Go
namespace Go
def zB7{p:Prop}(h:p:=by simpa[builtin]using this):p:=h
end Go
namespace Go.Abs
variable{A:Nat->Prop}{P:JH}{a:List H5}{β:BB}{w:G5}{M:Nat->Prop}
variable{r:Nat}{o:Go.Obj}
theorem Jk(e:w.heap[r]?=J o)(f:∀a b c,o≠ .cells a b c):(getObj r).run P w=.ok o w:=by grind [getObj,Sem.run]
def Hr{a:Go.Obj}(f:w.heap[r]?=J o)(g:∀b c e,o≠ .cells b c e):(setObj r a).run P w=.ok () (World.nl w r a):=by cases o<;>first|exact absurd rfl (g _ _ _)|(simp only[setObj,Sem.run,f];rfl)
theorem YP{i:H5}{d:Sm}(j:P.underlying i=J d){x:Au}(m:Kj (DA P i d) x=X){l:Hk}(k:DR w M x l):
 (∀f h,(Instr.checkKey f (h+1) i l).run P w=.ok () w)/\∀{b:Au} {e:Hk} {r:Bool},DR w M b e->Et b x=J r->Instr.sameNow d l e=J r:=by
 cases x<;>cases g:DA P i d<;>simp[Kj,g]at m
 .obtain⟨n,rfl⟩:=mH g;cases k;refine⟨λf h=>by simp[Instr.checkKey,run_underlying j],λ{b e r} c a=>?_⟩;cases b<;>simp[Et]at a;obtain⟨rfl,rfl⟩:=a;cases c;grind [Instr.sameNow]
 .have:=bd g;subst this;cases k;refine⟨λf h=>by simp[Instr.checkKey,run_underlying j],λ{b e r} c a=>?_⟩;cases b<;>simp[Et]at a;subst a;cases c;grind [Instr.sameNow]
 .have:=Pw g;subst this;cases k;refine⟨λf h=>by simp[Instr.checkKey,run_underlying j],λ{b e r} c a=>?_⟩;cases b<;>simp[Et]at a;subst a;cases c;grind [Instr.sameNow,beq_toListBytes]
theorem We{t:H5}{d:Sm}(m:P.underlying t=J d){h:Au}(n:Kj (DA P t d) h=X){p:Hk}(o:DR w M h p):∀(f:List (Au×y)) (e:List MapEntry) (j:Nat) (r:Option y),
 (U f)=U e->(∀(c:Nat) a b,f[c]?=J a->e[c]?=J b->DR w M a.1 b.key/\VR β w M a.2 b.val)->Bs f h=J r->
 (r=I/\Instr.findNow d p e j=J I/\∀i,CW f h i=f++[(h,i)])\/
 (∃l c a b,r=J l/\f[c]?=J a/\e[c]?=J b/\a.2=l/\Instr.findNow d p e j=J (J (j+c,b.val))/\Et a.1 h=J X/\∀i,CW f h i=f.set c (a.1,i))
 |[],e,j,r,hl,_,g=>by have:=Ok.1 hl.symm;subst this;simp[Bs]at g;exact .inl ⟨g.symm,rfl,λ_=>rfl⟩|(k,Bn)::f,e,j,r,hl,hr,g=>by
  rcases e with _|⟨b,e⟩
  .simp at hl
  .have⟨h0,h0'⟩:=hr 0 (k,Bn) b rfl rfl;simp[Bs]at g;split at g
   .rename_i heq;cases g;have s:=(YP m n o).2 h0 heq;exact .inr ⟨Bn,0,(k,Bn),b,rfl,rfl,rfl,rfl,by simp[Instr.findNow,s],heq,λi=>by simp[CW,heq]⟩
   .rename_i heq;have s:=(YP m n o).2 h0 heq;rcases We m n o f e (j+1) r (by simpa using hl) (λc a b K H=>hr (c+1) a b (by simpa using K) (by simpa using H)) g with⟨q,L,B⟩|⟨l,c,a,D,q,v,x,A,B,C,F⟩
    .grind [Instr.findNow,CW]
    .exact .inr ⟨l,c+1,a,D,q,by simpa using v,by simpa using x,A,by grind [Instr.findNow],C,λi=>by simp[CW,heq,F]⟩
   .cases g
variable{e:Type}
theorem oE{i:Type}{f:e->i}{m' m:List i}(j:m'.Perm m):∀{c:List e},c.map f=m->∃h:List e,h.Perm c/\h.map f=m':=by
 induction j with
 |nil=>intro c a;exact⟨c,.refl _,a⟩
 |cons o _ k=>
  intro c a;rcases c with _|⟨g,c⟩
  .cases a
  .rw[Bv,SP]at a;have⟨h,h1,h2⟩:=k a.2;exact⟨g::h,h1.cons g,by grind⟩
 |swap o q p=>
  intro c a
  match c,a with|g::b::c,a=>simp at a;exact⟨b::g::c,.swap g b c,by simp[a.1,a.2.1,a.2.2]⟩
 |trans _ _ l n=>intro c a;have⟨l2,h1,h2⟩:=n a;have⟨l1,h3,h4⟩:=l h2;exact⟨l1,h3.trans h1,h4⟩
theorem OT{n:Int}:∀{es:List (Au×y)},Km es->(∀a,(Au.int .i64 n,a)∈es->Bs es (.int .i64 n)=J (J a))/\((∀a,(Au.int .i64 n,a) ∉es)->Bs es (.int .i64 n)=J I)
 |[],_=>⟨AG,λ_=>rfl⟩|(k,Bn)::es,⟨h1,h2⟩=>by have⟨m,hm⟩:=h1 (k,Bn) (CO ..);dsimp only at hm;subst hm;rw[Bv,Ii]at h2;have⟨i1,i2⟩:=OT (n:=n) (es:=es) ⟨λc b=>h1 c (By _ b),h2.2⟩;grind [Et,Bs]
theorem bt{c:Int}{l:y}:∀{a:List (Au×y)} {e:Nat},Km a->a[e]?=J (.int .i64 c,l)->∀b,CW a (.int .i64 c) b=a.set e (.int .i64 c,b)
 |[],e,_,h,b=>by simp at h|(k,v)::a,0,_,h,b=>by grind [CW,Et]|(k,v)::a,e+1,⟨h1,h2⟩,h,b=>by
  rw[Hw]at h;have⟨m,hm⟩:=h1 (k,v) (CO ..);dsimp only at hm;subst hm;rw[Bv,Ii]at h2;have f:¬m=c:=λf=>h2.1 (Ex.2 ⟨_,AP h,by rw[f]⟩);have g:Et (.int .i64 m) (.int .i64 c)=J false:=by simp[Et,f]
  simp only[CW,g];rw[bt ⟨λj i=>h1 j (By _ i),h2.2⟩ h b];rfl
theorem kC{ai:H5}{d:Sm}(H:P.underlying ai=J d){h:Au}(N:Kj (DA P ai d) h=X){R:Hk}(Q:DR w M h R){a:List (Au×y)}{n:List MapEntry}{i:List MapEntry}{r:Option y}(t:n.Perm i) (a1:n=i\/Km a) (Y:U a=U i) (O:∀(c:Nat) e f,a[c]?=J e->i[c]?=J f->DR w M e.1 f.key/\VR β w M e.2 f.val) (s:Bs a h=J r):
 (r=I/\Instr.findNow d R n 0=J I/\∀k,CW a h k=a++[(h,k)])\/
 (∃x c e f g,r=J x/\a[c]?=J e/\i[c]?=J f/\e.2=x/\Instr.findNow d R n 0=J (J (g,f.val))/\n[g]?=J f/\Et e.1 h=J X/\∀k,CW a h k=a.set c (e.1,k)):=by
 rcases a1 with rfl|A
 .rcases We H N Q a n 0 r Y O s with av|⟨x,c,e,f,l,D,F,V,ar,p,W⟩
  .exact .inl av
  grind
 ·
  have a2:(a.zip i).map Prod.snd=i:=by rw[List.map_snd_zip];omega
  have⟨AW,z1,z2⟩:=oE t a2;have az:Km (AW.map Prod.fst):=by
   have K:(a.zip i).map Prod.fst=a:=by rw[List.map_fst_zip];omega
   have B:(AW.map Prod.fst).Perm a:=by rw[<-K];exact z1.map _
   refine⟨λe t=>A.1 e (B.mem_iff.1 t),(B.map Prod.fst).nodup_iff.2 A.2⟩
  have aa:∀{j},j∈AW->∃c,a[c]?=J j.1/\i[c]?=J j.2:=λ{j} o=>by obtain⟨c,L⟩:=Ci (z1.mem_iff.1 o);rw[List.getElem?_zip_eq_some]at L;exact⟨c,L.1,L.2⟩
  have K:(a.zip i).map Prod.fst=a:=by rw[List.map_fst_zip];omega
  have B:(AW.map Prod.fst).Perm a:=by rw[<-K];exact z1.map _
  have a0:Bs (AW.map Prod.fst) h=J r:=by
   rcases hes:a with _|⟨ag,a4⟩
   .grind [List.perm_nil]
   ·
    have ad:∃g,h=.int .i64 g:=by
     have⟨m,hm⟩:=A.1 ag zCN;rw[hes]at s;obtain⟨a5,v0⟩:=ag;dsimp only at hm;subst hm;cases h with
     |int a3 g=>
      by_cases f:a3=.i64
      .exact⟨g,by rw[f]⟩
      grind [Et,Bs]
     |_=>simp[Bs,Et]at s
    obtain⟨g,rfl⟩:=ad;have⟨i1,i2⟩:=OT (n:=g) A;have⟨j1,j2⟩:=OT (n:=g) az;by_cases q:∃v,(Au.int .i64 g,v)∈a
    .obtain⟨v,C⟩:=q;grind
    .rw[i2 λv C=>q ⟨v,C⟩]at s;rw[j2 λv C=>q ⟨v,B.mem_iff.1 C⟩];exact s
  rcases We (β:=β) H N Q (AW.map Prod.fst) n 0 r (by rw[<-z2];simp) (λc e f t q=>by rw[<-z2,BY,Be]at q;rw[BY,Be]at t;obtain⟨j,o,rfl⟩:=t;obtain⟨a6,ac,rfl⟩:=q;rw[o]at ac;cases ac;have⟨j2,hj1,hj2⟩:=aa (AP o);exact O j2 _ _ hj1 hj2) a0 with⟨l,b,_⟩|⟨x,c,e,f,l,D,F,V,ar,p,_⟩
  .refine .inl ⟨l,b,λk=>?_⟩;subst l;rcases We (β:=β) H N Q a i 0 I Y O s with⟨_,_,W⟩|⟨_,_,_,_,l,_⟩
   .exact W k
   .cases l
  .rw[BY,Be]at D;obtain⟨j,o,rfl⟩:=D;have T:=F;rw[<-z2,BY,o]at T;cases T;have⟨j2,hj1,hj2⟩:=aa (AP o);refine .inr ⟨x,j2,j.1,j.2,c,l,hj1,hj2,V,by grind,F,p,λk=>?_⟩;have⟨g,hn⟩:=A.1 j.1 (AP hj1);have ad:h=.int .i64 g:=by rw[hn]at p;cases h<;>simp[Et]at p;rw[p.1,p.2]
   grind [bt]
theorem AAo{c:S}(H:HR A β w c){a':u}{h:H5}{T R:y}{W i:Hk}{ok:Bool}(a1:VR β w (MS A β c) T W)(av:VR β w (MS A β c) R i){t:C3}(b:HX (Cd P a) c.get T R ok (Cd P a h)=J t):Ep A a' β w c ((do pure (.value (<-Instr.lookup h W i ok)):Sem Next).run P w) t:=by
 rcases ht:Cd P a h with _|q
 .simp[HX,ht]at b
 .obtain⟨info,d,bv,bi,x,bk,_,rfl⟩:=BJ ht;simp[HX,ht]at b;split at b
  .rename_i a2 Y a5 j az K;obtain⟨a4,be,rfl⟩:=YQ az;simp[YN]at K;have⟨ki,kd,kz,k1,k2,k3,_,hke⟩:=BJ K;split at b
   .rename_i bh n ai;have a0:a5.kind=DA P a4 kd:=by rw[hke]
    rw[a0]at n;split at b
    .rename_i r Q ar D;simp[Hh]at D;have⟨ji,jd,jz,j1,j2,j3,⟨_,_,jzs,jza⟩,hje⟩:=BJ D;have N:DR w (MS A β c) Y i:=by
      unfold RP at j;split at j
      .cases j;cases av with|d hd=>exact hd
      .cases j
     have⟨kb,hkb,en,cl,q1,_,l,p1,p2,q2,q3⟩:=H.obj a2 _ ai;cases a1 with
     |mp _ bo F=>
      rw[hkb]at F;cases F;have C:=Jk (P:=P) q1 AG;have B:=λe=>(YP (P:=P) (w:=w) (M:=MS A β c) k2 n N).1 e 9999;have bl:∀(aa:Bool),PN jd=aa->True:=λ_ _=>trivial;unfold Lu at b;have O:∀k,GY Q.agg Q.zero=J k->VR β w (MS A β c) k jz:=λk p=>by grind [qG]
      have V:∀{m:y} {s:Hk} {e:Bool},VR β w (MS A β c) m s->VR β w (MS A β c) (.kw [m,.d (.bool e)]) (.tuple #[s,.bool e]):=by
       intro m s e bn;refine .kw _ _ rfl λq Y v o L=>?_
       match q with|0=>grind|1=>simp at o L;subst o L;exact .d (.bool _)|q+2=>simp at o
      rcases kC (β:=β) k2 n N p1 p2 q2 q3 ar with⟨rfl,e,_⟩|⟨bc,a3,a6,f,bs,rfl,ac,ad,rfl,ag,_⟩
      .split at b
       .rename_i heq;cases heq
       .rename_i k p;cases b;have g:((do pure (.value (<-Instr.lookup h (.map (J kb.b)) i ok)):Sem Next).run P w)=.ok (.value (if ok then .tuple #[jz,.bool Z]else jz)) w:=by simp[Instr.lookup,run_underlying x,C,B,Instr.findKey,run_underlying k2,e,Ej j1 j3]
        cases ok
        .exact .plain H (v:=jz) (by rw[g];rfl) rfl (O _ p)
        .exact .plain H (v:=.tuple #[jz,.bool Z]) (by rw[g];rfl) rfl (V (O _ p))
       .cases b
      .have M:=(q3 a3 a6 f ac ad).2;split at b
       .rename_i heq;cases heq;cases b;have g:((do pure (.value (<-Instr.lookup h (.map (J kb.b)) i ok)):Sem Next).run P w)=.ok (.value (if ok then .tuple #[f.val,.bool X]else f.val)) w:=by simp[Instr.lookup,run_underlying x,C,B,Instr.findKey,run_underlying k2,ag]
        cases ok
        .exact .plain H (v:=f.val) (by rw[g];rfl) rfl M
        .exact .plain H (v:=.tuple #[f.val,.bool X]) (by rw[g];rfl) rfl (V M)
       all_goals grind
    .cases b
   .cases b
  .cases b
theorem ADY{a b:ByteArray}(h:(a==b)=X):a=b:=by rw[beq_toListBytes,ByteArray.toList_eq,ByteArray.toList_eq,beq_iff_eq]at h;obtain⟨⟨x⟩⟩:=a;obtain⟨⟨B0⟩⟩:=b;simp at h;rw[h]
theorem AD2{x B0:Au}(h:Et B0 x=J X):B0=x:=by
 cases B0<;>cases x<;>simp[Et]at h
 .grind
 .rw[h]
 grind [ADY]
theorem pH{e f:Au}{i h:Hk}(c:DR w M e i)(b:DR w M f h)(a:Et f e=J X):∀g,Instr.sameBits g h i=true:=by
 intro g;cases f<;>cases e<;>simp[Et]at a
 .obtain⟨rfl,rfl⟩:=a;cases c;cases b;simp[Instr.sameBits]
 .subst a;cases c;cases b;simp[Instr.sameBits]
 .cases c;cases b;grind [Instr.sameBits]
theorem br{n:S}(H:HR A β w n){b7:u}{Q:H5}{a2 a1 t:y}{b6 g k:Hk}(aa:VR β w (MS A β n) a2 b6)(cn:VR β w (MS A β n) a1 g)(b2:VR β w (MS A β n) t k){a':C3}(p:mapPut (Cd P a) n.get (Cd P a Q) a2 a1 t=J a'):Ep A b7 β w n ((do Instr.mapUpdate Q b6 g k;pure .skip:Sem Next).run P w) a':=by
 unfold mapPut at p;split at p
 .cases p
 .rename_i B;split at p
  .rename_i b3 x N;rw[N]at B;rcases ht:Cd P a Q with _|c
   .simp[ht]at B
   .obtain⟨info,d,de,bc,W,b',_,rfl⟩:=BJ ht;simp[ht]at B;split at B
    .rename_i c4 cp bv;obtain⟨c3,c7,rfl⟩:=YQ cp;simp[YN]at bv;have⟨ki,kd,kz,k1,k2,k3,_,hke⟩:=BJ bv;have cq:c4.kind=DA P c3 kd:=by rw[hke]
     rw[cq,As]at B;obtain⟨bs,_⟩:=B;split at p
     .rename_i m K;split at p
      .rename_i r bk;cases p;have O:DR w (MS A β n) x g:=by
        unfold RP at N;split at N
        .cases N;cases cn with|d hd=>exact hd
        .cases N
       have⟨kb,hkb,en,cl,q1,qb,l,p1,i,q2,q3⟩:=H.obj b3 _ K;cases aa with
       |mp _ dc bo=>
        rw[hkb]at bo;cases bo;have bl:=Jk (P:=P) q1 AG;have bi:=λb=>(YP (P:=P) (w:=w) (M:=MS A β n) k2 bs O).1 b 9999;have done:∀(V:List (Au×y)) (F:Array MapEntry) (D:Nat),CW m x t=V->
           (∀(R:Nat->Prop) (ad:G5),E5 A (MS A β n) w R ad->yE β ad R V F D)->
           (Instr.mapUpdate Q (.map (J kb.b)) g k).run P w=.ok () (World.nl w kb.b (.map F D))->
           Ep A b7 β w n ((do Instr.mapUpdate Q (.map (J kb.b)) g k;pure .skip:Sem Next).run P w) ⟨.undef,[(b3,.map (CW m x t))]⟩:=by
         intro V F D ag ar b9;rw[ag];have b0:=HZ H (o':=.map V) K rfl hkb (.map F D);refine .skip (w':=World.nl w kb.b (.map F D)) (by simp[b9]) rfl ?_ b0 (MQ _ (AS.2 rfl) hkb);exact H.upd' K rfl hkb ⟨F,D,GD _ (BT q1),ar _ _ b0⟩
        have hint:Km m->m≠ []->∀r,Bs m x=J r->∃a3,x=.int .i64 a3:=λcc a0 r K=>by
         rcases hes:m with _|⟨b5,c8⟩
         .exact absurd hes a0
         .have⟨a2,aa⟩:=cc.1 b5 zCN;rw[hes]at K;obtain⟨dd,v0⟩:=b5;dsimp only at aa;subst aa;cases x with|int a1 a3=>grind [Et,Bs]|_=>simp[Bs,Et]at K
        rcases kC (β:=β) k2 bs O p1 i q2 q3 bk with⟨rfl,b,av⟩|⟨c6,v,s,e,q,rfl,a4,C,rfl,b8,T,a5,av⟩
        .refine done (m++[(x,t)]) (en.push {key:=g,val:=k,born:=cl}) (cl+1) (av t) ?_ ?_
         .intro R ad h;refine⟨⟨?_,λe f=>?_⟩,l++[{key:=g,val:=k,born:=cl}],?_,?_,by simp[q2],λc s e j f=>?_⟩
          .rw[RT,Ap,D0];refine⟨qb.1,AG,λM be b Y e=>?_⟩;obtain⟨ag,ch,rfl⟩:=Ex.1 be;simp at Y;have:=qb.2 ag ch;omega
          .rw[RT]at f;rcases Ac.1 f with f|f
           .have:=qb.2 e f;omega
           grind
          .rw[RT];exact p1.append_right _
          .rcases i with i|i
           .grind
           .by_cases a0:m=[]
            .grind [List.perm_nil]
            .right;obtain⟨a3,rfl⟩:=hint i a0 _ bk;refine⟨λs h=>?_,?_⟩
             .rcases Ac.1 h with h|h
              .exact i.1 s h
              grind
             .rw[Ap,D0];refine⟨i.2,AG,λM be b Y e=>?_⟩;grind [OT]
          .by_cases o:c=U l
           .subst o;rw[EL z]at j f;simp[q2]at j f;subst j f;exact⟨O.mono h,b2.mono (.refl β) h⟩
           .have az:c<U l:=by have:=(BE.1 f).1;simp at this;omega
            rw[D8 az]at f;rw[D8 z]at j;exact⟨(q3 c s e j f).1.mono h,(q3 c s e j f).2.mono (.refl β) h⟩
         .simp[Instr.mapUpdate,run_underlying W,bl,bi,Instr.findKey,run_underlying k2,b,Hr (P:=P) q1 AG]
        .have c0:=q3 v s e a4 C;have bn:en[q]?=J e:=by simpa using T
         have c1:=pH O c0.1 a5 10000;refine done (m.set v (s.1,t)) (en.modify q λe=>{e with key:=g,val:=k}) cl (av t) ?_ ?_
         .intro R ad h;have c':=(Li.1 bn).1;have ac:(en.modify q λe=>{e with key:=g,val:=k}).toList=en.toList.set q {e with key:=g,val:=k}:=by
           refine Lt λc=>?_;rw[RC,Array.getElem?_modify,F7];by_cases o:q=c
           .grind
           .grind
          have bh:((en.toList.set q {e with key:=g,val:=k}).map (·.born))=en.toList.map (·.born):=by
           refine Lt λc=>?_;rw[BY,BY,F7];by_cases o:q=c
           .grind
           .rw[Co o]
          refine⟨⟨by rw[ac,bh];exact qb.1,λai cm=>?_⟩,l.set v {e with key:=g,val:=k},?_,?_,by simp[q2],λc b4 a6 j f=>?_⟩
          .have:ai.born∈en.toList.map (·.born):=by rw[<-bh,<-ac];exact Mp cm
           have⟨ar,he3,b'⟩:=Ex.1 this;have:=qb.2 ar he3;omega
          .rw[ac];have b1:∀{L:List MapEntry} {c:Nat} {M b:MapEntry},L[c]?=J M->(L.set c b).Perm (b::L.eraseIdx c)/\L.Perm (M::L.eraseIdx c):=λ{L c M b} o=>by grind [List.getElem_cons_drop,List.take_append_drop,List.set_eq_take_append_cons_drop,List.perm_middle]
           have⟨s1,s2⟩:=b1 (b:={e with key:=g,val:=k}) T
           have⟨s3,s4⟩:=b1 (b:={e with key:=g,val:=k}) C
           have cd:=List.Perm.cons_inv (s2.symm.trans (p1.trans s4));exact s1.trans ((cd.cons _).trans s3.symm)
          .rcases i with i|i
           .left;rw[ac,<-i];have cv:q=v:=by
             have Y:=qb.1;rw[<-i]at C;have c9:=(BE.1 C).1;have cs:=(BE.1 T).1;have bc:(en.toList.map (·.born))[q]?=J e.born:=by rw[BY,T];rfl
             have W:(en.toList.map (·.born))[v]?=J e.born:=by rw[BY,C];rfl
             exact(List.getElem?_inj (by simpa using cs) Y).1 (bc.trans W.symm)
            rw[cv]
           .right;have bx:(m.set v (s.1,t)).map Prod.fst=m.map Prod.fst:=by
             refine Lt λc=>?_;rw[BY,BY,F7];by_cases o:v=c
             .grind
             .rw[Co o]
            refine⟨λc5 cx=>?_,by rw[bx];exact i.2⟩;have:c5.1∈m.map Prod.fst:=by rw[<-bx];exact Mp cx
            have⟨q2,hq2,ai⟩:=Ex.1 this;rw[<-ai];exact i.1 q2 hq2
          .rw[F7]at j f;by_cases o:v=c
           .subst o;have az:=(BE.1 a4).1;have cu:=(BE.1 C).1;simp[az,cu]at j f;subst j f;refine⟨?_,b2.mono (.refl β) h⟩;have:=AD2 a5;rw[show s=(x,s.2)from Prod.ext this rfl];exact O.mono h
           .rw[Co o]at f j;exact⟨(q3 c b4 a6 j f).1.mono h,(q3 c b4 a6 j f).2.mono (.refl β) h⟩
         .have c2:(Instr.keyThatStays (((en[q]?).map (·.key)).getD g) g).run P w=.ok g w:=by rw[bn];simp[Instr.keyThatStays,c1]
          simp[Instr.mapUpdate,run_underlying W,bl,bi,Instr.findKey,run_underlying k2,b8,c2,Hr (P:=P) q1 AG]
      .cases p
     .cases p
    .cases B
  .cases p
variable{A:Nat->Prop}{P:JH}{b:List H5}{a:BB}{w:G5}{M:Nat->Prop}
def AJj(k:IntKind):lD (uX k)=k:=by cases k<;>rfl
variable{x:y}
def rL{e:S}(H:HR A a w e){s:u}{h i:H5}{j:Hk}(q:VR a w (MS A a e) x j){f:C3}(c:NX x (Cd P b h) (Cd P b i)=J f):
 Ep A s a w e ((do pure (.value (<-convert h i j)):Sem Next).run P w) f:=by
 unfold NX at c;split at c
 .rename_i C D n o;split at c
  .rename_i F r p;cases c;obtain⟨info,d,K,v,k,B,_,rfl⟩:=BJ o;obtain⟨_,t,_,_,m,_,_,rfl⟩:=BJ n;obtain⟨g,rfl⟩:=mH p;cases q with
   |d l=>
    cases l;refine .plain H (v:=.int g (g.wrap r)) ?_ rfl ?_
    .simp[convert,run_underlying m,run_underlying k,Conv.intToInt]
    .simp only[YN,AJj];exact .d (.int _ _)
  .cases c
 .cases c
theorem Xg:∀{c:List y} {b:List Au},ak c=J b->c=b.map .d
 |[],b,a=>by cases a;rfl|v::c,b,a=>by
  cases v<;>simp only[ak,reduceCtorEq]at a;split at a
  .rename_i f e;cases a;rw[Xg e];rfl
  .cases a
theorem rN:∀{l:List (List y)} {m:List (List Au)},Xh l=J m->l=m.map (·.map .d)
 :=by intro x;induction x<;>grind [Xh,Xg]
theorem Ue(size b:Nat)(a:Option Addr)(f c g e:Nat):Builtin.firstCells size b (.slice a f c)=Builtin.firstCells size b (.slice a g e):=zCl
theorem Xe{h:S}(H:HR A a w h){j:Nat}{x:y}{i:Hk}(r:VR a w (MS A a h) x i){c:List (List y)}(f:Jy h.get j x=J c){size:Nat}(q:∀k∈c,U k=size):
 ∃b g e,i=.slice b g e/\Nat.min g j=U c/\∃arr:Array Hk,(Builtin.firstCells size (U c) i).run P w=.ok arr w/\HQ a w (MS A a h) c.flatten arr:=by
 have other:∀c,Cx h.get x=J c->(U c)<=j->(∀k∈c,U k=size)->∃b g e,i=.slice b g e/\Nat.min g j=U c/\∃arr:Array Hk,(Builtin.firstCells size (U c) i).run P w=.ok arr w/\HQ a w (MS A a h) c.flatten arr:=λc f p q=>by obtain⟨b,e,rfl,arr,t,v⟩:=Su (P:=P) H r f q;grind
 unfold Jy at f;split at f
 .rename_i s m len;cases r with
  |ii _ _ _ l b cap C p o B=>
   have K:VR a w (MS A a h) (.ii s m (min len j)) (.slice b (min len j) cap):=.ii s m _ l b cap C p z B;have V:U c=min len j:=by
    simp only[Cx,He]at f;obtain⟨D,_,n⟩:=f;unfold Kd at n;split at n
    .grind
    .cases n
   have⟨a',c',k,arr,t,v⟩:=Su (P:=P) H K f q;grind [Ue]
 .split at f
  .rename_i g o;split at f
   .cases f;have done:∀{b:Option Addr} {l e:Nat},i=.slice b l e->∃b g e,i=.slice b g e/\Nat.min g 0=([]:List (List y)).length/\∃arr:Array Hk,(Builtin.firstCells size ([]:List (List y)).length i).run P w=.ok arr w/\HQ a w (MS A a h) (([]:List (List y)).flatten) arr:=λ{b l e} k=>by subst k;refine⟨b,l,e,rfl,Nat.min_zero _, #[],?_,rfl,AG⟩;cases b<;>simp[Builtin.firstCells,loadCells,loadCellsFrom]
    cases r with
    |d F=>cases F with|lst0 b cap=>exact done rfl|co D L m cap W e elem M t v N O Q R=>exact done rfl|_=>simp[Cx]at o
    |d8=>exact done rfl|emp b=>exact done rfl|ii s m len l b cap C p T B=>exact done rfl|_=>simp[Cx]at o
   grind
  .cases f
theorem AIY{j:S}(H:HR A a w j){ρ:u}{L ty:H5}{ts:List H5}{a4 x:y}{a5 a6:Hk}(az:VR a w (MS A a j) a4 a5)(g:VR a w (MS A a j) x a6){ac:C3}(e:JK (Cd P b) j.get (Cd P b L) a4 x=J ac):
 Ep A ρ a w j (((Builtin.copy_ ⟨L::ts⟩ ty #[a5,a6]).run P w).andThen λv bv=>.ok (.value v) bv) ac:=by
 rcases ht:Cd P b L with _|b'
 .simp[JK,ht]at e
 .obtain⟨info,d,cd,b1,o,b2,_,rfl⟩:=BJ ht;simp only[JK,ht]at e;split at e
  .rename_i a3 bs k K R p;obtain⟨a',rfl⟩:=DN R;simp only[Hh]at p;have⟨info',d',z',g1,g2,g3,⟨_,_,hzs,_⟩,hje⟩:=BJ p;have b4:a3.size=info'.size:=by rw[hje]
   cases az with
   |ii _ _ _ f M cap C b6 b5 be=>
    split at e
    .rename_i W V;unfold UX at e;split at e
     .rename_i b9 b0 i Q bk;split at e
      .rename_i O;simp only[Be]at e;obtain⟨bc,a1,rfl⟩:=e;have a0:=rN bk;have⟨k',ag,c,elem,q1,q2,q3,q4,q5,q6,q7⟩:=H.obj bs _ Q;rw[C]at ag;cases ag;subst q2;have bi:∀aa∈W,U aa=info'.size:=λaa b3=>by grind
       obtain⟨m,l,t,rfl,q,arr,T,r⟩:=Xe (P:=P) H g V bi;have ar:U W=U i:=by rw[a0,BV]
       have b7:0<U i:=O.1.2;have⟨s1,s2,_⟩:=Ei a1;have b8:U i<=K:=by rw[<-ar,<-q];exact Nat.min_le_right ..
       have bh:M=J ⟨f.b,k*f.sz,I⟩:=be.resolve_right z;subst bh;have⟨l1,l3⟩:=QK q5 O.2 a1;have ad:W.flatten=i.flatten.map .d:=by rw[a0,Rd]
       have B:arr.size=U i*f.sz:=by rw[<-r.1,ad,BV,EP O.2]
       have ai:k*f.sz+U arr.toList<=c.size:=by have:=HM f.sz s1;rw[Ls]at this;rw[On,B];omega
       have bn:∀v∈arr.toList,v.oneCell'=true:=λv h=>r.cellsOne (λx g=>by rw[ad]at g;obtain⟨cc,_,rfl⟩:=Ex.1 g;rfl) v zCV
       have a2:=Hf (P:=P) arr.toList (k*f.sz) w c 0 q1 (by simpa using ai) bn;simp only[Nat.add_zero]at a2;have bo:(Builtin.copy_ ⟨L::ts⟩ ty #[.slice (J ⟨f.b,k*f.sz,I⟩) K cap,.slice m l t]).run P w=.ok (goInt (U i)) (World.nl w f.b (.cells (Gr c (k*f.sz) arr.toList) elem (0,0))):=by
        have n:(Builtin.firstCells info'.size (Nat.min l K) (.slice m l t)).run P w=.ok arr w:=by rw[q];exact T
        have av:Nat.min l K=U i:=by rw[q,ar]
        rw[av]at n;simp[Builtin.copy_,run_underlying o,Builtin.lenOf,CG g1,av,n,a2]
       have F:=HZ H (o':=.f9 f.sz bc) Q rfl C (.cells (Gr c (k*f.sz) arr.toList) elem (0,0));refine⟨_,goInt (U i),_,a,by rw[bo];rfl,.inl rfl,.refl a,λ_ j=>.inl j,?_,F,.d (.int _ _),MQ _ (AS.2 rfl) C,λ_ _ j=>.inl j⟩;refine H.upd' Q rfl C ⟨_,elem,GD _ (BT q1),rfl,q3,by grind [FG],l1,by grind [FG],λs x v g h=>?_⟩;rw[l3]at g;rw[GH ai]at h;rw[On,B]at h;by_cases Y:s<k*f.sz
       .rw[D3 Y]at g h;exact(q7 s x v g h).mono F
       .rw[Co Y]at g h;by_cases m:s<k*f.sz+U i*f.sz
        .rw[D3 m]at g h;have N:=r.2 (s-k*f.sz) (.d x) v zCN zCN;cases N with|d N=>exact N.mono F
        .rw[Co m]at g h;exact(q7 s x v g h).mono F
      .cases e
     .cases e
    .cases e
  .rename_i a3 R p;obtain⟨a',rfl⟩:=DN R;simp only[Hh]at p;have⟨info',d',z',g1,g2,g3,_,hje⟩:=BJ p;cases az with
   |emp M=>
    split at e
    .rename_i V;cases e;obtain⟨m,l,t,rfl,q,arr,T,r⟩:=Xe (P:=P) H g V (size:=info'.size) AG;have B:arr= #[]:=by have:=r.1;simp at this;exact Jp this.symm
     subst B;have bl:Nat.min l 0=0:=q;refine .plain H (v:=.int .i64 0) ?_ rfl (.d (.int _ _));have n:(Builtin.firstCells info'.size 0 (.slice m l t)).run P w=.ok #[] w:=T;have D:l.min 0=0:=bl;rcases M with _|bx
     .simp only[Builtin.copy_,run_underlying o,Builtin.lenOf,CG g1,n,D,Sem.run_bind,Sem.run_pure,Result.andThen_ok];simp[D,n,run_underlying o,CG g1,Builtin.lenOf,goInt]
     .simp only[Builtin.copy_,run_underlying o,Builtin.lenOf,CG g1,n,D,Sem.run_bind,Sem.run_pure,Result.andThen_ok];simp[D,n,run_underlying o,CG g1,Builtin.lenOf,goInt,storeCells]
    .cases e
  .cases e
variable{A:Nat->Prop}{P:JH}{mix:List H5}{a:BB}{w:G5}{M:Nat->Prop}
def AIQ{j:S}(H:HR A a w j){f:u}(r:∀p,f<:+p->a p=I){m:Nat->y}{i:Act}(q:MI a w (MS A a j) m λh=>i.tmps.getD h Go.undef){k:Call}{e:H5}{n:C3}(b:OZ (Cd P mix) m j.get f k=J n):Ep A f a w j ((do let d<-resolve i.eval k e;invoke d.target d.args:Sem Next).run P w) n:=by
 have E:=λx=>Ki q x;obtain⟨callee,args,g⟩:=k;obtain⟨args⟩:=args;obtain⟨g⟩:=g;unfold OZ at b;split at b
 .rename_i l o;simp only at o;subst o;simp only at b;have v:((do let d<-resolve i.eval ⟨.builtin l,⟨args⟩,⟨g⟩⟩ e;invoke d.target d.args:Sem Next).run P w)=
   (builtin l ⟨g⟩ e ((⟨args⟩:Array M3).map λ|.const _=>X|_=>Z) (⟨args.map i.eval⟩:Array Hk)).run P w:=by
   simp[resolve,invoke];rfl
  rw[v];unfold LN at b;split at b
  .split at b
   .rename_i x c;split at b
    .rename_i h;split at b
     .rename_i F s;simp only[Be]at b;obtain⟨K,t,rfl⟩:=b
      match args,c with|[ox],c=>simp at c;subst c;have:=AMa (ρ:=f) (ty:=e) H (E ox) s t;exact zB7
     .cases b
    .cases b
   .cases b
  .split at b
   .rename_i B x h L c
    match args,c with|[os,ox],c=>simp at c;obtain⟨rfl,rfl⟩:=c;have:=dw (ty:=e) H r (E os) (E ox) b;exact zB7
   .cases b
  .split at b
   .rename_i x h c
    match args,c with|[ox],c=>simp at c;subst c;have:=ADt (ρ:=f) (ty:=e) H (E ox) b;exact zB7
   .cases b
  .split at b
   .rename_i B x h C c
    match args,c with|[os,ox],c=>simp at c;obtain⟨rfl,rfl⟩:=c;have:=AIY (ρ:=f) (ty:=e) (ts:=C) H (E os) (E ox) b;exact zB7
   .cases b
  .split at b
   .rename_i x D c
    match args,c with|[ox,oy],c=>simp at c;obtain⟨rfl,rfl⟩:=c;have:=AMd (ρ:=f) (P:=P) (ts:=⟨g⟩) (ty:=e) H (E ox) (E oy) b;exact zB7
   .cases b
  .split at b
   .rename_i x D c
    match args,c with|[ox,oy],c=>simp at c;obtain⟨rfl,rfl⟩:=c;have:=AMg (ρ:=f) (P:=P) (ts:=⟨g⟩) (ty:=e) H (E ox) (E oy) b;exact zB7
   .cases b
  .cases b
 .cases b
def zW{p:S}(H:HR A a w p){q:u}(h:∀C,q<:+C->a C=I){t:Nat->y}{j:Act}(g:MI a w (MS A a p) t λe=>j.tmps.getD e Go.undef){o:Oper}{op:Op}(D:o.op=op){B:C3}(b:evalOp (Cd P mix) t p.get q op=J B):Ep A q a w p ((execOp j.eval o).run P w) B:=by
 have E:=λx=>Ki g x;cases op<;>simp only[evalOp,reduceCtorEq,F4]at b<;>simp only[execOp,D]
 case move x=>subst b;exact .plain H (v:=j.eval x) rfl rfl (E x)
 case assign x=>subst b;exact .plain H (v:=j.eval x) rfl rfl (E x)
 case pick c x B0=>exact AKH H (E c) (E x) (E B0) b
 case alloc e=>exact AC8 H h b
 case box e x=>exact ye H h (E x) b
 case build e ps=>exact ADW H g b
 case buildSlice e n ps=>exact Zh H h g b
 case insert e m k v=>exact br H (E m) (E k) (E v) b
 case load e x=>exact AJw H (E x) b
 case store e x v=>exact AHA H (E x) (E v) b
 case nilCheck x=>have⟨⟨ad,had⟩,hok⟩:=nP (ρ:=q) H (E x) b;rw[had]at hok⊢;exact hok
 case binOp op e x B0 yt=>simp only[Be]at b;obtain⟨r,F,rfl⟩:=b;exact AIP H (E x) (E B0) x B0 F
 case unOp op e x=>exact AMm H (E x) b
 case convert s e x=>exact rL H (E x) b
 case makeInterface e x=>exact AFE H (E x) b
 case makeFunc f x B0=>exact mZ H g b
 case makeMap e r=>exact tB H h b
 case makeSlice e l c=>exact fJ H h (E l) (E c) b
 case slice e x lo hi mx=>exact pY H (E x) (yH.map g lo) (yH.map g hi) (yH.map g mx) b
 case fieldAddr e x k=>exact eY H (E x) b
 case field e x k=>exact AEN H (E x) b
 case indexAddr e x i=>exact ez H (E x) (E i) b
 case index e x i=>exact AFJ H (E x) (E i) b
 case lookup e m k ok=>exact AAo H (E m) (E k) b
 case mapUpdate e m k v=>exact br H (E m) (E k) (E v) b
 case typeAssert x xt e ok=>
  rcases ok with _|_
  .cases b
  .exact yX H (E x) b
 case extract x k=>exact rm H (E x) b
 case call c=>exact AIQ H h g b
variable{P:JH}{mix:List H5}{g g':G}
variable{vs:List y}
theorem NU{a:u}(b:x∈vs)(c:a∈AE x):a∈Ab vs:=by induction vs with|nil=>cases b|cons f vs e=>grind [Ab]
theorem P6{a:u}(b:a∈Ab vs):∃x∈vs,a∈AE x:=by induction vs with|nil=>simp[Ab]at b|cons e vs c=>grind [Ab]
def bU(a:y)(b:u):b∈Ab a.cells↔b∈AE a:=by cases a<;>simp[y.cells,Ab,AE]
def At(g g':G)(b:List u):Prop:=∀a∈b,g a=g' a
theorem At.mono{b c:List u}(e:At g g' b)(h:∀a∈c,a∈b):At g g' c:=λa f=>e a (h a f)
variable{v:y}
def X7(a:At g g' (AE v)):Fq g v=Fq g' v:=by
 cases v<;>try rfl
 rename_i b e c;simp only[Fq,a b Ay]
def mq(a:At g g' (AE v)):JF g v=JF g' v:=by
 cases v<;>try rfl
 rename_i b e c;simp only[JF,a b Ay]
def Vf(b:At g g' (Ab vs)):ER g vs=ER g' vs:=by induction vs with|nil=>rfl|cons v vs e=>simp only[ER,X7 (v:=v) (b.mono λc a=>NU AG a),e (b.mono λc a=>by simp[Ab,a])]
def TU(b:At g g' (Ab vs)):Ca g vs=Ca g' vs:=by induction vs with|nil=>rfl|cons v vs c=>simp only[Ca,F0]at c⊢;rw[mq (v:=v) (b.mono λe a=>NU AG a),c (b.mono λe a=>by simp[Ab,a])]
variable{es:List (List y)}
theorem MW(a:At g g' (es.flatMap Ab)):EC g es=EC g' es:=by induction es with|nil=>rfl|cons v vs e=>simp only[EC,Vf (vs:=v) (a.mono λc b=>by simp[b]),e (a.mono λc b=>by grind)]
theorem OU(a:At g g' (es.flatMap Ab)):es.flatMap (Ca g)=es.flatMap (Ca g'):=by induction es with|nil=>rfl|cons v vs e=>simp only[F0,TU (vs:=v) (a.mono λc b=>by simp[b]),e (a.mono λc b=>by grind)]
variable{i:TI}{o:y}
def mU(b:At g g' (AE o)):Kk g i o=Kk g' i o:=by
 cases o<;>try rfl
 .rename_i a c;simp only[Kk,b a Ay]
 .rename_i a e c;simp only[Kk,b a Ay]
def fq(b:At g g' (AE o))(f:At g g' (AE v)):Ke g i o v=Ke g' i o v:=by
 have c:At g g' (Ab v.cells):=f.mono λa e=>(bU v a).1 e;unfold Ke;cases o<;>try rfl
 .rename_i a h;simp only[b a Ay]
 .rename_i a j h;simp only[b a Ay,Vf c,TU c]
variable{n:u}{j:TI}
def K2(h:At g g' (es.flatMap Ab)):newArr g n j es=newArr g' n j es:=by simp only[newArr,MW h,OU h]
def N4(h:At g g' (AE x)):Cx g x=Cx g' x:=by
 cases x
 case ii id off n=>simp only[Cx,h id Ay]
 case d B0=>cases B0<;>rfl
 all_goals rfl
variable{a k c:Nat}{b:List (List y)}
theorem ie{e:u}{es:List (List Au)}(f:At g g' (b.flatMap Ab)):appIn g n e a k c es b=appIn g' n e a k c es b:=by grind [appIn,MW,OU]
variable{s:y}
def ig(e:At g g' (AE s))(c:At g g' (b.flatMap Ab)):appTo g n j s b=appTo g' n j s b:=by
 cases s
 case d8=>exact K2 c
 case emp=>exact K2 c
 case ii id a k=>simp only[appTo,e id Ay,ie c]
 all_goals rfl
theorem R2(a:List Au):Ab (a.map .d)=[]:=by induction a with|nil=>rfl|cons x a b=>simp[Ab,AE,b]
theorem sB(es:List (List Au)):(es.map (·.map y.d)).flatMap Ab=[]:=by induction es with|nil=>rfl|cons x b a=>simp[R2]
theorem AJ4{b r:List e}{n:Nat}(c:Kd b a n=J r){x:e}(f:x∈r):x∈b:=by grind [Kd]
def zQ(f:Cx g x=J b):∀k∈b.flatMap Ab,k∈BA g (AE x):=by
 intro k j;unfold Cx at f;split at f
 .grind [sB]
 .cases f;cases j
 .cases f;cases j
 .rename_i i a n;have⟨e,he,hie⟩:=BI.1 j;rcases h:RM (g i)with _|es
  .rw[h]at f;cases f
  .rw[h]at f;have m:=AJ4 f he;unfold RM at h;split at h
   .grind [R2]
   .grind [R2]
   .rename_i c l o;cases h;refine IN _ (BI.2 ⟨i,Ay,?_⟩);grind
   .cases h
 .cases f
theorem Zd(k:At g g' (AE s))(c:At g g' (BA g (AE x))):appendV g n j s x=appendV g' n j s x:=by
 have i:=N4 (c.mono λe a=>Is _ a);unfold appendV;rw[<-i];rcases h:Cx g x with _|b
 .rfl
 .have f:appTo g n j s b=appTo g' n j s b:=ig k (c.mono λe a=>zQ h e a);rcases b with _|⟨o,l⟩
  .rfl
  .simp only[f]
theorem s5{k:TK}(h:At g g' (AE x)):JY g k x=JY g' k x:=by
 cases x
 case mp id=>cases k<;>simp only[JY,h id Ay]
 case d B0=>cases B0<;>cases k<;>rfl
 all_goals (cases k<;>rfl)
variable{T:H5->Option TI}{t:Option TI}{m:y}
theorem TT{k:y}(h:At g g' (AE m)):mapPut T g t m k v=mapPut T g' t m k v:=by
 unfold mapPut;cases m
 case mp id=>have e:=h id Ay;grind
 all_goals rfl
theorem Yr{k:y}{ok:Bool}(h:At g g' (AE m)):HX T g m k ok t=HX T g' m k ok t:=by
 unfold HX;rcases t with _|i
 .rfl
 .cases m
  case mp id=>have e:=h id Ay;grind
  all_goals rfl
def lZ{n:Int}(h:At g g' (AE x)):RV g n x j=RV g' n x j:=by
 unfold RV;cases x
 case ii id a n=>simp only[h id Ay]
 case d B0=>cases B0<;>rfl
 all_goals rfl
def Tf{i:y}(h:At g g' (AE x)):FL T g x i t=FL T g' x i t:=by unfold FL;simp only[lZ h]
def fk{b:u}{e:Option (Nat×Nat×Option Nat)}(f:g b=g' b):Oh g c b a e=Oh g' c b a e:=by unfold Oh;simp only[f]
variable{p b h:Option y}
def fm{k:TK}(e:At g g' (AE x)):GR g k c x p b h=GR g' k c x p b h:=by
 cases x
 case ii id a n=>cases k<;>simp only[GR,fk (e id Ay)]
 case d B0=>cases B0<;>cases k<;>rfl
 all_goals (cases k<;>rfl)
def Zu(a:At g g' (AE x)):K6 T g x p b h t=K6 T g' x p b h t:=by unfold K6;simp only[fm a]
theorem Zt(b:At g g' (AE x)):Me T g t x=Me T g' t x:=by
 unfold Me;rcases t with _|i
 .rfl
 .obtain⟨kind,size,agg,str,zero,e,elem,key,h⟩:=i;simp only;cases x
  case ii id a n=>have c:=b id Ay;grind [Qe]
  all_goals (cases kind<;>rfl)
def Zn{n:Nat}(b:At g g' (AE x)):Jy g n x=Jy g' n x:=by unfold Jy;cases x with|ii c a len=>exact N4 (x:=.ii c a (min len n)) b|_=>simp only[N4 b]
theorem fU(e:At g g' (AE s))(f:At g g' (AE x)):JK T g t s x=JK T g' t s x:=by
 unfold JK;simp only[Zn f];rcases t with _|i
 .rfl
 .have h:∀b a n,s=.ii b a n->g b=g' b:=λb a n c=>e b (by rw[c];simp[AE]);grind [UX]
theorem AHu(b:Hk):Ab (b.cells.toList.map EW)=[]:=by generalize b.cells.toList=a;induction a with|nil=>rfl|cons v a c=>simp only[Bv,Ab,c,CS];unfold EW;split<;>rfl
theorem xw{t:H5}(h:Cd P mix t=J i):Ab i.zero=[]:=by grind [BJ,AHu]
theorem AKL{n:Nat}{a:List y}(b:Ab a=[]):(TL n a).flatMap Ab=[]:=by induction n with|zero=>rfl|succ n c=>grind
theorem Zs{t:H5}(a:Cd P mix t=J j):GX g n k j=GX g' n k j:=by
 unfold GX;rcases k with _|k
 .rfl
 .exact K2 (by rw[AKL (xw a)];intro c b;cases b)
theorem Zo{e:Nat->Option (Nat×Nat)}:∀{b:List (Nat×y)} {a r:List y},EB e a b=J r->∀x∈r,x∈a\/∃c∈b,x∈c.2.cells
 :=by intro x;induction x<;>grind [EB,C0]
theorem rH:∀{n:Nat} {b:List e} {a:List e},a∈Iq c n b->∀x∈a,x∈b
 :=by intro x;induction x<;>grind [Iq]
variable{a:u}{f:List (Nat×y)}
theorem XU{n:Nat}{t:H5}(q:Cd P mix t=J j)(m:At g g' (f.flatMap λh=>AE h.2)):Ih g a n f j=Ih g' a n f j:=by
 unfold Ih;rcases hf:EB (λk=>J (k*j.size,j.size)) ((TL n j.zero).flatten) f with _|i
 .rfl
 .have:newArr g a j (Iq j.size n i)=newArr g' a j (Iq j.size n i):=by
   refine K2 λp b=>?_;have⟨c,hc,b⟩:=BI.1 b;have⟨x,hx,b⟩:=P6 b;rcases Zo hf x (rH hc x hx)with e|⟨h,o,e⟩
   .have⟨l,hl,hx⟩:=MT.1 e;rw[List.eq_of_mem_replicate hl]at hx;have:=NU hx b;grind [xw]
   .exact m p (BI.2 ⟨h,o,(bU _ _).1 (NU e b)⟩)
  grind
theorem SD{n:Nat}(h:At g g' (f.flatMap λp=>AE p.2)):Eb (Cd P mix) g a n f t=Eb (Cd P mix) g' a n f t:=by unfold Eb;grind [XU]
theorem Tg{l c:y}:Eg (Cd P mix) g a l c t=Eg (Cd P mix) g' a l c t:=by unfold Eg;grind [Zs]
theorem Yq{b:Option TI}(c:At g g' (AE s))(e:At g g' (BA g (AE x))):KE T g a t b s x=KE T g' a t b s x:=by unfold KE;grind [Zd]
def M0(a b:Nat->y)(op:Op):Prop:=∀x∈op.operands,ev a x=ev b x
variable{e:Nat->y}{op:Op}
def Se(a:At g g' (L0 e op)){x:M3}(c:x∈op.operands):At g g' (AE (ev e x)):=a.mono λ_ b=>BI.2 ⟨x,by simpa using c,b⟩
variable{e':Nat->y}
theorem RR{f:Array (Nat×M3)}(h:∀p∈f,ev e p.2=ev e' p.2):Ix e f=Ix e' f:=by grind [Ix,List.map_congr_left]
def SA{x:Option M3}(h:∀B0∈x,ev e B0=ev e' B0):x.map (ev e)=x.map (ev e'):=by
 rcases x with _|B0
 .rfl
 .simp[h B0 rfl]
theorem Gn{x:Array M3}(h:∀B0∈x,ev e B0=ev e' B0):x.toList.map (ev e)=x.toList.map (ev e'):=by grind [List.map_congr_left]
theorem eW(a:M0 e e' op)(w:At g g' (Zw e g op)):evalOp (Cd P mix) e g n op=evalOp (Cd P mix) e' g' n op:=by
 cases op<;>try rfl
 case move x=>simp only[evalOp,a x DI]
 case assign x=>simp only[evalOp,a x DI]
 case pick c o F=>simp only[evalOp,a c DI,a o DI,a F DI]
 case box t x=>simp only[evalOp,a x DI]
 case build t f=>simp only[evalOp];rw[RR λA H=>a A.2 (by grind [Op.operands])]
 case buildSlice t k f=>
  have H:∀A∈f,A.2∈(Op.buildSlice t k f).operands:=λA H=>by grind [Op.operands]
  simp only[evalOp];rw[RR λA L=>a A.2 (H A L)];refine SD λD b=>?_;have⟨q,hq,b⟩:=BI.1 b;obtain⟨A,L,rfl⟩:=Ex.1 hq;rw[<-a A.2 (H A (by simpa using L))]at b;exact Se w (H A (by simpa using L)) D b
 case insert t m k v=>simp only[evalOp];rw[<-a m DI,<-a k DI,<-a v DI];exact TT (Se w DI)
 case load t x=>
  simp only[evalOp];rw[<-a x DI];rcases ht:Cd P mix t with _|i
  .rfl
  .simp only[P7,mU (Se w (x:=x) DI)]
 case store t o x=>
  simp only[evalOp];rw[<-a o DI,<-a x DI];rcases ht:Cd P mix t with _|i
  .rfl
  .simp only[Mf,fq (Se w (x:=o) DI) (Se w (x:=x) DI)]
 case nilCheck x=>simp only[evalOp,a x DI]
 case binOp op t x K yt=>simp only[evalOp,a x DI,a K DI]
 case unOp op t x=>simp only[evalOp,a x DI]
 case convert s t x=>simp only[evalOp,a x DI]
 case makeInterface t x=>simp only[evalOp,a x DI]
 case makeFunc O x K=>simp only[evalOp];rw[Gn (e:=e) (e':=e') (x:=x) λB j=>a B (by simp[Op.operands,j]),Gn (e:=e) (e':=e') (x:=K) λB j=>a B (by simp[Op.operands,j])]
 case makeSlice t l c=>simp only[evalOp];rw[a l DI,a c DI];exact Tg
 case slice t x p b h=>
  simp only[evalOp];rw[<-a x DI,SA (e:=e) (e':=e') (x:=p) λB j=>a B zC1,
   SA (e:=e) (e':=e') (x:=b) λB j=>a B zC1,SA (e:=e) (e':=e') (x:=h) λB j=>a B zC1]
  exact Zu (Se w DI)
 case fieldAddr t x k=>simp only[evalOp,a x DI]
 case field t x k=>simp only[evalOp,a x DI]
 case indexAddr t x i=>simp only[evalOp];rw[<-a x DI,<-a i DI];exact Tf (Se w DI)
 case index t x i=>simp only[evalOp,a x DI,a i DI]
 case lookup t m k ok=>simp only[evalOp];rw[<-a m DI,<-a k DI];exact Yr (Se w DI)
 case mapUpdate t m k v=>simp only[evalOp];rw[<-a m DI,<-a k DI,<-a v DI];exact TT (Se w DI)
 case typeAssert x xt t ok=>simp only[evalOp,a x DI]
 case extract x k=>simp only[evalOp,a x DI]
 case call c=>
  obtain⟨callee,args,M⟩:=c;simp only[evalOp,OZ];cases callee with
  |value O=>rfl|invoke r m=>rfl
  |builtin F=>
   simp only;have Q:∀x∈args,x∈(Op.call ⟨.builtin F,args,M⟩).operands:=λx C=>by grind [Op.operands,Call.operands]
   rw[<-Gn λx C=>a x (Q x C)];have N:∀x,x∈args.toList.map (ev e)->∀D∈AE x,D∈L0 e (Op.call ⟨.builtin F,args,M⟩):=by intro x C D b;obtain⟨K,T,rfl⟩:=Ex.1 C;exact BI.2 ⟨K,by grind,b⟩
   generalize args.toList.map (ev e)=as at N;unfold LN;cases F<;>try rfl
   .grind [Zw,At,BA,Yq]
   .grind [Zw,At,Zt]
   .grind [Zw,At,fU]
   .simp only[Zw]at w;have R:∀x∈as,At g g' (AE x):=λx C=>w.mono λD b=>N x C D b
    match as,M.toList with|[],_=>rfl|[x],[]=>rfl|[x],[t]=>grind [s5]|[x],_::_::_=>rfl|_::_::_,_=>rfl
