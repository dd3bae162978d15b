/- P -/
import Derived.MapKept
import Derived.Test.YtbinfhpngacfgaaGreatOn3
set_option linter.all false
open Go renaming World->G2,Value->G4,TypeId->Hk,Program->H5,Operand->LF,TypeDesc->Qm
open List renaming replicate->Sm,length->U
open Option renaming some->J,none->I
open Bool renaming true->X,false->Z
namespace Go
def zCe{p:Prop}(h:p:=by cases a<;>rfl):p:=h
def zCw{p:Prop}(h:p:=by simp[Op.operands]at j⊢;simp[j]):p:=h
end Go
namespace Go
def zB5{p:Prop}(h:p:=by simpa[builtin]using this):p:=h
end Go
namespace Go.Abs
variable{A:Nat->Prop}{P:H5}{a:List Hk}{β:BF}{w:G2}{M:Nat->Prop}
variable{r:Nat}{o:Go.Obj}
theorem Ju(e:w.heap[r]?=J o)(f:∀a b c,o≠ .cells a b c):(getObj r).run P w=.ok o w:=by grind [getObj,Sem.run]
def IA{a:Go.Obj}(f:w.heap[r]?=J o)(g:∀b c e,o≠ .cells b c e):(setObj r a).run P w=.ok () (World.nl w r a):=by cases o<;>first|exact absurd rfl (g _ _ _)|(simp only[setObj,Sem.run,f];rfl)
theorem Yj{i:Hk}{d:Qm}(j:P.underlying i=J d){x:Ar}(m:Kp (DM P i d) x=X){l:G4}(k:DR w M x l):
 (∀f h,(Instr.checkKey f (h+1) i l).run P w=.ok () w)/\∀{b:Ar} {e:G4} {r:Bool},DR w M b e->E5 b x=J r->Instr.sameNow d l e=J r:=by
 cases x<;>cases g:DM P i d<;>simp[Kp,g]at m
 .obtain⟨n,rfl⟩:=nF g;cases k;refine⟨λf h=>by simp[Instr.checkKey,run_underlying j],λ{b e r} c a=>?_⟩;cases b<;>simp[E5]at a;obtain⟨rfl,rfl⟩:=a;cases c;grind [Instr.sameNow]
 .have:=cG g;subst this;cases k;refine⟨λf h=>by simp[Instr.checkKey,run_underlying j],λ{b e r} c a=>?_⟩;cases b<;>simp[E5]at a;subst a;cases c;grind [Instr.sameNow]
 .have:=P6 g;subst this;cases k;refine⟨λf h=>by simp[Instr.checkKey,run_underlying j],λ{b e r} c a=>?_⟩;cases b<;>simp[E5]at a;subst a;cases c;grind [Instr.sameNow,beq_toListBytes]
theorem W8{t:Hk}{d:Qm}(m:P.underlying t=J d){h:Ar}(n:Kp (DM P t d) h=X){p:G4}(o:DR w M h p):∀(f:List (Ar×y)) (e:List MapEntry) (j:Nat) (r:Option y),
 (U f)=U e->(∀(c:Nat) a b,f[c]?=J a->e[c]?=J b->DR w M a.1 b.key/\VR β w M a.2 b.val)->CD f h=J r->
 (r=I/\Instr.findNow d p e j=J I/\∀i,Cj f h i=f++[(h,i)])\/
 (∃l c a b,r=J l/\f[c]?=J a/\e[c]?=J b/\a.2=l/\Instr.findNow d p e j=J (J (j+c,b.val))/\E5 a.1 h=J X/\∀i,Cj f h i=f.set c (a.1,i))
 |[],e,j,r,hl,_,g=>by have:=PI.1 hl.symm;subst this;simp[CD]at g;exact .inl ⟨g.symm,rfl,λ_=>rfl⟩|(k,A8)::f,e,j,r,hl,hr,g=>by
  rcases e with _|⟨b,e⟩
  .simp at hl
  .have⟨h0,h0'⟩:=hr 0 (k,A8) b rfl rfl;simp[CD]at g;split at g
   .rename_i heq;cases g;have s:=(Yj m n o).2 h0 heq;exact .inr ⟨A8,0,(k,A8),b,rfl,rfl,rfl,rfl,by simp[Instr.findNow,s],heq,λi=>by simp[Cj,heq]⟩
   .rename_i heq;have s:=(Yj m n o).2 h0 heq;rcases W8 m n o f e (j+1) r (by simpa using hl) (λc a b K H=>hr (c+1) a b (by simpa using K) (by simpa using H)) g with⟨q,L,B⟩|⟨l,c,a,D,q,v,x,A,B,C,F⟩
    .grind [Instr.findNow,Cj]
    .exact .inr ⟨l,c+1,a,D,q,by simpa using v,by simpa using x,A,by grind [Instr.findNow],C,λi=>by simp[Cj,heq,F]⟩
   .cases g
variable{e:Type}
theorem ot{i:Type}{f:e->i}{m' m:List i}(j:m'.Perm m):∀{c:List e},c.map f=m->∃h:List e,h.Perm c/\h.map f=m':=by
 induction j with
 |nil=>intro c a;exact⟨c,.refl _,a⟩
 |cons o _ k=>
  intro c a;rcases c with _|⟨g,c⟩
  .cases a
  .rw[By,List.cons.injEq]at a;have⟨h,h1,h2⟩:=k a.2;exact⟨g::h,h1.cons g,by grind⟩
 |swap o q p=>
  intro c a
  match c,a with|g::b::c,a=>simp at a;exact⟨b::g::c,.swap g b c,by simp[a.1,a.2.1,a.2.2]⟩
 |trans _ _ l n=>intro c a;have⟨l2,h1,h2⟩:=n a;have⟨l1,h3,h4⟩:=l h2;exact⟨l1,h3.trans h1,h4⟩
theorem Om{n:Int}:∀{es:List (Ar×y)},Ks es->(∀a,(Ar.int .i64 n,a)∈es->CD es (.int .i64 n)=J (J a))/\((∀a,(Ar.int .i64 n,a) ∉es)->CD es (.int .i64 n)=J I)
 |[],_=>⟨AG,λ_=>rfl⟩|(k,A8)::es,⟨h1,h2⟩=>by have⟨m,hm⟩:=h1 (k,A8) (CO ..);dsimp only at hm;subst hm;rw[By,IT]at h2;have⟨i1,i2⟩:=Om (n:=n) (es:=es) ⟨λc b=>h1 c (Bi _ b),h2.2⟩;grind [E5,CD]
theorem cU{c:Int}{l:y}:∀{a:List (Ar×y)} {e:Nat},Ks a->a[e]?=J (.int .i64 c,l)->∀b,Cj a (.int .i64 c) b=a.set e (.int .i64 c,b)
 |[],e,_,h,b=>by simp at h|(k,v)::a,0,_,h,b=>by grind [Cj,E5]|(k,v)::a,e+1,⟨h1,h2⟩,h,b=>by
  rw[Hm]at h;have⟨m,hm⟩:=h1 (k,v) (CO ..);dsimp only at hm;subst hm;rw[By,IT]at h2;have f:¬m=c:=λf=>h2.1 (EX.2 ⟨_,AP h,by rw[f]⟩);have g:E5 (.int .i64 m) (.int .i64 c)=J false:=by simp[E5,f]
  simp only[Cj,g];rw[cU ⟨λj i=>h1 j (Bi _ i),h2.2⟩ h b];rfl
theorem lL{ai:Hk}{d:Qm}(H:P.underlying ai=J d){h:Ar}(N:Kp (DM P ai d) h=X){R:G4}(Q:DR w M h R){a:List (Ar×y)}{n:List MapEntry}{i:List MapEntry}{r:Option y}(t:n.Perm i) (a1:n=i\/Ks a) (Y:U a=U i) (O:∀(c:Nat) e f,a[c]?=J e->i[c]?=J f->DR w M e.1 f.key/\VR β w M e.2 f.val) (s:CD a h=J r):
 (r=I/\Instr.findNow d R n 0=J I/\∀k,Cj a h k=a++[(h,k)])\/
 (∃x c e f g,r=J x/\a[c]?=J e/\i[c]?=J f/\e.2=x/\Instr.findNow d R n 0=J (J (g,f.val))/\n[g]?=J f/\E5 e.1 h=J X/\∀k,Cj a h k=a.set c (e.1,k)):=by
 rcases a1 with rfl|A
 .rcases W8 H N Q a n 0 r Y O s with av|⟨x,c,e,f,l,D,F,V,ar,p,W⟩
  .exact .inl av
  grind
 ·
  have a2:(a.zip i).map Prod.snd=i:=by rw[List.map_snd_zip];omega
  have⟨AW,z1,z2⟩:=ot t a2;have az:Ks (AW.map Prod.fst):=by
   have K:(a.zip i).map Prod.fst=a:=by rw[List.map_fst_zip];omega
   have B:(AW.map Prod.fst).Perm a:=by rw[<-K];exact z1.map _
   refine⟨λe t=>A.1 e (B.mem_iff.1 t),(B.map Prod.fst).nodup_iff.2 A.2⟩
  have aa:∀{j},j∈AW->∃c,a[c]?=J j.1/\i[c]?=J j.2:=λ{j} o=>by obtain⟨c,L⟩:=Ce (z1.mem_iff.1 o);rw[List.getElem?_zip_eq_some]at L;exact⟨c,L.1,L.2⟩
  have K:(a.zip i).map Prod.fst=a:=by rw[List.map_fst_zip];omega
  have B:(AW.map Prod.fst).Perm a:=by rw[<-K];exact z1.map _
  have a0:CD (AW.map Prod.fst) h=J r:=by
   rcases hes:a with _|⟨ag,a4⟩
   .grind [List.perm_nil]
   ·
    have ad:∃g,h=.int .i64 g:=by
     have⟨m,hm⟩:=A.1 ag zCI;rw[hes]at s;obtain⟨a5,v0⟩:=ag;dsimp only at hm;subst hm;cases h with
     |int a3 g=>
      by_cases f:a3=.i64
      .exact⟨g,by rw[f]⟩
      grind [E5,CD]
     |_=>simp[CD,E5]at s
    obtain⟨g,rfl⟩:=ad;have⟨i1,i2⟩:=Om (n:=g) A;have⟨j1,j2⟩:=Om (n:=g) az;by_cases q:∃v,(Ar.int .i64 g,v)∈a
    .obtain⟨v,C⟩:=q;grind
    .rw[i2 λv C=>q ⟨v,C⟩]at s;rw[j2 λv C=>q ⟨v,B.mem_iff.1 C⟩];exact s
  rcases W8 (β:=β) H N Q (AW.map Prod.fst) n 0 r (by rw[<-z2];simp) (λc e f t q=>by rw[<-z2,Be,BY]at q;rw[Be,BY]at t;obtain⟨j,o,rfl⟩:=t;obtain⟨a6,ac,rfl⟩:=q;rw[o]at ac;cases ac;have⟨j2,hj1,hj2⟩:=aa (AP o);exact O j2 _ _ hj1 hj2) a0 with⟨l,b,_⟩|⟨x,c,e,f,l,D,F,V,ar,p,_⟩
  .refine .inl ⟨l,b,λk=>?_⟩;subst l;rcases W8 (β:=β) H N Q a i 0 I Y O s with⟨_,_,W⟩|⟨_,_,_,_,l,_⟩
   .exact W k
   .cases l
  .rw[Be,BY]at D;obtain⟨j,o,rfl⟩:=D;have T:=F;rw[<-z2,Be,o]at T;cases T;have⟨j2,hj1,hj2⟩:=aa (AP o);refine .inr ⟨x,j2,j.1,j.2,c,l,hj1,hj2,V,by grind,F,p,λk=>?_⟩;have⟨g,hn⟩:=A.1 j.1 (AP hj1);have ad:h=.int .i64 g:=by rw[hn]at p;cases h<;>simp[E5]at p;rw[p.1,p.2]
   grind [cU]
theorem ABH{c:S}(H:HR A β w c){a':u}{h:Hk}{T R:y}{W i:G4}{ok:Bool}(a1:VR β w (MS A β c) T W)(av:VR β w (MS A β c) R i){t:DF}(b:Hl (Cm P a) c.get T R ok (Cm P a h)=J t):E3 A a' β w c ((do pure (.value (<-Instr.lookup h W i ok)):Sem Next).run P w) t:=by
 rcases ht:Cm P a h with _|q
 .simp[Hl,ht]at b
 .obtain⟨info,d,bv,bi,x,bk,_,rfl⟩:=BL ht;simp[Hl,ht]at b;split at b
  .rename_i a2 Y a5 j az K;obtain⟨a4,be,rfl⟩:=Yk az;simp[Yi]at K;have⟨ki,kd,kz,k1,k2,k3,_,hke⟩:=BL K;split at b
   .rename_i bh n ai;have a0:a5.kind=DM P a4 kd:=by rw[hke]
    rw[a0]at n;split at b
    .rename_i r Q ar D;simp[Hv]at D;have⟨ji,jd,jz,j1,j2,j3,⟨_,_,jzs,jza⟩,hje⟩:=BL D;have N:DR w (MS A β c) Y i:=by
      unfold Rj at j;split at j
      .cases j;cases av with|d hd=>exact hd
      .cases j
     have⟨kb,hkb,en,cl,q1,_,l,p1,p2,q2,q3⟩:=H.obj a2 _ ai;cases a1 with
     |mp _ bo F=>
      rw[hkb]at F;cases F;have C:=Ju (P:=P) q1 AG;have B:=λe=>(Yj (P:=P) (w:=w) (M:=MS A β c) k2 n N).1 e 9999;have bl:∀(aa:Bool),PZ jd=aa->True:=λ_ _=>trivial;unfold L3 at b;have O:∀k,Gi Q.agg Q.zero=J k->VR β w (MS A β c) k jz:=λk p=>by grind [qp]
      have V:∀{m:y} {s:G4} {e:Bool},VR β w (MS A β c) m s->VR β w (MS A β c) (.kw [m,.d (.bool e)]) (.tuple #[s,.bool e]):=by
       intro m s e bn;refine .kw _ _ rfl λq Y v o L=>?_
       match q with|0=>grind|1=>simp at o L;subst o L;exact .d (.bool _)|q+2=>simp at o
      rcases lL (β:=β) k2 n N p1 p2 q2 q3 ar with⟨rfl,e,_⟩|⟨bc,a3,a6,f,bs,rfl,ac,ad,rfl,ag,_⟩
      .split at b
       .rename_i heq;cases heq
       .rename_i k p;cases b;have g:((do pure (.value (<-Instr.lookup h (.map (J kb.b)) i ok)):Sem Next).run P w)=.ok (.value (if ok then .tuple #[jz,.bool Z]else jz)) w:=by simp[Instr.lookup,run_underlying x,C,B,Instr.findKey,run_underlying k2,e,Ez j1 j3]
        cases ok
        .exact .plain H (v:=jz) (by rw[g];rfl) rfl (O _ p)
        .exact .plain H (v:=.tuple #[jz,.bool Z]) (by rw[g];rfl) rfl (V (O _ p))
       .cases b
      .have M:=(q3 a3 a6 f ac ad).2;split at b
       .rename_i heq;cases heq;cases b;have g:((do pure (.value (<-Instr.lookup h (.map (J kb.b)) i ok)):Sem Next).run P w)=.ok (.value (if ok then .tuple #[f.val,.bool X]else f.val)) w:=by simp[Instr.lookup,run_underlying x,C,B,Instr.findKey,run_underlying k2,ag]
        cases ok
        .exact .plain H (v:=f.val) (by rw[g];rfl) rfl M
        .exact .plain H (v:=.tuple #[f.val,.bool X]) (by rw[g];rfl) rfl (V M)
       all_goals grind
    .cases b
   .cases b
  .cases b
theorem AD2{a b:ByteArray}(h:(a==b)=X):a=b:=by rw[beq_toListBytes,ByteArray.toList_eq,ByteArray.toList_eq,beq_iff_eq]at h;obtain⟨⟨x⟩⟩:=a;obtain⟨⟨A9⟩⟩:=b;simp at h;rw[h]
theorem AEU{x A9:Ar}(h:E5 A9 x=J X):A9=x:=by
 cases A9<;>cases x<;>simp[E5]at h
 .grind
 .rw[h]
 grind [AD2]
theorem pn{e f:Ar}{i h:G4}(c:DR w M e i)(b:DR w M f h)(a:E5 f e=J X):∀g,Instr.sameBits g h i=true:=by
 intro g;cases f<;>cases e<;>simp[E5]at a
 .obtain⟨rfl,rfl⟩:=a;cases c;cases b;simp[Instr.sameBits]
 .subst a;cases c;cases b;simp[Instr.sameBits]
 .cases c;cases b;grind [Instr.sameBits]
theorem cT{n:S}(H:HR A β w n){b7:u}{Q:Hk}{a2 a1 t:y}{b6 g k:G4}(aa:VR β w (MS A β n) a2 b6)(cn:VR β w (MS A β n) a1 g)(b2:VR β w (MS A β n) t k){a':DF}(p:q_l (Cm P a) n.get (Cm P a Q) a2 a1 t=J a'):E3 A b7 β w n ((do Instr.mapUpdate Q b6 g k;pure .skip:Sem Next).run P w) a':=by
 unfold q_l at p;split at p
 .cases p
 .rename_i B;split at p
  .rename_i b3 x N;rw[N]at B;rcases ht:Cm P a Q with _|c
   .simp[ht]at B
   .obtain⟨info,d,de,bc,W,b',_,rfl⟩:=BL ht;simp[ht]at B;split at B
    .rename_i c4 cp bv;obtain⟨c3,c7,rfl⟩:=Yk cp;simp[Yi]at bv;have⟨ki,kd,kz,k1,k2,k3,_,hke⟩:=BL bv;have cq:c4.kind=DM P c3 kd:=by rw[hke]
     rw[cq,As]at B;obtain⟨bs,_⟩:=B;split at p
     .rename_i m K;split at p
      .rename_i r bk;cases p;have O:DR w (MS A β n) x g:=by
        unfold Rj at N;split at N
        .cases N;cases cn with|d hd=>exact hd
        .cases N
       have⟨kb,hkb,en,cl,q1,qb,l,p1,i,q2,q3⟩:=H.obj b3 _ K;cases aa with
       |mp _ dc bo=>
        rw[hkb]at bo;cases bo;have bl:=Ju (P:=P) q1 AG;have bi:=λb=>(Yj (P:=P) (w:=w) (M:=MS A β n) k2 bs O).1 b 9999;have done:∀(V:List (Ar×y)) (F:Array MapEntry) (D:Nat),Cj m x t=V->
           (∀(R:Nat->Prop) (ad:G2),FI A (MS A β n) w R ad->yk β ad R V F D)->
           (Instr.mapUpdate Q (.map (J kb.b)) g k).run P w=.ok () (World.nl w kb.b (.map F D))->
           E3 A b7 β w n ((do Instr.mapUpdate Q (.map (J kb.b)) g k;pure .skip:Sem Next).run P w) ⟨.undef,[(b3,.map (Cj m x t))]⟩:=by
         intro V F D ag ar b9;rw[ag];have b0:=Ho H (o':=.map V) K rfl hkb (.map F D);refine .skip (w':=World.nl w kb.b (.map F D)) (by simp[b9]) rfl ?_ b0 (Mg _ (AS.2 rfl) hkb);exact H.upd' K rfl hkb ⟨F,D,GK _ (BZ q1),ar _ _ b0⟩
        have hint:Ks m->m≠ []->∀r,CD m x=J r->∃a3,x=.int .i64 a3:=λcc a0 r K=>by
         rcases hes:m with _|⟨b5,c8⟩
         .exact absurd hes a0
         .have⟨a2,aa⟩:=cc.1 b5 zCI;rw[hes]at K;obtain⟨dd,v0⟩:=b5;dsimp only at aa;subst aa;cases x with|int a1 a3=>grind [E5,CD]|_=>simp[CD,E5]at K
        rcases lL (β:=β) k2 bs O p1 i q2 q3 bk with⟨rfl,b,av⟩|⟨c6,v,s,e,q,rfl,a4,C,rfl,b8,T,a5,av⟩
        .refine done (m++[(x,t)]) (en.push {key:=g,val:=k,born:=cl}) (cl+1) (av t) ?_ ?_
         .intro R ad h;refine⟨⟨?_,λe f=>?_⟩,l++[{key:=g,val:=k,born:=cl}],?_,?_,by simp[q2],λc s e j f=>?_⟩
          .rw[RW,Ap,D0];refine⟨qb.1,AG,λM be b Y e=>?_⟩;obtain⟨ag,ch,rfl⟩:=EX.1 be;simp at Y;have:=qb.2 ag ch;omega
          .rw[RW]at f;rcases Ac.1 f with f|f
           .have:=qb.2 e f;omega
           grind
          .rw[RW];exact p1.append_right _
          .rcases i with i|i
           .grind
           .by_cases a0:m=[]
            .grind [List.perm_nil]
            .right;obtain⟨a3,rfl⟩:=hint i a0 _ bk;refine⟨λs h=>?_,?_⟩
             .rcases Ac.1 h with h|h
              .exact i.1 s h
              grind
             .rw[Ap,D0];refine⟨i.2,AG,λM be b Y e=>?_⟩;grind [Om]
          .by_cases o:c=U l
           .subst o;rw[D6 z]at j f;simp[q2]at j f;subst j f;exact⟨O.mono h,b2.mono (.refl β) h⟩
           .have az:c<U l:=by have:=(BI.1 f).1;simp at this;omega
            rw[D8 az]at f;rw[D8 z]at j;exact⟨(q3 c s e j f).1.mono h,(q3 c s e j f).2.mono (.refl β) h⟩
         .simp[Instr.mapUpdate,run_underlying W,bl,bi,Instr.findKey,run_underlying k2,b,IA (P:=P) q1 AG]
        .have c0:=q3 v s e a4 C;have bn:en[q]?=J e:=by simpa using T
         have c1:=pn O c0.1 a5 10000;refine done (m.set v (s.1,t)) (en.modify q λe=>{e with key:=g,val:=k}) cl (av t) ?_ ?_
         .intro R ad h;have c':=(Lc.1 bn).1;have ac:(en.modify q λe=>{e with key:=g,val:=k}).toList=en.toList.set q {e with key:=g,val:=k}:=by
           refine Lt λc=>?_;rw[RD,Array.getElem?_modify,F5];by_cases o:q=c
           .grind
           .grind
          have bh:((en.toList.set q {e with key:=g,val:=k}).map (·.born))=en.toList.map (·.born):=by
           refine Lt λc=>?_;rw[Be,Be,F5];by_cases o:q=c
           .grind
           .rw[Co o]
          refine⟨⟨by rw[ac,bh];exact qb.1,λai cm=>?_⟩,l.set v {e with key:=g,val:=k},?_,?_,by simp[q2],λc b4 a6 j f=>?_⟩
          .have:ai.born∈en.toList.map (·.born):=by rw[<-bh,<-ac];exact MP cm
           have⟨ar,he3,b'⟩:=EX.1 this;have:=qb.2 ar he3;omega
          .rw[ac];have b1:∀{L:List MapEntry} {c:Nat} {M b:MapEntry},L[c]?=J M->(L.set c b).Perm (b::L.eraseIdx c)/\L.Perm (M::L.eraseIdx c):=λ{L c M b} o=>by grind [List.getElem_cons_drop,List.take_append_drop,List.set_eq_take_append_cons_drop,List.perm_middle]
           have⟨s1,s2⟩:=b1 (b:={e with key:=g,val:=k}) T
           have⟨s3,s4⟩:=b1 (b:={e with key:=g,val:=k}) C
           have cd:=List.Perm.cons_inv (s2.symm.trans (p1.trans s4));exact s1.trans ((cd.cons _).trans s3.symm)
          .rcases i with i|i
           .left;rw[ac,<-i];have cv:q=v:=by
             have Y:=qb.1;rw[<-i]at C;have c9:=(BI.1 C).1;have cs:=(BI.1 T).1;have bc:(en.toList.map (·.born))[q]?=J e.born:=by rw[Be,T];rfl
             have W:(en.toList.map (·.born))[v]?=J e.born:=by rw[Be,C];rfl
             exact(List.getElem?_inj (by simpa using cs) Y).1 (bc.trans W.symm)
            rw[cv]
           .right;have bx:(m.set v (s.1,t)).map Prod.fst=m.map Prod.fst:=by
             refine Lt λc=>?_;rw[Be,Be,F5];by_cases o:v=c
             .grind
             .rw[Co o]
            refine⟨λc5 cx=>?_,by rw[bx];exact i.2⟩;have:c5.1∈m.map Prod.fst:=by rw[<-bx];exact MP cx
            have⟨q2,hq2,ai⟩:=EX.1 this;rw[<-ai];exact i.1 q2 hq2
          .rw[F5]at j f;by_cases o:v=c
           .subst o;have az:=(BI.1 a4).1;have cu:=(BI.1 C).1;simp[az,cu]at j f;subst j f;refine⟨?_,b2.mono (.refl β) h⟩;have:=AEU a5;rw[show s=(x,s.2)from Prod.ext this rfl];exact O.mono h
           .rw[Co o]at f j;exact⟨(q3 c b4 a6 j f).1.mono h,(q3 c b4 a6 j f).2.mono (.refl β) h⟩
         .have c2:(Instr.keyThatStays (((en[q]?).map (·.key)).getD g) g).run P w=.ok g w:=by rw[bn];simp[Instr.keyThatStays,c1]
          simp[Instr.mapUpdate,run_underlying W,bl,bi,Instr.findKey,run_underlying k2,b8,c2,IA (P:=P) q1 AG]
      .cases p
     .cases p
    .cases B
  .cases p
variable{A:Nat->Prop}{P:H5}{b:List Hk}{a:BF}{w:G2}{M:Nat->Prop}
def AKA(k:IntKind):lD (zd k)=k:=by cases k<;>rfl
variable{x:y}
def sG{e:S}(H:HR A a w e){s:u}{h i:Hk}{j:G4}(q:VR a w (MS A a e) x j){f:DF}(c:Nk x (Cm P b h) (Cm P b i)=J f):
 E3 A s a w e ((do pure (.value (<-convert h i j)):Sem Next).run P w) f:=by
 unfold Nk at c;split at c
 .rename_i C D n o;split at c
  .rename_i F r p;cases c;obtain⟨info,d,K,v,k,B,_,rfl⟩:=BL o;obtain⟨_,t,_,_,m,_,_,rfl⟩:=BL n;obtain⟨g,rfl⟩:=nF p;cases q with
   |d l=>
    cases l;refine .plain H (v:=.int g (g.wrap r)) ?_ rfl ?_
    .simp[convert,run_underlying m,run_underlying k,Conv.intToInt]
    .simp only[Yi,AKA];exact .d (.int _ _)
  .cases c
 .cases c
theorem Xy:∀{c:List y} {b:List Ar},bM c=J b->c=b.map .d
 |[],b,a=>by cases a;rfl|v::c,b,a=>by
  cases v<;>simp only[bM,reduceCtorEq]at a;split at a
  .rename_i f e;cases a;rw[Xy e];rfl
  .cases a
theorem sI:∀{l:List (List y)} {m:List (List Ar)},Xz l=J m->l=m.map (·.map .d)
 :=by intro x;induction x<;>grind [Xz,Xy]
theorem U2(size b:Nat)(a:Option Addr)(f c g e:Nat):Builtin.firstCells size b (.slice a f c)=Builtin.firstCells size b (.slice a g e):=zCe
theorem Xw{h:S}(H:HR A a w h){j:Nat}{x:y}{i:G4}(r:VR a w (MS A a h) x i){c:List (List y)}(f:J7 h.get j x=J c){size:Nat}(q:∀k∈c,U k=size):
 ∃b g e,i=.slice b g e/\Nat.min g j=U c/\∃arr:Array G4,(Builtin.firstCells size (U c) i).run P w=.ok arr w/\Hg a w (MS A a h) c.flatten arr:=by
 have other:∀c,C9 h.get x=J c->(U c)<=j->(∀k∈c,U k=size)->∃b g e,i=.slice b g e/\Nat.min g j=U c/\∃arr:Array G4,(Builtin.firstCells size (U c) i).run P w=.ok arr w/\Hg a w (MS A a h) c.flatten arr:=λc f p q=>by obtain⟨b,e,rfl,arr,t,v⟩:=TB (P:=P) H r f q;grind
 unfold J7 at f;split at f
 .rename_i s m len;cases r with
  |ii _ _ _ l b cap C p o B=>
   have K:VR a w (MS A a h) (.ii s m (min len j)) (.slice b (min len j) cap):=.ii s m _ l b cap C p z B;have V:U c=min len j:=by
    simp only[C9,HE]at f;obtain⟨D,_,n⟩:=f;unfold Kj at n;split at n
    .grind
    .cases n
   have⟨a',c',k,arr,t,v⟩:=TB (P:=P) H K f q;grind [U2]
 .split at f
  .rename_i g o;split at f
   .cases f;have done:∀{b:Option Addr} {l e:Nat},i=.slice b l e->∃b g e,i=.slice b g e/\Nat.min g 0=([]:List (List y)).length/\∃arr:Array G4,(Builtin.firstCells size ([]:List (List y)).length i).run P w=.ok arr w/\Hg a w (MS A a h) (([]:List (List y)).flatten) arr:=λ{b l e} k=>by subst k;refine⟨b,l,e,rfl,Nat.min_zero _, #[],?_,rfl,AG⟩;cases b<;>simp[Builtin.firstCells,loadCells,loadCellsFrom]
    cases r with
    |d F=>cases F with|lst0 b cap=>exact done rfl|co D L m cap W e elem M t v N O Q R=>exact done rfl|_=>simp[C9]at o
    |d9=>exact done rfl|emp b=>exact done rfl|ii s m len l b cap C p T B=>exact done rfl|_=>simp[C9]at o
   grind
  .cases f
theorem AI2{j:S}(H:HR A a w j){ρ:u}{L ty:Hk}{ts:List Hk}{a4 x:y}{a5 a6:G4}(az:VR a w (MS A a j) a4 a5)(g:VR a w (MS A a j) x a6){ac:DF}(e:JV (Cm P b) j.get (Cm P b L) a4 x=J ac):
 E3 A ρ a w j (((Builtin.copy_ ⟨L::ts⟩ ty #[a5,a6]).run P w).andThen λv bv=>.ok (.value v) bv) ac:=by
 rcases ht:Cm P b L with _|b'
 .simp[JV,ht]at e
 .obtain⟨info,d,cd,b1,o,b2,_,rfl⟩:=BL ht;simp only[JV,ht]at e;split at e
  .rename_i a3 bs k K R p;obtain⟨a',rfl⟩:=DY R;simp only[Hv]at p;have⟨info',d',z',g1,g2,g3,⟨_,_,hzs,_⟩,hje⟩:=BL p;have b4:a3.size=info'.size:=by rw[hje]
   cases az with
   |ii _ _ _ f M cap C b6 b5 be=>
    split at e
    .rename_i W V;unfold Ur at e;split at e
     .rename_i b9 b0 i Q bk;split at e
      .rename_i O;simp only[BY]at e;obtain⟨bc,a1,rfl⟩:=e;have a0:=sI bk;have⟨k',ag,c,elem,q1,q2,q3,q4,q5,q6,q7⟩:=H.obj bs _ Q;rw[C]at ag;cases ag;subst q2;have bi:∀aa∈W,U aa=info'.size:=λaa b3=>by grind
       obtain⟨m,l,t,rfl,q,arr,T,r⟩:=Xw (P:=P) H g V bi;have ar:U W=U i:=by rw[a0,BV]
       have b7:0<U i:=O.1.2;have⟨s1,s2,_⟩:=Ey a1;have b8:U i<=K:=by rw[<-ar,<-q];exact Nat.min_le_right ..
       have bh:M=J ⟨f.b,k*f.sz,I⟩:=be.resolve_right z;subst bh;have⟨l1,l3⟩:=QV q5 O.2 a1;have ad:W.flatten=i.flatten.map .d:=by rw[a0,Rg]
       have B:arr.size=U i*f.sz:=by rw[<-r.1,ad,BV,Ee O.2]
       have ai:k*f.sz+U arr.toList<=c.size:=by have:=HM f.sz s1;rw[Lm]at this;rw[PM,B];omega
       have bn:∀v∈arr.toList,v.oneCell'=true:=λv h=>r.cellsOne (λx g=>by rw[ad]at g;obtain⟨cc,_,rfl⟩:=EX.1 g;rfl) v zCP
       have a2:=Hs (P:=P) arr.toList (k*f.sz) w c 0 q1 (by simpa using ai) bn;simp only[Nat.add_zero]at a2;have bo:(Builtin.copy_ ⟨L::ts⟩ ty #[.slice (J ⟨f.b,k*f.sz,I⟩) K cap,.slice m l t]).run P w=.ok (goInt (U i)) (World.nl w f.b (.cells (G6 c (k*f.sz) arr.toList) elem (0,0))):=by
        have n:(Builtin.firstCells info'.size (Nat.min l K) (.slice m l t)).run P w=.ok arr w:=by rw[q];exact T
        have av:Nat.min l K=U i:=by rw[q,ar]
        rw[av]at n;simp[Builtin.copy_,run_underlying o,Builtin.lenOf,CR g1,av,n,a2]
       have F:=Ho H (o':=.f8 f.sz bc) Q rfl C (.cells (G6 c (k*f.sz) arr.toList) elem (0,0));refine⟨_,goInt (U i),_,a,by rw[bo];rfl,.inl rfl,.refl a,λ_ j=>.inl j,?_,F,.d (.int _ _),Mg _ (AS.2 rfl) C,λ_ _ j=>.inl j⟩;refine H.upd' Q rfl C ⟨_,elem,GK _ (BZ q1),rfl,q3,by grind [FQ],l1,by grind [FQ],λs x v g h=>?_⟩;rw[l3]at g;rw[GP ai]at h;rw[PM,B]at h;by_cases Y:s<k*f.sz
       .rw[D4 Y]at g h;exact(q7 s x v g h).mono F
       .rw[Co Y]at g h;by_cases m:s<k*f.sz+U i*f.sz
        .rw[D4 m]at g h;have N:=r.2 (s-k*f.sz) (.d x) v zCI zCI;cases N with|d N=>exact N.mono F
        .rw[Co m]at g h;exact(q7 s x v g h).mono F
      .cases e
     .cases e
    .cases e
  .rename_i a3 R p;obtain⟨a',rfl⟩:=DY R;simp only[Hv]at p;have⟨info',d',z',g1,g2,g3,_,hje⟩:=BL p;cases az with
   |emp M=>
    split at e
    .rename_i V;cases e;obtain⟨m,l,t,rfl,q,arr,T,r⟩:=Xw (P:=P) H g V (size:=info'.size) AG;have B:arr= #[]:=by have:=r.1;simp at this;exact I9 this.symm
     subst B;have bl:Nat.min l 0=0:=q;refine .plain H (v:=.int .i64 0) ?_ rfl (.d (.int _ _));have n:(Builtin.firstCells info'.size 0 (.slice m l t)).run P w=.ok #[] w:=T;have D:l.min 0=0:=bl;rcases M with _|bx
     .simp only[Builtin.copy_,run_underlying o,Builtin.lenOf,CR g1,n,D,Sem.run_bind,Sem.run_pure,Result.andThen_ok];simp[D,n,run_underlying o,CR g1,Builtin.lenOf,goInt]
     .simp only[Builtin.copy_,run_underlying o,Builtin.lenOf,CR g1,n,D,Sem.run_bind,Sem.run_pure,Result.andThen_ok];simp[D,n,run_underlying o,CR g1,Builtin.lenOf,goInt,storeCells]
    .cases e
  .cases e
variable{A:Nat->Prop}{P:H5}{mix:List Hk}{a:BF}{w:G2}{M:Nat->Prop}
def AIu{j:S}(H:HR A a w j){f:u}(r:∀p,f<:+p->a p=I){m:Nat->y}{i:Act}(q:MX a w (MS A a j) m λh=>i.tmps.getD h Go.undef){k:Call}{e:Hk}{n:DF}(b:Ou (Cm P mix) m j.get f k=J n):E3 A f a w j ((do let d<-resolve i.eval k e;invoke d.target d.args:Sem Next).run P w) n:=by
 have E:=λx=>Ko q x;obtain⟨callee,args,g⟩:=k;obtain⟨args⟩:=args;obtain⟨g⟩:=g;unfold Ou at b;split at b
 .rename_i l o;simp only at o;subst o;simp only at b;have v:((do let d<-resolve i.eval ⟨.builtin l,⟨args⟩,⟨g⟩⟩ e;invoke d.target d.args:Sem Next).run P w)=
   (builtin l ⟨g⟩ e ((⟨args⟩:Array LF).map λ|.const _=>X|_=>Z) (⟨args.map i.eval⟩:Array G4)).run P w:=by
   simp[resolve,invoke];rfl
  rw[v];unfold LV at b;split at b
  .split at b
   .rename_i x c;split at b
    .rename_i h;split at b
     .rename_i F s;simp only[BY]at b;obtain⟨K,t,rfl⟩:=b
      match args,c with|[ox],c=>simp at c;subst c;have:=AM2 (ρ:=f) (ty:=e) H (E ox) s t;exact zB5
     .cases b
    .cases b
   .cases b
  .split at b
   .rename_i B x h L c
    match args,c with|[os,ox],c=>simp at c;obtain⟨rfl,rfl⟩:=c;have:=eZ (ty:=e) H r (E os) (E ox) b;exact zB5
   .cases b
  .split at b
   .rename_i x h c
    match args,c with|[ox],c=>simp at c;subst c;have:=AEL (ρ:=f) (ty:=e) H (E ox) b;exact zB5
   .cases b
  .split at b
   .rename_i B x h C c
    match args,c with|[os,ox],c=>simp at c;obtain⟨rfl,rfl⟩:=c;have:=AI2 (ρ:=f) (ty:=e) (ts:=C) H (E os) (E ox) b;exact zB5
   .cases b
  .split at b
   .rename_i x D c
    match args,c with|[ox,oy],c=>simp at c;obtain⟨rfl,rfl⟩:=c;have:=AM5 (ρ:=f) (P:=P) (ts:=⟨g⟩) (ty:=e) H (E ox) (E oy) b;exact zB5
   .cases b
  .split at b
   .rename_i x D c
    match args,c with|[ox,oy],c=>simp at c;obtain⟨rfl,rfl⟩:=c;have:=AM8 (ρ:=f) (P:=P) (ts:=⟨g⟩) (ty:=e) H (E ox) (E oy) b;exact zB5
   .cases b
  .cases b
 .cases b
theorem AAE{p:S}(H:HR A a w p){q:u}(h:∀C,q<:+C->a C=I){t:Nat->y}{j:Act}(g:MX a w (MS A a p) t λe=>j.tmps.getD e Go.undef){o:Oper}{op:Op}(D:o.op=op){B:DF}(b:evalOp (Cm P mix) t p.get q op=J B):E3 A q a w p ((execOp j.eval o).run P w) B:=by
 have E:=λx=>Ko g x;cases op<;>simp only[evalOp,reduceCtorEq,F1]at b<;>simp only[execOp,D]
 case move x=>subst b;exact .plain H (v:=j.eval x) rfl rfl (E x)
 case assign x=>subst b;exact .plain H (v:=j.eval x) rfl rfl (E x)
 case pick c x A9=>exact AKh H (E c) (E x) (E A9) b
 case alloc e=>exact ADe H h b
 case box e x=>exact zL H h (E x) b
 case build e ps=>exact AD1 H g b
 case buildSlice e n ps=>exact Z1 H h g b
 case insert e m k v=>exact cT H (E m) (E k) (E v) b
 case load e x=>exact AKM H (E x) b
 case store e x v=>exact AHd H (E x) (E v) b
 case nilCheck x=>have⟨⟨ad,had⟩,hok⟩:=oO (ρ:=q) H (E x) b;rw[had]at hok⊢;exact hok
 case binOp op e x A9 yt=>simp only[BY]at b;obtain⟨r,F,rfl⟩:=b;exact AIt H (E x) (E A9) x A9 F
 case unOp op e x=>exact ANF H (E x) b
 case convert s e x=>exact sG H (E x) b
 case makeInterface e x=>exact AFf H (E x) b
 case makeFunc f x A9=>exact nf H g b
 case makeMap e r=>exact tm H h b
 case makeSlice e l c=>exact fu H h (E l) (E c) b
 case slice e x lo hi mx=>exact qC H (E x) (yo.map g lo) (yo.map g hi) (yo.map g mx) b
 case fieldAddr e x k=>exact fL H (E x) b
 case field e x k=>exact AEp H (E x) b
 case indexAddr e x i=>exact fZ H (E x) (E i) b
 case index e x i=>exact AFk H (E x) (E i) b
 case lookup e m k ok=>exact ABH H (E m) (E k) b
 case mapUpdate e m k v=>exact cT H (E m) (E k) (E v) b
 case typeAssert x xt e ok=>
  rcases ok with _|_
  .cases b
  .exact zF H (E x) b
 case extract x k=>exact sZ H (E x) b
 case call c=>exact AIu H h g b
variable{P:H5}{mix:List Hk}{g g':G}
variable{vs:List y}
theorem Ni{a:u}(b:x∈vs)(c:a∈AD x):a∈Ab vs:=by induction vs with|nil=>cases b|cons f vs e=>grind [Ab]
theorem QH{a:u}(b:a∈Ab vs):∃x∈vs,a∈AD x:=by induction vs with|nil=>simp[Ab]at b|cons e vs c=>grind [Ab]
def bz(a:y)(b:u):b∈Ab a.cells↔b∈AD a:=by cases a<;>simp[y.cells,Ab,AD]
def At(g g':G)(b:List u):Prop:=∀a∈b,g a=g' a
theorem At.mono{b c:List u}(e:At g g' b)(h:∀a∈c,a∈b):At g g' c:=λa f=>e a (h a f)
variable{v:y}
def YT(a:At g g' (AD v)):Fz g v=Fz g' v:=by
 cases v<;>try rfl
 rename_i b e c;simp only[Fz,a b Az]
def nz(a:At g g' (AD v)):JQ g v=JQ g' v:=by
 cases v<;>try rfl
 rename_i b e c;simp only[JQ,a b Az]
def Vz(b:At g g' (Ab vs)):Ef g vs=Ef g' vs:=by induction vs with|nil=>rfl|cons v vs e=>simp only[Ef,YT (v:=v) (b.mono λc a=>Ni AG a),e (b.mono λc a=>by simp[Ab,a])]
def Tj(b:At g g' (Ab vs)):Ck g vs=Ck g' vs:=by induction vs with|nil=>rfl|cons v vs c=>simp only[Ck,FN]at c⊢;rw[nz (v:=v) (b.mono λe a=>Ni AG a),c (b.mono λe a=>by simp[Ab,a])]
variable{es:List (List y)}
theorem Mi(a:At g g' (es.flatMap Ab)):EN g es=EN g' es:=by induction es with|nil=>rfl|cons v vs e=>simp only[EN,Vz (vs:=v) (a.mono λc b=>by simp[b]),e (a.mono λc b=>by grind)]
theorem Oo(a:At g g' (es.flatMap Ab)):es.flatMap (Ck g)=es.flatMap (Ck g'):=by induction es with|nil=>rfl|cons v vs e=>simp only[FN,Tj (vs:=v) (a.mono λc b=>by simp[b]),e (a.mono λc b=>by grind)]
variable{i:TI}{o:y}
def nV(b:At g g' (AD o)):Kq g i o=Kq g' i o:=by
 cases o<;>try rfl
 .rename_i a c;simp only[Kq,b a Az]
 .rename_i a e c;simp only[Kq,b a Az]
def iG(b:At g g' (AD o))(f:At g g' (AD v)):Kk g i o v=Kk g' i o v:=by
 have c:At g g' (Ab v.cells):=f.mono λa e=>(bz v a).1 e;unfold Kk;cases o<;>try rfl
 .rename_i a h;simp only[b a Az]
 .rename_i a j h;simp only[b a Az,Vz c,Tj c]
variable{n:u}{j:TI}
def K7(h:At g g' (es.flatMap Ab)):q_h g n j es=q_h g' n j es:=by simp only[q_h,Mi h,Oo h]
def OJ(h:At g g' (AD x)):C9 g x=C9 g' x:=by
 cases x
 case ii id off n=>simp only[C9,h id Az]
 case d A9=>cases A9<;>rfl
 all_goals rfl
variable{a k c:Nat}{b:List (List y)}
theorem jT{e:u}{es:List (List Ar)}(f:At g g' (b.flatMap Ab)):q_x g n e a k c es b=q_x g' n e a k c es b:=by grind [q_x,Mi,Oo]
variable{s:y}
def jU(e:At g g' (AD s))(c:At g g' (b.flatMap Ab)):q_t g n j s b=q_t g' n j s b:=by
 cases s
 case d9=>exact K7 c
 case emp=>exact K7 c
 case ii id a k=>simp only[q_t,e id Az,jT c]
 all_goals rfl
theorem SH(a:List Ar):Ab (a.map .d)=[]:=by induction a with|nil=>rfl|cons x a b=>simp[Ab,AD,b]
theorem sq(es:List (List Ar)):(es.map (·.map y.d)).flatMap Ab=[]:=by induction es with|nil=>rfl|cons x b a=>simp[SH]
theorem AKU{b r:List e}{n:Nat}(c:Kj b a n=J r){x:e}(f:x∈r):x∈b:=by grind [Kj]
def z7(f:C9 g x=J b):∀k∈b.flatMap Ab,k∈BD g (AD x):=by
 intro k j;unfold C9 at f;split at f
 .grind [sq]
 .cases f;cases j
 .cases f;cases j
 .rename_i i a n;have⟨e,he,hie⟩:=BE.1 j;rcases h:Ri (g i)with _|es
  .rw[h]at f;cases f
  .rw[h]at f;have m:=AKU f he;unfold Ri at h;split at h
   .grind [SH]
   .grind [SH]
   .rename_i c l o;cases h;refine II _ (BE.2 ⟨i,Az,?_⟩);grind
   .cases h
 .cases f
theorem Zx(k:At g g' (AD s))(c:At g g' (BD g (AD x))):q_s g n j s x=q_s g' n j s x:=by
 have i:=OJ (c.mono λe a=>Ip _ a);unfold q_s;rw[<-i];rcases h:C9 g x with _|b
 .rfl
 .have f:q_t g n j s b=q_t g' n j s b:=jU k (c.mono λe a=>z7 h e a);rcases b with _|⟨o,l⟩
  .rfl
  .simp only[f]
theorem tc{k:TK}(h:At g g' (AD x)):MZ g k x=MZ g' k x:=by
 cases x
 case mp id=>cases k<;>simp only[MZ,h id Az]
 case d A9=>cases A9<;>cases k<;>rfl
 all_goals (cases k<;>rfl)
variable{T:Hk->Option TI}{t:Option TI}{m:y}
theorem Ti{k:y}(h:At g g' (AD m)):q_l T g t m k v=q_l T g' t m k v:=by
 unfold q_l;cases m
 case mp id=>have e:=h id Az;grind
 all_goals rfl
theorem ZB{k:y}{ok:Bool}(h:At g g' (AD m)):Hl T g m k ok t=Hl T g' m k ok t:=by
 unfold Hl;rcases t with _|i
 .rfl
 .cases m
  case mp id=>have e:=h id Az;grind
  all_goals rfl
def mq{n:Int}(h:At g g' (AD x)):Rm g n x j=Rm g' n x j:=by
 unfold Rm;cases x
 case ii id a n=>simp only[h id Az]
 case d A9=>cases A9<;>rfl
 all_goals rfl
def Tt{i:y}(h:At g g' (AD x)):FV T g x i t=FV T g' x i t:=by unfold FV;simp only[mq h]
def iC{b:u}{e:Option (Nat×Nat×Option Nat)}(f:g b=g' b):O2 g c b a e=O2 g' c b a e:=by unfold O2;simp only[f]
variable{p b h:Option y}
def iE{k:TK}(e:At g g' (AD x)):Ga g k c x p b h=Ga g' k c x p b h:=by
 cases x
 case ii id a n=>cases k<;>simp only[Ga,iC (e id Az)]
 case d A9=>cases A9<;>cases k<;>rfl
 all_goals (cases k<;>rfl)
def aG(a:At g g' (AD x)):LA T g x p b h t=LA T g' x p b h t:=by unfold LA;simp only[iE a]
theorem aE(b:At g g' (AD x)):Mr T g t x=Mr T g' t x:=by
 unfold Mr;rcases t with _|i
 .rfl
 .obtain⟨kind,size,agg,str,zero,e,elem,key,h⟩:=i;simp only;cases x
  case ii id a n=>have c:=b id Az;grind [Qp]
  all_goals (cases kind<;>rfl)
def Z7{n:Nat}(b:At g g' (AD x)):J7 g n x=J7 g' n x:=by unfold J7;cases x with|ii c a len=>exact OJ (x:=.ii c a (min len n)) b|_=>simp only[OJ b]
theorem gL(e:At g g' (AD s))(f:At g g' (AD x)):JV T g t s x=JV T g' t s x:=by
 unfold JV;simp only[Z7 f];rcases t with _|i
 .rfl
 .have h:∀b a n,s=.ii b a n->g b=g' b:=λb a n c=>e b (by rw[c];simp[AD]);grind [Ur]
theorem AIO(b:G4):Ab (b.cells.toList.map Ek)=[]:=by generalize b.cells.toList=a;induction a with|nil=>rfl|cons v a c=>simp only[By,Ab,c,CS];unfold Ek;split<;>rfl
theorem yc{t:Hk}(h:Cm P mix t=J i):Ab i.zero=[]:=by grind [BL,AIO]
theorem AKl{n:Nat}{a:List y}(b:Ab a=[]):(Sm n a).flatMap Ab=[]:=by induction n with|zero=>rfl|succ n c=>grind
theorem aD{t:Hk}(a:Cm P mix t=J j):Gh g n k j=Gh g' n k j:=by
 unfold Gh;rcases k with _|k
 .rfl
 .exact K7 (by rw[AKl (yc a)];intro c b;cases b)
theorem Z8{e:Nat->Option (Nat×Nat)}:∀{b:List (Nat×y)} {a r:List y},EK e a b=J r->∀x∈r,x∈a\/∃c∈b,x∈c.2.cells
 :=by intro x;induction x<;>grind [EK,DD]
theorem sB:∀{n:Nat} {b:List e} {a:List e},a∈Iz c n b->∀x∈a,x∈b
 :=by intro x;induction x<;>grind [Iz]
variable{a:u}{f:List (Nat×y)}
theorem Xl{n:Nat}{t:Hk}(q:Cm P mix t=J j)(m:At g g' (f.flatMap λh=>AD h.2)):Iv g a n f j=Iv g' a n f j:=by
 unfold Iv;rcases hf:EK (λk=>J (k*j.size,j.size)) ((Sm n j.zero).flatten) f with _|i
 .rfl
 .have:q_h g a j (Iz j.size n i)=q_h g' a j (Iz j.size n i):=by
   refine K7 λp b=>?_;have⟨c,hc,b⟩:=BE.1 b;have⟨x,hx,b⟩:=QH b;rcases Z8 hf x (sB hc x hx)with e|⟨h,o,e⟩
   .have⟨l,hl,hx⟩:=Mk.1 e;rw[List.eq_of_mem_replicate hl]at hx;have:=Ni hx b;grind [yc]
   .exact m p (BE.2 ⟨h,o,(bz _ _).1 (Ni e b)⟩)
  grind
theorem SU{n:Nat}(h:At g g' (f.flatMap λp=>AD p.2)):Eo (Cm P mix) g a n f t=Eo (Cm P mix) g' a n f t:=by unfold Eo;grind [Xl]
theorem Tu{l c:y}:Ev (Cm P mix) g a l c t=Ev (Cm P mix) g' a l c t:=by unfold Ev;grind [aD]
theorem ZA{b:Option TI}(c:At g g' (AD s))(e:At g g' (BD g (AD x))):KQ T g a t b s x=KQ T g' a t b s x:=by unfold KQ;grind [Zx]
def NJ(a b:Nat->y)(op:Op):Prop:=∀x∈op.operands,ev a x=ev b x
variable{e:Nat->y}{op:Op}
def Sx(a:At g g' (L9 e op)){x:LF}(c:x∈op.operands):At g g' (AD (ev e x)):=a.mono λ_ b=>BE.2 ⟨x,by simpa using c,b⟩
variable{e':Nat->y}
theorem Rl{f:Array (Nat×LF)}(h:∀p∈f,ev e p.2=ev e' p.2):JD e f=JD e' f:=by grind [JD,List.map_congr_left]
def SQ{x:Option LF}(h:∀A9∈x,ev e A9=ev e' A9):x.map (ev e)=x.map (ev e'):=by
 rcases x with _|A9
 .rfl
 .simp[h A9 rfl]
theorem Gx{x:Array LF}(h:∀A9∈x,ev e A9=ev e' A9):x.toList.map (ev e)=x.toList.map (ev e'):=by grind [List.map_congr_left]
theorem fK(a:NJ e e' op)(w:At g g' (aI e g op)):evalOp (Cm P mix) e g n op=evalOp (Cm P mix) e' g' n op:=by
 cases op<;>try rfl
 case move x=>simp only[evalOp,a x DU]
 case assign x=>simp only[evalOp,a x DU]
 case pick c o F=>simp only[evalOp,a c DU,a o DU,a F DU]
 case box t x=>simp only[evalOp,a x DU]
 case build t f=>simp only[evalOp];rw[Rl λA H=>a A.2 (by grind [Op.operands])]
 case buildSlice t k f=>
  have H:∀A∈f,A.2∈(Op.buildSlice t k f).operands:=λA H=>by grind [Op.operands]
  simp only[evalOp];rw[Rl λA L=>a A.2 (H A L)];refine SU λD b=>?_;have⟨q,hq,b⟩:=BE.1 b;obtain⟨A,L,rfl⟩:=EX.1 hq;rw[<-a A.2 (H A (by simpa using L))]at b;exact Sx w (H A (by simpa using L)) D b
 case insert t m k v=>simp only[evalOp];rw[<-a m DU,<-a k DU,<-a v DU];exact Ti (Sx w DU)
 case load t x=>
  simp only[evalOp];rw[<-a x DU];rcases ht:Cm P mix t with _|i
  .rfl
  .simp only[QI,nV (Sx w (x:=x) DU)]
 case store t o x=>
  simp only[evalOp];rw[<-a o DU,<-a x DU];rcases ht:Cm P mix t with _|i
  .rfl
  .simp only[Mu,iG (Sx w (x:=o) DU) (Sx w (x:=x) DU)]
 case nilCheck x=>simp only[evalOp,a x DU]
 case binOp op t x K yt=>simp only[evalOp,a x DU,a K DU]
 case unOp op t x=>simp only[evalOp,a x DU]
 case convert s t x=>simp only[evalOp,a x DU]
 case makeInterface t x=>simp only[evalOp,a x DU]
 case makeFunc O x K=>simp only[evalOp];rw[Gx (e:=e) (e':=e') (x:=x) λB j=>a B (by simp[Op.operands,j]),Gx (e:=e) (e':=e') (x:=K) λB j=>a B (by simp[Op.operands,j])]
 case makeSlice t l c=>simp only[evalOp];rw[a l DU,a c DU];exact Tu
 case slice t x p b h=>
  simp only[evalOp];rw[<-a x DU,SQ (e:=e) (e':=e') (x:=p) λB j=>a B zCw,
   SQ (e:=e) (e':=e') (x:=b) λB j=>a B zCw,SQ (e:=e) (e':=e') (x:=h) λB j=>a B zCw]
  exact aG (Sx w DU)
 case fieldAddr t x k=>simp only[evalOp,a x DU]
 case field t x k=>simp only[evalOp,a x DU]
 case indexAddr t x i=>simp only[evalOp];rw[<-a x DU,<-a i DU];exact Tt (Sx w DU)
 case index t x i=>simp only[evalOp,a x DU,a i DU]
 case lookup t m k ok=>simp only[evalOp];rw[<-a m DU,<-a k DU];exact ZB (Sx w DU)
 case mapUpdate t m k v=>simp only[evalOp];rw[<-a m DU,<-a k DU,<-a v DU];exact Ti (Sx w DU)
 case typeAssert x xt t ok=>simp only[evalOp,a x DU]
 case extract x k=>simp only[evalOp,a x DU]
 case call c=>
  obtain⟨callee,args,M⟩:=c;simp only[evalOp,Ou];cases callee with
  |value O=>rfl|invoke r m=>rfl
  |builtin F=>
   simp only;have Q:∀x∈args,x∈(Op.call ⟨.builtin F,args,M⟩).operands:=λx C=>by grind [Op.operands,Call.operands]
   rw[<-Gx λx C=>a x (Q x C)];have N:∀x,x∈args.toList.map (ev e)->∀D∈AD x,D∈L9 e (Op.call ⟨.builtin F,args,M⟩):=by intro x C D b;obtain⟨K,T,rfl⟩:=EX.1 C;exact BE.2 ⟨K,by grind,b⟩
   generalize args.toList.map (ev e)=as at N;unfold LV;cases F<;>try rfl
   .grind [aI,At,BD,ZA]
   .grind [aI,At,aE]
   .grind [aI,At,gL]
   .simp only[aI]at w;have R:∀x∈as,At g g' (AD x):=λx C=>w.mono λD b=>N x C D b
    match as,M.toList with|[],_=>rfl|[x],[]=>rfl|[x],[t]=>grind [tc]|[x],_::_::_=>rfl|_::_::_,_=>rfl
