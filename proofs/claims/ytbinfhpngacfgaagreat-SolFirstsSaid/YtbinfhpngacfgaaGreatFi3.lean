/-
  Parts of it.
-/
import Derived.Laws.StructEq
import Derived.Test.YtbinfhpngacfgaaGreatFi2
set_option linter.all false
namespace Go.Abs
variable{A:Nat→Prop}{P:Program}{mix:List TypeId}{β:Aj}{w:World}{M:Nat→Prop}
theorem fe{op:BinOp}{t:TypeId}{k:IntKind}{a b:Int}{r:AV}(h:Ey op k a b=some r): ∃v,(binOp op t (.int k a) (.int k b)).run P w=.ok v w∧VR β w M r v:=by
 cases op<;>simp only[Ey,CI,reduceCtorEq]at h
 case add=>subst h;exact⟨_,by simp[binOp,Op.intArith],.d (.int _ _)⟩
 case sub=>subst h;exact⟨_,by simp[binOp,Op.intArith],.d (.int _ _)⟩
 case mul=>subst h;exact⟨_,by simp[binOp,Op.intArith],.d (.int _ _)⟩
 case quo=>
  split at h
  .cases h
  .rename_i hb;cases h;exact⟨_,by simp[binOp,Op.intDiv,hb],.d (.int _ _)⟩
 case rem=>
  split at h
  .cases h
  .rename_i hb;cases h;exact⟨_,by simp[binOp,Op.intDiv,hb],.d (.int _ _)⟩
 case eql=>subst h;exact⟨_,by simp[binOp,Op.intCmp],.d (.bool _)⟩
 case neq=>subst h;exact⟨_,by simp[binOp,Op.intCmp],.d (.bool _)⟩
 case lss=>subst h;exact⟨_,by simp[binOp,Op.intCmp],.d (.bool _)⟩
 case leq=>subst h;exact⟨_,by simp[binOp,Op.intCmp],.d (.bool _)⟩
 case gtr=>subst h;exact⟨_,by simp[binOp,Op.intCmp],.d (.bool _)⟩
 case geq=>subst h;exact⟨_,by simp[binOp,Op.intCmp],.d (.bool _)⟩
theorem Om(dd:Nat){xs ys:Array Value}: ∀(fs:List Field) (n:Nat) (ks:List TK) (as bs:List AV) (r:Bool),N3 P n fs=some ks→Dv ks as bs=some r→
 (∀(i:Nat) (x:AV) (v:Value),as[i]? =some x→xs[n+i]? =some v→VR β w M x v)→(∀(i:Nat) (x:AV) (v:Value),bs[i]? =some x→ys[n+i]? =some v→VR β w M x v)→
 n+as.length=xs.size→n+bs.length=ys.size→(Op.eqFields (dd+1) xs ys fs).run P w=.ok r w
 |[],n,ks,as,bs,r,hf,hc,_,_,_,_=>by
  simp only[N3,CI]at hf;subst hf;cases as with
  |nil=>cases bs with
   |nil=>simp only[Dv,CI]at hc;subst hc;simp[Op.eqFields]
   |cons=>simp[Dv]at hc
  |cons=>simp[Dv]at hc
 |f::fs,n,ks,as,bs,r,hf,hc,hx,hy,hlx,hly=>by
  obtain⟨d,k,ks',hu,hk,hfs,hoff,hname,rfl⟩: ∃d k ks',P.underlying f.type=some d∧((G2 d=.bool∧k=TK.bool)∨(G2 d=.int∧k=TK.int)∨(G2 d=.str∧k=TK.str))∧N3 P (n+1) fs=some ks'∧f.offset=n∧f.name≠ "_" ∧ks=k::ks':=by
   simp only[N3]at hf;cases hu:P.underlying f.type with
   |none=>simp[hu]at hf
   |some d=>
    simp only[hu,F1]at hf;split at hf
    .rename_i h1 _ h3;split at hf
     .rename_i hcc;cases hf;exact⟨d,.bool,_,rfl,.inl ⟨by simpa using h1,rfl⟩,h3,hcc.1,hcc.2,rfl⟩
     .cases hf
    .rename_i h1 _ h3;split at hf
     .rename_i hcc;cases hf;exact⟨d,.int,_,rfl,.inr (.inl ⟨by simpa using h1,rfl⟩),h3,hcc.1,hcc.2,rfl⟩
     .cases hf
    .rename_i h1 _ h3;split at hf
     .rename_i hcc;cases hf;exact⟨d,.str,_,rfl,.inr (.inr ⟨by simpa using h1,rfl⟩),h3,hcc.1,hcc.2,rfl⟩
     .cases hf
    .cases hf
  cases as with
  |nil=>simp[Dv]at hc
  |cons x as=>
   cases bs with
   |nil=>simp[Dv]at hc
   |cons y bs=>
    simp only[Dv]at hc;split at hc
    .rename_i p q hp hq;cases hc;simp only[Gc]at hlx hly;have hxn:n<xs.size:=by omega
     have hyn:n<ys.size:=by omega
     have hvx:=hx 0 x xs[n] (by simp) (by simp);have hvy:=hy 0 y ys[n] (by simp) (by simp);have ih:=Om dd fs (n+1) ks' as bs q hfs hq (fun i x v h1 h2=>hx (i+1) x v (by simpa using h1) (by rw[←h2];congr 1;omega)) (fun i x v h1 h2=>hy (i+1) x v (by simpa using h1) (by rw[←h2];congr 1;omega)) (by omega) (by omega);have hag:KR d=false:=by cases d<;>simp_all [G2,KR]
     have hpx:(part f.type xs f.offset).run P w=.ok xs[n] w:=by rw[hoff];simp[part,Hc hu,hag,hxn]
     have hpy:(part f.type ys f.offset).run P w=.ok ys[n] w:=by rw[hoff];simp[part,Hc hu,hag,hyn]
     have heq:(Op.equalIn (dd+1) f.type xs[n] ys[n]).run P w=.ok p w:=by
      rcases hk with⟨hd,rfl⟩|⟨hd,rfl⟩|⟨hd,rfl⟩
      .unfold Ff at hp;split at hp<;>(try cases hp)<;>(try(rename_i hh;cases hh))
       rename_i a b;rw[Gj hvx,Gj hvy];have:d=.bool:=by cases d<;>simp_all [G2]
       subst this;exact run_equalIn_bool' w dd f.type a b hu
      .unfold Ff at hp;split at hp<;>(try cases hp)<;>(try(rename_i hh;cases hh))
       split at hp
       .rename_i k a k' b hkk;cases hp;subst hkk;rw[Ek hvx,Ek hvy];cases d<;>simp[G2]at hd;exact run_equalIn_int w dd f.type _ _ _ _ hu
       .cases hp
      .unfold Ff at hp;split at hp<;>(try cases hp)<;>(try(rename_i hh;cases hh))
       rename_i a b;rw[HX hvx,HX hvy];have:d=.string:=by cases d<;>simp_all [G2]
       subst this;rw[run_equalIn_string w dd f.type a b hu,beq_toListBytes]
     simp only[Op.eqFields,hname,ne_eq,not_false_eq_true,F3,Sem.run_bind,hpx,hpy,heq,Result.andThen_ok];cases p
     .simp
     .simpa using ih
    .cases hc
variable{op:BinOp}{t:TypeId}{a b:Value}
theorem Fi{x y:Operand}(h1: ¬(a=.nilIface∧b=.nilIface))(h2: ∀xs ys,¬(a=.agg xs∧b=.agg ys)):(eqGuard op t x y a b).run P w=.ok () w:=by
 cases op<;>first
  |(simp[eqGuard];done)
  |(cases a<;>first
   |(simp[eqGuard];done)
   |(cases b<;>first
    |(simp[eqGuard];done)
    |exact absurd ⟨rfl,rfl⟩ h1
    |exact absurd ⟨rfl,rfl⟩ (h2 _ _)))
theorem GZ{r:Bool}(he: ∀d,(Op.equalIn (d+1) t a b).run P w=.ok r w)(h1:binOp .eql t a b=(do pure (.bool (←Op.equal t a b))))(h2:binOp .neq t a b=(do pure (.bool (!(←Op.equal t a b))))):
 (binOp .eql t a b).run P w=.ok (.bool r) w∧(binOp .neq t a b).run P w=.ok (.bool (!r)) w:=by
 have h:(Op.equal t a b).run P w=.ok r w:=he 9999;constructor
 .rw[h1,Sem.run_bind,h];rfl
 .rw[h2,Sem.run_bind,h];rfl
theorem cM{t:TypeId}{info:TypeInfo}{d:TypeDesc}(h1:P.info? t=some info)(h2:P.underlying t=some d){x y:AV}{vx vy:Value}(hx:VR β w M x vx)(hy:VR β w M y vy){r:Bool}
 (h:G7 (B1 P t d) x y=some r) (ox oy:Operand):(∀op,(eqGuard op t ox oy vx vy).run P w=.ok () w)∧(binOp .eql t vx vy).run P w=.ok (.bool r) w∧(binOp .neq t vx vy).run P w=.ok (.bool (!r)) w:=by
 generalize hk:B1 P t d=k at h;have fin:(¬(vx=.nilIface∧vy=.nilIface))→(∀xs ys,¬(vx=.agg xs∧vy=.agg ys))→((binOp .eql t vx vy).run P w=.ok (.bool r) w∧(binOp .neq t vx vy).run P w=.ok (.bool (!r)) w)→
  (∀op,(eqGuard op t ox oy vx vy).run P w=.ok () w)∧(binOp .eql t vx vy).run P w=.ok (.bool r) w∧(binOp .neq t vx vy).run P w=.ok (.bool (!r)) w:=
  fun g1 g2 g3=>⟨fun op=>Fi g1 g2,g3⟩
 unfold G7 at h;split at h
 ·
  rename_i ks cs ds;cases hx with
  |agg _ xs a1 a2=>
   cases hy with
   |agg _ ys b1 b2=>
    cases d with
    |struct fs=>
     simp only[B1]at hk;split at hk
     .rename_i ks' hfl;split at hk
      .rename_i hcond;cases hk;have hfo:P.fieldsOf t=fs:=by simp[Program.fieldsOf,h2]
       have heq:=Om (β:=β) (w:=w) (M:=M) (P:=P) 9998 fs.toList 0 ks cs ds r hfl h (fun i x v p q=>a2 i x v p (by simpa using q)) (fun i x v p q=>b2 i x v p (by simpa using q)) (by simpa using a1) (by simpa using b1);have hrun:(Op.equalIn 10000 t (.agg xs) (.agg ys)).run P w=.ok r w:=by
        rw[run_equalIn_struct w 9999 t xs ys (by rw[hfo];exact h2) hcond.1,hfo];exact heq
       exact⟨fun op=>run_eqGuard_agg w op t ox oy xs ys hcond.2,by rw[run_eql_struct,hrun];rfl,by rw[run_neq_struct,hrun];rfl⟩
      .cases hk
     .cases hk
    |_=>simp[B1]at hk
 ·
  cases h;obtain⟨p,q,s,rfl⟩:=SX hk;cases hx with
  |fn f a b a' b'=>
   cases hy with
   |d hd=>cases hd;exact fin (by simp) (by simp) (GZ (fun d=>by simp[Op.equalIn,run_underlying h2]) rfl rfl)
 .cases h;obtain⟨p,q,s,rfl⟩:=SX hk;cases hx with
  |d hd=>
   cases hd;cases hy with
   |d hd=>cases hd;exact fin (by simp) (by simp) (GZ (fun d=>by simp[Op.equalIn,run_underlying h2]) rfl rfl)
 .cases h;obtain⟨e,rfl⟩:=Wq hk;cases hx with
  |ptr id off kb hkb=>
   cases hy with
   |d hd=>cases hd;exact fin (by simp) (by simp) (GZ (fun d=>by simp[Op.equalIn,run_underlying h2]) rfl rfl)
 .cases h;obtain⟨e,rfl⟩:=Wq hk;cases hx with
  |d hd=>
   cases hd;cases hy with
   |d hd=>cases hd;exact fin (by simp) (by simp) (GZ (fun d=>by simp[Op.equalIn,run_underlying h2]) rfl rfl)
 .cases h;obtain⟨e,rfl⟩:=MG hk;cases hx with
  |iface t' v u hu=>
   cases hy with
   |d hd=>cases hd;exact fin (by simp) (by simp) (GZ (fun d=>by simp[Op.equalIn,run_underlying h2]) rfl rfl)
 .cases h;obtain⟨e,rfl⟩:=Ca hk;cases hy;cases hx with
  |d hd=>
   cases hd with
   |be es b off cap sz c elem fr q1 q2 q3 q4 q5 q6=>
    exact fin (by simp) (by simp) (GZ (fun d=>by simp[Op.equalIn,run_underlying h2]) rfl rfl)
 .cases h;obtain⟨e,rfl⟩:=Ca hk;cases hy;cases hx with
  |d8 id off len kb a cap hkb hn hl ha=>
   have:=ha.resolve_right (by omega);subst this;exact fin (by simp) (by simp) (GZ (fun d=>by simp[Op.equalIn,run_underlying h2]) rfl rfl)
 .cases h;obtain⟨e,rfl⟩:=Ca hk;cases hy;cases hx;exact fin (by simp) (by simp) (GZ (fun d=>by simp[Op.equalIn,run_underlying h2]) rfl rfl)
 .have:=SW hk;subst this;unfold Ff at h;split at h<;>(try cases h)<;>(try(rename_i hh;cases hh))
  rename_i a b;rw[Gj hx,Gj hy];refine⟨fun op=>Fi (by simp) (by simp),?_,?_⟩
  .rw[run_eql_bool _ _ _ _ h2]
  .rw[run_neq_bool _ _ _ _ h2]
 .have:=Km hk;subst this;unfold Ff at h;split at h<;>(try cases h)<;>(try(rename_i hh;cases hh))
  rename_i a b;rw[HX hx,HX hy];refine⟨fun op=>Fi (by simp) (by simp),?_,?_⟩
  .simp[binOp,Op.stringOp,beq_toListBytes]
  .simp[binOp,Op.stringOp,beq_toListBytes]
 .cases h
theorem ll{h:AB}(H:HR A β w h){ρ:List Nat}{op:BinOp}{t:TypeId}{x y:AV}{vx vy:Value}(hx:VR β w (MS A β h) x vx)(hy:VR β w (MS A β h) y vy)(ox oy:Operand){r:AV}
 (ho:G8 op x y (Bc P mix t)=some r):DE A ρ β w h ((do pure (.value (←(do eqGuard op t ox oy vx vy;binOp op t vx vy))):Sem Next).run P w) ⟨r,[]⟩:=by
 suffices hs:(eqGuard op t ox oy vx vy).run P w=.ok () w∧ ∃v,(binOp op t vx vy).run P w=.ok v w∧VR β w (MS A β h) r v by
  obtain⟨h1,v,h2,h3⟩:=hs;exact .plain H (v:=v) (by simp[h1,h2]) rfl h3
 unfold G8 at ho;split at ho
 .split at ho
  .rename_i e;subst e;rw[Ek hx,Ek hy];exact⟨Fi (by simp) (by simp),fe ho⟩
  .cases ho
 .split at ho
  .rename_i i ht;obtain⟨info,d,z,h1,h2,h3,_,rfl⟩:=Ar ht;split at ho
   .rename_i b hb;cases ho;obtain⟨g1,g2,g3⟩:=cM h1 h2 hx hy hb ox oy;exact⟨g1 _,_,g2,.d (.bool _)⟩
   .rename_i b hb;cases ho;obtain⟨g1,g2,g3⟩:=cM h1 h2 hx hy hb ox oy;exact⟨g1 _,_,g3,.d (.bool _)⟩
   .unfold AAH at ho;split at ho
    .rename_i a b;rw[HX hx,HX hy];refine⟨Fi (by simp) (by simp),?_⟩;unfold qM at ho;split at ho
     .cases ho;exact⟨_,by simp[binOp,Op.stringOp],.d (.bool _)⟩
     .cases ho;exact⟨_,by simp[binOp,Op.stringOp],.d (.bool _)⟩
     .cases ho;exact⟨_,by simp[binOp,Op.stringOp],.d (.bool _)⟩
     .cases ho;exact⟨_,by simp[binOp,Op.stringOp],.d (.bool _)⟩
     .cases ho
    .cases ho
  .cases ho
variable{h:AB}{ρ:List Nat}{x y r:AV}{vx vy:Value}
theorem pK(H:HR A β w h)(hx:VR β w (MS A β h) x vx)(hy:VR β w (MS A β h) y vy)(ox oy:Operand)
 (ho:pN (Wh ox||Wh oy) op x y (Bc P mix t)=some r):DE A ρ β w h ((do pure (.value (←(do eqGuard op t ox oy vx vy;binOp op t vx vy))):Sem Next).run P w) ⟨r,[]⟩:=by
 unfold pN at ho;split at ho
 .rename_i i ht;obtain⟨info,d,z,h1,h2,h3,_,rfl⟩:=Ar ht;cases hx with
  |d hd=>
  cases hd;cases hy with
  |d hd=>
  cases hd;have hg: ∀op,(Wh ox||Wh oy)=true→(eqGuard op t ox oy .nilIface .nilIface).run P w=.ok () w:=fun op hc=>by
   unfold eqGuard;have:(ox matches .const _)||(oy matches .const _)=true:=by
    cases ox<;>cases oy<;>simp[Wh]at hc⊢
   cases ox<;>cases oy<;>simp[Wh]at hc<;>cases op<;>simp
  split at ho
  .rename_i hc hk;cases ho;obtain⟨e,rfl⟩:=MG hk;refine .plain H (v:=.bool true) ?_ rfl (.d (.bool _));have:=(GZ (P:=P) (w:=w) (t:=t) (a:=.nilIface) (b:=.nilIface) (r:=true) (fun d=>by simp[Op.equalIn,run_underlying h2]) rfl rfl).1;simp[hg _ hc,this]
  .rename_i hc hk;cases ho;obtain⟨e,rfl⟩:=MG hk;refine .plain H (v:=.bool false) ?_ rfl (.d (.bool _));have:=(GZ (P:=P) (w:=w) (t:=t) (a:=.nilIface) (b:=.nilIface) (r:=true) (fun d=>by simp[Op.equalIn,run_underlying h2]) rfl rfl).2;simp[hg _ hc,this]
  .cases ho
 .cases ho
theorem rA(H:HR A β w h)(hx:VR β w (MS A β h) x vx)(hy:VR β w (MS A β h) y vy)(ox oy:Operand)
 (ho:da (Wh ox||Wh oy) op x y (Bc P mix t)=some r):DE A ρ β w h ((do pure (.value (←(do eqGuard op t ox oy vx vy;binOp op t vx vy))):Sem Next).run P w) ⟨r,[]⟩:=by
 unfold da zy at ho;split at ho
 .rename_i v hv;cases ho;exact ll H hx hy ox oy hv
 .exact pK H hx hy ox oy ho
end Go.Abs
