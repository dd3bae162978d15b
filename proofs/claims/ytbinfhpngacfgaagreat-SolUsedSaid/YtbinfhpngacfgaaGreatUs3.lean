/- P -/
import Derived.Laws.StructEq
import Derived.Test.YtbinfhpngacfgaaGreatUs2
set_option linter.all false
open Go renaming Value->Hk,TypeId->H5,Operand->M3
open Option renaming some->J,none->I
namespace Go
def zC9{p:Prop}(h:p:=by simpa using h1):p:=h
end Go
namespace Go
def zAZ{p:Prop}(h:p:=by cases f;exact n AG AG (J0 (λd=>by simp[Op.equalIn,run_underlying l]) rfl rfl)):p:=h
def zAx{p:Prop}(h:p:=by cases c;exact⟨_,by simp[binOp,Op.stringOp],.d (.bool _)⟩):p:=h
end Go
namespace Go.Abs
variable{A:Nat->Prop}{P:Program}{e:List H5}{β:BB}{w:World}{M:Nat->Prop}
def AAb{op:BinOp}{i:H5}{c:IntKind}{e f:Int}{g:y}(a:GP op c e f=J g):∃h,(binOp op i (.int c e) (.int c f)).run P w=.ok h w/\VR β w M g h:=by
 cases op<;>simp only[GP,F4,reduceCtorEq]at a
 case add=>subst a;exact⟨_,by simp[binOp,Op.intArith],.d (.int _ _)⟩
 case sub=>subst a;exact⟨_,by simp[binOp,Op.intArith],.d (.int _ _)⟩
 case mul=>subst a;exact⟨_,by simp[binOp,Op.intArith],.d (.int _ _)⟩
 case quo=>
  split at a
  .cases a
  .rename_i b;cases a;exact⟨_,by simp[binOp,Op.intDiv,b],.d (.int _ _)⟩
 case rem=>
  split at a
  .cases a
  .rename_i b;cases a;exact⟨_,by simp[binOp,Op.intDiv,b],.d (.int _ _)⟩
 case and=>subst a;exact⟨_,by simp[binOp,Op.intBits],.d (.int _ _)⟩
 case shr=>
  split at a
  .cases a
  .rename_i b;cases a;exact⟨_,by simp[binOp,Op.shift,b],.d (.int _ _)⟩
 case eql=>subst a;exact⟨_,by simp[binOp,Op.intCmp],.d (.bool _)⟩
 case neq=>subst a;exact⟨_,by simp[binOp,Op.intCmp],.d (.bool _)⟩
 case lss=>subst a;exact⟨_,by simp[binOp,Op.intCmp],.d (.bool _)⟩
 case leq=>subst a;exact⟨_,by simp[binOp,Op.intCmp],.d (.bool _)⟩
 case gtr=>subst a;exact⟨_,by simp[binOp,Op.intCmp],.d (.bool _)⟩
 case geq=>subst a;exact⟨_,by simp[binOp,Op.intCmp],.d (.bool _)⟩
theorem Vd(dd:Nat){xs ys:Array Hk}:∀(fs:List Field) (n:Nat) (ks:List TK) (as bs:List y) (r:Bool),Uh P n fs=J ks->Ik ks as bs=J r->
 (∀(i:Nat) (x:y) (v:Hk),as[i]?=J x->xs[n+i]?=J v->VR β w M x v)->(∀(i:Nat) (x:y) (v:Hk),bs[i]?=J x->ys[n+i]?=J v->VR β w M x v)->
 n+as.length=xs.size->n+bs.length=ys.size->(Op.eqFields (dd+1) xs ys fs).run P w=.ok r w
 |[],n,ks,as,bs,r,hf,hc,_,_,_,_=>by
  simp only[Uh,F4]at hf;subst hf;cases as with
  |nil=>cases bs with|nil=>simp only[Ik,F4]at hc;subst hc;simp[Op.eqFields]|cons=>simp[Ik]at hc
  |cons=>simp[Ik]at hc
 |f::fs,n,ks,as,bs,r,hf,hc,hx,hy,hlx,hly=>by
  obtain⟨d,k,ks',hu,hk,hfs,hoff,hname,rfl⟩:∃d k ks',P.underlying f.type=J d/\((KJ d=.bool/\k=TK.bool)\/(KJ d=.int/\k=TK.int)\/(KJ d=.str/\k=TK.str))/\Uh P (n+1) fs=J ks'/\f.offset=n/\f.name≠ "_" /\ks=k::ks':=by
   simp only[Uh]at hf;rcases hu:P.underlying f.type with _|d
   .simp[hu]at hf
   .grind
  rcases as with _|⟨x,as⟩
  .simp[Ik]at hc
  .rcases bs with _|⟨B0,bs⟩
   .simp[Ik]at hc
   .simp only[Ik]at hc;split at hc
    .rename_i p q hp hq;cases hc;simp only[II]at hlx hly;have hxn:n<xs.size:=z;have hyn:n<ys.size:=z;have hvx:=hx 0 x xs[n] AG AG;have hvy:=hy 0 B0 ys[n] AG AG;have ih:=Vd dd fs (n+1) ks' as bs q hfs hq (λi x v h1 h2=>hx (i+1) x v zC9 (by rw[<-h2];congr 1;omega)) (λi x v h1 h2=>hy (i+1) x v zC9 (by rw[<-h2];congr 1;omega)) z z;have hag:PN d=false:=by cases d<;>simp_all [KJ,PN]
     have hpx:(part f.type xs f.offset).run P w=.ok xs[n] w:=by rw[hoff];simp[part,LK hu,hag,hxn]
     have hpy:(part f.type ys f.offset).run P w=.ok ys[n] w:=by rw[hoff];simp[part,LK hu,hag,hyn]
     have heq:(Op.equalIn (dd+1) f.type xs[n] ys[n]).run P w=.ok p w:=by
      rcases hk with⟨hd,rfl⟩|⟨hd,rfl⟩|⟨hd,rfl⟩
      .unfold Mn at hp;split at hp<;>(try cases hp)<;>(try(rename_i hh;cases hh))
       rename_i a b;rw[J5 hvx,J5 hvy];have:d=.bool:=by cases d<;>simp_all [KJ]
       grind [run_equalIn_bool']
      .unfold Mn at hp;split at hp<;>(try cases hp)<;>(try(rename_i hh;cases hh))
       split at hp
       .rename_i k a k' b hkk;cases hp;subst hkk;rw[G8 hvx,G8 hvy];cases d<;>simp[KJ]at hd;grind [run_equalIn_int]
       .cases hp
      .unfold Mn at hp;split at hp<;>(try cases hp)<;>(try(rename_i hh;cases hh))
       rename_i a b;rw[LD hvx,LD hvy];have:d=.string:=by cases d<;>simp_all [KJ]
       grind [run_equalIn_string,beq_toListBytes]
     simp only[Op.eqFields,hname,ne_eq,not_false_eq_true,IP,Sem.run_bind,hpx,hpy,heq,Result.andThen_ok];cases p
     .simp
     .simpa using ih
    .cases hc
variable{op:BinOp}{t:H5}{a b:Hk}
theorem Iw{c f:M3}(h:¬(a=.nilIface/\b=.nilIface))(i:∀e g,¬(a=.agg e/\b=.agg g)):(eqGuard op t c f a b).run P w=.ok () w:=by
 cases op<;>first
  |(simp[eqGuard];done)
  |(cases a<;>first
   |(simp[eqGuard];done)
   |(cases b<;>first
    |(simp[eqGuard];done)
    |grind
    |grind))
def J0{r:Bool}(g:∀d,(Op.equalIn (d+1) t a b).run P w=.ok r w)(e:binOp .eql t a b=(do pure (.bool (<-Op.equal t a b))))(f:binOp .neq t a b=(do pure (.bool (!(<-Op.equal t a b))))):
 (binOp .eql t a b).run P w=.ok (.bool r) w/\(binOp .neq t a b).run P w=.ok (.bool (!r)) w:=by
 have c:(Op.equal t a b).run P w=.ok r w:=g 9999;constructor
 .rw[e,Sem.run_bind,c];rfl
 .rw[f,Sem.run_bind,c];rfl
theorem wA{t:H5}{info:TypeInfo}{d:TypeDesc}(bc:P.info? t=J info)(l:P.underlying t=J d){o O:y}{i j:Hk}(g:VR β w M o i)(h:VR β w M O j){m:Bool}(c:PT (DA P t d) o O=J m) (C D:M3):(∀op,(eqGuard op t C D i j).run P w=.ok () w)/\(binOp .eql t i j).run P w=.ok (.bool m) w/\(binOp .neq t i j).run P w=.ok (.bool (!m)) w:=by
 generalize e:DA P t d=k at c;have n:(¬(i=.nilIface/\j=.nilIface))->(∀s v,¬(i=.agg s/\j=.agg v))->((binOp .eql t i j).run P w=.ok (.bool m) w/\(binOp .neq t i j).run P w=.ok (.bool (!m)) w)->
  (∀op,(eqGuard op t C D i j).run P w=.ok () w)/\(binOp .eql t i j).run P w=.ok (.bool m) w/\(binOp .neq t i j).run P w=.ok (.bool (!m)) w:=
  λaa ac ad=>⟨λop=>Iw aa ac,ad⟩
 unfold PT at c;split at c
 ·
  rename_i a0 W Y;cases g with
  |agg _ s Q R=>
   cases h with
   |agg _ v T V=>
    cases d with
    |struct F=>
     simp only[DA]at e;split at e
     .rename_i bk ai;split at e
      .rename_i H;cases e;have K:P.fieldsOf t=F:=by simp[Program.fieldsOf,l]
       have heq:=Vd (β:=β) (w:=w) (M:=M) (P:=P) 9998 F.toList 0 a0 W Y m ai c (λB o x q r=>R B o x q zCv) (λB o x q r=>V B o x q zCv) (by simpa using Q) (by simpa using T);have L:(Op.equalIn 10000 t (.agg s) (.agg v)).run P w=.ok m w:=by rw[run_equalIn_struct w 9999 t s v (by rw[K];exact l) H.1,K];exact heq
       exact⟨λop=>run_eqGuard_agg w op t C D s v H.2,by rw[run_eql_struct,L];rfl,by rw[run_neq_struct,L];rfl⟩
      .cases e
     .cases e
    |_=>simp[DA]at e
 ·
  cases c;obtain⟨q,r,a1,rfl⟩:=bf e;cases g with
  |fn a6 a b a2 a3=>cases h with|d f=>exact zAZ
 .cases c;obtain⟨q,r,a1,rfl⟩:=bf e;cases g with
  |d f=>cases f;cases h with|d f=>exact zAZ
 .cases c;obtain⟨p,rfl⟩:=mI e;cases g with
  |ptr av N az ar=>cases h with|d f=>exact zAZ
 .cases c;obtain⟨p,rfl⟩:=mI e;cases g with
  |d f=>cases f;cases h with|d f=>exact zAZ
 .cases c;obtain⟨p,rfl⟩:=R5 e;cases g with
  |iface b1 x b2 bi=>cases h with|d f=>exact zAZ
 .cases c;obtain⟨p,rfl⟩:=DN e;cases h;cases g with
  |d f=>cases f with|co a5 b N cap b0 a4 elem a' bl bn bo bs bv bx=>exact n AG AG (J0 (λd=>by simp[Op.equalIn,run_underlying l]) rfl rfl)
 .cases c;obtain⟨p,rfl⟩:=DN e;cases h;cases g with|ii av N len az a cap ar bh be ag=>have:=ag.resolve_right z;subst this;exact n AG AG (J0 (λd=>by simp[Op.equalIn,run_underlying l]) rfl rfl)
 .cases c;obtain⟨p,rfl⟩:=DN e;cases h;cases g;exact n AG AG (J0 (λd=>by simp[Op.equalIn,run_underlying l]) rfl rfl)
 .have:=bd e;subst this;unfold Mn at c;split at c<;>(try cases c)<;>(try(rename_i A;cases A))
  rename_i a b;rw[J5 g,J5 h];grind [Iw,run_eql_bool,run_neq_bool]
 .have:=Pw e;subst this;unfold Mn at c;split at c<;>(try cases c)<;>(try(rename_i A;cases A))
  rename_i a b;rw[LD g,LD h];refine⟨λop=>Iw AG AG,?_,?_⟩
  .simp[binOp,Op.stringOp,beq_toListBytes]
  .simp[binOp,Op.stringOp,beq_toListBytes]
 .cases c
theorem ADR{f:S}(H:HR A β w f){C:u}{op:BinOp}{t:H5}{r s:y}{g h:Hk}(k:VR β w (MS A β f) r g)(l:VR β w (MS A β f) s h)(m n:M3){p:y}(c:PX op r s (Cd P e t)=J p):Ep A C β w f ((do pure (.value (<-(do eqGuard op t m n g h;binOp op t g h))):Sem Next).run P w) ⟨p,[]⟩:=by
 suffices hs:(eqGuard op t m n g h).run P w=.ok () w/\∃v,(binOp op t g h).run P w=.ok v w/\VR β w (MS A β f) p v by obtain⟨i,v,j,q⟩:=hs;exact .plain H (v:=v) (by simp[i,j]) rfl q
 unfold PX at c;split at c
 .split at c
  .rename_i x;subst x;rw[G8 k,G8 l];exact⟨Iw AG AG,AAb c⟩
  .cases c
 .split at c
  .rename_i D B;obtain⟨info,d,F,i,j,q,_,rfl⟩:=BJ B;split at c
   .rename_i b o;cases c;have⟨g1,g2,g3⟩:=wA i j k l o m n;exact⟨g1 _,_,g2,.d (.bool _)⟩
   .rename_i b o;cases c;have⟨g1,g2,g3⟩:=wA i j k l o m n;exact⟨g1 _,_,g3,.d (.bool _)⟩
   .unfold vy at c;split at c
    .rename_i a b;rw[LD k,LD l];refine⟨Iw AG AG,?_⟩;unfold AV at c;split at c
     .exact zAx
     .exact zAx
     .exact zAx
     .exact zAx
     .cases c
    .cases c
  .cases c
variable{h:S}{f:u}{x c r:y}{a b:Hk}
theorem AF9(H:HR A β w h)(s:VR β w (MS A β h) x a)(v:VR β w (MS A β h) c b)(i j:M3)(g:iA (AO i||AO j) op x c (Cd P e t)=J r):Ep A f β w h ((do pure (.value (<-(do eqGuard op t i j a b;binOp op t a b))):Sem Next).run P w) ⟨r,[]⟩:=by
 unfold iA at g;split at g
 .rename_i D q;obtain⟨info,d,F,B,n,C,_,rfl⟩:=BJ q;cases s with
  |d l=>
  cases l;cases v with
  |d l=>
  cases l;have o:∀op,(AO i||AO j)=true->(eqGuard op t i j .nilIface .nilIface).run P w=.ok () w:=λop k=>by
   unfold eqGuard;have:(i matches .const _)||(j matches .const _)=true:=by cases i<;>cases j<;>simp[AO]at k⊢
   cases i<;>cases j<;>simp[AO]at k<;>cases op<;>simp
  split at g
  .rename_i k m;cases g;obtain⟨p,rfl⟩:=R5 m;refine .plain H (v:=.bool true) ?_ rfl (.d (.bool _));have:=(J0 (P:=P) (w:=w) (t:=t) (a:=.nilIface) (b:=.nilIface) (r:=true) (λd=>by simp[Op.equalIn,run_underlying n]) rfl rfl).1;simp[o _ k,this]
  .rename_i k m;cases g;obtain⟨p,rfl⟩:=R5 m;refine .plain H (v:=.bool false) ?_ rfl (.d (.bool _));have:=(J0 (P:=P) (w:=w) (t:=t) (a:=.nilIface) (b:=.nilIface) (r:=true) (λd=>by simp[Op.equalIn,run_underlying n]) rfl rfl).2;simp[o _ k,this]
  .cases g
 .cases g
theorem AIP(H:HR A β w h)(k:VR β w (MS A β h) x a)(l:VR β w (MS A β h) c b)(g i:M3)(j:lq (AO g||AO i) op x c (Cd P e t)=J r):Ep A f β w h ((do pure (.value (<-(do eqGuard op t g i a b;binOp op t a b))):Sem Next).run P w) ⟨r,[]⟩:=by unfold lq kt at j;grind [ADR,AF9]
