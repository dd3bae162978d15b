/- P -/
import Derived.Laws.StructEq
import Derived.Test.YtbinfhpngacfgaaGreatOn2
set_option linter.all false
open Go renaming Value->G4,TypeId->Hk,Operand->LF
open Option renaming some->J,none->I
namespace Go
def zC4{p:Prop}(h:p:=by simpa using h1):p:=h
end Go
namespace Go
def zAY{p:Prop}(h:p:=by cases f;exact n AG AG (KA (λd=>by simp[Op.equalIn,run_underlying l]) rfl rfl)):p:=h
def zAx{p:Prop}(h:p:=by cases c;exact⟨_,by simp[binOp,Op.stringOp],.d (.bool _)⟩):p:=h
end Go
namespace Go.Abs
variable{A:Nat->Prop}{P:Program}{e:List Hk}{β:BF}{w:World}{M:Nat->Prop}
def AA4{op:BinOp}{i:Hk}{c:IntKind}{e f:Int}{g:y}(a:GX op c e f=J g):∃h,(binOp op i (.int c e) (.int c f)).run P w=.ok h w/\VR β w M g h:=by
 cases op<;>simp only[GX,F1,reduceCtorEq]at a
 case add=>subst a;exact⟨_,by simp[binOp,Op.intArith],.d (.int _ _)⟩
 case sub=>subst a;exact⟨_,by simp[binOp,Op.intArith],.d (.int _ _)⟩
 case mul=>subst a;exact⟨_,by simp[binOp,Op.intArith],.d (.int _ _)⟩
 case quo=>
  split at a
  .cases a
  .rename_i b;cases a;exact⟨_,by simp[binOp,Op.intDiv,b],.d (.int _ _)⟩
 case rem=>
  split at a
  .cases a
  .rename_i b;cases a;exact⟨_,by simp[binOp,Op.intDiv,b],.d (.int _ _)⟩
 case and=>subst a;exact⟨_,by simp[binOp,Op.intBits],.d (.int _ _)⟩
 case shr=>
  split at a
  .cases a
  .rename_i b;cases a;exact⟨_,by simp[binOp,Op.shift,b],.d (.int _ _)⟩
 case eql=>subst a;exact⟨_,by simp[binOp,Op.intCmp],.d (.bool _)⟩
 case neq=>subst a;exact⟨_,by simp[binOp,Op.intCmp],.d (.bool _)⟩
 case lss=>subst a;exact⟨_,by simp[binOp,Op.intCmp],.d (.bool _)⟩
 case leq=>subst a;exact⟨_,by simp[binOp,Op.intCmp],.d (.bool _)⟩
 case gtr=>subst a;exact⟨_,by simp[binOp,Op.intCmp],.d (.bool _)⟩
 case geq=>subst a;exact⟨_,by simp[binOp,Op.intCmp],.d (.bool _)⟩
theorem Vx(dd:Nat){xs ys:Array G4}:∀(fs:List Field) (n:Nat) (ks:List TK) (as bs:List y) (r:Bool),U3 P n fs=J ks->Iw ks as bs=J r->
 (∀(i:Nat) (x:y) (v:G4),as[i]?=J x->xs[n+i]?=J v->VR β w M x v)->(∀(i:Nat) (x:y) (v:G4),bs[i]?=J x->ys[n+i]?=J v->VR β w M x v)->
 n+as.length=xs.size->n+bs.length=ys.size->(Op.eqFields (dd+1) xs ys fs).run P w=.ok r w
 |[],n,ks,as,bs,r,hf,hc,_,_,_,_=>by
  simp only[U3,F1]at hf;subst hf;cases as with
  |nil=>cases bs with|nil=>simp only[Iw,F1]at hc;subst hc;simp[Op.eqFields]|cons=>simp[Iw]at hc
  |cons=>simp[Iw]at hc
 |f::fs,n,ks,as,bs,r,hf,hc,hx,hy,hlx,hly=>by
  obtain⟨d,k,ks',hu,hk,hfs,hoff,hname,rfl⟩:∃d k ks',P.underlying f.type=J d/\((KT d=.bool/\k=TK.bool)\/(KT d=.int/\k=TK.int)\/(KT d=.str/\k=TK.str))/\U3 P (n+1) fs=J ks'/\f.offset=n/\f.name≠ "_" /\ks=k::ks':=by
   simp only[U3]at hf;rcases hu:P.underlying f.type with _|d
   .simp[hu]at hf
   .grind
  rcases as with _|⟨x,as⟩
  .simp[Iw]at hc
  .rcases bs with _|⟨A9,bs⟩
   .simp[Iw]at hc
   .simp only[Iw]at hc;split at hc
    .rename_i p q hp hq;cases hc;simp only[ID]at hlx hly;have hxn:n<xs.size:=z;have hyn:n<ys.size:=z;have hvx:=hx 0 x xs[n] AG AG;have hvy:=hy 0 A9 ys[n] AG AG;have ih:=Vx dd fs (n+1) ks' as bs q hfs hq (λi x v h1 h2=>hx (i+1) x v zC4 (by rw[<-h2];congr 1;omega)) (λi x v h1 h2=>hy (i+1) x v zC4 (by rw[<-h2];congr 1;omega)) z z;have hag:PZ d=false:=by cases d<;>simp_all [KT,PZ]
     have hpx:(part f.type xs f.offset).run P w=.ok xs[n] w:=by rw[hoff];simp[part,LQ hu,hag,hxn]
     have hpy:(part f.type ys f.offset).run P w=.ok ys[n] w:=by rw[hoff];simp[part,LQ hu,hag,hyn]
     have heq:(Op.equalIn (dd+1) f.type xs[n] ys[n]).run P w=.ok p w:=by
      rcases hk with⟨hd,rfl⟩|⟨hd,rfl⟩|⟨hd,rfl⟩
      .unfold M4 at hp;split at hp<;>(try cases hp)<;>(try(rename_i hh;cases hh))
       rename_i a b;rw[KF hvx,KF hvy];have:d=.bool:=by cases d<;>simp_all [KT]
       grind [run_equalIn_bool']
      .unfold M4 at hp;split at hp<;>(try cases hp)<;>(try(rename_i hh;cases hh))
       split at hp
       .rename_i k a k' b hkk;cases hp;subst hkk;rw[HJ hvx,HJ hvy];cases d<;>simp[KT]at hd;grind [run_equalIn_int]
       .cases hp
      .unfold M4 at hp;split at hp<;>(try cases hp)<;>(try(rename_i hh;cases hh))
       rename_i a b;rw[LL hvx,LL hvy];have:d=.string:=by cases d<;>simp_all [KT]
       grind [run_equalIn_string,beq_toListBytes]
     simp only[Op.eqFields,hname,ne_eq,not_false_eq_true,IS,Sem.run_bind,hpx,hpy,heq,Result.andThen_ok];cases p
     .simp
     .simpa using ih
    .cases hc
variable{op:BinOp}{t:Hk}{a b:G4}
theorem JC{c f:LF}(h:¬(a=.nilIface/\b=.nilIface))(i:∀e g,¬(a=.agg e/\b=.agg g)):(eqGuard op t c f a b).run P w=.ok () w:=by
 cases op<;>first
  |(simp[eqGuard];done)
  |(cases a<;>first
   |(simp[eqGuard];done)
   |(cases b<;>first
    |(simp[eqGuard];done)
    |grind
    |grind))
def KA{r:Bool}(g:∀d,(Op.equalIn (d+1) t a b).run P w=.ok r w)(e:binOp .eql t a b=(do pure (.bool (<-Op.equal t a b))))(f:binOp .neq t a b=(do pure (.bool (!(<-Op.equal t a b))))):
 (binOp .eql t a b).run P w=.ok (.bool r) w/\(binOp .neq t a b).run P w=.ok (.bool (!r)) w:=by
 have c:(Op.equal t a b).run P w=.ok r w:=g 9999;constructor
 .rw[e,Sem.run_bind,c];rfl
 .rw[f,Sem.run_bind,c];rfl
theorem wx{t:Hk}{info:TypeInfo}{d:TypeDesc}(bc:P.info? t=J info)(l:P.underlying t=J d){o O:y}{i j:G4}(g:VR β w M o i)(h:VR β w M O j){m:Bool}(c:Pe (DM P t d) o O=J m) (C D:LF):(∀op,(eqGuard op t C D i j).run P w=.ok () w)/\(binOp .eql t i j).run P w=.ok (.bool m) w/\(binOp .neq t i j).run P w=.ok (.bool (!m)) w:=by
 generalize e:DM P t d=k at c;have n:(¬(i=.nilIface/\j=.nilIface))->(∀s v,¬(i=.agg s/\j=.agg v))->((binOp .eql t i j).run P w=.ok (.bool m) w/\(binOp .neq t i j).run P w=.ok (.bool (!m)) w)->
  (∀op,(eqGuard op t C D i j).run P w=.ok () w)/\(binOp .eql t i j).run P w=.ok (.bool m) w/\(binOp .neq t i j).run P w=.ok (.bool (!m)) w:=
  λaa ac ad=>⟨λop=>JC aa ac,ad⟩
 unfold Pe at c;split at c
 ·
  rename_i a0 W Y;cases g with
  |agg _ s Q R=>
   cases h with
   |agg _ v T V=>
    cases d with
    |struct F=>
     simp only[DM]at e;split at e
     .rename_i bk ai;split at e
      .rename_i H;cases e;have K:P.fieldsOf t=F:=by simp[Program.fieldsOf,l]
       have heq:=Vx (β:=β) (w:=w) (M:=M) (P:=P) 9998 F.toList 0 a0 W Y m ai c (λB o x q r=>R B o x q zCp) (λB o x q r=>V B o x q zCp) (by simpa using Q) (by simpa using T);have L:(Op.equalIn 10000 t (.agg s) (.agg v)).run P w=.ok m w:=by rw[run_equalIn_struct w 9999 t s v (by rw[K];exact l) H.1,K];exact heq
       exact⟨λop=>run_eqGuard_agg w op t C D s v H.2,by rw[run_eql_struct,L];rfl,by rw[run_neq_struct,L];rfl⟩
      .cases e
     .cases e
    |_=>simp[DM]at e
 ·
  cases c;obtain⟨q,r,a1,rfl⟩:=cH e;cases g with
  |fn a6 a b a2 a3=>cases h with|d f=>exact zAY
 .cases c;obtain⟨q,r,a1,rfl⟩:=cH e;cases g with
  |d f=>cases f;cases h with|d f=>exact zAY
 .cases c;obtain⟨p,rfl⟩:=nG e;cases g with
  |ptr av N az ar=>cases h with|d f=>exact zAY
 .cases c;obtain⟨p,rfl⟩:=nG e;cases g with
  |d f=>cases f;cases h with|d f=>exact zAY
 .cases c;obtain⟨p,rfl⟩:=SK e;cases g with
  |iface b1 x b2 bi=>cases h with|d f=>exact zAY
 .cases c;obtain⟨p,rfl⟩:=DY e;cases h;cases g with
  |d f=>cases f with|co a5 b N cap b0 a4 elem a' bl bn bo bs bv bx=>exact n AG AG (KA (λd=>by simp[Op.equalIn,run_underlying l]) rfl rfl)
 .cases c;obtain⟨p,rfl⟩:=DY e;cases h;cases g with|ii av N len az a cap ar bh be ag=>have:=ag.resolve_right z;subst this;exact n AG AG (KA (λd=>by simp[Op.equalIn,run_underlying l]) rfl rfl)
 .cases c;obtain⟨p,rfl⟩:=DY e;cases h;cases g;exact n AG AG (KA (λd=>by simp[Op.equalIn,run_underlying l]) rfl rfl)
 .have:=cG e;subst this;unfold M4 at c;split at c<;>(try cases c)<;>(try(rename_i A;cases A))
  rename_i a b;rw[KF g,KF h];grind [JC,run_eql_bool,run_neq_bool]
 .have:=P6 e;subst this;unfold M4 at c;split at c<;>(try cases c)<;>(try(rename_i A;cases A))
  rename_i a b;rw[LL g,LL h];refine⟨λop=>JC AG AG,?_,?_⟩
  .simp[binOp,Op.stringOp,beq_toListBytes]
  .simp[binOp,Op.stringOp,beq_toListBytes]
 .cases c
theorem ADw{f:S}(H:HR A β w f){C:u}{op:BinOp}{t:Hk}{r s:y}{g h:G4}(k:VR β w (MS A β f) r g)(l:VR β w (MS A β f) s h)(m n:LF){p:y}(c:Ph op r s (Cm P e t)=J p):E3 A C β w f ((do pure (.value (<-(do eqGuard op t m n g h;binOp op t g h))):Sem Next).run P w) ⟨p,[]⟩:=by
 suffices hs:(eqGuard op t m n g h).run P w=.ok () w/\∃v,(binOp op t g h).run P w=.ok v w/\VR β w (MS A β f) p v by obtain⟨i,v,j,q⟩:=hs;exact .plain H (v:=v) (by simp[i,j]) rfl q
 unfold Ph at c;split at c
 .split at c
  .rename_i x;subst x;rw[HJ k,HJ l];exact⟨JC AG AG,AA4 c⟩
  .cases c
 .split at c
  .rename_i D B;obtain⟨info,d,F,i,j,q,_,rfl⟩:=BL B;split at c
   .rename_i b o;cases c;have⟨g1,g2,g3⟩:=wx i j k l o m n;exact⟨g1 _,_,g2,.d (.bool _)⟩
   .rename_i b o;cases c;have⟨g1,g2,g3⟩:=wx i j k l o m n;exact⟨g1 _,_,g3,.d (.bool _)⟩
   .unfold uQ at c;split at c
    .rename_i a b;rw[LL k,LL l];refine⟨JC AG AG,?_⟩;unfold AHf at c;split at c
     .exact zAx
     .exact zAx
     .exact zAx
     .exact zAx
     .cases c
    .cases c
  .cases c
variable{h:S}{f:u}{x c r:y}{a b:G4}
theorem AGc(H:HR A β w h)(s:VR β w (MS A β h) x a)(v:VR β w (MS A β h) c b)(i j:LF)(g:k8 (AO i||AO j) op x c (Cm P e t)=J r):E3 A f β w h ((do pure (.value (<-(do eqGuard op t i j a b;binOp op t a b))):Sem Next).run P w) ⟨r,[]⟩:=by
 unfold k8 at g;split at g
 .rename_i D q;obtain⟨info,d,F,B,n,C,_,rfl⟩:=BL q;cases s with
  |d l=>
  cases l;cases v with
  |d l=>
  cases l;have o:∀op,(AO i||AO j)=true->(eqGuard op t i j .nilIface .nilIface).run P w=.ok () w:=λop k=>by
   unfold eqGuard;have:(i matches .const _)||(j matches .const _)=true:=by cases i<;>cases j<;>simp[AO]at k⊢
   cases i<;>cases j<;>simp[AO]at k<;>cases op<;>simp
  split at g
  .rename_i k m;cases g;obtain⟨p,rfl⟩:=SK m;refine .plain H (v:=.bool true) ?_ rfl (.d (.bool _));have:=(KA (P:=P) (w:=w) (t:=t) (a:=.nilIface) (b:=.nilIface) (r:=true) (λd=>by simp[Op.equalIn,run_underlying n]) rfl rfl).1;simp[o _ k,this]
  .rename_i k m;cases g;obtain⟨p,rfl⟩:=SK m;refine .plain H (v:=.bool false) ?_ rfl (.d (.bool _));have:=(KA (P:=P) (w:=w) (t:=t) (a:=.nilIface) (b:=.nilIface) (r:=true) (λd=>by simp[Op.equalIn,run_underlying n]) rfl rfl).2;simp[o _ k,this]
  .cases g
 .cases g
theorem AIt(H:HR A β w h)(k:VR β w (MS A β h) x a)(l:VR β w (MS A β h) c b)(g i:LF)(j:lH (AO g||AO i) op x c (Cm P e t)=J r):E3 A f β w h ((do pure (.value (<-(do eqGuard op t g i a b;binOp op t a b))):Sem Next).run P w) ⟨r,[]⟩:=by unfold lH kp at j;grind [ADw,AGc]
