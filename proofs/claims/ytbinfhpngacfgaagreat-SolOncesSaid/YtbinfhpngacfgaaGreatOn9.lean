/- P -/
import Derived.WalkKit
import Derived.Laws.Pointers
import Derived.TacticsInMore
import Derived.KernelRfl
import Derived.Maps.RangeRun
import Derived.Test.YtbinfhpngacfgaaGreatOn8
set_option linter.all false
set_option maxHeartbeats 0
open Go renaming World->G2,Value->G4,Oper->G5,FuncId->IY,Act->M3
open Option renaming some->J,none->I
open Bool renaming true->X,false->Z
namespace Go
def zCx{p:Prop}(h:p:=by simpa using e):p:=h
end Go
namespace Go
def zBF{p:Prop}(h:p:=by
 cases a;obtain rfl:=(D5 b).symm
 kernel_rfl):p:=h
end Go
namespace Go.Proofs
open Abs Tryz
def uB:prog.underlying 258=J (.map 3 276):=zCG
def y9:prog.underlying 3=J (.int .i64):=zCG
def AON(w:G2):(Instr.alloc 276 X (.tuple #[])).run prog w=.ok (.pointer (J ⟨w.heap.size,0,I⟩)) (World.add w (.cells #[.int .i64 0,.int .i64 0] 276)):=zCG
variable{b:Nat}
theorem Ln{a:Nat}(h:Nat.beq a b=X):a=b:=D5 h
variable{o:G5}{d:Nat}
theorem Oq{t a:Nat}(h:oY o d t a=X):o.dst=J d/\o.op=.load t (.tmp a)/\o.guard=none:=by grind [oY,Ln]
theorem oZ{t a:Nat}(h:uk o d t a=X):o.dst=J d/\o.op=.range t (.tmp a)/\o.guard=none:=by grind [uk,Ln]
theorem uj{a:Nat}(h:p0 o d a=X):o.dst=J d/\o.op=.next (.tmp a) Z/\o.guard=none:=by grind [p0,Ln]
theorem oX{a:Nat}(h:ui o d a=X):o.dst=J d/\o.op=.entry (.tmp a)/\o.guard=none:=by grind [ui,Ln]
theorem ND{a k:Nat}(h:QG o d a k=X):o.dst=J d/\o.op=.extract (.tmp a) k/\o.guard=none:=by grind [QG,Ln]
theorem oW{t:Nat}(h:ug o d t=X):o.dst=J d/\o.op=.alloc t/\o.guard=none:=by grind [ug,Ln]
theorem gD{a:Nat}(h:fy o d a=X):o.dst=J d/\o.op=.assign (.tmp a)/\o.guard=none:=by grind [fy,Ln]
theorem Y8{a:Nat}(h:yC o d a=X):o.dst=J d/\o.op=.move (.tmp a)/\o.guard=none:=by grind [yC,Ln]
theorem WM{t a:Nat}(h:gF o t a b=X):o.dst=I/\o.op=.store t (.tmp a) (.tmp b)/\o.guard=none:=by grind [gF,Ln]
theorem ABo{t a c:Nat}(h:mE o t a b c=X):o.dst=I/\o.op=.mapUpdate t (.tmp a) (.tmp b) (.tmp c)/\o.guard=none:=by grind [mE,Ln]
section
variable{Q:Exit->M3->G2->Prop}{a:M3}{w:G2}{ro:Option Nat}{f:IY}{e:Nat}
variable{c:Array G5}{i:Nat}{g:u}{o:G5}{v:G4}{w1:G2}
theorem Wv(h:c[i]?=J o)(e:o.guard=I)(k:∀b,o.op≠ .defer b)(m:(execOp a.eval o).run prog w=.ok (.value v) w1)(l:wpOpsIn (FF ro) 0 prog c Q g (a.put o.dst v) w1):wpOpsIn (FF ro) 0 prog c Q (i::g) a w:=by
 have j:Region.wanted o (yielded c a.tmps)=true:=by simp[Region.wanted,e]
 simp[wpOpsIn,h,j,Oper.wpIn];refine⟨λf _=>trivial,?_⟩;grind [Oper.semAt_eq,Oper.uponIn_value]
theorem vl(h:c[i]?=J o)(e:o.guard=I)(k:∀b,o.op≠ .defer b)(m:(execOp a.eval o).run prog w=.ok .skip w1)(l:wpOpsIn (FF ro) 0 prog c Q g (a.put o.dst Go.undef) w1):wpOpsIn (FF ro) 0 prog c Q (i::g) a w:=by
 have j:Region.wanted o (yielded c a.tmps)=true:=by simp[Region.wanted,e]
 simp[wpOpsIn,h,j,Oper.wpIn];refine⟨λf _=>trivial,?_⟩;grind [Oper.semAt_eq,Oper.uponIn_skip]
def r6{c:Array G5}(b:nQ c.toList=X){v h:G4}{w1:G2}(m:(Instr.loadAt 258 (a.eval (.tmp 5))).run prog w=.ok v w)(q:48<a.tmps.size)(p:(Instr.range 258 v).run prog w=.ok h w1) (o:Q .normal ((a.put (J 39) v).put (J 40) h) w1):CV prog f ro (.region e c Z) Q a w:=by
 unfold nQ at b;split at b
 .rename_i g i n;simp at b;have⟨a1,a2,a3⟩:=Oq b.1;have⟨b1,b2,b3⟩:=oZ b.2;have k:c= #[g,i]:=by rw[<-n]
  subst k;refine .of_wp (wpIn_region ?_);refine Wv (o:=g) rfl a3 (by rw[a2];intro j b;cases b) (v:=v) (w1:=w) (by simp only[execOp,a2];simp[m]) ?_;refine Wv (o:=i) rfl b3 (by rw[b2];intro j b;cases b) (v:=h) (w1:=w1) ?_ ?_
  .have l:(a.put g.dst v).eval (.tmp 39)=v:=by rw[a1];simp[Act.put,Act.eval,show 39<a.tmps.size by omega]
   simp only[execOp,b2,l];simp[p]
  .rw[a1,b1];exact o
 .cases b
theorem FX(a:M3)(d:Option Tmp)(v:G4):(a.put d v).tmps.size=a.tmps.size:=by cases d<;>simp[Act.put]
variable{d:Tmp}
theorem JY{a:M3}(b:d<a.tmps.size)(v:G4):(a.put (J d) v).eval (.tmp d)=v:=by simp[Act.put,Act.eval,b]
theorem Er{a:M3}{t:Tmp}(h:d≠t)(v:G4):(a.put (J d) v).eval (.tmp t)=a.eval (.tmp t):=by simp[Act.put,Act.eval,I4,h]
theorem pS(a:M3)(v:G4):a.put I v=a:=rfl
def r7{c:Array G5}(g:ke c.toList=X){t b:G4}{w1:G2}(l:∀p,(Instr.next (a.eval (.tmp 40)) Z p).run prog w=.ok t w1)(q:48<a.tmps.size)(o:(Instr.extract t 0).run prog w1=.ok b w1) (n:Q .normal ((a.put (J 41) t).put (J 42) b) w1):CV prog f ro (.region e c Z) Q a w:=by
 unfold ke at g;split at g
 .rename_i h i m;simp at g;have⟨a1,a2,a3⟩:=uj g.1;have⟨b1,b2,b3⟩:=ND g.2;have k:c= #[h,i]:=by rw[<-m]
  subst k;refine .of_wp (wpIn_region ?_);refine Wv (o:=h) rfl a3 (by rw[a2];intro j g;cases g) (v:=t) (w1:=w1) (by simp only[execOp,a2];simp[l]) ?_;rw[a1];refine Wv (o:=i) rfl b3 (by rw[b2];intro j g;cases g) (v:=b) (w1:=w1) ?_ ?_
  .simp only[execOp,b2,JY (show 41<a.tmps.size by omega)];simp[o]
  .rw[b1];exact n
 .cases g
theorem r8{c:Array G5}(b:k6 c.toList=X){k v:G4}{w2:G2}(p:(Instr.entry (a.eval (.tmp 40))).run prog w=.ok (.tuple #[k,v]) w)(t:48<a.tmps.size)(s:(Instr.storeAt 276 (.pointer (J ⟨w.heap.size,0,I⟩)) v).run prog (World.add w (.cells #[.int .i64 0,.int .i64 0] 276))=.ok () w2)(r:Q .normal (((((a.put (J 43) (.tuple #[k,v])).put (J 44) k).put (J 45) v).put (J 9) (.pointer (J ⟨w.heap.size,0,I⟩))).put (J 8) k) w2):CV prog f ro (.region e c Z) Q a w:=by
 unfold k6 at b;split at b
 .rename_i h i j l m n q;simp at b;have⟨a1,a2,a3⟩:=oX b.1;have⟨b1,b2,b3⟩:=ND b.2.1;have⟨c1,c2,c3⟩:=ND b.2.2.1;have⟨d1,d2,d3⟩:=oW b.2.2.2.1;have⟨e1,e2,e3⟩:=gD b.2.2.2.2.1;have⟨f1,f2,f3⟩:=WM b.2.2.2.2.2;have o:c= #[h,i,j,l,m,n]:=by rw[<-q]
  subst o;refine .of_wp (wpIn_region ?_);refine Wv (o:=h) rfl a3 (by rw[a2];intro g b;cases b) (v:=.tuple #[k,v]) (w1:=w) (by simp only[execOp,a2];simp[p]) ?_;rw[a1];refine Wv (o:=i) rfl b3 (by rw[b2];intro g b;cases b) (v:=k) (w1:=w) ?_ ?_
  .simp only[execOp,b2,JY (show 43<a.tmps.size by omega)];simp[Instr.extract]
  rw[b1];refine Wv (o:=j) rfl c3 (by rw[c2];intro g b;cases b) (v:=v) (w1:=w) ?_ ?_
  .simp only[execOp,c2,Er (show(44:Nat)≠43 by decide),JY (show 43<a.tmps.size by omega)];simp[Instr.extract]
  rw[c1];refine Wv (o:=l) rfl d3 (by rw[d2];intro g b;cases b) (v:=.pointer (J ⟨w.heap.size,0,I⟩)) (w1:=World.add w (.cells #[.int .i64 0,.int .i64 0] 276)) ?_ ?_
  .simp only[execOp,d2];simp[AON]
  rw[d1];refine Wv (o:=m) rfl e3 (by rw[e2];intro g b;cases b) (v:=k) (w1:=World.add w (.cells #[.int .i64 0,.int .i64 0] 276)) ?_ ?_
  .simp only[execOp,e2,Er (show(9:Nat)≠44 by decide),Er (show(45:Nat)≠44 by decide)];rw[JY (d:=44)]
   .rfl
   grind [FX]
  rw[e1];refine vl (o:=n) rfl f3 (by rw[f2];intro g b;cases b) (w1:=w2) ?_ ?_
  .simp only[execOp,f2,Er (show(8:Nat)≠9 by decide),Er (show(8:Nat)≠45 by decide),Er (show(9:Nat)≠45 by decide)];rw[JY (d:=9),JY (d:=45)]
   .simp[s]
   all_goals grind [FX]
  .rw[f1,pS];exact r
 .cases b
theorem r9{c:Array G5}(b:gH c.toList=X){v:G4}{w1:G2}(q:48<a.tmps.size)(m:(Instr.loadAt 276 (a.eval (.tmp 9))).run prog w=.ok v w) (n:(Instr.mapUpdate 258 (a.eval (.tmp 7)) (a.eval (.tmp 8)) v).run prog w=.ok () w1)(p:Q .normal (((a.put (J 46) (a.eval (.tmp 7))).put (J 47) (a.eval (.tmp 8))).put (J 48) v) w1):CV prog f ro (.region e c Z) Q a w:=by
 unfold gH at b;split at b
 .rename_i h i j k o;simp at b;have⟨a1,a2,a3⟩:=Y8 b.1;have⟨b1,b2,b3⟩:=Y8 b.2.1;have⟨c1,c2,c3⟩:=Oq b.2.2.1;have⟨d1,d2,d3⟩:=ABo b.2.2.2;have l:c= #[h,i,j,k]:=by rw[<-o]
  subst l;refine .of_wp (wpIn_region ?_);refine Wv (o:=h) rfl a3 (by rw[a2];intro g b;cases b) (v:=a.eval (.tmp 7)) (w1:=w) (by simp only[execOp,a2];rfl) ?_;rw[a1];refine Wv (o:=i) rfl b3 (by rw[b2];intro g b;cases b) (v:=a.eval (.tmp 8)) (w1:=w) ?_ ?_
  .simp only[execOp,b2,Er (show(46:Nat)≠8 by decide)];rfl
  rw[b1];refine Wv (o:=j) rfl c3 (by rw[c2];intro g b;cases b) (v:=v) (w1:=w) ?_ ?_
  .simp only[execOp,c2,Er (show(46:Nat)≠9 by decide),Er (show(47:Nat)≠9 by decide)];simp[m]
  rw[c1];refine vl (o:=k) rfl d3 (by rw[d2];intro g b;cases b) (w1:=w1) ?_ ?_
  .simp only[execOp,d2,Er (show(48:Nat)≠46 by decide),Er (show(48:Nat)≠47 by decide),Er (show(47:Nat)≠46 by decide)];rw[JY (d:=46),JY (d:=47),JY (d:=48)]
   .simp[n]
   all_goals grind [FX]
  .rw[d1,pS];exact p
 .cases b
structure Cp(w:G2)(kd:Nat)(w':G2):Prop:=
 old:∀b,b<w.heap.size->b≠kd->w'.heap[b]?=w.heap[b]?
 size:w.heap.size<=w'.heap.size
 io:w'.os=w.os/\w'.output=w.output
variable{w:G2}
theorem Cp.trans{h i:G2}{e:Nat}(a:Cp w e h)(c:Cp h e i):Cp w e i:=⟨λb f g=>by rw[c.old b (LI f a.size) g,a.old b f g],Gt a.size c.size,by rw[c.io.1,c.io.2];exact a.io⟩
structure Ag(a a':M3):Prop:=
 defs:a'.defers=a.defers
 size:a'.tmps.size=a.tmps.size
 same:∀t,t∉ [8,9,39,40,41,42,43,44,45,46,47,48]->a'.eval (.tmp t)=a.eval (.tmp t)
theorem Ag.put{a c:M3}(b:Ag a c)(g:d∈ [8,9,39,40,41,42,43,44,45,46,47,48])(v:G4):Ag a (c.put (J d) v):=⟨b.defs,by rw[FX];exact b.size,λh e=>by rw[Er (d:=d) (λf=>e (by rw[<-f];exact g)),b.same h e]⟩
def vb(e:MapEntry):Prop:=∃n x A9,e.key=.int .i64 n/\e.val=.agg #[.int .i64 x,.int .i64 A9]
def fh(e:MapEntry):G4×Value:=(e.key,e.val)
variable{n:Int}
theorem fO:∀{l:List MapEntry} {i:Nat},(∀e∈l,∃m,e.key=.int .i64 m/\m≠n)->Instr.findNow (.int .i64) (.int .i64 n) l i=J I
 :=by intro x;induction x<;>grind [List.mem_cons_self,Instr.sameNow,Instr.findNow]
theorem ALI{e:Nat}{c:Array MapEntry}{a:Nat}(f:w.heap[e]?=J (.map c a))(l:∀h∈c.toList,∃g,h.key=.int .i64 g/\g≠n):
 (Instr.mapUpdate 258 (.map (J e)) (.int .i64 n) v).run prog w=.ok () (World.nl w e (.map (c.push {key:=.int .i64 n,val:=v,born:=a}) (a+1))):=by
 have k:=Ju (P:=prog) f AG;have i:∀b,(Instr.checkKey b 10000 3 (.int .i64 n)).run prog w=.ok () w:=λb=>(Yj (P:=prog) (M:=λ_=>False) y9 (x:=.int .i64 n) rfl (.int _ _)).1 b 9999;have j:=fO (i:=0) l;simp[Instr.mapUpdate,run_underlying uB,k,i,Instr.findKey,run_underlying y9,j,IA (P:=prog) f AG]
def AKC:(prog.info? 276).map (·.size)=J 2:=zCG
def AMv:∃i,prog.info? 276=J i/\i.size=2:=BY.1 AKC
def APN:Cm prog [69] 276=J ⟨.flat [.int,.int],2,X,X,[.d (.int .i64 0),.d (.int .i64 0)],[(0,1,Z),(1,1,Z)],0,0,Z⟩:=zCG
def ANe(a b:Int):(Instr.storeAt 276 (.pointer (J ⟨w.heap.size,0,I⟩)) (.agg #[.int .i64 a,.int .i64 b])).run prog (World.add w (.cells #[.int .i64 0,.int .i64 0] 276))=
 .ok () (World.nl (World.add w (.cells #[.int .i64 0,.int .i64 0] 276)) w.heap.size (.cells #[.int .i64 a,.int .i64 b] 276)):=by
 obtain⟨i,e,f⟩:=AMv;have:=Mx (P:=prog) (w:=World.add w (.cells #[.int .i64 0,.int .i64 0] 276)) e (b:=w.heap.size) (off:=0) (Mc w _) (v:=.agg #[.int .i64 a,.int .i64 b]) (by rw[f];rfl) (D2 2) (λg c=>by simp[Value.cells]at c;rcases c with rfl|rfl<;>rfl)
 simp[Instr.storeAt,Instr.sureAddr];exact this
theorem AM1{b:Nat}{h i:Int}{m:Nat×Nat}(o:w.heap[b]?=J (.cells #[.int .i64 h,.int .i64 i] 276 m)):(Instr.loadAt 276 (.pointer (J ⟨b,0,I⟩))).run prog w=.ok (.agg #[.int .i64 h,.int .i64 i]) w:=by
 have⟨v,c,n⟩:=L1 (P:=prog) (w:=w) (β:=λ_=>I) (M:=λ_=>False) APN o (off:=0) (src:=[.d (.int .i64 h),.d (.int .i64 i)]) rfl (D2 2) (λl a s f g=>by match l with|0=>simp at f g;subst f g;exact .d (.int _ _)|1=>simp at f g;subst f g;exact .d (.int _ _)|l+2=>simp at f) rfl
 have r:v=.agg #[.int .i64 h,.int .i64 i]:=by
  cases n with
  |agg _ j p k=>
   have e:=k 0 _ (j[0]?.getD Go.undef) rfl zCI;have c:=k 1 _ (j[1]?.getD Go.undef) rfl zCI;obtain⟨q⟩:=j
   match q,p,e,c with|[u0,u1],_,e,c=>simp at e c;cases e with|d e=>cases e;cases c with|d c=>cases c;rfl
 grind [Instr.loadAt,Instr.sureAddr]
def dF{b:MapEntry}:∀{L:List MapEntry},(L.map (·.born)).Nodup->b∈L->L.Perm (b::L.filter λc=>c.born !=b.born)
 |[],_,a=>by cases a|c::L,hn,a=>by
  rw[By,IT]at hn;rw[List.filter_cons];by_cases e:c.born=b.born
  .have i:b=c:=by
    rcases DO.1 a with a|a
    .exact a
    .exact absurd (EX.2 ⟨b,a,e.symm⟩) hn.1
   subst i;rw[Co AG];have:L.filter (λc=>c.born !=b.born)=L:=List.filter_eq_self.2 λf j=>by have:f.born≠b.born:=λh=>hn.1 (EX.2 ⟨f,j,h⟩);simpa using this
   rw[this]
  .have g:b∈L:=by
    rcases DO.1 a with a|a
    .subst a;exact absurd rfl e
    .exact a
   rw[D4 zCx];exact((dF hn.2 g).cons c).trans (.swap ..)
structure ALi(w0:G2)(a0:M3)(kd ks r:Nat)(en:Array MapEntry)(cl:Nat)(vis:List MapEntry)(a:M3)(w:G2):Prop:=
 cp:Cp w0 kd w
 ag:Ag a0 a
 it:a.eval (.tmp 40)=.pointer (J ⟨r,0,I⟩)
 iter:w.heap[r]?=J (.mapIter (J ks) cl (vis.map (·.born)).toArray cl)
 dst:∃en' cl',w.heap[kd]?=J (.map en' cl')/\en'.toList.map fh=vis.map fh/\eD en'.toList cl'
 left:(vis++(leftOf en (vis.map (·.born)).toArray).toList).Perm en.toList
structure xo(w0:G2)(a0:M3)(kd ks r:Nat)(en:Array MapEntry)(cl:Nat):Prop:=
 src:w0.heap[ks]?=J (.map en cl)
 kdl:kd<w0.heap.size
 ne:ks≠kd
 rl:w0.heap.size<=r
 born:eD en.toList cl
 ent:∀e∈en.toList,vb e
 keys:(en.toList.map (·.key)).Nodup
 size:48<a0.tmps.size
 to:a0.eval (.tmp 7)=.map (J kd)
variable{b:Nat}{x:Go.Obj}
theorem AFZ{a:Nat}(c:b≠a):(ChangeMaps.setBlock w a x).heap[b]?=w.heap[b]? :=by grind [ChangeMaps.setBlock]
theorem AKv(h:b<w.heap.size):(ChangeMaps.setBlock w b x).heap[b]?=J x:=by grind [ChangeMaps.setBlock]
theorem Vu{M:G2}{t:M3}{o j k:Nat}{g:Array MapEntry}{h:Nat}(F:xo M t o j k g h){b6 i8 b7:Nat}{av az a0:Array G5}(B:ke av.toList=X)(P:k6 az.toList=X)(R:gH a0.toList=X)(T:∀e a w,ALi M t o j k g h e a w->e.Perm g.toList->Q (.exit 0) a w):∀(p:Nat) (e:List MapEntry) (a:M3) (w:G2),ALi M t o j k g h e a w->(leftOf g (e.map (·.born)).toArray).size<p->
  Gf prog f ro (.seq (.region b6 av Z) (.seq (.cond (.tmp 42) .skip (.exit 0)) (.block 1 (.seq (.region i8 az Z) (.region b7 a0 Z))))) Q p a w
 |0,e,a,w,_,a5=>z|p+1,e,a,w,Ai,a5=>by
  have D:48<a.tmps.size:=by rw[Ai.ag.size];exact F.size
  have bv:=BZ F.src;have ac:w.heap[j]?=J (.map g h):=by rw[Ai.cp.old j bv F.ne];exact F.src
  have b1:=BZ Ai.iter;show CV _ _ _ _ _ a w;refine .seq ?_;rcases run_next_at (P:=prog) w 0 k j h h _ g h Ai.iter ac (λx b5=>F.born.2 x b5) (D2 _)with⟨a6,r⟩|⟨c,V,w1,b4,r⟩
  .refine r7 B (t:=.tuple #[.bool Z]) (b:=.bool Z) (w1:=w) (λb9=>by rw[Ai.it];exact r) D (by simp[Instr.extract]) ?_;refine .seq (.cond (t:=Z) (JY (d:=42) (by grind [FX]) _) ?_);refine .exit ?_;have cs:(leftOf g (e.map (·.born)).toArray).toList=[]:=by have:=I9 a6;rw[this]
   refine T e _ _ ⟨Ai.cp,(Ai.ag.put Af _).put Af _,?_,Ai.iter,Ai.dst,Ai.left⟩ ?_
   .rw[Er Af,Er Af];exact Ai.it
   .have:=Ai.left;grind
  .have⟨hemem,hec⟩:=mem_left V;have⟨n,x,A9,hk,hv⟩:=F.ent c hemem;have H:w1.heap=w.heap/\w1.os=w.os/\w1.output=w.output:=by rcases b4 with rfl|rfl<;>exact⟨rfl,rfl,rfl⟩
   generalize K:ChangeMaps.setBlock w1 k (.mapIter (J j) h ((e.map (·.born)).toArray.push c.born) h)=w2 at r;have cu:w2.heap.size=w.heap.size:=by rw[<-K,<-H.1];simp[ChangeMaps.setBlock]
   have A:∀b,b≠k->w2.heap[b]?=w.heap[b]? :=λb q=>by grind [AFZ]
   have b0:w2.heap[k]?=J (.mapIter (J j) h ((e.map (·.born)).toArray.push c.born) h):=by rw[<-K];exact AKv (by rw[H.1];exact b1)
   have ag:w2.os=w.os/\w2.output=w.output:=by rw[<-K];exact H.2
   have b2:w2.heap[j]?=J (.map g h):=by rw[A j (by have:=F.rl;omega)];exact ac
   refine r7 B (t:=.tuple #[.bool X,c.key,c.val]) (b:=.bool X) (w1:=w2) (λb9=>by rw[Ai.it];exact r) D (by simp[Instr.extract]) ?_;have a3:=(Ai.ag.put (d:=41) Af (.tuple #[.bool X,c.key,c.val])).put (d:=42) Af (.bool X);refine .seq (.cond (t:=X) (JY (d:=42) (by grind [FX]) _) ?_);rw[D4 rfl];refine .skip (.block ?_);have s:48<((a.put (J 41) (.tuple #[.bool X,c.key,c.val])).put (J 42) (.bool X)).tmps.size:=by rw[FX,FX];exact D
   have W:((a.put (J 41) (.tuple #[.bool X,c.key,c.val])).put (J 42) (.bool X)).eval (.tmp 40)=.pointer (J ⟨k,0,I⟩):=by rw[Er Af,Er Af];exact Ai.it
   generalize cm:(a.put (J 41) (.tuple #[.bool X,c.key,c.val])).put (J 42) (.bool X)=a1 at*;refine .seq ?_;refine r8 P (k:=c.key) (v:=c.val) (w2:=World.nl (World.add w2 (.cells #[.int .i64 0,.int .i64 0] 276)) w2.heap.size (.cells #[.int .i64 x,.int .i64 A9] 276)) ?_ s (by rw[hv];exact ANe x A9) ?_
   .rw[W];exact run_entry_at (P:=prog) w2 k j h _ g h c b0 b2 hemem F.born.1
   have N:=((((a3.put (d:=43) Af (.tuple #[c.key,c.val])).put (d:=44) Af c.key).put (d:=45) Af c.val).put (d:=9) Af (.pointer (J ⟨w2.heap.size,0,I⟩))).put (d:=8) Af c.key;have a4:(((((a1.put (J 43) (.tuple #[c.key,c.val])).put (J 44) c.key).put (J 45) c.val).put (J 9) (.pointer (J ⟨w2.heap.size,0,I⟩))).put (J 8) c.key).eval (.tmp 9)=.pointer (J ⟨w2.heap.size,0,I⟩):=by rw[Er Af,JY (d:=9)];simp[FX];exact Nat.lt_trans Af s
   have cl:(((((a1.put (J 43) (.tuple #[c.key,c.val])).put (J 44) c.key).put (J 45) c.val).put (J 9) (.pointer (J ⟨w2.heap.size,0,I⟩))).put (J 8) c.key).eval (.tmp 8)=c.key:=by rw[JY (d:=8)];simp[FX];exact Nat.lt_trans Af s
   have cd:(((((a1.put (J 43) (.tuple #[c.key,c.val])).put (J 44) c.key).put (J 45) c.val).put (J 9) (.pointer (J ⟨w2.heap.size,0,I⟩))).put (J 8) c.key).eval (.tmp 40)=.pointer (J ⟨k,0,I⟩):=by rw[Er Af,Er Af,Er Af,Er Af,Er Af];exact W
   have ch:=(N.same 7 Af).trans F.to;have b3:48<(((((a1.put (J 43) (.tuple #[c.key,c.val])).put (J 44) c.key).put (J 45) c.val).put (J 9) (.pointer (J ⟨w2.heap.size,0,I⟩))).put (J 8) c.key).tmps.size:=by simp[FX];exact s
   generalize ((((a1.put (J 43) (.tuple #[c.key,c.val])).put (J 44) c.key).put (J 45) c.val).put (J 9) (.pointer (J ⟨w2.heap.size,0,I⟩))).put (J 8) c.key=a2 at*;generalize L:World.nl (World.add w2 (.cells #[.int .i64 0,.int .i64 0] 276)) w2.heap.size (.cells #[.int .i64 x,.int .i64 A9] 276)=w4;have cv:w4.heap.size=w2.heap.size+1:=by rw[<-L,FB,Lk]
   have O:∀b,b<w2.heap.size->w4.heap[b]?=w2.heap[b]? :=λb q=>by grind [Eu,Kv]
   have ai:w4.os=w2.os/\w4.output=w2.output:=by rw[<-L];exact⟨rfl,rfl⟩
   have b8:w4.heap[w2.heap.size]?=J (.cells #[.int .i64 x,.int .i64 A9] 276):=by rw[<-L];exact GK _ (by rw[Lk];omega)
   have⟨en',cl',d1,d2,d3⟩:=Ai.dst;have cp:=LI F.kdl Ai.cp.size;have cc:w4.heap[o]?=J (.map en' cl'):=by rw[O o z,A o (by have:=F.rl;have:=F.kdl;omega)];exact d1
   have ad:∀l∈e,l∈g.toList:=λl C=>Ai.left.mem_iff.1 (Ip _ C);have cq:∀l∈en'.toList,∃p,l.key=.int .i64 p/\p≠n:=λl C=>by
    have:fh l∈e.map fh:=by rw[<-d2];exact MP C
    have⟨e3,h3,h4⟩:=EX.1 this;have⟨n3,x3,y3,k3,v3⟩:=F.ent e3 (ad e3 h3);have bs:l.key=e3.key:=(congrArg Prod.fst h4).symm;refine⟨n3,bs.trans k3,λbl=>?_⟩;subst bl;obtain⟨i,bn⟩:=Ce (ad e3 h3);obtain⟨ar,bo⟩:=Ce hemem;have cn:i=ar:=by
     have a':(g.toList.map (·.key))[i]?=J (.int .i64 n3):=by rw[Be,bn];exact congrArg J k3
     have bc:(g.toList.map (·.key))[ar]?=J (.int .i64 n3):=by rw[Be,bo];exact congrArg J hk
     exact(List.getElem?_inj zCI F.keys).1 (a'.trans bc.symm)
    grind
   refine r9 R (v:=.agg #[.int .i64 x,.int .i64 A9]) (w1:=World.nl w4 o (.map (en'.push {key:=.int .i64 n,val:=.agg #[.int .i64 x,.int .i64 A9],born:=cl'}) (cl'+1))) b3 (by rw[a4];exact AM1 b8) (by grind [ALI]) ?_;show Gf _ _ _ _ _ _ _ _;have bx:(e.map (·.born)).toArray.push c.born=((e++[c]).map (·.born)).toArray:=AG;have be:(leftOf g ((e++[c]).map (·.born)).toArray).toList=(leftOf g (e.map (·.born)).toArray).toList.filter λx=>x.born !=c.born:=by rw[<-bx];unfold leftOf;simp only[Array.toList_filter,List.filter_filter];refine List.filter_congr λx _=>?_;rw[contains_push];cases((e.map (·.born)).toArray).contains x.born<;>cases bi:(x.born==c.born)<;>simp[bne,bi]
   have bk:((leftOf g (e.map (·.born)).toArray).toList.map (·.born)).Nodup:=by unfold leftOf;rw[Array.toList_filter];exact F.born.1.sublist (List.Sublist.map _ List.filter_sublist)
   have aa:=dF bk V;refine Vu F B P R T p (e++[c]) _ _ ⟨?_,?_,?_,?_,?_,?_⟩ ?_
   .refine⟨λb q Y=>?_,?_,?_⟩
    .rw[Eu _ Y,O b (by have:=Ai.cp.size;omega),A b (by have:=F.rl;omega)];exact Ai.cp.old b q Y
    .rw[FB];have:=Ai.cp.size;omega
    .show w4.os=_/\w4.output=_;rw[ai.1,ai.2,ag.1,ag.2];exact Ai.cp.io
   .exact((N.put (d:=46) Af _).put (d:=47) Af _).put (d:=48) Af _
   .grind [Er]
   .grind [Eu]
   .refine⟨_,_,GK _ zCI,?_,?_,?_⟩
    .grind [fh]
    .rw[RW,Ap,D0];refine⟨d3.1,AG,λb q b' bh l=>?_⟩;obtain⟨v,m,rfl⟩:=EX.1 q;simp at bh;have:=d3.2 v m;omega
    .intro v m;rw[RW]at m;rcases Ac.1 m with m|m
     .have:=d3.2 v m;omega
     grind
   .rw[be,F0];exact(List.Perm.append_left e aa.symm).trans Ai.left
   .have:=aa.length_eq;grind
variable{M:Nat->Prop}
theorem sW{k:IntKind}(h:DR w M (.int k n) v):v=.int k n:=by cases h;rfl
theorem Yo(a:Array MapEntry):leftOf a #[]=a:=by simp[leftOf]
theorem Z6{e:Code}(f:Xv e=X):∃g a i8 b h c,e=.block 0 (.loop (.seq (.region g a Z) (.seq (.cond (.tmp 42) .skip (.exit 0)) (.block 1 (.seq (.region i8 b Z) (.region h c Z))))))/\ke a.toList=X/\k6 b.toList=X/\gH c.toList=true:=by unfold Xv at f;grind [Ln]
structure APo(fr:Fr)(st d8:St)(o:Di):Prop:=
 ex:∃bid off did cs sid es,st.env.get 5=.ptr bid off/\st.env.get 7=.mp did/\st.heap.get bid=J (.box cs)/\cs[off]?=J (.mp sid)/\st.heap.get sid=J (.map es)/\st.heap.get did=J (.map [])/\es.all JB=X/\(es.map λp=>Yh p.1).Nodup/\AJ sid did=Z/\J4 fr.ci [(did,.map es)]=X/\
  o=.normal/\d8={st with env:=Kz st.env,heap:=st.heap.put did (.map es)}
def ADa{e:Fr}{f c:St}{o:Di}(a:J6 e f=.ok (o,c)):APo e f c o:=by
 unfold J6 at a;split at a
 .rename_i g r i k l;unfold Xx at a;split at a
  .rename_i h m;split at a
   .rename_i s n;unfold ew at a;split at a
    .rename_i j q p;split at a
     .rename_i b;cases a;exact⟨g,r,i,h,s,j,k,l,m,n,q,p,b.1,b.2.1,b.2.2.1,b.2.2.2,rfl,rfl⟩
     .cases a
    .cases a
   .cases a
  .cases a
 .cases a
theorem OM{p:Ar×y}(h:JB p=X):∃n x A9,p=(.int .i64 n,.agg [.d (.int .i64 x),.d (.int .i64 A9)]):=by grind [JB]
variable{c:BF}
theorem jI{x g:Int}(h:VR c w M (.agg [.d (.int .i64 x),.d (.int .i64 g)]) v):v=.agg #[.int .i64 x,.int .i64 g]:=by
 cases h with
 |agg _ e i f=>
  have a:=f 0 _ (e[0]?.getD Go.undef) rfl zCI;have b:=f 1 _ (e[1]?.getD Go.undef) rfl zCI;obtain⟨j⟩:=e
  match j,i,a,b with|[u0,u1],_,a,b=>simp at a b;cases a with|d a=>cases a;cases b with|d b=>cases b;rfl
def AIf{c:BF}{M:Nat->Prop}(x g:Int):VR c w M (.agg [.d (.int .i64 x),.d (.int .i64 g)]) (.agg #[.int .i64 x,.int .i64 g]):=by
 refine .agg _ _ rfl λf a h b e=>?_
 match f with|0=>simp at b e;subst b e;exact .d (.int _ _)|1=>simp at b e;subst b e;exact .d (.int _ _)|f+2=>simp at b
def AJ4{A:Nat->Prop}{a:G2}{h:S}(H:HR A c w h)(j:∀b,b<w.heap.size->a.heap[b]?=w.heap[b]?)(i:w.heap.size<=a.heap.size)(io:a.os=w.os/\a.output=w.output):HR A c a h:=by have m:FI A (MS A c h) w (MS A c h) a:=⟨λb f _=>j b f,i,λb f=>.inl f,io⟩;refine⟨λe o l=>?_,H.inj,λe g k=>LI (H.bnd e g k) i,H.out,λb f=>LI (H.abnd b f) i⟩;have⟨g,h1,h2⟩:=H.obj e o l;exact⟨g,h1,h2.mono (.refl c) m (H.bnd e g h1) (j _ (H.bnd e g h1))⟩
def kJ(e:CW)(t:Nat):(Kz e).get t=if t∈ [8,9,39,40,41,42,43,44,45,46,47,48]then .undef else e.get t:=by
 unfold Kz;simp[CW.q_f]
 repeat' (first|rfl|split)
 all_goals (first|rfl|omega)
def APM:Cm prog [69] 258=J ⟨.map,1,Z,Z,[.d .nilm],[],276,3,Z⟩:=zCG
theorem iZ{a:Go.Obj}(f:w.heap[b]?=J a):World.nl (World.nl w b x) b a=w:=by
 have e:(w.heap.setIfInBounds b x).setIfInBounds b a=w.heap:=by
  refine OK λi=>?_;rw[I4,I4];by_cases c:b=i
  .grind
  .rw[Co c,Co c]
 show({w with heap:=(w.heap.setIfInBounds b x).setIfInBounds b a}:G2)=w
 rw[e]
end
theorem AEP:eO prog cfg 173 6 ⟨Uu,J6⟩:=by
 intro c8 d B D O e c7 bi dd _ b2 aa bx;have D:Uu c8 d B=true:=D;have aa:J6 O e=.ok (c7,bi):=aa;unfold Uu at D;simp at D;obtain⟨rfl,bn,b3⟩:=D;obtain⟨dj,dr,i8,ds,dm,dx,rfl,bo,bs,t⟩:=Z6 b3;obtain⟨bh,ag,o,c',ai,h,bk,bl,j,a1,a5,w,ad,b9,de,cv,rfl,rfl⟩:=(ADa aa).ex;refine⟨bx.put λd5 s=>(by cases s),λA c6 b g i ro cn l=>?_⟩;have H:=l.hr;have ar:VR b g (MS A b e.heap) (e.env.get 5) (i.eval (.tmp 5)):=l.s.env 5;have av:VR b g (MS A b e.heap) (e.env.get 7) (i.eval (.tmp 7)):=l.s.env 7;rw[bk]at ar;rw[bl]at av;generalize cx:i.eval (.tmp 5)=x5 at ar;generalize c0:i.eval (.tmp 7)=x7 at av;cases ar with
 |ptr _ _ dn b7=>
 cases av with
 |mp _ m x=>
 have⟨kb',a2,c,elem,hbc,hvr⟩:=H.obj bh _ j;rw[b7]at a2;cases a2;have⟨kd',a3,en0,cl0,hd0,hmd⟩:=H.obj o _ w;rw[x]at a3;cases a3;have⟨ks,hks,en,cl,hsb,hbn,Q,hp1,hp2,hll,hpt⟩:=H.obj ai _ a5;have df:ag<c.size:=by rw[<-hvr.1];exact(BI.1 a1).1
 have⟨v,hlv,cu⟩:=L1 (P:=prog) (w:=g) (β:=b) (M:=MS A b e.heap) APM hbc (off:=ag) (src:=[.mp ai]) rfl AZ (λa' i c9 Y cq=>by match a' with|0=>simp at Y;subst Y;exact hvr.2 ag _ c9 a1 cq|a'+1=>simp at Y) rfl
 have cc:(Instr.loadAt 258 (i.eval (.tmp 5))).run prog g=.ok v g:=by rw[cx];simp[Instr.loadAt,Instr.sureAddr];exact hlv
 cases cu with
 |mp _ dq a4=>
 rw[hks]at a4;cases a4;have cm:ks.b≠m.b:=λa=>by have:=H.inj ai o _ _ ks m a5 w rfl rfl hks x a;grind [Id.q_c]
 have b4:∀a∈en.toList,vb a:=λa ac=>by
  obtain⟨k,P⟩:=Ce (hp1.mem_iff.1 ac);have b6:k<h.length:=by rw[hll];exact(BI.1 P).1
  have f:=CI b6;generalize h[k]=p at f;obtain⟨M,V,B,rfl⟩:=OM (EL.1 ad p (AP f));have⟨R,T⟩:=hpt k _ a f P;exact⟨M,V,B,sW R,jI T⟩
 have b':(en.toList.map (·.key)).Nodup:=by
  refine(hp1.map (·.key)).nodup_iff.2 ?_;have a:Q.map (·.key)=(h.map λp=>Yh p.1).map λM=>Value.int .i64 M:=by
   rw[Ol];refine Lt λk=>?_;rw[Be,Be];by_cases P:k<h.length
   .have f:=CI P;have K:=CI (l:=Q) (i:=k) z;generalize h[k]=p at f;generalize Q[k]'(z)=q at K;obtain⟨M,V,B,rfl⟩:=OM (EL.1 ad p (AP f));grind [Yh,sW]
   .grind
  rw[a];exact b9.map _ λi n b0 a=>b0 (by cases a;rfl)
 have bv:Ks h:=by
  refine⟨λp f=>?_,?_⟩
  .grind [OM]
  .grind
 have dc:en0= #[]:=by have:=hmd.len;exact I9 (by simpa using this.symm)
 have a6:48<i.tmps.size:=by
  rw[l.s.sz,cn];simp only[Dt,As,EL]at b2;unfold gH at t;split at t
  .rename_i d0 R T d4 K;simp at t;have s:=(Oq t.2.2.1).1;grind [Nat.blt_eq]
  .cases t
 have b8:=BZ hd0;have F:xo g i m.b ks.b g.heap.size en cl:=⟨hsb,b8,cm,D2 _,hbn,b4,b',a6,c0⟩;refine .seq (r6 bn cc a6 (run_range_map g 258 3 276 ks.b en cl uB hsb) ?_);show CV _ _ _ _ _ _ _;refine .block (.loop (en.size+1) (Vu F bo bs t (λd6 a0 r L cs=>?_) (en.size+1) [] _ _ ⟨⟨λn j _=>heap_alloc_old g _ j,AG,rfl,rfl⟩,?_,?_,?_,⟨#[],cl0,?_,rfl,by simp[eD]⟩,?_⟩ ?_))
 .show KD A O c6 b g e.heap .normal {e with env:=Kz e.env,heap:=e.heap.put o (.map h)} .normal a0 r
  have⟨en',cl',d1,d2,d3⟩:=L.dst;have b1:World.nl (World.nl r m.b (.map en0 cl0)) m.b (.map en' cl')=r:=iZ d1;have be:HR A b (World.nl r m.b (.map en0 cl0)) e.heap:=AJ4 H (λn j=>by
   by_cases a:n=m.b
   .grind [GK]
   .rw[Eu _ a];exact L.cp.old n j a) (by rw[FB];exact L.cp.size) L.cp.io
  have⟨l2,p1,p2⟩:=ot (f:=fh) (m':=Q.map fh) (m:=en'.toList.map fh) (by rw[d2];exact((cs.trans hp1).map fh).symm) rfl;have cd:∀(bc:G2) (az:Nat->Prop),yk b bc az h en' cl':=λbc az=>by
   refine⟨d3,l2,p1.symm,.inr bv,?_,λk p a f ac=>?_⟩
   .grind [List.length_map]
   .have K:=congrArg (λc5=>c5[k]?) p2;simp[ac]at K;have⟨e3,h3,h4⟩:=BY.1 K.symm;obtain⟨M,V,B,rfl⟩:=OM (EL.1 ad p (AP f));have⟨R,T⟩:=hpt k _ e3 f h3;have c1:=sW R;have c2:=jI T;have c3:a.key=e3.key:=(congrArg Prod.fst h4).symm;have c4:a.val=e3.val:=(congrArg Prod.snd h4).symm;rw[c3,c4,c1,c2];exact⟨.int _ _,AIf V B⟩
  have W:=be.upd' (o':=.map h) (x:=.map en' cl') w rfl x ⟨en',cl',GK _ (by grind [FB]),cd _ _⟩;rw[b1]at W;have f:FI A (MS A b e.heap) g (MS A b (e.heap.put o (.map h))) r:=by
   refine⟨λn j C=>L.cp.old n j λa=>?_,L.cp.size,λn j=>.inl (UZ w rfl j),L.cp.io⟩;subst a;rcases C with C|C
   .exact C (.inr ⟨o,_,m,w,rfl,x,rfl⟩)
   .exact H.out o _ m w rfl x C
  have b5:CX A O.ci O.π b g e.heap b r (e.heap.put o (.map h)):=IK (δ:=[(o,.map h)]) (.refl b) (λ_ s=>.inl s) W f ⟨λn j ch=>L.cp.old n j λa=>ch _ (AS.2 rfl) m x a.symm,λ_ _ s=>.inl s⟩ cv;refine⟨rfl,b,b5,W,⟨by rw[L.ag.size];exact l.s.sz,λN=>?_,?_⟩,l.fresh,l.own,Gt l.lb L.cp.size⟩
  .show VR b r _ ((Kz e.env).get N) (a0.eval (.tmp N));rw[kJ];split
   .exact .undef _
   .rename_i cp;rw[L.ag.same N cp];exact VR.mono (.refl b) f (l.s.env N)
  .rw[L.ag.defs];exact l.s.defs.mono (.refl b) f
 .exact((⟨rfl,rfl,λN _=>rfl⟩:Ag i i).put Af _).put Af _
 .grind [JY,FX]
 .exact heap_alloc_new g _
 .grind [heap_alloc_old]
 .show((leftOf en #[]).toList).Perm en.toList;rw[Yo]
 grind [Yo]
def xr(f:TypeId)(e:String)(c:IY)(a:cfg.meth f e=J c)(g:G4)(h:G2):(method (prog.types.size+Made.depth) f g e).run prog h=.ok (c,g) h:=by
 simp only[cfg]at a;split at a
 .rename_i i;subst i;simp[cM]at a;split at a
  .rename_i b;exact zBF
  split at a
  .rename_i b;exact zBF
  split at a
  .rename_i b;exact zBF
  split at a
  .rename_i b;exact zBF
  split at a
  .rename_i b;exact zBF
  cases a
 .cases a
def ALM{A:Nat->Prop}{g:BF}{j:G2}{b:S}(H:HR A g j b){f:u}{e:List y}{i:Nat}{a:y}{x:Ar}(n:b.get f=J (.box e))(P:e[i]?=J a)(D:EB b.get a=J x):
 HR A g j ((b.q_d (Ct b.get a)).put f (.box (e.set i (.d x))))/\FI A (MS A g b) j (MS A g ((b.q_d (Ct b.get a)).put f (.box (e.set i (.d x))))) j:=by
 have p:=Yx (h:=b) (δ:=Ct b.get a) (v:=a) λr q=>q;have F:=Jx p;have s:=F.hr H;have o:(b.q_d (Ct b.get a)).get f=J (.box e):=by
  rcases JZ (Ct b.get a) b f with⟨l,_⟩|⟨r,l,N,_⟩
  .rw[l,n]
  .exfalso;subst N;rcases p r l with⟨R,M,_,m⟩|⟨R,M,V,_,m,_⟩<;>rw[n]at m<;>cases m
 have⟨k,hk,c,elem,hbc,hvr⟩:=H.obj f _ n;have⟨k',B,c',elem',w,hvr'⟩:=s.obj f _ o;rw[hk]at B;cases B;rw[hbc]at w;cases w;have v:=pJ (A:=A) (β:=g) (w:=j) (o':=.box (e.set i (.d x))) o rfl;have O:PK g j (MS A g ((b.q_d (Ct b.get a)).put f (.box (e.set i (.d x))))) k (.box (e.set i (.d x))):=by
  refine⟨c,elem,hbc,by rw[Kw];exact hvr.1,λQ T K h C=>?_⟩;refine VR.mono (.refl g) v ?_;rw[F5]at h;split at h
  .rename_i L;subst L;split at h
   .cases h;exact .d (xV H F.sub (hvr.2 i a K P C) D (mR p D λr q=>q))
   .cases h
  .exact hvr'.2 Q T K h C
 have t:=s.upd' (o':=.box (e.set i (.d x))) (x:=.cells c elem (0,0)) o rfl hk (by rw[Zn hbc];exact O);rw[Zn hbc]at t;exact⟨t,F.sub.ol.trans v⟩
def APL:cfg.T 112=(.some ⟨.other,3,X,X,[.d9,.d9,.d9],[(0,1,Z),(1,1,Z),(2,1,Z)],0,0,X⟩):=zCG
def ur{e:Array G5}(a:yF e.toList=X):∃b c,e= #[b,c]/\b.dst=J 192/\b.op=.load 112 (.tmp 8)/\b.guard=I/\c.dst=I/\c.op=.store 112 (.tmp 6) (.tmp 192)/\c.guard=none:=by
 obtain⟨g⟩:=e;unfold yF at a;split at a
 .rename_i b c f;simp at a;have⟨a1,a2,a3⟩:=Oq a.1;have⟨b1,b2,b3⟩:=WM a.2;simp only at f;subst f;exact⟨b,c,rfl,a1,a2,a3,b1,b2,b3⟩
 .cases a
def mA:Ah:=λ_ _ _ _ _ _=>.err [0]
def AGf(P:Program)(W:Lp->Prop):EI P W mA:=λ_ _ _ _ _ _ _ h=>by cases h
def AJl{h:Array G5}(p:yF h.toList=X){fr:Fr}{st:St}{f e:u}{a b c C D F:y}(o:st.env.get 8=.ptr f 0)(g:st.env.get 6=.ptr e 0)(r:st.heap.get f=J (.box [a,b,c]))(q:st.heap.get e=J (.box [C,D,F])) (s:a.q_b=X) (t:b.q_b=X) (x:c.q_b=X) (v:J4 fr.ci [(e,.box [a,b,c])]=X):
 EZ cfg mA fr 44 h Z st=.ok (.normal,{st with env:=(192,.agg [a,b,c])::st.env,heap:=st.heap.put e (.box [a,b,c]),base:=st.base+2}):=by
 obtain⟨H,K,rfl,i,j,k,l,m,n⟩:=ur p;have B:CW.get ((192,y.agg [a,b,c])::st.env) 6=.ptr e 0:=by rw[<-g];rfl
 have A:CW.get ((192,y.agg [a,b,c])::st.env) 192=.agg [a,b,c]:=rfl;have w:J4 fr.ci []=true:=by cases fr.ci<;>rfl
 simp[EZ,EF,DZ,Oa,i,j,k,l,m,n,Jj,EJ,evalOp,ev,o,g,QI,Mu,APL,Kq,Kk,r,q,Kj,Gi,v,w,B,A,Xu,y.cells,s,t,x,DD,S.q_d,LY,Ds]
structure APv(fr:Fr)(st d8:St)(o:Di):Prop:=
 ex:∃b8 b6 c r a x y1 y2 y3,st.env.get 8=.ptr b8 0/\st.env.get 6=.ptr b6 0/\st.heap.get b8=J (.box [c,r,a])/\EB st.heap.get a=J x/\
  J4 fr.ci (Ct st.heap.get a++[(b8,.box [c,r,.d x])])=X/\c.q_b=X/\r.q_b=X/\
  ((st.heap.q_d (Ct st.heap.get a)).put b8 (.box [c,r,.d x])).get b6=J (.box [y1,y2,y3])/\J4 fr.ci [(b6,.box [c,r,.d x])]=X/\o=.ret/\
  d8={st with env:=(192,.undef)::st.env,heap:=((st.heap.q_d (Ct st.heap.get a)).put b8 (.box [c,r,.d x])).put b6 (.box [c,r,.d x]),base:=st.base+2}
def AFM{f:Fr}{h e:St}{g:Di}(a:M7 f h=.ok (g,e)):APv f h e g:=by
 unfold M7 at a;split at a
 .rename_i k j n m;unfold mX at a;split at a
  .rename_i l t i q;split at a
   .rename_i C b;unfold s5 at b;split at b
    .rename_i v s;split at b
     .rename_i c;cases b;simp[S.q_e]at a;unfold tC at a;split at a
      .rename_i B w x A o p;cases o;split at a
       .rename_i r;cases a;exact⟨k,j,l,t,i,v,w,x,A,n,m,q,s,c.1,c.2.1,c.2.2,by rw[S.q_e];exact p,r,rfl,rfl⟩
       .cases a
      .cases a
     .cases b
    .cases b
   .cases a
  .cases a
 .cases a
def AJm:eO prog cfg 175 44 ⟨br,M7⟩:=by
 intro a0 d q m fr st az H v w a5 o N;have m:br a0 d q=true:=m;have o:M7 fr st=.ok (az,H):=o;unfold br at m;simp at m;obtain⟨rfl,Y,ac⟩:=m;have av:q=.ret:=by cases q<;>first|rfl|cases ac
 subst av;obtain⟨g,a3,e,c,a,x,bc,be,bh,L,K,P,ar,ag,R,aa,Q,ai,rfl,rfl⟩:=(AFM o).ex;rw[<-v]at w;have ad:=AJl Y (fr:={fr with rnd:=X}) (st:={st with heap:=(st.heap.q_d (Ct st.heap.get a)).put g (.box [e,c,.d x])}) L K (by simp[S.q_e]) Q R aa rfl ai
 have V:=Yx (h:=st.heap) (δ:=Ct st.heap.get a) (v:=a) λh p=>p;have O:LW (Gp prog cfg) ((st.heap.q_d (Ct st.heap.get a)).put g (.box [e,c,.d x])):=LW.put (N.q_d λh p=>by rcases V h p with⟨_,_,b,_⟩|⟨_,_,_,b,_⟩<;>rw[b]<;>rfl) λc b=>by cases b
 have B:=λro=>dI (P:=prog) (mix:=[69,112,283,36,258]) (C:=cfg) (K:=mA) (ro:=ro) (fr:={fr with rnd:=X}) ⟨by simp[cfg],xr⟩ (AGf _ _) (λb=>by cases b) zCG w ad O
 refine⟨(B I).1,λA D f j s ro W k=>?_⟩;have⟨H1,hP⟩:=ALM (A:=A) k.hr P (i:=2) (a:=a) (x:=x) rfl ar;have T:CX A fr.ci fr.π f j st.heap f j ((st.heap.q_d (Ct st.heap.get a)).put g (.box [e,c,.d x])):=by
  have l:(st.heap.q_d (Ct st.heap.get a)).put g (.box [e,c,.d x])=st.heap.q_d (Ct st.heap.get a++[(g,.box [e,c,.d x])]):=by rw[S.q_k];rfl
  have r:HR A f j ((st.heap.q_d (Ct st.heap.get a)).put g (.box [e,c,.d x])):=H1;have t:FI A (MS A f st.heap) j (MS A f ((st.heap.q_d (Ct st.heap.get a)).put g (.box [e,c,.d x]))) j:=hP;rw[l]at r t⊢;exact IK (.refl f) (λ_ b=>.inl b) r t ⟨λ_ _ _=>rfl,λ_ _ b=>.inl b⟩ ag
 have F:UY A {fr with rnd:=X} D f j {st with heap:=(st.heap.q_d (Ct st.heap.get a)).put g (.box [e,c,.d x])} s:=⟨H1,k.s.mono (.refl f) hP,k.fresh,k.own,k.lb⟩
 rw[show(175:IY)=fr.f from v.symm];refine .seq (CV.mono ((B ro).2 A D f j s W F) λl a2 a' h=>?_);cases l with
 |normal=>
  refine .ret ?_;obtain⟨_,a1,M,i⟩:=h;refine⟨rfl,a1,T.trans M,i.hr,⟨i.s.sz,λn=>?_,i.s.defs⟩,i.fresh,i.own,i.lb⟩;have:=i.s.env n;by_cases C:n=192
  .subst C;exact .undef _
  .have l:CW.get ((192,y.undef)::st.env) n=CW.get ((192,y.agg [e,c,.d x])::st.env) n:=by simp[CW.q_f,Co (Ne.symm C)]
   show VR _ _ _ (CW.get ((192,y.undef)::st.env) n) _;rw[l];exact this
 |exit a6=>exact absurd h.1 AG|ret=>exact absurd h.1 AG|panic a4=>obtain⟨_,_,_,b,_⟩:=h;cases b|_=>exact h.elim
