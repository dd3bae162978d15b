/- Parts of it. -/
import Derived.Test.YtbinfhpngacfgaaGreatDo11
set_option linter.all false
namespace Go
theorem zEV{p:Prop}(h:p:=by first|assumption|(show ch.many=0;assumption)):p:=h
theorem zEc{p:Prop}(h:p:=by first|assumption|(show¬ch.many=0;assumption)):p:=h
theorem zEh{p:Prop}(h:p:=by rw[az];simp[AE]):p:=h
theorem zEk{p:Prop}(h:p:=by rw[I];simp[AE]):p:=h
theorem zEm{p:Prop}(h:p:=by have:=O (b+54) AA;rw[←e,show Id.under ((b+54)::π) (1::0::2::(b+54)::π)=true from Ay [1,0,2]]at this;cases this):p:=h
theorem zEt{p:Prop}(h:p:=by rw[Y];simp[AE]):p:=h
theorem zE3{p:Prop}(h:p:=by simp only[AE,Ac]at D;subst D;exact KS (n:=b+63) AA (under_iff.2 ⟨[1],rfl⟩)):p:=h
theorem zE6{p:Prop}(h:p:=by rw[M];simp[AE]):p:=h
theorem zE9{p:Prop}(h:p:=by simp only[AE,Ac]at D;subst D;exact s.out.run.new w.out 1 _ AA):p:=h
theorem zFG{p:Prop}(h:p:=by rw[Ag b]at h;exact(TY h).2):p:=h
theorem zFK{p:Prop}(h:p:=by rw[F1];omega):p:=h
theorem zFO{p:Prop}(h:p:=by first|assumption|omega):p:=h
theorem zFa{p:Prop}(h:p:=by first|assumption|omega|(rw[ad.out];decide)):p:=h
theorem zFh{p:Prop}(h:p:=by rw[e];rfl):p:=h
theorem zFi{p:Prop}(h:p:=by rw[CH];simp):p:=h
theorem zFj{p:Prop}(h:p:=by simp[AE,BB]):p:=h
theorem zFo{p:Prop}(h:p:=by have:=P5 st.d8.waits (i:Int);omega):p:=h
end Go
namespace Go
theorem zAB{p:Prop}(h:p:=by
 rcases zs with _|⟨z,zs⟩;all_goals
  (repeat' (first|simp only[go_sem, *,AM]|(refine sx ?_ ?_<;>intro a4)|refine sy AA fun x cc a1=>?_|simp(disch:=first|assumption|omega) only[AU]))
  all_goals (first|(rw[b7.out Bs];exact a3.out _ (fun id b=>by have f:=AJ b;simp only[go_sem,f,AM]))|(rw[b8.out zEc];exact a3.out _ (fun id b=>by have f:=AJ b;simp only[go_sem,f,AM]))|(rw[b'.out Bs zEV zFa];refine⟨rfl,?_⟩;first|(refine go.out (.f8 (1::(b+94)::π) 0 (q.queue.length+1)) _ ?_ ?_ (Aq [] ?_ ?_) (.inr fun B w=>?_) fun B b1 C F t=>?_;all_goals (first|(simp only[AE,Ac]at w;subst w;exact⟨Ay [1,b+94],_,rfl⟩)|(have f:=AJ t;have k:=u.out B t;have K:=F Q BJ;simp only[go_sem,f,k,b1,C,K,AM];done)|(simp;done)|(simp only[go_sem,Z,ac,T,U,Y,ag,J,BK,N.out,M.out,D.out,Az,BE,BY,AM,az,a0,ar,ai,av,a2];first|done|rfl));done)|(refine go.out (.f8 Q 0 (q.queue.length+1)) _ ?_ ?_ (Aq zs ?_ ?_) (.inl rfl) fun B b1 C F t=>?_;all_goals (first|(simp only[AE,Ac]at w;subst w;exact⟨Ay [1,b+94],_,rfl⟩)|(have f:=AJ t;have k:=u.out B t;have K:=F Q BJ;simp only[go_sem,f,k,b1,C,K,AM];done)|(simp;done)|(simp only[go_sem,Z,ac,T,U,Y,ag,J,BK,N.out,M.out,D.out,Az,BE,BY,AM,az,a0,ar,ai,av,a2];first|done|rfl))))|(rw[d4.out Bs zEV zFO];refine⟨rfl,?_⟩;first|(refine bx.out (.f8 (1::(b+94)::π) 0 (q.queue.length+1)) _ ?_ ?_ (Aq [] ?_ ?_) (.inr fun B w=>?_) fun B b1 C F t=>?_;all_goals (first|(simp only[AE,Ac]at w;subst w;exact⟨Ay [1,b+94],_,rfl⟩)|(have f:=AJ t;have k:=u.out B t;have K:=F Q BJ;simp only[go_sem,f,k,b1,C,K,AM];done)|(simp;done)|(simp only[go_sem,Z,ac,T,U,Y,ag,J,BK,N.out,M.out,D.out,Az,BE,BY,AM,az,a0,ar,ai,av,a2];first|done|rfl));done)|(refine bx.out (.f8 Q 0 (q.queue.length+1)) _ ?_ ?_ (Aq zs ?_ ?_) (.inl rfl) fun B b1 C F t=>?_;all_goals (first|(simp only[AE,Ac]at w;subst w;exact⟨Ay [1,b+94],_,rfl⟩)|(have f:=AJ t;have k:=u.out B t;have K:=F Q BJ;simp only[go_sem,f,k,b1,C,K,AM];done)|(simp;done)|(simp only[go_sem,Z,ac,T,U,Y,ag,J,BK,N.out,M.out,D.out,Az,BE,BY,AM,az,a0,ar,ai,av,a2];first|done|rfl)))))):p:=h
theorem zAH{p:Prop}(h:p:=by
 (repeat' (first|simp only[go_sem, *,AM]|(refine sx ?_ ?_<;>intro a4)|refine sy AA fun x cc a1=>?_|simp(disch:=first|assumption|omega) only[AU]))
 all_goals (first|(rw[b7.out Bs];exact a3.out _ (fun id b=>by have f:=AJ b;simp only[go_sem,f,AM]))|(rw[b8.out zEc];exact a3.out _ (fun id b=>by have f:=AJ b;simp only[go_sem,f,AM]))|(rw[b'.out Bs zEV zFa];refine⟨rfl,?_⟩;first|(refine go.out (.f8 (1::(b+94)::π) 0 1) _ ?_ ?_ (Aq [] ?_ ?_) (.inr fun B w=>?_) fun B b1 C F t=>?_;all_goals (first|(simp only[AE,Ac]at w;subst w;exact⟨Ay [1,b+94],_,rfl⟩)|(have f:=AJ t;have k:=u.out B t;simp only[go_sem,f,k,b1,C,AM];done)|(simp[ad.out];done)|(simp only[go_sem,Z,ac,T,U,Y,ag,J,BK,N.out,M.out,D.out,Az,BE,BY,AM,ad.out];first|done|rfl));done)))):p:=h
theorem zAJ{p:Prop}(h:p:=by (first|(refine go.out (.f8 (1::16::π) 0 (st.d8.waits.length+1)) _ ?_ (Aq [] ?_ ?_) (.inr fun g c=>?_) (fun g b1 q a=>?_);all_goals (try simp only[Av,Dm]);all_goals (first|(simp only[AE,Ac]at c;subst c;exact⟨Ay [1,16],_,rfl⟩)|(have k:=AJ a;have n:=Ds a;have s:=O _ q;simp only[go_sem,k,n,b1,s,AM];done)|(simp;done)|(simp only[go_sem,t,u,w,z,K,L,M,N,I,J,BE,BY,AM];first|done|rfl));done)|(refine go.out (.f8 id 0 (st.d8.waits.length+1)) _ ?_ (Aq x ?_ ?_) (.inl (U _ rfl)) (fun g b1 q a=>?_);all_goals (try simp only[Av,Dm]);all_goals (first|(simp only[AE,Ac]at c;subst c;exact⟨Ay [1,16],_,rfl⟩)|(have k:=AJ a;have n:=Ds a;have s:=O _ q;simp only[go_sem,k,n,b1,s,AM];done)|(simp;done)|(simp only[go_sem,t,u,w,z,K,L,M,N,I,J,BE,BY,AM];first|done|rfl))))):p:=h
theorem zAP{p:Prop}(h:p:=by
 rw[s]at f M;have ad:=JI az k _ _ _ A.out.ol cn.out s;obtain⟨w,U,q,z⟩:=f.ret K rfl;subst w;have b0:=(f.box 0 AA).trans Q;have a':=(f.box 10 AA).trans N;have bc:=(f.box 31 AA).trans D;have P:=fun i t=>f.pp i (v.out i t) (O.out i t).1 (O.out i t).2;replace f:=AB f;replace s:=AB s;replace q:=AB q;replace z:=AB z;replace P:=AB P;refine ax ?_;refine b'.out (_,c+20) ⟨⟨U,K,q.out.up AA,fun i t=>z.out i (v.out i t) (O.out i t).2,A.out.post ad,fun ai bl=>MJ (C.out ai ?_) ad.ext,?_⟩,b0,a',?_,AA,⟨Ld B.out P.out⟩⟩
 .rw[CH,DL];exact F0 _ bl
 .rw[u.out,M.out];rfl
 .exact bc.trans (by rw[I])):p:=h
theorem zAU{p:Prop}(h:p:=by have Z:=Af T;have a3:=W S zE6;simp only[go_sem,Z,b1,a3,AM]):p:=h
theorem zAg{p:Prop}(h:p:=by have B:=AF (a:=1::0::2::(b+54)::π) (b:=id) fun e=>zEm;have F:=AF (a:=1::(b+56)::π) (b:=id) fun e=>(by have:=O (b+56) AA;rw[←e,show Id.under ((b+56)::π) (1::(b+56)::π)=true from Ay [1]]at this;cases this);simp only[go_sem,B,F,AM]):p:=h
theorem zAh{p:Prop}(h:p:=by have f:=AJ b;have k:=u.out id b;simp only[go_sem,f,k,AM]):p:=h
theorem zAz{p:Prop}(h:p:=by
 constructor
 .intro h;cases h
 .rintro⟨j,hj,w,hw,_⟩;obtain⟨a,_⟩:=BV.1 hw;omega):p:=h
theorem zA8{p:Prop}(h:p:=by simp only[F8,t]at k;have c:=c (es++x) (by rw[←Dl,show es.length-1=a by omega,Ty (show es.length≤a+1 by omega)];simp[←Dl]);replace j:=AB j;refine aw ?_;exact⟨⟨_,rfl⟩,fun i p=>by simp[p]⟩):p:=h
theorem zBD{p:Prop}(h:p:=by simp only[AE,Ac]at a';subst a';exact⟨CM (b+61) [1] AA AA,_,rfl⟩):p:=h
theorem zBF{p:Prop}(h:p:=by
 refine A7 Tryz.func58 ?_
 (repeat' (first|simp only[go_sem, *]|(refine sx ?_ ?_<;>intro a)|refine sy AA fun x c b=>?_|simp(disch:=first|assumption|omega) only[AU]))
 all_goals omega):p:=h
theorem zBT{p:Prop}(h:p:=by have:=congrArg (fun l=>l[0]?) h;simpa using this):p:=h
theorem zBc{p:Prop}(h:p:=by rw[s]at f u;obtain⟨w,U,q,z⟩:=f.ret K rfl;subst w;replace f:=AB f;replace s:=AB s;replace q:=AB q;replace z:=AB z;refine ax ?_;rw[u.out];exact q.out.fin):p:=h
theorem zCA{p:Prop}(h:p:=by rw[s]at f M;obtain⟨w,q⟩:=f.ge rfl;replace f:=AB f;subst w;replace q:=AB q;refine ax ?_;rw[u.out,M.out];exact q.out):p:=h
theorem zCK{p:Prop}(h:p:=by
 have q:=AJ r;have M:Id.is id U=false:=AF fun e=>by rw[←e,a3.out]at r;cases r
 simp only[go_sem,q,M,f.out U r,AM]):p:=h
theorem zCM{p:Prop}(h:p:=by rw[s]at f u;obtain⟨w,q⟩:=f.ge rfl;replace f:=AB f;subst w;replace q:=AB q;refine ax ?_;rw[u.out];exact q.out):p:=h
theorem zCW{p:Prop}(h:p:=by simp only[Bu.ok,AP]at this;exact this.2.2):p:=h
theorem zCY{p:Prop}(h:p:=by
 have cl:=RQ (h:=h) I.out (fun id b=>?_) bs
 .obtain rfl:=bs.1;refine aw ?_;rw[W.out];exact cl
 .exact zAh):p:=h
theorem zCZ{p:Prop}(h:p:=by refine .inr ⟨id,az,?_,n,AA,a2.out,a5.out⟩;simp only[go_sem,w,AM,O,N,o,r,s,u,f,bo,bl,B,C,D,F,J,I]):p:=h
theorem zCj{p:Prop}(h:p:=by refine HD AA rfl ?_;simp only[go_sem]):p:=h
theorem zCm{p:Prop}(h:p:=by simp only[F8,t]at k;have c:=c _ rfl;refine aw ?_;exact⟨⟨_,rfl⟩,fun i p=>by simp[p]⟩):p:=h
theorem zCs{p:Prop}(h:p:=by have f:=AJ b;simp only[go_sem,f,AM]):p:=h
theorem zCt{p:Prop}(h:p:=by simp only[go_sem,BK,AM,o,r,s,u,f];first|done|rfl):p:=h
theorem zCz{p:Prop}(h:p:=by
 rcases h with h|⟨id,a,h2,n,e,c⟩
 .exact .inl h
 .exact .inr ⟨id,a,h2,n,AA,c⟩):p:=h
theorem zC7{p:Prop}(h:p:=by have Z:=Af T;have a3:=W A (by rw[bs];simp[AE]);simp only[go_sem,Z,b1,a3,AM]):p:=h
theorem zC8{p:Prop}(h:p:=by simp only[go_sem,w,BE,BY,AM,O,N,o,r,s,u,f,bo,bl,B,C,D,F,J,I];first|done|rfl):p:=h
theorem zDM{p:Prop}(h:p:=by simp only[go_sem,BK,AM,O,N,o,r,s,u,f,bo,bl,B,C,D,F,J,I];first|done|rfl):p:=h
theorem zDQ{p:Prop}(h:p:=by simp only[go_sem,w,BE,BY,AM,o,r,s,u,f,B,C,D,F,J,I,R,Y];first|done|rfl):p:=h
theorem zDU{p:Prop}(h:p:=by refine aw ?_;rw[W.out];refine RR P.out I.out fun id b=>?_;exact zAh):p:=h
theorem zDV{p:Prop}(h:p:=by have Z:=Af T;simp only[go_sem,Z,b1,AM]):p:=h
theorem zDW{p:Prop}(h:p:=by simp only[AE,Ac]at a';subst a';exact⟨CM (b+70) [1] AA AA,_,rfl⟩):p:=h
theorem zDg{p:Prop}(h:p:=by simp only[go_sem,b1,AM]):p:=h
theorem zDl{p:Prop}(h:p:=by simp only[go_sem,BK,AM,o,r,s,u,f,B,C,D,F,J,I,R,Y];first|done|rfl):p:=h
theorem zDm{p:Prop}(h:p:=by rw[get_put,get_put,get_put,get_put,AF AG,AF AG];exact a3.out.box):p:=h
theorem zDp{p:Prop}(h:p:=by rw[az];simp only[go_sem,U,w,AM,O,N,o,r,s,u,f,bo,bl,B,C,D,F,J,I]):p:=h
theorem zDw{p:Prop}(h:p:=by simp only[go_sem,ai,w,AM,o,r,s,u,f]):p:=h
theorem zDx{p:Prop}(h:p:=by simp only[go_sem,ar,w,AM,o,r,s,u,f]):p:=h
theorem zDy{p:Prop}(h:p:=by simp only[go_sem,av,w,AM,o,r,s,u,f]):p:=h
theorem zD8{p:Prop}(h:p:=by simp only[go_sem,U,w,AM,o,r,s,u,f]):p:=h
theorem zD9{p:Prop}(h:p:=by simp only[go_sem,w,BE,BY,AM,O,N,o,r,s,u,f,P];first|done|rfl):p:=h
theorem zEC{p:Prop}(h:p:=by rw[R.out];refine HD AA AG ?_;simp only[go_sem,ai,ar,BE,AM]):p:=h
theorem zEH{p:Prop}(h:p:=by simp only[go_sem,cc,AM,o,r,s,u,f]):p:=h
theorem zEI{p:Prop}(h:p:=by simp only[go_sem,ai,w,AM,O,N,o,r,s,u,f,bo,bl,B,C,D,F,J,I]):p:=h
theorem zEJ{p:Prop}(h:p:=by simp only[go_sem,ar,w,AM,O,N,o,r,s,u,f,bo,bl,B,C,D,F,J,I]):p:=h
theorem zEK{p:Prop}(h:p:=by simp only[go_sem,av,w,AM,O,N,o,r,s,u,f,bo,bl,B,C,D,F,J,I]):p:=h
end Go
namespace Go.Abs
def VC:Nat→Code→Code
 |n+1,.seq _ y=>VC n y
 |_,c=>c
def RA:Nat→Code→Code→Code
 |n+1,.seq x y,t=>.seq x (RA n y t)
 |0,_,t=>t
 |_,c,_=>c
theorem r9: ∀(n:Nat) (c:Code),RA n c (VC n c)=c
 |0,c=>by cases c<;>rfl
 |n+1,c=>by
  cases c with
  |seq x y=>rw[VC,RA,r9 n y]
  |_=>rfl
theorem R2{C:DD}{K:Ab}{fr:Fr}{b:Nat}{c:Code}{st:St}{Q:Ea→St→Prop}(n:Nat)(h: ∀T,T=VC n c→Wp C K fr b (RA n c T) st Q):Wp C K fr b c st Q:=by
 have:=h _ rfl
 rwa [r9]at this
end Go.Abs
namespace Go.Proofs
open Go Go.Abs
noncomputable def DS(b b':Nat)(π:List Nat)(id:Abs.Id):Bool:= @decide (∃n,b≤n∧n<b'∧Id.under (n::π) id=true) (Classical.propDecidable _)
variable{b b':Nat}{π:List Nat}
theorem En{id:Abs.Id}:DS b b' π id=true↔ ∃n,b≤n∧n<b'∧Id.under (n::π) id=true:=by
 unfold DS;rw[@decide_eq_true_eq _ (Classical.propDecidable _)]
theorem Af{b b':Nat}{π:List Nat}{id:Abs.Id}(h:DS b b' π id=false)(a n:Nat)(c:b≤n)(h2:n<b'):Id.is (a::n::π) id=false:=AF fun e=>by
 subst e;have:DS b b' π (a::n::π)=true:=En.2 ⟨n,c,h2,under_iff.2 ⟨[a],rfl⟩⟩;rw[h]at this;cases this
theorem CM(n:Nat)(l:List Nat)(a:b≤n)(h2:n<b'):DS b b' π (l++n::π)=true:=En.2 ⟨n,a,h2,under_iff.2 ⟨l,rfl⟩⟩
section
variable{p:AX}{sz:List Int}{B:MV→Int→List AV}{c:Bool}{π:List Nat}{m:Abs.Id}{V V':MV}{h g H g1:AD}{b b':Nat}{st st':CT}
theorem Br.apartB(j:Bz π V m)(i:Br B c π m V h b V' st g):Mh (DS b b' π) V' m:=fun id f=>by
 cases l:DS b b' π id with
 |false=>rfl
 |true=>
  obtain⟨n,o,_,h2⟩:=En.1 l;rcases i.ids id f with e|⟨k,p,a,_⟩
  .have:=j id e;rw[BM h2]at this;cases this
  .have:=B9 a h2;omega
theorem Br.step(v:b≤b')(o:Br B c π m V h b V' st g)(t:L0 B c (DS b b' π) m V' g st' H): ∃i,Br B c π m V h b' i st' H∧ ∀id,id∉V'.ids m→DS b b' π id=false→id∉i.ids m:=by
 obtain⟨i,p,l⟩:=t;refine⟨i,⟨p,fun id q=>?_,fun id j h2=>?_⟩,fun id j h2 f=>?_⟩
 .rcases l.ids id q with e|⟨e,r⟩
  .exact(o.ids id e).imp_right fun⟨n,a,c⟩=>⟨n,AA,c⟩
  .obtain⟨n,_,h2,f⟩:=En.1 e;exact .inr ⟨n,h2,f,r⟩
 .have s:DS b b' π id=false:=by
   cases u:DS b b' π id with
   |false=>rfl
   |true=>
    obtain⟨n,_,_,f⟩:=En.1 u;rw[BM f]at h2;cases h2
  rw[l.frame id (fun e=>?_) s]
  .exact o.frame id j h2
  .rcases o.ids id e with e|⟨k,_,f,_⟩
   .exact j e
   .rw[BM f]at h2;cases h2
 .rcases l.ids id f with e|⟨e,_⟩
  .exact j e
  .rw[h2]at e;cases e
end
theorem KS{b b' n:Nat}{π:List Nat}{id:Abs.Id}(f:n<b)(a:Id.under (n::π) id=true):DS b b' π id=false:=by
 cases c:DS b b' π id with
 |false=>rfl
 |true=>
  obtain⟨k,e,_,h2⟩:=En.1 c;have:=B9 a h2;omega
theorem Zk{B:MV→Int→List AV}{c:Bool}{N:Abs.Id→Bool}{h:AD}{m:Abs.Id}{V:MV}{st:CT}(b:GM B c h m V st)(r:Mh N V m){q:Gp}(K:q.queue=[])(A:Abs.Id)(h':AD)
 (w:h'.get m=some (.box (B {V with v3:=.f8 A 0 (V.rows.length+1)} st.work))) (u:h'.get A=some (.arr 4 (V.rows++[Az q .d7]))) (y:N A=true∧ ∃l,A=1::l)
 (z: ∀id,Id.is m id=false→(∀s∈AE V.v3,Id.is s id=false)→N id=false→h'.get id=h.get id):L0 B c N m V h {st with d8:={st.d8 with be:=st.d8.be++[q]}} h':=by
 have o: ∀id,id≠m→id∉AE V.v3→N id=false→h'.get id=h.get id:=fun id b1 i C=>z id (AF fun e=>b1 e.symm) (fun s a=>AF fun e=>i (by rw[←e];exact a)) C;have p:(V.rows++[Az q .d7]).flatMap BB=V.rows.flatMap BB:=by simp[Bq,AE]
 refine SN (v3:=.f8 A 0 (V.rows.length+1)) (rows:=V.rows++[Az q .d7]) b r (w.trans (by rw[←b.inv {V with v3:=.f8 A 0 (V.rows.length+1)} (V.rows++[Az q .d7]) st.work])) (.inr ⟨A,AG,u⟩) ⟨by simp[b.be.len],fun j t k=>?_⟩ (by rw[p];exact b.qd) (fun id a=>?_) (fun j k=>by match j,k with|0,_|1,_|2,_|3,_=>rfl) fun id b1 i _ D=>o id b1 i D
 .have f:(st.d8.be++[q])[j]? =some t:=k;have H:=b.be.len;by_cases F:j<st.d8.be.length
  .rw[Ce F]at f;obtain⟨v,n,h2⟩:=b.be.row j t f;refine⟨v,by rw[Ce AA];exact n,Ka h2 fun id a=>?_⟩;have J:id∈V.rows.flatMap BB:=CS.2 ⟨_,AS n,by rw[Bq];exact a⟩;obtain⟨x,g⟩:=H5 h2 a;refine o id (fun e=>?_) (fun e=>?_) (r _ (V.row_mem m J))
   .rw[e,b.box]at g;cases g
   .rw[HA b.arr e]at g;cases g
  .have I:=AL f;rw[CE,I0]at I;obtain rfl:j=st.d8.be.length:=AA;rw[D2 AA]at f;simp only[KW,F4,Cs]at f;subst f;exact⟨.d7,by rw[D2 AA,H];simp,PT (.inl ⟨rfl,by rw[K];rfl⟩)⟩
 .rw[p]at a;rcases a with a|a
  .simp only[AE,Ac]at a;rw[a];exact .inr y
  .exact .inl (.inr a)
structure Ph(p:AX)(sz:List Int)(π:List Nat)(m:Abs.Id)(V:MV)(h:AD)(b n:Nat)(V':MV)(g:AD)(r:Option CT)(o:Ax)(g':AD):Prop where
 box: ∀k,k<b→g'.get (0::k::π)=g.get (0::k::π)
 pp: ∀i,i∉V'.ids m→(∀a k,b≤k→Id.is (a::k::π) i=false)→Id.under (n::π) i=false→g'.get i=g.get i
 ge:r=none→o=.ge (DH 3)∧GL p sz π m V h none o g'
 ret: ∀st2,r=some st2→o=.ret (.ii [])∧ ∃V2,Gg p sz π m V h (n+1) V2 st2 g'∧ ∀i,i∉V'.ids m→Id.under (n::π) i=false→i∉V2.ids m
theorem lK{p:AX}{sz:List Int}{π:List Nat}{m:Abs.Id}{V V':MV}{h g H g1:AD}{b n:Nat}{st:CT}{r:Option CT}{o:Ax}(f:Bz π V m)(u:Gg p sz π m V h b V' st g)(j: ∀id,(∀a n,b≤n→Id.is (a::n::π) id=false)→H.get id=g.get id)(l:b≤n)(c:GL p sz (n::π) m V' H r o g1):Ph p sz π m V h b n V' g r o (gc (n::π) g1):=by
 have q:=u.loc f j;refine⟨fun k v=>?_,fun i s h2 t=>?_,fun e=>?_,fun w e=>?_⟩
 .rw[q.box f AA c];exact j _ fun a n l=>AF fun e=>by simp at e;omega
 .rw[W6 c s t];exact j i h2
 .subst e;exact⟨c.1,q.ge f l c⟩
 .subst e;exact⟨c.1,q.call f l c⟩
theorem WJ{p:AX}{sz:List Int}{k:Nat}(r:J8 p sz k){π:List Nat}{m:Abs.Id}{V V':MV}{h g:AD}{b:Nat}{st:CT}(e:Bz π V m)(l:Gg p sz π m V h b V' st g)(c:Ke p sz k st){j:Gq}(t:CP p sz st.d8 j)(H:AD)(n:Nat)(i:b≤n)(f: ∀id,(∀a n,b≤n→Id.is (a::n::π) id=false)→H.get id=g.get id):
 ∃o g1,KL Tryz.prog cfg (.fn 66) [.ptr m 0,nI j.node,nI j.at_,.d (.bv (j.env.map AN))] H (n::π) true none=.ok (o,g1)∧Ph p sz π m V h b n V' g (Eb p k j st) o (gc (n::π) g1):=by
 have q:=l.loc e f;obtain⟨o,g1,s,h2⟩:=r H (n::π) m V' st j q.rep (q.apart e i) c.ol t c.w0 c.w1 c.w2 c.ev;exact⟨o,g1,s,lK e l f i h2⟩
end Go.Proofs
namespace Go.Proofs
open Go Go.Abs
set_option maxRecDepth 100000
set_option maxHeartbeats 4000000
@[go_sem] theorem ADn(n m:Int):BU (KL Tryz.prog cfg) 58 [nI n,nI m] []=Cg (DH 3) (decide (n≤m)):=by
  by_cases h:n≤m
  .rw[D1 h,MX];exact zBF
  .rw[Ci h,K3];exact zBF
theorem KI{p:AX}{sz:List Int}{h:AD}{π:List Nat}{m:Abs.Id}{V:MV}{st:CT}(s:KA p sz h m V st)(t:Bz π V m)(d a n r:Int)(l:List Cl)(W:l.length≤1000000)(Y:st.ev.length≤1000000):
 ∃o h',KL Tryz.prog cfg (.fn 103) [.ptr m 0,nI d,nI a,nI n,nI r,.d (.bv (l.map AN))] h π true none=.ok (o,h')∧GL p sz π m V h (some {st with ev:=st.ev++[⟨d,a,n,r,l⟩]}) o h':=by
 have go:=AH.mk (DZ (st':={st with ev:=st.ev++[⟨d,a,n,r,l⟩]}) 3 AA s t (jr rfl) rfl)
 have j:=s.box;have F:=t m (V.m_mem m);have c:=s.sl 3 AA;have u:=fun id f=>t id (V.s_mem m (i:=3) AA f);simp only[BK]at j;simp only[Dm,Av]at c;have H:=AJ F;have I:=Ak F;have J:=Ds F;have K:=JS F;have B:=K2 l W;replace s:=AB s;replace t:=AB t;rcases c with⟨c,C⟩|⟨id,x,c,N⟩
 .rw[c]at j;replace C:=AH.mk (D6.1 C);replace u:=AB u;by_cases q:l.length=0;all_goals
   (first|(obtain rfl:=BI q;simp only[List.length_nil,DP,BY]at B)|simp only[Dw q]at B);have fa:=B4
   refine BT Tryz.func103 ?_;refine ax ?_;refine⟨rfl,?_⟩
   (refine go.out (.f8 (1::13::π) 0 1) _ ?_ (Aq [] (by simp[Av,C.out]) ?_) (.inr fun k f=>?_) (fun k b1 A g=>?_);all_goals (try simp only[Av,Dm,C.out,Bi]);all_goals (first|(simp only[AE,Ac]at f;subst f;exact⟨Ay [1,13],_,rfl⟩)|(have w:=AJ g;have z:=Ds g;simp only[go_sem,w,z,b1,AM];done)|(simp;done)|(simp only[go_sem,H,I,J,K,BE,BY,AM];first|done|rfl)))
 .rw[c]at j;have D:=u id (by rw[c];simp[AE]);have Q:=AJ D;have R:=Ak D;have S:=Ds D;have T:=JS D;replace u:=AB u;simp only[As]at j;have O:Id.is id m=false:=Fk N j;have P:Id.is m id=false:=Fk j N;replace c:=AB c;have X: ∀v,v=.f8 id 0 (st.ev.length+1)→AE v=AE (V.s 3):=fun v e=>by rw[e,c.out];rfl
  have U: ∀L,(∀k∈AE (V.s 3),Id.is k L=false)→Id.is id L=false:=fun L b=>b id (by rw[c.out];simp[AE]);by_cases q:l.length=0;all_goals rcases x with _|⟨y,x⟩
  all_goals
   (first|(obtain rfl:=BI q;simp only[List.length_nil,DP,BY]at B)|simp only[Dw q]at B);have fa:=B4
   refine BT Tryz.func103 ?_;refine ax ?_;refine⟨rfl,?_⟩
   (first|(refine go.out (.f8 (1::13::π) 0 (st.ev.length+1)) _ ?_ (Aq [] ?_ ?_) (.inr fun k f=>?_) (fun k b1 A g=>?_);all_goals (try simp only[Av,Dm]);all_goals (first|(simp only[AE,Ac]at f;subst f;exact⟨Ay [1,13],_,rfl⟩)|(have w:=AJ g;have z:=Ds g;have M:=U _ A;simp only[go_sem,w,z,b1,M,AM];done)|(simp;done)|(simp only[go_sem,H,I,J,K,Q,R,S,T,O,P,BE,BY,AM];first|done|rfl));done)|(refine go.out (.f8 id 0 (st.ev.length+1)) _ ?_ (Aq x ?_ ?_) (.inl (X _ rfl)) (fun k b1 A g=>?_);all_goals (try simp only[Av,Dm]);all_goals (first|(simp only[AE,Ac]at f;subst f;exact⟨Ay [1,13],_,rfl⟩)|(have w:=AJ g;have z:=Ds g;have M:=U _ A;simp only[go_sem,w,z,b1,M,AM];done)|(simp;done)|(simp only[go_sem,H,I,J,K,Q,R,S,T,O,P,BE,BY,AM];first|done|rfl))))
theorem vr{p:AX}{sz:List Int}{h:AD}{π:List Nat}{m:Abs.Id}{V:MV}{st:CT}(B:KA p sz h m V st)(C:Bz π V m)(j:Gq)(ad:j.env.length≤1000000)(av:st.d8.waits.length≤1000000):
 ∃o h',KL Tryz.prog cfg (.fn 114) [.ptr m 0,.agg [nI j.node,nI j.at_,.d (.bv (j.env.map AN))]] h π true none=.ok (o,h')∧GL p sz π m V h (FH j st) o h':=by
 have go:=AH.mk (DZ (st':={st with d8:={st.d8 with waits:=st.d8.waits++[⟨j.at_,j.node,j.env⟩]}}) 2 AA B C (Wk rfl rfl rfl) rfl)
 have ac:=AB fun v h' W X Y Z=>NR (go.out v h' W X Y Z);have S:AH (FH j st=if st.d8.waits.length<40 then some {st with d8:={st.d8 with waits:=st.d8.waits++[⟨j.at_,j.node,j.env⟩]}}else none):=⟨rfl⟩
 have r:=B.box;have Q:=C m (V.m_mem m);have f:=B.sl 2 AA;have D:=fun id c=>C id (V.s_mem m (i:=2) AA c);simp only[BK]at r;simp only[Dm,Av]at f;have t:=AJ Q;have u:=Ak Q;have w:=Ds Q;have z:=JS Q;have H:=K2 j.env ad;replace B:=AB B;replace C:=AB C;rcases f with⟨f,F⟩|⟨id,x,f,T⟩
 .rw[f]at r;replace F:=AH.mk (D6.1 F);replace D:=AB D;obtain⟨ai,ag,l⟩:=j;dsimp only at*;by_cases A:l.length=0;all_goals
   (first|(obtain rfl:=BI A;simp only[List.length_nil,DP,BY]at H)|simp only[Dw A]at H);have fa:=B4
   refine BT Tryz.func114 ?_;refine ax ?_;rw[S.out,D5 (by rw[F.out];decide)];refine⟨rfl,?_⟩
   (refine go.out (.f8 (1::16::π) 0 1) _ ?_ (Aq [] (by simp[Av,F.out]) ?_) (.inr fun g c=>?_) (fun g b1 q a=>?_);all_goals (try simp only[Av,Dm,F.out,Bi]);all_goals (first|(simp only[AE,Ac]at c;subst c;exact⟨Ay [1,16],_,rfl⟩)|(have k:=AJ a;have n:=Ds a;simp only[go_sem,k,n,b1,AM];done)|(simp;done)|(simp only[go_sem,t,u,w,z,BE,BY,AM];first|done|rfl)))
 .rw[f]at r;have P:=D id (by rw[f];simp[AE]);have K:=AJ P;have L:=Ak P;have M:=Ds P;have N:=JS P;replace D:=AB D;simp only[As]at r;have I:Id.is id m=false:=Fk T r;have J:Id.is m id=false:=Fk r T;replace f:=AB f;have U: ∀v,v=.f8 id 0 (st.d8.waits.length+1)→AE v=AE (V.s 2):=fun v e=>by rw[e,f.out];rfl
  have O: ∀R,(∀g∈AE (V.s 2),Id.is g R=false)→Id.is id R=false:=fun R b=>b id (by rw[f.out];simp[AE]);obtain⟨ai,ag,l⟩:=j;dsimp only at*;by_cases A:l.length=0;all_goals rcases x with _|⟨y,x⟩
  all_goals
   (first|(obtain rfl:=BI A;simp only[List.length_nil,DP,BY]at H)|simp only[Dw A]at H);have fa:=B4
   refine BT Tryz.func114 ?_
   (repeat' (first|simp only[go_sem, *,AM]|(refine sx ?_ ?_<;>intro ar)|refine sy AA fun x az r=>?_|simp(disch:=first|assumption|omega) only[AU]))
   all_goals rw[S.out]
   .rw[D5 AA];refine⟨rfl,?_⟩
    exact zAJ
   .rw[Co AA];refine⟨rfl,?_⟩;replace go:=ac
    exact zAJ
structure Ny(p:AX)(j:Gq)(x:C2):Prop where
 n0:0≤j.node
 node:p.nodes[j.node.toNat]? =some x
 len:j.env.length≤10000
theorem Qa{p:AX}{j:Gq}{x:C2}(h:Ny p j x):j.node.toNat<p.nodes.length:=AL h.node
theorem zq{p:AX}{sz:List Int}{h:AD}{π:List Nat}{m:Abs.Id}{V:MV}{st:CT}(P:KA p sz h m V st)(I:Bz π V m)(j:Gq){x:C2}(b4:Ny p j x)(f2:p.nodes.length≤60)(fr:x.args.length≤3)(cx: ∀e∈x.args,e.formed j.env.length=true)(f0:0≤x.n)(f1:x.n<j.env.length)
 (c1:j.env.all (Cl.inB p st.d8.be.length st.d8.ac.length)=true) (a4: ∀(c:Nat) (q:Gp),st.d8.be[c]? =some q→Xk p st.d8 q) (ds:st.ev.length≤1000000):
 ∃o h',KL Tryz.prog cfg (.fn 110) [.ptr m 0,.agg [nI j.node,nI j.at_,.d (.bv (j.env.map AN))]] h π true none=.ok (o,h')∧GL p sz π m V h (Cv p x j st) o h':=by
 have a1:=P.box;have bv:=I m (V.m_mem m);simp only[BK]at a1;have Z:=AJ bv;have ac:=Ak bv;have fi:=Ds bv;have fl:=JS bv;obtain⟨L,a7⟩: ∃L,L=x.args.map fun e=>e.value j.env:=⟨_,rfl⟩;have bk:L.length=x.args.length:=by rw[a7,As]
 have cc:=b4.node;have fv:=b4.n0;have fs:=b4.len;obtain⟨O,d7⟩:=get_some (l:=j.env) (i:=x.n.toNat) AA;have f4:=Qa b4;replace P:=AB P;replace I:=AB I;replace a4:=AB a4;replace c1:=AB c1;replace a7:=AB a7;replace bk:=AB bk;replace cx:=AB cx;refine BT Tryz.func110 ?_;refine aw ?_;refine An x.args _ (S:=fun e1 i (a:(AV×AD)×Nat)=>⟨[(0,.ptr m 0),(3,.ptr (0::0::π) 0),(4,.ptr (0::10::π) 0),(5,a.1.1),(20,.d (.bv (x.args.map BQ))),(21,nI e1),(22,nI i)],a.1.2,a.2+17,[]⟩)
  (Inv:=fun i gb a=>(∀id,Id.under π id=false→a.1.2.get id=h.get id)∧a.1.2.get (0::0::π)=some (.box [nI j.node,nI j.at_,.d (.bv (j.env.map AN))])∧a.1.2.get (0::10::π)=some (.box [nI x.op,nI x.n,.d (.bv (x.args.map BQ)),.d (.bv (x.kids.map AR))])∧AH ((i=0∧a.1.1=.d7)∨ ∃n,n<a.2+17∧a.1.1=.f8 (1::n::π) 0 i∧a.1.2.get (1::n::π)=some (.em 2 ((L.take i).map AN)))) (b0:=((_,_),_)) rfl ⟨?_,?_,?_,⟨.inl ⟨rfl,rfl⟩⟩⟩ ?_ ?_
 .intro id b;exact zCs
 .simp only[go_sem]
 .simp only[go_sem]
 .rintro i y ⟨⟨e3,g⟩,b⟩ d9 c0 bc ⟨u,c3,c4,R⟩ c8;dsimp only at*;have f5:=cx.out y (AS d9);have en:AH (L[i]? =some (y.value j.env)):=⟨by rw[a7.out,D7,d9];rfl⟩;replace u:=AB u;have dn:AH (L.take (i+1)=L.take i++[y.value j.env]):=⟨by rw[F6,en.out];rfl⟩;rcases R.out with⟨rfl,rfl⟩|⟨n,b5,rfl,b2⟩
  .clear R;have b3:(0:Int)<x.args.length:=bc;refine aw ?_;refine c8.out ((_,_),_) ⟨fun id b=>?_,?_,?_,⟨.inr ⟨b+28,AG,rfl,?_⟩⟩⟩
   .exact zAh
   .simp only[go_sem,c3]
   .simp only[go_sem,c4]
   .rw[dn.out];simp only[go_sem]
  .clear R;have fd:(L.take i).length=i:=by have:=bk.out;rw[F1];omega
   have dd:List.take i (List.map AN (List.take i L))=List.map AN (List.take i L):=By Aa;have de: ¬b+27=n:=AA;have df: ¬b+20=n:=AA;have dm: ¬n=b+27:=AA;have ek: ¬n=b+28:=AA;refine ax ?_;refine c8.out ((_,_),_) ⟨fun id b=>?_,?_,?_,⟨.inr ⟨b+28,AG,rfl,?_⟩⟩⟩
   .exact zAh
   .simp only[go_sem,c3]
   .simp only[go_sem,c4]
   .rw[dn.out];simp only[go_sem,ek,BE]
 .rintro i ⟨⟨e3,g⟩,b⟩ c0 bc ⟨u,c3,c4,R⟩;dsimp only at*;have X:i=L.length:=by rw[c0.out,bk.out]
  clear c0;have c2:Hs j.env x.n=O:=by rw[Hs,d7];rfl
  have f3:List.take L.length L=L:=D3;have fp:L.length≤3:=by have:=bk.out;omega
  replace u:=AB u;by_cases d':O.kind=2
  .have W:AH (Cv p x j st=some {st with ev:=st.ev++[⟨5,j.at_,O.n,0,L⟩]}):=⟨by
    simp only[Cv,c2,d',F7,a7.out];rfl⟩
   rcases R.out with⟨rfl,rfl⟩|⟨n,b5,rfl,b2⟩
   .clear R;have b3: ¬(0:Int)<x.args.length:=bc;have bi:=BI X.symm;subst bi;clear X;refine aw ?_;refine Ad (KI (V:=V) (st:=st) (E8 P.out I.out ?_) (I.out.ext _) 5 j.at_ O.n 0 [] AG ds) (fun e2 g1 bs=>?_)
    .intro id b;exact zAh
    .exact zCY
   .clear R;subst X;refine aw ?_;refine Ad (KI (V:=V) (st:=st) (E8 P.out I.out ?_) (I.out.ext _) 5 j.at_ O.n 0 L AA ds) (fun e2 g1 bs=>?_)
    .intro id b;exact zAh
    .exact zCY
  by_cases c5:O.kind=3
  .have d1:=D4.1 c1.out O (AS d7);simp only[Cl.inB,c5,Int.reduceEq,F7,FD,AP,Ap]at d1;obtain⟨gg,gi⟩:=d1;obtain⟨q,b6⟩:=get_some (l:=st.d8.be) (i:=O.n.toNat) AA;obtain⟨v,bo,ex⟩:=P.out.be.row _ _ b6;have d3:=AB bo;have a':=a4.out _ _ b6;obtain⟨e4,e5⟩:=a'.at_;obtain⟨gr,d,ch,d0,e6,dr,dq⟩:=a'.ex;have e7:=a'.g0;have e8:=a'.i0;have e':=a'.len;obtain⟨sp,d6⟩:=get_some (l:=st.d8.ac) (i:=q.at_.toNat) AA;obtain⟨S,gs,N,cp,gn,f8,f9⟩:=FC (P.out.sl 0 AA) d6;obtain⟨G,gu,M,cn,gm,f6,f7⟩:=FC (P.out.sl 1 AA) d0;have D:=P.out.arr;rcases D with⟨_,D⟩|⟨A,D,a5⟩
   .rw[D]at bo;simp at bo
   have e0:=AL bo;have gf: ∀r:List AV,(V.rows.set O.n.toNat r)[O.n.toNat]? =some r:=fun r=>List.getElem?_set_self e0;have c6:=I.out A (V.v3_mem m (by rw[D];simp[AE]));have eb:=I.out S (V.s_mem m (i:=0) AA (by rw[N];simp[AE]));have ea:=I.out G (V.s_mem m (i:=1) AA zE6);have J:=(u.out m bv).trans a1;rw[D,N,M]at J;replace a5:=(u.out A c6).trans a5;replace cp:=(u.out S eb).trans cp;replace cn:=(u.out G ea).trans cn;have T:=AJ c6;have U:=Ak c6;have c9:=AJ eb;have c':=AJ ea;have ga:=AL dr;have f':=AL dq;have d5:Al st.d8.ac q.at_=sp.dead:=by simp[Al,d6]
   have d2:EE p st.d8 q=ch.many:=by simp[EE,d0,dr,dq]
   have W:AH (Cv p x j st=(MU p st.d8 O.n L).map fun s=>{st with d8:=s}):=⟨by
    simp only[Cv,c2,c5,F7,a7.out];rfl⟩
   have bl:AH (MU p st.d8 O.n L=if sp.dead=false∧ch.many=L.length then SC st.d8 O.n q L else some st.d8):=⟨by
    rw[MU,b6];simp only[d5,d2]⟩
   clear d5 d2 a';replace a1:=AB a1;replace N:=AB N;replace M:=AB M;replace D:=AB D;simp only[Az]at bo;simp only[Dm]at cp cn;have go:=AH.mk (Nd P.out I.out D.out b6 d3.out (q.queue++[L]));have bx:=AB fun v h' T ej U c9 c'=>NR (go.out v h' T ej U c9 c');have b7:AH (sp.dead=true→Cv p x j st=some st):=⟨fun h=>by rw[W.out,bl.out,Co zE2];rfl⟩;have b8:AH (¬ch.many=L.length→Cv p x j st=some st):=⟨fun h=>by rw[W.out,bl.out,Co (fun es=>h es.2)];rfl⟩;have b':AH (sp.dead=false→ch.many=L.length→q.queue.length+1≤12→Cv p x j st=some {st with d8:={st.d8 with be:=st.d8.be.set O.n.toNat {q with queue:=q.queue++[L]}}}):=⟨fun cs h2 el=>by rw[W.out,bl.out,D5 ⟨cs,h2⟩,SC,D5 AA];rfl⟩
   have d4:AH (sp.dead=false→ch.many=L.length→ ¬q.queue.length+1≤12→Cv p x j st=none):=⟨fun cs h2 el=>by rw[W.out,bl.out,D5 ⟨cs,h2⟩,SC,Co AA];rfl⟩;clear W bl;have Y:Id.is A m=false:=Fk a5 J;have ag:Id.is m A=false:=Fk J a5;have a3:AH (∀H:AD,(∀id,Id.under π id=false→H.get id=g.get id)→GL p sz π m V h (some st) (.ret (.ii [])) H):=⟨fun H em=>RR P.out I.out fun id b=>(em id b).trans (u.out id b)⟩;rcases ex with⟨rfl,ad⟩|⟨Q,zs,rfl,a6⟩
   .replace ad:=AH.mk (D6.1 ad);rcases R.out with⟨rfl,rfl⟩|⟨n,b5,rfl,b2⟩;all_goals clear R
    .have b3: ¬(0:Int)<x.args.length:=bc;have bi:=BI X.symm;subst bi;clear X
     exact zAH
    .subst X;have dd: ¬b+93=n:=AA;have de: ¬n=b+93:=AA;have df: ¬b+94=n:=AA;have dm: ¬n=b+94:=AA
     exact zAH
   .have c7:=I.out Q (V.row_mem m (CS.2 ⟨_,AS d3.out,by simp[Bq,AE]⟩));replace a6:=(u.out Q c7).trans a6;have az:=AJ c7;have a0:=Ak c7;have ar:Id.is Q A=false:=Fk a6 a5;have ai:Id.is A Q=false:=Fk a5 a6;have av:Id.is Q m=false:=Fk a6 J;have a2:Id.is m Q=false:=Fk J a6;rcases R.out with⟨rfl,rfl⟩|⟨n,b5,rfl,b2⟩;all_goals clear R
    .have b3: ¬(0:Int)<x.args.length:=bc;have bi:=BI X.symm;subst bi;clear X;exact zAB
    .subst X;have dd: ¬b+93=n:=AA;have de: ¬n=b+93:=AA;have df: ¬b+94=n:=AA;have dm: ¬n=b+94:=AA;exact zAB
  .have W:AH (Cv p x j st=some st):=⟨by simp only[Cv,c2,d',c5,FD]⟩;rcases R.out with⟨rfl,rfl⟩|⟨n,b5,rfl,b2⟩;all_goals clear R
   .have b3: ¬(0:Int)<x.args.length:=bc;clear X;exact zDU
   .subst X;exact zDU
end Go.Proofs
namespace Go.Abs
variable{es:List (List Ao)}{n:Nat}
theorem OV{g:G}{id:Id}{s:Nat}(h:g id=some (.em s es)){b a c:Option AV}{l r:Nat}{m:Option Nat}(p:E1 b a c n=some (l,r,m))(t:r≤es.length)(q:m.getD r≤es.length)(o:0<es.length):Fy g .slice s (.f8 id 0 n) b a c=m.elim (some (.f8 id l (r-l))) fun m=>if m=l then some .emp else some .undef:=by
 show PV g s id 0 (E1 b a c n)=_;rw[p];simp only[PV,h,ep,I9];have f:Nat.beq s s=true:=Nat.beq_refl s;have i:Nat.ble (m.getD r) es.length=true:=RG q;have j:Nat.ble r es.length=true:=RG t;have k:Nat.blt 0 es.length=true:=by rw[UL];exact o
 rw[f,i,j,k];cases m with
 |none=>rfl
 |some m=>
  simp only[ON,Il];by_cases e:m=l<;>simp[e]
variable{a b:Int}
theorem kF{g:G}{id:Id}{s:Nat}(h:g id=some (.em s es)){m:Int}(c:0≤a)(e:a≤b)(h2:b≤m)(f:m≤es.length)(i:a<m):Fy g .slice s (.f8 id 0 n) (some (nI a)) (some (nI b)) (some (nI m))=some .undef:=by
 rw[OV h (l:=a.toNat) (r:=b.toNat) (m:=some m.toNat) (by simp[E1,IU,Jh,c,e,h2]) AA Aa AA];simp only[Option.elim_some];rw[Co AA]
theorem Nk{g:G}{id:Id}{s:Nat}(h:g id=some (.em s es))(b:0≤a)(c:a≤n)(h2:n≤es.length)(e:0<es.length):Fy g .slice s (.f8 id 0 n) (some (nI a)) none none=some (.f8 id a.toNat (n-a.toNat)):=by
 rw[OV h (l:=a.toNat) (r:=n) (m:=none) (by simp[E1,IU,Jh,b,c]) h2 h2 e];rfl
theorem Nj{g:G}{id:Id}{s:Nat}(h:g id=some (.em s es))(a:0≤b)(e:b≤es.length)(c:0<es.length):Fy g .slice s (.f8 id 0 n) none (some (nI b)) none=some (.f8 id 0 b.toNat):=by
 rw[OV h (l:=0) (r:=b.toNat) (m:=none) (by simp[E1,IU,Jh,a]) AA Aa c];rfl
theorem OX{g:G}{id:Id}{s:Nat}(h:g id=some (.em s es))(c:0≤a)(e:a≤b)(h2:b≤es.length)(f:0<es.length):Fy g .slice s (.f8 id 0 n) (some (nI a)) (some (nI b)) none=some (.f8 id a.toNat (b.toNat-a.toNat)):=by
 rw[OV h (l:=a.toNat) (r:=b.toNat) (m:=none) (by simp[E1,IU,Jh,c,e]) AA Aa f];rfl
theorem U7{α:Type}{es ds:List α}{i:Nat}(h:i+ds.length≤es.length):Cj es i ds=some (es.take i++ds++es.drop (i+ds.length)):=by
 unfold Cj;rw[D5 (by first|exact h|simpa using h)]
variable{sz:Nat}
theorem Xw(ds:List (List Ao))(i:ds≠ [])(f: ∀e∈ds,e.length=sz)(k:0<sz)(l:ds.length≤1000000)(g:G)(a:Id)(j:TI)(h:j.mix=false)(c:j.size=sz):Po g a j .d7 (some (ds.map fun x=>x.map AV.d))=some ⟨.f8 (1::a) 0 ds.length,[(1::a,.em sz ds)]⟩:=by
 rw[Nz g a j .d7 ds AA (fun e b=>by rw[c];exact f e b) i zEj,TS,SO g a j ds h AA (fun e b=>by rw[c];exact f e b) zEj,c]
theorem Pq{id:Id}(es ds:List (List Ao))(f:ds≠ [])(k: ∀e∈ds,e.length=sz)(l:0<sz)(m:es.length+ds.length≤1000000)(n:Nat)(b:n=es.length)(g:G)(a:Id)(j:TI)(c:j.size=sz)(h:g id=some (.em sz es)):Po g a j (.f8 id 0 n) (some (ds.map fun x=>x.map AV.d))=some ⟨.f8 (1::a) 0 (n+ds.length),[(id,.i7 0 []),(1::a,.em sz (es++ds))]⟩:=by
 have i:Cj es (0+n) ds=none:=by
  unfold Cj;rw[Co];have:0<ds.length:=List.length_pos_iff.2 f;omega
 rw[Nz g a j _ ds AA (fun e b=>by rw[c];exact k e b) f zEj,Q5,h,Q4,D5 ⟨c.symm,AA⟩,TR,KM,JO,Q3,Ra,D5 rfl,i,TP,D5 ⟨rfl,by simp[BG];omega⟩,b,D3];rfl
theorem Vr{g:G}{id:Id}{sz:Nat}{es x:List (List Ao)}{a n:Nat}(h:g id=some (.em sz (es++x)))(m:n=es.length)(r:a<n)(p: ∀e∈es,e.length=sz)(q:0<sz)(s:n≤1000000)(f:Id)(j:TI)(b:j.size=sz):
 Po g f j (.f8 id 0 a) (some (List.take (n-(a+1)) (List.drop (a+1) ((es++x).map fun e=>e.map AV.d))))=some ⟨.f8 id 0 (n-1),if a+1=n then []else [(id,.em sz (es.take a++(es.drop (a+1)++(es.drop (n-1)++x))))]⟩:=by
 subst m;have i:List.take (es.length-(a+1)) (List.drop (a+1) ((es++x).map fun e=>e.map AV.d))=(es.drop (a+1)).map fun e=>e.map AV.d:=by
  rw[←Pp,←OL,OK AA,Hw AG,By AG]
 rw[i];by_cases c:a+1=es.length
 .rw[Ty AA,BY,ZQ,ZT,D5 c];congr 2;exact congrArg _ AA
 .have o:es.drop (a+1)≠ []:=fun e=>by rw[PU]at e;omega
  have k: ∀e∈es.drop (a+1),e.length=j.size:=fun e l=>by rw[b];exact p e (LM l)
  rw[Nz g f j _ _ AA k o zEj,Q5,h,Q4,D5 ⟨b.symm,Aa⟩,TR,KM,JO,Q3,Ra,D5 rfl,U7 Aa,TQ,Co c];simp only[I9,Bi,Io];congr 2
  .exact congrArg _ AA
  .rw[Hw AA,OK AA,show a+(es.length-(a+1))=es.length-1 by omega,Dl]
theorem Zn{g:G}{id:Id}{off:Nat}{z:List Ao}{j:TI}(h:g id=some (.em sz es))(b:j.size=sz)(f:DX (fun _=>none) j.zero=some z)(c:z.length=sz)(a:(j.zero.length=sz∧j.zero.all AV.isCell=true)∧0<sz)(e:off+n≤es.length):Im g id off n j=some ⟨.undef,[(id,.em sz (es.take off++(List.replicate n z++es.drop (off+n))))]⟩:=by
 unfold Im;rw[h];simp only[f];rw[D5 ⟨c,by rw[a.1.1,b],a.1.2,a.2⟩,U7 zFD];simp[Dl]
def eJ(g:G)(id:Id)(off n:Nat):Option TI→Option Cx
 |some j=>Im g id off n j
 |none=>none
theorem bz(a:TypeId→Option TI)(g:G)(i:TI)(id:Id)(off:Nat)(b:i.kind=.slice):HG a g (some i) (.f8 id off 1)=eJ g id off 1 (a i.elem):=by
 unfold HG;simp only[b];cases a i.elem<;>rfl
theorem Zm(g:G)(id:Id)(off n:Nat)(j:TI):eJ g id off n (some j)=Im g id off n j:=rfl
attribute [go_sem] bz Zm
theorem Td{es x:List (List Ao)}{a sz:Nat}{z:List Ao}{zs:List AV}(L:List (List Ao))(r:a<es.length)(l:L=es.take a++(es.drop (a+1)++(es.drop (es.length-1)++x)))(q:DX (fun _=>none) zs=some z)(p:z.length=sz)(m:(zs.length=sz∧zs.all AV.isCell=true)∧0<sz){id:Id}(g:G)(j:TI)(h:g id=some (.em sz L))(n:j.size=sz)(o:j.zero=zs):Im g id (es.length-1) 1 j=some ⟨.undef,[(id,.em sz (es.take a++(es.drop (a+1)++(z::x))))]⟩:=by
 subst o l;have c:(es.take a).length=a:=zFK
 have e:(es.drop (a+1)).length=es.length-1-a:=by rw[Io];omega
 have f:(es.drop (es.length-1)).length=1:=by rw[Io];omega
 rw[Zn h n q p m (by simp only[CE,c,e,f];omega)];congr 5;have i:es.take a++(es.drop (a+1)++(es.drop (es.length-1)++x))=(es.take a++es.drop (a+1))++(es.drop (es.length-1)++x):=AG;have b:(es.take a++es.drop (a+1)).length=es.length-1:=by rw[CE,c,e];omega
 rw[i,List.take_left' b];have k:(es.take a++es.drop (a+1))++(es.drop (es.length-1)++x)=((es.take a++es.drop (a+1))++es.drop (es.length-1))++x:=(Dl ..).symm;rw[k,List.drop_left' (l₁:=(es.take a++es.drop (a+1))++es.drop (es.length-1)) (by rw[CE,b,f])];simp
end Go.Abs
namespace Go.Proofs
open Go Go.Abs
set_option maxRecDepth 100000
set_option maxHeartbeats 4000000
def BZ(p:AX)(mu:Bool)(V:MV)(w:Int):List AV:=[.d (.bv (p.free.map Bp)),.d (.bv (p.nodes.map Ba)),.d (.bv (p.defs.map Bw)),nI p.main,V.s 0,V.s 1,V.v3,V.s 2,V.s 3,nI w,.d (.bool (mu))]
abbrev VK(p:AX):=GM (BZ p false) false
def Je(p:AX)(π:List Nat)(m:Abs.Id)(V:MV)(h:AD):Option CT→Ax→AD→Prop
 |some st,o,h'=>o=.ret (.ii [])∧L0 (BZ p false) false (Id.under π) m V h st h'
 |none,o,h'=>o=.ret (.ii [])∧(∃V' w,h'.get m=some (.box (BZ p true V' w)))∧ ∀id,id∉V.ids m→Id.under π id=false→h'.get id=h.get id
theorem rK(l:List Cl)(c: ¬l.length=0)(i:l.length≤1000000): ∀(g:G) (a:Abs.Id) (j:TI),j.mix=false→j.size=2→Po g a j .emp (some ((l.map AN).map fun x=>x.map AV.d))=some ⟨.f8 (1::a) 0 l.length,[(1::a,.em 2 (l.map AN))]⟩:=by
 intro g a j h b;have:=Ss g a j (l.map AN) h AA (fun e f=>by
  obtain⟨x,_,rfl⟩:=F2.1 f;rw[b];rfl) (fun e=>c (by rw[D6.1 e];rfl)) zEj
 rw[this,As,b]
def JV(π:List Nat)(l:List Cl):Ax×AD:=if l.length=0 then(.ret .emp,[])else(.ret (.f8 (1::3::π) 0 l.length),[(1::3::π,.em 2 (l.map AN))])
theorem Fs(l:List Cl)(b:l.length≤1000000)(k:Nat)(ρ:List Nat):BU (KL Tryz.prog cfg) 145 [.d (.bv (l.map AN))] (k::ρ)=.ok (JV (k::ρ) l):=by
 by_cases a:l.length=0
 .rw[JV,D5 a];obtain rfl:=BI a;refine A7 Tryz.func145 ?_;exact au
 .rw[JV,Co a];have ap:=rK l a b;have fa:=B4;refine A7 Tryz.func145 ?_;exact au
theorem Pz{h:AD}{π:List Nat}{id:Abs.Id}{es x:List (List Ao)}{n a:Nat}(f:h.get id=some (.em 1 (es++x)))(C:Id.under π id=false)(B:n=es.length)(s:a<n)(q: ∀e∈es,e.length=1)(A:n≤1000000):
 ∃o h',KL Tryz.prog cfg (.fn 161) [.f8 id 0 n,nI a,nI ((a:Int)+1)] h π true none=.ok (o,h')∧o=.ret (.f8 id 0 (n-1))∧(∃y,h'.get id=some (.em 1 (es.take a++es.drop (a+1)++y)))∧ ∀i,Id.is id i=false→h'.get i=h.get i:=by
 subst B;have M:IntKind.i64.wrap ((a:Int)+1)=(a:Int)+1:=wrap_id AA AA;have K:=AJ C;have H:=kF (g:=h.get) (n:=es.length) f (a:=a) (b:=(a:Int)+1) (m:=es.length) AA AA AA Aa AA;have u:=Nj (g:=h.get) (n:=es.length) f (b:=a) AA Aa Aa;have v:=Nk (g:=h.get) (n:=es.length) f (a:=(a:Int)+1) AA AA AG Aa;have D:((a:Int)).toNat=a:=rfl;have F:((a:Int)+1).toNat=a+1:=AA;rw[D]at u;rw[F]at v;have r:=Vr f rfl s q AK A;replace q:=AB q;have J:a+(1+(es.length-(a+1)))≤es.length+x.length:=AA;have I: ¬(a:Int)=(a:Int)+1:=AA;refine BT Tryz.func161 ?_;have t:es.length-(es.length-1)=1:=AA;have c:=fun L w=>Td (es:=es) (x:=x) (sz:=1) (z:=[.bv []]) (zs:=[.d7]) L s w rfl rfl ⟨⟨rfl,rfl⟩,AK⟩ (id:=id);by_cases j:a+1=es.length
 .rw[D5 j]at r;have k:=fun(g:G) (l:g id=some (.em 1 (es++x)))=>OX (n:=es.length-1) l (a:=((es.length-1:Nat):Int)) (b:=es.length) AA AA Aa Aa;exact zA8
 .rw[Co j]at r;have k:=fun(g:G) (l:g id=some (.em 1 (es.take a++(es.drop (a+1)++(es.drop (es.length-1)++x)))))=>OX (n:=es.length-1) l (a:=((es.length-1:Nat):Int)) (b:=es.length) AA AA Aa Aa;exact zCm
theorem X8{h:AD}{π:List Nat}{id:Abs.Id}{es x:List (List Ao)}{n a:Nat}(f:h.get id=some (.em 3 (es++x)))(C:Id.under π id=false)(B:n=es.length)(s:a<n)(q: ∀e∈es,e.length=3)(A:n≤1000000):
 ∃o h',KL Tryz.prog cfg (.fn 101) [.f8 id 0 n,nI a,nI ((a:Int)+1)] h π true none=.ok (o,h')∧o=.ret (.f8 id 0 (n-1))∧(∃y,h'.get id=some (.em 3 (es.take a++es.drop (a+1)++y)))∧ ∀i,Id.is id i=false→h'.get i=h.get i:=by
 subst B;have M:IntKind.i64.wrap ((a:Int)+1)=(a:Int)+1:=wrap_id AA AA;have K:=AJ C;have H:=kF (g:=h.get) (n:=es.length) f (a:=a) (b:=(a:Int)+1) (m:=es.length) AA AA AA Aa AA;have u:=Nj (g:=h.get) (n:=es.length) f (b:=a) AA Aa Aa;have v:=Nk (g:=h.get) (n:=es.length) f (a:=(a:Int)+1) AA AA AG Aa;have D:((a:Int)).toNat=a:=rfl;have F:((a:Int)+1).toNat=a+1:=AA;rw[D]at u;rw[F]at v;have r:=Vr f rfl s q AK A;replace q:=AB q;have J:a+(1+(es.length-(a+1)))≤es.length+x.length:=AA;have I: ¬(a:Int)=(a:Int)+1:=AA;refine BT Tryz.func101 ?_;have t:es.length-(es.length-1)=1:=AA;have c:=fun L w=>Td (es:=es) (x:=x) (sz:=3) (z:=[.int .i64 0,.int .i64 0,.bv []]) (zs:=[nI 0,nI 0,.d7]) L s w rfl rfl ⟨⟨rfl,rfl⟩,AK⟩ (id:=id);by_cases j:a+1=es.length
 .rw[D5 j]at r;have k:=fun(g:G) (l:g id=some (.em 3 (es++x)))=>OX (n:=es.length-1) l (a:=((es.length-1:Nat):Int)) (b:=es.length) AA AA Aa Aa;exact zA8
 .rw[Co j]at r;have k:=fun(g:G) (l:g id=some (.em 3 (es.take a++(es.drop (a+1)++(es.drop (es.length-1)++x)))))=>OX (n:=es.length-1) l (a:=((es.length-1:Nat):Int)) (b:=es.length) AA AA Aa Aa;exact zCm
variable{α:Type}
theorem DW{β:Type}{f:α→List β}{n:Nat}: ∀{l:List α},(∀x∈l,(f x).length≤n)→(l.flatMap f).length≤l.length*n
 |[],_=>AG
 |x::l,h=>by
  have b:=h x AG;have h2:=DW (f:=f) (n:=n) (l:=l) fun y a=>h y zEd;rw[EM,CE,List.length_cons,T1];omega
theorem cN: ∀{l:List Nat},(∀n∈l,n≤12)→(CN l).length≤12 ^ l.length
 |[],_=>by simp[CN]
 |n::l,h=>by
  have a:=h n AG;have h2:=cN (l:=l) fun y c=>h y zFT;rw[CN,List.length_cons,Nat.pow_succ];have b:=DW (l:=List.range n) (f:=fun(i:Nat)=>(CN l).map fun t=>(i:Int)::t) (n:=12 ^ l.length) fun x g=>by simpa using h2
  rw[List.length_range]at b;have e:n*12 ^ l.length≤12*12 ^ l.length:=HM _ a;omega
variable{sz:List Int}
theorem vu{p:AX}{s:BX}{g:A8}{d:CG}{r:GH}(h:dj p sz s g d r):(EO s d g r).length≤1728:=by
 rw[EO];split
 .simp
 .have f:=cN (l:=Bl s d g r) fun n a=>by
   rw[Bl]at a;obtain⟨c,e,rfl⟩:=F2.1 a;obtain⟨_,_,_,q,_,h2,b⟩:=h.join c e;omega
  have h2:(Bl s d g r).length≤3:=by rw[Bl,As];exact h.j1
  have b:12 ^ (Bl s d g r).length≤12 ^ 3:=Nat.pow_le_pow_right AA h2;omega
theorem XQ{s:BX}{d:CG}{g:A8}{i:Nat}: ∀{l:List GH} (k:Nat),(∀r∈l,(EO s d g r).length≤1728)→(Cb s d g i k l).length≤l.length*1728
 |[],k,_=>by simp[Cb]
 |r::l,k,h=>by
  have b:=h r AG;have h2:=XQ (s:=s) (d:=d) (g:=g) (i:=i) (l:=l) (k+1) fun y a=>h y zEd;rw[Cb,CE,As,List.length_cons];omega
theorem VJ(p:AX)(s:BX): ∀(l:List GI) (i:Nat),(Ck p s i l).length≤l.length
 |[],i=>by simp[Ck]
 |w::l,i=>by
  have:=VJ p s l (i+1);rw[Ck,CE,List.length_cons];split<;>simp<;>omega
theorem a9{p:AX}{s:BX}(a:BO p sz)(e:GD p sz s): ∀(l:List A8) (i:Nat),s.ce.drop i=l→(C7 p s i l).length≤l.length*51840
 |[],i,_=>by simp[C7]
 |g::l,i,h=>by
  have c:s.ce[i]? =some g:=by
   exact zBT
  have h2:=a9 a e l (i+1) (by rw[Ag c]at h;exact(TY h).2);obtain⟨d,b⟩:=e.grp i g c;rw[C7,CE,List.length_cons,b.f9];have j:=XQ (s:=s) (d:=d) (g:=g) (i:=i) (l:=d.rules) 0 fun r f=>vu (Kz a e c b f);have k:=(CA a (FX b.f9).2).ok.rules;dsimp only;omega
theorem qG{p:AX}{s:BX}(b:BO p sz)(a:GD p sz s):(CD p s).length≤3000000:=by
 have c:=a.small;simp only[BX.small,AP,Ap]at c;have e:=VJ p s s.waits 0;have h2:=a9 b a s.ce 0 rfl;rw[CD,CE];omega
instance:DecidableEq Dp:=fun a b=>decidable_of_iff (a.wait=b.wait∧a.group=b.group∧a.rt=b.rt∧a.kw=b.kw) (by cases a;cases b;simp)
structure gW(p:AX)(s:BX)(st:Bo):Prop where
 looks:looks p=some st
 formed:BO p st.co
 ol:GD p st.co s
theorem S0{p:AX}{s:BX}(h:CV p s=0): ∃st,gW p s st:=by
 rw[CV]at h;split at h
 .rename_i st a;split at h
  .rename_i b;exact⟨st,a,DI a,uC b⟩
  .cases h
 .cases h
theorem jh{p:AX}{s:BX}(h: ¬CV p s=0):CV p s=2:=by
 rw[CV]at h⊢;split at h
 .split at h
  .exact absurd rfl h
  .rename_i a;simp[a]
 .rfl
abbrev Qq(x:Dp):AV:=.agg [nI x.wait,nI x.group,nI x.rt,.d (.bv (x.kw.map AR))]
inductive Below:List Nat→List Int→Prop
 |nil:Below [] []
 |cons {n:Nat} {k:Int} {l:List Nat} {t:List Int}:0≤k→k<n→Below l t→Below (n::l) (k::t)
theorem OE: ∀{l:List Nat} {t:List Int},t∈CN l↔Below l t
 |[],t=>by
  rw[CN,Ac];exact⟨fun h=>h▸ .nil,fun h=>by cases h;rfl⟩
 |n::l,t=>by
  rw[CN,CS];constructor
  .rintro⟨i,hi,ht⟩;obtain⟨e,c,rfl⟩:=F2.1 ht;have:=QR.1 hi;exact .cons AA AA (OE.1 c)
  .intro h;cases h with
   | @cons _ k _ t a h2 b=>exact⟨k.toNat,QR.2 AA,F2.2 ⟨t,OE.2 b,by rw[Pu a]⟩⟩
theorem Below.len: ∀{l:List Nat} {t:List Int},Below l t→t.length=l.length
 |_,_,.nil=>rfl
 |_,_,.cons _ _ h=>by rw[List.length_cons,List.length_cons,h.len]
inductive Mq(p:AX)(s:BX):Dp→Prop
 |wait {i:Nat} {w:GI}:s.waits[i]? =some w→qr p s w=true→Mq p s ⟨i,0,0,[]⟩
 |rt {i k:Nat} {g:A8} {d:CG} {r:GH} {t:List Int}:s.ce[i]? =some g→p.def? g.f9=some d→d.rules[k]? =some r→Al s.ac (g.place d r.at_)=false→Below (Bl s d g r) t→Mq p s ⟨-1,i,k,t⟩
theorem Xi{p:AX}{s:BX}{x:Dp}: ∀{l:List GI} {i:Nat},s.waits.drop i=l→(x∈Ck p s i l↔ ∃j:Nat,i≤j∧ ∃w,s.waits[j]? =some w∧qr p s w=true∧x=⟨j,0,0,[]⟩)
 |[],i,h=>by
  have:s.waits.length≤i:=PU.1 h;exact zAz
 |w::l,i,h=>by
  have b:s.waits[i]? =some w:=by
   exact zBT
  have c:=Xi (x:=x) (p:=p) (l:=l) (i:=i+1) zFG;rw[Ck,EL,c];constructor
  .rintro(a|⟨j,a,h2⟩)
   .split at a
    .exact⟨i,Es _,w,b,Bs,Ac.1 a⟩
    .cases a
   .exact⟨j,AA,h2⟩
  .rintro⟨j,a,w2,h2,h3,h4⟩;by_cases e:j=i
   .subst e;rw[b]at h2;cases h2;exact .inl (by rw[D5 h3,h4];simp)
   .exact .inr ⟨j,AA,w2,h2,h3,h4⟩
theorem Rq{s:BX}{d:CG}{g:A8}{i:Nat}{x:Dp}: ∀{l:List GH} {k:Nat},d.rules.drop k=l→(x∈Cb s d g i k l↔ ∃j:Nat,k≤j∧ ∃r,d.rules[j]? =some r∧ ∃t∈EO s d g r,x=⟨-1,i,j,t⟩)
 |[],k,h=>by
  have:d.rules.length≤k:=PU.1 h;exact zAz
 |r::l,k,h=>by
  have b:d.rules[k]? =some r:=by
   exact zBT
  have f:=Rq (x:=x) (s:=s) (g:=g) (i:=i) (l:=l) (k:=k+1) zFG;rw[Cb,EL,f];constructor
  .rintro(a|⟨j,a,h2⟩)
   .obtain⟨t,c,rfl⟩:=F2.1 a;exact⟨k,Es _,r,b,t,c,rfl⟩
   .exact⟨j,AA,h2⟩
  .rintro⟨j,a,w2,h2,h3⟩;by_cases e:j=k
   .subst e;rw[b]at h2;cases h2;obtain⟨t,c,rfl⟩:=h3;exact .inl (F2.2 ⟨t,c,rfl⟩)
   .exact .inr ⟨j,AA,w2,h2,h3⟩
theorem Wi{p:AX}{s:BX}{x:Dp}: ∀{l:List A8} {i:Nat},s.ce.drop i=l→(x∈C7 p s i l↔ ∃j:Nat,i≤j∧ ∃g d,s.ce[j]? =some g∧p.def? g.f9=some d∧x∈Cb s d g j 0 d.rules)
 |[],i,h=>by
  have:s.ce.length≤i:=PU.1 h;constructor
  .intro h;cases h
  .rintro⟨j,hj,w,_,hw,_⟩;obtain⟨a,_⟩:=BV.1 hw;omega
 |g::l,i,h=>by
  have b:s.ce[i]? =some g:=by
   exact zBT
  have c:=Wi (x:=x) (p:=p) (l:=l) (i:=i+1) zFG;rw[C7,EL,c];constructor
  .rintro(a|⟨j,a,h2⟩)
   .split at a
    .exact⟨i,Es _,g,_,b,Bs,a⟩
    .cases a
   .exact⟨j,AA,h2⟩
  .rintro⟨j,a,w2,d,h2,h3,h4⟩;by_cases e:j=i
   .subst e;rw[b]at h2;cases h2;exact .inl (by rw[h3];exact h4)
   .exact .inr ⟨j,AA,w2,d,h2,h3,h4⟩
variable{x:Dp}
theorem Oa{p:AX}{s:BX}:x∈CD p s↔Mq p s x:=by
 rw[CD,EL,Xi (l:=s.waits) (i:=0) rfl,Wi (l:=s.ce) (i:=0) rfl];constructor
 .rintro(⟨j,_,w,h1,h2,rfl⟩|⟨j,_,g,d,h1,h2,h3⟩)
  .exact .wait h1 h2
  .obtain⟨k,_,r,b,t,a,rfl⟩:=(Rq (l:=d.rules) (k:=0) rfl).1 h3;rw[EO]at a;split at a
   .cases a
   .rename_i c;exact .rt h1 h2 b zEp (OE.1 a)
 .rintro(⟨h1,h2⟩|⟨h1,h2,h3,b,a⟩)
  .exact .inl ⟨_,IT _,_,h1,h2,rfl⟩
  .exact .inr ⟨_,IT _,_,_,h1,h2,(Rq (l:=_) (k:=0) rfl).2 ⟨_,IT _,_,h3,_,by rw[EO,b,Co AG];exact OE.2 a,rfl⟩⟩
theorem dG{p:AX}{s:BX}(i:BO p sz)(c:GD p sz s)(h:x∈CD p s):x.kw.length≤3:=by
 cases Oa.1 h with
 |wait _ _=>exact IT _
 |rt a h2 f _ g=>
  obtain⟨d,b⟩:=c.grp _ _ a;rw[b.f9]at h2;cases h2;have:=(Kz i c a b (AS f)).j1;have e:=g.len;rw[Bl,As]at e;exact e▸this
variable{l:List α}{i:Int}
theorem N4{x:α}(h:x∈CW l i):x∈l:=by
 rcases EL.1 h with h|h
 .exact MK h
 .exact LM h
theorem WX(h:i.toNat<l.length):(CW l i).length=l.length-1:=by
 rw[CW,CE,F1,Io];omega
theorem P5(l:List α)(i:Int):(CW l i).length≤l.length:=by
 rw[CW,CE,F1,Io];omega
variable{q:Gp}
theorem pZ{p:AX}{s:BX}(h:Hd p s q)(k:Int):Hd p s {q with queue:=CW q.queue k}:=by
 have:=P5 q.queue k;refine⟨IP this h.len,?_,fun m b=>h.msgs m (N4 b)⟩;rcases h.dead with a|a
 .exact .inl (show(CW q.queue k).length=0 by omega)
 .exact .inr a
structure Vl(s s':BX):Prop where
 ac:s'.ac=s.ac
 ce:s'.ce=s.ce
 waits:s'.waits=s.waits
 len:s'.be.length=s.be.length
theorem dM{p:AX}{s:BX}(i:GD p sz s){c:Int}(f:s.be[c.toNat]? =some q){k:Int}(j:k.toNat<q.queue.length):GD p sz (Gn s c k).2∧Vl s (Gn s c k).2∧(Gn s c k).1.all (Cl.inB p s.be.length s.ac.length)=true∧(((Gn s c k).1.length:Nat):Int)=EE p s q∧ ∀a:Nat,a≠c.toNat→(Gn s c k).2.be[a]? =s.be[a]? :=by
 obtain⟨m,g⟩:=get_some j;have h:=i.que _ q f;have b:=h.msgs m (AS g);simp only[GF,AP,Ap]at b;have e:Gn s c k=(m,{s with be:=s.be.set c.toNat {q with queue:=CW q.queue k}}):=by rw[Gn,f];simp[g]
 rw[e];refine⟨XX i f (pZ h k),⟨rfl,rfl,rfl,AG⟩,b.2,b.1,fun a h2=>?_⟩;dsimp only;rw[IF,Co (fun e=>h2 e.symm)]
structure ZI(p:AX)(sz:List Int)(d:CG)(cs:List Int)(s:BX)(t:List Cl×BX):Prop where
 ol:GD p sz t.2
 only:Vl s t.2
 of:t.1.all (Cl.inB p s.be.length s.ac.length)=true
 len:((t.1.length:Nat):Int)=Cy d cs
theorem dJ{p:AX}{sz:List Int}{d:CG}{g:A8}: ∀{cs ks:List Int} {s:BX},GD p sz s→cs.length=ks.length→
 (∀(i:Nat) c k,cs[i]? =some c→ks[i]? =some k→ ∃q,s.be[(g.own d true c).toNat]? =some q∧k.toNat<q.queue.length∧EE p s q=((d.be[c.toNat]?).map IL.many).getD 0)→
 (∀(i j:Nat) c b,i<j→cs[i]? =some c→cs[j]? =some b→(g.own d true b).toNat≠(g.own d true c).toNat)→ZI p sz d cs s (CC d g cs ks s)
 |[],ks,s,hs,_,_,_=>by
  rw[CC]
  .exact⟨hs,⟨rfl,rfl,rfl,rfl⟩,rfl,rfl⟩
  .intro c cs k ks h;cases h
 |c::cs,[],s,hs,m,_,_=>by cases m
 |c::cs,k::ks,s,hs,m,hq,hd=>by
  obtain⟨q,w,h2,A⟩:=hq 0 c k rfl rfl;obtain⟨n,a,o,z,r⟩:=dM hs w h2;have e:=dJ (p:=p) (sz:=sz) (d:=d) (g:=g) (cs:=cs) (ks:=ks) (s:=(Gn s (g.own d true c) k).2) n (by simpa using m) (fun i b x f l=>?_) (fun i j b v B f l=>hd (i+1) (j+1) b v AA zEY zFE)
  .rw[CC];refine⟨e.ol,⟨e.only.ac.trans a.ac,e.only.ce.trans a.ce,e.only.waits.trans a.waits,e.only.len.trans a.len⟩,?_,?_⟩
   .rw[To,o,FN];have:=e.of
    rwa [a.len,a.ac]at this
   .have:=e.len;rw[CE,Cy];omega
  .obtain⟨y,b1,t,u⟩:=hq (i+1) b x zEY zFE;refine⟨y,by rw[r _ (hd 0 (i+1) c b AA rfl zEY)];exact b1,t,?_⟩;rw[←u,EE,EE,a.ce]
theorem nq{l:List Bn}(f:HK l){b a:Int}(i:E7 l b)(c: ¬b=0):C3 l b a=(decide (a=b)||C3 l (Bf l b) a):=by
 have g:=f.rx b i;obtain⟨k,h⟩: ∃k,l.length=k+1:=⟨l.length-1,by have:=f.pos;omega⟩;rw[h]at g;have j:=GQ c g;have e:R4 l (k+1) (Bf l b)=R4 l k (Bf l b):=TM l k (k+1) _ j.2 AA;rw[C3,C3,h,e,R4,Co c];simp[D0]
def MA(l:List Bn)(at_:Int):List Bn:=Hn l at_ 0 l
theorem jb(l:List Bn)(at_:Int): ∀(m:List Bn) (i:Nat),(Hn l at_ i m).length=m.length
 |[],i=>rfl
 |x::m,i=>by rw[Hn,List.length_cons,List.length_cons,jb l at_ m (i+1)]
theorem jZ(l:List Bn)(at_:Int): ∀(m:List Bn) (i k:Nat),(Hn l at_ i m)[k]? =(m[k]?).map fun x=>{x with dead:=x.dead||C3 l ((i+k:Nat):Int) at_}
 |[],i,k=>by simp[Hn]
 |x::m,i,0=>by simp[Hn]
 |x::m,i,k+1=>by
  rw[Hn,GS,GS,jZ l at_ m (i+1) k,show i+1+k=i+(k+1) by omega]
theorem X9(l:List Bn)(at_:Int)(k:Nat):(MA l at_)[k]? =(l[k]?).map fun x=>{x with dead:=x.dead||C3 l k at_}:=by
 rw[MA,jZ];simp
theorem GU(l:List Bn)(at_:Int):(MA l at_).length=l.length:=jb l at_ l 0
theorem jc(l:List Bn)(at_ i:Int):Bf (MA l at_) i=Bf l i:=by
 rw[Bf,Bf,X9];cases l[i.toNat]? <;>rfl
theorem WH(l:List Bn)(at_:Int): ∀(k:Nat) (i:Int),Bd (MA l at_) k i=Bd l k i
 |0,i=>rfl
 |k+1,i=>by
  rw[Bd,Bd,jc,WH l at_ k];congr 2;exact decide_eq_decide.2 (by unfold E7;rw[GU])
theorem sE(l:List Bn)(at_:Int)(a:E7 l i):Al (MA l at_) i=(Al l i||C3 l i at_):=by
 have c:=a.1;have e:=a.2;obtain⟨x,b⟩:=get_some (l:=l) (i:=i.toNat) AA;rw[Al,Al,X9,b,show((i.toNat:Nat):Int)=i by omega];rfl
theorem sF{l:List Bn}(h:HK l)(at_:Int):HK (MA l at_):=
 ⟨by rw[GU];exact h.pos,by rw[jc];exact h.top,fun i a=>by rw[WH,GU];exact h.rx i (by rw[E7,GU]at a;exact a)⟩
theorem xq{p:AX}{s:BX}(S:BO p sz)(h:GD p sz s)(at_:Int):GD p sz (O0 s at_):=by
 have Q:=h.small;simp only[BX.small,AP,Ap]at Q;have b:(O0 s at_).ac=MA s.ac at_:=rfl;have u:(O0 s at_).be=s.be.map fun q=>if Al (MA s.ac at_) q.at_=true then{q with queue:=[]}else q:=rfl
 have I:(O0 s at_).waits=s.waits.filter fun w=> !Al (MA s.ac at_) w.at_:=rfl;have f:(O0 s at_).ce=s.ce:=rfl;have e:(O0 s at_).be.length=s.be.length:=by rw[u,As]
 have k:(O0 s at_).ac.length=s.ac.length:=by rw[b,GU]
 have T: ∀q l,EE p (O0 s at_) {q with queue:=l}=EE p s q:=fun q l=>rfl
 refine⟨?_,by rw[b];exact sF h.tree _,fun i x D A=>?_,fun i g C=>?_,by rw[f,e,k];exact h.tot,fun c q F=>?_,fun w z=>?_⟩
 .simp only[BX.small,AP,Ap];rw[f,e,k,I];have:=List.length_filter_le (fun w=> !Al (MA s.ac at_) w.at_) s.waits;omega
 .rw[b]at A⊢;rw[X9]at A;obtain⟨y,n,rfl⟩:=Be.1 A;have N:=vL h.tree D n;have M:E7 s.ac i:=⟨AA,by have:=AL n;omega⟩;dsimp only;rw[sE _ _ N,I8,Bool.or_eq_false_iff];rcases h.dead i y D n with a|a
  .exact .inl (.inl a)
  .cases B:C3 s.ac i at_ with
   |true=>exact .inl (.inr rfl)
   |false=>
    refine .inr ⟨a,?_⟩;rw[nq h.tree M AA,Bool.or_eq_false_iff]at B;have P:Bf s.ac i=y.rc:=by rw[Bf,show((i:Nat):Int).toNat=i from rfl,n];rfl
    rw[P]at B;exact B.2
 .rw[f]at C;obtain⟨d,a⟩:=h.grp i g C;refine⟨d,a.f9,by rw[b,E7,GU];exact a.at_,a.len,by rw[e,k];exact a.of,by rw[f];exact a.wt,fun j ch O=>?_⟩;obtain⟨q,o,h2,r,t⟩:=a.be j ch O;rw[f,u,D7,o];refine⟨_,rfl,?_⟩;dsimp only;split<;>exact⟨h2,r,t⟩
 .rw[u,D7]at F;obtain⟨R,J,rfl⟩:=Be.1 F;have H:=h.que c R J;split
  .exact⟨AG,.inl rfl,fun m v=>by cases v⟩
  .rename_i a;refine⟨H.len,?_,fun m v=>?_⟩
   .rw[b];exact .inr zEg
   .rw[e,k];exact H.msgs m v
 .rw[I,RS]at z;have:=h.wait w z.1;simp only[Ca,AP,Ap,HW]at this⊢;obtain⟨o,h2,r,t,K,L⟩:=this;rw[e,k,b];exact⟨by rw[E7,GU];exact o,by simpa using z.2,r,t,K,L⟩
section
variable{l:List Bn}{i n:Int}{x:Bn}
theorem JQ(l:List Bn)(i n:Int):(FG l i n).length=l.length:=by
 rw[FG];split<;>simp
theorem UZ(a:l[i.toNat]? =some x)(k:Nat):(FG l i n)[k]? =if k=i.toNat then some {x with rc:=n}else l[k]? :=by
 rw[FG,a];dsimp only;rw[IF];have:=AL a;by_cases e:i.toNat=k
 .rw[D5 e,D5 e.symm,D5 AA]
 .rw[Co e,Co fun h=>e h.symm]
theorem QY(b:0≤i)(a:l[i.toNat]? =some x){k:Int}(c:0≤k):Bf (FG l i n) k=if k=i then n else Bf l k:=by
 rw[Bf,Bf,UZ a];by_cases e:k=i
 .rw[D5 AA,D5 e];rfl
 .rw[Co AA,Co e]
theorem RU(a:l[i.toNat]? =some x)(k:Int):Al (FG l i n) k=Al l k:=by
 rw[Al,Al,UZ a];split
 .rename_i e;rw[e,a];rfl
 .rfl
theorem bj(j:0≤i)(m:l[i.toNat]? =some x): ∀{k:Nat} {b:Int},E7 l b→Bd l k b=true→i∉R4 l k b→Bd (FG l i n) k b=true
 |0,b,g,c,h=>c
 |k+1,b,g,c,h=>by
  by_cases a:b=0
  .subst a;exact GR _ _
  .have f:=GQ a c;rw[R4,Co a,D0,not_or]at h;rw[Bd,QY j m g.1,Co fun e=>h.1 e.symm,bj j m f.1 f.2 h.2];have:E7 (FG l i n) (Bf l b):=by rw[E7,JQ];exact f.1
   rw[D1 this];simp
theorem bh(o:HK l)(r:0<i)(f:l[i.toNat]? =some x)(c:E7 l n)(p:C3 l n i=false): ∀{k:Nat} {b:Int},E7 l b→Bd l k b=true→ ∃m,Bd (FG l i n) m b=true
 |0,b,g,a=>by
  simp only[Bd,Ap]at a;subst a;exact⟨0,GR _ _⟩
 |k+1,b,g,a=>by
  by_cases j:b=0
  .subst j;exact⟨0,GR _ _⟩
  .have h:=GQ j a;by_cases e:b=i
   .have q:=bj (n:=n) AA f c (o.rx n c) (by simpa[C3]using p);refine⟨l.length+1,?_⟩;have:E7 (FG l i n) n:=by rw[E7,JQ];exact c
    rw[Bd,QY AA f g.1,D5 e,q,D1 this];simp
   .obtain⟨m,s⟩:=bh o r f c p h.1 h.2;refine⟨m+1,?_⟩;have:E7 (FG l i n) (Bf l b):=by rw[E7,JQ];exact h.1
    rw[Bd,QY AA f g.1,Co e,s,D1 this];simp
theorem o6(a:HK l)(g:0<i)(f:l[i.toNat]? =some x)(j:E7 l n)(k:C3 l n i=false):HK (FG l i n):=by
 refine⟨by rw[JQ];exact a.pos,by rw[QY AA f AA,Co AA];exact a.top,fun b c=>?_⟩;have e:E7 l b:=by rw[E7,JQ]at c;exact c
 obtain⟨m,h⟩:=bh a g f j k e (a.rx b e);exact LV AA (Mz c h)
end
variable{sz:List Int}
theorem Ln{p:AX}{s:BX}(h:GD p sz s){i n:Int}(r:0<i)(j:E7 s.ac i)(z:E7 s.ac n)(u:Al s.ac n=false)(A:C3 s.ac n i=false):GD p sz {s with ac:=FG s.ac i n}:=by
 have C:=h.small;simp only[BX.small,AP,Ap]at C;have F:=j.1;have h2:=j.2;obtain⟨x,e⟩:=get_some (l:=s.ac) (i:=i.toNat) AA;have a:=JQ s.ac i n;refine⟨by simp only[BX.small,AP,Ap,a];omega,o6 h.tree r e z A,fun k y t f=>?_,fun k g o=>?_,by dsimp only;rw[a];exact h.tot,fun c q B=>?_,fun w D=>?_⟩
 .dsimp only at f⊢;rw[RU e];rw[UZ e]at f;split at f
  .cases f;exact .inr u
  .exact h.dead k y t f
 .obtain⟨d,b⟩:=h.grp k g o;exact⟨d,b.f9,by dsimp only;rw[E7,a];exact b.at_,b.len,by dsimp only;rw[a];exact b.of,b.wt,b.be⟩
 .have:=h.que c q B;exact⟨this.len,by dsimp only;rw[RU e];exact this.dead,fun m v=>by dsimp only;rw[a];exact this.msgs m v⟩
 .have:=h.wait w D;simp only[Ca,AP,Ap,HW]at this⊢;rw[RU e,a,E7,a];exact this
theorem Pt: ∀{l:List Nat} {t:List Int},Below l t→ ∀(i:Nat) n k,l[i]? =some n→t[i]? =some k→0≤k∧k<n
 |_,_,.nil,i,n,k,h,_=>by simp at h
 |_,_,.cons c h2 e,0,n,k,a,b=>by
  simp only[F4,Cs]at a b;subst a b;exact⟨c,h2⟩
 |_,_,.cons c h2 e,i+1,n,k,a,b=>Pt e i n k zEg zEw
theorem O9{d:CG}{r:GH}{l:List Int}: ∀{i:Nat},r.eq.drop i=l→joinsOk d r i l=true→ ∀(j k:Nat) c a,i≤j→k<j→r.eq[j]? =some c→r.eq[k]? =some a→c≠a:=by
 induction l with
 |nil=>
  intro i h _ j k c a p _ b _;have:=PU.1 h;have:=AL b;omega
 |cons x l q=>
  intro i h f j k c a p n b g;rw[joinsOk,AP]at f;have o:r.eq[i]? =some x:=by
   exact zBT
  by_cases e:j=i
  .subst e;rw[o]at b;cases b;have m:=f.1;simp only[HO,AP,Ap,HW,S1]at m;intro e;subst e;exact m.2.2.2 (Ok.2 ⟨k,by rw[I6,D5 n];exact g⟩)
  .exact q (by rw[Ag o]at h;exact(TY h).2) f.2 j k c a AA n b g
structure Ai(p:AX)(sz:List Int)(s:BX)(x:Dp)(s1:BX)(e:GK)(js:List Gq):Prop where
 ol:GD p sz s1
 jobs: ∀j∈js,CP p sz s1 j
 run:DG p s x=CF (Eb p 401) js ⟨s1,[e],0⟩
 one:js.length≤1
theorem jv(x:C2)(k:Nat)(a:Int)(e:List Cl):(BL x k a e).length≤1:=by
 rw[BL];split<;>simp
variable{w:GI}{x:C2}
theorem Nw{p:AX}{s:BX}(c:BO p sz)(h:Ca p sz s w=true)(f:p.nodes[w.node.toNat]? =some x)(k:Nat): ∀j∈BL x k w.at_ w.env,CP p sz s j:=by
 obtain⟨y,a⟩:=Ob c h;have e:CP p sz s ⟨w.node,w.at_,w.env⟩:=⟨a.n0,a.size,a.at_,a.live,a.of⟩;obtain⟨m,l,b,h2,g,i,_⟩:=JN c e;have b:p.nodes[w.node.toNat]? =some m:=b;rw[a.node]at b;rw[a.node]at f;cases f;cases b;exact LA e (by have:=a.op;omega) g i k
theorem J2{p:AX}{s:BX}{j:Gq}(h:CP p sz s j)(l:List GI):CP p sz {s with waits:=l} j:=⟨h.n0,h.size,h.at_,h.live,h.of⟩
theorem qE{p:AX}{s:BX}{i:Nat}(h:BO p sz)(f:GD p sz s)(o:s.waits[i]? =some w)(a:qr p s w=true): ∃I e H,Ai p sz s ⟨i,0,0,[]⟩ I e H:=by
 have z:=f.wait w (AS o);obtain⟨x,c⟩:=Ob h z;have F:=f.small;simp only[BX.small,AP,Ap]at F;have m:GD p sz {s with waits:=CW s.waits i}:=OZ f (by have:=P5 s.waits (i:Int);omega) fun v u=>f.wait v (N4 u)
 have b:DG p s ⟨i,0,0,[]⟩=Nv p {s with waits:=CW s.waits i} w x:=by
  rw[DG,Co AZ,Qy];simp only[F8,o,c.node]
 rw[Nv]at b;have K:=c.op;by_cases g:x.op=7
 .rw[D5 g]at b;exact⟨_,_,[],xq h m w.at_,AG,b,AG⟩
 .rw[Co g]at b;obtain⟨v,u,r,A⟩:=c.val g;rw[qr,c.node]at a;simp only[g,FD,r]at a;split at a
  .rename_i B;obtain⟨t,y,L,M⟩:=A B;by_cases q:x.op=6
   .rw[D5 q]at b;rw[Co AA]at a;simp only[AP,Ap,HW]at a;have k:=c.at_;have J:=k.1;have C:=Ln m (i:=w.at_) (n:=v.n) AA k t a.2.1 a.2.2;have D:=Ln f (i:=w.at_) (n:=v.n) AA k t a.2.1 a.2.2;rw[r]at b;exact⟨_,_,_,C,fun j l=>J2 (Nw h (D.wait w (AS o)) c.node 0 j l) (CW s.waits i),b,jv _ _ _ _⟩
   .rw[Co q]at b;exact⟨_,_,_,m,fun j l=>J2 (Nw h z c.node 0 j l) (CW s.waits i),b,jv _ _ _ _⟩
  .cases a
variable{k:Nat}{t:List Int}
theorem Ql{p:AX}{s:BX}{i:Nat}{g:A8}{d:CG}{r:GH}(D:BO p sz)(A:GD p sz s)(v:s.ce[i]? =some g)(h2:p.def? g.f9=some d)(P:d.rules[k]? =some r)(Q:Al s.ac (g.place d r.at_)=false)(C:Below (Bl s d g r) t):ZI p sz d r.eq s (CC d g r.eq t s)∧CP p sz (CC d g r.eq t s).2 ⟨r.node,g.place d r.at_,g.env++(CC d g r.eq t s).1⟩:=by
 obtain⟨ai,m⟩:=A.grp i g v;have z:=AS P;have F:=m.f9;rw[h2]at F;cases F;have o:=Kz D A v m z;have H:=CA D (FX h2).2;have J:=H.ok.rt r z;simp only[B7,AP,Ap]at J;have y: ∀c∈r.eq,(g.own d true c).toNat=(HP p (s.ce.take i)).1+c.toNat:=fun c S=>by
  obtain⟨a,b,_⟩:=o.join c S;have:=JW m.wt a b;omega
 have f:=dJ (p:=p) (sz:=sz) (d:=d) (g:=g) (cs:=r.eq) (ks:=t) A (by have:=C.len;rw[Bl,As]at this;exact this.symm) (fun j c T e n=>?_) (fun a b c h R e n=>?_)
 .obtain⟨_,x,az,b1,V,W,X,Y,Z,K,L,_⟩:=H.node;have I:=m.len;rw[K]at I;simp only[GO]at I;obtain⟨B,h⟩:=L r z;refine⟨f,B,?_,by rw[f.only.ac];exact o.place,by rw[f.only.ac];exact Q,?_⟩
  .have:=f.len;dsimp only;rw[h,CE];congr 1;omega
  .rw[f.only.ac,f.only.len,To,m.of,f.of];rfl
 .obtain⟨ac,B,h,q,u,ad,ag⟩:=o.join c (AS e);have ar:=Pt C j (LG s (g.own d true c)) T (by rw[Bl,D7,e];rfl) n;refine⟨q,u,AA,?_⟩;obtain⟨ch,w⟩:=get_some (l:=d.be) (i:=c.toNat) AA;obtain⟨U,M,N,O,_⟩:=m.be _ ch w;rw[y c (AS e),M]at u;cases u;rw[MM v h2 w N O,w];rfl
 .rw[y c (AS e),y h (AS n)];have:=O9 rfl J.2.2.2 b a h c (IT _) R n e;have av:=(o.join c (AS e)).1;have U:=(o.join h (AS n)).1;omega
theorem qD{p:AX}{s:BX}{i:Nat}{g:A8}{d:CG}{r:GH}(m:BO p sz)(q:GD p sz s)(a:s.ce[i]? =some g)(h2:p.def? g.f9=some d)(b:d.rules[k]? =some r)(h:Al s.ac (g.place d r.at_)=false)(l:Below (Bl s d g r) t): ∃w e v,Ai p sz s ⟨-1,i,k,t⟩ w e v:=by
 obtain⟨u,n⟩:=Ql m q a h2 b h l;have c:s.ce[((i:Nat):Int).toNat]? =some g:=a;have f:d.rules[((k:Nat):Int).toNat]? =some r:=b;refine⟨(CC d g r.eq t s).2,⟨1,g.place d r.at_,i,k,(CC d g r.eq t s).1⟩,[⟨r.node,g.place d r.at_,g.env++(CC d g r.eq t s).1⟩],u.ol,fun j o=>by rw[Ac.1 o];exact n,?_,AG⟩;rw[DG,D5 AZ,cZ];simp only[c,(FX h2).2,f,Qg];rw[CF];cases Eb p 401 ⟨r.node,g.place d r.at_,g.env++(CC d g r.eq t s).1⟩ ⟨(CC d g r.eq t s).2,[⟨1,g.place d r.at_,i,k,(CC d g r.eq t s).1⟩],0⟩<;>rfl
theorem wU{p:AX}{s:BX}{x:Dp}(b:BO p sz)(c:GD p sz s)(h:Mq p s x): ∃k e j,Ai p sz s x k e j:=by
 cases h with
 |wait a h2=>exact qE b c a h2
 |rt a h2 f g i=>exact qD b c a h2 f g i
variable{st:CT}
theorem Xb{p:AX}{s:BX}{x:Dp}(c:BO p sz)(i:GD p sz s)(h:Mq p s x)(f:DG p s x=some st):GD p sz st.d8∧st.ev≠ []∧st.ev.length≤401:=by
 obtain⟨m,e,k,b⟩:=wU c i h;rw[b.run]at f;have a:=RK (fun j st st'=>JI c 401 j st st') k ⟨m,[e],0⟩ st b.ol b.jobs f;obtain⟨l,g,_⟩:=a.evs;refine⟨a.ol,by rw[g];simp,?_⟩;have h2:=a.ev;have n:=a.top AZ;dsimp only[List.length_cons,List.length_nil]at h2;omega
def Gj(l:List Int)(at_:Int)(env:List Cl):List Gq:=l.map fun n=>⟨n,at_,env⟩
variable{h:AD}{π:List Nat}{m:Abs.Id}{V:MV}
theorem xZ{p:AX}(O:BO p sz)(L:J8 p sz k)(v:KA p sz h m V st)(q:Bz π V m)(A:Ke p sz k st)(j:Gq)(z:Ny p j x)(ar:p.nodes.length≤60)(ag:x.kids.length≤2)(C: ∀u∈Gj x.kids j.at_ j.env,CP p sz st.d8 u):
 ∃o h',KL Tryz.prog cfg (.fn 111) [.ptr m 0,.agg [nI j.node,nI j.at_,.d (.bv (j.env.map AN))]] h π true none=.ok (o,h')∧GL p sz π m V h (CF (Eb p k) (Gj x.kids j.at_ j.env) st) o h':=by
 have U:=v.box;have J:=q m (V.m_mem m);simp only[BK]at U;have Z:=AJ J;have ac:=Ak J;have av:=z.node;have ai:=z.n0;have ad:=z.len;have az:=Qa z;replace v:=AB v;replace q:=AB q;replace C:=AB C;replace A:=AB A;refine BT Tryz.func111 ?_;refine aw ?_;refine An x.kids _ (S:=fun W i (a:AD×Nat)=>⟨[(0,.ptr m 0),(3,.ptr (0::0::π) 0),(15,.d (.bv (x.kids.map AR))),(16,nI W),(17,nI i)],a.1,a.2+13,[]⟩)
  (Inv:=fun i I a=>AH (∃V' st',Gg p sz π m V h (a.2+13) V' st' a.1∧Ke p sz k st'∧(∀u∈Gj I j.at_ j.env,CP p sz st'.d8 u)∧CF (Eb p k) (Gj x.kids j.at_ j.env) st=CF (Eb p k) (Gj I j.at_ j.env) st')∧a.1.get (0::0::π)=some (.box [nI j.node,nI j.at_,.d (.bv (j.env.map AN))])) (b0:=(_,_)) rfl ⟨⟨V,st,?_,A.out,C.out,rfl⟩,?_⟩ ?_ ?_
 .refine(Ie v.out q.out fun id b=>?_).up (IT _);have X:=AJ b;simp only[go_sem,X,AM]
 .simp only[go_sem]
 .rintro i y ⟨g,b⟩ a0 Q R ⟨t,H⟩ K;dsimp only at*;obtain⟨V',st',e,c,s,l⟩:=t.out;clear t;replace l:=AB l;replace c:=AB c;replace s:=AB s;replace e:=AB e;refine aw ?_;have F:=s.out ⟨y,j.at_,j.env⟩ (by simp[Gj]);refine Ad (L g ((b+23)::π) m V' st' ⟨y,j.at_,j.env⟩ e.out.rep (e.out.apart q.out AA) c.out.ol F c.out.w0 c.out.w1 c.out.w2 c.out.ev) (fun a1 g1 f=>?_);have P:=(e.out.box q.out (k:=0) (n:=b+23) AA f).trans H;have w:AH (CF (Eb p k) (Gj (y::x.kids.drop (i+1)) j.at_ j.env) st'=(Eb p k ⟨y,j.at_,j.env⟩ st').bind (CF (Eb p k) (Gj (x.kids.drop (i+1)) j.at_ j.env))):=⟨rfl⟩;cases r:Eb p k ⟨y,j.at_,j.env⟩ st' with
  |none=>
   rw[r]at f w;have N:=e.out.ge q.out AA f;obtain rfl:=f.1;refine aw ?_;rw[l.out,w.out];exact N
  |some Y=>
   rw[r]at f w;have D:=JI O k _ _ _ c.out.ol F r;obtain⟨M,B,_⟩:=e.out.call q.out AA f;obtain rfl:=f.1;replace f:=AB f;replace r:=AB r;replace B:=AB B;refine aw ?_;refine K.out (_,_) ⟨⟨M,Y,B.out.up AA,c.out.post D,fun u T=>MJ (s.out u ?_) D.ext,?_⟩,P⟩
   .simp only[Gj,CO,D0]at*;exact .inr T
   .rw[l.out,w.out];rfl
 .rintro i ⟨g,b⟩ Q R ⟨t,H⟩;dsimp only at*;obtain⟨V',st',e,c,s,l⟩:=t.out;clear t;replace l:=AB l;refine aw ?_;rw[l.out];exact e.fin
theorem NJ(f:Gq→CT→Option CT)(j:Gq)(st:CT):CF f [j] st=f j st:=by
 simp only[CF];cases f j st<;>rfl
theorem lk{p:AX}{sz:List Int}{k:Nat}(X:BO p sz)(N:J8 p sz k){h:AD}{π:List Nat}{m:Abs.Id}{V:MV}{st:CT}(t:KA p sz h m V st)(q:Bz π V m)(i:Ke p sz k st)(j:Gq){x:C2}(w:Ny p j x)(ac:p.nodes.length≤60){e:Bu}(L:x.args=[e])(P:e.formed j.env.length=true){f g:Int}(y:x.kids=[f,g])
 (C:CP p sz st.d8 ⟨f,j.at_,j.env⟩) (D:CP p sz st.d8 ⟨g,j.at_,j.env⟩):
 ∃o h',KL Tryz.prog cfg (.fn 113) [.ptr m 0,.agg [nI j.node,nI j.at_,.d (.bv (j.env.map AN))]] h π true none=.ok (o,h')∧GL p sz π m V h (CF (Eb p k) (BL x (QJ x j.env) j.at_ j.env) st) o h':=by
 have Q:=t.box;have M:=q m (V.m_mem m);simp only[BK]at Q;have U:=AJ M;have W:=Ak M;have ad:=w.node;have Z:=w.n0;have Y:=w.len;have ag:=Qa w;obtain⟨s,r,ar,av⟩:=x;dsimp only at L y;subst L;subst y;have S: ∃v,v=e.value j.env:=⟨_,rfl⟩;obtain⟨v,z⟩:=S;have R:=wu j.env e P;rw[←z]at R;have u:AH (QJ ⟨s,r,[e],[f,g]⟩ j.env=if v.kind=1∧v.n≠0 then 0 else 1):=⟨by simp only[QJ,F4,z]⟩;replace z:=AB z;replace t:=AB t;replace q:=AB q;replace C:=AB C;replace D:=AB D;replace i:=AB i;have go:AH (∀(c:Int),CP p sz st.d8 ⟨c,j.at_,j.env⟩→ ∀H n,(∀id,Id.under π id=false→H.get id=h.get id)→ ∃o g1,KL Tryz.prog cfg (.fn 66) [.ptr m 0,nI c,nI j.at_,.d (.bv (j.env.map AN))] H (n::π) true none=.ok (o,g1)∧GL p sz π m V h (Eb p k ⟨c,j.at_,j.env⟩ st) o (gc (n::π) g1)):=⟨fun c l H n K=>by
  obtain⟨o,g1,O,h2⟩:=N H (n::π) m V st ⟨c,j.at_,j.env⟩ (E8 t.out q.out K) (q.out.ext n) i.out.ol l i.out.w0 i.out.w1 i.out.w2 i.out.ev;exact⟨o,g1,O,RQ q.out K h2⟩⟩
 by_cases l:v.kind=1∧v.n≠0
 .rw[u.out,D5 l];clear u;have B:AH (CF (Eb p k) (BL ⟨s,r,[e],[f,g]⟩ 0 j.at_ j.env) st=Eb p k ⟨f,j.at_,j.env⟩ st):=⟨NJ _ _ _⟩;refine BT Tryz.func113 ?_;refine aw ?_;refine Ct (go.out f C.out _ _ fun id b=>?_) (fun T g1 a=>?_)
  .have I:=AJ b;simp only[go_sem,I,AM]
  .rw[←B.out]at a;cases F:CF (Eb p k) (BL ⟨s,r,[e],[f,g]⟩ 0 j.at_ j.env) st;all_goals
    rw[F]at a;have A:=AB a;obtain rfl:=a.1;replace a:=AB a;refine aw ?_;exact A.out
 .rw[u.out,Co l];clear u;have B:AH (CF (Eb p k) (BL ⟨s,r,[e],[f,g]⟩ 1 j.at_ j.env) st=Eb p k ⟨g,j.at_,j.env⟩ st):=⟨NJ _ _ _⟩;have ai:(if v.kind=1 then v.n else 0)=0:=by
   split
   .rename_i y;by_cases J:v.n=0
    .exact J
    .exact absurd ⟨y,J⟩ l
   .rfl
  clear l;refine BT Tryz.func113 ?_;refine aw ?_;refine Ct (go.out g D.out _ _ fun id b=>?_) (fun T g1 a=>?_)
  .have I:=AJ b;simp only[go_sem,I,AM]
  .rw[←B.out]at a;cases F:CF (Eb p k) (BL ⟨s,r,[e],[f,g]⟩ 1 j.at_ j.env) st;all_goals
    rw[F]at a;have A:=AB a;obtain rfl:=a.1;replace a:=AB a;refine aw ?_;exact A.out
variable{x1 x2 x3 x4 x5 x7 x8 x9 x10 x11 x12:AV}
theorem Yl{q:AV}{ds:List CG}{g:A8}{d:CG}(z:h.get m=some (.box [q,x1,x2,x3,x4,x5,.d (.bv (ds.map Bw)),x7,x8,x9,x10,x11,x12]))(j:Id.under π m=false)(w:0≤g.f9)(k:ds[g.f9.toNat]? =some d)(r:d.be.length≤30)(s:d.ac.length≤30)(l:d.own≤g.env.length)(y:g.env.length≤10000)(c:Bool)(n:Int)(A:0≤n)(i:n<if c then(d.be.length:Int)else d.ac.length):
 ∃o h',KL Tryz.prog cfg (.fn 95) [.ptr m 0,.agg [nI g.f9,nI g.at_,.d (.bv (g.env.map AN))],.d (.bool (c)),nI n] h π true (some π)=.ok (o,h')∧o=.ret (nI (g.own d c n)):=by
 have x:=AL k;have t:=AJ j;have u:=Ak j;unfold CG.own at l;cases c with
 |true=>
  simp only[F7]at i;have e:g.env.length-d.ac.length-d.be.length+n.toNat<g.env.length:=AA;obtain⟨v,b⟩:=get_some e;have f:AH (g.own d true n=v.n):=⟨by
   rw[A8.own];simp only[F7];rw[b];rfl⟩
  have a:((g.env.length:Int)-(d.ac.length:Int)-(d.be.length:Int)+n).toNat=g.env.length-d.ac.length-d.be.length+n.toNat:=AA;rw[←a]at b;replace a:=AB a;have p:0≤(g.env.length:Int)-(d.ac.length:Int)-(d.be.length:Int)+n:=AA;refine BT Tryz.func95 ?_;refine aw ?_;rw[f.out]
 |false=>
  simp only[AM,FD]at i;have e:g.env.length-d.ac.length-0+n.toNat<g.env.length:=AA;obtain⟨v,b⟩:=get_some e;have f:AH (g.own d false n=v.n):=⟨by
   rw[A8.own];simp only[AM,FD];rw[b];rfl⟩
  have a:((g.env.length:Int)-(d.ac.length:Int)+n).toNat=g.env.length-d.ac.length-0+n.toNat:=AA;rw[←a]at b;replace a:=AB a;have p:0≤(g.env.length:Int)-(d.ac.length:Int)+n:=AA;refine BT Tryz.func95 ?_;refine aw ?_;rw[f.out]
theorem OM{h:AD}{π:List Nat}{m:Abs.Id}{u x1 x2 x3 x4 x5 x7 x8 x9 x10 x11 x12:AV}{ds:List CG}{g:A8}{d:CG}(c:h.get m=some (.box [u,x1,x2,x3,x4,x5,.d (.bv (ds.map Bw)),x7,x8,x9,x10,x11,x12]))(a:Id.under π m=false)(k:0≤g.f9)(l:ds[g.f9.toNat]? =some d)(e:d.be.length≤30)(f:d.ac.length≤30)(p:d.own≤g.env.length)(q:g.env.length≤10000)(n:Int)(z:0≤n)(A:n≤d.ac.length):
 ∃o h',KL Tryz.prog cfg (.fn 94) [.ptr m 0,.agg [nI g.f9,nI g.at_,.d (.bv (g.env.map AN))],nI n] h π true (some π)=.ok (o,h')∧o=.ret (nI (g.place d n)):=by
 have i:=AJ a;have v:=Ak a;have j:=AI a;by_cases r:n=0
 .refine BT Tryz.func94 ?_
  (repeat' (first|simp only[go_sem, *,A8.place]|(refine sx ?_ ?_<;>intro y)|refine sy AA fun x B c=>?_|simp(disch:=first|assumption|omega) only[AU]))
 .have w:IntKind.i64.wrap (n-1)=n-1:=wrap_id AA AA;have s:g.place d n=g.own d false (n-1):=by rw[A8.place,Co r]
  rw[s];refine BT Tryz.func94 ?_;refine aw ?_;refine Dz (Yl (d:=d) (Eq.trans (b:=h.get m) ?_ c) (j _) k l e f p q false (n-1) AA (by simp only[AM,FD];omega)) (fun C g1 t=>?_)
  .simp only[go_sem,i,AM]
  subst t;exact au
variable{x6:AV}{sp:List (List Ao)}
theorem dD(a:h.get m=some (.box [.d (.bv sp),x1,x2,x3,x4,x5,x6,x7,x8,x9,x10,x11,x12]))(c:sp.length≤1000000)(n:Int):
 ∃o h',KL Tryz.prog cfg (.fn 146) [.ptr m 0,nI n] h π true (some π)=.ok (o,h')∧o=(Jc (DH 2) (decide (0≤n)&&decide (n<sp.length))).1:=by
 refine BT Tryz.func146 ?_
 (repeat' (first|simp only[go_sem, *]|(refine sx ?_ ?_<;>intro b)|refine sy AA fun x e a=>?_|simp(disch:=first|assumption|omega) only[AU]))
 all_goals simp[Jc, *]
variable{ch:List (List Ao)}
theorem si{p:AX}(b:h.get m=some (.box [.d (.bv sp),x1,.d (.bv ch),x3,.d (.bv (p.free.map Bp)),x5,x6,x7,x8,x9,x10,x11,x12]))(c:Id.under π m=false)(k:sp.length≤1000000)(h2:ch.length≤1000000)(l:p.free.length≤1000000)(v:Cl):
 ∃o h',KL Tryz.prog cfg (.fn 180) [.ptr m 0,.agg [nI v.kind,nI v.n]] h π true (some π)=.ok (o,h')∧o=(Jc (DH 2) (v.inB p ch.length sp.length)).1:=by
 have e:=AJ c;have f:=Ak c;have g:IntKind.i64.wrap ((p.free.length:Int)-1)=(p.free.length:Int)-1:=wrap_id AA AA;have i:IntKind.i64.wrap ((ch.length:Int)-1)=(ch.length:Int)-1:=wrap_id AA AA;have j:IntKind.i64.wrap ((sp.length:Int)-1)=(sp.length:Int)-1:=wrap_id AA AA;refine BT Tryz.func180 ?_
 (repeat' (first|simp only[go_sem, *]|(refine sx ?_ ?_<;>intro n)|refine sy AA fun x q b=>?_|simp(disch:=first|assumption|omega) only[AU]))
 all_goals clear b e f g i j
 all_goals first
 |(have a:v.inB p ch.length sp.length=true:=by(unfold Cl.inB;grind)
   rw[a];rfl)
 |(have a:v.inB p ch.length sp.length=false:=by(unfold Cl.inB;grind)
   rw[a];rfl)
theorem YG{p:AX}(B:h.get m=some (.box [.d (.bv sp),x1,.d (.bv ch),x3,.d (.bv (p.free.map Bp)),x5,x6,x7,x8,x9,x10,x11,x12]))(q:Id.under π m=false)(w:sp.length≤1000000)(h2:ch.length≤1000000)(x:p.free.length≤1000000)(l:List Cl)(n:Int)(I:n≤1000000):
 ∃o h',KL Tryz.prog cfg (.fn 147) [.ptr m 0,.d (.bv (l.map AN)),nI n] h π true (some π)=.ok (o,h')∧o=(Jc (DH 2) (decide ((l.length:Int)=n)&&l.all (Cl.inB p ch.length sp.length))).1:=by
 have r:=AJ q;have F:=Ak q;have v:=AI q;by_cases s:(l.length:Int)=n
 .have H:l.length≤1000000:=AA;rw[D1 s,FN];refine BT Tryz.func147 ?_;refine aw ?_;refine An l _ (S:=fun C i (a:AD×Nat)=>⟨[(0,.ptr m 0),(13,.d (.bv (l.map AN))),(14,nI C),(15,nI i)],a.1,a.2+7,[]⟩)
   (Inv:=fun i D a=>a.1.get m=h.get m∧AH (l.all (Cl.inB p ch.length sp.length)=D.all (Cl.inB p ch.length sp.length))) (b0:=(h,_)) ?_ ⟨rfl,⟨rfl⟩⟩ ?_ ?_
  .omega
  .rintro i y ⟨g,c⟩ J z A ⟨k,e⟩ u;dsimp only at*;refine aw ?_;refine Dz (si (p:=p) (sp:=sp) (ch:=ch) (Eq.trans (b:=h.get m) ?_ B) (v _) w h2 x y) (fun t g1 j=>?_)
   .simp only[go_sem,r,k,AM]
   cases f:y.inB p ch.length sp.length with
   |true=>
    rw[f]at j;obtain rfl:t=.ret (.ii []):=j;refine aw ?_;refine u.out (_,_) ⟨?_,⟨?_⟩⟩
    .simp only[go_sem,r,k,AM]
    .rw[e.out,D9,f,FN]
   |false=>
    rw[f]at j;obtain rfl:t=.ge (DH 2):=j;refine aw ?_;rw[e.out,D9,f,DO];rfl
  .rintro i ⟨g,c⟩ z A ⟨k,e⟩;dsimp only at*;refine aw ?_;rw[e.out];rfl
 .rw[Ci s,DO];refine BT Tryz.func147 ?_;refine aw ?_;rfl
def Ma(z:AV)(π:List Nat)(g:AD)(b:Nat)(v:AV)(L:List Cl):Prop:=(L=[]∧v=z)∨ ∃id,v=.f8 id 0 L.length∧g.get id=some (.em 2 (L.map AN))∧ ∃n,n<b∧Id.under (n::π) id=true∧ ∃l,id=1::l
abbrev TB:=Ma .d7
def DE(c n:Nat):List Cl:=(List.range' c n).map fun(i:Nat)=>⟨3,(i:Int)⟩
def Gd(c n:Nat):List Cl:=(List.range' c n).map fun(i:Nat)=>⟨4,(i:Int)⟩
theorem R8(c n:Nat):DE c (n+1)=DE c n++[⟨3,((c+n:Nat):Int)⟩]:=by simp[DE,List.range'_1_concat]
theorem Se(c n:Nat):Gd c (n+1)=Gd c n++[⟨4,((c+n:Nat):Int)⟩]:=by simp[Gd,List.range'_1_concat]
variable{z:AV}{b:Nat}{L:List Cl}
theorem Jt{g:AD}{b':Nat}{v:AV}(h:Ma z π g b v L)(f:b≤b'):Ma z π g b' v L:=by
 exact zCz
theorem Cm{π:List Nat}{b n:Nat}{id:Abs.Id}(h:n<b)(g:Id.under (n::π) id=true)(f: ∃l,id=1::l):(∀a k,b≤k→Id.is (a::k::π) id=false)∧(∀a k,b≤k→Id.is id (a::k::π)=false)∧(∀l,Id.is (0::l) id=false)∧(∀l,Id.is id (0::l)=false):=by
 have key: ∀a k,b≤k→a::k::π≠id:=fun a k c e=>by
  subst e;have:=B9 g (n':=k) (under_iff.2 ⟨[a],rfl⟩);omega
 obtain⟨i,rfl⟩:=f;exact⟨fun a k c=>AF (key a k c),fun a k c=>AF fun e=>key a k c e.symm,fun l=>AF AG,fun l=>AF AG⟩
variable{n:Nat}
theorem HD{g:AD}(e:n<b)(c:k=L.length)(a:g.get (1::n::π)=some (.em 2 (L.map AN))):Ma z π g b (.f8 (1::n::π) 0 k) L:=.inr ⟨_,by rw[c],a,n,e,under_iff.2 ⟨[1],rfl⟩,_,rfl⟩
theorem IX{z:AV}{π:List Nat}{g:AD}{b:Nat}{v:AV}{L:List Cl}(h:Ma z π g b v L)(b':Nat)(f:AE z=[]:=by rfl): ∀i∈AE v,DS b b' π i=false:=by
 rcases h with⟨_,rfl⟩|⟨id,rfl,_,n,c,e,_⟩
 .intro i a;rw[f]at a;cases a
 .intro i a;simp only[AE,Ac]at a;subst a;exact KS c e
theorem bT{z:AV}{π:List Nat}{g:AD}{b:Nat}{v:AV}{L:List Cl}(h:Ma z π g b v L){V:MV}{m:Abs.Id}(e:Bz π V m)(j:AE z=[]:=by rfl): ∀i∈AE v,i∉V.ids m:=by
 rcases h with⟨_,rfl⟩|⟨id,rfl,_,n,k,c,_⟩
 .intro i a;rw[j]at a;cases a
 .intro i a f;simp only[AE,Ac]at a;subst a;have:=e _ f;rw[BM c]at this;cases this
def Ml(z:AV)(π:List Nat)(g:AD)(b:Nat)(v:AV)(L:List Cl):Prop:=(L=[]∧v=z)∨ ∃id,v=.f8 id 0 L.length∧g.get id=some (.i7 2 (L.map AN))∧ ∃n,n<b∧Id.under (n::π) id=true∧ ∃l,id=1::l
abbrev OA:=Ml .d7
theorem Ld{g g':AD}{v:AV}(h:Ml z π g b v L)(c: ∀i∈AE v,g'.get i=g.get i):Ml z π g' b v L:=by
 rcases h with h|⟨id,rfl,h2,a⟩
 .exact .inl h
 .exact .inr ⟨id,rfl,by rw[c id BJ];exact h2,a⟩
theorem Tr{z:AV}{π:List Nat}{g:AD}{b:Nat}{v:AV}{L:List Cl}(h:Ml z π g b v L)(a k:Nat)(m:b≤k)(j:AE z=[]:=by rfl): ∀i∈AE v,Id.is (a::k::π) i=false:=by
 rcases h with⟨_,rfl⟩|⟨id,rfl,_,n,l,f,_⟩
 .intro i c;rw[j]at c;cases c
 .intro i c;simp only[AE,Ac]at c;subst c;refine AF fun e=>?_;subst e;have:=B9 f (n':=k) (under_iff.2 ⟨[a],rfl⟩);omega
theorem HN{z:AV}{π:List Nat}{g:AD}{b n:Nat}{v:AV}{L:List Cl}(h:Ml z π g b v L)(l:b≤n)(f:AE z=[]:=by rfl): ∀i∈AE v,Id.under (n::π) i=false:=by
 rcases h with⟨_,rfl⟩|⟨id,rfl,_,k,j,c,_⟩
 .intro i a;rw[f]at a;cases a
 .intro i a;simp only[AE,Ac]at a;subst a;cases e:Id.under (n::π) i with
  |false=>rfl
  |true=>
   have:=B9 c e;omega
theorem XN{p:AX}{j:Gq}{d:CG}{G:A8}(h:BO p sz)(a:FT p sz st.d8 j x d)(b:G=A6 st.d8 d x.n j)(H:AD)(ρ:List Nat)(f:MV)(w:Int)(k:H.get m=some (.box (BK p sz f w)))(r:Id.under ρ m=false)(n:Int)(l:0≤n)(q:n≤d.ac.length):
 ∃o h',KL Tryz.prog cfg (.fn 94) [.ptr m 0,.agg [nI x.n,nI j.at_,.d (.bv (G.env.map AN))],nI n] H ρ true (some ρ)=.ok (o,h')∧o=.ret (nI (G.place d n)):=by
 have e:d.own≤G.env.length∧G.env.length≤10000:=by
  rw[b,a.env];have:=a.ok.be;have:=a.ok.ac;obtain⟨_,_,_,_,_,_,s⟩:=JN h a.job;unfold CG.own;omega
 have c:G.f9=x.n:=zFm
 have i:G.at_=j.at_:=zFm
 have:=OM (ds:=p.defs) (g:=G) (d:=d) k r (by rw[c];exact a.n0) (by rw[c];exact a.f9) a.ok.be a.ok.ac e.1 e.2 n l q
 rwa [c,i]at this
theorem ll{p:AX}{sz:List Int}{k:Nat}(az:BO p sz)(cc:J8 p sz k){h:AD}{π:List Nat}{m:Abs.Id}{V:MV}{st:CT}(ag:Bz π V m)(L:Ke p sz k st){j:Gq}{x:C2}{d:CG}(F:FT p sz st.d8 j x d){G:A8}(a0:G=A6 st.d8 d x.n j)
 {e:CB} {g:AD} {b:Nat} {ev:AV} {T:MV} (c3:e.get 0=.ptr m 0) (c4:e.get 3=.ptr (0::0::π) 0) (dq:e.get 4=.ptr (0::10::π) 0) (dr:e.get 5=.ptr (0::21::π) 0) (ds:e.get 6=.ptr (0::31::π) 0) (d4:60≤b) (r:Gg p sz π m V h b T {st with d8:=B3 st.d8 d G} g) (v: ∀i∈AE ev,i∉T.ids m)
 (Q:g.get (0::0::π)=some (.box [nI j.node,nI j.at_,.d (.bv (j.env.map AN))])) (N:g.get (0::10::π)=some (.box [nI x.op,nI x.n,.d (.bv (x.args.map BQ)),.d (.bv (x.kids.map AR))])) (dm:g.get (0::21::π)=some (.box [.d (.bv (d.be.map BC)),.d (.bv (d.ac.map Aw)),.d (.bv (d.rules.map BA))])) (D:g.get (0::31::π)=some (.box [nI x.n,nI j.at_,ev])) (B:OA π g b ev G.env):
 Wp cfg (KL Tryz.prog cfg) ⟨112,π,true,none,false,204⟩ 0 (VC 9 (Tryz.f112.body.get rfl)) ⟨e,g,b,[]⟩ (Ki cfg none [] π true (GL p sz π m V h (IA (Eb p k) (FK p x j st)))):=by
 have b8:=ag m (V.m_mem m);have ch:=AJ b8;have d3:=Ak b8;have c1:=F.node;have c7:=F.f9;have d1:=F.ok.be;have d2:=F.ok.ac;obtain⟨a7,b3⟩: ∃n,n=st.d8.be.length:=⟨_,rfl⟩;obtain⟨a6,b2⟩: ∃n,n=st.d8.ac.length:=⟨_,rfl⟩;obtain⟨ng,b4⟩: ∃n,n=st.d8.ce.length:=⟨_,rfl⟩;have be:(B3 st.d8 d G).be.length=a7+d.be.length:=by simp[B3,Fa,b3]
 have av:(B3 st.d8 d G).ac.length=a6+d.ac.length:=by simp[B3,Eo,b2]
 have bi:(B3 st.d8 d G).ce.length=ng+1:=by simp[B3,b4]
 have ac:FK p x j st=if a7+d.be.length≤60∧a6+d.ac.length≤24∧ng+1≤40 then some ({st with d8:=B3 st.d8 d G},CH d G 0 d.ac++BL x 0 j.at_ G.env)else none:=by
  simp only[FK,c7,←a0,be,av,bi]
 have cs:=L.ol.small;simp only[BX.small,AP,Ap]at cs;obtain⟨ek,el,em,en⟩:=cs;have X:=r.rep.box;simp only[BK]at X;have bx:=Js r.rep.arr;rw[r.rep.be.len,be]at bx;have bs:=Ek (r.rep.sl 0 AA);simp only[Av,As,av]at bs;have bv:=Ek (r.rep.sl 1 AA);simp only[Av,As,bi]at bv;have cx:AH (¬(a7+d.be.length≤60∧a6+d.ac.length≤24∧ng+1≤40)→GL p sz π m V h (IA (Eb p k) (FK p x j st)) (.ge (DH 3)) g):=⟨fun c'=>by
  rw[ac,Co c'];exact⟨rfl,r.frame⟩⟩
 clear be av bi;have de:=AH.mk (XN (m:=m) az F a0);replace ac:=AB ac;replace a0:=AB a0;replace ag:=AB ag;replace F:=AB F;replace L:=AB L;replace r:=AB r;replace v:=AB v;replace b3:=AB b3;replace b2:=AB b2;replace b4:=AB b4;simp only[Tryz.f112,I3,VC]
 (repeat' (first|simp only[go_sem, *,↓bx,↓bs,↓bv,AM]|(refine sx ?_ ?_<;>intro d5)|refine sy AA fun x c1 d7=>?_|simp(disch:=first|assumption|omega) only[AU]))
 .have c0:a7+d.be.length≤60∧a6+d.ac.length≤24∧ng+1≤40:=AA;have a1:=Th (st':={st with d8:=B3 st.d8 d G}) az L.out.ol F.out.job c1 F.out.op (by rw[ac.out,D5 c0])
  have c8:AH (IA (Eb p k) (FK p x j st)=CF (Eb p k) (CH d G 0 d.ac++BL x 0 j.at_ G.env) {st with d8:=B3 st.d8 d G}):=⟨by rw[ac.out,D5 c0];rfl⟩
  replace a1:=AB a1;clear c3 c4 dq dr ds dm bx bs bv X cx;refine An d.ac _ (S:=fun dn i (a:AD×Nat)=>⟨[(0,.ptr m 0),(3,.ptr (0::0::π) 0),(4,.ptr (0::10::π) 0),(6,.ptr (0::31::π) 0),(175,.d (.bv (d.ac.map Aw))),(176,nI dn),(177,nI i)],a.1,a.2+25,[]⟩)
   (Inv:=fun i c2 a=>AH (∃V' st',Gg p sz π m V h (a.2+25) V' st' a.1∧(∀i∈AE ev,i∉V'.ids m)∧Ke p sz k st'∧(∀ai∈CH d G i c2++BL x 0 j.at_ G.env,CP p sz st'.d8 ai)∧IA (Eb p k) (FK p x j st)=CF (Eb p k) (CH d G i c2++BL x 0 j.at_ G.env) st')∧a.1.get (0::0::π)=some (.box [nI j.node,nI j.at_,.d (.bv (j.env.map AN))])∧a.1.get (0::10::π)=some (.box [nI x.op,nI x.n,.d (.bv (x.args.map BQ)),.d (.bv (x.kids.map AR))])∧a.1.get (0::31::π)=some (.box [nI x.n,nI j.at_,ev])∧b≤a.2∧AH (OA π a.1 b ev G.env)) (b0:=(_,b)) rfl ⟨⟨T,_,by simpa using r.out.up AA,v.out,⟨a1.out.ol,L.out.w0,L.out.w1,L.out.w2,L.out.ev⟩,a1.out.jobs,c8.out⟩,Q,N,D,Es _,⟨B⟩⟩ ?_ ?_
  .clear r v Q N D B g T;rintro i y ⟨g,c⟩ d9 t c9 ⟨r,Q,N,D,c6,B⟩ b';dsimp only at*;obtain⟨V',st',r,v,A,C,u⟩:=r.out;have X:=r.rep.box;have b1:=r.rep.box;simp only[BK]at X;have av: ¬c=2:=AA;have es:IntKind.i64.wrap ((i:Int)+1)=(i:Int)+1:=wrap_id AA AA;have a3:=fun(H:AD) (n:Nat) (Y:H.get m=g.get m)=>de.out H (n::π) V' st'.work (Y.trans b1) (AI b8 n) ((i:Int)+1) AA AA;have Z:AH (∀H:AD,(∀id,(∀a n,c+25≤n→Id.is (a::n::π) id=false)→H.get id=g.get id)→ ∃o g1,KL Tryz.prog cfg (.fn 66) [.ptr m 0,nI y.node,nI (G.place d ((i:Int)+1)),.d (.bv (G.env.map AN))] H ((c+42)::π) true none=.ok (o,g1)∧Ph p sz π m V h (c+25) (c+42) V' g (Eb p k ⟨y.node,G.place d ((i:Int)+1),G.env⟩ st') o (gc ((c+42)::π) g1)):=⟨fun H Y=>WJ cc ag.out r A (j:=⟨y.node,G.place d ((i:Int)+1),G.env⟩) (C _ zFi) H (c+42) AA Y⟩;have O:AH (∀i∈AE ev,(∀a k,c+25≤k→Id.is (a::k::π) i=false)∧Id.under ((c+42)::π) i=false):=⟨fun i t=>⟨fun a k d6=>Tr B.out a k AA rfl i t,HN B.out AA rfl i t⟩⟩;replace b1:=AB b1;replace a3:=AB a3;replace r:=AB r;replace v:=AB v;replace A:=AB A;replace C:=AB C;replace u:=AB u;have cn:AH (CP p sz st'.d8 ⟨y.node,G.place d ((i:Int)+1),G.env⟩):=⟨C.out _ zFi⟩;have M:AH (CF (Eb p k) (CH d G i (y::d.ac.drop (i+1))++BL x 0 j.at_ G.env) st'=(Eb p k ⟨y.node,G.place d ((i:Int)+1),G.env⟩ st').bind (CF (Eb p k) (CH d G (i+1) (d.ac.drop (i+1))++BL x 0 j.at_ G.env))):=⟨rfl⟩;rcases B.out with⟨b5,I⟩|⟨a5,I,cl,d0,dd,df,cp⟩
   .rw[I]at D;have a4:=a3.out;have J:=Z.out;rw[show G.env.map AN=[] by rw[b5];rfl]at a4 J;replace a4:=AB a4;replace J:=AB J;refine ax ?_;refine Dj (a4.out _ _ ?_) (fun ar g1 f=>?_)
    .simp only[go_sem,ch,AM]
    subst f;refine ax ?_;refine Ct (J.out _ fun b6 W=>?_) (fun ar g1 f=>?_)
    .simp only[go_sem,W,AM]
    cases s:Eb p k ⟨y.node,G.place d ((i:Int)+1),G.env⟩ st' with
    |none=>
     exact zCA
    |some K=>
     exact zAP
   .rw[I]at D;have b7:=O.out a5 zEk;have ea:=b7.1;replace b7:=AB b7.2;have eb:Id.is m a5=false:=Fk X cl;have ej: ∀l,Id.is (0::l) a5=false:=fun l=>by obtain⟨d',rfl⟩:=cp;exact AF AG
    refine ax ?_;refine Dj (a3.out _ _ ?_) (fun ar g1 f=>?_)
    .simp only[go_sem,ch,AM]
    subst f;refine ax ?_;refine Ct (Z.out _ fun b6 W=>?_) (fun ar g1 f=>?_)
    .simp only[go_sem,W,AM]
    cases s:Eb p k ⟨y.node,G.place d ((i:Int)+1),G.env⟩ st' with
    |none=>
     exact zCA
    |some K=>
     exact zAP
  .clear r v Q N D B g T;rintro i ⟨g,c⟩ t c9 ⟨r,Q,N,D,c6,B⟩;dsimp only at*;obtain⟨V',st',bk,v,A,C,u⟩:=r.out;clear r;have c5:=t.out;subst c5;clear t;obtain⟨R,a2,_⟩:=F.out.kid;have bo:CH d G d.ac.length []++BL x 0 j.at_ G.env=[⟨R,j.at_,G.env⟩]:=by rw[BL,a2];rfl
   rw[bo]at C u;rw[NJ]at u;have Z:AH (∀H:AD,(∀id,(∀a n,c+25≤n→Id.is (a::n::π) id=false)→H.get id=g.get id)→ ∃o g1,KL Tryz.prog cfg (.fn 66) [.ptr m 0,nI R,nI j.at_,.d (.bv (G.env.map AN))] H ((c+35)::π) true none=.ok (o,g1)∧Ph p sz π m V h (c+25) (c+35) V' g (Eb p k ⟨R,j.at_,G.env⟩ st') o (gc ((c+35)::π) g1)):=⟨fun H Y=>WJ cc ag.out bk A (j:=⟨R,j.at_,G.env⟩) (C _ AG) H (c+35) AA Y⟩;replace bk:=AB bk;replace v:=AB v;replace A:=AB A;replace C:=AB C;replace u:=AB u;replace bo:=AB bo;rw[a2]at N;replace a2:=AB a2;rcases B.out with⟨b5,I⟩|⟨a5,I,cl,d0,dd,df,cp⟩
   .rw[I]at D;have J:=Z.out;rw[show G.env.map AN=[] by rw[b5];rfl]at J;replace J:=AB J;refine ax ?_;refine Ad (J.out _ fun b6 W=>?_) (fun ar g1 f=>?_)
    .rfl
    cases s:Eb p k ⟨R,j.at_,G.env⟩ st' with
    |none=>
     exact zCM
    |some K=>
     exact zBc
   .rw[I]at D;refine ax ?_;refine Ad (Z.out _ fun b6 W=>?_) (fun ar g1 f=>?_)
    .rfl
    cases s:Eb p k ⟨R,j.at_,G.env⟩ st' with
    |none=>
     exact zCM
    |some K=>
     exact zBc
 all_goals exact cx.out AA
theorem ln{p:AX}{sz:List Int}{k:Nat}(fp:BO p sz)(f2:J8 p sz k){h:AD}{π:List Nat}{m:Abs.Id}{V:MV}{st:CT}(es:KA p sz h m V st)(a6:Bz π V m)(c1:Ke p sz k st){j:Gq}{x:C2}{d:CG}(ch:FT p sz st.d8 j x d){G:A8}(c0:G=A6 st.d8 d x.n j)
 {e:CB} {g:AD} {b:Nat} {ev:AV} (f6:e.get 0=.ptr m 0) (f7:e.get 3=.ptr (0::0::π) 0) (f8:e.get 4=.ptr (0::10::π) 0) (f9:e.get 5=.ptr (0::21::π) 0) (f':e.get 6=.ptr (0::31::π) 0) (dr: ∀id,Id.under π id=false→g.get id=h.get id)
 (ai:g.get (0::0::π)=some (.box [nI j.node,nI j.at_,.d (.bv (j.env.map AN))])) (ar:g.get (0::10::π)=some (.box [nI x.op,nI x.n,.d (.bv (x.args.map BQ)),.d (.bv (x.kids.map AR))])) (av:g.get (0::21::π)=some (.box [.d (.bv (d.be.map BC)),.d (.bv (d.ac.map Aw)),.d (.bv (d.rules.map BA))])) (U:g.get (0::31::π)=some (.box [nI x.n,nI j.at_,ev])) (cn:TB π g (b+43) ev G.env):
 Wp cfg (KL Tryz.prog cfg) ⟨112,π,true,none,false,204⟩ 0 (VC 6 (Tryz.f112.body.get rfl)) ⟨e,g,b+43,[]⟩ (Ki cfg none [] π true (GL p sz π m V h (IA (Eb p k) (FK p x j st)))):=by
 have d':=a6 m (V.m_mem m);have cc:=AJ d';have w:=Ak d';have gu:=ch.ok.be;have gv:=ch.ok.ac;have O:G.f9=x.n:=by rw[c0];rfl
 have N:G.at_=j.at_:=by rw[c0];rfl
 have fv:=c1.ol.small;simp only[BX.small,AP,Ap]at fv;obtain⟨g3,g4,g6,g7⟩:=fv;obtain⟨ng,d6⟩: ∃n,n=st.d8.ce.length:=⟨_,rfl⟩;obtain⟨g2,e5⟩: ∃n,n=st.d8.be.length:=⟨_,rfl⟩;obtain⟨gg,d5⟩: ∃n,n=st.d8.ac.length:=⟨_,rfl⟩;have g5:ng≤40:=AA;obtain⟨b7,c7⟩: ∃l,l=Fm d G ng 0 d.be:=⟨_,rfl⟩;have ex: ∀(t:Nat) c,d.be[t]? =some c→b7[t]? =some ⟨ng,t,G.place d c.at_,[]⟩:=fun t c X=>by rw[c7,JR,X];simp
 have f0:=AH.mk (XN (m:=m) fp ch c0);have K:AH (Gg p sz π m V h (b+43) V st g):=⟨(Ie es a6 dr).up AA⟩;refine R2 3 fun f3 e4=>?_;have c3:AH (∀(e:CB) (H:AD) (c:Nat),e.get 0=.ptr m 0→e.get 3=.ptr (0::0::π) 0→e.get 4=.ptr (0::10::π) 0→e.get 5=.ptr (0::21::π) 0→e.get 6=.ptr (0::31::π) 0→(∃a4,Gg p sz π m V h (c+66) a4 {st with d8:=B3 st.d8 d G} H∧ ∀i∈AE ev,i∉a4.ids m)→H.get (0::0::π)=some (.box [nI j.node,nI j.at_,.d (.bv (j.env.map AN))])→H.get (0::10::π)=some (.box [nI x.op,nI x.n,.d (.bv (x.args.map BQ)),.d (.bv (x.kids.map AR))])→H.get (0::21::π)=some (.box [.d (.bv (d.be.map BC)),.d (.bv (d.ac.map Aw)),.d (.bv (d.rules.map BA))])→H.get (0::31::π)=some (.box [nI x.n,nI j.at_,ev])→OA π H (c+66) ev G.env→Wp cfg (KL Tryz.prog cfg) ⟨112,π,true,none,false,204⟩ 0 f3 ⟨e,H,c+66,[]⟩ (Ki cfg none [] π true (GL p sz π m V h (IA (Eb p k) (FK p x j st))))):=⟨fun e H c f1 x3 x4 x5 x6 e6 gm gn gr gs gb=>by
  obtain⟨a4,e6,gf⟩:=e6;rw[e4];exact ll fp f2 a6 c1 ch c0 f1 x3 x4 x5 x6 AA e6 gf gm gn gr gs gb⟩
 replace e4:=AB e4;replace es:=AB es;replace a6:=AB a6;replace ch:=AB ch;replace c1:=AB c1;replace c0:=AB c0;replace d6:=AB d6;replace e5:=AB e5;replace d5:=AB d5;replace c7:=AB c7;replace ex:=AB ex;replace dr:=AB dr;simp only[Tryz.f112,I3,VC,RA];refine aw ?_;clear f6 f7 f8 f9 f';refine An d.be _ (S:=fun fd i (a:AD×Nat)=>⟨[(0,.ptr m 0),(3,.ptr (0::0::π) 0),(4,.ptr (0::10::π) 0),(5,.ptr (0::21::π) 0),(6,.ptr (0::31::π) 0),(84,.d (.bv (d.be.map BC))),(85,nI fd),(86,nI i)],a.1,a.2+47,[]⟩)
  (Inv:=fun i gi a=>AH (∃V',Gg p sz π m V h (a.2+47) V' {st with d8:={st.d8 with be:=st.d8.be++b7.take i}} a.1∧ ∀i∈AE ev,i∉V'.ids m)∧a.1.get (0::0::π)=some (.box [nI j.node,nI j.at_,.d (.bv (j.env.map AN))])∧a.1.get (0::10::π)=some (.box [nI x.op,nI x.n,.d (.bv (x.args.map BQ)),.d (.bv (x.kids.map AR))])∧a.1.get (0::21::π)=some (.box [.d (.bv (d.be.map BC)),.d (.bv (d.ac.map Aw)),.d (.bv (d.rules.map BA))])∧a.1.get (0::31::π)=some (.box [nI x.n,nI j.at_,ev])∧AH (TB π a.1 (a.2+47) ev G.env)) (b0:=(_,b)) rfl ⟨⟨V,by simpa using K.out.up AA,bT cn a6.out⟩,ai,ar,av,U,⟨Jt cn AA⟩⟩ ?_ ?_
 .clear K cn dr ai ar av U g b;rintro i y ⟨g,b⟩ dq L d3 ⟨K,ai,ar,av,U,a7⟩ b5;dsimp only at*;obtain⟨V',K,bi⟩:=K.out;have b2:=IX a7.out (b+81);have d7:=ch.out.ok.chan y (AS dq);have Q:=K.rep.box;have b3:=fun(H:AD) (n:Nat) (en:H.get m=g.get m)=>f0.out H (n::π) V' st.work (en.trans Q) (AI d' n) y.at_ d7.1 d7.2.1;replace b3:=AB b3;simp only[BK]at Q;have b8:=Ek (K.rep.sl 1 AA);simp only[Av,As,←d6.out]at b8;have bs:=K.rep.arr;have fl:AH (∀A,V'.v3=.f8 A 0 V'.rows.length→(∀a n,b+47≤n→Id.is (a::n::π) A=false)∧(∀a n,b+47≤n→Id.is A (a::n::π)=false)∧Id.is A m=false∧Id.is m A=false∧ ∀k,Id.is A (0::k::π)=false):=⟨fun A em=>by
   have L:=K.ids A (V'.v3_mem m (by rw[em];simp[AE]));have ad:=HA K.rep.arr (id:=A) (by rw[em];simp[AE]);exact⟨C1 (b':=0) a6.out L,EU a6.out L,AF fun e=>(by rw[e,Q]at ad;cases ad),AF fun e=>(by rw[←e,Q]at ad;cases ad),fun k=>AF fun e=>Dq K a6.out k (by rw[←e];exact V'.v3_mem m (by rw[em];simp[AE]))⟩⟩
  have g0:V'.rows.length≤1000:=by
   have:=K.rep.be.len;simp only[CE,F1]at this;omega
  have bc:AH (∀H:AD,H.get m=some (.box (BK p sz {V' with v3:=.f8 (1::(b+74)::π) 0 (V'.rows.length+1)} st.work))→H.get (1::(b+74)::π)=some (.arr 4 (V'.rows++[Az ⟨ng,i,G.place d y.at_,[]⟩ .d7]))→(∀id,Id.is m id=false→(∀ag∈AE V'.v3,Id.is ag id=false)→DS (b+47) (b+81) π id=false→H.get id=g.get id)→ ∃a4,Gg p sz π m V h (b+81) a4 {st with d8:={st.d8 with be:=st.d8.be++b7.take (i+1)}} H∧ ∀i∈AE ev,i∉a4.ids m):=⟨fun H c5 f4 c6=>by
   obtain⟨a4,ds,d0⟩:=K.step (b':=b+81) AA (Zk K.rep (K.apartB a6.out) (q:=⟨ng,i,G.place d y.at_,[]⟩) rfl (1::(b+74)::π) H c5 f4 ⟨CM (b+74) [1] AA AA,_,rfl⟩ c6);rw[F6,ex.out i y dq,←Dl];exact⟨a4,ds,fun i L=>d0 i (bi i L) (b2 i L)⟩⟩
  replace b2:=AB b2;replace bi:=AB bi;replace K:=AB K;replace a7:=a7.out;rcases a7 with⟨P,rfl⟩|⟨id,rfl,ad,n,df,a2,a5⟩
  .have b4:=b3.out;rw[P,BY]at b4;replace b4:=AB b4;replace P:=AB P;rcases bs with⟨bs,dm⟩|⟨A,bs,ek⟩
   .rw[bs]at Q
    (repeat' (first|simp only[go_sem, *,↓b8,AM]|(refine sx ?_ ?_<;>intro X)|refine sy AA fun x a1 a0=>?_|simp(disch:=first|assumption|omega) only[AU]))
    refine Dj (b4.out _ _ ?_) (fun cx g1 bk=>?_)
    .simp only[go_sem,cc,AM]
    subst bk
    (repeat' (first|simp only[go_sem, *,↓b8,AM]|(refine sx ?_ ?_<;>intro X)|refine sy AA fun x a1 a0=>?_|simp(disch:=first|assumption|omega) only[AU]))
    refine b5.out (_,_) ⟨⟨bc.out _ ?_ ?_ fun id b1 W T=>?_⟩,?_,?_,?_,?_,⟨.inl ⟨P.out,rfl⟩⟩⟩
    .rw[dm];simp only[go_sem,BK];first|done|rfl
    .rw[dm];simp only[go_sem,w,AM];rfl
    .have f:=Af T;simp only[go_sem,f,b1,AM]
    .simp only[go_sem,ai,w,AM]
    .simp only[go_sem,ar,w,AM]
    .simp only[go_sem,av,w,AM]
    .simp only[go_sem,U,w,AM]
   .obtain⟨o,r,s,u,f⟩:=fl.out A bs;rw[bs]at Q
    (repeat' (first|simp only[go_sem, *,↓b8,D3,AM]|(refine sx ?_ ?_<;>intro X)|refine sy AA fun x a1 a0=>?_|simp(disch:=first|assumption|omega) only[AU]))
    refine Dj (b4.out _ _ ?_) (fun cx g1 bk=>?_)
    .exact zEH
    subst bk
    (repeat' (first|simp only[go_sem, *,↓b8,D3,AM]|(refine sx ?_ ?_<;>intro X)|refine sy AA fun x a1 a0=>?_|simp(disch:=first|assumption|omega) only[AU]))
    refine b5.out (_,_) ⟨⟨bc.out _ ?_ ?_ fun ag b1 W T=>?_⟩,?_,?_,?_,?_,⟨.inl ⟨P.out,rfl⟩⟩⟩
    .exact zCt
    .simp only[go_sem,w,Az,AM,o,r,s,u,f];first|done|rfl
    .exact zC7
    .exact zDw
    .exact zDx
    .exact zDy
    .exact zD8
  .obtain⟨B,C,D,F⟩:=Cm df a2 a5;have J:Id.is m id=false:=Fk Q ad;have I:Id.is id m=false:=Fk ad Q;replace a2:=AB a2;replace a5:=AB a5;rcases bs with⟨bs,dm⟩|⟨A,bs,ek⟩
   .rw[bs]at Q
    (repeat' (first|simp only[go_sem, *,↓b8,D3,AM]|(refine sx ?_ ?_<;>intro X)|refine sy AA fun x a1 a0=>?_|simp(disch:=first|assumption|omega) only[AU]))
    refine Dj (b3.out _ _ ?_) (fun cx g1 bk=>?_)
    .simp only[go_sem,cc,AM,B,C,D,F,J,I]
    subst bk
    (repeat' (first|simp only[go_sem, *,↓b8,D3,AM]|(refine sx ?_ ?_<;>intro X)|refine sy AA fun x a1 a0=>?_|simp(disch:=first|assumption|omega) only[AU]))
    refine b5.out (_,_) ⟨⟨bc.out _ ?_ ?_ fun ag b1 W T=>?_⟩,?_,?_,?_,?_,⟨.inr ⟨id,rfl,?_,n,AA,a2.out,a5.out⟩⟩⟩
    .rw[dm];simp only[go_sem,BK,AM,B,C,D,F,J,I];first|done|rfl
    .rw[dm];simp only[go_sem,w,Az,AM,B,C,D,F,J,I];first|done|rfl
    .exact zDV
    .simp only[go_sem,ai,w,AM,B,C,D,F,J,I]
    .simp only[go_sem,ar,w,AM,B,C,D,F,J,I]
    .simp only[go_sem,av,w,AM,B,C,D,F,J,I]
    .simp only[go_sem,U,w,AM,B,C,D,F,J,I]
    .simp only[go_sem,ad,AM,B,C,D,F,J,I]
   .obtain⟨o,r,s,u,f⟩:=fl.out A bs;rw[bs]at Q;have R:Id.is A id=false:=Fk ek ad;have Y:Id.is id A=false:=Fk ad ek
    (repeat' (first|simp only[go_sem, *,↓b8,D3,AM]|(refine sx ?_ ?_<;>intro X)|refine sy AA fun x a1 a0=>?_|simp(disch:=first|assumption|omega) only[AU]))
    refine Dj (b3.out _ _ ?_) (fun cx g1 bk=>?_)
    .simp only[go_sem,cc,AM,B,C,D,F,J,I,o,r,s,u,f,R,Y]
    subst bk
    (repeat' (first|simp only[go_sem, *,↓b8,D3,AM]|(refine sx ?_ ?_<;>intro X)|refine sy AA fun x a1 a0=>?_|simp(disch:=first|assumption|omega) only[AU]))
    refine b5.out (_,_) ⟨⟨bc.out _ ?_ ?_ fun ag b1 W T=>?_⟩,?_,?_,?_,?_,⟨.inr ⟨id,rfl,?_,n,AA,a2.out,a5.out⟩⟩⟩
    .simp only[go_sem,BK,AM,B,C,D,F,J,I,o,r,s,u,f,R,Y];first|done|rfl
    .simp only[go_sem,w,Az,AM,B,C,D,F,J,I,o,r,s,u,f,R,Y];first|done|rfl
    .exact zC7
    .simp only[go_sem,ai,w,AM,B,C,D,F,J,I,o,r,s,u,f,R,Y]
    .simp only[go_sem,ar,w,AM,B,C,D,F,J,I,o,r,s,u,f,R,Y]
    .simp only[go_sem,av,w,AM,B,C,D,F,J,I,o,r,s,u,f,R,Y]
    .simp only[go_sem,U,w,AM,B,C,D,F,J,I,o,r,s,u,f,R,Y]
    .simp only[go_sem,ad,AM,B,C,D,F,J,I,o,r,s,u,f,R,Y]
 .clear K cn dr ai ar av U g b;rintro i ⟨g,b⟩ L d3 ⟨K,ai,ar,av,U,a7⟩;dsimp only at*;have el:=L.out;subst el;clear L;have d2:b7.length=d.be.length:=by rw[c7.out,Fa]
  rw[←d2,D3]at K;obtain⟨ea,c9,c'⟩:=K.out;clear K;replace c':=AB c';replace c9:=AB c9;have cn:=a7;clear a7;refine aw ?_;obtain⟨cp,c8⟩: ∃l,l=DY d G d.ac:=⟨_,rfl⟩;have e0: ∀(t:Nat) c,d.ac[t]? =some c→cp[t]? =some ⟨G.place d c.rc,false⟩:=fun t c X=>by rw[c8,DY,D7,X];rfl
  have e1:cp.length=d.ac.length:=by rw[c8,Eo]
  have gz:1≤gg:=by rw[d5.out];exact c1.out.ol.tree.pos
  replace c8:=AB c8;replace e0:=AB e0;replace d2:=AB d2;replace e1:=AB e1;refine An d.ac _ (S:=fun fd i (a:AD×Nat)=>⟨[(0,.ptr m 0),(3,.ptr (0::0::π) 0),(4,.ptr (0::10::π) 0),(5,.ptr (0::21::π) 0),(6,.ptr (0::31::π) 0),(117,.d (.bv (d.ac.map Aw))),(118,nI fd),(119,nI i)],a.1,a.2+52,[]⟩)
   (Inv:=fun i gi a=>AH (∃V',Gg p sz π m V h (a.2+52) V' {st with d8:={st.d8 with be:=st.d8.be++b7,ac:=st.d8.ac++cp.take i}} a.1∧ ∀i∈AE ev,i∉V'.ids m)∧a.1.get (0::0::π)=some (.box [nI j.node,nI j.at_,.d (.bv (j.env.map AN))])∧a.1.get (0::10::π)=some (.box [nI x.op,nI x.n,.d (.bv (x.args.map BQ)),.d (.bv (x.kids.map AR))])∧a.1.get (0::21::π)=some (.box [.d (.bv (d.be.map BC)),.d (.bv (d.ac.map Aw)),.d (.bv (d.rules.map BA))])∧a.1.get (0::31::π)=some (.box [nI x.n,nI j.at_,ev])∧AH (TB π a.1 (a.2+52) ev G.env)) (b0:=(_,b)) rfl ⟨⟨ea,by simpa using c9.out.up AA,c'.out⟩,ai,ar,av,U,⟨Jt cn.out AA⟩⟩ ?_ ?_
  .clear c9 c' cn ai ar av U g b ea;rintro i y ⟨g,b⟩ dq L d3 ⟨K,ai,ar,av,U,a7⟩ b5;dsimp only at*;obtain⟨V',K,bi⟩:=K.out;have b2:=IX a7.out (b+77);have d7:=Kb ch.out.ok.spot i y dq;have Q:=K.rep.box;have b3:=fun(H:AD) (n:Nat) (en:H.get m=g.get m)=>f0.out H (n::π) V' st.work (en.trans Q) (AI d' n) y.rc d7.1 AA;replace b3:=AB b3;simp only[BK]at Q;have M:=K.rep.sl 0 AA;obtain⟨b6,c2⟩: ∃l,l=st.d8.ac++cp.take i:=⟨_,rfl⟩;have gw:b6.length≤100:=by rw[c2];simp;omega
   simp only[Dm,Av,←c2]at M;have ga:b6≠ []:=by
    intro e;have h2:b6.length=0:=zFh
    rw[c2,CE]at h2;have:=c1.out.ol.tree.pos;omega
   rcases M with⟨_,M⟩|⟨S,bv,M,d1⟩
   .exact absurd (D6.1 M) ga
   have bc:AH (∀(v:AV) (H:AD),H.get m=some (.box (BK p sz (V'.ip 0 v) st.work))→Kg H 2 v ((b6++[(⟨G.place d y.rc,false⟩:Bn)]).map Au)→(AE v=AE (V'.s 0)∨ ∀id∈AE v,DS (b+52) (b+77) π id=true∧ ∃l,id=1::l)→(∀id,Id.is m id=false→(∀ag∈AE (V'.s 0),Id.is ag id=false)→DS (b+52) (b+77) π id=false→H.get id=g.get id)→ ∃a4,Gg p sz π m V h (b+77) a4 {st with d8:={st.d8 with be:=st.d8.be++b7,ac:=st.d8.ac++cp.take (i+1)}} H∧ ∀i∈AE ev,i∉a4.ids m):=⟨fun v H c5 eb ej c6=>by
    obtain⟨a4,ds,d0⟩:=K.step (b':=b+77) AA (DZ (st':={st with d8:={st.d8 with be:=st.d8.be++b7,ac:=b6++[⟨G.place d y.rc,false⟩]}}) 0 AA K.rep (K.apartB a6.out) (Wj rfl rfl rfl) rfl v H c5 eb ej c6)
    rw[F6,e0.out i y dq,←Dl,←c2];exact⟨a4,ds,fun i L=>d0 i (bi i L) (b2 i L)⟩⟩
   replace b2:=AB b2;replace bi:=AB bi;rw[As]at M;have fs:=K.ids S (V'.s_mem m (i:=0) AA zE6);have o:=fun a n de=>C1 (b':=0) a6.out fs a n de;have r:=fun a n de=>EU a6.out fs a n de;have s:Id.is S m=false:=Fk d1 Q;have u:Id.is m S=false:=Fk Q d1;have f: ∀k,Id.is S (0::k::π)=false:=fun k=>AF fun e=>Dq K a6.out k (by rw[←e];exact V'.s_mem m (i:=0) AA zE6);rw[M]at Q;replace c2:=AB c2;replace K:=AB K;replace a7:=a7.out;rcases a7 with⟨P,rfl⟩|⟨id,rfl,ad,n,df,a2,a5⟩
   .have b4:=b3.out;rw[P,BY]at b4;replace b4:=AB b4;replace P:=AB P;rcases bv with _|⟨z,bv⟩
    ·(repeat' (first|simp only[go_sem, *,D3,AM]|(refine sx ?_ ?_<;>intro X)|refine sy AA fun x a1 a0=>?_|simp(disch:=first|assumption|omega) only[AU]))
     refine Dj (b4.out _ _ ?_) (fun cx g1 bk=>?_)
     .exact zEH
     subst bk
     (repeat' (first|simp only[go_sem, *,D3,AM]|(refine sx ?_ ?_<;>intro X)|refine sy AA fun x a1 a0=>?_|simp(disch:=first|assumption|omega) only[AU]))
     refine b5.out (_,_) ⟨⟨bc.out (.f8 (1::(b+70)::π) 0 (b6.length+1)) _ ?_ (Aq [] AG ?_) (.inr fun ag a'=>?_) fun ag b1 W T=>?_⟩,?_,?_,?_,?_,⟨.inl ⟨P.out,rfl⟩⟩⟩
     .exact zCt
     .simp only[go_sem,w,BE,BY,AM,o,r,s,u,f];first|done|rfl
     .exact zDW
     .exact zAU
     .exact zDw
     .exact zDx
     .exact zDy
     .exact zD8
    ·(repeat' (first|simp only[go_sem, *,D3,AM]|(refine sx ?_ ?_<;>intro X)|refine sy AA fun x a1 a0=>?_|simp(disch:=first|assumption|omega) only[AU]))
     refine Dj (b4.out _ _ ?_) (fun cx g1 bk=>?_)
     .exact zEH
     subst bk
     (repeat' (first|simp only[go_sem, *,D3,AM]|(refine sx ?_ ?_<;>intro X)|refine sy AA fun x a1 a0=>?_|simp(disch:=first|assumption|omega) only[AU]))
     refine b5.out (_,_) ⟨⟨bc.out (.f8 S 0 (b6.length+1)) _ ?_ (Aq bv AG ?_) (.inl (by rw[M];rfl)) fun ag b1 W T=>?_⟩,?_,?_,?_,?_,⟨.inl ⟨P.out,rfl⟩⟩⟩
     .exact zCt
     .simp only[go_sem,w,BE,BY,AM,o,r,s,u,f];first|done|rfl
     .exact zAU
     .exact zDw
     .exact zDx
     .exact zDy
     .exact zD8
   .obtain⟨B,C,D,F⟩:=Cm df a2 a5;have J:Id.is m id=false:=Fk Q ad;have I:Id.is id m=false:=Fk ad Q;have R:Id.is S id=false:=AF fun e=>bi.out id BJ (by rw[←e];exact V'.s_mem m (i:=0) AA zE6);have Y:Id.is id S=false:=AF fun e=>by rw[e,is_self]at R;cases R
    replace a2:=AB a2;replace a5:=AB a5;rcases bv with _|⟨z,bv⟩
    ·(repeat' (first|simp only[go_sem, *,D3,AM]|(refine sx ?_ ?_<;>intro X)|refine sy AA fun x a1 a0=>?_|simp(disch:=first|assumption|omega) only[AU]))
     refine Dj (b3.out _ _ ?_) (fun cx g1 bk=>?_)
     .simp only[go_sem,cc,AM,o,r,s,u,f,B,C,D,F,J,I,R,Y]
     subst bk
     (repeat' (first|simp only[go_sem, *,D3,AM]|(refine sx ?_ ?_<;>intro X)|refine sy AA fun x a1 a0=>?_|simp(disch:=first|assumption|omega) only[AU]))
     refine b5.out (_,_) ⟨⟨bc.out (.f8 (1::(b+70)::π) 0 (b6.length+1)) _ ?_ (Aq [] AG ?_) (.inr fun ag a'=>?_) fun ag b1 W T=>?_⟩,?_,?_,?_,?_,⟨.inr ⟨id,rfl,?_,n,AA,a2.out,a5.out⟩⟩⟩
     .exact zDl
     .exact zDQ
     .exact zDW
     .exact zAU
     .simp only[go_sem,ai,w,AM,o,r,s,u,f,B,C,D,F,J,I,R,Y]
     .simp only[go_sem,ar,w,AM,o,r,s,u,f,B,C,D,F,J,I,R,Y]
     .simp only[go_sem,av,w,AM,o,r,s,u,f,B,C,D,F,J,I,R,Y]
     .simp only[go_sem,U,w,AM,o,r,s,u,f,B,C,D,F,J,I,R,Y]
     .simp only[go_sem,ad,AM,o,r,s,u,f,B,C,D,F,J,I,R,Y]
    ·(repeat' (first|simp only[go_sem, *,D3,AM]|(refine sx ?_ ?_<;>intro X)|refine sy AA fun x a1 a0=>?_|simp(disch:=first|assumption|omega) only[AU]))
     refine Dj (b3.out _ _ ?_) (fun cx g1 bk=>?_)
     .simp only[go_sem,cc,AM,o,r,s,u,f,B,C,D,F,J,I,R,Y]
     subst bk
     (repeat' (first|simp only[go_sem, *,D3,AM]|(refine sx ?_ ?_<;>intro X)|refine sy AA fun x a1 a0=>?_|simp(disch:=first|assumption|omega) only[AU]))
     refine b5.out (_,_) ⟨⟨bc.out (.f8 S 0 (b6.length+1)) _ ?_ (Aq bv AG ?_) (.inl (by rw[M];rfl)) fun ag b1 W T=>?_⟩,?_,?_,?_,?_,⟨.inr ⟨id,rfl,?_,n,AA,a2.out,a5.out⟩⟩⟩
     .exact zDl
     .exact zDQ
     .exact zAU
     .simp only[go_sem,ai,w,AM,o,r,s,u,f,B,C,D,F,J,I,R,Y]
     .simp only[go_sem,ar,w,AM,o,r,s,u,f,B,C,D,F,J,I,R,Y]
     .simp only[go_sem,av,w,AM,o,r,s,u,f,B,C,D,F,J,I,R,Y]
     .simp only[go_sem,U,w,AM,o,r,s,u,f,B,C,D,F,J,I,R,Y]
     .simp only[go_sem,ad,AM,o,r,s,u,f,B,C,D,F,J,I,R,Y]
  .clear c9 c' cn ai ar av U g b ea d3;rintro i ⟨g,b⟩ L d3 ⟨K,ai,ar,av,U,a7⟩;dsimp only at*;have el:=L.out;subst el;clear L;have e2:=e1.out;rw[←e2,D3]at K;obtain⟨V',K,bi⟩:=K.out;have b2:=IX a7.out (b+66);have Q:=K.rep.box;simp only[BK]at Q;have cl:=Js K.rep.arr;rw[K.rep.be.len]at cl;simp only[CE,←e5.out,d2.out]at cl;have cs:=Ek (K.rep.sl 0 AA);simp only[Av,As,CE,←d5.out,e2]at cs;have M:=K.rep.sl 1 AA;simp only[Dm,Av]at M;clear e2;have bc:AH (∀(g1:AD) (v:AV) (H:AD),(∀i∈V'.ids m,g1.get i=g.get i)→(∀i,Id.under π i=false→g1.get i=g.get i)→H.get m=some (.box (BK p sz (V'.ip 1 v) st.work))→Kg H 3 v ((st.d8.ce++[G]).map BF)→(AE v=AE (V'.s 1)∨ ∀id∈AE v,DS (b+52) (b+66) π id=true∧ ∃l,id=1::l)→(∀id,Id.is m id=false→(∀ag∈AE (V'.s 1),Id.is ag id=false)→DS (b+52) (b+66) π id=false→H.get id=g1.get id)→ ∃a4,Gg p sz π m V h (b+66) a4 {st with d8:=B3 st.d8 d G} H∧ ∀i∈AE ev,i∉a4.ids m):=⟨fun g1 v H b1 W c5 eb ej c6=>by
    have e3:Gg p sz π m V h (b+52) V' {st with d8:={st.d8 with be:=st.d8.be++b7,ac:=st.d8.ac++cp}} g1:=⟨Bx K.rep b1,K.ids,fun id f5 fi=>(W id fi).trans (K.frame id f5 fi)⟩
    obtain⟨a4,ds,d0⟩:=e3.step (b':=b+66) AA (DZ (st':={st with d8:={st.d8 with be:=st.d8.be++b7,ac:=st.d8.ac++cp,ce:=st.d8.ce++[G]}}) 1 AA e3.rep (e3.apartB a6.out) (hX rfl rfl rfl) rfl v H c5 eb ej c6)
    refine⟨a4,?_,fun i L=>d0 i (bi i L) (b2 i L)⟩;rw[B3,←d6.out,←c7.out,←c8.out];exact ds⟩
   have d9:AH (∀S,V'.s 1=.f8 S 0 st.d8.ce.length→(∀a n,b+52≤n→Id.is (a::n::π) S=false)∧(∀a n,b+52≤n→Id.is S (a::n::π)=false)∧Id.is S m=false∧Id.is m S=false∧(∀k,Id.is S (0::k::π)=false)∧(∀i∈AE ev,Id.is S i=false∧Id.is i S=false)):=⟨fun S fr=>by
    have d4:S∈V'.ids m:=V'.s_mem m (i:=1) AA (by rw[fr];simp[AE]);have L:=K.ids S d4;obtain⟨f1,ad⟩:=H7 (K.rep.sl 1 AA) (id:=S) (by rw[fr];simp[AE]);exact⟨fun a n de=>C1 (b':=0) a6.out L a n de,EU a6.out L,AF fun e=>(by rw[e,Q]at ad;cases ad),AF fun e=>(by rw[←e,Q]at ad;cases ad),fun k=>AF fun e=>Dq K a6.out k (by rw[←e];exact d4),fun i L=>⟨AF fun e=>bi i L (by rw[←e];exact d4),AF fun e=>bi i L (by rw[e];exact d4)⟩⟩⟩
   have e':AH (∀i∈V'.ids m,∀c4∈AE ev,Id.is c4 i=false):=⟨fun i L c4 dd=>AF fun e=>bi c4 dd (by rw[e];exact L)⟩;have e8:AH (∀i,Id.under π i=false→ ∀c4∈AE ev,Id.is c4 i=false):=⟨fun i L c4 dd=>AF fun e=>by
    rcases a7.out with⟨_,rfl⟩|⟨id,rfl,_,n,_,a2,_⟩
    .simp[AE]at dd
    .simp only[AE,Ac]at dd;subst dd;rw[←e,BM a2]at L;cases L⟩
   replace b2:=AB b2;replace bi:=AB bi;replace K:=AB K;replace a7:=a7.out;rcases a7 with⟨P,az⟩|⟨id,az,ad,n,df,a2,a5⟩
   .rw[az]at U;rcases M with⟨M,e7⟩|⟨S,bv,M,d1⟩
    .have dn:=AH.mk (D6.1 e7);rw[M]at Q
     (repeat' (first|simp only[go_sem, *,↓cl,↓cs,AM]|(refine sx ?_ ?_<;>intro X)|refine sy AA fun x a1 a0=>?_|simp(disch:=first|assumption|omega) only[AU]))
     refine c3.out _ _ _ rfl rfl rfl rfl rfl (bc.out g (.f8 (1::(b+61)::π) 0 1) _ (fun _ _=>rfl) (fun _ _=>rfl) ?_ (Aq [] ?_ ?_) (.inr fun ag a'=>?_) fun ag b1 W T=>?_) ?_ ?_ ?_ ?_ ?_
     .simp only[go_sem,BK,AM,O,N,P];first|done|rfl
     .rw[dn.out];rfl
     .rw[dn.out];simp only[go_sem,w,AM,O,N,P];first|done|rfl
     .exact zBD
     .exact zDV
     .simp only[go_sem,ai,w,AM,O,N,P]
     .simp only[go_sem,ar,w,AM,O,N,P]
     .simp only[go_sem,av,w,AM,O,N,P]
     .rw[az];simp only[go_sem,U,w,AM,O,N,P]
     .exact .inl ⟨P,az⟩
    .rw[As]at M;rcases bv with _|⟨z,bv⟩
     .skip
      obtain⟨o,r,s,u,f,bx⟩:=d9.out S M;replace bx:=AB bx;rw[M]at Q
      (repeat' (first|simp only[go_sem, *,↓cl,↓cs,AM]|(refine sx ?_ ?_<;>intro X)|refine sy AA fun x a1 a0=>?_|simp(disch:=first|assumption|omega) only[AU]))
      refine c3.out _ _ _ rfl rfl rfl rfl rfl (bc.out g (.f8 (1::(b+61)::π) 0 (st.d8.ce.length+1)) _ (fun _ _=>rfl) (fun _ _=>rfl) ?_ (Aq [] ?_ ?_) (.inr fun ag a'=>?_) fun ag b1 W T=>?_) ?_ ?_ ?_ ?_ ?_
      .simp only[go_sem,BK,AM,O,N,o,r,s,u,f,P];first|done|rfl
      .simp
      .exact zD9
      .exact zBD
      .exact zAU
      .simp only[go_sem,ai,w,AM,O,N,o,r,s,u,f,P]
      .simp only[go_sem,ar,w,AM,O,N,o,r,s,u,f,P]
      .simp only[go_sem,av,w,AM,O,N,o,r,s,u,f,P]
      .rw[az];simp only[go_sem,U,w,AM,O,N,o,r,s,u,f,P]
      .exact .inl ⟨P,az⟩
     .skip
      obtain⟨o,r,s,u,f,bx⟩:=d9.out S M;replace bx:=AB bx;rw[M]at Q
      (repeat' (first|simp only[go_sem, *,↓cl,↓cs,AM]|(refine sx ?_ ?_<;>intro X)|refine sy AA fun x a1 a0=>?_|simp(disch:=first|assumption|omega) only[AU]))
      refine c3.out _ _ _ rfl rfl rfl rfl rfl (bc.out g (.f8 S 0 (st.d8.ce.length+1)) _ (fun _ _=>rfl) (fun _ _=>rfl) ?_ (Aq bv ?_ ?_) (.inl (by rw[M];rfl)) fun ag b1 W T=>?_) ?_ ?_ ?_ ?_ ?_
      .simp only[go_sem,BK,AM,O,N,o,r,s,u,f,P];first|done|rfl
      .simp
      .exact zD9
      .exact zAU
      .simp only[go_sem,ai,w,AM,O,N,o,r,s,u,f,P]
      .simp only[go_sem,ar,w,AM,O,N,o,r,s,u,f,P]
      .simp only[go_sem,av,w,AM,O,N,o,r,s,u,f,P]
      .rw[az];simp only[go_sem,U,w,AM,O,N,o,r,s,u,f,P]
      .exact .inl ⟨P,az⟩
   .rw[az]at U;obtain⟨B,C,D,F⟩:=Cm df a2 a5;have J:Id.is m id=false:=Fk Q ad;have I:Id.is id m=false:=Fk ad Q;replace a2:=AB a2;replace a5:=AB a5;rcases M with⟨M,e7⟩|⟨S,bv,M,d1⟩
    .have dn:=AH.mk (D6.1 e7);rw[M]at Q
     (repeat' (first|simp only[go_sem, *,↓cl,↓cs,AM]|(refine sx ?_ ?_<;>intro X)|refine sy AA fun x a1 a0=>?_|simp(disch:=first|assumption|omega) only[AU]))
     refine c3.out _ _ _ rfl rfl rfl rfl rfl (bc.out (g.put id (.i7 2 (G.env.map AN))) (.f8 (1::(b+61)::π) 0 1) _ (fun i L=>by rw[get_put,e'.out i L id zEh];simp) (fun i L=>by rw[get_put,e8.out i L id zEh];simp) ?_ (Aq [] ?_ ?_) (.inr fun ag a'=>?_) fun ag b1 W T=>?_) ?_ ?_ ?_ ?_ ?_
     .simp only[go_sem,BK,AM,O,N,B,C,D,F,J,I];first|done|rfl
     .rw[dn.out];rfl
     .rw[dn.out];simp only[go_sem,w,AM,O,N,B,C,D,F,J,I];first|done|rfl
     .exact zBD
     .exact zDV
     .simp only[go_sem,ai,w,AM,O,N,B,C,D,F,J,I]
     .simp only[go_sem,ar,w,AM,O,N,B,C,D,F,J,I]
     .simp only[go_sem,av,w,AM,O,N,B,C,D,F,J,I]
     .rw[az];simp only[go_sem,U,w,AM,O,N,B,C,D,F,J,I]
     .refine .inr ⟨id,az,?_,n,AA,a2.out,a5.out⟩;simp only[go_sem,w,AM,O,N,B,C,D,F,J,I]
    .rw[As]at M;rcases bv with _|⟨z,bv⟩
     .skip
      obtain⟨o,r,s,u,f,bx⟩:=d9.out S M;obtain⟨bo,bl⟩:=bx id zEh;replace bx:=AB bx;rw[M]at Q
      (repeat' (first|simp only[go_sem, *,↓cl,↓cs,AM]|(refine sx ?_ ?_<;>intro X)|refine sy AA fun x a1 a0=>?_|simp(disch:=first|assumption|omega) only[AU]))
      refine c3.out _ _ _ rfl rfl rfl rfl rfl (bc.out (g.put id (.i7 2 (G.env.map AN))) (.f8 (1::(b+61)::π) 0 (st.d8.ce.length+1)) _ (fun i L=>by rw[get_put,e'.out i L id zEh];simp) (fun i L=>by rw[get_put,e8.out i L id zEh];simp) ?_ (Aq [] ?_ ?_) (.inr fun ag a'=>?_) fun ag b1 W T=>?_) ?_ ?_ ?_ ?_ ?_
      .exact zDM
      .simp
      .exact zC8
      .exact zBD
      .exact zAU
      .exact zEI
      .exact zEJ
      .exact zEK
      .exact zDp
      .exact zCZ
     .skip
      obtain⟨o,r,s,u,f,bx⟩:=d9.out S M;obtain⟨bo,bl⟩:=bx id zEh;replace bx:=AB bx;rw[M]at Q
      (repeat' (first|simp only[go_sem, *,↓cl,↓cs,AM]|(refine sx ?_ ?_<;>intro X)|refine sy AA fun x a1 a0=>?_|simp(disch:=first|assumption|omega) only[AU]))
      refine c3.out _ _ _ rfl rfl rfl rfl rfl (bc.out (g.put id (.i7 2 (G.env.map AN))) (.f8 S 0 (st.d8.ce.length+1)) _ (fun i L=>by rw[get_put,e'.out i L id zEh];simp) (fun i L=>by rw[get_put,e8.out i L id zEh];simp) ?_ (Aq bv ?_ ?_) (.inl (by rw[M];rfl)) fun ag b1 W T=>?_) ?_ ?_ ?_ ?_ ?_
      .exact zDM
      .simp
      .exact zC8
      .exact zAU
      .exact zEI
      .exact zEJ
      .exact zEK
      .exact zDp
      .exact zCZ
theorem lr{p:AX}{sz:List Int}{k:Nat}(a6:BO p sz)(bc:J8 p sz k){h:AD}{π:List Nat}{m:Abs.Id}{V:MV}{st:CT}(C:KA p sz h m V st)(ad:Bz π V m)(W:Ke p sz k st)(j:Gq){x:C2}(Y:Ny p j x){d:CG}(D:FT p sz st.d8 j x d):
 ∃o h',KL Tryz.prog cfg (.fn 112) [.ptr m 0,.agg [nI j.node,nI j.at_,.d (.bv (j.env.map AN))]] h π true none=.ok (o,h')∧GL p sz π m V h (IA (Eb p k) (FK p x j st)) o h':=by
 have J:=C.box;have P:=ad m (V.m_mem m);simp only[BK]at J;have cn:=AJ P;have cp:=Ak P;have cs:=Ds P;have cx:=JS P;have ag:=Y.node;have c3:=Y.n0;have c2:=Y.len;have c4:=Qa Y;have a':=a6.small;simp only[AX.small,AP,Ap]at a';obtain⟨c',dd,de⟩:=a';have bl:=D.f9;have c0:=D.n0;have c1:=AL bl;have ch:=D.ok.be;have cl:=D.ok.ac;have a0:=K2 j.env AA;have a7:=W.ol.small;simp only[BX.small,AP,Ap]at a7;obtain⟨c5,c7,c8,c9⟩:=a7;replace C:=AB C;replace ad:=AB ad;replace D:=AB D;replace W:=AB W;have O:=Js C.out.arr;have N:=Ek (C.out.sl 0 AA);rw[C.out.be.len]at O;simp only[Av,As]at N;obtain⟨s,ac⟩: ∃n,n=st.d8.be.length:=⟨_,rfl⟩;obtain⟨z,Z⟩: ∃n,n=st.d8.ac.length:=⟨_,rfl⟩;rw[←ac]at O;rw[←Z]at N;have b4:s≤60:=AA;have c6:z≤24:=AA;replace ac:=AB ac;replace Z:=AB Z;by_cases az:j.env.length=0;all_goals
  first
  |simp only[DP az]at a0
  |simp only[Dw az]at a0
  have fa:=B4;refine BT Tryz.func112 ?_;refine R2 6 fun be a1=>?_;have bo:AH (∀(e:CB) (H:AD) (c:Nat),e.get 0=.ptr m 0→e.get 3=.ptr (0::0::π) 0→e.get 4=.ptr (0::10::π) 0→e.get 5=.ptr (0::21::π) 0→e.get 6=.ptr (0::31::π) 0→(∀id,Id.under π id=false→H.get id=h.get id)→H.get (0::0::π)=some (.box [nI j.node,nI j.at_,.d (.bv (j.env.map AN))])→H.get (0::10::π)=some (.box [nI x.op,nI x.n,.d (.bv (x.args.map BQ)),.d (.bv (x.kids.map AR))])→H.get (0::21::π)=some (.box [.d (.bv (d.be.map BC)),.d (.bv (d.ac.map Aw)),.d (.bv (d.rules.map BA))])→(∃ev,H.get (0::31::π)=some (.box [nI x.n,nI j.at_,ev])∧TB π H (c+43) ev (j.env++DE s d.be.length++Gd z d.ac.length))→Wp cfg (KL Tryz.prog cfg) ⟨112,π,true,none,false,204⟩ 0 be ⟨e,H,c+43,[]⟩ (Ki cfg none [] π true (GL p sz π m V h (IA (Eb p k) (FK p x j st))))):=⟨fun e H c b6 x3 x4 x5 x6 f b7 b8 b' bs=>by
   obtain⟨ev,cc,I⟩:=bs;rw[a1];refine ln a6 bc C.out ad.out W.out D.out rfl b6 x3 x4 x5 x6 f b7 b8 b' cc ?_;have:(A6 st.d8 d x.n j).env=j.env++DE s d.be.length++Gd z d.ac.length:=by rw[ac.out,Z.out,A6,FO,Dl];rfl
   rw[this];exact I⟩
  replace a1:=AB a1;simp only[Tryz.f112,I3,RA];refine ax ?_;clear a0;refine An d.be _ (S:=fun a5 i (a:AD×Nat)=>⟨[(0,.ptr m 0),(3,.ptr (0::0::π) 0),(4,.ptr (0::10::π) 0),(5,.ptr (0::21::π) 0),(6,.ptr (0::31::π) 0),(43,nI a5),(44,nI i)],a.1,a.2+37,[]⟩)
   (Inv:=fun i b3 a=>AH (∀id,Id.under π id=false→a.1.get id=h.get id)∧a.1.get (0::0::π)=some (.box [nI j.node,nI j.at_,.d (.bv (j.env.map AN))])∧a.1.get (0::10::π)=some (.box [nI x.op,nI x.n,.d (.bv (x.args.map BQ)),.d (.bv (x.kids.map AR))])∧a.1.get (0::21::π)=some (.box [.d (.bv (d.be.map BC)),.d (.bv (d.ac.map Aw)),.d (.bv (d.rules.map BA))])∧AH (∃ev,a.1.get (0::31::π)=some (.box [nI x.n,nI j.at_,ev])∧TB π a.1 (a.2+37) ev (j.env++DE s i))) (b0:=(_,_)) rfl ⟨⟨fun id b=>?_⟩,?_,?_,?_,⟨?_⟩⟩ ?_ ?_
  .have q:=AJ b;have b2:=Ds b;simp only[go_sem,q,b2,AM]
  .simp only[go_sem]
  .simp only[go_sem]
  .simp only[go_sem]
  .first
   |(refine⟨.d7,?_,.inl ⟨by simp[DE,BI az],rfl⟩⟩
     simp only[go_sem]
     done)
   |(refine⟨.f8 (1::0::2::29::π) 0 j.env.length,?_,.inr ⟨_,by simp[DE],?_,29,AA,under_iff.2 ⟨[1,0,2],rfl⟩,_,rfl⟩⟩
     .simp only[go_sem]
     .simp only[DE,List.range'_zero,BY,CI];simp only[go_sem])
  .rintro i y ⟨g,b⟩ bx F X ⟨f,u,v,w,l⟩ Q;dsimp only at*;obtain⟨ev,b1,l⟩:=l.out;have bi:=(f.out m P).trans J;have b5:IntKind.i64.wrap ((s:Int)+(i:Int))=(s:Int)+(i:Int):=wrap_id AA AA;obtain⟨L,t⟩: ∃L,L=j.env++DE s i:=⟨_,rfl⟩;have R:AH (j.env++DE s (i+1)=L++[⟨3,(s:Int)+(i:Int)⟩]):=⟨by rw[R8,←Dl,←t];simp⟩;rw[←t]at l;have bk:L.length≤20000:=by rw[t];simp[DE];omega
   replace t:=AB t;rcases l with⟨a4,rfl⟩|⟨id,rfl,bv,n,T,K,I⟩
   ·(repeat' (first|simp only[go_sem, *,↓O,↓N]|(refine sx ?_ ?_<;>intro a2)|refine sy AA fun x ag J=>?_|simp(disch:=first|assumption|omega) only[AU]))
    refine Q.out (_,_) ⟨⟨fun id b=>?_⟩,?_,?_,?_,⟨.f8 (1::(b+52)::π) 0 1,?_,?_⟩⟩
    .have q:=AJ b;simp only[go_sem,q,f.out id b,AM]
    .simp only[go_sem,u]
    .simp only[go_sem,v]
    .simp only[go_sem,w]
    .simp only[go_sem]
    .rw[R.out,a4];exact zCj
   .obtain⟨ai,ar,A,B⟩:=Cm T K I;have a3:=AH.mk (BM K);clear I K T
    (repeat' (first|simp only[go_sem, *,↓O,↓N,AM]|(refine sx ?_ ?_<;>intro a2)|refine sy AA fun x ag J=>?_|simp(disch:=first|assumption|omega) only[AU]))
    refine Q.out (_,_) ⟨⟨fun U r=>?_⟩,?_,?_,?_,⟨.f8 (1::(b+52)::π) 0 (L.length+1),?_,?_⟩⟩
    .exact zCK
    .simp only[go_sem,u,A,B,AM]
    .simp only[go_sem,v,A,B,AM]
    .simp only[go_sem,w,A,B,AM]
    .simp only[go_sem]
    .exact zEC
  .clear b4;rintro i ⟨g,b⟩ F X ⟨f,u,v,w,l⟩;dsimp only at*;have av:=F.out;subst av;clear F;replace O:=AB O;refine aw ?_;refine An d.ac _ (S:=fun a5 i (a:AD×Nat)=>⟨[(0,.ptr m 0),(3,.ptr (0::0::π) 0),(4,.ptr (0::10::π) 0),(5,.ptr (0::21::π) 0),(6,.ptr (0::31::π) 0),(64,nI a5),(65,nI i)],a.1,a.2+42,[]⟩)
    (Inv:=fun i b3 a=>AH (∀id,Id.under π id=false→a.1.get id=h.get id)∧a.1.get (0::0::π)=some (.box [nI j.node,nI j.at_,.d (.bv (j.env.map AN))])∧a.1.get (0::10::π)=some (.box [nI x.op,nI x.n,.d (.bv (x.args.map BQ)),.d (.bv (x.kids.map AR))])∧a.1.get (0::21::π)=some (.box [.d (.bv (d.be.map BC)),.d (.bv (d.ac.map Aw)),.d (.bv (d.rules.map BA))])∧AH (∃ev,a.1.get (0::31::π)=some (.box [nI x.n,nI j.at_,ev])∧TB π a.1 (a.2+42) ev (j.env++DE s d.be.length++Gd z i))) (b0:=(_,b)) rfl ⟨f,u,v,w,⟨by obtain⟨ev,q,M⟩:=l.out;exact⟨ev,q,by simpa[Gd]using Jt M AA⟩⟩⟩ ?_ ?_
   .clear l f u v w g b;rintro i y ⟨g,b⟩ bx F X ⟨f,u,v,w,l⟩ Q;dsimp only at*;obtain⟨ev,b1,l⟩:=l.out;have bi:=(f.out m P).trans J;have b5:IntKind.i64.wrap ((z:Int)+(i:Int))=(z:Int)+(i:Int):=wrap_id AA AA;obtain⟨L,t⟩: ∃L,L=j.env++DE s d.be.length++Gd z i:=⟨_,rfl⟩;have R:AH (j.env++DE s d.be.length++Gd z (i+1)=L++[⟨4,(z:Int)+(i:Int)⟩]):=⟨by rw[Se,←Dl,←t];simp⟩;rw[←t]at l;have bk:L.length≤20000:=by rw[t];simp[DE,Gd];omega
    replace t:=AB t;rcases l with⟨a4,rfl⟩|⟨id,rfl,bv,n,T,K,I⟩
    ·(repeat' (first|simp only[go_sem, *,↓N]|(refine sx ?_ ?_<;>intro a2)|refine sy AA fun x ag J=>?_|simp(disch:=first|assumption|omega) only[AU]))
     refine Q.out (_,_) ⟨⟨fun id r=>?_⟩,?_,?_,?_,⟨.f8 (1::(b+57)::π) 0 1,?_,?_⟩⟩
     .have q:=AJ r;simp only[go_sem,q,f.out id r,AM]
     .simp only[go_sem,u]
     .simp only[go_sem,v]
     .simp only[go_sem,w]
     .simp only[go_sem]
     .rw[R.out,a4];exact zCj
    .obtain⟨ai,ar,A,B⟩:=Cm T K I;have a3:=AH.mk (BM K);clear I K T
     (repeat' (first|simp only[go_sem, *,↓N,AM]|(refine sx ?_ ?_<;>intro a2)|refine sy AA fun x ag J=>?_|simp(disch:=first|assumption|omega) only[AU]))
     refine Q.out (_,_) ⟨⟨fun U r=>?_⟩,?_,?_,?_,⟨.f8 (1::(b+57)::π) 0 (L.length+1),?_,?_⟩⟩
     .exact zCK
     .simp only[go_sem,u,A,B,AM]
     .simp only[go_sem,v,A,B,AM]
     .simp only[go_sem,w,A,B,AM]
     .simp only[go_sem]
     .exact zEC
   .clear l f u v w g b X;rintro i ⟨g,b⟩ F X ⟨f,u,v,w,l⟩;dsimp only at*;have av:=F.out;subst av;clear F;refine aw ?_;exact bo.out _ _ _ rfl rfl rfl rfl rfl f.out u v w (by obtain⟨ev,q,M⟩:=l.out;exact⟨ev,q,Jt M AA⟩)
theorem cD(h:Dh x.op=some x.kids.length):x.op=1∨x.op=2∨x.op=3∨x.op=4∨x.op=5∨x.op=6∨x.op=7∨x.op=8:=by
 unfold Dh at h;repeat (split at h;· omega)
 cases h
theorem P1(f:Gq→CT→Option CT)(r:Option CT):IA f (r.map fun st=>(st,[]))=r:=by cases r<;>rfl
theorem jf{p:AX}{sz:List Int}(A:BO p sz): ∀k,J8 p sz k
 |0=>fun h π m V st j M D I B cc ch cl b3=>AA
 |k+1=>fun h π m V st j M D I B cc ch cl b3=>by
  have X:=jf A k;obtain⟨x,l,w,az,N,u,cx⟩:=JN A B;have a7:=az;simp only[DB,AP,Ap,D4]at az;obtain⟨ad,b7,a4,S⟩:=az;have J:Ny p j x:=⟨B.n0,w,AA⟩;have c0:=B.n0;have c1:=Qa J;have C:=M.box;have bk:=D m (V.m_mem m);simp only[BK]at C;have b0:=M.wd;have c2:Id.is m V.wd=false:=Fk C b0;have cp:=AJ bk;have cs:=Ak bk;have c4:IntKind.i64.wrap (st.work+1)=st.work+1:=wrap_id AA AA;obtain⟨a,v⟩: ∃s,s={st with work:=st.work+1}:=⟨_,rfl⟩
  have bc:=A.small;simp only[AX.small,AP,Ap]at bc;obtain⟨c5,a1,c6⟩:=bc;have a5:AH (Eb p (k+1) j st=if st.work<400 then IA (Eb p k) (JH p j a)else none):=⟨by rw[v];rfl⟩;have a':AH (∀H:AD,H.get m=some (.box (BK p sz V (st.work+1)))→(∀id,Id.is m id=false→Id.under π id=false→H.get id=h.get id)→Gg p sz π m V h 0 V a H):=⟨fun H bl bo=>by
   have:=RV (st':=a) M D (by rw[v];exact bl) (by rw[v];exact⟨rfl,rfl⟩) fun id b1 Y=>bo id (AF fun e=>b1 e.symm) Y;exact⟨this.1,fun id b5=>.inl b5,this.2.frame⟩⟩
  have F:AH (st.work<400→Ke p sz k a):=⟨fun h=>by rw[v];exact⟨I,AZ,AZ,AZ,AZ⟩⟩;have Q:AH (CP p sz a.d8 j):=⟨by rw[v];exact B⟩;have U:AH (a.d8=st.d8):=⟨by rw[v]⟩;have b':AH (st.d8.waits.length≤1000000):=⟨by
   have:=I.small;simp only[BX.small,AP,Ap]at this;omega⟩
  have b4:AH (a.ev.length≤1000000):=⟨by rw[v];dsimp only;omega⟩;replace v:=AB v;replace M:=AB M;replace D:=AB D;replace I:=AB I;replace B:=AB B;replace S:=AB S;replace a7:=AB a7;replace J:=AB J;replace u:=AB u;replace N:=AB N;have bs:AH (∀(H g1:AD) (n:Nat) (o:Ax) (r:Option CT),Gg p sz π m V h 0 V a H→GL p sz (n::π) m V H r o g1→GL p sz π m V h r o (gc (n::π) g1)):=⟨fun H g1 n o r i f=>by
   cases r with
   |none=>exact i.ge D.out (IT _) f
   |some c3=>
    obtain⟨cn,h2,_⟩:=i.call D.out (IT _) f;obtain⟨rfl,_⟩:=f;exact h2.fin⟩
  by_cases a0:st.work<400
  .have b8:st.work+1≤400:=AA;rw[a5.out,D5 a0];have L:AH (JH p j a=if x.op=2 then(Cv p x j a).map fun st=>(st,[])else if x.op=3 then some (a,BL x 0 j.at_ j.env++BL x 1 j.at_ j.env)else if x.op=4 then FK p x j a else if x.op=5 then some (a,BL x (QJ x j.env) j.at_ j.env)else if DV x.op=true then(FH j a).map fun st=>(st,[])else some (a,[])):=⟨by rw[JH,w]⟩;have F:=F.out a0;replace F:=AB F;have i:Gg p sz π m V h 0 V a (h.put m (.box (BK p sz V (st.work+1)))):=by
    refine a'.out _ ?_ ?_
    .simp only[go_sem]
    .intro id b1 Y;exact zDg
   have ap:=AH.mk (i.apart D.out (n:=36) (IT _));have K:=fun g1 o r=>bs.out _ g1 36 o r i;replace K:=AB K;replace i:=AB i;have a3:=AB a4;clear a4;rcases cD ad with f|f|f|f|f|f|f|f
   .rw[L.out];simp only[f,Int.reduceEq,F7,FD,DV,decide_false,Bool.or_self,AM,IA,CF];refine BT Tryz.func66 ?_
    (repeat' (first|simp only[go_sem, *,JC]|(refine sx ?_ ?_<;>intro O)|refine sy AA fun x w C=>?_|simp(disch:=first|assumption|omega) only[AU]))
    exact i.out.fin
   .rw[L.out];simp only[f,Int.reduceEq,F7,FD,P1];have a6:0≤x.n∧x.n<j.env.length:=by simpa[W8,f]using b7
    have bx:x.args.length≤3:=by simpa[E0,f]using a3.out
    have P: ∀e∈x.args,e.formed j.env.length=true:=fun e b2=>by
     have:=S.out e b2;exact zCW
    replace P:=AB P;refine BT Tryz.func66 ?_
    (repeat' (first|simp only[go_sem, *,JC]|(refine sx ?_ ?_<;>intro O)|refine sy AA fun x w C=>?_|simp(disch:=first|assumption|omega) only[AU]))
    refine Ad (zq (V:=V) (st:=a) i.out.rep ap.out j J.out a1 bx P.out a6.1 a6.2 (by rw[U.out];exact B.out.of) (fun c q u=>by rw[U.out]at u⊢;exact Pw A I.out u) b4.out) (fun y g1 b=>?_);have fn:=K.out g1 y _ b;obtain⟨r,g⟩: ∃r,r=Cv p x j a:=⟨_,rfl⟩;rw[←g]at fn b⊢;clear g;cases r;all_goals
     have z:=b.1;subst z;replace fn:=AB fn;replace b:=AB b;refine aw ?_;exact fn.out
   .rw[L.out];simp only[f,Int.reduceEq,F7,FD];have ag:x.kids.length=2:=by simpa[Dh,f]using ad.symm
    obtain⟨be,bi,t⟩:=Qw ag;have T:BL x 0 j.at_ j.env++BL x 1 j.at_ j.env=Gj x.kids j.at_ j.env:=by simp[BL,Gj,t]
    have av: ∀W∈Gj x.kids j.at_ j.env,CP p sz a.d8 W:=by
     rw[←T];intro W b6;rcases EL.1 b6 with Z|Z
     .exact LA Q.out AA N.out u.out 0 W Z
     .exact LA Q.out AA N.out u.out 1 W Z
    rw[IA,T];replace T:=AB T;replace t:=AB t;replace av:=AB av;refine BT Tryz.func66 ?_
    (repeat' (first|simp only[go_sem, *,JC]|(refine sx ?_ ?_<;>intro O)|refine sy AA fun x w C=>?_|simp(disch:=first|assumption|omega) only[AU]))
    refine Ad (xZ A X (V:=V) (st:=a) i.out.rep ap.out F.out j J.out a1 AA av.out) (fun y g1 b=>?_);have fn:=K.out g1 y _ b;obtain⟨r,g⟩: ∃r,r=CF (Eb p k) (Gj x.kids j.at_ j.env) a:=⟨_,rfl⟩;rw[←g]at fn b⊢;clear g;cases r;all_goals
     have z:=b.1;subst z;replace fn:=AB fn;replace b:=AB b;refine aw ?_;exact fn.out
   .rw[L.out];simp only[f,Int.reduceEq,F7,FD];obtain⟨d,ac⟩:=eU A (s:=a.d8) (by rw[U.out];exact I.out) Q.out w f;replace ac:=AB ac;refine BT Tryz.func66 ?_
    (repeat' (first|simp only[go_sem, *,JC]|(refine sx ?_ ?_<;>intro O)|refine sy AA fun x w C=>?_|simp(disch:=first|assumption|omega) only[AU]))
    refine Ad (lr A X (V:=V) (st:=a) i.out.rep ap.out F.out j J.out ac.out) (fun y g1 b=>?_);have fn:=K.out g1 y _ b;obtain⟨r,g⟩: ∃r,r=IA (Eb p k) (FK p x j a):=⟨_,rfl⟩;rw[←g]at fn b⊢;clear g;cases r;all_goals
     have z:=b.1;subst z;replace fn:=AB fn;replace b:=AB b;refine aw ?_;exact fn.out
   .rw[L.out];simp only[f,Int.reduceEq,F7,FD];have ag:x.kids.length=2:=by simpa[Dh,f]using ad.symm
    obtain⟨be,bi,t⟩:=Qw ag;have bv:x.args.length=1:=by simpa[E0,f]using a3.out
    obtain⟨a2,R⟩: ∃e,x.args=[e]:=by
     match hxa:x.args,bv with
     |[e],_=>exact⟨e,rfl⟩
    have P:a2.formed j.env.length=true:=by
     have:=S.out a2 (by rw[R];simp);exact zCW
    have ai:CP p sz a.d8 ⟨be,j.at_,j.env⟩:=LA Q.out AA N.out u.out 0 _ (by simp[BL,t]);have ar:CP p sz a.d8 ⟨bi,j.at_,j.env⟩:=LA Q.out AA N.out u.out 1 _ (by simp[BL,t]);rw[IA];replace t:=AB t;replace R:=AB R;replace ai:=AB ai;replace ar:=AB ar;refine BT Tryz.func66 ?_
    (repeat' (first|simp only[go_sem, *,JC]|(refine sx ?_ ?_<;>intro O)|refine sy AA fun x w C=>?_|simp(disch:=first|assumption|omega) only[AU]))
    refine Ad (lk A X (V:=V) (st:=a) i.out.rep ap.out F.out j J.out a1 R.out P t.out ai.out ar.out) (fun y g1 b=>?_);have fn:=K.out g1 y _ b;obtain⟨r,g⟩: ∃r,r=CF (Eb p k) (BL x (QJ x j.env) j.at_ j.env) a:=⟨_,rfl⟩;rw[←g]at fn b⊢;clear g;cases r;all_goals
     have z:=b.1;subst z;replace fn:=AB fn;replace b:=AB b;refine aw ?_;exact fn.out
   all_goals
    rw[L.out];simp only[f,Int.reduceEq,F7,FD,P1,DV,decide_true,decide_false,Bool.true_or,T2,Bool.or_self,AM];refine BT Tryz.func66 ?_
    (repeat' (first|simp only[go_sem, *,JC]|(refine sx ?_ ?_<;>intro O)|refine sy AA fun x w C=>?_|simp(disch:=first|assumption|omega) only[AU]))
    refine Ad (vr (V:=V) (st:=a) i.out.rep ap.out j AA (by rw[U.out];exact b'.out)) (fun y g1 b=>?_);have fn:=K.out g1 y _ b;obtain⟨r,g⟩: ∃r,r=FH j a:=⟨_,rfl⟩;rw[←g]at fn b⊢;clear g;cases r;all_goals
     have z:=b.1;subst z;replace fn:=AB fn;replace b:=AB b;refine aw ?_;exact fn.out
  .have b8: ¬st.work+1≤400:=AA;rw[a5.out,Co a0];refine BT Tryz.func66 ?_;refine aw ?_;refine⟨rfl,(a'.out _ ?_ ?_).frame⟩
   .simp only[go_sem,BK];first|done|rfl
   .intro id b1 Y;exact zDg
def oo(l:List Int):Int:=match l with
 |[]=>0
 |x::l=>l.foldl min x
theorem aJ: ∀(l:List Int) (x:Int),l.foldl min x≤x∧(∀y∈l,l.foldl min x≤y)∧(l.foldl min x=x∨l.foldl min x∈l)
 |[],x=>AG
 |y::l,x=>by
  obtain⟨c,h2,a⟩:=aJ l (min x y);rw[Ms];refine⟨AA,fun z b=>?_,?_⟩
  .rcases D0.1 b with rfl|b
   .omega
   .exact h2 z b
  .rcases a with a|a
   .by_cases e:x≤y
    .exact .inl AA
    .exact .inr (D0.2 (.inl AA))
   .exact .inr (F0 _ a)
theorem bd{l:List Nat}(h:0<l.length):oo (l.map fun(n:Nat)=>(n:Int))=0↔0∈l:=by
 cases l with
 |nil=>simp at h
 |cons x l=>
  obtain⟨g,h2,a⟩:=aJ (l.map fun(n:Nat)=>(n:Int)) (x:Int);have c:oo ((x::l).map fun(n:Nat)=>(n:Int))=(l.map fun(n:Nat)=>(n:Int)).foldl min (x:Int):=rfl;rw[c];constructor
  .intro e;rw[e]at a;rcases a with a|a
   .have:x=0:=AA;simp[this]
   .obtain⟨y,b,f⟩:=F2.1 a;have:y=0:=AA;subst this;exact F0 _ b
  .intro e;have i:0≤(l.map fun(n:Nat)=>(n:Int)).foldl min (x:Int):=by
    rcases a with a|a
    .omega
    .obtain⟨y,b,f⟩:=F2.1 a;omega
   rcases D0.1 e with e|e
   .omega
   .have:=h2 0 (F2.2 ⟨0,e,rfl⟩);omega
theorem uQ(L:List Int)(k:0<L.length)(s:L.length≤1000000):BU (KL Tryz.prog cfg) 159 [.d (.bv (L.map AR))] []=.ok (.ret (nI (oo L)),[]):=by
 obtain⟨x,g⟩:=get_some (l:=L) (i:=0) k;have m:AH (oo L=(L.drop 1).foldl min x):=⟨by
  cases L with
  |nil=>cases g
  |cons y l=>cases g;rfl⟩
 have a:AH ((L.drop 1).length=L.length-1):=⟨AG⟩;have t: ¬(L.length:Int)<1:=AA;have u:(0:Int)<L.length:=AA;refine A7 Tryz.func159 ?_;refine aw ?_;refine Aj (L.drop 1) (S:=fun i (c:Int)=>⟨[(0,.d (.bv (L.map AR))),(3,nI c),(4,nI ((i:Int)+1))],[],0,[]⟩) (Inv:=fun i o c=>AH (oo L=o.foldl min c)) (b0:=x) m ?_ ?_
 .rintro i y c n f e b h;have a:=a.out;have j:(i:Int)+1<L.length:=AA;have p:((i:Int)+1).toNat=i+1:=AA;have r:0≤(i:Int)+1:=AA;have q:IntKind.i64.wrap ((i:Int)+1+1)=(i:Int)+1+1:=wrap_id AA AA;rw[He,Nat.add_comm]at n;clear a f e;refine aw ?_;rw[show(if y<c then y else c)=min c y by split<;>omega];exact h.out (min c y) b
 .rintro i c f e b;have a:=a.out;have j: ¬(i:Int)+1<L.length:=AA;clear a e;refine aw ?_;rw[b.out];rfl
theorem Z8(l:List Int)(id:Abs.Id)(o n:Nat):B8 (.f8 id o n) [(id,.em 1 (l.map AR))]=some (id,.em 1 (l.map AR)):=by
 rw[HX,D5];simp[AR,FE]
theorem r7(l:List Int)(a:0<l.length)(b:l.length≤1000000)(k:Nat)(ρ:List Nat):BU (KL Tryz.prog cfg) 160 [.d (.bv (l.map AR))] (k::ρ)=.ok (.ret (.f8 (1::5::k::ρ) 0 l.length),[(1::5::k::ρ,.em 1 (l.map AR))]):=by
 have ap:=TT l l.length rfl a b;refine A7 Tryz.func160 ?_;exact au
def KX:List Nat→List Int→List (List Int)
 |n::l,d::c=>((KX l c).map fun t=>d::t)++(List.range' (d.toNat+1) (n-(d.toNat+1))).flatMap fun(i:Nat)=>(CN l).map fun t=>(i:Int)::t
 |_,_=>[[]]
def Gf(n:Nat):List Int:=List.replicate n 0
def Ku:List Nat→List Int→Option (List Int)
 |n::l,d::c=>match Ku l c with
  |some t=>some (d::t)
  |none=>if d+1<n then some ((d+1)::Gf c.length)else none
 |_,_=>none
inductive Jd:List Nat→List Int→Prop where
 |nil:Jd [] []
 |cons {n:Nat} {l:List Nat} {d:Int} {c:List Int}:0≤d→d<n→Jd l c→Jd (n::l) (d::c)
variable{l:List Nat}
theorem Jd.len{c:List Int}(h:Jd l c):c.length=l.length:=by
 induction h with
 |nil=>rfl
 |cons _ _ _ a=>simp[a]
theorem NA: ∀{l:List Nat},0∉l→Jd l (Gf l.length)
 |[],_=>.nil
 |n::l,h=>by
  simp only[D0,not_or]at h;exact .cons AA AA (NA h.2)
theorem Rm: ∀{l:List Nat},0∉l→KX l (Gf l.length)=CN l
 |[],_=>rfl
 |n::l,h=>by
  simp only[D0,not_or]at h;have a:=Rm h.2;rw[List.length_cons,Gf,Rx,KX,CN];rw[Gf]at a;rw[a];obtain⟨m,rfl⟩: ∃m,n=m+1:=⟨n-1,AA⟩;rw[List.range_eq_range',List.range'_succ,EM];simp
def cf(l:List Nat):Option (List Int)→List (List Int)
 |some c=>KX l c
 |none=>[]
theorem pt{c:List Int}(h:Jd l c)(g:0∉l):KX l c=c::cf l (Ku l c)∧ ∀c',Ku l c=some c'→Jd l c':=by
 induction h with
 |nil=>exact⟨rfl,fun c' h=>by cases h⟩
 | @cons n l d c q r j u=>
   simp only[D0,not_or]at g;obtain⟨f,v⟩:=u g.2;cases b:Ku l c with
   |some t=>
    rw[b]at f;have e:Ku (n::l) (d::c)=some (d::t):=by rw[Ku,b]
    rw[e];refine⟨?_,fun c' h=>by cases h;exact .cons q r (v t b)⟩;simp only[KX,cf,f];rfl
   |none=>
    rw[b]at f;have e:Ku (n::l) (d::c)=if d+1<n then some ((d+1)::Gf c.length)else none:=by rw[Ku,b]
    rw[e];have o:=NA g.2;rw[←j.len]at o;have k:=Rm g.2;rw[←j.len]at k;by_cases i:d+1<n
    .rw[D5 i];refine⟨?_,fun c' h=>by cases h;exact .cons AA i o⟩;simp only[KX,cf,f,k];obtain⟨m,s⟩: ∃m,n-(d.toNat+1)=m+1:=⟨n-(d.toNat+1)-1,AA⟩;have p:(d+1).toNat=d.toNat+1:=AA;rw[p,s,List.range'_succ,EM,show n-(d.toNat+1+1)=m by omega];simp;intro a _;omega
    .rw[Co i];refine⟨?_,fun c' h=>by cases h⟩;have:n-(d.toNat+1)=0:=AA;simp only[KX,cf,f,this];rfl
theorem sH{l:List Nat}{c:List Int}(h:Jd l c): ∀{j:Nat} {d:Int} {n:Nat},c[j]? =some d→l[j]? =some n→0≤d∧d<n:=by
 induction h with
 |nil=>intro j d n a;simp at a
 |cons a h2 _ f=>
  intro j d n b e;cases j with
  |zero=>
   simp only[F4,Cs]at b e;subst b e;exact⟨a,h2⟩
  |succ j=>exact f b e
def jH(l:List Nat)(c:List Int)(j:Nat):Prop:= ∀t,j≤t→t<l.length→ ∃(d:Int) (n:Nat),c[t]? =some d∧l[t]? =some n∧d=n-1
theorem XC{l:List Nat}{c:List Int}(h:Jd l c)(e:jH l c 0):Ku l c=none:=by
 induction h with
 |nil=>rfl
 | @cons n l d c m o k g=>
   have f:=g fun t _ p=>by
    have:=e (t+1) AA Aa;simpa using this
   obtain⟨i,n',a,b,j⟩:=e 0 AA AG;simp only[F4,Cs]at a b;subst a b;rw[Ku,f];simp only;rw[Co AA]
theorem pB{l:List Nat}{c:List Int}(h:Jd l c): ∀{j:Nat} {d:Int} {n:Nat},jH l c (j+1)→c[j]? =some d→l[j]? =some n→ ¬d=n-1→Ku l c=some (c.take j++(d+1)::Gf (l.length-(j+1))):=by
 induction h with
 |nil=>intro j d n _ e;simp at e
 | @cons u l p c q r f o=>
   intro j d n i a b m;have g: ∀k,k+1≥j+1→jH l c k:=fun k s t e h2=>by
    have:=i (t+1) AA Aa;simpa using this
   cases j with
   |zero=>
    simp only[F4,Cs]at a b;subst a b;rw[Ku,XC f (g 0 AA)];simp only;rw[D5 AA];simp[f.len]
   |succ j=>
    simp only[GS]at a b;rw[Ku,o (g (j+1) AA) a b m];simp
def AAq{α:Type}(C:Abs.Id→Prop)(I:List α→AD→Prop)(D:Ax→AD→Prop)(π ρ:List Nat)(l:List α)(H:AD)(o:Ax)(h':AD):Prop:=
 (o=.ret (.d (.bool (true)))∧I l h'∧ ∀i,¬C i→Id.under ρ i=false→h'.get i=H.get i)∨((o=.ret (.d (.bool (false)))∨ ∃v,o=.ge v)∧D o h'∧ ∀j,Id.under π (0::j)=true→Id.under ρ (0::j)=false→h'.get (0::j)=H.get (0::j))
structure xM{α:Type}(val:AD→AV→α→Prop)(id:Abs.Id)(C:Abs.Id→Prop)(I:List α→AD→Prop)(D:Ax→AD→Prop)(π:List Nat):Prop where
 own:C id
 apart: ∀i,C i→Id.under π i=false
 loop: ∀{l:List α} {H:AD},I l H→ ∃r,H.get id=some (.loop r)
 eat: ∀{x:α} {l:List α} {H:AD} {ρ:List Nat} {v:AV} {r:Lp},I (x::l) H→H.get id=some (.loop r)→val H v x→(∀i,Id.under π i=false→Id.under ρ i=false)→(∀i∈AE v,¬C i∧Id.under ρ i=false∧Id.under π i=true)→
  ∃o h',KL Tryz.prog cfg (.round id r) [v] H ρ true none=.ok (o,h')∧AAq C I D π ρ l H o h'
 same: ∀{l:List α} {H H':AD},I l H→(∀i,Id.under π i=false→H'.get i=H.get i)→I l H'
 sameD: ∀{o:Ax} {H H':AD},D o H→(∀i,(Id.under π i=false∨ ∃l,i=1::l)→H'.get i=H.get i)→D o H'
def iA{α:Type}(C:Abs.Id→Prop)(I:List α→AD→Prop)(D:Ax→AD→Prop)(π:List Nat)(h:AD)(o:Ax)(h':AD):Prop:=
 (o=.ret (.ii [])∧I [] h'∧ ∀i,¬C i→Id.under π i=false→h'.get i=h.get i)∨(o=.ret (.ii [])∧D (.ret (.d (.bool (false)))) h')∨((∃v,o=.ge v)∧D o h')
def ZE(ρ:List Nat)(i:Abs.Id):Prop:= ∃j l,i=1::j::l∧Id.under ρ l=true
def Mn(π:List Nat)(b:Nat)(i:Abs.Id):Prop:= ∃n,n<b∧ZE (n::π) i
variable{ρ:List Nat}{i:Abs.Id}
theorem ZE.up(h:ZE ρ i):Id.under ρ i=true:=by
 obtain⟨j,l,rfl,h⟩:=h;obtain⟨t,rfl⟩:=under_iff.1 h;exact under_iff.2 ⟨1::j::t,rfl⟩
theorem ZE.out(h:ZE (n::π) i):ZE π i:=by
 obtain⟨j,l,rfl,h⟩:=h;exact⟨j,l,rfl,BM h⟩
theorem ZE.not(h:ZE (n::π) i)(a m:Nat):Id.is (a::m::π) i=false:=AF fun e=>by
 obtain⟨j,l,rfl,h⟩:=h;obtain⟨t,rfl⟩:=under_iff.1 h;exact zB4
theorem ZE.sib{m:Nat}(h:ZE (n::π) i)(a: ¬n=m):Id.under (m::π) i=false:=by
 cases b:Id.under (m::π) i with
 |false=>rfl
 |true=>exact absurd (B9 h.up b) a
theorem Mn.up(h:Mn π b i):ZE π i:=by
 obtain⟨n,_,h⟩:=h;exact h.out
theorem Mn.not(h:Mn π b i)(a m:Nat):Id.is (a::m::π) i=false:=by
 obtain⟨n,_,h⟩:=h;exact h.not a m
theorem Mn.sib{m:Nat}(h:Mn π b i)(c:b≤m):Id.under (m::π) i=false:=by
 obtain⟨n,a,h⟩:=h;exact h.sib AA
theorem Mn.mono{c:Nat}(h:Mn π b i)(e:b≤c):Mn π c i:=by
 obtain⟨n,a,h⟩:=h;exact⟨n,AA,h⟩
def xL{α:Type}(C:Abs.Id→Prop)(I:List α→(Abs.Id→Prop)→AD→Prop)(D:Ax→AD→Prop)(π ρ:List Nat)(l:List α)(M:Abs.Id→Prop)(vi:List Abs.Id)(H:AD)(o:Ax)(h':AD):Prop:=
 (o=.ret (.d (.bool (true)))∧ ∃M',I l M' h'∧(∀i,M' i→M i∨i∈vi∨ZE ρ i)∧ ∀i,¬C i→ ¬M i→i∉vi→Id.under ρ i=false→h'.get i=H.get i)∨((o=.ret (.d (.bool (false)))∨ ∃v,o=.ge v)∧D o h'∧ ∀j,Id.under π (0::j)=true→Id.under ρ (0::j)=false→h'.get (0::j)=H.get (0::j))
structure Mj{α:Type}(val:AD→AV→α→Prop)(id:Abs.Id)(C:Abs.Id→Prop)(I:List α→(Abs.Id→Prop)→AD→Prop)(D:Ax→AD→Prop)(π:List Nat):Prop where
 own:C id
 apart: ∀i,C i→Id.under π i=false
 tag: ∀{l:List α} {M:Abs.Id→Prop} {H:AD},I l M H→ ∀i,M i→ ∃l,i=1::l
 loop: ∀{l:List α} {M:Abs.Id→Prop} {H:AD},I l M H→ ∃r,H.get id=some (.loop r)
 eat: ∀{x:α} {l:List α} {M:Abs.Id→Prop} {H:AD} {ρ:List Nat} {v:AV} {r:Lp},I (x::l) M H→H.get id=some (.loop r)→val H v x→(∀i,Id.under π i=false→Id.under ρ i=false)→(∀i,M i→Id.under ρ i=false)→(∀i∈AE v,¬C i∧Id.under ρ i=false∧ZE π i)→
  ∃o h',KL Tryz.prog cfg (.round id r) [v] H ρ true none=.ok (o,h')∧xL C I D π ρ l M (AE v) H o h'
 same: ∀{l:List α} {M:Abs.Id→Prop} {H H':AD},I l M H→(∀i,(Id.under π i=false∨M i)→H'.get i=H.get i)→I l M H'
 sameD: ∀{o:Ax} {H H':AD},D o H→(∀i,(Id.under π i=false∨ ∃l,i=1::l)→H'.get i=H.get i)→D o H'
def Xl{α:Type}(C:Abs.Id→Prop)(I:List α→(Abs.Id→Prop)→AD→Prop)(D:Ax→AD→Prop)(π:List Nat)(M:Abs.Id→Prop)(h:AD)(o:Ax)(h':AD):Prop:=
 (o=.ret (.ii [])∧ ∃M',I [] M' h'∧(∀i,M' i→M i∨ZE π i)∧ ∀i,¬C i→ ¬M i→Id.under π i=false→h'.get i=h.get i)∨(o=.ret (.ii [])∧D (.ret (.d (.bool (false)))) h')∨((∃v,o=.ge v)∧D o h')
variable{α:Type}{val:AD→AV→α→Prop}{C M:Abs.Id→Prop}{I:List α→(Abs.Id→Prop)→AD→Prop}{D:Ax→AD→Prop}{H:AD}
theorem Mj.gcI{id:Abs.Id}(b:Mj val id C I D π){l:List α}(h:I l M H)(n:Nat):I l M (gc (n::π) H):=b.same h fun i a=>by
 rcases a with a|a
 .exact Ah _ _ _ (AI a n)
 .obtain⟨l,rfl⟩:=b.tag h i a;exact HC _ _ _
variable{o:Ax}
theorem Mj.gcD{id:Abs.Id}(b:Mj val id C I D π)(h:D o H)(n:Nat):D o (gc (n::π) H):=b.sameD h fun i a=>by
 rcases a with a|⟨l,rfl⟩
 .exact Ah _ _ _ (AI a n)
 .exact HC _ _ _
theorem xM.toM{id:Abs.Id}{I:List α→AD→Prop}(f:xM val id C I D π):Mj val id C (fun l M H=>(∀i,¬M i)∧I l H) D π:=
 ⟨f.own,f.apart,fun h i c=>(h.1 i c).elim,fun h=>f.loop h.2,fun e h2 j k _ g=>by
  obtain⟨o,h',m,n⟩:=f.eat e.2 h2 j k fun i c=>⟨(g i c).1,(g i c).2.1,(g i c).2.2.up⟩;refine⟨o,h',m,?_⟩;rcases n with⟨p,r,s⟩|q
  .exact .inl ⟨p,_,⟨e.1,r⟩,fun i c=>(e.1 i c).elim,fun i a _ _ b=>s i a b⟩
  .exact .inr q,fun e h2=>⟨e.1,f.same e.2 fun i c=>h2 i (.inl c)⟩,f.sameD⟩
theorem Xl.toE{I:List α→AD→Prop}{h':AD}(c: ∀i,¬M i)(H:Xl C (fun l M H=>(∀i,¬M i)∧I l H) D π M h o h'):iA C I D π h o h':=by
 rcases H with⟨e,M',f,_,g⟩|q
 .exact .inl ⟨e,f.2,fun i a b=>g i a (c i) b⟩
 .exact .inr q
def qh(H:AD)(v:AV)(x:List Int):Prop:= ∃id,v=.f8 id 0 x.length∧H.get id=some (.em 1 (x.map AR))∧ ∃l,id=1::l
structure m3(C:Abs.Id→Prop)(I:List (List Int)→(Abs.Id→Prop)→AD→Prop)(π:List Nat)(M:Abs.Id→Prop)(h:AD)(A:Abs.Id)(many:List Nat)(c:List Int)(L:List (List Int))(a:List Int)(b:Nat)(g:AD):Prop where
 arr:g.get A=some (.em 1 (a.map AR))
 dig:Jd many c
 eat: ∃M',I L M' g∧ ∀i,M' i→M i∨Mn π b i
 frame: ∀i,¬C i→ ¬M i→Id.under π i=false→g.get i=h.get i
theorem wE{c z:List Int}{j:Nat}(b:j<c.length)(x:Int):(c.take (j+1)++z).set j x=c.take j++x::z:=by
 obtain⟨d,a⟩:=get_some b;have e:(c.take j).length=j:=zFK
 rw[F6,a,Dl,List.set_append,Co AA,e,KW];rfl
theorem eI{many:List Nat}(a5:0<many.length)(ch:many.length≤1000)(a1: ∀n∈many,n≤1000000){id:Abs.Id}{C:Abs.Id→Prop}{I:List (List Int)→(Abs.Id→Prop)→AD→Prop}{D:Ax→AD→Prop}{π:List Nat}(p:Mj qh id C I D π){M:Abs.Id→Prop}{h:AD}{B:Abs.Id}(b8:h.get B=some (.box [.d (.bv ((many.map fun(n:Nat)=>(n:Int)).map AR))]))(P:Id.under π B=false)(b3: ¬C B)(a2: ¬M B)(J: ∀i,M i→Id.under π i=false)(Q:I (CN many) M h):
 ∃o h',KL Tryz.prog cfg (.fn 158) [.ws id,.ptr B 0] h π true none=.ok (o,h')∧Xl C I D π M h o h':=by
 have ac:=p.apart;have b6:=AJ P;have c2:=Ak P;have cl:=uQ (many.map fun(n:Nat)=>(n:Int)) (by simpa using a5) Aa;by_cases N:0∈many
 .rw[(bd a5).2 N]at cl;rw[SR N]at Q;refine BT Tryz.func158 ?_;refine aw ?_;exact .inl ⟨rfl,M,Q,fun i f=>.inl f,fun _ _ _ _=>rfl⟩
 .have c4: ¬oo (many.map fun(n:Nat)=>(n:Int))=0:=fun e=>N ((bd a5).1 e);replace Q:=AB Q;replace p:=AB p;replace ac:=AB ac;replace a1:=AB a1;replace J:=AB J;replace a2:=AB a2;refine BT Tryz.func158 ?_;have R:=fun(l:List Int) (ch:l.length=many.length)=>r7 l AA AA;replace R:=AB R
  (repeat' (first|simp only[go_sem, *]|(refine sx ?_ ?_<;>intro ar)|refine sy AA fun x c6 a1=>?_|simp(disch:=first|assumption|omega) only[AU,FL]))
  refine rounds (S:=fun(a:(List Int×AD)×Nat)=>⟨[(0,.ws id),(1,.ptr B 0),(3,.f8 (1::5::π) 0 many.length)],a.1.2,a.2+7,[]⟩)
   (Inv:=fun a=>AH (m3 C I π M h (1::5::π) many a.1.1 (KX many a.1.1) a.1.1 (a.2+7) a.1.2)) (m:=fun a=>(KX many a.1.1).length) (a:=((Gf many.length,_),0)) ⟨?_⟩ ?_
  .refine⟨?_,NA N,⟨M,?_,fun i f=>.inl f⟩,fun i w _ k=>?_⟩
   .show(h.put (1::5::π) _).get (1::5::π)=_;rw[get_put,is_self];rfl
   .rw[Rm N];exact p.out.same Q.out fun i f=>by rw[get_put,AJ (f.elim (fun h=>h) (J.out i)) 1 5];rfl
   .show(h.put (1::5::π) _).get i=_;rw[get_put,AJ k 1 5];rfl
  .rintro⟨⟨c,g⟩,b⟩ u IH;dsimp only at*;have ad:=u.out.arr;have R:=R.out c (u.out.dig.len);have b':=u.out.dig.len;have ag:g.get B=_:=(u.out.frame B b3 a2.out P).trans b8;obtain⟨A,ai,K⟩:=u.out.eat;have a3: ∀i,¬M i→Id.under π i=false→ ¬A i:=fun i w k X=>by
    rcases K i X with q|q
    .exact w q
    .rw[q.up.up]at k;cases k
   have a4: ∀m,b+7≤m→ ∀i,A i→Id.under (m::π) i=false:=fun m h i f=>(K i f).elim (fun q=>AI (J.out i q) m) fun q=>q.sib h;have a7: ∀i,A i→Id.is (1::5::π) i=false:=fun i f=>(K i f).elim (fun q=>AJ (J.out i q) 1 5) fun q=>q.not 1 5;have fa:=Z8 c;have de:List.take many.length (c.map AR)=c.map AR:=By Aa;have b5:=ac.out id p.out.own;have c7:=AJ b5;have cx:Id.is (1::5::(b+9)::π) id=false:=AJ (AI b5 (b+9)) 1 5;obtain⟨r,bs⟩:=p.out.loop ai;obtain⟨Y,V⟩: ∃t,t=cf many (Ku many c):=⟨_,rfl⟩;obtain⟨Z,bc⟩:=pt u.out.dig N;rw[←V]at Z;have cp:=AB fun l=>p.out.same (l:=l) (M:=A) (H:=g) (H':=(1::5::(b+9)::π,.em 1 (c.map AR))::g);have a0:=ai;rw[Z]at a0;replace a0:=AB a0;replace ai:=AB ai;replace K:=AB K;replace a3:=AB a3;replace a4:=AB a4;replace a7:=AB a7;replace Z:=AB Z;replace bc:=AB bc;replace V:=AB V;refine ax ?_;refine Ad (p.out.eat (x:=c) (l:=Y) (cp.out _ a0.out fun i f=>?_) (by simp only[go_sem,cx,bs,AM]) ⟨_,by rw[b'],by simp only[go_sem],_,rfl⟩ (fun i f=>AI f _) (a4.out _ AA) (fun i f=>?_)) (fun dd g1 s=>?_)
   .have q:=AJ (f.elim (fun h=>AI h (b+9)) (a4.out _ AA i)) 1 5;exact zBr
   .simp only[AE,Ac]at f;subst f;exact⟨fun ar=>(by have:=ac.out _ ar;rw[show Id.under π (1::5::(b+9)::π)=true from Ay [1,5,b+9]]at this;cases this),Kd _ _ _ _ _ AA,5,(b+9)::π,rfl,Ay [b+9]⟩
   rcases s with⟨rfl,F,s,bx,b4⟩|⟨c0,s,_⟩
   .have W: ∀i,F i→M i∨Mn π (b+11) i:=fun i f=>by
     rcases bx i f with q|q|q
     .exact(K.out i q).imp_right fun q=>q.mono AA
     .simp only[AE,Ac]at q;subst q;exact .inr ⟨b+9,AA,5,_,rfl,Ay []⟩
     .exact .inr ⟨b+10,AA,q⟩
    have a': ∀i,F i→Id.is (1::5::π) i=false:=fun i f=>(W i f).elim (fun q=>AJ (J.out i q) 1 5) fun q=>q.not 1 5;have b0: ¬A (1::5::π):=fun h=>by have:=a7.out _ h;rw[is_self]at this;cases this
    have b1:=a3.out B a2.out P;have fr: ∀i,¬C i→ ¬A i→Id.under ((b+10)::π) i=false→Id.is (1::5::(b+9)::π) i=false→(gc ((b+10)::π) g1).get i=g.get i:=fun i w O k X=>by
     rw[Ah _ _ _ k,b4 i w O (fun h=>by simp only[AE,Ac]at h;rw[h,is_self]at X;cases X) k,CK,X];rfl
    have bk:=(fr B b3 b1 (AI P _) (AJ (AI P (b+9)) 1 5)).trans ag;have bi:=(fr (1::5::π) (fun ar=>by have:=ac.out _ ar;rw[show Id.under π (1::5::π)=true from Ay [1,5]]at this;cases this) b0 (Ik _ _ _ _ AA) (AF AG)).trans ad;have be:AH (∀i,¬C i→ ¬M i→Id.under π i=false→(gc ((b+10)::π) g1).get i=h.get i):=⟨fun i w O k=>(fr i w (a3.out i O k) (AI k _) (AJ (AI k (b+9)) 1 5)).trans (u.out.frame i w O k)⟩;clear b4 fr bx b0 b1;replace W:=AB W;replace a':=AB a';replace s:=AH.mk (p.out.gcI s (b+10));refine ax ?_;have bl:=AB u.out.dig;replace u:=AB u;refine rounds (S:=fun(a:(Nat×AD)×Nat)=>⟨[(0,.ws id),(1,.ptr B 0),(3,.f8 (1::5::π) 0 many.length),(4,nI ((a.1.1:Int)-1))],a.1.2,b+a.2+16,[]⟩)
     (Inv:=fun a=>a.1.1≤many.length∧AH (jH many c a.1.1)∧a.1.2.get (1::5::π)=some (.em 1 ((c.take a.1.1++Gf (many.length-a.1.1)).map AR))∧a.1.2.get B=some (.box [.d (.bv ((many.map fun(n:Nat)=>(n:Int)).map AR))])∧AH (I Y F a.1.2∧ ∀i,¬C i→ ¬M i→Id.under π i=false→a.1.2.get i=h.get i)) (m:=fun a=>a.1.1) (a:=((many.length,_),0)) ⟨Es _,⟨fun t a6 h2=>absurd h2 (Nat.not_lt.2 a6)⟩,?_,bk,⟨s.out,be.out⟩⟩ ?_
    .show(gc ((b+10)::π) g1).get (1::5::π)=some (.em 1 ((c.take many.length++Gf (many.length-many.length)).map AR));rw[bi,KW,Gf,List.replicate_zero,CI,By AA]
    clear bi bk s be ad ag bs R;rintro⟨⟨j,g2⟩,b2⟩ ⟨hj,hend,ad,ag,hI3⟩ IH2;dsimp only at*;rcases j with _|j
    .have cn:AH (Y=[]):=⟨by rw[V.out,XC bl.out hend.out];rfl⟩;refine ax ?_;all_goals first
     |omega
     |exact .inl ⟨rfl,F,by have:=hI3.out.1;rwa [cn.out]at this,fun i f=>(W.out i f).imp_right fun q=>q.up,hI3.out.2⟩
    .obtain⟨d,az⟩:=get_some (l:=c) (i:=j) AA;obtain⟨n,T⟩:=get_some (l:=many) (i:=j) AA;obtain⟨a,y⟩: ∃a,a=c.take (j+1)++Gf (many.length-(j+1)):=⟨_,rfl⟩;have al:a.length=many.length:=by rw[y,CE,F1,Gf,I7];omega
     have c1:a[j]? =some d:=by rw[y,Ce zFK,I6,D5 AA,az]
     rw[←y]at ad;have b7:(((j+1:Nat):Int)-1)=j:=AA;have c3:(many.map fun(n:Nat)=>(n:Int))[j]? =some (n:Int):=by rw[D7,T];rfl
     have c5:=a1.out n (AS T);have df:IntKind.i64.wrap ((n:Int)-1)=(n:Int)-1:=wrap_id AA AA;have c9:j<many.length:=AA;have c8: ¬(j:Int)<0:=AA;replace y:=AB y;rw[b7];have put: ∀o,AH (I Y F (g2.put (1::5::π) o)∧(g2.put (1::5::π) o).get B=some (.box [.d (.bv ((many.map fun(n:Nat)=>(n:Int)).map AR))])∧ ∀i,¬C i→ ¬M i→Id.under π i=false→(g2.put (1::5::π) o).get i=h.get i):=fun o=>⟨p.out.same hI3.out.1 (fun i f=>by rw[get_put,f.elim (fun h=>AJ h 1 5) (a'.out i)];rfl),by rw[get_put,b6];exact ag,fun i w O k=>by rw[get_put,AJ k 1 5];exact hI3.out.2 i w O k⟩;have L:=bl.out;by_cases bo:d=(n:Int)-1
     .have z: ∀x:Int,(a.map AR).set j [.int .i64 x]=(c.take j++x::Gf (many.length-(j+1))).map AR:=fun x=>by
       rw[←wE AA,←y.out,JP];rfl
      replace z:=AB z;replace put:=AB put;replace L:=AB L;refine ax ?_;rw[z.out];refine IH2.out ((j,_),b2+21) AG ⟨AZ,⟨fun t a6 h2=>?_⟩,?_,(put.out _).out.2.1,⟨(put.out _).out.1,(put.out _).out.2.2⟩⟩
      .by_cases cs:t=j
       .subst cs;exact⟨d,n,az,T,bo⟩
       .exact hend.out t (by dsimp only at a6;omega) h2
      .show(g2.put (1::5::π) _).get (1::5::π)=some (.em 1 ((c.take j++Gf (many.length-j)).map AR));rw[get_put,is_self,show many.length-j=(many.length-(j+1))+1 by omega];rfl
     .have U:=pB L hend.out az T bo;have z: ∀x:Int,(a.map AR).set j [.int .i64 x]=(c.take j++x::Gf (many.length-(j+1))).map AR:=fun x=>by
       rw[←wE AA,←y.out,JP];rfl
      have dm:IntKind.i64.wrap (d+1)=d+1:=by
       have:=sH L az T;exact wrap_id AA AA
      obtain⟨c',av⟩: ∃t,t=c.take j++(d+1)::Gf (many.length-(j+1)):=⟨_,rfl⟩;rw[←av]at U;have bv:AH (Y=KX many c'):=⟨by rw[V.out,U];rfl⟩;have cc:=AH.mk (bc.out c' U);replace z:=AB z;replace put:=AB put;replace L:=AB L;replace U:=AB U;replace av:=AB av;refine ax ?_;rw[z.out,←av.out];refine IH.out ((c',_),b+b2+32) ?_ ⟨?_,cc.out,⟨F,by rw[←bv.out];exact(put.out _).out.1,fun i f=>(W.out i f).imp_right fun q=>q.mono AZ⟩,(put.out _).out.2.2⟩
      .dsimp only;rw[Z.out,←bv.out];simp
      .dsimp only;rw[get_put,is_self];rfl
   .replace s:=AH.mk (p.out.gcD s (b+10));rcases c0 with rfl|⟨v,rfl⟩
    .refine ax ?_;exact .inr (.inl ⟨rfl,s.out⟩)
    .refine ax ?_;exact .inr (.inr ⟨⟨v,rfl⟩,s.out⟩)
theorem tT{p:AX}(b:KA p sz h m V st)(c:Bz ρ V m)(l:GD p sz st.d8)(a:Q2 p sz st.d8 w x):
 ∃o h',KL Tryz.prog cfg (.fn 93) [.ptr m 0,.agg [nI w.at_,nI w.node,.d (.bv (w.env.map AN))]] h ρ true (some ρ)=.ok (o,h')∧o=.ret (.d (.bool (qr p st.d8 w))):=by
 have f:=b.box;simp only[BK]at f;have q:=c m (V.m_mem m);have I:=AJ q;have J:=Ak q;have g:=a.node;have M:=a.n0;have P:=AL g;rw[jq g];by_cases k:x.op=7
 .refine BT Tryz.func93 ?_;exact au
 obtain⟨v,O,z,e⟩:=a.val k;have⟨n0,n1⟩:=a.n k;rw[z];by_cases s:v.kind=4
 .obtain⟨t,y,A,B⟩:=e s;obtain⟨r0,C⟩:=t;have u:=l.small;simp only[BX.small,AP,Ap]at u;obtain⟨D,T⟩:=a.at_;have L:=Xh st.d8.ac v.n w.at_ AA l.tree ⟨r0,C⟩ D
  obtain⟨S,W,j,r,U,Q,R⟩:=FC (b.sl 0 AA) A;have n:=c S (V.s_mem m (i:=0) AA (by rw[j];simp[AE]));have F:=AJ n;have H:=Ak n;rw[j]at f;simp only[Dm]at r;replace b:=AB b;replace c:=AB c;by_cases N:x.op=8;all_goals
   rw[B];clear e;refine BT Tryz.func93 ?_
   (repeat' (first|simp only[go_sem, *,AM]|(refine sx ?_ ?_<;>intro K)|refine sy AA fun x g f=>?_|simp(disch:=first|assumption|omega) only[AU]))
   all_goals first|done|simp[*]
 .clear e;refine BT Tryz.func93 ?_;exact au
end Go.Proofs
namespace Go.Abs
def R3(ds:List Df):Prop:= ∀d∈ds,∃id,d=.mark id
theorem W3:R3 []=True:=by simp[R3]
theorem UX(id:Id)(ds:List Df):R3 (.mark id::ds)=R3 ds:=by simp[R3]
theorem SK{C:DD}{ci:Option (List Nat)}{p:Option AV}{h:AD}: ∀{ds:List Df},R3 ds→Dr C ci ds p h=.ok (p,h)
 |[],_=>rfl
 |d::ds,hd=>by
  obtain⟨id,rfl⟩:=hd d AG;rw[UK];exact SK fun d a=>hd d zEd
attribute [go_sem] W3 UX SK
theorem lZ(id:Id):(AV.ws id).cells=[.ws id]:=rfl
theorem rr(id:Id):AV.isCell (.ws id)=true:=rfl
attribute [go_sem] lZ rr
end Go.Abs
namespace Go.Proofs
open Go Go.Abs
set_option maxRecDepth 100000
set_option maxHeartbeats 4000000
def jL(H:AD)(v:AV)(x:Dp):Prop:= ∃pv,v=.agg [nI x.wait,nI x.group,nI x.rt,pv]∧((pv=.d7∧x.kw=[])∨qh H pv x.kw)
def Nt(π:List Nat)(i:Abs.Id):Prop:= ∀a n,Id.is (a::n::π) i=false
def Fd{α:Type}(I:List α→(Abs.Id→Prop)→AD→Prop)(π:List Nat)(M:Abs.Id→Prop)(b:Nat)(L:List α)(g:AD):Prop:= ∃M',I L M' g∧ ∀i,M' i→M i∨Mn π b i
section
variable{α:Type}{val:AD→AV→α→Prop}{id:Abs.Id}{C M M':Abs.Id→Prop}{I:List α→(Abs.Id→Prop)→AD→Prop}{D:Ax→AD→Prop}{π:List Nat}{b b':Nat}{L:List α}{g G:AD}
theorem ZE.wide{ρ:List Nat}{i:Abs.Id}(b: ∀i,Id.under π i=false→Id.under ρ i=false)(h:ZE ρ i):ZE π i:=by
 obtain⟨j,l,rfl,h⟩:=h;refine⟨j,l,rfl,?_⟩;cases a:Id.under π l with
 |true=>rfl
 |false=>rw[b l a]at h;cases h
theorem Yi(c: ∀i,M i→Id.under π i=false)(h: ∀i,M' i→M i∨Mn π b i)(i:Abs.Id)(a:Id.under π i=false∨M' i):Nt π i:=by
 rcases a with a|a
 .exact AJ a
 .rcases h i a with q|q
  .exact AJ (c i q)
  .exact q.not
theorem vB(h: ∀i,M' i→M i∨Mn π b i)(i:Abs.Id)(c: ¬M i)(a:Id.under π i=false): ¬M' i:=fun e=>by
 rcases h i e with q|q
 .exact c q
 .rw[q.up.up]at a;cases a
theorem Vn(a: ∀i,M i→Id.under π i=false)(h: ∀i,M' i→M i∨Mn π b i){m:Nat}(e:b≤m)(i:Abs.Id)(c:M' i):Id.under (m::π) i=false:=(h i c).elim (fun q=>AI (a i q) m) fun q=>q.sib e
theorem Fd.mv(e:Mj val id C I D π)(f: ∀i,M i→Id.under π i=false)(h:Fd I π M b L g)(k: ∀i,Nt π i→G.get i=g.get i)(j:b≤b'):Fd I π M b' L G:=by
 obtain⟨M',c,h2⟩:=h;exact⟨M',e.same c fun i a=>k i (Yi f h2 i a),fun i a=>(h2 i a).imp_right fun q=>q.mono j⟩
theorem Fd.gc(c:Mj val id C I D π)(h:Fd I π M b L g)(n:Nat):Fd I π M b L (gc (n::π) g):=by
 obtain⟨M',a,h2⟩:=h;exact⟨M',c.gcI a n,h2⟩
end
structure StepsIn(C M:Abs.Id→Prop)(π:List Nat)(h:AD)(id:Abs.Id)(E:AD→Prop)(g:AD):Prop where
 box:g.get (0::0::π)=some (.box [.ws id])
 eat:E g
 frame: ∀i,¬C i→ ¬M i→Id.under π i=false→g.get i=h.get i
structure Xr(C M:Abs.Id→Prop)(π:List Nat)(h:AD)(id:Abs.Id)(b c:Nat)(i k:Int)(gr:A8)(E:AD→Prop)(g:AD):Prop where
 st:StepsIn C M π h id E g
 x6:g.get (0::(b+20)::π)=some (.box [nI i])
 x7:g.get (0::(b+21)::π)=some (.box [nI gr.f9,nI gr.at_,.d (.bv (gr.env.map AN))])
 x8:g.get (0::(c+40)::π)=some (.box [nI k])
variable{C M:Abs.Id→Prop}{D:Ax→AD→Prop}{π:List Nat}{h H:AD}{b:Nat}{i k:Int}{gr:A8}
theorem Xr.loc{I:List Dp→(Abs.Id→Prop)→AD→Prop}{id:Abs.Id}(m:Mj jL id C I D π)(o: ∀i,M i→Id.under π i=false){c B:Nat}{L:List Dp}{g:AD}(a:Xr C M π h id b c i k gr (Fd I π M B L) g)(f: ∀x,(∀n,Id.is (1::n::π) x=false)→H.get x=g.get x):Xr C M π h id b c i k gr (Fd I π M B L) H:=by
 have e: ∀l,H.get (0::l)=g.get (0::l):=fun l=>f _ fun n=>AF AG;exact⟨⟨(e _).trans a.st.box,a.st.eat.mv m o (fun i p=>f i fun n=>p 1 n) (Es _),fun i r q j=>(f i fun n=>AJ j 1 n).trans (a.st.frame i r q j)⟩,(e _).trans a.x6,(e _).trans a.x7,(e _).trans a.x8⟩
theorem Xr.mv{id:Abs.Id}{c:Nat}{E f:AD→Prop}{g:AD}(a:Xr C M π h id b c i k gr E g)(o:f H)(e: ∀n,n=0∨n=b+20∨n=b+21∨n=c+40→H.get (0::n::π)=g.get (0::n::π))(p: ∀i,¬C i→ ¬M i→Id.under π i=false→H.get i=g.get i):Xr C M π h id b c i k gr f H:=
 ⟨⟨(e _ AG).trans a.st.box,o,fun i l j m=>(p i l j m).trans (a.st.frame i l j m)⟩,(e _ AG).trans a.x6,(e _ AG).trans a.x7,(e _ AG).trans a.x8⟩
theorem oM{K:Ab}{ci:Option (List Nat)}{ρ b:List Nat}{a:Abs.Id}{e:CB}{c:Nat}{ds:List Df}{Q:Ea→St→Prop}{t:B0}{args:List AV}{x:Abs.Id×Abs.Obj}{r:Lp}(g: ∀f,f=r→Ib ρ b a e c ds Q (K t args (x::H.put a (.loop f)) b true ci)):Ib ρ b a e c ds Q (K t args (x::H.put a (.loop r)) b true ci):=g r rfl
theorem Zl(L:List Int)(k:Nat)(ρ:List Nat):BU (KL Tryz.prog cfg) 96 [.d (.bv (L.map AR))] (k::ρ)=.ok (.ret (.fn 158 [] [.ptr (0::0::k::ρ) 0]),[(0::0::k::ρ,.box [.d (.bv (L.map AR))])]):=by
 refine A7 Tryz.func96 ?_;exact au
theorem qF{p:AX}{sz:List Int}(a6:BO p sz){h:AD}{π:List Nat}{m:Abs.Id}{V:MV}{st:CT}(a7:KA p sz h m V st)(ac:Bz π V m)(X:GD p sz st.d8){id:Abs.Id}{C:Abs.Id→Prop}{I:List Dp→(Abs.Id→Prop)→AD→Prop}{D:Ax→AD→Prop}(z:Mj jL id C I D π)(b2: ∀i∈V.ids m,¬C i){M:Abs.Id→Prop}(b4: ∀i∈V.ids m,¬M i)(T: ∀i,M i→Id.under π i=false)(Q:I (CD p st.d8) M h):
 ∃o h',KL Tryz.prog cfg (.fn 52) [.ptr m 0,.ws id] h π true none=.ok (o,h')∧Xl C I D π M h o h':=by
 have b7:=z.apart;have a0:=a7.box;simp only[BK]at a0;have e8:=ac m (V.m_mem m);have ht:=AJ e8;have jd:=Ak e8;have ha:=X.small;simp only[BX.small,AP,Ap]at ha;obtain⟨ke,ki,kk,kl⟩:=ha;have f9:=Ek (a7.sl 2 AA);simp only[Av,As]at f9;have uid:=b7 id z.own;have h7:=AJ uid;replace a7:=AB a7;replace ac:=AB ac;replace z:=AB z;replace b2:=AB b2;replace b4:=AB b4;replace T:=AB T;replace b7:=AB b7;replace X:=AB X;refine BT Tryz.func52 ?_
 (repeat' (first|simp only[go_sem, *,↓f9,AM]|(refine sx ?_ ?_<;>intro U)|refine sy AA fun x ad a0=>?_|simp(disch:=first|assumption|omega) only[AU]))
 have f4:AH (CD p st.d8=Ck p st.d8 0 st.d8.waits++C7 p st.d8 0 st.d8.ce):=⟨rfl⟩;obtain⟨G,fv⟩: ∃G,G=C7 p st.d8 0 st.d8.ce:=⟨_,rfl⟩;rw[←fv]at f4;rw[f4.out]at Q;replace Q:=AB Q;refine An st.d8.waits _ (S:=fun b6 i (a:AD×Nat)=>⟨[(0,.ptr m 0),(3,.ptr (0::0::π) 0),(13,CB.get [] 13),(18,V.s 2),(19,nI b6),(20,nI i),(102,CB.get [] 102),(103,CB.get [] 103),(104,CB.get [] 104),(105,CB.get [] 105),(106,CB.get [] 106),(107,CB.get [] 107),(108,CB.get [] 108),(109,CB.get [] 109)],a.1,a.2+8,[]⟩)
  (Inv:=fun i bx a=>AH (StepsIn C M π h id (Fd I π M (a.2+8) (Ck p st.d8 i bx++G)) a.1)) (b0:=(_,0)) rfl ⟨⟨?_,⟨M,z.out.same Q.out fun i f=>?_,fun i f=>.inl f⟩,fun i F _ u=>?_⟩⟩ ?_ ?_
 .simp only[go_sem]
 .have q:=AJ (f.elim (fun h=>h) (T.out i));exact zBr
 .have q:=AJ u;exact zBr
 .rintro i w ⟨g,b⟩ cl f f7 K b8;dsimp only at*;obtain⟨x,hb⟩:=Ob a6 (X.out.wait w (AS cl));have J:=Bx a7.out (h':=g) fun i f=>K.out.frame i (b2.out i f) (b4.out i f) (ac.out i f);obtain⟨W,i2,a',ea,hk,hc,hd⟩:=FC (J.sl 2 AA) cl;have d6:=ac.out W (V.s_mem m (i:=2) AA (by rw[a'];simp[AE]));have cs:=AJ d6;have cx:=Ak d6;have c9:=K.out.box;simp only[Dm]at ea;rw[a']at b8⊢;replace J:=AB J;replace a':=AB a';have h5:=AB hb;clear hb;have g5:=AB fun H de=>tT (E8 J.out ac.out (h':=H) de) (ac.out.ext (b+17)) X.out h5.out;have d9:=AB K.out.box;obtain⟨d8,a4,b3⟩:=K.out.eat;have hg:=AH.mk (Yi T.out b3);have hf:=AH.mk (vB b3);have it:=AB fun(m:Nat) (a0:b+8≤m)=>Vn T.out b3 a0;have bs: ∀l,¬d8 (0::l):=fun l f8=>by obtain⟨ex,h2⟩:=z.out.tag a4 _ f8;cases h2
  replace bs:=AB bs;replace b3:=AB b3;rw[Ck]at a4;obtain⟨bx,d3⟩: ∃t,t=Ck p st.d8 (i+1) (st.d8.waits.drop (i+1))++G:=⟨_,rfl⟩;have g2:=AB K.out.frame;obtain⟨r,b5⟩:=z.out.loop a4;rw[Dl,←d3]at a4;replace a4:=AB a4;replace d3:=AB d3;have en:=Ds uid;refine ax ?_;refine Dz (g5.out _ fun i f=>?_) (fun Y g1 s=>?_)
  .have q:=AJ f;exact zBr
  subst s;replace K:=AB K;clear g5;have a2: ∀o o':Abs.Obj,∀i,Nt π i→((g.put (0::(b+12)::π) o).put (0::(b+12)::π) o').get i=g.get i:=fun o o' i f=>by
   rw[get_put,get_put,f];rfl
  replace a2:=AB a2;cases az:qr p st.d8 w with
  |true=>
   rw[az]at a4;replace az:=AB az;refine ax ?_;refine Ad (z.out.eat (x:=⟨i,0,0,[]⟩) (l:=bx) (z.out.same a4.out fun i f=>a2.out _ _ i (hg.out i f)) (by rw[a2.out _ _ _ (AJ uid)];exact b5) ⟨_,rfl,.inl ⟨rfl,rfl⟩⟩ (fun i f=>AI f _) (it.out _ AA) (fun i f=>by simp[AE,BB]at f)) (fun Y g1 s=>?_);rcases s with⟨rfl,bi,s,he,Z⟩|⟨gn,s,_⟩
   .have cn:AH (∀i,bi i→M i∨Mn π (b+23) i):=⟨fun i f=>by
     rcases he i f with q|q|q
     .exact(b3.out i q).imp_right fun q=>q.mono AA
     .simp[AE,BB]at q
     .exact .inr ⟨b+22,AA,q⟩⟩
    have hu:AH (∀i,¬C i→ ¬M i→Id.under π i=false→(gc ((b+22)::π) g1).get i=h.get i):=⟨fun i F N u=>by rw[Ah _ _ _ (AI u _),Z i F (hf.out i N u) zFj (AI u _),a2.out _ _ i (AJ u)];exact g2.out i F N u⟩;have e1: ¬C (0::0::π):=fun U=>by have:=b7.out _ U;rw[show Id.under π (0::0::π)=true from Ay [0,0]]at this;cases this
    have ho:(gc ((b+22)::π) g1).get (0::0::π)=some (.box [.ws id]):=by
     rw[Ah _ _ _ (BR π AA),Z _ e1 (bs.out _) zFj (BR π AA)];rw[get_put,get_put,AF AG];exact d9.out
    clear Z he;replace d9:=AB ho;replace s:=AH.mk (z.out.gcI s (b+22));refine ax ?_;refine b8.out (_,b+19) ⟨⟨d9.out,⟨bi,?_,fun i f=>(cn.out i f).imp_right fun q=>q.mono AZ⟩,hu.out⟩⟩;rw[←d3.out];exact s.out
   .replace s:=AH.mk (z.out.gcD s (b+22));rcases gn with rfl|⟨v,rfl⟩
    .refine ax ?_;exact .inr (.inl ⟨rfl,s.out⟩)
    .refine ax ?_;exact .inr (.inr ⟨⟨v,rfl⟩,s.out⟩)
  |false=>
   rw[az]at a4;replace az:=AB az;refine ax ?_;refine b8.out (_,b+19) ⟨⟨?_,⟨d8,?_,fun i f=>(b3.out i f).imp_right fun q=>q.mono AZ⟩,fun i F N u=>(a2.out _ _ i (AJ u)).trans (g2.out i F N u)⟩⟩
   .dsimp only;rw[get_put,get_put,AF AG];exact d9.out
   .rw[←d3.out];exact z.out.same a4.out fun i f=>a2.out _ _ i (hg.out i f)
 .rintro i ⟨g,b⟩ f f7 K;dsimp only at*;have J:=Bx a7.out (h':=g) fun i f=>K.out.frame i (b2.out i f) (b4.out i f) (ac.out i f);have O:=J.box;simp only[BK]at O;have c9:=K.out.box;have dq:=Ek (J.sl 1 AA);simp only[Av,As]at dq;replace J:=AB J;rw[Ck,Bi,fv]at K;clear Q f4 fv f9 f
  (repeat' (first|simp only[go_sem, *,↓dq,AM]|(refine sx ?_ ?_<;>intro U)|refine sy AA fun x ad a0=>?_|simp(disch:=first|assumption|omega) only[AU]))
  refine An st.d8.ce _ (S:=fun b6 i (a:AD×Nat×List Df)=>⟨[(0,.ptr m 0),(3,.ptr (0::0::π) 0),(13,CB.get [] 13),(40,V.s 1),(41,nI b6),(42,nI i),(102,CB.get [] 102),(103,CB.get [] 103),(104,CB.get [] 104),(105,CB.get [] 105),(106,CB.get [] 106),(107,CB.get [] 107),(108,CB.get [] 108),(109,CB.get [] 109)],a.1,a.2.1+16,a.2.2⟩)
   (Inv:=fun i bx a=>AH (StepsIn C M π h id (Fd I π M (a.2.1+16) (C7 p st.d8 i bx)) a.1)∧R3 a.2.2) (b0:=(_,b,[])) rfl ⟨⟨⟨K.out.box,K.out.eat.mv z.out T.out (fun _ _=>rfl) AZ,K.out.frame⟩⟩,by rw[W3];trivial⟩ ?_ ?_
  .clear J O c9 dq K;clear f7 i g;clear b;rintro i gr ⟨g,b,ds⟩ cl f f7 ⟨K,bo⟩ b8;have b1: ¬b+1=b:=AA;have gu: ¬b=b+1:=AA;dsimp only at*;obtain⟨d,av⟩:=X.out.grp i gr cl;obtain⟨gv,bl⟩:=FX av.f9;have jn:=AL bl;have js:=(CA a6 bl).ok.rules;have J:=Bx a7.out (h':=g) fun i f=>K.out.frame i (b2.out i f) (b4.out i f) (ac.out i f);have O:=J.box;simp only[BK]at O;obtain⟨W,i2,a',ea,hk,hc,hd⟩:=FC (J.sl 1 AA) cl;have d6:=ac.out W (V.s_mem m (i:=1) AA (by rw[a'];simp[AE]));have cs:=AJ d6;have cx:=Ak d6;have c9:=K.out.box;simp only[Dm]at ea;rw[a']at b8⊢;replace J:=AB J;replace a':=AB a';replace av:=AB av;refine ax ?_;have f5:AH (C7 p st.d8 i (gr::st.d8.ce.drop (i+1))=Cb st.d8 d gr i 0 d.rules++C7 p st.d8 (i+1) (st.d8.ce.drop (i+1))):=⟨by rw[C7,av.out.f9]⟩;have a2: ∀Y bv d4 d5:Abs.Obj,∀i,Nt π i→((((g.put (0::(b+20)::π) Y).put (0::(b+21)::π) bv).put (0::(b+20)::π) d4).put (0::(b+21)::π) d5).get i=g.get i:=fun Y bv d4 d5 i f=>by
    rw[get_put,get_put,get_put,get_put,f,f];rfl
   obtain⟨R,g3⟩: ∃R,R=C7 p st.d8 (i+1) (st.d8.ce.drop (i+1)):=⟨_,rfl⟩;rw[←g3]at f5;rw[f5.out]at K;refine An d.rules _ (S:=fun b6 k (a:AD×Nat×List Df)=>⟨[(0,.ptr m 0),(3,.ptr (0::0::π) 0),(6,.ptr (0::(b+20)::π) 0),(7,.ptr (0::(b+21)::π) 0),(13,CB.get [] 13),(40,.f8 W 0 st.d8.ce.length),(41,nI st.d8.ce.length),(42,nI i),(56,.d (.bv (d.rules.map BA))),(57,nI b6),(58,nI k),(102,CB.get [] 102),(103,CB.get [] 103),(104,CB.get [] 104),(105,CB.get [] 105),(106,CB.get [] 106),(107,CB.get [] 107),(108,CB.get [] 108),(109,CB.get [] 109)],a.1,a.2.1+36,a.2.2⟩)
    (Inv:=fun k bx a=>AH (StepsIn C M π h id (Fd I π M (a.2.1+36) (Cb st.d8 d gr i k bx++R)) a.1)∧a.1.get (0::(b+20)::π)=some (.box [nI i])∧a.1.get (0::(b+21)::π)=some (.box [nI gr.f9,nI gr.at_,.d (.bv (gr.env.map AN))])∧b≤a.2.1∧R3 a.2.2) (b0:=(_,b,ds)) rfl ⟨⟨⟨?_,K.out.eat.mv z.out T.out (fun i f=>a2 _ _ _ _ i f) AZ,fun i F N u=>(a2 _ _ _ _ i (AJ u)).trans (K.out.frame i F N u)⟩⟩,?_,?_,Es _,bo⟩ ?_ ?_
   .dsimp only;rw[get_put,get_put,get_put,get_put,AF AG,AF AG];exact c9
   .simp only[go_sem,b1,gu]
   .simp only[go_sem,b1,gu]
   .clear f5 a2 K O c9 ea cs cx hk hc hd;clear J;clear bo ds;rintro k r ⟨a5,c,ds⟩ b5 j0 h1 ⟨a3,x6,x7,hx,bo⟩ fd;dsimp only at*;have a1:=Kz a6 X.out cl av.out (AS b5);have J:=Bx a7.out (h':=a5) fun i f=>a3.out.frame i (b2.out i f) (b4.out i f) (ac.out i f);have O:=J.box;simp only[BK]at O;have dq:=Ek (J.sl 1 AA);have r0:=a1.place.1;have kb:=a1.place.2;obtain⟨y,hyp⟩:=get_some (l:=st.d8.ac) (i:=(gr.place d r.at_).toNat) AA;obtain⟨S,kp,f3,gw,i1,h8,h9⟩:=FC (J.sl 0 AA) hyp;have hj:=ac.out S (V.s_mem m (i:=0) AA (by rw[f3];simp[AE]));have cs:=AJ hj;have cx:=Ak hj;have c1: ¬c+1=c:=AA;have c0: ¬c=c+1:=AA;have g':=AB fun(H:AD) (n:Nat) (de:H.get m=a5.get m)=>OM (ds:=p.defs) (g:=gr) (d:=d) (de.trans O) (AI e8 n) gv bl (CA a6 bl).ok.be (CA a6 bl).ok.ac (Iw av.out) (Jr a6 av.out) r.at_ a1.at0 a1.at1;have c2: ¬c+20=b:=AA;have c3: ¬c+19=b:=AA;have c4: ¬c+21=b:=AA;have c5: ¬b=c+20:=AA;have c6: ¬b=c+19:=AA;have c7: ¬b=c+21:=AA;simp only[Dm]at gw;rw[f3]at O;have e5: ∀Y bv d4 d5:Abs.Obj,∀i,Nt π i→((((a5.put (0::(c+40)::π) Y).put (0::(c+41)::π) bv).put (0::(c+40)::π) d4).put (0::(c+41)::π) d5).get i=a5.get i:=fun Y bv d4 d5 i f=>by
     rw[get_put,get_put,get_put,get_put,f,f];rfl
    replace J:=AB J;replace a1:=AB a1;refine ax ?_;refine Dj (g'.out _ _ ?_) (fun Y g1 s=>?_)
    .simp only[go_sem,ht,AM]
    subst s;cases gm:y.dead with
    |true=>
     have h6:AH (Fd I π M (c+36) (Cb st.d8 d gr (i:Nat) (k+1) (d.rules.drop (k+1))++R) a5):=⟨by
      have:=a3.out.eat
      rwa [Cb,EO,D5 (by rw[Al,hyp];exact gm),BY,Bi]at this⟩
     refine ax ?_;refine fd.out (_,c+23,ds) ⟨⟨⟨?_,h6.out.mv z.out T.out (fun i f=>e5 _ _ _ _ i f) AZ,fun i F N u=>(e5 _ _ _ _ i (AJ u)).trans (a3.out.frame i F N u)⟩⟩,?_,?_,AZ,bo⟩
     .dsimp only;exact zDm
     .simp only[go_sem,x6,c0,c1,c2,c3,c4,c5,c6,c7]
     .simp only[go_sem,x7,c0,c1,c2,c3,c4,c5,c6,c7]
    |false=>
     refine ax ?_;obtain⟨c8,ek⟩: ∃c8,c8=((((a5.put (0::(c+40)::π) (.box [nI 0])).put (0::(c+41)::π) (.box [nI 0,.d7,nI 0])).put (0::(c+40)::π) (.box [nI k])).put (0::(c+41)::π) (.box [nI r.at_,.d (.bv (r.eq.map AR)),nI r.node])):=⟨_,rfl⟩;rw[←ek];have f6: ∀i,Nt π i→c8.get i=a5.get i:=fun i f=>by rw[ek];exact e5 _ _ _ _ i f
     have f1:Xr C M π h id b c i k gr (Fd I π M (c+36) (Cb st.d8 d gr i k (r::d.rules.drop (k+1))++R)) c8:=by
      refine⟨⟨?_,a3.out.eat.mv z.out T.out (fun i f=>f6 i f) (Es _),fun i F N u=>(f6 i (AJ u)).trans (a3.out.frame i F N u)⟩,?_,?_,?_⟩;all_goals rw[ek]
      .exact zDm
      .simp only[go_sem,x6,c0,c1,c2,c3,c4,c5,c6,c7]
      .simp only[go_sem,x7,c0,c1,c2,c3,c4,c5,c6,c7]
      .simp only[go_sem,c0,c1,c2,c3,c4,c5,c6,c7]
     have h3:AH (EO st.d8 d gr r=CN (Bl st.d8 d gr r)):=⟨by rw[EO,Co (by rw[Al,hyp,F3,GO,gm];simp)]⟩;clear f6 e5 O dq gw i1 h8 h9 cs cx hyp a3 x6 x7 ek g' f3 gm;clear J;refine An r.eq _ (S:=fun b6 j (a:(AV×AD)×Nat)=>⟨[(0,.ptr m 0),(3,.ptr (0::0::π) 0),(6,.ptr (0::(b+20)::π) 0),(7,.ptr (0::(b+21)::π) 0),(8,.ptr (0::(c+40)::π) 0),(10,a.1.1),(13,CB.get [] 13),(40,.f8 W 0 st.d8.ce.length),(41,nI st.d8.ce.length),(42,nI i),(56,.d (.bv (d.rules.map BA))),(57,nI d.rules.length),(58,nI k),(77,.d (.bv (r.eq.map AR))),(78,nI b6),(79,nI j),(102,CB.get [] 102),(103,CB.get [] 103),(104,CB.get [] 104),(105,CB.get [] 105),(106,CB.get [] 106),(107,CB.get [] 107),(108,CB.get [] 108),(109,CB.get [] 109)],a.1.2,a.2+62,ds⟩)
      (Inv:=fun j bx a=>AH (Xr C M π h id b c i k gr (Fd I π M (c+36) (Cb st.d8 d gr i k (r::d.rules.drop (k+1))++R)) a.1.2)∧c≤a.2∧AH ((j=0∧a.1.1=.d7)∨ ∃n,0<j∧n<a.2+62∧a.1.1=.f8 (1::n::π) 0 j∧a.1.2.get (1::n::π)=some (.em 1 (((r.eq.take j).map fun q=>((LG st.d8 (gr.own d true q):Nat):Int)).map AR)))) (b0:=((_,_),c)) rfl ⟨⟨f1⟩,Es _,⟨.inl ⟨rfl,rfl⟩⟩⟩ ?_ ?_
     .clear f1 fd a5 c8;rintro j q ⟨⟨v,b'⟩,e⟩ el dn g8 ⟨P,hy,ai⟩ gs;dsimp only at*;obtain⟨N,F,ka,ch,g4,i7,d2⟩:=a1.out.join q (AS el);have J:=Bx a7.out (h':=b') fun i f=>P.out.st.frame i (b2.out i f) (b4.out i f) (ac.out i f);have O:=J.box;simp only[BK]at O;obtain⟨e3,em,gb⟩:=J.be.row _ _ g4;have d0:=Ek gb;rw[As]at d0;have cc:=J.arr;rcases cc with⟨_,cc⟩|⟨A,cc,ji⟩
      .rw[cc]at em;simp at em
      have j':=AL em;have hi:=ac.out A (V.v3_mem m (by rw[cc];simp[AE]));have cs:=AJ hi;have cx:=Ak hi;rw[cc]at O;have x7:=P.out.x7;simp only[Az]at em;have g9:=AB fun(H:AD) (n:Nat) (de:H.get m=b'.get m)=>Yl (ds:=p.defs) (g:=gr) (d:=d) (de.trans O) (AI e8 n) gv bl (CA a6 bl).ok.be (CA a6 bl).ok.ac (Iw av.out) (Jr a6 av.out) true q N zFC;have gi:AH (((r.eq.take (j+1)).map fun q=>((LG st.d8 (gr.own d true q):Nat):Int))=((r.eq.take j).map fun q=>((LG st.d8 (gr.own d true q):Nat):Int))++[(ch.queue.length:Int)]):=⟨by rw[F6,el];simp[d2]⟩;replace d2:=AB d2;replace J:=AB J;replace gb:=AB gb;rcases ai.out with⟨rfl,rfl⟩|⟨n,g7,bc,rfl,az⟩
      .clear ai;have g7:(0:Int)<r.eq.length:=g8
       (repeat' (first|simp only[go_sem, *,↓d0,AM]|(refine sx ?_ ?_<;>intro U)|refine sy AA fun x ad a0=>?_|simp(disch:=first|assumption|omega) only[AU]))
       refine Dj (g9.out _ _ rfl) (fun Y g1 s=>?_);subst s
       (repeat' (first|simp only[go_sem, *,↓d0,AM]|(refine sx ?_ ?_<;>intro U)|refine sy AA fun x ad a0=>?_|simp(disch:=first|assumption|omega) only[AU]))
       refine gs.out ((_,_),e+23) ⟨⟨P.out.loc z.out T.out fun x ad=>?_⟩,AZ,⟨.inr ⟨e+81,AA,AZ,rfl,?_⟩⟩⟩
       .dsimp only;rw[get_put,get_put,ad,ad];rfl
       .rw[gi.out];simp only[go_sem,Rt,BY,Bi]
      .clear ai;obtain⟨L,eb⟩: ∃L,L=(r.eq.take j).map fun q=>((LG st.d8 (gr.own d true q):Nat):Int):=⟨_,rfl⟩;have i9:L.length=j:=by rw[eb,As,F1];omega
       have i':List.take j (L.map AR)=L.map AR:=By Aa;have ja:j+1≤4:=by have:=a1.out.j1;omega
       have hp: ¬e+80=n:=AA;have hq: ¬n=e+80:=AA;have hr: ¬e+81=n:=AA;have hs: ¬n=e+81:=AA;rw[←eb]at gi az;replace eb:=AB eb
       (repeat' (first|simp only[go_sem, *,↓d0,AM]|(refine sx ?_ ?_<;>intro U)|refine sy AA fun x ad a0=>?_|simp(disch:=first|assumption|omega) only[AU]))
       refine Dj (g9.out _ _ rfl) (fun Y g1 s=>?_);subst s
       (repeat' (first|simp only[go_sem, *,↓d0,AM]|(refine sx ?_ ?_<;>intro U)|refine sy AA fun x ad a0=>?_|simp(disch:=first|assumption|omega) only[AU]))
       refine gs.out ((_,_),e+23) ⟨⟨P.out.loc z.out T.out fun x ad=>?_⟩,AZ,⟨.inr ⟨e+81,AA,AZ,rfl,?_⟩⟩⟩
       .dsimp only;rw[get_put,get_put,get_put,ad,ad,ad];rfl
       .rw[gi.out];simp only[go_sem,BE,hp,hq,hr,hs]
     .clear f1;rintro j ⟨⟨v,b'⟩,e⟩ dn g8 ⟨P,hy,ai⟩;dsimp only at*;rcases ai.out with⟨rfl,rfl⟩|⟨n,g7,bc,rfl,az⟩
      .exact absurd a1.out.j0 (by have:=dn.out;omega)
      have ga:AH (((r.eq.take j).map fun q=>((LG st.d8 (gr.own d true q):Nat):Int))=(Bl st.d8 d gr r).map fun(n:Nat)=>(n:Int)):=⟨by rw[dn.out,D3,Bl,List.map_map];rfl⟩;rw[ga.out]at az;have dr:(Bl st.d8 d gr r).length=j:=by rw[Bl,As,dn.out]
      obtain⟨many,d1⟩: ∃many,many=Bl st.d8 d gr r:=⟨_,rfl⟩;rw[←d1]at az dr;have km:List.take j ((many.map fun(n:Nat)=>(n:Int)).map AR)=(many.map fun(n:Nat)=>(n:Int)).map AR:=By Aa;have g4:=Zl (many.map fun(n:Nat)=>(n:Int)) (e+64) π;have j3:j≤many.length:=AA;replace dr:=AB dr;replace d1:=AB d1;replace ga:=AB ga;clear ai;refine ax ?_;refine oM fun r0 gf=>?_;have e1: ∀n,¬C (0::n::π):=fun n U=>by have:=b7.out _ U;rw[show Id.under π (0::n::π)=true from Ay [0,n]]at this;cases this
      obtain⟨d7,ag⟩: ∃d7:List (List Int)→(Abs.Id→Prop)→AD→Prop,d7=fun l bi g=>(Xr C M π h id b c i k gr (I ((l.map fun t=>⟨-1,i,k,t⟩)++(Cb st.d8 d gr i (k+1) (d.rules.drop (k+1))++R)) bi) g∧ ∀i,bi i→M i∨Mn π (e+67) i)∧g.get (0::(e+65)::π)=some (.loop r0):=⟨_,rfl⟩;obtain⟨e',ar⟩: ∃e':Ax→AD→Prop,e'=fun o g=>(o=.ret (.d (.bool (false)))∧D (.ret (.d (.bool (false)))) g∧g.get (0::(e+65)::π)=some (.loop {r0 with state:=.done,wl:=some .ret}))∨((∃v,o=.ge v)∧D o g):=⟨_,rfl⟩
      have fs:Mj qh (0::(e+65)::π) (fun i=>C i∨i=0::(e+65)::π) d7 e' ((e+66)::π):=by
       refine⟨.inr rfl,fun i f=>?_,fun Q=>?_,fun Q=>?_,fun{x l bi H ρ v r} Q b5 ai be f2 g6=>?_,fun Q X=>?_,fun g0 X=>?_⟩
       .rcases f with f|rfl
        .exact AI (b7.out i f) _
        .exact BR π AA
       .rw[ag]at Q;exact z.out.tag Q.1.1.st.eat
       .rw[ag]at Q;exact⟨_,Q.2⟩
       .rw[ag]at Q;obtain⟨⟨P,O⟩,f'⟩:=Q;rw[f']at b5;cases b5;have bs: ∀l,¬bi (0::l):=fun l f8=>by obtain⟨ex,h2⟩:=z.out.tag P.st.eat _ f8;cases h2
        have i0:=AH.mk (Yi T.out O);have ix:=AH.mk (vB O);replace bs:=AB bs;replace O:=AB O;replace f2:=AB f2;obtain⟨j2,rfl,hz,e0,rfl⟩:=ai;rw[CO,DL]at P;have dm:=g6 (1::e0) BJ;have i4:=P.st.box;have i5:=P.x6;have i6:=P.x8;obtain⟨kd,h4⟩:=z.out.loop P.st.eat;have hf: ¬e+65=b+20:=AA;have im: ¬e+65=c+40:=AA;have hv:=AB fun(H':AD) (q: ∀i,Nt π i→H'.get i=H.get i)=>z.out.same P.st.eat fun i f=>q i (i0.out i f);have e7:Id.under ρ (0::(e+65)::π)=false:=be _ (BR π AA);replace P:=AB P;replace be:=AB be;subst gf;refine KZ rfl ?_;clear g6;replace ag:=AB ag;replace ar:=AB ar;refine ax ?_;refine Ad (z.out.eat (hv.out _ fun i f=>?_) (by simp only[go_sem,h7,h4,AM]) ⟨_,rfl,.inr ⟨1::e0,rfl,?_,e0,rfl⟩⟩ (fun i f=>AI (be.out i (AI f _)) _) (fun i f=>AI (f2.out i f) _) (fun i f=>?_)) (fun Y g1 s=>?_)
        .have q:=f;rw[Nt]at q;exact zBr
        .rw[get_put,AF AG];exact hz
        .simp only[AE,BB,Bi,CI,Ac]at f;subst f;exact⟨fun U=>dm.1 (.inl U),AI dm.2.1 _,dm.2.2.out⟩
        have jl: ∀n,¬n=e+65→ ¬n=e+66→ ∀o,(H.put (0::(e+65)::π) o).get (0::n::π)=H.get (0::n::π):=fun n F u o=>by rw[get_put,AF Aa];rfl
        rcases s with⟨rfl,hl,s,cn,Z⟩|⟨gn,s,Z⟩
        .have c':=(Ah (6::ρ) g1 _ (AI e7 _)).trans (Z _ (e1 _) (bs.out _) zFj (AI e7 _));replace cn:=AB cn;rw[get_put,is_self]at c';replace s:=AB s;replace Z:=AB Z;refine ax ?_;have fr: ∀o,∀i,¬C i→ ¬bi i→ ¬i=1::e0→ ¬i=0::(e+65)::π→Id.under ρ i=false→((gc (6::ρ) g1).put (0::(e+65)::π) o).get i=H.get i:=fun o i F N e3 u cp=>by
          rw[get_put,AF (fun e=>u e.symm),Ah _ _ _ (AI cp _),Z.out i F N (by simpa[AE,BB]using e3) (AI cp _),get_put,AF (fun e=>u e.symm)];rfl
         refine .inl ⟨rfl,hl,?_,fun en h0=>?_,fun en F N e3 u=>?_⟩
         rotate_left
         .rcases cn.out en h0 with q|q|q
          .exact .inl q
          .exact .inr (.inl (by simpa[AE,BB]using q))
          .exact .inr (.inr q.out)
         rotate_left
         .rw[ag.out];refine⟨⟨P.out.mv ?_ (fun n bc=>fr _ _ (e1 n) (bs.out _) AG Aa (be.out _ (BR π AA))) fun i F N u=>fr _ _ F (ix.out i N u) (fun e=>by rw[e,dm.2.2.out.up]at u;cases u) (fun e=>by rw[e,show Id.under π (0::_::π)=true from Ay [0,_]]at u;cases u) (be.out _ (AI u _)),fun i f=>?_⟩,?_⟩
          .refine z.out.same s.out fun i f=>?_;rcases f with f|f
           .have q:=AJ f;rw[get_put,q,Ah _ _ _ (AI (be.out _ (AI f _)) _)];rfl
           .obtain⟨ex,rfl⟩:=z.out.tag s.out i f;rw[get_put,AF AG,HC];rfl
          .rcases cn.out i f with q|q|q
           .exact O.out i q
           .simp only[AE,BB,Bi,CI,Ac]at q;subst q;exact .inr ⟨e+66,AA,dm.2.2⟩
           .exact .inr ⟨e+66,AA,q.out.wide be.out⟩
          .rw[get_put,is_self];rfl
         .exact fr _ en (fun h=>F (.inl h)) N (by simpa[AE]using e3) (fun h=>F (.inr h)) u
        .have c':=(Ah (6::ρ) g1 _ (AI e7 _)).trans (Z _ (Ay [0,e+65]) (AI e7 _));rw[get_put,is_self]at c';have es: ∀j,Id.under ((e+66)::π) (0::j)=true→Id.under ρ (0::j)=false→(gc (6::ρ) g1).get (0::j)=H.get (0::j):=fun i F u=>by
          have cp:Id.is (0::(e+65)::π) (0::i)=false:=AF fun fl=>by rw[←fl,BR π AA]at F;cases F
          rw[Ah _ _ _ (AI u _),Z i (BM F) (AI u _),get_put,cp];rfl
         have e4:=z.out.sameD (H':=gc (6::ρ) g1) s fun i f=>by
          rcases f with f|⟨l,rfl⟩
          .exact Ah _ _ _ (AI (be.out _ (AI f _)) _)
          .exact HC _ _ _
         replace es:=AB es;replace e4:=AB e4;clear s Z;rcases gn with rfl|⟨v,rfl⟩
         .refine ax ?_;refine .inr ⟨.inl rfl,?_,fun i F u=>?_⟩
          .rw[ar.out];refine .inl ⟨rfl,z.out.sameD e4.out fun i f=>?_,by rw[get_put,is_self];rfl⟩;rw[get_put,show Id.is (0::(e+65)::π) i=false by
            rcases f with f|⟨l,rfl⟩
            .exact AJ f _ _
            .exact AF AG]
           rfl
          .rw[get_put,AF fun fl=>by rw[←fl,BR π AA]at F;cases F];exact es.out i F u
         .refine ax ?_;exact .inr ⟨.inr ⟨v,rfl⟩,by rw[ar.out];exact .inr ⟨⟨v,rfl⟩,e4.out⟩,es.out⟩
       .rw[ag]at Q⊢;obtain⟨⟨P,O⟩,f'⟩:=Q;have hh: ∀n,¬n=e+66→Id.under ((e+66)::π) (0::n::π)=false:=fun n bc=>BR π bc;exact⟨⟨P.mv (z.out.same P.st.eat fun i f=>X i (f.imp_left fun f=>AI f _)) (fun n bc=>X _ (.inl (hh n AA))) fun i F _ u=>X i (.inl (AI u _)),O⟩,(X _ (.inl (hh _ AA))).trans f'⟩
       .rw[ar]at g0⊢;have key: ∀o,D o _→D o _:=fun o av=>z.out.sameD av fun i f=>X i (f.imp_left fun f=>AI f _);rcases g0 with⟨dd,h2,bk⟩|⟨dd,h2⟩
        .exact .inl ⟨dd,key _ h2,(X _ (.inl (BR π AA))).trans bk⟩
        .exact .inr ⟨dd,key _ h2⟩
      obtain⟨hm,f0,ej⟩:=P.out.st.eat;have e2:=Yi T.out ej;have e6:=z.out.tag f0;have fi:=fun(m:Nat) (a0:c+36≤m)=>Vn T.out ej a0;replace e2:=AB e2;replace e6:=AB e6;replace fi:=AB fi;have gg:d7 (CN many) hm ((0::0::(e+64)::π,Abs.Obj.box [.d (.bv ((many.map fun(n:Nat)=>(n:Int)).map AR))])::(b'.put (1::n::π) (Obj.i7 1 ((many.map fun(n:Nat)=>(n:Int)).map AR))).put (0::(e+65)::π) (.loop r0)):=by
       have N: ∀i,Id.is (1::n::π) i=false→Id.is (0::(e+65)::π) i=false→Id.is (0::0::(e+64)::π) i=false→ ∀o Y bv,AD.get ((0::0::(e+64)::π,o)::(b'.put (1::n::π) Y).put (0::(e+65)::π) bv) i=b'.get i:=fun i F u cp o Y bv=>by
        rw[CK,cp,get_put,u,get_put,F];rfl
       rw[ag];refine⟨⟨P.out.mv (z.out.same (by
        have:=f0;rw[Cb,h3.out,←d1.out,Dl]at this;exact this) fun i f=>?_) (fun im j1=>?_) fun i _ _ f=>?_,fun i f=>(ej i f).imp_right fun q=>q.mono AA⟩,?_⟩
       .refine N i (e2.out i f _ _) (e2.out i f _ _) ?_ _ _ _;rcases f with f|f
        .exact AJ (AI f _) _ _
        .obtain⟨ex,rfl⟩:=e6.out i f;exact AF AG
       .exact N _ (AF AG) (AF Aa) (AF AG) _ _ _
       .exact N i (AJ f _ _) (AJ f _ _) (AJ (AI f _) _ _) _ _ _
       .rw[CK,AF AG,get_put,is_self];rfl
      have ia:0<many.length:=by have:=dr.out;omega
      have ib:many.length≤1000:=by have:=dr.out;have:=dn.out;have:=a1.out.j1;omega
      refine SU (eI ia ib (fun n bc=>?_) fs (B:=0::0::(e+64)::π) ?_ ?_ ?_ (fun hw=>?_) (fi.out _ AA) gg) (fun Y d' s=>?_)
      .rw[d1.out,Bl]at bc;obtain⟨q,el,rfl⟩:=F2.1 bc;obtain⟨_,_,_,ch,_,jj,d2⟩:=a1.out.join q el;rw[d2];omega
      .rw[CK,is_self];rfl
      .cases ad:Id.under ((e+66)::π) (0::0::(e+64)::π)with
       |false=>rfl
       |true=>
        have:=B9 ad (n':=e+64) (under_iff.2 ⟨[0,0],rfl⟩);omega
      .rintro(U|U)
       .have:=b7.out _ U;rw[show Id.under π (0::0::(e+64)::π)=true from Ay [0,0,e+64]]at this;cases this
       .simp at U
      .obtain⟨ex,h2⟩:=e6.out _ hw;cases h2
      rcases s with⟨rfl,hn,s,ih,Z⟩|⟨rfl,s⟩|⟨⟨v,rfl⟩,s⟩
      .clear ih f0 ej;rw[ag]at s;have c':=s.2;replace s:=AB s;replace Z:=AB Z;replace ag:=AB ag;replace ar:=AB ar;clear gg;clear fs;subst gf;refine ax ?_;have df:=s.out.1.1;have gz: ∀i,Id.under ((e+65)::π) i=false→Id.under ((e+66)::π) i=false→(gc ((e+65)::π) (gc ((e+66)::π) d')).get i=d'.get i:=fun i F u=>by rw[Ah _ _ _ F,Ah _ _ _ u]
       have fp: ∀n,n≤c+40→(gc ((e+65)::π) (gc ((e+66)::π) d')).get (0::n::π)=d'.get (0::n::π):=fun n bc=>gz _ (BR π AA) (BR π AA);refine fd.out (_,e+33,_) ⟨⟨⟨(fp _ AA).trans df.st.box,⟨hn,z.out.gcI (z.out.gcI df.st.eat _) _,fun i f=>(s.out.1.2 i f).imp_right fun q=>q.mono AZ⟩,fun i F N u=>(gz i (AI u _) (AI u _)).trans (df.st.frame i F N u)⟩⟩,(fp _ AA).trans df.x6,(fp _ AA).trans df.x7,AZ,by rw[UX];exact bo⟩
      .rw[ar]at s;rcases s with⟨_,s,c'⟩|⟨⟨v,ai⟩,_⟩
       .replace s:=AB s;replace ag:=AB ag;replace ar:=AB ar;clear gg;clear fs;subst gf;refine ax ?_;exact .inr (.inl ⟨rfl,z.out.gcD (z.out.gcD s.out _) _⟩)
       .cases ai
      .rw[ar]at s;rcases s with⟨ai,_⟩|⟨_,s⟩
       .cases ai
       .replace s:=AB s;refine ax ?_;exact .inr (.inr ⟨⟨v,rfl⟩,z.out.gcD (z.out.gcD s.out _) _⟩)
   .rintro k ⟨a5,c,ds⟩ b5 h1 ⟨a3,x6,x7,hx,bo⟩;dsimp only at*;have bk:=a3.out;rw[Cb,Bi]at bk;replace bk:=AB bk;refine ax ?_;refine b8.out (_,c+23,_) ⟨⟨?_⟩,bo⟩;rw[←g3];exact⟨bk.out.box,bk.out.eat.mv z.out T.out (fun _ _=>rfl) AZ,bk.out.frame⟩
  .rintro i ⟨g,i3,ds⟩ f jz ⟨K,bo⟩;dsimp only at*;rw[C7]at K;refine ax ?_;obtain⟨d8,dd,h2⟩:=K.out.eat;exact .inl ⟨rfl,d8,dd,fun i f=>(h2 i f).imp_right fun q=>q.up,K.out.frame⟩
theorem wV{p:AX}{sz:List Int}(c:BO p sz){m:Abs.Id}{V:MV}{st:CT}(f:KA p sz h m V st)(j:Bz π V m)(g:GD p sz st.d8){id:Abs.Id}{I:List Dp→AD→Prop}(b:xM jL id C I D π)(a: ∀i∈V.ids m,¬C i)(e:I (CD p st.d8) h):
 ∃o h',KL Tryz.prog cfg (.fn 52) [.ptr m 0,.ws id] h π true none=.ok (o,h')∧iA C I D π h o h':=by
 obtain⟨o,h',k,l⟩:=qF c f j g b.toM a (M:=fun _=>False) (fun _ _ h=>h) (fun _ h=>h.elim) ⟨fun _ h=>h,e⟩;exact⟨o,h',k,l.toE fun _ h=>h⟩
end Go.Proofs
namespace Go.Proofs
open Go Go.Abs
set_option maxRecDepth 100000
set_option maxHeartbeats 4000000
structure TE(B:MV→Int→List AV)(cc:Bool)(p:AX)(sz:List Int)(π:List Nat)(m:Abs.Id)(V:MV)(h:AD)(st:CT)(d:CG)(g:A8)(r:GH)(t:List Int)(j b:Nat)(v:AV)(H:AD)(V':MV)(s':BX)(L:List Cl):Prop where
 run:Br B cc π m V h b V' ⟨s',st.ev,0⟩ H
 env:TB π H b v L
 out: ∀i∈AE v,i∉V'.ids m
 ne:L=[]→v=.d7
 ol:GD p sz s'
 all:CC d g r.eq t st.d8=(L++(CC d g (r.eq.drop j) (t.drop j) s').1,(CC d g (r.eq.drop j) (t.drop j) s').2)
 ce:s'.ce=st.d8.ce
 ac:s'.ac=st.d8.ac
 nc:s'.be.length=st.d8.be.length
 rest: ∀(i:Nat) c k,j≤i→r.eq[i]? =some c→t[i]? =some k→0≤k∧ ∃q,s'.be[(g.own d true c).toNat]? =some q∧k.toNat<q.queue.length∧q.queue.length≤12∧EE p s' q=((d.be[c.toNat]?).map IL.many).getD 0
 len:L.length≤30*j
abbrev Sr(p:AX)(sz:List Int):=TE (BK p sz) true p sz
variable{sz:List Int}{n a:Nat}{q:Gp}{msg:List Cl}
theorem Yh{p:AX}{s:BX}{d:CG}{c:Int}(g:Oi d)(k:GD p sz s)(j:s.be[n]? =some q)(i:q.queue[a]? =some msg)(h:EE p s q=((d.be[c.toNat]?).map IL.many).getD 0):msg.length≤3:=by
 have b:=(k.que _ q j).msgs msg (AS i);simp only[GF,AP,Ap]at b;rw[h]at b;cases e:d.be[c.toNat]? with
 |none=>
  rw[e]at b;simp only[Option.map_none,Option.getD_none]at b;omega
 |some ch=>
  rw[e]at b;have h2:=(g.chan ch (AS e)).2.2;have f:=b.1;simp only[F3,GO]at f;omega
variable{B:MV→Int→List AV}{cc:Bool}{π:List Nat}{m:Abs.Id}{V V':MV}{h H:AD}{b:Nat}{st:CT}
theorem Br.oth{g:AD}(a:Br B cc π m V h b V' st g){x:Abs.Id}(j:x∉V'.ids m)(k:Id.under π x=true)(c: ∀id,id≠x→H.get id=g.get id):Br B cc π m V h b V' st H:=
 ⟨Bx a.rep fun id i=>c id fun e=>j (e▸i),a.ids,fun id f h2=>by rw[c id fun e=>by rw[e,k]at h2;cases h2];exact a.frame id f h2⟩
theorem Br.new{g:AD}(i:Bz π V m)(f:Br B cc π m V h b V' st g)(a n:Nat)(e:b≤n):a::n::π∉V'.ids m:=fun c=>by
 have:=C1 (b':=0) i (f.ids _ c) a n e;rw[is_self]at this;cases this
variable{b':Nat}
theorem KT{id:Abs.Id}(h:DS b b' π id=false)(a:b≤n)(h2:n<b'):Id.under (n::π) id=false:=by
 cases c:Id.under (n::π) id with
 |false=>rfl
 |true=>have:=En.2 ⟨n,a,h2,c⟩;rw[h]at this;cases this
variable{t:List Int}{s':BX}{L:List Cl}{A:Abs.Id}{b1:Nat}
theorem SV{p:AX}{d:CG}{g:A8}{r:GH}{j:Nat}{v:AV}(f:TE B cc p sz π m V h st d g r t j b v H V' s' L)(a2:Bz π V m)(ag:Oi d){c:Int}{D:AV}(ad:r.eq[j]? =some c)(av:t[j]? =some (a:Int))(s:s'.be[(g.own d true c).toNat]? =some q)(C:q.queue[a]? =some msg)(a0:EE p s' q=((d.be[c.toNat]?).map IL.many).getD 0)
 (Y:V'.v3=.f8 A 0 V'.rows.length) (a1:V'.rows[(g.own d true c).toNat]? =some (Az q D)) (ai: ∀i n,j<i→r.eq[i]? =some n→(g.own d true n).toNat≠(g.own d true c).toNat)  (ac:b1≤b') (w vq:AV) (x G:AD) (u:Br B cc π m V h b1 V' ⟨s',st.ev,0⟩ x) (O:G.get m=x.get m) (N:G.get A=some (.arr 4 (V'.rows.set (g.own d true c).toNat (Az q vq)))) (Z:Pk cc 2 G 1 vq ((CW q.queue a).map BD)) (P:AE vq=AE D∨ ∀id∈AE vq,DS b1 b' π id=true∧ ∃l,id=1::l)
 (Q: ∀id,Id.is m id=false→Id.is A id=false→(∀i∈AE D,Id.is i id=false)→DS b1 b' π id=false→G.get id=x.get id) (ar:TB π G b' w (L++msg)) (I: ∀i∈AE w,i∉V'.ids m∧DS b1 b' π i=false) (a3:L++msg=[]→w=.d7): ∃y a6 M,TE B cc p sz π m V h st d g r t (j+1) b' w G y a6 M:=by
 have az:=AL C;obtain⟨y,bc,bi⟩:=u.step (b':=b') ac (Nd u.rep (u.apartB a2) Y s a1 (CW q.queue a) vq G (O.trans u.rep.box) N Z P Q);obtain⟨J,o,a7,a',K⟩:=dM f.ol s (k:=a) (by simpa using az);have e:Gn s' (g.own d true c) a=(msg,{s' with be:=s'.be.set (g.own d true c).toNat {q with queue:=CW q.queue a}}):=by rw[Gn,s];simp[C]
 rw[e]at J o a7 a' K;have bk:=Yh ag f.ol s C a0;refine⟨y,_,L++msg,bc,ar,fun i z=>bi i (I i z).1 (I i z).2,a3,J,?_,o.ce.trans f.ce,o.ac.trans f.ac,o.len.trans f.nc,fun i n a4 z F R=>?_,by have:=f.len;rw[CE];omega⟩
 .rw[f.all,Ag ad,Ag av,CC,e,Dl]
 .obtain⟨S,a5,T,U,W,X⟩:=f.rest i n a4 AA F R;refine⟨S,a5,by rw[K _ (ai i n AA F)];exact T,U,W,?_⟩;rw[←X,EE,EE,o.ce]
theorem iH{p:AX}{d:CG}{g:A8}{r:GH}{j:Nat}{v:AV}(F:Sr p sz π m V h st d g r t j b v H V' s' L)(ac:Bz π V m)(M:Oi d){c:Int}{Q:Abs.Id}(K:r.eq[j]? =some c)(S:t[j]? =some (a:Int))(X:s'.be[(g.own d true c).toNat]? =some q)(l:q.queue[a]? =some msg)(U:EE p s' q=((d.be[c.toNat]?).map IL.many).getD 0)
 (D:V'.v3=.f8 A 0 V'.rows.length) (Y:V'.rows[(g.own d true c).toNat]? =some (Az q (.f8 Q 0 q.queue.length))) (N: ∀i k,j<i→r.eq[i]? =some k→(g.own d true k).toNat≠(g.own d true c).toNat)  (J:b1≤b') (e:AV) (f G:AD) (Z:Gg p sz π m V h b1 V' ⟨s',st.ev,0⟩ f) (u:G.get m=f.get m) (s:G.get A=some (.arr 4 (V'.rows.set (g.own d true c).toNat (Az q (.f8 Q 0 (q.queue.length-1)))))) (w: ∃y,G.get Q=some (.em 1 ((q.queue.map BD).take a++(q.queue.map BD).drop (a+1)++y)))
 (x: ∀id,Id.is m id=false→Id.is A id=false→Id.is Q id=false→DS b1 b' π id=false→G.get id=f.get id) (O:TB π G b' e (L++msg)) (W: ∀i∈AE e,i∉V'.ids m∧DS b1 b' π i=false) (ag:L++msg=[]→e=.d7): ∃o ai n,Sr p sz π m V h st d g r t (j+1) b' e G o ai n:=by
 have T:=AL l;have P:(CW q.queue a).length=q.queue.length-1:=WX (by simpa using T);have R:(CW q.queue a).map BD=(q.queue.map BD).take a++(q.queue.map BD).drop (a+1):=by rw[CW,BE,OL,Pp];rfl
 have I:Kg G 1 (.f8 Q 0 (q.queue.length-1)) ((CW q.queue a).map BD):=by
  obtain⟨y,ad⟩:=w;exact .inr ⟨Q,y,by rw[As,P],by rw[R];exact ad⟩
 exact SV F ac M K S X l U D Y N J e _ f G Z u s I (.inl rfl) (fun id b1 z B C=>x id b1 z (B Q BJ) C) O W ag
theorem dK(d:CG)(g:A8)(ks:List Int)(s:BX):CC d g [] ks s=([],s):=by
 rw[CC];intro c cs k ks e;cases e
theorem Br.locU{g:AD}(j:Bz π V m)(a:Br B cc π m V h b V' st g)(c: ∀id,(∀n,b≤n→Id.under (n::π) id=false)→H.get id=g.get id):Br B cc π m V h b V' st H:=
 ⟨Bx a.rep fun id f=>c id fun n i=>a.apart j i id f,a.ids,fun id e h2=>by rw[c id fun n _=>AI h2 n];exact a.frame id e h2⟩
theorem P3{p:AX}(r:BO p sz){g:AD}(f:Bz π V m)(u:Gg p sz π m V h b V' st g)(c:Ke p sz 401 st){j:Gq}(s:CP p sz st.d8 j)(H:AD)(n:Nat)(i:b≤n)(t: ∀id,(∀k,b≤k→Id.under (k::π) id=false)→H.get id=g.get id):
 ∃o g1,KL Tryz.prog cfg (.fn 66) [.ptr m 0,nI j.node,nI j.at_,.d (.bv (j.env.map AN))] H (n::π) true none=.ok (o,g1)∧GL p sz π m V h (Eb p 401 j st) o (gc (n::π) g1)∧(o=.ret (.ii [])∨o=.ge (DH 3)):=by
 have e:=u.locU f t;obtain⟨o,g1,q,a⟩:=jf r 401 H (n::π) m V' st j e.rep (e.apart f i) c.ol s c.w0 c.w1 c.w2 c.ev;refine⟨o,g1,q,?_⟩;cases l:Eb p 401 j st with
 |none=>rw[l]at a;exact⟨e.ge f i a,.inr a.1⟩
 |some w=>
  rw[l]at a;obtain⟨v,h2,_⟩:=e.call f i a;obtain⟨rfl,_⟩:=a;exact⟨h2.fin,.inl rfl⟩
theorem vg{p:AX}{sz:List Int}(J:BO p sz){h:AD}{π:List Nat}{m:Abs.Id}{V:MV}{st:CT}(bv:KA p sz h m V st)(w:Bz π V m)(bc:GD p sz st.d8){i k:Nat}{g:A8}{d:CG}{r:GH}{t:List Int}(N:st.d8.ce[i]? =some g)(h2:p.def? g.f9=some d)(cl:d.rules[k]? =some r)(gi:Al st.d8.ac (g.place d r.at_)=false)(bs:Below (Bl st.d8 d g r) t)(g3:st.work=0)(hu:st.ev.length≤500000):
 ∃o h',KL Tryz.prog cfg (.fn 100) [.ptr m 0,Qq ⟨-1,i,k,t⟩] h π true none=.ok (o,h')∧GL p sz π m V h (Eb p 401 ⟨r.node,g.place d r.at_,g.env++(CC d g r.eq t st.d8).1⟩ ⟨(CC d g r.eq t st.d8).2,st.ev++[⟨1,g.place d r.at_,i,k,(CC d g r.eq t st.d8).1⟩],0⟩) o h':=by
 obtain⟨hs,K⟩:=bc.grp i g N;have en:=K.f9;rw[h2]at en;cases en;obtain⟨em,Z⟩:=FX K.f9;have ht:=AL Z;have hy:=AL cl;have a0:=Kz J bc N K (AS cl);have hv:=a0.j1;have hz:t.length=r.eq.length:=by have:=bs.len;rw[Bl,As]at this;exact this
 have b4:=bv.box;have c8:=w m (V.m_mem m);simp only[BK]at b4;have de:=AJ c8;have ai:=Ak c8;obtain⟨W,i6,cp,dm,fv,e8,e'⟩:=FC (bv.sl 1 AA) N;have fs:=w W (V.s_mem m (i:=1) AA (by rw[cp];simp[AE]));have ej:=AJ fs;have ek:=Ak fs;simp only[Dm]at dm;have e4:=bc.small;simp only[BX.small,AP,Ap]at e4;obtain⟨i0,fr,i1,i2⟩:=e4;have e0:=AB b4;rw[cp]at b4;have gu:AH (∀(a b:Nat) c a1,a<b→r.eq[a]? =some c→r.eq[b]? =some a1→(g.own d true a1).toNat≠(g.own d true c).toNat):=⟨fun a b c a1 gs de ai=>by
  have e3:=(CA J Z).ok.rt r (AS cl);simp only[B7,AP,Ap]at e3;have:=O9 rfl e3.2.2.2 b a a1 c (IT _) gs ai de;obtain⟨B,F,_⟩:=a0.join c (AS de);obtain⟨fp,b6,_⟩:=a0.join a1 (AS ai);have:=JW K.wt B F;have:=JW K.wt fp b6;omega⟩
 have a':=AH.mk (Ql J bc N h2 cl gi bs);replace bv:=AB bv;replace w:=AB w;replace bc:=AB bc;replace K:=AB K;replace bs:=AB bs;replace a0:=AB a0;replace cp:=AB cp;refine BT Tryz.func100 ?_;refine ax ?_;refine An r.eq _ (S:=fun he j (a:(AV×AD)×Nat)=>⟨[(0,.ptr m 0),(3,.ptr (0::0::π) 0),(4,.ptr (0::10::π) 0),(5,.ptr (0::26::π) 0),(6,a.1.1),(35,.d (.bv (r.eq.map AR))),(36,nI he),(37,nI j)],a.1.2,a.2+33,[]⟩)
  (Inv:=fun j ix a=>AH (∃V' s' L,Sr p sz π m V h st d g r t j (a.2+33) a.1.1 a.1.2 V' s' L)∧a.1.2.get (0::0::π)=some (.box [nI (-1),nI i,nI k,.d (.bv (t.map AR))])∧a.1.2.get (0::10::π)=some (.box [nI g.f9,nI g.at_,.d (.bv (g.env.map AN))])∧a.1.2.get (0::26::π)=some (.box [nI r.at_,.d (.bv (r.eq.map AR)),nI r.node])) (b0:=((_,_),0)) rfl ⟨⟨V,st.d8,[],?_⟩,?_,?_,?_⟩ ?_ ?_
 .refine⟨⟨Bx (h:=h) ?_ fun id d0=>?_,fun id d0=>.inl d0,fun id _ O=>?_⟩,.inl ⟨rfl,rfl⟩,BJ,fun _=>rfl,bc.out,?_,rfl,rfl,rfl,fun g7 c e5 _ bo df=>?_,AG⟩
  .have:=bv.out
   rwa [show st=⟨st.d8,st.ev,0⟩ by rw[←g3]]at this
  .have B:=AJ (w.out id d0);simp only[go_sem,B,AM]
  .have B:=AJ O;simp only[go_sem,B,AM]
  .simp
  .obtain⟨B,F,fp,q,b6,hl,hm⟩:=a0.out.join c (AS bo);obtain⟨b1,bl⟩:=Pt bs.out g7 _ e5 (by rw[Bl,D7,bo];rfl) df;have bl:e5<(LG st.d8 (g.own d true c):Nat):=bl;rw[hm]at bl;refine⟨b1,q,b6,AA,hl,?_⟩;obtain⟨ch,dq⟩:=get_some (l:=d.be) (i:=c.toNat) AA;obtain⟨im,g1,cc,gg,_⟩:=K.out.be _ ch dq;have:=JW K.out.wt B F;rw[show(g.own d true c).toNat=(HP p (st.d8.ce.take i)).1+c.toNat by omega,g1]at b6;cases b6;rw[MM N h2 dq cc gg,dq];rfl
 .simp only[go_sem]
 .simp only[go_sem]
 .simp only[go_sem]
 .clear b4 dm fv e8 e' ej ek e0;rintro j c ⟨⟨v,H⟩,b⟩ cx d1 gv ⟨s,e6,c6,c7⟩ b7;dsimp only at*;obtain⟨V',s',L,s⟩:=s.out;have b2:=s.run.rep;have ac:=b2.box;simp only[BK]at ac;obtain⟨d8,ex⟩:=get_some (l:=t) (i:=j) AA;obtain⟨h0,q,d4,bi,hx,e1⟩:=s.rest j c d8 (Es _) cx ex;obtain⟨a,rfl⟩: ∃a:Nat,d8=a:=⟨d8.toNat,AA⟩;rw[F8]at bi;obtain⟨f8,c',ih,_⟩:=a0.out.join c (AS cx);obtain⟨it,ad,g2⟩:=b2.be.row _ _ d4;rcases b2.arr with⟨_,Y⟩|⟨A,Y,a2⟩
  .rw[Y]at ad;simp at ad
  have h3:=AL ad;rcases g2 with⟨_,g6⟩|⟨Q,zs,rfl,a4⟩
  .rw[D6.1 g6]at bi;simp at bi
  rw[As]at ad;obtain⟨msg,c4⟩:=get_some (l:=q.queue) (i:=a) bi;have c1:=s.run.ids A (V'.v3_mem m zEt);have c2:=s.run.ids Q (V'.row_mem m (CS.2 ⟨_,AS ad,by rw[Bq];simp[AE]⟩));have c3:=s.run.ids m (V'.m_mem m);have b3:=s.run.apart w.out (n:=b+81) AA;have i5:=b3 A (V'.v3_mem m zEt);have eb:=b3 Q (V'.row_mem m (CS.2 ⟨_,AS ad,by rw[Bq];simp[AE]⟩));have hn:=b3 m (V'.m_mem m);have fd:=C1 (b':=0) w.out c1;have h7:=EU w.out c1;have fi:=C1 (b':=0) w.out c2;have ia:=EU w.out c2;have h8:=C1 (b':=0) w.out c3;have h9:=EU w.out c3;have f6: ∀k,Id.is A (0::k::π)=false:=fun k=>AF fun e=>Dq s.run w.out k (by rw[←e];exact V'.v3_mem m zEt);have f7: ∀k,Id.is Q (0::k::π)=false:=fun k=>AF fun e=>Dq s.run w.out k (by rw[←e];exact V'.row_mem m (CS.2 ⟨_,AS ad,by rw[Bq];simp[AE]⟩));have f0:Id.is A Q=false:=Fk a2 a4;have hq:Id.is Q A=false:=Fk a4 a2;have f1:Id.is A m=false:=Fk a2 ac;have h4:Id.is m A=false:=Fk ac a2;have f3:Id.is Q m=false:=Fk a4 ac;have h5:Id.is m Q=false:=Fk ac a4;have hw:=Yh (CA J Z).ok s.ol d4 c4 e1;have g0:=AH.mk (iH s w.out (CA J Z).ok cx ex d4 c4 e1 Y ad (fun i a1 D ai=>gu.out j i c a1 D cx ai) (b1:=b+81) (b':=b+54+33) AA);have d7:=AB ad;replace c1:=AB c1;replace c2:=AB c2;replace c3:=AB c3;replace b3:=AB b3;have d3:=AB fun(H':AD) (n:Nat) (a6:H'.get m=H.get m)=>Yl (ds:=p.defs) (g:=g) (d:=d) (a6.trans ac) (AI c8 n) em Z (CA J Z).ok.be (CA J Z).ok.ac (Iw K.out) (Jr J K.out) true c f8 (by simpa using c');rw[Y]at ac;simp only[Az]at ad;replace b2:=AB b2;replace s:=AB s;have c0:AH (∀(C g1:AD) (bk:AV),Gg p sz π m V h (b+81) V' ⟨s',st.ev,0⟩ C→C.get A=some (.arr 4 V'.rows)→(∀k,C.get (0::k::π)=H.get (0::k::π))→(∃y,g1.get Q=some (.em 1 (List.take a (q.queue.map BD)++List.drop (a+1) (q.queue.map BD)++y)))→(∀i,Id.is Q i=false→g1.get i=C.get i)→TB π C (b+81) bk (L++msg)→(∀i∈AE bk,i∉V'.ids m∧DS (b+81) (b+54+33) π i=false)→(L++msg=[]→bk=.d7)→
     AH (∃c9 fr f2,Sr p sz π m V h st d g r t (j+1) (b+54+33) bk ((gc ((b+81)::π) g1).put A (.arr 4 (V'.rows.set (g.own d true c).toNat [nI q.group,nI q.index,nI q.at_,.f8 Q 0 (q.queue.length-1)]))) c9 fr f2)∧((gc ((b+81)::π) g1).put A (.arr 4 (V'.rows.set (g.own d true c).toNat [nI q.group,nI q.index,nI q.at_,.f8 Q 0 (q.queue.length-1)]))).get (0::0::π)=some (.box [nI (-1),nI i,nI k,.d (.bv (t.map AR))])∧((gc ((b+81)::π) g1).put A (.arr 4 (V'.rows.set (g.own d true c).toNat [nI q.group,nI q.index,nI q.at_,.f8 Q 0 (q.queue.length-1)]))).get (0::10::π)=some (.box [nI g.f9,nI g.at_,.d (.bv (g.env.map AN))])∧((gc ((b+81)::π) g1).put A (.arr 4 (V'.rows.set (g.own d true c).toNat [nI q.group,nI q.index,nI q.at_,.f8 Q 0 (q.queue.length-1)]))).get (0::26::π)=some (.box [nI r.at_,.d (.bv (r.eq.map AR)),nI r.node])):=⟨fun C g1 bk c' a1 f9 f' ga dd el gb=>by
   have a3: ∀i,Id.is A i=false→Id.is Q i=false→Id.under ((b+81)::π) i=false→((gc ((b+81)::π) g1).put A (.arr 4 (V'.rows.set (g.own d true c).toNat [nI q.group,nI q.index,nI q.at_,.f8 Q 0 (q.queue.length-1)]))).get i=C.get i:=fun i hk B F=>by rw[get_put,hk,Co AG,Ah _ _ _ F,ga i B]
   have bx: ∀k,¬k=b+81→((gc ((b+81)::π) g1).put A (.arr 4 (V'.rows.set (g.own d true c).toNat [nI q.group,nI q.index,nI q.at_,.f8 Q 0 (q.queue.length-1)]))).get (0::k::π)=H.get (0::k::π):=fun k gw=>(a3 _ (f6 k) (f7 k) (BR π gw)).trans (f9 k);refine⟨⟨g0.out bk C _ c' (a3 m f1 f3 hn) ?_ (f'.imp fun y g5=>?_) (fun id b1 bl f4 f5=>a3 id bl f4 (KT f5 AA AA)) ?_ el gb⟩,(bx 0 AA).trans e6,(bx 10 AA).trans c6,(bx 26 AA).trans c7⟩
   .rw[get_put,is_self];rfl
   .rw[get_put,f0,Co AG,Ah _ _ _ eb];exact g5
   .rcases dd with dd|⟨l,e7,g8,n,h1,g9,g'⟩
    .exact .inl dd
    .refine .inr ⟨l,e7,?_,n,AA,g9,g'⟩;have R:=el l (by rw[e7];simp[AE]);have gm:Id.is A l=false:=AF fun e=>R.1 (e▸V'.v3_mem m zEt);have gr:Id.is Q l=false:=AF fun e=>R.1 (e▸V'.row_mem m (CS.2 ⟨_,AS d7.out,by rw[Bq];simp[AE]⟩));rw[a3 l gm gr (KT R.2 AA AA)];exact g8⟩
  rcases s.out.env with⟨rfl,rfl⟩|⟨z,rfl,es,n,d2,M,R⟩
  .refine ax ?_;refine Dj (d3.out _ _ rfl) (fun ag g1 f=>?_);subst f;have hd:a<q.queue.length+zs.length:=AA;have ho:IntKind.i64.wrap ((a:Int)+1)=(a:Int)+1:=wrap_id AA AA;have hh:(q.queue.map BD++zs)[a]? =some (BD msg):=by rw[Ce (by simpa using bi),D7,c4];rfl
   have az:=fun(C:AD) (a6:C.get Q=some (.em 1 (q.queue.map BD++zs)))=>Pz (π:=(b+81)::π) a6 eb (n:=q.queue.length) (a:=a) AG AA (by intro e T;obtain⟨x,_,rfl⟩:=F2.1 T;rfl) AA;replace az:=AB az;by_cases X:msg=[]
   .subst X;refine ax ?_;refine Ad (az.out _ ?_) (fun ag g1 f=>?_)
    .simp only[go_sem,a4]
    obtain⟨rfl,f,u⟩:=f;have I:=c0.out H g1 .d7 (s.out.run.up AA) a2 (fun _=>rfl) f u (.inl ⟨rfl,rfl⟩) (fun i D=>by simp[AE]at D) (fun _=>rfl);replace I:=AB I;have a3: ∀i,Id.is Q i=false→Id.under ((b+81)::π) i=false→(gc ((b+81)::π) g1).get i=H.get i:=fun i B F=>by rw[Ah _ _ _ F,u i B]
    replace f:=AB f;replace u:=AB u;refine ax ?_;exact b7.out ((_,_),b+54) I.out
   .have ap:=Xw (sz:=2) (msg.map AN) (by simpa using X) (by intro e T;obtain⟨x,_,rfl⟩:=F2.1 T;rfl) AK Aa;simp only[As]at ap;replace X:=AB X;refine ax ?_;refine Ad (az.out _ ?_) (fun ag g1 f=>?_)
    .simp only[go_sem,a4,fi]
    obtain⟨rfl,f,u⟩:=f;have I:=c0.out (H.put (1::(b+63)::π) (.em 2 (msg.map AN))) g1 (.f8 (1::(b+63)::π) 0 msg.length) ((s.out.run.up (b':=b+63) AA).loc w.out (fun id O=>by rw[get_put,O 1 (b+63) AA];rfl)|>.up AA) (by simp only[go_sem,a2,fd]) (fun k=>by simp only[go_sem]) f u (HD AA rfl zFF) (fun i D=>⟨zE9,zE3⟩) (fun e=>absurd (Lc.1 e).2 X.out);replace I:=AB I;have a3: ∀i,Id.is Q i=false→Id.under ((b+81)::π) i=false→(gc ((b+81)::π) g1).get i=(H.put (1::(b+63)::π) (.em 2 (msg.map AN))).get i:=fun i B F=>by rw[Ah _ _ _ F,u i B]
    replace f:=AB f;replace u:=AB u;refine ax ?_;exact b7.out ((_,_),b+54) I.out
  .obtain⟨bo,df,gf,b8⟩:=Cm d2 M R;have P:=s.out.out z BJ;have ha:Id.is z A=false:=AF fun e=>P (e▸V'.v3_mem m zEt);have hp:Id.is A z=false:=AF fun e=>P (e▸V'.v3_mem m zEt);have hb:Id.is z Q=false:=AF fun e=>P (e▸V'.row_mem m (CS.2 ⟨_,AS d7.out,by rw[Bq];simp[AE]⟩));have hr:Id.is Q z=false:=AF fun e=>P (e▸V'.row_mem m (CS.2 ⟨_,AS d7.out,by rw[Bq];simp[AE]⟩));have hc:Id.is z m=false:=AF fun e=>P (e▸V'.m_mem m);have hg:Id.is m z=false:=AF fun e=>P (e▸V'.m_mem m);have gn:=s.out.len;have hd:a<q.queue.length+zs.length:=AA;have ho:IntKind.i64.wrap ((a:Int)+1)=(a:Int)+1:=wrap_id AA AA;have hh:(q.queue.map BD++zs)[a]? =some (BD msg):=by rw[Ce (by simpa using bi),D7,c4];rfl
   have az:=fun(C:AD) (a6:C.get Q=some (.em 1 (q.queue.map BD++zs)))=>Pz (π:=(b+81)::π) a6 eb (n:=q.queue.length) (a:=a) AG AA (by intro e T;obtain⟨x,_,rfl⟩:=F2.1 T;rfl) AA;replace az:=AB az;replace M:=AB M;replace R:=AB R;by_cases X:msg=[]
   .subst X;refine ax ?_;refine Dj (d3.out _ _ rfl) (fun ag g1 f=>?_);subst f;refine ax ?_;refine Ad (az.out _ ?_) (fun ag g1 f=>?_)
    .simp only[go_sem,a4]
    obtain⟨rfl,f,u⟩:=f;have I:=c0.out H g1 (.f8 z 0 L.length) (s.out.run.up AA) a2 (fun _=>rfl) f u (.inr ⟨z,AG,by rw[es,CI],n,AA,M.out,R.out⟩) (fun i D=>by simp only[AE,Ac]at D;subst D;exact⟨P,KS (n:=n) AA M.out⟩) (fun e=>by have:=s.out.ne (Lc.1 e).1;cases this);replace I:=AB I;have a3: ∀i,Id.is Q i=false→Id.under ((b+81)::π) i=false→(gc ((b+81)::π) g1).get i=H.get i:=fun i B F=>by rw[Ah _ _ _ F,u i B]
    replace f:=AB f;replace u:=AB u;refine ax ?_;exact b7.out ((_,_),b+54) I.out
   .have ap:=Pq (sz:=2) (id:=z) (L.map AN) (msg.map AN) (by simpa using X) (by intro e T;obtain⟨x,_,rfl⟩:=F2.1 T;rfl) AK Aa L.length AG;simp only[As]at ap;replace X:=AB X;refine ax ?_;refine Dj (d3.out _ _ rfl) (fun ag g1 f=>?_);subst f;refine ax ?_;refine Ad (az.out _ ?_) (fun ag g1 f=>?_)
    .simp only[go_sem,a4,fi,hb]
    obtain⟨rfl,f,u⟩:=f;obtain⟨C,a7⟩: ∃C,C=(H.put z (.i7 0 [])).put (1::(b+63)::π) (.em 2 (L.map AN++msg.map AN)):=⟨_,rfl⟩;have ib:=bo 1 (b+63) AA;have d5:=(s.out.run.oth (H:=H.put z (.i7 0 [])) P (BM M.out) fun id e=>by rw[get_put,AF fun ai=>e ai.symm];rfl).up (b':=b+63) AA;have d6:=(d5.loc w.out (H:=C) fun id O=>by rw[a7,get_put,O 1 (b+63) AA];rfl).up (b':=b+81) AA;have I:=c0.out C g1 (.f8 (1::(b+63)::π) 0 (L.length+msg.length)) d6 (by rw[a7,get_put,fd _ _ AA,get_put,ha];exact a2) (fun k=>by rw[a7,get_put,AF AG,get_put,b8];rfl) f (fun i D=>by rw[a7];exact u i D) (HD AA AG (by rw[a7,get_put,is_self,BE];rfl)) (fun i D=>⟨zE9,zE3⟩) (fun e=>absurd (Lc.1 e).2 X.out);replace I:=AB I;have a3: ∀i,Id.is Q i=false→Id.under ((b+81)::π) i=false→(gc ((b+81)::π) g1).get i=((H.put z (.i7 0 [])).put (1::(b+63)::π) (.em 2 (L.map AN++msg.map AN))).get i:=fun i B F=>by rw[Ah _ _ _ F,u i B]
    replace f:=AB f;replace u:=AB u;replace a7:=AB a7;replace d5:=AB d5;replace d6:=AB d6;refine ax ?_;exact b7.out ((_,_),b+54) I.out
 .clear b4 dm fv e8 e' ej ek e0;rintro j ⟨⟨v,H⟩,b⟩ d1 gv ⟨s,e6,c6,c7⟩;dsimp only at*;obtain⟨V',s',L,s⟩:=s.out;have ac:=s.run.rep.box;simp only[BK]at ac;have e2:=AB fun(H':AD) (n:Nat) (a6:H'.get m=H.get m)=>OM (ds:=p.defs) (g:=g) (d:=d) (a6.trans ac) (AI c8 n) em Z (CA J Z).ok.be (CA J Z).ok.ac (Iw K.out) (Jr J K.out) r.at_ a0.out.at0 a0.out.at1;have cs:=s.all;have a':=a'.out;rw[d1.out,T7,dK,CI]at cs;rw[cs]at a'⊢;replace a':=AB a';replace s:=AB s;replace cs:=AB cs;rcases s.out.env with⟨rfl,rfl⟩|⟨z,rfl,es,n,d2,M,R⟩
  .refine ax ?_;refine Dz (e2.out _ _ ?_) (fun ag g1 f=>?_)
   .simp only[go_sem]
   subst f;refine ax ?_;refine Ad (KI (V:=V') (st:=⟨s',st.ev,0⟩) (E8 s.out.run.rep (s.out.run.apart w.out (n:=b+47) AA) ?_) (s.out.run.apart w.out AA) 1 (g.place d r.at_) i k [] AG AZ) (fun ag g1 f=>?_)
   .intro id b;rfl
   obtain⟨c9,av,_⟩:=s.out.run.call w.out (n:=b+47) AA f;have d9:=(s.out.run.box w.out (k:=10) AA f).trans c6;have hf:=(s.out.run.box w.out (k:=26) AA f).trans c7;obtain rfl:=f.1;have dn:=av.rep.box;simp only[BK]at dn;replace av:=AB av;replace f:=AB f;have dr:=Jr J K.out;obtain⟨E,ar⟩: ∃E,E=g.env:=⟨_,rfl⟩;rw[←ar]at d9 dr⊢;have N:=K2 E AA;have U:=AB fun C=>P3 J w.out av.out (j:=⟨r.node,g.place d r.at_,E++[]⟩) ⟨s.out.ol,AZ,AZ,AZ,Aa⟩ (by rw[ar];exact a'.out.2) C (b+57) AA;simp only[CI]at U;replace ar:=AB ar;by_cases a5:E.length=0;all_goals
    (first|(obtain rfl:=BI a5;simp only[List.length_nil,DP,BY]at N)|simp only[Dw a5]at N);have fa:=B4
    refine ax ?_;refine Ct (U.out _ fun id O=>?_) (fun fl cc u=>?_)
    .first|rfl|(have B:=AF (a:=1::0::2::(b+54)::π) (b:=id) fun e=>zEm;simp only[go_sem,B,AM])
    obtain⟨u,b5⟩:=u;replace u:=AB u;rcases b5 with rfl|rfl;all_goals
     refine ax ?_;exact u.out
  .obtain⟨bo,df,gf,b8⟩:=Cm d2 M R;have P:=s.out.out z BJ;have hc:Id.is z m=false:=AF fun e=>P (e▸V'.m_mem m);have hg:Id.is m z=false:=AF fun e=>P (e▸V'.m_mem m);have gn:L.length≤90:=by have:=s.out.len;have:=d1.out;omega
   have ul:Id.under ((b+47)::π) z=false:=by
    cases g4:Id.under ((b+47)::π) z with
    |false=>rfl
    |true=>have:=B9 M g4;omega
   have c5:=AH.mk (s.out.run.oth (H:=H.put z (.i7 2 (L.map AN))) P (BM M) fun id e=>by rw[get_put,AF fun ai=>e ai.symm];rfl);replace M:=AB M;replace R:=AB R;refine ax ?_;refine Dz (e2.out _ _ ?_) (fun ag g1 f=>?_)
   .simp only[go_sem]
   subst f;refine ax ?_;have gz:=E8 c5.out.rep (s.out.run.apart w.out (n:=b+47) AA) (h':=H.put z (.i7 2 (L.map AN))) fun _ _=>rfl;refine Ad (KI (V:=V') (st:=⟨s',st.ev,0⟩) gz (s.out.run.apart w.out AA) 1 (g.place d r.at_) i k L AA AZ) (fun ag g1 f=>?_);obtain⟨c9,av,_⟩:=c5.out.call w.out (n:=b+47) AA f;have d9:=(c5.out.box w.out (k:=10) AA f).trans ((show(H.put z (.i7 2 (L.map AN))).get (0::10::π)=H.get (0::10::π) by rw[get_put,b8];rfl).trans c6);have hf:=(c5.out.box w.out (k:=26) AA f).trans ((show(H.put z (.i7 2 (L.map AN))).get (0::26::π)=H.get (0::26::π) by rw[get_put,b8];rfl).trans c7);have h6:=(W6 f P ul).trans (show(H.put z (.i7 2 (L.map AN))).get z=some (.i7 2 (L.map AN)) by rw[get_put,is_self];rfl);obtain rfl:=f.1;have dn:=av.rep.box;simp only[BK]at dn;replace av:=AB av;replace f:=AB f;have dr:=Jr J K.out;obtain⟨E,ar⟩: ∃E,E=g.env:=⟨_,rfl⟩;rw[←ar]at d9 dr⊢;have N:=K2 E AA;have U:=AB fun C=>P3 J w.out av.out (j:=⟨r.node,g.place d r.at_,E++L⟩) ⟨s.out.ol,AZ,AZ,AZ,Aa⟩ (by rw[ar];exact a'.out.2) C (b+57) AA;replace ar:=AB ar;by_cases cn:L=[]
   .have:=s.out.ne cn;cases this
   .have be: ¬L.map AN=[]:=by simpa using cn
    have i3:List.take L.length ((L.map AN).map fun x=>x.map AV.d)=(L.map AN).map fun x=>x.map AV.d:=By AG;have d': ∀l,Id.is (l++(b+54)::π) z=false:=fun l=>AF fun e=>by
     have:=B9 (n:=n) (n':=b+54) M.out (by rw[←e];exact Ay l);omega
    have ea: ∀l,Id.is z (l++(b+54)::π)=false:=fun l=>AF fun e=>by
     have:=B9 (n:=n) (n':=b+54) M.out (by rw[e];exact Ay l);omega
    have hi:=d' [1,0,2];have hj:=ea [1,0,2];simp only[DL,Bi]at hi hj;have i4:List.take (E.length+L.length) (E.map AN++L.map AN)=E.map AN++L.map AN:=By AG;replace d':=AB d';replace ea:=AB ea;replace cn:=AB cn;by_cases a5:E.length=0
    .have ap:=Xw (sz:=2) (L.map AN) be (by intro e T;obtain⟨x,_,rfl⟩:=F2.1 T;rfl) AK Aa;simp only[As]at ap;replace be:=AB be
     (first|(obtain rfl:=BI a5;simp only[List.length_nil,DP,BY]at N)|simp only[Dw a5]at N);have fa:=B4
     simp only[Bi]at U⊢;refine ax ?_;refine Ct (U.out _ fun id O=>?_) (fun fl cc u=>?_)
     .exact zAg
     obtain⟨u,b5⟩:=u;replace u:=AB u;rcases b5 with rfl|rfl;all_goals
      refine ax ?_;exact u.out
    .have ap:=Pq (sz:=2) (id:=1::0::2::(b+54)::π) (E.map AN) (L.map AN) be (by intro e T;obtain⟨x,_,rfl⟩:=F2.1 T;rfl) AK Aa E.length AG;simp only[As]at ap;replace be:=AB be
     (first|(obtain rfl:=BI a5;simp only[List.length_nil,DP,BY]at N)|simp only[Dw a5]at N);have fa:=B4
     have U:=U.out;simp only[BE]at U;replace U:=AB U;refine ax ?_;refine Ct (U.out _ fun id O=>?_) (fun fl cc u=>?_)
     .exact zAg
     obtain⟨u,b5⟩:=u;replace u:=AB u;rcases b5 with rfl|rfl;all_goals
      refine ax ?_;exact u.out
end Go.Proofs
namespace Go.Abs
theorem b9(a:TypeId→Option TI)(g:G)(i:TI)(id:Id)(off n:Nat)(c:0<n)(b:i.kind=.slice):HG a g (some i) (.f8 id off n)=eJ g id off n (a i.elem):=by
 obtain⟨m,rfl⟩: ∃m,n=m+1:=⟨n-1,AA⟩;unfold HG;simp only[b];cases a i.elem<;>rfl
theorem sG{h h':AD}{id:Id}{o:Obj}(a:h.get id=some o)(h2:Obj.same o (h'.get id)=true):(WI h h').all (fun y=> !Id.is id y)=true:=by
 rw[D4];intro y c;rw[AF]
 .rfl
 .intro e;subst e;obtain⟨p,b,rfl⟩:=F2.1 c;have:=(RS.1 b).2;rw[a]at this;simp only[h2]at this;cases this
end Go.Abs
namespace Go.Proofs
open Go Go.Abs
set_option maxRecDepth 100000
set_option maxHeartbeats 4000000
structure Ov(h:AD)(π:List Nat)(m bx S:Abs.Id)(L:List Bn):Prop where
 gb:h.get bx=some (.box [.ptr m 0])
 gm: ∃x1 x2 x3 x4 x5 x6 x7 x8 x9 x10 x11 x12,h.get m=some (.box [.f8 S 0 L.length,x1,x2,x3,x4,x5,x6,x7,x8,x9,x10,x11,x12])
 gS: ∃y,h.get S=some (.em 2 (L.map Au++y))
 ub:Id.under π bx=false
 um:Id.under π m=false
 uS:Id.under π S=false
variable{h:AD}{π:List Nat}{m bx S:Abs.Id}{L:List Bn}
theorem Ov.up{h':AD}{ρ:List Nat}(a:Ov h π m bx S L)(b: ∀i,Id.under π i=false→i=bx∨i=m∨i=S→h'.get i=h.get i)(c: ∀i,Id.under π i=false→Id.under ρ i=false):Ov h' ρ m bx S L:=by
 refine⟨(b _ a.ub AG).trans a.gb,?_,?_,c _ a.ub,c _ a.um,c _ a.uS⟩
 .rw[b _ a.um AG];exact a.gm
 .rw[b _ a.uS AG];exact a.gS
theorem jX(c:Ov h π m bx S L)(w:GI)(b:E7 L w.at_):
 ∃o h',KL Tryz.prog cfg (.fn 163) [.agg [nI w.at_,nI w.node,.d (.bv (w.env.map AN))],.ptr bx 0] h π true (some π)=.ok (o,h')∧o=.ret (.d (.bool (Al L w.at_))):=by
 obtain⟨s,⟨x1,x2,x3,x4,x5,x6,x7,x8,x9,x10,x11,x12,t⟩,⟨y,r⟩,g,j,k⟩:=c;have n:=AJ g;have p:=AJ j;have q:=AJ k;have x:=b.1;have z:=b.2;obtain⟨sp,a⟩:=get_some (l:=L) (i:=w.at_.toNat) AA;have f:w.at_.toNat<L.length:=AA;have v:w.at_.toNat<L.length+y.length:=AA;have u:(L.map Au++y)[w.at_.toNat]? =some (Au sp):=by rw[Ce zEY,D7,a];rfl
 have e:Al L w.at_=sp.dead:=by rw[Al,a];rfl
 rw[e];refine BT Tryz.func163 ?_;exact af
inductive Xm{α:Type}(f:α→Bool)(l:List α):Int→Prop
 |none:(∀x∈l,f x=false)→Xm f l (-1)
 |some (k:Nat):(∀x∈l.take k,f x=false)→(∃x,l[k]? =some x∧f x=true)→Xm f l k
theorem Wq{h:AD}{π:List Nat}{m bx S:Abs.Id}{L:List Bn}(j:Ov h π m bx S L)(l:List GI)(D:l.length≤1000000)(q: ∀w∈l,E7 L w.at_):
 ∃o h',KL Tryz.prog cfg (.fn 185) [.d (.bv (l.map Ae)),.fn 163 [] [.ptr bx 0]] h π true (some π)=.ok (o,h')∧ ∃r,o=.ret (nI r)∧Xm (fun w:GI=>Al L w.at_) l r:=by
 have t:=AB j;clear j;have A:=AB q;clear q;refine BT Tryz.func185 ?_;refine ax ?_;refine An l _ (S:=fun B i (a:AD×Nat)=>⟨[(0,.d (.bv (l.map Ae))),(1,.fn 163 [] [.ptr bx 0]),(7,nI B),(8,nI i)],a.1,a.2+4,[]⟩)
  (Inv:=fun i I a=>AH ((∀x,Id.under π x=false→a.1.get x=h.get x)∧ ∀w∈l.take i,Al L w.at_=false)) (b0:=(h,0)) rfl ⟨⟨fun _ _=>rfl,AG⟩⟩ ?_ ?_
 .rintro i w ⟨g,b⟩ f p z e s;dsimp only at*;have y:AH (∀H n,(∀x,Id.under π x=false→H.get x=g.get x)→ ∃o h',KL Tryz.prog cfg (.fn 163) [.agg [nI w.at_,nI w.node,.d (.bv (w.env.map AN))],.ptr bx 0] H (n::π) true (some (n::π))=.ok (o,h')∧o=.ret (.d (.bool (Al L w.at_)))):=⟨fun H n u=>jX (t.out.up (fun x c _=>(u x c).trans (e.out.1 x c)) fun x c=>AI c n) w (A.out w (AS f))⟩;refine ax ?_;refine Dz (y.out _ _ fun x c=>rfl) (fun F g1 C=>?_);subst C;cases k:Al L w.at_ with
  |true=>
   refine ax ?_;exact⟨_,rfl,.some i e.out.2 ⟨w,f,k⟩⟩
  |false=>
   refine ax ?_;refine s.out (g,b+11) ⟨⟨e.out.1,fun x c=>?_⟩⟩;rw[F6,f]at c;rcases EL.1 c with c|c
   .exact e.out.2 x c
   .simp only[Option.toList_some,Ac]at c;subst c;exact k
 .rintro i ⟨g,b⟩ p z e;dsimp only at*;have v:AH (∀w∈l,Al L w.at_=false):=⟨by have:=e.out.2;rwa [p.out,D3]at this⟩;refine ax ?_;exact⟨_,rfl,.none v.out⟩
theorem xl{h:AD}{π:List Nat}{m bx S W:Abs.Id}{L:List Bn}(O:Ov h π m bx S L)(l:List GI){x:List (List Ao)}(b3:h.get W=some (.em 3 (l.map Ae++x)))(X:Id.under π W=false)(K:W≠bx∧W≠m∧W≠S){n:Nat}(cn:n=l.length)(ch:l.length≤1000000)(s: ∀w∈l,E7 L w.at_):
 ∃o h',KL Tryz.prog cfg (.fn 162) [.f8 W 0 n,.fn 163 [] [.ptr bx 0]] h π true none=.ok (o,h')∧ ∃y,o=.ret (.f8 W 0 (l.filter fun w=> !Al L w.at_).length)∧h'.get W=some (.em 3 ((l.filter fun w=> !Al L w.at_).map Ae++y))∧ ∀i,Id.is W i=false→Id.under π i=false→h'.get i=h.get i:=by
 subst cn;have c8:=AJ X;have c9:=Ak X;have a5:=AB O;have bc:=AB s;clear s;have V:=AB fun(H:AD) (k:Nat) (ad: ∀i,i=bx∨i=m∨i=S→H.get i=h.get i)=>Wq (π:=k::π) (a5.out.up (ρ:=k::π) (fun i _ A=>ad i A) fun x a3=>AI a3 k) l ch bc.out;have c0:AH (∀i,i=bx∨i=m∨i=S→Id.under π i=false):=⟨fun i A=>by rcases A with rfl|rfl|rfl;exact O.ub;exact O.um;exact O.uS⟩
 clear O;obtain⟨f,v⟩: ∃f:GI→Bool,f=fun w=> !Al L w.at_:=⟨_,rfl⟩;rw[←v];replace v:=AB v;refine BT Tryz.func162 ?_;refine ax ?_;refine Dz (V.out _ 3 ?_) (fun c2 g1 a4=>?_)
 .rintro i (rfl|rfl|rfl)
  .rw[get_put,AF K.1];rfl
  .rw[get_put,AF K.2.1];rfl
  .rw[get_put,AF K.2.2];rfl
 obtain⟨r,rfl,cp⟩:=a4;cases cp with
 |none av=>
  have b2:AH (l.filter f=l):=⟨List.filter_eq_self.2 fun w s=>by rw[v.out];simp[av w s]⟩;replace av:=AB av;refine ax ?_;rw[b2.out];exact⟨x,rfl,rfl,fun _ _ _=>trivial⟩
 |some k az cc=>
  obtain⟨be,a1,a2⟩:=cc;have c6:=AL a1;have c7: ¬(k:Int)= -1:=AA;replace az:=AB az;have a':((l.take (k+1)).filter f)=l.take k:=by
   rw[F6,a1,List.filter_append,List.filter_eq_self.2 fun w s=>by rw[v.out];simp[az.out w s]];simp[v.out,a2]
  have cl:(l.take k).length=k:=zFK
  replace a2:=AB a2;refine ax ?_;refine rounds (S:=fun(a:(Nat×Nat)×AD×Nat)=>⟨[(0,.f8 W 0 l.length),(1,.fn 163 [] [.ptr bx 0]),(5,nI a.1.2),(6,nI a.1.1)],a.2.1,a.2.2+10,[]⟩)
   (Inv:=fun a=>a.1.2<a.1.1∧a.1.1≤l.length∧AH (∃Y,a.1.2+Y.length=a.1.1∧(∀e∈Y,e.length=3)∧((l.take a.1.1).filter f).length=a.1.2∧a.2.1.get W=some (.em 3 (((l.take a.1.1).filter f).map Ae++(Y++((l.drop a.1.1).map Ae++x)))))∧AH (∀i,Id.is W i=false→Id.under π i=false→a.2.1.get i=h.get i)) (m:=fun a=>l.length-a.1.1) (a:=((k+1,k),h,0)) ⟨AZ,AZ,⟨[Ae be],rfl,by simp[Ae],by dsimp only;rw[a',cl],?_⟩,⟨fun _ _ _=>rfl⟩⟩ ?_
  .dsimp only;rw[a',b3];have:=Nm a1;rw[show l.map Ae=(l.take k).map Ae++([Ae be]++(l.drop (k+1)).map Ae) by rw[←List.map_singleton,←BE,←BE];exact congrArg _ this];simp
  .rintro⟨⟨j,i⟩,g,b⟩ ⟨j1,j2,hY,hfr⟩ IH;dsimp only at*;obtain⟨Y,ai,ag,u,D⟩:=hY.out;by_cases b7:j<l.length
   .obtain⟨w,s⟩:=get_some b7;have bs:((l.take j).filter f).map Ae++(Y++((l.drop j).map Ae++x))=(((l.take j).filter f).map Ae++Y)++((l.drop j).map Ae++x):=AG;have b0:(((l.take j).filter f).map Ae++Y).length=j:=by rw[CE,As];omega
    have V:(((l.take j).filter f).map Ae++(Y++((l.drop j).map Ae++x)))[j]? =some (Ae w):=by
     rw[bs,D2 AA,b0,KW,Ag s];rfl
    have b':j<(((l.take j).filter f).map Ae++(Y++((l.drop j).map Ae++x))).length:=AL V;have b1:AH (∀H n,(∀i,i=bx∨i=m∨i=S→H.get i=g.get i)→ ∃o h',KL Tryz.prog cfg (.fn 163) [.agg [nI w.at_,nI w.node,.d (.bv (w.env.map AN))],.ptr bx 0] H (n::π) true (some (n::π))=.ok (o,h')∧o=.ret (.d (.bool (Al L w.at_)))):=⟨fun H n ad=>jX (a5.out.up (fun i cx A=>(ad i A).trans (hfr.out i (AF fun e=>by subst e;rcases A with e|e|e;exact K.1 e;exact K.2.1 e;exact K.2.2 e) cx)) fun x a3=>AI a3 n) w (bc.out w (AS s))⟩
    have b8:(j:Int)<l.length:=AA;obtain⟨N,M⟩: ∃N,N=((l.take j).filter f).map Ae++(Y++((l.drop j).map Ae++x)):=⟨_,rfl⟩;rw[←M]at V D b';replace M:=AB M;refine ax ?_;refine Dz (b1.out _ _ ?_) (fun c2 g1 a4=>?_)
    .intro i A;have q:=AJ (c0.out i A);exact zBr
    subst a4;have t:(l.take (j+1)).filter f=(l.take j).filter f++if f w=true then [w]else []:=by
     rw[F6,s,List.filter_append];simp[Rw]
    cases a6:Al L w.at_ with
    |true=>
     have C:f w=false:=by rw[v.out];simp[a6]
     rw[C,Co AG,CI]at t;replace C:=AB C;replace t:=AB t;refine ax ?_;refine IH.out ((j+1,i),_,b+17) AZ ⟨AZ,AZ,⟨Y++[Ae w],Aa,?_,by rw[t.out];exact u,?_⟩,⟨fun Q I B=>?_⟩⟩
     .intro e p;rcases EL.1 p with p|p
      .exact ag e p
      .rw[Ac]at p;subst p;rfl
     .rw[t.out];dsimp only;rw[get_put,AF (by intro e;exact absurd (AJ X 0 (b+18)) (by rw[e,is_self];simp)),get_put,AF (by intro e;exact absurd (AJ X 0 (b+18)) (by rw[e,is_self];simp))];simp only[AM,FD];rw[D,M.out,Ag s];simp
     .dsimp only;rw[get_put,AJ B,get_put,AJ B];exact hfr.out Q I B
    |false=>
     have C:f w=true:=by rw[v.out];simp[a6]
     rw[C,D5 rfl]at t;have b6:i<N.length:=AA;have c':IntKind.i64.wrap ((i:Int)+1)=(i:Int)+1:=wrap_id AA AA;replace C:=AB C;replace t:=AB t;obtain⟨T,a7⟩:=get_some (l:=N) (i:=i) b6;have c5:i<l.length:=AA;have bv:0<Y.length:=AA;obtain⟨R,J,rfl⟩: ∃R J,Y=R::J:=by
      cases Y with
      |nil=>simp at bv
      |cons R J=>exact⟨R,J,rfl⟩
     have P:i=(((l.take j).filter f).map Ae).length:=by rw[As,u]
     have p:T=R:=by
      rw[M.out,D2 AA,P,KW]at a7;simpa using a7.symm
     subst p;obtain⟨dd,de,df,rfl⟩: ∃a b c,T=[a,b,c]:=by
      have:=ag T AG
      match T,this with
      |[a,b,c],_=>exact⟨a,b,c,rfl⟩
     replace P:=AB P;have cs:AH (N.set i (Ae w)=((l.take (j+1)).filter f).map Ae++((J++[Ae w])++((l.drop (j+1)).map Ae++x))):=⟨by
      rw[M.out,t.out,List.set_append_right _ _ (Nat.le_of_eq P.out.symm),←P.out,KW,DL,List.set_cons_zero,Ag s];simp⟩
     refine ax ?_;refine IH.out ((j+1,i+1),_,b+25) AZ ⟨AZ,AZ,⟨J++[Ae w],by simp at ai⊢;omega,?_,by rw[t.out];simp[u],?_⟩,⟨fun Q I B=>?_⟩⟩
     .intro e p;rcases EL.1 p with p|p
      .exact ag e (by simp[p])
      .rw[Ac]at p;subst p;rfl
     .dsimp only;rw[←cs.out];simp only[go_sem]
     .simp only[go_sem,I,AJ B];exact hfr.out Q I B
   .have a0:j=l.length:=AA;rw[a0,D3]at u D;rw[T7,BY,Bi]at D;have b8: ¬(j:Int)<l.length:=AA;have ar:Y.length=l.length-i:=AA;obtain⟨F,ac⟩: ∃F,F=l.filter f:=⟨_,rfl⟩;rw[←ac]at u D⊢;have b5:0<l.length-i:=AA;have U:(F.map Ae).length=i:=by simpa using u
    have bk:=Nk (g:=g.get) (n:=l.length) D (a:=i) AA AA Aa Aa;simp only[F8]at bk;have c3: ∀(j:TI),j.size=3→j.zero=[nI 0,nI 0,.d7]→Im g.get W i (l.length-i) j=some ⟨.undef,[(W,.em 3 (F.map Ae++(List.replicate (l.length-i) [.int .i64 0,.int .i64 0,.bv []]++x)))]⟩:=fun j bo Z=>by
     rw[Zn (z:=[.int .i64 0,.int .i64 0,.bv []]) D bo (by rw[Z];rfl) rfl ⟨⟨by rw[Z];rfl,by rw[Z];rfl⟩,AK⟩ Aa,List.take_left' U,show F.map Ae++(Y++x)=(F.map Ae++Y)++x from(Dl ..).symm,List.drop_left' (l₁:=F.map Ae++Y) (by rw[CE,U,ar])]
    have bl:=fun(g':G) (b4:g' W=some (.em 3 (F.map Ae++(List.replicate (l.length-i) [.int .i64 0,.int .i64 0,.bv []]++x))))=>Nj (n:=l.length) b4 (b:=i) AA Aa Aa;simp only[F8]at bl;have c4:=fun bi (c1:TI)=>b9 bi g.get c1 W i (l.length-i) b5;replace ac:=AB ac;replace u:=AB u;replace a0:=AB a0;replace ar:=AB ar;replace ai:=AB ai;replace U:=AB U;refine ax ?_;exact⟨_,by rw[u.out],rfl,fun Q I B=>by rw[I,Co AG];exact hfr.out Q I B⟩
theorem xm{h:AD}{π:List Nat}{m bx S:Abs.Id}{L:List Bn}(b:Ov h π m bx S L)(l:List GI){v:AV}(t:Kg h 3 v (l.map Ae))(N: ∀i∈AE v,Id.under π i=false∧i≠bx∧i≠m∧i≠S)(f:l.length≤1000000)(g: ∀w∈l,E7 L w.at_):
 ∃o h',KL Tryz.prog cfg (.fn 162) [v,.fn 163 [] [.ptr bx 0]] h π true none=.ok (o,h')∧ ∃a,o=.ret a∧Kg h' 3 a ((l.filter fun w=> !Al L w.at_).map Ae)∧AE a=AE v∧(a.isCell=true∧a.cells=[a])∧ ∀i,(∀id∈AE v,Id.is id i=false)→Id.under π i=false→h'.get i=h.get i:=by
 rcases t with⟨rfl,e⟩|⟨W,x,rfl,n⟩
 .have e:=D6.1 e;subst e;have q:=AB fun(H:AD) (k:Nat) (j: ∀i,i=bx∨i=m∨i=S→H.get i=h.get i)=>Wq (π:=k::π) (b.up (ρ:=k::π) (fun i _ p=>j i p) fun x u=>AI u k) [] f g;clear b;refine BT Tryz.func162 ?_;refine ax ?_;refine Dz (q.out _ 3 fun _ _=>rfl) (fun O g1 C=>?_);obtain⟨r,rfl,s⟩:=C;cases s with
  |none _=>
   refine ax ?_;exact⟨_,rfl,.inl ⟨rfl,rfl⟩,rfl,⟨rfl,rfl⟩,fun _ _ _=>trivial⟩
  |some k _ c=>
   obtain⟨_,c,_⟩:=c;simp at c
 .obtain⟨I,J,K,M⟩:=N W BJ;rw[As];obtain⟨o,h',z,y,rfl,A,B⟩:=xl b l n I ⟨J,K,M⟩ rfl f g;exact⟨_,h',z,_,rfl,.inr ⟨W,y,by rw[As],A⟩,rfl,⟨rfl,rfl⟩,fun i D F=>B i (D W BJ) F⟩
end Go.Proofs
namespace Go.Proofs
open Go Go.Abs
def Kh(l:List Bn)(at_:Int)(n:Nat):List Bn:=(MA l at_).take n++l.drop n
variable{n:Nat}
theorem M9(l:List Bn)(at_:Int)(a:n≤l.length):(Kh l at_ n).length=l.length:=by
 rw[Kh,CE,F1,Io,GU];omega
theorem P0(l:List Bn)(at_:Int)(c:n≤l.length)(k:Nat):(Kh l at_ n)[k]? =(l[k]?).map fun x=>if k<n then{x with dead:=x.dead||C3 l k at_}else x:=by
 have b:((MA l at_).take n).length=n:=by rw[F1,GU];omega
 rw[Kh];by_cases a:k<n
 .rw[Ce AA,I6,D5 a,X9];simp[a]
 .rw[D2 AA,b,He,show n+(k-n)=k by omega];cases l[k]? <;>simp[a]
theorem WG(l:List Bn)(at_:Int):Kh l at_ 0=l:=by simp[Kh]
theorem Ti(l:List Bn)(at_:Int):Kh l at_ l.length=MA l at_:=by
 rw[Kh,T7,CI,By (by rw[GU];exact Es _)]
theorem WE{l:List Bn}{at_:Int}{n:Nat}{x:Bn}(a:l[n]? =some x):Kh l at_ (n+1)=(Kh l at_ n).set n {x with dead:=x.dead||C3 l n at_}:=by
 have b:=AL a;refine List.ext_getElem? fun k=>?_;rw[P0 l at_ AA,IF,M9 l at_ AA,P0 l at_ AA];by_cases e:n=k
 .subst e;rw[D5 rfl,D5 b,a,F3,D5 AA]
 .rw[Co e];congr 1;funext y;by_cases h:k<n
  .rw[D5 h,D5 AA]
  .rw[Co h,Co AA]
variable{l:List Bn}{at_:Int}
theorem jY{x:Bn}(a:l[n]? =some x):(Kh l at_ n)[n]? =some x:=by
 have b:=AL a;rw[P0 l at_ AA,a];simp
theorem Zx(l:List Bn)(at_:Int)(a:n≤l.length)(i:Int):Bf (Kh l at_ n) i=Bf l i:=by
 rw[Bf,Bf,P0 l at_ a];cases l[i.toNat]? with
 |none=>rfl
 |some x=>
  simp only[F3,GO];split<;>rfl
variable{m:List Bn}
theorem U1(b: ∀i,Bf m i=Bf l i)(a:m.length=l.length): ∀(k:Nat) (i:Int),Bd m k i=Bd l k i
 |0,i=>rfl
 |k+1,i=>by
  rw[Bd,Bd,b,U1 b a k];congr 2;exact decide_eq_decide.2 (by unfold E7;rw[a])
theorem cw(a: ∀i,Bf m i=Bf l i): ∀(k:Nat) (i:Int),R4 m k i=R4 l k i
 |0,i=>rfl
 |k+1,i=>by rw[R4,R4,a,cw a k]
theorem XT(c: ∀i,Bf m i=Bf l i)(a:m.length=l.length)(h:HK l):HK m:=
 ⟨by rw[a];exact h.pos,by rw[c];exact h.top,fun i b=>by rw[U1 c a,a];exact h.rx i (by rw[E7,a]at b;exact b)⟩
theorem Sb(e: ∀i,Bf m i=Bf l i)(c:m.length=l.length)(b a:Int):C3 m b a=C3 l b a:=by
 rw[C3,C3,c,cw e]
def Oe(l:List Bn)(q:Gp):Gp:=if Al l q.at_=true then{q with queue:=[]}else q
def L9(l:List Bn)(c:List Gp)(n:Nat):List Gp:=(c.take n).map (Oe l)++c.drop n
theorem WB(l:List Bn)(c:List Gp):L9 l c 0=c:=by simp[L9]
theorem Zs(l:List Bn)(c:List Gp):L9 l c c.length=c.map (Oe l):=by simp[L9]
theorem Zt(l:List Bn)(c:List Gp)(a:n≤c.length):(L9 l c n).length=c.length:=by
 rw[L9,CE,As,F1,Io];omega
variable{q:Gp}
theorem N2{c:List Gp}(a:c[n]? =some q):(L9 l c n)[n]? =some q:=by
 have e:=AL a;have b:((c.take n).map (Oe l)).length=n:=zFb
 rw[L9,D2 AA,b,KW,Ag a];rfl
theorem V9{c:List Gp}(a:c[n]? =some q):L9 l c (n+1)=(L9 l c n).set n (Oe l q):=by
 have e:=AL a;have b:((c.take n).map (Oe l)).length=n:=zFb
 rw[L9,L9,F6,a,List.set_append_right _ _ AA,b,KW,Ag a];simp
theorem je(s:BX)(at_:Int):O0 s at_=⟨MA s.ac at_,s.ce,s.be.map (Oe (MA s.ac at_)),s.waits.filter fun w=> !Al (MA s.ac at_) w.at_⟩:=rfl
set_option maxRecDepth 100000
set_option maxHeartbeats 4000000
theorem Qo{α:Type}{l:List α}{i:Nat}{x:α}(h:l[i]? =some x):l.set i x=l:=by
 obtain⟨a,h2⟩:=BV.1 h;rw[←h2];exact List.set_getElem_self a
variable{sz:List Int}{V:MV}
theorem rZ{p:AX}{a:MV}{w b:Int}(h:BK p sz V w=BK p sz a b):a.v3=V.v3:=by
 simp only[BK,Mt]at h;exact h.2.2.1.symm
theorem zu{p:AX}(ex:BO p sz){h:AD}{π:List Nat}{m:Abs.Id}{st:CT}(az:KA p sz h m V st)(f:Bz π V m)(T:GD p sz st.d8)(be:E7 st.d8.ac at_)(fr:st.ev.length≤900000):
 ∃o h',KL Tryz.prog cfg (.fn 102) [.ptr m 0,nI at_] h π true none=.ok (o,h')∧GL p sz π m V h (some ⟨O0 st.d8 at_,st.ev++[⟨3,at_,0,0,[]⟩],st.work⟩) o h':=by
 have a1:=az.box;simp only[BK]at a1;have b5:=f m (V.m_mem m);have el:=AJ b5;have em:=Ak b5;have d5:=T.small;simp only[BX.small,AP,Ap]at d5;obtain⟨f9,f',ga,gb⟩:=d5;have ej:=be.1;have fl:=be.2;replace az:=AB az;replace f:=AB f;replace T:=AB T;replace be:=AB be;refine BT Tryz.func102 ?_;refine ax ?_;refine Ad (KI (V:=V) (st:=st) (E8 az.out f.out ?_) (f.out.ext _) 3 at_ 0 0 [] AG AA) (fun e' g1 u=>?_)
 .intro id b;have b3:=AJ b;simp only[go_sem,b3,AM]
 have bo:Gg p sz π m V h 0 V st (h.put (0::0::π) (.box [.ptr m 0])):=Ie az.out f.out fun id b=>by
  have b3:=AJ b;rw[get_put,b3];rfl
 obtain⟨eb,R,_⟩:=(bo.up (b':=3) AA).call f.out (n:=3) AA u;have t:=(bo.up (b':=3) AA).box f.out (k:=0) AA u;rw[get_put,is_self,D5 rfl]at t;obtain rfl:=u.1;have de:=R.rep.box;simp only[BK]at de;have c1:=Ek (R.rep.sl 0 AA);simp only[Av,As]at c1;obtain⟨C,cl⟩: ∃C,C=st.ev++[(⟨3,at_,0,0,[]⟩:GK)]:=⟨_,rfl⟩;rw[←cl]at R⊢;replace cl:=AB cl;replace R:=AB R;replace bo:=AB bo;replace u:=AB u
 (repeat' (first|simp only[go_sem, *,↓c1,AM]|(refine sx ?_ ?_<;>intro bi)|refine sy AA fun x y a1=>?_|simp(disch:=first|assumption|omega) only[AU]))
 clear a1 de c1 u;refine An st.d8.ac _ (S:=fun c6 i (a:AD×Nat)=>⟨[(1,nI at_),(2,.ptr (0::0::π) 0),(15,nI c6),(16,nI i)],a.1,a.2+11,[]⟩)
  (Inv:=fun i fd a=>a.1.get (0::0::π)=some (.box [.ptr m 0])∧AH (∃V',Gg p sz π m V h (a.2+11) V' ⟨{st.d8 with ac:=Kh st.d8.ac at_ i},C,st.work⟩ a.1)) (b0:=(_,0)) rfl ⟨t,⟨eb,by rw[WG];exact R.out.up AA⟩⟩ ?_ ?_
 .rintro i x ⟨g,b⟩ y J cx ⟨t,c⟩ ag;dsimp only at*;obtain⟨V',c⟩:=c.out;obtain⟨D,s⟩: ∃D,D=Kh st.d8.ac at_ i:=⟨_,rfl⟩;have fs:=AL y;have r:D.length=st.d8.ac.length:=by rw[s];exact M9 _ _ AA
  have dn:D[i]? =some x:=by rw[s];exact jY y
  have a': ∀i,Bf D i=Bf st.d8.ac i:=fun k=>by rw[s];exact Zx _ _ AA k
  have ar:AH (Kh st.d8.ac at_ (i+1)=D.set i {x with dead:=x.dead||C3 st.d8.ac i at_}):=⟨by rw[s];exact WE y⟩
  have ch:=XT a' r T.out.tree;have cc:=Sb a' r (i:Int) at_;rw[←s]at c;replace s:=AB s;have j:=c.rep.box;simp only[BK]at j;obtain⟨S,ad,I,z,fi,d6,e8⟩:=FC (c.rep.sl 0 AA) dn;simp only[Dm]at z;have c2:=Xh D i at_ AA ch ⟨AA,AA⟩ ej
  rw[cc]at c2;have d0:=c.ids S (V'.s_mem m (i:=0) AA zEk);have e2: ∀k,Id.is S (0::k::π)=false:=fun k=>AF fun e=>Dq c f.out k (by rw[←e];exact V'.s_mem m (i:=0) AA zEk);have U:=AH.mk (DZ (N:=DS (b+11) (b+33) π) (st:=⟨{st.d8 with ac:=D},C,st.work⟩) (st':=⟨{st.d8 with ac:=Kh st.d8.ac at_ (i+1)},C,st.work⟩) 0 AA c.rep (c.apartB f.out) (Wj rfl rfl rfl) rfl (.f8 S 0 D.length))
  rw[I]at j;replace a':=AB a';replace ch:=AB ch;replace cc:=AB cc;replace d0:=AB d0;replace c:=AB c;have es:=AB r;cases c0:C3 st.d8.ac i at_ with
  |true=>
   rw[c0]at c2 ar;rw[T2]at ar;replace r:=AB r;refine ax ?_;have e1:Id.is S m=false:=Fk z j;have fv:Id.is m S=false:=Fk j z;have e5:(D.set i {x with dead:=true}).map Au++ad=(D.map Au++ad).set i [.int .i64 x.rc,.bool true]:=by
    rw[Ro _ _ (by simpa using d6),JP];rfl
   obtain⟨a5,e0,_⟩:=c.out.step (b':=b+33) AA (U.out (g.put S (.em 2 ((D.map Au++ad).set i [.int .i64 x.rc,.bool true]))) (by rw[get_put,e1];exact j) (Aq ad (by simp only[Av,As];rw[M9 _ _ AA];exact es.out) (by rw[get_put,is_self,←e5,←ar.out];rfl)) (.inl (by rw[I])) fun id b1 ai a7=>by rw[get_put,ai S zEk];rfl);refine ag.out (_,b+22) ⟨?_,⟨a5,e0⟩⟩;dsimp only;rw[get_put,e2];exact t
  |false=>
   rw[c0,Bool.or_false]at ar;rw[c0]at c2;replace r:=AB r;refine ax ?_;refine ag.out (g,b+13) ⟨t,⟨V',?_⟩⟩;have:Kh st.d8.ac at_ (i+1)=D:=by
    rw[ar.out];exact Qo dn
   dsimp only;rw[this];exact c.out.up AA
 .rintro i ⟨g,b⟩ J cx ⟨t,c⟩;dsimp only at*;obtain⟨V',c⟩:=c.out;rw[J.out,Ti]at c;obtain⟨D,s⟩: ∃D,D=MA st.d8.ac at_:=⟨_,rfl⟩;have r:D.length=st.d8.ac.length:=by rw[s,GU]
  rw[je,←s];rw[←s]at c;replace s:=AB s;have j:=c.rep.box;simp only[BK]at j;have bl:=Js c.rep.arr;rw[c.rep.be.len]at bl;dsimp only at bl;have h2:=c.rep.sl 2 AA;have H:=c.rep.sl 0 AA;simp only[Av,Dm]at h2 H;rcases H with⟨_,e7⟩|⟨S,ad,H,z⟩
  .rw[D6.1 e7]at r;have:=T.out.tree.pos;simp at r;omega
  rw[As]at H;have bc:=V'.s_mem m (i:=0) AA (id:=S) (by rw[H];simp[AE]);have d8:=c.apart f.out (n:=b+19) AA S bc;have c3: ∀w∈st.d8.waits,E7 D w.at_:=fun w e6=>by
   have:=T.out.wait w e6;simp only[Ca,AP,Ap]at this;rw[E7,r];exact this.1
  obtain⟨b6,Z⟩: ∃b6,b6=V'.s 2:=⟨_,rfl⟩;rw[←Z]at h2 j;have Y: ∀i∈AE b6,Id.under ((b+19)::π) i=false∧i≠0::0::π∧i≠m∧i≠S:=fun i J=>by
   have dr:=V'.s_mem m (i:=2) AA (id:=i) (by rw[←Z];exact J);obtain⟨x,y⟩:=H7 h2 J;exact⟨c.apart f.out (n:=b+19) AA i dr,fun e=>Dq c f.out 0 (e▸dr),fun e=>(by rw[e,j]at y;cases y),fun e=>(by rw[e,z]at y;cases y)⟩
  have e3:=AH.mk (xm (h:=g) (π:=(b+19)::π) (m:=m) (bx:=0::0::π) (S:=S) (L:=D) ⟨t,⟨_,_,_,_,_,_,_,_,_,_,_,_,by rw[j,H]⟩,⟨ad,z⟩,BR π AA,AI b5 _,d8⟩ st.d8.waits h2 Y AA c3);have U:=AB fun v=>DZ (N:=DS (b+11) (b+31) π) (st:=⟨{st.d8 with ac:=D},C,st.work⟩) (st':=⟨{st.d8 with ac:=D,waits:=st.d8.waits.filter fun w=> !Al D w.at_},C,st.work⟩) 2 AA c.rep (c.apartB f.out) (Wk rfl rfl rfl) rfl v
  have fp:=AB j;replace h2:=AB h2;replace Z:=AB Z;replace Y:=AB Y;replace c:=AB c;replace c3:=AB c3;replace r:=AB r;refine ax ?_;refine Ct e3.out (fun e' g1 u=>?_);obtain⟨a3,rfl,u,b2,⟨f6,f7⟩,a2⟩:=u;have d9:=AI b5 (b+19);have b8: ∀id∈AE b6,Id.is id m=false:=fun id K=>AF (Y.out id K).2.2.1;have en:=(Ah _ g1 _ d9).trans ((a2 m b8 d9).trans j);have c4:=(Ah _ g1 _ (BR π (show 0≠b+19 by omega))).trans ((a2 (0::0::π) (fun id K=>AF (Y.out id K).2.1) (BR π AA)).trans t);have e4:=sG (h:=g) (h':=gc ((b+19)::π) g1) t (by rw[c4];simp[Obj.same,AV.sames,AV.same,is_self]);obtain⟨F,cn⟩: ∃F,F=st.d8.waits.filter fun w=> !Al D w.at_:=⟨_,rfl⟩;rw[←cn]at u U⊢;obtain⟨M,Q⟩: ∃M,M=(gc ((b+19)::π) g1).put m (.box [.f8 S 0 D.length,V'.s 1,V'.v3,a3,.d (.bv (p.free.map Bp)),.d (.bv (p.nodes.map Ba)),.d (.bv (p.defs.map Bw)),nI p.main,.d (.bv (sz.map AR)),V'.v9,.mp V'.wd,V'.s 3,nI st.work]):=⟨_,rfl⟩;have a4:M.get m=some (.box (BK p sz (V'.ip 2 a3) st.work)):=by
   rw[Q,get_put,is_self,←H];rfl
  have b7:Kg M 3 a3 (F.map Ae):=H8 u fun id K=>by
   rw[b2]at K;have a0:=Y.out id K;rw[Q,get_put,AF fun e=>a0.2.2.1 e.symm,Co AG,Ah _ _ _ a0.1]
  obtain⟨a5,bs,_⟩:=c.out.step (b':=b+31) AA (U.out a3 M a4 b7 (.inl (by rw[b2,Z.out])) fun id b1 ai a7=>by rw[Q,get_put,b1,Co AG,Ah _ _ _ (KT a7 AA AA),a2 id (by rw[Z.out];exact ai) (KT a7 AA AA)]);have c5:M.get (0::0::π)=some (.box [.ptr m 0]):=by
   rw[Q,get_put,em,Co AG];exact c4
  replace cn:=AB cn;replace u:=AB u;replace a2:=AB a2;replace b2:=AB b2;replace b8:=AB b8;replace bs:=AB bs;replace c5:=AB c5;replace a4:=AB a4;replace b7:=AB b7;replace Q:=AB Q
  (repeat' (first|simp only[go_sem, *,↓bl,AM]|(refine sx ?_ ?_<;>intro bi)|refine sy AA fun x y a1=>?_|simp(disch:=first|assumption|omega) only[AU]))
  rw[←Q.out];have bv:a5.v3=V'.v3:=rZ (V:=V'.ip 2 a3) (Obj.box.inj (Is (a4.out.symm.trans bs.out.rep.box)));obtain⟨a6,cp⟩: ∃a6,a6=V'.v3:=⟨_,rfl⟩;rw[←cp]at bv⊢;replace cp:=AB cp;clear j en e4 c4 bl z H;clear bc d8 el;refine An st.d8.be _ (S:=fun c6 i (a:AD×Nat)=>⟨[(2,.ptr (0::0::π) 0),(51,a6),(52,nI c6),(53,nI i)],a.1,a.2+31,[]⟩)
   (Inv:=fun i fd a=>a.1.get (0::0::π)=some (.box [.ptr m 0])∧AH (∃V',V'.v3=a6∧Gg p sz π m V h (a.2+31) V' ⟨⟨D,st.d8.ce,L9 D st.d8.be i,F⟩,C,st.work⟩ a.1)) (b0:=(M,b)) rfl ⟨c5.out,⟨a5,bv,by rw[WB];exact bs.out⟩⟩ ?_ ?_
  .clear R c;rintro i q ⟨g,b⟩ W J cx ⟨t,c⟩ ag;dsimp only at*;obtain⟨V',B,c⟩:=c.out;have j:=c.rep.box;simp only[BK,B]at j;have d1:=(Pw ex T.out W).at_;have f8:=d1.1;have b3:=d1.2;obtain⟨b4,X,d2⟩:=c.rep.be.row _ _ (N2 (l:=D) W);rcases c.rep.arr with⟨_,P⟩|⟨A,P,dd⟩
   .rw[P]at X;simp at X
   have f3:=AL X;rw[B]at P;have d3:V'.rows.length=st.d8.be.length:=by
    have:=c.rep.be.len;simp only at this;rw[this,Zt _ _ (by have:=AL W;omega)]
   have dm:=r.out;obtain⟨sp,d4⟩:=get_some (l:=D) (i:=q.at_.toNat) AA;obtain⟨c8,gf,I,z,fi,d6,e8⟩:=FC (c.rep.sl 0 AA) d4;simp only[Dm]at z;rw[I]at j;have df:=V'.v3_mem m (id:=A) (by rw[B,P];simp[AE]);have bc:=V'.s_mem m (i:=0) AA (id:=c8) zEk;have f4:=C1 (b':=0) f.out (c.ids A df);have f5:=C1 (b':=0) f.out (c.ids c8 bc);have d7:=C1 (b':=0) f.out (c.ids m (V'.m_mem m));have ek: ∀k,Id.is A (0::k::π)=false:=fun k=>AF fun e=>Dq c f.out k (by rw[←e];exact df);have ds:AH (L9 D st.d8.be (i+1)=(L9 D st.d8.be i).set i (Oe D q)):=⟨V9 W⟩;have bk:Al D q.at_=sp.dead:=by rw[Al,d4];rfl
   have U:=AB fun h'=>Nd (N:=DS (b+31) (b+59) π) c.rep (c.apartB f.out) (by rw[B];exact P) (N2 (l:=D) W) X [] .d7 h';have f0:b4.isCell=true:=by rcases d2 with⟨rfl,_⟩|⟨_,_,rfl,_⟩<;>rfl
   have f1:b4.cells=[b4]:=by rcases d2 with⟨rfl,_⟩|⟨_,_,rfl,_⟩<;>rfl
   have f2:=AB X;simp only[Az]at X;replace dm:=AB dm;replace c:=AB c;replace B:=AB B;replace bk:=AB bk;replace d3:=AB d3
   (repeat' (first|simp only[go_sem, *,AM]|(refine sx ?_ ?_<;>intro bi)|refine sy AA fun x y a1=>?_|simp(disch:=first|assumption|omega) only[AU]))
   .have cs:AH (Oe D q={q with queue:=[]}):=⟨by rw[Oe,bk.out,bi,D5 rfl]⟩
    obtain⟨O,av⟩: ∃O,O=((g.put (0::(b+35)::π) (.box [nI 0,nI 0,nI 0,.d7])).put (0::(b+35)::π) (.box [nI q.group,nI q.index,nI q.at_,b4])).put A (.arr 4 (V'.rows.set i [nI q.group,nI q.index,nI q.at_,.d7])):=⟨_,rfl⟩;have c7:O.get m=some (.box (BK p sz V' st.work)):=by
     rw[av,get_put,AF (show A≠m from fun e=>by rw[e,j]at dd;cases dd),get_put,d7 _ _ AA,get_put,d7 _ _ AA];exact c.out.rep.box
    have d':O.get A=some (.arr 4 (V'.rows.set i (Az q .d7))):=by
     rw[av,get_put,is_self];rfl
    obtain⟨c9,dq,_⟩:=c.out.step (b':=b+59) AA (U.out O c7 d' (.inl ⟨rfl,rfl⟩) (.inr fun id K=>by simp[AE]at K) fun id b1 ai a7 c'=>by rw[av,get_put,ai,get_put,Af c' 0 (b+35) AA AA,get_put,Af c' 0 (b+35) AA AA];rfl);rw[←av];have ea:O.get (0::0::π)=some (.box [.ptr m 0]):=by
     rw[av,get_put,ek,get_put,AF AG,get_put,AF AG];exact t
    have bv:c9.v3=V'.v3:=rZ (V:=V') (Obj.box.inj (Is (c7.symm.trans dq.rep.box)));rw[←P];refine ag.out (O,b+28) ⟨ea,⟨c9,bv.trans B.out,?_⟩⟩;dsimp only;rw[ds.out,cs.out];exact dq
   .have cs:AH (Oe D q=q):=⟨by rw[Oe,bk.out,bi,Co AG]⟩;rw[←P];refine ag.out (_,b+19) ⟨?_,⟨V',B.out,?_⟩⟩
    .dsimp only;rw[get_put,AF AG,get_put,AF AG];exact t
    .dsimp only;rw[ds.out,cs.out,Qo (N2 (l:=D) W)];exact(c.out.loc f.out fun id a0=>by rw[get_put,a0 0 (b+35) AA,get_put,a0 0 (b+35) AA];rfl).up AA
  .rintro i ⟨g,b⟩ J cx ⟨t,c⟩;dsimp only at*;obtain⟨V',B,c⟩:=c.out;rw[J.out,Zs]at c;replace c:=AB c;refine ax ?_;exact c.out.fin
def PN(e:List GK)(st:CT):CT:=⟨st.d8,e++st.ev,st.work⟩
theorem sI(p:AX)(j:Gq)(e:List GK)(st:CT):JH p j (PN e st)=(JH p j st).map fun r=>(PN e r.1,r.2):=by
 simp only[JH];cases p.nodes[j.node.toNat]? with
 |none=>rfl
 |some x=>
  dsimp only;by_cases h2:x.op=2
  .simp only[h2,F7,Cv,PN];by_cases h:(Hs j.env x.n).kind=2
   .simp only[h,F7,F3,Dl]
   .by_cases i:(Hs j.env x.n).kind=3
    .simp only[i,F7,Int.reduceEq,FD];cases MU p st.d8 (Hs j.env x.n).n (x.args.map (·.value j.env))<;>rfl
    .simp only[h,i,FD];rfl
  by_cases a:x.op=3
  .simp only[a,Int.reduceEq,FD,F7];rfl
  by_cases b:x.op=4
  .simp only[b,Int.reduceEq,FD,F7,FK,PN];cases p.defs[x.n.toNat]? with
   |none=>rfl
   |some d=>
    dsimp only;split<;>rename_i f<;>simp[f]
  by_cases c:x.op=5
  .simp only[c,Int.reduceEq,FD,F7];rfl
  by_cases g:DV x.op=true
  .simp only[h2,a,b,c,g,FD,F7,FH,PN];split<;>rename_i f<;>simp[f]
  .simp only[h2,a,b,c,g,FD];rfl
theorem jt{f:Gq→CT→Option CT}{e:List GK}(a: ∀j st,f j (PN e st)=(f j st).map (PN e)): ∀(l:List Gq) (st:CT),CF f l (PN e st)=(CF f l st).map (PN e)
 |[],st=>rfl
 |j::l,st=>by
  rw[CF,CF,a];cases f j st with
  |none=>rfl
  |some b=>exact jt a l b
theorem YC(p:AX)(e:List GK): ∀(k:Nat) (j:Gq) (st:CT),Eb p k j (PN e st)=(Eb p k j st).map (PN e)
 |0,j,st=>rfl
 |k+1,j,st=>by
  rw[Eb,Eb];have a:(PN e st).work=st.work:=rfl;rw[a];by_cases h:st.work<400
  .rw[D5 h,D5 h];have:=sI p j e {st with work:=st.work+1}
   rw[show({PN e st with work:=st.work+1}:CT)=PN e {st with work:=st.work+1}from rfl,this]
   cases JH p j {st with work:=st.work+1}with
   |none=>rfl
   |some r=>exact jt (fun j st=>YC p e k j st) r.2 r.1
  .rw[Co h,Co h];rfl
def IK(p:AX)(s:BX)(e:List GK)(x:Dp):Option CT:=(DG p s x).map (PN e)
theorem Wv(f:Gq→CT→Option CT)(j:Gq)(st:CT):CF f [j] st=f j st:=by
 rw[CF];cases f j st<;>rfl
section
variable{p:AX}{s:BX}{e:List GK}{i:Nat}{w:GI}{y:C2}
theorem NB(a:s.waits[i]? =some w)(h2:p.nodes[w.node.toNat]? =some y):DG p s ⟨i,0,0,[]⟩=Nv p {s with waits:=CW s.waits i} w y:=by
 rw[DG,Co AZ,Qy];simp only[F8,a,h2]
theorem PZ(a:s.waits[i]? =some w)(h2:p.nodes[w.node.toNat]? =some y)(b:y.op=7):IK p s e ⟨i,0,0,[]⟩=some ⟨O0 {s with waits:=CW s.waits i} w.at_,e++[⟨3,w.at_,0,0,[]⟩],0⟩:=by
 rw[IK,NB a h2,Nv,D5 b];rfl
theorem U9(b:s.waits[i]? =some w)(h2:p.nodes[w.node.toNat]? =some y)(f:y.op=6){a:Int}(c:y.kids=[a]){v:Cl}(g:Hs w.env y.n=v):IK p s e ⟨i,0,0,[]⟩=Eb p 401 ⟨a,w.at_,w.env⟩ ⟨{s with waits:=CW s.waits i,ac:=FG s.ac w.at_ v.n},e++[⟨2,w.at_,v.n,0,[]⟩],0⟩:=by
 rw[IK,NB b h2,Nv,Co AA,D5 f,g,BL,c];simp only[F4];rw[Wv];exact(YC p e 401 _ _).symm
theorem Pa(b:s.waits[i]? =some w)(h2:p.nodes[w.node.toNat]? =some y)(g:y.op=8){a:Int}(c:y.kids=[a]){v:Cl}(f:Hs w.env y.n=v):IK p s e ⟨i,0,0,[]⟩=Eb p 401 ⟨a,w.at_,w.env⟩ ⟨{s with waits:=CW s.waits i},e++[⟨4,w.at_,v.n,0,[]⟩],0⟩:=by
 rw[IK,NB b h2,Nv,Co AA,Co AA,f,BL,c];simp only[F4];rw[Wv];exact(YC p e 401 _ _).symm
end
variable{sz:List Int}
theorem dQ{p:AX}{s:BX}{w:GI}{y:C2}(f:BO p sz)(h:Q2 p sz s w y)(j: ¬y.op=7): ∃c,y.kids=[c]:=by
 have g:CP p sz s ⟨w.node,w.at_,w.env⟩:=⟨h.n0,h.size,h.at_,h.live,h.of⟩;obtain⟨k,l,a,h2,_⟩:=JN f g;have a:p.nodes[w.node.toNat]? =some k:=a;rw[h.node]at a;cases a;simp only[DB,AP,Ap]at h2;have b:=h2.1;have i:y.kids.length=1:=by
  rcases h.op with e|e|e
  .rw[e]at b;simpa[Dh]using b.symm
  .exact absurd e j
  .rw[e]at b;simpa[Dh]using b.symm
 match y.kids,i with
 |[c],_=>exact⟨c,rfl⟩
variable{π:List Nat}{m:Abs.Id}{V:MV}{h:AD}
theorem bg{p:AX}{V':MV}{H g1:AD}{b n:Nat}{g:CT}{o:Ax}{r:Option CT}(f:Bz π V m)(e:Gg p sz π m V h b V' g H)(c:b≤n)(a:GL p sz (n::π) m V' H r o g1):GL p sz π m V h r o (gc (n::π) g1)∧(o=.ret (.ii [])∨o=.ge (DH 3)):=by
 cases r with
 |none=>exact⟨e.ge f c a,.inr a.1⟩
 |some j=>
  obtain⟨i,h2,_⟩:=e.call f c a;obtain⟨rfl,_⟩:=a;exact⟨h2.fin,.inl rfl⟩
theorem uM{p:AX}(av:BO p sz){st:CT}(bi:KA p sz h m V st)(c:Bz π V m)(T:GD p sz st.d8){x:Dp}(f2:Mq p st.d8 x)(gr:st.ev.length≤400000):
 ∃o h',KL Tryz.prog cfg (.fn 55) [.ptr m 0,Qq x] h π true none=.ok (o,h')∧GL p sz π m V h (IK p st.d8 st.ev x) o h':=by
 have bo:=bi.box;simp only[BK]at bo;have dd:=c m (V.m_mem m);have df:=AJ dd;have dm:=Ak dd;have d9:=T.small;simp only[BX.small,AP,Ap]at d9;obtain⟨eb,ej,g9,g'⟩:=d9;obtain⟨AO,u⟩: ∃AO:CT,AO=⟨st.d8,st.ev,0⟩:=⟨_,rfl⟩;have d6:AH (∀H:AD,H.get m=some (.box (BK p sz V 0))→(∀id,Id.is m id=false→Id.under π id=false→H.get id=h.get id)→Gg p sz π m V h 0 V AO H):=⟨fun H en es=>by
  have:=RV (st':=AO) bi c (by rw[u];exact en) (by rw[u];exact⟨rfl,rfl⟩) fun id b1 Q=>es id (AF fun e=>b1 e.symm) Q;exact⟨this.1,fun id fl=>.inl fl,this.2.frame⟩⟩
 replace bi:=AB bi;replace c:=AB c;replace T:=AB T;cases f2 with
 | @rt i k g d r t K h2 ds e4 cx=>
   have ar:AH (IK p st.d8 st.ev ⟨-1,i,k,t⟩=Eb p 401 ⟨r.node,g.place d r.at_,g.env++(CC d g r.eq t st.d8).1⟩ ⟨(CC d g r.eq t st.d8).2,st.ev++[⟨1,g.place d r.at_,i,k,(CC d g r.eq t st.d8).1⟩],0⟩):=⟨by
    have e2:st.d8.ce[((i:Nat):Int).toNat]? =some g:=K;have e3:d.rules[((k:Nat):Int).toNat]? =some r:=ds;rw[IK,DG,D5 AZ,cZ];simp only[e2,(FX h2).2,e3,Qg];exact(YC p st.ev 401 _ ⟨(CC d g r.eq t st.d8).2,[⟨1,g.place d r.at_,i,k,(CC d g r.eq t st.d8).1⟩],0⟩).symm⟩
   replace cx:=AB cx;replace u:=AB u;have J:Gg p sz π m V h 0 V AO ((h.put (0::0::π) (.box [nI (-1),nI i,nI k,.d (.bv (t.map AR))])).put m (.box (BK p sz V 0))):=d6.out _ (by rw[get_put,is_self];rfl) fun id b1 Q=>by
    have bv:=AJ Q;rw[get_put,b1,get_put,bv];rfl
   have fv:=AH.mk (vg av (π:=10::π) (st:=AO) J.rep (J.apart c.out (n:=10) AA) (i:=i) (k:=k) (g:=g) (d:=d) (r:=r) (t:=t) (by rw[u.out];exact T.out) (by rw[u.out];exact K) h2 ds (by rw[u.out];exact e4) (by rw[u.out];exact cx.out) (by rw[u.out]) (by rw[u.out];dsimp only;omega));have c4:=AB fun o g1 r=>bg (o:=o) (g1:=g1) (r:=r) c.out J (show 0≤10 by omega);replace J:=AB J;refine BT Tryz.func55 ?_;refine ax ?_;refine Ad fv.out (fun ad g1 b=>?_);obtain⟨P,f9⟩:=c4.out _ _ _ b;have c0:GL p sz π m V h (IK p st.d8 st.ev ⟨-1,i,k,t⟩) ad (gc (10::π) g1):=by
    rw[ar.out];rw[u.out]at P;exact P
   replace c0:=AB c0;replace b:=AB b;replace P:=AB P;rcases f9 with rfl|rfl;all_goals
    refine ax ?_;exact c0.out
 | @wait i w K h2=>
   obtain⟨y,U⟩:=Ob av (T.out.wait w (AS K));have fp:=AL K;obtain⟨W,ek,a5,b3,hd,g4,g5⟩:=FC (bi.out.sl 2 AA) K;simp only[Dm]at b3;have fd:=V.s_mem m (i:=2) AA (id:=W) (by rw[a5];simp[AE]);have b8:=c.out W fd;have cn:=AJ b8;have ex:=Ak b8;have em:Id.is W m=false:=Fk b3 bo;have ea:Id.is m W=false:=Fk bo b3;have gv: ¬(i:Int)<0:=AA;have hb:IntKind.i64.wrap ((i:Int)+1)=(i:Int)+1:=wrap_id AA AA;have a6:=U.node;have gu:=U.n0;have gw:=AL a6;have gs:=AB bo;rw[a5]at bo;replace u:=AB u;replace U:=AB U;have c2:=fun(H:AD) (n:Nat) (e8:H.get W=some (.em 3 (st.d8.waits.map Ae++ek)))=>X8 (π:=n::π) e8 (AI b8 n) (n:=st.d8.waits.length) (a:=i) AG AA (by intro e fi;obtain⟨x,_,rfl⟩:=F2.1 fi;rfl) AA;replace c2:=AB c2;obtain⟨X,Y⟩: ∃X:AD,X=(((h.put (0::0::π) (.box [nI i,nI 0,nI 0,.d (.bv [])])).put m (.box [V.s 0,V.s 1,V.v3,.f8 W 0 st.d8.waits.length,.d (.bv (p.free.map Bp)),.d (.bv (p.nodes.map Ba)),.d (.bv (p.defs.map Bw)),nI p.main,.d (.bv (sz.map AR)),V.v9,.mp V.wd,V.s 3,nI 0])).put (0::17::π) (.box [nI 0,nI 0,.d7])).put (0::17::π) (.box [nI w.at_,nI w.node,.d (.bv (w.env.map AN))]):=⟨_,rfl⟩;have J:Gg p sz π m V h 0 V AO X:=d6.out X (by rw[Y,get_put,df,get_put,df,get_put,is_self,Co AG,Co AG,D5 rfl,BK,a5]) fun id b1 Q=>by
    have bv:=AJ Q;rw[Y,get_put,bv,get_put,bv,get_put,b1,get_put,bv];rfl
   have f3:X.get (0::0::π)=some (.box [nI i,nI 0,nI 0,.d (.bv [])]):=by
    rw[Y,get_put,AF AG,get_put,AF AG,get_put,dm,get_put,is_self];rfl
   have a7:X.get (0::17::π)=some (.box [nI w.at_,nI w.node,.d (.bv (w.env.map AN))]):=by
    rw[Y,get_put,is_self];rfl
   clear f3;have dr:X.get m=some (.box [V.s 0,V.s 1,V.v3,.f8 W 0 st.d8.waits.length,.d (.bv (p.free.map Bp)),.d (.bv (p.nodes.map Ba)),.d (.bv (p.defs.map Bw)),nI p.main,.d (.bv (sz.map AR)),V.v9,.mp V.wd,V.s 3,nI 0]):=by rw[J.rep.box,BK,a5,u.out]
   have dn:X.get W=some (.em 3 (st.d8.waits.map Ae++ek)):=by
    rw[Y,get_put,cn,get_put,cn,get_put,ea,get_put,cn];exact b3
   refine BT Tryz.func55 ?_;refine ax ?_;rw[←Y];refine Ad (c2.out _ 30 dn) (fun ad g1 b=>?_);obtain⟨rfl,⟨gb,b⟩,P⟩:=b;have f':=AI b8 30;have ga:=AI dd 30;have f4:=(Ah (30::π) g1 _ (BR π (show 17≠30 by omega))).trans ((P _ (ex 0 17)).trans a7);have e1:=(Ah (30::π) g1 _ ga).trans ((P _ em).trans dr);have dq:=(Ah (30::π) g1 _ f').trans b;obtain⟨q,f⟩: ∃eb:BX,eb={st.d8 with waits:=CW st.d8.waits i}:=⟨_,rfl⟩
   obtain⟨C,M⟩: ∃C,C=((gc (30::π) g1).put m (.box [V.s 0,V.s 1,V.v3,.f8 W 0 (st.d8.waits.length-1),.d (.bv (p.free.map Bp)),.d (.bv (p.nodes.map Ba)),.d (.bv (p.defs.map Bw)),nI p.main,.d (.bv (sz.map AR)),V.v9,.mp V.wd,V.s 3,nI 0])):=⟨_,rfl⟩;have b0:C.get m=some (.box (BK p sz (V.ip 2 (.f8 W 0 (st.d8.waits.length-1))) 0)):=by rw[M,get_put,is_self];rfl
   have cc:Kg C 3 (.f8 W 0 (st.d8.waits.length-1)) (Av ⟨q,st.ev,0⟩ 2):=by
    refine Aq gb ?_ ?_
    .rw[f,Av,As,WX (by simpa using fp)]
    .rw[M,get_put,ea,Co AG,dq,f,Av,CW,BE,OL,Pp,F8]
   obtain⟨a4,A,_⟩:=(J.up (b':=30) AA).step (b':=36) AA (DZ (st':=⟨q,st.ev,0⟩) 2 AA J.rep ((J.up (b':=30) AA).apartB c.out) (Wk (by rw[f,u.out]) (by rw[f,u.out]) (by rw[u.out])) (by rw[f,u.out]) (.f8 W 0 (st.d8.waits.length-1)) C b0 cc (.inl (by rw[a5];rfl)) fun id b1 Q de=>by rw[M,get_put,b1,Co AG,Ah _ _ _ (KT de AA AA),P id (Q W (by rw[a5];simp[AE]))]);have a7:C.get (0::17::π)=some (.box [nI w.at_,nI w.node,.d (.bv (w.env.map AN))]):=by
    rw[M,get_put,dm,Co AG];exact f4
   have cp:=A.rep.box;have c1:a4.s 0=V.s 0:=by
    have:=Obj.box.inj (Is (b0.symm.trans A.rep.box));simp only[BK,Mt]at this;exact this.1.symm
   simp only[BK]at cp;replace b0:=AB b0;replace cc:=AB cc;replace Y:=AB Y;replace J:=AB J;replace f:=AB f;replace b:=AB b;replace P:=AB P;clear dr dn dq;replace M:=AB M;replace cp:=AB cp;replace a7:=AB a7;have bs:GD p sz q:=by
    rw[f.out];exact OZ T.out zFo fun v d'=>T.out.wait v (N4 d')
   have b5:=T.out.wait w (AS K);replace bs:=AB bs;replace b5:=AB b5;have fs:=U.out.op;by_cases be:y.op=7
   .have ar:AH (IK p st.d8 st.ev ⟨i,0,0,[]⟩=some ⟨O0 q w.at_,st.ev++[⟨3,w.at_,0,0,[]⟩],0⟩):=⟨by rw[f.out];exact PZ K a6 be⟩;clear fs;replace h2:=AB h2;replace A:=AB A;have f1:=AB fun H c6=>zu av (h:=H) (π:=53::π) (A.out.loc c.out (H:=H) c6).rep (A.out.apart c.out (n:=53) AA) bs.out (at_:=w.at_) (by have:=b5.out;simp only[Ca,AP,Ap]at this;rw[f.out];exact this.1) AZ;have c4:=AB fun H c6 o g1 r=>bg (o:=o) (g1:=g1) (r:=r) c.out (A.out.loc c.out (H:=H) c6) (show 36≤53 by omega);refine ax ?_;rw[←M.out];have d4: ∀ad b6:Abs.Obj,∀id,(∀a n,36≤n→Id.is (a::n::π) id=false)→((C.put (0::44::π) ad).put (0::44::π) b6).get id=C.get id:=fun ad b6 id N=>by rw[get_put,N 0 44 AA,get_put,N 0 44 AA];rfl
    refine Ad (f1.out _ (d4 _ _)) (fun ad g1 b=>?_);obtain⟨z,b7⟩:=c4.out _ (d4 _ _) _ _ _ b;replace z:=AB z;obtain rfl:=b.1;replace b:=AB b;refine ax ?_;rw[ar.out];exact z.out
   .obtain⟨v,d',a1,c'⟩:=U.out.val be;obtain⟨L,c5⟩:=dQ av U.out be;obtain⟨g6,g7⟩:=U.out.n be;have B:=h2;rw[qr,a6]at B;simp only[be,FD,a1]at B;have d3:v.kind=4:=by
     by_cases d2:v.kind=4
     .exact d2
     .rw[Co d2]at B;cases B
    rw[D5 d3]at B;obtain⟨a',ha,g3,g2⟩:=c' d3;have gz:=a'.1;have g0:=a'.2;have az:=U.out.at_;have bl:=fun(s:BX) (h:Ca p sz s w=true)=>Nw av h a6 0;rw[show BL y 0 w.at_ w.env=[⟨L,w.at_,w.env⟩] by rw[BL,c5];rfl]at bl;replace h2:=AB h2;replace c':=AB c';replace A:=AB A;replace a':=AB a';replace bl:=AB bl;by_cases e5:y.op=6
    .rw[Co AA]at B;simp only[AP,Ap,HW]at B;have d5:0<w.at_:=by have:=az.1;omega
     have gm:=az.1;have gn:=az.2;obtain⟨sp,d8⟩:=get_some (l:=st.d8.ac) (i:=w.at_.toNat) AA;have c7:=Ln T.out d5 az a'.out B.2.1 B.2.2;have c8:=Ln bs.out (i:=w.at_) (n:=v.n) d5 (by rw[f.out];exact az) (by rw[f.out];exact a'.out) (by rw[f.out];exact B.2.1) (by rw[f.out];exact B.2.2);obtain⟨S,bc,bk,ai,hc,f5,f6⟩:=FC (A.out.rep.sl 0 AA) (show q.ac[w.at_.toNat]? =some sp by rw[f.out];exact d8);simp only[Dm]at ai;have d7:q.ac.length=st.d8.ac.length:=by rw[f.out]
     have f0:AH (FG q.ac w.at_ v.n=q.ac.set w.at_.toNat {sp with rc:=v.n}):=⟨by rw[FG,f.out];simp only[d8]⟩
     obtain⟨bx,O⟩: ∃ej:BX,ej={q with ac:=FG q.ac w.at_ v.n}:=⟨_,rfl⟩
     have ar:AH (IK p st.d8 st.ev ⟨i,0,0,[]⟩=Eb p 401 ⟨L,w.at_,w.env⟩ ⟨bx,st.ev++[⟨2,w.at_,v.n,0,[]⟩],0⟩):=⟨by rw[O,f.out];exact U9 K a6 e5 c5 a1⟩;obtain⟨I,D⟩: ∃I,I=(C.put (0::44::π) (.box [nI 0,nI 0,.d7,.d7])).put (0::44::π) (.box [nI 6,nI y.n,.d (.bv (y.args.map BQ)),.d (.bv [[.int .i64 L]])]):=⟨_,rfl⟩;have F:Gg p sz π m V h 52 a4 ⟨q,st.ev,0⟩ I:=(A.out.loc c.out (H:=I) fun id N=>by rw[D,get_put,N 0 44 AA,get_put,N 0 44 AA];rfl).up AA;have d1:=a4.s_mem m (i:=0) AA (id:=S) (by rw[bk];simp[AE]);have g8:=C1 (b':=0) c.out (A.out.ids S d1);have b2: ∀k,Id.is S (0::k::π)=false:=fun k=>AF fun e=>Dq A.out c.out k (by rw[←e];exact d1);have e':Id.is S m=false:=AF fun e=>by rw[e,A.out.rep.box]at ai;cases ai
     have fr:Id.is m S=false:=AF fun e=>by rw[←e,A.out.rep.box]at ai;cases ai
     have gi:(gc (30::π) g1).get S=some (.em 2 (q.ac.map Au++bc)):=by
      have e7:=ai
      rwa [M.out,get_put,fr,Co AG]at e7
     have b4:=M.out;rw[←c1,bk,d7]at e1 b4;have d0:I.get S=some (.em 2 (q.ac.map Au++bc)):=by
      rw[D,get_put,AF (fun e=>by have:=b2 44;rw[e,is_self]at this;cases this),get_put,AF (fun e=>by have:=b2 44;rw[e,is_self]at this;cases this)];exact ai
     obtain⟨ag,Z⟩: ∃ag,ag=I.put S (.em 2 ((q.ac.map Au++bc).set w.at_.toNat [.int .i64 v.n,.bool sp.dead])):=⟨_,rfl⟩;have c9:bx.ac.map Au++bc=(q.ac.map Au++bc).set w.at_.toNat [.int .i64 v.n,.bool sp.dead]:=by
      rw[O,f0.out,Ro _ _ Aa,JP];rfl
     have ch:ag.get m=some (.box (BK p sz (a4.ip 0 (.f8 S 0 q.ac.length)) 0)):=by
      rw[Z,get_put,e',Co AG,F.rep.box];simp only[BK,←bk];rfl
     have cl:Kg ag 2 (.f8 S 0 q.ac.length) (Av ⟨bx,st.ev,0⟩ 0):=by
      refine Aq bc ?_ ?_
      .rw[Av,As,O,JQ]
      .rw[Z,get_put,is_self,D5 rfl,Av,c9]
     obtain⟨el,a0,_⟩:=F.step (b':=69) AA (DZ (st':=⟨bx,st.ev,0⟩) 0 AA F.rep (F.apartB c.out) (Wj (by rw[O]) (by rw[O]) rfl) (by rw[O]) (.f8 S 0 q.ac.length) ag ch cl (.inl (by rw[bk])) fun id b1 Q de=>by rw[Z,get_put,Q S (by rw[bk];simp[AE])];rfl);have a3:ag.get (0::44::π)=some (.box [nI 6,nI y.n,.d (.bv (y.args.map BQ)),.d (.bv [[.int .i64 L]])]):=by rw[Z,get_put,b2,Co AG,D,get_put,is_self];rfl
     have a2:ag.get (0::17::π)=some (.box [nI w.at_,nI w.node,.d (.bv (w.env.map AN))]):=by
      rw[Z,get_put,b2,Co AG,D,get_put,AF AG,get_put,AF AG];exact a7.out
     replace ch:=AB ch;replace cl:=AB cl;replace c9:=AB c9;replace d0:=AB d0;replace a0:=AB a0;replace a3:=AB a3;replace a2:=AB a2;replace Z:=AB Z;replace b4:=AB b4;rw[d7]at f5 f6;replace F:=AB F;replace D:=AB D;replace O:=AB O;replace c7:=AB c7;replace c8:=AB c8;replace B:=AB B;replace a1:=AB a1;replace az:=AB az;replace c1:=AB c1;refine ax ?_;rw[←b4.out,←D.out,←Z.out];refine Ad (KI (V:=el) (st:=⟨bx,st.ev,0⟩) a0.out.rep (a0.out.apart c.out (n:=79) AA) 2 w.at_ v.n 0 [] AG AZ) (fun ad g1 b=>?_);obtain⟨gg,R,_⟩:=a0.out.call c.out (n:=79) AA b;have f7:=(a0.out.box c.out (k:=17) AA b).trans a2.out;have f8:=(a0.out.box c.out (k:=44) AA b).trans a3.out;obtain rfl:=b.1;have cs:=R.rep.box;simp only[BK]at cs;have c3:=AB fun C=>P3 av c.out R (j:=⟨L,w.at_,w.env⟩) ⟨by rw[O.out];exact c8.out,AZ,AZ,AZ,Aa⟩ (by rw[O.out,f.out];exact J2 (bl.out _ (c7.out.wait w (AS K)) ⟨L,w.at_,w.env⟩ AG) (CW st.d8.waits i)) C 89 AA;replace R:=AB R;replace b:=AB b;refine ax ?_;refine Ad (c3.out _ fun id N=>rfl) (fun b6 e0 z=>?_);obtain⟨z,b7⟩:=z;rw[←ar.out]at z;replace z:=AB z;rcases b7 with rfl|rfl;all_goals
      refine ax ?_;exact z.out
    .have e6:y.op=8:=AA;have ar:AH (IK p st.d8 st.ev ⟨i,0,0,[]⟩=Eb p 401 ⟨L,w.at_,w.env⟩ ⟨q,st.ev++[⟨4,w.at_,v.n,0,[]⟩],0⟩):=⟨by rw[f.out];exact Pa K a6 e6 c5 a1⟩;replace B:=AB B;replace a1:=AB a1;obtain⟨I,D⟩: ∃I,I=(C.put (0::44::π) (.box [nI 0,nI 0,.d7,.d7])).put (0::44::π) (.box [nI 8,nI y.n,.d (.bv (y.args.map BQ)),.d (.bv [[.int .i64 L]])]):=⟨_,rfl⟩;have F:Gg p sz π m V h 54 a4 ⟨q,st.ev,0⟩ I:=(A.out.loc c.out (H:=I) fun id N=>by rw[D,get_put,N 0 44 AA,get_put,N 0 44 AA];rfl).up AA;have a3:I.get (0::44::π)=some (.box [nI 8,nI y.n,.d (.bv (y.args.map BQ)),.d (.bv [[.int .i64 L]])]):=by rw[D,get_put,is_self];rfl
     have a2:I.get (0::17::π)=some (.box [nI w.at_,nI w.node,.d (.bv (w.env.map AN))]):=by
      rw[D,get_put,AF AG,get_put,AF AG];exact a7.out
     replace F:=AB F;replace a3:=AB a3;replace a2:=AB a2;replace D:=AB D;refine ax ?_;rw[←M.out,←D.out];refine Ad (KI (V:=a4) (st:=⟨q,st.ev,0⟩) F.out.rep (F.out.apart c.out (n:=64) AA) 4 w.at_ v.n 0 [] AG AZ) (fun ad g1 b=>?_);obtain⟨gf,R,_⟩:=F.out.call c.out (n:=64) AA b;have f7:=(F.out.box c.out (k:=17) AA b).trans a2.out;have f8:=(F.out.box c.out (k:=44) AA b).trans a3.out;obtain rfl:=b.1;have cs:=R.rep.box;simp only[BK]at cs;have c3:=AB fun C=>P3 av c.out R (j:=⟨L,w.at_,w.env⟩) ⟨bs.out,AZ,AZ,AZ,Aa⟩ (by rw[f.out];exact J2 (bl.out _ b5.out ⟨L,w.at_,w.env⟩ AG) _) C 74 AA;replace R:=AB R;replace b:=AB b;refine ax ?_;refine Ad (c3.out _ fun id N=>rfl) (fun b6 e0 z=>?_);obtain⟨z,b7⟩:=z;rw[←ar.out]at z;replace z:=AB z;rcases b7 with rfl|rfl;all_goals
      refine ax ?_;exact z.out
theorem XR{a b:List Int}(g:a.length=b.length){i:Nat}{x y:Int}(f:a[i]? =some x)(c:b[i]? =some y)(h: ¬x=y):decide (a=b)=false:=by
 refine Ci fun e=>?_;subst e;rw[f]at c;exact h (Is c)
theorem ZG(a b:List Int)(s:a.length≤1000000):BU (KL Tryz.prog cfg) 29 [.d (.bv (a.map AR)),.d (.bv (b.map AR))] []=.ok (.ret (.d (.bool (decide (a=b)))),[]):=by
 by_cases p:(a.length:Int)=b.length
 .refine A7 Tryz.func29 ?_;refine aw ?_;refine Aj a (S:=fun i (_:Unit)=>⟨[(0,.d (.bv (a.map AR))),(1,.d (.bv (b.map AR))),(5,nI i)],[],0,[]⟩)
   (Inv:=fun i t _=>AH (a.take i=b.take i)) (b0:=()) ⟨AG⟩ ?_ ?_
  .rintro i y _ g f o c l;have n:i<b.length:=AA;have m:(i:Int)<b.length:=AA;have u:IntKind.i64.wrap ((i:Int)+1)=(i:Int)+1:=wrap_id AA AA;obtain⟨z,k⟩:=get_some n;have q:=AH.mk (XR AA g k);by_cases j:y=z
   .subst j;have r:AH (a.take (i+1)=b.take (i+1)):=⟨by rw[F6,F6,c.out,g,k]⟩;refine aw ?_;exact l.out () r
   .rw[q.out j];exact au
  .rintro i _ f o c;have:decide (a=b)=true:=D1 (by
    have h:=c.out
    rwa [f.out,D3,show a.length=b.length by omega,D3]at h)
   rw[this];have m: ¬(i:Int)<b.length:=AA;exact au
 .rw[Ci fun e=>p (by rw[e])];refine A7 Tryz.func29 ?_;exact au
theorem ZH(x y:Dp)(b:x.kw.length≤1000000):BU (KL Tryz.prog cfg) 19 [Qq x,Qq y] []=.ok (.ret (.d (.bool (decide (x=y)))),[]):=by
 have c:=ZG x.kw y.kw b;have a:AH (decide (x=y)=(decide (x.wait=y.wait)&&(decide (x.group=y.group)&&(decide (x.rt=y.rt)&&decide (x.kw=y.kw))))):=⟨by
  have:(x=y)↔(x.wait=y.wait∧x.group=y.group∧x.rt=y.rt∧x.kw=y.kw):=by cases x;cases y;simp
  rw[MD];simp only[AP,Ap];exact this⟩
 rw[a.out];refine A7 Tryz.func19 ?_;exact au;all_goals simp[*]
end Go.Proofs
