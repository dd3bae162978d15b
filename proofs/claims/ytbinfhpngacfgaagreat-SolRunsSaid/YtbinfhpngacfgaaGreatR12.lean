/- P -/
import Derived.Test.YtbinfhpngacfgaaGreatR11
set_option linter.all false
set_option maxRecDepth 99999
set_option maxHeartbeats 0
namespace Go
def zEZ{p:Prop}(h:p:=by first|assumption|(show ch.many=0;assumption)):p:=h
def zEf{p:Prop}(h:p:=by first|assumption|(show¬ch.many=0;assumption)):p:=h
def zEk{p:Prop}(h:p:=by rw[az];simp[AE]):p:=h
def zEn{p:Prop}(h:p:=by rw[I];simp[AE]):p:=h
def zEp{p:Prop}(h:p:=by have:=O (b+54) AA;rw[<-e,show Id.under ((b+54)::π) (1::0::2::(b+54)::π)=true from Ar [1,0,2]]at this;cases this):p:=h
def zEu{p:Prop}(h:p:=by rw[Y];simp[AE]):p:=h
def zE6{p:Prop}(h:p:=by simp only[AE,Ac]at D;subst D;exact Kn (n:=b+63) AA (under_iff.2 ⟨[1],rfl⟩)):p:=h
def zE8{p:Prop}(h:p:=by rw[M];simp[AE]):p:=h
def zFC{p:Prop}(h:p:=by simp only[AE,Ac]at D;subst D;exact s.out.run.new w.out 1 _ AA):p:=h
def zFJ{p:Prop}(h:p:=by rw[Ag b]at h;exact(To h).2):p:=h
def zFN{p:Prop}(h:p:=by rw[F2];omega):p:=h
def zFR{p:Prop}(h:p:=by first|assumption|omega):p:=h
def zFf{p:Prop}(h:p:=by first|assumption|omega|(rw[ad.1];decide)):p:=h
def zFj{p:Prop}(h:p:=by rw[e];rfl):p:=h
def zFl{p:Prop}(h:p:=by rw[CK];simp):p:=h
def zFq{p:Prop}(h:p:=by have:=QU st.d8.waits (i:Int);omega):p:=h
end Go
namespace Go
def zAB{p:Prop}(h:p:=by
 rcases zs with _|⟨z,zs⟩;all_goals
  (repeat' (first|simp only[go_sem, *,AM]|(refine sx ?_ ?_<;>intro a4)|refine sy AA fun x cc a1=>?_|simp(disch:=first|assumption|omega) only[AR]))
  all_goals (first|(rw[b7.1 Bw];exact a3.1 _ (fun id b=>by have f:=AI b;simp only[go_sem,f,AM]))|(rw[b8.1 zEf];exact a3.1 _ (fun id b=>by have f:=AI b;simp only[go_sem,f,AM]))|(rw[b'.1 Bw zEZ zFf];refine⟨rfl,?_⟩;first|(refine go.1 (.f8 (1::(b+94)::π) 0 (q.queue.length+1)) _ ?_ ?_ (Ao [] ?_ ?_) (.inr fun B w=>?_) fun B b1 C F t=>?_;all_goals (first|(simp only[AE,Ac]at w;subst w;exact⟨Ar [1,b+94],_,rfl⟩)|(have f:=AI t;have k:=u.1 B t;have K:=F Q BH;simp only[go_sem,f,k,b1,C,K,AM];done)|(simp;done)|(simp only[go_sem,Z,ac,T,U,Y,ag,J,BL,N.1,M.1,D.1,A6,BE,BY,AM,az,a0,ar,ai,av,a2];first|done|rfl));done)|(refine go.1 (.f8 Q 0 (q.queue.length+1)) _ ?_ ?_ (Ao zs ?_ ?_) (.inl rfl) fun B b1 C F t=>?_;all_goals (first|(simp only[AE,Ac]at w;subst w;exact⟨Ar [1,b+94],_,rfl⟩)|(have f:=AI t;have k:=u.1 B t;have K:=F Q BH;simp only[go_sem,f,k,b1,C,K,AM];done)|(simp;done)|(simp only[go_sem,Z,ac,T,U,Y,ag,J,BL,N.1,M.1,D.1,A6,BE,BY,AM,az,a0,ar,ai,av,a2];first|done|rfl))))|(rw[d4.1 Bw zEZ zFR];refine⟨rfl,?_⟩;first|(refine bx.1 (.f8 (1::(b+94)::π) 0 (q.queue.length+1)) _ ?_ ?_ (Ao [] ?_ ?_) (.inr fun B w=>?_) fun B b1 C F t=>?_;all_goals (first|(simp only[AE,Ac]at w;subst w;exact⟨Ar [1,b+94],_,rfl⟩)|(have f:=AI t;have k:=u.1 B t;have K:=F Q BH;simp only[go_sem,f,k,b1,C,K,AM];done)|(simp;done)|(simp only[go_sem,Z,ac,T,U,Y,ag,J,BL,N.1,M.1,D.1,A6,BE,BY,AM,az,a0,ar,ai,av,a2];first|done|rfl));done)|(refine bx.1 (.f8 Q 0 (q.queue.length+1)) _ ?_ ?_ (Ao zs ?_ ?_) (.inl rfl) fun B b1 C F t=>?_;all_goals (first|(simp only[AE,Ac]at w;subst w;exact⟨Ar [1,b+94],_,rfl⟩)|(have f:=AI t;have k:=u.1 B t;have K:=F Q BH;simp only[go_sem,f,k,b1,C,K,AM];done)|(simp;done)|(simp only[go_sem,Z,ac,T,U,Y,ag,J,BL,N.1,M.1,D.1,A6,BE,BY,AM,az,a0,ar,ai,av,a2];first|done|rfl)))))):p:=h
def zAG{p:Prop}(h:p:=by
 (repeat' (first|simp only[go_sem, *,AM]|(refine sx ?_ ?_<;>intro a4)|refine sy AA fun x cc a1=>?_|simp(disch:=first|assumption|omega) only[AR]))
 all_goals (first|(rw[b7.1 Bw];exact a3.1 _ (fun id b=>by have f:=AI b;simp only[go_sem,f,AM]))|(rw[b8.1 zEf];exact a3.1 _ (fun id b=>by have f:=AI b;simp only[go_sem,f,AM]))|(rw[b'.1 Bw zEZ zFf];refine⟨rfl,?_⟩;first|(refine go.1 (.f8 (1::(b+94)::π) 0 1) _ ?_ ?_ (Ao [] ?_ ?_) (.inr fun B w=>?_) fun B b1 C F t=>?_;all_goals (first|(simp only[AE,Ac]at w;subst w;exact⟨Ar [1,b+94],_,rfl⟩)|(have f:=AI t;have k:=u.1 B t;simp only[go_sem,f,k,b1,C,AM];done)|(simp[ad.1];done)|(simp only[go_sem,Z,ac,T,U,Y,ag,J,BL,N.1,M.1,D.1,A6,BE,BY,AM,ad.1];first|done|rfl));done)))):p:=h
def zAH{p:Prop}(h:p:=by (first|(refine go.1 (.f8 (1::16::π) 0 (st.d8.waits.length+1)) _ ?_ (Ao [] ?_ ?_) (.inr fun g c=>?_) (fun g b1 q a=>?_);all_goals (try simp only[Ax,Dt]);all_goals (first|(simp only[AE,Ac]at c;subst c;exact⟨Ar [1,16],_,rfl⟩)|(have k:=AI a;have n:=Dx a;have s:=O _ q;simp only[go_sem,k,n,b1,s,AM];done)|(simp;done)|(simp only[go_sem,t,u,w,z,K,L,M,N,I,J,BE,BY,AM];first|done|rfl));done)|(refine go.1 (.f8 id 0 (st.d8.waits.length+1)) _ ?_ (Ao x ?_ ?_) (.inl (U _ rfl)) (fun g b1 q a=>?_);all_goals (try simp only[Ax,Dt]);all_goals (first|(simp only[AE,Ac]at c;subst c;exact⟨Ar [1,16],_,rfl⟩)|(have k:=AI a;have n:=Dx a;have s:=O _ q;simp only[go_sem,k,n,b1,s,AM];done)|(simp;done)|(simp only[go_sem,t,u,w,z,K,L,M,N,I,J,BE,BY,AM];first|done|rfl))))):p:=h
def zAM{p:Prop}(h:p:=by
 rw[s]at f M;have ad:=Jb az k _ _ _ A.1.qr cn.1 s;obtain⟨w,U,q,z⟩:=f.ret K rfl;subst w;have b0:=(f.box 0 AA).trans Q;have a':=(f.box 10 AA).trans N;have bc:=(f.box 31 AA).trans D;have P:=fun i t=>f.pm i (v.1 i t) (O.1 i t).1 (O.1 i t).2;replace f:=AB f;replace s:=AB s;replace q:=AB q;replace z:=AB z;replace P:=AB P;refine ax ?_;refine b'.1 (_,c+20) ⟨⟨U,K,q.1.up AA,fun i t=>z.1 i (v.1 i t) (O.1 i t).2,A.1.post ad,fun ai bl=>Mg (C.1 ai ?_) ad.ext,?_⟩,b0,a',?_,AA,⟨L3 B.1 P.1⟩⟩
 .rw[CK,Cs];exact F0 _ bl
 .rw[u.1,M.1];rfl
 .exact bc.trans (by rw[I])):p:=h
def zAS{p:Prop}(h:p:=by have Z:=Af T;have a3:=W S zE8;simp only[go_sem,Z,b1,a3,AM]):p:=h
def zAd{p:Prop}(h:p:=by have B:=AF (a:=1::0::2::(b+54)::π) (b:=id) fun e=>zEp;have F:=AF (a:=1::(b+56)::π) (b:=id) fun e=>(by have:=O (b+56) AA;rw[<-e,show Id.under ((b+56)::π) (1::(b+56)::π)=true from Ar [1]]at this;cases this);simp only[go_sem,B,F,AM]):p:=h
def zAe{p:Prop}(h:p:=by have f:=AI b;have k:=u.1 id b;simp only[go_sem,f,k,AM]):p:=h
def zAx{p:Prop}(h:p:=by
 constructor
 .intro h;cases h
 .rintro⟨j,hj,w,hw,_⟩;obtain⟨a,_⟩:=BV.1 hw;omega):p:=h
def zA7{p:Prop}(h:p:=by simp only[F7,t]at k;have c:=c (es++x) (by rw[<-DO,show es.length-1=a by omega,T0 (show es.length<=a+1 by omega)];simp[<-DO]);replace j:=AB j;refine aw ?_;exact⟨⟨_,rfl⟩,fun i p=>by simp[p]⟩):p:=h
def zBC{p:Prop}(h:p:=by simp only[AE,Ac]at a';subst a';exact⟨CQ (b+61) [1] AA AA,_,rfl⟩):p:=h
def zBE{p:Prop}(h:p:=by
 refine Az Tryz.func58 ?_
 (repeat' (first|simp only[go_sem, *]|(refine sx ?_ ?_<;>intro a)|refine sy AA fun x c b=>?_|simp(disch:=first|assumption|omega) only[AR]))
 all_goals omega):p:=h
def zBU{p:Prop}(h:p:=by have:=congrArg (fun l=>l[0]?) h;simpa using this):p:=h
def zBg{p:Prop}(h:p:=by rw[s]at f u;obtain⟨w,U,q,z⟩:=f.ret K rfl;subst w;replace f:=AB f;replace s:=AB s;replace q:=AB q;replace z:=AB z;refine ax ?_;rw[u.1];exact q.1.fin):p:=h
def zCH{p:Prop}(h:p:=by rw[s]at f M;obtain⟨w,q⟩:=f.ge rfl;replace f:=AB f;subst w;replace q:=AB q;refine ax ?_;rw[u.1,M.1];exact q.1):p:=h
def zCK{p:Prop}(h:p:=by
 have q:=AI r;have M:Id.is id U=false:=AF fun e=>by rw[<-e,a3.1]at r;cases r
 simp only[go_sem,q,M,f.1 U r,AM]):p:=h
def zCM{p:Prop}(h:p:=by rw[s]at f u;obtain⟨w,q⟩:=f.ge rfl;replace f:=AB f;subst w;replace q:=AB q;refine ax ?_;rw[u.1];exact q.1):p:=h
def zCV{p:Prop}(h:p:=by simp only[B3.ok,AP]at this;exact this.2.2):p:=h
def zCX{p:Prop}(h:p:=by
 have cl:=R0 (h:=h) I.1 (fun id b=>?_) bs
 .obtain rfl:=bs.1;refine aw ?_;rw[W.1];exact cl
 .exact zAe):p:=h
def zCa{p:Prop}(h:p:=by refine .inr ⟨id,az,?_,n,AA,a2.1,a5.1⟩;simp only[go_sem,w,AM,O,N,o,r,s,u,f,bo,bl,B,C,D,F,J,I]):p:=h
def zCg{p:Prop}(h:p:=by refine Ha AA rfl ?_;simp only[go_sem]):p:=h
def zCl{p:Prop}(h:p:=by simp only[F7,t]at k;have c:=c _ rfl;refine aw ?_;exact⟨⟨_,rfl⟩,fun i p=>by simp[p]⟩):p:=h
def zCp{p:Prop}(h:p:=by have f:=AI b;simp only[go_sem,f,AM]):p:=h
def zCq{p:Prop}(h:p:=by simp only[go_sem,BL,AM,o,r,s,u,f];first|done|rfl):p:=h
def zCv{p:Prop}(h:p:=by
 rcases h with h|⟨id,a,h2,n,e,c⟩
 .exact .inl h
 .exact .inr ⟨id,a,h2,n,AA,c⟩):p:=h
def zC6{p:Prop}(h:p:=by have Z:=Af T;have a3:=W A (by rw[bs];simp[AE]);simp only[go_sem,Z,b1,a3,AM]):p:=h
def zC7{p:Prop}(h:p:=by simp only[go_sem,w,BE,BY,AM,O,N,o,r,s,u,f,bo,bl,B,C,D,F,J,I];first|done|rfl):p:=h
def zDK{p:Prop}(h:p:=by simp only[go_sem,BL,AM,O,N,o,r,s,u,f,bo,bl,B,C,D,F,J,I];first|done|rfl):p:=h
def zDO{p:Prop}(h:p:=by simp only[go_sem,w,BE,BY,AM,o,r,s,u,f,B,C,D,F,J,I,R,Y];first|done|rfl):p:=h
def zDQ{p:Prop}(h:p:=by have Z:=Af T;simp only[go_sem,Z,b1,AM]):p:=h
def zDR{p:Prop}(h:p:=by simp only[AE,Ac]at a';subst a';exact⟨CQ (b+70) [1] AA AA,_,rfl⟩):p:=h
def zDa{p:Prop}(h:p:=by simp only[go_sem,b1,AM]):p:=h
def zDg{p:Prop}(h:p:=by simp only[go_sem,BL,AM,o,r,s,u,f,B,C,D,F,J,I,R,Y];first|done|rfl):p:=h
def zDh{p:Prop}(h:p:=by rw[get_put,get_put,get_put,get_put,AF AG,AF AG];exact a3.out.box):p:=h
def zDm{p:Prop}(h:p:=by rw[az];simp only[go_sem,U,w,AM,O,N,o,r,s,u,f,bo,bl,B,C,D,F,J,I]):p:=h
def zDw{p:Prop}(h:p:=by refine aw ?_;rw[W.1];refine R1 P.1 I.1 fun id b=>?_;exact zAe):p:=h
def zDx{p:Prop}(h:p:=by simp only[go_sem,ai,w,AM,o,r,s,u,f]):p:=h
def zDy{p:Prop}(h:p:=by simp only[go_sem,ar,w,AM,o,r,s,u,f]):p:=h
def zDz{p:Prop}(h:p:=by simp only[go_sem,av,w,AM,o,r,s,u,f]):p:=h
def zD6{p:Prop}(h:p:=by simp only[go_sem,U,w,AM,o,r,s,u,f]):p:=h
def zD7{p:Prop}(h:p:=by simp only[go_sem,w,BE,BY,AM,O,N,o,r,s,u,f,P];first|done|rfl):p:=h
def zEG{p:Prop}(h:p:=by simp only[go_sem,cc,AM,o,r,s,u,f]):p:=h
def zEH{p:Prop}(h:p:=by simp only[go_sem,ai,w,AM,O,N,o,r,s,u,f,bo,bl,B,C,D,F,J,I]):p:=h
def zEI{p:Prop}(h:p:=by simp only[go_sem,ar,w,AM,O,N,o,r,s,u,f,bo,bl,B,C,D,F,J,I]):p:=h
def zEJ{p:Prop}(h:p:=by simp only[go_sem,av,w,AM,O,N,o,r,s,u,f,bo,bl,B,C,D,F,J,I]):p:=h
def zEN{p:Prop}(h:p:=by rw[R.1];refine Ha AA AG ?_;simp only[go_sem,ai,ar,BE,AM]):p:=h
end Go
namespace Go.Abs
def Vj:Nat->Code->Code
 |n+1,.seq _ y=>Vj n y
 |_,c=>c
def Ri:Nat->Code->Code->Code
 |n+1,.seq x y,t=>.seq x (Ri n y t)
 |0,_,t=>t
 |_,c,_=>c
def s5: ∀(n:Nat) (c:Code),Ri n c (Vj n c)=c
 |0,c=>by cases c<;>rfl
 |n+1,c=>by
  cases c with
  |seq x y=>rw[Vj,Ri,s5 n y]
  |_=>rfl
def SU{C:DJ}{K:Ab}{fr:Fr}{b:Nat}{c:Code}{st:St}{Q:Eh->St->Prop}(n:Nat)(h: ∀T,T=Vj n c->Wp C K fr b (Ri n c T) st Q):Wp C K fr b c st Q:=by
 have:=h _ rfl
 rwa [s5]at this
end Go.Abs
namespace Go.Proofs
open Abs
noncomputable def DX(b b':Nat)(π:List Nat)(id:Abs.Id):Bool:= @decide (∃n,b<=n/\n<b'/\Id.under (n::π) id=true) (Classical.propDecidable _)
variable{b b':Nat}{π:List Nat}
def E7{id:Abs.Id}:DX b b' π id=true↔ ∃n,b<=n/\n<b'/\Id.under (n::π) id=true:=by
 unfold DX;rw[@decide_eq_true_eq _ (Classical.propDecidable _)]
def Af{b b':Nat}{π:List Nat}{id:Abs.Id}(h:DX b b' π id=false)(a n:Nat)(c:b<=n)(h2:n<b'):Id.is (a::n::π) id=false:=AF fun e=>by
 subst e;have:DX b b' π (a::n::π)=true:=E7.2 ⟨n,c,h2,under_iff.2 ⟨[a],rfl⟩⟩;rw[h]at this;cases this
def CQ(n:Nat)(l:List Nat)(a:b<=n)(h2:n<b'):DX b b' π (l++n::π)=true:=E7.2 ⟨n,a,h2,under_iff.2 ⟨l,rfl⟩⟩
section
variable{p:AX}{sz:List Int}{B:MV->Int->List AV}{c:Bool}{π:List Nat}{m:Abs.Id}{V V':MV}{h g H g1:AD}{b b':Nat}{st st':CW}
def Bu.apartB(j:Bx π V m)(i:Bu B c π m V h b V' st g):NA (DX b b' π) V' m:=fun id f=>by
 cases l:DX b b' π id with
 |false=>rfl
 |true=>
  obtain⟨n,o,_,h2⟩:=E7.1 l;rcases i.ids id f with e|⟨k,p,a,_⟩
  .have:=j id e;rw[BM h2]at this;cases this
  .have:=B5 a h2;omega
def Bu.step(v:b<=b')(o:Bu B c π m V h b V' st g)(t:MI B c (DX b b' π) m V' g st' H): ∃i,Bu B c π m V h b' i st' H/\ ∀id,id∉V'.ids m->DX b b' π id=false->id∉i.ids m:=by
 obtain⟨i,p,l⟩:=t;refine⟨i,⟨p,fun id q=>?_,fun id j h2=>?_⟩,fun id j h2 f=>?_⟩
 .rcases l.ids id q with e|⟨e,r⟩
  .exact(o.ids id e).imp_right fun⟨n,a,c⟩=>⟨n,AA,c⟩
  .obtain⟨n,_,h2,f⟩:=E7.1 e;exact .inr ⟨n,h2,f,r⟩
 .have s:DX b b' π id=false:=by
   cases u:DX b b' π id with
   |false=>rfl
   |true=>
    obtain⟨n,_,_,f⟩:=E7.1 u;rw[BM f]at h2;cases h2
  rw[l.frame id (fun e=>?_) s]
  .exact o.frame id j h2
  .rcases o.ids id e with e|⟨k,_,f,_⟩
   .exact j e
   .rw[BM f]at h2;cases h2
 .rcases l.ids id f with e|⟨e,_⟩
  .exact j e
  .rw[h2]at e;cases e
end
def Kn{b b' n:Nat}{π:List Nat}{id:Abs.Id}(f:n<b)(a:Id.under (n::π) id=true):DX b b' π id=false:=by
 cases c:DX b b' π id with
 |false=>rfl
 |true=>
  obtain⟨k,e,_,h2⟩:=E7.1 c;have:=B5 a h2;omega
def Z8{B:MV->Int->List AV}{c:Bool}{N:Abs.Id->Bool}{h:AD}{m:Abs.Id}{V:MV}{st:CW}(b:Gj B c h m V st)(r:NA N V m){q:HD}(K:q.queue=[])(A:Abs.Id)(h':AD)
 (w:h'.get m=some (.box (B {V with v3:=.f8 A 0 (V.rows.length+1)} st.work))) (u:h'.get A=some (.arr 4 (V.rows++[A6 q .d7]))) (y:N A=true/\ ∃l,A=1::l)
 (z: ∀id,Id.is m id=false->(∀s∈AE V.v3,Id.is s id=false)->N id=false->h'.get id=h.get id):MI B c N m V h {st with d8:={st.d8 with be:=st.d8.be++[q]}} h':=by
 have o: ∀id,id≠m->id∉AE V.v3->N id=false->h'.get id=h.get id:=fun id b1 i C=>z id (AF fun e=>b1 e.symm) (fun s a=>AF fun e=>i (by rw[<-e];exact a)) C;have p:(V.rows++[A6 q .d7]).flatMap A9=V.rows.flatMap A9:=by simp[Bs,AE]
 refine Su (v3:=.f8 A 0 (V.rows.length+1)) (rows:=V.rows++[A6 q .d7]) b r (w.trans (by rw[<-b.inv {V with v3:=.f8 A 0 (V.rows.length+1)} (V.rows++[A6 q .d7]) st.work])) (.inr ⟨A,AG,u⟩) ⟨by simp[b.be.len],fun j t k=>?_⟩ (by rw[p];exact b.qd) (fun id a=>?_) (fun j k=>by match j,k with|0,_|1,_|2,_|3,_=>rfl) fun id b1 i _ D=>o id b1 i D
 .have f:(st.d8.be++[q])[j]? =some t:=k;have H:=b.be.len;by_cases F:j<st.d8.be.length
  .rw[Ce F]at f;obtain⟨v,n,h2⟩:=b.be.row j t f;refine⟨v,by rw[Ce AA];exact n,Kt h2 fun id a=>?_⟩;have J:id∈V.rows.flatMap A9:=CS.2 ⟨_,AS n,by rw[Bs];exact a⟩;obtain⟨x,g⟩:=IX h2 a;refine o id (fun e=>?_) (fun e=>?_) (r _ (V.row_mem m J))
   .rw[e,b.box]at g;cases g
   .rw[HY b.arr e]at g;cases g
  .have I:=AK f;rw[Be,I0]at I;obtain rfl:j=st.d8.be.length:=AA;rw[D1 AA]at f;simp only[Kw,F4,Co]at f;subst f;exact⟨.d7,by rw[D1 AA,H];simp,Pw (.inl ⟨rfl,by rw[K];rfl⟩)⟩
 .rw[p]at a;rcases a with a|a
  .simp only[AE,Ac]at a;rw[a];exact .inr y
  .exact .inl (.inr a)
structure P9(p:AX)(sz:List Int)(π:List Nat)(m:Abs.Id)(V:MV)(h:AD)(b n:Nat)(V':MV)(g:AD)(r:Option CW)(o:A8)(g':AD):Prop where
 box: ∀k,k<b->g'.get (0::k::π)=g.get (0::k::π)
 pm: ∀i,i∉V'.ids m->(∀a k,b<=k->Id.is (a::k::π) i=false)->Id.under (n::π) i=false->g'.get i=g.get i
 ge:r=none->o=.ge (C5 3)/\G3 p sz π m V h none o g'
 ret: ∀st2,r=some st2->o=.ret (.ii [])/\ ∃V2,G4 p sz π m V h (n+1) V2 st2 g'/\ ∀i,i∉V'.ids m->Id.under (n::π) i=false->i∉V2.ids m
def mH{p:AX}{sz:List Int}{π:List Nat}{m:Abs.Id}{V V':MV}{h g H g1:AD}{b n:Nat}{st:CW}{r:Option CW}{o:A8}(f:Bx π V m)(u:G4 p sz π m V h b V' st g)(j: ∀id,(∀a n,b<=n->Id.is (a::n::π) id=false)->H.get id=g.get id)(l:b<=n)(c:G3 p sz (n::π) m V' H r o g1):P9 p sz π m V h b n V' g r o (gc (n::π) g1):=by
 have q:=u.loc f j;refine⟨fun k v=>?_,fun i s h2 t=>?_,fun e=>?_,fun w e=>?_⟩
 .rw[q.box f AA c];exact j _ fun a n l=>AF fun e=>by simp at e;omega
 .rw[Xb c s t];exact j i h2
 .subst e;exact⟨c.1,q.ge f l c⟩
 .subst e;exact⟨c.1,q.call f l c⟩
def W8{p:AX}{sz:List Int}{k:Nat}(r:KS p sz k){π:List Nat}{m:Abs.Id}{V V':MV}{h g:AD}{b:Nat}{st:CW}(e:Bx π V m)(l:G4 p sz π m V h b V' st g)(c:Ky p sz k st){j:HF}(t:CT p sz st.d8 j)(H:AD)(n:Nat)(i:b<=n)(f: ∀id,(∀a n,b<=n->Id.is (a::n::π) id=false)->H.get id=g.get id):
 ∃o g1,kT (.fn 66) [.ptr m 0,nI j.node,nI j.at_,.d (.bv (j.env.map AN))] H (n::π) true none=.ok (o,g1)/\P9 p sz π m V h b n V' g (Eu p k j st) o (gc (n::π) g1):=by
 have q:=l.loc e f;obtain⟨o,g1,s,h2⟩:=r H (n::π) m V' st j q.rep (q.apart e i) c.qr t c.w0 c.w1 c.w2 c.ev;exact⟨o,g1,s,mH e l f i h2⟩
end Go.Proofs
namespace Go.Proofs
open Abs
@[go_sem] theorem AEN(n m:Int):BX kT 58 [nI n,nI m] []=Ch (C5 3) (decide (n<=m)):=by
  by_cases h:n<=m
  .rw[D6 h,Mw];exact zBE
  .rw[DL h,LP];exact zBE
def Kc{p:AX}{sz:List Int}{h:AD}{π:List Nat}{m:Abs.Id}{V:MV}{st:CW}(s:J4 p sz h m V st)(t:Bx π V m)(d a n r:Int)(l:List Cm)(W:l.length<=1000000)(Y:st.ev.length<=1000000):
 ∃o h',kT (.fn 103) [.ptr m 0,nI d,nI a,nI n,nI r,.d (.bv (l.map AN))] h π true none=.ok (o,h')/\G3 p sz π m V h (some {st with ev:=st.ev++[⟨d,a,n,r,l⟩]}) o h':=by
 have go:=AH.mk (Dc (st':={st with ev:=st.ev++[⟨d,a,n,r,l⟩]}) 3 AA s t (kU rfl) rfl)
 have j:=s.box;have F:=t m (V.m_mem m);have c:=s.sl 3 AA;have u:=fun id f=>t id (V.s_mem m (i:=3) AA f);simp only[BL]at j;simp only[Dt,Ax]at c;have H:=AI F;have I:=Aj F;have J:=Dx F;have K:=Jk F;have B:=LO l W;replace s:=AB s;replace t:=AB t;rcases c with⟨c,C⟩|⟨id,x,c,N⟩
 .rw[c]at j;replace C:=AH.mk (D5.1 C);replace u:=AB u;by_cases q:l.length=0;all_goals
   (first|(obtain rfl:=BI q;simp only[List.length_nil,DV,BY]at B)|simp only[ED q]at B);have fa:=B7
   refine BR Tryz.func103 ?_;refine ax ?_;refine⟨rfl,?_⟩
   (refine go.1 (.f8 (1::13::π) 0 1) _ ?_ (Ao [] (by simp[Ax,C.1]) ?_) (.inr fun k f=>?_) (fun k b1 A g=>?_);all_goals (try simp only[Ax,Dt,C.1,CE]);all_goals (first|(simp only[AE,Ac]at f;subst f;exact⟨Ar [1,13],_,rfl⟩)|(have w:=AI g;have z:=Dx g;simp only[go_sem,w,z,b1,AM];done)|(simp;done)|(simp only[go_sem,H,I,J,K,BE,BY,AM];first|done|rfl)))
 .rw[c]at j;have D:=u id (by rw[c];simp[AE]);have Q:=AI D;have R:=Aj D;have S:=Dx D;have T:=Jk D;replace u:=AB u;simp only[As]at j;have O:Id.is id m=false:=Fi N j;have P:Id.is m id=false:=Fi j N;replace c:=AB c;have X: ∀v,v=.f8 id 0 (st.ev.length+1)->AE v=AE (V.s 3):=fun v e=>by rw[e,c.1];rfl
  have U: ∀L,(∀k∈AE (V.s 3),Id.is k L=false)->Id.is id L=false:=fun L b=>b id (by rw[c.1];simp[AE]);by_cases q:l.length=0;all_goals rcases x with _|⟨y,x⟩
  all_goals
   (first|(obtain rfl:=BI q;simp only[List.length_nil,DV,BY]at B)|simp only[ED q]at B);have fa:=B7
   refine BR Tryz.func103 ?_;refine ax ?_;refine⟨rfl,?_⟩
   (first|(refine go.1 (.f8 (1::13::π) 0 (st.ev.length+1)) _ ?_ (Ao [] ?_ ?_) (.inr fun k f=>?_) (fun k b1 A g=>?_);all_goals (try simp only[Ax,Dt]);all_goals (first|(simp only[AE,Ac]at f;subst f;exact⟨Ar [1,13],_,rfl⟩)|(have w:=AI g;have z:=Dx g;have M:=U _ A;simp only[go_sem,w,z,b1,M,AM];done)|(simp;done)|(simp only[go_sem,H,I,J,K,Q,R,S,T,O,P,BE,BY,AM];first|done|rfl));done)|(refine go.1 (.f8 id 0 (st.ev.length+1)) _ ?_ (Ao x ?_ ?_) (.inl (X _ rfl)) (fun k b1 A g=>?_);all_goals (try simp only[Ax,Dt]);all_goals (first|(simp only[AE,Ac]at f;subst f;exact⟨Ar [1,13],_,rfl⟩)|(have w:=AI g;have z:=Dx g;have M:=U _ A;simp only[go_sem,w,z,b1,M,AM];done)|(simp;done)|(simp only[go_sem,H,I,J,K,Q,R,S,T,O,P,BE,BY,AM];first|done|rfl))))
def q8{p:AX}{sz:List Int}{h:AD}{π:List Nat}{m:Abs.Id}{V:MV}{st:CW}(B:J4 p sz h m V st)(C:Bx π V m)(j:HF)(ad:j.env.length<=1000000)(av:st.d8.waits.length<=1000000):
 ∃o h',kT (.fn 114) [.ptr m 0,.agg [nI j.node,nI j.at_,.d (.bv (j.env.map AN))]] h π true none=.ok (o,h')/\G3 p sz π m V h (FZ j st) o h':=by
 have go:=AH.mk (Dc (st':={st with d8:={st.d8 with waits:=st.d8.waits++[⟨j.at_,j.node,j.env⟩]}}) 2 AA B C (XO rfl rfl rfl) rfl)
 have ac:=AB fun v h' W X Y Z=>Nq (go.1 v h' W X Y Z);have S:AH (FZ j st=if st.d8.waits.length<40 then some {st with d8:={st.d8 with waits:=st.d8.waits++[⟨j.at_,j.node,j.env⟩]}}else none):=⟨rfl⟩
 have r:=B.box;have Q:=C m (V.m_mem m);have f:=B.sl 2 AA;have D:=fun id c=>C id (V.s_mem m (i:=2) AA c);simp only[BL]at r;simp only[Dt,Ax]at f;have t:=AI Q;have u:=Aj Q;have w:=Dx Q;have z:=Jk Q;have H:=LO j.env ad;replace B:=AB B;replace C:=AB C;rcases f with⟨f,F⟩|⟨id,x,f,T⟩
 .rw[f]at r;replace F:=AH.mk (D5.1 F);replace D:=AB D;obtain⟨ai,ag,l⟩:=j;dsimp only at*;by_cases A:l.length=0;all_goals
   (first|(obtain rfl:=BI A;simp only[List.length_nil,DV,BY]at H)|simp only[ED A]at H);have fa:=B7
   refine BR Tryz.func114 ?_;refine ax ?_;rw[S.1,D4 (by rw[F.1];decide)];refine⟨rfl,?_⟩
   (refine go.1 (.f8 (1::16::π) 0 1) _ ?_ (Ao [] (by simp[Ax,F.1]) ?_) (.inr fun g c=>?_) (fun g b1 q a=>?_);all_goals (try simp only[Ax,Dt,F.1,CE]);all_goals (first|(simp only[AE,Ac]at c;subst c;exact⟨Ar [1,16],_,rfl⟩)|(have k:=AI a;have n:=Dx a;simp only[go_sem,k,n,b1,AM];done)|(simp;done)|(simp only[go_sem,t,u,w,z,BE,BY,AM];first|done|rfl)))
 .rw[f]at r;have P:=D id (by rw[f];simp[AE]);have K:=AI P;have L:=Aj P;have M:=Dx P;have N:=Jk P;replace D:=AB D;simp only[As]at r;have I:Id.is id m=false:=Fi T r;have J:Id.is m id=false:=Fi r T;replace f:=AB f;have U: ∀v,v=.f8 id 0 (st.d8.waits.length+1)->AE v=AE (V.s 2):=fun v e=>by rw[e,f.1];rfl
  have O: ∀R,(∀g∈AE (V.s 2),Id.is g R=false)->Id.is id R=false:=fun R b=>b id (by rw[f.1];simp[AE]);obtain⟨ai,ag,l⟩:=j;dsimp only at*;by_cases A:l.length=0;all_goals rcases x with _|⟨y,x⟩
  all_goals
   (first|(obtain rfl:=BI A;simp only[List.length_nil,DV,BY]at H)|simp only[ED A]at H);have fa:=B7
   refine BR Tryz.func114 ?_
   (repeat' (first|simp only[go_sem, *,AM]|(refine sx ?_ ?_<;>intro ar)|refine sy AA fun x az r=>?_|simp(disch:=first|assumption|omega) only[AR]))
   all_goals rw[S.1]
   .rw[D4 AA];refine⟨rfl,?_⟩
    exact zAH
   .rw[Ci AA];refine⟨rfl,?_⟩;replace go:=ac
    exact zAH
structure OU(p:AX)(j:HF)(x:C8):Prop where
 n0:0<=j.node
 node:p.nodes[j.node.toNat]? =some x
 len:j.env.length<=10000
def Q0{p:AX}{j:HF}{x:C8}(h:OU p j x):j.node.toNat<p.nodes.length:=AK h.node
def tl{p:AX}{sz:List Int}{h:AD}{π:List Nat}{m:Abs.Id}{V:MV}{st:CW}(P:J4 p sz h m V st)(I:Bx π V m)(j:HF){x:C8}(b4:OU p j x)(f1:p.nodes.length<=60)(fp:x.args.length<=3)(cx: ∀e∈x.args,e.formed j.env.length=true)(fv:0<=x.n)(f0:x.n<j.env.length)
 (c1:j.env.all (Cm.inB p st.d8.be.length st.d8.ac.length)=true) (a4: ∀(c:Nat) (q:HD),st.d8.be[c]? =some q->YC p st.d8 q) (ds:st.ev.length<=1000000):
 ∃o h',kT (.fn 110) [.ptr m 0,.agg [nI j.node,nI j.at_,.d (.bv (j.env.map AN))]] h π true none=.ok (o,h')/\G3 p sz π m V h (Cx p x j st) o h':=by
 have a1:=P.box;have bv:=I m (V.m_mem m);simp only[BL]at a1;have Z:=AI bv;have ac:=Aj bv;have fi:=Dx bv;have fk:=Jk bv;obtain⟨L,a7⟩: ∃L,L=x.args.map fun e=>e.value j.env:=⟨_,rfl⟩;have bk:L.length=x.args.length:=by rw[a7,As]
 have cc:=b4.node;have fs:=b4.n0;have fr:=b4.len;obtain⟨O,d7⟩:=get_some (l:=j.env) (i:=x.n.toNat) AA;have f3:=Q0 b4;replace P:=AB P;replace I:=AB I;replace a4:=AB a4;replace c1:=AB c1;replace a7:=AB a7;replace bk:=AB bk;replace cx:=AB cx;refine BR Tryz.func110 ?_;refine aw ?_;refine Aq x.args _ (S:=fun e1 i (a:(AV×AD)×Nat)=>⟨[(0,.ptr m 0),(3,.ptr (0::0::π) 0),(4,.ptr (0::10::π) 0),(5,a.1.1),(20,.d (.bv (x.args.map BT))),(21,nI e1),(22,nI i)],a.1.2,a.2+17,[]⟩)
  (Inv:=fun i ga a=>(∀id,Id.under π id=false->a.1.2.get id=h.get id)/\a.1.2.get (0::0::π)=some (.box [nI j.node,nI j.at_,.d (.bv (j.env.map AN))])/\a.1.2.get (0::10::π)=some (.box [nI x.op,nI x.n,.d (.bv (x.args.map BT)),.d (.bv (x.kids.map AL))])/\AH ((i=0/\a.1.1=.d7)\/ ∃n,n<a.2+17/\a.1.1=.f8 (1::n::π) 0 i/\a.1.2.get (1::n::π)=some (.em 2 ((L.take i).map AN)))) (b0:=((_,_),_)) rfl ⟨?_,?_,?_,⟨.inl ⟨rfl,rfl⟩⟩⟩ ?_ ?_
 .intro id b;exact zCp
 .simp only[go_sem]
 .simp only[go_sem]
 .rintro i y ⟨⟨e3,g⟩,b⟩ d9 c0 bc ⟨u,c3,c4,R⟩ c8;dsimp only at*;have f4:=cx.1 y (AS d9);have en:AH (L[i]? =some (y.value j.env)):=⟨by rw[a7.1,D7,d9];rfl⟩;replace u:=AB u;have dn:AH (L.take (i+1)=L.take i++[y.value j.env]):=⟨by rw[GC,en.1];rfl⟩;rcases R.1 with⟨rfl,rfl⟩|⟨n,b5,rfl,b2⟩
  .clear R;have b3:(0:Int)<x.args.length:=bc;refine aw ?_;refine c8.1 ((_,_),_) ⟨fun id b=>?_,?_,?_,⟨.inr ⟨b+28,AG,rfl,?_⟩⟩⟩
   .exact zAe
   .simp only[go_sem,c3]
   .simp only[go_sem,c4]
   .rw[dn.1];simp only[go_sem]
  .clear R;have fd:(L.take i).length=i:=by have:=bk.1;rw[F2];omega
   have dd:List.take i (List.map AN (List.take i L))=List.map AN (List.take i L):=Bi Aa;have de: ¬b+27=n:=AA;have df: ¬b+20=n:=AA;have dm: ¬n=b+27:=AA;have ek: ¬n=b+28:=AA;refine ax ?_;refine c8.1 ((_,_),_) ⟨fun id b=>?_,?_,?_,⟨.inr ⟨b+28,AG,rfl,?_⟩⟩⟩
   .exact zAe
   .simp only[go_sem,c3]
   .simp only[go_sem,c4]
   .rw[dn.1];simp only[go_sem,ek,BE]
 .rintro i ⟨⟨e3,g⟩,b⟩ c0 bc ⟨u,c3,c4,R⟩;dsimp only at*;have X:i=L.length:=by rw[c0.1,bk.1]
  clear c0;have c2:IL j.env x.n=O:=by rw[IL,d7];rfl
  have f2:List.take L.length L=L:=D2;have fl:L.length<=3:=by have:=bk.1;omega
  replace u:=AB u;by_cases d':O.kind=2
  .have W:AH (Cx p x j st=some {st with ev:=st.ev++[⟨5,j.at_,O.n,0,L⟩]}):=⟨by
    simp only[Cx,c2,d',F6,a7.1];rfl⟩
   rcases R.1 with⟨rfl,rfl⟩|⟨n,b5,rfl,b2⟩
   .clear R;have b3: ¬(0:Int)<x.args.length:=bc;have bi:=BI X.symm;subst bi;clear X;refine aw ?_;refine Ad (Kc (V:=V) (st:=st) (Ek P.1 I.1 ?_) (I.1.ext _) 5 j.at_ O.n 0 [] AG ds) (fun e2 g1 bs=>?_)
    .intro id b;exact zAe
    .exact zCX
   .clear R;subst X;refine aw ?_;refine Ad (Kc (V:=V) (st:=st) (Ek P.1 I.1 ?_) (I.1.ext _) 5 j.at_ O.n 0 L AA ds) (fun e2 g1 bs=>?_)
    .intro id b;exact zAe
    .exact zCX
  by_cases c5:O.kind=3
  .have d1:=D3.1 c1.1 O (AS d7);simp only[Cm.inB,c5,Int.reduceEq,F6,FN,AP,Ap]at d1;obtain⟨gf,gg⟩:=d1;obtain⟨q,b6⟩:=get_some (l:=st.d8.be) (i:=O.n.toNat) AA;obtain⟨v,bo,ex⟩:=P.1.be.row _ _ b6;have d3:=AB bo;have a':=a4.1 _ _ b6;obtain⟨e4,e5⟩:=a'.at_;obtain⟨gr,d,ch,d0,e6,dr,dq⟩:=a'.ex;have e7:=a'.g0;have e8:=a'.i0;have e':=a'.len;obtain⟨sp,d6⟩:=get_some (l:=st.d8.ac) (i:=q.at_.toNat) AA;obtain⟨S,gn,N,cp,gm,f7,f8⟩:=FV (P.1.sl 0 AA) d6;obtain⟨G,gs,M,cn,gi,f5,f6⟩:=FV (P.1.sl 1 AA) d0;have D:=P.1.arr;rcases D with⟨_,D⟩|⟨A,D,a5⟩
   .rw[D]at bo;simp at bo
   have e0:=AK bo;have gb: ∀r:List AV,(V.rows.set O.n.toNat r)[O.n.toNat]? =some r:=fun r=>List.getElem?_set_self e0;have c6:=I.1 A (V.v3_mem m (by rw[D];simp[AE]));have eb:=I.1 S (V.s_mem m (i:=0) AA (by rw[N];simp[AE]));have ea:=I.1 G (V.s_mem m (i:=1) AA zE8);have J:=(u.1 m bv).trans a1;rw[D,N,M]at J;replace a5:=(u.1 A c6).trans a5;replace cp:=(u.1 S eb).trans cp;replace cn:=(u.1 G ea).trans cn;have T:=AI c6;have U:=Aj c6;have c9:=AI eb;have c':=AI ea;have f':=AK dr;have f9:=AK dq;have d5:Ak st.d8.ac q.at_=sp.dead:=by simp[Ak,d6]
   have d2:ET p st.d8 q=ch.many:=by simp[ET,d0,dr,dq]
   have W:AH (Cx p x j st=(Mr p st.d8 O.n L).map fun s=>{st with d8:=s}):=⟨by
    simp only[Cx,c2,c5,F6,a7.1];rfl⟩
   have bl:AH (Mr p st.d8 O.n L=if sp.dead=false/\ch.many=L.length then Se st.d8 O.n q L else some st.d8):=⟨by
    rw[Mr,b6];simp only[d5,d2]⟩
   clear d5 d2 a';replace a1:=AB a1;replace N:=AB N;replace M:=AB M;replace D:=AB D;simp only[A6]at bo;simp only[Dt]at cp cn;have go:=AH.mk (N1 P.1 I.1 D.1 b6 d3.1 (q.queue++[L]));have bx:=AB fun v h' T ej U c9 c'=>Nq (go.1 v h' T ej U c9 c');have b7:AH (sp.dead=true->Cx p x j st=some st):=⟨fun h=>by rw[W.1,bl.1,Ci zE5];rfl⟩;have b8:AH (¬ch.many=L.length->Cx p x j st=some st):=⟨fun h=>by rw[W.1,bl.1,Ci (fun es=>h es.2)];rfl⟩;have b':AH (sp.dead=false->ch.many=L.length->q.queue.length+1<=12->Cx p x j st=some {st with d8:={st.d8 with be:=st.d8.be.set O.n.toNat {q with queue:=q.queue++[L]}}}):=⟨fun cs h2 el=>by rw[W.1,bl.1,D4 ⟨cs,h2⟩,Se,D4 AA];rfl⟩
   have d4:AH (sp.dead=false->ch.many=L.length-> ¬q.queue.length+1<=12->Cx p x j st=none):=⟨fun cs h2 el=>by rw[W.1,bl.1,D4 ⟨cs,h2⟩,Se,Ci AA];rfl⟩;clear W bl;have Y:Id.is A m=false:=Fi a5 J;have ag:Id.is m A=false:=Fi J a5;have a3:AH (∀H:AD,(∀id,Id.under π id=false->H.get id=g.get id)->G3 p sz π m V h (some st) (.ret (.ii [])) H):=⟨fun H em=>R1 P.1 I.1 fun id b=>(em id b).trans (u.1 id b)⟩;rcases ex with⟨rfl,ad⟩|⟨Q,zs,rfl,a6⟩
   .replace ad:=AH.mk (D5.1 ad);rcases R.1 with⟨rfl,rfl⟩|⟨n,b5,rfl,b2⟩;all_goals clear R
    .have b3: ¬(0:Int)<x.args.length:=bc;have bi:=BI X.symm;subst bi;clear X
     exact zAG
    .subst X;have dd: ¬b+93=n:=AA;have de: ¬n=b+93:=AA;have df: ¬b+94=n:=AA;have dm: ¬n=b+94:=AA
     exact zAG
   .have c7:=I.1 Q (V.row_mem m (CS.2 ⟨_,AS d3.1,by simp[Bs,AE]⟩));replace a6:=(u.1 Q c7).trans a6;have az:=AI c7;have a0:=Aj c7;have ar:Id.is Q A=false:=Fi a6 a5;have ai:Id.is A Q=false:=Fi a5 a6;have av:Id.is Q m=false:=Fi a6 J;have a2:Id.is m Q=false:=Fi J a6;rcases R.1 with⟨rfl,rfl⟩|⟨n,b5,rfl,b2⟩;all_goals clear R
    .have b3: ¬(0:Int)<x.args.length:=bc;have bi:=BI X.symm;subst bi;clear X;exact zAB
    .subst X;have dd: ¬b+93=n:=AA;have de: ¬n=b+93:=AA;have df: ¬b+94=n:=AA;have dm: ¬n=b+94:=AA;exact zAB
  .have W:AH (Cx p x j st=some st):=⟨by simp only[Cx,c2,d',c5,FN]⟩;rcases R.1 with⟨rfl,rfl⟩|⟨n,b5,rfl,b2⟩;all_goals clear R
   .have b3: ¬(0:Int)<x.args.length:=bc;clear X;exact zDw
   .subst X;exact zDw
end Go.Proofs
namespace Go.Abs
variable{es:List (List Al)}{n:Nat}
def O0{g:G}{id:Id}{s:Nat}(h:g id=some (.em s es)){b a c:Option AV}{l r:Nat}{m:Option Nat}(p:FJ b a c n=some (l,r,m))(t:r<=es.length)(q:m.getD r<=es.length)(o:0<es.length):GZ g .slice s (.f8 id 0 n) b a c=m.elim (some (.f8 id l (r-l))) fun m=>if m=l then some .emp else some .undef:=by
 show Px g s id 0 (FJ b a c n)=_;rw[p];simp only[Px,h,fW,I9];have f:Nat.beq s s=true:=Nat.beq_refl s;have i:Nat.ble (m.getD r) es.length=true:=RG q;have j:Nat.ble r es.length=true:=RG t;have k:Nat.blt 0 es.length=true:=by rw[UP];exact o
 rw[f,i,j,k];cases m with
 |none=>rfl
 |some m=>
  simp only[OL,JH];by_cases e:m=l<;>simp[e]
variable{a b:Int}
def lK{g:G}{id:Id}{s:Nat}(h:g id=some (.em s es)){m:Int}(c:0<=a)(e:a<=b)(h2:b<=m)(f:m<=es.length)(i:a<m):GZ g .slice s (.f8 id 0 n) (some (nI a)) (some (nI b)) (some (nI m))=some .undef:=by
 rw[O0 h (l:=a.toNat) (r:=b.toNat) (m:=some m.toNat) (by simp[FJ,Iq,J0,c,e,h2]) AA Aa AA];simp only[Option.elim_some];rw[Ci AA]
def N7{g:G}{id:Id}{s:Nat}(h:g id=some (.em s es))(b:0<=a)(c:a<=n)(h2:n<=es.length)(e:0<es.length):GZ g .slice s (.f8 id 0 n) (some (nI a)) none none=some (.f8 id a.toNat (n-a.toNat)):=by
 rw[O0 h (l:=a.toNat) (r:=n) (m:=none) (by simp[FJ,Iq,J0,b,c]) h2 h2 e];rfl
def N6{g:G}{id:Id}{s:Nat}(h:g id=some (.em s es))(a:0<=b)(e:b<=es.length)(c:0<es.length):GZ g .slice s (.f8 id 0 n) none (some (nI b)) none=some (.f8 id 0 b.toNat):=by
 rw[O0 h (l:=0) (r:=b.toNat) (m:=none) (by simp[FJ,Iq,J0,a]) AA Aa c];rfl
def O1{g:G}{id:Id}{s:Nat}(h:g id=some (.em s es))(c:0<=a)(e:a<=b)(h2:b<=es.length)(f:0<es.length):GZ g .slice s (.f8 id 0 n) (some (nI a)) (some (nI b)) none=some (.f8 id a.toNat (b.toNat-a.toNat)):=by
 rw[O0 h (l:=a.toNat) (r:=b.toNat) (m:=none) (by simp[FJ,Iq,J0,c,e]) AA Aa f];rfl
def Vf{α:Type}{es ds:List α}{i:Nat}(h:i+ds.length<=es.length):Ck es i ds=some (es.take i++ds++es.drop (i+ds.length)):=by
 unfold Ck;rw[D4 (by first|exact h|simpa using h)]
variable{sz:Nat}
def TP(ds:List (List Al))(i:ds≠ [])(f: ∀e∈ds,e.length=sz)(k:0<sz)(l:ds.length<=1000000)(g:G)(a:Id)(j:TI)(h:j.mix=false)(c:j.size=sz):QE g a j .d7 (some (ds.map fun x=>x.map AV.d))=some ⟨.f8 (1::a) 0 ds.length,[(1::a,.em sz ds)]⟩:=by
 rw[OV g a j .d7 ds AA (fun e b=>by rw[c];exact f e b) i zEm,Tz,Sv g a j ds h AA (fun e b=>by rw[c];exact f e b) zEm,c]
def QF{id:Id}(es ds:List (List Al))(f:ds≠ [])(k: ∀e∈ds,e.length=sz)(l:0<sz)(m:es.length+ds.length<=1000000)(n:Nat)(b:n=es.length)(g:G)(a:Id)(j:TI)(c:j.size=sz)(h:g id=some (.em sz es)):QE g a j (.f8 id 0 n) (some (ds.map fun x=>x.map AV.d))=some ⟨.f8 (1::a) 0 (n+ds.length),[(id,.i7 0 []),(1::a,.em sz (es++ds))]⟩:=by
 have i:Ck es (0+n) ds=none:=by
  unfold Ck;rw[Ci];have:0<ds.length:=List.length_pos_iff.2 f;omega
 rw[OV g a j _ ds AA (fun e b=>by rw[c];exact k e b) f zEm,Ra,h,RZ,D4 ⟨c.symm,AA⟩,Tx,Kf,Jh,RY,R6,D4 rfl,i,Tv,D4 ⟨rfl,by simp[BF];omega⟩,b,D2];rfl
def Wh{g:G}{id:Id}{sz:Nat}{es x:List (List Al)}{a n:Nat}(h:g id=some (.em sz (es++x)))(m:n=es.length)(r:a<n)(p: ∀e∈es,e.length=sz)(q:0<sz)(s:n<=1000000)(f:Id)(j:TI)(b:j.size=sz):
 QE g f j (.f8 id 0 a) (some (List.take (n-(a+1)) (List.drop (a+1) ((es++x).map fun e=>e.map AV.d))))=some ⟨.f8 id 0 (n-1),if a+1=n then []else [(id,.em sz (es.take a++(es.drop (a+1)++(es.drop (n-1)++x))))]⟩:=by
 subst m;have i:List.take (es.length-(a+1)) (List.drop (a+1) ((es++x).map fun e=>e.map AV.d))=(es.drop (a+1)).map fun e=>e.map AV.d:=by
  rw[<-Pp,<-OK,OF AA,ID AG,Bi AG]
 rw[i];by_cases c:a+1=es.length
 .rw[T0 AA,BY,Zp,Zs,D4 c];congr 2;exact congrArg _ AA
 .have o:es.drop (a+1)≠ []:=fun e=>by rw[PU]at e;omega
  have k: ∀e∈es.drop (a+1),e.length=j.size:=fun e l=>by rw[b];exact p e (Lc l)
  rw[OV g f j _ _ AA k o zEm,Ra,h,RZ,D4 ⟨b.symm,Aa⟩,Tx,Kf,Jh,RY,R6,D4 rfl,Vf Aa,Tw,Ci c];simp only[I9,CE,Ii];congr 2
  .exact congrArg _ AA
  .rw[ID AA,OF AA,show a+(es.length-(a+1))=es.length-1 by omega,DO]
def aE{g:G}{id:Id}{off:Nat}{z:List Al}{j:TI}(h:g id=some (.em sz es))(b:j.size=sz)(f:C6 (fun _=>none) j.zero=some z)(c:z.length=sz)(a:(j.zero.length=sz/\j.zero.all AV.isCell=true)/\0<sz)(e:off+n<=es.length):JI g id off n j=some ⟨.undef,[(id,.em sz (es.take off++(List.replicate n z++es.drop (off+n))))]⟩:=by
 unfold JI;rw[h];simp only[f];rw[D4 ⟨c,by rw[a.1.1,b],a.1.2,a.2⟩,Vf zFF];simp[DO]
def fA(g:G)(id:Id)(off n:Nat):Option TI->Option C0
 |some j=>JI g id off n j
 |none=>none
def cf(a:TypeId->Option TI)(g:G)(i:TI)(id:Id)(off:Nat)(b:i.kind=.slice):Hc a g (some i) (.f8 id off 1)=fA g id off 1 (a i.elem):=by
 unfold Hc;simp only[b];cases a i.elem<;>rfl
theorem aD(g:G)(id:Id)(off n:Nat)(j:TI):fA g id off n (some j)=JI g id off n j:=rfl
attribute [go_sem] cf aD
def UJ{es x:List (List Al)}{a sz:Nat}{z:List Al}{zs:List AV}(L:List (List Al))(r:a<es.length)(l:L=es.take a++(es.drop (a+1)++(es.drop (es.length-1)++x)))(q:C6 (fun _=>none) zs=some z)(p:z.length=sz)(m:(zs.length=sz/\zs.all AV.isCell=true)/\0<sz){id:Id}(g:G)(j:TI)(h:g id=some (.em sz L))(n:j.size=sz)(o:j.zero=zs):JI g id (es.length-1) 1 j=some ⟨.undef,[(id,.em sz (es.take a++(es.drop (a+1)++(z::x))))]⟩:=by
 subst o l;have c:(es.take a).length=a:=zFN
 have e:(es.drop (a+1)).length=es.length-1-a:=by rw[Ii];omega
 have f:(es.drop (es.length-1)).length=1:=by rw[Ii];omega
 rw[aE h n q p m (by simp only[Be,c,e,f];omega)];congr 5;have i:es.take a++(es.drop (a+1)++(es.drop (es.length-1)++x))=(es.take a++es.drop (a+1))++(es.drop (es.length-1)++x):=AG;have b:(es.take a++es.drop (a+1)).length=es.length-1:=by rw[Be,c,e];omega
 rw[i,List.take_left' b];have k:(es.take a++es.drop (a+1))++(es.drop (es.length-1)++x)=((es.take a++es.drop (a+1))++es.drop (es.length-1))++x:=(DO ..).symm;rw[k,List.drop_left' (l₁:=(es.take a++es.drop (a+1))++es.drop (es.length-1)) (by rw[Be,b,f])];simp
end Go.Abs
namespace Go.Proofs
open Abs
def Ba(p:AX)(mu:Bool)(V:MV)(w:Int):List AV:=[.d (.bv (p.free.map Br)),.d (.bv (p.nodes.map Bc)),.d (.bv (p.defs.map B4)),nI p.main,V.s 0,V.s 1,V.v3,V.s 2,V.s 3,nI w,.d (.bool (mu))]
abbrev Vr(p:AX):=Gj (Ba p false) false
def Jx(p:AX)(π:List Nat)(m:Abs.Id)(V:MV)(h:AD):Option CW->A8->AD->Prop
 |some st,o,h'=>o=.ret (.ii [])/\MI (Ba p false) false (Id.under π) m V h st h'
 |none,o,h'=>o=.ret (.ii [])/\(∃V' w,h'.get m=some (.box (Ba p true V' w)))/\ ∀id,id∉V.ids m->Id.under π id=false->h'.get id=h.get id
def sH(l:List Cm)(c: ¬l.length=0)(i:l.length<=1000000): ∀(g:G) (a:Abs.Id) (j:TI),j.mix=false->j.size=2->QE g a j .emp (some ((l.map AN).map fun x=>x.map AV.d))=some ⟨.f8 (1::a) 0 l.length,[(1::a,.em 2 (l.map AN))]⟩:=by
 intro g a j h b;have:=TN g a j (l.map AN) h AA (fun e f=>by
  obtain⟨x,_,rfl⟩:=F1.1 f;rw[b];rfl) (fun e=>c (by rw[D5.1 e];rfl)) zEm
 rw[this,As,b]
def Jn(π:List Nat)(l:List Cm):A8×AD:=if l.length=0 then(.ret .emp,[])else(.ret (.f8 (1::3::π) 0 l.length),[(1::3::π,.em 2 (l.map AN))])
def GQ(l:List Cm)(b:l.length<=1000000)(k:Nat)(ρ:List Nat):BX kT 145 [.d (.bv (l.map AN))] (k::ρ)=.ok (Jn (k::ρ) l):=by
 by_cases a:l.length=0
 .rw[Jn,D4 a];obtain rfl:=BI a;refine Az Tryz.func145 ?_;exact au
 .rw[Jn,Ci a];have ap:=sH l a b;have fa:=B7;refine Az Tryz.func145 ?_;exact au
def QN{h:AD}{π:List Nat}{id:Abs.Id}{es x:List (List Al)}{n a:Nat}(f:h.get id=some (.em 1 (es++x)))(C:Id.under π id=false)(B:n=es.length)(s:a<n)(q: ∀e∈es,e.length=1)(A:n<=1000000):
 ∃o h',kT (.fn 161) [.f8 id 0 n,nI a,nI ((a:Int)+1)] h π true none=.ok (o,h')/\o=.ret (.f8 id 0 (n-1))/\(∃y,h'.get id=some (.em 1 (es.take a++es.drop (a+1)++y)))/\ ∀i,Id.is id i=false->h'.get i=h.get i:=by
 subst B;have M:IntKind.i64.wrap ((a:Int)+1)=(a:Int)+1:=wrap_id AA AA;have K:=AI C;have H:=lK (g:=h.get) (n:=es.length) f (a:=a) (b:=(a:Int)+1) (m:=es.length) AA AA AA Aa AA;have u:=N6 (g:=h.get) (n:=es.length) f (b:=a) AA Aa Aa;have v:=N7 (g:=h.get) (n:=es.length) f (a:=(a:Int)+1) AA AA AG Aa;have D:((a:Int)).toNat=a:=rfl;have F:((a:Int)+1).toNat=a+1:=AA;rw[D]at u;rw[F]at v;have r:=Wh f rfl s q AZ A;replace q:=AB q;have J:a+(1+(es.length-(a+1)))<=es.length+x.length:=AA;have I: ¬(a:Int)=(a:Int)+1:=AA;refine BR Tryz.func161 ?_;have t:es.length-(es.length-1)=1:=AA;have c:=fun L w=>UJ (es:=es) (x:=x) (sz:=1) (z:=[.bv []]) (zs:=[.d7]) L s w rfl rfl ⟨⟨rfl,rfl⟩,AZ⟩ (id:=id);by_cases j:a+1=es.length
 .rw[D4 j]at r;have k:=fun(g:G) (l:g id=some (.em 1 (es++x)))=>O1 (n:=es.length-1) l (a:=((es.length-1:Nat):Int)) (b:=es.length) AA AA Aa Aa;exact zA7
 .rw[Ci j]at r;have k:=fun(g:G) (l:g id=some (.em 1 (es.take a++(es.drop (a+1)++(es.drop (es.length-1)++x)))))=>O1 (n:=es.length-1) l (a:=((es.length-1:Nat):Int)) (b:=es.length) AA AA Aa Aa;exact zCl
def YZ{h:AD}{π:List Nat}{id:Abs.Id}{es x:List (List Al)}{n a:Nat}(f:h.get id=some (.em 3 (es++x)))(C:Id.under π id=false)(B:n=es.length)(s:a<n)(q: ∀e∈es,e.length=3)(A:n<=1000000):
 ∃o h',kT (.fn 101) [.f8 id 0 n,nI a,nI ((a:Int)+1)] h π true none=.ok (o,h')/\o=.ret (.f8 id 0 (n-1))/\(∃y,h'.get id=some (.em 3 (es.take a++es.drop (a+1)++y)))/\ ∀i,Id.is id i=false->h'.get i=h.get i:=by
 subst B;have M:IntKind.i64.wrap ((a:Int)+1)=(a:Int)+1:=wrap_id AA AA;have K:=AI C;have H:=lK (g:=h.get) (n:=es.length) f (a:=a) (b:=(a:Int)+1) (m:=es.length) AA AA AA Aa AA;have u:=N6 (g:=h.get) (n:=es.length) f (b:=a) AA Aa Aa;have v:=N7 (g:=h.get) (n:=es.length) f (a:=(a:Int)+1) AA AA AG Aa;have D:((a:Int)).toNat=a:=rfl;have F:((a:Int)+1).toNat=a+1:=AA;rw[D]at u;rw[F]at v;have r:=Wh f rfl s q AZ A;replace q:=AB q;have J:a+(1+(es.length-(a+1)))<=es.length+x.length:=AA;have I: ¬(a:Int)=(a:Int)+1:=AA;refine BR Tryz.func101 ?_;have t:es.length-(es.length-1)=1:=AA;have c:=fun L w=>UJ (es:=es) (x:=x) (sz:=3) (z:=[.int .i64 0,.int .i64 0,.bv []]) (zs:=[nI 0,nI 0,.d7]) L s w rfl rfl ⟨⟨rfl,rfl⟩,AZ⟩ (id:=id);by_cases j:a+1=es.length
 .rw[D4 j]at r;have k:=fun(g:G) (l:g id=some (.em 3 (es++x)))=>O1 (n:=es.length-1) l (a:=((es.length-1:Nat):Int)) (b:=es.length) AA AA Aa Aa;exact zA7
 .rw[Ci j]at r;have k:=fun(g:G) (l:g id=some (.em 3 (es.take a++(es.drop (a+1)++(es.drop (es.length-1)++x)))))=>O1 (n:=es.length-1) l (a:=((es.length-1:Nat):Int)) (b:=es.length) AA AA Aa Aa;exact zCl
variable{α:Type}
def Da{β:Type}{f:α->List β}{n:Nat}: ∀{l:List α},(∀x∈l,(f x).length<=n)->(l.flatMap f).length<=l.length*n
 |[],_=>AG
 |x::l,h=>by
  have b:=h x AG;have h2:=Da (f:=f) (n:=n) (l:=l) fun y a=>h y zEg;rw[EM,Be,List.length_cons,T2];omega
def dB: ∀{l:List Nat},(∀n∈l,n<=12)->(CR l).length<=12 ^ l.length
 |[],_=>by simp[CR]
 |n::l,h=>by
  have a:=h n AG;have h2:=dB (l:=l) fun y c=>h y zFW;rw[CR,List.length_cons,Nat.pow_succ];have b:=Da (l:=List.range n) (f:=fun(i:Nat)=>(CR l).map fun t=>(i:Int)::t) (n:=12 ^ l.length) fun x g=>by simpa using h2
  rw[List.length_range]at b;have e:n*12 ^ l.length<=12*12 ^ l.length:=HM _ a;omega
variable{sz:List Int}
def wy{p:AX}{s:BU}{g:BA}{d:CJ}{r:Gf}(h:eV p sz s g d r):(Ee s d g r).length<=1728:=by
 rw[Ee];split
 .simp
 .have f:=dB (l:=Bp s d g r) fun n a=>by
   rw[Bp]at a;obtain⟨c,e,rfl⟩:=F1.1 a;obtain⟨_,_,_,q,_,h2,b⟩:=h.join c e;omega
  have h2:(Bp s d g r).length<=3:=by rw[Bp,As];exact h.j1
  have b:12 ^ (Bp s d g r).length<=12 ^ 3:=Nat.pow_le_pow_right AA h2;omega
def Xv{s:BU}{d:CJ}{g:BA}{i:Nat}: ∀{l:List Gf} (k:Nat),(∀r∈l,(Ee s d g r).length<=1728)->(Cd s d g i k l).length<=l.length*1728
 |[],k,_=>by simp[Cd]
 |r::l,k,h=>by
  have b:=h r AG;have h2:=Xv (s:=s) (d:=d) (g:=g) (i:=i) (l:=l) (k+1) fun y a=>h y zEg;rw[Cd,Be,As,List.length_cons];omega
def Vp(p:AX)(s:BU): ∀(l:List Gg) (i:Nat),(Cl p s i l).length<=l.length
 |[],i=>by simp[Cl]
 |w::l,i=>by
  have:=Vp p s l (i+1);rw[Cl,Be,List.length_cons];split<;>simp<;>omega
def bj{p:AX}{s:BU}(a:BP p sz)(e:Fo p sz s): ∀(l:List BA) (i:Nat),s.ce.drop i=l->(DD p s i l).length<=l.length*51840
 |[],i,_=>by simp[DD]
 |g::l,i,h=>by
  have c:s.ce[i]? =some g:=by
   exact zBU
  have h2:=bj a e l (i+1) (by rw[Ag c]at h;exact(To h).2);obtain⟨d,b⟩:=e.grp i g c;rw[DD,Be,List.length_cons,b.f9];have j:=Xv (s:=s) (d:=d) (g:=g) (i:=i) (l:=d.rules) 0 fun r f=>wy (Mq a e c b f);have k:=(CC a (Fx b.f9).2).ok.rules;dsimp only;omega
def O4{p:AX}{s:BU}(b:BP p sz)(a:Fo p sz s):(CG p s).length<=3000000:=by
 have c:=a.small;simp only[BU.small,AP,Ap]at c;have e:=Vp p s s.waits 0;have h2:=bj b a s.ce 0 rfl;rw[CG,Be];omega
instance:DecidableEq FH:=fun a b=>decidable_of_iff (a.wait=b.wait/\a.group=b.group/\a.wn=b.wn/\a.picks=b.picks) (by cases a;cases b;simp)
structure hB(p:AX)(s:BU)(st:Bq):Prop where
 looks:looks p=some st
 formed:BP p st.co
 qr:Fo p st.co s
def Yl{p:AX}{s:BU}(h:DI p s=0): ∃st,hB p s st:=by
 rw[DI]at h;split at h
 .rename_i st a;split at h
  .rename_i b;exact⟨st,a,DP a,uQ b⟩
  .cases h
 .cases h
def kL{p:AX}{s:BU}(h: ¬DI p s=0):DI p s=2:=by
 rw[DI]at h⊢;split at h
 .split at h
  .exact absurd rfl h
  .rename_i a;simp[a]
 .rfl
abbrev M3(x:FH):AV:=.agg [nI x.wait,nI x.group,nI x.wn,.d (.bv (x.picks.map AL))]
inductive Below:List Nat->List Int->Prop
 |nil:Below [] []
 |cons {n:Nat} {k:Int} {l:List Nat} {t:List Int}:0<=k->k<n->Below l t->Below (n::l) (k::t)
def Oo: ∀{l:List Nat} {t:List Int},t∈CR l↔Below l t
 |[],t=>by
  rw[CR,Ac];exact⟨fun h=>h▸ .nil,fun h=>by cases h;rfl⟩
 |n::l,t=>by
  rw[CR,CS];constructor
  .rintro⟨i,hi,ht⟩;obtain⟨e,c,rfl⟩:=F1.1 ht;have:=QR.1 hi;exact .cons AA AA (Oo.1 c)
  .intro h;cases h with
   | @cons _ k _ t a h2 b=>exact⟨k.toNat,QR.2 AA,F1.2 ⟨t,Oo.2 b,by rw[Pu a]⟩⟩
def Below.len: ∀{l:List Nat} {t:List Int},Below l t->t.length=l.length
 |_,_,.nil=>rfl
 |_,_,.cons _ _ h=>by rw[List.length_cons,List.length_cons,h.len]
inductive NJ(p:AX)(s:BU):FH->Prop
 |wait {i:Nat} {w:Gg}:s.waits[i]? =some w->ol p s w=true->NJ p s ⟨i,0,0,[]⟩
 |wn {i k:Nat} {g:BA} {d:CJ} {r:Gf} {t:List Int}:s.ce[i]? =some g->p.def? g.f9=some d->d.rules[k]? =some r->Ak s.ac (g.place d r.at_)=false->Below (Bp s d g r) t->NJ p s ⟨-1,i,k,t⟩
def X9{p:AX}{s:BU}{x:FH}: ∀{l:List Gg} {i:Nat},s.waits.drop i=l->(x∈Cl p s i l↔ ∃j:Nat,i<=j/\ ∃w,s.waits[j]? =some w/\ol p s w=true/\x=⟨j,0,0,[]⟩)
 |[],i,h=>by
  have:s.waits.length<=i:=PU.1 h;exact zAx
 |w::l,i,h=>by
  have b:s.waits[i]? =some w:=by
   exact zBU
  have c:=X9 (x:=x) (p:=p) (l:=l) (i:=i+1) zFJ;rw[Cl,EL,c];constructor
  .rintro(a|⟨j,a,h2⟩)
   .split at a
    .exact⟨i,Es _,w,b,Bw,Ac.1 a⟩
    .cases a
   .exact⟨j,AA,h2⟩
  .rintro⟨j,a,w2,h2,h3,h4⟩;by_cases e:j=i
   .subst e;rw[b]at h2;cases h2;exact .inl (by rw[D4 h3,h4];simp)
   .exact .inr ⟨j,AA,w2,h2,h3,h4⟩
def SJ{s:BU}{d:CJ}{g:BA}{i:Nat}{x:FH}: ∀{l:List Gf} {k:Nat},d.rules.drop k=l->(x∈Cd s d g i k l↔ ∃j:Nat,k<=j/\ ∃r,d.rules[j]? =some r/\ ∃t∈Ee s d g r,x=⟨-1,i,j,t⟩)
 |[],k,h=>by
  have:d.rules.length<=k:=PU.1 h;exact zAx
 |r::l,k,h=>by
  have b:d.rules[k]? =some r:=by
   exact zBU
  have f:=SJ (x:=x) (s:=s) (g:=g) (i:=i) (l:=l) (k:=k+1) zFJ;rw[Cd,EL,f];constructor
  .rintro(a|⟨j,a,h2⟩)
   .obtain⟨t,c,rfl⟩:=F1.1 a;exact⟨k,Es _,r,b,t,c,rfl⟩
   .exact⟨j,AA,h2⟩
  .rintro⟨j,a,w2,h2,h3⟩;by_cases e:j=k
   .subst e;rw[b]at h2;cases h2;obtain⟨t,c,rfl⟩:=h3;exact .inl (F1.2 ⟨t,c,rfl⟩)
   .exact .inr ⟨j,AA,w2,h2,h3⟩
def XM{p:AX}{s:BU}{x:FH}: ∀{l:List BA} {i:Nat},s.ce.drop i=l->(x∈DD p s i l↔ ∃j:Nat,i<=j/\ ∃g d,s.ce[j]? =some g/\p.def? g.f9=some d/\x∈Cd s d g j 0 d.rules)
 |[],i,h=>by
  have:s.ce.length<=i:=PU.1 h;constructor
  .intro h;cases h
  .rintro⟨j,hj,w,_,hw,_⟩;obtain⟨a,_⟩:=BV.1 hw;omega
 |g::l,i,h=>by
  have b:s.ce[i]? =some g:=by
   exact zBU
  have c:=XM (x:=x) (p:=p) (l:=l) (i:=i+1) zFJ;rw[DD,EL,c];constructor
  .rintro(a|⟨j,a,h2⟩)
   .split at a
    .exact⟨i,Es _,g,_,b,Bw,a⟩
    .cases a
   .exact⟨j,AA,h2⟩
  .rintro⟨j,a,w2,d,h2,h3,h4⟩;by_cases e:j=i
   .subst e;rw[b]at h2;cases h2;exact .inl (by rw[h3];exact h4)
   .exact .inr ⟨j,AA,w2,d,h2,h3,h4⟩
def Mv{p:AX}{s:BU}{x:FH}:x∈CG p s↔NJ p s x:=by
 rw[CG,EL,X9 (l:=s.waits) (i:=0) rfl,XM (l:=s.ce) (i:=0) rfl];constructor
 .rintro(⟨j,_,w,h1,h2,rfl⟩|⟨j,_,g,d,h1,h2,h3⟩)
  .exact .wait h1 h2
  .obtain⟨k,_,r,b,t,a,rfl⟩:=(SJ (l:=d.rules) (k:=0) rfl).1 h3;rw[Ee]at a;split at a
   .cases a
   .rename_i c;exact .wn h1 h2 b zEs (Oo.1 a)
 .rintro(⟨h1,h2⟩|⟨h1,h2,h3,b,a⟩)
  .exact .inl ⟨_,It _,_,h1,h2,rfl⟩
  .exact .inr ⟨_,It _,_,_,h1,h2,(SJ (l:=_) (k:=0) rfl).2 ⟨_,It _,_,h3,_,by rw[Ee,b,Ci AG];exact Oo.2 a,rfl⟩⟩
variable{l:List α}{i:Int}
def Ob{x:α}(h:x∈CY l i):x∈l:=by
 rcases EL.1 h with h|h
 .exact MK h
 .exact Lc h
def XE(h:i.toNat<l.length):(CY l i).length=l.length-1:=by
 rw[CY,Be,F2,Ii];omega
def QU(l:List α)(i:Int):(CY l i).length<=l.length:=by
 rw[CY,Be,F2,Ii];omega
variable{q:HD}
def qM{p:AX}{s:BU}(h:ER p s q)(k:Int):ER p s {q with queue:=CY q.queue k}:=by
 have:=QU q.queue k;refine⟨IP this h.len,?_,fun m b=>h.msgs m (Ob b)⟩;rcases h.dead with a|a
 .exact .inl (show(CY q.queue k).length=0 by omega)
 .exact .inr a
structure WX(s s':BU):Prop where
 ac:s'.ac=s.ac
 ce:s'.ce=s.ce
 waits:s'.waits=s.waits
 len:s'.be.length=s.be.length
def dy{p:AX}{s:BU}(i:Fo p sz s){c:Int}(f:s.be[c.toNat]? =some q){k:Int}(j:k.toNat<q.queue.length):Fo p sz (HC s c k).2/\WX s (HC s c k).2/\(HC s c k).1.all (Cm.inB p s.be.length s.ac.length)=true/\(((HC s c k).1.length:Nat):Int)=ET p s q/\ ∀a:Nat,a≠c.toNat->(HC s c k).2.be[a]? =s.be[a]? :=by
 obtain⟨m,g⟩:=get_some j;have h:=i.que _ q f;have b:=h.msgs m (AS g);simp only[Gb,AP,Ap]at b;have e:HC s c k=(m,{s with be:=s.be.set c.toNat {q with queue:=CY q.queue k}}):=by rw[HC,f];simp[g]
 rw[e];refine⟨X0 i f (qM h k),⟨rfl,rfl,rfl,AG⟩,b.2,b.1,fun a h2=>?_⟩;dsimp only;rw[IF,Ci (fun e=>h2 e.symm)]
structure Zi(p:AX)(sz:List Int)(d:CJ)(cs:List Int)(s:BU)(t:List Cm×BU):Prop where
 qr:Fo p sz t.2
 only:WX s t.2
 lc:t.1.all (Cm.inB p s.be.length s.ac.length)=true
 len:((t.1.length:Nat):Int)=C1 d cs
def dw{p:AX}{sz:List Int}{d:CJ}{g:BA}: ∀{cs ks:List Int} {s:BU},Fo p sz s->cs.length=ks.length->
 (∀(i:Nat) c k,cs[i]? =some c->ks[i]? =some k-> ∃q,s.be[(g.own d true c).toNat]? =some q/\k.toNat<q.queue.length/\ET p s q=((d.be[c.toNat]?).map Ik.many).getD 0)->
 (∀(i j:Nat) c b,i<j->cs[i]? =some c->cs[j]? =some b->(g.own d true b).toNat≠(g.own d true c).toNat)->Zi p sz d cs s (CF d g cs ks s)
 |[],ks,s,hs,_,_,_=>by
  rw[CF]
  .exact⟨hs,⟨rfl,rfl,rfl,rfl⟩,rfl,rfl⟩
  .intro c cs k ks h;cases h
 |c::cs,[],s,hs,m,_,_=>by cases m
 |c::cs,k::ks,s,hs,m,hq,hd=>by
  obtain⟨q,w,h2,A⟩:=hq 0 c k rfl rfl;obtain⟨n,a,o,z,r⟩:=dy hs w h2;have e:=dw (p:=p) (sz:=sz) (d:=d) (g:=g) (cs:=cs) (ks:=ks) (s:=(HC s (g.own d true c) k).2) n (by simpa using m) (fun i b x f l=>?_) (fun i j b v B f l=>hd (i+1) (j+1) b v AA zEb zFH)
  .rw[CF];refine⟨e.qr,⟨e.only.ac.trans a.ac,e.only.ce.trans a.ce,e.only.waits.trans a.waits,e.only.len.trans a.len⟩,?_,?_⟩
   .rw[Ty,o,FD];have:=e.lc
    rwa [a.len,a.ac]at this
   .have:=e.len;rw[Be,C1];omega
  .obtain⟨y,b1,t,u⟩:=hq (i+1) b x zEb zFH;refine⟨y,by rw[r _ (hd 0 (i+1) c b AA rfl zEb)];exact b1,t,?_⟩;rw[<-u,ET,ET,a.ce]
def oq{l:List Bl}(f:Hg l){b a:Int}(i:FT l b)(c: ¬b=0):CP l b a=(decide (a=b)||CP l (Bh l b) a):=by
 have g:=f.rt b i;obtain⟨k,h⟩: ∃k,l.length=k+1:=⟨l.length-1,by have:=f.pos;omega⟩;rw[h]at g;have j:=Gn c g;have e:SW l (k+1) (Bh l b)=SW l k (Bh l b):=Tt l k (k+1) _ j.2 AA;rw[CP,CP,h,e,SW,Ci c];simp[D0]
def MX(l:List Bl)(at_:Int):List Bl:=IC l at_ 0 l
def kG(l:List Bl)(at_:Int): ∀(m:List Bl) (i:Nat),(IC l at_ i m).length=m.length
 |[],i=>rfl
 |x::m,i=>by rw[IC,List.length_cons,List.length_cons,kG l at_ m (i+1)]
def kF(l:List Bl)(at_:Int): ∀(m:List Bl) (i k:Nat),(IC l at_ i m)[k]? =(m[k]?).map fun x=>{x with dead:=x.dead||CP l ((i+k:Nat):Int) at_}
 |[],i,k=>by simp[IC]
 |x::m,i,0=>by simp[IC]
 |x::m,i,k+1=>by
  rw[IC,GS,GS,kF l at_ m (i+1) k,show i+1+k=i+(k+1) by omega]
def Ya(l:List Bl)(at_:Int)(k:Nat):(MX l at_)[k]? =(l[k]?).map fun x=>{x with dead:=x.dead||CP l k at_}:=by
 rw[MX,kF];simp
def Gq(l:List Bl)(at_:Int):(MX l at_).length=l.length:=kG l at_ l 0
def kH(l:List Bl)(at_ i:Int):Bh (MX l at_) i=Bh l i:=by
 rw[Bh,Bh,Ya];cases l[i.toNat]? <;>rfl
def W6(l:List Bl)(at_:Int): ∀(k:Nat) (i:Int),Bf (MX l at_) k i=Bf l k i
 |0,i=>rfl
 |k+1,i=>by
  rw[Bf,Bf,kH,W6 l at_ k];congr 2;exact decide_eq_decide.2 (by unfold FT;rw[Gq])
def s8(l:List Bl)(at_:Int)(a:FT l i):Ak (MX l at_) i=(Ak l i||CP l i at_):=by
 have c:=a.1;have e:=a.2;obtain⟨x,b⟩:=get_some (l:=l) (i:=i.toNat) AA;rw[Ak,Ak,Ya,b,show((i.toNat:Nat):Int)=i by omega];rfl
def s9{l:List Bl}(h:Hg l)(at_:Int):Hg (MX l at_):=
 ⟨by rw[Gq];exact h.pos,by rw[kH];exact h.top,fun i a=>by rw[W6,Gq];exact h.rt i (by rw[FT,Gq]at a;exact a)⟩
def yg{p:AX}{s:BU}(S:BP p sz)(h:Fo p sz s)(at_:Int):Fo p sz (PR s at_):=by
 have Q:=h.small;simp only[BU.small,AP,Ap]at Q;have b:(PR s at_).ac=MX s.ac at_:=rfl;have u:(PR s at_).be=s.be.map fun q=>if Ak (MX s.ac at_) q.at_=true then{q with queue:=[]}else q:=rfl
 have I:(PR s at_).waits=s.waits.filter fun w=> !Ak (MX s.ac at_) w.at_:=rfl;have f:(PR s at_).ce=s.ce:=rfl;have e:(PR s at_).be.length=s.be.length:=by rw[u,As]
 have k:(PR s at_).ac.length=s.ac.length:=by rw[b,Gq]
 have T: ∀q l,ET p (PR s at_) {q with queue:=l}=ET p s q:=fun q l=>rfl
 refine⟨?_,by rw[b];exact s9 h.tree _,fun i x D A=>?_,fun i g C=>?_,by rw[f,e,k];exact h.tot,fun c q F=>?_,fun w z=>?_⟩
 .simp only[BU.small,AP,Ap];rw[f,e,k,I];have:=List.length_filter_le (fun w=> !Ak (MX s.ac at_) w.at_) s.waits;omega
 .rw[b]at A⊢;rw[Ya]at A;obtain⟨y,n,rfl⟩:=Bv.1 A;have N:=wI h.tree D n;have M:FT s.ac i:=⟨AA,by have:=AK n;omega⟩;dsimp only;rw[s8 _ _ N,I8,Bool.or_eq_false_iff];rcases h.dead i y D n with a|a
  .exact .inl (.inl a)
  .cases B:CP s.ac i at_ with
   |true=>exact .inl (.inr rfl)
   |false=>
    refine .inr ⟨a,?_⟩;rw[oq h.tree M AA,Bool.or_eq_false_iff]at B;have P:Bh s.ac i=y.pp:=by rw[Bh,show((i:Nat):Int).toNat=i from rfl,n];rfl
    rw[P]at B;exact B.2
 .rw[f]at C;obtain⟨d,a⟩:=h.grp i g C;refine⟨d,a.f9,by rw[b,FT,Gq];exact a.at_,a.len,by rw[e,k];exact a.lc,by rw[f];exact a.ws,fun j ch O=>?_⟩;obtain⟨q,o,h2,r,t⟩:=a.be j ch O;rw[f,u,D7,o];refine⟨_,rfl,?_⟩;dsimp only;split<;>exact⟨h2,r,t⟩
 .rw[u,D7]at F;obtain⟨R,J,rfl⟩:=Bv.1 F;have H:=h.que c R J;split
  .exact⟨AG,.inl rfl,fun m v=>by cases v⟩
  .rename_i a;refine⟨H.len,?_,fun m v=>?_⟩
   .rw[b];exact .inr zEi
   .rw[e,k];exact H.msgs m v
 .rw[I,RS]at z;have:=h.wait w z.1;simp only[Cc,AP,Ap,HW]at this⊢;obtain⟨o,h2,r,t,K,L⟩:=this;rw[e,k,b];exact⟨by rw[FT,Gq];exact o,by simpa using z.2,r,t,K,L⟩
section
variable{l:List Bl}{i n:Int}{x:Bl}
def Ji(l:List Bl)(i n:Int):(FY l i n).length=l.length:=by
 rw[FY];split<;>simp
def VA(a:l[i.toNat]? =some x)(k:Nat):(FY l i n)[k]? =if k=i.toNat then some {x with pp:=n}else l[k]? :=by
 rw[FY,a];dsimp only;rw[IF];have:=AK a;by_cases e:i.toNat=k
 .rw[D4 e,D4 e.symm,D4 AA]
 .rw[Ci e,Ci fun h=>e h.symm]
def Qy(b:0<=i)(a:l[i.toNat]? =some x){k:Int}(c:0<=k):Bh (FY l i n) k=if k=i then n else Bh l k:=by
 rw[Bh,Bh,VA a];by_cases e:k=i
 .rw[D4 AA,D4 e];rfl
 .rw[Ci AA,Ci e]
def R2(a:l[i.toNat]? =some x)(k:Int):Ak (FY l i n) k=Ak l k:=by
 rw[Ak,Ak,VA a];split
 .rename_i e;rw[e,a];rfl
 .rfl
def cU(j:0<=i)(m:l[i.toNat]? =some x): ∀{k:Nat} {b:Int},FT l b->Bf l k b=true->i∉SW l k b->Bf (FY l i n) k b=true
 |0,b,g,c,h=>c
 |k+1,b,g,c,h=>by
  by_cases a:b=0
  .subst a;exact Gp _ _
  .have f:=Gn a c;rw[SW,Ci a,D0,not_or]at h;rw[Bf,Qy j m g.1,Ci fun e=>h.1 e.symm,cU j m f.1 f.2 h.2];have:FT (FY l i n) (Bh l b):=by rw[FT,Ji];exact f.1
   rw[D6 this];simp
def cT(o:Hg l)(r:0<i)(f:l[i.toNat]? =some x)(c:FT l n)(p:CP l n i=false): ∀{k:Nat} {b:Int},FT l b->Bf l k b=true-> ∃m,Bf (FY l i n) m b=true
 |0,b,g,a=>by
  simp only[Bf,Ap]at a;subst a;exact⟨0,Gp _ _⟩
 |k+1,b,g,a=>by
  by_cases j:b=0
  .subst j;exact⟨0,Gp _ _⟩
  .have h:=Gn j a;by_cases e:b=i
   .have q:=cU (n:=n) AA f c (o.rt n c) (by simpa[CP]using p);refine⟨l.length+1,?_⟩;have:FT (FY l i n) n:=by rw[FT,Ji];exact c
    rw[Bf,Qy AA f g.1,D4 e,q,D6 this];simp
   .obtain⟨m,s⟩:=cT o r f c p h.1 h.2;refine⟨m+1,?_⟩;have:FT (FY l i n) (Bh l b):=by rw[FT,Ji];exact h.1
    rw[Bf,Qy AA f g.1,Ci e,s,D6 this];simp
def po(a:Hg l)(g:0<i)(f:l[i.toNat]? =some x)(j:FT l n)(k:CP l n i=false):Hg (FY l i n):=by
 refine⟨by rw[Ji];exact a.pos,by rw[Qy AA f AA,Ci AA];exact a.top,fun b c=>?_⟩;have e:FT l b:=by rw[FT,Ji]at c;exact c
 obtain⟨m,h⟩:=cT a g f j k e (a.rt b e);exact Lv AA (NQ c h)
end
variable{sz:List Int}
def MA{p:AX}{s:BU}(h:Fo p sz s){i n:Int}(r:0<i)(j:FT s.ac i)(z:FT s.ac n)(u:Ak s.ac n=false)(A:CP s.ac n i=false):Fo p sz {s with ac:=FY s.ac i n}:=by
 have C:=h.small;simp only[BU.small,AP,Ap]at C;have F:=j.1;have h2:=j.2;obtain⟨x,e⟩:=get_some (l:=s.ac) (i:=i.toNat) AA;have a:=Ji s.ac i n;refine⟨by simp only[BU.small,AP,Ap,a];omega,po h.tree r e z A,fun k y t f=>?_,fun k g o=>?_,by dsimp only;rw[a];exact h.tot,fun c q B=>?_,fun w D=>?_⟩
 .dsimp only at f⊢;rw[R2 e];rw[VA e]at f;split at f
  .cases f;exact .inr u
  .exact h.dead k y t f
 .obtain⟨d,b⟩:=h.grp k g o;exact⟨d,b.f9,by dsimp only;rw[FT,a];exact b.at_,b.len,by dsimp only;rw[a];exact b.lc,b.ws,b.be⟩
 .have:=h.que c q B;exact⟨this.len,by dsimp only;rw[R2 e];exact this.dead,fun m v=>by dsimp only;rw[a];exact this.msgs m v⟩
 .have:=h.wait w D;simp only[Cc,AP,Ap,HW]at this⊢;rw[R2 e,a,FT,a];exact this
def QI: ∀{l:List Nat} {t:List Int},Below l t-> ∀(i:Nat) n k,l[i]? =some n->t[i]? =some k->0<=k/\k<n
 |_,_,.nil,i,n,k,h,_=>by simp at h
 |_,_,.cons c h2 e,0,n,k,a,b=>by
  simp only[F4,Co]at a b;subst a b;exact⟨c,h2⟩
 |_,_,.cons c h2 e,i+1,n,k,a,b=>QI e i n k zEi zEz
def Pb{d:CJ}{r:Gf}{l:List Int}: ∀{i:Nat},r.eq.drop i=l->joinsOk d r i l=true-> ∀(j k:Nat) c a,i<=j->k<j->r.eq[j]? =some c->r.eq[k]? =some a->c≠a:=by
 induction l with
 |nil=>
  intro i h _ j k c a p _ b _;have:=PU.1 h;have:=AK b;omega
 |cons x l q=>
  intro i h f j k c a p n b g;rw[joinsOk,AP]at f;have o:r.eq[i]? =some x:=by
   exact zBU
  by_cases e:j=i
  .subst e;rw[o]at b;cases b;have m:=f.1;simp only[Hj,AP,Ap,HW,S1]at m;intro e;subst e;exact m.2.2.2 (Ok.2 ⟨k,by rw[I6,D4 n];exact g⟩)
  .exact q (by rw[Ag o]at h;exact(To h).2) f.2 j k c a AA n b g
structure Ai(p:AX)(sz:List Int)(s:BU)(x:FH)(s1:BU)(e:Eg)(js:List HF):Prop where
 qr:Fo p sz s1
 jobs: ∀j∈js,CT p sz s1 j
 run:De p s x=CH (Eu p 401) js ⟨s1,[e],0⟩
 one:js.length<=1
def kZ(x:C8)(k:Nat)(a:Int)(e:List Cm):(BN x k a e).length<=1:=by
 rw[BN];split<;>simp
variable{w:Gg}{x:C8}
def OQ{p:AX}{s:BU}(c:BP p sz)(h:Cc p sz s w=true)(f:p.nodes[w.node.toNat]? =some x)(k:Nat): ∀j∈BN x k w.at_ w.env,CT p sz s j:=by
 obtain⟨y,a⟩:=O5 c h;have e:CT p sz s ⟨w.node,w.at_,w.env⟩:=⟨a.n0,a.size,a.at_,a.live,a.lc⟩;obtain⟨m,l,b,h2,g,i,_⟩:=Jg c e;have b:p.nodes[w.node.toNat]? =some m:=b;rw[a.node]at b;rw[a.node]at f;cases f;cases b;exact LY e (by have:=a.op;omega) g i k
def KO{p:AX}{s:BU}{j:HF}(h:CT p sz s j)(l:List Gg):CT p sz {s with waits:=l} j:=⟨h.n0,h.size,h.at_,h.live,h.lc⟩
def qt{p:AX}{s:BU}{i:Nat}(h:BP p sz)(f:Fo p sz s)(o:s.waits[i]? =some w)(a:ol p s w=true): ∃I e H,Ai p sz s ⟨i,0,0,[]⟩ I e H:=by
 have z:=f.wait w (AS o);obtain⟨x,c⟩:=O5 h z;have F:=f.small;simp only[BU.small,AP,Ap]at F;have m:Fo p sz {s with waits:=CY s.waits i}:=O2 f (by have:=QU s.waits (i:Int);omega) fun v u=>f.wait v (Ob u)
 have b:De p s ⟨i,0,0,[]⟩=OO p {s with waits:=CY s.waits i} w x:=by
  rw[De,Ci AU,RP];simp only[F7,o,c.node]
 rw[OO]at b;have K:=c.op;by_cases g:x.op=7
 .rw[D4 g]at b;exact⟨_,_,[],yg h m w.at_,AG,b,AG⟩
 .rw[Ci g]at b;obtain⟨v,u,r,A⟩:=c.val g;rw[ol,c.node]at a;simp only[g,FN,r]at a;split at a
  .rename_i B;obtain⟨t,y,L,M⟩:=A B;by_cases q:x.op=6
   .rw[D4 q]at b;rw[Ci AA]at a;simp only[AP,Ap,HW]at a;have k:=c.at_;have J:=k.1;have C:=MA m (i:=w.at_) (n:=v.n) AA k t a.2.1 a.2.2;have D:=MA f (i:=w.at_) (n:=v.n) AA k t a.2.1 a.2.2;rw[r]at b;exact⟨_,_,_,C,fun j l=>KO (OQ h (D.wait w (AS o)) c.node 0 j l) (CY s.waits i),b,kZ _ _ _ _⟩
   .rw[Ci q]at b;exact⟨_,_,_,m,fun j l=>KO (OQ h z c.node 0 j l) (CY s.waits i),b,kZ _ _ _ _⟩
  .cases a
variable{k:Nat}{t:List Int}
def RB{p:AX}{s:BU}{i:Nat}{g:BA}{d:CJ}{r:Gf}(D:BP p sz)(A:Fo p sz s)(v:s.ce[i]? =some g)(h2:p.def? g.f9=some d)(P:d.rules[k]? =some r)(Q:Ak s.ac (g.place d r.at_)=false)(C:Below (Bp s d g r) t):Zi p sz d r.eq s (CF d g r.eq t s)/\CT p sz (CF d g r.eq t s).2 ⟨r.node,g.place d r.at_,g.env++(CF d g r.eq t s).1⟩:=by
 obtain⟨ai,m⟩:=A.grp i g v;have z:=AS P;have F:=m.f9;rw[h2]at F;cases F;have o:=Mq D A v m z;have H:=CC D (Fx h2).2;have J:=H.ok.wn r z;simp only[B9,AP,Ap]at J;have y: ∀c∈r.eq,(g.own d true c).toNat=(Hn p (s.ce.take i)).1+c.toNat:=fun c S=>by
  obtain⟨a,b,_⟩:=o.join c S;have:=Jo m.ws a b;omega
 have f:=dw (p:=p) (sz:=sz) (d:=d) (g:=g) (cs:=r.eq) (ks:=t) A (by have:=C.len;rw[Bp,As]at this;exact this.symm) (fun j c T e n=>?_) (fun a b c h R e n=>?_)
 .obtain⟨_,x,az,b1,V,W,X,Y,Z,K,L,_⟩:=H.node;have I:=m.len;rw[K]at I;simp only[GO]at I;obtain⟨B,h⟩:=L r z;refine⟨f,B,?_,by rw[f.only.ac];exact o.place,by rw[f.only.ac];exact Q,?_⟩
  .have:=f.len;dsimp only;rw[h,Be];congr 1;omega
  .rw[f.only.ac,f.only.len,Ty,m.lc,f.lc];rfl
 .obtain⟨ac,B,h,q,u,ad,ag⟩:=o.join c (AS e);have ar:=QI C j (Ld s (g.own d true c)) T (by rw[Bp,D7,e];rfl) n;refine⟨q,u,AA,?_⟩;obtain⟨ch,w⟩:=get_some (l:=d.be) (i:=c.toNat) AA;obtain⟨U,M,N,O,_⟩:=m.be _ ch w;rw[y c (AS e),M]at u;cases u;rw[Mi v h2 w N O,w];rfl
 .rw[y c (AS e),y h (AS n)];have:=Pb rfl J.2.2.2 b a h c (It _) R n e;have av:=(o.join c (AS e)).1;have U:=(o.join h (AS n)).1;omega
def qq{p:AX}{s:BU}{i:Nat}{g:BA}{d:CJ}{r:Gf}(m:BP p sz)(q:Fo p sz s)(a:s.ce[i]? =some g)(h2:p.def? g.f9=some d)(b:d.rules[k]? =some r)(h:Ak s.ac (g.place d r.at_)=false)(l:Below (Bp s d g r) t): ∃w e v,Ai p sz s ⟨-1,i,k,t⟩ w e v:=by
 obtain⟨u,n⟩:=RB m q a h2 b h l;have c:s.ce[((i:Nat):Int).toNat]? =some g:=a;have f:d.rules[((k:Nat):Int).toNat]? =some r:=b;refine⟨(CF d g r.eq t s).2,⟨1,g.place d r.at_,i,k,(CF d g r.eq t s).1⟩,[⟨r.node,g.place d r.at_,g.env++(CF d g r.eq t s).1⟩],u.qr,fun j o=>by rw[Ac.1 o];exact n,?_,AG⟩;rw[De,D4 AU,dM];simp only[c,(Fx h2).2,f,Q6];rw[CH];cases Eu p 401 ⟨r.node,g.place d r.at_,g.env++(CF d g r.eq t s).1⟩ ⟨(CF d g r.eq t s).2,[⟨1,g.place d r.at_,i,k,(CF d g r.eq t s).1⟩],0⟩<;>rfl
def xX{p:AX}{s:BU}{x:FH}(b:BP p sz)(c:Fo p sz s)(h:NJ p s x): ∃k e j,Ai p sz s x k e j:=by
 cases h with
 |wait a h2=>exact qt b c a h2
 |wn a h2 f g i=>exact qq b c a h2 f g i
variable{st:CW}
def O3{p:AX}{s:BU}{x:FH}(c:BP p sz)(i:Fo p sz s)(h:NJ p s x)(f:De p s x=some st):Fo p sz st.d8/\st.ev≠ []/\st.ev.length<=401:=by
 obtain⟨m,e,k,b⟩:=xX c i h;rw[b.run]at f;have a:=Rq (fun j st st'=>Jb c 401 j st st') k ⟨m,[e],0⟩ st b.qr b.jobs f;obtain⟨l,g,_⟩:=a.evs;refine⟨a.qr,by rw[g];simp,?_⟩;have h2:=a.ev;have n:=a.top AU;dsimp only[List.length_cons,List.length_nil]at h2;omega
def G8(l:List Int)(at_:Int)(env:List Cm):List HF:=l.map fun n=>⟨n,at_,env⟩
variable{h:AD}{π:List Nat}{m:Abs.Id}{V:MV}
def yS{p:AX}(O:BP p sz)(L:KS p sz k)(v:J4 p sz h m V st)(q:Bx π V m)(A:Ky p sz k st)(j:HF)(z:OU p j x)(ar:p.nodes.length<=60)(ag:x.kids.length<=2)(C: ∀u∈G8 x.kids j.at_ j.env,CT p sz st.d8 u):
 ∃o h',kT (.fn 111) [.ptr m 0,.agg [nI j.node,nI j.at_,.d (.bv (j.env.map AN))]] h π true none=.ok (o,h')/\G3 p sz π m V h (CH (Eu p k) (G8 x.kids j.at_ j.env) st) o h':=by
 have U:=v.box;have J:=q m (V.m_mem m);simp only[BL]at U;have Z:=AI J;have ac:=Aj J;have av:=z.node;have ai:=z.n0;have ad:=z.len;have az:=Q0 z;replace v:=AB v;replace q:=AB q;replace C:=AB C;replace A:=AB A;refine BR Tryz.func111 ?_;refine aw ?_;refine Aq x.kids _ (S:=fun W i (a:AD×Nat)=>⟨[(0,.ptr m 0),(3,.ptr (0::0::π) 0),(15,.d (.bv (x.kids.map AL))),(16,nI W),(17,nI i)],a.1,a.2+13,[]⟩)
  (Inv:=fun i I a=>AH (∃V' st',G4 p sz π m V h (a.2+13) V' st' a.1/\Ky p sz k st'/\(∀u∈G8 I j.at_ j.env,CT p sz st'.d8 u)/\CH (Eu p k) (G8 x.kids j.at_ j.env) st=CH (Eu p k) (G8 I j.at_ j.env) st')/\a.1.get (0::0::π)=some (.box [nI j.node,nI j.at_,.d (.bv (j.env.map AN))])) (b0:=(_,_)) rfl ⟨⟨V,st,?_,A.1,C.1,rfl⟩,?_⟩ ?_ ?_
 .refine(JC v.1 q.1 fun id b=>?_).up (It _);have X:=AI b;simp only[go_sem,X,AM]
 .simp only[go_sem]
 .rintro i y ⟨g,b⟩ a0 Q R ⟨t,H⟩ K;dsimp only at*;obtain⟨V',st',e,c,s,l⟩:=t.1;clear t;replace l:=AB l;replace c:=AB c;replace s:=AB s;replace e:=AB e;refine aw ?_;have F:=s.1 ⟨y,j.at_,j.env⟩ (by simp[G8]);refine Ad (L g ((b+23)::π) m V' st' ⟨y,j.at_,j.env⟩ e.1.rep (e.1.apart q.1 AA) c.1.qr F c.1.w0 c.1.w1 c.1.w2 c.1.ev) (fun a1 g1 f=>?_);have P:=(e.1.box q.1 (k:=0) (n:=b+23) AA f).trans H;have w:AH (CH (Eu p k) (G8 (y::x.kids.drop (i+1)) j.at_ j.env) st'=(Eu p k ⟨y,j.at_,j.env⟩ st').bind (CH (Eu p k) (G8 (x.kids.drop (i+1)) j.at_ j.env))):=⟨rfl⟩;cases r:Eu p k ⟨y,j.at_,j.env⟩ st' with
  |none=>
   rw[r]at f w;have N:=e.1.ge q.1 AA f;obtain rfl:=f.1;refine aw ?_;rw[l.1,w.1];exact N
  |some Y=>
   rw[r]at f w;have D:=Jb O k _ _ _ c.1.qr F r;obtain⟨M,B,_⟩:=e.1.call q.1 AA f;obtain rfl:=f.1;replace f:=AB f;replace r:=AB r;replace B:=AB B;refine aw ?_;refine K.1 (_,_) ⟨⟨M,Y,B.1.up AA,c.1.post D,fun u T=>Mg (s.1 u ?_) D.ext,?_⟩,P⟩
   .simp only[G8,By,D0]at*;exact .inr T
   .rw[l.1,w.1];rfl
 .rintro i ⟨g,b⟩ Q R ⟨t,H⟩;dsimp only at*;obtain⟨V',st',e,c,s,l⟩:=t.1;clear t;replace l:=AB l;refine aw ?_;rw[l.1];exact e.fin
def Ni(f:HF->CW->Option CW)(j:HF)(st:CW):CH f [j] st=f j st:=by
 simp only[CH];cases f j st<;>rfl
def me{p:AX}{sz:List Int}{k:Nat}(X:BP p sz)(N:KS p sz k){h:AD}{π:List Nat}{m:Abs.Id}{V:MV}{st:CW}(t:J4 p sz h m V st)(q:Bx π V m)(i:Ky p sz k st)(j:HF){x:C8}(w:OU p j x)(ac:p.nodes.length<=60){e:B3}(L:x.args=[e])(P:e.formed j.env.length=true){f g:Int}(y:x.kids=[f,g])
 (C:CT p sz st.d8 ⟨f,j.at_,j.env⟩) (D:CT p sz st.d8 ⟨g,j.at_,j.env⟩):
 ∃o h',kT (.fn 113) [.ptr m 0,.agg [nI j.node,nI j.at_,.d (.bv (j.env.map AN))]] h π true none=.ok (o,h')/\G3 p sz π m V h (CH (Eu p k) (BN x (Qh x j.env) j.at_ j.env) st) o h':=by
 have Q:=t.box;have M:=q m (V.m_mem m);simp only[BL]at Q;have U:=AI M;have W:=Aj M;have ad:=w.node;have Z:=w.n0;have Y:=w.len;have ag:=Q0 w;obtain⟨s,r,ar,av⟩:=x;dsimp only at L y;subst L;subst y;have S: ∃v,v=e.value j.env:=⟨_,rfl⟩;obtain⟨v,z⟩:=S;have R:=xq j.env e P;rw[<-z]at R;have u:AH (Qh ⟨s,r,[e],[f,g]⟩ j.env=if v.kind=1/\v.n≠0 then 0 else 1):=⟨by simp only[Qh,F4,z]⟩;replace z:=AB z;replace t:=AB t;replace q:=AB q;replace C:=AB C;replace D:=AB D;replace i:=AB i;have go:AH (∀(c:Int),CT p sz st.d8 ⟨c,j.at_,j.env⟩-> ∀H n,(∀id,Id.under π id=false->H.get id=h.get id)-> ∃o g1,kT (.fn 66) [.ptr m 0,nI c,nI j.at_,.d (.bv (j.env.map AN))] H (n::π) true none=.ok (o,g1)/\G3 p sz π m V h (Eu p k ⟨c,j.at_,j.env⟩ st) o (gc (n::π) g1)):=⟨fun c l H n K=>by
  obtain⟨o,g1,O,h2⟩:=N H (n::π) m V st ⟨c,j.at_,j.env⟩ (Ek t.1 q.1 K) (q.1.ext n) i.1.qr l i.1.w0 i.1.w1 i.1.w2 i.1.ev;exact⟨o,g1,O,R0 q.1 K h2⟩⟩
 by_cases l:v.kind=1/\v.n≠0
 .rw[u.1,D4 l];clear u;have B:AH (CH (Eu p k) (BN ⟨s,r,[e],[f,g]⟩ 0 j.at_ j.env) st=Eu p k ⟨f,j.at_,j.env⟩ st):=⟨Ni _ _ _⟩;refine BR Tryz.func113 ?_;refine aw ?_;refine Cv (go.1 f C.1 _ _ fun id b=>?_) (fun T g1 a=>?_)
  .have I:=AI b;simp only[go_sem,I,AM]
  .rw[<-B.1]at a;cases F:CH (Eu p k) (BN ⟨s,r,[e],[f,g]⟩ 0 j.at_ j.env) st;all_goals
    rw[F]at a;have A:=AB a;obtain rfl:=a.1;replace a:=AB a;refine aw ?_;exact A.1
 .rw[u.1,Ci l];clear u;have B:AH (CH (Eu p k) (BN ⟨s,r,[e],[f,g]⟩ 1 j.at_ j.env) st=Eu p k ⟨g,j.at_,j.env⟩ st):=⟨Ni _ _ _⟩;have ai:(if v.kind=1 then v.n else 0)=0:=by
   split
   .rename_i y;by_cases J:v.n=0
    .exact J
    .exact absurd ⟨y,J⟩ l
   .rfl
  clear l;refine BR Tryz.func113 ?_;refine aw ?_;refine Cv (go.1 g D.1 _ _ fun id b=>?_) (fun T g1 a=>?_)
  .have I:=AI b;simp only[go_sem,I,AM]
  .rw[<-B.1]at a;cases F:CH (Eu p k) (BN ⟨s,r,[e],[f,g]⟩ 1 j.at_ j.env) st;all_goals
    rw[F]at a;have A:=AB a;obtain rfl:=a.1;replace a:=AB a;refine aw ?_;exact A.1
variable{x1 x2 x3 x4 x5 x7 x8 x9 x10 x11 x12:AV}
def ZA{q:AV}{ds:List CJ}{g:BA}{d:CJ}(z:h.get m=some (.box [q,x1,x2,x3,x4,x5,.d (.bv (ds.map B4)),x7,x8,x9,x10,x11,x12]))(j:Id.under π m=false)(w:0<=g.f9)(k:ds[g.f9.toNat]? =some d)(r:d.be.length<=30)(s:d.ac.length<=30)(l:d.own<=g.env.length)(y:g.env.length<=10000)(c:Bool)(n:Int)(A:0<=n)(i:n<if c then(d.be.length:Int)else d.ac.length):
 ∃o h',kT (.fn 95) [.ptr m 0,.agg [nI g.f9,nI g.at_,.d (.bv (g.env.map AN))],.d (.bool (c)),nI n] h π true (some π)=.ok (o,h')/\o=.ret (nI (g.own d c n)):=by
 have x:=AK k;have t:=AI j;have u:=Aj j;unfold CJ.own at l;cases c with
 |true=>
  simp only[F6]at i;have e:g.env.length-d.ac.length-d.be.length+n.toNat<g.env.length:=AA;obtain⟨v,b⟩:=get_some e;have f:AH (g.own d true n=v.n):=⟨by
   rw[BA.own];simp only[F6];rw[b];rfl⟩
  have a:((g.env.length:Int)-(d.ac.length:Int)-(d.be.length:Int)+n).toNat=g.env.length-d.ac.length-d.be.length+n.toNat:=AA;rw[<-a]at b;replace a:=AB a;have p:0<=(g.env.length:Int)-(d.ac.length:Int)-(d.be.length:Int)+n:=AA;refine BR Tryz.func95 ?_;refine aw ?_;rw[f.1]
 |false=>
  simp only[AM,FN]at i;have e:g.env.length-d.ac.length-0+n.toNat<g.env.length:=AA;obtain⟨v,b⟩:=get_some e;have f:AH (g.own d false n=v.n):=⟨by
   rw[BA.own];simp only[AM,FN];rw[b];rfl⟩
  have a:((g.env.length:Int)-(d.ac.length:Int)+n).toNat=g.env.length-d.ac.length-0+n.toNat:=AA;rw[<-a]at b;replace a:=AB a;have p:0<=(g.env.length:Int)-(d.ac.length:Int)+n:=AA;refine BR Tryz.func95 ?_;refine aw ?_;rw[f.1]
def Ov{h:AD}{π:List Nat}{m:Abs.Id}{u x1 x2 x3 x4 x5 x7 x8 x9 x10 x11 x12:AV}{ds:List CJ}{g:BA}{d:CJ}(c:h.get m=some (.box [u,x1,x2,x3,x4,x5,.d (.bv (ds.map B4)),x7,x8,x9,x10,x11,x12]))(a:Id.under π m=false)(k:0<=g.f9)(l:ds[g.f9.toNat]? =some d)(e:d.be.length<=30)(f:d.ac.length<=30)(p:d.own<=g.env.length)(q:g.env.length<=10000)(n:Int)(z:0<=n)(A:n<=d.ac.length):
 ∃o h',kT (.fn 94) [.ptr m 0,.agg [nI g.f9,nI g.at_,.d (.bv (g.env.map AN))],nI n] h π true (some π)=.ok (o,h')/\o=.ret (nI (g.place d n)):=by
 have i:=AI a;have v:=Aj a;have j:=AJ a;by_cases r:n=0
 .refine BR Tryz.func94 ?_
  (repeat' (first|simp only[go_sem, *,BA.place]|(refine sx ?_ ?_<;>intro y)|refine sy AA fun x B c=>?_|simp(disch:=first|assumption|omega) only[AR]))
 .have w:IntKind.i64.wrap (n-1)=n-1:=wrap_id AA AA;have s:g.place d n=g.own d false (n-1):=by rw[BA.place,Ci r]
  rw[s];refine BR Tryz.func94 ?_;refine aw ?_;refine EG (ZA (d:=d) (Eq.trans (b:=h.get m) ?_ c) (j _) k l e f p q false (n-1) AA (by simp only[AM,FN];omega)) (fun C g1 t=>?_)
  .simp only[go_sem,i,AM]
  subst t;exact au
variable{x6:AV}{sp:List (List Al)}
def dk(a:h.get m=some (.box [.d (.bv sp),x1,x2,x3,x4,x5,x6,x7,x8,x9,x10,x11,x12]))(c:sp.length<=1000000)(n:Int):
 ∃o h',kT (.fn 146) [.ptr m 0,nI n] h π true (some π)=.ok (o,h')/\o=(Jv (C5 2) (decide (0<=n)&&decide (n<sp.length))).1:=by
 refine BR Tryz.func146 ?_
 (repeat' (first|simp only[go_sem, *]|(refine sx ?_ ?_<;>intro b)|refine sy AA fun x e a=>?_|simp(disch:=first|assumption|omega) only[AR]))
 all_goals simp[Jv, *]
variable{ch:List (List Al)}
def tW{p:AX}(b:h.get m=some (.box [.d (.bv sp),x1,.d (.bv ch),x3,.d (.bv (p.free.map Br)),x5,x6,x7,x8,x9,x10,x11,x12]))(c:Id.under π m=false)(k:sp.length<=1000000)(h2:ch.length<=1000000)(l:p.free.length<=1000000)(v:Cm):
 ∃o h',kT (.fn 180) [.ptr m 0,.agg [nI v.kind,nI v.n]] h π true (some π)=.ok (o,h')/\o=(Jv (C5 2) (v.inB p ch.length sp.length)).1:=by
 have e:=AI c;have f:=Aj c;have g:IntKind.i64.wrap ((p.free.length:Int)-1)=(p.free.length:Int)-1:=wrap_id AA AA;have i:IntKind.i64.wrap ((ch.length:Int)-1)=(ch.length:Int)-1:=wrap_id AA AA;have j:IntKind.i64.wrap ((sp.length:Int)-1)=(sp.length:Int)-1:=wrap_id AA AA;refine BR Tryz.func180 ?_
 (repeat' (first|simp only[go_sem, *]|(refine sx ?_ ?_<;>intro n)|refine sy AA fun x q b=>?_|simp(disch:=first|assumption|omega) only[AR]))
 all_goals clear b e f g i j
 all_goals first
 |(have a:v.inB p ch.length sp.length=true:=by(unfold Cm.inB;grind)
   rw[a];rfl)
 |(have a:v.inB p ch.length sp.length=false:=by(unfold Cm.inB;grind)
   rw[a];rfl)
theorem Yf{p:AX}(B:h.get m=some (.box [.d (.bv sp),x1,.d (.bv ch),x3,.d (.bv (p.free.map Br)),x5,x6,x7,x8,x9,x10,x11,x12]))(q:Id.under π m=false)(w:sp.length<=1000000)(h2:ch.length<=1000000)(x:p.free.length<=1000000)(l:List Cm)(n:Int)(I:n<=1000000):
 ∃o h',kT (.fn 147) [.ptr m 0,.d (.bv (l.map AN)),nI n] h π true (some π)=.ok (o,h')/\o=(Jv (C5 2) (decide ((l.length:Int)=n)&&l.all (Cm.inB p ch.length sp.length))).1:=by
 have r:=AI q;have F:=Aj q;have v:=AJ q;by_cases s:(l.length:Int)=n
 .have H:l.length<=1000000:=AA;rw[D6 s,FD];refine BR Tryz.func147 ?_;refine aw ?_;refine Aq l _ (S:=fun C i (a:AD×Nat)=>⟨[(0,.ptr m 0),(13,.d (.bv (l.map AN))),(14,nI C),(15,nI i)],a.1,a.2+7,[]⟩)
   (Inv:=fun i D a=>a.1.get m=h.get m/\AH (l.all (Cm.inB p ch.length sp.length)=D.all (Cm.inB p ch.length sp.length))) (b0:=(h,_)) ?_ ⟨rfl,⟨rfl⟩⟩ ?_ ?_
  .omega
  .rintro i y ⟨g,c⟩ J z A ⟨k,e⟩ u;dsimp only at*;refine aw ?_;refine EG (tW (p:=p) (sp:=sp) (ch:=ch) (Eq.trans (b:=h.get m) ?_ B) (v _) w h2 x y) (fun t g1 j=>?_)
   .simp only[go_sem,r,k,AM]
   cases f:y.inB p ch.length sp.length with
   |true=>
    rw[f]at j;obtain rfl:t=.ret (.ii []):=j;refine aw ?_;refine u.1 (_,_) ⟨?_,⟨?_⟩⟩
    .simp only[go_sem,r,k,AM]
    .rw[e.1,D9,f,FD]
   |false=>
    rw[f]at j;obtain rfl:t=.ge (C5 2):=j;refine aw ?_;rw[e.1,D9,f,Dl];rfl
  .rintro i ⟨g,c⟩ z A ⟨k,e⟩;dsimp only at*;refine aw ?_;rw[e.1];rfl
 .rw[DL s,Dl];refine BR Tryz.func147 ?_;refine aw ?_;rfl
def Mz(z:AV)(π:List Nat)(g:AD)(b:Nat)(v:AV)(L:List Cm):Prop:=(L=[]/\v=z)\/ ∃id,v=.f8 id 0 L.length/\g.get id=some (.em 2 (L.map AN))/\ ∃n,n<b/\Id.under (n::π) id=true/\ ∃l,id=1::l
abbrev Tg:=Mz .d7
def DK(c n:Nat):List Cm:=(List.range' c n).map fun(i:Nat)=>⟨3,(i:Int)⟩
def G0(c n:Nat):List Cm:=(List.range' c n).map fun(i:Nat)=>⟨4,(i:Int)⟩
def Sa(c n:Nat):DK c (n+1)=DK c n++[⟨3,((c+n:Nat):Int)⟩]:=by simp[DK,List.range'_1_concat]
def TB(c n:Nat):G0 c (n+1)=G0 c n++[⟨4,((c+n:Nat):Int)⟩]:=by simp[G0,List.range'_1_concat]
variable{z:AV}{b:Nat}{L:List Cm}
def KD{g:AD}{b':Nat}{v:AV}(h:Mz z π g b v L)(f:b<=b'):Mz z π g b' v L:=by
 exact zCv
def Cn{π:List Nat}{b n:Nat}{id:Abs.Id}(h:n<b)(g:Id.under (n::π) id=true)(f: ∃l,id=1::l):(∀a k,b<=k->Id.is (a::k::π) id=false)/\(∀a k,b<=k->Id.is id (a::k::π)=false)/\(∀l,Id.is (0::l) id=false)/\(∀l,Id.is id (0::l)=false):=by
 have key: ∀a k,b<=k->a::k::π≠id:=fun a k c e=>by
  subst e;have:=B5 g (n':=k) (under_iff.2 ⟨[a],rfl⟩);omega
 obtain⟨i,rfl⟩:=f;exact⟨fun a k c=>AF (key a k c),fun a k c=>AF fun e=>key a k c e.symm,fun l=>AF AG,fun l=>AF AG⟩
variable{n:Nat}
def Ha{g:AD}(e:n<b)(c:k=L.length)(a:g.get (1::n::π)=some (.em 2 (L.map AN))):Mz z π g b (.f8 (1::n::π) 0 k) L:=.inr ⟨_,by rw[c],a,n,e,under_iff.2 ⟨[1],rfl⟩,_,rfl⟩
def Iv{z:AV}{π:List Nat}{g:AD}{b:Nat}{v:AV}{L:List Cm}(h:Mz z π g b v L)(b':Nat)(f:AE z=[]:=by rfl): ∀i∈AE v,DX b b' π i=false:=by
 rcases h with⟨_,rfl⟩|⟨id,rfl,_,n,c,e,_⟩
 .intro i a;rw[f]at a;cases a
 .intro i a;simp only[AE,Ac]at a;subst a;exact Kn c e
def cF{z:AV}{π:List Nat}{g:AD}{b:Nat}{v:AV}{L:List Cm}(h:Mz z π g b v L){V:MV}{m:Abs.Id}(e:Bx π V m)(j:AE z=[]:=by rfl): ∀i∈AE v,i∉V.ids m:=by
 rcases h with⟨_,rfl⟩|⟨id,rfl,_,n,k,c,_⟩
 .intro i a;rw[j]at a;cases a
 .intro i a f;simp only[AE,Ac]at a;subst a;have:=e _ f;rw[BM c]at this;cases this
def NF(z:AV)(π:List Nat)(g:AD)(b:Nat)(v:AV)(L:List Cm):Prop:=(L=[]/\v=z)\/ ∃id,v=.f8 id 0 L.length/\g.get id=some (.i7 2 (L.map AN))/\ ∃n,n<b/\Id.under (n::π) id=true/\ ∃l,id=1::l
abbrev SE:=NF .d7
def L3{g g':AD}{v:AV}(h:NF z π g b v L)(c: ∀i∈AE v,g'.get i=g.get i):NF z π g' b v L:=by
 rcases h with h|⟨id,rfl,h2,a⟩
 .exact .inl h
 .exact .inr ⟨id,rfl,by rw[c id BH];exact h2,a⟩
def Uc{z:AV}{π:List Nat}{g:AD}{b:Nat}{v:AV}{L:List Cm}(h:NF z π g b v L)(a k:Nat)(m:b<=k)(j:AE z=[]:=by rfl): ∀i∈AE v,Id.is (a::k::π) i=false:=by
 rcases h with⟨_,rfl⟩|⟨id,rfl,_,n,l,f,_⟩
 .intro i c;rw[j]at c;cases c
 .intro i c;simp only[AE,Ac]at c;subst c;refine AF fun e=>?_;subst e;have:=B5 f (n':=k) (under_iff.2 ⟨[a],rfl⟩);omega
def Hi{z:AV}{π:List Nat}{g:AD}{b n:Nat}{v:AV}{L:List Cm}(h:NF z π g b v L)(l:b<=n)(f:AE z=[]:=by rfl): ∀i∈AE v,Id.under (n::π) i=false:=by
 rcases h with⟨_,rfl⟩|⟨id,rfl,_,k,j,c,_⟩
 .intro i a;rw[f]at a;cases a
 .intro i a;simp only[AE,Ac]at a;subst a;cases e:Id.under (n::π) i with
  |false=>rfl
  |true=>
   have:=B5 c e;omega
def Xr{p:AX}{j:HF}{d:CJ}{G:BA}(h:BP p sz)(a:Fm p sz st.d8 j x d)(b:G=A7 st.d8 d x.n j)(H:AD)(ρ:List Nat)(f:MV)(w:Int)(k:H.get m=some (.box (BL p sz f w)))(r:Id.under ρ m=false)(n:Int)(l:0<=n)(q:n<=d.ac.length):
 ∃o h',kT (.fn 94) [.ptr m 0,.agg [nI x.n,nI j.at_,.d (.bv (G.env.map AN))],nI n] H ρ true (some ρ)=.ok (o,h')/\o=.ret (nI (G.place d n)):=by
 have e:d.own<=G.env.length/\G.env.length<=10000:=by
  rw[b,a.env];have:=a.ok.be;have:=a.ok.ac;obtain⟨_,_,_,_,_,_,s⟩:=Jg h a.job;unfold CJ.own;omega
 have c:G.f9=x.n:=zFp
 have i:G.at_=j.at_:=zFp
 have:=Ov (ds:=p.defs) (g:=G) (d:=d) k r (by rw[c];exact a.n0) (by rw[c];exact a.f9) a.ok.be a.ok.ac e.1 e.2 n l q
 rwa [c,i]at this
def mf{p:AX}{sz:List Int}{k:Nat}(az:BP p sz)(cc:KS p sz k){h:AD}{π:List Nat}{m:Abs.Id}{V:MV}{st:CW}(ag:Bx π V m)(L:Ky p sz k st){j:HF}{x:C8}{d:CJ}(F:Fm p sz st.d8 j x d){G:BA}(a0:G=A7 st.d8 d x.n j)
 {e:CA} {g:AD} {b:Nat} {ev:AV} {T:MV} (c3:e.get 0=.ptr m 0) (c4:e.get 3=.ptr (0::0::π) 0) (dq:e.get 4=.ptr (0::10::π) 0) (dr:e.get 5=.ptr (0::21::π) 0) (ds:e.get 6=.ptr (0::31::π) 0) (d4:60<=b) (r:G4 p sz π m V h b T {st with d8:=B6 st.d8 d G} g) (v: ∀i∈AE ev,i∉T.ids m)
 (Q:g.get (0::0::π)=some (.box [nI j.node,nI j.at_,.d (.bv (j.env.map AN))])) (N:g.get (0::10::π)=some (.box [nI x.op,nI x.n,.d (.bv (x.args.map BT)),.d (.bv (x.kids.map AL))])) (dm:g.get (0::21::π)=some (.box [.d (.bv (d.be.map BD)),.d (.bv (d.ac.map Ay)),.d (.bv (d.rules.map BC))])) (D:g.get (0::31::π)=some (.box [nI x.n,nI j.at_,ev])) (B:SE π g b ev G.env):
 Wp cfg kT ⟨112,π,true,none,false,204⟩ 0 (Vj 9 (Tryz.f112.body.get rfl)) ⟨e,g,b,[]⟩ (K1 cfg none [] π true (G3 p sz π m V h (Ic (Eu p k) (Fb p x j st)))):=by
 have b8:=ag m (V.m_mem m);have ch:=AI b8;have d3:=Aj b8;have c1:=F.node;have c7:=F.f9;have d1:=F.ok.be;have d2:=F.ok.ac;obtain⟨a7,b3⟩: ∃n,n=st.d8.be.length:=⟨_,rfl⟩;obtain⟨a6,b2⟩: ∃n,n=st.d8.ac.length:=⟨_,rfl⟩;obtain⟨ng,b4⟩: ∃n,n=st.d8.ce.length:=⟨_,rfl⟩;have be:(B6 st.d8 d G).be.length=a7+d.be.length:=by simp[B6,GA,b3]
 have av:(B6 st.d8 d G).ac.length=a6+d.ac.length:=by simp[B6,E8,b2]
 have bi:(B6 st.d8 d G).ce.length=ng+1:=by simp[B6,b4]
 have ac:Fb p x j st=if a7+d.be.length<=60/\a6+d.ac.length<=24/\ng+1<=40 then some ({st with d8:=B6 st.d8 d G},CK d G 0 d.ac++BN x 0 j.at_ G.env)else none:=by
  simp only[Fb,c7,<-a0,be,av,bi]
 have cs:=L.qr.small;simp only[BU.small,AP,Ap]at cs;obtain⟨ek,el,em,en⟩:=cs;have X:=r.rep.box;simp only[BL]at X;have bx:=KC r.rep.arr;rw[r.rep.be.len,be]at bx;have bs:=E6 (r.rep.sl 0 AA);simp only[Ax,As,av]at bs;have bv:=E6 (r.rep.sl 1 AA);simp only[Ax,As,bi]at bv;have cx:AH (¬(a7+d.be.length<=60/\a6+d.ac.length<=24/\ng+1<=40)->G3 p sz π m V h (Ic (Eu p k) (Fb p x j st)) (.ge (C5 3)) g):=⟨fun c'=>by
  rw[ac,Ci c'];exact⟨rfl,r.frame⟩⟩
 clear be av bi;have de:=AH.mk (Xr (m:=m) az F a0);replace ac:=AB ac;replace a0:=AB a0;replace ag:=AB ag;replace F:=AB F;replace L:=AB L;replace r:=AB r;replace v:=AB v;replace b3:=AB b3;replace b2:=AB b2;replace b4:=AB b4;simp only[Tryz.f112,I3,Vj]
 (repeat' (first|simp only[go_sem, *,↓bx,↓bs,↓bv,AM]|(refine sx ?_ ?_<;>intro d5)|refine sy AA fun x c1 d7=>?_|simp(disch:=first|assumption|omega) only[AR]))
 .have c0:a7+d.be.length<=60/\a6+d.ac.length<=24/\ng+1<=40:=AA;have a1:=UQ (st':={st with d8:=B6 st.d8 d G}) az L.1.qr F.1.job c1 F.1.op (by rw[ac.1,D4 c0])
  have c8:AH (Ic (Eu p k) (Fb p x j st)=CH (Eu p k) (CK d G 0 d.ac++BN x 0 j.at_ G.env) {st with d8:=B6 st.d8 d G}):=⟨by rw[ac.1,D4 c0];rfl⟩
  replace a1:=AB a1;clear c3 c4 dq dr ds dm bx bs bv X cx;refine Aq d.ac _ (S:=fun dn i (a:AD×Nat)=>⟨[(0,.ptr m 0),(3,.ptr (0::0::π) 0),(4,.ptr (0::10::π) 0),(6,.ptr (0::31::π) 0),(175,.d (.bv (d.ac.map Ay))),(176,nI dn),(177,nI i)],a.1,a.2+25,[]⟩)
   (Inv:=fun i c2 a=>AH (∃V' st',G4 p sz π m V h (a.2+25) V' st' a.1/\(∀i∈AE ev,i∉V'.ids m)/\Ky p sz k st'/\(∀ai∈CK d G i c2++BN x 0 j.at_ G.env,CT p sz st'.d8 ai)/\Ic (Eu p k) (Fb p x j st)=CH (Eu p k) (CK d G i c2++BN x 0 j.at_ G.env) st')/\a.1.get (0::0::π)=some (.box [nI j.node,nI j.at_,.d (.bv (j.env.map AN))])/\a.1.get (0::10::π)=some (.box [nI x.op,nI x.n,.d (.bv (x.args.map BT)),.d (.bv (x.kids.map AL))])/\a.1.get (0::31::π)=some (.box [nI x.n,nI j.at_,ev])/\b<=a.2/\AH (SE π a.1 b ev G.env)) (b0:=(_,b)) rfl ⟨⟨T,_,by simpa using r.1.up AA,v.1,⟨a1.1.qr,L.1.w0,L.1.w1,L.1.w2,L.1.ev⟩,a1.1.jobs,c8.1⟩,Q,N,D,Es _,⟨B⟩⟩ ?_ ?_
  .clear r v Q N D B g T;rintro i y ⟨g,c⟩ d9 t c9 ⟨r,Q,N,D,c6,B⟩ b';dsimp only at*;obtain⟨V',st',r,v,A,C,u⟩:=r.1;have X:=r.rep.box;have b1:=r.rep.box;simp only[BL]at X;have av: ¬c=2:=AA;have es:IntKind.i64.wrap ((i:Int)+1)=(i:Int)+1:=wrap_id AA AA;have a3:=fun(H:AD) (n:Nat) (Y:H.get m=g.get m)=>de.1 H (n::π) V' st'.work (Y.trans b1) (AJ b8 n) ((i:Int)+1) AA AA;have Z:AH (∀H:AD,(∀id,(∀a n,c+25<=n->Id.is (a::n::π) id=false)->H.get id=g.get id)-> ∃o g1,kT (.fn 66) [.ptr m 0,nI y.node,nI (G.place d ((i:Int)+1)),.d (.bv (G.env.map AN))] H ((c+42)::π) true none=.ok (o,g1)/\P9 p sz π m V h (c+25) (c+42) V' g (Eu p k ⟨y.node,G.place d ((i:Int)+1),G.env⟩ st') o (gc ((c+42)::π) g1)):=⟨fun H Y=>W8 cc ag.1 r A (j:=⟨y.node,G.place d ((i:Int)+1),G.env⟩) (C _ zFl) H (c+42) AA Y⟩;have O:AH (∀i∈AE ev,(∀a k,c+25<=k->Id.is (a::k::π) i=false)/\Id.under ((c+42)::π) i=false):=⟨fun i t=>⟨fun a k d6=>Uc B.1 a k AA rfl i t,Hi B.1 AA rfl i t⟩⟩;replace b1:=AB b1;replace a3:=AB a3;replace r:=AB r;replace v:=AB v;replace A:=AB A;replace C:=AB C;replace u:=AB u;have cn:AH (CT p sz st'.d8 ⟨y.node,G.place d ((i:Int)+1),G.env⟩):=⟨C.1 _ zFl⟩;have M:AH (CH (Eu p k) (CK d G i (y::d.ac.drop (i+1))++BN x 0 j.at_ G.env) st'=(Eu p k ⟨y.node,G.place d ((i:Int)+1),G.env⟩ st').bind (CH (Eu p k) (CK d G (i+1) (d.ac.drop (i+1))++BN x 0 j.at_ G.env))):=⟨rfl⟩;rcases B.1 with⟨b5,I⟩|⟨a5,I,cl,d0,dd,df,cp⟩
   .rw[I]at D;have a4:=a3.1;have J:=Z.1;rw[show G.env.map AN=[] by rw[b5];rfl]at a4 J;replace a4:=AB a4;replace J:=AB J;refine ax ?_;refine Dr (a4.1 _ _ ?_) (fun ar g1 f=>?_)
    .simp only[go_sem,ch,AM]
    subst f;refine ax ?_;refine Cv (J.1 _ fun b6 W=>?_) (fun ar g1 f=>?_)
    .simp only[go_sem,W,AM]
    cases s:Eu p k ⟨y.node,G.place d ((i:Int)+1),G.env⟩ st' with
    |none=>
     exact zCH
    |some K=>
     exact zAM
   .rw[I]at D;have b7:=O.1 a5 zEn;have ea:=b7.1;replace b7:=AB b7.2;have eb:Id.is m a5=false:=Fi X cl;have ej: ∀l,Id.is (0::l) a5=false:=fun l=>by obtain⟨d',rfl⟩:=cp;exact AF AG
    refine ax ?_;refine Dr (a3.1 _ _ ?_) (fun ar g1 f=>?_)
    .simp only[go_sem,ch,AM]
    subst f;refine ax ?_;refine Cv (Z.1 _ fun b6 W=>?_) (fun ar g1 f=>?_)
    .simp only[go_sem,W,AM]
    cases s:Eu p k ⟨y.node,G.place d ((i:Int)+1),G.env⟩ st' with
    |none=>
     exact zCH
    |some K=>
     exact zAM
  .clear r v Q N D B g T;rintro i ⟨g,c⟩ t c9 ⟨r,Q,N,D,c6,B⟩;dsimp only at*;obtain⟨V',st',bk,v,A,C,u⟩:=r.1;clear r;have c5:=t.1;subst c5;clear t;obtain⟨R,a2,_⟩:=F.1.kid;have bo:CK d G d.ac.length []++BN x 0 j.at_ G.env=[⟨R,j.at_,G.env⟩]:=by rw[BN,a2];rfl
   rw[bo]at C u;rw[Ni]at u;have Z:AH (∀H:AD,(∀id,(∀a n,c+25<=n->Id.is (a::n::π) id=false)->H.get id=g.get id)-> ∃o g1,kT (.fn 66) [.ptr m 0,nI R,nI j.at_,.d (.bv (G.env.map AN))] H ((c+35)::π) true none=.ok (o,g1)/\P9 p sz π m V h (c+25) (c+35) V' g (Eu p k ⟨R,j.at_,G.env⟩ st') o (gc ((c+35)::π) g1)):=⟨fun H Y=>W8 cc ag.1 bk A (j:=⟨R,j.at_,G.env⟩) (C _ AG) H (c+35) AA Y⟩;replace bk:=AB bk;replace v:=AB v;replace A:=AB A;replace C:=AB C;replace u:=AB u;replace bo:=AB bo;rw[a2]at N;replace a2:=AB a2;rcases B.1 with⟨b5,I⟩|⟨a5,I,cl,d0,dd,df,cp⟩
   .rw[I]at D;have J:=Z.1;rw[show G.env.map AN=[] by rw[b5];rfl]at J;replace J:=AB J;refine ax ?_;refine Ad (J.1 _ fun b6 W=>?_) (fun ar g1 f=>?_)
    .rfl
    cases s:Eu p k ⟨R,j.at_,G.env⟩ st' with
    |none=>
     exact zCM
    |some K=>
     exact zBg
   .rw[I]at D;refine ax ?_;refine Ad (Z.1 _ fun b6 W=>?_) (fun ar g1 f=>?_)
    .rfl
    cases s:Eu p k ⟨R,j.at_,G.env⟩ st' with
    |none=>
     exact zCM
    |some K=>
     exact zBg
 all_goals exact cx.1 AA
def mg{p:AX}{sz:List Int}{k:Nat}(fl:BP p sz)(f1:KS p sz k){h:AD}{π:List Nat}{m:Abs.Id}{V:MV}{st:CW}(es:J4 p sz h m V st)(a6:Bx π V m)(c1:Ky p sz k st){j:HF}{x:C8}{d:CJ}(ch:Fm p sz st.d8 j x d){G:BA}(c0:G=A7 st.d8 d x.n j)
 {e:CA} {g:AD} {b:Nat} {ev:AV} (f5:e.get 0=.ptr m 0) (f6:e.get 3=.ptr (0::0::π) 0) (f7:e.get 4=.ptr (0::10::π) 0) (f8:e.get 5=.ptr (0::21::π) 0) (f9:e.get 6=.ptr (0::31::π) 0) (dr: ∀id,Id.under π id=false->g.get id=h.get id)
 (ai:g.get (0::0::π)=some (.box [nI j.node,nI j.at_,.d (.bv (j.env.map AN))])) (ar:g.get (0::10::π)=some (.box [nI x.op,nI x.n,.d (.bv (x.args.map BT)),.d (.bv (x.kids.map AL))])) (av:g.get (0::21::π)=some (.box [.d (.bv (d.be.map BD)),.d (.bv (d.ac.map Ay)),.d (.bv (d.rules.map BC))])) (U:g.get (0::31::π)=some (.box [nI x.n,nI j.at_,ev])) (cn:Tg π g (b+43) ev G.env):
 Wp cfg kT ⟨112,π,true,none,false,204⟩ 0 (Vj 6 (Tryz.f112.body.get rfl)) ⟨e,g,b+43,[]⟩ (K1 cfg none [] π true (G3 p sz π m V h (Ic (Eu p k) (Fb p x j st)))):=by
 have d':=a6 m (V.m_mem m);have cc:=AI d';have w:=Aj d';have gs:=ch.ok.be;have gu:=ch.ok.ac;have O:G.f9=x.n:=by rw[c0];rfl
 have N:G.at_=j.at_:=by rw[c0];rfl
 have fs:=c1.qr.small;simp only[BU.small,AP,Ap]at fs;obtain⟨g2,g3,g5,g6⟩:=fs;obtain⟨ng,d6⟩: ∃n,n=st.d8.ce.length:=⟨_,rfl⟩;obtain⟨g0,e5⟩: ∃n,n=st.d8.be.length:=⟨_,rfl⟩;obtain⟨gf,d5⟩: ∃n,n=st.d8.ac.length:=⟨_,rfl⟩;have g4:ng<=40:=AA;obtain⟨b7,c7⟩: ∃l,l=GK d G ng 0 d.be:=⟨_,rfl⟩;have ex: ∀(t:Nat) c,d.be[t]? =some c->b7[t]? =some ⟨ng,t,G.place d c.at_,[]⟩:=fun t c X=>by rw[c7,Jj,X];simp
 have fv:=AH.mk (Xr (m:=m) fl ch c0);have K:AH (G4 p sz π m V h (b+43) V st g):=⟨(JC es a6 dr).up AA⟩;refine SU 3 fun f2 e4=>?_;have c3:AH (∀(e:CA) (H:AD) (c:Nat),e.get 0=.ptr m 0->e.get 3=.ptr (0::0::π) 0->e.get 4=.ptr (0::10::π) 0->e.get 5=.ptr (0::21::π) 0->e.get 6=.ptr (0::31::π) 0->(∃a4,G4 p sz π m V h (c+66) a4 {st with d8:=B6 st.d8 d G} H/\ ∀i∈AE ev,i∉a4.ids m)->H.get (0::0::π)=some (.box [nI j.node,nI j.at_,.d (.bv (j.env.map AN))])->H.get (0::10::π)=some (.box [nI x.op,nI x.n,.d (.bv (x.args.map BT)),.d (.bv (x.kids.map AL))])->H.get (0::21::π)=some (.box [.d (.bv (d.be.map BD)),.d (.bv (d.ac.map Ay)),.d (.bv (d.rules.map BC))])->H.get (0::31::π)=some (.box [nI x.n,nI j.at_,ev])->SE π H (c+66) ev G.env->Wp cfg kT ⟨112,π,true,none,false,204⟩ 0 f2 ⟨e,H,c+66,[]⟩ (K1 cfg none [] π true (G3 p sz π m V h (Ic (Eu p k) (Fb p x j st))))):=⟨fun e H c f0 x3 x4 x5 x6 e6 gi gm gn gr ga=>by
  obtain⟨a4,e6,gb⟩:=e6;rw[e4];exact mf fl f1 a6 c1 ch c0 f0 x3 x4 x5 x6 AA e6 gb gi gm gn gr ga⟩
 replace e4:=AB e4;replace es:=AB es;replace a6:=AB a6;replace ch:=AB ch;replace c1:=AB c1;replace c0:=AB c0;replace d6:=AB d6;replace e5:=AB e5;replace d5:=AB d5;replace c7:=AB c7;replace ex:=AB ex;replace dr:=AB dr;simp only[Tryz.f112,I3,Vj,Ri];refine aw ?_;clear f5 f6 f7 f8 f9;refine Aq d.be _ (S:=fun fd i (a:AD×Nat)=>⟨[(0,.ptr m 0),(3,.ptr (0::0::π) 0),(4,.ptr (0::10::π) 0),(5,.ptr (0::21::π) 0),(6,.ptr (0::31::π) 0),(84,.d (.bv (d.be.map BD))),(85,nI fd),(86,nI i)],a.1,a.2+47,[]⟩)
  (Inv:=fun i gg a=>AH (∃V',G4 p sz π m V h (a.2+47) V' {st with d8:={st.d8 with be:=st.d8.be++b7.take i}} a.1/\ ∀i∈AE ev,i∉V'.ids m)/\a.1.get (0::0::π)=some (.box [nI j.node,nI j.at_,.d (.bv (j.env.map AN))])/\a.1.get (0::10::π)=some (.box [nI x.op,nI x.n,.d (.bv (x.args.map BT)),.d (.bv (x.kids.map AL))])/\a.1.get (0::21::π)=some (.box [.d (.bv (d.be.map BD)),.d (.bv (d.ac.map Ay)),.d (.bv (d.rules.map BC))])/\a.1.get (0::31::π)=some (.box [nI x.n,nI j.at_,ev])/\AH (Tg π a.1 (a.2+47) ev G.env)) (b0:=(_,b)) rfl ⟨⟨V,by simpa using K.1.up AA,cF cn a6.1⟩,ai,ar,av,U,⟨KD cn AA⟩⟩ ?_ ?_
 .clear K cn dr ai ar av U g b;rintro i y ⟨g,b⟩ dq L d3 ⟨K,ai,ar,av,U,a7⟩ b5;dsimp only at*;obtain⟨V',K,bi⟩:=K.1;have b2:=Iv a7.1 (b+81);have d7:=ch.1.ok.chan y (AS dq);have Q:=K.rep.box;have b3:=fun(H:AD) (n:Nat) (en:H.get m=g.get m)=>fv.1 H (n::π) V' st.work (en.trans Q) (AJ d' n) y.at_ d7.1 d7.2.1;replace b3:=AB b3;simp only[BL]at Q;have b8:=E6 (K.rep.sl 1 AA);simp only[Ax,As,<-d6.1]at b8;have bs:=K.rep.arr;have fk:AH (∀A,V'.v3=.f8 A 0 V'.rows.length->(∀a n,b+47<=n->Id.is (a::n::π) A=false)/\(∀a n,b+47<=n->Id.is A (a::n::π)=false)/\Id.is A m=false/\Id.is m A=false/\ ∀k,Id.is A (0::k::π)=false):=⟨fun A em=>by
   have L:=K.ids A (V'.v3_mem m (by rw[em];simp[AE]));have ad:=HY K.rep.arr (id:=A) (by rw[em];simp[AE]);exact⟨C4 (b':=0) a6.1 L,En a6.1 L,AF fun e=>(by rw[e,Q]at ad;cases ad),AF fun e=>(by rw[<-e,Q]at ad;cases ad),fun k=>AF fun e=>Dv K a6.1 k (by rw[<-e];exact V'.v3_mem m (by rw[em];simp[AE]))⟩⟩
  have gz:V'.rows.length<=1000:=by
   have:=K.rep.be.len;simp only[Be,F2]at this;omega
  have bc:AH (∀H:AD,H.get m=some (.box (BL p sz {V' with v3:=.f8 (1::(b+74)::π) 0 (V'.rows.length+1)} st.work))->H.get (1::(b+74)::π)=some (.arr 4 (V'.rows++[A6 ⟨ng,i,G.place d y.at_,[]⟩ .d7]))->(∀id,Id.is m id=false->(∀ag∈AE V'.v3,Id.is ag id=false)->DX (b+47) (b+81) π id=false->H.get id=g.get id)-> ∃a4,G4 p sz π m V h (b+81) a4 {st with d8:={st.d8 with be:=st.d8.be++b7.take (i+1)}} H/\ ∀i∈AE ev,i∉a4.ids m):=⟨fun H c5 f3 c6=>by
   obtain⟨a4,ds,d0⟩:=K.step (b':=b+81) AA (Z8 K.rep (K.apartB a6.1) (q:=⟨ng,i,G.place d y.at_,[]⟩) rfl (1::(b+74)::π) H c5 f3 ⟨CQ (b+74) [1] AA AA,_,rfl⟩ c6);rw[GC,ex.1 i y dq,<-DO];exact⟨a4,ds,fun i L=>d0 i (bi i L) (b2 i L)⟩⟩
  replace b2:=AB b2;replace bi:=AB bi;replace K:=AB K;replace a7:=a7.1;rcases a7 with⟨P,rfl⟩|⟨id,rfl,ad,n,df,a2,a5⟩
  .have b4:=b3.1;rw[P,BY]at b4;replace b4:=AB b4;replace P:=AB P;rcases bs with⟨bs,dm⟩|⟨A,bs,ek⟩
   .rw[bs]at Q
    (repeat' (first|simp only[go_sem, *,↓b8,AM]|(refine sx ?_ ?_<;>intro X)|refine sy AA fun x a1 a0=>?_|simp(disch:=first|assumption|omega) only[AR]))
    refine Dr (b4.1 _ _ ?_) (fun cx g1 bk=>?_)
    .simp only[go_sem,cc,AM]
    subst bk
    (repeat' (first|simp only[go_sem, *,↓b8,AM]|(refine sx ?_ ?_<;>intro X)|refine sy AA fun x a1 a0=>?_|simp(disch:=first|assumption|omega) only[AR]))
    refine b5.1 (_,_) ⟨⟨bc.1 _ ?_ ?_ fun id b1 W T=>?_⟩,?_,?_,?_,?_,⟨.inl ⟨P.1,rfl⟩⟩⟩
    .rw[dm];simp only[go_sem,BL];first|done|rfl
    .rw[dm];simp only[go_sem,w,AM];rfl
    .have f:=Af T;simp only[go_sem,f,b1,AM]
    .simp only[go_sem,ai,w,AM]
    .simp only[go_sem,ar,w,AM]
    .simp only[go_sem,av,w,AM]
    .simp only[go_sem,U,w,AM]
   .obtain⟨o,r,s,u,f⟩:=fk.1 A bs;rw[bs]at Q
    (repeat' (first|simp only[go_sem, *,↓b8,D2,AM]|(refine sx ?_ ?_<;>intro X)|refine sy AA fun x a1 a0=>?_|simp(disch:=first|assumption|omega) only[AR]))
    refine Dr (b4.1 _ _ ?_) (fun cx g1 bk=>?_)
    .exact zEG
    subst bk
    (repeat' (first|simp only[go_sem, *,↓b8,D2,AM]|(refine sx ?_ ?_<;>intro X)|refine sy AA fun x a1 a0=>?_|simp(disch:=first|assumption|omega) only[AR]))
    refine b5.1 (_,_) ⟨⟨bc.1 _ ?_ ?_ fun ag b1 W T=>?_⟩,?_,?_,?_,?_,⟨.inl ⟨P.1,rfl⟩⟩⟩
    .exact zCq
    .simp only[go_sem,w,A6,AM,o,r,s,u,f];first|done|rfl
    .exact zC6
    .exact zDx
    .exact zDy
    .exact zDz
    .exact zD6
  .obtain⟨B,C,D,F⟩:=Cn df a2 a5;have J:Id.is m id=false:=Fi Q ad;have I:Id.is id m=false:=Fi ad Q;replace a2:=AB a2;replace a5:=AB a5;rcases bs with⟨bs,dm⟩|⟨A,bs,ek⟩
   .rw[bs]at Q
    (repeat' (first|simp only[go_sem, *,↓b8,D2,AM]|(refine sx ?_ ?_<;>intro X)|refine sy AA fun x a1 a0=>?_|simp(disch:=first|assumption|omega) only[AR]))
    refine Dr (b3.1 _ _ ?_) (fun cx g1 bk=>?_)
    .simp only[go_sem,cc,AM,B,C,D,F,J,I]
    subst bk
    (repeat' (first|simp only[go_sem, *,↓b8,D2,AM]|(refine sx ?_ ?_<;>intro X)|refine sy AA fun x a1 a0=>?_|simp(disch:=first|assumption|omega) only[AR]))
    refine b5.1 (_,_) ⟨⟨bc.1 _ ?_ ?_ fun ag b1 W T=>?_⟩,?_,?_,?_,?_,⟨.inr ⟨id,rfl,?_,n,AA,a2.1,a5.1⟩⟩⟩
    .rw[dm];simp only[go_sem,BL,AM,B,C,D,F,J,I];first|done|rfl
    .rw[dm];simp only[go_sem,w,A6,AM,B,C,D,F,J,I];first|done|rfl
    .exact zDQ
    .simp only[go_sem,ai,w,AM,B,C,D,F,J,I]
    .simp only[go_sem,ar,w,AM,B,C,D,F,J,I]
    .simp only[go_sem,av,w,AM,B,C,D,F,J,I]
    .simp only[go_sem,U,w,AM,B,C,D,F,J,I]
    .simp only[go_sem,ad,AM,B,C,D,F,J,I]
   .obtain⟨o,r,s,u,f⟩:=fk.1 A bs;rw[bs]at Q;have R:Id.is A id=false:=Fi ek ad;have Y:Id.is id A=false:=Fi ad ek
    (repeat' (first|simp only[go_sem, *,↓b8,D2,AM]|(refine sx ?_ ?_<;>intro X)|refine sy AA fun x a1 a0=>?_|simp(disch:=first|assumption|omega) only[AR]))
    refine Dr (b3.1 _ _ ?_) (fun cx g1 bk=>?_)
    .simp only[go_sem,cc,AM,B,C,D,F,J,I,o,r,s,u,f,R,Y]
    subst bk
    (repeat' (first|simp only[go_sem, *,↓b8,D2,AM]|(refine sx ?_ ?_<;>intro X)|refine sy AA fun x a1 a0=>?_|simp(disch:=first|assumption|omega) only[AR]))
    refine b5.1 (_,_) ⟨⟨bc.1 _ ?_ ?_ fun ag b1 W T=>?_⟩,?_,?_,?_,?_,⟨.inr ⟨id,rfl,?_,n,AA,a2.1,a5.1⟩⟩⟩
    .simp only[go_sem,BL,AM,B,C,D,F,J,I,o,r,s,u,f,R,Y];first|done|rfl
    .simp only[go_sem,w,A6,AM,B,C,D,F,J,I,o,r,s,u,f,R,Y];first|done|rfl
    .exact zC6
    .simp only[go_sem,ai,w,AM,B,C,D,F,J,I,o,r,s,u,f,R,Y]
    .simp only[go_sem,ar,w,AM,B,C,D,F,J,I,o,r,s,u,f,R,Y]
    .simp only[go_sem,av,w,AM,B,C,D,F,J,I,o,r,s,u,f,R,Y]
    .simp only[go_sem,U,w,AM,B,C,D,F,J,I,o,r,s,u,f,R,Y]
    .simp only[go_sem,ad,AM,B,C,D,F,J,I,o,r,s,u,f,R,Y]
 .clear K cn dr ai ar av U g b;rintro i ⟨g,b⟩ L d3 ⟨K,ai,ar,av,U,a7⟩;dsimp only at*;have el:=L.1;subst el;clear L;have d2:b7.length=d.be.length:=by rw[c7.1,GA]
  rw[<-d2,D2]at K;obtain⟨ea,c9,c'⟩:=K.1;clear K;replace c':=AB c';replace c9:=AB c9;have cn:=a7;clear a7;refine aw ?_;obtain⟨cp,c8⟩: ∃l,l=Db d G d.ac:=⟨_,rfl⟩;have e0: ∀(t:Nat) c,d.ac[t]? =some c->cp[t]? =some ⟨G.place d c.pp,false⟩:=fun t c X=>by rw[c8,Db,D7,X];rfl
  have e1:cp.length=d.ac.length:=by rw[c8,E8]
  have gw:1<=gf:=by rw[d5.1];exact c1.1.qr.tree.pos
  replace c8:=AB c8;replace e0:=AB e0;replace d2:=AB d2;replace e1:=AB e1;refine Aq d.ac _ (S:=fun fd i (a:AD×Nat)=>⟨[(0,.ptr m 0),(3,.ptr (0::0::π) 0),(4,.ptr (0::10::π) 0),(5,.ptr (0::21::π) 0),(6,.ptr (0::31::π) 0),(117,.d (.bv (d.ac.map Ay))),(118,nI fd),(119,nI i)],a.1,a.2+52,[]⟩)
   (Inv:=fun i gg a=>AH (∃V',G4 p sz π m V h (a.2+52) V' {st with d8:={st.d8 with be:=st.d8.be++b7,ac:=st.d8.ac++cp.take i}} a.1/\ ∀i∈AE ev,i∉V'.ids m)/\a.1.get (0::0::π)=some (.box [nI j.node,nI j.at_,.d (.bv (j.env.map AN))])/\a.1.get (0::10::π)=some (.box [nI x.op,nI x.n,.d (.bv (x.args.map BT)),.d (.bv (x.kids.map AL))])/\a.1.get (0::21::π)=some (.box [.d (.bv (d.be.map BD)),.d (.bv (d.ac.map Ay)),.d (.bv (d.rules.map BC))])/\a.1.get (0::31::π)=some (.box [nI x.n,nI j.at_,ev])/\AH (Tg π a.1 (a.2+52) ev G.env)) (b0:=(_,b)) rfl ⟨⟨ea,by simpa using c9.1.up AA,c'.1⟩,ai,ar,av,U,⟨KD cn.1 AA⟩⟩ ?_ ?_
  .clear c9 c' cn ai ar av U g b ea;rintro i y ⟨g,b⟩ dq L d3 ⟨K,ai,ar,av,U,a7⟩ b5;dsimp only at*;obtain⟨V',K,bi⟩:=K.1;have b2:=Iv a7.1 (b+77);have d7:=Ku ch.1.ok.spot i y dq;have Q:=K.rep.box;have b3:=fun(H:AD) (n:Nat) (en:H.get m=g.get m)=>fv.1 H (n::π) V' st.work (en.trans Q) (AJ d' n) y.pp d7.1 AA;replace b3:=AB b3;simp only[BL]at Q;have M:=K.rep.sl 0 AA;obtain⟨b6,c2⟩: ∃l,l=st.d8.ac++cp.take i:=⟨_,rfl⟩;have gv:b6.length<=100:=by rw[c2];simp;omega
   simp only[Dt,Ax,<-c2]at M;have f':b6≠ []:=by
    intro e;have h2:b6.length=0:=zFj
    rw[c2,Be]at h2;have:=c1.1.qr.tree.pos;omega
   rcases M with⟨_,M⟩|⟨S,bv,M,d1⟩
   .exact absurd (D5.1 M) f'
   have bc:AH (∀(v:AV) (H:AD),H.get m=some (.box (BL p sz (V'.ip 0 v) st.work))->KJ H 2 v ((b6++[(⟨G.place d y.pp,false⟩:Bl)]).map Aw)->(AE v=AE (V'.s 0)\/ ∀id∈AE v,DX (b+52) (b+77) π id=true/\ ∃l,id=1::l)->(∀id,Id.is m id=false->(∀ag∈AE (V'.s 0),Id.is ag id=false)->DX (b+52) (b+77) π id=false->H.get id=g.get id)-> ∃a4,G4 p sz π m V h (b+77) a4 {st with d8:={st.d8 with be:=st.d8.be++b7,ac:=st.d8.ac++cp.take (i+1)}} H/\ ∀i∈AE ev,i∉a4.ids m):=⟨fun v H c5 eb ej c6=>by
    obtain⟨a4,ds,d0⟩:=K.step (b':=b+77) AA (Dc (st':={st with d8:={st.d8 with be:=st.d8.be++b7,ac:=b6++[⟨G.place d y.pp,false⟩]}}) 0 AA K.rep (K.apartB a6.1) (XN rfl rfl rfl) rfl v H c5 eb ej c6)
    rw[GC,e0.1 i y dq,<-DO,<-c2];exact⟨a4,ds,fun i L=>d0 i (bi i L) (b2 i L)⟩⟩
   replace b2:=AB b2;replace bi:=AB bi;rw[As]at M;have fr:=K.ids S (V'.s_mem m (i:=0) AA zE8);have o:=fun a n de=>C4 (b':=0) a6.1 fr a n de;have r:=fun a n de=>En a6.1 fr a n de;have s:Id.is S m=false:=Fi d1 Q;have u:Id.is m S=false:=Fi Q d1;have f: ∀k,Id.is S (0::k::π)=false:=fun k=>AF fun e=>Dv K a6.1 k (by rw[<-e];exact V'.s_mem m (i:=0) AA zE8);rw[M]at Q;replace c2:=AB c2;replace K:=AB K;replace a7:=a7.1;rcases a7 with⟨P,rfl⟩|⟨id,rfl,ad,n,df,a2,a5⟩
   .have b4:=b3.1;rw[P,BY]at b4;replace b4:=AB b4;replace P:=AB P;rcases bv with _|⟨z,bv⟩
    ·(repeat' (first|simp only[go_sem, *,D2,AM]|(refine sx ?_ ?_<;>intro X)|refine sy AA fun x a1 a0=>?_|simp(disch:=first|assumption|omega) only[AR]))
     refine Dr (b4.1 _ _ ?_) (fun cx g1 bk=>?_)
     .exact zEG
     subst bk
     (repeat' (first|simp only[go_sem, *,D2,AM]|(refine sx ?_ ?_<;>intro X)|refine sy AA fun x a1 a0=>?_|simp(disch:=first|assumption|omega) only[AR]))
     refine b5.1 (_,_) ⟨⟨bc.1 (.f8 (1::(b+70)::π) 0 (b6.length+1)) _ ?_ (Ao [] AG ?_) (.inr fun ag a'=>?_) fun ag b1 W T=>?_⟩,?_,?_,?_,?_,⟨.inl ⟨P.1,rfl⟩⟩⟩
     .exact zCq
     .simp only[go_sem,w,BE,BY,AM,o,r,s,u,f];first|done|rfl
     .exact zDR
     .exact zAS
     .exact zDx
     .exact zDy
     .exact zDz
     .exact zD6
    ·(repeat' (first|simp only[go_sem, *,D2,AM]|(refine sx ?_ ?_<;>intro X)|refine sy AA fun x a1 a0=>?_|simp(disch:=first|assumption|omega) only[AR]))
     refine Dr (b4.1 _ _ ?_) (fun cx g1 bk=>?_)
     .exact zEG
     subst bk
     (repeat' (first|simp only[go_sem, *,D2,AM]|(refine sx ?_ ?_<;>intro X)|refine sy AA fun x a1 a0=>?_|simp(disch:=first|assumption|omega) only[AR]))
     refine b5.1 (_,_) ⟨⟨bc.1 (.f8 S 0 (b6.length+1)) _ ?_ (Ao bv AG ?_) (.inl (by rw[M];rfl)) fun ag b1 W T=>?_⟩,?_,?_,?_,?_,⟨.inl ⟨P.1,rfl⟩⟩⟩
     .exact zCq
     .simp only[go_sem,w,BE,BY,AM,o,r,s,u,f];first|done|rfl
     .exact zAS
     .exact zDx
     .exact zDy
     .exact zDz
     .exact zD6
   .obtain⟨B,C,D,F⟩:=Cn df a2 a5;have J:Id.is m id=false:=Fi Q ad;have I:Id.is id m=false:=Fi ad Q;have R:Id.is S id=false:=AF fun e=>bi.1 id BH (by rw[<-e];exact V'.s_mem m (i:=0) AA zE8);have Y:Id.is id S=false:=AF fun e=>by rw[e,is_self]at R;cases R
    replace a2:=AB a2;replace a5:=AB a5;rcases bv with _|⟨z,bv⟩
    ·(repeat' (first|simp only[go_sem, *,D2,AM]|(refine sx ?_ ?_<;>intro X)|refine sy AA fun x a1 a0=>?_|simp(disch:=first|assumption|omega) only[AR]))
     refine Dr (b3.1 _ _ ?_) (fun cx g1 bk=>?_)
     .simp only[go_sem,cc,AM,o,r,s,u,f,B,C,D,F,J,I,R,Y]
     subst bk
     (repeat' (first|simp only[go_sem, *,D2,AM]|(refine sx ?_ ?_<;>intro X)|refine sy AA fun x a1 a0=>?_|simp(disch:=first|assumption|omega) only[AR]))
     refine b5.1 (_,_) ⟨⟨bc.1 (.f8 (1::(b+70)::π) 0 (b6.length+1)) _ ?_ (Ao [] AG ?_) (.inr fun ag a'=>?_) fun ag b1 W T=>?_⟩,?_,?_,?_,?_,⟨.inr ⟨id,rfl,?_,n,AA,a2.1,a5.1⟩⟩⟩
     .exact zDg
     .exact zDO
     .exact zDR
     .exact zAS
     .simp only[go_sem,ai,w,AM,o,r,s,u,f,B,C,D,F,J,I,R,Y]
     .simp only[go_sem,ar,w,AM,o,r,s,u,f,B,C,D,F,J,I,R,Y]
     .simp only[go_sem,av,w,AM,o,r,s,u,f,B,C,D,F,J,I,R,Y]
     .simp only[go_sem,U,w,AM,o,r,s,u,f,B,C,D,F,J,I,R,Y]
     .simp only[go_sem,ad,AM,o,r,s,u,f,B,C,D,F,J,I,R,Y]
    ·(repeat' (first|simp only[go_sem, *,D2,AM]|(refine sx ?_ ?_<;>intro X)|refine sy AA fun x a1 a0=>?_|simp(disch:=first|assumption|omega) only[AR]))
     refine Dr (b3.1 _ _ ?_) (fun cx g1 bk=>?_)
     .simp only[go_sem,cc,AM,o,r,s,u,f,B,C,D,F,J,I,R,Y]
     subst bk
     (repeat' (first|simp only[go_sem, *,D2,AM]|(refine sx ?_ ?_<;>intro X)|refine sy AA fun x a1 a0=>?_|simp(disch:=first|assumption|omega) only[AR]))
     refine b5.1 (_,_) ⟨⟨bc.1 (.f8 S 0 (b6.length+1)) _ ?_ (Ao bv AG ?_) (.inl (by rw[M];rfl)) fun ag b1 W T=>?_⟩,?_,?_,?_,?_,⟨.inr ⟨id,rfl,?_,n,AA,a2.1,a5.1⟩⟩⟩
     .exact zDg
     .exact zDO
     .exact zAS
     .simp only[go_sem,ai,w,AM,o,r,s,u,f,B,C,D,F,J,I,R,Y]
     .simp only[go_sem,ar,w,AM,o,r,s,u,f,B,C,D,F,J,I,R,Y]
     .simp only[go_sem,av,w,AM,o,r,s,u,f,B,C,D,F,J,I,R,Y]
     .simp only[go_sem,U,w,AM,o,r,s,u,f,B,C,D,F,J,I,R,Y]
     .simp only[go_sem,ad,AM,o,r,s,u,f,B,C,D,F,J,I,R,Y]
  .clear c9 c' cn ai ar av U g b ea d3;rintro i ⟨g,b⟩ L d3 ⟨K,ai,ar,av,U,a7⟩;dsimp only at*;have el:=L.1;subst el;clear L;have e2:=e1.1;rw[<-e2,D2]at K;obtain⟨V',K,bi⟩:=K.1;have b2:=Iv a7.1 (b+66);have Q:=K.rep.box;simp only[BL]at Q;have cl:=KC K.rep.arr;rw[K.rep.be.len]at cl;simp only[Be,<-e5.1,d2.1]at cl;have cs:=E6 (K.rep.sl 0 AA);simp only[Ax,As,Be,<-d5.1,e2]at cs;have M:=K.rep.sl 1 AA;simp only[Dt,Ax]at M;clear e2;have bc:AH (∀(g1:AD) (v:AV) (H:AD),(∀i∈V'.ids m,g1.get i=g.get i)->(∀i,Id.under π i=false->g1.get i=g.get i)->H.get m=some (.box (BL p sz (V'.ip 1 v) st.work))->KJ H 3 v ((st.d8.ce++[G]).map BG)->(AE v=AE (V'.s 1)\/ ∀id∈AE v,DX (b+52) (b+66) π id=true/\ ∃l,id=1::l)->(∀id,Id.is m id=false->(∀ag∈AE (V'.s 1),Id.is ag id=false)->DX (b+52) (b+66) π id=false->H.get id=g1.get id)-> ∃a4,G4 p sz π m V h (b+66) a4 {st with d8:=B6 st.d8 d G} H/\ ∀i∈AE ev,i∉a4.ids m):=⟨fun g1 v H b1 W c5 eb ej c6=>by
    have e3:G4 p sz π m V h (b+52) V' {st with d8:={st.d8 with be:=st.d8.be++b7,ac:=st.d8.ac++cp}} g1:=⟨CM K.rep b1,K.ids,fun id f4 fi=>(W id fi).trans (K.frame id f4 fi)⟩
    obtain⟨a4,ds,d0⟩:=e3.step (b':=b+66) AA (Dc (st':={st with d8:={st.d8 with be:=st.d8.be++b7,ac:=st.d8.ac++cp,ce:=st.d8.ce++[G]}}) 1 AA e3.rep (e3.apartB a6.1) (gX rfl rfl rfl) rfl v H c5 eb ej c6)
    refine⟨a4,?_,fun i L=>d0 i (bi i L) (b2 i L)⟩;rw[B6,<-d6.1,<-c7.1,<-c8.1];exact ds⟩
   have d9:AH (∀S,V'.s 1=.f8 S 0 st.d8.ce.length->(∀a n,b+52<=n->Id.is (a::n::π) S=false)/\(∀a n,b+52<=n->Id.is S (a::n::π)=false)/\Id.is S m=false/\Id.is m S=false/\(∀k,Id.is S (0::k::π)=false)/\(∀i∈AE ev,Id.is S i=false/\Id.is i S=false)):=⟨fun S fp=>by
    have d4:S∈V'.ids m:=V'.s_mem m (i:=1) AA (by rw[fp];simp[AE]);have L:=K.ids S d4;obtain⟨f0,ad⟩:=Ia (K.rep.sl 1 AA) (id:=S) (by rw[fp];simp[AE]);exact⟨fun a n de=>C4 (b':=0) a6.1 L a n de,En a6.1 L,AF fun e=>(by rw[e,Q]at ad;cases ad),AF fun e=>(by rw[<-e,Q]at ad;cases ad),fun k=>AF fun e=>Dv K a6.1 k (by rw[<-e];exact d4),fun i L=>⟨AF fun e=>bi i L (by rw[<-e];exact d4),AF fun e=>bi i L (by rw[e];exact d4)⟩⟩⟩
   have e':AH (∀i∈V'.ids m,∀c4∈AE ev,Id.is c4 i=false):=⟨fun i L c4 dd=>AF fun e=>bi c4 dd (by rw[e];exact L)⟩;have e8:AH (∀i,Id.under π i=false-> ∀c4∈AE ev,Id.is c4 i=false):=⟨fun i L c4 dd=>AF fun e=>by
    rcases a7.1 with⟨_,rfl⟩|⟨id,rfl,_,n,_,a2,_⟩
    .simp[AE]at dd
    .simp only[AE,Ac]at dd;subst dd;rw[<-e,BM a2]at L;cases L⟩
   replace b2:=AB b2;replace bi:=AB bi;replace K:=AB K;replace a7:=a7.1;rcases a7 with⟨P,az⟩|⟨id,az,ad,n,df,a2,a5⟩
   .rw[az]at U;rcases M with⟨M,e7⟩|⟨S,bv,M,d1⟩
    .have dn:=AH.mk (D5.1 e7);rw[M]at Q
     (repeat' (first|simp only[go_sem, *,↓cl,↓cs,AM]|(refine sx ?_ ?_<;>intro X)|refine sy AA fun x a1 a0=>?_|simp(disch:=first|assumption|omega) only[AR]))
     refine c3.1 _ _ _ rfl rfl rfl rfl rfl (bc.1 g (.f8 (1::(b+61)::π) 0 1) _ (fun _ _=>rfl) (fun _ _=>rfl) ?_ (Ao [] ?_ ?_) (.inr fun ag a'=>?_) fun ag b1 W T=>?_) ?_ ?_ ?_ ?_ ?_
     .simp only[go_sem,BL,AM,O,N,P];first|done|rfl
     .rw[dn.1];rfl
     .rw[dn.1];simp only[go_sem,w,AM,O,N,P];first|done|rfl
     .exact zBC
     .exact zDQ
     .simp only[go_sem,ai,w,AM,O,N,P]
     .simp only[go_sem,ar,w,AM,O,N,P]
     .simp only[go_sem,av,w,AM,O,N,P]
     .rw[az];simp only[go_sem,U,w,AM,O,N,P]
     .exact .inl ⟨P,az⟩
    .rw[As]at M;rcases bv with _|⟨z,bv⟩
     .skip
      obtain⟨o,r,s,u,f,bx⟩:=d9.1 S M;replace bx:=AB bx;rw[M]at Q
      (repeat' (first|simp only[go_sem, *,↓cl,↓cs,AM]|(refine sx ?_ ?_<;>intro X)|refine sy AA fun x a1 a0=>?_|simp(disch:=first|assumption|omega) only[AR]))
      refine c3.1 _ _ _ rfl rfl rfl rfl rfl (bc.1 g (.f8 (1::(b+61)::π) 0 (st.d8.ce.length+1)) _ (fun _ _=>rfl) (fun _ _=>rfl) ?_ (Ao [] ?_ ?_) (.inr fun ag a'=>?_) fun ag b1 W T=>?_) ?_ ?_ ?_ ?_ ?_
      .simp only[go_sem,BL,AM,O,N,o,r,s,u,f,P];first|done|rfl
      .simp
      .exact zD7
      .exact zBC
      .exact zAS
      .simp only[go_sem,ai,w,AM,O,N,o,r,s,u,f,P]
      .simp only[go_sem,ar,w,AM,O,N,o,r,s,u,f,P]
      .simp only[go_sem,av,w,AM,O,N,o,r,s,u,f,P]
      .rw[az];simp only[go_sem,U,w,AM,O,N,o,r,s,u,f,P]
      .exact .inl ⟨P,az⟩
     .skip
      obtain⟨o,r,s,u,f,bx⟩:=d9.1 S M;replace bx:=AB bx;rw[M]at Q
      (repeat' (first|simp only[go_sem, *,↓cl,↓cs,AM]|(refine sx ?_ ?_<;>intro X)|refine sy AA fun x a1 a0=>?_|simp(disch:=first|assumption|omega) only[AR]))
      refine c3.1 _ _ _ rfl rfl rfl rfl rfl (bc.1 g (.f8 S 0 (st.d8.ce.length+1)) _ (fun _ _=>rfl) (fun _ _=>rfl) ?_ (Ao bv ?_ ?_) (.inl (by rw[M];rfl)) fun ag b1 W T=>?_) ?_ ?_ ?_ ?_ ?_
      .simp only[go_sem,BL,AM,O,N,o,r,s,u,f,P];first|done|rfl
      .simp
      .exact zD7
      .exact zAS
      .simp only[go_sem,ai,w,AM,O,N,o,r,s,u,f,P]
      .simp only[go_sem,ar,w,AM,O,N,o,r,s,u,f,P]
      .simp only[go_sem,av,w,AM,O,N,o,r,s,u,f,P]
      .rw[az];simp only[go_sem,U,w,AM,O,N,o,r,s,u,f,P]
      .exact .inl ⟨P,az⟩
   .rw[az]at U;obtain⟨B,C,D,F⟩:=Cn df a2 a5;have J:Id.is m id=false:=Fi Q ad;have I:Id.is id m=false:=Fi ad Q;replace a2:=AB a2;replace a5:=AB a5;rcases M with⟨M,e7⟩|⟨S,bv,M,d1⟩
    .have dn:=AH.mk (D5.1 e7);rw[M]at Q
     (repeat' (first|simp only[go_sem, *,↓cl,↓cs,AM]|(refine sx ?_ ?_<;>intro X)|refine sy AA fun x a1 a0=>?_|simp(disch:=first|assumption|omega) only[AR]))
     refine c3.1 _ _ _ rfl rfl rfl rfl rfl (bc.1 (g.put id (.i7 2 (G.env.map AN))) (.f8 (1::(b+61)::π) 0 1) _ (fun i L=>by rw[get_put,e'.1 i L id zEk];simp) (fun i L=>by rw[get_put,e8.1 i L id zEk];simp) ?_ (Ao [] ?_ ?_) (.inr fun ag a'=>?_) fun ag b1 W T=>?_) ?_ ?_ ?_ ?_ ?_
     .simp only[go_sem,BL,AM,O,N,B,C,D,F,J,I];first|done|rfl
     .rw[dn.1];rfl
     .rw[dn.1];simp only[go_sem,w,AM,O,N,B,C,D,F,J,I];first|done|rfl
     .exact zBC
     .exact zDQ
     .simp only[go_sem,ai,w,AM,O,N,B,C,D,F,J,I]
     .simp only[go_sem,ar,w,AM,O,N,B,C,D,F,J,I]
     .simp only[go_sem,av,w,AM,O,N,B,C,D,F,J,I]
     .rw[az];simp only[go_sem,U,w,AM,O,N,B,C,D,F,J,I]
     .refine .inr ⟨id,az,?_,n,AA,a2.1,a5.1⟩;simp only[go_sem,w,AM,O,N,B,C,D,F,J,I]
    .rw[As]at M;rcases bv with _|⟨z,bv⟩
     .skip
      obtain⟨o,r,s,u,f,bx⟩:=d9.1 S M;obtain⟨bo,bl⟩:=bx id zEk;replace bx:=AB bx;rw[M]at Q
      (repeat' (first|simp only[go_sem, *,↓cl,↓cs,AM]|(refine sx ?_ ?_<;>intro X)|refine sy AA fun x a1 a0=>?_|simp(disch:=first|assumption|omega) only[AR]))
      refine c3.1 _ _ _ rfl rfl rfl rfl rfl (bc.1 (g.put id (.i7 2 (G.env.map AN))) (.f8 (1::(b+61)::π) 0 (st.d8.ce.length+1)) _ (fun i L=>by rw[get_put,e'.1 i L id zEk];simp) (fun i L=>by rw[get_put,e8.1 i L id zEk];simp) ?_ (Ao [] ?_ ?_) (.inr fun ag a'=>?_) fun ag b1 W T=>?_) ?_ ?_ ?_ ?_ ?_
      .exact zDK
      .simp
      .exact zC7
      .exact zBC
      .exact zAS
      .exact zEH
      .exact zEI
      .exact zEJ
      .exact zDm
      .exact zCa
     .skip
      obtain⟨o,r,s,u,f,bx⟩:=d9.1 S M;obtain⟨bo,bl⟩:=bx id zEk;replace bx:=AB bx;rw[M]at Q
      (repeat' (first|simp only[go_sem, *,↓cl,↓cs,AM]|(refine sx ?_ ?_<;>intro X)|refine sy AA fun x a1 a0=>?_|simp(disch:=first|assumption|omega) only[AR]))
      refine c3.1 _ _ _ rfl rfl rfl rfl rfl (bc.1 (g.put id (.i7 2 (G.env.map AN))) (.f8 S 0 (st.d8.ce.length+1)) _ (fun i L=>by rw[get_put,e'.1 i L id zEk];simp) (fun i L=>by rw[get_put,e8.1 i L id zEk];simp) ?_ (Ao bv ?_ ?_) (.inl (by rw[M];rfl)) fun ag b1 W T=>?_) ?_ ?_ ?_ ?_ ?_
      .exact zDK
      .simp
      .exact zC7
      .exact zAS
      .exact zEH
      .exact zEI
      .exact zEJ
      .exact zDm
      .exact zCa
def mj{p:AX}{sz:List Int}{k:Nat}(a6:BP p sz)(bc:KS p sz k){h:AD}{π:List Nat}{m:Abs.Id}{V:MV}{st:CW}(C:J4 p sz h m V st)(ad:Bx π V m)(W:Ky p sz k st)(j:HF){x:C8}(Y:OU p j x){d:CJ}(D:Fm p sz st.d8 j x d):
 ∃o h',kT (.fn 112) [.ptr m 0,.agg [nI j.node,nI j.at_,.d (.bv (j.env.map AN))]] h π true none=.ok (o,h')/\G3 p sz π m V h (Ic (Eu p k) (Fb p x j st)) o h':=by
 have J:=C.box;have P:=ad m (V.m_mem m);simp only[BL]at J;have cn:=AI P;have cp:=Aj P;have cs:=Dx P;have cx:=Jk P;have ag:=Y.node;have c3:=Y.n0;have c2:=Y.len;have c4:=Q0 Y;have a':=a6.small;simp only[AX.small,AP,Ap]at a';obtain⟨c',dd,de⟩:=a';have bl:=D.f9;have c0:=D.n0;have c1:=AK bl;have ch:=D.ok.be;have cl:=D.ok.ac;have a0:=LO j.env AA;have a7:=W.qr.small;simp only[BU.small,AP,Ap]at a7;obtain⟨c5,c7,c8,c9⟩:=a7;replace C:=AB C;replace ad:=AB ad;replace D:=AB D;replace W:=AB W;have O:=KC C.1.arr;have N:=E6 (C.1.sl 0 AA);rw[C.1.be.len]at O;simp only[Ax,As]at N;obtain⟨s,ac⟩: ∃n,n=st.d8.be.length:=⟨_,rfl⟩;obtain⟨z,Z⟩: ∃n,n=st.d8.ac.length:=⟨_,rfl⟩;rw[<-ac]at O;rw[<-Z]at N;have b4:s<=60:=AA;have c6:z<=24:=AA;replace ac:=AB ac;replace Z:=AB Z;by_cases az:j.env.length=0;all_goals
  first
  |simp only[DV az]at a0
  |simp only[ED az]at a0
  have fa:=B7;refine BR Tryz.func112 ?_;refine SU 6 fun be a1=>?_;have bo:AH (∀(e:CA) (H:AD) (c:Nat),e.get 0=.ptr m 0->e.get 3=.ptr (0::0::π) 0->e.get 4=.ptr (0::10::π) 0->e.get 5=.ptr (0::21::π) 0->e.get 6=.ptr (0::31::π) 0->(∀id,Id.under π id=false->H.get id=h.get id)->H.get (0::0::π)=some (.box [nI j.node,nI j.at_,.d (.bv (j.env.map AN))])->H.get (0::10::π)=some (.box [nI x.op,nI x.n,.d (.bv (x.args.map BT)),.d (.bv (x.kids.map AL))])->H.get (0::21::π)=some (.box [.d (.bv (d.be.map BD)),.d (.bv (d.ac.map Ay)),.d (.bv (d.rules.map BC))])->(∃ev,H.get (0::31::π)=some (.box [nI x.n,nI j.at_,ev])/\Tg π H (c+43) ev (j.env++DK s d.be.length++G0 z d.ac.length))->Wp cfg kT ⟨112,π,true,none,false,204⟩ 0 be ⟨e,H,c+43,[]⟩ (K1 cfg none [] π true (G3 p sz π m V h (Ic (Eu p k) (Fb p x j st))))):=⟨fun e H c b6 x3 x4 x5 x6 f b7 b8 b' bs=>by
   obtain⟨ev,cc,I⟩:=bs;rw[a1];refine mg a6 bc C.1 ad.1 W.1 D.1 rfl b6 x3 x4 x5 x6 f b7 b8 b' cc ?_;have:(A7 st.d8 d x.n j).env=j.env++DK s d.be.length++G0 z d.ac.length:=by rw[ac.1,Z.1,A7,Fh,DO];rfl
   rw[this];exact I⟩
  replace a1:=AB a1;simp only[Tryz.f112,I3,Ri];refine ax ?_;clear a0;refine Aq d.be _ (S:=fun a5 i (a:AD×Nat)=>⟨[(0,.ptr m 0),(3,.ptr (0::0::π) 0),(4,.ptr (0::10::π) 0),(5,.ptr (0::21::π) 0),(6,.ptr (0::31::π) 0),(43,nI a5),(44,nI i)],a.1,a.2+37,[]⟩)
   (Inv:=fun i b3 a=>AH (∀id,Id.under π id=false->a.1.get id=h.get id)/\a.1.get (0::0::π)=some (.box [nI j.node,nI j.at_,.d (.bv (j.env.map AN))])/\a.1.get (0::10::π)=some (.box [nI x.op,nI x.n,.d (.bv (x.args.map BT)),.d (.bv (x.kids.map AL))])/\a.1.get (0::21::π)=some (.box [.d (.bv (d.be.map BD)),.d (.bv (d.ac.map Ay)),.d (.bv (d.rules.map BC))])/\AH (∃ev,a.1.get (0::31::π)=some (.box [nI x.n,nI j.at_,ev])/\Tg π a.1 (a.2+37) ev (j.env++DK s i))) (b0:=(_,_)) rfl ⟨⟨fun id b=>?_⟩,?_,?_,?_,⟨?_⟩⟩ ?_ ?_
  .have q:=AI b;have b2:=Dx b;simp only[go_sem,q,b2,AM]
  .simp only[go_sem]
  .simp only[go_sem]
  .simp only[go_sem]
  .first
   |(refine⟨.d7,?_,.inl ⟨by simp[DK,BI az],rfl⟩⟩
     simp only[go_sem]
     done)
   |(refine⟨.f8 (1::0::2::29::π) 0 j.env.length,?_,.inr ⟨_,by simp[DK],?_,29,AA,under_iff.2 ⟨[1,0,2],rfl⟩,_,rfl⟩⟩
     .simp only[go_sem]
     .simp only[DK,List.range'_zero,BY,CI];simp only[go_sem])
  .rintro i y ⟨g,b⟩ bx F X ⟨f,u,v,w,l⟩ Q;dsimp only at*;obtain⟨ev,b1,l⟩:=l.1;have bi:=(f.1 m P).trans J;have b5:IntKind.i64.wrap ((s:Int)+(i:Int))=(s:Int)+(i:Int):=wrap_id AA AA;obtain⟨L,t⟩: ∃L,L=j.env++DK s i:=⟨_,rfl⟩;have R:AH (j.env++DK s (i+1)=L++[⟨3,(s:Int)+(i:Int)⟩]):=⟨by rw[Sa,<-DO,<-t];simp⟩;rw[<-t]at l;have bk:L.length<=20000:=by rw[t];simp[DK];omega
   replace t:=AB t;rcases l with⟨a4,rfl⟩|⟨id,rfl,bv,n,T,K,I⟩
   ·(repeat' (first|simp only[go_sem, *,↓O,↓N]|(refine sx ?_ ?_<;>intro a2)|refine sy AA fun x ag J=>?_|simp(disch:=first|assumption|omega) only[AR]))
    refine Q.1 (_,_) ⟨⟨fun id b=>?_⟩,?_,?_,?_,⟨.f8 (1::(b+52)::π) 0 1,?_,?_⟩⟩
    .have q:=AI b;simp only[go_sem,q,f.1 id b,AM]
    .simp only[go_sem,u]
    .simp only[go_sem,v]
    .simp only[go_sem,w]
    .simp only[go_sem]
    .rw[R.1,a4];exact zCg
   .obtain⟨ai,ar,A,B⟩:=Cn T K I;have a3:=AH.mk (BM K);clear I K T
    (repeat' (first|simp only[go_sem, *,↓O,↓N,AM]|(refine sx ?_ ?_<;>intro a2)|refine sy AA fun x ag J=>?_|simp(disch:=first|assumption|omega) only[AR]))
    refine Q.1 (_,_) ⟨⟨fun U r=>?_⟩,?_,?_,?_,⟨.f8 (1::(b+52)::π) 0 (L.length+1),?_,?_⟩⟩
    .exact zCK
    .simp only[go_sem,u,A,B,AM]
    .simp only[go_sem,v,A,B,AM]
    .simp only[go_sem,w,A,B,AM]
    .simp only[go_sem]
    .exact zEN
  .clear b4;rintro i ⟨g,b⟩ F X ⟨f,u,v,w,l⟩;dsimp only at*;have av:=F.1;subst av;clear F;replace O:=AB O;refine aw ?_;refine Aq d.ac _ (S:=fun a5 i (a:AD×Nat)=>⟨[(0,.ptr m 0),(3,.ptr (0::0::π) 0),(4,.ptr (0::10::π) 0),(5,.ptr (0::21::π) 0),(6,.ptr (0::31::π) 0),(64,nI a5),(65,nI i)],a.1,a.2+42,[]⟩)
    (Inv:=fun i b3 a=>AH (∀id,Id.under π id=false->a.1.get id=h.get id)/\a.1.get (0::0::π)=some (.box [nI j.node,nI j.at_,.d (.bv (j.env.map AN))])/\a.1.get (0::10::π)=some (.box [nI x.op,nI x.n,.d (.bv (x.args.map BT)),.d (.bv (x.kids.map AL))])/\a.1.get (0::21::π)=some (.box [.d (.bv (d.be.map BD)),.d (.bv (d.ac.map Ay)),.d (.bv (d.rules.map BC))])/\AH (∃ev,a.1.get (0::31::π)=some (.box [nI x.n,nI j.at_,ev])/\Tg π a.1 (a.2+42) ev (j.env++DK s d.be.length++G0 z i))) (b0:=(_,b)) rfl ⟨f,u,v,w,⟨by obtain⟨ev,q,M⟩:=l.1;exact⟨ev,q,by simpa[G0]using KD M AA⟩⟩⟩ ?_ ?_
   .clear l f u v w g b;rintro i y ⟨g,b⟩ bx F X ⟨f,u,v,w,l⟩ Q;dsimp only at*;obtain⟨ev,b1,l⟩:=l.1;have bi:=(f.1 m P).trans J;have b5:IntKind.i64.wrap ((z:Int)+(i:Int))=(z:Int)+(i:Int):=wrap_id AA AA;obtain⟨L,t⟩: ∃L,L=j.env++DK s d.be.length++G0 z i:=⟨_,rfl⟩;have R:AH (j.env++DK s d.be.length++G0 z (i+1)=L++[⟨4,(z:Int)+(i:Int)⟩]):=⟨by rw[TB,<-DO,<-t];simp⟩;rw[<-t]at l;have bk:L.length<=20000:=by rw[t];simp[DK,G0];omega
    replace t:=AB t;rcases l with⟨a4,rfl⟩|⟨id,rfl,bv,n,T,K,I⟩
    ·(repeat' (first|simp only[go_sem, *,↓N]|(refine sx ?_ ?_<;>intro a2)|refine sy AA fun x ag J=>?_|simp(disch:=first|assumption|omega) only[AR]))
     refine Q.1 (_,_) ⟨⟨fun id r=>?_⟩,?_,?_,?_,⟨.f8 (1::(b+57)::π) 0 1,?_,?_⟩⟩
     .have q:=AI r;simp only[go_sem,q,f.1 id r,AM]
     .simp only[go_sem,u]
     .simp only[go_sem,v]
     .simp only[go_sem,w]
     .simp only[go_sem]
     .rw[R.1,a4];exact zCg
    .obtain⟨ai,ar,A,B⟩:=Cn T K I;have a3:=AH.mk (BM K);clear I K T
     (repeat' (first|simp only[go_sem, *,↓N,AM]|(refine sx ?_ ?_<;>intro a2)|refine sy AA fun x ag J=>?_|simp(disch:=first|assumption|omega) only[AR]))
     refine Q.1 (_,_) ⟨⟨fun U r=>?_⟩,?_,?_,?_,⟨.f8 (1::(b+57)::π) 0 (L.length+1),?_,?_⟩⟩
     .exact zCK
     .simp only[go_sem,u,A,B,AM]
     .simp only[go_sem,v,A,B,AM]
     .simp only[go_sem,w,A,B,AM]
     .simp only[go_sem]
     .exact zEN
   .clear l f u v w g b X;rintro i ⟨g,b⟩ F X ⟨f,u,v,w,l⟩;dsimp only at*;have av:=F.1;subst av;clear F;refine aw ?_;exact bo.1 _ _ _ rfl rfl rfl rfl rfl f.1 u v w (by obtain⟨ev,q,M⟩:=l.1;exact⟨ev,q,KD M AA⟩)
def cq(h:Dp x.op=some x.kids.length):x.op=1\/x.op=2\/x.op=3\/x.op=4\/x.op=5\/x.op=6\/x.op=7\/x.op=8:=by
 unfold Dp at h;repeat (split at h;· omega)
 cases h
def QP(f:HF->CW->Option CW)(r:Option CW):Ic f (r.map fun st=>(st,[]))=r:=by cases r<;>rfl
def kJ{p:AX}{sz:List Int}(A:BP p sz): ∀k,KS p sz k
 |0=>fun h π m V st j M D I B cc ch cl b3=>AA
 |k+1=>fun h π m V st j M D I B cc ch cl b3=>by
  have X:=kJ A k;obtain⟨x,l,w,az,N,u,cx⟩:=Jg A B;have a7:=az;simp only[DG,AP,Ap,D3]at az;obtain⟨ad,b7,a4,S⟩:=az;have J:OU p j x:=⟨B.n0,w,AA⟩;have c0:=B.n0;have c1:=Q0 J;have C:=M.box;have bk:=D m (V.m_mem m);simp only[BL]at C;have b0:=M.un;have c2:Id.is m V.un=false:=Fi C b0;have cp:=AI bk;have cs:=Aj bk;have c4:IntKind.i64.wrap (st.work+1)=st.work+1:=wrap_id AA AA;obtain⟨a,v⟩: ∃s,s={st with work:=st.work+1}:=⟨_,rfl⟩
  have bc:=A.small;simp only[AX.small,AP,Ap]at bc;obtain⟨c5,a1,c6⟩:=bc;have a5:AH (Eu p (k+1) j st=if st.work<400 then Ic (Eu p k) (Ja p j a)else none):=⟨by rw[v];rfl⟩;have a':AH (∀H:AD,H.get m=some (.box (BL p sz V (st.work+1)))->(∀id,Id.is m id=false->Id.under π id=false->H.get id=h.get id)->G4 p sz π m V h 0 V a H):=⟨fun H bl bo=>by
   have:=R3 (st':=a) M D (by rw[v];exact bl) (by rw[v];exact⟨rfl,rfl⟩) fun id b1 Y=>bo id (AF fun e=>b1 e.symm) Y;exact⟨this.1,fun id b5=>.inl b5,this.2.frame⟩⟩
  have F:AH (st.work<400->Ky p sz k a):=⟨fun h=>by rw[v];exact⟨I,AU,AU,AU,AU⟩⟩;have Q:AH (CT p sz a.d8 j):=⟨by rw[v];exact B⟩;have U:AH (a.d8=st.d8):=⟨by rw[v]⟩;have b':AH (st.d8.waits.length<=1000000):=⟨by
   have:=I.small;simp only[BU.small,AP,Ap]at this;omega⟩
  have b4:AH (a.ev.length<=1000000):=⟨by rw[v];dsimp only;omega⟩;replace v:=AB v;replace M:=AB M;replace D:=AB D;replace I:=AB I;replace B:=AB B;replace S:=AB S;replace a7:=AB a7;replace J:=AB J;replace u:=AB u;replace N:=AB N;have bs:AH (∀(H g1:AD) (n:Nat) (o:A8) (r:Option CW),G4 p sz π m V h 0 V a H->G3 p sz (n::π) m V H r o g1->G3 p sz π m V h r o (gc (n::π) g1)):=⟨fun H g1 n o r i f=>by
   cases r with
   |none=>exact i.ge D.1 (It _) f
   |some c3=>
    obtain⟨cn,h2,_⟩:=i.call D.1 (It _) f;obtain⟨rfl,_⟩:=f;exact h2.fin⟩
  by_cases a0:st.work<400
  .have b8:st.work+1<=400:=AA;rw[a5.1,D4 a0];have L:AH (Ja p j a=if x.op=2 then(Cx p x j a).map fun st=>(st,[])else if x.op=3 then some (a,BN x 0 j.at_ j.env++BN x 1 j.at_ j.env)else if x.op=4 then Fb p x j a else if x.op=5 then some (a,BN x (Qh x j.env) j.at_ j.env)else if DZ x.op=true then(FZ j a).map fun st=>(st,[])else some (a,[])):=⟨by rw[Ja,w]⟩;have F:=F.1 a0;replace F:=AB F;have i:G4 p sz π m V h 0 V a (h.put m (.box (BL p sz V (st.work+1)))):=by
    refine a'.1 _ ?_ ?_
    .simp only[go_sem]
    .intro id b1 Y;exact zDa
   have ap:=AH.mk (i.apart D.1 (n:=36) (It _));have K:=fun g1 o r=>bs.1 _ g1 36 o r i;replace K:=AB K;replace i:=AB i;have a3:=AB a4;clear a4;rcases cq ad with f|f|f|f|f|f|f|f
   .rw[L.1];simp only[f,Int.reduceEq,F6,FN,DZ,decide_false,Bool.or_self,AM,Ic,CH];refine BR Tryz.func66 ?_
    (repeat' (first|simp only[go_sem, *,JU]|(refine sx ?_ ?_<;>intro O)|refine sy AA fun x w C=>?_|simp(disch:=first|assumption|omega) only[AR]))
    exact i.1.fin
   .rw[L.1];simp only[f,Int.reduceEq,F6,FN,QP];have a6:0<=x.n/\x.n<j.env.length:=by simpa[Xc,f]using b7
    have bx:x.args.length<=3:=by simpa[FI,f]using a3.1
    have P: ∀e∈x.args,e.formed j.env.length=true:=fun e b2=>by
     have:=S.1 e b2;exact zCV
    replace P:=AB P;refine BR Tryz.func66 ?_
    (repeat' (first|simp only[go_sem, *,JU]|(refine sx ?_ ?_<;>intro O)|refine sy AA fun x w C=>?_|simp(disch:=first|assumption|omega) only[AR]))
    refine Ad (tl (V:=V) (st:=a) i.1.rep ap.1 j J.1 a1 bx P.1 a6.1 a6.2 (by rw[U.1];exact B.1.lc) (fun c q u=>by rw[U.1]at u⊢;exact QK A I.1 u) b4.1) (fun y g1 b=>?_);have fn:=K.1 g1 y _ b;obtain⟨r,g⟩: ∃r,r=Cx p x j a:=⟨_,rfl⟩;rw[<-g]at fn b⊢;clear g;cases r;all_goals
     have z:=b.1;subst z;replace fn:=AB fn;replace b:=AB b;refine aw ?_;exact fn.1
   .rw[L.1];simp only[f,Int.reduceEq,F6,FN];have ag:x.kids.length=2:=by simpa[Dp,f]using ad.symm
    obtain⟨be,bi,t⟩:=RM ag;have T:BN x 0 j.at_ j.env++BN x 1 j.at_ j.env=G8 x.kids j.at_ j.env:=by simp[BN,G8,t]
    have av: ∀W∈G8 x.kids j.at_ j.env,CT p sz a.d8 W:=by
     rw[<-T];intro W b6;rcases EL.1 b6 with Z|Z
     .exact LY Q.1 AA N.1 u.1 0 W Z
     .exact LY Q.1 AA N.1 u.1 1 W Z
    rw[Ic,T];replace T:=AB T;replace t:=AB t;replace av:=AB av;refine BR Tryz.func66 ?_
    (repeat' (first|simp only[go_sem, *,JU]|(refine sx ?_ ?_<;>intro O)|refine sy AA fun x w C=>?_|simp(disch:=first|assumption|omega) only[AR]))
    refine Ad (yS A X (V:=V) (st:=a) i.1.rep ap.1 F.1 j J.1 a1 AA av.1) (fun y g1 b=>?_);have fn:=K.1 g1 y _ b;obtain⟨r,g⟩: ∃r,r=CH (Eu p k) (G8 x.kids j.at_ j.env) a:=⟨_,rfl⟩;rw[<-g]at fn b⊢;clear g;cases r;all_goals
     have z:=b.1;subst z;replace fn:=AB fn;replace b:=AB b;refine aw ?_;exact fn.1
   .rw[L.1];simp only[f,Int.reduceEq,F6,FN];obtain⟨d,ac⟩:=fJ A (s:=a.d8) (by rw[U.1];exact I.1) Q.1 w f;replace ac:=AB ac;refine BR Tryz.func66 ?_
    (repeat' (first|simp only[go_sem, *,JU]|(refine sx ?_ ?_<;>intro O)|refine sy AA fun x w C=>?_|simp(disch:=first|assumption|omega) only[AR]))
    refine Ad (mj A X (V:=V) (st:=a) i.1.rep ap.1 F.1 j J.1 ac.1) (fun y g1 b=>?_);have fn:=K.1 g1 y _ b;obtain⟨r,g⟩: ∃r,r=Ic (Eu p k) (Fb p x j a):=⟨_,rfl⟩;rw[<-g]at fn b⊢;clear g;cases r;all_goals
     have z:=b.1;subst z;replace fn:=AB fn;replace b:=AB b;refine aw ?_;exact fn.1
   .rw[L.1];simp only[f,Int.reduceEq,F6,FN];have ag:x.kids.length=2:=by simpa[Dp,f]using ad.symm
    obtain⟨be,bi,t⟩:=RM ag;have bv:x.args.length=1:=by simpa[FI,f]using a3.1
    obtain⟨a2,R⟩: ∃e,x.args=[e]:=by
     match hxa:x.args,bv with
     |[e],_=>exact⟨e,rfl⟩
    have P:a2.formed j.env.length=true:=by
     have:=S.1 a2 (by rw[R];simp);exact zCV
    have ai:CT p sz a.d8 ⟨be,j.at_,j.env⟩:=LY Q.1 AA N.1 u.1 0 _ (by simp[BN,t]);have ar:CT p sz a.d8 ⟨bi,j.at_,j.env⟩:=LY Q.1 AA N.1 u.1 1 _ (by simp[BN,t]);rw[Ic];replace t:=AB t;replace R:=AB R;replace ai:=AB ai;replace ar:=AB ar;refine BR Tryz.func66 ?_
    (repeat' (first|simp only[go_sem, *,JU]|(refine sx ?_ ?_<;>intro O)|refine sy AA fun x w C=>?_|simp(disch:=first|assumption|omega) only[AR]))
    refine Ad (me A X (V:=V) (st:=a) i.1.rep ap.1 F.1 j J.1 a1 R.1 P t.1 ai.1 ar.1) (fun y g1 b=>?_);have fn:=K.1 g1 y _ b;obtain⟨r,g⟩: ∃r,r=CH (Eu p k) (BN x (Qh x j.env) j.at_ j.env) a:=⟨_,rfl⟩;rw[<-g]at fn b⊢;clear g;cases r;all_goals
     have z:=b.1;subst z;replace fn:=AB fn;replace b:=AB b;refine aw ?_;exact fn.1
   all_goals
    rw[L.1];simp only[f,Int.reduceEq,F6,FN,QP,DZ,decide_true,decide_false,Bool.true_or,T6,Bool.or_self,AM];refine BR Tryz.func66 ?_
    (repeat' (first|simp only[go_sem, *,JU]|(refine sx ?_ ?_<;>intro O)|refine sy AA fun x w C=>?_|simp(disch:=first|assumption|omega) only[AR]))
    refine Ad (q8 (V:=V) (st:=a) i.1.rep ap.1 j AA (by rw[U.1];exact b'.1)) (fun y g1 b=>?_);have fn:=K.1 g1 y _ b;obtain⟨r,g⟩: ∃r,r=FZ j a:=⟨_,rfl⟩;rw[<-g]at fn b⊢;clear g;cases r;all_goals
     have z:=b.1;subst z;replace fn:=AB fn;replace b:=AB b;refine aw ?_;exact fn.1
  .have b8: ¬st.work+1<=400:=AA;rw[a5.1,Ci a0];refine BR Tryz.func66 ?_;refine aw ?_;refine⟨rfl,(a'.1 _ ?_ ?_).frame⟩
   .simp only[go_sem,BL];first|done|rfl
   .intro id b1 Y;exact zDa
def pg(l:List Int):Int:=match l with
 |[]=>0
 |x::l=>l.foldl min x
def bC: ∀(l:List Int) (x:Int),l.foldl min x<=x/\(∀y∈l,l.foldl min x<=y)/\(l.foldl min x=x\/l.foldl min x∈l)
 |[],x=>AG
 |y::l,x=>by
  obtain⟨c,h2,a⟩:=bC l (min x y);rw[Mp];refine⟨AA,fun z b=>?_,?_⟩
  .rcases D0.1 b with rfl|b
   .omega
   .exact h2 z b
  .rcases a with a|a
   .by_cases e:x<=y
    .exact .inl AA
    .exact .inr (D0.2 (.inl AA))
   .exact .inr (F0 _ a)
def cP{l:List Nat}(h:0<l.length):pg (l.map fun(n:Nat)=>(n:Int))=0↔0∈l:=by
 cases l with
 |nil=>simp at h
 |cons x l=>
  obtain⟨g,h2,a⟩:=bC (l.map fun(n:Nat)=>(n:Int)) (x:Int);have c:pg ((x::l).map fun(n:Nat)=>(n:Int))=(l.map fun(n:Nat)=>(n:Int)).foldl min (x:Int):=rfl;rw[c];constructor
  .intro e;rw[e]at a;rcases a with a|a
   .have:x=0:=AA;simp[this]
   .obtain⟨y,b,f⟩:=F1.1 a;have:y=0:=AA;subst this;exact F0 _ b
  .intro e;have i:0<=(l.map fun(n:Nat)=>(n:Int)).foldl min (x:Int):=by
    rcases a with a|a
    .omega
    .obtain⟨y,b,f⟩:=F1.1 a;omega
   rcases D0.1 e with e|e
   .omega
   .have:=h2 0 (F1.2 ⟨0,e,rfl⟩);omega
theorem k7(L:List Int)(k:0<L.length)(s:L.length<=1000000):BX kT 159 [.d (.bv (L.map AL))] []=.ok (.ret (nI (pg L)),[]):=by
 obtain⟨x,g⟩:=get_some (l:=L) (i:=0) k;have m:AH (pg L=(L.drop 1).foldl min x):=⟨by
  cases L with
  |nil=>cases g
  |cons y l=>cases g;rfl⟩
 have a:AH ((L.drop 1).length=L.length-1):=⟨AG⟩;have t: ¬(L.length:Int)<1:=AA;have u:(0:Int)<L.length:=AA;refine Az Tryz.func159 ?_;refine aw ?_;refine Ah (L.drop 1) (S:=fun i (c:Int)=>⟨[(0,.d (.bv (L.map AL))),(3,nI c),(4,nI ((i:Int)+1))],[],0,[]⟩) (Inv:=fun i o c=>AH (pg L=o.foldl min c)) (b0:=x) m ?_ ?_
 .rintro i y c n f e b h;have a:=a.1;have j:(i:Int)+1<L.length:=AA;have p:((i:Int)+1).toNat=i+1:=AA;have r:0<=(i:Int)+1:=AA;have q:IntKind.i64.wrap ((i:Int)+1+1)=(i:Int)+1+1:=wrap_id AA AA;rw[Hm,Nat.add_comm]at n;clear a f e;refine aw ?_;rw[show(if y<c then y else c)=min c y by split<;>omega];exact h.1 (min c y) b
 .rintro i c f e b;have a:=a.1;have j: ¬(i:Int)+1<L.length:=AA;clear a e;refine aw ?_;rw[b.1];rfl
def an(l:List Int)(id:Abs.Id)(o n:Nat):CB (.f8 id o n) [(id,.em 1 (l.map AL))]=some (id,.em 1 (l.map AL)):=by
 rw[Ht,D4];simp[AL,FX]
def sv(l:List Int)(a:0<l.length)(b:l.length<=1000000)(k:Nat)(ρ:List Nat):BX kT 160 [.d (.bv (l.map AL))] (k::ρ)=.ok (.ret (.f8 (1::5::k::ρ) 0 l.length),[(1::5::k::ρ,.em 1 (l.map AL))]):=by
 have ap:=UA l l.length rfl a b;refine Az Tryz.func160 ?_;exact au
def Kr:List Nat->List Int->List (List Int)
 |n::l,d::c=>((Kr l c).map fun t=>d::t)++(List.range' (d.toNat+1) (n-(d.toNat+1))).flatMap fun(i:Nat)=>(CR l).map fun t=>(i:Int)::t
 |_,_=>[[]]
def G2(n:Nat):List Int:=List.replicate n 0
def LD:List Nat->List Int->Option (List Int)
 |n::l,d::c=>match LD l c with
  |some t=>some (d::t)
  |none=>if d+1<n then some ((d+1)::G2 c.length)else none
 |_,_=>none
inductive Jw:List Nat->List Int->Prop where
 |nil:Jw [] []
 |cons {n:Nat} {l:List Nat} {d:Int} {c:List Int}:0<=d->d<n->Jw l c->Jw (n::l) (d::c)
variable{l:List Nat}
def Jw.len{c:List Int}(h:Jw l c):c.length=l.length:=by
 induction h with
 |nil=>rfl
 |cons _ _ _ a=>simp[a]
def NY: ∀{l:List Nat},0∉l->Jw l (G2 l.length)
 |[],_=>.nil
 |n::l,h=>by
  simp only[D0,not_or]at h;exact .cons AA AA (NY h.2)
def SG: ∀{l:List Nat},0∉l->Kr l (G2 l.length)=CR l
 |[],_=>rfl
 |n::l,h=>by
  simp only[D0,not_or]at h;have a:=SG h.2;rw[List.length_cons,G2,Rx,Kr,CR];rw[G2]at a;rw[a];obtain⟨m,rfl⟩: ∃m,n=m+1:=⟨n-1,AA⟩;rw[List.range_eq_range',List.range'_succ,EM];simp
def dR(l:List Nat):Option (List Int)->List (List Int)
 |some c=>Kr l c
 |none=>[]
def qb{c:List Int}(h:Jw l c)(g:0∉l):Kr l c=c::dR l (LD l c)/\ ∀c',LD l c=some c'->Jw l c':=by
 induction h with
 |nil=>exact⟨rfl,fun c' h=>by cases h⟩
 | @cons n l d c q r j u=>
   simp only[D0,not_or]at g;obtain⟨f,v⟩:=u g.2;cases b:LD l c with
   |some t=>
    rw[b]at f;have e:LD (n::l) (d::c)=some (d::t):=by rw[LD,b]
    rw[e];refine⟨?_,fun c' h=>by cases h;exact .cons q r (v t b)⟩;simp only[Kr,dR,f];rfl
   |none=>
    rw[b]at f;have e:LD (n::l) (d::c)=if d+1<n then some ((d+1)::G2 c.length)else none:=by rw[LD,b]
    rw[e];have o:=NY g.2;rw[<-j.len]at o;have k:=SG g.2;rw[<-j.len]at k;by_cases i:d+1<n
    .rw[D4 i];refine⟨?_,fun c' h=>by cases h;exact .cons AA i o⟩;simp only[Kr,dR,f,k];obtain⟨m,s⟩: ∃m,n-(d.toNat+1)=m+1:=⟨n-(d.toNat+1)-1,AA⟩;have p:(d+1).toNat=d.toNat+1:=AA;rw[p,s,List.range'_succ,EM,show n-(d.toNat+1+1)=m by omega];simp;intro a _;omega
    .rw[Ci i];refine⟨?_,fun c' h=>by cases h⟩;have:n-(d.toNat+1)=0:=AA;simp only[Kr,dR,f,this];rfl
def tB{l:List Nat}{c:List Int}(h:Jw l c): ∀{j:Nat} {d:Int} {n:Nat},c[j]? =some d->l[j]? =some n->0<=d/\d<n:=by
 induction h with
 |nil=>intro j d n a;simp at a
 |cons a h2 _ f=>
  intro j d n b e;cases j with
  |zero=>
   simp only[F4,Co]at b e;subst b e;exact⟨a,h2⟩
  |succ j=>exact f b e
def jr(l:List Nat)(c:List Int)(j:Nat):Prop:= ∀t,j<=t->t<l.length-> ∃(d:Int) (n:Nat),c[t]? =some d/\l[t]? =some n/\d=n-1
def Xg{l:List Nat}{c:List Int}(h:Jw l c)(e:jr l c 0):LD l c=none:=by
 induction h with
 |nil=>rfl
 | @cons n l d c m o k g=>
   have f:=g fun t _ p=>by
    have:=e (t+1) AA Aa;simpa using this
   obtain⟨i,n',a,b,j⟩:=e 0 AA AG;simp only[F4,Co]at a b;subst a b;rw[LD,f];simp only;rw[Ci AA]
def px{l:List Nat}{c:List Int}(h:Jw l c): ∀{j:Nat} {d:Int} {n:Nat},jr l c (j+1)->c[j]? =some d->l[j]? =some n-> ¬d=n-1->LD l c=some (c.take j++(d+1)::G2 (l.length-(j+1))):=by
 induction h with
 |nil=>intro j d n _ e;simp at e
 | @cons u l p c q r f o=>
   intro j d n i a b m;have g: ∀k,k+1≥j+1->jr l c k:=fun k s t e h2=>by
    have:=i (t+1) AA Aa;simpa using this
   cases j with
   |zero=>
    simp only[F4,Co]at a b;subst a b;rw[LD,Xg f (g 0 AA)];simp only;rw[D4 AA];simp[f.len]
   |succ j=>
    simp only[GS]at a b;rw[LD,o (g (j+1) AA) a b m];simp
def Zf(ρ:List Nat)(i:Abs.Id):Prop:= ∃j l,i=1::j::l/\Id.under ρ l=true
def NH(π:List Nat)(b:Nat)(i:Abs.Id):Prop:= ∃n,n<b/\Zf (n::π) i
variable{ρ:List Nat}{i:Abs.Id}
def Zf.up(h:Zf ρ i):Id.under ρ i=true:=by
 obtain⟨j,l,rfl,h⟩:=h;obtain⟨t,rfl⟩:=under_iff.1 h;exact under_iff.2 ⟨1::j::t,rfl⟩
def Zf.out(h:Zf (n::π) i):Zf π i:=by
 obtain⟨j,l,rfl,h⟩:=h;exact⟨j,l,rfl,BM h⟩
def Zf.not(h:Zf (n::π) i)(a m:Nat):Id.is (a::m::π) i=false:=AF fun e=>by
 obtain⟨j,l,rfl,h⟩:=h;obtain⟨t,rfl⟩:=under_iff.1 h;exact zB4
def Zf.sib{m:Nat}(h:Zf (n::π) i)(a: ¬n=m):Id.under (m::π) i=false:=by
 cases b:Id.under (m::π) i with
 |false=>rfl
 |true=>exact absurd (B5 h.up b) a
def NH.up(h:NH π b i):Zf π i:=by
 obtain⟨n,_,h⟩:=h;exact h.out
def NH.not(h:NH π b i)(a m:Nat):Id.is (a::m::π) i=false:=by
 obtain⟨n,_,h⟩:=h;exact h.not a m
def NH.sib{m:Nat}(h:NH π b i)(c:b<=m):Id.under (m::π) i=false:=by
 obtain⟨n,a,h⟩:=h;exact h.sib AA
def NH.mono{c:Nat}(h:NH π b i)(e:b<=c):NH π c i:=by
 obtain⟨n,a,h⟩:=h;exact⟨n,AA,h⟩
def yG{α:Type}(C:Abs.Id->Prop)(I:List α->(Abs.Id->Prop)->AD->Prop)(D:A8->AD->Prop)(π ρ:List Nat)(l:List α)(M:Abs.Id->Prop)(vi:List Abs.Id)(H:AD)(o:A8)(h':AD):Prop:=
 (o=.ret (.d (.bool (true)))/\ ∃M',I l M' h'/\(∀i,M' i->M i\/i∈vi\/Zf ρ i)/\ ∀i,¬C i-> ¬M i->i∉vi->Id.under ρ i=false->h'.get i=H.get i)\/((o=.ret (.d (.bool (false)))\/ ∃v,o=.ge v)/\D o h'/\ ∀j,Id.under π (0::j)=true->Id.under ρ (0::j)=false->h'.get (0::j)=H.get (0::j))
structure ND{α:Type}(val:AD->AV->α->Prop)(id:Abs.Id)(C:Abs.Id->Prop)(I:List α->(Abs.Id->Prop)->AD->Prop)(D:A8->AD->Prop)(π:List Nat):Prop where
 own:C id
 apart: ∀i,C i->Id.under π i=false
 tag: ∀{l:List α} {M:Abs.Id->Prop} {H:AD},I l M H-> ∀i,M i-> ∃l,i=1::l
 loop: ∀{l:List α} {M:Abs.Id->Prop} {H:AD},I l M H-> ∃r,H.get id=some (.loop r)
 eat: ∀{x:α} {l:List α} {M:Abs.Id->Prop} {H:AD} {ρ:List Nat} {v:AV} {r:Lp},I (x::l) M H->H.get id=some (.loop r)->val H v x->(∀i,Id.under π i=false->Id.under ρ i=false)->(∀i,M i->Id.under ρ i=false)->(∀i∈AE v,¬C i/\Id.under ρ i=false/\Zf π i)->
  ∃o h',kT (.round id r) [v] H ρ true none=.ok (o,h')/\yG C I D π ρ l M (AE v) H o h'
 same: ∀{l:List α} {M:Abs.Id->Prop} {H H':AD},I l M H->(∀i,(Id.under π i=false\/M i)->H'.get i=H.get i)->I l M H'
 sameD: ∀{o:A8} {H H':AD},D o H->(∀i,(Id.under π i=false\/ ∃l,i=1::l)->H'.get i=H.get i)->D o H'
def ra{α:Type}(C:Abs.Id->Prop)(I:List α->(Abs.Id->Prop)->AD->Prop)(D:A8->AD->Prop)(π:List Nat)(M:Abs.Id->Prop)(h:AD)(o:A8)(h':AD):Prop:=
 (o=.ret (.ii [])/\ ∃M',I [] M' h'/\(∀i,M' i->M i\/Zf π i)/\ ∀i,¬C i-> ¬M i->Id.under π i=false->h'.get i=h.get i)\/(o=.ret (.ii [])/\D (.ret (.d (.bool (false)))) h')\/((∃v,o=.ge v)/\D o h')
variable{α:Type}{val:AD->AV->α->Prop}{C:Abs.Id->Prop}{I:List α->(Abs.Id->Prop)->AD->Prop}{D:A8->AD->Prop}{H:AD}
def ND.gcI{id:Abs.Id}(b:ND val id C I D π){l:List α}{M:Abs.Id->Prop}(h:I l M H)(n:Nat):I l M (gc (n::π) H):=b.same h fun i a=>by
 rcases a with a|a
 .exact An _ _ _ (AJ a n)
 .obtain⟨l,rfl⟩:=b.tag h i a;exact G5 _ _ _
def ND.gcD{id:Abs.Id}(b:ND val id C I D π){o:A8}(h:D o H)(n:Nat):D o (gc (n::π) H):=b.sameD h fun i a=>by
 rcases a with a|⟨l,rfl⟩
 .exact An _ _ _ (AJ a n)
 .exact G5 _ _ _
def rf(H:AD)(v:AV)(x:List Int):Prop:= ∃id,v=.f8 id 0 x.length/\H.get id=some (.em 1 (x.map AL))/\ ∃l,id=1::l
structure AEc(C:Abs.Id->Prop)(I:List (List Int)->(Abs.Id->Prop)->AD->Prop)(π:List Nat)(M:Abs.Id->Prop)(h:AD)(A:Abs.Id)(many:List Nat)(c:List Int)(L:List (List Int))(a:List Int)(b:Nat)(g:AD):Prop where
 arr:g.get A=some (.em 1 (a.map AL))
 dig:Jw many c
 eat: ∃M',I L M' g/\ ∀i,M' i->M i\/NH π b i
 frame: ∀i,¬C i-> ¬M i->Id.under π i=false->g.get i=h.get i
def xL{c z:List Int}{j:Nat}(b:j<c.length)(x:Int):(c.take (j+1)++z).set j x=c.take j++x::z:=by
 obtain⟨d,a⟩:=get_some b;have e:(c.take j).length=j:=zFN
 rw[GC,a,DO,List.set_append,Ci AA,e,Kw];rfl
def e9{many:List Nat}(a5:0<many.length)(ch:many.length<=1000)(a1: ∀n∈many,n<=1000000){id:Abs.Id}{C:Abs.Id->Prop}{I:List (List Int)->(Abs.Id->Prop)->AD->Prop}{D:A8->AD->Prop}{π:List Nat}(p:ND rf id C I D π){M:Abs.Id->Prop}{h:AD}{B:Abs.Id}(b8:h.get B=some (.box [.d (.bv ((many.map fun(n:Nat)=>(n:Int)).map AL))]))(P:Id.under π B=false)(b3: ¬C B)(a2: ¬M B)(J: ∀i,M i->Id.under π i=false)(Q:I (CR many) M h):
 ∃o h',kT (.fn 158) [.wt id,.ptr B 0] h π true none=.ok (o,h')/\ra C I D π M h o h':=by
 have ac:=p.apart;have b6:=AI P;have c2:=Aj P;have cl:=k7 (many.map fun(n:Nat)=>(n:Int)) (by simpa using a5) Aa;by_cases N:0∈many
 .rw[(cP a5).2 N]at cl;rw[Sx N]at Q;refine BR Tryz.func158 ?_;refine aw ?_;exact .inl ⟨rfl,M,Q,fun i f=>.inl f,fun _ _ _ _=>rfl⟩
 .have c4: ¬pg (many.map fun(n:Nat)=>(n:Int))=0:=fun e=>N ((cP a5).1 e);replace Q:=AB Q;replace p:=AB p;replace ac:=AB ac;replace a1:=AB a1;replace J:=AB J;replace a2:=AB a2;refine BR Tryz.func158 ?_;have R:=fun(l:List Int) (ch:l.length=many.length)=>sv l AA AA;replace R:=AB R
  (repeat' (first|simp only[go_sem, *]|(refine sx ?_ ?_<;>intro ar)|refine sy AA fun x c6 a1=>?_|simp(disch:=first|assumption|omega) only[AR,Ff]))
  refine rounds (S:=fun(a:(List Int×AD)×Nat)=>⟨[(0,.wt id),(1,.ptr B 0),(3,.f8 (1::5::π) 0 many.length)],a.1.2,a.2+7,[]⟩)
   (Inv:=fun a=>AH (AEc C I π M h (1::5::π) many a.1.1 (Kr many a.1.1) a.1.1 (a.2+7) a.1.2)) (m:=fun a=>(Kr many a.1.1).length) (a:=((G2 many.length,_),0)) ⟨?_⟩ ?_
  .refine⟨?_,NY N,⟨M,?_,fun i f=>.inl f⟩,fun i w _ k=>?_⟩
   .show(h.put (1::5::π) _).get (1::5::π)=_;rw[get_put,is_self];rfl
   .rw[SG N];exact p.out.same Q.out fun i f=>by rw[get_put,AI (f.elim (fun h=>h) (J.out i)) 1 5];rfl
   .show(h.put (1::5::π) _).get i=_;rw[get_put,AI k 1 5];rfl
  .rintro⟨⟨c,g⟩,b⟩ u IH;dsimp only at*;have ad:=u.out.arr;have R:=R.out c (u.out.dig.len);have b':=u.out.dig.len;have ag:g.get B=_:=(u.out.frame B b3 a2.out P).trans b8;obtain⟨A,ai,K⟩:=u.out.eat;have a3: ∀i,¬M i->Id.under π i=false-> ¬A i:=fun i w k X=>by
    rcases K i X with q|q
    .exact w q
    .rw[q.up.up]at k;cases k
   have a4: ∀m,b+7<=m-> ∀i,A i->Id.under (m::π) i=false:=fun m h i f=>(K i f).elim (fun q=>AJ (J.out i q) m) fun q=>q.sib h;have a7: ∀i,A i->Id.is (1::5::π) i=false:=fun i f=>(K i f).elim (fun q=>AI (J.out i q) 1 5) fun q=>q.not 1 5;have fa:=an c;have de:List.take many.length (c.map AL)=c.map AL:=Bi Aa;have b5:=ac.out id p.out.own;have c7:=AI b5;have cx:Id.is (1::5::(b+9)::π) id=false:=AI (AJ b5 (b+9)) 1 5;obtain⟨r,bs⟩:=p.out.loop ai;obtain⟨Y,V⟩: ∃t,t=dR many (LD many c):=⟨_,rfl⟩;obtain⟨Z,bc⟩:=qb u.out.dig N;rw[<-V]at Z;have cp:=AB fun l=>p.out.same (l:=l) (M:=A) (H:=g) (H':=(1::5::(b+9)::π,.em 1 (c.map AL))::g);have a0:=ai;rw[Z]at a0;replace a0:=AB a0;replace ai:=AB ai;replace K:=AB K;replace a3:=AB a3;replace a4:=AB a4;replace a7:=AB a7;replace Z:=AB Z;replace bc:=AB bc;replace V:=AB V;refine ax ?_;refine Ad (p.out.eat (x:=c) (l:=Y) (cp.out _ a0.out fun i f=>?_) (by simp only[go_sem,cx,bs,AM]) ⟨_,by rw[b'],by simp only[go_sem],_,rfl⟩ (fun i f=>AJ f _) (a4.out _ AA) (fun i f=>?_)) (fun dd g1 s=>?_)
   .have q:=AI (f.elim (fun h=>AJ h (b+9)) (a4.out _ AA i)) 1 5;exact zBf
   .simp only[AE,Ac]at f;subst f;exact⟨fun ar=>(by have:=ac.out _ ar;rw[show Id.under π (1::5::(b+9)::π)=true from Ar [1,5,b+9]]at this;cases this),Kx _ _ _ _ _ AA,5,(b+9)::π,rfl,Ar [b+9]⟩
   rcases s with⟨rfl,F,s,bx,b4⟩|⟨c0,s,_⟩
   .have W: ∀i,F i->M i\/NH π (b+11) i:=fun i f=>by
     rcases bx i f with q|q|q
     .exact(K.out i q).imp_right fun q=>q.mono AA
     .simp only[AE,Ac]at q;subst q;exact .inr ⟨b+9,AA,5,_,rfl,Ar []⟩
     .exact .inr ⟨b+10,AA,q⟩
    have a': ∀i,F i->Id.is (1::5::π) i=false:=fun i f=>(W i f).elim (fun q=>AI (J.out i q) 1 5) fun q=>q.not 1 5;have b0: ¬A (1::5::π):=fun h=>by have:=a7.out _ h;rw[is_self]at this;cases this
    have b1:=a3.out B a2.out P;have fr: ∀i,¬C i-> ¬A i->Id.under ((b+10)::π) i=false->Id.is (1::5::(b+9)::π) i=false->(gc ((b+10)::π) g1).get i=g.get i:=fun i w O k X=>by
     rw[An _ _ _ k,b4 i w O (fun h=>by simp only[AE,Ac]at h;rw[h,is_self]at X;cases X) k,CL,X];rfl
    have bk:=(fr B b3 b1 (AJ P _) (AI (AJ P (b+9)) 1 5)).trans ag;have bi:=(fr (1::5::π) (fun ar=>by have:=ac.out _ ar;rw[show Id.under π (1::5::π)=true from Ar [1,5]]at this;cases this) b0 (JG _ _ _ _ AA) (AF AG)).trans ad;have be:AH (∀i,¬C i-> ¬M i->Id.under π i=false->(gc ((b+10)::π) g1).get i=h.get i):=⟨fun i w O k=>(fr i w (a3.out i O k) (AJ k _) (AI (AJ k (b+9)) 1 5)).trans (u.out.frame i w O k)⟩;clear b4 fr bx b0 b1;replace W:=AB W;replace a':=AB a';replace s:=AH.mk (p.out.gcI s (b+10));refine ax ?_;have bl:=AB u.out.dig;replace u:=AB u;refine rounds (S:=fun(a:(Nat×AD)×Nat)=>⟨[(0,.wt id),(1,.ptr B 0),(3,.f8 (1::5::π) 0 many.length),(4,nI ((a.1.1:Int)-1))],a.1.2,b+a.2+16,[]⟩)
     (Inv:=fun a=>a.1.1<=many.length/\AH (jr many c a.1.1)/\a.1.2.get (1::5::π)=some (.em 1 ((c.take a.1.1++G2 (many.length-a.1.1)).map AL))/\a.1.2.get B=some (.box [.d (.bv ((many.map fun(n:Nat)=>(n:Int)).map AL))])/\AH (I Y F a.1.2/\ ∀i,¬C i-> ¬M i->Id.under π i=false->a.1.2.get i=h.get i)) (m:=fun a=>a.1.1) (a:=((many.length,_),0)) ⟨Es _,⟨fun t a6 h2=>absurd h2 (Nat.not_lt.2 a6)⟩,?_,bk,⟨s.out,be.out⟩⟩ ?_
    .show(gc ((b+10)::π) g1).get (1::5::π)=some (.em 1 ((c.take many.length++G2 (many.length-many.length)).map AL));rw[bi,Kw,G2,List.replicate_zero,CI,Bi AA]
    clear bi bk s be ad ag bs R;rintro⟨⟨j,g2⟩,b2⟩ ⟨hj,hend,ad,ag,hI3⟩ IH2;dsimp only at*;rcases j with _|j
    .have cn:AH (Y=[]):=⟨by rw[V.out,Xg bl.out hend.out];rfl⟩;refine ax ?_;all_goals first
     |omega
     |exact .inl ⟨rfl,F,by have:=hI3.out.1;rwa [cn.out]at this,fun i f=>(W.out i f).imp_right fun q=>q.up,hI3.out.2⟩
    .obtain⟨d,az⟩:=get_some (l:=c) (i:=j) AA;obtain⟨n,T⟩:=get_some (l:=many) (i:=j) AA;obtain⟨a,y⟩: ∃a,a=c.take (j+1)++G2 (many.length-(j+1)):=⟨_,rfl⟩;have al:a.length=many.length:=by rw[y,Be,F2,G2,I7];omega
     have c1:a[j]? =some d:=by rw[y,Ce zFN,I6,D4 AA,az]
     rw[<-y]at ad;have b7:(((j+1:Nat):Int)-1)=j:=AA;have c3:(many.map fun(n:Nat)=>(n:Int))[j]? =some (n:Int):=by rw[D7,T];rfl
     have c5:=a1.out n (AS T);have df:IntKind.i64.wrap ((n:Int)-1)=(n:Int)-1:=wrap_id AA AA;have c9:j<many.length:=AA;have c8: ¬(j:Int)<0:=AA;replace y:=AB y;rw[b7];have put: ∀o,AH (I Y F (g2.put (1::5::π) o)/\(g2.put (1::5::π) o).get B=some (.box [.d (.bv ((many.map fun(n:Nat)=>(n:Int)).map AL))])/\ ∀i,¬C i-> ¬M i->Id.under π i=false->(g2.put (1::5::π) o).get i=h.get i):=fun o=>⟨p.out.same hI3.out.1 (fun i f=>by rw[get_put,f.elim (fun h=>AI h 1 5) (a'.out i)];rfl),by rw[get_put,b6];exact ag,fun i w O k=>by rw[get_put,AI k 1 5];exact hI3.out.2 i w O k⟩;have L:=bl.out;by_cases bo:d=(n:Int)-1
     .have z: ∀x:Int,(a.map AL).set j [.int .i64 x]=(c.take j++x::G2 (many.length-(j+1))).map AL:=fun x=>by
       rw[<-xL AA,<-y.out,JP];rfl
      replace z:=AB z;replace put:=AB put;replace L:=AB L;refine ax ?_;rw[z.out];refine IH2.out ((j,_),b2+21) AG ⟨AU,⟨fun t a6 h2=>?_⟩,?_,(put.out _).out.2.1,⟨(put.out _).out.1,(put.out _).out.2.2⟩⟩
      .by_cases cs:t=j
       .subst cs;exact⟨d,n,az,T,bo⟩
       .exact hend.out t (by dsimp only at a6;omega) h2
      .show(g2.put (1::5::π) _).get (1::5::π)=some (.em 1 ((c.take j++G2 (many.length-j)).map AL));rw[get_put,is_self,show many.length-j=(many.length-(j+1))+1 by omega];rfl
     .have U:=px L hend.out az T bo;have z: ∀x:Int,(a.map AL).set j [.int .i64 x]=(c.take j++x::G2 (many.length-(j+1))).map AL:=fun x=>by
       rw[<-xL AA,<-y.out,JP];rfl
      have dm:IntKind.i64.wrap (d+1)=d+1:=by
       have:=tB L az T;exact wrap_id AA AA
      obtain⟨c',av⟩: ∃t,t=c.take j++(d+1)::G2 (many.length-(j+1)):=⟨_,rfl⟩;rw[<-av]at U;have bv:AH (Y=Kr many c'):=⟨by rw[V.out,U];rfl⟩;have cc:=AH.mk (bc.out c' U);replace z:=AB z;replace put:=AB put;replace L:=AB L;replace U:=AB U;replace av:=AB av;refine ax ?_;rw[z.out,<-av.out];refine IH.out ((c',_),b+b2+32) ?_ ⟨?_,cc.out,⟨F,by rw[<-bv.out];exact(put.out _).out.1,fun i f=>(W.out i f).imp_right fun q=>q.mono AU⟩,(put.out _).out.2.2⟩
      .dsimp only;rw[Z.out,<-bv.out];simp
      .dsimp only;rw[get_put,is_self];rfl
   .replace s:=AH.mk (p.out.gcD s (b+10));rcases c0 with rfl|⟨v,rfl⟩
    .refine ax ?_;exact .inr (.inl ⟨rfl,s.out⟩)
    .refine ax ?_;exact .inr (.inr ⟨⟨v,rfl⟩,s.out⟩)
def ue{p:AX}(b:J4 p sz h m V st)(c:Bx ρ V m)(l:Fo p sz st.d8)(a:RV p sz st.d8 w x):
 ∃o h',kT (.fn 93) [.ptr m 0,.agg [nI w.at_,nI w.node,.d (.bv (w.env.map AN))]] h ρ true (some ρ)=.ok (o,h')/\o=.ret (.d (.bool (ol p st.d8 w))):=by
 have f:=b.box;simp only[BL]at f;have q:=c m (V.m_mem m);have I:=AI q;have J:=Aj q;have g:=a.node;have M:=a.n0;have P:=AK g;rw[kR g];by_cases k:x.op=7
 .refine BR Tryz.func93 ?_;exact au
 obtain⟨v,O,z,e⟩:=a.val k;have⟨n0,n1⟩:=a.n k;rw[z];by_cases s:v.kind=4
 .obtain⟨t,y,A,B⟩:=e s;obtain⟨r0,C⟩:=t;have u:=l.small;simp only[BU.small,AP,Ap]at u;obtain⟨D,T⟩:=a.at_;have L:=SS st.d8.ac v.n w.at_ AA l.tree ⟨r0,C⟩ D
  obtain⟨S,W,j,r,U,Q,R⟩:=FV (b.sl 0 AA) A;have n:=c S (V.s_mem m (i:=0) AA (by rw[j];simp[AE]));have F:=AI n;have H:=Aj n;rw[j]at f;simp only[Dt]at r;replace b:=AB b;replace c:=AB c;by_cases N:x.op=8;all_goals
   rw[B];clear e;refine BR Tryz.func93 ?_
   (repeat' (first|simp only[go_sem, *,AM]|(refine sx ?_ ?_<;>intro K)|refine sy AA fun x g f=>?_|simp(disch:=first|assumption|omega) only[AR]))
   all_goals first|done|simp[*]
 .clear e;refine BR Tryz.func93 ?_;exact au
end Go.Proofs
namespace Go.Abs
def SV(ds:List Df):Prop:= ∀d∈ds,∃id,d=.mark id
def XY:SV []=True:=by simp[SV]
def U7(id:Id)(ds:List Df):SV (.mark id::ds)=SV ds:=by simp[SV]
def So{C:DJ}{ci:Option (List Nat)}{p:Option AV}{h:AD}: ∀{ds:List Df},SV ds->Dw C ci ds p h=.ok (p,h)
 |[],_=>rfl
 |d::ds,hd=>by
  obtain⟨id,rfl⟩:=hd d AG;rw[U1];exact So fun d a=>hd d zEg
attribute [go_sem] XY U7 So
theorem mX(id:Id):(AV.wt id).cells=[.wt id]:=rfl
theorem so(id:Id):AV.isCell (.wt id)=true:=rfl
attribute [go_sem] mX so
end Go.Abs
namespace Go.Proofs
open Abs
def r6(H:AD)(v:AV)(x:FH):Prop:= ∃pv,v=.agg [nI x.wait,nI x.group,nI x.wn,pv]/\((pv=.d7/\x.picks=[])\/rf H pv x.picks)
def Nt(π:List Nat)(i:Abs.Id):Prop:= ∀a n,Id.is (a::n::π) i=false
def Fd{α:Type}(I:List α->(Abs.Id->Prop)->AD->Prop)(π:List Nat)(M:Abs.Id->Prop)(b:Nat)(L:List α)(g:AD):Prop:= ∃M',I L M' g/\ ∀i,M' i->M i\/NH π b i
section
variable{α:Type}{val:AD->AV->α->Prop}{id:Abs.Id}{C M M':Abs.Id->Prop}{I:List α->(Abs.Id->Prop)->AD->Prop}{D:A8->AD->Prop}{π:List Nat}{b b':Nat}{L:List α}{g G:AD}
def Zf.wide{ρ:List Nat}{i:Abs.Id}(b: ∀i,Id.under π i=false->Id.under ρ i=false)(h:Zf ρ i):Zf π i:=by
 obtain⟨j,l,rfl,h⟩:=h;refine⟨j,l,rfl,?_⟩;cases a:Id.under π l with
 |true=>rfl
 |false=>rw[b l a]at h;cases h
def Y7(c: ∀i,M i->Id.under π i=false)(h: ∀i,M' i->M i\/NH π b i)(i:Abs.Id)(a:Id.under π i=false\/M' i):Nt π i:=by
 rcases a with a|a
 .exact AI a
 .rcases h i a with q|q
  .exact AI (c i q)
  .exact q.not
def vw(h: ∀i,M' i->M i\/NH π b i)(i:Abs.Id)(c: ¬M i)(a:Id.under π i=false): ¬M' i:=fun e=>by
 rcases h i e with q|q
 .exact c q
 .rw[q.up.up]at a;cases a
def Wa(a: ∀i,M i->Id.under π i=false)(h: ∀i,M' i->M i\/NH π b i){m:Nat}(e:b<=m)(i:Abs.Id)(c:M' i):Id.under (m::π) i=false:=(h i c).elim (fun q=>AJ (a i q) m) fun q=>q.sib e
def Fd.mv(e:ND val id C I D π)(f: ∀i,M i->Id.under π i=false)(h:Fd I π M b L g)(k: ∀i,Nt π i->G.get i=g.get i)(j:b<=b'):Fd I π M b' L G:=by
 obtain⟨M',c,h2⟩:=h;exact⟨M',e.same c fun i a=>k i (Y7 f h2 i a),fun i a=>(h2 i a).imp_right fun q=>q.mono j⟩
def Fd.gc(c:ND val id C I D π)(h:Fd I π M b L g)(n:Nat):Fd I π M b L (gc (n::π) g):=by
 obtain⟨M',a,h2⟩:=h;exact⟨M',c.gcI a n,h2⟩
end
structure StepsIn(C M:Abs.Id->Prop)(π:List Nat)(h:AD)(id:Abs.Id)(E:AD->Prop)(g:AD):Prop where
 box:g.get (0::0::π)=some (.box [.wt id])
 eat:E g
 frame: ∀i,¬C i-> ¬M i->Id.under π i=false->g.get i=h.get i
structure YJ(C M:Abs.Id->Prop)(π:List Nat)(h:AD)(id:Abs.Id)(b c:Nat)(i k:Int)(gr:BA)(E:AD->Prop)(g:AD):Prop where
 st:StepsIn C M π h id E g
 x6:g.get (0::(b+20)::π)=some (.box [nI i])
 x7:g.get (0::(b+21)::π)=some (.box [nI gr.f9,nI gr.at_,.d (.bv (gr.env.map AN))])
 x8:g.get (0::(c+40)::π)=some (.box [nI k])
variable{C M:Abs.Id->Prop}{π:List Nat}{h H:AD}{b:Nat}{i k:Int}{gr:BA}
def YJ.loc{I:List FH->(Abs.Id->Prop)->AD->Prop}{D:A8->AD->Prop}{id:Abs.Id}(m:ND r6 id C I D π)(o: ∀i,M i->Id.under π i=false){c B:Nat}{L:List FH}{g:AD}(a:YJ C M π h id b c i k gr (Fd I π M B L) g)(f: ∀x,(∀n,Id.is (1::n::π) x=false)->H.get x=g.get x):YJ C M π h id b c i k gr (Fd I π M B L) H:=by
 have e: ∀l,H.get (0::l)=g.get (0::l):=fun l=>f _ fun n=>AF AG;exact⟨⟨(e _).trans a.st.box,a.st.eat.mv m o (fun i p=>f i fun n=>p 1 n) (Es _),fun i r q j=>(f i fun n=>AI j 1 n).trans (a.st.frame i r q j)⟩,(e _).trans a.x6,(e _).trans a.x7,(e _).trans a.x8⟩
def YJ.mv{id:Abs.Id}{c:Nat}{E f:AD->Prop}{g:AD}(a:YJ C M π h id b c i k gr E g)(o:f H)(e: ∀n,n=0\/n=b+20\/n=b+21\/n=c+40->H.get (0::n::π)=g.get (0::n::π))(p: ∀i,¬C i-> ¬M i->Id.under π i=false->H.get i=g.get i):YJ C M π h id b c i k gr f H:=
 ⟨⟨(e _ AG).trans a.st.box,o,fun i l j m=>(p i l j m).trans (a.st.frame i l j m)⟩,(e _ AG).trans a.x6,(e _ AG).trans a.x7,(e _ AG).trans a.x8⟩
def pK{K:Ab}{ci:Option (List Nat)}{ρ b:List Nat}{a:Abs.Id}{e:CA}{c:Nat}{ds:List Df}{Q:Eh->St->Prop}{t:B0}{args:List AV}{x:Abs.Id×Abs.Obj}{r:Lp}(g: ∀f,f=r->JA ρ b a e c ds Q (K t args (x::H.put a (.loop f)) b true ci)):JA ρ b a e c ds Q (K t args (x::H.put a (.loop r)) b true ci):=g r rfl
def Z9(L:List Int)(k:Nat)(ρ:List Nat):BX kT 96 [.d (.bv (L.map AL))] (k::ρ)=.ok (.ret (.fn 158 [] [.ptr (0::0::k::ρ) 0]),[(0::0::k::ρ,.box [.d (.bv (L.map AL))])]):=by
 refine Az Tryz.func96 ?_;exact au
def qu{p:AX}{sz:List Int}(a6:BP p sz){h:AD}{π:List Nat}{m:Abs.Id}{V:MV}{st:CW}(a7:J4 p sz h m V st)(ac:Bx π V m)(X:Fo p sz st.d8){id:Abs.Id}{C:Abs.Id->Prop}{I:List FH->(Abs.Id->Prop)->AD->Prop}{D:A8->AD->Prop}(z:ND r6 id C I D π)(b2: ∀i∈V.ids m,¬C i){M:Abs.Id->Prop}(b4: ∀i∈V.ids m,¬M i)(T: ∀i,M i->Id.under π i=false)(Q:I (CG p st.d8) M h):
 ∃o h',kT (.fn 52) [.ptr m 0,.wt id] h π true none=.ok (o,h')/\ra C I D π M h o h':=by
 have b7:=z.apart;have a0:=a7.box;simp only[BL]at a0;have e8:=ac m (V.m_mem m);have hs:=AI e8;have ja:=Aj e8;have g':=X.small;simp only[BU.small,AP,Ap]at g';obtain⟨kd,ke,ki,kk⟩:=g';have f8:=E6 (a7.sl 2 AA);simp only[Ax,As]at f8;have uid:=b7 id z.own;have h6:=AI uid;replace a7:=AB a7;replace ac:=AB ac;replace z:=AB z;replace b2:=AB b2;replace b4:=AB b4;replace T:=AB T;replace b7:=AB b7;replace X:=AB X;refine BR Tryz.func52 ?_
 (repeat' (first|simp only[go_sem, *,↓f8,AM]|(refine sx ?_ ?_<;>intro U)|refine sy AA fun x ad a0=>?_|simp(disch:=first|assumption|omega) only[AR]))
 have f3:AH (CG p st.d8=Cl p st.d8 0 st.d8.waits++DD p st.d8 0 st.d8.ce):=⟨rfl⟩;obtain⟨G,fs⟩: ∃G,G=DD p st.d8 0 st.d8.ce:=⟨_,rfl⟩;rw[<-fs]at f3;rw[f3.out]at Q;replace Q:=AB Q;refine Aq st.d8.waits _ (S:=fun b6 i (a:AD×Nat)=>⟨[(0,.ptr m 0),(3,.ptr (0::0::π) 0),(13,CA.get [] 13),(18,V.s 2),(19,nI b6),(20,nI i),(102,CA.get [] 102),(103,CA.get [] 103),(104,CA.get [] 104),(105,CA.get [] 105),(106,CA.get [] 106),(107,CA.get [] 107),(108,CA.get [] 108),(109,CA.get [] 109)],a.1,a.2+8,[]⟩)
  (Inv:=fun i bx a=>AH (StepsIn C M π h id (Fd I π M (a.2+8) (Cl p st.d8 i bx++G)) a.1)) (b0:=(_,0)) rfl ⟨⟨?_,⟨M,z.out.same Q.out fun i f=>?_,fun i f=>.inl f⟩,fun i F _ u=>?_⟩⟩ ?_ ?_
 .simp only[go_sem]
 .have q:=AI (f.elim (fun h=>h) (T.out i));exact zBf
 .have q:=AI u;exact zBf
 .rintro i w ⟨g,b⟩ cl f f6 K b8;dsimp only at*;obtain⟨x,ha⟩:=O5 a6 (X.out.wait w (AS cl));have J:=CM a7.out (h':=g) fun i f=>K.out.frame i (b2.out i f) (b4.out i f) (ac.out i f);obtain⟨W,i1,a',ea,hj,hb,hc⟩:=FV (J.sl 2 AA) cl;have d6:=ac.out W (V.s_mem m (i:=2) AA (by rw[a'];simp[AE]));have cs:=AI d6;have cx:=Aj d6;have c9:=K.out.box;simp only[Dt]at ea;rw[a']at b8⊢;replace J:=AB J;replace a':=AB a';have h4:=AB ha;clear ha;have g4:=AB fun H de=>ue (Ek J.out ac.out (h':=H) de) (ac.out.ext (b+17)) X.out h4.out;have d9:=AB K.out.box;obtain⟨d8,a4,b3⟩:=K.out.eat;have hf:=AH.mk (Y7 T.out b3);have he:=AH.mk (vw b3);have im:=AB fun(m:Nat) (a0:b+8<=m)=>Wa T.out b3 a0;have bs: ∀l,¬d8 (0::l):=fun l f7=>by obtain⟨ex,h2⟩:=z.out.tag a4 _ f7;cases h2
  replace bs:=AB bs;replace b3:=AB b3;rw[Cl]at a4;obtain⟨bx,d3⟩: ∃t,t=Cl p st.d8 (i+1) (st.d8.waits.drop (i+1))++G:=⟨_,rfl⟩;have g0:=AB K.out.frame;obtain⟨r,b5⟩:=z.out.loop a4;rw[DO,<-d3]at a4;replace a4:=AB a4;replace d3:=AB d3;have en:=Dx uid;refine ax ?_;refine EG (g4.out _ fun i f=>?_) (fun Y g1 s=>?_)
  .have q:=AI f;exact zBf
  subst s;replace K:=AB K;clear g4;have a2: ∀o o':Abs.Obj,∀i,Nt π i->((g.put (0::(b+12)::π) o).put (0::(b+12)::π) o').get i=g.get i:=fun o o' i f=>by
   rw[get_put,get_put,f];rfl
  replace a2:=AB a2;cases az:ol p st.d8 w with
  |true=>
   rw[az]at a4;replace az:=AB az;refine ax ?_;refine Ad (z.out.eat (x:=⟨i,0,0,[]⟩) (l:=bx) (z.out.same a4.out fun i f=>a2.out _ _ i (hf.out i f)) (by rw[a2.out _ _ _ (AI uid)];exact b5) ⟨_,rfl,.inl ⟨rfl,rfl⟩⟩ (fun i f=>AJ f _) (im.out _ AA) (fun i f=>by simp[AE,A9]at f)) (fun Y g1 s=>?_);rcases s with⟨rfl,bi,s,hd,Z⟩|⟨gm,s,_⟩
   .have cn:AH (∀i,bi i->M i\/NH π (b+23) i):=⟨fun i f=>by
     rcases hd i f with q|q|q
     .exact(b3.out i q).imp_right fun q=>q.mono AA
     .simp[AE,A9]at q
     .exact .inr ⟨b+22,AA,q⟩⟩
    have ht:AH (∀i,¬C i-> ¬M i->Id.under π i=false->(gc ((b+22)::π) g1).get i=h.get i):=⟨fun i F N u=>by rw[An _ _ _ (AJ u _),Z i F (he.out i N u) (by simp[AE,A9]) (AJ u _),a2.out _ _ i (AI u)];exact g0.out i F N u⟩;have e1: ¬C (0::0::π):=fun U=>by have:=b7.out _ U;rw[show Id.under π (0::0::π)=true from Ar [0,0]]at this;cases this
    have hn:(gc ((b+22)::π) g1).get (0::0::π)=some (.box [.wt id]):=by
     rw[An _ _ _ (Au π AA),Z _ e1 (bs.out _) (by simp[AE,A9]) (Au π AA)];rw[get_put,get_put,AF AG];exact d9.out
    clear Z hd;replace d9:=AB hn;replace s:=AH.mk (z.out.gcI s (b+22));refine ax ?_;refine b8.out (_,b+19) ⟨⟨d9.out,⟨bi,?_,fun i f=>(cn.out i f).imp_right fun q=>q.mono AU⟩,ht.out⟩⟩;rw[<-d3.out];exact s.out
   .replace s:=AH.mk (z.out.gcD s (b+22));rcases gm with rfl|⟨v,rfl⟩
    .refine ax ?_;exact .inr (.inl ⟨rfl,s.out⟩)
    .refine ax ?_;exact .inr (.inr ⟨⟨v,rfl⟩,s.out⟩)
  |false=>
   rw[az]at a4;replace az:=AB az;refine ax ?_;refine b8.out (_,b+19) ⟨⟨?_,⟨d8,?_,fun i f=>(b3.out i f).imp_right fun q=>q.mono AU⟩,fun i F N u=>(a2.out _ _ i (AI u)).trans (g0.out i F N u)⟩⟩
   .dsimp only;rw[get_put,get_put,AF AG];exact d9.out
   .rw[<-d3.out];exact z.out.same a4.out fun i f=>a2.out _ _ i (hf.out i f)
 .rintro i ⟨g,b⟩ f f6 K;dsimp only at*;have J:=CM a7.out (h':=g) fun i f=>K.out.frame i (b2.out i f) (b4.out i f) (ac.out i f);have O:=J.box;simp only[BL]at O;have c9:=K.out.box;have dq:=E6 (J.sl 1 AA);simp only[Ax,As]at dq;replace J:=AB J;rw[Cl,CE,fs]at K;clear Q f3 fs f8 f
  (repeat' (first|simp only[go_sem, *,↓dq,AM]|(refine sx ?_ ?_<;>intro U)|refine sy AA fun x ad a0=>?_|simp(disch:=first|assumption|omega) only[AR]))
  refine Aq st.d8.ce _ (S:=fun b6 i (a:AD×Nat×List Df)=>⟨[(0,.ptr m 0),(3,.ptr (0::0::π) 0),(13,CA.get [] 13),(40,V.s 1),(41,nI b6),(42,nI i),(102,CA.get [] 102),(103,CA.get [] 103),(104,CA.get [] 104),(105,CA.get [] 105),(106,CA.get [] 106),(107,CA.get [] 107),(108,CA.get [] 108),(109,CA.get [] 109)],a.1,a.2.1+16,a.2.2⟩)
   (Inv:=fun i bx a=>AH (StepsIn C M π h id (Fd I π M (a.2.1+16) (DD p st.d8 i bx)) a.1)/\SV a.2.2) (b0:=(_,b,[])) rfl ⟨⟨⟨K.out.box,K.out.eat.mv z.out T.out (fun _ _=>rfl) AU,K.out.frame⟩⟩,by rw[XY];trivial⟩ ?_ ?_
  .clear J O c9 dq K;clear f6 i g;clear b;rintro i gr ⟨g,b,ds⟩ cl f f6 ⟨K,bo⟩ b8;have b1: ¬b+1=b:=AA;have gs: ¬b=b+1:=AA;dsimp only at*;obtain⟨d,av⟩:=X.out.grp i gr cl;obtain⟨gu,bl⟩:=Fx av.f9;have jl:=AK bl;have jn:=(CC a6 bl).ok.rules;have J:=CM a7.out (h':=g) fun i f=>K.out.frame i (b2.out i f) (b4.out i f) (ac.out i f);have O:=J.box;simp only[BL]at O;obtain⟨W,i1,a',ea,hj,hb,hc⟩:=FV (J.sl 1 AA) cl;have d6:=ac.out W (V.s_mem m (i:=1) AA (by rw[a'];simp[AE]));have cs:=AI d6;have cx:=Aj d6;have c9:=K.out.box;simp only[Dt]at ea;rw[a']at b8⊢;replace J:=AB J;replace a':=AB a';replace av:=AB av;refine ax ?_;have f4:AH (DD p st.d8 i (gr::st.d8.ce.drop (i+1))=Cd st.d8 d gr i 0 d.rules++DD p st.d8 (i+1) (st.d8.ce.drop (i+1))):=⟨by rw[DD,av.out.f9]⟩;have a2: ∀Y bv d4 d5:Abs.Obj,∀i,Nt π i->((((g.put (0::(b+20)::π) Y).put (0::(b+21)::π) bv).put (0::(b+20)::π) d4).put (0::(b+21)::π) d5).get i=g.get i:=fun Y bv d4 d5 i f=>by
    rw[get_put,get_put,get_put,get_put,f,f];rfl
   obtain⟨R,g2⟩: ∃R,R=DD p st.d8 (i+1) (st.d8.ce.drop (i+1)):=⟨_,rfl⟩;rw[<-g2]at f4;rw[f4.out]at K;refine Aq d.rules _ (S:=fun b6 k (a:AD×Nat×List Df)=>⟨[(0,.ptr m 0),(3,.ptr (0::0::π) 0),(6,.ptr (0::(b+20)::π) 0),(7,.ptr (0::(b+21)::π) 0),(13,CA.get [] 13),(40,.f8 W 0 st.d8.ce.length),(41,nI st.d8.ce.length),(42,nI i),(56,.d (.bv (d.rules.map BC))),(57,nI b6),(58,nI k),(102,CA.get [] 102),(103,CA.get [] 103),(104,CA.get [] 104),(105,CA.get [] 105),(106,CA.get [] 106),(107,CA.get [] 107),(108,CA.get [] 108),(109,CA.get [] 109)],a.1,a.2.1+36,a.2.2⟩)
    (Inv:=fun k bx a=>AH (StepsIn C M π h id (Fd I π M (a.2.1+36) (Cd st.d8 d gr i k bx++R)) a.1)/\a.1.get (0::(b+20)::π)=some (.box [nI i])/\a.1.get (0::(b+21)::π)=some (.box [nI gr.f9,nI gr.at_,.d (.bv (gr.env.map AN))])/\b<=a.2.1/\SV a.2.2) (b0:=(_,b,ds)) rfl ⟨⟨⟨?_,K.out.eat.mv z.out T.out (fun i f=>a2 _ _ _ _ i f) AU,fun i F N u=>(a2 _ _ _ _ i (AI u)).trans (K.out.frame i F N u)⟩⟩,?_,?_,Es _,bo⟩ ?_ ?_
   .dsimp only;rw[get_put,get_put,get_put,get_put,AF AG,AF AG];exact c9
   .simp only[go_sem,b1,gs]
   .simp only[go_sem,b1,gs]
   .clear f4 a2 K O c9 ea cs cx hj hb hc;clear J;clear bo ds;rintro k r ⟨a5,c,ds⟩ b5 jz h0 ⟨a3,x6,x7,hw,bo⟩ fd;dsimp only at*;have a1:=Mq a6 X.out cl av.out (AS b5);have J:=CM a7.out (h':=a5) fun i f=>a3.out.frame i (b2.out i f) (b4.out i f) (ac.out i f);have O:=J.box;simp only[BL]at O;have dq:=E6 (J.sl 1 AA);have r0:=a1.place.1;have ka:=a1.place.2;obtain⟨y,hyp⟩:=get_some (l:=st.d8.ac) (i:=(gr.place d r.at_).toNat) AA;obtain⟨S,km,f2,gv,i0,h7,h8⟩:=FV (J.sl 0 AA) hyp;have hi:=ac.out S (V.s_mem m (i:=0) AA (by rw[f2];simp[AE]));have cs:=AI hi;have cx:=Aj hi;have c1: ¬c+1=c:=AA;have c0: ¬c=c+1:=AA;have g9:=AB fun(H:AD) (n:Nat) (de:H.get m=a5.get m)=>Ov (ds:=p.defs) (g:=gr) (d:=d) (de.trans O) (AJ e8 n) gu bl (CC a6 bl).ok.be (CC a6 bl).ok.ac (JN av.out) (KB a6 av.out) r.at_ a1.at0 a1.at1;have c2: ¬c+20=b:=AA;have c3: ¬c+19=b:=AA;have c4: ¬c+21=b:=AA;have c5: ¬b=c+20:=AA;have c6: ¬b=c+19:=AA;have c7: ¬b=c+21:=AA;simp only[Dt]at gv;rw[f2]at O;have e5: ∀Y bv d4 d5:Abs.Obj,∀i,Nt π i->((((a5.put (0::(c+40)::π) Y).put (0::(c+41)::π) bv).put (0::(c+40)::π) d4).put (0::(c+41)::π) d5).get i=a5.get i:=fun Y bv d4 d5 i f=>by
     rw[get_put,get_put,get_put,get_put,f,f];rfl
    replace J:=AB J;replace a1:=AB a1;refine ax ?_;refine Dr (g9.out _ _ ?_) (fun Y g1 s=>?_)
    .simp only[go_sem,hs,AM]
    subst s;cases gi:y.dead with
    |true=>
     have h5:AH (Fd I π M (c+36) (Cd st.d8 d gr (i:Nat) (k+1) (d.rules.drop (k+1))++R) a5):=⟨by
      have:=a3.out.eat
      rwa [Cd,Ee,D4 (by rw[Ak,hyp];exact gi),BY,CE]at this⟩
     refine ax ?_;refine fd.out (_,c+23,ds) ⟨⟨⟨?_,h5.out.mv z.out T.out (fun i f=>e5 _ _ _ _ i f) AU,fun i F N u=>(e5 _ _ _ _ i (AI u)).trans (a3.out.frame i F N u)⟩⟩,?_,?_,AU,bo⟩
     .dsimp only;exact zDh
     .simp only[go_sem,x6,c0,c1,c2,c3,c4,c5,c6,c7]
     .simp only[go_sem,x7,c0,c1,c2,c3,c4,c5,c6,c7]
    |false=>
     refine ax ?_;obtain⟨c8,ek⟩: ∃c8,c8=((((a5.put (0::(c+40)::π) (.box [nI 0])).put (0::(c+41)::π) (.box [nI 0,.d7,nI 0])).put (0::(c+40)::π) (.box [nI k])).put (0::(c+41)::π) (.box [nI r.at_,.d (.bv (r.eq.map AL)),nI r.node])):=⟨_,rfl⟩;rw[<-ek];have f5: ∀i,Nt π i->c8.get i=a5.get i:=fun i f=>by rw[ek];exact e5 _ _ _ _ i f
     have f0:YJ C M π h id b c i k gr (Fd I π M (c+36) (Cd st.d8 d gr i k (r::d.rules.drop (k+1))++R)) c8:=by
      refine⟨⟨?_,a3.out.eat.mv z.out T.out (fun i f=>f5 i f) (Es _),fun i F N u=>(f5 i (AI u)).trans (a3.out.frame i F N u)⟩,?_,?_,?_⟩;all_goals rw[ek]
      .exact zDh
      .simp only[go_sem,x6,c0,c1,c2,c3,c4,c5,c6,c7]
      .simp only[go_sem,x7,c0,c1,c2,c3,c4,c5,c6,c7]
      .simp only[go_sem,c0,c1,c2,c3,c4,c5,c6,c7]
     have h1:AH (Ee st.d8 d gr r=CR (Bp st.d8 d gr r)):=⟨by rw[Ee,Ci (by rw[Ak,hyp,F3,GO,gi];simp)]⟩;clear f5 e5 O dq gv i0 h7 h8 cs cx hyp a3 x6 x7 ek g9 f2 gi;clear J;refine Aq r.eq _ (S:=fun b6 j (a:(AV×AD)×Nat)=>⟨[(0,.ptr m 0),(3,.ptr (0::0::π) 0),(6,.ptr (0::(b+20)::π) 0),(7,.ptr (0::(b+21)::π) 0),(8,.ptr (0::(c+40)::π) 0),(10,a.1.1),(13,CA.get [] 13),(40,.f8 W 0 st.d8.ce.length),(41,nI st.d8.ce.length),(42,nI i),(56,.d (.bv (d.rules.map BC))),(57,nI d.rules.length),(58,nI k),(77,.d (.bv (r.eq.map AL))),(78,nI b6),(79,nI j),(102,CA.get [] 102),(103,CA.get [] 103),(104,CA.get [] 104),(105,CA.get [] 105),(106,CA.get [] 106),(107,CA.get [] 107),(108,CA.get [] 108),(109,CA.get [] 109)],a.1.2,a.2+62,ds⟩)
      (Inv:=fun j bx a=>AH (YJ C M π h id b c i k gr (Fd I π M (c+36) (Cd st.d8 d gr i k (r::d.rules.drop (k+1))++R)) a.1.2)/\c<=a.2/\AH ((j=0/\a.1.1=.d7)\/ ∃n,0<j/\n<a.2+62/\a.1.1=.f8 (1::n::π) 0 j/\a.1.2.get (1::n::π)=some (.em 1 (((r.eq.take j).map fun q=>((Ld st.d8 (gr.own d true q):Nat):Int)).map AL)))) (b0:=((_,_),c)) rfl ⟨⟨f0⟩,Es _,⟨.inl ⟨rfl,rfl⟩⟩⟩ ?_ ?_
     .clear f0 fd a5 c8;rintro j q ⟨⟨v,b'⟩,e⟩ el dn g7 ⟨P,hx,ai⟩ gn;dsimp only at*;obtain⟨N,F,j',ch,g3,i6,d2⟩:=a1.out.join q (AS el);have J:=CM a7.out (h':=b') fun i f=>P.out.st.frame i (b2.out i f) (b4.out i f) (ac.out i f);have O:=J.box;simp only[BL]at O;obtain⟨e3,em,ga⟩:=J.be.row _ _ g3;have d0:=E6 ga;rw[As]at d0;have cc:=J.arr;rcases cc with⟨_,cc⟩|⟨A,cc,jd⟩
      .rw[cc]at em;simp at em
      have j3:=AK em;have hh:=ac.out A (V.v3_mem m (by rw[cc];simp[AE]));have cs:=AI hh;have cx:=Aj hh;rw[cc]at O;have x7:=P.out.x7;simp only[A6]at em;have g8:=AB fun(H:AD) (n:Nat) (de:H.get m=b'.get m)=>ZA (ds:=p.defs) (g:=gr) (d:=d) (de.trans O) (AJ e8 n) gu bl (CC a6 bl).ok.be (CC a6 bl).ok.ac (JN av.out) (KB a6 av.out) true q N zFE;have gg:AH (((r.eq.take (j+1)).map fun q=>((Ld st.d8 (gr.own d true q):Nat):Int))=((r.eq.take j).map fun q=>((Ld st.d8 (gr.own d true q):Nat):Int))++[(ch.queue.length:Int)]):=⟨by rw[GC,el];simp[d2]⟩;replace d2:=AB d2;replace J:=AB J;replace ga:=AB ga;rcases ai.out with⟨rfl,rfl⟩|⟨n,g6,bc,rfl,az⟩
      .clear ai;have g6:(0:Int)<r.eq.length:=g7
       (repeat' (first|simp only[go_sem, *,↓d0,AM]|(refine sx ?_ ?_<;>intro U)|refine sy AA fun x ad a0=>?_|simp(disch:=first|assumption|omega) only[AR]))
       refine Dr (g8.out _ _ rfl) (fun Y g1 s=>?_);subst s
       (repeat' (first|simp only[go_sem, *,↓d0,AM]|(refine sx ?_ ?_<;>intro U)|refine sy AA fun x ad a0=>?_|simp(disch:=first|assumption|omega) only[AR]))
       refine gn.out ((_,_),e+23) ⟨⟨P.out.loc z.out T.out fun x ad=>?_⟩,AU,⟨.inr ⟨e+81,AA,AU,rfl,?_⟩⟩⟩
       .dsimp only;rw[get_put,get_put,ad,ad];rfl
       .rw[gg.out];simp only[go_sem,Rt,BY,CE]
      .clear ai;obtain⟨L,eb⟩: ∃L,L=(r.eq.take j).map fun q=>((Ld st.d8 (gr.own d true q):Nat):Int):=⟨_,rfl⟩;have i7:L.length=j:=by rw[eb,As,F2];omega
       have i9:List.take j (L.map AL)=L.map AL:=Bi Aa;have i':j+1<=4:=by have:=a1.out.j1;omega
       have ho: ¬e+80=n:=AA;have hp: ¬n=e+80:=AA;have hq: ¬e+81=n:=AA;have hr: ¬n=e+81:=AA;rw[<-eb]at gg az;replace eb:=AB eb
       (repeat' (first|simp only[go_sem, *,↓d0,AM]|(refine sx ?_ ?_<;>intro U)|refine sy AA fun x ad a0=>?_|simp(disch:=first|assumption|omega) only[AR]))
       refine Dr (g8.out _ _ rfl) (fun Y g1 s=>?_);subst s
       (repeat' (first|simp only[go_sem, *,↓d0,AM]|(refine sx ?_ ?_<;>intro U)|refine sy AA fun x ad a0=>?_|simp(disch:=first|assumption|omega) only[AR]))
       refine gn.out ((_,_),e+23) ⟨⟨P.out.loc z.out T.out fun x ad=>?_⟩,AU,⟨.inr ⟨e+81,AA,AU,rfl,?_⟩⟩⟩
       .dsimp only;rw[get_put,get_put,get_put,ad,ad,ad];rfl
       .rw[gg.out];simp only[go_sem,BE,ho,hp,hq,hr]
     .clear f0;rintro j ⟨⟨v,b'⟩,e⟩ dn g7 ⟨P,hx,ai⟩;dsimp only at*;rcases ai.out with⟨rfl,rfl⟩|⟨n,g6,bc,rfl,az⟩
      .exact absurd a1.out.j0 (by have:=dn.out;omega)
      have f':AH (((r.eq.take j).map fun q=>((Ld st.d8 (gr.own d true q):Nat):Int))=(Bp st.d8 d gr r).map fun(n:Nat)=>(n:Int)):=⟨by rw[dn.out,D2,Bp,List.map_map];rfl⟩;rw[f'.out]at az;have dr:(Bp st.d8 d gr r).length=j:=by rw[Bp,As,dn.out]
      obtain⟨many,d1⟩: ∃many,many=Bp st.d8 d gr r:=⟨_,rfl⟩;rw[<-d1]at az dr;have kl:List.take j ((many.map fun(n:Nat)=>(n:Int)).map AL)=(many.map fun(n:Nat)=>(n:Int)).map AL:=Bi Aa;have g3:=Z9 (many.map fun(n:Nat)=>(n:Int)) (e+64) π;have j2:j<=many.length:=AA;replace dr:=AB dr;replace d1:=AB d1;replace f':=AB f';clear ai;refine ax ?_;refine pK fun r0 gb=>?_;have e1: ∀n,¬C (0::n::π):=fun n U=>by have:=b7.out _ U;rw[show Id.under π (0::n::π)=true from Ar [0,n]]at this;cases this
      obtain⟨d7,ag⟩: ∃d7:List (List Int)->(Abs.Id->Prop)->AD->Prop,d7=fun l bi g=>(YJ C M π h id b c i k gr (I ((l.map fun t=>⟨-1,i,k,t⟩)++(Cd st.d8 d gr i (k+1) (d.rules.drop (k+1))++R)) bi) g/\ ∀i,bi i->M i\/NH π (e+67) i)/\g.get (0::(e+65)::π)=some (.loop r0):=⟨_,rfl⟩;obtain⟨e',ar⟩: ∃e':A8->AD->Prop,e'=fun o g=>(o=.ret (.d (.bool (false)))/\D (.ret (.d (.bool (false)))) g/\g.get (0::(e+65)::π)=some (.loop {r0 with state:=.done,v6:=some .ret}))\/((∃v,o=.ge v)/\D o g):=⟨_,rfl⟩
      have fp:ND rf (0::(e+65)::π) (fun i=>C i\/i=0::(e+65)::π) d7 e' ((e+66)::π):=by
       refine⟨.inr rfl,fun i f=>?_,fun Q=>?_,fun Q=>?_,fun{x l bi H ρ v r} Q b5 ai be f1 g5=>?_,fun Q X=>?_,fun gz X=>?_⟩
       .rcases f with f|rfl
        .exact AJ (b7.out i f) _
        .exact Au π AA
       .rw[ag]at Q;exact z.out.tag Q.1.1.st.eat
       .rw[ag]at Q;exact⟨_,Q.2⟩
       .rw[ag]at Q;obtain⟨⟨P,O⟩,f9⟩:=Q;rw[f9]at b5;cases b5;have bs: ∀l,¬bi (0::l):=fun l f7=>by obtain⟨ex,h2⟩:=z.out.tag P.st.eat _ f7;cases h2
        have ix:=AH.mk (Y7 T.out O);have it:=AH.mk (vw O);replace bs:=AB bs;replace O:=AB O;replace f1:=AB f1;obtain⟨j1,rfl,hy,e0,rfl⟩:=ai;rw[By,Cs]at P;have dm:=g5 (1::e0) BH;have i3:=P.st.box;have i4:=P.x6;have i5:=P.x8;obtain⟨kb,h3⟩:=z.out.loop P.st.eat;have he: ¬e+65=b+20:=AA;have ih: ¬e+65=c+40:=AA;have hu:=AB fun(H':AD) (q: ∀i,Nt π i->H'.get i=H.get i)=>z.out.same P.st.eat fun i f=>q i (ix.out i f);have e7:Id.under ρ (0::(e+65)::π)=false:=be _ (Au π AA);replace P:=AB P;replace be:=AB be;subst gb;refine Hq rfl ?_;clear g5;replace ag:=AB ag;replace ar:=AB ar;refine ax ?_;refine Ad (z.out.eat (hu.out _ fun i f=>?_) (by simp only[go_sem,h6,h3,AM]) ⟨_,rfl,.inr ⟨1::e0,rfl,?_,e0,rfl⟩⟩ (fun i f=>AJ (be.out i (AJ f _)) _) (fun i f=>AJ (f1.out i f) _) (fun i f=>?_)) (fun Y g1 s=>?_)
        .have q:=f;rw[Nt]at q;exact zBf
        .rw[get_put,AF AG];exact hy
        .simp only[AE,A9,CE,CI,Ac]at f;subst f;exact⟨fun U=>dm.1 (.inl U),AJ dm.2.1 _,dm.2.2.out⟩
        have jj: ∀n,¬n=e+65-> ¬n=e+66-> ∀o,(H.put (0::(e+65)::π) o).get (0::n::π)=H.get (0::n::π):=fun n F u o=>by rw[get_put,AF Aa];rfl
        rcases s with⟨rfl,hk,s,cn,Z⟩|⟨gm,s,Z⟩
        .have c':=(An (6::ρ) g1 _ (AJ e7 _)).trans (Z _ (e1 _) (bs.out _) (by simp[AE,A9]) (AJ e7 _));replace cn:=AB cn;rw[get_put,is_self]at c';replace s:=AB s;replace Z:=AB Z;refine ax ?_;have fr: ∀o,∀i,¬C i-> ¬bi i-> ¬i=1::e0-> ¬i=0::(e+65)::π->Id.under ρ i=false->((gc (6::ρ) g1).put (0::(e+65)::π) o).get i=H.get i:=fun o i F N e3 u cp=>by
          rw[get_put,AF (fun e=>u e.symm),An _ _ _ (AJ cp _),Z.out i F N (by simpa[AE,A9]using e3) (AJ cp _),get_put,AF (fun e=>u e.symm)];rfl
         refine .inl ⟨rfl,hk,?_,fun en hz=>?_,fun en F N e3 u=>?_⟩
         rotate_left
         .rcases cn.out en hz with q|q|q
          .exact .inl q
          .exact .inr (.inl (by simpa[AE,A9]using q))
          .exact .inr (.inr q.out)
         rotate_left
         .rw[ag.out];refine⟨⟨P.out.mv ?_ (fun n bc=>fr _ _ (e1 n) (bs.out _) AG Aa (be.out _ (Au π AA))) fun i F N u=>fr _ _ F (it.out i N u) (fun e=>by rw[e,dm.2.2.out.up]at u;cases u) (fun e=>by rw[e,show Id.under π (0::_::π)=true from Ar [0,_]]at u;cases u) (be.out _ (AJ u _)),fun i f=>?_⟩,?_⟩
          .refine z.out.same s.out fun i f=>?_;rcases f with f|f
           .have q:=AI f;rw[get_put,q,An _ _ _ (AJ (be.out _ (AJ f _)) _)];rfl
           .obtain⟨ex,rfl⟩:=z.out.tag s.out i f;rw[get_put,AF AG,G5];rfl
          .rcases cn.out i f with q|q|q
           .exact O.out i q
           .simp only[AE,A9,CE,CI,Ac]at q;subst q;exact .inr ⟨e+66,AA,dm.2.2⟩
           .exact .inr ⟨e+66,AA,q.out.wide be.out⟩
          .rw[get_put,is_self];rfl
         .exact fr _ en (fun h=>F (.inl h)) N (by simpa[AE]using e3) (fun h=>F (.inr h)) u
        .have c':=(An (6::ρ) g1 _ (AJ e7 _)).trans (Z _ (Ar [0,e+65]) (AJ e7 _));rw[get_put,is_self]at c';have es: ∀j,Id.under ((e+66)::π) (0::j)=true->Id.under ρ (0::j)=false->(gc (6::ρ) g1).get (0::j)=H.get (0::j):=fun i F u=>by
          have cp:Id.is (0::(e+65)::π) (0::i)=false:=AF fun fk=>by rw[<-fk,Au π AA]at F;cases F
          rw[An _ _ _ (AJ u _),Z i (BM F) (AJ u _),get_put,cp];rfl
         have e4:=z.out.sameD (H':=gc (6::ρ) g1) s fun i f=>by
          rcases f with f|⟨l,rfl⟩
          .exact An _ _ _ (AJ (be.out _ (AJ f _)) _)
          .exact G5 _ _ _
         replace es:=AB es;replace e4:=AB e4;clear s Z;rcases gm with rfl|⟨v,rfl⟩
         .refine ax ?_;refine .inr ⟨.inl rfl,?_,fun i F u=>?_⟩
          .rw[ar.out];refine .inl ⟨rfl,z.out.sameD e4.out fun i f=>?_,by rw[get_put,is_self];rfl⟩;rw[get_put,show Id.is (0::(e+65)::π) i=false by
            rcases f with f|⟨l,rfl⟩
            .exact AI f _ _
            .exact AF AG]
           rfl
          .rw[get_put,AF fun fk=>by rw[<-fk,Au π AA]at F;cases F];exact es.out i F u
         .refine ax ?_;exact .inr ⟨.inr ⟨v,rfl⟩,by rw[ar.out];exact .inr ⟨⟨v,rfl⟩,e4.out⟩,es.out⟩
       .rw[ag]at Q⊢;obtain⟨⟨P,O⟩,f9⟩:=Q;have hg: ∀n,¬n=e+66->Id.under ((e+66)::π) (0::n::π)=false:=fun n bc=>Au π bc;exact⟨⟨P.mv (z.out.same P.st.eat fun i f=>X i (f.imp_left fun f=>AJ f _)) (fun n bc=>X _ (.inl (hg n AA))) fun i F _ u=>X i (.inl (AJ u _)),O⟩,(X _ (.inl (hg _ AA))).trans f9⟩
       .rw[ar]at gz⊢;have key: ∀o,D o _->D o _:=fun o av=>z.out.sameD av fun i f=>X i (f.imp_left fun f=>AJ f _);rcases gz with⟨dd,h2,bk⟩|⟨dd,h2⟩
        .exact .inl ⟨dd,key _ h2,(X _ (.inl (Au π AA))).trans bk⟩
        .exact .inr ⟨dd,key _ h2⟩
      obtain⟨hl,fv,ej⟩:=P.out.st.eat;have e2:=Y7 T.out ej;have e6:=z.out.tag fv;have fi:=fun(m:Nat) (a0:c+36<=m)=>Wa T.out ej a0;replace e2:=AB e2;replace e6:=AB e6;replace fi:=AB fi;have gf:d7 (CR many) hl ((0::0::(e+64)::π,Abs.Obj.box [.d (.bv ((many.map fun(n:Nat)=>(n:Int)).map AL))])::(b'.put (1::n::π) (Obj.i7 1 ((many.map fun(n:Nat)=>(n:Int)).map AL))).put (0::(e+65)::π) (.loop r0)):=by
       have N: ∀i,Id.is (1::n::π) i=false->Id.is (0::(e+65)::π) i=false->Id.is (0::0::(e+64)::π) i=false-> ∀o Y bv,AD.get ((0::0::(e+64)::π,o)::(b'.put (1::n::π) Y).put (0::(e+65)::π) bv) i=b'.get i:=fun i F u cp o Y bv=>by
        rw[CL,cp,get_put,u,get_put,F];rfl
       rw[ag];refine⟨⟨P.out.mv (z.out.same (by
        have:=fv;rw[Cd,h1.out,<-d1.out,DO]at this;exact this) fun i f=>?_) (fun ih j0=>?_) fun i _ _ f=>?_,fun i f=>(ej i f).imp_right fun q=>q.mono AA⟩,?_⟩
       .refine N i (e2.out i f _ _) (e2.out i f _ _) ?_ _ _ _;rcases f with f|f
        .exact AI (AJ f _) _ _
        .obtain⟨ex,rfl⟩:=e6.out i f;exact AF AG
       .exact N _ (AF AG) (AF Aa) (AF AG) _ _ _
       .exact N i (AI f _ _) (AI f _ _) (AI (AJ f _) _ _) _ _ _
       .rw[CL,AF AG,get_put,is_self];rfl
      have h9:0<many.length:=by have:=dr.out;omega
      have ia:many.length<=1000:=by have:=dr.out;have:=dn.out;have:=a1.out.j1;omega
      refine Sz (e9 h9 ia (fun n bc=>?_) fp (B:=0::0::(e+64)::π) ?_ ?_ ?_ (fun hv=>?_) (fi.out _ AA) gf) (fun Y d' s=>?_)
      .rw[d1.out,Bp]at bc;obtain⟨q,el,rfl⟩:=F1.1 bc;obtain⟨_,_,_,ch,_,ji,d2⟩:=a1.out.join q el;rw[d2];omega
      .rw[CL,is_self];rfl
      .cases ad:Id.under ((e+66)::π) (0::0::(e+64)::π)with
       |false=>rfl
       |true=>
        have:=B5 ad (n':=e+64) (under_iff.2 ⟨[0,0],rfl⟩);omega
      .rintro(U|U)
       .have:=b7.out _ U;rw[show Id.under π (0::0::(e+64)::π)=true from Ar [0,0,e+64]]at this;cases this
       .simp at U
      .obtain⟨ex,h2⟩:=e6.out _ hv;cases h2
      rcases s with⟨rfl,hm,s,ib,Z⟩|⟨rfl,s⟩|⟨⟨v,rfl⟩,s⟩
      .clear ib fv ej;rw[ag]at s;have c':=s.2;replace s:=AB s;replace Z:=AB Z;replace ag:=AB ag;replace ar:=AB ar;clear gf;clear fp;subst gb;refine ax ?_;have df:=s.out.1.1;have gw: ∀i,Id.under ((e+65)::π) i=false->Id.under ((e+66)::π) i=false->(gc ((e+65)::π) (gc ((e+66)::π) d')).get i=d'.get i:=fun i F u=>by rw[An _ _ _ F,An _ _ _ u]
       have fl: ∀n,n<=c+40->(gc ((e+65)::π) (gc ((e+66)::π) d')).get (0::n::π)=d'.get (0::n::π):=fun n bc=>gw _ (Au π AA) (Au π AA);refine fd.out (_,e+33,_) ⟨⟨⟨(fl _ AA).trans df.st.box,⟨hm,z.out.gcI (z.out.gcI df.st.eat _) _,fun i f=>(s.out.1.2 i f).imp_right fun q=>q.mono AU⟩,fun i F N u=>(gw i (AJ u _) (AJ u _)).trans (df.st.frame i F N u)⟩⟩,(fl _ AA).trans df.x6,(fl _ AA).trans df.x7,AU,by rw[U7];exact bo⟩
      .rw[ar]at s;rcases s with⟨_,s,c'⟩|⟨⟨v,ai⟩,_⟩
       .replace s:=AB s;replace ag:=AB ag;replace ar:=AB ar;clear gf;clear fp;subst gb;refine ax ?_;exact .inr (.inl ⟨rfl,z.out.gcD (z.out.gcD s.out _) _⟩)
       .cases ai
      .rw[ar]at s;rcases s with⟨ai,_⟩|⟨_,s⟩
       .cases ai
       .replace s:=AB s;refine ax ?_;exact .inr (.inr ⟨⟨v,rfl⟩,z.out.gcD (z.out.gcD s.out _) _⟩)
   .rintro k ⟨a5,c,ds⟩ b5 h0 ⟨a3,x6,x7,hw,bo⟩;dsimp only at*;have bk:=a3.out;rw[Cd,CE]at bk;replace bk:=AB bk;refine ax ?_;refine b8.out (_,c+23,_) ⟨⟨?_⟩,bo⟩;rw[<-g2];exact⟨bk.out.box,bk.out.eat.mv z.out T.out (fun _ _=>rfl) AU,bk.out.frame⟩
  .rintro i ⟨g,i2,ds⟩ f js ⟨K,bo⟩;dsimp only at*;rw[DD]at K;refine ax ?_;obtain⟨d8,dd,h2⟩:=K.out.eat;exact .inl ⟨rfl,d8,dd,fun i f=>(h2 i f).imp_right fun q=>q.up,K.out.frame⟩
end Go.Proofs
namespace Go.Proofs
open Abs
structure Tj(B:MV->Int->List AV)(cc:Bool)(p:AX)(sz:List Int)(π:List Nat)(m:Abs.Id)(V:MV)(h:AD)(st:CW)(d:CJ)(g:BA)(r:Gf)(t:List Int)(j b:Nat)(v:AV)(H:AD)(V':MV)(s':BU)(L:List Cm):Prop where
 run:Bu B cc π m V h b V' ⟨s',st.ev,0⟩ H
 env:Tg π H b v L
 out: ∀i∈AE v,i∉V'.ids m
 ne:L=[]->v=.d7
 qr:Fo p sz s'
 all:CF d g r.eq t st.d8=(L++(CF d g (r.eq.drop j) (t.drop j) s').1,(CF d g (r.eq.drop j) (t.drop j) s').2)
 ce:s'.ce=st.d8.ce
 ac:s'.ac=st.d8.ac
 nc:s'.be.length=st.d8.be.length
 rest: ∀(i:Nat) c k,j<=i->r.eq[i]? =some c->t[i]? =some k->0<=k/\ ∃q,s'.be[(g.own d true c).toNat]? =some q/\k.toNat<q.queue.length/\q.queue.length<=12/\ET p s' q=((d.be[c.toNat]?).map Ik.many).getD 0
 len:L.length<=30*j
abbrev TM(p:AX)(sz:List Int):=Tj (BL p sz) true p sz
variable{sz:List Int}{n a:Nat}{q:HD}{msg:List Cm}
def Y6{p:AX}{s:BU}{d:CJ}{c:Int}(g:PB d)(k:Fo p sz s)(j:s.be[n]? =some q)(i:q.queue[a]? =some msg)(h:ET p s q=((d.be[c.toNat]?).map Ik.many).getD 0):msg.length<=3:=by
 have b:=(k.que _ q j).msgs msg (AS i);simp only[Gb,AP,Ap]at b;rw[h]at b;cases e:d.be[c.toNat]? with
 |none=>
  rw[e]at b;simp only[Option.map_none,Option.getD_none]at b;omega
 |some ch=>
  rw[e]at b;have h2:=(g.chan ch (AS e)).2.2;have f:=b.1;simp only[F3,GO]at f;omega
variable{B:MV->Int->List AV}{cc:Bool}{π:List Nat}{m:Abs.Id}{V V':MV}{h H:AD}{b:Nat}{st:CW}
def Bu.oth{g:AD}(a:Bu B cc π m V h b V' st g){x:Abs.Id}(j:x∉V'.ids m)(k:Id.under π x=true)(c: ∀id,id≠x->H.get id=g.get id):Bu B cc π m V h b V' st H:=
 ⟨CM a.rep fun id i=>c id fun e=>j (e▸i),a.ids,fun id f h2=>by rw[c id fun e=>by rw[e,k]at h2;cases h2];exact a.frame id f h2⟩
def Bu.new{g:AD}(i:Bx π V m)(f:Bu B cc π m V h b V' st g)(a n:Nat)(e:b<=n):a::n::π∉V'.ids m:=fun c=>by
 have:=C4 (b':=0) i (f.ids _ c) a n e;rw[is_self]at this;cases this
variable{b':Nat}
def Ko{id:Abs.Id}(h:DX b b' π id=false)(a:b<=n)(h2:n<b'):Id.under (n::π) id=false:=by
 cases c:Id.under (n::π) id with
 |false=>rfl
 |true=>have:=E7.2 ⟨n,a,h2,c⟩;rw[h]at this;cases this
variable{t:List Int}{s':BU}{L:List Cm}{A:Abs.Id}{b1:Nat}
def S0{p:AX}{d:CJ}{g:BA}{r:Gf}{j:Nat}{v:AV}(f:Tj B cc p sz π m V h st d g r t j b v H V' s' L)(a2:Bx π V m)(ag:PB d){c:Int}{D:AV}(ad:r.eq[j]? =some c)(av:t[j]? =some (a:Int))(s:s'.be[(g.own d true c).toNat]? =some q)(C:q.queue[a]? =some msg)(a0:ET p s' q=((d.be[c.toNat]?).map Ik.many).getD 0)
 (Y:V'.v3=.f8 A 0 V'.rows.length) (a1:V'.rows[(g.own d true c).toNat]? =some (A6 q D)) (ai: ∀i n,j<i->r.eq[i]? =some n->(g.own d true n).toNat≠(g.own d true c).toNat)  (ac:b1<=b') (w vq:AV) (x G:AD) (u:Bu B cc π m V h b1 V' ⟨s',st.ev,0⟩ x) (O:G.get m=x.get m) (N:G.get A=some (.arr 4 (V'.rows.set (g.own d true c).toNat (A6 q vq)))) (Z:QC cc 2 G 1 vq ((CY q.queue a).map BJ)) (P:AE vq=AE D\/ ∀id∈AE vq,DX b1 b' π id=true/\ ∃l,id=1::l)
 (Q: ∀id,Id.is m id=false->Id.is A id=false->(∀i∈AE D,Id.is i id=false)->DX b1 b' π id=false->G.get id=x.get id) (ar:Tg π G b' w (L++msg)) (I: ∀i∈AE w,i∉V'.ids m/\DX b1 b' π i=false) (a3:L++msg=[]->w=.d7): ∃y a6 M,Tj B cc p sz π m V h st d g r t (j+1) b' w G y a6 M:=by
 have az:=AK C;obtain⟨y,bc,bi⟩:=u.step (b':=b') ac (N1 u.rep (u.apartB a2) Y s a1 (CY q.queue a) vq G (O.trans u.rep.box) N Z P Q);obtain⟨J,o,a7,a',K⟩:=dy f.qr s (k:=a) (by simpa using az);have e:HC s' (g.own d true c) a=(msg,{s' with be:=s'.be.set (g.own d true c).toNat {q with queue:=CY q.queue a}}):=by rw[HC,s];simp[C]
 rw[e]at J o a7 a' K;have bk:=Y6 ag f.qr s C a0;refine⟨y,_,L++msg,bc,ar,fun i z=>bi i (I i z).1 (I i z).2,a3,J,?_,o.ce.trans f.ce,o.ac.trans f.ac,o.len.trans f.nc,fun i n a4 z F R=>?_,by have:=f.len;rw[Be];omega⟩
 .rw[f.all,Ag ad,Ag av,CF,e,DO]
 .obtain⟨S,a5,T,U,W,X⟩:=f.rest i n a4 AA F R;refine⟨S,a5,by rw[K _ (ai i n AA F)];exact T,U,W,?_⟩;rw[<-X,ET,ET,o.ce]
def jF{p:AX}{d:CJ}{g:BA}{r:Gf}{j:Nat}{v:AV}(F:TM p sz π m V h st d g r t j b v H V' s' L)(ac:Bx π V m)(M:PB d){c:Int}{Q:Abs.Id}(K:r.eq[j]? =some c)(S:t[j]? =some (a:Int))(X:s'.be[(g.own d true c).toNat]? =some q)(l:q.queue[a]? =some msg)(U:ET p s' q=((d.be[c.toNat]?).map Ik.many).getD 0)
 (D:V'.v3=.f8 A 0 V'.rows.length) (Y:V'.rows[(g.own d true c).toNat]? =some (A6 q (.f8 Q 0 q.queue.length))) (N: ∀i k,j<i->r.eq[i]? =some k->(g.own d true k).toNat≠(g.own d true c).toNat)  (J:b1<=b') (e:AV) (f G:AD) (Z:G4 p sz π m V h b1 V' ⟨s',st.ev,0⟩ f) (u:G.get m=f.get m) (s:G.get A=some (.arr 4 (V'.rows.set (g.own d true c).toNat (A6 q (.f8 Q 0 (q.queue.length-1)))))) (w: ∃y,G.get Q=some (.em 1 ((q.queue.map BJ).take a++(q.queue.map BJ).drop (a+1)++y)))
 (x: ∀id,Id.is m id=false->Id.is A id=false->Id.is Q id=false->DX b1 b' π id=false->G.get id=f.get id) (O:Tg π G b' e (L++msg)) (W: ∀i∈AE e,i∉V'.ids m/\DX b1 b' π i=false) (ag:L++msg=[]->e=.d7): ∃o ai n,TM p sz π m V h st d g r t (j+1) b' e G o ai n:=by
 have T:=AK l;have P:(CY q.queue a).length=q.queue.length-1:=XE (by simpa using T);have R:(CY q.queue a).map BJ=(q.queue.map BJ).take a++(q.queue.map BJ).drop (a+1):=by rw[CY,BE,OK,Pp];rfl
 have I:KJ G 1 (.f8 Q 0 (q.queue.length-1)) ((CY q.queue a).map BJ):=by
  obtain⟨y,ad⟩:=w;exact .inr ⟨Q,y,by rw[As,P],by rw[R];exact ad⟩
 exact S0 F ac M K S X l U D Y N J e _ f G Z u s I (.inl rfl) (fun id b1 z B C=>x id b1 z (B Q BH) C) O W ag
def dx(d:CJ)(g:BA)(ks:List Int)(s:BU):CF d g [] ks s=([],s):=by
 rw[CF];intro c cs k ks e;cases e
def Bu.locU{g:AD}(j:Bx π V m)(a:Bu B cc π m V h b V' st g)(c: ∀id,(∀n,b<=n->Id.under (n::π) id=false)->H.get id=g.get id):Bu B cc π m V h b V' st H:=
 ⟨CM a.rep fun id f=>c id fun n i=>a.apart j i id f,a.ids,fun id e h2=>by rw[c id fun n _=>AJ h2 n];exact a.frame id e h2⟩
def QS{p:AX}(r:BP p sz){g:AD}(f:Bx π V m)(u:G4 p sz π m V h b V' st g)(c:Ky p sz 401 st){j:HF}(s:CT p sz st.d8 j)(H:AD)(n:Nat)(i:b<=n)(t: ∀id,(∀k,b<=k->Id.under (k::π) id=false)->H.get id=g.get id):
 ∃o g1,kT (.fn 66) [.ptr m 0,nI j.node,nI j.at_,.d (.bv (j.env.map AN))] H (n::π) true none=.ok (o,g1)/\G3 p sz π m V h (Eu p 401 j st) o (gc (n::π) g1)/\(o=.ret (.ii [])\/o=.ge (C5 3)):=by
 have e:=u.locU f t;obtain⟨o,g1,q,a⟩:=kJ r 401 H (n::π) m V' st j e.rep (e.apart f i) c.qr s c.w0 c.w1 c.w2 c.ev;refine⟨o,g1,q,?_⟩;cases l:Eu p 401 j st with
 |none=>rw[l]at a;exact⟨e.ge f i a,.inr a.1⟩
 |some w=>
  rw[l]at a;obtain⟨v,h2,_⟩:=e.call f i a;obtain⟨rfl,_⟩:=a;exact⟨h2.fin,.inl rfl⟩
def wk{p:AX}{sz:List Int}(J:BP p sz){h:AD}{π:List Nat}{m:Abs.Id}{V:MV}{st:CW}(bv:J4 p sz h m V st)(w:Bx π V m)(bc:Fo p sz st.d8){i k:Nat}{g:BA}{d:CJ}{r:Gf}{t:List Int}(N:st.d8.ce[i]? =some g)(h2:p.def? g.f9=some d)(cl:d.rules[k]? =some r)(gg:Ak st.d8.ac (g.place d r.at_)=false)(bs:Below (Bp st.d8 d g r) t)(g2:st.work=0)(ht:st.ev.length<=500000):
 ∃o h',kT (.fn 100) [.ptr m 0,M3 ⟨-1,i,k,t⟩] h π true none=.ok (o,h')/\G3 p sz π m V h (Eu p 401 ⟨r.node,g.place d r.at_,g.env++(CF d g r.eq t st.d8).1⟩ ⟨(CF d g r.eq t st.d8).2,st.ev++[⟨1,g.place d r.at_,i,k,(CF d g r.eq t st.d8).1⟩],0⟩) o h':=by
 obtain⟨hr,K⟩:=bc.grp i g N;have en:=K.f9;rw[h2]at en;cases en;obtain⟨em,Z⟩:=Fx K.f9;have hs:=AK Z;have hx:=AK cl;have a0:=Mq J bc N K (AS cl);have hu:=a0.j1;have hy:t.length=r.eq.length:=by have:=bs.len;rw[Bp,As]at this;exact this
 have b4:=bv.box;have c8:=w m (V.m_mem m);simp only[BL]at b4;have de:=AI c8;have ai:=Aj c8;obtain⟨W,i5,cp,dm,fs,e8,e'⟩:=FV (bv.sl 1 AA) N;have fr:=w W (V.s_mem m (i:=1) AA (by rw[cp];simp[AE]));have ej:=AI fr;have ek:=Aj fr;simp only[Dt]at dm;have e4:=bc.small;simp only[BU.small,AP,Ap]at e4;obtain⟨ix,fp,i0,i1⟩:=e4;have e0:=AB b4;rw[cp]at b4;have gs:AH (∀(a b:Nat) c a1,a<b->r.eq[a]? =some c->r.eq[b]? =some a1->(g.own d true a1).toNat≠(g.own d true c).toNat):=⟨fun a b c a1 gr de ai=>by
  have e3:=(CC J Z).ok.wn r (AS cl);simp only[B9,AP,Ap]at e3;have:=Pb rfl e3.2.2.2 b a a1 c (It _) gr ai de;obtain⟨B,F,_⟩:=a0.join c (AS de);obtain⟨fl,b6,_⟩:=a0.join a1 (AS ai);have:=Jo K.ws B F;have:=Jo K.ws fl b6;omega⟩
 have a':=AH.mk (RB J bc N h2 cl gg bs);replace bv:=AB bv;replace w:=AB w;replace bc:=AB bc;replace K:=AB K;replace bs:=AB bs;replace a0:=AB a0;replace cp:=AB cp;refine BR Tryz.func100 ?_;refine ax ?_;refine Aq r.eq _ (S:=fun hd j (a:(AV×AD)×Nat)=>⟨[(0,.ptr m 0),(3,.ptr (0::0::π) 0),(4,.ptr (0::10::π) 0),(5,.ptr (0::26::π) 0),(6,a.1.1),(35,.d (.bv (r.eq.map AL))),(36,nI hd),(37,nI j)],a.1.2,a.2+33,[]⟩)
  (Inv:=fun j it a=>AH (∃V' s' L,TM p sz π m V h st d g r t j (a.2+33) a.1.1 a.1.2 V' s' L)/\a.1.2.get (0::0::π)=some (.box [nI (-1),nI i,nI k,.d (.bv (t.map AL))])/\a.1.2.get (0::10::π)=some (.box [nI g.f9,nI g.at_,.d (.bv (g.env.map AN))])/\a.1.2.get (0::26::π)=some (.box [nI r.at_,.d (.bv (r.eq.map AL)),nI r.node])) (b0:=((_,_),0)) rfl ⟨⟨V,st.d8,[],?_⟩,?_,?_,?_⟩ ?_ ?_
 .refine⟨⟨CM (h:=h) ?_ fun id d0=>?_,fun id d0=>.inl d0,fun id _ O=>?_⟩,.inl ⟨rfl,rfl⟩,BH,fun _=>rfl,bc.out,?_,rfl,rfl,rfl,fun g6 c e5 _ bo df=>?_,AG⟩
  .have:=bv.out
   rwa [show st=⟨st.d8,st.ev,0⟩ by rw[<-g2]]at this
  .have B:=AI (w.out id d0);simp only[go_sem,B,AM]
  .have B:=AI O;simp only[go_sem,B,AM]
  .simp
  .obtain⟨B,F,fl,q,b6,hk,hl⟩:=a0.out.join c (AS bo);obtain⟨b1,bl⟩:=QI bs.out g6 _ e5 (by rw[Bp,D7,bo];rfl) df;have bl:e5<(Ld st.d8 (g.own d true c):Nat):=bl;rw[hl]at bl;refine⟨b1,q,b6,AA,hk,?_⟩;obtain⟨ch,dq⟩:=get_some (l:=d.be) (i:=c.toNat) AA;obtain⟨ih,g1,cc,gf,_⟩:=K.out.be _ ch dq;have:=Jo K.out.ws B F;rw[show(g.own d true c).toNat=(Hn p (st.d8.ce.take i)).1+c.toNat by omega,g1]at b6;cases b6;rw[Mi N h2 dq cc gf,dq];rfl
 .simp only[go_sem]
 .simp only[go_sem]
 .simp only[go_sem]
 .clear b4 dm fs e8 e' ej ek e0;rintro j c ⟨⟨v,H⟩,b⟩ cx d1 gu ⟨s,e6,c6,c7⟩ b7;dsimp only at*;obtain⟨V',s',L,s⟩:=s.out;have b2:=s.run.rep;have ac:=b2.box;simp only[BL]at ac;obtain⟨d8,ex⟩:=get_some (l:=t) (i:=j) AA;obtain⟨hz,q,d4,bi,hw,e1⟩:=s.rest j c d8 (Es _) cx ex;obtain⟨a,rfl⟩: ∃a:Nat,d8=a:=⟨d8.toNat,AA⟩;rw[F7]at bi;obtain⟨f7,c',ib,_⟩:=a0.out.join c (AS cx);obtain⟨im,ad,g0⟩:=b2.be.row _ _ d4;rcases b2.arr with⟨_,Y⟩|⟨A,Y,a2⟩
  .rw[Y]at ad;simp at ad
  have h1:=AK ad;rcases g0 with⟨_,g5⟩|⟨Q,zs,rfl,a4⟩
  .rw[D5.1 g5]at bi;simp at bi
  rw[As]at ad;obtain⟨msg,c4⟩:=get_some (l:=q.queue) (i:=a) bi;have c1:=s.run.ids A (V'.v3_mem m zEu);have c2:=s.run.ids Q (V'.row_mem m (CS.2 ⟨_,AS ad,by rw[Bs];simp[AE]⟩));have c3:=s.run.ids m (V'.m_mem m);have b3:=s.run.apart w.out (n:=b+81) AA;have i4:=b3 A (V'.v3_mem m zEu);have eb:=b3 Q (V'.row_mem m (CS.2 ⟨_,AS ad,by rw[Bs];simp[AE]⟩));have hm:=b3 m (V'.m_mem m);have fd:=C4 (b':=0) w.out c1;have h6:=En w.out c1;have fi:=C4 (b':=0) w.out c2;have h9:=En w.out c2;have h7:=C4 (b':=0) w.out c3;have h8:=En w.out c3;have f5: ∀k,Id.is A (0::k::π)=false:=fun k=>AF fun e=>Dv s.run w.out k (by rw[<-e];exact V'.v3_mem m zEu);have f6: ∀k,Id.is Q (0::k::π)=false:=fun k=>AF fun e=>Dv s.run w.out k (by rw[<-e];exact V'.row_mem m (CS.2 ⟨_,AS ad,by rw[Bs];simp[AE]⟩));have fv:Id.is A Q=false:=Fi a2 a4;have hp:Id.is Q A=false:=Fi a4 a2;have f0:Id.is A m=false:=Fi a2 ac;have h3:Id.is m A=false:=Fi ac a2;have f2:Id.is Q m=false:=Fi a4 ac;have h4:Id.is m Q=false:=Fi ac a4;have hv:=Y6 (CC J Z).ok s.qr d4 c4 e1;have gz:=AH.mk (jF s w.out (CC J Z).ok cx ex d4 c4 e1 Y ad (fun i a1 D ai=>gs.out j i c a1 D cx ai) (b1:=b+81) (b':=b+54+33) AA);have d7:=AB ad;replace c1:=AB c1;replace c2:=AB c2;replace c3:=AB c3;replace b3:=AB b3;have d3:=AB fun(H':AD) (n:Nat) (a6:H'.get m=H.get m)=>ZA (ds:=p.defs) (g:=g) (d:=d) (a6.trans ac) (AJ c8 n) em Z (CC J Z).ok.be (CC J Z).ok.ac (JN K.out) (KB J K.out) true c f7 (by simpa using c');rw[Y]at ac;simp only[A6]at ad;replace b2:=AB b2;replace s:=AB s;have c0:AH (∀(C g1:AD) (bk:AV),G4 p sz π m V h (b+81) V' ⟨s',st.ev,0⟩ C->C.get A=some (.arr 4 V'.rows)->(∀k,C.get (0::k::π)=H.get (0::k::π))->(∃y,g1.get Q=some (.em 1 (List.take a (q.queue.map BJ)++List.drop (a+1) (q.queue.map BJ)++y)))->(∀i,Id.is Q i=false->g1.get i=C.get i)->Tg π C (b+81) bk (L++msg)->(∀i∈AE bk,i∉V'.ids m/\DX (b+81) (b+54+33) π i=false)->(L++msg=[]->bk=.d7)->
     AH (∃c9 fp f1,TM p sz π m V h st d g r t (j+1) (b+54+33) bk ((gc ((b+81)::π) g1).put A (.arr 4 (V'.rows.set (g.own d true c).toNat [nI q.group,nI q.index,nI q.at_,.f8 Q 0 (q.queue.length-1)]))) c9 fp f1)/\((gc ((b+81)::π) g1).put A (.arr 4 (V'.rows.set (g.own d true c).toNat [nI q.group,nI q.index,nI q.at_,.f8 Q 0 (q.queue.length-1)]))).get (0::0::π)=some (.box [nI (-1),nI i,nI k,.d (.bv (t.map AL))])/\((gc ((b+81)::π) g1).put A (.arr 4 (V'.rows.set (g.own d true c).toNat [nI q.group,nI q.index,nI q.at_,.f8 Q 0 (q.queue.length-1)]))).get (0::10::π)=some (.box [nI g.f9,nI g.at_,.d (.bv (g.env.map AN))])/\((gc ((b+81)::π) g1).put A (.arr 4 (V'.rows.set (g.own d true c).toNat [nI q.group,nI q.index,nI q.at_,.f8 Q 0 (q.queue.length-1)]))).get (0::26::π)=some (.box [nI r.at_,.d (.bv (r.eq.map AL)),nI r.node])):=⟨fun C g1 bk c' a1 f8 f9 f' dd el ga=>by
   have a3: ∀i,Id.is A i=false->Id.is Q i=false->Id.under ((b+81)::π) i=false->((gc ((b+81)::π) g1).put A (.arr 4 (V'.rows.set (g.own d true c).toNat [nI q.group,nI q.index,nI q.at_,.f8 Q 0 (q.queue.length-1)]))).get i=C.get i:=fun i hj B F=>by rw[get_put,hj,Ci AG,An _ _ _ F,f' i B]
   have bx: ∀k,¬k=b+81->((gc ((b+81)::π) g1).put A (.arr 4 (V'.rows.set (g.own d true c).toNat [nI q.group,nI q.index,nI q.at_,.f8 Q 0 (q.queue.length-1)]))).get (0::k::π)=H.get (0::k::π):=fun k gv=>(a3 _ (f5 k) (f6 k) (Au π gv)).trans (f8 k);refine⟨⟨gz.out bk C _ c' (a3 m f0 f2 hm) ?_ (f9.imp fun y g4=>?_) (fun id b1 bl f3 f4=>a3 id bl f3 (Ko f4 AA AA)) ?_ el ga⟩,(bx 0 AA).trans e6,(bx 10 AA).trans c6,(bx 26 AA).trans c7⟩
   .rw[get_put,is_self];rfl
   .rw[get_put,fv,Ci AG,An _ _ _ eb];exact g4
   .rcases dd with dd|⟨l,e7,g7,n,h0,g8,g9⟩
    .exact .inl dd
    .refine .inr ⟨l,e7,?_,n,AA,g8,g9⟩;have R:=el l (by rw[e7];simp[AE]);have gi:Id.is A l=false:=AF fun e=>R.1 (e▸V'.v3_mem m zEu);have gn:Id.is Q l=false:=AF fun e=>R.1 (e▸V'.row_mem m (CS.2 ⟨_,AS d7.out,by rw[Bs];simp[AE]⟩));rw[a3 l gi gn (Ko R.2 AA AA)];exact g7⟩
  rcases s.out.env with⟨rfl,rfl⟩|⟨z,rfl,es,n,d2,M,R⟩
  .refine ax ?_;refine Dr (d3.out _ _ rfl) (fun ag g1 f=>?_);subst f;have hc:a<q.queue.length+zs.length:=AA;have hn:IntKind.i64.wrap ((a:Int)+1)=(a:Int)+1:=wrap_id AA AA;have hg:(q.queue.map BJ++zs)[a]? =some (BJ msg):=by rw[Ce (by simpa using bi),D7,c4];rfl
   have az:=fun(C:AD) (a6:C.get Q=some (.em 1 (q.queue.map BJ++zs)))=>QN (π:=(b+81)::π) a6 eb (n:=q.queue.length) (a:=a) AG AA (by intro e T;obtain⟨x,_,rfl⟩:=F1.1 T;rfl) AA;replace az:=AB az;by_cases X:msg=[]
   .subst X;refine ax ?_;refine Ad (az.out _ ?_) (fun ag g1 f=>?_)
    .simp only[go_sem,a4]
    obtain⟨rfl,f,u⟩:=f;have I:=c0.out H g1 .d7 (s.out.run.up AA) a2 (fun _=>rfl) f u (.inl ⟨rfl,rfl⟩) (fun i D=>by simp[AE]at D) (fun _=>rfl);replace I:=AB I;have a3: ∀i,Id.is Q i=false->Id.under ((b+81)::π) i=false->(gc ((b+81)::π) g1).get i=H.get i:=fun i B F=>by rw[An _ _ _ F,u i B]
    replace f:=AB f;replace u:=AB u;refine ax ?_;exact b7.out ((_,_),b+54) I.out
   .have ap:=TP (sz:=2) (msg.map AN) (by simpa using X) (by intro e T;obtain⟨x,_,rfl⟩:=F1.1 T;rfl) AZ Aa;simp only[As]at ap;replace X:=AB X;refine ax ?_;refine Ad (az.out _ ?_) (fun ag g1 f=>?_)
    .simp only[go_sem,a4,fi]
    obtain⟨rfl,f,u⟩:=f;have I:=c0.out (H.put (1::(b+63)::π) (.em 2 (msg.map AN))) g1 (.f8 (1::(b+63)::π) 0 msg.length) ((s.out.run.up (b':=b+63) AA).loc w.out (fun id O=>by rw[get_put,O 1 (b+63) AA];rfl)|>.up AA) (by simp only[go_sem,a2,fd]) (fun k=>by simp only[go_sem]) f u (Ha AA rfl zFI) (fun i D=>⟨zFC,zE6⟩) (fun e=>absurd (Jp.1 e).2 X.out);replace I:=AB I;have a3: ∀i,Id.is Q i=false->Id.under ((b+81)::π) i=false->(gc ((b+81)::π) g1).get i=(H.put (1::(b+63)::π) (.em 2 (msg.map AN))).get i:=fun i B F=>by rw[An _ _ _ F,u i B]
    replace f:=AB f;replace u:=AB u;refine ax ?_;exact b7.out ((_,_),b+54) I.out
  .obtain⟨bo,df,gb,b8⟩:=Cn d2 M R;have P:=s.out.out z BH;have g':Id.is z A=false:=AF fun e=>P (e▸V'.v3_mem m zEu);have ho:Id.is A z=false:=AF fun e=>P (e▸V'.v3_mem m zEu);have ha:Id.is z Q=false:=AF fun e=>P (e▸V'.row_mem m (CS.2 ⟨_,AS d7.out,by rw[Bs];simp[AE]⟩));have hq:Id.is Q z=false:=AF fun e=>P (e▸V'.row_mem m (CS.2 ⟨_,AS d7.out,by rw[Bs];simp[AE]⟩));have hb:Id.is z m=false:=AF fun e=>P (e▸V'.m_mem m);have hf:Id.is m z=false:=AF fun e=>P (e▸V'.m_mem m);have gm:=s.out.len;have hc:a<q.queue.length+zs.length:=AA;have hn:IntKind.i64.wrap ((a:Int)+1)=(a:Int)+1:=wrap_id AA AA;have hg:(q.queue.map BJ++zs)[a]? =some (BJ msg):=by rw[Ce (by simpa using bi),D7,c4];rfl
   have az:=fun(C:AD) (a6:C.get Q=some (.em 1 (q.queue.map BJ++zs)))=>QN (π:=(b+81)::π) a6 eb (n:=q.queue.length) (a:=a) AG AA (by intro e T;obtain⟨x,_,rfl⟩:=F1.1 T;rfl) AA;replace az:=AB az;replace M:=AB M;replace R:=AB R;by_cases X:msg=[]
   .subst X;refine ax ?_;refine Dr (d3.out _ _ rfl) (fun ag g1 f=>?_);subst f;refine ax ?_;refine Ad (az.out _ ?_) (fun ag g1 f=>?_)
    .simp only[go_sem,a4]
    obtain⟨rfl,f,u⟩:=f;have I:=c0.out H g1 (.f8 z 0 L.length) (s.out.run.up AA) a2 (fun _=>rfl) f u (.inr ⟨z,AG,by rw[es,CI],n,AA,M.out,R.out⟩) (fun i D=>by simp only[AE,Ac]at D;subst D;exact⟨P,Kn (n:=n) AA M.out⟩) (fun e=>by have:=s.out.ne (Jp.1 e).1;cases this);replace I:=AB I;have a3: ∀i,Id.is Q i=false->Id.under ((b+81)::π) i=false->(gc ((b+81)::π) g1).get i=H.get i:=fun i B F=>by rw[An _ _ _ F,u i B]
    replace f:=AB f;replace u:=AB u;refine ax ?_;exact b7.out ((_,_),b+54) I.out
   .have ap:=QF (sz:=2) (id:=z) (L.map AN) (msg.map AN) (by simpa using X) (by intro e T;obtain⟨x,_,rfl⟩:=F1.1 T;rfl) AZ Aa L.length AG;simp only[As]at ap;replace X:=AB X;refine ax ?_;refine Dr (d3.out _ _ rfl) (fun ag g1 f=>?_);subst f;refine ax ?_;refine Ad (az.out _ ?_) (fun ag g1 f=>?_)
    .simp only[go_sem,a4,fi,ha]
    obtain⟨rfl,f,u⟩:=f;obtain⟨C,a7⟩: ∃C,C=(H.put z (.i7 0 [])).put (1::(b+63)::π) (.em 2 (L.map AN++msg.map AN)):=⟨_,rfl⟩;have ia:=bo 1 (b+63) AA;have d5:=(s.out.run.oth (H:=H.put z (.i7 0 [])) P (BM M.out) fun id e=>by rw[get_put,AF fun ai=>e ai.symm];rfl).up (b':=b+63) AA;have d6:=(d5.loc w.out (H:=C) fun id O=>by rw[a7,get_put,O 1 (b+63) AA];rfl).up (b':=b+81) AA;have I:=c0.out C g1 (.f8 (1::(b+63)::π) 0 (L.length+msg.length)) d6 (by rw[a7,get_put,fd _ _ AA,get_put,g'];exact a2) (fun k=>by rw[a7,get_put,AF AG,get_put,b8];rfl) f (fun i D=>by rw[a7];exact u i D) (Ha AA AG (by rw[a7,get_put,is_self,BE];rfl)) (fun i D=>⟨zFC,zE6⟩) (fun e=>absurd (Jp.1 e).2 X.out);replace I:=AB I;have a3: ∀i,Id.is Q i=false->Id.under ((b+81)::π) i=false->(gc ((b+81)::π) g1).get i=((H.put z (.i7 0 [])).put (1::(b+63)::π) (.em 2 (L.map AN++msg.map AN))).get i:=fun i B F=>by rw[An _ _ _ F,u i B]
    replace f:=AB f;replace u:=AB u;replace a7:=AB a7;replace d5:=AB d5;replace d6:=AB d6;refine ax ?_;exact b7.out ((_,_),b+54) I.out
 .clear b4 dm fs e8 e' ej ek e0;rintro j ⟨⟨v,H⟩,b⟩ d1 gu ⟨s,e6,c6,c7⟩;dsimp only at*;obtain⟨V',s',L,s⟩:=s.out;have ac:=s.run.rep.box;simp only[BL]at ac;have e2:=AB fun(H':AD) (n:Nat) (a6:H'.get m=H.get m)=>Ov (ds:=p.defs) (g:=g) (d:=d) (a6.trans ac) (AJ c8 n) em Z (CC J Z).ok.be (CC J Z).ok.ac (JN K.out) (KB J K.out) r.at_ a0.out.at0 a0.out.at1;have cs:=s.all;have a':=a'.out;rw[d1.out,T8,dx,CI]at cs;rw[cs]at a'⊢;replace a':=AB a';replace s:=AB s;replace cs:=AB cs;rcases s.out.env with⟨rfl,rfl⟩|⟨z,rfl,es,n,d2,M,R⟩
  .refine ax ?_;refine EG (e2.out _ _ ?_) (fun ag g1 f=>?_)
   .simp only[go_sem]
   subst f;refine ax ?_;refine Ad (Kc (V:=V') (st:=⟨s',st.ev,0⟩) (Ek s.out.run.rep (s.out.run.apart w.out (n:=b+47) AA) ?_) (s.out.run.apart w.out AA) 1 (g.place d r.at_) i k [] AG AU) (fun ag g1 f=>?_)
   .intro id b;rfl
   obtain⟨c9,av,_⟩:=s.out.run.call w.out (n:=b+47) AA f;have d9:=(s.out.run.box w.out (k:=10) AA f).trans c6;have he:=(s.out.run.box w.out (k:=26) AA f).trans c7;obtain rfl:=f.1;have dn:=av.rep.box;simp only[BL]at dn;replace av:=AB av;replace f:=AB f;have dr:=KB J K.out;obtain⟨E,ar⟩: ∃E,E=g.env:=⟨_,rfl⟩;rw[<-ar]at d9 dr⊢;have N:=LO E AA;have U:=AB fun C=>QS J w.out av.out (j:=⟨r.node,g.place d r.at_,E++[]⟩) ⟨s.out.qr,AU,AU,AU,Aa⟩ (by rw[ar];exact a'.out.2) C (b+57) AA;simp only[CI]at U;replace ar:=AB ar;by_cases a5:E.length=0;all_goals
    (first|(obtain rfl:=BI a5;simp only[List.length_nil,DV,BY]at N)|simp only[ED a5]at N);have fa:=B7
    refine ax ?_;refine Cv (U.out _ fun id O=>?_) (fun fk cc u=>?_)
    .first|rfl|(have B:=AF (a:=1::0::2::(b+54)::π) (b:=id) fun e=>zEp;simp only[go_sem,B,AM])
    obtain⟨u,b5⟩:=u;replace u:=AB u;rcases b5 with rfl|rfl;all_goals
     refine ax ?_;exact u.out
  .obtain⟨bo,df,gb,b8⟩:=Cn d2 M R;have P:=s.out.out z BH;have hb:Id.is z m=false:=AF fun e=>P (e▸V'.m_mem m);have hf:Id.is m z=false:=AF fun e=>P (e▸V'.m_mem m);have gm:L.length<=90:=by have:=s.out.len;have:=d1.out;omega
   have ul:Id.under ((b+47)::π) z=false:=by
    cases g3:Id.under ((b+47)::π) z with
    |false=>rfl
    |true=>have:=B5 M g3;omega
   have c5:=AH.mk (s.out.run.oth (H:=H.put z (.i7 2 (L.map AN))) P (BM M) fun id e=>by rw[get_put,AF fun ai=>e ai.symm];rfl);replace M:=AB M;replace R:=AB R;refine ax ?_;refine EG (e2.out _ _ ?_) (fun ag g1 f=>?_)
   .simp only[go_sem]
   subst f;refine ax ?_;have gw:=Ek c5.out.rep (s.out.run.apart w.out (n:=b+47) AA) (h':=H.put z (.i7 2 (L.map AN))) fun _ _=>rfl;refine Ad (Kc (V:=V') (st:=⟨s',st.ev,0⟩) gw (s.out.run.apart w.out AA) 1 (g.place d r.at_) i k L AA AU) (fun ag g1 f=>?_);obtain⟨c9,av,_⟩:=c5.out.call w.out (n:=b+47) AA f;have d9:=(c5.out.box w.out (k:=10) AA f).trans ((show(H.put z (.i7 2 (L.map AN))).get (0::10::π)=H.get (0::10::π) by rw[get_put,b8];rfl).trans c6);have he:=(c5.out.box w.out (k:=26) AA f).trans ((show(H.put z (.i7 2 (L.map AN))).get (0::26::π)=H.get (0::26::π) by rw[get_put,b8];rfl).trans c7);have h5:=(Xb f P ul).trans (show(H.put z (.i7 2 (L.map AN))).get z=some (.i7 2 (L.map AN)) by rw[get_put,is_self];rfl);obtain rfl:=f.1;have dn:=av.rep.box;simp only[BL]at dn;replace av:=AB av;replace f:=AB f;have dr:=KB J K.out;obtain⟨E,ar⟩: ∃E,E=g.env:=⟨_,rfl⟩;rw[<-ar]at d9 dr⊢;have N:=LO E AA;have U:=AB fun C=>QS J w.out av.out (j:=⟨r.node,g.place d r.at_,E++L⟩) ⟨s.out.qr,AU,AU,AU,Aa⟩ (by rw[ar];exact a'.out.2) C (b+57) AA;replace ar:=AB ar;by_cases cn:L=[]
   .have:=s.out.ne cn;cases this
   .have be: ¬L.map AN=[]:=by simpa using cn
    have i2:List.take L.length ((L.map AN).map fun x=>x.map AV.d)=(L.map AN).map fun x=>x.map AV.d:=Bi AG;have d': ∀l,Id.is (l++(b+54)::π) z=false:=fun l=>AF fun e=>by
     have:=B5 (n:=n) (n':=b+54) M.out (by rw[<-e];exact Ar l);omega
    have ea: ∀l,Id.is z (l++(b+54)::π)=false:=fun l=>AF fun e=>by
     have:=B5 (n:=n) (n':=b+54) M.out (by rw[e];exact Ar l);omega
    have hh:=d' [1,0,2];have hi:=ea [1,0,2];simp only[Cs,CE]at hh hi;have i3:List.take (E.length+L.length) (E.map AN++L.map AN)=E.map AN++L.map AN:=Bi AG;replace d':=AB d';replace ea:=AB ea;replace cn:=AB cn;by_cases a5:E.length=0
    .have ap:=TP (sz:=2) (L.map AN) be (by intro e T;obtain⟨x,_,rfl⟩:=F1.1 T;rfl) AZ Aa;simp only[As]at ap;replace be:=AB be
     (first|(obtain rfl:=BI a5;simp only[List.length_nil,DV,BY]at N)|simp only[ED a5]at N);have fa:=B7
     simp only[CE]at U⊢;refine ax ?_;refine Cv (U.out _ fun id O=>?_) (fun fk cc u=>?_)
     .exact zAd
     obtain⟨u,b5⟩:=u;replace u:=AB u;rcases b5 with rfl|rfl;all_goals
      refine ax ?_;exact u.out
    .have ap:=QF (sz:=2) (id:=1::0::2::(b+54)::π) (E.map AN) (L.map AN) be (by intro e T;obtain⟨x,_,rfl⟩:=F1.1 T;rfl) AZ Aa E.length AG;simp only[As]at ap;replace be:=AB be
     (first|(obtain rfl:=BI a5;simp only[List.length_nil,DV,BY]at N)|simp only[ED a5]at N);have fa:=B7
     have U:=U.out;simp only[BE]at U;replace U:=AB U;refine ax ?_;refine Cv (U.out _ fun id O=>?_) (fun fk cc u=>?_)
     .exact zAd
     obtain⟨u,b5⟩:=u;replace u:=AB u;rcases b5 with rfl|rfl;all_goals
      refine ax ?_;exact u.out
end Go.Proofs
namespace Go.Abs
def cg(a:TypeId->Option TI)(g:G)(i:TI)(id:Id)(off n:Nat)(c:0<n)(b:i.kind=.slice):Hc a g (some i) (.f8 id off n)=fA g id off n (a i.elem):=by
 obtain⟨m,rfl⟩: ∃m,n=m+1:=⟨n-1,AA⟩;unfold Hc;simp only[b];cases a i.elem<;>rfl
def tA{h h':AD}{id:Id}{o:Obj}(a:h.get id=some o)(h2:Obj.same o (h'.get id)=true):(W7 h h').all (fun y=> !Id.is id y)=true:=by
 rw[D3];intro y c;rw[AF]
 .rfl
 .intro e;subst e;obtain⟨p,b,rfl⟩:=F1.1 c;have:=(RS.1 b).2;rw[a]at this;simp only[h2]at this;cases this
end Go.Abs
namespace Go.Proofs
open Abs
structure PJ(h:AD)(π:List Nat)(m bx S:Abs.Id)(L:List Bl):Prop where
 gb:h.get bx=some (.box [.ptr m 0])
 gm: ∃x1 x2 x3 x4 x5 x6 x7 x8 x9 x10 x11 x12,h.get m=some (.box [.f8 S 0 L.length,x1,x2,x3,x4,x5,x6,x7,x8,x9,x10,x11,x12])
 gS: ∃y,h.get S=some (.em 2 (L.map Aw++y))
 ub:Id.under π bx=false
 um:Id.under π m=false
 uS:Id.under π S=false
variable{h:AD}{π:List Nat}{m bx S:Abs.Id}{L:List Bl}
def PJ.up{h':AD}{ρ:List Nat}(a:PJ h π m bx S L)(b: ∀i,Id.under π i=false->i=bx\/i=m\/i=S->h'.get i=h.get i)(c: ∀i,Id.under π i=false->Id.under ρ i=false):PJ h' ρ m bx S L:=by
 refine⟨(b _ a.ub AG).trans a.gb,?_,?_,c _ a.ub,c _ a.um,c _ a.uS⟩
 .rw[b _ a.um AG];exact a.gm
 .rw[b _ a.uS AG];exact a.gS
def kD(c:PJ h π m bx S L)(w:Gg)(b:FT L w.at_):
 ∃o h',kT (.fn 163) [.agg [nI w.at_,nI w.node,.d (.bv (w.env.map AN))],.ptr bx 0] h π true (some π)=.ok (o,h')/\o=.ret (.d (.bool (Ak L w.at_))):=by
 obtain⟨s,⟨x1,x2,x3,x4,x5,x6,x7,x8,x9,x10,x11,x12,t⟩,⟨y,r⟩,g,j,k⟩:=c;have n:=AI g;have p:=AI j;have q:=AI k;have x:=b.1;have z:=b.2;obtain⟨sp,a⟩:=get_some (l:=L) (i:=w.at_.toNat) AA;have f:w.at_.toNat<L.length:=AA;have v:w.at_.toNat<L.length+y.length:=AA;have u:(L.map Aw++y)[w.at_.toNat]? =some (Aw sp):=by rw[Ce zEb,D7,a];rfl
 have e:Ak L w.at_=sp.dead:=by rw[Ak,a];rfl
 rw[e];refine BR Tryz.func163 ?_;exact af
inductive YD{α:Type}(f:α->Bool)(l:List α):Int->Prop
 |none:(∀x∈l,f x=false)->YD f l (-1)
 |some (k:Nat):(∀x∈l.take k,f x=false)->(∃x,l[k]? =some x/\f x=true)->YD f l k
def XQ{h:AD}{π:List Nat}{m bx S:Abs.Id}{L:List Bl}(j:PJ h π m bx S L)(l:List Gg)(D:l.length<=1000000)(q: ∀w∈l,FT L w.at_):
 ∃o h',kT (.fn 185) [.d (.bv (l.map Ae)),.fn 163 [] [.ptr bx 0]] h π true (some π)=.ok (o,h')/\ ∃r,o=.ret (nI r)/\YD (fun w:Gg=>Ak L w.at_) l r:=by
 have t:=AB j;clear j;have A:=AB q;clear q;refine BR Tryz.func185 ?_;refine ax ?_;refine Aq l _ (S:=fun B i (a:AD×Nat)=>⟨[(0,.d (.bv (l.map Ae))),(1,.fn 163 [] [.ptr bx 0]),(7,nI B),(8,nI i)],a.1,a.2+4,[]⟩)
  (Inv:=fun i I a=>AH ((∀x,Id.under π x=false->a.1.get x=h.get x)/\ ∀w∈l.take i,Ak L w.at_=false)) (b0:=(h,0)) rfl ⟨⟨fun _ _=>rfl,AG⟩⟩ ?_ ?_
 .rintro i w ⟨g,b⟩ f p z e s;dsimp only at*;have y:AH (∀H n,(∀x,Id.under π x=false->H.get x=g.get x)-> ∃o h',kT (.fn 163) [.agg [nI w.at_,nI w.node,.d (.bv (w.env.map AN))],.ptr bx 0] H (n::π) true (some (n::π))=.ok (o,h')/\o=.ret (.d (.bool (Ak L w.at_)))):=⟨fun H n u=>kD (t.1.up (fun x c _=>(u x c).trans (e.1.1 x c)) fun x c=>AJ c n) w (A.1 w (AS f))⟩;refine ax ?_;refine EG (y.1 _ _ fun x c=>rfl) (fun F g1 C=>?_);subst C;cases k:Ak L w.at_ with
  |true=>
   refine ax ?_;exact⟨_,rfl,.some i e.1.2 ⟨w,f,k⟩⟩
  |false=>
   refine ax ?_;refine s.1 (g,b+11) ⟨⟨e.1.1,fun x c=>?_⟩⟩;rw[GC,f]at c;rcases EL.1 c with c|c
   .exact e.1.2 x c
   .simp only[Option.toList_some,Ac]at c;subst c;exact k
 .rintro i ⟨g,b⟩ p z e;dsimp only at*;have v:AH (∀w∈l,Ak L w.at_=false):=⟨by have:=e.1.2;rwa [p.1,D2]at this⟩;refine ax ?_;exact⟨_,rfl,.none v.1⟩
def yd{h:AD}{π:List Nat}{m bx S W:Abs.Id}{L:List Bl}(O:PJ h π m bx S L)(l:List Gg){x:List (List Al)}(b3:h.get W=some (.em 3 (l.map Ae++x)))(X:Id.under π W=false)(K:W≠bx/\W≠m/\W≠S){n:Nat}(cn:n=l.length)(ch:l.length<=1000000)(s: ∀w∈l,FT L w.at_):
 ∃o h',kT (.fn 162) [.f8 W 0 n,.fn 163 [] [.ptr bx 0]] h π true none=.ok (o,h')/\ ∃y,o=.ret (.f8 W 0 (l.filter fun w=> !Ak L w.at_).length)/\h'.get W=some (.em 3 ((l.filter fun w=> !Ak L w.at_).map Ae++y))/\ ∀i,Id.is W i=false->Id.under π i=false->h'.get i=h.get i:=by
 subst cn;have c8:=AI X;have c9:=Aj X;have a5:=AB O;have bc:=AB s;clear s;have V:=AB fun(H:AD) (k:Nat) (ad: ∀i,i=bx\/i=m\/i=S->H.get i=h.get i)=>XQ (π:=k::π) (a5.1.up (ρ:=k::π) (fun i _ A=>ad i A) fun x a3=>AJ a3 k) l ch bc.1;have c0:AH (∀i,i=bx\/i=m\/i=S->Id.under π i=false):=⟨fun i A=>by rcases A with rfl|rfl|rfl;exact O.ub;exact O.um;exact O.uS⟩
 clear O;obtain⟨f,v⟩: ∃f:Gg->Bool,f=fun w=> !Ak L w.at_:=⟨_,rfl⟩;rw[<-v];replace v:=AB v;refine BR Tryz.func162 ?_;refine ax ?_;refine EG (V.1 _ 3 ?_) (fun c2 g1 a4=>?_)
 .rintro i (rfl|rfl|rfl)
  .rw[get_put,AF K.1];rfl
  .rw[get_put,AF K.2.1];rfl
  .rw[get_put,AF K.2.2];rfl
 obtain⟨r,rfl,cp⟩:=a4;cases cp with
 |none av=>
  have b2:AH (l.filter f=l):=⟨List.filter_eq_self.2 fun w s=>by rw[v.1];simp[av w s]⟩;replace av:=AB av;refine ax ?_;rw[b2.1];exact⟨x,rfl,rfl,fun _ _ _=>trivial⟩
 |some k az cc=>
  obtain⟨be,a1,a2⟩:=cc;have c6:=AK a1;have c7: ¬(k:Int)= -1:=AA;replace az:=AB az;have a':((l.take (k+1)).filter f)=l.take k:=by
   rw[GC,a1,TY,List.filter_eq_self.2 fun w s=>by rw[v.1];simp[az.1 w s]];simp[v.1,a2]
  have cl:(l.take k).length=k:=zFN
  replace a2:=AB a2;refine ax ?_;refine rounds (S:=fun(a:(Nat×Nat)×AD×Nat)=>⟨[(0,.f8 W 0 l.length),(1,.fn 163 [] [.ptr bx 0]),(5,nI a.1.2),(6,nI a.1.1)],a.2.1,a.2.2+10,[]⟩)
   (Inv:=fun a=>a.1.2<a.1.1/\a.1.1<=l.length/\AH (∃Y,a.1.2+Y.length=a.1.1/\(∀e∈Y,e.length=3)/\((l.take a.1.1).filter f).length=a.1.2/\a.2.1.get W=some (.em 3 (((l.take a.1.1).filter f).map Ae++(Y++((l.drop a.1.1).map Ae++x)))))/\AH (∀i,Id.is W i=false->Id.under π i=false->a.2.1.get i=h.get i)) (m:=fun a=>l.length-a.1.1) (a:=((k+1,k),h,0)) ⟨AU,AU,⟨[Ae be],rfl,by simp[Ae],by dsimp only;rw[a',cl],?_⟩,⟨fun _ _ _=>rfl⟩⟩ ?_
  .dsimp only;rw[a',b3];have:=N8 a1;rw[show l.map Ae=(l.take k).map Ae++([Ae be]++(l.drop (k+1)).map Ae) by rw[<-List.map_singleton,<-BE,<-BE];exact congrArg _ this];simp
  .rintro⟨⟨j,i⟩,g,b⟩ ⟨j1,j2,hY,hfr⟩ IH;dsimp only at*;obtain⟨Y,ai,ag,u,D⟩:=hY.1;by_cases b7:j<l.length
   .obtain⟨w,s⟩:=get_some b7;have bs:((l.take j).filter f).map Ae++(Y++((l.drop j).map Ae++x))=(((l.take j).filter f).map Ae++Y)++((l.drop j).map Ae++x):=AG;have b0:(((l.take j).filter f).map Ae++Y).length=j:=by rw[Be,As];omega
    have V:(((l.take j).filter f).map Ae++(Y++((l.drop j).map Ae++x)))[j]? =some (Ae w):=by
     rw[bs,D1 AA,b0,Kw,Ag s];rfl
    have b':j<(((l.take j).filter f).map Ae++(Y++((l.drop j).map Ae++x))).length:=AK V;have b1:AH (∀H n,(∀i,i=bx\/i=m\/i=S->H.get i=g.get i)-> ∃o h',kT (.fn 163) [.agg [nI w.at_,nI w.node,.d (.bv (w.env.map AN))],.ptr bx 0] H (n::π) true (some (n::π))=.ok (o,h')/\o=.ret (.d (.bool (Ak L w.at_)))):=⟨fun H n ad=>kD (a5.1.up (fun i cx A=>(ad i A).trans (hfr.1 i (AF fun e=>by subst e;rcases A with e|e|e;exact K.1 e;exact K.2.1 e;exact K.2.2 e) cx)) fun x a3=>AJ a3 n) w (bc.1 w (AS s))⟩
    have b8:(j:Int)<l.length:=AA;obtain⟨N,M⟩: ∃N,N=((l.take j).filter f).map Ae++(Y++((l.drop j).map Ae++x)):=⟨_,rfl⟩;rw[<-M]at V D b';replace M:=AB M;refine ax ?_;refine EG (b1.1 _ _ ?_) (fun c2 g1 a4=>?_)
    .intro i A;have q:=AI (c0.1 i A);exact zBf
    subst a4;have t:(l.take (j+1)).filter f=(l.take j).filter f++if f w=true then [w]else []:=by
     rw[GC,s,TY];simp[Rw]
    cases a6:Ak L w.at_ with
    |true=>
     have C:f w=false:=by rw[v.1];simp[a6]
     rw[C,Ci AG,CI]at t;replace C:=AB C;replace t:=AB t;refine ax ?_;refine IH.1 ((j+1,i),_,b+17) AU ⟨AU,AU,⟨Y++[Ae w],Aa,?_,by rw[t.1];exact u,?_⟩,⟨fun Q I B=>?_⟩⟩
     .intro e p;rcases EL.1 p with p|p
      .exact ag e p
      .rw[Ac]at p;subst p;rfl
     .rw[t.1];dsimp only;rw[get_put,AF (by intro e;exact absurd (AI X 0 (b+18)) (by rw[e,is_self];simp)),get_put,AF (by intro e;exact absurd (AI X 0 (b+18)) (by rw[e,is_self];simp))];simp only[AM,FN];rw[D,M.1,Ag s];simp
     .dsimp only;rw[get_put,AI B,get_put,AI B];exact hfr.1 Q I B
    |false=>
     have C:f w=true:=by rw[v.1];simp[a6]
     rw[C,D4 rfl]at t;have b6:i<N.length:=AA;have c':IntKind.i64.wrap ((i:Int)+1)=(i:Int)+1:=wrap_id AA AA;replace C:=AB C;replace t:=AB t;obtain⟨T,a7⟩:=get_some (l:=N) (i:=i) b6;have c5:i<l.length:=AA;have bv:0<Y.length:=AA;obtain⟨R,J,rfl⟩: ∃R J,Y=R::J:=by
      cases Y with
      |nil=>simp at bv
      |cons R J=>exact⟨R,J,rfl⟩
     have P:i=(((l.take j).filter f).map Ae).length:=by rw[As,u]
     have p:T=R:=by
      rw[M.1,D1 AA,P,Kw]at a7;simpa using a7.symm
     subst p;obtain⟨dd,de,df,rfl⟩: ∃a b c,T=[a,b,c]:=by
      have:=ag T AG
      match T,this with
      |[a,b,c],_=>exact⟨a,b,c,rfl⟩
     replace P:=AB P;have cs:AH (N.set i (Ae w)=((l.take (j+1)).filter f).map Ae++((J++[Ae w])++((l.drop (j+1)).map Ae++x))):=⟨by
      rw[M.1,t.1,List.set_append_right _ _ (Nat.le_of_eq P.1.symm),<-P.1,Kw,Cs,List.set_cons_zero,Ag s];simp⟩
     refine ax ?_;refine IH.1 ((j+1,i+1),_,b+25) AU ⟨AU,AU,⟨J++[Ae w],by simp at ai⊢;omega,?_,by rw[t.1];simp[u],?_⟩,⟨fun Q I B=>?_⟩⟩
     .intro e p;rcases EL.1 p with p|p
      .exact ag e (by simp[p])
      .rw[Ac]at p;subst p;rfl
     .dsimp only;rw[<-cs.1];simp only[go_sem]
     .simp only[go_sem,I,AI B];exact hfr.1 Q I B
   .have a0:j=l.length:=AA;rw[a0,D2]at u D;rw[T8,BY,CE]at D;have b8: ¬(j:Int)<l.length:=AA;have ar:Y.length=l.length-i:=AA;obtain⟨F,ac⟩: ∃F,F=l.filter f:=⟨_,rfl⟩;rw[<-ac]at u D⊢;have b5:0<l.length-i:=AA;have U:(F.map Ae).length=i:=by simpa using u
    have bk:=N7 (g:=g.get) (n:=l.length) D (a:=i) AA AA Aa Aa;simp only[F7]at bk;have c3: ∀(j:TI),j.size=3->j.zero=[nI 0,nI 0,.d7]->JI g.get W i (l.length-i) j=some ⟨.undef,[(W,.em 3 (F.map Ae++(List.replicate (l.length-i) [.int .i64 0,.int .i64 0,.bv []]++x)))]⟩:=fun j bo Z=>by
     rw[aE (z:=[.int .i64 0,.int .i64 0,.bv []]) D bo (by rw[Z];rfl) rfl ⟨⟨by rw[Z];rfl,by rw[Z];rfl⟩,AZ⟩ Aa,List.take_left' U,show F.map Ae++(Y++x)=(F.map Ae++Y)++x from(DO ..).symm,List.drop_left' (l₁:=F.map Ae++Y) (by rw[Be,U,ar])]
    have bl:=fun(g':G) (b4:g' W=some (.em 3 (F.map Ae++(List.replicate (l.length-i) [.int .i64 0,.int .i64 0,.bv []]++x))))=>N6 (n:=l.length) b4 (b:=i) AA Aa Aa;simp only[F7]at bl;have c4:=fun bi (c1:TI)=>cg bi g.get c1 W i (l.length-i) b5;replace ac:=AB ac;replace u:=AB u;replace a0:=AB a0;replace ar:=AB ar;replace ai:=AB ai;replace U:=AB U;refine ax ?_;exact⟨_,by rw[u.1],rfl,fun Q I B=>by rw[I,Ci AG];exact hfr.1 Q I B⟩
def ye{h:AD}{π:List Nat}{m bx S:Abs.Id}{L:List Bl}(b:PJ h π m bx S L)(l:List Gg){v:AV}(t:KJ h 3 v (l.map Ae))(N: ∀i∈AE v,Id.under π i=false/\i≠bx/\i≠m/\i≠S)(f:l.length<=1000000)(g: ∀w∈l,FT L w.at_):
 ∃o h',kT (.fn 162) [v,.fn 163 [] [.ptr bx 0]] h π true none=.ok (o,h')/\ ∃a,o=.ret a/\KJ h' 3 a ((l.filter fun w=> !Ak L w.at_).map Ae)/\AE a=AE v/\(a.isCell=true/\a.cells=[a])/\ ∀i,(∀id∈AE v,Id.is id i=false)->Id.under π i=false->h'.get i=h.get i:=by
 rcases t with⟨rfl,e⟩|⟨W,x,rfl,n⟩
 .have e:=D5.1 e;subst e;have q:=AB fun(H:AD) (k:Nat) (j: ∀i,i=bx\/i=m\/i=S->H.get i=h.get i)=>XQ (π:=k::π) (b.up (ρ:=k::π) (fun i _ p=>j i p) fun x u=>AJ u k) [] f g;clear b;refine BR Tryz.func162 ?_;refine ax ?_;refine EG (q.1 _ 3 fun _ _=>rfl) (fun O g1 C=>?_);obtain⟨r,rfl,s⟩:=C;cases s with
  |none _=>
   refine ax ?_;exact⟨_,rfl,.inl ⟨rfl,rfl⟩,rfl,⟨rfl,rfl⟩,fun _ _ _=>trivial⟩
  |some k _ c=>
   obtain⟨_,c,_⟩:=c;simp at c
 .obtain⟨I,J,K,M⟩:=N W BH;rw[As];obtain⟨o,h',z,y,rfl,A,B⟩:=yd b l n I ⟨J,K,M⟩ rfl f g;exact⟨_,h',z,_,rfl,.inr ⟨W,y,by rw[As],A⟩,rfl,⟨rfl,rfl⟩,fun i D F=>B i (D W BH) F⟩
end Go.Proofs
namespace Go.Proofs
open Abs
def K0(l:List Bl)(at_:Int)(n:Nat):List Bl:=(MX l at_).take n++l.drop n
variable{n:Nat}
def NX(l:List Bl)(at_:Int)(a:n<=l.length):(K0 l at_ n).length=l.length:=by
 rw[K0,Be,F2,Ii,Gq];omega
def QO(l:List Bl)(at_:Int)(c:n<=l.length)(k:Nat):(K0 l at_ n)[k]? =(l[k]?).map fun x=>if k<n then{x with dead:=x.dead||CP l k at_}else x:=by
 have b:((MX l at_).take n).length=n:=by rw[F2,Gq];omega
 rw[K0];by_cases a:k<n
 .rw[Ce AA,I6,D4 a,Ya];simp[a]
 .rw[D1 AA,b,Hm,show n+(k-n)=k by omega];cases l[k]? <;>simp[a]
def W5(l:List Bl)(at_:Int):K0 l at_ 0=l:=by simp[K0]
def UR(l:List Bl)(at_:Int):K0 l at_ l.length=MX l at_:=by
 rw[K0,T8,CI,Bi (by rw[Gq];exact Es _)]
def W4{l:List Bl}{at_:Int}{n:Nat}{x:Bl}(a:l[n]? =some x):K0 l at_ (n+1)=(K0 l at_ n).set n {x with dead:=x.dead||CP l n at_}:=by
 have b:=AK a;refine List.ext_getElem? fun k=>?_;rw[QO l at_ AA,IF,NX l at_ AA,QO l at_ AA];by_cases e:n=k
 .subst e;rw[D4 rfl,D4 b,a,F3,D4 AA]
 .rw[Ci e];congr 1;funext y;by_cases h:k<n
  .rw[D4 h,D4 AA]
  .rw[Ci h,Ci AA]
variable{l:List Bl}{at_:Int}
def kE{x:Bl}(a:l[n]? =some x):(K0 l at_ n)[n]? =some x:=by
 have b:=AK a;rw[QO l at_ AA,a];simp
def aV(l:List Bl)(at_:Int)(a:n<=l.length)(i:Int):Bh (K0 l at_ n) i=Bh l i:=by
 rw[Bh,Bh,QO l at_ a];cases l[i.toNat]? with
 |none=>rfl
 |some x=>
  simp only[F3,GO];split<;>rfl
variable{m:List Bl}
def VZ(b: ∀i,Bh m i=Bh l i)(a:m.length=l.length): ∀(k:Nat) (i:Int),Bf m k i=Bf l k i
 |0,i=>rfl
 |k+1,i=>by
  rw[Bf,Bf,b,VZ b a k];congr 2;exact decide_eq_decide.2 (by unfold FT;rw[a])
def db(a: ∀i,Bh m i=Bh l i): ∀(k:Nat) (i:Int),SW m k i=SW l k i
 |0,i=>rfl
 |k+1,i=>by rw[SW,SW,a,db a k]
def Xw(c: ∀i,Bh m i=Bh l i)(a:m.length=l.length)(h:Hg l):Hg m:=
 ⟨by rw[a];exact h.pos,by rw[c];exact h.top,fun i b=>by rw[VZ c a,a];exact h.rt i (by rw[FT,a]at b;exact b)⟩
def S8(e: ∀i,Bh m i=Bh l i)(c:m.length=l.length)(b a:Int):CP m b a=CP l b a:=by
 rw[CP,CP,c,db e]
def O8(l:List Bl)(q:HD):HD:=if Ak l q.at_=true then{q with queue:=[]}else q
def MW(l:List Bl)(c:List HD)(n:Nat):List HD:=(c.take n).map (O8 l)++c.drop n
def W2(l:List Bl)(c:List HD):MW l c 0=c:=by simp[MW]
def aL(l:List Bl)(c:List HD):MW l c c.length=c.map (O8 l):=by simp[MW]
def aN(l:List Bl)(c:List HD)(a:n<=c.length):(MW l c n).length=c.length:=by
 rw[MW,Be,As,F2,Ii];omega
variable{q:HD}
def OZ{c:List HD}(a:c[n]? =some q):(MW l c n)[n]? =some q:=by
 have e:=AK a;have b:((c.take n).map (O8 l)).length=n:=zFb
 rw[MW,D1 AA,b,Kw,Ag a];rfl
def W1{c:List HD}(a:c[n]? =some q):MW l c (n+1)=(MW l c n).set n (O8 l q):=by
 have e:=AK a;have b:((c.take n).map (O8 l)).length=n:=zFb
 rw[MW,MW,GC,a,List.set_append_right _ _ AA,b,Kw,Ag a];simp
theorem kI(s:BU)(at_:Int):PR s at_=⟨MX s.ac at_,s.ce,s.be.map (O8 (MX s.ac at_)),s.waits.filter fun w=> !Ak (MX s.ac at_) w.at_⟩:=rfl
def RH{α:Type}{l:List α}{i:Nat}{x:α}(h:l[i]? =some x):l.set i x=l:=by
 obtain⟨a,h2⟩:=BV.1 h;rw[<-h2];exact List.set_getElem_self a
variable{sz:List Int}{V:MV}
def sS{p:AX}{a:MV}{w b:Int}(h:BL p sz V w=BL p sz a b):a.v3=V.v3:=by
 simp only[BL,Ms]at h;exact h.2.2.1.symm
def AAe{p:AX}(ex:BP p sz){h:AD}{π:List Nat}{m:Abs.Id}{st:CW}(az:J4 p sz h m V st)(f:Bx π V m)(T:Fo p sz st.d8)(be:FT st.d8.ac at_)(fp:st.ev.length<=900000):
 ∃o h',kT (.fn 102) [.ptr m 0,nI at_] h π true none=.ok (o,h')/\G3 p sz π m V h (some ⟨PR st.d8 at_,st.ev++[⟨3,at_,0,0,[]⟩],st.work⟩) o h':=by
 have a1:=az.box;simp only[BL]at a1;have b5:=f m (V.m_mem m);have el:=AI b5;have em:=Aj b5;have d5:=T.small;simp only[BU.small,AP,Ap]at d5;obtain⟨f8,f9,f',ga⟩:=d5;have ej:=be.1;have fk:=be.2;replace az:=AB az;replace f:=AB f;replace T:=AB T;replace be:=AB be;refine BR Tryz.func102 ?_;refine ax ?_;refine Ad (Kc (V:=V) (st:=st) (Ek az.1 f.1 ?_) (f.1.ext _) 3 at_ 0 0 [] AG AA) (fun e' g1 u=>?_)
 .intro id b;have b3:=AI b;simp only[go_sem,b3,AM]
 have bo:G4 p sz π m V h 0 V st (h.put (0::0::π) (.box [.ptr m 0])):=JC az.1 f.1 fun id b=>by
  have b3:=AI b;rw[get_put,b3];rfl
 obtain⟨eb,R,_⟩:=(bo.up (b':=3) AA).call f.1 (n:=3) AA u;have t:=(bo.up (b':=3) AA).box f.1 (k:=0) AA u;rw[get_put,is_self,D4 rfl]at t;obtain rfl:=u.1;have de:=R.rep.box;simp only[BL]at de;have c1:=E6 (R.rep.sl 0 AA);simp only[Ax,As]at c1;obtain⟨C,cl⟩: ∃C,C=st.ev++[(⟨3,at_,0,0,[]⟩:Eg)]:=⟨_,rfl⟩;rw[<-cl]at R⊢;replace cl:=AB cl;replace R:=AB R;replace bo:=AB bo;replace u:=AB u
 (repeat' (first|simp only[go_sem, *,↓c1,AM]|(refine sx ?_ ?_<;>intro bi)|refine sy AA fun x y a1=>?_|simp(disch:=first|assumption|omega) only[AR]))
 clear a1 de c1 u;refine Aq st.d8.ac _ (S:=fun c6 i (a:AD×Nat)=>⟨[(1,nI at_),(2,.ptr (0::0::π) 0),(15,nI c6),(16,nI i)],a.1,a.2+11,[]⟩)
  (Inv:=fun i fd a=>a.1.get (0::0::π)=some (.box [.ptr m 0])/\AH (∃V',G4 p sz π m V h (a.2+11) V' ⟨{st.d8 with ac:=K0 st.d8.ac at_ i},C,st.work⟩ a.1)) (b0:=(_,0)) rfl ⟨t,⟨eb,by rw[W5];exact R.1.up AA⟩⟩ ?_ ?_
 .rintro i x ⟨g,b⟩ y J cx ⟨t,c⟩ ag;dsimp only at*;obtain⟨V',c⟩:=c.1;obtain⟨D,s⟩: ∃D,D=K0 st.d8.ac at_ i:=⟨_,rfl⟩;have fr:=AK y;have r:D.length=st.d8.ac.length:=by rw[s];exact NX _ _ AA
  have dn:D[i]? =some x:=by rw[s];exact kE y
  have a': ∀i,Bh D i=Bh st.d8.ac i:=fun k=>by rw[s];exact aV _ _ AA k
  have ar:AH (K0 st.d8.ac at_ (i+1)=D.set i {x with dead:=x.dead||CP st.d8.ac i at_}):=⟨by rw[s];exact W4 y⟩
  have ch:=Xw a' r T.1.tree;have cc:=S8 a' r (i:Int) at_;rw[<-s]at c;replace s:=AB s;have j:=c.rep.box;simp only[BL]at j;obtain⟨S,ad,I,z,fi,d6,e8⟩:=FV (c.rep.sl 0 AA) dn;simp only[Dt]at z;have c2:=SS D i at_ AA ch ⟨AA,AA⟩ ej
  rw[cc]at c2;have d0:=c.ids S (V'.s_mem m (i:=0) AA zEn);have e2: ∀k,Id.is S (0::k::π)=false:=fun k=>AF fun e=>Dv c f.1 k (by rw[<-e];exact V'.s_mem m (i:=0) AA zEn);have U:=AH.mk (Dc (N:=DX (b+11) (b+33) π) (st:=⟨{st.d8 with ac:=D},C,st.work⟩) (st':=⟨{st.d8 with ac:=K0 st.d8.ac at_ (i+1)},C,st.work⟩) 0 AA c.rep (c.apartB f.1) (XN rfl rfl rfl) rfl (.f8 S 0 D.length))
  rw[I]at j;replace a':=AB a';replace ch:=AB ch;replace cc:=AB cc;replace d0:=AB d0;replace c:=AB c;have es:=AB r;cases c0:CP st.d8.ac i at_ with
  |true=>
   rw[c0]at c2 ar;rw[T6]at ar;replace r:=AB r;refine ax ?_;have e1:Id.is S m=false:=Fi z j;have fs:Id.is m S=false:=Fi j z;have e5:(D.set i {x with dead:=true}).map Aw++ad=(D.map Aw++ad).set i [.int .i64 x.pp,.bool true]:=by
    rw[Ro _ _ (by simpa using d6),JP];rfl
   obtain⟨a5,e0,_⟩:=c.1.step (b':=b+33) AA (U.1 (g.put S (.em 2 ((D.map Aw++ad).set i [.int .i64 x.pp,.bool true]))) (by rw[get_put,e1];exact j) (Ao ad (by simp only[Ax,As];rw[NX _ _ AA];exact es.1) (by rw[get_put,is_self,<-e5,<-ar.1];rfl)) (.inl (by rw[I])) fun id b1 ai a7=>by rw[get_put,ai S zEn];rfl);refine ag.1 (_,b+22) ⟨?_,⟨a5,e0⟩⟩;dsimp only;rw[get_put,e2];exact t
  |false=>
   rw[c0,Bool.or_false]at ar;rw[c0]at c2;replace r:=AB r;refine ax ?_;refine ag.1 (g,b+13) ⟨t,⟨V',?_⟩⟩;have:K0 st.d8.ac at_ (i+1)=D:=by
    rw[ar.1];exact RH dn
   dsimp only;rw[this];exact c.1.up AA
 .rintro i ⟨g,b⟩ J cx ⟨t,c⟩;dsimp only at*;obtain⟨V',c⟩:=c.1;rw[J.1,UR]at c;obtain⟨D,s⟩: ∃D,D=MX st.d8.ac at_:=⟨_,rfl⟩;have r:D.length=st.d8.ac.length:=by rw[s,Gq]
  rw[kI,<-s];rw[<-s]at c;replace s:=AB s;have j:=c.rep.box;simp only[BL]at j;have bl:=KC c.rep.arr;rw[c.rep.be.len]at bl;dsimp only at bl;have h2:=c.rep.sl 2 AA;have H:=c.rep.sl 0 AA;simp only[Ax,Dt]at h2 H;rcases H with⟨_,e7⟩|⟨S,ad,H,z⟩
  .rw[D5.1 e7]at r;have:=T.1.tree.pos;simp at r;omega
  rw[As]at H;have bc:=V'.s_mem m (i:=0) AA (id:=S) (by rw[H];simp[AE]);have d8:=c.apart f.1 (n:=b+19) AA S bc;have c3: ∀w∈st.d8.waits,FT D w.at_:=fun w e6=>by
   have:=T.1.wait w e6;simp only[Cc,AP,Ap]at this;rw[FT,r];exact this.1
  obtain⟨b6,Z⟩: ∃b6,b6=V'.s 2:=⟨_,rfl⟩;rw[<-Z]at h2 j;have Y: ∀i∈AE b6,Id.under ((b+19)::π) i=false/\i≠0::0::π/\i≠m/\i≠S:=fun i J=>by
   have dr:=V'.s_mem m (i:=2) AA (id:=i) (by rw[<-Z];exact J);obtain⟨x,y⟩:=Ia h2 J;exact⟨c.apart f.1 (n:=b+19) AA i dr,fun e=>Dv c f.1 0 (e▸dr),fun e=>(by rw[e,j]at y;cases y),fun e=>(by rw[e,z]at y;cases y)⟩
  have e3:=AH.mk (ye (h:=g) (π:=(b+19)::π) (m:=m) (bx:=0::0::π) (S:=S) (L:=D) ⟨t,⟨_,_,_,_,_,_,_,_,_,_,_,_,by rw[j,H]⟩,⟨ad,z⟩,Au π AA,AJ b5 _,d8⟩ st.d8.waits h2 Y AA c3);have U:=AB fun v=>Dc (N:=DX (b+11) (b+31) π) (st:=⟨{st.d8 with ac:=D},C,st.work⟩) (st':=⟨{st.d8 with ac:=D,waits:=st.d8.waits.filter fun w=> !Ak D w.at_},C,st.work⟩) 2 AA c.rep (c.apartB f.1) (XO rfl rfl rfl) rfl v
  have fl:=AB j;replace h2:=AB h2;replace Z:=AB Z;replace Y:=AB Y;replace c:=AB c;replace c3:=AB c3;replace r:=AB r;refine ax ?_;refine Cv e3.1 (fun e' g1 u=>?_);obtain⟨a3,rfl,u,b2,⟨f5,f6⟩,a2⟩:=u;have d9:=AJ b5 (b+19);have b8: ∀id∈AE b6,Id.is id m=false:=fun id K=>AF (Y.1 id K).2.2.1;have en:=(An _ g1 _ d9).trans ((a2 m b8 d9).trans j);have c4:=(An _ g1 _ (Au π (show 0≠b+19 by omega))).trans ((a2 (0::0::π) (fun id K=>AF (Y.1 id K).2.1) (Au π AA)).trans t);have e4:=tA (h:=g) (h':=gc ((b+19)::π) g1) t (by rw[c4];simp[Obj.same,AV.sames,AV.same,is_self]);obtain⟨F,cn⟩: ∃F,F=st.d8.waits.filter fun w=> !Ak D w.at_:=⟨_,rfl⟩;rw[<-cn]at u U⊢;obtain⟨M,Q⟩: ∃M,M=(gc ((b+19)::π) g1).put m (.box [.f8 S 0 D.length,V'.s 1,V'.v3,a3,.d (.bv (p.free.map Br)),.d (.bv (p.nodes.map Bc)),.d (.bv (p.defs.map B4)),nI p.main,.d (.bv (sz.map AL)),V'.v9,.mp V'.un,V'.s 3,nI st.work]):=⟨_,rfl⟩;have a4:M.get m=some (.box (BL p sz (V'.ip 2 a3) st.work)):=by
   rw[Q,get_put,is_self,<-H];rfl
  have b7:KJ M 3 a3 (F.map Ae):=GM u fun id K=>by
   rw[b2]at K;have a0:=Y.1 id K;rw[Q,get_put,AF fun e=>a0.2.2.1 e.symm,Ci AG,An _ _ _ a0.1]
  obtain⟨a5,bs,_⟩:=c.1.step (b':=b+31) AA (U.1 a3 M a4 b7 (.inl (by rw[b2,Z.1])) fun id b1 ai a7=>by rw[Q,get_put,b1,Ci AG,An _ _ _ (Ko a7 AA AA),a2 id (by rw[Z.1];exact ai) (Ko a7 AA AA)]);have c5:M.get (0::0::π)=some (.box [.ptr m 0]):=by
   rw[Q,get_put,em,Ci AG];exact c4
  replace cn:=AB cn;replace u:=AB u;replace a2:=AB a2;replace b2:=AB b2;replace b8:=AB b8;replace bs:=AB bs;replace c5:=AB c5;replace a4:=AB a4;replace b7:=AB b7;replace Q:=AB Q
  (repeat' (first|simp only[go_sem, *,↓bl,AM]|(refine sx ?_ ?_<;>intro bi)|refine sy AA fun x y a1=>?_|simp(disch:=first|assumption|omega) only[AR]))
  rw[<-Q.1];have bv:a5.v3=V'.v3:=sS (V:=V'.ip 2 a3) (Obj.box.inj (Ip (a4.1.symm.trans bs.1.rep.box)));obtain⟨a6,cp⟩: ∃a6,a6=V'.v3:=⟨_,rfl⟩;rw[<-cp]at bv⊢;replace cp:=AB cp;clear j en e4 c4 bl z H;clear bc d8 el;refine Aq st.d8.be _ (S:=fun c6 i (a:AD×Nat)=>⟨[(2,.ptr (0::0::π) 0),(51,a6),(52,nI c6),(53,nI i)],a.1,a.2+31,[]⟩)
   (Inv:=fun i fd a=>a.1.get (0::0::π)=some (.box [.ptr m 0])/\AH (∃V',V'.v3=a6/\G4 p sz π m V h (a.2+31) V' ⟨⟨D,st.d8.ce,MW D st.d8.be i,F⟩,C,st.work⟩ a.1)) (b0:=(M,b)) rfl ⟨c5.1,⟨a5,bv,by rw[W2];exact bs.1⟩⟩ ?_ ?_
  .clear R c;rintro i q ⟨g,b⟩ W J cx ⟨t,c⟩ ag;dsimp only at*;obtain⟨V',B,c⟩:=c.1;have j:=c.rep.box;simp only[BL,B]at j;have d1:=(QK ex T.1 W).at_;have f7:=d1.1;have b3:=d1.2;obtain⟨b4,X,d2⟩:=c.rep.be.row _ _ (OZ (l:=D) W);rcases c.rep.arr with⟨_,P⟩|⟨A,P,dd⟩
   .rw[P]at X;simp at X
   have f2:=AK X;rw[B]at P;have d3:V'.rows.length=st.d8.be.length:=by
    have:=c.rep.be.len;simp only at this;rw[this,aN _ _ (by have:=AK W;omega)]
   have dm:=r.1;obtain⟨sp,d4⟩:=get_some (l:=D) (i:=q.at_.toNat) AA;obtain⟨c8,gb,I,z,fi,d6,e8⟩:=FV (c.rep.sl 0 AA) d4;simp only[Dt]at z;rw[I]at j;have df:=V'.v3_mem m (id:=A) (by rw[B,P];simp[AE]);have bc:=V'.s_mem m (i:=0) AA (id:=c8) zEn;have f3:=C4 (b':=0) f.1 (c.ids A df);have f4:=C4 (b':=0) f.1 (c.ids c8 bc);have d7:=C4 (b':=0) f.1 (c.ids m (V'.m_mem m));have ek: ∀k,Id.is A (0::k::π)=false:=fun k=>AF fun e=>Dv c f.1 k (by rw[<-e];exact df);have ds:AH (MW D st.d8.be (i+1)=(MW D st.d8.be i).set i (O8 D q)):=⟨W1 W⟩;have bk:Ak D q.at_=sp.dead:=by rw[Ak,d4];rfl
   have U:=AB fun h'=>N1 (N:=DX (b+31) (b+59) π) c.rep (c.apartB f.1) (by rw[B];exact P) (OZ (l:=D) W) X [] .d7 h';have fv:b4.isCell=true:=by rcases d2 with⟨rfl,_⟩|⟨_,_,rfl,_⟩<;>rfl
   have f0:b4.cells=[b4]:=by rcases d2 with⟨rfl,_⟩|⟨_,_,rfl,_⟩<;>rfl
   have f1:=AB X;simp only[A6]at X;replace dm:=AB dm;replace c:=AB c;replace B:=AB B;replace bk:=AB bk;replace d3:=AB d3
   (repeat' (first|simp only[go_sem, *,AM]|(refine sx ?_ ?_<;>intro bi)|refine sy AA fun x y a1=>?_|simp(disch:=first|assumption|omega) only[AR]))
   .have cs:AH (O8 D q={q with queue:=[]}):=⟨by rw[O8,bk.1,bi,D4 rfl]⟩
    obtain⟨O,av⟩: ∃O,O=((g.put (0::(b+35)::π) (.box [nI 0,nI 0,nI 0,.d7])).put (0::(b+35)::π) (.box [nI q.group,nI q.index,nI q.at_,b4])).put A (.arr 4 (V'.rows.set i [nI q.group,nI q.index,nI q.at_,.d7])):=⟨_,rfl⟩;have c7:O.get m=some (.box (BL p sz V' st.work)):=by
     rw[av,get_put,AF (show A≠m from fun e=>by rw[e,j]at dd;cases dd),get_put,d7 _ _ AA,get_put,d7 _ _ AA];exact c.1.rep.box
    have d':O.get A=some (.arr 4 (V'.rows.set i (A6 q .d7))):=by
     rw[av,get_put,is_self];rfl
    obtain⟨c9,dq,_⟩:=c.1.step (b':=b+59) AA (U.1 O c7 d' (.inl ⟨rfl,rfl⟩) (.inr fun id K=>by simp[AE]at K) fun id b1 ai a7 c'=>by rw[av,get_put,ai,get_put,Af c' 0 (b+35) AA AA,get_put,Af c' 0 (b+35) AA AA];rfl);rw[<-av];have ea:O.get (0::0::π)=some (.box [.ptr m 0]):=by
     rw[av,get_put,ek,get_put,AF AG,get_put,AF AG];exact t
    have bv:c9.v3=V'.v3:=sS (V:=V') (Obj.box.inj (Ip (c7.symm.trans dq.rep.box)));rw[<-P];refine ag.1 (O,b+28) ⟨ea,⟨c9,bv.trans B.1,?_⟩⟩;dsimp only;rw[ds.1,cs.1];exact dq
   .have cs:AH (O8 D q=q):=⟨by rw[O8,bk.1,bi,Ci AG]⟩;rw[<-P];refine ag.1 (_,b+19) ⟨?_,⟨V',B.1,?_⟩⟩
    .dsimp only;rw[get_put,AF AG,get_put,AF AG];exact t
    .dsimp only;rw[ds.1,cs.1,RH (OZ (l:=D) W)];exact(c.1.loc f.1 fun id a0=>by rw[get_put,a0 0 (b+35) AA,get_put,a0 0 (b+35) AA];rfl).up AA
  .rintro i ⟨g,b⟩ J cx ⟨t,c⟩;dsimp only at*;obtain⟨V',B,c⟩:=c.1;rw[J.1,aL]at c;replace c:=AB c;refine ax ?_;exact c.1.fin
def Pq(e:List Eg)(st:CW):CW:=⟨st.d8,e++st.ev,st.work⟩
def tC(p:AX)(j:HF)(e:List Eg)(st:CW):Ja p j (Pq e st)=(Ja p j st).map fun r=>(Pq e r.1,r.2):=by
 simp only[Ja];cases p.nodes[j.node.toNat]? with
 |none=>rfl
 |some x=>
  dsimp only;by_cases h2:x.op=2
  .simp only[h2,F6,Cx,Pq];by_cases h:(IL j.env x.n).kind=2
   .simp only[h,F6,F3,DO]
   .by_cases i:(IL j.env x.n).kind=3
    .simp only[i,F6,Int.reduceEq,FN];cases Mr p st.d8 (IL j.env x.n).n (x.args.map (·.value j.env))<;>rfl
    .simp only[h,i,FN];rfl
  by_cases a:x.op=3
  .simp only[a,Int.reduceEq,FN,F6];rfl
  by_cases b:x.op=4
  .simp only[b,Int.reduceEq,FN,F6,Fb,Pq];cases p.defs[x.n.toNat]? with
   |none=>rfl
   |some d=>
    dsimp only;split<;>rename_i f<;>simp[f]
  by_cases c:x.op=5
  .simp only[c,Int.reduceEq,FN,F6];rfl
  by_cases g:DZ x.op=true
  .simp only[h2,a,b,c,g,FN,F6,FZ,Pq];split<;>rename_i f<;>simp[f]
  .simp only[h2,a,b,c,g,FN];rfl
def kV{f:HF->CW->Option CW}{e:List Eg}(a: ∀j st,f j (Pq e st)=(f j st).map (Pq e)): ∀(l:List HF) (st:CW),CH f l (Pq e st)=(CH f l st).map (Pq e)
 |[],st=>rfl
 |j::l,st=>by
  rw[CH,CH,a];cases f j st with
  |none=>rfl
  |some b=>exact kV a l b
def Yc(p:AX)(e:List Eg): ∀(k:Nat) (j:HF) (st:CW),Eu p k j (Pq e st)=(Eu p k j st).map (Pq e)
 |0,j,st=>rfl
 |k+1,j,st=>by
  rw[Eu,Eu];have a:(Pq e st).work=st.work:=rfl;rw[a];by_cases h:st.work<400
  .rw[D4 h,D4 h];have:=tC p j e {st with work:=st.work+1}
   rw[show({Pq e st with work:=st.work+1}:CW)=Pq e {st with work:=st.work+1}from rfl,this]
   cases Ja p j {st with work:=st.work+1}with
   |none=>rfl
   |some r=>exact kV (fun j st=>Yc p e k j st) r.2 r.1
  .rw[Ci h,Ci h];rfl
def Hy(p:AX)(s:BU)(e:List Eg)(x:FH):Option CW:=(De p s x).map (Pq e)
def XR(f:HF->CW->Option CW)(j:HF)(st:CW):CH f [j] st=f j st:=by
 rw[CH];cases f j st<;>rfl
section
variable{p:AX}{s:BU}{e:List Eg}{i:Nat}{w:Gg}{y:C8}
def NZ(a:s.waits[i]? =some w)(h2:p.nodes[w.node.toNat]? =some y):De p s ⟨i,0,0,[]⟩=OO p {s with waits:=CY s.waits i} w y:=by
 rw[De,Ci AU,RP];simp only[F7,a,h2]
def P1(a:s.waits[i]? =some w)(h2:p.nodes[w.node.toNat]? =some y)(b:y.op=7):Hy p s e ⟨i,0,0,[]⟩=some ⟨PR {s with waits:=CY s.waits i} w.at_,e++[⟨3,w.at_,0,0,[]⟩],0⟩:=by
 rw[Hy,NZ a h2,OO,D4 b];rfl
def Vg(b:s.waits[i]? =some w)(h2:p.nodes[w.node.toNat]? =some y)(f:y.op=6){a:Int}(c:y.kids=[a]){v:Cm}(g:IL w.env y.n=v):Hy p s e ⟨i,0,0,[]⟩=Eu p 401 ⟨a,w.at_,w.env⟩ ⟨{s with waits:=CY s.waits i,ac:=FY s.ac w.at_ v.n},e++[⟨2,w.at_,v.n,0,[]⟩],0⟩:=by
 rw[Hy,NZ b h2,OO,Ci AA,D4 f,g,BN,c];simp only[F4];rw[XR];exact(Yc p e 401 _ _).symm
def P2(b:s.waits[i]? =some w)(h2:p.nodes[w.node.toNat]? =some y)(g:y.op=8){a:Int}(c:y.kids=[a]){v:Cm}(f:IL w.env y.n=v):Hy p s e ⟨i,0,0,[]⟩=Eu p 401 ⟨a,w.at_,w.env⟩ ⟨{s with waits:=CY s.waits i},e++[⟨4,w.at_,v.n,0,[]⟩],0⟩:=by
 rw[Hy,NZ b h2,OO,Ci AA,Ci AA,f,BN,c];simp only[F4];rw[XR];exact(Yc p e 401 _ _).symm
end
variable{sz:List Int}
def eC{p:AX}{s:BU}{w:Gg}{y:C8}(f:BP p sz)(h:RV p sz s w y)(j: ¬y.op=7): ∃c,y.kids=[c]:=by
 have g:CT p sz s ⟨w.node,w.at_,w.env⟩:=⟨h.n0,h.size,h.at_,h.live,h.lc⟩;obtain⟨k,l,a,h2,_⟩:=Jg f g;have a:p.nodes[w.node.toNat]? =some k:=a;rw[h.node]at a;cases a;simp only[DG,AP,Ap]at h2;have b:=h2.1;have i:y.kids.length=1:=by
  rcases h.op with e|e|e
  .rw[e]at b;simpa[Dp]using b.symm
  .exact absurd e j
  .rw[e]at b;simpa[Dp]using b.symm
 match y.kids,i with
 |[c],_=>exact⟨c,rfl⟩
variable{π:List Nat}{m:Abs.Id}{V:MV}{h:AD}
def cR{p:AX}{V':MV}{H g1:AD}{b n:Nat}{g:CW}{o:A8}{r:Option CW}(f:Bx π V m)(e:G4 p sz π m V h b V' g H)(c:b<=n)(a:G3 p sz (n::π) m V' H r o g1):G3 p sz π m V h r o (gc (n::π) g1)/\(o=.ret (.ii [])\/o=.ge (C5 3)):=by
 cases r with
 |none=>exact⟨e.ge f c a,.inr a.1⟩
 |some j=>
  obtain⟨i,h2,_⟩:=e.call f c a;obtain⟨rfl,_⟩:=a;exact⟨h2.fin,.inl rfl⟩
def mA{p:AX}(av:BP p sz){st:CW}(bi:J4 p sz h m V st)(c:Bx π V m)(T:Fo p sz st.d8){x:FH}(f1:NJ p st.d8 x)(gn:st.ev.length<=400000):
 ∃o h',kT (.fn 55) [.ptr m 0,M3 x] h π true none=.ok (o,h')/\G3 p sz π m V h (Hy p st.d8 st.ev x) o h':=by
 have bo:=bi.box;simp only[BL]at bo;have dd:=c m (V.m_mem m);have df:=AI dd;have dm:=Aj dd;have d9:=T.small;simp only[BU.small,AP,Ap]at d9;obtain⟨eb,ej,g8,g9⟩:=d9;obtain⟨AO,u⟩: ∃AO:CW,AO=⟨st.d8,st.ev,0⟩:=⟨_,rfl⟩;have d6:AH (∀H:AD,H.get m=some (.box (BL p sz V 0))->(∀id,Id.is m id=false->Id.under π id=false->H.get id=h.get id)->G4 p sz π m V h 0 V AO H):=⟨fun H en es=>by
  have:=R3 (st':=AO) bi c (by rw[u];exact en) (by rw[u];exact⟨rfl,rfl⟩) fun id b1 Q=>es id (AF fun e=>b1 e.symm) Q;exact⟨this.1,fun id fk=>.inl fk,this.2.frame⟩⟩
 replace bi:=AB bi;replace c:=AB c;replace T:=AB T;cases f1 with
 | @wn i k g d r t K h2 ds e4 cx=>
   have ar:AH (Hy p st.d8 st.ev ⟨-1,i,k,t⟩=Eu p 401 ⟨r.node,g.place d r.at_,g.env++(CF d g r.eq t st.d8).1⟩ ⟨(CF d g r.eq t st.d8).2,st.ev++[⟨1,g.place d r.at_,i,k,(CF d g r.eq t st.d8).1⟩],0⟩):=⟨by
    have e2:st.d8.ce[((i:Nat):Int).toNat]? =some g:=K;have e3:d.rules[((k:Nat):Int).toNat]? =some r:=ds;rw[Hy,De,D4 AU,dM];simp only[e2,(Fx h2).2,e3,Q6];exact(Yc p st.ev 401 _ ⟨(CF d g r.eq t st.d8).2,[⟨1,g.place d r.at_,i,k,(CF d g r.eq t st.d8).1⟩],0⟩).symm⟩
   replace cx:=AB cx;replace u:=AB u;have J:G4 p sz π m V h 0 V AO ((h.put (0::0::π) (.box [nI (-1),nI i,nI k,.d (.bv (t.map AL))])).put m (.box (BL p sz V 0))):=d6.1 _ (by rw[get_put,is_self];rfl) fun id b1 Q=>by
    have bv:=AI Q;rw[get_put,b1,get_put,bv];rfl
   have fs:=AH.mk (wk av (π:=10::π) (st:=AO) J.rep (J.apart c.1 (n:=10) AA) (i:=i) (k:=k) (g:=g) (d:=d) (r:=r) (t:=t) (by rw[u.1];exact T.1) (by rw[u.1];exact K) h2 ds (by rw[u.1];exact e4) (by rw[u.1];exact cx.1) (by rw[u.1]) (by rw[u.1];dsimp only;omega));have c4:=AB fun o g1 r=>cR (o:=o) (g1:=g1) (r:=r) c.1 J (show 0<=10 by omega);replace J:=AB J;refine BR Tryz.func55 ?_;refine ax ?_;refine Ad fs.1 (fun ad g1 b=>?_);obtain⟨P,f8⟩:=c4.1 _ _ _ b;have c0:G3 p sz π m V h (Hy p st.d8 st.ev ⟨-1,i,k,t⟩) ad (gc (10::π) g1):=by
    rw[ar.1];rw[u.1]at P;exact P
   replace c0:=AB c0;replace b:=AB b;replace P:=AB P;rcases f8 with rfl|rfl;all_goals
    refine ax ?_;exact c0.1
 | @wait i w K h2=>
   obtain⟨y,U⟩:=O5 av (T.1.wait w (AS K));have fl:=AK K;obtain⟨W,ek,a5,b3,hc,g3,g4⟩:=FV (bi.1.sl 2 AA) K;simp only[Dt]at b3;have fd:=V.s_mem m (i:=2) AA (id:=W) (by rw[a5];simp[AE]);have b8:=c.1 W fd;have cn:=AI b8;have ex:=Aj b8;have em:Id.is W m=false:=Fi b3 bo;have ea:Id.is m W=false:=Fi bo b3;have gu: ¬(i:Int)<0:=AA;have ha:IntKind.i64.wrap ((i:Int)+1)=(i:Int)+1:=wrap_id AA AA;have a6:=U.node;have gs:=U.n0;have gv:=AK a6;have gr:=AB bo;rw[a5]at bo;replace u:=AB u;replace U:=AB U;have c2:=fun(H:AD) (n:Nat) (e8:H.get W=some (.em 3 (st.d8.waits.map Ae++ek)))=>YZ (π:=n::π) e8 (AJ b8 n) (n:=st.d8.waits.length) (a:=i) AG AA (by intro e fi;obtain⟨x,_,rfl⟩:=F1.1 fi;rfl) AA;replace c2:=AB c2;obtain⟨X,Y⟩: ∃X:AD,X=(((h.put (0::0::π) (.box [nI i,nI 0,nI 0,.d (.bv [])])).put m (.box [V.s 0,V.s 1,V.v3,.f8 W 0 st.d8.waits.length,.d (.bv (p.free.map Br)),.d (.bv (p.nodes.map Bc)),.d (.bv (p.defs.map B4)),nI p.main,.d (.bv (sz.map AL)),V.v9,.mp V.un,V.s 3,nI 0])).put (0::17::π) (.box [nI 0,nI 0,.d7])).put (0::17::π) (.box [nI w.at_,nI w.node,.d (.bv (w.env.map AN))]):=⟨_,rfl⟩;have J:G4 p sz π m V h 0 V AO X:=d6.1 X (by rw[Y,get_put,df,get_put,df,get_put,is_self,Ci AG,Ci AG,D4 rfl,BL,a5]) fun id b1 Q=>by
    have bv:=AI Q;rw[Y,get_put,bv,get_put,bv,get_put,b1,get_put,bv];rfl
   have f2:X.get (0::0::π)=some (.box [nI i,nI 0,nI 0,.d (.bv [])]):=by
    rw[Y,get_put,AF AG,get_put,AF AG,get_put,dm,get_put,is_self];rfl
   have a7:X.get (0::17::π)=some (.box [nI w.at_,nI w.node,.d (.bv (w.env.map AN))]):=by
    rw[Y,get_put,is_self];rfl
   clear f2;have dr:X.get m=some (.box [V.s 0,V.s 1,V.v3,.f8 W 0 st.d8.waits.length,.d (.bv (p.free.map Br)),.d (.bv (p.nodes.map Bc)),.d (.bv (p.defs.map B4)),nI p.main,.d (.bv (sz.map AL)),V.v9,.mp V.un,V.s 3,nI 0]):=by rw[J.rep.box,BL,a5,u.1]
   have dn:X.get W=some (.em 3 (st.d8.waits.map Ae++ek)):=by
    rw[Y,get_put,cn,get_put,cn,get_put,ea,get_put,cn];exact b3
   refine BR Tryz.func55 ?_;refine ax ?_;rw[<-Y];refine Ad (c2.1 _ 30 dn) (fun ad g1 b=>?_);obtain⟨rfl,⟨ga,b⟩,P⟩:=b;have f9:=AJ b8 30;have f':=AJ dd 30;have f3:=(An (30::π) g1 _ (Au π (show 17≠30 by omega))).trans ((P _ (ex 0 17)).trans a7);have e1:=(An (30::π) g1 _ f').trans ((P _ em).trans dr);have dq:=(An (30::π) g1 _ f9).trans b;obtain⟨q,f⟩: ∃eb:BU,eb={st.d8 with waits:=CY st.d8.waits i}:=⟨_,rfl⟩
   obtain⟨C,M⟩: ∃C,C=((gc (30::π) g1).put m (.box [V.s 0,V.s 1,V.v3,.f8 W 0 (st.d8.waits.length-1),.d (.bv (p.free.map Br)),.d (.bv (p.nodes.map Bc)),.d (.bv (p.defs.map B4)),nI p.main,.d (.bv (sz.map AL)),V.v9,.mp V.un,V.s 3,nI 0])):=⟨_,rfl⟩;have b0:C.get m=some (.box (BL p sz (V.ip 2 (.f8 W 0 (st.d8.waits.length-1))) 0)):=by rw[M,get_put,is_self];rfl
   have cc:KJ C 3 (.f8 W 0 (st.d8.waits.length-1)) (Ax ⟨q,st.ev,0⟩ 2):=by
    refine Ao ga ?_ ?_
    .rw[f,Ax,As,XE (by simpa using fl)]
    .rw[M,get_put,ea,Ci AG,dq,f,Ax,CY,BE,OK,Pp,F7]
   obtain⟨a4,A,_⟩:=(J.up (b':=30) AA).step (b':=36) AA (Dc (st':=⟨q,st.ev,0⟩) 2 AA J.rep ((J.up (b':=30) AA).apartB c.1) (XO (by rw[f,u.1]) (by rw[f,u.1]) (by rw[u.1])) (by rw[f,u.1]) (.f8 W 0 (st.d8.waits.length-1)) C b0 cc (.inl (by rw[a5];rfl)) fun id b1 Q de=>by rw[M,get_put,b1,Ci AG,An _ _ _ (Ko de AA AA),P id (Q W (by rw[a5];simp[AE]))]);have a7:C.get (0::17::π)=some (.box [nI w.at_,nI w.node,.d (.bv (w.env.map AN))]):=by
    rw[M,get_put,dm,Ci AG];exact f3
   have cp:=A.rep.box;have c1:a4.s 0=V.s 0:=by
    have:=Obj.box.inj (Ip (b0.symm.trans A.rep.box));simp only[BL,Ms]at this;exact this.1.symm
   simp only[BL]at cp;replace b0:=AB b0;replace cc:=AB cc;replace Y:=AB Y;replace J:=AB J;replace f:=AB f;replace b:=AB b;replace P:=AB P;clear dr dn dq;replace M:=AB M;replace cp:=AB cp;replace a7:=AB a7;have bs:Fo p sz q:=by
    rw[f.1];exact O2 T.1 zFq fun v d'=>T.1.wait v (Ob d')
   have b5:=T.1.wait w (AS K);replace bs:=AB bs;replace b5:=AB b5;have fr:=U.1.op;by_cases be:y.op=7
   .have ar:AH (Hy p st.d8 st.ev ⟨i,0,0,[]⟩=some ⟨PR q w.at_,st.ev++[⟨3,w.at_,0,0,[]⟩],0⟩):=⟨by rw[f.1];exact P1 K a6 be⟩;clear fr;replace h2:=AB h2;replace A:=AB A;have f0:=AB fun H c6=>AAe av (h:=H) (π:=53::π) (A.1.loc c.1 (H:=H) c6).rep (A.1.apart c.1 (n:=53) AA) bs.1 (at_:=w.at_) (by have:=b5.1;simp only[Cc,AP,Ap]at this;rw[f.1];exact this.1) AU;have c4:=AB fun H c6 o g1 r=>cR (o:=o) (g1:=g1) (r:=r) c.1 (A.1.loc c.1 (H:=H) c6) (show 36<=53 by omega);refine ax ?_;rw[<-M.1];have d4: ∀ad b6:Abs.Obj,∀id,(∀a n,36<=n->Id.is (a::n::π) id=false)->((C.put (0::44::π) ad).put (0::44::π) b6).get id=C.get id:=fun ad b6 id N=>by rw[get_put,N 0 44 AA,get_put,N 0 44 AA];rfl
    refine Ad (f0.1 _ (d4 _ _)) (fun ad g1 b=>?_);obtain⟨z,b7⟩:=c4.1 _ (d4 _ _) _ _ _ b;replace z:=AB z;obtain rfl:=b.1;replace b:=AB b;refine ax ?_;rw[ar.1];exact z.1
   .obtain⟨v,d',a1,c'⟩:=U.1.val be;obtain⟨L,c5⟩:=eC av U.1 be;obtain⟨g5,g6⟩:=U.1.n be;have B:=h2;rw[ol,a6]at B;simp only[be,FN,a1]at B;have d3:v.kind=4:=by
     by_cases d2:v.kind=4
     .exact d2
     .rw[Ci d2]at B;cases B
    rw[D4 d3]at B;obtain⟨a',g',g2,g0⟩:=c' d3;have gw:=a'.1;have gz:=a'.2;have az:=U.1.at_;have bl:=fun(s:BU) (h:Cc p sz s w=true)=>OQ av h a6 0;rw[show BN y 0 w.at_ w.env=[⟨L,w.at_,w.env⟩] by rw[BN,c5];rfl]at bl;replace h2:=AB h2;replace c':=AB c';replace A:=AB A;replace a':=AB a';replace bl:=AB bl;by_cases e5:y.op=6
    .rw[Ci AA]at B;simp only[AP,Ap,HW]at B;have d5:0<w.at_:=by have:=az.1;omega
     have gi:=az.1;have gm:=az.2;obtain⟨sp,d8⟩:=get_some (l:=st.d8.ac) (i:=w.at_.toNat) AA;have c7:=MA T.1 d5 az a'.1 B.2.1 B.2.2;have c8:=MA bs.1 (i:=w.at_) (n:=v.n) d5 (by rw[f.1];exact az) (by rw[f.1];exact a'.1) (by rw[f.1];exact B.2.1) (by rw[f.1];exact B.2.2);obtain⟨S,bc,bk,ai,hb,f4,f5⟩:=FV (A.1.rep.sl 0 AA) (show q.ac[w.at_.toNat]? =some sp by rw[f.1];exact d8);simp only[Dt]at ai;have d7:q.ac.length=st.d8.ac.length:=by rw[f.1]
     have fv:AH (FY q.ac w.at_ v.n=q.ac.set w.at_.toNat {sp with pp:=v.n}):=⟨by rw[FY,f.1];simp only[d8]⟩
     obtain⟨bx,O⟩: ∃ej:BU,ej={q with ac:=FY q.ac w.at_ v.n}:=⟨_,rfl⟩
     have ar:AH (Hy p st.d8 st.ev ⟨i,0,0,[]⟩=Eu p 401 ⟨L,w.at_,w.env⟩ ⟨bx,st.ev++[⟨2,w.at_,v.n,0,[]⟩],0⟩):=⟨by rw[O,f.1];exact Vg K a6 e5 c5 a1⟩;obtain⟨I,D⟩: ∃I,I=(C.put (0::44::π) (.box [nI 0,nI 0,.d7,.d7])).put (0::44::π) (.box [nI 6,nI y.n,.d (.bv (y.args.map BT)),.d (.bv [[.int .i64 L]])]):=⟨_,rfl⟩;have F:G4 p sz π m V h 52 a4 ⟨q,st.ev,0⟩ I:=(A.1.loc c.1 (H:=I) fun id N=>by rw[D,get_put,N 0 44 AA,get_put,N 0 44 AA];rfl).up AA;have d1:=a4.s_mem m (i:=0) AA (id:=S) (by rw[bk];simp[AE]);have g7:=C4 (b':=0) c.1 (A.1.ids S d1);have b2: ∀k,Id.is S (0::k::π)=false:=fun k=>AF fun e=>Dv A.1 c.1 k (by rw[<-e];exact d1);have e':Id.is S m=false:=AF fun e=>by rw[e,A.1.rep.box]at ai;cases ai
     have fp:Id.is m S=false:=AF fun e=>by rw[<-e,A.1.rep.box]at ai;cases ai
     have gg:(gc (30::π) g1).get S=some (.em 2 (q.ac.map Aw++bc)):=by
      have e7:=ai
      rwa [M.1,get_put,fp,Ci AG]at e7
     have b4:=M.1;rw[<-c1,bk,d7]at e1 b4;have d0:I.get S=some (.em 2 (q.ac.map Aw++bc)):=by
      rw[D,get_put,AF (fun e=>by have:=b2 44;rw[e,is_self]at this;cases this),get_put,AF (fun e=>by have:=b2 44;rw[e,is_self]at this;cases this)];exact ai
     obtain⟨ag,Z⟩: ∃ag,ag=I.put S (.em 2 ((q.ac.map Aw++bc).set w.at_.toNat [.int .i64 v.n,.bool sp.dead])):=⟨_,rfl⟩;have c9:bx.ac.map Aw++bc=(q.ac.map Aw++bc).set w.at_.toNat [.int .i64 v.n,.bool sp.dead]:=by
      rw[O,fv.1,Ro _ _ Aa,JP];rfl
     have ch:ag.get m=some (.box (BL p sz (a4.ip 0 (.f8 S 0 q.ac.length)) 0)):=by
      rw[Z,get_put,e',Ci AG,F.rep.box];simp only[BL,<-bk];rfl
     have cl:KJ ag 2 (.f8 S 0 q.ac.length) (Ax ⟨bx,st.ev,0⟩ 0):=by
      refine Ao bc ?_ ?_
      .rw[Ax,As,O,Ji]
      .rw[Z,get_put,is_self,D4 rfl,Ax,c9]
     obtain⟨el,a0,_⟩:=F.step (b':=69) AA (Dc (st':=⟨bx,st.ev,0⟩) 0 AA F.rep (F.apartB c.1) (XN (by rw[O]) (by rw[O]) rfl) (by rw[O]) (.f8 S 0 q.ac.length) ag ch cl (.inl (by rw[bk])) fun id b1 Q de=>by rw[Z,get_put,Q S (by rw[bk];simp[AE])];rfl);have a3:ag.get (0::44::π)=some (.box [nI 6,nI y.n,.d (.bv (y.args.map BT)),.d (.bv [[.int .i64 L]])]):=by rw[Z,get_put,b2,Ci AG,D,get_put,is_self];rfl
     have a2:ag.get (0::17::π)=some (.box [nI w.at_,nI w.node,.d (.bv (w.env.map AN))]):=by
      rw[Z,get_put,b2,Ci AG,D,get_put,AF AG,get_put,AF AG];exact a7.1
     replace ch:=AB ch;replace cl:=AB cl;replace c9:=AB c9;replace d0:=AB d0;replace a0:=AB a0;replace a3:=AB a3;replace a2:=AB a2;replace Z:=AB Z;replace b4:=AB b4;rw[d7]at f4 f5;replace F:=AB F;replace D:=AB D;replace O:=AB O;replace c7:=AB c7;replace c8:=AB c8;replace B:=AB B;replace a1:=AB a1;replace az:=AB az;replace c1:=AB c1;refine ax ?_;rw[<-b4.1,<-D.1,<-Z.1];refine Ad (Kc (V:=el) (st:=⟨bx,st.ev,0⟩) a0.1.rep (a0.1.apart c.1 (n:=79) AA) 2 w.at_ v.n 0 [] AG AU) (fun ad g1 b=>?_);obtain⟨gf,R,_⟩:=a0.1.call c.1 (n:=79) AA b;have f6:=(a0.1.box c.1 (k:=17) AA b).trans a2.1;have f7:=(a0.1.box c.1 (k:=44) AA b).trans a3.1;obtain rfl:=b.1;have cs:=R.rep.box;simp only[BL]at cs;have c3:=AB fun C=>QS av c.1 R (j:=⟨L,w.at_,w.env⟩) ⟨by rw[O.1];exact c8.1,AU,AU,AU,Aa⟩ (by rw[O.1,f.1];exact KO (bl.1 _ (c7.1.wait w (AS K)) ⟨L,w.at_,w.env⟩ AG) (CY st.d8.waits i)) C 89 AA;replace R:=AB R;replace b:=AB b;refine ax ?_;refine Ad (c3.1 _ fun id N=>rfl) (fun b6 e0 z=>?_);obtain⟨z,b7⟩:=z;rw[<-ar.1]at z;replace z:=AB z;rcases b7 with rfl|rfl;all_goals
      refine ax ?_;exact z.1
    .have e6:y.op=8:=AA;have ar:AH (Hy p st.d8 st.ev ⟨i,0,0,[]⟩=Eu p 401 ⟨L,w.at_,w.env⟩ ⟨q,st.ev++[⟨4,w.at_,v.n,0,[]⟩],0⟩):=⟨by rw[f.1];exact P2 K a6 e6 c5 a1⟩;replace B:=AB B;replace a1:=AB a1;obtain⟨I,D⟩: ∃I,I=(C.put (0::44::π) (.box [nI 0,nI 0,.d7,.d7])).put (0::44::π) (.box [nI 8,nI y.n,.d (.bv (y.args.map BT)),.d (.bv [[.int .i64 L]])]):=⟨_,rfl⟩;have F:G4 p sz π m V h 54 a4 ⟨q,st.ev,0⟩ I:=(A.1.loc c.1 (H:=I) fun id N=>by rw[D,get_put,N 0 44 AA,get_put,N 0 44 AA];rfl).up AA;have a3:I.get (0::44::π)=some (.box [nI 8,nI y.n,.d (.bv (y.args.map BT)),.d (.bv [[.int .i64 L]])]):=by rw[D,get_put,is_self];rfl
     have a2:I.get (0::17::π)=some (.box [nI w.at_,nI w.node,.d (.bv (w.env.map AN))]):=by
      rw[D,get_put,AF AG,get_put,AF AG];exact a7.1
     replace F:=AB F;replace a3:=AB a3;replace a2:=AB a2;replace D:=AB D;refine ax ?_;rw[<-M.1,<-D.1];refine Ad (Kc (V:=a4) (st:=⟨q,st.ev,0⟩) F.1.rep (F.1.apart c.1 (n:=64) AA) 4 w.at_ v.n 0 [] AG AU) (fun ad g1 b=>?_);obtain⟨gb,R,_⟩:=F.1.call c.1 (n:=64) AA b;have f6:=(F.1.box c.1 (k:=17) AA b).trans a2.1;have f7:=(F.1.box c.1 (k:=44) AA b).trans a3.1;obtain rfl:=b.1;have cs:=R.rep.box;simp only[BL]at cs;have c3:=AB fun C=>QS av c.1 R (j:=⟨L,w.at_,w.env⟩) ⟨bs.1,AU,AU,AU,Aa⟩ (by rw[f.1];exact KO (bl.1 _ b5.1 ⟨L,w.at_,w.env⟩ AG) _) C 74 AA;replace R:=AB R;replace b:=AB b;refine ax ?_;refine Ad (c3.1 _ fun id N=>rfl) (fun b6 e0 z=>?_);obtain⟨z,b7⟩:=z;rw[<-ar.1]at z;replace z:=AB z;rcases b7 with rfl|rfl;all_goals
      refine ax ?_;exact z.1
def qh{a b:List Int}(g:a.length=b.length){i:Nat}{x y:Int}(f:a[i]? =some x)(c:b[i]? =some y)(h: ¬x=y):decide (a=b)=false:=by
 refine DL fun e=>?_;subst e;rw[f]at c;exact h (Ip c)
def Zh(a b:List Int)(s:a.length<=1000000):BX kT 29 [.d (.bv (a.map AL)),.d (.bv (b.map AL))] []=.ok (.ret (.d (.bool (decide (a=b)))),[]):=by
 by_cases p:(a.length:Int)=b.length
 .refine Az Tryz.func29 ?_;refine aw ?_;refine Ah a (S:=fun i (_:Unit)=>⟨[(0,.d (.bv (a.map AL))),(1,.d (.bv (b.map AL))),(5,nI i)],[],0,[]⟩)
   (Inv:=fun i t _=>AH (a.take i=b.take i)) (b0:=()) ⟨AG⟩ ?_ ?_
  .rintro i y _ g f o c l;have n:i<b.length:=AA;have m:(i:Int)<b.length:=AA;have u:IntKind.i64.wrap ((i:Int)+1)=(i:Int)+1:=wrap_id AA AA;obtain⟨z,k⟩:=get_some n;have q:=AH.mk (qh AA g k);by_cases j:y=z
   .subst j;have r:AH (a.take (i+1)=b.take (i+1)):=⟨by rw[GC,GC,c.1,g,k]⟩;refine aw ?_;exact l.1 () r
   .rw[q.1 j];exact au
  .rintro i _ f o c;have:decide (a=b)=true:=D6 (by
    have h:=c.1
    rwa [f.1,D2,show a.length=b.length by omega,D2]at h)
   rw[this];have m: ¬(i:Int)<b.length:=AA;exact au
 .rw[DL fun e=>p (by rw[e])];refine Az Tryz.func29 ?_;exact au
