/-
  Parts of it.
-/
import Derived.Test.YtbinfhpngacfgaaGreatDe10
import Derived.Test.YtbinfhpngacfgaaGreatDe11
import Derived.Test.YtbinfhpngacfgaaGreatDe12
set_option linter.all false
namespace Go.Abs
theorem S3{α:Type}{f:α→List AZ}{l:List α}{g:G}{sz:Nat}{k:IntKind}{m:Int}(hf: ∀a,(f a).length=sz)(h0:0≤m)(hm:m≤l.length):EU g .slice sz (.d (.be (l.map f))) (some (.d (.int k m))) none none=some (.d (.be ((l.drop m.toNat).map f))):=by
 have hb:DI (some (.d (.int k m))) none none (l.map f).length=some (m.toNat,(l.map f).length,none):=by
  simp[DI,Gk,HC,h0,hm]
 have he:Kl sz (l.map f)=true:=by
  cases l with
  |nil=>rfl
  |cons a l=>simp only[D8,Kl,HL,Ap];exact hf a
 show L9 sz (l.map f) (DI (some (.d (.int k m))) none none (l.map f).length)=_;rw[hb];have hr:Nat.ble m.toNat (l.map f).length=true:=by rw[Gj];simp;omega
 have h2:Nat.ble (l.map f).length (l.map f).length=true:=by rw[Gj];simp
 simp only[L9,hr,h2,he,Lw,F3,TO];rw[DL (by simp)]
end Go.Abs
namespace Go.Proofs
open Go Go.Abs
set_option maxRecDepth 100000
set_option maxHeartbeats 4000000
variable{g:G}{k:IntKind}{m:Int}
theorem fc{l:List BL}(h0:0≤m)(hm:m≤l.length):EU g .slice 2 (.d (.be (l.map Aa))) (some (.d (.int k m))) none none=some (.d (.be ((l.drop m.toNat).map Aa))):=S3 (fun _=>rfl) h0 hm
theorem pf{l:List CT}(h0:0≤m)(hm:m≤l.length):EU g .slice 2 (.d (.be (l.map AL))) (some (.d (.int k m))) none none=some (.d (.be ((l.drop m.toNat).map AL))):=S3 (fun _=>rfl) h0 hm
theorem SB{h:AB}{π:List Nat}{m gid:Abs.Id}{p:AI}{s:BM}{st:BN}{x9 x10 x11 x12:AV}(hlk:looks p=some st)
 (hm:h.get m=some (.box [.d (.be (s.ac.map Aa)),.d (.be (s.bi.map An)),.d (.be (s.am.map Bc)),.d (.be (s.waits.map AU)),.d (.be (p.free.map Av)),.d (.be (p.nodes.map Ad)),.d (.be (p.defs.map Ax)),.d (.int .i64 (p.main)),.d (.be (st.ce.map AK)),x9,x10,x11,x12])) (um:Id.under π m=false) (h9:x9=slv gid p.defs.length) (hg:p.defs.length≠0→h.get gid=some (.co 1 ((BQ p st.ce).map AK))) (ug:Id.under π gid=false):
 ∃o h',KL Tryz.prog cfg (.fn 91) [.ptr m 0] h π true (some π)=.ok (o,h')∧o=(H6 (CL 2) (DG p st.ce s)).1:=by
 have e1:=AG um;have e2:=Al um;have e3:=AF um;have e4:=AG ug;have e5:=Al ug;have e6:=AF ug;have hF:=AA.mk (B5 hlk);have hsm:=hF.out.small;simp only[AI.small,AP,Ap]at hsm;obtain⟨c1,c2,c3⟩:=hsm;have hgl:(BQ p st.ce).length=p.defs.length:=by rw[BQ,IU];simp
 by_cases hss:s.small=true
 .have hok:AA (DG p st.ce s=(GZ s.ac&&(Fa s.ac (s.ac.drop 1)&&(Br p (BQ p st.ce) s 0 0 1 s.bi&&s.waits.all (Bz p st.ce s))))):=⟨by rw[DG,hss,D7]⟩;simp only[BM.small,AP,Ap]at hss;obtain⟨s1,s2,s3,s4⟩:=hss;have y1:(s.ac.length:Int)≤24:=by omega
  have y2:(s.bi.length:Int)≤40:=by omega
  have y3:(s.am.length:Int)≤60:=by omega
  have y4:(s.waits.length:Int)≤40:=by omega
  have htr:=ABN s.ac (by omega);cases htb:GZ s.ac with
  |false=>
   rw[htb]at hok htr;rw[hok.out]
   (refine Ah rfl Tryz.func91 rfl rfl rfl ?_;show Wp _ _ _ _ (Tryz.f91.body.get rfl) _ _;simp only[Tryz.f91,AS])
   refine aw ?_;rfl
  |true=>
   rw[htb,D7]at hok;rw[htb]at htr;have hT:=PH htb;have htop:=hT.top;have hn0:(1:Int)≤s.ac.length:=by have:=hT.pos;omega
   replace hT:=AA.mk hT
   (refine Ah rfl Tryz.func91 rfl rfl rfl ?_;show Wp _ _ _ _ (Tryz.f91.body.get rfl) _ _;simp only[Tryz.f91,AS])
   (repeat' (first|simp only[go_sem, *]|(refine sx ?_ ?_<;>intro hc)|refine sy (by omega) fun x hx hm=>?_|simp(disch:=first|assumption|omega) only[AJ,fc]))
   refine AY (s.ac.drop 1) _ (S:=fun m' i (a:AB×Nat)=>⟨[(0,.ptr m 0),(65,.d (.be ((s.ac.drop 1).map Aa))),(66,.d (.int .i64 (m'))),(67,.d (.int .i64 (i)))],a.1,a.2+49,[]⟩)
    (Inv:=fun i rest a=>a.1.get m=h.get m∧a.1.get gid=h.get gid∧AA (Fa s.ac (s.ac.drop 1)=Fa s.ac rest)) (b0:=(h,_)) rfl ⟨rfl,rfl,⟨rfl⟩⟩ ?_ ?_
   .rintro i y ⟨g,c⟩ hy hi him ⟨hgm,hgg,hr⟩ IH;dsimp only at*;have hy0:=hy;rw[HE]at hy;have hi0:=hi;rw[Io]at hi;have hbad:AA (Fa s.ac (s.ac.drop 1)=false→Ae.f9 (CL 2)=(H6 (CL 2) (DG p st.ce s)).1):=⟨fun h=>by rw[hok.out,h];rfl⟩;have hpar:Dd s.ac y.of:=by
     have h1:=hT.out.pm (((1+i:Nat):Int)) ⟨by omega,by omega⟩;obtain⟨k,hk⟩: ∃k,s.ac.length=k+1:=⟨s.ac.length-1,by omega⟩;rw[hk]at h1;have h2:=(E9 (by omega) h1).1
     rwa [Jq (s:=y) (by rw[←hy];congr 1)]at h2
    obtain⟨p1,p2⟩:=hpar;obtain⟨z,hz⟩:=get_some (l:=s.ac) (i:=y.of.toNat) (by omega);have hda:AA (AW s.ac y.of=z.dead):=⟨by simp[AW,hz]⟩;rw[Fa]at hr;replace hy:=AA.mk hy;cases hyd:y.dead<;>cases hzd:z.dead;all_goals (refine aw ?_)
    all_goals first
    |(refine IH.out (_,_) ⟨?_,?_,⟨?_⟩⟩
      .simp only[go_sem,e1,hgm,AM]
      .simp only[go_sem,e4,hgg,AM]
      .rw[hr.out,hyd,hda.out,hzd];simp)
    |(refine IH.out (_,_) ⟨?_,?_,⟨?_⟩⟩
      .simp only[go_sem,e1,hgm,AM]
      .simp only[go_sem,e4,hgg,AM]
      .rw[hr.out,hyd];simp)
    |exact hbad.out (by rw[hr.out,hyd,hda.out,hzd];rfl)
   .rintro i ⟨g,c⟩ hi him ⟨hgm,hgg,hr⟩;dsimp only at*;rw[Fa]at hr;refine aw ?_;clear hi him;have hok2:AA (DG p st.ce s=(Br p (BQ p st.ce) s 0 0 1 s.bi&&s.waits.all (Bz p st.ce s))):=⟨by rw[hok.out,hr.out,D7]⟩;clear hok hr i;refine AY s.bi _ (S:=fun m' i (a:AB×Nat×Nat×Nat)=>⟨[(0,.ptr m 0),(4,.d (.int .i64 (a.2.2.1))),(5,.d (.int .i64 (a.2.2.2))),(92,.d (.be (s.bi.map An))),(93,.d (.int .i64 (m'))),(94,.d (.int .i64 (i)))],a.1,a.2.1+59,[]⟩)
     (Inv:=fun i rest a=>a.1.get m=h.get m∧a.1.get gid=h.get gid∧a.2.2.1≤30*i∧a.2.2.2≤30*i+1∧AA (DG p st.ce s=(Br p (BQ p st.ce) s i a.2.2.1 a.2.2.2 rest&&s.waits.all (Bz p st.ce s)))) (b0:=(g,_,0,1)) rfl ⟨hgm,hgg,by simp,by simp,hok2⟩ ?_ ?_
    .clear hgm hgg hok2 g c;rintro i gr ⟨g,n,c,k⟩ hy hi him ⟨hgm,hgg,b1,b2,hr⟩ IH;dsimp only at*;by_cases x0:gr.eq<0
     .have x0: ¬0≤gr.eq:=by omega
      have hf:AA (DG p st.ce s=false):=⟨by rw[hr.out,Br,AI.def?,CS (by omega),By]⟩;refine aw ?_;all_goals (rw[hf.out];rfl)
     by_cases x1:(p.defs.length:Int)≤gr.eq
     .have x1: ¬gr.eq<p.defs.length:=by omega
      have x0:0≤gr.eq:=by omega
      have hf:AA (DG p st.ce s=false):=⟨by rw[hr.out,Br,AI.def?,DO (by omega),I6 (by omega),By]⟩;refine aw ?_;all_goals (rw[hf.out];rfl)
     have x2:0≤gr.eq:=by omega
     have x3:gr.eq<p.defs.length:=by omega
     have hdl:gr.eq.toNat<p.defs.length:=by omega
     have hD:p.defs.length≠0:=by omega
     obtain⟨d,hd⟩:=get_some hdl;have hdf:=CD hF.out hd;obtain⟨v,hv⟩:=get_some (l:=BQ p st.ce) (i:=gr.eq.toNat) (by omega);have hv2:d.own≤v∧v≤5060:=by
      obtain⟨_,_,s0,_,_,_,_,q0,q1,q2,_⟩:=hdf.node;rw[hv]at q2;cases q2;have:=Nk hdf.ok;omega
     have hstep:AA (DG p st.ce s=((JG p (BQ p st.ce) s i c k gr d&&Br p (BQ p st.ce) s (i+1) (c+d.am.length) (k+d.ac.length) (s.bi.drop (i+1)))&&s.waits.all (Bz p st.ce s))):=⟨by
      rw[hr.out,Br,AI.def?,DO x2,hd]⟩
     have hgo:AA (JG p (BQ p st.ce) s i c k gr d=(decide (Dd s.ac gr.at_)&&(decide ((gr.env.length:Int)=v)&&(gr.env.all (CT.inB p s.am.length s.ac.length)&&(C7 d c k gr&&Dz p s d gr i c 0 d.am))))):=⟨by
      rw[JG,hv];rfl⟩
     have hbad:AA (JG p (BQ p st.ce) s i c k gr d=false→Ae.f9 (CL 2)=(H6 (CL 2) (DG p st.ce s)).1):=⟨fun h=>by rw[hstep.out,h];rfl⟩;have hdo:=hdf.ok;have d1:=hdo.am;have d2:=hdo.ac;have d3:d.own=d.am.length+d.ac.length:=rfl;replace hdo:=AA.mk hdo;replace hdf:=AA.mk hdf;have hg2:=hg hD;rw[BC hD]at h9;refine aw ?_;refine DF (aQ (sp:=s.ac.map Aa) (Eq.trans (b:=h.get m) ?_ hm) (by simp;omega) gr.at_) (fun o1 g1 p1=>?_)
     .simp only[go_sem,e1,hgm,AM]
     by_cases hin:Dd s.ac gr.at_
     .have hin2:=hin;replace p1:o1=.ret (.ge []):=by
       rw[p1,Co hin.1,BI,Co hin.2];rfl
      subst p1;replace hin:=AA.mk hin;have hge:h.get gid=some (.co 1 ((BQ p st.ce).map AK)):=hg2;refine aw ?_;refine DF (WC (p:=p) (sp:=s.ac.map Aa) (ch:=s.am.map Bc) (Eq.trans (b:=h.get m) ?_ hm) (e3 _) (by simp;omega) (by simp;omega) (by omega) gr.env v (by omega)) (fun o2 g2 p2=>?_)
      .simp only[go_sem,e1,hgm,AM]
      rw[BI,BI]at p2;by_cases hev:(decide ((gr.env.length:Int)=v)&&gr.env.all (CT.inB p s.am.length s.ac.length))=true
      .rw[hev]at p2;replace p2:o2=.ret (.ge []):=p2;subst p2;rw[AP,Ap]at hev;obtain⟨hlen,hall⟩:=hev;have hlt:gr.env.length≤5060:=by omega
       have hown:d.own≤gr.env.length:=by omega
       have hgo2:AA (JG p (BQ p st.ce) s i c k gr d=(C7 d c k gr&&Dz p s d gr i c 0 d.am)):=⟨by
        rw[hgo.out,Co hin.out,Co hlen,hall,D7,D7,D7]⟩
       clear hgo;replace hlen:=AA.mk hlen;replace hall:=AA.mk hall;obtain⟨E,hE⟩: ∃E,E=gr.env.drop (gr.env.length-d.am.length-d.ac.length):=⟨_,rfl⟩;have hEl:E.length=d.am.length+d.ac.length:=by rw[hE,Io];omega
       have w1:IntKind.i64.wrap ((gr.env.length:Int)-(d.am.length:Int))=(gr.env.length:Int)-(d.am.length:Int):=wrap_id (by omega) (by omega);have w2:IntKind.i64.wrap ((gr.env.length:Int)-(d.am.length:Int)-(d.ac.length:Int))=((gr.env.length-d.am.length-d.ac.length:Nat):Int):=by rw[wrap_id (by omega) (by omega)];omega
       have w3: ∀g0:G,EU g0 .slice 2 (.d (.be (gr.env.map AL))) (some (.d (.int .i64 ((gr.env.length-d.am.length-d.ac.length:Nat):Int)))) none none=some (.d (.be ((gr.env.drop (gr.env.length-d.am.length-d.ac.length)).map AL))):=fun g0=>pf (by omega) (by omega);rw[←hE]at w3;have hm0:AA (C7 d c k gr=decide (E.drop 0=(Ef c k d).drop 0)):=⟨by rw[hE];rfl⟩;replace hE:=AA.mk hE;have q43: ¬n=n+43:=by omega
       have r43: ¬n+43=n:=by omega
       refine ax ?_;clear w1 w2 w3 q43 r43;refine AY d.am _ (S:=fun m' i2 (a:AB×Nat)=>⟨[(0,.ptr m 0),(4,.d (.int .i64 (c))),(5,.d (.int .i64 (k))),(6,.d (.int .i64 (i))),(7,.ptr (0::(n+63)::π) 0),(8,.ptr (0::(n+106)::π) 0),(9,.d (.be (E.map AL))),(92,.d (.be (s.bi.map An))),(93,.d (.int .i64 (s.bi.length))),(94,.d (.int .i64 (i))),(155,.d (.int .i64 (m'))),(156,.d (.int .i64 (i2)))],a.1,a.2+127,[]⟩)
        (Inv:=fun i2 rest a=>a.1.get m=h.get m∧a.1.get gid=h.get gid∧a.1.get (0::(n+63)::π)=some (.box [.d (.int .i64 (gr.eq)),.d (.int .i64 (gr.at_)),.d (.be (gr.env.map AL))])∧a.1.get (0::(n+106)::π)=some (.box [.d (.be (d.am.map Az)),.d (.be (d.ac.map Aj)),.d (.be (d.rules.map Ay))])∧n≤a.2∧AA (C7 d c k gr=decide (E.drop i2=(Ef c k d).drop i2))) (b0:=(_,_)) rfl ⟨?_,?_,?_,?_,?_,hm0⟩ ?_ ?_
       .simp only[go_sem,e1,hgm,AM]
       .simp only[go_sem,e4,hgg,AM]
       .have q43: ¬n=n+43:=by omega
        have r43: ¬n+43=n:=by omega
        simp only[go_sem,q43,r43,AM]
       .simp only[go_sem,AM]
       .exact EL _
       .clear hm0 hgm hgg g;rintro i2 y ⟨g,n2⟩ hy2 hi2 him2 ⟨hgm,hgg,g63,g106,hn2,hr2⟩ IH2;dsimp only at*;obtain⟨u,hu⟩:=get_some (l:=E) (i:=i2) (by omega);have hE2:(i2:Int)<E.length:=by omega
        have hr3:AA (C7 d c k gr=(decide (u=⟨3,(c:Int)+(i2:Int)⟩)&&decide (E.drop (i2+1)=(Ef c k d).drop (i2+1)))):=⟨by
         rw[hr2.out,Iz hu,Iz (Ln c k d hi2),Nl];simp⟩
        have w4:IntKind.i64.wrap ((c:Int)+(i2:Int))=(c:Int)+(i2:Int):=wrap_id (by omega) (by omega);by_cases hu2:u=⟨3,(c:Int)+(i2:Int)⟩
        .subst hu2;refine ax ?_;refine IH2.out (_,_) ⟨hgm,hgg,g63,g106,?_,⟨?_⟩⟩
         .dsimp only;omega
         .rw[hr3.out,Co rfl,D7]
        .have hne:(decide (u.kind=3)&&decide (u.n=(c:Int)+(i2:Int)))=false:=by
          rw[←KW,AP,Ap,Ap];rintro⟨h1,h2⟩;exact hu2 (by cases u;simp_all)
         refine ax ?_;exact hbad.out (by rw[hgo2.out,hr3.out,CE hu2];rfl)
       .clear hm0 hgm hgg g;rintro i2 ⟨g,n2⟩ hi2 him2 ⟨hgm,hgg,g63,g106,hn2,hr2⟩;dsimp only at*;rw[hi2.out]at hr2;refine ax ?_;clear hi2 him2 i2;refine AY d.ac _ (S:=fun m' j (a:AB×Nat)=>⟨[(0,.ptr m 0),(4,.d (.int .i64 (c))),(5,.d (.int .i64 (k))),(6,.d (.int .i64 (i))),(7,.ptr (0::(n+63)::π) 0),(8,.ptr (0::(n+106)::π) 0),(9,.d (.be (E.map AL))),(92,.d (.be (s.bi.map An))),(93,.d (.int .i64 (s.bi.length))),(94,.d (.int .i64 (i))),(172,.d (.int .i64 (m'))),(173,.d (.int .i64 (j)))],a.1,a.2+132,[]⟩)
         (Inv:=fun j rest a=>a.1.get m=h.get m∧a.1.get gid=h.get gid∧a.1.get (0::(n+63)::π)=some (.box [.d (.int .i64 (gr.eq)),.d (.int .i64 (gr.at_)),.d (.be (gr.env.map AL))])∧a.1.get (0::(n+106)::π)=some (.box [.d (.be (d.am.map Az)),.d (.be (d.ac.map Aj)),.d (.be (d.rules.map Ay))])∧n≤a.2∧AA (C7 d c k gr=decide (E.drop (d.am.length+j)=(Ef c k d).drop (d.am.length+j)))) (b0:=(g,n2)) rfl ⟨hgm,hgg,g63,g106,hn2,hr2⟩ ?_ ?_
        .clear hr2 hgm hgg g63 g106 g hn2 n2;rintro j y ⟨g,n2⟩ hyj hij himj ⟨hgm,hgg,g63,g106,hn2,hr2⟩ IH2;dsimp only at*;obtain⟨u,hu⟩:=get_some (l:=E) (i:=d.am.length+j) (by omega);have hr3:AA (C7 d c k gr=(decide (u=⟨4,(k:Int)+(j:Int)⟩)&&decide (E.drop (d.am.length+(j+1))=(Ef c k d).drop (d.am.length+(j+1))))):=⟨by
          rw[hr2.out,Iz hu,Iz (Lo c k d hij),Nl];simp[RC]⟩
         have w4:IntKind.i64.wrap ((k:Int)+(j:Int))=(k:Int)+(j:Int):=wrap_id (by omega) (by omega);have w5:IntKind.i64.wrap ((d.am.length:Int)+(j:Int))=(d.am.length:Int)+(j:Int):=wrap_id (by omega) (by omega);have ix:((d.am.length:Int)+(j:Int)).toNat=d.am.length+j:=by omega
         rw[←ix]at hu;replace ix:=AA.mk ix;have ix2:0≤(d.am.length:Int)+(j:Int):=by omega
         have ix3:(d.am.length:Int)+(j:Int)<E.length:=by omega
         by_cases hu2:u=⟨4,(k:Int)+(j:Int)⟩
         .subst hu2;refine ax ?_;refine IH2.out (_,_) ⟨hgm,hgg,g63,g106,?_,⟨?_⟩⟩
          .dsimp only;omega
          .rw[hr3.out,Co rfl,D7]
         .have hne:(decide (u.kind=4)&&decide (u.n=(k:Int)+(j:Int)))=false:=by
           rw[←KW,AP,Ap,Ap];rintro⟨h1,h2⟩;exact hu2 (by cases u;simp_all)
          refine ax ?_;exact hbad.out (by rw[hgo2.out,hr3.out,CE hu2];rfl)
        .clear hr2 hgm hgg g63 g106 g hn2 n2;rintro j ⟨g,n2⟩ hij himj ⟨hgm,hgg,g63,g106,hn2,hr2⟩;dsimp only at*;have hmine:C7 d c k gr=true:=by
          have hjj:=hij.out;rw[hr2.out,D5 (by omega),D5 (by rw[JJ];omega)];rfl
         have hgo3:AA (JG p (BQ p st.ce) s i c k gr d=Dz p s d gr i c 0 d.am):=⟨by rw[hgo2.out,hmine,D7]⟩;replace hmine:=AA.mk hmine;clear hr2 hgo2;refine ax ?_;clear hij himj j;refine AY d.am _ (S:=fun m' j (a:AB×Nat)=>⟨[(0,.ptr m 0),(4,.d (.int .i64 (c))),(5,.d (.int .i64 (k))),(6,.d (.int .i64 (i))),(7,.ptr (0::(n+63)::π) 0),(8,.ptr (0::(n+106)::π) 0),(92,.d (.be (s.bi.map An))),(93,.d (.int .i64 (s.bi.length))),(94,.d (.int .i64 (i))),(192,.d (.be (d.am.map Az))),(193,.d (.int .i64 (m'))),(194,.d (.int .i64 (j)))],a.1,a.2+137,[]⟩)
          (Inv:=fun j rest a=>a.1.get m=h.get m∧a.1.get gid=h.get gid∧a.1.get (0::(n+63)::π)=some (.box [.d (.int .i64 (gr.eq)),.d (.int .i64 (gr.at_)),.d (.be (gr.env.map AL))])∧a.1.get (0::(n+106)::π)=some (.box [.d (.be (d.am.map Az)),.d (.be (d.ac.map Aj)),.d (.be (d.rules.map Ay))])∧n≤a.2∧AA (Dz p s d gr i c 0 d.am=Dz p s d gr i c j rest)) (b0:=(g,n2)) rfl ⟨hgm,hgg,g63,g106,hn2,⟨rfl⟩⟩ ?_ ?_
         .clear hgm hgg g63 g106 g hn2 n2;rintro j ch ⟨g,n2⟩ hyj hij himj ⟨hgm,hgg,g63,g106,hn2,hrj⟩ IHj;dsimp only at*;have hcj:c+j<s.am.length:=by
           have:=Ci.1 hall.out _ (Ac (U2 hmine.out hij));simp[CT.inB]at this;omega
          obtain⟨q,hq⟩:=get_some hcj;have hca:=hdo.out.chan ch (Ac hyj);have hpi:=O5 hmine.out hown hin.out hall.out (n:=ch.at_) hca.1 hca.2.1;obtain⟨hp1,hp2⟩:=hpi;obtain⟨sp,hsp⟩:=get_some (l:=s.ac) (i:=(gr.place d ch.at_).toNat) (by omega);have hda:AA (AW s.ac (gr.place d ch.at_)=sp.dead):=⟨by simp[AW,hsp]⟩;have hck:AA (KB p s d gr i j (c+j) ch=(decide (q.group=i)&&(decide (q.index=j)&&(decide (q.at_=gr.place d ch.at_)&&(decide (q.queue.length≤12)&&((decide (q.queue.length=0)|| !AW s.ac q.at_)&&q.queue.all (E3 p s.am.length s.ac.length ch.many))))))):=⟨by rw[KB,hq];rfl⟩;have hbc:AA (KB p s d gr i j (c+j) ch=false→Ae.f9 (CL 2)=(H6 (CL 2) (DG p st.ce s)).1):=⟨fun h=>hbad.out (by rw[hgo3.out,hrj.out,Dz,h,By])⟩;have w4:IntKind.i64.wrap ((c:Int)+(j:Int))=(c:Int)+(j:Int):=wrap_id (by omega) (by omega);have ix:((c:Int)+(j:Int)).toNat=c+j:=by omega
          rw[←ix]at hq;replace ix:=AA.mk ix;have ix2:0≤(c:Int)+(j:Int):=by omega
          have ix3:(c:Int)+(j:Int)<s.am.length:=by omega
          have q1: ¬n2+78=n:=by omega
          have q2: ¬n=n2+78:=by omega
          have q3: ¬n2+91=n:=by omega
          have q4: ¬n=n2+91:=by omega
          have q5: ¬n2+35=n:=by omega
          have q6: ¬n=n2+35:=by omega
          have q7: ¬n2+48=n:=by omega
          have q8: ¬n=n2+48:=by omega
          have q9: ¬n2+13=n2:=by omega
          have q0: ¬n2=n2+13:=by omega
          by_cases g1:q.group=i
          .by_cases g2:q.index=j
           .refine ax ?_;refine C2 (Mn (d:=d) (ds:=p.defs) (Eq.trans (b:=h.get m) ?_ hm) (e3 _) x2 hd d1 d2 hown (by omega) ch.at_ hca.1 hca.2.1) (fun o3 g3 p3=>?_)
            .simp only[go_sem,e1,hgm,AM]
            subst p3;by_cases g4:q.at_=gr.place d ch.at_
            .rw[g4]
             (repeat' (first|simp only[go_sem, *,AM]|(refine sx ?_ ?_<;>intro hc)|refine sy (by omega) fun x hx hm=>?_|simp(disch:=first|assumption|omega) only[AJ]))
             all_goals try
              refine hbc.out ?_;rw[hck.out,g4,hda.out];clear IH IHj hr hstep hbad hbc hck hgo3 hrj hy hd hv hT hF hm hg htr hlk hgm hgg g63 g106;grind
             all_goals
              have hfin:AA (KB p s d gr i j (c+j) ch=q.queue.all (E3 p s.am.length s.ac.length ch.many)):=⟨by
               rw[hck.out,g4,hda.out];clear IH IHj hr hstep hbad hbc hck hgo3 hrj hy hd hv hT hF hm hg htr hlk hgm hgg g63 g106;grind⟩
              refine AY q.queue _ (S:=fun m' l (a:AB×Nat)=>⟨[(0,.ptr m 0),(4,.d (.int .i64 (c))),(5,.d (.int .i64 (k))),(6,.d (.int .i64 (i))),(7,.ptr (0::(n+63)::π) 0),(8,.ptr (0::(n+106)::π) 0),(13,.ptr (0::(n2+141)::π) 0),(92,.d (.be (s.bi.map An))),(93,.d (.int .i64 (s.bi.length))),(94,.d (.int .i64 (i))),(192,.d (.be (d.am.map Az))),(193,.d (.int .i64 (d.am.length))),(194,.d (.int .i64 (j))),(255,.d (.be (q.queue.map BW))),(256,.d (.int .i64 (m'))),(257,.d (.int .i64 (l)))],a.1,a.2+205,[]⟩)
               (Inv:=fun l rest a=>a.1.get m=h.get m∧a.1.get gid=h.get gid∧a.1.get (0::(n+63)::π)=some (.box [.d (.int .i64 (gr.eq)),.d (.int .i64 (gr.at_)),.d (.be (gr.env.map AL))])∧a.1.get (0::(n+106)::π)=some (.box [.d (.be (d.am.map Az)),.d (.be (d.ac.map Aj)),.d (.be (d.rules.map Ay))])∧a.1.get (0::(n2+141)::π)=some (.box [.d (.int .i64 (ch.at_)),.d (.int .i64 (ch.many))])∧n2≤a.2∧AA (q.queue.all (E3 p s.am.length s.ac.length ch.many)=rest.all (E3 p s.am.length s.ac.length ch.many))) (b0:=(_,n2)) ?_ ⟨?_,?_,?_,?_,?_,?_,⟨rfl⟩⟩ ?_ ?_
              .omega
              .simp only[go_sem,e1,hgm,AM]
              .simp only[go_sem,e4,hgg,AM]
              .simp only[go_sem,g63,q1,q2,q3,q4,AM]
              .simp only[go_sem,g106,q5,q6,q7,q8,AM]
              .simp only[go_sem,q9,q0,AM]
              .exact EL _
              .clear hgm hgg g63 g106 g q1 q2 q3 q4 q5 q6 q7 q8 q9 q0;rintro l y ⟨g,n3⟩ hyl hil himl ⟨hgm,hgg,g63,g106,g141,hn3,hrl⟩ IHl;dsimp only at*;have q1: ¬n3+67=n2:=by omega
               have q2: ¬n2=n3+67:=by omega
               refine ax ?_;refine DF (WC (p:=p) (sp:=s.ac.map Aa) (ch:=s.am.map Bc) (Eq.trans (b:=h.get m) ?_ hm) (e3 _) (by simp;omega) (by simp;omega) (by omega) y ch.many (by omega)) (fun o4 g4' p4=>?_)
               .simp only[go_sem,e1,hgm,AM]
               rw[BI,BI]at p4;have hmk:(decide ((y.length:Int)=ch.many)&&y.all (CT.inB p s.am.length s.ac.length))=E3 p s.am.length s.ac.length ch.many y:=rfl;rw[hmk]at p4;clear hmk;cases hmo:E3 p s.am.length s.ac.length ch.many y with
               |true=>
                rw[hmo]at p4;replace p4:o4=.ret (.ge []):=p4;subst p4;refine ax ?_;refine IHl.out (_,_) ⟨?_,?_,?_,?_,?_,?_,⟨?_⟩⟩
                .simp only[go_sem,e1,hgm,AM]
                .simp only[go_sem,e4,hgg,AM]
                .have q3: ¬n3+145=n:=by omega
                 have q4: ¬n=n3+145:=by omega
                 simp only[go_sem,g63,q3,q4,AM]
                .have q3: ¬n3+102=n:=by omega
                 have q4: ¬n=n3+102:=by omega
                 simp only[go_sem,g106,q3,q4,AM]
                .simp only[go_sem,g141,q1,q2,AM]
                .dsimp only;omega
                .rw[hrl.out,D3,hmo,D7]
               |false=>
                rw[hmo]at p4;replace p4:o4=.f9 (CL 2):=p4;subst p4;refine ax ?_;exact hbc.out (by rw[hfin.out,hrl.out,D3,hmo,By])
              .clear hgm hgg g63 g106 g q1 q2 q3 q4 q5 q6 q7 q8 q9 q0;rintro l ⟨g,n3⟩ hil himl ⟨hgm,hgg,g63,g106,g141,hn3,hrl⟩;dsimp only at*;refine ax ?_;refine IHj.out (_,_) ⟨hgm,hgg,g63,g106,?_,⟨?_⟩⟩
               .dsimp only;omega
               .rw[hrj.out,Dz,hfin.out,hrl.out];rfl
            .refine ax ?_;exact hbc.out (by rw[hck.out,CE g4];simp)
           .refine ax ?_;exact hbc.out (by rw[hck.out,CE g2];simp)
          .refine ax ?_;exact hbc.out (by rw[hck.out,CE g1];simp)
         .clear hgm hgg g63 g106 g hn2 n2;rintro j ⟨g,n2⟩ hij himj ⟨hgm,hgg,g63,g106,hn2,hrj⟩;dsimp only at*;have hgok:AA (JG p (BQ p st.ce) s i c k gr d=true):=⟨by rw[hgo3.out,hrj.out];rfl⟩;refine ax ?_;refine IH.out (g,_,c+d.am.length,k+d.ac.length) ⟨hgm,hgg,?_,?_,⟨?_⟩⟩
          .dsimp only;omega
          .dsimp only;omega
          .dsimp only;rw[hstep.out,hgok.out,D7]
      .rw[KW]at hev;rw[hev]at p2;replace p2:o2=.f9 (CL 2):=p2;subst p2;refine aw ?_;refine hbad.out ?_;rw[hgo.out];clear IH hr hstep hbad hgo hy hd hv hT hF hm hg htr hlk hgm hgg;grind
     .replace p1:o1=.f9 (CL 2):=by
       rw[p1,BI];have:(decide (0≤gr.at_)&&decide (gr.at_<(s.ac.length:Int)))=false:=by
        rw[←KW,AP,Ap,Ap];exact hin
       rw[this];rfl
      subst p1;refine aw ?_;exact hbad.out (by rw[hgo.out,CE hin,By])
    .rintro i ⟨g,n,c,k⟩ hi him ⟨hgm,hgg,b1,b2,hr⟩;dsimp only at*;have hfin:AA (DG p st.ce s=((decide (c=s.am.length)&&decide (k=s.ac.length))&&s.waits.all (Bz p st.ce s))):=⟨by rw[hr.out,Br]⟩;by_cases g1:c=s.am.length
     .by_cases g2:k=s.ac.length
      .have hf2:AA (DG p st.ce s=s.waits.all (Bz p st.ce s)):=⟨by rw[hfin.out,Co g1,Co g2];rfl⟩;clear hfin hr;refine aw ?_;clear hi him i b1 b2;refine AY s.waits _ (S:=fun m' i (a:AB×Nat)=>⟨[(0,.ptr m 0),(303,.d (.be (s.waits.map AU))),(304,.d (.int .i64 (m'))),(305,.d (.int .i64 (i)))],a.1,a.2+86,[]⟩)
        (Inv:=fun i rest a=>a.1.get m=h.get m∧AA (DG p st.ce s=rest.all (Bz p st.ce s))) (b0:=(g,n)) rfl ⟨hgm,hf2⟩ ?_ ?_
       .clear hgm hgg hf2 g n;rintro i w ⟨g,n⟩ hy hi him ⟨hgm,hr⟩ IH;dsimp only at*;have hwo:AA (Bz p st.ce s w=(decide (Dd s.ac w.at_)&&(!AW s.ac w.at_&&(decide (0≤w.node)&&((match p.nodes[w.node.toNat]? with|some x=>DS x.op|none=>false)&&(decide ((w.env.length:Int)=(st.ce[w.node.toNat]?).getD 0)&&w.env.all (CT.inB p s.am.length s.ac.length))))))):=⟨rfl⟩
        have hbad:AA (Bz p st.ce s w=false→Ae.f9 (CL 2)=(H6 (CL 2) (DG p st.ce s)).1):=⟨fun h=>by rw[hr.out,D3,h];rfl⟩;refine ax ?_;refine DF (aQ (sp:=s.ac.map Aa) (Eq.trans (b:=h.get m) ?_ hm) (by simp;omega) w.at_) (fun o1 g1 p1=>?_)
        .simp only[go_sem,e1,hgm,AM]
        by_cases hin:Dd s.ac w.at_
        .replace p1:o1=.ret (.ge []):=by
          rw[p1,Co hin.1,BI,Co hin.2];rfl
         subst p1;obtain⟨i1,i2⟩:=hin;obtain⟨sp,hsp⟩:=get_some (l:=s.ac) (i:=w.at_.toNat) (by omega);have hda:AA (AW s.ac w.at_=sp.dead):=⟨by simp[AW,hsp]⟩;by_cases n0:0≤w.node
         .by_cases n1:w.node<p.nodes.length
          .obtain⟨x,hx⟩:=get_some (l:=p.nodes) (i:=w.node.toNat) (by omega);obtain⟨v,_,hv,v0,v1,_⟩:=hF.out.node _ x hx;have hln:=AA.mk hF.out.len;have hlv:=AH hv;have hwo2:AA (Bz p st.ce s w=(!AW s.ac w.at_&&(DS x.op&&(decide ((w.env.length:Int)=v)&&w.env.all (CT.inB p s.am.length s.ac.length))))):=⟨by
            rw[hwo.out,hx,hv,Co n0,Co ⟨i1,i2⟩];rfl⟩
           clear hwo;cases hsd:sp.dead with
           |true=>
            refine ax ?_;all_goals exact hbad.out (by rw[hwo2.out,hda.out,hsd];rfl)
           |false=>
            by_cases ho:DS x.op=true
            .have hwo3:AA (Bz p st.ce s w=(decide ((w.env.length:Int)=v)&&w.env.all (CT.inB p s.am.length s.ac.length))):=⟨by
              rw[hwo2.out,hda.out,hsd,ho];rfl⟩
             simp only[DS,I2,Ap]at ho;replace ho:=AA.mk ho
             (repeat' (first|simp only[go_sem, *,AM]|(refine sx ?_ ?_<;>intro hc)|refine sy (by omega) fun x hx hm=>?_|simp(disch:=first|assumption|omega) only[AJ]))
             all_goals try(exfalso;have:=ho.out;omega)
             all_goals
              refine DF (WC (p:=p) (sp:=s.ac.map Aa) (ch:=s.am.map Bc) (Eq.trans (b:=h.get m) ?_ hm) (e3 _) (by simp;omega) (by simp;omega) (by omega) w.env v (by omega)) (fun o4 g4' p4=>?_)
              .simp only[go_sem,e1,hgm,AM]
              rw[BI,BI]at p4;rw[←hwo3.out]at p4;cases hmo:Bz p st.ce s w with
              |true=>
               rw[hmo]at p4;replace p4:o4=.ret (.ge []):=p4;subst p4;refine ax ?_;refine IH.out (_,_) ⟨?_,⟨?_⟩⟩
               .simp only[go_sem,e1,hgm,AM]
               .rw[hr.out,D3,hmo,D7]
              |false=>
               rw[hmo]at p4;replace p4:o4=.f9 (CL 2):=p4;subst p4;refine ax ?_;exact hbad.out hmo
            .have hof:AA (DS x.op=false):=⟨by simpa using ho⟩;simp only[DS,I2,Ap,not_or]at ho;obtain⟨u1,u2,u3⟩:=ho;refine ax ?_;all_goals exact hbad.out (by rw[hwo2.out,hda.out,hof.out];simp)
          ·(repeat' (first|simp only[go_sem, *,AM]|(refine sx ?_ ?_<;>intro hc)|refine sy (by omega) fun x hx hm=>?_|simp(disch:=first|assumption|omega) only[AJ]))
           all_goals exact hbad.out (by rw[hwo.out,I6 (show p.nodes.length≤w.node.toNat by omega)];simp)
         ·(repeat' (first|simp only[go_sem, *,AM]|(refine sx ?_ ?_<;>intro hc)|refine sy (by omega) fun x hx hm=>?_|simp(disch:=first|assumption|omega) only[AJ]))
          all_goals exact hbad.out (by rw[hwo.out,CE n0];simp)
        .replace p1:o1=.f9 (CL 2):=by
          rw[p1,BI];have:(decide (0≤w.at_)&&decide (w.at_<(s.ac.length:Int)))=false:=by
           rw[←KW,AP,Ap,Ap];exact hin
          rw[this];rfl
         subst p1;refine ax ?_;exact hbad.out (by rw[hwo.out,CE hin];rfl)
       .rintro i ⟨g,n⟩ hi him ⟨hgm,hr⟩;dsimp only at*;refine aw ?_;rw[hr.out];rfl
      .have g3: ¬(k:Int)=s.ac.length:=by omega
       refine aw ?_;rw[hfin.out,CE g2];simp[H6]
     .have g3: ¬(c:Int)=s.am.length:=by omega
      refine aw ?_;rw[hfin.out,CE g1];rfl
 .have hk0:DG p st.ce s=false:=by rw[DG];simp[hss]
  rw[hk0];have hss:AA (¬(s.ac.length≤24∧s.bi.length≤40∧s.am.length≤60∧s.waits.length≤40)):=⟨by simpa[BM.small]using hss⟩
  (refine Ah rfl Tryz.func91 rfl rfl rfl ?_;show Wp _ _ _ _ (Tryz.f91.body.get rfl) _ _;simp only[Tryz.f91,AS])
  (repeat' (first|simp only[go_sem, *]|(refine sx ?_ ?_<;>intro hc)|refine sy (by omega) fun x hx hm=>?_|simp(disch:=first|assumption|omega) only[AJ]))
  all_goals first
  |rfl
  |(have:=hss.out;exfalso;omega)
end Go.Proofs
namespace Go.Abs
def uy(id:Id)(x:AZ)(v:AV)(es:List (AZ×AV)):Option (Option AV)→Option CJ
 |some _=>some ⟨.undef,[(id,.map (ER es x v))]⟩
 |none=>none
def iC(id:Id)(x:AZ)(v:AV):Option Obj→Option CJ
 |some (.map es)=>uy id x v es (Cv es x)
 |_=>none
def uz(x:AZ)(v:AV)(id:Id)(o:Option Obj):Option TI→Option CJ
 |some j=>if (Jj j.kind x&&v.isCell)=true then iC id x v o else none
 |none=>none
theorem nV(T:TypeId→Option TI)(g:G)(i:TI)(id:Id)(x:AZ)(v:AV)(hk:i.kind=.map):mapPut T g (some i) (.mp id) (.d x) v=uz x v id (g id) (T i.key):=by
 unfold mapPut;simp only[LX,hk];cases T i.key with
 |none=>rfl
 |some j=>
  simp only[uz];cases Jj j.kind x&&v.isCell with
  |false=>rfl
  |true=>
   simp only[F3];cases g id with
   |none=>rfl
   |some o=>
    cases o with
    |map es=>
     simp only[iC];cases Cv es x<;>rfl
    |_=>rfl
theorem dS(x:AZ)(v:AV)(id:Id)(o:Option Obj)(j:TI):uz x v id o (some j)=if (Jj j.kind x&&v.isCell)=true then iC id x v o else none:=rfl
theorem nx(id:Id)(x:AZ)(v:AV)(es:List (AZ×AV)):iC id x v (some (.map es))=uy id x v es (Cv es x):=rfl
theorem dR(id:Id)(x:AZ)(v:AV)(es:List (AZ×AV))(o:Option AV):uy id x v es (some o)=some ⟨.undef,[(id,.map (ER es x v))]⟩:=rfl
theorem dE(x:AZ)(v:AV):ER [] x v=[(x,v)]:=rfl
theorem dD(k:IntKind)(a b:Int)(v w:AV)(es:List (AZ×AV)):ER ((.int k a,w)::es) (.int k b) v=if a=b then(.int k a,v)::es else(.int k a,w)::ER es (.int k b) v:=by
 rw[ER];by_cases h:a=b
 .have hb:(a==b)=decide (a=b):=by rw[Nl];simp
  simp[G5,h,hb]
 .have hb:(a==b)=decide (a=b):=by rw[Nl];simp
  simp[G5,h,hb]
attribute [go_sem] nV dS nx dR dE dD
end Go.Abs
namespace Go.Proofs
open Go Go.Abs
set_option maxRecDepth 100000
set_option maxHeartbeats 4000000
def KU(π:List Nat)(p:AI)(st:BN):AB:=if p.defs.length=0 then
    [(0::0::π,.box [.ci,.ci,.ci,.ci,.d (.be (p.free.map Av)),.d (.be (p.nodes.map Ad)),.d (.be (p.defs.map Ax)),.d (.int .i64 (p.main)),.d (.be (st.ce.map AK)),.emp,.mp (1::3::π),.ci,.d (.int .i64 (0))]),(1::3::π,.map IB)]
 else [(0::0::π,.box [.ci,.ci,.ci,.ci,.d (.be (p.free.map Av)),.d (.be (p.nodes.map Ad)),.d (.be (p.defs.map Ax)),.d (.int .i64 (p.main)),.d (.be (st.ce.map AK)),.em (1::1::π) 0 p.defs.length,.mp (1::4::π),.ci,.d (.int .i64 (0))]),(1::1::π,.co 1 ((BQ p st.ce).map AK)),(1::4::π,.map IB)]
structure qW(π:List Nat)(p:AI)(r:Ae×AB):Prop where
 f9:looks p=none→r=(.f9 (CL 2),[])
 ret: ∀st,looks p=some st→r=(.ret (.ptr (0::0::π) 0),KU π p st)
theorem Qa(p:AI)(hp: ∀s∈p.free,s.size≤maxLen)(k:Nat)(ρ:List Nat): ∃r,BJ (KL Tryz.prog cfg) 65 [.agg [.d (.be (p.free.map Av)),.d (.be (p.nodes.map Ad)),.d (.be (p.defs.map Ax)),.d (.int .i64 (p.main))]] (k::ρ)=.ok r∧qW (k::ρ) p r:=by
 have hsz:=qa p hp;replace hp:=AA.mk hp;cases hlk:looks p with
 |none=>
  rw[hlk]at hsz;simp only[J5]at hsz
  (refine Ft rfl Tryz.func65 rfl rfl rfl ?_;show Wp _ _ _ _ (Tryz.f65.body.get rfl) _ _;simp only[Tryz.f65,AS])
  refine aw ?_;exact⟨fun _=>rfl,fun st h=>by rw[hlk]at h;cases h⟩
 |some st=>
  rw[hlk]at hsz;simp only[J5]at hsz;have hF:=AA.mk (B5 hlk);have hsm:=hF.out.small;simp only[AI.small,AP,Ap]at hsm;obtain⟨c1,c2,c3⟩:=hsm
  (refine Ft rfl Tryz.func65 rfl rfl rfl ?_;show Wp _ _ _ _ (Tryz.f65.body.get rfl) _ _;simp only[Tryz.f65,AS])
  by_cases hD0:p.defs.length=0
  ·(repeat' (first|simp only[go_sem, *]|(refine sx ?_ ?_<;>intro hc)|refine sy (by omega) fun x hx hm=>?_|simp(disch:=first|assumption|omega) only[AJ,EP]))
   refine AY p.nodes _ (S:=fun m i (_:Unit)=>⟨[(3,.d (.be (st.ce.map AK))),(5,.ptr (0::0::k::ρ) 0),(25,.d (.be (p.nodes.map Ad))),(26,.d (.int .i64 (m))),(27,.d (.int .i64 (i)))],[(0::0::k::ρ,.box [.ci,.ci,.ci,.ci,.d (.be (p.free.map Av)),.d (.be (p.nodes.map Ad)),.d (.be (p.defs.map Ax)),.d (.int .i64 (p.main)),.d (.be (st.ce.map AK)),.emp,.d .rx,.ci,.d (.int .i64 (0))])],1,[]⟩)
    (Inv:=fun i rest _=>True) (b0:=()) rfl trivial ?_ ?_
   .rintro i y _ hy hi him _ IH;have ho: ¬y.op=4:=fun ho=>by
     have:=LY hF.out hy ho;omega
    refine aw ?_;exact IH.out () trivial
   .rintro i _ hi him _;have hD1:=AA.mk hD0;refine aw ?_;exact⟨fun h=>(by rw[hlk]at h;cases h),fun st h=>by rw[hlk]at h;cases h;rw[KU,DO hD1.out];rfl⟩
  ·(repeat' (first|simp only[go_sem, *]|(refine sx ?_ ?_<;>intro hc)|refine sy (by omega) fun x hx hm=>?_|simp(disch:=first|assumption|omega) only[AJ,EP]))
   refine AY p.nodes _ (S:=fun m i (out:List Int)=>⟨[(3,.d (.be (st.ce.map AK))),(5,.ptr (0::0::k::ρ) 0),(25,.d (.be (p.nodes.map Ad))),(26,.d (.int .i64 (m))),(27,.d (.int .i64 (i)))],[(0::0::k::ρ,.box [.ci,.ci,.ci,.ci,.d (.be (p.free.map Av)),.d (.be (p.nodes.map Ad)),.d (.be (p.defs.map Ax)),.d (.int .i64 (p.main)),.d (.be (st.ce.map AK)),.em (1::1::k::ρ) 0 p.defs.length,.d .rx,.ci,.d (.int .i64 (0))]),(1::1::k::ρ,.co 1 (out.map AK))],2,[]⟩)
    (Inv:=fun i rest out=>out.length=p.defs.length∧AA (BQ p st.ce=En st.ce out rest)) (b0:=List.replicate p.defs.length 0) rfl ⟨by simp,⟨rfl⟩⟩ ?_ ?_
   .rintro i y out hy hi him ⟨hol,hr⟩ IH;by_cases ho:y.op=4
    .obtain⟨n1,n2,kk,v,hk,hk0,hkv,hks,_,_⟩:=LY hF.out hy ho;obtain⟨o,hoo⟩:=get_some (l:=out) (i:=y.n.toNat) (by omega);have hyn:y.n.toNat<p.defs.length:=by omega
     have hks:=AA.mk hks;refine aw ?_;have e:(out.map AK).set y.n.toNat [.int .i64 v]=(out.set y.n.toNat v).map AK:=by rw[JP];rfl
     rw[e];refine IH.out (out.set y.n.toNat v) ⟨by simpa using hol,⟨?_⟩⟩;rw[hr.out,En,DO ho,hks.out]
    .refine aw ?_;refine IH.out out ⟨hol,⟨?_⟩⟩;rw[hr.out,En,CS ho]
   .rintro i out hi him ⟨hol,hr⟩;have hgr:AA (BQ p st.ce=out):=⟨by rw[hr.out];rfl⟩;refine aw ?_;exact⟨fun h=>(by rw[hlk]at h;cases h),fun st h=>by rw[hlk]at h;cases h;rw[KU,CS hD0,hgr.out];rfl⟩
end Go.Proofs
namespace Go.Proofs
open Go Go.Abs
set_option maxRecDepth 100000
set_option maxHeartbeats 4000000
def Te(v1 v2 v3 v4 v9:AV)(a:Abs.Id)(rows:List (List AV)):MV:=⟨fun i=>match i with|0=>v1|1=>v2|2=>v4|_=>.ci,v3,v9,a,rows⟩
variable{π ρ:List Nat}{s:BM}{rows:List (List AV)}{g:AB}{m a:Abs.Id}{v9:AV}{p:AI}{sz:List Int}
theorem X4{v1 v2 v3 v4:AV}(hC:qF π s v1 v2 v3 v4 rows g){G:AB}{n:Nat}(hρ:π=n::ρ)(hb:G.get m=some (.box (Aq p sz (Te v1 v2 v3 v4 v9 a rows) 0)))(ha:G.get a=some (.map IB))
 (hg: ∀id o,g.get id=some o→G.get id=some o) (hm:Id.under ρ m=true) (ham:Id.under ρ a=true):Dq p sz G m (Te v1 v2 v3 v4 v9 a rows) ⟨s,[],0⟩∧ ∀id∈(Te v1 v2 v3 v4 v9 a rows).ids m,Id.under ρ id=true:=by
 have key: ∀{sz:Nat} {v:AV} {es:List (List AZ)},K9 g sz v es→K9 G sz v es:=fun h=>by
  refine Db h fun id hid=>?_;obtain⟨x,hx⟩:=Eh h hid;rw[hx];exact hg _ _ hx
 refine⟨⟨hb,ha,fun i hi=>?_,?_,?_,hC.gw,hC.qd⟩,fun id hid=>?_⟩
 .match i,hi with
  |0,_=>exact key hC.s0
  |1,_=>exact key hC.s1
  |2,_=>exact key hC.s2
  |3,_=>exact .inl ⟨rfl,rfl⟩
 .refine LR hC.arr fun id hid=>?_;have:=HO hC.arr hid;rw[this];exact hg _ _ this
 .refine LP hC.am fun id hid=>?_;obtain⟨x,hx⟩:=Ki hC.am hid;rw[hx];exact hg _ _ hx
 .have hu:=fun h=>BR (n:=n) (hρ▸hC.ids id h);rcases(MV.mem _ m id).1 hid with rfl|rfl|⟨i,hi,h⟩|h|h
  .exact hm
  .exact ham
  .match i,hi with
   |0,_=>exact hu (.inl h)
   |1,_=>exact hu (.inr (.inl h))
   |2,_=>exact hu (.inr (.inr (.inl h)))
   |3,_=>simp[Te,AD]at h
  .exact hu (.inr (.inr (.inr (.inl h))))
  .exact hu (.inr (.inr (.inr (.inr h))))
structure qP(π:List Nat)(p:AI)(s:BM)(st:BN)(id:Abs.Id)(V:MV)(g:AB):Prop where
 looks:looks p=some st
 rep:Dq p st.ce g id V ⟨s,[],0⟩
 ids: ∀x∈V.ids id,Id.under π x=true
 own: ∀x,Id.under π x=false→g.get x=none
structure qQ(π:List Nat)(p:AI)(s:BM)(r:Ae×AB):Prop where
 bad:Bx p s≠0→r=(.f9 (CL 2),[])
 i5:Bx p s=0→ ∃st id V g,r=(.ret (.ptr id 0),g)∧qP π p s st id V g
variable{V:MV}
theorem hO{st:BN}{id:Abs.Id}(h1:looks p=some st)(h2:Dq p st.ce g id V ⟨s,[],0⟩∧ ∀x∈V.ids id,Id.under π x=true)(h3: ∀x,Id.under π x=false→g.get x=none):qP π p s st id V g:=⟨h1,h2.1,h2.2,h3⟩
theorem nD(p:AI)(s:BM)(hp: ∀s∈p.free,s.size≤maxLen)(k:Nat)(ρ:List Nat): ∃r,BJ (KL Tryz.prog cfg) 51 [.agg [.d (.be (p.free.map Av)),.d (.be (p.nodes.map Ad)),.d (.be (p.defs.map Ax)),.d (.int .i64 (p.main))],.agg [.d (.be (s.ac.map Aa)),.d (.be (s.bi.map An)),.d (.be (s.am.map Bc)),.d (.be (s.waits.map AU))]] (k::ρ)=.ok r∧qQ (k::ρ) p s r:=by
 obtain⟨r,hr,hpost⟩:=Qa p hp 4 (k::ρ);replace hp:=AA.mk hp;cases hlk:looks p with
 |none=>
  obtain rfl:=hpost.f9 hlk
  (refine Ft rfl Tryz.func51 rfl rfl rfl ?_;show Wp _ _ _ _ (Tryz.f51.body.get rfl) _ _;simp only[Tryz.f51,AS])
  refine aw ?_;exact⟨fun _=>rfl,fun h=>by rw[Bx,hlk]at h;cases h⟩
 |some st=>
  obtain rfl:=hpost.ret st hlk;have hse:AA (Bx p s=if DG p st.ce s=true then 0 else 2):=⟨by rw[Bx,hlk]⟩;have hfit:=fun h=>jR s (fh hlk h);by_cases hD0:p.defs.length=0
  .simp only[KU,hD0,F3,ES,IB]at hr
   (refine Ft rfl Tryz.func51 rfl rfl rfl ?_;show Wp _ _ _ _ (Tryz.f51.body.get rfl) _ _;simp only[Tryz.f51,AS])
   refine aw ?_;refine DF (SB (s:=s) (x9:=.emp) (x10:=.mp (1::3::4::k::ρ)) (x11:=.ci) (x12:=.d (.int .i64 (0))) (gid:=1::1::4::k::ρ) hlk ?_ ?_ ?_ ?_ ?_) (fun o1 g1 p1=>?_)
   .simp only[go_sem]
   .exact EW _ _ _ _ _ (by decide)
   .simp only[slv,hD0,F3,ES]
   .intro hh;first
    |exact absurd hD0 hh
    |(simp only[go_sem];done)
    |(simp only[go_sem];rfl)
   .exact EW _ _ _ _ _ (by decide)
   cases hso:DG p st.ce s with
   |false=>
    rw[hso]at p1;replace p1:o1=.f9 (CL 2):=p1;subst p1;replace hfit:=AA.mk hfit;refine aw ?_;exact⟨fun _=>rfl,fun h=>by rw[hse.out,hso]at h;cases h⟩
   |true=>
    rw[hso]at p1;replace p1:o1=.ret (.ge []):=p1;subst p1;obtain⟨r2,hr2,v1,v2,v3,v4,rows,g,rfl,hC⟩:=hfit hso 15 (k::ρ);clear hfit;have hgn:=hC.own;have hgm: ∀L,AB.get (g++L) (0::0::4::k::ρ)=AB.get L (0::0::4::k::ρ):=fun L=>Bb (hgn _ (EW _ _ _ _ _ (by decide)));replace hgn:=AA.mk hgn;have hgood:AA (Bx p s=0):=⟨by rw[hse.out,hso];rfl⟩;have hcr:=AA.mk fun G v9 h1 h2 h3=>X4 hC (G:=G) (m:=0::0::4::k::ρ) (a:=1::3::4::k::ρ) (v9:=v9) (p:=p) (sz:=st.ce) rfl h1 h2 h3 (under_iff.2 ⟨[0,0,4],rfl⟩) (under_iff.2 ⟨[1,3,4],rfl⟩);have hga:AA (∀L,AB.get (g++L) (1::3::4::k::ρ)=AB.get L (1::3::4::k::ρ)):=⟨fun L=>Bb (hC.own _ (EW _ _ _ _ _ (by decide)))⟩;have hnis:AA (∀id o,g.get id=some o→Id.is (0::0::4::k::ρ) id=false):=⟨fun id o ho=>AE fun e=>by rw[←e,hC.own _ (EW _ _ _ _ _ (by decide))]at ho;cases ho⟩;have hX:=AA.mk hlk;have h1:=hC.s0;have h2:=hC.s1;have h3:=hC.arr;have h4:=hC.s2;replace hC:=AA.mk hC;rcases h1 with⟨rfl,z1⟩|⟨i1,x1,rfl,z1⟩;all_goals rcases h2 with⟨rfl,z2⟩|⟨i2,x2,rfl,z2⟩
    all_goals rcases h3 with⟨rfl,z3⟩|⟨i3,rfl,z3⟩
    all_goals rcases h4 with⟨rfl,z4⟩|⟨i4,x4,rfl,z4⟩
    all_goals
     replace z1:=AA.mk z1;replace z2:=AA.mk z2;replace z3:=AA.mk z3;replace z4:=AA.mk z4;refine aw ?_;refine⟨fun h=>absurd hgood.out h,fun _=>⟨st,_,_,_,rfl,hO hX.out (hcr.out _ .emp ?_ ?_ fun id o ho=>?_) fun id hu=>?_⟩⟩
     .simp only[go_sem,Aq,Te];first|done|rfl
     .simp only[go_sem,hga.out,IB];first|done|rfl
     .have q1:=hnis.out id o ho;have q2: ∀L,AB.get (g++L) id=some o:=fun L=>DK ho;simp only[go_sem,q1,q2,AM]
     .have a1:=AG hu;have a2:=AG (AF hu 4);have a3: ∀L,AB.get (g++L) id=AB.get L id:=fun L=>Bb (hC.out.own id (AF hu 15));simp only[go_sem,a1,a2,a3,AM]
  .simp only[KU,hD0,F3,ES,IB]at hr
   (refine Ft rfl Tryz.func51 rfl rfl rfl ?_;show Wp _ _ _ _ (Tryz.f51.body.get rfl) _ _;simp only[Tryz.f51,AS])
   refine aw ?_;refine DF (SB (s:=s) (x9:=.em (1::1::4::k::ρ) 0 p.defs.length) (x10:=.mp (1::4::4::k::ρ)) (x11:=.ci) (x12:=.d (.int .i64 (0))) (gid:=1::1::4::k::ρ) hlk ?_ ?_ ?_ ?_ ?_) (fun o1 g1 p1=>?_)
   .simp only[go_sem]
   .exact EW _ _ _ _ _ (by decide)
   .simp only[slv,hD0,F3,ES]
   .intro hh;first
    |exact absurd hD0 hh
    |(simp only[go_sem];done)
    |(simp only[go_sem];rfl)
   .exact EW _ _ _ _ _ (by decide)
   cases hso:DG p st.ce s with
   |false=>
    rw[hso]at p1;replace p1:o1=.f9 (CL 2):=p1;subst p1;replace hfit:=AA.mk hfit;refine aw ?_;exact⟨fun _=>rfl,fun h=>by rw[hse.out,hso]at h;cases h⟩
   |true=>
    rw[hso]at p1;replace p1:o1=.ret (.ge []):=p1;subst p1;obtain⟨r2,hr2,v1,v2,v3,v4,rows,g,rfl,hC⟩:=hfit hso 15 (k::ρ);clear hfit;have hgn:=hC.own;have hgm: ∀L,AB.get (g++L) (0::0::4::k::ρ)=AB.get L (0::0::4::k::ρ):=fun L=>Bb (hgn _ (EW _ _ _ _ _ (by decide)));replace hgn:=AA.mk hgn;have hgood:AA (Bx p s=0):=⟨by rw[hse.out,hso];rfl⟩;have hcr:=AA.mk fun G v9 h1 h2 h3=>X4 hC (G:=G) (m:=0::0::4::k::ρ) (a:=1::4::4::k::ρ) (v9:=v9) (p:=p) (sz:=st.ce) rfl h1 h2 h3 (under_iff.2 ⟨[0,0,4],rfl⟩) (under_iff.2 ⟨[1,4,4],rfl⟩);have hga:AA (∀L,AB.get (g++L) (1::4::4::k::ρ)=AB.get L (1::4::4::k::ρ)):=⟨fun L=>Bb (hC.own _ (EW _ _ _ _ _ (by decide)))⟩;have hnis:AA (∀id o,g.get id=some o→Id.is (0::0::4::k::ρ) id=false):=⟨fun id o ho=>AE fun e=>by rw[←e,hC.own _ (EW _ _ _ _ _ (by decide))]at ho;cases ho⟩;have hX:=AA.mk hlk;have h1:=hC.s0;have h2:=hC.s1;have h3:=hC.arr;have h4:=hC.s2;replace hC:=AA.mk hC;rcases h1 with⟨rfl,z1⟩|⟨i1,x1,rfl,z1⟩;all_goals rcases h2 with⟨rfl,z2⟩|⟨i2,x2,rfl,z2⟩
    all_goals rcases h3 with⟨rfl,z3⟩|⟨i3,rfl,z3⟩
    all_goals rcases h4 with⟨rfl,z4⟩|⟨i4,x4,rfl,z4⟩
    all_goals
     replace z1:=AA.mk z1;replace z2:=AA.mk z2;replace z3:=AA.mk z3;replace z4:=AA.mk z4;refine aw ?_;refine⟨fun h=>absurd hgood.out h,fun _=>⟨st,_,_,_,rfl,hO hX.out (hcr.out _ (.em (1::1::4::k::ρ) 0 p.defs.length) ?_ ?_ fun id o ho=>?_) fun id hu=>?_⟩⟩
     .simp only[go_sem,Aq,Te];first|done|rfl
     .simp only[go_sem,hga.out,IB];first|done|rfl
     .have q1:=hnis.out id o ho;have q2: ∀L,AB.get (g++L) id=some o:=fun L=>DK ho;simp only[go_sem,q1,q2,AM]
     .have a1:=AG hu;have a2:=AG (AF hu 4);have a3: ∀L,AB.get (g++L) id=AB.get L id:=fun L=>Bb (hC.out.own id (AF hu 15));simp only[go_sem,a1,a2,a3,AM]
variable{K:AN}{ds:List Df}{Q:Dx→St→Prop}{H:AB}
theorem zX{bv:Option (List Nat)}{ρ2:List Nat}{id2:Abs.Id}{e:Bm}{bs:Nat}{t:Tgt}{args:List AV}{r:Lp}(hn: ∀r',r'=r→HH ρ ρ2 id2 e bs ds Q (K t args (H.put id2 (.loop r')) ρ2 true bv)):HH ρ ρ2 id2 e bs ds Q (K t args (H.put id2 (.loop r)) ρ2 true bv):=hn r rfl
variable{st:CK}
theorem ny{G:AB}(h:Dq p sz g m V st)(hg: ∀id o,g.get id=some o→G.get id=some o):Dq p sz G m V st:=by
 refine⟨hg _ _ h.box,hg _ _ h.qr,fun i hi=>Db (h.sl i hi) fun id hid=>?_,LR h.arr fun id hid=>?_,LP h.am fun id hid=>?_,h.gw,h.qd⟩
 .obtain⟨x,hx⟩:=Eh (h.sl i hi) hid;rw[hx];exact hg _ _ hx
 .have:=HO h.arr hid;rw[this];exact hg _ _ this
 .obtain⟨x,hx⟩:=Ki h.am hid;rw[hx];exact hg _ _ hx
def Dh:BM:=⟨[],[],[],[]⟩
structure Made where
 d9:BM
 ev:List EK
 err:Int
def zY:Option CK→Made
 |some st=>⟨st.d9,st.ev,0⟩
 |none=>⟨Dh,[],3⟩
abbrev QS(r:Made):AV:=.ge [sA r.d9,.d (.be (r.ev.map OI)),.d (.int .i64 r.err)]
variable{v:AV}{es:List (List AZ)}
theorem CW{sz:Nat}(h:K9 g sz v es):v.isCell=true∧v.cells=[v]:=by
 rcases h with⟨rfl,_⟩|⟨_,_,rfl,_⟩<;>exact⟨rfl,rfl⟩
theorem LQ(h:xV g v rows):v.isCell=true∧v.cells=[v]:=by
 rcases h with⟨rfl,_⟩|⟨_,rfl,_⟩<;>exact⟨rfl,rfl⟩
theorem iQ{α:Type}(l x:List α)(n:Nat)(hn:n=l.length):JZ (l++x) 0 n=some l:=by
 subst hn;unfold JZ;rw[DO (by simp)];simp
theorem Yb{sz:Nat}(h:K9 g sz v es):FB g.get v=some (.be es):=by
 rcases h with⟨rfl,rfl⟩|⟨id,x,rfl,hg⟩
 .rfl
 .simp only[FB,hg,iQ es x _ rfl,El]
theorem OX{sz:Nat}(h:K9 g sz v es):Dn g.get v=some (.be es):=by
 have h1:=Yb h;rcases h with⟨rfl,rfl⟩|⟨id,x,rfl,hg⟩
 .rfl
 .simp only[Dn,hg];exact h1
theorem sW{sz:Nat}(h:K9 g sz v es):Ed g.get v=some (.d (.be es)):=by
 have h1:=OX h;rcases h with⟨rfl,rfl⟩|⟨id,x,rfl,hg⟩
 .rfl
 .simp only[Ed,h1,El]
theorem Ui{g:AB}: ∀{rows:List (List AV)} {l:List GR},rows.length=l.length→(∀(j:Nat) (q:GR),l[j]? =some q→ ∃v,rows[j]? =some (A3 q v)∧K9 g 1 v (q.queue.map BW))→Cx g.get rows=some (l.map Bc)
 |[],[],_,_=>rfl
 |[],_::_,h,_=>by cases h
 |_::_,[],h,_=>by cases h
 |r::rows,q::l,h,hr=>by
  obtain⟨v,h1,h2⟩:=hr 0 q rfl;simp only[Ex,Bv]at h1;subst h1;have ih:=Ui (rows:=rows) (l:=l) (by simpa using h) fun j q hj=>by
   have:=hr (j+1) q (by simpa using hj);simpa using this
  have h3:=Yb h2;have h4:Ct g.get (A3 q v)=some (Bc q):=by
   simp only[A3,Ct,h3,show∀x,FB g.get (.d x)=some x from fun _=>rfl,Bc]
  simp only[Cx,h4,ih,D8]
theorem se{l:List GR}(h:xV g v rows)(hc:Chs g rows l):Dn g.get v=some (.be (l.map Bc)):=by
 have h1:=Ui hc.len hc.row;have hl:=hc.len;rcases h with⟨rfl,rfl⟩|⟨id,rfl,hg⟩
 .cases l with
  |nil=>rfl
  |cons q l=>cases hl
 .have:=iQ (l.map Bc) [] rows.length (by rw[BI,hl]);rw[D9]at this;simp only[Dn,hg,h1,this,El]
theorem kh{p:AI}{sz:List Int}{s:BM}{st:CK}{h:AB}{π:List Nat}{m:Abs.Id}{V:MV}(hF:BD p sz)(hM:Dq p sz h m V st)(hst:st.d9=s)(hu:CC π V m)(hs:E6 p sz s): ∃o h',KL Tryz.prog cfg (.fn 108) [.ci,.fn 52 [.ptr m 0] []] h π true none=.ok (o,h')∧ ∃v,o=.ret v∧K9 h' 4 v ((Cz p s).map E1)∧(∀i∈AD v,Id.under π i=true∧ ∃l,i=1::l)∧ ∀i,Id.under π i=false→h'.get i=h.get i:=by
 subst hst;have hlen:=VW hF hs;replace hM:=AA.mk hM;replace hF:=AA.mk hF;replace hs:=AA.mk hs;replace hu:=AA.mk hu
 (refine Ah rfl Tryz.func108 rfl rfl rfl ?_;show Wp _ _ _ _ (Tryz.f108.body.get rfl) _ _;simp only[Tryz.f108,AS])
 refine aw ?_;refine zX fun r0 hr0=>?_;obtain⟨I,hI⟩: ∃I:List FY→(Abs.Id→Prop)→AB→Prop,I=fun l M g=>g.get (0::3::π)=some (.loop r0)∧(∀i,M i→ ∃l,i=1::l)∧ ∃v pre,Cz p st.d9=pre++l∧g.get (0::0::π)=some (.box [v])∧K9 g 4 v (pre.map E1)∧ ∀i∈AD v,M i:=⟨_,rfl⟩;have hE:LF qb (0::3::π) (fun i=>i=0::3::π∨i=0::0::π) I (fun _ _=>False) (4::π):=by
  refine⟨.inl rfl,fun i hi=>?_,fun h=>?_,fun h=>?_,fun{x l M H ρ v r} hI2 hr hv hρ hMρ hid=>?_,fun h hs=>?_,fun h _=>h.elim⟩
  .rcases hi with rfl|rfl
   .exact AR π (by omega)
   .exact AR π (by omega)
  .rw[hI]at h;exact h.2.1
  .rw[hI]at h;exact⟨_,h.1⟩
  .rw[hI]at hI2;obtain⟨g3,hMt,av,pre,hpre,g0,ha,hM⟩:=hI2;rw[g3]at hr;cases hr;have hpl:=congrArg List.length hpre;rw[CI,List.length_cons]at hpl;obtain⟨pv,rfl,hpv⟩:=hv;have u3:=hρ _ (AR (k:=3) (n:=4) π (by omega));have u0:=hρ _ (AR (k:=0) (n:=4) π (by omega));have a3:=AG u3;have b3:=Al u3;have a0:=AG u0;have b0:=Al u0;subst hr0;replace hI:=AA.mk hI;replace hpre:=AA.mk hpre;replace hM:=AA.mk hM;replace hMt:=AA.mk hMt;replace hρ:=AA.mk hρ;replace hMρ:=AA.mk hMρ;rcases ha with⟨rfl,hz⟩|⟨A,xs,rfl,gA⟩
   .have hz2:=Gt.1 hz;subst hz2;clear hz hpl;rcases hpv with⟨rfl,hp0⟩|⟨X,rfl,gX,lX,rfl⟩
    .have he:E1 x=[.int .i64 x.wait,.int .i64 x.group,.int .i64 x.ut,.be []]:=by rw[E1,hp0];rfl
     replace hp0:=AA.mk hp0;replace he:=AA.mk he;refine GN rfl ?_;refine aw ?_;refine .inl ⟨rfl,fun i=>i=1::5::ρ,?_,fun i hi=>.inr (.inr ⟨5,ρ,hi,Ag []⟩),fun i q1 q0 qv q2=>?_⟩
     .rw[hI.out];refine⟨?_,fun i hi=>⟨_,hi⟩,.em (1::5::ρ) 0 1,[x],hpre.out,?_,BZ [] rfl ?_,fun i hi=>by simpa[AD]using hi⟩
      .simp only[go_sem]
      .simp only[go_sem]
      .rw[D8,he.out];simp only[go_sem]
     .have p3:=AE fun e=>q1 (.inl e.symm);have p0:=AE fun e=>q1 (.inr e.symm);have p2:=AG q2;simp only[go_sem,p0,p2,p3,AM]
    .replace gX:=gX;refine GN rfl ?_;refine aw ?_;refine .inl ⟨rfl,fun i=>i=1::5::ρ,?_,fun i hi=>.inr (.inr ⟨5,ρ,hi,Ag []⟩),fun i q1 q0 qv q2=>?_⟩
     .rw[hI.out];refine⟨?_,fun i hi=>⟨_,hi⟩,.em (1::5::ρ) 0 1,[x],hpre.out,?_,BZ [] rfl ?_,fun i hi=>by simpa[AD]using hi⟩
      .simp only[go_sem]
      .simp only[go_sem]
      .rw[D8,E1];simp only[go_sem]
     .have pX:Id.is (1::lX) i=false:=AE fun e=>qv (by simp[AD,A5,e]);have p3:=AE fun e=>q1 (.inl e.symm);have p0:=AE fun e=>q1 (.inr e.symm);have p2:=AG q2;simp only[go_sem,p0,p2,p3,pX,AM]
   .obtain⟨lA,rfl⟩:=hMt.out A (hM.out A (by simp[AD]));have uA:=hMρ.out (1::lA) (hM.out _ (by simp[AD]));have c1:=AG uA;have c2:=Al uA;have hpx:AA (Cz p st.d9=(pre++[x])++l):=⟨by rw[hpre.out,EM];rfl⟩;rw[BI]at g0;rcases hpv with⟨rfl,hp0⟩|⟨X,rfl,gX,lX,rfl⟩
    .have he:E1 x=[.int .i64 x.wait,.int .i64 x.group,.int .i64 x.ut,.be []]:=by rw[E1,hp0];rfl
     replace hp0:=AA.mk hp0;replace he:=AA.mk he;rcases xs with _|⟨y,xs⟩
     .refine GN rfl ?_;refine ax ?_;refine .inl ⟨rfl,fun i=>i=1::5::ρ,?_,fun i hi=>.inr (.inr ⟨5,ρ,hi,Ag []⟩),fun i q1 q0 qv q2=>?_⟩
      .rw[hI.out];refine⟨?_,fun i hi=>⟨_,hi⟩,.em (1::5::ρ) 0 (pre.length+1),pre++[x],hpx.out,?_,BZ [] (by simp) ?_,fun i hi=>by simpa[AD]using hi⟩
       .simp only[go_sem]
       .simp only[go_sem]
       .rw[D0,D8,he.out,D4];simp only[go_sem,AM]
      .have pA:Id.is (1::lA) i=false:=AE fun e=>q0 (e▸hM.out (1::lA) (by simp[AD]));have p3:=AE fun e=>q1 (.inl e.symm);have p0:=AE fun e=>q1 (.inr e.symm);have p2:=AG q2;simp only[go_sem,p0,p2,p3,pA,AM]
     .refine GN rfl ?_;refine ax ?_;refine .inl ⟨rfl,M,?_,fun i hi=>.inl hi,fun i q1 q0 qv q2=>?_⟩
      .rw[hI.out];refine⟨?_,hMt.out,.em (1::lA) 0 (pre.length+1),pre++[x],hpx.out,?_,BZ xs (by simp) ?_,fun i hi=>hM.out i (by simpa[AD]using hi)⟩
       .simp only[go_sem]
       .simp only[go_sem]
       .rw[D0,D8,he.out,D4];simp only[go_sem,AM]
      .have pA:Id.is (1::lA) i=false:=AE fun e=>q0 (e▸hM.out (1::lA) (by simp[AD]));have p3:=AE fun e=>q1 (.inl e.symm);have p0:=AE fun e=>q1 (.inr e.symm);have p2:=AG q2;simp only[go_sem,p0,p2,p3,pA,AM]
    .have c5:Id.is (1::lX) (1::lA)=false:=AE fun e=>by rw[e]at gX;rw[gX]at gA;cases gA
     have c6:Id.is (1::lA) (1::lX)=false:=AE fun e=>by rw[←e]at gX;rw[gX]at gA;cases gA
     rcases xs with _|⟨y,xs⟩
     .refine GN rfl ?_;refine ax ?_;refine .inl ⟨rfl,fun i=>i=1::5::ρ,?_,fun i hi=>.inr (.inr ⟨5,ρ,hi,Ag []⟩),fun i q1 q0 qv q2=>?_⟩
      .rw[hI.out];refine⟨?_,fun i hi=>⟨_,hi⟩,.em (1::5::ρ) 0 (pre.length+1),pre++[x],hpx.out,?_,BZ [] (by simp) ?_,fun i hi=>by simpa[AD]using hi⟩
       .simp only[go_sem]
       .simp only[go_sem]
       .rw[D0,D8,E1,D4];simp only[go_sem,AM]
      .have pA:Id.is (1::lA) i=false:=AE fun e=>q0 (e▸hM.out (1::lA) (by simp[AD]));have pX:Id.is (1::lX) i=false:=AE fun e=>qv (by simp[AD,A5,e]);have p3:=AE fun e=>q1 (.inl e.symm);have p0:=AE fun e=>q1 (.inr e.symm);have p2:=AG q2;simp only[go_sem,p0,p2,p3,pA,pX,AM]
     .refine GN rfl ?_;refine ax ?_;refine .inl ⟨rfl,M,?_,fun i hi=>.inl hi,fun i q1 q0 qv q2=>?_⟩
      .rw[hI.out];refine⟨?_,hMt.out,.em (1::lA) 0 (pre.length+1),pre++[x],hpx.out,?_,BZ xs (by simp) ?_,fun i hi=>hM.out i (by simpa[AD]using hi)⟩
       .simp only[go_sem]
       .simp only[go_sem]
       .rw[D0,D8,E1,D4];simp only[go_sem,AM]
      .have pA:Id.is (1::lA) i=false:=AE fun e=>q0 (e▸hM.out (1::lA) (by simp[AD]));have pX:Id.is (1::lX) i=false:=AE fun e=>qv (by simp[AD,A5,e]);have p3:=AE fun e=>q1 (.inl e.symm);have p0:=AE fun e=>q1 (.inr e.symm);have p2:=AG q2;simp only[go_sem,p0,p2,p3,pA,pX,AM]
  .rw[hI]at h⊢;obtain⟨g3,hMt,v,pre,hpre,g0,ha,hM⟩:=h;exact⟨(hs _ (.inl (AR π (by omega)))).trans g3,hMt,v,pre,hpre,(hs _ (.inl (AR π (by omega)))).trans g0,Db ha fun i hi=>hs i (.inr (hM i hi)),hM⟩
 refine Qb (po hF.out (EF hM.out hu.out fun i b=>?_) (hu.out.ext 4) hs.out hE (fun i hi hc=>?_) (M:=fun _=>False) (fun _ _ h=>h) (fun _ h=>h.elim) ?_) (fun o1 g5 p1=>?_)
 .have q1:=AG b;simp only[go_sem,q1,AM]
 .have:=hu.out i hi;rcases hc with rfl|rfl
  .rw[show Id.under π (0::3::π)=true from Ag [0,3]]at this;cases this
  .rw[show Id.under π (0::0::π)=true from Ag [0,0]]at this;cases this
 .rw[hI];refine⟨?_,fun _ h=>h.elim,.ci,[],rfl,?_,.inl ⟨rfl,rfl⟩,fun i hi=>by simp[AD]at hi⟩
  .simp only[go_sem]
  .simp only[go_sem]
 rcases p1 with⟨rfl,M',p1,m',p2⟩|⟨_,p1⟩|⟨_,p1⟩
 .rw[hI]at p1;obtain⟨k3,hMt,v,pre,hpre,k0,ha,hM2⟩:=p1;rw[D9]at hpre;subst hr0;have hv:v.isCell=true∧v.cells=[v]:=by rcases ha with⟨rfl,_⟩|⟨_,_,rfl,_⟩<;>exact⟨rfl,rfl⟩
  obtain⟨hv1,hv2⟩:=hv;have gg: ∀i,Id.under (3::π) i=false→Id.under (4::π) i=false→(gc (3::π) (gc (4::π) g5)).get i=g5.get i:=fun i q1 q2=>by rw[Ab _ _ _ q1,Ab _ _ _ q2]
  have k0':=(gg (0::0::π) (AR π (by omega)) (AR π (by omega))).trans k0;replace gg:=AA.mk gg;replace p2:=AA.mk p2;replace m':=AA.mk m';replace hI:=AA.mk hI;replace ha:=AA.mk ha;replace hpre:=AA.mk hpre;replace hMt:=AA.mk hMt;replace hM2:=AA.mk hM2;clear hE hlen;refine aw ?_;refine⟨v,rfl,?_,fun i hi=>?_,fun i hi=>?_⟩
  .rw[hpre.out];exact Db ha.out fun i hi=>by
    obtain⟨l,rfl⟩:=hMt.out i (hM2.out i hi);rw[E2,E2]
  .rcases m'.out i (hM2.out i hi)with q|q
   .exact q.elim
   .exact⟨q.out.up,hMt.out i (hM2.out i hi)⟩
  .have q:=AG hi;rw[gg.out i (AF hi _) (AF hi _),p2.out i (fun hc=>?_) (fun h=>h) (AF hi _)]
   .simp only[go_sem,q,AM]
   .rcases hc with rfl|rfl
    .rw[show Id.under π (0::3::π)=true from Ag [0,3]]at hi;cases hi
    .rw[show Id.under π (0::0::π)=true from Ag [0,0]]at hi;cases hi
 .exact p1.elim
 .exact p1.elim
theorem ba{h:AB}(hF:BD p sz)(hM:Dq p sz h m V st)(hst:st.d9=s)(hu:CC π V m)(hs:E6 p sz s): ∃o h',KL Tryz.prog cfg (.fn 59) [.fn 52 [.ptr m 0] []] h π true none=.ok (o,h')∧ ∃v,o=.ret v∧K9 h' 4 v ((Cz p s).map E1)∧(∀i∈AD v,Id.under π i=true∧ ∃l,i=1::l)∧ ∀i,Id.under π i=false→h'.get i=h.get i:=by
 replace hM:=AA.mk hM;replace hF:=AA.mk hF;replace hs:=AA.mk hs;replace hu:=AA.mk hu
 (refine Ah rfl Tryz.func59 rfl rfl rfl ?_;show Wp _ _ _ _ (Tryz.f59.body.get rfl) _ _;simp only[Tryz.f59,AS])
 refine aw ?_;refine AX (kh hF.out hM.out hst (hu.out.ext 2) hs.out) (fun o1 g1 p1=>?_);obtain⟨v,rfl,h1,h2,h3⟩:=p1;have hv:v.isCell=true∧v.cells=[v]:=by rcases h1 with⟨rfl,_⟩|⟨_,_,rfl,_⟩<;>exact⟨rfl,rfl⟩
 obtain⟨hv1,hv2⟩:=hv;replace h1:=AA.mk h1;replace h2:=AA.mk h2;replace h3:=AA.mk h3;refine aw ?_;refine⟨v,rfl,Db h1.out fun i hi=>?_,fun i hi=>?_,fun i hi=>?_⟩
 .obtain⟨l,rfl⟩:=(h2.out i hi).2;rw[E2]
 .exact⟨BR (h2.out i hi).1,(h2.out i hi).2⟩
 .rw[Ab _ _ _ (AF hi _),h3.out i (AF hi _)]
def Z1:Option (BM×List EK)→Made
 |some (s,ev)=>⟨s,ev,0⟩
 |none=>⟨Dh,[],3⟩
def Qe(p:AI)(s:BM)(ks:List Int):Made:=if Bx p s=0 then if ks.length≤200 then Z1 (Jr p ks s [])else⟨Dh,[],3⟩else⟨Dh,[],2⟩
theorem vU{k:Int}{n j:Nat}(hj:j=(max k 0).toNat % n):(if 0>k then 0 else k).tmod (n:Int)=(j:Int):=by
 subst hj;by_cases hk:0>k
 .rw[DO hk,show max k 0=0 by omega];simp
 .obtain⟨m,rfl⟩: ∃m:Nat,k=m:=⟨k.toNat,by omega⟩;rw[CS hk,show(max (m:Int) 0).toNat=m by omega];exact(Int.tmod_eq_emod_of_nonneg (by omega)).trans (by omega)
theorem O7{id:Abs.Id}{ev:List EK}{w:Int}(hM:Dq p sz g id V ⟨s,ev,w⟩):ACg (fun o' h'=>nrm (o',h')=(Ae.ret (QS (Z1 (some (s,ev)))),[])) (Option.map AV.ge (Uj (Option.map AV.agg (NV (Dn g.get (V.s 0)) (NV (Dn g.get (V.s 1)) (NV (Dn g.get V.v3) (NV (Dn g.get (V.s 2)) (some [])))))) (Uj (Ed g.get (V.s 3)) (some [.d (.int .i64 0)])))):=by
 have f0:=OX (hM.sl 0 (by omega));have f1:=OX (hM.sl 1 (by omega));have f2:=OX (hM.sl 2 (by omega));have f3:=sW (hM.sl 3 (by omega));have f4:=se hM.arr hM.am;simp only[A8]at f0 f1 f2 f3;rw[f0,f1,f2,f3,f4];rfl
theorem xZ(p:AI)(s:BM)(ks:List Int)(hp: ∀s∈p.free,s.size≤maxLen):BJ (KL Tryz.prog cfg) 25 [pA p,sA s,.d (.be (ks.map AK))] []=.ok (.ret (QS (Qe p s ks)),[]):=by
 obtain⟨r,hr,hpost⟩:=nD p s hp 8 [];replace hp:=AA.mk hp;by_cases h0:Bx p s=0
 .obtain⟨st,id,V,g,rfl,hL⟩:=hpost.i5 h0;have hg:=hL.own;have g0: ∀n,¬n=8→ ∀L,AB.get (g++L) [0,n]=AB.get L [0,n]:=fun n hn L=>Bb (hg _ (AR [] hn));replace hg:=AA.mk hg;obtain⟨st2,hf⟩:=yd h0;have hlk:=hL.looks;rw[hf.looks]at hlk;cases hlk;have hF:=hf.formed;have hs:=hf.rc;replace hL:=AA.mk hL;replace hF:=AA.mk hF;replace hs:=AA.mk hs;have hVu: ∀i∈V.ids id,∀k,¬k=8→Id.under [k] i=false:=fun i hi k hk=>by
   have:=hL.out.ids i hi;cases hx:Id.under [k] i with
   |false=>rfl
   |true=>have:=Bg (π:=[]) this hx;omega
  replace hVu:=AA.mk hVu;by_cases hk:(ks.length:Int)≤200
  .have hr1:AA (Qe p s ks=Z1 (Jr p ks s [])):=⟨by rw[Qe,DO h0,DO (by omega)]⟩;obtain⟨R,hR⟩: ∃R,R=Jr p ks s []:=⟨_,rfl⟩;rw[hr1.out,←hR];clear hr1;replace hR:=AA.mk hR
   (refine Ar rfl Tryz.func25 rfl rfl rfl ?_;show Wp _ _ _ _ (Tryz.f25.body.get rfl) _ _;simp only[Tryz.f25,AS])
   refine aw ?_;have g02:=g0 2 (by decide);have g04:=g0 4 (by decide);refine Aw ks (S:=fun i (a:(AB×MV)×Nat)=>⟨[(6,.ptr [0,2] 0),(7,.ci),(8,.ptr [0,4] 0),(9,.ptr id 0),(19,.d (.be (ks.map AK))),(20,.d (.int .i64 (ks.length))),(21,.d (.int .i64 (i)))],a.1.1,a.2+16,[.call 50 [.ptr [0,4] 0]]⟩)
    (Inv:=fun i rest a=>a.1.1.get [0,2]=some (.box [.ci,.ci,.ci,.ci])∧a.1.1.get [0,4]=some (.box [.d (.int .i64 (0))])∧AA (∃s' ev w,Dq p st.ce a.1.1 id a.1.2 ⟨s',ev,w⟩∧E6 p st.ce s'∧ev.length≤401*i∧Jr p rest s' ev=R)∧AA (∀j∈a.1.2.ids id,(∃n,n<a.2+16∧Id.under [n] j=true)∧ ¬j=[0,2]∧ ¬j=[0,4])) (b0:=((_,V),0)) ⟨?_,?_,⟨s,[],0,ny hL.out.rep fun i o hi=>DK hi,hs.out,by simp,hR.out.symm⟩,⟨fun j hj=>?_⟩⟩ ?_ ?_
   .simp only[go_sem,g02]
   .simp only[go_sem,g04]
   .have:=hL.out.ids j hj;refine⟨⟨8,by dsimp only;omega,this⟩,fun e=>?_,fun e=>?_⟩
    .rw[e]at this;cases this
    .rw[e]at this;cases this
   .clear g02 g04 hVu;clear hL;rintro i k ⟨⟨g2,V⟩,b⟩ hy hi him ⟨g02,g04,hI,hV⟩ IH;dsimp only at*;obtain⟨s',ev,w,hM,hs',hel,hrun⟩:=hI.out;have ap: ∀n,b+16≤n→CC [n] V id:=fun n hn j hj=>by
     obtain⟨⟨m,h1,h2⟩,_⟩:=hV.out j hj;cases hx:Id.under [n] j with
     |false=>rfl
     |true=>have:=Bg (π:=[]) h2 hx;omega
    have hsl:=VW hF.out hs';have hw:IntKind.i64.wrap ((i:Int)+1)=(i:Int)+1:=wrap_id (by omega) (by omega);replace ap:=AA.mk ap;replace hM:=AA.mk hM;replace hs':=AA.mk hs';replace hrun:=AA.mk hrun;refine aw ?_;refine AX (ba hF.out hM.out rfl (ap.out _ (by omega)) hs'.out) (fun o1 g1 p1=>?_);obtain⟨v,rfl,h1,h2,h3⟩:=p1;dsimp only at h1;have hVi: ∀j∈V.ids id,∀n,b+16≤n→(gc [n] g1).get j=g1.get j:=fun j hj n hn=>Ab _ _ _ (ap.out n hn j hj);have k02:=(Ab [b+22] g1 [0,2] (AR [] (by omega))).trans ((h3 [0,2] (AR [] (by omega))).trans g02);have k04:=(Ab [b+22] g1 [0,4] (AR [] (by omega))).trans ((h3 [0,4] (AR [] (by omega))).trans g04);have hM2:=Bf hM.out fun j hj=>(hVi j hj (b+22) (by omega)).trans (h3 j (ap.out _ (by omega) j hj));replace hVi:=AA.mk hVi;replace h2:=AA.mk h2;replace h3:=AA.mk h3;replace hM2:=AA.mk hM2;rcases h1 with⟨rfl,hz⟩|⟨S,xs,rfl,gS⟩
    .have hz2:=Gt.1 hz;replace hz2:=AA.mk hz2;clear hz;have gm:=(hM2.out).box;simp only[Aq]at gm;obtain⟨c0,d0⟩:=CW ((hM2.out).sl 0 (by omega));obtain⟨c1,d1⟩:=CW ((hM2.out).sl 1 (by omega));obtain⟨c2,d2⟩:=CW ((hM2.out).sl 2 (by omega));obtain⟨c3,d3⟩:=CW ((hM2.out).sl 3 (by omega));obtain⟨c4,d4⟩:=LQ (hM2.out).arr;replace hM:=AA.mk hM;have hR2:AA (R=some (s',ev)):=⟨by rw[←hrun.out,Jr,Ht,hz2.out];rfl⟩;rw[hR2.out];refine aw ?_;rw[N8 1 0 _ rfl];refine aw ?_;refine⟨by rw[AE (hV.out id (V.m_mem id)).2.1];rfl,O7 (Bf hM2.out fun j hj=>?_)⟩;rw[get_put,AE (fun e=>(hV.out j hj).2.2 e.symm),get_put,AE (fun e=>(hV.out j hj).2.1 e.symm)];rfl
    .by_cases hT0:Cz p s'=[]
     .have hT:=AA.mk hT0;rw[hT0]at gS⊢;clear hT0;have gm:=(hM2.out).box;simp only[Aq]at gm;obtain⟨c0,d0⟩:=CW ((hM2.out).sl 0 (by omega));obtain⟨c1,d1⟩:=CW ((hM2.out).sl 1 (by omega));obtain⟨c2,d2⟩:=CW ((hM2.out).sl 2 (by omega));obtain⟨c3,d3⟩:=CW ((hM2.out).sl 3 (by omega));obtain⟨c4,d4⟩:=LQ (hM2.out).arr;replace hM:=AA.mk hM;have hR2:AA (R=some (s',ev)):=⟨by rw[←hrun.out,Jr,Ht,hT.out];rfl⟩;rw[hR2.out];refine aw ?_;rw[N8 1 0 _ rfl];refine aw ?_;refine⟨by rw[AE (hV.out id (V.m_mem id)).2.1];rfl,O7 (Bf hM2.out fun j hj=>?_)⟩;rw[get_put,AE (fun e=>(hV.out j hj).2.2 e.symm),get_put,AE (fun e=>(hV.out j hj).2.1 e.symm)];rfl
     .obtain⟨n,hn⟩: ∃n,n=(Cz p s').length:=⟨_,rfl⟩;have hn0: ¬(n:Int)=0:=fun e=>hT0 (Cs (by omega));obtain⟨j,hj⟩: ∃j,j=(max k 0).toNat % n:=⟨_,rfl⟩;have hjn:j<n:=by rw[hj];exact Nat.mod_lt _ (by omega)
      have hji:(j:Int)<n:=by omega
      obtain⟨x,hx⟩:=get_some (l:=Cz p s') (i:=j) (by omega);have hidx:(if 0>k then 0 else k).tmod (n:Int)=(j:Int):=vU hj;have hpick:AA (Ht (Cz p s') k=some x):=⟨by rw[Ht,←hn,←hj];exact hx⟩;have hnl:n≤3000000:=by omega
      rw[BI,←hn];have hin:=AA.mk (Ac hx);replace hj:=AA.mk hj;have hn2:n=(Cz p s').length:=hn;replace hT0:=AA.mk hT0;clear hsl;obtain⟨lS,rfl⟩:=(h2.out S (by simp[AD])).2;have gS2:=(E2 [b+22] g1 lS).trans gS;have lSl:j<((Cz p s').map E1++xs).length:=by rw[CI,BI];omega
      have lSx:((Cz p s').map E1++xs)[j]? =some (E1 x):=by rw[Be (by rw[BI];omega),D1,hx];rfl
      have lSl2:j<(Cz p s').length+xs.length:=by omega
      replace hx:=AA.mk hx;replace hn:=AA.mk hn;replace hn2:=AA.mk hn2;refine aw ?_;refine AX (AEe hF.out hM2.out (ap.out _ (by omega)) hs'.out (x:=x) (Q7.1 hin.out) (by dsimp only;omega)) (fun o2 g3 p2=>?_);cases hds:EO p s' x with
      |none=>
       rw[JV,hds]at p2;obtain⟨rfl,p2⟩:=p2;have n02:[0,2] ∉V.ids id:=fun hh=>(hV.out _ hh).2.1 rfl;have n04:[0,4] ∉V.ids id:=fun hh=>(hV.out _ hh).2.2 rfl;have q02:=((Ab [b+36] g3 [0,2] (AR [] (by omega))).trans (p2 _ n02 (AR [] (by omega)))).trans k02;have q04:=((Ab [b+36] g3 [0,4] (AR [] (by omega))).trans (p2 _ n04 (AR [] (by omega)))).trans k04;have hR2:AA (R=none):=⟨by rw[←hrun.out,Jr,hpick.out];simp only[hds]⟩;rw[hR2.out];replace p2:=AA.mk p2
       (repeat' (first|simp only[go_sem, *,CL]|(refine sx ?_ ?_<;>intro hc)|refine sy (by omega) fun x hx hm=>?_|simp(disch:=first|assumption|omega) only[AJ]))
       rfl
      |some m=>
       rw[JV,hds]at p2;obtain⟨rfl,V2,hM3,hK⟩:=p2;obtain⟨h3a,h3b,h3c⟩:=VV hF.out hs'.out (Q7.1 hin.out) hds;have n02:[0,2] ∉V.ids id:=fun hh=>(hV.out _ hh).2.1 rfl;have n04:[0,4] ∉V.ids id:=fun hh=>(hV.out _ hh).2.2 rfl;have q02:=((Ab [b+36] g3 [0,2] (AR [] (by omega))).trans (hK.frame _ n02 (AR [] (by omega)))).trans k02;have q04:=((Ab [b+36] g3 [0,4] (AR [] (by omega))).trans (hK.frame _ n04 (AR [] (by omega)))).trans k04;replace hM3:=AA.mk hM3;replace hK:=AA.mk hK;replace h3a:=AA.mk h3a;replace h3c:=AA.mk h3c;replace h3b:=AA.mk h3b;refine aw ?_;refine IH.out ((gc [b+36] g3,V2),b+23) ⟨q02,q04,⟨m.d9,ev++m.ev,m.work,Bf hM3.out fun j hj=>?_,?_,?_,?_⟩,⟨fun j hj=>?_⟩⟩
       .rcases hK.out.ids j hj with q|⟨_,l,rfl⟩
        .exact Ab _ _ _ (ap.out _ (by omega) j q)
        .exact E2 _ _ _
       .exact h3a.out
       .have:=h3c.out;rw[CI];omega
       .rw[←hrun.out,Jr,hpick.out];simp only[hds]
       .rcases hK.out.ids j hj with q|⟨q,l,rfl⟩
        .obtain⟨⟨n,q1,q2⟩,q3⟩:=hV.out j q;exact⟨⟨n,by dsimp only;omega,q2⟩,q3⟩
        .exact⟨⟨b+36,by dsimp only;omega,q⟩,by simp,by simp⟩
   .clear g02 g04 hVu;clear hL;rintro i ⟨⟨g2,V⟩,b⟩ hi him ⟨g02,g04,hI,hV⟩;dsimp only at*;obtain⟨s',ev,w,hM,hs',hel,hrun⟩:=hI.out;have gm:=(hM).box;simp only[Aq]at gm;obtain⟨c0,d0⟩:=CW ((hM).sl 0 (by omega));obtain⟨c1,d1⟩:=CW ((hM).sl 1 (by omega));obtain⟨c2,d2⟩:=CW ((hM).sl 2 (by omega));obtain⟨c3,d3⟩:=CW ((hM).sl 3 (by omega));obtain⟨c4,d4⟩:=LQ (hM).arr;replace hM:=AA.mk hM;have hR2:AA (R=some (s',ev)):=⟨by rw[←hrun];rfl⟩;clear hrun;rw[hR2.out];replace hs':=AA.mk hs';refine aw ?_;refine⟨by rw[AE (hV.out id (V.m_mem id)).2.1];rfl,O7 (Bf hM.out fun j hj=>?_)⟩;rw[get_put,AE (fun e=>(hV.out j hj).2.2 e.symm),get_put,AE (fun e=>(hV.out j hj).2.1 e.symm)];rfl
  .have hr2:AA (Qe p s ks=⟨Dh,[],3⟩):=⟨by rw[Qe,DO h0,CS (by omega)]⟩;have g02:=g0 2 (by decide);have g04:=g0 4 (by decide)
   (refine Ar rfl Tryz.func25 rfl rfl rfl ?_;show Wp _ _ _ _ (Tryz.f25.body.get rfl) _ _;simp only[Tryz.f25,AS])
   (repeat' (first|simp only[go_sem, *,CL]|(refine sx ?_ ?_<;>intro hc)|refine sy (by omega) fun x hx hm=>?_|simp(disch:=first|assumption|omega) only[AJ]))
   rw[hr2.out];rfl
 .obtain rfl:=hpost.bad h0;have h2:=AA.mk (yM h0);have hc:AA (Qe p s ks=⟨Dh,[],2⟩):=⟨by rw[Qe,CS h0]⟩
  (refine Ar rfl Tryz.func25 rfl rfl rfl ?_;show Wp _ _ _ _ (Tryz.f25.body.get rfl) _ _;simp only[Tryz.f25,AS])
  (repeat' (first|simp only[go_sem, *,CL]|(refine sx ?_ ?_<;>intro hc)|refine sy (by omega) fun x hx hm=>?_|simp(disch:=first|assumption|omega) only[AJ]))
  rw[hc.out];rfl
def ak(e:EK):Prop:=e.jp.length≤5000
theorem Od{f:Ga→CK→Option CK}(hf: ∀j st st',f j st=some st'→(∀e∈st.ev,ak e)→ ∀e∈st'.ev,ak e): ∀(js:List Ga) (st st':CK),Bn f js st=some st'→(∀e∈st.ev,ak e)→ ∀e∈st'.ev,ak e
 |[],st,st',h,hb=>by
  rw[Bn]at h;cases h;exact hb
 |j::js,st,st',h,hb=>by
  rw[Bn]at h;obtain⟨s1,h1,h2⟩:=IT.1 h;exact Od hf js s1 st' h2 (hf j st s1 h1 hb)
variable{i:Nat}{j:Ga}
theorem wJ(hF:BD p sz){x:Cq}(hx:p.nodes[i]? =some x)(ho:x.op=2){st':CK}(h:Ec p x j st=some st')(hb: ∀e∈st.ev,ak e): ∀e∈st'.ev,ak e:=by
 obtain⟨s,l,_,_,_,hn,_⟩:=hF.node i x hx;simp only[Cc,AP]at hn;have ha:=hn.2.2.1;rw[Ea,DO ho,Ap]at ha;simp only[Ec]at h;split at h
 .cases h;intro e he;rcases EX.1 he with he|he
  .exact hb e he
  .rw[As.1 he];show(x.args.map _).length≤5000;rw[BI];omega
 split at h
 .obtain⟨s,_,rfl⟩:=BV.1 h;exact hb
 .cases h;exact hb
theorem jg(hF:BD p sz){r:CK×List Ga}(h:Jd p j st=some r)(hb: ∀e∈st.ev,ak e): ∀e∈r.1.ev,ak e:=by
 unfold Jd at h;split at h
 .rename_i x hx;split at h
  .rename_i ho;obtain⟨s,h1,rfl⟩:=BV.1 h;exact wJ hF hx ho h1 hb
  split at h
  .cases h;exact hb
  split at h
  .unfold Hh at h;split at h
   .dsimp only at h;split at h
    .cases h;exact hb
    .cases h
   .cases h
  split at h
  .cases h;exact hb
  split at h
  .obtain⟨s,h1,rfl⟩:=BV.1 h;unfold IL at h1;split at h1
   .cases h1;exact hb
   .cases h1
  .cases h;exact hb
 .cases h
theorem Qt(hF:BD p sz): ∀(k:Nat) (j:Ga) (st st':CK),Fb p k j st=some st'→(∀e∈st.ev,ak e)→ ∀e∈st'.ev,ak e
 |0,j,st,st',h,_=>by cases h
 |k+1,j,st,st',h,hb=>by
  rw[Fb]at h;split at h
  .cases hd:Jd p j {st with work:=st.work+1}with
   |none=>rw[hd]at h;cases h
   |some r=>
    rw[hd]at h;have:=jg hF hd hb;exact Od (Qt hF k) r.2 r.1 st' h this
  .cases h
variable{x:FY}
theorem wc(hF:BD p sz)(hs:E6 p sz s)(h:Kc p s x)(hd:EO p s x=some st): ∀e∈st.ev,ak e:=by
 have one: ∀a:EK,ak a→ ∀e∈ [a],ak e:=fun a ha e he=>by rw[As.1 he];exact ha
 have nil: ∀a b c d:Int,ak ⟨a,b,c,d,[]⟩:=fun _ _ _ _=>I4 _;cases h with
 | @wait i w h1 h2=>
   rw[EO,CS (by dsimp only;omega),MI]at hd;simp only[F9,h1]at hd;split at hd
   .unfold J7 at hd;dsimp only at hd;split at hd
    .cases hd;exact one _ (nil _ _ _ _)
    split at hd
    .exact Od (Qt hF 401) _ _ _ hd (one _ (nil _ _ _ _))
    .exact Od (Qt hF 401) _ _ _ hd (one _ (nil _ _ _ _))
   .cases hd
 | @ut i k g d r t h1 h2 h3 h4 h5=>
   obtain⟨_,hj⟩:=PD hF hs h1 h2 h3 h4 h5;obtain⟨_,_,_,_,_,_,hl⟩:=KM hF hj;dsimp only at hl;rw[CI]at hl;have h1':s.bi[((i:Nat):Int).toNat]? =some g:=h1;have h3':d.rules[((k:Nat):Int).toNat]? =some r:=h3;rw[EO,DO (by dsimp only;omega),Z2]at hd;simp only[h1',(Fv h2).2,h3',O8]at hd;exact Qt hF 401 _ _ _ hd (one _ (by show(BO d g r.d8 t s).1.length≤5000;omega))
theorem Zq{l:List FY}{k:Int}(h:Ht l k=some x):x∈l:=Ac h
theorem wE(hF:BD p sz): ∀(ks:List Int) (s:BM) (ev:List EK) (r:BM×List EK),E6 p sz s→(∀e∈ev,ak e)→Jr p ks s ev=some r→E6 p sz r.1∧(∀e∈r.2,ak e)∧r.2.length≤ev.length+401*ks.length
 |[],s,ev,r,hs,hb,h=>by cases h;exact⟨hs,hb,by simp⟩
 |k::ks,s,ev,r,hs,hb,h=>by
  rw[Jr]at h;cases hp:Ht (Cz p s) k with
  |none=>
   rw[hp]at h;cases h;exact⟨hs,hb,by simp⟩
  |some x=>
   rw[hp]at h;simp only at h;cases hd:EO p s x with
   |none=>rw[hd]at h;cases h
   |some m=>
    rw[hd]at h;have hx:=Q7.1 (Zq hp);obtain⟨h1,_,h3⟩:=VV hF hs hx hd;have h4:=wc hF hs hx hd;obtain⟨q1,q2,q3⟩:=wE hF ks m.d9 (ev++m.ev) r h1 (fun e he=>(EX.1 he).elim (hb e) (h4 e)) h;refine⟨q1,q2,?_⟩;rw[CI]at q3;rw[List.length_cons];omega
theorem Pd(p:AI)(sz:List Int):E6 p sz DA:=by
 refine⟨by decide,PH (by decide),fun i x hi hx=>?_,fun i g hg=>by simp[DA]at hg,rfl,fun c q hq=>by simp[DA]at hq,fun w hw=>by simp[DA]at hw⟩;have:=(BE.1 hx).1;simp[DA]at this;omega
theorem Pc(hF:BD p sz):Cl p sz DA ⟨p.main,0,Bw p.free.length⟩:=by
 obtain⟨h1,h2⟩:=hF.main;refine⟨h1,by rw[h2];simp[Bw],(show Dd DA.ac 0 from⟨by decide,by decide⟩),(show AW DA.ac 0=false by decide),?_⟩;rw[Ci];intro v hv;simp only[Bw,F0,Ok]at hv;obtain⟨i,hi,rfl⟩:=hv;simp[CT.inB];omega
theorem bu{p:AI}{sz:List Int}(hF:BD p sz){st:CK}(h:Je p=some st):E6 p sz st.d9∧st.ev.length≤400∧ ∀e∈st.ev,RH st.d9 e:=by
 have hp:=Iy hF 401 ⟨p.main,0,Bw p.free.length⟩ ⟨DA,[],0⟩ st (Pd p sz) (Pc hF) h;obtain⟨l,h1,h2,h3⟩:=hp.evs;have h4:=hp.top (by dsimp only;omega);simp only[Gc]at h1;subst h1;dsimp only at h2;exact⟨hp.rc,by omega,h3⟩
def JD(p:AI):Made:=if (looks p).isSome=true then zY (Je p)else⟨Dh,[],2⟩
theorem lF{fr:Fr}{bl:Nat}{x:Code}{E:Bm}{b:Nat}(hn: ∀G,G=H→ia cfg K fr bl x ⟨E,G,b,ds⟩ Q):ia cfg K fr bl x ⟨E,H,b,ds⟩ Q:=hn H rfl
structure PO(p:AI)(sz:List Int)(V:MV)(G:AB):Prop where
 rep:Dq p sz G [0,0,6] V ⟨DA,[],0⟩
 x0:G.get [0,0]=some (.box [.d (.be (p.free.map Av)),.d (.be (p.nodes.map Ad)),.d (.be (p.defs.map Ax)),.d (.int .i64 (p.main))])
 x1:G.get [0,1]=some (.box [.ci,.ci,.ci,.ci])
 x3:G.get [0,3]=some (.box [.d (.int .i64 (0))])
theorem YJ{G:AB}(h0:G.get [0,0,6]=some (.box (Aq p sz (Te (.em [1,10] 0 1) .ci .ci .ci v9 a []) 0)))(h1:G.get a=some (.map IB))(h2:G.get [1,10]=some (.co 2 [[.int .i64 (-1),.bool false]])):Dq p sz G [0,0,6] (Te (.em [1,10] 0 1) .ci .ci .ci v9 a []) ⟨DA,[],0⟩:=by
 refine⟨h0,h1,fun i hi=>?_,.inl ⟨rfl,rfl⟩,⟨rfl,fun j q hj=>by cases hj⟩,fun id hid=>(by cases hid),by simp[Te]⟩
 match i,hi with
 |0,_=>exact BZ [] rfl h2
 |1,_=>exact .inl ⟨rfl,rfl⟩
 |2,_=>exact .inl ⟨rfl,rfl⟩
 |3,_=>exact .inl ⟨rfl,rfl⟩
theorem PO.mono{p:AI}{sz:List Int}{V:MV}{G G':AB}(h:PO p sz V G)(hV: ∀j∈V.ids [0,0,6],∃n,n<20∧Id.under [n] j=true∧ ¬j=[0,1]∧ ¬j=[0,3])(hl: ∀j,(∀k,20≤k→Id.is [1,k] j=false)→G'.get j=G.get j):PO p sz V G':=by
 refine⟨Bf h.rep fun j hj=>hl j fun k hk=>AE fun e=>?_,(hl _ fun k _=>rfl).trans h.x0,(hl _ fun k _=>rfl).trans h.x1,(hl _ fun k _=>rfl).trans h.x3⟩;obtain⟨n,h1,h2,_⟩:=hV j hj;subst e;have:=Bg (π:=[]) h2 (under_iff.2 ⟨[1],rfl⟩:Id.under [k] [1,k]=true);omega
theorem kF(n:Nat):Bw (n+1)=Bw n++[⟨2,(n:Int)⟩]:=by
 simp[Bw,List.range_succ]
theorem qJ(p:AI)(hp: ∀s∈p.free,s.size≤maxLen):BJ (KL Tryz.prog cfg) 31 [pA p] []=.ok (.ret (QS (JD p)),[]):=by
 obtain⟨r,hr,hpost⟩:=Qa p hp 6 [];replace hp:=AA.mk hp;cases hlk:looks p with
 |none=>
  obtain rfl:=hpost.f9 hlk;have hR:AA (JD p=⟨Dh,[],2⟩):=⟨by rw[JD,hlk];rfl⟩;rw[hR.out]
  (refine Ar rfl Tryz.func31 rfl rfl rfl ?_;show Wp _ _ _ _ (Tryz.f31.body.get rfl) _ _;simp only[Tryz.f31,AS])
  (repeat' (first|simp only[go_sem, *,CL]|(refine sx ?_ ?_<;>intro hc)|refine sy (by omega) fun x hx hm=>?_|simp(disch:=first|assumption|omega) only[AJ]))
  rfl
 |some st=>
  obtain rfl:=hpost.ret st hlk;have hF:=B5 hlk;have hR:AA (JD p=zY (Je p)):=⟨by rw[JD,hlk];rfl⟩;rw[hR.out];replace hF:=AA.mk hF;replace hlk:=AA.mk hlk;by_cases hD0:p.defs.length=0;all_goals
   simp only[KU,hD0,F3,ES,IB]at hr
   (refine Ar rfl Tryz.func31 rfl rfl rfl ?_;show Wp _ _ _ _ (Tryz.f31.body.get rfl) _ _;simp only[Tryz.f31,AS])
   refine aw ?_;refine lF fun G hG=>?_;have hK: ∃V,PO p st.ce V G∧ ∀j∈V.ids [0,0,6],∃n,n<20∧Id.under [n] j=true∧ ¬j=[0,1]∧ ¬j=[0,3]:=by
    subst hG;first
    |(refine⟨_,⟨YJ (v9:=.emp) (a:=[1,3,6]) ?_ ?_ ?_,?_,?_,?_⟩,fun j hj=>?_⟩
      .rfl
      .rfl
      .rfl
      .rfl
      .rfl
      .rfl
      .rcases(MV.mem _ _ j).1 hj with rfl|rfl|⟨i,hi,h⟩|h|h
       .exact⟨6,by omega,rfl,(by intro e;cases e),(by intro e;cases e)⟩
       .exact⟨6,by omega,rfl,(by intro e;cases e),(by intro e;cases e)⟩
       .match i,hi with
        |0,_=>simp only[Te,AD,As]at h;subst h;exact⟨10,by omega,rfl,(by intro e;cases e),(by intro e;cases e)⟩
        |1,_=>simp[Te,AD]at h
        |2,_=>simp[Te,AD]at h
        |3,_=>simp[Te,AD]at h
       .simp[Te,AD]at h
       .simp[Te,AD]at h)
    |(refine⟨_,⟨YJ (v9:=.em [1,1,6] 0 p.defs.length) (a:=[1,4,6]) ?_ ?_ ?_,?_,?_,?_⟩,fun j hj=>?_⟩
      .rfl
      .rfl
      .rfl
      .rfl
      .rfl
      .rfl
      .rcases(MV.mem _ _ j).1 hj with rfl|rfl|⟨i,hi,h⟩|h|h
       .exact⟨6,by omega,rfl,(by intro e;cases e),(by intro e;cases e)⟩
       .exact⟨6,by omega,rfl,(by intro e;cases e),(by intro e;cases e)⟩
       .match i,hi with
        |0,_=>simp only[Te,AD,As]at h;subst h;exact⟨10,by omega,rfl,(by intro e;cases e),(by intro e;cases e)⟩
        |1,_=>simp[Te,AD]at h
        |2,_=>simp[Te,AD]at h
        |3,_=>simp[Te,AD]at h
       .simp[Te,AD]at h
       .simp[Te,AD]at h)
   clear hG;clear hr;obtain⟨V,hM,hV⟩:=hK;have freeN:p.free.length≤1000000:=by
    have:=hF.out.small;simp only[AI.small,AP,Ap]at this;omega
   refine Aw p.free (S:=fun i (a:(AB×AV)×Nat)=>⟨[(1,.ptr [0,0] 0),(2,.ptr [0,1] 0),(3,.ci),(4,.ptr [0,3] 0),(5,.ptr [0,0,6] 0),(6,a.1.2),(18,.d (.int .i64 (p.free.length))),(19,.d (.int .i64 (i)))],a.1.1,a.2+20,[.call 50 [.ptr [0,3] 0]]⟩)
    (Inv:=fun i rest a=>AA (PO p st.ce V a.1.1)∧AA (K9 a.1.1 2 a.1.2 ((Bw i).map AL))∧AA (∀j∈AD a.1.2,∃n,20≤n∧n<a.2+20∧j=[1,n])) (b0:=((_,.ci),0)) ⟨⟨hM⟩,⟨.inl ⟨rfl,rfl⟩⟩,⟨fun j hj=>by simp[AD]at hj⟩⟩ ?_ ?_
   .clear hM G;rintro i y ⟨⟨G,v⟩,b⟩ hy hi him ⟨hM,hv,hid⟩ IH;dsimp only at*;have x0:=hM.out.x0;have hfl:(Bw i).length=i:=by simp[Bw]
    have hfs:=AA.mk (kF i);have hfm:=freeN;have w1:IntKind.i64.wrap ((i:Int)+1)=(i:Int)+1:=wrap_id (by omega) (by omega);replace hV:=AA.mk hV;rcases hv.out with⟨rfl,hz⟩|⟨S,xs,rfl,gS⟩
    .have hz2:=Gt.1 hz;have hi0:i=0:=by rw[hz2]at hfl;exact hfl.symm
     subst hi0;clear hz;replace hfl:=AA.mk hfl;replace hz2:=AA.mk hz2;have h00:(0:Int)<p.free.length:=by omega
     refine aw ?_;refine IH.out ((_,_),b+11) ⟨⟨hM.out.mono hV.out fun j hj=>?_⟩,⟨BZ [] rfl ?_⟩,⟨fun j hj=>?_⟩⟩
     .have q1:=hj (b+26) (by omega);have q2:=hj (b+27) (by omega);simp only[go_sem,q1,q2,AM]
     .rw[hfs.out,hz2.out];simp only[go_sem]
     .simp only[AD,As]at hj;exact⟨b+27,by omega,by dsimp only;omega,hj⟩
    .obtain⟨n,n1,n2,rfl⟩:=hid.out S (by simp[AD]);rw[BI,hfl];have n3: ¬b+26=n:=by omega
     have n4: ¬n=b+26:=by omega
     have n5: ¬b+27=n:=by omega
     have n6: ¬n=b+27:=by omega
     have tk:List.take i ((Bw i).map AL)=(Bw i).map AL:=DL (by rw[BI];omega);have tk2: ∀l:List (List AZ),List.take i ((Bw i).map AL++l)=(Bw i).map AL:=fun l=>by rw[I1 (by rw[BI];omega),tk]
     have dr: ∀(x:List AZ) (l:List (List AZ)),List.drop (i+1) ((Bw i).map AL++x::l)=l:=fun x l=>by
      rw[List.drop_append,PU (by rw[BI];omega),BI,hfl,show i+1-i=1 by omega];rfl
     rcases xs with _|⟨x,xs⟩
     .refine aw ?_;refine IH.out ((_,_),b+11) ⟨⟨hM.out.mono hV.out fun j hj=>?_⟩,⟨BZ [] (by simp[Bw]) ?_⟩,⟨fun j hj=>?_⟩⟩
      .have q1:=hj (b+26) (by omega);have q2:=hj (b+27) (by omega);have q3:=hj n (by omega);simp only[go_sem,q1,q2,q3,AM]
      .rw[hfs.out,D0];simp only[go_sem,tk,tk2,dr]
      .simp only[AD,As]at hj;exact⟨b+27,by omega,by dsimp only;omega,hj⟩
     .refine aw ?_;refine IH.out ((_,_),b+11) ⟨⟨hM.out.mono hV.out fun j hj=>?_⟩,⟨BZ xs (by simp[Bw]) ?_⟩,⟨fun j hj=>?_⟩⟩
      .have q1:=hj (b+26) (by omega);have q3:=hj n (by omega);simp only[go_sem,q1,q3,AM]
      .rw[hfs.out,D0];simp only[go_sem,tk,tk2,dr]
      .simp only[AD,As]at hj;exact⟨n,by omega,by dsimp only;omega,hj⟩
   .clear hM G;rintro i ⟨⟨G,v⟩,b⟩ hi him ⟨hM,hv,hid⟩;dsimp only at*;have x0:=hM.out.x0;have hfl:(Bw i).length=i:=by simp[Bw]
    replace hV:=AA.mk hV;rcases hv.out with⟨rfl,hz⟩|⟨S,xs,rfl,gS⟩
    .have hz2:=AA.mk (Gt.1 hz);clear hz;replace hfl:=AA.mk hfl;refine aw ?_;have hM3:=hM.out;replace hM:=AA.mk hM;rw[show(List.nil:List (List AZ))=(Bw i).map AL by rw[hz2.out];rfl];refine AX (Qv hF.out 401 _ [b+25] [0,0,6] V ⟨DA,[],0⟩ ⟨p.main,0,Bw i⟩ hM3.rep (fun j hj=>?_) (Pd _ _) ?_ (by dsimp only;omega) (by dsimp only;omega) (by dsimp only;omega) (by simp)) (fun o1 g1 p1=>?_)
     .obtain⟨n,h1,h2,_⟩:=hV.out j hj;cases hx:Id.under [b+25] j with
      |false=>rfl
      |true=>have:=Bg (π:=[]) h2 hx;omega
     .rw[hi.out];exact Pc hF.out
     have hdo:Fb p 401 ⟨p.main,0,Bw i⟩ ⟨DA,[],0⟩=Je p:=by rw[hi.out];rfl
     rw[hdo]at p1;replace hdo:=AA.mk hdo;cases hds:Je p with
     |none=>
      rw[hds]at p1;obtain⟨rfl,p2⟩:=p1;have n01:[0,1] ∉V.ids [0,0,6]:=fun hh=>by obtain⟨n,_,_,q,_⟩:=hV.out _ hh;exact q rfl
      have n03:[0,3] ∉V.ids [0,0,6]:=fun hh=>by obtain⟨n,_,_,_,q⟩:=hV.out _ hh;exact q rfl
      have q01:=((Ab [b+25] g1 [0,1] (AR [] (by omega))).trans (p2 _ n01 (AR [] (by omega)))).trans hM3.x1;have q03:=((Ab [b+25] g1 [0,3] (AR [] (by omega))).trans (p2 _ n03 (AR [] (by omega)))).trans hM3.x3;replace p2:=AA.mk p2;replace hM3:=AA.mk hM3;clear hds
      (repeat' (first|simp only[go_sem, *,CL]|(refine sx ?_ ?_<;>intro hc)|refine sy (by omega) fun x hx hm=>?_|simp(disch:=first|assumption|omega) only[AJ]))
      rfl
     |some st'=>
      have hds2:=hds;rw[hds]at p1;obtain⟨rfl,V2,hM4,hK⟩:=p1;have n01:[0,1] ∉V.ids [0,0,6]:=fun hh=>by obtain⟨n,_,_,q,_⟩:=hV.out _ hh;exact q rfl
      have n03:[0,3] ∉V.ids [0,0,6]:=fun hh=>by obtain⟨n,_,_,_,q⟩:=hV.out _ hh;exact q rfl
      have q01:=((Ab [b+25] g1 [0,1] (AR [] (by omega))).trans (hK.frame _ n01 (AR [] (by omega)))).trans hM3.x1;have q03:=((Ab [b+25] g1 [0,3] (AR [] (by omega))).trans (hK.frame _ n03 (AR [] (by omega)))).trans hM3.x3;have hW: ∀j∈V2.ids [0,0,6],¬j=[0,1]∧ ¬j=[0,3]:=fun j hj=>by
       rcases hK.ids j hj with q|⟨_,l,rfl⟩
       .obtain⟨_,_,_,q⟩:=hV.out j q;exact q
       .exact⟨by simp,by simp⟩
      have hM5:Dq p st.ce (gc [b+25] g1) [0,0,6] V2 st':=Bf hM4 fun j hj=>by
       rcases hK.ids j hj with q|⟨_,l,rfl⟩
       .obtain⟨n,h1,h2,_⟩:=hV.out j q;refine Ab _ _ _ ?_;cases hx:Id.under [b+25] j with
        |false=>rfl
        |true=>have:=Bg (π:=[]) h2 hx;omega
       .exact E2 _ _ _
      have gm:=hM5.box;simp only[Aq]at gm;obtain⟨c0,d0⟩:=CW (hM5.sl 0 (by omega));obtain⟨c1,d1⟩:=CW (hM5.sl 1 (by omega));obtain⟨c2,d2⟩:=CW (hM5.sl 2 (by omega));obtain⟨c3,d3⟩:=CW (hM5.sl 3 (by omega));obtain⟨c4,d4⟩:=LQ hM5.arr;replace hM3:=AA.mk hM3;replace hM4:=AA.mk hM4;replace hM5:=AA.mk hM5;replace hK:=AA.mk hK;replace hW:=AA.mk hW;replace hds2:=AA.mk hds2;refine aw ?_;refine O7 (s:=st'.d9) (ev:=st'.ev) (w:=st'.work) (Bf hM5.out fun j hj=>?_);rw[get_put,AE (fun e=>(hW.out j hj).2 e.symm),get_put,AE (fun e=>(hW.out j hj).1 e.symm)];rfl
    .obtain⟨n,n1,n2,rfl⟩:=hid.out S (by simp[AD]);rw[BI,hfl];have tk2: ∀l:List (List AZ),List.take i ((Bw i).map AL++l)=(Bw i).map AL:=fun l=>by rw[I1 (by rw[BI];omega),DL (by rw[BI];omega)]
     refine aw ?_;have hM3:PO p st.ce V (G.put [1,n] (Obj.it 2 ((Bw i).map AL++xs))):=hM.out.mono hV.out fun j hj=>by
      rw[get_put,hj n (by omega)];rfl
     replace hM:=AA.mk hM;refine AX (Qv hF.out 401 _ [b+25] [0,0,6] V ⟨DA,[],0⟩ ⟨p.main,0,Bw i⟩ hM3.rep (fun j hj=>?_) (Pd _ _) ?_ (by dsimp only;omega) (by dsimp only;omega) (by dsimp only;omega) (by simp)) (fun o1 g1 p1=>?_)
     .obtain⟨n,h1,h2,_⟩:=hV.out j hj;cases hx:Id.under [b+25] j with
      |false=>rfl
      |true=>have:=Bg (π:=[]) h2 hx;omega
     .rw[hi.out];exact Pc hF.out
     have hdo:Fb p 401 ⟨p.main,0,Bw i⟩ ⟨DA,[],0⟩=Je p:=by rw[hi.out];rfl
     rw[hdo]at p1;replace hdo:=AA.mk hdo;cases hds:Je p with
     |none=>
      rw[hds]at p1;obtain⟨rfl,p2⟩:=p1;have n01:[0,1] ∉V.ids [0,0,6]:=fun hh=>by obtain⟨n,_,_,q,_⟩:=hV.out _ hh;exact q rfl
      have n03:[0,3] ∉V.ids [0,0,6]:=fun hh=>by obtain⟨n,_,_,_,q⟩:=hV.out _ hh;exact q rfl
      have q01:=((Ab [b+25] g1 [0,1] (AR [] (by omega))).trans (p2 _ n01 (AR [] (by omega)))).trans hM3.x1;have q03:=((Ab [b+25] g1 [0,3] (AR [] (by omega))).trans (p2 _ n03 (AR [] (by omega)))).trans hM3.x3;replace p2:=AA.mk p2;replace hM3:=AA.mk hM3;clear hds
      (repeat' (first|simp only[go_sem, *,CL]|(refine sx ?_ ?_<;>intro hc)|refine sy (by omega) fun x hx hm=>?_|simp(disch:=first|assumption|omega) only[AJ]))
      rfl
     |some st'=>
      have hds2:=hds;rw[hds]at p1;obtain⟨rfl,V2,hM4,hK⟩:=p1;have n01:[0,1] ∉V.ids [0,0,6]:=fun hh=>by obtain⟨n,_,_,q,_⟩:=hV.out _ hh;exact q rfl
      have n03:[0,3] ∉V.ids [0,0,6]:=fun hh=>by obtain⟨n,_,_,_,q⟩:=hV.out _ hh;exact q rfl
      have q01:=((Ab [b+25] g1 [0,1] (AR [] (by omega))).trans (hK.frame _ n01 (AR [] (by omega)))).trans hM3.x1;have q03:=((Ab [b+25] g1 [0,3] (AR [] (by omega))).trans (hK.frame _ n03 (AR [] (by omega)))).trans hM3.x3;have hW: ∀j∈V2.ids [0,0,6],¬j=[0,1]∧ ¬j=[0,3]:=fun j hj=>by
       rcases hK.ids j hj with q|⟨_,l,rfl⟩
       .obtain⟨_,_,_,q⟩:=hV.out j q;exact q
       .exact⟨by simp,by simp⟩
      have hM5:Dq p st.ce (gc [b+25] g1) [0,0,6] V2 st':=Bf hM4 fun j hj=>by
       rcases hK.ids j hj with q|⟨_,l,rfl⟩
       .obtain⟨n,h1,h2,_⟩:=hV.out j q;refine Ab _ _ _ ?_;cases hx:Id.under [b+25] j with
        |false=>rfl
        |true=>have:=Bg (π:=[]) h2 hx;omega
       .exact E2 _ _ _
      have gm:=hM5.box;simp only[Aq]at gm;obtain⟨c0,d0⟩:=CW (hM5.sl 0 (by omega));obtain⟨c1,d1⟩:=CW (hM5.sl 1 (by omega));obtain⟨c2,d2⟩:=CW (hM5.sl 2 (by omega));obtain⟨c3,d3⟩:=CW (hM5.sl 3 (by omega));obtain⟨c4,d4⟩:=LQ hM5.arr;replace hM3:=AA.mk hM3;replace hM4:=AA.mk hM4;replace hM5:=AA.mk hM5;replace hK:=AA.mk hK;replace hW:=AA.mk hW;replace hds2:=AA.mk hds2;refine aw ?_;refine O7 (s:=st'.d9) (ev:=st'.ev) (w:=st'.work) (Bf hM5.out fun j hj=>?_);rw[get_put,AE (fun e=>(hW.out j hj).2 e.symm),get_put,AE (fun e=>(hW.out j hj).1 e.symm)];rfl
theorem L6(a:List CT)(ha:a.length≤1000000):BJ (KL Tryz.prog cfg) 57 [.d (.be (a.map AL)),.d (.be (a.map AL))] []=.ok (.ret (.d (.bool (true))),[]):=by
 (refine Ar rfl Tryz.func57 rfl rfl rfl ?_;show Wp _ _ _ _ (Tryz.f57.body.get rfl) _ _;simp only[Tryz.f57,AS])
 refine aw ?_;refine Aw a (S:=fun i (_:Unit)=>⟨[(0,.d (.be (a.map AL))),(1,.d (.be (a.map AL))),(5,.d (.int .i64 (i)))],[],0,[]⟩)
  (Inv:=fun i rest _=>True) (b0:=()) trivial ?_ ?_
 .rintro i y _ hy hi him hI IH;have hil:i<a.length:=by omega
  have w1:IntKind.i64.wrap ((i:Int)+1)=(i:Int)+1:=wrap_id (by omega) (by omega);refine aw ?_;exact IH.out () trivial
 .rintro i _ hi him hI;exact au
theorem W6(a:List (List CT))(ha:a.length≤1000000)(hm: ∀m∈a,m.length≤1000000):BJ (KL Tryz.prog cfg) 37 [.d (.be (a.map BW)),.d (.be (a.map BW))] []=.ok (.ret (.d (.bool (true))),[]):=by
 replace hm:=AA.mk hm
 (refine Ar rfl Tryz.func37 rfl rfl rfl ?_;show Wp _ _ _ _ (Tryz.f37.body.get rfl) _ _;simp only[Tryz.f37,AS])
 refine aw ?_;refine Aw a (S:=fun i (_:Unit)=>⟨[(0,.d (.be (a.map BW))),(1,.d (.be (a.map BW))),(5,.d (.int .i64 (i)))],[],0,[]⟩)
  (Inv:=fun i rest _=>True) (b0:=()) trivial ?_ ?_
 .rintro i y _ hy hi him hI IH;have hil:i<a.length:=by omega
  have w1:IntKind.i64.wrap ((i:Int)+1)=(i:Int)+1:=wrap_id (by omega) (by omega);have hv:=L6 y (hm.out y (Ac hy));refine aw ?_;exact IH.out () trivial
 .rintro i _ hi him hI;exact au
structure BM.fits(s:BM):Prop where
 ac:s.ac.length≤1000000
 bi:s.bi.length≤1000000
 am:s.am.length≤1000000
 waits:s.waits.length≤1000000
 envs: ∀g∈s.bi,g.env.length≤1000000
 ques: ∀q∈s.am,q.queue.length≤1000000∧ ∀m∈q.queue,m.length≤1000000
 wenv: ∀w∈s.waits,w.env.length≤1000000
theorem ABG(s:BM)(h:s.fits):BJ (KL Tryz.prog cfg) 23 [sA s,sA s] []=.ok (.ret (.d (.bool (true))),[]):=by
 obtain⟨h1,h2,h3,h4,h5,h6,h7⟩:=h;replace h5:=AA.mk h5;replace h6:=AA.mk h6;replace h7:=AA.mk h7
 (refine Ar rfl Tryz.func23 rfl rfl rfl ?_;show Wp _ _ _ _ (Tryz.f23.body.get rfl) _ _;simp only[Tryz.f23,AS])
 refine aw ?_;refine Aw s.ac (S:=fun i (_:Unit)=>⟨[(2,.ptr [0,0] 0),(3,.ptr [0,1] 0),(5,.d (.int .i64 (i)))],[([0,0],.box [.d (.be (s.ac.map Aa)),.d (.be (s.bi.map An)),.d (.be (s.am.map Bc)),.d (.be (s.waits.map AU))]),([0,1],.box [.d (.be (s.ac.map Aa)),.d (.be (s.bi.map An)),.d (.be (s.am.map Bc)),.d (.be (s.waits.map AU))])],2,[]⟩)
  (Inv:=fun i rest _=>True) (b0:=()) trivial ?_ ?_
 .rintro i y _ hy hi him hI IH;have hil:i<s.ac.length:=by omega
  have hbb:(y.dead==y.dead)=true:=by simp
  have w1:IntKind.i64.wrap ((i:Int)+1)=(i:Int)+1:=wrap_id (by omega) (by omega);refine aw ?_;exact IH.out () trivial
 rintro i _ hi him hI;clear hi;refine aw ?_;refine Aw s.bi (S:=fun i (_:Unit)=>⟨[(2,.ptr [0,0] 0),(3,.ptr [0,1] 0),(6,.d (.int .i64 (i)))],[([0,0],.box [.d (.be (s.ac.map Aa)),.d (.be (s.bi.map An)),.d (.be (s.am.map Bc)),.d (.be (s.waits.map AU))]),([0,1],.box [.d (.be (s.ac.map Aa)),.d (.be (s.bi.map An)),.d (.be (s.am.map Bc)),.d (.be (s.waits.map AU))])],2,[]⟩)
  (Inv:=fun i rest _=>True) (b0:=()) trivial ?_ ?_
 .rintro i y _ hy hi him hI IH;have hil:i<s.bi.length:=by omega
  have w1:IntKind.i64.wrap ((i:Int)+1)=(i:Int)+1:=wrap_id (by omega) (by omega);have hv:=L6 y.env (h5.out y (Ac hy));refine aw ?_;exact IH.out () trivial
 rintro i _ hi him hI;clear hi;refine aw ?_;refine Aw s.am (S:=fun i (_:Unit)=>⟨[(2,.ptr [0,0] 0),(3,.ptr [0,1] 0),(7,.d (.int .i64 (i)))],[([0,0],.box [.d (.be (s.ac.map Aa)),.d (.be (s.bi.map An)),.d (.be (s.am.map Bc)),.d (.be (s.waits.map AU))]),([0,1],.box [.d (.be (s.ac.map Aa)),.d (.be (s.bi.map An)),.d (.be (s.am.map Bc)),.d (.be (s.waits.map AU))])],2,[]⟩)
  (Inv:=fun i rest _=>True) (b0:=()) trivial ?_ ?_
 .rintro i y _ hy hi him hI IH;have hil:i<s.am.length:=by omega
  have w1:IntKind.i64.wrap ((i:Int)+1)=(i:Int)+1:=wrap_id (by omega) (by omega);have hv:=W6 y.queue (h6.out y (Ac hy)).1 (h6.out y (Ac hy)).2;refine aw ?_;exact IH.out () trivial
 rintro i _ hi him hI;clear hi;refine aw ?_;refine Aw s.waits (S:=fun i (_:Unit)=>⟨[(2,.ptr [0,0] 0),(3,.ptr [0,1] 0),(8,.d (.int .i64 (i)))],[([0,0],.box [.d (.be (s.ac.map Aa)),.d (.be (s.bi.map An)),.d (.be (s.am.map Bc)),.d (.be (s.waits.map AU))]),([0,1],.box [.d (.be (s.ac.map Aa)),.d (.be (s.bi.map An)),.d (.be (s.am.map Bc)),.d (.be (s.waits.map AU))])],2,[]⟩)
  (Inv:=fun i rest _=>True) (b0:=()) trivial ?_ ?_
 .rintro i y _ hy hi him hI IH;have hil:i<s.waits.length:=by omega
  have w1:IntKind.i64.wrap ((i:Int)+1)=(i:Int)+1:=wrap_id (by omega) (by omega);have hv:=L6 y.env (h7.out y (Ac hy));refine aw ?_;exact IH.out () trivial
 rintro i _ hi him hI;clear hi;exact au
theorem qB:Dh.fits:=⟨by decide,by decide,by decide,by decide,by simp[Dh],by simp[Dh],by simp[Dh]⟩
theorem AA2:BJ (KL Tryz.prog cfg) 30 [sA Dh,.d (.be [])] []=.ok (.ret (.d (.bool (true))),[]):=by
 have h1:=ABG Dh qB;simp only[sA,Dh,D4]at h1⊢
 (refine Ar rfl Tryz.func30 rfl rfl rfl ?_;show Wp _ _ _ _ (Tryz.f30.body.get rfl) _ _;simp only[Tryz.f30,AS])
 exact au
structure AB3(s s1:BM)(e:EK):Prop where
 at_:Dd s.ac e.at_
 live:AW s.ac e.at_=false
 wt: ¬e.wt=5
 tell:e.wt=4→Dd s.ac e.n∧AW s.ac e.n=true
 go:e.wt=2→ ¬e.at_=0∧Dd s.ac e.n∧AW s.ac e.n=false∧CF s.ac e.n e.at_=false∧ ∃y,s1.ac[e.at_.toNat]? =some y∧y.of=e.n
 stop:e.wt=3→ ∃y,s1.ac[e.at_.toNat]? =some y∧y.dead=true
structure RK(p:AI)(sz:List Int)(s:BM)(x:FY)(s1:BM)(e:EK)(js:List Ga):Prop where
 mid:Mid p sz s x s1 e js
 len:s1.ac.length=s.ac.length
 dead: ∀i,Dd s.ac i→AW s.ac i=true→AW s1.ac i=true
 head:AB3 s s1 e
theorem lD{w:GI}(hF:BD p sz)(hs:E6 p sz s)(hw:s.waits[i]? =some w)(hg:lc p s w=true): ∃s1 e js,RK p sz s ⟨i,0,0,[]⟩ s1 e js:=by
 have hwo:=hs.wait w (Ac hw);obtain⟨x,hx⟩:=PK hF hwo;have hsm:=hs.small;simp only[BM.small,AP,Ap]at hsm;have hs1:E6 p sz {s with waits:=CN s.waits i}:=Mx hs (by have:=OJ s.waits (i:Int);omega) fun v hv=>hs.wait v (MQ hv)
 have hd:EO p s ⟨i,0,0,[]⟩=J7 p {s with waits:=CN s.waits i} w x:=by
  rw[EO,CS (by dsimp only;omega),MI];simp only[F9,hw,hx.node]
 rw[J7]at hd;have ho:=hx.op;have hat:=hx.at_;have a0:=hat.1;obtain⟨z,hz⟩:=get_some (l:=s.ac) (i:=w.at_.toNat) (by have:=hat.2;omega);by_cases h7:x.op=7
 .rw[DO h7]at hd;refine⟨_,_,[],⟨gl hF hs1 w.at_,by simp,hd,by simp⟩,Ek _ _,fun j hj hd=>?_,⟨hat,hx.live,(by show¬(3:Int)=5;decide),fun h=>(by cases h),fun h=>(by cases h),fun _=>?_⟩⟩
  .show AW (KF s.ac w.at_) j=true;rw[X8 _ _ hj,hd];rfl
  .refine⟨{z with dead:=true},?_,rfl⟩
   show(KF s.ac w.at_)[w.at_.toNat]? =_;rw[R0,hz,El,show((w.at_.toNat:Nat):Int)=w.at_ by omega,Yx,Bool.or_true]
 .rw[CS h7]at hd;obtain⟨v,hv,hn,hk⟩:=hx.val h7;rw[lc,hx.node]at hg;simp only[h7,ES,hn]at hg;split at hg
  .rename_i hk4;obtain⟨hr,y,hy,hyd⟩:=hk hk4;by_cases h6:x.op=6
   .rw[DO h6]at hd;rw[CS (by omega)]at hg;simp only[AP,Ap,Gs]at hg;have hm:=KP hs1 (i:=w.at_) (n:=v.n) (by omega) hat hr hg.2.1 hg.2.2;have hm2:=KP hs (i:=w.at_) (n:=v.n) (by omega) hat hr hg.2.1 hg.2.2;rw[hn]at hd;refine⟨_,_,_,⟨hm,fun j hj=>Ig (MJ hF (hm2.wait w (Ac hw)) hx.node 0 j hj) (CN s.waits i),hd,Q1 _ _ _ _⟩,Hp _ _ _,fun j _ hd=>?_,⟨hat,hx.live,(by show¬(2:Int)=5;decide),fun h=>(by cases h),fun _=>⟨hg.1,hr,hg.2.1,hg.2.2,{z with of:=v.n},?_,rfl⟩,fun h=>(by cases h)⟩⟩
    .show AW (GY s.ac w.at_ v.n) j=true;rw[Mj hz];exact hd
    .show(GY s.ac w.at_ v.n)[w.at_.toNat]? =_;rw[Ox hz,DO rfl]
   .rw[CS h6]at hd;rw[DO (by omega)]at hg;rw[hn]at hd;exact⟨_,_,_,⟨hs1,fun j hj=>Ig (MJ hF hwo hx.node 0 j hj) (CN s.waits i),hd,Q1 _ _ _ _⟩,rfl,fun j _ hd=>hd,⟨hat,hx.live,(by show¬(4:Int)=5;decide),fun _=>⟨hr,hg⟩,fun h=>(by cases h),fun h=>(by cases h)⟩⟩
  .cases hg
theorem lB{k:Nat}{g:Ao}{d:Bq}{r:Fi}{t:List Int}(hF:BD p sz)(hs:E6 p sz s)(h1:s.bi[i]? =some g)(h2:p.def? g.eq=some d)(h3:d.rules[k]? =some r)(h4:AW s.ac (g.place d r.at_)=false)(h5:Below (B7 s d g r) t): ∃s1 e js,RK p sz s ⟨-1,i,k,t⟩ s1 e js:=by
 obtain⟨ht,hj⟩:=PD hF hs h1 h2 h3 h4 h5;have h1':s.bi[((i:Nat):Int).toNat]? =some g:=h1;have h3':d.rules[((k:Nat):Int).toNat]? =some r:=h3;have hsp:(BO d g r.d8 t s).2.ac=s.ac:=ht.only.ac;have hat:Dd s.ac (g.place d r.at_):=by have:=hj.at_;rwa [hsp]at this
 refine⟨(BO d g r.d8 t s).2,⟨1,g.place d r.at_,i,k,(BO d g r.d8 t s).1⟩,[⟨r.node,g.place d r.at_,g.env++(BO d g r.d8 t s).1⟩],⟨ht.rc,fun j hj2=>by rw[As.1 hj2];exact hj,?_,by simp⟩,by rw[hsp],fun j _ h=>by rw[hsp];exact h,⟨hat,h4,(by show¬(1:Int)=5;decide),fun h=>(by cases h),fun h=>(by cases h),fun h=>(by cases h)⟩⟩;rw[EO,DO (by dsimp only;omega),Z2];simp only[h1',(Fv h2).2,h3',O8];rw[Bn];cases Fb p 401 ⟨r.node,g.place d r.at_,g.env++(BO d g r.d8 t s).1⟩ ⟨(BO d g r.d8 t s).2,[⟨1,g.place d r.at_,i,k,(BO d g r.d8 t s).1⟩],0⟩<;>rfl
theorem pj(hF:BD p sz)(hs:E6 p sz s)(h:Kc p s x): ∃s1 e js,RK p sz s x s1 e js:=by
 cases h with
 |wait h1 h2=>exact lD hF hs h1 h2
 |ut h1 h2 h3 h4 h5=>exact lB hF hs h1 h2 h3 h4 h5
structure AEK(s s':BM)(j:Nat)(e:EK):Prop where
 a0:0≤e.at_
 a1:e.at_<s.ac.length∨e.wt=5
 a2:e.at_<s'.ac.length
 live:e.at_<s.ac.length→AW s.ac e.at_=false
 tell:e.wt=4→Dd s.ac e.n∧AW s.ac e.n=true
 go:e.wt=2→ ¬e.at_=0∧Dd s.ac e.n∧AW s.ac e.n=false∧CF s.ac e.n e.at_=false∧ ∃y,s'.ac[e.at_.toNat]? =some y∧y.of=e.n
 stop:e.wt=3→j=0∧ ∃y,s'.ac[e.at_.toNat]? =some y∧y.dead=true
theorem we{p:AI}{sz:List Int}{s:BM}{x:FY}(hF:BD p sz)(hs:E6 p sz s)(h:Kc p s x){st:CK}(hd:EO p s x=some st): ∀(j:Nat) (e:EK),st.ev[j]? =some e→AEK s st.d9 j e:=by
 obtain⟨s1,e0,js,hh⟩:=pj hF hs h;rw[hh.mid.run]at hd;have hp:=Me (fun j st st'=>Iy hF 401 j st st') js ⟨s1,[e0],0⟩ st hh.mid.rc hh.mid.jobs hd;obtain⟨l,h1,_,h3⟩:=hp.evs;have hext:=hp.ext;have hns:=hext.ns;have hlen:=hh.len;dsimp only at hns;intro j e he;rw[h1]at he;cases j with
 |zero=>
  simp only[FN,Ex,Bv]at he;subst he;have hH:=hh.head;have q:=hH.at_.2;refine⟨hH.at_.1,.inl q,by omega,fun _=>hH.live,hH.tell,fun hg=>?_,fun hg=>⟨rfl,?_⟩⟩
  .obtain⟨a,b,c,d,y,hy,hyi⟩:=hH.go hg;exact⟨a,b,c,d,y,hext.sp _ _ hy,hyi⟩
  .obtain⟨y,hy,hyd⟩:=hH.stop hg;exact⟨y,hext.sp _ _ hy,hyd⟩
 |succ j=>
  simp only[FN,Gc,F4]at he;obtain⟨q1,q2,q3⟩:=h3 e (Ac he);refine⟨q2.1,.inr q1,q2.2,fun hlt=>?_,fun hg=>(by omega),fun hg=>(by omega),fun hg=>(by omega)⟩;cases hx:AW s.ac e.at_ with
  |false=>rfl
  |true=>
   have r1:=hh.dead e.at_ ⟨q2.1,hlt⟩ hx;have r2:=Ix hext (i:=e.at_) ⟨q2.1,by dsimp only;omega⟩;dsimp only at r2;rw[r1,q3]at r2;cases r2
end Go.Proofs
