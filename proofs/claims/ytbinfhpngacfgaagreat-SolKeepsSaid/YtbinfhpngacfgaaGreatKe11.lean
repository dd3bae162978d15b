/-
  Parts of it.
-/
import Derived.Test.YtbinfhpngacfgaaGreatKe5
import Derived.Test.YtbinfhpngacfgaaGreatKe10
set_option linter.all false
namespace Go.Proofs
open Go Go.Abs
set_option maxRecDepth 100000
set_option maxHeartbeats 4000000
def IX(b:Bool):List Aa:=[.int .i64 (if b then 1 else 0)]
theorem uR:IX true=[.int .i64 1]:=rfl
theorem uO:IX false=[.int .i64 0]:=rfl
attribute [go_sem] uR uO
def Dj(p:AL)(sz ow us:Abs.Id)(bad:Bool):Abs.Obj:=.box [.d (.be (p.free.map Av)),.d (.be (p.nodes.map Af)),.d (.be (p.defs.map Ax)),.d (.int .i64 p.main),wd sz p.nodes.length,wd ow p.nodes.length,wd us p.defs.length,.d (.bool bad)]
structure Gu(h:AD)(p:AL)(l sz ow us:Abs.Id)(st:BT)(bad:Bool):Prop where
 box:h.get l=some (Dj p sz ow us bad)
 ci:bad=false→p.nodes.length≠0→h.get sz=some (.d9 1 (st.ci.map AJ))
 met:bad=false→p.nodes.length≠0→h.get ow=some (.d9 1 (st.met.map IX))
 defs:bad=false→p.defs.length≠0→h.get us=some (.d9 1 (st.defs.map IX))
 ks:p.nodes.length≠0→ ∃A,h.get sz=some (.d9 1 A)
 km:p.nodes.length≠0→ ∃A,h.get ow=some (.d9 1 A)
 kd:p.defs.length≠0→ ∃A,h.get us=some (.d9 1 A)
structure Rz(p:AL)(l sz ow us:Abs.Id)(h:AD)(π:List Nat)(r:Option BT)(o:Ad)(h':AD):Prop where
 ret:o=.ret (.ge [])
 frame: ∀id',Id.under π id'=false→Id.is l id'=false→Id.is sz id'=false→Id.is ow id'=false→Id.is us id'=false→h'.get id'=h.get id'
 yes: ∀st',r=some st'→Gu h' p l sz ow us st' false
 no:r=none→ ∀st0,Gu h' p l sz ow us st0 true
structure Xz(p:AL)(l sz ow us:Abs.Id)(h:AD)(π:List Nat)(L:List (Nat×Abs.Obj))(st:BT)(bad:Bool)(g:AD):Prop where
 looks:Gu g p l sz ow us st bad
 node: ∀q∈L,g.get (0::q.1::π)=some q.2
 frame: ∀id',Id.under π id'=false→Id.is l id'=false→Id.is sz id'=false→Id.is ow id'=false→Id.is us id'=false→g.get id'=h.get id'
variable{g:AD}{l df:Abs.Id}{b:Bool}
theorem HT{p:AL}{sz mt:Abs.Id}{st:BT}{ρ:List Nat}(h:Gu g p l sz mt df st b)(hi:Xy ρ l sz mt df):Gu (gc ρ g) p l sz mt df st b:=
 ⟨by rw[AU _ _ _ hi.ul];exact h.box,fun hb hn=>by rw[AU _ _ _ hi.us];exact h.ci hb hn,fun hb hn=>by rw[AU _ _ _ hi.um];exact h.met hb hn,fun hb hn=>by rw[AU _ _ _ hi.ud];exact h.defs hb hn,fun hn=>by rw[AU _ _ _ hi.us];exact h.ks hn,fun hn=>by rw[AU _ _ _ hi.um];exact h.km hn,fun hn=>by rw[AU _ _ _ hi.ud];exact h.kd hn⟩
variable{h:AD}{π:List Nat}{L:List (Nat×Abs.Obj)}{b':Bool}
theorem j6{p:AL}{sz mt:Abs.Id}{st:BT}{o:Abs.Obj}(hf:Xz p l sz mt df h π L st b g)(hi:Xy π l sz mt df)(ho:o=Dj p sz mt df b')(hbb:b'=false→b=false):Xz p l sz mt df h π L st b' (g.put l o):=by
 refine⟨⟨?_,fun hb hn=>?_,fun hb hn=>?_,fun hb hn=>?_,fun hn=>?_,fun hn=>?_,fun hn=>?_⟩,fun q hq=>?_,fun id' h1 h0 h2 h3 h4=>?_⟩
 .rw[get_put,is_self,ho];rfl
 .rw[get_put,hi.ls];exact hf.looks.ci (hbb hb) hn
 .rw[get_put,hi.lm];exact hf.looks.met (hbb hb) hn
 .rw[get_put,hi.ld];exact hf.looks.defs (hbb hb) hn
 .rw[get_put,hi.ls];exact hf.looks.ks hn
 .rw[get_put,hi.lm];exact hf.looks.km hn
 .rw[get_put,hi.ld];exact hf.looks.kd hn
 .rw[get_put,Ak hi.ul];exact hf.node q hq
 .rw[get_put,h0];exact hf.frame id' h1 h0 h2 h3 h4
theorem GH{p:AL}{sz mt:Abs.Id}{st st':BT}{g':AD}(hf:Xz p l sz mt df h π L st b g)(hi:Xy π l sz mt df){j:Nat}(hj: ∀q∈L,j≠q.1)(hl:Gu g' p l sz mt df st' b')(hg: ∀id',Id.under (j::π) id'=false→Id.is l id'=false→Id.is sz id'=false→Id.is mt id'=false→Id.is df id'=false→g'.get id'=g.get id'):Xz p l sz mt df h π L st' b' (gc (j::π) g'):=by
 refine⟨HT hl (Fa hi j),fun q hq=>?_,fun id' h1 h0 h2 h3 h4=>?_⟩
 .have hu:=WC j q.1 π (hj q hq);rw[AU _ _ _ hu,hg _ hu (Ak hi.ul _ _) (Ak hi.us _ _) (Ak hi.um _ _) (Ak hi.ud _ _)];exact hf.node q hq
 .rw[AU _ _ _ (AG h1 j),hg _ (AG h1 j) h0 h2 h3 h4];exact hf.frame id' h1 h0 h2 h3 h4
theorem AFh{p:AL}{sz mt:Abs.Id}{st:BT}(hf:Xz p l sz mt df h π L st false g)(hi:Xy π l sz mt df)(i:Nat):Xz p l sz mt df h π L {st with defs:=st.defs.set i true} false (g.put df (.d9 1 ((st.defs.map IX).set i [.int .i64 1]))):=by
 refine⟨⟨?_,fun hb hn=>?_,fun hb hn=>?_,fun hb hn=>?_,fun hn=>?_,fun hn=>?_,fun hn=>?_⟩,fun q hq=>?_,fun id' h1 h0 h2 h3 h4=>?_⟩
 .rw[get_put,hi.dl];exact hf.looks.box
 .rw[get_put,hi.ds];exact hf.looks.ci hb hn
 .rw[get_put,hi.dm];exact hf.looks.met hb hn
 .rw[get_put,is_self,Jp];rfl
 .rw[get_put,hi.ds];exact hf.looks.ks hn
 .rw[get_put,hi.dm];exact hf.looks.km hn
 .rw[get_put,is_self];exact⟨_,rfl⟩
 .rw[get_put,Ak hi.ud];exact hf.node q hq
 .rw[get_put,h4];exact hf.frame id' h1 h0 h2 h3 h4
theorem Gu.any{p:AL}{sz ow us:Abs.Id}{st st0:BT}(hl:Gu h p l sz ow us st true):Gu h p l sz ow us st0 true:=⟨hl.box,fun h=>(by cases h),fun h=>(by cases h),fun h=>(by cases h),hl.ks,hl.km,hl.kd⟩
variable{r:Option BT}
theorem FY{p:AL}{sz mt:Abs.Id}{st:BT}{o:Abs.Obj}(hf:Xz p l sz mt df h π L st b g)(hi:Xy π l sz mt df)(ho:o=Dj p sz mt df true)(hr:r=none):Rz p l sz mt df h π r (.ret (.ge [])) (g.put l o):=by
 refine⟨rfl,fun id' h1 h0 h2 h3 h4=>?_,fun st' e=>?_,fun _ st0=>?_⟩
 .rw[get_put,h0];exact hf.frame id' h1 h0 h2 h3 h4
 .rw[hr]at e;cases e
 .exact(j6 (b':=true) {hf with looks:={hf.looks with ci:=hf.looks.ci,met:=hf.looks.met,defs:=hf.looks.defs}} hi ho (by simp)).looks.any
theorem Fg{p:AL}{sz mt:Abs.Id}{st:BT}(hf:Xz p l sz mt df h π L st true g)(hr:r=none):Rz p l sz mt df h π r (.ret (.ge [])) g:=by
 refine⟨rfl,hf.frame,fun st' e=>?_,fun _ st0=>hf.looks.any⟩;rw[hr]at e;cases e
theorem Qa{p:AL}{sz mt:Abs.Id}{st:BT}(hf:Xz p l sz mt df h π L st false g)(hr:r=some st):Rz p l sz mt df h π r (.ret (.ge [])) g:=by
 refine⟨rfl,hf.frame,fun st' e=>?_,fun e=>?_⟩
 .rw[hr]at e;cases e;exact hf.looks
 .rw[hr]at e;cases e
theorem O2{f:Int→Int→BT→Option BT}: ∀{l m:List (Int×Int)} {st:BT},CK f (l++m) st=match CK f l st with|some st'=>CK f m st'|none=>none
 |[],m,st=>rfl
 |(n,s)::l,m,st=>by
  rw[F3,CK,CK];cases f n s st with
  |none=>rfl
  |some st1=>exact O2
def AGE(p:AL)(k:Nat):Prop:= ∀(n size:Int) (st:BT) (h:AD) (π:List Nat) (l sz ow us:Abs.Id),EE st.met≤k→st.fit p→0≤size→size+70*k≤5000→Xy π l sz ow us→Gu h p l sz ow us st false→
    ∃o h',KL Tryz.prog cfg (.fn 129) [.ptr l 0,.d (.int .i64 n),.d (.int .i64 size)] h π true none=.ok (o,h')∧Rz p l sz ow us h π (BH p k n size st) o h'
theorem z8(p:AL)(hN:p.nodes.length≤60)(hD:p.defs.length≤12)(k:Nat)(ih:AGE p k)(d:Bs)(hdo:Od d)(size:Int)(st:BT)(h:AD)(π:List Nat)(l sz ow us:Abs.Id)(hk:EE st.met≤k)(hfit:st.fit p)(h0:0≤size)(hb:size+10+70*k≤5000)(hid:Xy π l sz ow us)(hl:Gu h p l sz ow us st false):
 ∃o h',KL Tryz.prog cfg (.fn 170) [.ptr l 0,.agg [.d (.be (d.am.map A3)),.d (.be (d.ac.map Ao)),.d (.be (d.rules.map A0))],.d (.int .i64 size)] h π true none=.ok (o,h')∧Rz p l sz ow us h π (CK (BH p k) (Cp d size d.rules++CQ size d.ac) st) o h':=by
 have hid2:=AA.mk hid;have c1:=hdo.am;have c2:=hdo.ac;have c3:=hdo.rules;replace hdo:=AA.mk hdo;replace ih:=AA.mk ih;have hlb:=hl.box;rw[Dj]at hlb;have e1:=AH hid.ul;have e5:=Ak hid.ul;clear hid;have hd0:AA (Xz p l sz ow us h π [(0,.box [.d (.be (d.am.map A3)),.d (.be (d.ac.map Ao)),.d (.be (d.rules.map A0))])] st false (h.put (0::0::π) (.box [.d (.be (d.am.map A3)),.d (.be (d.ac.map Ao)),.d (.be (d.rules.map A0))]))):=by
  refine⟨⟨⟨?_,fun _ hn=>?_,fun _ hn=>?_,fun _ hn=>?_,fun hn=>?_,fun hn=>?_,fun hn=>?_⟩,?_,fun id' h1 h0 h2 h3 h4=>?_⟩⟩
  .rw[get_put,AH hid2.out.ul];exact hl.box
  .rw[get_put,AH hid2.out.us];exact hl.ci rfl hn
  .rw[get_put,AH hid2.out.um];exact hl.met rfl hn
  .rw[get_put,AH hid2.out.ud];exact hl.defs rfl hn
  .rw[get_put,AH hid2.out.us];exact hl.ks hn
  .rw[get_put,AH hid2.out.um];exact hl.km hn
  .rw[get_put,AH hid2.out.ud];exact hl.kd hn
  .intro q hq;cases As.1 hq;simp only[get_put,is_self,F2]
  .simp only[get_put,AH h1,AM,El]
 replace hl:=AA.mk hl
 (refine Aj rfl Tryz.func170 rfl rfl rfl ?_;show Wp _ _ _ _ (Tryz.f170.body.get rfl) _ _;simp only[Tryz.f170,AS])
 refine aw ?_;refine Ah d.rules (S:=fun i a=>⟨[(0,.ptr l 0),(2,.d (.int .i64 size)),(4,.ptr (0::0::π) 0),(6,.d (.int .i64 i))],a.1.1,a.2+2,[]⟩)
  (Inv:=fun i rest a=> ∃b,Xz p l sz ow us h π [(0,.box [.d (.be (d.am.map A3)),.d (.be (d.ac.map Ao)),.d (.be (d.rules.map A0))])] a.1.2 b a.1.1∧a.1.2.fit p∧EE a.1.2.met≤k∧AA (b=false→CK (BH p k) (Cp d size d.rules++CQ size d.ac) st=CK (BH p k) (Cp d size rest++CQ size d.ac) a.1.2)∧AA (b=true→CK (BH p k) (Cp d size d.rules++CQ size d.ac) st=none)) (b0:=((_,st),_)) ?_ ?_ ?_
 .exact⟨false,hd0.out,hfit,hk,⟨fun _=>rfl⟩,⟨fun h=>(by cases h)⟩⟩
 .rintro i r ⟨⟨g,st1⟩,c⟩ hy hi him ⟨b,hf,hfit1,hun,hv,hno⟩ IH;dsimp only at*;have hr1:=hf.node _ (FD ..);have hr2:=hf.looks.box;rw[Dj]at hr2;dsimp only at hr1;cases b
  .have hj:=OI hdo.out (Ac hy);have hb1:=ACh d r hj;have hb2:=K2 hj.2.2 r.d7;have hb3:=hj.1;replace hj:=AA.mk hj;refine aw ?_;refine E3 (ih.out r.node (size+CR d r.d7) st1 _ _ l sz ow us hun hfit1 (by omega) (by omega) (Fa hid2.out _) hf.looks) (fun o1 g1 p1=>?_);obtain rfl:=p1.ret;replace p1:=AA.mk p1;refine aw ?_;cases hvy:BH p k r.node (size+CR d r.d7) st1 with
   |none=>
    refine IH.out ((_,st1),_) ⟨true,GH hf hid2.out ?_ (p1.out.no hvy _) p1.out.frame,hfit1,hun,⟨fun h=>(by cases h)⟩,⟨fun _=>?_⟩⟩
    .simp only[Co,F9,Lw,Gc,forall_eq];omega
    .rw[hv.out rfl];simp only[Cp,Cs,F3,CK,hvy]
   |some st2=>
    have hgr:=CZ p _ _ _ _ _ hvy;refine IH.out ((_,st2),_) ⟨false,GH hf hid2.out ?_ (p1.out.yes _ hvy) p1.out.frame,G4 hfit1 hgr,IP hgr.less hun,⟨fun _=>?_⟩,⟨fun h=>(by cases h)⟩⟩
    .simp only[Co,F9,Lw,Gc,forall_eq];omega
    .rw[hv.out rfl];simp only[Cp,Cs,F3,CK,hvy]
  .refine aw ?_;rw[C7]
   (repeat' (first|simp only[go_sem, *]|(refine sx ?_ ?_<;>intro hc)|refine sy (by omega) fun x hx hm=>?_|simp(disch:=first|assumption|omega) only[AK]))
   all_goals exact Fg hf (hno.out rfl)
 .rintro i ⟨⟨g,st1⟩,c⟩ hi him ⟨b,hf,hfit1,hun,hv,hno⟩;dsimp only at*;have hr1:=hf.node _ (FD ..);have hr2:=hf.looks.box;rw[Dj]at hr2;dsimp only at hr1;cases b
  .refine aw ?_;refine Ah d.ac (S:=fun i a=>⟨[(0,.ptr l 0),(2,.d (.int .i64 size)),(4,.ptr (0::0::π) 0),(7,.d (.int .i64 i))],a.1.1,a.2+2,[]⟩)
    (Inv:=fun i rest a=> ∃b,Xz p l sz ow us h π [(0,.box [.d (.be (d.am.map A3)),.d (.be (d.ac.map Ao)),.d (.be (d.rules.map A0))])] a.1.2 b a.1.1∧a.1.2.fit p∧EE a.1.2.met≤k∧AA (b=false→CK (BH p k) (Cp d size d.rules++CQ size d.ac) st=CK (BH p k) (CQ size rest) a.1.2)∧AA (b=true→CK (BH p k) (Cp d size d.rules++CQ size d.ac) st=none)) (b0:=((_,st1),_)) ?_ ?_ ?_
   .exact⟨false,hf,hfit1,hun,⟨fun _=>hv.out rfl⟩,⟨fun h=>(by cases h)⟩⟩
   .clear hf hr1 hr2 hi him hfit1 hun hv hno g c i st1;rintro i r ⟨⟨g,st1⟩,c⟩ hy hi him ⟨b,hf,hfit1,hun,hv,hno⟩ IH;dsimp only at*;have hr1:=hf.node _ (FD ..);have hr2:=hf.looks.box;rw[Dj]at hr2;dsimp only at hr1;cases b
    .refine aw ?_;refine AZ (ih.out r.node size st1 _ _ l sz ow us hun hfit1 (by omega) (by omega) (Fa hid2.out _) hf.looks) (fun o1 g1 p1=>?_);obtain rfl:=p1.ret;replace p1:=AA.mk p1;refine aw ?_;cases hvy:BH p k r.node size st1 with
     |none=>
      refine IH.out ((_,st1),_) ⟨true,GH hf hid2.out ?_ (p1.out.no hvy _) p1.out.frame,hfit1,hun,⟨fun h=>(by cases h)⟩,⟨fun _=>?_⟩⟩
      .simp only[Co,F9,Lw,Gc,forall_eq];omega
      .rw[hv.out rfl];simp only[CQ,Cs,F3,CK,hvy]
     |some st2=>
      have hgr:=CZ p _ _ _ _ _ hvy;refine IH.out ((_,st2),_) ⟨false,GH hf hid2.out ?_ (p1.out.yes _ hvy) p1.out.frame,G4 hfit1 hgr,IP hgr.less hun,⟨fun _=>?_⟩,⟨fun h=>(by cases h)⟩⟩
      .simp only[Co,F9,Lw,Gc,forall_eq];omega
      .rw[hv.out rfl];simp only[CQ,Cs,F3,CK,hvy]
    .refine aw ?_;exact Fg hf (hno.out rfl)
   .clear hf hr1 hr2 hi him hfit1 hun hv hno g c i st1;rintro i ⟨⟨g,st1⟩,c⟩ hi him ⟨b,hf,hfit1,hun,hv,hno⟩;dsimp only at*;have hr1:=hf.node _ (FD ..);have hr2:=hf.looks.box;rw[Dj]at hr2;dsimp only at hr1;cases b
    .refine aw ?_;exact Qa hf (hv.out rfl)
    .refine aw ?_;exact Fg hf (hno.out rfl)
  .refine aw ?_;rw[C7]
   (repeat' (first|simp only[go_sem, *]|(refine sx ?_ ?_<;>intro hc)|refine sy (by omega) fun x hx hm=>?_|simp(disch:=first|assumption|omega) only[AK]))
   all_goals exact Fg hf (hno.out rfl)
theorem JG(p:AL)(hN:p.nodes.length≤60)(n size:Int)(st:BT)(h:AD)(π:List Nat)(l sz ow us:Abs.Id)(hfit:st.fit p)(hid:Xy π l sz ow us)(hl:Gu h p l sz ow us st false)(hb:0≤n→n<p.nodes.length→st.met[n.toNat]? =some true):
 ∃o h',KL Tryz.prog cfg (.fn 129) [.ptr l 0,.d (.int .i64 n),.d (.int .i64 size)] h π true none=.ok (o,h')∧Rz p l sz ow us h π none o h':=by
 have hR:Xz p l sz ow us h π [] st false h:=⟨hl,by simp,fun _ _ _ _ _ _=>rfl⟩;have hlv: ∀b,Dj p sz ow us b=.box [.d (.be (p.free.map Av)),.d (.be (p.nodes.map Af)),.d (.be (p.defs.map Ax)),.d (.int .i64 p.main),wd sz p.nodes.length,wd ow p.nodes.length,wd us p.defs.length,.d (.bool b)]:=fun b=>rfl;have lbox:=hl.box;rw[Dj]at lbox;have lmt:=hl.met rfl;have e1:=AH hid.ul;replace hl:=AA.mk hl;replace hb:=AA.mk hb;replace hR:=AA.mk hR;have hid2:=AA.mk hid;have hfm:=hfit.met;by_cases hn:n<0
 ·(refine Aj rfl Tryz.func129 rfl rfl rfl ?_;show Wp _ _ _ _ (Tryz.f129.body.get rfl) _ _;simp only[Tryz.f129,AS])
  refine aw ?_;exact FY hR.out hid2.out rfl rfl
 .by_cases hn2:(p.nodes.length:Int)≤n
  ·(refine Aj rfl Tryz.func129 rfl rfl rfl ?_;show Wp _ _ _ _ (Tryz.f129.body.get rfl) _ _;simp only[Tryz.f129,AS])
   refine aw ?_;exact FY hR.out hid2.out rfl rfl
  .have hne:p.nodes.length≠0:=by omega
   have hn0:0≤n:=by omega
   have hlt:n.toNat<p.nodes.length:=by omega
   have ht:=hb.out (by omega) (by omega);have lmt:=lmt hne;rw[BJ hne,BJ hne]at lbox;have hlv:AA (Abs.Obj.box [.d (.be (p.free.map Av)),.d (.be (p.nodes.map Af)),.d (.be (p.defs.map Ax)),.d (.int .i64 p.main),.eq sz 0 p.nodes.length,.eq ow 0 p.nodes.length,wd us p.defs.length,.d (.bool true)]=Dj p sz ow us true):=⟨by rw[Dj,BJ hne,BJ hne]⟩
   (refine Aj rfl Tryz.func129 rfl rfl rfl ?_;show Wp _ _ _ _ (Tryz.f129.body.get rfl) _ _;simp only[Tryz.f129,AS])
   refine aw ?_;exact FY hR.out hid2.out hlv.out rfl
theorem Z4(p:AL)(hN:p.nodes.length≤60)(hD:p.defs.length≤12)(hdefs: ∀d∈p.defs,d.okG=true): ∀(k:Nat) (n size:Int) (st:BT) (h:AD) (π:List Nat) (l sz ow us:Abs.Id),EE st.met≤k→st.fit p→0≤size→size+70*k≤5000→Xy π l sz ow us→Gu h p l sz ow us st false→
 ∃o h',KL Tryz.prog cfg (.fn 129) [.ptr l 0,.d (.int .i64 n),.d (.int .i64 size)] h π true none=.ok (o,h')∧Rz p l sz ow us h π (BH p k n size st) o h':=by
 intro k;induction k with
 |zero=>
  intro n size st h π l sz ow us hk hfit h0 hb hid hl;refine JG p hN n size st h π l sz ow us hfit hid hl fun h1 h2=>?_;obtain⟨t,ht⟩:=get_some (l:=st.met) (i:=n.toNat) (by rw[hfit.met];omega);cases t with
  |true=>exact ht
  |false=>have:=E5 ht;omega
 |succ k ih=>
 intro n size st h π l sz ow us hk hfit h0 hb hid hl;have hid2:=AA.mk hid;obtain⟨ul,us_,um,ud,ls,lm,ld,sl,sm,sd,ml,ms,md,dl,ds,dm⟩:=hid;have hl2:=AA.mk hl;obtain⟨lbox,lsz,lmt,ldf,_,_,_⟩:=hl;have e1:=AH ul;have e2:=AH us_;have e3:=AH um;have e4:=AH ud;have e5:=Ak ul;have e6:=Ak us_;have e7:=Ak um;have e8:=Ak ud;by_cases hn:n<0
 .have e:BH p (k+1) n size st=none:=by
   rw[BH,CI fun hh=>by omega]
  rw[e];exact JG p hN n size st h π l sz ow us hfit hid2.out hl2.out fun h=>by omega
 .by_cases hn2:(p.nodes.length:Int)≤n
  .have e:BH p (k+1) n size st=none:=by
    rw[BH];split
    .rename_i hh;have:=AI hh.2;rw[hfit.met]at this;omega
    .rfl
   rw[e];exact JG p hN n size st h π l sz ow us hfit hid2.out hl2.out fun _ h=>by omega
  .have hne:p.nodes.length≠0:=by omega
   have hn0:0≤n:=by omega
   have hn3:n<p.nodes.length:=by omega
   have hlt:n.toNat<p.nodes.length:=by omega
   obtain⟨x,hx⟩:=get_some hlt;obtain⟨t,ht⟩:=get_some (l:=st.met) (i:=n.toNat) (by rw[hfit.met];omega);obtain⟨s0,hs0⟩:=get_some (l:=st.ci) (i:=n.toNat) (by rw[hfit.ci];omega);have lmt:=lmt rfl hne;have lsz:=lsz rfl hne;rw[Dj,BJ hne,BJ hne]at lbox;replace ih:=AA.mk ih;replace ldf:=AA.mk ldf;have hfs:=hfit.ci;have hfm:=hfit.met;cases t with
   |true=>
    have e:BH p (k+1) n size st=none:=by
     rw[BH,CI];rw[ht];simp
    rw[e];exact JG p hN n size st h π l sz ow us hfit hid2.out hl2.out fun _ _=>ht
   |false=>
    (refine Aj rfl Tryz.func129 rfl rfl rfl ?_;show Wp _ _ _ _ (Tryz.f129.body.get rfl) _ _;simp only[Tryz.f129,AS])
    have hs:=AA.mk (OZ (p:=p) (k:=k) (size:=size) hn0 ht hx);have hbad:=AA.mk (WI (p:=p) (k:=k) (size:=size) hn0 ht hx);obtain⟨xo,xn,xa,xk⟩:=x;have hLV:AA (∀b,Abs.Obj.box [.d (.be (p.free.map Av)),.d (.be (p.nodes.map Af)),.d (.be (p.defs.map Ax)),.d (.int .i64 p.main),.eq sz 0 p.nodes.length,.eq ow 0 p.nodes.length,wd us p.defs.length,.d (.bool b)]=Dj p sz ow us b):=.mk fun b=>by
     rw[Dj,BJ hne,BJ hne]
    have hn0':AA (∀o o',Xz p l sz ow us h π [(48,o')] (st.meet n size) false ((((h.put ow (.d9 1 ((List.map IX st.met).set n.toNat [.int .i64 1]))).put sz (.d9 1 ((List.map AJ st.ci).set n.toNat [.int .i64 size]))).put (0::48::π) o).put (0::48::π) o')):=.mk fun o o'=>by
     refine⟨⟨?_,fun _ _=>?_,fun _ _=>?_,fun _ hd=>?_,fun _=>?_,fun _=>?_,fun hd=>?_⟩,?_,fun id' h1 h0 h2 h3 h4=>?_⟩
     .rw[←hLV.out];simp only[get_put,e1,sl,ml,AM,El,lbox]
     .simp only[get_put,e2,is_self,AM,El,F2,BT.meet,Jp];rfl
     .simp only[get_put,e3,sm,is_self,AM,El,F2,BT.meet,Jp];rfl
     .simp only[get_put,e4,sd,md,AM,El,BT.meet,ldf.out rfl hd]
     .exact⟨_,by simp only[get_put,e2,is_self,AM,El,F2];rfl⟩
     .exact⟨_,by simp only[get_put,e3,sm,is_self,AM,El,F2];rfl⟩
     .exact⟨_,by simp only[get_put,e4,sd,md,AM,El,ldf.out rfl hd];rfl⟩
     .intro q hq;cases As.1 hq;simp only[get_put,is_self,F2]
     .simp only[get_put,AH h1,h2,h3,AM,El]
    by_cases o4:xo=4
    .subst o4;have hgood: ∀{P:Prop},P→AA P:=fun h=>⟨h⟩;by_cases x0:xn<0
     ·(repeat' (first|simp only[go_sem, *,Kt,LU]|(refine sx ?_ ?_<;>intro hc)|refine sy (by omega) fun x hx hm=>?_|simp(disch:=first|assumption|omega) only[AK]))
      all_goals try(exact FY (hn0'.out _ _) hid2.out (hLV.out _) (hbad.out (by clear e1 e2 e3 e4 e5 e6 e7 e8 lbox lmt lsz hs hbad ih hn0' hLV;grind [Cy,DX,XZ,E7])))
      rw[C7];refine aw ?_;exact FY (hn0'.out _ _) hid2.out (hLV.out _) (hbad.out (by clear e1 e2 e3 e4 e5 e6 e7 e8 lbox lmt lsz hs hbad ih hn0' hLV;grind [Cy,DX,XZ,E7]))
     by_cases x1:(p.defs.length:Int)≤xn
     ·(repeat' (first|simp only[go_sem, *,Kt,LU]|(refine sx ?_ ?_<;>intro hc)|refine sy (by omega) fun x hx hm=>?_|simp(disch:=first|assumption|omega) only[AK]))
      all_goals try(exact FY (hn0'.out _ _) hid2.out (hLV.out _) (hbad.out (by clear e1 e2 e3 e4 e5 e6 e7 e8 lbox lmt lsz hs hbad ih hn0' hLV;grind [Cy,DX,XZ,E7])))
      rw[C7];refine aw ?_;exact FY (hn0'.out _ _) hid2.out (hLV.out _) (hbad.out (by clear e1 e2 e3 e4 e5 e6 e7 e8 lbox lmt lsz hs hbad ih hn0' hLV;grind [Cy,DX,XZ,E7]))
     have x2:0≤xn:=by omega
     have x3:xn<p.defs.length:=by omega
     have hdl:p.defs.length≠0:=by omega
     have hxlt:xn.toNat<p.defs.length:=by omega
     obtain⟨d,hd⟩:=get_some hxlt;obtain⟨t,htd⟩:=get_some (l:=st.defs) (i:=xn.toNat) (by rw[hfit.defs];omega);have hfd:=hfit.defs;have ldf2:=ldf.out rfl hdl;rw[BJ hdl]at lbox;have hg:=hdefs d (Ac hd);have hdo:=TG hg;have c1:=hdo.am;have c2:=hdo.ac;have c3:=hdo.rules;have hown:=OE hdo;have hok:=ACo d (by omega) (by omega);replace hdo:=AA.mk hdo;have hinto:AA (RU p size ⟨4,xn,xa,xk⟩ (st.meet n size)=if st.defs[xn.toNat]? =some false∧d.okG=true then some (Cp d (size+d.own) d.rules++(CQ (size+d.own) d.ac++CM (size+d.own) xk),{st.meet n size with defs:=st.defs.set xn.toNat true})else none):=by
      refine⟨?_⟩;rw[RU,D0 rfl,hd];rfl
     have hLV2:AA (∀b,Abs.Obj.box [.d (.be (p.free.map Av)),.d (.be (p.nodes.map Af)),.d (.be (p.defs.map Ax)),.d (.int .i64 p.main),.eq sz 0 p.nodes.length,.eq ow 0 p.nodes.length,.eq us 0 p.defs.length,.d (.bool b)]=Dj p sz ow us b):=.mk fun b=>by
      rw[Dj,BJ hne,BJ hne,BJ hdl]
     cases t with
     |true=>
      have hno:AA (BH p (k+1) n size st=none):=by
       refine⟨?_⟩;rw[hs.out,hinto.out,htd];split
       .rw[CI (by simp)]
       .rfl
      (repeat' (first|simp only[go_sem, *,Kt,LU]|(refine sx ?_ ?_<;>intro hc)|refine sy (by omega) fun x hx hm=>?_|simp(disch:=first|assumption|omega) only[AK]))
      all_goals try(exact FY (hn0'.out _ _) hid2.out (hLV2.out _) hno.out)
      rw[C7];refine aw ?_;exact FY (hn0'.out _ _) hid2.out (hLV2.out _) hno.out
     |false=>
      (repeat' (first|simp only[go_sem, *,Kt,LU]|(refine sx ?_ ?_<;>intro hc)|refine sy (by omega) fun x hx hm=>?_|simp(disch:=first|assumption|omega) only[AK]))
      all_goals try(exact FY (hn0'.out _ _) hid2.out (hLV2.out _) (hbad.out (by clear e1 e2 e3 e4 e5 e6 e7 e8 lbox lmt lsz hs hbad ih hn0' hLV;grind [Cy,DX,XZ,E7])))
      rw[C7];refine aw ?_;have hR:=AFh (hn0'.out (.box [.d (.int .i64 0),.d (.int .i64 0),.co,.co]) (.box [.d (.int .i64 4),.d (.int .i64 xn),.d (.be (xa.map Bg)),.d (.be (xk.map AJ))])) hid2.out xn.toNat;have hfit2:BT.fit p {st.meet n size with defs:=(st.meet n size).defs.set xn.toNat true}:=by
       have:=PT hfit n size;exact⟨this.ci,this.met,by simp[BT.meet,hfit.defs]⟩
      have hun2:EE (st.meet n size).met≤k:=by
       have:=E5 ht;simp only[BT.meet];omega
      have h00:(xa.length:Int)=0:=by assumption
      have h11:(xk.length:Int)=1:=by assumption
      have hxa:xa=[]:=DL (by omega);have hv0:AA (BH p (k+1) n size st=match CK (BH p k) (Cp d (size+d.own) d.rules++CQ (size+d.own) d.ac) {st.meet n size with defs:=(st.meet n size).defs.set xn.toNat true}with|some st'=>CK (BH p k) (CM (size+d.own) xk) st'|none=>none):=by
       refine⟨?_⟩;rw[hs.out,D0,hinto.out,D0 ⟨htd,hg⟩]
       .rw[←O2,D9];rfl
       .clear e1 e2 e3 e4 e5 e6 e7 e8 lbox lmt lsz hs hbad ih hn0' hLV hR hfit2 hun2;grind [Cy,DX,XZ,E7]
      refine AZ (z8 p hN hD k ih.out d hdo.out (size+d.own) {st.meet n size with defs:=(st.meet n size).defs.set xn.toNat true} _ _ l sz ow us hun2 hfit2 (by omega) (by omega) (Fa hid2.out _) hR.looks) (fun o1 g1 p1=>?_)
      obtain rfl:=p1.ret;have hn1: ∀j,j≠48→ ∀q∈ [((48:Nat),Abs.Obj.box [.d (.int .i64 4),.d (.int .i64 xn),.d (.be (xa.map Bg)),.d (.be (xk.map AJ))])],j≠q.1:=by
       intro j hj q hq;cases As.1 hq;exact hj
      cases hvd:CK (BH p k) (Cp d (size+d.own) d.rules++CQ (size+d.own) d.ac) {st.meet n size with defs:=(st.meet n size).defs.set xn.toNat true}with
      |none=>
       have hf:=GH hR hid2.out (hn1 168 (by decide)) (st':=st) (b':=true) (p1.no hvd _) p1.frame;have hr1:=hf.node _ (FD ..);have hr2:=hf.looks.box;rw[←hLV2.out]at hr2;dsimp only at hr1;replace p1:=AA.mk p1;replace hR:=AA.mk hR;replace hn1:=AA.mk hn1;replace hvd:=AA.mk hvd;refine aw ?_;rw[C7];refine aw ?_;exact Fg hf (by rw[hv0.out,hvd.out])
      |some st2=>
       have hf:=GH hR hid2.out (hn1 168 (by decide)) (p1.yes _ hvd) p1.frame;have hg2:kF {st.meet n size with defs:=(st.meet n size).defs.set xn.toNat true} st2:=P7 (R:=kF) (fun st=>⟨rfl,rfl,rfl,EX _⟩) (fun a b c h1 h2=>⟨h2.1.trans h1.1,h2.2.trans h1.2,h2.3.trans h1.3,IP h2.4 h1.4⟩) (CZ p k) hvd
       rw[hvd]at hv0;replace p1:=AA.mk p1;replace hR:=AA.mk hR;replace hn1:=AA.mk hn1;replace hvd:=AA.mk hvd;refine aw ?_;refine Ah xk (S:=fun i a=>⟨[(0,.ptr l 0),(6,.ptr (0::48::π) 0),(11,.d (.int .i64 (size+(d.own:Int)))),(12,.d (.int .i64 i))],a.1.1,a.2+170,[]⟩)
        (Inv:=fun i rest a=> ∃b,Xz p l sz ow us h π [(48,.box [.d (.int .i64 4),.d (.int .i64 xn),.d (.be (xa.map Bg)),.d (.be (xk.map AJ))])] a.1.2 b a.1.1∧a.1.2.fit p∧EE a.1.2.met≤k∧AA (b=false→BH p (k+1) n size st=CK (BH p k) (CM (size+d.own) rest) a.1.2)∧AA (b=true→BH p (k+1) n size st=none)) (b0:=((_,st2),_)) ?_ ?_ ?_
       .exact⟨false,hf,G4 hfit2 hg2,IP hg2.less hun2,⟨fun _=>hv0.out⟩,⟨fun h=>(by cases h)⟩⟩
       all_goals clear hf p1 hR hn1 hvd g1 hv0 hg2 st2 hfit2 hun2
       .rintro i y ⟨⟨g,st1⟩,c⟩ hy hi him ⟨b,hf,hfit1,hun,hv,hno⟩ IH;dsimp only at*;have hr1:=hf.node _ (FD ..);have hr2:=hf.looks.box;rw[←hLV2.out]at hr2;dsimp only at hr1;try simp only[*]at him
        cases b
        .refine aw ?_;refine AZ (ih.out y (size+d.own) st1 _ _ l sz ow us hun hfit1 (by omega) (by omega) (Fa hid2.out _) hf.looks) (fun o1 g1 p1=>?_);obtain rfl:=p1.ret;replace p1:=AA.mk p1;refine aw ?_;cases hvy:BH p k y (size+d.own) st1 with
         |none=>
          refine IH.out ((_,st1),_) ⟨true,GH hf hid2.out ?_ (p1.out.no hvy _) p1.out.frame,hfit1,hun,⟨fun h=>(by cases h)⟩,⟨fun _=>?_⟩⟩
          .simp only[Co,F9,Lw,Gc,forall_eq];omega
          .rw[hv.out rfl];simp only[CM,Cs,F3,CK,hvy]
         |some st2=>
          have hgr:=CZ p _ _ _ _ _ hvy;refine IH.out ((_,st2),_) ⟨false,GH hf hid2.out ?_ (p1.out.yes _ hvy) p1.out.frame,G4 hfit1 hgr,IP hgr.less hun,⟨fun _=>?_⟩,⟨fun h=>(by cases h)⟩⟩
          .simp only[Co,F9,Lw,Gc,forall_eq];omega
          .rw[hv.out rfl];simp only[CM,Cs,F3,CK,hvy]
        .refine aw ?_;exact Fg hf (hno.out rfl)
       .rintro i ⟨⟨g,st1⟩,c⟩ hi him ⟨b,hf,hfit1,hun,hv,hno⟩;dsimp only at*;have hr1:=hf.node _ (FD ..);have hr2:=hf.looks.box;rw[←hLV2.out]at hr2;dsimp only at hr1;try simp only[*]at him
        cases b
        .refine aw ?_;exact Qa hf (hv.out rfl)
        .refine aw ?_;exact Fg hf (hno.out rfl)
    have hop:xo=3∨xo=1∨xo=7∨(xo=2)∨xo=5∨xo=6∨xo=8∨(¬xo=1∧ ¬xo=7∧ ¬xo=3∧ ¬xo=2∧ ¬xo=5∧ ¬xo=6∧ ¬xo=8):=by omega
    rcases hop with rfl|rfl|rfl|rfl|rfl|rfl|rfl|⟨n1,n2,n3,n4,n5,n6,n7⟩;all_goals ((repeat' (first|simp only[go_sem, *,Kt,LU]|(refine sx ?_ ?_<;>intro hc)|refine sy (by omega) fun x hx hm=>?_|simp(disch:=first|assumption|omega) only[AK])))
    all_goals try(exfalso;omega)
    all_goals try(exact FY (hn0'.out _ _) hid2.out (hLV.out _) (hbad.out (by clear e1 e2 e3 e4 e5 e6 e7 e8 lbox lmt lsz hs hbad ih hn0' hLV;grind [Cy,DX,XZ,E7])))
    all_goals
     refine Ah xa (S:=fun i a=>⟨[(0,.ptr l 0),(2,.d (.int .i64 size)),(6,.ptr (0::48::π) 0),(10,.d (.int .i64 i))],a.1.1,a.2+60,[]⟩)
      (Inv:=fun i rest a=>Xz p l sz ow us h π _ (st.meet n size) a.1.2 a.1.1∧AA (xa.all (Bc.ok size)=(!a.1.2&&rest.all (Bc.ok size)))) (b0:=((_,false),_)) ⟨hn0'.out _ _,⟨rfl⟩⟩ ?_ ?_
     .rintro i y ⟨⟨g,b⟩,c⟩ hy hi him ⟨hf,hr⟩ IH;dsimp only at*;try(exfalso;omega)
      all_goals
       have hr1:=hf.node _ (FD ..);have hr2:=hf.looks.box;rw[←hLV.out]at hr2;dsimp only at hr1;try simp only[*]at him
      all_goals
       cases b
       .refine aw ?_;refine IH.out ((_,_),_) ⟨j6 hf hid2.out (hLV.out _) (by simp),⟨?_⟩⟩;rw[hr.out,D4];cases Bc.ok size y<;>simp
       .refine aw ?_;refine IH.out ((_,_),_) ⟨j6 hf hid2.out (hLV.out _) (by simp),⟨?_⟩⟩;rw[hr.out,D4];cases Bc.ok size y<;>simp
     .rintro i ⟨⟨g,b⟩,c⟩ hi him ⟨hf,hr⟩;dsimp only at*;have hr1:=hf.node _ (FD ..);have hr2:=hf.looks.box;rw[←hLV.out]at hr2;dsimp only at hr1;try simp only[*]at him
      cases b;all_goals
       ((repeat' (first|simp only[go_sem, *]|(refine sx ?_ ?_<;>intro hc)|refine sy (by omega) fun x hx hm=>?_|simp(disch:=first|assumption|omega) only[AK])))
      all_goals
       have hall:AA (xa.all (Bc.ok size)=_):=hr;simp only[Qr,MD,OS,Ol]at hall;obtain⟨L,hLe⟩: ∃L,Xz p l sz ow us h π L (st.meet n size) _ g∧ ∃o,L=[(48,o)]∧g.get (0::48::π)=some o:=⟨_,hf,_,rfl,hr1⟩;clear hf;obtain⟨hf,ob,hLe,hob⟩:=hLe;have hob2:=hr1.symm.trans hob;simp only[CE]at hob2;replace hob2:=AA.mk hob2;clear hob;refine Ah xk (S:=fun i a=>⟨[(0,.ptr l 0),(6,.ptr (0::48::π) 0),(11,.d (.int .i64 size)),(12,.d (.int .i64 i))],a.1.1,a.2+60,[]⟩)
        (Inv:=fun i rest a=> ∃b,Xz p l sz ow us h π L a.1.2 b a.1.1∧a.1.2.fit p∧EE a.1.2.met≤k∧AA (b=false→BH p (k+1) n size st=CK (BH p k) (CM size rest) a.1.2)∧AA (b=true→BH p (k+1) n size st=none)) (b0:=((_,st.meet n size),_)) ?_ ?_ ?_
       .dsimp only;refine⟨_,j6 hf hid2.out (hLV.out _) (by simp),PT hfit _ _,?_,⟨fun hb'=>?_⟩,⟨fun hb'=>?_⟩⟩
        .have:=E5 ht;simp only[BT.meet];omega
        .rw[hs.out,D0,RU]
         .simp
         .replace hall:=hall.out;clear e1 e2 e3 e4 e5 e6 e7 e8 lbox lmt lsz hs hbad ih hn0' hLV hf hr1 hr2;grind [Cy,DX,XZ,E7]
        .refine hbad.out ?_;replace hall:=hall.out;clear e1 e2 e3 e4 e5 e6 e7 e8 lbox lmt lsz hs hbad ih hn0' hLV hf hr1 hr2;grind [Cy,DX,XZ,E7]
       all_goals clear hf hr1 hr2 hr hi him g c i hall
       .rintro i y ⟨⟨g,st1⟩,c⟩ hy hi him ⟨b,hf,hfit1,hun,hv,hno⟩ IH;dsimp only at*;try(exfalso;omega)
        all_goals
         have hr1:=hf.node (48,ob) (by rw[hLe];exact FD ..);rw[←hob2.out]at hr1;have hr2:=hf.looks.box;rw[←hLV.out]at hr2;dsimp only at hr1;try simp only[*]at him
        all_goals
         cases b
         .refine aw ?_;refine AZ (ih.out y size st1 g _ l sz ow us hun hfit1 h0 (by omega) (Fa hid2.out _) hf.looks) (fun o1 g1 p1=>?_);obtain rfl:=p1.ret;replace p1:=AA.mk p1;refine aw ?_;cases hvy:BH p k y size st1 with
          |none=>
           refine IH.out ((_,st1),_) ⟨true,GH hf hid2.out ?_ (p1.out.no hvy _) p1.out.frame,hfit1,hun,⟨fun h=>(by cases h)⟩,⟨fun _=>?_⟩⟩
           .rw[hLe];simp only[Co,F9,Lw,Gc,forall_eq];omega
           .rw[hv.out rfl];simp only[CM,Cs,CK,hvy]
          |some st2=>
           have hgr:=CZ p _ _ _ _ _ hvy;refine IH.out ((_,st2),_) ⟨false,GH hf hid2.out ?_ (p1.out.yes _ hvy) p1.out.frame,G4 hfit1 hgr,IP hgr.less hun,⟨fun _=>?_⟩,⟨fun h=>(by cases h)⟩⟩
           .rw[hLe];simp only[Co,F9,Lw,Gc,forall_eq];omega
           .rw[hv.out rfl];simp only[CM,Cs,CK,hvy]
         .refine aw ?_;exact Fg hf (hno.out rfl)
       .rintro i ⟨⟨g,st1⟩,c⟩ hi him ⟨b,hf,hfit1,hun,hv,hno⟩;dsimp only at*;have hr1:=hf.node (48,ob) (by rw[hLe];exact FD ..);rw[←hob2.out]at hr1;have hr2:=hf.looks.box;rw[←hLV.out]at hr2;dsimp only at hr1;try simp only[*]at him
        cases b
        .refine aw ?_;exact Qa hf (hv.out rfl)
        .refine aw ?_;exact Fg hf (hno.out rfl)
theorem ym{p:AL}{st:BT}{sz mt:Abs.Id}{i:Nat}{s:Int}(hl:JK h p l sz mt df st)(hi:i<p.nodes.length)(hs:st.ci[i]? =some s)(hz:st.ci.length=p.nodes.length)(π:List Nat):KL Tryz.prog cfg (.fn 166) [.ptr l 0,.d (.int .i64 i)] h π true none=.ok (.ret (.d (.int .i64 s)),h):=by
 obtain⟨b1,b2,b3,b4⟩:=hl;have hN:p.nodes.length≠0:=by omega
 have b2:=b2 hN;rw[BJ hN,BJ hN]at b1;refine AGC rfl Tryz.func166 rfl rfl rfl ?_;show Wp _ _ _ _ (Tryz.f166.body.get rfl) _ _;simp only[Tryz.f166,AS];exact au
theorem Ki{p:AL}{sz mt:Abs.Id}{st:BT}(hf:JK g p l sz mt df st)(hi:Xy π l sz mt df)(t j:Nat)(o:Abs.Obj):JK (g.put (t::j::π) o) p l sz mt df st:=
 ⟨by rw[get_put,AH hi.ul];exact hf.box,fun hn=>by rw[get_put,AH hi.us];exact hf.ci hn,fun hn=>by rw[get_put,AH hi.um];exact hf.met hn,fun hn=>by rw[get_put,AH hi.ud];exact hf.defs hn⟩
theorem zh(p:AL)(hN:p.nodes.length≤60)(st:BT)(h:AD)(π:List Nat)(l sz mt df a b:Abs.Id)(hl:JK h p l sz mt df st)(hz:st.ci.length=p.nodes.length)(hid:Xy π l sz mt df)
 (ha:h.get a=some (.box [.d (.be (p.free.map Av)),.d (.be (p.nodes.map Af)),.d (.be (p.defs.map Ax)),.d (.int .i64 p.main)])) (hb:h.get b=some (.box [.fn 166 [] []])) (ua:Id.under π a=false) (ub:Id.under π b=false) (hp:0<p.nodes.length):
 ∃o h',KL Tryz.prog cfg (.fn 187) [.ptr l 0,.ptr a 0,.ptr b 0] h π true none=.ok (o,h')∧(∃j,o=.ret (.eq (1::j::π) 0 p.nodes.length)∧h'.get (1::j::π)=some (.d9 1 (st.ci.map AJ)))∧ ∀id',Id.under π id'=false→h'.get id'=h.get id':=by
 (refine Aj rfl Tryz.func187 rfl rfl rfl ?_;show Wp _ _ _ _ (Tryz.f187.body.get rfl) _ _;simp only[Tryz.f187,AS])
 have hid:=AA.mk hid;have hl:=AA.mk hl;have hz2:=AA.mk hz;have u1:=AH ub;have u2:=AG ub;refine aw ?_;refine AX st.ci _ (fun m i a=>⟨[(0,.ptr l 0),(2,.ptr b 0),(5,a.1.2),(9,.d (.int .i64 m)),(10,.d (.int .i64 i))],a.1.1,a.2+6,[]⟩)
  (Inv:=fun i rest a=>AA (JK a.1.1 p l sz mt df st)∧a.1.1.get b=some (.box [.fn 166 [] []])∧AA (∀id',Id.under π id'=false→a.1.1.get id'=h.get id')∧AA (i=0∧a.1.2=.co∨ ∃j,j<a.2+6∧a.1.2=.eq (1::j::π) 0 i∧a.1.1.get (1::j::π)=some (.d9 1 ((st.ci.take i).map AJ)))) (b0:=((h,.co),0)) ?_ ⟨hl,hb,⟨fun _ _=>rfl⟩,⟨.inl ⟨rfl,rfl⟩⟩⟩ ?_ ?_
 .omega
 .rintro i y ⟨⟨g,v⟩,c⟩ hy hi him ⟨hl,hb,hfr,hv⟩ IH;dsimp only at*;have hk:=fun ρ=>ym hl.out (by omega) hy hz ρ;rcases hv.out with⟨rfl,rfl⟩|⟨j,hj,rfl,hj2⟩
  .clear hv;have him0:(0:Int)<p.nodes.length:=by omega
   have hk: ∀ρ,KL Tryz.prog cfg (.fn 166) [.ptr l 0,.d (.int .i64 0)] g ρ true none=.ok (.ret (.d (.int .i64 y)),g):=hk;refine aw ?_;refine IH.out ((_,_),_) ⟨⟨Ki (Ki (ML hl.out (Fa hid.out _)) hid.out _ _ _) hid.out _ _ _⟩,?_,⟨fun id' hu=>?_⟩,⟨.inr ⟨_,?_,rfl,?_⟩⟩⟩
   .simp only[go_sem,u1,u2,hb]
   .have hu1:=AH hu;have hu2:=AG hu;simp only[go_sem,hu1,hu2,hfr.out id' hu,AM]
   .omega
   .simp only[go_sem];rw[KW,hy];rfl
  .clear hv;have n1: ¬c+13=j:=by omega
   have n2: ¬c+14=j:=by omega
   have n3: ¬c+15=j:=by omega
   have tk:(st.ci.take i).length=i:=by simp;omega
   have nle: ¬i+1≤i:=by omega
   (repeat' (first|simp only[go_sem, *,EX]|(refine sx ?_ ?_<;>intro hc)|refine sy (by omega) fun x hx hm=>?_|simp(disch:=first|assumption|omega) only[AK]))
   refine IH.out ((_,_),_) ⟨⟨Ki (Ki (Ki (ML hl.out (Fa hid.out _)) hid.out _ _ _) hid.out _ _ _) hid.out _ _ _⟩,?_,⟨fun id' hu=>?_⟩,⟨.inr ⟨_,?_,rfl,?_⟩⟩⟩
   .simp only[go_sem,u1,u2,hb]
   .have hu1:=AH hu;have hu2:=AG hu;simp only[go_sem,hu1,hu2,hfr.out id' hu,AM]
   .omega
   .simp only[go_sem];have:List.take i (List.map AJ (List.take i st.ci))=List.map AJ (List.take i st.ci):=CS (by simp;omega);rw[this,KW,hy,D1];rfl
 .rintro i ⟨⟨g,v⟩,c⟩ hi him ⟨hl,hb,hfr,hv⟩;dsimp only at*;rcases hv.out with⟨rfl,rfl⟩|⟨j,hj,rfl,hj2⟩
  .exfalso;omega
  .clear hv;refine aw ?_;have hiN:=hi.out;refine⟨⟨_,by rw[hiN,hz],?_⟩,hfr.out⟩;rw[hj2,hiN,EL]
theorem Ef(i t j k:Nat)(π:List Nat)(h:i≠k):Id.under (i::π) (t::j::k::π)=false:=ED fun hs=>by
 rcases IT.1 hs with e|hs
 .have:=congrArg List.length e;simp at this
 rcases IT.1 hs with e|hs
 .have:=congrArg List.length e;simp at this
 rcases IT.1 hs with e|hs
 .simp only[No,and_true]at e;exact h e
 .have:=hs.length_le;simp at this;omega
theorem pV{p:AL}{sz mt:Abs.Id}{st:BT}(hl:JK g p l sz mt df st):JK (g++h) p l sz mt df st:=⟨CT hl.box,fun hn=>CT (hl.ci hn),fun hn=>CT (hl.met hn),fun hn=>CT (hl.defs hn)⟩
structure cM(p:AL)(o:Ad)(h':AD):Prop where
 no:looks p=none→o=.ret (.ge [.co,.d (.int .i64 2)])
 yes: ∀st,looks p=some st→ ∃id,o=.ret (.ge [.eq (1::id) 0 p.nodes.length,.d (.int .i64 0)])∧h'.get (1::id)=some (.d9 1 (st.ci.map AJ))
theorem pT(p:AL)(hp: ∀s∈p.free,s.size≤maxLen)(h:AD)(π:List Nat)(a b:Abs.Id)
 (ha:h.get a=some (.box [.d (.be (p.free.map Av)),.d (.be (p.nodes.map Af)),.d (.be (p.defs.map Ax)),.d (.int .i64 p.main)])) (hb:h.get b=some (.box [.fn 166 [] []])) (ua:Id.under π a=false) (ub:Id.under π b=false):
 ∃o h',KL Tryz.prog cfg (.fn 186) [.agg [.d (.be (p.free.map Av)),.d (.be (p.nodes.map Af)),.d (.be (p.defs.map Ax)),.d (.int .i64 p.main)],.fn 187 [] [.ptr a 0,.ptr b 0]] h π true none=.ok (o,h')∧cM p o h':=by
 (refine Aj rfl Tryz.func186 rfl rfl rfl ?_;show Wp _ _ _ _ (Tryz.f186.body.get rfl) _ _;simp only[Tryz.f186,AS])
 have hp:=AA.mk hp;have u1:=AH ua;have u2:=AG ua;have v1:=AH ub;have v2:=AG ub;obtain⟨r,e,hpost⟩:=ABJ p hp.out 6 π;cases hlk:looks p with
 |none=>
  obtain rfl:=hpost.f9 hlk;refine aw ?_;exact⟨fun _=>rfl,fun st hst=>by rw[hlk]at hst;cases hst⟩
 |some st=>
  obtain⟨hh,rfl,hL,hnew⟩:=hpost.ret st hlk;replace hnew:=AA.mk hnew;replace hL:=AA.mk hL;have hF:=AA.mk (CF hlk);have hz:=hF.out.len;have hsm:=hF.out.small;simp only[AL.small,AP,Ap]at hsm;have hN:0<p.nodes.length:=by
   have h1:=hF.out.main.2;have:=AI h1;omega
  refine aw ?_;refine AZ (zh p hsm.2.1 st _ _ (0::16::6::π) (1::6::6::π) (1::10::6::π) (1::14::6::π) a b (pV hL.out) hz ?_ ?_ ?_ (u2 _) (v2 _) hN) (fun o1 g1 p1=>?_)
  .constructor<;>first|exact Ef _ _ _ _ _ (by decide)|simp only[go_sem]
  .rw[BW (hnew.out a (u2 _))];simp only[go_sem,u1,ha,AM]
  .rw[BW (hnew.out b (v2 _))];simp only[go_sem,v1,hb,AM]
  obtain⟨⟨j,rfl,r1⟩,fr⟩:=p1;have r2:=fr (0::2::π) (Cq _ _ _ _ (by decide));rw[BW (hnew.out (0::2::π) (Cq _ _ _ _ (by decide)))]at r2;simp only[get_put,is_self,F2]at r2;replace fr:=AA.mk fr;refine aw ?_;refine⟨fun hst=>by{rw[hlk]at hst;cases hst},fun st' hst=>?_⟩;rw[hlk]at hst;cases hst;exact⟨_,rfl,by simp only[go_sem,r1]⟩
def KR:Option BT→AV
 |none=>.ge [.d (.be []),.d (.int .i64 2)]
 |some st=>.ge [.d (.be (st.ci.map AJ)),.d (.int .i64 0)]
theorem AAK(p:AL)(hp: ∀s∈p.free,s.size≤maxLen):BB (KL Tryz.prog cfg) 165 [.agg [.d (.be (p.free.map Av)),.d (.be (p.nodes.map Af)),.d (.be (p.defs.map Ax)),.d (.int .i64 p.main)],.fn 166 [] []] []=.ok (.ret (KR (looks p)),[]):=by
 replace hp:=AA.mk hp
 (refine Ae rfl Tryz.func165 rfl rfl rfl ?_;show Wp _ _ _ _ (Tryz.f165.body.get rfl) _ _;simp only[Tryz.f165,AS])
 refine aw ?_;refine AZ (pT p hp.out _ _ _ _ ?_ ?_ ?_ ?_) (fun o1 g1 p1=>?_)
 .simp only[go_sem]
 .simp only[go_sem]
 .simp only[go_sem]
 .simp only[go_sem]
 cases hlk:looks p with
 |none=>
  obtain rfl:=p1.no hlk;clear p1
  (repeat' (first|simp only[go_sem, *,KR]|(refine sx ?_ ?_<;>intro hc)|refine sy (by omega) fun x hx hm=>?_|simp(disch:=first|assumption|omega) only[AK]))
 |some st=>
  obtain⟨id,rfl,r1⟩:=p1.yes st hlk;clear p1;have hz:=(CF hlk).len;have tk1:List.take p.nodes.length (List.map AJ st.ci)=List.map AJ st.ci:=CS (by simp[hz])
  (repeat' (first|simp only[go_sem, *,KR,EX]|(refine sx ?_ ?_<;>intro hc)|refine sy (by omega) fun x hx hm=>?_|simp(disch:=first|assumption|omega) only[AK]))
theorem sq(p:AL)(hp: ∀s∈p.free,s.size≤maxLen):BB (KL Tryz.prog cfg) 109 [.agg [.d (.be (p.free.map Av)),.d (.be (p.nodes.map Af)),.d (.be (p.defs.map Ax)),.d (.int .i64 p.main)]] []=.ok (.ret (KR (looks p)),[]):=by
 have hk:=AAK p hp;clear hp
 (refine Ae rfl Tryz.func109 rfl rfl rfl ?_;show Wp _ _ _ _ (Tryz.f109.body.get rfl) _ _;simp only[Tryz.f109,AS])
 cases hlk:looks p with
 |none=>
  rw[hlk,KR]at hk
  (repeat' (first|simp only[go_sem, *,KR]|(refine sx ?_ ?_<;>intro hc)|refine sy (by omega) fun x hx hm=>?_|simp(disch:=first|assumption|omega) only[AK]))
 |some st=>
  rw[hlk,KR]at hk
  (repeat' (first|simp only[go_sem, *,KR]|(refine sx ?_ ?_<;>intro hc)|refine sy (by omega) fun x hx hm=>?_|simp(disch:=first|assumption|omega) only[AK]))
theorem jg: ∀(a b:List UInt8),(Op.bytesLess a b||a==b)= !Op.bytesLess b a
 |[],[]=>by simp[Op.bytesLess]
 |[],b::y=>by simp[Op.bytesLess]
 |a::x,[]=>by simp[Op.bytesLess]
 |a::x,b::y=>by
  have ih:=jg x y;simp only[Op.bytesLess,List.cons_beq_cons];by_cases h1:a<b
  .have h2: ¬b<a:=fun h=>by
    have:=UInt8.lt_asymm h1 h;exact this
   have h3:(b==a)=false:=by
    simp only[beq_eq_false_iff_ne];intro h;subst h;exact UInt8.lt_irrefl _ h1
   simp[h1,h2,h3]
  .by_cases h2:b<a
   .have h3:(a==b)=false:=by
     simp only[beq_eq_false_iff_ne];intro h;subst h;exact UInt8.lt_irrefl _ h2
    simp[h1,h2,h3]
   .have h3:a=b:=UInt8.le_antisymm (UInt8.not_lt.1 h2) (UInt8.not_lt.1 h1);subst h3;simp only[h1,decide_false,Ip,beq_self_eq_true,EM];exact ih
theorem r9(a b:ByteArray):(Op.bytesLess a.toList b.toList||a.toList==b.toList)= !bt b a:=jg _ _
theorem ZC{p:AL}{ci:List Int}(h:BK p ci): ∀d∈p.defs,d.okG=true:=by
 intro d hd;obtain⟨i,hi⟩:=Hm hd;obtain⟨j,x,hx,hxo,hxn⟩:=h.used i (BE.1 hi).1;obtain⟨s,l,_,_,_,_,hl,_⟩:=h.node j x hx;rw[Ia,D0 hxo,hxn,hi]at hl;dsimp only at hl;split at hl
 .assumption
 .cases hl
structure zX(p:AL)(r:Ad×AD):Prop where
 no:looks p=none→ ∃h l x0 x1 x2 x3 x4 x5 x6,r=(.ret (.ptr (0::l) 0),h)∧h.get (0::l)=some (.box [x0,x1,x2,x3,x4,x5,x6,.d (.bool true)])
 yes: ∀st,looks p=some st→ ∃h l sz ow us,r=(.ret (.ptr (0::l) 0),h)∧Gu h p (0::l) (1::sz) (1::ow) (1::us) st false
theorem Rn(n:Nat):(List.replicate n (0:Int)).map AJ=(List.replicate n false).map IX:=by
 rw[OP,OP];rfl
def st0:BT:=⟨[],[],[]⟩
theorem s6(p:AL)(k:Nat)(ρ:List Nat): ∃r:Ad×AD,BB (KL Tryz.prog cfg) 83 [.agg [.d (.be (p.free.map Av)),.d (.be (p.nodes.map Af)),.d (.be (p.defs.map Ax)),.d (.int .i64 p.main)]] (k::ρ)=.ok r∧zX p r:=by
 by_cases hs:p.small=true
 .have hs2:=AA.mk hs;simp only[AL.small,AP,Ap]at hs;obtain⟨c1,c2,c3⟩:=hs;have d1: ¬(12:Int)<p.free.length:=by omega
  have d2: ¬(60:Int)<p.nodes.length:=by omega
  have d3: ¬(12:Int)<p.defs.length:=by omega
  (refine GJ rfl Tryz.func83 rfl rfl rfl ?_;show Wp _ _ _ _ (Tryz.f83.body.get rfl) _ _;simp only[Tryz.f83,AS])
  refine aw ?_;refine Ah p.free (S:=fun i b=>⟨[(1,.ptr (0::0::k::ρ) 0),(3,.ptr (0::1::k::ρ) 0),(4,.d (.int .i64 i))],[(0::0::k::ρ,.box [.d (.be (p.free.map Av)),.d (.be (p.nodes.map Af)),.d (.be (p.defs.map Ax)),.d (.int .i64 p.main)]),(0::1::k::ρ,.box [.d (.be (p.free.map Av)),.d (.be (p.nodes.map Af)),.d (.be (p.defs.map Ax)),.d (.int .i64 p.main),.co,.co,.co,.d (.bool b)])],2,[]⟩)
   (Inv:=fun i rest b=>AA ((!b&&IY (if i=0 then none else p.free[i-1]?) rest)=LA p.free)) (b0:=false) ⟨rfl⟩ ?_ ?_
  .rintro i y b hy hi him hr IH;have hnm:=xg y;rcases i with _|j
   .rw[D0 rfl]at hr;have him0:(0:Int)<p.free.length:=by omega
    cases b;all_goals ((repeat' (first|simp only[go_sem, *]|(refine sx ?_ ?_<;>intro hc)|refine sy (by omega) fun x hx hm=>?_|simp(disch:=first|assumption|omega) only[AK])))
    all_goals
     refine IH.out _ ⟨?_⟩;rw[←hr.out];rw[CI (by omega),Pm,hy];simp[IY,bt, *]
   .obtain⟨q,hq⟩:=get_some (l:=p.free) (i:=j) (by omega);rw[CI (by omega),Pm,hq]at hr;have w:IntKind.i64.wrap (((j+1:Nat):Int)-1)=(j:Int):=by rw[wrap_id (by omega) (by omega)];omega
    have w0:(0:Int)<((j+1:Nat):Int):=by omega
    cases b;all_goals ((repeat' (first|simp only[go_sem, *]|(refine sx ?_ ?_<;>intro hc)|refine sy (by omega) fun x hx hm=>?_|simp(disch:=first|assumption|omega) only[AK])))
    all_goals
     refine IH.out _ ⟨?_⟩;rw[←hr.out];rw[CI (by omega),Pm,hy];simp[IY,r9, *]
  .rintro i b hi him hr;rw[IY,MD]at hr;refine aw ?_;refine Ah p.defs (S:=fun i b=>⟨[(1,.ptr (0::0::k::ρ) 0),(3,.ptr (0::1::k::ρ) 0),(5,.d (.int .i64 i))],[(0::0::k::ρ,.box [.d (.be (p.free.map Av)),.d (.be (p.nodes.map Af)),.d (.be (p.defs.map Ax)),.d (.int .i64 p.main)]),(0::1::k::ρ,.box [.d (.be (p.free.map Av)),.d (.be (p.nodes.map Af)),.d (.be (p.defs.map Ax)),.d (.int .i64 p.main),.co,.co,.co,.d (.bool b)])],2,[]⟩)
    (Inv:=fun i rest b=>AA ((!b&&rest.all Bs.okG)=(LA p.free&&p.defs.all Bs.okG))) (b0:=b) ⟨?_⟩ ?_ ?_
   .rw[←hr.out]
   .clear hr hi him i b;rintro i y b hy hi him hr IH;have hdr:=z9 y;rw[AGs]at hdr;cases b;all_goals (refine aw ?_)
    all_goals
     refine IH.out _ ⟨?_⟩;rw[←hr.out,D4];cases y.okG<;>simp
   .clear hr hi him i b;rintro i b hi him hr;rw[Qr,MD]at hr;have him2: ¬(i:Int)<0:=by omega
    have hbadL:AA (b=true→looks p=none):=⟨fun hb=>by
     have hr:=hr.out;rw[hb]at hr;cases hl:looks p with
     |none=>rfl
     |some st=>
      exfalso;have hf:LA p.free=true:=by
       unfold looks at hl;split at hl
       .rename_i h;exact h.2
       .cases hl
      have hd:p.defs.all Bs.okG=true:=DO.2 (ZC (CF hl));rw[hf,hd]at hr;cases hr⟩
    cases b
    .have hfree:AA (LA p.free=true):=⟨by have:=hr.out;simp at this;exact this.1.symm▸rfl⟩;have hdef:AA (∀d∈p.defs,d.okG=true):=⟨by have:=hr.out;simp at this;exact this.2⟩;by_cases hN0:p.nodes.length=0
     .by_cases hD0:p.defs.length=0
      ·(repeat' (first|simp only[go_sem, *]|(refine sx ?_ ?_<;>intro hc)|refine sy (by omega) fun x hx hm=>?_|simp(disch:=first|assumption|omega) only[AK,Eb,Gj]))
       refine AZ (JG p c2 p.main p.free.length (BT.init p) _ _ (0::1::k::ρ) (1::13::k::ρ) (1::17::k::ρ) (1::21::k::ρ) ⟨?_,?_,?_⟩ ?_ ⟨?_,fun _ h=>absurd hN0 h,fun _ h=>absurd hN0 h,fun _ _=>?_,fun h=>absurd hN0 h,fun h=>absurd hN0 h,fun _=>?_⟩ ?_) (fun o1 g1 p1=>?_)
       .simp[BT.init]
       .simp[BT.init]
       .simp[BT.init]
       .constructor<;>first|exact Cq _ _ _ _ (by decide)|simp only[go_sem]
       .simp only[Dj,wd,hN0,hD0,El,F2];simp only[go_sem]
       .exact absurd hD0 ‹_›
       .exact absurd hD0 ‹_›
       .omega
       obtain rfl:=p1.ret;have hl:=HT (ρ:=41::k::ρ) (p1.no rfl st0) (by constructor<;>first|exact Cq _ _ _ _ (by decide)|simp only[go_sem]);have q1:=hl.box;rw[Dj,IU hN0,IU hN0,IU hD0]at q1;have hno:AA (looks p=none):=⟨by
        unfold looks;split
        .have:BH p (p.nodes.length+1) p.main p.free.length (BT.init p)=none:=by
          rw[BH,CI];intro hh;have:=AI hh.2;simp[BT.init]at this;omega
         rw[this]
        .rfl⟩
       replace hl:=AA.mk hl;replace p1:=AA.mk p1;refine aw ?_;rw[C7];refine aw ?_;rw[C7];refine aw ?_;exact⟨fun _=>⟨_,_,_,_,_,_,_,_,_,rfl,by(simp only[go_sem];try rfl)⟩,fun st hs=>(by rw[hno.out]at hs;cases hs)⟩
      ·(repeat' (first|simp only[go_sem, *]|(refine sx ?_ ?_<;>intro hc)|refine sy (by omega) fun x hx hm=>?_|simp(disch:=first|assumption|omega) only[AK,Eb,Gj]))
       refine AZ (JG p c2 p.main p.free.length (BT.init p) _ _ (0::1::k::ρ) (1::13::k::ρ) (1::17::k::ρ) (1::21::k::ρ) ⟨?_,?_,?_⟩ ?_ ⟨?_,fun _ h=>absurd hN0 h,fun _ h=>absurd hN0 h,fun _ _=>?_,fun h=>absurd hN0 h,fun h=>absurd hN0 h,fun _=>?_⟩ ?_) (fun o1 g1 p1=>?_)
       .simp[BT.init]
       .simp[BT.init]
       .simp[BT.init]
       .constructor<;>first|exact Cq _ _ _ _ (by decide)|simp only[go_sem]
       .simp only[Dj,wd,hN0,hD0,El,F2];simp only[go_sem]
       .simp only[go_sem,BT.init,Rn]
       .exact⟨_,by(simp only[go_sem];rfl)⟩
       .omega
       obtain rfl:=p1.ret;have hl:=HT (ρ:=41::k::ρ) (p1.no rfl st0) (by constructor<;>first|exact Cq _ _ _ _ (by decide)|simp only[go_sem]);obtain⟨C,q4⟩:=hl.kd hD0;have q1:=hl.box;rw[Dj,IU hN0,IU hN0,BJ hD0]at q1;have hno:AA (looks p=none):=⟨by
        unfold looks;split
        .have:BH p (p.nodes.length+1) p.main p.free.length (BT.init p)=none:=by
          rw[BH,CI];intro hh;have:=AI hh.2;simp[BT.init]at this;omega
         rw[this]
        .rfl⟩
       replace hl:=AA.mk hl;replace p1:=AA.mk p1;refine aw ?_;rw[C7];refine aw ?_;clear q1 q4 hl p1 hbadL hr him him2 hi i;refine AX (List.replicate p.defs.length ()) (S:=fun _ i (_:Unit)=>⟨[(3,.ptr (0::0::k::ρ) 0),(7,.d (.int .i64 i))],[(0::0::k::ρ,.box [.d (.be (p.free.map Av)),.d (.be (p.nodes.map Af)),.d (.be (p.defs.map Ax)),.d (.int .i64 p.main),.emp,.emp,.eq (1::1::k::ρ) 0 p.defs.length,.d (.bool true)]),(1::1::k::ρ,.d9 1 C)],2,[]⟩)
        (Inv:=fun i rest b=>True) (b0:=()) (m:=p.defs.length) (by simp) trivial ?_ ?_
       .rintro i y b hy hi him hr IH;refine aw ?_;exact IH.out () trivial
       .rintro i b hi him hr;refine aw ?_;exact⟨fun _=>⟨_,_,_,_,_,_,_,_,_,rfl,by(simp only[go_sem];try rfl)⟩,fun st hs=>(by rw[hno.out]at hs;cases hs)⟩
     .by_cases hD0:p.defs.length=0
      ·(repeat' (first|simp only[go_sem, *]|(refine sx ?_ ?_<;>intro hc)|refine sy (by omega) fun x hx hm=>?_|simp(disch:=first|assumption|omega) only[AK,Eb,Gj]))
       refine AZ (Z4 p c2 c3 hdef.out (p.nodes.length+1) p.main p.free.length (BT.init p) _ _ (0::1::k::ρ) (1::13::k::ρ) (1::17::k::ρ) (1::21::k::ρ) ?_ ⟨?_,?_,?_⟩ ?_ ?_ ?_ ⟨?_,fun _ _=>?_,fun _ _=>?_,fun _ _=>?_,fun _=>?_,fun _=>?_,fun _=>?_⟩) (fun o1 g1 p1=>?_)
       .have:=Mn (BT.init p).met;simp only[BT.init,I0]at*;omega
       .simp[BT.init]
       .simp[BT.init]
       .simp[BT.init]
       .omega
       .omega
       .constructor<;>first|exact Cq _ _ _ _ (by decide)|simp only[go_sem]
       .simp only[Dj,wd,hN0,hD0,El,F2];simp only[go_sem]
       .simp only[go_sem,BT.init]
       .simp only[go_sem,BT.init,Rn]
       .exact absurd hD0 ‹_›
       .exact⟨_,by(simp only[go_sem];rfl)⟩
       .exact⟨_,by(simp only[go_sem];rfl)⟩
       .exact absurd hD0 ‹_›
       obtain rfl:=p1.ret;cases hv:BH p (p.nodes.length+1) p.main p.free.length (BT.init p)with
       |none=>
        have hl:=HT (ρ:=41::k::ρ) (p1.no hv st0) (by constructor<;>first|exact Cq _ _ _ _ (by decide)|simp only[go_sem]);obtain⟨A,q2⟩:=hl.ks hN0;obtain⟨B,q3⟩:=hl.km hN0;have q1:=hl.box;rw[Dj,BJ hN0,BJ hN0,IU hD0]at q1;have hno:AA (looks p=none):=⟨by
         unfold looks;rw[hv];split<;>rfl⟩
        replace hl:=AA.mk hl;replace p1:=AA.mk p1;refine aw ?_;clear q1 q2 q3 hl p1 hbadL hr him him2 hi i;refine AX (List.replicate p.nodes.length ()) (S:=fun _ i (_:Unit)=>⟨[(3,.ptr (0::0::k::ρ) 0),(6,.d (.int .i64 i))],[(0::0::k::ρ,.box [.d (.be (p.free.map Av)),.d (.be (p.nodes.map Af)),.d (.be (p.defs.map Ax)),.d (.int .i64 p.main),.eq (1::1::k::ρ) 0 p.nodes.length,.eq (1::2::k::ρ) 0 p.nodes.length,.emp,.d (.bool true)]),(1::1::k::ρ,.d9 1 (A)),(1::2::k::ρ,.d9 1 (B))],3,[]⟩)
         (Inv:=fun i rest b=>True) (b0:=()) (m:=p.nodes.length) (by simp) trivial ?_ ?_
        .rintro i y b hy hi him hr IH;refine aw ?_;exact IH.out () trivial
        .rintro i b hi him hr;refine aw ?_;rw[C7];refine aw ?_;exact⟨fun _=>⟨_,_,_,_,_,_,_,_,_,rfl,by(simp only[go_sem];try rfl)⟩,fun st hs=>(by rw[hno.out]at hs;cases hs)⟩
       |some st=>
        have hl:=HT (ρ:=41::k::ρ) (p1.yes st hv) (by constructor<;>first|exact Cq _ _ _ _ (by decide)|simp only[go_sem]);have q1:=hl.box;have q2:=hl.ci rfl hN0;have q3:=hl.met rfl hN0;rw[Dj,BJ hN0,BJ hN0,IU hD0]at q1;replace hl:=AA.mk hl;replace p1:=AA.mk p1;refine aw ?_;have hg:=CZ p _ _ _ _ _ hv;have m1:st.met.length=p.nodes.length:=by rw[hg.met];simp[BT.init]
        have m2:st.defs.length=p.defs.length:=by rw[hg.defs];simp[BT.init]
        have hlk:=AA.mk (PO hs2.out hfree.out hv);clear q1 q2 q3 hl p1 hbadL hr him him2 hi i;refine AX st.met (S:=fun _ i b=>⟨[(3,.ptr (0::0::k::ρ) 0),(6,.d (.int .i64 i))],[(0::0::k::ρ,.box [.d (.be (p.free.map Av)),.d (.be (p.nodes.map Af)),.d (.be (p.defs.map Ax)),.d (.int .i64 p.main),.eq (1::1::k::ρ) 0 p.nodes.length,.eq (1::2::k::ρ) 0 p.nodes.length,.emp,.d (.bool b)]),(1::1::k::ρ,.d9 1 (st.ci.map AJ)),(1::2::k::ρ,.d9 1 (st.met.map IX))],3,[]⟩)
         (Inv:=fun i rest b=>AA ((!b&&rest.all id)=st.met.all id)) (b0:=false) (m:=p.nodes.length) (by omega) ⟨rfl⟩ ?_ ?_
        .rintro i y b hy hi him hr IH;have hiN:=Int.ofNat_lt.1 him;cases b<;>cases y;all_goals (refine aw ?_)
         all_goals
          refine IH.out _ ⟨?_⟩;rw[←hr.out];simp
        .rintro i b hi him hr;rw[Qr,MD]at hr;refine aw ?_;rw[C7];refine aw ?_;have hr:AA ((!b)=(st.met.all id&&st.defs.all id)):=⟨by
          rw[hr.out,DL (m2.trans hD0)];simp⟩
         have hx:=hlk.out;cases b
         .have:st.met.all id=true∧st.defs.all id=true:=by have:=hr.out;simp only[Ol]at this;exact(AP _ _).mp this.symm
          rw[Il,Il]at this;rw[D0 this]at hx;refine⟨fun hn=>(by rw[hx]at hn;cases hn),fun st' hs=>?_⟩;rw[hx]at hs;cases hs;refine⟨_,_,1::k::ρ,2::k::ρ,3::k::ρ,rfl,⟨?_,fun _ _=>?_,fun _ _=>?_,fun _ _=>?_,fun _=>?_,fun _=>?_,fun _=>?_⟩⟩
          .simp only[Dj,wd,hN0,hD0,El,F2];simp only[go_sem]
          .simp only[go_sem]
          .simp only[go_sem]
          .exact absurd hD0 ‹_›
          .exact⟨_,by(simp only[go_sem];try rfl)⟩
          .exact⟨_,by(simp only[go_sem];try rfl)⟩
          .exact absurd hD0 ‹_›
         .have: ¬((¬false∈st.met)∧(¬false∈st.defs)):=fun h=>by
           rw[←Il,←Il]at h;have:=hr.out;rw[h.1,h.2]at this;cases this
          rw[CI this]at hx;exact⟨fun _=>⟨_,_,_,_,_,_,_,_,_,rfl,by(simp only[go_sem];try rfl)⟩,fun st hs=>(by rw[hx]at hs;cases hs)⟩
      ·(repeat' (first|simp only[go_sem, *]|(refine sx ?_ ?_<;>intro hc)|refine sy (by omega) fun x hx hm=>?_|simp(disch:=first|assumption|omega) only[AK,Eb,Gj]))
       refine AZ (Z4 p c2 c3 hdef.out (p.nodes.length+1) p.main p.free.length (BT.init p) _ _ (0::1::k::ρ) (1::13::k::ρ) (1::17::k::ρ) (1::21::k::ρ) ?_ ⟨?_,?_,?_⟩ ?_ ?_ ?_ ⟨?_,fun _ _=>?_,fun _ _=>?_,fun _ _=>?_,fun _=>?_,fun _=>?_,fun _=>?_⟩) (fun o1 g1 p1=>?_)
       .have:=Mn (BT.init p).met;simp only[BT.init,I0]at*;omega
       .simp[BT.init]
       .simp[BT.init]
       .simp[BT.init]
       .omega
       .omega
       .constructor<;>first|exact Cq _ _ _ _ (by decide)|simp only[go_sem]
       .simp only[Dj,wd,hN0,hD0,El,F2];simp only[go_sem]
       .simp only[go_sem,BT.init]
       .simp only[go_sem,BT.init,Rn]
       .simp only[go_sem,BT.init,Rn]
       .exact⟨_,by(simp only[go_sem];rfl)⟩
       .exact⟨_,by(simp only[go_sem];rfl)⟩
       .exact⟨_,by(simp only[go_sem];rfl)⟩
       obtain rfl:=p1.ret;cases hv:BH p (p.nodes.length+1) p.main p.free.length (BT.init p)with
       |none=>
        have hl:=HT (ρ:=41::k::ρ) (p1.no hv st0) (by constructor<;>first|exact Cq _ _ _ _ (by decide)|simp only[go_sem]);obtain⟨A,q2⟩:=hl.ks hN0;obtain⟨B,q3⟩:=hl.km hN0;obtain⟨C,q4⟩:=hl.kd hD0;have q1:=hl.box;rw[Dj,BJ hN0,BJ hN0,BJ hD0]at q1;have hno:AA (looks p=none):=⟨by
         unfold looks;rw[hv];split<;>rfl⟩
        replace hl:=AA.mk hl;replace p1:=AA.mk p1;refine aw ?_;clear q1 q2 q3 q4 hl p1 hbadL hr him him2 hi i;refine AX (List.replicate p.nodes.length ()) (S:=fun _ i (_:Unit)=>⟨[(3,.ptr (0::0::k::ρ) 0),(6,.d (.int .i64 i))],[(0::0::k::ρ,.box [.d (.be (p.free.map Av)),.d (.be (p.nodes.map Af)),.d (.be (p.defs.map Ax)),.d (.int .i64 p.main),.eq (1::1::k::ρ) 0 p.nodes.length,.eq (1::2::k::ρ) 0 p.nodes.length,.eq (1::3::k::ρ) 0 p.defs.length,.d (.bool true)]),(1::1::k::ρ,.d9 1 (A)),(1::2::k::ρ,.d9 1 (B)),(1::3::k::ρ,.d9 1 (C))],4,[]⟩)
         (Inv:=fun i rest b=>True) (b0:=()) (m:=p.nodes.length) (by simp) trivial ?_ ?_
        .rintro i y b hy hi him hr IH;refine aw ?_;exact IH.out () trivial
        .rintro i b hi him hr;refine aw ?_;refine AX (List.replicate p.defs.length ()) (S:=fun _ i (_:Unit)=>⟨[(3,.ptr (0::0::k::ρ) 0),(7,.d (.int .i64 i))],[(0::0::k::ρ,.box [.d (.be (p.free.map Av)),.d (.be (p.nodes.map Af)),.d (.be (p.defs.map Ax)),.d (.int .i64 p.main),.eq (1::1::k::ρ) 0 p.nodes.length,.eq (1::2::k::ρ) 0 p.nodes.length,.eq (1::3::k::ρ) 0 p.defs.length,.d (.bool true)]),(1::1::k::ρ,.d9 1 (A)),(1::2::k::ρ,.d9 1 (B)),(1::3::k::ρ,.d9 1 (C))],4,[]⟩)
          (Inv:=fun i rest b=>True) (b0:=()) (m:=p.defs.length) (by simp) trivial ?_ ?_
         .clear hr hi him i b;rintro i y b hy hi him hr IH;refine aw ?_;exact IH.out () trivial
         .clear hr hi him i b;rintro i b hi him hr;refine aw ?_;exact⟨fun _=>⟨_,_,_,_,_,_,_,_,_,rfl,by(simp only[go_sem];try rfl)⟩,fun st hs=>(by rw[hno.out]at hs;cases hs)⟩
       |some st=>
        have hl:=HT (ρ:=41::k::ρ) (p1.yes st hv) (by constructor<;>first|exact Cq _ _ _ _ (by decide)|simp only[go_sem]);have q1:=hl.box;have q2:=hl.ci rfl hN0;have q3:=hl.met rfl hN0;have q4:=hl.defs rfl hD0;rw[Dj,BJ hN0,BJ hN0,BJ hD0]at q1;replace hl:=AA.mk hl;replace p1:=AA.mk p1;refine aw ?_;have hg:=CZ p _ _ _ _ _ hv;have m1:st.met.length=p.nodes.length:=by rw[hg.met];simp[BT.init]
        have m2:st.defs.length=p.defs.length:=by rw[hg.defs];simp[BT.init]
        have hlk:=AA.mk (PO hs2.out hfree.out hv);clear q1 q2 q3 q4 hl p1 hbadL hr him him2 hi i;refine AX st.met (S:=fun _ i b=>⟨[(3,.ptr (0::0::k::ρ) 0),(6,.d (.int .i64 i))],[(0::0::k::ρ,.box [.d (.be (p.free.map Av)),.d (.be (p.nodes.map Af)),.d (.be (p.defs.map Ax)),.d (.int .i64 p.main),.eq (1::1::k::ρ) 0 p.nodes.length,.eq (1::2::k::ρ) 0 p.nodes.length,.eq (1::3::k::ρ) 0 p.defs.length,.d (.bool b)]),(1::1::k::ρ,.d9 1 (st.ci.map AJ)),(1::2::k::ρ,.d9 1 (st.met.map IX)),(1::3::k::ρ,.d9 1 (st.defs.map IX))],4,[]⟩)
         (Inv:=fun i rest b=>AA ((!b&&rest.all id)=st.met.all id)) (b0:=false) (m:=p.nodes.length) (by omega) ⟨rfl⟩ ?_ ?_
        .rintro i y b hy hi him hr IH;have hiN:=Int.ofNat_lt.1 him;cases b<;>cases y;all_goals (refine aw ?_)
         all_goals
          refine IH.out _ ⟨?_⟩;rw[←hr.out];simp
        .rintro i b hi him hr;rw[Qr,MD]at hr;refine aw ?_;refine AX st.defs (S:=fun _ i b=>⟨[(3,.ptr (0::0::k::ρ) 0),(7,.d (.int .i64 i))],[(0::0::k::ρ,.box [.d (.be (p.free.map Av)),.d (.be (p.nodes.map Af)),.d (.be (p.defs.map Ax)),.d (.int .i64 p.main),.eq (1::1::k::ρ) 0 p.nodes.length,.eq (1::2::k::ρ) 0 p.nodes.length,.eq (1::3::k::ρ) 0 p.defs.length,.d (.bool b)]),(1::1::k::ρ,.d9 1 (st.ci.map AJ)),(1::2::k::ρ,.d9 1 (st.met.map IX)),(1::3::k::ρ,.d9 1 (st.defs.map IX))],4,[]⟩)
          (Inv:=fun i rest b=>AA ((!b&&rest.all id)=(st.met.all id&&st.defs.all id))) (b0:=b) (m:=p.defs.length) (by omega) ⟨?_⟩ ?_ ?_
         .rw[hr.out]
         .clear hr hi him i b;rintro i y b hy hi him hr IH;have hiN:=Int.ofNat_lt.1 him;cases b<;>cases y;all_goals (refine aw ?_)
          all_goals
           refine IH.out _ ⟨?_⟩;rw[←hr.out];simp
         .clear hr hi him i b;rintro i b hi him hr;rw[Qr,MD]at hr;refine aw ?_;have hx:=hlk.out;cases b
          .have:st.met.all id=true∧st.defs.all id=true:=by have:=hr.out;simp only[Ol]at this;exact(AP _ _).mp this.symm
           rw[Il,Il]at this;rw[D0 this]at hx;refine⟨fun hn=>(by rw[hx]at hn;cases hn),fun st' hs=>?_⟩;rw[hx]at hs;cases hs;refine⟨_,_,1::k::ρ,2::k::ρ,3::k::ρ,rfl,⟨?_,fun _ _=>?_,fun _ _=>?_,fun _ _=>?_,fun _=>?_,fun _=>?_,fun _=>?_⟩⟩
           .simp only[Dj,wd,hN0,hD0,El,F2];simp only[go_sem]
           .simp only[go_sem]
           .simp only[go_sem]
           .simp only[go_sem]
           .exact⟨_,by(simp only[go_sem];try rfl)⟩
           .exact⟨_,by(simp only[go_sem];try rfl)⟩
           .exact⟨_,by(simp only[go_sem];try rfl)⟩
          .have: ¬((¬false∈st.met)∧(¬false∈st.defs)):=fun h=>by
            rw[←Il,←Il]at h;have:=hr.out;rw[h.1,h.2]at this;cases this
           rw[CI this]at hx;exact⟨fun _=>⟨_,_,_,_,_,_,_,_,_,rfl,by(simp only[go_sem];try rfl)⟩,fun st hs=>(by rw[hx]at hs;cases hs)⟩
    .by_cases hN0:p.nodes.length=0<;>by_cases hD0:p.defs.length=0;all_goals ((repeat' (first|simp only[go_sem, *]|(refine sx ?_ ?_<;>intro hc)|refine sy (by omega) fun x hx hm=>?_|simp(disch:=first|assumption|omega) only[AK,Eb,Gj])))
     all_goals exact⟨fun _=>⟨_,_,_,_,_,_,_,_,_,rfl,by(simp only[go_sem];try rfl)⟩,fun st hs=>(by rw[hbadL.out rfl]at hs;cases hs)⟩
 .have e:looks p=none:=by
   unfold looks;rw[CI fun h=>hs h.1]
  have hs: ¬(p.free.length≤12∧p.nodes.length≤60∧p.defs.length≤12):=by
   intro h;apply hs;simp only[AL.small,AP,Ap];exact h
  replace hs:=AA.mk hs
  (refine GJ rfl Tryz.func83 rfl rfl rfl ?_;show Wp _ _ _ _ (Tryz.f83.body.get rfl) _ _;simp only[Tryz.f83,AS])
  (repeat' (first|simp only[go_sem, *]|(refine sx ?_ ?_<;>intro hc)|refine sy (by omega) fun x hx hm=>?_|simp(disch:=first|assumption|omega) only[AK]))
  all_goals first
  |exact⟨fun _=>⟨_,_,_,_,_,_,_,_,_,rfl,by(simp only[go_sem];try rfl)⟩,fun st hs=>(by rw[e]at hs;cases hs)⟩
  |(have hs:=hs.out;exfalso;omega)
def W8(p:AL):Int:=match looks p with|some _=>0|none=>2
theorem kC(p:AL):BB (KL Tryz.prog cfg) 44 [.agg [.d (.be (p.free.map Av)),.d (.be (p.nodes.map Af)),.d (.be (p.defs.map Ax)),.d (.int .i64 p.main)]] []=.ok (.ret (.d (.int .i64 (W8 p))),[]):=by
 (refine Ae rfl Tryz.func44 rfl rfl rfl ?_;show Wp _ _ _ _ (Tryz.f44.body.get rfl) _ _;simp only[Tryz.f44,AS])
 obtain⟨r,e,hp⟩:=s6 p 3 [];cases hl:looks p with
 |none=>
  obtain⟨h,l,x0,x1,x2,x3,x4,x5,x6,rfl,hg⟩:=hp.no hl;replace hp:=AA.mk hp;have he:W8 p=2:=by rw[W8,hl]
  rw[he]
  (repeat' (first|simp only[go_sem, *,PA]|(refine sx ?_ ?_<;>intro hc)|refine sy (by omega) fun x hx hm=>?_|simp(disch:=first|assumption|omega) only[AK]))
 |some st=>
  obtain⟨h,l,sz,ow,us,rfl,hg⟩:=hp.yes st hl;have q1:=hg.box;rw[Dj]at q1;replace hp:=AA.mk hp;have he:W8 p=0:=by rw[W8,hl]
  rw[he]
  (repeat' (first|simp only[go_sem, *,PA]|(refine sx ?_ ?_<;>intro hc)|refine sy (by omega) fun x hx hm=>?_|simp(disch:=first|assumption|omega) only[AK]))
theorem R3{p:AL}{st:BT}(hl:looks p=some st):BB (KL Tryz.prog cfg) 68 [.agg [.d (.be (p.free.map Av)),.d (.be (p.nodes.map Af)),.d (.be (p.defs.map Ax)),.d (.int .i64 p.main)]] []=.ok (.ret (.d (.be (st.ci.map AJ))),[]):=by
 (refine Ae rfl Tryz.func68 rfl rfl rfl ?_;show Wp _ _ _ _ (Tryz.f68.body.get rfl) _ _;simp only[Tryz.f68,AS])
 obtain⟨r,e,hp⟩:=s6 p 3 [];obtain⟨h,l,sz,ow,us,rfl,hg⟩:=hp.yes st hl;have hF:=CF hl;have hN:p.nodes.length≠0:=by
  have:=AI hF.main.2;rw[hF.len]at this;omega
 have q1:=hg.box;have q2:=hg.ci rfl hN;rw[Dj,BJ hN]at q1;have tk1:List.take p.nodes.length (List.map AJ st.ci)=List.map AJ st.ci:=CS (by simp[hF.len]);have hF2:=hF.len;replace hp:=AA.mk hp;replace hg:=AA.mk hg;clear hF
 (repeat' (first|simp only[go_sem, *,EX,PA]|(refine sx ?_ ?_<;>intro hc)|refine sy (by omega) fun x hx hm=>?_|simp(disch:=first|assumption|omega) only[AK]))
end Go.Proofs
namespace Go.Proofs
open Go Go.Abs
def BL(l:List BS)(i:Int):Int:=((l[i.toNat]?).map BS.rc).getD 0
def EF(l:List BS)(i:Int):Prop:=0≤i∧i<l.length
instance(l:List BS)(i:Int):Decidable (EF l i):=by unfold EF;infer_instance
def A9(l:List BS):Nat→Int→Bool
 |0,at_=>decide (at_=0)
 |k+1,at_=>decide (at_=0)||(decide (EF l (BL l at_))&&A9 l k (BL l at_))
theorem FM(l:List BS)(k:Nat):A9 l k 0=true:=by cases k<;>simp[A9]
theorem Ns(l:List BS): ∀(k:Nat) (i:Int),A9 l k i=true→A9 l (k+1) i=true
 |0,i,h=>by simp[A9]at h;subst h;exact FM _ _
 |k+1,i,h=>by
  rw[A9]at h⊢;by_cases h0:i=0
  .simp[h0]
  .simp only[h0,decide_false,Ip,AP]at h⊢;exact⟨h.1,Ns l k _ h.2⟩
variable{l:List BS}{k:Nat}
theorem KZ{i:Int}{m:Nat}(h:k≤m)(hc:A9 l k i=true):A9 l m i=true:=by
 induction h with
 |refl=>exact hc
 |step _ ih=>exact Ns l _ i ih
theorem yG: ∀(n:Nat) (l:List Nat),l.Nodup→(∀x∈l,x<n)→l.length≤n
 |0,l,_,h=>by
  cases l with
  |nil=>simp
  |cons a l=>exact absurd (h a (by simp)) (by omega)
 |n+1,l,hn,h=>by
  have h1:=yG n (l.erase n) (hn.erase n) (fun x hx=>by
   have hx2:=(List.Nodup.mem_erase_iff hn).1 hx;have:=h x hx2.2;omega)
  by_cases hm:n∈l
  .rw[List.length_erase_of_mem hm]at h1;omega
  .rw[List.erase_of_not_mem hm]at h1;omega
theorem SQ(l:List BS)(hl:0<l.length): ∀(k:Nat) (i:Int),EF l i→A9 l k i=true→(∀j,j<k→A9 l j i=false)→ ∃p:List Nat,p.length=k+1∧p.Nodup∧(∀x∈p,x<l.length)∧ ∀x∈p,∃j,j≤k∧A9 l j x=true∧ ∀m,m<j→A9 l m x=false
 |0,i,hi,hc,hm=>⟨[0],rfl,by simp,by simp[hl],by
  intro x hx;cases As.1 hx;exact⟨0,EX _,FM _ _,fun m hm=>by omega⟩⟩
 |k+1,i,hi,hc,hm=>by
  have h0: ¬i=0:=fun h=>by
   have:=hm 0 (by omega);rw[h,FM]at this;cases this
  have hc2:=hc;rw[A9]at hc2;simp only[h0,decide_false,Ip,AP,Ap]at hc2;obtain⟨p,hp1,hp2,hp3,hp4⟩:=SQ l hl k (BL l i) hc2.1 hc2.2 (fun j hj=>by
   have:=hm (j+1) (by omega);rw[A9]at this;simp only[h0,decide_false,Ip,RC,Rc]at this;rcases this with h|h
   .exact absurd hc2.1 h
   .exact h)
  refine⟨i.toNat::p,by simp[hp1],?_,?_,?_⟩
  .refine List.nodup_cons.2 ⟨fun hmem=>?_,hp2⟩;obtain⟨j,hj1,hj2,_⟩:=hp4 _ hmem;have hcast:((i.toNat:Nat):Int)=i:=PM hi.1;rw[hcast]at hj2;have:=hm j (by omega);rw[hj2]at this;cases this
  .intro x hx;rcases Co.1 hx with rfl|hx
   .have:=hi.1;have:=hi.2;omega
   .exact hp3 x hx
  .intro x hx;rcases Co.1 hx with rfl|hx
   .have hcast:((i.toNat:Nat):Int)=i:=PM hi.1;rw[hcast];exact⟨k+1,EX _,hc,hm⟩
   .obtain⟨j,hj1,hj2⟩:=hp4 x hx;exact⟨j,by omega,hj2⟩
theorem U5{i:Int}: ∀{k:Nat},A9 l k i=true→ ∃m,m≤k∧A9 l m i=true∧ ∀j,j<m→A9 l j i=false
 |0,h=>⟨0,EX _,h,fun j hj=>by omega⟩
 |k+1,h=>by
  cases hk:A9 l k i with
  |true=>
   obtain⟨m,h1,h2,h3⟩:=U5 hk;exact⟨m,by omega,h2,h3⟩
  |false=>
   refine⟨k+1,EX _,h,fun j hj=>?_⟩;cases hj2:A9 l j i with
   |false=>rfl
   |true=>
    have:=KZ (show j≤k by omega) hj2;rw[hk]at this;cases this
theorem L4{i:Int}(hi:EF l i)(h:A9 l k i=true):A9 l (l.length-1) i=true:=by
 have hl:0<l.length:=by have:=hi.1;have:=hi.2;omega
 obtain⟨m,_,h2,h3⟩:=U5 h;obtain⟨p,hp1,hp2,hp3,_⟩:=SQ l hl m i hi h2 h3;have:=yG l.length p hp2 hp3;exact KZ (by omega) h2
theorem cp{i:Int}(hi:EF l i):A9 l (l.length+1) i=A9 l l.length i:=by
 cases h:A9 l l.length i with
 |true=>exact Ns _ _ _ h
 |false=>
  cases h2:A9 l (l.length+1) i with
  |false=>rfl
  |true=>
   have:=KZ (show l.length-1≤l.length by omega) (L4 hi h2);rw[h]at this;cases this
def Ev(l:List BS):Nat→Nat→Bool
 |_,0=>true
 |i,n+1=>A9 l l.length i&&Ev l (i+1) n
def Gn(l:List BS):Bool:=decide (0<l.length)&&(decide (BL l 0= -1)&&Ev l 0 l.length)
theorem K7(l:List BS): ∀(n i:Nat),Ev l i n=true↔ ∀j,i≤j→j<i+n→A9 l l.length j=true
 |0,i=>by simp[Ev];intro j h1 h2;omega
 |n+1,i=>by
  rw[Ev,AP,K7 l n (i+1)];constructor
  .rintro⟨h1,h2⟩ j h3 h4;by_cases h5:j=i
   .subst h5;exact h1
   .exact h2 j (by omega) (by omega)
  .intro h;exact⟨h i (by omega) (by omega),fun j h1 h2=>h j (by omega) (by omega)⟩
def Ql(l:List BS):Nat→Int→List Int
 |0,b=>[b]
 |k+1,b=>if b=0 then [0]else b::Ql l k (BL l b)
theorem R9(l:List BS): ∀(k m:Nat) (b:Int),A9 l k b=true→k≤m→Ql l m b=Ql l k b
 |0,m,b,h,hm=>by
  simp[A9]at h;subst h;cases m<;>simp[Ql]
 |k+1,m,b,h,hm=>by
  obtain⟨m,rfl⟩: ∃j,m=j+1:=⟨m-1,by omega⟩;rw[Ql,Ql];split
  .rfl
  .rename_i h0;rw[A9]at h;simp only[h0,decide_false,Ip,AP]at h;rw[R9 l k m _ h.2 (by omega)]
def Cg(l:List BS)(b a:Int):Bool:=decide (a∈Ql l l.length b)
structure GV(l:List BS):Prop where
 pos:0<l.length
 top:BL l 0= -1
 qr: ∀i,EF l i→A9 l l.length i=true
theorem Ps(h:Gn l=true):GV l:=by
 simp only[Gn,AP,Ap]at h;refine⟨h.1,h.2.1,fun i hi=>?_⟩;have:=(K7 l l.length 0).1 h.2.2 i.toNat (by omega) (by have:=hi.1;have:=hi.2;omega)
 rwa [PM hi.1]at this
theorem zA(h:GV l):Gn l=true:=by
 simp only[Gn,AP,Ap];refine⟨h.pos,h.top,(K7 l l.length 0).2 fun j h1 h2=>h.qr j ⟨by omega,by omega⟩⟩
end Go.Proofs
namespace Go.Proofs
open Go Go.Abs
def CV.inB(p:AL)(nc ns:Nat)(v:CV):Bool:=
 if v.kind=1 then decide (-1000000000≤v.n)&&decide (v.n≤1000000000)else if v.kind=2 then decide (0≤v.n)&&decide (v.n<p.free.length)
 else if v.kind=3 then decide (0≤v.n)&&decide (v.n<nc)else if v.kind=4 then decide (0≤v.n)&&decide (v.n<ns)else false
variable{l:List BS}{k:Nat}{b:Int}
theorem jJ(h: ¬b=0)(hc:A9 l (k+1) b=true):Ql l (k+1) b=b::Ql l k (BL l b):=by
 rw[Ql,CI h]
theorem FL(h: ¬b=0)(hc:A9 l (k+1) b=true):EF l (BL l b)∧A9 l k (BL l b)=true:=by
 rw[A9]at hc;simp only[h,decide_false,Ip,AP,Ap]at hc;exact hc
end Go.Proofs
namespace Go.Proofs
open Go Go.Abs
theorem YF(l:List BS)(k:Nat)(c:Int):c∈Ql l k c:=by
 cases k with
 |zero=>simp[Ql]
 |succ k=>
  rw[Ql];split
  .rename_i h;simp[h]
  .simp
theorem YG(l:List BS)(k:Nat):Ql l k 0=[0]:=by cases k<;>simp[Ql]
end Go.Proofs
namespace Go.Proofs
open Go Go.Abs
set_option maxRecDepth 100000
set_option maxHeartbeats 4000000
theorem ADG(t:Bool):CC (CL 2) t=.ok (IV (CL 2) t):=Tq _ _
theorem KA{l:List BS}{i:Int}{s:BS}(h:l[i.toNat]? =some s):BL l i=s.rc:=by simp[BL,h]
theorem AC7(l:List BS)(hl:l.length≤1000):BB (KL Tryz.prog cfg) 61 [.d (.be (l.map Ab))] []=CC (CL 2) (Gn l):=by
 rw[ADG]
 (refine Ae rfl Tryz.func61 rfl rfl rfl ?_;show Wp _ _ _ _ (Tryz.f61.body.get rfl) _ _;simp only[Tryz.f61,AS])
 by_cases h0:(0:Int)<l.length
 .obtain⟨s0,hs0⟩:=get_some (l:=l) (i:=0) (by omega);have hp0:BL l 0=s0.rc:=KA hs0
  (repeat' (first|simp only[go_sem, *]|(refine sx ?_ ?_<;>intro hc)|refine sy (by omega) fun x hx hm=>?_|simp(disch:=first|assumption|omega) only[AK]))
  .refine AX l _ (S:=fun m i (_:Unit)=>⟨[(0,.d (.be (l.map Ab))),(17,.d (.int .i64 m)),(18,.d (.int .i64 i))],[],0,[]⟩)
    (Inv:=fun i rest _=>AA (Gn l=Ev l i rest.length)) (b0:=()) rfl ⟨?_⟩ ?_ ?_
   .simp only[Gn];rw[Ci (show 0<l.length by omega),Ci (show BL l 0= -1 by rw[hp0];assumption)];rfl
   .rintro i y _ hy hi him hr IH;rw[List.length_cons,Ev]at hr;refine aw ?_;have hr0:=hr;refine rounds (S:=fun a:Int×Nat=>⟨[(0,.d (.be (l.map Ab))),(3,.d (.int .i64 (a.1))),(4,.d (.int .i64 (a.2))),(17,.d (.int .i64 (l.length))),(18,.d (.int .i64 (i)))],[],0,[]⟩)
     (Inv:=fun a=>EF l a.1∧a.2≤l.length∧AA (A9 l l.length i=A9 l (l.length-a.2) a.1)) (m:=fun a=>l.length+1-a.2) (a:=(i,0)) ⟨⟨by omega,by omega⟩,by omega,⟨rfl⟩⟩ ?_
    rintro⟨at_,n⟩ ⟨⟨hr1,hr2⟩,hn,hcl⟩ IH2;dsimp only at*;have hlt:at_.toNat<l.length:=by omega
    obtain⟨s,hs⟩:=get_some hlt;have hps:=AA.mk (KA hs)
    (repeat' (first|simp only[go_sem, *]|(refine sx ?_ ?_<;>intro hc)|refine sy (by omega) fun x hx hm=>?_|simp(disch:=first|assumption|omega) only[AK]))
    .refine IH.out () ⟨?_⟩;rw[hr.out,hcl.out,show at_=0 by assumption,FM,EM]
    .refine IH2.out (s.rc,n+1) (by dsimp only;omega) ⟨⟨by assumption,by assumption⟩,by dsimp only;omega,⟨?_⟩⟩;dsimp only;rw[hcl.out];obtain⟨j,hj⟩: ∃j,l.length-n=j+1:=⟨l.length-n-1,by omega⟩;rw[hj,show l.length-(n+1)=j by omega,A9,hps.out];simp only[By (show¬at_=0 by assumption),Ip];rw[Ci (show EF l s.rc from⟨by assumption,by assumption⟩),EM]
    all_goals
     have hf:Gn l=false:=by
      rw[hr0.out,hcl.out];rcases Nat.eq_zero_or_pos (l.length-n)with hz|hz
      .rw[hz,A9];simp only[By (show¬at_=0 by assumption),CO]
      .obtain⟨j,hj⟩: ∃j,l.length-n=j+1:=⟨l.length-n-1,by omega⟩;rw[hj,A9,hps.out];simp only[By (show¬at_=0 by assumption),Ip];rw[By (show¬EF l s.rc from fun h=>by have:=h.1;have:=h.2;omega),CO,CO]
     rw[hf];rfl
   .rintro i _ hi him hr;refine aw ?_;rw[hr.out];rfl
  .have:Gn l=false:=by
    simp only[Gn,hp0,By (show¬s0.rc= -1 by assumption),CO,GS]
   rw[this];rfl
 .have:Gn l=false:=by simp[Gn];omega
  rw[this];refine aw ?_;rfl
theorem zB(l:List BS)(x y z:Aa)(hl:l.length≤1000):BB (KL Tryz.prog cfg) 64 [.agg [.d (.be (l.map Ab)),.d x,.d y,.d z]] []=.ok (.ret (.d (.bool (Gn l))),[]):=by
 have hb:Gn l=(decide (0<l.length)&&(decide (BL l 0= -1)&&Ev l 0 l.length)):=rfl;replace hb:=AA.mk hb
 (refine Ae rfl Tryz.func64 rfl rfl rfl ?_;show Wp _ _ _ _ (Tryz.f64.body.get rfl) _ _;simp only[Tryz.f64,AS])
 refine aw ?_;refine Ah l (S:=fun i (_:Unit)=>⟨[(1,.ptr [0,0] 0),(3,.d (.int .i64 (i)))],[([0,0],.box [.d (.be (l.map Ab)),.d x,.d y,.d z])],1,[]⟩)
  (Inv:=fun i rest _=>AA (Ev l 0 l.length=Ev l i rest.length)) (b0:=()) ⟨rfl⟩ ?_ ?_
 .rintro i yy _ hy hi him hr IH;rw[List.length_cons,Ev]at hr;refine aw ?_;refine rounds (S:=fun a:Int×Nat=>⟨[(1,.ptr [0,0] 0),(3,.d (.int .i64 (i))),(4,.d (.int .i64 (a.1))),(5,.d (.int .i64 (a.2)))],[([0,0],.box [.d (.be (l.map Ab)),.d x,.d y,.d z])],1,[]⟩)
   (Inv:=fun a=>EF l a.1∧a.2≤l.length+1∧AA (A9 l (l.length+1) i=A9 l (l.length+1-a.2) a.1)) (m:=fun a=>l.length+1-a.2) (a:=(i,0)) ⟨⟨by omega,by omega⟩,by omega,⟨rfl⟩⟩ ?_
  rintro⟨at_,n⟩ ⟨⟨hr1,hr2⟩,hn,hcl⟩ IH2;dsimp only at*;have hlt:at_.toNat<l.length:=by omega
  obtain⟨s,hs⟩:=get_some hlt;have hps:=AA.mk (KA hs);have hmo:=AA.mk (cp (l:=l) (i:=i) ⟨by omega,by omega⟩);have hok:AA (at_=0→A9 l l.length i=true):=⟨fun h=>by rw[←hmo.out,hcl.out,h,FM]⟩;have hno:AA (A9 l l.length i=false→Gn l=false):=⟨fun h=>by rw[hb.out,hr.out,h,CO,GS,GS]⟩
  (repeat' (first|simp only[go_sem, *]|(refine sx ?_ ?_<;>intro hc)|refine sy (by omega) fun x hx hm=>?_|simp(disch:=first|assumption|omega) only[AK]))
  all_goals first
  |(refine IH.out () ⟨?_⟩
    rw[hr.out,hok.out (by assumption),EM])
  |(refine IH2.out (s.rc,n+1) (by dsimp only;omega) ⟨⟨by dsimp only;omega,by dsimp only;omega⟩,by dsimp only;omega,⟨?_⟩⟩
    dsimp only;rw[hcl.out];obtain⟨j,hj⟩: ∃j,l.length+1-n=j+1:=⟨l.length+1-n-1,by omega⟩;rw[hj,show l.length+1-(n+1)=j by omega,A9,hps.out];simp only[By (show¬at_=0 by assumption),Ip];rw[Ci (show EF l s.rc from⟨by omega,by omega⟩),EM])
  |(rw[hno.out]
    rw[←hmo.out,hcl.out];rcases Nat.eq_zero_or_pos (l.length+1-n)with hz|hz
    .rw[hz,A9];simp only[By (show¬at_=0 by assumption)]
    .obtain⟨j,hj⟩: ∃j,l.length+1-n=j+1:=⟨l.length+1-n-1,by omega⟩;rw[hj,A9,hps.out];simp only[By (show¬at_=0 by assumption),Ip];rw[By (show¬EF l s.rc from fun h=>by have:=h.1;have:=h.2;omega),CO])
 .rintro i _ hi him hr;have hb1:AA (Ev l 0 l.length=true):=⟨by rw[hr.out];rfl⟩;by_cases h0:(0:Int)<l.length
  .obtain⟨s0,hs0⟩:=get_some (l:=l) (i:=0) (by omega);have hp0:=AA.mk (show BL l 0=s0.rc from KA hs0);refine aw ?_;rw[hb.out,hb1.out,hp0.out,Ci (show 0<l.length by omega),EM,MD]
  .refine aw ?_;rw[hb.out,By (show¬0<l.length by omega),CO]
theorem WK(l:List BS)(b a:Int)(hl:l.length≤1000)(ht:GV l)(hb:EF l b)(ha:0≤a):BB (KL Tryz.prog cfg) 63 [.d (.be (l.map Ab)),.d (.int .i64 (b)),.d (.int .i64 (a))] []=.ok (.ret (.d (.bool (Cg l b a))),[]):=by
 (refine Ae rfl Tryz.func63 rfl rfl rfl ?_;show Wp _ _ _ _ (Tryz.f63.body.get rfl) _ _;simp only[Tryz.f63,AS])
 refine aw ?_;refine rounds (S:=fun c:Int×Nat=>⟨[(0,.d (.be (l.map Ab))),(1,.d (.int .i64 (c.1))),(2,.d (.int .i64 (a)))],[],0,[]⟩)
  (Inv:=fun c=>(EF l c.1∧A9 l c.2 c.1=true∧AA (Cg l b a=decide (a∈Ql l c.2 c.1)))∨(c.1= -1∧c.2=0∧AA (Cg l b a=false))) (m:=fun c=>if c.1= -1 then 0 else c.2+1) (a:=(b,l.length)) (.inl ⟨hb,ht.qr b hb,⟨rfl⟩⟩) ?_
 rintro⟨c,k⟩ hI IH;dsimp only at*;rcases hI with⟨⟨h1,h2⟩,hcl,hin⟩|⟨rfl,rfl,hin⟩
 .have hlt:c.toNat<l.length:=by omega
  obtain⟨s,hs⟩:=get_some hlt;have hps:=AA.mk (KA hs)
  (repeat' (first|simp only[go_sem, *]|(refine sx ?_ ?_<;>intro hc)|refine sy (by omega) fun x hx hm=>?_|simp(disch:=first|assumption|omega) only[AK]))
  .rw[hin.out,Ci (by rw[←show c=a by assumption];exact YF _ _ _)]
  .by_cases hc0:c=0
   .subst hc0;have hp1:s.rc= -1:=by rw[←hps.out];exact ht.top
    rw[hp1];refine IH.out (-1,0) (by dsimp only;rw[D0 rfl,CI (by decide)];omega) (.inr ⟨rfl,rfl,⟨?_⟩⟩);rw[hin.out,YG,By];simp only[As];omega
   .rcases k with _|k
    .simp[A9,hc0]at hcl
    .have h3:=FL hc0 hcl;rw[hps.out]at h3;have:=h3.1.1;refine IH.out (s.rc,k) (by dsimp only;rw[CI (by omega),CI (by omega)];omega) (.inl ⟨h3.1,h3.2,⟨?_⟩⟩);rw[hin.out,jJ hc0 hcl,hps.out];have hne: ¬a=c:=fun e=>by omega
     simp only[Co,hne,false_or]
 ·(repeat' (first|simp only[go_sem, *]|(refine sx ?_ ?_<;>intro hc)|refine sy (by omega) fun x hx hm=>?_|simp(disch:=first|assumption|omega) only[AK]))
  .omega
  .rw[hin.out]
theorem nR(l:List BS)(x y z:Aa)(b a:Int)(hl:l.length≤1000)(ht:GV l)(hb:EF l b)(ha:0≤a):BB (KL Tryz.prog cfg) 38 [.agg [.d (.be (l.map Ab)),.d x,.d y,.d z],.d (.int .i64 (b)),.d (.int .i64 (a))] []=.ok (.ret (.d (.bool (Cg l b a))),[]):=by
 (refine Ae rfl Tryz.func38 rfl rfl rfl ?_;show Wp _ _ _ _ (Tryz.f38.body.get rfl) _ _;simp only[Tryz.f38,AS])
 refine aw ?_;refine rounds (S:=fun c:Int×Nat=>⟨[(1,.d (.int .i64 (c.1))),(2,.d (.int .i64 (a))),(3,.ptr [0,0] 0)],[([0,0],.box [.d (.be (l.map Ab)),.d x,.d y,.d z])],1,[]⟩)
  (Inv:=fun c=>(EF l c.1∧A9 l c.2 c.1=true∧AA (Cg l b a=decide (a∈Ql l c.2 c.1)))∨(c.1= -1∧c.2=0∧AA (Cg l b a=false))) (m:=fun c=>if c.1= -1 then 0 else c.2+1) (a:=(b,l.length)) (.inl ⟨hb,ht.qr b hb,⟨rfl⟩⟩) ?_
 rintro⟨c,k⟩ hI IH;dsimp only at*;rcases hI with⟨⟨h1,h2⟩,hcl,hin⟩|⟨rfl,rfl,hin⟩
 .have hlt:c.toNat<l.length:=by omega
  obtain⟨s,hs⟩:=get_some hlt;have hps:=AA.mk (KA hs)
  (repeat' (first|simp only[go_sem, *]|(refine sx ?_ ?_<;>intro hc)|refine sy (by omega) fun x hx hm=>?_|simp(disch:=first|assumption|omega) only[AK]))
  .rw[hin.out,Ci (by rw[←show c=a by assumption];exact YF _ _ _)]
  .by_cases hc0:c=0
   .subst hc0;have hp1:s.rc= -1:=by rw[←hps.out];exact ht.top
    rw[hp1];refine IH.out (-1,0) (by dsimp only;rw[D0 rfl,CI (by decide)];omega) (.inr ⟨rfl,rfl,⟨?_⟩⟩);rw[hin.out,YG,By];simp only[As];omega
   .rcases k with _|k
    .simp[A9,hc0]at hcl
    .have h3:=FL hc0 hcl;rw[hps.out]at h3;have:=h3.1.1;refine IH.out (s.rc,k) (by dsimp only;rw[CI (by omega),CI (by omega)];omega) (.inl ⟨h3.1,h3.2,⟨?_⟩⟩);rw[hin.out,jJ hc0 hcl,hps.out];have hne: ¬a=c:=fun e=>by omega
     simp only[Co,hne,false_or]
 ·(repeat' (first|simp only[go_sem, *]|(refine sx ?_ ?_<;>intro hc)|refine sy (by omega) fun x hx hm=>?_|simp(disch:=first|assumption|omega) only[AK]))
  .omega
  .rw[hin.out]
theorem iw(p:AL)(sp ch:List (List Aa))(g w:Aa)(v:CV)(h1:sp.length≤1000000)(h2:ch.length≤1000000)(h3:p.free.length≤1000000):BB (KL Tryz.prog cfg) 117 [.agg [.d (.be (p.free.map Av)),.d (.be (p.nodes.map Af)),.d (.be (p.defs.map Ax)),.d (.int .i64 (p.main))],.agg [.d (.be sp),.d g,.d (.be ch),.d w],.agg [.d (.int .i64 (v.kind)),.d (.int .i64 (v.n))]] []=.ok (.ret (.d (.bool (v.inB p ch.length sp.length))),[]):=by
 (refine Ae rfl Tryz.func117 rfl rfl rfl ?_;show Wp _ _ _ _ (Tryz.f117.body.get rfl) _ _;simp only[Tryz.f117,AS])
 (repeat' (first|simp only[go_sem, *]|(refine sx ?_ ?_<;>intro hc)|refine sy (by omega) fun x hx hm=>?_|simp(disch:=first|assumption|omega) only[AK]))
 all_goals simp[CV.inB, *]
theorem Mq(p:AL)(sp ch:List (List Aa))(g w:Aa)(l:List CV)(h1:sp.length≤1000000)(h2:ch.length≤1000000)(h3:p.free.length≤1000000)(hl:l.length≤1000000):BB (KL Tryz.prog cfg) 70 [.agg [.d (.be (p.free.map Av)),.d (.be (p.nodes.map Af)),.d (.be (p.defs.map Ax)),.d (.int .i64 (p.main))],.agg [.d (.be sp),.d g,.d (.be ch),.d w],.d (.be (l.map AN))] []=.ok (.ret (.d (.bool (l.all (CV.inB p ch.length sp.length)))),[]):=by
 (refine Ae rfl Tryz.func70 rfl rfl rfl ?_;show Wp _ _ _ _ (Tryz.f70.body.get rfl) _ _;simp only[Tryz.f70,AS])
 refine aw ?_;refine Ah l (S:=fun i (_:Unit)=>⟨[(2,.d (.be (l.map AN))),(3,.ptr [0,0] 0),(4,.ptr [0,1] 0),(7,.d (.int .i64 (i)))],[([0,0],.box [.d (.be (p.free.map Av)),.d (.be (p.nodes.map Af)),.d (.be (p.defs.map Ax)),.d (.int .i64 (p.main))]),([0,1],.box [.d (.be sp),.d g,.d (.be ch),.d w])],2,[]⟩)
  (Inv:=fun i rest _=>AA (l.all (CV.inB p ch.length sp.length)=rest.all (CV.inB p ch.length sp.length))) (b0:=()) ⟨rfl⟩ ?_ ?_
 .rintro i y _ hy hi him hr IH;have hv:=iw p sp ch g w y h1 h2 h3
  (repeat' (first|simp only[go_sem, *]|(refine sx ?_ ?_<;>intro hc)|refine sy (by omega) fun x hx hm=>?_|simp(disch:=first|assumption|omega) only[AK]))
  all_goals first
  |(refine IH.out () ⟨?_⟩;rw[hr.out,D4];simp only[*,EM];done)
  |(rw[hr.out,D4];simp only[*,CO];done)
 .rintro i _ hi him hr;refine aw ?_;rw[hr.out];rfl
end Go.Proofs
namespace Go.Proofs
open Go Go.Abs
def PF(ci:List Int)(x:C0):Int:=((x.kids[0]?).map fun k=>(ci[k.toNat]?).getD 0).getD 0
def Ew(ci:List Int):List Int→List C0→List Int
 |out,[]=>out
 |out,x::l=>Ew ci (if x.op=4 then out.set x.n.toNat (PF ci x)else out) l
def Bb(p:AL)(ci:List Int):List Int:=Ew ci (List.replicate p.defs.length 0) p.nodes
theorem Ir(ci:List Int): ∀(l:List C0) (out:List Int),(Ew ci out l).length=out.length
 |[],out=>rfl
 |x::l,out=>by
  rw[Ew,Ir ci l];split<;>simp
theorem PB(ci:List Int)(n:Nat)(v:Int): ∀(l:List C0) (out:List Int),n<out.length→(∀x∈l,x.op=4→x.n.toNat=n→PF ci x=v)→(out[n]? =some v∨ ∃x∈l,x.op=4∧x.n.toNat=n)→(Ew ci out l)[n]? =some v
 |[],out,hn,h1,h2=>by
  rcases h2 with h|⟨x,hx,_⟩
  .exact h
  .cases hx
 |x::l,out,hn,h1,h2=>by
  rw[Ew];refine PB ci n v l _ (by split<;>simpa using hn) (fun y hy=>h1 y (Em _ hy)) ?_;by_cases hx:x.op=4∧x.n.toNat=n
  .left;rw[D0 hx.1,He,D0 hx.2,hx.2,D0 hn,h1 x (by simp) hx.1 hx.2]
  .rcases h2 with h|⟨y,hy,hyo⟩
   .left;split
    .rename_i ho;rw[He,CI fun e=>hx ⟨ho,e⟩];exact h
    .exact h
   .rcases Co.1 hy with rfl|hy
    .exact absurd hyo hx
    .exact .inr ⟨y,hy,hyo⟩
structure za(p:AL)(ci:List Int)(n:Nat)(d:Bs):Prop where
 ok:Od d
 node: ∃(i:Nat) (x:C0) (s:Int),p.nodes[i]? =some x∧x.op=4∧x.n.toNat=n∧ci[i]? =some s∧0≤s∧s≤5000∧(Bb p ci)[n]? =some (s+d.own)∧(∀r∈d.rules,0≤r.node∧ci[r.node.toNat]? =some (s+d.own+CR d r.d7))∧(∀y∈d.ac,0≤y.node∧ci[y.node.toNat]? =some (s+d.own))∧ ∃k,x.kids=[k]∧0≤k∧ci[k.toNat]? =some (s+d.own)
theorem B3{p:AL}{ci:List Int}(h:BK p ci){n:Nat}{d:Bs}(hd:p.defs[n]? =some d):za p ci n d:=by
 have hn:=(BE.1 hd).1;obtain⟨i,x,hx,hxo,hxn⟩:=h.used n hn;obtain⟨s,l,hs,h0,hb,hok,hl,hq⟩:=h.node i x hx;have hl2:=hl;rw[Ia,D0 hxo,hxn,hd]at hl2;dsimp only at hl2;split at hl2
 .rename_i hg;cases hl2;have hkids: ∃k,x.kids=[k]:=by
   simp only[Cy,AP,Ap]at hok;have:=hok.1;rw[hxo]at this;simp only[DX]at this;have:x.kids.length=1:=by simpa using this.symm
   match hk:x.kids,this with
   |[k],_=>exact⟨k,rfl⟩
  obtain⟨k,hk⟩:=hkids;have hkq:0≤k∧ci[k.toNat]? =some (s+d.own):=hq (k,s+d.own) (by simp[CM,hk]);refine⟨TG hg,i,x,s,hx,hxo,hxn,hs,h0,hb,?_,fun r hr=>?_,fun y hy=>?_,k,hk,hkq⟩
  .refine PB ci n _ p.nodes _ (by simpa using hn) (fun y hy hyo hyn=>?_) (.inr ⟨x,Ac hx,hxo,hxn⟩);obtain⟨j,hj⟩:=Hm hy;by_cases hij:i=j
   .subst hij;rw[hx]at hj;cases hj;simp[PF,hk,hkq.2]
   .exact absurd (hxn.trans hyn.symm) (h.diff i j x y hij hx hxo hj hyo)
  .exact hq (r.node,s+d.own+CR d r.d7) (by simp only[Cp,ES,FN];exact .inl ⟨r,hr,rfl⟩)
  .exact hq (y.node,s+d.own) (by simp only[CQ,ES,FN];exact .inr (.inl ⟨y,hy,rfl⟩))
 .cases hl2
def Al.own(d:Bs)(g:Al)(ch:Bool)(n:Int):Int:=((g.env[g.env.length-d.ac.length-(if ch then d.am.length else 0)+n.toNat]?).map CV.n).getD 0
def Al.place(d:Bs)(g:Al)(n:Int):Int:=if n=0 then g.at_ else g.own d false (n-1)
def AY(l:List BS)(i:Int):Bool:=((l[i.toNat]?).map BS.dead).getD false
def FA(p:AL)(nc ns:Nat)(many:Int)(m:List CV):Bool:=decide ((m.length:Int)=many)&&m.all (CV.inB p nc ns)
def Nf(p:AL)(s:BF)(d:Bs)(g:Al)(i j:Nat)(q:Fo)(ch:Hy):Bool:=
 decide (q.group=i)&&(decide (q.index=j)&&(decide (q.at_=g.place d ch.at_)&&(decide (q.queue.length≤12)&&((decide (q.queue.length=0)|| !AY s.ac q.at_)&&q.queue.all (FA p s.am.length s.ac.length ch.many)))))
def KY(p:AL)(s:BF)(d:Bs)(g:Al)(i j a:Nat)(ch:Hy):Bool:=match s.am[a]? with|some q=>Nf p s d g i j q ch|none=>false
def EI(p:AL)(s:BF)(d:Bs)(g:Al)(i c:Nat):Nat→List Hy→Bool
 |_,[]=>true
 |j,ch::l=>KY p s d g i j (c+j) ch&&EI p s d g i c (j+1) l
def En(c k:Nat)(d:Bs):List CV:=(List.range' c d.am.length).map (fun(j:Nat)=>⟨3,(j:Int)⟩)++(List.range' k d.ac.length).map (fun(j:Nat)=>⟨4,(j:Int)⟩)
def DG(d:Bs)(c k:Nat)(g:Al):Bool:=decide (g.env.drop (g.env.length-d.am.length-d.ac.length)=En c k d)
def Ja(p:AL)(gs:List Int)(s:BF)(i c k:Nat)(g:Al)(d:Bs):Bool:=
 decide (EF s.ac g.at_)&&(decide ((g.env.length:Int)=(gs[g.f8.toNat]?).getD 0)&&(g.env.all (CV.inB p s.am.length s.ac.length)&&(DG d c k g&&EI p s d g i c 0 d.am)))
def AL.def? (p:AL)(n:Int):Option Bs:=if 0≤n then p.defs[n.toNat]? else none
def B4(p:AL)(gs:List Int)(s:BF):Nat→Nat→Nat→List Al→Bool
 |_,c,k,[]=>decide (c=s.am.length)&&decide (k=s.ac.length)
 |i,c,k,g::l=>match p.def? g.f8 with
  |some d=>Ja p gs s i c k g d&&B4 p gs s (i+1) (c+d.am.length) (k+d.ac.length) l
  |none=>false
def Da(op:Int):Bool:=decide (op=6)||(decide (op=7)||decide (op=8))
def CA(p:AL)(ci:List Int)(s:BF)(w:Fq):Bool:=
 decide (EF s.ac w.at_)&&(!AY s.ac w.at_&&(decide (0≤w.node)&&((match p.nodes[w.node.toNat]? with|some x=>Da x.op|none=>false)&&(decide ((w.env.length:Int)=(ci[w.node.toNat]?).getD 0)&&w.env.all (CV.inB p s.am.length s.ac.length)))))
def Ft(l:List BS):List BS→Bool
 |[]=>true
 |x::m=>(x.dead|| !AY l x.rc)&&Ft l m
def BF.small(s:BF):Bool:=decide (s.ac.length≤24)&&(decide (s.bv.length≤40)&&(decide (s.am.length≤60)&&decide (s.waits.length≤40)))
def DT(p:AL)(ci:List Int)(s:BF):Bool:=
 s.small&&(Gn s.ac&&(Ft s.ac (s.ac.drop 1)&&(B4 p (Bb p ci) s 0 0 1 s.bv&&s.waits.all (CA p ci s))))
end Go.Proofs
namespace Go.Proofs
open Go Go.Abs
theorem L7{p:AL}{ci:List Int}(h:BK p ci){i:Nat}{x:C0}(hx:p.nodes[i]? =some x)(ho:x.op=4):0≤x.n∧x.n<p.defs.length∧ ∃k v,x.kids=[k]∧0≤k∧ci[k.toNat]? =some v∧PF ci x=v∧0≤v∧v≤5070:=by
 obtain⟨s,l,hs,h0,hb,hok,hl,hq⟩:=h.node i x hx;simp only[Cy,AP,Ap]at hok;have hn:=hok.2.1;rw[XZ,CI (by rw[ho];decide),D0 ho]at hn;have hn:=of_decide_eq_true hn;refine⟨hn.1,hn.2,?_⟩;have hk:=hok.1;rw[ho]at hk;simp only[DX]at hk;have hkl:x.kids.length=1:=by simpa using hk.symm
 match hkk:x.kids,hkl with
 |[k],_=>
  have hl2:=hl;rw[Ia,D0 ho]at hl2;split at hl2
  .rename_i d hd;split at hl2
   .rename_i hg;cases hl2;have hkq:0≤k∧ci[k.toNat]? =some (s+d.own):=hq (k,s+d.own) (by simp[CM,hkk]);have:=OE (TG hg);exact⟨k,s+d.own,rfl,hkq.1,hkq.2,by simp[PF,hkk,hkq.2],by omega,by omega⟩
   .cases hl2
  .cases hl2
end Go.Proofs
namespace Go.Proofs
open Go Go.Abs
set_option maxRecDepth 100000
set_option maxHeartbeats 4000000
theorem Oa(op:Int):BB (KL Tryz.prog cfg) 69 [.d (.int .i64 (op))] []=.ok (.ret (.d (.bool (Da op))),[]):=by
 (refine Ae rfl Tryz.func69 rfl rfl rfl ?_;show Wp _ _ _ _ (Tryz.f69.body.get rfl) _ _;simp only[Tryz.f69,AS])
 (repeat' (first|simp only[go_sem, *]|(refine sx ?_ ?_<;>intro hc)|refine sy (by omega) fun x hx hm=>?_|simp(disch:=first|assumption|omega) only[AK]))
 all_goals simp[Da, *]
theorem Vs(p:AL)(g:Al)(d:Bs)(n:Int)(h0:0≤g.f8)(hd:p.defs[g.f8.toNat]? =some d)(c1:d.am.length≤30)(c2:d.ac.length≤30)(he:d.own≤g.env.length)(hl:g.env.length≤10000)(hn:0≤n)(hn2:n≤d.ac.length):BB (KL Tryz.prog cfg) 118 [.agg [.d (.be (p.free.map Av)),.d (.be (p.nodes.map Af)),.d (.be (p.defs.map Ax)),.d (.int .i64 (p.main))],.agg [.d (.int .i64 (g.f8)),.d (.int .i64 (g.at_)),.d (.be (g.env.map AN))],.d (.int .i64 (n))] []=.ok (.ret (.d (.int .i64 (g.place d n))),[]):=by
 unfold Bs.own at he
 (refine Ae rfl Tryz.func118 rfl rfl rfl ?_;show Wp _ _ _ _ (Tryz.f118.body.get rfl) _ _;simp only[Tryz.f118,AS])
 by_cases hn0:n=0
 ·(repeat' (first|simp only[go_sem, *,Al.place]|(refine sx ?_ ?_<;>intro hc)|refine sy (by omega) fun x hx hm=>?_|simp(disch:=first|assumption|omega) only[AK]))
 .have hlt:g.env.length-d.ac.length-0+(n-1).toNat<g.env.length:=by omega
  obtain⟨v,hv⟩:=get_some hlt;have hpl:AA (g.place d n=v.n):=⟨by
   rw[Al.place,CI hn0,Al.own];simp only[AM,El];rw[hv];rfl⟩
  have e1:((g.env.length:Int)-(d.ac.length:Int)+n-1).toNat=g.env.length-d.ac.length-0+(n-1).toNat:=by omega
  rw[←e1]at hv;replace e1:=AA.mk e1;have e2:0≤(g.env.length:Int)-(d.ac.length:Int)+n-1:=by omega
  refine aw ?_;rw[hpl.out]
theorem Zn{p:AL}{st:BT}(hlk:looks p=some st):BB (KL Tryz.prog cfg) 115 [.agg [.d (.be (p.free.map Av)),.d (.be (p.nodes.map Af)),.d (.be (p.defs.map Ax)),.d (.int .i64 (p.main))]] []=.ok (.ret (.d (.be ((Bb p st.ci).map AJ))),[]):=by
 have hso:=R3 hlk;have hF:=CF hlk;have hsm:=hF.small;simp only[AL.small,AP,Ap]at hsm;obtain⟨c1,c2,c3⟩:=hsm;have hF2:=AA.mk hF;clear hF
 (refine Ae rfl Tryz.func115 rfl rfl rfl ?_;show Wp _ _ _ _ (Tryz.f115.body.get rfl) _ _;simp only[Tryz.f115,AS])
 by_cases hD0:p.defs.length=0
 ·(repeat' (first|simp only[go_sem, *]|(refine sx ?_ ?_<;>intro hc)|refine sy (by omega) fun x hx hm=>?_|simp(disch:=first|assumption|omega) only[AK,Eb]))
  refine Ah p.nodes (S:=fun i (_:Unit)=>⟨[(1,.ptr [0,0] 0),(3,.emp),(4,.d (.be (st.ci.map AJ))),(5,.d (.int .i64 (i)))],[([0,0],.box [.d (.be (p.free.map Av)),.d (.be (p.nodes.map Af)),.d (.be (p.defs.map Ax)),.d (.int .i64 (p.main))])],1,[]⟩)
   (Inv:=fun i rest _=>True) (b0:=()) trivial ?_ ?_
  .rintro i y _ hy hi him _ IH;have ho: ¬y.op=4:=fun ho=>by
    have:=L7 hF2.out hy ho;omega
   refine aw ?_;exact IH.out () trivial
  .rintro i _ hi him _;have:Bb p st.ci=[]:=by
    refine DL ?_;rw[Bb,Ir];simpa using hD0
   rw[this];exact au
 ·(repeat' (first|simp only[go_sem, *]|(refine sx ?_ ?_<;>intro hc)|refine sy (by omega) fun x hx hm=>?_|simp(disch:=first|assumption|omega) only[AK,Eb]))
  refine Ah p.nodes (S:=fun i (out:List Int)=>⟨[(1,.ptr [0,0] 0),(3,.eq [1,1] 0 p.defs.length),(4,.d (.be (st.ci.map AJ))),(5,.d (.int .i64 (i)))],[([0,0],.box [.d (.be (p.free.map Av)),.d (.be (p.nodes.map Af)),.d (.be (p.defs.map Ax)),.d (.int .i64 (p.main))]),([1,1],.d9 1 (out.map AJ))],2,[]⟩)
   (Inv:=fun i rest out=>out.length=p.defs.length∧AA (Bb p st.ci=Ew st.ci out rest)) (b0:=List.replicate p.defs.length 0) ⟨by simp,⟨rfl⟩⟩ ?_ ?_
  .rintro i y out hy hi him ⟨hol,hr⟩ IH;by_cases ho:y.op=4
   .obtain⟨n1,n2,k,v,hk,hk0,hkv,hks,_,_⟩:=L7 hF2.out hy ho;obtain⟨o,hoo⟩:=get_some (l:=out) (i:=y.n.toNat) (by omega);have hyn:y.n.toNat<p.defs.length:=by omega
    have hks:=AA.mk hks;refine aw ?_;have e:(out.map AJ).set y.n.toNat [.int .i64 v]=(out.set y.n.toNat v).map AJ:=by rw[Jp];rfl
    rw[e];refine IH.out (out.set y.n.toNat v) ⟨by simpa using hol,⟨?_⟩⟩;rw[hr.out,Ew,D0 ho,hks.out]
   .refine aw ?_;refine IH.out out ⟨hol,⟨?_⟩⟩;rw[hr.out,Ew,CI ho]
  .rintro i out hi him ⟨hol,hr⟩;have tk:List.take p.defs.length (List.map AJ out)=List.map AJ out:=CS (by simp[hol]);refine aw ?_;rw[hr.out];rfl
theorem zy(p:AL)(s:BF)(g:Al)(d:Bs)(ch:Hy)(c i j:Nat)(hc:c≤10000)(hi:i≤10000)(hg:s.bv[i]? =some g)(h0:0≤g.f8)(hd:p.defs[g.f8.toNat]? =some d)(hdo:Od d)(hch:d.am[j]? =some ch)(he:d.own≤g.env.length)(hl:g.env.length≤10000)(hp0:0≤g.place d ch.at_)(hp1:g.place d ch.at_<s.ac.length)(hf:p.free.length≤12)(hs1:s.ac.length≤24)(hs2:s.am.length≤60):
 BB (KL Tryz.prog cfg) 116 [.agg [.d (.be (p.free.map Av)),.d (.be (p.nodes.map Af)),.d (.be (p.defs.map Ax)),.d (.int .i64 (p.main))],.agg [.d (.be (s.ac.map Ab)),.d (.be (s.bv.map Ar)),.d (.be (s.am.map Bm)),.d (.be (s.waits.map AW))],.d (.int .i64 (c)),.d (.int .i64 (i)),.d (.int .i64 (j))] []=.ok (.ret (.d (.bool (KY p s d g i j c ch))),[]):=by
 unfold KY;have hj:=AI hch;have c1:=hdo.am;have c2:=hdo.ac;have hca:=hdo.chan ch (Ac hch);have hpl:=Vs p g d ch.at_ h0 hd c1 c2 he hl hca.1 hca.2.1;have hgi:=AI hg;have hdi:=AI hd;replace hdo:=AA.mk hdo;by_cases hcc:(s.am.length:Int)≤c
 .rw[I1 (by omega)]
  (refine Ae rfl Tryz.func116 rfl rfl rfl ?_;show Wp _ _ _ _ (Tryz.f116.body.get rfl) _ _;simp only[Tryz.f116,AS])
  exact au
 .have hcl:c<s.am.length:=by omega
  obtain⟨q,hq⟩:=get_some hcl;rw[hq];dsimp only;obtain⟨sp,hsp⟩:=get_some (l:=s.ac) (i:=(g.place d ch.at_).toNat) (by omega);have hda:AA (AY s.ac (g.place d ch.at_)=sp.dead):=⟨by simp[AY,hsp]⟩;have hck:AA (Nf p s d g i j q ch=(decide (q.group=i)&&(decide (q.index=j)&&(decide (q.at_=g.place d ch.at_)&&(decide (q.queue.length≤12)&&((decide (q.queue.length=0)|| !AY s.ac q.at_)&&q.queue.all (FA p s.am.length s.ac.length ch.many))))))):=⟨rfl⟩
  (refine Ae rfl Tryz.func116 rfl rfl rfl ?_;show Wp _ _ _ _ (Tryz.f116.body.get rfl) _ _;simp only[Tryz.f116,AS])
  (repeat' (first|simp only[go_sem, *]|(refine sx ?_ ?_<;>intro hc)|refine sy (by omega) fun x hx hm=>?_|simp(disch:=first|assumption|omega) only[AK]))
  all_goals try
   have e1:=hck.out;have e2:=hda.out;clear hpl hck hda;congr 3;grind
  all_goals
   have hfin:AA (Nf p s d g i j q ch=q.queue.all (FA p s.am.length s.ac.length ch.many)):=⟨by
    have e1:=hck.out;have e2:=hda.out;clear hpl hck hda;grind⟩
   refine Ah q.queue (S:=fun i' (_:Unit)=>⟨[(5,.ptr [0,0] 0),(6,.ptr [0,1] 0),(11,.ptr [0,2] 0),(13,.ptr [0,3] 0),(14,.d (.int .i64 (i')))],[([0,0],.box [.d (.be (p.free.map Av)),.d (.be (p.nodes.map Af)),.d (.be (p.defs.map Ax)),.d (.int .i64 (p.main))]),([0,1],.box [.d (.be (s.ac.map Ab)),.d (.be (s.bv.map Ar)),.d (.be (s.am.map Bm)),.d (.be (s.waits.map AW))]),([0,2],.box [.d (.int .i64 (i)),.d (.int .i64 (j)),.d (.int .i64 (g.place d ch.at_)),.d (.be (q.queue.map BG))]),([0,3],.box [.d (.int .i64 (ch.at_)),.d (.int .i64 (ch.many))])],4,[]⟩)
    (Inv:=fun _ rest _=>AA (q.queue.all (FA p s.am.length s.ac.length ch.many)=rest.all (FA p s.am.length s.ac.length ch.many))) (b0:=()) ⟨rfl⟩ ?_ ?_
   .rintro i' y _ hy hi' him hr IH;have hvs:=fun h=>Mq p (s.ac.map Ab) (s.am.map Bm) (.be (s.bv.map Ar)) (.be (s.waits.map AW)) y (by simp;omega) (by simp;omega) (by omega) h;rw[BI,BI]at hvs;by_cases hym:(y.length:Int)=ch.many
    .have hvs:=hvs (by omega);have hmk:AA (FA p s.am.length s.ac.length ch.many y=y.all (CV.inB p s.am.length s.ac.length)):=⟨by
      rw[FA,Ci hym,EM]⟩
     (repeat' (first|simp only[go_sem, *]|(refine sx ?_ ?_<;>intro hc)|refine sy (by omega) fun x hx hm=>?_|simp(disch:=first|assumption|omega) only[AK]))
     all_goals first
     |(refine IH.out () ⟨?_⟩;rw[hr.out,D4,hmk.out];simp only[*,EM];done)
     |(rw[hfin.out,hr.out,D4,hmk.out];simp only[*,CO];done)
    .have hmk:AA (FA p s.am.length s.ac.length ch.many y=false):=⟨by
      rw[FA,By hym,CO]⟩
     clear hvs;refine aw ?_;rw[hfin.out,hr.out,D4,hmk.out,CO]
   .rintro i' _ hi' him hr;refine aw ?_;rw[hfin.out,hr.out];rfl
theorem Jd(c k:Nat)(d:Bs):(En c k d).length=d.own:=by simp[En,Bs.own]
variable{j:Nat}
theorem MN(c k:Nat)(d:Bs)(h:j<d.am.length):(En c k d)[j]? =some ⟨3,(c:Int)+(j:Int)⟩:=by
 rw[En,Be (by simpa using h),D2,List.getElem?_range' h];simp
theorem MO(c k:Nat)(d:Bs)(h:j<d.ac.length):(En c k d)[d.am.length+j]? =some ⟨4,(k:Int)+(j:Int)⟩:=by
 rw[En,Ce (by simp)];simp only[BI,List.length_range'];rw[Nat.add_sub_cancel_left,D2,List.getElem?_range' h];simp
variable{k:Nat}{g:Al}
theorem Zx{d:Bs}{c:Nat}(h:DG d c k g=true)(j:Nat):g.env[g.env.length-d.am.length-d.ac.length+j]? =(En c k d)[j]? :=by
 have h:=of_decide_eq_true h;rw[←h,HW]
theorem Va{d:Bs}{c:Nat}(h:DG d c k g=true)(hj:j<d.am.length):g.env[g.env.length-d.am.length-d.ac.length+j]? =some ⟨3,(c:Int)+(j:Int)⟩:=by
 rw[Zx h,MN _ _ _ hj]
theorem Vb{d:Bs}{c:Nat}(h:DG d c k g=true)(he:d.own≤g.env.length)(hj:j<d.ac.length):g.env[g.env.length-d.ac.length+j]? =some ⟨4,(k:Int)+(j:Int)⟩:=by
 unfold Bs.own at he;have:=Zx h (d.am.length+j);rw[MO _ _ _ hj]at this;rw[←this];congr 1;omega
variable{n:Int}
theorem TP{d:Bs}{c:Nat}(h:DG d c k g=true)(he:d.own≤g.env.length)(h1:1≤n)(h2:n≤d.ac.length):g.place d n=(k:Int)+(n-1):=by
 rw[Al.place,CI (by omega),Al.own];simp only[AM,El,Nat.sub_zero];rw[Vb h he (j:=(n-1).toNat) (by omega)];simp only[Es,F4];omega
theorem Ko{d:Bs}{c:Nat}(h:DG d c k g=true)(h1:0≤n)(h2:n<d.am.length):g.own d true n=(c:Int)+n:=by
 rw[Al.own];simp only[F2];have:=Va h (j:=n.toNat) (by omega);rw[show g.env.length-d.ac.length-d.am.length+n.toNat=g.env.length-d.am.length-d.ac.length+n.toNat by omega,this];simp only[Es,F4];omega
theorem Pd{p:AL}{s:BF}{d:Bs}{c:Nat}(h:DG d c k g=true)(he:d.own≤g.env.length)(hat:EF s.ac g.at_)(hv:g.env.all (CV.inB p s.am.length s.ac.length)=true)(h1:0≤n)(h2:n≤d.ac.length):EF s.ac (g.place d n):=by
 by_cases h0:n=0
 .rw[Al.place,D0 h0];exact hat
 .rw[TP h he (by omega) h2];have hg:=Vb h he (j:=(n-1).toNat) (by omega);have:=DO.1 hv _ (Ac hg);simp[CV.inB]at this;have e:((n-1).toNat:Int)=n-1:=PM (by omega);constructor
  .omega
  .omega
theorem uI{d:Bs}(he:d.own≤g.env.length){i:Nat}(hi:i<d.own): ∃v,g.env[g.env.length-d.am.length-d.ac.length+i]? =some v∧g.env.drop (g.env.length-d.am.length-d.ac.length+i)=v::g.env.drop (g.env.length-d.am.length-d.ac.length+(i+1)):=by
 unfold Bs.own at*;obtain⟨v,hv⟩:=get_some (l:=g.env) (i:=g.env.length-d.am.length-d.ac.length+i) (by omega);exact⟨v,hv,AR hv⟩
theorem dp(p:AL)(st:BT)(s:BF)(hlk:looks p=some st)(hss:s.small=true):BB (KL Tryz.prog cfg) 67 [.agg [.d (.be (p.free.map Av)),.d (.be (p.nodes.map Af)),.d (.be (p.defs.map Ax)),.d (.int .i64 (p.main))],.agg [.d (.be (s.ac.map Ab)),.d (.be (s.bv.map Ar)),.d (.be (s.am.map Bm)),.d (.be (s.waits.map AW))]] []=.ok (.ret (.d (.bool (B4 p (Bb p st.ci) s 0 0 1 s.bv))),[]):=by
 have hks:=Zn hlk;have hF:=AA.mk (CF hlk);have hsm:=hF.out.small;simp only[AL.small,AP,Ap]at hsm;obtain⟨c1,c2,c3⟩:=hsm;simp only[BF.small,AP,Ap]at hss;obtain⟨s1,s2,s3,s4⟩:=hss;have hgl:(Bb p st.ci).length=p.defs.length:=by rw[Bb,Ir];simp
 generalize hgs:Bb p st.ci=gs at*;replace hgs:=AA.mk hgs
 (refine Ae rfl Tryz.func67 rfl rfl rfl ?_;show Wp _ _ _ _ (Tryz.f67.body.get rfl) _ _;simp only[Tryz.f67,AS])
 refine aw ?_;refine Ah s.bv (S:=fun i (a:Nat×Nat)=>⟨[(2,.ptr [0,0] 0),(3,.ptr [0,1] 0),(5,.d (.be (gs.map AJ))),(6,.d (.int .i64 (a.1))),(7,.d (.int .i64 (a.2))),(8,.d (.int .i64 (i)))],[([0,0],.box [.d (.be (p.free.map Av)),.d (.be (p.nodes.map Af)),.d (.be (p.defs.map Ax)),.d (.int .i64 (p.main))]),([0,1],.box [.d (.be (s.ac.map Ab)),.d (.be (s.bv.map Ar)),.d (.be (s.am.map Bm)),.d (.be (s.waits.map AW))])],2,[]⟩)
  (Inv:=fun i rest a=>a.1≤30*i∧a.2≤30*i+1∧AA (B4 p gs s 0 0 1 s.bv=B4 p gs s i a.1 a.2 rest)) (b0:=(0,1)) ⟨by simp,by simp,⟨rfl⟩⟩ ?_ ?_
 .rintro i g ⟨c,k⟩ hy hi him ⟨b1,b2,hr⟩ IH;dsimp only at*;by_cases x0:g.f8<0
  .have hf:AA (B4 p gs s 0 0 1 s.bv=false):=⟨by rw[hr.out,B4,AL.def?,CI (by omega)]⟩;refine aw ?_;rw[hf.out]
  by_cases x1:(p.defs.length:Int)≤g.f8
  .have hf:AA (B4 p gs s 0 0 1 s.bv=false):=⟨by rw[hr.out,B4,AL.def?,D0 (by omega),I1 (by omega)]⟩;refine aw ?_;rw[hf.out]
  have x2:0≤g.f8:=by omega
  have hdl:g.f8.toNat<p.defs.length:=by omega
  obtain⟨d,hd⟩:=get_some hdl;have hdf:=B3 hF.out hd;obtain⟨v,hv⟩:=get_some (l:=gs) (i:=g.f8.toNat) (by omega);have hv2:d.own≤v∧v≤5060:=by
   obtain⟨_,_,s0,_,_,_,_,q0,q1,q2,_⟩:=hdf.node;rw[hgs.out,hv]at q2;cases q2;have:=OE hdf.ok;omega
  have hstep:AA (B4 p gs s 0 0 1 s.bv=(Ja p gs s i c k g d&&B4 p gs s (i+1) (c+d.am.length) (k+d.ac.length) (s.bv.drop (i+1)))):=⟨by
   rw[hr.out,B4,AL.def?,D0 x2,hd]⟩
  have hgo:AA (Ja p gs s i c k g d=(decide (EF s.ac g.at_)&&(decide ((g.env.length:Int)=v)&&(g.env.all (CV.inB p s.am.length s.ac.length)&&(DG d c k g&&EI p s d g i c 0 d.am))))):=⟨by
   rw[Ja,hv];rfl⟩
  have hdo:=hdf.ok;have e1:=hdo.am;have e2:=hdo.ac;have e3:d.own=d.am.length+d.ac.length:=rfl;replace hdo:=AA.mk hdo;replace hdf:=AA.mk hdf;by_cases hlen:(g.env.length:Int)=v
  .have hvs:=Mq p (s.ac.map Ab) (s.am.map Bm) (.be (s.bv.map Ar)) (.be (s.waits.map AW)) g.env (by simp;omega) (by simp;omega) (by omega) (by omega);rw[BI,BI]at hvs;have hlt2:g.env.length≤5060:=by omega
   have hown:d.own≤g.env.length:=by omega
   replace hlen:=AA.mk hlen;have hgv:=AA.mk (show gs[g.f8.toNat]? =some v from hv);rw[←hlen.out]at hv;have w1:IntKind.i64.wrap ((g.env.length:Int)-(d.ac.length:Int))=(g.env.length:Int)-(d.ac.length:Int):=wrap_id (by omega) (by omega);have w2:IntKind.i64.wrap ((g.env.length:Int)-(d.ac.length:Int)-(d.am.length:Int))=((g.env.length-d.am.length-d.ac.length:Nat):Int):=by rw[wrap_id (by omega) (by omega)];omega
   have w5:IntKind.i64.wrap ((d.am.length:Int)+(d.ac.length:Int))=(d.am.length:Int)+(d.ac.length:Int):=wrap_id (by omega) (by omega)
   (repeat' (first|simp only[go_sem, *]|(refine sx ?_ ?_<;>intro hc)|refine sy (by omega) fun x hx hm=>?_|simp(disch:=first|assumption|omega) only[AK]))
   all_goals try
    have q1:=hstep.out;have q2:=hgo.out;clear hks hgo hstep IH;congr 3;grind [EF]
   have hin:EF s.ac g.at_:=⟨by omega,by omega⟩;have hall:g.env.all (CV.inB p s.am.length s.ac.length)=true:=by assumption
   have hg2:AA (B4 p gs s 0 0 1 s.bv=((DG d c k g&&EI p s d g i c 0 d.am)&&B4 p gs s (i+1) (c+d.am.length) (k+d.ac.length) (s.bv.drop (i+1)))):=⟨by
    rw[hstep.out,hgo.out,Ci hin,Ci hlen.out,hall];simp⟩
   replace hin:=AA.mk hin;replace hall:=AA.mk hall;have hm0:AA (DG d c k g=decide (g.env.drop (g.env.length-d.am.length-d.ac.length+0)=En c k d)):=⟨rfl⟩;clear hvs hgo hstep;refine Ah (En c k d) (S:=fun i2 (a:Nat×Nat)=>⟨[(2,.ptr [0,0] 0),(3,.ptr [0,1] 0),(5,.d (.be (gs.map AJ))),(6,.d (.int .i64 (a.1))),(7,.d (.int .i64 (a.2))),(8,.d (.int .i64 (i))),(9,.ptr [0,2] 0),(10,.ptr [0,3] 0),(11,.d (.int .i64 (((g.env.length-d.am.length-d.ac.length:Nat):Int)))),(12,.d (.int .i64 (i2)))],[([0,0],.box [.d (.be (p.free.map Av)),.d (.be (p.nodes.map Af)),.d (.be (p.defs.map Ax)),.d (.int .i64 (p.main))]),([0,1],.box [.d (.be (s.ac.map Ab)),.d (.be (s.bv.map Ar)),.d (.be (s.am.map Bm)),.d (.be (s.waits.map AW))]),([0,2],.box [.d (.int .i64 (g.f8)),.d (.int .i64 (g.at_)),.d (.be (g.env.map AN))]),([0,3],.box [.d (.be (d.am.map A3)),.d (.be (d.ac.map Ao)),.d (.be (d.rules.map A0))])],4,[]⟩)
    (Inv:=fun i2 rest a=>a.1=c+min i2 d.am.length∧a.2=k+(i2-d.am.length)∧AA (DG d c k g=decide (g.env.drop (g.env.length-d.am.length-d.ac.length+i2)=rest))) (b0:=(c,k)) ⟨by simp,by simp,hm0⟩ ?_ ?_
   .rintro i2 y ⟨c',k'⟩ hy2 hi2 him2 ⟨ha1,ha2,hr2⟩ IH2;dsimp only at*;rw[Jd]at hi2;obtain⟨u,hu,hdr⟩:=uI hown hi2;have hr3:AA (DG d c k g=(decide (u=y)&&decide (g.env.drop (g.env.length-d.am.length-d.ac.length+(i2+1))=(En c k d).drop (i2+1)))):=⟨by
     rw[hr2.out,hdr,Lc];simp⟩
    have cnd:(i2:Int)<(d.am.length:Int)+(d.ac.length:Int):=by omega
    have ix:(((g.env.length-d.am.length-d.ac.length:Nat):Int)+(i2:Int)).toNat=g.env.length-d.am.length-d.ac.length+i2:=by omega
    rw[←ix]at hu;have ix2:0≤((g.env.length-d.am.length-d.ac.length:Nat):Int)+(i2:Int):=by omega
    replace ix:=AA.mk ix;have w3:IntKind.i64.wrap (((g.env.length-d.am.length-d.ac.length:Nat):Int)+(i2:Int))=((g.env.length-d.am.length-d.ac.length:Nat):Int)+(i2:Int):=wrap_id (by omega) (by omega);have hlt:AA (g.env.length≤10000):=⟨by have:=hlen.out;omega⟩;by_cases hch:i2<d.am.length
    .have hge: ¬(d.am.length:Int)≤(i2:Int):=by omega
     rw[MN _ _ _ hch]at hy2;cases hy2;obtain rfl:c'=c+i2:=by omega
     have ha:=AA.mk ha2;clear ha1 ha2;rw[←Int.natCast_add]at hr3;by_cases hu2:u=⟨3,((c+i2:Nat):Int)⟩
     .subst hu2;refine aw ?_;refine IH2.out (c+i2+1,k') ⟨by dsimp only;have:=ha.out;omega,by dsimp only;have:=ha.out;omega,⟨?_⟩⟩;rw[hr3.out];simp
     .have hne:(decide (u.kind=3)&&decide (u.n=((c+i2:Nat):Int)))=false:=by
       rw[←Kw,AP,Ap,Ap];rintro⟨h1,h2⟩;exact hu2 (by cases u;simp_all)
      have hbad:AA (B4 p gs s 0 0 1 s.bv=false):=⟨by
       rw[hg2.out,hr3.out,By hu2];simp⟩
      refine aw ?_;rw[hbad.out]
    .have hge:(d.am.length:Int)≤(i2:Int):=by omega
     have hy3:=MO c k d (j:=i2-d.am.length) (by omega);rw[show d.am.length+(i2-d.am.length)=i2 by omega,hy2]at hy3;cases hy3;obtain rfl:k'=k+(i2-d.am.length):=by omega
     have ha:=AA.mk ha1;clear ha1 ha2;rw[←Int.natCast_add]at hr3;by_cases hu2:u=⟨4,((k+(i2-d.am.length):Nat):Int)⟩
     .subst hu2;refine aw ?_;refine IH2.out (c',k+(i2-d.am.length)+1) ⟨by dsimp only;have:=ha.out;omega,by dsimp only;have:=ha.out;omega,⟨?_⟩⟩;rw[hr3.out];simp
     .have hne:(decide (u.kind=4)&&decide (u.n=((k+(i2-d.am.length):Nat):Int)))=false:=by
       rw[←Kw,AP,Ap,Ap];rintro⟨h1,h2⟩;exact hu2 (by cases u;simp_all)
      have hbad:AA (B4 p gs s 0 0 1 s.bv=false):=⟨by
       rw[hg2.out,hr3.out,By hu2];simp⟩
      refine aw ?_;rw[hbad.out]
   .rintro i2 ⟨c',k'⟩ hi2 him2 ⟨ha1,ha2,hr2⟩;dsimp only at*;have hi3:=hi2.out;rw[Jd]at hi3;obtain rfl:c'=c+d.am.length:=by omega
    obtain rfl:k'=k+d.ac.length:=by omega
    clear ha1 ha2;have cnd: ¬(i2:Int)<(d.am.length:Int)+(d.ac.length:Int):=by omega
    replace hi3:=AA.mk hi3;have hmine:AA (DG d c k g=true):=⟨by
     rw[hr2.out,D7 (by have:=hi3.out;omega)];simp⟩
    have hg3:AA (B4 p gs s 0 0 1 s.bv=(EI p s d g i c 0 d.am&&B4 p gs s (i+1) (c+d.am.length) (k+d.ac.length) (s.bv.drop (i+1)))):=⟨by
     rw[hg2.out,hmine.out,EM]⟩
    refine aw ?_;clear hr2 hi2 hi3 him2 cnd hm0 hg2 i2;refine Ah d.am (S:=fun j (_:Unit)=>⟨[(2,.ptr [0,0] 0),(3,.ptr [0,1] 0),(5,.d (.be (gs.map AJ))),(6,.d (.int .i64 (((c+d.am.length:Nat):Int)))),(7,.d (.int .i64 (((k+d.ac.length:Nat):Int)))),(8,.d (.int .i64 (i))),(10,.ptr [0,2] 0),(14,.d (.int .i64 (j)))],[([0,0],.box [.d (.be (p.free.map Av)),.d (.be (p.nodes.map Af)),.d (.be (p.defs.map Ax)),.d (.int .i64 (p.main))]),([0,1],.box [.d (.be (s.ac.map Ab)),.d (.be (s.bv.map Ar)),.d (.be (s.am.map Bm)),.d (.be (s.waits.map AW))]),([0,2],.box [.d (.be (d.am.map A3)),.d (.be (d.ac.map Ao)),.d (.be (d.rules.map A0))])],3,[]⟩)
     (Inv:=fun j rest _=>AA (EI p s d g i c 0 d.am=EI p s d g i c j rest)) (b0:=()) ⟨rfl⟩ ?_ ?_
    .rintro j ch _ hyj hij himj hrj IHj;have hpi:=Pd hmine.out hown hin.out hall.out (n:=ch.at_) (hdo.out.chan ch (Ac hyj)).1 (hdo.out.chan ch (Ac hyj)).2.1;have hck:=zy p s g d ch (c+j) i j (by omega) (by omega) hy x2 hd hdo.out hyj hown (by omega) hpi.1 hpi.2 c1 s1 s3;have w6:IntKind.i64.wrap (((c+d.am.length:Nat):Int)-(d.am.length:Int))=(c:Int):=by rw[wrap_id (by omega) (by omega)];omega
     have w7:IntKind.i64.wrap ((c:Int)+(j:Int))=((c+j:Nat):Int):=by rw[wrap_id (by omega) (by omega)];omega
     replace hpi:=AA.mk hpi;rw[EI]at hrj;cases hv3:KY p s d g i j (c+j) ch with
     |true=>
      rw[hv3]at hck hrj;refine aw ?_;refine IHj.out () ⟨?_⟩;rw[hrj.out,EM]
     |false=>
      rw[hv3]at hck hrj;refine aw ?_;rw[hg3.out,hrj.out,CO,CO]
    .rintro j _ hij himj hrj;refine aw ?_;refine IH.out (c+d.am.length,k+d.ac.length) ⟨by dsimp only;omega,by dsimp only;omega,⟨?_⟩⟩;dsimp only;rw[hg3.out,hrj.out,EI,EM]
  ·(repeat' (first|simp only[go_sem, *]|(refine sx ?_ ?_<;>intro hc)|refine sy (by omega) fun x hx hm=>?_|simp(disch:=first|assumption|omega) only[AK]))
   all_goals
    have q1:=hstep.out;have q2:=hgo.out;clear hks hgo hstep IH;congr 3;grind [EF]
 .rintro i ⟨c,k⟩ hi him ⟨b1,b2,hr⟩;dsimp only at*;have hfin:AA (B4 p gs s 0 0 1 s.bv=(decide (c=s.am.length)&&decide (k=s.ac.length))):=⟨by rw[hr.out,B4]⟩
  (repeat' (first|simp only[go_sem, *]|(refine sx ?_ ?_<;>intro hc)|refine sy (by omega) fun x hx hm=>?_|simp(disch:=first|assumption|omega) only[AK]))
  all_goals
   rw[hfin.out];congr 3;grind
def BU(p:AL)(s:BF):Int:=match looks p with|some st=>if DT p st.ci s=true then 0 else 2|none=>2
theorem Uh(p:AL)(s:BF):BB (KL Tryz.prog cfg) 32 [.agg [.d (.be (p.free.map Av)),.d (.be (p.nodes.map Af)),.d (.be (p.defs.map Ax)),.d (.int .i64 (p.main))],.agg [.d (.be (s.ac.map Ab)),.d (.be (s.bv.map Ar)),.d (.be (s.am.map Bm)),.d (.be (s.waits.map AW))]] []=.ok (.ret (.d (.int .i64 (BU p s))),[]):=by
 have hcp:=kC p;cases hlk:looks p with
 |none=>
  have he:BU p s=2:=by rw[BU,hlk]
  have he2:W8 p=2:=by rw[W8,hlk]
  rw[he2]at hcp;rw[he]
  (refine Ae rfl Tryz.func32 rfl rfl rfl ?_;show Wp _ _ _ _ (Tryz.f32.body.get rfl) _ _;simp only[Tryz.f32,AS])
  exact au
 |some st=>
  have he2:W8 p=0:=by rw[W8,hlk]
  rw[he2]at hcp;have he:AA (BU p s=if DT p st.ci s=true then 0 else 2):=⟨by rw[BU,hlk]⟩;by_cases hss:s.small=true
  .have hbad:AA (DT p st.ci s=false→BU p s=2):=⟨fun h=>by rw[he.out,h];rfl⟩;have hF:=AA.mk (CF hlk);have hsm:=hF.out.small;simp only[AL.small,AP,Ap]at hsm;obtain⟨c1,c2,c3⟩:=hsm;have hok:AA (DT p st.ci s=(Gn s.ac&&(Ft s.ac (s.ac.drop 1)&&(B4 p (Bb p st.ci) s 0 0 1 s.bv&&s.waits.all (CA p st.ci s))))):=⟨by rw[DT,hss,EM]⟩;have hgr:=dp p st s hlk hss;have hsz:=R3 hlk;simp only[BF.small,AP,Ap]at hss;obtain⟨s1,s2,s3,s4⟩:=hss;have z1: ¬(24:Int)<s.ac.length:=by omega
   have z2: ¬(40:Int)<s.bv.length:=by omega
   have z3: ¬(60:Int)<s.am.length:=by omega
   have z4: ¬(40:Int)<s.waits.length:=by omega
   have htr:=zB s.ac (.be (s.bv.map Ar)) (.be (s.am.map Bm)) (.be (s.waits.map AW)) (by omega);cases htb:Gn s.ac with
   |false=>
    rw[htb]at htr hok
    (refine Ae rfl Tryz.func32 rfl rfl rfl ?_;show Wp _ _ _ _ (Tryz.f32.body.get rfl) _ _;simp only[Tryz.f32,AS])
    refine aw ?_;all_goals first
    |(exfalso;omega)
    |rw[hbad.out (by rw[hok.out];rfl)]
   |true=>
    rw[htb,EM]at hok;rw[htb]at htr;have hT:=Ps htb;have htop:=hT.top;replace hT:=AA.mk hT
    (refine Ae rfl Tryz.func32 rfl rfl rfl ?_;show Wp _ _ _ _ (Tryz.f32.body.get rfl) _ _;simp only[Tryz.f32,AS])
    refine aw ?_;refine Ah (s.ac.drop 1) (S:=fun i (_:Unit)=>⟨[(2,.ptr [0,0] 0),(3,.ptr [0,1] 0),(5,.d (.int .i64 ((i:Int)+1)))],[([0,0],.box [.d (.be (p.free.map Av)),.d (.be (p.nodes.map Af)),.d (.be (p.defs.map Ax)),.d (.int .i64 (p.main))]),([0,1],.box [.d (.be (s.ac.map Ab)),.d (.be (s.bv.map Ar)),.d (.be (s.am.map Bm)),.d (.be (s.waits.map AW))])],2,[]⟩)
     (Inv:=fun i rest _=>AA (Ft s.ac (s.ac.drop 1)=Ft s.ac rest)) (b0:=()) ⟨rfl⟩ ?_ ?_
    .rintro i y _ hy hi him hr IH;rw[HW]at hy;rw[Io]at hi;have ix:((i:Int)+1).toNat=1+i:=by omega
     rw[←ix]at hy;replace ix:=AA.mk ix;have hi2:(i:Int)+1<s.ac.length:=by omega
     have hi3:0≤(i:Int)+1:=by omega
     have hpar:EF s.ac y.rc:=by
      have h1:=hT.out.qr ((i:Int)+1) ⟨by omega,by omega⟩;obtain⟨k,hk⟩: ∃k,s.ac.length=k+1:=⟨s.ac.length-1,by omega⟩;rw[hk]at h1;have h2:=(FL (by omega) h1).1
      rwa [KA hy]at h2
     obtain⟨p1,p2⟩:=hpar;obtain⟨z,hz⟩:=get_some (l:=s.ac) (i:=y.rc.toNat) (by omega);have hda:AA (AY s.ac y.rc=z.dead):=⟨by simp[AY,hz]⟩;rw[Ft]at hr;cases hyd:y.dead<;>cases hzd:z.dead;all_goals (refine aw ?_)
     all_goals first
     |(refine IH.out () ⟨?_⟩;rw[hr.out,hda.out,hyd,hzd];rfl)
     |(refine IH.out () ⟨?_⟩;rw[hr.out,hyd];rfl)
     |(rw[hbad.out (by rw[hok.out,hr.out,hda.out,hyd,hzd];rfl)])
    .rintro i _ hi him hr;have hi':=hi.out;rw[Io]at hi';have hi2: ¬(i:Int)+1<s.ac.length:=by omega
     replace hi':=AA.mk hi';rw[Ft]at hr;cases hgv:B4 p (Bb p st.ci) s 0 0 1 s.bv with
     |false=>
      rw[hgv]at hgr;refine aw ?_;rw[hbad.out (by rw[hok.out,hgv,CO,GS])]
     |true=>
      rw[hgv]at hgr hok;refine aw ?_;have hr0:=hr;clear hr hi hi' him hi2;refine Ah s.waits (S:=fun i (_:Unit)=>⟨[(2,.ptr [0,0] 0),(3,.ptr [0,1] 0),(6,.d (.be (st.ci.map AJ))),(7,.d (.int .i64 (i)))],[([0,0],.box [.d (.be (p.free.map Av)),.d (.be (p.nodes.map Af)),.d (.be (p.defs.map Ax)),.d (.int .i64 (p.main))]),([0,1],.box [.d (.be (s.ac.map Ab)),.d (.be (s.bv.map Ar)),.d (.be (s.am.map Bm)),.d (.be (s.waits.map AW))])],2,[]⟩)
       (Inv:=fun i rest _=>AA (DT p st.ci s=rest.all (CA p st.ci s))) (b0:=()) ⟨?_⟩ ?_ ?_
      .rw[hok.out,hr0.out,EM,EM]
      .rintro i w _ hy hi him hr IH;have hwo:AA (CA p st.ci s w=(decide (EF s.ac w.at_)&&(!AY s.ac w.at_&&(decide (0≤w.node)&&((match p.nodes[w.node.toNat]? with|some x=>Da x.op|none=>false)&&(decide ((w.env.length:Int)=(st.ci[w.node.toNat]?).getD 0)&&w.env.all (CV.inB p s.am.length s.ac.length))))))):=⟨rfl⟩
       have hbw:AA (CA p st.ci s w=false→BU p s=2):=⟨fun h=>hbad.out (by rw[hr.out,D4,h,CO])⟩;by_cases a0:w.at_<0
       .have hz:AA (BU p s=2):=⟨hbw.out (by rw[hwo.out,By (show¬EF s.ac w.at_ from fun h=>by have:=h.1;omega)];simp)⟩;refine aw ?_;all_goals rw[hz.out]
       by_cases a1:(s.ac.length:Int)≤w.at_
       .have hz:AA (BU p s=2):=⟨hbw.out (by rw[hwo.out,By (show¬EF s.ac w.at_ from fun h=>by have:=h.2;omega)];simp)⟩;refine aw ?_;all_goals rw[hz.out]
       have a2:0≤w.at_:=by omega
       obtain⟨sp,hsp⟩:=get_some (l:=s.ac) (i:=w.at_.toNat) (by omega);have hda:AA (AY s.ac w.at_=sp.dead):=⟨by simp[AY,hsp]⟩;have hin:AA (decide (EF s.ac w.at_)=true):=⟨Ci ⟨by omega,by omega⟩⟩;by_cases n0:w.node<0
       .have hz:AA (BU p s=2):=⟨hbw.out (by rw[hwo.out,By (show¬0≤w.node by omega)];simp)⟩
        (repeat' (first|simp only[go_sem, *]|(refine sx ?_ ?_<;>intro hc)|refine sy (by omega) fun x hx hm=>?_|simp(disch:=first|assumption|omega) only[AK]))
        all_goals rw[hz.out]
       by_cases n1:(p.nodes.length:Int)≤w.node
       .have hz:AA (BU p s=2):=⟨hbw.out (by rw[hwo.out,I1 (show p.nodes.length≤w.node.toNat by omega)];simp)⟩
        (repeat' (first|simp only[go_sem, *]|(refine sx ?_ ?_<;>intro hc)|refine sy (by omega) fun x hx hm=>?_|simp(disch:=first|assumption|omega) only[AK]))
        all_goals rw[hz.out]
       have n2:0≤w.node:=by omega
       obtain⟨x,hx⟩:=get_some (l:=p.nodes) (i:=w.node.toNat) (by omega);obtain⟨v,_,hv,v0,v1,_⟩:=hF.out.node _ x hx;have hln:=AA.mk hF.out.len;have hlv:=AI hv;by_cases hlen:(w.env.length:Int)=v
       .have hvs:=Mq p (s.ac.map Ab) (s.am.map Bm) (.be (s.bv.map Ar)) (.be (s.waits.map AW)) w.env (by simp;omega) (by simp;omega) (by omega) (by omega);rw[BI,BI]at hvs;have hwo2:AA (CA p st.ci s w=(decide (EF s.ac w.at_)&&(!AY s.ac w.at_&&(Da x.op&&w.env.all (CV.inB p s.am.length s.ac.length))))):=⟨by
         rw[hwo.out,Ci (show 0≤w.node by omega),hx,hv];simp[hlen]⟩
        rw[←hlen]at hv;replace hlen:=AA.mk hlen;cases hsd:sp.dead with
        |true=>
         have hz:AA (BU p s=2):=⟨hbw.out (by rw[hwo2.out,hda.out,hsd];simp)⟩
         (repeat' (first|simp only[go_sem, *,Oa]|(refine sx ?_ ?_<;>intro hc)|refine sy (by omega) fun x hx hm=>?_|simp(disch:=first|assumption|omega) only[AK]))
         all_goals rw[hz.out]
        |false=>
         have hwo3:AA (CA p st.ci s w=(Da x.op&&w.env.all (CV.inB p s.am.length s.ac.length))):=⟨by
          rw[hwo2.out,hin.out,hda.out,hsd];simp⟩
         (repeat' (first|simp only[go_sem, *,Oa]|(refine sx ?_ ?_<;>intro hc)|refine sy (by omega) fun x hx hm=>?_|simp(disch:=first|assumption|omega) only[AK]))
         all_goals first
         |(refine IH.out () ⟨?_⟩;rw[hr.out,D4,hwo3.out];simp only[*,EM];done)
         |(rw[hbw.out (by rw[hwo3.out];simp only[*,CO,GS])];done)
       .have hz:AA (BU p s=2):=⟨hbw.out (by rw[hwo.out,hv,By (show¬(w.env.length:Int)=(some v).getD 0 from hlen)];simp)⟩
        (repeat' (first|simp only[go_sem, *,Oa]|(refine sx ?_ ?_<;>intro hc)|refine sy (by omega) fun x hx hm=>?_|simp(disch:=first|assumption|omega) only[AK]))
        all_goals rw[hz.out]
      .rintro i _ hi him hr;have hz:AA (BU p s=0):=⟨by rw[he.out,hr.out];rfl⟩;refine aw ?_;rw[hz.out]
  .have he3:BU p s=2:=by
    rw[he.out,DT];simp[hss]
   rw[he3];have hss:AA (¬(s.ac.length≤24∧s.bv.length≤40∧s.am.length≤60∧s.waits.length≤40)):=⟨by simpa[BF.small]using hss⟩;clear he3
   (refine Ae rfl Tryz.func32 rfl rfl rfl ?_;show Wp _ _ _ _ (Tryz.f32.body.get rfl) _ _;simp only[Tryz.f32,AS])
   (repeat' (first|simp only[go_sem, *]|(refine sx ?_ ?_<;>intro hc)|refine sy (by omega) fun x hx hm=>?_|simp(disch:=first|assumption|omega) only[AK]))
   all_goals (have:=hss.out;exfalso;omega)
structure Ck where
 em:BF
 ev:List Ib
 work:Int
structure Hf where
 node:Int
 at_:Int
 env:List CV
def Bh{α:Type}(l:List α)(i:Int):List α:=l.take i.toNat++l.drop (i.toNat+1)
def Ih(l:List CV)(i:Int):CV:=(l[i.toNat]?).getD ⟨0,0⟩
def EP(p:AL)(s:BF)(q:Fo):Int:=(((s.bv[q.group.toNat]?).bind fun g=>(p.defs[g.f8.toNat]?).bind fun d=>d.am[q.index.toNat]?).map Hy.many).getD 0
def Yi(s:BF)(n:Int)(q:Fo)(l:List CV):Option BF:=if q.queue.length<12 then some {s with am:=s.am.set n.toNat {q with queue:=q.queue++[l]}}else none
def Qd(p:AL)(s:BF)(n:Int)(l:List CV):Option BF:=match s.am[n.toNat]? with
 |some q=>if AY s.ac q.at_=false∧EP p s q=l.length then Yi s n q l else some s
 |none=>some s
def AH4(at_ n:Int)(l:List CV):Ib:=⟨5,at_,n,0,l⟩
def FP(p:AL)(x:C0)(j:Hf)(st:Ck):Option Ck:=
 let l:=x.args.map (·.value j.env)
 let to:=Ih j.env x.n
 if to.kind=2 then some {st with ev:=st.ev++[AH4 j.at_ to.n l]}
 else if to.kind=3 then(Qd p st.em to.n l).map fun s=>{st with em:=s}else some st
def FU(d:Bs)(g:Al)(i:Nat):Nat→List Hy→List Fo
 |_,[]=>[]
 |k,c::l=>⟨i,k,g.place d c.at_,[]⟩::FU d g i (k+1) l
def DM(d:Bs)(g:Al)(l:List Nc):List BS:=l.map fun y=>⟨g.place d y.rc,false⟩
def Aq(s:BF)(d:Bs)(n:Int)(j:Hf):Al:=⟨n,j.at_,j.env++En s.am.length s.ac.length d⟩
def CW(s:BF)(d:Bs)(g:Al):BF:={s with bv:=s.bv++[g],am:=s.am++FU d g s.bv.length 0 d.am,ac:=s.ac++DM d g d.ac}
def Dm(d:Bs)(g:Al):Nat→List Nc→List Hf
 |_,[]=>[]
 |k,y::l=>⟨y.node,g.place d (k+1),g.env⟩::Dm d g (k+1) l
def Bq(x:C0)(k:Nat)(at_:Int)(env:List CV):List Hf:=match x.kids[k]? with
 |some n=>[⟨n,at_,env⟩]
 |none=>[]
def Ie(p:AL)(x:C0)(j:Hf)(st:Ck):Option (Ck×List Hf):=match p.defs[x.n.toNat]? with
 |some d=>
  let g:=Aq st.em d x.n j
  let s:=CW st.em d g
  if s.am.length≤60∧s.ac.length≤24∧s.bv.length≤40 then some ({st with em:=s},Dm d g 0 d.ac++Bq x 0 j.at_ g.env)else none
 |none=>none
def VS(x:C0)(env:List CV):Nat:=match x.args[0]? with
 |some e=>if (e.value env).kind=1∧(e.value env).n≠0 then 0 else 1
 |none=>1
def Jx(j:Hf)(st:Ck):Option Ck:=if st.em.waits.length<40 then some {st with em:={st.em with waits:=st.em.waits++[⟨j.at_,j.node,j.env⟩]}}else none
def MA(p:AL)(j:Hf)(st:Ck):Option (Ck×List Hf):=match p.nodes[j.node.toNat]? with
 |some x=>
  if x.op=2 then(FP p x j st).map fun st=>(st,[])
  else if x.op=3 then some (st,Bq x 0 j.at_ j.env++Bq x 1 j.at_ j.env)
  else if x.op=4 then Ie p x j st
  else if x.op=5 then some (st,Bq x (VS x j.env) j.at_ j.env)
  else if Da x.op=true then(Jx j st).map fun st=>(st,[])
  else some (st,[])
 |none=>none
def CD(f:Hf→Ck→Option Ck):List Hf→Ck→Option Ck
 |[],st=>some st
 |j::l,st=>(f j st).bind (CD f l)
def Nv(f:Hf→Ck→Option Ck):Option (Ck×List Hf)→Option Ck
 |some (st,js)=>CD f js st
 |none=>none
def GD(p:AL):Nat→Hf→Ck→Option Ck
 |0,_,_=>none
 |k+1,j,st=>if st.work<400 then Nv (GD p k) (MA p j {st with work:=st.work+1})else none
def lc(p:AL)(s:BF)(w:Fq):Bool:=match p.nodes[w.node.toNat]? with
 |some x=>if x.op=7 then true else
  let v:=Ih w.env x.n
  if v.kind=4 then(if x.op=8 then AY s.ac v.n else decide (w.at_≠0)&&(!AY s.ac v.n&& !Cg s.ac v.n w.at_))else false
 |none=>false
def CH(p:AL)(s:BF):Nat→List Fq→List Cc
 |_,[]=>[]
 |i,w::l=>(if lc p s w=true then [⟨i,0,0,[]⟩]else [])++CH p s (i+1) l
def Br:List Nat→List (List Int)
 |[]=>[[]]
 |n::l=>(List.range n).flatMap fun(i:Nat)=>(Br l).map fun t=>(i:Int)::t
def Kr(s:BF)(c:Int):Nat:=((s.am[c.toNat]?).map fun q=>q.queue.length).getD 0
def BP(s:BF)(d:Bs)(g:Al)(r:FG):List Nat:=r.d7.map fun c=>Kr s (g.own d true c)
def De(s:BF)(d:Bs)(g:Al)(r:FG):List (List Int):=if AY s.ac (g.place d r.at_)=true then []else Br (BP s d g r)
def B7(s:BF)(d:Bs)(g:Al)(i:Nat):Nat→List FG→List Cc
 |_,[]=>[]
 |k,r::l=>((De s d g r).map fun t=>⟨-1,i,k,t⟩)++B7 s d g i (k+1) l
def Cd(p:AL)(s:BF):Nat→List Al→List Cc
 |_,[]=>[]
 |i,g::l=>(match p.def? g.f8 with|some d=>B7 s d g i 0 d.rules|none=>[])++Cd p s (i+1) l
def BZ(p:AL)(s:BF):List Cc:=CH p s 0 s.waits++Cd p s 0 s.bv
def EC(s:BF)(c:Int)(k:Int):List CV×BF:=match s.am[c.toNat]? with
 |some q=>(((q.queue[k.toNat]?).getD []),{s with am:=s.am.set c.toNat {q with queue:=Bh q.queue k}})
 |none=>([],s)
def BM(d:Bs)(g:Al):List Int→List Int→BF→List CV×BF
 |c::cs,k::ks,s=>((EC s (g.own d true c) k).1++(BM d g cs ks (EC s (g.own d true c) k).2).1,(BM d g cs ks (EC s (g.own d true c) k).2).2)
 |_,_,s=>([],s)
def Rq(p:AL)(x:Cc)(d:Bs)(g:Al)(r:FG)(s:BF):Option Ck:=
 let t:=BM d g r.d7 x.it s
 let at_:=g.place d r.at_
 GD p 401 ⟨r.node,at_,g.env++t.1⟩ ⟨t.2,[⟨1,at_,x.group,x.i9,t.1⟩],0⟩
def j5(p:AL)(s:BF)(x:Cc):Option Ck:=match s.bv[x.group.toNat]? with
 |some g=>match p.defs[g.f8.toNat]? with
  |some d=>match d.rules[x.i9.toNat]? with
   |some r=>Rq p x d g r s
   |none=>none
  |none=>none
 |none=>none
def G1(l:List BS)(at_:Int):Nat→List BS→List BS
 |_,[]=>[]
 |i,x::m=>{x with dead:=x.dead||Cg l i at_}::G1 l at_ (i+1) m
def Na(s:BF)(at_:Int):BF:=
 let l:=G1 s.ac at_ 0 s.ac
 {ac:=l,bv:=s.bv,am:=s.am.map fun q=>if AY l q.at_=true then{q with queue:=[]}else q,waits:=s.waits.filter fun w=> !AY l w.at_}
def HD(l:List BS)(i n:Int):List BS:=match l[i.toNat]? with
 |some x=>l.set i.toNat {x with rc:=n}
 |none=>l
def LY(p:AL)(s:BF)(w:Fq)(x:C0):Option Ck:=
 let n:=(Ih w.env x.n).n
 if x.op=7 then some ⟨Na s w.at_,[⟨3,w.at_,0,0,[]⟩],0⟩
 else if x.op=6 then CD (GD p 401) (Bq x 0 w.at_ w.env) ⟨{s with ac:=HD s.ac w.at_ n},[⟨2,w.at_,n,0,[]⟩],0⟩
 else CD (GD p 401) (Bq x 0 w.at_ w.env) ⟨s,[⟨4,w.at_,n,0,[]⟩],0⟩
def Pv(p:AL)(s:BF)(i:Int):Option Ck:=match s.waits[i.toNat]? with
 |some w=>match p.nodes[w.node.toNat]? with
  |some x=>LY p {s with waits:=Bh s.waits i} w x
  |none=>none
 |none=>none
def Di(p:AL)(s:BF)(x:Cc):Option Ck:=if x.wait<0 then j5 p s x else Pv p s x.wait
def DJ:BF:=⟨[⟨-1,false⟩],[],[],[]⟩
def B9(n:Nat):List CV:=(List.range n).map fun(i:Nat)=>⟨2,(i:Int)⟩
def Jy(p:AL):Option Ck:=GD p 401 ⟨p.main,0,B9 p.free.length⟩ ⟨DJ,[],0⟩
structure jE(p:AL)(s:BF)(q:Fo):Prop where
 at_:EF s.ac q.at_
 g0:0≤q.group
 i0:0≤q.index
 ex: ∃g d ch,s.bv[q.group.toNat]? =some g∧0≤g.f8∧p.defs[g.f8.toNat]? =some d∧d.am[q.index.toNat]? =some ch
 len:q.queue.length≤12
end Go.Proofs
namespace Go.Abs
variable{P:Program}{C:Cj}{K:AO}{fr:Fr}{b n i:Nat}{Q:Ds→St→Prop}
variable{ops:Array Oper}{al:Nat→Bool}{l:List Oper}{e:Bn}{h:AD}{bs:Nat}{ds:List Df}{ps:List (Nat×Nat)}{fps:List Fp}{ρ:List Nat}{dst:Option Tmp}
theorem Xv(ρ:List Nat):KF (some ρ) []=true:=rfl
theorem zO(ρ:List Nat)(id:Id)(o:Obj)(δ:AD):KF (some ρ) ((id,o)::δ)=(Id.under ρ id&&KF (some ρ) δ):=rfl
theorem Ku(ρ:List Nat)(a j:Nat):Id.under ρ (a::j::ρ)=true:=under_iff.2 ⟨[a,j],rfl⟩
theorem DQ{Post:Ad→Prop}{q:E (Ad×AD)}(hk: ∃o h',q=.ok (o,h')∧Post o)(hn: ∀o h',Post o→roP C K fr ops b n al l i dst e h bs ds Q (.ok (o,h'))):roP C K fr ops b n al l i dst e h bs ds Q q:=by
 obtain⟨o,h',e,hp⟩:=hk;rw[e];exact hn o h' hp
theorem ACz(v:AV)(h':AD):roP C K fr ops b n al l i dst e h bs ds Q (.ok (.ret v,h'))=(flat v=true∧Fw C K fr ops b n al l (i+1) ⟨Ch e dst v,h,bs,ds⟩ Q):=rfl
theorem ACy(v:AV)(h':AD):roP C K fr ops b n al l i dst e h bs ds Q (.ok (.f9 v,h'))=(flat v=true∧al i=true∧Q (.f9 v) ⟨e,h,b+n,ds⟩):=rfl
def roF(C:Cj)(K:AO)(fr:Fr)(ops:Array Oper)(b n:Nat)(al:Nat→Bool)(ps:List (Nat×Nat))(fps:List Fp)(l:List Oper)(i:Nat)(dst:Option Tmp)(e:Bn)(h:AD)(bs:Nat)(ds:List Df)(Q:Ds→St→Prop):E (Ad×AD)→Prop
 |.ok (.ret v,_)=>flat v=true∧Gp C K fr ops b n al ps (fps++[⟨none,some []⟩]) l (i+1) ⟨Ch e dst v,h,bs,ds⟩ Q
 |.ok (.f9 v,_)=>flat v=true∧al i=true∧Dp fps ps=true∧Q (.f9 v) ⟨e,h,b+n,ds⟩
 |.err _=>False
theorem xb(dst:Option Tmp)(ρ:List Nat)(f:FuncId)(az:List AV)(hx:(Dy h.get az).isNone):Lg C K fr ops b n al ps fps l i dst ρ e h bs ds Q f az .ro=roF C K fr ops b n al ps fps l i dst e h bs ds Q (K (.fn f) (Mm h.get az) (h.puts (az.flatMap (mark h.get))) ρ true (some ρ)):=by
 have hx:Dy h.get az=none:=by simpa using hx
 simp only[Lg,Dh,hx,FK,BO,Bt,An];cases K (.fn f) (Mm h.get az) (h.puts (az.flatMap (mark h.get))) ρ true (some ρ)with
 |err l=>rfl
 |ok r=>
  obtain⟨o,h'⟩:=r;cases o<;>simp only[Pg,roF,A8]<;>split<;>simp_all [B8]
theorem DA{Post:Ad→Prop}{q:E (Ad×AD)}(hk: ∃o h',q=.ok (o,h')∧Post o)(hn: ∀o h',Post o→roF C K fr ops b n al ps fps l i dst e h bs ds Q (.ok (o,h'))):roF C K fr ops b n al ps fps l i dst e h bs ds Q q:=by
 obtain⟨o,h',e,hp⟩:=hk;rw[e];exact hn o h' hp
theorem ACx(v:AV)(h':AD):roF C K fr ops b n al ps fps l i dst e h bs ds Q (.ok (.ret v,h'))=(flat v=true∧Gp C K fr ops b n al ps (fps++[⟨none,some []⟩]) l (i+1) ⟨Ch e dst v,h,bs,ds⟩ Q):=rfl
theorem ACw(v:AV)(h':AD):roF C K fr ops b n al ps fps l i dst e h bs ds Q (.ok (.f9 v,h'))=(flat v=true∧al i=true∧Dp fps ps=true∧Q (.f9 v) ⟨e,h,b+n,ds⟩):=rfl
theorem ADH(ρ:List Nat)(a j:Nat)(o:Obj)(δ:AD):KF (some ρ) ((a::j::ρ,o)::δ)=KF (some ρ) δ:=by rw[zO,Ku,EM]
attribute [go_sem] Xv ADH ACz ACy xb ACx ACw
end Go.Abs
namespace Go.Proofs
open Go Go.Abs
set_option maxRecDepth 100000
set_option maxHeartbeats 4000000
def Ji(π:List Nat)(sz n:Nat)(es:List (List Aa)):Ad×AD:=if n=0 then(.ret .co,[])else(.ret (.eq (1::0::π) 0 n),[(1::0::π,.d9 sz es)])
theorem uJ(f:FuncId)(hmd:cfg.mode f=.auto)(l:List BS)(hf: ∀x∈l,BB (KL Tryz.prog cfg) f [.agg [.d (.int .i64 (x.rc)),.d (.bool (x.dead))]] []=.ok (.ret (.agg [.d (.int .i64 (x.rc)),.d (.bool (x.dead))]),[]))(hl:l.length≤1000000)(k:Nat)(ρ:List Nat):BB (KL Tryz.prog cfg) 148 [.d (.be (l.map Ab)),.fn f [] []] (k::ρ)=.ok (Ji (k::ρ) 2 l.length (l.map Ab)):=by
 (refine Ae rfl Tryz.func148 rfl rfl rfl ?_;show Wp _ _ _ _ (Tryz.f148.body.get rfl) _ _;simp only[Tryz.f148,AS])
 refine aw ?_;refine AX l _ (S:=fun m i (a:(AV×AD)×Nat)=>⟨[(1,.fn f [] []),(5,a.1.1),(8,.d (.be (l.map Ab))),(9,.d (.int .i64 (m))),(10,.d (.int .i64 (i)))],a.1.2,a.2,[]⟩)
  (Inv:=fun i rest a=>AA (i=0∧a=((.co,[]),0)∨0<i∧a=((.eq (1::0::k::ρ) 0 i,[(1::0::k::ρ,.d9 2 ((l.take i).map Ab))]),1))) (b0:=((_,[]),_)) ?_ ⟨.inl ⟨rfl,rfl⟩⟩ ?_ ?_
 .rfl
 .rintro i x a hy hi him hv IH;have hx:=hf x (Ac hy);replace hf:=AA.mk hf;rcases hv.out with⟨rfl,rfl⟩|⟨hi0,rfl⟩
  .clear hv;have him0:(0:Int)<l.length:=him;dsimp only at*;refine aw ?_;refine IH.out ((_,_),_) ⟨.inr ⟨by omega,?_⟩⟩;rw[KW,hy];rfl
  .clear hv;dsimp only at*;have tk:(l.take i).length=i:=by simp;omega
   have nle: ¬i+1≤i:=by omega
   refine aw ?_;refine IH.out ((_,_),_) ⟨.inr ⟨by omega,?_⟩⟩;have tk2:List.take i (List.map Ab (List.take i l))=List.map Ab (List.take i l):=CS (by simp;omega);rw[KW,hy,tk2,D1];rfl
 .rintro i a hi him hv;replace hf:=AA.mk hf;rcases hv.out with⟨rfl,rfl⟩|⟨hi0,rfl⟩
  .clear hv;have him0: ¬(0:Int)<l.length:=him;dsimp only at*;have hl0:=AA.mk (hi.out.symm);refine aw ?_;rw[Ji,D0 hl0.out]
  .clear hv;dsimp only at*;by_cases h0:l.length=0
   .exfalso;have:=hi.out;omega
   .rw[Ji,CI h0];have hi2:=hi.out;subst hi2;rw[EL];exact au
theorem lh(f:FuncId)(hmd:cfg.mode f=.auto)(l:List Al)(hf: ∀x∈l,BB (KL Tryz.prog cfg) f [.agg [.d (.int .i64 (x.f8)),.d (.int .i64 (x.at_)),.d (.be (x.env.map AN))]] []=.ok (.ret (.agg [.d (.int .i64 (x.f8)),.d (.int .i64 (x.at_)),.d (.be (x.env.map AN))]),[]))(hl:l.length≤1000000)(k:Nat)(ρ:List Nat):BB (KL Tryz.prog cfg) 150 [.d (.be (l.map Ar)),.fn f [] []] (k::ρ)=.ok (Ji (k::ρ) 3 l.length (l.map Ar)):=by
 (refine Ae rfl Tryz.func150 rfl rfl rfl ?_;show Wp _ _ _ _ (Tryz.f150.body.get rfl) _ _;simp only[Tryz.f150,AS])
 refine aw ?_;refine AX l _ (S:=fun m i (a:(AV×AD)×Nat)=>⟨[(1,.fn f [] []),(5,a.1.1),(8,.d (.be (l.map Ar))),(9,.d (.int .i64 (m))),(10,.d (.int .i64 (i)))],a.1.2,a.2,[]⟩)
  (Inv:=fun i rest a=>AA (i=0∧a=((.co,[]),0)∨0<i∧a=((.eq (1::0::k::ρ) 0 i,[(1::0::k::ρ,.d9 3 ((l.take i).map Ar))]),1))) (b0:=((_,[]),_)) ?_ ⟨.inl ⟨rfl,rfl⟩⟩ ?_ ?_
 .rfl
 .rintro i x a hy hi him hv IH;have hx:=hf x (Ac hy);replace hf:=AA.mk hf;rcases hv.out with⟨rfl,rfl⟩|⟨hi0,rfl⟩
  .clear hv;have him0:(0:Int)<l.length:=him;dsimp only at*;refine aw ?_;refine IH.out ((_,_),_) ⟨.inr ⟨by omega,?_⟩⟩;rw[KW,hy];rfl
  .clear hv;dsimp only at*;have tk:(l.take i).length=i:=by simp;omega
   have nle: ¬i+1≤i:=by omega
   refine aw ?_;refine IH.out ((_,_),_) ⟨.inr ⟨by omega,?_⟩⟩;have tk2:List.take i (List.map Ar (List.take i l))=List.map Ar (List.take i l):=CS (by simp;omega);rw[KW,hy,tk2,D1];rfl
 .rintro i a hi him hv;replace hf:=AA.mk hf;rcases hv.out with⟨rfl,rfl⟩|⟨hi0,rfl⟩
  .clear hv;have him0: ¬(0:Int)<l.length:=him;dsimp only at*;have hl0:=AA.mk (hi.out.symm);refine aw ?_;rw[Ji,D0 hl0.out]
  .clear hv;dsimp only at*;by_cases h0:l.length=0
   .exfalso;have:=hi.out;omega
   .rw[Ji,CI h0];have hi2:=hi.out;subst hi2;rw[EL];exact au
theorem uK(f:FuncId)(hmd:cfg.mode f=.auto)(l:List Fq)(hf: ∀x∈l,BB (KL Tryz.prog cfg) f [.agg [.d (.int .i64 (x.at_)),.d (.int .i64 (x.node)),.d (.be (x.env.map AN))]] []=.ok (.ret (.agg [.d (.int .i64 (x.at_)),.d (.int .i64 (x.node)),.d (.be (x.env.map AN))]),[]))(hl:l.length≤1000000)(k:Nat)(ρ:List Nat):BB (KL Tryz.prog cfg) 156 [.d (.be (l.map AW)),.fn f [] []] (k::ρ)=.ok (Ji (k::ρ) 3 l.length (l.map AW)):=by
 (refine Ae rfl Tryz.func156 rfl rfl rfl ?_;show Wp _ _ _ _ (Tryz.f156.body.get rfl) _ _;simp only[Tryz.f156,AS])
 refine aw ?_;refine AX l _ (S:=fun m i (a:(AV×AD)×Nat)=>⟨[(1,.fn f [] []),(5,a.1.1),(8,.d (.be (l.map AW))),(9,.d (.int .i64 (m))),(10,.d (.int .i64 (i)))],a.1.2,a.2,[]⟩)
  (Inv:=fun i rest a=>AA (i=0∧a=((.co,[]),0)∨0<i∧a=((.eq (1::0::k::ρ) 0 i,[(1::0::k::ρ,.d9 3 ((l.take i).map AW))]),1))) (b0:=((_,[]),_)) ?_ ⟨.inl ⟨rfl,rfl⟩⟩ ?_ ?_
 .rfl
 .rintro i x a hy hi him hv IH;have hx:=hf x (Ac hy);replace hf:=AA.mk hf;rcases hv.out with⟨rfl,rfl⟩|⟨hi0,rfl⟩
  .clear hv;have him0:(0:Int)<l.length:=him;dsimp only at*;refine aw ?_;refine IH.out ((_,_),_) ⟨.inr ⟨by omega,?_⟩⟩;rw[KW,hy];rfl
  .clear hv;dsimp only at*;have tk:(l.take i).length=i:=by simp;omega
   have nle: ¬i+1≤i:=by omega
   refine aw ?_;refine IH.out ((_,_),_) ⟨.inr ⟨by omega,?_⟩⟩;have tk2:List.take i (List.map AW (List.take i l))=List.map AW (List.take i l):=CS (by simp;omega);rw[KW,hy,tk2,D1];rfl
 .rintro i a hi him hv;replace hf:=AA.mk hf;rcases hv.out with⟨rfl,rfl⟩|⟨hi0,rfl⟩
  .clear hv;have him0: ¬(0:Int)<l.length:=him;dsimp only at*;have hl0:=AA.mk (hi.out.symm);refine aw ?_;rw[Ji,D0 hl0.out]
  .clear hv;dsimp only at*;by_cases h0:l.length=0
   .exfalso;have:=hi.out;omega
   .rw[Ji,CI h0];have hi2:=hi.out;subst hi2;rw[EL];exact au
theorem AAJ(f:FuncId)(hmd:cfg.mode f=.auto)(l:List CV)(hf: ∀x∈l,BB (KL Tryz.prog cfg) f [.agg [.d (.int .i64 (x.kind)),.d (.int .i64 (x.n))]] []=.ok (.ret (.agg [.d (.int .i64 (x.kind)),.d (.int .i64 (x.n))]),[]))(hl:l.length≤1000000)(k:Nat)(ρ:List Nat):BB (KL Tryz.prog cfg) 181 [.d (.be (l.map AN)),.fn f [] []] (k::ρ)=.ok (Ji (k::ρ) 2 l.length (l.map AN)):=by
 (refine Ae rfl Tryz.func181 rfl rfl rfl ?_;show Wp _ _ _ _ (Tryz.f181.body.get rfl) _ _;simp only[Tryz.f181,AS])
 refine aw ?_;refine AX l _ (S:=fun m i (a:(AV×AD)×Nat)=>⟨[(1,.fn f [] []),(5,a.1.1),(8,.d (.be (l.map AN))),(9,.d (.int .i64 (m))),(10,.d (.int .i64 (i)))],a.1.2,a.2,[]⟩)
  (Inv:=fun i rest a=>AA (i=0∧a=((.co,[]),0)∨0<i∧a=((.eq (1::0::k::ρ) 0 i,[(1::0::k::ρ,.d9 2 ((l.take i).map AN))]),1))) (b0:=((_,[]),_)) ?_ ⟨.inl ⟨rfl,rfl⟩⟩ ?_ ?_
 .rfl
 .rintro i x a hy hi him hv IH;have hx:=hf x (Ac hy);replace hf:=AA.mk hf;rcases hv.out with⟨rfl,rfl⟩|⟨hi0,rfl⟩
  .clear hv;have him0:(0:Int)<l.length:=him;dsimp only at*;refine aw ?_;refine IH.out ((_,_),_) ⟨.inr ⟨by omega,?_⟩⟩;rw[KW,hy];rfl
  .clear hv;dsimp only at*;have tk:(l.take i).length=i:=by simp;omega
   have nle: ¬i+1≤i:=by omega
   refine aw ?_;refine IH.out ((_,_),_) ⟨.inr ⟨by omega,?_⟩⟩;have tk2:List.take i (List.map AN (List.take i l))=List.map AN (List.take i l):=CS (by simp;omega);rw[KW,hy,tk2,D1];rfl
 .rintro i a hi him hv;replace hf:=AA.mk hf;rcases hv.out with⟨rfl,rfl⟩|⟨hi0,rfl⟩
  .clear hv;have him0: ¬(0:Int)<l.length:=him;dsimp only at*;have hl0:=AA.mk (hi.out.symm);refine aw ?_;rw[Ji,D0 hl0.out]
  .clear hv;dsimp only at*;by_cases h0:l.length=0
   .exfalso;have:=hi.out;omega
   .rw[Ji,CI h0];have hi2:=hi.out;subst hi2;rw[EL];exact au
theorem AAI(f:FuncId)(hmd:cfg.mode f=.auto)(l:List (List CV))(hf: ∀x∈l,BB (KL Tryz.prog cfg) f [.agg [.d (.be (x.map AN))]] []=.ok (.ret (.agg [.d (.be (x.map AN))]),[]))(hl:l.length≤1000000)(k:Nat)(ρ:List Nat):BB (KL Tryz.prog cfg) 183 [.d (.be (l.map BG)),.fn f [] []] (k::ρ)=.ok (Ji (k::ρ) 1 l.length (l.map BG)):=by
 (refine Ae rfl Tryz.func183 rfl rfl rfl ?_;show Wp _ _ _ _ (Tryz.f183.body.get rfl) _ _;simp only[Tryz.f183,AS])
 refine aw ?_;refine AX l _ (S:=fun m i (a:(AV×AD)×Nat)=>⟨[(1,.fn f [] []),(5,a.1.1),(8,.d (.be (l.map BG))),(9,.d (.int .i64 (m))),(10,.d (.int .i64 (i)))],a.1.2,a.2,[]⟩)
  (Inv:=fun i rest a=>AA (i=0∧a=((.co,[]),0)∨0<i∧a=((.eq (1::0::k::ρ) 0 i,[(1::0::k::ρ,.d9 1 ((l.take i).map BG))]),1))) (b0:=((_,[]),_)) ?_ ⟨.inl ⟨rfl,rfl⟩⟩ ?_ ?_
 .rfl
 .rintro i x a hy hi him hv IH;have hx:=hf x (Ac hy);replace hf:=AA.mk hf;rcases hv.out with⟨rfl,rfl⟩|⟨hi0,rfl⟩
  .clear hv;have him0:(0:Int)<l.length:=him;dsimp only at*;refine aw ?_;refine IH.out ((_,_),_) ⟨.inr ⟨by omega,?_⟩⟩;rw[KW,hy];rfl
  .clear hv;dsimp only at*;have tk:(l.take i).length=i:=by simp;omega
   have nle: ¬i+1≤i:=by omega
   refine aw ?_;refine IH.out ((_,_),_) ⟨.inr ⟨by omega,?_⟩⟩;have tk2:List.take i (List.map BG (List.take i l))=List.map BG (List.take i l):=CS (by simp;omega);rw[KW,hy,tk2,D1];rfl
 .rintro i a hi him hv;replace hf:=AA.mk hf;rcases hv.out with⟨rfl,rfl⟩|⟨hi0,rfl⟩
  .clear hv;have him0: ¬(0:Int)<l.length:=him;dsimp only at*;have hl0:=AA.mk (hi.out.symm);refine aw ?_;rw[Ji,D0 hl0.out]
  .clear hv;dsimp only at*;by_cases h0:l.length=0
   .exfalso;have:=hi.out;omega
   .rw[Ji,CI h0];have hi2:=hi.out;subst hi2;rw[EL];exact au
theorem ba(x:BS):BB (KL Tryz.prog cfg) 149 [.agg [.d (.int .i64 (x.rc)),.d (.bool (x.dead))]] []=.ok (.ret (.agg [.d (.int .i64 (x.rc)),.d (.bool (x.dead))]),[]):=by
 (refine Ae rfl Tryz.func149 rfl rfl rfl ?_;show Wp _ _ _ _ (Tryz.f149.body.get rfl) _ _;simp only[Tryz.f149,AS])
 exact au
theorem iV(x:CV):BB (KL Tryz.prog cfg) 182 [.agg [.d (.int .i64 (x.kind)),.d (.int .i64 (x.n))]] []=.ok (.ret (.agg [.d (.int .i64 (x.kind)),.d (.int .i64 (x.n))]),[]):=by
 (refine Ae rfl Tryz.func182 rfl rfl rfl ?_;show Wp _ _ _ _ (Tryz.f182.body.get rfl) _ _;simp only[Tryz.f182,AS])
 exact au
end Go.Proofs
namespace Go.Abs
theorem eR(k:IntKind)(a b:Int)(v:AV)(es:List (Aa×AV)):C4 ((.int k a,v)::es) (.int k b)=if a=b then some (some v)else C4 es (.int k b):=by
 rw[C4];by_cases h:a=b
 .have hb:(a==b)=decide (a=b):=by rw[Lc];simp
  simp[HJ,h,hb]
 .have hb:(a==b)=decide (a=b):=by rw[Lc];simp
  simp[HJ,h,hb]
attribute [go_sem] eR
end Go.Abs
namespace Go.Proofs
open Go Go.Abs
def Ic:List (Aa×AV):=[(.int .i64 2,.fn 110 [] []),(.int .i64 3,.fn 111 [] []),(.int .i64 4,.fn 112 [] []),(.int .i64 5,.fn 113 [] []),(.int .i64 6,.fn 114 [] []),(.int .i64 7,.fn 114 [] []),(.int .i64 8,.fn 114 [] [])]
def A5(x:Fo)(v:AV):List AV:=[.d (.int .i64 x.group),.d (.int .i64 x.index),.d (.int .i64 x.at_),v]
end Go.Proofs
namespace Go.Abs
variable{P:Program}{C:Cj}{K:AO}{fr:Fr}{b n i:Nat}{Q:Ds→St→Prop}
variable{ops:Array Oper}{al:Nat→Bool}{l:List Oper}{e:Bn}{h:AD}{bs:Nat}{ds:List Df}{ps:List (Nat×Nat)}{fps:List Fp}{ρ:List Nat}{dst:Option Tmp}
theorem gq(az:List AV)(id:Id)(o m sz:Nat)(es:List (List Aa))(hx:Bf (.eq id o m) [(id,.d9 sz es)]=some (id,.d9 sz es)):Dc C K fr ops b n al l i az dst e h bs ds Q (.ok (.ret (.eq id o m),[(id,.d9 sz es)]))=Fw C K fr ops b n al l (i+1) ⟨Ch e dst (.eq id o m),(id,.d9 sz es)::h,bs,ds⟩ Q:=qz _ az _ _ _ rfl hx
theorem gk(az:List AV)(id:Id)(o m sz:Nat)(es:List (List Aa))(hx:Bf (.eq id o m) [(id,.d9 sz es)]=some (id,.d9 sz es)):Db C K fr ops b n al ps fps l i az dst e h bs ds Q (.ok (.ret (.eq id o m),[(id,.d9 sz es)]))=Gp C K fr ops b n al ps (fps++[⟨some (Cz h.get (Az az)),some [id]⟩]) l (i+1) ⟨Ch e dst (.eq id o m),(id,.d9 sz es)::h,bs,ds⟩ Q:=qy _ az _ _ _ rfl hx
attribute [go_sem] gq gk
end Go.Abs
namespace Go.Proofs
open Go Go.Abs
set_option maxRecDepth 100000
set_option maxHeartbeats 4000000
theorem Ct{π:List Nat}{sz n:Nat}{es:List (List Aa)}(h:n=0):Ji π sz n es=(.ret .co,[]):=by rw[Ji,D0 h]
theorem DN{π:List Nat}{sz n:Nat}{es:List (List Aa)}(h:n≠0):Ji π sz n es=(.ret (.eq (1::0::π) 0 n),[(1::0::π,.d9 sz es)]):=by rw[Ji,CI h]
theorem Gi(id:Abs.Id)(o n sz:Nat)(es:List (List Aa)):Bf (.eq id o n) [(id,.d9 sz es)]=if es.all (·.all EU)then some (id,.d9 sz es)else none:=by
 simp only[Bf,go_sem,is_self,F2]
theorem Cw(l:List CV)(id:Abs.Id)(o n:Nat):Bf (.eq id o n) [(id,.d9 2 (l.map AN))]=some (id,.d9 2 (l.map AN)):=by
 rw[Gi,D0];simp[AN,EU]
theorem Jz{l:List (List CV)}(h:l.length≠0)(id:Abs.Id)(o n:Nat):Bf (.eq id o n) [(id,.d9 1 (l.map BG))]=none:=by
 rw[Gi,CI];cases l with
 |nil=>exact absurd rfl h
 |cons x l=>simp[BG,EU]
theorem O6(l:List BS)(id:Abs.Id)(o n:Nat):Bf (.eq id o n) [(id,.d9 2 (l.map Ab))]=some (id,.d9 2 (l.map Ab)):=by
 rw[Gi,D0];simp[Ab,EU]
theorem Nj{l:List Al}(h:l.length≠0)(id:Abs.Id)(o n:Nat):Bf (.eq id o n) [(id,.d9 3 (l.map Ar))]=none:=by
 rw[Gi,CI];cases l with
 |nil=>exact absurd rfl h
 |cons x l=>simp[Ar,EU]
theorem O7{l:List Fq}(h:l.length≠0)(id:Abs.Id)(o n:Nat):Bf (.eq id o n) [(id,.d9 3 (l.map AW))]=none:=by
 rw[Gi,CI];cases l with
 |nil=>exact absurd rfl h
 |cons x l=>simp[AW,EU]
theorem KD(l:List CV)(hl:l.length≤1000000)(k:Nat)(ρ:List Nat):BB (KL Tryz.prog cfg) 152 [.d (.be (l.map AN))] (k::ρ)=.ok (Ji (2::k::ρ) 2 l.length (l.map AN)):=by
 have h1:=fun k ρ=>AAJ 182 rfl l (fun x _=>iV x) hl k ρ;by_cases h0:l.length=0
 .rw[Ct h0];simp only[Ct h0]at h1
  (refine Ae rfl Tryz.func152 rfl rfl rfl ?_;show Wp _ _ _ _ (Tryz.f152.body.get rfl) _ _;simp only[Tryz.f152,AS])
  exact au
 .rw[DN h0];simp only[DN h0]at h1;have fa:=Cw
  (refine Ae rfl Tryz.func152 rfl rfl rfl ?_;show Wp _ _ _ _ (Tryz.f152.body.get rfl) _ _;simp only[Tryz.f152,AS])
  exact au
theorem rK(x:List CV)(hl:x.length≤1000000):BB (KL Tryz.prog cfg) 184 [.agg [.d (.be (x.map AN))]] []=.ok (.ret (.agg [.d (.be (x.map AN))]),[]):=by
 have h1:=KD x hl;by_cases h0:x.length=0
 .simp only[Ct h0]at h1;obtain rfl:=DL h0;clear h0;simp only[Dl]at h1
  (refine Ae rfl Tryz.func184 rfl rfl rfl ?_;show Wp _ _ _ _ (Tryz.f184.body.get rfl) _ _;simp only[Tryz.f184,AS])
  (repeat' (first|simp only[go_sem, *,Dl]|(refine sx ?_ ?_<;>intro hc)|refine sy (by omega) fun x hx hm=>?_|simp(disch:=first|assumption|omega) only[AK]))
 .simp only[DN h0]at h1;have fa:=Cw;have tk:List.take x.length (List.map AN x)=List.map AN x:=CS (by simp)
  (refine Ae rfl Tryz.func184 rfl rfl rfl ?_;show Wp _ _ _ _ (Tryz.f184.body.get rfl) _ _;simp only[Tryz.f184,AS])
  exact au
theorem yN(l:List (List CV))(hl:l.length≤1000000)(h: ∀x∈l,x.length≤1000000)(k:Nat)(ρ:List Nat):BB (KL Tryz.prog cfg) 155 [.d (.be (l.map BG))] (k::ρ)=.ok (Ji (2::k::ρ) 1 l.length (l.map BG)):=by
 have h1:=fun k ρ=>AAI 184 rfl l (fun x hx=>rK x (h x hx)) hl k ρ;replace h:=AA.mk h;by_cases h0:l.length=0
 .rw[Ct h0];simp only[Ct h0]at h1
  (refine Ae rfl Tryz.func155 rfl rfl rfl ?_;show Wp _ _ _ _ (Tryz.f155.body.get rfl) _ _;simp only[Tryz.f155,AS])
  exact au
 .rw[DN h0];simp only[DN h0]at h1;have fa:=Jz h0
  (refine Ae rfl Tryz.func155 rfl rfl rfl ?_;show Wp _ _ _ _ (Tryz.f155.body.get rfl) _ _;simp only[Tryz.f155,AS])
  exact au
theorem SR(x:Al)(hl:x.env.length≤1000000):BB (KL Tryz.prog cfg) 151 [.agg [.d (.int .i64 (x.f8)),.d (.int .i64 (x.at_)),.d (.be (x.env.map AN))]] []=.ok (.ret (.agg [.d (.int .i64 (x.f8)),.d (.int .i64 (x.at_)),.d (.be (x.env.map AN))]),[]):=by
 have h1:=KD x.env hl;by_cases h0:x.env.length=0
 .simp only[Ct h0]at h1;have h2:=DL h0;simp only[h2,Dl]at h1
  (refine Ae rfl Tryz.func151 rfl rfl rfl ?_;show Wp _ _ _ _ (Tryz.f151.body.get rfl) _ _;simp only[Tryz.f151,AS])
  (repeat' (first|simp only[go_sem, *,Dl]|(refine sx ?_ ?_<;>intro hc)|refine sy (by omega) fun x hx hm=>?_|simp(disch:=first|assumption|omega) only[AK]))
 .simp only[DN h0]at h1;have fa:=Cw;have tk:List.take x.env.length (List.map AN x.env)=List.map AN x.env:=CS (by simp)
  (refine Ae rfl Tryz.func151 rfl rfl rfl ?_;show Wp _ _ _ _ (Tryz.f151.body.get rfl) _ _;simp only[Tryz.f151,AS])
  exact au
theorem UU(x:Fq)(hl:x.env.length≤1000000):BB (KL Tryz.prog cfg) 157 [.agg [.d (.int .i64 (x.at_)),.d (.int .i64 (x.node)),.d (.be (x.env.map AN))]] []=.ok (.ret (.agg [.d (.int .i64 (x.at_)),.d (.int .i64 (x.node)),.d (.be (x.env.map AN))]),[]):=by
 have h1:=KD x.env hl;by_cases h0:x.env.length=0
 .simp only[Ct h0]at h1;have h2:=DL h0;simp only[h2,Dl]at h1
  (refine Ae rfl Tryz.func157 rfl rfl rfl ?_;show Wp _ _ _ _ (Tryz.f157.body.get rfl) _ _;simp only[Tryz.f157,AS])
  (repeat' (first|simp only[go_sem, *,Dl]|(refine sx ?_ ?_<;>intro hc)|refine sy (by omega) fun x hx hm=>?_|simp(disch:=first|assumption|omega) only[AK]))
 .simp only[DN h0]at h1;have fa:=Cw;have tk:List.take x.env.length (List.map AN x.env)=List.map AN x.env:=CS (by simp)
  (refine Ae rfl Tryz.func157 rfl rfl rfl ?_;show Wp _ _ _ _ (Tryz.f157.body.get rfl) _ _;simp only[Tryz.f157,AS])
  exact au
def OD(π:List Nat)(x:Fo):Ad×AD:=if x.queue.length=0 then(.ret (.agg (A5 x .co)),[(0::0::π,.box (A5 x (.d (.be (x.queue.map BG))))),(0::1::π,.box (A5 x .co))])else(.ret (.agg (A5 x (.eq (1::0::2::10::π) 0 x.queue.length))),[(1::0::2::10::π,.d9 1 (x.queue.map BG)),(0::0::π,.box (A5 x (.d (.be (x.queue.map BG))))),(0::1::π,.box (A5 x (.eq (1::0::2::10::π) 0 x.queue.length)))])
theorem Wx(x:Fo)(hl:x.queue.length≤1000000)(h: ∀y∈x.queue,y.length≤1000000)(k:Nat)(ρ:List Nat):BB (KL Tryz.prog cfg) 154 [.agg [.d (.int .i64 (x.group)),.d (.int .i64 (x.index)),.d (.int .i64 (x.at_)),.d (.be (x.queue.map BG))]] (k::ρ)=.ok (OD (k::ρ) x):=by
 have h1:=yN x.queue hl h;replace h:=AA.mk h;by_cases h0:x.queue.length=0
 .rw[OD,D0 h0];simp only[Ct h0]at h1
  (refine Ae rfl Tryz.func154 rfl rfl rfl ?_;show Wp _ _ _ _ (Tryz.f154.body.get rfl) _ _;simp only[Tryz.f154,AS])
  (repeat' (first|simp only[go_sem, *,A5]|(refine sx ?_ ?_<;>intro hc)|refine sy (by omega) fun x hx hm=>?_|simp(disch:=first|assumption|omega) only[AK]))
 .rw[OD,CI h0];simp only[DN h0]at h1;have fa:=Jz h0
  (refine Ae rfl Tryz.func154 rfl rfl rfl ?_;show Wp _ _ _ _ (Tryz.f154.body.get rfl) _ _;simp only[Tryz.f154,AS])
  (repeat' (first|simp only[go_sem, *,A5]|(refine sx ?_ ?_<;>intro hc)|refine sy (by omega) fun x hx hm=>?_|simp(disch:=first|assumption|omega) only[AK]))
end Go.Proofs
namespace Go.Abs
theorem kI(l:List Id)(x y:Id):y∈Lf l x↔y∈l∨y=x:=by
 unfold Lf;split
 .rename_i h;obtain⟨z,hz,e⟩:=S1.1 h;have:x=z:=is_iff.1 e;subst this;constructor
  .exact .inl
  .rintro(h|rfl)
   .exact h
   .exact hz
 .simp
theorem YD{l:List Id}(h:l.Nodup)(x:Id):(Lf l x).Nodup:=by
 unfold Lf;split
 .exact h
 .rename_i hx;rw[Ls];refine⟨h,by simp,fun a ha b hb=>?_⟩;rw[As]at hb;subst hb;rintro rfl;have:l.any (Id.is a)=true:=S1.2 ⟨a,ha,is_self a⟩;rw[this]at hx;cases hx
theorem kJ(l:List Id)(x:Id): ∃m,Lf l x=l++m:=by
 unfold Lf;split
 .exact⟨[],by simp⟩
 .exact⟨[x],rfl⟩
theorem HO: ∀(new l:List Id) (y:Id),y∈E6 l new↔y∈l∨y∈new
 |[],l,y=>by simp[E6]
 |x::new,l,y=>by
  have:=HO new (Lf l x) y;unfold E6 at*;rw[Md,this,kI,Co,or_assoc]
theorem K0: ∀(new:List Id) {l:List Id},l.Nodup→(E6 l new).Nodup
 |[],l,h=>h
 |x::new,l,h=>K0 new (YD h x)
theorem R5: ∀(new l:List Id),∃m,E6 l new=l++m
 |[],l=>⟨[],by simp[E6]⟩
 |x::new,l=>by
  obtain⟨m,hm⟩:=kJ l x;obtain⟨m2,hm2⟩:=R5 new (Lf l x);refine⟨m++m2,?_⟩;have:E6 l (x::new)=E6 (Lf l x) new:=rfl;rw[this,hm2,hm,D9]
theorem TV(h:AD)(M:List Id)(hc: ∀x∈M,∀y∈Fv (h.get x),y∈M): ∀(n:Nat) (l:List Id) (i:Nat),l.Nodup→(∀x∈l,x∈M)→(∀j x,j<i→l[j]? =some x→ ∀y∈Fv (h.get x),y∈l)→M.length≤i+n→
 (CP h n l i).Nodup∧(∀x∈CP h n l i,x∈M)∧(∀x∈l,x∈CP h n l i)∧ ∀x∈CP h n l i,∀y∈Fv (h.get x),y∈CP h n l i
 |0,l,i,hn,hm,hd,hi=>by
  have e:CP h 0 l i=l:=rfl;rw[e];refine⟨hn,hm,fun x hx=>hx,fun x hx y hy=>?_⟩;obtain⟨j,hj⟩:=Hm hx;have h1:=hn.length_le_of_subset (l₂:=M) hm;have h2:=(BE.1 hj).1;exact hd j x (by omega) hj y hy
 |n+1,l,i,hn,hm,hd,hi=>by
  cases hl:l[i]? with
  |none=>
   have e:CP h (n+1) l i=l:=by rw[CP,hl]
   rw[e];refine⟨hn,hm,fun x hx=>hx,fun x hx y hy=>?_⟩;obtain⟨j,hj⟩:=Hm hx;have h1:=List.getElem?_eq_none_iff.1 hl;have h2:=(BE.1 hj).1;exact hd j x (by omega) hj y hy
  |some id=>
   have e:CP h (n+1) l i=CP h n (E6 l (Fv (h.get id))) (i+1):=by rw[CP,hl]
   rw[e];have hid:=Ac hl;obtain⟨m,hm2⟩:=R5 (Fv (h.get id)) l;have ih:=TV h M hc n (E6 l (Fv (h.get id))) (i+1) (K0 _ hn) (fun x hx=>by
    rcases(HO _ _ _).1 hx with hx|hx
    .exact hm x hx
    .exact hc id (hm id hid) x hx) (fun j x hj hx y hy=>by
    rw[HO];by_cases hji:j=i
    .subst hji;rw[hm2,Be (BE.1 hl).1,hl]at hx;cases hx;exact .inr hy
    .have hil:=(BE.1 hl).1;rw[hm2,Be (by omega)]at hx;exact .inl (hd j x (by omega) hx y hy)) (by omega)
   exact⟨ih.1,ih.2.1,fun x hx=>ih.2.2.1 x ((HO _ _ _).2 (.inl hx)),ih.2.2.2⟩
theorem Iv(π:List Nat): ∀(l:List Id) (n:Nat) (x:Id),x∈l→ ∃j,Dn π l n x=some (Tm x::(n+j)::π)∧j<l.length
 |y::l,n,x,hx=>by
  rw[TB];by_cases h:Id.is y x=true
  .rw[D0 h];exact⟨0,rfl,by simp⟩
  .rw[CI h];have hx2:x∈l:=by
    rcases Co.1 hx with rfl|hx
    .exact absurd (is_self _) h
    .exact hx
   obtain⟨j,hj,hlt⟩:=Iv π l (n+1) x hx2;exact⟨j+1,by rw[hj];congr 3;omega,by simp;omega⟩
theorem ao(h:AD)(ν:Id→Option Id)(hinj: ∀x y z,ν x=some z→ν y=some z→x=y){x z:Id}{o:Obj}(hz:ν x=some z)(ho:h.get x=some o): ∀(l:List Id),x∈l→(DP h ν l).get z=some (Gd ν o)
 |y::l,hx=>by
  by_cases hxy:y=x
  .subst hxy;rw[DP,ho,hz,Bo,is_self,D0 rfl]
  .have hx2:x∈l:=by
    rcases Co.1 hx with rfl|hx
    .exact absurd rfl hxy
    .exact hx
   have ih:=ao h ν hinj hz ho l hx2;rw[DP];split
   .rename_i o' z' h1 h2;rw[Bo,AE (fun e=>hxy (hinj _ _ _ h2 (by rw[e];exact hz))),CI (by simp)];exact ih
   .exact ih
structure Ren(π:List Nat)(h:AD)(e:Bn)(ν:Id→Option Id)(h':AD)(n:Nat):Prop where
 env: ∀x∈G7 e,∃z,ν x=some z
 name: ∀x z,ν x=some z→ ∃j,j<n∧z=Tm x::j::π
 inj: ∀x y z,ν x=some z→ν y=some z→x=y
 get: ∀x z o,ν x=some z→h.get x=some o→h'.get z=some (Gd ν o)
 deep: ∀x z,ν x=some z→ ∀y∈Fv (h.get x),∃z',ν y=some z'
 only: ∀z o,h'.get z=some o→ ∃x,ν x=some z
theorem Lz(π:List Nat)(h:AD)(e:Bn)(M:List Id)(hM:M.length≤1000)(he: ∀x∈G7 e,x∈M)(hc: ∀x∈M,∀y∈Fv (h.get x),y∈M):
 ∃ν h' n,Nq π h e=⟨e.map fun p=>(p.1,Gm ν p.2),h',n,[]⟩∧n≤M.length∧Ren π h e ν h' n:=by
 obtain⟨r1,r2,r3,r4⟩:=TV h M hc 1000 (E6 [] (G7 e)) 0 (K0 _ .nil) (fun x hx=>by
  rcases(HO _ _ _).1 hx with hx|hx
  .cases hx
  .exact he x hx) (fun j x hj=>by omega) (by omega)
 unfold Nq Wk;generalize CP h 1000 (E6 [] (G7 e)) 0=L at*;refine⟨Dn π L 0,DP h (Dn π L 0) L,L.length,rfl,r1.length_le_of_subset r2,?_,?_,fun x y z=>MR,fun x z o hz ho=>?_,fun x z hz y hy=>?_,fun z o hz=>?_⟩
 .intro x hx;obtain⟨j,hj,_⟩:=Iv π L 0 x (r3 x ((HO _ _ _).2 (.inr hx)));exact⟨_,hj⟩
 .intro x z hz;obtain⟨j,t,h1,h2⟩:=Ep hz;obtain⟨j2,h3,h4⟩:=Iv π L 0 x (Ac h1);rw[hz]at h3;cases h3;exact⟨0+j2,by omega,rfl⟩
 .obtain⟨j,t,h1,h2⟩:=Ep hz;exact ao h _ (fun x y z=>MR) hz ho L (Ac h1)
 .obtain⟨j,t,h1,h2⟩:=Ep hz;obtain⟨j2,h3,h4⟩:=Iv π L 0 y (r4 x (Ac h1) y hy);exact⟨_,h3⟩
 .obtain⟨x,o,_,h2,_⟩:=E2 hz;exact⟨x,h2⟩
end Go.Abs
namespace Go.Proofs
open Go Go.Abs
@[irreducible] def K3(C:Cj)(f:FuncId)(π:List Nat)(b:Nat)(e:Bn)(h:AD):St:=Nq π h (J4 e (C.live f b))
theorem E0(C:Cj)(f:FuncId)(π:List Nat)(b:Nat)(e:Bn)(h:AD):K3 C f π b e h=Nq π h (J4 e (C.live f b)):=by unfold K3;rfl
theorem ko(b:Nat)(e:Bn)(h:AD)(bs:Nat)(π:List Nat)(ce:Option (List Nat))(wp:Bool)(nt:Nat):Et cfg ⟨153,π,false,ce,wp,nt⟩ b ⟨e,h,bs,[]⟩=K3 cfg 153 π b e h:=by
 rw[E0];exact Mx _ _ _ _ _
attribute [go_sem 2000] ko
def ADw(g:AD)(v:AV)(q:List (List CV)):Prop:=(q.length=0∧v=.co)∨(q.length≠0∧ ∃id,v=.eq id 0 q.length∧g.get id=some (.d9 1 (q.map BG)))
structure Gr(g:AD)(es:List (List AV))(l:List Fo):Prop where
 len:es.length=l.length
 row: ∀(j:Nat) (x:Fo),l[j]? =some x→ ∃v,es[j]? =some (A5 x v)∧ADw g v x.queue
 diff:(es.flatMap Az).Nodup
def Gv(π:List Nat)(b:Nat)(id:Abs.Id):Prop:= ∃t j,j<b∧id=t::j::π
structure sS(π:List Nat)(l:List Fo)(i:Nat)(v:AV)(g:AD)(b:Nat)(A:Abs.Id)(es:List (List AV)):Prop where
 val:v=.eq A 0 i
 arr:g.get A=some (.arr 4 es)
 rep:Gr g es (l.take i)
 a:Gv π b A
 ids: ∀id∈es.flatMap Az,Gv π b id
 own: ∀id,Id.under π id=false→g.get id=none
variable{k b:Nat}{ρ:List Nat}
theorem MQ{A:Abs.Id}(h:Gv (k::ρ) b A)(t j:Nat)(hj:b≤j):Id.is (t::j::k::ρ) A=false∧Id.is A (t::j::k::ρ)=false:=by
 obtain⟨t',j',h1,rfl⟩:=h;exact⟨AE (by simp;omega),AE (by simp;omega)⟩
theorem JF{A:Abs.Id}(h:Gv (k::ρ) b A)(m:List Nat)(hm:2<m.length):Id.is (m++k::ρ) A=false∧Id.is A (m++k::ρ)=false:=by
 obtain⟨t',j',h1,rfl⟩:=h;constructor
 .refine AE fun e=>?_;have:=congrArg List.length e;simp at this;omega
 .refine AE fun e=>?_;have:=congrArg List.length e;simp at this;omega
theorem FR(x:Fo)(v:AV):Az (A5 x v)=AF v:=by simp[A5,Az,AF]
variable{g:AD}
theorem Pe{v:AV}{q:List (List CV)}(h:ADw g v q):(v=.co∧AF v=[])∨ ∃id,v=.eq id 0 q.length∧AF v=[id]∧g.get id=some (.d9 1 (q.map BG)):=by
 rcases h with⟨_,rfl⟩|⟨_,id,rfl,h⟩
 .exact .inl ⟨rfl,rfl⟩
 .exact .inr ⟨id,rfl,rfl,h⟩
theorem L0{g:AD}{es:List (List AV)}{l:List Fo}(h:Gr g es l){id:Abs.Id}(hi:id∈es.flatMap Az): ∃q:List (List CV),g.get id=some (.d9 1 (q.map BG)):=by
 obtain⟨row,hr,hid⟩:=Bv.1 hi;obtain⟨j,hj⟩:=Hm hr;have hjl:=(BE.1 hj).1;obtain⟨x,hx⟩:=get_some (l:=l) (i:=j) (by rw[←h.len];exact hjl);obtain⟨v,hv,hq⟩:=h.row j x hx;rw[hj]at hv;cases hv;rw[FR]at hid;rcases Pe hq with⟨_,e⟩|⟨id2,_,e,hg⟩
 .rw[e]at hid;cases hid
 .rw[e,As]at hid;subst hid;exact⟨_,hg⟩
variable{H:AD}{l:List Fo}
theorem K5{es:List (List AV)}(h:Gr g es l)(hk: ∀id∈es.flatMap Az,H.get id=g.get id):Gr H es l:=by
 refine⟨h.len,fun j x hx=>?_,h.diff⟩;obtain⟨v,hv,hq⟩:=h.row j x hx;refine⟨v,hv,?_⟩;rcases hq with hq|⟨h0,id,rfl,hg⟩
 .exact .inl hq
 .refine .inr ⟨h0,id,rfl,?_⟩;rw[hk id (Bv.2 ⟨_,Ac hv,by rw[FR];simp[AF]⟩)];exact hg
theorem Jw{H:AD}{es:List (List AV)}{l:List Fo}(h:Gr H es l){x:Fo}{v:AV}(hq:ADw H v x.queue)(hn: ∀id∈AF v,id∉es.flatMap Az):Gr H (es++[A5 x v]) (l++[x]):=by
 refine⟨by simp[h.len],fun j y hy=>?_,?_⟩
 .by_cases hj:j<l.length
  .rw[Be hj]at hy;obtain⟨v',hv',hq'⟩:=h.row j y hy;exact⟨v',by rw[Be (by rw[h.len];exact hj)];exact hv',hq'⟩
  .have hlt:=(BE.1 hy).1;rw[Bi,ID]at hlt;obtain rfl:j=l.length:=by omega
   rw[Ce (by omega)]at hy;simp only[MP,F0,CE]at hy;subst hy;exact⟨v,by rw[Ce (by rw[h.len];omega),h.len];simp,hq⟩
 .rw[LC,Ls];refine⟨h.diff,?_,?_⟩
  .simp only[D5,Gt,D6,FR];rcases Pe hq with⟨_,e⟩|⟨id2,_,e,_⟩<;>rw[e]<;>simp
  .intro a ha b hb hab;subst hab;simp only[D5,Gt,D6,FR]at hb;exact hn a hb ha
theorem Pa{α β:Type}{f:α→β}: ∀{l:List α},l.Nodup→(∀x∈l,∀y∈l,f x=f y→x=y)→(l.map f).Nodup
 |[],_,_=>List.nodup_nil
 |x::l,h,hf=>by
  rw[List.nodup_cons]at h;rw[Cs,List.nodup_cons];refine⟨fun hm=>?_,Pa h.2 fun a ha b hb=>hf a (Em _ ha) b (Em _ hb)⟩;obtain⟨y,hy,e⟩:=FN.1 hm;have:=hf y (Em _ hy) x (by simp) e;subst this;exact h.1 hy
theorem Y8{es:List (List AV)}(h: ∀r∈es,(Az r).length≤1):(es.flatMap Az).length≤es.length:=by
 induction es with
 |nil=>simp
 |cons r es ih=>
  have h1:=h r (by simp);have h2:=ih fun r hr=>h r (Em _ hr);simp only[D5,Bi,List.length_cons];omega
theorem Yd{es:List (List AV)}(h:Gr g es l):(es.flatMap Az).length≤es.length:=by
 refine Y8 fun r hr=>?_;obtain⟨j,hj⟩:=Hm hr;have hjl:=(BE.1 hj).1;obtain⟨x,hx⟩:=get_some (l:=l) (i:=j) (by rw[←h.len];exact hjl);obtain⟨v,hv,hq⟩:=h.row j x hx;rw[hj]at hv;cases hv;rw[FR];rcases Pe hq with⟨_,e⟩|⟨id2,_,e,hg⟩<;>rw[e]<;>simp
theorem Ye{π:List Nat}{H H':AD}{e:Bn}{ν:Abs.Id→Option Abs.Id}{n:Nat}(hR:Ren π H e ν H' n){es:List (List AV)}{l:List Fo}(h:Gr H es l)(hν: ∀id∈es.flatMap Az,∃z,ν id=some z):Gr H' (es.map (IJ ν)) l∧ ∀id∈(es.map (IJ ν)).flatMap Az,Gv π n id:=by
 have key: ∀r∈es,Az (IJ ν r)=(Az r).map fun id=>(ν id).getD []:=by
  intro r hr;obtain⟨j,hj⟩:=Hm hr;have hjl:=(BE.1 hj).1;obtain⟨x,hx⟩:=get_some (l:=l) (i:=j) (by rw[←h.len];exact hjl);obtain⟨v,hv,hq⟩:=h.row j x hx;rw[hj]at hv;cases hv;have e1:IJ ν (A5 x v)=A5 x (Gm ν v):=by simp[A5,IJ,Gm]
  rw[e1,FR,FR];rcases Pe hq with⟨rfl,e⟩|⟨id2,rfl,e,hg⟩
  .simp[Gm,AF]
  .obtain⟨z,hz⟩:=hν id2 (Bv.2 ⟨_,hr,by rw[FR];simp[AF]⟩);simp[Gm,hz,AF]
 have key2:(es.map (IJ ν)).flatMap Az=(es.flatMap Az).map fun id=>(ν id).getD []:=by
  rw[List.flatMap_map,List.map_flatMap];have: ∀(l:List (List AV)),(∀r∈l,Az (IJ ν r)=(Az r).map fun id=>(ν id).getD [])→(l.flatMap fun a=>Az (IJ ν a))=l.flatMap fun a=>(Az a).map fun id=>(ν id).getD []:=by
   intro l hl;induction l with
   |nil=>rfl
   |cons r l ih=>rw[D5,D5,hl r (by simp),ih fun r hr=>hl r (Em _ hr)]
  exact this es key
 refine⟨⟨by rw[BI,h.len],fun j x hx=>?_,?_⟩,?_⟩
 .obtain⟨v,hv,hq⟩:=h.row j x hx;refine⟨Gm ν v,?_,?_⟩
  .rw[D2,hv];simp[A5,IJ,Gm]
  .rcases hq with⟨h0,rfl⟩|⟨h0,id,rfl,hg⟩
   .exact .inl ⟨h0,rfl⟩
   .obtain⟨z,hz⟩:=hν id (Bv.2 ⟨_,Ac hv,by rw[FR];simp[AF]⟩);refine .inr ⟨h0,z,by simp[Gm,hz],?_⟩;have:=hR.get id z _ hz hg;simpa[Gd]using this
 .rw[key2];refine Pa h.diff fun x hx y hy e=>?_;obtain⟨z,hz⟩:=hν x hx;obtain⟨z2,hz2⟩:=hν y hy;rw[hz,hz2]at e;simp only[F4]at e;subst e;exact hR.inj x y z hz hz2
 .intro id hid;rw[key2]at hid;obtain⟨x,hx,rfl⟩:=FN.1 hid;obtain⟨z,hz⟩:=hν x hx;obtain⟨j,hj,rfl⟩:=hR.name x z hz;rw[hz];exact⟨_,j,hj,rfl⟩
theorem SY{K:AO}{fr:Fr}{bl:Nat}{x:Code}{Q:Ds→St→Prop}{E:Bn}{B:Abs.Id}{i:Nat}{es:List (List AV)}{x8 x9 x10:Aa}
 (hE:J4 E (cfg.live 153 0)=[(1,.fn 154 [] []),(5,.eq B 0 i),(8,.d x8),(9,.d x9),(10,.d x10)]) (h1:H.get B=some (.arr 4 es)) (h2:Gr H es (l.take i)) (hi:es.length≤60)
 (hn: ∀v g b A es,sS (k::ρ) l i v g b A es→Wb cfg K fr bl x ⟨[(1,.fn 154 [] []),(5,v),(8,.d x8),(9,.d x9),(10,.d x10)],g,b,[]⟩ Q):Wb cfg K fr bl x (K3 cfg 153 (k::ρ) 0 E H) Q:=by
 rw[E0,hE];have hlen:=Yd h2;obtain⟨ν,h',n,hc,hnM,hR⟩:=Lz (k::ρ) H [(1,.fn 154 [] []),(5,.eq B 0 i),(8,.d x8),(9,.d x9),(10,.d x10)] (B::es.flatMap Az) (by simp only[List.length_cons];omega) (by
  intro y hy;simp[G7,AF,Az]at hy;simp[hy]) (by
  intro y hy z hz;rcases Co.1 hy with rfl|hy
  .rw[h1]at hz;exact Em _ hz
  .obtain⟨q,hq⟩:=L0 h2 hy;rw[hq]at hz;cases hz)
 obtain⟨z,hz⟩:=hR.env B (by simp[G7,AF,Az]);have hν: ∀id∈es.flatMap Az,∃z,ν id=some z:=fun id hid=>hR.deep B z hz id (by rw[h1];exact hid);obtain⟨r1,r2⟩:=Ye hR h2 hν;rw[hc];have:=hn (.eq z 0 i) h' n z (es.map (IJ ν)) ⟨rfl,by have:=hR.get B z _ hz h1;simpa[Gd]using this,r1,by obtain⟨j,hj,rfl⟩:=hR.name B z hz;exact⟨_,j,hj,rfl⟩,r2,fun id hu=>by
  cases hg:h'.get id with
  |none=>rfl
  |some o=>
   obtain⟨y,hy⟩:=hR.only id o hg;obtain⟨j,hj,rfl⟩:=hR.name y id hy;rw[Ku]at hu;cases hu⟩
 simpa[Gm,IJ,hz]using this
set_option maxRecDepth 100000
set_option maxHeartbeats 4000000
def sO(π:List Nat)(l:List Fo)(r:Ad×AD):Prop:=(l.length=0∧r=(.ret .co,[]))∨(l.length≠0∧ ∃v g b A es,r=(.ret v,g)∧sS π l l.length v g b A es)
theorem AAH(l:List Fo)(hl:l.length≤60)(hf: ∀x∈l,x.queue.length≤1000000∧ ∀y∈x.queue,y.length≤1000000)(k:Nat)(ρ:List Nat): ∃r,BB (KL Tryz.prog cfg) 153 [.d (.be (l.map Bm)),.fn 154 [] []] (k::ρ)=.ok r∧sO (k::ρ) l r:=by
 (refine GJ rfl Tryz.func153 rfl rfl rfl ?_;show Wp _ _ _ _ (Tryz.f153.body.get rfl) _ _;simp only[Tryz.f153,AS])
 (repeat' (first|simp only[go_sem, *,E0]|(refine sx ?_ ?_<;>intro hc)|refine sy (by omega) fun x hx hm=>?_|simp(disch:=first|assumption|omega) only[AK]))
 refine AX l _ (S:=fun m i (a:(AV×AD)×Nat)=>⟨[(1,.fn 154 [] []),(5,a.1.1),(8,.d (.be (l.map Bm))),(9,.d (.int .i64 (m))),(10,.d (.int .i64 (i)))],a.1.2,a.2,[]⟩)
  (Inv:=fun i rest a=>AA (i=0∧a=((.co,[]),0)∨0<i∧ ∃A es,sS (k::ρ) l i a.1.1 a.1.2 a.2 A es)) (b0:=((_,[]),_)) ?_ ⟨.inl ⟨rfl,rfl⟩⟩ ?_ ?_
 .rfl
 .rintro i x ⟨⟨v,g⟩,b⟩ hy hi him hv IH;dsimp only at*;have hx:=fun k ρ=>Wx x (hf x (Ac hy)).1 (hf x (Ac hy)).2 k ρ;replace hf:=AA.mk hf;have ht:AA (l.take (i+1)=l.take i++[x]):=⟨by rw[GC,hy];rfl⟩;rcases hv.out with⟨rfl,he⟩|⟨hi0,A,es,hE⟩
  .clear hv;cases he;have him0:(0:Int)<l.length:=him;by_cases h0:x.queue.length=0
   .simp only[OD,D0 h0,A5]at hx
    (repeat' (first|simp only[go_sem, *,Hg,E0]|(refine sx ?_ ?_<;>intro hc)|refine sy (by omega) fun x hx hm=>?_|simp(disch:=first|assumption|omega) only[AK]))
    refine IH.out ((_,_),_) ⟨.inr ⟨by omega,1::0::k::ρ,[A5 x .co],rfl,by simp only[go_sem];rfl,?_,⟨1,0,Nat.lt_succ_self 0,rfl⟩,?_,?_⟩⟩
    .rw[ht.out];exact Jw (es:=[]) (l:=[]) ⟨rfl,by simp,by simp⟩ (.inl ⟨h0,rfl⟩) (by simp[AF])
    .simp[FR,AF]
    .intro id hu;rw[Bo,AE (by rintro rfl;rw[Ku]at hu;cases hu)];rfl
   .simp only[OD,CI h0,A5]at hx;have fa:=Jz h0
    (repeat' (first|simp only[go_sem, *,Hg,E0]|(refine sx ?_ ?_<;>intro hc)|refine sy (by omega) fun x hx hm=>?_|simp(disch:=first|assumption|omega) only[AK]))
    refine IH.out ((_,_),_) ⟨.inr ⟨by omega,1::0::k::ρ,[A5 x (.eq (1::1::k::ρ) 0 x.queue.length)],rfl,by simp only[go_sem];rfl,?_,⟨1,0,Nat.succ_pos 1,rfl⟩,?_,?_⟩⟩
    .rw[ht.out];refine Jw (es:=[]) (l:=[]) ⟨rfl,by simp,by simp⟩ (.inr ⟨h0,_,rfl,?_⟩) (by simp[AF]);simp only[go_sem]
    .intro id hid;simp[FR,AF]at hid;subst hid;exact⟨1,1,Nat.lt_succ_self 1,rfl⟩
    .intro id hu;rw[Bo,AE (by rintro rfl;rw[Ku]at hu;cases hu),CI (by simp),Bo,AE (by rintro rfl;rw[Ku]at hu;cases hu)];rfl
  .clear hv;obtain rfl:=hE.val;have hA:=hE.arr;have hes:=hE.rep.len;have hti:(l.take i).length=i:=by simp;omega
   have hrep:=hE.rep;have hid:=hE.ids;have fr: ∀id,Gv (k::ρ) b id→id≠A→AA (Id.is (0::(b+3)::k::ρ) id=false∧Id.is (1::(b+9)::k::ρ) id=false∧Id.is (1::(b+10)::k::ρ) id=false∧Id.is (0::0::(b+8)::k::ρ) id=false∧Id.is (0::1::(b+8)::k::ρ) id=false∧Id.is (1::0::2::10::(b+8)::k::ρ) id=false∧Id.is A id=false):=fun id h hne=>⟨(MQ h 0 (b+3) (by omega)).1,(MQ h 1 (b+9) (by omega)).1,(MQ h 1 (b+10) (by omega)).1,(JF h [0,0,b+8] (by simp)).1,(JF h [0,1,b+8] (by simp)).1,(JF h [1,0,2,10,b+8] (by simp)).1,AE fun e=>hne e.symm⟩;have hneA: ∀id∈es.flatMap Az,id≠A:=fun id h e=>by
    obtain⟨q,hq⟩:=L0 hrep h;rw[e,hA]at hq;cases hq
   have hX:1::0::2::10::(b+8)::k::ρ∉es.flatMap Az:=fun h=>by
    obtain⟨t,j,_,e⟩:=hid _ h;have:=congrArg List.length e;simp at this;omega
   obtain⟨m1,m2⟩:=MQ hE.a 0 (b+3) (by omega);obtain⟨m3,m4⟩:=MQ hE.a 1 (b+9) (by omega);obtain⟨m5,m6⟩:=JF hE.a [0,0,b+8] (by simp);obtain⟨m7,m8⟩:=JF hE.a [0,1,b+8] (by simp);obtain⟨m9,m10⟩:=JF hE.a [1,0,2,10,b+8] (by simp);simp only[F3,HM]at m5 m6 m7 m8 m9 m10;rw[hti]at hes;have tke:es.take i=es:=CS (by omega);replace hE:=AA.mk hE;replace hrep:=AA.mk hrep;replace hid:=AA.mk hid;replace hneA:=AA.mk hneA;replace fr:=AA.mk fr;replace hX:=AA.mk hX;have nle: ¬i+1≤i:=by omega
   have lm:i+1≤BD:=by unfold BD;omega
   by_cases h0:x.queue.length=0
   .simp only[OD,D0 h0,A5]at hx
    (repeat' (first|simp only[go_sem, *,Hg]|(refine sx ?_ ?_<;>intro hc)|refine sy (by omega) fun x hx hm=>?_|simp(disch:=first|assumption|omega) only[AK]))
    refine SY (B:=1::(b+10)::k::ρ) (i:=i+1) (es:=es++[A5 x .co]) ?_ ?_ ?_ ?_ (fun v g b A es hE2=>IH.out ((v,g),b) ⟨.inr ⟨by omega,A,es,hE2⟩⟩)
    .simp only[go_sem];rfl
    .simp only[go_sem];rfl
    .rw[ht.out];refine Jw (K5 hrep.out fun id h=>?_) (.inl ⟨h0,rfl⟩) (by simp[AF]);obtain⟨f1,f2,f3,f4,f5,f6,f7⟩:=(fr.out id (hid.out id h) (hneA.out id h)).out;simp only[go_sem,f1,f2,f3,f4,f5,f6,f7,AM]
    .simp;omega
   .simp only[OD,CI h0,A5]at hx;have fa:=Jz h0
    (repeat' (first|simp only[go_sem, *,Hg]|(refine sx ?_ ?_<;>intro hc)|refine sy (by omega) fun x hx hm=>?_|simp(disch:=first|assumption|omega) only[AK]))
    refine SY (B:=1::(b+10)::k::ρ) (i:=i+1) (es:=es++[A5 x (.eq (1::0::2::10::(b+8)::k::ρ) 0 x.queue.length)]) ?_ ?_ ?_ ?_ (fun v g b A es hE2=>IH.out ((v,g),b) ⟨.inr ⟨by omega,A,es,hE2⟩⟩)
    .simp only[go_sem];rfl
    .simp only[go_sem];rfl
    .rw[ht.out];refine Jw (K5 hrep.out fun id h=>?_) (.inr ⟨h0,_,rfl,?_⟩) (by simp only[AF,As];rintro id rfl;exact hX.out)
     .obtain⟨f1,f2,f3,f4,f5,f6,f7⟩:=(fr.out id (hid.out id h) (hneA.out id h)).out;simp only[go_sem,f1,f2,f3,f4,f5,f6,f7,AM]
     .simp only[go_sem]
    .simp;omega
 .rintro i ⟨⟨v,g⟩,b⟩ hi him hv;dsimp only at*;rcases hv.out with⟨rfl,he⟩|⟨hi0,A,es,hE⟩
  .cases he;have him0: ¬(0:Int)<l.length:=him;have hl0:=AA.mk hi.out.symm;clear hv
   (repeat' (first|simp only[go_sem, *,E0]|(refine sx ?_ ?_<;>intro hc)|refine sy (by omega) fun x hx hm=>?_|simp(disch:=first|assumption|omega) only[AK]))
   exact .inl ⟨hl0.out,rfl⟩
  .clear hv;have hii:=AA.mk hi.out;obtain rfl:=hE.val;replace hE:=AA.mk hE
   (repeat' (first|simp only[go_sem, *]|(refine sx ?_ ?_<;>intro hc)|refine sy (by omega) fun x hx hm=>?_|simp(disch:=first|assumption|omega) only[AK]))
   obtain rfl:=hii.out;exact .inr ⟨by omega,_,_,b,A,es,rfl,hE.out⟩
end Go.Proofs
namespace Go.Abs
variable{P:Program}{C:Cj}{K:AO}{fr:Fr}{b n i:Nat}{Q:Ds→St→Prop}
variable{ops:Array Oper}{al:Nat→Bool}{l:List Oper}{e:Bn}{h:AD}{bs:Nat}{ds:List Df}{ps:List (Nat×Nat)}{fps:List Fp}{ρ:List Nat}{dst:Option Tmp}
def ADm(Q:Ds→St→Prop)(st:St):Option Code→Prop
 |none=>Q .normal st
 |some .ret=>Q .ret st
 |some (.exit k)=>Q (.exit k) st
 |some _=>False
def Vr(Q:Ds→St→Prop)(st:St):Option Obj→Prop
 |some (.loop r)=>match r.state with
  |.busy=>False
  |_=>ADm Q st r.rt
 |_=>False
def HY(ρ ρ2:List Nat)(id:Id)(e:Bn)(bs:Nat)(ds:List Df)(Q:Ds→St→Prop):E (Ad×AD)→Prop
 |.ok (.ret _,h')=>Vr Q ⟨e,gc ρ (gc ρ2 h'),bs,ds⟩ (h'.get id)
 |.ok (.f9 v,h')=>Q (.f9 v) ⟨e,gc ρ (gc ρ2 h'),bs,ds⟩
 |.err _=>False
def jN(K:AO)(ce:Option (List Nat))(ρ ρ2:List Nat)(id:Id)(e:Bn)(h:AD)(bs:Nat)(ds:List Df)(Q:Ds→St→Prop):AV→Prop
 |.fn f first cap=>HY ρ ρ2 id e bs ds Q (K (.fn f) (first++[.wn id]++cap) h ρ2 true ce)
 |_=>False
theorem aD(ρ ρ2:List Nat)(id:Id)(st1:St)(r:E (Ad×AD)):(match Jh ρ ρ2 id st1 r with|.ok (o,st')=>Q o st'|.err _=>False)=HY ρ ρ2 id st1.env st1.base st1.defs Q r:=by
 cases r with
 |err l=>rfl
 |ok r=>
  obtain⟨o,h'⟩:=r;cases o with
  |f9 v=>simp only[Jh,HY,An]
  |ret v=>
   simp only[Jh,HY,An,Vr,Xf];cases AD.get h' id with
   |none=>rfl
   |some o=>
    cases o with
    |loop r=>
     obtain⟨s,p⟩:=r;simp only;cases s<;>(try rfl)<;>
     .simp only[ADm];cases p with
      |none=>rfl
      |some c=>cases c<;>rfl
    |_=>rfl
theorem zT(g:Operand)(pz:Array Tmp)(kw body:Code)(hr:fr.wp=false):Wp C K fr b (.rangeFunc g pz kw body) ⟨e,h,bs,ds⟩ Q=
 jN K fr.ce (bs::fr.π) ((bs+1)::fr.π) (0::bs::fr.π) e (h.put (0::bs::fr.π) (.loop ⟨.ready,none,fr.f,e,pz.toList,kw,body,fr.nt⟩)) (bs+2) (.mark (0::bs::fr.π)::ds) Q (ev e.get g):=by
 have key:Wp C K fr b (.rangeFunc g pz kw body) ⟨e,h,bs,ds⟩ Q=(match Gh K fr g pz kw body ⟨e,h,bs,ds⟩with|.ok (o,st')=>Q o st'|.err _=>False):=by
  cases hx:Gh K fr g pz kw body ⟨e,h,bs,ds⟩with
  |ok r=>
   obtain⟨o,st'⟩:=r;exact Ts fun n=>by simp only[BQ,hx]
  |err l=>
   refine propext ⟨fun⟨n,o,st',h1,hq⟩=>?_,fun h=>h.elim⟩;cases n with
   |zero=>simp[BQ]at h1
   |succ n=>simp only[BQ,hx]at h1;cases h1
 rw[key];unfold Gh;simp only[hr,Ho,An];rw[aD];simp only[jN];cases ev e.get g with
 |fn f first cap=>simp only[KV,BO]
 |_=>rfl
variable{π:List Nat}{ce:Option (List Nat)}
theorem sI{f:FuncId}{raw:Bool}{nt:Nat}(g:Operand)(pz:Array Tmp)(kw body:Code):Wp C K ⟨f,π,raw,ce,false,nt⟩ b (.rangeFunc g pz kw body) ⟨e,h,bs,ds⟩ Q=
 jN K ce (bs::π) ((bs+1)::π) (0::bs::π) e (h.put (0::bs::π) (.loop ⟨.ready,none,f,e,pz.toList,kw,body,nt⟩)) (bs+2) (.mark (0::bs::π)::ds) Q (ev e.get g):=zT g pz kw body rfl
variable{ρ ρ2:List Nat}
theorem tN{id:Id}(f:FuncId)(first cap:List AV):jN K ce ρ ρ2 id e h bs ds Q (.fn f first cap)=HY ρ ρ2 id e bs ds Q (K (.fn f) (first++[.wn id]++cap) h ρ2 true ce):=rfl
variable{Post:Ad→AD→Prop}
theorem KB{id:Id}{q:E (Ad×AD)}(hk: ∃o h',q=.ok (o,h')∧Post o h')(hn: ∀o h',Post o h'→HY ρ ρ2 id e bs ds Q (.ok (o,h'))):HY ρ ρ2 id e bs ds Q q:=by
 obtain⟨o,h',e,hp⟩:=hk;rw[e];exact hn o h' hp
theorem hP{id:Id}(v:AV)(h':AD):HY ρ ρ2 id e bs ds Q (.ok (.ret v,h'))=Vr Q ⟨e,gc ρ (gc ρ2 h'),bs,ds⟩ (h'.get id):=rfl
theorem hO{id:Id}(v:AV)(h':AD):HY ρ ρ2 id e bs ds Q (.ok (.f9 v,h'))=Q (.f9 v) ⟨e,gc ρ (gc ρ2 h'),bs,ds⟩:=rfl
theorem ga(st:St)(f:FuncId)(e:Bn)(pz:List Nat)(kw body:Code)(nt:Nat):Vr Q st (some (.loop ⟨.ready,none,f,e,pz,kw,body,nt⟩))=Q .normal st:=rfl
theorem qq(st:St)(f:FuncId)(e:Bn)(pz:List Nat)(kw body:Code)(nt:Nat):Vr Q st (some (.loop ⟨.done,some .ret,f,e,pz,kw,body,nt⟩))=Q .ret st:=rfl
theorem gZ(st:St)(k:Nat)(f:FuncId)(e:Bn)(pz:List Nat)(kw body:Code)(nt:Nat):Vr Q st (some (.loop ⟨.done,some (.exit k),f,e,pz,kw,body,nt⟩))=Q (.exit k) st:=rfl
def AFw(C:Cj)(K:AO)(fr:Fr)(ops:Array Oper)(b n:Nat)(al:Nat→Bool)(l:List Oper)(i:Nat)(dst:Option Tmp)(ρ:List Nat)(e:Bn)(h:AD)(bs:Nat)(ds:List Df)(Q:Ds→St→Prop)(id:Id)(az:List AV):Option Obj→Prop
 |some (.loop r)=>Uc C K fr ops b n al l i dst ρ e h bs ds Q (K (.round id r) az h ρ true fr.ce)
 |_=>False
theorem kj(id:Id)(args:List AV):SK C K fr ops b n al l i dst ρ e h bs ds Q args (.wn id)=AFw C K fr ops b n al l i dst ρ e h bs ds Q id args (h.get id):=by
 simp only[SK,EK,Jv,AFw];cases AD.get h id with
 |none=>rfl
 |some o=>cases o<;>first|rfl|simp only[Qh]
theorem sL(id:Id)(args:List AV)(r:Lp):AFw C K fr ops b n al l i dst ρ e h bs ds Q id args (some (.loop r))=Uc C K fr ops b n al l i dst ρ e h bs ds Q (K (.round id r) args h ρ true fr.ce):=rfl
def AH9(C:Cj)(K:AO)(fr:Fr)(ops:Array Oper)(b n:Nat)(al:Nat→Bool)(ps:List (Nat×Nat))(fps:List Fp)(l:List Oper)(i:Nat)(dst:Option Tmp)(ρ:List Nat)(e:Bn)(h:AD)(bs:Nat)(ds:List Df)(Q:Ds→St→Prop)(id:Id)(az:List AV):Option Obj→Prop
 |some (.loop r)=>TU C K fr ops b n al ps fps l i dst ρ e h bs ds Q (K (.round id r) az h ρ true fr.ce)
 |_=>False
theorem sK(id:Id)(args:List AV)(r:Lp):AH9 C K fr ops b n al ps fps l i dst ρ e h bs ds Q id args (some (.loop r))=TU C K fr ops b n al ps fps l i dst ρ e h bs ds Q (K (.round id r) args h ρ true fr.ce):=rfl
def bO(id:Id)(Post:Ad→AD→Prop)(o:Ds)(h:AD):Option Obj→Prop
 |some (.loop r)=>match o with
  |.normal=>Post (.ret (.d (.bool true))) (h.put id (.loop {r with state:=.ready,rt:=none}))
  |.ret=>Post (.ret (.d (.bool false))) (h.put id (.loop {r with state:=.done,rt:=some .ret}))
  |.exit k=>Post (.ret (.d (.bool false))) (h.put id (.loop {r with state:=.done,rt:=some (.exit k)}))
  |.f9 v=>Post (.f9 v) h
 |_=>False
def bR(id:Id)(Post:Ad→AD→Prop):Ds→St→Prop
 |o,st=>st.defs=[]∧bO id Post o st.heap (st.heap.get id)
def zn(C:Cj)(K:AO)(fr:Fr)(id:Id)(body:Code)(Post:Ad→AD→Prop)(st:St):Option Obj→Prop
 |some (.loop r)=>match r.state with
  |.ready=>Wp C K fr 0 body {st with heap:=st.heap.put id (.loop {r with state:=.busy})} (bR id Post)
  |_=>False
 |_=>False
def AD9(C:Cj)(K:AO)(fr:Fr)(id:Id)(body:Code)(Post:Ad→AD→Prop):Ds→St→Prop
 |.normal,st=>st.defs=[]∧KF fr.ce [(id,.box [])]=true∧zn C K fr id body Post st (st.heap.get id)
 |_,_=>False
theorem bT(id:Id):bR id Post .normal ⟨e,h,bs,[]⟩=bO id Post .normal h (h.get id):=by simp[bR]
theorem yc(id:Id):bR id Post .ret ⟨e,h,bs,[]⟩=bO id Post .ret h (h.get id):=by simp[bR]
theorem yb(id:Id)(v:AV):bR id Post (.f9 v) ⟨e,h,bs,[]⟩=bO id Post (.f9 v) h (h.get id):=by simp[bR]
theorem bP(id:Id)(r:Lp):bO id Post .normal h (some (.loop r))=Post (.ret (.d (.bool true))) (h.put id (.loop ⟨.ready,none,r.f,r.env,r.params,r.kw,r.body,r.nt⟩)):=rfl
theorem ya(id:Id)(r:Lp):bO id Post .ret h (some (.loop r))=Post (.ret (.d (.bool false))) (h.put id (.loop ⟨.done,some .ret,r.f,r.env,r.params,r.kw,r.body,r.nt⟩)):=rfl
theorem ra(id:Id)(k:Nat)(r:Lp):bO id Post (.exit k) h (some (.loop r))=Post (.ret (.d (.bool false))) (h.put id (.loop ⟨.done,some (.exit k),r.f,r.env,r.params,r.kw,r.body,r.nt⟩)):=rfl
theorem yZ(id:Id)(v:AV)(r:Lp):bO id Post (.f9 v) h (some (.loop r))=Post (.f9 v) h:=rfl
theorem YQ(id:Id)(body:Code):AD9 C K fr id body Post .normal ⟨e,h,bs,[]⟩=(KF fr.ce [(id,.box [])]=true∧zn C K fr id body Post ⟨e,h,bs,[]⟩ (h.get id)):=by simp[AD9]
theorem kQ(id:Id)(body:Code)(p:Option Code)(f:FuncId)(e':Bn)(pz:List Nat)(a c:Code)(nt:Nat):zn C K fr id body Post ⟨e,h,bs,[]⟩ (some (.loop ⟨.ready,p,f,e',pz,a,c,nt⟩))=Wp C K fr 0 body ⟨e,h.put id (.loop ⟨.busy,p,f,e',pz,a,c,nt⟩),bs,[]⟩ (bR id Post):=rfl
theorem FX{id:Id}{r:Lp}{args:List AV}{h:AD}{e:Bn}(he:Dz r.env r.params args=some e)
 (hw:Wp C (KL P C) {f:=r.f,π,raw:=true,ce,wp:=true,nt:=r.nt} 0 r.kw ⟨e,h,0,[]⟩ (AD9 C (KL P C) {f:=r.f,π,raw:=true,ce,wp:=true,nt:=r.nt} id r.body Post)): ∃o h',KL P C (.round id r) args h π true ce=.ok (o,h')∧Post o h':=by
 obtain⟨n1,o1,st1,h1,q1⟩:=hw;cases o1 with
 |normal=>
  obtain⟨d1,w1,q1⟩:=q1;cases hg:AD.get st1.heap id with
  |none=>rw[hg]at q1;exact q1.elim
  |some ob=>
   rw[hg]at q1;cases ob with
   |loop r1=>
    simp only[zn]at q1;cases hs:r1.state with
    |ready=>
     rw[hs]at q1;obtain⟨n2,o2,st2,h2,d2,q2⟩:=q1;have fin: ∃o h',Ph id (.ok (o2,st2))=.ok (o,h')∧Post o h':=by
      simp only[Ph,d2];cases hg2:AD.get st2.heap id with
      |none=>rw[hg2]at q2;exact q2.elim
      |some ob2=>
       rw[hg2]at q2;cases ob2 with
       |loop r2=>
        cases o2 with
        |normal=>exact⟨_,_,rfl,q2⟩
        |ret=>exact⟨_,_,rfl,q2⟩
        |exit k=>exact⟨_,_,rfl,q2⟩
        |f9 v=>exact⟨_,_,rfl,q2⟩
       |_=>exact q2.elim
     obtain⟨o,h',e3,hp⟩:=fin;refine⟨o,h',X6 (n:=max n1 n2) ?_,hp⟩;unfold HC;have h3:=M7 h2 (Ms n1 n2);rw[d1]at h3;simp only[he,M7 h1 (LI n1 n2),IK,d1,w1,hg,NU,hs,An];rw[h3];exact e3
    |_=>rw[hs]at q1;exact q1.elim
   |_=>exact q1.elim
 |_=>exact q1.elim
attribute [go_sem] tN hP hO ga qq gZ kj sL sK bT yc yb bP ya ra yZ YQ kQ sI Dz
end Go.Abs
namespace Go.Abs
variable{α β:Type}
theorem Pr(f:α→β)(l:List α):List.take l.length (l.map f)=l.map f:=CS (by simp)
theorem Pq(f:α→β)(l:List α)(x:List β):List.take l.length (l.map f++x)=l.map f:=by rw[IN (by simp),Pr]
theorem W5(f:α→β)(l:List α)(y:β)(x:List β):List.drop (l.length+1) (l.map f++y::x)=x:=by rw[List.drop_append];simp
def xR(g:G)(id:Id):Option Obj→AD
 |some (.d9 sz es)=>[(id,.i5 sz es)]
 |some (.arr sz es)=>match C6 g es with
  |some ds=>(id,.i5 sz ds)::es.flatMap (B5 g)
  |none=>[]
 |_=>[]
theorem ph(g:G)(id:Id)(off n:Nat):Fj g (.eq id off n)=xR g id (g id):=by
 simp only[Fj];cases g id with
 |none=>rfl
 |some o=>cases o<;>rfl
theorem eZ(g:G)(id:Id)(sz:Nat)(es:List (List Aa)):xR g id (some (.d9 sz es))=[(id,.i5 sz es)]:=rfl
theorem pk(g:G)(id:Id)(sz:Nat)(es:List (List Aa)):xR g id (some (.i5 sz es))=[]:=rfl
attribute [go_sem] xY ph eZ pk
attribute [go_sem] Pr Pq W5 Nat.le_add_right Nat.le_add_left Nat.add_le_add_iff_left Nat.not_succ_le_self Nat.add_lt_add_iff_left
end Go.Abs
namespace Go.Proofs
open Go Go.Abs
variable{ρ:Abs.Id}
theorem EZ{id:Abs.Id}(h:Id.under ρ id=false)(a b c n:Nat):Id.is (a::b::c::n::ρ) id=false:=AH (AG (AG h n) c) a b
theorem Km{id:Abs.Id}(h:Id.under ρ id=false)(a b c n:Nat):Id.is id (a::b::c::n::ρ)=false:=Ak (AG (AG h n) c) a b
variable{π:List Nat}
theorem Ay(l:List Nat):Id.under π (l++π)=true:=under_iff.2 ⟨l,rfl⟩
def Ju(g:AD)(sz:Nat)(v:AV)(es:List (List Aa)):Prop:=(v=.co∧es=[])∨ ∃id x,v=.eq id 0 es.length∧g.get id=some (.d9 sz (es++x))
structure Chs(g:AD)(rows:List (List AV))(l:List Fo):Prop where
 len:rows.length=l.length
 row: ∀(j:Nat) (q:Fo),l[j]? =some q→ ∃v,rows[j]? =some (A5 q v)∧Ju g 1 v (q.queue.map BG)
def zZ(g:AD)(v:AV)(rows:List (List AV)):Prop:=(v=.co∧rows=[])∨ ∃id,v=.eq id 0 rows.length∧g.get id=some (.arr 4 rows)
structure MV where
 s:Nat→AV
 v3:AV
 v9:AV
 rx:Abs.Id
 rows:List (List AV)
def Gg:Nat→Nat
 |0=>2
 |1=>3
 |2=>3
 |_=>5
def A7(st:Ck):Nat→List (List Aa)
 |0=>st.em.ac.map Ab
 |1=>st.em.bv.map Ar
 |2=>st.em.waits.map AW
 |_=>st.ev.map SZ
def MV.ii(V:MV)(i:Nat)(v:AV):MV:={V with s:=fun j=>if j=i then v else V.s j}
def MV.ids(V:MV)(m:Abs.Id):List Abs.Id:=m::V.rx::(AF (V.s 0)++(AF (V.s 1)++(AF (V.s 2)++(AF (V.s 3)++(AF V.v3++V.rows.flatMap Az)))))
def Au(p:AL)(sz:List Int)(V:MV)(w:Int):List AV:=[V.s 0,V.s 1,V.v3,V.s 2,.d (.be (p.free.map Av)),.d (.be (p.nodes.map Af)),.d (.be (p.defs.map Ax)),.d (.int .i64 p.main),.d (.be (sz.map AJ)),V.v9,.mp V.rx,V.s 3,.d (.int .i64 w)]
structure Dw(p:AL)(sz:List Int)(h:AD)(m:Abs.Id)(V:MV)(st:Ck):Prop where
 box:h.get m=some (.box (Au p sz V st.work))
 rx:h.get V.rx=some (.map Ic)
 sl: ∀i,i<4→Ju h (Gg i) (V.s i) (A7 st i)
 arr:zZ h V.v3 V.rows
 am:Chs h V.rows st.em.am
 gw: ∀id∈AF (V.s 1),id∉AF (V.s 2)
 qd:(V.rows.flatMap Az).Nodup
structure WX(N:Abs.Id→Bool)(m:Abs.Id)(V V':MV)(h h':AD):Prop where
 ids: ∀id∈V'.ids m,id∈V.ids m∨(N id=true∧ ∃l,id=1::l)
 frame: ∀id,id∉V.ids m→N id=false→h'.get id=h.get id
abbrev ADU(π:List Nat):=WX (Id.under π)
abbrev Nn(p:AL)(sz:List Int)(N:Abs.Id→Bool)(m:Abs.Id)(V:MV)(h:AD)(st:Ck)(h':AD):Prop:= ∃V',Dw p sz h' m V' st∧WX N m V V' h h'
abbrev AGD(p:AL)(sz:List Int)(π:List Nat):=Nn p sz (Id.under π)
abbrev Lk(N:Abs.Id→Bool)(V:MV)(m:Abs.Id):Prop:= ∀id∈V.ids m,N id=false
abbrev Ca(π:List Nat):=Lk (Id.under π)
variable{m:Abs.Id}
theorem Ca.ext{V:MV}(h:Ca π V m)(n:Nat):Ca (n::π) V m:=fun id hid=>AG (h id hid) n
def FI(p:AL)(sz:List Int)(π:List Nat)(m:Abs.Id)(V:MV)(h:AD):Option Ck→Ad→AD→Prop
 |some st,o,h'=>o=.ret (.ge [])∧AGD p sz π m V h st h'
 |none,o,h'=>o=.f9 (CL 3)∧ ∀id,id∉V.ids m→Id.under π id=false→h'.get id=h.get id
variable{g:AD}{n:Nat}
theorem BR{sz:Nat}{id:Abs.Id}{es:List (List Aa)}(x:List (List Aa))(hn:n=es.length)(hg:g.get id=some (.d9 sz (es++x))):Ju g sz (.eq id 0 n) es:=.inr ⟨id,x,by rw[hn],hg⟩
variable{g':AD}
theorem Ee{sz:Nat}{v:AV}{es:List (List Aa)}(h:Ju g sz v es)(hg: ∀id∈AF v,g'.get id=g.get id):Ju g' sz v es:=by
 rcases h with h|⟨id,x,rfl,h⟩
 .exact .inl h
 .exact .inr ⟨id,x,rfl,by rw[hg id (by simp[AF])];exact h⟩
theorem DE{g:AD}{sz:Nat}{v:AV}{es:List (List Aa)}(h:Ju g sz v es){id:Abs.Id}(hi:id∈AF v): ∃x,g.get id=some (.d9 sz x):=by
 rcases h with⟨rfl,_⟩|⟨id2,x,rfl,h⟩
 .simp[AF]at hi
 .simp[AF]at hi;subst hi;exact⟨_,h⟩
variable{rows:List (List AV)}
theorem L3{v:AV}(h:zZ g v rows)(hg: ∀id∈AF v,g'.get id=g.get id):zZ g' v rows:=by
 rcases h with h|⟨id,rfl,h⟩
 .exact .inl h
 .exact .inr ⟨id,rfl,by rw[hg id (by simp[AF])];exact h⟩
theorem Hi{g:AD}{v:AV}{rows:List (List AV)}(h:zZ g v rows){id:Abs.Id}(hi:id∈AF v):g.get id=some (.arr 4 rows):=by
 rcases h with⟨rfl,_⟩|⟨id2,rfl,h⟩
 .simp[AF]at hi
 .simp[AF]at hi;subst hi;exact h
theorem Bz(x:Fo)(v:AV):Az (A5 x v)=AF v:=by simp[A5,Az,AF]
variable{l:List Fo}
theorem L1(h:Chs g rows l)(hg: ∀id∈rows.flatMap Az,g'.get id=g.get id):Chs g' rows l:=by
 refine⟨h.len,fun j q hq=>?_⟩;obtain⟨v,h1,h2⟩:=h.row j q hq;exact⟨v,h1,Ee h2 fun id hid=>hg id (Bv.2 ⟨_,Ac h1,by rw[Bz];exact hid⟩)⟩
theorem K6(h:Chs g rows l){id:Abs.Id}(hi:id∈rows.flatMap Az): ∃x,g.get id=some (.d9 1 x):=by
 obtain⟨row,hr,hid⟩:=Bv.1 hi;obtain⟨j,hj⟩:=Hm hr;have hjl:=(BE.1 hj).1;obtain⟨x,hx⟩:=get_some (l:=l) (i:=j) (by rw[←h.len];exact hjl);obtain⟨v,hv,hq⟩:=h.row j x hx;rw[hj]at hv;cases hv;rw[Bz]at hid;exact DE hq hid
theorem MV.mem(V:MV)(m id:Abs.Id):id∈V.ids m↔id=m∨id=V.rx∨(∃i,i<4∧id∈AF (V.s i))∨id∈AF V.v3∨id∈V.rows.flatMap Az:=by
 simp only[MV.ids,Co,ES];constructor
 .rintro(h|h|h|h|h|h|h|h)
  .exact .inl h
  .exact .inr (.inl h)
  .exact .inr (.inr (.inl ⟨0,by omega,h⟩))
  .exact .inr (.inr (.inl ⟨1,by omega,h⟩))
  .exact .inr (.inr (.inl ⟨2,by omega,h⟩))
  .exact .inr (.inr (.inl ⟨3,by omega,h⟩))
  .exact .inr (.inr (.inr (.inl h)))
  .exact .inr (.inr (.inr (.inr h)))
 .rintro(h|h|⟨i,hi,h⟩|h|h)
  .simp[h]
  .simp[h]
  .match i,hi with
   |0,_=>simp[h]
   |1,_=>simp[h]
   |2,_=>simp[h]
   |3,_=>simp[h]
  .simp[h]
  .simp only[h,or_true]
theorem MV.m_mem(V:MV)(m:Abs.Id):m∈V.ids m:=(V.mem m m).2 (.inl rfl)
theorem MV.acts_mem(V:MV)(m:Abs.Id):V.rx∈V.ids m:=(V.mem m _).2 (.inr (.inl rfl))
theorem MV.s_mem(V:MV)(m:Abs.Id){i:Nat}(hi:i<4){id:Abs.Id}(h:id∈AF (V.s i)):id∈V.ids m:=(V.mem m _).2 (.inr (.inr (.inl ⟨i,hi,h⟩)))
theorem MV.v3_mem(V:MV)(m:Abs.Id){id:Abs.Id}(h:id∈AF V.v3):id∈V.ids m:=(V.mem m _).2 (.inr (.inr (.inr (.inl h))))
theorem MV.row_mem(V:MV)(m:Abs.Id){id:Abs.Id}(h:id∈V.rows.flatMap Az):id∈V.ids m:=(V.mem m _).2 (.inr (.inr (.inr (.inr h))))
variable{h h':AD}
theorem Ba{p:AL}{sz:List Int}{V:MV}{st:Ck}(hM:Dw p sz h m V st)(hg: ∀id∈V.ids m,h'.get id=h.get id):Dw p sz h' m V st:=
 ⟨by rw[hg _ (V.m_mem m)];exact hM.box,by rw[hg _ (V.acts_mem m)];exact hM.rx,fun i hi=>Ee (hM.sl i hi) fun id hid=>hg id (V.s_mem m hi hid),L3 hM.arr fun id hid=>hg id (V.v3_mem m hid),L1 hM.am fun id hid=>hg id (V.row_mem m hid),hM.gw,hM.qd⟩
theorem jt{p:AL}{sz:List Int}{V V0:MV}{st:Ck}{ρ:List Nat}{h0:AD}(hM:Dw p sz h m V st)(hK:ADU π m V0 V h0 h)(hu:Ca ρ V0 m):Dw p sz (gc ρ h) m V st:=by
 refine Ba hM fun id hid=>?_;rcases hK.ids id hid with h|⟨_,l,rfl⟩
 .exact AU _ _ _ (hu id h)
 .exact EY _ _ _
theorem Bk{id:Abs.Id}(h:Id.under (n::π) id=true):Id.under π id=true:=by
 rw[under_iff]at*;exact(Ex n π).trans h
theorem wA{V:MV}(hk: ∀id,Id.under π id=false→h'.get id=h.get id):ADU π m V V h h':=⟨fun id h=>.inl h,fun id _ hu=>hk id hu⟩
theorem Eo{p:AL}{sz:List Int}{V:MV}{st:Ck}(hM:Dw p sz h m V st)(hu:Ca π V m)(hk: ∀id,Id.under π id=false→h'.get id=h.get id):Dw p sz h' m V st:=Ba hM fun id hid=>hk id (hu id hid)
theorem Vd{p:AL}{sz:List Int}{N:Abs.Id→Bool}{h h':AD}{m:Abs.Id}{V:MV}{st st':Ck}(hM:Dw p sz h m V st)(hu:Lk N V m)
 (hb:h'.get m=some (.box (Au p sz V st'.work))) (hd:st'.em=st.em∧st'.ev=st.ev) (hk: ∀id,id≠m→N id=false→h'.get id=h.get id):Dw p sz h' m V st'∧WX N m V V h h':=by
 have hne: ∀id,(∀cs,h.get id≠some (.box cs))→id≠m:=fun id hh e=>hh _ (by subst e;exact hM.box);have hda: ∀i,A7 st' i=A7 st i:=fun i=>by
  unfold A7;rw[hd.1,hd.2]
 have hg: ∀id∈V.ids m,(∀cs,h.get id≠some (.box cs))→h'.get id=h.get id:=fun id h1 h2=>hk id (hne id h2) (hu id h1);refine⟨⟨hb,?_,fun i hi=>?_,?_,?_,hM.gw,hM.qd⟩,fun id h=>.inl h,fun id h1 h2=>hk id (fun e=>h1 (by rw[e];exact V.m_mem m)) h2⟩
 .rw[hg _ (V.acts_mem m) (by rw[hM.rx];simp)];exact hM.rx
 .rw[hda];refine Ee (hM.sl i hi) fun id hid=>hg id (V.s_mem m hi hid) ?_;obtain⟨x,hx⟩:=DE (hM.sl i hi) hid;rw[hx];simp
 .refine L3 hM.arr fun id hid=>hg id (V.v3_mem m hid) ?_;rw[Hi hM.arr hid];simp
 .rw[hd.1];refine L1 hM.am fun id hid=>hg id (V.row_mem m hid) ?_;obtain⟨x,hx⟩:=K6 hM.am hid;rw[hx];simp
variable{st':Ck}
theorem AGj{st:Ck}(hs:st'.em=st.em): ∀j,j<4→j≠3→A7 st' j=A7 st j
 |0,_,_|1,_,_|2,_,_=>by simp[A7,hs]
 |3,_,h=>absurd rfl h
theorem vn{st:Ck}(h0:st'.em.ac=st.em.ac)(h1:st'.em.bv=st.em.bv)(h3:st'.ev=st.ev): ∀j,j<4→j≠2→A7 st' j=A7 st j
 |0,_,_|1,_,_|3,_,_=>by simp[A7,h0,h1,h3]
 |2,_,h=>absurd rfl h
theorem AGk{st:Ck}(h0:st'.em.ac=st.em.ac)(h2:st'.em.waits=st.em.waits)(h3:st'.ev=st.ev): ∀j,j<4→j≠1→A7 st' j=A7 st j
 |0,_,_|2,_,_|3,_,_=>by simp[A7,h0,h2,h3]
 |1,_,h=>absurd rfl h
theorem vj{st:Ck}(h1:st'.em.bv=st.em.bv)(h2:st'.em.waits=st.em.waits)(h3:st'.ev=st.ev): ∀j,j<4→j≠0→A7 st' j=A7 st j
 |1,_,_|2,_,_|3,_,_=>by simp[A7,h1,h2,h3]
 |0,_,h=>absurd rfl h
theorem zF(V:MV)(i:Nat)(v:AV)(j:Nat):(V.ii i v).s j=if j=i then v else V.s j:=rfl
theorem Z1{p:AL}{sz:List Int}{N:Abs.Id→Bool}{h h':AD}{m:Abs.Id}{V:MV}{st st':Ck}(i:Nat){v:AV}(hi:i<4)(hM:Dw p sz h m V st)(hu:Lk N V m)
 (hb:h'.get m=some (.box (Au p sz (V.ii i v) st'.work))) (hs:Ju h' (Gg i) v (A7 st' i)) (ho: ∀j,j<4→j≠i→A7 st' j=A7 st j) (hc:st'.em.am=st.em.am)
 (hv:AF v=AF (V.s i)∨ ∀id∈AF v,N id=true∧ ∃l,id=1::l) (hk: ∀id,id≠m→id∉AF (V.s i)→N id=false→h'.get id=h.get id):Dw p sz h' m (V.ii i v) st'∧WX N m V (V.ii i v) h h':=by
 have hne: ∀id,(∀cs,h.get id≠some (.box cs))→id≠m:=fun id hh e=>hh _ (by subst e;exact hM.box);have hg: ∀id∈V.ids m,(∀cs,h.get id≠some (.box cs))→id∉AF (V.s i)→h'.get id=h.get id:=fun id h1 h2 h3=>hk id (hne id h2) h3 (hu id h1);have hvi: ∀id∈AF v,id∈AF (V.s i)∨(N id=true∧ ∃l,id=1::l):=fun id hid=>by
  rcases hv with e|e
  .rw[e]at hid;exact .inl hid
  .exact .inr (e id hid)
 have key: ∀j,j<4→j≠i→ ∀id∈AF (V.s j),id∉AF (V.s i):=fun j hj hji id hid hh=>by
  obtain⟨x,hx⟩:=DE (hM.sl j hj) hid;obtain⟨y,hy⟩:=DE (hM.sl i hi) hh;rw[hx]at hy;have hsz:Gg j=Gg i:=by
   simp only[CE,Obj.d9.injEq]at hy;exact hy.1
  have h12:(j=1∧i=2)∨(j=2∧i=1):=by
   match i,j,hi,hj with
   |0,0,_,_|1,1,_,_|2,2,_,_|3,3,_,_=>omega
   |0,1,_,_|0,2,_,_|0,3,_,_|1,0,_,_|1,3,_,_|2,0,_,_|2,3,_,_|3,0,_,_|3,1,_,_|3,2,_,_=>simp[Gg]at hsz
   |1,2,_,_|2,1,_,_=>omega
  rcases h12 with⟨rfl,rfl⟩|⟨rfl,rfl⟩
  .exact hM.gw id hid hh
  .exact hM.gw id hh hid
 refine⟨⟨hb,?_,fun j hj=>?_,?_,?_,fun id h1 h2=>?_,hM.qd⟩,fun id hid=>?_,fun id h1 h2=>?_⟩
 .show h'.get V.rx=_;rw[hg _ (V.acts_mem m) (by rw[hM.rx];simp) fun hh=>?_]
  .exact hM.rx
  .obtain⟨x,hx⟩:=DE (hM.sl i hi) hh;rw[hM.rx]at hx;cases hx
 .rw[zF];by_cases hji:j=i
  .rw[D0 hji,hji];exact hs
  .rw[CI hji,ho j hj hji];refine Ee (hM.sl j hj) fun id hid=>hg id (V.s_mem m hj hid) ?_ (key j hj hji id hid);obtain⟨x,hx⟩:=DE (hM.sl j hj) hid;rw[hx];simp
 .refine L3 hM.arr fun id hid=>hg id (V.v3_mem m hid) ?_ fun hh=>?_
  .rw[Hi hM.arr hid];simp
  .obtain⟨x,hx⟩:=DE (hM.sl i hi) hh;rw[Hi hM.arr hid]at hx;cases hx
 .rw[hc];refine L1 hM.am fun id hid=>hg id (V.row_mem m hid) ?_ fun hh=>?_
  .obtain⟨x,hx⟩:=K6 hM.am hid;rw[hx];simp
  .obtain⟨x,hx⟩:=DE (hM.sl i hi) hh;obtain⟨y,hy⟩:=K6 hM.am hid;rw[hx]at hy
   match i,hi with
   |0,_|1,_|2,_|3,_=>simp[Gg]at hy
 .rw[zF]at h1 h2;have o1: ∀id∈AF (V.s 1),N id=false:=fun id hid=>hu id (V.s_mem m (by omega) hid);have o2: ∀id∈AF (V.s 2),N id=false:=fun id hid=>hu id (V.s_mem m (by omega) hid);by_cases e1:1=i
  .subst e1;rw[D0 rfl]at h1;rw[CI (by omega)]at h2;rcases hvi id h1 with hh|hh
   .exact hM.gw id hh h2
   .rw[o2 id h2]at hh;cases hh.1
  .rw[CI e1]at h1;by_cases e2:2=i
   .subst e2;rw[D0 rfl]at h2;rcases hvi id h2 with hh|hh
    .exact hM.gw id h1 hh
    .rw[o1 id h1]at hh;cases hh.1
   .rw[CI e2]at h2;exact hM.gw id h1 h2
 .rcases((V.ii i v).mem m id).1 hid with hh|hh|⟨j,hj,hh⟩|hh|hh
  .exact .inl ((V.mem m id).2 (.inl hh))
  .exact .inl ((V.mem m id).2 (.inr (.inl hh)))
  .rw[zF]at hh;by_cases hji:j=i
   .rw[D0 hji]at hh;exact(hvi id hh).imp_left fun h=>V.s_mem m hi h
   .rw[CI hji]at hh;exact .inl (V.s_mem m hj hh)
  .exact .inl (V.v3_mem m hh)
  .exact .inl (V.row_mem m hh)
 .exact hk id (fun e=>h1 (by rw[e];exact V.m_mem m)) (fun hh=>h1 (V.s_mem m hi hh)) h2
variable{N:Abs.Id→Bool}
theorem IQ{p:AL}{sz:List Int}{V:MV}{st:Ck}(i:Nat)(hi:i<4)(hM:Dw p sz h m V st)(hu:Lk N V m)
 (ho: ∀j,j<4→j≠i→A7 st' j=A7 st j) (hc:st'.em.am=st.em.am) (v:AV) (h':AD) (a1:h'.get m=some (.box (Au p sz (V.ii i v) st'.work))) (a2:Ju h' (Gg i) v (A7 st' i)) (a3:AF v=AF (V.s i)∨ ∀id∈AF v,N id=true∧ ∃l,id=1::l) (a4: ∀id,Id.is m id=false→(∀id2∈AF (V.s i),Id.is id2 id=false)→N id=false→h'.get id=h.get id):Nn p sz N m V h st' h':=
 ⟨_,Z1 i hi hM hu a1 a2 ho hc a3 fun id b1 b2 b3=>a4 id (AE fun e=>b1 e.symm) (fun id2 hid=>AE fun e=>b2 (by rw[←e];exact hid)) b3⟩
theorem Q6{p:AL}{sz:List Int}{V:MV}{st:Ck}(hp:Nn p sz N m V h st h'): ∀id,id∉V.ids m→N id=false→h'.get id=h.get id:=by
 obtain⟨_,_,hK⟩:=hp;exact hK.frame
end Go.Proofs
namespace Go.Proofs
open Go Go.Abs
set_option maxRecDepth 100000
set_option maxHeartbeats 4000000
structure BF.Fits(s:BF):Prop where
 ac:s.ac.length≤1000000
 bv:s.bv.length≤1000000
 am:s.am.length≤60
 waits:s.waits.length≤1000000
 group: ∀x∈s.bv,x.env.length≤1000000
 chan: ∀x∈s.am,x.queue.length≤1000000∧ ∀y∈x.queue,y.length≤1000000
 wait: ∀x∈s.waits,x.env.length≤1000000
structure sQ(π:List Nat)(s:BF)(v1 v2 v3 v4:AV)(rows:List (List AV))(g:AD):Prop where
 s0:Ju g 2 v1 (s.ac.map Ab)
 s1:Ju g 3 v2 (s.bv.map Ar)
 s2:Ju g 3 v4 (s.waits.map AW)
 arr:zZ g v3 rows
 am:Chs g rows s.am
 qd:(rows.flatMap Az).Nodup
 gw: ∀id∈AF v2,id∉AF v4
 ids: ∀id,id∈AF v1∨id∈AF v2∨id∈AF v4∨id∈AF v3∨id∈rows.flatMap Az→Id.under π id=true
 own: ∀id,Id.under π id=false→g.get id=none
def sR(π:List Nat)(s:BF)(r:Ad×AD):Prop:= ∃v1 v2 v3 v4 rows g,r=(.ret (.agg [v1,v2,v3,v4]),g)∧sQ π s v1 v2 v3 v4 rows g
variable{α:Type}{f:α→List Aa}
theorem OT{g:AD}{sz:Nat}{l:List α}(h:l.length=0):Ju g sz .co (l.map f):=.inl ⟨rfl,by rw[DL h];rfl⟩
theorem OQ{g:AD}{sz:Nat}{l:List α}{id:Abs.Id}(h:g.get id=some (.d9 sz (l.map f))):Ju g sz (.eq id 0 l.length) (l.map f):=BR [] (by simp) (by rw[D6];exact h)
theorem zC(a b c:Nat)(π:List Nat):Id.under π (a::b::c::π)=true:=under_iff.2 ⟨[a,b,c],rfl⟩
theorem Hc(i t j:Nat)(π:List Nat)(h:i≠j):Id.under (i::π) (t::j::π)=false:=ED fun hs=>by
 rcases IT.1 hs with e|hs
 .have:=congrArg List.length e;simp at this
 rcases IT.1 hs with e|hs
 .simp only[No,and_true]at e;exact h e
 .have:=hs.length_le;simp at this;omega
theorem Jo(i a t j:Nat)(π:List Nat)(h:i≠j):Id.under (i::π) (a::t::j::π)=false:=ED fun hs=>by
 rcases IT.1 hs with e|hs
 .have:=congrArg List.length e;simp at this
 have:=Hc i t j π h;rw[under_iff.2 hs]at this;cases this
theorem Ze: ∀{g:AD} {x:Abs.Id},x∈g.map (fun x=>x.1)→g.get x≠none
 |(k,o)::g,x,hx=>by
  rw[Bo];split
  .simp
  .rename_i hk;rw[Cs,Co]at hx;rcases hx with rfl|hx
   .exact absurd (is_self _) hk
   .exact Ze hx
theorem zj{g:AD}{id:Abs.Id}(h:g.get id=none):((g.map fun x=>x.1).all fun x=> !Id.is x id)=true:=by
 rw[DO];intro x hx;rw[AE]
 .rfl
 .rintro rfl;exact Ze hx h
theorem AEC{g:AD}{es:List (List AV)}{l:List Fo}(h:Gr g es l):Chs g es l:=by
 refine⟨h.len,fun j q hq=>?_⟩;obtain⟨v,h1,h2⟩:=h.row j q hq;refine⟨v,h1,?_⟩;rcases h2 with⟨h3,rfl⟩|⟨h3,id,rfl,h4⟩
 .exact OT h3
 .exact OQ h4
theorem lL(s:BF)(h:s.Fits)(k:Nat)(ρ:List Nat): ∃r,BB (KL Tryz.prog cfg) 92 [.agg [.d (.be (s.ac.map Ab)),.d (.be (s.bv.map Ar)),.d (.be (s.am.map Bm)),.d (.be (s.waits.map AW))]] (k::ρ)=.ok r∧sR (k::ρ) s r:=by
 have h1:=uJ 149 rfl s.ac (fun x _=>ba x) h.ac 4 (k::ρ);have h2:=lh 151 rfl s.bv (fun x hx=>SR x (h.group x hx)) h.bv 7 (k::ρ);obtain⟨r,h3,hp⟩:=AAH s.am h.am h.chan 10 (k::ρ);have h4:=uK 157 rfl s.waits (fun x hx=>UU x (h.wait x hx)) h.waits 13 (k::ρ);replace h:=AA.mk h;rcases hp with⟨z3,rfl⟩|⟨z3,v,g,b,A,es,rfl,hE⟩
 .by_cases z1:s.ac.length=0;all_goals by_cases z2:s.bv.length=0
  all_goals by_cases z4:s.waits.length=0
  all_goals
   simp only[Ji,z1,z2,z4,↓reduceIte]at h1 h2 h4
   (refine GJ rfl Tryz.func92 rfl rfl rfl ?_;show Wp _ _ _ _ (Tryz.f92.body.get rfl) _ _;simp only[Tryz.f92,AS])
   (repeat' (first|simp only[go_sem, *,O6,Nj,O7,ne_eq,not_false_eq_true]|(refine sx ?_ ?_<;>intro hc)|refine sy (by omega) fun x hx hm=>?_|simp(disch:=first|assumption|omega) only[AK]))
   refine⟨_,_,_,_,[],_,rfl,?_,?_,?_,.inl ⟨rfl,rfl⟩,⟨z3.symm,fun j q hq=>by rw[DL z3]at hq;cases hq⟩,List.nodup_nil,?_,fun id hid=>?_,fun id hu=>?_⟩
   .first
    |exact OT z1
    |(refine OQ ?_;simp only[go_sem];done)
   .first
    |exact OT z2
    |(refine OQ ?_;simp only[go_sem];done)
   .first
    |exact OT z4
    |(refine OQ ?_;simp only[go_sem];done)
   .simp[AF]
   .simp only[AF,As,F9,Gt,Lw,false_or]at hid
    repeat' (rcases hid with hid|hid)
    all_goals exact zC _ _ _ _
   .have a1:=AH hu;have a2:=AH (AG hu 4);have a3:=AH (AG hu 7);have a4:=AH (AG hu 13);simp only[go_sem,a1,a2,a3,a4,AM]
 .obtain rfl:=hE.val;have hgA:=hE.arr;have n00:=hE.own _ (Hc 10 0 0 (k::ρ) (by decide));have n01:=hE.own _ (Hc 10 0 1 (k::ρ) (by decide));have g00: ∀L,AD.get (g++L) (0::0::k::ρ)=AD.get L (0::0::k::ρ):=fun L=>BW n00;have g01: ∀L,AD.get (g++L) (0::1::k::ρ)=AD.get L (0::1::k::ρ):=fun L=>BW n01;have g04: ∀L,AD.get (g++L) (1::0::4::k::ρ)=AD.get L (1::0::4::k::ρ):=fun L=>BW (hE.own _ (Jo _ _ _ _ _ (by decide)));have g07: ∀L,AD.get (g++L) (1::0::7::k::ρ)=AD.get L (1::0::7::k::ρ):=fun L=>BW (hE.own _ (Jo _ _ _ _ _ (by decide)));have g13: ∀L,AD.get (g++L) (1::0::13::k::ρ)=AD.get L (1::0::13::k::ρ):=fun L=>BW (hE.own _ (Jo _ _ _ _ _ (by decide)));have gal:=zj n00;have hrep:=hE.rep;rw[EL]at hrep;have hlr:=AA.mk hrep.len;have n13:g.get (1::0::13::k::ρ)=none:=hE.own _ (Jo _ _ _ _ _ (by decide));have nis: ∀{x y:Abs.Id} {o:Abs.Obj},g.get x=none→g.get y=some o→Id.is x y=false:=fun h1 h2=>AE fun e=>by rw[e,h2]at h1;cases h1
  have hgA2:AA (Id.is (0::1::k::ρ) A=false∧Id.is (1::0::13::k::ρ) A=false∧ ∀L,AD.get (g++L) A=some (.arr 4 es)):=⟨nis n01 hgA,nis n13 hgA,fun L=>CT hgA⟩;have hgE:AA (∀id∈es.flatMap Az,Id.is (0::1::k::ρ) id=false∧Id.is (1::0::13::k::ρ) id=false∧ ∀L,AD.get (g++L) id=AD.get g id):=⟨fun id hid=>by
   obtain⟨q,hq⟩:=L0 hrep hid;exact⟨nis n01 hq,nis n13 hq,fun L=>by rw[hq];exact CT hq⟩⟩
  clear n13 nis;replace hrep:=AA.mk hrep;have hA10:AA (Id.under (k::ρ) A=true):=⟨by obtain⟨t,j,_,rfl⟩:=hE.a;exact under_iff.2 ⟨[t,j,10],rfl⟩⟩;have hE10:AA (∀id∈es.flatMap Az,Id.under (k::ρ) id=true):=⟨fun id hid=>by obtain⟨t,j,_,rfl⟩:=hE.ids id hid;exact under_iff.2 ⟨[t,j,10],rfl⟩⟩;replace hE:=AA.mk hE;have f3: ∀o m,Bf (.eq A o m) g=none:=fun o m=>by simp only[Bf,hgA]
  by_cases z1:s.ac.length=0;all_goals by_cases z2:s.bv.length=0
  all_goals by_cases z4:s.waits.length=0
  all_goals
   simp only[Ji,z1,z2,z4,↓reduceIte]at h1 h2 h4
   (refine GJ rfl Tryz.func92 rfl rfl rfl ?_;show Wp _ _ _ _ (Tryz.f92.body.get rfl) _ _;simp only[Tryz.f92,AS])
   (repeat' (first|simp only[go_sem, *,O6,Nj,O7,ne_eq,not_false_eq_true]|(refine sx ?_ ?_<;>intro hc)|refine sy (by omega) fun x hx hm=>?_|simp(disch:=first|assumption|omega) only[AK]))
   refine⟨_,_,_,_,es,_,rfl,?_,?_,?_,.inr ⟨A,?_,?_⟩,AEC (K5 hrep.out fun id hid=>?_),hrep.out.diff,?_,fun id hid=>?_,fun id hu=>?_⟩
   .first
    |exact OT z1
    |(refine OQ ?_;simp only[go_sem,g04,g07,g13];done)
   .first
    |exact OT z2
    |(refine OQ ?_;simp only[go_sem,g04,g07,g13];done)
   .first
    |exact OT z4
    |(refine OQ ?_;simp only[go_sem,g04,g07,g13];done)
   .rw[hlr.out]
   .obtain⟨q1,q2,q3⟩:=hgA2.out;simp only[go_sem,q1,q2,q3,AM]
   .obtain⟨q1,q2,q3⟩:=hgE.out id hid;simp only[go_sem,q1,q2,q3,AM]
   .simp[AF]
   .simp only[AF,As,F9,Lw,false_or]at hid
    repeat' (rcases hid with hid|hid)
    all_goals first
    |exact zC _ _ _ _
    |exact hA10.out
    |exact hE10.out _ hid
   .have a1:=AH hu;have a2:=AH (AG hu 4);have a3:=AH (AG hu 7);have a4:=AH (AG hu 13);have a5: ∀L,AD.get (g++L) id=AD.get L id:=fun L=>BW (hE.out.own id (AG hu 10));simp only[go_sem,a1,a2,a3,a4,a5,AM]
theorem U4{p:AL}{s:BF}{d:Bs}{g:Al}{i c:Nat}: ∀{l:List Hy} {j:Nat},EI p s d g i c j l=true→ ∀(t:Nat) (ch:Hy),l[t]? =some ch→KY p s d g i (j+t) (c+(j+t)) ch=true
 |x::l,j,h,t,ch,ht=>by
  rw[EI,AP]at h;cases t with
  |zero=>
   simp only[F0,CE]at ht;subst ht;exact h.1
  |succ t=>
   rw[F6]at ht;have:=U4 h.2 t ch ht
   rwa [show j+1+t=j+(t+1) by omega]at this
theorem Ss{p:AL}{ci:List Int}(hF:BK p ci){s:BF}: ∀(l:List Al) (i c k:Nat),B4 p (Bb p ci) s i c k l=true→
 (∀g∈l,g.env.length≤10000)∧ ∀a,c≤a→a<s.am.length→ ∃q g d ch i j,s.am[a]? =some q∧Nf p s d g i j q ch=true∧ch.many≤3
 |[],i,c,k,h=>by
  rw[B4,AP,Ap]at h;exact⟨fun g hg=>(by cases hg),fun a h1 h2=>by omega⟩
 |g::l,i,c,k,h=>by
  rw[B4]at h;cases hd:p.def? g.f8 with
  |none=>rw[hd]at h;cases h
  |some d=>
   rw[hd]at h;simp only[AP]at h;obtain⟨h1,h2⟩:=h;obtain⟨i1,i2⟩:=Ss hF l _ _ _ h2;rw[AL.def?]at hd;split at hd
   .rename_i h0;have hdf:=B3 hF hd;rw[Ja]at h1;simp only[AP,Ap]at h1;obtain⟨_,hl,_,_,hch⟩:=h1;obtain⟨_,_,s0,_,_,_,_,q0,q1,q2,_⟩:=hdf.node;rw[q2]at hl;have hown:=OE hdf.ok;simp only[F4]at hl;refine⟨fun y hy=>?_,fun a ha hb=>?_⟩
    .rcases Co.1 hy with rfl|hy
     .omega
     .exact i1 y hy
    .by_cases hac:a<c+d.am.length
     .obtain⟨ch,hch2⟩:=get_some (l:=d.am) (i:=a-c) (by omega);have:=U4 hch (a-c) ch hch2;rw[show c+(0+(a-c))=a by omega,KY]at this;cases hq:s.am[a]? with
      |none=>rw[hq]at this;cases this
      |some q=>
       rw[hq]at this;exact⟨q,g,d,ch,_,_,rfl,this,(hdf.ok.chan ch (Ac hch2)).2.2.2⟩
     .exact i2 a (by omega) hb
   .cases hd
theorem OU{p:AL}{st:BT}(hlk:looks p=some st){s:BF}(h:DT p st.ci s=true):s.Fits:=by
 have hF:=CF hlk;simp only[DT,BF.small,AP,Ap]at h;obtain⟨⟨a1,a2,a3,a4⟩,_,_,hg,hw⟩:=h;obtain⟨g1,g2⟩:=Ss hF _ _ _ _ hg;refine⟨by omega,by omega,a3,by omega,fun x hx=>by have:=g1 x hx;omega,fun x hx=>?_,fun x hx=>?_⟩
 .obtain⟨a,ha⟩:=Hm hx;have hal:=(BE.1 ha).1;obtain⟨q,g,d,ch,i,j,hq,hok,hm⟩:=g2 a (by omega) hal;rw[ha]at hq;cases hq;simp only[Nf,AP,Ap,DO]at hok;obtain⟨_,_,_,h12,_,hall⟩:=hok;refine⟨by omega,fun y hy=>?_⟩;have:=hall y hy;simp only[FA,AP,Ap]at this;omega
 .have:=DO.1 hw x hx;simp only[CA,AP,Ap]at this;obtain⟨_,_,_,hn,hl,_⟩:=this;cases hxn:p.nodes[x.node.toNat]? with
  |none=>rw[hxn]at hn;cases hn
  |some y=>
   obtain⟨v,_,hv,v0,v1,_⟩:=hF.node _ y hxn;rw[hv]at hl;simp only[F4]at hl;omega
def GZ(p:AL)(l:List Al):Nat×Nat:=l.foldl (fun a g=>match p.def? g.f8 with|some d=>(a.1+d.am.length,a.2+d.ac.length)|none=>a) (0,1)
structure Lo(p:AL)(sz:List Int)(s:BF)(i:Nat)(g:Al)(d:Bs):Prop where
 f8:p.def? g.f8=some d
 at_:EF s.ac g.at_
 len:(g.env.length:Int)=((Bb p sz)[g.f8.toNat]?).getD 0
 ol:g.env.all (CV.inB p s.am.length s.ac.length)=true
 wt:DG d (GZ p (s.bv.take i)).1 (GZ p (s.bv.take i)).2 g=true
 am: ∀(j:Nat) ch,d.am[j]? =some ch→ ∃q,s.am[(GZ p (s.bv.take i)).1+j]? =some q∧q.group=i∧q.index=j∧q.at_=g.place d ch.at_
structure QOk(p:AL)(s:BF)(q:Fo):Prop where
 len:q.queue.length≤12
 dead:q.queue.length=0∨AY s.ac q.at_=false
 msgs: ∀m∈q.queue,FA p s.am.length s.ac.length (EP p s q) m=true
structure FH(p:AL)(sz:List Int)(s:BF):Prop where
 small:s.small=true
 tree:GV s.ac
 dead: ∀(i:Nat) x,1≤i→s.ac[i]? =some x→x.dead=true∨AY s.ac x.rc=false
 grp: ∀(i:Nat) g,s.bv[i]? =some g→ ∃d,Lo p sz s i g d
 tot:GZ p s.bv=(s.am.length,s.ac.length)
 que: ∀(c:Nat) q,s.am[c]? =some q→QOk p s q
 wait: ∀w∈s.waits,CA p sz s w=true
variable{l m:List BS}
theorem SU:Ft l m=true↔ ∀x∈m,x.dead=true∨AY l x.rc=false:=by
 induction m with
 |nil=>simp[Ft]
 |cons x m ih=>
  rw[Ft,AP,ih];simp only[I3,HU,Co,Gc]
theorem Vl(p:AL)(l:List Al)(g:Al){d:Bs}(h:p.def? g.f8=some d):GZ p (l++[g])=((GZ p l).1+d.am.length,(GZ p l).2+d.ac.length):=by
 unfold GZ;rw[List.foldl_append];simp only[Md,List.foldl_nil,h]
variable{g:Al}
theorem Vm{p:AL}{l:List Al}{i:Nat}{d:Bs}(hg:l[i]? =some g)(h:p.def? g.f8=some d):GZ p (l.take (i+1))=((GZ p (l.take i)).1+d.am.length,(GZ p (l.take i)).2+d.ac.length):=by
 rw[GC,hg];exact Vl p _ g h
theorem Nr{p:AL}{s:BF}{d:Bs}{g:Al}{i c:Nat}: ∀{l:List Hy} {j:Nat},EI p s d g i c j l=true↔ ∀(t:Nat) ch,l[t]? =some ch→KY p s d g i (j+t) (c+(j+t)) ch=true
 |[],j=>by simp[EI]
 |x::l,j=>by
  rw[EI,AP,Nr (j:=j+1)];constructor
  .rintro⟨h1,h2⟩ t ch ht;cases t with
   |zero=>
    simp only[F0,CE]at ht;subst ht;exact h1
   |succ t=>
    rw[F6]at ht;have:=h2 t ch ht
    rwa [show j+1+t=j+(t+1) by omega]at this
  .intro h;refine⟨h 0 x rfl,fun t ch ht=>?_⟩;have:=h (t+1) ch (by rw[F6];exact ht)
   rwa [show j+(t+1)=j+1+t by omega]at this
theorem Su{p:AL}{sz:List Int}{s:BF}: ∀{l:List Al} {i:Nat},s.bv.drop i=l→i≤s.bv.length→
 (B4 p (Bb p sz) s i (GZ p (s.bv.take i)).1 (GZ p (s.bv.take i)).2 l=true↔GZ p s.bv=(s.am.length,s.ac.length)∧ ∀(k:Nat) g,i≤k→s.bv[k]? =some g→ ∃d,p.def? g.f8=some d∧Ja p (Bb p sz) s k (GZ p (s.bv.take k)).1 (GZ p (s.bv.take k)).2 g d=true)
 |[],i,hd,hi=>by
  have hil:s.bv.length≤i:=by
   have:=congrArg List.length hd;simp at this;omega
  rw[B4,AP,Ap,Ap,CS hil];constructor
  .rintro⟨h1,h2⟩;exact⟨by rw[←h1,←h2],fun k g hk hg=>by have:=AI hg;omega⟩
  .rintro⟨h,_⟩;rw[h];exact⟨rfl,rfl⟩
 |g::l,i,hd,hi=>by
  have hg:s.bv[i]? =some g:=by
   have:=congrArg (fun l=>l[0]?) hd;simpa using this
  have hil:=AI hg;have hd2:s.bv.drop (i+1)=l:=by
   rw[AR hg]at hd;exact(Rg hd).2
  rw[B4];cases hdf:p.def? g.f8 with
  |none=>
   simp only[AM,false_iff];rintro⟨_,h⟩;obtain⟨d,h1,_⟩:=h i g (EX _) hg;rw[hdf]at h1;cases h1
  |some d=>
   have ih:=Su (p:=p) (sz:=sz) (s:=s) hd2 hil;rw[Vm hg hdf]at ih;simp only[AP,ih];constructor
   .rintro⟨h1,h2,h3⟩;refine⟨h2,fun k g2 hk hg2=>?_⟩;by_cases hki:k=i
    .subst hki;rw[hg]at hg2;cases hg2;exact⟨d,hdf,h1⟩
    .exact h3 k g2 (by omega) hg2
   .rintro⟨h1,h2⟩;obtain⟨d2,h3,h4⟩:=h2 i g (EX _) hg;rw[hdf]at h3;cases h3;exact⟨h4,h1,fun k g2 hk hg2=>h2 k g2 (by omega) hg2⟩
variable{j:Nat}{ch:Hy}
theorem NH{p:AL}{s:BF}{i:Nat}{d:Bs}{q:Fo}(hg:s.bv[i]? =some g)(hd:p.def? g.f8=some d)(hc:d.am[j]? =some ch)(h1:q.group=i)(h2:q.index=j):EP p s q=ch.many:=by
 have hd2:p.defs[g.f8.toNat]? =some d:=by
  rw[AL.def?]at hd;split at hd
  .exact hd
  .cases hd
 simp[EP,h1,h2,hg,hd2,hc]
theorem Dx{p:AL}{n:Int}{d:Bs}(h:p.def? n=some d):0≤n∧p.defs[n.toNat]? =some d:=by
 rw[AL.def?]at h;split at h
 .exact⟨by assumption,h⟩
 .cases h
theorem jO{p:AL}{sz:List Int}{s:BF}(hg: ∀(i:Nat) g,s.bv[i]? =some g→ ∃d,Lo p sz s i g d): ∀(n:Nat),n≤s.bv.length→ ∀c,c<(GZ p (s.bv.take n)).1→ ∃i g d j ch,i<n∧s.bv[i]? =some g∧Lo p sz s i g d∧d.am[j]? =some ch∧c=(GZ p (s.bv.take i)).1+j
 |0,_,c,h=>by simp[GZ]at h
 |n+1,hn,c,h=>by
  obtain⟨g,hgn⟩:=get_some (l:=s.bv) (i:=n) (by omega);obtain⟨d,hd⟩:=hg n g hgn;rw[Vm hgn hd.f8]at h;by_cases hc:c<(GZ p (s.bv.take n)).1
  .obtain⟨i,g,d,j,ch,h1,h2⟩:=jO hg n (by omega) c hc;exact⟨i,g,d,j,ch,by omega,h2⟩
  .obtain⟨ch,hch⟩:=get_some (l:=d.am) (i:=c-(GZ p (s.bv.take n)).1) (by dsimp only at h;omega);exact⟨n,g,d,_,ch,by omega,hgn,hd,hch,by omega⟩
structure ADO(p:AL)(sz:List Int)(s:BF)(c:Nat)(q:Fo)(i j:Nat)(g:Al)(d:Bs)(ch:Hy):Prop where
 grp:s.bv[i]? =some g
 st:Lo p sz s i g d
 cha:d.am[j]? =some ch
 at_:c=(GZ p (s.bv.take i)).1+j
 group:q.group=i
 index:q.index=j
 place:q.at_=g.place d ch.at_
theorem FH.chn{p:AL}{sz:List Int}{s:BF}(hg: ∀(i:Nat) g,s.bv[i]? =some g→ ∃d,Lo p sz s i g d)(ht:GZ p s.bv=(s.am.length,s.ac.length)){c:Nat}{q:Fo}(hq:s.am[c]? =some q): ∃i j g d ch,ADO p sz s c q i j g d ch:=by
 obtain⟨i,g,d,j,ch,h1,h2,h3,h4,h5⟩:=jO hg s.bv.length (EX _) c (by rw[EL,ht];exact AI hq);obtain⟨q2,h6,h7,h8,h9⟩:=h3.am j ch h4;rw[←h5,hq]at h6;cases h6;exact⟨i,j,g,d,ch,h2,h3,h4,h5,h7,h8,h9⟩
theorem AFk{p:AL}{sz:List Int}{s:BF}(h:DT p sz s=true):FH p sz s:=by
 simp only[DT,AP]at h;obtain⟨h1,h2,h3,h4,h5⟩:=h;have h4:=(Su (p:=p) (sz:=sz) (s:=s) (l:=s.bv) (i:=0) rfl (by omega)).1 h4;have key: ∀(i:Nat) g,s.bv[i]? =some g→ ∃d,Lo p sz s i g d∧ ∀(j:Nat) ch,d.am[j]? =some ch→ ∃q,s.am[(GZ p (s.bv.take i)).1+j]? =some q∧Nf p s d g i j q ch=true:=by
  intro i g hi;obtain⟨d,hd,hok⟩:=h4.2 i g (by omega) hi;simp only[Ja,AP,Ap]at hok;obtain⟨g1,g2,g3,g4,g5⟩:=hok;have g5:=Nr.1 g5;have key: ∀(j:Nat) ch,d.am[j]? =some ch→ ∃q,s.am[(GZ p (s.bv.take i)).1+j]? =some q∧Nf p s d g i j q ch=true:=by
   intro j ch hj;have:=g5 j ch hj;rw[I4,KY]at this;split at this
   .rename_i q hq;exact⟨q,hq,this⟩
   .cases this
  refine⟨d,⟨hd,g1,g2,g3,g4,fun j ch hj=>?_⟩,key⟩;obtain⟨q,hq,hok⟩:=key j ch hj;simp only[Nf,AP,Ap]at hok;exact⟨q,hq,hok.1,hok.2.1,hok.2.2.1⟩
 have hgrp: ∀(i:Nat) g,s.bv[i]? =some g→ ∃d,Lo p sz s i g d:=fun i g hi=>by
  obtain⟨d,hd,_⟩:=key i g hi;exact⟨d,hd⟩
 refine⟨h1,Ps h2,fun i x hi hx=>SU.1 h3 x ?_,hgrp,h4.1,fun c q hq=>?_,DO.1 h5⟩
 .rw[ON];exact⟨i-1,by rw[HW,show 1+(i-1)=i by omega];exact hx⟩
 .obtain⟨i,j,g,d,ch,hc⟩:=FH.chn hgrp h4.1 hq;obtain⟨d2,hd2,hk⟩:=key i g hc.grp;have:=hd2.f8;rw[hc.st.f8]at this;cases this;obtain⟨q2,hq2,hok⟩:=hk j ch hc.cha;rw[←hc.at_,hq]at hq2;cases hq2;simp only[Nf,AP,Ap,I3,HU,DO]at hok;exact⟨hok.2.2.2.1,hok.2.2.2.2.1,fun m hm=>by rw[NH hc.grp hc.st.f8 hc.cha hc.group hc.index];exact hok.2.2.2.2.2 m hm⟩
theorem Ti{p:AL}{sz:List Int}{s:BF}(h:FH p sz s):DT p sz s=true:=by
 simp only[DT,AP];refine⟨h.small,zA h.tree,SU.2 fun x hx=>?_,(Su (p:=p) (sz:=sz) (s:=s) (l:=s.bv) (i:=0) rfl (by omega)).2 ⟨h.tot,fun i g hi hg=>?_⟩,DO.2 h.wait⟩
 .obtain⟨i,hi⟩:=Hm hx;rw[HW]at hi;exact h.dead _ x (by omega) hi
 .obtain⟨d,hd⟩:=h.grp i g hg;refine⟨d,hd.f8,?_⟩;simp only[Ja,AP,Ap];refine⟨hd.at_,hd.len,hd.ol,hd.wt,Nr.2 fun j ch hj=>?_⟩;obtain⟨q,hq,q1,q2,q3⟩:=hd.am j ch hj;have hqo:=h.que _ q hq;rw[I4,KY,hq];simp only[Nf,AP,Ap,I3,HU,DO];exact⟨q1,q2,q3,hqo.len,hqo.dead,fun m hm=>by rw[←NH hg hd.f8 hj q1 q2];exact hqo.msgs m hm⟩
structure Xx(s s':BF):Prop where
 sp: ∀(i:Nat) x,s.ac[i]? =some x→s'.ac[i]? =some x
 gr: ∀(i:Nat) g,s.bv[i]? =some g→s'.bv[i]? =some g
 ch: ∀(c:Nat) q,s.am[c]? =some q→ ∃l,s'.am[c]? =some {q with queue:=q.queue++l}
theorem H7(s:BF):Xx s s:=⟨fun _ _ h=>h,fun _ _ h=>h,fun c q h=>⟨[],by simpa using h⟩⟩
theorem ly{a b c:BF}(h1:Xx a b)(h2:Xx b c):Xx a c:=by
 refine⟨fun i x h=>h2.sp i x (h1.sp i x h),fun i x h=>h2.gr i x (h1.gr i x h),fun i q h=>?_⟩;obtain⟨l,h3⟩:=h1.ch i q h;obtain⟨l2,h4⟩:=h2.ch i _ h3;exact⟨l++l2,by rw[h4];simp⟩
theorem Kh{β:Type}{a:List α}{b:List β}(h: ∀(i:Nat) x,a[i]? =some x→ ∃y,b[i]? =some y):a.length≤b.length:=by
 by_cases h0:a.length=0
 .omega
 .obtain⟨x,hx⟩:=get_some (l:=a) (i:=a.length-1) (by omega);obtain⟨y,hy⟩:=h _ x hx;have:=AI hy;omega
variable{s':BF}
theorem Xx.ns{s:BF}(h:Xx s s'):s.ac.length≤s'.ac.length:=Kh fun i x hx=>⟨_,h.sp i x hx⟩
theorem Xx.nc{s:BF}(h:Xx s s'):s.am.length≤s'.am.length:=Kh fun i x hx=>by obtain⟨l,hl⟩:=h.ch i x hx;exact⟨_,hl⟩
variable{nc' ns':Nat}
theorem vp{p:AL}{nc ns:Nat}{v:CV}(h1:nc≤nc')(h2:ns≤ns')(h:v.inB p nc ns=true):v.inB p nc' ns'=true:=by
 unfold CV.inB at*;split
 .rename_i hk;simpa[hk]using h
 .rename_i hk1;rw[CI hk1]at h;split
  .rename_i hk;simpa[hk]using h
  .rename_i hk2;rw[CI hk2]at h;split
   .rename_i hk;rw[D0 hk]at h;simp only[AP,Ap]at*;omega
   .rename_i hk3;rw[CI hk3]at h;split
    .rename_i hk;rw[D0 hk]at h;simp only[AP,Ap]at*;omega
    .rename_i hk4;rw[CI hk4]at h;exact h
theorem Gw{p:AL}{nc ns:Nat}{l:List CV}(h1:nc≤nc')(h2:ns≤ns')(h:l.all (CV.inB p nc ns)=true):l.all (CV.inB p nc' ns')=true:=by
 rw[DO]at*;exact fun v hv=>vp h1 h2 (h v hv)
theorem H9{l':List BS}{i:Int}(h:l.length≤l'.length)(hi:EF l i):EF l' i:=⟨hi.1,by have:=hi.2;omega⟩
theorem JQ{s:BF}(h:Xx s s'){i:Int}(hi:EF s.ac i):AY s'.ac i=AY s.ac i:=by
 obtain⟨x,hx⟩:=get_some (l:=s.ac) (i:=i.toNat) (by have:=hi.1;have:=hi.2;omega);rw[AY,AY,h.sp _ _ hx,hx]
theorem sH{p:AL}{nc ns:Nat}{env:List CV}(he:env.all (CV.inB p nc ns)=true)(x:Bc)(hf:x.formed env.length=true):(x.value env).inB p nc ns=true:=by
 obtain⟨op,n,kids⟩:=x;by_cases h1:op=1
 .subst h1;rw[WG];rcases kids with _|⟨a,_|⟨b,_|⟨c,l⟩⟩⟩<;>simp[Bc.formed]at hf;simp[CV.inB,hf]
 by_cases h2:op=2
 .subst h2;rw[Tp];obtain⟨hn,hl⟩:=Qy hf;obtain⟨v,hv⟩:=get_some (l:=env) (i:=n.toNat) (by omega);rw[hv];exact DO.1 he v (Ac hv)
 obtain⟨h3,h4,h5,a,b,rfl,hfa,hfb⟩:=Sk hf h1 h2;rw[WE env op n a b h1 h2];generalize opV op (eu (a.value env)) (eu (b.value env))=k;have: -1000000000≤P4 k∧P4 k≤1000000000:=by unfold P4;omega
 simp[CV.inB,this]
theorem iX{p:AL}{sz:List Int}{s:BF}(h:FH p sz s){l:List Fo}(hl:l.length=s.am.length)(hq: ∀(c:Nat) q,s.am[c]? =some q→ ∃m,l[c]? =some {q with queue:=m}∧QOk p s {q with queue:=m}):FH p sz {s with am:=l}:=by
 have hsm:=h.small;simp only[BF.small,AP,Ap]at hsm;refine⟨by simp only[BF.small,AP,Ap];omega,h.tree,h.dead,fun i g hg=>?_,by rw[hl];exact h.tot,fun c q hc=>?_,fun w hw=>?_⟩
 .obtain⟨d,hd⟩:=h.grp i g hg;refine⟨d,hd.f8,hd.at_,hd.len,by rw[hl];exact hd.ol,hd.wt,fun j ch hj=>?_⟩;obtain⟨q,h1,h2⟩:=hd.am j ch hj;obtain⟨m,h3,_⟩:=hq _ q h1;exact⟨_,h3,h2⟩
 .obtain⟨q0,h0⟩:=get_some (l:=s.am) (i:=c) (by rw[←hl];exact AI hc);obtain⟨m,h3,h4⟩:=hq c q0 h0;rw[h3]at hc;cases hc;exact⟨h4.len,h4.dead,fun m hm=>by rw[hl];exact h4.msgs m hm⟩
 .have:=h.wait w hw;simpa only[CA,hl]using this
theorem V7{p:AL}{sz:List Int}{s:BF}(h:FH p sz s){c:Nat}{q:Fo}(hq:s.am[c]? =some q){l:List (List CV)}(hl:QOk p s {q with queue:=l}):FH p sz {s with am:=s.am.set c {q with queue:=l}}:=by
 refine iX h (by simp) fun c2 q2 h2=>?_;rw[He];by_cases e:c=c2
 .subst e;rw[hq]at h2;cases h2;rw[D0 rfl,D0 (AI hq)];exact⟨l,rfl,hl⟩
 .rw[CI e];exact⟨q2.queue,h2,h.que c2 q2 h2⟩
theorem lv{s:BF}{c:Nat}{q:Fo}(hq:s.am[c]? =some q)(l:List (List CV)):Xx s {s with am:=s.am.set c {q with queue:=q.queue++l}}:=by
 refine⟨fun _ _ h=>h,fun _ _ h=>h,fun c2 q2 h2=>?_⟩;dsimp only;rw[He];by_cases e:c=c2
 .subst e;rw[hq]at h2;cases h2;rw[D0 rfl,D0 (AI hq)];exact⟨l,rfl⟩
 .rw[CI e];exact⟨[],by simpa using h2⟩
theorem NX{p:AL}{sz:List Int}{s:BF}(h:FH p sz s){l:List Fq}(hl:l.length≤40)(hw: ∀w∈l,CA p sz s w=true):FH p sz {s with waits:=l}:=by
 have hsm:=h.small;simp only[BF.small,AP,Ap]at hsm;exact⟨by simp only[BF.small,AP,Ap];omega,h.tree,h.dead,fun i g hg=>by obtain⟨d,hd⟩:=h.grp i g hg;exact⟨d,hd.f8,hd.at_,hd.len,hd.ol,hd.wt,hd.am⟩,h.tot,fun c q hc=>by have:=h.que c q hc;exact⟨this.len,this.dead,this.msgs⟩,hw⟩
structure Cv(p:AL)(sz:List Int)(s:BF)(j:Hf):Prop where
 n0:0≤j.node
 size:sz[j.node.toNat]? =some (j.env.length:Int)
 at_:EF s.ac j.at_
 live:AY s.ac j.at_=false
 ol:j.env.all (CV.inB p s.am.length s.ac.length)=true
theorem Rj{p:AL}{sz:List Int}{s:BF}{j:Hf}(h:Cv p sz s j)(he:Xx s s'):Cv p sz s' j:=⟨h.n0,h.size,H9 he.ns h.at_,by rw[JQ he h.at_];exact h.live,Gw he.nc he.ns h.ol⟩
theorem MI{p:AL}{sz:List Int}{s:BF}{j:Hf}(hF:BK p sz)(h:Cv p sz s j): ∃x l,p.nodes[j.node.toNat]? =some x∧Cy p j.env.length x=true∧Ia p j.env.length x=some l∧(∀q∈l,0≤q.1∧sz[q.1.toNat]? =some q.2)∧j.env.length≤5000:=by
 have hl:=AI h.size;rw[hF.len]at hl;obtain⟨x,hx⟩:=get_some hl;obtain⟨s0,l,h1,h2,h3,h4,h5,h6⟩:=hF.node _ x hx;rw[h.size]at h1;cases h1;exact⟨x,l,hx,h4,h5,h6,by omega⟩
theorem QG{p:AL}{sz:List Int}{s:BF}{j:Hf}{x:C0}{l:List (Int×Int)}(h:Cv p sz s j)(ho: ¬x.op=4)(hl:Ia p j.env.length x=some l)(hq: ∀q∈l,0≤q.1∧sz[q.1.toNat]? =some q.2)(k:Nat): ∀j'∈Bq x k j.at_ j.env,Cv p sz s j':=by
 intro j' hj';rw[Bq]at hj';split at hj'
 .rename_i n hn;rw[Ia,CI ho]at hl;cases hl;have:=hq (n,j.env.length) (by simp only[CM,FN];exact⟨n,Ac hn,rfl⟩);rw[As]at hj';subst hj';exact⟨this.1,this.2,h.at_,h.live,h.ol⟩
 .cases hj'
theorem jx{i:Int}(hi:EF l i):BL (l++m) i=BL l i:=by
 have:=hi.1;have:=hi.2;rw[BL,BL,Be (by omega)]
theorem P5: ∀{k:Nat} {i:Int},EF l i→A9 l k i=true→A9 (l++m) k i=true
 |0,i,hi,h=>h
 |k+1,i,hi,h=>by
  rw[A9]at h⊢;by_cases h0:i=0
  .simp[h0]
  .simp only[h0,decide_false,Ip,AP,Ap]at h⊢;rw[jx hi];exact⟨H9 (by simp) h.1,P5 h.1 h.2⟩
theorem LV: ∀{l:List Nc} {i:Nat},DF i l=true→ ∀(t:Nat) y,l[t]? =some y→0≤y.rc∧y.rc≤((i+t:Nat):Int)
 |x::l,i,h,t,y,ht=>by
  rw[DF,AP,AP,Ap,Ap]at h;cases t with
  |zero=>
   simp only[F0,CE]at ht;subst ht;exact⟨h.1,by simpa using h.2.1⟩
  |succ t=>
   rw[F6]at ht;have:=LV h.2.2 t y ht
   rwa [show i+1+t=i+(t+1) by omega]at this
theorem G8(d:Bs)(g:Al)(i:Nat): ∀(l:List Hy) (k:Nat),(FU d g i k l).length=l.length
 |[],k=>rfl
 |c::l,k=>by simp[FU,G8 d g i l (k+1)]
theorem J6(d:Bs)(g:Al)(i:Nat): ∀(l:List Hy) (k t:Nat),(FU d g i k l)[t]? =(l[t]?).map fun c=>(⟨(i:Int),((k+t:Nat):Int),g.place d c.at_,[]⟩:Fo)
 |[],k,t=>by simp[FU]
 |c::l,k,0=>by simp[FU]
 |c::l,k,t+1=>by
  rw[FU,F6,F6,J6 d g i l (k+1) t];congr 1;funext c;rw[show k+1+t=k+(t+1) by omega]
theorem Po{d:Bs}: ∀{l:List Nc} {k:Nat} {j:Hf},j∈Dm d g k l→ ∃(t:Nat) (y:Nc),l[t]? =some y∧j=⟨y.node,g.place d ((k+t:Nat)+1),g.env⟩
 |[],k,j,h=>by cases h
 |y::l,k,j,h=>by
  rw[Dm]at h;rcases Co.1 h with rfl|h
  .exact⟨0,y,rfl,rfl⟩
  .obtain⟨t,y,h1,h2⟩:=Po h;exact⟨t+1,y,by rw[F6];exact h1,by rw[h2,show k+1+t=k+(t+1) by omega]⟩
structure Fz(p:AL)(sz:List Int)(s:BF)(j:Hf)(x:C0)(d:Bs):Prop where
 pm:FH p sz s
 job:Cv p sz s j
 node:p.nodes[j.node.toNat]? =some x
 op:x.op=4
 n0:0≤x.n
 f8:p.defs[x.n.toNat]? =some d
 ok:Od d
 grp:((Bb p sz)[x.n.toNat]?)=some ((j.env.length:Int)+d.own)
 rules: ∀r∈d.rules,0≤r.node∧sz[r.node.toNat]? =some ((j.env.length:Int)+d.own+CR d r.d7)
 ac: ∀y∈d.ac,0≤y.node∧sz[y.node.toNat]? =some ((j.env.length:Int)+d.own)
 kid: ∃k,x.kids=[k]∧0≤k∧sz[k.toNat]? =some ((j.env.length:Int)+d.own)
theorem tp{p:AL}{sz:List Int}{s:BF}{j:Hf}{x:C0}(hF:BK p sz)(hs:FH p sz s)(hj:Cv p sz s j)(hx:p.nodes[j.node.toNat]? =some x)(ho:x.op=4): ∃d,Fz p sz s j x d:=by
 obtain⟨n1,n2,_⟩:=L7 hF hx ho;obtain⟨d,hd⟩:=get_some (l:=p.defs) (i:=x.n.toNat) (by omega);have hdf:=B3 hF hd;obtain⟨i,x2,s0,h1,h2,h3,h4,h5,h6,h7,h8,h9,k,h10,h11,h12⟩:=hdf.node;have hij:i=j.node.toNat:=by
  by_cases e:i=j.node.toNat
  .exact e
  .exact absurd h3 (hF.diff i j.node.toNat x2 x e h1 h2 hx ho)
 subst hij;rw[hx]at h1;cases h1;rw[hj.size]at h4;cases h4;exact⟨d,hs,hj,hx,ho,n1,hd,hdf.ok,h7,h8,h9,k,h10,h11,h12⟩
theorem LH{p:AL}{sz:List Int}{s:BF}{i:Nat}{d:Bs}(h:Lo p sz s i g d):d.own≤g.env.length:=by
 have hm:=h.wt;rw[DG,Ap]at hm;have:=congrArg List.length hm;rw[Jd,Io]at this;omega
theorem jQ{p:AL}{sz:List Int}{s:BF}{c:Nat}{q:Fo}{i:Nat}{d:Bs}(hF:BK p sz)(hc:ADO p sz s c q i j g d ch):EF s.ac q.at_:=by
 rw[hc.place];have hdf:=B3 hF (Dx hc.st.f8).2;obtain⟨c1,c2,_⟩:=hdf.ok.chan ch (Ac hc.cha);exact Pd hc.st.wt (LH hc.st) hc.st.at_ hc.st.ol c1 c2
theorem Ot{p:AL}{sz:List Int}{s:BF}(hF:BK p sz)(h:FH p sz s){c:Nat}{q:Fo}(hq:s.am[c]? =some q):jE p s q:=by
 obtain⟨i,j,g,d,ch,hc⟩:=FH.chn h.grp h.tot hq;obtain⟨d0,d1⟩:=Dx hc.st.f8;refine⟨jQ hF hc,by rw[hc.group];omega,by rw[hc.index];omega,⟨g,d,ch,by rw[hc.group];exact hc.grp,d0,d1,by rw[hc.index];exact hc.cha⟩,(h.que c q hq).len⟩
section
variable{p:AL}{sz:List Int}{s:BF}{j:Hf}{x:C0}{d:Bs}
theorem Fz.env(h:Fz p sz s j x d):(Aq s d x.n j).env.length=j.env.length+d.own:=by simp[Aq,Jd]
theorem Fz.wt(h:Fz p sz s j x d):DG d s.am.length s.ac.length (Aq s d x.n j)=true:=by
 have e:j.env.length+d.own-d.am.length-d.ac.length=j.env.length:=by unfold Bs.own;omega
 rw[DG,Ap,h.env,e,Aq,List.drop_left]
theorem Fz.place(h:Fz p sz s j x d){n:Int}(h1:1≤n)(h2:n≤d.ac.length):(Aq s d x.n j).place d n=(s.ac.length:Int)+(n-1):=TP h.wt (by rw[h.env];omega) h1 h2
theorem TQ(g:Al)(d:Bs):g.place d 0=g.at_:=by simp[Al.place]
theorem Fc(d:Bs)(g:Al)(l:List Nc):(DM d g l).length=l.length:=by simp[DM]
theorem Fz.spot(h:Fz p sz s j x d){n:Int}(h1:0≤n)(h2:n≤d.ac.length):EF (s.ac++DM d (Aq s d x.n j) d.ac) ((Aq s d x.n j).place d n)∧AY (s.ac++DM d (Aq s d x.n j) d.ac) ((Aq s d x.n j).place d n)=false:=by
 by_cases h0:n=0
 .subst h0;rw[TQ];have:=h.job.at_;refine⟨H9 (by simp) this,?_⟩;have hl:=h.job.live;have e:(Aq s d x.n j).at_=j.at_:=rfl;rw[e];rw[AY]at hl⊢;have a1:=this.1;have a2:=this.2;rw[Be (by omega)];exact hl
 .rw[h.place (by omega) h2];refine⟨⟨by omega,by simp[Fc];omega⟩,?_⟩;rw[AY,Ce (by omega),DM,D2];cases d.ac[((s.ac.length:Int)+(n-1)).toNat-s.ac.length]? <;>rfl
theorem Fz.ol(h:Fz p sz s j x d):(Aq s d x.n j).env.all (CV.inB p (s.am.length+d.am.length) (s.ac.length+d.ac.length))=true:=by
 rw[Aq,Ro,AP];refine⟨Gw (by omega) (by omega) h.job.ol,?_⟩;rw[En,Ro,AP];constructor
 .rw[DO];intro v hv;obtain⟨i,hi,rfl⟩:=FN.1 hv;have:=List.mem_range'_1.1 hi;simp only[CV.inB,Int.reduceEq,F2,El,AP,Ap];omega
 .rw[DO];intro v hv;obtain⟨i,hi,rfl⟩:=FN.1 hv;have:=List.mem_range'_1.1 hi;simp only[CV.inB,Int.reduceEq,F2,El,AP,Ap];omega
theorem Fz.tree(h:Fz p sz s j x d):GV (s.ac++DM d (Aq s d x.n j) d.ac):=by
 have hT:=h.pm.tree;refine⟨by simp;have:=hT.pos;omega,by rw[jx ⟨by omega,by have:=hT.pos;omega⟩];exact hT.top,fun i hi=>?_⟩;have key: ∀(n t:Nat),t<n→t<d.ac.length→ ∃k,A9 (s.ac++DM d (Aq s d x.n j) d.ac) k ((s.ac.length:Int)+t)=true:=by
  intro n;induction n with
  |zero=>intro t ht;omega
  |succ n ih=>
   intro t ht htd;obtain⟨y,hy⟩:=get_some htd;obtain⟨y0,y1⟩:=LV h.ok.spot t y hy;have hpar:BL (s.ac++DM d (Aq s d x.n j) d.ac) ((s.ac.length:Int)+t)=(Aq s d x.n j).place d y.rc:=by
    rw[BL,Ce (by omega),DM,D2,show((s.ac.length:Int)+t).toNat-s.ac.length=t by omega,hy];rfl
   have hin:=(h.spot (n:=y.rc) y0 (by omega)).1;have: ∃k,A9 (s.ac++DM d (Aq s d x.n j) d.ac) k ((Aq s d x.n j).place d y.rc)=true:=by
    by_cases h0:y.rc=0
    .rw[h0,TQ];exact⟨_,P5 h.job.at_ (hT.qr _ h.job.at_)⟩
    .rw[h.place (by omega) (by omega)];have:=ih (y.rc-1).toNat (by omega) (by omega)
     rwa [show(((y.rc-1).toNat:Nat):Int)=y.rc-1 by omega]at this
   obtain⟨k,hk⟩:=this;refine⟨k+1,?_⟩;rw[A9,hpar,hk,Ci hin];simp
 by_cases hil:i<s.ac.length
 .have hi2:EF s.ac i:=⟨hi.1,hil⟩;exact KZ (by simp) (P5 hi2 (hT.qr i hi2))
 .have hi1:=hi.1;have hi3:=hi.2;simp only[Bi,Fc]at hi3;obtain⟨k,hk⟩:=key d.ac.length (i-s.ac.length).toNat (by omega) (by omega);rw[show(s.ac.length:Int)+((i-s.ac.length).toNat:Nat)=i by omega]at hk;exact KZ (by omega) (L4 hi hk)
theorem Fz.ext(h:Fz p sz s j x d):Xx s (CW s d (Aq s d x.n j)):=by
 refine⟨fun i y hy=>?_,fun i y hy=>?_,fun i y hy=>⟨[],?_⟩⟩
 .show(s.ac++_)[i]? =_;rw[Be (AI hy)];exact hy
 .show(s.bv++_)[i]? =_;rw[Be (AI hy)];exact hy
 .show(s.am++_)[i]? =_;rw[Be (AI hy)];simpa using hy
theorem xO{s s':BF}(he:Xx s s'){q:Fo}{i j:Nat}{g:Al}{d:Bs}{ch:Hy}(hg:s.bv[i]? =some g)(hd:p.def? g.f8=some d)(hc:d.am[j]? =some ch)(h1:q.group=i)(h2:q.index=j):EP p s' q=EP p s q:=by
 rw[NH hg hd hc h1 h2,NH (he.gr i g hg) hd hc h1 h2]
theorem yE{l:List BS}(h:GV l){i:Nat}(h1:1≤i){y:BS}(hy:l[i]? =some y):EF l y.rc:=by
 have hil:=AI hy;have hc:=h.qr i ⟨by omega,by omega⟩;obtain⟨k,hk⟩: ∃k,l.length=k+1:=⟨l.length-1,by omega⟩;rw[hk]at hc;have:=(FL (by omega) hc).1
 rwa [BL,show((i:Nat):Int).toNat=i from rfl,hy]at this
theorem xf{nc ns nc' ns':Nat}{n:Int}{m:List CV}(h1:nc≤nc')(h2:ns≤ns')(h:FA p nc ns n m=true):FA p nc' ns' n m=true:=by
 rw[FA,AP]at*;exact⟨h.1,Gw h1 h2 h.2⟩
theorem zM{s s':BF}(he:Xx s s'){w:Fq}(h:CA p sz s w=true):CA p sz s' w=true:=by
 simp only[CA,AP,Ap,HU]at*;obtain⟨h1,h2,h3,h4,h5,h6⟩:=h;exact⟨H9 he.ns h1,by rw[JQ he h1];exact h2,h3,h4,h5,Gw he.nc he.ns h6⟩
theorem Fz.sok'(hF:BK p sz)(h:Fz p sz s j x d)(hs:(CW s d (Aq s d x.n j)).am.length≤60∧(CW s d (Aq s d x.n j)).ac.length≤24∧(CW s d (Aq s d x.n j)).bv.length≤40):FH p sz (CW s d (Aq s d x.n j)):=by
 have he:=h.ext;have hsm:=h.pm.small;simp only[BF.small,AP,Ap]at hsm;have hdx:p.def? x.n=some d:=by rw[AL.def?,D0 h.n0];exact h.f8
 have hcl:(CW s d (Aq s d x.n j)).am.length=s.am.length+d.am.length:=by simp[CW,G8]
 have hsl:(CW s d (Aq s d x.n j)).ac.length=s.ac.length+d.ac.length:=by simp[CW,Fc]
 have htk: ∀i,i≤s.bv.length→(CW s d (Aq s d x.n j)).bv.take i=s.bv.take i:=fun i hi=>IN hi;refine⟨?_,h.tree,fun i y hi hy=>?_,fun i g hg=>?_,?_,fun c q hq=>?_,fun w hw=>zM he (h.pm.wait w hw)⟩
 .simp only[BF.small,AP,Ap];exact⟨hs.2.1,hs.2.2,hs.1,hsm.2.2.2⟩
 .by_cases hil:i<s.ac.length
  .have hy2:s.ac[i]? =some y:=by
    have:(s.ac++DM d (Aq s d x.n j) d.ac)[i]? =some y:=hy
    rwa [Be hil]at this
   rw[JQ he (yE h.pm.tree hi hy2)];exact h.pm.dead i y hi hy2
  .right;have:(s.ac++DM d (Aq s d x.n j) d.ac)[i]? =some y:=hy;rw[Ce (by omega),DM,D2]at this;cases hz:d.ac[i-s.ac.length]? with
   |none=>rw[hz]at this;cases this
   |some z=>
    rw[hz]at this;cases this;obtain⟨z0,z1⟩:=LV h.ok.spot _ z hz;have:=AI hz;exact(h.spot (n:=z.rc) z0 (by omega)).2
 .by_cases hil:i<s.bv.length
  .have hg2:s.bv[i]? =some g:=by
    have:(s.bv++[Aq s d x.n j])[i]? =some g:=hg
    rwa [Be hil]at this
   obtain⟨d2,hd2⟩:=h.pm.grp i g hg2;refine⟨d2,hd2.f8,H9 he.ns hd2.at_,hd2.len,Gw he.nc he.ns hd2.ol,by rw[htk i (by omega)];exact hd2.wt,fun k ch hk=>?_⟩;obtain⟨q,h1,h2,h3,h4⟩:=hd2.am k ch hk;obtain⟨l,hl⟩:=he.ch _ q h1;rw[htk i (by omega)];exact⟨_,hl,h2,h3,h4⟩
  .have hg2:(s.bv++[Aq s d x.n j])[i]? =some g:=hg;have hlt:=AI hg2;rw[Bi,ID]at hlt;obtain rfl:i=s.bv.length:=by omega
   rw[Ce (by omega)]at hg2;simp only[MP,F0,CE]at hg2;subst hg2;have e1:(GZ p ((CW s d (Aq s d x.n j)).bv.take s.bv.length))=(s.am.length,s.ac.length):=by rw[htk _ (by omega),EL,h.pm.tot]
   refine⟨d,hdx,H9 he.ns h.job.at_,?_,by rw[hcl,hsl];exact h.ol,by rw[e1];exact h.wt,fun k ch hk=>?_⟩
   .have:=h.grp;rw[show(Aq s d x.n j).f8=x.n from rfl,this,h.env];simp
   .rw[e1];refine⟨⟨s.bv.length,k,(Aq s d x.n j).place d ch.at_,[]⟩,?_,rfl,rfl,rfl⟩;show(s.am++FU d (Aq s d x.n j) s.bv.length 0 d.am)[s.am.length+k]? =_;rw[Ce (by omega),J6,show s.am.length+k-s.am.length=k by omega,hk];simp
 .show GZ p (s.bv++[Aq s d x.n j])=_;rw[Vl p _ _ (d:=d) hdx,h.pm.tot,hcl,hsl]
 .have hq2:(s.am++FU d (Aq s d x.n j) s.bv.length 0 d.am)[c]? =some q:=hq;by_cases hil:c<s.am.length
  .rw[Be hil]at hq2;have hqo:=h.pm.que c q hq2;obtain⟨i,k,g,d2,ch,hc⟩:=FH.chn h.pm.grp h.pm.tot hq2;have hin:EF s.ac q.at_:=jQ hF hc;exact⟨hqo.len,by rw[JQ he hin];exact hqo.dead,fun m hm=>by rw[xO he hc.grp hc.st.f8 hc.cha hc.group hc.index];exact xf he.nc he.ns (hqo.msgs m hm)⟩
  .rw[Ce (by omega),J6]at hq2;cases hz:d.am[c-s.am.length]? with
   |none=>rw[hz]at hq2;cases hq2
   |some z=>
    rw[hz]at hq2;cases hq2;exact⟨by simp,.inl rfl,fun m hm=>by cases hm⟩
end
abbrev pA(p:AL):AV:=.agg [.d (.be (p.free.map Av)),.d (.be (p.nodes.map Af)),.d (.be (p.defs.map Ax)),.d (.int .i64 p.main)]
abbrev sA(s:BF):AV:=.agg [.d (.be (s.ac.map Ab)),.d (.be (s.bv.map Ar)),.d (.be (s.am.map Bm)),.d (.be (s.waits.map AW))]
structure Pz(p:AL)(sz:List Int)(s:BF)(w:Fq)(x:C0):Prop where
 n0:0≤w.node
 node:p.nodes[w.node.toNat]? =some x
 op:x.op=6∨x.op=7∨x.op=8
 at_:EF s.ac w.at_
 live:AY s.ac w.at_=false
 size:sz[w.node.toNat]? =some (w.env.length:Int)
 len:w.env.length≤5000
 n: ¬x.op=7→0≤x.n∧x.n<w.env.length
 ol:w.env.all (CV.inB p s.am.length s.ac.length)=true
variable{w:Fq}
theorem NY{p:AL}{sz:List Int}{s:BF}(hF:BK p sz)(h:CA p sz s w=true): ∃x,Pz p sz s w x:=by
 simp only[CA,AP,Ap,HU]at h;obtain⟨h1,h2,h3,h4,h5,h6⟩:=h;cases hx:p.nodes[w.node.toNat]? with
 |none=>rw[hx]at h4;cases h4
 |some x=>
  rw[hx]at h4;simp only[Da,I3,Ap]at h4;obtain⟨v,l,h7,h8,h9,h10,_⟩:=hF.node _ x hx;rw[h7]at h5;have h5:(w.env.length:Int)=v:=h5;rw[←h5]at h7 h8 h9 h10;refine⟨x,h3,hx,h4,h1,h2,h7,by omega,fun ho=>?_,h6⟩;simp only[Cy,AP]at h10;have h11:=h10.2.1;rw[XZ,D0 (by omega)]at h11;exact of_decide_eq_true h11
theorem Pz.val{p:AL}{sz:List Int}{s:BF}{x:C0}(h:Pz p sz s w x)(ho: ¬x.op=7): ∃v,w.env[x.n.toNat]? =some v∧Ih w.env x.n=v∧(v.kind=4→EF s.ac v.n∧ ∃y,s.ac[v.n.toNat]? =some y∧AY s.ac v.n=y.dead):=by
 have:=h.n ho;obtain⟨v,hv⟩:=get_some (l:=w.env) (i:=x.n.toNat) (by omega);refine⟨v,hv,by rw[Ih,hv];rfl,fun hk=>?_⟩;have hb:=DO.1 h.ol v (Ac hv);simp only[CV.inB,hk,Int.reduceEq,F2,El,AP,Ap]at hb;obtain⟨y,hy⟩:=get_some (l:=s.ac) (i:=v.n.toNat) (by omega);exact⟨hb,y,hy,by simp[AY,hy]⟩
structure cP(p:AL)(sz:List Int)(s:BF)(g:Al)(d:Bs)(r:FG):Prop where
 at0:0≤r.at_
 at1:r.at_≤d.ac.length
 place:EF s.ac (g.place d r.at_)
 j0:0<r.d7.length
 j1:r.d7.length≤3
 join: ∀c∈r.d7,0≤c∧c<d.am.length∧0≤g.own d true c∧ ∃q,s.am[(g.own d true c).toNat]? =some q∧q.queue.length≤12∧Kr s (g.own d true c)=q.queue.length
theorem Zm{d:Bs}{r:FG}: ∀{l:List Int} {i:Nat},joinsOk d r i l=true→ ∀c∈l,0≤c∧c<d.am.length
 |[],_,_,c,hc=>by simp at hc
 |x::l,i,h,c,hc=>by
  rw[joinsOk]at h;simp only[GX,AP,Ap]at h;rcases Co.1 hc with rfl|hc
  .exact⟨h.1.1,h.1.2.1⟩
  .exact Zm h.2 c hc
variable{g:Al}
theorem Ix{p:AL}{sz:List Int}{s:BF}{i:Nat}{d:Bs}{r:FG}(hF:BK p sz)(hs:FH p sz s)(hg:s.bv[i]? =some g)(hd:Lo p sz s i g d)(hr:r∈d.rules):cP p sz s g d r:=by
 have ho:=(B3 hF (Dx hd.f8).2).ok;have hr1:=ho.i9 r hr;simp only[Bd,AP,Ap]at hr1;obtain⟨⟨h1,h2⟩,h3,h4,h5⟩:=hr1;refine⟨h1,h2,Pd hd.wt (LH hd) hd.at_ hd.ol h1 h2,h3,h4,fun c hc=>?_⟩;obtain⟨c0,c1⟩:=Zm h5 c hc;obtain⟨ch,hch⟩:=get_some (l:=d.am) (i:=c.toNat) (by omega);obtain⟨q,hq,_⟩:=hd.am _ ch hch;have ho:=Ko hd.wt c0 c1;have:(g.own d true c).toNat=(GZ p (s.bv.take i)).1+c.toNat:=by omega
 refine⟨c0,c1,by omega,q,by rw[this];exact hq,(hs.que _ q hq).len,by rw[Kr,this,hq];rfl⟩
theorem RA{l:List Nat}(h:0∈l):Br l=[]:=by
 induction l with
 |nil=>simp at h
 |cons n l ih=>
  rw[Br];rcases Co.1 h with h|h
  .subst h;rfl
  .simp[ih h]
theorem jc{p:AL}{s:BF}{x:C0}(hx:p.nodes[w.node.toNat]? =some x):lc p s w=if x.op=7 then true else if (Ih w.env x.n).kind=4 then(if x.op=8 then AY s.ac (Ih w.env x.n).n else decide (w.at_≠0)&&(!AY s.ac (Ih w.env x.n).n&& !Cg s.ac (Ih w.env x.n).n w.at_))else false:=by
 rw[lc,hx]
theorem vX{p:AL}{sz:List Int}{s:BF}(hF:BK p sz)(hs:FH p sz s){x:C0}(hw:Pz p sz s w x):BB (KL Tryz.prog cfg) 71 [pA p,sA s,.agg [.d (.int .i64 (w.at_)),.d (.int .i64 (w.node)),.d (.be (w.env.map AN))]] []=.ok (.ret (.d (.bool (lc p s w))),[]):=by
 have hx:=hw.node;have hn:=hw.n0;have hxl:=AI hx;rw[jc hx];by_cases ho:x.op=7
 ·(refine Ae rfl Tryz.func71 rfl rfl rfl ?_;show Wp _ _ _ _ (Tryz.f71.body.get rfl) _ _;simp only[Tryz.f71,AS])
  exact au
 obtain⟨v,hv,hvn,hk⟩:=hw.val ho;have⟨n0,n1⟩:=hw.n ho;rw[hvn];by_cases h4:v.kind=4
 .obtain⟨hr,y,hy,hyd⟩:=hk h4;obtain⟨r0,r1⟩:=hr;have hss:=hs.small;simp only[BF.small,AP,Ap]at hss;obtain⟨w0,w1⟩:=hw.at_;have hin:=nR s.ac (.be (s.bv.map Ar)) (.be (s.am.map Bm)) (.be (s.waits.map AW)) v.n w.at_ (by omega) hs.tree ⟨r0,r1⟩ w0;by_cases ho8:x.op=8
  .rw[hyd];clear hk
   (refine Ae rfl Tryz.func71 rfl rfl rfl ?_;show Wp _ _ _ _ (Tryz.f71.body.get rfl) _ _;simp only[Tryz.f71,AS])
   exact au
  .rw[hyd];clear hk
   (refine Ae rfl Tryz.func71 rfl rfl rfl ?_;show Wp _ _ _ _ (Tryz.f71.body.get rfl) _ _;simp only[Tryz.f71,AS])
   (repeat' (first|simp only[go_sem, *]|(refine sx ?_ ?_<;>intro hc)|refine sy (by omega) fun x hx hm=>?_|simp(disch:=first|assumption|omega) only[AK]))
   all_goals simp[*]
 .clear hk
  (refine Ae rfl Tryz.func71 rfl rfl rfl ?_;show Wp _ _ _ _ (Tryz.f71.body.get rfl) _ _;simp only[Tryz.f71,AS])
  exact au
def N8(l:List Nat):List Int:=if 0∈l then []else l.map fun(n:Nat)=>(n:Int)
def JH(s:BF)(d:Bs)(g:Al)(r:FG):List Int:=if AY s.ac (g.place d r.at_)=true then []else N8 (BP s d g r)
theorem LG{p:AL}{sz:List Int}{s:BF}{i:Nat}{d:Bs}(hF:BK p sz)(h:Lo p sz s i g d):g.env.length≤10000:=by
 have hf:=B3 hF (Dx h.f8).2;obtain⟨_,_,v,_,_,_,_,h0,h1,h2,_⟩:=hf.node;have:=h.len;rw[h2,F4]at this;have:=hf.ok.am;have:=hf.ok.ac;unfold Bs.own at*;omega
theorem rL{p:AL}{sz:List Int}{s:BF}(hF:BK p sz)(hs:FH p sz s){i k:Nat}{g:Al}{d:Bs}{r:FG}(hg:s.bv[i]? =some g)(hd:Lo p sz s i g d)(hr:d.rules[k]? =some r):BB (KL Tryz.prog cfg) 72 [pA p,sA s,.d (.int .i64 (i)),.d (.int .i64 (k))] []=.ok (.ret (.d (.be ((JH s d g r).map AJ))),[]):=by
 have hri:=Ix hF hs hg hd (Ac hr);obtain⟨g0,hdd⟩:=Dx hd.f8;have hdo:=(B3 hF hdd).ok;have d1:=hdo.am;have d2:=hdo.ac;have d3:=hdo.rules;have hss:=hs.small;simp only[BF.small,AP,Ap]at hss;obtain⟨s1,s2,s3,s4⟩:=hss;have hgl:=AI hg;have hkl:=AI hr;have hdl:=AI hdd;have own:=LH hd;have hel:=LG hF hd;have pl:=Vs p g d r.at_ g0 hdd d1 d2 own hel hri.at0 hri.at1;obtain⟨r0,r1⟩:=hri.place;obtain⟨y,hy⟩:=get_some (l:=s.ac) (i:=(g.place d r.at_).toNat) (by omega);have hq:AA (JH s d g r=if y.dead=true then []else N8 (BP s d g r)):=⟨by rw[JH,AY,hy];rfl⟩;have hown:AA (∀c,g.own d true c=g.own d true c):=⟨fun _=>rfl⟩;have j0:=hri.j0;have j1:=hri.j1;replace hri:=AA.mk hri;unfold Bs.own at own;cases hyd:y.dead with
 |true=>
  rw[hq.out,hyd]
  (refine Ae rfl Tryz.func72 rfl rfl rfl ?_;show Wp _ _ _ _ (Tryz.f72.body.get rfl) _ _;simp only[Tryz.f72,AS])
  exact au
 |false=>
  rw[hq.out,hyd]
  (refine Ae rfl Tryz.func72 rfl rfl rfl ?_;show Wp _ _ _ _ (Tryz.f72.body.get rfl) _ _;simp only[Tryz.f72,AS])
  refine aw ?_;refine Ah r.d7 (S:=fun i' (a:AV×AD×Nat)=>⟨[(5,.ptr [0,0] 0),(9,.ptr [0,1] 0),(11,.ptr [0,2] 0),(12,.d (.int .i64 ((g.env.length:Int)-(d.ac.length:Int)-(d.am.length:Int)))),(13,a.1),(14,.d (.int .i64 (i')))],([0,0],.box [.d (.be (s.ac.map Ab)),.d (.be (s.bv.map Ar)),.d (.be (s.am.map Bm)),.d (.be (s.waits.map AW))])::([0,1],.box [.d (.int .i64 (g.f8)),.d (.int .i64 (g.at_)),.d (.be (g.env.map AN))])::([0,2],.box [.d (.int .i64 (r.at_)),.d (.be (r.d7.map AJ)),.d (.int .i64 (r.node))])::a.2.1,a.2.2,[]⟩)
   (Inv:=fun i' rest a=>AA (0∉(r.d7.take i').map fun c=>Kr s (g.own d true c))∧AA ((i'=0∧a=(.co,[],3))∨(0<i'∧a=(.eq [1,3] 0 i',[([1,3],.d9 1 (((r.d7.take i').map fun c=>((Kr s (g.own d true c):Nat):Int)).map AJ))],4)))) (b0:=(.co,[],3)) ⟨⟨by simp⟩,⟨.inl ⟨rfl,rfl⟩⟩⟩ ?_ ?_
  .rintro i' c a hcc hi him ⟨h0,ha⟩ IH;obtain⟨c0,c1,o0,q,hqc,q12,hql⟩:=hri.out.join c (Ac hcc);obtain⟨v,hv⟩:=get_some (l:=g.env) (i:=g.env.length-d.ac.length-d.am.length+c.toNat) (by omega);have hvo:g.own d true c=v.n:=by rw[Al.own,D0 rfl,hv];rfl
   rw[hvo]at o0 hqc hql;have ix:((g.env.length:Int)-(d.ac.length:Int)-(d.am.length:Int)+c).toNat=g.env.length-d.ac.length-d.am.length+c.toNat:=by omega
   rw[←ix]at hv;have w1:IntKind.i64.wrap ((g.env.length:Int)-(d.ac.length:Int)-(d.am.length:Int)+c)=(g.env.length:Int)-(d.ac.length:Int)-(d.am.length:Int)+c:=wrap_id (by omega) (by omega);have i0:0≤(g.env.length:Int)-(d.ac.length:Int)-(d.am.length:Int)+c:=by omega
   have hcl:=AI hqc;replace ix:=AA.mk ix;have ht:AA (((r.d7.take (i'+1)).map fun c=>Kr s (g.own d true c))=((r.d7.take i').map fun c=>Kr s (g.own d true c))++[q.queue.length]):=⟨by rw[GC,hcc];simp[hvo,hql]⟩;have ht2:AA (((r.d7.take (i'+1)).map fun c=>((Kr s (g.own d true c):Nat):Int))=((r.d7.take i').map fun c=>((Kr s (g.own d true c):Nat):Int))++[(q.queue.length:Int)]):=⟨by rw[GC,hcc];simp[hvo,hql]⟩;have hall:AA (q.queue.length=0→N8 (BP s d g r)=[]):=⟨fun hz=>by rw[N8,D0];exact FN.2 ⟨c,Ac hcc,by rw[hvo,hql,hz]⟩⟩;replace hvo:=AA.mk hvo;replace hql:=AA.mk hql;by_cases hz:(q.queue.length:Int)=0
   .rw[hall.out (by omega)];rcases ha.out with⟨rfl,rfl⟩|⟨hi0,rfl⟩;all_goals
     clear ha;dsimp only;exact au
   .rcases ha.out with⟨rfl,rfl⟩|⟨hi0,rfl⟩
    .clear ha;dsimp only;have him0:(0:Int)<r.d7.length:=him;refine aw ?_;refine IH.out (.eq [1,3] 0 1,[([1,3],.d9 1 [[.int .i64 q.queue.length]])],4) ⟨⟨?_⟩,⟨.inr ⟨by omega,?_⟩⟩⟩
     .rw[ht.out];simp only[Rt,Dl,HM,As];omega
     .rw[ht2.out];rfl
    .clear ha;obtain⟨L,hL⟩: ∃L,L=(r.d7.take i').map fun c=>((Kr s (g.own d true c):Nat):Int):=⟨_,rfl⟩;have d0:L.length=i':=by rw[hL,BI,Hw];omega
     have d1:List.take i' (L.map AJ)=L.map AJ:=CS (by simp;omega);have d2:i'+1≤4:=by omega
     rw[←hL]at ht2⊢;replace hL:=AA.mk hL;dsimp only;refine aw ?_;refine IH.out (.eq [1,3] 0 (i'+1),[([1,3],.d9 1 (L.map AJ++[[.int .i64 q.queue.length]]))],4) ⟨⟨?_⟩,⟨.inr ⟨by omega,?_⟩⟩⟩
     .rw[ht.out];simp only[ES,As,not_or];exact⟨h0.out,by omega⟩
     .rw[ht2.out,D1];rfl
  .rintro i' a hi him ⟨h0,ha⟩;have hi:=hi.out;subst hi;rw[EL]at h0;rcases ha.out with⟨hi0,rfl⟩|⟨hi0,rfl⟩
   .omega
   .clear ha;have hm:AA (N8 (BP s d g r)=r.d7.map fun c=>((Kr s (g.own d true c):Nat):Int)):=⟨by rw[N8,BP,CI h0.out,List.map_map];rfl⟩;dsimp only;rw[hm.out];have d1:List.take r.d7.length ((r.d7.map fun c=>((Kr s (g.own d true c):Nat):Int)).map AJ)=(r.d7.map fun c=>((Kr s (g.own d true c):Nat):Int)).map AJ:=CS (by simp);simp only[EL]
    (repeat' (first|simp only[go_sem, *,EX]|(refine sx ?_ ?_<;>intro hc)|refine sy (by omega) fun x hx hm=>?_|simp(disch:=first|assumption|omega) only[AK]))
variable{α:Type}{l:List α}{k:Nat}{r:α}
theorem Mi(h:l[k]? =some r):l=l.take k++r::l.drop (k+1):=by
 rw[←AR h,MT]
theorem Vz(h:l[k]? =some r)(r':α):l.set k r'=l.take k++r'::l.drop (k+1):=by
 have hk:=AI h;rw[List.set_eq_take_append_cons_drop,D0 hk]
variable{β:Type}{f:α→List β}
theorem mJ(h:(l.flatMap f).Nodup){j:Nat}{r2:α}(hj:l[j]? =some r2)(hk:l[k]? =some r)(hjk:j≠k){x:β}(hx:x∈f r2):x∉f r:=by
 intro hy;rw[Mi hk,LC,D5,Ls]at h;obtain⟨_,h2,h3⟩:=h;rw[Ls]at h2;have hkl:=AI hk;have hjl:=AI hj;by_cases hlt:j<k
 .exact h3 x (Bv.2 ⟨r2,Ac (i:=j) (by rw[It,D0 hlt];exact hj),hx⟩) x (Ge _ hy) rfl
 .exact h2.2.2 x hy x (Bv.2 ⟨r2,Ac (i:=j-(k+1)) (by rw[HW,show k+1+(j-(k+1))=j by omega];exact hj),hx⟩) rfl
variable{r':α}
theorem Si(h:(l.flatMap f).Nodup)(hk:l[k]? =some r)(hn:(f r').Nodup)(hd: ∀x∈f r',x∈f r∨x∉l.flatMap f):((l.set k r').flatMap f).Nodup:=by
 have h0:=h;rw[Mi hk,LC,D5,Ls]at h;obtain⟨h1,h2,h3⟩:=h;rw[Ls]at h2;rw[Vz hk,LC,D5,Ls];have key: ∀x∈f r',x∉(l.take k).flatMap f∧x∉(l.drop (k+1)).flatMap f:=fun x hx=>by
  rcases hd x hx with hh|hh
  .exact⟨fun e=>h3 x e x (Ge _ hh) rfl,fun e=>h2.2.2 x hh x e rfl⟩
  .rw[Mi hk,LC,D5]at hh;simp only[ES,not_or]at hh;exact⟨hh.1,hh.2.2⟩
 refine⟨h1,Ls.2 ⟨hn,h2.2.1,fun a ha b hb e=>(key a ha).2 (by rw[e];exact hb)⟩,fun a ha b hb e=>?_⟩;rcases ES.1 hb with hb|hb
 .exact(key b hb).1 (by rw[←e];exact ha)
 .exact h3 a ha b (Gs _ hb) e
theorem XY(hk:l[k]? =some r){x:β}(hx:x∈(l.set k r').flatMap f):x∈l.flatMap f∨x∈f r':=by
 rw[Vz hk,LC,D5]at hx;rw[Mi hk,LC,D5];simp only[ES]at*;rcases hx with h|h|h
 .exact .inl (.inl h)
 .exact .inr h
 .exact .inl (.inr (.inr h))
theorem Q5{p:AL}{sz:List Int}{N:Abs.Id→Bool}{h h':AD}{m:Abs.Id}{V:MV}{st st':Ck}{v3:AV}{rows:List (List AV)}(hM:Dw p sz h m V st)(hu:Lk N V m)
 (hb:h'.get m=some (.box (Au p sz {V with v3:=v3,rows:=rows} st'.work))) (ha:zZ h' v3 rows) (hc:Chs h' rows st'.em.am) (hq:(rows.flatMap Az).Nodup)
 (hi: ∀id,id∈AF v3∨id∈rows.flatMap Az→(id∈AF V.v3∨id∈V.rows.flatMap Az)∨(N id=true∧ ∃l,id=1::l)) (ho: ∀j,j<4→A7 st' j=A7 st j)
 (hk: ∀id,id≠m→id∉AF V.v3→id∉V.rows.flatMap Az→N id=false→h'.get id=h.get id):Nn p sz N m V h st' h':=by
 have hne: ∀id,(∀cs,h.get id≠some (.box cs))→id≠m:=fun id hh e=>hh _ (by subst e;exact hM.box);refine⟨{V with v3:=v3,rows:=rows},⟨hb,?_,fun j hj=>?_,ha,hc,hM.gw,hq⟩,fun id hid=>?_,fun id h1 h2=>hk id (fun e=>h1 (by rw[e];exact V.m_mem m)) (fun e=>h1 (V.v3_mem m e)) (fun e=>h1 (V.row_mem m e)) h2⟩
 .show h'.get V.rx=_;rw[hk _ (hne _ (by rw[hM.rx];simp)) (fun e=>?_) (fun e=>?_) (hu _ (V.acts_mem m))]
  .exact hM.rx
  .have:=Hi hM.arr e;rw[hM.rx]at this;cases this
  .obtain⟨x,hx⟩:=K6 hM.am e;rw[hM.rx]at hx;cases hx
 .rw[ho j hj];refine Ee (hM.sl j hj) fun id hid=>?_;obtain⟨x,hx⟩:=DE (hM.sl j hj) hid;refine hk id (hne _ (by rw[hx];simp)) (fun e=>?_) (fun e=>?_) (hu _ (V.s_mem m hj hid))
  .have:=Hi hM.arr e;rw[hx]at this;cases this
  .obtain⟨y,hy⟩:=K6 hM.am e;rw[hx]at hy
   match j,hj with
   |0,_|1,_|2,_|3,_=>simp[Gg]at hy
 .rcases(({V with v3:=v3,rows:=rows}:MV).mem m id).1 hid with hh|hh|⟨j,hj,hh⟩|hh|hh
  .exact .inl (by rw[hh];exact V.m_mem m)
  .exact .inl (by rw[hh];exact V.acts_mem m)
  .exact .inl (V.s_mem m hj hh)
  .exact(hi id (.inl hh)).imp_left fun e=>e.elim (V.v3_mem m) (V.row_mem m)
  .exact(hi id (.inr hh)).imp_left fun e=>e.elim (V.v3_mem m) (V.row_mem m)
variable{h:AD}{m:Abs.Id}
theorem TT{p:AL}{sz:List Int}{N:Abs.Id→Bool}{A:Abs.Id}{V:MV}{st:Ck}{q:Fo}{v:AV}(hM:Dw p sz h m V st)(hu:Lk N V m)(hA:V.v3=.eq A 0 V.rows.length)(hq:st.em.am[k]? =some q)(hr:V.rows[k]? =some (A5 q v))(l:List (List CV))
 (v':AV) (h':AD) (a1:h'.get m=some (.box (Au p sz V st.work))) (a0:h'.get A=some (.arr 4 (V.rows.set k (A5 q v')))) (a2:Ju h' 1 v' (l.map BG)) (a3:AF v'=AF v∨ ∀id∈AF v',N id=true∧ ∃l,id=1::l)
 (a4: ∀id,Id.is m id=false→Id.is A id=false→(∀id2∈AF v,Id.is id2 id=false)→N id=false→h'.get id=h.get id):Nn p sz N m V h {st with em:={st.em with am:=st.em.am.set k {q with queue:=l}}} h':=by
 have hAi:AF V.v3=[A]:=by rw[hA];rfl
 have hvr: ∀x,x∈AF v→x∈V.rows.flatMap Az:=fun x hx=>Bv.2 ⟨_,Ac hr,by rw[Bz];exact hx⟩;have hfr: ∀id,id≠m→id∉AF V.v3→id∉AF v→N id=false→h'.get id=h.get id:=fun id b1 b2 b3 b4=>a4 id (AE fun e=>b1 e.symm) (AE fun e=>b2 (by rw[hAi,←e];simp)) (fun id2 hid=>AE fun e=>b3 (by rw[←e];exact hid)) b4;have hv1:(AF v').Nodup∧(AF v').length≤1:=by
  rcases a2 with⟨rfl,_⟩|⟨i,x,rfl,_⟩<;>simp[AF]
 have hlen:(V.rows.set k (A5 q v')).length=V.rows.length:=by simp
 refine Q5 (v3:=V.v3) (rows:=V.rows.set k (A5 q v')) hM hu a1 (.inr ⟨A,by rw[hlen];exact hA,a0⟩) ⟨?_,fun j q2 hj=>?_⟩ ?_ (fun id hid=>?_) (fun j hj=>by match j,hj with|0,_|1,_|2,_|3,_=>rfl) fun id b1 b2 b3 b4=>hfr id b1 b2 (fun e=>b3 (hvr id e)) b4
 .simp[hM.am.len]
 .dsimp only at hj;rw[He]at hj⊢;have hkl:=AI hr;by_cases hjk:k=j
  .have hkl2:=AI hq;rw[D0 hjk,D0 hkl2]at hj;rw[D0 hjk,D0 hkl];cases hj;exact⟨v',rfl,a2⟩
  .rw[CI hjk]at hj⊢;obtain⟨w,hw,hs⟩:=hM.am.row j q2 hj;refine⟨w,hw,Ee hs fun id hid=>?_⟩;have hmem:id∈V.rows.flatMap Az:=Bv.2 ⟨_,Ac hw,by rw[Bz];exact hid⟩;obtain⟨x,hx⟩:=DE hs hid;refine hfr id (fun e=>?_) (fun e=>?_) ?_ (hu _ (V.row_mem m hmem))
   .rw[e,hM.box]at hx;cases hx
   .rw[Hi hM.arr e]at hx;cases hx
   .have:=mJ hM.qd hw hr (fun e=>hjk e.symm) (x:=id) (by rw[Bz];exact hid)
    rwa [Bz]at this
 .refine Si hM.qd hr (by rw[Bz];exact hv1.1) fun x hx=>?_;rw[Bz]at hx⊢;rcases a3 with e|e
  .exact .inl (by rw[←e];exact hx)
  .refine .inr fun hh=>?_;have:=hu _ (V.row_mem m hh);rw[(e x hx).1]at this;cases this
 .rcases hid with hid|hid
  .exact .inl (.inl hid)
  .rcases XY hr hid with hh|hh
   .exact .inl (.inr hh)
   .rw[Bz]at hh;rcases a3 with e|e
    .rw[e]at hh;exact .inl (.inr (hvr id hh))
    .exact .inr (e id hh)
variable{π:List Nat}{H:AD}
theorem QL{p:AL}{sz:List Int}{n:Nat}{g:AD}{V:MV}{r:Option Ck}{o:Ad}(hu:Ca π V m)(hl: ∀id,Id.under π id=false→H.get id=h.get id)(ho:FI p sz (n::π) m V H r o g):FI p sz π m V h r o (gc (n::π) g):=by
 cases r with
 |none=>exact⟨ho.1,fun id h1 h2=>by rw[AU _ _ _ (AG h2 n),ho.2 id h1 (AG h2 n),hl id h2]⟩
 |some st'=>
  obtain⟨h1,V',hM,hK⟩:=ho;refine⟨h1,V',jt hM hK (hu.ext n),fun id hid=>(hK.ids id hid).imp_right fun hh=>⟨Bk hh.1,hh.2⟩,fun id a b=>?_⟩;rw[AU _ _ _ (AG b n),hK.frame id a (AG b n),hl id b]
theorem QM{p:AL}{sz:List Int}{V:MV}{st:Ck}(hM:Dw p sz h m V st)(hu:Ca π V m)(hl: ∀id,Id.under π id=false→H.get id=h.get id):FI p sz π m V h (some st) (.ret (.ge [])) H:=⟨rfl,V,Eo hM hu hl,wA hl⟩
theorem Jl{f:α→List Aa}{g:AD}{sz:Nat}{v:AV}(h:Ju g sz v (l.map f)){y:α}(hy:l[k]? =some y): ∃id xs,v=.eq id 0 l.length∧g.get id=some (.d9 sz (l.map f++xs))∧(l.map f++xs)[k]? =some (f y)∧k<l.length∧k<l.length+xs.length:=by
 have hk:=AI hy;rcases h with⟨_,h⟩|⟨id,xs,rfl,h⟩
 .rw[F5.1 h]at hk;simp at hk
 .exact⟨id,xs,by rw[BI],h,by rw[Be (by simpa using hk),D2,hy];rfl,hk,by omega⟩
def R1(s:BF)(e:Ib):Prop:=e.deed=5∧EF s.ac e.at_∧AY s.ac e.at_=false
structure RZ(p:AL)(sz:List Int)(st st':Ck)(js:List Hf):Prop where
 pm:FH p sz st'.em
 ext:Xx st.em st'.em
 jobs: ∀j∈js,Cv p sz st'.em j
 work:st'.work=st.work
 ev: ∃l,st'.ev=st.ev++l∧l.length≤1∧ ∀e∈l,R1 st'.em e
structure KH(p:AL)(sz:List Int)(st st':Ck):Prop where
 pm:FH p sz st'.em
 ext:Xx st.em st'.em
 work:st.work≤st'.work
 top:st.work≤400→st'.work≤400
 evs: ∃l,st'.ev=st.ev++l∧(l.length:Int)≤st'.work-st.work∧ ∀e∈l,R1 st'.em e
theorem KH.ev{p:AL}{sz:List Int}{st st':Ck}(h:KH p sz st st'):(st'.ev.length:Int)≤st.ev.length+(st'.work-st.work):=by
 obtain⟨l,h1,h2,_⟩:=h.evs;rw[h1,Bi];omega
theorem ye{s s':BF}(h:Xx s s'){e:Ib}(he:R1 s e):R1 s' e:=⟨he.1,H9 h.ns he.2.1,by rw[JQ h he.2.1];exact he.2.2⟩
theorem qx{p:AL}{sz:List Int}{st:Ck}(h:FH p sz st.em):KH p sz st st:=⟨h,H7 _,by omega,fun h=>h,[],by simp,by simp,by simp⟩
theorem TR{p:AL}{sz:List Int}{a b c:Ck}(h1:KH p sz a b)(h2:KH p sz b c):KH p sz a c:=by
 obtain⟨l,e1,n1,w1⟩:=h1.evs;obtain⟨m,e2,n2,w2⟩:=h2.evs;refine⟨h2.pm,ly h1.ext h2.ext,by have:=h1.work;have:=h2.work;omega,fun h=>h2.top (h1.top h),l++m,by rw[e2,e1,D9],by rw[Bi];omega,fun e he=>?_⟩;rcases ES.1 he with he|he
 .exact ye h2.ext (w1 e he)
 .exact w2 e he
section
variable{p:AL}{sz:List Int}{st:Ck}{j:Hf}{x:C0}
theorem yM{s:BF}{n:Nat}{q:Fo}(hs:FH p sz s)(hq:s.am[n]? =some q){l:List CV}(hl:q.queue.length<12)(hd:AY s.ac q.at_=false)(hm:EP p s q=l.length)(hv:l.all (CV.inB p s.am.length s.ac.length)=true):QOk p s {q with queue:=q.queue++[l]}:=by
 have h:=hs.que n q hq;refine⟨by simp;omega,.inr hd,fun m hm2=>?_⟩;rcases ES.1 hm2 with h2|h2
 .exact h.msgs m h2
 .rw[As]at h2;subst h2;show FA p _ _ (EP p s q) m=true;rw[FA,hm,hv];simp
theorem rk(hs:FH p sz st.em)(hj:Cv p sz st.em j)(ha: ∀e∈x.args,e.formed j.env.length=true){st':Ck}(h:FP p x j st=some st'):RZ p sz st st' []:=by
 have hv:(x.args.map (·.value j.env)).all (CV.inB p st.em.am.length st.em.ac.length)=true:=by
  rw[DO];intro v hv;obtain⟨e,he,rfl⟩:=FN.1 hv;exact sH hj.ol e (ha e he)
 simp only[FP]at h;split at h
 .cases h;exact⟨hs,H7 _,by simp,rfl,_,rfl,by simp,fun e he=>by rw[As]at he;subst he;exact⟨rfl,hj.at_,hj.live⟩⟩
 split at h
 .obtain⟨s,hs2,rfl⟩:=BV.1 h;have key:FH p sz s∧Xx st.em s:=by
   rw[Qd]at hs2;split at hs2
   .rename_i q hq;split at hs2
    .rename_i hc;rw[Yi]at hs2;split at hs2
     .rename_i hl;cases hs2;exact⟨V7 hs hq (yM hs hq hl hc.1 hc.2 hv),lv hq _⟩
     .cases hs2
    .cases hs2;exact⟨hs,H7 _⟩
   .cases hs2;exact⟨hs,H7 _⟩
  exact⟨key.1,key.2,by simp,rfl,[],by simp,by simp,by simp⟩
 .cases h;exact⟨hs,H7 _,by simp,rfl,[],by simp,by simp,by simp⟩
theorem Yp(hF:BK p sz)(hs:FH p sz st.em)(hj:Cv p sz st.em j)(hx:p.nodes[j.node.toNat]? =some x)(ho:x.op=4){st':Ck}{js:List Hf}(h:Ie p x j st=some (st',js)):RZ p sz st st' js:=by
 obtain⟨d,hd⟩:=tp hF hs hj hx ho;simp only[Ie,hd.f8]at h;split at h
 .rename_i hc;cases h;have he:=hd.ext;have hl:(CW st.em d (Aq st.em d x.n j)).am.length=st.em.am.length+d.am.length:=by simp[CW,G8]
  have hsl:(CW st.em d (Aq st.em d x.n j)).ac.length=st.em.ac.length+d.ac.length:=by simp[CW,Fc]
  have hv:(Aq st.em d x.n j).env.all (CV.inB p (CW st.em d (Aq st.em d x.n j)).am.length (CW st.em d (Aq st.em d x.n j)).ac.length)=true:=by rw[hl,hsl];exact hd.ol
  have hn:((Aq st.em d x.n j).env.length:Int)=(j.env.length:Int)+d.own:=by rw[hd.env];omega
  refine⟨hd.sok' hF hc,he,fun j' hj'=>?_,rfl,[],by simp,by simp,by simp⟩;rcases ES.1 hj' with hj'|hj'
  .obtain⟨t,y,h1,rfl⟩:=Po hj';have h2:=hd.ac y (Ac h1);have h3:=AI h1;have h4:=hd.spot (n:=((0+t:Nat):Int)+1) (by omega) (by omega);exact⟨h2.1,by rw[h2.2,hn],h4.1,h4.2,hv⟩
  .obtain⟨k,hk,k0,k1⟩:=hd.kid;rw[Bq,hk]at hj';simp only[F0,As]at hj';subst hj';exact⟨k0,by rw[k1,hn],H9 he.ns hj.at_,by rw[JQ he hj.at_];exact hj.live,hv⟩
 .cases h
theorem iz(hs:FH p sz st.em)(hj:Cv p sz st.em j)(hx:p.nodes[j.node.toNat]? =some x)(ho:Da x.op=true){st':Ck}(h:Jx j st=some st'):RZ p sz st st' []:=by
 rw[Jx]at h;split at h
 .rename_i hc;cases h;refine⟨NX hs (by simp;omega) fun w hw=>?_,⟨fun _ _ h=>h,fun _ _ h=>h,fun c q hq=>⟨[],by simpa using hq⟩⟩,by simp,rfl,[],by simp,by simp,by simp⟩;rcases ES.1 hw with hw|hw
  .exact hs.wait w hw
  .rw[As]at hw;subst hw;simp only[CA,hj.live,hj.ol,hx,ho,hj.size,AP,Ap,HU,F4];exact⟨hj.at_,trivial,hj.n0,trivial,trivial,trivial⟩
 .cases h
theorem cw(hF:BK p sz)(hs:FH p sz st.em)(hj:Cv p sz st.em j){st':Ck}{js:List Hf}(h:MA p j st=some (st',js)):RZ p sz st st' js:=by
 obtain⟨x,l,hx,hok,hsub,hq,_⟩:=MI hF hj;simp only[MA,hx]at h;have kids: ¬x.op=4→ ∀k,∀j'∈Bq x k j.at_ j.env,Cv p sz st.em j':=fun ho k=>QG hj ho hsub hq k;split at h
 .rename_i ho;obtain⟨s,hs2,e⟩:=BV.1 h;cases e;simp only[Cy,AP,DO]at hok;exact rk hs hj (fun e he=>by have:=hok.2.2.2 e he;simp only[Bc.ok,AP]at this;exact this.2.2) hs2
 split at h
 .rename_i ho;cases h;refine⟨hs,H7 _,fun j' hj'=>?_,rfl,[],by simp,by simp,by simp⟩;rcases ES.1 hj' with hj'|hj'
  .exact kids (by omega) 0 j' hj'
  .exact kids (by omega) 1 j' hj'
 split at h
 .rename_i ho;exact Yp hF hs hj hx ho h
 split at h
 .rename_i ho4 ho;cases h;exact⟨hs,H7 _,kids ho4 _,rfl,[],by simp,by simp,by simp⟩
 split at h
 .rename_i ho;obtain⟨s,hs2,e⟩:=BV.1 h;cases e;exact iz hs hj hx ho hs2
 .cases h;exact⟨hs,H7 _,by simp,rfl,[],by simp,by simp,by simp⟩
end
theorem NF{p:AL}{sz:List Int}{f:Hf→Ck→Option Ck}(hf: ∀j st st',FH p sz st.em→Cv p sz st.em j→f j st=some st'→KH p sz st st'): ∀(l:List Hf) (st st':Ck),FH p sz st.em→(∀j∈l,Cv p sz st.em j)→CD f l st=some st'→KH p sz st st'
 |[],st,st',hs,_,h=>by cases h;exact qx hs
 |j::l,st,st',hs,hj,h=>by
  rw[CD]at h;obtain⟨st1,h1,h2⟩:=I2.1 h;have hp:=hf j st st1 hs (hj j (by simp)) h1;exact TR hp (NF hf l st1 st' hp.pm (fun j' hj'=>Rj (hj j' (by simp[hj'])) hp.ext) h2)
theorem JR{p:AL}{sz:List Int}(hF:BK p sz): ∀(k:Nat) (j:Hf) (st st':Ck),FH p sz st.em→Cv p sz st.em j→GD p k j st=some st'→KH p sz st st'
 |0,j,st,st',_,_,h=>by cases h
 |k+1,j,st,st',hs,hj,h=>by
  rw[GD]at h;split at h
  .rename_i hw;cases hd:MA p j {st with work:=st.work+1}with
   |none=>rw[hd]at h;cases h
   |some r=>
    obtain⟨st1,js⟩:=r;rw[hd]at h;have hp:=cw (st:={st with work:=st.work+1}) hF hs hj hd
    obtain⟨l,e1,e2,e3⟩:=hp.ev;have w1:st1.work=st.work+1:=hp.work;refine TR (b:=st1) ⟨hp.pm,hp.ext,by omega,by omega,l,e1,by omega,e3⟩ (NF (fun j st st'=>JR hF k j st st') js st1 st' hp.pm hp.jobs h)
  .cases h
theorem Bl{π:List Nat}{n n':Nat}{id:Abs.Id}(h:Id.under (n::π) id=true)(h':Id.under (n'::π) id=true):n=n':=by
 rw[under_iff]at h h';have:=List.suffix_of_suffix_length_le h h' (by simp);have:=this.eq_of_length (by simp);simpa using this
structure Cb(p:AL)(sz:List Int)(π:List Nat)(m:Abs.Id)(V:MV)(h:AD)(b:Nat)(V':MV)(st:Ck)(g:AD):Prop where
 rep:Dw p sz g m V' st
 ids: ∀id∈V'.ids m,id∈V.ids m∨ ∃n,n<b∧Id.under (n::π) id=true∧ ∃l,id=1::l
 frame: ∀id,id∉V.ids m→Id.under π id=false→g.get id=h.get id
section
variable{p:AL}{sz:List Int}{π:List Nat}{m:Abs.Id}{V V':MV}{h g H g1:AD}{b:Nat}{st:Ck}
theorem Fe{b':Nat}{id:Abs.Id}(hu:Ca π V m)(hi:id∈V.ids m∨ ∃n,n<b∧Id.under (n::π) id=true∧ ∃l,id=1::l)(a n:Nat)(hn:b≤n):Id.is (a::n::π) id=false:=by
 rcases hi with hi|⟨k,hk,hk2,_⟩
 .exact AH (hu id hi) a n
 .refine AE fun e=>?_;subst e;have:=Bl hk2 (n':=n) (under_iff.2 ⟨[a],rfl⟩);omega
theorem Kl{id:Abs.Id}(hu:Ca π V m)(hi:id∈V.ids m∨ ∃n,n<b∧Id.under (n::π) id=true∧ ∃l,id=1::l)(a n:Nat)(hn:b≤n):Id.is id (a::n::π)=false:=by
 have:=Fe (b':=b) hu hi a n hn;exact AE fun e=>by rw[e,is_self]at this;cases this
theorem Qc(hM:Dw p sz h m V st)(hu:Ca π V m)(hl: ∀id,Id.under π id=false→g.get id=h.get id):Cb p sz π m V h 0 V st g:=
 ⟨Eo hM hu hl,fun id hid=>.inl hid,fun id _ hh=>hl id hh⟩
theorem Cb.up(hr:Cb p sz π m V h b V' st g){b':Nat}(hb:b≤b'):Cb p sz π m V h b' V' st g:=
 ⟨hr.rep,fun id hid=>(hr.ids id hid).imp_right fun⟨n,h1,h2⟩=>⟨n,by omega,h2⟩,hr.frame⟩
theorem Cb.loc(hu:Ca π V m)(hr:Cb p sz π m V h b V' st g)(hl: ∀id,(∀a n,b≤n→Id.is (a::n::π) id=false)→H.get id=g.get id):Cb p sz π m V h b V' st H:=
 ⟨Ba hr.rep fun id hid=>hl id fun a n hn=>Fe (b':=b) hu (hr.ids id hid) a n hn,hr.ids,fun id h1 h2=>by rw[hl id fun a n _=>AH h2 a n];exact hr.frame id h1 h2⟩
variable{n:Nat}
theorem Cb.apart(hu:Ca π V m)(hr:Cb p sz π m V h b V' st g)(hn:b≤n):Ca (n::π) V' m:=fun id hid=>by
 rcases hr.ids id hid with hh|⟨k,h1,h2,_⟩
 .exact AG (hu id hh) n
 .cases hx:Id.under (n::π) id with
  |false=>rfl
  |true=>
   have:=Bl h2 hx;omega
theorem Cb.fin(hr:Cb p sz π m V h b V' st g):FI p sz π m V h (some st) (.ret (.ge [])) g:=
 ⟨rfl,V',hr.rep,fun id hid=>(hr.ids id hid).imp_right fun⟨n,_,h2,h3⟩=>⟨Bk h2,h3⟩,hr.frame⟩
theorem Cb.call(hu:Ca π V m)(hr:Cb p sz π m V h b V' st H){st':Ck}{o:Ad}(hn:b≤n)(ho:FI p sz (n::π) m V' H (some st') o g1): ∃V'',Cb p sz π m V h (n+1) V'' st' (gc (n::π) g1)∧ ∀id,id∉V'.ids m→Id.under (n::π) id=false→id∉V''.ids m:=by
 obtain⟨_,V'',hM,hK⟩:=ho;have hap:=hr.apart hu hn;refine⟨V'',⟨jt hM hK hap,fun id hid=>?_,fun id h1 h2=>?_⟩,fun id h1 h2 h3=>?_⟩
 .rcases hK.ids id hid with hh|⟨h1,h2⟩
  .exact(hr.ids id hh).imp_right fun⟨k,a,c⟩=>⟨k,by omega,c⟩
  .exact .inr ⟨n,by omega,h1,h2⟩
 .rw[AU _ _ _ (AG h2 n),hK.frame id (fun hh=>?_) (AG h2 n)]
  .exact hr.frame id h1 h2
  .rcases hr.ids id hh with hh|⟨k,_,h3,_⟩
   .exact h1 hh
   .rw[Bk h3]at h2;cases h2
 .rcases hK.ids id h3 with hh|⟨hh,_⟩
  .exact h1 hh
  .rw[h2]at hh;cases hh
theorem Cb.f9(hu:Ca π V m)(hr:Cb p sz π m V h b V' st H){o:Ad}(hn:b≤n)(ho:FI p sz (n::π) m V' H none o g1):FI p sz π m V h none o (gc (n::π) g1):=by
 obtain⟨h1,h2⟩:=ho;refine⟨h1,fun id a c=>?_⟩;rw[AU _ _ _ (AG c n),h2 id (fun hh=>?_) (AG c n)]
 .exact hr.frame id a c
 .rcases hr.ids id hh with hh|⟨k,_,h3,_⟩
  .exact a hh
  .rw[Bk h3]at c;cases c
variable{r:Option Ck}
theorem Vc{o:Ad}(ho:FI p sz (n::π) m V' H r o g1){id:Abs.Id}(h1:id∉V'.ids m)(h2:Id.under (n::π) id=false):(gc (n::π) g1).get id=H.get id:=by
 rw[AU _ _ _ h2];cases r with
 |none=>exact ho.2 _ h1 h2
 |some st'=>
  obtain⟨_,V'',_,hK⟩:=ho;exact hK.frame _ h1 h2
theorem Hh(hr:Cb p sz π m V h b V' st H)(hu:Ca π V m)(k:Nat):0::k::π∉V'.ids m:=fun hh=>by
 rcases hr.ids _ hh with hh|⟨_,_,_,l,e⟩
 .have:=hu _ hh;rw[show Id.under π (0::k::π)=true from under_iff.2 ⟨[0,k],rfl⟩]at this;cases this
 .cases e
variable{k:Nat}
theorem Ag(π:List Nat)(h:k≠n):Id.under (n::π) (0::k::π)=false:=by
 cases hx:Id.under (n::π) (0::k::π)with
 |false=>rfl
 |true=>
  have:=Bl hx (n':=k) (under_iff.2 ⟨[0],rfl⟩);omega
theorem Cb.box(hu:Ca π V m)(hr:Cb p sz π m V h b V' st H){o:Ad}(hk:k≠n)(ho:FI p sz (n::π) m V' H r o g1):(gc (n::π) g1).get (0::k::π)=H.get (0::k::π):=by
 have h1:=Ag π hk;rw[AU _ _ _ h1];have h2:=Hh hr hu k;cases r with
 |none=>exact ho.2 _ h2 h1
 |some st'=>
  obtain⟨_,V'',_,hK⟩:=ho;exact hK.frame _ h2 h1
end
def JJ(p:AL)(sz:List Int)(k:Nat):Prop:= ∀(h:AD) (π:List Nat) (m:Abs.Id) (V:MV) (st:Ck) (j:Hf),Dw p sz h m V st→Ca π V m→FH p sz st.em→Cv p sz st.em j→0≤st.work→st.work≤400→401≤st.work+k→(st.ev.length:Int)≤900000+st.work→
 ∃o h',KL Tryz.prog cfg (.fn 66) [.ptr m 0,.d (.int .i64 j.node),.d (.int .i64 j.at_),.d (.be (j.env.map AN))] h π true none=.ok (o,h')∧FI p sz π m V h (GD p k j st) o h'
structure Pw(p:AL)(sz:List Int)(k:Nat)(st:Ck):Prop where
 pm:FH p sz st.em
 w0:0≤st.work
 w1:st.work≤400
 w2:401≤st.work+k
 ev:(st.ev.length:Int)≤900000+st.work
theorem Pw.post{p:AL}{sz:List Int}{k:Nat}{st st':Ck}(h:Pw p sz k st)(hp:KH p sz st st'):Pw p sz k st':=⟨hp.pm,by have:=hp.work;have:=h.w0;omega,hp.top h.w1,by have:=hp.work;have:=h.w2;omega,by have:=hp.ev;have:=h.ev;omega⟩
end Go.Proofs
namespace Go.Abs
theorem RM(sz:Nat)(es:List (List Aa))(h: ∀e∈es,e.length=sz):FB sz (es.map fun e=>e.map .d)=true:=by
 induction es with
 |nil=>rfl
 |cons e es ih=>
  rw[Cs,Iy,ih fun e he=>h e (Em _ he)];simp[h e (by simp),AV.isCell]
theorem Mw(g:G)(newId:Id)(j:TI)(s:AV)(es:List (List Aa))(h0:0<j.size)(h: ∀e∈es,e.length=j.size)(hn:es≠ [])(hl:es.length≤BD):UG g newId j s (some (es.map fun e=>e.map .d))=appTo g newId j s (es.map fun e=>e.map .d):=by
 cases es with
 |nil=>exact absurd rfl hn
 |cons e es=>
  have hs:=RM j.size (e::es) h;rw[Cs]at hs⊢;rw[Ur,hs];have:(e.map AV.d::es.map fun e=>e.map AV.d).length≤BD:=by simpa using hl
  simp only[this,h0,decide_true,NO,Uq]
theorem Q7(g:G)(newId:Id)(j:TI)(es:List (List Aa))(hm:j.mix=false)(h0:0<j.size)(h: ∀e∈es,e.length=j.size)(hl:es.length≤BD):newArr g newId j (es.map fun e=>e.map .d)=some ⟨.eq (1::newId) 0 es.length,[(1::newId,.d9 j.size es)]⟩:=by
 have h1:((es.map fun e=>e.map AV.d).all fun e=>e.length==j.size&&e.all AV.isCell)=true:=by
  rw[OM];exact RM _ _ h
 have h2:Nat.blt 0 j.size=true:=by rw[TO];exact h0
 have h3:Nat.ble es.length BD=true:=Pu hl;unfold newArr;rw[h1];simp only[BI,h2,h3,NO,hm,JY,IA,HM]
theorem zk(g:G)(newId:Id)(j:TI)(es:List (List Aa))(hm:j.mix=false)(h0:0<j.size)(h: ∀e∈es,e.length=j.size)(hn:es≠ [])(hl:es.length≤BD):UG g newId j .emp (some (es.map fun e=>e.map .d))=some ⟨.eq (1::newId) 0 es.length,[(1::newId,.d9 j.size es)]⟩:=by
 rw[Mw g newId j .emp es h0 h hn hl];exact Q7 g newId j es hm h0 h hl
end Go.Abs
namespace Go.Abs
theorem AFq(es:List (List Aa))(hn:0<es.length)(i:TI)(hk:i.kind=.slice):HP .eql (.d (.be es)) .co (some i)=some (.d (.bool false)):=by
 cases es with
 |nil=>simp at hn
 |cons e es=>simp only[HP,hk,Hz]
attribute [go_sem] AFq
end Go.Abs
namespace Go.Proofs
open Go Go.Abs
theorem SF(t:List Int)(n:Nat)(hn:n=t.length)(h0:0<n)(h1:n≤1000000): ∀(g:G) (newId:Abs.Id) (j:TI),j.mix=false→j.size=1→UG g newId j .emp (some ((t.map AJ).map fun x=>x.map AV.d))=some ⟨.eq (1::newId) 0 n,[(1::newId,.d9 1 (t.map AJ))]⟩:=fun g newId j hm hs=>by
 have:=zk g newId j (t.map AJ) hm (by omega) (fun e he=>by
  obtain⟨x,_,rfl⟩:=FN.1 he;rw[hs];rfl) (fun e=>by rw[F5.1 e]at hn;simp at hn;omega) (by simp[BD];omega)
 rw[this,BI,hn,hs]
theorem WA(t:List Int)(tx:List (List Aa))(n:Nat)(hn:n=t.length):List.take n ((t.map AJ++tx).map fun x=>x.map AV.d)=(t.map AJ).map fun x=>x.map AV.d:=by
 rw[D1,IN (by simp[hn]),CS (by simp[hn])]
theorem Hp{g0:AD}{s0:Nat}{v:AV}{es:List (List Aa)}(h:Ju g0 s0 v es)(g:G):XR g .slice v=some es.length:=by
 rcases h with⟨rfl,rfl⟩|⟨id,x,rfl,_⟩<;>rfl
theorem Rl{g0:AD}{v:AV}{rows:List (List AV)}(h:zZ g0 v rows)(g:G):XR g .slice v=some rows.length:=by
 rcases h with⟨rfl,rfl⟩|⟨id,rfl,_⟩<;>rfl
end Go.Proofs
namespace Go.Proofs
open Go Go.Abs
set_option maxRecDepth 100000
set_option maxHeartbeats 4000000
def cJ(sz:Nat)(π:List Nat)(h:AD)(v:AV)(L:List (List Aa))(o:Ad)(h':AD):Prop:= ∃v',o=.ret v'∧Ju h' sz v' L∧(∀id∈AF v',id∈AF v∨(Id.under π id=true∧ ∃l,id=1::l))∧ ∀id,id∉AF v→Id.under π id=false→h'.get id=h.get id
structure FJ(sz:Nat)(π:List Nat)(h:AD)(v:AV)(b:Nat)(g:AD)(w:AV)(L:List (List Aa)):Prop where
 wd:Ju g sz w L
 ids: ∀id∈AF w,id∈AF v∨ ∃n,n<b∧Id.under (n::π) id=true∧ ∃l,id=1::l
 frame: ∀id,id∉AF v→Id.under π id=false→g.get id=h.get id
section
variable{sz:Nat}{π:List Nat}{h g H g1:AD}{v w:AV}{b k:Nat}{L L':List (List Aa)}{o:Ad}
theorem FJ.not(hu: ∀id∈AF v,Id.under π id=false)(hI:FJ sz π h v b g w L){id:Abs.Id}(hid:id∈AF w)(a n:Nat)(hn:b≤n):Id.is (a::n::π) id=false:=by
 rcases hI.ids id hid with h|⟨m,h1,h2,_⟩
 .exact AH (hu id h) a n
 .refine AE fun e=>?_;subst e;have:=Bl h2 (n':=n) (under_iff.2 ⟨[a],rfl⟩);omega
theorem FJ.apart(hu: ∀id∈AF v,Id.under π id=false)(hI:FJ sz π h v b g w L){id:Abs.Id}(hid:id∈AF w)(hk:b≤k):Id.under (k::π) id=false:=by
 rcases hI.ids id hid with h|⟨m,h1,h2,_⟩
 .exact AG (hu id h) k
 .cases hx:Id.under (k::π) id with
  |false=>rfl
  |true=>
   have:=Bl h2 hx;omega
theorem FJ.loc(hu: ∀id∈AF v,Id.under π id=false)(hI:FJ sz π h v b g w L)(hl: ∀id,(∀a n,b≤n→Id.is (a::n::π) id=false)→H.get id=g.get id):FJ sz π h v b H w L:=
 ⟨Ee hI.wd fun id hid=>hl id fun a n hn=>hI.not hu hid a n hn,hI.ids,fun id h1 h2=>by rw[hl id fun a n _=>AH h2 a n];exact hI.frame id h1 h2⟩
theorem FJ.up(hI:FJ sz π h v b g w L){b':Nat}(hb:b≤b'):FJ sz π h v b' g w L:=⟨hI.wd,fun id hid=>(hI.ids id hid).imp_right fun⟨n,h1,h2⟩=>⟨n,by omega,h2⟩,hI.frame⟩
theorem FJ.call(hu: ∀id∈AF v,Id.under π id=false)(hI:FJ sz π h v b H w L)(hk:b≤k)(ho:cJ sz (k::π) H w L' o g1): ∃w',o=.ret w'∧FJ sz π h v (k+1) (gc (k::π) g1) w' L':=by
 obtain⟨w',h1,h2,h3,h4⟩:=ho;have hw: ∀id∈AF w',(gc (k::π) g1).get id=g1.get id:=fun id hid=>by
  rcases h3 id hid with e|⟨_,l,rfl⟩
  .exact AU _ _ _ (hI.apart hu e hk)
  .exact EY _ _ _
 refine⟨w',h1,Ee h2 hw,fun id hid=>?_,fun id a1 a2=>?_⟩
 .rcases h3 id hid with e|e
  .exact(hI.ids id e).imp_right fun⟨n,q1,q2⟩=>⟨n,by omega,q2⟩
  .exact .inr ⟨k,by omega,e⟩
 .rw[AU _ _ _ (AG a2 k),h4 id (fun hw=>?_) (AG a2 k)]
  .exact hI.frame id a1 a2
  .rcases hI.ids id hw with hh|⟨n,_,q2,_⟩
   .exact a1 hh
   .rw[Bk q2]at a2;cases a2
theorem FJ.fin(hI:FJ sz π h v b g w L):cJ sz π h v L (.ret w) g:=⟨w,rfl,hI.wd,fun id hid=>(hI.ids id hid).imp_right fun⟨n,_,q2,q3⟩=>⟨Bk q2,q3⟩,hI.frame⟩
end
theorem QT: ∀{l:List Nat},(∀n∈l,n≤12)→(Br l).length≤12 ^ l.length
 |[],_=>by simp[Br]
 |n::l,h=>by
  have h1:=QT (l:=l) fun n hn=>h n (Em _ hn);have h2:=h n (by simp);have key: ∀m,((List.range m).flatMap fun(i:Nat)=>(Br l).map fun t=>(i:Int)::t).length=m*(Br l).length:=fun m=>by
   induction m with
   |zero=>simp
   |succ m ih=>rw[List.range_succ,LC,Bi,ih];simp[II]
  rw[Br,key,List.length_cons,Nat.pow_succ,PL];exact Nat.mul_le_mul h1 h2
theorem aq(a0 b:Int)(many:List Nat)(hm0:0<many.length)(hm:many.length≤3)(hmm: ∀n∈many,n≤12): ∀(k:Nat) (h:AD) (π:List Nat) (v tv:AV) (acc:List Cc) (t:List Int),acc.length+12 ^ k≤100000000→Ju h 4 v (acc.map Ei)→Ju h 1 tv (t.map AJ)→(t.length=0→tv=.co)→(∀id,id∈AF v∨id∈AF tv→Id.under π id=false)→t.length+k=many.length→
 ∃o h',KL Tryz.prog cfg (.fn 73) [v,.d (.int .i64 (a0)),.d (.int .i64 (b)),.d (.be ((many.map fun(n:Nat)=>(n:Int)).map AJ)),tv] h π true none=.ok (o,h')∧cJ 4 π h v ((acc++(Br (many.drop t.length)).map fun u=>(⟨-1,a0,b,t++u⟩:Cc)).map Ei) o h'
 |0,h,π,v,tv,acc,t,ha,hv,ht,htn,hu,hk=>by
  have e0:many.drop t.length=[]:=D7 (by omega);rw[e0];simp only[Br,Cs,Dl,D6];rcases ht with⟨rfl,hz⟩|⟨ti,tx,rfl,gt⟩
  .rw[F5.1 hz]at hk;simp at hk;omega
  have ut:=hu ti (.inr (by simp[AF]));have e1:=AH ut;have e2:=Ak ut;rw[BI];have tl:t.length=many.length:=by omega
  have tl0:0<t.length:=by omega
  have ap:=SF t many.length (by omega) (by omega) (by omega);have tk:=WA t tx many.length (by omega);have tk2:List.take many.length (t.map AJ)=t.map AJ:=CS (by simp;omega);rcases hv with⟨rfl,hz2⟩|⟨vi,vx,rfl,gv⟩
  .have hz3:=F5.1 hz2;subst hz3
   (refine Aj rfl Tryz.func73 rfl rfl rfl ?_;show Wp _ _ _ _ (Tryz.f73.body.get rfl) _ _;simp only[Tryz.f73,AS])
   refine aw ?_;refine⟨_,rfl,BR [] rfl ?_,fun id hid=>.inr ?_,fun id h1 h2=>?_⟩
   .simp only[go_sem]
   .simp only[AF,As]at hid;subst hid;exact⟨Ay [1,14],_,rfl⟩
   .have q:=AH h2;simp only[go_sem,q,AM]
  .have uv:=hu vi (.inl (by simp[AF]));have e3:=AH uv;have e4:=Ak uv;rw[BI];rcases vx with _|⟨y,vx⟩
   ·(refine Aj rfl Tryz.func73 rfl rfl rfl ?_;show Wp _ _ _ _ (Tryz.f73.body.get rfl) _ _;simp only[Tryz.f73,AS])
    refine ax ?_;refine⟨_,rfl,BR [] (by simp) ?_,fun id hid=>.inr ?_,fun id h1 h2=>?_⟩
    .simp only[go_sem,D1,Dl,AM]
    .simp only[AF,As]at hid;subst hid;exact⟨Ay [1,14],_,rfl⟩
    .have q:=AH h2;have q2:Id.is vi id=false:=AE fun e=>h1 (by simp[AF,e]);simp only[go_sem,q,q2,AM]
   ·(refine Aj rfl Tryz.func73 rfl rfl rfl ?_;show Wp _ _ _ _ (Tryz.f73.body.get rfl) _ _;simp only[Tryz.f73,AS])
    refine ax ?_;refine⟨_,rfl,BR vx (by simp) ?_,fun _ h=>.inl h,fun id h1 h2=>?_⟩
    .simp only[go_sem,D1,Dl,AM]
    .have q:=AH h2;have q2:Id.is vi id=false:=AE fun e=>h1 (by simp[AF,e]);simp only[go_sem,q,q2,AM]
 |k+1,h,π,v,tv,acc,t,ha,hv,ht,htn,hu,hk=>by
  have IH:=aq a0 b many hm0 hm hmm k;obtain⟨n,hn⟩:=get_some (l:=many) (i:=t.length) (by omega);have hn12:=hmm n (Ac hn);have hdr:=AR hn;obtain⟨f,hf⟩: ∃f:Nat→List Cc,f=fun i=>(List.range i).flatMap fun(c:Nat)=>(Br (many.drop (t.length+1))).map fun u=>(⟨-1,a0,b,t++[(c:Int)]++u⟩:Cc):=⟨_,rfl⟩;have hf0:f 0=[]:=by rw[hf];rfl
  have hfs: ∀i,f (i+1)=f i++(Br (many.drop (t.length+1))).map fun u=>(⟨-1,a0,b,t++[(i:Int)]++u⟩:Cc):=fun i=>by rw[hf];simp[List.range_succ]
  have hfn:((Br (many.drop t.length)).map fun u=>(⟨-1,a0,b,t++u⟩:Cc))=f n:=by
   rw[hdr,Br,hf,List.map_flatMap];simp[List.map_map,Function.comp_def]
  have hfl: ∀i,i≤n→(f i).length≤i*12 ^ k:=fun i=>by
   induction i with
   |zero=>simp[hf0]
   |succ i ih=>
    intro h;have h1:=ih (by omega);have h2:=QT (l:=many.drop (t.length+1)) fun n hn=>hmm n (JP hn);rw[hfs,Bi,BI,II,Nat.one_mul];rw[show(many.drop (t.length+1)).length=k by rw[Io];omega]at h2;omega
  rw[hfn];have hmi:(many.map fun(n:Nat)=>(n:Int))[t.length]? =some (n:Int):=by rw[D2,hn];rfl
  have tl: ¬(t.length:Int)=many.length:=by omega
  have tl2:t.length<many.length:=by omega
  have hle: ∀i,i<n→(acc++f i).length+12 ^ k≤100000000:=fun i hi=>by
   have h1:=hfl i (by omega);have h2:(i+1)*12 ^ k≤12*12 ^ k:=HE _ (by omega);rw[II,Nat.one_mul]at h2;rw[Nat.pow_succ,PL]at ha;rw[Bi];omega
  clear hfl;replace hle:=AA.mk hle;replace hdr:=AA.mk hdr;replace hfn:=AA.mk hfn;replace hf:=AA.mk hf;replace hfs:=AA.mk hfs;replace hu:=AA.mk hu;replace hv:=AA.mk hv;have huv: ∀id∈AF v,Id.under π id=false:=fun id hid=>hu.out id (.inl hid);rcases ht with⟨rfl,hz⟩|⟨ti,tx,rfl,gt⟩
  .have hz2:=F5.1 hz;subst hz2;clear hz;simp only[List.length_nil,I4]at hk hn hmi hdr hfs hf;clear tl tl2;have tl: ¬(0:Int)=many.length:=by omega
   (refine Aj rfl Tryz.func73 rfl rfl rfl ?_;show Wp _ _ _ _ (Tryz.f73.body.get rfl) _ _;simp only[Tryz.f73,AS])
   refine aw ?_;refine AX (List.range n) (n:Int) (S:=fun _ i (a:(AV×AD)×Nat)=>⟨[(0,a.1.1),(1,.d (.int .i64 (a0))),(2,.d (.int .i64 (b))),(3,.d (.be ((many.map fun(n:Nat)=>(n:Int)).map AJ))),(4,.co),(11,.d (.int .i64 (i)))],a.1.2,a.2+7,[]⟩)
    (Inv:=fun i rest a=>AA (FJ 4 π h v (a.2+7) a.1.2 a.1.1 ((acc++f i).map Ei))) (b0:=((_,_),0)) (by simp) ⟨?_⟩ ?_ ?_
   .simp only[hf0,D6];exact⟨hv.out,fun id hid=>.inl hid,fun _ _ _=>rfl⟩
   .rintro i y ⟨⟨w,g⟩,c⟩ hy hi him hI IHL;dsimp only at*;have hin:i<n:=by simpa using hi
    refine aw ?_;have hlo: ∀id,(∀a n,c+7≤n→Id.is (a::n::π) id=false)→((g.put (1::(c+22)::π) (.d9 1 [[.int .i64 i]])).put (1::(c+23)::π) (.d9 1 [[.int .i64 i]])).get id=g.get id:=fun id hid=>by
     rw[get_put,get_put,hid _ _ (by omega),hid _ _ (by omega)];rfl
    have hI2:=hI.out.loc huv hlo;refine AZ (IH _ ((c+24)::π) w (.eq (1::(c+23)::π) 0 1) (acc++f i) [(i:Int)] (hle.out i hin) hI2.wd (BR [] rfl ?_) (by simp) (fun id hid=>?_) (by simp;omega)) (fun o1 g1 p1=>?_)
    .simp only[go_sem]
    .rcases hid with hid|hid
     .exact hI2.apart huv hid (by omega)
     .simp only[AF,As]at hid;subst hid;exact Hc _ _ _ _ (by omega)
    obtain⟨w',rfl,hI3⟩:=hI2.call huv (by omega) p1;clear p1;replace hI3:=AA.mk hI3;refine aw ?_;refine IHL.out ((w',_),c+22) ⟨?_⟩;have hL:=hI3.out.up (b':=c+22+7) (by omega)
    rwa [show(acc++f i++(Br (many.drop [(i:Int)].length)).map fun u=>(⟨-1,a0,b,[(i:Int)]++u⟩:Cc))=acc++f (i+1) by rw[hfs.out,←D9];rfl]at hL
   .rintro i ⟨⟨w,g⟩,c⟩ hi him hI;dsimp only at*;have hin:i=n:=by have:=hi.out;simpa using this
    subst hin;refine aw ?_;exact hI.out.fin
  .rw[BI];have ut:=hu.out ti (.inr (by simp[AF]));have e1:=AH ut;have e2:=Ak ut;have tl0:0<t.length:=Nat.pos_of_ne_zero fun e=>by cases htn e
   have tb:t.length≤3:=by omega
   have ap:=SF t t.length rfl tl0 (by omega);have tk:=WA t tx t.length rfl;have hvt:ti∉AF v:=fun e=>by
    obtain⟨x,hx⟩:=DE hv.out e;rw[gt]at hx;cases hx
   (refine Aj rfl Tryz.func73 rfl rfl rfl ?_;show Wp _ _ _ _ (Tryz.f73.body.get rfl) _ _;simp only[Tryz.f73,AS])
   refine aw ?_;refine AX (List.range n) (n:Int) (S:=fun _ i (a:(AV×AD)×Nat)=>⟨[(0,a.1.1),(1,.d (.int .i64 (a0))),(2,.d (.int .i64 (b))),(3,.d (.be ((many.map fun(n:Nat)=>(n:Int)).map AJ))),(4,.eq ti 0 t.length),(11,.d (.int .i64 (i)))],a.1.2,a.2+7,[]⟩)
    (Inv:=fun i rest a=>AA (FJ 4 π h v (a.2+7) a.1.2 a.1.1 ((acc++f i).map Ei))) (b0:=((_,_),0)) (by simp) ⟨?_⟩ ?_ ?_
   .simp only[hf0,D6];exact⟨hv.out,fun id hid=>.inl hid,fun _ _ _=>rfl⟩
   .rintro i y ⟨⟨w,g⟩,c⟩ hy hi him hI IHL;dsimp only at*;have hin:i<n:=by simpa using hi
    have gt2:=(hI.out.frame ti hvt ut).trans gt;have hlo: ∀id,(∀a n,c+7≤n→Id.is (a::n::π) id=false)→((((g.put (1::(c+20)::π) (.d9 1 (t.map AJ))).put (1::(c+22)::π) (.d9 1 [[.int .i64 i]])).put (1::(c+20)::π) (.i5 0 [])).put (1::(c+23)::π) (.d9 1 (t.map AJ++[[.int .i64 i]]))).get id=g.get id:=fun id hid=>by
     rw[get_put,get_put,get_put,get_put,hid _ _ (by omega),hid _ _ (by omega),hid _ _ (by omega)];rfl
    have hI2:=hI.out.loc huv hlo;replace hI:=AA.mk hI2;have c2: ¬c+2=c:=by omega
    have c3: ¬c+3=c:=by omega
    refine ax ?_;refine AZ (IH _ ((c+24)::π) w (.eq (1::(c+23)::π) 0 (t.length+1)) (acc++f i) (t++[(i:Int)]) (hle.out i hin) hI2.wd (BR [] (by simp) ?_) (by simp) (fun id hid=>?_) (by simp;omega)) (fun o1 g1 p1=>?_)
    .simp only[go_sem,D1]
    .rcases hid with hid|hid
     .exact hI2.apart huv hid (by omega)
     .simp only[AF,As]at hid;subst hid;exact Hc _ _ _ _ (by omega)
    obtain⟨w',rfl,hI3⟩:=hI2.call huv (by omega) p1;clear p1;replace hI3:=AA.mk hI3;refine aw ?_;refine IHL.out ((w',_),c+22) ⟨?_⟩;have hL:=hI3.out.up (b':=c+22+7) (by omega)
    rwa [show(acc++f i++(Br (many.drop (t++[(i:Int)]).length)).map fun u=>(⟨-1,a0,b,t++[(i:Int)]++u⟩:Cc))=acc++f (i+1) by rw[hfs.out,←D9,Bi];rfl]at hL
   .rintro i ⟨⟨w,g⟩,c⟩ hi him hI;dsimp only at*;have hin:i=n:=by have:=hi.out;simpa using this
    subst hin;refine aw ?_;exact hI.out.fin
end Go.Proofs
