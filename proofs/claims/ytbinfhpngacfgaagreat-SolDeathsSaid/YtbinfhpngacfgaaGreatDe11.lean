/-
  Parts of it.
-/
import Derived.Test.YtbinfhpngacfgaaGreatDe5
import Derived.Test.YtbinfhpngacfgaaGreatDe10
set_option linter.all false
namespace Go.Abs
variable{α β:Type}
theorem PG(f:α→β)(l:List α):List.take l.length (l.map f)=l.map f:=DL (by simp)
theorem XA(f:α→β)(l:List α)(x:List β):List.take l.length (l.map f++x)=l.map f:=by rw[I1 (by simp),PG]
theorem WA(f:α→β)(l:List α)(y:β)(x:List β):List.drop (l.length+1) (l.map f++y::x)=x:=by rw[List.drop_append];simp
def uh(g:G)(id:Id):Option Obj→AB
 |some (.co sz es)=>[(id,.it sz es)]
 |some (.arr sz es)=>match Cx g es with
  |some ds=>(id,.it sz ds)::es.flatMap (Bs g)
  |none=>[]
 |_=>[]
theorem nZ(g:G)(id:Id)(off n:Nat):FW g (.em id off n)=uh g id (g id):=by
 simp only[FW];cases g id with
 |none=>rfl
 |some o=>cases o<;>rfl
theorem dG(g:G)(id:Id)(sz:Nat)(es:List (List AZ)):uh g id (some (.co sz es))=[(id,.it sz es)]:=rfl
theorem nb(g:G)(id:Id)(sz:Nat)(es:List (List AZ)):uh g id (some (.it sz es))=[]:=rfl
attribute [go_sem] ur nZ dG nb
attribute [go_sem] PG XA WA Nat.le_add_right Nat.le_add_left Nat.add_le_add_iff_left Nat.not_succ_le_self Nat.add_lt_add_iff_left
end Go.Abs
namespace Go.Proofs
open Go Go.Abs
variable{ρ:Abs.Id}
theorem EJ{id:Abs.Id}(h:Id.under ρ id=false)(a b c n:Nat):Id.is (a::b::c::n::ρ) id=false:=AG (AF (AF h n) c) a b
theorem KR{id:Abs.Id}(h:Id.under ρ id=false)(a b c n:Nat):Id.is id (a::b::c::n::ρ)=false:=Al (AF (AF h n) c) a b
variable{π:List Nat}
theorem Ag(l:List Nat):Id.under π (l++π)=true:=under_iff.2 ⟨l,rfl⟩
def K9(g:AB)(sz:Nat)(v:AV)(es:List (List AZ)):Prop:=(v=.ci∧es=[])∨ ∃id x,v=.em id 0 es.length∧g.get id=some (.co sz (es++x))
structure Chs(g:AB)(rows:List (List AV))(l:List GR):Prop where
 len:rows.length=l.length
 row: ∀(j:Nat) (q:GR),l[j]? =some q→ ∃v,rows[j]? =some (A3 q v)∧K9 g 1 v (q.queue.map BW)
def xV(g:AB)(v:AV)(rows:List (List AV)):Prop:=(v=.ci∧rows=[])∨ ∃id,v=.em id 0 rows.length∧g.get id=some (.arr 4 rows)
structure MV where
 s:Nat→AV
 v3:AV
 v9:AV
 qr:Abs.Id
 rows:List (List AV)
def GQ:Nat→Nat
 |0=>2
 |1=>3
 |2=>3
 |_=>5
def A8(st:CK):Nat→List (List AZ)
 |0=>st.d9.ac.map Aa
 |1=>st.d9.bi.map An
 |2=>st.d9.waits.map AU
 |_=>st.ev.map OI
def MV.ii(V:MV)(i:Nat)(v:AV):MV:={V with s:=fun j=>if j=i then v else V.s j}
def MV.ids(V:MV)(m:Abs.Id):List Abs.Id:=m::V.qr::(AD (V.s 0)++(AD (V.s 1)++(AD (V.s 2)++(AD (V.s 3)++(AD V.v3++V.rows.flatMap A5)))))
def Aq(p:AI)(sz:List Int)(V:MV)(w:Int):List AV:=[V.s 0,V.s 1,V.v3,V.s 2,.d (.be (p.free.map Av)),.d (.be (p.nodes.map Ad)),.d (.be (p.defs.map Ax)),.d (.int .i64 p.main),.d (.be (sz.map AK)),V.v9,.mp V.qr,V.s 3,.d (.int .i64 w)]
structure Dq(p:AI)(sz:List Int)(h:AB)(m:Abs.Id)(V:MV)(st:CK):Prop where
 box:h.get m=some (.box (Aq p sz V st.work))
 qr:h.get V.qr=some (.map IB)
 sl: ∀i,i<4→K9 h (GQ i) (V.s i) (A8 st i)
 arr:xV h V.v3 V.rows
 am:Chs h V.rows st.d9.am
 gw: ∀id∈AD (V.s 1),id∉AD (V.s 2)
 qd:(V.rows.flatMap A5).Nodup
structure Vh(N:Abs.Id→Bool)(m:Abs.Id)(V V':MV)(h h':AB):Prop where
 ids: ∀id∈V'.ids m,id∈V.ids m∨(N id=true∧ ∃l,id=1::l)
 frame: ∀id,id∉V.ids m→N id=false→h'.get id=h.get id
abbrev ABh(π:List Nat):=Vh (Id.under π)
abbrev NI(p:AI)(sz:List Int)(N:Abs.Id→Bool)(m:Abs.Id)(V:MV)(h:AB)(st:CK)(h':AB):Prop:= ∃V',Dq p sz h' m V' st∧Vh N m V V' h h'
abbrev AEN(p:AI)(sz:List Int)(π:List Nat):=NI p sz (Id.under π)
abbrev LB(N:Abs.Id→Bool)(V:MV)(m:Abs.Id):Prop:= ∀id∈V.ids m,N id=false
abbrev CC(π:List Nat):=LB (Id.under π)
variable{m:Abs.Id}
theorem CC.ext{V:MV}(h:CC π V m)(n:Nat):CC (n::π) V m:=fun id hid=>AF (h id hid) n
def FL(p:AI)(sz:List Int)(π:List Nat)(m:Abs.Id)(V:MV)(h:AB):Option CK→Ae→AB→Prop
 |some st,o,h'=>o=.ret (.ge [])∧AEN p sz π m V h st h'
 |none,o,h'=>o=.f9 (CL 3)∧ ∀id,id∉V.ids m→Id.under π id=false→h'.get id=h.get id
variable{n:Nat}
theorem BZ{g:AB}{sz:Nat}{id:Abs.Id}{es:List (List AZ)}(x:List (List AZ))(hn:n=es.length)(hg:g.get id=some (.co sz (es++x))):K9 g sz (.em id 0 n) es:=.inr ⟨id,x,by rw[hn],hg⟩
variable{g':AB}
theorem Db{g:AB}{sz:Nat}{v:AV}{es:List (List AZ)}(h:K9 g sz v es)(hg: ∀id∈AD v,g'.get id=g.get id):K9 g' sz v es:=by
 rcases h with h|⟨id,x,rfl,h⟩
 .exact .inl h
 .exact .inr ⟨id,x,rfl,by rw[hg id (by simp[AD])];exact h⟩
theorem Eh{g:AB}{sz:Nat}{v:AV}{es:List (List AZ)}(h:K9 g sz v es){id:Abs.Id}(hi:id∈AD v): ∃x,g.get id=some (.co sz x):=by
 rcases h with⟨rfl,_⟩|⟨id2,x,rfl,h⟩
 .simp[AD]at hi
 .simp[AD]at hi;subst hi;exact⟨_,h⟩
variable{rows:List (List AV)}
theorem LR{g:AB}{v:AV}(h:xV g v rows)(hg: ∀id∈AD v,g'.get id=g.get id):xV g' v rows:=by
 rcases h with h|⟨id,rfl,h⟩
 .exact .inl h
 .exact .inr ⟨id,rfl,by rw[hg id (by simp[AD])];exact h⟩
theorem HO{g:AB}{v:AV}{rows:List (List AV)}(h:xV g v rows){id:Abs.Id}(hi:id∈AD v):g.get id=some (.arr 4 rows):=by
 rcases h with⟨rfl,_⟩|⟨id2,rfl,h⟩
 .simp[AD]at hi
 .simp[AD]at hi;subst hi;exact h
theorem Bp(x:GR)(v:AV):A5 (A3 x v)=AD v:=by simp[A3,A5,AD]
variable{l:List GR}
theorem LP{g:AB}(h:Chs g rows l)(hg: ∀id∈rows.flatMap A5,g'.get id=g.get id):Chs g' rows l:=by
 refine⟨h.len,fun j q hq=>?_⟩;obtain⟨v,h1,h2⟩:=h.row j q hq;exact⟨v,h1,Db h2 fun id hid=>hg id (Bi.2 ⟨_,Ac h1,by rw[Bp];exact hid⟩)⟩
theorem Ki{g:AB}(h:Chs g rows l){id:Abs.Id}(hi:id∈rows.flatMap A5): ∃x,g.get id=some (.co 1 x):=by
 obtain⟨row,hr,hid⟩:=Bi.1 hi;obtain⟨j,hj⟩:=IF hr;have hjl:=(BE.1 hj).1;obtain⟨x,hx⟩:=get_some (l:=l) (i:=j) (by rw[←h.len];exact hjl);obtain⟨v,hv,hq⟩:=h.row j x hx;rw[hj]at hv;cases hv;rw[Bp]at hid;exact Eh hq hid
theorem MV.mem(V:MV)(m id:Abs.Id):id∈V.ids m↔id=m∨id=V.qr∨(∃i,i<4∧id∈AD (V.s i))∨id∈AD V.v3∨id∈V.rows.flatMap A5:=by
 simp only[MV.ids,Ce,EX];constructor
 .rintro(h|h|h|h|h|h|h|h)
  .exact .inl h
  .exact .inr (.inl h)
  .exact .inr (.inr (.inl ⟨0,by omega,h⟩))
  .exact .inr (.inr (.inl ⟨1,by omega,h⟩))
  .exact .inr (.inr (.inl ⟨2,by omega,h⟩))
  .exact .inr (.inr (.inl ⟨3,by omega,h⟩))
  .exact .inr (.inr (.inr (.inl h)))
  .exact .inr (.inr (.inr (.inr h)))
 .rintro(h|h|⟨i,hi,h⟩|h|h)
  .simp[h]
  .simp[h]
  .match i,hi with
   |0,_=>simp[h]
   |1,_=>simp[h]
   |2,_=>simp[h]
   |3,_=>simp[h]
  .simp[h]
  .simp only[h,or_true]
theorem MV.m_mem(V:MV)(m:Abs.Id):m∈V.ids m:=(V.mem m m).2 (.inl rfl)
theorem MV.acts_mem(V:MV)(m:Abs.Id):V.qr∈V.ids m:=(V.mem m _).2 (.inr (.inl rfl))
theorem MV.s_mem(V:MV)(m:Abs.Id){i:Nat}(hi:i<4){id:Abs.Id}(h:id∈AD (V.s i)):id∈V.ids m:=(V.mem m _).2 (.inr (.inr (.inl ⟨i,hi,h⟩)))
theorem MV.v3_mem(V:MV)(m:Abs.Id){id:Abs.Id}(h:id∈AD V.v3):id∈V.ids m:=(V.mem m _).2 (.inr (.inr (.inr (.inl h))))
theorem MV.row_mem(V:MV)(m:Abs.Id){id:Abs.Id}(h:id∈V.rows.flatMap A5):id∈V.ids m:=(V.mem m _).2 (.inr (.inr (.inr (.inr h))))
variable{h h':AB}
theorem Bf{p:AI}{sz:List Int}{V:MV}{st:CK}(hM:Dq p sz h m V st)(hg: ∀id∈V.ids m,h'.get id=h.get id):Dq p sz h' m V st:=
 ⟨by rw[hg _ (V.m_mem m)];exact hM.box,by rw[hg _ (V.acts_mem m)];exact hM.qr,fun i hi=>Db (hM.sl i hi) fun id hid=>hg id (V.s_mem m hi hid),LR hM.arr fun id hid=>hg id (V.v3_mem m hid),LP hM.am fun id hid=>hg id (V.row_mem m hid),hM.gw,hM.qd⟩
theorem iE{p:AI}{sz:List Int}{V V0:MV}{st:CK}{ρ:List Nat}{h0:AB}(hM:Dq p sz h m V st)(hK:ABh π m V0 V h0 h)(hu:CC ρ V0 m):Dq p sz (gc ρ h) m V st:=by
 refine Bf hM fun id hid=>?_;rcases hK.ids id hid with h|⟨_,l,rfl⟩
 .exact Ab _ _ _ (hu id h)
 .exact E2 _ _ _
theorem BR{id:Abs.Id}(h:Id.under (n::π) id=true):Id.under π id=true:=by
 rw[under_iff]at*;exact(Es n π).trans h
theorem tQ{V:MV}(hk: ∀id,Id.under π id=false→h'.get id=h.get id):ABh π m V V h h':=⟨fun id h=>.inl h,fun id _ hu=>hk id hu⟩
theorem EF{p:AI}{sz:List Int}{V:MV}{st:CK}(hM:Dq p sz h m V st)(hu:CC π V m)(hk: ∀id,Id.under π id=false→h'.get id=h.get id):Dq p sz h' m V st:=Bf hM fun id hid=>hk id (hu id hid)
theorem U5{p:AI}{sz:List Int}{N:Abs.Id→Bool}{h h':AB}{m:Abs.Id}{V:MV}{st st':CK}(hM:Dq p sz h m V st)(hu:LB N V m)
 (hb:h'.get m=some (.box (Aq p sz V st'.work))) (hd:st'.d9=st.d9∧st'.ev=st.ev) (hk: ∀id,id≠m→N id=false→h'.get id=h.get id):Dq p sz h' m V st'∧Vh N m V V h h':=by
 have hne: ∀id,(∀cs,h.get id≠some (.box cs))→id≠m:=fun id hh e=>hh _ (by subst e;exact hM.box);have hda: ∀i,A8 st' i=A8 st i:=fun i=>by
  unfold A8;rw[hd.1,hd.2]
 have hg: ∀id∈V.ids m,(∀cs,h.get id≠some (.box cs))→h'.get id=h.get id:=fun id h1 h2=>hk id (hne id h2) (hu id h1);refine⟨⟨hb,?_,fun i hi=>?_,?_,?_,hM.gw,hM.qd⟩,fun id h=>.inl h,fun id h1 h2=>hk id (fun e=>h1 (by rw[e];exact V.m_mem m)) h2⟩
 .rw[hg _ (V.acts_mem m) (by rw[hM.qr];simp)];exact hM.qr
 .rw[hda];refine Db (hM.sl i hi) fun id hid=>hg id (V.s_mem m hi hid) ?_;obtain⟨x,hx⟩:=Eh (hM.sl i hi) hid;rw[hx];simp
 .refine LR hM.arr fun id hid=>hg id (V.v3_mem m hid) ?_;rw[HO hM.arr hid];simp
 .rw[hd.1];refine LP hM.am fun id hid=>hg id (V.row_mem m hid) ?_;obtain⟨x,hx⟩:=Ki hM.am hid;rw[hx];simp
variable{st':CK}
theorem AEq{st:CK}(hs:st'.d9=st.d9): ∀j,j<4→j≠3→A8 st' j=A8 st j
 |0,_,_|1,_,_|2,_,_=>by simp[A8,hs]
 |3,_,h=>absurd rfl h
theorem tE{st:CK}(h0:st'.d9.ac=st.d9.ac)(h1:st'.d9.bi=st.d9.bi)(h3:st'.ev=st.ev): ∀j,j<4→j≠2→A8 st' j=A8 st j
 |0,_,_|1,_,_|3,_,_=>by simp[A8,h0,h1,h3]
 |2,_,h=>absurd rfl h
theorem AEr{st:CK}(h0:st'.d9.ac=st.d9.ac)(h2:st'.d9.waits=st.d9.waits)(h3:st'.ev=st.ev): ∀j,j<4→j≠1→A8 st' j=A8 st j
 |0,_,_|2,_,_|3,_,_=>by simp[A8,h0,h2,h3]
 |1,_,h=>absurd rfl h
theorem tD{st:CK}(h1:st'.d9.bi=st.d9.bi)(h2:st'.d9.waits=st.d9.waits)(h3:st'.ev=st.ev): ∀j,j<4→j≠0→A8 st' j=A8 st j
 |1,_,_|2,_,_|3,_,_=>by simp[A8,h1,h2,h3]
 |0,_,h=>absurd rfl h
theorem wz(V:MV)(i:Nat)(v:AV)(j:Nat):(V.ii i v).s j=if j=i then v else V.s j:=rfl
theorem ZF{p:AI}{sz:List Int}{N:Abs.Id→Bool}{h h':AB}{m:Abs.Id}{V:MV}{st st':CK}(i:Nat){v:AV}(hi:i<4)(hM:Dq p sz h m V st)(hu:LB N V m)
 (hb:h'.get m=some (.box (Aq p sz (V.ii i v) st'.work))) (hs:K9 h' (GQ i) v (A8 st' i)) (ho: ∀j,j<4→j≠i→A8 st' j=A8 st j) (hc:st'.d9.am=st.d9.am)
 (hv:AD v=AD (V.s i)∨ ∀id∈AD v,N id=true∧ ∃l,id=1::l) (hk: ∀id,id≠m→id∉AD (V.s i)→N id=false→h'.get id=h.get id):Dq p sz h' m (V.ii i v) st'∧Vh N m V (V.ii i v) h h':=by
 have hne: ∀id,(∀cs,h.get id≠some (.box cs))→id≠m:=fun id hh e=>hh _ (by subst e;exact hM.box);have hg: ∀id∈V.ids m,(∀cs,h.get id≠some (.box cs))→id∉AD (V.s i)→h'.get id=h.get id:=fun id h1 h2 h3=>hk id (hne id h2) h3 (hu id h1);have hvi: ∀id∈AD v,id∈AD (V.s i)∨(N id=true∧ ∃l,id=1::l):=fun id hid=>by
  rcases hv with e|e
  .rw[e]at hid;exact .inl hid
  .exact .inr (e id hid)
 have key: ∀j,j<4→j≠i→ ∀id∈AD (V.s j),id∉AD (V.s i):=fun j hj hji id hid hh=>by
  obtain⟨x,hx⟩:=Eh (hM.sl j hj) hid;obtain⟨y,hy⟩:=Eh (hM.sl i hi) hh;rw[hx]at hy;have hsz:GQ j=GQ i:=by
   simp only[Bv,Obj.co.injEq]at hy;exact hy.1
  have h12:(j=1∧i=2)∨(j=2∧i=1):=by
   match i,j,hi,hj with
   |0,0,_,_|1,1,_,_|2,2,_,_|3,3,_,_=>omega
   |0,1,_,_|0,2,_,_|0,3,_,_|1,0,_,_|1,3,_,_|2,0,_,_|2,3,_,_|3,0,_,_|3,1,_,_|3,2,_,_=>simp[GQ]at hsz
   |1,2,_,_|2,1,_,_=>omega
  rcases h12 with⟨rfl,rfl⟩|⟨rfl,rfl⟩
  .exact hM.gw id hid hh
  .exact hM.gw id hh hid
 refine⟨⟨hb,?_,fun j hj=>?_,?_,?_,fun id h1 h2=>?_,hM.qd⟩,fun id hid=>?_,fun id h1 h2=>?_⟩
 .show h'.get V.qr=_;rw[hg _ (V.acts_mem m) (by rw[hM.qr];simp) fun hh=>?_]
  .exact hM.qr
  .obtain⟨x,hx⟩:=Eh (hM.sl i hi) hh;rw[hM.qr]at hx;cases hx
 .rw[wz];by_cases hji:j=i
  .rw[DO hji,hji];exact hs
  .rw[CS hji,ho j hj hji];refine Db (hM.sl j hj) fun id hid=>hg id (V.s_mem m hj hid) ?_ (key j hj hji id hid);obtain⟨x,hx⟩:=Eh (hM.sl j hj) hid;rw[hx];simp
 .refine LR hM.arr fun id hid=>hg id (V.v3_mem m hid) ?_ fun hh=>?_
  .rw[HO hM.arr hid];simp
  .obtain⟨x,hx⟩:=Eh (hM.sl i hi) hh;rw[HO hM.arr hid]at hx;cases hx
 .rw[hc];refine LP hM.am fun id hid=>hg id (V.row_mem m hid) ?_ fun hh=>?_
  .obtain⟨x,hx⟩:=Ki hM.am hid;rw[hx];simp
  .obtain⟨x,hx⟩:=Eh (hM.sl i hi) hh;obtain⟨y,hy⟩:=Ki hM.am hid;rw[hx]at hy
   match i,hi with
   |0,_|1,_|2,_|3,_=>simp[GQ]at hy
 .rw[wz]at h1 h2;have o1: ∀id∈AD (V.s 1),N id=false:=fun id hid=>hu id (V.s_mem m (by omega) hid);have o2: ∀id∈AD (V.s 2),N id=false:=fun id hid=>hu id (V.s_mem m (by omega) hid);by_cases e1:1=i
  .subst e1;rw[DO rfl]at h1;rw[CS (by omega)]at h2;rcases hvi id h1 with hh|hh
   .exact hM.gw id hh h2
   .rw[o2 id h2]at hh;cases hh.1
  .rw[CS e1]at h1;by_cases e2:2=i
   .subst e2;rw[DO rfl]at h2;rcases hvi id h2 with hh|hh
    .exact hM.gw id h1 hh
    .rw[o1 id h1]at hh;cases hh.1
   .rw[CS e2]at h2;exact hM.gw id h1 h2
 .rcases((V.ii i v).mem m id).1 hid with hh|hh|⟨j,hj,hh⟩|hh|hh
  .exact .inl ((V.mem m id).2 (.inl hh))
  .exact .inl ((V.mem m id).2 (.inr (.inl hh)))
  .rw[wz]at hh;by_cases hji:j=i
   .rw[DO hji]at hh;exact(hvi id hh).imp_left fun h=>V.s_mem m hi h
   .rw[CS hji]at hh;exact .inl (V.s_mem m hj hh)
  .exact .inl (V.v3_mem m hh)
  .exact .inl (V.row_mem m hh)
 .exact hk id (fun e=>h1 (by rw[e];exact V.m_mem m)) (fun hh=>h1 (V.s_mem m hi hh)) h2
variable{N:Abs.Id→Bool}
theorem H0{p:AI}{sz:List Int}{V:MV}{st:CK}(i:Nat)(hi:i<4)(hM:Dq p sz h m V st)(hu:LB N V m)
 (ho: ∀j,j<4→j≠i→A8 st' j=A8 st j) (hc:st'.d9.am=st.d9.am) (v:AV) (h':AB) (a1:h'.get m=some (.box (Aq p sz (V.ii i v) st'.work))) (a2:K9 h' (GQ i) v (A8 st' i)) (a3:AD v=AD (V.s i)∨ ∀id∈AD v,N id=true∧ ∃l,id=1::l) (a4: ∀id,Id.is m id=false→(∀id2∈AD (V.s i),Id.is id2 id=false)→N id=false→h'.get id=h.get id):NI p sz N m V h st' h':=
 ⟨_,ZF i hi hM hu a1 a2 ho hc a3 fun id b1 b2 b3=>a4 id (AE fun e=>b1 e.symm) (fun id2 hid=>AE fun e=>b2 (by rw[←e];exact hid)) b3⟩
theorem QW{p:AI}{sz:List Int}{V:MV}{st:CK}(hp:NI p sz N m V h st h'): ∀id,id∉V.ids m→N id=false→h'.get id=h.get id:=by
 obtain⟨_,_,hK⟩:=hp;exact hK.frame
end Go.Proofs
namespace Go.Abs
theorem ADz(es:List (List AZ))(hn:0<es.length)(i:TI)(hk:i.kind=.slice):HA .eql (.d (.be es)) .ci (some i)=some (.d (.bool false)):=by
 cases es with
 |nil=>simp at hn
 |cons e es=>simp only[HA,hk,Hc]
attribute [go_sem] ADz
end Go.Abs
namespace Go.Proofs
open Go Go.Abs
theorem qo(t:List Int)(n:Nat)(hn:n=t.length)(h0:0<n)(h1:n≤1000000): ∀(g:G) (newId:Abs.Id) (j:TI),j.mix=false→j.size=1→TT g newId j .emp (some ((t.map AK).map fun x=>x.map AV.d))=some ⟨.em (1::newId) 0 n,[(1::newId,.co 1 (t.map AK))]⟩:=fun g newId j hm hs=>by
 have:=xe g newId j (t.map AK) hm (by omega) (fun e he=>by
  obtain⟨x,_,rfl⟩:=F0.1 he;rw[hs];rfl) (fun e=>by rw[Gt.1 e]at hn;simp at hn;omega) (by simp[BA];omega)
 rw[this,BI,hn,hs]
theorem HV{g0:AB}{s0:Nat}{v:AV}{es:List (List AZ)}(h:K9 g0 s0 v es)(g:G):We g .slice v=some es.length:=by
 rcases h with⟨rfl,rfl⟩|⟨id,x,rfl,_⟩<;>rfl
theorem Q2{g0:AB}{v:AV}{rows:List (List AV)}(h:xV g0 v rows)(g:G):We g .slice v=some rows.length:=by
 rcases h with⟨rfl,rfl⟩|⟨id,rfl,_⟩<;>rfl
end Go.Proofs
namespace Go.Abs
theorem Mv{g:G}{id:Id}{s:Nat}{es:List (List AZ)}(h:g id=some (.co s es)){n:Nat}{lo hi mx:Option AV}{l r:Nat}{m:Option Nat}(hb:DI lo hi mx n=some (l,r,m))(hr:r≤es.length)(hm:m.getD r≤es.length)(h0:0<es.length):EU g .slice s (.em id 0 n) lo hi mx=m.elim (some (.em id l (r-l))) fun m=>if m=l then some .emp else some .undef:=by
 show Ns g s id 0 (DI lo hi mx n)=_;rw[hb];simp only[Ns,h,bw,I5];have e1:Nat.beq s s=true:=Nat.beq_refl s;have e2:Nat.ble (m.getD r) es.length=true:=OL hm;have e3:Nat.ble r es.length=true:=OL hr;have e4:Nat.blt 0 es.length=true:=by rw[TY];exact h0
 rw[e1,e2,e3,e4];cases m with
 |none=>rfl
 |some m=>
  simp only[Lw,HL];by_cases e:m=l<;>simp[e]
theorem iR{g:G}{id:Id}{s n:Nat}{es:List (List AZ)}(h:g id=some (.co s es)){a b m:Int}(h0:0≤a)(h1:a≤b)(h2:b≤m)(h3:m≤es.length)(h4:a<m):EU g .slice s (.em id 0 n) (some (.d (.int .i64 a))) (some (.d (.int .i64 b))) (some (.d (.int .i64 m)))=some .undef:=by
 rw[Mv h (l:=a.toNat) (r:=b.toNat) (m:=some m.toNat) (by simp[DI,Gk,HC,h0,h1,h2]) (by omega) (by simp;omega) (by omega)];simp only[Option.elim_some];rw[CS (by omega)]
theorem S5{g:G}{id:Id}{s n:Nat}{es:List (List AZ)}(h:g id=some (.co s es)){a:Int}(h0:0≤a)(h1:a≤n)(h2:n≤es.length)(h3:0<es.length):EU g .slice s (.em id 0 n) (some (.d (.int .i64 a))) none none=some (.em id a.toNat (n-a.toNat)):=by
 rw[Mv h (l:=a.toNat) (r:=n) (m:=none) (by simp[DI,Gk,HC,h0,h1]) h2 h2 h3];rfl
theorem S4{g:G}{id:Id}{s n:Nat}{es:List (List AZ)}(h:g id=some (.co s es)){b:Int}(h0:0≤b)(h1:b≤es.length)(h3:0<es.length):EU g .slice s (.em id 0 n) none (some (.d (.int .i64 b))) none=some (.em id 0 b.toNat):=by
 rw[Mv h (l:=0) (r:=b.toNat) (m:=none) (by simp[DI,Gk,HC,h0]) (by omega) (by simp;omega) h3];rfl
theorem Mw{g:G}{id:Id}{s n:Nat}{es:List (List AZ)}(h:g id=some (.co s es)){a b:Int}(h0:0≤a)(h1:a≤b)(h2:b≤es.length)(h3:0<es.length):EU g .slice s (.em id 0 n) (some (.d (.int .i64 a))) (some (.d (.int .i64 b))) none=some (.em id a.toNat (b.toNat-a.toNat)):=by
 rw[Mv h (l:=a.toNat) (r:=b.toNat) (m:=none) (by simp[DI,Gk,HC,h0,h1]) (by omega) (by simp;omega) h3];rfl
theorem S6{α:Type}{es ds:List α}{i:Nat}(h:i+ds.length≤es.length):B6 es i ds=some (es.take i++ds++es.drop (i+ds.length)):=by
 unfold B6;rw[DO (by first|exact h|simpa using h)]
theorem gR{sz:Nat}(ds:List (List AZ))(hn:ds≠ [])(hs: ∀e∈ds,e.length=sz)(h0:0<sz)(hl:ds.length≤1000000)(g:G)(newId:Id)(j:TI)(hm:j.mix=false)(hj:j.size=sz):TT g newId j .ci (some (ds.map fun x=>x.map AV.d))=some ⟨.em (1::newId) 0 ds.length,[(1::newId,.co sz ds)]⟩:=by
 rw[MN g newId j .ci ds (by omega) (fun e he=>by rw[hj];exact hs e he) hn (by simp[BA];omega),Re,QX g newId j ds hm (by omega) (fun e he=>by rw[hj];exact hs e he) (by simp[BA];omega),hj]
theorem Xc{sz:Nat}{id:Id}(es ds:List (List AZ))(hn:ds≠ [])(hs: ∀e∈ds,e.length=sz)(h0:0<sz)(hl:es.length+ds.length≤1000000)(n:Nat)(he:n=es.length)(g:G)(newId:Id)(j:TI)(hj:j.size=sz)(h:g id=some (.co sz es)):TT g newId j (.em id 0 n) (some (ds.map fun x=>x.map AV.d))=some ⟨.em (1::newId) 0 (n+ds.length),[(id,.it 0 []),(1::newId,.co sz (es++ds))]⟩:=by
 have hp:B6 es (0+n) ds=none:=by
  unfold B6;rw[CS];have:0<ds.length:=List.length_pos_iff.2 hn;omega
 rw[MN g newId j _ ds (by omega) (fun e he=>by rw[hj];exact hs e he) hn (by simp[BA];omega),PT,h,PS,DO ⟨hj.symm,by omega⟩,Rb,JE,Ho,PR,Pv,DO rfl,hp,RZ,DO ⟨rfl,by simp[BA];omega⟩,he,Em];rfl
theorem UC{g:G}{id:Id}{sz:Nat}{es x:List (List AZ)}{a n:Nat}(h:g id=some (.co sz (es++x)))(hn:n=es.length)(ha:a<n)(hs: ∀e∈es,e.length=sz)(h0:0<sz)(hl:n≤1000000)(newId:Id)(j:TI)(hj:j.size=sz):
 TT g newId j (.em id 0 a) (some (List.take (n-(a+1)) (List.drop (a+1) ((es++x).map fun e=>e.map AV.d))))=some ⟨.em id 0 (n-1),if a+1=n then []else [(id,.co sz (es.take a++(es.drop (a+1)++(es.drop (n-1)++x))))]⟩:=by
 subst hn;have e1:List.take (es.length-(a+1)) (List.drop (a+1) ((es++x).map fun e=>e.map AV.d))=(es.drop (a+1)).map fun e=>e.map AV.d:=by
  rw[←TO,←S1,List.drop_append_of_le_length (by omega),I1 (by simp),DL (by simp)]
 rw[e1];by_cases hz:a+1=es.length
 .rw[PU (by omega),D4,XX,Xa,DO hz];congr 2;exact congrArg _ (by omega)
 .have hne:es.drop (a+1)≠ []:=fun e=>by rw[On]at e;omega
  have hds: ∀e∈es.drop (a+1),e.length=j.size:=fun e he=>by rw[hj];exact hs e (LM he)
  rw[MN g newId j _ _ (by omega) hds hne (by simp[BA];omega),PT,h,PS,DO ⟨hj.symm,by simp;omega⟩,Rb,JE,Ho,PR,Pv,DO rfl,S6 (by simp;omega),Ra,CS hz];simp only[I5,Gc,Io];congr 2
  .exact congrArg _ (by omega)
  .rw[I1 (by omega),List.drop_append_of_le_length (by omega),show a+(es.length-(a+1))=es.length-1 by omega,EM]
theorem Xy{g:G}{id:Id}{sz off n:Nat}{es:List (List AZ)}{z:List AZ}{j:TI}(h:g id=some (.co sz es))(hj:j.size=sz)(hz:Ct (fun _=>none) j.zero=some z)(hl:z.length=sz)(hc:(j.zero.length=sz∧j.zero.all AV.isCell=true)∧0<sz)(hn:off+n≤es.length):HP g id off n j=some ⟨.undef,[(id,.co sz (es.take off++(List.replicate n z++es.drop (off+n))))]⟩:=by
 unfold HP;rw[h];simp only[hz];rw[DO ⟨hl,by rw[hc.1.1,hj],hc.1.2,hc.2⟩,S6 (by simpa using hn)];simp[EM]
def bW(g:G)(id:Id)(off n:Nat):Option TI→Option CJ
 |some j=>HP g id off n j
 |none=>none
theorem ZK(T:TypeId→Option TI)(g:G)(i:TI)(id:Id)(off:Nat)(hk:i.kind=.slice):GA T g (some i) (.em id off 1)=bW g id off 1 (T i.elem):=by
 unfold GA;simp only[hk];cases T i.elem<;>rfl
theorem Xx(g:G)(id:Id)(off n:Nat)(j:TI):bW g id off n (some j)=HP g id off n j:=rfl
attribute [go_sem] ZK Xx
theorem Rq{es x:List (List AZ)}{a sz:Nat}{z:List AZ}{zs:List AV}(L:List (List AZ))(ha:a<es.length)(hL:L=es.take a++(es.drop (a+1)++(es.drop (es.length-1)++x)))(hz:Ct (fun _=>none) zs=some z)(hl:z.length=sz)(hc:(zs.length=sz∧zs.all AV.isCell=true)∧0<sz){id:Id}(g:G)(j:TI)(h:g id=some (.co sz L))(hj:j.size=sz)(hj2:j.zero=zs):HP g id (es.length-1) 1 j=some ⟨.undef,[(id,.co sz (es.take a++(es.drop (a+1)++(z::x))))]⟩:=by
 subst hj2 hL;have hl1:(es.take a).length=a:=by rw[IP];omega
 have hl2:(es.drop (a+1)).length=es.length-1-a:=by rw[Io];omega
 have hl3:(es.drop (es.length-1)).length=1:=by rw[Io];omega
 rw[Xy h hj hz hl hc (by simp only[CI,hl1,hl2,hl3];omega)];congr 5;have e1:es.take a++(es.drop (a+1)++(es.drop (es.length-1)++x))=(es.take a++es.drop (a+1))++(es.drop (es.length-1)++x):=by simp
 have e2:(es.take a++es.drop (a+1)).length=es.length-1:=by rw[CI,hl1,hl2];omega
 rw[e1,List.take_left' e2];have e3:(es.take a++es.drop (a+1))++(es.drop (es.length-1)++x)=((es.take a++es.drop (a+1))++es.drop (es.length-1))++x:=(EM ..).symm;rw[e3,List.drop_left' (l₁:=(es.take a++es.drop (a+1))++es.drop (es.length-1)) (by rw[CI,e2,hl3])];simp
end Go.Abs
namespace Go.Proofs
open Go Go.Abs
set_option maxRecDepth 100000
set_option maxHeartbeats 4000000
theorem OC{h:AB}{π:List Nat}{id:Abs.Id}{es x:List (List AZ)}{n a:Nat}(hm:h.get id=some (.co 1 (es++x)))(hu:Id.under π id=false)(hn:n=es.length)(ha:a<n)(hs: ∀e∈es,e.length=1)(hl:n≤1000000):
 ∃o h',KL Tryz.prog cfg (.fn 161) [.em id 0 n,.d (.int .i64 (a)),.d (.int .i64 ((a:Int)+1))] h π true none=.ok (o,h')∧o=.ret (.em id 0 (n-1))∧(∃y,h'.get id=some (.co 1 (es.take a++es.drop (a+1)++y)))∧ ∀i,Id.is id i=false→h'.get i=h.get i:=by
 subst hn;have w1:IntKind.i64.wrap ((a:Int)+1)=(a:Int)+1:=wrap_id (by omega) (by omega);have q1:=AG hu;have c1:=iR (g:=h.get) (n:=es.length) hm (a:=a) (b:=(a:Int)+1) (m:=es.length) (by omega) (by omega) (by omega) (by simp;omega) (by omega);have c2:=S4 (g:=h.get) (n:=es.length) hm (b:=a) (by omega) (by simp;omega) (by simp;omega);have c3:=S5 (g:=h.get) (n:=es.length) hm (a:=(a:Int)+1) (by omega) (by omega) (by simp) (by simp;omega);have t1:((a:Int)).toNat=a:=rfl;have t2:((a:Int)+1).toNat=a+1:=by omega
 rw[t1]at c2;rw[t2]at c3;have c4:=UC hm rfl ha hs (by decide) hl;replace hs:=AA.mk hs;have hle:a+(1+(es.length-(a+1)))≤es.length+x.length:=by omega
 have hd: ¬(a:Int)=(a:Int)+1:=by omega
 (refine Ah rfl Tryz.func161 rfl rfl rfl ?_;show Wp _ _ _ _ (Tryz.f161.body.get rfl) _ _;simp only[Tryz.f161,AS])
 have w2:es.length-(es.length-1)=1:=by omega
 have c6:=fun L hL=>Rq (es:=es) (x:=x) (sz:=1) (z:=[.be []]) (zs:=[.ci]) L ha hL rfl rfl ⟨⟨rfl,rfl⟩,by decide⟩ (id:=id);by_cases hz:a+1=es.length
 .rw[DO hz]at c4;have c5:=fun(g:G) (hg:g id=some (.co 1 (es++x)))=>Mw (n:=es.length-1) hg (a:=((es.length-1:Nat):Int)) (b:=es.length) (by omega) (by omega) (by simp;omega) (by simp;omega);simp only[F9,w2]at c5;have c6:=c6 (es++x) (by rw[←EM,show es.length-1=a by omega,PU (show es.length≤a+1 by omega)];simp[←EM]);replace hz:=AA.mk hz;refine aw ?_;exact⟨⟨_,rfl⟩,fun i hi=>by simp[hi]⟩
 .rw[CS hz]at c4;have c5:=fun(g:G) (hg:g id=some (.co 1 (es.take a++(es.drop (a+1)++(es.drop (es.length-1)++x)))))=>Mw (n:=es.length-1) hg (a:=((es.length-1:Nat):Int)) (b:=es.length) (by omega) (by omega) (by simp;omega) (by simp;omega);simp only[F9,w2]at c5;have c6:=c6 _ rfl;refine aw ?_;exact⟨⟨_,rfl⟩,fun i hi=>by simp[hi]⟩
theorem V7{h:AB}{π:List Nat}{id:Abs.Id}{es x:List (List AZ)}{n a:Nat}(hm:h.get id=some (.co 3 (es++x)))(hu:Id.under π id=false)(hn:n=es.length)(ha:a<n)(hs: ∀e∈es,e.length=3)(hl:n≤1000000):
 ∃o h',KL Tryz.prog cfg (.fn 101) [.em id 0 n,.d (.int .i64 (a)),.d (.int .i64 ((a:Int)+1))] h π true none=.ok (o,h')∧o=.ret (.em id 0 (n-1))∧(∃y,h'.get id=some (.co 3 (es.take a++es.drop (a+1)++y)))∧ ∀i,Id.is id i=false→h'.get i=h.get i:=by
 subst hn;have w1:IntKind.i64.wrap ((a:Int)+1)=(a:Int)+1:=wrap_id (by omega) (by omega);have q1:=AG hu;have c1:=iR (g:=h.get) (n:=es.length) hm (a:=a) (b:=(a:Int)+1) (m:=es.length) (by omega) (by omega) (by omega) (by simp;omega) (by omega);have c2:=S4 (g:=h.get) (n:=es.length) hm (b:=a) (by omega) (by simp;omega) (by simp;omega);have c3:=S5 (g:=h.get) (n:=es.length) hm (a:=(a:Int)+1) (by omega) (by omega) (by simp) (by simp;omega);have t1:((a:Int)).toNat=a:=rfl;have t2:((a:Int)+1).toNat=a+1:=by omega
 rw[t1]at c2;rw[t2]at c3;have c4:=UC hm rfl ha hs (by decide) hl;replace hs:=AA.mk hs;have hle:a+(1+(es.length-(a+1)))≤es.length+x.length:=by omega
 have hd: ¬(a:Int)=(a:Int)+1:=by omega
 (refine Ah rfl Tryz.func101 rfl rfl rfl ?_;show Wp _ _ _ _ (Tryz.f101.body.get rfl) _ _;simp only[Tryz.f101,AS])
 have w2:es.length-(es.length-1)=1:=by omega
 have c6:=fun L hL=>Rq (es:=es) (x:=x) (sz:=3) (z:=[.int .i64 0,.int .i64 0,.be []]) (zs:=[.d (.int .i64 0),.d (.int .i64 0),.ci]) L ha hL rfl rfl ⟨⟨rfl,rfl⟩,by decide⟩ (id:=id);by_cases hz:a+1=es.length
 .rw[DO hz]at c4;have c5:=fun(g:G) (hg:g id=some (.co 3 (es++x)))=>Mw (n:=es.length-1) hg (a:=((es.length-1:Nat):Int)) (b:=es.length) (by omega) (by omega) (by simp;omega) (by simp;omega);simp only[F9,w2]at c5;have c6:=c6 (es++x) (by rw[←EM,show es.length-1=a by omega,PU (show es.length≤a+1 by omega)];simp[←EM]);replace hz:=AA.mk hz;refine aw ?_;exact⟨⟨_,rfl⟩,fun i hi=>by simp[hi]⟩
 .rw[CS hz]at c4;have c5:=fun(g:G) (hg:g id=some (.co 3 (es.take a++(es.drop (a+1)++(es.drop (es.length-1)++x)))))=>Mw (n:=es.length-1) hg (a:=((es.length-1:Nat):Int)) (b:=es.length) (by omega) (by omega) (by simp;omega) (by simp;omega);simp only[F9,w2]at c5;have c6:=c6 _ rfl;refine aw ?_;exact⟨⟨_,rfl⟩,fun i hi=>by simp[hi]⟩
end Go.Proofs
namespace Go.Abs
theorem ic(l:List Id)(x y:Id):y∈K6 l x↔y∈l∨y=x:=by
 unfold K6;split
 .rename_i h;obtain⟨z,hz,e⟩:=SP.1 h;have:x=z:=is_iff.1 e;subst this;constructor
  .exact .inl
  .rintro(h|rfl)
   .exact h
   .exact hz
 .simp
theorem XR{l:List Id}(h:l.Nodup)(x:Id):(K6 l x).Nodup:=by
 unfold K6;split
 .exact h
 .rename_i hx;rw[Lc];refine⟨h,by simp,fun a ha b hb=>?_⟩;rw[As]at hb;subst hb;rintro rfl;have:l.any (Id.is a)=true:=SP.2 ⟨a,ha,is_self a⟩;rw[this]at hx;cases hx
theorem ie(l:List Id)(x:Id): ∃m,K6 l x=l++m:=by
 unfold K6;split
 .exact⟨[],by simp⟩
 .exact⟨[x],rfl⟩
theorem G9: ∀(new l:List Id) (y:Id),y∈Ey l new↔y∈l∨y∈new
 |[],l,y=>by simp[Ey]
 |x::new,l,y=>by
  have:=G9 new (K6 l x) y;unfold Ey at*;rw[MP,this,ic,Ce,or_assoc]
theorem Kd: ∀(new:List Id) {l:List Id},l.Nodup→(Ey l new).Nodup
 |[],l,h=>h
 |x::new,l,h=>Kd new (XR h x)
theorem RN: ∀(new l:List Id),∃m,Ey l new=l++m
 |[],l=>⟨[],by simp[Ey]⟩
 |x::new,l=>by
  obtain⟨m,hm⟩:=ie l x;obtain⟨m2,hm2⟩:=RN new (K6 l x);refine⟨m++m2,?_⟩;have:Ey l (x::new)=Ey (K6 l x) new:=rfl;rw[this,hm2,hm,EM]
theorem Ss(h:AB)(M:List Id)(hc: ∀x∈M,∀y∈JM (h.get x),y∈M): ∀(n:Nat) (l:List Id) (i:Nat),l.Nodup→(∀x∈l,x∈M)→(∀j x,j<i→l[j]? =some x→ ∀y∈JM (h.get x),y∈l)→M.length≤i+n→
 (CB h n l i).Nodup∧(∀x∈CB h n l i,x∈M)∧(∀x∈l,x∈CB h n l i)∧ ∀x∈CB h n l i,∀y∈JM (h.get x),y∈CB h n l i
 |0,l,i,hn,hm,hd,hi=>by
  have e:CB h 0 l i=l:=rfl;rw[e];refine⟨hn,hm,fun x hx=>hx,fun x hx y hy=>?_⟩;obtain⟨j,hj⟩:=IF hx;have h1:=hn.length_le_of_subset (l₂:=M) hm;have h2:=(BE.1 hj).1;exact hd j x (by omega) hj y hy
 |n+1,l,i,hn,hm,hd,hi=>by
  cases hl:l[i]? with
  |none=>
   have e:CB h (n+1) l i=l:=by rw[CB,hl]
   rw[e];refine⟨hn,hm,fun x hx=>hx,fun x hx y hy=>?_⟩;obtain⟨j,hj⟩:=IF hx;have h1:=List.getElem?_eq_none_iff.1 hl;have h2:=(BE.1 hj).1;exact hd j x (by omega) hj y hy
  |some id=>
   have e:CB h (n+1) l i=CB h n (Ey l (JM (h.get id))) (i+1):=by rw[CB,hl]
   rw[e];have hid:=Ac hl;obtain⟨m,hm2⟩:=RN (JM (h.get id)) l;have ih:=Ss h M hc n (Ey l (JM (h.get id))) (i+1) (Kd _ hn) (fun x hx=>by
    rcases(G9 _ _ _).1 hx with hx|hx
    .exact hm x hx
    .exact hc id (hm id hid) x hx) (fun j x hj hx y hy=>by
    rw[G9];by_cases hji:j=i
    .subst hji;rw[hm2,Be (BE.1 hl).1,hl]at hx;cases hx;exact .inr hy
    .have hil:=(BE.1 hl).1;rw[hm2,Be (by omega)]at hx;exact .inl (hd j x (by omega) hx y hy)) (by omega)
   exact⟨ih.1,ih.2.1,fun x hx=>ih.2.2.1 x ((G9 _ _ _).2 (.inl hx)),ih.2.2.2⟩
theorem IW(π:List Nat): ∀(l:List Id) (n:Nat) (x:Id),x∈l→ ∃j,De π l n x=some (S8 x::(n+j)::π)∧j<l.length
 |y::l,n,x,hx=>by
  rw[Sa];by_cases h:Id.is y x=true
  .rw[DO h];exact⟨0,rfl,by simp⟩
  .rw[CS h];have hx2:x∈l:=by
    rcases Ce.1 hx with rfl|hx
    .exact absurd (is_self _) h
    .exact hx
   obtain⟨j,hj,hlt⟩:=IW π l (n+1) x hx2;exact⟨j+1,by rw[hj];congr 3;omega,by simp;omega⟩
theorem Zp(h:AB)(ν:Id→Option Id)(hinj: ∀x y z,ν x=some z→ν y=some z→x=y){x z:Id}{o:Obj}(hz:ν x=some z)(ho:h.get x=some o): ∀(l:List Id),x∈l→(DE h ν l).get z=some (JR ν o)
 |y::l,hx=>by
  by_cases hxy:y=x
  .subst hxy;rw[DE,ho,hz,Bd,is_self,DO rfl]
  .have hx2:x∈l:=by
    rcases Ce.1 hx with rfl|hx
    .exact absurd rfl hxy
    .exact hx
   have ih:=Zp h ν hinj hz ho l hx2;rw[DE];split
   .rename_i o' z' h1 h2;rw[Bd,AE (fun e=>hxy (hinj _ _ _ h2 (by rw[e];exact hz))),CS (by simp)];exact ih
   .exact ih
structure Ren(π:List Nat)(h:AB)(e:Bm)(ν:Id→Option Id)(h':AB)(n:Nat):Prop where
 env: ∀x∈Tf e,∃z,ν x=some z
 name: ∀x z,ν x=some z→ ∃j,j<n∧z=S8 x::j::π
 inj: ∀x y z,ν x=some z→ν y=some z→x=y
 get: ∀x z o,ν x=some z→h.get x=some o→h'.get z=some (JR ν o)
 deep: ∀x z,ν x=some z→ ∀y∈JM (h.get x),∃z',ν y=some z'
 only: ∀z o,h'.get z=some o→ ∃x,ν x=some z
theorem Xk(π:List Nat)(h:AB)(e:Bm)(M:List Id)(hM:M.length≤1000)(he: ∀x∈Tf e,x∈M)(hc: ∀x∈M,∀y∈JM (h.get x),y∈M):
 ∃ν h' n,NK π h e=⟨e.map fun p=>(p.1,Mr ν p.2),h',n,[]⟩∧n≤M.length∧Ren π h e ν h' n:=by
 obtain⟨r1,r2,r3,r4⟩:=Ss h M hc 1000 (Ey [] (Tf e)) 0 (Kd _ .nil) (fun x hx=>by
  rcases(G9 _ _ _).1 hx with hx|hx
  .cases hx
  .exact he x hx) (fun j x hj=>by omega) (by omega)
 unfold NK Vs;generalize CB h 1000 (Ey [] (Tf e)) 0=L at*;refine⟨De π L 0,DE h (De π L 0) L,L.length,rfl,r1.length_le_of_subset r2,?_,?_,fun x y z=>Lr,fun x z o hz ho=>?_,fun x z hz y hy=>?_,fun z o hz=>?_⟩
 .intro x hx;obtain⟨j,hj,_⟩:=IW π L 0 x (r3 x ((G9 _ _ _).2 (.inr hx)));exact⟨_,hj⟩
 .intro x z hz;obtain⟨j,t,h1,h2⟩:=Eg hz;obtain⟨j2,h3,h4⟩:=IW π L 0 x (Ac h1);rw[hz]at h3;cases h3;exact⟨0+j2,by omega,rfl⟩
 .obtain⟨j,t,h1,h2⟩:=Eg hz;exact Zp h _ (fun x y z=>Lr) hz ho L (Ac h1)
 .obtain⟨j,t,h1,h2⟩:=Eg hz;obtain⟨j2,h3,h4⟩:=IW π L 0 y (r4 x (Ac h1) y hy);exact⟨_,h3⟩
 .obtain⟨x,o,_,h2,_⟩:=Et hz;exact⟨x,h2⟩
end Go.Abs
namespace Go.Proofs
open Go Go.Abs
@[irreducible] def Vr(C:CZ)(f:FuncId)(π:List Nat)(b:Nat)(e:Bm)(h:AB):St:=NK π h (Om e (C.live f b))
theorem Ic(C:CZ)(f:FuncId)(π:List Nat)(b:Nat)(e:Bm)(h:AB):Vr C f π b e h=NK π h (Om e (C.live f b)):=by unfold Vr;rfl
theorem jF(b:Nat)(e:Bm)(h:AB)(bs:Nat)(π:List Nat)(bv:Option (List Nat))(wl:Bool)(nt:Nat):E8 cfg ⟨153,π,false,bv,wl,nt⟩ b ⟨e,h,bs,[]⟩=Vr cfg 153 π b e h:=by
 rw[Ic];exact UJ _ _ _ _ _
attribute [go_sem 2000] jF
def AB6(g:AB)(v:AV)(q:List (List CT)):Prop:=(q.length=0∧v=.ci)∨(q.length≠0∧ ∃id,v=.em id 0 q.length∧g.get id=some (.co 1 (q.map BW)))
structure Gg(g:AB)(es:List (List AV))(l:List GR):Prop where
 len:es.length=l.length
 row: ∀(j:Nat) (x:GR),l[j]? =some x→ ∃v,es[j]? =some (A3 x v)∧AB6 g v x.queue
 diff:(es.flatMap A5).Nodup
def Tu(π:List Nat)(b:Nat)(id:Abs.Id):Prop:= ∃t j,j<b∧id=t::j::π
structure qH(π:List Nat)(l:List GR)(i:Nat)(v:AV)(g:AB)(b:Nat)(A:Abs.Id)(es:List (List AV)):Prop where
 val:v=.em A 0 i
 arr:g.get A=some (.arr 4 es)
 rep:Gg g es (l.take i)
 a:Tu π b A
 ids: ∀id∈es.flatMap A5,Tu π b id
 own: ∀id,Id.under π id=false→g.get id=none
variable{k b:Nat}{ρ:List Nat}
theorem Lq{A:Abs.Id}(h:Tu (k::ρ) b A)(t j:Nat)(hj:b≤j):Id.is (t::j::k::ρ) A=false∧Id.is A (t::j::k::ρ)=false:=by
 obtain⟨t',j',h1,rfl⟩:=h;exact⟨AE (by simp;omega),AE (by simp;omega)⟩
theorem Ij{A:Abs.Id}(h:Tu (k::ρ) b A)(m:List Nat)(hm:2<m.length):Id.is (m++k::ρ) A=false∧Id.is A (m++k::ρ)=false:=by
 obtain⟨t',j',h1,rfl⟩:=h;constructor
 .refine AE fun e=>?_;have:=congrArg List.length e;simp at this;omega
 .refine AE fun e=>?_;have:=congrArg List.length e;simp at this;omega
theorem FC(x:GR)(v:AV):A5 (A3 x v)=AD v:=by simp[A3,A5,AD]
theorem O6{g:AB}{v:AV}{q:List (List CT)}(h:AB6 g v q):(v=.ci∧AD v=[])∨ ∃id,v=.em id 0 q.length∧AD v=[id]∧g.get id=some (.co 1 (q.map BW)):=by
 rcases h with⟨_,rfl⟩|⟨_,id,rfl,h⟩
 .exact .inl ⟨rfl,rfl⟩
 .exact .inr ⟨id,rfl,rfl,h⟩
theorem LO{g:AB}{es:List (List AV)}{l:List GR}(h:Gg g es l){id:Abs.Id}(hi:id∈es.flatMap A5): ∃q:List (List CT),g.get id=some (.co 1 (q.map BW)):=by
 obtain⟨row,hr,hid⟩:=Bi.1 hi;obtain⟨j,hj⟩:=IF hr;have hjl:=(BE.1 hj).1;obtain⟨x,hx⟩:=get_some (l:=l) (i:=j) (by rw[←h.len];exact hjl);obtain⟨v,hv,hq⟩:=h.row j x hx;rw[hj]at hv;cases hv;rw[FC]at hid;rcases O6 hq with⟨_,e⟩|⟨id2,_,e,hg⟩
 .rw[e]at hid;cases hid
 .rw[e,As]at hid;subst hid;exact⟨_,hg⟩
variable{H:AB}{l:List GR}
theorem Kh{g:AB}{es:List (List AV)}(h:Gg g es l)(hk: ∀id∈es.flatMap A5,H.get id=g.get id):Gg H es l:=by
 refine⟨h.len,fun j x hx=>?_,h.diff⟩;obtain⟨v,hv,hq⟩:=h.row j x hx;refine⟨v,hv,?_⟩;rcases hq with hq|⟨h0,id,rfl,hg⟩
 .exact .inl hq
 .refine .inr ⟨h0,id,rfl,?_⟩;rw[hk id (Bi.2 ⟨_,Ac hv,by rw[FC];simp[AD]⟩)];exact hg
theorem Jc{H:AB}{es:List (List AV)}{l:List GR}(h:Gg H es l){x:GR}{v:AV}(hq:AB6 H v x.queue)(hn: ∀id∈AD v,id∉es.flatMap A5):Gg H (es++[A3 x v]) (l++[x]):=by
 refine⟨by simp[h.len],fun j y hy=>?_,?_⟩
 .by_cases hj:j<l.length
  .rw[Be hj]at hy;obtain⟨v',hv',hq'⟩:=h.row j y hy;exact⟨v',by rw[Be (by rw[h.len];exact hj)];exact hv',hq'⟩
  .have hlt:=(BE.1 hy).1;rw[CI,II]at hlt;obtain rfl:j=l.length:=by omega
   rw[CO (by omega)]at hy;simp only[MD,Ex,Bv]at hy;subst hy;exact⟨v,by rw[CO (by rw[h.len];omega),h.len];simp,hq⟩
 .rw[Lm,Lc];refine⟨h.diff,?_,?_⟩
  .simp only[D2,GS,D9,FC];rcases O6 hq with⟨_,e⟩|⟨id2,_,e,_⟩<;>rw[e]<;>simp
  .intro a ha b hb hab;subst hab;simp only[D2,GS,D9,FC]at hb;exact hn a hb ha
theorem O2{α β:Type}{f:α→β}: ∀{l:List α},l.Nodup→(∀x∈l,∀y∈l,f x=f y→x=y)→(l.map f).Nodup
 |[],_,_=>List.nodup_nil
 |x::l,h,hf=>by
  rw[List.nodup_cons]at h;rw[D8,List.nodup_cons];refine⟨fun hm=>?_,O2 h.2 fun a ha b hb=>hf a (FD _ ha) b (FD _ hb)⟩;obtain⟨y,hy,e⟩:=F0.1 hm;have:=hf y (FD _ hy) x (by simp) e;subst this;exact h.1 hy
theorem YP{es:List (List AV)}(h: ∀r∈es,(A5 r).length≤1):(es.flatMap A5).length≤es.length:=by
 induction es with
 |nil=>simp
 |cons r es ih=>
  have h1:=h r (by simp);have h2:=ih fun r hr=>h r (FD _ hr);simp only[D2,CI,List.length_cons];omega
theorem Xu{g:AB}{es:List (List AV)}(h:Gg g es l):(es.flatMap A5).length≤es.length:=by
 refine YP fun r hr=>?_;obtain⟨j,hj⟩:=IF hr;have hjl:=(BE.1 hj).1;obtain⟨x,hx⟩:=get_some (l:=l) (i:=j) (by rw[←h.len];exact hjl);obtain⟨v,hv,hq⟩:=h.row j x hx;rw[hj]at hv;cases hv;rw[FC];rcases O6 hq with⟨_,e⟩|⟨id2,_,e,hg⟩<;>rw[e]<;>simp
theorem Xv{π:List Nat}{H H':AB}{e:Bm}{ν:Abs.Id→Option Abs.Id}{n:Nat}(hR:Ren π H e ν H' n){es:List (List AV)}{l:List GR}(h:Gg H es l)(hν: ∀id∈es.flatMap A5,∃z,ν id=some z):Gg H' (es.map (JQ ν)) l∧ ∀id∈(es.map (JQ ν)).flatMap A5,Tu π n id:=by
 have key: ∀r∈es,A5 (JQ ν r)=(A5 r).map fun id=>(ν id).getD []:=by
  intro r hr;obtain⟨j,hj⟩:=IF hr;have hjl:=(BE.1 hj).1;obtain⟨x,hx⟩:=get_some (l:=l) (i:=j) (by rw[←h.len];exact hjl);obtain⟨v,hv,hq⟩:=h.row j x hx;rw[hj]at hv;cases hv;have e1:JQ ν (A3 x v)=A3 x (Mr ν v):=by simp[A3,JQ,Mr]
  rw[e1,FC,FC];rcases O6 hq with⟨rfl,e⟩|⟨id2,rfl,e,hg⟩
  .simp[Mr,AD]
  .obtain⟨z,hz⟩:=hν id2 (Bi.2 ⟨_,hr,by rw[FC];simp[AD]⟩);simp[Mr,hz,AD]
 have key2:(es.map (JQ ν)).flatMap A5=(es.flatMap A5).map fun id=>(ν id).getD []:=by
  rw[List.flatMap_map,List.map_flatMap];have: ∀(l:List (List AV)),(∀r∈l,A5 (JQ ν r)=(A5 r).map fun id=>(ν id).getD [])→(l.flatMap fun a=>A5 (JQ ν a))=l.flatMap fun a=>(A5 a).map fun id=>(ν id).getD []:=by
   intro l hl;induction l with
   |nil=>rfl
   |cons r l ih=>rw[D2,D2,hl r (by simp),ih fun r hr=>hl r (FD _ hr)]
  exact this es key
 refine⟨⟨by rw[BI,h.len],fun j x hx=>?_,?_⟩,?_⟩
 .obtain⟨v,hv,hq⟩:=h.row j x hx;refine⟨Mr ν v,?_,?_⟩
  .rw[D1,hv];simp[A3,JQ,Mr]
  .rcases hq with⟨h0,rfl⟩|⟨h0,id,rfl,hg⟩
   .exact .inl ⟨h0,rfl⟩
   .obtain⟨z,hz⟩:=hν id (Bi.2 ⟨_,Ac hv,by rw[FC];simp[AD]⟩);refine .inr ⟨h0,z,by simp[Mr,hz],?_⟩;have:=hR.get id z _ hz hg;simpa[JR]using this
 .rw[key2];refine O2 h.diff fun x hx y hy e=>?_;obtain⟨z,hz⟩:=hν x hx;obtain⟨z2,hz2⟩:=hν y hy;rw[hz,hz2]at e;simp only[F5]at e;subst e;exact hR.inj x y z hz hz2
 .intro id hid;rw[key2]at hid;obtain⟨x,hx,rfl⟩:=F0.1 hid;obtain⟨z,hz⟩:=hν x hx;obtain⟨j,hj,rfl⟩:=hR.name x z hz;rw[hz];exact⟨_,j,hj,rfl⟩
theorem R2{K:AN}{fr:Fr}{bl:Nat}{x:Code}{Q:Dx→St→Prop}{E:Bm}{B:Abs.Id}{i:Nat}{es:List (List AV)}{x8 x9 x10:AZ}
 (hE:Om E (cfg.live 153 0)=[(1,.fn 154 [] []),(5,.em B 0 i),(8,.d x8),(9,.d x9),(10,.d x10)]) (h1:H.get B=some (.arr 4 es)) (h2:Gg H es (l.take i)) (hi:es.length≤60)
 (hn: ∀v g b A es,qH (k::ρ) l i v g b A es→ia cfg K fr bl x ⟨[(1,.fn 154 [] []),(5,v),(8,.d x8),(9,.d x9),(10,.d x10)],g,b,[]⟩ Q):ia cfg K fr bl x (Vr cfg 153 (k::ρ) 0 E H) Q:=by
 rw[Ic,hE];have hlen:=Xu h2;obtain⟨ν,h',n,hc,hnM,hR⟩:=Xk (k::ρ) H [(1,.fn 154 [] []),(5,.em B 0 i),(8,.d x8),(9,.d x9),(10,.d x10)] (B::es.flatMap A5) (by simp only[List.length_cons];omega) (by
  intro y hy;simp[Tf,AD,A5]at hy;simp[hy]) (by
  intro y hy z hz;rcases Ce.1 hy with rfl|hy
  .rw[h1]at hz;exact FD _ hz
  .obtain⟨q,hq⟩:=LO h2 hy;rw[hq]at hz;cases hz)
 obtain⟨z,hz⟩:=hR.env B (by simp[Tf,AD,A5]);have hν: ∀id∈es.flatMap A5,∃z,ν id=some z:=fun id hid=>hR.deep B z hz id (by rw[h1];exact hid);obtain⟨r1,r2⟩:=Xv hR h2 hν;rw[hc];have:=hn (.em z 0 i) h' n z (es.map (JQ ν)) ⟨rfl,by have:=hR.get B z _ hz h1;simpa[JR]using this,r1,by obtain⟨j,hj,rfl⟩:=hR.name B z hz;exact⟨_,j,hj,rfl⟩,r2,fun id hu=>by
  cases hg:h'.get id with
  |none=>rfl
  |some o=>
   obtain⟨y,hy⟩:=hR.only id o hg;obtain⟨j,hj,rfl⟩:=hR.name y id hy;rw[KY]at hu;cases hu⟩
 simpa[Mr,JQ,hz]using this
set_option maxRecDepth 100000
set_option maxHeartbeats 4000000
def qE(π:List Nat)(l:List GR)(r:Ae×AB):Prop:=(l.length=0∧r=(.ret .ci,[]))∨(l.length≠0∧ ∃v g b A es,r=(.ret v,g)∧qH π l l.length v g b A es)
theorem yF(l:List GR)(hl:l.length≤60)(hf: ∀x∈l,x.queue.length≤1000000∧ ∀y∈x.queue,y.length≤1000000)(k:Nat)(ρ:List Nat): ∃r,BJ (KL Tryz.prog cfg) 153 [.d (.be (l.map Bc)),.fn 154 [] []] (k::ρ)=.ok r∧qE (k::ρ) l r:=by
 (refine Ft rfl Tryz.func153 rfl rfl rfl ?_;show Wp _ _ _ _ (Tryz.f153.body.get rfl) _ _;simp only[Tryz.f153,AS])
 (repeat' (first|simp only[go_sem, *,Ic]|(refine sx ?_ ?_<;>intro hc)|refine sy (by omega) fun x hx hm=>?_|simp(disch:=first|assumption|omega) only[AJ]))
 refine AY l _ (S:=fun m i (a:(AV×AB)×Nat)=>⟨[(1,.fn 154 [] []),(5,a.1.1),(8,.d (.be (l.map Bc))),(9,.d (.int .i64 (m))),(10,.d (.int .i64 (i)))],a.1.2,a.2,[]⟩)
  (Inv:=fun i rest a=>AA (i=0∧a=((.ci,[]),0)∨0<i∧ ∃A es,qH (k::ρ) l i a.1.1 a.1.2 a.2 A es)) (b0:=((_,[]),_)) ?_ ⟨.inl ⟨rfl,rfl⟩⟩ ?_ ?_
 .rfl
 .rintro i x ⟨⟨v,g⟩,b⟩ hy hi him hv IH;dsimp only at*;have hx:=fun k ρ=>Vy x (hf x (Ac hy)).1 (hf x (Ac hy)).2 k ρ;replace hf:=AA.mk hf;have ht:AA (l.take (i+1)=l.take i++[x]):=⟨by rw[Is,hy];rfl⟩;rcases hv.out with⟨rfl,he⟩|⟨hi0,A,es,hE⟩
  .clear hv;cases he;have him0:(0:Int)<l.length:=him;by_cases h0:x.queue.length=0
   .simp only[Nj,DO h0,A3]at hx
    (repeat' (first|simp only[go_sem, *,HL,Ic]|(refine sx ?_ ?_<;>intro hc)|refine sy (by omega) fun x hx hm=>?_|simp(disch:=first|assumption|omega) only[AJ]))
    refine IH.out ((_,_),_) ⟨.inr ⟨by omega,1::0::k::ρ,[A3 x .ci],rfl,by simp only[go_sem];rfl,?_,⟨1,0,Nat.lt_succ_self 0,rfl⟩,?_,?_⟩⟩
    .rw[ht.out];exact Jc (es:=[]) (l:=[]) ⟨rfl,by simp,by simp⟩ (.inl ⟨h0,rfl⟩) (by simp[AD])
    .simp[FC,AD]
    .intro id hu;rw[Bd,AE (by rintro rfl;rw[KY]at hu;cases hu)];rfl
   .simp only[Nj,CS h0,A3]at hx;have fa:=Jf h0
    (repeat' (first|simp only[go_sem, *,HL,Ic]|(refine sx ?_ ?_<;>intro hc)|refine sy (by omega) fun x hx hm=>?_|simp(disch:=first|assumption|omega) only[AJ]))
    refine IH.out ((_,_),_) ⟨.inr ⟨by omega,1::0::k::ρ,[A3 x (.em (1::1::k::ρ) 0 x.queue.length)],rfl,by simp only[go_sem];rfl,?_,⟨1,0,Nat.succ_pos 1,rfl⟩,?_,?_⟩⟩
    .rw[ht.out];refine Jc (es:=[]) (l:=[]) ⟨rfl,by simp,by simp⟩ (.inr ⟨h0,_,rfl,?_⟩) (by simp[AD]);simp only[go_sem]
    .intro id hid;simp[FC,AD]at hid;subst hid;exact⟨1,1,Nat.lt_succ_self 1,rfl⟩
    .intro id hu;rw[Bd,AE (by rintro rfl;rw[KY]at hu;cases hu),CS (by simp),Bd,AE (by rintro rfl;rw[KY]at hu;cases hu)];rfl
  .clear hv;obtain rfl:=hE.val;have hA:=hE.arr;have hes:=hE.rep.len;have hti:(l.take i).length=i:=by simp;omega
   have hrep:=hE.rep;have hid:=hE.ids;have fr: ∀id,Tu (k::ρ) b id→id≠A→AA (Id.is (0::(b+3)::k::ρ) id=false∧Id.is (1::(b+9)::k::ρ) id=false∧Id.is (1::(b+10)::k::ρ) id=false∧Id.is (0::0::(b+8)::k::ρ) id=false∧Id.is (0::1::(b+8)::k::ρ) id=false∧Id.is (1::0::2::10::(b+8)::k::ρ) id=false∧Id.is A id=false):=fun id h hne=>⟨(Lq h 0 (b+3) (by omega)).1,(Lq h 1 (b+9) (by omega)).1,(Lq h 1 (b+10) (by omega)).1,(Ij h [0,0,b+8] (by simp)).1,(Ij h [0,1,b+8] (by simp)).1,(Ij h [1,0,2,10,b+8] (by simp)).1,AE fun e=>hne e.symm⟩;have hneA: ∀id∈es.flatMap A5,id≠A:=fun id h e=>by
    obtain⟨q,hq⟩:=LO hrep h;rw[e,hA]at hq;cases hq
   have hX:1::0::2::10::(b+8)::k::ρ∉es.flatMap A5:=fun h=>by
    obtain⟨t,j,_,e⟩:=hid _ h;have:=congrArg List.length e;simp at this;omega
   obtain⟨m1,m2⟩:=Lq hE.a 0 (b+3) (by omega);obtain⟨m3,m4⟩:=Lq hE.a 1 (b+9) (by omega);obtain⟨m5,m6⟩:=Ij hE.a [0,0,b+8] (by simp);obtain⟨m7,m8⟩:=Ij hE.a [0,1,b+8] (by simp);obtain⟨m9,m10⟩:=Ij hE.a [1,0,2,10,b+8] (by simp);simp only[FN,Gc]at m5 m6 m7 m8 m9 m10;rw[hti]at hes;have tke:es.take i=es:=DL (by omega);replace hE:=AA.mk hE;replace hrep:=AA.mk hrep;replace hid:=AA.mk hid;replace hneA:=AA.mk hneA;replace fr:=AA.mk fr;replace hX:=AA.mk hX;have nle: ¬i+1≤i:=by omega
   have lm:i+1≤BA:=by unfold BA;omega
   by_cases h0:x.queue.length=0
   .simp only[Nj,DO h0,A3]at hx
    (repeat' (first|simp only[go_sem, *,HL]|(refine sx ?_ ?_<;>intro hc)|refine sy (by omega) fun x hx hm=>?_|simp(disch:=first|assumption|omega) only[AJ]))
    refine R2 (B:=1::(b+10)::k::ρ) (i:=i+1) (es:=es++[A3 x .ci]) ?_ ?_ ?_ ?_ (fun v g b A es hE2=>IH.out ((v,g),b) ⟨.inr ⟨by omega,A,es,hE2⟩⟩)
    .simp only[go_sem];rfl
    .simp only[go_sem];rfl
    .rw[ht.out];refine Jc (Kh hrep.out fun id h=>?_) (.inl ⟨h0,rfl⟩) (by simp[AD]);obtain⟨f1,f2,f3,f4,f5,f6,f7⟩:=(fr.out id (hid.out id h) (hneA.out id h)).out;simp only[go_sem,f1,f2,f3,f4,f5,f6,f7,AM]
    .simp;omega
   .simp only[Nj,CS h0,A3]at hx;have fa:=Jf h0
    (repeat' (first|simp only[go_sem, *,HL]|(refine sx ?_ ?_<;>intro hc)|refine sy (by omega) fun x hx hm=>?_|simp(disch:=first|assumption|omega) only[AJ]))
    refine R2 (B:=1::(b+10)::k::ρ) (i:=i+1) (es:=es++[A3 x (.em (1::0::2::10::(b+8)::k::ρ) 0 x.queue.length)]) ?_ ?_ ?_ ?_ (fun v g b A es hE2=>IH.out ((v,g),b) ⟨.inr ⟨by omega,A,es,hE2⟩⟩)
    .simp only[go_sem];rfl
    .simp only[go_sem];rfl
    .rw[ht.out];refine Jc (Kh hrep.out fun id h=>?_) (.inr ⟨h0,_,rfl,?_⟩) (by simp only[AD,As];rintro id rfl;exact hX.out)
     .obtain⟨f1,f2,f3,f4,f5,f6,f7⟩:=(fr.out id (hid.out id h) (hneA.out id h)).out;simp only[go_sem,f1,f2,f3,f4,f5,f6,f7,AM]
     .simp only[go_sem]
    .simp;omega
 .rintro i ⟨⟨v,g⟩,b⟩ hi him hv;dsimp only at*;rcases hv.out with⟨rfl,he⟩|⟨hi0,A,es,hE⟩
  .cases he;have him0: ¬(0:Int)<l.length:=him;have hl0:=AA.mk hi.out.symm;clear hv
   (repeat' (first|simp only[go_sem, *,Ic]|(refine sx ?_ ?_<;>intro hc)|refine sy (by omega) fun x hx hm=>?_|simp(disch:=first|assumption|omega) only[AJ]))
   exact .inl ⟨hl0.out,rfl⟩
  .clear hv;have hii:=AA.mk hi.out;obtain rfl:=hE.val;replace hE:=AA.mk hE
   (repeat' (first|simp only[go_sem, *]|(refine sx ?_ ?_<;>intro hc)|refine sy (by omega) fun x hx hm=>?_|simp(disch:=first|assumption|omega) only[AJ]))
   obtain rfl:=hii.out;exact .inr ⟨by omega,_,_,b,A,es,rfl,hE.out⟩
structure BM.Fits(s:BM):Prop where
 ac:s.ac.length≤1000000
 bi:s.bi.length≤1000000
 am:s.am.length≤60
 waits:s.waits.length≤1000000
 group: ∀x∈s.bi,x.env.length≤1000000
 chan: ∀x∈s.am,x.queue.length≤1000000∧ ∀y∈x.queue,y.length≤1000000
 wait: ∀x∈s.waits,x.env.length≤1000000
structure qF(π:List Nat)(s:BM)(v1 v2 v3 v4:AV)(rows:List (List AV))(g:AB):Prop where
 s0:K9 g 2 v1 (s.ac.map Aa)
 s1:K9 g 3 v2 (s.bi.map An)
 s2:K9 g 3 v4 (s.waits.map AU)
 arr:xV g v3 rows
 am:Chs g rows s.am
 qd:(rows.flatMap A5).Nodup
 gw: ∀id∈AD v2,id∉AD v4
 ids: ∀id,id∈AD v1∨id∈AD v2∨id∈AD v4∨id∈AD v3∨id∈rows.flatMap A5→Id.under π id=true
 own: ∀id,Id.under π id=false→g.get id=none
def qG(π:List Nat)(s:BM)(r:Ae×AB):Prop:= ∃v1 v2 v3 v4 rows g,r=(.ret (.agg [v1,v2,v3,v4]),g)∧qF π s v1 v2 v3 v4 rows g
variable{α:Type}{f:α→List AZ}
theorem Nv{g:AB}{sz:Nat}{l:List α}(h:l.length=0):K9 g sz .ci (l.map f):=.inl ⟨rfl,by rw[Cs h];rfl⟩
theorem Nu{g:AB}{sz:Nat}{l:List α}{id:Abs.Id}(h:g.get id=some (.co sz (l.map f))):K9 g sz (.em id 0 l.length) (l.map f):=BZ [] (by simp) (by rw[D9];exact h)
theorem wv(a b c:Nat)(π:List Nat):Id.under π (a::b::c::π)=true:=under_iff.2 ⟨[a,b,c],rfl⟩
theorem My(i t j:Nat)(π:List Nat)(h:i≠j):Id.under (i::π) (t::j::π)=false:=EZ fun hs=>by
 rcases ID.1 hs with e|hs
 .have:=congrArg List.length e;simp at this
 rcases ID.1 hs with e|hs
 .simp only[NO,and_true]at e;exact h e
 .have:=hs.length_le;simp at this;omega
theorem JX(i a t j:Nat)(π:List Nat)(h:i≠j):Id.under (i::π) (a::t::j::π)=false:=EZ fun hs=>by
 rcases ID.1 hs with e|hs
 .have:=congrArg List.length e;simp at this
 have:=My i t j π h;rw[under_iff.2 hs]at this;cases this
theorem Yt: ∀{g:AB} {x:Abs.Id},x∈g.map (fun x=>x.1)→g.get x≠none
 |(k,o)::g,x,hx=>by
  rw[Bd];split
  .simp
  .rename_i hk;rw[D8,Ce]at hx;rcases hx with rfl|hx
   .exact absurd (is_self _) hk
   .exact Yt hx
theorem xd{g:AB}{id:Abs.Id}(h:g.get id=none):((g.map fun x=>x.1).all fun x=> !Id.is x id)=true:=by
 rw[Ci];intro x hx;rw[AE]
 .rfl
 .rintro rfl;exact Yt hx h
theorem ACP{g:AB}{es:List (List AV)}(h:Gg g es l):Chs g es l:=by
 refine⟨h.len,fun j q hq=>?_⟩;obtain⟨v,h1,h2⟩:=h.row j q hq;refine⟨v,h1,?_⟩;rcases h2 with⟨h3,rfl⟩|⟨h3,id,rfl,h4⟩
 .exact Nv h3
 .exact Nu h4
theorem jR(s:BM)(h:s.Fits)(k:Nat)(ρ:List Nat): ∃r,BJ (KL Tryz.prog cfg) 92 [.agg [.d (.be (s.ac.map Aa)),.d (.be (s.bi.map An)),.d (.be (s.am.map Bc)),.d (.be (s.waits.map AU))]] (k::ρ)=.ok r∧qG (k::ρ) s r:=by
 have h1:=rr 149 rfl s.ac (fun x _=>aD x) h.ac 4 (k::ρ);have h2:=jk 151 rfl s.bi (fun x hx=>Ru x (h.group x hx)) h.bi 7 (k::ρ);obtain⟨r,h3,hp⟩:=yF s.am h.am h.chan 10 (k::ρ);have h4:=ru 157 rfl s.waits (fun x hx=>Td x (h.wait x hx)) h.waits 13 (k::ρ);replace h:=AA.mk h;rcases hp with⟨z3,rfl⟩|⟨z3,v,g,b,A,es,rfl,hE⟩
 .by_cases z1:s.ac.length=0;all_goals by_cases z2:s.bi.length=0
  all_goals by_cases z4:s.waits.length=0
  all_goals
   simp only[JO,z1,z2,z4,↓reduceIte]at h1 h2 h4
   (refine Ft rfl Tryz.func92 rfl rfl rfl ?_;show Wp _ _ _ _ (Tryz.f92.body.get rfl) _ _;simp only[Tryz.f92,AS])
   (repeat' (first|simp only[go_sem, *,OT,NF,OU,ne_eq,not_false_eq_true]|(refine sx ?_ ?_<;>intro hc)|refine sy (by omega) fun x hx hm=>?_|simp(disch:=first|assumption|omega) only[AJ]))
   refine⟨_,_,_,_,[],_,rfl,?_,?_,?_,.inl ⟨rfl,rfl⟩,⟨z3.symm,fun j q hq=>by rw[Cs z3]at hq;cases hq⟩,List.nodup_nil,?_,fun id hid=>?_,fun id hu=>?_⟩
   .first
    |exact Nv z1
    |(refine Nu ?_;simp only[go_sem];done)
   .first
    |exact Nv z2
    |(refine Nu ?_;simp only[go_sem];done)
   .first
    |exact Nv z4
    |(refine Nu ?_;simp only[go_sem];done)
   .simp[AD]
   .simp only[AD,As,F8,GS,Ls,false_or]at hid
    repeat' (rcases hid with hid|hid)
    all_goals exact wv _ _ _ _
   .have a1:=AG hu;have a2:=AG (AF hu 4);have a3:=AG (AF hu 7);have a4:=AG (AF hu 13);simp only[go_sem,a1,a2,a3,a4,AM]
 .obtain rfl:=hE.val;have hgA:=hE.arr;have n00:=hE.own _ (My 10 0 0 (k::ρ) (by decide));have n01:=hE.own _ (My 10 0 1 (k::ρ) (by decide));have g00: ∀L,AB.get (g++L) (0::0::k::ρ)=AB.get L (0::0::k::ρ):=fun L=>Bb n00;have g01: ∀L,AB.get (g++L) (0::1::k::ρ)=AB.get L (0::1::k::ρ):=fun L=>Bb n01;have g04: ∀L,AB.get (g++L) (1::0::4::k::ρ)=AB.get L (1::0::4::k::ρ):=fun L=>Bb (hE.own _ (JX _ _ _ _ _ (by decide)));have g07: ∀L,AB.get (g++L) (1::0::7::k::ρ)=AB.get L (1::0::7::k::ρ):=fun L=>Bb (hE.own _ (JX _ _ _ _ _ (by decide)));have g13: ∀L,AB.get (g++L) (1::0::13::k::ρ)=AB.get L (1::0::13::k::ρ):=fun L=>Bb (hE.own _ (JX _ _ _ _ _ (by decide)));have gal:=xd n00;have hrep:=hE.rep;rw[Em]at hrep;have hlr:=AA.mk hrep.len;have n13:g.get (1::0::13::k::ρ)=none:=hE.own _ (JX _ _ _ _ _ (by decide));have nis: ∀{x y:Abs.Id} {o:Abs.Obj},g.get x=none→g.get y=some o→Id.is x y=false:=fun h1 h2=>AE fun e=>by rw[e,h2]at h1;cases h1
  have hgA2:AA (Id.is (0::1::k::ρ) A=false∧Id.is (1::0::13::k::ρ) A=false∧ ∀L,AB.get (g++L) A=some (.arr 4 es)):=⟨nis n01 hgA,nis n13 hgA,fun L=>DK hgA⟩;have hgE:AA (∀id∈es.flatMap A5,Id.is (0::1::k::ρ) id=false∧Id.is (1::0::13::k::ρ) id=false∧ ∀L,AB.get (g++L) id=AB.get g id):=⟨fun id hid=>by
   obtain⟨q,hq⟩:=LO hrep hid;exact⟨nis n01 hq,nis n13 hq,fun L=>by rw[hq];exact DK hq⟩⟩
  clear n13 nis;replace hrep:=AA.mk hrep;have hA10:AA (Id.under (k::ρ) A=true):=⟨by obtain⟨t,j,_,rfl⟩:=hE.a;exact under_iff.2 ⟨[t,j,10],rfl⟩⟩;have hE10:AA (∀id∈es.flatMap A5,Id.under (k::ρ) id=true):=⟨fun id hid=>by obtain⟨t,j,_,rfl⟩:=hE.ids id hid;exact under_iff.2 ⟨[t,j,10],rfl⟩⟩;replace hE:=AA.mk hE;have f3: ∀o m,BT (.em A o m) g=none:=fun o m=>by simp only[BT,hgA]
  by_cases z1:s.ac.length=0;all_goals by_cases z2:s.bi.length=0
  all_goals by_cases z4:s.waits.length=0
  all_goals
   simp only[JO,z1,z2,z4,↓reduceIte]at h1 h2 h4
   (refine Ft rfl Tryz.func92 rfl rfl rfl ?_;show Wp _ _ _ _ (Tryz.f92.body.get rfl) _ _;simp only[Tryz.f92,AS])
   (repeat' (first|simp only[go_sem, *,OT,NF,OU,ne_eq,not_false_eq_true]|(refine sx ?_ ?_<;>intro hc)|refine sy (by omega) fun x hx hm=>?_|simp(disch:=first|assumption|omega) only[AJ]))
   refine⟨_,_,_,_,es,_,rfl,?_,?_,?_,.inr ⟨A,?_,?_⟩,ACP (Kh hrep.out fun id hid=>?_),hrep.out.diff,?_,fun id hid=>?_,fun id hu=>?_⟩
   .first
    |exact Nv z1
    |(refine Nu ?_;simp only[go_sem,g04,g07,g13];done)
   .first
    |exact Nv z2
    |(refine Nu ?_;simp only[go_sem,g04,g07,g13];done)
   .first
    |exact Nv z4
    |(refine Nu ?_;simp only[go_sem,g04,g07,g13];done)
   .rw[hlr.out]
   .obtain⟨q1,q2,q3⟩:=hgA2.out;simp only[go_sem,q1,q2,q3,AM]
   .obtain⟨q1,q2,q3⟩:=hgE.out id hid;simp only[go_sem,q1,q2,q3,AM]
   .simp[AD]
   .simp only[AD,As,F8,Ls,false_or]at hid
    repeat' (rcases hid with hid|hid)
    all_goals first
    |exact wv _ _ _ _
    |exact hA10.out
    |exact hE10.out _ hid
   .have a1:=AG hu;have a2:=AG (AF hu 4);have a3:=AG (AF hu 7);have a4:=AG (AF hu 13);have a5: ∀L,AB.get (g++L) id=AB.get L id:=fun L=>Bb (hE.out.own id (AF hu 10));simp only[go_sem,a1,a2,a3,a4,a5,AM]
theorem UO{p:AI}{s:BM}{d:Bq}{g:Ao}{i c:Nat}: ∀{l:List Hb} {j:Nat},Dz p s d g i c j l=true→ ∀(t:Nat) (ch:Hb),l[t]? =some ch→KB p s d g i (j+t) (c+(j+t)) ch=true
 |x::l,j,h,t,ch,ht=>by
  rw[Dz,AP]at h;cases t with
  |zero=>
   simp only[Ex,Bv]at ht;subst ht;exact h.1
  |succ t=>
   rw[F4]at ht;have:=UO h.2 t ch ht
   rwa [show j+1+t=j+(t+1) by omega]at this
theorem SI{p:AI}{ce:List Int}(hF:BD p ce){s:BM}: ∀(l:List Ao) (i c k:Nat),Br p (BQ p ce) s i c k l=true→
 (∀g∈l,g.env.length≤10000)∧ ∀a,c≤a→a<s.am.length→ ∃q g d ch i j,s.am[a]? =some q∧M9 p s d g i j q ch=true∧ch.many≤3
 |[],i,c,k,h=>by
  rw[Br,AP,Ap]at h;exact⟨fun g hg=>(by cases hg),fun a h1 h2=>by omega⟩
 |g::l,i,c,k,h=>by
  rw[Br]at h;cases hd:p.def? g.eq with
  |none=>rw[hd]at h;cases h
  |some d=>
   rw[hd]at h;simp only[AP]at h;obtain⟨h1,h2⟩:=h;obtain⟨i1,i2⟩:=SI hF l _ _ _ h2;rw[AI.def?]at hd;split at hd
   .rename_i h0;have hdf:=CD hF hd;rw[JG]at h1;simp only[AP,Ap]at h1;obtain⟨_,hl,_,_,hch⟩:=h1;obtain⟨_,_,s0,_,_,_,_,q0,q1,q2,_⟩:=hdf.node;rw[q2]at hl;have hown:=Nk hdf.ok;simp only[F5]at hl;refine⟨fun y hy=>?_,fun a ha hb=>?_⟩
    .rcases Ce.1 hy with rfl|hy
     .omega
     .exact i1 y hy
    .by_cases hac:a<c+d.am.length
     .obtain⟨ch,hch2⟩:=get_some (l:=d.am) (i:=a-c) (by omega);have:=UO hch (a-c) ch hch2;rw[show c+(0+(a-c))=a by omega,KB]at this;cases hq:s.am[a]? with
      |none=>rw[hq]at this;cases this
      |some q=>
       rw[hq]at this;exact⟨q,g,d,ch,_,_,rfl,this,(hdf.ok.chan ch (Ac hch2)).2.2.2⟩
     .exact i2 a (by omega) hb
   .cases hd
theorem fh{p:AI}{st:BN}(hlk:looks p=some st){s:BM}(h:DG p st.ce s=true):s.Fits:=by
 have hF:=B5 hlk;simp only[DG,BM.small,AP,Ap]at h;obtain⟨⟨a1,a2,a3,a4⟩,_,_,hg,hw⟩:=h;obtain⟨g1,g2⟩:=SI hF _ _ _ _ hg;refine⟨by omega,by omega,a3,by omega,fun x hx=>by have:=g1 x hx;omega,fun x hx=>?_,fun x hx=>?_⟩
 .obtain⟨a,ha⟩:=IF hx;have hal:=(BE.1 ha).1;obtain⟨q,g,d,ch,i,j,hq,hok,hm⟩:=g2 a (by omega) hal;rw[ha]at hq;cases hq;simp only[M9,AP,Ap,Ci]at hok;obtain⟨_,_,_,h12,_,hall⟩:=hok;refine⟨by omega,fun y hy=>?_⟩;have:=hall y hy;simp only[E3,AP,Ap]at this;omega
 .have:=Ci.1 hw x hx;simp only[Bz,AP,Ap]at this;obtain⟨_,_,_,hn,hl,_⟩:=this;cases hxn:p.nodes[x.node.toNat]? with
  |none=>rw[hxn]at hn;cases hn
  |some y=>
   obtain⟨v,_,hv,v0,v1,_⟩:=hF.node _ y hxn;rw[hv]at hl;simp only[F5]at hl;omega
def Gb(p:AI)(l:List Ao):Nat×Nat:=l.foldl (fun a g=>match p.def? g.eq with|some d=>(a.1+d.am.length,a.2+d.ac.length)|none=>a) (0,1)
structure M7(p:AI)(sz:List Int)(s:BM)(i:Nat)(g:Ao)(d:Bq):Prop where
 eq:p.def? g.eq=some d
 at_:Dd s.ac g.at_
 len:(g.env.length:Int)=((BQ p sz)[g.eq.toNat]?).getD 0
 jp:g.env.all (CT.inB p s.am.length s.ac.length)=true
 wn:C7 d (Gb p (s.bi.take i)).1 (Gb p (s.bi.take i)).2 g=true
 am: ∀(j:Nat) ch,d.am[j]? =some ch→ ∃q,s.am[(Gb p (s.bi.take i)).1+j]? =some q∧q.group=i∧q.index=j∧q.at_=g.place d ch.at_
structure QOk(p:AI)(s:BM)(q:GR):Prop where
 len:q.queue.length≤12
 dead:q.queue.length=0∨AW s.ac q.at_=false
 msgs: ∀m∈q.queue,E3 p s.am.length s.ac.length (EE p s q) m=true
structure E6(p:AI)(sz:List Int)(s:BM):Prop where
 small:s.small=true
 tree:GG s.ac
 dead: ∀(i:Nat) x,1≤i→s.ac[i]? =some x→x.dead=true∨AW s.ac x.of=false
 grp: ∀(i:Nat) g,s.bi[i]? =some g→ ∃d,M7 p sz s i g d
 tot:Gb p s.bi=(s.am.length,s.ac.length)
 que: ∀(c:Nat) q,s.am[c]? =some q→QOk p s q
 wait: ∀w∈s.waits,Bz p sz s w=true
variable{m:List BL}
theorem Ry{l:List BL}:Fa l m=true↔ ∀x∈m,x.dead=true∨AW l x.of=false:=by
 induction m with
 |nil=>simp[Fa]
 |cons x m ih=>
  rw[Fa,AP,ih];simp only[I2,Gs,Ce,GO]
theorem VE(p:AI)(l:List Ao)(g:Ao){d:Bq}(h:p.def? g.eq=some d):Gb p (l++[g])=((Gb p l).1+d.am.length,(Gb p l).2+d.ac.length):=by
 unfold Gb;rw[List.foldl_append];simp only[MP,List.foldl_nil,h]
theorem VF{p:AI}{l:List Ao}{i:Nat}{g:Ao}{d:Bq}(hg:l[i]? =some g)(h:p.def? g.eq=some d):Gb p (l.take (i+1))=((Gb p (l.take i)).1+d.am.length,(Gb p (l.take i)).2+d.ac.length):=by
 rw[Is,hg];exact VE p _ g h
theorem NM{p:AI}{s:BM}{d:Bq}{g:Ao}{i c:Nat}: ∀{l:List Hb} {j:Nat},Dz p s d g i c j l=true↔ ∀(t:Nat) ch,l[t]? =some ch→KB p s d g i (j+t) (c+(j+t)) ch=true
 |[],j=>by simp[Dz]
 |x::l,j=>by
  rw[Dz,AP,NM (j:=j+1)];constructor
  .rintro⟨h1,h2⟩ t ch ht;cases t with
   |zero=>
    simp only[Ex,Bv]at ht;subst ht;exact h1
   |succ t=>
    rw[F4]at ht;have:=h2 t ch ht
    rwa [show j+1+t=j+(t+1) by omega]at this
  .intro h;refine⟨h 0 x rfl,fun t ch ht=>?_⟩;have:=h (t+1) ch (by rw[F4];exact ht)
   rwa [show j+(t+1)=j+1+t by omega]at this
theorem SJ{p:AI}{sz:List Int}{s:BM}: ∀{l:List Ao} {i:Nat},s.bi.drop i=l→i≤s.bi.length→
 (Br p (BQ p sz) s i (Gb p (s.bi.take i)).1 (Gb p (s.bi.take i)).2 l=true↔Gb p s.bi=(s.am.length,s.ac.length)∧ ∀(k:Nat) g,i≤k→s.bi[k]? =some g→ ∃d,p.def? g.eq=some d∧JG p (BQ p sz) s k (Gb p (s.bi.take k)).1 (Gb p (s.bi.take k)).2 g d=true)
 |[],i,hd,hi=>by
  have hil:s.bi.length≤i:=by
   have:=congrArg List.length hd;simp at this;omega
  rw[Br,AP,Ap,Ap,DL hil];constructor
  .rintro⟨h1,h2⟩;exact⟨by rw[←h1,←h2],fun k g hk hg=>by have:=AH hg;omega⟩
  .rintro⟨h,_⟩;rw[h];exact⟨rfl,rfl⟩
 |g::l,i,hd,hi=>by
  have hg:s.bi[i]? =some g:=by
   have:=congrArg (fun l=>l[0]?) hd;simpa using this
  have hil:=AH hg;have hd2:s.bi.drop (i+1)=l:=by
   rw[AO hg]at hd;exact(Rg hd).2
  rw[Br];cases hdf:p.def? g.eq with
  |none=>
   simp only[AM,false_iff];rintro⟨_,h⟩;obtain⟨d,h1,_⟩:=h i g (EL _) hg;rw[hdf]at h1;cases h1
  |some d=>
   have ih:=SJ (p:=p) (sz:=sz) (s:=s) hd2 hil;rw[VF hg hdf]at ih;simp only[AP,ih];constructor
   .rintro⟨h1,h2,h3⟩;refine⟨h2,fun k g2 hk hg2=>?_⟩;by_cases hki:k=i
    .subst hki;rw[hg]at hg2;cases hg2;exact⟨d,hdf,h1⟩
    .exact h3 k g2 (by omega) hg2
   .rintro⟨h1,h2⟩;obtain⟨d2,h3,h4⟩:=h2 i g (EL _) hg;rw[hdf]at h3;cases h3;exact⟨h4,h1,fun k g2 hk hg2=>h2 k g2 (by omega) hg2⟩
variable{j:Nat}{ch:Hb}
theorem Mg{p:AI}{s:BM}{i:Nat}{g:Ao}{d:Bq}{q:GR}(hg:s.bi[i]? =some g)(hd:p.def? g.eq=some d)(hc:d.am[j]? =some ch)(h1:q.group=i)(h2:q.index=j):EE p s q=ch.many:=by
 have hd2:p.defs[g.eq.toNat]? =some d:=by
  rw[AI.def?]at hd;split at hd
  .exact hd
  .cases hd
 simp[EE,h1,h2,hg,hd2,hc]
theorem Fv{p:AI}{n:Int}{d:Bq}(h:p.def? n=some d):0≤n∧p.defs[n.toNat]? =some d:=by
 rw[AI.def?]at h;split at h
 .exact⟨by assumption,h⟩
 .cases h
theorem gZ{p:AI}{sz:List Int}{s:BM}(hg: ∀(i:Nat) g,s.bi[i]? =some g→ ∃d,M7 p sz s i g d): ∀(n:Nat),n≤s.bi.length→ ∀c,c<(Gb p (s.bi.take n)).1→ ∃i g d j ch,i<n∧s.bi[i]? =some g∧M7 p sz s i g d∧d.am[j]? =some ch∧c=(Gb p (s.bi.take i)).1+j
 |0,_,c,h=>by simp[Gb]at h
 |n+1,hn,c,h=>by
  obtain⟨g,hgn⟩:=get_some (l:=s.bi) (i:=n) (by omega);obtain⟨d,hd⟩:=hg n g hgn;rw[VF hgn hd.eq]at h;by_cases hc:c<(Gb p (s.bi.take n)).1
  .obtain⟨i,g,d,j,ch,h1,h2⟩:=gZ hg n (by omega) c hc;exact⟨i,g,d,j,ch,by omega,h2⟩
  .obtain⟨ch,hch⟩:=get_some (l:=d.am) (i:=c-(Gb p (s.bi.take n)).1) (by dsimp only at h;omega);exact⟨n,g,d,_,ch,by omega,hgn,hd,hch,by omega⟩
structure ABd(p:AI)(sz:List Int)(s:BM)(c:Nat)(q:GR)(i j:Nat)(g:Ao)(d:Bq)(ch:Hb):Prop where
 grp:s.bi[i]? =some g
 st:M7 p sz s i g d
 cha:d.am[j]? =some ch
 at_:c=(Gb p (s.bi.take i)).1+j
 group:q.group=i
 index:q.index=j
 place:q.at_=g.place d ch.at_
theorem E6.chn{p:AI}{sz:List Int}{s:BM}(hg: ∀(i:Nat) g,s.bi[i]? =some g→ ∃d,M7 p sz s i g d)(ht:Gb p s.bi=(s.am.length,s.ac.length)){c:Nat}{q:GR}(hq:s.am[c]? =some q): ∃i j g d ch,ABd p sz s c q i j g d ch:=by
 obtain⟨i,g,d,j,ch,h1,h2,h3,h4,h5⟩:=gZ hg s.bi.length (EL _) c (by rw[Em,ht];exact AH hq);obtain⟨q2,h6,h7,h8,h9⟩:=h3.am j ch h4;rw[←h5,hq]at h6;cases h6;exact⟨i,j,g,d,ch,h2,h3,h4,h5,h7,h8,h9⟩
theorem ADt{p:AI}{sz:List Int}{s:BM}(h:DG p sz s=true):E6 p sz s:=by
 simp only[DG,AP]at h;obtain⟨h1,h2,h3,h4,h5⟩:=h;have h4:=(SJ (p:=p) (sz:=sz) (s:=s) (l:=s.bi) (i:=0) rfl (by omega)).1 h4;have key: ∀(i:Nat) g,s.bi[i]? =some g→ ∃d,M7 p sz s i g d∧ ∀(j:Nat) ch,d.am[j]? =some ch→ ∃q,s.am[(Gb p (s.bi.take i)).1+j]? =some q∧M9 p s d g i j q ch=true:=by
  intro i g hi;obtain⟨d,hd,hok⟩:=h4.2 i g (by omega) hi;simp only[JG,AP,Ap]at hok;obtain⟨g1,g2,g3,g4,g5⟩:=hok;have g5:=NM.1 g5;have key: ∀(j:Nat) ch,d.am[j]? =some ch→ ∃q,s.am[(Gb p (s.bi.take i)).1+j]? =some q∧M9 p s d g i j q ch=true:=by
   intro j ch hj;have:=g5 j ch hj;rw[I5,KB]at this;split at this
   .rename_i q hq;exact⟨q,hq,this⟩
   .cases this
  refine⟨d,⟨hd,g1,g2,g3,g4,fun j ch hj=>?_⟩,key⟩;obtain⟨q,hq,hok⟩:=key j ch hj;simp only[M9,AP,Ap]at hok;exact⟨q,hq,hok.1,hok.2.1,hok.2.2.1⟩
 have hgrp: ∀(i:Nat) g,s.bi[i]? =some g→ ∃d,M7 p sz s i g d:=fun i g hi=>by
  obtain⟨d,hd,_⟩:=key i g hi;exact⟨d,hd⟩
 refine⟨h1,PH h2,fun i x hi hx=>Ry.1 h3 x ?_,hgrp,h4.1,fun c q hq=>?_,Ci.1 h5⟩
 .rw[ON];exact⟨i-1,by rw[HE,show 1+(i-1)=i by omega];exact hx⟩
 .obtain⟨i,j,g,d,ch,hc⟩:=E6.chn hgrp h4.1 hq;obtain⟨d2,hd2,hk⟩:=key i g hc.grp;have:=hd2.eq;rw[hc.st.eq]at this;cases this;obtain⟨q2,hq2,hok⟩:=hk j ch hc.cha;rw[←hc.at_,hq]at hq2;cases hq2;simp only[M9,AP,Ap,I2,Gs,Ci]at hok;exact⟨hok.2.2.2.1,hok.2.2.2.2.1,fun m hm=>by rw[Mg hc.grp hc.st.eq hc.cha hc.group hc.index];exact hok.2.2.2.2.2 m hm⟩
theorem fg{p:AI}{sz:List Int}{s:BM}(h:E6 p sz s):DG p sz s=true:=by
 simp only[DG,AP];refine⟨h.small,wq h.tree,Ry.2 fun x hx=>?_,(SJ (p:=p) (sz:=sz) (s:=s) (l:=s.bi) (i:=0) rfl (by omega)).2 ⟨h.tot,fun i g hi hg=>?_⟩,Ci.2 h.wait⟩
 .obtain⟨i,hi⟩:=IF hx;rw[HE]at hi;exact h.dead _ x (by omega) hi
 .obtain⟨d,hd⟩:=h.grp i g hg;refine⟨d,hd.eq,?_⟩;simp only[JG,AP,Ap];refine⟨hd.at_,hd.len,hd.jp,hd.wn,NM.2 fun j ch hj=>?_⟩;obtain⟨q,hq,q1,q2,q3⟩:=hd.am j ch hj;have hqo:=h.que _ q hq;rw[I5,KB,hq];simp only[M9,AP,Ap,I2,Gs,Ci];exact⟨q1,q2,q3,hqo.len,hqo.dead,fun m hm=>by rw[←Mg hg hd.eq hj q1 q2];exact hqo.msgs m hm⟩
structure XF(s s':BM):Prop where
 sp: ∀(i:Nat) x,s.ac[i]? =some x→s'.ac[i]? =some x
 gr: ∀(i:Nat) g,s.bi[i]? =some g→s'.bi[i]? =some g
 ch: ∀(c:Nat) q,s.am[c]? =some q→ ∃l,s'.am[c]? =some {q with queue:=q.queue++l}
theorem Hj(s:BM):XF s s:=⟨fun _ _ h=>h,fun _ _ h=>h,fun c q h=>⟨[],by simpa using h⟩⟩
theorem jx{a b c:BM}(h1:XF a b)(h2:XF b c):XF a c:=by
 refine⟨fun i x h=>h2.sp i x (h1.sp i x h),fun i x h=>h2.gr i x (h1.gr i x h),fun i q h=>?_⟩;obtain⟨l,h3⟩:=h1.ch i q h;obtain⟨l2,h4⟩:=h2.ch i _ h3;exact⟨l++l2,by rw[h4];simp⟩
theorem Uy{β:Type}{a:List α}{b:List β}(h: ∀(i:Nat) x,a[i]? =some x→ ∃y,b[i]? =some y):a.length≤b.length:=by
 by_cases h0:a.length=0
 .omega
 .obtain⟨x,hx⟩:=get_some (l:=a) (i:=a.length-1) (by omega);obtain⟨y,hy⟩:=h _ x hx;have:=AH hy;omega
variable{s':BM}
theorem XF.ns{s:BM}(h:XF s s'):s.ac.length≤s'.ac.length:=Uy fun i x hx=>⟨_,h.sp i x hx⟩
theorem XF.nc{s:BM}(h:XF s s'):s.am.length≤s'.am.length:=Uy fun i x hx=>by obtain⟨l,hl⟩:=h.ch i x hx;exact⟨_,hl⟩
variable{nc' ns':Nat}
theorem tG{p:AI}{nc ns:Nat}{v:CT}(h1:nc≤nc')(h2:ns≤ns')(h:v.inB p nc ns=true):v.inB p nc' ns'=true:=by
 unfold CT.inB at*;split
 .rename_i hk;simpa[hk]using h
 .rename_i hk1;rw[CS hk1]at h;split
  .rename_i hk;simpa[hk]using h
  .rename_i hk2;rw[CS hk2]at h;split
   .rename_i hk;rw[DO hk]at h;simp only[AP,Ap]at*;omega
   .rename_i hk3;rw[CS hk3]at h;split
    .rename_i hk;rw[DO hk]at h;simp only[AP,Ap]at*;omega
    .rename_i hk4;rw[CS hk4]at h;exact h
theorem Gi{p:AI}{nc ns:Nat}{l:List CT}(h1:nc≤nc')(h2:ns≤ns')(h:l.all (CT.inB p nc ns)=true):l.all (CT.inB p nc' ns')=true:=by
 rw[Ci]at*;exact fun v hv=>tG h1 h2 (h v hv)
theorem Hn{l l':List BL}{i:Int}(h:l.length≤l'.length)(hi:Dd l i):Dd l' i:=⟨hi.1,by have:=hi.2;omega⟩
theorem Ix{s:BM}(h:XF s s'){i:Int}(hi:Dd s.ac i):AW s'.ac i=AW s.ac i:=by
 obtain⟨x,hx⟩:=get_some (l:=s.ac) (i:=i.toNat) (by have:=hi.1;have:=hi.2;omega);rw[AW,AW,h.sp _ _ hx,hx]
theorem p6{p:AI}{nc ns:Nat}{env:List CT}(he:env.all (CT.inB p nc ns)=true)(x:BS)(hf:x.formed env.length=true):(x.value env).inB p nc ns=true:=by
 obtain⟨op,n,kids⟩:=x;by_cases h1:op=1
 .subst h1;rw[VZ];rcases kids with _|⟨a,_|⟨b,_|⟨c,l⟩⟩⟩<;>simp[BS.formed]at hf;simp[CT.inB,hf]
 by_cases h2:op=2
 .subst h2;rw[TA];obtain⟨hn,hl⟩:=QN hf;obtain⟨v,hv⟩:=get_some (l:=env) (i:=n.toNat) (by omega);rw[hv];exact Ci.1 he v (Ac hv)
 obtain⟨h3,h4,h5,a,b,rfl,hfa,hfb⟩:=SC hf h1 h2;rw[VY env op n a b h1 h2];generalize opV op (dU (a.value env)) (dU (b.value env))=k;have: -1000000000≤PW k∧PW k≤1000000000:=by unfold PW;omega
 simp[CT.inB,this]
theorem ff{p:AI}{sz:List Int}{s:BM}(h:E6 p sz s)(hl:l.length=s.am.length)(hq: ∀(c:Nat) q,s.am[c]? =some q→ ∃m,l[c]? =some {q with queue:=m}∧QOk p s {q with queue:=m}):E6 p sz {s with am:=l}:=by
 have hsm:=h.small;simp only[BM.small,AP,Ap]at hsm;refine⟨by simp only[BM.small,AP,Ap];omega,h.tree,h.dead,fun i g hg=>?_,by rw[hl];exact h.tot,fun c q hc=>?_,fun w hw=>?_⟩
 .obtain⟨d,hd⟩:=h.grp i g hg;refine⟨d,hd.eq,hd.at_,hd.len,by rw[hl];exact hd.jp,hd.wn,fun j ch hj=>?_⟩;obtain⟨q,h1,h2⟩:=hd.am j ch hj;obtain⟨m,h3,_⟩:=hq _ q h1;exact⟨_,h3,h2⟩
 .obtain⟨q0,h0⟩:=get_some (l:=s.am) (i:=c) (by rw[←hl];exact AH hc);obtain⟨m,h3,h4⟩:=hq c q0 h0;rw[h3]at hc;cases hc;exact⟨h4.len,h4.dead,fun m hm=>by rw[hl];exact h4.msgs m hm⟩
 .have:=h.wait w hw;simpa only[Bz,hl]using this
theorem VS{p:AI}{sz:List Int}{s:BM}(h:E6 p sz s){c:Nat}{q:GR}(hq:s.am[c]? =some q){l:List (List CT)}(hl:QOk p s {q with queue:=l}):E6 p sz {s with am:=s.am.set c {q with queue:=l}}:=by
 refine ff h (by simp) fun c2 q2 h2=>?_;rw[HW];by_cases e:c=c2
 .subst e;rw[hq]at h2;cases h2;rw[DO rfl,DO (AH hq)];exact⟨l,rfl,hl⟩
 .rw[CS e];exact⟨q2.queue,h2,h.que c2 q2 h2⟩
theorem jw{s:BM}{c:Nat}{q:GR}(hq:s.am[c]? =some q)(l:List (List CT)):XF s {s with am:=s.am.set c {q with queue:=q.queue++l}}:=by
 refine⟨fun _ _ h=>h,fun _ _ h=>h,fun c2 q2 h2=>?_⟩;dsimp only;rw[HW];by_cases e:c=c2
 .subst e;rw[hq]at h2;cases h2;rw[DO rfl,DO (AH hq)];exact⟨l,rfl⟩
 .rw[CS e];exact⟨[],by simpa using h2⟩
theorem Mx{p:AI}{sz:List Int}{s:BM}(h:E6 p sz s){l:List GI}(hl:l.length≤40)(hw: ∀w∈l,Bz p sz s w=true):E6 p sz {s with waits:=l}:=by
 have hsm:=h.small;simp only[BM.small,AP,Ap]at hsm;exact⟨by simp only[BM.small,AP,Ap];omega,h.tree,h.dead,fun i g hg=>by obtain⟨d,hd⟩:=h.grp i g hg;exact⟨d,hd.eq,hd.at_,hd.len,hd.jp,hd.wn,hd.am⟩,h.tot,fun c q hc=>by have:=h.que c q hc;exact⟨this.len,this.dead,this.msgs⟩,hw⟩
structure Cl(p:AI)(sz:List Int)(s:BM)(j:Ga):Prop where
 n0:0≤j.node
 size:sz[j.node.toNat]? =some (j.env.length:Int)
 at_:Dd s.ac j.at_
 live:AW s.ac j.at_=false
 jp:j.env.all (CT.inB p s.am.length s.ac.length)=true
theorem Q0{p:AI}{sz:List Int}{s:BM}{j:Ga}(h:Cl p sz s j)(he:XF s s'):Cl p sz s' j:=⟨h.n0,h.size,Hn he.ns h.at_,by rw[Ix he h.at_];exact h.live,Gi he.nc he.ns h.jp⟩
theorem KM{p:AI}{sz:List Int}{s:BM}{j:Ga}(hF:BD p sz)(h:Cl p sz s j): ∃x l,p.nodes[j.node.toNat]? =some x∧Cc p j.env.length x=true∧IA p j.env.length x=some l∧(∀q∈l,0≤q.1∧sz[q.1.toNat]? =some q.2)∧j.env.length≤5000:=by
 have hl:=AH h.size;rw[hF.len]at hl;obtain⟨x,hx⟩:=get_some hl;obtain⟨s0,l,h1,h2,h3,h4,h5,h6⟩:=hF.node _ x hx;rw[h.size]at h1;cases h1;exact⟨x,l,hx,h4,h5,h6,by omega⟩
theorem Pj{p:AI}{sz:List Int}{s:BM}{j:Ga}{x:Cq}{l:List (Int×Int)}(h:Cl p sz s j)(ho: ¬x.op=4)(hl:IA p j.env.length x=some l)(hq: ∀q∈l,0≤q.1∧sz[q.1.toNat]? =some q.2)(k:Nat): ∀j'∈Bj x k j.at_ j.env,Cl p sz s j':=by
 intro j' hj';rw[Bj]at hj';split at hj'
 .rename_i n hn;rw[IA,CS ho]at hl;cases hl;have:=hq (n,j.env.length) (by simp only[B9,F0];exact⟨n,Ac hn,rfl⟩);rw[As]at hj';subst hj';exact⟨this.1,this.2,h.at_,h.live,h.jp⟩
 .cases hj'
theorem iK{l:List BL}{i:Int}(hi:Dd l i):BF (l++m) i=BF l i:=by
 have:=hi.1;have:=hi.2;rw[BF,BF,Be (by omega)]
theorem PX{l:List BL}: ∀{k:Nat} {i:Int},Dd l i→A7 l k i=true→A7 (l++m) k i=true
 |0,i,hi,h=>h
 |k+1,i,hi,h=>by
  rw[A7]at h⊢;by_cases h0:i=0
  .simp[h0]
  .simp only[h0,decide_false,Ii,AP,Ap]at h⊢;rw[iK hi];exact⟨Hn (by simp) h.1,PX h.1 h.2⟩
theorem K1: ∀{l:List M6} {i:Nat},C6 i l=true→ ∀(t:Nat) y,l[t]? =some y→0≤y.of∧y.of≤((i+t:Nat):Int)
 |x::l,i,h,t,y,ht=>by
  rw[C6,AP,AP,Ap,Ap]at h;cases t with
  |zero=>
   simp only[Ex,Bv]at ht;subst ht;exact⟨h.1,by simpa using h.2.1⟩
  |succ t=>
   rw[F4]at ht;have:=K1 h.2.2 t y ht
   rwa [show i+1+t=i+(t+1) by omega]at this
theorem Gx(d:Bq)(g:Ao)(i:Nat): ∀(l:List Hb) (k:Nat),(FG d g i k l).length=l.length
 |[],k=>rfl
 |c::l,k=>by simp[FG,Gx d g i l (k+1)]
theorem Jl(d:Bq)(g:Ao)(i:Nat): ∀(l:List Hb) (k t:Nat),(FG d g i k l)[t]? =(l[t]?).map fun c=>(⟨(i:Int),((k+t:Nat):Int),g.place d c.at_,[]⟩:GR)
 |[],k,t=>by simp[FG]
 |c::l,k,0=>by simp[FG]
 |c::l,k,t+1=>by
  rw[FG,F4,F4,Jl d g i l (k+1) t];congr 1;funext c;rw[show k+1+t=k+(t+1) by omega]
theorem PF{d:Bq}{g:Ao}: ∀{l:List M6} {k:Nat} {j:Ga},j∈Dc d g k l→ ∃(t:Nat) (y:M6),l[t]? =some y∧j=⟨y.node,g.place d ((k+t:Nat)+1),g.env⟩
 |[],k,j,h=>by cases h
 |y::l,k,j,h=>by
  rw[Dc]at h;rcases Ce.1 h with rfl|h
  .exact⟨0,y,rfl,rfl⟩
  .obtain⟨t,y,h1,h2⟩:=PF h;exact⟨t+1,y,by rw[F4];exact h1,by rw[h2,show k+1+t=k+(t+1) by omega]⟩
structure Fh(p:AI)(sz:List Int)(s:BM)(j:Ga)(x:Cq)(d:Bq):Prop where
 rc:E6 p sz s
 job:Cl p sz s j
 node:p.nodes[j.node.toNat]? =some x
 op:x.op=4
 n0:0≤x.n
 eq:p.defs[x.n.toNat]? =some d
 ok:N2 d
 grp:((BQ p sz)[x.n.toNat]?)=some ((j.env.length:Int)+d.own)
 rules: ∀r∈d.rules,0≤r.node∧sz[r.node.toNat]? =some ((j.env.length:Int)+d.own+CH d r.d8)
 ac: ∀y∈d.ac,0≤y.node∧sz[y.node.toNat]? =some ((j.env.length:Int)+d.own)
 kid: ∃k,x.kids=[k]∧0≤k∧sz[k.toNat]? =some ((j.env.length:Int)+d.own)
theorem rb{p:AI}{sz:List Int}{s:BM}{j:Ga}{x:Cq}(hF:BD p sz)(hs:E6 p sz s)(hj:Cl p sz s j)(hx:p.nodes[j.node.toNat]? =some x)(ho:x.op=4): ∃d,Fh p sz s j x d:=by
 obtain⟨n1,n2,_⟩:=LY hF hx ho;obtain⟨d,hd⟩:=get_some (l:=p.defs) (i:=x.n.toNat) (by omega);have hdf:=CD hF hd;obtain⟨i,x2,s0,h1,h2,h3,h4,h5,h6,h7,h8,h9,k,h10,h11,h12⟩:=hdf.node;have hij:i=j.node.toNat:=by
  by_cases e:i=j.node.toNat
  .exact e
  .exact absurd h3 (hF.diff i j.node.toNat x2 x e h1 h2 hx ho)
 subst hij;rw[hx]at h1;cases h1;rw[hj.size]at h4;cases h4;exact⟨d,hs,hj,hx,ho,n1,hd,hdf.ok,h7,h8,h9,k,h10,h11,h12⟩
theorem MZ{p:AI}{sz:List Int}{s:BM}{i:Nat}{g:Ao}{d:Bq}(h:M7 p sz s i g d):d.own≤g.env.length:=by
 have hm:=h.wn;rw[C7,Ap]at hm;have:=congrArg List.length hm;rw[JJ,Io]at this;omega
theorem ga{p:AI}{sz:List Int}{s:BM}{c:Nat}{q:GR}{i:Nat}{g:Ao}{d:Bq}(hF:BD p sz)(hc:ABd p sz s c q i j g d ch):Dd s.ac q.at_:=by
 rw[hc.place];have hdf:=CD hF (Fv hc.st.eq).2;obtain⟨c1,c2,_⟩:=hdf.ok.chan ch (Ac hc.cha);exact O5 hc.st.wn (MZ hc.st) hc.st.at_ hc.st.jp c1 c2
theorem Xt{p:AI}{sz:List Int}{s:BM}(hF:BD p sz)(h:E6 p sz s){c:Nat}{q:GR}(hq:s.am[c]? =some q):gK p s q:=by
 obtain⟨i,j,g,d,ch,hc⟩:=E6.chn h.grp h.tot hq;obtain⟨d0,d1⟩:=Fv hc.st.eq;refine⟨ga hF hc,by rw[hc.group];omega,by rw[hc.index];omega,⟨g,d,ch,by rw[hc.group];exact hc.grp,d0,d1,by rw[hc.index];exact hc.cha⟩,(h.que c q hq).len⟩
section
variable{p:AI}{sz:List Int}{s:BM}{j:Ga}{x:Cq}{d:Bq}
theorem Fh.env(h:Fh p sz s j x d):(Ak s d x.n j).env.length=j.env.length+d.own:=by simp[Ak,JJ]
theorem Fh.wn(h:Fh p sz s j x d):C7 d s.am.length s.ac.length (Ak s d x.n j)=true:=by
 have e:j.env.length+d.own-d.am.length-d.ac.length=j.env.length:=by unfold Bq.own;omega
 rw[C7,Ap,h.env,e,Ak,List.drop_left]
theorem Fh.place(h:Fh p sz s j x d){n:Int}(h1:1≤n)(h2:n≤d.ac.length):(Ak s d x.n j).place d n=(s.ac.length:Int)+(n-1):=Sk h.wn (by rw[h.env];omega) h1 h2
theorem Sl(g:Ao)(d:Bq):g.place d 0=g.at_:=by simp[Ao.place]
theorem FP(d:Bq)(g:Ao)(l:List M6):(DC d g l).length=l.length:=by simp[DC]
theorem Fh.spot(h:Fh p sz s j x d){n:Int}(h1:0≤n)(h2:n≤d.ac.length):Dd (s.ac++DC d (Ak s d x.n j) d.ac) ((Ak s d x.n j).place d n)∧AW (s.ac++DC d (Ak s d x.n j) d.ac) ((Ak s d x.n j).place d n)=false:=by
 by_cases h0:n=0
 .subst h0;rw[Sl];have:=h.job.at_;refine⟨Hn (by simp) this,?_⟩;have hl:=h.job.live;have e:(Ak s d x.n j).at_=j.at_:=rfl;rw[e];rw[AW]at hl⊢;have a1:=this.1;have a2:=this.2;rw[Be (by omega)];exact hl
 .rw[h.place (by omega) h2];refine⟨⟨by omega,by simp[FP];omega⟩,?_⟩;rw[AW,CO (by omega),DC,D1];cases d.ac[((s.ac.length:Int)+(n-1)).toNat-s.ac.length]? <;>rfl
theorem Fh.jp(h:Fh p sz s j x d):(Ak s d x.n j).env.all (CT.inB p (s.am.length+d.am.length) (s.ac.length+d.ac.length))=true:=by
 rw[Ak,Ro,AP];refine⟨Gi (by omega) (by omega) h.job.jp,?_⟩;rw[Ef,Ro,AP];constructor
 .rw[Ci];intro v hv;obtain⟨i,hi,rfl⟩:=F0.1 hv;have:=List.mem_range'_1.1 hi;simp only[CT.inB,Int.reduceEq,F3,ES,AP,Ap];omega
 .rw[Ci];intro v hv;obtain⟨i,hi,rfl⟩:=F0.1 hv;have:=List.mem_range'_1.1 hi;simp only[CT.inB,Int.reduceEq,F3,ES,AP,Ap];omega
theorem Fh.tree(h:Fh p sz s j x d):GG (s.ac++DC d (Ak s d x.n j) d.ac):=by
 have hT:=h.rc.tree;refine⟨by simp;have:=hT.pos;omega,by rw[iK ⟨by omega,by have:=hT.pos;omega⟩];exact hT.top,fun i hi=>?_⟩;have key: ∀(n t:Nat),t<n→t<d.ac.length→ ∃k,A7 (s.ac++DC d (Ak s d x.n j) d.ac) k ((s.ac.length:Int)+t)=true:=by
  intro n;induction n with
  |zero=>intro t ht;omega
  |succ n ih=>
   intro t ht htd;obtain⟨y,hy⟩:=get_some htd;obtain⟨y0,y1⟩:=K1 h.ok.spot t y hy;have hpar:BF (s.ac++DC d (Ak s d x.n j) d.ac) ((s.ac.length:Int)+t)=(Ak s d x.n j).place d y.of:=by
    rw[BF,CO (by omega),DC,D1,show((s.ac.length:Int)+t).toNat-s.ac.length=t by omega,hy];rfl
   have hin:=(h.spot (n:=y.of) y0 (by omega)).1;have: ∃k,A7 (s.ac++DC d (Ak s d x.n j) d.ac) k ((Ak s d x.n j).place d y.of)=true:=by
    by_cases h0:y.of=0
    .rw[h0,Sl];exact⟨_,PX h.job.at_ (hT.pm _ h.job.at_)⟩
    .rw[h.place (by omega) (by omega)];have:=ih (y.of-1).toNat (by omega) (by omega)
     rwa [show(((y.of-1).toNat:Nat):Int)=y.of-1 by omega]at this
   obtain⟨k,hk⟩:=this;refine⟨k+1,?_⟩;rw[A7,hpar,hk,Co hin];simp
 by_cases hil:i<s.ac.length
 .have hi2:Dd s.ac i:=⟨hi.1,hil⟩;exact KC (by simp) (PX hi2 (hT.pm i hi2))
 .have hi1:=hi.1;have hi3:=hi.2;simp only[CI,FP]at hi3;obtain⟨k,hk⟩:=key d.ac.length (i-s.ac.length).toNat (by omega) (by omega);rw[show(s.ac.length:Int)+((i-s.ac.length).toNat:Nat)=i by omega]at hk;exact KC (by omega) (LU hi hk)
theorem Fh.ext(h:Fh p sz s j x d):XF s (CM s d (Ak s d x.n j)):=by
 refine⟨fun i y hy=>?_,fun i y hy=>?_,fun i y hy=>⟨[],?_⟩⟩
 .show(s.ac++_)[i]? =_;rw[Be (AH hy)];exact hy
 .show(s.bi++_)[i]? =_;rw[Be (AH hy)];exact hy
 .show(s.am++_)[i]? =_;rw[Be (AH hy)];simpa using hy
theorem uc{s s':BM}(he:XF s s'){q:GR}{i j:Nat}{g:Ao}{d:Bq}{ch:Hb}(hg:s.bi[i]? =some g)(hd:p.def? g.eq=some d)(hc:d.am[j]? =some ch)(h1:q.group=i)(h2:q.index=j):EE p s' q=EE p s q:=by
 rw[Mg hg hd hc h1 h2,Mg (he.gr i g hg) hd hc h1 h2]
theorem vT{l:List BL}(h:GG l){i:Nat}(h1:1≤i){y:BL}(hy:l[i]? =some y):Dd l y.of:=by
 have hil:=AH hy;have hc:=h.pm i ⟨by omega,by omega⟩;obtain⟨k,hk⟩: ∃k,l.length=k+1:=⟨l.length-1,by omega⟩;rw[hk]at hc;have:=(E9 (by omega) hc).1
 rwa [BF,show((i:Nat):Int).toNat=i from rfl,hy]at this
theorem vA{nc ns nc' ns':Nat}{n:Int}{m:List CT}(h1:nc≤nc')(h2:ns≤ns')(h:E3 p nc ns n m=true):E3 p nc' ns' n m=true:=by
 rw[E3,AP]at*;exact⟨h.1,Gi h1 h2 h.2⟩
theorem xH{s s':BM}(he:XF s s'){w:GI}(h:Bz p sz s w=true):Bz p sz s' w=true:=by
 simp only[Bz,AP,Ap,Gs]at*;obtain⟨h1,h2,h3,h4,h5,h6⟩:=h;exact⟨Hn he.ns h1,by rw[Ix he h1];exact h2,h3,h4,h5,Gi he.nc he.ns h6⟩
theorem Fh.sok'(hF:BD p sz)(h:Fh p sz s j x d)(hs:(CM s d (Ak s d x.n j)).am.length≤60∧(CM s d (Ak s d x.n j)).ac.length≤24∧(CM s d (Ak s d x.n j)).bi.length≤40):E6 p sz (CM s d (Ak s d x.n j)):=by
 have he:=h.ext;have hsm:=h.rc.small;simp only[BM.small,AP,Ap]at hsm;have hdx:p.def? x.n=some d:=by rw[AI.def?,DO h.n0];exact h.eq
 have hcl:(CM s d (Ak s d x.n j)).am.length=s.am.length+d.am.length:=by simp[CM,Gx]
 have hsl:(CM s d (Ak s d x.n j)).ac.length=s.ac.length+d.ac.length:=by simp[CM,FP]
 have htk: ∀i,i≤s.bi.length→(CM s d (Ak s d x.n j)).bi.take i=s.bi.take i:=fun i hi=>I1 hi;refine⟨?_,h.tree,fun i y hi hy=>?_,fun i g hg=>?_,?_,fun c q hq=>?_,fun w hw=>xH he (h.rc.wait w hw)⟩
 .simp only[BM.small,AP,Ap];exact⟨hs.2.1,hs.2.2,hs.1,hsm.2.2.2⟩
 .by_cases hil:i<s.ac.length
  .have hy2:s.ac[i]? =some y:=by
    have:(s.ac++DC d (Ak s d x.n j) d.ac)[i]? =some y:=hy
    rwa [Be hil]at this
   rw[Ix he (vT h.rc.tree hi hy2)];exact h.rc.dead i y hi hy2
  .right;have:(s.ac++DC d (Ak s d x.n j) d.ac)[i]? =some y:=hy;rw[CO (by omega),DC,D1]at this;cases hz:d.ac[i-s.ac.length]? with
   |none=>rw[hz]at this;cases this
   |some z=>
    rw[hz]at this;cases this;obtain⟨z0,z1⟩:=K1 h.ok.spot _ z hz;have:=AH hz;exact(h.spot (n:=z.of) z0 (by omega)).2
 .by_cases hil:i<s.bi.length
  .have hg2:s.bi[i]? =some g:=by
    have:(s.bi++[Ak s d x.n j])[i]? =some g:=hg
    rwa [Be hil]at this
   obtain⟨d2,hd2⟩:=h.rc.grp i g hg2;refine⟨d2,hd2.eq,Hn he.ns hd2.at_,hd2.len,Gi he.nc he.ns hd2.jp,by rw[htk i (by omega)];exact hd2.wn,fun k ch hk=>?_⟩;obtain⟨q,h1,h2,h3,h4⟩:=hd2.am k ch hk;obtain⟨l,hl⟩:=he.ch _ q h1;rw[htk i (by omega)];exact⟨_,hl,h2,h3,h4⟩
  .have hg2:(s.bi++[Ak s d x.n j])[i]? =some g:=hg;have hlt:=AH hg2;rw[CI,II]at hlt;obtain rfl:i=s.bi.length:=by omega
   rw[CO (by omega)]at hg2;simp only[MD,Ex,Bv]at hg2;subst hg2;have e1:(Gb p ((CM s d (Ak s d x.n j)).bi.take s.bi.length))=(s.am.length,s.ac.length):=by rw[htk _ (by omega),Em,h.rc.tot]
   refine⟨d,hdx,Hn he.ns h.job.at_,?_,by rw[hcl,hsl];exact h.jp,by rw[e1];exact h.wn,fun k ch hk=>?_⟩
   .have:=h.grp;rw[show(Ak s d x.n j).eq=x.n from rfl,this,h.env];simp
   .rw[e1];refine⟨⟨s.bi.length,k,(Ak s d x.n j).place d ch.at_,[]⟩,?_,rfl,rfl,rfl⟩;show(s.am++FG d (Ak s d x.n j) s.bi.length 0 d.am)[s.am.length+k]? =_;rw[CO (by omega),Jl,show s.am.length+k-s.am.length=k by omega,hk];simp
 .show Gb p (s.bi++[Ak s d x.n j])=_;rw[VE p _ _ (d:=d) hdx,h.rc.tot,hcl,hsl]
 .have hq2:(s.am++FG d (Ak s d x.n j) s.bi.length 0 d.am)[c]? =some q:=hq;by_cases hil:c<s.am.length
  .rw[Be hil]at hq2;have hqo:=h.rc.que c q hq2;obtain⟨i,k,g,d2,ch,hc⟩:=E6.chn h.rc.grp h.rc.tot hq2;have hin:Dd s.ac q.at_:=ga hF hc;exact⟨hqo.len,by rw[Ix he hin];exact hqo.dead,fun m hm=>by rw[uc he hc.grp hc.st.eq hc.cha hc.group hc.index];exact vA he.nc he.ns (hqo.msgs m hm)⟩
  .rw[CO (by omega),Jl]at hq2;cases hz:d.am[c-s.am.length]? with
   |none=>rw[hz]at hq2;cases hq2
   |some z=>
    rw[hz]at hq2;cases hq2;exact⟨by simp,.inl rfl,fun m hm=>by cases hm⟩
end
abbrev pA(p:AI):AV:=.agg [.d (.be (p.free.map Av)),.d (.be (p.nodes.map Ad)),.d (.be (p.defs.map Ax)),.d (.int .i64 p.main)]
abbrev sA(s:BM):AV:=.agg [.d (.be (s.ac.map Aa)),.d (.be (s.bi.map An)),.d (.be (s.am.map Bc)),.d (.be (s.waits.map AU))]
structure RM(p:AI)(sz:List Int)(s:BM)(w:GI)(x:Cq):Prop where
 n0:0≤w.node
 node:p.nodes[w.node.toNat]? =some x
 op:x.op=6∨x.op=7∨x.op=8
 at_:Dd s.ac w.at_
 live:AW s.ac w.at_=false
 size:sz[w.node.toNat]? =some (w.env.length:Int)
 len:w.env.length≤5000
 n: ¬x.op=7→0≤x.n∧x.n<w.env.length
 jp:w.env.all (CT.inB p s.am.length s.ac.length)=true
variable{w:GI}
theorem PK{p:AI}{sz:List Int}{s:BM}(hF:BD p sz)(h:Bz p sz s w=true): ∃x,RM p sz s w x:=by
 simp only[Bz,AP,Ap,Gs]at h;obtain⟨h1,h2,h3,h4,h5,h6⟩:=h;cases hx:p.nodes[w.node.toNat]? with
 |none=>rw[hx]at h4;cases h4
 |some x=>
  rw[hx]at h4;simp only[DS,I2,Ap]at h4;obtain⟨v,l,h7,h8,h9,h10,_⟩:=hF.node _ x hx;rw[h7]at h5;have h5:(w.env.length:Int)=v:=h5;rw[←h5]at h7 h8 h9 h10;refine⟨x,h3,hx,h4,h1,h2,h7,by omega,fun ho=>?_,h6⟩;simp only[Cc,AP]at h10;have h11:=h10.2.1;rw[Wo,DO (by omega)]at h11;exact of_decide_eq_true h11
theorem RM.val{p:AI}{sz:List Int}{s:BM}{x:Cq}(h:RM p sz s w x)(ho: ¬x.op=7): ∃v,w.env[x.n.toNat]? =some v∧IE w.env x.n=v∧(v.kind=4→Dd s.ac v.n∧ ∃y,s.ac[v.n.toNat]? =some y∧AW s.ac v.n=y.dead):=by
 have:=h.n ho;obtain⟨v,hv⟩:=get_some (l:=w.env) (i:=x.n.toNat) (by omega);refine⟨v,hv,by rw[IE,hv];rfl,fun hk=>?_⟩;have hb:=Ci.1 h.jp v (Ac hv);simp only[CT.inB,hk,Int.reduceEq,F3,ES,AP,Ap]at hb;obtain⟨y,hy⟩:=get_some (l:=s.ac) (i:=v.n.toNat) (by omega);exact⟨hb,y,hy,by simp[AW,hy]⟩
structure qZ(p:AI)(sz:List Int)(s:BM)(g:Ao)(d:Bq)(r:Fi):Prop where
 at0:0≤r.at_
 at1:r.at_≤d.ac.length
 place:Dd s.ac (g.place d r.at_)
 j0:0<r.d8.length
 j1:r.d8.length≤3
 join: ∀c∈r.d8,0≤c∧c<d.am.length∧0≤g.own d true c∧ ∃q,s.am[(g.own d true c).toNat]? =some q∧q.queue.length≤12∧Tl s (g.own d true c)=q.queue.length
theorem Y1{d:Bq}{r:Fi}: ∀{l:List Int} {i:Nat},joinsOk d r i l=true→ ∀c∈l,0≤c∧c<d.am.length
 |[],_,_,c,hc=>by simp at hc
 |x::l,i,h,c,hc=>by
  rw[joinsOk]at h;simp only[GJ,AP,Ap]at h;rcases Ce.1 hc with rfl|hc
  .exact⟨h.1.1,h.1.2.1⟩
  .exact Y1 h.2 c hc
theorem Q6{p:AI}{sz:List Int}{s:BM}{i:Nat}{g:Ao}{d:Bq}{r:Fi}(hF:BD p sz)(hs:E6 p sz s)(hg:s.bi[i]? =some g)(hd:M7 p sz s i g d)(hr:r∈d.rules):qZ p sz s g d r:=by
 have ho:=(CD hF (Fv hd.eq).2).ok;have hr1:=ho.ut r hr;simp only[BX,AP,Ap]at hr1;obtain⟨⟨h1,h2⟩,h3,h4,h5⟩:=hr1;refine⟨h1,h2,O5 hd.wn (MZ hd) hd.at_ hd.jp h1 h2,h3,h4,fun c hc=>?_⟩;obtain⟨c0,c1⟩:=Y1 h5 c hc;obtain⟨ch,hch⟩:=get_some (l:=d.am) (i:=c.toNat) (by omega);obtain⟨q,hq,_⟩:=hd.am _ ch hch;have ho:=Lz hd.wn c0 c1;have:(g.own d true c).toNat=(Gb p (s.bi.take i)).1+c.toNat:=by omega
 refine⟨c0,c1,by omega,q,by rw[this];exact hq,(hs.que _ q hq).len,by rw[Tl,this,hq];rfl⟩
theorem Zr{l:List Nat}(h:0∈l):Ds l=[]:=by
 induction l with
 |nil=>simp at h
 |cons n l ih=>
  rw[Ds];rcases Ce.1 h with h|h
  .subst h;rfl
  .simp[ih h]
theorem Cr{α β:Type}{f:α→List β}{n:Nat}: ∀{l:List α},(∀x∈l,(f x).length≤n)→(l.flatMap f).length≤l.length*n
 |[],_=>by simp
 |x::l,h=>by
  have h1:=h x (by simp);have h2:=Cr (f:=f) (n:=n) (l:=l) fun y hy=>h y (by simp[hy]);rw[D2,CI,List.length_cons,Rt];omega
theorem Zs: ∀{l:List Nat},(∀n∈l,n≤12)→(Ds l).length≤12 ^ l.length
 |[],_=>by simp[Ds]
 |n::l,h=>by
  have h1:=h n (by simp);have h2:=Zs (l:=l) fun y hy=>h y (by simp[hy]);rw[Ds,List.length_cons,Nat.pow_succ];have h3:=Cr (l:=List.range n) (f:=fun(i:Nat)=>(Ds l).map fun t=>(i:Int)::t) (n:=12 ^ l.length) fun x hx=>by simpa using h2
  rw[List.length_range]at h3;have h4:n*12 ^ l.length≤12*12 ^ l.length:=HM _ h1;omega
theorem wC{p:AI}{sz:List Int}{s:BM}{g:Ao}{d:Bq}{r:Fi}(h:qZ p sz s g d r):(Ev s d g r).length≤1728:=by
 rw[Ev];split
 .simp
 .have h1:=Zs (l:=B7 s d g r) fun n hn=>by
   rw[B7]at hn;obtain⟨c,hc,rfl⟩:=F0.1 hn;obtain⟨_,_,_,q,_,h2,h3⟩:=h.join c hc;omega
  have h2:(B7 s d g r).length≤3:=by rw[B7,BI];exact h.j1
  have h3:12 ^ (B7 s d g r).length≤12 ^ 3:=Nat.pow_le_pow_right (by omega) h2;omega
theorem VO{s:BM}{d:Bq}{g:Ao}{i:Nat}: ∀{l:List Fi} (k:Nat),(∀r∈l,(Ev s d g r).length≤1728)→(CV s d g i k l).length≤l.length*1728
 |[],k,_=>by simp[CV]
 |r::l,k,h=>by
  have h1:=h r (by simp);have h2:=VO (s:=s) (d:=d) (g:=g) (i:=i) (l:=l) (k+1) fun y hy=>h y (by simp[hy]);rw[CV,CI,BI,List.length_cons];omega
theorem TE(p:AI)(s:BM): ∀(l:List GI) (i:Nat),(Dp p s i l).length≤l.length
 |[],i=>by simp[Dp]
 |w::l,i=>by
  have:=TE p s l (i+1);rw[Dp,CI,List.length_cons];split<;>simp<;>omega
theorem Yp{p:AI}{sz:List Int}{s:BM}(hF:BD p sz)(hs:E6 p sz s): ∀(l:List Ao) (i:Nat),s.bi.drop i=l→(DY p s i l).length≤l.length*51840
 |[],i,_=>by simp[DY]
 |g::l,i,h=>by
  have hg:s.bi[i]? =some g:=by
   have:=congrArg (fun l=>l[0]?) h;simpa using this
  have h2:=Yp hF hs l (i+1) (by rw[AO hg]at h;exact(Rg h).2);obtain⟨d,hd⟩:=hs.grp i g hg;rw[DY,CI,List.length_cons,hd.eq];have h3:=VO (s:=s) (d:=d) (g:=g) (i:=i) (l:=d.rules) 0 fun r hr=>wC (Q6 hF hs hg hd hr);have h4:=(CD hF (Fv hd.eq).2).ok.rules;dsimp only;omega
theorem VW{p:AI}{sz:List Int}{s:BM}(hF:BD p sz)(hs:E6 p sz s):(Cz p s).length≤3000000:=by
 have hsm:=hs.small;simp only[BM.small,AP,Ap]at hsm;have h1:=TE p s s.waits 0;have h2:=Yp hF hs s.bi 0 rfl;rw[Cz,CI];omega
def K0(op:Int):Int×Int×Bool:=
 if op=1 then(0,0,true)else if op=7 then(0,0,true)else if op=2 then(-1,0,true)else if op=3 then(0,2,true)else if op=5 then(1,2,true)
 else if op=4 then(0,1,true)else if op=6 then(0,1,true)else if op=8 then(0,1,true)else(0,0,false)
theorem KX(op:Int):BJ (KL Tryz.prog cfg) 168 [.d (.int .i64 op)] []=.ok (.ret (.ge [.d (.int .i64 (K0 op).1),.d (.int .i64 (K0 op).2.1),.d (.bool (K0 op).2.2)]),[]):=by
 (refine Ar rfl Tryz.func168 rfl rfl rfl ?_;show Wp _ _ _ _ (Tryz.f168.body.get rfl) _ _;simp only[Tryz.f168,AS])
 (repeat' (first|simp only[go_sem, *]|(refine sx ?_ ?_<;>intro hc)|refine sy (by omega) fun x hx hm=>?_|simp(disch:=first|assumption|omega) only[AJ]))
 all_goals simp[K0, *]
structure RA(x:BS)(size depth n:Int)(h:AB)(π:List Nat)(idn:Abs.Id)(o:Ae)(h':AB):Prop where
 ret:VG x size depth (60-n)→o=.ret (.ge [])∧h'.get idn=some (.box [.d (.int .i64 (n+x.size))])
 f9: ¬VG x size depth (60-n)→o=.f9 G7
 frame: ∀id',Id.under π id'=false→Id.is idn id'=false→h'.get id'=h.get id'
variable{size depth n:Int}{h h':AB}{π:List Nat}
theorem KD{x:BS}{id:Abs.Id}(hk: ¬VG x size depth (60-n))(hf: ∀id',Id.under π id'=false→Id.is id id'=false→h'.get id'=h.get id'):RA x size depth n h π id (.f9 G7) h':=⟨fun h=>absurd h hk,fun _=>rfl,hf⟩
theorem OA{x:BS}{id:Abs.Id}(hk:VG x size depth (60-n))(hg:h'.get id=some (.box [.d (.int .i64 (n+x.size))]))(hf: ∀id',Id.under π id'=false→Id.is id id'=false→h'.get id'=h.get id'):RA x size depth n h π id (.ret (.ge [])) h':=⟨fun _=>⟨rfl,hg⟩,fun h=>absurd hk h,hf⟩
theorem xw(x:BS): ∀(size depth n:Int) (h:AB) (π:List Nat) (idn ids idd:Abs.Id),h.get idn=some (.box [.d (.int .i64 n)])→h.get ids=some (.box [.d (.int .i64 size)])→h.get idd=some (.box [.fn 217 [] [.ptr idn 0,.ptr ids 0,.ptr idd 0]])→Id.under π idn=false→Id.under π ids=false→Id.under π idd=false→Id.is idn ids=false→Id.is idn idd=false→0≤n→n≤60→1≤depth→depth≤70→
 ∃o h',KL Tryz.prog cfg (.fn 217) [.agg [.d (.int .i64 x.op),.d (.int .i64 x.n),.d (.be (x.kids.map BU))],.d (.int .i64 depth),.ptr idn 0,.ptr ids 0,.ptr idd 0] h π true none=.ok (o,h')∧RA x size depth n h π idn o h':=by
 induction x using BS.ind with
 |h op m kids ih=>
 intro size depth n h π idn ids idd hg hgs hgd hu hus hud hns hnd h1 h2 h3 h4;simp only[BS.op_mk,BS.n_mk,BS.kids_mk]at*;have u1:=AG hu;have u2:=Al hu;have u3:=AF hu;have v1:=AG hus;have v3:=AF hus;have x1:=AG hud;have x3:=AF hud;have w1:IntKind.i64.wrap (n+1)=n+1:=wrap_id (by omega) (by omega);have w2:IntKind.i64.wrap (depth+1)=depth+1:=wrap_id (by omega) (by omega)
 (refine Ah rfl Tryz.func217 rfl rfl rfl ?_;show Wp _ _ _ _ (Tryz.f217.body.get rfl) _ _;simp only[Tryz.f217,AS])
 have ih:=AA.mk ih;rcases kids with _|⟨a,_|⟨b,_|⟨c,l⟩⟩⟩
 ·(repeat' (first|simp only[go_sem, *]|(refine sx ?_ ?_<;>intro hc)|refine sy (by omega) fun x hx hm=>?_|simp(disch:=first|assumption|omega) only[AJ]))
  all_goals try(rw[Cy];refine aw ?_)
  all_goals first
   |omega
   |(refine KD ?_ (fun id' e1 e2=>?_)
     .clear ih;grind [VG,BS.size,Du,BS.depth,EA,BS.formed]
     .simp only[get_put,AG e1,e2,AM,ES])
   |(refine OA ?_ ?_ (fun id' e1 e2=>?_)
     .clear ih;grind [VG,BS.size,Du,BS.depth,EA,BS.formed]
     .simp[get_put,is_self,BS.size,Du]
     .simp only[get_put,AG e1,e2,AM,ES])
 ·(repeat' (first|simp only[go_sem, *]|(refine sx ?_ ?_<;>intro hc)|refine sy (by omega) fun x hx hm=>?_|simp(disch:=first|assumption|omega) only[AJ]))
  all_goals first
   |omega
   |(refine KD ?_ (fun id' e1 e2=>?_)
     .clear ih;grind [VG,BS.size,Du,BS.depth,EA,BS.formed]
     .simp only[get_put,AG e1,e2,AM,ES])
   |(refine OA ?_ ?_ (fun id' e1 e2=>?_)
     .clear ih;grind [VG,BS.size,Du,BS.depth,EA,BS.formed]
     .simp[get_put,is_self,BS.size,Du]
     .simp only[get_put,AG e1,e2,AM,ES])
 .have iha:=AA.mk (ih.out a (by simp));have ihb:=AA.mk (ih.out b (by simp));clear ih;have sa:=S0 a;have sb:=S0 b
  (repeat' (first|simp only[go_sem, *]|(refine sx ?_ ?_<;>intro hc)|refine sy (by omega) fun x hx hm=>?_|simp(disch:=first|assumption|omega) only[AJ]))
  all_goals try
   (refine KD ?_ (fun id' e1 e2=>?_)
    .clear iha ihb;grind [VG,BS.size,Du,BS.depth,EA,BS.formed]
    .simp only[get_put,AG e1,e2,AM,ES])
  all_goals (rw[Cy];refine aw ?_)
  all_goals
   refine AX (iha.out size (depth+1) (n+1) _ _ idn ids idd ?_ ?_ ?_ (u3 _) (v3 _) (x3 _) hns hnd ?_ ?_ ?_ ?_) (fun o1 g1 p1=>?_)
   .simp only[go_sem,u1,hg]
   .simp only[go_sem,v1,hns,hgs,AM]
   .simp only[go_sem,x1,hnd,hgd,AM]
   .omega
   .omega
   .omega
   .omega
   have f1:=p1.frame;have s1:g1.get ids=some (.box [.d (.int .i64 size)]):=by
    rw[f1 ids (v3 _) hns];simp only[go_sem,v1,hns,hgs,AM]
   have d1:g1.get idd=some (.box [.fn 217 [] [.ptr idn 0,.ptr ids 0,.ptr idd 0]]):=by
    rw[f1 idd (x3 _) hnd];simp only[go_sem,x1,hnd,hgd,AM]
   have fr1: ∀id',Id.under π id'=false→Id.is idn id'=false→g1.get id'=h.get id':=fun id' e1 e2=>by
    rw[f1 id' (AF e1 _) e2];simp only[get_put,AG e1,e2,AM,ES]
   clear f1;by_cases ka:VG a size (depth+1) (60-(n+1))
   .obtain⟨rfl,r1⟩:=p1.ret ka;clear p1;have fr1:=AA.mk fr1;refine aw ?_;rw[Cy];refine aw ?_;refine AX (ihb.out size (depth+1) (n+1+a.size) _ _ idn ids idd ?_ ?_ ?_ (u3 _) (v3 _) (x3 _) hns hnd ?_ ?_ ?_ ?_) (fun o2 g2 p2=>?_)
    .simp only[go_sem,u1,u3,r1,AM]
    .simp only[go_sem,v1,v3,hns,s1,AM]
    .simp only[go_sem,x1,x3,hnd,d1,AM]
    .omega
    .grind [VG]
    .omega
    .omega
    have f2:=p2.frame;have fr: ∀id',Id.under π id'=false→Id.is idn id'=false→g2.get id'=h.get id':=fun id' e1 e2=>by
     rw[f2 id' (AF e1 _) e2];simp only[get_put,AG e1,Ab _ _ _ (AF e1 _),fr1.out id' e1 e2,AM,ES]
    have fr:=AA.mk fr;clear f2 fr1;by_cases kb:VG b size (depth+1) (60-(n+1+a.size))
    .obtain⟨rfl,r2⟩:=p2.ret kb;clear p2;refine aw ?_;rw[Cy];refine aw ?_;refine OA ?_ ?_ fun id' e1 e2=>?_
     .clear iha ihb fr;grind [VG,BS.size,Du,BS.depth,EA,BS.formed]
     .rw[Ab _ _ _ (u3 _),r2];simp[BS.size,Du];omega
     .rw[Ab _ _ _ (AF e1 _),fr.out id' e1 e2]
    .obtain rfl:=p2.f9 kb;clear p2;refine aw ?_;refine KD ?_ fun id' e1 e2=>?_
     .clear iha ihb fr;grind [VG,BS.size,Du,BS.depth,EA,BS.formed]
     .rw[Ab _ _ _ (AF e1 _),fr.out id' e1 e2]
   .obtain rfl:=p1.f9 ka;clear p1;refine aw ?_;refine KD ?_ (fun id' e1 e2=>?_)
    .clear iha ihb;grind [VG,BS.size,Du,BS.depth,EA,BS.formed]
    .rw[Ab _ _ _ (AF e1 _),fr1 id' e1 e2]
 ·(repeat' (first|simp only[go_sem, *]|(refine sx ?_ ?_<;>intro hc)|refine sy (by omega) fun x hx hm=>?_|simp(disch:=first|assumption|omega) only[AJ]))
  all_goals first
   |omega
   |(refine KD ?_ (fun id' e1 e2=>?_)
     .clear ih;grind [VG,BS.size,Du,BS.depth,EA,BS.formed]
     .simp only[get_put,AG e1,e2,AM,ES])
   |(refine OA ?_ ?_ (fun id' e1 e2=>?_)
     .clear ih;grind [VG,BS.size,Du,BS.depth,EA,BS.formed]
     .simp[get_put,is_self,BS.size,Du]
     .simp only[get_put,AG e1,e2,AM,ES])
theorem ACU(x:BS)(size:Int):BJ (KL Tryz.prog cfg) 212 [.agg [.d (.int .i64 x.op),.d (.int .i64 x.n),.d (.be (x.kids.map BU))],.d (.int .i64 size)] []=.ok (H6 G7 (x.ok size)):=by
 (refine Ar rfl Tryz.func212 rfl rfl rfl ?_;show Wp _ _ _ _ (Tryz.f212.body.get rfl) _ _;simp only[Tryz.f212,AS])
 refine aw ?_;refine AX (xw x size 1 0 _ _ [0,2] [0,1] [0,4] rfl rfl rfl rfl rfl rfl rfl rfl ?_ ?_ ?_ ?_) (fun o1 g1 p1=>?_)
 .omega
 .omega
 .omega
 .omega
 have e:VG x size 1 (60-0)↔x.ok size=true:=ADh x size;cases hx:x.ok size with
 |true=>
  obtain⟨rfl,r1⟩:=p1.ret (e.2 hx);clear p1;refine aw ?_;rfl
 |false=>
  obtain rfl:=p1.f9 (fun h=>by rw[e.1 h]at hx;cases hx);clear p1;refine aw ?_;rfl
def slv(id:Abs.Id)(n:Nat):AV:=if n=0 then .emp else .em id 0 n
theorem BC{id:Abs.Id}{n:Nat}(h:n≠0):slv id n=.em id 0 n:=by rw[slv,CS h]
structure XG(π:List Nat)(l sz mt df:Abs.Id):Prop where
 ul:Id.under π l=false
 us:Id.under π sz=false
 um:Id.under π mt=false
 ud:Id.under π df=false
 ls:Id.is l sz=false
 lm:Id.is l mt=false
 ld:Id.is l df=false
 sl:Id.is sz l=false
 sm:Id.is sz mt=false
 sd:Id.is sz df=false
 ml:Id.is mt l=false
 ms:Id.is mt sz=false
 md:Id.is mt df=false
 dl:Id.is df l=false
 ds:Id.is df sz=false
 dm:Id.is df mt=false
structure Iq(h:AB)(p:AI)(l sz mt df:Abs.Id)(st:BN):Prop where
 box:h.get l=some (.box [.d (.be (p.free.map Av)),.d (.be (p.nodes.map Ad)),.d (.be (p.defs.map Ax)),.d (.int .i64 p.main),slv sz p.nodes.length,slv mt p.nodes.length,slv df p.defs.length])
 ce:p.nodes.length≠0→h.get sz=some (.co 1 (st.ce.map AK))
 met:p.nodes.length≠0→h.get mt=some (.co 1 (st.met.map CX))
 defs:p.defs.length≠0→h.get df=some (.co 1 (st.defs.map CX))
structure RB(p:AI)(l sz mt df:Abs.Id)(h:AB)(π:List Nat)(r:Option BN)(o:Ae)(h':AB):Prop where
 ret: ∀st',r=some st'→o=.ret (.ge [])∧Iq h' p l sz mt df st'∧ ∀id',Id.under π id'=false→Id.is sz id'=false→Id.is mt id'=false→Id.is df id'=false→h'.get id'=h.get id'
 f9:r=none→o=.f9 G7
variable{l df:Abs.Id}
theorem Da{p:AI}{sz mt:Abs.Id}{r:Option BN}(hr:r=none):RB p l sz mt df h π r (.f9 G7) h':=⟨fun st' hs=>by{rw[hr]at hs;cases hs},fun _=>rfl⟩
@[go_sem] theorem AFR:cfg.wp 307 "cabotage/scope.kids" =some 236:=rfl
@[go_sem] theorem AFS:cfg.wp 308 "cabotage/scope.kids" =some 237:=rfl
@[go_sem] theorem AFT:cfg.wp 309 "cabotage/scope.kids" =some 238:=rfl
@[go_sem] theorem AFU:cfg.wp 310 "cabotage/scope.kids" =some 239:=rfl
@[go_sem] theorem AFV:cfg.wp 314 "cabotage/scope.kids" =some 240:=rfl
structure qV(p:AI)(l sz mt df:Abs.Id)(h:AB)(π:List Nat)(L:List (Nat×Abs.Obj))(st:BN)(g:AB):Prop where
 looks:Iq g p l sz mt df st
 node: ∀q∈L,g.get (0::q.1::π)=some q.2
 frame: ∀id',Id.under π id'=false→Id.is sz id'=false→Id.is mt id'=false→Id.is df id'=false→g.get id'=h.get id'
theorem FM{sz mt:Abs.Id}(h:XG π l sz mt df)(n:Nat):XG (n::π) l sz mt df:={h with ul:=AF h.ul n,us:=AF h.us n,um:=AF h.um n,ud:=AF h.ud n}
theorem VX(i j:Nat)(π:List Nat)(h:i≠j):Id.under (i::π) (0::j::π)=false:=EZ fun hs=>by
 rcases ID.1 hs with e|hs
 .have:=congrArg List.length e;simp at this
 rcases ID.1 hs with e|hs
 .simp only[NO,and_true]at e;exact h e
 .have:=hs.length_le;simp at this;omega
variable{ρ:List Nat}
theorem Lk{g:AB}{p:AI}{sz mt:Abs.Id}{st:BN}(h:Iq g p l sz mt df st)(hi:XG ρ l sz mt df):Iq (gc ρ g) p l sz mt df st:=
 ⟨by rw[Ab _ _ _ hi.ul];exact h.box,fun hn=>by rw[Ab _ _ _ hi.us];exact h.ce hn,fun hn=>by rw[Ab _ _ _ hi.um];exact h.met hn,fun hn=>by rw[Ab _ _ _ hi.ud];exact h.defs hn⟩
variable{L:List (Nat×Abs.Obj)}{j:Nat}
theorem HX{p:AI}{sz mt:Abs.Id}{st:BN}{g:AB}(hf:qV p l sz mt df h π L st g)(hi:XG π l sz mt df){o:Abs.Obj}(hj: ∀q∈L,j≠q.1):qV p l sz mt df h π L st (g.put (0::j::π) o):=by
 refine⟨⟨?_,fun hn=>?_,fun hn=>?_,fun hn=>?_⟩,fun q hq=>?_,fun id' h1 h2 h3 h4=>?_⟩
 .rw[get_put,AG hi.ul];exact hf.looks.box
 .rw[get_put,AG hi.us];exact hf.looks.ce hn
 .rw[get_put,AG hi.um];exact hf.looks.met hn
 .rw[get_put,AG hi.ud];exact hf.looks.defs hn
 .have:Id.is (0::j::π) (0::q.1::π)=false:=AE fun e=>hj q hq (by simpa using e);rw[get_put,this];exact hf.node q hq
 .rw[get_put,AG h1];exact hf.frame id' h1 h2 h3 h4
variable{st':BN}{g':AB}
theorem O0{p:AI}{sz mt:Abs.Id}{st:BN}{g:AB}(hf:qV p l sz mt df h π L st g)(hi:XG π l sz mt df)(hj: ∀q∈L,j≠q.1)(hl:Iq g' p l sz mt df st')(hg: ∀id',Id.under (j::π) id'=false→Id.is sz id'=false→Id.is mt id'=false→Id.is df id'=false→g'.get id'=g.get id'):qV p l sz mt df h π L st' (gc (j::π) g'):=by
 refine⟨Lk hl (FM hi j),fun q hq=>?_,fun id' h1 h2 h3 h4=>?_⟩
 .have hu:=VX j q.1 π (hj q hq);rw[Ab _ _ _ hu,hg _ hu (Al hi.us _ _) (Al hi.um _ _) (Al hi.ud _ _)];exact hf.node q hq
 .rw[Ab _ _ _ (AF h1 j),hg _ (AF h1 j) h2 h3 h4];exact hf.frame id' h1 h2 h3 h4
theorem Gu{p:AI}{st:BN}(h:st.fit p)(hg:iY st st'):st'.fit p:=⟨hg.ce.trans h.ce,hg.met.trans h.met,hg.defs.trans h.defs⟩
theorem r9(x:BS)(size:Int):BJ (KL Tryz.prog cfg) 212 [.agg [.d (.int .i64 x.op),.d (.int .i64 x.n),.d (.be (x.kids.map BU))],.d (.int .i64 size)] []=B4 G7 (x.ok size):=by rw[ACU,TB]
theorem OB(d:Bq):BJ (KL Tryz.prog cfg) 213 [.agg [.d (.be (d.am.map Az)),.d (.be (d.ac.map Aj)),.d (.be (d.rules.map Ay))]] []=B4 G7 d.okG:=by rw[ACQ,TB]
variable{k:Nat}
theorem Ny{p:AI}{st:BN}{x:Cq}(hn:0≤n)(ht:st.met[n.toNat]? =some false)(hx:p.nodes[n.toNat]? =some x):BB p (k+1) n size st=if Cc p size x=true then match Qo p size x (st.meet n size)with
 |some (l,st2)=>B8 (BB p k) l st2
 |none=>none
 else none:=by
 rw[BB,DO ⟨hn,ht⟩,hx];all_goals rfl
theorem Vb{p:AI}{st:BN}{x:Cq}(hn:0≤n)(ht:st.met[n.toNat]? =some false)(hx:p.nodes[n.toNat]? =some x)(hb:Cc p size x=false):BB p (k+1) n size st=none:=by
 rw[Ny hn ht hx,hb,CS (by simp)]
theorem Lv(p:AI)(hN:p.nodes.length≤60)(n size:Int)(st:BN)(h:AB)(π:List Nat)(l sz mt df:Abs.Id)(hfit:st.fit p)(hid:XG π l sz mt df)(hl:Iq h p l sz mt df st)(hb:0≤n→n<p.nodes.length→st.met[n.toNat]? =some true):
 ∃o h',KL Tryz.prog cfg (.fn 201) [.ptr l 0,.d (.int .i64 n),.d (.int .i64 size)] h π true none=.ok (o,h')∧RB p l sz mt df h π none o h':=by
 obtain⟨ul,us,um,ud,ls,lm,ld,sl,sm,sd,ml,ms,md,dl,ds,dm⟩:=hid;obtain⟨lbox,lsz,lmt,ldf⟩:=hl;have lsz:=AA.mk lsz;have ldf:=AA.mk ldf;have hb:=AA.mk hb;have hfm:=hfit.met
 (refine Ah rfl Tryz.func201 rfl rfl rfl ?_;show Wp _ _ _ _ (Tryz.f201.body.get rfl) _ _;simp only[Tryz.f201,AS])
 by_cases hn:0≤n
 .by_cases hn2:n<p.nodes.length
  .have hne:p.nodes.length≠0:=by omega
   have hlt:n.toNat<p.nodes.length:=by omega
   have ht:=hb.out hn hn2;have lmt:=lmt hne;rw[BC hne,BC hne]at lbox;refine aw ?_;exact Da rfl
  .refine aw ?_;exact Da rfl
 .refine aw ?_;exact Da rfl
theorem iH(p:AI)(hN:p.nodes.length≤60)(hD:p.defs.length≤12): ∀(k:Nat) (n size:Int) (st:BN) (h:AB) (π:List Nat) (l sz mt df:Abs.Id),Dw st.met≤k→st.fit p→0≤size→size+70*k≤5000→XG π l sz mt df→Iq h p l sz mt df st→
 ∃o h',KL Tryz.prog cfg (.fn 201) [.ptr l 0,.d (.int .i64 n),.d (.int .i64 size)] h π true none=.ok (o,h')∧RB p l sz mt df h π (BB p k n size st) o h':=by
 intro k;induction k with
 |zero=>
  intro n size st h π l sz mt df hk hfit h0 hb hid hl;refine Lv p hN n size st h π l sz mt df hfit hid hl fun h1 h2=>?_;obtain⟨t,ht⟩:=get_some (l:=st.met) (i:=n.toNat) (by rw[hfit.met];omega);cases t with
  |true=>exact ht
  |false=>have:=Ew ht;omega
 |succ k ih=>
 intro n size st h π l sz mt df hk hfit h0 hb hid hl;have hid2:=AA.mk hid;obtain⟨ul,us,um,ud,ls,lm,ld,sl,sm,sd,ml,ms,md,dl,ds,dm⟩:=hid;have hl2:=AA.mk hl;obtain⟨lbox,lsz,lmt,ldf⟩:=hl;have e1:=AG ul;have e2:=AG us;have e3:=AG um;have e4:=AG ud;have e5:=Al ul;have e6:=Al us;have e7:=Al um;have e8:=Al ud;by_cases hn:0≤n
 .by_cases hn2:n<p.nodes.length
  .have hne:p.nodes.length≠0:=by omega
   have hlt:n.toNat<p.nodes.length:=by omega
   obtain⟨x,hx⟩:=get_some hlt;obtain⟨t,ht⟩:=get_some (l:=st.met) (i:=n.toNat) (by rw[hfit.met];omega);obtain⟨s0,hs0⟩:=get_some (l:=st.ce) (i:=n.toNat) (by rw[hfit.ce];omega);have lmt:=lmt hne;have lsz:=lsz hne;rw[BC hne,BC hne]at lbox;have ih:=AA.mk ih;have ldf:=AA.mk ldf;have hfs:=hfit.ce;have hfm:=hfit.met;cases t with
   |true=>
    have e:BB p (k+1) n size st=none:=by
     rw[BB,CS];rw[ht];simp
    rw[e];exact Lv p hN n size st h π l sz mt df hfit hid2.out hl2.out fun _ _=>ht
   |false=>
    (refine Ah rfl Tryz.func201 rfl rfl rfl ?_;show Wp _ _ _ _ (Tryz.f201.body.get rfl) _ _;simp only[Tryz.f201,AS])
    have hs:=AA.mk (Ny (p:=p) (k:=k) (size:=size) hn ht hx);have hbad:=AA.mk (Vb (p:=p) (k:=k) (size:=size) hn ht hx);obtain⟨xo,xn,xa,xk⟩:=x;have hn0:AA (∀o o',qV p l sz mt df h π [(46,o')] (st.meet n size) ((((h.put mt (.co 1 ((List.map CX st.met).set n.toNat [.bool true]))).put sz (.co 1 ((List.map AK st.ce).set n.toNat [.int .i64 size]))).put (0::46::π) o).put (0::46::π) o')):=.mk fun o o'=>by
     refine⟨⟨?_,fun _=>?_,fun _=>?_,fun hd=>?_⟩,?_,fun id' h1 h2 h3 h4=>?_⟩
     .rw[BC hne,BC hne];simp only[get_put,e1,sl,ml,AM,ES,lbox]
     .simp only[get_put,e2,is_self,AM,ES,F3,BN.meet,JP];rfl
     .simp only[get_put,e3,sm,is_self,AM,ES,F3,BN.meet,JP];rfl
     .simp only[get_put,e4,sd,md,AM,ES,BN.meet,ldf.out hd]
     .intro q hq;cases As.1 hq;simp only[get_put,is_self,F3]
     .simp only[get_put,AG h1,h2,h3,AM,ES]
    by_cases o4:xo=4
    .subst o4;by_cases x0:xn<0
     ·(repeat' (first|simp only[go_sem, *,HK,L8]|(refine sx ?_ ?_<;>intro hc)|refine sy (by omega) fun x hx hm=>?_|simp(disch:=first|assumption|omega) only[AJ]))
      all_goals try(exfalso;omega)
      all_goals (exact Da (hbad.out (by clear e1 e2 e3 e4 e5 e6 e7 e8 lbox lmt lsz hs hbad ih hn0;grind [Cc,DN,Wo,Ea])))
     by_cases x1:(p.defs.length:Int)≤xn
     ·(repeat' (first|simp only[go_sem, *,HK,L8]|(refine sx ?_ ?_<;>intro hc)|refine sy (by omega) fun x hx hm=>?_|simp(disch:=first|assumption|omega) only[AJ]))
      all_goals try(exfalso;omega)
      all_goals (exact Da (hbad.out (by clear e1 e2 e3 e4 e5 e6 e7 e8 lbox lmt lsz hs hbad ih hn0;grind [Cc,DN,Wo,Ea])))
     have x2:0≤xn:=by omega
     have x3:xn<p.defs.length:=by omega
     have hdl:p.defs.length≠0:=by omega
     have hxlt:xn.toNat<p.defs.length:=by omega
     obtain⟨d,hd⟩:=get_some hxlt;obtain⟨t,htd⟩:=get_some (l:=st.defs) (i:=xn.toNat) (by rw[hfit.defs];omega);have hfd:=hfit.defs;have ldf2:=ldf.out hdl;rw[BC hdl]at lbox;have hinto:Qo p size ⟨4,xn,xa,xk⟩ (st.meet n size)=if st.defs[xn.toNat]? =some false∧d.okG=true then some (Cf d (size+d.own) d.rules++(CG (size+d.own) d.ac++B9 (size+d.own) xk),{st.meet n size with defs:=st.defs.set xn.toNat true})else none:=by
      rw[Qo,DO rfl,hd];rfl
     have hinto:=AA.mk hinto;have hn1:AA (∀o o' b,qV p l sz mt df h π [(131,o'),(46,b)] {st.meet n size with defs:=st.defs.set xn.toNat true} (((((((h.put mt (.co 1 ((List.map CX st.met).set n.toNat [.bool true]))).put sz (.co 1 ((List.map AK st.ce).set n.toNat [.int .i64 size]))).put (0::46::π) (.box [.d (.int .i64 0),.d (.int .i64 0),.ci,.ci])).put (0::46::π) b).put df (.co 1 ((List.map CX st.defs).set xn.toNat [.bool true]))).put (0::131::π) o).put (0::131::π) o')):=.mk fun o o' b=>by
      refine⟨⟨?_,fun _=>?_,fun _=>?_,fun hd=>?_⟩,?_,fun id' h1 h2 h3 h4=>?_⟩
      .rw[BC hne,BC hne,BC hdl];simp only[get_put,e1,sl,ml,dl,AM,ES,lbox]
      .simp only[get_put,e2,ds,is_self,AM,ES,F3,BN.meet,JP];rfl
      .simp only[get_put,e3,sm,dm,is_self,AM,ES,F3,BN.meet,JP];rfl
      .simp only[get_put,e4,is_self,AM,ES,F3,BN.meet,JP];rfl
      .simp only[Ce,F8,Ls,GO,forall_eq];simp only[go_sem,e8]
      .simp only[get_put,AG h1,h2,h3,h4,AM,ES]
     by_cases hgt:t=false∧d.okG=true
     .obtain⟨rfl,hg⟩:=hgt;have hdo:=Sd hg;have c1:=hdo.am;have c2:=hdo.ac;have c3:=hdo.rules;have hown:=Nk hdo;have hok:=ADl d (by omega) (by omega);have hdo:=AA.mk hdo
      (repeat' (first|simp only[go_sem, *,HK,L8,OB]|(refine sx ?_ ?_<;>intro hc)|refine sy (by omega) fun x hx hm=>?_|simp(disch:=first|assumption|omega) only[AJ]))
      all_goals try(exfalso;omega)
      all_goals try(exact Da (hbad.out (by clear e1 e2 e3 e4 e5 e6 e7 e8 lbox lmt lsz hs hbad ih hn0;grind [Cc,DN,Wo,Ea])))
      rw[Cy]
      (repeat' (first|simp only[go_sem, *,OB]|(refine sx ?_ ?_<;>intro hc)|refine sy (by omega) fun x hx hm=>?_|simp(disch:=first|assumption|omega) only[AJ]))
      refine AY d.rules _ (fun m i a=>⟨[(0,.ptr l 0),(2,.d (.int .i64 (size+(d.own:Int)))),(6,.ptr (0::46::π) 0),(11,.ptr (0::131::π) 0),(190,.d (.be (d.rules.map Ay))),(191,.d (.int .i64 m)),(192,.d (.int .i64 i))],a.1.1,a.2+144,[]⟩)
       (Inv:=fun i rest a=>qV p l sz mt df h π [(131,.box [.d (.be (d.am.map Az)),.d (.be (d.ac.map Aj)),.d (.be (d.rules.map Ay))]),(46,.box [.d (.int .i64 4),.d (.int .i64 xn),.d (.be (xa.map BU)),.d (.be (xk.map AK))])] a.1.2 a.1.1∧a.1.2.fit p∧Dw a.1.2.met≤k∧AA (BB p (k+1) n size st=B8 (BB p k) (Cf d (size+d.own) rest++(CG (size+d.own) d.ac++B9 (size+d.own) xk)) a.1.2)) (b0:=((_,{st.meet n size with defs:=st.defs.set xn.toNat true}),_)) ?_ ⟨hn1.out _ _ _,?_,?_,⟨?_⟩⟩ ?_ ?_
      .rfl
      .have:=Ow hfit n size;exact⟨this.ce,this.met,by simp[hfit.defs]⟩
      .have:=Ew ht;simp only[BN.meet];omega
      .rw[hs.out,DO,hinto.out,DO ⟨htd,hg⟩];have h00:((xa.length:Int)=0):=by assumption
       have hxa:xa=[]:=Cs (by omega);clear e1 e2 e3 e4 e5 e6 e7 e8 lbox lmt lsz hs hbad ih hn0 hn1 hdo hinto;grind [Cc,DN,Wo,Ea]
      .rintro i r ⟨⟨g,st1⟩,c⟩ hy hi him ⟨hf,hfit1,hun,hv⟩ IH;dsimp only at*;have hr1:=hf.node _ (F1 ..);dsimp only at hr1;have hj:=Np hdo.out (Ac hy);have hb1:=jB d r hj;have hb2:=Kf hj.2.2 r.d8;have hb3:=hj.1;have hj:=AA.mk hj;refine aw ?_;refine Eu (ih.out r.node (size+d.own+CH d r.d8) st1 _ _ l sz mt df hun hfit1 (by omega) (by omega) (FM hid2.out _) (HX (HX hf hid2.out ?_) hid2.out ?_).looks) (fun o1 g1 p1=>?_)
       .simp only[Ce,F8,Ls,GO,forall_eq];omega
       .simp only[Ce,F8,Ls,GO,forall_eq];omega
       cases hvy:BB p k r.node (size+d.own+CH d r.d8) st1 with
       |none=>
        obtain rfl:=p1.f9 hvy;clear p1;refine aw ?_;refine Da (hv.out.trans ?_);simp only[Cf,D8,FN,B8,hvy]
       |some st2=>
        obtain⟨rfl,hl2,hfr⟩:=p1.ret st2 hvy;have hfr:=AA.mk hfr;clear p1;refine aw ?_;have hgr:=CR p _ _ _ _ _ hvy;refine IH.out ((_,st2),_) ⟨O0 (HX (HX hf hid2.out ?_) hid2.out ?_) hid2.out ?_ hl2 hfr.out,Gu hfit1 hgr,Hm hgr.less hun,⟨?_⟩⟩
        .simp only[Ce,F8,Ls,GO,forall_eq];omega
        .simp only[Ce,F8,Ls,GO,forall_eq];omega
        .simp only[Ce,F8,Ls,GO,forall_eq];omega
        .rw[hv.out];simp only[Cf,D8,FN,B8,hvy]
      .rintro i ⟨⟨g,st1⟩,c⟩ hi him ⟨hf,hfit1,hun,hv⟩;dsimp only at*;have hr1:=hf.node _ (F1 ..);have hr2:=hf.node _ (FD _ (F1 ..));dsimp only at hr1 hr2;refine aw ?_;refine AY d.ac _ (fun m i a=>⟨[(0,.ptr l 0),(2,.d (.int .i64 (size+(d.own:Int)))),(6,.ptr (0::46::π) 0),(207,.d (.be (d.ac.map Aj))),(208,.d (.int .i64 m)),(209,.d (.int .i64 i))],a.1.1,a.2+144,[]⟩)
        (Inv:=fun i rest a=>qV p l sz mt df h π [(131,.box [.d (.be (d.am.map Az)),.d (.be (d.ac.map Aj)),.d (.be (d.rules.map Ay))]),(46,.box [.d (.int .i64 4),.d (.int .i64 xn),.d (.be (xa.map BU)),.d (.be (xk.map AK))])] a.1.2 a.1.1∧a.1.2.fit p∧Dw a.1.2.met≤k∧AA (BB p (k+1) n size st=B8 (BB p k) (CG (size+d.own) rest++B9 (size+d.own) xk) a.1.2)) (b0:=((g,st1),_)) rfl ⟨hf,hfit1,hun,⟨?_⟩⟩ ?_ ?_
       .exact hv.out
       .clear hf hfit1 hun hv hr1 hr2 i hi him g st1 c;rintro i r ⟨⟨g,st1⟩,c⟩ hy hi him ⟨hf,hfit1,hun,hv⟩ IH;dsimp only at*;refine aw ?_;refine AX (ih.out r.node (size+d.own) st1 _ _ l sz mt df hun hfit1 (by omega) (by omega) (FM hid2.out _) (HX (HX hf hid2.out ?_) hid2.out ?_).looks) (fun o1 g1 p1=>?_)
        .simp only[Ce,F8,Ls,GO,forall_eq];omega
        .simp only[Ce,F8,Ls,GO,forall_eq];omega
        cases hvy:BB p k r.node (size+d.own) st1 with
        |none=>
         obtain rfl:=p1.f9 hvy;clear p1;refine aw ?_;refine Da (hv.out.trans ?_);simp only[CG,D8,FN,B8,hvy]
        |some st2=>
         obtain⟨rfl,hl2,hfr⟩:=p1.ret st2 hvy;have hfr:=AA.mk hfr;clear p1;refine aw ?_;have hgr:=CR p _ _ _ _ _ hvy;refine IH.out ((_,st2),_) ⟨O0 (HX (HX hf hid2.out ?_) hid2.out ?_) hid2.out ?_ hl2 hfr.out,Gu hfit1 hgr,Hm hgr.less hun,⟨?_⟩⟩
         .simp only[Ce,F8,Ls,GO,forall_eq];omega
         .simp only[Ce,F8,Ls,GO,forall_eq];omega
         .simp only[Ce,F8,Ls,GO,forall_eq];omega
         .rw[hv.out];simp only[CG,D8,FN,B8,hvy]
       .clear hf hfit1 hun hv hr1 hr2 i hi him g st1 c;rintro i ⟨⟨g,st1⟩,c⟩ hi him ⟨hf,hfit1,hun,hv⟩;dsimp only at*;have hr1:=hf.node _ (F1 ..);have hr2:=hf.node _ (FD _ (F1 ..));dsimp only at hr1 hr2;refine aw ?_;refine AY xk _ (fun m i a=>⟨[(0,.ptr l 0),(2,.d (.int .i64 (size+(d.own:Int)))),(220,.d (.be (xk.map AK))),(221,.d (.int .i64 m)),(222,.d (.int .i64 i))],a.1.1,a.2+144,[]⟩)
         (Inv:=fun i rest a=>qV p l sz mt df h π [(131,.box [.d (.be (d.am.map Az)),.d (.be (d.ac.map Aj)),.d (.be (d.rules.map Ay))]),(46,.box [.d (.int .i64 4),.d (.int .i64 xn),.d (.be (xa.map BU)),.d (.be (xk.map AK))])] a.1.2 a.1.1∧a.1.2.fit p∧Dw a.1.2.met≤k∧AA (BB p (k+1) n size st=B8 (BB p k) (B9 (size+d.own) rest) a.1.2)) (b0:=((g,st1),_)) ?_ ⟨hf,hfit1,hun,⟨?_⟩⟩ ?_ ?_
        .omega
        .exact hv.out
        .clear hf hfit1 hun hv hr1 hr2 i hi him g st1 c;rintro i y ⟨⟨g,st1⟩,c⟩ hy hi him ⟨hf,hfit1,hun,hv⟩ IH;dsimp only at*;refine aw ?_;refine AX (ih.out y (size+d.own) st1 _ _ l sz mt df hun hfit1 (by omega) (by omega) (FM hid2.out _) hf.looks) (fun o1 g1 p1=>?_);cases hvy:BB p k y (size+d.own) st1 with
         |none=>
          obtain rfl:=p1.f9 hvy;clear p1;refine aw ?_;refine Da (hv.out.trans ?_);simp only[B9,D8,FN,B8,hvy]
         |some st2=>
          obtain⟨rfl,hl2,hfr⟩:=p1.ret st2 hvy;have hfr:=AA.mk hfr;clear p1;refine aw ?_;have hgr:=CR p _ _ _ _ _ hvy;refine IH.out ((_,st2),_) ⟨O0 hf hid2.out ?_ hl2 hfr.out,Gu hfit1 hgr,Hm hgr.less hun,⟨?_⟩⟩
          .simp only[Ce,F8,Ls,GO,forall_eq];omega
          .rw[hv.out];simp only[B9,D8,FN,B8,hvy]
        .clear hf hfit1 hun hv hr1 hr2 i hi him g st1 c;rintro i ⟨⟨g,st1⟩,c⟩ hi him ⟨hf,hfit1,hun,hv⟩;dsimp only at*;refine aw ?_;refine⟨fun st' hst=>?_,fun hst=>?_⟩
         .rw[hv.out]at hst;cases hst;exact⟨rfl,hf.looks,hf.frame⟩
         .rw[hv.out]at hst;cases hst
     .have hno:AA (BB p (k+1) n size st=none):=by
       refine⟨?_⟩;rw[hs.out,hinto.out,htd];split
       .rw[CS (by simpa using hgt)]
       .rfl
      cases t
      .have hg:d.okG=false:=by simpa using hgt
       (repeat' (first|simp only[go_sem, *,HK,L8,OB]|(refine sx ?_ ?_<;>intro hc)|refine sy (by omega) fun x hx hm=>?_|simp(disch:=first|assumption|omega) only[AJ]))
       all_goals try(exfalso;omega)
       all_goals try(exact Da hno.out)
       rw[Cy]
       (repeat' (first|simp only[go_sem, *,OB]|(refine sx ?_ ?_<;>intro hc)|refine sy (by omega) fun x hx hm=>?_|simp(disch:=first|assumption|omega) only[AJ]))
       try exact Da hno.out
      ·(repeat' (first|simp only[go_sem, *,HK,L8]|(refine sx ?_ ?_<;>intro hc)|refine sy (by omega) fun x hx hm=>?_|simp(disch:=first|assumption|omega) only[AJ]))
       all_goals try(exfalso;omega)
       all_goals (exact Da hno.out)
    have hop:xo=1∨xo=7∨xo=3∨(xo=2∧3<(xa.length:Int))∨(xo=2∧ ¬3<(xa.length:Int))∨xo=5∨xo=6∨xo=8∨(¬xo=1∧ ¬xo=7∧ ¬xo=3∧ ¬xo=2∧ ¬xo=5∧ ¬xo=6∧ ¬xo=8):=by omega
    rcases hop with rfl|rfl|rfl|⟨rfl,ha⟩|⟨rfl,ha⟩|rfl|rfl|rfl|⟨n1,n2,n3,n4,n5,n6,n7⟩;all_goals ((repeat' (first|simp only[go_sem, *,HK,L8]|(refine sx ?_ ?_<;>intro hc)|refine sy (by omega) fun x hx hm=>?_|simp(disch:=first|assumption|omega) only[AJ])))
    all_goals try(exfalso;omega)
    all_goals try(exact Da (hbad.out (by clear e1 e2 e3 e4 e5 e6 e7 e8 lbox lmt lsz hs hbad ih hn0;grind [Cc,DN,Wo,Ea])))
    all_goals
     refine AY xa _ (fun m i a=>⟨[(0,.ptr l 0),(2,.d (.int .i64 size)),(6,.ptr (0::46::π) 0),(154,.d (.be (xa.map BU))),(155,.d (.int .i64 m)),(156,.d (.int .i64 i))],a.1,a.2+60,[]⟩)
      (Inv:=fun i rest a=>qV p l sz mt df h π _ (st.meet n size) a.1∧AA (xa.all (BS.ok size)=rest.all (BS.ok size))) (b0:=(_,_)) ?_ ⟨hn0.out _ _,⟨rfl⟩⟩ ?_ ?_
     .omega
     .rintro i y ⟨g,c⟩ hy hi him ⟨hf,hr⟩ IH;dsimp only at*;try(exfalso;omega)
      all_goals ((repeat' (first|simp only[go_sem, *,r9]|(refine sx ?_ ?_<;>intro hc)|refine sy (by omega) fun x hx hm=>?_|simp(disch:=first|assumption|omega) only[AJ])))
      all_goals first
      |exact Da (hbad.out (by simp only[Cc,hr.out,D3, *,By,GC]))
      |(refine IH.out (_,_) ⟨HX (HX hf hid2.out ?_) hid2.out ?_,⟨?_⟩⟩
        .intro q hq;cases As.1 hq;dsimp only;omega
        .intro q hq;cases As.1 hq;dsimp only;omega
        .rw[hr.out,D3];simp only[*,D7])
     .rintro i ⟨g,c⟩ hi him ⟨hf,hr⟩;dsimp only at*;have hnode:=hf.node _ (F1 ..);dsimp only at hnode;refine aw ?_;refine AY xk _ (fun m i a=>⟨[(0,.ptr l 0),(2,.d (.int .i64 size)),(220,.d (.be (xk.map AK))),(221,.d (.int .i64 m)),(222,.d (.int .i64 i))],a.1.1,a.2+60,[]⟩)
       (Inv:=fun i rest a=>qV p l sz mt df h π _ a.1.2 a.1.1∧a.1.2.fit p∧Dw a.1.2.met≤k∧AA (BB p (k+1) n size st=B8 (BB p k) (B9 size rest) a.1.2)) (b0:=((_,st.meet n size),_)) ?_ ⟨hf,Ow hfit _ _,?_,⟨?_⟩⟩ ?_ ?_
      .omega
      .have:=Ew ht;simp only[BN.meet];omega
      .rw[hs.out,DO,Qo]
       .rfl
       .have hall:xa.all (BS.ok size)=true:=by rw[hr.out];rfl
        clear e1 e2 e3 e4 e5 e6 e7 e8 lbox lmt lsz hs hbad ih hn0 hf hr hnode;grind [Cc,DN,Wo,Ea]
      .rintro i y ⟨⟨g,st1⟩,c⟩ hy hi him ⟨hf,hfit1,hun,hv⟩ IH;dsimp only at*;try(exfalso;omega)
       all_goals (refine aw ?_)
       all_goals
       refine AX (ih.out y size st1 g _ l sz mt df hun hfit1 h0 (by omega) (FM hid2.out _) hf.looks) (fun o1 g1 p1=>?_);cases hvy:BB p k y size st1 with
       |none=>
        obtain rfl:=p1.f9 hvy;clear p1;refine aw ?_;refine Da (hv.out.trans ?_);simp only[B9,D8,B8,hvy]
       |some st2=>
        obtain⟨rfl,hl2,hfr⟩:=p1.ret st2 hvy;have hfr:=AA.mk hfr;clear p1;refine aw ?_;have hgr:=CR p _ _ _ _ _ hvy;refine IH.out ((_,st2),_) ⟨O0 hf hid2.out ?_ hl2 hfr.out,Gu hfit1 hgr,Hm hgr.less hun,⟨?_⟩⟩
        .intro q hq;cases As.1 hq;dsimp only;omega
        .rw[hv.out];simp only[B9,D8,B8,hvy]
      .rintro i ⟨⟨g,st1⟩,c⟩ hi him ⟨hf,hfit1,hun,hv⟩;dsimp only at*;refine aw ?_;refine⟨fun st' hst=>?_,fun hst=>?_⟩
       .rw[hv.out]at hst;cases hst;exact⟨rfl,hf.looks,hf.frame⟩
       .rw[hv.out]at hst;cases hst
  .have e:BB p (k+1) n size st=none:=by
    rw[BB];split
    .rename_i hh;have:=AH hh.2;rw[hfit.met]at this;omega
    .rfl
   rw[e];exact Lv p hN n size st h π l sz mt df hfit hid2.out hl2.out fun _ h=>absurd h hn2
 .have e:BB p (k+1) n size st=none:=by
   rw[BB,CS fun hh=>hn hh.1]
  rw[e];exact Lv p hN n size st h π l sz mt df hfit hid2.out hl2.out fun h=>absurd h hn
def Tg(x:Bool):List Bool→Int→Int
 |[],_=> -1
 |y::l,i=>if (x==y)=true then i else Tg x l (i+1)
theorem Yv(v:Bool): ∀(l:List Bool) (i:Int),0≤i→(0≤Tg v l i↔v∈l)
 |[],i,h=>by simp[Tg]
 |y::l,i,h=>by
  rw[Tg];split
  .rename_i e;have:v=y:=by simpa using e
   simp[this,h]
  .rename_i e;have: ¬v=y:=by simpa using e
   rw[Yv v l (i+1) (by omega)];simp[this]
@[go_sem] theorem AEC(l:List Bool)(v:Bool)(hl:l.length≤1000000):BJ (KL Tryz.prog cfg) 216 [.d (.be (l.map CX)),.d (.bool v)] []=.ok (.ret (.d (.int .i64 (Tg v l 0))),[]):=by
  (refine Ar rfl Tryz.func216 rfl rfl rfl ?_;show Wp _ _ _ _ (Tryz.f216.body.get rfl) _ _;simp only[Tryz.f216,AS])
  refine aw ?_;refine Aw l (S:=fun i (u:Unit)=>⟨[(0,.d (.be (l.map CX))),(1,.d (.bool v)),(7,.d (.int .i64 l.length)),(8,.d (.int .i64 i))],[],0,[]⟩) (Inv:=fun i rest _=>AA (Tg v l 0=Tg v rest i)) (b0:=()) ⟨rfl⟩ ?_ ?_
  .rintro i y ⟨⟩ hy hi him hr IH
   (repeat' (first|simp only[go_sem, *]|(refine sx ?_ ?_<;>intro hc)|refine sy (by omega) fun x hx hm=>?_|simp(disch:=first|assumption|omega) only[AJ]))
   .rw[hr.out,Tg,DO (by assumption)]
   .refine IH.out () ⟨?_⟩;rw[hr.out,Tg,CS (by simp[*])];rfl
  .rintro i ⟨⟩ hi him hr;refine aw ?_;rw[hr.out,Tg]
@[go_sem] theorem Kk(l:List Bool)(v:Bool)(hl:l.length≤1000000):BJ (KL Tryz.prog cfg) 202 [.d (.be (l.map CX)),.d (.bool v)] []=.ok (.ret (.d (.bool (decide (v∈l)))),[]):=by
  have h:=Yv v l 0 (by omega)
  (refine Ar rfl Tryz.func202 rfl rfl rfl ?_;show Wp _ _ _ _ (Tryz.f202.body.get rfl) _ _;simp only[Tryz.f202,AS])
  exact au
theorem EP(g:G)(id:Abs.Id)(n:Nat)(h:0<n)(hm:n≤1073741824):Fz g id n {kind:=TK.int,size:=1,agg:=false,str:=false,zero:=[.d (.int .i64 0)],flds:=[],elem:=0,key:=0,mix:=false}=some ⟨.em (1::id) 0 n,[(1::id,.co 1 ((List.replicate n (0:Int)).map AK))]⟩:=by
 have e:(List.replicate n (0:Int)).map AK=List.replicate n [.int .i64 0]:=by rw[OP];rfl
 rw[e];exact Po (zs:=[.int .i64 0]) h (by unfold BA;omega) rfl rfl (by decide) rfl
theorem GW(g:G)(id:Abs.Id)(n:Nat)(h:0<n)(hm:n≤1073741824):Fz g id n {kind:=TK.bool,size:=1,agg:=false,str:=false,zero:=[.d (.bool false)],flds:=[],elem:=0,key:=0,mix:=false}=some ⟨.em (1::id) 0 n,[(1::id,.co 1 ((List.replicate n false).map CX))]⟩:=by
 have e:(List.replicate n false).map CX=List.replicate n [.bool false]:=by rw[OP];rfl
 rw[e];exact Po (zs:=[.bool false]) h (by unfold BA;omega) rfl rfl (by decide) rfl
theorem Cg(i t j:Nat)(π:List Nat)(h:i≠j):Id.under (i::π) (t::j::π)=false:=EZ fun hs=>by
 rcases ID.1 hs with e|hs
 .have:=congrArg List.length e;simp at this
 rcases ID.1 hs with e|hs
 .simp only[NO,and_true]at e;exact h e
 .have:=hs.length_le;simp at this;omega
theorem IK(l:List Bool):l.all id=true↔ ¬false∈l:=by
 induction l with
 |nil=>simp
 |cons b l ih=>cases b<;>simp
theorem Oq{p:AI}{st:BN}(hs:p.small=true)(hf:Kn p.free=true)(hv:BB p (p.nodes.length+1) p.main p.free.length (BN.init p)=some st):looks p=if (¬false∈st.met)∧(¬false∈st.defs)then some st else none:=by
 unfold looks;rw[DO ⟨hs,hf⟩,hv];simp only[IK]
theorem H5{id:Abs.Id}{n:Nat}(h:n=0):slv id n=.emp:=by rw[slv,DO h]
@[go_sem] theorem xQ(v:Bool):BJ (KL Tryz.prog cfg) 202 [.d (.be []),.d (.bool v)] []=.ok (.ret (.d (.bool false)),[]):=by
  have:=Kk [] v (by simp);simpa using this
structure qS(p:AI)(π:List Nat)(r:Ae×AB):Prop where
 f9:looks p=none→r=(.f9 G7,[])
 ret: ∀st,looks p=some st→ ∃h,r=(.ret (.ptr (0::16::π) 0),h)∧Iq h p (0::16::π) (1::6::π) (1::10::π) (1::14::π) st∧ ∀id',Id.under π id'=false→h.get id'=none
theorem zW(p:AI)(hp: ∀s∈p.free,s.size≤maxLen)(k:Nat)(ρ:List Nat): ∃r:Ae×AB,BJ (KL Tryz.prog cfg) 190 [.agg [.d (.be (p.free.map Av)),.d (.be (p.nodes.map Ad)),.d (.be (p.defs.map Ax)),.d (.int .i64 p.main)]] (k::ρ)=.ok r∧qS p (k::ρ) r:=by
 have hp:=AA.mk hp;by_cases hs:p.small=true
 ·(refine Ft rfl Tryz.func190 rfl rfl rfl ?_;show Wp _ _ _ _ (Tryz.f190.body.get rfl) _ _;simp only[Tryz.f190,AS])
  have hs2:=AA.mk hs;simp only[AI.small,AP,Ap]at hs;obtain⟨c1,c2,c3⟩:=hs;have c1:(p.free.length:Int)≤12:=by omega
  have c2:(p.nodes.length:Int)≤60:=by omega
  have c3:(p.defs.length:Int)≤12:=by omega
  refine aw ?_;refine AY p.free _ (S:=fun m i (u:Unit)=>⟨[(1,.ptr (0::0::k::ρ) 0),(24,.d (.be (p.free.map Av))),(25,.d (.int .i64 m)),(26,.d (.int .i64 i))],[(0::0::k::ρ,.box [.d (.be (p.free.map Av)),.d (.be (p.nodes.map Ad)),.d (.be (p.defs.map Ax)),.d (.int .i64 p.main)])],1,[]⟩)
   (Inv:=fun i rest _=>AA (Kn p.free=H9 (if i=0 then none else p.free[i-1]?) rest)) (b0:=()) rfl ⟨rfl⟩ ?_ ?_
  .rintro i y ⟨⟩ hy hi him hr IH;have hys:=hp.out y (Ac hy);have hnm:=AA1 y hys;have hbad:AA (Kn p.free=false→looks p=none):=.mk fun hf=>by
    rw[looks,CS (by rw[hf];simp)]
   rcases i with _|j
   .rw[DO rfl]at hr;have him0:(0:Int)<p.free.length:=by omega
    (repeat' (first|simp only[go_sem, *]|(refine sx ?_ ?_<;>intro hc)|refine sy (by omega) fun x hx hm=>?_|simp(disch:=first|assumption|omega) only[AJ]))
    all_goals first
    |(exact⟨fun _=>rfl,fun st hst=>by rw[hbad.out (by rw[hr.out,H9];simp only[*,By])]at hst;cases hst⟩)
    |(refine IH.out () ⟨?_⟩
      rw[hr.out,H9,CS (by omega)];simp only[*,D7];try rfl)
   .obtain⟨b,hb⟩:=get_some (l:=p.free) (i:=j) (by omega);rw[CS (by omega),Pl,hb]at hr;have w:IntKind.i64.wrap (((j+1:Nat):Int)-1)=(j:Int):=by rw[wrap_id (by omega) (by omega)];omega
    have w0: ¬((j+1:Nat):Int)=0:=by omega
    (repeat' (first|simp only[go_sem, *]|(refine sx ?_ ?_<;>intro hc)|refine sy (by omega) fun x hx hm=>?_|simp(disch:=first|assumption|omega) only[AJ]))
    .refine IH.out () ⟨?_⟩;rw[hr.out,H9,CS (by omega),Pl,hy];simp only[aW, *,D7]
    .exact⟨fun _=>rfl,fun st hst=>by rw[hbad.out (by rw[hr.out,H9];simp only[aW, *,By,GC])]at hst;cases hst⟩
    .exact⟨fun _=>rfl,fun st hst=>by rw[hbad.out (by rw[hr.out,H9];simp only[*,By])]at hst;cases hst⟩
  .rintro i ⟨⟩ hi him hr;have hfree:AA (Kn p.free=true):=⟨hr.out⟩;clear hr;by_cases hN0:p.nodes.length=0
   .have e:looks p=none:=by
     unfold looks;split
     .have:BB p (p.nodes.length+1) p.main p.free.length (BN.init p)=none:=by
       rw[BB,CS];intro hh;have:=AH hh.2;simp[BN.init]at this;omega
      rw[this]
     .rfl
    by_cases hD0:p.defs.length=0;all_goals
     (repeat' (first|simp only[go_sem, *]|(refine sx ?_ ?_<;>intro hc)|refine sy (by omega) fun x hx hm=>?_|simp(disch:=first|assumption|omega) only[AJ,EP,GW]))
     refine AX (Lv p (by omega) p.main p.free.length (BN.init p) _ _ (0::16::k::ρ) (1::6::k::ρ) (1::10::k::ρ) (1::14::k::ρ) ⟨?_,?_,?_⟩ ?_ ⟨?_,fun h=>absurd hN0 h,fun h=>absurd hN0 h,fun _=>?_⟩ ?_) (fun o1 g1 p1=>?_)
     .simp[BN.init]
     .simp[BN.init]
     .simp[BN.init]
     .constructor<;>first|exact Cg _ _ _ _ (by decide)|simp only[go_sem]
     .simp only[slv,hN0,hD0,ES,F3];simp only[go_sem]
     .first|(exact absurd hD0 ‹_›)|simp only[go_sem,BN.init]
     .omega
     obtain rfl:=p1.f9 rfl;clear p1;refine aw ?_;exact⟨fun _=>rfl,fun st hst=>by rw[e]at hst;cases hst⟩
   .by_cases hD0:p.defs.length=0
    ·(repeat' (first|simp only[go_sem, *]|(refine sx ?_ ?_<;>intro hc)|refine sy (by omega) fun x hx hm=>?_|simp(disch:=first|assumption|omega) only[AJ,EP,GW]))
     refine AX (iH p (by omega) (by omega) (p.nodes.length+1) p.main p.free.length (BN.init p) _ _ (0::16::k::ρ) (1::6::k::ρ) (1::10::k::ρ) (1::14::k::ρ) ?_ ⟨?_,?_,?_⟩ ?_ ?_ ?_ ⟨?_,fun _=>?_,fun _=>?_,fun _=>?_⟩) (fun o1 g1 p1=>?_)
     .have:=MF (BN.init p).met;simp only[BN.init,I0]at*;omega
     .simp[BN.init]
     .simp[BN.init]
     .simp[BN.init]
     .omega
     .omega
     .constructor<;>first|exact Cg _ _ _ _ (by decide)|simp only[go_sem]
     .simp only[slv,hN0,hD0,ES,F3];simp only[go_sem]
     .simp only[go_sem,BN.init]
     .simp only[go_sem,BN.init]
     .exact absurd hD0 ‹_›
     cases hv:BB p (p.nodes.length+1) p.main p.free.length (BN.init p)with
     |none=>
      obtain rfl:=p1.f9 hv;have e:looks p=none:=by
       unfold looks;rw[hv];split<;>rfl
      clear p1;refine aw ?_;exact⟨fun _=>rfl,fun st hst=>by rw[e]at hst;cases hst⟩
     |some st=>
      obtain⟨rfl,hl,hfr⟩:=p1.ret st hv;clear p1;have hfr:=AA.mk hfr;have hlk: ∃x,looks p=x:=⟨_,rfl⟩;obtain⟨x,hlk⟩:=hlk;have hlk:=AA.mk hlk;have hL:=Lk (ρ:=24::k::ρ) hl (by constructor<;>first|exact Cg _ _ _ _ (by decide)|simp only[go_sem]);have hL:=AA.mk hL;obtain⟨b1,b2,b3,b4⟩:=hl;have b2:=b2 hN0;have b3:=b3 hN0;rw[BC hN0,BC hN0,H5 hD0]at b1;have hg:=CR p _ _ _ _ _ hv;have m1:st.met.length=p.nodes.length:=by rw[hg.met];simp[BN.init]
      have m2:st.defs.length=p.defs.length:=by rw[hg.defs];simp[BN.init]
      have gu: ∀(t j:Nat),24≠j→(gc (24::k::ρ) g1).get (t::j::k::ρ)=g1.get (t::j::k::ρ):=fun t j hj=>Ab _ _ _ (Cg _ _ _ _ hj);have q1:=(gu 0 16 (by decide)).trans b1;have q2:=(gu 1 6 (by decide)).trans b2;have q3:=(gu 1 10 (by decide)).trans b3;clear gu;have tk1:List.take p.nodes.length (List.map CX st.met)=List.map CX st.met:=DL (by simp[m1]);have dn:st.defs=[]:=Cs (by omega)
      (repeat' (first|simp only[go_sem, *,EL,q1,q2,q3]|(refine sx ?_ ?_<;>intro hc)|refine sy (by omega) fun x hx hm=>?_|simp(disch:=first|assumption|omega) only[AJ,Kk]))
      all_goals (have hlk:=hlk.out;subst hlk)
      all_goals (have hlk:=Oq hs2.out hfree.out hv)
      all_goals first
      |(refine⟨fun _=>rfl,fun st' hst=>?_⟩
        rw[hlk,CS (by simp[*])]at hst;cases hst)
      |(refine⟨fun hst=>?_,fun st' hst=>?_⟩
        .rw[hlk,DO (by simp[*])]at hst;cases hst
        .rw[hlk,DO (by simp[*])]at hst;cases hst;refine⟨_,rfl,hL.out,fun id' hu=>?_⟩;have hu1:=AG hu;rw[Ab _ _ _ (AF hu _),hfr.out id' (AF hu _) (hu1 _ _) (hu1 _ _) (hu1 _ _)];simp only[go_sem,hu1,AM])
    ·(repeat' (first|simp only[go_sem, *]|(refine sx ?_ ?_<;>intro hc)|refine sy (by omega) fun x hx hm=>?_|simp(disch:=first|assumption|omega) only[AJ,EP,GW]))
     refine AX (iH p (by omega) (by omega) (p.nodes.length+1) p.main p.free.length (BN.init p) _ _ (0::16::k::ρ) (1::6::k::ρ) (1::10::k::ρ) (1::14::k::ρ) ?_ ⟨?_,?_,?_⟩ ?_ ?_ ?_ ⟨?_,fun _=>?_,fun _=>?_,fun _=>?_⟩) (fun o1 g1 p1=>?_)
     .have:=MF (BN.init p).met;simp only[BN.init,I0]at*;omega
     .simp[BN.init]
     .simp[BN.init]
     .simp[BN.init]
     .omega
     .omega
     .constructor<;>first|exact Cg _ _ _ _ (by decide)|simp only[go_sem]
     .simp only[slv,hN0,hD0,ES];simp only[go_sem]
     .simp only[go_sem,BN.init]
     .simp only[go_sem,BN.init]
     .simp only[go_sem,BN.init]
     cases hv:BB p (p.nodes.length+1) p.main p.free.length (BN.init p)with
     |none=>
      obtain rfl:=p1.f9 hv;have e:looks p=none:=by
       unfold looks;rw[hv];split<;>rfl
      clear p1;refine aw ?_;exact⟨fun _=>rfl,fun st hst=>by rw[e]at hst;cases hst⟩
     |some st=>
      obtain⟨rfl,hl,hfr⟩:=p1.ret st hv;clear p1;have hfr:=AA.mk hfr;have hlk: ∃x,looks p=x:=⟨_,rfl⟩;obtain⟨x,hlk⟩:=hlk;have hlk:=AA.mk hlk;have hL:=Lk (ρ:=24::k::ρ) hl (by constructor<;>first|exact Cg _ _ _ _ (by decide)|simp only[go_sem]);have hL:=AA.mk hL;obtain⟨b1,b2,b3,b4⟩:=hl;have b2:=b2 hN0;have b3:=b3 hN0;have b4:=b4 hD0;rw[BC hN0,BC hN0,BC hD0]at b1;have hg:=CR p _ _ _ _ _ hv;have m1:st.met.length=p.nodes.length:=by rw[hg.met];simp[BN.init]
      have m2:st.defs.length=p.defs.length:=by rw[hg.defs];simp[BN.init]
      have gu: ∀(t j:Nat),24≠j→(gc (24::k::ρ) g1).get (t::j::k::ρ)=g1.get (t::j::k::ρ):=fun t j hj=>Ab _ _ _ (Cg _ _ _ _ hj);have q1:=(gu 0 16 (by decide)).trans b1;have q2:=(gu 1 6 (by decide)).trans b2;have q3:=(gu 1 10 (by decide)).trans b3;have q4:=(gu 1 14 (by decide)).trans b4;clear gu;have tk1:List.take p.nodes.length (List.map CX st.met)=List.map CX st.met:=DL (by simp[m1]);have tk2:List.take p.defs.length (List.map CX st.defs)=List.map CX st.defs:=DL (by simp[m2])
      (repeat' (first|simp only[go_sem, *,EL,q1,q2,q3,q4]|(refine sx ?_ ?_<;>intro hc)|refine sy (by omega) fun x hx hm=>?_|simp(disch:=first|assumption|omega) only[AJ,Kk]))
      all_goals (have hlk:=hlk.out;subst hlk)
      all_goals (have hlk:=Oq hs2.out hfree.out hv)
      all_goals first
      |(refine⟨fun _=>rfl,fun st' hst=>?_⟩
        rw[hlk,CS (by simp[*])]at hst;cases hst)
      |(refine⟨fun hst=>?_,fun st' hst=>?_⟩
        .rw[hlk,DO (by simp[*])]at hst;cases hst
        .rw[hlk,DO (by simp[*])]at hst;cases hst;refine⟨_,rfl,hL.out,fun id' hu=>?_⟩;have hu1:=AG hu;rw[Ab _ _ _ (AF hu _),hfr.out id' (AF hu _) (hu1 _ _) (hu1 _ _) (hu1 _ _)];simp only[go_sem,hu1,AM])
 .have e:looks p=none:=by
   unfold looks;rw[CS fun h=>hs h.1]
  have hs: ¬(p.free.length≤12∧p.nodes.length≤60∧p.defs.length≤12):=by
   intro h;apply hs;simp only[AI.small,AP,Ap];exact h
  have hs:=AA.mk hs
  (refine Ft rfl Tryz.func190 rfl rfl rfl ?_;show Wp _ _ _ _ (Tryz.f190.body.get rfl) _ _;simp only[Tryz.f190,AS])
  (repeat' (first|simp only[go_sem, *]|(refine sx ?_ ?_<;>intro hc)|refine sy (by omega) fun x hx hm=>?_|simp(disch:=first|assumption|omega) only[AJ]))
  all_goals first
  |exact⟨fun _=>rfl,fun st hst=>by rw[e]at hst;cases hst⟩
  |(have hs:=hs.out;exfalso;omega)
def H8(b:Bool):List AZ:=[.int .i64 (if b then 1 else 0)]
theorem rz:H8 true=[.int .i64 1]:=rfl
theorem ry:H8 false=[.int .i64 0]:=rfl
attribute [go_sem] rz ry
def DZ(p:AI)(sz ow us:Abs.Id)(bad:Bool):Abs.Obj:=.box [.d (.be (p.free.map Av)),.d (.be (p.nodes.map Ad)),.d (.be (p.defs.map Ax)),.d (.int .i64 p.main),slv sz p.nodes.length,slv ow p.nodes.length,slv us p.defs.length,.d (.bool bad)]
structure Gh(h:AB)(p:AI)(l sz ow us:Abs.Id)(st:BN)(bad:Bool):Prop where
 box:h.get l=some (DZ p sz ow us bad)
 ce:bad=false→p.nodes.length≠0→h.get sz=some (.co 1 (st.ce.map AK))
 met:bad=false→p.nodes.length≠0→h.get ow=some (.co 1 (st.met.map H8))
 defs:bad=false→p.defs.length≠0→h.get us=some (.co 1 (st.defs.map H8))
 ks:p.nodes.length≠0→ ∃A,h.get sz=some (.co 1 A)
 km:p.nodes.length≠0→ ∃A,h.get ow=some (.co 1 A)
 kd:p.defs.length≠0→ ∃A,h.get us=some (.co 1 A)
structure RE(p:AI)(l sz ow us:Abs.Id)(h:AB)(π:List Nat)(r:Option BN)(o:Ae)(h':AB):Prop where
 ret:o=.ret (.ge [])
 frame: ∀id',Id.under π id'=false→Id.is l id'=false→Id.is sz id'=false→Id.is ow id'=false→Id.is us id'=false→h'.get id'=h.get id'
 yes: ∀st',r=some st'→Gh h' p l sz ow us st' false
 no:r=none→ ∀st0,Gh h' p l sz ow us st0 true
structure XH(p:AI)(l sz ow us:Abs.Id)(h:AB)(π:List Nat)(L:List (Nat×Abs.Obj))(st:BN)(bad:Bool)(g:AB):Prop where
 looks:Gh g p l sz ow us st bad
 node: ∀q∈L,g.get (0::q.1::π)=some q.2
 frame: ∀id',Id.under π id'=false→Id.is l id'=false→Id.is sz id'=false→Id.is ow id'=false→Id.is us id'=false→g.get id'=h.get id'
variable{b:Bool}
theorem HD{g:AB}{p:AI}{sz mt:Abs.Id}{st:BN}(h:Gh g p l sz mt df st b)(hi:XG ρ l sz mt df):Gh (gc ρ g) p l sz mt df st b:=
 ⟨by rw[Ab _ _ _ hi.ul];exact h.box,fun hb hn=>by rw[Ab _ _ _ hi.us];exact h.ce hb hn,fun hb hn=>by rw[Ab _ _ _ hi.um];exact h.met hb hn,fun hb hn=>by rw[Ab _ _ _ hi.ud];exact h.defs hb hn,fun hn=>by rw[Ab _ _ _ hi.us];exact h.ks hn,fun hn=>by rw[Ab _ _ _ hi.um];exact h.km hn,fun hn=>by rw[Ab _ _ _ hi.ud];exact h.kd hn⟩
variable{b':Bool}
theorem iM{p:AI}{sz mt:Abs.Id}{st:BN}{g:AB}{o:Abs.Obj}(hf:XH p l sz mt df h π L st b g)(hi:XG π l sz mt df)(ho:o=DZ p sz mt df b')(hbb:b'=false→b=false):XH p l sz mt df h π L st b' (g.put l o):=by
 refine⟨⟨?_,fun hb hn=>?_,fun hb hn=>?_,fun hb hn=>?_,fun hn=>?_,fun hn=>?_,fun hn=>?_⟩,fun q hq=>?_,fun id' h1 h0 h2 h3 h4=>?_⟩
 .rw[get_put,is_self,ho];rfl
 .rw[get_put,hi.ls];exact hf.looks.ce (hbb hb) hn
 .rw[get_put,hi.lm];exact hf.looks.met (hbb hb) hn
 .rw[get_put,hi.ld];exact hf.looks.defs (hbb hb) hn
 .rw[get_put,hi.ls];exact hf.looks.ks hn
 .rw[get_put,hi.lm];exact hf.looks.km hn
 .rw[get_put,hi.ld];exact hf.looks.kd hn
 .rw[get_put,Al hi.ul];exact hf.node q hq
 .rw[get_put,h0];exact hf.frame id' h1 h0 h2 h3 h4
theorem Fq{p:AI}{sz mt:Abs.Id}{st:BN}{g:AB}(hf:XH p l sz mt df h π L st b g)(hi:XG π l sz mt df)(hj: ∀q∈L,j≠q.1)(hl:Gh g' p l sz mt df st' b')(hg: ∀id',Id.under (j::π) id'=false→Id.is l id'=false→Id.is sz id'=false→Id.is mt id'=false→Id.is df id'=false→g'.get id'=g.get id'):XH p l sz mt df h π L st' b' (gc (j::π) g'):=by
 refine⟨HD hl (FM hi j),fun q hq=>?_,fun id' h1 h0 h2 h3 h4=>?_⟩
 .have hu:=VX j q.1 π (hj q hq);rw[Ab _ _ _ hu,hg _ hu (Al hi.ul _ _) (Al hi.us _ _) (Al hi.um _ _) (Al hi.ud _ _)];exact hf.node q hq
 .rw[Ab _ _ _ (AF h1 j),hg _ (AF h1 j) h0 h2 h3 h4];exact hf.frame id' h1 h0 h2 h3 h4
theorem ADq{p:AI}{sz mt:Abs.Id}{st:BN}{g:AB}(hf:XH p l sz mt df h π L st false g)(hi:XG π l sz mt df)(i:Nat):XH p l sz mt df h π L {st with defs:=st.defs.set i true} false (g.put df (.co 1 ((st.defs.map H8).set i [.int .i64 1]))):=by
 refine⟨⟨?_,fun hb hn=>?_,fun hb hn=>?_,fun hb hn=>?_,fun hn=>?_,fun hn=>?_,fun hn=>?_⟩,fun q hq=>?_,fun id' h1 h0 h2 h3 h4=>?_⟩
 .rw[get_put,hi.dl];exact hf.looks.box
 .rw[get_put,hi.ds];exact hf.looks.ce hb hn
 .rw[get_put,hi.dm];exact hf.looks.met hb hn
 .rw[get_put,is_self,JP];rfl
 .rw[get_put,hi.ds];exact hf.looks.ks hn
 .rw[get_put,hi.dm];exact hf.looks.km hn
 .rw[get_put,is_self];exact⟨_,rfl⟩
 .rw[get_put,Al hi.ud];exact hf.node q hq
 .rw[get_put,h4];exact hf.frame id' h1 h0 h2 h3 h4
theorem Gh.any{p:AI}{sz ow us:Abs.Id}{st st0:BN}(hl:Gh h p l sz ow us st true):Gh h p l sz ow us st0 true:=⟨hl.box,fun h=>(by cases h),fun h=>(by cases h),fun h=>(by cases h),hl.ks,hl.km,hl.kd⟩
theorem FJ{p:AI}{sz mt:Abs.Id}{st:BN}{g:AB}{o:Abs.Obj}{r:Option BN}(hf:XH p l sz mt df h π L st b g)(hi:XG π l sz mt df)(ho:o=DZ p sz mt df true)(hr:r=none):RE p l sz mt df h π r (.ret (.ge [])) (g.put l o):=by
 refine⟨rfl,fun id' h1 h0 h2 h3 h4=>?_,fun st' e=>?_,fun _ st0=>?_⟩
 .rw[get_put,h0];exact hf.frame id' h1 h0 h2 h3 h4
 .rw[hr]at e;cases e
 .exact(iM (b':=true) {hf with looks:={hf.looks with ce:=hf.looks.ce,met:=hf.looks.met,defs:=hf.looks.defs}} hi ho (by simp)).looks.any
theorem FR{p:AI}{sz mt:Abs.Id}{st:BN}{g:AB}{r:Option BN}(hf:XH p l sz mt df h π L st true g)(hr:r=none):RE p l sz mt df h π r (.ret (.ge [])) g:=by
 refine⟨rfl,hf.frame,fun st' e=>?_,fun _ st0=>hf.looks.any⟩;rw[hr]at e;cases e
theorem P3{p:AI}{sz mt:Abs.Id}{st:BN}{g:AB}{r:Option BN}(hf:XH p l sz mt df h π L st false g)(hr:r=some st):RE p l sz mt df h π r (.ret (.ge [])) g:=by
 refine⟨rfl,hf.frame,fun st' e=>?_,fun e=>?_⟩
 .rw[hr]at e;cases e;exact hf.looks
 .rw[hr]at e;cases e
theorem OH{f:Int→Int→BN→Option BN}: ∀{l m:List (Int×Int)} {st:BN},B8 f (l++m) st=match B8 f l st with|some st'=>B8 f m st'|none=>none
 |[],m,st=>rfl
 |(n,s)::l,m,st=>by
  rw[FN,B8,B8];cases f n s st with
  |none=>rfl
  |some st1=>exact OH
def AEO(p:AI)(k:Nat):Prop:= ∀(n size:Int) (st:BN) (h:AB) (π:List Nat) (l sz ow us:Abs.Id),Dw st.met≤k→st.fit p→0≤size→size+70*k≤5000→XG π l sz ow us→Gh h p l sz ow us st false→
    ∃o h',KL Tryz.prog cfg (.fn 129) [.ptr l 0,.d (.int .i64 n),.d (.int .i64 size)] h π true none=.ok (o,h')∧RE p l sz ow us h π (BB p k n size st) o h'
theorem xx(p:AI)(hN:p.nodes.length≤60)(hD:p.defs.length≤12)(k:Nat)(ih:AEO p k)(d:Bq)(hdo:N2 d)(size:Int)(st:BN)(h:AB)(π:List Nat)(l sz ow us:Abs.Id)(hk:Dw st.met≤k)(hfit:st.fit p)(h0:0≤size)(hb:size+10+70*k≤5000)(hid:XG π l sz ow us)(hl:Gh h p l sz ow us st false):
 ∃o h',KL Tryz.prog cfg (.fn 170) [.ptr l 0,.agg [.d (.be (d.am.map Az)),.d (.be (d.ac.map Aj)),.d (.be (d.rules.map Ay))],.d (.int .i64 size)] h π true none=.ok (o,h')∧RE p l sz ow us h π (B8 (BB p k) (Cf d size d.rules++CG size d.ac) st) o h':=by
 have hid2:=AA.mk hid;have c1:=hdo.am;have c2:=hdo.ac;have c3:=hdo.rules;replace hdo:=AA.mk hdo;replace ih:=AA.mk ih;have hlb:=hl.box;rw[DZ]at hlb;have e1:=AG hid.ul;have e5:=Al hid.ul;clear hid;have hd0:AA (XH p l sz ow us h π [(0,.box [.d (.be (d.am.map Az)),.d (.be (d.ac.map Aj)),.d (.be (d.rules.map Ay))])] st false (h.put (0::0::π) (.box [.d (.be (d.am.map Az)),.d (.be (d.ac.map Aj)),.d (.be (d.rules.map Ay))]))):=by
  refine⟨⟨⟨?_,fun _ hn=>?_,fun _ hn=>?_,fun _ hn=>?_,fun hn=>?_,fun hn=>?_,fun hn=>?_⟩,?_,fun id' h1 h0 h2 h3 h4=>?_⟩⟩
  .rw[get_put,AG hid2.out.ul];exact hl.box
  .rw[get_put,AG hid2.out.us];exact hl.ce rfl hn
  .rw[get_put,AG hid2.out.um];exact hl.met rfl hn
  .rw[get_put,AG hid2.out.ud];exact hl.defs rfl hn
  .rw[get_put,AG hid2.out.us];exact hl.ks hn
  .rw[get_put,AG hid2.out.um];exact hl.km hn
  .rw[get_put,AG hid2.out.ud];exact hl.kd hn
  .intro q hq;cases As.1 hq;simp only[get_put,is_self,F3]
  .simp only[get_put,AG h1,AM,ES]
 replace hl:=AA.mk hl
 (refine Ah rfl Tryz.func170 rfl rfl rfl ?_;show Wp _ _ _ _ (Tryz.f170.body.get rfl) _ _;simp only[Tryz.f170,AS])
 refine aw ?_;refine Aw d.rules (S:=fun i a=>⟨[(0,.ptr l 0),(2,.d (.int .i64 size)),(4,.ptr (0::0::π) 0),(6,.d (.int .i64 i))],a.1.1,a.2+2,[]⟩)
  (Inv:=fun i rest a=> ∃b,XH p l sz ow us h π [(0,.box [.d (.be (d.am.map Az)),.d (.be (d.ac.map Aj)),.d (.be (d.rules.map Ay))])] a.1.2 b a.1.1∧a.1.2.fit p∧Dw a.1.2.met≤k∧AA (b=false→B8 (BB p k) (Cf d size d.rules++CG size d.ac) st=B8 (BB p k) (Cf d size rest++CG size d.ac) a.1.2)∧AA (b=true→B8 (BB p k) (Cf d size d.rules++CG size d.ac) st=none)) (b0:=((_,st),_)) ?_ ?_ ?_
 .exact⟨false,hd0.out,hfit,hk,⟨fun _=>rfl⟩,⟨fun h=>(by cases h)⟩⟩
 .rintro i r ⟨⟨g,st1⟩,c⟩ hy hi him ⟨b,hf,hfit1,hun,hv,hno⟩ IH;dsimp only at*;have hr1:=hf.node _ (F1 ..);have hr2:=hf.looks.box;rw[DZ]at hr2;dsimp only at hr1;cases b
  .have hj:=Np hdo.out (Ac hy);have hb1:=AA0 d r hj;have hb2:=Kf hj.2.2 r.d8;have hb3:=hj.1;replace hj:=AA.mk hj;refine aw ?_;refine Eu (ih.out r.node (size+CH d r.d8) st1 _ _ l sz ow us hun hfit1 (by omega) (by omega) (FM hid2.out _) hf.looks) (fun o1 g1 p1=>?_);obtain rfl:=p1.ret;replace p1:=AA.mk p1;refine aw ?_;cases hvy:BB p k r.node (size+CH d r.d8) st1 with
   |none=>
    refine IH.out ((_,st1),_) ⟨true,Fq hf hid2.out ?_ (p1.out.no hvy _) p1.out.frame,hfit1,hun,⟨fun h=>(by cases h)⟩,⟨fun _=>?_⟩⟩
    .simp only[Ce,F8,Ls,GO,forall_eq];omega
    .rw[hv.out rfl];simp only[Cf,D8,FN,B8,hvy]
   |some st2=>
    have hgr:=CR p _ _ _ _ _ hvy;refine IH.out ((_,st2),_) ⟨false,Fq hf hid2.out ?_ (p1.out.yes _ hvy) p1.out.frame,Gu hfit1 hgr,Hm hgr.less hun,⟨fun _=>?_⟩,⟨fun h=>(by cases h)⟩⟩
    .simp only[Ce,F8,Ls,GO,forall_eq];omega
    .rw[hv.out rfl];simp only[Cf,D8,FN,B8,hvy]
  .refine aw ?_;rw[Cy]
   (repeat' (first|simp only[go_sem, *]|(refine sx ?_ ?_<;>intro hc)|refine sy (by omega) fun x hx hm=>?_|simp(disch:=first|assumption|omega) only[AJ]))
   all_goals exact FR hf (hno.out rfl)
 .rintro i ⟨⟨g,st1⟩,c⟩ hi him ⟨b,hf,hfit1,hun,hv,hno⟩;dsimp only at*;have hr1:=hf.node _ (F1 ..);have hr2:=hf.looks.box;rw[DZ]at hr2;dsimp only at hr1;cases b
  .refine aw ?_;refine Aw d.ac (S:=fun i a=>⟨[(0,.ptr l 0),(2,.d (.int .i64 size)),(4,.ptr (0::0::π) 0),(7,.d (.int .i64 i))],a.1.1,a.2+2,[]⟩)
    (Inv:=fun i rest a=> ∃b,XH p l sz ow us h π [(0,.box [.d (.be (d.am.map Az)),.d (.be (d.ac.map Aj)),.d (.be (d.rules.map Ay))])] a.1.2 b a.1.1∧a.1.2.fit p∧Dw a.1.2.met≤k∧AA (b=false→B8 (BB p k) (Cf d size d.rules++CG size d.ac) st=B8 (BB p k) (CG size rest) a.1.2)∧AA (b=true→B8 (BB p k) (Cf d size d.rules++CG size d.ac) st=none)) (b0:=((_,st1),_)) ?_ ?_ ?_
   .exact⟨false,hf,hfit1,hun,⟨fun _=>hv.out rfl⟩,⟨fun h=>(by cases h)⟩⟩
   .clear hf hr1 hr2 hi him hfit1 hun hv hno g c i st1;rintro i r ⟨⟨g,st1⟩,c⟩ hy hi him ⟨b,hf,hfit1,hun,hv,hno⟩ IH;dsimp only at*;have hr1:=hf.node _ (F1 ..);have hr2:=hf.looks.box;rw[DZ]at hr2;dsimp only at hr1;cases b
    .refine aw ?_;refine AX (ih.out r.node size st1 _ _ l sz ow us hun hfit1 (by omega) (by omega) (FM hid2.out _) hf.looks) (fun o1 g1 p1=>?_);obtain rfl:=p1.ret;replace p1:=AA.mk p1;refine aw ?_;cases hvy:BB p k r.node size st1 with
     |none=>
      refine IH.out ((_,st1),_) ⟨true,Fq hf hid2.out ?_ (p1.out.no hvy _) p1.out.frame,hfit1,hun,⟨fun h=>(by cases h)⟩,⟨fun _=>?_⟩⟩
      .simp only[Ce,F8,Ls,GO,forall_eq];omega
      .rw[hv.out rfl];simp only[CG,D8,FN,B8,hvy]
     |some st2=>
      have hgr:=CR p _ _ _ _ _ hvy;refine IH.out ((_,st2),_) ⟨false,Fq hf hid2.out ?_ (p1.out.yes _ hvy) p1.out.frame,Gu hfit1 hgr,Hm hgr.less hun,⟨fun _=>?_⟩,⟨fun h=>(by cases h)⟩⟩
      .simp only[Ce,F8,Ls,GO,forall_eq];omega
      .rw[hv.out rfl];simp only[CG,D8,FN,B8,hvy]
    .refine aw ?_;exact FR hf (hno.out rfl)
   .clear hf hr1 hr2 hi him hfit1 hun hv hno g c i st1;rintro i ⟨⟨g,st1⟩,c⟩ hi him ⟨b,hf,hfit1,hun,hv,hno⟩;dsimp only at*;have hr1:=hf.node _ (F1 ..);have hr2:=hf.looks.box;rw[DZ]at hr2;dsimp only at hr1;cases b
    .refine aw ?_;exact P3 hf (hv.out rfl)
    .refine aw ?_;exact FR hf (hno.out rfl)
  .refine aw ?_;rw[Cy]
   (repeat' (first|simp only[go_sem, *]|(refine sx ?_ ?_<;>intro hc)|refine sy (by omega) fun x hx hm=>?_|simp(disch:=first|assumption|omega) only[AJ]))
   all_goals exact FR hf (hno.out rfl)
theorem Ik(p:AI)(hN:p.nodes.length≤60)(n size:Int)(st:BN)(h:AB)(π:List Nat)(l sz ow us:Abs.Id)(hfit:st.fit p)(hid:XG π l sz ow us)(hl:Gh h p l sz ow us st false)(hb:0≤n→n<p.nodes.length→st.met[n.toNat]? =some true):
 ∃o h',KL Tryz.prog cfg (.fn 129) [.ptr l 0,.d (.int .i64 n),.d (.int .i64 size)] h π true none=.ok (o,h')∧RE p l sz ow us h π none o h':=by
 have hR:XH p l sz ow us h π [] st false h:=⟨hl,by simp,fun _ _ _ _ _ _=>rfl⟩;have hlv: ∀b,DZ p sz ow us b=.box [.d (.be (p.free.map Av)),.d (.be (p.nodes.map Ad)),.d (.be (p.defs.map Ax)),.d (.int .i64 p.main),slv sz p.nodes.length,slv ow p.nodes.length,slv us p.defs.length,.d (.bool b)]:=fun b=>rfl;have lbox:=hl.box;rw[DZ]at lbox;have lmt:=hl.met rfl;have e1:=AG hid.ul;replace hl:=AA.mk hl;replace hb:=AA.mk hb;replace hR:=AA.mk hR;have hid2:=AA.mk hid;have hfm:=hfit.met;by_cases hn:n<0
 ·(refine Ah rfl Tryz.func129 rfl rfl rfl ?_;show Wp _ _ _ _ (Tryz.f129.body.get rfl) _ _;simp only[Tryz.f129,AS])
  refine aw ?_;exact FJ hR.out hid2.out rfl rfl
 .by_cases hn2:(p.nodes.length:Int)≤n
  ·(refine Ah rfl Tryz.func129 rfl rfl rfl ?_;show Wp _ _ _ _ (Tryz.f129.body.get rfl) _ _;simp only[Tryz.f129,AS])
   refine aw ?_;exact FJ hR.out hid2.out rfl rfl
  .have hne:p.nodes.length≠0:=by omega
   have hn0:0≤n:=by omega
   have hlt:n.toNat<p.nodes.length:=by omega
   have ht:=hb.out (by omega) (by omega);have lmt:=lmt hne;rw[BC hne,BC hne]at lbox;have hlv:AA (Abs.Obj.box [.d (.be (p.free.map Av)),.d (.be (p.nodes.map Ad)),.d (.be (p.defs.map Ax)),.d (.int .i64 p.main),.em sz 0 p.nodes.length,.em ow 0 p.nodes.length,slv us p.defs.length,.d (.bool true)]=DZ p sz ow us true):=⟨by rw[DZ,BC hne,BC hne]⟩
   (refine Ah rfl Tryz.func129 rfl rfl rfl ?_;show Wp _ _ _ _ (Tryz.f129.body.get rfl) _ _;simp only[Tryz.f129,AS])
   refine aw ?_;exact FJ hR.out hid2.out hlv.out rfl
theorem ZI(p:AI)(hN:p.nodes.length≤60)(hD:p.defs.length≤12)(hdefs: ∀d∈p.defs,d.okG=true): ∀(k:Nat) (n size:Int) (st:BN) (h:AB) (π:List Nat) (l sz ow us:Abs.Id),Dw st.met≤k→st.fit p→0≤size→size+70*k≤5000→XG π l sz ow us→Gh h p l sz ow us st false→
 ∃o h',KL Tryz.prog cfg (.fn 129) [.ptr l 0,.d (.int .i64 n),.d (.int .i64 size)] h π true none=.ok (o,h')∧RE p l sz ow us h π (BB p k n size st) o h':=by
 intro k;induction k with
 |zero=>
  intro n size st h π l sz ow us hk hfit h0 hb hid hl;refine Ik p hN n size st h π l sz ow us hfit hid hl fun h1 h2=>?_;obtain⟨t,ht⟩:=get_some (l:=st.met) (i:=n.toNat) (by rw[hfit.met];omega);cases t with
  |true=>exact ht
  |false=>have:=Ew ht;omega
 |succ k ih=>
 intro n size st h π l sz ow us hk hfit h0 hb hid hl;have hid2:=AA.mk hid;obtain⟨ul,us_,um,ud,ls,lm,ld,sl,sm,sd,ml,ms,md,dl,ds,dm⟩:=hid;have hl2:=AA.mk hl;obtain⟨lbox,lsz,lmt,ldf,_,_,_⟩:=hl;have e1:=AG ul;have e2:=AG us_;have e3:=AG um;have e4:=AG ud;have e5:=Al ul;have e6:=Al us_;have e7:=Al um;have e8:=Al ud;by_cases hn:n<0
 .have e:BB p (k+1) n size st=none:=by
   rw[BB,CS fun hh=>by omega]
  rw[e];exact Ik p hN n size st h π l sz ow us hfit hid2.out hl2.out fun h=>by omega
 .by_cases hn2:(p.nodes.length:Int)≤n
  .have e:BB p (k+1) n size st=none:=by
    rw[BB];split
    .rename_i hh;have:=AH hh.2;rw[hfit.met]at this;omega
    .rfl
   rw[e];exact Ik p hN n size st h π l sz ow us hfit hid2.out hl2.out fun _ h=>by omega
  .have hne:p.nodes.length≠0:=by omega
   have hn0:0≤n:=by omega
   have hn3:n<p.nodes.length:=by omega
   have hlt:n.toNat<p.nodes.length:=by omega
   obtain⟨x,hx⟩:=get_some hlt;obtain⟨t,ht⟩:=get_some (l:=st.met) (i:=n.toNat) (by rw[hfit.met];omega);obtain⟨s0,hs0⟩:=get_some (l:=st.ce) (i:=n.toNat) (by rw[hfit.ce];omega);have lmt:=lmt rfl hne;have lsz:=lsz rfl hne;rw[DZ,BC hne,BC hne]at lbox;replace ih:=AA.mk ih;replace ldf:=AA.mk ldf;have hfs:=hfit.ce;have hfm:=hfit.met;cases t with
   |true=>
    have e:BB p (k+1) n size st=none:=by
     rw[BB,CS];rw[ht];simp
    rw[e];exact Ik p hN n size st h π l sz ow us hfit hid2.out hl2.out fun _ _=>ht
   |false=>
    (refine Ah rfl Tryz.func129 rfl rfl rfl ?_;show Wp _ _ _ _ (Tryz.f129.body.get rfl) _ _;simp only[Tryz.f129,AS])
    have hs:=AA.mk (Ny (p:=p) (k:=k) (size:=size) hn0 ht hx);have hbad:=AA.mk (Vb (p:=p) (k:=k) (size:=size) hn0 ht hx);obtain⟨xo,xn,xa,xk⟩:=x;have hLV:AA (∀b,Abs.Obj.box [.d (.be (p.free.map Av)),.d (.be (p.nodes.map Ad)),.d (.be (p.defs.map Ax)),.d (.int .i64 p.main),.em sz 0 p.nodes.length,.em ow 0 p.nodes.length,slv us p.defs.length,.d (.bool b)]=DZ p sz ow us b):=.mk fun b=>by
     rw[DZ,BC hne,BC hne]
    have hn0':AA (∀o o',XH p l sz ow us h π [(48,o')] (st.meet n size) false ((((h.put ow (.co 1 ((List.map H8 st.met).set n.toNat [.int .i64 1]))).put sz (.co 1 ((List.map AK st.ce).set n.toNat [.int .i64 size]))).put (0::48::π) o).put (0::48::π) o')):=.mk fun o o'=>by
     refine⟨⟨?_,fun _ _=>?_,fun _ _=>?_,fun _ hd=>?_,fun _=>?_,fun _=>?_,fun hd=>?_⟩,?_,fun id' h1 h0 h2 h3 h4=>?_⟩
     .rw[←hLV.out];simp only[get_put,e1,sl,ml,AM,ES,lbox]
     .simp only[get_put,e2,is_self,AM,ES,F3,BN.meet,JP];rfl
     .simp only[get_put,e3,sm,is_self,AM,ES,F3,BN.meet,JP];rfl
     .simp only[get_put,e4,sd,md,AM,ES,BN.meet,ldf.out rfl hd]
     .exact⟨_,by simp only[get_put,e2,is_self,AM,ES,F3];rfl⟩
     .exact⟨_,by simp only[get_put,e3,sm,is_self,AM,ES,F3];rfl⟩
     .exact⟨_,by simp only[get_put,e4,sd,md,AM,ES,ldf.out rfl hd];rfl⟩
     .intro q hq;cases As.1 hq;simp only[get_put,is_self,F3]
     .simp only[get_put,AG h1,h2,h3,AM,ES]
    by_cases o4:xo=4
    .subst o4;have hgood: ∀{P:Prop},P→AA P:=fun h=>⟨h⟩;by_cases x0:xn<0
     ·(repeat' (first|simp only[go_sem, *,KX,K0]|(refine sx ?_ ?_<;>intro hc)|refine sy (by omega) fun x hx hm=>?_|simp(disch:=first|assumption|omega) only[AJ]))
      all_goals try(exact FJ (hn0'.out _ _) hid2.out (hLV.out _) (hbad.out (by clear e1 e2 e3 e4 e5 e6 e7 e8 lbox lmt lsz hs hbad ih hn0' hLV;grind [Cc,DN,Wo,Ea])))
      rw[Cy];refine aw ?_;exact FJ (hn0'.out _ _) hid2.out (hLV.out _) (hbad.out (by clear e1 e2 e3 e4 e5 e6 e7 e8 lbox lmt lsz hs hbad ih hn0' hLV;grind [Cc,DN,Wo,Ea]))
     by_cases x1:(p.defs.length:Int)≤xn
     ·(repeat' (first|simp only[go_sem, *,KX,K0]|(refine sx ?_ ?_<;>intro hc)|refine sy (by omega) fun x hx hm=>?_|simp(disch:=first|assumption|omega) only[AJ]))
      all_goals try(exact FJ (hn0'.out _ _) hid2.out (hLV.out _) (hbad.out (by clear e1 e2 e3 e4 e5 e6 e7 e8 lbox lmt lsz hs hbad ih hn0' hLV;grind [Cc,DN,Wo,Ea])))
      rw[Cy];refine aw ?_;exact FJ (hn0'.out _ _) hid2.out (hLV.out _) (hbad.out (by clear e1 e2 e3 e4 e5 e6 e7 e8 lbox lmt lsz hs hbad ih hn0' hLV;grind [Cc,DN,Wo,Ea]))
     have x2:0≤xn:=by omega
     have x3:xn<p.defs.length:=by omega
     have hdl:p.defs.length≠0:=by omega
     have hxlt:xn.toNat<p.defs.length:=by omega
     obtain⟨d,hd⟩:=get_some hxlt;obtain⟨t,htd⟩:=get_some (l:=st.defs) (i:=xn.toNat) (by rw[hfit.defs];omega);have hfd:=hfit.defs;have ldf2:=ldf.out rfl hdl;rw[BC hdl]at lbox;have hg:=hdefs d (Ac hd);have hdo:=Sd hg;have c1:=hdo.am;have c2:=hdo.ac;have c3:=hdo.rules;have hown:=Nk hdo;have hok:=AA6 d (by omega) (by omega);replace hdo:=AA.mk hdo;have hinto:AA (Qo p size ⟨4,xn,xa,xk⟩ (st.meet n size)=if st.defs[xn.toNat]? =some false∧d.okG=true then some (Cf d (size+d.own) d.rules++(CG (size+d.own) d.ac++B9 (size+d.own) xk),{st.meet n size with defs:=st.defs.set xn.toNat true})else none):=by
      refine⟨?_⟩;rw[Qo,DO rfl,hd];rfl
     have hLV2:AA (∀b,Abs.Obj.box [.d (.be (p.free.map Av)),.d (.be (p.nodes.map Ad)),.d (.be (p.defs.map Ax)),.d (.int .i64 p.main),.em sz 0 p.nodes.length,.em ow 0 p.nodes.length,.em us 0 p.defs.length,.d (.bool b)]=DZ p sz ow us b):=.mk fun b=>by
      rw[DZ,BC hne,BC hne,BC hdl]
     cases t with
     |true=>
      have hno:AA (BB p (k+1) n size st=none):=by
       refine⟨?_⟩;rw[hs.out,hinto.out,htd];split
       .rw[CS (by simp)]
       .rfl
      (repeat' (first|simp only[go_sem, *,KX,K0]|(refine sx ?_ ?_<;>intro hc)|refine sy (by omega) fun x hx hm=>?_|simp(disch:=first|assumption|omega) only[AJ]))
      all_goals try(exact FJ (hn0'.out _ _) hid2.out (hLV2.out _) hno.out)
      rw[Cy];refine aw ?_;exact FJ (hn0'.out _ _) hid2.out (hLV2.out _) hno.out
     |false=>
      (repeat' (first|simp only[go_sem, *,KX,K0]|(refine sx ?_ ?_<;>intro hc)|refine sy (by omega) fun x hx hm=>?_|simp(disch:=first|assumption|omega) only[AJ]))
      all_goals try(exact FJ (hn0'.out _ _) hid2.out (hLV2.out _) (hbad.out (by clear e1 e2 e3 e4 e5 e6 e7 e8 lbox lmt lsz hs hbad ih hn0' hLV;grind [Cc,DN,Wo,Ea])))
      rw[Cy];refine aw ?_;have hR:=ADq (hn0'.out (.box [.d (.int .i64 0),.d (.int .i64 0),.ci,.ci]) (.box [.d (.int .i64 4),.d (.int .i64 xn),.d (.be (xa.map BU)),.d (.be (xk.map AK))])) hid2.out xn.toNat;have hfit2:BN.fit p {st.meet n size with defs:=(st.meet n size).defs.set xn.toNat true}:=by
       have:=Ow hfit n size;exact⟨this.ce,this.met,by simp[BN.meet,hfit.defs]⟩
      have hun2:Dw (st.meet n size).met≤k:=by
       have:=Ew ht;simp only[BN.meet];omega
      have h00:(xa.length:Int)=0:=by assumption
      have h11:(xk.length:Int)=1:=by assumption
      have hxa:xa=[]:=Cs (by omega);have hv0:AA (BB p (k+1) n size st=match B8 (BB p k) (Cf d (size+d.own) d.rules++CG (size+d.own) d.ac) {st.meet n size with defs:=(st.meet n size).defs.set xn.toNat true}with|some st'=>B8 (BB p k) (B9 (size+d.own) xk) st'|none=>none):=by
       refine⟨?_⟩;rw[hs.out,DO,hinto.out,DO ⟨htd,hg⟩]
       .rw[←OH,EM];rfl
       .clear e1 e2 e3 e4 e5 e6 e7 e8 lbox lmt lsz hs hbad ih hn0' hLV hR hfit2 hun2;grind [Cc,DN,Wo,Ea]
      refine AX (xx p hN hD k ih.out d hdo.out (size+d.own) {st.meet n size with defs:=(st.meet n size).defs.set xn.toNat true} _ _ l sz ow us hun2 hfit2 (by omega) (by omega) (FM hid2.out _) hR.looks) (fun o1 g1 p1=>?_)
      obtain rfl:=p1.ret;have hn1: ∀j,j≠48→ ∀q∈ [((48:Nat),Abs.Obj.box [.d (.int .i64 4),.d (.int .i64 xn),.d (.be (xa.map BU)),.d (.be (xk.map AK))])],j≠q.1:=by
       intro j hj q hq;cases As.1 hq;exact hj
      cases hvd:B8 (BB p k) (Cf d (size+d.own) d.rules++CG (size+d.own) d.ac) {st.meet n size with defs:=(st.meet n size).defs.set xn.toNat true}with
      |none=>
       have hf:=Fq hR hid2.out (hn1 168 (by decide)) (st':=st) (b':=true) (p1.no hvd _) p1.frame;have hr1:=hf.node _ (F1 ..);have hr2:=hf.looks.box;rw[←hLV2.out]at hr2;dsimp only at hr1;replace p1:=AA.mk p1;replace hR:=AA.mk hR;replace hn1:=AA.mk hn1;replace hvd:=AA.mk hvd;refine aw ?_;rw[Cy];refine aw ?_;exact FR hf (by rw[hv0.out,hvd.out])
      |some st2=>
       have hf:=Fq hR hid2.out (hn1 168 (by decide)) (p1.yes _ hvd) p1.frame;have hg2:iY {st.meet n size with defs:=(st.meet n size).defs.set xn.toNat true} st2:=Pa (R:=iY) (fun st=>⟨rfl,rfl,rfl,EL _⟩) (fun a b c h1 h2=>⟨h2.1.trans h1.1,h2.2.trans h1.2,h2.3.trans h1.3,Hm h2.4 h1.4⟩) (CR p k) hvd
       rw[hvd]at hv0;replace p1:=AA.mk p1;replace hR:=AA.mk hR;replace hn1:=AA.mk hn1;replace hvd:=AA.mk hvd;refine aw ?_;refine Aw xk (S:=fun i a=>⟨[(0,.ptr l 0),(6,.ptr (0::48::π) 0),(11,.d (.int .i64 (size+(d.own:Int)))),(12,.d (.int .i64 i))],a.1.1,a.2+170,[]⟩)
        (Inv:=fun i rest a=> ∃b,XH p l sz ow us h π [(48,.box [.d (.int .i64 4),.d (.int .i64 xn),.d (.be (xa.map BU)),.d (.be (xk.map AK))])] a.1.2 b a.1.1∧a.1.2.fit p∧Dw a.1.2.met≤k∧AA (b=false→BB p (k+1) n size st=B8 (BB p k) (B9 (size+d.own) rest) a.1.2)∧AA (b=true→BB p (k+1) n size st=none)) (b0:=((_,st2),_)) ?_ ?_ ?_
       .exact⟨false,hf,Gu hfit2 hg2,Hm hg2.less hun2,⟨fun _=>hv0.out⟩,⟨fun h=>(by cases h)⟩⟩
       all_goals clear hf p1 hR hn1 hvd g1 hv0 hg2 st2 hfit2 hun2
       .rintro i y ⟨⟨g,st1⟩,c⟩ hy hi him ⟨b,hf,hfit1,hun,hv,hno⟩ IH;dsimp only at*;have hr1:=hf.node _ (F1 ..);have hr2:=hf.looks.box;rw[←hLV2.out]at hr2;dsimp only at hr1;try simp only[*]at him
        cases b
        .refine aw ?_;refine AX (ih.out y (size+d.own) st1 _ _ l sz ow us hun hfit1 (by omega) (by omega) (FM hid2.out _) hf.looks) (fun o1 g1 p1=>?_);obtain rfl:=p1.ret;replace p1:=AA.mk p1;refine aw ?_;cases hvy:BB p k y (size+d.own) st1 with
         |none=>
          refine IH.out ((_,st1),_) ⟨true,Fq hf hid2.out ?_ (p1.out.no hvy _) p1.out.frame,hfit1,hun,⟨fun h=>(by cases h)⟩,⟨fun _=>?_⟩⟩
          .simp only[Ce,F8,Ls,GO,forall_eq];omega
          .rw[hv.out rfl];simp only[B9,D8,FN,B8,hvy]
         |some st2=>
          have hgr:=CR p _ _ _ _ _ hvy;refine IH.out ((_,st2),_) ⟨false,Fq hf hid2.out ?_ (p1.out.yes _ hvy) p1.out.frame,Gu hfit1 hgr,Hm hgr.less hun,⟨fun _=>?_⟩,⟨fun h=>(by cases h)⟩⟩
          .simp only[Ce,F8,Ls,GO,forall_eq];omega
          .rw[hv.out rfl];simp only[B9,D8,FN,B8,hvy]
        .refine aw ?_;exact FR hf (hno.out rfl)
       .rintro i ⟨⟨g,st1⟩,c⟩ hi him ⟨b,hf,hfit1,hun,hv,hno⟩;dsimp only at*;have hr1:=hf.node _ (F1 ..);have hr2:=hf.looks.box;rw[←hLV2.out]at hr2;dsimp only at hr1;try simp only[*]at him
        cases b
        .refine aw ?_;exact P3 hf (hv.out rfl)
        .refine aw ?_;exact FR hf (hno.out rfl)
    have hop:xo=3∨xo=1∨xo=7∨(xo=2)∨xo=5∨xo=6∨xo=8∨(¬xo=1∧ ¬xo=7∧ ¬xo=3∧ ¬xo=2∧ ¬xo=5∧ ¬xo=6∧ ¬xo=8):=by omega
    rcases hop with rfl|rfl|rfl|rfl|rfl|rfl|rfl|⟨n1,n2,n3,n4,n5,n6,n7⟩;all_goals ((repeat' (first|simp only[go_sem, *,KX,K0]|(refine sx ?_ ?_<;>intro hc)|refine sy (by omega) fun x hx hm=>?_|simp(disch:=first|assumption|omega) only[AJ])))
    all_goals try(exfalso;omega)
    all_goals try(exact FJ (hn0'.out _ _) hid2.out (hLV.out _) (hbad.out (by clear e1 e2 e3 e4 e5 e6 e7 e8 lbox lmt lsz hs hbad ih hn0' hLV;grind [Cc,DN,Wo,Ea])))
    all_goals
     refine Aw xa (S:=fun i a=>⟨[(0,.ptr l 0),(2,.d (.int .i64 size)),(6,.ptr (0::48::π) 0),(10,.d (.int .i64 i))],a.1.1,a.2+60,[]⟩)
      (Inv:=fun i rest a=>XH p l sz ow us h π _ (st.meet n size) a.1.2 a.1.1∧AA (xa.all (BS.ok size)=(!a.1.2&&rest.all (BS.ok size)))) (b0:=((_,false),_)) ⟨hn0'.out _ _,⟨rfl⟩⟩ ?_ ?_
     .rintro i y ⟨⟨g,b⟩,c⟩ hy hi him ⟨hf,hr⟩ IH;dsimp only at*;try(exfalso;omega)
      all_goals
       have hr1:=hf.node _ (F1 ..);have hr2:=hf.looks.box;rw[←hLV.out]at hr2;dsimp only at hr1;try simp only[*]at him
      all_goals
       cases b
       .refine aw ?_;refine IH.out ((_,_),_) ⟨iM hf hid2.out (hLV.out _) (by simp),⟨?_⟩⟩;rw[hr.out,D3];cases BS.ok size y<;>simp
       .refine aw ?_;refine IH.out ((_,_),_) ⟨iM hf hid2.out (hLV.out _) (by simp),⟨?_⟩⟩;rw[hr.out,D3];cases BS.ok size y<;>simp
     .rintro i ⟨⟨g,b⟩,c⟩ hi him ⟨hf,hr⟩;dsimp only at*;have hr1:=hf.node _ (F1 ..);have hr2:=hf.looks.box;rw[←hLV.out]at hr2;dsimp only at hr1;try simp only[*]at him
      cases b;all_goals
       ((repeat' (first|simp only[go_sem, *]|(refine sx ?_ ?_<;>intro hc)|refine sy (by omega) fun x hx hm=>?_|simp(disch:=first|assumption|omega) only[AJ])))
      all_goals
       have hall:AA (xa.all (BS.ok size)=_):=hr;simp only[Pu,Lt,OS,Ol]at hall;obtain⟨L,hLe⟩: ∃L,XH p l sz ow us h π L (st.meet n size) _ g∧ ∃o,L=[(48,o)]∧g.get (0::48::π)=some o:=⟨_,hf,_,rfl,hr1⟩;clear hf;obtain⟨hf,ob,hLe,hob⟩:=hLe;have hob2:=hr1.symm.trans hob;simp only[Bv]at hob2;replace hob2:=AA.mk hob2;clear hob;refine Aw xk (S:=fun i a=>⟨[(0,.ptr l 0),(6,.ptr (0::48::π) 0),(11,.d (.int .i64 size)),(12,.d (.int .i64 i))],a.1.1,a.2+60,[]⟩)
        (Inv:=fun i rest a=> ∃b,XH p l sz ow us h π L a.1.2 b a.1.1∧a.1.2.fit p∧Dw a.1.2.met≤k∧AA (b=false→BB p (k+1) n size st=B8 (BB p k) (B9 size rest) a.1.2)∧AA (b=true→BB p (k+1) n size st=none)) (b0:=((_,st.meet n size),_)) ?_ ?_ ?_
       .dsimp only;refine⟨_,iM hf hid2.out (hLV.out _) (by simp),Ow hfit _ _,?_,⟨fun hb'=>?_⟩,⟨fun hb'=>?_⟩⟩
        .have:=Ew ht;simp only[BN.meet];omega
        .rw[hs.out,DO,Qo]
         .simp
         .replace hall:=hall.out;clear e1 e2 e3 e4 e5 e6 e7 e8 lbox lmt lsz hs hbad ih hn0' hLV hf hr1 hr2;grind [Cc,DN,Wo,Ea]
        .refine hbad.out ?_;replace hall:=hall.out;clear e1 e2 e3 e4 e5 e6 e7 e8 lbox lmt lsz hs hbad ih hn0' hLV hf hr1 hr2;grind [Cc,DN,Wo,Ea]
       all_goals clear hf hr1 hr2 hr hi him g c i hall
       .rintro i y ⟨⟨g,st1⟩,c⟩ hy hi him ⟨b,hf,hfit1,hun,hv,hno⟩ IH;dsimp only at*;try(exfalso;omega)
        all_goals
         have hr1:=hf.node (48,ob) (by rw[hLe];exact F1 ..);rw[←hob2.out]at hr1;have hr2:=hf.looks.box;rw[←hLV.out]at hr2;dsimp only at hr1;try simp only[*]at him
        all_goals
         cases b
         .refine aw ?_;refine AX (ih.out y size st1 g _ l sz ow us hun hfit1 h0 (by omega) (FM hid2.out _) hf.looks) (fun o1 g1 p1=>?_);obtain rfl:=p1.ret;replace p1:=AA.mk p1;refine aw ?_;cases hvy:BB p k y size st1 with
          |none=>
           refine IH.out ((_,st1),_) ⟨true,Fq hf hid2.out ?_ (p1.out.no hvy _) p1.out.frame,hfit1,hun,⟨fun h=>(by cases h)⟩,⟨fun _=>?_⟩⟩
           .rw[hLe];simp only[Ce,F8,Ls,GO,forall_eq];omega
           .rw[hv.out rfl];simp only[B9,D8,B8,hvy]
          |some st2=>
           have hgr:=CR p _ _ _ _ _ hvy;refine IH.out ((_,st2),_) ⟨false,Fq hf hid2.out ?_ (p1.out.yes _ hvy) p1.out.frame,Gu hfit1 hgr,Hm hgr.less hun,⟨fun _=>?_⟩,⟨fun h=>(by cases h)⟩⟩
           .rw[hLe];simp only[Ce,F8,Ls,GO,forall_eq];omega
           .rw[hv.out rfl];simp only[B9,D8,B8,hvy]
         .refine aw ?_;exact FR hf (hno.out rfl)
       .rintro i ⟨⟨g,st1⟩,c⟩ hi him ⟨b,hf,hfit1,hun,hv,hno⟩;dsimp only at*;have hr1:=hf.node (48,ob) (by rw[hLe];exact F1 ..);rw[←hob2.out]at hr1;have hr2:=hf.looks.box;rw[←hLV.out]at hr2;dsimp only at hr1;try simp only[*]at him
        cases b
        .refine aw ?_;exact P3 hf (hv.out rfl)
        .refine aw ?_;exact FR hf (hno.out rfl)
theorem wU{p:AI}{st:BN}{sz mt:Abs.Id}{i:Nat}{s:Int}(hl:Iq h p l sz mt df st)(hi:i<p.nodes.length)(hs:st.ce[i]? =some s)(hz:st.ce.length=p.nodes.length)(π:List Nat):KL Tryz.prog cfg (.fn 166) [.ptr l 0,.d (.int .i64 i)] h π true none=.ok (.ret (.d (.int .i64 s)),h):=by
 obtain⟨b1,b2,b3,b4⟩:=hl;have hN:p.nodes.length≠0:=by omega
 have b2:=b2 hN;rw[BC hN,BC hN]at b1;refine AEM rfl Tryz.func166 rfl rfl rfl ?_;show Wp _ _ _ _ (Tryz.f166.body.get rfl) _ _;simp only[Tryz.f166,AS];exact au
theorem KN{p:AI}{sz mt:Abs.Id}{st:BN}{g:AB}(hf:Iq g p l sz mt df st)(hi:XG π l sz mt df)(t j:Nat)(o:Abs.Obj):Iq (g.put (t::j::π) o) p l sz mt df st:=
 ⟨by rw[get_put,AG hi.ul];exact hf.box,fun hn=>by rw[get_put,AG hi.us];exact hf.ce hn,fun hn=>by rw[get_put,AG hi.um];exact hf.met hn,fun hn=>by rw[get_put,AG hi.ud];exact hf.defs hn⟩
theorem xb(p:AI)(hN:p.nodes.length≤60)(st:BN)(h:AB)(π:List Nat)(l sz mt df a b:Abs.Id)(hl:Iq h p l sz mt df st)(hz:st.ce.length=p.nodes.length)(hid:XG π l sz mt df)
 (ha:h.get a=some (.box [.d (.be (p.free.map Av)),.d (.be (p.nodes.map Ad)),.d (.be (p.defs.map Ax)),.d (.int .i64 p.main)])) (hb:h.get b=some (.box [.fn 166 [] []])) (ua:Id.under π a=false) (ub:Id.under π b=false) (hp:0<p.nodes.length):
 ∃o h',KL Tryz.prog cfg (.fn 187) [.ptr l 0,.ptr a 0,.ptr b 0] h π true none=.ok (o,h')∧(∃j,o=.ret (.em (1::j::π) 0 p.nodes.length)∧h'.get (1::j::π)=some (.co 1 (st.ce.map AK)))∧ ∀id',Id.under π id'=false→h'.get id'=h.get id':=by
 (refine Ah rfl Tryz.func187 rfl rfl rfl ?_;show Wp _ _ _ _ (Tryz.f187.body.get rfl) _ _;simp only[Tryz.f187,AS])
 have hid:=AA.mk hid;have hl:=AA.mk hl;have hz2:=AA.mk hz;have u1:=AG ub;have u2:=AF ub;refine aw ?_;refine AY st.ce _ (fun m i a=>⟨[(0,.ptr l 0),(2,.ptr b 0),(5,a.1.2),(9,.d (.int .i64 m)),(10,.d (.int .i64 i))],a.1.1,a.2+6,[]⟩)
  (Inv:=fun i rest a=>AA (Iq a.1.1 p l sz mt df st)∧a.1.1.get b=some (.box [.fn 166 [] []])∧AA (∀id',Id.under π id'=false→a.1.1.get id'=h.get id')∧AA (i=0∧a.1.2=.ci∨ ∃j,j<a.2+6∧a.1.2=.em (1::j::π) 0 i∧a.1.1.get (1::j::π)=some (.co 1 ((st.ce.take i).map AK)))) (b0:=((h,.ci),0)) ?_ ⟨hl,hb,⟨fun _ _=>rfl⟩,⟨.inl ⟨rfl,rfl⟩⟩⟩ ?_ ?_
 .omega
 .rintro i y ⟨⟨g,v⟩,c⟩ hy hi him ⟨hl,hb,hfr,hv⟩ IH;dsimp only at*;have hk:=fun ρ=>wU hl.out (by omega) hy hz ρ;rcases hv.out with⟨rfl,rfl⟩|⟨j,hj,rfl,hj2⟩
  .clear hv;have him0:(0:Int)<p.nodes.length:=by omega
   have hk: ∀ρ,KL Tryz.prog cfg (.fn 166) [.ptr l 0,.d (.int .i64 0)] g ρ true none=.ok (.ret (.d (.int .i64 y)),g):=hk;refine aw ?_;refine IH.out ((_,_),_) ⟨⟨KN (KN (Lk hl.out (FM hid.out _)) hid.out _ _ _) hid.out _ _ _⟩,?_,⟨fun id' hu=>?_⟩,⟨.inr ⟨_,?_,rfl,?_⟩⟩⟩
   .simp only[go_sem,u1,u2,hb]
   .have hu1:=AG hu;have hu2:=AF hu;simp only[go_sem,hu1,hu2,hfr.out id' hu,AM]
   .omega
   .simp only[go_sem];rw[Jp,hy];rfl
  .clear hv;have n1: ¬c+13=j:=by omega
   have n2: ¬c+14=j:=by omega
   have n3: ¬c+15=j:=by omega
   have tk:(st.ce.take i).length=i:=by simp;omega
   have nle: ¬i+1≤i:=by omega
   (repeat' (first|simp only[go_sem, *,EL]|(refine sx ?_ ?_<;>intro hc)|refine sy (by omega) fun x hx hm=>?_|simp(disch:=first|assumption|omega) only[AJ]))
   refine IH.out ((_,_),_) ⟨⟨KN (KN (KN (Lk hl.out (FM hid.out _)) hid.out _ _ _) hid.out _ _ _) hid.out _ _ _⟩,?_,⟨fun id' hu=>?_⟩,⟨.inr ⟨_,?_,rfl,?_⟩⟩⟩
   .simp only[go_sem,u1,u2,hb]
   .have hu1:=AG hu;have hu2:=AF hu;simp only[go_sem,hu1,hu2,hfr.out id' hu,AM]
   .omega
   .simp only[go_sem];have:List.take i (List.map AK (List.take i st.ce))=List.map AK (List.take i st.ce):=DL (by simp;omega);rw[this,Jp,hy,D0];rfl
 .rintro i ⟨⟨g,v⟩,c⟩ hi him ⟨hl,hb,hfr,hv⟩;dsimp only at*;rcases hv.out with⟨rfl,rfl⟩|⟨j,hj,rfl,hj2⟩
  .exfalso;omega
  .clear hv;refine aw ?_;have hiN:=hi.out;refine⟨⟨_,by rw[hiN,hz],?_⟩,hfr.out⟩;rw[hj2,hiN,Em]
theorem EW(i t j k:Nat)(π:List Nat)(h:i≠k):Id.under (i::π) (t::j::k::π)=false:=EZ fun hs=>by
 rcases ID.1 hs with e|hs
 .have:=congrArg List.length e;simp at this
 rcases ID.1 hs with e|hs
 .have:=congrArg List.length e;simp at this
 rcases ID.1 hs with e|hs
 .simp only[NO,and_true]at e;exact h e
 .have:=hs.length_le;simp at this;omega
theorem nI{g:AB}{p:AI}{sz mt:Abs.Id}{st:BN}(hl:Iq g p l sz mt df st):Iq (g++h) p l sz mt df st:=⟨DK hl.box,fun hn=>DK (hl.ce hn),fun hn=>DK (hl.met hn),fun hn=>DK (hl.defs hn)⟩
structure ay(p:AI)(o:Ae)(h':AB):Prop where
 no:looks p=none→o=.ret (.ge [.ci,.d (.int .i64 2)])
 yes: ∀st,looks p=some st→ ∃id,o=.ret (.ge [.em (1::id) 0 p.nodes.length,.d (.int .i64 0)])∧h'.get (1::id)=some (.co 1 (st.ce.map AK))
theorem nH(p:AI)(hp: ∀s∈p.free,s.size≤maxLen)(h:AB)(π:List Nat)(a b:Abs.Id)
 (ha:h.get a=some (.box [.d (.be (p.free.map Av)),.d (.be (p.nodes.map Ad)),.d (.be (p.defs.map Ax)),.d (.int .i64 p.main)])) (hb:h.get b=some (.box [.fn 166 [] []])) (ua:Id.under π a=false) (ub:Id.under π b=false):
 ∃o h',KL Tryz.prog cfg (.fn 186) [.agg [.d (.be (p.free.map Av)),.d (.be (p.nodes.map Ad)),.d (.be (p.defs.map Ax)),.d (.int .i64 p.main)],.fn 187 [] [.ptr a 0,.ptr b 0]] h π true none=.ok (o,h')∧ay p o h':=by
 (refine Ah rfl Tryz.func186 rfl rfl rfl ?_;show Wp _ _ _ _ (Tryz.f186.body.get rfl) _ _;simp only[Tryz.f186,AS])
 have hp:=AA.mk hp;have u1:=AG ua;have u2:=AF ua;have v1:=AG ub;have v2:=AF ub;obtain⟨r,e,hpost⟩:=zW p hp.out 6 π;cases hlk:looks p with
 |none=>
  obtain rfl:=hpost.f9 hlk;refine aw ?_;exact⟨fun _=>rfl,fun st hst=>by rw[hlk]at hst;cases hst⟩
 |some st=>
  obtain⟨hh,rfl,hL,hnew⟩:=hpost.ret st hlk;replace hnew:=AA.mk hnew;replace hL:=AA.mk hL;have hF:=AA.mk (B5 hlk);have hz:=hF.out.len;have hsm:=hF.out.small;simp only[AI.small,AP,Ap]at hsm;have hN:0<p.nodes.length:=by
   have h1:=hF.out.main.2;have:=AH h1;omega
  refine aw ?_;refine AX (xb p hsm.2.1 st _ _ (0::16::6::π) (1::6::6::π) (1::10::6::π) (1::14::6::π) a b (nI hL.out) hz ?_ ?_ ?_ (u2 _) (v2 _) hN) (fun o1 g1 p1=>?_)
  .constructor<;>first|exact EW _ _ _ _ _ (by decide)|simp only[go_sem]
  .rw[Bb (hnew.out a (u2 _))];simp only[go_sem,u1,ha,AM]
  .rw[Bb (hnew.out b (v2 _))];simp only[go_sem,v1,hb,AM]
  obtain⟨⟨j,rfl,r1⟩,fr⟩:=p1;have r2:=fr (0::2::π) (Cg _ _ _ _ (by decide));rw[Bb (hnew.out (0::2::π) (Cg _ _ _ _ (by decide)))]at r2;simp only[get_put,is_self,F3]at r2;replace fr:=AA.mk fr;refine aw ?_;refine⟨fun hst=>by{rw[hlk]at hst;cases hst},fun st' hst=>?_⟩;rw[hlk]at hst;cases hst;exact⟨_,rfl,by simp only[go_sem,r1]⟩
def J5:Option BN→AV
 |none=>.ge [.d (.be []),.d (.int .i64 2)]
 |some st=>.ge [.d (.be (st.ce.map AK)),.d (.int .i64 0)]
theorem yI(p:AI)(hp: ∀s∈p.free,s.size≤maxLen):BJ (KL Tryz.prog cfg) 165 [.agg [.d (.be (p.free.map Av)),.d (.be (p.nodes.map Ad)),.d (.be (p.defs.map Ax)),.d (.int .i64 p.main)],.fn 166 [] []] []=.ok (.ret (J5 (looks p)),[]):=by
 replace hp:=AA.mk hp
 (refine Ar rfl Tryz.func165 rfl rfl rfl ?_;show Wp _ _ _ _ (Tryz.f165.body.get rfl) _ _;simp only[Tryz.f165,AS])
 refine aw ?_;refine AX (nH p hp.out _ _ _ _ ?_ ?_ ?_ ?_) (fun o1 g1 p1=>?_)
 .simp only[go_sem]
 .simp only[go_sem]
 .simp only[go_sem]
 .simp only[go_sem]
 cases hlk:looks p with
 |none=>
  obtain rfl:=p1.no hlk;clear p1
  (repeat' (first|simp only[go_sem, *,J5]|(refine sx ?_ ?_<;>intro hc)|refine sy (by omega) fun x hx hm=>?_|simp(disch:=first|assumption|omega) only[AJ]))
 |some st=>
  obtain⟨id,rfl,r1⟩:=p1.yes st hlk;clear p1;have hz:=(B5 hlk).len;have tk1:List.take p.nodes.length (List.map AK st.ce)=List.map AK st.ce:=DL (by simp[hz])
  (repeat' (first|simp only[go_sem, *,J5,EL]|(refine sx ?_ ?_<;>intro hc)|refine sy (by omega) fun x hx hm=>?_|simp(disch:=first|assumption|omega) only[AJ]))
theorem qa(p:AI)(hp: ∀s∈p.free,s.size≤maxLen):BJ (KL Tryz.prog cfg) 109 [.agg [.d (.be (p.free.map Av)),.d (.be (p.nodes.map Ad)),.d (.be (p.defs.map Ax)),.d (.int .i64 p.main)]] []=.ok (.ret (J5 (looks p)),[]):=by
 have hk:=yI p hp;clear hp
 (refine Ar rfl Tryz.func109 rfl rfl rfl ?_;show Wp _ _ _ _ (Tryz.f109.body.get rfl) _ _;simp only[Tryz.f109,AS])
 cases hlk:looks p with
 |none=>
  rw[hlk,J5]at hk
  (repeat' (first|simp only[go_sem, *,J5]|(refine sx ?_ ?_<;>intro hc)|refine sy (by omega) fun x hx hm=>?_|simp(disch:=first|assumption|omega) only[AJ]))
 |some st=>
  rw[hlk,J5]at hk
  (repeat' (first|simp only[go_sem, *,J5]|(refine sx ?_ ?_<;>intro hc)|refine sy (by omega) fun x hx hm=>?_|simp(disch:=first|assumption|omega) only[AJ]))
theorem g9: ∀(a b:List UInt8),(Op.bytesLess a b||a==b)= !Op.bytesLess b a
 |[],[]=>by simp[Op.bytesLess]
 |[],b::y=>by simp[Op.bytesLess]
 |a::x,[]=>by simp[Op.bytesLess]
 |a::x,b::y=>by
  have ih:=g9 x y;simp only[Op.bytesLess,List.cons_beq_cons];by_cases h1:a<b
  .have h2: ¬b<a:=fun h=>by
    have:=UInt8.lt_asymm h1 h;exact this
   have h3:(b==a)=false:=by
    simp only[beq_eq_false_iff_ne];intro h;subst h;exact UInt8.lt_irrefl _ h1
   simp[h1,h2,h3]
  .by_cases h2:b<a
   .have h3:(a==b)=false:=by
     simp only[beq_eq_false_iff_ne];intro h;subst h;exact UInt8.lt_irrefl _ h2
    simp[h1,h2,h3]
   .have h3:a=b:=UInt8.le_antisymm (UInt8.not_lt.1 h2) (UInt8.not_lt.1 h1);subst h3;simp only[h1,decide_false,Ii,beq_self_eq_true,D7];exact ih
theorem pr(a b:ByteArray):(Op.bytesLess a.toList b.toList||a.toList==b.toList)= !aW b a:=g9 _ _
theorem YT{p:AI}{ce:List Int}(h:BD p ce): ∀d∈p.defs,d.okG=true:=by
 intro d hd;obtain⟨i,hi⟩:=IF hd;obtain⟨j,x,hx,hxo,hxn⟩:=h.used i (BE.1 hi).1;obtain⟨s,l,_,_,_,_,hl,_⟩:=h.node j x hx;rw[IA,DO hxo,hxn,hi]at hl;dsimp only at hl;split at hl
 .assumption
 .cases hl
structure xT(p:AI)(r:Ae×AB):Prop where
 no:looks p=none→ ∃h l x0 x1 x2 x3 x4 x5 x6,r=(.ret (.ptr (0::l) 0),h)∧h.get (0::l)=some (.box [x0,x1,x2,x3,x4,x5,x6,.d (.bool true)])
 yes: ∀st,looks p=some st→ ∃h l sz ow us,r=(.ret (.ptr (0::l) 0),h)∧Gh h p (0::l) (1::sz) (1::ow) (1::us) st false
theorem Q4(n:Nat):(List.replicate n (0:Int)).map AK=(List.replicate n false).map H8:=by
 rw[OP,OP];rfl
def st0:BN:=⟨[],[],[]⟩
theorem qh(p:AI)(k:Nat)(ρ:List Nat): ∃r:Ae×AB,BJ (KL Tryz.prog cfg) 83 [.agg [.d (.be (p.free.map Av)),.d (.be (p.nodes.map Ad)),.d (.be (p.defs.map Ax)),.d (.int .i64 p.main)]] (k::ρ)=.ok r∧xT p r:=by
 by_cases hs:p.small=true
 .have hs2:=AA.mk hs;simp only[AI.small,AP,Ap]at hs;obtain⟨c1,c2,c3⟩:=hs;have d1: ¬(12:Int)<p.free.length:=by omega
  have d2: ¬(60:Int)<p.nodes.length:=by omega
  have d3: ¬(12:Int)<p.defs.length:=by omega
  (refine Ft rfl Tryz.func83 rfl rfl rfl ?_;show Wp _ _ _ _ (Tryz.f83.body.get rfl) _ _;simp only[Tryz.f83,AS])
  refine aw ?_;refine Aw p.free (S:=fun i b=>⟨[(1,.ptr (0::0::k::ρ) 0),(3,.ptr (0::1::k::ρ) 0),(4,.d (.int .i64 i))],[(0::0::k::ρ,.box [.d (.be (p.free.map Av)),.d (.be (p.nodes.map Ad)),.d (.be (p.defs.map Ax)),.d (.int .i64 p.main)]),(0::1::k::ρ,.box [.d (.be (p.free.map Av)),.d (.be (p.nodes.map Ad)),.d (.be (p.defs.map Ax)),.d (.int .i64 p.main),.ci,.ci,.ci,.d (.bool b)])],2,[]⟩)
   (Inv:=fun i rest b=>AA ((!b&&H9 (if i=0 then none else p.free[i-1]?) rest)=Kn p.free)) (b0:=false) ⟨rfl⟩ ?_ ?_
  .rintro i y b hy hi him hr IH;have hnm:=vB y;rcases i with _|j
   .rw[DO rfl]at hr;have him0:(0:Int)<p.free.length:=by omega
    cases b;all_goals ((repeat' (first|simp only[go_sem, *]|(refine sx ?_ ?_<;>intro hc)|refine sy (by omega) fun x hx hm=>?_|simp(disch:=first|assumption|omega) only[AJ])))
    all_goals
     refine IH.out _ ⟨?_⟩;rw[←hr.out];rw[CS (by omega),Pl,hy];simp[H9,aW, *]
   .obtain⟨q,hq⟩:=get_some (l:=p.free) (i:=j) (by omega);rw[CS (by omega),Pl,hq]at hr;have w:IntKind.i64.wrap (((j+1:Nat):Int)-1)=(j:Int):=by rw[wrap_id (by omega) (by omega)];omega
    have w0:(0:Int)<((j+1:Nat):Int):=by omega
    cases b;all_goals ((repeat' (first|simp only[go_sem, *]|(refine sx ?_ ?_<;>intro hc)|refine sy (by omega) fun x hx hm=>?_|simp(disch:=first|assumption|omega) only[AJ])))
    all_goals
     refine IH.out _ ⟨?_⟩;rw[←hr.out];rw[CS (by omega),Pl,hy];simp[H9,pr, *]
  .rintro i b hi him hr;rw[H9,Lt]at hr;refine aw ?_;refine Aw p.defs (S:=fun i b=>⟨[(1,.ptr (0::0::k::ρ) 0),(3,.ptr (0::1::k::ρ) 0),(5,.d (.int .i64 i))],[(0::0::k::ρ,.box [.d (.be (p.free.map Av)),.d (.be (p.nodes.map Ad)),.d (.be (p.defs.map Ax)),.d (.int .i64 p.main)]),(0::1::k::ρ,.box [.d (.be (p.free.map Av)),.d (.be (p.nodes.map Ad)),.d (.be (p.defs.map Ax)),.d (.int .i64 p.main),.ci,.ci,.ci,.d (.bool b)])],2,[]⟩)
    (Inv:=fun i rest b=>AA ((!b&&rest.all Bq.okG)=(Kn p.free&&p.defs.all Bq.okG))) (b0:=b) ⟨?_⟩ ?_ ?_
   .rw[←hr.out]
   .clear hr hi him i b;rintro i y b hy hi him hr IH;have hdr:=xy y;rw[AEz]at hdr;cases b;all_goals (refine aw ?_)
    all_goals
     refine IH.out _ ⟨?_⟩;rw[←hr.out,D3];cases y.okG<;>simp
   .clear hr hi him i b;rintro i b hi him hr;rw[Pu,Lt]at hr;have him2: ¬(i:Int)<0:=by omega
    have hbadL:AA (b=true→looks p=none):=⟨fun hb=>by
     have hr:=hr.out;rw[hb]at hr;cases hl:looks p with
     |none=>rfl
     |some st=>
      exfalso;have hf:Kn p.free=true:=by
       unfold looks at hl;split at hl
       .rename_i h;exact h.2
       .cases hl
      have hd:p.defs.all Bq.okG=true:=Ci.2 (YT (B5 hl));rw[hf,hd]at hr;cases hr⟩
    cases b
    .have hfree:AA (Kn p.free=true):=⟨by have:=hr.out;simp at this;exact this.1.symm▸rfl⟩;have hdef:AA (∀d∈p.defs,d.okG=true):=⟨by have:=hr.out;simp at this;exact this.2⟩;by_cases hN0:p.nodes.length=0
     .by_cases hD0:p.defs.length=0
      ·(repeat' (first|simp only[go_sem, *]|(refine sx ?_ ?_<;>intro hc)|refine sy (by omega) fun x hx hm=>?_|simp(disch:=first|assumption|omega) only[AJ,EP,GW]))
       refine AX (Ik p c2 p.main p.free.length (BN.init p) _ _ (0::1::k::ρ) (1::13::k::ρ) (1::17::k::ρ) (1::21::k::ρ) ⟨?_,?_,?_⟩ ?_ ⟨?_,fun _ h=>absurd hN0 h,fun _ h=>absurd hN0 h,fun _ _=>?_,fun h=>absurd hN0 h,fun h=>absurd hN0 h,fun _=>?_⟩ ?_) (fun o1 g1 p1=>?_)
       .simp[BN.init]
       .simp[BN.init]
       .simp[BN.init]
       .constructor<;>first|exact Cg _ _ _ _ (by decide)|simp only[go_sem]
       .simp only[DZ,slv,hN0,hD0,ES,F3];simp only[go_sem]
       .exact absurd hD0 ‹_›
       .exact absurd hD0 ‹_›
       .omega
       obtain rfl:=p1.ret;have hl:=HD (ρ:=41::k::ρ) (p1.no rfl st0) (by constructor<;>first|exact Cg _ _ _ _ (by decide)|simp only[go_sem]);have q1:=hl.box;rw[DZ,H5 hN0,H5 hN0,H5 hD0]at q1;have hno:AA (looks p=none):=⟨by
        unfold looks;split
        .have:BB p (p.nodes.length+1) p.main p.free.length (BN.init p)=none:=by
          rw[BB,CS];intro hh;have:=AH hh.2;simp[BN.init]at this;omega
         rw[this]
        .rfl⟩
       replace hl:=AA.mk hl;replace p1:=AA.mk p1;refine aw ?_;rw[Cy];refine aw ?_;rw[Cy];refine aw ?_;exact⟨fun _=>⟨_,_,_,_,_,_,_,_,_,rfl,by(simp only[go_sem];try rfl)⟩,fun st hs=>(by rw[hno.out]at hs;cases hs)⟩
      ·(repeat' (first|simp only[go_sem, *]|(refine sx ?_ ?_<;>intro hc)|refine sy (by omega) fun x hx hm=>?_|simp(disch:=first|assumption|omega) only[AJ,EP,GW]))
       refine AX (Ik p c2 p.main p.free.length (BN.init p) _ _ (0::1::k::ρ) (1::13::k::ρ) (1::17::k::ρ) (1::21::k::ρ) ⟨?_,?_,?_⟩ ?_ ⟨?_,fun _ h=>absurd hN0 h,fun _ h=>absurd hN0 h,fun _ _=>?_,fun h=>absurd hN0 h,fun h=>absurd hN0 h,fun _=>?_⟩ ?_) (fun o1 g1 p1=>?_)
       .simp[BN.init]
       .simp[BN.init]
       .simp[BN.init]
       .constructor<;>first|exact Cg _ _ _ _ (by decide)|simp only[go_sem]
       .simp only[DZ,slv,hN0,hD0,ES,F3];simp only[go_sem]
       .simp only[go_sem,BN.init,Q4]
       .exact⟨_,by(simp only[go_sem];rfl)⟩
       .omega
       obtain rfl:=p1.ret;have hl:=HD (ρ:=41::k::ρ) (p1.no rfl st0) (by constructor<;>first|exact Cg _ _ _ _ (by decide)|simp only[go_sem]);obtain⟨C,q4⟩:=hl.kd hD0;have q1:=hl.box;rw[DZ,H5 hN0,H5 hN0,BC hD0]at q1;have hno:AA (looks p=none):=⟨by
        unfold looks;split
        .have:BB p (p.nodes.length+1) p.main p.free.length (BN.init p)=none:=by
          rw[BB,CS];intro hh;have:=AH hh.2;simp[BN.init]at this;omega
         rw[this]
        .rfl⟩
       replace hl:=AA.mk hl;replace p1:=AA.mk p1;refine aw ?_;rw[Cy];refine aw ?_;clear q1 q4 hl p1 hbadL hr him him2 hi i;refine AY (List.replicate p.defs.length ()) (S:=fun _ i (_:Unit)=>⟨[(3,.ptr (0::0::k::ρ) 0),(7,.d (.int .i64 i))],[(0::0::k::ρ,.box [.d (.be (p.free.map Av)),.d (.be (p.nodes.map Ad)),.d (.be (p.defs.map Ax)),.d (.int .i64 p.main),.emp,.emp,.em (1::1::k::ρ) 0 p.defs.length,.d (.bool true)]),(1::1::k::ρ,.co 1 C)],2,[]⟩)
        (Inv:=fun i rest b=>True) (b0:=()) (m:=p.defs.length) (by simp) trivial ?_ ?_
       .rintro i y b hy hi him hr IH;refine aw ?_;exact IH.out () trivial
       .rintro i b hi him hr;refine aw ?_;exact⟨fun _=>⟨_,_,_,_,_,_,_,_,_,rfl,by(simp only[go_sem];try rfl)⟩,fun st hs=>(by rw[hno.out]at hs;cases hs)⟩
     .by_cases hD0:p.defs.length=0
      ·(repeat' (first|simp only[go_sem, *]|(refine sx ?_ ?_<;>intro hc)|refine sy (by omega) fun x hx hm=>?_|simp(disch:=first|assumption|omega) only[AJ,EP,GW]))
       refine AX (ZI p c2 c3 hdef.out (p.nodes.length+1) p.main p.free.length (BN.init p) _ _ (0::1::k::ρ) (1::13::k::ρ) (1::17::k::ρ) (1::21::k::ρ) ?_ ⟨?_,?_,?_⟩ ?_ ?_ ?_ ⟨?_,fun _ _=>?_,fun _ _=>?_,fun _ _=>?_,fun _=>?_,fun _=>?_,fun _=>?_⟩) (fun o1 g1 p1=>?_)
       .have:=MF (BN.init p).met;simp only[BN.init,I0]at*;omega
       .simp[BN.init]
       .simp[BN.init]
       .simp[BN.init]
       .omega
       .omega
       .constructor<;>first|exact Cg _ _ _ _ (by decide)|simp only[go_sem]
       .simp only[DZ,slv,hN0,hD0,ES,F3];simp only[go_sem]
       .simp only[go_sem,BN.init]
       .simp only[go_sem,BN.init,Q4]
       .exact absurd hD0 ‹_›
       .exact⟨_,by(simp only[go_sem];rfl)⟩
       .exact⟨_,by(simp only[go_sem];rfl)⟩
       .exact absurd hD0 ‹_›
       obtain rfl:=p1.ret;cases hv:BB p (p.nodes.length+1) p.main p.free.length (BN.init p)with
       |none=>
        have hl:=HD (ρ:=41::k::ρ) (p1.no hv st0) (by constructor<;>first|exact Cg _ _ _ _ (by decide)|simp only[go_sem]);obtain⟨A,q2⟩:=hl.ks hN0;obtain⟨B,q3⟩:=hl.km hN0;have q1:=hl.box;rw[DZ,BC hN0,BC hN0,H5 hD0]at q1;have hno:AA (looks p=none):=⟨by
         unfold looks;rw[hv];split<;>rfl⟩
        replace hl:=AA.mk hl;replace p1:=AA.mk p1;refine aw ?_;clear q1 q2 q3 hl p1 hbadL hr him him2 hi i;refine AY (List.replicate p.nodes.length ()) (S:=fun _ i (_:Unit)=>⟨[(3,.ptr (0::0::k::ρ) 0),(6,.d (.int .i64 i))],[(0::0::k::ρ,.box [.d (.be (p.free.map Av)),.d (.be (p.nodes.map Ad)),.d (.be (p.defs.map Ax)),.d (.int .i64 p.main),.em (1::1::k::ρ) 0 p.nodes.length,.em (1::2::k::ρ) 0 p.nodes.length,.emp,.d (.bool true)]),(1::1::k::ρ,.co 1 (A)),(1::2::k::ρ,.co 1 (B))],3,[]⟩)
         (Inv:=fun i rest b=>True) (b0:=()) (m:=p.nodes.length) (by simp) trivial ?_ ?_
        .rintro i y b hy hi him hr IH;refine aw ?_;exact IH.out () trivial
        .rintro i b hi him hr;refine aw ?_;rw[Cy];refine aw ?_;exact⟨fun _=>⟨_,_,_,_,_,_,_,_,_,rfl,by(simp only[go_sem];try rfl)⟩,fun st hs=>(by rw[hno.out]at hs;cases hs)⟩
       |some st=>
        have hl:=HD (ρ:=41::k::ρ) (p1.yes st hv) (by constructor<;>first|exact Cg _ _ _ _ (by decide)|simp only[go_sem]);have q1:=hl.box;have q2:=hl.ce rfl hN0;have q3:=hl.met rfl hN0;rw[DZ,BC hN0,BC hN0,H5 hD0]at q1;replace hl:=AA.mk hl;replace p1:=AA.mk p1;refine aw ?_;have hg:=CR p _ _ _ _ _ hv;have m1:st.met.length=p.nodes.length:=by rw[hg.met];simp[BN.init]
        have m2:st.defs.length=p.defs.length:=by rw[hg.defs];simp[BN.init]
        have hlk:=AA.mk (Oq hs2.out hfree.out hv);clear q1 q2 q3 hl p1 hbadL hr him him2 hi i;refine AY st.met (S:=fun _ i b=>⟨[(3,.ptr (0::0::k::ρ) 0),(6,.d (.int .i64 i))],[(0::0::k::ρ,.box [.d (.be (p.free.map Av)),.d (.be (p.nodes.map Ad)),.d (.be (p.defs.map Ax)),.d (.int .i64 p.main),.em (1::1::k::ρ) 0 p.nodes.length,.em (1::2::k::ρ) 0 p.nodes.length,.emp,.d (.bool b)]),(1::1::k::ρ,.co 1 (st.ce.map AK)),(1::2::k::ρ,.co 1 (st.met.map H8))],3,[]⟩)
         (Inv:=fun i rest b=>AA ((!b&&rest.all id)=st.met.all id)) (b0:=false) (m:=p.nodes.length) (by omega) ⟨rfl⟩ ?_ ?_
        .rintro i y b hy hi him hr IH;have hiN:=Int.ofNat_lt.1 him;cases b<;>cases y;all_goals (refine aw ?_)
         all_goals
          refine IH.out _ ⟨?_⟩;rw[←hr.out];simp
        .rintro i b hi him hr;rw[Pu,Lt]at hr;refine aw ?_;rw[Cy];refine aw ?_;have hr:AA ((!b)=(st.met.all id&&st.defs.all id)):=⟨by
          rw[hr.out,Cs (m2.trans hD0)];simp⟩
         have hx:=hlk.out;cases b
         .have:st.met.all id=true∧st.defs.all id=true:=by have:=hr.out;simp only[Ol]at this;exact(AP _ _).mp this.symm
          rw[IK,IK]at this;rw[DO this]at hx;refine⟨fun hn=>(by rw[hx]at hn;cases hn),fun st' hs=>?_⟩;rw[hx]at hs;cases hs;refine⟨_,_,1::k::ρ,2::k::ρ,3::k::ρ,rfl,⟨?_,fun _ _=>?_,fun _ _=>?_,fun _ _=>?_,fun _=>?_,fun _=>?_,fun _=>?_⟩⟩
          .simp only[DZ,slv,hN0,hD0,ES,F3];simp only[go_sem]
          .simp only[go_sem]
          .simp only[go_sem]
          .exact absurd hD0 ‹_›
          .exact⟨_,by(simp only[go_sem];try rfl)⟩
          .exact⟨_,by(simp only[go_sem];try rfl)⟩
          .exact absurd hD0 ‹_›
         .have: ¬((¬false∈st.met)∧(¬false∈st.defs)):=fun h=>by
           rw[←IK,←IK]at h;have:=hr.out;rw[h.1,h.2]at this;cases this
          rw[CS this]at hx;exact⟨fun _=>⟨_,_,_,_,_,_,_,_,_,rfl,by(simp only[go_sem];try rfl)⟩,fun st hs=>(by rw[hx]at hs;cases hs)⟩
      ·(repeat' (first|simp only[go_sem, *]|(refine sx ?_ ?_<;>intro hc)|refine sy (by omega) fun x hx hm=>?_|simp(disch:=first|assumption|omega) only[AJ,EP,GW]))
       refine AX (ZI p c2 c3 hdef.out (p.nodes.length+1) p.main p.free.length (BN.init p) _ _ (0::1::k::ρ) (1::13::k::ρ) (1::17::k::ρ) (1::21::k::ρ) ?_ ⟨?_,?_,?_⟩ ?_ ?_ ?_ ⟨?_,fun _ _=>?_,fun _ _=>?_,fun _ _=>?_,fun _=>?_,fun _=>?_,fun _=>?_⟩) (fun o1 g1 p1=>?_)
       .have:=MF (BN.init p).met;simp only[BN.init,I0]at*;omega
       .simp[BN.init]
       .simp[BN.init]
       .simp[BN.init]
       .omega
       .omega
       .constructor<;>first|exact Cg _ _ _ _ (by decide)|simp only[go_sem]
       .simp only[DZ,slv,hN0,hD0,ES,F3];simp only[go_sem]
       .simp only[go_sem,BN.init]
       .simp only[go_sem,BN.init,Q4]
       .simp only[go_sem,BN.init,Q4]
       .exact⟨_,by(simp only[go_sem];rfl)⟩
       .exact⟨_,by(simp only[go_sem];rfl)⟩
       .exact⟨_,by(simp only[go_sem];rfl)⟩
       obtain rfl:=p1.ret;cases hv:BB p (p.nodes.length+1) p.main p.free.length (BN.init p)with
       |none=>
        have hl:=HD (ρ:=41::k::ρ) (p1.no hv st0) (by constructor<;>first|exact Cg _ _ _ _ (by decide)|simp only[go_sem]);obtain⟨A,q2⟩:=hl.ks hN0;obtain⟨B,q3⟩:=hl.km hN0;obtain⟨C,q4⟩:=hl.kd hD0;have q1:=hl.box;rw[DZ,BC hN0,BC hN0,BC hD0]at q1;have hno:AA (looks p=none):=⟨by
         unfold looks;rw[hv];split<;>rfl⟩
        replace hl:=AA.mk hl;replace p1:=AA.mk p1;refine aw ?_;clear q1 q2 q3 q4 hl p1 hbadL hr him him2 hi i;refine AY (List.replicate p.nodes.length ()) (S:=fun _ i (_:Unit)=>⟨[(3,.ptr (0::0::k::ρ) 0),(6,.d (.int .i64 i))],[(0::0::k::ρ,.box [.d (.be (p.free.map Av)),.d (.be (p.nodes.map Ad)),.d (.be (p.defs.map Ax)),.d (.int .i64 p.main),.em (1::1::k::ρ) 0 p.nodes.length,.em (1::2::k::ρ) 0 p.nodes.length,.em (1::3::k::ρ) 0 p.defs.length,.d (.bool true)]),(1::1::k::ρ,.co 1 (A)),(1::2::k::ρ,.co 1 (B)),(1::3::k::ρ,.co 1 (C))],4,[]⟩)
         (Inv:=fun i rest b=>True) (b0:=()) (m:=p.nodes.length) (by simp) trivial ?_ ?_
        .rintro i y b hy hi him hr IH;refine aw ?_;exact IH.out () trivial
        .rintro i b hi him hr;refine aw ?_;refine AY (List.replicate p.defs.length ()) (S:=fun _ i (_:Unit)=>⟨[(3,.ptr (0::0::k::ρ) 0),(7,.d (.int .i64 i))],[(0::0::k::ρ,.box [.d (.be (p.free.map Av)),.d (.be (p.nodes.map Ad)),.d (.be (p.defs.map Ax)),.d (.int .i64 p.main),.em (1::1::k::ρ) 0 p.nodes.length,.em (1::2::k::ρ) 0 p.nodes.length,.em (1::3::k::ρ) 0 p.defs.length,.d (.bool true)]),(1::1::k::ρ,.co 1 (A)),(1::2::k::ρ,.co 1 (B)),(1::3::k::ρ,.co 1 (C))],4,[]⟩)
          (Inv:=fun i rest b=>True) (b0:=()) (m:=p.defs.length) (by simp) trivial ?_ ?_
         .clear hr hi him i b;rintro i y b hy hi him hr IH;refine aw ?_;exact IH.out () trivial
         .clear hr hi him i b;rintro i b hi him hr;refine aw ?_;exact⟨fun _=>⟨_,_,_,_,_,_,_,_,_,rfl,by(simp only[go_sem];try rfl)⟩,fun st hs=>(by rw[hno.out]at hs;cases hs)⟩
       |some st=>
        have hl:=HD (ρ:=41::k::ρ) (p1.yes st hv) (by constructor<;>first|exact Cg _ _ _ _ (by decide)|simp only[go_sem]);have q1:=hl.box;have q2:=hl.ce rfl hN0;have q3:=hl.met rfl hN0;have q4:=hl.defs rfl hD0;rw[DZ,BC hN0,BC hN0,BC hD0]at q1;replace hl:=AA.mk hl;replace p1:=AA.mk p1;refine aw ?_;have hg:=CR p _ _ _ _ _ hv;have m1:st.met.length=p.nodes.length:=by rw[hg.met];simp[BN.init]
        have m2:st.defs.length=p.defs.length:=by rw[hg.defs];simp[BN.init]
        have hlk:=AA.mk (Oq hs2.out hfree.out hv);clear q1 q2 q3 q4 hl p1 hbadL hr him him2 hi i;refine AY st.met (S:=fun _ i b=>⟨[(3,.ptr (0::0::k::ρ) 0),(6,.d (.int .i64 i))],[(0::0::k::ρ,.box [.d (.be (p.free.map Av)),.d (.be (p.nodes.map Ad)),.d (.be (p.defs.map Ax)),.d (.int .i64 p.main),.em (1::1::k::ρ) 0 p.nodes.length,.em (1::2::k::ρ) 0 p.nodes.length,.em (1::3::k::ρ) 0 p.defs.length,.d (.bool b)]),(1::1::k::ρ,.co 1 (st.ce.map AK)),(1::2::k::ρ,.co 1 (st.met.map H8)),(1::3::k::ρ,.co 1 (st.defs.map H8))],4,[]⟩)
         (Inv:=fun i rest b=>AA ((!b&&rest.all id)=st.met.all id)) (b0:=false) (m:=p.nodes.length) (by omega) ⟨rfl⟩ ?_ ?_
        .rintro i y b hy hi him hr IH;have hiN:=Int.ofNat_lt.1 him;cases b<;>cases y;all_goals (refine aw ?_)
         all_goals
          refine IH.out _ ⟨?_⟩;rw[←hr.out];simp
        .rintro i b hi him hr;rw[Pu,Lt]at hr;refine aw ?_;refine AY st.defs (S:=fun _ i b=>⟨[(3,.ptr (0::0::k::ρ) 0),(7,.d (.int .i64 i))],[(0::0::k::ρ,.box [.d (.be (p.free.map Av)),.d (.be (p.nodes.map Ad)),.d (.be (p.defs.map Ax)),.d (.int .i64 p.main),.em (1::1::k::ρ) 0 p.nodes.length,.em (1::2::k::ρ) 0 p.nodes.length,.em (1::3::k::ρ) 0 p.defs.length,.d (.bool b)]),(1::1::k::ρ,.co 1 (st.ce.map AK)),(1::2::k::ρ,.co 1 (st.met.map H8)),(1::3::k::ρ,.co 1 (st.defs.map H8))],4,[]⟩)
          (Inv:=fun i rest b=>AA ((!b&&rest.all id)=(st.met.all id&&st.defs.all id))) (b0:=b) (m:=p.defs.length) (by omega) ⟨?_⟩ ?_ ?_
         .rw[hr.out]
         .clear hr hi him i b;rintro i y b hy hi him hr IH;have hiN:=Int.ofNat_lt.1 him;cases b<;>cases y;all_goals (refine aw ?_)
          all_goals
           refine IH.out _ ⟨?_⟩;rw[←hr.out];simp
         .clear hr hi him i b;rintro i b hi him hr;rw[Pu,Lt]at hr;refine aw ?_;have hx:=hlk.out;cases b
          .have:st.met.all id=true∧st.defs.all id=true:=by have:=hr.out;simp only[Ol]at this;exact(AP _ _).mp this.symm
           rw[IK,IK]at this;rw[DO this]at hx;refine⟨fun hn=>(by rw[hx]at hn;cases hn),fun st' hs=>?_⟩;rw[hx]at hs;cases hs;refine⟨_,_,1::k::ρ,2::k::ρ,3::k::ρ,rfl,⟨?_,fun _ _=>?_,fun _ _=>?_,fun _ _=>?_,fun _=>?_,fun _=>?_,fun _=>?_⟩⟩
           .simp only[DZ,slv,hN0,hD0,ES,F3];simp only[go_sem]
           .simp only[go_sem]
           .simp only[go_sem]
           .simp only[go_sem]
           .exact⟨_,by(simp only[go_sem];try rfl)⟩
           .exact⟨_,by(simp only[go_sem];try rfl)⟩
           .exact⟨_,by(simp only[go_sem];try rfl)⟩
          .have: ¬((¬false∈st.met)∧(¬false∈st.defs)):=fun h=>by
            rw[←IK,←IK]at h;have:=hr.out;rw[h.1,h.2]at this;cases this
           rw[CS this]at hx;exact⟨fun _=>⟨_,_,_,_,_,_,_,_,_,rfl,by(simp only[go_sem];try rfl)⟩,fun st hs=>(by rw[hx]at hs;cases hs)⟩
    .by_cases hN0:p.nodes.length=0<;>by_cases hD0:p.defs.length=0;all_goals ((repeat' (first|simp only[go_sem, *]|(refine sx ?_ ?_<;>intro hc)|refine sy (by omega) fun x hx hm=>?_|simp(disch:=first|assumption|omega) only[AJ,EP,GW])))
     all_goals exact⟨fun _=>⟨_,_,_,_,_,_,_,_,_,rfl,by(simp only[go_sem];try rfl)⟩,fun st hs=>(by rw[hbadL.out rfl]at hs;cases hs)⟩
 .have e:looks p=none:=by
   unfold looks;rw[CS fun h=>hs h.1]
  have hs: ¬(p.free.length≤12∧p.nodes.length≤60∧p.defs.length≤12):=by
   intro h;apply hs;simp only[AI.small,AP,Ap];exact h
  replace hs:=AA.mk hs
  (refine Ft rfl Tryz.func83 rfl rfl rfl ?_;show Wp _ _ _ _ (Tryz.f83.body.get rfl) _ _;simp only[Tryz.f83,AS])
  (repeat' (first|simp only[go_sem, *]|(refine sx ?_ ?_<;>intro hc)|refine sy (by omega) fun x hx hm=>?_|simp(disch:=first|assumption|omega) only[AJ]))
  all_goals first
  |exact⟨fun _=>⟨_,_,_,_,_,_,_,_,_,rfl,by(simp only[go_sem];try rfl)⟩,fun st hs=>(by rw[e]at hs;cases hs)⟩
  |(have hs:=hs.out;exfalso;omega)
def WE(p:AI):Int:=match looks p with|some _=>0|none=>2
theorem iX(p:AI):BJ (KL Tryz.prog cfg) 44 [.agg [.d (.be (p.free.map Av)),.d (.be (p.nodes.map Ad)),.d (.be (p.defs.map Ax)),.d (.int .i64 p.main)]] []=.ok (.ret (.d (.int .i64 (WE p))),[]):=by
 (refine Ar rfl Tryz.func44 rfl rfl rfl ?_;show Wp _ _ _ _ (Tryz.f44.body.get rfl) _ _;simp only[Tryz.f44,AS])
 obtain⟨r,e,hp⟩:=qh p 3 [];cases hl:looks p with
 |none=>
  obtain⟨h,l,x0,x1,x2,x3,x4,x5,x6,rfl,hg⟩:=hp.no hl;replace hp:=AA.mk hp;have he:WE p=2:=by rw[WE,hl]
  rw[he]
  (repeat' (first|simp only[go_sem, *,OY]|(refine sx ?_ ?_<;>intro hc)|refine sy (by omega) fun x hx hm=>?_|simp(disch:=first|assumption|omega) only[AJ]))
 |some st=>
  obtain⟨h,l,sz,ow,us,rfl,hg⟩:=hp.yes st hl;have q1:=hg.box;rw[DZ]at q1;replace hp:=AA.mk hp;have he:WE p=0:=by rw[WE,hl]
  rw[he]
  (repeat' (first|simp only[go_sem, *,OY]|(refine sx ?_ ?_<;>intro hc)|refine sy (by omega) fun x hx hm=>?_|simp(disch:=first|assumption|omega) only[AJ]))
theorem RJ{p:AI}{st:BN}(hl:looks p=some st):BJ (KL Tryz.prog cfg) 68 [.agg [.d (.be (p.free.map Av)),.d (.be (p.nodes.map Ad)),.d (.be (p.defs.map Ax)),.d (.int .i64 p.main)]] []=.ok (.ret (.d (.be (st.ce.map AK))),[]):=by
 (refine Ar rfl Tryz.func68 rfl rfl rfl ?_;show Wp _ _ _ _ (Tryz.f68.body.get rfl) _ _;simp only[Tryz.f68,AS])
 obtain⟨r,e,hp⟩:=qh p 3 [];obtain⟨h,l,sz,ow,us,rfl,hg⟩:=hp.yes st hl;have hF:=B5 hl;have hN:p.nodes.length≠0:=by
  have:=AH hF.main.2;rw[hF.len]at this;omega
 have q1:=hg.box;have q2:=hg.ce rfl hN;rw[DZ,BC hN]at q1;have tk1:List.take p.nodes.length (List.map AK st.ce)=List.map AK st.ce:=DL (by simp[hF.len]);have hF2:=hF.len;replace hp:=AA.mk hp;replace hg:=AA.mk hg;clear hF
 (repeat' (first|simp only[go_sem, *,EL,OY]|(refine sx ?_ ?_<;>intro hc)|refine sy (by omega) fun x hx hm=>?_|simp(disch:=first|assumption|omega) only[AJ]))
theorem ABV(t:Bool):B4 (CL 2) t=.ok (H6 (CL 2) t):=TB _ _
theorem Jq{l:List BL}{i:Int}{s:BL}(h:l[i.toNat]? =some s):BF l i=s.of:=by simp[BF,h]
theorem ABN(l:List BL)(hl:l.length≤1000):BJ (KL Tryz.prog cfg) 61 [.d (.be (l.map Aa))] []=B4 (CL 2) (GZ l):=by
 rw[ABV]
 (refine Ar rfl Tryz.func61 rfl rfl rfl ?_;show Wp _ _ _ _ (Tryz.f61.body.get rfl) _ _;simp only[Tryz.f61,AS])
 by_cases h0:(0:Int)<l.length
 .obtain⟨s0,hs0⟩:=get_some (l:=l) (i:=0) (by omega);have hp0:BF l 0=s0.of:=Jq hs0
  (repeat' (first|simp only[go_sem, *]|(refine sx ?_ ?_<;>intro hc)|refine sy (by omega) fun x hx hm=>?_|simp(disch:=first|assumption|omega) only[AJ]))
  .refine AY l _ (S:=fun m i (_:Unit)=>⟨[(0,.d (.be (l.map Aa))),(17,.d (.int .i64 m)),(18,.d (.int .i64 i))],[],0,[]⟩)
    (Inv:=fun i rest _=>AA (GZ l=Ej l i rest.length)) (b0:=()) rfl ⟨?_⟩ ?_ ?_
   .simp only[GZ];rw[Co (show 0<l.length by omega),Co (show BF l 0= -1 by rw[hp0];assumption)];rfl
   .rintro i y _ hy hi him hr IH;rw[List.length_cons,Ej]at hr;refine aw ?_;have hr0:=hr;refine rounds (S:=fun a:Int×Nat=>⟨[(0,.d (.be (l.map Aa))),(3,.d (.int .i64 (a.1))),(4,.d (.int .i64 (a.2))),(17,.d (.int .i64 (l.length))),(18,.d (.int .i64 (i)))],[],0,[]⟩)
     (Inv:=fun a=>Dd l a.1∧a.2≤l.length∧AA (A7 l l.length i=A7 l (l.length-a.2) a.1)) (m:=fun a=>l.length+1-a.2) (a:=(i,0)) ⟨⟨by omega,by omega⟩,by omega,⟨rfl⟩⟩ ?_
    rintro⟨at_,n⟩ ⟨⟨hr1,hr2⟩,hn,hcl⟩ IH2;dsimp only at*;have hlt:at_.toNat<l.length:=by omega
    obtain⟨s,hs⟩:=get_some hlt;have hps:=AA.mk (Jq hs)
    (repeat' (first|simp only[go_sem, *]|(refine sx ?_ ?_<;>intro hc)|refine sy (by omega) fun x hx hm=>?_|simp(disch:=first|assumption|omega) only[AJ]))
    .refine IH.out () ⟨?_⟩;rw[hr.out,hcl.out,show at_=0 by assumption,FA,D7]
    .refine IH2.out (s.of,n+1) (by dsimp only;omega) ⟨⟨by assumption,by assumption⟩,by dsimp only;omega,⟨?_⟩⟩;dsimp only;rw[hcl.out];obtain⟨j,hj⟩: ∃j,l.length-n=j+1:=⟨l.length-n-1,by omega⟩;rw[hj,show l.length-(n+1)=j by omega,A7,hps.out];simp only[CE (show¬at_=0 by assumption),Ii];rw[Co (show Dd l s.of from⟨by assumption,by assumption⟩),D7]
    all_goals
     have hf:GZ l=false:=by
      rw[hr0.out,hcl.out];rcases Nat.eq_zero_or_pos (l.length-n)with hz|hz
      .rw[hz,A7];simp only[CE (show¬at_=0 by assumption),By]
      .obtain⟨j,hj⟩: ∃j,l.length-n=j+1:=⟨l.length-n-1,by omega⟩;rw[hj,A7,hps.out];simp only[CE (show¬at_=0 by assumption),Ii];rw[CE (show¬Dd l s.of from fun h=>by have:=h.1;have:=h.2;omega),By,By]
     rw[hf];rfl
   .rintro i _ hi him hr;refine aw ?_;rw[hr.out];rfl
  .have:GZ l=false:=by
    simp only[GZ,hp0,CE (show¬s0.of= -1 by assumption),By,GC]
   rw[this];rfl
 .have:GZ l=false:=by simp[GZ];omega
  rw[this];refine aw ?_;rfl
theorem wu(l:List BL)(x y z:AZ)(hl:l.length≤1000):BJ (KL Tryz.prog cfg) 64 [.agg [.d (.be (l.map Aa)),.d x,.d y,.d z]] []=.ok (.ret (.d (.bool (GZ l))),[]):=by
 have hb:GZ l=(decide (0<l.length)&&(decide (BF l 0= -1)&&Ej l 0 l.length)):=rfl;replace hb:=AA.mk hb
 (refine Ar rfl Tryz.func64 rfl rfl rfl ?_;show Wp _ _ _ _ (Tryz.f64.body.get rfl) _ _;simp only[Tryz.f64,AS])
 refine aw ?_;refine Aw l (S:=fun i (_:Unit)=>⟨[(1,.ptr [0,0] 0),(3,.d (.int .i64 (i)))],[([0,0],.box [.d (.be (l.map Aa)),.d x,.d y,.d z])],1,[]⟩)
  (Inv:=fun i rest _=>AA (Ej l 0 l.length=Ej l i rest.length)) (b0:=()) ⟨rfl⟩ ?_ ?_
 .rintro i yy _ hy hi him hr IH;rw[List.length_cons,Ej]at hr;refine aw ?_;refine rounds (S:=fun a:Int×Nat=>⟨[(1,.ptr [0,0] 0),(3,.d (.int .i64 (i))),(4,.d (.int .i64 (a.1))),(5,.d (.int .i64 (a.2)))],[([0,0],.box [.d (.be (l.map Aa)),.d x,.d y,.d z])],1,[]⟩)
   (Inv:=fun a=>Dd l a.1∧a.2≤l.length+1∧AA (A7 l (l.length+1) i=A7 l (l.length+1-a.2) a.1)) (m:=fun a=>l.length+1-a.2) (a:=(i,0)) ⟨⟨by omega,by omega⟩,by omega,⟨rfl⟩⟩ ?_
  rintro⟨at_,n⟩ ⟨⟨hr1,hr2⟩,hn,hcl⟩ IH2;dsimp only at*;have hlt:at_.toNat<l.length:=by omega
  obtain⟨s,hs⟩:=get_some hlt;have hps:=AA.mk (Jq hs);have hmo:=AA.mk (bX (l:=l) (i:=i) ⟨by omega,by omega⟩);have hok:AA (at_=0→A7 l l.length i=true):=⟨fun h=>by rw[←hmo.out,hcl.out,h,FA]⟩;have hno:AA (A7 l l.length i=false→GZ l=false):=⟨fun h=>by rw[hb.out,hr.out,h,By,GC,GC]⟩
  (repeat' (first|simp only[go_sem, *]|(refine sx ?_ ?_<;>intro hc)|refine sy (by omega) fun x hx hm=>?_|simp(disch:=first|assumption|omega) only[AJ]))
  all_goals first
  |(refine IH.out () ⟨?_⟩
    rw[hr.out,hok.out (by assumption),D7])
  |(refine IH2.out (s.of,n+1) (by dsimp only;omega) ⟨⟨by dsimp only;omega,by dsimp only;omega⟩,by dsimp only;omega,⟨?_⟩⟩
    dsimp only;rw[hcl.out];obtain⟨j,hj⟩: ∃j,l.length+1-n=j+1:=⟨l.length+1-n-1,by omega⟩;rw[hj,show l.length+1-(n+1)=j by omega,A7,hps.out];simp only[CE (show¬at_=0 by assumption),Ii];rw[Co (show Dd l s.of from⟨by omega,by omega⟩),D7])
  |(rw[hno.out]
    rw[←hmo.out,hcl.out];rcases Nat.eq_zero_or_pos (l.length+1-n)with hz|hz
    .rw[hz,A7];simp only[CE (show¬at_=0 by assumption)]
    .obtain⟨j,hj⟩: ∃j,l.length+1-n=j+1:=⟨l.length+1-n-1,by omega⟩;rw[hj,A7,hps.out];simp only[CE (show¬at_=0 by assumption),Ii];rw[CE (show¬Dd l s.of from fun h=>by have:=h.1;have:=h.2;omega),By])
 .rintro i _ hi him hr;have hb1:AA (Ej l 0 l.length=true):=⟨by rw[hr.out];rfl⟩;by_cases h0:(0:Int)<l.length
  .obtain⟨s0,hs0⟩:=get_some (l:=l) (i:=0) (by omega);have hp0:=AA.mk (show BF l 0=s0.of from Jq hs0);refine aw ?_;rw[hb.out,hb1.out,hp0.out,Co (show 0<l.length by omega),D7,Lt]
  .refine aw ?_;rw[hb.out,CE (show¬0<l.length by omega),By]
theorem Vc(l:List BL)(b a:Int)(hl:l.length≤1000)(ht:GG l)(hb:Dd l b)(ha:0≤a):BJ (KL Tryz.prog cfg) 63 [.d (.be (l.map Aa)),.d (.int .i64 (b)),.d (.int .i64 (a))] []=.ok (.ret (.d (.bool (CF l b a))),[]):=by
 (refine Ar rfl Tryz.func63 rfl rfl rfl ?_;show Wp _ _ _ _ (Tryz.f63.body.get rfl) _ _;simp only[Tryz.f63,AS])
 refine aw ?_;refine rounds (S:=fun c:Int×Nat=>⟨[(0,.d (.be (l.map Aa))),(1,.d (.int .i64 (c.1))),(2,.d (.int .i64 (a)))],[],0,[]⟩)
  (Inv:=fun c=>(Dd l c.1∧A7 l c.2 c.1=true∧AA (CF l b a=decide (a∈QD l c.2 c.1)))∨(c.1= -1∧c.2=0∧AA (CF l b a=false))) (m:=fun c=>if c.1= -1 then 0 else c.2+1) (a:=(b,l.length)) (.inl ⟨hb,ht.pm b hb,⟨rfl⟩⟩) ?_
 rintro⟨c,k⟩ hI IH;dsimp only at*;rcases hI with⟨⟨h1,h2⟩,hcl,hin⟩|⟨rfl,rfl,hin⟩
 .have hlt:c.toNat<l.length:=by omega
  obtain⟨s,hs⟩:=get_some hlt;have hps:=AA.mk (Jq hs)
  (repeat' (first|simp only[go_sem, *]|(refine sx ?_ ?_<;>intro hc)|refine sy (by omega) fun x hx hm=>?_|simp(disch:=first|assumption|omega) only[AJ]))
  .rw[hin.out,Co (by rw[←show c=a by assumption];exact RV _ _ _)]
  .by_cases hc0:c=0
   .subst hc0;have hp1:s.of= -1:=by rw[←hps.out];exact ht.top
    rw[hp1];refine IH.out (-1,0) (by dsimp only;rw[DO rfl,CS (by decide)];omega) (.inr ⟨rfl,rfl,⟨?_⟩⟩);rw[hin.out,XU,CE];simp only[As];omega
   .rcases k with _|k
    .simp[A7,hc0]at hcl
    .have h3:=E9 hc0 hcl;rw[hps.out]at h3;have:=h3.1.1;refine IH.out (s.of,k) (by dsimp only;rw[CS (by omega),CS (by omega)];omega) (.inl ⟨h3.1,h3.2,⟨?_⟩⟩);rw[hin.out,gP hc0 hcl,hps.out];have hne: ¬a=c:=fun e=>by omega
     simp only[Ce,hne,false_or]
 ·(repeat' (first|simp only[go_sem, *]|(refine sx ?_ ?_<;>intro hc)|refine sy (by omega) fun x hx hm=>?_|simp(disch:=first|assumption|omega) only[AJ]))
  .omega
  .rw[hin.out]
theorem lH(l:List BL)(x y z:AZ)(b a:Int)(hl:l.length≤1000)(ht:GG l)(hb:Dd l b)(ha:0≤a):BJ (KL Tryz.prog cfg) 38 [.agg [.d (.be (l.map Aa)),.d x,.d y,.d z],.d (.int .i64 (b)),.d (.int .i64 (a))] []=.ok (.ret (.d (.bool (CF l b a))),[]):=by
 (refine Ar rfl Tryz.func38 rfl rfl rfl ?_;show Wp _ _ _ _ (Tryz.f38.body.get rfl) _ _;simp only[Tryz.f38,AS])
 refine aw ?_;refine rounds (S:=fun c:Int×Nat=>⟨[(1,.d (.int .i64 (c.1))),(2,.d (.int .i64 (a))),(3,.ptr [0,0] 0)],[([0,0],.box [.d (.be (l.map Aa)),.d x,.d y,.d z])],1,[]⟩)
  (Inv:=fun c=>(Dd l c.1∧A7 l c.2 c.1=true∧AA (CF l b a=decide (a∈QD l c.2 c.1)))∨(c.1= -1∧c.2=0∧AA (CF l b a=false))) (m:=fun c=>if c.1= -1 then 0 else c.2+1) (a:=(b,l.length)) (.inl ⟨hb,ht.pm b hb,⟨rfl⟩⟩) ?_
 rintro⟨c,k⟩ hI IH;dsimp only at*;rcases hI with⟨⟨h1,h2⟩,hcl,hin⟩|⟨rfl,rfl,hin⟩
 .have hlt:c.toNat<l.length:=by omega
  obtain⟨s,hs⟩:=get_some hlt;have hps:=AA.mk (Jq hs)
  (repeat' (first|simp only[go_sem, *]|(refine sx ?_ ?_<;>intro hc)|refine sy (by omega) fun x hx hm=>?_|simp(disch:=first|assumption|omega) only[AJ]))
  .rw[hin.out,Co (by rw[←show c=a by assumption];exact RV _ _ _)]
  .by_cases hc0:c=0
   .subst hc0;have hp1:s.of= -1:=by rw[←hps.out];exact ht.top
    rw[hp1];refine IH.out (-1,0) (by dsimp only;rw[DO rfl,CS (by decide)];omega) (.inr ⟨rfl,rfl,⟨?_⟩⟩);rw[hin.out,XU,CE];simp only[As];omega
   .rcases k with _|k
    .simp[A7,hc0]at hcl
    .have h3:=E9 hc0 hcl;rw[hps.out]at h3;have:=h3.1.1;refine IH.out (s.of,k) (by dsimp only;rw[CS (by omega),CS (by omega)];omega) (.inl ⟨h3.1,h3.2,⟨?_⟩⟩);rw[hin.out,gP hc0 hcl,hps.out];have hne: ¬a=c:=fun e=>by omega
     simp only[Ce,hne,false_or]
 ·(repeat' (first|simp only[go_sem, *]|(refine sx ?_ ?_<;>intro hc)|refine sy (by omega) fun x hx hm=>?_|simp(disch:=first|assumption|omega) only[AJ]))
  .omega
  .rw[hin.out]
theorem fz(p:AI)(sp ch:List (List AZ))(g w:AZ)(v:CT)(h1:sp.length≤1000000)(h2:ch.length≤1000000)(h3:p.free.length≤1000000):BJ (KL Tryz.prog cfg) 117 [.agg [.d (.be (p.free.map Av)),.d (.be (p.nodes.map Ad)),.d (.be (p.defs.map Ax)),.d (.int .i64 (p.main))],.agg [.d (.be sp),.d g,.d (.be ch),.d w],.agg [.d (.int .i64 (v.kind)),.d (.int .i64 (v.n))]] []=.ok (.ret (.d (.bool (v.inB p ch.length sp.length))),[]):=by
 (refine Ar rfl Tryz.func117 rfl rfl rfl ?_;show Wp _ _ _ _ (Tryz.f117.body.get rfl) _ _;simp only[Tryz.f117,AS])
 (repeat' (first|simp only[go_sem, *]|(refine sx ?_ ?_<;>intro hc)|refine sy (by omega) fun x hx hm=>?_|simp(disch:=first|assumption|omega) only[AJ]))
 all_goals simp[CT.inB, *]
theorem MH(p:AI)(sp ch:List (List AZ))(g w:AZ)(l:List CT)(h1:sp.length≤1000000)(h2:ch.length≤1000000)(h3:p.free.length≤1000000)(hl:l.length≤1000000):BJ (KL Tryz.prog cfg) 70 [.agg [.d (.be (p.free.map Av)),.d (.be (p.nodes.map Ad)),.d (.be (p.defs.map Ax)),.d (.int .i64 (p.main))],.agg [.d (.be sp),.d g,.d (.be ch),.d w],.d (.be (l.map AL))] []=.ok (.ret (.d (.bool (l.all (CT.inB p ch.length sp.length)))),[]):=by
 (refine Ar rfl Tryz.func70 rfl rfl rfl ?_;show Wp _ _ _ _ (Tryz.f70.body.get rfl) _ _;simp only[Tryz.f70,AS])
 refine aw ?_;refine Aw l (S:=fun i (_:Unit)=>⟨[(2,.d (.be (l.map AL))),(3,.ptr [0,0] 0),(4,.ptr [0,1] 0),(7,.d (.int .i64 (i)))],[([0,0],.box [.d (.be (p.free.map Av)),.d (.be (p.nodes.map Ad)),.d (.be (p.defs.map Ax)),.d (.int .i64 (p.main))]),([0,1],.box [.d (.be sp),.d g,.d (.be ch),.d w])],2,[]⟩)
  (Inv:=fun i rest _=>AA (l.all (CT.inB p ch.length sp.length)=rest.all (CT.inB p ch.length sp.length))) (b0:=()) ⟨rfl⟩ ?_ ?_
 .rintro i y _ hy hi him hr IH;have hv:=fz p sp ch g w y h1 h2 h3
  (repeat' (first|simp only[go_sem, *]|(refine sx ?_ ?_<;>intro hc)|refine sy (by omega) fun x hx hm=>?_|simp(disch:=first|assumption|omega) only[AJ]))
  all_goals first
  |(refine IH.out () ⟨?_⟩;rw[hr.out,D3];simp only[*,D7];done)
  |(rw[hr.out,D3];simp only[*,By];done)
 .rintro i _ hi him hr;refine aw ?_;rw[hr.out];rfl
theorem Nz(op:Int):BJ (KL Tryz.prog cfg) 69 [.d (.int .i64 (op))] []=.ok (.ret (.d (.bool (DS op))),[]):=by
 (refine Ar rfl Tryz.func69 rfl rfl rfl ?_;show Wp _ _ _ _ (Tryz.f69.body.get rfl) _ _;simp only[Tryz.f69,AS])
 (repeat' (first|simp only[go_sem, *]|(refine sx ?_ ?_<;>intro hc)|refine sy (by omega) fun x hx hm=>?_|simp(disch:=first|assumption|omega) only[AJ]))
 all_goals simp[DS, *]
theorem ot(p:AI)(g:Ao)(d:Bq)(n:Int)(h0:0≤g.eq)(hd:p.defs[g.eq.toNat]? =some d)(c1:d.am.length≤30)(c2:d.ac.length≤30)(he:d.own≤g.env.length)(hl:g.env.length≤10000)(hn:0≤n)(hn2:n≤d.ac.length):BJ (KL Tryz.prog cfg) 118 [.agg [.d (.be (p.free.map Av)),.d (.be (p.nodes.map Ad)),.d (.be (p.defs.map Ax)),.d (.int .i64 (p.main))],.agg [.d (.int .i64 (g.eq)),.d (.int .i64 (g.at_)),.d (.be (g.env.map AL))],.d (.int .i64 (n))] []=.ok (.ret (.d (.int .i64 (g.place d n))),[]):=by
 unfold Bq.own at he
 (refine Ar rfl Tryz.func118 rfl rfl rfl ?_;show Wp _ _ _ _ (Tryz.f118.body.get rfl) _ _;simp only[Tryz.f118,AS])
 by_cases hn0:n=0
 ·(repeat' (first|simp only[go_sem, *,Ao.place]|(refine sx ?_ ?_<;>intro hc)|refine sy (by omega) fun x hx hm=>?_|simp(disch:=first|assumption|omega) only[AJ]))
 .have hlt:g.env.length-d.ac.length-0+(n-1).toNat<g.env.length:=by omega
  obtain⟨v,hv⟩:=get_some hlt;have hpl:AA (g.place d n=v.n):=⟨by
   rw[Ao.place,CS hn0,Ao.own];simp only[AM,ES];rw[hv];rfl⟩
  have e1:((g.env.length:Int)-(d.ac.length:Int)+n-1).toNat=g.env.length-d.ac.length-0+(n-1).toNat:=by omega
  rw[←e1]at hv;replace e1:=AA.mk e1;have e2:0≤(g.env.length:Int)-(d.ac.length:Int)+n-1:=by omega
  refine aw ?_;rw[hpl.out]
theorem Y2{p:AI}{st:BN}(hlk:looks p=some st):BJ (KL Tryz.prog cfg) 115 [.agg [.d (.be (p.free.map Av)),.d (.be (p.nodes.map Ad)),.d (.be (p.defs.map Ax)),.d (.int .i64 (p.main))]] []=.ok (.ret (.d (.be ((BQ p st.ce).map AK))),[]):=by
 have hso:=RJ hlk;have hF:=B5 hlk;have hsm:=hF.small;simp only[AI.small,AP,Ap]at hsm;obtain⟨c1,c2,c3⟩:=hsm;have hF2:=AA.mk hF;clear hF
 (refine Ar rfl Tryz.func115 rfl rfl rfl ?_;show Wp _ _ _ _ (Tryz.f115.body.get rfl) _ _;simp only[Tryz.f115,AS])
 by_cases hD0:p.defs.length=0
 ·(repeat' (first|simp only[go_sem, *]|(refine sx ?_ ?_<;>intro hc)|refine sy (by omega) fun x hx hm=>?_|simp(disch:=first|assumption|omega) only[AJ,EP]))
  refine Aw p.nodes (S:=fun i (_:Unit)=>⟨[(1,.ptr [0,0] 0),(3,.emp),(4,.d (.be (st.ce.map AK))),(5,.d (.int .i64 (i)))],[([0,0],.box [.d (.be (p.free.map Av)),.d (.be (p.nodes.map Ad)),.d (.be (p.defs.map Ax)),.d (.int .i64 (p.main))])],1,[]⟩)
   (Inv:=fun i rest _=>True) (b0:=()) trivial ?_ ?_
  .rintro i y _ hy hi him _ IH;have ho: ¬y.op=4:=fun ho=>by
    have:=LY hF2.out hy ho;omega
   refine aw ?_;exact IH.out () trivial
  .rintro i _ hi him _;have:BQ p st.ce=[]:=by
    refine Cs ?_;rw[BQ,IU];simpa using hD0
   rw[this];exact au
 ·(repeat' (first|simp only[go_sem, *]|(refine sx ?_ ?_<;>intro hc)|refine sy (by omega) fun x hx hm=>?_|simp(disch:=first|assumption|omega) only[AJ,EP]))
  refine Aw p.nodes (S:=fun i (out:List Int)=>⟨[(1,.ptr [0,0] 0),(3,.em [1,1] 0 p.defs.length),(4,.d (.be (st.ce.map AK))),(5,.d (.int .i64 (i)))],[([0,0],.box [.d (.be (p.free.map Av)),.d (.be (p.nodes.map Ad)),.d (.be (p.defs.map Ax)),.d (.int .i64 (p.main))]),([1,1],.co 1 (out.map AK))],2,[]⟩)
   (Inv:=fun i rest out=>out.length=p.defs.length∧AA (BQ p st.ce=En st.ce out rest)) (b0:=List.replicate p.defs.length 0) ⟨by simp,⟨rfl⟩⟩ ?_ ?_
  .rintro i y out hy hi him ⟨hol,hr⟩ IH;by_cases ho:y.op=4
   .obtain⟨n1,n2,k,v,hk,hk0,hkv,hks,_,_⟩:=LY hF2.out hy ho;obtain⟨o,hoo⟩:=get_some (l:=out) (i:=y.n.toNat) (by omega);have hyn:y.n.toNat<p.defs.length:=by omega
    have hks:=AA.mk hks;refine aw ?_;have e:(out.map AK).set y.n.toNat [.int .i64 v]=(out.set y.n.toNat v).map AK:=by rw[JP];rfl
    rw[e];refine IH.out (out.set y.n.toNat v) ⟨by simpa using hol,⟨?_⟩⟩;rw[hr.out,En,DO ho,hks.out]
   .refine aw ?_;refine IH.out out ⟨hol,⟨?_⟩⟩;rw[hr.out,En,CS ho]
  .rintro i out hi him ⟨hol,hr⟩;have tk:List.take p.defs.length (List.map AK out)=List.map AK out:=DL (by simp[hol]);refine aw ?_;rw[hr.out];rfl
theorem xv(p:AI)(s:BM)(g:Ao)(d:Bq)(ch:Hb)(c i j:Nat)(hc:c≤10000)(hi:i≤10000)(hg:s.bi[i]? =some g)(h0:0≤g.eq)(hd:p.defs[g.eq.toNat]? =some d)(hdo:N2 d)(hch:d.am[j]? =some ch)(he:d.own≤g.env.length)(hl:g.env.length≤10000)(hp0:0≤g.place d ch.at_)(hp1:g.place d ch.at_<s.ac.length)(hf:p.free.length≤12)(hs1:s.ac.length≤24)(hs2:s.am.length≤60):
 BJ (KL Tryz.prog cfg) 116 [.agg [.d (.be (p.free.map Av)),.d (.be (p.nodes.map Ad)),.d (.be (p.defs.map Ax)),.d (.int .i64 (p.main))],.agg [.d (.be (s.ac.map Aa)),.d (.be (s.bi.map An)),.d (.be (s.am.map Bc)),.d (.be (s.waits.map AU))],.d (.int .i64 (c)),.d (.int .i64 (i)),.d (.int .i64 (j))] []=.ok (.ret (.d (.bool (KB p s d g i j c ch))),[]):=by
 unfold KB;have hj:=AH hch;have c1:=hdo.am;have c2:=hdo.ac;have hca:=hdo.chan ch (Ac hch);have hpl:=ot p g d ch.at_ h0 hd c1 c2 he hl hca.1 hca.2.1;have hgi:=AH hg;have hdi:=AH hd;replace hdo:=AA.mk hdo;by_cases hcc:(s.am.length:Int)≤c
 .rw[I6 (by omega)]
  (refine Ar rfl Tryz.func116 rfl rfl rfl ?_;show Wp _ _ _ _ (Tryz.f116.body.get rfl) _ _;simp only[Tryz.f116,AS])
  exact au
 .have hcl:c<s.am.length:=by omega
  obtain⟨q,hq⟩:=get_some hcl;rw[hq];dsimp only;obtain⟨sp,hsp⟩:=get_some (l:=s.ac) (i:=(g.place d ch.at_).toNat) (by omega);have hda:AA (AW s.ac (g.place d ch.at_)=sp.dead):=⟨by simp[AW,hsp]⟩;have hck:AA (M9 p s d g i j q ch=(decide (q.group=i)&&(decide (q.index=j)&&(decide (q.at_=g.place d ch.at_)&&(decide (q.queue.length≤12)&&((decide (q.queue.length=0)|| !AW s.ac q.at_)&&q.queue.all (E3 p s.am.length s.ac.length ch.many))))))):=⟨rfl⟩
  (refine Ar rfl Tryz.func116 rfl rfl rfl ?_;show Wp _ _ _ _ (Tryz.f116.body.get rfl) _ _;simp only[Tryz.f116,AS])
  (repeat' (first|simp only[go_sem, *]|(refine sx ?_ ?_<;>intro hc)|refine sy (by omega) fun x hx hm=>?_|simp(disch:=first|assumption|omega) only[AJ]))
  all_goals try
   have e1:=hck.out;have e2:=hda.out;clear hpl hck hda;congr 3;grind
  all_goals
   have hfin:AA (M9 p s d g i j q ch=q.queue.all (E3 p s.am.length s.ac.length ch.many)):=⟨by
    have e1:=hck.out;have e2:=hda.out;clear hpl hck hda;grind⟩
   refine Aw q.queue (S:=fun i' (_:Unit)=>⟨[(5,.ptr [0,0] 0),(6,.ptr [0,1] 0),(11,.ptr [0,2] 0),(13,.ptr [0,3] 0),(14,.d (.int .i64 (i')))],[([0,0],.box [.d (.be (p.free.map Av)),.d (.be (p.nodes.map Ad)),.d (.be (p.defs.map Ax)),.d (.int .i64 (p.main))]),([0,1],.box [.d (.be (s.ac.map Aa)),.d (.be (s.bi.map An)),.d (.be (s.am.map Bc)),.d (.be (s.waits.map AU))]),([0,2],.box [.d (.int .i64 (i)),.d (.int .i64 (j)),.d (.int .i64 (g.place d ch.at_)),.d (.be (q.queue.map BW))]),([0,3],.box [.d (.int .i64 (ch.at_)),.d (.int .i64 (ch.many))])],4,[]⟩)
    (Inv:=fun _ rest _=>AA (q.queue.all (E3 p s.am.length s.ac.length ch.many)=rest.all (E3 p s.am.length s.ac.length ch.many))) (b0:=()) ⟨rfl⟩ ?_ ?_
   .rintro i' y _ hy hi' him hr IH;have hvs:=fun h=>MH p (s.ac.map Aa) (s.am.map Bc) (.be (s.bi.map An)) (.be (s.waits.map AU)) y (by simp;omega) (by simp;omega) (by omega) h;rw[BI,BI]at hvs;by_cases hym:(y.length:Int)=ch.many
    .have hvs:=hvs (by omega);have hmk:AA (E3 p s.am.length s.ac.length ch.many y=y.all (CT.inB p s.am.length s.ac.length)):=⟨by
      rw[E3,Co hym,D7]⟩
     (repeat' (first|simp only[go_sem, *]|(refine sx ?_ ?_<;>intro hc)|refine sy (by omega) fun x hx hm=>?_|simp(disch:=first|assumption|omega) only[AJ]))
     all_goals first
     |(refine IH.out () ⟨?_⟩;rw[hr.out,D3,hmk.out];simp only[*,D7];done)
     |(rw[hfin.out,hr.out,D3,hmk.out];simp only[*,By];done)
    .have hmk:AA (E3 p s.am.length s.ac.length ch.many y=false):=⟨by
      rw[E3,CE hym,By]⟩
     clear hvs;refine aw ?_;rw[hfin.out,hr.out,D3,hmk.out,By]
   .rintro i' _ hi' him hr;refine aw ?_;rw[hfin.out,hr.out];rfl
theorem cZ(p:AI)(st:BN)(s:BM)(hlk:looks p=some st)(hss:s.small=true):BJ (KL Tryz.prog cfg) 67 [.agg [.d (.be (p.free.map Av)),.d (.be (p.nodes.map Ad)),.d (.be (p.defs.map Ax)),.d (.int .i64 (p.main))],.agg [.d (.be (s.ac.map Aa)),.d (.be (s.bi.map An)),.d (.be (s.am.map Bc)),.d (.be (s.waits.map AU))]] []=.ok (.ret (.d (.bool (Br p (BQ p st.ce) s 0 0 1 s.bi))),[]):=by
 have hks:=Y2 hlk;have hF:=AA.mk (B5 hlk);have hsm:=hF.out.small;simp only[AI.small,AP,Ap]at hsm;obtain⟨c1,c2,c3⟩:=hsm;simp only[BM.small,AP,Ap]at hss;obtain⟨s1,s2,s3,s4⟩:=hss;have hgl:(BQ p st.ce).length=p.defs.length:=by rw[BQ,IU];simp
 generalize hgs:BQ p st.ce=gs at*;replace hgs:=AA.mk hgs
 (refine Ar rfl Tryz.func67 rfl rfl rfl ?_;show Wp _ _ _ _ (Tryz.f67.body.get rfl) _ _;simp only[Tryz.f67,AS])
 refine aw ?_;refine Aw s.bi (S:=fun i (a:Nat×Nat)=>⟨[(2,.ptr [0,0] 0),(3,.ptr [0,1] 0),(5,.d (.be (gs.map AK))),(6,.d (.int .i64 (a.1))),(7,.d (.int .i64 (a.2))),(8,.d (.int .i64 (i)))],[([0,0],.box [.d (.be (p.free.map Av)),.d (.be (p.nodes.map Ad)),.d (.be (p.defs.map Ax)),.d (.int .i64 (p.main))]),([0,1],.box [.d (.be (s.ac.map Aa)),.d (.be (s.bi.map An)),.d (.be (s.am.map Bc)),.d (.be (s.waits.map AU))])],2,[]⟩)
  (Inv:=fun i rest a=>a.1≤30*i∧a.2≤30*i+1∧AA (Br p gs s 0 0 1 s.bi=Br p gs s i a.1 a.2 rest)) (b0:=(0,1)) ⟨by simp,by simp,⟨rfl⟩⟩ ?_ ?_
 .rintro i g ⟨c,k⟩ hy hi him ⟨b1,b2,hr⟩ IH;dsimp only at*;by_cases x0:g.eq<0
  .have hf:AA (Br p gs s 0 0 1 s.bi=false):=⟨by rw[hr.out,Br,AI.def?,CS (by omega)]⟩;refine aw ?_;rw[hf.out]
  by_cases x1:(p.defs.length:Int)≤g.eq
  .have hf:AA (Br p gs s 0 0 1 s.bi=false):=⟨by rw[hr.out,Br,AI.def?,DO (by omega),I6 (by omega)]⟩;refine aw ?_;rw[hf.out]
  have x2:0≤g.eq:=by omega
  have hdl:g.eq.toNat<p.defs.length:=by omega
  obtain⟨d,hd⟩:=get_some hdl;have hdf:=CD hF.out hd;obtain⟨v,hv⟩:=get_some (l:=gs) (i:=g.eq.toNat) (by omega);have hv2:d.own≤v∧v≤5060:=by
   obtain⟨_,_,s0,_,_,_,_,q0,q1,q2,_⟩:=hdf.node;rw[hgs.out,hv]at q2;cases q2;have:=Nk hdf.ok;omega
  have hstep:AA (Br p gs s 0 0 1 s.bi=(JG p gs s i c k g d&&Br p gs s (i+1) (c+d.am.length) (k+d.ac.length) (s.bi.drop (i+1)))):=⟨by
   rw[hr.out,Br,AI.def?,DO x2,hd]⟩
  have hgo:AA (JG p gs s i c k g d=(decide (Dd s.ac g.at_)&&(decide ((g.env.length:Int)=v)&&(g.env.all (CT.inB p s.am.length s.ac.length)&&(C7 d c k g&&Dz p s d g i c 0 d.am))))):=⟨by
   rw[JG,hv];rfl⟩
  have hdo:=hdf.ok;have e1:=hdo.am;have e2:=hdo.ac;have e3:d.own=d.am.length+d.ac.length:=rfl;replace hdo:=AA.mk hdo;replace hdf:=AA.mk hdf;by_cases hlen:(g.env.length:Int)=v
  .have hvs:=MH p (s.ac.map Aa) (s.am.map Bc) (.be (s.bi.map An)) (.be (s.waits.map AU)) g.env (by simp;omega) (by simp;omega) (by omega) (by omega);rw[BI,BI]at hvs;have hlt2:g.env.length≤5060:=by omega
   have hown:d.own≤g.env.length:=by omega
   replace hlen:=AA.mk hlen;have hgv:=AA.mk (show gs[g.eq.toNat]? =some v from hv);rw[←hlen.out]at hv;have w1:IntKind.i64.wrap ((g.env.length:Int)-(d.ac.length:Int))=(g.env.length:Int)-(d.ac.length:Int):=wrap_id (by omega) (by omega);have w2:IntKind.i64.wrap ((g.env.length:Int)-(d.ac.length:Int)-(d.am.length:Int))=((g.env.length-d.am.length-d.ac.length:Nat):Int):=by rw[wrap_id (by omega) (by omega)];omega
   have w5:IntKind.i64.wrap ((d.am.length:Int)+(d.ac.length:Int))=(d.am.length:Int)+(d.ac.length:Int):=wrap_id (by omega) (by omega)
   (repeat' (first|simp only[go_sem, *]|(refine sx ?_ ?_<;>intro hc)|refine sy (by omega) fun x hx hm=>?_|simp(disch:=first|assumption|omega) only[AJ]))
   all_goals try
    have q1:=hstep.out;have q2:=hgo.out;clear hks hgo hstep IH;congr 3;grind [Dd]
   have hin:Dd s.ac g.at_:=⟨by omega,by omega⟩;have hall:g.env.all (CT.inB p s.am.length s.ac.length)=true:=by assumption
   have hg2:AA (Br p gs s 0 0 1 s.bi=((C7 d c k g&&Dz p s d g i c 0 d.am)&&Br p gs s (i+1) (c+d.am.length) (k+d.ac.length) (s.bi.drop (i+1)))):=⟨by
    rw[hstep.out,hgo.out,Co hin,Co hlen.out,hall];simp⟩
   replace hin:=AA.mk hin;replace hall:=AA.mk hall;have hm0:AA (C7 d c k g=decide (g.env.drop (g.env.length-d.am.length-d.ac.length+0)=Ef c k d)):=⟨rfl⟩;clear hvs hgo hstep;refine Aw (Ef c k d) (S:=fun i2 (a:Nat×Nat)=>⟨[(2,.ptr [0,0] 0),(3,.ptr [0,1] 0),(5,.d (.be (gs.map AK))),(6,.d (.int .i64 (a.1))),(7,.d (.int .i64 (a.2))),(8,.d (.int .i64 (i))),(9,.ptr [0,2] 0),(10,.ptr [0,3] 0),(11,.d (.int .i64 (((g.env.length-d.am.length-d.ac.length:Nat):Int)))),(12,.d (.int .i64 (i2)))],[([0,0],.box [.d (.be (p.free.map Av)),.d (.be (p.nodes.map Ad)),.d (.be (p.defs.map Ax)),.d (.int .i64 (p.main))]),([0,1],.box [.d (.be (s.ac.map Aa)),.d (.be (s.bi.map An)),.d (.be (s.am.map Bc)),.d (.be (s.waits.map AU))]),([0,2],.box [.d (.int .i64 (g.eq)),.d (.int .i64 (g.at_)),.d (.be (g.env.map AL))]),([0,3],.box [.d (.be (d.am.map Az)),.d (.be (d.ac.map Aj)),.d (.be (d.rules.map Ay))])],4,[]⟩)
    (Inv:=fun i2 rest a=>a.1=c+min i2 d.am.length∧a.2=k+(i2-d.am.length)∧AA (C7 d c k g=decide (g.env.drop (g.env.length-d.am.length-d.ac.length+i2)=rest))) (b0:=(c,k)) ⟨by simp,by simp,hm0⟩ ?_ ?_
   .rintro i2 y ⟨c',k'⟩ hy2 hi2 him2 ⟨ha1,ha2,hr2⟩ IH2;dsimp only at*;rw[JJ]at hi2;obtain⟨u,hu,hdr⟩:=rq hown hi2;have hr3:AA (C7 d c k g=(decide (u=y)&&decide (g.env.drop (g.env.length-d.am.length-d.ac.length+(i2+1))=(Ef c k d).drop (i2+1)))):=⟨by
     rw[hr2.out,hdr,Nl];simp⟩
    have cnd:(i2:Int)<(d.am.length:Int)+(d.ac.length:Int):=by omega
    have ix:(((g.env.length-d.am.length-d.ac.length:Nat):Int)+(i2:Int)).toNat=g.env.length-d.am.length-d.ac.length+i2:=by omega
    rw[←ix]at hu;have ix2:0≤((g.env.length-d.am.length-d.ac.length:Nat):Int)+(i2:Int):=by omega
    replace ix:=AA.mk ix;have w3:IntKind.i64.wrap (((g.env.length-d.am.length-d.ac.length:Nat):Int)+(i2:Int))=((g.env.length-d.am.length-d.ac.length:Nat):Int)+(i2:Int):=wrap_id (by omega) (by omega);have hlt:AA (g.env.length≤10000):=⟨by have:=hlen.out;omega⟩;by_cases hch:i2<d.am.length
    .have hge: ¬(d.am.length:Int)≤(i2:Int):=by omega
     rw[Ln _ _ _ hch]at hy2;cases hy2;obtain rfl:c'=c+i2:=by omega
     have ha:=AA.mk ha2;clear ha1 ha2;rw[←Int.natCast_add]at hr3;by_cases hu2:u=⟨3,((c+i2:Nat):Int)⟩
     .subst hu2;refine aw ?_;refine IH2.out (c+i2+1,k') ⟨by dsimp only;have:=ha.out;omega,by dsimp only;have:=ha.out;omega,⟨?_⟩⟩;rw[hr3.out];simp
     .have hne:(decide (u.kind=3)&&decide (u.n=((c+i2:Nat):Int)))=false:=by
       rw[←KW,AP,Ap,Ap];rintro⟨h1,h2⟩;exact hu2 (by cases u;simp_all)
      have hbad:AA (Br p gs s 0 0 1 s.bi=false):=⟨by
       rw[hg2.out,hr3.out,CE hu2];simp⟩
      refine aw ?_;rw[hbad.out]
    .have hge:(d.am.length:Int)≤(i2:Int):=by omega
     have hy3:=Lo c k d (j:=i2-d.am.length) (by omega);rw[show d.am.length+(i2-d.am.length)=i2 by omega,hy2]at hy3;cases hy3;obtain rfl:k'=k+(i2-d.am.length):=by omega
     have ha:=AA.mk ha1;clear ha1 ha2;rw[←Int.natCast_add]at hr3;by_cases hu2:u=⟨4,((k+(i2-d.am.length):Nat):Int)⟩
     .subst hu2;refine aw ?_;refine IH2.out (c',k+(i2-d.am.length)+1) ⟨by dsimp only;have:=ha.out;omega,by dsimp only;have:=ha.out;omega,⟨?_⟩⟩;rw[hr3.out];simp
     .have hne:(decide (u.kind=4)&&decide (u.n=((k+(i2-d.am.length):Nat):Int)))=false:=by
       rw[←KW,AP,Ap,Ap];rintro⟨h1,h2⟩;exact hu2 (by cases u;simp_all)
      have hbad:AA (Br p gs s 0 0 1 s.bi=false):=⟨by
       rw[hg2.out,hr3.out,CE hu2];simp⟩
      refine aw ?_;rw[hbad.out]
   .rintro i2 ⟨c',k'⟩ hi2 him2 ⟨ha1,ha2,hr2⟩;dsimp only at*;have hi3:=hi2.out;rw[JJ]at hi3;obtain rfl:c'=c+d.am.length:=by omega
    obtain rfl:k'=k+d.ac.length:=by omega
    clear ha1 ha2;have cnd: ¬(i2:Int)<(d.am.length:Int)+(d.ac.length:Int):=by omega
    replace hi3:=AA.mk hi3;have hmine:AA (C7 d c k g=true):=⟨by
     rw[hr2.out,D5 (by have:=hi3.out;omega)];simp⟩
    have hg3:AA (Br p gs s 0 0 1 s.bi=(Dz p s d g i c 0 d.am&&Br p gs s (i+1) (c+d.am.length) (k+d.ac.length) (s.bi.drop (i+1)))):=⟨by
     rw[hg2.out,hmine.out,D7]⟩
    refine aw ?_;clear hr2 hi2 hi3 him2 cnd hm0 hg2 i2;refine Aw d.am (S:=fun j (_:Unit)=>⟨[(2,.ptr [0,0] 0),(3,.ptr [0,1] 0),(5,.d (.be (gs.map AK))),(6,.d (.int .i64 (((c+d.am.length:Nat):Int)))),(7,.d (.int .i64 (((k+d.ac.length:Nat):Int)))),(8,.d (.int .i64 (i))),(10,.ptr [0,2] 0),(14,.d (.int .i64 (j)))],[([0,0],.box [.d (.be (p.free.map Av)),.d (.be (p.nodes.map Ad)),.d (.be (p.defs.map Ax)),.d (.int .i64 (p.main))]),([0,1],.box [.d (.be (s.ac.map Aa)),.d (.be (s.bi.map An)),.d (.be (s.am.map Bc)),.d (.be (s.waits.map AU))]),([0,2],.box [.d (.be (d.am.map Az)),.d (.be (d.ac.map Aj)),.d (.be (d.rules.map Ay))])],3,[]⟩)
     (Inv:=fun j rest _=>AA (Dz p s d g i c 0 d.am=Dz p s d g i c j rest)) (b0:=()) ⟨rfl⟩ ?_ ?_
    .rintro j ch _ hyj hij himj hrj IHj;have hpi:=O5 hmine.out hown hin.out hall.out (n:=ch.at_) (hdo.out.chan ch (Ac hyj)).1 (hdo.out.chan ch (Ac hyj)).2.1;have hck:=xv p s g d ch (c+j) i j (by omega) (by omega) hy x2 hd hdo.out hyj hown (by omega) hpi.1 hpi.2 c1 s1 s3;have w6:IntKind.i64.wrap (((c+d.am.length:Nat):Int)-(d.am.length:Int))=(c:Int):=by rw[wrap_id (by omega) (by omega)];omega
     have w7:IntKind.i64.wrap ((c:Int)+(j:Int))=((c+j:Nat):Int):=by rw[wrap_id (by omega) (by omega)];omega
     replace hpi:=AA.mk hpi;rw[Dz]at hrj;cases hv3:KB p s d g i j (c+j) ch with
     |true=>
      rw[hv3]at hck hrj;refine aw ?_;refine IHj.out () ⟨?_⟩;rw[hrj.out,D7]
     |false=>
      rw[hv3]at hck hrj;refine aw ?_;rw[hg3.out,hrj.out,By,By]
    .rintro j _ hij himj hrj;refine aw ?_;refine IH.out (c+d.am.length,k+d.ac.length) ⟨by dsimp only;omega,by dsimp only;omega,⟨?_⟩⟩;dsimp only;rw[hg3.out,hrj.out,Dz,D7]
  ·(repeat' (first|simp only[go_sem, *]|(refine sx ?_ ?_<;>intro hc)|refine sy (by omega) fun x hx hm=>?_|simp(disch:=first|assumption|omega) only[AJ]))
   all_goals
    have q1:=hstep.out;have q2:=hgo.out;clear hks hgo hstep IH;congr 3;grind [Dd]
 .rintro i ⟨c,k⟩ hi him ⟨b1,b2,hr⟩;dsimp only at*;have hfin:AA (Br p gs s 0 0 1 s.bi=(decide (c=s.am.length)&&decide (k=s.ac.length))):=⟨by rw[hr.out,Br]⟩
  (repeat' (first|simp only[go_sem, *]|(refine sx ?_ ?_<;>intro hc)|refine sy (by omega) fun x hx hm=>?_|simp(disch:=first|assumption|omega) only[AJ]))
  all_goals
   rw[hfin.out];congr 3;grind
def Bx(p:AI)(s:BM):Int:=match looks p with|some st=>if DG p st.ce s=true then 0 else 2|none=>2
theorem Ts(p:AI)(s:BM):BJ (KL Tryz.prog cfg) 32 [.agg [.d (.be (p.free.map Av)),.d (.be (p.nodes.map Ad)),.d (.be (p.defs.map Ax)),.d (.int .i64 (p.main))],.agg [.d (.be (s.ac.map Aa)),.d (.be (s.bi.map An)),.d (.be (s.am.map Bc)),.d (.be (s.waits.map AU))]] []=.ok (.ret (.d (.int .i64 (Bx p s))),[]):=by
 have hcp:=iX p;cases hlk:looks p with
 |none=>
  have he:Bx p s=2:=by rw[Bx,hlk]
  have he2:WE p=2:=by rw[WE,hlk]
  rw[he2]at hcp;rw[he]
  (refine Ar rfl Tryz.func32 rfl rfl rfl ?_;show Wp _ _ _ _ (Tryz.f32.body.get rfl) _ _;simp only[Tryz.f32,AS])
  exact au
 |some st=>
  have he2:WE p=0:=by rw[WE,hlk]
  rw[he2]at hcp;have he:AA (Bx p s=if DG p st.ce s=true then 0 else 2):=⟨by rw[Bx,hlk]⟩;by_cases hss:s.small=true
  .have hbad:AA (DG p st.ce s=false→Bx p s=2):=⟨fun h=>by rw[he.out,h];rfl⟩;have hF:=AA.mk (B5 hlk);have hsm:=hF.out.small;simp only[AI.small,AP,Ap]at hsm;obtain⟨c1,c2,c3⟩:=hsm;have hok:AA (DG p st.ce s=(GZ s.ac&&(Fa s.ac (s.ac.drop 1)&&(Br p (BQ p st.ce) s 0 0 1 s.bi&&s.waits.all (Bz p st.ce s))))):=⟨by rw[DG,hss,D7]⟩;have hgr:=cZ p st s hlk hss;have hsz:=RJ hlk;simp only[BM.small,AP,Ap]at hss;obtain⟨s1,s2,s3,s4⟩:=hss;have z1: ¬(24:Int)<s.ac.length:=by omega
   have z2: ¬(40:Int)<s.bi.length:=by omega
   have z3: ¬(60:Int)<s.am.length:=by omega
   have z4: ¬(40:Int)<s.waits.length:=by omega
   have htr:=wu s.ac (.be (s.bi.map An)) (.be (s.am.map Bc)) (.be (s.waits.map AU)) (by omega);cases htb:GZ s.ac with
   |false=>
    rw[htb]at htr hok
    (refine Ar rfl Tryz.func32 rfl rfl rfl ?_;show Wp _ _ _ _ (Tryz.f32.body.get rfl) _ _;simp only[Tryz.f32,AS])
    refine aw ?_;all_goals first
    |(exfalso;omega)
    |rw[hbad.out (by rw[hok.out];rfl)]
   |true=>
    rw[htb,D7]at hok;rw[htb]at htr;have hT:=PH htb;have htop:=hT.top;replace hT:=AA.mk hT
    (refine Ar rfl Tryz.func32 rfl rfl rfl ?_;show Wp _ _ _ _ (Tryz.f32.body.get rfl) _ _;simp only[Tryz.f32,AS])
    refine aw ?_;refine Aw (s.ac.drop 1) (S:=fun i (_:Unit)=>⟨[(2,.ptr [0,0] 0),(3,.ptr [0,1] 0),(5,.d (.int .i64 ((i:Int)+1)))],[([0,0],.box [.d (.be (p.free.map Av)),.d (.be (p.nodes.map Ad)),.d (.be (p.defs.map Ax)),.d (.int .i64 (p.main))]),([0,1],.box [.d (.be (s.ac.map Aa)),.d (.be (s.bi.map An)),.d (.be (s.am.map Bc)),.d (.be (s.waits.map AU))])],2,[]⟩)
     (Inv:=fun i rest _=>AA (Fa s.ac (s.ac.drop 1)=Fa s.ac rest)) (b0:=()) ⟨rfl⟩ ?_ ?_
    .rintro i y _ hy hi him hr IH;rw[HE]at hy;rw[Io]at hi;have ix:((i:Int)+1).toNat=1+i:=by omega
     rw[←ix]at hy;replace ix:=AA.mk ix;have hi2:(i:Int)+1<s.ac.length:=by omega
     have hi3:0≤(i:Int)+1:=by omega
     have hpar:Dd s.ac y.of:=by
      have h1:=hT.out.pm ((i:Int)+1) ⟨by omega,by omega⟩;obtain⟨k,hk⟩: ∃k,s.ac.length=k+1:=⟨s.ac.length-1,by omega⟩;rw[hk]at h1;have h2:=(E9 (by omega) h1).1
      rwa [Jq hy]at h2
     obtain⟨p1,p2⟩:=hpar;obtain⟨z,hz⟩:=get_some (l:=s.ac) (i:=y.of.toNat) (by omega);have hda:AA (AW s.ac y.of=z.dead):=⟨by simp[AW,hz]⟩;rw[Fa]at hr;cases hyd:y.dead<;>cases hzd:z.dead;all_goals (refine aw ?_)
     all_goals first
     |(refine IH.out () ⟨?_⟩;rw[hr.out,hda.out,hyd,hzd];rfl)
     |(refine IH.out () ⟨?_⟩;rw[hr.out,hyd];rfl)
     |(rw[hbad.out (by rw[hok.out,hr.out,hda.out,hyd,hzd];rfl)])
    .rintro i _ hi him hr;have hi':=hi.out;rw[Io]at hi';have hi2: ¬(i:Int)+1<s.ac.length:=by omega
     replace hi':=AA.mk hi';rw[Fa]at hr;cases hgv:Br p (BQ p st.ce) s 0 0 1 s.bi with
     |false=>
      rw[hgv]at hgr;refine aw ?_;rw[hbad.out (by rw[hok.out,hgv,By,GC])]
     |true=>
      rw[hgv]at hgr hok;refine aw ?_;have hr0:=hr;clear hr hi hi' him hi2;refine Aw s.waits (S:=fun i (_:Unit)=>⟨[(2,.ptr [0,0] 0),(3,.ptr [0,1] 0),(6,.d (.be (st.ce.map AK))),(7,.d (.int .i64 (i)))],[([0,0],.box [.d (.be (p.free.map Av)),.d (.be (p.nodes.map Ad)),.d (.be (p.defs.map Ax)),.d (.int .i64 (p.main))]),([0,1],.box [.d (.be (s.ac.map Aa)),.d (.be (s.bi.map An)),.d (.be (s.am.map Bc)),.d (.be (s.waits.map AU))])],2,[]⟩)
       (Inv:=fun i rest _=>AA (DG p st.ce s=rest.all (Bz p st.ce s))) (b0:=()) ⟨?_⟩ ?_ ?_
      .rw[hok.out,hr0.out,D7,D7]
      .rintro i w _ hy hi him hr IH;have hwo:AA (Bz p st.ce s w=(decide (Dd s.ac w.at_)&&(!AW s.ac w.at_&&(decide (0≤w.node)&&((match p.nodes[w.node.toNat]? with|some x=>DS x.op|none=>false)&&(decide ((w.env.length:Int)=(st.ce[w.node.toNat]?).getD 0)&&w.env.all (CT.inB p s.am.length s.ac.length))))))):=⟨rfl⟩
       have hbw:AA (Bz p st.ce s w=false→Bx p s=2):=⟨fun h=>hbad.out (by rw[hr.out,D3,h,By])⟩;by_cases a0:w.at_<0
       .have hz:AA (Bx p s=2):=⟨hbw.out (by rw[hwo.out,CE (show¬Dd s.ac w.at_ from fun h=>by have:=h.1;omega)];simp)⟩;refine aw ?_;all_goals rw[hz.out]
       by_cases a1:(s.ac.length:Int)≤w.at_
       .have hz:AA (Bx p s=2):=⟨hbw.out (by rw[hwo.out,CE (show¬Dd s.ac w.at_ from fun h=>by have:=h.2;omega)];simp)⟩;refine aw ?_;all_goals rw[hz.out]
       have a2:0≤w.at_:=by omega
       obtain⟨sp,hsp⟩:=get_some (l:=s.ac) (i:=w.at_.toNat) (by omega);have hda:AA (AW s.ac w.at_=sp.dead):=⟨by simp[AW,hsp]⟩;have hin:AA (decide (Dd s.ac w.at_)=true):=⟨Co ⟨by omega,by omega⟩⟩;by_cases n0:w.node<0
       .have hz:AA (Bx p s=2):=⟨hbw.out (by rw[hwo.out,CE (show¬0≤w.node by omega)];simp)⟩
        (repeat' (first|simp only[go_sem, *]|(refine sx ?_ ?_<;>intro hc)|refine sy (by omega) fun x hx hm=>?_|simp(disch:=first|assumption|omega) only[AJ]))
        all_goals rw[hz.out]
       by_cases n1:(p.nodes.length:Int)≤w.node
       .have hz:AA (Bx p s=2):=⟨hbw.out (by rw[hwo.out,I6 (show p.nodes.length≤w.node.toNat by omega)];simp)⟩
        (repeat' (first|simp only[go_sem, *]|(refine sx ?_ ?_<;>intro hc)|refine sy (by omega) fun x hx hm=>?_|simp(disch:=first|assumption|omega) only[AJ]))
        all_goals rw[hz.out]
       have n2:0≤w.node:=by omega
       obtain⟨x,hx⟩:=get_some (l:=p.nodes) (i:=w.node.toNat) (by omega);obtain⟨v,_,hv,v0,v1,_⟩:=hF.out.node _ x hx;have hln:=AA.mk hF.out.len;have hlv:=AH hv;by_cases hlen:(w.env.length:Int)=v
       .have hvs:=MH p (s.ac.map Aa) (s.am.map Bc) (.be (s.bi.map An)) (.be (s.waits.map AU)) w.env (by simp;omega) (by simp;omega) (by omega) (by omega);rw[BI,BI]at hvs;have hwo2:AA (Bz p st.ce s w=(decide (Dd s.ac w.at_)&&(!AW s.ac w.at_&&(DS x.op&&w.env.all (CT.inB p s.am.length s.ac.length))))):=⟨by
         rw[hwo.out,Co (show 0≤w.node by omega),hx,hv];simp[hlen]⟩
        rw[←hlen]at hv;replace hlen:=AA.mk hlen;cases hsd:sp.dead with
        |true=>
         have hz:AA (Bx p s=2):=⟨hbw.out (by rw[hwo2.out,hda.out,hsd];simp)⟩
         (repeat' (first|simp only[go_sem, *,Nz]|(refine sx ?_ ?_<;>intro hc)|refine sy (by omega) fun x hx hm=>?_|simp(disch:=first|assumption|omega) only[AJ]))
         all_goals rw[hz.out]
        |false=>
         have hwo3:AA (Bz p st.ce s w=(DS x.op&&w.env.all (CT.inB p s.am.length s.ac.length))):=⟨by
          rw[hwo2.out,hin.out,hda.out,hsd];simp⟩
         (repeat' (first|simp only[go_sem, *,Nz]|(refine sx ?_ ?_<;>intro hc)|refine sy (by omega) fun x hx hm=>?_|simp(disch:=first|assumption|omega) only[AJ]))
         all_goals first
         |(refine IH.out () ⟨?_⟩;rw[hr.out,D3,hwo3.out];simp only[*,D7];done)
         |(rw[hbw.out (by rw[hwo3.out];simp only[*,By,GC])];done)
       .have hz:AA (Bx p s=2):=⟨hbw.out (by rw[hwo.out,hv,CE (show¬(w.env.length:Int)=(some v).getD 0 from hlen)];simp)⟩
        (repeat' (first|simp only[go_sem, *,Nz]|(refine sx ?_ ?_<;>intro hc)|refine sy (by omega) fun x hx hm=>?_|simp(disch:=first|assumption|omega) only[AJ]))
        all_goals rw[hz.out]
      .rintro i _ hi him hr;have hz:AA (Bx p s=0):=⟨by rw[he.out,hr.out];rfl⟩;refine aw ?_;rw[hz.out]
  .have he3:Bx p s=2:=by
    rw[he.out,DG];simp[hss]
   rw[he3];have hss:AA (¬(s.ac.length≤24∧s.bi.length≤40∧s.am.length≤60∧s.waits.length≤40)):=⟨by simpa[BM.small]using hss⟩;clear he3
   (refine Ar rfl Tryz.func32 rfl rfl rfl ?_;show Wp _ _ _ _ (Tryz.f32.body.get rfl) _ _;simp only[Tryz.f32,AS])
   (repeat' (first|simp only[go_sem, *]|(refine sx ?_ ?_<;>intro hc)|refine sy (by omega) fun x hx hm=>?_|simp(disch:=first|assumption|omega) only[AJ]))
   all_goals (have:=hss.out;exfalso;omega)
instance:DecidableEq FY:=fun a b=>decidable_of_iff (a.wait=b.wait∧a.group=b.group∧a.ut=b.ut∧a.picks=b.picks) (by cases a;cases b;simp)
structure AEL(p:AI)(s:BM)(st:BN):Prop where
 looks:looks p=some st
 formed:BD p st.ce
 rc:E6 p st.ce s
theorem yd{p:AI}{s:BM}(h:Bx p s=0): ∃st,AEL p s st:=by
 rw[Bx]at h;split at h
 .rename_i st hlk;split at h
  .rename_i hs;exact⟨st,hlk,B5 hlk,ADt hs⟩
  .cases h
 .cases h
theorem yM{p:AI}{s:BM}(h: ¬Bx p s=0):Bx p s=2:=by
 rw[Bx]at h⊢;split at h
 .split at h
  .exact absurd rfl h
  .rename_i hh;simp[hh]
 .rfl
abbrev AE8(x:FY):AV:=.agg [.d (.int .i64 x.wait),.d (.int .i64 x.group),.d (.int .i64 x.ut),.d (.be (x.picks.map AK))]
inductive Below:List Nat→List Int→Prop
 |nil:Below [] []
 |cons {n:Nat} {k:Int} {l:List Nat} {t:List Int}:0≤k→k<n→Below l t→Below (n::l) (k::t)
theorem Mi: ∀{l:List Nat} {t:List Int},t∈Ds l↔Below l t
 |[],t=>by
  rw[Ds,As];exact⟨fun h=>h▸ .nil,fun h=>by cases h;rfl⟩
 |n::l,t=>by
  rw[Ds,Bi];constructor
  .rintro⟨i,hi,ht⟩;obtain⟨u,hu,rfl⟩:=F0.1 ht;have:=Ok.1 hi;exact .cons (by omega) (by omega) (Mi.1 hu)
  .intro h;cases h with
   | @cons _ k _ t h1 h2 h3=>exact⟨k.toNat,Ok.2 (by omega),F0.2 ⟨t,Mi.2 h3,by rw[PL h1]⟩⟩
theorem Below.len: ∀{l:List Nat} {t:List Int},Below l t→t.length=l.length
 |_,_,.nil=>rfl
 |_,_,.cons _ _ h=>by rw[List.length_cons,List.length_cons,h.len]
inductive Kc(p:AI)(s:BM):FY→Prop
 |wait {i:Nat} {w:GI}:s.waits[i]? =some w→lc p s w=true→Kc p s ⟨i,0,0,[]⟩
 |ut {i k:Nat} {g:Ao} {d:Bq} {r:Fi} {t:List Int}:s.bi[i]? =some g→p.def? g.eq=some d→d.rules[k]? =some r→AW s.ac (g.place d r.at_)=false→Below (B7 s d g r) t→Kc p s ⟨-1,i,k,t⟩
theorem Vd{p:AI}{s:BM}{x:FY}: ∀{l:List GI} {i:Nat},s.waits.drop i=l→(x∈Dp p s i l↔ ∃j:Nat,i≤j∧ ∃w,s.waits[j]? =some w∧lc p s w=true∧x=⟨j,0,0,[]⟩)
 |[],i,h=>by
  have:s.waits.length≤i:=On.1 h;constructor
  .intro h;cases h
  .rintro⟨j,hj,w,hw,_⟩;obtain⟨h1,_⟩:=BE.1 hw;omega
 |w::l,i,h=>by
  have hg:s.waits[i]? =some w:=by
   have:=congrArg (fun l=>l[0]?) h;simpa using this
  have ih:=Vd (x:=x) (p:=p) (l:=l) (i:=i+1) (by rw[AO hg]at h;exact(Rg h).2);rw[Dp,EX,ih];constructor
  .rintro(h1|⟨j,h1,h2⟩)
   .split at h1
    .exact⟨i,EL _,w,hg,by assumption,As.1 h1⟩
    .cases h1
   .exact⟨j,by omega,h2⟩
  .rintro⟨j,h1,w2,h2,h3,h4⟩;by_cases e:j=i
   .subst e;rw[hg]at h2;cases h2;exact .inl (by rw[DO h3,h4];simp)
   .exact .inr ⟨j,by omega,w2,h2,h3,h4⟩
theorem P4{s:BM}{d:Bq}{g:Ao}{i:Nat}{x:FY}: ∀{l:List Fi} {k:Nat},d.rules.drop k=l→(x∈CV s d g i k l↔ ∃j:Nat,k≤j∧ ∃r,d.rules[j]? =some r∧ ∃t∈Ev s d g r,x=⟨-1,i,j,t⟩)
 |[],k,h=>by
  have:d.rules.length≤k:=On.1 h;constructor
  .intro h;cases h
  .rintro⟨j,hj,w,hw,_⟩;obtain⟨h1,_⟩:=BE.1 hw;omega
 |r::l,k,h=>by
  have hg:d.rules[k]? =some r:=by
   have:=congrArg (fun l=>l[0]?) h;simpa using this
  have ih:=P4 (x:=x) (s:=s) (g:=g) (i:=i) (l:=l) (k:=k+1) (by rw[AO hg]at h;exact(Rg h).2);rw[CV,EX,ih];constructor
  .rintro(h1|⟨j,h1,h2⟩)
   .obtain⟨t,ht,rfl⟩:=F0.1 h1;exact⟨k,EL _,r,hg,t,ht,rfl⟩
   .exact⟨j,by omega,h2⟩
  .rintro⟨j,h1,w2,h2,h3⟩;by_cases e:j=k
   .subst e;rw[hg]at h2;cases h2;obtain⟨t,ht,rfl⟩:=h3;exact .inl (F0.2 ⟨t,ht,rfl⟩)
   .exact .inr ⟨j,by omega,w2,h2,h3⟩
theorem Uo{p:AI}{s:BM}{x:FY}: ∀{l:List Ao} {i:Nat},s.bi.drop i=l→(x∈DY p s i l↔ ∃j:Nat,i≤j∧ ∃g d,s.bi[j]? =some g∧p.def? g.eq=some d∧x∈CV s d g j 0 d.rules)
 |[],i,h=>by
  have:s.bi.length≤i:=On.1 h;constructor
  .intro h;cases h
  .rintro⟨j,hj,w,_,hw,_⟩;obtain⟨h1,_⟩:=BE.1 hw;omega
 |g::l,i,h=>by
  have hg:s.bi[i]? =some g:=by
   have:=congrArg (fun l=>l[0]?) h;simpa using this
  have ih:=Uo (x:=x) (p:=p) (l:=l) (i:=i+1) (by rw[AO hg]at h;exact(Rg h).2);rw[DY,EX,ih];constructor
  .rintro(h1|⟨j,h1,h2⟩)
   .split at h1
    .exact⟨i,EL _,g,_,hg,by assumption,h1⟩
    .cases h1
   .exact⟨j,by omega,h2⟩
  .rintro⟨j,h1,w2,d,h2,h3,h4⟩;by_cases e:j=i
   .subst e;rw[hg]at h2;cases h2;exact .inl (by rw[h3];exact h4)
   .exact .inr ⟨j,by omega,w2,d,h2,h3,h4⟩
theorem Q7{p:AI}{s:BM}{x:FY}:x∈Cz p s↔Kc p s x:=by
 rw[Cz,EX,Vd (l:=s.waits) (i:=0) rfl,Uo (l:=s.bi) (i:=0) rfl];constructor
 .rintro(⟨j,_,w,h1,h2,rfl⟩|⟨j,_,g,d,h1,h2,h3⟩)
  .exact .wait h1 h2
  .obtain⟨k,_,r,h4,t,h5,rfl⟩:=(P4 (l:=d.rules) (k:=0) rfl).1 h3;rw[Ev]at h5;split at h5
   .cases h5
   .rename_i hd;exact .ut h1 h2 h4 (by simpa using hd) (Mi.1 h5)
 .rintro(⟨h1,h2⟩|⟨h1,h2,h3,h4,h5⟩)
  .exact .inl ⟨_,I4 _,_,h1,h2,rfl⟩
  .exact .inr ⟨_,I4 _,_,_,h1,h2,(P4 (l:=_) (k:=0) rfl).2 ⟨_,I4 _,_,h3,_,by rw[Ev,h4,CS (by simp)];exact Mi.2 h5,rfl⟩⟩
def RH(s:BM)(e:EK):Prop:=e.wt=5∧Dd s.ac e.at_∧AW s.ac e.at_=false
structure Qq(p:AI)(sz:List Int)(st st':CK)(js:List Ga):Prop where
 rc:E6 p sz st'.d9
 ext:XF st.d9 st'.d9
 jobs: ∀j∈js,Cl p sz st'.d9 j
 work:st'.work=st.work
 ev: ∃l,st'.ev=st.ev++l∧l.length≤1∧ ∀e∈l,RH st'.d9 e
structure Jx(p:AI)(sz:List Int)(st st':CK):Prop where
 rc:E6 p sz st'.d9
 ext:XF st.d9 st'.d9
 work:st.work≤st'.work
 top:st.work≤400→st'.work≤400
 evs: ∃l,st'.ev=st.ev++l∧(l.length:Int)≤st'.work-st.work∧ ∀e∈l,RH st'.d9 e
theorem Jx.ev{p:AI}{sz:List Int}{st st':CK}(h:Jx p sz st st'):(st'.ev.length:Int)≤st.ev.length+(st'.work-st.work):=by
 obtain⟨l,h1,h2,_⟩:=h.evs;rw[h1,CI];omega
theorem wG{s s':BM}(h:XF s s'){e:EK}(he:RH s e):RH s' e:=⟨he.1,Hn h.ns he.2.1,by rw[Ix h he.2.1];exact he.2.2⟩
theorem o6{p:AI}{sz:List Int}{st:CK}(h:E6 p sz st.d9):Jx p sz st st:=⟨h,Hj _,by omega,fun h=>h,[],by simp,by simp,by simp⟩
theorem Sm{p:AI}{sz:List Int}{a b c:CK}(h1:Jx p sz a b)(h2:Jx p sz b c):Jx p sz a c:=by
 obtain⟨l,e1,n1,w1⟩:=h1.evs;obtain⟨m,e2,n2,w2⟩:=h2.evs;refine⟨h2.rc,jx h1.ext h2.ext,by have:=h1.work;have:=h2.work;omega,fun h=>h2.top (h1.top h),l++m,by rw[e2,e1,EM],by rw[CI];omega,fun e he=>?_⟩;rcases EX.1 he with he|he
 .exact wG h2.ext (w1 e he)
 .exact w2 e he
section
variable{p:AI}{sz:List Int}{st:CK}{j:Ga}{x:Cq}
theorem ve{s:BM}{n:Nat}{q:GR}(hs:E6 p sz s)(hq:s.am[n]? =some q){l:List CT}(hl:q.queue.length<12)(hd:AW s.ac q.at_=false)(hm:EE p s q=l.length)(hv:l.all (CT.inB p s.am.length s.ac.length)=true):QOk p s {q with queue:=q.queue++[l]}:=by
 have h:=hs.que n q hq;refine⟨by simp;omega,.inr hd,fun m hm2=>?_⟩;rcases EX.1 hm2 with h2|h2
 .exact h.msgs m h2
 .rw[As]at h2;subst h2;show E3 p _ _ (EE p s q) m=true;rw[E3,hm,hv];simp
theorem pc(hs:E6 p sz st.d9)(hj:Cl p sz st.d9 j)(ha: ∀e∈x.args,e.formed j.env.length=true){st':CK}(h:Ec p x j st=some st'):Qq p sz st st' []:=by
 have hv:(x.args.map (·.value j.env)).all (CT.inB p st.d9.am.length st.d9.ac.length)=true:=by
  rw[Ci];intro v hv;obtain⟨e,he,rfl⟩:=F0.1 hv;exact p6 hj.jp e (ha e he)
 simp only[Ec]at h;split at h
 .cases h;exact⟨hs,Hj _,by simp,rfl,_,rfl,by simp,fun e he=>by rw[As]at he;subst he;exact⟨rfl,hj.at_,hj.live⟩⟩
 split at h
 .obtain⟨s,hs2,rfl⟩:=BV.1 h;have key:E6 p sz s∧XF st.d9 s:=by
   rw[P6]at hs2;split at hs2
   .rename_i q hq;split at hs2
    .rename_i hc;rw[Xz]at hs2;split at hs2
     .rename_i hl;cases hs2;exact⟨VS hs hq (ve hs hq hl hc.1 hc.2 hv),jw hq _⟩
     .cases hs2
    .cases hs2;exact⟨hs,Hj _⟩
   .cases hs2;exact⟨hs,Hj _⟩
  exact⟨key.1,key.2,by simp,rfl,[],by simp,by simp,by simp⟩
 .cases h;exact⟨hs,Hj _,by simp,rfl,[],by simp,by simp,by simp⟩
theorem X6(hF:BD p sz)(hs:E6 p sz st.d9)(hj:Cl p sz st.d9 j)(hx:p.nodes[j.node.toNat]? =some x)(ho:x.op=4){st':CK}{js:List Ga}(h:Hh p x j st=some (st',js)):Qq p sz st st' js:=by
 obtain⟨d,hd⟩:=rb hF hs hj hx ho;simp only[Hh,hd.eq]at h;split at h
 .rename_i hc;cases h;have he:=hd.ext;have hl:(CM st.d9 d (Ak st.d9 d x.n j)).am.length=st.d9.am.length+d.am.length:=by simp[CM,Gx]
  have hsl:(CM st.d9 d (Ak st.d9 d x.n j)).ac.length=st.d9.ac.length+d.ac.length:=by simp[CM,FP]
  have hv:(Ak st.d9 d x.n j).env.all (CT.inB p (CM st.d9 d (Ak st.d9 d x.n j)).am.length (CM st.d9 d (Ak st.d9 d x.n j)).ac.length)=true:=by rw[hl,hsl];exact hd.jp
  have hn:((Ak st.d9 d x.n j).env.length:Int)=(j.env.length:Int)+d.own:=by rw[hd.env];omega
  refine⟨hd.sok' hF hc,he,fun j' hj'=>?_,rfl,[],by simp,by simp,by simp⟩;rcases EX.1 hj' with hj'|hj'
  .obtain⟨t,y,h1,rfl⟩:=PF hj';have h2:=hd.ac y (Ac h1);have h3:=AH h1;have h4:=hd.spot (n:=((0+t:Nat):Int)+1) (by omega) (by omega);exact⟨h2.1,by rw[h2.2,hn],h4.1,h4.2,hv⟩
  .obtain⟨k,hk,k0,k1⟩:=hd.kid;rw[Bj,hk]at hj';simp only[Ex,As]at hj';subst hj';exact⟨k0,by rw[k1,hn],Hn he.ns hj.at_,by rw[Ix he hj.at_];exact hj.live,hv⟩
 .cases h
theorem gD(hs:E6 p sz st.d9)(hj:Cl p sz st.d9 j)(hx:p.nodes[j.node.toNat]? =some x)(ho:DS x.op=true){st':CK}(h:IL j st=some st'):Qq p sz st st' []:=by
 rw[IL]at h;split at h
 .rename_i hc;cases h;refine⟨Mx hs (by simp;omega) fun w hw=>?_,⟨fun _ _ h=>h,fun _ _ h=>h,fun c q hq=>⟨[],by simpa using hq⟩⟩,by simp,rfl,[],by simp,by simp,by simp⟩;rcases EX.1 hw with hw|hw
  .exact hs.wait w hw
  .rw[As]at hw;subst hw;simp only[Bz,hj.live,hj.jp,hx,ho,hj.size,AP,Ap,Gs,F5];exact⟨hj.at_,trivial,hj.n0,trivial,trivial,trivial⟩
 .cases h
theorem bh(hF:BD p sz)(hs:E6 p sz st.d9)(hj:Cl p sz st.d9 j){st':CK}{js:List Ga}(h:Jd p j st=some (st',js)):Qq p sz st st' js:=by
 obtain⟨x,l,hx,hok,hsub,hq,_⟩:=KM hF hj;simp only[Jd,hx]at h;have kids: ¬x.op=4→ ∀k,∀j'∈Bj x k j.at_ j.env,Cl p sz st.d9 j':=fun ho k=>Pj hj ho hsub hq k;split at h
 .rename_i ho;obtain⟨s,hs2,e⟩:=BV.1 h;cases e;simp only[Cc,AP,Ci]at hok;exact pc hs hj (fun e he=>by have:=hok.2.2.2 e he;simp only[BS.ok,AP]at this;exact this.2.2) hs2
 split at h
 .rename_i ho;cases h;refine⟨hs,Hj _,fun j' hj'=>?_,rfl,[],by simp,by simp,by simp⟩;rcases EX.1 hj' with hj'|hj'
  .exact kids (by omega) 0 j' hj'
  .exact kids (by omega) 1 j' hj'
 split at h
 .rename_i ho;exact X6 hF hs hj hx ho h
 split at h
 .rename_i ho4 ho;cases h;exact⟨hs,Hj _,kids ho4 _,rfl,[],by simp,by simp,by simp⟩
 split at h
 .rename_i ho;obtain⟨s,hs2,e⟩:=BV.1 h;cases e;exact gD hs hj hx ho hs2
 .cases h;exact⟨hs,Hj _,by simp,rfl,[],by simp,by simp,by simp⟩
end
theorem Me{p:AI}{sz:List Int}{f:Ga→CK→Option CK}(hf: ∀j st st',E6 p sz st.d9→Cl p sz st.d9 j→f j st=some st'→Jx p sz st st'): ∀(l:List Ga) (st st':CK),E6 p sz st.d9→(∀j∈l,Cl p sz st.d9 j)→Bn f l st=some st'→Jx p sz st st'
 |[],st,st',hs,_,h=>by cases h;exact o6 hs
 |j::l,st,st',hs,hj,h=>by
  rw[Bn]at h;obtain⟨st1,h1,h2⟩:=IT.1 h;have hp:=hf j st st1 hs (hj j (by simp)) h1;exact Sm hp (Me hf l st1 st' hp.rc (fun j' hj'=>Q0 (hj j' (by simp[hj'])) hp.ext) h2)
theorem Iy{p:AI}{sz:List Int}(hF:BD p sz): ∀(k:Nat) (j:Ga) (st st':CK),E6 p sz st.d9→Cl p sz st.d9 j→Fb p k j st=some st'→Jx p sz st st'
 |0,j,st,st',_,_,h=>by cases h
 |k+1,j,st,st',hs,hj,h=>by
  rw[Fb]at h;split at h
  .rename_i hw;cases hd:Jd p j {st with work:=st.work+1}with
   |none=>rw[hd]at h;cases h
   |some r=>
    obtain⟨st1,js⟩:=r;rw[hd]at h;have hp:=bh (st:={st with work:=st.work+1}) hF hs hj hd
    obtain⟨l,e1,e2,e3⟩:=hp.ev;have w1:st1.work=st.work+1:=hp.work;refine Sm (b:=st1) ⟨hp.rc,hp.ext,by omega,by omega,l,e1,by omega,e3⟩ (Me (fun j st st'=>Iy hF k j st st') js st1 st' hp.rc hp.jobs h)
  .cases h
variable{α:Type}{l:List α}
theorem MQ{i:Int}{x:α}(h:x∈CN l i):x∈l:=by
 rcases EX.1 h with h|h
 .exact LI h
 .exact LM h
theorem Ud{i:Int}(h:i.toNat<l.length):(CN l i).length=l.length-1:=by
 rw[CN,CI,IP,Io];omega
theorem OJ(l:List α)(i:Int):(CN l i).length≤l.length:=by
 rw[CN,CI,IP,Io];omega
theorem pG{p:AI}{s:BM}{q:GR}(h:QOk p s q)(k:Int):QOk p s {q with queue:=CN q.queue k}:=by
 have:=OJ q.queue k;refine⟨Hm this h.len,?_,fun m hm=>h.msgs m (MQ hm)⟩;rcases h.dead with hd|hd
 .exact .inl (show(CN q.queue k).length=0 by omega)
 .exact .inr hd
structure Tv(s s':BM):Prop where
 ac:s'.ac=s.ac
 bi:s'.bi=s.bi
 waits:s'.waits=s.waits
 len:s'.am.length=s.am.length
theorem aY{p:AI}{sz:List Int}{s:BM}(hs:E6 p sz s){c:Int}{q:GR}(hq:s.am[c.toNat]? =some q){k:Int}(hk:k.toNat<q.queue.length):E6 p sz (FU s c k).2∧Tv s (FU s c k).2∧(FU s c k).1.all (CT.inB p s.am.length s.ac.length)=true∧(((FU s c k).1.length:Nat):Int)=EE p s q∧ ∀c2:Nat,c2≠c.toNat→(FU s c k).2.am[c2]? =s.am[c2]? :=by
 obtain⟨m,hm⟩:=get_some hk;have hqo:=hs.que _ q hq;have hmo:=hqo.msgs m (Ac hm);simp only[E3,AP,Ap]at hmo;have e:FU s c k=(m,{s with am:=s.am.set c.toNat {q with queue:=CN q.queue k}}):=by rw[FU,hq];simp[hm]
 rw[e];refine⟨VS hs hq (pG hqo k),⟨rfl,rfl,rfl,by simp⟩,hmo.2,hmo.1,fun c2 h2=>?_⟩;dsimp only;rw[HW,CS (fun e=>h2 e.symm)]
structure XQ(p:AI)(sz:List Int)(d:Bq)(cs:List Int)(s:BM)(t:List CT×BM):Prop where
 rc:E6 p sz t.2
 only:Tv s t.2
 jp:t.1.all (CT.inB p s.am.length s.ac.length)=true
 len:((t.1.length:Nat):Int)=CH d cs
theorem aX{p:AI}{sz:List Int}{d:Bq}{g:Ao}: ∀{cs ks:List Int} {s:BM},E6 p sz s→cs.length=ks.length→
 (∀(i:Nat) c k,cs[i]? =some c→ks[i]? =some k→ ∃q,s.am[(g.own d true c).toNat]? =some q∧k.toNat<q.queue.length∧EE p s q=((d.am[c.toNat]?).map Hb.many).getD 0)→
 (∀(i j:Nat) c c2,i<j→cs[i]? =some c→cs[j]? =some c2→(g.own d true c2).toNat≠(g.own d true c).toNat)→XQ p sz d cs s (BO d g cs ks s)
 |[],ks,s,hs,_,_,_=>by
  rw[BO]
  .exact⟨hs,⟨rfl,rfl,rfl,rfl⟩,rfl,rfl⟩
  .intro c cs k ks h;cases h
 |c::cs,[],s,hs,hl,_,_=>by cases hl
 |c::cs,k::ks,s,hs,hl,hq,hd=>by
  obtain⟨q,h1,h2,h3⟩:=hq 0 c k rfl rfl;obtain⟨a1,a2,a3,a4,a5⟩:=aY hs h1 h2;have ih:=aX (p:=p) (sz:=sz) (d:=d) (g:=g) (cs:=cs) (ks:=ks) (s:=(FU s (g.own d true c) k).2) a1 (by simpa using hl) (fun i c2 k2 e1 e2=>?_) (fun i j c2 c3 hij e1 e2=>hd (i+1) (j+1) c2 c3 (by omega) (by simpa using e1) (by simpa using e2))
  .rw[BO];refine⟨ih.rc,⟨ih.only.ac.trans a2.ac,ih.only.bi.trans a2.bi,ih.only.waits.trans a2.waits,ih.only.len.trans a2.len⟩,?_,?_⟩
   .rw[Ro,a3,D7];have:=ih.jp
    rwa [a2.len,a2.ac]at this
   .have:=ih.len;rw[CI,CH];omega
  .obtain⟨q2,b1,b2,b3⟩:=hq (i+1) c2 k2 (by simpa using e1) (by simpa using e2);refine⟨q2,by rw[a5 _ (hd 0 (i+1) c c2 (by omega) rfl (by simpa using e1))];exact b1,b2,?_⟩;rw[←b3,EE,EE,a2.bi]
theorem lJ{l:List BL}(hT:GG l){b a:Int}(hb:Dd l b)(h0: ¬b=0):CF l b a=(decide (a=b)||CF l (BF l b) a):=by
 have hc:=hT.pm b hb;obtain⟨k,hk⟩: ∃k,l.length=k+1:=⟨l.length-1,by have:=hT.pos;omega⟩;rw[hk]at hc;have hs:=E9 h0 hc;have e:QD l (k+1) (BF l b)=QD l k (BF l b):=RU l k (k+1) _ hs.2 (by omega);rw[CF,CF,hk,e,QD,CS h0];simp[Ce]
theorem Yx(l:List BL)(b:Int):CF l b b=true:=Co (RV l _ b)
def KF(l:List BL)(at_:Int):List BL:=Gp l at_ 0 l
theorem gj(l:List BL)(at_:Int): ∀(m:List BL) (i:Nat),(Gp l at_ i m).length=m.length
 |[],i=>rfl
 |x::m,i=>by rw[Gp,List.length_cons,List.length_cons,gj l at_ m (i+1)]
theorem gh(l:List BL)(at_:Int): ∀(m:List BL) (i k:Nat),(Gp l at_ i m)[k]? =(m[k]?).map fun x=>{x with dead:=x.dead||CF l ((i+k:Nat):Int) at_}
 |[],i,k=>by simp[Gp]
 |x::m,i,0=>by simp[Gp]
 |x::m,i,k+1=>by
  rw[Gp,F4,F4,gh l at_ m (i+1) k,show i+1+k=i+(k+1) by omega]
theorem R0(l:List BL)(at_:Int)(k:Nat):(KF l at_)[k]? =(l[k]?).map fun x=>{x with dead:=x.dead||CF l k at_}:=by
 rw[KF,gh];simp
theorem Ek(l:List BL)(at_:Int):(KF l at_).length=l.length:=gj l at_ l 0
theorem gk(l:List BL)(at_ i:Int):BF (KF l at_) i=BF l i:=by
 rw[BF,BF,R0];cases l[i.toNat]? <;>rfl
theorem UU(l:List BL)(at_:Int): ∀(k:Nat) (i:Int),A7 (KF l at_) k i=A7 l k i
 |0,i=>rfl
 |k+1,i=>by
  rw[A7,A7,gk,UU l at_ k];congr 2;exact decide_eq_decide.2 (by unfold Dd;rw[Ek])
theorem X8(l:List BL)(at_:Int){i:Int}(hi:Dd l i):AW (KF l at_) i=(AW l i||CF l i at_):=by
 have h0:=hi.1;have h1:=hi.2;obtain⟨x,hx⟩:=get_some (l:=l) (i:=i.toNat) (by omega);rw[AW,AW,R0,hx,show((i.toNat:Nat):Int)=i by omega];rfl
theorem rh{l:List BL}(h:GG l)(at_:Int):GG (KF l at_):=
 ⟨by rw[Ek];exact h.pos,by rw[gk];exact h.top,fun i hi=>by rw[UU,Ek];exact h.pm i (by rw[Dd,Ek]at hi;exact hi)⟩
theorem gl{p:AI}{sz:List Int}{s:BM}(hF:BD p sz)(h:E6 p sz s)(at_:Int):E6 p sz (PZ s at_):=by
 have hsm:=h.small;simp only[BM.small,AP,Ap]at hsm;have hsp:(PZ s at_).ac=KF s.ac at_:=rfl;have hch:(PZ s at_).am=s.am.map fun q=>if AW (KF s.ac at_) q.at_=true then{q with queue:=[]}else q:=rfl
 have hwt:(PZ s at_).waits=s.waits.filter fun w=> !AW (KF s.ac at_) w.at_:=rfl;have hgr:(PZ s at_).bi=s.bi:=rfl;have hcl:(PZ s at_).am.length=s.am.length:=by rw[hch,BI]
 have hsl:(PZ s at_).ac.length=s.ac.length:=by rw[hsp,Ek]
 have hmany: ∀q l,EE p (PZ s at_) {q with queue:=l}=EE p s q:=fun q l=>rfl
 refine⟨?_,by rw[hsp];exact rh h.tree _,fun i x hi hx=>?_,fun i g hg=>?_,by rw[hgr,hcl,hsl];exact h.tot,fun c q hq=>?_,fun w hw=>?_⟩
 .simp only[BM.small,AP,Ap];rw[hgr,hcl,hsl,hwt];have:=List.length_filter_le (fun w=> !AW (KF s.ac at_) w.at_) s.waits;omega
 .rw[hsp]at hx⊢;rw[R0]at hx;obtain⟨y,hy,rfl⟩:=BV.1 hx;have hin:=vT h.tree hi hy;have hiR:Dd s.ac i:=⟨by omega,by have:=AH hy;omega⟩;dsimp only;rw[X8 _ _ hin,I2,Bool.or_eq_false_iff];rcases h.dead i y hi hy with hd|hd
  .exact .inl (.inl hd)
  .cases hz:CF s.ac i at_ with
   |true=>exact .inl (.inr rfl)
   |false=>
    refine .inr ⟨hd,?_⟩;rw[lJ h.tree hiR (by omega),Bool.or_eq_false_iff]at hz;have hp:BF s.ac i=y.of:=by rw[BF,show((i:Nat):Int).toNat=i from rfl,hy];rfl
    rw[hp]at hz;exact hz.2
 .rw[hgr]at hg;obtain⟨d,hd⟩:=h.grp i g hg;refine⟨d,hd.eq,by rw[hsp,Dd,Ek];exact hd.at_,hd.len,by rw[hcl,hsl];exact hd.jp,by rw[hgr];exact hd.wn,fun j ch hj=>?_⟩;obtain⟨q,h1,h2,h3,h4⟩:=hd.am j ch hj;rw[hgr,hch,D1,h1];refine⟨_,rfl,?_⟩;dsimp only;split<;>exact⟨h2,h3,h4⟩
 .rw[hch,D1]at hq;obtain⟨q0,h0,rfl⟩:=BV.1 hq;have hqo:=h.que c q0 h0;split
  .exact⟨by simp,.inl rfl,fun m hm=>by cases hm⟩
  .rename_i hd;refine⟨hqo.len,?_,fun m hm=>?_⟩
   .rw[hsp];exact .inr (by simpa using hd)
   .rw[hcl,hsl];exact hqo.msgs m hm
 .rw[hwt,Pp]at hw;have:=h.wait w hw.1;simp only[Bz,AP,Ap,Gs]at this⊢;obtain⟨h1,h2,h3,h4,h5,h6⟩:=this;rw[hcl,hsl,hsp];exact⟨by rw[Dd,Ek];exact h1,by simpa using hw.2,h3,h4,h5,h6⟩
section
variable{l:List BL}{i n:Int}{x:BL}
theorem Hp(l:List BL)(i n:Int):(GY l i n).length=l.length:=by
 rw[GY];split<;>simp
theorem Ox(hx:l[i.toNat]? =some x)(k:Nat):(GY l i n)[k]? =if k=i.toNat then some {x with of:=n}else l[k]? :=by
 rw[GY,hx];dsimp only;rw[HW];have:=AH hx;by_cases e:i.toNat=k
 .rw[DO e,DO e.symm,DO (by omega)]
 .rw[CS e,CS fun h=>e h.symm]
theorem Oy(hi:0≤i)(hx:l[i.toNat]? =some x){k:Int}(hk:0≤k):BF (GY l i n) k=if k=i then n else BF l k:=by
 rw[BF,BF,Ox hx];by_cases e:k=i
 .rw[DO (by omega),DO e];rfl
 .rw[CS (by omega),CS e]
theorem Mj(hx:l[i.toNat]? =some x)(k:Int):AW (GY l i n) k=AW l k:=by
 rw[AW,AW,Ox hx];split
 .rename_i e;rw[e,hx];rfl
 .rfl
theorem ZE(hi:0≤i)(hx:l[i.toNat]? =some x): ∀{k:Nat} {b:Int},Dd l b→A7 l k b=true→i∉QD l k b→A7 (GY l i n) k b=true
 |0,b,hb,hc,h=>hc
 |k+1,b,hb,hc,h=>by
  by_cases h0:b=0
  .subst h0;exact FA _ _
  .have hs:=E9 h0 hc;rw[QD,CS h0,Ce,not_or]at h;rw[A7,Oy hi hx hb.1,CS fun e=>h.1 e.symm,ZE hi hx hs.1 hs.2 h.2];have:Dd (GY l i n) (BF l b):=by rw[Dd,Hp];exact hs.1
   rw[Co this];simp
theorem ZD(hT:GG l)(hi:0<i)(hx:l[i.toNat]? =some x)(hn:Dd l n)(ho:CF l n i=false): ∀{k:Nat} {b:Int},Dd l b→A7 l k b=true→ ∃m,A7 (GY l i n) m b=true
 |0,b,hb,hc=>by
  simp only[A7,Ap]at hc;subst hc;exact⟨0,FA _ _⟩
 |k+1,b,hb,hc=>by
  by_cases h0:b=0
  .subst h0;exact⟨0,FA _ _⟩
  .have hs:=E9 h0 hc;by_cases e:b=i
   .have h1:=ZE (n:=n) (by omega) hx hn (hT.pm n hn) (by simpa[CF]using ho);refine⟨l.length+1,?_⟩;have:Dd (GY l i n) n:=by rw[Dd,Hp];exact hn
    rw[A7,Oy (by omega) hx hb.1,DO e,h1,Co this];simp
   .obtain⟨m,hm⟩:=ZD hT hi hx hn ho hs.1 hs.2;refine⟨m+1,?_⟩;have:Dd (GY l i n) (BF l b):=by rw[Dd,Hp];exact hs.1
    rw[A7,Oy (by omega) hx hb.1,CS e,hm,Co this];simp
theorem nv(hT:GG l)(hi:0<i)(hx:l[i.toNat]? =some x)(hn:Dd l n)(ho:CF l n i=false):GG (GY l i n):=by
 refine⟨by rw[Hp];exact hT.pos,by rw[Oy (by omega) hx (by omega),CS (by omega)];exact hT.top,fun b hb=>?_⟩;have hb2:Dd l b:=by rw[Dd,Hp]at hb;exact hb
 obtain⟨m,hm⟩:=ZD hT hi hx hn ho hb2 (hT.pm b hb2);exact KC (by omega) (LU hb hm)
end
theorem KP{p:AI}{sz:List Int}{s:BM}(h:E6 p sz s){i n:Int}(hi:0<i)(hir:Dd s.ac i)(hn:Dd s.ac n)(hl:AW s.ac n=false)(ho:CF s.ac n i=false):E6 p sz {s with ac:=GY s.ac i n}:=by
 have hsm:=h.small;simp only[BM.small,AP,Ap]at hsm;have h1:=hir.1;have h2:=hir.2;obtain⟨x,hx⟩:=get_some (l:=s.ac) (i:=i.toNat) (by omega);have hlen:=Hp s.ac i n;refine⟨by simp only[BM.small,AP,Ap,hlen];omega,nv h.tree hi hx hn ho,fun k y hk hy=>?_,fun k g hg=>?_,by dsimp only;rw[hlen];exact h.tot,fun c q hq=>?_,fun w hw=>?_⟩
 .dsimp only at hy⊢;rw[Mj hx];rw[Ox hx]at hy;split at hy
  .cases hy;exact .inr hl
  .exact h.dead k y hk hy
 .obtain⟨d,hd⟩:=h.grp k g hg;exact⟨d,hd.eq,by dsimp only;rw[Dd,hlen];exact hd.at_,hd.len,by dsimp only;rw[hlen];exact hd.jp,hd.wn,hd.am⟩
 .have:=h.que c q hq;exact⟨this.len,by dsimp only;rw[Mj hx];exact this.dead,fun m hm=>by dsimp only;rw[hlen];exact this.msgs m hm⟩
 .have:=h.wait w hw;simp only[Bz,AP,Ap,Gs]at this⊢;rw[Mj hx,hlen,Dd,hlen];exact this
theorem Rh: ∀{l:List Nat} {t:List Int},Below l t→ ∀(i:Nat) n k,l[i]? =some n→t[i]? =some k→0≤k∧k<n
 |_,_,.nil,i,n,k,h,_=>by simp at h
 |_,_,.cons h1 h2 h3,0,n,k,e1,e2=>by
  simp only[Ex,Bv]at e1 e2;subst e1 e2;exact⟨h1,h2⟩
 |_,_,.cons h1 h2 h3,i+1,n,k,e1,e2=>Rh h3 i n k (by simpa using e1) (by simpa using e2)
theorem SN{d:Bq}{r:Fi}{l:List Int}: ∀{i:Nat},r.d8.drop i=l→joinsOk d r i l=true→ ∀(j k:Nat) c c2,i≤j→k<j→r.d8[j]? =some c→r.d8[k]? =some c2→c≠c2:=by
 induction l with
 |nil=>
  intro i h _ j k c c2 hj _ e1 _;have:=On.1 h;have:=AH e1;omega
 |cons x l ih=>
  intro i h ho j k c c2 hj hk e1 e2;rw[joinsOk,AP]at ho;have hx:r.d8[i]? =some x:=by
   have:=congrArg (fun l=>l[0]?) h;simpa using this
  by_cases e:j=i
  .subst e;rw[hx]at e1;cases e1;have h1:=ho.1;simp only[GJ,AP,Ap,Gs,Rc]at h1;intro e;subst e;exact h1.2.2.2 (ON.2 ⟨k,by rw[It,DO hk];exact e2⟩)
  .exact ih (by rw[AO hx]at h;exact(Rg h).2) ho.2 j k c c2 (by omega) hk e1 e2
structure Mid(p:AI)(sz:List Int)(s:BM)(x:FY)(s1:BM)(e:EK)(js:List Ga):Prop where
 rc:E6 p sz s1
 jobs: ∀j∈js,Cl p sz s1 j
 run:EO p s x=Bn (Fb p 401) js ⟨s1,[e],0⟩
 one:js.length≤1
theorem Q1(x:Cq)(k:Nat)(a:Int)(e:List CT):(Bj x k a e).length≤1:=by
 rw[Bj];split<;>simp
variable{w:GI}
theorem MJ{p:AI}{sz:List Int}{s:BM}{x:Cq}(hF:BD p sz)(h:Bz p sz s w=true)(hx:p.nodes[w.node.toNat]? =some x)(k:Nat): ∀j∈Bj x k w.at_ w.env,Cl p sz s j:=by
 obtain⟨y,hw⟩:=PK hF h;have hj:Cl p sz s ⟨w.node,w.at_,w.env⟩:=⟨hw.n0,hw.size,hw.at_,hw.live,hw.jp⟩;obtain⟨y2,l,h1,h2,h3,h4,_⟩:=KM hF hj;have h1:p.nodes[w.node.toNat]? =some y2:=h1;rw[hw.node]at h1;rw[hw.node]at hx;cases hx;cases h1;exact Pj hj (by have:=hw.op;omega) h3 h4 k
theorem Ig{p:AI}{sz:List Int}{s:BM}{j:Ga}(h:Cl p sz s j)(l:List GI):Cl p sz {s with waits:=l} j:=⟨h.n0,h.size,h.at_,h.live,h.jp⟩
theorem pn{p:AI}{sz:List Int}{s:BM}{i:Nat}(hF:BD p sz)(hs:E6 p sz s)(hw:s.waits[i]? =some w)(hg:lc p s w=true): ∃s1 e js,Mid p sz s ⟨i,0,0,[]⟩ s1 e js:=by
 have hwo:=hs.wait w (Ac hw);obtain⟨x,hx⟩:=PK hF hwo;have hsm:=hs.small;simp only[BM.small,AP,Ap]at hsm;have hs1:E6 p sz {s with waits:=CN s.waits i}:=Mx hs (by have:=OJ s.waits (i:Int);omega) fun v hv=>hs.wait v (MQ hv)
 have hd:EO p s ⟨i,0,0,[]⟩=J7 p {s with waits:=CN s.waits i} w x:=by
  rw[EO,CS (by dsimp only;omega),MI];simp only[F9,hw,hx.node]
 rw[J7]at hd;have ho:=hx.op;by_cases h7:x.op=7
 .rw[DO h7]at hd;exact⟨_,_,[],gl hF hs1 w.at_,by simp,hd,by simp⟩
 .rw[CS h7]at hd;obtain⟨v,hv,hn,hk⟩:=hx.val h7;rw[lc,hx.node]at hg;simp only[h7,ES,hn]at hg;split at hg
  .rename_i hk4;obtain⟨hr,y,hy,hyd⟩:=hk hk4;by_cases h6:x.op=6
   .rw[DO h6]at hd;rw[CS (by omega)]at hg;simp only[AP,Ap,Gs]at hg;have hat:=hx.at_;have a0:=hat.1;have hm:=KP hs1 (i:=w.at_) (n:=v.n) (by omega) hat hr hg.2.1 hg.2.2;have hm2:=KP hs (i:=w.at_) (n:=v.n) (by omega) hat hr hg.2.1 hg.2.2;rw[hn]at hd;exact⟨_,_,_,hm,fun j hj=>Ig (MJ hF (hm2.wait w (Ac hw)) hx.node 0 j hj) (CN s.waits i),hd,Q1 _ _ _ _⟩
   .rw[CS h6]at hd;exact⟨_,_,_,hs1,fun j hj=>Ig (MJ hF hwo hx.node 0 j hj) (CN s.waits i),hd,Q1 _ _ _ _⟩
  .cases hg
variable{k:Nat}{t:List Int}
theorem PD{p:AI}{sz:List Int}{s:BM}{i:Nat}{g:Ao}{d:Bq}{r:Fi}(hF:BD p sz)(hs:E6 p sz s)(h1:s.bi[i]? =some g)(h2:p.def? g.eq=some d)(h3:d.rules[k]? =some r)(h4:AW s.ac (g.place d r.at_)=false)(h5:Below (B7 s d g r) t):XQ p sz d r.d8 s (BO d g r.d8 t s)∧Cl p sz (BO d g r.d8 t s).2 ⟨r.node,g.place d r.at_,g.env++(BO d g r.d8 t s).1⟩:=by
 obtain⟨d2,hd⟩:=hs.grp i g h1;have hr:=Ac h3;have hd2:=hd.eq;rw[h2]at hd2;cases hd2;have hri:=Q6 hF hs h1 hd hr;have hdf:=CD hF (Fv h2).2;have hro:=hdf.ok.ut r hr;simp only[BX,AP,Ap]at hro;have hown: ∀c∈r.d8,(g.own d true c).toNat=(Gb p (s.bi.take i)).1+c.toNat:=fun c hc=>by
  obtain⟨a,b,_⟩:=hri.join c hc;have:=Lz hd.wn a b;omega
 have ht:=aX (p:=p) (sz:=sz) (d:=d) (g:=g) (cs:=r.d8) (ks:=t) hs (by have:=h5.len;rw[B7,BI]at this;exact this.symm) (fun j c k2 e1 e2=>?_) (fun a b c c2 hab e1 e2=>?_)
 .obtain⟨_,x,s0,b1,b2,b3,b4,b5,b6,b7,b8,_⟩:=hdf.node;have hlen:=hd.len;rw[b7]at hlen;simp only[F5]at hlen;obtain⟨c1,c2⟩:=b8 r hr;refine⟨ht,c1,?_,by rw[ht.only.ac];exact hri.place,by rw[ht.only.ac];exact h4,?_⟩
  .have:=ht.len;dsimp only;rw[c2,CI];congr 1;omega
  .rw[ht.only.ac,ht.only.len,Ro,hd.jp,ht.jp];rfl
 .obtain⟨c0,c1,c2,q,c3,c4,c5⟩:=hri.join c (Ac e1);have hb:=Rh h5 j (Tl s (g.own d true c)) k2 (by rw[B7,D1,e1];rfl) e2;refine⟨q,c3,by omega,?_⟩;obtain⟨ch,hch⟩:=get_some (l:=d.am) (i:=c.toNat) (by omega);obtain⟨q2,f1,f2,f3,_⟩:=hd.am _ ch hch;rw[hown c (Ac e1),f1]at c3;cases c3;rw[Mg h1 h2 hch f2 f3,hch];rfl
 .rw[hown c (Ac e1),hown c2 (Ac e2)];have:=SN rfl hro.2.2.2 b a c2 c (I4 _) hab e2 e1;have q1:=(hri.join c (Ac e1)).1;have q2:=(hri.join c2 (Ac e2)).1;omega
theorem pk{p:AI}{sz:List Int}{s:BM}{i:Nat}{g:Ao}{d:Bq}{r:Fi}(hF:BD p sz)(hs:E6 p sz s)(h1:s.bi[i]? =some g)(h2:p.def? g.eq=some d)(h3:d.rules[k]? =some r)(h4:AW s.ac (g.place d r.at_)=false)(h5:Below (B7 s d g r) t): ∃s1 e js,Mid p sz s ⟨-1,i,k,t⟩ s1 e js:=by
 obtain⟨ht,hj⟩:=PD hF hs h1 h2 h3 h4 h5;have h1':s.bi[((i:Nat):Int).toNat]? =some g:=h1;have h3':d.rules[((k:Nat):Int).toNat]? =some r:=h3;refine⟨(BO d g r.d8 t s).2,⟨1,g.place d r.at_,i,k,(BO d g r.d8 t s).1⟩,[⟨r.node,g.place d r.at_,g.env++(BO d g r.d8 t s).1⟩],ht.rc,fun j hj2=>by rw[As.1 hj2];exact hj,?_,by simp⟩;rw[EO,DO (by dsimp only;omega),Z2];simp only[h1',(Fv h2).2,h3',O8];rw[Bn];cases Fb p 401 ⟨r.node,g.place d r.at_,g.env++(BO d g r.d8 t s).1⟩ ⟨(BO d g r.d8 t s).2,[⟨1,g.place d r.at_,i,k,(BO d g r.d8 t s).1⟩],0⟩<;>rfl
theorem wg{p:AI}{sz:List Int}{s:BM}{x:FY}(hF:BD p sz)(hs:E6 p sz s)(h:Kc p s x): ∃s1 e js,Mid p sz s x s1 e js:=by
 cases h with
 |wait h1 h2=>exact pn hF hs h1 h2
 |ut h1 h2 h3 h4 h5=>exact pk hF hs h1 h2 h3 h4 h5
theorem VV{p:AI}{sz:List Int}{s:BM}{x:FY}(hF:BD p sz)(hs:E6 p sz s)(h:Kc p s x){st:CK}(hd:EO p s x=some st):E6 p sz st.d9∧st.ev≠ []∧st.ev.length≤401:=by
 obtain⟨s1,e,js,hm⟩:=wg hF hs h;rw[hm.run]at hd;have hp:=Me (fun j st st'=>Iy hF 401 j st st') js ⟨s1,[e],0⟩ st hm.rc hm.jobs hd;obtain⟨l,h1,_⟩:=hp.evs;refine⟨hp.rc,by rw[h1];simp,?_⟩;have h2:=hp.ev;have h3:=hp.top (by dsimp only;omega);dsimp only[List.length_cons,List.length_nil]at h2;omega
variable{α:Type}{l:List α}
theorem MA{r:α}(h:l[k]? =some r):l=l.take k++r::l.drop (k+1):=by
 rw[←AO h,MK]
theorem VP{r:α}(h:l[k]? =some r)(r':α):l.set k r'=l.take k++r'::l.drop (k+1):=by
 have hk:=AH h;rw[List.set_eq_take_append_cons_drop,DO hk]
variable{β:Type}{f:α→List β}
theorem kD(h:(l.flatMap f).Nodup){j:Nat}{r r2:α}(hj:l[j]? =some r2)(hk:l[k]? =some r)(hjk:j≠k){x:β}(hx:x∈f r2):x∉f r:=by
 intro hy;rw[MA hk,Lm,D2,Lc]at h;obtain⟨_,h2,h3⟩:=h;rw[Lc]at h2;have hkl:=AH hk;have hjl:=AH hj;by_cases hlt:j<k
 .exact h3 x (Bi.2 ⟨r2,Ac (i:=j) (by rw[It,DO hlt];exact hj),hx⟩) x (HU _ hy) rfl
 .exact h2.2.2 x hy x (Bi.2 ⟨r2,Ac (i:=j-(k+1)) (by rw[HE,show k+1+(j-(k+1))=j by omega];exact hj),hx⟩) rfl
variable{r':α}
theorem SA(h:(l.flatMap f).Nodup){r:α}(hk:l[k]? =some r)(hn:(f r').Nodup)(hd: ∀x∈f r',x∈f r∨x∉l.flatMap f):((l.set k r').flatMap f).Nodup:=by
 have h0:=h;rw[MA hk,Lm,D2,Lc]at h;obtain⟨h1,h2,h3⟩:=h;rw[Lc]at h2;rw[VP hk,Lm,D2,Lc];have key: ∀x∈f r',x∉(l.take k).flatMap f∧x∉(l.drop (k+1)).flatMap f:=fun x hx=>by
  rcases hd x hx with hh|hh
  .exact⟨fun e=>h3 x e x (HU _ hh) rfl,fun e=>h2.2.2 x hh x e rfl⟩
  .rw[MA hk,Lm,D2]at hh;simp only[EX,not_or]at hh;exact⟨hh.1,hh.2.2⟩
 refine⟨h1,Lc.2 ⟨hn,h2.2.1,fun a ha b hb e=>(key a ha).2 (by rw[e];exact hb)⟩,fun a ha b hb e=>?_⟩;rcases EX.1 hb with hb|hb
 .exact(key b hb).1 (by rw[←e];exact ha)
 .exact h3 a ha b (Ge _ hb) e
theorem Wk{r:α}(hk:l[k]? =some r){x:β}(hx:x∈(l.set k r').flatMap f):x∈l.flatMap f∨x∈f r':=by
 rw[VP hk,Lm,D2]at hx;rw[MA hk,Lm,D2];simp only[EX]at*;rcases hx with h|h|h
 .exact .inl (.inl h)
 .exact .inr h
 .exact .inl (.inr (.inr h))
theorem QV{p:AI}{sz:List Int}{N:Abs.Id→Bool}{h h':AB}{m:Abs.Id}{V:MV}{st st':CK}{v3:AV}{rows:List (List AV)}(hM:Dq p sz h m V st)(hu:LB N V m)
 (hb:h'.get m=some (.box (Aq p sz {V with v3:=v3,rows:=rows} st'.work))) (ha:xV h' v3 rows) (hc:Chs h' rows st'.d9.am) (hq:(rows.flatMap A5).Nodup)
 (hi: ∀id,id∈AD v3∨id∈rows.flatMap A5→(id∈AD V.v3∨id∈V.rows.flatMap A5)∨(N id=true∧ ∃l,id=1::l)) (ho: ∀j,j<4→A8 st' j=A8 st j)
 (hk: ∀id,id≠m→id∉AD V.v3→id∉V.rows.flatMap A5→N id=false→h'.get id=h.get id):NI p sz N m V h st' h':=by
 have hne: ∀id,(∀cs,h.get id≠some (.box cs))→id≠m:=fun id hh e=>hh _ (by subst e;exact hM.box);refine⟨{V with v3:=v3,rows:=rows},⟨hb,?_,fun j hj=>?_,ha,hc,hM.gw,hq⟩,fun id hid=>?_,fun id h1 h2=>hk id (fun e=>h1 (by rw[e];exact V.m_mem m)) (fun e=>h1 (V.v3_mem m e)) (fun e=>h1 (V.row_mem m e)) h2⟩
 .show h'.get V.qr=_;rw[hk _ (hne _ (by rw[hM.qr];simp)) (fun e=>?_) (fun e=>?_) (hu _ (V.acts_mem m))]
  .exact hM.qr
  .have:=HO hM.arr e;rw[hM.qr]at this;cases this
  .obtain⟨x,hx⟩:=Ki hM.am e;rw[hM.qr]at hx;cases hx
 .rw[ho j hj];refine Db (hM.sl j hj) fun id hid=>?_;obtain⟨x,hx⟩:=Eh (hM.sl j hj) hid;refine hk id (hne _ (by rw[hx];simp)) (fun e=>?_) (fun e=>?_) (hu _ (V.s_mem m hj hid))
  .have:=HO hM.arr e;rw[hx]at this;cases this
  .obtain⟨y,hy⟩:=Ki hM.am e;rw[hx]at hy
   match j,hj with
   |0,_|1,_|2,_|3,_=>simp[GQ]at hy
 .rcases(({V with v3:=v3,rows:=rows}:MV).mem m id).1 hid with hh|hh|⟨j,hj,hh⟩|hh|hh
  .exact .inl (by rw[hh];exact V.m_mem m)
  .exact .inl (by rw[hh];exact V.acts_mem m)
  .exact .inl (V.s_mem m hj hh)
  .exact(hi id (.inl hh)).imp_left fun e=>e.elim (V.v3_mem m) (V.row_mem m)
  .exact(hi id (.inr hh)).imp_left fun e=>e.elim (V.v3_mem m) (V.row_mem m)
variable{h:AB}{m:Abs.Id}
theorem So{p:AI}{sz:List Int}{N:Abs.Id→Bool}{A:Abs.Id}{V:MV}{st:CK}{q:GR}{v:AV}(hM:Dq p sz h m V st)(hu:LB N V m)(hA:V.v3=.em A 0 V.rows.length)(hq:st.d9.am[k]? =some q)(hr:V.rows[k]? =some (A3 q v))(l:List (List CT))
 (v':AV) (h':AB) (a1:h'.get m=some (.box (Aq p sz V st.work))) (a0:h'.get A=some (.arr 4 (V.rows.set k (A3 q v')))) (a2:K9 h' 1 v' (l.map BW)) (a3:AD v'=AD v∨ ∀id∈AD v',N id=true∧ ∃l,id=1::l)
 (a4: ∀id,Id.is m id=false→Id.is A id=false→(∀id2∈AD v,Id.is id2 id=false)→N id=false→h'.get id=h.get id):NI p sz N m V h {st with d9:={st.d9 with am:=st.d9.am.set k {q with queue:=l}}} h':=by
 have hAi:AD V.v3=[A]:=by rw[hA];rfl
 have hvr: ∀x,x∈AD v→x∈V.rows.flatMap A5:=fun x hx=>Bi.2 ⟨_,Ac hr,by rw[Bp];exact hx⟩;have hfr: ∀id,id≠m→id∉AD V.v3→id∉AD v→N id=false→h'.get id=h.get id:=fun id b1 b2 b3 b4=>a4 id (AE fun e=>b1 e.symm) (AE fun e=>b2 (by rw[hAi,←e];simp)) (fun id2 hid=>AE fun e=>b3 (by rw[←e];exact hid)) b4;have hv1:(AD v').Nodup∧(AD v').length≤1:=by
  rcases a2 with⟨rfl,_⟩|⟨i,x,rfl,_⟩<;>simp[AD]
 have hlen:(V.rows.set k (A3 q v')).length=V.rows.length:=by simp
 refine QV (v3:=V.v3) (rows:=V.rows.set k (A3 q v')) hM hu a1 (.inr ⟨A,by rw[hlen];exact hA,a0⟩) ⟨?_,fun j q2 hj=>?_⟩ ?_ (fun id hid=>?_) (fun j hj=>by match j,hj with|0,_|1,_|2,_|3,_=>rfl) fun id b1 b2 b3 b4=>hfr id b1 b2 (fun e=>b3 (hvr id e)) b4
 .simp[hM.am.len]
 .dsimp only at hj;rw[HW]at hj⊢;have hkl:=AH hr;by_cases hjk:k=j
  .have hkl2:=AH hq;rw[DO hjk,DO hkl2]at hj;rw[DO hjk,DO hkl];cases hj;exact⟨v',rfl,a2⟩
  .rw[CS hjk]at hj⊢;obtain⟨w,hw,hs⟩:=hM.am.row j q2 hj;refine⟨w,hw,Db hs fun id hid=>?_⟩;have hmem:id∈V.rows.flatMap A5:=Bi.2 ⟨_,Ac hw,by rw[Bp];exact hid⟩;obtain⟨x,hx⟩:=Eh hs hid;refine hfr id (fun e=>?_) (fun e=>?_) ?_ (hu _ (V.row_mem m hmem))
   .rw[e,hM.box]at hx;cases hx
   .rw[HO hM.arr e]at hx;cases hx
   .have:=kD hM.qd hw hr (fun e=>hjk e.symm) (x:=id) (by rw[Bp];exact hid)
    rwa [Bp]at this
 .refine SA hM.qd hr (by rw[Bp];exact hv1.1) fun x hx=>?_;rw[Bp]at hx⊢;rcases a3 with e|e
  .exact .inl (by rw[←e];exact hx)
  .refine .inr fun hh=>?_;have:=hu _ (V.row_mem m hh);rw[(e x hx).1]at this;cases this
 .rcases hid with hid|hid
  .exact .inl (.inl hid)
  .rcases Wk hr hid with hh|hh
   .exact .inl (.inr hh)
   .rw[Bp]at hh;rcases a3 with e|e
    .rw[e]at hh;exact .inl (.inr (hvr id hh))
    .exact .inr (e id hh)
variable{π:List Nat}{n:Nat}{H:AB}
theorem Pq{p:AI}{sz:List Int}{g:AB}{V:MV}{r:Option CK}{o:Ae}(hu:CC π V m)(hl: ∀id,Id.under π id=false→H.get id=h.get id)(ho:FL p sz (n::π) m V H r o g):FL p sz π m V h r o (gc (n::π) g):=by
 cases r with
 |none=>exact⟨ho.1,fun id h1 h2=>by rw[Ab _ _ _ (AF h2 n),ho.2 id h1 (AF h2 n),hl id h2]⟩
 |some st'=>
  obtain⟨h1,V',hM,hK⟩:=ho;refine⟨h1,V',iE hM hK (hu.ext n),fun id hid=>(hK.ids id hid).imp_right fun hh=>⟨BR hh.1,hh.2⟩,fun id a b=>?_⟩;rw[Ab _ _ _ (AF b n),hK.frame id a (AF b n),hl id b]
theorem Pr{p:AI}{sz:List Int}{V:MV}{st:CK}(hM:Dq p sz h m V st)(hu:CC π V m)(hl: ∀id,Id.under π id=false→H.get id=h.get id):FL p sz π m V h (some st) (.ret (.ge [])) H:=⟨rfl,V,EF hM hu hl,tQ hl⟩
theorem JU{f:α→List AZ}{g:AB}{sz:Nat}{v:AV}(h:K9 g sz v (l.map f)){y:α}(hy:l[k]? =some y): ∃id xs,v=.em id 0 l.length∧g.get id=some (.co sz (l.map f++xs))∧(l.map f++xs)[k]? =some (f y)∧k<l.length∧k<l.length+xs.length:=by
 have hk:=AH hy;rcases h with⟨_,h⟩|⟨id,xs,rfl,h⟩
 .rw[Gt.1 h]at hk;simp at hk
 .exact⟨id,xs,by rw[BI],h,by rw[Be (by simpa using hk),D1,hy];rfl,hk,by omega⟩
theorem Bg{n':Nat}{id:Abs.Id}(h:Id.under (n::π) id=true)(h':Id.under (n'::π) id=true):n=n':=by
 rw[under_iff]at h h';have:=List.suffix_of_suffix_length_le h h' (by simp);have:=this.eq_of_length (by simp);simpa using this
structure CU(p:AI)(sz:List Int)(π:List Nat)(m:Abs.Id)(V:MV)(h:AB)(b:Nat)(V':MV)(st:CK)(g:AB):Prop where
 rep:Dq p sz g m V' st
 ids: ∀id∈V'.ids m,id∈V.ids m∨ ∃n,n<b∧Id.under (n::π) id=true∧ ∃l,id=1::l
 frame: ∀id,id∉V.ids m→Id.under π id=false→g.get id=h.get id
section
variable{p:AI}{sz:List Int}{π:List Nat}{m:Abs.Id}{V V':MV}{h g H g1:AB}{b:Nat}{st:CK}
theorem FQ{b':Nat}{id:Abs.Id}(hu:CC π V m)(hi:id∈V.ids m∨ ∃n,n<b∧Id.under (n::π) id=true∧ ∃l,id=1::l)(a n:Nat)(hn:b≤n):Id.is (a::n::π) id=false:=by
 rcases hi with hi|⟨k,hk,hk2,_⟩
 .exact AG (hu id hi) a n
 .refine AE fun e=>?_;subst e;have:=Bg hk2 (n':=n) (under_iff.2 ⟨[a],rfl⟩);omega
theorem KQ{id:Abs.Id}(hu:CC π V m)(hi:id∈V.ids m∨ ∃n,n<b∧Id.under (n::π) id=true∧ ∃l,id=1::l)(a n:Nat)(hn:b≤n):Id.is id (a::n::π)=false:=by
 have:=FQ (b':=b) hu hi a n hn;exact AE fun e=>by rw[e,is_self]at this;cases this
theorem P5(hM:Dq p sz h m V st)(hu:CC π V m)(hl: ∀id,Id.under π id=false→g.get id=h.get id):CU p sz π m V h 0 V st g:=
 ⟨EF hM hu hl,fun id hid=>.inl hid,fun id _ hh=>hl id hh⟩
theorem CU.up(hr:CU p sz π m V h b V' st g){b':Nat}(hb:b≤b'):CU p sz π m V h b' V' st g:=
 ⟨hr.rep,fun id hid=>(hr.ids id hid).imp_right fun⟨n,h1,h2⟩=>⟨n,by omega,h2⟩,hr.frame⟩
theorem CU.loc(hu:CC π V m)(hr:CU p sz π m V h b V' st g)(hl: ∀id,(∀a n,b≤n→Id.is (a::n::π) id=false)→H.get id=g.get id):CU p sz π m V h b V' st H:=
 ⟨Bf hr.rep fun id hid=>hl id fun a n hn=>FQ (b':=b) hu (hr.ids id hid) a n hn,hr.ids,fun id h1 h2=>by rw[hl id fun a n _=>AG h2 a n];exact hr.frame id h1 h2⟩
variable{n:Nat}
theorem CU.apart(hu:CC π V m)(hr:CU p sz π m V h b V' st g)(hn:b≤n):CC (n::π) V' m:=fun id hid=>by
 rcases hr.ids id hid with hh|⟨k,h1,h2,_⟩
 .exact AF (hu id hh) n
 .cases hx:Id.under (n::π) id with
  |false=>rfl
  |true=>
   have:=Bg h2 hx;omega
theorem CU.fin(hr:CU p sz π m V h b V' st g):FL p sz π m V h (some st) (.ret (.ge [])) g:=
 ⟨rfl,V',hr.rep,fun id hid=>(hr.ids id hid).imp_right fun⟨n,_,h2,h3⟩=>⟨BR h2,h3⟩,hr.frame⟩
theorem CU.call(hu:CC π V m)(hr:CU p sz π m V h b V' st H){st':CK}{o:Ae}(hn:b≤n)(ho:FL p sz (n::π) m V' H (some st') o g1): ∃V'',CU p sz π m V h (n+1) V'' st' (gc (n::π) g1)∧ ∀id,id∉V'.ids m→Id.under (n::π) id=false→id∉V''.ids m:=by
 obtain⟨_,V'',hM,hK⟩:=ho;have hap:=hr.apart hu hn;refine⟨V'',⟨iE hM hK hap,fun id hid=>?_,fun id h1 h2=>?_⟩,fun id h1 h2 h3=>?_⟩
 .rcases hK.ids id hid with hh|⟨h1,h2⟩
  .exact(hr.ids id hh).imp_right fun⟨k,a,c⟩=>⟨k,by omega,c⟩
  .exact .inr ⟨n,by omega,h1,h2⟩
 .rw[Ab _ _ _ (AF h2 n),hK.frame id (fun hh=>?_) (AF h2 n)]
  .exact hr.frame id h1 h2
  .rcases hr.ids id hh with hh|⟨k,_,h3,_⟩
   .exact h1 hh
   .rw[BR h3]at h2;cases h2
 .rcases hK.ids id h3 with hh|⟨hh,_⟩
  .exact h1 hh
  .rw[h2]at hh;cases hh
theorem CU.f9(hu:CC π V m)(hr:CU p sz π m V h b V' st H){o:Ae}(hn:b≤n)(ho:FL p sz (n::π) m V' H none o g1):FL p sz π m V h none o (gc (n::π) g1):=by
 obtain⟨h1,h2⟩:=ho;refine⟨h1,fun id a c=>?_⟩;rw[Ab _ _ _ (AF c n),h2 id (fun hh=>?_) (AF c n)]
 .exact hr.frame id a c
 .rcases hr.ids id hh with hh|⟨k,_,h3,_⟩
  .exact a hh
  .rw[BR h3]at c;cases c
theorem U4{r:Option CK}{o:Ae}(ho:FL p sz (n::π) m V' H r o g1){id:Abs.Id}(h1:id∉V'.ids m)(h2:Id.under (n::π) id=false):(gc (n::π) g1).get id=H.get id:=by
 rw[Ab _ _ _ h2];cases r with
 |none=>exact ho.2 _ h1 h2
 |some st'=>
  obtain⟨_,V'',_,hK⟩:=ho;exact hK.frame _ h1 h2
theorem HN(hr:CU p sz π m V h b V' st H)(hu:CC π V m)(k:Nat):0::k::π∉V'.ids m:=fun hh=>by
 rcases hr.ids _ hh with hh|⟨_,_,_,l,e⟩
 .have:=hu _ hh;rw[show Id.under π (0::k::π)=true from under_iff.2 ⟨[0,k],rfl⟩]at this;cases this
 .cases e
variable{k:Nat}
theorem AR(π:List Nat)(h:k≠n):Id.under (n::π) (0::k::π)=false:=by
 cases hx:Id.under (n::π) (0::k::π)with
 |false=>rfl
 |true=>
  have:=Bg hx (n':=k) (under_iff.2 ⟨[0],rfl⟩);omega
theorem CU.box(hu:CC π V m)(hr:CU p sz π m V h b V' st H){r:Option CK}{o:Ae}(hk:k≠n)(ho:FL p sz (n::π) m V' H r o g1):(gc (n::π) g1).get (0::k::π)=H.get (0::k::π):=by
 have h1:=AR π hk;rw[Ab _ _ _ h1];have h2:=HN hr hu k;cases r with
 |none=>exact ho.2 _ h2 h1
 |some st'=>
  obtain⟨_,V'',_,hK⟩:=ho;exact hK.frame _ h2 h1
end
def Im(p:AI)(sz:List Int)(k:Nat):Prop:= ∀(h:AB) (π:List Nat) (m:Abs.Id) (V:MV) (st:CK) (j:Ga),Dq p sz h m V st→CC π V m→E6 p sz st.d9→Cl p sz st.d9 j→0≤st.work→st.work≤400→401≤st.work+k→(st.ev.length:Int)≤900000+st.work→
 ∃o h',KL Tryz.prog cfg (.fn 66) [.ptr m 0,.d (.int .i64 j.node),.d (.int .i64 j.at_),.d (.be (j.env.map AL))] h π true none=.ok (o,h')∧FL p sz π m V h (Fb p k j st) o h'
structure PN(p:AI)(sz:List Int)(k:Nat)(st:CK):Prop where
 rc:E6 p sz st.d9
 w0:0≤st.work
 w1:st.work≤400
 w2:401≤st.work+k
 ev:(st.ev.length:Int)≤900000+st.work
theorem PN.post{p:AI}{sz:List Int}{k:Nat}{st st':CK}(h:PN p sz k st)(hp:Jx p sz st st'):PN p sz k st':=⟨hp.rc,by have:=hp.work;have:=h.w0;omega,hp.top h.w1,by have:=hp.work;have:=h.w2;omega,by have:=hp.ev;have:=h.ev;omega⟩
end Go.Proofs
