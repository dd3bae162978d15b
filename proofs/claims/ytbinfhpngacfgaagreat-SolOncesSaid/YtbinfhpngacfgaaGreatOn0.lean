/- P -/
import Derived.CallsIn
import Derived.DefersIn
import Derived.RangeFuncLeaves
set_option linter.all false
open Go renaming World->G2,Value->G4,Oper->G5,TypeId->Hk,Program->H5,FuncId->IY,Code->KH,Operand->LF,Tmp->L2,TypeDesc->Qm
open List renaming replicate->Sm,length->U
open Nat renaming beq->WO,ble->WY
open Option renaming some->J,none->I
open Bool renaming true->X,false->Z
namespace Go
def zCI{p:Prop}(h:p:=by grind):p:=h
def zDM{p:Prop}(h:p:=by cases x<;>rfl):p:=h
end Go
namespace Go
def zA9{p:Prop}(h:p:=by cases b<;>simp[y.same]at h;rw[Id.is_eq h.1,h.2.1,h.2.2]):p:=h
end Go
namespace Go
def AM:=@Bool.false_eq_true
def AP:=@List.mem_of_getElem?
def AS:=@List.mem_singleton
def Ac:=@List.mem_append
def Ap:=@List.map_append
def As:=@Bool.and_eq_true
def BE:=@List.mem_flatMap
def BI:=@List.getElem?_eq_some_iff
def BV:=@List.length_map
def BY:=@Option.map_eq_some_iff
def Be:=@List.getElem?_map
def Bi:=@List.mem_cons_of_mem
def Bv:=@List.take_of_length_le
def By:=@List.map_cons
def CE:=@List.eq_nil_of_length_eq_zero
def CI:=@List.getElem?_eq_getElem
def CO:=@List.mem_cons_self
def CS:=@List.append_nil
def Ce:=@List.getElem?_of_mem
def Ci:=@List.map_nil
def Co:=@if_neg
def Cs:=@List.nil_append
def DL:=@Nat.add_eq_left
def DO:=@List.mem_cons
def Dl:=@List.length_append
def D0:=@List.nodup_append
def D1:=@Nat.left_eq_add
def D2:=@Nat.le_refl
def D3:=@decide_eq_true_eq
def D4:=@if_pos
def D5:=@Nat.eq_of_beq_eq_true
def D6:=@List.getElem?_append_right
def D7:=@List.map_eq_nil_iff
def D8:=@List.getElem?_append_left
def D9:=@Array.getElem?_eq_getElem
def EL:=@List.all_eq_true
def EM:=@List.drop_eq_nil_of_le
def EX:=@List.mem_map
def Es:=@Int.toNat_natCast
def Ex:=@List.take_add_one
def FD:=@List.suffix_cons
def FN:=@List.flatMap_cons
def F0:=@List.append_assoc
def F1:=@Option.some.injEq
def F2:=@List.take_length
def F3:=@List.length_take
def F4:=@List.cons_append
def F5:=@List.getElem?_set
def F6:=@List.all_cons
def F7:=@Option.getD_some
def F8:=@Bool.false_and
def F9:=@Nat.zero_le
def GC:=@Option.bind_some
def GO:=@decide_eq_true
def GS:=@Nat.le_of_ble_eq_true
def Gc:=@Array.getD_eq_getD_getElem?
def Ge:=@if_false
def Gs:=@Option.map_some
def Gt:=@Nat.le_trans
def HE:=@Option.bind_eq_some_iff
def HM:=@Nat.mul_le_mul_right
def HU:=@Int.natCast_nonneg
def HW:=@List.not_mem_nil
def He:=@List.getElem?_cons_zero
def Hm:=@List.getElem?_cons_succ
def Hw:=@Int.toNat_of_nonneg
def ID:=@List.length_cons
def IF:=@Nat.sub_self
def II:=@List.mem_append_right
def IN:=@List.length_replicate
def IP:=@List.take_append_of_le_length
def IS:=@if_true
def IT:=@List.nodup_cons
def Ii:=@Array.getElem?_setIfInBounds_ne
def Io:=@List.suffix_cons_iff
def Ip:=@List.mem_append_left
def Is:=@List.length_drop
def It:=@Bool.not_eq_true'
def I0:=@List.mem_replicate
def I2:=@List.map_set
def I3:=@List.length_singleton
def I4:=@Array.getElem?_setIfInBounds
def I5:=@forall_eq_or_imp
def I6:=@decide_eq_false
def I7:=@Nat.zero_add
def I8:=@List.take_append_drop
def I9:=@Array.eq_empty_of_size_eq_zero
def JP:=@List.flatMap_append
def Jp:=@Bool.true_and
def KW:=@Option.some.inj
def Kw:=@List.length_set
def LC:=@Prod.mk.injEq
def LI:=@Nat.lt_of_lt_of_le
def LM:=@List.map_replicate
def Lc:=@Array.getElem?_eq_some_iff
def Li:=@Array.getElem?_append_left
def Lm:=@Nat.add_mul
def Ls:=@Bool.and_false
def Lt:=@List.ext_getElem?
def Lw:=@List.take_zero
def MD:=@List.length_nil
def MK:=@Int.eq_ofNat_of_zero_le
def MP:=@List.mem_map_of_mem
def MT:=@List.getElem?_eq_none_iff
def Md:=@List.set_append_right
def Mk:=@List.mem_flatten
def Mp:=@List.getElem_mem
def Ms:=@Int.le_refl
def Mt:=@Nat.add_sub_cancel_left
def NL:=@List.map_congr_left
def NO:=@or_false
def Nl:=@List.flatMap_nil
def No:=@List.map_take
def OF:=@Int.le_trans
def OK:=@Array.ext_getElem?
def OL:=@List.mem_range
def ON:=@List.drop_eq_getElem_cons
def OP:=@List.drop_eq_nil_iff
def OS:=@Option.isSome_iff_exists
def Of:=@List.set_eq_of_length_le
def Ok:=@List.foldl_cons
def Ol:=@List.map_map
def On:=@List.eq_nil_iff_forall_not_mem
def PI:=@List.length_eq_zero_iff
def PL:=@Bool.false_or
def PM:=@Array.length_toList
def PU:=@Nat.ne_of_beq_eq_false
def Pl:=@List.append_eq_nil_iff
def Pm:=@Nat.add_sub_cancel
def Pp:=@Nat.mul_comm
def Pu:=@Nat.ble_eq_true_of_le
def QR:=@List.mem_iff_getElem?
def Qr:=@List.mem_filter
def RC:=@Bool.or_eq_true
def RD:=@Array.getElem?_toList
def RG:=@Nat.blt_eq
def RS:=@Bool.not_true
def RT:=@Bool.and_true
def RW:=@Array.toList_push
def RX:=@List.exists_cons_of_ne_nil
def Rc:=@List.mem_of_mem_drop
def Rd:=@List.mem_iff_getElem
def Rg:=@List.map_flatten
def Ro:=@List.flatten_append
def Rs:=@Array.getElem?_push
def Rt:=@Nat.add_assoc
def Rw:=@List.range_succ
def Rx:=@List.map_drop
def SP:=@List.getElem?_drop
def S1:=@List.all_append
def S2:=@Nat.add_le_add
def TO:=@Bool.not_false
def TY:=@List.all_nil
def To:=@Nat.le_max_right
def Ty:=@List.suffix_refl
def T0:=@List.drop_length
def T2:=@List.cons.inj
def T6:=@Nat.le_succ
end Go
namespace Go
variable{p:Prop}
def z(h:p:=by omega):p:=h
def AG(h:p:=by simp):p:=h
def Af(h:p:=by decide):p:=h
def Cc(h:p:=by assumption):p:=h
def BP(h:p:=by simp;omega):p:=h
def AZ(h:p:=by dsimp only;omega):p:=h
def Az(h:p:=by simp[AD]):p:=h
def DU(h:p:=by simp[Op.operands]):p:=h
def AQx(h:p:=by rfl):p:=h
end Go
namespace Go.Abs
def C6{c:Sort _}(a:c):∃b,b=a:=⟨a,rfl⟩
inductive Ar where
 |int (k:IntKind) (n:Int)
 |bool (b:Bool)
 |str (s:ByteArray)
 |co (es:List (List Ar))
 |nilp|nilf|wt|nilm
abbrev u:=List Nat
abbrev Al:=List Int
def AJ:u->u->Bool
 |[],[]=>X|n::l,m::k=>match WO n m with|true=>AJ l k|false=>Z
 |_,_=>Z
def AE(a:u):u->Bool
 |[]=>AJ a []|b::l=>match AJ a (b::l)with|true=>X|false=>AE a l
inductive y where
 |d (x:Ar)
 |d9
 |emp
 |ii (id:u) (off len:Nat)
 |ptr (id:u) (off:Nat)
 |rt (id:u) (i off:Nat)
 |iptr (cs:List Ar)
 |fn (f:IY) (first cap:List y)
 |yld (id:u)
 |mp (id:u)
 |iface (t:Hk) (v:y)
 |agg (cs:List y)
 |kw (vs:List y)
 |undef
abbrev CW:=List (Nat×y)
def CW.get:CW->Nat->y
 |[],_=>.undef|(k,v)::e,t=>match WO k t with|true=>v|false=>CW.get e t
structure Lp:=
 state:LoopState
 pend:Option KH
 f:IY
 env:CW
 params:u
 wp:KH
 body:KH
 nt:Nat
inductive Obj where
 |box (cs:List y)
 |f8 (sz:Nat) (es:List (List Ar))
 |v6 (sz:Nat) (es:List (List Ar))
 |arr (sz:Nat) (es:List (List y))
 |map (es:List (Ar×y))
 |loop (r:Lp)
abbrev S:=List (u×Obj)
def S.get:S->u->Option Obj
 |[],_=>I|(k,o)::h,id=>match AJ k id with|true=>J o|false=>S.get h id
mutual
def Ar.same:Ar->Ar->Bool
 |.int c g,.int e f=>decide (c=e)&&decide (g=f)|.bool a,.bool b=>match a,b with|true,X=>X|false,Z=>X|_,_=>Z
 |.str a,.str b=>decide (a.data.toList=b.data.toList)|.co a,.co b=>Ar.q_C a b|.nilp,.nilp=>X|.nilf,.nilf=>X|.wt,.wt=>X|.nilm,.nilm=>X|_,_=>Z
def Ar.q_r:List Ar->List Ar->Bool
 |[],[]=>X|x::l,A9::m=>match Ar.same x A9 with|true=>Ar.q_r l m|false=>Z
 |_,_=>Z
def Ar.q_C:List (List Ar)->List (List Ar)->Bool
 |[],[]=>X|x::l,A9::m=>match Ar.q_r x A9 with|true=>Ar.q_C l m|false=>Z
 |_,_=>Z
end
mutual
theorem Ar.q_y:∀{a b:Ar},Ar.same a b=X->a=b
 |.int k n,b,h=>by cases b<;>simp[Ar.same]at h;rw[h.1,h.2]|.bool a,b,h=>by cases b<;>simp[Ar.same]at h;grind|.str a,b,h=>by cases b<;>simp[Ar.same]at h;rename_i b;cases a;cases b;simp at h;rw[h]|.co a,b,h=>by cases b<;>simp[Ar.same]at h;rw[Ar.samess_eq h]|.nilp,b,h=>by grind [Ar.same]|.nilf,b,h=>by grind [Ar.same]|.wt,b,h=>by grind [Ar.same]|.nilm,b,h=>by grind [Ar.same]
theorem Ar.q_q:∀{c b:List Ar},Ar.q_r c b=X->c=b
 |[],b,a=>by grind [Ar.q_r]|x::l,[],a=>by simp[Ar.q_r]at a|x::l,A9::m,a=>by
  unfold Ar.q_r at a;split at a
  .rename_i e;rw[Ar.q_y e,Ar.q_q a]
  .cases a
theorem Ar.samess_eq:∀{c b:List (List Ar)},Ar.q_C c b=X->c=b
 |[],b,a=>by grind [Ar.q_C]|x::l,[],a=>by simp[Ar.q_C]at a|x::l,A9::m,a=>by
  unfold Ar.q_C at a;split at a
  .rename_i e;rw[Ar.q_q e,Ar.samess_eq a]
  .cases a
end
theorem Id.is_eq:∀{b c:u},AJ b c=X->b=c
 |[],[],_=>rfl|[],_::_,a=>by simp[AJ]at a|_::_,[],a=>by simp[AJ]at a|n::l,m::k,a=>by
  unfold AJ at a;split at a
  .rename_i e;rw[D5 e,Id.is_eq a]
  .cases a
mutual
def y.same:y->y->Bool
 |.d p,.d q=>Ar.same p q|.d9,.d9=>X|.emp,.emp=>X|.ii a c e,.ii b f g=>AJ a b&&(WO c f&&WO e g)|.ptr a c,.ptr b e=>AJ a b&&WO c e|.rt a c e,.rt b f g=>AJ a b&&(WO c f&&WO e g)|.fn j c e,.fn k f g=>WO j k&&(y.q_r c f&&y.q_r e g)|.yld a,.yld b=>AJ a b|.mp a,.mp b=>AJ a b|.iface l n,.iface m o=>WO l m&&y.same n o|.agg h,.agg i=>y.q_r h i|.kw h,.kw i=>y.q_r h i|.undef,.undef=>X|_,_=>Z
def y.q_r:List y->List y->Bool
 |[],[]=>X|x::l,A9::m=>match y.same x A9 with|true=>y.q_r l m|false=>Z
 |_,_=>Z
end
mutual
theorem y.q_y:∀{a b:y},y.same a b=X->a=b
 |.d x,b,h=>by cases b<;>simp[y.same]at h;rw[Ar.q_y h]|.agg l,b,h=>by cases b<;>simp[y.same]at h;rw[y.q_q h]|.kw l,b,h=>by cases b<;>simp[y.same]at h;rw[y.q_q h]|.d9,b,h=>by grind [y.same]|.emp,b,h=>by grind [y.same]|.undef,b,h=>by grind [y.same]|.ii ..,b,h=>by exact zA9|.ptr ..,b,h=>by cases b<;>simp[y.same]at h;rw[Id.is_eq h.1,h.2]|.rt ..,b,h=>by exact zA9|.iptr _,b,h=>by simp[y.same]at h|.fn f a c,b,h=>by cases b<;>simp[y.same]at h;rw[h.1,y.q_q h.2.1,y.q_q h.2.2]|.yld _,b,h=>by cases b<;>simp[y.same]at h;rw[Id.is_eq h]|.mp _,b,h=>by cases b<;>simp[y.same]at h;rw[Id.is_eq h]|.iface t v,b,h=>by cases b<;>simp[y.same]at h;rw[h.1,y.q_y h.2]
theorem y.q_q:∀{c b:List y},y.q_r c b=X->c=b
 |[],b,a=>by grind [y.q_r]|x::l,[],a=>by simp[y.q_r]at a|x::l,A9::m,a=>by
  unfold y.q_r at a;split at a
  .rename_i e;rw[y.q_y e,y.q_q a]
  .cases a
end
def Obj.same:Obj->Option Obj->Bool
 |.box l,J (.box m)=>y.q_r l m|.f8 a l,J (.f8 b m)=>WO a b&&Ar.q_C l m|.v6 a l,J (.v6 b m)=>WO a b&&Ar.q_C l m|_,_=>Z
theorem Obj.q_y{a:Obj}{b:Option Obj}(h:Obj.same a b=X):b=J a:=by unfold Obj.same at h;grind [y.q_q,Nat.eq_of_beq_eq_true,Ar.samess_eq]
def kV(a b:S):List u:=((a++b).filter λc=>match a.get c.1 with|some e=> !Obj.same e (b.get c.1)|none=>X).map (·.1)
theorem S.get_mem:∀{a:S} {b:u} {c:Obj},a.get b=J c->(b,c)∈a
 :=by intro e;induction e<;>grind [S.get,Id.is_eq]
theorem zw{c e:S}{a:u}(i:a∉kV c e):e.get a=c.get a:=by
 have key:∀b,(a,b)∈c++e->e.get a=c.get a:=λb j=>by
  have:¬(match c.get a with|some b=> !Obj.same b (e.get a)|none=>X)=true:=λh=>i (EX.2 ⟨(a,b),Qr.2 ⟨j,h⟩,rfl⟩)
  grind [Obj.q_y]
 cases f:c.get a with|some b=>rw[<-f];exact key b (Ip _ (S.get_mem f))|none=>cases g:e.get a with|some b=>rw[<-f,<-g];exact key b (II _ (S.get_mem g))|none=>rfl
def S.put:S->u->Obj->S
 |[],id,o=>[(id,o)]|(k,x)::h,id,o=>match AJ k id with|true=>(k,o)::h|false=>(k,x)::S.put h id o
def S.q_d(a:S)(c:S):S:=c.foldl (λa b=>a.put b.1 b.2) a
inductive TK where
 |bool|int|str|func|ptr|iface|slice|map|other
 |flat (ks:List TK)
 |arr (n:Nat)
structure TI:=
 kind:TK
 size:Nat
 agg:Bool
 str:Bool
 zero:List y
 flds:List (Nat×Nat×Bool)
 elem:Hk
 key:Hk
 mix:Bool
inductive Mode where
 |auto|own|raw|ro
 deriving DecidableEq
def Ek:G4->y
 |.int k n=>.d (.int k n)|.bool b=>.d (.bool b)|.string s=>.d (.str s)|.slice I 0 0=>.d9|.pointer I=>.d .nilp|.nilFunc=>.d .nilf|.nilIface=>.d .wt|.map I=>.d .nilm|_=>.undef
def ev(e:Nat->y):LF->y
 |.tmp t=>e t|.const v=>Ek v|.func f=>.fn f [] []|.global _=>.undef
def y.cells:y->List y
 |.agg a=>a|b=>[b]
def y.q_b:y->Bool
 |.agg _=>Z|.kw _=>Z|.undef=>Z|_=>X
def Gi(agg:Bool)(a:List y):Option y:=if agg then J (.agg a)else match a with|[c]=>J c|_=>I
def Kj{e:Type}(a:List e)(c b:Nat):Option (List e):=if c+b<=(U a) then J ((a.drop c).take b)else I
def DD{c:Type}(a:List c)(b:Nat)(new:List c):Option (List c):=if b+U new<=(U a) then J (a.take b++new++a.drop (b+U new))else I
structure DF:=
 v:y
 δ:S:=[]
abbrev G:=u->Option Obj
def Ri:Option Obj->Option (List (List y))
 |some (.f8 _ es)=>J (es.map (·.map .d))|some (.v6 _ es)=>J (es.map (·.map .d))|some (.arr _ es)=>J es|_=>I
def Kq(i:G)(a:TI):y->Option y
 |.ptr g e=>match i g with|some (.box f)=>(Kj f e a.size).bind (Gi a.agg)|_=>I
 |.rt g h e=>match i g with
  |some (.f8 _ es)=>match es[h]? with|some c=>(Kj c e a.size).bind λb=>Gi a.agg (b.map .d)|none=>I
  |some (.v6 _ es)=>match es[h]? with|some c=>(Kj c e a.size).bind λb=>Gi a.agg (b.map .d)|none=>I
  |some (.arr _ es)=>match es[h]? with|some c=>(Kj c e a.size).bind (Gi a.agg)|none=>I
  |_=>I
 |.iptr f=>(Kj f 0 a.size).bind λb=>Gi a.agg (b.map .d)|_=>I
section force
variable{a:Type}
def K4(n:Nat)(k:Nat->a):a:=match n with|0=>k 0|m+1=>k (Nat.succ m)
def uE(b:Bool)(k:Bool->a):a:=match b with|true=>k X|false=>k Z
def nH(n:Int)(k:Int->a):a:=match n with|.ofNat m=>K4 m λm=>k (.ofNat m)|.negSucc m=>K4 m λm=>k (.negSucc m)
def ua(x:IntKind)(k:IntKind->a):a:=match x with
 |.i8=>k .i8|.i16=>k .i16|.i32=>k .i32|.i64=>k .i64
 |.u8=>k .u8|.u16=>k .u16|.u32=>k .u32|.u64=>k .u64
def TF(l:u)(k:u->a):a:=match l with|[]=>k []|n::l=>K4 n λn=>TF l λl=>k (n::l)
def gQ(i:Ar)(b:Ar->a):a:=match i with|.int e f=>ua e λe=>nH f λf=>b (.int e f)|.bool c=>uE c λc=>b (.bool c)|.str h=>b (.str h)|.co g=>b (.co g)|.nilp=>b .nilp|.nilf=>b .nilf|.wt=>b .wt|.nilm=>b .nilm
def lF(l:List Ar)(k:List Ar->a):a:=match l with|[]=>k []|x::l=>gQ x λx=>lF l λl=>k (x::l)
def Uz(l:List (List Ar))(k:List (List Ar)->a):a:=match l with|[]=>k []|x::l=>lF x λx=>Uz l λl=>k (x::l)
def n5(c:Ar)(e:Ar->a):a:=match c with|.co b=>Uz b λb=>e (.co b)|c=>gQ c e
def kg(j:y)(c:y->a):a:=match j with|.d k=>n5 k λk=>c (.d k)|.d9=>c .d9|.emp=>c .emp|.ii b e len=>TF b λb=>K4 e λe=>K4 len λlen=>c (.ii b e len)|.ptr b e=>TF b λb=>K4 e λe=>c (.ptr b e)|.rt b h e=>TF b λb=>K4 h λh=>K4 e λe=>c (.rt b h e)|.iptr f=>lF f λf=>c (.iptr f)|.fn g l m=>K4 g λg=>c (.fn g l m)|.yld b=>TF b λb=>c (.yld b)|.mp b=>TF b λb=>c (.mp b)|.iface i j=>K4 i λi=>c (.iface i j)|.agg f=>c (.agg f)|.kw n=>c (.kw n)|.undef=>c .undef
def YG(l:List y)(k:List y->a):a:=match l with|[]=>k []|x::l=>kg x λx=>YG l λl=>k (x::l)
def sc(b:y)(c:y->a):a:=match b with|.agg g=>YG g λg=>c (.agg g)|.kw j=>YG j λj=>c (.kw j)|.fn h e f=>K4 h λh=>YG e λe=>YG f λf=>c (.fn h e f)|.iface i b=>K4 i λi=>kg b λb=>c (.iface i b)|b=>kg b c
def Pv(l:List y)(k:List y->a):a:=match l with|[]=>k []|x::l=>sc x λx=>Pv l λl=>k (x::l)
def kt(b:y)(c:y->a):a:=match b with|.kw g=>Pv g λg=>c (.kw g)|.agg e=>Pv e λe=>c (.agg e)|.iface f b=>K4 f λf=>sc b λb=>c (.iface f b)|b=>sc b c
def xN(l:List (List y))(k:List (List y)->a):a:=match l with|[]=>k []|x::l=>Pv x λx=>xN l λl=>k (x::l)
def TE(l:List (Ar×y))(k:List (Ar×y)->a):a:=match l with|[]=>k []|(x,v)::l=>gQ x λx=>sc v λv=>TE l λl=>k ((x,v)::l)
def nN(g:Obj)(e:Obj->a):a:=match g with|.box f=>Pv f λf=>e (.box f)|.f8 c b=>K4 c λc=>Uz b λb=>e (.f8 c b)|.v6 c b=>K4 c λc=>Uz b λb=>e (.v6 c b)|.arr c b=>K4 c λc=>xN b λb=>e (.arr c b)|.map b=>TE b λb=>e (.map b)|.loop h=>e (.loop h)
def YH(b:S)(f:S->a):a:=match b with|[]=>f []|(c,e)::b=>TF c λc=>nN e λe=>YH b λb=>f ((c,e)::b)
def JF(h:S)(k:S->a):a:=match h with|[]=>k []|(id,o)::h=>JF h λh=>k ((id,o)::h)
def lx(e:CW)(k:CW->a):a:=match e with|[]=>k []|(t,v)::e=>K4 t λt=>sc v λv=>lx e λe=>k ((t,v)::e)
def ba(e:CW)(k:CW->a):a:=match e with|[]=>k []|p::e=>k (p::e)
end force
def Fz(c:G):y->Option Ar
 |.d f=>J f|.d9=>J (.co [])|.emp=>J (.co [])|.ii e b a=>match c e with|some (.f8 _ es)=>(Kj es b a).map .co|some (.v6 _ es)=>(Kj es b a).map .co|_=>I
 |_=>I
def Ef(a:G):List y->Option (List Ar)
 |[]=>J []|v::vs=>match Fz a v,Ef a vs with|some b,J c=>J (b::c)|_,_=>I
def EN(a:G):List (List y)->Option (List (List Ar))
 |[]=>J []|v::vs=>match Ef a v,EN a vs with|some b,J c=>J (b::c)|_,_=>I
def EB(a:G):y->Option Ar
 |.ii b e c=>match a b with
  |some (.arr _ es)=>match EN a es with|some f=>(Kj f e c).map .co|none=>I
  |_=>Fz a (.ii b e c)
 |g=>Fz a g
def Jn(a:G):List y->Option (List y)
 |[]=>J []|v::vs=>match EB a v,Jn a vs with|some b,J c=>J (.d b::c)|_,_=>I
def FM(a:G):y->Option y
 |.agg b=>(Jn a b).map .agg|.fn f [] []=>J (.fn f [] [])|.iface c (.agg b)=>(Jn a b).map λg=>.iface c (.agg g)|.iface c e=>(EB a e).map λh=>.iface c (.d h)|e=>(EB a e).map .d
def Fk(a:G):List y->Option (List y)
 |[]=>J []|v::vs=>match FM a v,Fk a vs with|some b,J c=>J (b::c)|_,_=>I
def frz(a:G):y->Option y
 |.kw c=>(Fk a c).map .kw|b=>FM a b
def JQ(b:G):y->S
 |.ii a _ _=>match b a with|some (.f8 sz es)=>[(a,.v6 sz es)]|_=>[]
 |_=>[]
def Ck(g:G)(l:List y):S:=l.flatMap (JQ g)
def Ct(a:G):y->S
 |.ii b f e=>match a b with
  |some (.f8 sz es)=>[(b,.v6 sz es)]|some (.arr sz es)=>match EN a es with|some c=>(b,.v6 sz c)::es.flatMap (Ck a)|none=>[]
  |_=>[]
 |_=>[]
def MF:y->List y
 |.agg a=>a|.iface _ (.agg a)=>a|.iface _ b=>[b]|b=>[b]
def mark(g:G)(v:y):S:=(MF v).flatMap (Ct g)
def HT:Ar->Bool
 |.co _=>Z|_=>X
def JJ:List y->Bool
 |[]=>X|.d x::vs=>HT x&&JJ vs|_=>Z
def flat:y->Bool
 |.d b=>HT b|.d9=>X|.emp=>X|.agg a=>JJ a|.kw c=>JJ c|.iface _ (.d b)=>HT b|.iface _ (.agg a)=>JJ a|_=>Z
def Dj(c:y)(b:S):Option (u×Obj):=
 match c with
 |.ii a _ _=>match b.get a with|some (.f8 sz es)=>if es.all (·.all HT)then J (a,.f8 sz es)else I|_=>I
 |_=>I
def Tr(a:u)(c:S):Bool:=c.all λb=> !AJ b.1 a
def Kk(c:G)(l:TI)(i b:y):Option DF:=
 match (U b.cells)==l.size&&b.cells.all y.q_b with|false=>I|true=>match i with
  |.ptr a f=>match c a with|some (.box cs)=>(DD cs f b.cells).map λj=>⟨.undef,[(a,.box j)]⟩|_=>I
  |.rt a e f=>match c a with
   |some (.f8 sz es)=>match es[e]?,Ef c b.cells,Tr a (Ck c b.cells)with|some g,J k,X=>(DD g f k).map λh=>⟨.undef,Ck c b.cells++[(a,.f8 sz (es.set e h))]⟩|_,_,_=>I
   |some (.arr sz es)=>match es[e]? with|some g=>(DD g f b.cells).map λh=>⟨.undef,[(a,.arr sz (es.set e h))]⟩|none=>I
   |_=>I
  |_=>I
def Iz{b:Type}(a:Nat):Nat->List b->List (List b)
 |0,_=>[]|n+1,l=>l.take a::Iz a n (l.drop a)
def BS:Nat:=2 ^ 30
def q_h(f:G)(c:u)(b:TI)(a:List (List y)):Option DF:=match a.all (λe=>U e==b.size&&e.all y.q_b)&&Nat.blt 0 b.size&&WY (U a) BS with|false=>I|true=>match b.mix with|true=>J ⟨.ii (1::c) 0 (U a),[(1::c,.arr b.size a)]⟩|false=>match EN f a with|some g=>J ⟨.ii (1::c) 0 (U a),a.flatMap (Ck f)++[(1::c,.f8 b.size g)]⟩|none=>I
def C9(b:G):y->Option (List (List y))
 |.d (.co a)=>J (a.map (·.map .d))|.d9=>J []|.emp=>J []|.ii c f e=>(Ri (b c)).bind λa=>Kj a f e|_=>I
def q_x(c:G)(i:u)(e:u)(g b j:Nat)(h:List (List Ar))(f:List (List y)):Option DF:=
 match EN c f,Tr e (f.flatMap (Ck c))with
 |some a,X=>match DD h (g+b) a with|some k=>J ⟨.ii e g (b+U a),f.flatMap (Ck c)++[(e,.f8 j k)]⟩|none=>match WO g 0&&WY (b+U a) BS with|true=>J ⟨.ii (1::i) 0 (b+U a),f.flatMap (Ck c)++[(e,.v6 0 []),(1::i,.f8 j (h.take b++a))]⟩|false=>I
 |_,_=>I
def q_B(g:u)(c:u)(e a h:Nat)(f:List (List y))(b:List (List y)):Option DF:=match DD f (e+a) b with|some i=>J ⟨.ii c e (a+U b),[(c,.arr h i)]⟩|none=>match WO e 0&&WY (a+U b) BS with|true=>J ⟨.ii (1::g) 0 (a+U b),[(c,.v6 0 []),(1::g,.arr h (f.take a++b))]⟩|false=>I
def q_t(a:G)(e:u)(b:TI)(i:y)(g:List (List y)):Option DF:=
 match i with
 |.d9=>q_h a e b g|.emp=>q_h a e b g|.ii h f c=>match a h with
  |some (.f8 sz es)=>match WO sz b.size&&WY (f+c) (U es) with|true=>q_x a e h f c sz es g|false=>I
  |some (.arr sz es)=>match WO sz b.size&&WY (f+c) (U es) with|true=>q_B e h f c sz es g|false=>I
  |_=>I
 |_=>I
def q_s(e:G)(i:u)(a:TI)(f k:y):Option DF:=
 match C9 e k with
 |none=>I|some []=>match f with|.d9=>J ⟨.d9,[]⟩|.emp=>J ⟨.emp,[]⟩|.ii g j h=>J ⟨.ii g j h,[]⟩|_=>I
 |some b=>match b.all (λc=>U c==a.size&&c.all y.q_b)&&WY (U b) BS&&Nat.blt 0 a.size with|true=>q_t e i a f b|false=>I
def GX(op:BinOp)(k:IntKind)(a b:Int):Option y:=match op with|.add=>J (.d (.int k (k.wrap (a+b))))|.sub=>J (.d (.int k (k.wrap (a-b))))|.mul=>J (.d (.int k (k.wrap (a*b))))|.eql=>J (.d (.bool (a==b)))|.neq=>J (.d (.bool (a !=b)))|.lss=>J (.d (.bool (decide (a<b))))|.leq=>J (.d (.bool (decide (a<=b))))|.gtr=>J (.d (.bool (decide (b<a))))|.geq=>J (.d (.bool (decide (b<=a))))|.rem=>if b=0 then I else J (.d (.int k (a.tmod b)))|.quo=>if b=0 then I else J (.d (.int k (k.wrap (a.tdiv b))))|.and=>J (.d (.int k (k.wrap ((BitVec.ofInt k.bits a&&&BitVec.ofInt k.bits b).toNat:Nat))))|.shr=>if b<0 then I else J (.d (.int k (a.fdiv (2 ^ min b.toNat k.bits))))|_=>I
def M4:TK->y->y->Option Bool
 |.int,.d (.int k a),.d (.int k' b)=>if k=k' then J (a==b)else I|.bool,.d (.bool a),.d (.bool b)=>J (a==b)|.str,.d (.str a),.d (.str b)=>J (a==b)|_,_,_=>I
def Iw:List TK->List y->List y->Option Bool
 |[],[],[]=>J X|t::ts,x::xs,A9::ys=>match M4 t x A9,Iw ts xs ys with|some a,J b=>J (a&&b)|_,_=>I
 |_,_,_=>I
def Pe:TK->y->y->Option Bool
 |.flat f,.agg c,.agg e=>Iw f c e|.func,.fn ..,.d .nilf=>J Z|.func,.d .nilf,.d .nilf=>J X|.ptr,.ptr ..,.d .nilp=>J Z|.ptr,.d .nilp,.d .nilp=>J X|.iface,.iface ..,.d .wt=>J Z|.slice,.d (.co (_::_)),.d9=>J Z|.slice,.ii _ _ (_+1),.d9=>J Z|.slice,.d9,.d9=>J X|.bool,a,b=>M4 .bool a b|.str,a,b=>M4 .str a b|_,_,_=>I
def AHf(op:BinOp)(a b:ByteArray):Option y:=match op with|.lss=>J (.d (.bool (Op.bytesLess a.toList b.toList)))|.leq=>J (.d (.bool (Op.bytesLess a.toList b.toList||a.toList==b.toList)))|.gtr=>J (.d (.bool (!(Op.bytesLess a.toList b.toList||a.toList==b.toList))))|.geq=>J (.d (.bool (!Op.bytesLess a.toList b.toList)))|_=>I
def uQ(op:BinOp):y->y->Option y
 |.d (.str a),.d (.str b)=>AHf op a b|_,_=>I
def Ph(op:BinOp)(x A9:y)(t:Option TI):Option y:=
 match x,A9 with|.d (.int k a),.d (.int k' b)=>if k=k' then GX op k a b else I|x,A9=>match t with
  |some i=>match op,Pe i.kind x A9 with|.eql,J b=>J (.d (.bool b))|.neq,J b=>J (.d (.bool (!b)))|_,_=>uQ op x A9
  |none=>I
def AO:LF->Bool
 |.const _=>X|_=>Z
def k8(c:Bool)(op:BinOp):y->y->Option TI->Option y
 |.d .wt,.d .wt,J i=>match c,i.kind,op with|true,.iface,.eql=>J (.d (.bool X))|true,.iface,.neq=>J (.d (.bool Z))|_,_,_=>I
 |_,_,_=>I
def kp:Option y->Option y->Option y
 |some v,_=>J v|none,r=>r
def lH(c:Bool)(op:BinOp)(x A9:y)(t:Option TI):Option y:=kp (Ph op x A9 t) (k8 c op x A9 t)
def MZ(a:G):TK->y->Option Nat
 |.slice,.d (.co es)=>J (U es)|.str,.d (.str s)=>J s.size|.slice,.d9=>J 0|.slice,.emp=>J 0|.slice,.ii _ _ c=>J c|.map,.mp b=>match a b with|some (.map es)=>J (U es)|_=>I
 |_,_=>I
def EK:(place:Nat->Option (Nat×Nat))->List y->List (Nat×y)->Option (List y)
 |_,cs,[]=>J cs|pl,cs,(i,v)::ps=>match pl i with|some (off,size)=>if (U v.cells)=size/\v.cells.all y.q_b then(DD cs off v.cells).bind λa=>EK pl a ps else I|none=>I
def Ki:y->Option Int
 |.d (.int _ n)=>J n|_=>I
def Jq:Option y->Int->Option Int
 |none,d=>J d|some v,_=>Ki v
def GB(f e g:Option y)(h:Nat):Option (Nat×Nat×Option Nat):=
 match Jq f 0,Jq e h with
 |some a,J b=>match g with|none=>if 0<=a/\a<=b then J (a.toNat,b.toNat,I)else I|some c=>match e,Ki c with|some _,J c=>if 0<=a/\a<=b/\b<=c then J (a.toNat,b.toNat,J c.toNat)else I|_,_=>I
 |_,_=>I
def Qs(b:Nat)(a:List (List Ar)):Bool:=match a with|[]=>X|e::_=>WO (U e) b
def Zc(c:Nat)(a:List (List Ar)):Option (Nat×Nat×Option Nat)->Option y
 |some (l,r,b)=>match WY r (U a)&&Qs c a with
  |true=>match b with|none=>J (.d (.co ((a.drop l).take (r-l))))|some b=>match WO b l with|true=>J .emp|false=>I
  |false=>I
 |none=>I
def fP(i:Nat)(g:u)(e b f:Nat)(a:Option Nat)(h c:Nat):Option y:=
 match WO h i&&WY (e+a.getD f) c&&WY (e+f) c&&Nat.blt 0 c with
 |true=>match a with|none=>J (.ii g (e+b) (f-b))|some a=>match WO a b with|true=>J .emp|false=>J .undef
 |false=>I
def O2(e:G)(c:Nat)(a:u)(b:Nat):Option (Nat×Nat×Option Nat)->Option y
 |some (l,r,m)=>match e a with|some (.f8 s es)=>fP c a b l r m s (U es)|some (.v6 s es)=>fP c a b l r m s (U es)|some (.arr s es)=>fP c a b l r m s (U es)|_=>I
 |none=>I
def p9:Option (Nat×Nat×Option Nat)->Option y
 |some (0,0,I)=>J .d9|some (0,0,J 0)=>J .emp|_=>I
def tt(s:ByteArray):Option (Nat×Nat×Option Nat)->Option y
 |some (l,r,I)=>if r<=s.size then J (.d (.str (s.extract l r)))else I|_=>I
def Ga(f:G)(h:TK)(e:Nat)(k:y)(b a c:Option y):Option y:=match h,k with|.slice,.d (.co es)=>Zc e es (GB b a c (U es))|.slice,.ii g j i=>O2 f e g j (GB b a c i)|.slice,.d9=>p9 (GB b a c 0)|.str,.d (.str s)=>tt s (GB b a c s.size)|_,_=>I
def JD(b:Nat->y)(c:Array (Nat×LF)):List (Nat×y):=c.toList.map λa=>(a.1,ev b a.2)
def E5:Ar->Ar->Option Bool
 |.int c a,.int e b=>if c=e then J (a==b)else I|.str a,.str b=>J (a==b)|.bool a,.bool b=>J (a==b)|_,_=>I
def CD:List (Ar×y)->Ar->Option (Option y)
 |[],_=>J I|(k,v)::es,x=>match E5 k x with|some X=>J (J v)|some Z=>CD es x|none=>I
def Cj:List (Ar×y)->Ar->y->List (Ar×y)
 |[],x,v=>[(x,v)]|(k,w)::es,x,v=>match E5 k x with|some X=>(k,v)::es|_=>(k,w)::Cj es x v
def Rj:y->Option Ar
 |.d x=>J x|_=>I
def Kp:TK->Ar->Bool
 |.int,.int ..=>X|.str,.str _=>X|.bool,.bool _=>X|_,_=>Z
def y.q_D:y->Bool
 |.agg _=>X|v=>v.q_b
def q_l(g:Hk->Option TI)(h:G)(k:Option TI)(j e f:y):Option DF:=
 match(match k,Rj e with
  |some b,J a=>match b.kind,g b.key with|.map,J i=>Kp i.kind a&&f.q_D|_,_=>Z
  |_,_=>Z)with
 |false=>I|true=>match j,Rj e with
 |.mp c,J a=>match h c with
  |some (.map es)=>match CD es a with|some _=>J ⟨.undef,[(c,.map (Cj es a f))]⟩|none=>I
  |_=>I
 |_,_=>I
section ops
variable(T:Hk->Option TI)(e:Nat->y)(g:G)(a:u)
def ZC(c a b:y):Option DF:=match c with|.d (.bool t)=>J ⟨match t with|true=>a|false=>b,[]⟩|_=>I
def Q7:Option TI->Option DF
 |some i=>if (U i.zero)=i.size/\i.zero.all y.q_b then J ⟨.ptr (0::a) 0,[(0::a,.box i.zero)]⟩else I|none=>I
def cy(x:y):Option TI->Option DF
 |some i=>if (U x.cells)=i.size/\x.cells.all y.q_b then J ⟨.ptr (0::a) 0,[(0::a,.box x.cells)]⟩else I|none=>I
def Q8(f:List (Nat×y)):Option TI->Option DF
 |some a=>match a.str&&(U a.zero)==a.size with|false=>I|true=>(EK (λe=>(a.flds[e]?).map λb=>(b.1,b.2.1)) a.zero f).map λc=>⟨.agg c,[]⟩
 |none=>I
def Iv(c:Nat)(h:List (Nat×y))(b:TI):Option DF:=
 match EK (λf=>J (f*b.size,b.size)) ((Sm c b.zero).flatten) h with
 |some e=>match c with|0=>J ⟨.emp,[]⟩|c=>match WY (c*b.size) (2 ^ 24)&&(U b.zero)==b.size with|true=>q_h g a b (Iz b.size c e)|false=>I
 |none=>I
def Eo(e:Nat)(f:List (Nat×y)):Option TI->Option DF
 |some b=>match b.kind,T b.elem with|.slice,J c=>Iv g a e f c|_,_=>I
 |none=>I
def QI(a:y):Option TI->Option DF
 |some i=>(Kq g i a).map (⟨·,[]⟩)|none=>I
def Mu(a x:y):Option TI->Option DF
 |some i=>Kk g i a x|none=>I
def MB:y->Option DF
 |.ptr a b=>J ⟨.ptr a b,[]⟩|.rt a e b=>J ⟨.rt a e b,[]⟩|.iptr c=>J ⟨.iptr c,[]⟩|_=>I
def yE:y->Option DF
 |.d (.bool b)=>J ⟨.d (.bool (!b)),[]⟩|_=>I
def L8(b:Hk):y->Option TI->Option DF
 |.iface c e,J a=>match a.kind with|.iface=>I|_=>if c=b then J ⟨.kw [e,.d (.bool X)],[]⟩else(Gi a.agg a.zero).map λf=>⟨.kw [f,.d (.bool Z)],[]⟩
 |_,_=>I
def L3(ok:Bool)(r:Option y)(j:TI):Option DF:=match r,Gi j.agg j.zero with|some v,_=>J ⟨match ok with|true=>.kw [v,.d (.bool X)]|false=>v,[]⟩|none,J A6=>J ⟨match ok with|true=>.kw [A6,.d (.bool Z)]|false=>A6,[]⟩|_,_=>I
def Hl(i f:y)(ok:Bool):Option TI->Option DF
 |some a=>match i,Rj f,a.kind,T a.key with
  |.mp c,J b,.map,J h=>match Kp h.kind b,g c with
   |true,J (.map es)=>match CD es b,T a.elem with|some j,J e=>L3 ok j e|_,_=>I
   |_,_=>I
  |_,_,_,_=>I
 |none=>I
def Gh(n:Nat)(j:TI):Option DF:=match n with|0=>J ⟨.emp,[]⟩|n=>q_h g a j (Sm n j.zero)
def Ev(l c:y):Option TI->Option DF
 |some i=>match i.kind,T i.elem,l,c with|.slice,J j,.d (.int _ n),.d (.int _ m)=>if 0<=n/\n=m/\n<=BS then Gh g a n.toNat j else I|_,_,_,_=>I
 |none=>I
def IV(g:Nat)(i:y):Option TI->Option DF
 |some f=>match f.flds[g]? with
  |some a=>match a.2.1 with|0=>I|_=>match i with|.ptr b c=>J ⟨.ptr b (c+a.1),[]⟩|.rt b h c=>J ⟨.rt b h (c+a.1),[]⟩|.iptr e=>if a.1<=(U e) then J ⟨.iptr (e.drop a.1),[]⟩else I|_=>I
  |none=>I
 |none=>I
def Q9(e:Nat)(f:y):Option TI->Option DF
 |some c=>match c.flds[e]?,f with|some a,.agg b=>((Kj b a.1 a.2.1).bind (Gi a.2.2)).map (⟨·,[]⟩)|_,_=>I
 |none=>I
def Rm(a:Int)(h:y)(e:TI):Option DF:=
 if 0<=a then match h with
  |.d (.co es)=>match es[a.toNat]? with
   |some f=>match WO (U f) e.size with|true=>J ⟨.iptr f,[]⟩|false=>I
   |none=>I
  |.ii c b len=>if a.toNat<len then match g c with|some (.f8 sz es)=>if sz=e.size/\b+a.toNat<U es then J ⟨.rt c (b+a.toNat) 0,[]⟩else I|some (.v6 sz es)=>if sz=e.size/\b+a.toNat<U es then J ⟨.rt c (b+a.toNat) 0,[]⟩else I|some (.arr sz es)=>if sz=e.size/\b+a.toNat<U es then J ⟨.rt c (b+a.toNat) 0,[]⟩else I|_=>I
   else I
  |_=>I
 else I
def wv(a:Int)(e:Nat)(c:TI):y->Option DF
 |.ptr b f=>if 0<=a/\a.toNat<e then J ⟨.ptr b (f+a.toNat*c.size),[]⟩else I|_=>I
def FV(x i:y):Option TI->Option DF
 |some t=>match i,t.kind,T t.elem with|.d (.int _ n),.slice,J j=>Rm g n x j|.d (.int _ n),.arr m,J j=>wv n m j x|_,_,_=>I
 |none=>I
def RB(x i:y)(t:Option TI):Option DF:=match t.map TI.kind,x,i with|some .str,.d (.str s),.d (.int _ n)=>if 0<=n then(s.data.toList[n.toNat]?).map λb=>⟨.d (.int .u8 b.toNat),[]⟩else I|_,_,_=>I
def Nm(a:Nat)(c:y):Option DF:=match c with|.kw b=>(b[a]?).map (⟨·,[]⟩)|_=>I
def KQ(t A8:Option TI)(s x:y):Option DF:=
 match t,A8 with
 |some i,J A8=>match i.kind,A8.kind,T i.elem with|.slice,.slice,J j=>q_s g a j s x|_,_,_=>I
 |_,_=>I
def Qp(b:u)(h f:Nat)(a:TI):Option DF:=
 match g b with
 |some (.f8 sz es)=>match Ef (λ_=>I) a.zero with|some c=>if (U c)=sz/\(U a.zero)=a.size/\a.zero.all y.q_b/\0<sz then(DD es h (Sm f c)).map λe=>⟨.undef,[(b,.f8 sz e)]⟩else I|none=>I
 |_=>I
def Mr(h:Option TI)(i:y):Option DF:=
 match h with
 |some b=>match b.kind,i with
  |.slice,.ii c f a=>match a with|0=>J ⟨.undef,[]⟩|a=>match T b.elem with|some e=>Qp g c f a e|none=>I
  |.slice,.d9=>J ⟨.undef,[]⟩|.slice,.emp=>J ⟨.undef,[]⟩|_,_=>I
 |none=>I
def bM:List y->Option (List Ar)
 |[]=>J []|.d x::l=>match bM l with|some m=>J (x::m)|none=>I
 |_::_=>I
def Xz:List (List y)->Option (List (List Ar))
 |[]=>J []|e::l=>match bM e,Xz l with|some x,J m=>J (x::m)|_,_=>I
def J7(a:Nat)(b:y):Option (List (List y)):=match b with|.ii e f len=>C9 g (.ii e f (min len a))|b=>match C9 g b with
  |some c=>match a with|0=>J []|a+1=>if (U c)<=a+1 then J c else I
  |none=>I
def Ur(a:u)(f:Nat)(c:TI)(h:List (List y)):Option DF:=match g a,Xz h with|some (.f8 sz es),J ds=>if (sz=c.size/\0<U ds)/\∀e∈ds,U e=sz then(DD es f ds).map λb=>⟨.d (.int .i64 (U ds:Nat)),[(a,.f8 sz b)]⟩else I|_,_=>I
def JV(k:Option TI)(i b:y):Option DF:=match k with
 |some a=>match a.kind,T a.elem,i with
  |.slice,J e,.ii c h f=>match J7 g f b with|some j=>Ur g c h e j|none=>I
  |.slice,J _,.emp=>match J7 g 0 b with|some []=>J ⟨.d (.int .i64 0),[]⟩|_=>I
  |_,_,_=>I
 |none=>I
def oe(x A9:y):Option DF:=match x,A9 with|.d (.int k a),.d (.int k' b)=>if k=k' then J ⟨.d (.int k (if b>a then b else a)),[]⟩else I|_,_=>I
def og(x A9:y):Option DF:=match x,A9 with|.d (.int k a),.d (.int k' b)=>if k=k' then J ⟨.d (.int k (if b<a then b else a)),[]⟩else I|_,_=>I
def LV(c:Builtin)(as:List y)(b:List Hk):Option DF:=
 match c with
 |.len=>match as with
  |[x]=>match b with
   |[t]=>match T t with|some e=>(MZ g e.kind x).map λ(f:Nat)=>⟨.d (.int .i64 (f:Int)),[]⟩|none=>I
   |_=>I
  |_=>I
 |.append=>match as,b with|[s,x],[t,A8]=>KQ T g a (T t) (T A8) s x|_,_=>I
 |.clear=>match as,b with|[x],[t]=>Mr T g (T t) x|_,_=>I
 |.copy=>match as,b with|[s,x],t::_=>JV T g (T t) s x|_,_=>I
 |.max=>match as with|[x,A9]=>oe x A9|_=>I
 |.min=>match as with|[x,A9]=>og x A9|_=>I
 |_=>I
def Ou(c:Call):Option DF:=match c.callee with|.builtin b=>LV T g a b (c.args.toList.map (ev e)) c.argTypes.toList|_=>I
def hJ(op:UnOp)(x:y):Option DF:=match op with|.not=>yE x|_=>I
def zd:IntKind->Nat
 |.i64=>0|.i8=>1|.i16=>2|.i32=>3|.u8=>4|.u16=>5|.u32=>6|.u64=>7
def lD:Nat->IntKind
 |0=>.i64|1=>.i8|2=>.i16|3=>.i32|4=>.u8|5=>.u16|6=>.u32|_=>.u64
def Nk(x:y):Option TI->Option TI->Option DF
 |some _,J j=>match j.kind,x with|.int,.d (.int _ n)=>J ⟨.d (.int (lD j.key) ((lD j.key).wrap n)),[]⟩|_,_=>I
 |_,_=>I
def MA(f:Fn)(a b:List y):Option DF:=match f with|.func f=>J ⟨.fn f a b,[]⟩|_=>I
def LX:Option LF->Option DF
 |none=>J ⟨.mp (1::a),[(1::a,.map [])]⟩|some _=>I
def RA(t:Hk)(x:y):Option TI->Option DF
 |some i=>match i.kind with|.iface=>I|_=>J ⟨.iface t x,[]⟩
 |none=>I
def LA(f:y)(c a e:Option y):Option TI->Option DF
 |some b=>match b.kind,T b.elem with|.slice,J h=>(Ga g .slice h.size f c a e).map (⟨·,[]⟩)|.str,_=>(Ga g .str 0 f c a e).map (⟨·,[]⟩)|_,_=>I
 |none=>I
def evalOp(w:Op):Option DF:=
 match w with
 |.move c=>J ⟨ev e c,[]⟩|.assign c=>J ⟨ev e c,[]⟩|.pick i h o=>ZC (ev e i) (ev e h) (ev e o)|.alloc b=>Q7 a (T b)|.box b c=>cy a (ev e c) (T b)|.build b l=>Q8 (JD e l) (T b)|.buildSlice b v l=>Eo T g a v (JD e l) (T b)|.load b h=>QI g (ev e h) (T b)|.store b h c=>Mu g (ev e h) (ev e c) (T b)|.nilCheck c=>MB (ev e c)|.binOp op b c n _=>(lH (AO c||AO n) op (ev e c) (ev e n) (T b)).map (⟨·,[]⟩)|.unOp op _ c=>hJ op (ev e c)|.convert A b c=>Nk (ev e c) (T A) (T b)|.makeInterface b c=>RA b (ev e c) (T b)|.typeAssert c _ b ok=>match ok with|true=>L8 b (ev e c) (T b)|false=>I
 |.makeFunc p first cap=>MA p (first.toList.map (ev e)) (cap.toList.map (ev e))|.makeMap _ x=>LX a x|.insert b j f m=>q_l T g (T b) (ev e j) (ev e f) (ev e m)|.mapUpdate b j f m=>q_l T g (T b) (ev e j) (ev e f) (ev e m)|.lookup b j f ok=>Hl T g (ev e j) (ev e f) ok (T b)|.makeSlice b r i=>Ev T g a (ev e r) (ev e i) (T b)|.slice b c s q t=>LA T g (ev e c) (s.map (ev e)) (q.map (ev e)) (t.map (ev e)) (T b)|.fieldAddr b c f=>IV f (ev e c) (T b)|.field b c f=>Q9 f (ev e c) (T b)|.indexAddr b c k=>FV T g (ev e c) (ev e k) (T b)|.index b c k=>RB (ev e c) (ev e k) (T b)|.extract c f=>Nm f (ev e c)|.call i=>Ou T e g a i|_=>I
end ops
structure Fr:=
 f:IY
 π:u
 raw:Bool
 ci:Option u
 rnd:Bool:=Z
 nt:Nat
inductive Df where
 |mark (id:u)
 |call (f:IY) (args:List y)
structure St:=
 env:CW
 heap:S
 base:Nat
 defs:List Df
inductive gG where
 |fn (f:IY)
 |round (id:u) (r:Lp)
inductive BG where
 |ret (v:y)
 |of (v:y)
inductive E(α:Type) where
 |ok (x:α)
 |err (l:u)
abbrev Ah:=gG->List y->S->u->Bool->Option u->E (BG×S)
structure Fp:=
 rd:Option (List u):=J []
 wr:Option (List u):=J []
 ext:Bool:=Z
inductive RY where
 |ok (st:St) (fp:Fp)
 |of (v:y) (st:St)
 |err (l:u)
inductive Di where
 |normal
 |exit (id:Nat)
 |ret
 |of (v:y)
structure m5:=
 ok:Array G5->Bool->KH->Bool
 act:Fr->St->E (Di×St)
structure DH:=
 T:Hk->Option TI
 mode:IY->Mode
 live:IY->Nat->u
 f9:IY->Nat->List (Nat×Nat)
 alone:IY->Nat->Nat->Bool
 caught:IY->Option Hk
 meth:Hk->String->Option IY
 rg:IY->Bool
 spec:IY->Nat->Option m5
mutual
def AD:y->List u
 |.ii a _ _=>[a]|.ptr a _=>[a]|.rt a _ _=>[a]|.yld a=>[a]|.mp a=>[a]|.iface _ f=>AD f|.agg e=>Ab e|.kw g=>Ab g|.fn _ b c=>Ab b++Ab c|_=>[]
def Ab:List y->List u
 |[]=>[]|v::vs=>AD v++Ab vs
end
def BD(b:G)(a:List u):List u:=a++a.flatMap λc=>match b c with|some (.arr _ es)=>es.flatMap Ab|_=>[]
def L9(e:Nat->y)(op:Op):List u:=op.operands.toList.flatMap λA9=>AD (ev e A9)
def aI(e:Nat->y)(g:G)(op:Op):List u:=match op with
 |.load ..=>L9 e op|.store ..=>L9 e op|.buildSlice ..=>L9 e op|.insert ..=>L9 e op|.mapUpdate ..=>L9 e op|.lookup ..=>L9 e op|.slice ..=>L9 e op|.indexAddr ..=>L9 e op|.call c=>match c.callee with|.builtin .len=>L9 e op|.builtin .clear=>L9 e op|.builtin .copy=>L9 e op|.builtin .append=>BD g (L9 e op)|_=>[]
 |_=>[]
def J4(a:Option u)(c:S):Bool:=match a with|none=>X|some e=>c.all λb=>AE e b.1
def Ds(a:CW)(b:Option L2)(e:y):CW:=match b with|some c=>(c,e)::a|none=>a
def lJ{e:Type}(b a:S)(c:S->e):e:=match a with|[]=>c b|a=>JF (b.q_d a) c
def gc(c:u)(a:S):S:=a.filter λb=>match b.1 with|0::l=> !AE c l|_=>X
def TQ(a:u):y->u
 |.fn _ _ (_::_)=>0::0::a|_=>a
def Fg(c:u)(e:Option L2)(b:St):E (BG×S)->RY
 |.ok (.ret v,h)=>ba (Ds b.env e v) λenv=>JF (gc (TQ c v) h) λa=>.ok {b with env,heap:=a} ⟨I,J (kV b.heap a),Z⟩|.ok (.of v,h)=>JF (gc c h) λa=>.of v {b with heap:=a}|.err f=>.err f
def LD(g:Fr)(as:List y)(h:y)(b:S)(a:St)(env:CW):RY:=
 match Dj h b with
 |some f=>JF (f::a.heap) λc=>.ok {a with env,heap:=c} ⟨J (BD a.heap.get (Ab as)),J [f.1],Z⟩
 |none=>
  YH (as.flatMap (mark a.heap.get)) λe=>
  match J4 g.ci e with|true=>JF (b++a.heap.q_d e) λc=>.ok {a with env,heap:=c} ⟨J (BD a.heap.get (Ab as)),J (e.map (·.1)++b.map (·.1)),Z⟩|false=>.err [2]
def FH(c:Fr)(as:List y)(b:Option L2)(a:St):E (BG×S)->RY
 |.ok (.ret v,h)=>ba (Ds a.env b v) λenv=>match flat v with|true=>.ok {a with env} ⟨J (BD a.heap.get (Ab as)),J [],Z⟩|false=>LD c as v h a env
 |.ok (.of v,_)=>match flat v with|true=>.of v a|false=>.err [3]
 |.err e=>.err e
def UA(b:Option L2)(a:St):E (BG×S)->RY
 |.ok (.ret v,_)=>match flat v with|true=>ba (Ds a.env b v) λenv=>.ok {a with env} ⟨I,J [],X⟩|false=>.err [4]
 |.ok (.of v,_)=>match flat v with|true=>.of v a|false=>.err [3]
 |.err c=>.err c
def Qa(g:G)(as:List y):List y:=as.map λv=>(FM g v).getD v
def Gu(K:Ah)(h:Fr)(b:u)(g:IY)(as:List y)(f:Option L2)(a:St)(j:Mode):RY:=
 Pv (Qa a.heap.get as) λi=>
 YH (as.flatMap (mark a.heap.get)) λe=>
 match j with
 |.ro=>JF (a.heap.q_d e) λc=>UA f a (K (.fn g) i c b X (J b))
 |_=>match J4 h.ci e with|true=>JF (a.heap.q_d e) λc=>Fg b f a (K (.fn g) i c b X h.ci)|false=>.err [2]
def E4(K:Ah)(g:Fr)(c:u)(f:IY)(as:List y)(e:Option L2)(a:St)(b:Mode):RY:=match b with|.raw=>Fg c e a (K (.fn f) as a.heap c X g.ci)|b=>match Fk a.heap.get as with|some h=>Pv h λh=>FH g as e a (K (.fn f) h [] (match b with|.own=>c|_=>[]) Z I)|none=>Gu K g c f as e a b
def Mf(K:Ah)(f:Fr)(c:u)(b:u)(as:List y)(e:Option L2)(a:St):RY:=match a.heap.get b with|some (.loop r)=>Fg c e a (K (.round b r) as a.heap c X f.ci)|_=>.err [1]
def Fe(g:DH)(K:Ah)(c:Fr)(f:u)(h:y)(args:List y)(a:Option L2)(e:St):RY:=match h with|.yld i=>Mf K c f i args a e|.fn b first cap=>Pv (first++args++cap) λas=>E4 K c f b as a e (g.mode b)|_=>.err [5]
def Hh(a:DH)(K:Ah)(e:Fr)(k:u)(g:y)(f:String)(args:List y)(b:Option L2)(h:St):RY:=
 match g with
 |.iface i j=>match a.meth i f with|some c=>Fe a K e k (.fn c [j] []) args b h|none=>.err [7]
 |_=>.err [8]
def Ht(b:St)(a:y):RY:=match flat a with
 |true=>match a with|.iface c e=>.of (.iface c e) b|_=>.err [9]
 |false=>.err [9]
def J8(h:Fr)(c:Nat->y)(b:Call)(e:Option L2)(a:St):RY:=match b.callee with
 |.value f=>match ev c f,h.rnd with|.fn g [] [],Z=>.ok {a with env:=Ds a.env e .undef,defs:=.call g (b.args.toList.map (ev c))::a.defs} ⟨I,I,Z⟩|_,_=>.err [10]
 |_=>.err [10]
def EJ(f:Fr)(op:Op)(e:Option L2)(a:St):Option DF->RY
 |some c=>kt c.v λh=>YH c.δ λb=>match J4 f.ci b with
  |true=>ba (Ds a.env e h) λenv=>lJ a.heap b λg=>
   .ok {a with env,heap:=g} ⟨J (aI a.env.get a.heap.get op),J (b.map (·.1)),Z⟩
  |false=>.err [11]
 |none=>.err [12]
def Jj(f:DH)(K:Ah)(e:Fr)(g:u)(op:Op)(c:Option L2)(a:St):RY:=
 match op with
 |.call b=>match b.callee with|.value h=>Fe f K e g (ev a.env.get h) (b.args.toList.map (ev a.env.get)) c a|.invoke j i=>Hh f K e g (ev a.env.get j) i (b.args.toList.map (ev a.env.get)) c a|.builtin _=>EJ e op c a (Ou f.T a.env.get a.heap.get g b)
 |.panic k=>Ht a (ev a.env.get k)|.defer b=>J8 e a.env.get b c a|op=>EJ e op c a (evalOp f.T a.env.get a.heap.get g op)
def Oa(e:Array G5)(a:CW)(c:G5):Option Bool:=match c.guard with|none=>J X|some (j,want)=>match((e[j]?).bind (·.dst)).map a.get with|some (.d (.bool b))=>J (b==want)|some (.kw [])=>J Z|_=>I
def DZ(c:DH)(K:Ah)(e:Fr)(f:Array G5)(g:u)(a:G5)(b:St):RY:=match Oa f b.env a with|none=>.err [6]|some Z=>ba (Ds b.env a.dst (.kw [])) λenv=>.ok {b with env} {}|some X=>Jj c K e g a.op a.dst b
def Xu(a:Fp):E ((Option y×St)×List Fp)->E ((Option y×St)×List Fp)
 |.ok (r,fps)=>.ok (r,a::fps)|.err b=>.err b
def EF(f:DH)(K:Ah)(c:Fr)(h:Array G5)(g:Nat)(alone:Nat->Bool):List G5->Nat->St->E ((Option y×St)×List Fp)
 |[],_,st=>.ok ((I,st),[])|o::e,a,st=>K4 (g+a) λj=>match DZ f K c h (j::c.π) o st with
  |.ok b i=>Xu i (EF f K c h g alone e (a+1) b)|.of k b=>match alone a with|true=>.ok ((J k,b),[])|false=>.err [13,a]
  |.err e=>.err (a::e)
def apart(a b:Option (List u)):Bool:=match a,b with|some [],_=>X|_,J []=>X|some l,J m=>l.all λx=> !m.contains x|_,_=>Z
def Fp.apart(a b:Fp):Bool:=Abs.apart a.wr b.rd&&Abs.apart a.rd b.wr&&Abs.apart a.wr b.wr
def hV(b:u):Option (List u)->Bool
 |some a=>a.all (AE b)|none=>Z
def jE:Option (List u)->Bool
 |some []=>X|_=>Z
def YF(i:u)(c:Nat)(f:List Fp)(g h:Nat)(a b:Fp):Bool:=a.ext&&(a.rd.isNone&&(hV ((c+h)::i) b.wr&&(jE a.wr&&(f.take g).all λe=>Abs.apart e.wr b.wr)))
def FG(h:u)(f:Nat)(a:List Fp)(g:List (Nat×Nat)):Bool:=
 g.all λ(b,j)=>match a[b]?,a[j]? with
  |some c,J e=>c.apart e||YF h f a b j c e
  |_,_=>X
def PY(a:List u)(b:u):List u:=match a.any (AJ b)with|true=>a|false=>a++[b]
def Gq(l:List u)(new:List u):List u:=new.foldl PY l
def Cu:Option Obj->List u
 |some (.box cs)=>Ab cs|some (.arr _ es)=>es.flatMap Ab|some (.map es)=>es.flatMap λp=>AD p.2|some (.loop r)=>r.env.flatMap λp=>AD p.2|_=>[]
def DK(b:S):Nat->List u->Nat->List u
 |0,a,_=>a|n+1,a,i=>match a[i]? with|some c=>DK b n (Gq a (Cu (b.get c))) (i+1)|none=>a
def FE(a:u):List u->Nat->u->Option u
 |[],_,_=>I|x::r,n,id=>match AJ x id with|true=>J ((match id with|0::_=>0|_=>1)::n::a)|false=>FE a r (n+1) id
mutual
def ren(b:u->Option u):y->y
 |.ii a c k=>match b a with|some a=>.ii a c k|none=>.undef
 |.ptr a c=>match b a with|some a=>.ptr a c|none=>.undef
 |.rt a j c=>match b a with|some a=>.rt a j c|none=>.undef
 |.yld a=>match b a with|some a=>.yld a|none=>.undef
 |.mp a=>match b a with|some a=>.mp a|none=>.undef
 |.iface l e=>.iface l (ren b e)|.agg h=>.agg (Du b h)|.kw m=>.kw (Du b m)|.fn i f g=>.fn i (Du b f) (Du b g)|e=>e
def Du(a:u->Option u):List y->List y
 |[]=>[]|v::vs=>ren a v::Du a vs
end
def Eb(b:u->Option u):Obj->Obj
 |.box f=>.box (Du b f)|.arr h c=>.arr h (c.map (Du b))|.map c=>.map (c.map λa=>(a.1,ren b a.2))|.loop e=>.loop {e with env:=e.env.map λa=>(a.1,ren b a.2)}|g=>g
def FA(b:S)(a:u->Option u):List u->S
 |[]=>[]|id::r=>match b.get id,a id with|some e,J c=>(c,Eb a e)::FA b a r|_,_=>FA b a r
def ov{b:Type}(a:St)(e:St->b):b:=lx a.env λenv=>YH a.heap λc=>K4 a.base λbase=>e {env,heap:=c,base,defs:=a.defs}
def Fs(g:DH)(c:Fr)(h:Nat)(a:St):St:=
 let e:=(g.live c.f h).map λf=>(f,a.env.get f)
 if c.raw|| !a.defs.isEmpty then{a with env:=e}
 else
  let l:=DK a.heap 1000 (Gq [] (e.flatMap λb=>AD b.2)) 0
  let ν:=FE c.π l 0
  {env:=e.map λb=>(b.1,ren ν b.2),heap:=FA a.heap ν l,base:=U l,defs:=[]}
def PZ:Qm->Bool
 |.struct _=>X|.array ..=>X|_=>Z
def KT:Qm->TK
 |.bool=>.bool|.int _=>.int|.string=>.str|_=>.other
def U3(P:H5):Nat->List Field->Option (List TK)
 |_,[]=>J []|n,f::fs=>match(P.underlying f.type).map KT,(P.info? f.type).map (·.size),U3 P (n+1) fs with|some .bool,J 1,J ks=>if f.offset=n/\f.name≠ "_" then J (.bool::ks)else I|some .int,J 1,J ks=>if f.offset=n/\f.name≠ "_" then J (.int::ks)else I|some .str,J 1,J ks=>if f.offset=n/\f.name≠ "_" then J (.str::ks)else I|_,_,_=>I
def DM(a:H5)(b:Hk):Qm->TK
 |.bool=>.bool|.int _=>.int|.string=>.str|.func ..=>.func|.pointer _=>.ptr|.interface _=>.iface|.slice _=>.slice|.map ..=>.map|.array f _=>.arr f|.struct c=>match U3 a 0 c.toList with|some e=>if a.stoodInHeld b=Z/\a.eqGuardType a.depth b=Z then .flat e else .other|none=>.other
 |_=>.other
def Py(b:H5):Qm->List (Nat×Nat×Bool)
 |.struct c=>c.toList.map λa=>(a.offset,((b.info? a.type).map (·.size)).getD 0,((b.underlying a.type).map PZ).getD Z)|_=>[]
def sh:Qm->Bool
 |.struct _=>X|_=>Z
def Nc(a:H5):Qm->Bool
 |.struct c=>c.toList.all λb=>(a.info? b.type).isSome&&(a.underlying b.type).isSome|_=>X
def Yg:G4->Bool
 |.agg _=>X|_=>Z
def Hv:Qm->Hk
 |.slice e=>e|.map _ e=>e|.array _ e=>e|_=>0
def Yi:Qm->Hk
 |.map k _=>k|.int k=>zd k|_=>0
def Cm(a:H5)(f:List Hk)(c:Hk):Option TI:=
 match a.info? c,a.underlying c with
 |some b,J d=>match b.zero with
  |some e=>match WY b.bytes 65536&&Nc a d&&WO e.cells.size b.size&&(Yg e==PZ d)with|true=>J {kind:=DM a c d,size:=b.size,agg:=PZ d,str:=sh d,zero:=e.cells.toList.map Ek,flds:=Py a d,elem:=Hv d,key:=Yi d,mix:=f.any (WO c)}|false=>I
  |none=>I
 |_,_=>I
def LY(b:DH)(i:u)(e:IY)(a g base:Nat)(c:Bool):E ((Option y×St)×List Fp)->E (Di×St)
 |.ok ((o,d8),fps)=>
  match !c||FG i base fps (b.f9 e a)with
  |true=>K4 (base+g) λbase=>match o with|none=>.ok (.normal,{d8 with base})|some h=>.ok (.of h,{d8 with base})
  |false=>.err [15,a]
 |.err f=>.err (a::f)
def EZ(b:DH)(K:Ah)(a:Fr)(g:Nat)(c:Array G5)(f:Bool)(e:St):E (Di×St):=LY b a.π a.f g c.size e.base f (EF b K a c e.base (λh=> !f||b.alone a.f g h) c.toList 0 e)
def JX(a:Nat):E (Di×St)->E (Di×St)
 |.ok (.exit id',d8)=>match WO id' a with|true=>.ok (.normal,d8)|false=>.ok (.exit id',d8)
 |b=>b
def Ep(A9:St->E (Di×St)):E (Di×St)->E (Di×St)
 |.ok (.normal,d8)=>A9 d8|r=>r
def NZ(c:y)(x A9:E (Di×St)):E (Di×St):=
 match c with
 |.d (.bool t)=>match t with|true=>x|false=>A9
 |_=>.err [14]
def gN(a:St):Option Obj->E (Di×St)
 |some (.loop r)=>match r.state with|.busy=>.err [16]|_=>match r.pend with|none=>.ok (.normal,a)|some .ret=>.ok (.ret,a)|some (.exit k)=>.ok (.exit k,a)|some _=>.err [38]
 |_=>.err [17]
def MC(c e:u)(f:u)(b:St):E (BG×S)->E (Di×St)
 |.ok (.ret _,h')=>JF (gc c (gc e h')) λa=>gN {b with heap:=a} (h'.get f)|.ok (.of v,h')=>JF (gc c (gc e h')) λa=>.ok (.of v,{b with heap:=a})|.err g=>.err g
def NQ(K:Ah)(ci:Option u)(e:u)(c:u)(b:S):y->E (BG×S)
 |.fn a first cap=>Pv (first++[.yld c]++cap) λas=>K (.fn a) as b e X ci|_=>.err [18]
def IJ(K:Ah)(a:Fr)(h:LF)(i:Array L2)(j g:KH)(c:St):E (Di×St):=
 match a.rnd with
 |true=>.err [37]
 |false=>
 K4 c.base λb=>
 JF (c.heap.put (0::b::a.π) (.loop {state:=.ready,pend:=I,f:=a.f,env:=c.env,params:=i.toList,wp:=j,body:=g,nt:=a.nt})) λf=>
 K4 (b+1) λe=>
 K4 (b+2) λbase=>
 MC (b::a.π) (e::a.π) (0::b::a.π) {c with heap:=f,base,defs:=.mark (0::b::a.π)::c.defs}
  (NQ K a.ci (e::a.π) (0::b::a.π) f (ev c.env.get h))
def O4(a:DH)(b:IY):KH->Option (Fr->St->E (Di×St))
 |.region c _ _=>match a.spec b c with|some e=>J e.act|none=>I
 |_=>I
def exec(e:DH)(K:Ah)(c:Fr):Nat->Nat->KH->St->E (Di×St)
 |0,_,_,_=>.err [0]|n+1,b,h,a=>match h with
  |.skip=>.ok (.normal,a)|.label _=>.ok (.normal,a)|.seq f i=>match O4 e c.f f with|some j=>j c a|none=>Ep (exec e K c n b i) (exec e K c n b f a)
  |.cond h f i=>NZ (ev a.env.get h) (exec e K c n b f a) (exec e K c n b i a)|.block g f=>JX g (exec e K c n g f a)|.scope f=>exec e K c n b f a|.loop f=>ov (Fs e c b a) λa=>Ep (exec e K c n b (.loop f)) (exec e K c n b f a)|.exit g=>.ok (.exit g,a)|.ret=>.ok (.ret,a)|.region g o l=>EZ e K c g o l a|.rangeFunc m p q k=>IJ K c m p q k a|_=>.err [19]
def E1(c:DH)(a:St):ResultVar->Option y
 |.tmp b=>J (a.env.get b)|.cell e b=>(c.T b).bind λf=>Kq a.heap.get f (a.env.get e)
def SO{b c:Type}(a:b->Option c):List b->Option (List c)
 |[]=>J []|x::l=>match a x,SO a l with|some f,J e=>J (f::e)|_,_=>I
def La(a:DH)(fn:Func)(b:St):Option y:=match SO (E1 a b) fn.results.toList with|some []=>J (.kw [])|some [v]=>J v|some c=>J (.kw c)|none=>I
def EP(a:DH)(ci:Option u):List Df->Option y->S->E (Option y×S)
 |[],p,h=>.ok (p,h)|.mark _::l,p,h=>EP a ci l p h|.call f args::l,p,h=>match a.caught f,args with
  |some t,[.ptr id off]=>match p with
   |none=>EP a ci l I h|some (.iface t' (.agg [.d (.int k n)]))=>match WO t' t&&J4 ci [(id,.box [])]with
    |true=>match h.get id with
     |some (.box cs)=>match DD cs off [.d (.int k n)]with|some b=>EP a ci l I (h.put id (.box b))|none=>.err [20]
     |_=>.err [21]
    |false=>.err [22]
   |_=>.err [23]
  |_,_=>.err [24]
def Ej:Nat->List y->CW
 |_,[]=>[]|n,v::vs=>(n,v)::Ej (n+1) vs
def FY(e:CW):u->List y->Option CW
 |[],[]=>J e|t::ts,v::vs=>FY ((t,v)::e) ts vs|_,_=>I
def ZD(e:DH)(b:IY)(fn:Func)(i:u)(raw:Bool)(g:St):E (Option y×S)->E (BG×S)
 |.ok (I,h)=>match La e fn {g with heap:=h}with
  |some a=>kt a λa=>match raw with|true=>.ok (.ret a,h)|false=>match i with
    |[]=>match frz h.get a with|some c=>kt c λc=>.ok (.ret c,[])|none=>.err [26,b]
    |_=>.ok (.ret a,h)
  |none=>.err [27,b]
 |.ok (J v,h)=>.ok (.of v,h)|.err f=>.err (b::f)
def m7(a:DH)(ci:Option u)(b:IY)(fn:Func)(c:u)(raw:Bool):E (Di×St)->E (BG×S)
 |.ok (o,st)=>match o with|.ret=>ZD a b fn c raw st (EP a ci st.defs I st.heap)|.normal=>ZD a b fn c raw st (EP a ci st.defs I st.heap)|.of f=>ZD a b fn c raw st (EP a ci st.defs (J f) st.heap)|_=>.err [28,b]
 |.err e=>.err (b::e)
def UD(e:H5)(b:DH)(K:Ah)(g:Nat)(a:IY)(args:List y)(h:S)(c:u)(raw:Bool)(ci:Option u):E (BG×S):=
 match e.funcs[a]? with
 |some fn=>match fn.body with
  |some f=>match WY (U args) fn.ntmps with|true=>m7 b ci a fn c raw (exec b K {f:=a,π:=c,raw,ci,nt:=fn.ntmps} g 0 f {env:=Ej 0 args,heap:=h,base:=0,defs:=[]})|false=>.err [39,a]
  |none=>.err [29,a]
 |none=>.err [30,a]
def MI(c:u)(b:S)(e:Lp)(a:Option KH):E (BG×S):=
 .ok (.ret (.d (.bool a.isNone)),b.put c (.loop {e with state:=match a with|none=>.ready|some _=>.done,pend:=a}))
def pg(b:u)(e:Di)(a:S):Option Obj->E (BG×S)
 |some (.loop r)=>match e with|.normal=>MI b a r I|.ret=>MI b a r (J .ret)|.exit c=>MI b a r (J (.exit c))|.of f=>.ok (.of f,a)
 |_=>.err [32]
def UB(a:u):E (Di×St)->E (BG×S)
 |.ok (o,st)=>match st.defs with|[]=>pg a o st.heap (st.heap.get a)|_=>.err [31]
 |.err b=>.err (99::b)
def RJ(e:DH)(K:Ah)(f:Nat)(b:u)(a:Lp)(h:u)(ci:Option u)(c:St):Option Obj->E (BG×S)
 |some (.loop r)=>match r.state with|.ready=>JF (c.heap.put b (.loop {r with state:=.busy})) λg=>UB b (exec e K {f:=a.f,π:=h,raw:=X,ci,rnd:=X,nt:=a.nt} f 0 a.body {c with heap:=g})|_=>.err [36]
 |_=>.err [33]
def KS(b:DH)(K:Ah)(c:Nat)(a:u)(e:Lp)(f:u)(ci:Option u):E (Di×St)->E (BG×S)
 |.ok (.normal,st)=>match st.defs,J4 ci [(a,.box [])]with|[],X=>RJ b K c a e f ci st (st.heap.get a)|_,_=>.err [40]
 |_=>.err [34]
def Jc(b:DH)(K:Ah)(c:Nat)(h:u)(a:Lp)(args:List y)(g:S)(e:u)(ci:Option u):E (BG×S):=match FY a.env a.params args with|some f=>KS b K c h a e ci (exec b K {f:=a.f,π:=e,raw:=X,ci,rnd:=X,nt:=a.nt} c 0 a.wp {env:=f,heap:=g,base:=0,defs:=[]})|none=>.err [35]
def Kl(c:H5)(a:DH)(b:Nat):Nat->Ah
 |0=>λ_ _ _ _ _ _=>.err [25]|n+1=>λj args f g raw ci=>match j with
  |.fn e=>match a.rg e with|true=>UD c a (Kl c a b n) b e args f g raw ci|false=>.err [41,e]
  |.round h i=>match raw with|true=>Jc a (Kl c a b n) b h i args f g ci|false=>.err [42]
end Go.Abs
namespace Go.Abs
section
variable{a:Type}
@[simp] theorem K5(n:Nat)(k:Nat->a):K4 n k=k n:=by cases n<;>rfl
@[simp] theorem AOh(b:Bool)(k:Bool->a):uE b k=k b:=by cases b<;>rfl
@[simp] theorem APX(n:Int)(k:Int->a):nH n k=k n:=by cases n<;>simp[nH]
@[simp] theorem AOk(x:IntKind)(k:IntKind->a):ua x k=k x:=zDM
@[simp] theorem AOl(b:u)(c:u->a):TF b c=c b:=by induction b generalizing c with|nil=>rfl|cons f b e=>simp[TF,e]
@[simp] theorem APV(x:Ar)(k:Ar->a):gQ x k=k x:=by cases x<;>simp[gQ]
@[simp] theorem AOj(b:List Ar)(c:List Ar->a):lF b c=c b:=by induction b generalizing c with|nil=>rfl|cons f b e=>simp[lF,e]
@[simp] theorem ANw(b:List (List Ar))(c:List (List Ar)->a):Uz b c=c b:=by induction b generalizing c with|nil=>rfl|cons f b e=>simp[Uz,e]
@[simp] theorem AOi(x:Ar)(k:Ar->a):n5 x k=k x:=by cases x<;>simp[n5,gQ]
@[simp] theorem APT(x:y)(k:y->a):kg x k=k x:=by cases x<;>simp[kg]
@[simp] theorem AOf(b:List y)(c:List y->a):YG b c=c b:=by induction b generalizing c with|nil=>rfl|cons f b e=>simp[YG,e]
@[simp] theorem APU(x:y)(k:y->a):sc x k=k x:=by unfold sc;split<;>simp
@[simp] theorem CM(b:List y)(c:List y->a):Pv b c=c b:=by induction b generalizing c with|nil=>rfl|cons f b e=>simp[Pv,e]
@[simp] theorem M6(x:y)(k:y->a):kt x k=k x:=by unfold kt;split<;>simp
@[simp] theorem AOg(b:List (List y))(c:List (List y)->a):xN b c=c b:=by induction b generalizing c with|nil=>rfl|cons f b e=>simp[xN,e]
@[simp] theorem ALs(b:List (Ar×y))(c:List (Ar×y)->a):TE b c=c b:=by induction b generalizing c with|nil=>rfl|cons f b e=>obtain⟨h,g⟩:=f;simp[TE,e]
@[simp] theorem APY(x:Obj)(k:Obj->a):nN x k=k x:=by cases x<;>simp[nN]
@[simp] theorem Cv(b:S)(c:S->a):YH b c=c b:=by induction b generalizing c with|nil=>rfl|cons f b e=>obtain⟨h,g⟩:=f;simp[YH,e]
@[simp] theorem Bz(b:S)(c:S->a):JF b c=c b:=by induction b generalizing c with|nil=>rfl|cons f b e=>grind [JF]
@[simp] theorem APW(b:CW)(c:CW->a):lx b c=c b:=by induction b generalizing c with|nil=>rfl|cons f b e=>obtain⟨h,g⟩:=f;simp[lx,e]
@[simp] theorem CY(l:CW)(k:CW->a):ba l k=k l:=by cases l<;>rfl
@[simp] theorem U0(c:St)(b:St->a):ov c b=b c:=by simp[ov]
@[simp] theorem TG(c b:S)(e:S->a):lJ c b e=e (c.q_d b):=by cases b<;>simp[lJ,S.q_d]
end
theorem Id.q_w(b a:u):AJ b a=X↔b=a:=by
 induction b generalizing a with
 |nil=>cases a<;>simp[AJ]
 |cons g j h=>
  rcases a with _|⟨f,i⟩
  .simp[AJ]
  .simp only[AJ];split
   .grind [Nat.eq_of_beq_eq_true]
   .rename_i c;have:g≠f:=λe=>by subst e;simp at c
    simp[this]
theorem Id.q_A(a b:u):AJ a b=Z↔a≠b:=by grind [Id.q_w]
@[simp] theorem Id.q_c(a:u):AJ a a=true:=(Id.q_w a a).2 rfl
theorem Id.q_a(b a:u):AE b a=X↔b<:+a:=by induction a with|nil=>simp[AE,Id.q_w]|cons f e c=>grind [AE,Id.q_A,List.suffix_cons_iff]
@[simp] theorem S.get_nil(a:u):S.get [] a=none:=rfl
theorem S.q_f(c:u)(e:Obj)(b:S)(a:u):S.get ((c,e)::b) a=if c=a then J e else b.get a:=by grind [S.get,Id.q_A]
theorem S.q_e(a:S)(c:u)(e:Obj)(b:u):(a.put c e).get b=if c=b then J e else a.get b:=by induction a with|nil=>simp[S.put,S.q_f]|cons g a f=>grind [S.put,S.q_f,Id.q_A]
theorem S.get_append(a c:S)(b:u):S.get (a++c) b=(a.get b).or (c.get b):=by induction a with|nil=>simp|cons f a e=>grind [S.q_f]
theorem CW.q_f(b:Nat)(e:y)(c:CW)(a:Nat):CW.get ((b,e)::c) a=if b=a then e else c.get a:=by
 simp[CW.get];split
 .grind [Nat.eq_of_beq_eq_true]
 .rename_i f;have:b≠a:=λg=>by subst g;simp at f
  simp[this]
theorem S.puts_nil(h:S):h.q_d []=h:=rfl
theorem S.q_F(b:S)(a:u×Obj)(c:S):b.q_d (a::c)=(b.put a.1 a.2).q_d c:=rfl
theorem S.q_k(a b c:S):a.q_d (b++c)=(a.q_d b).q_d c:=by grind [S.q_d]
variable{A:Nat->Prop}
structure Wx:=
 b:Nat
 sz:Nat
 n:Nat
abbrev BF:=u->Option Wx
inductive DR(w:G2)(M:Nat->Prop):Ar->G4->Prop
 |int (k n):DR w M (.int k n) (.int k n)
 |bool (b):DR w M (.bool b) (.bool b)
 |str (s):DR w M (.str s) (.string s)
 |nilp:DR w M .nilp (.pointer I)
 |nilf:DR w M .nilf .nilFunc
 |wt:DR w M .wt .nilIface
 |nilm:DR w M .nilm (.map I)
 |lst0 (a cap):DR w M (.co []) (.slice a 0 cap)
 |co (es:List (List Ar)) (b off cap sz:Nat) (c:Array G4) (elem:Hk) (fr:Nat×Nat):
  w.heap[b]?=J (.cells c elem fr)->¬M b->(∀e∈es,U e=sz)->off+U es*sz<=c.size->
  (∀i x v,es.flatten[i]?=J x->c[off+i]?=J v->DR w M x v)->(U es)<=cap->DR w M (.co es) (.slice (J ⟨b,off,I⟩) (U es) cap)
inductive VR(β:BF)(w:G2)(M:Nat->Prop):y->G4->Prop
 |d {x v}:DR w M x v->VR β w M (.d x) v
 |d9:VR β w M .d9 (.slice I 0 0)
 |emp (a):VR β w M .emp (.slice a 0 0)
 |ii (id off len k a cap):β id=J k->off*k.sz+cap*k.sz=k.n->len<=cap->(a=J ⟨k.b,off*k.sz,I⟩\/cap=0)->
  VR β w M (.ii id off len) (.slice a len cap)
 |ptr (id off k):β id=J k->VR β w M (.ptr id off) (.pointer (J ⟨k.b,off,I⟩))
 |rt (id i off k):β id=J k->VR β w M (.rt id i off) (.pointer (J ⟨k.b,i*k.sz+off,I⟩))
 |iptr (cs b off c elem fr):w.heap[b]?=J (.cells c elem fr)->¬M b->off+U cs<=c.size->
  (∀i x v,cs[i]?=J x->c[off+i]?=J v->DR w M x v)->VR β w M (.iptr cs) (.pointer (J ⟨b,off,I⟩))
 |fn (f) (a b:List y) (a' b':Array G4):U a=a'.size->(U b)=b'.size->(∀(i:Nat) (x:y) (v:G4),a[i]?=J x->a'[i]?=J v->VR β w M x v)->
  (∀(i:Nat) (x:y) (v:G4),b[i]?=J x->b'[i]?=J v->VR β w M x v)->VR β w M (.fn f a b) (.func (.func f) a' b')
 |yld (id k):β id=J k->VR β w M (.yld id) (.func (.yield k.b) #[] #[])
 |mp (id k):β id=J k->VR β w M (.mp id) (.map (J k.b))
 |iface (t v A8):VR β w M v A8->VR β w M (.iface t v) (.iface t A8)
 |agg (cs:List y) (c:Array G4):U cs=c.size->(∀(i:Nat) (x:y) (v:G4),cs[i]?=J x->c[i]?=J v->VR β w M x v)->VR β w M (.agg cs) (.agg c)
 |kw (cs:List y) (c:Array G4):U cs=c.size->(∀(i:Nat) (x:y) (v:G4),cs[i]?=J x->c[i]?=J v->VR β w M x v)->VR β w M (.kw cs) (.tuple c)
 |undef (v):VR β w M .undef v
def Hg(h:BF)(g:G2)(M:Nat->Prop)(b:List y)(a:Array G4):Prop:=(U b)=a.size/\∀(c:Nat) (f:y) (e:G4),b[c]?=J f->a[c]?=J e->VR h g M f e
def Obj.mut:Obj->Bool
 |.v6 ..=>Z|_=>X
def MS(A:Nat->Prop)(g:BF)(f:S)(a:Nat):Prop:=A a\/∃b e c,f.get b=J e/\e.mut=X/\g b=J c/\c.b=a
def MX(f:BF)(e:G2)(M:Nat->Prop)(b:Nat->y)(c:Nat->G4):Prop:=∀a,VR f e M (b a) (c a)
def Ks(a:List (Ar×y)):Prop:=(∀c∈a,∃b,c.1=.int .i64 b)/\(a.map Prod.fst).Nodup
def eD(a:List MapEntry)(b:Nat):Prop:=(a.map (·.born)).Nodup/\∀c∈a,c.born<b
def yk(i:BF)(g:G2)(M:Nat->Prop)(c:List (Ar×y))(b:Array MapEntry)(h:Nat):Prop:=
 eD b.toList h/\∃a:List MapEntry,b.toList.Perm a/\(b.toList=a\/Ks c)/\(U c)=U a/\
  ∀(f:Nat) p e,c[f]?=J p->a[f]?=J e->DR g M p.1 e.key/\VR i g M p.2 e.val
def PK(m:BF)(f:G2)(M:Nat->Prop)(e:Wx):Obj->Prop
 |.box n=>∃a elem,f.heap[e.b]?=J (.cells a elem (0,0))/\Hg m f M n a
 |.f8 c b=>∃a elem,f.heap[e.b]?=J (.cells a elem (0,0))/\c=e.sz/\0<c/\a.size=e.n/\(∀l∈b,U l=c)/\(U b)*c<=a.size/\
  ∀(h:Nat) (k:Ar) (j:G4),b.flatten[h]?=J k->a[h]?=J j->DR f M k j
 |.v6 c b=>b=[]\/(¬M e.b/\∃a elem o,f.heap[e.b]?=J (.cells a elem o)/\c=e.sz/\0<c/\a.size=e.n/\(∀l∈b,U l=c)/\(U b)*c<=a.size/\
  ∀(h:Nat) (k:Ar) (j:G4),b.flatten[h]?=J k->a[h]?=J j->DR f M k j)
 |.arr c b=>∃a elem,f.heap[e.b]?=J (.cells a elem (0,0))/\c=e.sz/\0<c/\a.size=e.n/\(∀l∈b,U l=c)/\(U b)*c<=a.size/\
  ∀(h:Nat) (k:y) (j:G4),b.flatten[h]?=J k->a[h]?=J j->VR m f M k j
 |.map b=>∃entries clock,f.heap[e.b]?=J (.map entries clock)/\yk m f M b entries clock
 |.loop i=>∃g:Loop,f.heap[e.b]?=J (.loop g)/\g.state=i.state/\g.pending=i.pend/\g.fn=i.f/\g.params.toList=i.params/\g.assign=i.wp/\g.body=i.body/\g.tmps.size=i.nt/\
  MX m f M i.env.get λp=>g.tmps.getD p Go.undef
variable{w:G2}{M:Nat->Prop}
def yk.len{h:BF}{b:List (Ar×y)}{a:Array MapEntry}{c:Nat}(e:yk h w M b a c):U b=a.size:=by obtain⟨_,i,f,_,g,_⟩:=e;rw[g,<-f.length_eq];simp
def AGB(a:BF)(w:G2)(M:Nat->Prop):yk a w M [] #[] 0:=⟨⟨AG,AG⟩,[],.nil,.inl rfl,rfl,AG⟩
structure HR(A:Nat->Prop)(β:BF)(w:G2)(h:S):Prop:=
 obj:∀id o,h.get id=J o->∃k,β id=J k/\PK β w (MS A β h) k o
 inj:∀id id' o o' k k',h.get id=J o->h.get id'=J o'->o.mut=X->o'.mut=X->β id=J k->β id'=J k'->k.b=k'.b->id=id'
 bnd:∀id k,β id=J k->k.b<w.heap.size
 out:∀id o k,h.get id=J o->o.mut=X->β id=J k->¬A k.b
 abnd:∀b,A b->b<w.heap.size
structure FI(A M:Nat->Prop)(w:G2)(M':Nat->Prop)(w':G2):Prop:=
 pm:∀b,b<w.heap.size->¬M b\/A b->w'.heap[b]?=w.heap[b]?
 size:w.heap.size<=w'.heap.size
 sub:∀b,M' b->M b\/w.heap.size<=b
 io:w'.os=w.os/\w'.output=w.output:=by exact⟨rfl,rfl⟩
theorem FI.refl(M:Nat->Prop)(w:G2):FI A M w M w:=⟨λ_ _ _=>rfl,D2 _,λ_ h=>.inl h,rfl,rfl⟩
variable{e:Nat->Prop}{c:G2}
theorem FI.trans{M'':Nat->Prop}{w'':G2}(h:FI A M w e c)(h':FI A e c M'' w''):FI A M w M'' w'' where
 pm b hb hm:=by rw[h'.pm b (LI hb h.size) (hm.imp (λhm hm'=>(h.sub b hm').elim hm (λh=>z)) (λh=>h)),h.pm b hb hm]
 size:=Gt h.size h'.size
 sub b hb:=by
  rcases h'.sub b hb with h1|h1
  .exact h.sub b h1
  .exact .inr (Gt h.size h1)
 io:=⟨h'.io.1.trans h.io.1,h'.io.2.trans h.io.2⟩
def FI.sub'(b:FI A M w e c){a:Nat}(h:a<w.heap.size)(f:¬M a):¬e a:=λg=>(b.sub a g).elim f (λb=>z)
def Le(c e:BF):Prop:=∀a b,c a=J b->e a=J b
theorem Le.refl(a:BF):Le a a:=λ_ _ b=>b
variable{a:BF}
theorem Le.trans{e f:BF}(g:Le e a)(h:Le a f):Le e f:=λb c i=>h b c (g b c i)
theorem BZ{b:Nat}{o:Go.Obj}(h:w.heap[b]?=J o):b<w.heap.size:=zCI
theorem DR.mono(g:FI A M w e c){i:Ar}{h:G4}(n:DR w M i h):DR c e i h:=by induction n with|int s t=>exact .int s t|bool a=>exact .bool a|str x=>exact .str x|nilp=>exact .nilp|nilf=>exact .nilf|wt=>exact .wt|nilm=>exact .nilm|lst0 j cap=>exact .lst0 j cap|co l a v cap B k elem m b f p q _ o r=>exact .co l a v cap B k elem m (by rw[g.pm a (BZ b) (.inl f)];exact b) (g.sub' (BZ b) f) p q r o
theorem VR.mono{D:BF}(n:Le D a)(q:FI A M w e c){r:y}{h:G4}(s:VR D w M r h):VR a c e r h:=by induction s with|d s=>exact .d (s.mono q)|d9=>exact .d9|emp k=>exact .emp k|ii f j len g k cap b P x N=>exact .ii f j len g k cap (n _ _ b) P x N|ptr f j g b=>exact .ptr f j g (n _ _ b)|rt f B j g b=>exact .rt f B j g (n _ _ b)|iptr m p j l elem L v C x O=>exact .iptr m p j l elem L (by rw[q.pm p (BZ v) (.inl C)];exact v) (q.sub' (BZ v) C) x λB r h i t=>(O B r h i t).mono q|fn K k p F H i t _ _ Q R=>exact .fn K k p F H i t Q R|yld f g b=>exact .yld f g (n _ _ b)|mp f g b=>exact .mp f g (n _ _ b)|iface T h V _ o=>exact .iface T h V o|agg m l i _ o=>exact .agg m l i o|kw m l i _ o=>exact .kw m l i o|undef h=>exact .undef h
theorem Hg.mono{h:BF}(l:Le h a)(k:FI A M w e c){f:List y}{b:Array G4}(g:Hg h w M f b):Hg a c e f b:=⟨g.1,λm f b i j=>(g.2 m f b i j).mono l k⟩
theorem MX.mono{g:BF}(j:Le g a)(i:FI A M w e c){b:Nat->y}{f:Nat->G4}(h:MX g w M b f):MX a c e b f:=λk=>(h k).mono j i
variable{o:Obj}
theorem PK.mono{L:BF}(B:Le L a)(k:FI A M w e c){t:Wx}(j:PK L w M t o)(V:t.b<w.heap.size)(s:c.heap[t.b]?=w.heap[t.b]?):PK a c e t o:=by
 cases o with
 |box ac=>obtain⟨m,elem,b,f⟩:=j;exact⟨m,elem,s▸b,f.mono B k⟩|f8 K C=>obtain⟨m,elem,b,f,g,n,p,q,r⟩:=j;exact⟨m,elem,s▸b,f,g,n,p,q,λl x v h i=>(r l x v h i).mono k⟩
 |v6 K C=>
  rcases j with j|⟨W,m,elem,P,b,f,g,n,p,q,r⟩
  .exact .inl j
  .exact .inr ⟨k.sub' V W,m,elem,P,s▸b,f,g,n,p,q,λl x v h i=>(r l x v h i).mono k⟩
 |arr K C=>obtain⟨m,elem,b,f,g,n,p,q,r⟩:=j;exact⟨m,elem,s▸b,f,g,n,p,q,λl x v h i=>(r l x v h i).mono B k⟩|map C=>obtain⟨O,N,b,T,D,Y,aa,f,g⟩:=j;exact⟨O,N,s▸b,T,D,Y,aa,f,λl H F h i=>⟨(g l H F h i).1.mono k,(g l H F h i).2.mono B k⟩⟩|loop ad=>obtain⟨D,b,f,g,n,p,q,r,R,Q⟩:=j;exact⟨D,s▸b,f,g,n,p,q,r,R,Q.mono B k⟩
def HR.step{β:BF}{h h':S}(H:HR A β w h)(hβ:Le β a)(hp:FI A (MS A β h) w (MS A a h') c)(hobj:∀id o,h'.get id=J o->(h.get id=J o/\∀k,β id=J k->c.heap[k.b]?=w.heap[k.b]?)\/∃k,a id=J k/\PK a c (MS A a h') k o)(hinj:∀id id' o o' k k',h'.get id=J o->h'.get id'=J o'->o.mut=X->o'.mut=X->a id=J k->a id'=J k'->k.b=k'.b->id=id')(hbnd:∀id k,a id=J k->k.b<c.heap.size) (hout:∀id o k,h'.get id=J o->o.mut=X->a id=J k->¬A k.b):HR A a c h' where
 obj id o ho:=by
  rcases hobj id o ho with⟨h1,h2⟩|h1
  .have⟨k,hk,hr⟩:=H.obj id o h1;exact⟨k,hβ _ _ hk,hr.mono hβ hp (H.bnd id k hk) (h2 k hk)⟩
  .exact h1
 inj:=hinj
 bnd:=hbnd
 out:=hout
 abnd b hb:=LI (H.abnd b hb) hp.size
def BF.put(c:BF)(a:u)(b:Wx):BF:=λx=>if x=a then J b else c x
theorem SL{a:BF}{b:u}{c:Wx}(e:a b=I):Le a (a.put b c):=λh g f=>by grind [BF.put]
@[simp] theorem Hp(c:BF)(a:u)(b:Wx):c.put a b a=J b:=by simp[BF.put]
theorem Cq(c:BF){b a:u}(f:Wx)(e:a≠b):c.put b f a=c a:=by simp[BF.put,e]
def World.add(w:G2)(x:Go.Obj):World:={w with heap:=w.heap.push x}
theorem Mc(w:G2)(x:Go.Obj):(World.add w x).heap[w.heap.size]?=J x:=by simp[World.add]
theorem Kv(w:G2)(x:Go.Obj){b:Nat}(h:b<w.heap.size):(World.add w x).heap[b]?=w.heap[b]? :=by grind [World.add]
def Lk(w:G2)(x:Go.Obj):(World.add w x).heap.size=w.heap.size+1:=by simp[World.add]
def m4{e:BF}{c:S}(H:HR A e w c){a:Nat}(b:MS A e c a):a<w.heap.size:=by
 rcases b with b|⟨g,o,h,_,_,f,rfl⟩
 .exact H.abnd a b
 .exact H.bnd g h f
def ZK{β:BF}{w:G2}{h:S}(H:HR A β w h){id:u}(x:Go.Obj){o:Obj}{k:Wx}(hk:k.b=w.heap.size):
 FI A (MS A β h) w (MS A (β.put id k) (h.put id o)) (World.add w x) where
 pm b hb _:=Kv w x hb
 size:=by rw[Lk];omega
 sub b hb:=by
  rcases hb with hb|⟨id',o',k',ho,hm,hk',rfl⟩
  .exact .inl (.inl hb)
  by_cases e:id'=id
  .subst e;simp at hk';subst hk';exact .inr z
  .rw[Cq β k e]at hk';rw[S.q_e,Co (Ne.symm e)]at ho;exact .inl (.inr ⟨id',o',k',ho,hm,hk',rfl⟩)
theorem HR.add{c:BF}{w:G2}{p:S}(H:HR A c w p){e:u}(x:c e=I){m:Go.Obj}{o:Obj}{k:Wx}(B:k.b=w.heap.size)(F:PK (c.put e k) (World.add w m) (MS A (c.put e k) (p.put e o)) k o):HR A (c.put e k) (World.add w m) (p.put e o):=by
 refine H.step (SL x) (ZK H m B) ?_ ?_ ?_ ?_
 .intro M O j;rw[S.q_e]at j;split at j
  .rename_i n;subst n;cases j;exact .inr ⟨k,AG,F⟩
  .exact .inl ⟨j,λN C=>Kv w m (H.bnd _ _ C)⟩
 .intro f t s L l K g q r D a h n;rw[S.q_e]at g q;by_cases b:f=e<;>by_cases i:t=e
  .rw[b,i]
  .subst b;simp at a;subst a;rw[Cq c _ i]at h;have:=H.bnd _ _ h;omega
  .subst i;simp at h;subst h;rw[Cq c _ b]at a;have:=H.bnd _ _ a;omega
  .rw[Cq c _ b]at a;rw[Cq c _ i]at h;rw[Co (Ne.symm b)]at g;rw[Co (Ne.symm i)]at q;exact H.inj f t s L l K g q r D a h n
 .intro f l a;rw[Lk];by_cases b:f=e
  .subst b;simp at a;subst a;omega
  .rw[Cq c _ b]at a;have:=H.bnd _ _ a;omega
 .intro f s l g r a v;rw[S.q_e]at g;by_cases b:f=e
  .subst b;simp at a;subst a;have:=H.abnd _ v;omega
  .rw[Cq c _ b]at a;rw[Co (Ne.symm b)]at g;exact H.out f s l g r a v
def World.nl(w:G2)(b:Nat)(x:Go.Obj):World:={w with heap:=w.heap.setIfInBounds b x}
theorem GK{b:Nat}(x:Go.Obj)(h:b<w.heap.size):(World.nl w b x).heap[b]?=J x:=by simp[World.nl,h]
theorem Eu{b a:Nat}(c:Go.Obj)(e:a≠b):(World.nl w b c).heap[a]?=w.heap[a]? :=by grind [World.nl]
theorem FB(w:G2)(b:Nat)(x:Go.Obj):(World.nl w b x).heap.size=w.heap.size:=by simp[World.nl]
def UZ{i:BF}{a:S}{e:u}{o p:Obj}(m:a.get e=J o)(l:o.mut=X){f:Nat}(c:MS A i (a.put e p) f):MS A i a f:=by
 rcases c with c|⟨n,q,h,b,k,g,rfl⟩
 .exact .inl c
 rw[S.q_e]at b;split at b
 .rename_i j;subst j;exact .inr ⟨e,o,h,m,l,g,rfl⟩
 .exact .inr ⟨n,q,h,b,k,g,rfl⟩
variable{o':Obj}
def Ho{β:BF}{h:S}(H:HR A β w h){id:u}{k:Wx}(ho:h.get id=J o)(hm:o.mut=X)(hk:β id=J k)(x:Go.Obj):
 FI A (MS A β h) w (MS A β (h.put id o')) (World.nl w k.b x) where
 pm b _ hb:=Eu x λe=>hb.elim (λhb=>hb (.inr ⟨id,o,k,ho,hm,hk,e.symm⟩)) (λhb=>H.out id o k ho hm hk (e▸hb))
 size:=by rw[FB];omega
 sub b hb:=.inl (UZ ho hm hb)
theorem HR.nl{e:BF}{w:G2}{a:S}(H:HR A e w a){h:u}{b:Wx}{o o':Obj}(v:a.get h=J o)(s:o.mut=X)(K:e h=J b){B:Go.Obj}(W:PK e (World.nl w b.b B) (MS A e (a.put h o')) b o')(P:∀i x n c,a.get i=J (.v6 x n)->e i=J c->c.b=b.b->n=[]):HR A e (World.nl w b.b B) (a.put h o'):=by
 refine H.step (.refl e) (Ho H v s K B) ?_ ?_ ?_ ?_
 .intro i p l;rw[S.q_e]at l;split at l
  .grind
  .rename_i k;have⟨c,hk',hr'⟩:=H.obj i p l;by_cases C:c.b=b.b
   .rcases hm':p.mut with _|_
    .cases p with|v6 x n=>have:=P i x n c l hk' C;exact .inr ⟨c,hk',.inl this⟩|_=>simp[Obj.mut]at hm'
    .exact absurd (H.inj h i o p b c v l s hm' K hk' C.symm) k
   grind [Eu]
 .intro j O M Y m V f F t R g Q k;rw[S.q_e]at f F;have D:∀{r:u} {q:Obj},(if h=r then J o' else a.get r)=J q->q.mut=X->∃N,a.get r=J N/\N.mut=true:=by
   intro r q L T;split at L
   .grind
   .exact⟨q,L,T⟩
  have⟨oa',h1,h2⟩:=D f t;have⟨ob',h3,h4⟩:=D F R;exact H.inj j O oa' ob' m V h1 h3 h2 h4 g Q k
 .intro j m g;rw[FB];exact H.bnd j m g
 .intro j M m f t g;rw[S.q_e]at f;split at f
  .rename_i k;subst k;exact H.out _ _ _ v s g
  .exact H.out j M m f t g
def HR.v6{g:BF}{a:S}(H:HR A g w a){c e:u}{f j:Wx}(q:a.get c=J o)(p:o.mut=X)(m:g c=J f){r:Nat}{h:List (List Ar)}(l:a.get e=J (.v6 r h)) (n:g e=J j) (k:j.b=f.b):h=[]:=by
 have⟨k2,i,hr⟩:=H.obj e _ l;rw[n]at i;cases i;rcases hr with b|⟨b,_⟩
 .exact b
 .exact absurd (.inr ⟨c,o,f,q,p,m,k.symm⟩) b
def HR.upd'{a:BF}{b:S}(H:HR A a w b){c:u}{e:Wx}(h:b.get c=J o)(g:o.mut=X)(f:a c=J e){x:Go.Obj}(l:PK a (World.nl w e.b x) (MS A a (b.put c o')) e o'):HR A a (World.nl w e.b x) (b.put c o'):=H.nl h g f l λ_ _ _ _ i j k=>H.v6 h g f i j k
def pJ{β:BF}{a:S}{b:u}(f:a.get b=J o)(e:o.mut=X):
 FI A (MS A β a) w (MS A β (a.put b o')) w:=⟨λ_ _ _=>rfl,D2 _,λ_ c=>.inl (UZ f e c),rfl,rfl⟩
theorem HR.kill{n:BF}{w:G2}{b:S}(H:HR A n w b){e:u}{o:Obj}(r:b.get e=J o)(C:o.mut=X):HR A n w (b.put e (.v6 0 [])):=by
 have⟨k,hk,_⟩:=H.obj e _ r;refine H.step (.refl n) (pJ r C) ?_ ?_ H.bnd ?_
 .intro L M j;rw[S.q_e]at j;split at j
  .rename_i i;subst i;cases j;exact .inr ⟨k,hk,.inl rfl⟩
  grind
 .intro h x t N m K a q c D l B i;rw[S.q_e]at a q;have p:∀{g:u} {f:Obj},(if e=g then J (Obj.v6 0 [])else b.get g)=J f->f.mut=X->∃v,b.get g=J v/\v.mut=true:=by
   intro g f s F;split at s
   .grind
   .exact⟨f,s,F⟩
  have⟨oa',h1,h2⟩:=p a c;have⟨ob',h3,h4⟩:=p q D;exact H.inj h x oa' ob' m K h1 h3 h2 h4 l B i
 .intro h t m a c l;rw[S.q_e]at a;split at a
  .cases a;cases c
  .exact H.out h t m a c l
