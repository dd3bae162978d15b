/- P -/
import Derived.CallsIn
import Derived.DefersIn
import Derived.RangeFuncLeaves
set_option linter.all false
open Go renaming World->G5,Value->Hk,Oper->H0,TypeId->H5,Program->JH,FuncId->KH,Code->L2,Operand->M3,Tmp->M5,TypeDesc->Sm
open List renaming replicate->TL,length->U
open Nat renaming beq->Wm,ble->W0
open Option renaming some->J,none->I
open Bool renaming true->X,false->Z
namespace Go
def zCN{p:Prop}(h:p:=by grind):p:=h
def zDQ{p:Prop}(h:p:=by cases x<;>rfl):p:=h
end Go
namespace Go
def zBA{p:Prop}(h:p:=by cases b<;>simp[y.same]at h;rw[Id.is_eq h.1,h.2.1,h.2.2]):p:=h
end Go
namespace Go
def AM:=@Bool.false_eq_true
def AP:=@List.mem_of_getElem?
def AS:=@List.mem_singleton
def Ac:=@List.mem_append
def Ap:=@List.map_append
def As:=@Bool.and_eq_true
def BE:=@List.getElem?_eq_some_iff
def BI:=@List.mem_flatMap
def BV:=@List.length_map
def BY:=@List.getElem?_map
def Be:=@Option.map_eq_some_iff
def Bi:=@List.take_of_length_le
def Bv:=@List.map_cons
def By:=@List.mem_cons_of_mem
def CE:=@List.getElem?_eq_getElem
def CI:=@List.eq_nil_of_length_eq_zero
def CO:=@List.mem_cons_self
def CS:=@List.append_nil
def Ce:=@List.map_nil
def Ci:=@List.getElem?_of_mem
def Co:=@if_neg
def Cs:=@List.mem_cons
def DL:=@List.nil_append
def DO:=@Nat.add_eq_left
def Dl:=@decide_eq_true_eq
def D0:=@List.nodup_append
def D1:=@List.length_append
def D2:=@Nat.left_eq_add
def D3:=@if_pos
def D4:=@Nat.le_refl
def D5:=@Nat.eq_of_beq_eq_true
def D6:=@List.map_eq_nil_iff
def D7:=@List.drop_eq_nil_of_le
def D8:=@List.getElem?_append_left
def D9:=@Array.getElem?_eq_getElem
def EL:=@List.getElem?_append_right
def EM:=@List.all_eq_true
def EX:=@List.all_cons
def Es:=@Bool.false_and
def Ex:=@List.mem_map
def FD:=@List.take_add_one
def FN:=@List.suffix_cons
def F0:=@List.flatMap_cons
def F1:=@List.append_assoc
def F2:=@Int.toNat_natCast
def F3:=@List.take_length
def F4:=@Option.some.injEq
def F5:=@List.length_take
def F6:=@List.cons_append
def F7:=@List.getElem?_set
def F8:=@decide_eq_true
def F9:=@Option.getD_some
def GC:=@decide_eq_false
def GO:=@Option.bind_some
def GS:=@Nat.zero_le
def Gc:=@Nat.le_of_ble_eq_true
def Ge:=@Array.getD_eq_getD_getElem?
def Gs:=@if_false
def Gt:=@Option.map_some
def HE:=@Nat.le_trans
def HM:=@Nat.mul_le_mul_right
def HU:=@List.length_replicate
def HW:=@List.not_mem_nil
def He:=@Option.bind_eq_some_iff
def Hm:=@List.getElem?_cons_zero
def Hw:=@List.getElem?_cons_succ
def ID:=@Int.natCast_nonneg
def IF:=@Int.toNat_of_nonneg
def II:=@List.length_cons
def IN:=@List.mem_append_right
def IP:=@if_true
def IS:=@List.take_append_of_le_length
def IT:=@Nat.sub_self
def Ii:=@List.nodup_cons
def Io:=@Array.getElem?_setIfInBounds_ne
def Ip:=@List.suffix_cons_iff
def Is:=@List.mem_append_left
def It:=@Bool.not_eq_true'
def I0:=@List.mem_replicate
def I2:=@List.map_set
def I3:=@List.length_singleton
def I4:=@Bool.true_and
def I5:=@Bool.and_false
def I6:=@Array.getElem?_setIfInBounds
def I7:=@forall_eq_or_imp
def I8:=@List.length_drop
def I9:=@Nat.zero_add
def JP:=@List.take_append_drop
def Jp:=@Array.eq_empty_of_size_eq_zero
def KW:=@List.flatMap_append
def Kw:=@Option.some.inj
def LC:=@List.length_set
def LI:=@Prod.mk.injEq
def LM:=@Nat.lt_of_lt_of_le
def Lc:=@List.map_replicate
def Li:=@Array.getElem?_eq_some_iff
def Lm:=@Array.getElem?_append_left
def Ls:=@Nat.add_mul
def Lt:=@List.ext_getElem?
def Lw:=@List.take_zero
def MD:=@List.length_nil
def MK:=@Int.eq_ofNat_of_zero_le
def MP:=@List.set_append_right
def MT:=@List.mem_flatten
def Md:=@List.getElem_mem
def Mk:=@Int.le_refl
def Mp:=@List.mem_map_of_mem
def Ms:=@List.map_congr_left
def Mt:=@or_false
def NL:=@List.flatMap_nil
def NO:=@List.map_take
def Nl:=@Int.le_trans
def No:=@Array.ext_getElem?
def OF:=@List.getElem?_eq_none_iff
def OK:=@List.drop_eq_getElem_cons
def OL:=@List.drop_eq_nil_iff
def ON:=@Option.isSome_iff_exists
def OP:=@List.set_eq_of_length_le
def OS:=@List.foldl_cons
def Of:=@List.eq_nil_iff_forall_not_mem
def Ok:=@List.length_eq_zero_iff
def Ol:=@Bool.false_or
def On:=@Array.length_toList
def PI:=@List.mem_range
def PL:=@Nat.ne_of_beq_eq_false
def PM:=@List.append_eq_nil_iff
def PU:=@Nat.add_sub_cancel
def Pl:=@Nat.mul_comm
def Pm:=@Nat.ble_eq_true_of_le
def Pp:=@List.mem_iff_getElem?
def Pu:=@List.mem_filter
def QR:=@List.map_map
def Qr:=@Bool.or_eq_true
def RC:=@Array.getElem?_toList
def RD:=@Nat.blt_eq
def RG:=@Bool.not_true
def RS:=@Bool.and_true
def RT:=@Array.toList_push
def RW:=@List.exists_cons_of_ne_nil
def RX:=@List.mem_of_mem_drop
def Rc:=@List.mem_iff_getElem
def Rd:=@List.map_flatten
def Rg:=@List.flatten_append
def Ro:=@Array.getElem?_push
def Rs:=@Nat.add_sub_cancel_left
def Rt:=@Nat.add_assoc
def Rw:=@List.range_succ
def Rx:=@List.map_drop
def SP:=@List.cons.injEq
def S1:=@List.all_append
def S2:=@Nat.add_le_add
def TO:=@Bool.not_false
def TY:=@List.all_nil
def To:=@Nat.le_max_right
def Ty:=@List.suffix_refl
def T0:=@List.drop_length
def T2:=@List.cons.inj
end Go
namespace Go
variable{p:Prop}
def z(h:p:=by omega):p:=h
def AG(h:p:=by simp):p:=h
def Ad(h:p:=by decide):p:=h
def CM(h:p:=by assumption):p:=h
def BL(h:p:=by simp;omega):p:=h
def AZ(h:p:=by dsimp only;omega):p:=h
def Ay(h:p:=by simp[AE]):p:=h
def DI(h:p:=by simp[Op.operands]):p:=h
def AQW(h:p:=by rfl):p:=h
end Go
namespace Go.Abs
def Cv{c:Sort _}(a:c):∃b,b=a:=⟨a,rfl⟩
inductive Au where
 |int (k:IntKind) (n:Int)
 |bool (b:Bool)
 |str (s:ByteArray)
 |co (es:List (List Au))
 |nilp|nilf|wt|nilm
abbrev u:=List Nat
abbrev Al:=List Int
def AJ:u->u->Bool
 |[],[]=>X|n::l,m::k=>match Wm n m with|true=>AJ l k|false=>Z
 |_,_=>Z
def AD(a:u):u->Bool
 |[]=>AJ a []|b::l=>match AJ a (b::l)with|true=>X|false=>AD a l
inductive y where
 |d (x:Au)
 |d8
 |emp
 |ii (id:u) (off len:Nat)
 |ptr (id:u) (off:Nat)
 |rg (id:u) (i off:Nat)
 |iptr (cs:List Au)
 |fn (f:KH) (first cap:List y)
 |yld (id:u)
 |mp (id:u)
 |iface (t:H5) (v:y)
 |agg (cs:List y)
 |kw (vs:List y)
 |undef
abbrev CN:=List (Nat×y)
def CN.get:CN->Nat->y
 |[],_=>.undef|(k,v)::e,t=>match Wm k t with|true=>v|false=>CN.get e t
structure Lp:=
 state:LoopState
 pend:Option L2
 f:KH
 env:CN
 params:u
 wp:L2
 body:L2
 nt:Nat
inductive Obj where
 |box (cs:List y)
 |f9 (sz:Nat) (es:List (List Au))
 |rt (sz:Nat) (es:List (List Au))
 |arr (sz:Nat) (es:List (List y))
 |map (es:List (Au×y))
 |loop (r:Lp)
abbrev S:=List (u×Obj)
def S.get:S->u->Option Obj
 |[],_=>I|(k,o)::h,id=>match AJ k id with|true=>J o|false=>S.get h id
mutual
def Au.same:Au->Au->Bool
 |.int c g,.int e f=>decide (c=e)&&decide (g=f)|.bool a,.bool b=>match a,b with|true,X=>X|false,Z=>X|_,_=>Z
 |.str a,.str b=>decide (a.data.toList=b.data.toList)|.co a,.co b=>Au.samess a b|.nilp,.nilp=>X|.nilf,.nilf=>X|.wt,.wt=>X|.nilm,.nilm=>X|_,_=>Z
def Au.sames:List Au->List Au->Bool
 |[],[]=>X|x::l,B0::m=>match Au.same x B0 with|true=>Au.sames l m|false=>Z
 |_,_=>Z
def Au.samess:List (List Au)->List (List Au)->Bool
 |[],[]=>X|x::l,B0::m=>match Au.sames x B0 with|true=>Au.samess l m|false=>Z
 |_,_=>Z
end
mutual
theorem Au.same_eq:∀{a b:Au},Au.same a b=X->a=b
 |.int k n,b,h=>by cases b<;>simp[Au.same]at h;rw[h.1,h.2]|.bool a,b,h=>by cases b<;>simp[Au.same]at h;grind|.str a,b,h=>by cases b<;>simp[Au.same]at h;rename_i b;cases a;cases b;simp at h;rw[h]|.co a,b,h=>by cases b<;>simp[Au.same]at h;rw[Au.samess_eq h]|.nilp,b,h=>by grind [Au.same]|.nilf,b,h=>by grind [Au.same]|.wt,b,h=>by grind [Au.same]|.nilm,b,h=>by grind [Au.same]
theorem Au.sames_eq:∀{c b:List Au},Au.sames c b=X->c=b
 |[],b,a=>by grind [Au.sames]|x::l,[],a=>by simp[Au.sames]at a|x::l,B0::m,a=>by
  unfold Au.sames at a;split at a
  .rename_i e;rw[Au.same_eq e,Au.sames_eq a]
  .cases a
theorem Au.samess_eq:∀{c b:List (List Au)},Au.samess c b=X->c=b
 |[],b,a=>by grind [Au.samess]|x::l,[],a=>by simp[Au.samess]at a|x::l,B0::m,a=>by
  unfold Au.samess at a;split at a
  .rename_i e;rw[Au.sames_eq e,Au.samess_eq a]
  .cases a
end
theorem Id.is_eq:∀{b c:u},AJ b c=X->b=c
 |[],[],_=>rfl|[],_::_,a=>by simp[AJ]at a|_::_,[],a=>by simp[AJ]at a|n::l,m::k,a=>by
  unfold AJ at a;split at a
  .rename_i e;rw[D5 e,Id.is_eq a]
  .cases a
mutual
def y.same:y->y->Bool
 |.d p,.d q=>Au.same p q|.d8,.d8=>X|.emp,.emp=>X|.ii a c e,.ii b f g=>AJ a b&&(Wm c f&&Wm e g)|.ptr a c,.ptr b e=>AJ a b&&Wm c e|.rg a c e,.rg b f g=>AJ a b&&(Wm c f&&Wm e g)|.fn j c e,.fn k f g=>Wm j k&&(y.sames c f&&y.sames e g)|.yld a,.yld b=>AJ a b|.mp a,.mp b=>AJ a b|.iface l n,.iface m o=>Wm l m&&y.same n o|.agg h,.agg i=>y.sames h i|.kw h,.kw i=>y.sames h i|.undef,.undef=>X|_,_=>Z
def y.sames:List y->List y->Bool
 |[],[]=>X|x::l,B0::m=>match y.same x B0 with|true=>y.sames l m|false=>Z
 |_,_=>Z
end
mutual
theorem y.same_eq:∀{a b:y},y.same a b=X->a=b
 |.d x,b,h=>by cases b<;>simp[y.same]at h;rw[Au.same_eq h]|.agg l,b,h=>by cases b<;>simp[y.same]at h;rw[y.sames_eq h]|.kw l,b,h=>by cases b<;>simp[y.same]at h;rw[y.sames_eq h]|.d8,b,h=>by grind [y.same]|.emp,b,h=>by grind [y.same]|.undef,b,h=>by grind [y.same]|.ii ..,b,h=>by exact zBA|.ptr ..,b,h=>by cases b<;>simp[y.same]at h;rw[Id.is_eq h.1,h.2]|.rg ..,b,h=>by exact zBA|.iptr _,b,h=>by simp[y.same]at h|.fn f a c,b,h=>by cases b<;>simp[y.same]at h;rw[h.1,y.sames_eq h.2.1,y.sames_eq h.2.2]|.yld _,b,h=>by cases b<;>simp[y.same]at h;rw[Id.is_eq h]|.mp _,b,h=>by cases b<;>simp[y.same]at h;rw[Id.is_eq h]|.iface t v,b,h=>by cases b<;>simp[y.same]at h;rw[h.1,y.same_eq h.2]
theorem y.sames_eq:∀{c b:List y},y.sames c b=X->c=b
 |[],b,a=>by grind [y.sames]|x::l,[],a=>by simp[y.sames]at a|x::l,B0::m,a=>by
  unfold y.sames at a;split at a
  .rename_i e;rw[y.same_eq e,y.sames_eq a]
  .cases a
end
def Obj.same:Obj->Option Obj->Bool
 |.box l,J (.box m)=>y.sames l m|.f9 a l,J (.f9 b m)=>Wm a b&&Au.samess l m|.rt a l,J (.rt b m)=>Wm a b&&Au.samess l m|_,_=>Z
theorem Obj.same_eq{a:Obj}{b:Option Obj}(h:Obj.same a b=X):b=J a:=by unfold Obj.same at h;grind [y.sames_eq,Nat.eq_of_beq_eq_true,Au.samess_eq]
def jn(a b:S):List u:=((a++b).filter λc=>match a.get c.1 with|some e=> !Obj.same e (b.get c.1)|none=>X).map (·.1)
theorem S.get_mem:∀{a:S} {b:u} {c:Obj},a.get b=J c->(b,c)∈a
 :=by intro e;induction e<;>grind [S.get,Id.is_eq]
theorem zK{c e:S}{a:u}(i:a∉jn c e):e.get a=c.get a:=by
 have key:∀b,(a,b)∈c++e->e.get a=c.get a:=λb j=>by
  have:¬(match c.get a with|some b=> !Obj.same b (e.get a)|none=>X)=true:=λh=>i (Ex.2 ⟨(a,b),Pu.2 ⟨j,h⟩,rfl⟩)
  grind [Obj.same_eq]
 cases f:c.get a with|some b=>rw[<-f];exact key b (Is _ (S.get_mem f))|none=>cases g:e.get a with|some b=>rw[<-f,<-g];exact key b (IN _ (S.get_mem g))|none=>rfl
def S.put:S->u->Obj->S
 |[],id,o=>[(id,o)]|(k,x)::h,id,o=>match AJ k id with|true=>(k,o)::h|false=>(k,x)::S.put h id o
def S.puts(a:S)(c:S):S:=c.foldl (λa b=>a.put b.1 b.2) a
inductive TK where
 |bool|int|str|func|ptr|iface|slice|map|other
 |flat (ks:List TK)
 |arr (n:Nat)
structure TI:=
 kind:TK
 size:Nat
 agg:Bool
 str:Bool
 zero:List y
 flds:List (Nat×Nat×Bool)
 elem:H5
 key:H5
 mix:Bool
inductive Mode where
 |auto|own|raw|ro
 deriving DecidableEq
def EW:Hk->y
 |.int k n=>.d (.int k n)|.bool b=>.d (.bool b)|.string s=>.d (.str s)|.slice I 0 0=>.d8|.pointer I=>.d .nilp|.nilFunc=>.d .nilf|.nilIface=>.d .wt|.map I=>.d .nilm|_=>.undef
def ev(e:Nat->y):M3->y
 |.tmp t=>e t|.const v=>EW v|.func f=>.fn f [] []|.global _=>.undef
def y.cells:y->List y
 |.agg a=>a|b=>[b]
def y.isCell:y->Bool
 |.agg _=>Z|.kw _=>Z|.undef=>Z|_=>X
def GY(agg:Bool)(a:List y):Option y:=if agg then J (.agg a)else match a with|[c]=>J c|_=>I
def Kd{e:Type}(a:List e)(c b:Nat):Option (List e):=if c+b<=(U a) then J ((a.drop c).take b)else I
def C0{c:Type}(a:List c)(b:Nat)(new:List c):Option (List c):=if b+U new<=(U a) then J (a.take b++new++a.drop (b+U new))else I
structure C3:=
 v:y
 δ:S:=[]
abbrev G:=u->Option Obj
def RM:Option Obj->Option (List (List y))
 |some (.f9 _ es)=>J (es.map (·.map .d))|some (.rt _ es)=>J (es.map (·.map .d))|some (.arr _ es)=>J es|_=>I
def Kk(i:G)(a:TI):y->Option y
 |.ptr g e=>match i g with|some (.box f)=>(Kd f e a.size).bind (GY a.agg)|_=>I
 |.rg g h e=>match i g with
  |some (.f9 _ es)=>match es[h]? with|some c=>(Kd c e a.size).bind λb=>GY a.agg (b.map .d)|none=>I
  |some (.rt _ es)=>match es[h]? with|some c=>(Kd c e a.size).bind λb=>GY a.agg (b.map .d)|none=>I
  |some (.arr _ es)=>match es[h]? with|some c=>(Kd c e a.size).bind (GY a.agg)|none=>I
  |_=>I
 |.iptr f=>(Kd f 0 a.size).bind λb=>GY a.agg (b.map .d)|_=>I
section force
variable{a:Type}
def Kv(n:Nat)(k:Nat->a):a:=match n with|0=>k 0|m+1=>k (Nat.succ m)
def xG(b:Bool)(k:Bool->a):a:=match b with|true=>k X|false=>k Z
def m7(n:Int)(k:Int->a):a:=match n with|.ofNat m=>Kv m λm=>k (.ofNat m)|.negSucc m=>Kv m λm=>k (.negSucc m)
def vm(x:IntKind)(k:IntKind->a):a:=match x with
 |.i8=>k .i8|.i16=>k .i16|.i32=>k .i32|.i64=>k .i64
 |.u8=>k .u8|.u16=>k .u16|.u32=>k .u32|.u64=>k .u64
def Sy(l:u)(k:u->a):a:=match l with|[]=>k []|n::l=>Kv n λn=>Sy l λl=>k (n::l)
def zb(i:Au)(b:Au->a):a:=match i with|.int e f=>vm e λe=>m7 f λf=>b (.int e f)|.bool c=>xG c λc=>b (.bool c)|.str h=>b (.str h)|.co g=>b (.co g)|.nilp=>b .nilp|.nilf=>b .nilf|.wt=>b .wt|.nilm=>b .nilm
def j4(l:List Au)(k:List Au->a):a:=match l with|[]=>k []|x::l=>zb x λx=>j4 l λl=>k (x::l)
def Ub(l:List (List Au))(k:List (List Au)->a):a:=match l with|[]=>k []|x::l=>j4 x λx=>Ub l λl=>k (x::l)
def mQ(c:Au)(e:Au->a):a:=match c with|.co b=>Ub b λb=>e (.co b)|c=>zb c e
def hX(j:y)(c:y->a):a:=match j with|.d k=>mQ k λk=>c (.d k)|.d8=>c .d8|.emp=>c .emp|.ii b e len=>Sy b λb=>Kv e λe=>Kv len λlen=>c (.ii b e len)|.ptr b e=>Sy b λb=>Kv e λe=>c (.ptr b e)|.rg b h e=>Sy b λb=>Kv h λh=>Kv e λe=>c (.rg b h e)|.iptr f=>j4 f λf=>c (.iptr f)|.fn g l m=>Kv g λg=>c (.fn g l m)|.yld b=>Sy b λb=>c (.yld b)|.mp b=>Sy b λb=>c (.mp b)|.iface i j=>Kv i λi=>c (.iface i j)|.agg f=>c (.agg f)|.kw n=>c (.kw n)|.undef=>c .undef
def Xv(l:List y)(k:List y->a):a:=match l with|[]=>k []|x::l=>hX x λx=>Xv l λl=>k (x::l)
def rn(b:y)(c:y->a):a:=match b with|.agg g=>Xv g λg=>c (.agg g)|.kw j=>Xv j λj=>c (.kw j)|.fn h e f=>Kv h λh=>Xv e λe=>Xv f λf=>c (.fn h e f)|.iface i b=>Kv i λi=>hX b λb=>c (.iface i b)|b=>hX b c
def Pg(l:List y)(k:List y->a):a:=match l with|[]=>k []|x::l=>rn x λx=>Pg l λl=>k (x::l)
def ku(b:y)(c:y->a):a:=match b with|.kw g=>Pg g λg=>c (.kw g)|.agg e=>Pg e λe=>c (.agg e)|.iface f b=>Kv f λf=>rn b λb=>c (.iface f b)|b=>rn b c
def wV(l:List (List y))(k:List (List y)->a):a:=match l with|[]=>k []|x::l=>Pg x λx=>wV l λl=>k (x::l)
def Sx(l:List (Au×y))(k:List (Au×y)->a):a:=match l with|[]=>k []|(x,v)::l=>zb x λx=>rn v λv=>Sx l λl=>k ((x,v)::l)
def ov(g:Obj)(e:Obj->a):a:=match g with|.box f=>Pg f λf=>e (.box f)|.f9 c b=>Kv c λc=>Ub b λb=>e (.f9 c b)|.rt c b=>Kv c λc=>Ub b λb=>e (.rt c b)|.arr c b=>Kv c λc=>wV b λb=>e (.arr c b)|.map b=>Sx b λb=>e (.map b)|.loop h=>e (.loop h)
def Xw(b:S)(f:S->a):a:=match b with|[]=>f []|(c,e)::b=>Sy c λc=>ov e λe=>Xw b λb=>f ((c,e)::b)
def Iy(h:S)(k:S->a):a:=match h with|[]=>k []|(id,o)::h=>Iy h λh=>k ((id,o)::h)
def lz(e:CN)(k:CN->a):a:=match e with|[]=>k []|(t,v)::e=>Kv t λt=>rn v λv=>lz e λe=>k ((t,v)::e)
def bD(e:CN)(k:CN->a):a:=match e with|[]=>k []|p::e=>k (p::e)
end force
def Fq(c:G):y->Option Au
 |.d f=>J f|.d8=>J (.co [])|.emp=>J (.co [])|.ii e b a=>match c e with|some (.f9 _ es)=>(Kd es b a).map .co|some (.rt _ es)=>(Kd es b a).map .co|_=>I
 |_=>I
def ER(a:G):List y->Option (List Au)
 |[]=>J []|v::vs=>match Fq a v,ER a vs with|some b,J c=>J (b::c)|_,_=>I
def EC(a:G):List (List y)->Option (List (List Au))
 |[]=>J []|v::vs=>match ER a v,EC a vs with|some b,J c=>J (b::c)|_,_=>I
def Ds(a:G):y->Option Au
 |.ii b e c=>match a b with
  |some (.arr _ es)=>match EC a es with|some f=>(Kd f e c).map .co|none=>I
  |_=>Fq a (.ii b e c)
 |g=>Fq a g
def Jc(a:G):List y->Option (List y)
 |[]=>J []|v::vs=>match Ds a v,Jc a vs with|some b,J c=>J (.d b::c)|_,_=>I
def FA(a:G):y->Option y
 |.agg b=>(Jc a b).map .agg|.fn f [] []=>J (.fn f [] [])|.iface c (.agg b)=>(Jc a b).map λg=>.iface c (.agg g)|.iface c e=>(Ds a e).map λh=>.iface c (.d h)|e=>(Ds a e).map .d
def Fa(a:G):List y->Option (List y)
 |[]=>J []|v::vs=>match FA a v,Fa a vs with|some b,J c=>J (b::c)|_,_=>I
def frz(a:G):y->Option y
 |.kw c=>(Fa a c).map .kw|b=>FA a b
def JF(b:G):y->S
 |.ii a _ _=>match b a with|some (.f9 sz es)=>[(a,.rt sz es)]|_=>[]
 |_=>[]
def Ca(g:G)(l:List y):S:=l.flatMap (JF g)
def Cj(a:G):y->S
 |.ii b f e=>match a b with
  |some (.f9 sz es)=>[(b,.rt sz es)]|some (.arr sz es)=>match EC a es with|some c=>(b,.rt sz c)::es.flatMap (Ca a)|none=>[]
  |_=>[]
 |_=>[]
def L6:y->List y
 |.agg a=>a|.iface _ (.agg a)=>a|.iface _ b=>[b]|b=>[b]
def mark(g:G)(v:y):S:=(L6 v).flatMap (Cj g)
def HI:Au->Bool
 |.co _=>Z|_=>X
def JA:List y->Bool
 |[]=>X|.d x::vs=>HI x&&JA vs|_=>Z
def flat:y->Bool
 |.d b=>HI b|.d8=>X|.emp=>X|.agg a=>JA a|.kw c=>JA c|.iface _ (.d b)=>HI b|.iface _ (.agg a)=>JA a|_=>Z
def Dc(c:y)(b:S):Option (u×Obj):=
 match c with
 |.ii a _ _=>match b.get a with|some (.f9 sz es)=>if es.all (·.all HI)then J (a,.f9 sz es)else I|_=>I
 |_=>I
def Td(a:u)(c:S):Bool:=c.all λb=> !AJ b.1 a
def Ke(c:G)(l:TI)(i b:y):Option C3:=
 match (U b.cells)==l.size&&b.cells.all y.isCell with|false=>I|true=>match i with
  |.ptr a f=>match c a with|some (.box cs)=>(C0 cs f b.cells).map λj=>⟨.undef,[(a,.box j)]⟩|_=>I
  |.rg a e f=>match c a with
   |some (.f9 sz es)=>match es[e]?,ER c b.cells,Td a (Ca c b.cells)with|some g,J k,X=>(C0 g f k).map λh=>⟨.undef,Ca c b.cells++[(a,.f9 sz (es.set e h))]⟩|_,_,_=>I
   |some (.arr sz es)=>match es[e]? with|some g=>(C0 g f b.cells).map λh=>⟨.undef,[(a,.arr sz (es.set e h))]⟩|none=>I
   |_=>I
  |_=>I
def Iq{b:Type}(a:Nat):Nat->List b->List (List b)
 |0,_=>[]|n+1,l=>l.take a::Iq a n (l.drop a)
def BO:Nat:=2 ^ 30
def newArr(f:G)(c:u)(b:TI)(a:List (List y)):Option C3:=match a.all (λe=>U e==b.size&&e.all y.isCell)&&Nat.blt 0 b.size&&W0 (U a) BO with|false=>I|true=>match b.mix with|true=>J ⟨.ii (1::c) 0 (U a),[(1::c,.arr b.size a)]⟩|false=>match EC f a with|some g=>J ⟨.ii (1::c) 0 (U a),a.flatMap (Ca f)++[(1::c,.f9 b.size g)]⟩|none=>I
def Cx(b:G):y->Option (List (List y))
 |.d (.co a)=>J (a.map (·.map .d))|.d8=>J []|.emp=>J []|.ii c f e=>(RM (b c)).bind λa=>Kd a f e|_=>I
def appIn(c:G)(i:u)(e:u)(g b j:Nat)(h:List (List Au))(f:List (List y)):Option C3:=
 match EC c f,Td e (f.flatMap (Ca c))with
 |some a,X=>match C0 h (g+b) a with|some k=>J ⟨.ii e g (b+U a),f.flatMap (Ca c)++[(e,.f9 j k)]⟩|none=>match Wm g 0&&W0 (b+U a) BO with|true=>J ⟨.ii (1::i) 0 (b+U a),f.flatMap (Ca c)++[(e,.rt 0 []),(1::i,.f9 j (h.take b++a))]⟩|false=>I
 |_,_=>I
def appMix(g:u)(c:u)(e a h:Nat)(f:List (List y))(b:List (List y)):Option C3:=match C0 f (e+a) b with|some i=>J ⟨.ii c e (a+U b),[(c,.arr h i)]⟩|none=>match Wm e 0&&W0 (a+U b) BO with|true=>J ⟨.ii (1::g) 0 (a+U b),[(c,.rt 0 []),(1::g,.arr h (f.take a++b))]⟩|false=>I
def appTo(a:G)(e:u)(b:TI)(i:y)(g:List (List y)):Option C3:=
 match i with
 |.d8=>newArr a e b g|.emp=>newArr a e b g|.ii h f c=>match a h with
  |some (.f9 sz es)=>match Wm sz b.size&&W0 (f+c) (U es) with|true=>appIn a e h f c sz es g|false=>I
  |some (.arr sz es)=>match Wm sz b.size&&W0 (f+c) (U es) with|true=>appMix e h f c sz es g|false=>I
  |_=>I
 |_=>I
def appendV(e:G)(i:u)(a:TI)(f k:y):Option C3:=
 match Cx e k with
 |none=>I|some []=>match f with|.d8=>J ⟨.d8,[]⟩|.emp=>J ⟨.emp,[]⟩|.ii g j h=>J ⟨.ii g j h,[]⟩|_=>I
 |some b=>match b.all (λc=>U c==a.size&&c.all y.isCell)&&W0 (U b) BO&&Nat.blt 0 a.size with|true=>appTo e i a f b|false=>I
def GP(op:BinOp)(k:IntKind)(a b:Int):Option y:=match op with|.add=>J (.d (.int k (k.wrap (a+b))))|.sub=>J (.d (.int k (k.wrap (a-b))))|.mul=>J (.d (.int k (k.wrap (a*b))))|.eql=>J (.d (.bool (a==b)))|.neq=>J (.d (.bool (a !=b)))|.lss=>J (.d (.bool (decide (a<b))))|.leq=>J (.d (.bool (decide (a<=b))))|.gtr=>J (.d (.bool (decide (b<a))))|.geq=>J (.d (.bool (decide (b<=a))))|.rem=>if b=0 then I else J (.d (.int k (a.tmod b)))|.quo=>if b=0 then I else J (.d (.int k (k.wrap (a.tdiv b))))|.and=>J (.d (.int k (k.wrap ((BitVec.ofInt k.bits a&&&BitVec.ofInt k.bits b).toNat:Nat))))|.shr=>if b<0 then I else J (.d (.int k (a.fdiv (2 ^ min b.toNat k.bits))))|_=>I
def Mn:TK->y->y->Option Bool
 |.int,.d (.int k a),.d (.int k' b)=>if k=k' then J (a==b)else I|.bool,.d (.bool a),.d (.bool b)=>J (a==b)|.str,.d (.str a),.d (.str b)=>J (a==b)|_,_,_=>I
def Ik:List TK->List y->List y->Option Bool
 |[],[],[]=>J X|t::ts,x::xs,B0::ys=>match Mn t x B0,Ik ts xs ys with|some a,J b=>J (a&&b)|_,_=>I
 |_,_,_=>I
def PT:TK->y->y->Option Bool
 |.flat f,.agg c,.agg e=>Ik f c e|.func,.fn ..,.d .nilf=>J Z|.func,.d .nilf,.d .nilf=>J X|.ptr,.ptr ..,.d .nilp=>J Z|.ptr,.d .nilp,.d .nilp=>J X|.iface,.iface ..,.d .wt=>J Z|.slice,.d (.co (_::_)),.d8=>J Z|.slice,.ii _ _ (_+1),.d8=>J Z|.slice,.d8,.d8=>J X|.bool,a,b=>Mn .bool a b|.str,a,b=>Mn .str a b|_,_,_=>I
def AV(op:BinOp)(a b:ByteArray):Option y:=match op with|.lss=>J (.d (.bool (Op.bytesLess a.toList b.toList)))|.leq=>J (.d (.bool (Op.bytesLess a.toList b.toList||a.toList==b.toList)))|.gtr=>J (.d (.bool (!(Op.bytesLess a.toList b.toList||a.toList==b.toList))))|.geq=>J (.d (.bool (!Op.bytesLess a.toList b.toList)))|_=>I
def vy(op:BinOp):y->y->Option y
 |.d (.str a),.d (.str b)=>AV op a b|_,_=>I
def PX(op:BinOp)(x B0:y)(t:Option TI):Option y:=
 match x,B0 with|.d (.int k a),.d (.int k' b)=>if k=k' then GP op k a b else I|x,B0=>match t with
  |some i=>match op,PT i.kind x B0 with|.eql,J b=>J (.d (.bool b))|.neq,J b=>J (.d (.bool (!b)))|_,_=>vy op x B0
  |none=>I
def AO:M3->Bool
 |.const _=>X|_=>Z
def iA(c:Bool)(op:BinOp):y->y->Option TI->Option y
 |.d .wt,.d .wt,J i=>match c,i.kind,op with|true,.iface,.eql=>J (.d (.bool X))|true,.iface,.neq=>J (.d (.bool Z))|_,_,_=>I
 |_,_,_=>I
def kt:Option y->Option y->Option y
 |some v,_=>J v|none,r=>r
def lq(c:Bool)(op:BinOp)(x B0:y)(t:Option TI):Option y:=kt (PX op x B0 t) (iA c op x B0 t)
def JY(a:G):TK->y->Option Nat
 |.slice,.d (.co es)=>J (U es)|.str,.d (.str s)=>J s.size|.slice,.d8=>J 0|.slice,.emp=>J 0|.slice,.ii _ _ c=>J c|.map,.mp b=>match a b with|some (.map es)=>J (U es)|_=>I
 |_,_=>I
def EB:(place:Nat->Option (Nat×Nat))->List y->List (Nat×y)->Option (List y)
 |_,cs,[]=>J cs|pl,cs,(i,v)::ps=>match pl i with|some (off,size)=>if (U v.cells)=size/\v.cells.all y.isCell then(C0 cs off v.cells).bind λa=>EB pl a ps else I|none=>I
def Kb:y->Option Int
 |.d (.int _ n)=>J n|_=>I
def Jg:Option y->Int->Option Int
 |none,d=>J d|some v,_=>Kb v
def Fu(f e g:Option y)(h:Nat):Option (Nat×Nat×Option Nat):=
 match Jg f 0,Jg e h with
 |some a,J b=>match g with|none=>if 0<=a/\a<=b then J (a.toNat,b.toNat,I)else I|some c=>match e,Kb c with|some _,J c=>if 0<=a/\a<=b/\b<=c then J (a.toNat,b.toNat,J c.toNat)else I|_,_=>I
 |_,_=>I
def Qh(b:Nat)(a:List (List Au)):Bool:=match a with|[]=>X|e::_=>Wm (U e) b
def ZJ(c:Nat)(a:List (List Au)):Option (Nat×Nat×Option Nat)->Option y
 |some (l,r,b)=>match W0 r (U a)&&Qh c a with
  |true=>match b with|none=>J (.d (.co ((a.drop l).take (r-l))))|some b=>match Wm b l with|true=>J .emp|false=>I
  |false=>I
 |none=>I
def ee(i:Nat)(g:u)(e b f:Nat)(a:Option Nat)(h c:Nat):Option y:=
 match Wm h i&&W0 (e+a.getD f) c&&W0 (e+f) c&&Nat.blt 0 c with
 |true=>match a with|none=>J (.ii g (e+b) (f-b))|some a=>match Wm a b with|true=>J .emp|false=>J .undef
 |false=>I
def Oh(e:G)(c:Nat)(a:u)(b:Nat):Option (Nat×Nat×Option Nat)->Option y
 |some (l,r,m)=>match e a with|some (.f9 s es)=>ee c a b l r m s (U es)|some (.rt s es)=>ee c a b l r m s (U es)|some (.arr s es)=>ee c a b l r m s (U es)|_=>I
 |none=>I
def pX:Option (Nat×Nat×Option Nat)->Option y
 |some (0,0,I)=>J .d8|some (0,0,J 0)=>J .emp|_=>I
def zd(s:ByteArray):Option (Nat×Nat×Option Nat)->Option y
 |some (l,r,I)=>if r<=s.size then J (.d (.str (s.extract l r)))else I|_=>I
def GR(f:G)(h:TK)(e:Nat)(k:y)(b a c:Option y):Option y:=match h,k with|.slice,.d (.co es)=>ZJ e es (Fu b a c (U es))|.slice,.ii g j i=>Oh f e g j (Fu b a c i)|.slice,.d8=>pX (Fu b a c 0)|.str,.d (.str s)=>zd s (Fu b a c s.size)|_,_=>I
def Ix(b:Nat->y)(c:Array (Nat×M3)):List (Nat×y):=c.toList.map λa=>(a.1,ev b a.2)
def Et:Au->Au->Option Bool
 |.int c a,.int e b=>if c=e then J (a==b)else I|.str a,.str b=>J (a==b)|.bool a,.bool b=>J (a==b)|_,_=>I
def Bs:List (Au×y)->Au->Option (Option y)
 |[],_=>J I|(k,v)::es,x=>match Et k x with|some X=>J (J v)|some Z=>Bs es x|none=>I
def CW:List (Au×y)->Au->y->List (Au×y)
 |[],x,v=>[(x,v)]|(k,w)::es,x,v=>match Et k x with|some X=>(k,v)::es|_=>(k,w)::CW es x v
def RP:y->Option Au
 |.d x=>J x|_=>I
def Kj:TK->Au->Bool
 |.int,.int ..=>X|.str,.str _=>X|.bool,.bool _=>X|_,_=>Z
def y.inMap:y->Bool
 |.agg _=>X|v=>v.isCell
def mapPut(g:H5->Option TI)(h:G)(k:Option TI)(j e f:y):Option C3:=
 match(match k,RP e with
  |some b,J a=>match b.kind,g b.key with|.map,J i=>Kj i.kind a&&f.inMap|_,_=>Z
  |_,_=>Z)with
 |false=>I|true=>match j,RP e with
 |.mp c,J a=>match h c with
  |some (.map es)=>match Bs es a with|some _=>J ⟨.undef,[(c,.map (CW es a f))]⟩|none=>I
  |_=>I
 |_,_=>I
section ops
variable(T:H5->Option TI)(e:Nat->y)(g:G)(a:u)
def Ys(c a b:y):Option C3:=match c with|.d (.bool t)=>J ⟨match t with|true=>a|false=>b,[]⟩|_=>I
def Qx:Option TI->Option C3
 |some i=>if (U i.zero)=i.size/\i.zero.all y.isCell then J ⟨.ptr (0::a) 0,[(0::a,.box i.zero)]⟩else I|none=>I
def cQ(x:y):Option TI->Option C3
 |some i=>if (U x.cells)=i.size/\x.cells.all y.isCell then J ⟨.ptr (0::a) 0,[(0::a,.box x.cells)]⟩else I|none=>I
def Qy(f:List (Nat×y)):Option TI->Option C3
 |some a=>match a.str&&(U a.zero)==a.size with|false=>I|true=>(EB (λe=>(a.flds[e]?).map λb=>(b.1,b.2.1)) a.zero f).map λc=>⟨.agg c,[]⟩
 |none=>I
def Ih(c:Nat)(h:List (Nat×y))(b:TI):Option C3:=
 match EB (λf=>J (f*b.size,b.size)) ((TL c b.zero).flatten) h with
 |some e=>match c with|0=>J ⟨.emp,[]⟩|c=>match W0 (c*b.size) (2 ^ 24)&&(U b.zero)==b.size with|true=>newArr g a b (Iq b.size c e)|false=>I
 |none=>I
def Eb(e:Nat)(f:List (Nat×y)):Option TI->Option C3
 |some b=>match b.kind,T b.elem with|.slice,J c=>Ih g a e f c|_,_=>I
 |none=>I
def P7(a:y):Option TI->Option C3
 |some i=>(Kk g i a).map (⟨·,[]⟩)|none=>I
def Mf(a x:y):Option TI->Option C3
 |some i=>Ke g i a x|none=>I
def L3:y->Option C3
 |.ptr a b=>J ⟨.ptr a b,[]⟩|.rg a e b=>J ⟨.rg a e b,[]⟩|.iptr c=>J ⟨.iptr c,[]⟩|_=>I
def xO:y->Option C3
 |.d (.bool b)=>J ⟨.d (.bool (!b)),[]⟩|_=>I
def Lz(b:H5):y->Option TI->Option C3
 |.iface c e,J a=>match a.kind with|.iface=>I|_=>if c=b then J ⟨.kw [e,.d (.bool X)],[]⟩else(GY a.agg a.zero).map λf=>⟨.kw [f,.d (.bool Z)],[]⟩
 |_,_=>I
def Lu(ok:Bool)(r:Option y)(j:TI):Option C3:=match r,GY j.agg j.zero with|some v,_=>J ⟨match ok with|true=>.kw [v,.d (.bool X)]|false=>v,[]⟩|none,J A6=>J ⟨match ok with|true=>.kw [A6,.d (.bool Z)]|false=>A6,[]⟩|_,_=>I
def HX(i f:y)(ok:Bool):Option TI->Option C3
 |some a=>match i,RP f,a.kind,T a.key with
  |.mp c,J b,.map,J h=>match Kj h.kind b,g c with
   |true,J (.map es)=>match Bs es b,T a.elem with|some j,J e=>Lu ok j e|_,_=>I
   |_,_=>I
  |_,_,_,_=>I
 |none=>I
def GX(n:Nat)(j:TI):Option C3:=match n with|0=>J ⟨.emp,[]⟩|n=>newArr g a j (TL n j.zero)
def Eg(l c:y):Option TI->Option C3
 |some i=>match i.kind,T i.elem,l,c with|.slice,J j,.d (.int _ n),.d (.int _ m)=>if 0<=n/\n=m/\n<=BO then GX g a n.toNat j else I|_,_,_,_=>I
 |none=>I
def IE(g:Nat)(i:y):Option TI->Option C3
 |some f=>match f.flds[g]? with
  |some a=>match a.2.1 with|0=>I|_=>match i with|.ptr b c=>J ⟨.ptr b (c+a.1),[]⟩|.rg b h c=>J ⟨.rg b h (c+a.1),[]⟩|.iptr e=>if a.1<=(U e) then J ⟨.iptr (e.drop a.1),[]⟩else I|_=>I
  |none=>I
 |none=>I
def Qz(e:Nat)(f:y):Option TI->Option C3
 |some c=>match c.flds[e]?,f with|some a,.agg b=>((Kd b a.1 a.2.1).bind (GY a.2.2)).map (⟨·,[]⟩)|_,_=>I
 |none=>I
def RV(a:Int)(h:y)(e:TI):Option C3:=
 if 0<=a then match h with
  |.d (.co es)=>match es[a.toNat]? with
   |some f=>match Wm (U f) e.size with|true=>J ⟨.iptr f,[]⟩|false=>I
   |none=>I
  |.ii c b len=>if a.toNat<len then match g c with|some (.f9 sz es)=>if sz=e.size/\b+a.toNat<U es then J ⟨.rg c (b+a.toNat) 0,[]⟩else I|some (.rt sz es)=>if sz=e.size/\b+a.toNat<U es then J ⟨.rg c (b+a.toNat) 0,[]⟩else I|some (.arr sz es)=>if sz=e.size/\b+a.toNat<U es then J ⟨.rg c (b+a.toNat) 0,[]⟩else I|_=>I
   else I
  |_=>I
 else I
def v8(a:Int)(e:Nat)(c:TI):y->Option C3
 |.ptr b f=>if 0<=a/\a.toNat<e then J ⟨.ptr b (f+a.toNat*c.size),[]⟩else I|_=>I
def FL(x i:y):Option TI->Option C3
 |some t=>match i,t.kind,T t.elem with|.d (.int _ n),.slice,J j=>RV g n x j|.d (.int _ n),.arr m,J j=>v8 n m j x|_,_,_=>I
 |none=>I
def Q1(x i:y)(t:Option TI):Option C3:=match t.map TI.kind,x,i with|some .str,.d (.str s),.d (.int _ n)=>if 0<=n then(s.data.toList[n.toNat]?).map λb=>⟨.d (.int .u8 b.toNat),[]⟩else I|_,_,_=>I
def NY(a:Nat)(c:y):Option C3:=match c with|.kw b=>(b[a]?).map (⟨·,[]⟩)|_=>I
def KE(t Bn:Option TI)(s x:y):Option C3:=
 match t,Bn with
 |some i,J Bn=>match i.kind,Bn.kind,T i.elem with|.slice,.slice,J j=>appendV g a j s x|_,_,_=>I
 |_,_=>I
def Qe(b:u)(h f:Nat)(a:TI):Option C3:=
 match g b with
 |some (.f9 sz es)=>match ER (λ_=>I) a.zero with|some c=>if (U c)=sz/\(U a.zero)=a.size/\a.zero.all y.isCell/\0<sz then(C0 es h (TL f c)).map λe=>⟨.undef,[(b,.f9 sz e)]⟩else I|none=>I
 |_=>I
def Me(h:Option TI)(i:y):Option C3:=
 match h with
 |some b=>match b.kind,i with
  |.slice,.ii c f a=>match a with|0=>J ⟨.undef,[]⟩|a=>match T b.elem with|some e=>Qe g c f a e|none=>I
  |.slice,.d8=>J ⟨.undef,[]⟩|.slice,.emp=>J ⟨.undef,[]⟩|_,_=>I
 |none=>I
def ak:List y->Option (List Au)
 |[]=>J []|.d x::l=>match ak l with|some m=>J (x::m)|none=>I
 |_::_=>I
def Xh:List (List y)->Option (List (List Au))
 |[]=>J []|e::l=>match ak e,Xh l with|some x,J m=>J (x::m)|_,_=>I
def Jy(a:Nat)(b:y):Option (List (List y)):=match b with|.ii e f len=>Cx g (.ii e f (min len a))|b=>match Cx g b with
  |some c=>match a with|0=>J []|a+1=>if (U c)<=a+1 then J c else I
  |none=>I
def UX(a:u)(f:Nat)(c:TI)(h:List (List y)):Option C3:=match g a,Xh h with|some (.f9 sz es),J ds=>if (sz=c.size/\0<U ds)/\∀e∈ds,U e=sz then(C0 es f ds).map λb=>⟨.d (.int .i64 (U ds:Nat)),[(a,.f9 sz b)]⟩else I|_,_=>I
def JK(k:Option TI)(i b:y):Option C3:=match k with
 |some a=>match a.kind,T a.elem,i with
  |.slice,J e,.ii c h f=>match Jy g f b with|some j=>UX g c h e j|none=>I
  |.slice,J _,.emp=>match Jy g 0 b with|some []=>J ⟨.d (.int .i64 0),[]⟩|_=>I
  |_,_,_=>I
 |none=>I
def ny(x B0:y):Option C3:=match x,B0 with|.d (.int k a),.d (.int k' b)=>if k=k' then J ⟨.d (.int k (if b>a then b else a)),[]⟩else I|_,_=>I
def nz(x B0:y):Option C3:=match x,B0 with|.d (.int k a),.d (.int k' b)=>if k=k' then J ⟨.d (.int k (if b<a then b else a)),[]⟩else I|_,_=>I
def LN(c:Builtin)(as:List y)(b:List H5):Option C3:=
 match c with
 |.len=>match as with
  |[x]=>match b with
   |[t]=>match T t with|some e=>(JY g e.kind x).map λ(f:Nat)=>⟨.d (.int .i64 (f:Int)),[]⟩|none=>I
   |_=>I
  |_=>I
 |.append=>match as,b with|[s,x],[t,Bn]=>KE T g a (T t) (T Bn) s x|_,_=>I
 |.clear=>match as,b with|[x],[t]=>Me T g (T t) x|_,_=>I
 |.copy=>match as,b with|[s,x],t::_=>JK T g (T t) s x|_,_=>I
 |.max=>match as with|[x,B0]=>ny x B0|_=>I
 |.min=>match as with|[x,B0]=>nz x B0|_=>I
 |_=>I
def OZ(c:Call):Option C3:=match c.callee with|.builtin b=>LN T g a b (c.args.toList.map (ev e)) c.argTypes.toList|_=>I
def hD(op:UnOp)(x:y):Option C3:=match op with|.not=>xO x|_=>I
def uX:IntKind->Nat
 |.i64=>0|.i8=>1|.i16=>2|.i32=>3|.u8=>4|.u16=>5|.u32=>6|.u64=>7
def lD:Nat->IntKind
 |0=>.i64|1=>.i8|2=>.i16|3=>.i32|4=>.u8|5=>.u16|6=>.u32|_=>.u64
def NX(x:y):Option TI->Option TI->Option C3
 |some _,J j=>match j.kind,x with|.int,.d (.int _ n)=>J ⟨.d (.int (lD j.key) ((lD j.key).wrap n)),[]⟩|_,_=>I
 |_,_=>I
def L1(f:Fn)(a b:List y):Option C3:=match f with|.func f=>J ⟨.fn f a b,[]⟩|_=>I
def LO:Option M3->Option C3
 |none=>J ⟨.mp (1::a),[(1::a,.map [])]⟩|some _=>I
def Q0(t:H5)(x:y):Option TI->Option C3
 |some i=>match i.kind with|.iface=>I|_=>J ⟨.iface t x,[]⟩
 |none=>I
def K6(f:y)(c a e:Option y):Option TI->Option C3
 |some b=>match b.kind,T b.elem with|.slice,J h=>(GR g .slice h.size f c a e).map (⟨·,[]⟩)|.str,_=>(GR g .str 0 f c a e).map (⟨·,[]⟩)|_,_=>I
 |none=>I
def evalOp(w:Op):Option C3:=
 match w with
 |.move c=>J ⟨ev e c,[]⟩|.assign c=>J ⟨ev e c,[]⟩|.pick i h o=>Ys (ev e i) (ev e h) (ev e o)|.alloc b=>Qx a (T b)|.box b c=>cQ a (ev e c) (T b)|.build b l=>Qy (Ix e l) (T b)|.buildSlice b v l=>Eb T g a v (Ix e l) (T b)|.load b h=>P7 g (ev e h) (T b)|.store b h c=>Mf g (ev e h) (ev e c) (T b)|.nilCheck c=>L3 (ev e c)|.binOp op b c n _=>(lq (AO c||AO n) op (ev e c) (ev e n) (T b)).map (⟨·,[]⟩)|.unOp op _ c=>hD op (ev e c)|.convert A b c=>NX (ev e c) (T A) (T b)|.makeInterface b c=>Q0 b (ev e c) (T b)|.typeAssert c _ b ok=>match ok with|true=>Lz b (ev e c) (T b)|false=>I
 |.makeFunc p first cap=>L1 p (first.toList.map (ev e)) (cap.toList.map (ev e))|.makeMap _ x=>LO a x|.insert b j f m=>mapPut T g (T b) (ev e j) (ev e f) (ev e m)|.mapUpdate b j f m=>mapPut T g (T b) (ev e j) (ev e f) (ev e m)|.lookup b j f ok=>HX T g (ev e j) (ev e f) ok (T b)|.makeSlice b r i=>Eg T g a (ev e r) (ev e i) (T b)|.slice b c s q t=>K6 T g (ev e c) (s.map (ev e)) (q.map (ev e)) (t.map (ev e)) (T b)|.fieldAddr b c f=>IE f (ev e c) (T b)|.field b c f=>Qz f (ev e c) (T b)|.indexAddr b c k=>FL T g (ev e c) (ev e k) (T b)|.index b c k=>Q1 (ev e c) (ev e k) (T b)|.extract c f=>NY f (ev e c)|.call i=>OZ T e g a i|_=>I
end ops
structure Fr:=
 f:KH
 π:u
 raw:Bool
 ci:Option u
 rnd:Bool:=Z
 nt:Nat
inductive Df where
 |mark (id:u)
 |call (f:KH) (args:List y)
structure St:=
 env:CN
 heap:S
 base:Nat
 defs:List Df
inductive gX where
 |fn (f:KH)
 |round (id:u) (r:Lp)
inductive BC where
 |ret (v:y)
 |of (v:y)
inductive E(α:Type) where
 |ok (x:α)
 |err (l:u)
abbrev Af:=gX->List y->S->u->Bool->Option u->E (BC×S)
structure Fp:=
 rd:Option (List u):=J []
 wr:Option (List u):=J []
 ext:Bool:=Z
inductive RE where
 |ok (st:St) (fp:Fp)
 |of (v:y) (st:St)
 |err (l:u)
inductive DZ where
 |normal
 |exit (id:Nat)
 |ret
 |of (v:y)
structure tl:=
 ok:Array H0->Bool->L2->Bool
 act:Fr->St->E (DZ×St)
structure C7:=
 T:H5->Option TI
 mode:KH->Mode
 live:KH->Nat->u
 ge:KH->Nat->List (Nat×Nat)
 alone:KH->Nat->Nat->Bool
 caught:KH->Option H5
 meth:H5->String->Option KH
 qr:KH->Bool
 spec:KH->Nat->Option tl
mutual
def AE:y->List u
 |.ii a _ _=>[a]|.ptr a _=>[a]|.rg a _ _=>[a]|.yld a=>[a]|.mp a=>[a]|.iface _ f=>AE f|.agg e=>Ab e|.kw g=>Ab g|.fn _ b c=>Ab b++Ab c|_=>[]
def Ab:List y->List u
 |[]=>[]|v::vs=>AE v++Ab vs
end
def BA(b:G)(a:List u):List u:=a++a.flatMap λc=>match b c with|some (.arr _ es)=>es.flatMap Ab|_=>[]
def L0(e:Nat->y)(op:Op):List u:=op.operands.toList.flatMap λB0=>AE (ev e B0)
def Zw(e:Nat->y)(g:G)(op:Op):List u:=match op with
 |.load ..=>L0 e op|.store ..=>L0 e op|.buildSlice ..=>L0 e op|.insert ..=>L0 e op|.mapUpdate ..=>L0 e op|.lookup ..=>L0 e op|.slice ..=>L0 e op|.indexAddr ..=>L0 e op|.call c=>match c.callee with|.builtin .len=>L0 e op|.builtin .clear=>L0 e op|.builtin .copy=>L0 e op|.builtin .append=>BA g (L0 e op)|_=>[]
 |_=>[]
def Jv(a:Option u)(c:S):Bool:=match a with|none=>X|some e=>c.all λb=>AD e b.1
def Dj(a:CN)(b:Option M5)(e:y):CN:=match b with|some c=>(c,e)::a|none=>a
def j5{e:Type}(b a:S)(c:S->e):e:=match a with|[]=>c b|a=>Iy (b.puts a) c
def gc(c:u)(a:S):S:=a.filter λb=>match b.1 with|0::l=> !AD c l|_=>X
def S7(a:u):y->u
 |.fn _ _ (_::_)=>0::0::a|_=>a
def FW(c:u)(e:Option M5)(b:St):E (BC×S)->RE
 |.ok (.ret v,h)=>bD (Dj b.env e v) λenv=>Iy (gc (S7 c v) h) λa=>.ok {b with env,heap:=a} ⟨I,J (jn b.heap a),Z⟩|.ok (.of v,h)=>Iy (gc c h) λa=>.of v {b with heap:=a}|.err f=>.err f
def K8(g:Fr)(as:List y)(h:y)(b:S)(a:St)(env:CN):RE:=
 match Dc h b with
 |some f=>Iy (f::a.heap) λc=>.ok {a with env,heap:=c} ⟨J (BA a.heap.get (Ab as)),J [f.1],Z⟩
 |none=>
  Xw (as.flatMap (mark a.heap.get)) λe=>
  match Jv g.ci e with|true=>Iy (b++a.heap.puts e) λc=>.ok {a with env,heap:=c} ⟨J (BA a.heap.get (Ab as)),J (e.map (·.1)++b.map (·.1)),Z⟩|false=>.err [2]
def E4(c:Fr)(as:List y)(b:Option M5)(a:St):E (BC×S)->RE
 |.ok (.ret v,h)=>bD (Dj a.env b v) λenv=>match flat v with|true=>.ok {a with env} ⟨J (BA a.heap.get (Ab as)),J [],Z⟩|false=>K8 c as v h a env
 |.ok (.of v,_)=>match flat v with|true=>.of v a|false=>.err [3]
 |.err e=>.err e
def Tk(b:Option M5)(a:St):E (BC×S)->RE
 |.ok (.ret v,_)=>match flat v with|true=>bD (Dj a.env b v) λenv=>.ok {a with env} ⟨I,J [],X⟩|false=>.err [4]
 |.ok (.of v,_)=>match flat v with|true=>.of v a|false=>.err [3]
 |.err c=>.err c
def QP(g:G)(as:List y):List y:=as.map λv=>(FA g v).getD v
def Gk(K:Af)(h:Fr)(b:u)(g:KH)(as:List y)(f:Option M5)(a:St)(j:Mode):RE:=
 Pg (QP a.heap.get as) λi=>
 Xw (as.flatMap (mark a.heap.get)) λe=>
 match j with
 |.ro=>Iy (a.heap.puts e) λc=>Tk f a (K (.fn g) i c b X (J b))
 |_=>match Jv h.ci e with|true=>Iy (a.heap.puts e) λc=>FW b f a (K (.fn g) i c b X h.ci)|false=>.err [2]
def Er(K:Af)(g:Fr)(c:u)(f:KH)(as:List y)(e:Option M5)(a:St)(b:Mode):RE:=match b with|.raw=>FW c e a (K (.fn f) as a.heap c X g.ci)|b=>match Fa a.heap.get as with|some h=>Pg h λh=>E4 g as e a (K (.fn f) h [] (match b with|.own=>c|_=>[]) Z I)|none=>Gk K g c f as e a b
def MO(K:Af)(f:Fr)(c:u)(b:u)(as:List y)(e:Option M5)(a:St):RE:=match a.heap.get b with|some (.loop r)=>FW c e a (K (.round b r) as a.heap c X f.ci)|_=>.err [1]
def FV(g:C7)(K:Af)(c:Fr)(f:u)(h:y)(args:List y)(a:Option M5)(e:St):RE:=match h with|.yld i=>MO K c f i args a e|.fn b first cap=>Pg (first++args++cap) λas=>Er K c f b as a e (g.mode b)|_=>.err [5]
def HT(a:C7)(K:Af)(e:Fr)(k:u)(g:y)(f:String)(args:List y)(b:Option M5)(h:St):RE:=
 match g with
 |.iface i j=>match a.meth i f with|some c=>FV a K e k (.fn c [j] []) args b h|none=>.err [7]
 |_=>.err [8]
def Hg(b:St)(a:y):RE:=match flat a with
 |true=>match a with|.iface c e=>.of (.iface c e) b|_=>.err [9]
 |false=>.err [9]
def Jz(h:Fr)(c:Nat->y)(b:Call)(e:Option M5)(a:St):RE:=match b.callee with
 |.value f=>match ev c f,h.rnd with|.fn g [] [],Z=>.ok {a with env:=Dj a.env e .undef,defs:=.call g (b.args.toList.map (ev c))::a.defs} ⟨I,I,Z⟩|_,_=>.err [10]
 |_=>.err [10]
def EA(f:Fr)(op:Op)(e:Option M5)(a:St):Option C3->RE
 |some c=>ku c.v λh=>Xw c.δ λb=>match Jv f.ci b with
  |true=>bD (Dj a.env e h) λenv=>j5 a.heap b λg=>
   .ok {a with env,heap:=g} ⟨J (Zw a.env.get a.heap.get op),J (b.map (·.1)),Z⟩
  |false=>.err [11]
 |none=>.err [12]
def JX(f:C7)(K:Af)(e:Fr)(g:u)(op:Op)(c:Option M5)(a:St):RE:=
 match op with
 |.call b=>match b.callee with|.value h=>FV f K e g (ev a.env.get h) (b.args.toList.map (ev a.env.get)) c a|.invoke j i=>HT f K e g (ev a.env.get j) i (b.args.toList.map (ev a.env.get)) c a|.builtin _=>EA e op c a (OZ f.T a.env.get a.heap.get g b)
 |.panic k=>Hg a (ev a.env.get k)|.defer b=>Jz e a.env.get b c a|op=>EA e op c a (evalOp f.T a.env.get a.heap.get g op)
def OE(e:Array H0)(a:CN)(c:H0):Option Bool:=match c.guard with|none=>J X|some (j,want)=>match((e[j]?).bind (·.dst)).map a.get with|some (.d (.bool b))=>J (b==want)|some (.kw [])=>J Z|_=>I
def DP(c:C7)(K:Af)(e:Fr)(f:Array H0)(g:u)(a:H0)(b:St):RE:=match OE f b.env a with|none=>.err [6]|some Z=>bD (Dj b.env a.dst (.kw [])) λenv=>.ok {b with env} {}|some X=>JX c K e g a.op a.dst b
def Xc(a:Fp):E ((Option y×St)×List Fp)->E ((Option y×St)×List Fp)
 |.ok (r,fps)=>.ok (r,a::fps)|.err b=>.err b
def Du(f:C7)(K:Af)(c:Fr)(h:Array H0)(g:Nat)(alone:Nat->Bool):List H0->Nat->St->E ((Option y×St)×List Fp)
 |[],_,st=>.ok ((I,st),[])|o::e,a,st=>Kv (g+a) λj=>match DP f K c h (j::c.π) o st with
  |.ok b i=>Xc i (Du f K c h g alone e (a+1) b)|.of k b=>match alone a with|true=>.ok ((J k,b),[])|false=>.err [13,a]
  |.err e=>.err (a::e)
def apart(a b:Option (List u)):Bool:=match a,b with|some [],_=>X|_,J []=>X|some l,J m=>l.all λx=> !m.contains x|_,_=>Z
def Fp.apart(a b:Fp):Bool:=Abs.apart a.wr b.rd&&Abs.apart a.rd b.wr&&Abs.apart a.wr b.wr
def jE(b:u):Option (List u)->Bool
 |some a=>a.all (AD b)|none=>Z
def kQ:Option (List u)->Bool
 |some []=>X|_=>Z
def Xu(i:u)(c:Nat)(f:List Fp)(g h:Nat)(a b:Fp):Bool:=a.ext&&(a.rd.isNone&&(jE ((c+h)::i) b.wr&&(kQ a.wr&&(f.take g).all λe=>Abs.apart e.wr b.wr)))
def E3(h:u)(f:Nat)(a:List Fp)(g:List (Nat×Nat)):Bool:=
 g.all λ(b,j)=>match a[b]?,a[j]? with
  |some c,J e=>c.apart e||Xu h f a b j c e
  |_,_=>X
def PK(a:List u)(b:u):List u:=match a.any (AJ b)with|true=>a|false=>a++[b]
def Gi(l:List u)(new:List u):List u:=new.foldl PK l
def Cl:Option Obj->List u
 |some (.box cs)=>Ab cs|some (.arr _ es)=>es.flatMap Ab|some (.map es)=>es.flatMap λp=>AE p.2|some (.loop r)=>r.env.flatMap λp=>AE p.2|_=>[]
def C9(b:S):Nat->List u->Nat->List u
 |0,a,_=>a|n+1,a,i=>match a[i]? with|some c=>C9 b n (Gi a (Cl (b.get c))) (i+1)|none=>a
def E2(a:u):List u->Nat->u->Option u
 |[],_,_=>I|x::r,n,id=>match AJ x id with|true=>J ((match id with|0::_=>0|_=>1)::n::a)|false=>E2 a r (n+1) id
mutual
def ren(b:u->Option u):y->y
 |.ii a c k=>match b a with|some a=>.ii a c k|none=>.undef
 |.ptr a c=>match b a with|some a=>.ptr a c|none=>.undef
 |.rg a j c=>match b a with|some a=>.rg a j c|none=>.undef
 |.yld a=>match b a with|some a=>.yld a|none=>.undef
 |.mp a=>match b a with|some a=>.mp a|none=>.undef
 |.iface l e=>.iface l (ren b e)|.agg h=>.agg (Dn b h)|.kw m=>.kw (Dn b m)|.fn i f g=>.fn i (Dn b f) (Dn b g)|e=>e
def Dn(a:u->Option u):List y->List y
 |[]=>[]|v::vs=>ren a v::Dn a vs
end
def EO(b:u->Option u):Obj->Obj
 |.box f=>.box (Dn b f)|.arr h c=>.arr h (c.map (Dn b))|.map c=>.map (c.map λa=>(a.1,ren b a.2))|.loop e=>.loop {e with env:=e.env.map λa=>(a.1,ren b a.2)}|g=>g
def Ey(b:S)(a:u->Option u):List u->S
 |[]=>[]|id::r=>match b.get id,a id with|some e,J c=>(c,EO a e)::Ey b a r|_,_=>Ey b a r
def rA{b:Type}(a:St)(e:St->b):b:=lz a.env λenv=>Xw a.heap λc=>Kv a.base λbase=>e {env,heap:=c,base,defs:=a.defs}
def Ff(g:C7)(c:Fr)(h:Nat)(a:St):St:=
 let e:=(g.live c.f h).map λf=>(f,a.env.get f)
 if c.raw|| !a.defs.isEmpty then{a with env:=e}
 else
  let l:=C9 a.heap 1000 (Gi [] (e.flatMap λb=>AE b.2)) 0
  let ν:=E2 c.π l 0
  {env:=e.map λb=>(b.1,ren ν b.2),heap:=Ey a.heap ν l,base:=U l,defs:=[]}
def PN:Sm->Bool
 |.struct _=>X|.array ..=>X|_=>Z
def KJ:Sm->TK
 |.bool=>.bool|.int _=>.int|.string=>.str|_=>.other
def Uh(P:JH):Nat->List Field->Option (List TK)
 |_,[]=>J []|n,f::fs=>match(P.underlying f.type).map KJ,(P.info? f.type).map (·.size),Uh P (n+1) fs with|some .bool,J 1,J ks=>if f.offset=n/\f.name≠ "_" then J (.bool::ks)else I|some .int,J 1,J ks=>if f.offset=n/\f.name≠ "_" then J (.int::ks)else I|some .str,J 1,J ks=>if f.offset=n/\f.name≠ "_" then J (.str::ks)else I|_,_,_=>I
def DA(a:JH)(b:H5):Sm->TK
 |.bool=>.bool|.int _=>.int|.string=>.str|.func ..=>.func|.pointer _=>.ptr|.interface _=>.iface|.slice _=>.slice|.map ..=>.map|.array f _=>.arr f|.struct c=>match Uh a 0 c.toList with|some e=>if a.stoodInHeld b=Z/\a.eqGuardType a.depth b=Z then .flat e else .other|none=>.other
 |_=>.other
def Pk(b:JH):Sm->List (Nat×Nat×Bool)
 |.struct c=>c.toList.map λa=>(a.offset,((b.info? a.type).map (·.size)).getD 0,((b.underlying a.type).map PN).getD Z)|_=>[]
def tb:Sm->Bool
 |.struct _=>X|_=>Z
def NI(a:JH):Sm->Bool
 |.struct c=>c.toList.all λb=>(a.info? b.type).isSome&&(a.underlying b.type).isSome|_=>X
def YL:Hk->Bool
 |.agg _=>X|_=>Z
def Hh:Sm->H5
 |.slice e=>e|.map _ e=>e|.array _ e=>e|_=>0
def YN:Sm->H5
 |.map k _=>k|.int k=>uX k|_=>0
def Cd(a:JH)(f:List H5)(c:H5):Option TI:=
 match a.info? c,a.underlying c with
 |some b,J d=>match b.zero with
  |some e=>match W0 b.bytes 65536&&NI a d&&Wm e.cells.size b.size&&(YL e==PN d)with|true=>J {kind:=DA a c d,size:=b.size,agg:=PN d,str:=tb d,zero:=e.cells.toList.map EW,flds:=Pk a d,elem:=Hh d,key:=YN d,mix:=f.any (Wm c)}|false=>I
  |none=>I
 |_,_=>I
def LP(b:C7)(i:u)(e:KH)(a g base:Nat)(c:Bool):E ((Option y×St)×List Fp)->E (DZ×St)
 |.ok ((o,d9),fps)=>
  match !c||E3 i base fps (b.ge e a)with
  |true=>Kv (base+g) λbase=>match o with|none=>.ok (.normal,{d9 with base})|some h=>.ok (.of h,{d9 with base})
  |false=>.err [15,a]
 |.err f=>.err (a::f)
def EK(b:C7)(K:Af)(a:Fr)(g:Nat)(c:Array H0)(f:Bool)(e:St):E (DZ×St):=LP b a.π a.f g c.size e.base f (Du b K a c e.base (λh=> !f||b.alone a.f g h) c.toList 0 e)
def JM(a:Nat):E (DZ×St)->E (DZ×St)
 |.ok (.exit id',d9)=>match Wm id' a with|true=>.ok (.normal,d9)|false=>.ok (.exit id',d9)
 |b=>b
def Ec(B0:St->E (DZ×St)):E (DZ×St)->E (DZ×St)
 |.ok (.normal,d9)=>B0 d9|r=>r
def NG(c:y)(x B0:E (DZ×St)):E (DZ×St):=
 match c with
 |.d (.bool t)=>match t with|true=>x|false=>B0
 |_=>.err [14]
def fW(a:St):Option Obj->E (DZ×St)
 |some (.loop r)=>match r.state with|.busy=>.err [16]|_=>match r.pend with|none=>.ok (.normal,a)|some .ret=>.ok (.ret,a)|some (.exit k)=>.ok (.exit k,a)|some _=>.err [38]
 |_=>.err [17]
def L4(c e:u)(f:u)(b:St):E (BC×S)->E (DZ×St)
 |.ok (.ret _,h')=>Iy (gc c (gc e h')) λa=>fW {b with heap:=a} (h'.get f)|.ok (.of v,h')=>Iy (gc c (gc e h')) λa=>.ok (.of v,{b with heap:=a})|.err g=>.err g
def M9(K:Af)(ci:Option u)(e:u)(c:u)(b:S):y->E (BC×S)
 |.fn a first cap=>Pg (first++[.yld c]++cap) λas=>K (.fn a) as b e X ci|_=>.err [18]
def H6(K:Af)(a:Fr)(h:M3)(i:Array M5)(j g:L2)(c:St):E (DZ×St):=
 match a.rnd with
 |true=>.err [37]
 |false=>
 Kv c.base λb=>
 Iy (c.heap.put (0::b::a.π) (.loop {state:=.ready,pend:=I,f:=a.f,env:=c.env,params:=i.toList,wp:=j,body:=g,nt:=a.nt})) λf=>
 Kv (b+1) λe=>
 Kv (b+2) λbase=>
 L4 (b::a.π) (e::a.π) (0::b::a.π) {c with heap:=f,base,defs:=.mark (0::b::a.π)::c.defs}
  (M9 K a.ci (e::a.π) (0::b::a.π) f (ev c.env.get h))
def Oj(a:C7)(b:KH):L2->Option (Fr->St->E (DZ×St))
 |.region c _ _=>match a.spec b c with|some e=>J e.act|none=>I
 |_=>I
def exec(e:C7)(K:Af)(c:Fr):Nat->Nat->L2->St->E (DZ×St)
 |0,_,_,_=>.err [0]|n+1,b,h,a=>match h with
  |.skip=>.ok (.normal,a)|.label _=>.ok (.normal,a)|.seq f i=>match Oj e c.f f with|some j=>j c a|none=>Ec (exec e K c n b i) (exec e K c n b f a)
  |.cond h f i=>NG (ev a.env.get h) (exec e K c n b f a) (exec e K c n b i a)|.block g f=>JM g (exec e K c n g f a)|.scope f=>exec e K c n b f a|.loop f=>rA (Ff e c b a) λa=>Ec (exec e K c n b (.loop f)) (exec e K c n b f a)|.exit g=>.ok (.exit g,a)|.ret=>.ok (.ret,a)|.region g o l=>EK e K c g o l a|.rangeFunc m p q k=>H6 K c m p q k a|_=>.err [19]
def En(c:C7)(a:St):ResultVar->Option y
 |.tmp b=>J (a.env.get b)|.cell e b=>(c.T b).bind λf=>Kk a.heap.get f (a.env.get e)
def R9{b c:Type}(a:b->Option c):List b->Option (List c)
 |[]=>J []|x::l=>match a x,R9 a l with|some f,J e=>J (f::e)|_,_=>I
def LR(a:C7)(fn:Func)(b:St):Option y:=match R9 (En a b) fn.results.toList with|some []=>J (.kw [])|some [v]=>J v|some c=>J (.kw c)|none=>I
def EE(a:C7)(ci:Option u):List Df->Option y->S->E (Option y×S)
 |[],p,h=>.ok (p,h)|.mark _::l,p,h=>EE a ci l p h|.call f args::l,p,h=>match a.caught f,args with
  |some t,[.ptr id off]=>match p with
   |none=>EE a ci l I h|some (.iface t' (.agg [.d (.int k n)]))=>match Wm t' t&&Jv ci [(id,.box [])]with
    |true=>match h.get id with
     |some (.box cs)=>match C0 cs off [.d (.int k n)]with|some b=>EE a ci l I (h.put id (.box b))|none=>.err [20]
     |_=>.err [21]
    |false=>.err [22]
   |_=>.err [23]
  |_,_=>.err [24]
def EV:Nat->List y->CN
 |_,[]=>[]|n,v::vs=>(n,v)::EV (n+1) vs
def FP(e:CN):u->List y->Option CN
 |[],[]=>J e|t::ts,v::vs=>FP ((t,v)::e) ts vs|_,_=>I
def Yt(e:C7)(b:KH)(fn:Func)(i:u)(raw:Bool)(g:St):E (Option y×S)->E (BC×S)
 |.ok (I,h)=>match LR e fn {g with heap:=h}with
  |some a=>ku a λa=>match raw with|true=>.ok (.ret a,h)|false=>match i with
    |[]=>match frz h.get a with|some c=>ku c λc=>.ok (.ret c,[])|none=>.err [26,b]
    |_=>.ok (.ret a,h)
  |none=>.err [27,b]
 |.ok (J v,h)=>.ok (.of v,h)|.err f=>.err (b::f)
def sh(a:C7)(ci:Option u)(b:KH)(fn:Func)(c:u)(raw:Bool):E (DZ×St)->E (BC×S)
 |.ok (o,st)=>match o with|.ret=>Yt a b fn c raw st (EE a ci st.defs I st.heap)|.normal=>Yt a b fn c raw st (EE a ci st.defs I st.heap)|.of f=>Yt a b fn c raw st (EE a ci st.defs (J f) st.heap)|_=>.err [28,b]
 |.err e=>.err (b::e)
def Tn(e:JH)(b:C7)(K:Af)(g:Nat)(a:KH)(args:List y)(h:S)(c:u)(raw:Bool)(ci:Option u):E (BC×S):=
 match e.funcs[a]? with
 |some fn=>match fn.body with
  |some f=>match W0 (U args) fn.ntmps with|true=>sh b ci a fn c raw (exec b K {f:=a,π:=c,raw,ci,nt:=fn.ntmps} g 0 f {env:=EV 0 args,heap:=h,base:=0,defs:=[]})|false=>.err [39,a]
  |none=>.err [29,a]
 |none=>.err [30,a]
def L9(c:u)(b:S)(e:Lp)(a:Option L2):E (BC×S):=
 .ok (.ret (.d (.bool a.isNone)),b.put c (.loop {e with state:=match a with|none=>.ready|some _=>.done,pend:=a}))
def pD(b:u)(e:DZ)(a:S):Option Obj->E (BC×S)
 |some (.loop r)=>match e with|.normal=>L9 b a r I|.ret=>L9 b a r (J .ret)|.exit c=>L9 b a r (J (.exit c))|.of f=>.ok (.of f,a)
 |_=>.err [32]
def Tl(a:u):E (DZ×St)->E (BC×S)
 |.ok (o,st)=>match st.defs with|[]=>pD a o st.heap (st.heap.get a)|_=>.err [31]
 |.err b=>.err (99::b)
def Q6(e:C7)(K:Af)(f:Nat)(b:u)(a:Lp)(h:u)(ci:Option u)(c:St):Option Obj->E (BC×S)
 |some (.loop r)=>match r.state with|.ready=>Iy (c.heap.put b (.loop {r with state:=.busy})) λg=>Tl b (exec e K {f:=a.f,π:=h,raw:=X,ci,rnd:=X,nt:=a.nt} f 0 a.body {c with heap:=g})|_=>.err [36]
 |_=>.err [33]
def KI(b:C7)(K:Af)(c:Nat)(a:u)(e:Lp)(f:u)(ci:Option u):E (DZ×St)->E (BC×S)
 |.ok (.normal,st)=>match st.defs,Jv ci [(a,.box [])]with|[],X=>Q6 b K c a e f ci st (st.heap.get a)|_,_=>.err [40]
 |_=>.err [34]
def JR(b:C7)(K:Af)(c:Nat)(h:u)(a:Lp)(args:List y)(g:S)(e:u)(ci:Option u):E (BC×S):=match FP a.env a.params args with|some f=>KI b K c h a e ci (exec b K {f:=a.f,π:=e,raw:=X,ci,rnd:=X,nt:=a.nt} c 0 a.wp {env:=f,heap:=g,base:=0,defs:=[]})|none=>.err [35]
def Kf(c:JH)(a:C7)(b:Nat):Nat->Af
 |0=>λ_ _ _ _ _ _=>.err [25]|n+1=>λj args f g raw ci=>match j with
  |.fn e=>match a.qr e with|true=>Tn c a (Kf c a b n) b e args f g raw ci|false=>.err [41,e]
  |.round h i=>match raw with|true=>JR a (Kf c a b n) b h i args f g ci|false=>.err [42]
end Go.Abs
namespace Go.Abs
section
variable{a:Type}
@[simp] theorem Kx(n:Nat)(k:Nat->a):Kv n k=k n:=by cases n<;>rfl
@[simp] theorem AOE(b:Bool)(k:Bool->a):xG b k=k b:=by cases b<;>rfl
@[simp] theorem AO3(n:Int)(k:Int->a):m7 n k=k n:=by cases n<;>simp[m7]
@[simp] theorem AOH(x:IntKind)(k:IntKind->a):vm x k=k x:=zDQ
@[simp] theorem AOI(b:u)(c:u->a):Sy b c=c b:=by induction b generalizing c with|nil=>rfl|cons f b e=>simp[Sy,e]
@[simp] theorem AO1(x:Au)(k:Au->a):zb x k=k x:=by cases x<;>simp[zb]
@[simp] theorem AOG(b:List Au)(c:List Au->a):j4 b c=c b:=by induction b generalizing c with|nil=>rfl|cons f b e=>simp[j4,e]
@[simp] theorem ANT(b:List (List Au))(c:List (List Au)->a):Ub b c=c b:=by induction b generalizing c with|nil=>rfl|cons f b e=>simp[Ub,e]
@[simp] theorem AOF(x:Au)(k:Au->a):mQ x k=k x:=by cases x<;>simp[mQ,zb]
@[simp] theorem AOz(x:y)(k:y->a):hX x k=k x:=by cases x<;>simp[hX]
@[simp] theorem AOC(b:List y)(c:List y->a):Xv b c=c b:=by induction b generalizing c with|nil=>rfl|cons f b e=>simp[Xv,e]
@[simp] theorem AO0(x:y)(k:y->a):rn x k=k x:=by unfold rn;split<;>simp
@[simp] theorem CC(b:List y)(c:List y->a):Pg b c=c b:=by induction b generalizing c with|nil=>rfl|cons f b e=>simp[Pg,e]
@[simp] theorem Mo(x:y)(k:y->a):ku x k=k x:=by unfold ku;split<;>simp
@[simp] theorem AOD(b:List (List y))(c:List (List y)->a):wV b c=c b:=by induction b generalizing c with|nil=>rfl|cons f b e=>simp[wV,e]
@[simp] theorem ALO(b:List (Au×y))(c:List (Au×y)->a):Sx b c=c b:=by induction b generalizing c with|nil=>rfl|cons f b e=>obtain⟨h,g⟩:=f;simp[Sx,e]
@[simp] theorem AO4(x:Obj)(k:Obj->a):ov x k=k x:=by cases x<;>simp[ov]
@[simp] theorem Cn(b:S)(c:S->a):Xw b c=c b:=by induction b generalizing c with|nil=>rfl|cons f b e=>obtain⟨h,g⟩:=f;simp[Xw,e]
@[simp] theorem Bu(b:S)(c:S->a):Iy b c=c b:=by induction b generalizing c with|nil=>rfl|cons f b e=>grind [Iy]
@[simp] theorem AO2(b:CN)(c:CN->a):lz b c=c b:=by induction b generalizing c with|nil=>rfl|cons f b e=>obtain⟨h,g⟩:=f;simp[lz,e]
@[simp] theorem CQ(l:CN)(k:CN->a):bD l k=k l:=by cases l<;>rfl
@[simp] theorem Uc(c:St)(b:St->a):rA c b=b c:=by simp[rA]
@[simp] theorem Sz(c b:S)(e:S->a):j5 c b e=e (c.puts b):=by cases b<;>simp[j5,S.puts]
end
theorem Id.is_iff(b a:u):AJ b a=X↔b=a:=by
 induction b generalizing a with
 |nil=>cases a<;>simp[AJ]
 |cons g j h=>
  rcases a with _|⟨f,i⟩
  .simp[AJ]
  .simp only[AJ];split
   .grind [Nat.eq_of_beq_eq_true]
   .rename_i c;have:g≠f:=λe=>by subst e;simp at c
    simp[this]
theorem Id.is_false_iff(a b:u):AJ a b=Z↔a≠b:=by grind [Id.is_iff]
@[simp] theorem Id.is_self(a:u):AJ a a=true:=(Id.is_iff a a).2 rfl
theorem Id.under_iff(b a:u):AD b a=X↔b<:+a:=by induction a with|nil=>simp[AD,Id.is_iff]|cons f e c=>grind [AD,Id.is_false_iff,List.suffix_cons_iff]
@[simp] theorem S.get_nil(a:u):S.get [] a=none:=rfl
theorem S.get_cons(c:u)(e:Obj)(b:S)(a:u):S.get ((c,e)::b) a=if c=a then J e else b.get a:=by grind [S.get,Id.is_false_iff]
theorem S.get_put(a:S)(c:u)(e:Obj)(b:u):(a.put c e).get b=if c=b then J e else a.get b:=by induction a with|nil=>simp[S.put,S.get_cons]|cons g a f=>grind [S.put,S.get_cons,Id.is_false_iff]
theorem S.get_append(a c:S)(b:u):S.get (a++c) b=(a.get b).or (c.get b):=by induction a with|nil=>simp|cons f a e=>grind [S.get_cons]
theorem CN.get_cons(b:Nat)(e:y)(c:CN)(a:Nat):CN.get ((b,e)::c) a=if b=a then e else c.get a:=by
 simp[CN.get];split
 .grind [Nat.eq_of_beq_eq_true]
 .rename_i f;have:b≠a:=λg=>by subst g;simp at f
  simp[this]
theorem S.puts_nil(h:S):h.puts []=h:=rfl
theorem S.puts_cons(b:S)(a:u×Obj)(c:S):b.puts (a::c)=(b.put a.1 a.2).puts c:=rfl
theorem S.puts_append(a b c:S):a.puts (b++c)=(a.puts b).puts c:=by grind [S.puts]
variable{A:Nat->Prop}
structure WK:=
 b:Nat
 sz:Nat
 n:Nat
abbrev BB:=u->Option WK
inductive DR(w:G5)(M:Nat->Prop):Au->Hk->Prop
 |int (k n):DR w M (.int k n) (.int k n)
 |bool (b):DR w M (.bool b) (.bool b)
 |str (s):DR w M (.str s) (.string s)
 |nilp:DR w M .nilp (.pointer I)
 |nilf:DR w M .nilf .nilFunc
 |wt:DR w M .wt .nilIface
 |nilm:DR w M .nilm (.map I)
 |lst0 (a cap):DR w M (.co []) (.slice a 0 cap)
 |co (es:List (List Au)) (b off cap sz:Nat) (c:Array Hk) (elem:H5) (fr:Nat×Nat):
  w.heap[b]?=J (.cells c elem fr)->¬M b->(∀e∈es,U e=sz)->off+U es*sz<=c.size->
  (∀i x v,es.flatten[i]?=J x->c[off+i]?=J v->DR w M x v)->(U es)<=cap->DR w M (.co es) (.slice (J ⟨b,off,I⟩) (U es) cap)
inductive VR(β:BB)(w:G5)(M:Nat->Prop):y->Hk->Prop
 |d {x v}:DR w M x v->VR β w M (.d x) v
 |d8:VR β w M .d8 (.slice I 0 0)
 |emp (a):VR β w M .emp (.slice a 0 0)
 |ii (id off len k a cap):β id=J k->off*k.sz+cap*k.sz=k.n->len<=cap->(a=J ⟨k.b,off*k.sz,I⟩\/cap=0)->
  VR β w M (.ii id off len) (.slice a len cap)
 |ptr (id off k):β id=J k->VR β w M (.ptr id off) (.pointer (J ⟨k.b,off,I⟩))
 |rg (id i off k):β id=J k->VR β w M (.rg id i off) (.pointer (J ⟨k.b,i*k.sz+off,I⟩))
 |iptr (cs b off c elem fr):w.heap[b]?=J (.cells c elem fr)->¬M b->off+U cs<=c.size->
  (∀i x v,cs[i]?=J x->c[off+i]?=J v->DR w M x v)->VR β w M (.iptr cs) (.pointer (J ⟨b,off,I⟩))
 |fn (f) (a b:List y) (a' b':Array Hk):U a=a'.size->(U b)=b'.size->(∀(i:Nat) (x:y) (v:Hk),a[i]?=J x->a'[i]?=J v->VR β w M x v)->
  (∀(i:Nat) (x:y) (v:Hk),b[i]?=J x->b'[i]?=J v->VR β w M x v)->VR β w M (.fn f a b) (.func (.func f) a' b')
 |yld (id k):β id=J k->VR β w M (.yld id) (.func (.yield k.b) #[] #[])
 |mp (id k):β id=J k->VR β w M (.mp id) (.map (J k.b))
 |iface (t v Bn):VR β w M v Bn->VR β w M (.iface t v) (.iface t Bn)
 |agg (cs:List y) (c:Array Hk):U cs=c.size->(∀(i:Nat) (x:y) (v:Hk),cs[i]?=J x->c[i]?=J v->VR β w M x v)->VR β w M (.agg cs) (.agg c)
 |kw (cs:List y) (c:Array Hk):U cs=c.size->(∀(i:Nat) (x:y) (v:Hk),cs[i]?=J x->c[i]?=J v->VR β w M x v)->VR β w M (.kw cs) (.tuple c)
 |undef (v):VR β w M .undef v
def HQ(h:BB)(g:G5)(M:Nat->Prop)(b:List y)(a:Array Hk):Prop:=(U b)=a.size/\∀(c:Nat) (f:y) (e:Hk),b[c]?=J f->a[c]?=J e->VR h g M f e
def Obj.mut:Obj->Bool
 |.rt ..=>Z|_=>X
def MS(A:Nat->Prop)(g:BB)(f:S)(a:Nat):Prop:=A a\/∃b e c,f.get b=J e/\e.mut=X/\g b=J c/\c.b=a
def MI(f:BB)(e:G5)(M:Nat->Prop)(b:Nat->y)(c:Nat->Hk):Prop:=∀a,VR f e M (b a) (c a)
def Km(a:List (Au×y)):Prop:=(∀c∈a,∃b,c.1=.int .i64 b)/\(a.map Prod.fst).Nodup
def dV(a:List MapEntry)(b:Nat):Prop:=(a.map (·.born)).Nodup/\∀c∈a,c.born<b
def yE(i:BB)(g:G5)(M:Nat->Prop)(c:List (Au×y))(b:Array MapEntry)(h:Nat):Prop:=
 dV b.toList h/\∃a:List MapEntry,b.toList.Perm a/\(b.toList=a\/Km c)/\(U c)=U a/\
  ∀(f:Nat) p e,c[f]?=J p->a[f]?=J e->DR g M p.1 e.key/\VR i g M p.2 e.val
def O6(m:BB)(f:G5)(M:Nat->Prop)(e:WK):Obj->Prop
 |.box n=>∃a elem,f.heap[e.b]?=J (.cells a elem (0,0))/\HQ m f M n a
 |.f9 c b=>∃a elem,f.heap[e.b]?=J (.cells a elem (0,0))/\c=e.sz/\0<c/\a.size=e.n/\(∀l∈b,U l=c)/\(U b)*c<=a.size/\
  ∀(h:Nat) (k:Au) (j:Hk),b.flatten[h]?=J k->a[h]?=J j->DR f M k j
 |.rt c b=>b=[]\/(¬M e.b/\∃a elem o,f.heap[e.b]?=J (.cells a elem o)/\c=e.sz/\0<c/\a.size=e.n/\(∀l∈b,U l=c)/\(U b)*c<=a.size/\
  ∀(h:Nat) (k:Au) (j:Hk),b.flatten[h]?=J k->a[h]?=J j->DR f M k j)
 |.arr c b=>∃a elem,f.heap[e.b]?=J (.cells a elem (0,0))/\c=e.sz/\0<c/\a.size=e.n/\(∀l∈b,U l=c)/\(U b)*c<=a.size/\
  ∀(h:Nat) (k:y) (j:Hk),b.flatten[h]?=J k->a[h]?=J j->VR m f M k j
 |.map b=>∃entries clock,f.heap[e.b]?=J (.map entries clock)/\yE m f M b entries clock
 |.loop i=>∃g:Loop,f.heap[e.b]?=J (.loop g)/\g.state=i.state/\g.pending=i.pend/\g.fn=i.f/\g.params.toList=i.params/\g.assign=i.wp/\g.body=i.body/\g.tmps.size=i.nt/\
  MI m f M i.env.get λp=>g.tmps.getD p Go.undef
variable{w:G5}{M:Nat->Prop}
def yE.len{h:BB}{b:List (Au×y)}{a:Array MapEntry}{c:Nat}(e:yE h w M b a c):U b=a.size:=by obtain⟨_,i,f,_,g,_⟩:=e;rw[g,<-f.length_eq];simp
def AFj(a:BB)(w:G5)(M:Nat->Prop):yE a w M [] #[] 0:=⟨⟨AG,AG⟩,[],.nil,.inl rfl,rfl,AG⟩
structure HR(A:Nat->Prop)(β:BB)(w:G5)(h:S):Prop:=
 obj:∀id o,h.get id=J o->∃k,β id=J k/\O6 β w (MS A β h) k o
 inj:∀id id' o o' k k',h.get id=J o->h.get id'=J o'->o.mut=X->o'.mut=X->β id=J k->β id'=J k'->k.b=k'.b->id=id'
 bnd:∀id k,β id=J k->k.b<w.heap.size
 out:∀id o k,h.get id=J o->o.mut=X->β id=J k->¬A k.b
 abnd:∀b,A b->b<w.heap.size
structure E5(A M:Nat->Prop)(w:G5)(M':Nat->Prop)(w':G5):Prop:=
 pm:∀b,b<w.heap.size->¬M b\/A b->w'.heap[b]?=w.heap[b]?
 size:w.heap.size<=w'.heap.size
 sub:∀b,M' b->M b\/w.heap.size<=b
 io:w'.os=w.os/\w'.output=w.output:=by exact⟨rfl,rfl⟩
theorem E5.refl(M:Nat->Prop)(w:G5):E5 A M w M w:=⟨λ_ _ _=>rfl,D4 _,λ_ h=>.inl h,rfl,rfl⟩
variable{e:Nat->Prop}{c:G5}
theorem E5.trans{M'':Nat->Prop}{w'':G5}(h:E5 A M w e c)(h':E5 A e c M'' w''):E5 A M w M'' w'' where
 pm b hb hm:=by rw[h'.pm b (LM hb h.size) (hm.imp (λhm hm'=>(h.sub b hm').elim hm (λh=>z)) (λh=>h)),h.pm b hb hm]
 size:=HE h.size h'.size
 sub b hb:=by
  rcases h'.sub b hb with h1|h1
  .exact h.sub b h1
  .exact .inr (HE h.size h1)
 io:=⟨h'.io.1.trans h.io.1,h'.io.2.trans h.io.2⟩
def E5.sub'(b:E5 A M w e c){a:Nat}(h:a<w.heap.size)(f:¬M a):¬e a:=λg=>(b.sub a g).elim f (λb=>z)
def Le(c e:BB):Prop:=∀a b,c a=J b->e a=J b
theorem Le.refl(a:BB):Le a a:=λ_ _ b=>b
variable{a:BB}
theorem Le.trans{e f:BB}(g:Le e a)(h:Le a f):Le e f:=λb c i=>h b c (g b c i)
theorem BT{b:Nat}{o:Go.Obj}(h:w.heap[b]?=J o):b<w.heap.size:=zCN
theorem DR.mono(g:E5 A M w e c){i:Au}{h:Hk}(n:DR w M i h):DR c e i h:=by induction n with|int s t=>exact .int s t|bool a=>exact .bool a|str x=>exact .str x|nilp=>exact .nilp|nilf=>exact .nilf|wt=>exact .wt|nilm=>exact .nilm|lst0 j cap=>exact .lst0 j cap|co l a v cap B k elem m b f p q _ o r=>exact .co l a v cap B k elem m (by rw[g.pm a (BT b) (.inl f)];exact b) (g.sub' (BT b) f) p q r o
theorem VR.mono{D:BB}(n:Le D a)(q:E5 A M w e c){r:y}{h:Hk}(s:VR D w M r h):VR a c e r h:=by induction s with|d s=>exact .d (s.mono q)|d8=>exact .d8|emp k=>exact .emp k|ii f j len g k cap b P x N=>exact .ii f j len g k cap (n _ _ b) P x N|ptr f j g b=>exact .ptr f j g (n _ _ b)|rg f B j g b=>exact .rg f B j g (n _ _ b)|iptr m p j l elem L v C x O=>exact .iptr m p j l elem L (by rw[q.pm p (BT v) (.inl C)];exact v) (q.sub' (BT v) C) x λB r h i t=>(O B r h i t).mono q|fn K k p F H i t _ _ Q R=>exact .fn K k p F H i t Q R|yld f g b=>exact .yld f g (n _ _ b)|mp f g b=>exact .mp f g (n _ _ b)|iface T h V _ o=>exact .iface T h V o|agg m l i _ o=>exact .agg m l i o|kw m l i _ o=>exact .kw m l i o|undef h=>exact .undef h
theorem HQ.mono{h:BB}(l:Le h a)(k:E5 A M w e c){f:List y}{b:Array Hk}(g:HQ h w M f b):HQ a c e f b:=⟨g.1,λm f b i j=>(g.2 m f b i j).mono l k⟩
theorem MI.mono{g:BB}(j:Le g a)(i:E5 A M w e c){b:Nat->y}{f:Nat->Hk}(h:MI g w M b f):MI a c e b f:=λk=>(h k).mono j i
variable{o:Obj}
theorem O6.mono{L:BB}(B:Le L a)(k:E5 A M w e c){t:WK}(j:O6 L w M t o)(V:t.b<w.heap.size)(s:c.heap[t.b]?=w.heap[t.b]?):O6 a c e t o:=by
 cases o with
 |box ac=>obtain⟨m,elem,b,f⟩:=j;exact⟨m,elem,s▸b,f.mono B k⟩|f9 K C=>obtain⟨m,elem,b,f,g,n,p,q,r⟩:=j;exact⟨m,elem,s▸b,f,g,n,p,q,λl x v h i=>(r l x v h i).mono k⟩
 |rt K C=>
  rcases j with j|⟨W,m,elem,P,b,f,g,n,p,q,r⟩
  .exact .inl j
  .exact .inr ⟨k.sub' V W,m,elem,P,s▸b,f,g,n,p,q,λl x v h i=>(r l x v h i).mono k⟩
 |arr K C=>obtain⟨m,elem,b,f,g,n,p,q,r⟩:=j;exact⟨m,elem,s▸b,f,g,n,p,q,λl x v h i=>(r l x v h i).mono B k⟩|map C=>obtain⟨O,N,b,T,D,Y,aa,f,g⟩:=j;exact⟨O,N,s▸b,T,D,Y,aa,f,λl H F h i=>⟨(g l H F h i).1.mono k,(g l H F h i).2.mono B k⟩⟩|loop ad=>obtain⟨D,b,f,g,n,p,q,r,R,Q⟩:=j;exact⟨D,s▸b,f,g,n,p,q,r,R,Q.mono B k⟩
def HR.step{β:BB}{h h':S}(H:HR A β w h)(hβ:Le β a)(hp:E5 A (MS A β h) w (MS A a h') c)(hobj:∀id o,h'.get id=J o->(h.get id=J o/\∀k,β id=J k->c.heap[k.b]?=w.heap[k.b]?)\/∃k,a id=J k/\O6 a c (MS A a h') k o)(hinj:∀id id' o o' k k',h'.get id=J o->h'.get id'=J o'->o.mut=X->o'.mut=X->a id=J k->a id'=J k'->k.b=k'.b->id=id')(hbnd:∀id k,a id=J k->k.b<c.heap.size) (hout:∀id o k,h'.get id=J o->o.mut=X->a id=J k->¬A k.b):HR A a c h' where
 obj id o ho:=by
  rcases hobj id o ho with⟨h1,h2⟩|h1
  .have⟨k,hk,hr⟩:=H.obj id o h1;exact⟨k,hβ _ _ hk,hr.mono hβ hp (H.bnd id k hk) (h2 k hk)⟩
  .exact h1
 inj:=hinj
 bnd:=hbnd
 out:=hout
 abnd b hb:=LM (H.abnd b hb) hp.size
def BB.put(c:BB)(a:u)(b:WK):BB:=λx=>if x=a then J b else c x
theorem R6{a:BB}{b:u}{c:WK}(e:a b=I):Le a (a.put b c):=λh g f=>by grind [BB.put]
@[simp] theorem Ha(c:BB)(a:u)(b:WK):c.put a b a=J b:=by simp[BB.put]
theorem Ch(c:BB){b a:u}(f:WK)(e:a≠b):c.put b f a=c a:=by simp[BB.put,e]
def World.add(w:G5)(x:Go.Obj):World:={w with heap:=w.heap.push x}
theorem MN(w:G5)(x:Go.Obj):(World.add w x).heap[w.heap.size]?=J x:=by simp[World.add]
theorem Kp(w:G5)(x:Go.Obj){b:Nat}(h:b<w.heap.size):(World.add w x).heap[b]?=w.heap[b]? :=by grind [World.add]
def Lb(w:G5)(x:Go.Obj):(World.add w x).heap.size=w.heap.size+1:=by simp[World.add]
def nB{e:BB}{c:S}(H:HR A e w c){a:Nat}(b:MS A e c a):a<w.heap.size:=by
 rcases b with b|⟨g,o,h,_,_,f,rfl⟩
 .exact H.abnd a b
 .exact H.bnd g h f
def Y0{β:BB}{w:G5}{h:S}(H:HR A β w h){id:u}(x:Go.Obj){o:Obj}{k:WK}(hk:k.b=w.heap.size):
 E5 A (MS A β h) w (MS A (β.put id k) (h.put id o)) (World.add w x) where
 pm b hb _:=Kp w x hb
 size:=by rw[Lb];omega
 sub b hb:=by
  rcases hb with hb|⟨id',o',k',ho,hm,hk',rfl⟩
  .exact .inl (.inl hb)
  by_cases e:id'=id
  .subst e;simp at hk';subst hk';exact .inr z
  .rw[Ch β k e]at hk';rw[S.get_put,Co (Ne.symm e)]at ho;exact .inl (.inr ⟨id',o',k',ho,hm,hk',rfl⟩)
theorem HR.add{c:BB}{w:G5}{p:S}(H:HR A c w p){e:u}(x:c e=I){m:Go.Obj}{o:Obj}{k:WK}(B:k.b=w.heap.size)(F:O6 (c.put e k) (World.add w m) (MS A (c.put e k) (p.put e o)) k o):HR A (c.put e k) (World.add w m) (p.put e o):=by
 refine H.step (R6 x) (Y0 H m B) ?_ ?_ ?_ ?_
 .intro M O j;rw[S.get_put]at j;split at j
  .rename_i n;subst n;cases j;exact .inr ⟨k,AG,F⟩
  .exact .inl ⟨j,λN C=>Kp w m (H.bnd _ _ C)⟩
 .intro f t s L l K g q r D a h n;rw[S.get_put]at g q;by_cases b:f=e<;>by_cases i:t=e
  .rw[b,i]
  .subst b;simp at a;subst a;rw[Ch c _ i]at h;have:=H.bnd _ _ h;omega
  .subst i;simp at h;subst h;rw[Ch c _ b]at a;have:=H.bnd _ _ a;omega
  .rw[Ch c _ b]at a;rw[Ch c _ i]at h;rw[Co (Ne.symm b)]at g;rw[Co (Ne.symm i)]at q;exact H.inj f t s L l K g q r D a h n
 .intro f l a;rw[Lb];by_cases b:f=e
  .subst b;simp at a;subst a;omega
  .rw[Ch c _ b]at a;have:=H.bnd _ _ a;omega
 .intro f s l g r a v;rw[S.get_put]at g;by_cases b:f=e
  .subst b;simp at a;subst a;have:=H.abnd _ v;omega
  .rw[Ch c _ b]at a;rw[Co (Ne.symm b)]at g;exact H.out f s l g r a v
def World.nl(w:G5)(b:Nat)(x:Go.Obj):World:={w with heap:=w.heap.setIfInBounds b x}
theorem GD{b:Nat}(x:Go.Obj)(h:b<w.heap.size):(World.nl w b x).heap[b]?=J x:=by simp[World.nl,h]
theorem Ef{b a:Nat}(c:Go.Obj)(e:a≠b):(World.nl w b c).heap[a]?=w.heap[a]? :=by grind [World.nl]
theorem Ez(w:G5)(b:Nat)(x:Go.Obj):(World.nl w b x).heap.size=w.heap.size:=by simp[World.nl]
def UD{i:BB}{a:S}{e:u}{o p:Obj}(m:a.get e=J o)(l:o.mut=X){f:Nat}(c:MS A i (a.put e p) f):MS A i a f:=by
 rcases c with c|⟨n,q,h,b,k,g,rfl⟩
 .exact .inl c
 rw[S.get_put]at b;split at b
 .rename_i j;subst j;exact .inr ⟨e,o,h,m,l,g,rfl⟩
 .exact .inr ⟨n,q,h,b,k,g,rfl⟩
variable{o':Obj}
def HZ{β:BB}{h:S}(H:HR A β w h){id:u}{k:WK}(ho:h.get id=J o)(hm:o.mut=X)(hk:β id=J k)(x:Go.Obj):
 E5 A (MS A β h) w (MS A β (h.put id o')) (World.nl w k.b x) where
 pm b _ hb:=Ef x λe=>hb.elim (λhb=>hb (.inr ⟨id,o,k,ho,hm,hk,e.symm⟩)) (λhb=>H.out id o k ho hm hk (e▸hb))
 size:=by rw[Ez];omega
 sub b hb:=.inl (UD ho hm hb)
theorem HR.nl{e:BB}{w:G5}{a:S}(H:HR A e w a){h:u}{b:WK}{o o':Obj}(v:a.get h=J o)(s:o.mut=X)(K:e h=J b){B:Go.Obj}(W:O6 e (World.nl w b.b B) (MS A e (a.put h o')) b o')(P:∀i x n c,a.get i=J (.rt x n)->e i=J c->c.b=b.b->n=[]):HR A e (World.nl w b.b B) (a.put h o'):=by
 refine H.step (.refl e) (HZ H v s K B) ?_ ?_ ?_ ?_
 .intro i p l;rw[S.get_put]at l;split at l
  .grind
  .rename_i k;have⟨c,hk',hr'⟩:=H.obj i p l;by_cases C:c.b=b.b
   .rcases hm':p.mut with _|_
    .cases p with|rt x n=>have:=P i x n c l hk' C;exact .inr ⟨c,hk',.inl this⟩|_=>simp[Obj.mut]at hm'
    .exact absurd (H.inj h i o p b c v l s hm' K hk' C.symm) k
   grind [Ef]
 .intro j O M Y m V f F t R g Q k;rw[S.get_put]at f F;have D:∀{r:u} {q:Obj},(if h=r then J o' else a.get r)=J q->q.mut=X->∃N,a.get r=J N/\N.mut=true:=by
   intro r q L T;split at L
   .grind
   .exact⟨q,L,T⟩
  have⟨oa',h1,h2⟩:=D f t;have⟨ob',h3,h4⟩:=D F R;exact H.inj j O oa' ob' m V h1 h3 h2 h4 g Q k
 .intro j m g;rw[Ez];exact H.bnd j m g
 .intro j M m f t g;rw[S.get_put]at f;split at f
  .rename_i k;subst k;exact H.out _ _ _ v s g
  .exact H.out j M m f t g
def HR.rt{g:BB}{a:S}(H:HR A g w a){c e:u}{f j:WK}(q:a.get c=J o)(p:o.mut=X)(m:g c=J f){r:Nat}{h:List (List Au)}(l:a.get e=J (.rt r h)) (n:g e=J j) (k:j.b=f.b):h=[]:=by
 have⟨k2,i,hr⟩:=H.obj e _ l;rw[n]at i;cases i;rcases hr with b|⟨b,_⟩
 .exact b
 .exact absurd (.inr ⟨c,o,f,q,p,m,k.symm⟩) b
def HR.upd'{a:BB}{b:S}(H:HR A a w b){c:u}{e:WK}(h:b.get c=J o)(g:o.mut=X)(f:a c=J e){x:Go.Obj}(l:O6 a (World.nl w e.b x) (MS A a (b.put c o')) e o'):HR A a (World.nl w e.b x) (b.put c o'):=H.nl h g f l λ_ _ _ _ i j k=>H.rt h g f i j k
def oT{β:BB}{a:S}{b:u}(f:a.get b=J o)(e:o.mut=X):
 E5 A (MS A β a) w (MS A β (a.put b o')) w:=⟨λ_ _ _=>rfl,D4 _,λ_ c=>.inl (UD f e c),rfl,rfl⟩
theorem HR.kill{n:BB}{w:G5}{b:S}(H:HR A n w b){e:u}{o:Obj}(r:b.get e=J o)(C:o.mut=X):HR A n w (b.put e (.rt 0 [])):=by
 have⟨k,hk,_⟩:=H.obj e _ r;refine H.step (.refl n) (oT r C) ?_ ?_ H.bnd ?_
 .intro L M j;rw[S.get_put]at j;split at j
  .rename_i i;subst i;cases j;exact .inr ⟨k,hk,.inl rfl⟩
  grind
 .intro h x t N m K a q c D l B i;rw[S.get_put]at a q;have p:∀{g:u} {f:Obj},(if e=g then J (Obj.rt 0 [])else b.get g)=J f->f.mut=X->∃v,b.get g=J v/\v.mut=true:=by
   intro g f s F;split at s
   .grind
   .exact⟨f,s,F⟩
  have⟨oa',h1,h2⟩:=p a c;have⟨ob',h3,h4⟩:=p q D;exact H.inj h x oa' ob' m K h1 h3 h2 h4 l B i
 .intro h t m a c l;rw[S.get_put]at a;split at a
  .cases a;cases c
  .exact H.out h t m a c l
