/- Parts of it. -/
import Derived.CallsIn
import Derived.DefersIn
import Derived.RangeFuncLeaves
set_option linter.all false
namespace Go
theorem zFl{p:Prop}(h:p:=by cases x<;>rfl):p:=h
end Go
namespace Go
theorem zBf{p:Prop}(h:p:=by cases b<;>simp[AV.same]at h;rw[Id.is_eq h.1,h.2.1,h.2.2]):p:=h
end Go
namespace Go
def AM:=@Bool.false_eq_true
def AP:=@Bool.and_eq_true
def AS:=@List.mem_of_getElem?
def Ac:=@List.mem_singleton
def Ap:=@decide_eq_true_eq
def As:=@List.length_map
def BE:=@List.map_append
def BI:=@List.eq_nil_of_length_eq_zero
def BV:=@List.getElem?_eq_some_iff
def BY:=@List.map_nil
def Be:=@Option.map_eq_some_iff
def Bi:=@List.nil_append
def Bv:=@List.getElem?_eq_getElem
def By:=@List.take_of_length_le
def CE:=@List.length_append
def CI:=@List.append_nil
def CO:=@List.map_cons
def CS:=@List.mem_flatMap
def Ce:=@List.getElem?_append_left
def Ci:=@decide_eq_false
def Co:=@if_neg
def Cs:=@Option.some.injEq
def DL:=@List.cons_append
def DO:=@Bool.false_and
def Dl:=@List.append_assoc
def D0:=@List.mem_cons
def D1:=@decide_eq_true
def D2:=@List.getElem?_append_right
def D3:=@List.take_length
def D4:=@List.all_eq_true
def D5:=@if_pos
def D6:=@List.map_eq_nil_iff
def D7:=@List.getElem?_map
def D8:=@Nat.eq_of_beq_eq_true
def D9:=@List.all_cons
def EL:=@List.mem_append
def EM:=@List.flatMap_cons
def EX:=@List.drop_eq_nil_of_le
def Es:=@Nat.le_refl
def Ex:=@Array.getElem?_eq_getElem
def FD:=@if_false
def FN:=@Bool.true_and
def F0:=@List.mem_cons_of_mem
def F1:=@List.length_take
def F2:=@List.mem_map
def F3:=@Option.map_some
def F4:=@List.getElem?_cons_zero
def F5:=@List.suffix_cons
def F6:=@List.take_add_one
def F7:=@if_true
def F8:=@Int.toNat_natCast
def F9:=@List.mem_cons_self
def GC:=@Prod.mk.injEq
def GO:=@Option.getD_some
def GS:=@List.getElem?_cons_succ
def Gc:=@List.not_mem_nil
def Ge:=@Nat.le_of_ble_eq_true
def Gs:=@Array.getD_eq_getD_getElem?
def Gt:=@Bool.and_false
def HE:=@forall_eq_or_imp
def HM:=@Nat.mul_le_mul_right
def HU:=@List.mem_append_right
def HW:=@Bool.not_eq_true'
def He:=@List.getElem?_drop
def Hm:=@List.mem_append_left
def Hw:=@List.take_append_of_le_length
def ID:=@List.flatMap_nil
def IF:=@List.getElem?_set
def II:=@List.getElem?_of_mem
def IN:=@Option.bind_eq_some_iff
def IP:=@Nat.le_trans
def IS:=@Array.getElem?_toList
def IT:=@Nat.zero_le
def Ii:=@Nat.add_mul
def Io:=@List.length_drop
def Ip:=@Array.getElem?_eq_some_iff
def Is:=@Option.some.inj
def It:=@List.suffix_cons_iff
def I0:=@List.length_singleton
def I1:=@Array.getElem?_setIfInBounds_ne
def I2:=@Option.bind_some
def I3:=@Option.get_some
def I4:=@Bool.false_or
def I5:=@Option.isSome_iff_exists
def I6:=@List.getElem?_take
def I7:=@List.length_replicate
def I8:=@Bool.or_eq_true
def I9:=@Nat.zero_add
def JP:=@List.map_set
def Jp:=@Array.getElem?_setIfInBounds
def KW:=@Nat.sub_self
def Kw:=@List.getElem?_eq_none
def LC:=@Int.eq_ofNat_of_zero_le
def LI:=@Array.getElem?_append_left
def LM:=@List.mem_of_mem_drop
def Lc:=@List.append_eq_nil_iff
def Li:=@List.take_succ
def Lm:=@Bool.not_eq_true
def Ls:=@List.flatMap_append
def Lt:=@Nat.le_max_left
def Lw:=@List.length_eq_zero_iff
def MD:=@Bool.eq_iff_iff
def MK:=@List.mem_of_mem_take
def MP:=@or_false
def MT:=@List.nodup_append
def Md:=@List.flatten_append
def Mk:=@Bool.and_true
def Mp:=@List.take_append_drop
def Ms:=@List.foldl_cons
def Mt:=@List.cons.injEq
def NL:=@Array.eq_empty_of_size_eq_zero
def NO:=@Nat.lt_of_lt_of_le
def Nl:=@Nat.le_max_right
def No:=@List.mem_flatten
def OF:=@List.getElem_mem
def OK:=@List.drop_append_of_le_length
def OL:=@List.map_take
def ON:=@Bool.and_self
def OP:=@List.flatten_cons
def OS:=@Array.length_toList
def Of:=@Array.getElem?_push
def Ok:=@List.mem_iff_getElem?
def Ol:=@List.map_replicate
def On:=@List.getElem?_toArray
def PI:=@Bool.not_true
def PL:=@Array.ext_getElem?
def PM:=@Bool.not_false
def PU:=@List.drop_eq_nil_iff
def Pl:=@List.eq_of_mem_replicate
def Pm:=@Nat.mul_comm
def Pp:=@List.map_drop
def Pu:=@Int.toNat_of_nonneg
def QR:=@List.mem_range
def Qr:=@Nat.ne_of_beq_eq_false
def RC:=@Nat.add_sub_cancel
def RD:=@Array.getElem?_map
def RG:=@Nat.ble_eq_true_of_le
def RS:=@List.mem_filter
def RT:=@List.all_nil
def RW:=@Bool.and_eq_false_iff
def RX:=@Array.mem_of_getElem?
def Rc:=@Nat.add_assoc
def Rd:=@List.size_toArray
def Rg:=@List.exists_cons_of_ne_nil
def Ro:=@List.set_append_left
def Rs:=@List.mem_iff_getElem
def Rt:=@List.take_zero
def Rw:=@List.filter_cons
def Rx:=@List.replicate_succ
def SP:=@Array.size_setIfInBounds
def S1:=@decide_eq_false_iff_not
def TO:=@List.getElem?_replicate
def TY:=@List.cons.inj
def To:=@List.all_append
def Ty:=@List.drop_of_length_le
def T0:=@Array.size_append
def T1:=@Nat.succ_mul
def T2:=@Bool.or_true
def T6:=@List.map_flatten
def T7:=@List.drop_length
def T8:=@List.any_eq_true
def UL:=@Nat.blt_eq
def UN:=@true_and
end Go
namespace Go
variable{p:Prop}
theorem AA(h:p:=by omega):p:=h
theorem AG(h:p:=by simp):p:=h
theorem AK(h:p:=by decide):p:=h
theorem Bs(h:p:=by assumption):p:=h
theorem Aa(h:p:=by simp;omega):p:=h
theorem AZ(h:p:=by dsimp only;omega):p:=h
theorem BJ(h:p:=by simp[AE]):p:=h
theorem C8(h:p:=by simp[Op.operands]):p:=h
theorem AFN(h:p:=by rfl):p:=h
end Go
namespace Go.Abs
inductive Ao where
 |int (k:IntKind) (n:Int)
 |bool (b:Bool)
 |str (s:ByteArray)
 |bv (es:List (List Ao))
 |wp|lc|rg|wn
abbrev Id:=List Nat
def Id.is:Id→Id→Bool
 |[],[]=>true
 |n::l,m::k=>match Nat.beq n m with
  |true=>Id.is l k
  |false=>false
 |_,_=>false
def Id.under(ρ:Id):Id→Bool
 |[]=>Id.is ρ []
 |n::l=>match Id.is ρ (n::l)with
  |true=>true
  |false=>Id.under ρ l
inductive AV where
 |d (x:Ao)
 |d7
 |emp
 |f8 (id:Id) (off len:Nat)
 |ptr (id:Id) (off:Nat)
 |jp (id:Id) (i off:Nat)
 |v6 (cs:List Ao)
 |fn (f:FuncId) (first cap:List AV)
 |ws (id:Id)
 |mp (id:Id)
 |iface (t:TypeId) (v:AV)
 |agg (cs:List AV)
 |ii (vs:List AV)
 |undef
abbrev CB:=List (Nat×AV)
def CB.get:CB→Nat→AV
 |[],_=>.undef
 |(k,v)::e,t=>match Nat.beq k t with
  |true=>v
  |false=>CB.get e t
structure Lp where
 state:LoopState
 wl:Option Code
 f:FuncId
 env:CB
 params:List Nat
 pm:Code
 body:Code
 nt:Nat
inductive Obj where
 |box (cs:List AV)
 |em (sz:Nat) (es:List (List Ao))
 |i7 (sz:Nat) (es:List (List Ao))
 |arr (sz:Nat) (es:List (List AV))
 |map (es:List (Ao×AV))
 |loop (r:Lp)
abbrev AD:=List (Id×Obj)
def AD.get:AD→Id→Option Obj
 |[],_=>none
 |(k,o)::h,id=>match Id.is k id with
  |true=>some o
  |false=>AD.get h id
mutual
def Ao.same:Ao→Ao→Bool
 |.int k n,.int k' m=>decide (k=k')&&decide (n=m)
 |.bool a,.bool b=>match a,b with
  |true,true=>true
  |false,false=>true
  |_,_=>false
 |.str a,.str b=>decide (a.data.toList=b.data.toList)
 |.bv a,.bv b=>Ao.samess a b
 |.wp,.wp=>true
 |.lc,.lc=>true
 |.rg,.rg=>true
 |.wn,.wn=>true
 |_,_=>false
def Ao.sames:List Ao→List Ao→Bool
 |[],[]=>true
 |x::l,y::m=>match Ao.same x y with
  |true=>Ao.sames l m
  |false=>false
 |_,_=>false
def Ao.samess:List (List Ao)→List (List Ao)→Bool
 |[],[]=>true
 |x::l,y::m=>match Ao.sames x y with
  |true=>Ao.samess l m
  |false=>false
 |_,_=>false
end
mutual
theorem Ao.same_eq: ∀{a b:Ao},Ao.same a b=true→a=b
 |.int k n,b,h=>by
  cases b<;>simp[Ao.same]at h;rw[h.1,h.2]
 |.bool a,b,h=>by
  cases b<;>simp[Ao.same]at h;rename_i b;cases a<;>cases b<;>simp at h<;>rfl
 |.str a,b,h=>by
  cases b<;>simp[Ao.same]at h;rename_i b;cases a;cases b;simp at h;rw[h]
 |.bv a,b,h=>by
  cases b<;>simp[Ao.same]at h;rw[Ao.samess_eq h]
 |.wp,b,h=>by cases b<;>simp[Ao.same]at h;rfl
 |.lc,b,h=>by cases b<;>simp[Ao.same]at h;rfl
 |.rg,b,h=>by cases b<;>simp[Ao.same]at h;rfl
 |.wn,b,h=>by cases b<;>simp[Ao.same]at h;rfl
theorem Ao.sames_eq: ∀{a b:List Ao},Ao.sames a b=true→a=b
 |[],b,h=>by cases b<;>simp[Ao.sames]at h;rfl
 |x::l,[],h=>by simp[Ao.sames]at h
 |x::l,y::m,h=>by
  unfold Ao.sames at h;split at h
  .rename_i c;rw[Ao.same_eq c,Ao.sames_eq h]
  .cases h
theorem Ao.samess_eq: ∀{a b:List (List Ao)},Ao.samess a b=true→a=b
 |[],b,h=>by cases b<;>simp[Ao.samess]at h;rfl
 |x::l,[],h=>by simp[Ao.samess]at h
 |x::l,y::m,h=>by
  unfold Ao.samess at h;split at h
  .rename_i c;rw[Ao.sames_eq c,Ao.samess_eq h]
  .cases h
end
theorem Id.is_eq: ∀{a b:Id},Id.is a b=true→a=b
 |[],[],_=>rfl
 |[],_::_,h=>by simp[Id.is]at h
 |_::_,[],h=>by simp[Id.is]at h
 |n::l,m::k,h=>by
  unfold Id.is at h;split at h
  .rename_i c;rw[D8 c,Id.is_eq h]
  .cases h
mutual
def AV.same:AV→AV→Bool
 |.d x,.d y=>Ao.same x y
 |.d7,.d7=>true
 |.emp,.emp=>true
 |.f8 i a b,.f8 j a' b'=>Id.is i j&&(Nat.beq a a'&&Nat.beq b b')
 |.ptr i a,.ptr j b=>Id.is i j&&Nat.beq a b
 |.jp i a b,.jp j a' b'=>Id.is i j&&(Nat.beq a a'&&Nat.beq b b')
 |.fn f a b,.fn g a' b'=>Nat.beq f g&&(AV.sames a a'&&AV.sames b b')
 |.ws i,.ws j=>Id.is i j
 |.mp i,.mp j=>Id.is i j
 |.iface t v,.iface u w=>Nat.beq t u&&AV.same v w
 |.agg l,.agg m=>AV.sames l m
 |.ii l,.ii m=>AV.sames l m
 |.undef,.undef=>true
 |_,_=>false
def AV.sames:List AV→List AV→Bool
 |[],[]=>true
 |x::l,y::m=>match AV.same x y with
  |true=>AV.sames l m
  |false=>false
 |_,_=>false
end
mutual
theorem AV.same_eq: ∀{a b:AV},AV.same a b=true→a=b
 |.d x,b,h=>by
  cases b<;>simp[AV.same]at h;rw[Ao.same_eq h]
 |.agg l,b,h=>by
  cases b<;>simp[AV.same]at h;rw[AV.sames_eq h]
 |.ii l,b,h=>by
  cases b<;>simp[AV.same]at h;rw[AV.sames_eq h]
 |.d7,b,h=>by cases b<;>simp[AV.same]at h;rfl
 |.emp,b,h=>by cases b<;>simp[AV.same]at h;rfl
 |.undef,b,h=>by cases b<;>simp[AV.same]at h;rfl
 |.f8 ..,b,h=>by
  exact zBf
 |.ptr ..,b,h=>by
  cases b<;>simp[AV.same]at h;rw[Id.is_eq h.1,h.2]
 |.jp ..,b,h=>by
  exact zBf
 |.v6 _,b,h=>by simp[AV.same]at h
 |.fn f a c,b,h=>by
  cases b<;>simp[AV.same]at h;rw[h.1,AV.sames_eq h.2.1,AV.sames_eq h.2.2]
 |.ws _,b,h=>by
  cases b<;>simp[AV.same]at h;rw[Id.is_eq h]
 |.mp _,b,h=>by
  cases b<;>simp[AV.same]at h;rw[Id.is_eq h]
 |.iface t v,b,h=>by
  cases b<;>simp[AV.same]at h;rw[h.1,AV.same_eq h.2]
theorem AV.sames_eq: ∀{a b:List AV},AV.sames a b=true→a=b
 |[],b,h=>by cases b<;>simp[AV.sames]at h;rfl
 |x::l,[],h=>by simp[AV.sames]at h
 |x::l,y::m,h=>by
  unfold AV.sames at h;split at h
  .rename_i c;rw[AV.same_eq c,AV.sames_eq h]
  .cases h
end
def Obj.same:Obj→Option Obj→Bool
 |.box l,some (.box m)=>AV.sames l m
 |.em a l,some (.em b m)=>Nat.beq a b&&Ao.samess l m
 |.i7 a l,some (.i7 b m)=>Nat.beq a b&&Ao.samess l m
 |_,_=>false
theorem Obj.same_eq{a:Obj}{b:Option Obj}(h:Obj.same a b=true):b=some a:=by
 unfold Obj.same at h;split at h
 .rw[AV.sames_eq h]
 .simp only[AP]at h;rw[D8 h.1,Ao.samess_eq h.2]
 .simp only[AP]at h;rw[D8 h.1,Ao.samess_eq h.2]
 .cases h
def WI(h h':AD):List Id:=((h++h').filter fun p=>match h.get p.1 with
 |some o=> !Obj.same o (h'.get p.1)
 |none=>true).map (·.1)
theorem AD.get_mem: ∀{h:AD} {id:Id} {o:Obj},h.get id=some o→(id,o)∈h
 |[],_,_,a=>by cases a
 |(k,o')::h,id,o,a=>by
  unfold AD.get at a;split at a
  .rename_i b;cases a;rw[Id.is_eq b];simp
  .exact F0 _ (AD.get_mem a)
theorem lu{h h':AD}{id:Id}(c:id∉WI h h'):h'.get id=h.get id:=by
 have key: ∀o,(id,o)∈h++h'→h'.get id=h.get id:=fun o e=>by
  have: ¬(match h.get id with|some o=> !Obj.same o (h'.get id)|none=>true)=true:=fun b=>
   c (F2.2 ⟨(id,o),RS.2 ⟨e,b⟩,rfl⟩)
  split at this
  .rename_i f h2;rw[h2];exact Obj.same_eq (by simpa using this)
  .exact absurd rfl this
 cases a:h.get id with
 |some o=>rw[←a];exact key o (Hm _ (AD.get_mem a))
 |none=>cases h2:h'.get id with
  |some o=>rw[←a,←h2];exact key o (HU _ (AD.get_mem h2))
  |none=>rfl
def AD.put:AD→Id→Obj→AD
 |[],id,o=>[(id,o)]
 |(k,x)::h,id,o=>match Id.is k id with
  |true=>(k,o)::h
  |false=>(k,x)::AD.put h id o
def AD.puts(h:AD)(δ:AD):AD:=δ.foldl (fun h p=>h.put p.1 p.2) h
inductive TK where
 |bool|int|str|func|ptr|iface|slice|map|other
 |flat (ks:List TK)
 |arr (n:Nat)
structure TI where
 kind:TK
 size:Nat
 agg:Bool
 str:Bool
 zero:List AV
 flds:List (Nat×Nat×Bool)
 elem:TypeId
 key:TypeId
 mix:Bool
inductive Mode where
 |auto|own|raw|ro
 deriving DecidableEq
structure DD where
 T:TypeId→Option TI
 mode:FuncId→Mode
 live:FuncId→Nat→List Nat
 d9:FuncId→Nat→List (Nat×Nat)
 alone:FuncId→Nat→Nat→Bool
 un:FuncId→Option TypeId
 meth:TypeId→String→Option FuncId
 i9:FuncId→Bool
def EB:Value→AV
 |.int k n=>.d (.int k n)
 |.bool b=>.d (.bool b)
 |.string s=>.d (.str s)
 |.slice none 0 0=>.d7
 |.pointer none=>.d .wp
 |.nilFunc=>.d .lc
 |.nilIface=>.d .rg
 |.map none=>.d .wn
 |_=>.undef
def ev(e:Nat→AV):Operand→AV
 |.tmp t=>e t
 |.const v=>EB v
 |.func f=>.fn f [] []
 |.global _=>.undef
def AV.cells:AV→List AV
 |.agg cs=>cs
 |v=>[v]
def AV.isCell:AV→Bool
 |.agg _=>false
 |.ii _=>false
 |.undef=>false
 |_=>true
def Gv(agg:Bool)(cs:List AV):Option AV:=
 if agg then some (.agg cs)else match cs with
  |[c]=>some c
  |_=>none
def Kj{α:Type}(l:List α)(off n:Nat):Option (List α):=
 if off+n≤l.length then some ((l.drop off).take n)else none
def Cj{α:Type}(l:List α)(off:Nat)(new:List α):Option (List α):=
 if off+new.length≤l.length then some (l.take off++new++l.drop (off+new.length))else none
structure Cx where
 v:AV
 δ:AD:=[]
abbrev G:=Id→Option Obj
def Pr:Option Obj→Option (List (List AV))
 |some (.em _ es)=>some (es.map (·.map .d))
 |some (.i7 _ es)=>some (es.map (·.map .d))
 |some (.arr _ es)=>some es
 |_=>none
def KP(g:G)(i:TI):AV→Option AV
 |.ptr id off=>match g id with
  |some (.box cs)=>(Kj cs off i.size).bind (Gv i.agg)
  |_=>none
 |.jp id k off=>match g id with
  |some (.em _ es)=>match es[k]? with
   |some e=>(Kj e off i.size).bind fun ds=>Gv i.agg (ds.map .d)
   |none=>none
  |some (.i7 _ es)=>match es[k]? with
   |some e=>(Kj e off i.size).bind fun ds=>Gv i.agg (ds.map .d)
   |none=>none
  |some (.arr _ es)=>match es[k]? with
   |some e=>(Kj e off i.size).bind (Gv i.agg)
   |none=>none
  |_=>none
 |.v6 cs=>(Kj cs 0 i.size).bind fun ds=>Gv i.agg (ds.map .d)
 |_=>none
section force
variable{α:Type}
def Jo(n:Nat)(k:Nat→α):α:=match n with
 |0=>k 0
 |m+1=>k (Nat.succ m)
def gB(b:Bool)(k:Bool→α):α:=match b with
 |true=>k true
 |false=>k false
def Qm(n:Int)(k:Int→α):α:=match n with
 |.ofNat m=>Jo m fun m=>k (.ofNat m)
 |.negSucc m=>Jo m fun m=>k (.negSucc m)
def hF(x:IntKind)(k:IntKind→α):α:=match x with
 |.i8=>k .i8|.i16=>k .i16|.i32=>k .i32|.i64=>k .i64
 |.u8=>k .u8|.u16=>k .u16|.u32=>k .u32|.u64=>k .u64
def P8(l:List Nat)(k:List Nat→α):α:=match l with
 |[]=>k []
 |n::l=>Jo n fun n=>P8 l fun l=>k (n::l)
def mM(x:Ao)(k:Ao→α):α:=match x with
 |.int kd n=>hF kd fun kd=>Qm n fun n=>k (.int kd n)
 |.bool b=>gB b fun b=>k (.bool b)
 |.str s=>k (.str s)
 |.bv es=>k (.bv es)
 |.wp=>k .wp
 |.lc=>k .lc
 |.rg=>k .rg
 |.wn=>k .wn
def Z2(l:List Ao)(k:List Ao→α):α:=match l with
 |[]=>k []
 |x::l=>mM x fun x=>Z2 l fun l=>k (x::l)
def RF(l:List (List Ao))(k:List (List Ao)→α):α:=match l with
 |[]=>k []
 |x::l=>Z2 x fun x=>RF l fun l=>k (x::l)
def sc(x:Ao)(k:Ao→α):α:=match x with
 |.bv es=>RF es fun es=>k (.bv es)
 |x=>mM x k
def sZ(v:AV)(k:AV→α):α:=match v with
 |.d x=>sc x fun x=>k (.d x)
 |.d7=>k .d7
 |.emp=>k .emp
 |.f8 id off len=>P8 id fun id=>Jo off fun off=>Jo len fun len=>k (.f8 id off len)
 |.ptr id off=>P8 id fun id=>Jo off fun off=>k (.ptr id off)
 |.jp id i off=>P8 id fun id=>Jo i fun i=>Jo off fun off=>k (.jp id i off)
 |.v6 cs=>Z2 cs fun cs=>k (.v6 cs)
 |.fn f a b=>Jo f fun f=>k (.fn f a b)
 |.ws id=>P8 id fun id=>k (.ws id)
 |.mp id=>P8 id fun id=>k (.mp id)
 |.iface t v=>Jo t fun t=>k (.iface t v)
 |.agg cs=>k (.agg cs)
 |.ii vs=>k (.ii vs)
 |.undef=>k .undef
def Tp(l:List AV)(k:List AV→α):α:=match l with
 |[]=>k []
 |x::l=>sZ x fun x=>Tp l fun l=>k (x::l)
def eh(v:AV)(k:AV→α):α:=match v with
 |.agg cs=>Tp cs fun cs=>k (.agg cs)
 |.ii vs=>Tp vs fun vs=>k (.ii vs)
 |.fn f a b=>Jo f fun f=>Tp a fun a=>Tp b fun b=>k (.fn f a b)
 |.iface t v=>Jo t fun t=>sZ v fun v=>k (.iface t v)
 |v=>sZ v k
def ND(l:List AV)(k:List AV→α):α:=match l with
 |[]=>k []
 |x::l=>eh x fun x=>ND l fun l=>k (x::l)
def IY(v:AV)(k:AV→α):α:=match v with
 |.ii vs=>ND vs fun vs=>k (.ii vs)
 |.agg cs=>ND cs fun cs=>k (.agg cs)
 |.iface t v=>Jo t fun t=>eh v fun v=>k (.iface t v)
 |v=>eh v k
def jk(l:List (List AV))(k:List (List AV)→α):α:=match l with
 |[]=>k []
 |x::l=>ND x fun x=>jk l fun l=>k (x::l)
def P7(l:List (Ao×AV))(k:List (Ao×AV)→α):α:=match l with
 |[]=>k []
 |(x,v)::l=>mM x fun x=>eh v fun v=>P7 l fun l=>k ((x,v)::l)
def Sm(o:Obj)(k:Obj→α):α:=match o with
 |.box cs=>ND cs fun cs=>k (.box cs)
 |.em sz es=>Jo sz fun sz=>RF es fun es=>k (.em sz es)
 |.i7 sz es=>Jo sz fun sz=>RF es fun es=>k (.i7 sz es)
 |.arr sz es=>Jo sz fun sz=>jk es fun es=>k (.arr sz es)
 |.map es=>P7 es fun es=>k (.map es)
 |.loop r=>k (.loop r)
def Tq(h:AD)(k:AD→α):α:=match h with
 |[]=>k []
 |(id,o)::h=>P8 id fun id=>Sm o fun o=>Tq h fun h=>k ((id,o)::h)
def Hp(h:AD)(k:AD→α):α:=match h with
 |[]=>k []
 |(id,o)::h=>Hp h fun h=>k ((id,o)::h)
def yL(e:CB)(k:CB→α):α:=match e with
 |[]=>k []
 |(t,v)::e=>Jo t fun t=>eh v fun v=>yL e fun e=>k ((t,v)::e)
def WZ(e:CB)(k:CB→α):α:=match e with
 |[]=>k []
 |p::e=>k (p::e)
end force
def GJ(g:G):AV→Option Ao
 |.d x=>some x
 |.d7=>some (.bv [])
 |.emp=>some (.bv [])
 |.f8 id off n=>match g id with
  |some (.em _ es)=>(Kj es off n).map .bv
  |some (.i7 _ es)=>(Kj es off n).map .bv
  |_=>none
 |_=>none
def DX(g:G):List AV→Option (List Ao)
 |[]=>some []
 |v::vs=>match GJ g v,DX g vs with
  |some x,some xs=>some (x::xs)
  |_,_=>none
def Dc(g:G):List (List AV)→Option (List (List Ao))
 |[]=>some []
 |v::vs=>match DX g v,Dc g vs with
  |some x,some xs=>some (x::xs)
  |_,_=>none
def Ec(g:G):AV→Option Ao
 |.f8 id off n=>match g id with
  |some (.arr _ es)=>match Dc g es with
   |some ds=>(Kj ds off n).map .bv
   |none=>none
  |_=>GJ g (.f8 id off n)
 |v=>GJ g v
def Hr(g:G):List AV→Option (List AV)
 |[]=>some []
 |v::vs=>match Ec g v,Hr g vs with
  |some x,some xs=>some (.d x::xs)
  |_,_=>none
def FR(g:G):AV→Option AV
 |.agg cs=>(Hr g cs).map .agg
 |.fn f [] []=>some (.fn f [] [])
 |.iface t (.agg cs)=>(Hr g cs).map fun c=>.iface t (.agg c)
 |.iface t v=>(Ec g v).map fun x=>.iface t (.d x)
 |v=>(Ec g v).map .d
def Ej(g:G):List AV→Option (List AV)
 |[]=>some []
 |v::vs=>match FR g v,Ej g vs with
  |some x,some xs=>some (x::xs)
  |_,_=>none
def Y9(g:G):AV→Option AV
 |.ii vs=>(Ej g vs).map .ii
 |v=>FR g v
def Kt(g:G):AV→AD
 |.f8 id _ _=>match g id with
  |some (.em sz es)=>[(id,.i7 sz es)]
  |_=>[]
 |_=>[]
def CY(g:G)(l:List AV):AD:=l.flatMap (Kt g)
def Gu(g:G):AV→AD
 |.f8 id off n=>match g id with
  |some (.em sz es)=>[(id,.i7 sz es)]
  |some (.arr sz es)=>match Dc g es with
   |some ds=>(id,.i7 sz ds)::es.flatMap (CY g)
   |none=>[]
  |_=>[]
 |_=>[]
def Lq:AV→List AV
 |.agg cs=>cs
 |.iface _ (.agg cs)=>cs
 |.iface _ v=>[v]
 |v=>[v]
def mark(g:G)(v:AV):AD:=(Lq v).flatMap (Gu g)
def FE:Ao→Bool
 |.bv _=>false
 |_=>true
def Gr:List AV→Bool
 |[]=>true
 |.d x::vs=>FE x&&Gr vs
 |_=>false
def flat:AV→Bool
 |.d x=>FE x
 |.d7=>true
 |.emp=>true
 |.agg cs=>Gr cs
 |.ii vs=>Gr vs
 |.iface _ (.d x)=>FE x
 |.iface _ (.agg cs)=>Gr cs
 |_=>false
def B8(v:AV)(h:AD):Option (Id×Obj):=
 match v with
 |.f8 id _ _=>match h.get id with
  |some (.em sz es)=>if es.all (·.all FE)then some (id,.em sz es)else none
  |_=>none
 |_=>none
def NX(id:Id)(δ:AD):Bool:=δ.all fun p=> !Id.is p.1 id
def Kc(g:G)(i:TI)(a v:AV):Option Cx:=
 match v.cells.length==i.size&&v.cells.all AV.isCell with
 |false=>none
 |true=>match a with
  |.ptr id off=>match g id with
   |some (.box cs)=>(Cj cs off v.cells).map fun cs'=>⟨.undef,[(id,.box cs')]⟩
   |_=>none
  |.jp id k off=>match g id with
   |some (.em sz es)=>match es[k]?,DX g v.cells,NX id (CY g v.cells)with
    |some e,some ds,true=>(Cj e off ds).map fun e'=>⟨.undef,CY g v.cells++[(id,.em sz (es.set k e'))]⟩
    |_,_,_=>none
   |some (.arr sz es)=>match es[k]? with
    |some e=>(Cj e off v.cells).map fun e'=>⟨.undef,[(id,.arr sz (es.set k e'))]⟩
    |none=>none
   |_=>none
  |_=>none
def Hl{α:Type}(sz:Nat):Nat→List α→List (List α)
 |0,_=>[]
 |n+1,l=>l.take sz::Hl sz n (l.drop sz)
def BG:Nat:=2 ^ 30
def newArr(g:G)(newId:Id)(j:TI)(es:List (List AV)):Option Cx:=
 match es.all (fun e=>e.length==j.size&&e.all AV.isCell)&&Nat.blt 0 j.size&&Nat.ble es.length BG with
 |false=>none
 |true=>match j.mix with
  |true=>some ⟨.f8 (1::newId) 0 es.length,[(1::newId,.arr j.size es)]⟩
  |false=>match Dc g es with
   |some ds=>some ⟨.f8 (1::newId) 0 es.length,es.flatMap (CY g)++[(1::newId,.em j.size ds)]⟩
   |none=>none
def Ef(g:G):AV→Option (List (List AV))
 |.d (.bv es)=>some (es.map (·.map .d))
 |.d7=>some []
 |.emp=>some []
 |.f8 id off n=>(Pr (g id)).bind fun es=>Kj es off n
 |_=>none
def appIn(g:G)(newId:Id)(id:Id)(off n sz:Nat)(es:List (List Ao))(src:List (List AV)):Option Cx:=
 match Dc g src,NX id (src.flatMap (CY g))with
 |some ds,true=>match Cj es (off+n) ds with
  |some es'=>some ⟨.f8 id off (n+ds.length),src.flatMap (CY g)++[(id,.em sz es')]⟩
  |none=>match Nat.beq off 0&&Nat.ble (n+ds.length) BG with
   |true=>some ⟨.f8 (1::newId) 0 (n+ds.length),src.flatMap (CY g)++[(id,.i7 0 []),(1::newId,.em sz (es.take n++ds))]⟩
   |false=>none
 |_,_=>none
def appMix(newId:Id)(id:Id)(off n sz:Nat)(es:List (List AV))(src:List (List AV)):Option Cx:=
 match Cj es (off+n) src with
 |some es'=>some ⟨.f8 id off (n+src.length),[(id,.arr sz es')]⟩
 |none=>match Nat.beq off 0&&Nat.ble (n+src.length) BG with
  |true=>some ⟨.f8 (1::newId) 0 (n+src.length),[(id,.i7 0 []),(1::newId,.arr sz (es.take n++src))]⟩
  |false=>none
def appTo(g:G)(newId:Id)(j:TI)(s:AV)(src:List (List AV)):Option Cx:=
 match s with
 |.d7=>newArr g newId j src
 |.emp=>newArr g newId j src
 |.f8 id off n=>match g id with
  |some (.em sz es)=>match Nat.beq sz j.size&&Nat.ble (off+n) es.length with
   |true=>appIn g newId id off n sz es src
   |false=>none
  |some (.arr sz es)=>match Nat.beq sz j.size&&Nat.ble (off+n) es.length with
   |true=>appMix newId id off n sz es src
   |false=>none
  |_=>none
 |_=>none
def appendV(g:G)(newId:Id)(j:TI)(s x:AV):Option Cx:=
 match Ef g x with
 |none=>none
 |some []=>match s with
  |.d7=>some ⟨.d7,[]⟩
  |.emp=>some ⟨.emp,[]⟩
  |.f8 id off n=>some ⟨.f8 id off n,[]⟩
  |_=>none
 |some src=>match src.all (fun c=>c.length==j.size&&c.all AV.isCell)&&Nat.ble src.length BG&&Nat.blt 0 j.size with
  |true=>appTo g newId j s src
  |false=>none
def Gx(op:BinOp)(k:IntKind)(a b:Int):Option AV:=
 match op with
 |.add=>some (.d (.int k (k.wrap (a+b))))
 |.sub=>some (.d (.int k (k.wrap (a-b))))
 |.mul=>some (.d (.int k (k.wrap (a*b))))
 |.eql=>some (.d (.bool (a==b)))
 |.neq=>some (.d (.bool (a !=b)))
 |.lss=>some (.d (.bool (decide (a<b))))
 |.leq=>some (.d (.bool (decide (a≤b))))
 |.gtr=>some (.d (.bool (decide (b<a))))
 |.geq=>some (.d (.bool (decide (b≤a))))
 |.rem=>if b=0 then none else some (.d (.int k (a.tmod b)))
 |.quo=>if b=0 then none else some (.d (.int k (k.wrap (a.tdiv b))))
 |_=>none
def Hj:TK→AV→AV→Option Bool
 |.int,.d (.int k a),.d (.int k' b)=>if k=k' then some (a==b)else none
 |.bool,.d (.bool a),.d (.bool b)=>some (a==b)
 |.str,.d (.str a),.d (.str b)=>some (a==b)
 |_,_,_=>none
def FV:List TK→List AV→List AV→Option Bool
 |[],[],[]=>some true
 |t::ts,x::xs,y::ys=>match Hj t x y,FV ts xs ys with
  |some a,some b=>some (a&&b)
  |_,_=>none
 |_,_,_=>none
def JD:TK→AV→AV→Option Bool
 |.flat ks,.agg cs,.agg ds=>FV ks cs ds
 |.func,.fn ..,.d .lc=>some false
 |.func,.d .lc,.d .lc=>some true
 |.ptr,.ptr ..,.d .wp=>some false
 |.ptr,.d .wp,.d .wp=>some true
 |.iface,.iface ..,.d .rg=>some false
 |.slice,.d (.bv (_::_)),.d7=>some false
 |.slice,.f8 _ _ (_+1),.d7=>some false
 |.slice,.d7,.d7=>some true
 |.bool,x,y=>Hj .bool x y
 |.str,x,y=>Hj .str x y
 |_,_,_=>none
def wY(op:BinOp)(a b:ByteArray):Option AV:=
 match op with
 |.lss=>some (.d (.bool (Op.bytesLess a.toList b.toList)))
 |.leq=>some (.d (.bool (Op.bytesLess a.toList b.toList||a.toList==b.toList)))
 |.gtr=>some (.d (.bool (!(Op.bytesLess a.toList b.toList||a.toList==b.toList))))
 |.geq=>some (.d (.bool (!Op.bytesLess a.toList b.toList)))
 |_=>none
def hC(op:BinOp):AV→AV→Option AV
 |.d (.str a),.d (.str b)=>wY op a b
 |_,_=>none
def IQ(op:BinOp)(x y:AV)(t:Option TI):Option AV:=
 match x,y with
 |.d (.int k a),.d (.int k' b)=>if k=k' then Gx op k a b else none
 |x,y=>match t with
  |some i=>match op,JD i.kind x y with
   |.eql,some b=>some (.d (.bool b))
   |.neq,some b=>some (.d (.bool (!b)))
   |_,_=>hC op x y
  |none=>none
def bK:Operand→Bool
 |.const _=>true
 |_=>false
def uz(c:Bool)(op:BinOp):AV→AV→Option TI→Option AV
 |.d .rg,.d .rg,some i=>match c,i.kind,op with
  |true,.iface,.eql=>some (.d (.bool true))
  |true,.iface,.neq=>some (.d (.bool false))
  |_,_,_=>none
 |_,_,_=>none
def H4:Option AV→Option AV→Option AV
 |some v,_=>some v
 |none,r=>r
def kv(c:Bool)(op:BinOp)(x y:AV)(t:Option TI):Option AV:=H4 (IQ op x y t) (uz c op x y t)
def VY(g:G):TK→AV→Option Nat
 |.slice,.d (.bv es)=>some es.length
 |.str,.d (.str s)=>some s.size
 |.slice,.d7=>some 0
 |.slice,.emp=>some 0
 |.slice,.f8 _ _ n=>some n
 |.map,.mp id=>match g id with
  |some (.map es)=>some es.length
  |_=>none
 |_,_=>none
def DN:(place:Nat→Option (Nat×Nat))→List AV→List (Nat×AV)→Option (List AV)
 |_,cs,[]=>some cs
 |pl,cs,(i,v)::ps=>match pl i with
  |some (off,size)=>if v.cells.length=size∧v.cells.all AV.isCell then(Cj cs off v.cells).bind fun cs'=>DN pl cs' ps else none
  |none=>none
def Jh:AV→Option Int
 |.d (.int _ n)=>some n
 |_=>none
def IU:Option AV→Int→Option Int
 |none,d=>some d
 |some v,_=>Jh v
def E1(lo hi mx:Option AV)(n:Nat):Option (Nat×Nat×Option Nat):=
 match IU lo 0,IU hi n with
 |some l,some r=>match mx with
  |none=>if 0≤l∧l≤r then some (l.toNat,r.toNat,none)else none
  |some m=>match hi,Jh m with
   |some _,some m=>if 0≤l∧l≤r∧r≤m then some (l.toNat,r.toNat,some m.toNat)else none
   |_,_=>none
 |_,_=>none
def N3(sz:Nat)(es:List (List Ao)):Bool:=match es with
 |[]=>true
 |e::_=>Nat.beq e.length sz
def Rr(sz:Nat)(es:List (List Ao)):Option (Nat×Nat×Option Nat)→Option AV
 |some (l,r,m)=>match Nat.ble r es.length&&N3 sz es with
  |true=>match m with
   |none=>some (.d (.bv ((es.drop l).take (r-l))))
   |some m=>match Nat.beq m l with
    |true=>some .emp
    |false=>none
  |false=>none
 |none=>none
def ep(sz:Nat)(id:Id)(off l r:Nat)(m:Option Nat)(s n:Nat):Option AV:=
 match Nat.beq s sz&&Nat.ble (off+m.getD r) n&&Nat.ble (off+r) n&&Nat.blt 0 n with
 |true=>match m with
  |none=>some (.f8 id (off+l) (r-l))
  |some m=>match Nat.beq m l with
   |true=>some .emp
   |false=>some .undef
 |false=>none
def PV(g:G)(sz:Nat)(id:Id)(off:Nat):Option (Nat×Nat×Option Nat)→Option AV
 |some (l,r,m)=>match g id with
  |some (.em s es)=>ep sz id off l r m s es.length
  |some (.i7 s es)=>ep sz id off l r m s es.length
  |some (.arr s es)=>ep sz id off l r m s es.length
  |_=>none
 |none=>none
def dB:Option (Nat×Nat×Option Nat)→Option AV
 |some (0,0,none)=>some .d7
 |some (0,0,some 0)=>some .emp
 |_=>none
def wH(s:ByteArray):Option (Nat×Nat×Option Nat)→Option AV
 |some (l,r,none)=>if r≤s.size then some (.d (.str (s.extract l r)))else none
 |_=>none
def Fy(g:G)(k:TK)(sz:Nat)(x:AV)(lo hi mx:Option AV):Option AV:=
 match k,x with
 |.slice,.d (.bv es)=>Rr sz es (E1 lo hi mx es.length)
 |.slice,.f8 id off n=>PV g sz id off (E1 lo hi mx n)
 |.slice,.d7=>dB (E1 lo hi mx 0)
 |.str,.d (.str s)=>wH s (E1 lo hi mx s.size)
 |_,_=>none
def FI(e:Nat→AV)(ps:Array (Nat×Operand)):List (Nat×AV):=ps.toList.map fun p=>(p.1,ev e p.2)
def IC:Ao→Ao→Option Bool
 |.int k a,.int k' b=>if k=k' then some (a==b)else none
 |.str a,.str b=>some (a==b)
 |.bool a,.bool b=>some (a==b)
 |_,_=>none
def Db:List (Ao×AV)→Ao→Option (Option AV)
 |[],_=>some none
 |(k,v)::es,x=>match IC k x with
  |some true=>some (some v)
  |some false=>Db es x
  |none=>none
def FM:List (Ao×AV)→Ao→AV→List (Ao×AV)
 |[],x,v=>[(x,v)]
 |(k,w)::es,x,v=>match IC k x with
  |some true=>(k,v)::es
  |_=>(k,w)::FM es x v
def M7:AV→Option Ao
 |.d x=>some x
 |_=>none
def Ks:TK→Ao→Bool
 |.int,.int ..=>true
 |.str,.str _=>true
 |.bool,.bool _=>true
 |_,_=>false
def mapPut(T:TypeId→Option TI)(g:G)(t:Option TI)(m k v:AV):Option Cx:=
 match(match t,M7 k with
  |some i,some x=>match i.kind,T i.key with
   |.map,some kt=>Ks kt.kind x&&v.isCell
   |_,_=>false
  |_,_=>false)with
 |false=>none
 |true=>match m,M7 k with
 |.mp id,some x=>match g id with
  |some (.map es)=>match Db es x with
   |some _=>some ⟨.undef,[(id,.map (FM es x v))]⟩
   |none=>none
  |_=>none
 |_,_=>none
section ops
variable(T:TypeId→Option TI)(e:Nat→AV)(g:G)(newId:Id)
def PH(c a b:AV):Option Cx:=match c with
 |.d (.bool t)=>some ⟨match t with|true=>a|false=>b,[]⟩
 |_=>none
def Kv:Option TI→Option Cx
 |some i=>if i.zero.length=i.size∧i.zero.all AV.isCell then some ⟨.ptr (0::newId) 0,[(0::newId,.box i.zero)]⟩else none
 |none=>none
def SQ(x:AV):Option TI→Option Cx
 |some i=>if x.cells.length=i.size∧x.cells.all AV.isCell then some ⟨.ptr (0::newId) 0,[(0::newId,.box x.cells)]⟩else none
 |none=>none
def Kx(ps:List (Nat×AV)):Option TI→Option Cx
 |some i=>match i.str&&i.zero.length==i.size with
  |false=>none
  |true=>(DN (fun k=>(i.flds[k]?).map fun f=>(f.1,f.2.1)) i.zero ps).map fun cs=>⟨.agg cs,[]⟩
 |none=>none
def Hi(n:Nat)(ps:List (Nat×AV))(j:TI):Option Cx:=
 match DN (fun k=>some (k*j.size,j.size)) ((List.replicate n j.zero).flatten) ps with
 |some cs=>match n with
  |0=>some ⟨.emp,[]⟩
  |n=>match Nat.ble (n*j.size) (2 ^ 24)&&j.zero.length==j.size with
   |true=>newArr g newId j (Hl j.size n cs)
   |false=>none
 |none=>none
def DJ(n:Nat)(ps:List (Nat×AV)):Option TI→Option Cx
 |some i=>match i.kind,T i.elem with
  |.slice,some j=>Hi g newId n ps j
  |_,_=>none
 |none=>none
def MR(a:AV):Option TI→Option Cx
 |some i=>(KP g i a).map (⟨·,[]⟩)
 |none=>none
def Jw(a x:AV):Option TI→Option Cx
 |some i=>Kc g i a x
 |none=>none
def HS:AV→Option Cx
 |.ptr id off=>some ⟨.ptr id off,[]⟩
 |.jp id k off=>some ⟨.jp id k off,[]⟩
 |.v6 cs=>some ⟨.v6 cs,[]⟩
 |_=>none
def j9:AV→Option Cx
 |.d (.bool b)=>some ⟨.d (.bool (!b)),[]⟩
 |_=>none
def JU(t:TypeId):AV→Option TI→Option Cx
 |.iface t' v,some i=>match i.kind with
  |.iface=>none
  |_=>if t'=t then some ⟨.ii [v,.d (.bool true)],[]⟩else(Gv i.agg i.zero).map fun z=>⟨.ii [z,.d (.bool false)],[]⟩
 |_,_=>none
def ML(ok:Bool)(r:Option AV)(j:TI):Option Cx:=
 match r,Gv j.agg j.zero with
 |some v,_=>some ⟨match ok with|true=>.ii [v,.d (.bool true)]|false=>v,[]⟩
 |none,some z=>some ⟨match ok with|true=>.ii [z,.d (.bool false)]|false=>z,[]⟩
 |_,_=>none
def GY(m k:AV)(ok:Bool):Option TI→Option Cx
 |some i=>match m,M7 k,i.kind,T i.key with
  |.mp id,some x,.map,some kt=>match Ks kt.kind x,g id with
   |true,some (.map es)=>match Db es x,T i.elem with
    |some r,some j=>ML ok r j
    |_,_=>none
   |_,_=>none
  |_,_,_,_=>none
 |none=>none
def HF(n:Nat)(j:TI):Option Cx:=match n with
 |0=>some ⟨.emp,[]⟩
 |n=>newArr g newId j (List.replicate n j.zero)
def DT(l c:AV):Option TI→Option Cx
 |some i=>match i.kind,T i.elem,l,c with
  |.slice,some j,.d (.int _ n),.d (.int _ m)=>if 0≤n∧n=m∧n≤BG then HF g newId n.toNat j else none
  |_,_,_,_=>none
 |none=>none
def FU(k:Nat)(x:AV):Option TI→Option Cx
 |some i=>match i.flds[k]? with
  |some f=>match f.2.1 with
   |0=>none
   |_=>match x with
    |.ptr id off=>some ⟨.ptr id (off+f.1),[]⟩
    |.jp id n off=>some ⟨.jp id n (off+f.1),[]⟩
    |.v6 cs=>if f.1≤cs.length then some ⟨.v6 (cs.drop f.1),[]⟩else none
    |_=>none
  |none=>none
 |none=>none
def OH(k:Nat)(x:AV):Option TI→Option Cx
 |some i=>match i.flds[k]?,x with
  |some f,.agg cs=>((Kj cs f.1 f.2.1).bind (Gv f.2.2)).map (⟨·,[]⟩)
  |_,_=>none
 |none=>none
def Ou(n:Int)(x:AV)(j:TI):Option Cx:=
 if 0≤n then match x with
  |.d (.bv es)=>match es[n.toNat]? with
   |some c=>match Nat.beq c.length j.size with
    |true=>some ⟨.v6 c,[]⟩
    |false=>none
   |none=>none
  |.f8 id off len=>if n.toNat<len then match g id with
   |some (.em sz es)=>if sz=j.size∧off+n.toNat<es.length then some ⟨.jp id (off+n.toNat) 0,[]⟩else none
   |some (.i7 sz es)=>if sz=j.size∧off+n.toNat<es.length then some ⟨.jp id (off+n.toNat) 0,[]⟩else none
   |some (.arr sz es)=>if sz=j.size∧off+n.toNat<es.length then some ⟨.jp id (off+n.toNat) 0,[]⟩else none
   |_=>none
   else none
  |_=>none
 else none
def jS(n:Int)(m:Nat)(j:TI):AV→Option Cx
 |.ptr id off=>if 0≤n∧n.toNat<m then some ⟨.ptr id (off+n.toNat*j.size),[]⟩else none
 |_=>none
def Di(x i:AV):Option TI→Option Cx
 |some t=>match i,t.kind,T t.elem with
  |.d (.int _ n),.slice,some j=>Ou g n x j
  |.d (.int _ n),.arr m,some j=>jS n m j x
  |_,_,_=>none
 |none=>none
def MQ(x i:AV)(t:Option TI):Option Cx:=match t.map TI.kind,x,i with
 |some .str,.d (.str s),.d (.int _ n)=>if 0≤n then(s.data.toList[n.toNat]?).map fun b=>⟨.d (.int .u8 b.toNat),[]⟩else none
 |_,_,_=>none
def J5(k:Nat)(x:AV):Option Cx:=match x with
 |.ii vs=>(vs[k]?).map (⟨·,[]⟩)
 |_=>none
def JT(t u:Option TI)(s x:AV):Option Cx:=
 match t,u with
 |some i,some u=>match i.kind,u.kind,T i.elem with
  |.slice,.slice,some j=>appendV g newId j s x
  |_,_,_=>none
 |_,_=>none
def Im(id:Id)(off n:Nat)(j:TI):Option Cx:=
 match g id with
 |some (.em sz es)=>match DX (fun _=>none) j.zero with
  |some z=>if z.length=sz∧j.zero.length=j.size∧j.zero.all AV.isCell∧0<sz then(Cj es off (List.replicate n z)).map fun es'=>⟨.undef,[(id,.em sz es')]⟩else none
  |none=>none
 |_=>none
def HG(t:Option TI)(x:AV):Option Cx:=
 match t with
 |some i=>match i.kind,x with
  |.slice,.f8 id off n=>match n with
   |0=>some ⟨.undef,[]⟩
   |n=>match T i.elem with
    |some j=>Im g id off n j
    |none=>none
  |.slice,.d7=>some ⟨.undef,[]⟩
  |.slice,.emp=>some ⟨.undef,[]⟩
  |_,_=>none
 |none=>none
def cB(x y:AV):Option Cx:=match x,y with
 |.d (.int k a),.d (.int k' b)=>if k=k' then some ⟨.d (.int k (if b>a then b else a)),[]⟩else none
 |_,_=>none
def cC(x y:AV):Option Cx:=match x,y with
 |.d (.int k a),.d (.int k' b)=>if k=k' then some ⟨.d (.int k (if b<a then b else a)),[]⟩else none
 |_,_=>none
def HZ(b:Builtin)(as:List AV)(ts:List TypeId):Option Cx:=
 match b with
 |.len=>match as with
  |[x]=>match ts with
   |[t]=>match T t with
    |some i=>(VY g i.kind x).map fun(n:Nat)=>⟨.d (.int .i64 (n:Int)),[]⟩
    |none=>none
   |_=>none
  |_=>none
 |.append=>match as,ts with
  |[s,x],[t,u]=>JT T g newId (T t) (T u) s x
  |_,_=>none
 |.clear=>match as,ts with
  |[x],[t]=>HG T g (T t) x
  |_,_=>none
 |.max=>match as with
  |[x,y]=>cB x y
  |_=>none
 |.min=>match as with
  |[x,y]=>cC x y
  |_=>none
 |_=>none
def LF(c:Call):Option Cx:=match c.callee with
 |.builtin b=>HZ T g newId b (c.args.toList.map (ev e)) c.argTypes.toList
 |_=>none
def pD(op:UnOp)(x:AV):Option Cx:=match op with
 |.not=>j9 x
 |_=>none
def HQ(f:Fn)(a b:List AV):Option Cx:=match f with
 |.func f=>some ⟨.fn f a b,[]⟩
 |_=>none
def Ia:Option Operand→Option Cx
 |none=>some ⟨.mp (1::newId),[(1::newId,.map [])]⟩
 |some _=>none
def MO(t:TypeId)(x:AV):Option TI→Option Cx
 |some i=>match i.kind with
  |.iface=>none
  |_=>some ⟨.iface t x,[]⟩
 |none=>none
def Ht(x:AV)(lo hi mx:Option AV):Option TI→Option Cx
 |some i=>match i.kind,T i.elem with
  |.slice,some j=>(Fy g .slice j.size x lo hi mx).map (⟨·,[]⟩)
  |.str,_=>(Fy g .str 0 x lo hi mx).map (⟨·,[]⟩)
  |_,_=>none
 |none=>none
def evalOp(o:Op):Option Cx:=
 match o with
 |.move x=>some ⟨ev e x,[]⟩
 |.assign x=>some ⟨ev e x,[]⟩
 |.pick c a b=>PH (ev e c) (ev e a) (ev e b)
 |.alloc t=>Kv newId (T t)
 |.box t x=>SQ newId (ev e x) (T t)
 |.build t ps=>Kx (FI e ps) (T t)
 |.buildSlice t n ps=>DJ T g newId n (FI e ps) (T t)
 |.load t a=>MR g (ev e a) (T t)
 |.store t a x=>Jw g (ev e a) (ev e x) (T t)
 |.nilCheck x=>HS (ev e x)
 |.binOp op t x y _=>(kv (bK x||bK y) op (ev e x) (ev e y) (T t)).map (⟨·,[]⟩)
 |.unOp op _ x=>pD op (ev e x)
 |.makeInterface t x=>MO t (ev e x) (T t)
 |.typeAssert x _ t ok=>match ok with
  |true=>JU t (ev e x) (T t)
  |false=>none
 |.makeFunc f first cap=>HQ f (first.toList.map (ev e)) (cap.toList.map (ev e))
 |.makeMap _ r=>Ia newId r
 |.insert t m k v=>mapPut T g (T t) (ev e m) (ev e k) (ev e v)
 |.mapUpdate t m k v=>mapPut T g (T t) (ev e m) (ev e k) (ev e v)
 |.lookup t m k ok=>GY T g (ev e m) (ev e k) ok (T t)
 |.makeSlice t l c=>DT T g newId (ev e l) (ev e c) (T t)
 |.slice t x lo hi mx=>Ht T g (ev e x) (lo.map (ev e)) (hi.map (ev e)) (mx.map (ev e)) (T t)
 |.fieldAddr t x k=>FU k (ev e x) (T t)
 |.field t x k=>OH k (ev e x) (T t)
 |.indexAddr t x i=>Di T g (ev e x) (ev e i) (T t)
 |.index t x i=>MQ (ev e x) (ev e i) (T t)
 |.extract x k=>J5 k (ev e x)
 |.call c=>LF T e g newId c
 |_=>none
end ops
structure Fr where
 f:FuncId
 π:List Nat
 raw:Bool
 ci:Option (List Nat)
 rnd:Bool:=false
 nt:Nat
inductive Df where
 |mark (id:Id)
 |call (f:FuncId) (args:List AV)
structure St where
 env:CB
 heap:AD
 base:Nat
 defs:List Df
inductive B0 where
 |fn (f:FuncId)
 |round (id:Id) (r:Lp)
inductive Ax where
 |ret (v:AV)
 |ge (v:AV)
inductive E(α:Type) where
 |ok (x:α)
 |err (l:List Nat)
abbrev Ab:=B0→List AV→AD→List Nat→Bool→Option (List Nat)→E (Ax×AD)
structure Fp where
 rd:Option (List Id):=some []
 wr:Option (List Id):=some []
inductive H9 where
 |ok (st:St) (fp:Fp)
 |ge (v:AV) (st:St)
 |err (l:List Nat)
mutual
def AE:AV→List Id
 |.f8 id _ _=>[id]
 |.ptr id _=>[id]
 |.jp id _ _=>[id]
 |.ws id=>[id]
 |.mp id=>[id]
 |.iface _ v=>AE v
 |.agg cs=>BB cs
 |.ii vs=>BB vs
 |.fn _ a b=>BB a++BB b
 |_=>[]
def BB:List AV→List Id
 |[]=>[]
 |v::vs=>AE v++BB vs
end
def DU(g:G)(l:List Id):List Id:=l++l.flatMap fun id=>match g id with
 |some (.arr _ es)=>es.flatMap BB
 |_=>[]
def Ep(e:Nat→AV)(op:Op):List Id:=op.operands.toList.flatMap fun y=>AE (ev e y)
def GZ(e:Nat→AV)(g:G)(op:Op):List Id:=match op with
 |.load ..=>Ep e op
 |.store ..=>Ep e op
 |.buildSlice ..=>Ep e op
 |.insert ..=>Ep e op
 |.mapUpdate ..=>Ep e op
 |.lookup ..=>Ep e op
 |.slice ..=>Ep e op
 |.indexAddr ..=>Ep e op
 |.call c=>match c.callee with
  |.builtin .len=>Ep e op
  |.builtin .clear=>Ep e op
  |.builtin .append=>DU g (Ep e op)
  |_=>[]
 |_=>[]
def K4(p:Option (List Nat))(δ:AD):Bool:=
 match p with
 |none=>true
 |some ρ=>δ.all fun x=>Id.under ρ x.1
def DC(e:CB)(dst:Option Tmp)(v:AV):CB:=
 match dst with
 |some t=>(t,v)::e
 |none=>e
def Z3{α:Type}(h δ:AD)(k:AD→α):α:=match δ with
 |[]=>k h
 |δ=>Hp (h.puts δ) k
def gc(ρ:List Nat)(h:AD):AD:=h.filter fun p=>match p.1 with
 |0::l=> !Id.under ρ l
 |_=>true
def FB(ρ:List Nat)(dst:Option Tmp)(st:St):E (Ax×AD)→H9
 |.ok (.ret v,h)=>WZ (DC st.env dst v) fun env=>Hp (gc ρ h) fun heap=>.ok {st with env,heap} ⟨none,some (WI st.heap heap)⟩
 |.ok (.ge v,h)=>Hp (gc ρ h) fun heap=>.ge v {st with heap}
 |.err l=>.err l
def Iy(fr:Fr)(as:List AV)(v:AV)(h:AD)(st:St)(env:CB):H9:=
 match B8 v h with
 |some o=>Hp (o::st.heap) fun heap=>.ok {st with env,heap} ⟨some (DU st.heap.get (BB as)),some [o.1]⟩
 |none=>
  Tq (as.flatMap (mark st.heap.get)) fun δ=>
  match K4 fr.ci δ with
  |true=>Hp (h++st.heap.puts δ) fun heap=>.ok {st with env,heap} ⟨some (DU st.heap.get (BB as)),some (δ.map (·.1)++h.map (·.1))⟩
  |false=>.err [2]
def EH(fr:Fr)(as:List AV)(dst:Option Tmp)(st:St):E (Ax×AD)→H9
 |.ok (.ret v,h)=>WZ (DC st.env dst v) fun env=>match flat v with
  |true=>.ok {st with env} ⟨some (DU st.heap.get (BB as)),some []⟩
  |false=>Iy fr as v h st env
 |.ok (.ge v,_)=>match flat v with
  |true=>.ge v st
  |false=>.err [3]
 |.err l=>.err l
def Qi(dst:Option Tmp)(st:St):E (Ax×AD)→H9
 |.ok (.ret v,_)=>match flat v with
  |true=>WZ (DC st.env dst v) fun env=>.ok {st with env} ⟨none,some []⟩
  |false=>.err [4]
 |.ok (.ge v,_)=>match flat v with
  |true=>.ge v st
  |false=>.err [3]
 |.err l=>.err l
def Nq(g:G)(as:List AV):List AV:=as.map fun v=>(FR g v).getD v
def GP(K:Ab)(fr:Fr)(ρ:List Nat)(f:FuncId)(as:List AV)(dst:Option Tmp)(st:St)(m:Mode):H9:=
 ND (Nq st.heap.get as) fun xs=>
 Tq (as.flatMap (mark st.heap.get)) fun δ=>
 match m with
 |.ro=>Hp (st.heap.puts δ) fun heap=>Qi dst st (K (.fn f) xs heap ρ true (some ρ))
 |_=>
  match K4 fr.ci δ with
  |true=>Hp (st.heap.puts δ) fun heap=>FB ρ dst st (K (.fn f) xs heap ρ true fr.ci)
  |false=>.err [2]
def ER(K:Ab)(fr:Fr)(ρ:List Nat)(f:FuncId)(as:List AV)(dst:Option Tmp)(st:St)(m:Mode):H9:=
 match m with
 |.raw=>FB ρ dst st (K (.fn f) as st.heap ρ true fr.ci)
 |m=>match Ej st.heap.get as with
  |some xs=>ND xs fun xs=>EH fr as dst st (K (.fn f) xs [] (match m with|.own=>ρ|_=>[]) false none)
  |none=>GP K fr ρ f as dst st m
def Kl(K:Ab)(fr:Fr)(ρ:List Nat)(id:Id)(as:List AV)(dst:Option Tmp)(st:St):H9:=
 match st.heap.get id with
 |some (.loop r)=>FB ρ dst st (K (.round id r) as st.heap ρ true fr.ci)
 |_=>.err [1]
def E4(C:DD)(K:Ab)(fr:Fr)(ρ:List Nat)(fv:AV)(args:List AV)(dst:Option Tmp)(st:St):H9:=
 match fv with
 |.ws id=>Kl K fr ρ id args dst st
 |.fn f first cap=>ND (first++args++cap) fun as=>ER K fr ρ f as dst st (C.mode f)
 |_=>.err [5]
def G3(C:DD)(K:Ab)(fr:Fr)(ρ:List Nat)(r:AV)(m:String)(args:List AV)(dst:Option Tmp)(st:St):H9:=
 match r with
 |.iface t v=>match C.meth t m with
  |some f=>E4 C K fr ρ (.fn f [v] []) args dst st
  |none=>.err [7]
 |_=>.err [8]
def HB(st:St)(v:AV):H9:=match flat v with
 |true=>match v with
  |.iface t u=>.ge (.iface t u) st
  |_=>.err [9]
 |false=>.err [9]
def Iq(fr:Fr)(e:Nat→AV)(c:Call)(dst:Option Tmp)(st:St):H9:=match c.callee with
 |.value f=>match ev e f,fr.rnd with
  |.fn g [] [],false=>.ok {st with env:=DC st.env dst .undef,defs:=.call g (c.args.toList.map (ev e))::st.defs} ⟨none,none⟩
  |_,_=>.err [10]
 |_=>.err [10]
def EC(fr:Fr)(op:Op)(dst:Option Tmp)(st:St):Option Cx→H9
 |some x=>IY x.v fun v=>Tq x.δ fun δ=>match K4 fr.ci δ with
  |true=>WZ (DC st.env dst v) fun env=>Z3 st.heap δ fun heap=>
   .ok {st with env,heap} ⟨some (GZ st.env.get st.heap.get op),some (δ.map (·.1))⟩
  |false=>.err [11]
 |none=>.err [12]
def Bc(C:DD)(K:Ab)(fr:Fr)(ρ:List Nat)(op:Op)(dst:Option Tmp)(st:St):H9:=
 match op with
 |.call c=>match c.callee with
  |.value f=>E4 C K fr ρ (ev st.env.get f) (c.args.toList.map (ev st.env.get)) dst st
  |.invoke r m=>G3 C K fr ρ (ev st.env.get r) m (c.args.toList.map (ev st.env.get)) dst st
  |.builtin _=>EC fr op dst st (LF C.T st.env.get st.heap.get ρ c)
 |.panic x=>HB st (ev st.env.get x)
 |.defer c=>Iq fr st.env.get c dst st
 |op=>EC fr op dst st (evalOp C.T st.env.get st.heap.get ρ op)
def N9(ops:Array Oper)(e:CB)(o:Oper):Option Bool:=
 match o.guard with
 |none=>some true
 |some (j,want)=>match((ops[j]?).bind (·.dst)).map e.get with
  |some (.d (.bool b))=>some (b==want)
  |some (.ii [])=>some false
  |_=>none
def C5(C:DD)(K:Ab)(fr:Fr)(ops:Array Oper)(ρ:List Nat)(o:Oper)(st:St):H9:=
 match N9 ops st.env o with
 |none=>.err [6]
 |some false=>WZ (DC st.env o.dst (.ii [])) fun env=>.ok {st with env} {}
 |some true=>Bc C K fr ρ o.op o.dst st
def X5(fp:Fp):E ((Option AV×St)×List Fp)→E ((Option AV×St)×List Fp)
 |.ok (r,fps)=>.ok (r,fp::fps)
 |.err l=>.err l
def Dk(C:DD)(K:Ab)(fr:Fr)(ops:Array Oper)(b:Nat)(alone:Nat→Bool):List Oper→Nat→St→E ((Option AV×St)×List Fp)
 |[],_,st=>.ok ((none,st),[])
 |o::l,i,st=>Jo (b+i) fun n=>match C5 C K fr ops (n::fr.π) o st with
  |.ok st' fp=>X5 fp (Dk C K fr ops b alone l (i+1) st')
  |.ge v st'=>match alone i with
   |true=>.ok ((some v,st'),[])
   |false=>.err [13,i]
  |.err l=>.err (i::l)
def apart(a b:Option (List Id)):Bool:=
 match a,b with
 |some [],_=>true
 |_,some []=>true
 |some l,some m=>l.all fun x=> !m.contains x
 |_,_=>false
def Fp.apart(a b:Fp):Bool:=Abs.apart a.wr b.rd&&Abs.apart a.rd b.wr&&Abs.apart a.wr b.wr
def EZ(fps:List Fp)(l:List (Nat×Nat)):Bool:=
 l.all fun(i,j)=>match fps[i]?,fps[j]? with
  |some a,some b=>a.apart b
  |_,_=>true
inductive Ea where
 |normal
 |exit (id:Nat)
 |ret
 |ge (v:AV)
def Mc(l:List Id)(id:Id):List Id:=match l.any (Id.is id)with|true=>l|false=>l++[id]
def Fw(l:List Id)(new:List Id):List Id:=new.foldl Mc l
def FA:Option Obj→List Id
 |some (.box cs)=>BB cs
 |some (.arr _ es)=>es.flatMap BB
 |some (.map es)=>es.flatMap fun p=>AE p.2
 |some (.loop r)=>r.env.flatMap fun p=>AE p.2
 |_=>[]
def Cu(h:AD):Nat→List Id→Nat→List Id
 |0,l,_=>l
 |n+1,l,i=>match l[i]? with
  |some id=>Cu h n (Fw l (FA (h.get id))) (i+1)
  |none=>l
def EY(π:List Nat):List Id→Nat→Id→Option Id
 |[],_,_=>none
 |x::r,n,id=>match Id.is x id with|true=>some ((match id with|0::_=>0|_=>1)::n::π)|false=>EY π r (n+1) id
mutual
def ren(ν:Id→Option Id):AV→AV
 |.f8 id o n=>match ν id with|some id=>.f8 id o n|none=>.undef
 |.ptr id o=>match ν id with|some id=>.ptr id o|none=>.undef
 |.jp id i o=>match ν id with|some id=>.jp id i o|none=>.undef
 |.ws id=>match ν id with|some id=>.ws id|none=>.undef
 |.mp id=>match ν id with|some id=>.mp id|none=>.undef
 |.iface t v=>.iface t (ren ν v)
 |.agg cs=>.agg (Fc ν cs)
 |.ii vs=>.ii (Fc ν vs)
 |.fn f a b=>.fn f (Fc ν a) (Fc ν b)
 |v=>v
def Fc(ν:Id→Option Id):List AV→List AV
 |[]=>[]
 |v::vs=>ren ν v::Fc ν vs
end
def Fe(ν:Id→Option Id):Obj→Obj
 |.box cs=>.box (Fc ν cs)
 |.arr sz es=>.arr sz (es.map (Fc ν))
 |.map es=>.map (es.map fun p=>(p.1,ren ν p.2))
 |.loop r=>.loop {r with env:=r.env.map fun p=>(p.1,ren ν p.2)}
 |o=>o
def Dy(h:AD)(ν:Id→Option Id):List Id→AD
 |[]=>[]
 |id::r=>match h.get id,ν id with
  |some o,some id'=>(id',Fe ν o)::Dy h ν r
  |_,_=>Dy h ν r
def YA{α:Type}(st:St)(k:St→α):α:=yL st.env fun env=>Tq st.heap fun heap=>Jo st.base fun base=>k {env,heap,base,defs:=st.defs}
def Fg(C:DD)(fr:Fr)(b:Nat)(st:St):St:=
 let e:=(C.live fr.f b).map fun t=>(t,st.env.get t)
 if fr.raw|| !st.defs.isEmpty then{st with env:=e}
 else
  let l:=Cu st.heap 1000 (Fw [] (e.flatMap fun p=>AE p.2)) 0
  let ν:=EY fr.π l 0
  {env:=e.map fun p=>(p.1,ren ν p.2),heap:=Dy st.heap ν l,base:=l.length,defs:=[]}
def Mu:TypeDesc→Bool
 |.struct _=>true
 |.array ..=>true
 |_=>false
def JZ:TypeDesc→TK
 |.bool=>.bool
 |.int _=>.int
 |.string=>.str
 |_=>.other
def RH(P:Program):Nat→List Field→Option (List TK)
 |_,[]=>some []
 |n,f::fs=>match(P.underlying f.type).map JZ,(P.info? f.type).map (·.size),RH P (n+1) fs with
  |some .bool,some 1,some ks=>if f.offset=n∧f.name≠ "_" then some (.bool::ks)else none
  |some .int,some 1,some ks=>if f.offset=n∧f.name≠ "_" then some (.int::ks)else none
  |some .str,some 1,some ks=>if f.offset=n∧f.name≠ "_" then some (.str::ks)else none
  |_,_,_=>none
def C4(P:Program)(t:TypeId):TypeDesc→TK
 |.bool=>.bool
 |.int _=>.int
 |.string=>.str
 |.func ..=>.func
 |.pointer _=>.ptr
 |.interface _=>.iface
 |.slice _=>.slice
 |.map ..=>.map
 |.array n _=>.arr n
 |.struct fs=>match RH P 0 fs.toList with
  |some ks=>if P.stoodInHeld t=false∧P.eqGuardType P.depth t=false then .flat ks else .other
  |none=>.other
 |_=>.other
def NG(P:Program):TypeDesc→List (Nat×Nat×Bool)
 |.struct fs=>fs.toList.map fun f=>(f.offset,((P.info? f.type).map (·.size)).getD 0,((P.underlying f.type).map Mu).getD false)
 |_=>[]
def tn:TypeDesc→Bool
 |.struct _=>true
 |_=>false
def Lf(P:Program):TypeDesc→Bool
 |.struct fs=>fs.toList.all fun f=>(P.info? f.type).isSome&&(P.underlying f.type).isSome
 |_=>true
def UI:Value→Bool
 |.agg _=>true
 |_=>false
def Ir:TypeDesc→TypeId
 |.slice e=>e
 |.map _ e=>e
 |.array _ e=>e
 |_=>0
def YZ:TypeDesc→TypeId
 |.map k _=>k
 |_=>0
def CZ(P:Program)(mix:List TypeId)(t:TypeId):Option TI:=
 match P.info? t,P.underlying t with
 |some i,some d=>match i.zero with
  |some z=>match Nat.ble i.bytes 65536&&Lf P d&&Nat.beq z.cells.size i.size&&(UI z==Mu d)with
   |true=>some {kind:=C4 P t d,size:=i.size,agg:=Mu d,str:=tn d,zero:=z.cells.toList.map EB,flds:=NG P d,elem:=Ir d,key:=YZ d,mix:=mix.any (Nat.beq t)}
   |false=>none
  |none=>none
 |_,_=>none
def Lo(C:DD)(f:FuncId)(id n base:Nat)(draw:Bool):E ((Option AV×St)×List Fp)→E (Ea×St)
 |.ok ((o,st'),fps)=>
  match !draw||EZ fps (C.d9 f id)with
  |true=>Jo (base+n) fun base=>match o with
   |none=>.ok (.normal,{st' with base})
   |some v=>.ok (.ge v,{st' with base})
  |false=>.err [15,id]
 |.err l=>.err (id::l)
def E5(C:DD)(K:Ab)(fr:Fr)(id:Nat)(ops:Array Oper)(draw:Bool)(st:St):E (Ea×St):=
 Lo C fr.f id ops.size st.base draw (Dk C K fr ops st.base (fun i=> !draw||C.alone fr.f id i) ops.toList 0 st)
def Hv(id:Nat):E (Ea×St)→E (Ea×St)
 |.ok (.exit id',st')=>match Nat.beq id' id with
  |true=>.ok (.normal,st')
  |false=>.ok (.exit id',st')
 |r=>r
def EF(y:St→E (Ea×St)):E (Ea×St)→E (Ea×St)
 |.ok (.normal,st')=>y st'
 |r=>r
def Lb(c:AV)(x y:E (Ea×St)):E (Ea×St):=
 match c with
 |.d (.bool t)=>match t with
  |true=>x
  |false=>y
 |_=>.err [14]
def Yn(st:St):Option Obj→E (Ea×St)
 |some (.loop r)=>match r.state with
  |.busy=>.err [16]
  |_=>match r.wl with
   |none=>.ok (.normal,st)
   |some .ret=>.ok (.ret,st)
   |some (.exit k)=>.ok (.exit k,st)
   |some _=>.err [38]
 |_=>.err [17]
def KU(ρ ρ2:List Nat)(id:Id)(st1:St):E (Ax×AD)→E (Ea×St)
 |.ok (.ret _,h')=>Hp (gc ρ (gc ρ2 h')) fun heap=>Yn {st1 with heap} (h'.get id)
 |.ok (.ge v,h')=>Hp (gc ρ (gc ρ2 h')) fun heap=>.ok (.ge v,{st1 with heap})
 |.err l=>.err l
def LP(K:Ab)(ci:Option (List Nat))(ρ:List Nat)(id:Id)(h:AD):AV→E (Ax×AD)
 |.fn f first cap=>ND (first++[.ws id]++cap) fun as=>K (.fn f) as h ρ true ci
 |_=>.err [18]
def HV(K:Ab)(fr:Fr)(g:Operand)(ps:Array Tmp)(pm body:Code)(st:St):E (Ea×St):=
 match fr.rnd with
 |true=>.err [37]
 |false=>
 Jo st.base fun b=>
 Hp (st.heap.put (0::b::fr.π) (.loop {state:=.ready,wl:=none,f:=fr.f,env:=st.env,params:=ps.toList,pm:=pm,body:=body,nt:=fr.nt})) fun h=>
 Jo (b+1) fun b1=>
 Jo (b+2) fun base=>
 KU (b::fr.π) (b1::fr.π) (0::b::fr.π) {st with heap:=h,base,defs:=.mark (0::b::fr.π)::st.defs}
  (LP K fr.ci (b1::fr.π) (0::b::fr.π) h (ev st.env.get g))
def Bm(C:DD)(K:Ab)(fr:Fr):Nat→Nat→Code→St→E (Ea×St)
 |0,_,_,_=>.err [0]
 |n+1,b,c,st=>match c with
  |.skip=>.ok (.normal,st)
  |.label _=>.ok (.normal,st)
  |.seq x y=>EF (Bm C K fr n b y) (Bm C K fr n b x st)
  |.cond c x y=>Lb (ev st.env.get c) (Bm C K fr n b x st) (Bm C K fr n b y st)
  |.block id x=>Hv id (Bm C K fr n id x st)
  |.loop x=>YA (Fg C fr b st) fun st=>EF (Bm C K fr n b (.loop x)) (Bm C K fr n b x st)
  |.exit id=>.ok (.exit id,st)
  |.ret=>.ok (.ret,st)
  |.region id ops draw=>E5 C K fr id ops draw st
  |.rangeFunc g ps pm body=>HV K fr g ps pm body st
  |_=>.err [19]
def DQ(C:DD)(st:St):ResultVar→Option AV
 |.tmp t=>some (st.env.get t)
 |.cell a t=>(C.T t).bind fun i=>KP st.heap.get i (st.env.get a)
def Og{α β:Type}(f:α→Option β):List α→Option (List β)
 |[]=>some []
 |x::l=>match f x,Og f l with
  |some y,some m=>some (y::m)
  |_,_=>none
def J7(C:DD)(fn:Func)(st:St):Option AV:=
 match Og (DQ C st) fn.results.toList with
 |some []=>some (.ii [])
 |some [v]=>some v
 |some vs=>some (.ii vs)
 |none=>none
def Dr(C:DD)(ci:Option (List Nat)):List Df→Option AV→AD→E (Option AV×AD)
 |[],p,h=>.ok (p,h)
 |.mark _::l,p,h=>Dr C ci l p h
 |.call f args::l,p,h=>match C.un f,args with
  |some t,[.ptr id off]=>match p with
   |none=>Dr C ci l none h
   |some (.iface t' (.agg [.d (.int k n)]))=>match Nat.beq t' t&&K4 ci [(id,.box [])]with
    |true=>match h.get id with
     |some (.box cs)=>match Cj cs off [.d (.int k n)]with
      |some cs'=>Dr C ci l none (h.put id (.box cs'))
      |none=>.err [20]
     |_=>.err [21]
    |false=>.err [22]
   |_=>.err [23]
  |_,_=>.err [24]
def Dx:Nat→List AV→CB
 |_,[]=>[]
 |n,v::vs=>(n,v)::Dx (n+1) vs
def Er(e:CB):List Nat→List AV→Option CB
 |[],[]=>some e
 |t::ts,v::vs=>Er ((t,v)::e) ts vs
 |_,_=>none
def Uj(C:DD)(f:FuncId)(fn:Func)(π:List Nat)(raw:Bool)(st:St):E (Option AV×AD)→E (Ax×AD)
 |.ok (none,h)=>match J7 C fn {st with heap:=h}with
  |some r=>IY r fun r=>match raw with
   |true=>.ok (.ret r,h)
   |false=>match π with
    |[]=>match Y9 h.get r with
     |some r'=>IY r' fun r'=>.ok (.ret r',[])
     |none=>.err [26,f]
    |_=>.ok (.ret r,h)
  |none=>.err [27,f]
 |.ok (some v,h)=>.ok (.ge v,h)
 |.err l=>.err (f::l)
def sU(C:DD)(ci:Option (List Nat))(f:FuncId)(fn:Func)(π:List Nat)(raw:Bool):E (Ea×St)→E (Ax×AD)
 |.ok (o,st)=>match o with
  |.ret=>Uj C f fn π raw st (Dr C ci st.defs none st.heap)
  |.normal=>Uj C f fn π raw st (Dr C ci st.defs none st.heap)
  |.ge v=>Uj C f fn π raw st (Dr C ci st.defs (some v) st.heap)
  |_=>.err [28,f]
 |.err l=>.err (f::l)
def Qn(P:Program)(C:DD)(K:Ab)(fuel:Nat)(f:FuncId)(args:List AV)(h:AD)(π:List Nat)(raw:Bool)(ci:Option (List Nat)):E (Ax×AD):=
 match P.funcs[f]? with
 |some fn=>match fn.body with
  |some c=>match Nat.ble args.length fn.ntmps with
   |true=>sU C ci f fn π raw (Bm C K {f,π,raw,ci,nt:=fn.ntmps} fuel 0 c {env:=Dx 0 args,heap:=h,base:=0,defs:=[]})
   |false=>.err [39,f]
  |none=>.err [29,f]
 |none=>.err [30,f]
def KY(id:Id)(h:AD)(r:Lp)(j:Option Code):E (Ax×AD):=
 .ok (.ret (.d (.bool j.isNone)),h.put id (.loop {r with state:=match j with|none=>.ready|some _=>.done,wl:=j}))
def cq(id:Id)(o:Ea)(h:AD):Option Obj→E (Ax×AD)
 |some (.loop r)=>match o with
  |.normal=>KY id h r none
  |.ret=>KY id h r (some .ret)
  |.exit k=>KY id h r (some (.exit k))
  |.ge v=>.ok (.ge v,h)
 |_=>.err [32]
def Qj(id:Id):E (Ea×St)→E (Ax×AD)
 |.ok (o,st)=>match st.defs with
  |[]=>cq id o st.heap (st.heap.get id)
  |_=>.err [31]
 |.err l=>.err (99::l)
def OU(C:DD)(K:Ab)(fuel:Nat)(id:Id)(r0:Lp)(π:List Nat)(ci:Option (List Nat))(st:St):Option Obj→E (Ax×AD)
 |some (.loop r)=>match r.state with
  |.ready=>Hp (st.heap.put id (.loop {r with state:=.busy})) fun heap=>
   Qj id (Bm C K {f:=r0.f,π,raw:=true,ci,rnd:=true,nt:=r0.nt} fuel 0 r0.body {st with heap})
  |_=>.err [36]
 |_=>.err [33]
def JY(C:DD)(K:Ab)(fuel:Nat)(id:Id)(r0:Lp)(π:List Nat)(ci:Option (List Nat)):E (Ea×St)→E (Ax×AD)
 |.ok (.normal,st)=>match st.defs,K4 ci [(id,.box [])]with
  |[],true=>OU C K fuel id r0 π ci st (st.heap.get id)
  |_,_=>.err [40]
 |_=>.err [34]
def H0(C:DD)(K:Ab)(fuel:Nat)(id:Id)(r:Lp)(args:List AV)(h:AD)(π:List Nat)(ci:Option (List Nat)):E (Ax×AD):=
 match Er r.env r.params args with
 |some e=>JY C K fuel id r π ci (Bm C K {f:=r.f,π,raw:=true,ci,rnd:=true,nt:=r.nt} fuel 0 r.pm {env:=e,heap:=h,base:=0,defs:=[]})
 |none=>.err [35]
def JF(P:Program)(C:DD)(m:Nat):Nat→Ab
 |0=>fun _ _ _ _ _ _=>.err [25]
 |n+1=>fun t args h π raw ci=>match t with
  |.fn f=>match C.i9 f with
   |true=>Qn P C (JF P C m n) m f args h π raw ci
   |false=>.err [41,f]
  |.round id r=>match raw with
   |true=>H0 C (JF P C m n) m id r args h π ci
   |false=>.err [42]
end Go.Abs
namespace Go.Abs
section
variable{α:Type}
@[simp] theorem Iv(n:Nat)(k:Nat→α):Jo n k=k n:=by cases n<;>rfl
@[simp] theorem AC4(b:Bool)(k:Bool→α):gB b k=k b:=by cases b<;>rfl
@[simp] theorem ADl(n:Int)(k:Int→α):Qm n k=k n:=by cases n<;>simp[Qm]
@[simp] theorem AC7(x:IntKind)(k:IntKind→α):hF x k=k x:=zFl
@[simp] theorem AC8(l:List Nat)(k:List Nat→α):P8 l k=k l:=by
  induction l generalizing k with
  |nil=>rfl
  |cons n l a=>simp[P8,a]
@[simp] theorem ADj(x:Ao)(k:Ao→α):mM x k=k x:=by cases x<;>simp[mM]
@[simp] theorem AC6(l:List Ao)(k:List Ao→α):Z2 l k=k l:=by
  induction l generalizing k with
  |nil=>rfl
  |cons n l a=>simp[Z2,a]
@[simp] theorem ACS(l:List (List Ao))(k:List (List Ao)→α):RF l k=k l:=by
  induction l generalizing k with
  |nil=>rfl
  |cons n l a=>simp[RF,a]
@[simp] theorem AC5(x:Ao)(k:Ao→α):sc x k=k x:=by cases x<;>simp[sc,mM]
@[simp] theorem ADh(x:AV)(k:AV→α):sZ x k=k x:=by cases x<;>simp[sZ]
@[simp] theorem AC2(l:List AV)(k:List AV→α):Tp l k=k l:=by
  induction l generalizing k with
  |nil=>rfl
  |cons n l a=>simp[Tp,a]
@[simp] theorem ADi(x:AV)(k:AV→α):eh x k=k x:=by
  unfold eh;split<;>simp
@[simp] theorem Bk(l:List AV)(k:List AV→α):ND l k=k l:=by
  induction l generalizing k with
  |nil=>rfl
  |cons n l a=>simp[ND,a]
@[simp] theorem K9(x:AV)(k:AV→α):IY x k=k x:=by
  unfold IY;split<;>simp
@[simp] theorem AC3(l:List (List AV))(k:List (List AV)→α):jk l k=k l:=by
  induction l generalizing k with
  |nil=>rfl
  |cons n l a=>simp[jk,a]
@[simp] theorem AAb(l:List (Ao×AV))(k:List (Ao×AV)→α):P7 l k=k l:=by
  induction l generalizing k with
  |nil=>rfl
  |cons n l a=>obtain⟨x,v⟩:=n;simp[P7,a]
@[simp] theorem ADm(x:Obj)(k:Obj→α):Sm x k=k x:=by cases x<;>simp[Sm]
@[simp] theorem CQ(l:AD)(k:AD→α):Tq l k=k l:=by
  induction l generalizing k with
  |nil=>rfl
  |cons n l a=>obtain⟨x,v⟩:=n;simp[Tq,a]
@[simp] theorem A9(l:AD)(k:AD→α):Hp l k=k l:=by
  induction l generalizing k with
  |nil=>rfl
  |cons n l a=>obtain⟨x,v⟩:=n;simp[Hp,a]
@[simp] theorem ADk(l:CB)(k:CB→α):yL l k=k l:=by
  induction l generalizing k with
  |nil=>rfl
  |cons n l a=>obtain⟨x,v⟩:=n;simp[yL,a]
@[simp] theorem Bb(l:CB)(k:CB→α):WZ l k=k l:=by cases l<;>rfl
@[simp] theorem MB(st:St)(k:St→α):YA st k=k st:=by simp[YA]
@[simp] theorem NF(h δ:AD)(k:AD→α):Z3 h δ k=k (h.puts δ):=by
  cases δ<;>simp[Z3,AD.puts]
end
theorem Id.is_iff(a b:Id):Id.is a b=true↔a=b:=by
 induction a generalizing b with
 |nil=>cases b<;>simp[Id.is]
 |cons n l c=>
  cases b with
  |nil=>simp[Id.is]
  |cons m k=>
   simp only[Id.is];split
   .rename_i h;have:n=m:=D8 h;simp[c,this]
   .rename_i h;have:n≠m:=fun h'=>by subst h';simp at h
    simp[this]
theorem Id.is_false_iff(a b:Id):Id.is a b=false↔a≠b:=by
 rw[←Lm,Id.is_iff]
@[simp] theorem Id.is_self(a:Id):Id.is a a=true:=(Id.is_iff a a).2 rfl
theorem Id.under_iff(ρ a:Id):Id.under ρ a=true↔ρ<:+a:=by
 induction a with
 |nil=>simp[Id.under,Id.is_iff]
 |cons n l b=>
  simp only[Id.under];split
  .rename_i h;rw[Id.is_iff]at h;subst h;simp
  .rename_i h;rw[Id.is_false_iff]at h;rw[b,It];simp[h]
@[simp] theorem AD.get_nil(id:Id):AD.get [] id=none:=rfl
theorem AD.get_cons(k:Id)(o:Obj)(h:AD)(id:Id):AD.get ((k,o)::h) id=if k=id then some o else h.get id:=by
 simp only[AD.get];split
 .rename_i h';rw[Id.is_iff]at h';simp[h']
 .rename_i h';rw[Id.is_false_iff]at h';simp[h']
theorem AD.get_put(h:AD)(id:Id)(o:Obj)(a:Id):(h.put id o).get a=if id=a then some o else h.get a:=by
 induction h with
 |nil=>simp[AD.put,AD.get_cons]
 |cons p h c=>
  obtain⟨k,x⟩:=p;simp only[AD.put];split
  .rename_i h';rw[Id.is_iff]at h';subst h';simp[AD.get_cons];split<;>simp_all
  .rename_i h';rw[Id.is_false_iff]at h';simp only[AD.get_cons,c];split
   .rename_i b;subst b;simp[Ne.symm h']
   .rfl
theorem AD.get_append(h h':AD)(id:Id):AD.get (h++h') id=(h.get id).or (h'.get id):=by
 induction h with
 |nil=>simp
 |cons p h a=>
  obtain⟨k,x⟩:=p;simp only[DL,AD.get_cons,a];split<;>simp
theorem CB.get_cons(k:Nat)(v:AV)(e:CB)(t:Nat):CB.get ((k,v)::e) t=if k=t then v else e.get t:=by
 simp only[CB.get];split
 .rename_i h;have:=D8 h;simp[this]
 .rename_i h;have:k≠t:=fun h'=>by subst h';simp at h
  simp[this]
theorem AD.puts_nil(h:AD):h.puts []=h:=rfl
theorem AD.puts_cons(h:AD)(p:Id×Obj)(δ:AD):h.puts (p::δ)=(h.put p.1 p.2).puts δ:=rfl
theorem AD.puts_append(h δ a:AD):h.puts (δ++a)=(h.puts δ).puts a:=by simp[AD.puts,List.foldl_append]
variable{A:Nat→Prop}
structure Sl where
 b:Nat
 sz:Nat
 n:Nat
abbrev BH:=Id→Option Sl
inductive DR(w:World)(M:Nat→Prop):Ao→Value→Prop
 |int (k n):DR w M (.int k n) (.int k n)
 |bool (b):DR w M (.bool b) (.bool b)
 |str (s):DR w M (.str s) (.string s)
 |wp:DR w M .wp (.pointer none)
 |lc:DR w M .lc .nilFunc
 |rg:DR w M .rg .nilIface
 |wn:DR w M .wn (.map none)
 |lst0 (a cap):DR w M (.bv []) (.slice a 0 cap)
 |bv (es:List (List Ao)) (b off cap sz:Nat) (c:Array Value) (elem:TypeId) (fr:Nat×Nat):
  w.heap[b]? =some (.cells c elem fr)→ ¬M b→(∀e∈es,e.length=sz)→off+es.length*sz≤c.size→
  (∀i x v,es.flatten[i]? =some x→c[off+i]? =some v→DR w M x v)→es.length≤cap→DR w M (.bv es) (.slice (some ⟨b,off,none⟩) es.length cap)
inductive VR(β:BH)(w:World)(M:Nat→Prop):AV→Value→Prop
 |d {x v}:DR w M x v→VR β w M (.d x) v
 |d7:VR β w M .d7 (.slice none 0 0)
 |emp (a):VR β w M .emp (.slice a 0 0)
 |f8 (id off len k a cap):β id=some k→off*k.sz+cap*k.sz=k.n→len≤cap→(a=some ⟨k.b,off*k.sz,none⟩∨cap=0)→
  VR β w M (.f8 id off len) (.slice a len cap)
 |ptr (id off k):β id=some k→VR β w M (.ptr id off) (.pointer (some ⟨k.b,off,none⟩))
 |jp (id i off k):β id=some k→VR β w M (.jp id i off) (.pointer (some ⟨k.b,i*k.sz+off,none⟩))
 |v6 (cs b off c elem fr):w.heap[b]? =some (.cells c elem fr)→ ¬M b→off+cs.length≤c.size→
  (∀i x v,cs[i]? =some x→c[off+i]? =some v→DR w M x v)→VR β w M (.v6 cs) (.pointer (some ⟨b,off,none⟩))
 |fn (f) (a b:List AV) (a' b':Array Value):a.length=a'.size→b.length=b'.size→(∀(i:Nat) (x:AV) (v:Value),a[i]? =some x→a'[i]? =some v→VR β w M x v)→
  (∀(i:Nat) (x:AV) (v:Value),b[i]? =some x→b'[i]? =some v→VR β w M x v)→VR β w M (.fn f a b) (.func (.func f) a' b')
 |ws (id k):β id=some k→VR β w M (.ws id) (.func (.yield k.b) #[] #[])
 |mp (id k):β id=some k→VR β w M (.mp id) (.map (some k.b))
 |iface (t v u):VR β w M v u→VR β w M (.iface t v) (.iface t u)
 |agg (cs:List AV) (c:Array Value):cs.length=c.size→(∀(i:Nat) (x:AV) (v:Value),cs[i]? =some x→c[i]? =some v→VR β w M x v)→VR β w M (.agg cs) (.agg c)
 |ii (cs:List AV) (c:Array Value):cs.length=c.size→(∀(i:Nat) (x:AV) (v:Value),cs[i]? =some x→c[i]? =some v→VR β w M x v)→VR β w M (.ii cs) (.tuple c)
 |undef (v):VR β w M .undef v
def HL(β:BH)(w:World)(M:Nat→Prop)(cs:List AV)(c:Array Value):Prop:=
 cs.length=c.size∧ ∀(i:Nat) (x:AV) (v:Value),cs[i]? =some x→c[i]? =some v→VR β w M x v
def Obj.mut:Obj→Bool
 |.i7 ..=>false
 |_=>true
def MS(A:Nat→Prop)(β:BH)(h:AD)(b:Nat):Prop:=A b∨ ∃id o k,h.get id=some o∧o.mut=true∧β id=some k∧k.b=b
def Kf(β:BH)(w:World)(M:Nat→Prop)(e:Nat→AV)(f:Nat→Value):Prop:= ∀t,VR β w M (e t) (f t)
def Mo(β:BH)(w:World)(M:Nat→Prop)(k:Sl):Obj→Prop
 |.box cs=> ∃c elem,w.heap[k.b]? =some (.cells c elem (0,0))∧HL β w M cs c
 |.em sz es=> ∃c elem,w.heap[k.b]? =some (.cells c elem (0,0))∧sz=k.sz∧0<sz∧c.size=k.n∧(∀e∈es,e.length=sz)∧es.length*sz≤c.size∧
  ∀(i:Nat) (x:Ao) (v:Value),es.flatten[i]? =some x→c[i]? =some v→DR w M x v
 |.i7 sz es=>es=[]∨(¬M k.b∧ ∃c elem fr,w.heap[k.b]? =some (.cells c elem fr)∧sz=k.sz∧0<sz∧c.size=k.n∧(∀e∈es,e.length=sz)∧es.length*sz≤c.size∧
  ∀(i:Nat) (x:Ao) (v:Value),es.flatten[i]? =some x→c[i]? =some v→DR w M x v)
 |.arr sz es=> ∃c elem,w.heap[k.b]? =some (.cells c elem (0,0))∧sz=k.sz∧0<sz∧c.size=k.n∧(∀e∈es,e.length=sz)∧es.length*sz≤c.size∧
  ∀(i:Nat) (x:AV) (v:Value),es.flatten[i]? =some x→c[i]? =some v→VR β w M x v
 |.map es=> ∃entries clock,w.heap[k.b]? =some (.map entries clock)∧es.length=entries.size∧
  ∀(i:Nat) p e,es[i]? =some p→entries[i]? =some e→DR w M p.1 e.key∧VR β w M p.2 e.val
 |.loop r=> ∃l:Loop,w.heap[k.b]? =some (.loop l)∧l.state=r.state∧l.pending=r.wl∧l.fn=r.f∧l.params.toList=r.params∧l.assign=r.pm∧l.body=r.body∧l.tmps.size=r.nt∧
  Kf β w M r.env.get fun t=>l.tmps.getD t Go.undef
structure HR(A:Nat→Prop)(β:BH)(w:World)(h:AD):Prop where
 obj: ∀id o,h.get id=some o→ ∃k,β id=some k∧Mo β w (MS A β h) k o
 inj: ∀id id' o o' k k',h.get id=some o→h.get id'=some o'→o.mut=true→o'.mut=true→β id=some k→β id'=some k'→k.b=k'.b→id=id'
 bnd: ∀id k,β id=some k→k.b<w.heap.size
 out: ∀id o k,h.get id=some o→o.mut=true→β id=some k→ ¬A k.b
 abnd: ∀b,A b→b<w.heap.size
structure Ez(A M:Nat→Prop)(w:World)(M':Nat→Prop)(w':World):Prop where
 pp: ∀b,b<w.heap.size→ ¬M b∨A b→w'.heap[b]? =w.heap[b]?
 size:w.heap.size≤w'.heap.size
 sub: ∀b,M' b→M b∨w.heap.size≤b
 io:w'.os=w.os∧w'.output=w.output:=by exact⟨rfl,rfl⟩
theorem Ez.refl(M:Nat→Prop)(w:World):Ez A M w M w:=⟨fun _ _ _=>rfl,Es _,fun _ h=>.inl h,rfl,rfl⟩
variable{M M':Nat→Prop}{w w':World}
theorem Ez.trans{e:Nat→Prop}{f:World}(h:Ez A M w M' w')(h':Ez A M' w' e f):Ez A M w e f where
 pp b hb a:=by
  rw[h'.pp b (NO hb h.size) (a.imp (fun a g=>(h.sub b g).elim a (fun h=>AA)) (fun h=>h)),h.pp b hb a]
 size:=IP h.size h'.size
 sub b hb:=by
  rcases h'.sub b hb with c|c
  .exact h.sub b c
  .exact .inr (IP h.size c)
 io:=⟨h'.io.1.trans h.io.1,h'.io.2.trans h.io.2⟩
theorem Ez.sub'(h:Ez A M w M' w'){b:Nat}(e:b<w.heap.size)(a: ¬M b): ¬M' b:=
 fun c=>(h.sub b c).elim a (fun h=>AA)
def Le(β β':BH):Prop:= ∀id k,β id=some k→β' id=some k
theorem Le.refl(β:BH):Le β β:=fun _ _ h=>h
variable{β':BH}
theorem Le.trans{β a:BH}(h:Le β β')(h':Le β' a):Le β a:=fun id k x=>h' id k (h id k x)
theorem AL{b:Nat}{o:Go.Obj}(h:w.heap[b]? =some o):b<w.heap.size:=(Ip.1 h).1
theorem DR.mono(g:Ez A M w M' w'){x:Ao}{v:Value}(h:DR w M x v):DR w' M' x v:=by
 induction h with
 |int k n=>exact .int k n
 |bool b=>exact .bool b
 |str s=>exact .str s
 |wp=>exact .wp
 |lc=>exact .lc
 |rg=>exact .rg
 |wn=>exact .wn
 |lst0 a cap=>exact .lst0 a cap
 |bv es b off cap sz c elem fr e f j l _ i m=>
  exact .bv es b off cap sz c elem fr (by rw[g.pp b (AL e) (.inl f)];exact e) (g.sub' (AL e) f) j l m i
theorem VR.mono{β:BH}(j:Le β β')(m:Ez A M w M' w'){x:AV}{v:Value}(h:VR β w M x v):VR β' w' M' x v:=by
 induction h with
 |d h=>exact .d (h.mono m)
 |d7=>exact .d7
 |emp a=>exact .emp a
 |f8 id off len k a cap e u o r=>exact .f8 id off len k a cap (j _ _ e) u o r
 |ptr id off k e=>exact .ptr id off k (j _ _ e)
 |jp id i off k e=>exact .jp id i off k (j _ _ e)
 |v6 cs b off c elem fr n p o s=>
  exact .v6 cs b off c elem fr (by rw[m.pp b (AL n) (.inl p)];exact n) (m.sub' (AL n) p) o fun i x v g h2=>(s i x v g h2).mono m
 |fn f a b q b' g h2 _ _ y z=>exact .fn f a b q b' g h2 y z
 |ws id k e=>exact .ws id k (j _ _ e)
 |mp id k e=>exact .mp id k (j _ _ e)
 |iface t v B _ l=>exact .iface t v B l
 |agg cs c g _ l=>exact .agg cs c g l
 |ii cs c g _ l=>exact .ii cs c g l
 |undef v=>exact .undef v
theorem HL.mono{β:BH}(c:Le β β')(b:Ez A M w M' w'){x:List AV}{v:Array Value}(h:HL β w M x v):HL β' w' M' x v:=
 ⟨h.1,fun i x v a h2=>(h.2 i x v a h2).mono c b⟩
theorem Kf.mono{β:BH}(b:Le β β')(a:Ez A M w M' w'){e:Nat→AV}{f:Nat→Value}(h:Kf β w M e f):Kf β' w' M' e f:=
 fun t=>(h t).mono b a
variable{o:Obj}
theorem Mo.mono{β:BH}(u:Le β β')(j:Ez A M w M' w'){k:Sl}(h:Mo β w M k o)(D:k.b<w.heap.size)
 (t:w'.heap[k.b]? =w.heap[k.b]?):Mo β' w' M' k o:=by
 cases o with
 |box cs=>obtain⟨c,elem,f,h2⟩:=h;exact⟨c,elem,t▸f,h2.mono u j⟩
 |em sz es=>obtain⟨c,elem,f,h2,g,m,n,q,s⟩:=h;exact⟨c,elem,t▸f,h2,g,m,n,q,fun i x v a b=>(s i x v a b).mono j⟩
 |i7 sz es=>
  rcases h with h|⟨F,c,elem,fr,f,h2,g,m,n,q,s⟩
  .exact .inl h
  .exact .inr ⟨j.sub' D F,c,elem,fr,t▸f,h2,g,m,n,q,fun i x v a b=>(s i x v a b).mono j⟩
 |arr sz es=>obtain⟨c,elem,f,h2,g,m,n,q,s⟩:=h;exact⟨c,elem,t▸f,h2,g,m,n,q,fun i x v a b=>(s i x v a b).mono u j⟩
 |map es=>obtain⟨z,y,f,h2,g⟩:=h;exact⟨z,y,t▸f,h2,fun i p e a b=>⟨(g i p e a b).1.mono j,(g i p e a b).2.mono u j⟩⟩
 |loop r=>obtain⟨l,f,h2,g,m,n,q,s,C,B⟩:=h;exact⟨l,t▸f,h2,g,m,n,q,s,C,B.mono u j⟩
theorem HR.step{β:BH}{h h':AD}(H:HR A β w h)(g:Le β β')(f:Ez A (MS A β h) w (MS A β' h') w')
 (m: ∀id o,h'.get id=some o→(h.get id=some o∧ ∀k,β id=some k→w'.heap[k.b]? =w.heap[k.b]?)∨ ∃k,β' id=some k∧Mo β' w' (MS A β' h') k o)
 (l: ∀id e o o' k i,h'.get id=some o→h'.get e=some o'→o.mut=true→o'.mut=true→β' id=some k→β' e=some i→k.b=i.b→id=e)
 (j: ∀id k,β' id=some k→k.b<w'.heap.size) (n: ∀id o k,h'.get id=some o→o.mut=true→β' id=some k→ ¬A k.b):HR A β' w' h' where
 obj id o ho:=by
  rcases m id o ho with⟨a,h2⟩|a
  .obtain⟨k,c,p⟩:=H.obj id o a;exact⟨k,g _ _ c,p.mono g f (H.bnd id k c) (h2 k c)⟩
  .exact a
 inj:=l
 bnd:=j
 out:=n
 abnd b hb:=NO (H.abnd b hb) f.size
def BH.put(β:BH)(id:Id)(k:Sl):BH:=fun x=>if x=id then some k else β x
theorem PB{β:BH}{id:Id}{k:Sl}(h:β id=none):Le β (β.put id k):=fun x b a=>by
 unfold BH.put;split
 .rename_i e;subst e;rw[h]at a;cases a
 .exact a
@[simp] theorem G6(β:BH)(id:Id)(k:Sl):β.put id k id=some k:=by simp[BH.put]
theorem CR(β:BH){id x:Id}(k:Sl)(h:x≠id):β.put id k x=β x:=by simp[BH.put,h]
def World.add(w:World)(x:Go.Obj):World:={w with heap:=w.heap.push x}
theorem L3(w:World)(x:Go.Obj):(World.add w x).heap[w.heap.size]? =some x:=by simp[World.add]
theorem Jm(w:World)(x:Go.Obj){b:Nat}(h:b<w.heap.size):(World.add w x).heap[b]? =w.heap[b]? :=by
 simp[World.add,Of,Nat.ne_of_lt h]
theorem KC(w:World)(x:Go.Obj):(World.add w x).heap.size=w.heap.size+1:=by simp[World.add]
theorem qm{β:BH}{h:AD}(H:HR A β w h){b:Nat}(a:MS A β h b):b<w.heap.size:=by
 rcases a with a|⟨id,o,k,_,_,c,rfl⟩
 .exact H.abnd b a
 .exact H.bnd id k c
theorem Uu{β:BH}{w:World}{h:AD}(H:HR A β w h){id:Id}(x:Go.Obj){o:Obj}{k:Sl}(l:k.b=w.heap.size):
 Ez A (MS A β h) w (MS A (β.put id k) (h.put id o)) (World.add w x) where
 pp b a _:=Jm w x a
 size:=by rw[KC];omega
 sub b a:=by
  rcases a with a|⟨g,o',j,f,i,c,rfl⟩
  .exact .inl (.inl a)
  by_cases e:g=id
  .subst e;simp at c;subst c;exact .inr AA
  .rw[CR β k e]at c;rw[AD.get_put,Co (Ne.symm e)]at f;exact .inl (.inr ⟨g,o',j,f,i,c,rfl⟩)
theorem HR.add{β:BH}{w:World}{h:AD}(H:HR A β w h){id:Id}(s:β id=none){x:Go.Obj}{o:Obj}{k:Sl}(t:k.b=w.heap.size)
 (y:Mo (β.put id k) (World.add w x) (MS A (β.put id k) (h.put id o)) k o):HR A (β.put id k) (World.add w x) (h.put id o):=by
 refine H.step (PB s) (Uu H x t) ?_ ?_ ?_ ?_
 .intro C o' l;rw[AD.get_put]at l;split at l
  .rename_i e;subst e;cases l;exact .inr ⟨k,AG,y⟩
  .exact .inl ⟨l,fun D u=>Jm w x (H.bnd _ _ u)⟩
 .intro a b q B m z g n p v c i e;rw[AD.get_put]at g n;by_cases f:a=id<;>by_cases j:b=id
  .rw[f,j]
  .subst f;simp at c;subst c;rw[CR β _ j]at i;have:=H.bnd _ _ i;omega
  .subst j;simp at i;subst i;rw[CR β _ f]at c;have:=H.bnd _ _ c;omega
  .rw[CR β _ f]at c;rw[CR β _ j]at i;rw[Co (Ne.symm f)]at g;rw[Co (Ne.symm j)]at n;exact H.inj a b q B m z g n p v c i e
 .intro a m c;rw[KC];by_cases f:a=id
  .subst f;simp at c;subst c;omega
  .rw[CR β _ f]at c;have:=H.bnd _ _ c;omega
 .intro a q m g p c r;rw[AD.get_put]at g;by_cases f:a=id
  .subst f;simp at c;subst c;have:=H.abnd _ r;omega
  .rw[CR β _ f]at c;rw[Co (Ne.symm f)]at g;exact H.out a q m g p c r
def World.ip(w:World)(b:Nat)(x:Go.Obj):World:={w with heap:=w.heap.setIfInBounds b x}
theorem JA{b:Nat}(x:Go.Obj)(h:b<w.heap.size):(World.ip w b x).heap[b]? =some x:=by simp[World.ip,h]
theorem Ff{b b':Nat}(x:Go.Obj)(h:b'≠b):(World.ip w b x).heap[b']? =w.heap[b']? :=by
 simp[World.ip,Jp,Ne.symm h]
theorem Fq(w:World)(b:Nat)(x:Go.Obj):(World.ip w b x).heap.size=w.heap.size:=by simp[World.ip]
theorem Vk{β:BH}{h:AD}{id:Id}{o o':Obj}(i:h.get id=some o)(g:o.mut=true){b:Nat}(c:MS A β (h.put id o') b):MS A β h b:=by
 rcases c with c|⟨j,l,k,a,h2,f,rfl⟩
 .exact .inl c
 rw[AD.get_put]at a;split at a
 .rename_i e;subst e;exact .inr ⟨id,o,k,i,g,f,rfl⟩
 .exact .inr ⟨j,l,k,a,h2,f,rfl⟩
variable{o':Obj}
theorem Hy{β:BH}{h:AD}(H:HR A β w h){id:Id}{k:Sl}(f:h.get id=some o)(c:o.mut=true)(g:β id=some k)(x:Go.Obj):
 Ez A (MS A β h) w (MS A β (h.put id o')) (World.ip w k.b x) where
 pp b _ a:=Ff x fun e=>a.elim (fun a=>a (.inr ⟨id,o,k,f,c,g,e.symm⟩)) (fun a=>H.out id o k f c g (e▸a))
 size:=by rw[Fq];omega
 sub b a:=.inl (Vk f c a)
theorem HR.ip{β:BH}{w:World}{h:AD}(H:HR A β w h){id:Id}{k:Sl}{o o':Obj}(p:h.get id=some o)(n:o.mut=true)(u:β id=some k){x:Go.Obj}
 (Q:Mo β (World.ip w k.b x) (MS A β (h.put id o')) k o')
 (M: ∀j sz es f,h.get j=some (.i7 sz es)→β j=some f→f.b=k.b→es=[]):HR A β (World.ip w k.b x) (h.put id o'):=by
 refine H.step (.refl β) (Hy H p n u x) ?_ ?_ ?_ ?_
 .intro j q c;rw[AD.get_put]at c;split at c
  .rename_i e;subst e;cases c;exact .inr ⟨k,u,Q⟩
  .rename_i e;obtain⟨f,m,U⟩:=H.obj j q c;by_cases t:f.b=k.b
   .cases C:q.mut with
    |true=>exact absurd (H.inj id j o q k f p c n C u m t.symm) e
    |false=>
     cases q with
     |i7 sz es=>
      have:=M j sz es f c m t;exact .inr ⟨f,m,.inl this⟩
     |_=>simp[Obj.mut]at C
   .exact .inl ⟨c,fun V B=>by rw[m]at B;cases B;exact Ff x t⟩
 .intro a b F W l R g z v O i N e;rw[AD.get_put]at g z;have y: ∀{s:Id} {r:Obj},(if id=s then some o' else h.get s)=some r→r.mut=true→ ∃I,h.get s=some I∧I.mut=true:=by
   intro s r D P;split at D
   .rename_i e;subst e;exact⟨o,p,n⟩
   .exact⟨r,D,P⟩
  obtain⟨S,J,h2⟩:=y g v;obtain⟨T,K,L⟩:=y z O;exact H.inj a b S T l R J K h2 L i N e
 .intro a l i;rw[Fq];exact H.bnd a l i
 .intro a F l g v i;rw[AD.get_put]at g;split at g
  .rename_i e;subst e;exact H.out _ _ _ p n i
  .exact H.out a F l g v i
theorem HR.i7{β:BH}{h:AD}(H:HR A β w h){id b:Id}{k f:Sl}(m:h.get id=some o)(l:o.mut=true)(i:β id=some k){sz:Nat}{es:List (List Ao)}
 (g:h.get b=some (.i7 sz es)) (j:β b=some f) (e:f.b=k.b):es=[]:=by
 obtain⟨p,c,n⟩:=H.obj b _ g;rw[j]at c;cases c;rcases n with a|⟨a,_⟩
 .exact a
 .exact absurd (.inr ⟨id,o,k,m,l,i,e.symm⟩) a
theorem HR.upd'{β:BH}{h:AD}(H:HR A β w h){id:Id}{k:Sl}(c:h.get id=some o)(b:o.mut=true)(a:β id=some k){x:Go.Obj}
 (g:Mo β (World.ip w k.b x) (MS A β (h.put id o')) k o'):HR A β (World.ip w k.b x) (h.put id o'):=
 H.ip c b a g fun _ _ _ _ e h2 f=>H.i7 c b a e h2 f
theorem vO{β:BH}{h:AD}{id:Id}(c:h.get id=some o)(b:o.mut=true):
 Ez A (MS A β h) w (MS A β (h.put id o')) w:=⟨fun _ _ _=>rfl,Es _,fun _ a=>.inl (Vk c b a),rfl,rfl⟩
theorem HR.kill{β:BH}{w:World}{h:AD}(H:HR A β w h){id:Id}{o:Obj}(s:h.get id=some o)(C:o.mut=true):HR A β w (h.put id (.i7 0 [])):=by
 obtain⟨k,z,_⟩:=H.obj id _ s;refine H.step (.refl β) (vO s C) ?_ ?_ H.bnd ?_
 .intro K L f;rw[AD.get_put]at f;split at f
  .rename_i e;subst e;cases f;exact .inr ⟨k,z,.inl rfl⟩
  .exact .inl ⟨f,fun _ _=>rfl⟩
 .intro a b t M n F c q g D l B e;rw[AD.get_put]at c q;have p: ∀{j:Id} {i:Obj},(if id=j then some (Obj.i7 0 [])else h.get j)=some i→i.mut=true→ ∃u,h.get j=some u∧u.mut=true:=by
   intro j i m r;split at m
   .cases m;simp[Obj.mut]at r
   .exact⟨i,m,r⟩
  obtain⟨I,v,h2⟩:=p c g;obtain⟨J,x,y⟩:=p q D;exact H.inj a b I J n F v x h2 y l B e
 .intro a t n c g l;rw[AD.get_put]at c;split at c
  .cases c;cases g
  .exact H.out a t n c g l
end Go.Abs
