/-
  Parts of it.
-/
import Derived.CallsIn
import Derived.DefersIn
import Derived.RangeFuncLeaves
set_option linter.all false
namespace Go
def AM:=@Bool.false_eq_true
def AP:=@Bool.and_eq_true
def AS:=@Option.get_some
def Ac:=@List.mem_of_getElem?
def Ap:=@decide_eq_true_eq
def As:=@List.mem_singleton
def BE:=@List.getElem?_eq_some_iff
def BI:=@Option.map_eq_some_iff
def BV:=@List.getElem?_eq_getElem
def BY:=@List.length_map
def Be:=@List.getElem?_append_left
def Bi:=@Option.some.injEq
def Bv:=@List.mem_flatMap
def By:=@List.map_append
def CE:=@List.length_append
def CI:=@List.getElem?_append_right
def CO:=@List.map_nil
def CS:=@List.append_nil
def Ce:=@List.all_eq_true
def Ci:=@if_neg
def Co:=@Nat.eq_of_beq_eq_true
def Cs:=@List.getElem?_map
def DL:=@List.take_of_length_le
def DO:=@List.mem_cons
def Dl:=@List.eq_nil_of_length_eq_zero
def D0:=@List.flatMap_cons
def D1:=@if_pos
def D2:=@Array.getElem?_eq_getElem
def D3:=@List.append_assoc
def D4:=@decide_eq_false
def D5:=@List.mem_append
def D6:=@Nat.le_refl
def D7:=@decide_eq_true
def D8:=@List.nil_append
def D9:=@Option.map_some
def EL:=@Bool.false_and
def EM:=@List.take_length
def ES:=@List.suffix_cons
def EX:=@Prod.mk.injEq
def El:=@List.map_cons
def Em:=@List.mem_map
def Es:=@List.getElem?_cons_zero
def Ex:=@if_false
def FD:=@List.mem_cons_of_mem
def FN:=@List.getElem?_cons_succ
def F0:=@List.all_cons
def F1:=@Bool.true_and
def F2:=@Nat.le_of_ble_eq_true
def F3:=@Array.getD_eq_getD_getElem?
def F4:=@Option.getD_some
def F5:=@if_true
def F6:=@List.drop_eq_nil_of_le
def F7:=@Int.toNat_natCast
def F8:=@List.mem_append_right
def F9:=@List.map_eq_nil_iff
def GC:=@Nat.mul_le_mul_right
def GO:=@List.mem_append_left
def GS:=@Bool.not_eq_true'
def Gc:=@List.flatMap_nil
def Ge:=@List.cons_append
def Gs:=@List.getElem?_drop
def Gt:=@Array.getElem?_toList
def HE:=@Array.getElem?_eq_some_iff
def HM:=@List.suffix_cons_iff
def HU:=@List.getElem?_set
def HW:=@Array.getElem?_setIfInBounds_ne
def He:=@List.length_take
def Hm:=@List.getElem?_of_mem
def Hw:=@Nat.add_mul
def ID:=@List.not_mem_nil
def IF:=@Option.bind_eq_some_iff
def II:=@List.mem_cons_self
def IN:=@List.length_singleton
def IP:=@Nat.le_trans
def IS:=@forall_eq_or_imp
def IT:=@Option.bind_some
def Ii:=@Option.isSome_iff_exists
def Io:=@List.getElem?_take
def Ip:=@Bool.or_eq_true
def Is:=@List.take_add_one
def It:=@Bool.false_or
def I0:=@Array.getElem?_setIfInBounds
def I1:=@Nat.zero_add
def I2:=@List.length_drop
def I3:=@Bool.and_false
def I4:=@Int.eq_ofNat_of_zero_le
def I5:=@Array.getElem?_append_left
def I6:=@Nat.zero_le
def I7:=@List.take_succ
def I8:=@Nat.le_max_left
def I9:=@List.length_eq_zero_iff
def JP:=@List.mem_of_mem_take
def Jp:=@List.mem_of_mem_drop
def KW:=@List.nodup_append
def Kw:=@List.flatten_append
def LC:=@List.flatMap_append
def LI:=@Nat.sub_self
def LM:=@List.take_append_drop
def Lc:=@List.length_replicate
def Li:=@Array.eq_empty_of_size_eq_zero
def Lm:=@Nat.lt_of_lt_of_le
def Ls:=@Nat.le_max_right
def Lt:=@List.take_append_of_le_length
def Lw:=@List.mem_flatten
def MD:=@List.getElem_mem
def MK:=@List.flatten_cons
def MP:=@Option.some.inj
def MT:=@List.foldl_cons
def Md:=@List.cons.injEq
def Mk:=@Array.length_toList
def Mp:=@Array.getElem?_push
def Ms:=@List.append_eq_nil_iff
def Mt:=@Bool.not_eq_true
def NL:=@List.mem_iff_getElem?
def NO:=@List.map_set
def Nl:=@List.getElem?_toArray
def No:=@List.getElem?_eq_none
def OF:=@Bool.and_self
def OK:=@Array.ext_getElem?
def OL:=@List.drop_eq_nil_iff
def ON:=@List.eq_of_mem_replicate
def OP:=@Bool.eq_iff_iff
def OR:=@Int.toNat_of_nonneg
def OS:=@Bool.not_true
def Of:=@List.mem_range
def Ok:=@Nat.ne_of_beq_eq_false
def Ol:=@Array.getElem?_map
def On:=@Nat.ble_eq_true_of_le
def PI:=@List.mem_filter
def PL:=@Bool.and_eq_false_iff
def PM:=@Array.mem_of_getElem?
def PU:=@or_false
def Pl:=@Nat.add_assoc
def Pm:=@List.size_toArray
def Pp:=@List.exists_cons_of_ne_nil
def Pu:=@List.mem_iff_getElem
def QR:=@List.replicate_succ
def Qr:=@Nat.mul_comm
def RC:=@Array.size_setIfInBounds
def RD:=@decide_eq_false_iff_not
def RG:=@List.cons.inj
def RO:=@List.all_append
def RS:=@List.drop_of_length_le
def RT:=@Array.size_append
def RW:=@Bool.not_false
def RX:=@Nat.succ_mul
def Rc:=@List.map_flatten
def Rd:=@List.filter_cons
def Rg:=@List.any_eq_true
def Ro:=@Nat.mod_lt
def Rs:=@Nat.blt_eq
def Rt:=@true_and
end Go
namespace Go.Abs
inductive AR where
 |int (k:IntKind) (n:Int)
 |bool (b:Bool)
 |str (s:ByteArray)
 |ce (es:List (List AR))
 |ut|i9|lc|rc
abbrev Id:=List Nat
def Id.is:Id→Id→Bool
 |[],[]=>true
 |n::l,m::k=>match Nat.beq n m with
  |true=>Id.is l k
  |false=>false
 |_,_=>false
def Id.under(ρ:Id):Id→Bool
 |[]=>Id.is ρ []
 |n::l=>match Id.is ρ (n::l)with
  |true=>true
  |false=>Id.under ρ l
inductive AV where
 |d (x:AR)
 |co
 |emp
 |f8 (id:Id) (off len:Nat)
 |ptr (id:Id) (off:Nat)
 |i7 (id:Id) (i off:Nat)
 |ol (cs:List AR)
 |fn (f:FuncId) (first cap:List AV)
 |v6 (id:Id)
 |mp (id:Id)
 |iface (t:TypeId) (v:AV)
 |agg (cs:List AV)
 |it (vs:List AV)
 |undef
abbrev BT:=List (Nat×AV)
def BT.get:BT→Nat→AV
 |[],_=>.undef
 |(k,v)::e,t=>match Nat.beq k t with
  |true=>v
  |false=>BT.get e t
structure Lp where
 state:LoopState
 rt:Option Code
 f:FuncId
 env:BT
 params:List Nat
 jp:Code
 body:Code
 nt:Nat
inductive Obj where
 |box (cs:List AV)
 |d7 (sz:Nat) (es:List (List AR))
 |i5 (sz:Nat) (es:List (List AR))
 |arr (sz:Nat) (es:List (List AV))
 |map (es:List (AR×AV))
 |loop (r:Lp)
abbrev AB:=List (Id×Obj)
def AB.get:AB→Id→Option Obj
 |[],_=>none
 |(k,o)::h,id=>match Id.is k id with
  |true=>some o
  |false=>AB.get h id
mutual
def AR.same:AR→AR→Bool
 |.int k n,.int k' m=>decide (k=k')&&decide (n=m)
 |.bool a,.bool b=>match a,b with
  |true,true=>true
  |false,false=>true
  |_,_=>false
 |.str a,.str b=>decide (a.data.toList=b.data.toList)
 |.ce a,.ce b=>AR.samess a b
 |.ut,.ut=>true
 |.i9,.i9=>true
 |.lc,.lc=>true
 |.rc,.rc=>true
 |_,_=>false
def AR.sames:List AR→List AR→Bool
 |[],[]=>true
 |x::l,y::m=>match AR.same x y with
  |true=>AR.sames l m
  |false=>false
 |_,_=>false
def AR.samess:List (List AR)→List (List AR)→Bool
 |[],[]=>true
 |x::l,y::m=>match AR.sames x y with
  |true=>AR.samess l m
  |false=>false
 |_,_=>false
end
mutual
theorem AR.same_eq: ∀{a b:AR},AR.same a b=true→a=b
 |.int k n,b,h=>by
  cases b<;>simp[AR.same]at h;rw[h.1,h.2]
 |.bool a,b,h=>by
  cases b<;>simp[AR.same]at h;rename_i b;cases a<;>cases b<;>simp at h<;>rfl
 |.str a,b,h=>by
  cases b<;>simp[AR.same]at h;rename_i b;cases a;cases b;simp at h;rw[h]
 |.ce a,b,h=>by
  cases b<;>simp[AR.same]at h;rw[AR.samess_eq h]
 |.ut,b,h=>by cases b<;>simp[AR.same]at h;rfl
 |.i9,b,h=>by cases b<;>simp[AR.same]at h;rfl
 |.lc,b,h=>by cases b<;>simp[AR.same]at h;rfl
 |.rc,b,h=>by cases b<;>simp[AR.same]at h;rfl
theorem AR.sames_eq: ∀{a b:List AR},AR.sames a b=true→a=b
 |[],b,h=>by cases b<;>simp[AR.sames]at h;rfl
 |x::l,[],h=>by simp[AR.sames]at h
 |x::l,y::m,h=>by
  unfold AR.sames at h;split at h
  .rename_i h1;rw[AR.same_eq h1,AR.sames_eq h]
  .cases h
theorem AR.samess_eq: ∀{a b:List (List AR)},AR.samess a b=true→a=b
 |[],b,h=>by cases b<;>simp[AR.samess]at h;rfl
 |x::l,[],h=>by simp[AR.samess]at h
 |x::l,y::m,h=>by
  unfold AR.samess at h;split at h
  .rename_i h1;rw[AR.sames_eq h1,AR.samess_eq h]
  .cases h
end
theorem Id.is_eq: ∀{a b:Id},Id.is a b=true→a=b
 |[],[],_=>rfl
 |[],_::_,h=>by simp[Id.is]at h
 |_::_,[],h=>by simp[Id.is]at h
 |n::l,m::k,h=>by
  unfold Id.is at h;split at h
  .rename_i h1;rw[Co h1,Id.is_eq h]
  .cases h
mutual
def AV.same:AV→AV→Bool
 |.d x,.d y=>AR.same x y
 |.co,.co=>true
 |.emp,.emp=>true
 |.f8 i a b,.f8 j a' b'=>Id.is i j&&(Nat.beq a a'&&Nat.beq b b')
 |.ptr i a,.ptr j b=>Id.is i j&&Nat.beq a b
 |.i7 i a b,.i7 j a' b'=>Id.is i j&&(Nat.beq a a'&&Nat.beq b b')
 |.fn f a b,.fn g a' b'=>Nat.beq f g&&(AV.sames a a'&&AV.sames b b')
 |.v6 i,.v6 j=>Id.is i j
 |.mp i,.mp j=>Id.is i j
 |.iface t v,.iface u w=>Nat.beq t u&&AV.same v w
 |.agg l,.agg m=>AV.sames l m
 |.it l,.it m=>AV.sames l m
 |.undef,.undef=>true
 |_,_=>false
def AV.sames:List AV→List AV→Bool
 |[],[]=>true
 |x::l,y::m=>match AV.same x y with
  |true=>AV.sames l m
  |false=>false
 |_,_=>false
end
mutual
theorem AV.same_eq: ∀{a b:AV},AV.same a b=true→a=b
 |.d x,b,h=>by
  cases b<;>simp[AV.same]at h;rw[AR.same_eq h]
 |.agg l,b,h=>by
  cases b<;>simp[AV.same]at h;rw[AV.sames_eq h]
 |.it l,b,h=>by
  cases b<;>simp[AV.same]at h;rw[AV.sames_eq h]
 |.co,b,h=>by cases b<;>simp[AV.same]at h;rfl
 |.emp,b,h=>by cases b<;>simp[AV.same]at h;rfl
 |.undef,b,h=>by cases b<;>simp[AV.same]at h;rfl
 |.f8 ..,b,h=>by
  cases b<;>simp[AV.same]at h;rw[Id.is_eq h.1,h.2.1,h.2.2]
 |.ptr ..,b,h=>by
  cases b<;>simp[AV.same]at h;rw[Id.is_eq h.1,h.2]
 |.i7 ..,b,h=>by
  cases b<;>simp[AV.same]at h;rw[Id.is_eq h.1,h.2.1,h.2.2]
 |.ol _,b,h=>by simp[AV.same]at h
 |.fn f a c,b,h=>by
  cases b<;>simp[AV.same]at h;rw[h.1,AV.sames_eq h.2.1,AV.sames_eq h.2.2]
 |.v6 _,b,h=>by
  cases b<;>simp[AV.same]at h;rw[Id.is_eq h]
 |.mp _,b,h=>by
  cases b<;>simp[AV.same]at h;rw[Id.is_eq h]
 |.iface t v,b,h=>by
  cases b<;>simp[AV.same]at h;rw[h.1,AV.same_eq h.2]
theorem AV.sames_eq: ∀{a b:List AV},AV.sames a b=true→a=b
 |[],b,h=>by cases b<;>simp[AV.sames]at h;rfl
 |x::l,[],h=>by simp[AV.sames]at h
 |x::l,y::m,h=>by
  unfold AV.sames at h;split at h
  .rename_i h1;rw[AV.same_eq h1,AV.sames_eq h]
  .cases h
end
def Obj.same:Obj→Option Obj→Bool
 |.box l,some (.box m)=>AV.sames l m
 |.d7 a l,some (.d7 b m)=>Nat.beq a b&&AR.samess l m
 |.i5 a l,some (.i5 b m)=>Nat.beq a b&&AR.samess l m
 |_,_=>false
theorem Obj.same_eq{a:Obj}{b:Option Obj}(h:Obj.same a b=true):b=some a:=by
 unfold Obj.same at h;split at h
 .rw[AV.sames_eq h]
 .simp only[AP]at h;rw[Co h.1,AR.samess_eq h.2]
 .simp only[AP]at h;rw[Co h.1,AR.samess_eq h.2]
 .cases h
def TL(h h':AB):List Id:=((h++h').filter fun p=>match h.get p.1 with
 |some o=> !Obj.same o (h'.get p.1)
 |none=>true).map (·.1)
theorem AB.get_mem: ∀{h:AB} {id:Id} {o:Obj},h.get id=some o→(id,o)∈h
 |[],_,_,hg=>by cases hg
 |(k,o')::h,id,o,hg=>by
  unfold AB.get at hg;split at hg
  .rename_i h1;cases hg;rw[Id.is_eq h1];simp
  .exact FD _ (AB.get_mem hg)
theorem gl{h h':AB}{id:Id}(hi:id∉TL h h'):h'.get id=h.get id:=by
 have key: ∀o,(id,o)∈h++h'→h'.get id=h.get id:=fun o ho=>by
  have: ¬(match h.get id with|some o=> !Obj.same o (h'.get id)|none=>true)=true:=fun hc=>
   hi (Em.2 ⟨(id,o),PI.2 ⟨ho,hc⟩,rfl⟩)
  split at this
  .rename_i o2 h2;rw[h2];exact Obj.same_eq (by simpa using this)
  .exact absurd rfl this
 cases h1:h.get id with
 |some o=>rw[←h1];exact key o (GO _ (AB.get_mem h1))
 |none=>cases h2:h'.get id with
  |some o=>rw[←h1,←h2];exact key o (F8 _ (AB.get_mem h2))
  |none=>rfl
def AB.put:AB→Id→Obj→AB
 |[],id,o=>[(id,o)]
 |(k,x)::h,id,o=>match Id.is k id with
  |true=>(k,o)::h
  |false=>(k,x)::AB.put h id o
def AB.puts(h:AB)(δ:AB):AB:=δ.foldl (fun h p=>h.put p.1 p.2) h
inductive TK where
 |bool|int|str|func|ptr|iface|slice|map|other
 |flat (ks:List TK)
 |arr (n:Nat)
structure TI where
 kind:TK
 size:Nat
 agg:Bool
 str:Bool
 zero:List AV
 flds:List (Nat×Nat×Bool)
 elem:TypeId
 key:TypeId
 mix:Bool
inductive Mode where
 |auto|own|raw|ro
 deriving DecidableEq
structure B9 where
 T:TypeId→Option TI
 mode:FuncId→Mode
 live:FuncId→Nat→List Nat
 d8:FuncId→Nat→List (Nat×Nat)
 alone:FuncId→Nat→Nat→Bool
 of:FuncId→Option TypeId
 wp:TypeId→String→Option FuncId
 i6:FuncId→Bool
def Cv:Value→AV
 |.int k n=>.d (.int k n)
 |.bool b=>.d (.bool b)
 |.string s=>.d (.str s)
 |.slice none 0 0=>.co
 |.pointer none=>.d .ut
 |.nilFunc=>.d .i9
 |.nilIface=>.d .lc
 |.map none=>.d .rc
 |_=>.undef
def ev(e:Nat→AV):Operand→AV
 |.tmp t=>e t
 |.const v=>Cv v
 |.func f=>.fn f [] []
 |.global _=>.undef
def AV.cells:AV→List AV
 |.agg cs=>cs
 |v=>[v]
def AV.isCell:AV→Bool
 |.agg _=>false
 |.it _=>false
 |.undef=>false
 |_=>true
def E2(agg:Bool)(cs:List AV):Option AV:=
 if agg then some (.agg cs)else match cs with
  |[c]=>some c
  |_=>none
def Ix{α:Type}(l:List α)(off n:Nat):Option (List α):=
 if off+n≤l.length then some ((l.drop off).take n)else none
def Bj{α:Type}(l:List α)(off:Nat)(new:List α):Option (List α):=
 if off+new.length≤l.length then some (l.take off++new++l.drop (off+new.length))else none
structure Br where
 v:AV
 δ:AB:=[]
abbrev G:=Id→Option Obj
def NH:Option Obj→Option (List (List AV))
 |some (.d7 _ es)=>some (es.map (·.map .d))
 |some (.i5 _ es)=>some (es.map (·.map .d))
 |some (.arr _ es)=>some es
 |_=>none
def IW(g:G)(i:TI):AV→Option AV
 |.ptr id off=>match g id with
  |some (.box cs)=>(Ix cs off i.size).bind (E2 i.agg)
  |_=>none
 |.i7 id k off=>match g id with
  |some (.d7 _ es)=>match es[k]? with
   |some e=>(Ix e off i.size).bind fun ds=>E2 i.agg (ds.map .d)
   |none=>none
  |some (.i5 _ es)=>match es[k]? with
   |some e=>(Ix e off i.size).bind fun ds=>E2 i.agg (ds.map .d)
   |none=>none
  |some (.arr _ es)=>match es[k]? with
   |some e=>(Ix e off i.size).bind (E2 i.agg)
   |none=>none
  |_=>none
 |.ol cs=>(Ix cs 0 i.size).bind fun ds=>E2 i.agg (ds.map .d)
 |_=>none
section force
variable{α:Type}
def Hi(n:Nat)(k:Nat→α):α:=match n with
 |0=>k 0
 |m+1=>k (Nat.succ m)
def zL(b:Bool)(k:Bool→α):α:=match b with
 |true=>k true
 |false=>k false
def AAC(n:Int)(k:Int→α):α:=match n with
 |.ofNat m=>Hi m fun m=>k (.ofNat m)
 |.negSucc m=>Hi m fun m=>k (.negSucc m)
def zN(x:IntKind)(k:IntKind→α):α:=match x with
 |.i8=>k .i8|.i16=>k .i16|.i32=>k .i32|.i64=>k .i64
 |.u8=>k .u8|.u16=>k .u16|.u32=>k .u32|.u64=>k .u64
def NX(l:List Nat)(k:List Nat→α):α:=match l with
 |[]=>k []
 |n::l=>Hi n fun n=>NX l fun l=>k (n::l)
def iC(x:AR)(k:AR→α):α:=match x with
 |.int kd n=>zN kd fun kd=>AAC n fun n=>k (.int kd n)
 |.bool b=>zL b fun b=>k (.bool b)
 |.str s=>k (.str s)
 |.ce es=>k (.ce es)
 |.ut=>k .ut
 |.i9=>k .i9
 |.lc=>k .lc
 |.rc=>k .rc
def XH(l:List AR)(k:List AR→α):α:=match l with
 |[]=>k []
 |x::l=>iC x fun x=>XH l fun l=>k (x::l)
def OY(l:List (List AR))(k:List (List AR)→α):α:=match l with
 |[]=>k []
 |x::l=>XH x fun x=>OY l fun l=>k (x::l)
def pk(x:AR)(k:AR→α):α:=match x with
 |.ce es=>OY es fun es=>k (.ce es)
 |x=>iC x k
def pj(v:AV)(k:AV→α):α:=match v with
 |.d x=>pk x fun x=>k (.d x)
 |.co=>k .co
 |.emp=>k .emp
 |.f8 id off len=>NX id fun id=>Hi off fun off=>Hi len fun len=>k (.f8 id off len)
 |.ptr id off=>NX id fun id=>Hi off fun off=>k (.ptr id off)
 |.i7 id i off=>NX id fun id=>Hi i fun i=>Hi off fun off=>k (.i7 id i off)
 |.ol cs=>XH cs fun cs=>k (.ol cs)
 |.fn f a b=>Hi f fun f=>k (.fn f a b)
 |.v6 id=>NX id fun id=>k (.v6 id)
 |.mp id=>NX id fun id=>k (.mp id)
 |.iface t v=>Hi t fun t=>k (.iface t v)
 |.agg cs=>k (.agg cs)
 |.it vs=>k (.it vs)
 |.undef=>k .undef
def Qq(l:List AV)(k:List AV→α):α:=match l with
 |[]=>k []
 |x::l=>pj x fun x=>Qq l fun l=>k (x::l)
def Z8(v:AV)(k:AV→α):α:=match v with
 |.agg cs=>Qq cs fun cs=>k (.agg cs)
 |.it vs=>Qq vs fun vs=>k (.it vs)
 |.fn f a b=>Hi f fun f=>Qq a fun a=>Qq b fun b=>k (.fn f a b)
 |.iface t v=>Hi t fun t=>pj v fun v=>k (.iface t v)
 |v=>pj v k
def Ky(l:List AV)(k:List AV→α):α:=match l with
 |[]=>k []
 |x::l=>Z8 x fun x=>Ky l fun l=>k (x::l)
def fAV(v:AV)(k:AV→α):α:=match v with
 |.it vs=>Ky vs fun vs=>k (.it vs)
 |.agg cs=>Ky cs fun cs=>k (.agg cs)
 |.iface t v=>Hi t fun t=>Z8 v fun v=>k (.iface t v)
 |v=>Z8 v k
def eh(l:List (List AV))(k:List (List AV)→α):α:=match l with
 |[]=>k []
 |x::l=>Ky x fun x=>eh l fun l=>k (x::l)
def NW(l:List (AR×AV))(k:List (AR×AV)→α):α:=match l with
 |[]=>k []
 |(x,v)::l=>iC x fun x=>Z8 v fun v=>NW l fun l=>k ((x,v)::l)
def AAD(o:Obj)(k:Obj→α):α:=match o with
 |.box cs=>Ky cs fun cs=>k (.box cs)
 |.d7 sz es=>Hi sz fun sz=>OY es fun es=>k (.d7 sz es)
 |.i5 sz es=>Hi sz fun sz=>OY es fun es=>k (.i5 sz es)
 |.arr sz es=>Hi sz fun sz=>eh es fun es=>k (.arr sz es)
 |.map es=>NW es fun es=>k (.map es)
 |.loop r=>k (.loop r)
def Qs(h:AB)(k:AB→α):α:=match h with
 |[]=>k []
 |(id,o)::h=>NX id fun id=>AAD o fun o=>Qs h fun h=>k ((id,o)::h)
def GI(h:AB)(k:AB→α):α:=match h with
 |[]=>k []
 |(id,o)::h=>GI h fun h=>k ((id,o)::h)
def vg(e:BT)(k:BT→α):α:=match e with
 |[]=>k []
 |(t,v)::e=>Hi t fun t=>Z8 v fun v=>vg e fun e=>k ((t,v)::e)
def TV(e:BT)(k:BT→α):α:=match e with
 |[]=>k []
 |p::e=>k (p::e)
end force
def Ee(g:G):AV→Option AR
 |.d x=>some x
 |.co=>some (.ce [])
 |.emp=>some (.ce [])
 |.f8 id off n=>match g id with
  |some (.d7 _ es)=>(Ix es off n).map .ce
  |some (.i5 _ es)=>(Ix es off n).map .ce
  |_=>none
 |_=>none
def CU(g:G):List AV→Option (List AR)
 |[]=>some []
 |v::vs=>match Ee g v,CU g vs with
  |some x,some xs=>some (x::xs)
  |_,_=>none
def Cb(g:G):List (List AV)→Option (List (List AR))
 |[]=>some []
 |v::vs=>match CU g v,Cb g vs with
  |some x,some xs=>some (x::xs)
  |_,_=>none
def DJ(g:G):AV→Option AR
 |.f8 id off n=>match g id with
  |some (.arr _ es)=>match Cb g es with
   |some ds=>(Ix ds off n).map .ce
   |none=>none
  |_=>Ee g (.f8 id off n)
 |v=>Ee g v
def GJ(g:G):List AV→Option (List AV)
 |[]=>some []
 |v::vs=>match DJ g v,GJ g vs with
  |some x,some xs=>some (.d x::xs)
  |_,_=>none
def Dz(g:G):AV→Option AV
 |.agg cs=>(GJ g cs).map .agg
 |.fn f [] []=>some (.fn f [] [])
 |.iface t (.agg cs)=>(GJ g cs).map fun c=>.iface t (.agg c)
 |.iface t v=>(DJ g v).map fun x=>.iface t (.d x)
 |v=>(DJ g v).map .d
def DQ(g:G):List AV→Option (List AV)
 |[]=>some []
 |v::vs=>match Dz g v,DQ g vs with
  |some x,some xs=>some (x::xs)
  |_,_=>none
def V8(g:G):AV→Option AV
 |.it vs=>(DQ g vs).map .it
 |v=>Dz g v
def JI(g:G):AV→AB
 |.f8 id _ _=>match g id with
  |some (.d7 sz es)=>[(id,.i5 sz es)]
  |_=>[]
 |_=>[]
def Ba(g:G)(l:List AV):AB:=l.flatMap (JI g)
def E1(g:G):AV→AB
 |.f8 id off n=>match g id with
  |some (.d7 sz es)=>[(id,.i5 sz es)]
  |some (.arr sz es)=>match Cb g es with
   |some ds=>(id,.i5 sz ds)::es.flatMap (Ba g)
   |none=>[]
  |_=>[]
 |_=>[]
def Jy:AV→List AV
 |.agg cs=>cs
 |.iface _ (.agg cs)=>cs
 |.iface _ v=>[v]
 |v=>[v]
def mark(g:G)(v:AV):AB:=(Jy v).flatMap (E1 g)
def Dg:AR→Bool
 |.ce _=>false
 |_=>true
def E0:List AV→Bool
 |[]=>true
 |.d x::vs=>Dg x&&E0 vs
 |_=>false
def flat:AV→Bool
 |.d x=>Dg x
 |.co=>true
 |.emp=>true
 |.agg cs=>E0 cs
 |.it vs=>E0 vs
 |.iface _ (.d x)=>Dg x
 |.iface _ (.agg cs)=>E0 cs
 |_=>false
def BK(v:AV)(h:AB):Option (Id×Obj):=
 match v with
 |.f8 id _ _=>match h.get id with
  |some (.d7 sz es)=>if es.all (·.all Dg)then some (id,.d7 sz es)else none
  |_=>none
 |_=>none
def LA(id:Id)(δ:AB):Bool:=δ.all fun p=> !Id.is p.1 id
def Iq(g:G)(i:TI)(a v:AV):Option Br:=
 match v.cells.length==i.size&&v.cells.all AV.isCell with
 |false=>none
 |true=>match a with
  |.ptr id off=>match g id with
   |some (.box cs)=>(Bj cs off v.cells).map fun cs'=>⟨.undef,[(id,.box cs')]⟩
   |_=>none
  |.i7 id k off=>match g id with
   |some (.d7 sz es)=>match es[k]?,CU g v.cells,LA id (Ba g v.cells)with
    |some e,some ds,true=>(Bj e off ds).map fun e'=>⟨.undef,Ba g v.cells++[(id,.d7 sz (es.set k e'))]⟩
    |_,_,_=>none
   |some (.arr sz es)=>match es[k]? with
    |some e=>(Bj e off v.cells).map fun e'=>⟨.undef,[(id,.arr sz (es.set k e'))]⟩
    |none=>none
   |_=>none
  |_=>none
def GB{α:Type}(sz:Nat):Nat→List α→List (List α)
 |0,_=>[]
 |n+1,l=>l.take sz::GB sz n (l.drop sz)
def Az:Nat:=2 ^ 30
def newArr(g:G)(newId:Id)(j:TI)(es:List (List AV)):Option Br:=
 match es.all (fun e=>e.length==j.size&&e.all AV.isCell)&&Nat.blt 0 j.size&&Nat.ble es.length Az with
 |false=>none
 |true=>match j.mix with
  |true=>some ⟨.f8 (1::newId) 0 es.length,[(1::newId,.arr j.size es)]⟩
  |false=>match Cb g es with
   |some ds=>some ⟨.f8 (1::newId) 0 es.length,es.flatMap (Ba g)++[(1::newId,.d7 j.size ds)]⟩
   |none=>none
def DI(g:G):AV→Option (List (List AV))
 |.d (.ce es)=>some (es.map (·.map .d))
 |.co=>some []
 |.emp=>some []
 |.f8 id off n=>(NH (g id)).bind fun es=>Ix es off n
 |_=>none
def appIn(g:G)(newId:Id)(id:Id)(off n sz:Nat)(es:List (List AR))(src:List (List AV)):Option Br:=
 match Cb g src,LA id (src.flatMap (Ba g))with
 |some ds,true=>match Bj es (off+n) ds with
  |some es'=>some ⟨.f8 id off (n+ds.length),src.flatMap (Ba g)++[(id,.d7 sz es')]⟩
  |none=>match Nat.beq off 0&&Nat.ble (n+ds.length) Az with
   |true=>some ⟨.f8 (1::newId) 0 (n+ds.length),src.flatMap (Ba g)++[(id,.i5 0 []),(1::newId,.d7 sz (es.take n++ds))]⟩
   |false=>none
 |_,_=>none
def appMix(newId:Id)(id:Id)(off n sz:Nat)(es:List (List AV))(src:List (List AV)):Option Br:=
 match Bj es (off+n) src with
 |some es'=>some ⟨.f8 id off (n+src.length),[(id,.arr sz es')]⟩
 |none=>match Nat.beq off 0&&Nat.ble (n+src.length) Az with
  |true=>some ⟨.f8 (1::newId) 0 (n+src.length),[(id,.i5 0 []),(1::newId,.arr sz (es.take n++src))]⟩
  |false=>none
def appTo(g:G)(newId:Id)(j:TI)(s:AV)(src:List (List AV)):Option Br:=
 match s with
 |.co=>newArr g newId j src
 |.emp=>newArr g newId j src
 |.f8 id off n=>match g id with
  |some (.d7 sz es)=>match Nat.beq sz j.size&&Nat.ble (off+n) es.length with
   |true=>appIn g newId id off n sz es src
   |false=>none
  |some (.arr sz es)=>match Nat.beq sz j.size&&Nat.ble (off+n) es.length with
   |true=>appMix newId id off n sz es src
   |false=>none
  |_=>none
 |_=>none
def appendV(g:G)(newId:Id)(j:TI)(s x:AV):Option Br:=
 match DI g x with
 |none=>none
 |some []=>match s with
  |.co=>some ⟨.co,[]⟩
  |.emp=>some ⟨.emp,[]⟩
  |.f8 id off n=>some ⟨.f8 id off n,[]⟩
  |_=>none
 |some src=>match src.all (fun c=>c.length==j.size&&c.all AV.isCell)&&Nat.ble src.length Az&&Nat.blt 0 j.size with
  |true=>appTo g newId j s src
  |false=>none
def E5(op:BinOp)(k:IntKind)(a b:Int):Option AV:=
 match op with
 |.add=>some (.d (.int k (k.wrap (a+b))))
 |.sub=>some (.d (.int k (k.wrap (a-b))))
 |.mul=>some (.d (.int k (k.wrap (a*b))))
 |.eql=>some (.d (.bool (a==b)))
 |.neq=>some (.d (.bool (a !=b)))
 |.lss=>some (.d (.bool (decide (a<b))))
 |.leq=>some (.d (.bool (decide (a≤b))))
 |.gtr=>some (.d (.bool (decide (b<a))))
 |.geq=>some (.d (.bool (decide (b≤a))))
 |.rem=>if b=0 then none else some (.d (.int k (a.tmod b)))
 |.quo=>if b=0 then none else some (.d (.int k (k.wrap (a.tdiv b))))
 |_=>none
def Fy:TK→AV→AV→Option Bool
 |.int,.d (.int k a),.d (.int k' b)=>if k=k' then some (a==b)else none
 |.bool,.d (.bool a),.d (.bool b)=>some (a==b)
 |.str,.d (.str a),.d (.str b)=>some (a==b)
 |_,_,_=>none
def Dx:List TK→List AV→List AV→Option Bool
 |[],[],[]=>some true
 |t::ts,x::xs,y::ys=>match Fy t x y,Dx ts xs ys with
  |some a,some b=>some (a&&b)
  |_,_=>none
 |_,_,_=>none
def IA:TK→AV→AV→Option Bool
 |.flat ks,.agg cs,.agg ds=>Dx ks cs ds
 |.func,.fn ..,.d .i9=>some false
 |.func,.d .i9,.d .i9=>some true
 |.ptr,.ptr ..,.d .ut=>some false
 |.ptr,.d .ut,.d .ut=>some true
 |.iface,.iface ..,.d .lc=>some false
 |.slice,.d (.ce (_::_)),.co=>some false
 |.slice,.f8 _ _ (_+1),.co=>some false
 |.slice,.co,.co=>some true
 |.bool,x,y=>Fy .bool x y
 |.str,x,y=>Fy .str x y
 |_,_,_=>none
def tf(op:BinOp)(a b:ByteArray):Option AV:=
 match op with
 |.lss=>some (.d (.bool (Op.bytesLess a.toList b.toList)))
 |.leq=>some (.d (.bool (Op.bytesLess a.toList b.toList||a.toList==b.toList)))
 |.gtr=>some (.d (.bool (!(Op.bytesLess a.toList b.toList||a.toList==b.toList))))
 |.geq=>some (.d (.bool (!Op.bytesLess a.toList b.toList)))
 |_=>none
def ACd(op:BinOp):AV→AV→Option AV
 |.d (.str a),.d (.str b)=>tf op a b
 |_,_=>none
def IB(op:BinOp)(x y:AV)(t:Option TI):Option AV:=
 match x,y with
 |.d (.int k a),.d (.int k' b)=>if k=k' then E5 op k a b else none
 |x,y=>match t with
  |some i=>match op,IA i.kind x y with
   |.eql,some b=>some (.d (.bool b))
   |.neq,some b=>some (.d (.bool (!b)))
   |_,_=>ACd op x y
  |none=>none
def X0:Operand→Bool
 |.const _=>true
 |_=>false
def sK(c:Bool)(op:BinOp):AV→AV→Option TI→Option AV
 |.d .lc,.d .lc,some i=>match c,i.kind,op with
  |true,.iface,.eql=>some (.d (.bool true))
  |true,.iface,.neq=>some (.d (.bool false))
  |_,_,_=>none
 |_,_,_=>none
def orV:Option AV→Option AV→Option AV
 |some v,_=>some v
 |none,r=>r
def fo(c:Bool)(op:BinOp)(x y:AV)(t:Option TI):Option AV:=orV (IB op x y t) (sK c op x y t)
def VX(g:G):TK→AV→Option Nat
 |.slice,.d (.ce es)=>some es.length
 |.str,.d (.str s)=>some s.size
 |.slice,.co=>some 0
 |.slice,.emp=>some 0
 |.slice,.f8 _ _ n=>some n
 |.map,.mp id=>match g id with
  |some (.map es)=>some es.length
  |_=>none
 |_,_=>none
def CG:(place:Nat→Option (Nat×Nat))→List AV→List (Nat×AV)→Option (List AV)
 |_,cs,[]=>some cs
 |pl,cs,(i,v)::ps=>match pl i with
  |some (off,size)=>if v.cells.length=size∧v.cells.all AV.isCell then(Bj cs off v.cells).bind fun cs'=>CG pl cs' ps else none
  |none=>none
def HX:AV→Option Int
 |.d (.int _ n)=>some n
 |_=>none
def Gg:Option AV→Int→Option Int
 |none,d=>some d
 |some v,_=>HX v
def DY(lo hi mx:Option AV)(n:Nat):Option (Nat×Nat×Option Nat):=
 match Gg lo 0,Gg hi n with
 |some l,some r=>match mx with
  |none=>if 0≤l∧l≤r then some (l.toNat,r.toNat,none)else none
  |some m=>match hi,HX m with
   |some _,some m=>if 0≤l∧l≤r∧r≤m then some (l.toNat,r.toNat,some m.toNat)else none
   |_,_=>none
 |_,_=>none
def Lf(sz:Nat)(es:List (List AR)):Bool:=match es with
 |[]=>true
 |e::_=>Nat.beq e.length sz
def O2(sz:Nat)(es:List (List AR)):Option (Nat×Nat×Option Nat)→Option AV
 |some (l,r,m)=>match Nat.ble r es.length&&Lf sz es with
  |true=>match m with
   |none=>some (.d (.ce ((es.drop l).take (r-l))))
   |some m=>match Nat.beq m l with
    |true=>some .emp
    |false=>none
  |false=>none
 |none=>none
def aD(sz:Nat)(id:Id)(off l r:Nat)(m:Option Nat)(s n:Nat):Option AV:=
 match Nat.beq s sz&&Nat.ble (off+m.getD r) n&&Nat.ble (off+r) n&&Nat.blt 0 n with
 |true=>match m with
  |none=>some (.f8 id (off+l) (r-l))
  |some m=>match Nat.beq m l with
   |true=>some .emp
   |false=>some .undef
 |false=>none
def M6(g:G)(sz:Nat)(id:Id)(off:Nat):Option (Nat×Nat×Option Nat)→Option AV
 |some (l,r,m)=>match g id with
  |some (.d7 s es)=>aD sz id off l r m s es.length
  |some (.i5 s es)=>aD sz id off l r m s es.length
  |some (.arr s es)=>aD sz id off l r m s es.length
  |_=>none
 |none=>none
def ZF:Option (Nat×Nat×Option Nat)→Option AV
 |some (0,0,none)=>some .co
 |some (0,0,some 0)=>some .emp
 |_=>none
def tS(s:ByteArray):Option (Nat×Nat×Option Nat)→Option AV
 |some (l,r,none)=>if r≤s.size then some (.d (.str (s.extract l r)))else none
 |_=>none
def ET(g:G)(k:TK)(sz:Nat)(x:AV)(lo hi mx:Option AV):Option AV:=
 match k,x with
 |.slice,.d (.ce es)=>O2 sz es (DY lo hi mx es.length)
 |.slice,.f8 id off n=>M6 g sz id off (DY lo hi mx n)
 |.slice,.co=>ZF (DY lo hi mx 0)
 |.str,.d (.str s)=>tS s (DY lo hi mx s.size)
 |_,_=>none
def Di(e:Nat→AV)(ps:Array (Nat×Operand)):List (Nat×AV):=ps.toList.map fun p=>(p.1,ev e p.2)
def GY:AR→AR→Option Bool
 |.int k a,.int k' b=>if k=k' then some (a==b)else none
 |.str a,.str b=>some (a==b)
 |.bool a,.bool b=>some (a==b)
 |_,_=>none
def Ca:List (AR×AV)→AR→Option (Option AV)
 |[],_=>some none
 |(k,v)::es,x=>match GY k x with
  |some true=>some (some v)
  |some false=>Ca es x
  |none=>none
def Dm:List (AR×AV)→AR→AV→List (AR×AV)
 |[],x,v=>[(x,v)]
 |(k,w)::es,x,v=>match GY k x with
  |some true=>(k,v)::es
  |_=>(k,w)::Dm es x v
def Ks:AV→Option AR
 |.d x=>some x
 |_=>none
def JH:TK→AR→Bool
 |.int,.int ..=>true
 |.str,.str _=>true
 |.bool,.bool _=>true
 |_,_=>false
def mapPut(T:TypeId→Option TI)(g:G)(t:Option TI)(m k v:AV):Option Br:=
 match(match t,Ks k with
  |some i,some x=>match i.kind,T i.key with
   |.map,some kt=>JH kt.kind x&&v.isCell
   |_,_=>false
  |_,_=>false)with
 |false=>none
 |true=>match m,Ks k with
 |.mp id,some x=>match g id with
  |some (.map es)=>match Ca es x with
   |some _=>some ⟨.undef,[(id,.map (Dm es x v))]⟩
   |none=>none
  |_=>none
 |_,_=>none
section ops
variable(T:TypeId→Option TI)(e:Nat→AV)(g:G)(newId:Id)
def Mv(c a b:AV):Option Br:=match c with
 |.d (.bool t)=>some ⟨match t with|true=>a|false=>b,[]⟩
 |_=>none
def JL:Option TI→Option Br
 |some i=>if i.zero.length=i.size∧i.zero.all AV.isCell then some ⟨.ptr (0::newId) 0,[(0::newId,.box i.zero)]⟩else none
 |none=>none
def PY(x:AV):Option TI→Option Br
 |some i=>if x.cells.length=i.size∧x.cells.all AV.isCell then some ⟨.ptr (0::newId) 0,[(0::newId,.box x.cells)]⟩else none
 |none=>none
def JM(ps:List (Nat×AV)):Option TI→Option Br
 |some i=>match i.str&&i.zero.length==i.size with
  |false=>none
  |true=>(CG (fun k=>(i.flds[k]?).map fun f=>(f.1,f.2.1)) i.zero ps).map fun cs=>⟨.agg cs,[]⟩
 |none=>none
def Fx(n:Nat)(ps:List (Nat×AV))(j:TI):Option Br:=
 match CG (fun k=>some (k*j.size,j.size)) ((List.replicate n j.zero).flatten) ps with
 |some cs=>match n with
  |0=>some ⟨.emp,[]⟩
  |n=>match Nat.ble (n*j.size) (2 ^ 24)&&j.zero.length==j.size with
   |true=>newArr g newId j (GB j.size n cs)
   |false=>none
 |none=>none
def CB(n:Nat)(ps:List (Nat×AV)):Option TI→Option Br
 |some i=>match i.kind,T i.elem with
  |.slice,some j=>Fx g newId n ps j
  |_,_=>none
 |none=>none
def KQ(a:AV):Option TI→Option Br
 |some i=>(IW g i a).map (⟨·,[]⟩)
 |none=>none
def Hn(a x:AV):Option TI→Option Br
 |some i=>Iq g i a x
 |none=>none
def Fb:AV→Option Br
 |.ptr id off=>some ⟨.ptr id off,[]⟩
 |.i7 id k off=>some ⟨.i7 id k off,[]⟩
 |.ol cs=>some ⟨.ol cs,[]⟩
 |_=>none
def fI:AV→Option Br
 |.d (.bool b)=>some ⟨.d (.bool (!b)),[]⟩
 |_=>none
def HI(t:TypeId):AV→Option TI→Option Br
 |.iface t' v,some i=>match i.kind with
  |.iface=>none
  |_=>if t'=t then some ⟨.it [v,.d (.bool true)],[]⟩else(E2 i.agg i.zero).map fun z=>⟨.it [z,.d (.bool false)],[]⟩
 |_,_=>none
def KK(ok:Bool)(r:Option AV)(j:TI):Option Br:=
 match r,E2 j.agg j.zero with
 |some v,_=>some ⟨match ok with|true=>.it [v,.d (.bool true)]|false=>v,[]⟩
 |none,some z=>some ⟨match ok with|true=>.it [z,.d (.bool false)]|false=>z,[]⟩
 |_,_=>none
def Ei(m k:AV)(ok:Bool):Option TI→Option Br
 |some i=>match m,Ks k,i.kind,T i.key with
  |.mp id,some x,.map,some kt=>match JH kt.kind x,g id with
   |true,some (.map es)=>match Ca es x,T i.elem with
    |some r,some j=>KK ok r j
    |_,_=>none
   |_,_=>none
  |_,_,_,_=>none
 |none=>none
def FO(n:Nat)(j:TI):Option Br:=match n with
 |0=>some ⟨.emp,[]⟩
 |n=>newArr g newId j (List.replicate n j.zero)
def CL(l c:AV):Option TI→Option Br
 |some i=>match i.kind,T i.elem,l,c with
  |.slice,some j,.d (.int _ n),.d (.int _ m)=>if 0≤n∧n=m∧n≤Az then FO g newId n.toNat j else none
  |_,_,_,_=>none
 |none=>none
def Dv(k:Nat)(x:AV):Option TI→Option Br
 |some i=>match i.flds[k]? with
  |some f=>match f.2.1 with
   |0=>none
   |_=>match x with
    |.ptr id off=>some ⟨.ptr id (off+f.1),[]⟩
    |.i7 id n off=>some ⟨.i7 id n (off+f.1),[]⟩
    |.ol cs=>if f.1≤cs.length then some ⟨.ol (cs.drop f.1),[]⟩else none
    |_=>none
  |none=>none
 |none=>none
def L1(k:Nat)(x:AV):Option TI→Option Br
 |some i=>match i.flds[k]?,x with
  |some f,.agg cs=>((Ix cs f.1 f.2.1).bind (E2 f.2.2)).map (⟨·,[]⟩)
  |_,_=>none
 |none=>none
def MO(n:Int)(x:AV)(j:TI):Option Br:=
 if 0≤n then match x with
  |.d (.ce es)=>match es[n.toNat]? with
   |some c=>match Nat.beq c.length j.size with
    |true=>some ⟨.ol c,[]⟩
    |false=>none
   |none=>none
  |.f8 id off len=>if n.toNat<len then match g id with
   |some (.d7 sz es)=>if sz=j.size∧off+n.toNat<es.length then some ⟨.i7 id (off+n.toNat) 0,[]⟩else none
   |some (.i5 sz es)=>if sz=j.size∧off+n.toNat<es.length then some ⟨.i7 id (off+n.toNat) 0,[]⟩else none
   |some (.arr sz es)=>if sz=j.size∧off+n.toNat<es.length then some ⟨.i7 id (off+n.toNat) 0,[]⟩else none
   |_=>none
   else none
  |_=>none
 else none
def eT(n:Int)(m:Nat)(j:TI):AV→Option Br
 |.ptr id off=>if 0≤n∧n.toNat<m then some ⟨.ptr id (off+n.toNat*j.size),[]⟩else none
 |_=>none
def Cd(x i:AV):Option TI→Option Br
 |some t=>match i,t.kind,T t.elem with
  |.d (.int _ n),.slice,some j=>MO g n x j
  |.d (.int _ n),.arr m,some j=>eT n m j x
  |_,_,_=>none
 |none=>none
def KP(x i:AV)(t:Option TI):Option Br:=match t.map TI.kind,x,i with
 |some .str,.d (.str s),.d (.int _ n)=>if 0≤n then(s.data.toList[n.toNat]?).map fun b=>⟨.d (.int .u8 b.toNat),[]⟩else none
 |_,_,_=>none
def Hz(k:Nat)(x:AV):Option Br:=match x with
 |.it vs=>(vs[k]?).map (⟨·,[]⟩)
 |_=>none
def HH(t u:Option TI)(s x:AV):Option Br:=
 match t,u with
 |some i,some u=>match i.kind,u.kind,T i.elem with
  |.slice,.slice,some j=>appendV g newId j s x
  |_,_,_=>none
 |_,_=>none
def Gv(id:Id)(off n:Nat)(j:TI):Option Br:=
 match g id with
 |some (.d7 sz es)=>match CU (fun _=>none) j.zero with
  |some z=>if z.length=sz∧j.zero.length=j.size∧j.zero.all AV.isCell∧0<sz then(Bj es off (List.replicate n z)).map fun es'=>⟨.undef,[(id,.d7 sz es')]⟩else none
  |none=>none
 |_=>none
def FP(t:Option TI)(x:AV):Option Br:=
 match t with
 |some i=>match i.kind,x with
  |.slice,.f8 id off n=>match n with
   |0=>some ⟨.undef,[]⟩
   |n=>match T i.elem with
    |some j=>Gv g id off n j
    |none=>none
  |.slice,.co=>some ⟨.undef,[]⟩
  |.slice,.emp=>some ⟨.undef,[]⟩
  |_,_=>none
 |none=>none
def YP(x y:AV):Option Br:=match x,y with
 |.d (.int k a),.d (.int k' b)=>if k=k' then some ⟨.d (.int k (if b>a then b else a)),[]⟩else none
 |_,_=>none
def YQ(x y:AV):Option Br:=match x,y with
 |.d (.int k a),.d (.int k' b)=>if k=k' then some ⟨.d (.int k (if b<a then b else a)),[]⟩else none
 |_,_=>none
def Fj(b:Builtin)(as:List AV)(ts:List TypeId):Option Br:=
 match b with
 |.len=>match as with
  |[x]=>match ts with
   |[t]=>match T t with
    |some i=>(VX g i.kind x).map fun(n:Nat)=>⟨.d (.int .i64 (n:Int)),[]⟩
    |none=>none
   |_=>none
  |_=>none
 |.append=>match as,ts with
  |[s,x],[t,u]=>HH T g newId (T t) (T u) s x
  |_,_=>none
 |.clear=>match as,ts with
  |[x],[t]=>FP T g (T t) x
  |_,_=>none
 |.max=>match as with
  |[x,y]=>YP x y
  |_=>none
 |.min=>match as with
  |[x,y]=>YQ x y
  |_=>none
 |_=>none
def Jb(c:Call):Option Br:=match c.callee with
 |.builtin b=>Fj T g newId b (c.args.toList.map (ev e)) c.argTypes.toList
 |_=>none
def lH(op:UnOp)(x:AV):Option Br:=match op with
 |.not=>fI x
 |_=>none
def Fa(f:Fn)(a b:List AV):Option Br:=match f with
 |.func f=>some ⟨.fn f a b,[]⟩
 |_=>none
def Gj:Option Operand→Option Br
 |none=>some ⟨.mp (1::newId),[(1::newId,.map [])]⟩
 |some _=>none
def KO(t:TypeId)(x:AV):Option TI→Option Br
 |some i=>match i.kind with
  |.iface=>none
  |_=>some ⟨.iface t x,[]⟩
 |none=>none
def G2(x:AV)(lo hi mx:Option AV):Option TI→Option Br
 |some i=>match i.kind,T i.elem with
  |.slice,some j=>(ET g .slice j.size x lo hi mx).map (⟨·,[]⟩)
  |.str,_=>(ET g .str 0 x lo hi mx).map (⟨·,[]⟩)
  |_,_=>none
 |none=>none
def evalOp(o:Op):Option Br:=
 match o with
 |.move x=>some ⟨ev e x,[]⟩
 |.assign x=>some ⟨ev e x,[]⟩
 |.pick c a b=>Mv (ev e c) (ev e a) (ev e b)
 |.alloc t=>JL newId (T t)
 |.box t x=>PY newId (ev e x) (T t)
 |.build t ps=>JM (Di e ps) (T t)
 |.buildSlice t n ps=>CB T g newId n (Di e ps) (T t)
 |.load t a=>KQ g (ev e a) (T t)
 |.store t a x=>Hn g (ev e a) (ev e x) (T t)
 |.nilCheck x=>Fb (ev e x)
 |.binOp op t x y _=>(fo (X0 x||X0 y) op (ev e x) (ev e y) (T t)).map (⟨·,[]⟩)
 |.unOp op _ x=>lH op (ev e x)
 |.makeInterface t x=>KO t (ev e x) (T t)
 |.typeAssert x _ t ok=>match ok with
  |true=>HI t (ev e x) (T t)
  |false=>none
 |.makeFunc f first cap=>Fa f (first.toList.map (ev e)) (cap.toList.map (ev e))
 |.makeMap _ r=>Gj newId r
 |.insert t m k v=>mapPut T g (T t) (ev e m) (ev e k) (ev e v)
 |.mapUpdate t m k v=>mapPut T g (T t) (ev e m) (ev e k) (ev e v)
 |.lookup t m k ok=>Ei T g (ev e m) (ev e k) ok (T t)
 |.makeSlice t l c=>CL T g newId (ev e l) (ev e c) (T t)
 |.slice t x lo hi mx=>G2 T g (ev e x) (lo.map (ev e)) (hi.map (ev e)) (mx.map (ev e)) (T t)
 |.fieldAddr t x k=>Dv k (ev e x) (T t)
 |.field t x k=>L1 k (ev e x) (T t)
 |.indexAddr t x i=>Cd T g (ev e x) (ev e i) (T t)
 |.index t x i=>KP (ev e x) (ev e i) (T t)
 |.extract x k=>Hz k (ev e x)
 |.call c=>Jb T e g newId c
 |_=>none
end ops
structure Fr where
 f:FuncId
 π:List Nat
 raw:Bool
 bi:Option (List Nat)
 wn:Bool:=false
 nt:Nat
inductive Df where
 |mark (id:Id)
 |call (f:FuncId) (args:List AV)
structure St where
 env:BT
 heap:AB
 base:Nat
 defs:List Df
inductive zl where
 |fn (f:FuncId)
 |round (id:Id) (r:Lp)
inductive AZ where
 |ret (v:AV)
 |f9 (v:AV)
inductive E(α:Type) where
 |ok (x:α)
 |err (l:List Nat)
abbrev AK:=zl→List AV→AB→List Nat→Bool→Option (List Nat)→E (AZ×AB)
structure Fp where
 rd:Option (List Id):=some []
 wr:Option (List Id):=some []
inductive GW where
 |ok (st:St) (fp:Fp)
 |f9 (v:AV) (st:St)
 |err (l:List Nat)
mutual
def AD:AV→List Id
 |.f8 id _ _=>[id]
 |.ptr id _=>[id]
 |.i7 id _ _=>[id]
 |.v6 id=>[id]
 |.mp id=>[id]
 |.iface _ v=>AD v
 |.agg cs=>Au cs
 |.it vs=>Au vs
 |.fn _ a b=>Au a++Au b
 |_=>[]
def Au:List AV→List Id
 |[]=>[]
 |v::vs=>AD v++Au vs
end
def CN(g:G)(l:List Id):List Id:=l++l.flatMap fun id=>match g id with
 |some (.arr _ es)=>es.flatMap Au
 |_=>[]
def Dh(e:Nat→AV)(op:Op):List Id:=op.operands.toList.flatMap fun y=>AD (ev e y)
def FI(e:Nat→AV)(g:G)(op:Op):List Id:=match op with
 |.load ..=>Dh e op
 |.store ..=>Dh e op
 |.buildSlice ..=>Dh e op
 |.insert ..=>Dh e op
 |.mapUpdate ..=>Dh e op
 |.lookup ..=>Dh e op
 |.slice ..=>Dh e op
 |.indexAddr ..=>Dh e op
 |.call c=>match c.callee with
  |.builtin .len=>Dh e op
  |.builtin .clear=>Dh e op
  |.builtin .append=>CN g (Dh e op)
  |_=>[]
 |_=>[]
def JS(p:Option (List Nat))(δ:AB):Bool:=
 match p with
 |none=>true
 |some ρ=>δ.all fun x=>Id.under ρ x.1
def B8(e:BT)(dst:Option Tmp)(v:AV):BT:=
 match dst with
 |some t=>(t,v)::e
 |none=>e
def XI{α:Type}(h δ:AB)(k:AB→α):α:=match δ with
 |[]=>k h
 |δ=>GI (h.puts δ) k
def gc(ρ:List Nat)(h:AB):AB:=h.filter fun p=>match p.1 with
 |0::l=> !Id.under ρ l
 |_=>true
def De(ρ:List Nat)(dst:Option Tmp)(st:St):E (AZ×AB)→GW
 |.ok (.ret v,h)=>TV (B8 st.env dst v) fun env=>GI (gc ρ h) fun heap=>.ok {st with env,heap} ⟨none,some (TL st.heap heap)⟩
 |.ok (.f9 v,h)=>GI (gc ρ h) fun heap=>.f9 v {st with heap}
 |.err l=>.err l
def G3(fr:Fr)(as:List AV)(v:AV)(h:AB)(st:St)(env:BT):GW:=
 match BK v h with
 |some o=>GI (o::st.heap) fun heap=>.ok {st with env,heap} ⟨some (CN st.heap.get (Au as)),some [o.1]⟩
 |none=>
  Qs (as.flatMap (mark st.heap.get)) fun δ=>
  match JS fr.bi δ with
  |true=>GI (h++st.heap.puts δ) fun heap=>.ok {st with env,heap} ⟨some (CN st.heap.get (Au as)),some (δ.map (·.1)++h.map (·.1))⟩
  |false=>.err [2]
def C0(fr:Fr)(as:List AV)(dst:Option Tmp)(st:St):E (AZ×AB)→GW
 |.ok (.ret v,h)=>TV (B8 st.env dst v) fun env=>match flat v with
  |true=>.ok {st with env} ⟨some (CN st.heap.get (Au as)),some []⟩
  |false=>G3 fr as v h st env
 |.ok (.f9 v,_)=>match flat v with
  |true=>.f9 v st
  |false=>.err [3]
 |.err l=>.err l
def N7(dst:Option Tmp)(st:St):E (AZ×AB)→GW
 |.ok (.ret v,_)=>match flat v with
  |true=>TV (B8 st.env dst v) fun env=>.ok {st with env} ⟨none,some []⟩
  |false=>.err [4]
 |.ok (.f9 v,_)=>match flat v with
  |true=>.f9 v st
  |false=>.err [3]
 |.err l=>.err l
def LV(g:G)(as:List AV):List AV:=as.map fun v=>(Dz g v).getD v
def Ea(K:AK)(fr:Fr)(ρ:List Nat)(f:FuncId)(as:List AV)(dst:Option Tmp)(st:St)(m:Mode):GW:=
 Ky (LV st.heap.get as) fun xs=>
 Qs (as.flatMap (mark st.heap.get)) fun δ=>
 match m with
 |.ro=>GI (st.heap.puts δ) fun heap=>N7 dst st (K (.fn f) xs heap ρ true (some ρ))
 |_=>
  match JS fr.bi δ with
  |true=>GI (st.heap.puts δ) fun heap=>De ρ dst st (K (.fn f) xs heap ρ true fr.bi)
  |false=>.err [2]
def C5(K:AK)(fr:Fr)(ρ:List Nat)(f:FuncId)(as:List AV)(dst:Option Tmp)(st:St)(m:Mode):GW:=
 match m with
 |.raw=>De ρ dst st (K (.fn f) as st.heap ρ true fr.bi)
 |m=>match DQ st.heap.get as with
  |some xs=>Ky xs fun xs=>C0 fr as dst st (K (.fn f) xs [] (match m with|.own=>ρ|_=>[]) false none)
  |none=>Ea K fr ρ f as dst st m
def JA(K:AK)(fr:Fr)(ρ:List Nat)(id:Id)(as:List AV)(dst:Option Tmp)(st:St):GW:=
 match st.heap.get id with
 |some (.loop r)=>De ρ dst st (K (.round id r) as st.heap ρ true fr.bi)
 |_=>.err [1]
def DZ(C:B9)(K:AK)(fr:Fr)(ρ:List Nat)(fv:AV)(args:List AV)(dst:Option Tmp)(st:St):GW:=
 match fv with
 |.v6 id=>JA K fr ρ id args dst st
 |.fn f first cap=>Ky (first++args++cap) fun as=>C5 K fr ρ f as dst st (C.mode f)
 |_=>.err [5]
def FE(C:B9)(K:AK)(fr:Fr)(ρ:List Nat)(r:AV)(m:String)(args:List AV)(dst:Option Tmp)(st:St):GW:=
 match r with
 |.iface t v=>match C.wp t m with
  |some f=>DZ C K fr ρ (.fn f [v] []) args dst st
  |none=>.err [7]
 |_=>.err [8]
def FL(st:St)(v:AV):GW:=match flat v with
 |true=>match v with
  |.iface t u=>.f9 (.iface t u) st
  |_=>.err [9]
 |false=>.err [9]
def Gw(fr:Fr)(e:Nat→AV)(c:Call)(dst:Option Tmp)(st:St):GW:=match c.callee with
 |.value f=>match ev e f,fr.wn with
  |.fn g [] [],false=>.ok {st with env:=B8 st.env dst .undef,defs:=.call g (c.args.toList.map (ev e))::st.defs} ⟨none,none⟩
  |_,_=>.err [10]
 |_=>.err [10]
def Cw(fr:Fr)(op:Op)(dst:Option Tmp)(st:St):Option Br→GW
 |some x=>fAV x.v fun v=>Qs x.δ fun δ=>match JS fr.bi δ with
  |true=>TV (B8 st.env dst v) fun env=>XI st.heap δ fun heap=>
   .ok {st with env,heap} ⟨some (FI st.env.get st.heap.get op),some (δ.map (·.1))⟩
  |false=>.err [11]
 |none=>.err [12]
def Ay(C:B9)(K:AK)(fr:Fr)(ρ:List Nat)(op:Op)(dst:Option Tmp)(st:St):GW:=
 match op with
 |.call c=>match c.callee with
  |.value f=>DZ C K fr ρ (ev st.env.get f) (c.args.toList.map (ev st.env.get)) dst st
  |.invoke r m=>FE C K fr ρ (ev st.env.get r) m (c.args.toList.map (ev st.env.get)) dst st
  |.builtin _=>Cw fr op dst st (Jb C.T st.env.get st.heap.get ρ c)
 |.panic x=>FL st (ev st.env.get x)
 |.defer c=>Gw fr st.env.get c dst st
 |op=>Cw fr op dst st (evalOp C.T st.env.get st.heap.get ρ op)
def Lo(ops:Array Oper)(e:BT)(o:Oper):Option Bool:=
 match o.guard with
 |none=>some true
 |some (j,want)=>match((ops[j]?).bind (·.dst)).map e.get with
  |some (.d (.bool b))=>some (b==want)
  |some (.it [])=>some false
  |_=>none
def Bx(C:B9)(K:AK)(fr:Fr)(ops:Array Oper)(ρ:List Nat)(o:Oper)(st:St):GW:=
 match Lo ops st.env o with
 |none=>.err [6]
 |some false=>TV (B8 st.env o.dst (.it [])) fun env=>.ok {st with env} {}
 |some true=>Ay C K fr ρ o.op o.dst st
def U2(fp:Fp):E ((Option AV×St)×List Fp)→E ((Option AV×St)×List Fp)
 |.ok (r,fps)=>.ok (r,fp::fps)
 |.err l=>.err l
def Ch(C:B9)(K:AK)(fr:Fr)(ops:Array Oper)(b:Nat)(alone:Nat→Bool):List Oper→Nat→St→E ((Option AV×St)×List Fp)
 |[],_,st=>.ok ((none,st),[])
 |o::l,i,st=>Hi (b+i) fun n=>match Bx C K fr ops (n::fr.π) o st with
  |.ok st' fp=>U2 fp (Ch C K fr ops b alone l (i+1) st')
  |.f9 v st'=>match alone i with
   |true=>.ok ((some v,st'),[])
   |false=>.err [13,i]
  |.err l=>.err (i::l)
def apart(a b:Option (List Id)):Bool:=
 match a,b with
 |some [],_=>true
 |_,some []=>true
 |some l,some m=>l.all fun x=> !m.contains x
 |_,_=>false
def Fp.apart(a b:Fp):Bool:=Abs.apart a.wr b.rd&&Abs.apart a.rd b.wr&&Abs.apart a.wr b.wr
def DE(fps:List Fp)(l:List (Nat×Nat)):Bool:=
 l.all fun(i,j)=>match fps[i]?,fps[j]? with
  |some a,some b=>a.apart b
  |_,_=>true
inductive DW where
 |normal
 |exit (id:Nat)
 |ret
 |f9 (v:AV)
def KX(l:List Id)(id:Id):List Id:=match l.any (Id.is id)with|true=>l|false=>l++[id]
def ER(l:List Id)(new:List Id):List Id:=new.foldl KX l
def Ib:Option Obj→List Id
 |some (.box cs)=>Au cs
 |some (.arr _ es)=>es.flatMap Au
 |some (.map es)=>es.flatMap fun p=>AD p.2
 |some (.loop r)=>r.env.flatMap fun p=>AD p.2
 |_=>[]
def Bm(h:AB):Nat→List Id→Nat→List Id
 |0,l,_=>l
 |n+1,l,i=>match l[i]? with
  |some id=>Bm h n (ER l (Ib (h.get id))) (i+1)
  |none=>l
def DD(π:List Nat):List Id→Nat→Id→Option Id
 |[],_,_=>none
 |x::r,n,id=>match Id.is x id with|true=>some ((match id with|0::_=>0|_=>1)::n::π)|false=>DD π r (n+1) id
mutual
def L7(ν:Id→Option Id):AV→AV
 |.f8 id o n=>match ν id with|some id=>.f8 id o n|none=>.undef
 |.ptr id o=>match ν id with|some id=>.ptr id o|none=>.undef
 |.i7 id i o=>match ν id with|some id=>.i7 id i o|none=>.undef
 |.v6 id=>match ν id with|some id=>.v6 id|none=>.undef
 |.mp id=>match ν id with|some id=>.mp id|none=>.undef
 |.iface t v=>.iface t (L7 ν v)
 |.agg cs=>.agg (Ig ν cs)
 |.it vs=>.it (Ig ν vs)
 |.fn f a b=>.fn f (Ig ν a) (Ig ν b)
 |v=>v
def Ig(ν:Id→Option Id):List AV→List AV
 |[]=>[]
 |v::vs=>L7 ν v::Ig ν vs
end
def Ih(ν:Id→Option Id):Obj→Obj
 |.box cs=>.box (Ig ν cs)
 |.arr sz es=>.arr sz (es.map (Ig ν))
 |.map es=>.map (es.map fun p=>(p.1,L7 ν p.2))
 |.loop r=>.loop {r with env:=r.env.map fun p=>(p.1,L7 ν p.2)}
 |o=>o
def Ct(h:AB)(ν:Id→Option Id):List Id→AB
 |[]=>[]
 |id::r=>match h.get id,ν id with
  |some o,some id'=>(id',Ih ν o)::Ct h ν r
  |_,_=>Ct h ν r
def fSt{α:Type}(st:St)(k:St→α):α:=vg st.env fun env=>Qs st.heap fun heap=>Hi st.base fun base=>k {env,heap,base,defs:=st.defs}
def Eb(C:B9)(fr:Fr)(b:Nat)(st:St):St:=
 let e:=(C.live fr.f b).map fun t=>(t,st.env.get t)
 if fr.raw|| !st.defs.isEmpty then{st with env:=e}
 else
  let l:=Bm st.heap 1000 (ER [] (e.flatMap fun p=>AD p.2)) 0
  let ν:=DD fr.π l 0
  {env:=e.map fun p=>(p.1,L7 ν p.2),heap:=Ct st.heap ν l,base:=l.length,defs:=[]}
def Ki:TypeDesc→Bool
 |.struct _=>true
 |.array ..=>true
 |_=>false
def HN:TypeDesc→TK
 |.bool=>.bool
 |.int _=>.int
 |.string=>.str
 |_=>.other
def OZ(P:Program):Nat→List Field→Option (List TK)
 |_,[]=>some []
 |n,f::fs=>match(P.underlying f.type).map HN,(P.info? f.type).map (·.size),OZ P (n+1) fs with
  |some .bool,some 1,some ks=>if f.offset=n∧f.name≠ "_" then some (.bool::ks)else none
  |some .int,some 1,some ks=>if f.offset=n∧f.name≠ "_" then some (.int::ks)else none
  |some .str,some 1,some ks=>if f.offset=n∧f.name≠ "_" then some (.str::ks)else none
  |_,_,_=>none
def Bw(P:Program)(t:TypeId):TypeDesc→TK
 |.bool=>.bool
 |.int _=>.int
 |.string=>.str
 |.func ..=>.func
 |.pointer _=>.ptr
 |.interface _=>.iface
 |.slice _=>.slice
 |.map ..=>.map
 |.array n _=>.arr n
 |.struct fs=>match OZ P 0 fs.toList with
  |some ks=>if P.stoodInHeld t=false∧P.eqGuardType P.depth t=false then .flat ks else .other
  |none=>.other
 |_=>.other
def K0(P:Program):TypeDesc→List (Nat×Nat×Bool)
 |.struct fs=>fs.toList.map fun f=>(f.offset,((P.info? f.type).map (·.size)).getD 0,((P.underlying f.type).map Ki).getD false)
 |_=>[]
def qo:TypeDesc→Bool
 |.struct _=>true
 |_=>false
def Jn(P:Program):TypeDesc→Bool
 |.struct fs=>fs.toList.all fun f=>(P.info? f.type).isSome&&(P.underlying f.type).isSome
 |_=>true
def Q9:Value→Bool
 |.agg _=>true
 |_=>false
def Gx:TypeDesc→TypeId
 |.slice e=>e
 |.map _ e=>e
 |.array _ e=>e
 |_=>0
def VU:TypeDesc→TypeId
 |.map k _=>k
 |_=>0
def Bb(P:Program)(mix:List TypeId)(t:TypeId):Option TI:=
 match P.info? t,P.underlying t with
 |some i,some d=>match i.zero with
  |some z=>match Nat.ble i.bytes 65536&&Jn P d&&Nat.beq z.cells.size i.size&&(Q9 z==Ki d)with
   |true=>some {kind:=Bw P t d,size:=i.size,agg:=Ki d,str:=qo d,zero:=z.cells.toList.map Cv,flds:=K0 P d,elem:=Gx d,key:=VU d,mix:=mix.any (Nat.beq t)}
   |false=>none
  |none=>none
 |_,_=>none
def Jx(C:B9)(f:FuncId)(id n base:Nat)(draw:Bool):E ((Option AV×St)×List Fp)→E (DW×St)
 |.ok ((o,st'),fps)=>
  match !draw||DE fps (C.d8 f id)with
  |true=>Hi (base+n) fun base=>match o with
   |none=>.ok (.normal,{st' with base})
   |some v=>.ok (.f9 v,{st' with base})
  |false=>.err [15,id]
 |.err l=>.err (id::l)
def Da(C:B9)(K:AK)(fr:Fr)(id:Nat)(ops:Array Oper)(draw:Bool)(st:St):E (DW×St):=
 Jx C fr.f id ops.size st.base draw (Ch C K fr ops st.base (fun i=> !draw||C.alone fr.f id i) ops.toList 0 st)
def GM(id:Nat):E (DW×St)→E (DW×St)
 |.ok (.exit id',st')=>match Nat.beq id' id with
  |true=>.ok (.normal,st')
  |false=>.ok (.exit id',st')
 |r=>r
def Cz(y:St→E (DW×St)):E (DW×St)→E (DW×St)
 |.ok (.normal,st')=>y st'
 |r=>r
def Jm(c:AV)(x y:E (DW×St)):E (DW×St):=
 match c with
 |.d (.bool t)=>match t with
  |true=>x
  |false=>y
 |_=>.err [14]
def Vi(st:St):Option Obj→E (DW×St)
 |some (.loop r)=>match r.state with
  |.busy=>.err [16]
  |_=>match r.rt with
   |none=>.ok (.normal,st)
   |some .ret=>.ok (.ret,st)
   |some (.exit k)=>.ok (.exit k,st)
   |some _=>.err [38]
 |_=>.err [17]
def Ic(ρ ρ2:List Nat)(id:Id)(st1:St):E (AZ×AB)→E (DW×St)
 |.ok (.ret _,h')=>GI (gc ρ (gc ρ2 h')) fun heap=>Vi {st1 with heap} (h'.get id)
 |.ok (.f9 v,h')=>GI (gc ρ (gc ρ2 h')) fun heap=>.ok (.f9 v,{st1 with heap})
 |.err l=>.err l
def Jh(K:AK)(bi:Option (List Nat))(ρ:List Nat)(id:Id)(h:AB):AV→E (AZ×AB)
 |.fn f first cap=>Ky (first++[.v6 id]++cap) fun as=>K (.fn f) as h ρ true bi
 |_=>.err [18]
def Fh(K:AK)(fr:Fr)(g:Operand)(ps:Array Tmp)(jp body:Code)(st:St):E (DW×St):=
 match fr.wn with
 |true=>.err [37]
 |false=>
 Hi st.base fun b=>
 GI (st.heap.put (0::b::fr.π) (.loop {state:=.ready,rt:=none,f:=fr.f,env:=st.env,params:=ps.toList,jp:=jp,body:=body,nt:=fr.nt})) fun h=>
 Hi (b+1) fun b1=>
 Hi (b+2) fun base=>
 Ic (b::fr.π) (b1::fr.π) (0::b::fr.π) {st with heap:=h,base,defs:=.mark (0::b::fr.π)::st.defs}
  (Jh K fr.bi (b1::fr.π) (0::b::fr.π) h (ev st.env.get g))
def A4(C:B9)(K:AK)(fr:Fr):Nat→Nat→Code→St→E (DW×St)
 |0,_,_,_=>.err [0]
 |n+1,b,c,st=>match c with
  |.skip=>.ok (.normal,st)
  |.label _=>.ok (.normal,st)
  |.seq x y=>Cz (A4 C K fr n b y) (A4 C K fr n b x st)
  |.cond c x y=>Jm (ev st.env.get c) (A4 C K fr n b x st) (A4 C K fr n b y st)
  |.block id x=>GM id (A4 C K fr n id x st)
  |.loop x=>fSt (Eb C fr b st) fun st=>Cz (A4 C K fr n b (.loop x)) (A4 C K fr n b x st)
  |.exit id=>.ok (.exit id,st)
  |.ret=>.ok (.ret,st)
  |.region id ops draw=>Da C K fr id ops draw st
  |.rangeFunc g ps jp body=>Fh K fr g ps jp body st
  |_=>.err [19]
def CJ(C:B9)(st:St):ResultVar→Option AV
 |.tmp t=>some (st.env.get t)
 |.cell a t=>(C.T t).bind fun i=>IW st.heap.get i (st.env.get a)
def MF{α β:Type}(f:α→Option β):List α→Option (List β)
 |[]=>some []
 |x::l=>match f x,MF f l with
  |some y,some m=>some (y::m)
  |_,_=>none
def H0(C:B9)(fn:Func)(st:St):Option AV:=
 match MF (CJ C st) fn.results.toList with
 |some []=>some (.it [])
 |some [v]=>some v
 |some vs=>some (.it vs)
 |none=>none
def Cl(C:B9)(bi:Option (List Nat)):List Df→Option AV→AB→E (Option AV×AB)
 |[],p,h=>.ok (p,h)
 |.mark _::l,p,h=>Cl C bi l p h
 |.call f args::l,p,h=>match C.of f,args with
  |some t,[.ptr id off]=>match p with
   |none=>Cl C bi l none h
   |some (.iface t' (.agg [.d (.int k n)]))=>match Nat.beq t' t&&JS bi [(id,.box [])]with
    |true=>match h.get id with
     |some (.box cs)=>match Bj cs off [.d (.int k n)]with
      |some cs'=>Cl C bi l none (h.put id (.box cs'))
      |none=>.err [20]
     |_=>.err [21]
    |false=>.err [22]
   |_=>.err [23]
  |_,_=>.err [24]
def Dp:Nat→List AV→BT
 |_,[]=>[]
 |n,v::vs=>(n,v)::Dp (n+1) vs
def DT(e:BT):List Nat→List AV→Option BT
 |[],[]=>some e
 |t::ts,v::vs=>DT ((t,v)::e) ts vs
 |_,_=>none
def Rb(C:B9)(f:FuncId)(fn:Func)(π:List Nat)(raw:Bool)(st:St):E (Option AV×AB)→E (AZ×AB)
 |.ok (none,h)=>match H0 C fn {st with heap:=h}with
  |some r=>fAV r fun r=>match raw with
   |true=>.ok (.ret r,h)
   |false=>match π with
    |[]=>match V8 h.get r with
     |some r'=>fAV r' fun r'=>.ok (.ret r',[])
     |none=>.err [26,f]
    |_=>.ok (.ret r,h)
  |none=>.err [27,f]
 |.ok (some v,h)=>.ok (.f9 v,h)
 |.err l=>.err (f::l)
def pe(C:B9)(bi:Option (List Nat))(f:FuncId)(fn:Func)(π:List Nat)(raw:Bool):E (DW×St)→E (AZ×AB)
 |.ok (o,st)=>match o with
  |.ret=>Rb C f fn π raw st (Cl C bi st.defs none st.heap)
  |.normal=>Rb C f fn π raw st (Cl C bi st.defs none st.heap)
  |.f9 v=>Rb C f fn π raw st (Cl C bi st.defs (some v) st.heap)
  |_=>.err [28,f]
 |.err l=>.err (f::l)
def OA(P:Program)(C:B9)(K:AK)(fuel:Nat)(f:FuncId)(args:List AV)(h:AB)(π:List Nat)(raw:Bool)(bi:Option (List Nat)):E (AZ×AB):=
 match P.funcs[f]? with
 |some fn=>match fn.body with
  |some c=>match Nat.ble args.length fn.ntmps with
   |true=>pe C bi f fn π raw (A4 C K {f,π,raw,bi,nt:=fn.ntmps} fuel 0 c {env:=Dp 0 args,heap:=h,base:=0,defs:=[]})
   |false=>.err [39,f]
  |none=>.err [29,f]
 |none=>.err [30,f]
def Ik(id:Id)(h:AB)(r:Lp)(j:Option Code):E (AZ×AB):=
 .ok (.ret (.d (.bool j.isNone)),h.put id (.loop {r with state:=match j with|none=>.ready|some _=>.done,rt:=j}))
def Y4(id:Id)(o:DW)(h:AB):Option Obj→E (AZ×AB)
 |some (.loop r)=>match o with
  |.normal=>Ik id h r none
  |.ret=>Ik id h r (some .ret)
  |.exit k=>Ik id h r (some (.exit k))
  |.f9 v=>.ok (.f9 v,h)
 |_=>.err [32]
def N8(id:Id):E (DW×St)→E (AZ×AB)
 |.ok (o,st)=>match st.defs with
  |[]=>Y4 id o st.heap (st.heap.get id)
  |_=>.err [31]
 |.err l=>.err (99::l)
def L8(C:B9)(K:AK)(fuel:Nat)(id:Id)(r0:Lp)(π:List Nat)(bi:Option (List Nat))(st:St):Option Obj→E (AZ×AB)
 |some (.loop r)=>match r.state with
  |.ready=>GI (st.heap.put id (.loop {r with state:=.busy})) fun heap=>
   N8 id (A4 C K {f:=r0.f,π,raw:=true,bi,wn:=true,nt:=r0.nt} fuel 0 r0.body {st with heap})
  |_=>.err [36]
 |_=>.err [33]
def HK(C:B9)(K:AK)(fuel:Nat)(id:Id)(r0:Lp)(π:List Nat)(bi:Option (List Nat)):E (DW×St)→E (AZ×AB)
 |.ok (.normal,st)=>match st.defs,JS bi [(id,.box [])]with
  |[],true=>L8 C K fuel id r0 π bi st (st.heap.get id)
  |_,_=>.err [40]
 |_=>.err [34]
def GQ(C:B9)(K:AK)(fuel:Nat)(id:Id)(r:Lp)(args:List AV)(h:AB)(π:List Nat)(bi:Option (List Nat)):E (AZ×AB):=
 match DT r.env r.params args with
 |some e=>HK C K fuel id r π bi (A4 C K {f:=r.f,π,raw:=true,bi,wn:=true,nt:=r.nt} fuel 0 r.jp {env:=e,heap:=h,base:=0,defs:=[]})
 |none=>.err [35]
def G8(P:Program)(C:B9)(m:Nat):Nat→AK
 |0=>fun _ _ _ _ _ _=>.err [25]
 |n+1=>fun t args h π raw bi=>match t with
  |.fn f=>match C.i6 f with
   |true=>OA P C (G8 P C m n) m f args h π raw bi
   |false=>.err [41,f]
  |.round id r=>match raw with
   |true=>GQ C (G8 P C m n) m id r args h π bi
   |false=>.err [42]
end Go.Abs
namespace Go.Abs
section
variable{α:Type}
@[simp] theorem Gz(n:Nat)(k:Nat→α):Hi n k=k n:=by cases n<;>rfl
@[simp] theorem AB4(b:Bool)(k:Bool→α):zL b k=k b:=by cases b<;>rfl
@[simp] theorem ACn(n:Int)(k:Int→α):AAC n k=k n:=by cases n<;>simp[AAC]
@[simp] theorem AB7(x:IntKind)(k:IntKind→α):zN x k=k x:=by cases x<;>rfl
@[simp] theorem AB8(l:List Nat)(k:List Nat→α):NX l k=k l:=by
  induction l generalizing k with
  |nil=>rfl
  |cons n l ih=>simp[NX,ih]
@[simp] theorem ACk(x:AR)(k:AR→α):iC x k=k x:=by cases x<;>simp[iC]
@[simp] theorem AB6(l:List AR)(k:List AR→α):XH l k=k l:=by
  induction l generalizing k with
  |nil=>rfl
  |cons n l ih=>simp[XH,ih]
@[simp] theorem ABY(l:List (List AR))(k:List (List AR)→α):OY l k=k l:=by
  induction l generalizing k with
  |nil=>rfl
  |cons n l ih=>simp[OY,ih]
@[simp] theorem AB5(x:AR)(k:AR→α):pk x k=k x:=by cases x<;>simp[pk,iC]
@[simp] theorem ACi(x:AV)(k:AV→α):pj x k=k x:=by cases x<;>simp[pj]
@[simp] theorem AB2(l:List AV)(k:List AV→α):Qq l k=k l:=by
  induction l generalizing k with
  |nil=>rfl
  |cons n l ih=>simp[Qq,ih]
@[simp] theorem ACj(x:AV)(k:AV→α):Z8 x k=k x:=by
  unfold Z8;split<;>simp
@[simp] theorem A3(l:List AV)(k:List AV→α):Ky l k=k l:=by
  induction l generalizing k with
  |nil=>rfl
  |cons n l ih=>simp[Ky,ih]
@[simp] theorem JY(x:AV)(k:AV→α):fAV x k=k x:=by
  unfold fAV;split<;>simp
@[simp] theorem AB3(l:List (List AV))(k:List (List AV)→α):eh l k=k l:=by
  induction l generalizing k with
  |nil=>rfl
  |cons n l ih=>simp[eh,ih]
@[simp] theorem zM(l:List (AR×AV))(k:List (AR×AV)→α):NW l k=k l:=by
  induction l generalizing k with
  |nil=>rfl
  |cons n l ih=>obtain⟨x,v⟩:=n;simp[NW,ih]
@[simp] theorem ACo(x:Obj)(k:Obj→α):AAD x k=k x:=by cases x<;>simp[AAD]
@[simp] theorem BO(l:AB)(k:AB→α):Qs l k=k l:=by
  induction l generalizing k with
  |nil=>rfl
  |cons n l ih=>obtain⟨x,v⟩:=n;simp[Qs,ih]
@[simp] theorem Aa(l:AB)(k:AB→α):GI l k=k l:=by
  induction l generalizing k with
  |nil=>rfl
  |cons n l ih=>obtain⟨x,v⟩:=n;simp[GI,ih]
@[simp] theorem ACm(l:BT)(k:BT→α):vg l k=k l:=by
  induction l generalizing k with
  |nil=>rfl
  |cons n l ih=>obtain⟨x,v⟩:=n;simp[vg,ih]
@[simp] theorem Aw(l:BT)(k:BT→α):TV l k=k l:=by cases l<;>rfl
@[simp] theorem KC(st:St)(k:St→α):fSt st k=k st:=by simp[fSt]
@[simp] theorem Kz(h δ:AB)(k:AB→α):XI h δ k=k (h.puts δ):=by
  cases δ<;>simp[XI,AB.puts]
end
theorem Id.is_iff(a b:Id):Id.is a b=true↔a=b:=by
 induction a generalizing b with
 |nil=>cases b<;>simp[Id.is]
 |cons n l ih=>
  cases b with
  |nil=>simp[Id.is]
  |cons m k=>
   simp only[Id.is];split
   .rename_i h;have:n=m:=Co h;simp[ih,this]
   .rename_i h;have:n≠m:=fun h'=>by subst h';simp at h
    simp[this]
theorem Id.is_false_iff(a b:Id):Id.is a b=false↔a≠b:=by
 rw[←Mt,Id.is_iff]
@[simp] theorem Id.is_self(a:Id):Id.is a a=true:=(Id.is_iff a a).2 rfl
theorem Id.under_iff(ρ a:Id):Id.under ρ a=true↔ρ<:+a:=by
 induction a with
 |nil=>simp[Id.under,Id.is_iff]
 |cons n l ih=>
  simp only[Id.under];split
  .rename_i h;rw[Id.is_iff]at h;subst h;simp
  .rename_i h;rw[Id.is_false_iff]at h;rw[ih,HM];simp[h]
@[simp] theorem AB.get_nil(id:Id):AB.get [] id=none:=rfl
theorem AB.get_cons(k:Id)(o:Obj)(h:AB)(id:Id):AB.get ((k,o)::h) id=if k=id then some o else h.get id:=by
 simp only[AB.get];split
 .rename_i h';rw[Id.is_iff]at h';simp[h']
 .rename_i h';rw[Id.is_false_iff]at h';simp[h']
theorem AB.get_put(h:AB)(id:Id)(o:Obj)(id':Id):(h.put id o).get id'=if id=id' then some o else h.get id':=by
 induction h with
 |nil=>simp[AB.put,AB.get_cons]
 |cons p h ih=>
  obtain⟨k,x⟩:=p;simp only[AB.put];split
  .rename_i h';rw[Id.is_iff]at h';subst h';simp[AB.get_cons];split<;>simp_all
  .rename_i h';rw[Id.is_false_iff]at h';simp only[AB.get_cons,ih];split
   .rename_i h1;subst h1;simp[Ne.symm h']
   .rfl
theorem AB.get_append(h h':AB)(id:Id):AB.get (h++h') id=(h.get id).or (h'.get id):=by
 induction h with
 |nil=>simp
 |cons p h ih=>
  obtain⟨k,x⟩:=p;simp only[Ge,AB.get_cons,ih];split<;>simp
theorem BT.get_cons(k:Nat)(v:AV)(e:BT)(t:Nat):BT.get ((k,v)::e) t=if k=t then v else e.get t:=by
 simp only[BT.get];split
 .rename_i h;have:=Co h;simp[this]
 .rename_i h;have:k≠t:=fun h'=>by subst h';simp at h
  simp[this]
theorem AB.puts_nil(h:AB):h.puts []=h:=rfl
theorem AB.puts_cons(h:AB)(p:Id×Obj)(δ:AB):h.puts (p::δ)=(h.put p.1 p.2).puts δ:=rfl
theorem AB.puts_append(h δ δ':AB):h.puts (δ++δ')=(h.puts δ).puts δ':=by simp[AB.puts,List.foldl_append]
variable{A:Nat→Prop}
structure Po where
 b:Nat
 sz:Nat
 n:Nat
abbrev Ag:=Id→Option Po
inductive DR(w:World)(M:Nat→Prop):AR→Value→Prop
 |int (k n):DR w M (.int k n) (.int k n)
 |bool (b):DR w M (.bool b) (.bool b)
 |str (s):DR w M (.str s) (.string s)
 |ut:DR w M .ut (.pointer none)
 |i9:DR w M .i9 .nilFunc
 |lc:DR w M .lc .nilIface
 |rc:DR w M .rc (.map none)
 |wl (a cap):DR w M (.ce []) (.slice a 0 cap)
 |ce (es:List (List AR)) (b off cap sz:Nat) (c:Array Value) (elem:TypeId) (fr:Nat×Nat):
  w.heap[b]? =some (.cells c elem fr)→ ¬M b→(∀e∈es,e.length=sz)→off+es.length*sz≤c.size→
  (∀i x v,es.flatten[i]? =some x→c[off+i]? =some v→DR w M x v)→es.length≤cap→DR w M (.ce es) (.slice (some ⟨b,off,none⟩) es.length cap)
inductive VR(β:Ag)(w:World)(M:Nat→Prop):AV→Value→Prop
 |d {x v}:DR w M x v→VR β w M (.d x) v
 |co:VR β w M .co (.slice none 0 0)
 |emp (a):VR β w M .emp (.slice a 0 0)
 |f8 (id off len k a cap):β id=some k→off*k.sz+cap*k.sz=k.n→len≤cap→(a=some ⟨k.b,off*k.sz,none⟩∨cap=0)→
  VR β w M (.f8 id off len) (.slice a len cap)
 |ptr (id off k):β id=some k→VR β w M (.ptr id off) (.pointer (some ⟨k.b,off,none⟩))
 |i7 (id i off k):β id=some k→VR β w M (.i7 id i off) (.pointer (some ⟨k.b,i*k.sz+off,none⟩))
 |ol (cs b off c elem fr):w.heap[b]? =some (.cells c elem fr)→ ¬M b→off+cs.length≤c.size→
  (∀i x v,cs[i]? =some x→c[off+i]? =some v→DR w M x v)→VR β w M (.ol cs) (.pointer (some ⟨b,off,none⟩))
 |fn (f) (a b:List AV) (a' b':Array Value):a.length=a'.size→b.length=b'.size→(∀(i:Nat) (x:AV) (v:Value),a[i]? =some x→a'[i]? =some v→VR β w M x v)→
  (∀(i:Nat) (x:AV) (v:Value),b[i]? =some x→b'[i]? =some v→VR β w M x v)→VR β w M (.fn f a b) (.func (.func f) a' b')
 |v6 (id k):β id=some k→VR β w M (.v6 id) (.func (.yield k.b) #[] #[])
 |mp (id k):β id=some k→VR β w M (.mp id) (.map (some k.b))
 |iface (t v u):VR β w M v u→VR β w M (.iface t v) (.iface t u)
 |agg (cs:List AV) (c:Array Value):cs.length=c.size→(∀(i:Nat) (x:AV) (v:Value),cs[i]? =some x→c[i]? =some v→VR β w M x v)→VR β w M (.agg cs) (.agg c)
 |it (cs:List AV) (c:Array Value):cs.length=c.size→(∀(i:Nat) (x:AV) (v:Value),cs[i]? =some x→c[i]? =some v→VR β w M x v)→VR β w M (.it cs) (.tuple c)
 |undef (v):VR β w M .undef v
def FV(β:Ag)(w:World)(M:Nat→Prop)(cs:List AV)(c:Array Value):Prop:=
 cs.length=c.size∧ ∀(i:Nat) (x:AV) (v:Value),cs[i]? =some x→c[i]? =some v→VR β w M x v
def Obj.mut:Obj→Bool
 |.i5 ..=>false
 |_=>true
def MS(A:Nat→Prop)(β:Ag)(h:AB)(b:Nat):Prop:=A b∨ ∃id o k,h.get id=some o∧o.mut=true∧β id=some k∧k.b=b
def Iw(β:Ag)(w:World)(M:Nat→Prop)(e:Nat→AV)(f:Nat→Value):Prop:= ∀t,VR β w M (e t) (f t)
def Kh(β:Ag)(w:World)(M:Nat→Prop)(k:Po):Obj→Prop
 |.box cs=> ∃c elem,w.heap[k.b]? =some (.cells c elem (0,0))∧FV β w M cs c
 |.d7 sz es=> ∃c elem,w.heap[k.b]? =some (.cells c elem (0,0))∧sz=k.sz∧0<sz∧c.size=k.n∧(∀e∈es,e.length=sz)∧es.length*sz≤c.size∧
  ∀(i:Nat) (x:AR) (v:Value),es.flatten[i]? =some x→c[i]? =some v→DR w M x v
 |.i5 sz es=>es=[]∨(¬M k.b∧ ∃c elem fr,w.heap[k.b]? =some (.cells c elem fr)∧sz=k.sz∧0<sz∧c.size=k.n∧(∀e∈es,e.length=sz)∧es.length*sz≤c.size∧
  ∀(i:Nat) (x:AR) (v:Value),es.flatten[i]? =some x→c[i]? =some v→DR w M x v)
 |.arr sz es=> ∃c elem,w.heap[k.b]? =some (.cells c elem (0,0))∧sz=k.sz∧0<sz∧c.size=k.n∧(∀e∈es,e.length=sz)∧es.length*sz≤c.size∧
  ∀(i:Nat) (x:AV) (v:Value),es.flatten[i]? =some x→c[i]? =some v→VR β w M x v
 |.map es=> ∃entries clock,w.heap[k.b]? =some (.map entries clock)∧es.length=entries.size∧
  ∀(i:Nat) p e,es[i]? =some p→entries[i]? =some e→DR w M p.1 e.key∧VR β w M p.2 e.val
 |.loop r=> ∃l:Loop,w.heap[k.b]? =some (.loop l)∧l.state=r.state∧l.pending=r.rt∧l.fn=r.f∧l.params.toList=r.params∧l.assign=r.jp∧l.body=r.body∧l.tmps.size=r.nt∧
  Iw β w M r.env.get fun t=>l.tmps.getD t Go.undef
structure HR(A:Nat→Prop)(β:Ag)(w:World)(h:AB):Prop where
 obj: ∀id o,h.get id=some o→ ∃k,β id=some k∧Kh β w (MS A β h) k o
 inj: ∀id id' o o' k k',h.get id=some o→h.get id'=some o'→o.mut=true→o'.mut=true→β id=some k→β id'=some k'→k.b=k'.b→id=id'
 wt: ∀id k,β id=some k→k.b<w.heap.size
 out: ∀id o k,h.get id=some o→o.mut=true→β id=some k→ ¬A k.b
 abnd: ∀b,A b→b<w.heap.size
structure DX(A M:Nat→Prop)(w:World)(M':Nat→Prop)(w':World):Prop where
 rg: ∀b,b<w.heap.size→ ¬M b∨A b→w'.heap[b]? =w.heap[b]?
 size:w.heap.size≤w'.heap.size
 sub: ∀b,M' b→M b∨w.heap.size≤b
 io:w'.os=w.os∧w'.output=w.output:=by exact⟨rfl,rfl⟩
theorem DX.refl(M:Nat→Prop)(w:World):DX A M w M w:=⟨fun _ _ _=>rfl,D6 _,fun _ h=>.inl h,rfl,rfl⟩
variable{M M':Nat→Prop}{w w':World}
theorem DX.trans{M'':Nat→Prop}{w'':World}(h:DX A M w M' w')(h':DX A M' w' M'' w''):DX A M w M'' w'' where
 rg b hb hm:=by
  rw[h'.rg b (Lm hb h.size) (hm.imp (fun hm hm'=>(h.sub b hm').elim hm (fun h=>by omega)) (fun h=>h)),h.rg b hb hm]
 size:=IP h.size h'.size
 sub b hb:=by
  rcases h'.sub b hb with h1|h1
  .exact h.sub b h1
  .exact .inr (IP h.size h1)
 io:=⟨h'.io.1.trans h.io.1,h'.io.2.trans h.io.2⟩
theorem DX.sub'(h:DX A M w M' w'){b:Nat}(hb:b<w.heap.size)(hm: ¬M b): ¬M' b:=
 fun hm'=>(h.sub b hm').elim hm (fun h=>by omega)
def Le(β β':Ag):Prop:= ∀id k,β id=some k→β' id=some k
theorem Le.refl(β:Ag):Le β β:=fun _ _ h=>h
variable{β':Ag}
theorem Le.trans{β β'':Ag}(h:Le β β')(h':Le β' β''):Le β β'':=fun id k x=>h' id k (h id k x)
theorem AH{b:Nat}{o:Go.Obj}(h:w.heap[b]? =some o):b<w.heap.size:=(HE.1 h).1
theorem DR.mono(hp:DX A M w M' w'){x:AR}{v:Value}(h:DR w M x v):DR w' M' x v:=by
 induction h with
 |int k n=>exact .int k n
 |bool b=>exact .bool b
 |str s=>exact .str s
 |ut=>exact .ut
 |i9=>exact .i9
 |lc=>exact .lc
 |rc=>exact .rc
 |wl a cap=>exact .wl a cap
 |ce es b off cap sz c elem fr hb hm he hl _ hcap ih=>
  exact .ce es b off cap sz c elem fr (by rw[hp.rg b (AH hb) (.inl hm)];exact hb) (hp.sub' (AH hb) hm) he hl ih hcap
theorem VR.mono{β:Ag}(hβ:Le β β')(hp:DX A M w M' w'){x:AV}{v:Value}(h:VR β w M x v):VR β' w' M' x v:=by
 induction h with
 |d h=>exact .d (h.mono hp)
 |co=>exact .co
 |emp a=>exact .emp a
 |f8 id off len k a cap hk hn hl ha=>exact .f8 id off len k a cap (hβ _ _ hk) hn hl ha
 |ptr id off k hk=>exact .ptr id off k (hβ _ _ hk)
 |i7 id i off k hk=>exact .i7 id i off k (hβ _ _ hk)
 |ol cs b off c elem fr hb hm hl hd=>
  exact .ol cs b off c elem fr (by rw[hp.rg b (AH hb) (.inl hm)];exact hb) (hp.sub' (AH hb) hm) hl fun i x v h1 h2=>(hd i x v h1 h2).mono hp
 |fn f a b a' b' h1 h2 _ _ ih1 ih2=>exact .fn f a b a' b' h1 h2 ih1 ih2
 |v6 id k hk=>exact .v6 id k (hβ _ _ hk)
 |mp id k hk=>exact .mp id k (hβ _ _ hk)
 |iface t v u _ ih=>exact .iface t v u ih
 |agg cs c h1 _ ih=>exact .agg cs c h1 ih
 |it cs c h1 _ ih=>exact .it cs c h1 ih
 |undef v=>exact .undef v
theorem FV.mono{β:Ag}(hβ:Le β β')(hp:DX A M w M' w'){x:List AV}{v:Array Value}(h:FV β w M x v):FV β' w' M' x v:=
 ⟨h.1,fun i x v h1 h2=>(h.2 i x v h1 h2).mono hβ hp⟩
theorem Iw.mono{β:Ag}(hβ:Le β β')(hp:DX A M w M' w'){e:Nat→AV}{f:Nat→Value}(h:Iw β w M e f):Iw β' w' M' e f:=
 fun t=>(h t).mono hβ hp
variable{o:Obj}
theorem Kh.mono{β:Ag}(hβ:Le β β')(hp:DX A M w M' w'){k:Po}(h:Kh β w M k o)(hlt:k.b<w.heap.size)
 (hk:w'.heap[k.b]? =w.heap[k.b]?):Kh β' w' M' k o:=by
 cases o with
 |box cs=>obtain⟨c,elem,h1,h2⟩:=h;exact⟨c,elem,hk▸h1,h2.mono hβ hp⟩
 |d7 sz es=>obtain⟨c,elem,h1,h2,h3,h4,h5,h6,h7⟩:=h;exact⟨c,elem,hk▸h1,h2,h3,h4,h5,h6,fun i x v a b=>(h7 i x v a b).mono hp⟩
 |i5 sz es=>
  rcases h with h|⟨hm,c,elem,fr,h1,h2,h3,h4,h5,h6,h7⟩
  .exact .inl h
  .exact .inr ⟨hp.sub' hlt hm,c,elem,fr,hk▸h1,h2,h3,h4,h5,h6,fun i x v a b=>(h7 i x v a b).mono hp⟩
 |arr sz es=>obtain⟨c,elem,h1,h2,h3,h4,h5,h6,h7⟩:=h;exact⟨c,elem,hk▸h1,h2,h3,h4,h5,h6,fun i x v a b=>(h7 i x v a b).mono hβ hp⟩
 |map es=>obtain⟨en,cl,h1,h2,h3⟩:=h;exact⟨en,cl,hk▸h1,h2,fun i p e a b=>⟨(h3 i p e a b).1.mono hp,(h3 i p e a b).2.mono hβ hp⟩⟩
 |loop r=>obtain⟨l,h1,h2,h3,h4,h5,h6,h7,h9,h8⟩:=h;exact⟨l,hk▸h1,h2,h3,h4,h5,h6,h7,h9,h8.mono hβ hp⟩
theorem HR.step{β:Ag}{h h':AB}(H:HR A β w h)(hβ:Le β β')(hp:DX A (MS A β h) w (MS A β' h') w')
 (hobj: ∀id o,h'.get id=some o→(h.get id=some o∧ ∀k,β id=some k→w'.heap[k.b]? =w.heap[k.b]?)∨ ∃k,β' id=some k∧Kh β' w' (MS A β' h') k o)
 (hinj: ∀id id' o o' k k',h'.get id=some o→h'.get id'=some o'→o.mut=true→o'.mut=true→β' id=some k→β' id'=some k'→k.b=k'.b→id=id')
 (hbnd: ∀id k,β' id=some k→k.b<w'.heap.size) (hout: ∀id o k,h'.get id=some o→o.mut=true→β' id=some k→ ¬A k.b):HR A β' w' h' where
 obj id o ho:=by
  rcases hobj id o ho with⟨h1,h2⟩|h1
  .obtain⟨k,hk,hr⟩:=H.obj id o h1;exact⟨k,hβ _ _ hk,hr.mono hβ hp (H.wt id k hk) (h2 k hk)⟩
  .exact h1
 inj:=hinj
 wt:=hbnd
 out:=hout
 abnd b hb:=Lm (H.abnd b hb) hp.size
def Ag.put(β:Ag)(id:Id)(k:Po):Ag:=fun x=>if x=id then some k else β x
theorem Ml{β:Ag}{id:Id}{k:Po}(h:β id=none):Le β (β.put id k):=fun x k' hx=>by
 unfold Ag.put;split
 .rename_i e;subst e;rw[h]at hx;cases hx
 .exact hx
@[simp] theorem FH(β:Ag)(id:Id)(k:Po):β.put id k id=some k:=by simp[Ag.put]
theorem BR(β:Ag){id x:Id}(k:Po)(h:x≠id):β.put id k x=β x:=by simp[Ag.put,h]
def World.add(w:World)(x:Go.Obj):World:={w with heap:=w.heap.push x}
theorem J6(w:World)(x:Go.Obj):(World.add w x).heap[w.heap.size]? =some x:=by simp[World.add]
theorem Hg(w:World)(x:Go.Obj){b:Nat}(h:b<w.heap.size):(World.add w x).heap[b]? =w.heap[b]? :=by
 simp[World.add,Mp,Nat.ne_of_lt h]
theorem H9(w:World)(x:Go.Obj):(World.add w x).heap.size=w.heap.size+1:=by simp[World.add]
theorem nr{β:Ag}{h:AB}(H:HR A β w h){b:Nat}(hb:MS A β h b):b<w.heap.size:=by
 rcases hb with hb|⟨id,o,k,_,_,hk,rfl⟩
 .exact H.abnd b hb
 .exact H.wt id k hk
theorem Rm{β:Ag}{w:World}{h:AB}(H:HR A β w h){id:Id}(x:Go.Obj){o:Obj}{k:Po}(hk:k.b=w.heap.size):
 DX A (MS A β h) w (MS A (β.put id k) (h.put id o)) (World.add w x) where
 rg b hb _:=Hg w x hb
 size:=by rw[H9];omega
 sub b hb:=by
  rcases hb with hb|⟨id',o',k',ho,hm,hk',rfl⟩
  .exact .inl (.inl hb)
  by_cases e:id'=id
  .subst e;simp at hk';subst hk';exact .inr (by omega)
  .rw[BR β k e]at hk';rw[AB.get_put,Ci (Ne.symm e)]at ho;exact .inl (.inr ⟨id',o',k',ho,hm,hk',rfl⟩)
theorem HR.add{β:Ag}{w:World}{h:AB}(H:HR A β w h){id:Id}(hid:β id=none){x:Go.Obj}{o:Obj}{k:Po}(hk:k.b=w.heap.size)
 (ho:Kh (β.put id k) (World.add w x) (MS A (β.put id k) (h.put id o)) k o):HR A (β.put id k) (World.add w x) (h.put id o):=by
 refine H.step (Ml hid) (Rm H x hk) ?_ ?_ ?_ ?_
 .intro id' o' hg;rw[AB.get_put]at hg;split at hg
  .rename_i e;subst e;cases hg;exact .inr ⟨k,by simp,ho⟩
  .exact .inl ⟨hg,fun k' hk'=>Hg w x (H.wt _ _ hk')⟩
 .intro a b oa ob ka kb ha hb hma hmb hka hkb e;rw[AB.get_put]at ha hb;by_cases ea:a=id<;>by_cases eb:b=id
  .rw[ea,eb]
  .subst ea;simp at hka;subst hka;rw[BR β _ eb]at hkb;have:=H.wt _ _ hkb;omega
  .subst eb;simp at hkb;subst hkb;rw[BR β _ ea]at hka;have:=H.wt _ _ hka;omega
  .rw[BR β _ ea]at hka;rw[BR β _ eb]at hkb;rw[Ci (Ne.symm ea)]at ha;rw[Ci (Ne.symm eb)]at hb;exact H.inj a b oa ob ka kb ha hb hma hmb hka hkb e
 .intro a ka hka;rw[H9];by_cases ea:a=id
  .subst ea;simp at hka;subst hka;omega
  .rw[BR β _ ea]at hka;have:=H.wt _ _ hka;omega
 .intro a oa ka ha hma hka hA;rw[AB.get_put]at ha;by_cases ea:a=id
  .subst ea;simp at hka;subst hka;have:=H.abnd _ hA;omega
  .rw[BR β _ ea]at hka;rw[Ci (Ne.symm ea)]at ha;exact H.out a oa ka ha hma hka hA
def World.ii(w:World)(b:Nat)(x:Go.Obj):World:={w with heap:=w.heap.setIfInBounds b x}
theorem G5{b:Nat}(x:Go.Obj)(h:b<w.heap.size):(World.ii w b x).heap[b]? =some x:=by simp[World.ii,h]
theorem EF{b b':Nat}(x:Go.Obj)(h:b'≠b):(World.ii w b x).heap[b']? =w.heap[b']? :=by
 simp[World.ii,I0,Ne.symm h]
theorem EK(w:World)(b:Nat)(x:Go.Obj):(World.ii w b x).heap.size=w.heap.size:=by simp[World.ii]
theorem Sx{β:Ag}{h:AB}{id:Id}{o o':Obj}(ho:h.get id=some o)(hm:o.mut=true){b:Nat}(hb:MS A β (h.put id o') b):MS A β h b:=by
 rcases hb with hb|⟨id',o1,k,h1,h2,h3,rfl⟩
 .exact .inl hb
 rw[AB.get_put]at h1;split at h1
 .rename_i e;subst e;exact .inr ⟨id,o,k,ho,hm,h3,rfl⟩
 .exact .inr ⟨id',o1,k,h1,h2,h3,rfl⟩
variable{o':Obj}
theorem GN{β:Ag}{h:AB}(H:HR A β w h){id:Id}{k:Po}(ho:h.get id=some o)(hm:o.mut=true)(hk:β id=some k)(x:Go.Obj):
 DX A (MS A β h) w (MS A β (h.put id o')) (World.ii w k.b x) where
 rg b _ hb:=EF x fun e=>hb.elim (fun hb=>hb (.inr ⟨id,o,k,ho,hm,hk,e.symm⟩)) (fun hb=>H.out id o k ho hm hk (e▸hb))
 size:=by rw[EK];omega
 sub b hb:=.inl (Sx ho hm hb)
theorem HR.ii{β:Ag}{w:World}{h:AB}(H:HR A β w h){id:Id}{k:Po}{o o':Obj}(ho:h.get id=some o)(hm:o.mut=true)(hk:β id=some k){x:Go.Obj}
 (hr:Kh β (World.ii w k.b x) (MS A β (h.put id o')) k o')
 (hfro: ∀id' sz es k',h.get id'=some (.i5 sz es)→β id'=some k'→k'.b=k.b→es=[]):HR A β (World.ii w k.b x) (h.put id o'):=by
 refine H.step (.refl β) (GN H ho hm hk x) ?_ ?_ ?_ ?_
 .intro id' o1 hg;rw[AB.get_put]at hg;split at hg
  .rename_i e;subst e;cases hg;exact .inr ⟨k,hk,hr⟩
  .rename_i e;obtain⟨k',hk',hr'⟩:=H.obj id' o1 hg;by_cases eb:k'.b=k.b
   .cases hm':o1.mut with
    |true=>exact absurd (H.inj id id' o o1 k k' ho hg hm hm' hk hk' eb.symm) e
    |false=>
     cases o1 with
     |i5 sz es=>
      have:=hfro id' sz es k' hg hk' eb;exact .inr ⟨k',hk',.inl this⟩
     |_=>simp[Obj.mut]at hm'
   .exact .inl ⟨hg,fun k2 hk2=>by rw[hk']at hk2;cases hk2;exact EF x eb⟩
 .intro a b oa ob ka kb ha hb hma hmb hka hkb e;rw[AB.get_put]at ha hb;have get': ∀{y:Id} {oy:Obj},(if id=y then some o' else h.get y)=some oy→oy.mut=true→ ∃oz,h.get y=some oz∧oz.mut=true:=by
   intro y oy hy hmy;split at hy
   .rename_i e;subst e;exact⟨o,ho,hm⟩
   .exact⟨oy,hy,hmy⟩
  obtain⟨oa',h1,h2⟩:=get' ha hma;obtain⟨ob',h3,h4⟩:=get' hb hmb;exact H.inj a b oa' ob' ka kb h1 h3 h2 h4 hka hkb e
 .intro a ka hka;rw[EK];exact H.wt a ka hka
 .intro a oa ka ha hma hka;rw[AB.get_put]at ha;split at ha
  .rename_i e;subst e;exact H.out _ _ _ ho hm hka
  .exact H.out a oa ka ha hma hka
theorem HR.i5{β:Ag}{h:AB}(H:HR A β w h){id id':Id}{k k':Po}(ho:h.get id=some o)(hm:o.mut=true)(hk:β id=some k){sz:Nat}{es:List (List AR)}
 (hf:h.get id'=some (.i5 sz es)) (hk':β id'=some k') (e:k'.b=k.b):es=[]:=by
 obtain⟨k2,hk2,hr⟩:=H.obj id' _ hf;rw[hk']at hk2;cases hk2;rcases hr with h1|⟨h1,_⟩
 .exact h1
 .exact absurd (.inr ⟨id,o,k,ho,hm,hk,e.symm⟩) h1
theorem HR.upd'{β:Ag}{h:AB}(H:HR A β w h){id:Id}{k:Po}(ho:h.get id=some o)(hm:o.mut=true)(hk:β id=some k){x:Go.Obj}
 (hr:Kh β (World.ii w k.b x) (MS A β (h.put id o')) k o'):HR A β (World.ii w k.b x) (h.put id o'):=
 H.ii ho hm hk hr fun _ _ _ _ h1 h2 h3=>H.i5 ho hm hk h1 h2 h3
theorem sh{β:Ag}{h:AB}{id:Id}(ho:h.get id=some o)(hm:o.mut=true):
 DX A (MS A β h) w (MS A β (h.put id o')) w:=⟨fun _ _ _=>rfl,D6 _,fun _ hb=>.inl (Sx ho hm hb),rfl,rfl⟩
theorem HR.kill{β:Ag}{w:World}{h:AB}(H:HR A β w h){id:Id}{o:Obj}(ho:h.get id=some o)(hm:o.mut=true):HR A β w (h.put id (.i5 0 [])):=by
 obtain⟨k,hk,_⟩:=H.obj id _ ho;refine H.step (.refl β) (sh ho hm) ?_ ?_ H.wt ?_
 .intro id' o1 hg;rw[AB.get_put]at hg;split at hg
  .rename_i e;subst e;cases hg;exact .inr ⟨k,hk,.inl rfl⟩
  .exact .inl ⟨hg,fun _ _=>rfl⟩
 .intro a b oa ob ka kb ha hb hma hmb hka hkb e;rw[AB.get_put]at ha hb;have get': ∀{y:Id} {oy:Obj},(if id=y then some (Obj.i5 0 [])else h.get y)=some oy→oy.mut=true→ ∃oz,h.get y=some oz∧oz.mut=true:=by
   intro y oy hy hmy;split at hy
   .cases hy;simp[Obj.mut]at hmy
   .exact⟨oy,hy,hmy⟩
  obtain⟨oa',h1,h2⟩:=get' ha hma;obtain⟨ob',h3,h4⟩:=get' hb hmb;exact H.inj a b oa' ob' ka kb h1 h3 h2 h4 hka hkb e
 .intro a oa ka ha hma hka;rw[AB.get_put]at ha;split at ha
  .cases ha;cases hma
  .exact H.out a oa ka ha hma hka
end Go.Abs
