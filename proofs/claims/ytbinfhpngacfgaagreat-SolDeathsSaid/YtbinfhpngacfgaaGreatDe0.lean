/-
  Parts of it.
-/
import Derived.CallsIn
import Derived.DefersIn
import Derived.RangeFuncLeaves
set_option linter.all false
namespace Go
def AM:=@Bool.false_eq_true
def AP:=@Bool.and_eq_true
def AS:=@Option.get_some
def Ac:=@List.mem_of_getElem?
def Ap:=@decide_eq_true_eq
def As:=@List.mem_singleton
def BE:=@List.getElem?_eq_some_iff
def BI:=@List.length_map
def BV:=@Option.map_eq_some_iff
def BY:=@List.getElem?_eq_getElem
def Be:=@List.getElem?_append_left
def Bi:=@List.mem_flatMap
def Bv:=@Option.some.injEq
def By:=@Bool.false_and
def CE:=@decide_eq_false
def CI:=@List.length_append
def CO:=@List.getElem?_append_right
def CS:=@if_neg
def Ce:=@List.mem_cons
def Ci:=@List.all_eq_true
def Co:=@decide_eq_true
def Cs:=@List.eq_nil_of_length_eq_zero
def DL:=@List.take_of_length_le
def DO:=@if_pos
def Dl:=@Nat.eq_of_beq_eq_true
def D0:=@List.map_append
def D1:=@List.getElem?_map
def D2:=@List.flatMap_cons
def D3:=@List.all_cons
def D4:=@List.map_nil
def D5:=@List.drop_eq_nil_of_le
def D6:=@Array.getElem?_eq_getElem
def D7:=@Bool.true_and
def D8:=@List.map_cons
def D9:=@List.append_nil
def EL:=@Nat.le_refl
def EM:=@List.append_assoc
def ES:=@if_false
def EX:=@List.mem_append
def El:=@Option.map_some
def Em:=@List.take_length
def Es:=@List.suffix_cons
def Ex:=@List.getElem?_cons_zero
def FD:=@List.mem_cons_of_mem
def FN:=@List.cons_append
def F0:=@List.mem_map
def F1:=@List.mem_cons_self
def F2:=@Prod.mk.injEq
def F3:=@if_true
def F4:=@List.getElem?_cons_succ
def F5:=@Option.getD_some
def F6:=@Nat.le_of_ble_eq_true
def F7:=@Array.getD_eq_getD_getElem?
def F8:=@List.not_mem_nil
def F9:=@Int.toNat_natCast
def GC:=@Bool.and_false
def GO:=@forall_eq_or_imp
def GS:=@List.flatMap_nil
def Gc:=@List.nil_append
def Ge:=@List.mem_append_right
def Gs:=@Bool.not_eq_true'
def Gt:=@List.map_eq_nil_iff
def HE:=@List.getElem?_drop
def HM:=@Nat.mul_le_mul_right
def HU:=@List.mem_append_left
def HW:=@List.getElem?_set
def He:=@Array.getElem?_toList
def Hm:=@Nat.le_trans
def Hw:=@Array.getElem?_eq_some_iff
def ID:=@List.suffix_cons_iff
def IF:=@List.getElem?_of_mem
def II:=@List.length_singleton
def IN:=@Array.getElem?_setIfInBounds_ne
def IP:=@List.length_take
def IS:=@Nat.add_mul
def IT:=@Option.bind_eq_some_iff
def Ii:=@Bool.false_or
def Io:=@List.length_drop
def Ip:=@Option.isSome_iff_exists
def Is:=@List.take_add_one
def It:=@List.getElem?_take
def I0:=@List.length_replicate
def I1:=@List.take_append_of_le_length
def I2:=@Bool.or_eq_true
def I3:=@Array.getElem?_setIfInBounds
def I4:=@Nat.zero_le
def I5:=@Nat.zero_add
def I6:=@List.getElem?_eq_none
def I7:=@Option.bind_some
def I8:=@Int.eq_ofNat_of_zero_le
def I9:=@Array.getElem?_append_left
def JP:=@List.map_set
def Jp:=@List.take_succ
def KW:=@Bool.not_eq_true
def Kw:=@Nat.le_max_left
def LC:=@List.length_eq_zero_iff
def LI:=@List.mem_of_mem_take
def LM:=@List.mem_of_mem_drop
def Lc:=@List.nodup_append
def Li:=@List.flatten_append
def Lm:=@List.flatMap_append
def Ls:=@or_false
def Lt:=@Bool.and_true
def Lw:=@Bool.and_self
def MD:=@Nat.sub_self
def MK:=@List.take_append_drop
def MP:=@List.foldl_cons
def MT:=@Array.eq_empty_of_size_eq_zero
def Md:=@Nat.lt_of_lt_of_le
def Mk:=@Nat.le_max_right
def Mp:=@List.mem_flatten
def Ms:=@List.getElem_mem
def Mt:=@List.flatten_cons
def NL:=@Option.some.inj
def NO:=@List.cons.injEq
def Nl:=@Bool.eq_iff_iff
def No:=@Array.length_toList
def OF:=@Array.getElem?_push
def OK:=@List.append_eq_nil_iff
def OL:=@Nat.ble_eq_true_of_le
def ON:=@List.mem_iff_getElem?
def OP:=@List.map_replicate
def OR:=@List.getElem?_toArray
def OS:=@Bool.not_true
def Of:=@Array.ext_getElem?
def Ok:=@List.mem_range
def Ol:=@Bool.not_false
def On:=@List.drop_eq_nil_iff
def PI:=@List.eq_of_mem_replicate
def PL:=@Int.toNat_of_nonneg
def PM:=@Nat.ne_of_beq_eq_false
def PU:=@List.drop_of_length_le
def Pl:=@Nat.add_sub_cancel
def Pm:=@Array.getElem?_map
def Pp:=@List.mem_filter
def Pu:=@List.all_nil
def QR:=@Bool.and_eq_false_iff
def Qr:=@Array.mem_of_getElem?
def RC:=@Nat.add_assoc
def RD:=@List.size_toArray
def RG:=@List.exists_cons_of_ne_nil
def RO:=@List.mem_iff_getElem
def RS:=@List.drop_eq_getElem_cons
def RT:=@List.replicate_succ
def RW:=@Nat.mul_comm
def RX:=@Array.size_setIfInBounds
def Rc:=@decide_eq_false_iff_not
def Rd:=@List.getElem?_replicate
def Rg:=@List.cons.inj
def Ro:=@List.all_append
def Rs:=@Array.size_append
def Rt:=@Nat.succ_mul
def Rw:=@List.map_flatten
def Rx:=@List.filter_cons
def SP:=@List.any_eq_true
def S1:=@List.map_take
def TO:=@List.map_drop
def TY:=@Nat.blt_eq
def To:=@true_and
end Go
namespace Go.Abs
inductive AZ where
 |int (k:IntKind) (n:Int)
 |bool (b:Bool)
 |str (s:ByteArray)
 |be (es:List (List AZ))
 |un|i7|kw|rx
abbrev Id:=List Nat
def Id.is:Id→Id→Bool
 |[],[]=>true
 |n::l,m::k=>match Nat.beq n m with
  |true=>Id.is l k
  |false=>false
 |_,_=>false
def Id.under(ρ:Id):Id→Bool
 |[]=>Id.is ρ []
 |n::l=>match Id.is ρ (n::l)with
  |true=>true
  |false=>Id.under ρ l
inductive AV where
 |d (x:AZ)
 |ci
 |emp
 |em (id:Id) (off len:Nat)
 |ptr (id:Id) (off:Nat)
 |i6 (id:Id) (i off:Nat)
 |pp (cs:List AZ)
 |fn (f:FuncId) (first cap:List AV)
 |v6 (id:Id)
 |mp (id:Id)
 |iface (t:TypeId) (v:AV)
 |agg (cs:List AV)
 |ge (vs:List AV)
 |undef
abbrev Bm:=List (Nat×AV)
def Bm.get:Bm→Nat→AV
 |[],_=>.undef
 |(k,v)::e,t=>match Nat.beq k t with
  |true=>v
  |false=>Bm.get e t
structure Lp where
 state:LoopState
 rt:Option Code
 f:FuncId
 env:Bm
 params:List Nat
 i9:Code
 body:Code
 nt:Nat
inductive Obj where
 |box (cs:List AV)
 |co (sz:Nat) (es:List (List AZ))
 |it (sz:Nat) (es:List (List AZ))
 |arr (sz:Nat) (es:List (List AV))
 |map (es:List (AZ×AV))
 |loop (r:Lp)
abbrev AB:=List (Id×Obj)
def AB.get:AB→Id→Option Obj
 |[],_=>none
 |(k,o)::h,id=>match Id.is k id with
  |true=>some o
  |false=>AB.get h id
mutual
def AZ.same:AZ→AZ→Bool
 |.int k n,.int k' m=>decide (k=k')&&decide (n=m)
 |.bool a,.bool b=>match a,b with
  |true,true=>true
  |false,false=>true
  |_,_=>false
 |.str a,.str b=>decide (a.data.toList=b.data.toList)
 |.be a,.be b=>AZ.samess a b
 |.un,.un=>true
 |.i7,.i7=>true
 |.kw,.kw=>true
 |.rx,.rx=>true
 |_,_=>false
def AZ.sames:List AZ→List AZ→Bool
 |[],[]=>true
 |x::l,y::m=>match AZ.same x y with
  |true=>AZ.sames l m
  |false=>false
 |_,_=>false
def AZ.samess:List (List AZ)→List (List AZ)→Bool
 |[],[]=>true
 |x::l,y::m=>match AZ.sames x y with
  |true=>AZ.samess l m
  |false=>false
 |_,_=>false
end
mutual
theorem AZ.same_eq: ∀{a b:AZ},AZ.same a b=true→a=b
 |.int k n,b,h=>by
  cases b<;>simp[AZ.same]at h;rw[h.1,h.2]
 |.bool a,b,h=>by
  cases b<;>simp[AZ.same]at h;rename_i b;cases a<;>cases b<;>simp at h<;>rfl
 |.str a,b,h=>by
  cases b<;>simp[AZ.same]at h;rename_i b;cases a;cases b;simp at h;rw[h]
 |.be a,b,h=>by
  cases b<;>simp[AZ.same]at h;rw[AZ.samess_eq h]
 |.un,b,h=>by cases b<;>simp[AZ.same]at h;rfl
 |.i7,b,h=>by cases b<;>simp[AZ.same]at h;rfl
 |.kw,b,h=>by cases b<;>simp[AZ.same]at h;rfl
 |.rx,b,h=>by cases b<;>simp[AZ.same]at h;rfl
theorem AZ.sames_eq: ∀{a b:List AZ},AZ.sames a b=true→a=b
 |[],b,h=>by cases b<;>simp[AZ.sames]at h;rfl
 |x::l,[],h=>by simp[AZ.sames]at h
 |x::l,y::m,h=>by
  unfold AZ.sames at h;split at h
  .rename_i h1;rw[AZ.same_eq h1,AZ.sames_eq h]
  .cases h
theorem AZ.samess_eq: ∀{a b:List (List AZ)},AZ.samess a b=true→a=b
 |[],b,h=>by cases b<;>simp[AZ.samess]at h;rfl
 |x::l,[],h=>by simp[AZ.samess]at h
 |x::l,y::m,h=>by
  unfold AZ.samess at h;split at h
  .rename_i h1;rw[AZ.sames_eq h1,AZ.samess_eq h]
  .cases h
end
theorem Id.is_eq: ∀{a b:Id},Id.is a b=true→a=b
 |[],[],_=>rfl
 |[],_::_,h=>by simp[Id.is]at h
 |_::_,[],h=>by simp[Id.is]at h
 |n::l,m::k,h=>by
  unfold Id.is at h;split at h
  .rename_i h1;rw[Dl h1,Id.is_eq h]
  .cases h
mutual
def AV.same:AV→AV→Bool
 |.d x,.d y=>AZ.same x y
 |.ci,.ci=>true
 |.emp,.emp=>true
 |.em i a b,.em j a' b'=>Id.is i j&&(Nat.beq a a'&&Nat.beq b b')
 |.ptr i a,.ptr j b=>Id.is i j&&Nat.beq a b
 |.i6 i a b,.i6 j a' b'=>Id.is i j&&(Nat.beq a a'&&Nat.beq b b')
 |.fn f a b,.fn g a' b'=>Nat.beq f g&&(AV.sames a a'&&AV.sames b b')
 |.v6 i,.v6 j=>Id.is i j
 |.mp i,.mp j=>Id.is i j
 |.iface t v,.iface u w=>Nat.beq t u&&AV.same v w
 |.agg l,.agg m=>AV.sames l m
 |.ge l,.ge m=>AV.sames l m
 |.undef,.undef=>true
 |_,_=>false
def AV.sames:List AV→List AV→Bool
 |[],[]=>true
 |x::l,y::m=>match AV.same x y with
  |true=>AV.sames l m
  |false=>false
 |_,_=>false
end
mutual
theorem AV.same_eq: ∀{a b:AV},AV.same a b=true→a=b
 |.d x,b,h=>by
  cases b<;>simp[AV.same]at h;rw[AZ.same_eq h]
 |.agg l,b,h=>by
  cases b<;>simp[AV.same]at h;rw[AV.sames_eq h]
 |.ge l,b,h=>by
  cases b<;>simp[AV.same]at h;rw[AV.sames_eq h]
 |.ci,b,h=>by cases b<;>simp[AV.same]at h;rfl
 |.emp,b,h=>by cases b<;>simp[AV.same]at h;rfl
 |.undef,b,h=>by cases b<;>simp[AV.same]at h;rfl
 |.em ..,b,h=>by
  cases b<;>simp[AV.same]at h;rw[Id.is_eq h.1,h.2.1,h.2.2]
 |.ptr ..,b,h=>by
  cases b<;>simp[AV.same]at h;rw[Id.is_eq h.1,h.2]
 |.i6 ..,b,h=>by
  cases b<;>simp[AV.same]at h;rw[Id.is_eq h.1,h.2.1,h.2.2]
 |.pp _,b,h=>by simp[AV.same]at h
 |.fn f a c,b,h=>by
  cases b<;>simp[AV.same]at h;rw[h.1,AV.sames_eq h.2.1,AV.sames_eq h.2.2]
 |.v6 _,b,h=>by
  cases b<;>simp[AV.same]at h;rw[Id.is_eq h]
 |.mp _,b,h=>by
  cases b<;>simp[AV.same]at h;rw[Id.is_eq h]
 |.iface t v,b,h=>by
  cases b<;>simp[AV.same]at h;rw[h.1,AV.same_eq h.2]
theorem AV.sames_eq: ∀{a b:List AV},AV.sames a b=true→a=b
 |[],b,h=>by cases b<;>simp[AV.sames]at h;rfl
 |x::l,[],h=>by simp[AV.sames]at h
 |x::l,y::m,h=>by
  unfold AV.sames at h;split at h
  .rename_i h1;rw[AV.same_eq h1,AV.sames_eq h]
  .cases h
end
def Obj.same:Obj→Option Obj→Bool
 |.box l,some (.box m)=>AV.sames l m
 |.co a l,some (.co b m)=>Nat.beq a b&&AZ.samess l m
 |.it a l,some (.it b m)=>Nat.beq a b&&AZ.samess l m
 |_,_=>false
theorem Obj.same_eq{a:Obj}{b:Option Obj}(h:Obj.same a b=true):b=some a:=by
 unfold Obj.same at h;split at h
 .rw[AV.sames_eq h]
 .simp only[AP]at h;rw[Dl h.1,AZ.samess_eq h.2]
 .simp only[AP]at h;rw[Dl h.1,AZ.samess_eq h.2]
 .cases h
def UW(h h':AB):List Id:=((h++h').filter fun p=>match h.get p.1 with
 |some o=> !Obj.same o (h'.get p.1)
 |none=>true).map (·.1)
theorem AB.get_mem: ∀{h:AB} {id:Id} {o:Obj},h.get id=some o→(id,o)∈h
 |[],_,_,hg=>by cases hg
 |(k,o')::h,id,o,hg=>by
  unfold AB.get at hg;split at hg
  .rename_i h1;cases hg;rw[Id.is_eq h1];simp
  .exact FD _ (AB.get_mem hg)
theorem je{h h':AB}{id:Id}(hi:id∉UW h h'):h'.get id=h.get id:=by
 have key: ∀o,(id,o)∈h++h'→h'.get id=h.get id:=fun o ho=>by
  have: ¬(match h.get id with|some o=> !Obj.same o (h'.get id)|none=>true)=true:=fun hc=>
   hi (F0.2 ⟨(id,o),Pp.2 ⟨ho,hc⟩,rfl⟩)
  split at this
  .rename_i o2 h2;rw[h2];exact Obj.same_eq (by simpa using this)
  .exact absurd rfl this
 cases h1:h.get id with
 |some o=>rw[←h1];exact key o (HU _ (AB.get_mem h1))
 |none=>cases h2:h'.get id with
  |some o=>rw[←h1,←h2];exact key o (Ge _ (AB.get_mem h2))
  |none=>rfl
def AB.put:AB→Id→Obj→AB
 |[],id,o=>[(id,o)]
 |(k,x)::h,id,o=>match Id.is k id with
  |true=>(k,o)::h
  |false=>(k,x)::AB.put h id o
def AB.puts(h:AB)(δ:AB):AB:=δ.foldl (fun h p=>h.put p.1 p.2) h
inductive TK where
 |bool|int|str|func|ptr|iface|slice|map|other
 |flat (ks:List TK)
structure TI where
 kind:TK
 size:Nat
 agg:Bool
 str:Bool
 zero:List AV
 flds:List (Nat×Nat×Bool)
 elem:TypeId
 key:TypeId
 mix:Bool
inductive Mode where
 |auto|own|raw|ro
 deriving DecidableEq
structure CZ where
 T:TypeId→Option TI
 mode:FuncId→Mode
 live:FuncId→Nat→List Nat
 d7:FuncId→Nat→List (Nat×Nat)
 alone:FuncId→Nat→Nat→Bool
 ol:FuncId→Option TypeId
 wp:TypeId→String→Option FuncId
 i5:FuncId→Bool
def DH:Value→AV
 |.int k n=>.d (.int k n)
 |.bool b=>.d (.bool b)
 |.string s=>.d (.str s)
 |.slice none 0 0=>.ci
 |.pointer none=>.d .un
 |.nilFunc=>.d .i7
 |.nilIface=>.d .kw
 |.map none=>.d .rx
 |_=>.undef
def ev(e:Nat→AV):Operand→AV
 |.tmp t=>e t
 |.const v=>DH v
 |.func f=>.fn f [] []
 |.global _=>.undef
def AV.cells:AV→List AV
 |.agg cs=>cs
 |v=>[v]
def AV.isCell:AV→Bool
 |.agg _=>false
 |.ge _=>false
 |.undef=>false
 |_=>true
def FX(agg:Bool)(cs:List AV):Option AV:=
 if agg then some (.agg cs)else match cs with
  |[c]=>some c
  |_=>none
def JZ{α:Type}(l:List α)(off n:Nat):Option (List α):=
 if off+n≤l.length then some ((l.drop off).take n)else none
def B6{α:Type}(l:List α)(off:Nat)(new:List α):Option (List α):=
 if off+new.length≤l.length then some (l.take off++new++l.drop (off+new.length))else none
structure CJ where
 v:AV
 δ:AB:=[]
abbrev G:=Id→Option Obj
def N6:Option Obj→Option (List (List AV))
 |some (.co _ es)=>some (es.map (·.map .d))
 |some (.it _ es)=>some (es.map (·.map .d))
 |some (.arr _ es)=>some es
 |_=>none
def JH(g:G)(i:TI):AV→Option AV
 |.ptr id off=>match g id with
  |some (.box cs)=>(JZ cs off i.size).bind (FX i.agg)
  |_=>none
 |.i6 id k off=>match g id with
  |some (.co _ es)=>match es[k]? with
   |some e=>(JZ e off i.size).bind fun ds=>FX i.agg (ds.map .d)
   |none=>none
  |some (.it _ es)=>match es[k]? with
   |some e=>(JZ e off i.size).bind fun ds=>FX i.agg (ds.map .d)
   |none=>none
  |some (.arr _ es)=>match es[k]? with
   |some e=>(JZ e off i.size).bind (FX i.agg)
   |none=>none
  |_=>none
 |.pp cs=>(JZ cs 0 i.size).bind fun ds=>FX i.agg (ds.map .d)
 |_=>none
section force
variable{α:Type}
def IQ(n:Nat)(k:Nat→α):α:=match n with
 |0=>k 0
 |m+1=>k (Nat.succ m)
def ABl(b:Bool)(k:Bool→α):α:=match b with
 |true=>k true
 |false=>k false
def ACV(n:Int)(k:Int→α):α:=match n with
 |.ofNat m=>IQ m fun m=>k (.ofNat m)
 |.negSucc m=>IQ m fun m=>k (.negSucc m)
def ABn(x:IntKind)(k:IntKind→α):α:=match x with
 |.i8=>k .i8|.i16=>k .i16|.i32=>k .i32|.i64=>k .i64
 |.u8=>k .u8|.u16=>k .u16|.u32=>k .u32|.u64=>k .u64
def OQ(l:List Nat)(k:List Nat→α):α:=match l with
 |[]=>k []
 |n::l=>IQ n fun n=>OQ l fun l=>k (n::l)
def jy(x:AZ)(k:AZ→α):α:=match x with
 |.int kd n=>ABn kd fun kd=>ACV n fun n=>k (.int kd n)
 |.bool b=>ABl b fun b=>k (.bool b)
 |.str s=>k (.str s)
 |.be es=>k (.be es)
 |.un=>k .un
 |.i7=>k .i7
 |.kw=>k .kw
 |.rx=>k .rx
def YE(l:List AZ)(k:List AZ→α):α:=match l with
 |[]=>k []
 |x::l=>jy x fun x=>YE l fun l=>k (x::l)
def Pb(l:List (List AZ))(k:List (List AZ)→α):α:=match l with
 |[]=>k []
 |x::l=>YE x fun x=>Pb l fun l=>k (x::l)
def sC(x:AZ)(k:AZ→α):α:=match x with
 |.be es=>Pb es fun es=>k (.be es)
 |x=>jy x k
def sB(v:AV)(k:AV→α):α:=match v with
 |.d x=>sC x fun x=>k (.d x)
 |.ci=>k .ci
 |.emp=>k .emp
 |.em id off len=>OQ id fun id=>IQ off fun off=>IQ len fun len=>k (.em id off len)
 |.ptr id off=>OQ id fun id=>IQ off fun off=>k (.ptr id off)
 |.i6 id i off=>OQ id fun id=>IQ i fun i=>IQ off fun off=>k (.i6 id i off)
 |.pp cs=>YE cs fun cs=>k (.pp cs)
 |.fn f a b=>IQ f fun f=>k (.fn f a b)
 |.v6 id=>OQ id fun id=>k (.v6 id)
 |.mp id=>OQ id fun id=>k (.mp id)
 |.iface t v=>IQ t fun t=>k (.iface t v)
 |.agg cs=>k (.agg cs)
 |.ge vs=>k (.ge vs)
 |.undef=>k .undef
def R6(l:List AV)(k:List AV→α):α:=match l with
 |[]=>k []
 |x::l=>sB x fun x=>R6 l fun l=>k (x::l)
def bp(v:AV)(k:AV→α):α:=match v with
 |.agg cs=>R6 cs fun cs=>k (.agg cs)
 |.ge vs=>R6 vs fun vs=>k (.ge vs)
 |.fn f a b=>IQ f fun f=>R6 a fun a=>R6 b fun b=>k (.fn f a b)
 |.iface t v=>IQ t fun t=>sB v fun v=>k (.iface t v)
 |v=>sB v k
def Ld(l:List AV)(k:List AV→α):α:=match l with
 |[]=>k []
 |x::l=>bp x fun x=>Ld l fun l=>k (x::l)
def fAV(v:AV)(k:AV→α):α:=match v with
 |.ge vs=>Ld vs fun vs=>k (.ge vs)
 |.agg cs=>Ld cs fun cs=>k (.agg cs)
 |.iface t v=>IQ t fun t=>bp v fun v=>k (.iface t v)
 |v=>bp v k
def gq(l:List (List AV))(k:List (List AV)→α):α:=match l with
 |[]=>k []
 |x::l=>Ld x fun x=>gq l fun l=>k (x::l)
def OO(l:List (AZ×AV))(k:List (AZ×AV)→α):α:=match l with
 |[]=>k []
 |(x,v)::l=>jy x fun x=>bp v fun v=>OO l fun l=>k ((x,v)::l)
def ACW(o:Obj)(k:Obj→α):α:=match o with
 |.box cs=>Ld cs fun cs=>k (.box cs)
 |.co sz es=>IQ sz fun sz=>Pb es fun es=>k (.co sz es)
 |.it sz es=>IQ sz fun sz=>Pb es fun es=>k (.it sz es)
 |.arr sz es=>IQ sz fun sz=>gq es fun es=>k (.arr sz es)
 |.map es=>OO es fun es=>k (.map es)
 |.loop r=>k (.loop r)
def R7(h:AB)(k:AB→α):α:=match h with
 |[]=>k []
 |(id,o)::h=>OQ id fun id=>ACW o fun o=>R7 h fun h=>k ((id,o)::h)
def Gr(h:AB)(k:AB→α):α:=match h with
 |[]=>k []
 |(id,o)::h=>Gr h fun h=>k ((id,o)::h)
def yV(e:Bm)(k:Bm→α):α:=match e with
 |[]=>k []
 |(t,v)::e=>IQ t fun t=>bp v fun v=>yV e fun e=>k ((t,v)::e)
def Ue(e:Bm)(k:Bm→α):α:=match e with
 |[]=>k []
 |p::e=>k (p::e)
end force
def FB(g:G):AV→Option AZ
 |.d x=>some x
 |.ci=>some (.be [])
 |.emp=>some (.be [])
 |.em id off n=>match g id with
  |some (.co _ es)=>(JZ es off n).map .be
  |some (.it _ es)=>(JZ es off n).map .be
  |_=>none
 |_=>none
def Ct(g:G):List AV→Option (List AZ)
 |[]=>some []
 |v::vs=>match FB g v,Ct g vs with
  |some x,some xs=>some (x::xs)
  |_,_=>none
def Cx(g:G):List (List AV)→Option (List (List AZ))
 |[]=>some []
 |v::vs=>match Ct g v,Cx g vs with
  |some x,some xs=>some (x::xs)
  |_,_=>none
def Dn(g:G):AV→Option AZ
 |.em id off n=>match g id with
  |some (.arr _ es)=>match Cx g es with
   |some ds=>(JZ ds off n).map .be
   |none=>none
  |_=>FB g (.em id off n)
 |v=>FB g v
def Gv(g:G):List AV→Option (List AV)
 |[]=>some []
 |v::vs=>match Dn g v,Gv g vs with
  |some x,some xs=>some (.d x::xs)
  |_,_=>none
def Ed(g:G):AV→Option AV
 |.agg cs=>(Gv g cs).map .agg
 |.fn f [] []=>some (.fn f [] [])
 |.iface t (.agg cs)=>(Gv g cs).map fun c=>.iface t (.agg c)
 |.iface t v=>(Dn g v).map fun x=>.iface t (.d x)
 |v=>(Dn g v).map .d
def Dr(g:G):List AV→Option (List AV)
 |[]=>some []
 |v::vs=>match Ed g v,Dr g vs with
  |some x,some xs=>some (x::xs)
  |_,_=>none
def XJ(g:G):AV→Option AV
 |.ge vs=>(Dr g vs).map .ge
 |v=>Ed g v
def Jk(g:G):AV→AB
 |.em id _ _=>match g id with
  |some (.co sz es)=>[(id,.it sz es)]
  |_=>[]
 |_=>[]
def Bs(g:G)(l:List AV):AB:=l.flatMap (Jk g)
def FW(g:G):AV→AB
 |.em id off n=>match g id with
  |some (.co sz es)=>[(id,.it sz es)]
  |some (.arr sz es)=>match Cx g es with
   |some ds=>(id,.it sz ds)::es.flatMap (Bs g)
   |none=>[]
  |_=>[]
 |_=>[]
def KT:AV→List AV
 |.agg cs=>cs
 |.iface _ (.agg cs)=>cs
 |.iface _ v=>[v]
 |v=>[v]
def mark(g:G)(v:AV):AB:=(KT v).flatMap (FW g)
def EH:AZ→Bool
 |.be _=>false
 |_=>true
def FV:List AV→Bool
 |[]=>true
 |.d x::vs=>EH x&&FV vs
 |_=>false
def flat:AV→Bool
 |.d x=>EH x
 |.ci=>true
 |.emp=>true
 |.agg cs=>FV cs
 |.ge vs=>FV vs
 |.iface _ (.d x)=>EH x
 |.iface _ (.agg cs)=>FV cs
 |_=>false
def BT(v:AV)(h:AB):Option (Id×Obj):=
 match v with
 |.em id _ _=>match h.get id with
  |some (.co sz es)=>if es.all (·.all EH)then some (id,.co sz es)else none
  |_=>none
 |_=>none
def Lx(id:Id)(δ:AB):Bool:=δ.all fun p=> !Id.is p.1 id
def JW(g:G)(i:TI)(a v:AV):Option CJ:=
 match v.cells.length==i.size&&v.cells.all AV.isCell with
 |false=>none
 |true=>match a with
  |.ptr id off=>match g id with
   |some (.box cs)=>(B6 cs off v.cells).map fun cs'=>⟨.undef,[(id,.box cs')]⟩
   |_=>none
  |.i6 id k off=>match g id with
   |some (.co sz es)=>match es[k]?,Ct g v.cells,Lx id (Bs g v.cells)with
    |some e,some ds,true=>(B6 e off ds).map fun e'=>⟨.undef,Bs g v.cells++[(id,.co sz (es.set k e'))]⟩
    |_,_,_=>none
   |some (.arr sz es)=>match es[k]? with
    |some e=>(B6 e off v.cells).map fun e'=>⟨.undef,[(id,.arr sz (es.set k e'))]⟩
    |none=>none
   |_=>none
  |_=>none
def Gn{α:Type}(sz:Nat):Nat→List α→List (List α)
 |0,_=>[]
 |n+1,l=>l.take sz::Gn sz n (l.drop sz)
def BA:Nat:=2 ^ 30
def newArr(g:G)(newId:Id)(j:TI)(es:List (List AV)):Option CJ:=
 match es.all (fun e=>e.length==j.size&&e.all AV.isCell)&&Nat.blt 0 j.size&&Nat.ble es.length BA with
 |false=>none
 |true=>match j.mix with
  |true=>some ⟨.em (1::newId) 0 es.length,[(1::newId,.arr j.size es)]⟩
  |false=>match Cx g es with
   |some ds=>some ⟨.em (1::newId) 0 es.length,es.flatMap (Bs g)++[(1::newId,.co j.size ds)]⟩
   |none=>none
def Dm(g:G):AV→Option (List (List AV))
 |.d (.be es)=>some (es.map (·.map .d))
 |.ci=>some []
 |.emp=>some []
 |.em id off n=>(N6 (g id)).bind fun es=>JZ es off n
 |_=>none
def appIn(g:G)(newId:Id)(id:Id)(off n sz:Nat)(es:List (List AZ))(src:List (List AV)):Option CJ:=
 match Cx g src,Lx id (src.flatMap (Bs g))with
 |some ds,true=>match B6 es (off+n) ds with
  |some es'=>some ⟨.em id off (n+ds.length),src.flatMap (Bs g)++[(id,.co sz es')]⟩
  |none=>match Nat.beq off 0&&Nat.ble (n+ds.length) BA with
   |true=>some ⟨.em (1::newId) 0 (n+ds.length),src.flatMap (Bs g)++[(id,.it 0 []),(1::newId,.co sz (es.take n++ds))]⟩
   |false=>none
 |_,_=>none
def appMix(newId:Id)(id:Id)(off n sz:Nat)(es:List (List AV))(src:List (List AV)):Option CJ:=
 match B6 es (off+n) src with
 |some es'=>some ⟨.em id off (n+src.length),[(id,.arr sz es')]⟩
 |none=>match Nat.beq off 0&&Nat.ble (n+src.length) BA with
  |true=>some ⟨.em (1::newId) 0 (n+src.length),[(id,.it 0 []),(1::newId,.arr sz (es.take n++src))]⟩
  |false=>none
def appTo(g:G)(newId:Id)(j:TI)(s:AV)(src:List (List AV)):Option CJ:=
 match s with
 |.ci=>newArr g newId j src
 |.emp=>newArr g newId j src
 |.em id off n=>match g id with
  |some (.co sz es)=>match Nat.beq sz j.size&&Nat.ble (off+n) es.length with
   |true=>appIn g newId id off n sz es src
   |false=>none
  |some (.arr sz es)=>match Nat.beq sz j.size&&Nat.ble (off+n) es.length with
   |true=>appMix newId id off n sz es src
   |false=>none
  |_=>none
 |_=>none
def appendV(g:G)(newId:Id)(j:TI)(s x:AV):Option CJ:=
 match Dm g x with
 |none=>none
 |some []=>match s with
  |.ci=>some ⟨.ci,[]⟩
  |.emp=>some ⟨.emp,[]⟩
  |.em id off n=>some ⟨.em id off n,[]⟩
  |_=>none
 |some src=>match src.all (fun c=>c.length==j.size&&c.all AV.isCell)&&Nat.ble src.length BA&&Nat.blt 0 j.size with
  |true=>appTo g newId j s src
  |false=>none
def Fc(op:BinOp)(k:IntKind)(a b:Int):Option AV:=
 match op with
 |.add=>some (.d (.int k (k.wrap (a+b))))
 |.sub=>some (.d (.int k (k.wrap (a-b))))
 |.mul=>some (.d (.int k (k.wrap (a*b))))
 |.eql=>some (.d (.bool (a==b)))
 |.neq=>some (.d (.bool (a !=b)))
 |.lss=>some (.d (.bool (decide (a<b))))
 |.leq=>some (.d (.bool (decide (a≤b))))
 |.gtr=>some (.d (.bool (decide (b<a))))
 |.geq=>some (.d (.bool (decide (b≤a))))
 |.rem=>if b=0 then none else some (.d (.int k (a.tmod b)))
 |.quo=>if b=0 then none else some (.d (.int k (k.wrap (a.tdiv b))))
 |_=>none
def Gm:TK→AV→AV→Option Bool
 |.int,.d (.int k a),.d (.int k' b)=>if k=k' then some (a==b)else none
 |.bool,.d (.bool a),.d (.bool b)=>some (a==b)
 |.str,.d (.str a),.d (.str b)=>some (a==b)
 |_,_,_=>none
def Eb:List TK→List AV→List AV→Option Bool
 |[],[],[]=>some true
 |t::ts,x::xs,y::ys=>match Gm t x y,Eb ts xs ys with
  |some a,some b=>some (a&&b)
  |_,_=>none
 |_,_,_=>none
def Hc:TK→AV→AV→Option Bool
 |.flat ks,.agg cs,.agg ds=>Eb ks cs ds
 |.func,.fn ..,.d .i7=>some false
 |.func,.d .i7,.d .i7=>some true
 |.ptr,.ptr ..,.d .un=>some false
 |.ptr,.d .un,.d .un=>some true
 |.iface,.iface ..,.d .kw=>some false
 |.slice,.d (.be (_::_)),.ci=>some false
 |.slice,.em _ _ (_+1),.ci=>some false
 |.slice,.ci,.ci=>some true
 |.bool,x,y=>Gm .bool x y
 |.str,x,y=>Gm .str x y
 |_,_,_=>none
def wi(op:BinOp)(a b:ByteArray):Option AV:=
 match op with
 |.lss=>some (.d (.bool (Op.bytesLess a.toList b.toList)))
 |.leq=>some (.d (.bool (Op.bytesLess a.toList b.toList||a.toList==b.toList)))
 |.gtr=>some (.d (.bool (!(Op.bytesLess a.toList b.toList||a.toList==b.toList))))
 |.geq=>some (.d (.bool (!Op.bytesLess a.toList b.toList)))
 |_=>none
def AE9(op:BinOp):AV→AV→Option AV
 |.d (.str a),.d (.str b)=>wi op a b
 |_,_=>none
def HA(op:BinOp)(x y:AV)(t:Option TI):Option AV:=
 match x,y with
 |.d (.int k a),.d (.int k' b)=>if k=k' then Fc op k a b else none
 |x,y=>match t with
  |some i=>match op,Hc i.kind x y with
   |.eql,some b=>some (.d (.bool b))
   |.neq,some b=>some (.d (.bool (!b)))
   |_,_=>AE9 op x y
  |none=>none
def Yy:Operand→Bool
 |.const _=>true
 |_=>false
def vG(c:Bool)(op:BinOp):AV→AV→Option TI→Option AV
 |.d .kw,.d .kw,some i=>match c,i.kind,op with
  |true,.iface,.eql=>some (.d (.bool true))
  |true,.iface,.neq=>some (.d (.bool false))
  |_,_,_=>none
 |_,_,_=>none
def orV:Option AV→Option AV→Option AV
 |some v,_=>some v
 |none,r=>r
def iz(c:Bool)(op:BinOp)(x y:AV)(t:Option TI):Option AV:=orV (HA op x y t) (vG c op x y t)
def We(g:G):TK→AV→Option Nat
 |.slice,.d (.be es)=>some es.length
 |.str,.d (.str s)=>some s.size
 |.slice,.ci=>some 0
 |.slice,.emp=>some 0
 |.slice,.em _ _ n=>some n
 |.map,.mp id=>match g id with
  |some (.map es)=>some es.length
  |_=>none
 |_,_=>none
def Ch:(place:Nat→Option (Nat×Nat))→List AV→List (Nat×AV)→Option (List AV)
 |_,cs,[]=>some cs
 |pl,cs,(i,v)::ps=>match pl i with
  |some (off,size)=>if v.cells.length=size∧v.cells.all AV.isCell then(B6 cs off v.cells).bind fun cs'=>Ch pl cs' ps else none
  |none=>none
def HC:AV→Option Int
 |.d (.int _ n)=>some n
 |_=>none
def Gk:Option AV→Int→Option Int
 |none,d=>some d
 |some v,_=>HC v
def DI(lo hi mx:Option AV)(n:Nat):Option (Nat×Nat×Option Nat):=
 match Gk lo 0,Gk hi n with
 |some l,some r=>match mx with
  |none=>if 0≤l∧l≤r then some (l.toNat,r.toNat,none)else none
  |some m=>match hi,HC m with
   |some _,some m=>if 0≤l∧l≤r∧r≤m then some (l.toNat,r.toNat,some m.toNat)else none
   |_,_=>none
 |_,_=>none
def Kl(sz:Nat)(es:List (List AZ)):Bool:=match es with
 |[]=>true
 |e::_=>Nat.beq e.length sz
def L9(sz:Nat)(es:List (List AZ)):Option (Nat×Nat×Option Nat)→Option AV
 |some (l,r,m)=>match Nat.ble r es.length&&Kl sz es with
  |true=>match m with
   |none=>some (.d (.be ((es.drop l).take (r-l))))
   |some m=>match Nat.beq m l with
    |true=>some .emp
    |false=>none
  |false=>none
 |none=>none
def bw(sz:Nat)(id:Id)(off l r:Nat)(m:Option Nat)(s n:Nat):Option AV:=
 match Nat.beq s sz&&Nat.ble (off+m.getD r) n&&Nat.ble (off+r) n&&Nat.blt 0 n with
 |true=>match m with
  |none=>some (.em id (off+l) (r-l))
  |some m=>match Nat.beq m l with
   |true=>some .emp
   |false=>some .undef
 |false=>none
def Ns(g:G)(sz:Nat)(id:Id)(off:Nat):Option (Nat×Nat×Option Nat)→Option AV
 |some (l,r,m)=>match g id with
  |some (.co s es)=>bw sz id off l r m s es.length
  |some (.it s es)=>bw sz id off l r m s es.length
  |some (.arr s es)=>bw sz id off l r m s es.length
  |_=>none
 |none=>none
def aL:Option (Nat×Nat×Option Nat)→Option AV
 |some (0,0,none)=>some .ci
 |some (0,0,some 0)=>some .emp
 |_=>none
def wV(s:ByteArray):Option (Nat×Nat×Option Nat)→Option AV
 |some (l,r,none)=>if r≤s.size then some (.d (.str (s.extract l r)))else none
 |_=>none
def EU(g:G)(k:TK)(sz:Nat)(x:AV)(lo hi mx:Option AV):Option AV:=
 match k,x with
 |.slice,.d (.be es)=>L9 sz es (DI lo hi mx es.length)
 |.slice,.em id off n=>Ns g sz id off (DI lo hi mx n)
 |.slice,.ci=>aL (DI lo hi mx 0)
 |.str,.d (.str s)=>wV s (DI lo hi mx s.size)
 |_,_=>none
def EI(e:Nat→AV)(ps:Array (Nat×Operand)):List (Nat×AV):=ps.toList.map fun p=>(p.1,ev e p.2)
def G5:AZ→AZ→Option Bool
 |.int k a,.int k' b=>if k=k' then some (a==b)else none
 |.str a,.str b=>some (a==b)
 |.bool a,.bool b=>some (a==b)
 |_,_=>none
def Cv:List (AZ×AV)→AZ→Option (Option AV)
 |[],_=>some none
 |(k,v)::es,x=>match G5 k x with
  |some true=>some (some v)
  |some false=>Cv es x
  |none=>none
def ER:List (AZ×AV)→AZ→AV→List (AZ×AV)
 |[],x,v=>[(x,v)]
 |(k,w)::es,x,v=>match G5 k x with
  |some true=>(k,v)::es
  |_=>(k,w)::ER es x v
def LX:AV→Option AZ
 |.d x=>some x
 |_=>none
def Jj:TK→AZ→Bool
 |.int,.int ..=>true
 |.str,.str _=>true
 |.bool,.bool _=>true
 |_,_=>false
def mapPut(T:TypeId→Option TI)(g:G)(t:Option TI)(m k v:AV):Option CJ:=
 match(match t,LX k with
  |some i,some x=>match i.kind,T i.key with
   |.map,some kt=>Jj kt.kind x&&v.isCell
   |_,_=>false
  |_,_=>false)with
 |false=>none
 |true=>match m,LX k with
 |.mp id,some x=>match g id with
  |some (.map es)=>match Cv es x with
   |some _=>some ⟨.undef,[(id,.map (ER es x v))]⟩
   |none=>none
  |_=>none
 |_,_=>none
section ops
variable(T:TypeId→Option TI)(e:Nat→AV)(g:G)(newId:Id)
def Ni(c a b:AV):Option CJ:=match c with
 |.d (.bool t)=>some ⟨match t with|true=>a|false=>b,[]⟩
 |_=>none
def Jn:Option TI→Option CJ
 |some i=>if i.zero.length=i.size∧i.zero.all AV.isCell then some ⟨.ptr (0::newId) 0,[(0::newId,.box i.zero)]⟩else none
 |none=>none
def QY(x:AV):Option TI→Option CJ
 |some i=>if x.cells.length=i.size∧x.cells.all AV.isCell then some ⟨.ptr (0::newId) 0,[(0::newId,.box x.cells)]⟩else none
 |none=>none
def Jo(ps:List (Nat×AV)):Option TI→Option CJ
 |some i=>match i.str&&i.zero.length==i.size with
  |false=>none
  |true=>(Ch (fun k=>(i.flds[k]?).map fun f=>(f.1,f.2.1)) i.zero ps).map fun cs=>⟨.agg cs,[]⟩
 |none=>none
def Gl(n:Nat)(ps:List (Nat×AV))(j:TI):Option CJ:=
 match Ch (fun k=>some (k*j.size,j.size)) ((List.replicate n j.zero).flatten) ps with
 |some cs=>match n with
  |0=>some ⟨.emp,[]⟩
  |n=>match Nat.ble (n*j.size) (2 ^ 24)&&j.zero.length==j.size with
   |true=>newArr g newId j (Gn j.size n cs)
   |false=>none
 |none=>none
def Cd(n:Nat)(ps:List (Nat×AV)):Option TI→Option CJ
 |some i=>match i.kind,T i.elem with
  |.slice,some j=>Gl g newId n ps j
  |_,_=>none
 |none=>none
def Kz(a:AV):Option TI→Option CJ
 |some i=>(JH g i a).map (⟨·,[]⟩)
 |none=>none
def IX(a x:AV):Option TI→Option CJ
 |some i=>JW g i a x
 |none=>none
def GM:AV→Option CJ
 |.ptr id off=>some ⟨.ptr id off,[]⟩
 |.i6 id k off=>some ⟨.i6 id k off,[]⟩
 |.pp cs=>some ⟨.pp cs,[]⟩
 |_=>none
def iJ:AV→Option CJ
 |.d (.bool b)=>some ⟨.d (.bool (!b)),[]⟩
 |_=>none
def Hs(t:TypeId):AV→Option TI→Option CJ
 |.iface t' v,some i=>match i.kind with
  |.iface=>none
  |_=>if t'=t then some ⟨.ge [v,.d (.bool true)],[]⟩else(FX i.agg i.zero).map fun z=>⟨.ge [z,.d (.bool false)],[]⟩
 |_,_=>none
def Kt(ok:Bool)(r:Option AV)(j:TI):Option CJ:=
 match r,FX j.agg j.zero with
 |some v,_=>some ⟨match ok with|true=>.ge [v,.d (.bool true)]|false=>v,[]⟩
 |none,some z=>some ⟨match ok with|true=>.ge [z,.d (.bool false)]|false=>z,[]⟩
 |_,_=>none
def FI(m k:AV)(ok:Bool):Option TI→Option CJ
 |some i=>match m,LX k,i.kind,T i.key with
  |.mp id,some x,.map,some kt=>match Jj kt.kind x,g id with
   |true,some (.map es)=>match Cv es x,T i.elem with
    |some r,some j=>Kt ok r j
    |_,_=>none
   |_,_=>none
  |_,_,_,_=>none
 |none=>none
def Fz(n:Nat)(j:TI):Option CJ:=match n with
 |0=>some ⟨.emp,[]⟩
 |n=>newArr g newId j (List.replicate n j.zero)
def Cn(l c:AV):Option TI→Option CJ
 |some i=>match i.kind,T i.elem,l,c with
  |.slice,some j,.d (.int _ n),.d (.int _ m)=>if 0≤n∧n=m∧n≤BA then Fz g newId n.toNat j else none
  |_,_,_,_=>none
 |none=>none
def EY(k:Nat)(x:AV):Option TI→Option CJ
 |some i=>match i.flds[k]? with
  |some f=>match f.2.1 with
   |0=>none
   |_=>match x with
    |.ptr id off=>some ⟨.ptr id (off+f.1),[]⟩
    |.i6 id n off=>some ⟨.i6 id n (off+f.1),[]⟩
    |.pp cs=>if f.1≤cs.length then some ⟨.pp (cs.drop f.1),[]⟩else none
    |_=>none
  |none=>none
 |none=>none
def Mm(k:Nat)(x:AV):Option TI→Option CJ
 |some i=>match i.flds[k]?,x with
  |some f,.agg cs=>((JZ cs f.1 f.2.1).bind (FX f.2.2)).map (⟨·,[]⟩)
  |_,_=>none
 |none=>none
def NG(n:Int)(x:AV)(j:TI):Option CJ:=
 if 0≤n then match x with
  |.d (.be es)=>match es[n.toNat]? with
   |some c=>match Nat.beq c.length j.size with
    |true=>some ⟨.pp c,[]⟩
    |false=>none
   |none=>none
  |.em id off len=>if n.toNat<len then match g id with
   |some (.co sz es)=>if sz=j.size∧off+n.toNat<es.length then some ⟨.i6 id (off+n.toNat) 0,[]⟩else none
   |some (.it sz es)=>if sz=j.size∧off+n.toNat<es.length then some ⟨.i6 id (off+n.toNat) 0,[]⟩else none
   |some (.arr sz es)=>if sz=j.size∧off+n.toNat<es.length then some ⟨.i6 id (off+n.toNat) 0,[]⟩else none
   |_=>none
   else none
  |_=>none
 else none
def C1(x i:AV):Option TI→Option CJ
 |some t=>match i,t.kind,T t.elem with
  |.d (.int _ n),.slice,some j=>NG g n x j
  |_,_,_=>none
 |none=>none
def Ky(x i:AV)(t:Option TI):Option CJ:=match t.map TI.kind,x,i with
 |some .str,.d (.str s),.d (.int _ n)=>if 0≤n then(s.data.toList[n.toNat]?).map fun b=>⟨.d (.int .u8 b.toNat),[]⟩else none
 |_,_,_=>none
def HF(k:Nat)(x:AV):Option CJ:=match x with
 |.ge vs=>(vs[k]?).map (⟨·,[]⟩)
 |_=>none
def Hr(t u:Option TI)(s x:AV):Option CJ:=
 match t,u with
 |some i,some u=>match i.kind,u.kind,T i.elem with
  |.slice,.slice,some j=>appendV g newId j s x
  |_,_,_=>none
 |_,_=>none
def HP(id:Id)(off n:Nat)(j:TI):Option CJ:=
 match g id with
 |some (.co sz es)=>match Ct (fun _=>none) j.zero with
  |some z=>if z.length=sz∧j.zero.length=j.size∧j.zero.all AV.isCell∧0<sz then(B6 es off (List.replicate n z)).map fun es'=>⟨.undef,[(id,.co sz es')]⟩else none
  |none=>none
 |_=>none
def GA(t:Option TI)(x:AV):Option CJ:=
 match t with
 |some i=>match i.kind,x with
  |.slice,.em id off n=>match n with
   |0=>some ⟨.undef,[]⟩
   |n=>match T i.elem with
    |some j=>HP g id off n j
    |none=>none
  |.slice,.ci=>some ⟨.undef,[]⟩
  |.slice,.emp=>some ⟨.undef,[]⟩
  |_,_=>none
 |none=>none
def ZN(x y:AV):Option CJ:=match x,y with
 |.d (.int k a),.d (.int k' b)=>if k=k' then some ⟨.d (.int k (if b>a then b else a)),[]⟩else none
 |_,_=>none
def ZO(x y:AV):Option CJ:=match x,y with
 |.d (.int k a),.d (.int k' b)=>if k=k' then some ⟨.d (.int k (if b<a then b else a)),[]⟩else none
 |_,_=>none
def GX(b:Builtin)(as:List AV)(ts:List TypeId):Option CJ:=
 match b with
 |.len=>match as with
  |[x]=>match ts with
   |[t]=>match T t with
    |some i=>(We g i.kind x).map fun(n:Nat)=>⟨.d (.int .i64 (n:Int)),[]⟩
    |none=>none
   |_=>none
  |_=>none
 |.append=>match as,ts with
  |[s,x],[t,u]=>Hr T g newId (T t) (T u) s x
  |_,_=>none
 |.clear=>match as,ts with
  |[x],[t]=>GA T g (T t) x
  |_,_=>none
 |.max=>match as with
  |[x,y]=>ZN x y
  |_=>none
 |.min=>match as with
  |[x,y]=>ZO x y
  |_=>none
 |_=>none
def J3(c:Call):Option CJ:=match c.callee with
 |.builtin b=>GX T g newId b (c.args.toList.map (ev e)) c.argTypes.toList
 |_=>none
def oB(op:UnOp)(x:AV):Option CJ:=match op with
 |.not=>iJ x
 |_=>none
def GL(f:Fn)(a b:List AV):Option CJ:=match f with
 |.func f=>some ⟨.fn f a b,[]⟩
 |_=>none
def HG:Option Operand→Option CJ
 |none=>some ⟨.mp (1::newId),[(1::newId,.map [])]⟩
 |some _=>none
def Kx(t:TypeId)(x:AV):Option TI→Option CJ
 |some i=>match i.kind with
  |.iface=>none
  |_=>some ⟨.iface t x,[]⟩
 |none=>none
def Gy(x:AV)(lo hi mx:Option AV):Option TI→Option CJ
 |some i=>match i.kind,T i.elem with
  |.slice,some j=>(EU g .slice j.size x lo hi mx).map (⟨·,[]⟩)
  |.str,_=>(EU g .str 0 x lo hi mx).map (⟨·,[]⟩)
  |_,_=>none
 |none=>none
def evalOp(o:Op):Option CJ:=
 match o with
 |.move x=>some ⟨ev e x,[]⟩
 |.assign x=>some ⟨ev e x,[]⟩
 |.pick c a b=>Ni (ev e c) (ev e a) (ev e b)
 |.alloc t=>Jn newId (T t)
 |.box t x=>QY newId (ev e x) (T t)
 |.build t ps=>Jo (EI e ps) (T t)
 |.buildSlice t n ps=>Cd T g newId n (EI e ps) (T t)
 |.load t a=>Kz g (ev e a) (T t)
 |.store t a x=>IX g (ev e a) (ev e x) (T t)
 |.nilCheck x=>GM (ev e x)
 |.binOp op t x y _=>(iz (Yy x||Yy y) op (ev e x) (ev e y) (T t)).map (⟨·,[]⟩)
 |.unOp op _ x=>oB op (ev e x)
 |.makeInterface t x=>Kx t (ev e x) (T t)
 |.typeAssert x _ t ok=>match ok with
  |true=>Hs t (ev e x) (T t)
  |false=>none
 |.makeFunc f first cap=>GL f (first.toList.map (ev e)) (cap.toList.map (ev e))
 |.makeMap _ r=>HG newId r
 |.insert t m k v=>mapPut T g (T t) (ev e m) (ev e k) (ev e v)
 |.mapUpdate t m k v=>mapPut T g (T t) (ev e m) (ev e k) (ev e v)
 |.lookup t m k ok=>FI T g (ev e m) (ev e k) ok (T t)
 |.makeSlice t l c=>Cn T g newId (ev e l) (ev e c) (T t)
 |.slice t x lo hi mx=>Gy T g (ev e x) (lo.map (ev e)) (hi.map (ev e)) (mx.map (ev e)) (T t)
 |.fieldAddr t x k=>EY k (ev e x) (T t)
 |.field t x k=>Mm k (ev e x) (T t)
 |.indexAddr t x i=>C1 T g (ev e x) (ev e i) (T t)
 |.index t x i=>Ky (ev e x) (ev e i) (T t)
 |.extract x k=>HF k (ev e x)
 |.call c=>J3 T e g newId c
 |_=>none
end ops
structure Fr where
 f:FuncId
 π:List Nat
 raw:Bool
 bv:Option (List Nat)
 wl:Bool:=false
 nt:Nat
inductive Df where
 |mark (id:Id)
 |call (f:FuncId) (args:List AV)
structure St where
 env:Bm
 heap:AB
 base:Nat
 defs:List Df
inductive Tgt where
 |fn (f:FuncId)
 |round (id:Id) (r:Lp)
inductive Ae where
 |ret (v:AV)
 |f9 (v:AV)
inductive E(α:Type) where
 |ok (x:α)
 |err (l:List Nat)
abbrev AN:=Tgt→List AV→AB→List Nat→Bool→Option (List Nat)→E (Ae×AB)
structure Fp where
 rd:Option (List Id):=some []
 wr:Option (List Id):=some []
inductive G4 where
 |ok (st:St) (fp:Fp)
 |f9 (v:AV) (st:St)
 |err (l:List Nat)
mutual
def AD:AV→List Id
 |.em id _ _=>[id]
 |.ptr id _=>[id]
 |.i6 id _ _=>[id]
 |.v6 id=>[id]
 |.mp id=>[id]
 |.iface _ v=>AD v
 |.agg cs=>A5 cs
 |.ge vs=>A5 vs
 |.fn _ a b=>A5 a++A5 b
 |_=>[]
def A5:List AV→List Id
 |[]=>[]
 |v::vs=>AD v++A5 vs
end
def Cp(g:G)(l:List Id):List Id:=l++l.flatMap fun id=>match g id with
 |some (.arr _ es)=>es.flatMap A5
 |_=>[]
def Di(e:Nat→AV)(op:Op):List Id:=op.operands.toList.flatMap fun y=>AD (ev e y)
def E5(e:Nat→AV)(g:G)(op:Op):List Id:=match op with
 |.load ..=>Di e op
 |.store ..=>Di e op
 |.buildSlice ..=>Di e op
 |.insert ..=>Di e op
 |.mapUpdate ..=>Di e op
 |.lookup ..=>Di e op
 |.slice ..=>Di e op
 |.indexAddr ..=>Di e op
 |.call c=>match c.callee with
  |.builtin .len=>Di e op
  |.builtin .clear=>Di e op
  |.builtin .append=>Cp g (Di e op)
  |_=>[]
 |_=>[]
def Jv(p:Option (List Nat))(δ:AB):Bool:=
 match p with
 |none=>true
 |some ρ=>δ.all fun x=>Id.under ρ x.1
def CY(e:Bm)(dst:Option Tmp)(v:AV):Bm:=
 match dst with
 |some t=>(t,v)::e
 |none=>e
def YF{α:Type}(h δ:AB)(k:AB→α):α:=match δ with
 |[]=>k h
 |δ=>Gr (h.puts δ) k
def gc(ρ:List Nat)(h:AB):AB:=h.filter fun p=>match p.1 with
 |0::l=> !Id.under ρ l
 |_=>true
def EG(ρ:List Nat)(dst:Option Tmp)(st:St):E (Ae×AB)→G4
 |.ok (.ret v,h)=>Ue (CY st.env dst v) fun env=>Gr (gc ρ h) fun heap=>.ok {st with env,heap} ⟨none,some (UW st.heap heap)⟩
 |.ok (.f9 v,h)=>Gr (gc ρ h) fun heap=>.f9 v {st with heap}
 |.err l=>.err l
def HY(fr:Fr)(as:List AV)(v:AV)(h:AB)(st:St)(env:Bm):G4:=
 match BT v h with
 |some o=>Gr (o::st.heap) fun heap=>.ok {st with env,heap} ⟨some (Cp st.heap.get (A5 as)),some [o.1]⟩
 |none=>
  R7 (as.flatMap (mark st.heap.get)) fun δ=>
  match Jv fr.bv δ with
  |true=>Gr (h++st.heap.puts δ) fun heap=>.ok {st with env,heap} ⟨some (Cp st.heap.get (A5 as)),some (δ.map (·.1)++h.map (·.1))⟩
  |false=>.err [2]
def DQ(fr:Fr)(as:List AV)(dst:Option Tmp)(st:St):E (Ae×AB)→G4
 |.ok (.ret v,h)=>Ue (CY st.env dst v) fun env=>match flat v with
  |true=>.ok {st with env} ⟨some (Cp st.heap.get (A5 as)),some []⟩
  |false=>HY fr as v h st env
 |.ok (.f9 v,_)=>match flat v with
  |true=>.f9 v st
  |false=>.err [3]
 |.err l=>.err l
def PA(dst:Option Tmp)(st:St):E (Ae×AB)→G4
 |.ok (.ret v,_)=>match flat v with
  |true=>Ue (CY st.env dst v) fun env=>.ok {st with env} ⟨none,some []⟩
  |false=>.err [4]
 |.ok (.f9 v,_)=>match flat v with
  |true=>.f9 v st
  |false=>.err [3]
 |.err l=>.err l
def ME(g:G)(as:List AV):List AV:=as.map fun v=>(Ed g v).getD v
def E7(K:AN)(fr:Fr)(ρ:List Nat)(f:FuncId)(as:List AV)(dst:Option Tmp)(st:St)(m:Mode):G4:=
 Ld (ME st.heap.get as) fun xs=>
 R7 (as.flatMap (mark st.heap.get)) fun δ=>
 match m with
 |.ro=>Gr (st.heap.puts δ) fun heap=>PA dst st (K (.fn f) xs heap ρ true (some ρ))
 |_=>
  match Jv fr.bv δ with
  |true=>Gr (st.heap.puts δ) fun heap=>EG ρ dst st (K (.fn f) xs heap ρ true fr.bv)
  |false=>.err [2]
def DX(K:AN)(fr:Fr)(ρ:List Nat)(f:FuncId)(as:List AV)(dst:Option Tmp)(st:St)(m:Mode):G4:=
 match m with
 |.raw=>EG ρ dst st (K (.fn f) as st.heap ρ true fr.bv)
 |m=>match Dr st.heap.get as with
  |some xs=>Ld xs fun xs=>DQ fr as dst st (K (.fn f) xs [] (match m with|.own=>ρ|_=>[]) false none)
  |none=>E7 K fr ρ f as dst st m
def Jb(K:AN)(fr:Fr)(ρ:List Nat)(id:Id)(as:List AV)(dst:Option Tmp)(st:St):G4:=
 match st.heap.get id with
 |some (.loop r)=>EG ρ dst st (K (.round id r) as st.heap ρ true fr.bv)
 |_=>.err [1]
def EB(C:CZ)(K:AN)(fr:Fr)(ρ:List Nat)(fv:AV)(args:List AV)(dst:Option Tmp)(st:St):G4:=
 match fv with
 |.v6 id=>Jb K fr ρ id args dst st
 |.fn f first cap=>Ld (first++args++cap) fun as=>DX K fr ρ f as dst st (C.mode f)
 |_=>.err [5]
def Fk(C:CZ)(K:AN)(fr:Fr)(ρ:List Nat)(r:AV)(m:String)(args:List AV)(dst:Option Tmp)(st:St):G4:=
 match r with
 |.iface t v=>match C.wp t m with
  |some f=>EB C K fr ρ (.fn f [v] []) args dst st
  |none=>.err [7]
 |_=>.err [8]
def Fw(st:St)(v:AV):G4:=match flat v with
 |true=>match v with
  |.iface t u=>.f9 (.iface t u) st
  |_=>.err [9]
 |false=>.err [9]
def HQ(fr:Fr)(e:Nat→AV)(c:Call)(dst:Option Tmp)(st:St):G4:=match c.callee with
 |.value f=>match ev e f,fr.wl with
  |.fn g [] [],false=>.ok {st with env:=CY st.env dst .undef,defs:=.call g (c.args.toList.map (ev e))::st.defs} ⟨none,none⟩
  |_,_=>.err [10]
 |_=>.err [10]
def DJ(fr:Fr)(op:Op)(dst:Option Tmp)(st:St):Option CJ→G4
 |some x=>fAV x.v fun v=>R7 x.δ fun δ=>match Jv fr.bv δ with
  |true=>Ue (CY st.env dst v) fun env=>YF st.heap δ fun heap=>
   .ok {st with env,heap} ⟨some (E5 st.env.get st.heap.get op),some (δ.map (·.1))⟩
  |false=>.err [11]
 |none=>.err [12]
def A4(C:CZ)(K:AN)(fr:Fr)(ρ:List Nat)(op:Op)(dst:Option Tmp)(st:St):G4:=
 match op with
 |.call c=>match c.callee with
  |.value f=>EB C K fr ρ (ev st.env.get f) (c.args.toList.map (ev st.env.get)) dst st
  |.invoke r m=>Fk C K fr ρ (ev st.env.get r) m (c.args.toList.map (ev st.env.get)) dst st
  |.builtin _=>DJ fr op dst st (J3 C.T st.env.get st.heap.get ρ c)
 |.panic x=>Fw st (ev st.env.get x)
 |.defer c=>HQ fr st.env.get c dst st
 |op=>DJ fr op dst st (evalOp C.T st.env.get st.heap.get ρ op)
def Ma(ops:Array Oper)(e:Bm)(o:Oper):Option Bool:=
 match o.guard with
 |none=>some true
 |some (j,want)=>match((ops[j]?).bind (·.dst)).map e.get with
  |some (.d (.bool b))=>some (b==want)
  |some (.ge [])=>some false
  |_=>none
def CQ(C:CZ)(K:AN)(fr:Fr)(ops:Array Oper)(ρ:List Nat)(o:Oper)(st:St):G4:=
 match Ma ops st.env o with
 |none=>.err [6]
 |some false=>Ue (CY st.env o.dst (.ge [])) fun env=>.ok {st with env} {}
 |some true=>A4 C K fr ρ o.op o.dst st
def Vw(fp:Fp):E ((Option AV×St)×List Fp)→E ((Option AV×St)×List Fp)
 |.ok (r,fps)=>.ok (r,fp::fps)
 |.err l=>.err l
def C3(C:CZ)(K:AN)(fr:Fr)(ops:Array Oper)(b:Nat)(alone:Nat→Bool):List Oper→Nat→St→E ((Option AV×St)×List Fp)
 |[],_,st=>.ok ((none,st),[])
 |o::l,i,st=>IQ (b+i) fun n=>match CQ C K fr ops (n::fr.π) o st with
  |.ok st' fp=>Vw fp (C3 C K fr ops b alone l (i+1) st')
  |.f9 v st'=>match alone i with
   |true=>.ok ((some v,st'),[])
   |false=>.err [13,i]
  |.err l=>.err (i::l)
def apart(a b:Option (List Id)):Bool:=
 match a,b with
 |some [],_=>true
 |_,some []=>true
 |some l,some m=>l.all fun x=> !m.contains x
 |_,_=>false
def Fp.apart(a b:Fp):Bool:=Abs.apart a.wr b.rd&&Abs.apart a.rd b.wr&&Abs.apart a.wr b.wr
def Dg(fps:List Fp)(l:List (Nat×Nat)):Bool:=
 l.all fun(i,j)=>match fps[i]?,fps[j]? with
  |some a,some b=>a.apart b
  |_,_=>true
inductive Dx where
 |normal
 |exit (id:Nat)
 |ret
 |f9 (v:AV)
def K6(l:List Id)(id:Id):List Id:=match l.any (Id.is id)with|true=>l|false=>l++[id]
def Ey(l:List Id)(new:List Id):List Id:=new.foldl K6 l
def JM:Option Obj→List Id
 |some (.box cs)=>A5 cs
 |some (.arr _ es)=>es.flatMap A5
 |some (.map es)=>es.flatMap fun p=>AD p.2
 |some (.loop r)=>r.env.flatMap fun p=>AD p.2
 |_=>[]
def CB(h:AB):Nat→List Id→Nat→List Id
 |0,l,_=>l
 |n+1,l,i=>match l[i]? with
  |some id=>CB h n (Ey l (JM (h.get id))) (i+1)
  |none=>l
def De(π:List Nat):List Id→Nat→Id→Option Id
 |[],_,_=>none
 |x::r,n,id=>match Id.is x id with|true=>some ((match id with|0::_=>0|_=>1)::n::π)|false=>De π r (n+1) id
mutual
def Mr(ν:Id→Option Id):AV→AV
 |.em id o n=>match ν id with|some id=>.em id o n|none=>.undef
 |.ptr id o=>match ν id with|some id=>.ptr id o|none=>.undef
 |.i6 id i o=>match ν id with|some id=>.i6 id i o|none=>.undef
 |.v6 id=>match ν id with|some id=>.v6 id|none=>.undef
 |.mp id=>match ν id with|some id=>.mp id|none=>.undef
 |.iface t v=>.iface t (Mr ν v)
 |.agg cs=>.agg (JQ ν cs)
 |.ge vs=>.ge (JQ ν vs)
 |.fn f a b=>.fn f (JQ ν a) (JQ ν b)
 |v=>v
def JQ(ν:Id→Option Id):List AV→List AV
 |[]=>[]
 |v::vs=>Mr ν v::JQ ν vs
end
def JR(ν:Id→Option Id):Obj→Obj
 |.box cs=>.box (JQ ν cs)
 |.arr sz es=>.arr sz (es.map (JQ ν))
 |.map es=>.map (es.map fun p=>(p.1,Mr ν p.2))
 |.loop r=>.loop {r with env:=r.env.map fun p=>(p.1,Mr ν p.2)}
 |o=>o
def DE(h:AB)(ν:Id→Option Id):List Id→AB
 |[]=>[]
 |id::r=>match h.get id,ν id with
  |some o,some id'=>(id',JR ν o)::DE h ν r
  |_,_=>DE h ν r
def fSt{α:Type}(st:St)(k:St→α):α:=yV st.env fun env=>R7 st.heap fun heap=>IQ st.base fun base=>k {env,heap,base,defs:=st.defs}
def E8(C:CZ)(fr:Fr)(b:Nat)(st:St):St:=
 let e:=(C.live fr.f b).map fun t=>(t,st.env.get t)
 if fr.raw|| !st.defs.isEmpty then{st with env:=e}
 else
  let l:=CB st.heap 1000 (Ey [] (e.flatMap fun p=>AD p.2)) 0
  let ν:=De fr.π l 0
  {env:=e.map fun p=>(p.1,Mr ν p.2),heap:=DE st.heap ν l,base:=l.length,defs:=[]}
def LJ:TypeDesc→Bool
 |.struct _=>true
 |.array ..=>true
 |_=>false
def Hy:TypeDesc→TK
 |.bool=>.bool
 |.int _=>.int
 |.string=>.str
 |_=>.other
def Pe(P:Program):Nat→List Field→Option (List TK)
 |_,[]=>some []
 |n,f::fs=>match(P.underlying f.type).map Hy,(P.info? f.type).map (·.size),Pe P (n+1) fs with
  |some .bool,some 1,some ks=>if f.offset=n∧f.name≠ "_" then some (.bool::ks)else none
  |some .int,some 1,some ks=>if f.offset=n∧f.name≠ "_" then some (.int::ks)else none
  |some .str,some 1,some ks=>if f.offset=n∧f.name≠ "_" then some (.str::ks)else none
  |_,_,_=>none
def Cb(P:Program)(t:TypeId):TypeDesc→TK
 |.bool=>.bool
 |.int _=>.int
 |.string=>.str
 |.func ..=>.func
 |.pointer _=>.ptr
 |.interface _=>.iface
 |.slice _=>.slice
 |.map ..=>.map
 |.struct fs=>match Pe P 0 fs.toList with
  |some ks=>if P.stoodInHeld t=false∧P.eqGuardType P.depth t=false then .flat ks else .other
  |none=>.other
 |_=>.other
def Lg(P:Program):TypeDesc→List (Nat×Nat×Bool)
 |.struct fs=>fs.toList.map fun f=>(f.offset,((P.info? f.type).map (·.size)).getD 0,((P.underlying f.type).map LJ).getD false)
 |_=>[]
def tK:TypeDesc→Bool
 |.struct _=>true
 |_=>false
def KI(P:Program):TypeDesc→Bool
 |.struct fs=>fs.toList.all fun f=>(P.info? f.type).isSome&&(P.underlying f.type).isSome
 |_=>true
def SL:Value→Bool
 |.agg _=>true
 |_=>false
def IM:TypeDesc→TypeId
 |.slice e=>e
 |.map _ e=>e
 |_=>0
def Wa:TypeDesc→TypeId
 |.map k _=>k
 |_=>0
def Bt(P:Program)(mix:List TypeId)(t:TypeId):Option TI:=
 match P.info? t,P.underlying t with
 |some i,some d=>match i.zero with
  |some z=>match Nat.ble i.bytes 65536&&KI P d&&Nat.beq z.cells.size i.size&&(SL z==LJ d)with
   |true=>some {kind:=Cb P t d,size:=i.size,agg:=LJ d,str:=tK d,zero:=z.cells.toList.map DH,flds:=Lg P d,elem:=IM d,key:=Wa d,mix:=mix.any (Nat.beq t)}
   |false=>none
  |none=>none
 |_,_=>none
def KS(C:CZ)(f:FuncId)(id n base:Nat)(draw:Bool):E ((Option AV×St)×List Fp)→E (Dx×St)
 |.ok ((o,st'),fps)=>
  match !draw||Dg fps (C.d7 f id)with
  |true=>IQ (base+n) fun base=>match o with
   |none=>.ok (.normal,{st' with base})
   |some v=>.ok (.f9 v,{st' with base})
  |false=>.err [15,id]
 |.err l=>.err (id::l)
def EC(C:CZ)(K:AN)(fr:Fr)(id:Nat)(ops:Array Oper)(draw:Bool)(st:St):E (Dx×St):=
 KS C fr.f id ops.size st.base draw (C3 C K fr ops st.base (fun i=> !draw||C.alone fr.f id i) ops.toList 0 st)
def Gz(id:Nat):E (Dx×St)→E (Dx×St)
 |.ok (.exit id',st')=>match Nat.beq id' id with
  |true=>.ok (.normal,st')
  |false=>.ok (.exit id',st')
 |r=>r
def DP(y:St→E (Dx×St)):E (Dx×St)→E (Dx×St)
 |.ok (.normal,st')=>y st'
 |r=>r
def KH(c:AV)(x y:E (Dx×St)):E (Dx×St):=
 match c with
 |.d (.bool t)=>match t with
  |true=>x
  |false=>y
 |_=>.err [14]
def Wz(st:St):Option Obj→E (Dx×St)
 |some (.loop r)=>match r.state with
  |.busy=>.err [16]
  |_=>match r.rt with
   |none=>.ok (.normal,st)
   |some .ret=>.ok (.ret,st)
   |some (.exit k)=>.ok (.exit k,st)
   |some _=>.err [38]
 |_=>.err [17]
def JN(ρ ρ2:List Nat)(id:Id)(st1:St):E (Ae×AB)→E (Dx×St)
 |.ok (.ret _,h')=>Gr (gc ρ (gc ρ2 h')) fun heap=>Wz {st1 with heap} (h'.get id)
 |.ok (.f9 v,h')=>Gr (gc ρ (gc ρ2 h')) fun heap=>.ok (.f9 v,{st1 with heap})
 |.err l=>.err l
def KA(K:AN)(bv:Option (List Nat))(ρ:List Nat)(id:Id)(h:AB):AV→E (Ae×AB)
 |.fn f first cap=>Ld (first++[.v6 id]++cap) fun as=>K (.fn f) as h ρ true bv
 |_=>.err [18]
def GU(K:AN)(fr:Fr)(g:Operand)(ps:Array Tmp)(i9 body:Code)(st:St):E (Dx×St):=
 match fr.wl with
 |true=>.err [37]
 |false=>
 IQ st.base fun b=>
 Gr (st.heap.put (0::b::fr.π) (.loop {state:=.ready,rt:=none,f:=fr.f,env:=st.env,params:=ps.toList,i9:=i9,body:=body,nt:=fr.nt})) fun h=>
 IQ (b+1) fun b1=>
 IQ (b+2) fun base=>
 JN (b::fr.π) (b1::fr.π) (0::b::fr.π) {st with heap:=h,base,defs:=.mark (0::b::fr.π)::st.defs}
  (KA K fr.bv (b1::fr.π) (0::b::fr.π) h (ev st.env.get g))
def BK(C:CZ)(K:AN)(fr:Fr):Nat→Nat→Code→St→E (Dx×St)
 |0,_,_,_=>.err [0]
 |n+1,b,c,st=>match c with
  |.skip=>.ok (.normal,st)
  |.label _=>.ok (.normal,st)
  |.seq x y=>DP (BK C K fr n b y) (BK C K fr n b x st)
  |.cond c x y=>KH (ev st.env.get c) (BK C K fr n b x st) (BK C K fr n b y st)
  |.block id x=>Gz id (BK C K fr n id x st)
  |.loop x=>fSt (E8 C fr b st) fun st=>DP (BK C K fr n b (.loop x)) (BK C K fr n b x st)
  |.exit id=>.ok (.exit id,st)
  |.ret=>.ok (.ret,st)
  |.region id ops draw=>EC C K fr id ops draw st
  |.rangeFunc g ps i9 body=>GU K fr g ps i9 body st
  |_=>.err [19]
def Ck(C:CZ)(st:St):ResultVar→Option AV
 |.tmp t=>some (st.env.get t)
 |.cell a t=>(C.T t).bind fun i=>JH st.heap.get i (st.env.get a)
def M0{α β:Type}(f:α→Option β):List α→Option (List β)
 |[]=>some []
 |x::l=>match f x,M0 f l with
  |some y,some m=>some (y::m)
  |_,_=>none
def Il(C:CZ)(fn:Func)(st:St):Option AV:=
 match M0 (Ck C st) fn.results.toList with
 |some []=>some (.ge [])
 |some [v]=>some v
 |some vs=>some (.ge vs)
 |none=>none
def C5(C:CZ)(bv:Option (List Nat)):List Df→Option AV→AB→E (Option AV×AB)
 |[],p,h=>.ok (p,h)
 |.mark _::l,p,h=>C5 C bv l p h
 |.call f args::l,p,h=>match C.ol f,args with
  |some t,[.ptr id off]=>match p with
   |none=>C5 C bv l none h
   |some (.iface t' (.agg [.d (.int k n)]))=>match Nat.beq t' t&&Jv bv [(id,.box [])]with
    |true=>match h.get id with
     |some (.box cs)=>match B6 cs off [.d (.int k n)]with
      |some cs'=>C5 C bv l none (h.put id (.box cs'))
      |none=>.err [20]
     |_=>.err [21]
    |false=>.err [22]
   |_=>.err [23]
  |_,_=>.err [24]
def ET:Nat→List AV→Bm
 |_,[]=>[]
 |n,v::vs=>(n,v)::ET (n+1) vs
def Dt(e:Bm):List Nat→List AV→Option Bm
 |[],[]=>some e
 |t::ts,v::vs=>Dt ((t,v)::e) ts vs
 |_,_=>none
def Sg(C:CZ)(f:FuncId)(fn:Func)(π:List Nat)(raw:Bool)(st:St):E (Option AV×AB)→E (Ae×AB)
 |.ok (none,h)=>match Il C fn {st with heap:=h}with
  |some r=>fAV r fun r=>match raw with
   |true=>.ok (.ret r,h)
   |false=>match π with
    |[]=>match XJ h.get r with
     |some r'=>fAV r' fun r'=>.ok (.ret r',[])
     |none=>.err [26,f]
    |_=>.ok (.ret r,h)
  |none=>.err [27,f]
 |.ok (some v,h)=>.ok (.f9 v,h)
 |.err l=>.err (f::l)
def r6(C:CZ)(bv:Option (List Nat))(f:FuncId)(fn:Func)(π:List Nat)(raw:Bool):E (Dx×St)→E (Ae×AB)
 |.ok (o,st)=>match o with
  |.ret=>Sg C f fn π raw st (C5 C bv st.defs none st.heap)
  |.normal=>Sg C f fn π raw st (C5 C bv st.defs none st.heap)
  |.f9 v=>Sg C f fn π raw st (C5 C bv st.defs (some v) st.heap)
  |_=>.err [28,f]
 |.err l=>.err (f::l)
def PE(P:Program)(C:CZ)(K:AN)(fuel:Nat)(f:FuncId)(args:List AV)(h:AB)(π:List Nat)(raw:Bool)(bv:Option (List Nat)):E (Ae×AB):=
 match P.funcs[f]? with
 |some fn=>match fn.body with
  |some c=>match Nat.ble args.length fn.ntmps with
   |true=>r6 C bv f fn π raw (BK C K {f,π,raw,bv,nt:=fn.ntmps} fuel 0 c {env:=ET 0 args,heap:=h,base:=0,defs:=[]})
   |false=>.err [39,f]
  |none=>.err [29,f]
 |none=>.err [30,f]
def JT(id:Id)(h:AB)(r:Lp)(j:Option Code):E (Ae×AB):=
 .ok (.ret (.d (.bool j.isNone)),h.put id (.loop {r with state:=match j with|none=>.ready|some _=>.done,rt:=j}))
def Z9(id:Id)(o:Dx)(h:AB):Option Obj→E (Ae×AB)
 |some (.loop r)=>match o with
  |.normal=>JT id h r none
  |.ret=>JT id h r (some .ret)
  |.exit k=>JT id h r (some (.exit k))
  |.f9 v=>.ok (.f9 v,h)
 |_=>.err [32]
def PB(id:Id):E (Dx×St)→E (Ae×AB)
 |.ok (o,st)=>match st.defs with
  |[]=>Z9 id o st.heap (st.heap.get id)
  |_=>.err [31]
 |.err l=>.err (99::l)
def Mu(C:CZ)(K:AN)(fuel:Nat)(id:Id)(r0:Lp)(π:List Nat)(bv:Option (List Nat))(st:St):Option Obj→E (Ae×AB)
 |some (.loop r)=>match r.state with
  |.ready=>Gr (st.heap.put id (.loop {r with state:=.busy})) fun heap=>
   PB id (BK C K {f:=r0.f,π,raw:=true,bv,wl:=true,nt:=r0.nt} fuel 0 r0.body {st with heap})
  |_=>.err [36]
 |_=>.err [33]
def Hx(C:CZ)(K:AN)(fuel:Nat)(id:Id)(r0:Lp)(π:List Nat)(bv:Option (List Nat)):E (Dx×St)→E (Ae×AB)
 |.ok (.normal,st)=>match st.defs,Jv bv [(id,.box [])]with
  |[],true=>Mu C K fuel id r0 π bv st (st.heap.get id)
  |_,_=>.err [40]
 |_=>.err [34]
def G2(C:CZ)(K:AN)(fuel:Nat)(id:Id)(r:Lp)(args:List AV)(h:AB)(π:List Nat)(bv:Option (List Nat)):E (Ae×AB):=
 match Dt r.env r.params args with
 |some e=>Hx C K fuel id r π bv (BK C K {f:=r.f,π,raw:=true,bv,wl:=true,nt:=r.nt} fuel 0 r.i9 {env:=e,heap:=h,base:=0,defs:=[]})
 |none=>.err [35]
def Hg(P:Program)(C:CZ)(m:Nat):Nat→AN
 |0=>fun _ _ _ _ _ _=>.err [25]
 |n+1=>fun t args h π raw bv=>match t with
  |.fn f=>match C.i5 f with
   |true=>PE P C (Hg P C m n) m f args h π raw bv
   |false=>.err [41,f]
  |.round id r=>match raw with
   |true=>G2 C (Hg P C m n) m id r args h π bv
   |false=>.err [42]
end Go.Abs
namespace Go.Abs
section
variable{α:Type}
@[simp] theorem HT(n:Nat)(k:Nat→α):IQ n k=k n:=by cases n<;>rfl
@[simp] theorem AEi(b:Bool)(k:Bool→α):ABl b k=k b:=by cases b<;>rfl
@[simp] theorem AFI(n:Int)(k:Int→α):ACV n k=k n:=by cases n<;>simp[ACV]
@[simp] theorem AEl(x:IntKind)(k:IntKind→α):ABn x k=k x:=by cases x<;>rfl
@[simp] theorem AEm(l:List Nat)(k:List Nat→α):OQ l k=k l:=by
  induction l generalizing k with
  |nil=>rfl
  |cons n l ih=>simp[OQ,ih]
@[simp] theorem AFG(x:AZ)(k:AZ→α):jy x k=k x:=by cases x<;>simp[jy]
@[simp] theorem AEk(l:List AZ)(k:List AZ→α):YE l k=k l:=by
  induction l generalizing k with
  |nil=>rfl
  |cons n l ih=>simp[YE,ih]
@[simp] theorem AEA(l:List (List AZ))(k:List (List AZ)→α):Pb l k=k l:=by
  induction l generalizing k with
  |nil=>rfl
  |cons n l ih=>simp[Pb,ih]
@[simp] theorem AEj(x:AZ)(k:AZ→α):sC x k=k x:=by cases x<;>simp[sC,jy]
@[simp] theorem AFE(x:AV)(k:AV→α):sB x k=k x:=by cases x<;>simp[sB]
@[simp] theorem AEg(l:List AV)(k:List AV→α):R6 l k=k l:=by
  induction l generalizing k with
  |nil=>rfl
  |cons n l ih=>simp[R6,ih]
@[simp] theorem AFF(x:AV)(k:AV→α):bp x k=k x:=by
  unfold bp;split<;>simp
@[simp] theorem BH(l:List AV)(k:List AV→α):Ld l k=k l:=by
  induction l generalizing k with
  |nil=>rfl
  |cons n l ih=>simp[Ld,ih]
@[simp] theorem J0(x:AV)(k:AV→α):fAV x k=k x:=by
  unfold fAV;split<;>simp
@[simp] theorem AEh(l:List (List AV))(k:List (List AV)→α):gq l k=k l:=by
  induction l generalizing k with
  |nil=>rfl
  |cons n l ih=>simp[gq,ih]
@[simp] theorem ABm(l:List (AZ×AV))(k:List (AZ×AV)→α):OO l k=k l:=by
  induction l generalizing k with
  |nil=>rfl
  |cons n l ih=>obtain⟨x,v⟩:=n;simp[OO,ih]
@[simp] theorem AFJ(x:Obj)(k:Obj→α):ACW x k=k x:=by cases x<;>simp[ACW]
@[simp] theorem Bk(l:AB)(k:AB→α):R7 l k=k l:=by
  induction l generalizing k with
  |nil=>rfl
  |cons n l ih=>obtain⟨x,v⟩:=n;simp[R7,ih]
@[simp] theorem Af(l:AB)(k:AB→α):Gr l k=k l:=by
  induction l generalizing k with
  |nil=>rfl
  |cons n l ih=>obtain⟨x,v⟩:=n;simp[Gr,ih]
@[simp] theorem AFH(l:Bm)(k:Bm→α):yV l k=k l:=by
  induction l generalizing k with
  |nil=>rfl
  |cons n l ih=>obtain⟨x,v⟩:=n;simp[yV,ih]
@[simp] theorem A6(l:Bm)(k:Bm→α):Ue l k=k l:=by cases l<;>rfl
@[simp] theorem Km(st:St)(k:St→α):fSt st k=k st:=by simp[fSt]
@[simp] theorem Lf(h δ:AB)(k:AB→α):YF h δ k=k (h.puts δ):=by
  cases δ<;>simp[YF,AB.puts]
end
theorem Id.is_iff(a b:Id):Id.is a b=true↔a=b:=by
 induction a generalizing b with
 |nil=>cases b<;>simp[Id.is]
 |cons n l ih=>
  cases b with
  |nil=>simp[Id.is]
  |cons m k=>
   simp only[Id.is];split
   .rename_i h;have:n=m:=Dl h;simp[ih,this]
   .rename_i h;have:n≠m:=fun h'=>by subst h';simp at h
    simp[this]
theorem Id.is_false_iff(a b:Id):Id.is a b=false↔a≠b:=by
 rw[←KW,Id.is_iff]
@[simp] theorem Id.is_self(a:Id):Id.is a a=true:=(Id.is_iff a a).2 rfl
theorem Id.under_iff(ρ a:Id):Id.under ρ a=true↔ρ<:+a:=by
 induction a with
 |nil=>simp[Id.under,Id.is_iff]
 |cons n l ih=>
  simp only[Id.under];split
  .rename_i h;rw[Id.is_iff]at h;subst h;simp
  .rename_i h;rw[Id.is_false_iff]at h;rw[ih,ID];simp[h]
@[simp] theorem AB.get_nil(id:Id):AB.get [] id=none:=rfl
theorem AB.get_cons(k:Id)(o:Obj)(h:AB)(id:Id):AB.get ((k,o)::h) id=if k=id then some o else h.get id:=by
 simp only[AB.get];split
 .rename_i h';rw[Id.is_iff]at h';simp[h']
 .rename_i h';rw[Id.is_false_iff]at h';simp[h']
theorem AB.get_put(h:AB)(id:Id)(o:Obj)(id':Id):(h.put id o).get id'=if id=id' then some o else h.get id':=by
 induction h with
 |nil=>simp[AB.put,AB.get_cons]
 |cons p h ih=>
  obtain⟨k,x⟩:=p;simp only[AB.put];split
  .rename_i h';rw[Id.is_iff]at h';subst h';simp[AB.get_cons];split<;>simp_all
  .rename_i h';rw[Id.is_false_iff]at h';simp only[AB.get_cons,ih];split
   .rename_i h1;subst h1;simp[Ne.symm h']
   .rfl
theorem AB.get_append(h h':AB)(id:Id):AB.get (h++h') id=(h.get id).or (h'.get id):=by
 induction h with
 |nil=>simp
 |cons p h ih=>
  obtain⟨k,x⟩:=p;simp only[FN,AB.get_cons,ih];split<;>simp
theorem Bm.get_cons(k:Nat)(v:AV)(e:Bm)(t:Nat):Bm.get ((k,v)::e) t=if k=t then v else e.get t:=by
 simp only[Bm.get];split
 .rename_i h;have:=Dl h;simp[this]
 .rename_i h;have:k≠t:=fun h'=>by subst h';simp at h
  simp[this]
theorem AB.puts_nil(h:AB):h.puts []=h:=rfl
theorem AB.puts_cons(h:AB)(p:Id×Obj)(δ:AB):h.puts (p::δ)=(h.put p.1 p.2).puts δ:=rfl
theorem AB.puts_append(h δ δ':AB):h.puts (δ++δ')=(h.puts δ).puts δ':=by simp[AB.puts,List.foldl_append]
variable{A:Nat→Prop}
structure Qp where
 b:Nat
 sz:Nat
 n:Nat
abbrev Au:=Id→Option Qp
inductive DR(w:World)(M:Nat→Prop):AZ→Value→Prop
 |int (k n):DR w M (.int k n) (.int k n)
 |bool (b):DR w M (.bool b) (.bool b)
 |str (s):DR w M (.str s) (.string s)
 |un:DR w M .un (.pointer none)
 |i7:DR w M .i7 .nilFunc
 |kw:DR w M .kw .nilIface
 |rx:DR w M .rx (.map none)
 |wd (a cap):DR w M (.be []) (.slice a 0 cap)
 |be (es:List (List AZ)) (b off cap sz:Nat) (c:Array Value) (elem:TypeId) (fr:Nat×Nat):
  w.heap[b]? =some (.cells c elem fr)→ ¬M b→(∀e∈es,e.length=sz)→off+es.length*sz≤c.size→
  (∀i x v,es.flatten[i]? =some x→c[off+i]? =some v→DR w M x v)→es.length≤cap→DR w M (.be es) (.slice (some ⟨b,off,none⟩) es.length cap)
inductive VR(β:Au)(w:World)(M:Nat→Prop):AV→Value→Prop
 |d {x v}:DR w M x v→VR β w M (.d x) v
 |ci:VR β w M .ci (.slice none 0 0)
 |emp (a):VR β w M .emp (.slice a 0 0)
 |em (id off len k a cap):β id=some k→off*k.sz+cap*k.sz=k.n→len≤cap→(a=some ⟨k.b,off*k.sz,none⟩∨cap=0)→
  VR β w M (.em id off len) (.slice a len cap)
 |ptr (id off k):β id=some k→VR β w M (.ptr id off) (.pointer (some ⟨k.b,off,none⟩))
 |i6 (id i off k):β id=some k→VR β w M (.i6 id i off) (.pointer (some ⟨k.b,i*k.sz+off,none⟩))
 |pp (cs b off c elem fr):w.heap[b]? =some (.cells c elem fr)→ ¬M b→off+cs.length≤c.size→
  (∀i x v,cs[i]? =some x→c[off+i]? =some v→DR w M x v)→VR β w M (.pp cs) (.pointer (some ⟨b,off,none⟩))
 |fn (f) (a b:List AV) (a' b':Array Value):a.length=a'.size→b.length=b'.size→(∀(i:Nat) (x:AV) (v:Value),a[i]? =some x→a'[i]? =some v→VR β w M x v)→
  (∀(i:Nat) (x:AV) (v:Value),b[i]? =some x→b'[i]? =some v→VR β w M x v)→VR β w M (.fn f a b) (.func (.func f) a' b')
 |v6 (id k):β id=some k→VR β w M (.v6 id) (.func (.yield k.b) #[] #[])
 |mp (id k):β id=some k→VR β w M (.mp id) (.map (some k.b))
 |iface (t v u):VR β w M v u→VR β w M (.iface t v) (.iface t u)
 |agg (cs:List AV) (c:Array Value):cs.length=c.size→(∀(i:Nat) (x:AV) (v:Value),cs[i]? =some x→c[i]? =some v→VR β w M x v)→VR β w M (.agg cs) (.agg c)
 |ge (cs:List AV) (c:Array Value):cs.length=c.size→(∀(i:Nat) (x:AV) (v:Value),cs[i]? =some x→c[i]? =some v→VR β w M x v)→VR β w M (.ge cs) (.tuple c)
 |undef (v):VR β w M .undef v
def GH(β:Au)(w:World)(M:Nat→Prop)(cs:List AV)(c:Array Value):Prop:=
 cs.length=c.size∧ ∀(i:Nat) (x:AV) (v:Value),cs[i]? =some x→c[i]? =some v→VR β w M x v
def Obj.mut:Obj→Bool
 |.it ..=>false
 |_=>true
def MS(A:Nat→Prop)(β:Au)(h:AB)(b:Nat):Prop:=A b∨ ∃id o k,h.get id=some o∧o.mut=true∧β id=some k∧k.b=b
def JY(β:Au)(w:World)(M:Nat→Prop)(e:Nat→AV)(f:Nat→Value):Prop:= ∀t,VR β w M (e t) (f t)
def LH(β:Au)(w:World)(M:Nat→Prop)(k:Qp):Obj→Prop
 |.box cs=> ∃c elem,w.heap[k.b]? =some (.cells c elem (0,0))∧GH β w M cs c
 |.co sz es=> ∃c elem,w.heap[k.b]? =some (.cells c elem (0,0))∧sz=k.sz∧0<sz∧c.size=k.n∧(∀e∈es,e.length=sz)∧es.length*sz≤c.size∧
  ∀(i:Nat) (x:AZ) (v:Value),es.flatten[i]? =some x→c[i]? =some v→DR w M x v
 |.it sz es=>es=[]∨(¬M k.b∧ ∃c elem fr,w.heap[k.b]? =some (.cells c elem fr)∧sz=k.sz∧0<sz∧c.size=k.n∧(∀e∈es,e.length=sz)∧es.length*sz≤c.size∧
  ∀(i:Nat) (x:AZ) (v:Value),es.flatten[i]? =some x→c[i]? =some v→DR w M x v)
 |.arr sz es=> ∃c elem,w.heap[k.b]? =some (.cells c elem (0,0))∧sz=k.sz∧0<sz∧c.size=k.n∧(∀e∈es,e.length=sz)∧es.length*sz≤c.size∧
  ∀(i:Nat) (x:AV) (v:Value),es.flatten[i]? =some x→c[i]? =some v→VR β w M x v
 |.map es=> ∃entries clock,w.heap[k.b]? =some (.map entries clock)∧es.length=entries.size∧
  ∀(i:Nat) p e,es[i]? =some p→entries[i]? =some e→DR w M p.1 e.key∧VR β w M p.2 e.val
 |.loop r=> ∃l:Loop,w.heap[k.b]? =some (.loop l)∧l.state=r.state∧l.pending=r.rt∧l.fn=r.f∧l.params.toList=r.params∧l.assign=r.i9∧l.body=r.body∧l.tmps.size=r.nt∧
  JY β w M r.env.get fun t=>l.tmps.getD t Go.undef
structure HR(A:Nat→Prop)(β:Au)(w:World)(h:AB):Prop where
 obj: ∀id o,h.get id=some o→ ∃k,β id=some k∧LH β w (MS A β h) k o
 inj: ∀id id' o o' k k',h.get id=some o→h.get id'=some o'→o.mut=true→o'.mut=true→β id=some k→β id'=some k'→k.b=k'.b→id=id'
 ws: ∀id k,β id=some k→k.b<w.heap.size
 out: ∀id o k,h.get id=some o→o.mut=true→β id=some k→ ¬A k.b
 abnd: ∀b,A b→b<w.heap.size
structure Dy(A M:Nat→Prop)(w:World)(M':Nat→Prop)(w':World):Prop where
 rg: ∀b,b<w.heap.size→ ¬M b∨A b→w'.heap[b]? =w.heap[b]?
 size:w.heap.size≤w'.heap.size
 sub: ∀b,M' b→M b∨w.heap.size≤b
 io:w'.os=w.os∧w'.output=w.output:=by exact⟨rfl,rfl⟩
theorem Dy.refl(M:Nat→Prop)(w:World):Dy A M w M w:=⟨fun _ _ _=>rfl,EL _,fun _ h=>.inl h,rfl,rfl⟩
variable{M M':Nat→Prop}{w w':World}
theorem Dy.trans{M'':Nat→Prop}{w'':World}(h:Dy A M w M' w')(h':Dy A M' w' M'' w''):Dy A M w M'' w'' where
 rg b hb hm:=by
  rw[h'.rg b (Md hb h.size) (hm.imp (fun hm hm'=>(h.sub b hm').elim hm (fun h=>by omega)) (fun h=>h)),h.rg b hb hm]
 size:=Hm h.size h'.size
 sub b hb:=by
  rcases h'.sub b hb with h1|h1
  .exact h.sub b h1
  .exact .inr (Hm h.size h1)
 io:=⟨h'.io.1.trans h.io.1,h'.io.2.trans h.io.2⟩
theorem Dy.sub'(h:Dy A M w M' w'){b:Nat}(hb:b<w.heap.size)(hm: ¬M b): ¬M' b:=
 fun hm'=>(h.sub b hm').elim hm (fun h=>by omega)
def Le(β β':Au):Prop:= ∀id k,β id=some k→β' id=some k
theorem Le.refl(β:Au):Le β β:=fun _ _ h=>h
variable{β':Au}
theorem Le.trans{β β'':Au}(h:Le β β')(h':Le β' β''):Le β β'':=fun id k x=>h' id k (h id k x)
theorem AH{b:Nat}{o:Go.Obj}(h:w.heap[b]? =some o):b<w.heap.size:=(Hw.1 h).1
theorem DR.mono(hp:Dy A M w M' w'){x:AZ}{v:Value}(h:DR w M x v):DR w' M' x v:=by
 induction h with
 |int k n=>exact .int k n
 |bool b=>exact .bool b
 |str s=>exact .str s
 |un=>exact .un
 |i7=>exact .i7
 |kw=>exact .kw
 |rx=>exact .rx
 |wd a cap=>exact .wd a cap
 |be es b off cap sz c elem fr hb hm he hl _ hcap ih=>
  exact .be es b off cap sz c elem fr (by rw[hp.rg b (AH hb) (.inl hm)];exact hb) (hp.sub' (AH hb) hm) he hl ih hcap
theorem VR.mono{β:Au}(hβ:Le β β')(hp:Dy A M w M' w'){x:AV}{v:Value}(h:VR β w M x v):VR β' w' M' x v:=by
 induction h with
 |d h=>exact .d (h.mono hp)
 |ci=>exact .ci
 |emp a=>exact .emp a
 |em id off len k a cap hk hn hl ha=>exact .em id off len k a cap (hβ _ _ hk) hn hl ha
 |ptr id off k hk=>exact .ptr id off k (hβ _ _ hk)
 |i6 id i off k hk=>exact .i6 id i off k (hβ _ _ hk)
 |pp cs b off c elem fr hb hm hl hd=>
  exact .pp cs b off c elem fr (by rw[hp.rg b (AH hb) (.inl hm)];exact hb) (hp.sub' (AH hb) hm) hl fun i x v h1 h2=>(hd i x v h1 h2).mono hp
 |fn f a b a' b' h1 h2 _ _ ih1 ih2=>exact .fn f a b a' b' h1 h2 ih1 ih2
 |v6 id k hk=>exact .v6 id k (hβ _ _ hk)
 |mp id k hk=>exact .mp id k (hβ _ _ hk)
 |iface t v u _ ih=>exact .iface t v u ih
 |agg cs c h1 _ ih=>exact .agg cs c h1 ih
 |ge cs c h1 _ ih=>exact .ge cs c h1 ih
 |undef v=>exact .undef v
theorem GH.mono{β:Au}(hβ:Le β β')(hp:Dy A M w M' w'){x:List AV}{v:Array Value}(h:GH β w M x v):GH β' w' M' x v:=
 ⟨h.1,fun i x v h1 h2=>(h.2 i x v h1 h2).mono hβ hp⟩
theorem JY.mono{β:Au}(hβ:Le β β')(hp:Dy A M w M' w'){e:Nat→AV}{f:Nat→Value}(h:JY β w M e f):JY β' w' M' e f:=
 fun t=>(h t).mono hβ hp
variable{o:Obj}
theorem LH.mono{β:Au}(hβ:Le β β')(hp:Dy A M w M' w'){k:Qp}(h:LH β w M k o)(hlt:k.b<w.heap.size)
 (hk:w'.heap[k.b]? =w.heap[k.b]?):LH β' w' M' k o:=by
 cases o with
 |box cs=>obtain⟨c,elem,h1,h2⟩:=h;exact⟨c,elem,hk▸h1,h2.mono hβ hp⟩
 |co sz es=>obtain⟨c,elem,h1,h2,h3,h4,h5,h6,h7⟩:=h;exact⟨c,elem,hk▸h1,h2,h3,h4,h5,h6,fun i x v a b=>(h7 i x v a b).mono hp⟩
 |it sz es=>
  rcases h with h|⟨hm,c,elem,fr,h1,h2,h3,h4,h5,h6,h7⟩
  .exact .inl h
  .exact .inr ⟨hp.sub' hlt hm,c,elem,fr,hk▸h1,h2,h3,h4,h5,h6,fun i x v a b=>(h7 i x v a b).mono hp⟩
 |arr sz es=>obtain⟨c,elem,h1,h2,h3,h4,h5,h6,h7⟩:=h;exact⟨c,elem,hk▸h1,h2,h3,h4,h5,h6,fun i x v a b=>(h7 i x v a b).mono hβ hp⟩
 |map es=>obtain⟨en,cl,h1,h2,h3⟩:=h;exact⟨en,cl,hk▸h1,h2,fun i p e a b=>⟨(h3 i p e a b).1.mono hp,(h3 i p e a b).2.mono hβ hp⟩⟩
 |loop r=>obtain⟨l,h1,h2,h3,h4,h5,h6,h7,h9,h8⟩:=h;exact⟨l,hk▸h1,h2,h3,h4,h5,h6,h7,h9,h8.mono hβ hp⟩
theorem HR.step{β:Au}{h h':AB}(H:HR A β w h)(hβ:Le β β')(hp:Dy A (MS A β h) w (MS A β' h') w')
 (hobj: ∀id o,h'.get id=some o→(h.get id=some o∧ ∀k,β id=some k→w'.heap[k.b]? =w.heap[k.b]?)∨ ∃k,β' id=some k∧LH β' w' (MS A β' h') k o)
 (hinj: ∀id id' o o' k k',h'.get id=some o→h'.get id'=some o'→o.mut=true→o'.mut=true→β' id=some k→β' id'=some k'→k.b=k'.b→id=id')
 (hbnd: ∀id k,β' id=some k→k.b<w'.heap.size) (hout: ∀id o k,h'.get id=some o→o.mut=true→β' id=some k→ ¬A k.b):HR A β' w' h' where
 obj id o ho:=by
  rcases hobj id o ho with⟨h1,h2⟩|h1
  .obtain⟨k,hk,hr⟩:=H.obj id o h1;exact⟨k,hβ _ _ hk,hr.mono hβ hp (H.ws id k hk) (h2 k hk)⟩
  .exact h1
 inj:=hinj
 ws:=hbnd
 out:=hout
 abnd b hb:=Md (H.abnd b hb) hp.size
def Au.put(β:Au)(id:Id)(k:Qp):Au:=fun x=>if x=id then some k else β x
theorem Nb{β:Au}{id:Id}{k:Qp}(h:β id=none):Le β (β.put id k):=fun x k' hx=>by
 unfold Au.put;split
 .rename_i e;subst e;rw[h]at hx;cases hx
 .exact hx
@[simp] theorem Fo(β:Au)(id:Id)(k:Qp):β.put id k id=some k:=by simp[Au.put]
theorem Bl(β:Au){id x:Id}(k:Qp)(h:x≠id):β.put id k x=β x:=by simp[Au.put,h]
def World.add(w:World)(x:Go.Obj):World:={w with heap:=w.heap.push x}
theorem Ke(w:World)(x:Go.Obj):(World.add w x).heap[w.heap.size]? =some x:=by simp[World.add]
theorem IJ(w:World)(x:Go.Obj){b:Nat}(h:b<w.heap.size):(World.add w x).heap[b]? =w.heap[b]? :=by
 simp[World.add,OF,Nat.ne_of_lt h]
theorem Iu(w:World)(x:Go.Obj):(World.add w x).heap.size=w.heap.size+1:=by simp[World.add]
theorem qT{β:Au}{h:AB}(H:HR A β w h){b:Nat}(hb:MS A β h b):b<w.heap.size:=by
 rcases hb with hb|⟨id,o,k,_,_,hk,rfl⟩
 .exact H.abnd b hb
 .exact H.ws id k hk
theorem Sn{β:Au}{w:World}{h:AB}(H:HR A β w h){id:Id}(x:Go.Obj){o:Obj}{k:Qp}(hk:k.b=w.heap.size):
 Dy A (MS A β h) w (MS A (β.put id k) (h.put id o)) (World.add w x) where
 rg b hb _:=IJ w x hb
 size:=by rw[Iu];omega
 sub b hb:=by
  rcases hb with hb|⟨id',o',k',ho,hm,hk',rfl⟩
  .exact .inl (.inl hb)
  by_cases e:id'=id
  .subst e;simp at hk';subst hk';exact .inr (by omega)
  .rw[Bl β k e]at hk';rw[AB.get_put,CS (Ne.symm e)]at ho;exact .inl (.inr ⟨id',o',k',ho,hm,hk',rfl⟩)
theorem HR.add{β:Au}{w:World}{h:AB}(H:HR A β w h){id:Id}(hid:β id=none){x:Go.Obj}{o:Obj}{k:Qp}(hk:k.b=w.heap.size)
 (ho:LH (β.put id k) (World.add w x) (MS A (β.put id k) (h.put id o)) k o):HR A (β.put id k) (World.add w x) (h.put id o):=by
 refine H.step (Nb hid) (Sn H x hk) ?_ ?_ ?_ ?_
 .intro id' o' hg;rw[AB.get_put]at hg;split at hg
  .rename_i e;subst e;cases hg;exact .inr ⟨k,by simp,ho⟩
  .exact .inl ⟨hg,fun k' hk'=>IJ w x (H.ws _ _ hk')⟩
 .intro a b oa ob ka kb ha hb hma hmb hka hkb e;rw[AB.get_put]at ha hb;by_cases ea:a=id<;>by_cases eb:b=id
  .rw[ea,eb]
  .subst ea;simp at hka;subst hka;rw[Bl β _ eb]at hkb;have:=H.ws _ _ hkb;omega
  .subst eb;simp at hkb;subst hkb;rw[Bl β _ ea]at hka;have:=H.ws _ _ hka;omega
  .rw[Bl β _ ea]at hka;rw[Bl β _ eb]at hkb;rw[CS (Ne.symm ea)]at ha;rw[CS (Ne.symm eb)]at hb;exact H.inj a b oa ob ka kb ha hb hma hmb hka hkb e
 .intro a ka hka;rw[Iu];by_cases ea:a=id
  .subst ea;simp at hka;subst hka;omega
  .rw[Bl β _ ea]at hka;have:=H.ws _ _ hka;omega
 .intro a oa ka ha hma hka hA;rw[AB.get_put]at ha;by_cases ea:a=id
  .subst ea;simp at hka;subst hka;have:=H.abnd _ hA;omega
  .rw[Bl β _ ea]at hka;rw[CS (Ne.symm ea)]at ha;exact H.out a oa ka ha hma hka hA
def World.ii(w:World)(b:Nat)(x:Go.Obj):World:={w with heap:=w.heap.setIfInBounds b x}
theorem Ha{b:Nat}(x:Go.Obj)(h:b<w.heap.size):(World.ii w b x).heap[b]? =some x:=by simp[World.ii,h]
theorem Ei{b b':Nat}(x:Go.Obj)(h:b'≠b):(World.ii w b x).heap[b']? =w.heap[b']? :=by
 simp[World.ii,I3,Ne.symm h]
theorem Ep(w:World)(b:Nat)(x:Go.Obj):(World.ii w b x).heap.size=w.heap.size:=by simp[World.ii]
theorem Tt{β:Au}{h:AB}{id:Id}{o o':Obj}(ho:h.get id=some o)(hm:o.mut=true){b:Nat}(hb:MS A β (h.put id o') b):MS A β h b:=by
 rcases hb with hb|⟨id',o1,k,h1,h2,h3,rfl⟩
 .exact .inl hb
 rw[AB.get_put]at h1;split at h1
 .rename_i e;subst e;exact .inr ⟨id,o,k,ho,hm,h3,rfl⟩
 .exact .inr ⟨id',o1,k,h1,h2,h3,rfl⟩
variable{o':Obj}
theorem G0{β:Au}{h:AB}(H:HR A β w h){id:Id}{k:Qp}(ho:h.get id=some o)(hm:o.mut=true)(hk:β id=some k)(x:Go.Obj):
 Dy A (MS A β h) w (MS A β (h.put id o')) (World.ii w k.b x) where
 rg b _ hb:=Ei x fun e=>hb.elim (fun hb=>hb (.inr ⟨id,o,k,ho,hm,hk,e.symm⟩)) (fun hb=>H.out id o k ho hm hk (e▸hb))
 size:=by rw[Ep];omega
 sub b hb:=.inl (Tt ho hm hb)
theorem HR.ii{β:Au}{w:World}{h:AB}(H:HR A β w h){id:Id}{k:Qp}{o o':Obj}(ho:h.get id=some o)(hm:o.mut=true)(hk:β id=some k){x:Go.Obj}
 (hr:LH β (World.ii w k.b x) (MS A β (h.put id o')) k o')
 (hfro: ∀id' sz es k',h.get id'=some (.it sz es)→β id'=some k'→k'.b=k.b→es=[]):HR A β (World.ii w k.b x) (h.put id o'):=by
 refine H.step (.refl β) (G0 H ho hm hk x) ?_ ?_ ?_ ?_
 .intro id' o1 hg;rw[AB.get_put]at hg;split at hg
  .rename_i e;subst e;cases hg;exact .inr ⟨k,hk,hr⟩
  .rename_i e;obtain⟨k',hk',hr'⟩:=H.obj id' o1 hg;by_cases eb:k'.b=k.b
   .cases hm':o1.mut with
    |true=>exact absurd (H.inj id id' o o1 k k' ho hg hm hm' hk hk' eb.symm) e
    |false=>
     cases o1 with
     |it sz es=>
      have:=hfro id' sz es k' hg hk' eb;exact .inr ⟨k',hk',.inl this⟩
     |_=>simp[Obj.mut]at hm'
   .exact .inl ⟨hg,fun k2 hk2=>by rw[hk']at hk2;cases hk2;exact Ei x eb⟩
 .intro a b oa ob ka kb ha hb hma hmb hka hkb e;rw[AB.get_put]at ha hb;have get': ∀{y:Id} {oy:Obj},(if id=y then some o' else h.get y)=some oy→oy.mut=true→ ∃oz,h.get y=some oz∧oz.mut=true:=by
   intro y oy hy hmy;split at hy
   .rename_i e;subst e;exact⟨o,ho,hm⟩
   .exact⟨oy,hy,hmy⟩
  obtain⟨oa',h1,h2⟩:=get' ha hma;obtain⟨ob',h3,h4⟩:=get' hb hmb;exact H.inj a b oa' ob' ka kb h1 h3 h2 h4 hka hkb e
 .intro a ka hka;rw[Ep];exact H.ws a ka hka
 .intro a oa ka ha hma hka;rw[AB.get_put]at ha;split at ha
  .rename_i e;subst e;exact H.out _ _ _ ho hm hka
  .exact H.out a oa ka ha hma hka
theorem HR.it{β:Au}{h:AB}(H:HR A β w h){id id':Id}{k k':Qp}(ho:h.get id=some o)(hm:o.mut=true)(hk:β id=some k){sz:Nat}{es:List (List AZ)}
 (hf:h.get id'=some (.it sz es)) (hk':β id'=some k') (e:k'.b=k.b):es=[]:=by
 obtain⟨k2,hk2,hr⟩:=H.obj id' _ hf;rw[hk']at hk2;cases hk2;rcases hr with h1|⟨h1,_⟩
 .exact h1
 .exact absurd (.inr ⟨id,o,k,ho,hm,hk,e.symm⟩) h1
theorem HR.upd'{β:Au}{h:AB}(H:HR A β w h){id:Id}{k:Qp}(ho:h.get id=some o)(hm:o.mut=true)(hk:β id=some k){x:Go.Obj}
 (hr:LH β (World.ii w k.b x) (MS A β (h.put id o')) k o'):HR A β (World.ii w k.b x) (h.put id o'):=
 H.ii ho hm hk hr fun _ _ _ _ h1 h2 h3=>H.it ho hm hk h1 h2 h3
theorem vX{β:Au}{h:AB}{id:Id}(ho:h.get id=some o)(hm:o.mut=true):
 Dy A (MS A β h) w (MS A β (h.put id o')) w:=⟨fun _ _ _=>rfl,EL _,fun _ hb=>.inl (Tt ho hm hb),rfl,rfl⟩
theorem HR.kill{β:Au}{w:World}{h:AB}(H:HR A β w h){id:Id}{o:Obj}(ho:h.get id=some o)(hm:o.mut=true):HR A β w (h.put id (.it 0 [])):=by
 obtain⟨k,hk,_⟩:=H.obj id _ ho;refine H.step (.refl β) (vX ho hm) ?_ ?_ H.ws ?_
 .intro id' o1 hg;rw[AB.get_put]at hg;split at hg
  .rename_i e;subst e;cases hg;exact .inr ⟨k,hk,.inl rfl⟩
  .exact .inl ⟨hg,fun _ _=>rfl⟩
 .intro a b oa ob ka kb ha hb hma hmb hka hkb e;rw[AB.get_put]at ha hb;have get': ∀{y:Id} {oy:Obj},(if id=y then some (Obj.it 0 [])else h.get y)=some oy→oy.mut=true→ ∃oz,h.get y=some oz∧oz.mut=true:=by
   intro y oy hy hmy;split at hy
   .cases hy;simp[Obj.mut]at hmy
   .exact⟨oy,hy,hmy⟩
  obtain⟨oa',h1,h2⟩:=get' ha hma;obtain⟨ob',h3,h4⟩:=get' hb hmb;exact H.inj a b oa' ob' ka kb h1 h3 h2 h4 hka hkb e
 .intro a oa ka ha hma hka;rw[AB.get_put]at ha;split at ha
  .cases ha;cases hma
  .exact H.out a oa ka ha hma hka
end Go.Abs
