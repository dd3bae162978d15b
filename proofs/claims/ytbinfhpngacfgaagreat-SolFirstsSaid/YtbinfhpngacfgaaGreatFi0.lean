/-
  Parts of it.
-/
import Derived.CallsIn
import Derived.DefersIn
import Derived.RangeFuncLeaves
set_option linter.all false
namespace Go
def AM:=@Bool.false_eq_true
def AP:=@Option.get_some
def AS:=@Bool.and_eq_true
def Ac:=@List.mem_singleton
def Ap:=@List.mem_of_getElem?
def As:=@decide_eq_true_eq
def BE:=@List.getElem?_eq_some_iff
def BI:=@Option.map_eq_some_iff
def BV:=@List.map_append
def BY:=@List.getElem?_eq_getElem
def Be:=@List.map_nil
def Bi:=@List.length_map
def Bv:=@List.getElem?_append_left
def By:=@List.mem_flatMap
def CE:=@List.eq_nil_of_length_eq_zero
def CI:=@Option.some.injEq
def CO:=@List.all_eq_true
def CS:=@List.getElem?_append_right
def Ce:=@Bool.false_and
def Ci:=@List.map_cons
def Co:=@Nat.eq_of_beq_eq_true
def Cs:=@decide_eq_false
def DL:=@List.mem_cons
def DO:=@decide_eq_true
def Dl:=@Array.getElem?_eq_getElem
def D0:=@List.all_cons
def D1:=@List.drop_eq_nil_of_le
def D2:=@List.flatMap_cons
def D3:=@if_neg
def D4:=@List.take_length
def D5:=@List.getElem?_map
def D6:=@List.take_of_length_le
def D7:=@if_pos
def D8:=@if_false
def D9:=@List.length_append
def EL:=@List.append_nil
def EM:=@List.suffix_cons
def ES:=@List.append_assoc
def EX:=@List.mem_cons_of_mem
def El:=@Nat.le_refl
def Es:=@List.cons_append
def Ex:=@List.nil_append
def FD:=@List.mem_cons_self
def FN:=@Prod.mk.injEq
def F0:=@Bool.true_and
def F1:=@Option.map_some
def F2:=@List.mem_append
def F3:=@if_true
def F4:=@Nat.le_of_ble_eq_true
def F5:=@Array.getD_eq_getD_getElem?
def F6:=@List.not_mem_nil
def F7:=@List.getElem?_cons_zero
def F8:=@forall_eq_or_imp
def F9:=@List.map_eq_nil_iff
def GC:=@List.getElem?_cons_succ
def GO:=@List.mem_append_right
def GS:=@Option.getD_some
def Gc:=@List.length_cons
def Ge:=@List.mem_append_left
def Gs:=@Bool.and_false
def Gt:=@Nat.mul_le_mul_right
def HE:=@List.flatMap_nil
def HM:=@Option.bind_eq_some_iff
def HU:=@Array.getElem?_toList
def HW:=@Array.getElem?_eq_some_iff
def He:=@List.suffix_cons_iff
def Hm:=@List.getElem?_of_mem
def Hw:=@Nat.le_trans
def ID:=@List.mem_map
def IF:=@List.length_singleton
def II:=@Array.getElem?_setIfInBounds_ne
def IN:=@Nat.add_mul
def IP:=@Option.bind_some
def IS:=@List.getElem?_set
def IT:=@List.getElem?_drop
def Ii:=@Option.isSome_iff_exists
def Io:=@List.length_nil
def Ip:=@Bool.false_or
def Is:=@Array.getElem?_setIfInBounds
def It:=@List.length_replicate
def I0:=@Int.eq_ofNat_of_zero_le
def I1:=@Bool.not_eq_true'
def I2:=@Array.getElem?_append_left
def I3:=@List.take_succ
def I4:=@Nat.zero_le
def I5:=@List.take_add_one
def I6:=@List.length_eq_zero_iff
def I7:=@List.getElem?_take
def I8:=@Bool.or_eq_true
def I9:=@Nat.zero_add
def JP:=@List.nodup_append
def Jp:=@List.flatten_append
def KW:=@List.flatMap_append
def Kw:=@Int.toNat_natCast
def LC:=@or_false
def LI:=@Nat.le_max_left
def LM:=@List.take_append_drop
def Lc:=@Array.eq_empty_of_size_eq_zero
def Li:=@Nat.lt_of_lt_of_le
def Lm:=@List.take_append_of_le_length
def Ls:=@List.mem_flatten
def Lt:=@List.getElem_mem
def Lw:=@Bool.not_eq_true
def MD:=@List.mem_of_mem_take
def MK:=@Bool.and_true
def MP:=@List.flatten_cons
def MT:=@List.foldl_cons
def Md:=@Array.length_toList
def Mk:=@Array.getElem?_push
def Mp:=@Nat.le_max_right
def Ms:=@List.map_set
def Mt:=@List.map_replicate
def NL:=@List.getElem?_toArray
def NO:=@List.getElem?_eq_none
def Nl:=@Bool.not_true
def No:=@Bool.and_self
def OF:=@Array.ext_getElem?
def OK:=@Bool.not_false
def OL:=@List.mem_of_mem_drop
def ON:=@List.eq_of_mem_replicate
def OP:=@Bool.eq_iff_iff
def OR:=@Nat.ne_of_beq_eq_false
def OS:=@Nat.add_sub_cancel
def Of:=@Array.getElem?_map
def Ok:=@List.cons.injEq
def Ol:=@List.all_nil
def On:=@Bool.and_eq_false_iff
def PI:=@Array.mem_of_getElem?
def PL:=@Nat.add_assoc
def PM:=@List.size_toArray
def PU:=@List.exists_cons_of_ne_nil
def Pl:=@List.mem_iff_getElem
def Pm:=@List.mem_range
def Pp:=@Int.toNat_of_nonneg
def Pu:=@Nat.mul_comm
def QR:=@Array.size_setIfInBounds
def Qr:=@Option.some.inj
def RC:=@List.getElem?_replicate
def RD:=@Array.size_append
def RG:=@Nat.succ_mul
def RO:=@List.map_flatten
def RS:=@List.length_take
def RT:=@List.length_drop
def RW:=@List.any_eq_true
def RX:=@true_and
end Go
namespace Go.Abs
inductive AU where
 |int (k:IntKind) (n:Int)
 |bool (b:Bool)
 |str (s:ByteArray)
 |be (es:List (List AU))
 |qr|i7|i9|nl
abbrev Id:=List Nat
def Id.is:Id→Id→Bool
 |[],[]=>true
 |n::l,m::k=>match Nat.beq n m with
  |true=>Id.is l k
  |false=>false
 |_,_=>false
def Id.under(ρ:Id):Id→Bool
 |[]=>Id.is ρ []
 |n::l=>match Id.is ρ (n::l)with
  |true=>true
  |false=>Id.under ρ l
inductive AV where
 |d (x:AU)
 |ci
 |emp
 |d8 (id:Id) (off len:Nat)
 |ptr (id:Id) (off:Nat)
 |ip (id:Id) (i off:Nat)
 |kw (cs:List AU)
 |fn (f:FuncId) (first cap:List AV)
 |un (id:Id)
 |mp (id:Id)
 |iface (t:TypeId) (v:AV)
 |agg (cs:List AV)
 |f8 (vs:List AV)
 |undef
abbrev CB:=List (Nat×AV)
def CB.get:CB→Nat→AV
 |[],_=>.undef
 |(k,v)::e,t=>match Nat.beq k t with
  |true=>v
  |false=>CB.get e t
structure Lp where
 state:LoopState
 pm:Option Code
 f:FuncId
 env:CB
 params:List Nat
 jp:Code
 body:Code
 nt:Nat
inductive Obj where
 |box (cs:List AV)
 |d6 (sz:Nat) (es:List (List AU))
 |it (sz:Nat) (es:List (List AU))
 |arr (sz:Nat) (es:List (List AV))
 |map (es:List (AU×AV))
 |loop (r:Lp)
abbrev AB:=List (Id×Obj)
def AB.get:AB→Id→Option Obj
 |[],_=>none
 |(k,o)::h,id=>match Id.is k id with
  |true=>some o
  |false=>AB.get h id
mutual
def AU.same:AU→AU→Bool
 |.int k n,.int k' m=>decide (k=k')&&decide (n=m)
 |.bool a,.bool b=>match a,b with
  |true,true=>true
  |false,false=>true
  |_,_=>false
 |.str a,.str b=>decide (a.data.toList=b.data.toList)
 |.be a,.be b=>AU.samess a b
 |.qr,.qr=>true
 |.i7,.i7=>true
 |.i9,.i9=>true
 |.nl,.nl=>true
 |_,_=>false
def AU.sames:List AU→List AU→Bool
 |[],[]=>true
 |x::l,y::m=>match AU.same x y with
  |true=>AU.sames l m
  |false=>false
 |_,_=>false
def AU.samess:List (List AU)→List (List AU)→Bool
 |[],[]=>true
 |x::l,y::m=>match AU.sames x y with
  |true=>AU.samess l m
  |false=>false
 |_,_=>false
end
mutual
theorem AU.same_eq: ∀{a b:AU},AU.same a b=true→a=b
 |.int k n,b,h=>by
  cases b<;>simp[AU.same]at h;rw[h.1,h.2]
 |.bool a,b,h=>by
  cases b<;>simp[AU.same]at h;rename_i b;cases a<;>cases b<;>simp at h<;>rfl
 |.str a,b,h=>by
  cases b<;>simp[AU.same]at h;rename_i b;cases a;cases b;simp at h;rw[h]
 |.be a,b,h=>by
  cases b<;>simp[AU.same]at h;rw[AU.samess_eq h]
 |.qr,b,h=>by cases b<;>simp[AU.same]at h;rfl
 |.i7,b,h=>by cases b<;>simp[AU.same]at h;rfl
 |.i9,b,h=>by cases b<;>simp[AU.same]at h;rfl
 |.nl,b,h=>by cases b<;>simp[AU.same]at h;rfl
theorem AU.sames_eq: ∀{a b:List AU},AU.sames a b=true→a=b
 |[],b,h=>by cases b<;>simp[AU.sames]at h;rfl
 |x::l,[],h=>by simp[AU.sames]at h
 |x::l,y::m,h=>by
  unfold AU.sames at h;split at h
  .rename_i h1;rw[AU.same_eq h1,AU.sames_eq h]
  .cases h
theorem AU.samess_eq: ∀{a b:List (List AU)},AU.samess a b=true→a=b
 |[],b,h=>by cases b<;>simp[AU.samess]at h;rfl
 |x::l,[],h=>by simp[AU.samess]at h
 |x::l,y::m,h=>by
  unfold AU.samess at h;split at h
  .rename_i h1;rw[AU.sames_eq h1,AU.samess_eq h]
  .cases h
end
theorem Id.is_eq: ∀{a b:Id},Id.is a b=true→a=b
 |[],[],_=>rfl
 |[],_::_,h=>by simp[Id.is]at h
 |_::_,[],h=>by simp[Id.is]at h
 |n::l,m::k,h=>by
  unfold Id.is at h;split at h
  .rename_i h1;rw[Co h1,Id.is_eq h]
  .cases h
mutual
def AV.same:AV→AV→Bool
 |.d x,.d y=>AU.same x y
 |.ci,.ci=>true
 |.emp,.emp=>true
 |.d8 i a b,.d8 j a' b'=>Id.is i j&&(Nat.beq a a'&&Nat.beq b b')
 |.ptr i a,.ptr j b=>Id.is i j&&Nat.beq a b
 |.ip i a b,.ip j a' b'=>Id.is i j&&(Nat.beq a a'&&Nat.beq b b')
 |.fn f a b,.fn g a' b'=>Nat.beq f g&&(AV.sames a a'&&AV.sames b b')
 |.un i,.un j=>Id.is i j
 |.mp i,.mp j=>Id.is i j
 |.iface t v,.iface u w=>Nat.beq t u&&AV.same v w
 |.agg l,.agg m=>AV.sames l m
 |.f8 l,.f8 m=>AV.sames l m
 |.undef,.undef=>true
 |_,_=>false
def AV.sames:List AV→List AV→Bool
 |[],[]=>true
 |x::l,y::m=>match AV.same x y with
  |true=>AV.sames l m
  |false=>false
 |_,_=>false
end
mutual
theorem AV.same_eq: ∀{a b:AV},AV.same a b=true→a=b
 |.d x,b,h=>by
  cases b<;>simp[AV.same]at h;rw[AU.same_eq h]
 |.agg l,b,h=>by
  cases b<;>simp[AV.same]at h;rw[AV.sames_eq h]
 |.f8 l,b,h=>by
  cases b<;>simp[AV.same]at h;rw[AV.sames_eq h]
 |.ci,b,h=>by cases b<;>simp[AV.same]at h;rfl
 |.emp,b,h=>by cases b<;>simp[AV.same]at h;rfl
 |.undef,b,h=>by cases b<;>simp[AV.same]at h;rfl
 |.d8 ..,b,h=>by
  cases b<;>simp[AV.same]at h;rw[Id.is_eq h.1,h.2.1,h.2.2]
 |.ptr ..,b,h=>by
  cases b<;>simp[AV.same]at h;rw[Id.is_eq h.1,h.2]
 |.ip ..,b,h=>by
  cases b<;>simp[AV.same]at h;rw[Id.is_eq h.1,h.2.1,h.2.2]
 |.kw _,b,h=>by simp[AV.same]at h
 |.fn f a c,b,h=>by
  cases b<;>simp[AV.same]at h;rw[h.1,AV.sames_eq h.2.1,AV.sames_eq h.2.2]
 |.un _,b,h=>by
  cases b<;>simp[AV.same]at h;rw[Id.is_eq h]
 |.mp _,b,h=>by
  cases b<;>simp[AV.same]at h;rw[Id.is_eq h]
 |.iface t v,b,h=>by
  cases b<;>simp[AV.same]at h;rw[h.1,AV.same_eq h.2]
theorem AV.sames_eq: ∀{a b:List AV},AV.sames a b=true→a=b
 |[],b,h=>by cases b<;>simp[AV.sames]at h;rfl
 |x::l,[],h=>by simp[AV.sames]at h
 |x::l,y::m,h=>by
  unfold AV.sames at h;split at h
  .rename_i h1;rw[AV.same_eq h1,AV.sames_eq h]
  .cases h
end
def Obj.same:Obj→Option Obj→Bool
 |.box l,some (.box m)=>AV.sames l m
 |.d6 a l,some (.d6 b m)=>Nat.beq a b&&AU.samess l m
 |.it a l,some (.it b m)=>Nat.beq a b&&AU.samess l m
 |_,_=>false
theorem Obj.same_eq{a:Obj}{b:Option Obj}(h:Obj.same a b=true):b=some a:=by
 unfold Obj.same at h;split at h
 .rw[AV.sames_eq h]
 .simp only[AS]at h;rw[Co h.1,AU.samess_eq h.2]
 .simp only[AS]at h;rw[Co h.1,AU.samess_eq h.2]
 .cases h
def VZ(h h':AB):List Id:=((h++h').filter fun p=>match h.get p.1 with
 |some o=> !Obj.same o (h'.get p.1)
 |none=>true).map (·.1)
theorem AB.get_mem: ∀{h:AB} {id:Id} {o:Obj},h.get id=some o→(id,o)∈h
 |[],_,_,hg=>by cases hg
 |(k,o')::h,id,o,hg=>by
  unfold AB.get at hg;split at hg
  .rename_i h1;cases hg;rw[Id.is_eq h1];simp
  .exact EX _ (AB.get_mem hg)
theorem eG{h h':AB}{id:Id}(hi:id∉VZ h h'):h'.get id=h.get id:=by
 have key: ∀o,(id,o)∈h++h'→h'.get id=h.get id:=fun o ho=>by
  have: ¬(match h.get id with|some o=> !Obj.same o (h'.get id)|none=>true)=true:=fun hc=>
   hi (ID.2 ⟨(id,o),List.mem_filter.2 ⟨ho,hc⟩,rfl⟩)
  split at this
  .rename_i o2 h2;rw[h2];exact Obj.same_eq (by simpa using this)
  .exact absurd rfl this
 cases h1:h.get id with
 |some o=>rw[←h1];exact key o (Ge _ (AB.get_mem h1))
 |none=>cases h2:h'.get id with
  |some o=>rw[←h1,←h2];exact key o (GO _ (AB.get_mem h2))
  |none=>rfl
def AB.put:AB→Id→Obj→AB
 |[],id,o=>[(id,o)]
 |(k,x)::h,id,o=>match Id.is k id with
  |true=>(k,o)::h
  |false=>(k,x)::AB.put h id o
def AB.puts(h:AB)(δ:AB):AB:=δ.foldl (fun h p=>h.put p.1 p.2) h
inductive TK where
 |bool|int|str|func|ptr|iface|slice|map|other
 |flat (ks:List TK)
 |arr (n:Nat)
structure TI where
 kind:TK
 size:Nat
 agg:Bool
 str:Bool
 zero:List AV
 wp:List (Nat×Nat×Bool)
 elem:TypeId
 key:TypeId
 mix:Bool
inductive Mode where
 |auto|own|raw|ro
 deriving DecidableEq
structure CA where
 T:TypeId→Option TI
 mode:FuncId→Mode
 live:FuncId→Nat→List Nat
 co:FuncId→Nat→List (Nat×Nat)
 alone:FuncId→Nat→Nat→Bool
 lc:FuncId→Option TypeId
 rx:TypeId→String→Option FuncId
 ii:FuncId→Bool
def Cw:Value→AV
 |.int k n=>.d (.int k n)
 |.bool b=>.d (.bool b)
 |.string s=>.d (.str s)
 |.slice none 0 0=>.ci
 |.pointer none=>.d .qr
 |.nilFunc=>.d .i7
 |.nilIface=>.d .i9
 |.map none=>.d .nl
 |_=>.undef
def ev(e:Nat→AV):Operand→AV
 |.tmp t=>e t
 |.const v=>Cw v
 |.func f=>.fn f [] []
 |.global _=>.undef
def AV.cells:AV→List AV
 |.agg cs=>cs
 |v=>[v]
def AV.isCell:AV→Bool
 |.agg _=>false
 |.f8 _=>false
 |.undef=>false
 |_=>true
def Ev(agg:Bool)(cs:List AV):Option AV:=
 if agg then some (.agg cs)else match cs with
  |[c]=>some c
  |_=>none
def IM{α:Type}(l:List α)(off n:Nat):Option (List α):=
 if off+n≤l.length then some ((l.drop off).take n)else none
def B9{α:Type}(l:List α)(off:Nat)(new:List α):Option (List α):=
 if off+new.length≤l.length then some (l.take off++new++l.drop (off+new.length))else none
structure Bw where
 v:AV
 δ:AB:=[]
abbrev G:=Id→Option Obj
def Mm:Option Obj→Option (List (List AV))
 |some (.d6 _ es)=>some (es.map (·.map .d))
 |some (.it _ es)=>some (es.map (·.map .d))
 |some (.arr _ es)=>some es
 |_=>none
def H4(g:G)(i:TI):AV→Option AV
 |.ptr id off=>match g id with
  |some (.box cs)=>(IM cs off i.size).bind (Ev i.agg)
  |_=>none
 |.ip id k off=>match g id with
  |some (.d6 _ es)=>match es[k]? with
   |some e=>(IM e off i.size).bind fun ds=>Ev i.agg (ds.map .d)
   |none=>none
  |some (.it _ es)=>match es[k]? with
   |some e=>(IM e off i.size).bind fun ds=>Ev i.agg (ds.map .d)
   |none=>none
  |some (.arr _ es)=>match es[k]? with
   |some e=>(IM e off i.size).bind (Ev i.agg)
   |none=>none
  |_=>none
 |.kw cs=>(IM cs 0 i.size).bind fun ds=>Ev i.agg (ds.map .d)
 |_=>none
section force
variable{α:Type}
def HL(n:Nat)(k:Nat→α):α:=match n with
 |0=>k 0
 |m+1=>k (Nat.succ m)
def vw(b:Bool)(k:Bool→α):α:=match b with
 |true=>k true
 |false=>k false
def xC(n:Int)(k:Int→α):α:=match n with
 |.ofNat m=>HL m fun m=>k (.ofNat m)
 |.negSucc m=>HL m fun m=>k (.negSucc m)
def v5(x:IntKind)(k:IntKind→α):α:=match x with
 |.i8=>k .i8|.i16=>k .i16|.i32=>k .i32|.i64=>k .i64
 |.u8=>k .u8|.u16=>k .u16|.u32=>k .u32|.u64=>k .u64
def M6(l:List Nat)(k:List Nat→α):α:=match l with
 |[]=>k []
 |n::l=>HL n fun n=>M6 l fun l=>k (n::l)
def eZ(x:AU)(k:AU→α):α:=match x with
 |.int kd n=>v5 kd fun kd=>xC n fun n=>k (.int kd n)
 |.bool b=>vw b fun b=>k (.bool b)
 |.str s=>k (.str s)
 |.be es=>k (.be es)
 |.qr=>k .qr
 |.i7=>k .i7
 |.i9=>k .i9
 |.nl=>k .nl
def Vg(l:List AU)(k:List AU→α):α:=match l with
 |[]=>k []
 |x::l=>eZ x fun x=>Vg l fun l=>k (x::l)
def N2(l:List (List AU))(k:List (List AU)→α):α:=match l with
 |[]=>k []
 |x::l=>Vg x fun x=>N2 l fun l=>k (x::l)
def mb(x:AU)(k:AU→α):α:=match x with
 |.be es=>N2 es fun es=>k (.be es)
 |x=>eZ x k
def ma(v:AV)(k:AV→α):α:=match v with
 |.d x=>mb x fun x=>k (.d x)
 |.ci=>k .ci
 |.emp=>k .emp
 |.d8 id off len=>M6 id fun id=>HL off fun off=>HL len fun len=>k (.d8 id off len)
 |.ptr id off=>M6 id fun id=>HL off fun off=>k (.ptr id off)
 |.ip id i off=>M6 id fun id=>HL i fun i=>HL off fun off=>k (.ip id i off)
 |.kw cs=>Vg cs fun cs=>k (.kw cs)
 |.fn f a b=>HL f fun f=>k (.fn f a b)
 |.un id=>M6 id fun id=>k (.un id)
 |.mp id=>M6 id fun id=>k (.mp id)
 |.iface t v=>HL t fun t=>k (.iface t v)
 |.agg cs=>k (.agg cs)
 |.f8 vs=>k (.f8 vs)
 |.undef=>k .undef
def QE(l:List AV)(k:List AV→α):α:=match l with
 |[]=>k []
 |x::l=>ma x fun x=>QE l fun l=>k (x::l)
def Y9(v:AV)(k:AV→α):α:=match v with
 |.agg cs=>QE cs fun cs=>k (.agg cs)
 |.f8 vs=>QE vs fun vs=>k (.f8 vs)
 |.fn f a b=>HL f fun f=>QE a fun a=>QE b fun b=>k (.fn f a b)
 |.iface t v=>HL t fun t=>ma v fun v=>k (.iface t v)
 |v=>ma v k
def Kb(l:List AV)(k:List AV→α):α:=match l with
 |[]=>k []
 |x::l=>Y9 x fun x=>Kb l fun l=>k (x::l)
def zZ(v:AV)(k:AV→α):α:=match v with
 |.f8 vs=>Kb vs fun vs=>k (.f8 vs)
 |.agg cs=>Kb cs fun cs=>k (.agg cs)
 |.iface t v=>HL t fun t=>Y9 v fun v=>k (.iface t v)
 |v=>Y9 v k
def cV(l:List (List AV))(k:List (List AV)→α):α:=match l with
 |[]=>k []
 |x::l=>Kb x fun x=>cV l fun l=>k (x::l)
def M5(l:List (AU×AV))(k:List (AU×AV)→α):α:=match l with
 |[]=>k []
 |(x,v)::l=>eZ x fun x=>Y9 v fun v=>M5 l fun l=>k ((x,v)::l)
def xD(o:Obj)(k:Obj→α):α:=match o with
 |.box cs=>Kb cs fun cs=>k (.box cs)
 |.d6 sz es=>HL sz fun sz=>N2 es fun es=>k (.d6 sz es)
 |.it sz es=>HL sz fun sz=>N2 es fun es=>k (.it sz es)
 |.arr sz es=>HL sz fun sz=>cV es fun es=>k (.arr sz es)
 |.map es=>M5 es fun es=>k (.map es)
 |.loop r=>k (.loop r)
def QF(h:AB)(k:AB→α):α:=match h with
 |[]=>k []
 |(id,o)::h=>M6 id fun id=>xD o fun o=>QF h fun h=>k ((id,o)::h)
def Fj(h:AB)(k:AB→α):α:=match h with
 |[]=>k []
 |(id,o)::h=>Fj h fun h=>k ((id,o)::h)
def rn(e:CB)(k:CB→α):α:=match e with
 |[]=>k []
 |(t,v)::e=>HL t fun t=>Y9 v fun v=>rn e fun e=>k ((t,v)::e)
def SK(e:CB)(k:CB→α):α:=match e with
 |[]=>k []
 |p::e=>k (p::e)
end force
def EW(g:G):AV→Option AU
 |.d x=>some x
 |.ci=>some (.be [])
 |.emp=>some (.be [])
 |.d8 id off n=>match g id with
  |some (.d6 _ es)=>(IM es off n).map .be
  |some (.it _ es)=>(IM es off n).map .be
  |_=>none
 |_=>none
def Ch(g:G):List AV→Option (List AU)
 |[]=>some []
 |v::vs=>match EW g v,Ch g vs with
  |some x,some xs=>some (x::xs)
  |_,_=>none
def Cd(g:G):List (List AV)→Option (List (List AU))
 |[]=>some []
 |v::vs=>match Ch g v,Cd g vs with
  |some x,some xs=>some (x::xs)
  |_,_=>none
def Cu(g:G):AV→Option AU
 |.d8 id off n=>match g id with
  |some (.arr _ es)=>match Cd g es with
   |some ds=>(IM ds off n).map .be
   |none=>none
  |_=>EW g (.d8 id off n)
 |v=>EW g v
def Fm(g:G):List AV→Option (List AV)
 |[]=>some []
 |v::vs=>match Cu g v,Fm g vs with
  |some x,some xs=>some (.d x::xs)
  |_,_=>none
def Di(g:G):AV→Option AV
 |.agg cs=>(Fm g cs).map .agg
 |.fn f [] []=>some (.fn f [] [])
 |.iface t (.agg cs)=>(Fm g cs).map fun c=>.iface t (.agg c)
 |.iface t v=>(Cu g v).map fun x=>.iface t (.d x)
 |v=>(Cu g v).map .d
def DM(g:G):List AV→Option (List AV)
 |[]=>some []
 |v::vs=>match Di g v,DM g vs with
  |some x,some xs=>some (x::xs)
  |_,_=>none
def Uk(g:G):AV→Option AV
 |.f8 vs=>(DM g vs).map .f8
 |v=>Di g v
def Ie(g:G):AV→AB
 |.d8 id _ _=>match g id with
  |some (.d6 sz es)=>[(id,.it sz es)]
  |_=>[]
 |_=>[]
def Bb(g:G)(l:List AV):AB:=l.flatMap (Ie g)
def Eu(g:G):AV→AB
 |.d8 id off n=>match g id with
  |some (.d6 sz es)=>[(id,.it sz es)]
  |some (.arr sz es)=>match Cd g es with
   |some ds=>(id,.it sz ds)::es.flatMap (Bb g)
   |none=>[]
  |_=>[]
 |_=>[]
def JZ:AV→List AV
 |.agg cs=>cs
 |.iface _ (.agg cs)=>cs
 |.iface _ v=>[v]
 |v=>[v]
def mark(g:G)(v:AV):AB:=(JZ v).flatMap (Eu g)
def Dh:AU→Bool
 |.be _=>false
 |_=>true
def Et:List AV→Bool
 |[]=>true
 |.d x::vs=>Dh x&&Et vs
 |_=>false
def flat:AV→Bool
 |.d x=>Dh x
 |.ci=>true
 |.emp=>true
 |.agg cs=>Et cs
 |.f8 vs=>Et vs
 |.iface _ (.d x)=>Dh x
 |.iface _ (.agg cs)=>Et cs
 |_=>false
def Ba(v:AV)(h:AB):Option (Id×Obj):=
 match v with
 |.d8 id _ _=>match h.get id with
  |some (.d6 sz es)=>if es.all (·.all Dh)then some (id,.d6 sz es)else none
  |_=>none
 |_=>none
def Kv(id:Id)(δ:AB):Bool:=δ.all fun p=> !Id.is p.1 id
def IG(g:G)(i:TI)(a v:AV):Option Bw:=
 match v.cells.length==i.size&&v.cells.all AV.isCell with
 |false=>none
 |true=>match a with
  |.ptr id off=>match g id with
   |some (.box cs)=>(B9 cs off v.cells).map fun cs'=>⟨.undef,[(id,.box cs')]⟩
   |_=>none
  |.ip id k off=>match g id with
   |some (.d6 sz es)=>match es[k]?,Ch g v.cells,Kv id (Bb g v.cells)with
    |some e,some ds,true=>(B9 e off ds).map fun e'=>⟨.undef,Bb g v.cells++[(id,.d6 sz (es.set k e'))]⟩
    |_,_,_=>none
   |some (.arr sz es)=>match es[k]? with
    |some e=>(B9 e off v.cells).map fun e'=>⟨.undef,[(id,.arr sz (es.set k e'))]⟩
    |none=>none
   |_=>none
  |_=>none
def Fh{α:Type}(sz:Nat):Nat→List α→List (List α)
 |0,_=>[]
 |n+1,l=>l.take sz::Fh sz n (l.drop sz)
def BD:Nat:=2 ^ 30
def newArr(g:G)(newId:Id)(j:TI)(es:List (List AV)):Option Bw:=
 match es.all (fun e=>e.length==j.size&&e.all AV.isCell)&&Nat.blt 0 j.size&&Nat.ble es.length BD with
 |false=>none
 |true=>match j.mix with
  |true=>some ⟨.d8 (1::newId) 0 es.length,[(1::newId,.arr j.size es)]⟩
  |false=>match Cd g es with
   |some ds=>some ⟨.d8 (1::newId) 0 es.length,es.flatMap (Bb g)++[(1::newId,.d6 j.size ds)]⟩
   |none=>none
def DG(g:G):AV→Option (List (List AV))
 |.d (.be es)=>some (es.map (·.map .d))
 |.ci=>some []
 |.emp=>some []
 |.d8 id off n=>(Mm (g id)).bind fun es=>IM es off n
 |_=>none
def appIn(g:G)(newId:Id)(id:Id)(off n sz:Nat)(es:List (List AU))(src:List (List AV)):Option Bw:=
 match Cd g src,Kv id (src.flatMap (Bb g))with
 |some ds,true=>match B9 es (off+n) ds with
  |some es'=>some ⟨.d8 id off (n+ds.length),src.flatMap (Bb g)++[(id,.d6 sz es')]⟩
  |none=>match Nat.beq off 0&&Nat.ble (n+ds.length) BD with
   |true=>some ⟨.d8 (1::newId) 0 (n+ds.length),src.flatMap (Bb g)++[(id,.it 0 []),(1::newId,.d6 sz (es.take n++ds))]⟩
   |false=>none
 |_,_=>none
def appMix(newId:Id)(id:Id)(off n sz:Nat)(es:List (List AV))(src:List (List AV)):Option Bw:=
 match B9 es (off+n) src with
 |some es'=>some ⟨.d8 id off (n+src.length),[(id,.arr sz es')]⟩
 |none=>match Nat.beq off 0&&Nat.ble (n+src.length) BD with
  |true=>some ⟨.d8 (1::newId) 0 (n+src.length),[(id,.it 0 []),(1::newId,.arr sz (es.take n++src))]⟩
  |false=>none
def appTo(g:G)(newId:Id)(j:TI)(s:AV)(src:List (List AV)):Option Bw:=
 match s with
 |.ci=>newArr g newId j src
 |.emp=>newArr g newId j src
 |.d8 id off n=>match g id with
  |some (.d6 sz es)=>match Nat.beq sz j.size&&Nat.ble (off+n) es.length with
   |true=>appIn g newId id off n sz es src
   |false=>none
  |some (.arr sz es)=>match Nat.beq sz j.size&&Nat.ble (off+n) es.length with
   |true=>appMix newId id off n sz es src
   |false=>none
  |_=>none
 |_=>none
def appendV(g:G)(newId:Id)(j:TI)(s x:AV):Option Bw:=
 match DG g x with
 |none=>none
 |some []=>match s with
  |.ci=>some ⟨.ci,[]⟩
  |.emp=>some ⟨.emp,[]⟩
  |.d8 id off n=>some ⟨.d8 id off n,[]⟩
  |_=>none
 |some src=>match src.all (fun c=>c.length==j.size&&c.all AV.isCell)&&Nat.ble src.length BD&&Nat.blt 0 j.size with
  |true=>appTo g newId j s src
  |false=>none
def Ey(op:BinOp)(k:IntKind)(a b:Int):Option AV:=
 match op with
 |.add=>some (.d (.int k (k.wrap (a+b))))
 |.sub=>some (.d (.int k (k.wrap (a-b))))
 |.mul=>some (.d (.int k (k.wrap (a*b))))
 |.eql=>some (.d (.bool (a==b)))
 |.neq=>some (.d (.bool (a !=b)))
 |.lss=>some (.d (.bool (decide (a<b))))
 |.leq=>some (.d (.bool (decide (a≤b))))
 |.gtr=>some (.d (.bool (decide (b<a))))
 |.geq=>some (.d (.bool (decide (b≤a))))
 |.rem=>if b=0 then none else some (.d (.int k (a.tmod b)))
 |.quo=>if b=0 then none else some (.d (.int k (k.wrap (a.tdiv b))))
 |_=>none
def Ff:TK→AV→AV→Option Bool
 |.int,.d (.int k a),.d (.int k' b)=>if k=k' then some (a==b)else none
 |.bool,.d (.bool a),.d (.bool b)=>some (a==b)
 |.str,.d (.str a),.d (.str b)=>some (a==b)
 |_,_,_=>none
def Dv:List TK→List AV→List AV→Option Bool
 |[],[],[]=>some true
 |t::ts,x::xs,y::ys=>match Ff t x y,Dv ts xs ys with
  |some a,some b=>some (a&&b)
  |_,_=>none
 |_,_,_=>none
def G7:TK→AV→AV→Option Bool
 |.flat ks,.agg cs,.agg ds=>Dv ks cs ds
 |.func,.fn ..,.d .i7=>some false
 |.func,.d .i7,.d .i7=>some true
 |.ptr,.ptr ..,.d .qr=>some false
 |.ptr,.d .qr,.d .qr=>some true
 |.iface,.iface ..,.d .i9=>some false
 |.slice,.d (.be (_::_)),.ci=>some false
 |.slice,.d8 _ _ (_+1),.ci=>some false
 |.slice,.ci,.ci=>some true
 |.bool,x,y=>Ff .bool x y
 |.str,x,y=>Ff .str x y
 |_,_,_=>none
def qM(op:BinOp)(a b:ByteArray):Option AV:=
 match op with
 |.lss=>some (.d (.bool (Op.bytesLess a.toList b.toList)))
 |.leq=>some (.d (.bool (Op.bytesLess a.toList b.toList||a.toList==b.toList)))
 |.gtr=>some (.d (.bool (!(Op.bytesLess a.toList b.toList||a.toList==b.toList))))
 |.geq=>some (.d (.bool (!Op.bytesLess a.toList b.toList)))
 |_=>none
def AAH(op:BinOp):AV→AV→Option AV
 |.d (.str a),.d (.str b)=>qM op a b
 |_,_=>none
def G8(op:BinOp)(x y:AV)(t:Option TI):Option AV:=
 match x,y with
 |.d (.int k a),.d (.int k' b)=>if k=k' then Ey op k a b else none
 |x,y=>match t with
  |some i=>match op,G7 i.kind x y with
   |.eql,some b=>some (.d (.bool b))
   |.neq,some b=>some (.d (.bool (!b)))
   |_,_=>AAH op x y
  |none=>none
def Wh:Operand→Bool
 |.const _=>true
 |_=>false
def pN(c:Bool)(op:BinOp):AV→AV→Option TI→Option AV
 |.d .i9,.d .i9,some i=>match c,i.kind,op with
  |true,.iface,.eql=>some (.d (.bool true))
  |true,.iface,.neq=>some (.d (.bool false))
  |_,_,_=>none
 |_,_,_=>none
def zy:Option AV→Option AV→Option AV
 |some v,_=>some v
 |none,r=>r
def da(c:Bool)(op:BinOp)(x y:AV)(t:Option TI):Option AV:=zy (G8 op x y t) (pN c op x y t)
def Ts(g:G):TK→AV→Option Nat
 |.slice,.d (.be es)=>some es.length
 |.str,.d (.str s)=>some s.size
 |.slice,.ci=>some 0
 |.slice,.emp=>some 0
 |.slice,.d8 _ _ n=>some n
 |.map,.mp id=>match g id with
  |some (.map es)=>some es.length
  |_=>none
 |_,_=>none
def CM:(place:Nat→Option (Nat×Nat))→List AV→List (Nat×AV)→Option (List AV)
 |_,cs,[]=>some cs
 |pl,cs,(i,v)::ps=>match pl i with
  |some (off,size)=>if v.cells.length=size∧v.cells.all AV.isCell then(B9 cs off v.cells).bind fun cs'=>CM pl cs' ps else none
  |none=>none
def Kj:AV→Option Int
 |.d (.int _ n)=>some n
 |_=>none
def Jl:Option AV→Int→Option Int
 |none,d=>some d
 |some v,_=>Kj v
def FL(lo hi mx:Option AV)(n:Nat):Option (Nat×Nat×Option Nat):=
 match Jl lo 0,Jl hi n with
 |some l,some r=>match mx with
  |none=>if 0≤l∧l≤r then some (l.toNat,r.toNat,none)else none
  |some m=>match hi,Kj m with
   |some _,some m=>if 0≤l∧l≤r∧r≤m then some (l.toNat,r.toNat,some m.toNat)else none
   |_,_=>none
 |_,_=>none
def LN(sz:Nat)(es:List (List AU)):Bool:=match es with
 |[]=>true
 |e::_=>Nat.beq e.length sz
def OU(sz:Nat)(es:List (List AU)):Option (Nat×Nat×Option Nat)→Option AV
 |some (l,r,m)=>match Nat.ble r es.length&&LN sz es with
  |true=>match m with
   |none=>some (.d (.be ((es.drop l).take (r-l))))
   |some m=>match Nat.beq m l with
    |true=>some .emp
    |false=>none
  |false=>none
 |none=>none
def ee(sz:Nat)(id:Id)(off l r:Nat)(m:Option Nat)(s n:Nat):Option AV:=
 match Nat.beq s sz&&Nat.ble (off+m.getD r) n&&Nat.ble (off+r) n&&Nat.blt 0 n with
 |true=>match m with
  |none=>some (.d8 id (off+l) (r-l))
  |some m=>match Nat.beq m l with
   |true=>some .emp
   |false=>some .undef
 |false=>none
def Q2(g:G)(sz:Nat)(id:Id)(off:Nat):Option (Nat×Nat×Option Nat)→Option AV
 |some (l,r,m)=>match g id with
  |some (.d6 s es)=>ee sz id off l r m s es.length
  |some (.it s es)=>ee sz id off l r m s es.length
  |some (.arr s es)=>ee sz id off l r m s es.length
  |_=>none
 |none=>none
def YC:Option (Nat×Nat×Option Nat)→Option AV
 |some (0,0,none)=>some .ci
 |some (0,0,some 0)=>some .emp
 |_=>none
def qF(s:ByteArray):Option (Nat×Nat×Option Nat)→Option AV
 |some (l,r,none)=>if r≤s.size then some (.d (.str (s.extract l r)))else none
 |_=>none
def GU(g:G)(k:TK)(sz:Nat)(x:AV)(lo hi mx:Option AV):Option AV:=
 match k,x with
 |.slice,.d (.be es)=>OU sz es (FL lo hi mx es.length)
 |.slice,.d8 id off n=>Q2 g sz id off (FL lo hi mx n)
 |.slice,.ci=>YC (FL lo hi mx 0)
 |.str,.d (.str s)=>qF s (FL lo hi mx s.size)
 |_,_=>none
def Dd(e:Nat→AV)(ps:Array (Nat×Operand)):List (Nat×AV):=ps.toList.map fun p=>(p.1,ev e p.2)
def Fz:AU→AU→Option Bool
 |.int k a,.int k' b=>if k=k' then some (a==b)else none
 |.str a,.str b=>some (a==b)
 |.bool a,.bool b=>some (a==b)
 |_,_=>none
def Cb:List (AU×AV)→AU→Option (Option AV)
 |[],_=>some none
 |(k,v)::es,x=>match Fz k x with
  |some true=>some (some v)
  |some false=>Cb es x
  |none=>none
def Dj:List (AU×AV)→AU→AV→List (AU×AV)
 |[],x,v=>[(x,v)]
 |(k,w)::es,x,v=>match Fz k x with
  |some true=>(k,v)::es
  |_=>(k,w)::Dj es x v
def KZ:AV→Option AU
 |.d x=>some x
 |_=>none
def Ia:TK→AU→Bool
 |.int,.int ..=>true
 |.str,.str _=>true
 |.bool,.bool _=>true
 |_,_=>false
def mapPut(T:TypeId→Option TI)(g:G)(t:Option TI)(m k v:AV):Option Bw:=
 match(match t,KZ k with
  |some i,some x=>match i.kind,T i.key with
   |.map,some kt=>Ia kt.kind x&&v.isCell
   |_,_=>false
  |_,_=>false)with
 |false=>none
 |true=>match m,KZ k with
 |.mp id,some x=>match g id with
  |some (.map es)=>match Cb es x with
   |some _=>some ⟨.undef,[(id,.map (Dj es x v))]⟩
   |none=>none
  |_=>none
 |_,_=>none
section ops
variable(T:TypeId→Option TI)(e:Nat→AV)(g:G)(newId:Id)
def MO(c a b:AV):Option Bw:=match c with
 |.d (.bool t)=>some ⟨match t with|true=>a|false=>b,[]⟩
 |_=>none
def Ih:Option TI→Option Bw
 |some i=>if i.zero.length=i.size∧i.zero.all AV.isCell then some ⟨.ptr (0::newId) 0,[(0::newId,.box i.zero)]⟩else none
 |none=>none
def O1(x:AV):Option TI→Option Bw
 |some i=>if x.cells.length=i.size∧x.cells.all AV.isCell then some ⟨.ptr (0::newId) 0,[(0::newId,.box x.cells)]⟩else none
 |none=>none
def Ij(ps:List (Nat×AV)):Option TI→Option Bw
 |some i=>match i.str&&i.zero.length==i.size with
  |false=>none
  |true=>(CM (fun k=>(i.wp[k]?).map fun f=>(f.1,f.2.1)) i.zero ps).map fun cs=>⟨.agg cs,[]⟩
 |none=>none
def Fe(n:Nat)(ps:List (Nat×AV))(j:TI):Option Bw:=
 match CM (fun k=>some (k*j.size,j.size)) ((List.replicate n j.zero).flatten) ps with
 |some cs=>match n with
  |0=>some ⟨.emp,[]⟩
  |n=>match Nat.ble (n*j.size) (2 ^ 24)&&j.zero.length==j.size with
   |true=>newArr g newId j (Fh j.size n cs)
   |false=>none
 |none=>none
def CJ(n:Nat)(ps:List (Nat×AV)):Option TI→Option Bw
 |some i=>match i.kind,T i.elem with
  |.slice,some j=>Fe g newId n ps j
  |_,_=>none
 |none=>none
def J8(a:AV):Option TI→Option Bw
 |some i=>(H4 g i a).map (⟨·,[]⟩)
 |none=>none
def HT(a x:AV):Option TI→Option Bw
 |some i=>IG g i a x
 |none=>none
def FO:AV→Option Bw
 |.ptr id off=>some ⟨.ptr id off,[]⟩
 |.ip id k off=>some ⟨.ip id k off,[]⟩
 |.kw cs=>some ⟨.kw cs,[]⟩
 |_=>none
def cm:AV→Option Bw
 |.d (.bool b)=>some ⟨.d (.bool (!b)),[]⟩
 |_=>none
def Gy(t:TypeId):AV→Option TI→Option Bw
 |.iface t' v,some i=>match i.kind with
  |.iface=>none
  |_=>if t'=t then some ⟨.f8 [v,.d (.bool true)],[]⟩else(Ev i.agg i.zero).map fun z=>⟨.f8 [z,.d (.bool false)],[]⟩
 |_,_=>none
def J4(ok:Bool)(r:Option AV)(j:TI):Option Bw:=
 match r,Ev j.agg j.zero with
 |some v,_=>some ⟨match ok with|true=>.f8 [v,.d (.bool true)]|false=>v,[]⟩
 |none,some z=>some ⟨match ok with|true=>.f8 [z,.d (.bool false)]|false=>z,[]⟩
 |_,_=>none
def Ef(m k:AV)(ok:Bool):Option TI→Option Bw
 |some i=>match m,KZ k,i.kind,T i.key with
  |.mp id,some x,.map,some kt=>match Ia kt.kind x,g id with
   |true,some (.map es)=>match Cb es x,T i.elem with
    |some r,some j=>J4 ok r j
    |_,_=>none
   |_,_=>none
  |_,_,_,_=>none
 |none=>none
def FG(n:Nat)(j:TI):Option Bw:=match n with
 |0=>some ⟨.emp,[]⟩
 |n=>newArr g newId j (List.replicate n j.zero)
def CR(l c:AV):Option TI→Option Bw
 |some i=>match i.kind,T i.elem,l,c with
  |.slice,some j,.d (.int _ n),.d (.int _ m)=>if 0≤n∧n=m∧n≤BD then FG g newId n.toNat j else none
  |_,_,_,_=>none
 |none=>none
def Dt(k:Nat)(x:AV):Option TI→Option Bw
 |some i=>match i.wp[k]? with
  |some f=>match f.2.1 with
   |0=>none
   |_=>match x with
    |.ptr id off=>some ⟨.ptr id (off+f.1),[]⟩
    |.ip id n off=>some ⟨.ip id n (off+f.1),[]⟩
    |.kw cs=>if f.1≤cs.length then some ⟨.kw (cs.drop f.1),[]⟩else none
    |_=>none
  |none=>none
 |none=>none
def Lf(k:Nat)(x:AV):Option TI→Option Bw
 |some i=>match i.wp[k]?,x with
  |some f,.agg cs=>((IM cs f.1 f.2.1).bind (Ev f.2.2)).map (⟨·,[]⟩)
  |_,_=>none
 |none=>none
def Ly(n:Int)(x:AV)(j:TI):Option Bw:=
 if 0≤n then match x with
  |.d (.be es)=>match es[n.toNat]? with
   |some c=>match Nat.beq c.length j.size with
    |true=>some ⟨.kw c,[]⟩
    |false=>none
   |none=>none
  |.d8 id off len=>if n.toNat<len then match g id with
   |some (.d6 sz es)=>if sz=j.size∧off+n.toNat<es.length then some ⟨.ip id (off+n.toNat) 0,[]⟩else none
   |some (.it sz es)=>if sz=j.size∧off+n.toNat<es.length then some ⟨.ip id (off+n.toNat) 0,[]⟩else none
   |some (.arr sz es)=>if sz=j.size∧off+n.toNat<es.length then some ⟨.ip id (off+n.toNat) 0,[]⟩else none
   |_=>none
   else none
  |_=>none
 else none
def lh(n:Int)(m:Nat)(j:TI):AV→Option Bw
 |.ptr id off=>if 0≤n∧n.toNat<m then some ⟨.ptr id (off+n.toNat*j.size),[]⟩else none
 |_=>none
def Ck(x i:AV):Option TI→Option Bw
 |some t=>match i,t.kind,T t.elem with
  |.d (.int _ n),.slice,some j=>Ly g n x j
  |.d (.int _ n),.arr m,some j=>lh n m j x
  |_,_,_=>none
 |none=>none
def J7(x i:AV)(t:Option TI):Option Bw:=match t.map TI.kind,x,i with
 |some .str,.d (.str s),.d (.int _ n)=>if 0≤n then(s.data.toList[n.toNat]?).map fun b=>⟨.d (.int .u8 b.toNat),[]⟩else none
 |_,_,_=>none
def Hi(k:Nat)(x:AV):Option Bw:=match x with
 |.f8 vs=>(vs[k]?).map (⟨·,[]⟩)
 |_=>none
def Gx(t u:Option TI)(s x:AV):Option Bw:=
 match t,u with
 |some i,some u=>match i.kind,u.kind,T i.elem with
  |.slice,.slice,some j=>appendV g newId j s x
  |_,_,_=>none
 |_,_=>none
def LL(id:Id)(off n:Nat)(j:TI):Option Bw:=
 match g id with
 |some (.d6 sz es)=>match Ch (fun _=>none) j.zero with
  |some z=>if z.length=sz∧j.zero.length=j.size∧j.zero.all AV.isCell∧0<sz then(B9 es off (List.replicate n z)).map fun es'=>⟨.undef,[(id,.d6 sz es')]⟩else none
  |none=>none
 |_=>none
def Ik(t:Option TI)(x:AV):Option Bw:=
 match t with
 |some i=>match i.kind,x with
  |.slice,.d8 id off n=>match n with
   |0=>some ⟨.undef,[]⟩
   |n=>match T i.elem with
    |some j=>LL g id off n j
    |none=>none
  |.slice,.ci=>some ⟨.undef,[]⟩
  |.slice,.emp=>some ⟨.undef,[]⟩
  |_,_=>none
 |none=>none
def XD(x y:AV):Option Bw:=match x,y with
 |.d (.int k a),.d (.int k' b)=>if k=k' then some ⟨.d (.int k (if b>a then b else a)),[]⟩else none
 |_,_=>none
def XE(x y:AV):Option Bw:=match x,y with
 |.d (.int k a),.d (.int k' b)=>if k=k' then some ⟨.d (.int k (if b<a then b else a)),[]⟩else none
 |_,_=>none
def FT(b:Builtin)(as:List AV)(ts:List TypeId):Option Bw:=
 match b with
 |.len=>match as with
  |[x]=>match ts with
   |[t]=>match T t with
    |some i=>(Ts g i.kind x).map fun(n:Nat)=>⟨.d (.int .i64 (n:Int)),[]⟩
    |none=>none
   |_=>none
  |_=>none
 |.append=>match as,ts with
  |[s,x],[t,u]=>Gx T g newId (T t) (T u) s x
  |_,_=>none
 |.clear=>match as,ts with
  |[x],[t]=>Ik T g (T t) x
  |_,_=>none
 |.max=>match as with
  |[x,y]=>XD x y
  |_=>none
 |.min=>match as with
  |[x,y]=>XE x y
  |_=>none
 |_=>none
def JB(c:Call):Option Bw:=match c.callee with
 |.builtin b=>FT T g newId b (c.args.toList.map (ev e)) c.argTypes.toList
 |_=>none
def jD(op:UnOp)(x:AV):Option Bw:=match op with
 |.not=>cm x
 |_=>none
def GM(f:Fn)(a b:List AV):Option Bw:=match f with
 |.func f=>some ⟨.fn f a b,[]⟩
 |_=>none
def GN:Option Operand→Option Bw
 |none=>some ⟨.mp (1::newId),[(1::newId,.map [])]⟩
 |some _=>none
def J6(t:TypeId)(x:AV):Option TI→Option Bw
 |some i=>match i.kind with
  |.iface=>none
  |_=>some ⟨.iface t x,[]⟩
 |none=>none
def Gd(x:AV)(lo hi mx:Option AV):Option TI→Option Bw
 |some i=>match i.kind,T i.elem with
  |.slice,some j=>(GU g .slice j.size x lo hi mx).map (⟨·,[]⟩)
  |.str,_=>(GU g .str 0 x lo hi mx).map (⟨·,[]⟩)
  |_,_=>none
 |none=>none
def evalOp(o:Op):Option Bw:=
 match o with
 |.move x=>some ⟨ev e x,[]⟩
 |.assign x=>some ⟨ev e x,[]⟩
 |.pick c a b=>MO (ev e c) (ev e a) (ev e b)
 |.alloc t=>Ih newId (T t)
 |.box t x=>O1 newId (ev e x) (T t)
 |.build t ps=>Ij (Dd e ps) (T t)
 |.buildSlice t n ps=>CJ T g newId n (Dd e ps) (T t)
 |.load t a=>J8 g (ev e a) (T t)
 |.store t a x=>HT g (ev e a) (ev e x) (T t)
 |.nilCheck x=>FO (ev e x)
 |.binOp op t x y _=>(da (Wh x||Wh y) op (ev e x) (ev e y) (T t)).map (⟨·,[]⟩)
 |.unOp op _ x=>jD op (ev e x)
 |.makeInterface t x=>J6 t (ev e x) (T t)
 |.typeAssert x _ t ok=>match ok with
  |true=>Gy t (ev e x) (T t)
  |false=>none
 |.makeFunc f first cap=>GM f (first.toList.map (ev e)) (cap.toList.map (ev e))
 |.makeMap _ r=>GN newId r
 |.insert t m k v=>mapPut T g (T t) (ev e m) (ev e k) (ev e v)
 |.mapUpdate t m k v=>mapPut T g (T t) (ev e m) (ev e k) (ev e v)
 |.lookup t m k ok=>Ef T g (ev e m) (ev e k) ok (T t)
 |.makeSlice t l c=>CR T g newId (ev e l) (ev e c) (T t)
 |.slice t x lo hi mx=>Gd T g (ev e x) (lo.map (ev e)) (hi.map (ev e)) (mx.map (ev e)) (T t)
 |.fieldAddr t x k=>Dt k (ev e x) (T t)
 |.field t x k=>Lf k (ev e x) (T t)
 |.indexAddr t x i=>Ck T g (ev e x) (ev e i) (T t)
 |.index t x i=>J7 (ev e x) (ev e i) (T t)
 |.extract x k=>Hi k (ev e x)
 |.call c=>JB T e g newId c
 |_=>none
end ops
structure Fr where
 f:FuncId
 π:List Nat
 raw:Bool
 bi:Option (List Nat)
 v6:Bool:=false
 nt:Nat
inductive Df where
 |mark (id:Id)
 |call (f:FuncId) (args:List AV)
structure St where
 env:CB
 heap:AB
 base:Nat
 defs:List Df
inductive zJ where
 |fn (f:FuncId)
 |round (id:Id) (r:Lp)
inductive Ae where
 |ret (v:AV)
 |em (v:AV)
inductive E(α:Type) where
 |ok (x:α)
 |err (l:List Nat)
abbrev AJ:=zJ→List AV→AB→List Nat→Bool→Option (List Nat)→E (Ae×AB)
structure Fp where
 rd:Option (List Id):=some []
 wr:Option (List Id):=some []
inductive Fx where
 |ok (st:St) (fp:Fp)
 |em (v:AV) (st:St)
 |err (l:List Nat)
mutual
def AD:AV→List Id
 |.d8 id _ _=>[id]
 |.ptr id _=>[id]
 |.ip id _ _=>[id]
 |.un id=>[id]
 |.mp id=>[id]
 |.iface _ v=>AD v
 |.agg cs=>A5 cs
 |.f8 vs=>A5 vs
 |.fn _ a b=>A5 a++A5 b
 |_=>[]
def A5:List AV→List Id
 |[]=>[]
 |v::vs=>AD v++A5 vs
end
def CX(g:G)(l:List Id):List Id:=l++l.flatMap fun id=>match g id with
 |some (.arr _ es)=>es.flatMap A5
 |_=>[]
def Dk(e:Nat→AV)(op:Op):List Id:=op.operands.toList.flatMap fun y=>AD (ev e y)
def FP(e:Nat→AV)(g:G)(op:Op):List Id:=match op with
 |.load ..=>Dk e op
 |.store ..=>Dk e op
 |.buildSlice ..=>Dk e op
 |.insert ..=>Dk e op
 |.mapUpdate ..=>Dk e op
 |.lookup ..=>Dk e op
 |.slice ..=>Dk e op
 |.indexAddr ..=>Dk e op
 |.call c=>match c.callee with
  |.builtin .len=>Dk e op
  |.builtin .clear=>Dk e op
  |.builtin .append=>CX g (Dk e op)
  |_=>[]
 |_=>[]
def JE(p:Option (List Nat))(δ:AB):Bool:=
 match p with
 |none=>true
 |some ρ=>δ.all fun x=>Id.under ρ x.1
def B8(e:CB)(dst:Option Tmp)(v:AV):CB:=
 match dst with
 |some t=>(t,v)::e
 |none=>e
def Vh{α:Type}(h δ:AB)(k:AB→α):α:=match δ with
 |[]=>k h
 |δ=>Fj (h.puts δ) k
def gc(ρ:List Nat)(h:AB):AB:=h.filter fun p=>match p.1 with
 |0::l=> !Id.under ρ l
 |_=>true
def EB(ρ:List Nat)(dst:Option Tmp)(st:St):E (Ae×AB)→Fx
 |.ok (.ret v,h)=>SK (B8 st.env dst v) fun env=>Fj (gc ρ h) fun heap=>.ok {st with env,heap} ⟨none,some (VZ st.heap heap)⟩
 |.ok (.em v,h)=>Fj (gc ρ h) fun heap=>.em v {st with heap}
 |.err l=>.err l
def Gf(fr:Fr)(as:List AV)(v:AV)(h:AB)(st:St)(env:CB):Fx:=
 match Ba v h with
 |some o=>Fj (o::st.heap) fun heap=>.ok {st with env,heap} ⟨some (CX st.heap.get (A5 as)),some [o.1]⟩
 |none=>
  QF (as.flatMap (mark st.heap.get)) fun δ=>
  match JE fr.bi δ with
  |true=>Fj (h++st.heap.puts δ) fun heap=>.ok {st with env,heap} ⟨some (CX st.heap.get (A5 as)),some (δ.map (·.1)++h.map (·.1))⟩
  |false=>.err [2]
def C3(fr:Fr)(as:List AV)(dst:Option Tmp)(st:St):E (Ae×AB)→Fx
 |.ok (.ret v,h)=>SK (B8 st.env dst v) fun env=>match flat v with
  |true=>.ok {st with env} ⟨some (CX st.heap.get (A5 as)),some []⟩
  |false=>Gf fr as v h st env
 |.ok (.em v,_)=>match flat v with
  |true=>.em v st
  |false=>.err [3]
 |.err l=>.err l
def Nj(dst:Option Tmp)(st:St):E (Ae×AB)→Fx
 |.ok (.ret v,_)=>match flat v with
  |true=>SK (B8 st.env dst v) fun env=>.ok {st with env} ⟨none,some []⟩
  |false=>.err [4]
 |.ok (.em v,_)=>match flat v with
  |true=>.em v st
  |false=>.err [3]
 |.err l=>.err l
def K9(g:G)(as:List AV):List AV:=as.map fun v=>(Di g v).getD v
def EZ(K:AJ)(fr:Fr)(ρ:List Nat)(f:FuncId)(as:List AV)(dst:Option Tmp)(st:St)(m:Mode):Fx:=
 Kb (K9 st.heap.get as) fun xs=>
 QF (as.flatMap (mark st.heap.get)) fun δ=>
 match m with
 |.ro=>Fj (st.heap.puts δ) fun heap=>Nj dst st (K (.fn f) xs heap ρ true (some ρ))
 |_=>
  match JE fr.bi δ with
  |true=>Fj (st.heap.puts δ) fun heap=>EB ρ dst st (K (.fn f) xs heap ρ true fr.bi)
  |false=>.err [2]
def DW(K:AJ)(fr:Fr)(ρ:List Nat)(f:FuncId)(as:List AV)(dst:Option Tmp)(st:St)(m:Mode):Fx:=
 match m with
 |.raw=>EB ρ dst st (K (.fn f) as st.heap ρ true fr.bi)
 |m=>match DM st.heap.get as with
  |some xs=>Kb xs fun xs=>C3 fr as dst st (K (.fn f) xs [] (match m with|.own=>ρ|_=>[]) false none)
  |none=>EZ K fr ρ f as dst st m
def Jn(K:AJ)(fr:Fr)(ρ:List Nat)(id:Id)(as:List AV)(dst:Option Tmp)(st:St):Fx:=
 match st.heap.get id with
 |some (.loop r)=>EB ρ dst st (K (.round id r) as st.heap ρ true fr.bi)
 |_=>.err [1]
def De(C:CA)(K:AJ)(fr:Fr)(ρ:List Nat)(fv:AV)(args:List AV)(dst:Option Tmp)(st:St):Fx:=
 match fv with
 |.un id=>Jn K fr ρ id args dst st
 |.fn f first cap=>Kb (first++args++cap) fun as=>DW K fr ρ f as dst st (C.mode f)
 |_=>.err [5]
def E3(C:CA)(K:AJ)(fr:Fr)(ρ:List Nat)(r:AV)(m:String)(args:List AV)(dst:Option Tmp)(st:St):Fx:=
 match r with
 |.iface t v=>match C.rx t m with
  |some f=>De C K fr ρ (.fn f [v] []) args dst st
  |none=>.err [7]
 |_=>.err [8]
def FC(st:St)(v:AV):Fx:=match flat v with
 |true=>match v with
  |.iface t u=>.em (.iface t u) st
  |_=>.err [9]
 |false=>.err [9]
def GX(fr:Fr)(e:Nat→AV)(c:Call)(dst:Option Tmp)(st:St):Fx:=match c.callee with
 |.value f=>match ev e f,fr.v6 with
  |.fn g [] [],false=>.ok {st with env:=B8 st.env dst .undef,defs:=.call g (c.args.toList.map (ev e))::st.defs} ⟨none,none⟩
  |_,_=>.err [10]
 |_=>.err [10]
def Cx(fr:Fr)(op:Op)(dst:Option Tmp)(st:St):Option Bw→Fx
 |some x=>zZ x.v fun v=>QF x.δ fun δ=>match JE fr.bi δ with
  |true=>SK (B8 st.env dst v) fun env=>Vh st.heap δ fun heap=>
   .ok {st with env,heap} ⟨some (FP st.env.get st.heap.get op),some (δ.map (·.1))⟩
  |false=>.err [11]
 |none=>.err [12]
def Ax(C:CA)(K:AJ)(fr:Fr)(ρ:List Nat)(op:Op)(dst:Option Tmp)(st:St):Fx:=
 match op with
 |.call c=>match c.callee with
  |.value f=>De C K fr ρ (ev st.env.get f) (c.args.toList.map (ev st.env.get)) dst st
  |.invoke r m=>E3 C K fr ρ (ev st.env.get r) m (c.args.toList.map (ev st.env.get)) dst st
  |.builtin _=>Cx fr op dst st (JB C.T st.env.get st.heap.get ρ c)
 |.panic x=>FC st (ev st.env.get x)
 |.defer c=>GX fr st.env.get c dst st
 |op=>Cx fr op dst st (evalOp C.T st.env.get st.heap.get ρ op)
def LX(ops:Array Oper)(e:CB)(o:Oper):Option Bool:=
 match o.guard with
 |none=>some true
 |some (j,want)=>match((ops[j]?).bind (·.dst)).map e.get with
  |some (.d (.bool b))=>some (b==want)
  |some (.f8 [])=>some false
  |_=>none
def B2(C:CA)(K:AJ)(fr:Fr)(ops:Array Oper)(ρ:List Nat)(o:Oper)(st:St):Fx:=
 match LX ops st.env o with
 |none=>.err [6]
 |some false=>SK (B8 st.env o.dst (.f8 [])) fun env=>.ok {st with env} {}
 |some true=>Ax C K fr ρ o.op o.dst st
def TR(fp:Fp):E ((Option AV×St)×List Fp)→E ((Option AV×St)×List Fp)
 |.ok (r,fps)=>.ok (r,fp::fps)
 |.err l=>.err l
def Cl(C:CA)(K:AJ)(fr:Fr)(ops:Array Oper)(b:Nat)(alone:Nat→Bool):List Oper→Nat→St→E ((Option AV×St)×List Fp)
 |[],_,st=>.ok ((none,st),[])
 |o::l,i,st=>HL (b+i) fun n=>match B2 C K fr ops (n::fr.π) o st with
  |.ok st' fp=>TR fp (Cl C K fr ops b alone l (i+1) st')
  |.em v st'=>match alone i with
   |true=>.ok ((some v,st'),[])
   |false=>.err [13,i]
  |.err l=>.err (i::l)
def apart(a b:Option (List Id)):Bool:=
 match a,b with
 |some [],_=>true
 |_,some []=>true
 |some l,some m=>l.all fun x=> !m.contains x
 |_,_=>false
def Fp.apart(a b:Fp):Bool:=Abs.apart a.wr b.rd&&Abs.apart a.rd b.wr&&Abs.apart a.wr b.wr
def DC(fps:List Fp)(l:List (Nat×Nat)):Bool:=
 l.all fun(i,j)=>match fps[i]?,fps[j]? with
  |some a,some b=>a.apart b
  |_,_=>true
inductive Dc where
 |normal
 |exit (id:Nat)
 |ret
 |em (v:AV)
def KH(l:List Id)(id:Id):List Id:=match l.any (Id.is id)with|true=>l|false=>l++[id]
def EN(l:List Id)(new:List Id):List Id:=new.foldl KH l
def H6:Option Obj→List Id
 |some (.box cs)=>A5 cs
 |some (.arr _ es)=>es.flatMap A5
 |some (.map es)=>es.flatMap fun p=>AD p.2
 |some (.loop r)=>r.env.flatMap fun p=>AD p.2
 |_=>[]
def Bp(h:AB):Nat→List Id→Nat→List Id
 |0,l,_=>l
 |n+1,l,i=>match l[i]? with
  |some id=>Bp h n (EN l (H6 (h.get id))) (i+1)
  |none=>l
def DB(π:List Nat):List Id→Nat→Id→Option Id
 |[],_,_=>none
 |x::r,n,id=>match Id.is x id with|true=>some ((match id with|0::_=>0|_=>1)::n::π)|false=>DB π r (n+1) id
mutual
def Lj(ν:Id→Option Id):AV→AV
 |.d8 id o n=>match ν id with|some id=>.d8 id o n|none=>.undef
 |.ptr id o=>match ν id with|some id=>.ptr id o|none=>.undef
 |.ip id i o=>match ν id with|some id=>.ip id i o|none=>.undef
 |.un id=>match ν id with|some id=>.un id|none=>.undef
 |.mp id=>match ν id with|some id=>.mp id|none=>.undef
 |.iface t v=>.iface t (Lj ν v)
 |.agg cs=>.agg (H8 ν cs)
 |.f8 vs=>.f8 (H8 ν vs)
 |.fn f a b=>.fn f (H8 ν a) (H8 ν b)
 |v=>v
def H8(ν:Id→Option Id):List AV→List AV
 |[]=>[]
 |v::vs=>Lj ν v::H8 ν vs
end
def H9(ν:Id→Option Id):Obj→Obj
 |.box cs=>.box (H8 ν cs)
 |.arr sz es=>.arr sz (es.map (H8 ν))
 |.map es=>.map (es.map fun p=>(p.1,Lj ν p.2))
 |.loop r=>.loop {r with env:=r.env.map fun p=>(p.1,Lj ν p.2)}
 |o=>o
def Cv(h:AB)(ν:Id→Option Id):List Id→AB
 |[]=>[]
 |id::r=>match h.get id,ν id with
  |some o,some id'=>(id',H9 ν o)::Cv h ν r
  |_,_=>Cv h ν r
def fSt{α:Type}(st:St)(k:St→α):α:=rn st.env fun env=>QF st.heap fun heap=>HL st.base fun base=>k {env,heap,base,defs:=st.defs}
def Ea(C:CA)(fr:Fr)(b:Nat)(st:St):St:=
 let e:=(C.live fr.f b).map fun t=>(t,st.env.get t)
 if fr.raw|| !st.defs.isEmpty then{st with env:=e}
 else
  let l:=Bp st.heap 1000 (EN [] (e.flatMap fun p=>AD p.2)) 0
  let ν:=DB fr.π l 0
  {env:=e.map fun p=>(p.1,Lj ν p.2),heap:=Cv st.heap ν l,base:=l.length,defs:=[]}
def KR:TypeDesc→Bool
 |.struct _=>true
 |.array ..=>true
 |_=>false
def G2:TypeDesc→TK
 |.bool=>.bool
 |.int _=>.int
 |.string=>.str
 |_=>.other
def N3(P:Program):Nat→List Field→Option (List TK)
 |_,[]=>some []
 |n,f::fs=>match(P.underlying f.type).map G2,(P.info? f.type).map (·.size),N3 P (n+1) fs with
  |some .bool,some 1,some ks=>if f.offset=n∧f.name≠ "_" then some (.bool::ks)else none
  |some .int,some 1,some ks=>if f.offset=n∧f.name≠ "_" then some (.int::ks)else none
  |some .str,some 1,some ks=>if f.offset=n∧f.name≠ "_" then some (.str::ks)else none
  |_,_,_=>none
def B1(P:Program)(t:TypeId):TypeDesc→TK
 |.bool=>.bool
 |.int _=>.int
 |.string=>.str
 |.func ..=>.func
 |.pointer _=>.ptr
 |.interface _=>.iface
 |.slice _=>.slice
 |.map ..=>.map
 |.array n _=>.arr n
 |.struct fs=>match N3 P 0 fs.toList with
  |some ks=>if P.stoodInHeld t=false∧P.eqGuardType P.depth t=false then .flat ks else .other
  |none=>.other
 |_=>.other
def Ke(P:Program):TypeDesc→List (Nat×Nat×Bool)
 |.struct fs=>fs.toList.map fun f=>(f.offset,((P.info? f.type).map (·.size)).getD 0,((P.underlying f.type).map KR).getD false)
 |_=>[]
def np:TypeDesc→Bool
 |.struct _=>true
 |_=>false
def JR(P:Program):TypeDesc→Bool
 |.struct fs=>fs.toList.all fun f=>(P.info? f.type).isSome&&(P.underlying f.type).isSome
 |_=>true
def QU:Value→Bool
 |.agg _=>true
 |_=>false
def GY:TypeDesc→TypeId
 |.slice e=>e
 |.map _ e=>e
 |.array _ e=>e
 |_=>0
def Tp:TypeDesc→TypeId
 |.map k _=>k
 |_=>0
def Bc(P:Program)(mix:List TypeId)(t:TypeId):Option TI:=
 match P.info? t,P.underlying t with
 |some i,some d=>match i.zero with
  |some z=>match Nat.ble i.bytes 65536&&JR P d&&Nat.beq z.cells.size i.size&&(QU z==KR d)with
   |true=>some {kind:=B1 P t d,size:=i.size,agg:=KR d,str:=np d,zero:=z.cells.toList.map Cw,wp:=Ke P d,elem:=GY d,key:=Tp d,mix:=mix.any (Nat.beq t)}
   |false=>none
  |none=>none
 |_,_=>none
def JY(C:CA)(f:FuncId)(id n base:Nat)(draw:Bool):E ((Option AV×St)×List Fp)→E (Dc×St)
 |.ok ((o,st'),fps)=>
  match !draw||DC fps (C.co f id)with
  |true=>HL (base+n) fun base=>match o with
   |none=>.ok (.normal,{st' with base})
   |some v=>.ok (.em v,{st' with base})
  |false=>.err [15,id]
 |.err l=>.err (id::l)
def DY(C:CA)(K:AJ)(fr:Fr)(id:Nat)(ops:Array Oper)(draw:Bool)(st:St):E (Dc×St):=
 JY C fr.f id ops.size st.base draw (Cl C K fr ops st.base (fun i=> !draw||C.alone fr.f id i) ops.toList 0 st)
def Fq(id:Nat):E (Dc×St)→E (Dc×St)
 |.ok (.exit id',st')=>match Nat.beq id' id with
  |true=>.ok (.normal,st')
  |false=>.ok (.exit id',st')
 |r=>r
def C2(y:St→E (Dc×St)):E (Dc×St)→E (Dc×St)
 |.ok (.normal,st')=>y st'
 |r=>r
def JM(c:AV)(x y:E (Dc×St)):E (Dc×St):=
 match c with
 |.d (.bool t)=>match t with
  |true=>x
  |false=>y
 |_=>.err [14]
def cp(st:St):Option Obj→E (Dc×St)
 |some (.loop r)=>match r.state with
  |.busy=>.err [16]
  |_=>match r.pm with
   |none=>.ok (.normal,st)
   |some .ret=>.ok (.ret,st)
   |some (.exit k)=>.ok (.exit k,st)
   |some _=>.err [38]
 |_=>.err [17]
def Ng(ρ ρ2:List Nat)(id:Id)(st1:St):E (Ae×AB)→E (Dc×St)
 |.ok (.ret _,h')=>Fj (gc ρ (gc ρ2 h')) fun heap=>cp {st1 with heap} (h'.get id)
 |.ok (.em v,h')=>Fj (gc ρ (gc ρ2 h')) fun heap=>.ok (.em v,{st1 with heap})
 |.err l=>.err l
def LH(K:AJ)(bi:Option (List Nat))(ρ:List Nat)(id:Id)(h:AB):AV→E (Ae×AB)
 |.fn f first cap=>Kb (first++[.un id]++cap) fun as=>K (.fn f) as h ρ true bi
 |_=>.err [18]
def JN(K:AJ)(fr:Fr)(g:Operand)(ps:Array Tmp)(jp body:Code)(st:St):E (Dc×St):=
 match fr.v6 with
 |true=>.err [37]
 |false=>
 HL st.base fun b=>
 Fj (st.heap.put (0::b::fr.π) (.loop {state:=.ready,pm:=none,f:=fr.f,env:=st.env,params:=ps.toList,jp:=jp,body:=body,nt:=fr.nt})) fun h=>
 HL (b+1) fun b1=>
 HL (b+2) fun base=>
 Ng (b::fr.π) (b1::fr.π) (0::b::fr.π) {st with heap:=h,base,defs:=.mark (0::b::fr.π)::st.defs}
  (LH K fr.bi (b1::fr.π) (0::b::fr.π) h (ev st.env.get g))
def BC(C:CA)(K:AJ)(fr:Fr):Nat→Nat→Code→St→E (Dc×St)
 |0,_,_,_=>.err [0]
 |n+1,b,c,st=>match c with
  |.skip=>.ok (.normal,st)
  |.label _=>.ok (.normal,st)
  |.seq x y=>C2 (BC C K fr n b y) (BC C K fr n b x st)
  |.cond c x y=>JM (ev st.env.get c) (BC C K fr n b x st) (BC C K fr n b y st)
  |.block id x=>Fq id (BC C K fr n id x st)
  |.loop x=>fSt (Ea C fr b st) fun st=>C2 (BC C K fr n b (.loop x)) (BC C K fr n b x st)
  |.exit id=>.ok (.exit id,st)
  |.ret=>.ok (.ret,st)
  |.region id ops draw=>DY C K fr id ops draw st
  |.rangeFunc g ps jp body=>JN K fr g ps jp body st
  |_=>.err [19]
def CN(C:CA)(st:St):ResultVar→Option AV
 |.tmp t=>some (st.env.get t)
 |.cell a t=>(C.T t).bind fun i=>H4 st.heap.get i (st.env.get a)
def Ln{α β:Type}(f:α→Option β):List α→Option (List β)
 |[]=>some []
 |x::l=>match f x,Ln f l with
  |some y,some m=>some (y::m)
  |_,_=>none
def Hj(C:CA)(fn:Func)(st:St):Option AV:=
 match Ln (CN C st) fn.results.toList with
 |some []=>some (.f8 [])
 |some [v]=>some v
 |some vs=>some (.f8 vs)
 |none=>none
def Cp(C:CA)(bi:Option (List Nat)):List Df→Option AV→AB→E (Option AV×AB)
 |[],p,h=>.ok (p,h)
 |.mark _::l,p,h=>Cp C bi l p h
 |.call f args::l,p,h=>match C.lc f,args with
  |some t,[.ptr id off]=>match p with
   |none=>Cp C bi l none h
   |some (.iface t' (.agg [.d (.int k n)]))=>match Nat.beq t' t&&JE bi [(id,.box [])]with
    |true=>match h.get id with
     |some (.box cs)=>match B9 cs off [.d (.int k n)]with
      |some cs'=>Cp C bi l none (h.put id (.box cs'))
      |none=>.err [20]
     |_=>.err [21]
    |false=>.err [22]
   |_=>.err [23]
  |_,_=>.err [24]
def Dn:Nat→List AV→CB
 |_,[]=>[]
 |n,v::vs=>(n,v)::Dn (n+1) vs
def Dp(e:CB):List Nat→List AV→Option CB
 |[],[]=>some e
 |t::ts,v::vs=>Dp ((t,v)::e) ts vs
 |_,_=>none
def Qk(C:CA)(f:FuncId)(fn:Func)(π:List Nat)(raw:Bool)(st:St):E (Option AV×AB)→E (Ae×AB)
 |.ok (none,h)=>match Hj C fn {st with heap:=h}with
  |some r=>zZ r fun r=>match raw with
   |true=>.ok (.ret r,h)
   |false=>match π with
    |[]=>match Uk h.get r with
     |some r'=>zZ r' fun r'=>.ok (.ret r',[])
     |none=>.err [26,f]
    |_=>.ok (.ret r,h)
  |none=>.err [27,f]
 |.ok (some v,h)=>.ok (.em v,h)
 |.err l=>.err (f::l)
def mU(C:CA)(bi:Option (List Nat))(f:FuncId)(fn:Func)(π:List Nat)(raw:Bool):E (Dc×St)→E (Ae×AB)
 |.ok (o,st)=>match o with
  |.ret=>Qk C f fn π raw st (Cp C bi st.defs none st.heap)
  |.normal=>Qk C f fn π raw st (Cp C bi st.defs none st.heap)
  |.em v=>Qk C f fn π raw st (Cp C bi st.defs (some v) st.heap)
  |_=>.err [28,f]
 |.err l=>.err (f::l)
def Nm(P:Program)(C:CA)(K:AJ)(fuel:Nat)(f:FuncId)(args:List AV)(h:AB)(π:List Nat)(raw:Bool)(bi:Option (List Nat)):E (Ae×AB):=
 match P.funcs[f]? with
 |some fn=>match fn.body with
  |some c=>match Nat.ble args.length fn.ntmps with
   |true=>mU C bi f fn π raw (BC C K {f,π,raw,bi,nt:=fn.ntmps} fuel 0 c {env:=Dn 0 args,heap:=h,base:=0,defs:=[]})
   |false=>.err [39,f]
  |none=>.err [29,f]
 |none=>.err [30,f]
def IA(id:Id)(h:AB)(r:Lp)(j:Option Code):E (Ae×AB):=
 .ok (.ret (.d (.bool j.isNone)),h.put id (.loop {r with state:=match j with|none=>.ready|some _=>.done,pm:=j}))
def X4(id:Id)(o:Dc)(h:AB):Option Obj→E (Ae×AB)
 |some (.loop r)=>match o with
  |.normal=>IA id h r none
  |.ret=>IA id h r (some .ret)
  |.exit k=>IA id h r (some (.exit k))
  |.em v=>.ok (.em v,h)
 |_=>.err [32]
def X3(id:Id):E (Dc×St)→E (Ae×AB)
 |.ok (o,st)=>match st.defs with
  |[]=>X4 id o st.heap (st.heap.get id)
  |_=>.err [31]
 |.err l=>.err (99::l)
def OO(C:CA)(K:AJ)(fuel:Nat)(id:Id)(r0:Lp)(π:List Nat)(bi:Option (List Nat))(st:St):Option Obj→E (Ae×AB)
 |some (.loop r)=>match r.state with
  |.ready=>Fj (st.heap.put id (.loop {r with state:=.busy})) fun heap=>
   X3 id (BC C K {f:=r0.f,π,raw:=true,bi,v6:=true,nt:=r0.nt} fuel 0 r0.body {st with heap})
  |_=>.err [36]
 |_=>.err [33]
def IB(C:CA)(K:AJ)(fuel:Nat)(id:Id)(r0:Lp)(π:List Nat)(bi:Option (List Nat)):E (Dc×St)→E (Ae×AB)
 |.ok (.normal,st)=>match st.defs,JE bi [(id,.box [])]with
  |[],true=>OO C K fuel id r0 π bi st (st.heap.get id)
  |_,_=>.err [40]
 |_=>.err [34]
def G0(C:CA)(K:AJ)(fuel:Nat)(id:Id)(r:Lp)(args:List AV)(h:AB)(π:List Nat)(bi:Option (List Nat)):E (Ae×AB):=
 match Dp r.env r.params args with
 |some e=>IB C K fuel id r π bi (BC C K {f:=r.f,π,raw:=true,bi,v6:=true,nt:=r.nt} fuel 0 r.jp {env:=e,heap:=h,base:=0,defs:=[]})
 |none=>.err [35]
def Gk(P:Program)(C:CA)(m:Nat):Nat→AJ
 |0=>fun _ _ _ _ _ _=>.err [25]
 |n+1=>fun t args h π raw bi=>match t with
  |.fn f=>match C.ii f with
   |true=>Nm P C (Gk P C m n) m f args h π raw bi
   |false=>.err [41,f]
  |.round id r=>match raw with
   |true=>G0 C (Gk P C m n) m id r args h π bi
   |false=>.err [42]
end Go.Abs
namespace Go.Abs
section
variable{α:Type}
@[simp] theorem HN(n:Nat)(k:Nat→α):HL n k=k n:=by cases n<;>rfl
@[simp] theorem zf(b:Bool)(k:Bool→α):vw b k=k b:=by cases b<;>rfl
@[simp] theorem AAS(n:Int)(k:Int→α):xC n k=k n:=by cases n<;>simp[xC]
@[simp] theorem zi(x:IntKind)(k:IntKind→α):v5 x k=k x:=by cases x<;>rfl
@[simp] theorem zj(l:List Nat)(k:List Nat→α):M6 l k=k l:=by
  induction l generalizing k with
  |nil=>rfl
  |cons n l ih=>simp[M6,ih]
@[simp] theorem AAQ(x:AU)(k:AU→α):eZ x k=k x:=by cases x<;>simp[eZ]
@[simp] theorem zh(l:List AU)(k:List AU→α):Vg l k=k l:=by
  induction l generalizing k with
  |nil=>rfl
  |cons n l ih=>simp[Vg,ih]
@[simp] theorem yy(l:List (List AU))(k:List (List AU)→α):N2 l k=k l:=by
  induction l generalizing k with
  |nil=>rfl
  |cons n l ih=>simp[N2,ih]
@[simp] theorem zg(x:AU)(k:AU→α):mb x k=k x:=by cases x<;>simp[mb,eZ]
@[simp] theorem AAO(x:AV)(k:AV→α):ma x k=k x:=by cases x<;>simp[ma]
@[simp] theorem za(l:List AV)(k:List AV→α):QE l k=k l:=by
  induction l generalizing k with
  |nil=>rfl
  |cons n l ih=>simp[QE,ih]
@[simp] theorem AAP(x:AV)(k:AV→α):Y9 x k=k x:=by
  unfold Y9;split<;>simp
@[simp] theorem BA(l:List AV)(k:List AV→α):Kb l k=k l:=by
  induction l generalizing k with
  |nil=>rfl
  |cons n l ih=>simp[Kb,ih]
@[simp] theorem Iy(x:AV)(k:AV→α):zZ x k=k x:=by
  unfold zZ;split<;>simp
@[simp] theorem zb(l:List (List AV))(k:List (List AV)→α):cV l k=k l:=by
  induction l generalizing k with
  |nil=>rfl
  |cons n l ih=>simp[cV,ih]
@[simp] theorem vz(l:List (AU×AV))(k:List (AU×AV)→α):M5 l k=k l:=by
  induction l generalizing k with
  |nil=>rfl
  |cons n l ih=>obtain⟨x,v⟩:=n;simp[M5,ih]
@[simp] theorem AAT(x:Obj)(k:Obj→α):xD x k=k x:=by cases x<;>simp[xD]
@[simp] theorem BW(l:AB)(k:AB→α):QF l k=k l:=by
  induction l generalizing k with
  |nil=>rfl
  |cons n l ih=>obtain⟨x,v⟩:=n;simp[QF,ih]
@[simp] theorem Ak(l:AB)(k:AB→α):Fj l k=k l:=by
  induction l generalizing k with
  |nil=>rfl
  |cons n l ih=>obtain⟨x,v⟩:=n;simp[Fj,ih]
@[simp] theorem AAR(l:CB)(k:CB→α):rn l k=k l:=by
  induction l generalizing k with
  |nil=>rfl
  |cons n l ih=>obtain⟨x,v⟩:=n;simp[rn,ih]
@[simp] theorem Aw(l:CB)(k:CB→α):SK l k=k l:=by cases l<;>rfl
@[simp] theorem Jv(st:St)(k:St→α):fSt st k=k st:=by simp[fSt]
@[simp] theorem Kc(h δ:AB)(k:AB→α):Vh h δ k=k (h.puts δ):=by
  cases δ<;>simp[Vh,AB.puts]
end
theorem Id.is_iff(a b:Id):Id.is a b=true↔a=b:=by
 induction a generalizing b with
 |nil=>cases b<;>simp[Id.is]
 |cons n l ih=>
  cases b with
  |nil=>simp[Id.is]
  |cons m k=>
   simp only[Id.is];split
   .rename_i h;have:n=m:=Co h;simp[ih,this]
   .rename_i h;have:n≠m:=fun h'=>by subst h';simp at h
    simp[this]
theorem Id.is_false_iff(a b:Id):Id.is a b=false↔a≠b:=by
 rw[←Lw,Id.is_iff]
@[simp] theorem Id.is_self(a:Id):Id.is a a=true:=(Id.is_iff a a).2 rfl
theorem Id.under_iff(ρ a:Id):Id.under ρ a=true↔ρ<:+a:=by
 induction a with
 |nil=>simp[Id.under,Id.is_iff]
 |cons n l ih=>
  simp only[Id.under];split
  .rename_i h;rw[Id.is_iff]at h;subst h;simp
  .rename_i h;rw[Id.is_false_iff]at h;rw[ih,He];simp[h]
@[simp] theorem AB.get_nil(id:Id):AB.get [] id=none:=rfl
theorem AB.get_cons(k:Id)(o:Obj)(h:AB)(id:Id):AB.get ((k,o)::h) id=if k=id then some o else h.get id:=by
 simp only[AB.get];split
 .rename_i h';rw[Id.is_iff]at h';simp[h']
 .rename_i h';rw[Id.is_false_iff]at h';simp[h']
theorem AB.get_put(h:AB)(id:Id)(o:Obj)(id':Id):(h.put id o).get id'=if id=id' then some o else h.get id':=by
 induction h with
 |nil=>simp[AB.put,AB.get_cons]
 |cons p h ih=>
  obtain⟨k,x⟩:=p;simp only[AB.put];split
  .rename_i h';rw[Id.is_iff]at h';subst h';simp[AB.get_cons];split<;>simp_all
  .rename_i h';rw[Id.is_false_iff]at h';simp only[AB.get_cons,ih];split
   .rename_i h1;subst h1;simp[Ne.symm h']
   .rfl
theorem AB.get_append(h h':AB)(id:Id):AB.get (h++h') id=(h.get id).or (h'.get id):=by
 induction h with
 |nil=>simp
 |cons p h ih=>
  obtain⟨k,x⟩:=p;simp only[Es,AB.get_cons,ih];split<;>simp
theorem CB.get_cons(k:Nat)(v:AV)(e:CB)(t:Nat):CB.get ((k,v)::e) t=if k=t then v else e.get t:=by
 simp only[CB.get];split
 .rename_i h;have:=Co h;simp[this]
 .rename_i h;have:k≠t:=fun h'=>by subst h';simp at h
  simp[this]
theorem AB.puts_nil(h:AB):h.puts []=h:=rfl
theorem AB.puts_cons(h:AB)(p:Id×Obj)(δ:AB):h.puts (p::δ)=(h.put p.1 p.2).puts δ:=rfl
theorem AB.puts_append(h δ δ':AB):h.puts (δ++δ')=(h.puts δ).puts δ':=by simp[AB.puts,List.foldl_append]
variable{A:Nat→Prop}
structure PJ where
 b:Nat
 sz:Nat
 n:Nat
abbrev Aj:=Id→Option PJ
inductive DR(w:World)(M:Nat→Prop):AU→Value→Prop
 |int (k n):DR w M (.int k n) (.int k n)
 |bool (b):DR w M (.bool b) (.bool b)
 |str (s):DR w M (.str s) (.string s)
 |qr:DR w M .qr (.pointer none)
 |i7:DR w M .i7 .nilFunc
 |i9:DR w M .i9 .nilIface
 |nl:DR w M .nl (.map none)
 |rg (a cap):DR w M (.be []) (.slice a 0 cap)
 |be (es:List (List AU)) (b off cap sz:Nat) (c:Array Value) (elem:TypeId) (fr:Nat×Nat):
  w.heap[b]? =some (.cells c elem fr)→ ¬M b→(∀e∈es,e.length=sz)→off+es.length*sz≤c.size→
  (∀i x v,es.flatten[i]? =some x→c[off+i]? =some v→DR w M x v)→es.length≤cap→DR w M (.be es) (.slice (some ⟨b,off,none⟩) es.length cap)
inductive VR(β:Aj)(w:World)(M:Nat→Prop):AV→Value→Prop
 |d {x v}:DR w M x v→VR β w M (.d x) v
 |ci:VR β w M .ci (.slice none 0 0)
 |emp (a):VR β w M .emp (.slice a 0 0)
 |d8 (id off len k a cap):β id=some k→off*k.sz+cap*k.sz=k.n→len≤cap→(a=some ⟨k.b,off*k.sz,none⟩∨cap=0)→
  VR β w M (.d8 id off len) (.slice a len cap)
 |ptr (id off k):β id=some k→VR β w M (.ptr id off) (.pointer (some ⟨k.b,off,none⟩))
 |ip (id i off k):β id=some k→VR β w M (.ip id i off) (.pointer (some ⟨k.b,i*k.sz+off,none⟩))
 |kw (cs b off c elem fr):w.heap[b]? =some (.cells c elem fr)→ ¬M b→off+cs.length≤c.size→
  (∀i x v,cs[i]? =some x→c[off+i]? =some v→DR w M x v)→VR β w M (.kw cs) (.pointer (some ⟨b,off,none⟩))
 |fn (f) (a b:List AV) (a' b':Array Value):a.length=a'.size→b.length=b'.size→(∀(i:Nat) (x:AV) (v:Value),a[i]? =some x→a'[i]? =some v→VR β w M x v)→
  (∀(i:Nat) (x:AV) (v:Value),b[i]? =some x→b'[i]? =some v→VR β w M x v)→VR β w M (.fn f a b) (.func (.func f) a' b')
 |un (id k):β id=some k→VR β w M (.un id) (.func (.yield k.b) #[] #[])
 |mp (id k):β id=some k→VR β w M (.mp id) (.map (some k.b))
 |iface (t v u):VR β w M v u→VR β w M (.iface t v) (.iface t u)
 |agg (cs:List AV) (c:Array Value):cs.length=c.size→(∀(i:Nat) (x:AV) (v:Value),cs[i]? =some x→c[i]? =some v→VR β w M x v)→VR β w M (.agg cs) (.agg c)
 |f8 (cs:List AV) (c:Array Value):cs.length=c.size→(∀(i:Nat) (x:AV) (v:Value),cs[i]? =some x→c[i]? =some v→VR β w M x v)→VR β w M (.f8 cs) (.tuple c)
 |undef (v):VR β w M .undef v
def FK(β:Aj)(w:World)(M:Nat→Prop)(cs:List AV)(c:Array Value):Prop:=
 cs.length=c.size∧ ∀(i:Nat) (x:AV) (v:Value),cs[i]? =some x→c[i]? =some v→VR β w M x v
def Obj.mut:Obj→Bool
 |.it ..=>false
 |_=>true
def MS(A:Nat→Prop)(β:Aj)(h:AB)(b:Nat):Prop:=A b∨ ∃id o k,h.get id=some o∧o.mut=true∧β id=some k∧k.b=b
def IK(β:Aj)(w:World)(M:Nat→Prop)(e:Nat→AV)(f:Nat→Value):Prop:= ∀t,VR β w M (e t) (f t)
def KQ(β:Aj)(w:World)(M:Nat→Prop)(k:PJ):Obj→Prop
 |.box cs=> ∃c elem,w.heap[k.b]? =some (.cells c elem (0,0))∧FK β w M cs c
 |.d6 sz es=> ∃c elem,w.heap[k.b]? =some (.cells c elem (0,0))∧sz=k.sz∧0<sz∧c.size=k.n∧(∀e∈es,e.length=sz)∧es.length*sz≤c.size∧
  ∀(i:Nat) (x:AU) (v:Value),es.flatten[i]? =some x→c[i]? =some v→DR w M x v
 |.it sz es=>es=[]∨(¬M k.b∧ ∃c elem fr,w.heap[k.b]? =some (.cells c elem fr)∧sz=k.sz∧0<sz∧c.size=k.n∧(∀e∈es,e.length=sz)∧es.length*sz≤c.size∧
  ∀(i:Nat) (x:AU) (v:Value),es.flatten[i]? =some x→c[i]? =some v→DR w M x v)
 |.arr sz es=> ∃c elem,w.heap[k.b]? =some (.cells c elem (0,0))∧sz=k.sz∧0<sz∧c.size=k.n∧(∀e∈es,e.length=sz)∧es.length*sz≤c.size∧
  ∀(i:Nat) (x:AV) (v:Value),es.flatten[i]? =some x→c[i]? =some v→VR β w M x v
 |.map es=> ∃entries clock,w.heap[k.b]? =some (.map entries clock)∧es.length=entries.size∧
  ∀(i:Nat) p e,es[i]? =some p→entries[i]? =some e→DR w M p.1 e.key∧VR β w M p.2 e.val
 |.loop r=> ∃l:Loop,w.heap[k.b]? =some (.loop l)∧l.state=r.state∧l.pending=r.pm∧l.fn=r.f∧l.params.toList=r.params∧l.assign=r.jp∧l.body=r.body∧l.tmps.size=r.nt∧
  IK β w M r.env.get fun t=>l.tmps.getD t Go.undef
structure HR(A:Nat→Prop)(β:Aj)(w:World)(h:AB):Prop where
 obj: ∀id o,h.get id=some o→ ∃k,β id=some k∧KQ β w (MS A β h) k o
 inj: ∀id id' o o' k k',h.get id=some o→h.get id'=some o'→o.mut=true→o'.mut=true→β id=some k→β id'=some k'→k.b=k'.b→id=id'
 ut: ∀id k,β id=some k→k.b<w.heap.size
 out: ∀id o k,h.get id=some o→o.mut=true→β id=some k→ ¬A k.b
 wn: ∀b,A b→b<w.heap.size
structure DU(A M:Nat→Prop)(w:World)(M':Nat→Prop)(w':World):Prop where
 ne: ∀b,b<w.heap.size→ ¬M b∨A b→w'.heap[b]? =w.heap[b]?
 size:w.heap.size≤w'.heap.size
 sub: ∀b,M' b→M b∨w.heap.size≤b
 io:w'.os=w.os∧w'.output=w.output:=by exact⟨rfl,rfl⟩
theorem DU.refl(M:Nat→Prop)(w:World):DU A M w M w:=⟨fun _ _ _=>rfl,El _,fun _ h=>.inl h,rfl,rfl⟩
variable{M M':Nat→Prop}{w w':World}
theorem DU.trans{M'':Nat→Prop}{w'':World}(h:DU A M w M' w')(h':DU A M' w' M'' w''):DU A M w M'' w'' where
 ne b hb hm:=by
  rw[h'.ne b (Li hb h.size) (hm.imp (fun hm hm'=>(h.sub b hm').elim hm (fun h=>by omega)) (fun h=>h)),h.ne b hb hm]
 size:=Hw h.size h'.size
 sub b hb:=by
  rcases h'.sub b hb with h1|h1
  .exact h.sub b h1
  .exact .inr (Hw h.size h1)
 io:=⟨h'.io.1.trans h.io.1,h'.io.2.trans h.io.2⟩
theorem DU.sub'(h:DU A M w M' w'){b:Nat}(hb:b<w.heap.size)(hm: ¬M b): ¬M' b:=
 fun hm'=>(h.sub b hm').elim hm (fun h=>by omega)
def Le(β β':Aj):Prop:= ∀id k,β id=some k→β' id=some k
theorem Le.refl(β:Aj):Le β β:=fun _ _ h=>h
variable{β':Aj}
theorem Le.trans{β β'':Aj}(h:Le β β')(h':Le β' β''):Le β β'':=fun id k x=>h' id k (h id k x)
theorem AL{b:Nat}{o:Go.Obj}(h:w.heap[b]? =some o):b<w.heap.size:=(HW.1 h).1
theorem DR.mono(hp:DU A M w M' w'){x:AU}{v:Value}(h:DR w M x v):DR w' M' x v:=by
 induction h with
 |int k n=>exact .int k n
 |bool b=>exact .bool b
 |str s=>exact .str s
 |qr=>exact .qr
 |i7=>exact .i7
 |i9=>exact .i9
 |nl=>exact .nl
 |rg a cap=>exact .rg a cap
 |be es b off cap sz c elem fr hb hm he hl _ hcap ih=>
  exact .be es b off cap sz c elem fr (by rw[hp.ne b (AL hb) (.inl hm)];exact hb) (hp.sub' (AL hb) hm) he hl ih hcap
theorem VR.mono{β:Aj}(hβ:Le β β')(hp:DU A M w M' w'){x:AV}{v:Value}(h:VR β w M x v):VR β' w' M' x v:=by
 induction h with
 |d h=>exact .d (h.mono hp)
 |ci=>exact .ci
 |emp a=>exact .emp a
 |d8 id off len k a cap hk hn hl ha=>exact .d8 id off len k a cap (hβ _ _ hk) hn hl ha
 |ptr id off k hk=>exact .ptr id off k (hβ _ _ hk)
 |ip id i off k hk=>exact .ip id i off k (hβ _ _ hk)
 |kw cs b off c elem fr hb hm hl hd=>
  exact .kw cs b off c elem fr (by rw[hp.ne b (AL hb) (.inl hm)];exact hb) (hp.sub' (AL hb) hm) hl fun i x v h1 h2=>(hd i x v h1 h2).mono hp
 |fn f a b a' b' h1 h2 _ _ ih1 ih2=>exact .fn f a b a' b' h1 h2 ih1 ih2
 |un id k hk=>exact .un id k (hβ _ _ hk)
 |mp id k hk=>exact .mp id k (hβ _ _ hk)
 |iface t v u _ ih=>exact .iface t v u ih
 |agg cs c h1 _ ih=>exact .agg cs c h1 ih
 |f8 cs c h1 _ ih=>exact .f8 cs c h1 ih
 |undef v=>exact .undef v
theorem FK.mono{β:Aj}(hβ:Le β β')(hp:DU A M w M' w'){x:List AV}{v:Array Value}(h:FK β w M x v):FK β' w' M' x v:=
 ⟨h.1,fun i x v h1 h2=>(h.2 i x v h1 h2).mono hβ hp⟩
theorem IK.mono{β:Aj}(hβ:Le β β')(hp:DU A M w M' w'){e:Nat→AV}{f:Nat→Value}(h:IK β w M e f):IK β' w' M' e f:=
 fun t=>(h t).mono hβ hp
variable{o:Obj}
theorem KQ.mono{β:Aj}(hβ:Le β β')(hp:DU A M w M' w'){k:PJ}(h:KQ β w M k o)(hlt:k.b<w.heap.size)
 (hk:w'.heap[k.b]? =w.heap[k.b]?):KQ β' w' M' k o:=by
 cases o with
 |box cs=>obtain⟨c,elem,h1,h2⟩:=h;exact⟨c,elem,hk▸h1,h2.mono hβ hp⟩
 |d6 sz es=>obtain⟨c,elem,h1,h2,h3,h4,h5,h6,h7⟩:=h;exact⟨c,elem,hk▸h1,h2,h3,h4,h5,h6,fun i x v a b=>(h7 i x v a b).mono hp⟩
 |it sz es=>
  rcases h with h|⟨hm,c,elem,fr,h1,h2,h3,h4,h5,h6,h7⟩
  .exact .inl h
  .exact .inr ⟨hp.sub' hlt hm,c,elem,fr,hk▸h1,h2,h3,h4,h5,h6,fun i x v a b=>(h7 i x v a b).mono hp⟩
 |arr sz es=>obtain⟨c,elem,h1,h2,h3,h4,h5,h6,h7⟩:=h;exact⟨c,elem,hk▸h1,h2,h3,h4,h5,h6,fun i x v a b=>(h7 i x v a b).mono hβ hp⟩
 |map es=>obtain⟨en,cl,h1,h2,h3⟩:=h;exact⟨en,cl,hk▸h1,h2,fun i p e a b=>⟨(h3 i p e a b).1.mono hp,(h3 i p e a b).2.mono hβ hp⟩⟩
 |loop r=>obtain⟨l,h1,h2,h3,h4,h5,h6,h7,h9,h8⟩:=h;exact⟨l,hk▸h1,h2,h3,h4,h5,h6,h7,h9,h8.mono hβ hp⟩
theorem HR.step{β:Aj}{h h':AB}(H:HR A β w h)(hβ:Le β β')(hp:DU A (MS A β h) w (MS A β' h') w')
 (hobj: ∀id o,h'.get id=some o→(h.get id=some o∧ ∀k,β id=some k→w'.heap[k.b]? =w.heap[k.b]?)∨ ∃k,β' id=some k∧KQ β' w' (MS A β' h') k o)
 (hinj: ∀id id' o o' k k',h'.get id=some o→h'.get id'=some o'→o.mut=true→o'.mut=true→β' id=some k→β' id'=some k'→k.b=k'.b→id=id')
 (hbnd: ∀id k,β' id=some k→k.b<w'.heap.size) (hout: ∀id o k,h'.get id=some o→o.mut=true→β' id=some k→ ¬A k.b):HR A β' w' h' where
 obj id o ho:=by
  rcases hobj id o ho with⟨h1,h2⟩|h1
  .obtain⟨k,hk,hr⟩:=H.obj id o h1;exact⟨k,hβ _ _ hk,hr.mono hβ hp (H.ut id k hk) (h2 k hk)⟩
  .exact h1
 inj:=hinj
 ut:=hbnd
 out:=hout
 wn b hb:=Li (H.wn b hb) hp.size
def Aj.put(β:Aj)(id:Id)(k:PJ):Aj:=fun x=>if x=id then some k else β x
theorem MH{β:Aj}{id:Id}{k:PJ}(h:β id=none):Le β (β.put id k):=fun x k' hx=>by
 unfold Aj.put;split
 .rename_i e;subst e;rw[h]at hx;cases hx
 .exact hx
@[simp] theorem E7(β:Aj)(id:Id)(k:PJ):β.put id k id=some k:=by simp[Aj.put]
theorem BX(β:Aj){id x:Id}(k:PJ)(h:x≠id):β.put id k x=β x:=by simp[Aj.put,h]
def World.add(w:World)(x:Go.Obj):World:={w with heap:=w.heap.push x}
theorem Jk(w:World)(x:Go.Obj):(World.add w x).heap[w.heap.size]? =some x:=by simp[World.add]
theorem HH(w:World)(x:Go.Obj){b:Nat}(h:b<w.heap.size):(World.add w x).heap[b]? =w.heap[b]? :=by
 simp[World.add,Mk,Nat.ne_of_lt h]
theorem Hp(w:World)(x:Go.Obj):(World.add w x).heap.size=w.heap.size+1:=by simp[World.add]
theorem kx{β:Aj}{h:AB}(H:HR A β w h){b:Nat}(hb:MS A β h b):b<w.heap.size:=by
 rcases hb with hb|⟨id,o,k,_,_,hk,rfl⟩
 .exact H.wn b hb
 .exact H.ut id k hk
theorem Qs{β:Aj}{w:World}{h:AB}(H:HR A β w h){id:Id}(x:Go.Obj){o:Obj}{k:PJ}(hk:k.b=w.heap.size):
 DU A (MS A β h) w (MS A (β.put id k) (h.put id o)) (World.add w x) where
 ne b hb _:=HH w x hb
 size:=by rw[Hp];omega
 sub b hb:=by
  rcases hb with hb|⟨id',o',k',ho,hm,hk',rfl⟩
  .exact .inl (.inl hb)
  by_cases e:id'=id
  .subst e;simp at hk';subst hk';exact .inr (by omega)
  .rw[BX β k e]at hk';rw[AB.get_put,D3 (Ne.symm e)]at ho;exact .inl (.inr ⟨id',o',k',ho,hm,hk',rfl⟩)
theorem HR.add{β:Aj}{w:World}{h:AB}(H:HR A β w h){id:Id}(hid:β id=none){x:Go.Obj}{o:Obj}{k:PJ}(hk:k.b=w.heap.size)
 (ho:KQ (β.put id k) (World.add w x) (MS A (β.put id k) (h.put id o)) k o):HR A (β.put id k) (World.add w x) (h.put id o):=by
 refine H.step (MH hid) (Qs H x hk) ?_ ?_ ?_ ?_
 .intro id' o' hg;rw[AB.get_put]at hg;split at hg
  .rename_i e;subst e;cases hg;exact .inr ⟨k,by simp,ho⟩
  .exact .inl ⟨hg,fun k' hk'=>HH w x (H.ut _ _ hk')⟩
 .intro a b oa ob ka kb ha hb hma hmb hka hkb e;rw[AB.get_put]at ha hb;by_cases ea:a=id<;>by_cases eb:b=id
  .rw[ea,eb]
  .subst ea;simp at hka;subst hka;rw[BX β _ eb]at hkb;have:=H.ut _ _ hkb;omega
  .subst eb;simp at hkb;subst hkb;rw[BX β _ ea]at hka;have:=H.ut _ _ hka;omega
  .rw[BX β _ ea]at hka;rw[BX β _ eb]at hkb;rw[D3 (Ne.symm ea)]at ha;rw[D3 (Ne.symm eb)]at hb;exact H.inj a b oa ob ka kb ha hb hma hmb hka hkb e
 .intro a ka hka;rw[Hp];by_cases ea:a=id
  .subst ea;simp at hka;subst hka;omega
  .rw[BX β _ ea]at hka;have:=H.ut _ _ hka;omega
 .intro a oa ka ha hma hka hA;rw[AB.get_put]at ha;by_cases ea:a=id
  .subst ea;simp at hka;subst hka;have:=H.wn _ hA;omega
  .rw[BX β _ ea]at hka;rw[D3 (Ne.symm ea)]at ha;exact H.out a oa ka ha hma hka hA
def World.f9(w:World)(b:Nat)(x:Go.Obj):World:={w with heap:=w.heap.setIfInBounds b x}
theorem Gh{b:Nat}(x:Go.Obj)(h:b<w.heap.size):(World.f9 w b x).heap[b]? =some x:=by simp[World.f9,h]
theorem EC{b b':Nat}(x:Go.Obj)(h:b'≠b):(World.f9 w b x).heap[b']? =w.heap[b']? :=by
 simp[World.f9,Is,Ne.symm h]
theorem EH(w:World)(b:Nat)(x:Go.Obj):(World.f9 w b x).heap.size=w.heap.size:=by simp[World.f9]
theorem Rv{β:Aj}{h:AB}{id:Id}{o o':Obj}(ho:h.get id=some o)(hm:o.mut=true){b:Nat}(hb:MS A β (h.put id o') b):MS A β h b:=by
 rcases hb with hb|⟨id',o1,k,h1,h2,h3,rfl⟩
 .exact .inl hb
 rw[AB.get_put]at h1;split at h1
 .rename_i e;subst e;exact .inr ⟨id,o,k,ho,hm,h3,rfl⟩
 .exact .inr ⟨id',o1,k,h1,h2,h3,rfl⟩
variable{o':Obj}
theorem Fs{β:Aj}{h:AB}(H:HR A β w h){id:Id}{k:PJ}(ho:h.get id=some o)(hm:o.mut=true)(hk:β id=some k)(x:Go.Obj):
 DU A (MS A β h) w (MS A β (h.put id o')) (World.f9 w k.b x) where
 ne b _ hb:=EC x fun e=>hb.elim (fun hb=>hb (.inr ⟨id,o,k,ho,hm,hk,e.symm⟩)) (fun hb=>H.out id o k ho hm hk (e▸hb))
 size:=by rw[EH];omega
 sub b hb:=.inl (Rv ho hm hb)
theorem HR.f9{β:Aj}{w:World}{h:AB}(H:HR A β w h){id:Id}{k:PJ}{o o':Obj}(ho:h.get id=some o)(hm:o.mut=true)(hk:β id=some k){x:Go.Obj}
 (hr:KQ β (World.f9 w k.b x) (MS A β (h.put id o')) k o')
 (hfro: ∀id' sz es k',h.get id'=some (.it sz es)→β id'=some k'→k'.b=k.b→es=[]):HR A β (World.f9 w k.b x) (h.put id o'):=by
 refine H.step (.refl β) (Fs H ho hm hk x) ?_ ?_ ?_ ?_
 .intro id' o1 hg;rw[AB.get_put]at hg;split at hg
  .rename_i e;subst e;cases hg;exact .inr ⟨k,hk,hr⟩
  .rename_i e;obtain⟨k',hk',hr'⟩:=H.obj id' o1 hg;by_cases eb:k'.b=k.b
   .cases hm':o1.mut with
    |true=>exact absurd (H.inj id id' o o1 k k' ho hg hm hm' hk hk' eb.symm) e
    |false=>
     cases o1 with
     |it sz es=>
      have:=hfro id' sz es k' hg hk' eb;exact .inr ⟨k',hk',.inl this⟩
     |_=>simp[Obj.mut]at hm'
   .exact .inl ⟨hg,fun k2 hk2=>by rw[hk']at hk2;cases hk2;exact EC x eb⟩
 .intro a b oa ob ka kb ha hb hma hmb hka hkb e;rw[AB.get_put]at ha hb;have get': ∀{y:Id} {oy:Obj},(if id=y then some o' else h.get y)=some oy→oy.mut=true→ ∃oz,h.get y=some oz∧oz.mut=true:=by
   intro y oy hy hmy;split at hy
   .rename_i e;subst e;exact⟨o,ho,hm⟩
   .exact⟨oy,hy,hmy⟩
  obtain⟨oa',h1,h2⟩:=get' ha hma;obtain⟨ob',h3,h4⟩:=get' hb hmb;exact H.inj a b oa' ob' ka kb h1 h3 h2 h4 hka hkb e
 .intro a ka hka;rw[EH];exact H.ut a ka hka
 .intro a oa ka ha hma hka;rw[AB.get_put]at ha;split at ha
  .rename_i e;subst e;exact H.out _ _ _ ho hm hka
  .exact H.out a oa ka ha hma hka
theorem HR.it{β:Aj}{h:AB}(H:HR A β w h){id id':Id}{k k':PJ}(ho:h.get id=some o)(hm:o.mut=true)(hk:β id=some k){sz:Nat}{es:List (List AU)}
 (hf:h.get id'=some (.it sz es)) (hk':β id'=some k') (e:k'.b=k.b):es=[]:=by
 obtain⟨k2,hk2,hr⟩:=H.obj id' _ hf;rw[hk']at hk2;cases hk2;rcases hr with h1|⟨h1,_⟩
 .exact h1
 .exact absurd (.inr ⟨id,o,k,ho,hm,hk,e.symm⟩) h1
theorem HR.upd'{β:Aj}{h:AB}(H:HR A β w h){id:Id}{k:PJ}(ho:h.get id=some o)(hm:o.mut=true)(hk:β id=some k){x:Go.Obj}
 (hr:KQ β (World.f9 w k.b x) (MS A β (h.put id o')) k o'):HR A β (World.f9 w k.b x) (h.put id o'):=
 H.f9 ho hm hk hr fun _ _ _ _ h1 h2 h3=>H.it ho hm hk h1 h2 h3
theorem pb{β:Aj}{h:AB}{id:Id}(ho:h.get id=some o)(hm:o.mut=true):
 DU A (MS A β h) w (MS A β (h.put id o')) w:=⟨fun _ _ _=>rfl,El _,fun _ hb=>.inl (Rv ho hm hb),rfl,rfl⟩
theorem HR.kill{β:Aj}{w:World}{h:AB}(H:HR A β w h){id:Id}{o:Obj}(ho:h.get id=some o)(hm:o.mut=true):HR A β w (h.put id (.it 0 [])):=by
 obtain⟨k,hk,_⟩:=H.obj id _ ho;refine H.step (.refl β) (pb ho hm) ?_ ?_ H.ut ?_
 .intro id' o1 hg;rw[AB.get_put]at hg;split at hg
  .rename_i e;subst e;cases hg;exact .inr ⟨k,hk,.inl rfl⟩
  .exact .inl ⟨hg,fun _ _=>rfl⟩
 .intro a b oa ob ka kb ha hb hma hmb hka hkb e;rw[AB.get_put]at ha hb;have get': ∀{y:Id} {oy:Obj},(if id=y then some (Obj.it 0 [])else h.get y)=some oy→oy.mut=true→ ∃oz,h.get y=some oz∧oz.mut=true:=by
   intro y oy hy hmy;split at hy
   .cases hy;simp[Obj.mut]at hmy
   .exact⟨oy,hy,hmy⟩
  obtain⟨oa',h1,h2⟩:=get' ha hma;obtain⟨ob',h3,h4⟩:=get' hb hmb;exact H.inj a b oa' ob' ka kb h1 h3 h2 h4 hka hkb e
 .intro a oa ka ha hma hka;rw[AB.get_put]at ha;split at ha
  .cases ha;cases hma
  .exact H.out a oa ka ha hma hka
end Go.Abs
