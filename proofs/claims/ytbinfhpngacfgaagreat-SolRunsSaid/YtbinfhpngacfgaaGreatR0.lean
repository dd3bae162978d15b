/- P -/
import Derived.CallsIn
import Derived.DefersIn
import Derived.RangeFuncLeaves
set_option linter.all false
namespace Go
def zFo{p:Prop}(h:p:=by cases x<;>rfl):p:=h
end Go
namespace Go
def zBh{p:Prop}(h:p:=by cases b<;>simp[AV.same]at h;rw[Id.is_eq h.1,h.2.1,h.2.2]):p:=h
end Go
namespace Go
def AM:=@Bool.false_eq_true
def AP:=@Bool.and_eq_true
def AS:=@List.mem_of_getElem?
def Ac:=@List.mem_singleton
def Ap:=@decide_eq_true_eq
def As:=@List.length_map
def BE:=@List.map_append
def BI:=@List.eq_nil_of_length_eq_zero
def BV:=@List.getElem?_eq_some_iff
def BY:=@List.map_nil
def Be:=@List.length_append
def Bi:=@List.take_of_length_le
def Bv:=@Option.map_eq_some_iff
def By:=@List.map_cons
def CE:=@List.nil_append
def CI:=@List.append_nil
def CO:=@List.getElem?_eq_getElem
def CS:=@List.mem_flatMap
def Ce:=@List.getElem?_append_left
def Ci:=@if_neg
def Co:=@Option.some.injEq
def Cs:=@List.cons_append
def DL:=@decide_eq_false
def DO:=@List.append_assoc
def Dl:=@Bool.false_and
def D0:=@List.mem_cons
def D1:=@List.getElem?_append_right
def D2:=@List.take_length
def D3:=@List.all_eq_true
def D4:=@if_pos
def D5:=@List.map_eq_nil_iff
def D6:=@decide_eq_true
def D7:=@List.getElem?_map
def D8:=@Nat.eq_of_beq_eq_true
def D9:=@List.all_cons
def EL:=@List.mem_append
def EM:=@List.flatMap_cons
def EX:=@List.drop_eq_nil_of_le
def Es:=@Nat.le_refl
def Ex:=@Array.getElem?_eq_getElem
def FD:=@Bool.true_and
def FN:=@if_false
def F0:=@List.mem_cons_of_mem
def F1:=@List.mem_map
def F2:=@List.length_take
def F3:=@Option.map_some
def F4:=@List.getElem?_cons_zero
def F5:=@List.suffix_cons
def F6:=@if_true
def F7:=@Int.toNat_natCast
def F8:=@List.mem_cons_self
def F9:=@Prod.mk.injEq
def GC:=@List.take_add_one
def GO:=@Option.getD_some
def GS:=@List.getElem?_cons_succ
def Gc:=@List.not_mem_nil
def Ge:=@Nat.le_of_ble_eq_true
def Gs:=@Array.getD_eq_getD_getElem?
def Gt:=@Bool.and_false
def HE:=@forall_eq_or_imp
def HM:=@Nat.mul_le_mul_right
def HU:=@List.mem_append_right
def HW:=@Bool.not_eq_true'
def He:=@List.flatMap_nil
def Hm:=@List.getElem?_drop
def Hw:=@List.mem_append_left
def ID:=@List.take_append_of_le_length
def IF:=@List.getElem?_set
def II:=@List.getElem?_of_mem
def IN:=@Option.bind_eq_some_iff
def IP:=@Nat.le_trans
def IS:=@Array.getElem?_toList
def IT:=@Nat.add_mul
def Ii:=@List.length_drop
def Io:=@Array.getElem?_eq_some_iff
def Ip:=@Option.some.inj
def Is:=@List.suffix_cons_iff
def It:=@Nat.zero_le
def I0:=@List.length_singleton
def I1:=@Array.getElem?_setIfInBounds_ne
def I2:=@Option.bind_some
def I3:=@Option.get_some
def I4:=@Bool.false_or
def I5:=@Option.isSome_iff_exists
def I6:=@List.getElem?_take
def I7:=@List.length_replicate
def I8:=@Bool.or_eq_true
def I9:=@Nat.zero_add
def JP:=@List.map_set
def Jp:=@List.append_eq_nil_iff
def KW:=@Array.getElem?_setIfInBounds
def Kw:=@Nat.sub_self
def LC:=@List.getElem?_eq_none
def LI:=@Int.eq_ofNat_of_zero_le
def LM:=@Array.getElem?_append_left
def Lc:=@List.mem_of_mem_drop
def Li:=@List.take_succ
def Lm:=@Bool.not_eq_true
def Ls:=@List.flatMap_append
def Lt:=@or_false
def Lw:=@Nat.le_max_left
def MD:=@List.length_eq_zero_iff
def MK:=@List.mem_of_mem_take
def MP:=@List.nodup_append
def MT:=@List.flatten_append
def Md:=@Bool.and_true
def Mk:=@List.take_append_drop
def Mp:=@List.foldl_cons
def Ms:=@List.cons.injEq
def Mt:=@Array.eq_empty_of_size_eq_zero
def NL:=@Nat.lt_of_lt_of_le
def NO:=@Nat.le_max_right
def Nl:=@List.mem_flatten
def No:=@List.getElem_mem
def OF:=@List.drop_append_of_le_length
def OK:=@List.map_take
def OL:=@Bool.and_self
def ON:=@List.flatten_cons
def OP:=@Bool.eq_iff_iff
def OS:=@Array.length_toList
def Of:=@Array.getElem?_push
def Ok:=@List.mem_iff_getElem?
def Ol:=@List.map_replicate
def On:=@List.getElem?_toArray
def PI:=@Bool.not_true
def PL:=@Array.ext_getElem?
def PM:=@Bool.not_false
def PU:=@List.drop_eq_nil_iff
def Pl:=@List.eq_of_mem_replicate
def Pm:=@Nat.mul_comm
def Pp:=@List.map_drop
def Pu:=@Int.toNat_of_nonneg
def QR:=@List.mem_range
def Qr:=@Nat.ne_of_beq_eq_false
def RC:=@Nat.add_sub_cancel
def RD:=@Array.getElem?_map
def RG:=@Nat.ble_eq_true_of_le
def RS:=@List.mem_filter
def RT:=@List.all_nil
def RW:=@Bool.and_eq_false_iff
def RX:=@Array.mem_of_getElem?
def Rc:=@Nat.add_assoc
def Rd:=@List.size_toArray
def Rg:=@List.exists_cons_of_ne_nil
def Ro:=@List.set_append_left
def Rs:=@List.mem_iff_getElem
def Rt:=@List.take_zero
def Rw:=@List.filter_cons
def Rx:=@List.replicate_succ
def SP:=@Array.size_setIfInBounds
def S1:=@decide_eq_false_iff_not
def TO:=@List.getElem?_replicate
def TY:=@List.filter_append
def To:=@List.cons.inj
def Ty:=@List.all_append
def T0:=@List.drop_of_length_le
def T1:=@Array.size_append
def T2:=@Nat.succ_mul
def T6:=@Bool.or_true
def T7:=@List.map_flatten
def T8:=@List.drop_length
def UL:=@List.any_eq_true
def UN:=@Nat.mod_lt
def UP:=@Nat.blt_eq
def US:=@true_and
end Go
namespace Go
variable{p:Prop}
def AA(h:p:=by omega):p:=h
def AG(h:p:=by simp):p:=h
def AZ(h:p:=by decide):p:=h
def Bw(h:p:=by assumption):p:=h
def Aa(h:p:=by simp;omega):p:=h
def AU(h:p:=by dsimp only;omega):p:=h
def BH(h:p:=by simp[AE]):p:=h
def DE(h:p:=by simp[Op.operands]):p:=h
def AFz(h:p:=by rfl):p:=h
end Go
namespace Go.Abs
inductive Al where
 |int (k:IntKind) (n:Int)
 |bool (b:Bool)
 |str (s:ByteArray)
 |bv (es:List (List Al))
 |wl|kw|rc|wd
abbrev Id:=List Nat
def Id.is:Id->Id->Bool
 |[],[]=>true
 |n::l,m::k=>match Nat.beq n m with
  |true=>Id.is l k
  |false=>false
 |_,_=>false
def Id.under(ρ:Id):Id->Bool
 |[]=>Id.is ρ []
 |n::l=>match Id.is ρ (n::l)with
  |true=>true
  |false=>Id.under ρ l
inductive AV where
 |d (x:Al)
 |d7
 |emp
 |f8 (id:Id) (off len:Nat)
 |ptr (id:Id) (off:Nat)
 |jp (id:Id) (i off:Nat)
 |rg (cs:List Al)
 |fn (f:FuncId) (first cap:List AV)
 |wt (id:Id)
 |mp (id:Id)
 |iface (t:TypeId) (v:AV)
 |agg (cs:List AV)
 |ii (vs:List AV)
 |undef
abbrev CA:=List (Nat×AV)
def CA.get:CA->Nat->AV
 |[],_=>.undef
 |(k,v)::e,t=>match Nat.beq k t with
  |true=>v
  |false=>CA.get e t
structure Lp where
 state:LoopState
 v6:Option Code
 f:FuncId
 env:CA
 params:List Nat
 of:Code
 body:Code
 nt:Nat
inductive Obj where
 |box (cs:List AV)
 |em (sz:Nat) (es:List (List Al))
 |i7 (sz:Nat) (es:List (List Al))
 |arr (sz:Nat) (es:List (List AV))
 |map (es:List (Al×AV))
 |loop (r:Lp)
abbrev AD:=List (Id×Obj)
def AD.get:AD->Id->Option Obj
 |[],_=>none
 |(k,o)::h,id=>match Id.is k id with
  |true=>some o
  |false=>AD.get h id
mutual
def Al.same:Al->Al->Bool
 |.int k n,.int k' m=>decide (k=k')&&decide (n=m)
 |.bool a,.bool b=>match a,b with
  |true,true=>true
  |false,false=>true
  |_,_=>false
 |.str a,.str b=>decide (a.data.toList=b.data.toList)
 |.bv a,.bv b=>Al.samess a b
 |.wl,.wl=>true
 |.kw,.kw=>true
 |.rc,.rc=>true
 |.wd,.wd=>true
 |_,_=>false
def Al.sames:List Al->List Al->Bool
 |[],[]=>true
 |x::l,y::m=>match Al.same x y with
  |true=>Al.sames l m
  |false=>false
 |_,_=>false
def Al.samess:List (List Al)->List (List Al)->Bool
 |[],[]=>true
 |x::l,y::m=>match Al.sames x y with
  |true=>Al.samess l m
  |false=>false
 |_,_=>false
end
mutual
def Al.same_eq: ∀{a b:Al},Al.same a b=true->a=b
 |.int k n,b,h=>by
  cases b<;>simp[Al.same]at h;rw[h.1,h.2]
 |.bool a,b,h=>by
  cases b<;>simp[Al.same]at h;rename_i b;cases a<;>cases b<;>simp at h<;>rfl
 |.str a,b,h=>by
  cases b<;>simp[Al.same]at h;rename_i b;cases a;cases b;simp at h;rw[h]
 |.bv a,b,h=>by
  cases b<;>simp[Al.same]at h;rw[Al.samess_eq h]
 |.wl,b,h=>by cases b<;>simp[Al.same]at h;rfl
 |.kw,b,h=>by cases b<;>simp[Al.same]at h;rfl
 |.rc,b,h=>by cases b<;>simp[Al.same]at h;rfl
 |.wd,b,h=>by cases b<;>simp[Al.same]at h;rfl
def Al.sames_eq: ∀{a b:List Al},Al.sames a b=true->a=b
 |[],b,h=>by cases b<;>simp[Al.sames]at h;rfl
 |x::l,[],h=>by simp[Al.sames]at h
 |x::l,y::m,h=>by
  unfold Al.sames at h;split at h
  .rename_i c;rw[Al.same_eq c,Al.sames_eq h]
  .cases h
def Al.samess_eq: ∀{a b:List (List Al)},Al.samess a b=true->a=b
 |[],b,h=>by cases b<;>simp[Al.samess]at h;rfl
 |x::l,[],h=>by simp[Al.samess]at h
 |x::l,y::m,h=>by
  unfold Al.samess at h;split at h
  .rename_i c;rw[Al.sames_eq c,Al.samess_eq h]
  .cases h
end
def Id.is_eq: ∀{a b:Id},Id.is a b=true->a=b
 |[],[],_=>rfl
 |[],_::_,h=>by simp[Id.is]at h
 |_::_,[],h=>by simp[Id.is]at h
 |n::l,m::k,h=>by
  unfold Id.is at h;split at h
  .rename_i c;rw[D8 c,Id.is_eq h]
  .cases h
mutual
def AV.same:AV->AV->Bool
 |.d x,.d y=>Al.same x y
 |.d7,.d7=>true
 |.emp,.emp=>true
 |.f8 i a b,.f8 j a' b'=>Id.is i j&&(Nat.beq a a'&&Nat.beq b b')
 |.ptr i a,.ptr j b=>Id.is i j&&Nat.beq a b
 |.jp i a b,.jp j a' b'=>Id.is i j&&(Nat.beq a a'&&Nat.beq b b')
 |.fn f a b,.fn g a' b'=>Nat.beq f g&&(AV.sames a a'&&AV.sames b b')
 |.wt i,.wt j=>Id.is i j
 |.mp i,.mp j=>Id.is i j
 |.iface t v,.iface u w=>Nat.beq t u&&AV.same v w
 |.agg l,.agg m=>AV.sames l m
 |.ii l,.ii m=>AV.sames l m
 |.undef,.undef=>true
 |_,_=>false
def AV.sames:List AV->List AV->Bool
 |[],[]=>true
 |x::l,y::m=>match AV.same x y with
  |true=>AV.sames l m
  |false=>false
 |_,_=>false
end
mutual
def AV.same_eq: ∀{a b:AV},AV.same a b=true->a=b
 |.d x,b,h=>by
  cases b<;>simp[AV.same]at h;rw[Al.same_eq h]
 |.agg l,b,h=>by
  cases b<;>simp[AV.same]at h;rw[AV.sames_eq h]
 |.ii l,b,h=>by
  cases b<;>simp[AV.same]at h;rw[AV.sames_eq h]
 |.d7,b,h=>by cases b<;>simp[AV.same]at h;rfl
 |.emp,b,h=>by cases b<;>simp[AV.same]at h;rfl
 |.undef,b,h=>by cases b<;>simp[AV.same]at h;rfl
 |.f8 ..,b,h=>by
  exact zBh
 |.ptr ..,b,h=>by
  cases b<;>simp[AV.same]at h;rw[Id.is_eq h.1,h.2]
 |.jp ..,b,h=>by
  exact zBh
 |.rg _,b,h=>by simp[AV.same]at h
 |.fn f a c,b,h=>by
  cases b<;>simp[AV.same]at h;rw[h.1,AV.sames_eq h.2.1,AV.sames_eq h.2.2]
 |.wt _,b,h=>by
  cases b<;>simp[AV.same]at h;rw[Id.is_eq h]
 |.mp _,b,h=>by
  cases b<;>simp[AV.same]at h;rw[Id.is_eq h]
 |.iface t v,b,h=>by
  cases b<;>simp[AV.same]at h;rw[h.1,AV.same_eq h.2]
def AV.sames_eq: ∀{a b:List AV},AV.sames a b=true->a=b
 |[],b,h=>by cases b<;>simp[AV.sames]at h;rfl
 |x::l,[],h=>by simp[AV.sames]at h
 |x::l,y::m,h=>by
  unfold AV.sames at h;split at h
  .rename_i c;rw[AV.same_eq c,AV.sames_eq h]
  .cases h
end
def Obj.same:Obj->Option Obj->Bool
 |.box l,some (.box m)=>AV.sames l m
 |.em a l,some (.em b m)=>Nat.beq a b&&Al.samess l m
 |.i7 a l,some (.i7 b m)=>Nat.beq a b&&Al.samess l m
 |_,_=>false
def Obj.same_eq{a:Obj}{b:Option Obj}(h:Obj.same a b=true):b=some a:=by
 unfold Obj.same at h;split at h
 .rw[AV.sames_eq h]
 .simp only[AP]at h;rw[D8 h.1,Al.samess_eq h.2]
 .simp only[AP]at h;rw[D8 h.1,Al.samess_eq h.2]
 .cases h
def W7(h h':AD):List Id:=((h++h').filter fun p=>match h.get p.1 with
 |some o=> !Obj.same o (h'.get p.1)
 |none=>true).map (·.1)
def AD.get_mem: ∀{h:AD} {id:Id} {o:Obj},h.get id=some o->(id,o)∈h
 |[],_,_,a=>by cases a
 |(k,o')::h,id,o,a=>by
  unfold AD.get at a;split at a
  .rename_i b;cases a;rw[Id.is_eq b];simp
  .exact F0 _ (AD.get_mem a)
theorem mm{h h':AD}{id:Id}(c:id∉W7 h h'):h'.get id=h.get id:=by
 have key: ∀o,(id,o)∈h++h'->h'.get id=h.get id:=fun o e=>by
  have: ¬(match h.get id with|some o=> !Obj.same o (h'.get id)|none=>true)=true:=fun b=>
   c (F1.2 ⟨(id,o),RS.2 ⟨e,b⟩,rfl⟩)
  split at this
  .rename_i f h2;rw[h2];exact Obj.same_eq (by simpa using this)
  .exact absurd rfl this
 cases a:h.get id with
 |some o=>rw[<-a];exact key o (Hw _ (AD.get_mem a))
 |none=>cases h2:h'.get id with
  |some o=>rw[<-a,<-h2];exact key o (HU _ (AD.get_mem h2))
  |none=>rfl
def AD.put:AD->Id->Obj->AD
 |[],id,o=>[(id,o)]
 |(k,x)::h,id,o=>match Id.is k id with
  |true=>(k,o)::h
  |false=>(k,x)::AD.put h id o
def AD.puts(h:AD)(δ:AD):AD:=δ.foldl (fun h p=>h.put p.1 p.2) h
inductive TK where
 |bool|int|str|func|ptr|iface|slice|map|other
 |flat (ks:List TK)
 |arr (n:Nat)
structure TI where
 kind:TK
 size:Nat
 agg:Bool
 str:Bool
 zero:List AV
 flds:List (Nat×Nat×Bool)
 elem:TypeId
 key:TypeId
 mix:Bool
inductive Mode where
 |auto|own|raw|ro
 deriving DecidableEq
structure DJ where
 T:TypeId->Option TI
 mode:FuncId->Mode
 live:FuncId->Nat->List Nat
 d9:FuncId->Nat->List (Nat×Nat)
 alone:FuncId->Nat->Nat->Bool
 rx:FuncId->Option TypeId
 meth:TypeId->String->Option FuncId
 i9:FuncId->Bool
def EJ:Value->AV
 |.int k n=>.d (.int k n)
 |.bool b=>.d (.bool b)
 |.string s=>.d (.str s)
 |.slice none 0 0=>.d7
 |.pointer none=>.d .wl
 |.nilFunc=>.d .kw
 |.nilIface=>.d .rc
 |.map none=>.d .wd
 |_=>.undef
def ev(e:Nat->AV):Operand->AV
 |.tmp t=>e t
 |.const v=>EJ v
 |.func f=>.fn f [] []
 |.global _=>.undef
def AV.cells:AV->List AV
 |.agg cs=>cs
 |v=>[v]
def AV.isCell:AV->Bool
 |.agg _=>false
 |.ii _=>false
 |.undef=>false
 |_=>true
def HH(agg:Bool)(cs:List AV):Option AV:=
 if agg then some (.agg cs)else match cs with
  |[c]=>some c
  |_=>none
def K2{α:Type}(l:List α)(off n:Nat):Option (List α):=
 if off+n<=l.length then some ((l.drop off).take n)else none
def Ck{α:Type}(l:List α)(off:Nat)(new:List α):Option (List α):=
 if off+new.length<=l.length then some (l.take off++new++l.drop (off+new.length))else none
structure C0 where
 v:AV
 δ:AD:=[]
abbrev G:=Id->Option Obj
def QG:Option Obj->Option (List (List AV))
 |some (.em _ es)=>some (es.map (·.map .d))
 |some (.i7 _ es)=>some (es.map (·.map .d))
 |some (.arr _ es)=>some es
 |_=>none
def Kk(g:G)(i:TI):AV->Option AV
 |.ptr id off=>match g id with
  |some (.box cs)=>(K2 cs off i.size).bind (HH i.agg)
  |_=>none
 |.jp id k off=>match g id with
  |some (.em _ es)=>match es[k]? with
   |some e=>(K2 e off i.size).bind fun ds=>HH i.agg (ds.map .d)
   |none=>none
  |some (.i7 _ es)=>match es[k]? with
   |some e=>(K2 e off i.size).bind fun ds=>HH i.agg (ds.map .d)
   |none=>none
  |some (.arr _ es)=>match es[k]? with
   |some e=>(K2 e off i.size).bind (HH i.agg)
   |none=>none
  |_=>none
 |.rg cs=>(K2 cs 0 i.size).bind fun ds=>HH i.agg (ds.map .d)
 |_=>none
section force
variable{α:Type}
def J9(n:Nat)(k:Nat->α):α:=match n with
 |0=>k 0
 |m+1=>k (Nat.succ m)
def hO(b:Bool)(k:Bool->α):α:=match b with
 |true=>k true
 |false=>k false
def WA(n:Int)(k:Int->α):α:=match n with
 |.ofNat m=>J9 m fun m=>k (.ofNat m)
 |.negSucc m=>J9 m fun m=>k (.negSucc m)
def YO(x:IntKind)(k:IntKind->α):α:=match x with
 |.i8=>k .i8|.i16=>k .i16|.i32=>k .i32|.i64=>k .i64
 |.u8=>k .u8|.u16=>k .u16|.u32=>k .u32|.u64=>k .u64
def QX(l:List Nat)(k:List Nat->α):α:=match l with
 |[]=>k []
 |n::l=>J9 n fun n=>QX l fun l=>k (n::l)
def nP(x:Al)(k:Al->α):α:=match x with
 |.int kd n=>YO kd fun kd=>WA n fun n=>k (.int kd n)
 |.bool b=>hO b fun b=>k (.bool b)
 |.str s=>k (.str s)
 |.bv es=>k (.bv es)
 |.wl=>k .wl
 |.kw=>k .kw
 |.rc=>k .rc
 |.wd=>k .wd
def aa(l:List Al)(k:List Al->α):α:=match l with
 |[]=>k []
 |x::l=>nP x fun x=>aa l fun l=>k (x::l)
def Rk(l:List (List Al))(k:List (List Al)->α):α:=match l with
 |[]=>k []
 |x::l=>aa x fun x=>Rk l fun l=>k (x::l)
def tS(x:Al)(k:Al->α):α:=match x with
 |.bv es=>Rk es fun es=>k (.bv es)
 |x=>nP x k
def tR(v:AV)(k:AV->α):α:=match v with
 |.d x=>tS x fun x=>k (.d x)
 |.d7=>k .d7
 |.emp=>k .emp
 |.f8 id off len=>QX id fun id=>J9 off fun off=>J9 len fun len=>k (.f8 id off len)
 |.ptr id off=>QX id fun id=>J9 off fun off=>k (.ptr id off)
 |.jp id i off=>QX id fun id=>J9 i fun i=>J9 off fun off=>k (.jp id i off)
 |.rg cs=>aa cs fun cs=>k (.rg cs)
 |.fn f a b=>J9 f fun f=>k (.fn f a b)
 |.wt id=>QX id fun id=>k (.wt id)
 |.mp id=>QX id fun id=>k (.mp id)
 |.iface t v=>J9 t fun t=>k (.iface t v)
 |.agg cs=>k (.agg cs)
 |.ii vs=>k (.ii vs)
 |.undef=>k .undef
def Ua(l:List AV)(k:List AV->α):α:=match l with
 |[]=>k []
 |x::l=>tR x fun x=>Ua l fun l=>k (x::l)
def fT(v:AV)(k:AV->α):α:=match v with
 |.agg cs=>Ua cs fun cs=>k (.agg cs)
 |.ii vs=>Ua vs fun vs=>k (.ii vs)
 |.fn f a b=>J9 f fun f=>Ua a fun a=>Ua b fun b=>k (.fn f a b)
 |.iface t v=>J9 t fun t=>tR v fun v=>k (.iface t v)
 |v=>tR v k
def Na(l:List AV)(k:List AV->α):α:=match l with
 |[]=>k []
 |x::l=>fT x fun x=>Na l fun l=>k (x::l)
def Hk(v:AV)(k:AV->α):α:=match v with
 |.ii vs=>Na vs fun vs=>k (.ii vs)
 |.agg cs=>Na cs fun cs=>k (.agg cs)
 |.iface t v=>J9 t fun t=>fT v fun v=>k (.iface t v)
 |v=>fT v k
def kM(l:List (List AV))(k:List (List AV)->α):α:=match l with
 |[]=>k []
 |x::l=>Na x fun x=>kM l fun l=>k (x::l)
def QW(l:List (Al×AV))(k:List (Al×AV)->α):α:=match l with
 |[]=>k []
 |(x,v)::l=>nP x fun x=>fT v fun v=>QW l fun l=>k ((x,v)::l)
def OB(o:Obj)(k:Obj->α):α:=match o with
 |.box cs=>Na cs fun cs=>k (.box cs)
 |.em sz es=>J9 sz fun sz=>Rk es fun es=>k (.em sz es)
 |.i7 sz es=>J9 sz fun sz=>Rk es fun es=>k (.i7 sz es)
 |.arr sz es=>J9 sz fun sz=>kM es fun es=>k (.arr sz es)
 |.map es=>QW es fun es=>k (.map es)
 |.loop r=>k (.loop r)
def Ub(h:AD)(k:AD->α):α:=match h with
 |[]=>k []
 |(id,o)::h=>QX id fun id=>OB o fun o=>Ub h fun h=>k ((id,o)::h)
def IG(h:AD)(k:AD->α):α:=match h with
 |[]=>k []
 |(id,o)::h=>IG h fun h=>k ((id,o)::h)
def y7(e:CA)(k:CA->α):α:=match e with
 |[]=>k []
 |(t,v)::e=>J9 t fun t=>fT v fun v=>y7 e fun e=>k ((t,v)::e)
def XF(e:CA)(k:CA->α):α:=match e with
 |[]=>k []
 |p::e=>k (p::e)
end force
def FQ(g:G):AV->Option Al
 |.d x=>some x
 |.d7=>some (.bv [])
 |.emp=>some (.bv [])
 |.f8 id off n=>match g id with
  |some (.em _ es)=>(K2 es off n).map .bv
  |some (.i7 _ es)=>(K2 es off n).map .bv
  |_=>none
 |_=>none
def C6(g:G):List AV->Option (List Al)
 |[]=>some []
 |v::vs=>match FQ g v,C6 g vs with
  |some x,some xs=>some (x::xs)
  |_,_=>none
def C7(g:G):List (List AV)->Option (List (List Al))
 |[]=>some []
 |v::vs=>match C6 g v,C7 g vs with
  |some x,some xs=>some (x::xs)
  |_,_=>none
def C9(g:G):AV->Option Al
 |.f8 id off n=>match g id with
  |some (.arr _ es)=>match C7 g es with
   |some ds=>(K2 ds off n).map .bv
   |none=>none
  |_=>FQ g (.f8 id off n)
 |v=>FQ g v
def IK(g:G):List AV->Option (List AV)
 |[]=>some []
 |v::vs=>match C9 g v,IK g vs with
  |some x,some xs=>some (.d x::xs)
  |_,_=>none
def Fc(g:G):AV->Option AV
 |.agg cs=>(IK g cs).map .agg
 |.fn f [] []=>some (.fn f [] [])
 |.iface t (.agg cs)=>(IK g cs).map fun c=>.iface t (.agg c)
 |.iface t v=>(C9 g v).map fun x=>.iface t (.d x)
 |v=>(C9 g v).map .d
def E5(g:G):List AV->Option (List AV)
 |[]=>some []
 |v::vs=>match Fc g v,E5 g vs with
  |some x,some xs=>some (x::xs)
  |_,_=>none
def ZZ(g:G):AV->Option AV
 |.ii vs=>(E5 g vs).map .ii
 |v=>Fc g v
def LB(g:G):AV->AD
 |.f8 id _ _=>match g id with
  |some (.em sz es)=>[(id,.i7 sz es)]
  |_=>[]
 |_=>[]
def Ca(g:G)(l:List AV):AD:=l.flatMap (LB g)
def Di(g:G):AV->AD
 |.f8 id off n=>match g id with
  |some (.em sz es)=>[(id,.i7 sz es)]
  |some (.arr sz es)=>match C7 g es with
   |some ds=>(id,.i7 sz ds)::es.flatMap (Ca g)
   |none=>[]
  |_=>[]
 |_=>[]
def LJ:AV->List AV
 |.agg cs=>cs
 |.iface _ (.agg cs)=>cs
 |.iface _ v=>[v]
 |v=>[v]
def mark(g:G)(v:AV):AD:=(LJ v).flatMap (Di g)
def FX:Al->Bool
 |.bv _=>false
 |_=>true
def HG:List AV->Bool
 |[]=>true
 |.d x::vs=>FX x&&HG vs
 |_=>false
def flat:AV->Bool
 |.d x=>FX x
 |.d7=>true
 |.emp=>true
 |.agg cs=>HG cs
 |.ii vs=>HG vs
 |.iface _ (.d x)=>FX x
 |.iface _ (.agg cs)=>HG cs
 |_=>false
def CB(v:AV)(h:AD):Option (Id×Obj):=
 match v with
 |.f8 id _ _=>match h.get id with
  |some (.em sz es)=>if es.all (·.all FX)then some (id,.em sz es)else none
  |_=>none
 |_=>none
def Nv(id:Id)(δ:AD):Bool:=δ.all fun p=> !Id.is p.1 id
def Kv(g:G)(i:TI)(a v:AV):Option C0:=
 match v.cells.length==i.size&&v.cells.all AV.isCell with
 |false=>none
 |true=>match a with
  |.ptr id off=>match g id with
   |some (.box cs)=>(Ck cs off v.cells).map fun cs'=>⟨.undef,[(id,.box cs')]⟩
   |_=>none
  |.jp id k off=>match g id with
   |some (.em sz es)=>match es[k]?,C6 g v.cells,Nv id (Ca g v.cells)with
    |some e,some ds,true=>(Ck e off ds).map fun e'=>⟨.undef,Ca g v.cells++[(id,.em sz (es.set k e'))]⟩
    |_,_,_=>none
   |some (.arr sz es)=>match es[k]? with
    |some e=>(Ck e off v.cells).map fun e'=>⟨.undef,[(id,.arr sz (es.set k e'))]⟩
    |none=>none
   |_=>none
  |_=>none
def IB{α:Type}(sz:Nat):Nat->List α->List (List α)
 |0,_=>[]
 |n+1,l=>l.take sz::IB sz n (l.drop sz)
def BF:Nat:=2 ^ 30
def newArr(g:G)(newId:Id)(j:TI)(es:List (List AV)):Option C0:=
 match es.all (fun e=>e.length==j.size&&e.all AV.isCell)&&Nat.blt 0 j.size&&Nat.ble es.length BF with
 |false=>none
 |true=>match j.mix with
  |true=>some ⟨.f8 (1::newId) 0 es.length,[(1::newId,.arr j.size es)]⟩
  |false=>match C7 g es with
   |some ds=>some ⟨.f8 (1::newId) 0 es.length,es.flatMap (Ca g)++[(1::newId,.em j.size ds)]⟩
   |none=>none
def Ez(g:G):AV->Option (List (List AV))
 |.d (.bv es)=>some (es.map (·.map .d))
 |.d7=>some []
 |.emp=>some []
 |.f8 id off n=>(QG (g id)).bind fun es=>K2 es off n
 |_=>none
def appIn(g:G)(newId:Id)(id:Id)(off n sz:Nat)(es:List (List Al))(src:List (List AV)):Option C0:=
 match C7 g src,Nv id (src.flatMap (Ca g))with
 |some ds,true=>match Ck es (off+n) ds with
  |some es'=>some ⟨.f8 id off (n+ds.length),src.flatMap (Ca g)++[(id,.em sz es')]⟩
  |none=>match Nat.beq off 0&&Nat.ble (n+ds.length) BF with
   |true=>some ⟨.f8 (1::newId) 0 (n+ds.length),src.flatMap (Ca g)++[(id,.i7 0 []),(1::newId,.em sz (es.take n++ds))]⟩
   |false=>none
 |_,_=>none
def appMix(newId:Id)(id:Id)(off n sz:Nat)(es:List (List AV))(src:List (List AV)):Option C0:=
 match Ck es (off+n) src with
 |some es'=>some ⟨.f8 id off (n+src.length),[(id,.arr sz es')]⟩
 |none=>match Nat.beq off 0&&Nat.ble (n+src.length) BF with
  |true=>some ⟨.f8 (1::newId) 0 (n+src.length),[(id,.i7 0 []),(1::newId,.arr sz (es.take n++src))]⟩
  |false=>none
def appTo(g:G)(newId:Id)(j:TI)(s:AV)(src:List (List AV)):Option C0:=
 match s with
 |.d7=>newArr g newId j src
 |.emp=>newArr g newId j src
 |.f8 id off n=>match g id with
  |some (.em sz es)=>match Nat.beq sz j.size&&Nat.ble (off+n) es.length with
   |true=>appIn g newId id off n sz es src
   |false=>none
  |some (.arr sz es)=>match Nat.beq sz j.size&&Nat.ble (off+n) es.length with
   |true=>appMix newId id off n sz es src
   |false=>none
  |_=>none
 |_=>none
def appendV(g:G)(newId:Id)(j:TI)(s x:AV):Option C0:=
 match Ez g x with
 |none=>none
 |some []=>match s with
  |.d7=>some ⟨.d7,[]⟩
  |.emp=>some ⟨.emp,[]⟩
  |.f8 id off n=>some ⟨.f8 id off n,[]⟩
  |_=>none
 |some src=>match src.all (fun c=>c.length==j.size&&c.all AV.isCell)&&Nat.ble src.length BF&&Nat.blt 0 j.size with
  |true=>appTo g newId j s src
  |false=>none
def HK(op:BinOp)(k:IntKind)(a b:Int):Option AV:=
 match op with
 |.add=>some (.d (.int k (k.wrap (a+b))))
 |.sub=>some (.d (.int k (k.wrap (a-b))))
 |.mul=>some (.d (.int k (k.wrap (a*b))))
 |.eql=>some (.d (.bool (a==b)))
 |.neq=>some (.d (.bool (a !=b)))
 |.lss=>some (.d (.bool (decide (a<b))))
 |.leq=>some (.d (.bool (decide (a<=b))))
 |.gtr=>some (.d (.bool (decide (b<a))))
 |.geq=>some (.d (.bool (decide (b<=a))))
 |.rem=>if b=0 then none else some (.d (.int k (a.tmod b)))
 |.quo=>if b=0 then none else some (.d (.int k (k.wrap (a.tdiv b))))
 |_=>none
def IA:TK->AV->AV->Option Bool
 |.int,.d (.int k a),.d (.int k' b)=>if k=k' then some (a==b)else none
 |.bool,.d (.bool a),.d (.bool b)=>some (a==b)
 |.str,.d (.str a),.d (.str b)=>some (a==b)
 |_,_,_=>none
def Fv:List TK->List AV->List AV->Option Bool
 |[],[],[]=>some true
 |t::ts,x::xs,y::ys=>match IA t x y,Fv ts xs ys with
  |some a,some b=>some (a&&b)
  |_,_=>none
 |_,_,_=>none
def JV:TK->AV->AV->Option Bool
 |.flat ks,.agg cs,.agg ds=>Fv ks cs ds
 |.func,.fn ..,.d .kw=>some false
 |.func,.d .kw,.d .kw=>some true
 |.ptr,.ptr ..,.d .wl=>some false
 |.ptr,.d .wl,.d .wl=>some true
 |.iface,.iface ..,.d .rc=>some false
 |.slice,.d (.bv (_::_)),.d7=>some false
 |.slice,.f8 _ _ (_+1),.d7=>some false
 |.slice,.d7,.d7=>some true
 |.bool,x,y=>IA .bool x y
 |.str,x,y=>IA .str x y
 |_,_,_=>none
def xZ(op:BinOp)(a b:ByteArray):Option AV:=
 match op with
 |.lss=>some (.d (.bool (Op.bytesLess a.toList b.toList)))
 |.leq=>some (.d (.bool (Op.bytesLess a.toList b.toList||a.toList==b.toList)))
 |.gtr=>some (.d (.bool (!(Op.bytesLess a.toList b.toList||a.toList==b.toList))))
 |.geq=>some (.d (.bool (!Op.bytesLess a.toList b.toList)))
 |_=>none
def gW(op:BinOp):AV->AV->Option AV
 |.d (.str a),.d (.str b)=>xZ op a b
 |_,_=>none
def Im(op:BinOp)(x y:AV)(t:Option TI):Option AV:=
 match x,y with
 |.d (.int k a),.d (.int k' b)=>if k=k' then HK op k a b else none
 |x,y=>match t with
  |some i=>match op,JV i.kind x y with
   |.eql,some b=>some (.d (.bool b))
   |.neq,some b=>some (.d (.bool (!b)))
   |_,_=>gW op x y
  |none=>none
def bw:Operand->Bool
 |.const _=>true
 |_=>false
def vt(c:Bool)(op:BinOp):AV->AV->Option TI->Option AV
 |.d .rc,.d .rc,some i=>match c,i.kind,op with
  |true,.iface,.eql=>some (.d (.bool true))
  |true,.iface,.neq=>some (.d (.bool false))
  |_,_,_=>none
 |_,_,_=>none
def Hd:Option AV->Option AV->Option AV
 |some v,_=>some v
 |none,r=>r
def l8(c:Bool)(op:BinOp)(x y:AV)(t:Option TI):Option AV:=Hd (Im op x y t) (vt c op x y t)
def WB(g:G):TK->AV->Option Nat
 |.slice,.d (.bv es)=>some es.length
 |.str,.d (.str s)=>some s.size
 |.slice,.d7=>some 0
 |.slice,.emp=>some 0
 |.slice,.f8 _ _ n=>some n
 |.map,.mp id=>match g id with
  |some (.map es)=>some es.length
  |_=>none
 |_,_=>none
def DU:(place:Nat->Option (Nat×Nat))->List AV->List (Nat×AV)->Option (List AV)
 |_,cs,[]=>some cs
 |pl,cs,(i,v)::ps=>match pl i with
  |some (off,size)=>if v.cells.length=size/\v.cells.all AV.isCell then(Ck cs off v.cells).bind fun cs'=>DU pl cs' ps else none
  |none=>none
def J0:AV->Option Int
 |.d (.int _ n)=>some n
 |_=>none
def Iq:Option AV->Int->Option Int
 |none,d=>some d
 |some v,_=>J0 v
def FJ(lo hi mx:Option AV)(n:Nat):Option (Nat×Nat×Option Nat):=
 match Iq lo 0,Iq hi n with
 |some l,some r=>match mx with
  |none=>if 0<=l/\l<=r then some (l.toNat,r.toNat,none)else none
  |some m=>match hi,J0 m with
   |some _,some m=>if 0<=l/\l<=r/\r<=m then some (l.toNat,r.toNat,some m.toNat)else none
   |_,_=>none
 |_,_=>none
def Oa(sz:Nat)(es:List (List Al)):Bool:=match es with
 |[]=>true
 |e::_=>Nat.beq e.length sz
def SK(sz:Nat)(es:List (List Al)):Option (Nat×Nat×Option Nat)->Option AV
 |some (l,r,m)=>match Nat.ble r es.length&&Oa sz es with
  |true=>match m with
   |none=>some (.d (.bv ((es.drop l).take (r-l))))
   |some m=>match Nat.beq m l with
    |true=>some .emp
    |false=>none
  |false=>none
 |none=>none
def fW(sz:Nat)(id:Id)(off l r:Nat)(m:Option Nat)(s n:Nat):Option AV:=
 match Nat.beq s sz&&Nat.ble (off+m.getD r) n&&Nat.ble (off+r) n&&Nat.blt 0 n with
 |true=>match m with
  |none=>some (.f8 id (off+l) (r-l))
  |some m=>match Nat.beq m l with
   |true=>some .emp
   |false=>some .undef
 |false=>none
def Px(g:G)(sz:Nat)(id:Id)(off:Nat):Option (Nat×Nat×Option Nat)->Option AV
 |some (l,r,m)=>match g id with
  |some (.em s es)=>fW sz id off l r m s es.length
  |some (.i7 s es)=>fW sz id off l r m s es.length
  |some (.arr s es)=>fW sz id off l r m s es.length
  |_=>none
 |none=>none
def di:Option (Nat×Nat×Option Nat)->Option AV
 |some (0,0,none)=>some .d7
 |some (0,0,some 0)=>some .emp
 |_=>none
def xN(s:ByteArray):Option (Nat×Nat×Option Nat)->Option AV
 |some (l,r,none)=>if r<=s.size then some (.d (.str (s.extract l r)))else none
 |_=>none
def GZ(g:G)(k:TK)(sz:Nat)(x:AV)(lo hi mx:Option AV):Option AV:=
 match k,x with
 |.slice,.d (.bv es)=>SK sz es (FJ lo hi mx es.length)
 |.slice,.f8 id off n=>Px g sz id off (FJ lo hi mx n)
 |.slice,.d7=>di (FJ lo hi mx 0)
 |.str,.d (.str s)=>xN s (FJ lo hi mx s.size)
 |_,_=>none
def Fa(e:Nat->AV)(ps:Array (Nat×Operand)):List (Nat×AV):=ps.toList.map fun p=>(p.1,ev e p.2)
def Ie:Al->Al->Option Bool
 |.int k a,.int k' b=>if k=k' then some (a==b)else none
 |.str a,.str b=>some (a==b)
 |.bool a,.bool b=>some (a==b)
 |_,_=>none
def Dh:List (Al×AV)->Al->Option (Option AV)
 |[],_=>some none
 |(k,v)::es,x=>match Ie k x with
  |some true=>some (some v)
  |some false=>Dh es x
  |none=>none
def Fg:List (Al×AV)->Al->AV->List (Al×AV)
 |[],x,v=>[(x,v)]
 |(k,w)::es,x,v=>match Ie k x with
  |some true=>(k,v)::es
  |_=>(k,w)::Fg es x v
def NV:AV->Option Al
 |.d x=>some x
 |_=>none
def LA:TK->Al->Bool
 |.int,.int ..=>true
 |.str,.str _=>true
 |.bool,.bool _=>true
 |_,_=>false
def mapPut(T:TypeId->Option TI)(g:G)(t:Option TI)(m k v:AV):Option C0:=
 match(match t,NV k with
  |some i,some x=>match i.kind,T i.key with
   |.map,some kt=>LA kt.kind x&&v.isCell
   |_,_=>false
  |_,_=>false)with
 |false=>none
 |true=>match m,NV k with
 |.mp id,some x=>match g id with
  |some (.map es)=>match Dh es x with
   |some _=>some ⟨.undef,[(id,.map (Fg es x v))]⟩
   |none=>none
  |_=>none
 |_,_=>none
section ops
variable(T:TypeId->Option TI)(e:Nat->AV)(g:G)(newId:Id)
def Pk(c a b:AV):Option C0:=match c with
 |.d (.bool t)=>some ⟨match t with|true=>a|false=>b,[]⟩
 |_=>none
def LF:Option TI->Option C0
 |some i=>if i.zero.length=i.size/\i.zero.all AV.isCell then some ⟨.ptr (0::newId) 0,[(0::newId,.box i.zero)]⟩else none
 |none=>none
def Sw(x:AV):Option TI->Option C0
 |some i=>if x.cells.length=i.size/\x.cells.all AV.isCell then some ⟨.ptr (0::newId) 0,[(0::newId,.box x.cells)]⟩else none
 |none=>none
def LG(ps:List (Nat×AV)):Option TI->Option C0
 |some i=>match i.str&&i.zero.length==i.size with
  |false=>none
  |true=>(DU (fun k=>(i.flds[k]?).map fun f=>(f.1,f.2.1)) i.zero ps).map fun cs=>⟨.agg cs,[]⟩
 |none=>none
def H9(n:Nat)(ps:List (Nat×AV))(j:TI):Option C0:=
 match DU (fun k=>some (k*j.size,j.size)) ((List.replicate n j.zero).flatten) ps with
 |some cs=>match n with
  |0=>some ⟨.emp,[]⟩
  |n=>match Nat.ble (n*j.size) (2 ^ 24)&&j.zero.length==j.size with
   |true=>newArr g newId j (IB j.size n cs)
   |false=>none
 |none=>none
def DQ(n:Nat)(ps:List (Nat×AV)):Option TI->Option C0
 |some i=>match i.kind,T i.elem with
  |.slice,some j=>H9 g newId n ps j
  |_,_=>none
 |none=>none
def Mo(a:AV):Option TI->Option C0
 |some i=>(Kk g i a).map (⟨·,[]⟩)
 |none=>none
def KG(a x:AV):Option TI->Option C0
 |some i=>Kv g i a x
 |none=>none
def Hp:AV->Option C0
 |.ptr id off=>some ⟨.ptr id off,[]⟩
 |.jp id k off=>some ⟨.jp id k off,[]⟩
 |.rg cs=>some ⟨.rg cs,[]⟩
 |_=>none
def kr:AV->Option C0
 |.d (.bool b)=>some ⟨.d (.bool (!b)),[]⟩
 |_=>none
def Jm(t:TypeId):AV->Option TI->Option C0
 |.iface t' v,some i=>match i.kind with
  |.iface=>none
  |_=>if t'=t then some ⟨.ii [v,.d (.bool true)],[]⟩else(HH i.agg i.zero).map fun z=>⟨.ii [z,.d (.bool false)],[]⟩
 |_,_=>none
def Mh(ok:Bool)(r:Option AV)(j:TI):Option C0:=
 match r,HH j.agg j.zero with
 |some v,_=>some ⟨match ok with|true=>.ii [v,.d (.bool true)]|false=>v,[]⟩
 |none,some z=>some ⟨match ok with|true=>.ii [z,.d (.bool false)]|false=>z,[]⟩
 |_,_=>none
def Gw(m k:AV)(ok:Bool):Option TI->Option C0
 |some i=>match m,NV k,i.kind,T i.key with
  |.mp id,some x,.map,some kt=>match LA kt.kind x,g id with
   |true,some (.map es)=>match Dh es x,T i.elem with
    |some r,some j=>Mh ok r j
    |_,_=>none
   |_,_=>none
  |_,_,_,_=>none
 |none=>none
def Hb(n:Nat)(j:TI):Option C0:=match n with
 |0=>some ⟨.emp,[]⟩
 |n=>newArr g newId j (List.replicate n j.zero)
def DY(l c:AV):Option TI->Option C0
 |some i=>match i.kind,T i.elem,l,c with
  |.slice,some j,.d (.int _ n),.d (.int _ m)=>if 0<=n/\n=m/\n<=BF then Hb g newId n.toNat j else none
  |_,_,_,_=>none
 |none=>none
def Fs(k:Nat)(x:AV):Option TI->Option C0
 |some i=>match i.flds[k]? with
  |some f=>match f.2.1 with
   |0=>none
   |_=>match x with
    |.ptr id off=>some ⟨.ptr id (off+f.1),[]⟩
    |.jp id n off=>some ⟨.jp id n (off+f.1),[]⟩
    |.rg cs=>if f.1<=cs.length then some ⟨.rg (cs.drop f.1),[]⟩else none
    |_=>none
  |none=>none
 |none=>none
def Ot(k:Nat)(x:AV):Option TI->Option C0
 |some i=>match i.flds[k]?,x with
  |some f,.agg cs=>((K2 cs f.1 f.2.1).bind (HH f.2.2)).map (⟨·,[]⟩)
  |_,_=>none
 |none=>none
def PH(n:Int)(x:AV)(j:TI):Option C0:=
 if 0<=n then match x with
  |.d (.bv es)=>match es[n.toNat]? with
   |some c=>match Nat.beq c.length j.size with
    |true=>some ⟨.rg c,[]⟩
    |false=>none
   |none=>none
  |.f8 id off len=>if n.toNat<len then match g id with
   |some (.em sz es)=>if sz=j.size/\off+n.toNat<es.length then some ⟨.jp id (off+n.toNat) 0,[]⟩else none
   |some (.i7 sz es)=>if sz=j.size/\off+n.toNat<es.length then some ⟨.jp id (off+n.toNat) 0,[]⟩else none
   |some (.arr sz es)=>if sz=j.size/\off+n.toNat<es.length then some ⟨.jp id (off+n.toNat) 0,[]⟩else none
   |_=>none
   else none
  |_=>none
 else none
def j6(n:Int)(m:Nat)(j:TI):AV->Option C0
 |.ptr id off=>if 0<=n/\n.toNat<m then some ⟨.ptr id (off+n.toNat*j.size),[]⟩else none
 |_=>none
def Dq(x i:AV):Option TI->Option C0
 |some t=>match i,t.kind,T t.elem with
  |.d (.int _ n),.slice,some j=>PH g n x j
  |.d (.int _ n),.arr m,some j=>j6 n m j x
  |_,_,_=>none
 |none=>none
def Mn(x i:AV)(t:Option TI):Option C0:=match t.map TI.kind,x,i with
 |some .str,.d (.str s),.d (.int _ n)=>if 0<=n then(s.data.toList[n.toNat]?).map fun b=>⟨.d (.int .u8 b.toNat),[]⟩else none
 |_,_,_=>none
def Iy(k:Nat)(x:AV):Option C0:=match x with
 |.ii vs=>(vs[k]?).map (⟨·,[]⟩)
 |_=>none
def Jl(t u:Option TI)(s x:AV):Option C0:=
 match t,u with
 |some i,some u=>match i.kind,u.kind,T i.elem with
  |.slice,.slice,some j=>appendV g newId j s x
  |_,_,_=>none
 |_,_=>none
def JI(id:Id)(off n:Nat)(j:TI):Option C0:=
 match g id with
 |some (.em sz es)=>match C6 (fun _=>none) j.zero with
  |some z=>if z.length=sz/\j.zero.length=j.size/\j.zero.all AV.isCell/\0<sz then(Ck es off (List.replicate n z)).map fun es'=>⟨.undef,[(id,.em sz es')]⟩else none
  |none=>none
 |_=>none
def Hc(t:Option TI)(x:AV):Option C0:=
 match t with
 |some i=>match i.kind,x with
  |.slice,.f8 id off n=>match n with
   |0=>some ⟨.undef,[]⟩
   |n=>match T i.elem with
    |some j=>JI g id off n j
    |none=>none
  |.slice,.d7=>some ⟨.undef,[]⟩
  |.slice,.emp=>some ⟨.undef,[]⟩
  |_,_=>none
 |none=>none
def ck(x y:AV):Option C0:=match x,y with
 |.d (.int k a),.d (.int k' b)=>if k=k' then some ⟨.d (.int k (if b>a then b else a)),[]⟩else none
 |_,_=>none
def cm(x y:AV):Option C0:=match x,y with
 |.d (.int k a),.d (.int k' b)=>if k=k' then some ⟨.d (.int k (if b<a then b else a)),[]⟩else none
 |_,_=>none
def Hx(b:Builtin)(as:List AV)(ts:List TypeId):Option C0:=
 match b with
 |.len=>match as with
  |[x]=>match ts with
   |[t]=>match T t with
    |some i=>(WB g i.kind x).map fun(n:Nat)=>⟨.d (.int .i64 (n:Int)),[]⟩
    |none=>none
   |_=>none
  |_=>none
 |.append=>match as,ts with
  |[s,x],[t,u]=>Jl T g newId (T t) (T u) s x
  |_,_=>none
 |.clear=>match as,ts with
  |[x],[t]=>Hc T g (T t) x
  |_,_=>none
 |.max=>match as with
  |[x,y]=>ck x y
  |_=>none
 |.min=>match as with
  |[x,y]=>cm x y
  |_=>none
 |_=>none
def Lb(c:Call):Option C0:=match c.callee with
 |.builtin b=>Hx T g newId b (c.args.toList.map (ev e)) c.argTypes.toList
 |_=>none
def py(op:UnOp)(x:AV):Option C0:=match op with
 |.not=>kr x
 |_=>none
def Ho(f:Fn)(a b:List AV):Option C0:=match f with
 |.func f=>some ⟨.fn f a b,[]⟩
 |_=>none
def Iz:Option Operand->Option C0
 |none=>some ⟨.mp (1::newId),[(1::newId,.map [])]⟩
 |some _=>none
def Mm(t:TypeId)(x:AV):Option TI->Option C0
 |some i=>match i.kind with
  |.iface=>none
  |_=>some ⟨.iface t x,[]⟩
 |none=>none
def IM(x:AV)(lo hi mx:Option AV):Option TI->Option C0
 |some i=>match i.kind,T i.elem with
  |.slice,some j=>(GZ g .slice j.size x lo hi mx).map (⟨·,[]⟩)
  |.str,_=>(GZ g .str 0 x lo hi mx).map (⟨·,[]⟩)
  |_,_=>none
 |none=>none
def evalOp(o:Op):Option C0:=
 match o with
 |.move x=>some ⟨ev e x,[]⟩
 |.assign x=>some ⟨ev e x,[]⟩
 |.pick c a b=>Pk (ev e c) (ev e a) (ev e b)
 |.alloc t=>LF newId (T t)
 |.box t x=>Sw newId (ev e x) (T t)
 |.build t ps=>LG (Fa e ps) (T t)
 |.buildSlice t n ps=>DQ T g newId n (Fa e ps) (T t)
 |.load t a=>Mo g (ev e a) (T t)
 |.store t a x=>KG g (ev e a) (ev e x) (T t)
 |.nilCheck x=>Hp (ev e x)
 |.binOp op t x y _=>(l8 (bw x||bw y) op (ev e x) (ev e y) (T t)).map (⟨·,[]⟩)
 |.unOp op _ x=>py op (ev e x)
 |.makeInterface t x=>Mm t (ev e x) (T t)
 |.typeAssert x _ t ok=>match ok with
  |true=>Jm t (ev e x) (T t)
  |false=>none
 |.makeFunc f first cap=>Ho f (first.toList.map (ev e)) (cap.toList.map (ev e))
 |.makeMap _ r=>Iz newId r
 |.insert t m k v=>mapPut T g (T t) (ev e m) (ev e k) (ev e v)
 |.mapUpdate t m k v=>mapPut T g (T t) (ev e m) (ev e k) (ev e v)
 |.lookup t m k ok=>Gw T g (ev e m) (ev e k) ok (T t)
 |.makeSlice t l c=>DY T g newId (ev e l) (ev e c) (T t)
 |.slice t x lo hi mx=>IM T g (ev e x) (lo.map (ev e)) (hi.map (ev e)) (mx.map (ev e)) (T t)
 |.fieldAddr t x k=>Fs k (ev e x) (T t)
 |.field t x k=>Ot k (ev e x) (T t)
 |.indexAddr t x i=>Dq T g (ev e x) (ev e i) (T t)
 |.index t x i=>Mn (ev e x) (ev e i) (T t)
 |.extract x k=>Iy k (ev e x)
 |.call c=>Lb T e g newId c
 |_=>none
end ops
structure Fr where
 f:FuncId
 π:List Nat
 raw:Bool
 ci:Option (List Nat)
 wp:Bool:=false
 nt:Nat
inductive Df where
 |mark (id:Id)
 |call (f:FuncId) (args:List AV)
structure St where
 env:CA
 heap:AD
 base:Nat
 defs:List Df
inductive B0 where
 |fn (f:FuncId)
 |round (id:Id) (r:Lp)
inductive A8 where
 |ret (v:AV)
 |ge (v:AV)
inductive E(α:Type) where
 |ok (x:α)
 |err (l:List Nat)
abbrev Ab:=B0->List AV->AD->List Nat->Bool->Option (List Nat)->E (A8×AD)
structure Fp where
 rd:Option (List Id):=some []
 wr:Option (List Id):=some []
inductive Ib where
 |ok (st:St) (fp:Fp)
 |ge (v:AV) (st:St)
 |err (l:List Nat)
mutual
def AE:AV->List Id
 |.f8 id _ _=>[id]
 |.ptr id _=>[id]
 |.jp id _ _=>[id]
 |.wt id=>[id]
 |.mp id=>[id]
 |.iface _ v=>AE v
 |.agg cs=>A9 cs
 |.ii vs=>A9 vs
 |.fn _ a b=>A9 a++A9 b
 |_=>[]
def A9:List AV->List Id
 |[]=>[]
 |v::vs=>AE v++A9 vs
end
def C2(g:G)(l:List Id):List Id:=l++l.flatMap fun id=>match g id with
 |some (.arr _ es)=>es.flatMap A9
 |_=>[]
def Ev(e:Nat->AV)(op:Op):List Id:=op.operands.toList.flatMap fun y=>AE (ev e y)
def Gh(e:Nat->AV)(g:G)(op:Op):List Id:=match op with
 |.load ..=>Ev e op
 |.store ..=>Ev e op
 |.buildSlice ..=>Ev e op
 |.insert ..=>Ev e op
 |.mapUpdate ..=>Ev e op
 |.lookup ..=>Ev e op
 |.slice ..=>Ev e op
 |.indexAddr ..=>Ev e op
 |.call c=>match c.callee with
  |.builtin .len=>Ev e op
  |.builtin .clear=>Ev e op
  |.builtin .append=>C2 g (Ev e op)
  |_=>[]
 |_=>[]
def LQ(p:Option (List Nat))(δ:AD):Bool:=
 match p with
 |none=>true
 |some ρ=>δ.all fun x=>Id.under ρ x.1
def DH(e:CA)(dst:Option Tmp)(v:AV):CA:=
 match dst with
 |some t=>(t,v)::e
 |none=>e
def ab{α:Type}(h δ:AD)(k:AD->α):α:=match δ with
 |[]=>k h
 |δ=>IG (h.puts δ) k
def gc(ρ:List Nat)(h:AD):AD:=h.filter fun p=>match p.1 with
 |0::l=> !Id.under ρ l
 |_=>true
def FU(ρ:List Nat)(dst:Option Tmp)(st:St):E (A8×AD)->Ib
 |.ok (.ret v,h)=>XF (DH st.env dst v) fun env=>IG (gc ρ h) fun heap=>.ok {st with env,heap} ⟨none,some (W7 st.heap heap)⟩
 |.ok (.ge v,h)=>IG (gc ρ h) fun heap=>.ge v {st with heap}
 |.err l=>.err l
def JQ(fr:Fr)(as:List AV)(v:AV)(h:AD)(st:St)(env:CA):Ib:=
 match CB v h with
 |some o=>IG (o::st.heap) fun heap=>.ok {st with env,heap} ⟨some (C2 st.heap.get (A9 as)),some [o.1]⟩
 |none=>
  Ub (as.flatMap (mark st.heap.get)) fun δ=>
  match LQ fr.ci δ with
  |true=>IG (h++st.heap.puts δ) fun heap=>.ok {st with env,heap} ⟨some (C2 st.heap.get (A9 as)),some (δ.map (·.1)++h.map (·.1))⟩
  |false=>.err [2]
def EW(fr:Fr)(as:List AV)(dst:Option Tmp)(st:St):E (A8×AD)->Ib
 |.ok (.ret v,h)=>XF (DH st.env dst v) fun env=>match flat v with
  |true=>.ok {st with env} ⟨some (C2 st.heap.get (A9 as)),some []⟩
  |false=>JQ fr as v h st env
 |.ok (.ge v,_)=>match flat v with
  |true=>.ge v st
  |false=>.err [3]
 |.err l=>.err l
def Q8(dst:Option Tmp)(st:St):E (A8×AD)->Ib
 |.ok (.ret v,_)=>match flat v with
  |true=>XF (DH st.env dst v) fun env=>.ok {st with env} ⟨none,some []⟩
  |false=>.err [4]
 |.ok (.ge v,_)=>match flat v with
  |true=>.ge v st
  |false=>.err [3]
 |.err l=>.err l
def OD(g:G)(as:List AV):List AV:=as.map fun v=>(Fc g v).getD v
def Gl(K:Ab)(fr:Fr)(ρ:List Nat)(f:FuncId)(as:List AV)(dst:Option Tmp)(st:St)(m:Mode):Ib:=
 Na (OD st.heap.get as) fun xs=>
 Ub (as.flatMap (mark st.heap.get)) fun δ=>
 match m with
 |.ro=>IG (st.heap.puts δ) fun heap=>Q8 dst st (K (.fn f) xs heap ρ true (some ρ))
 |_=>
  match LQ fr.ci δ with
  |true=>IG (st.heap.puts δ) fun heap=>FU ρ dst st (K (.fn f) xs heap ρ true fr.ci)
  |false=>.err [2]
def Ei(K:Ab)(fr:Fr)(ρ:List Nat)(f:FuncId)(as:List AV)(dst:Option Tmp)(st:St)(m:Mode):Ib:=
 match m with
 |.raw=>FU ρ dst st (K (.fn f) as st.heap ρ true fr.ci)
 |m=>match E5 st.heap.get as with
  |some xs=>Na xs fun xs=>EW fr as dst st (K (.fn f) xs [] (match m with|.own=>ρ|_=>[]) false none)
  |none=>Gl K fr ρ f as dst st m
def K4(K:Ab)(fr:Fr)(ρ:List Nat)(id:Id)(as:List AV)(dst:Option Tmp)(st:St):Ib:=
 match st.heap.get id with
 |some (.loop r)=>FU ρ dst st (K (.round id r) as st.heap ρ true fr.ci)
 |_=>.err [1]
def FO(C:DJ)(K:Ab)(fr:Fr)(ρ:List Nat)(fv:AV)(args:List AV)(dst:Option Tmp)(st:St):Ib:=
 match fv with
 |.wt id=>K4 K fr ρ id args dst st
 |.fn f first cap=>Na (first++args++cap) fun as=>Ei K fr ρ f as dst st (C.mode f)
 |_=>.err [5]
def HP(C:DJ)(K:Ab)(fr:Fr)(ρ:List Nat)(r:AV)(m:String)(args:List AV)(dst:Option Tmp)(st:St):Ib:=
 match r with
 |.iface t v=>match C.meth t m with
  |some f=>FO C K fr ρ (.fn f [v] []) args dst st
  |none=>.err [7]
 |_=>.err [8]
def HZ(st:St)(v:AV):Ib:=match flat v with
 |true=>match v with
  |.iface t u=>.ge (.iface t u) st
  |_=>.err [9]
 |false=>.err [9]
def JJ(fr:Fr)(e:Nat->AV)(c:Call)(dst:Option Tmp)(st:St):Ib:=match c.callee with
 |.value f=>match ev e f,fr.wp with
  |.fn g [] [],false=>.ok {st with env:=DH st.env dst .undef,defs:=.call g (c.args.toList.map (ev e))::st.defs} ⟨none,none⟩
  |_,_=>.err [10]
 |_=>.err [10]
def EN(fr:Fr)(op:Op)(dst:Option Tmp)(st:St):Option C0->Ib
 |some x=>Hk x.v fun v=>Ub x.δ fun δ=>match LQ fr.ci δ with
  |true=>XF (DH st.env dst v) fun env=>ab st.heap δ fun heap=>
   .ok {st with env,heap} ⟨some (Gh st.env.get st.heap.get op),some (δ.map (·.1))⟩
  |false=>.err [11]
 |none=>.err [12]
def Bb(C:DJ)(K:Ab)(fr:Fr)(ρ:List Nat)(op:Op)(dst:Option Tmp)(st:St):Ib:=
 match op with
 |.call c=>match c.callee with
  |.value f=>FO C K fr ρ (ev st.env.get f) (c.args.toList.map (ev st.env.get)) dst st
  |.invoke r m=>HP C K fr ρ (ev st.env.get r) m (c.args.toList.map (ev st.env.get)) dst st
  |.builtin _=>EN fr op dst st (Lb C.T st.env.get st.heap.get ρ c)
 |.panic x=>HZ st (ev st.env.get x)
 |.defer c=>JJ fr st.env.get c dst st
 |op=>EN fr op dst st (evalOp C.T st.env.get st.heap.get ρ op)
def Oh(ops:Array Oper)(e:CA)(o:Oper):Option Bool:=
 match o.guard with
 |none=>some true
 |some (j,want)=>match((ops[j]?).bind (·.dst)).map e.get with
  |some (.d (.bool b))=>some (b==want)
  |some (.ii [])=>some false
  |_=>none
def DB(C:DJ)(K:Ab)(fr:Fr)(ops:Array Oper)(ρ:List Nat)(o:Oper)(st:St):Ib:=
 match Oh ops st.env o with
 |none=>.err [6]
 |some false=>XF (DH st.env o.dst (.ii [])) fun env=>.ok {st with env} {}
 |some true=>Bb C K fr ρ o.op o.dst st
def YV(fp:Fp):E ((Option AV×St)×List Fp)->E ((Option AV×St)×List Fp)
 |.ok (r,fps)=>.ok (r,fp::fps)
 |.err l=>.err l
def Ds(C:DJ)(K:Ab)(fr:Fr)(ops:Array Oper)(b:Nat)(alone:Nat->Bool):List Oper->Nat->St->E ((Option AV×St)×List Fp)
 |[],_,st=>.ok ((none,st),[])
 |o::l,i,st=>J9 (b+i) fun n=>match DB C K fr ops (n::fr.π) o st with
  |.ok st' fp=>YV fp (Ds C K fr ops b alone l (i+1) st')
  |.ge v st'=>match alone i with
   |true=>.ok ((some v,st'),[])
   |false=>.err [13,i]
  |.err l=>.err (i::l)
def apart(a b:Option (List Id)):Bool:=
 match a,b with
 |some [],_=>true
 |_,some []=>true
 |some l,some m=>l.all fun x=> !m.contains x
 |_,_=>false
def Fp.apart(a b:Fp):Bool:=Abs.apart a.wr b.rd&&Abs.apart a.rd b.wr&&Abs.apart a.wr b.wr
def Et(fps:List Fp)(l:List (Nat×Nat)):Bool:=
 l.all fun(i,j)=>match fps[i]?,fps[j]? with
  |some a,some b=>a.apart b
  |_,_=>true
inductive Eh where
 |normal
 |exit (id:Nat)
 |ret
 |ge (v:AV)
def M6(l:List Id)(id:Id):List Id:=match l.any (Id.is id)with|true=>l|false=>l++[id]
def GX(l:List Id)(new:List Id):List Id:=new.foldl M6 l
def Ep:Option Obj->List Id
 |some (.box cs)=>A9 cs
 |some (.arr _ es)=>es.flatMap A9
 |some (.map es)=>es.flatMap fun p=>AE p.2
 |some (.loop r)=>r.env.flatMap fun p=>AE p.2
 |_=>[]
def Cw(h:AD):Nat->List Id->Nat->List Id
 |0,l,_=>l
 |n+1,l,i=>match l[i]? with
  |some id=>Cw h n (GX l (Ep (h.get id))) (i+1)
  |none=>l
def Er(π:List Nat):List Id->Nat->Id->Option Id
 |[],_,_=>none
 |x::r,n,id=>match Id.is x id with|true=>some ((match id with|0::_=>0|_=>1)::n::π)|false=>Er π r (n+1) id
mutual
def ren(ν:Id->Option Id):AV->AV
 |.f8 id o n=>match ν id with|some id=>.f8 id o n|none=>.undef
 |.ptr id o=>match ν id with|some id=>.ptr id o|none=>.undef
 |.jp id i o=>match ν id with|some id=>.jp id i o|none=>.undef
 |.wt id=>match ν id with|some id=>.wt id|none=>.undef
 |.mp id=>match ν id with|some id=>.mp id|none=>.undef
 |.iface t v=>.iface t (ren ν v)
 |.agg cs=>.agg (Fj ν cs)
 |.ii vs=>.ii (Fj ν vs)
 |.fn f a b=>.fn f (Fj ν a) (Fj ν b)
 |v=>v
def Fj(ν:Id->Option Id):List AV->List AV
 |[]=>[]
 |v::vs=>ren ν v::Fj ν vs
end
def E1(ν:Id->Option Id):Obj->Obj
 |.box cs=>.box (Fj ν cs)
 |.arr sz es=>.arr sz (es.map (Fj ν))
 |.map es=>.map (es.map fun p=>(p.1,ren ν p.2))
 |.loop r=>.loop {r with env:=r.env.map fun p=>(p.1,ren ν p.2)}
 |o=>o
def EF(h:AD)(ν:Id->Option Id):List Id->AD
 |[]=>[]
 |id::r=>match h.get id,ν id with
  |some o,some id'=>(id',E1 ν o)::EF h ν r
  |_,_=>EF h ν r
def WO{α:Type}(st:St)(k:St->α):α:=y7 st.env fun env=>Ub st.heap fun heap=>J9 st.base fun base=>k {env,heap,base,defs:=st.defs}
def Fq(C:DJ)(fr:Fr)(b:Nat)(st:St):St:=
 let e:=(C.live fr.f b).map fun t=>(t,st.env.get t)
 if fr.raw|| !st.defs.isEmpty then{st with env:=e}
 else
  let l:=Cw st.heap 1000 (GX [] (e.flatMap fun p=>AE p.2)) 0
  let ν:=Er fr.π l 0
  {env:=e.map fun p=>(p.1,ren ν p.2),heap:=EF st.heap ν l,base:=l.length,defs:=[]}
def NK:TypeDesc->Bool
 |.struct _=>true
 |.array ..=>true
 |_=>false
def Js:TypeDesc->TK
 |.bool=>.bool
 |.int _=>.int
 |.string=>.str
 |_=>.other
def Rl(P:Program):Nat->List Field->Option (List TK)
 |_,[]=>some []
 |n,f::fs=>match(P.underlying f.type).map Js,(P.info? f.type).map (·.size),Rl P (n+1) fs with
  |some .bool,some 1,some ks=>if f.offset=n/\f.name≠ "_" then some (.bool::ks)else none
  |some .int,some 1,some ks=>if f.offset=n/\f.name≠ "_" then some (.int::ks)else none
  |some .str,some 1,some ks=>if f.offset=n/\f.name≠ "_" then some (.str::ks)else none
  |_,_,_=>none
def DA(P:Program)(t:TypeId):TypeDesc->TK
 |.bool=>.bool
 |.int _=>.int
 |.string=>.str
 |.func ..=>.func
 |.pointer _=>.ptr
 |.interface _=>.iface
 |.slice _=>.slice
 |.map ..=>.map
 |.array n _=>.arr n
 |.struct fs=>match Rl P 0 fs.toList with
  |some ks=>if P.stoodInHeld t=false/\P.eqGuardType P.depth t=false then .flat ks else .other
  |none=>.other
 |_=>.other
def Nc(P:Program):TypeDesc->List (Nat×Nat×Bool)
 |.struct fs=>fs.toList.map fun f=>(f.offset,((P.info? f.type).map (·.size)).getD 0,((P.underlying f.type).map NK).getD false)
 |_=>[]
def vB:TypeDesc->Bool
 |.struct _=>true
 |_=>false
def L4(P:Program):TypeDesc->Bool
 |.struct fs=>fs.toList.all fun f=>(P.info? f.type).isSome&&(P.underlying f.type).isSome
 |_=>true
def Uz:Value->Bool
 |.agg _=>true
 |_=>false
def JK:TypeDesc->TypeId
 |.slice e=>e
 |.map _ e=>e
 |.array _ e=>e
 |_=>0
def Yy:TypeDesc->TypeId
 |.map k _=>k
 |_=>0
def Cb(P:Program)(mix:List TypeId)(t:TypeId):Option TI:=
 match P.info? t,P.underlying t with
 |some i,some d=>match i.zero with
  |some z=>match Nat.ble i.bytes 65536&&L4 P d&&Nat.beq z.cells.size i.size&&(Uz z==NK d)with
   |true=>some {kind:=DA P t d,size:=i.size,agg:=NK d,str:=vB d,zero:=z.cells.toList.map EJ,flds:=Nc P d,elem:=JK d,key:=Yy d,mix:=mix.any (Nat.beq t)}
   |false=>none
  |none=>none
 |_,_=>none
def MB(C:DJ)(f:FuncId)(id n base:Nat)(draw:Bool):E ((Option AV×St)×List Fp)->E (Eh×St)
 |.ok ((o,st'),fps)=>
  match !draw||Et fps (C.d9 f id)with
  |true=>J9 (base+n) fun base=>match o with
   |none=>.ok (.normal,{st' with base})
   |some v=>.ok (.ge v,{st' with base})
  |false=>.err [15,id]
 |.err l=>.err (id::l)
def FP(C:DJ)(K:Ab)(fr:Fr)(id:Nat)(ops:Array Oper)(draw:Bool)(st:St):E (Eh×St):=
 MB C fr.f id ops.size st.base draw (Ds C K fr ops st.base (fun i=> !draw||C.alone fr.f id i) ops.toList 0 st)
def IQ(id:Nat):E (Eh×St)->E (Eh×St)
 |.ok (.exit id',st')=>match Nat.beq id' id with
  |true=>.ok (.normal,st')
  |false=>.ok (.exit id',st')
 |r=>r
def EU(y:St->E (Eh×St)):E (Eh×St)->E (Eh×St)
 |.ok (.normal,st')=>y st'
 |r=>r
def L1(c:AV)(x y:E (Eh×St)):E (Eh×St):=
 match c with
 |.d (.bool t)=>match t with
  |true=>x
  |false=>y
 |_=>.err [14]
def ZC(st:St):Option Obj->E (Eh×St)
 |some (.loop r)=>match r.state with
  |.busy=>.err [16]
  |_=>match r.v6 with
   |none=>.ok (.normal,st)
   |some .ret=>.ok (.ret,st)
   |some (.exit k)=>.ok (.exit k,st)
   |some _=>.err [38]
 |_=>.err [17]
def Kp(ρ ρ2:List Nat)(id:Id)(st1:St):E (A8×AD)->E (Eh×St)
 |.ok (.ret _,h')=>IG (gc ρ (gc ρ2 h')) fun heap=>ZC {st1 with heap} (h'.get id)
 |.ok (.ge v,h')=>IG (gc ρ (gc ρ2 h')) fun heap=>.ok (.ge v,{st1 with heap})
 |.err l=>.err l
def Ln(K:Ab)(ci:Option (List Nat))(ρ:List Nat)(id:Id)(h:AD):AV->E (A8×AD)
 |.fn f first cap=>Na (first++[.wt id]++cap) fun as=>K (.fn f) as h ρ true ci
 |_=>.err [18]
def Hs(K:Ab)(fr:Fr)(g:Operand)(ps:Array Tmp)(of body:Code)(st:St):E (Eh×St):=
 match fr.wp with
 |true=>.err [37]
 |false=>
 J9 st.base fun b=>
 IG (st.heap.put (0::b::fr.π) (.loop {state:=.ready,v6:=none,f:=fr.f,env:=st.env,params:=ps.toList,of:=of,body:=body,nt:=fr.nt})) fun h=>
 J9 (b+1) fun b1=>
 J9 (b+2) fun base=>
 Kp (b::fr.π) (b1::fr.π) (0::b::fr.π) {st with heap:=h,base,defs:=.mark (0::b::fr.π)::st.defs}
  (Ln K fr.ci (b1::fr.π) (0::b::fr.π) h (ev st.env.get g))
def Bo(C:DJ)(K:Ab)(fr:Fr):Nat->Nat->Code->St->E (Eh×St)
 |0,_,_,_=>.err [0]
 |n+1,b,c,st=>match c with
  |.skip=>.ok (.normal,st)
  |.label _=>.ok (.normal,st)
  |.seq x y=>EU (Bo C K fr n b y) (Bo C K fr n b x st)
  |.cond c x y=>L1 (ev st.env.get c) (Bo C K fr n b x st) (Bo C K fr n b y st)
  |.block id x=>IQ id (Bo C K fr n id x st)
  |.loop x=>WO (Fq C fr b st) fun st=>EU (Bo C K fr n b (.loop x)) (Bo C K fr n b x st)
  |.exit id=>.ok (.exit id,st)
  |.ret=>.ok (.ret,st)
  |.region id ops draw=>FP C K fr id ops draw st
  |.rangeFunc g ps of body=>Hs K fr g ps of body st
  |_=>.err [19]
def DW(C:DJ)(st:St):ResultVar->Option AV
 |.tmp t=>some (st.env.get t)
 |.cell a t=>(C.T t).bind fun i=>Kk st.heap.get i (st.env.get a)
def O9{α β:Type}(f:α->Option β):List α->Option (List β)
 |[]=>some []
 |x::l=>match f x,O9 f l with
  |some y,some m=>some (y::m)
  |_,_=>none
def KR(C:DJ)(fn:Func)(st:St):Option AV:=
 match O9 (DW C st) fn.results.toList with
 |some []=>some (.ii [])
 |some [v]=>some v
 |some vs=>some (.ii vs)
 |none=>none
def Dw(C:DJ)(ci:Option (List Nat)):List Df->Option AV->AD->E (Option AV×AD)
 |[],p,h=>.ok (p,h)
 |.mark _::l,p,h=>Dw C ci l p h
 |.call f args::l,p,h=>match C.rx f,args with
  |some t,[.ptr id off]=>match p with
   |none=>Dw C ci l none h
   |some (.iface t' (.agg [.d (.int k n)]))=>match Nat.beq t' t&&LQ ci [(id,.box [])]with
    |true=>match h.get id with
     |some (.box cs)=>match Ck cs off [.d (.int k n)]with
      |some cs'=>Dw C ci l none (h.put id (.box cs'))
      |none=>.err [20]
     |_=>.err [21]
    |false=>.err [22]
   |_=>.err [23]
  |_,_=>.err [24]
def EE:Nat->List AV->CA
 |_,[]=>[]
 |n,v::vs=>(n,v)::EE (n+1) vs
def FA(e:CA):List Nat->List AV->Option CA
 |[],[]=>some e
 |t::ts,v::vs=>FA ((t,v)::e) ts vs
 |_,_=>none
def VK(C:DJ)(f:FuncId)(fn:Func)(π:List Nat)(raw:Bool)(st:St):E (Option AV×AD)->E (A8×AD)
 |.ok (none,h)=>match KR C fn {st with heap:=h}with
  |some r=>Hk r fun r=>match raw with
   |true=>.ok (.ret r,h)
   |false=>match π with
    |[]=>match ZZ h.get r with
     |some r'=>Hk r' fun r'=>.ok (.ret r',[])
     |none=>.err [26,f]
    |_=>.ok (.ret r,h)
  |none=>.err [27,f]
 |.ok (some v,h)=>.ok (.ge v,h)
 |.err l=>.err (f::l)
def tM(C:DJ)(ci:Option (List Nat))(f:FuncId)(fn:Func)(π:List Nat)(raw:Bool):E (Eh×St)->E (A8×AD)
 |.ok (o,st)=>match o with
  |.ret=>VK C f fn π raw st (Dw C ci st.defs none st.heap)
  |.normal=>VK C f fn π raw st (Dw C ci st.defs none st.heap)
  |.ge v=>VK C f fn π raw st (Dw C ci st.defs (some v) st.heap)
  |_=>.err [28,f]
 |.err l=>.err (f::l)
def RF(P:Program)(C:DJ)(K:Ab)(fuel:Nat)(f:FuncId)(args:List AV)(h:AD)(π:List Nat)(raw:Bool)(ci:Option (List Nat)):E (A8×AD):=
 match P.funcs[f]? with
 |some fn=>match fn.body with
  |some c=>match Nat.ble args.length fn.ntmps with
   |true=>tM C ci f fn π raw (Bo C K {f,π,raw,ci,nt:=fn.ntmps} fuel 0 c {env:=EE 0 args,heap:=h,base:=0,defs:=[]})
   |false=>.err [39,f]
  |none=>.err [29,f]
 |none=>.err [30,f]
def Ks(id:Id)(h:AD)(r:Lp)(j:Option Code):E (A8×AD):=
 .ok (.ret (.d (.bool j.isNone)),h.put id (.loop {r with state:=match j with|none=>.ready|some _=>.done,v6:=j}))
def dW(id:Id)(o:Eh)(h:AD):Option Obj->E (A8×AD)
 |some (.loop r)=>match o with
  |.normal=>Ks id h r none
  |.ret=>Ks id h r (some .ret)
  |.exit k=>Ks id h r (some (.exit k))
  |.ge v=>.ok (.ge v,h)
 |_=>.err [32]
def Q9(id:Id):E (Eh×St)->E (A8×AD)
 |.ok (o,st)=>match st.defs with
  |[]=>dW id o st.heap (st.heap.get id)
  |_=>.err [31]
 |.err l=>.err (99::l)
def Oz(C:DJ)(K:Ab)(fuel:Nat)(id:Id)(r0:Lp)(π:List Nat)(ci:Option (List Nat))(st:St):Option Obj->E (A8×AD)
 |some (.loop r)=>match r.state with
  |.ready=>IG (st.heap.put id (.loop {r with state:=.busy})) fun heap=>
   Q9 id (Bo C K {f:=r0.f,π,raw:=true,ci,wp:=true,nt:=r0.nt} fuel 0 r0.body {st with heap})
  |_=>.err [36]
 |_=>.err [33]
def Jr(C:DJ)(K:Ab)(fuel:Nat)(id:Id)(r0:Lp)(π:List Nat)(ci:Option (List Nat)):E (Eh×St)->E (A8×AD)
 |.ok (.normal,st)=>match st.defs,LQ ci [(id,.box [])]with
  |[],true=>Oz C K fuel id r0 π ci st (st.heap.get id)
  |_,_=>.err [40]
 |_=>.err [34]
def IW(C:DJ)(K:Ab)(fuel:Nat)(id:Id)(r:Lp)(args:List AV)(h:AD)(π:List Nat)(ci:Option (List Nat)):E (A8×AD):=
 match FA r.env r.params args with
 |some e=>Jr C K fuel id r π ci (Bo C K {f:=r.f,π,raw:=true,ci,wp:=true,nt:=r.nt} fuel 0 r.of {env:=e,heap:=h,base:=0,defs:=[]})
 |none=>.err [35]
def JX(P:Program)(C:DJ)(m:Nat):Nat->Ab
 |0=>fun _ _ _ _ _ _=>.err [25]
 |n+1=>fun t args h π raw ci=>match t with
  |.fn f=>match C.i9 f with
   |true=>RF P C (JX P C m n) m f args h π raw ci
   |false=>.err [41,f]
  |.round id r=>match raw with
   |true=>IW C (JX P C m n) m id r args h π ci
   |false=>.err [42]
end Go.Abs
namespace Go.Abs
section
variable{α:Type}
@[simp] theorem JM(n:Nat)(k:Nat->α):J9 n k=k n:=by cases n<;>rfl
@[simp] theorem ADh(b:Bool)(k:Bool->α):hO b k=k b:=by cases b<;>rfl
@[simp] theorem AEL(n:Int)(k:Int->α):WA n k=k n:=by cases n<;>simp[WA]
@[simp] theorem ADk(x:IntKind)(k:IntKind->α):YO x k=k x:=zFo
@[simp] theorem ADl(l:List Nat)(k:List Nat->α):QX l k=k l:=by
  induction l generalizing k with
  |nil=>rfl
  |cons n l a=>simp[QX,a]
@[simp] theorem AEJ(x:Al)(k:Al->α):nP x k=k x:=by cases x<;>simp[nP]
@[simp] theorem ADj(l:List Al)(k:List Al->α):aa l k=k l:=by
  induction l generalizing k with
  |nil=>rfl
  |cons n l a=>simp[aa,a]
@[simp] theorem AC5(l:List (List Al))(k:List (List Al)->α):Rk l k=k l:=by
  induction l generalizing k with
  |nil=>rfl
  |cons n l a=>simp[Rk,a]
@[simp] theorem ADi(x:Al)(k:Al->α):tS x k=k x:=by cases x<;>simp[tS,nP]
@[simp] theorem AEH(x:AV)(k:AV->α):tR x k=k x:=by cases x<;>simp[tR]
@[simp] theorem ADf(l:List AV)(k:List AV->α):Ua l k=k l:=by
  induction l generalizing k with
  |nil=>rfl
  |cons n l a=>simp[Ua,a]
@[simp] theorem AEI(x:AV)(k:AV->α):fT x k=k x:=by
  unfold fT;split<;>simp
@[simp] theorem Bn(l:List AV)(k:List AV->α):Na l k=k l:=by
  induction l generalizing k with
  |nil=>rfl
  |cons n l a=>simp[Na,a]
@[simp] theorem LX(x:AV)(k:AV->α):Hk x k=k x:=by
  unfold Hk;split<;>simp
@[simp] theorem ADg(l:List (List AV))(k:List (List AV)->α):kM l k=k l:=by
  induction l generalizing k with
  |nil=>rfl
  |cons n l a=>simp[kM,a]
@[simp] theorem ABD(l:List (Al×AV))(k:List (Al×AV)->α):QW l k=k l:=by
  induction l generalizing k with
  |nil=>rfl
  |cons n l a=>obtain⟨x,v⟩:=n;simp[QW,a]
@[simp] theorem AEM(x:Obj)(k:Obj->α):OB x k=k x:=by cases x<;>simp[OB]
@[simp] theorem CU(l:AD)(k:AD->α):Ub l k=k l:=by
  induction l generalizing k with
  |nil=>rfl
  |cons n l a=>obtain⟨x,v⟩:=n;simp[Ub,a]
@[simp] theorem BB(l:AD)(k:AD->α):IG l k=k l:=by
  induction l generalizing k with
  |nil=>rfl
  |cons n l a=>obtain⟨x,v⟩:=n;simp[IG,a]
@[simp] theorem AEK(l:CA)(k:CA->α):y7 l k=k l:=by
  induction l generalizing k with
  |nil=>rfl
  |cons n l a=>obtain⟨x,v⟩:=n;simp[y7,a]
@[simp] theorem Bd(l:CA)(k:CA->α):XF l k=k l:=by cases l<;>rfl
@[simp] theorem MY(st:St)(k:St->α):WO st k=k st:=by simp[WO]
@[simp] theorem Nb(h δ:AD)(k:AD->α):ab h δ k=k (h.puts δ):=by
  cases δ<;>simp[ab,AD.puts]
end
def Id.is_iff(a b:Id):Id.is a b=true↔a=b:=by
 induction a generalizing b with
 |nil=>cases b<;>simp[Id.is]
 |cons n l c=>
  cases b with
  |nil=>simp[Id.is]
  |cons m k=>
   simp only[Id.is];split
   .rename_i h;have:n=m:=D8 h;simp[c,this]
   .rename_i h;have:n≠m:=fun h'=>by subst h';simp at h
    simp[this]
def Id.is_false_iff(a b:Id):Id.is a b=false↔a≠b:=by
 rw[<-Lm,Id.is_iff]
@[simp] theorem Id.is_self(a:Id):Id.is a a=true:=(Id.is_iff a a).2 rfl
def Id.under_iff(ρ a:Id):Id.under ρ a=true↔ρ<:+a:=by
 induction a with
 |nil=>simp[Id.under,Id.is_iff]
 |cons n l b=>
  simp only[Id.under];split
  .rename_i h;rw[Id.is_iff]at h;subst h;simp
  .rename_i h;rw[Id.is_false_iff]at h;rw[b,Is];simp[h]
@[simp] theorem AD.get_nil(id:Id):AD.get [] id=none:=rfl
def AD.get_cons(k:Id)(o:Obj)(h:AD)(id:Id):AD.get ((k,o)::h) id=if k=id then some o else h.get id:=by
 simp only[AD.get];split
 .rename_i h';rw[Id.is_iff]at h';simp[h']
 .rename_i h';rw[Id.is_false_iff]at h';simp[h']
def AD.get_put(h:AD)(id:Id)(o:Obj)(a:Id):(h.put id o).get a=if id=a then some o else h.get a:=by
 induction h with
 |nil=>simp[AD.put,AD.get_cons]
 |cons p h c=>
  obtain⟨k,x⟩:=p;simp only[AD.put];split
  .rename_i h';rw[Id.is_iff]at h';subst h';simp[AD.get_cons];split<;>simp_all
  .rename_i h';rw[Id.is_false_iff]at h';simp only[AD.get_cons,c];split
   .rename_i b;subst b;simp[Ne.symm h']
   .rfl
def AD.get_append(h h':AD)(id:Id):AD.get (h++h') id=(h.get id).or (h'.get id):=by
 induction h with
 |nil=>simp
 |cons p h a=>
  obtain⟨k,x⟩:=p;simp only[Cs,AD.get_cons,a];split<;>simp
def CA.get_cons(k:Nat)(v:AV)(e:CA)(t:Nat):CA.get ((k,v)::e) t=if k=t then v else e.get t:=by
 simp only[CA.get];split
 .rename_i h;have:=D8 h;simp[this]
 .rename_i h;have:k≠t:=fun h'=>by subst h';simp at h
  simp[this]
theorem AD.puts_nil(h:AD):h.puts []=h:=rfl
theorem AD.puts_cons(h:AD)(p:Id×Obj)(δ:AD):h.puts (p::δ)=(h.put p.1 p.2).puts δ:=rfl
def AD.puts_append(h δ a:AD):h.puts (δ++a)=(h.puts δ).puts a:=by simp[AD.puts,List.foldl_append]
variable{A:Nat->Prop}
structure TH where
 b:Nat
 sz:Nat
 n:Nat
abbrev BK:=Id->Option TH
inductive DR(w:World)(M:Nat->Prop):Al->Value->Prop
 |int (k n):DR w M (.int k n) (.int k n)
 |bool (b):DR w M (.bool b) (.bool b)
 |str (s):DR w M (.str s) (.string s)
 |wl:DR w M .wl (.pointer none)
 |kw:DR w M .kw .nilFunc
 |rc:DR w M .rc .nilIface
 |wd:DR w M .wd (.map none)
 |lst0 (a cap):DR w M (.bv []) (.slice a 0 cap)
 |bv (es:List (List Al)) (b off cap sz:Nat) (c:Array Value) (elem:TypeId) (fr:Nat×Nat):
  w.heap[b]? =some (.cells c elem fr)-> ¬M b->(∀e∈es,e.length=sz)->off+es.length*sz<=c.size->
  (∀i x v,es.flatten[i]? =some x->c[off+i]? =some v->DR w M x v)->es.length<=cap->DR w M (.bv es) (.slice (some ⟨b,off,none⟩) es.length cap)
inductive VR(β:BK)(w:World)(M:Nat->Prop):AV->Value->Prop
 |d {x v}:DR w M x v->VR β w M (.d x) v
 |d7:VR β w M .d7 (.slice none 0 0)
 |emp (a):VR β w M .emp (.slice a 0 0)
 |f8 (id off len k a cap):β id=some k->off*k.sz+cap*k.sz=k.n->len<=cap->(a=some ⟨k.b,off*k.sz,none⟩\/cap=0)->
  VR β w M (.f8 id off len) (.slice a len cap)
 |ptr (id off k):β id=some k->VR β w M (.ptr id off) (.pointer (some ⟨k.b,off,none⟩))
 |jp (id i off k):β id=some k->VR β w M (.jp id i off) (.pointer (some ⟨k.b,i*k.sz+off,none⟩))
 |rg (cs b off c elem fr):w.heap[b]? =some (.cells c elem fr)-> ¬M b->off+cs.length<=c.size->
  (∀i x v,cs[i]? =some x->c[off+i]? =some v->DR w M x v)->VR β w M (.rg cs) (.pointer (some ⟨b,off,none⟩))
 |fn (f) (a b:List AV) (a' b':Array Value):a.length=a'.size->b.length=b'.size->(∀(i:Nat) (x:AV) (v:Value),a[i]? =some x->a'[i]? =some v->VR β w M x v)->
  (∀(i:Nat) (x:AV) (v:Value),b[i]? =some x->b'[i]? =some v->VR β w M x v)->VR β w M (.fn f a b) (.func (.func f) a' b')
 |wt (id k):β id=some k->VR β w M (.wt id) (.func (.yield k.b) #[] #[])
 |mp (id k):β id=some k->VR β w M (.mp id) (.map (some k.b))
 |iface (t v u):VR β w M v u->VR β w M (.iface t v) (.iface t u)
 |agg (cs:List AV) (c:Array Value):cs.length=c.size->(∀(i:Nat) (x:AV) (v:Value),cs[i]? =some x->c[i]? =some v->VR β w M x v)->VR β w M (.agg cs) (.agg c)
 |ii (cs:List AV) (c:Array Value):cs.length=c.size->(∀(i:Nat) (x:AV) (v:Value),cs[i]? =some x->c[i]? =some v->VR β w M x v)->VR β w M (.ii cs) (.tuple c)
 |undef (v):VR β w M .undef v
def Hh(β:BK)(w:World)(M:Nat->Prop)(cs:List AV)(c:Array Value):Prop:=
 cs.length=c.size/\ ∀(i:Nat) (x:AV) (v:Value),cs[i]? =some x->c[i]? =some v->VR β w M x v
def Obj.mut:Obj->Bool
 |.i7 ..=>false
 |_=>true
def MS(A:Nat->Prop)(β:BK)(h:AD)(b:Nat):Prop:=A b\/ ∃id o k,h.get id=some o/\o.mut=true/\β id=some k/\k.b=b
def Kz(β:BK)(w:World)(M:Nat->Prop)(e:Nat->AV)(f:Nat->Value):Prop:= ∀t,VR β w M (e t) (f t)
def NI(β:BK)(w:World)(M:Nat->Prop)(k:TH):Obj->Prop
 |.box cs=> ∃c elem,w.heap[k.b]? =some (.cells c elem (0,0))/\Hh β w M cs c
 |.em sz es=> ∃c elem,w.heap[k.b]? =some (.cells c elem (0,0))/\sz=k.sz/\0<sz/\c.size=k.n/\(∀e∈es,e.length=sz)/\es.length*sz<=c.size/\
  ∀(i:Nat) (x:Al) (v:Value),es.flatten[i]? =some x->c[i]? =some v->DR w M x v
 |.i7 sz es=>es=[]\/(¬M k.b/\ ∃c elem fr,w.heap[k.b]? =some (.cells c elem fr)/\sz=k.sz/\0<sz/\c.size=k.n/\(∀e∈es,e.length=sz)/\es.length*sz<=c.size/\
  ∀(i:Nat) (x:Al) (v:Value),es.flatten[i]? =some x->c[i]? =some v->DR w M x v)
 |.arr sz es=> ∃c elem,w.heap[k.b]? =some (.cells c elem (0,0))/\sz=k.sz/\0<sz/\c.size=k.n/\(∀e∈es,e.length=sz)/\es.length*sz<=c.size/\
  ∀(i:Nat) (x:AV) (v:Value),es.flatten[i]? =some x->c[i]? =some v->VR β w M x v
 |.map es=> ∃entries clock,w.heap[k.b]? =some (.map entries clock)/\es.length=entries.size/\
  ∀(i:Nat) p e,es[i]? =some p->entries[i]? =some e->DR w M p.1 e.key/\VR β w M p.2 e.val
 |.loop r=> ∃l:Loop,w.heap[k.b]? =some (.loop l)/\l.state=r.state/\l.pending=r.v6/\l.fn=r.f/\l.params.toList=r.params/\l.assign=r.of/\l.body=r.body/\l.tmps.size=r.nt/\
  Kz β w M r.env.get fun t=>l.tmps.getD t Go.undef
structure HR(A:Nat->Prop)(β:BK)(w:World)(h:AD):Prop where
 obj: ∀id o,h.get id=some o-> ∃k,β id=some k/\NI β w (MS A β h) k o
 inj: ∀id id' o o' k k',h.get id=some o->h.get id'=some o'->o.mut=true->o'.mut=true->β id=some k->β id'=some k'->k.b=k'.b->id=id'
 bnd: ∀id k,β id=some k->k.b<w.heap.size
 out: ∀id o k,h.get id=some o->o.mut=true->β id=some k-> ¬A k.b
 abnd: ∀b,A b->b<w.heap.size
structure FG(A M:Nat->Prop)(w:World)(M':Nat->Prop)(w':World):Prop where
 pm: ∀b,b<w.heap.size-> ¬M b\/A b->w'.heap[b]? =w.heap[b]?
 size:w.heap.size<=w'.heap.size
 sub: ∀b,M' b->M b\/w.heap.size<=b
 io:w'.os=w.os/\w'.output=w.output:=by exact⟨rfl,rfl⟩
def FG.refl(M:Nat->Prop)(w:World):FG A M w M w:=⟨fun _ _ _=>rfl,Es _,fun _ h=>.inl h,rfl,rfl⟩
variable{M M':Nat->Prop}{w w':World}
def FG.trans{e:Nat->Prop}{f:World}(h:FG A M w M' w')(h':FG A M' w' e f):FG A M w e f where
 pm b hb a:=by
  rw[h'.pm b (NL hb h.size) (a.imp (fun a g=>(h.sub b g).elim a (fun h=>AA)) (fun h=>h)),h.pm b hb a]
 size:=IP h.size h'.size
 sub b hb:=by
  rcases h'.sub b hb with c|c
  .exact h.sub b c
  .exact .inr (IP h.size c)
 io:=⟨h'.io.1.trans h.io.1,h'.io.2.trans h.io.2⟩
def FG.sub'(h:FG A M w M' w'){b:Nat}(e:b<w.heap.size)(a: ¬M b): ¬M' b:=
 fun c=>(h.sub b c).elim a (fun h=>AA)
def Le(β β':BK):Prop:= ∀id k,β id=some k->β' id=some k
def Le.refl(β:BK):Le β β:=fun _ _ h=>h
variable{β':BK}
def Le.trans{β a:BK}(h:Le β β')(h':Le β' a):Le β a:=fun id k x=>h' id k (h id k x)
def AK{b:Nat}{o:Go.Obj}(h:w.heap[b]? =some o):b<w.heap.size:=(Io.1 h).1
def DR.mono(g:FG A M w M' w'){x:Al}{v:Value}(h:DR w M x v):DR w' M' x v:=by
 induction h with
 |int k n=>exact .int k n
 |bool b=>exact .bool b
 |str s=>exact .str s
 |wl=>exact .wl
 |kw=>exact .kw
 |rc=>exact .rc
 |wd=>exact .wd
 |lst0 a cap=>exact .lst0 a cap
 |bv es b off cap sz c elem fr e f j l _ i m=>
  exact .bv es b off cap sz c elem fr (by rw[g.pm b (AK e) (.inl f)];exact e) (g.sub' (AK e) f) j l m i
def VR.mono{β:BK}(j:Le β β')(m:FG A M w M' w'){x:AV}{v:Value}(h:VR β w M x v):VR β' w' M' x v:=by
 induction h with
 |d h=>exact .d (h.mono m)
 |d7=>exact .d7
 |emp a=>exact .emp a
 |f8 id off len k a cap e u o r=>exact .f8 id off len k a cap (j _ _ e) u o r
 |ptr id off k e=>exact .ptr id off k (j _ _ e)
 |jp id i off k e=>exact .jp id i off k (j _ _ e)
 |rg cs b off c elem fr n p o s=>
  exact .rg cs b off c elem fr (by rw[m.pm b (AK n) (.inl p)];exact n) (m.sub' (AK n) p) o fun i x v g h2=>(s i x v g h2).mono m
 |fn f a b q b' g h2 _ _ y z=>exact .fn f a b q b' g h2 y z
 |wt id k e=>exact .wt id k (j _ _ e)
 |mp id k e=>exact .mp id k (j _ _ e)
 |iface t v B _ l=>exact .iface t v B l
 |agg cs c g _ l=>exact .agg cs c g l
 |ii cs c g _ l=>exact .ii cs c g l
 |undef v=>exact .undef v
def Hh.mono{β:BK}(c:Le β β')(b:FG A M w M' w'){x:List AV}{v:Array Value}(h:Hh β w M x v):Hh β' w' M' x v:=
 ⟨h.1,fun i x v a h2=>(h.2 i x v a h2).mono c b⟩
def Kz.mono{β:BK}(b:Le β β')(a:FG A M w M' w'){e:Nat->AV}{f:Nat->Value}(h:Kz β w M e f):Kz β' w' M' e f:=
 fun t=>(h t).mono b a
variable{o:Obj}
def NI.mono{β:BK}(u:Le β β')(j:FG A M w M' w'){k:TH}(h:NI β w M k o)(D:k.b<w.heap.size)
 (t:w'.heap[k.b]? =w.heap[k.b]?):NI β' w' M' k o:=by
 cases o with
 |box cs=>obtain⟨c,elem,f,h2⟩:=h;exact⟨c,elem,t▸f,h2.mono u j⟩
 |em sz es=>obtain⟨c,elem,f,h2,g,m,n,q,s⟩:=h;exact⟨c,elem,t▸f,h2,g,m,n,q,fun i x v a b=>(s i x v a b).mono j⟩
 |i7 sz es=>
  rcases h with h|⟨F,c,elem,fr,f,h2,g,m,n,q,s⟩
  .exact .inl h
  .exact .inr ⟨j.sub' D F,c,elem,fr,t▸f,h2,g,m,n,q,fun i x v a b=>(s i x v a b).mono j⟩
 |arr sz es=>obtain⟨c,elem,f,h2,g,m,n,q,s⟩:=h;exact⟨c,elem,t▸f,h2,g,m,n,q,fun i x v a b=>(s i x v a b).mono u j⟩
 |map es=>obtain⟨z,y,f,h2,g⟩:=h;exact⟨z,y,t▸f,h2,fun i p e a b=>⟨(g i p e a b).1.mono j,(g i p e a b).2.mono u j⟩⟩
 |loop r=>obtain⟨l,f,h2,g,m,n,q,s,C,B⟩:=h;exact⟨l,t▸f,h2,g,m,n,q,s,C,B.mono u j⟩
def HR.step{β:BK}{h h':AD}(H:HR A β w h)(g:Le β β')(f:FG A (MS A β h) w (MS A β' h') w')
 (m: ∀id o,h'.get id=some o->(h.get id=some o/\ ∀k,β id=some k->w'.heap[k.b]? =w.heap[k.b]?)\/ ∃k,β' id=some k/\NI β' w' (MS A β' h') k o)
 (l: ∀id e o o' k i,h'.get id=some o->h'.get e=some o'->o.mut=true->o'.mut=true->β' id=some k->β' e=some i->k.b=i.b->id=e)
 (j: ∀id k,β' id=some k->k.b<w'.heap.size) (n: ∀id o k,h'.get id=some o->o.mut=true->β' id=some k-> ¬A k.b):HR A β' w' h' where
 obj id o ho:=by
  rcases m id o ho with⟨a,h2⟩|a
  .obtain⟨k,c,p⟩:=H.obj id o a;exact⟨k,g _ _ c,p.mono g f (H.bnd id k c) (h2 k c)⟩
  .exact a
 inj:=l
 bnd:=j
 out:=n
 abnd b hb:=NL (H.abnd b hb) f.size
def BK.put(β:BK)(id:Id)(k:TH):BK:=fun x=>if x=id then some k else β x
def Pd{β:BK}{id:Id}{k:TH}(h:β id=none):Le β (β.put id k):=fun x b a=>by
 unfold BK.put;split
 .rename_i e;subst e;rw[h]at a;cases a
 .exact a
@[simp] theorem HS(β:BK)(id:Id)(k:TH):β.put id k id=some k:=by simp[BK.put]
def CV(β:BK){id x:Id}(k:TH)(h:x≠id):β.put id k x=β x:=by simp[BK.put,h]
def World.add(w:World)(x:Go.Obj):World:={w with heap:=w.heap.push x}
def MM(w:World)(x:Go.Obj):(World.add w x).heap[w.heap.size]? =some x:=by simp[World.add]
def J6(w:World)(x:Go.Obj){b:Nat}(h:b<w.heap.size):(World.add w x).heap[b]? =w.heap[b]? :=by
 simp[World.add,Of,Nat.ne_of_lt h]
def KX(w:World)(x:Go.Obj):(World.add w x).heap.size=w.heap.size+1:=by simp[World.add]
def rm{β:BK}{h:AD}(H:HR A β w h){b:Nat}(a:MS A β h b):b<w.heap.size:=by
 rcases a with a|⟨id,o,k,_,_,c,rfl⟩
 .exact H.abnd b a
 .exact H.bnd id k c
def VQ{β:BK}{w:World}{h:AD}(H:HR A β w h){id:Id}(x:Go.Obj){o:Obj}{k:TH}(l:k.b=w.heap.size):
 FG A (MS A β h) w (MS A (β.put id k) (h.put id o)) (World.add w x) where
 pm b a _:=J6 w x a
 size:=by rw[KX];omega
 sub b a:=by
  rcases a with a|⟨g,o',j,f,i,c,rfl⟩
  .exact .inl (.inl a)
  by_cases e:g=id
  .subst e;simp at c;subst c;exact .inr AA
  .rw[CV β k e]at c;rw[AD.get_put,Ci (Ne.symm e)]at f;exact .inl (.inr ⟨g,o',j,f,i,c,rfl⟩)
def HR.add{β:BK}{w:World}{h:AD}(H:HR A β w h){id:Id}(s:β id=none){x:Go.Obj}{o:Obj}{k:TH}(t:k.b=w.heap.size)
 (y:NI (β.put id k) (World.add w x) (MS A (β.put id k) (h.put id o)) k o):HR A (β.put id k) (World.add w x) (h.put id o):=by
 refine H.step (Pd s) (VQ H x t) ?_ ?_ ?_ ?_
 .intro C o' l;rw[AD.get_put]at l;split at l
  .rename_i e;subst e;cases l;exact .inr ⟨k,AG,y⟩
  .exact .inl ⟨l,fun D u=>J6 w x (H.bnd _ _ u)⟩
 .intro a b q B m z g n p v c i e;rw[AD.get_put]at g n;by_cases f:a=id<;>by_cases j:b=id
  .rw[f,j]
  .subst f;simp at c;subst c;rw[CV β _ j]at i;have:=H.bnd _ _ i;omega
  .subst j;simp at i;subst i;rw[CV β _ f]at c;have:=H.bnd _ _ c;omega
  .rw[CV β _ f]at c;rw[CV β _ j]at i;rw[Ci (Ne.symm f)]at g;rw[Ci (Ne.symm j)]at n;exact H.inj a b q B m z g n p v c i e
 .intro a m c;rw[KX];by_cases f:a=id
  .subst f;simp at c;subst c;omega
  .rw[CV β _ f]at c;have:=H.bnd _ _ c;omega
 .intro a q m g p c r;rw[AD.get_put]at g;by_cases f:a=id
  .subst f;simp at c;subst c;have:=H.abnd _ r;omega
  .rw[CV β _ f]at c;rw[Ci (Ne.symm f)]at g;exact H.out a q m g p c r
def World.ip(w:World)(b:Nat)(x:Go.Obj):World:={w with heap:=w.heap.setIfInBounds b x}
def JS{b:Nat}(x:Go.Obj)(h:b<w.heap.size):(World.ip w b x).heap[b]? =some x:=by simp[World.ip,h]
def GF{b b':Nat}(x:Go.Obj)(h:b'≠b):(World.ip w b x).heap[b']? =w.heap[b']? :=by
 simp[World.ip,KW,Ne.symm h]
def GP(w:World)(b:Nat)(x:Go.Obj):(World.ip w b x).heap.size=w.heap.size:=by simp[World.ip]
def WV{β:BK}{h:AD}{id:Id}{o o':Obj}(i:h.get id=some o)(g:o.mut=true){b:Nat}(c:MS A β (h.put id o') b):MS A β h b:=by
 rcases c with c|⟨j,l,k,a,h2,f,rfl⟩
 .exact .inl c
 rw[AD.get_put]at a;split at a
 .rename_i e;subst e;exact .inr ⟨id,o,k,i,g,f,rfl⟩
 .exact .inr ⟨j,l,k,a,h2,f,rfl⟩
variable{o':Obj}
def IU{β:BK}{h:AD}(H:HR A β w h){id:Id}{k:TH}(f:h.get id=some o)(c:o.mut=true)(g:β id=some k)(x:Go.Obj):
 FG A (MS A β h) w (MS A β (h.put id o')) (World.ip w k.b x) where
 pm b _ a:=GF x fun e=>a.elim (fun a=>a (.inr ⟨id,o,k,f,c,g,e.symm⟩)) (fun a=>H.out id o k f c g (e▸a))
 size:=by rw[GP];omega
 sub b a:=.inl (WV f c a)
def HR.ip{β:BK}{w:World}{h:AD}(H:HR A β w h){id:Id}{k:TH}{o o':Obj}(p:h.get id=some o)(n:o.mut=true)(u:β id=some k){x:Go.Obj}
 (Q:NI β (World.ip w k.b x) (MS A β (h.put id o')) k o')
 (M: ∀j sz es f,h.get j=some (.i7 sz es)->β j=some f->f.b=k.b->es=[]):HR A β (World.ip w k.b x) (h.put id o'):=by
 refine H.step (.refl β) (IU H p n u x) ?_ ?_ ?_ ?_
 .intro j q c;rw[AD.get_put]at c;split at c
  .rename_i e;subst e;cases c;exact .inr ⟨k,u,Q⟩
  .rename_i e;obtain⟨f,m,U⟩:=H.obj j q c;by_cases t:f.b=k.b
   .cases C:q.mut with
    |true=>exact absurd (H.inj id j o q k f p c n C u m t.symm) e
    |false=>
     cases q with
     |i7 sz es=>
      have:=M j sz es f c m t;exact .inr ⟨f,m,.inl this⟩
     |_=>simp[Obj.mut]at C
   .exact .inl ⟨c,fun V B=>by rw[m]at B;cases B;exact GF x t⟩
 .intro a b F W l R g z v O i N e;rw[AD.get_put]at g z;have y: ∀{s:Id} {r:Obj},(if id=s then some o' else h.get s)=some r->r.mut=true-> ∃I,h.get s=some I/\I.mut=true:=by
   intro s r D P;split at D
   .rename_i e;subst e;exact⟨o,p,n⟩
   .exact⟨r,D,P⟩
  obtain⟨S,J,h2⟩:=y g v;obtain⟨T,K,L⟩:=y z O;exact H.inj a b S T l R J K h2 L i N e
 .intro a l i;rw[GP];exact H.bnd a l i
 .intro a F l g v i;rw[AD.get_put]at g;split at g
  .rename_i e;subst e;exact H.out _ _ _ p n i
  .exact H.out a F l g v i
def HR.i7{β:BK}{h:AD}(H:HR A β w h){id b:Id}{k f:TH}(m:h.get id=some o)(l:o.mut=true)(i:β id=some k){sz:Nat}{es:List (List Al)}
 (g:h.get b=some (.i7 sz es)) (j:β b=some f) (e:f.b=k.b):es=[]:=by
 obtain⟨p,c,n⟩:=H.obj b _ g;rw[j]at c;cases c;rcases n with a|⟨a,_⟩
 .exact a
 .exact absurd (.inr ⟨id,o,k,m,l,i,e.symm⟩) a
def HR.upd'{β:BK}{h:AD}(H:HR A β w h){id:Id}{k:TH}(c:h.get id=some o)(b:o.mut=true)(a:β id=some k){x:Go.Obj}
 (g:NI β (World.ip w k.b x) (MS A β (h.put id o')) k o'):HR A β (World.ip w k.b x) (h.put id o'):=
 H.ip c b a g fun _ _ _ _ e h2 f=>H.i7 c b a e h2 f
def wO{β:BK}{h:AD}{id:Id}(c:h.get id=some o)(b:o.mut=true):
 FG A (MS A β h) w (MS A β (h.put id o')) w:=⟨fun _ _ _=>rfl,Es _,fun _ a=>.inl (WV c b a),rfl,rfl⟩
def HR.kill{β:BK}{w:World}{h:AD}(H:HR A β w h){id:Id}{o:Obj}(s:h.get id=some o)(C:o.mut=true):HR A β w (h.put id (.i7 0 [])):=by
 obtain⟨k,z,_⟩:=H.obj id _ s;refine H.step (.refl β) (wO s C) ?_ ?_ H.bnd ?_
 .intro K L f;rw[AD.get_put]at f;split at f
  .rename_i e;subst e;cases f;exact .inr ⟨k,z,.inl rfl⟩
  .exact .inl ⟨f,fun _ _=>rfl⟩
 .intro a b t M n F c q g D l B e;rw[AD.get_put]at c q;have p: ∀{j:Id} {i:Obj},(if id=j then some (Obj.i7 0 [])else h.get j)=some i->i.mut=true-> ∃u,h.get j=some u/\u.mut=true:=by
   intro j i m r;split at m
   .cases m;simp[Obj.mut]at r
   .exact⟨i,m,r⟩
  obtain⟨I,v,h2⟩:=p c g;obtain⟨J,x,y⟩:=p q D;exact H.inj a b I J n F v x h2 y l B e
 .intro a t n c g l;rw[AD.get_put]at c;split at c
  .cases c;cases g
  .exact H.out a t n c g l
