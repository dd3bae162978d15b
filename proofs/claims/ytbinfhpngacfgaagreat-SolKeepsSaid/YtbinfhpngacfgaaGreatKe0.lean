/-
  Parts of it.
-/
import Derived.CallsIn
import Derived.DefersIn
import Derived.RangeFuncLeaves
set_option linter.all false
namespace Go
def AM:=@Bool.false_eq_true
def AP:=@Bool.and_eq_true
def AS:=@Option.get_some
def Ac:=@List.mem_of_getElem?
def Ap:=@decide_eq_true_eq
def As:=@List.mem_singleton
def BE:=@List.getElem?_eq_some_iff
def BI:=@List.length_map
def BV:=@Option.map_eq_some_iff
def BY:=@List.getElem?_eq_getElem
def Be:=@List.getElem?_append_left
def Bi:=@List.length_append
def Bv:=@List.mem_flatMap
def By:=@decide_eq_false
def CE:=@Option.some.injEq
def CI:=@if_neg
def CO:=@Bool.false_and
def CS:=@List.take_of_length_le
def Ce:=@List.getElem?_append_right
def Ci:=@decide_eq_true
def Co:=@List.mem_cons
def Cs:=@List.map_cons
def DL:=@List.eq_nil_of_length_eq_zero
def DO:=@List.all_eq_true
def Dl:=@List.map_nil
def D0:=@if_pos
def D1:=@List.map_append
def D2:=@List.getElem?_map
def D3:=@Nat.eq_of_beq_eq_true
def D4:=@List.all_cons
def D5:=@List.flatMap_cons
def D6:=@List.append_nil
def D7:=@List.drop_eq_nil_of_le
def D8:=@Array.getElem?_eq_getElem
def D9:=@List.append_assoc
def EL:=@List.take_length
def EM:=@Bool.true_and
def ES:=@List.mem_append
def EX:=@Nat.le_refl
def El:=@if_false
def Em:=@List.mem_cons_of_mem
def Es:=@Option.map_some
def Ex:=@List.suffix_cons
def FD:=@List.mem_cons_self
def FN:=@List.mem_map
def F0:=@List.getElem?_cons_zero
def F1:=@Prod.mk.injEq
def F2:=@if_true
def F3:=@List.cons_append
def F4:=@Option.getD_some
def F5:=@List.map_eq_nil_iff
def F6:=@List.getElem?_cons_succ
def F7:=@Nat.le_of_ble_eq_true
def F8:=@Array.getD_eq_getD_getElem?
def F9:=@List.not_mem_nil
def GC:=@List.take_add_one
def GO:=@Int.toNat_natCast
def GS:=@Bool.and_false
def Gc:=@forall_eq_or_imp
def Ge:=@List.mem_append_left
def Gs:=@List.mem_append_right
def Gt:=@List.flatMap_nil
def HE:=@Nat.mul_le_mul_right
def HM:=@List.nil_append
def HU:=@Bool.not_eq_true'
def HW:=@List.getElem?_drop
def He:=@List.getElem?_set
def Hm:=@List.getElem?_of_mem
def Hw:=@List.length_take
def ID:=@List.length_singleton
def IF:=@Array.getElem?_toList
def II:=@Nat.add_mul
def IN:=@List.take_append_of_le_length
def IP:=@Nat.le_trans
def IS:=@Array.getElem?_eq_some_iff
def IT:=@List.suffix_cons_iff
def Ii:=@Array.getElem?_setIfInBounds_ne
def Io:=@List.length_drop
def Ip:=@Bool.false_or
def Is:=@Option.isSome_iff_exists
def It:=@List.getElem?_take
def I0:=@List.length_replicate
def I1:=@List.getElem?_eq_none
def I2:=@Option.bind_eq_some_iff
def I3:=@Bool.or_eq_true
def I4:=@Nat.zero_add
def I5:=@Nat.zero_le
def I6:=@Array.getElem?_setIfInBounds
def I7:=@Option.bind_some
def I8:=@Int.eq_ofNat_of_zero_le
def I9:=@Array.getElem?_append_left
def JP:=@List.mem_of_mem_drop
def Jp:=@List.map_set
def KW:=@List.take_succ
def Kw:=@Bool.not_eq_true
def LC:=@List.flatMap_append
def LI:=@Nat.le_max_left
def LM:=@List.length_eq_zero_iff
def Lc:=@Bool.eq_iff_iff
def Li:=@List.mem_of_mem_take
def Lm:=@List.drop_of_length_le
def Ls:=@List.nodup_append
def Lt:=@List.flatten_append
def Lw:=@or_false
def MD:=@Bool.and_true
def MK:=@Option.some.inj
def MP:=@Nat.sub_self
def MT:=@List.take_append_drop
def Md:=@List.foldl_cons
def Mk:=@Array.eq_empty_of_size_eq_zero
def Mp:=@Nat.lt_of_lt_of_le
def Ms:=@Nat.le_max_right
def Mt:=@List.mem_flatten
def NL:=@List.getElem_mem
def NO:=@Bool.and_self
def Nl:=@List.flatten_cons
def No:=@List.cons.injEq
def OF:=@Array.length_toList
def OK:=@Array.getElem?_push
def OL:=@List.append_eq_nil_iff
def ON:=@List.mem_iff_getElem?
def OP:=@List.map_replicate
def OR:=@List.getElem?_toArray
def OS:=@Bool.not_true
def Of:=@Array.ext_getElem?
def Ok:=@List.mem_range
def Ol:=@Bool.not_false
def On:=@List.drop_eq_nil_iff
def PI:=@List.eq_of_mem_replicate
def PL:=@Nat.mul_comm
def PM:=@Int.toNat_of_nonneg
def PU:=@List.drop_append_of_le_length
def Pl:=@Nat.ne_of_beq_eq_false
def Pm:=@Nat.add_sub_cancel
def Pp:=@Array.getElem?_map
def Pu:=@Nat.ble_eq_true_of_le
def QR:=@List.mem_filter
def Qr:=@List.all_nil
def RC:=@Bool.and_eq_false_iff
def RD:=@Array.mem_of_getElem?
def RG:=@Nat.add_assoc
def RO:=@List.size_toArray
def RS:=@List.exists_cons_of_ne_nil
def RT:=@List.mem_iff_getElem
def RW:=@List.replicate_succ
def RX:=@Array.size_setIfInBounds
def Rc:=@decide_eq_false_iff_not
def Rd:=@List.getElem?_replicate
def Rg:=@List.cons.inj
def Ro:=@List.all_append
def Rs:=@Array.size_append
def Rt:=@List.take_zero
def Rw:=@Nat.succ_mul
def Rx:=@List.map_flatten
def SP:=@List.filter_cons
def S1:=@List.any_eq_true
def TO:=@Nat.blt_eq
def TY:=@true_and
end Go
namespace Go.Abs
inductive Aa where
 |int (k:IntKind) (n:Int)
 |bool (b:Bool)
 |str (s:ByteArray)
 |be (es:List (List Aa))
 |wl|jp|of|v6
abbrev Id:=List Nat
def Id.is:Id→Id→Bool
 |[],[]=>true
 |n::l,m::k=>match Nat.beq n m with
  |true=>Id.is l k
  |false=>false
 |_,_=>false
def Id.under(ρ:Id):Id→Bool
 |[]=>Id.is ρ []
 |n::l=>match Id.is ρ (n::l)with
  |true=>true
  |false=>Id.under ρ l
inductive AV where
 |d (x:Aa)
 |co
 |emp
 |eq (id:Id) (off len:Nat)
 |ptr (id:Id) (off:Nat)
 |i7 (id:Id) (i off:Nat)
 |rg (cs:List Aa)
 |fn (f:FuncId) (first cap:List AV)
 |wn (id:Id)
 |mp (id:Id)
 |iface (t:TypeId) (v:AV)
 |agg (cs:List AV)
 |ge (vs:List AV)
 |undef
abbrev Bn:=List (Nat×AV)
def Bn.get:Bn→Nat→AV
 |[],_=>.undef
 |(k,v)::e,t=>match Nat.beq k t with
  |true=>v
  |false=>Bn.get e t
structure Lp where
 state:LoopState
 rt:Option Code
 f:FuncId
 env:Bn
 params:List Nat
 kw:Code
 body:Code
 nt:Nat
inductive Obj where
 |box (cs:List AV)
 |d9 (sz:Nat) (es:List (List Aa))
 |i5 (sz:Nat) (es:List (List Aa))
 |arr (sz:Nat) (es:List (List AV))
 |map (es:List (Aa×AV))
 |loop (r:Lp)
abbrev AD:=List (Id×Obj)
def AD.get:AD→Id→Option Obj
 |[],_=>none
 |(k,o)::h,id=>match Id.is k id with
  |true=>some o
  |false=>AD.get h id
mutual
def Aa.same:Aa→Aa→Bool
 |.int k n,.int k' m=>decide (k=k')&&decide (n=m)
 |.bool a,.bool b=>match a,b with
  |true,true=>true
  |false,false=>true
  |_,_=>false
 |.str a,.str b=>decide (a.data.toList=b.data.toList)
 |.be a,.be b=>Aa.samess a b
 |.wl,.wl=>true
 |.jp,.jp=>true
 |.of,.of=>true
 |.v6,.v6=>true
 |_,_=>false
def Aa.sames:List Aa→List Aa→Bool
 |[],[]=>true
 |x::l,y::m=>match Aa.same x y with
  |true=>Aa.sames l m
  |false=>false
 |_,_=>false
def Aa.samess:List (List Aa)→List (List Aa)→Bool
 |[],[]=>true
 |x::l,y::m=>match Aa.sames x y with
  |true=>Aa.samess l m
  |false=>false
 |_,_=>false
end
mutual
theorem Aa.same_eq: ∀{a b:Aa},Aa.same a b=true→a=b
 |.int k n,b,h=>by
  cases b<;>simp[Aa.same]at h;rw[h.1,h.2]
 |.bool a,b,h=>by
  cases b<;>simp[Aa.same]at h;rename_i b;cases a<;>cases b<;>simp at h<;>rfl
 |.str a,b,h=>by
  cases b<;>simp[Aa.same]at h;rename_i b;cases a;cases b;simp at h;rw[h]
 |.be a,b,h=>by
  cases b<;>simp[Aa.same]at h;rw[Aa.samess_eq h]
 |.wl,b,h=>by cases b<;>simp[Aa.same]at h;rfl
 |.jp,b,h=>by cases b<;>simp[Aa.same]at h;rfl
 |.of,b,h=>by cases b<;>simp[Aa.same]at h;rfl
 |.v6,b,h=>by cases b<;>simp[Aa.same]at h;rfl
theorem Aa.sames_eq: ∀{a b:List Aa},Aa.sames a b=true→a=b
 |[],b,h=>by cases b<;>simp[Aa.sames]at h;rfl
 |x::l,[],h=>by simp[Aa.sames]at h
 |x::l,y::m,h=>by
  unfold Aa.sames at h;split at h
  .rename_i h1;rw[Aa.same_eq h1,Aa.sames_eq h]
  .cases h
theorem Aa.samess_eq: ∀{a b:List (List Aa)},Aa.samess a b=true→a=b
 |[],b,h=>by cases b<;>simp[Aa.samess]at h;rfl
 |x::l,[],h=>by simp[Aa.samess]at h
 |x::l,y::m,h=>by
  unfold Aa.samess at h;split at h
  .rename_i h1;rw[Aa.sames_eq h1,Aa.samess_eq h]
  .cases h
end
theorem Id.is_eq: ∀{a b:Id},Id.is a b=true→a=b
 |[],[],_=>rfl
 |[],_::_,h=>by simp[Id.is]at h
 |_::_,[],h=>by simp[Id.is]at h
 |n::l,m::k,h=>by
  unfold Id.is at h;split at h
  .rename_i h1;rw[D3 h1,Id.is_eq h]
  .cases h
mutual
def AV.same:AV→AV→Bool
 |.d x,.d y=>Aa.same x y
 |.co,.co=>true
 |.emp,.emp=>true
 |.eq i a b,.eq j a' b'=>Id.is i j&&(Nat.beq a a'&&Nat.beq b b')
 |.ptr i a,.ptr j b=>Id.is i j&&Nat.beq a b
 |.i7 i a b,.i7 j a' b'=>Id.is i j&&(Nat.beq a a'&&Nat.beq b b')
 |.fn f a b,.fn g a' b'=>Nat.beq f g&&(AV.sames a a'&&AV.sames b b')
 |.wn i,.wn j=>Id.is i j
 |.mp i,.mp j=>Id.is i j
 |.iface t v,.iface u w=>Nat.beq t u&&AV.same v w
 |.agg l,.agg m=>AV.sames l m
 |.ge l,.ge m=>AV.sames l m
 |.undef,.undef=>true
 |_,_=>false
def AV.sames:List AV→List AV→Bool
 |[],[]=>true
 |x::l,y::m=>match AV.same x y with
  |true=>AV.sames l m
  |false=>false
 |_,_=>false
end
mutual
theorem AV.same_eq: ∀{a b:AV},AV.same a b=true→a=b
 |.d x,b,h=>by
  cases b<;>simp[AV.same]at h;rw[Aa.same_eq h]
 |.agg l,b,h=>by
  cases b<;>simp[AV.same]at h;rw[AV.sames_eq h]
 |.ge l,b,h=>by
  cases b<;>simp[AV.same]at h;rw[AV.sames_eq h]
 |.co,b,h=>by cases b<;>simp[AV.same]at h;rfl
 |.emp,b,h=>by cases b<;>simp[AV.same]at h;rfl
 |.undef,b,h=>by cases b<;>simp[AV.same]at h;rfl
 |.eq ..,b,h=>by
  cases b<;>simp[AV.same]at h;rw[Id.is_eq h.1,h.2.1,h.2.2]
 |.ptr ..,b,h=>by
  cases b<;>simp[AV.same]at h;rw[Id.is_eq h.1,h.2]
 |.i7 ..,b,h=>by
  cases b<;>simp[AV.same]at h;rw[Id.is_eq h.1,h.2.1,h.2.2]
 |.rg _,b,h=>by simp[AV.same]at h
 |.fn f a c,b,h=>by
  cases b<;>simp[AV.same]at h;rw[h.1,AV.sames_eq h.2.1,AV.sames_eq h.2.2]
 |.wn _,b,h=>by
  cases b<;>simp[AV.same]at h;rw[Id.is_eq h]
 |.mp _,b,h=>by
  cases b<;>simp[AV.same]at h;rw[Id.is_eq h]
 |.iface t v,b,h=>by
  cases b<;>simp[AV.same]at h;rw[h.1,AV.same_eq h.2]
theorem AV.sames_eq: ∀{a b:List AV},AV.sames a b=true→a=b
 |[],b,h=>by cases b<;>simp[AV.sames]at h;rfl
 |x::l,[],h=>by simp[AV.sames]at h
 |x::l,y::m,h=>by
  unfold AV.sames at h;split at h
  .rename_i h1;rw[AV.same_eq h1,AV.sames_eq h]
  .cases h
end
def Obj.same:Obj→Option Obj→Bool
 |.box l,some (.box m)=>AV.sames l m
 |.d9 a l,some (.d9 b m)=>Nat.beq a b&&Aa.samess l m
 |.i5 a l,some (.i5 b m)=>Nat.beq a b&&Aa.samess l m
 |_,_=>false
theorem Obj.same_eq{a:Obj}{b:Option Obj}(h:Obj.same a b=true):b=some a:=by
 unfold Obj.same at h;split at h
 .rw[AV.sames_eq h]
 .simp only[AP]at h;rw[D3 h.1,Aa.samess_eq h.2]
 .simp only[AP]at h;rw[D3 h.1,Aa.samess_eq h.2]
 .cases h
def U9(h h':AD):List Id:=((h++h').filter fun p=>match h.get p.1 with
 |some o=> !Obj.same o (h'.get p.1)
 |none=>true).map (·.1)
theorem AD.get_mem: ∀{h:AD} {id:Id} {o:Obj},h.get id=some o→(id,o)∈h
 |[],_,_,hg=>by cases hg
 |(k,o')::h,id,o,hg=>by
  unfold AD.get at hg;split at hg
  .rename_i h1;cases hg;rw[Id.is_eq h1];simp
  .exact Em _ (AD.get_mem hg)
theorem la{h h':AD}{id:Id}(hi:id∉U9 h h'):h'.get id=h.get id:=by
 have key: ∀o,(id,o)∈h++h'→h'.get id=h.get id:=fun o ho=>by
  have: ¬(match h.get id with|some o=> !Obj.same o (h'.get id)|none=>true)=true:=fun hc=>
   hi (FN.2 ⟨(id,o),QR.2 ⟨ho,hc⟩,rfl⟩)
  split at this
  .rename_i o2 h2;rw[h2];exact Obj.same_eq (by simpa using this)
  .exact absurd rfl this
 cases h1:h.get id with
 |some o=>rw[←h1];exact key o (Ge _ (AD.get_mem h1))
 |none=>cases h2:h'.get id with
  |some o=>rw[←h1,←h2];exact key o (Gs _ (AD.get_mem h2))
  |none=>rfl
def AD.put:AD→Id→Obj→AD
 |[],id,o=>[(id,o)]
 |(k,x)::h,id,o=>match Id.is k id with
  |true=>(k,o)::h
  |false=>(k,x)::AD.put h id o
def AD.puts(h:AD)(δ:AD):AD:=δ.foldl (fun h p=>h.put p.1 p.2) h
inductive TK where
 |bool|int|str|func|ptr|iface|slice|map|other
 |flat (ks:List TK)
structure TI where
 kind:TK
 size:Nat
 agg:Bool
 str:Bool
 zero:List AV
 flds:List (Nat×Nat×Bool)
 elem:TypeId
 key:TypeId
 mix:Bool
inductive Mode where
 |auto|own|raw|ro
 deriving DecidableEq
structure Cj where
 T:TypeId→Option TI
 mode:FuncId→Mode
 live:FuncId→Nat→List Nat
 d8:FuncId→Nat→List (Nat×Nat)
 alone:FuncId→Nat→Nat→Bool
 pp:FuncId→Option TypeId
 meth:TypeId→String→Option FuncId
 i6:FuncId→Bool
def DU:Value→AV
 |.int k n=>.d (.int k n)
 |.bool b=>.d (.bool b)
 |.string s=>.d (.str s)
 |.slice none 0 0=>.co
 |.pointer none=>.d .wl
 |.nilFunc=>.d .jp
 |.nilIface=>.d .of
 |.map none=>.d .v6
 |_=>.undef
def ev(e:Nat→AV):Operand→AV
 |.tmp t=>e t
 |.const v=>DU v
 |.func f=>.fn f [] []
 |.global _=>.undef
def AV.cells:AV→List AV
 |.agg cs=>cs
 |v=>[v]
def AV.isCell:AV→Bool
 |.agg _=>false
 |.ge _=>false
 |.undef=>false
 |_=>true
def Fk(agg:Bool)(cs:List AV):Option AV:=
 if agg then some (.agg cs)else match cs with
  |[c]=>some c
  |_=>none
def Js{α:Type}(l:List α)(off n:Nat):Option (List α):=
 if off+n≤l.length then some ((l.drop off).take n)else none
def CG{α:Type}(l:List α)(off:Nat)(new:List α):Option (List α):=
 if off+new.length≤l.length then some (l.take off++new++l.drop (off+new.length))else none
structure CU where
 v:AV
 δ:AD:=[]
abbrev G:=Id→Option Obj
def Oi:Option Obj→Option (List (List AV))
 |some (.d9 _ es)=>some (es.map (·.map .d))
 |some (.i5 _ es)=>some (es.map (·.map .d))
 |some (.arr _ es)=>some es
 |_=>none
def Jb(g:G)(i:TI):AV→Option AV
 |.ptr id off=>match g id with
  |some (.box cs)=>(Js cs off i.size).bind (Fk i.agg)
  |_=>none
 |.i7 id k off=>match g id with
  |some (.d9 _ es)=>match es[k]? with
   |some e=>(Js e off i.size).bind fun ds=>Fk i.agg (ds.map .d)
   |none=>none
  |some (.i5 _ es)=>match es[k]? with
   |some e=>(Js e off i.size).bind fun ds=>Fk i.agg (ds.map .d)
   |none=>none
  |some (.arr _ es)=>match es[k]? with
   |some e=>(Js e off i.size).bind (Fk i.agg)
   |none=>none
  |_=>none
 |.rg cs=>(Js cs 0 i.size).bind fun ds=>Fk i.agg (ds.map .d)
 |_=>none
section force
variable{α:Type}
def Iq(n:Nat)(k:Nat→α):α:=match n with
 |0=>k 0
 |m+1=>k (Nat.succ m)
def ADY(b:Bool)(k:Bool→α):α:=match b with
 |true=>k true
 |false=>k false
def AEI(n:Int)(k:Int→α):α:=match n with
 |.ofNat m=>Iq m fun m=>k (.ofNat m)
 |.negSucc m=>Iq m fun m=>k (.negSucc m)
def ADa(x:IntKind)(k:IntKind→α):α:=match x with
 |.i8=>k .i8|.i16=>k .i16|.i32=>k .i32|.i64=>k .i64
 |.u8=>k .u8|.u16=>k .u16|.u32=>k .u32|.u64=>k .u64
def O5(l:List Nat)(k:List Nat→α):α:=match l with
 |[]=>k []
 |n::l=>Iq n fun n=>O5 l fun l=>k (n::l)
def l6(x:Aa)(k:Aa→α):α:=match x with
 |.int kd n=>ADa kd fun kd=>AEI n fun n=>k (.int kd n)
 |.bool b=>ADY b fun b=>k (.bool b)
 |.str s=>k (.str s)
 |.be es=>k (.be es)
 |.wl=>k .wl
 |.jp=>k .jp
 |.of=>k .of
 |.v6=>k .v6
def Yw(l:List Aa)(k:List Aa→α):α:=match l with
 |[]=>k []
 |x::l=>l6 x fun x=>Yw l fun l=>k (x::l)
def P8(l:List (List Aa))(k:List (List Aa)→α):α:=match l with
 |[]=>k []
 |x::l=>Yw x fun x=>P8 l fun l=>k (x::l)
def uf(x:Aa)(k:Aa→α):α:=match x with
 |.be es=>P8 es fun es=>k (.be es)
 |x=>l6 x k
def ue(v:AV)(k:AV→α):α:=match v with
 |.d x=>uf x fun x=>k (.d x)
 |.co=>k .co
 |.emp=>k .emp
 |.eq id off len=>O5 id fun id=>Iq off fun off=>Iq len fun len=>k (.eq id off len)
 |.ptr id off=>O5 id fun id=>Iq off fun off=>k (.ptr id off)
 |.i7 id i off=>O5 id fun id=>Iq i fun i=>Iq off fun off=>k (.i7 id i off)
 |.rg cs=>Yw cs fun cs=>k (.rg cs)
 |.fn f a b=>Iq f fun f=>k (.fn f a b)
 |.wn id=>O5 id fun id=>k (.wn id)
 |.mp id=>O5 id fun id=>k (.mp id)
 |.iface t v=>Iq t fun t=>k (.iface t v)
 |.agg cs=>k (.agg cs)
 |.ge vs=>k (.ge vs)
 |.undef=>k .undef
def Sd(l:List AV)(k:List AV→α):α:=match l with
 |[]=>k []
 |x::l=>ue x fun x=>Sd l fun l=>k (x::l)
def dD(v:AV)(k:AV→α):α:=match v with
 |.agg cs=>Sd cs fun cs=>k (.agg cs)
 |.ge vs=>Sd vs fun vs=>k (.ge vs)
 |.fn f a b=>Iq f fun f=>Sd a fun a=>Sd b fun b=>k (.fn f a b)
 |.iface t v=>Iq t fun t=>ue v fun v=>k (.iface t v)
 |v=>ue v k
def ME(l:List AV)(k:List AV→α):α:=match l with
 |[]=>k []
 |x::l=>dD x fun x=>ME l fun l=>k (x::l)
def fAV(v:AV)(k:AV→α):α:=match v with
 |.ge vs=>ME vs fun vs=>k (.ge vs)
 |.agg cs=>ME cs fun cs=>k (.agg cs)
 |.iface t v=>Iq t fun t=>dD v fun v=>k (.iface t v)
 |v=>dD v k
def jY(l:List (List AV))(k:List (List AV)→α):α:=match l with
 |[]=>k []
 |x::l=>ME x fun x=>jY l fun l=>k (x::l)
def O4(l:List (Aa×AV))(k:List (Aa×AV)→α):α:=match l with
 |[]=>k []
 |(x,v)::l=>l6 x fun x=>dD v fun v=>O4 l fun l=>k ((x,v)::l)
def AEJ(o:Obj)(k:Obj→α):α:=match o with
 |.box cs=>ME cs fun cs=>k (.box cs)
 |.d9 sz es=>Iq sz fun sz=>P8 es fun es=>k (.d9 sz es)
 |.i5 sz es=>Iq sz fun sz=>P8 es fun es=>k (.i5 sz es)
 |.arr sz es=>Iq sz fun sz=>jY es fun es=>k (.arr sz es)
 |.map es=>O4 es fun es=>k (.map es)
 |.loop r=>k (.loop r)
def Se(h:AD)(k:AD→α):α:=match h with
 |[]=>k []
 |(id,o)::h=>O5 id fun id=>AEJ o fun o=>Se h fun h=>k ((id,o)::h)
def G3(h:AD)(k:AD→α):α:=match h with
 |[]=>k []
 |(id,o)::h=>G3 h fun h=>k ((id,o)::h)
def AAW(e:Bn)(k:Bn→α):α:=match e with
 |[]=>k []
 |(t,v)::e=>Iq t fun t=>dD v fun v=>AAW e fun e=>k ((t,v)::e)
def VH(e:Bn)(k:Bn→α):α:=match e with
 |[]=>k []
 |p::e=>k (p::e)
end force
def FQ(g:G):AV→Option Aa
 |.d x=>some x
 |.co=>some (.be [])
 |.emp=>some (.be [])
 |.eq id off n=>match g id with
  |some (.d9 _ es)=>(Js es off n).map .be
  |some (.i5 _ es)=>(Js es off n).map .be
  |_=>none
 |_=>none
def C2(g:G):List AV→Option (List Aa)
 |[]=>some []
 |v::vs=>match FQ g v,C2 g vs with
  |some x,some xs=>some (x::xs)
  |_,_=>none
def C6(g:G):List (List AV)→Option (List (List Aa))
 |[]=>some []
 |v::vs=>match C2 g v,C6 g vs with
  |some x,some xs=>some (x::xs)
  |_,_=>none
def Dv(g:G):AV→Option Aa
 |.eq id off n=>match g id with
  |some (.arr _ es)=>match C6 g es with
   |some ds=>(Js ds off n).map .be
   |none=>none
  |_=>FQ g (.eq id off n)
 |v=>FQ g v
def G5(g:G):List AV→Option (List AV)
 |[]=>some []
 |v::vs=>match Dv g v,G5 g vs with
  |some x,some xs=>some (.d x::xs)
  |_,_=>none
def Ej(g:G):AV→Option AV
 |.agg cs=>(G5 g cs).map .agg
 |.fn f [] []=>some (.fn f [] [])
 |.iface t (.agg cs)=>(G5 g cs).map fun c=>.iface t (.agg c)
 |.iface t v=>(Dv g v).map fun x=>.iface t (.d x)
 |v=>(Dv g v).map .d
def Dy(g:G):List AV→Option (List AV)
 |[]=>some []
 |v::vs=>match Ej g v,Dy g vs with
  |some x,some xs=>some (x::xs)
  |_,_=>none
def X2(g:G):AV→Option AV
 |.ge vs=>(Dy g vs).map .ge
 |v=>Ej g v
def J5(g:G):AV→AD
 |.eq id _ _=>match g id with
  |some (.d9 sz es)=>[(id,.i5 sz es)]
  |_=>[]
 |_=>[]
def B5(g:G)(l:List AV):AD:=l.flatMap (J5 g)
def Fj(g:G):AV→AD
 |.eq id off n=>match g id with
  |some (.d9 sz es)=>[(id,.i5 sz es)]
  |some (.arr sz es)=>match C6 g es with
   |some ds=>(id,.i5 sz ds)::es.flatMap (B5 g)
   |none=>[]
  |_=>[]
 |_=>[]
def Kp:AV→List AV
 |.agg cs=>cs
 |.iface _ (.agg cs)=>cs
 |.iface _ v=>[v]
 |v=>[v]
def mark(g:G)(v:AV):AD:=(Kp v).flatMap (Fj g)
def EU:Aa→Bool
 |.be _=>false
 |_=>true
def Fi:List AV→Bool
 |[]=>true
 |.d x::vs=>EU x&&Fi vs
 |_=>false
def flat:AV→Bool
 |.d x=>EU x
 |.co=>true
 |.emp=>true
 |.agg cs=>Fi cs
 |.ge vs=>Fi vs
 |.iface _ (.d x)=>EU x
 |.iface _ (.agg cs)=>Fi cs
 |_=>false
def Bf(v:AV)(h:AD):Option (Id×Obj):=
 match v with
 |.eq id _ _=>match h.get id with
  |some (.d9 sz es)=>if es.all (·.all EU)then some (id,.d9 sz es)else none
  |_=>none
 |_=>none
def MY(id:Id)(δ:AD):Bool:=δ.all fun p=> !Id.is p.1 id
def Jn(g:G)(i:TI)(a v:AV):Option CU:=
 match v.cells.length==i.size&&v.cells.all AV.isCell with
 |false=>none
 |true=>match a with
  |.ptr id off=>match g id with
   |some (.box cs)=>(CG cs off v.cells).map fun cs'=>⟨.undef,[(id,.box cs')]⟩
   |_=>none
  |.i7 id k off=>match g id with
   |some (.d9 sz es)=>match es[k]?,C2 g v.cells,MY id (B5 g v.cells)with
    |some e,some ds,true=>(CG e off ds).map fun e'=>⟨.undef,B5 g v.cells++[(id,.d9 sz (es.set k e'))]⟩
    |_,_,_=>none
   |some (.arr sz es)=>match es[k]? with
    |some e=>(CG e off v.cells).map fun e'=>⟨.undef,[(id,.arr sz (es.set k e'))]⟩
    |none=>none
   |_=>none
  |_=>none
def G0{α:Type}(sz:Nat):Nat→List α→List (List α)
 |0,_=>[]
 |n+1,l=>l.take sz::G0 sz n (l.drop sz)
def BD:Nat:=2 ^ 30
def newArr(g:G)(newId:Id)(j:TI)(es:List (List AV)):Option CU:=
 match es.all (fun e=>e.length==j.size&&e.all AV.isCell)&&Nat.blt 0 j.size&&Nat.ble es.length BD with
 |false=>none
 |true=>match j.mix with
  |true=>some ⟨.eq (1::newId) 0 es.length,[(1::newId,.arr j.size es)]⟩
  |false=>match C6 g es with
   |some ds=>some ⟨.eq (1::newId) 0 es.length,es.flatMap (B5 g)++[(1::newId,.d9 j.size ds)]⟩
   |none=>none
def Du(g:G):AV→Option (List (List AV))
 |.d (.be es)=>some (es.map (·.map .d))
 |.co=>some []
 |.emp=>some []
 |.eq id off n=>(Oi (g id)).bind fun es=>Js es off n
 |_=>none
def appIn(g:G)(newId:Id)(id:Id)(off n sz:Nat)(es:List (List Aa))(src:List (List AV)):Option CU:=
 match C6 g src,MY id (src.flatMap (B5 g))with
 |some ds,true=>match CG es (off+n) ds with
  |some es'=>some ⟨.eq id off (n+ds.length),src.flatMap (B5 g)++[(id,.d9 sz es')]⟩
  |none=>match Nat.beq off 0&&Nat.ble (n+ds.length) BD with
   |true=>some ⟨.eq (1::newId) 0 (n+ds.length),src.flatMap (B5 g)++[(id,.i5 0 []),(1::newId,.d9 sz (es.take n++ds))]⟩
   |false=>none
 |_,_=>none
def appMix(newId:Id)(id:Id)(off n sz:Nat)(es:List (List AV))(src:List (List AV)):Option CU:=
 match CG es (off+n) src with
 |some es'=>some ⟨.eq id off (n+src.length),[(id,.arr sz es')]⟩
 |none=>match Nat.beq off 0&&Nat.ble (n+src.length) BD with
  |true=>some ⟨.eq (1::newId) 0 (n+src.length),[(id,.i5 0 []),(1::newId,.arr sz (es.take n++src))]⟩
  |false=>none
def appTo(g:G)(newId:Id)(j:TI)(s:AV)(src:List (List AV)):Option CU:=
 match s with
 |.co=>newArr g newId j src
 |.emp=>newArr g newId j src
 |.eq id off n=>match g id with
  |some (.d9 sz es)=>match Nat.beq sz j.size&&Nat.ble (off+n) es.length with
   |true=>appIn g newId id off n sz es src
   |false=>none
  |some (.arr sz es)=>match Nat.beq sz j.size&&Nat.ble (off+n) es.length with
   |true=>appMix newId id off n sz es src
   |false=>none
  |_=>none
 |_=>none
def appendV(g:G)(newId:Id)(j:TI)(s x:AV):Option CU:=
 match Du g x with
 |none=>none
 |some []=>match s with
  |.co=>some ⟨.co,[]⟩
  |.emp=>some ⟨.emp,[]⟩
  |.eq id off n=>some ⟨.eq id off n,[]⟩
  |_=>none
 |some src=>match src.all (fun c=>c.length==j.size&&c.all AV.isCell)&&Nat.ble src.length BD&&Nat.blt 0 j.size with
  |true=>appTo g newId j s src
  |false=>none
def Fu(op:BinOp)(k:IntKind)(a b:Int):Option AV:=
 match op with
 |.add=>some (.d (.int k (k.wrap (a+b))))
 |.sub=>some (.d (.int k (k.wrap (a-b))))
 |.mul=>some (.d (.int k (k.wrap (a*b))))
 |.eql=>some (.d (.bool (a==b)))
 |.neq=>some (.d (.bool (a !=b)))
 |.lss=>some (.d (.bool (decide (a<b))))
 |.leq=>some (.d (.bool (decide (a≤b))))
 |.gtr=>some (.d (.bool (decide (b<a))))
 |.geq=>some (.d (.bool (decide (b≤a))))
 |.rem=>if b=0 then none else some (.d (.int k (a.tmod b)))
 |.quo=>if b=0 then none else some (.d (.int k (k.wrap (a.tdiv b))))
 |_=>none
def Gz:TK→AV→AV→Option Bool
 |.int,.d (.int k a),.d (.int k' b)=>if k=k' then some (a==b)else none
 |.bool,.d (.bool a),.d (.bool b)=>some (a==b)
 |.str,.d (.str a),.d (.str b)=>some (a==b)
 |_,_,_=>none
def Eh:List TK→List AV→List AV→Option Bool
 |[],[],[]=>some true
 |t::ts,x::xs,y::ys=>match Gz t x y,Eh ts xs ys with
  |some a,some b=>some (a&&b)
  |_,_=>none
 |_,_,_=>none
def Hz:TK→AV→AV→Option Bool
 |.flat ks,.agg cs,.agg ds=>Eh ks cs ds
 |.func,.fn ..,.d .jp=>some false
 |.func,.d .jp,.d .jp=>some true
 |.ptr,.ptr ..,.d .wl=>some false
 |.ptr,.d .wl,.d .wl=>some true
 |.iface,.iface ..,.d .of=>some false
 |.slice,.d (.be (_::_)),.co=>some false
 |.slice,.eq _ _ (_+1),.co=>some false
 |.slice,.co,.co=>some true
 |.bool,x,y=>Gz .bool x y
 |.str,x,y=>Gz .str x y
 |_,_,_=>none
def yx(op:BinOp)(a b:ByteArray):Option AV:=
 match op with
 |.lss=>some (.d (.bool (Op.bytesLess a.toList b.toList)))
 |.leq=>some (.d (.bool (Op.bytesLess a.toList b.toList||a.toList==b.toList)))
 |.gtr=>some (.d (.bool (!(Op.bytesLess a.toList b.toList||a.toList==b.toList))))
 |.geq=>some (.d (.bool (!Op.bytesLess a.toList b.toList)))
 |_=>none
def AG2(op:BinOp):AV→AV→Option AV
 |.d (.str a),.d (.str b)=>yx op a b
 |_,_=>none
def HP(op:BinOp)(x y:AV)(t:Option TI):Option AV:=
 match x,y with
 |.d (.int k a),.d (.int k' b)=>if k=k' then Fu op k a b else none
 |x,y=>match t with
  |some i=>match op,Hz i.kind x y with
   |.eql,some b=>some (.d (.bool b))
   |.neq,some b=>some (.d (.bool (!b)))
   |_,_=>AG2 op x y
  |none=>none
def Zj:Operand→Bool
 |.const _=>true
 |_=>false
def xp(c:Bool)(op:BinOp):AV→AV→Option TI→Option AV
 |.d .of,.d .of,some i=>match c,i.kind,op with
  |true,.iface,.eql=>some (.d (.bool true))
  |true,.iface,.neq=>some (.d (.bool false))
  |_,_,_=>none
 |_,_,_=>none
def orV:Option AV→Option AV→Option AV
 |some v,_=>some v
 |none,r=>r
def kc(c:Bool)(op:BinOp)(x y:AV)(t:Option TI):Option AV:=orV (HP op x y t) (xp c op x y t)
def XR(g:G):TK→AV→Option Nat
 |.slice,.d (.be es)=>some es.length
 |.str,.d (.str s)=>some s.size
 |.slice,.co=>some 0
 |.slice,.emp=>some 0
 |.slice,.eq _ _ n=>some n
 |.map,.mp id=>match g id with
  |some (.map es)=>some es.length
  |_=>none
 |_,_=>none
def Cr:(place:Nat→Option (Nat×Nat))→List AV→List (Nat×AV)→Option (List AV)
 |_,cs,[]=>some cs
 |pl,cs,(i,v)::ps=>match pl i with
  |some (off,size)=>if v.cells.length=size∧v.cells.all AV.isCell then(CG cs off v.cells).bind fun cs'=>Cr pl cs' ps else none
  |none=>none
def IZ:AV→Option Int
 |.d (.int _ n)=>some n
 |_=>none
def HQ:Option AV→Int→Option Int
 |none,d=>some d
 |some v,_=>IZ v
def EH(lo hi mx:Option AV)(n:Nat):Option (Nat×Nat×Option Nat):=
 match HQ lo 0,HQ hi n with
 |some l,some r=>match mx with
  |none=>if 0≤l∧l≤r then some (l.toNat,r.toNat,none)else none
  |some m=>match hi,IZ m with
   |some _,some m=>if 0≤l∧l≤r∧r≤m then some (l.toNat,r.toNat,some m.toNat)else none
   |_,_=>none
 |_,_=>none
def Mz(sz:Nat)(es:List (List Aa)):Bool:=match es with
 |[]=>true
 |e::_=>Nat.beq e.length sz
def Qe(sz:Nat)(es:List (List Aa)):Option (Nat×Nat×Option Nat)→Option AV
 |some (l,r,m)=>match Nat.ble r es.length&&Mz sz es with
  |true=>match m with
   |none=>some (.d (.be ((es.drop l).take (r-l))))
   |some m=>match Nat.beq m l with
    |true=>some .emp
    |false=>none
  |false=>none
 |none=>none
def dI(sz:Nat)(id:Id)(off l r:Nat)(m:Option Nat)(s n:Nat):Option AV:=
 match Nat.beq s sz&&Nat.ble (off+m.getD r) n&&Nat.ble (off+r) n&&Nat.blt 0 n with
 |true=>match m with
  |none=>some (.eq id (off+l) (r-l))
  |some m=>match Nat.beq m l with
   |true=>some .emp
   |false=>some .undef
 |false=>none
def OO(g:G)(sz:Nat)(id:Id)(off:Nat):Option (Nat×Nat×Option Nat)→Option AV
 |some (l,r,m)=>match g id with
  |some (.d9 s es)=>dI sz id off l r m s es.length
  |some (.i5 s es)=>dI sz id off l r m s es.length
  |some (.arr s es)=>dI sz id off l r m s es.length
  |_=>none
 |none=>none
def bj:Option (Nat×Nat×Option Nat)→Option AV
 |some (0,0,none)=>some .co
 |some (0,0,some 0)=>some .emp
 |_=>none
def yn(s:ByteArray):Option (Nat×Nat×Option Nat)→Option AV
 |some (l,r,none)=>if r≤s.size then some (.d (.str (s.extract l r)))else none
 |_=>none
def ET(g:G)(k:TK)(sz:Nat)(x:AV)(lo hi mx:Option AV):Option AV:=
 match k,x with
 |.slice,.d (.be es)=>Qe sz es (EH lo hi mx es.length)
 |.slice,.eq id off n=>OO g sz id off (EH lo hi mx n)
 |.slice,.co=>bj (EH lo hi mx 0)
 |.str,.d (.str s)=>yn s (EH lo hi mx s.size)
 |_,_=>none
def EW(e:Nat→AV)(ps:Array (Nat×Operand)):List (Nat×AV):=ps.toList.map fun p=>(p.1,ev e p.2)
def HJ:Aa→Aa→Option Bool
 |.int k a,.int k' b=>if k=k' then some (a==b)else none
 |.str a,.str b=>some (a==b)
 |.bool a,.bool b=>some (a==b)
 |_,_=>none
def C4:List (Aa×AV)→Aa→Option (Option AV)
 |[],_=>some none
 |(k,v)::es,x=>match HJ k x with
  |some true=>some (some v)
  |some false=>C4 es x
  |none=>none
def Ec:List (Aa×AV)→Aa→AV→List (Aa×AV)
 |[],x,v=>[(x,v)]
 |(k,w)::es,x,v=>match HJ k x with
  |some true=>(k,v)::es
  |_=>(k,w)::Ec es x v
def L6:AV→Option Aa
 |.d x=>some x
 |_=>none
def J3:TK→Aa→Bool
 |.int,.int ..=>true
 |.str,.str _=>true
 |.bool,.bool _=>true
 |_,_=>false
def mapPut(T:TypeId→Option TI)(g:G)(t:Option TI)(m k v:AV):Option CU:=
 match(match t,L6 k with
  |some i,some x=>match i.kind,T i.key with
   |.map,some kt=>J3 kt.kind x&&v.isCell
   |_,_=>false
  |_,_=>false)with
 |false=>none
 |true=>match m,L6 k with
 |.mp id,some x=>match g id with
  |some (.map es)=>match C4 es x with
   |some _=>some ⟨.undef,[(id,.map (Ec es x v))]⟩
   |none=>none
  |_=>none
 |_,_=>none
section ops
variable(T:TypeId→Option TI)(e:Nat→AV)(g:G)(newId:Id)
def OC(c a b:AV):Option CU:=match c with
 |.d (.bool t)=>some ⟨match t with|true=>a|false=>b,[]⟩
 |_=>none
def J8:Option TI→Option CU
 |some i=>if i.zero.length=i.size∧i.zero.all AV.isCell then some ⟨.ptr (0::newId) 0,[(0::newId,.box i.zero)]⟩else none
 |none=>none
def Q9(x:AV):Option TI→Option CU
 |some i=>if x.cells.length=i.size∧x.cells.all AV.isCell then some ⟨.ptr (0::newId) 0,[(0::newId,.box x.cells)]⟩else none
 |none=>none
def J9(ps:List (Nat×AV)):Option TI→Option CU
 |some i=>match i.str&&i.zero.length==i.size with
  |false=>none
  |true=>(Cr (fun k=>(i.flds[k]?).map fun f=>(f.1,f.2.1)) i.zero ps).map fun cs=>⟨.agg cs,[]⟩
 |none=>none
def Gy(n:Nat)(ps:List (Nat×AV))(j:TI):Option CU:=
 match Cr (fun k=>some (k*j.size,j.size)) ((List.replicate n j.zero).flatten) ps with
 |some cs=>match n with
  |0=>some ⟨.emp,[]⟩
  |n=>match Nat.ble (n*j.size) (2 ^ 24)&&j.zero.length==j.size with
   |true=>newArr g newId j (G0 j.size n cs)
   |false=>none
 |none=>none
def Cn(n:Nat)(ps:List (Nat×AV)):Option TI→Option CU
 |some i=>match i.kind,T i.elem with
  |.slice,some j=>Gy g newId n ps j
  |_,_=>none
 |none=>none
def LR(a:AV):Option TI→Option CU
 |some i=>(Jb g i a).map (⟨·,[]⟩)
 |none=>none
def Iw(a x:AV):Option TI→Option CU
 |some i=>Jn g i a x
 |none=>none
def Gb:AV→Option CU
 |.ptr id off=>some ⟨.ptr id off,[]⟩
 |.i7 id k off=>some ⟨.i7 id k off,[]⟩
 |.rg cs=>some ⟨.rg cs,[]⟩
 |_=>none
def jw:AV→Option CU
 |.d (.bool b)=>some ⟨.d (.bool (!b)),[]⟩
 |_=>none
def IE(t:TypeId):AV→Option TI→Option CU
 |.iface t' v,some i=>match i.kind with
  |.iface=>none
  |_=>if t'=t then some ⟨.ge [v,.d (.bool true)],[]⟩else(Fk i.agg i.zero).map fun z=>⟨.ge [z,.d (.bool false)],[]⟩
 |_,_=>none
def LL(ok:Bool)(r:Option AV)(j:TI):Option CU:=
 match r,Fk j.agg j.zero with
 |some v,_=>some ⟨match ok with|true=>.ge [v,.d (.bool true)]|false=>v,[]⟩
 |none,some z=>some ⟨match ok with|true=>.ge [z,.d (.bool false)]|false=>z,[]⟩
 |_,_=>none
def FW(m k:AV)(ok:Bool):Option TI→Option CU
 |some i=>match m,L6 k,i.kind,T i.key with
  |.mp id,some x,.map,some kt=>match J3 kt.kind x,g id with
   |true,some (.map es)=>match C4 es x,T i.elem with
    |some r,some j=>LL ok r j
    |_,_=>none
   |_,_=>none
  |_,_,_,_=>none
 |none=>none
def GP(n:Nat)(j:TI):Option CU:=match n with
 |0=>some ⟨.emp,[]⟩
 |n=>newArr g newId j (List.replicate n j.zero)
def Cx(l c:AV):Option TI→Option CU
 |some i=>match i.kind,T i.elem,l,c with
  |.slice,some j,.d (.int _ n),.d (.int _ m)=>if 0≤n∧n=m∧n≤BD then GP g newId n.toNat j else none
  |_,_,_,_=>none
 |none=>none
def Eg(k:Nat)(x:AV):Option TI→Option CU
 |some i=>match i.flds[k]? with
  |some f=>match f.2.1 with
   |0=>none
   |_=>match x with
    |.ptr id off=>some ⟨.ptr id (off+f.1),[]⟩
    |.i7 id n off=>some ⟨.i7 id n (off+f.1),[]⟩
    |.rg cs=>if f.1≤cs.length then some ⟨.rg (cs.drop f.1),[]⟩else none
    |_=>none
  |none=>none
 |none=>none
def NN(k:Nat)(x:AV):Option TI→Option CU
 |some i=>match i.flds[k]?,x with
  |some f,.agg cs=>((Js cs f.1 f.2.1).bind (Fk f.2.2)).map (⟨·,[]⟩)
  |_,_=>none
 |none=>none
def Nk(n:Int)(x:AV)(j:TI):Option CU:=
 if 0≤n then match x with
  |.d (.be es)=>match es[n.toNat]? with
   |some c=>match Nat.beq c.length j.size with
    |true=>some ⟨.rg c,[]⟩
    |false=>none
   |none=>none
  |.eq id off len=>if n.toNat<len then match g id with
   |some (.d9 sz es)=>if sz=j.size∧off+n.toNat<es.length then some ⟨.i7 id (off+n.toNat) 0,[]⟩else none
   |some (.i5 sz es)=>if sz=j.size∧off+n.toNat<es.length then some ⟨.i7 id (off+n.toNat) 0,[]⟩else none
   |some (.arr sz es)=>if sz=j.size∧off+n.toNat<es.length then some ⟨.i7 id (off+n.toNat) 0,[]⟩else none
   |_=>none
   else none
  |_=>none
 else none
def C9(x i:AV):Option TI→Option CU
 |some t=>match i,t.kind,T t.elem with
  |.d (.int _ n),.slice,some j=>Nk g n x j
  |_,_,_=>none
 |none=>none
def LQ(x i:AV)(t:Option TI):Option CU:=match t.map TI.kind,x,i with
 |some .str,.d (.str s),.d (.int _ n)=>if 0≤n then(s.data.toList[n.toNat]?).map fun b=>⟨.d (.int .u8 b.toNat),[]⟩else none
 |_,_,_=>none
def HV(k:Nat)(x:AV):Option CU:=match x with
 |.ge vs=>(vs[k]?).map (⟨·,[]⟩)
 |_=>none
def IC(t u:Option TI)(s x:AV):Option CU:=
 match t,u with
 |some i,some u=>match i.kind,u.kind,T i.elem with
  |.slice,.slice,some j=>appendV g newId j s x
  |_,_,_=>none
 |_,_=>none
def Hj(id:Id)(off n:Nat)(j:TI):Option CU:=
 match g id with
 |some (.d9 sz es)=>match C2 (fun _=>none) j.zero with
  |some z=>if z.length=sz∧j.zero.length=j.size∧j.zero.all AV.isCell∧0<sz then(CG es off (List.replicate n z)).map fun es'=>⟨.undef,[(id,.d9 sz es')]⟩else none
  |none=>none
 |_=>none
def GQ(t:Option TI)(x:AV):Option CU:=
 match t with
 |some i=>match i.kind,x with
  |.slice,.eq id off n=>match n with
   |0=>some ⟨.undef,[]⟩
   |n=>match T i.elem with
    |some j=>Hj g id off n j
    |none=>none
  |.slice,.co=>some ⟨.undef,[]⟩
  |.slice,.emp=>some ⟨.undef,[]⟩
  |_,_=>none
 |none=>none
def Z9(x y:AV):Option CU:=match x,y with
 |.d (.int k a),.d (.int k' b)=>if k=k' then some ⟨.d (.int k (if b>a then b else a)),[]⟩else none
 |_,_=>none
def aA(x y:AV):Option CU:=match x,y with
 |.d (.int k a),.d (.int k' b)=>if k=k' then some ⟨.d (.int k (if b<a then b else a)),[]⟩else none
 |_,_=>none
def Gl(b:Builtin)(as:List AV)(ts:List TypeId):Option CU:=
 match b with
 |.len=>match as with
  |[x]=>match ts with
   |[t]=>match T t with
    |some i=>(XR g i.kind x).map fun(n:Nat)=>⟨.d (.int .i64 (n:Int)),[]⟩
    |none=>none
   |_=>none
  |_=>none
 |.append=>match as,ts with
  |[s,x],[t,u]=>IC T g newId (T t) (T u) s x
  |_,_=>none
 |.clear=>match as,ts with
  |[x],[t]=>GQ T g (T t) x
  |_,_=>none
 |.max=>match as with
  |[x,y]=>Z9 x y
  |_=>none
 |.min=>match as with
  |[x,y]=>aA x y
  |_=>none
 |_=>none
def KP(c:Call):Option CU:=match c.callee with
 |.builtin b=>Gl T g newId b (c.args.toList.map (ev e)) c.argTypes.toList
 |_=>none
def ey(op:UnOp)(x:AV):Option CU:=match op with
 |.not=>jw x
 |_=>none
def Ga(f:Fn)(a b:List AV):Option CU:=match f with
 |.func f=>some ⟨.fn f a b,[]⟩
 |_=>none
def HX:Option Operand→Option CU
 |none=>some ⟨.mp (1::newId),[(1::newId,.map [])]⟩
 |some _=>none
def LP(t:TypeId)(x:AV):Option TI→Option CU
 |some i=>match i.kind with
  |.iface=>none
  |_=>some ⟨.iface t x,[]⟩
 |none=>none
def Hr(x:AV)(lo hi mx:Option AV):Option TI→Option CU
 |some i=>match i.kind,T i.elem with
  |.slice,some j=>(ET g .slice j.size x lo hi mx).map (⟨·,[]⟩)
  |.str,_=>(ET g .str 0 x lo hi mx).map (⟨·,[]⟩)
  |_,_=>none
 |none=>none
def evalOp(o:Op):Option CU:=
 match o with
 |.move x=>some ⟨ev e x,[]⟩
 |.assign x=>some ⟨ev e x,[]⟩
 |.pick c a b=>OC (ev e c) (ev e a) (ev e b)
 |.alloc t=>J8 newId (T t)
 |.box t x=>Q9 newId (ev e x) (T t)
 |.build t ps=>J9 (EW e ps) (T t)
 |.buildSlice t n ps=>Cn T g newId n (EW e ps) (T t)
 |.load t a=>LR g (ev e a) (T t)
 |.store t a x=>Iw g (ev e a) (ev e x) (T t)
 |.nilCheck x=>Gb (ev e x)
 |.binOp op t x y _=>(kc (Zj x||Zj y) op (ev e x) (ev e y) (T t)).map (⟨·,[]⟩)
 |.unOp op _ x=>ey op (ev e x)
 |.makeInterface t x=>LP t (ev e x) (T t)
 |.typeAssert x _ t ok=>match ok with
  |true=>IE t (ev e x) (T t)
  |false=>none
 |.makeFunc f first cap=>Ga f (first.toList.map (ev e)) (cap.toList.map (ev e))
 |.makeMap _ r=>HX newId r
 |.insert t m k v=>mapPut T g (T t) (ev e m) (ev e k) (ev e v)
 |.mapUpdate t m k v=>mapPut T g (T t) (ev e m) (ev e k) (ev e v)
 |.lookup t m k ok=>FW T g (ev e m) (ev e k) ok (T t)
 |.makeSlice t l c=>Cx T g newId (ev e l) (ev e c) (T t)
 |.slice t x lo hi mx=>Hr T g (ev e x) (lo.map (ev e)) (hi.map (ev e)) (mx.map (ev e)) (T t)
 |.fieldAddr t x k=>Eg k (ev e x) (T t)
 |.field t x k=>NN k (ev e x) (T t)
 |.indexAddr t x i=>C9 T g (ev e x) (ev e i) (T t)
 |.index t x i=>LQ (ev e x) (ev e i) (T t)
 |.extract x k=>HV k (ev e x)
 |.call c=>KP T e g newId c
 |_=>none
end ops
structure Fr where
 f:FuncId
 π:List Nat
 raw:Bool
 ce:Option (List Nat)
 wp:Bool:=false
 nt:Nat
inductive Df where
 |mark (id:Id)
 |call (f:FuncId) (args:List AV)
structure St where
 env:Bn
 heap:AD
 base:Nat
 defs:List Df
inductive Tgt where
 |fn (f:FuncId)
 |round (id:Id) (r:Lp)
inductive Ad where
 |ret (v:AV)
 |f9 (v:AV)
inductive E(α:Type) where
 |ok (x:α)
 |err (l:List Nat)
abbrev AO:=Tgt→List AV→AD→List Nat→Bool→Option (List Nat)→E (Ad×AD)
structure Fp where
 rd:Option (List Id):=some []
 wr:Option (List Id):=some []
inductive HI where
 |ok (st:St) (fp:Fp)
 |f9 (v:AV) (st:St)
 |err (l:List Nat)
mutual
def AF:AV→List Id
 |.eq id _ _=>[id]
 |.ptr id _=>[id]
 |.i7 id _ _=>[id]
 |.wn id=>[id]
 |.mp id=>[id]
 |.iface _ v=>AF v
 |.agg cs=>Az cs
 |.ge vs=>Az vs
 |.fn _ a b=>Az a++Az b
 |_=>[]
def Az:List AV→List Id
 |[]=>[]
 |v::vs=>AF v++Az vs
end
def Cz(g:G)(l:List Id):List Id:=l++l.flatMap fun id=>match g id with
 |some (.arr _ es)=>es.flatMap Az
 |_=>[]
def Dq(e:Nat→AV)(op:Op):List Id:=op.operands.toList.flatMap fun y=>AF (ev e y)
def Ff(e:Nat→AV)(g:G)(op:Op):List Id:=match op with
 |.load ..=>Dq e op
 |.store ..=>Dq e op
 |.buildSlice ..=>Dq e op
 |.insert ..=>Dq e op
 |.mapUpdate ..=>Dq e op
 |.lookup ..=>Dq e op
 |.slice ..=>Dq e op
 |.indexAddr ..=>Dq e op
 |.call c=>match c.callee with
  |.builtin .len=>Dq e op
  |.builtin .clear=>Dq e op
  |.builtin .append=>Cz g (Dq e op)
  |_=>[]
 |_=>[]
def KF(p:Option (List Nat))(δ:AD):Bool:=
 match p with
 |none=>true
 |some ρ=>δ.all fun x=>Id.under ρ x.1
def Ch(e:Bn)(dst:Option Tmp)(v:AV):Bn:=
 match dst with
 |some t=>(t,v)::e
 |none=>e
def Yx{α:Type}(h δ:AD)(k:AD→α):α:=match δ with
 |[]=>k h
 |δ=>G3 (h.puts δ) k
def gc(ρ:List Nat)(h:AD):AD:=h.filter fun p=>match p.1 with
 |0::l=> !Id.under ρ l
 |_=>true
def ER(ρ:List Nat)(dst:Option Tmp)(st:St):E (Ad×AD)→HI
 |.ok (.ret v,h)=>VH (Ch st.env dst v) fun env=>G3 (gc ρ h) fun heap=>.ok {st with env,heap} ⟨none,some (U9 st.heap heap)⟩
 |.ok (.f9 v,h)=>G3 (gc ρ h) fun heap=>.f9 v {st with heap}
 |.err l=>.err l
def Hs(fr:Fr)(as:List AV)(v:AV)(h:AD)(st:St)(env:Bn):HI:=
 match Bf v h with
 |some o=>G3 (o::st.heap) fun heap=>.ok {st with env,heap} ⟨some (Cz st.heap.get (Az as)),some [o.1]⟩
 |none=>
  Se (as.flatMap (mark st.heap.get)) fun δ=>
  match KF fr.ce δ with
  |true=>G3 (h++st.heap.puts δ) fun heap=>.ok {st with env,heap} ⟨some (Cz st.heap.get (Az as)),some (δ.map (·.1)++h.map (·.1))⟩
  |false=>.err [2]
def DZ(fr:Fr)(as:List AV)(dst:Option Tmp)(st:St):E (Ad×AD)→HI
 |.ok (.ret v,h)=>VH (Ch st.env dst v) fun env=>match flat v with
  |true=>.ok {st with env} ⟨some (Cz st.heap.get (Az as)),some []⟩
  |false=>Hs fr as v h st env
 |.ok (.f9 v,_)=>match flat v with
  |true=>.f9 v st
  |false=>.err [3]
 |.err l=>.err l
def Pg(dst:Option Tmp)(st:St):E (Ad×AD)→HI
 |.ok (.ret v,_)=>match flat v with
  |true=>VH (Ch st.env dst v) fun env=>.ok {st with env} ⟨none,some []⟩
  |false=>.err [4]
 |.ok (.f9 v,_)=>match flat v with
  |true=>.f9 v st
  |false=>.err [3]
 |.err l=>.err l
def Mm(g:G)(as:List AV):List AV:=as.map fun v=>(Ej g v).getD v
def FK(K:AO)(fr:Fr)(ρ:List Nat)(f:FuncId)(as:List AV)(dst:Option Tmp)(st:St)(m:Mode):HI:=
 ME (Mm st.heap.get as) fun xs=>
 Se (as.flatMap (mark st.heap.get)) fun δ=>
 match m with
 |.ro=>G3 (st.heap.puts δ) fun heap=>Pg dst st (K (.fn f) xs heap ρ true (some ρ))
 |_=>
  match KF fr.ce δ with
  |true=>G3 (st.heap.puts δ) fun heap=>ER ρ dst st (K (.fn f) xs heap ρ true fr.ce)
  |false=>.err [2]
def Dh(K:AO)(fr:Fr)(ρ:List Nat)(f:FuncId)(as:List AV)(dst:Option Tmp)(st:St)(m:Mode):HI:=
 match m with
 |.raw=>ER ρ dst st (K (.fn f) as st.heap ρ true fr.ce)
 |m=>match Dy st.heap.get as with
  |some xs=>ME xs fun xs=>DZ fr as dst st (K (.fn f) xs [] (match m with|.own=>ρ|_=>[]) false none)
  |none=>FK K fr ρ f as dst st m
def Jv(K:AO)(fr:Fr)(ρ:List Nat)(id:Id)(as:List AV)(dst:Option Tmp)(st:St):HI:=
 match st.heap.get id with
 |some (.loop r)=>ER ρ dst st (K (.round id r) as st.heap ρ true fr.ce)
 |_=>.err [1]
def EK(C:Cj)(K:AO)(fr:Fr)(ρ:List Nat)(fv:AV)(args:List AV)(dst:Option Tmp)(st:St):HI:=
 match fv with
 |.wn id=>Jv K fr ρ id args dst st
 |.fn f first cap=>ME (first++args++cap) fun as=>Dh K fr ρ f as dst st (C.mode f)
 |_=>.err [5]
def GB(C:Cj)(K:AO)(fr:Fr)(ρ:List Nat)(r:AV)(m:String)(args:List AV)(dst:Option Tmp)(st:St):HI:=
 match r with
 |.iface t v=>match C.meth t m with
  |some f=>EK C K fr ρ (.fn f [v] []) args dst st
  |none=>.err [7]
 |_=>.err [8]
def GL(st:St)(v:AV):HI:=match flat v with
 |true=>match v with
  |.iface t u=>.f9 (.iface t u) st
  |_=>.err [9]
 |false=>.err [9]
def Hl(fr:Fr)(e:Nat→AV)(c:Call)(dst:Option Tmp)(st:St):HI:=match c.callee with
 |.value f=>match ev e f,fr.wp with
  |.fn g [] [],false=>.ok {st with env:=Ch st.env dst .undef,defs:=.call g (c.args.toList.map (ev e))::st.defs} ⟨none,none⟩
  |_,_=>.err [10]
 |_=>.err [10]
def DV(fr:Fr)(op:Op)(dst:Option Tmp)(st:St):Option CU→HI
 |some x=>fAV x.v fun v=>Se x.δ fun δ=>match KF fr.ce δ with
  |true=>VH (Ch st.env dst v) fun env=>Yx st.heap δ fun heap=>
   .ok {st with env,heap} ⟨some (Ff st.env.get st.heap.get op),some (δ.map (·.1))⟩
  |false=>.err [11]
 |none=>.err [12]
def A6(C:Cj)(K:AO)(fr:Fr)(ρ:List Nat)(op:Op)(dst:Option Tmp)(st:St):HI:=
 match op with
 |.call c=>match c.callee with
  |.value f=>EK C K fr ρ (ev st.env.get f) (c.args.toList.map (ev st.env.get)) dst st
  |.invoke r m=>GB C K fr ρ (ev st.env.get r) m (c.args.toList.map (ev st.env.get)) dst st
  |.builtin _=>DV fr op dst st (KP C.T st.env.get st.heap.get ρ c)
 |.panic x=>GL st (ev st.env.get x)
 |.defer c=>Hl fr st.env.get c dst st
 |op=>DV fr op dst st (evalOp C.T st.env.get st.heap.get ρ op)
def NA(ops:Array Oper)(e:Bn)(o:Oper):Option Bool:=
 match o.guard with
 |none=>some true
 |some (j,want)=>match((ops[j]?).bind (·.dst)).map e.get with
  |some (.d (.bool b))=>some (b==want)
  |some (.ge [])=>some false
  |_=>none
def CY(C:Cj)(K:AO)(fr:Fr)(ops:Array Oper)(ρ:List Nat)(o:Oper)(st:St):HI:=
 match NA ops st.env o with
 |none=>.err [6]
 |some false=>VH (Ch st.env o.dst (.ge [])) fun env=>.ok {st with env} {}
 |some true=>A6 C K fr ρ o.op o.dst st
def Wv(fp:Fp):E ((Option AV×St)×List Fp)→E ((Option AV×St)×List Fp)
 |.ok (r,fps)=>.ok (r,fp::fps)
 |.err l=>.err l
def DB(C:Cj)(K:AO)(fr:Fr)(ops:Array Oper)(b:Nat)(alone:Nat→Bool):List Oper→Nat→St→E ((Option AV×St)×List Fp)
 |[],_,st=>.ok ((none,st),[])
 |o::l,i,st=>Iq (b+i) fun n=>match CY C K fr ops (n::fr.π) o st with
  |.ok st' fp=>Wv fp (DB C K fr ops b alone l (i+1) st')
  |.f9 v st'=>match alone i with
   |true=>.ok ((some v,st'),[])
   |false=>.err [13,i]
  |.err l=>.err (i::l)
def apart(a b:Option (List Id)):Bool:=
 match a,b with
 |some [],_=>true
 |_,some []=>true
 |some l,some m=>l.all fun x=> !m.contains x
 |_,_=>false
def Fp.apart(a b:Fp):Bool:=Abs.apart a.wr b.rd&&Abs.apart a.rd b.wr&&Abs.apart a.wr b.wr
def Dp(fps:List Fp)(l:List (Nat×Nat)):Bool:=
 l.all fun(i,j)=>match fps[i]?,fps[j]? with
  |some a,some b=>a.apart b
  |_,_=>true
inductive Ds where
 |normal
 |exit (id:Nat)
 |ret
 |f9 (v:AV)
def Lf(l:List Id)(id:Id):List Id:=match l.any (Id.is id)with|true=>l|false=>l++[id]
def E6(l:List Id)(new:List Id):List Id:=new.foldl Lf l
def Fv:Option Obj→List Id
 |some (.box cs)=>Az cs
 |some (.arr _ es)=>es.flatMap Az
 |some (.map es)=>es.flatMap fun p=>AF p.2
 |some (.loop r)=>r.env.flatMap fun p=>AF p.2
 |_=>[]
def CP(h:AD):Nat→List Id→Nat→List Id
 |0,l,_=>l
 |n+1,l,i=>match l[i]? with
  |some id=>CP h n (E6 l (Fv (h.get id))) (i+1)
  |none=>l
def Dn(π:List Nat):List Id→Nat→Id→Option Id
 |[],_,_=>none
 |x::r,n,id=>match Id.is x id with|true=>some ((match id with|0::_=>0|_=>1)::n::π)|false=>Dn π r (n+1) id
mutual
def Gm(ν:Id→Option Id):AV→AV
 |.eq id o n=>match ν id with|some id=>.eq id o n|none=>.undef
 |.ptr id o=>match ν id with|some id=>.ptr id o|none=>.undef
 |.i7 id i o=>match ν id with|some id=>.i7 id i o|none=>.undef
 |.wn id=>match ν id with|some id=>.wn id|none=>.undef
 |.mp id=>match ν id with|some id=>.mp id|none=>.undef
 |.iface t v=>.iface t (Gm ν v)
 |.agg cs=>.agg (IJ ν cs)
 |.ge vs=>.ge (IJ ν vs)
 |.fn f a b=>.fn f (IJ ν a) (IJ ν b)
 |v=>v
def IJ(ν:Id→Option Id):List AV→List AV
 |[]=>[]
 |v::vs=>Gm ν v::IJ ν vs
end
def Gd(ν:Id→Option Id):Obj→Obj
 |.box cs=>.box (IJ ν cs)
 |.arr sz es=>.arr sz (es.map (IJ ν))
 |.map es=>.map (es.map fun p=>(p.1,Gm ν p.2))
 |.loop r=>.loop {r with env:=r.env.map fun p=>(p.1,Gm ν p.2)}
 |o=>o
def DP(h:AD)(ν:Id→Option Id):List Id→AD
 |[]=>[]
 |id::r=>match h.get id,ν id with
  |some o,some id'=>(id',Gd ν o)::DP h ν r
  |_,_=>DP h ν r
def fSt{α:Type}(st:St)(k:St→α):α:=AAW st.env fun env=>Se st.heap fun heap=>Iq st.base fun base=>k {env,heap,base,defs:=st.defs}
def Et(C:Cj)(fr:Fr)(b:Nat)(st:St):St:=
 let e:=(C.live fr.f b).map fun t=>(t,st.env.get t)
 if fr.raw|| !st.defs.isEmpty then{st with env:=e}
 else
  let l:=CP st.heap 1000 (E6 [] (e.flatMap fun p=>AF p.2)) 0
  let ν:=Dn fr.π l 0
  {env:=e.map fun p=>(p.1,Gm ν p.2),heap:=DP st.heap ν l,base:=l.length,defs:=[]}
def Lu:TypeDesc→Bool
 |.struct _=>true
 |.array ..=>true
 |_=>false
def IL:TypeDesc→TK
 |.bool=>.bool
 |.int _=>.int
 |.string=>.str
 |_=>.other
def QC(P:Program):Nat→List Field→Option (List TK)
 |_,[]=>some []
 |n,f::fs=>match(P.underlying f.type).map IL,(P.info? f.type).map (·.size),QC P (n+1) fs with
  |some .bool,some 1,some ks=>if f.offset=n∧f.name≠ "_" then some (.bool::ks)else none
  |some .int,some 1,some ks=>if f.offset=n∧f.name≠ "_" then some (.int::ks)else none
  |some .str,some 1,some ks=>if f.offset=n∧f.name≠ "_" then some (.str::ks)else none
  |_,_,_=>none
def Cm(P:Program)(t:TypeId):TypeDesc→TK
 |.bool=>.bool
 |.int _=>.int
 |.string=>.str
 |.func ..=>.func
 |.pointer _=>.ptr
 |.interface _=>.iface
 |.slice _=>.slice
 |.map ..=>.map
 |.struct fs=>match QC P 0 fs.toList with
  |some ks=>if P.stoodInHeld t=false∧P.eqGuardType P.depth t=false then .flat ks else .other
  |none=>.other
 |_=>.other
def MG(P:Program):TypeDesc→List (Nat×Nat×Bool)
 |.struct fs=>fs.toList.map fun f=>(f.offset,((P.info? f.type).map (·.size)).getD 0,((P.underlying f.type).map Lu).getD false)
 |_=>[]
def vw:TypeDesc→Bool
 |.struct _=>true
 |_=>false
def Ke(P:Program):TypeDesc→Bool
 |.struct fs=>fs.toList.all fun f=>(P.info? f.type).isSome&&(P.underlying f.type).isSome
 |_=>true
def Sw:Value→Bool
 |.agg _=>true
 |_=>false
def Im:TypeDesc→TypeId
 |.slice e=>e
 |.map _ e=>e
 |_=>0
def XO:TypeDesc→TypeId
 |.map k _=>k
 |_=>0
def B6(P:Program)(mix:List TypeId)(t:TypeId):Option TI:=
 match P.info? t,P.underlying t with
 |some i,some d=>match i.zero with
  |some z=>match Nat.ble i.bytes 65536&&Ke P d&&Nat.beq z.cells.size i.size&&(Sw z==Lu d)with
   |true=>some {kind:=Cm P t d,size:=i.size,agg:=Lu d,str:=vw d,zero:=z.cells.toList.map DU,flds:=MG P d,elem:=Im d,key:=XO d,mix:=mix.any (Nat.beq t)}
   |false=>none
  |none=>none
 |_,_=>none
def Kn(C:Cj)(f:FuncId)(id n base:Nat)(draw:Bool):E ((Option AV×St)×List Fp)→E (Ds×St)
 |.ok ((o,st'),fps)=>
  match !draw||Dp fps (C.d8 f id)with
  |true=>Iq (base+n) fun base=>match o with
   |none=>.ok (.normal,{st' with base})
   |some v=>.ok (.f9 v,{st' with base})
  |false=>.err [15,id]
 |.err l=>.err (id::l)
def EN(C:Cj)(K:AO)(fr:Fr)(id:Nat)(ops:Array Oper)(draw:Bool)(st:St):E (Ds×St):=
 Kn C fr.f id ops.size st.base draw (DB C K fr ops st.base (fun i=> !draw||C.alone fr.f id i) ops.toList 0 st)
def G9(id:Nat):E (Ds×St)→E (Ds×St)
 |.ok (.exit id',st')=>match Nat.beq id' id with
  |true=>.ok (.normal,st')
  |false=>.ok (.exit id',st')
 |r=>r
def DY(y:St→E (Ds×St)):E (Ds×St)→E (Ds×St)
 |.ok (.normal,st')=>y st'
 |r=>r
def Kd(c:AV)(x y:E (Ds×St)):E (Ds×St):=
 match c with
 |.d (.bool t)=>match t with
  |true=>x
  |false=>y
 |_=>.err [14]
def Xf(st:St):Option Obj→E (Ds×St)
 |some (.loop r)=>match r.state with
  |.busy=>.err [16]
  |_=>match r.rt with
   |none=>.ok (.normal,st)
   |some .ret=>.ok (.ret,st)
   |some (.exit k)=>.ok (.exit k,st)
   |some _=>.err [38]
 |_=>.err [17]
def Jh(ρ ρ2:List Nat)(id:Id)(st1:St):E (Ad×AD)→E (Ds×St)
 |.ok (.ret _,h')=>G3 (gc ρ (gc ρ2 h')) fun heap=>Xf {st1 with heap} (h'.get id)
 |.ok (.f9 v,h')=>G3 (gc ρ (gc ρ2 h')) fun heap=>.ok (.f9 v,{st1 with heap})
 |.err l=>.err l
def KV(K:AO)(ce:Option (List Nat))(ρ:List Nat)(id:Id)(h:AD):AV→E (Ad×AD)
 |.fn f first cap=>ME (first++[.wn id]++cap) fun as=>K (.fn f) as h ρ true ce
 |_=>.err [18]
def Gh(K:AO)(fr:Fr)(g:Operand)(ps:Array Tmp)(kw body:Code)(st:St):E (Ds×St):=
 match fr.wp with
 |true=>.err [37]
 |false=>
 Iq st.base fun b=>
 G3 (st.heap.put (0::b::fr.π) (.loop {state:=.ready,rt:=none,f:=fr.f,env:=st.env,params:=ps.toList,kw:=kw,body:=body,nt:=fr.nt})) fun h=>
 Iq (b+1) fun b1=>
 Iq (b+2) fun base=>
 Jh (b::fr.π) (b1::fr.π) (0::b::fr.π) {st with heap:=h,base,defs:=.mark (0::b::fr.π)::st.defs}
  (KV K fr.ce (b1::fr.π) (0::b::fr.π) h (ev st.env.get g))
def BQ(C:Cj)(K:AO)(fr:Fr):Nat→Nat→Code→St→E (Ds×St)
 |0,_,_,_=>.err [0]
 |n+1,b,c,st=>match c with
  |.skip=>.ok (.normal,st)
  |.label _=>.ok (.normal,st)
  |.seq x y=>DY (BQ C K fr n b y) (BQ C K fr n b x st)
  |.cond c x y=>Kd (ev st.env.get c) (BQ C K fr n b x st) (BQ C K fr n b y st)
  |.block id x=>G9 id (BQ C K fr n id x st)
  |.loop x=>fSt (Et C fr b st) fun st=>DY (BQ C K fr n b (.loop x)) (BQ C K fr n b x st)
  |.exit id=>.ok (.exit id,st)
  |.ret=>.ok (.ret,st)
  |.region id ops draw=>EN C K fr id ops draw st
  |.rangeFunc g ps kw body=>Gh K fr g ps kw body st
  |_=>.err [19]
def Cu(C:Cj)(st:St):ResultVar→Option AV
 |.tmp t=>some (st.env.get t)
 |.cell a t=>(C.T t).bind fun i=>Jb st.heap.get i (st.env.get a)
def Nb{α β:Type}(f:α→Option β):List α→Option (List β)
 |[]=>some []
 |x::l=>match f x,Nb f l with
  |some y,some m=>some (y::m)
  |_,_=>none
def JI(C:Cj)(fn:Func)(st:St):Option AV:=
 match Nb (Cu C st) fn.results.toList with
 |some []=>some (.ge [])
 |some [v]=>some v
 |some vs=>some (.ge vs)
 |none=>none
def DD(C:Cj)(ce:Option (List Nat)):List Df→Option AV→AD→E (Option AV×AD)
 |[],p,h=>.ok (p,h)
 |.mark _::l,p,h=>DD C ce l p h
 |.call f args::l,p,h=>match C.pp f,args with
  |some t,[.ptr id off]=>match p with
   |none=>DD C ce l none h
   |some (.iface t' (.agg [.d (.int k n)]))=>match Nat.beq t' t&&KF ce [(id,.box [])]with
    |true=>match h.get id with
     |some (.box cs)=>match CG cs off [.d (.int k n)]with
      |some cs'=>DD C ce l none (h.put id (.box cs'))
      |none=>.err [20]
     |_=>.err [21]
    |false=>.err [22]
   |_=>.err [23]
  |_,_=>.err [24]
def Ed:Nat→List AV→Bn
 |_,[]=>[]
 |n,v::vs=>(n,v)::Ed (n+1) vs
def Dz(e:Bn):List Nat→List AV→Option Bn
 |[],[]=>some e
 |t::ts,v::vs=>Dz ((t,v)::e) ts vs
 |_,_=>none
def TL(C:Cj)(f:FuncId)(fn:Func)(π:List Nat)(raw:Bool)(st:St):E (Option AV×AD)→E (Ad×AD)
 |.ok (none,h)=>match JI C fn {st with heap:=h}with
  |some r=>fAV r fun r=>match raw with
   |true=>.ok (.ret r,h)
   |false=>match π with
    |[]=>match X2 h.get r with
     |some r'=>fAV r' fun r'=>.ok (.ret r',[])
     |none=>.err [26,f]
    |_=>.ok (.ret r,h)
  |none=>.err [27,f]
 |.ok (some v,h)=>.ok (.f9 v,h)
 |.err l=>.err (f::l)
def uU(C:Cj)(ce:Option (List Nat))(f:FuncId)(fn:Func)(π:List Nat)(raw:Bool):E (Ds×St)→E (Ad×AD)
 |.ok (o,st)=>match o with
  |.ret=>TL C f fn π raw st (DD C ce st.defs none st.heap)
  |.normal=>TL C f fn π raw st (DD C ce st.defs none st.heap)
  |.f9 v=>TL C f fn π raw st (DD C ce st.defs (some v) st.heap)
  |_=>.err [28,f]
 |.err l=>.err (f::l)
def Pn(P:Program)(C:Cj)(K:AO)(fuel:Nat)(f:FuncId)(args:List AV)(h:AD)(π:List Nat)(raw:Bool)(ce:Option (List Nat)):E (Ad×AD):=
 match P.funcs[f]? with
 |some fn=>match fn.body with
  |some c=>match Nat.ble args.length fn.ntmps with
   |true=>uU C ce f fn π raw (BQ C K {f,π,raw,ce,nt:=fn.ntmps} fuel 0 c {env:=Ed 0 args,heap:=h,base:=0,defs:=[]})
   |false=>.err [39,f]
  |none=>.err [29,f]
 |none=>.err [30,f]
def Jk(id:Id)(h:AD)(r:Lp)(j:Option Code):E (Ad×AD):=
 .ok (.ret (.d (.bool j.isNone)),h.put id (.loop {r with state:=match j with|none=>.ready|some _=>.done,rt:=j}))
def bU(id:Id)(o:Ds)(h:AD):Option Obj→E (Ad×AD)
 |some (.loop r)=>match o with
  |.normal=>Jk id h r none
  |.ret=>Jk id h r (some .ret)
  |.exit k=>Jk id h r (some (.exit k))
  |.f9 v=>.ok (.f9 v,h)
 |_=>.err [32]
def Ph(id:Id):E (Ds×St)→E (Ad×AD)
 |.ok (o,st)=>match st.defs with
  |[]=>bU id o st.heap (st.heap.get id)
  |_=>.err [31]
 |.err l=>.err (99::l)
def NU(C:Cj)(K:AO)(fuel:Nat)(id:Id)(r0:Lp)(π:List Nat)(ce:Option (List Nat))(st:St):Option Obj→E (Ad×AD)
 |some (.loop r)=>match r.state with
  |.ready=>G3 (st.heap.put id (.loop {r with state:=.busy})) fun heap=>
   Ph id (BQ C K {f:=r0.f,π,raw:=true,ce,wp:=true,nt:=r0.nt} fuel 0 r0.body {st with heap})
  |_=>.err [36]
 |_=>.err [33]
def IK(C:Cj)(K:AO)(fuel:Nat)(id:Id)(r0:Lp)(π:List Nat)(ce:Option (List Nat)):E (Ds×St)→E (Ad×AD)
 |.ok (.normal,st)=>match st.defs,KF ce [(id,.box [])]with
  |[],true=>NU C K fuel id r0 π ce st (st.heap.get id)
  |_,_=>.err [40]
 |_=>.err [34]
def HC(C:Cj)(K:AO)(fuel:Nat)(id:Id)(r:Lp)(args:List AV)(h:AD)(π:List Nat)(ce:Option (List Nat)):E (Ad×AD):=
 match Dz r.env r.params args with
 |some e=>IK C K fuel id r π ce (BQ C K {f:=r.f,π,raw:=true,ce,wp:=true,nt:=r.nt} fuel 0 r.kw {env:=e,heap:=h,base:=0,defs:=[]})
 |none=>.err [35]
def H5(P:Program)(C:Cj)(m:Nat):Nat→AO
 |0=>fun _ _ _ _ _ _=>.err [25]
 |n+1=>fun t args h π raw ce=>match t with
  |.fn f=>match C.i6 f with
   |true=>Pn P C (H5 P C m n) m f args h π raw ce
   |false=>.err [41,f]
  |.round id r=>match raw with
   |true=>HC C (H5 P C m n) m id r args h π ce
   |false=>.err [42]
end Go.Abs
namespace Go.Abs
section
variable{α:Type}
@[simp] theorem Ho(n:Nat)(k:Nat→α):Iq n k=k n:=by cases n<;>rfl
@[simp] theorem AGa(b:Bool)(k:Bool→α):ADY b k=k b:=by cases b<;>rfl
@[simp] theorem AHC(n:Int)(k:Int→α):AEI n k=k n:=by cases n<;>simp[AEI]
@[simp] theorem AGd(x:IntKind)(k:IntKind→α):ADa x k=k x:=by cases x<;>rfl
@[simp] theorem AGe(l:List Nat)(k:List Nat→α):O5 l k=k l:=by
  induction l generalizing k with
  |nil=>rfl
  |cons n l ih=>simp[O5,ih]
@[simp] theorem AHA(x:Aa)(k:Aa→α):l6 x k=k x:=by cases x<;>simp[l6]
@[simp] theorem AGc(l:List Aa)(k:List Aa→α):Yw l k=k l:=by
  induction l generalizing k with
  |nil=>rfl
  |cons n l ih=>simp[Yw,ih]
@[simp] theorem AF1(l:List (List Aa))(k:List (List Aa)→α):P8 l k=k l:=by
  induction l generalizing k with
  |nil=>rfl
  |cons n l ih=>simp[P8,ih]
@[simp] theorem AGb(x:Aa)(k:Aa→α):uf x k=k x:=by cases x<;>simp[uf,l6]
@[simp] theorem AG8(x:AV)(k:AV→α):ue x k=k x:=by cases x<;>simp[ue]
@[simp] theorem AGY(l:List AV)(k:List AV→α):Sd l k=k l:=by
  induction l generalizing k with
  |nil=>rfl
  |cons n l ih=>simp[Sd,ih]
@[simp] theorem AG9(x:AV)(k:AV→α):dD x k=k x:=by
  unfold dD;split<;>simp
@[simp] theorem BO(l:List AV)(k:List AV→α):ME l k=k l:=by
  induction l generalizing k with
  |nil=>rfl
  |cons n l ih=>simp[ME,ih]
@[simp] theorem KM(x:AV)(k:AV→α):fAV x k=k x:=by
  unfold fAV;split<;>simp
@[simp] theorem AGZ(l:List (List AV))(k:List (List AV)→α):jY l k=k l:=by
  induction l generalizing k with
  |nil=>rfl
  |cons n l ih=>simp[jY,ih]
@[simp] theorem ADZ(l:List (Aa×AV))(k:List (Aa×AV)→α):O4 l k=k l:=by
  induction l generalizing k with
  |nil=>rfl
  |cons n l ih=>obtain⟨x,v⟩:=n;simp[O4,ih]
@[simp] theorem AHD(x:Obj)(k:Obj→α):AEJ x k=k x:=by cases x<;>simp[AEJ]
@[simp] theorem Bt(l:AD)(k:AD→α):Se l k=k l:=by
  induction l generalizing k with
  |nil=>rfl
  |cons n l ih=>obtain⟨x,v⟩:=n;simp[Se,ih]
@[simp] theorem An(l:AD)(k:AD→α):G3 l k=k l:=by
  induction l generalizing k with
  |nil=>rfl
  |cons n l ih=>obtain⟨x,v⟩:=n;simp[G3,ih]
@[simp] theorem AHB(l:Bn)(k:Bn→α):AAW l k=k l:=by
  induction l generalizing k with
  |nil=>rfl
  |cons n l ih=>obtain⟨x,v⟩:=n;simp[AAW,ih]
@[simp] theorem A8(l:Bn)(k:Bn→α):VH l k=k l:=by cases l<;>rfl
@[simp] theorem K9(st:St)(k:St→α):fSt st k=k st:=by simp[fSt]
@[simp] theorem MF(h δ:AD)(k:AD→α):Yx h δ k=k (h.puts δ):=by
  cases δ<;>simp[Yx,AD.puts]
end
theorem Id.is_iff(a b:Id):Id.is a b=true↔a=b:=by
 induction a generalizing b with
 |nil=>cases b<;>simp[Id.is]
 |cons n l ih=>
  cases b with
  |nil=>simp[Id.is]
  |cons m k=>
   simp only[Id.is];split
   .rename_i h;have:n=m:=D3 h;simp[ih,this]
   .rename_i h;have:n≠m:=fun h'=>by subst h';simp at h
    simp[this]
theorem Id.is_false_iff(a b:Id):Id.is a b=false↔a≠b:=by
 rw[←Kw,Id.is_iff]
@[simp] theorem Id.is_self(a:Id):Id.is a a=true:=(Id.is_iff a a).2 rfl
theorem Id.under_iff(ρ a:Id):Id.under ρ a=true↔ρ<:+a:=by
 induction a with
 |nil=>simp[Id.under,Id.is_iff]
 |cons n l ih=>
  simp only[Id.under];split
  .rename_i h;rw[Id.is_iff]at h;subst h;simp
  .rename_i h;rw[Id.is_false_iff]at h;rw[ih,IT];simp[h]
@[simp] theorem AD.get_nil(id:Id):AD.get [] id=none:=rfl
theorem AD.get_cons(k:Id)(o:Obj)(h:AD)(id:Id):AD.get ((k,o)::h) id=if k=id then some o else h.get id:=by
 simp only[AD.get];split
 .rename_i h';rw[Id.is_iff]at h';simp[h']
 .rename_i h';rw[Id.is_false_iff]at h';simp[h']
theorem AD.get_put(h:AD)(id:Id)(o:Obj)(id':Id):(h.put id o).get id'=if id=id' then some o else h.get id':=by
 induction h with
 |nil=>simp[AD.put,AD.get_cons]
 |cons p h ih=>
  obtain⟨k,x⟩:=p;simp only[AD.put];split
  .rename_i h';rw[Id.is_iff]at h';subst h';simp[AD.get_cons];split<;>simp_all
  .rename_i h';rw[Id.is_false_iff]at h';simp only[AD.get_cons,ih];split
   .rename_i h1;subst h1;simp[Ne.symm h']
   .rfl
theorem AD.get_append(h h':AD)(id:Id):AD.get (h++h') id=(h.get id).or (h'.get id):=by
 induction h with
 |nil=>simp
 |cons p h ih=>
  obtain⟨k,x⟩:=p;simp only[F3,AD.get_cons,ih];split<;>simp
theorem Bn.get_cons(k:Nat)(v:AV)(e:Bn)(t:Nat):Bn.get ((k,v)::e) t=if k=t then v else e.get t:=by
 simp only[Bn.get];split
 .rename_i h;have:=D3 h;simp[this]
 .rename_i h;have:k≠t:=fun h'=>by subst h';simp at h
  simp[this]
theorem AD.puts_nil(h:AD):h.puts []=h:=rfl
theorem AD.puts_cons(h:AD)(p:Id×Obj)(δ:AD):h.puts (p::δ)=(h.put p.1 p.2).puts δ:=rfl
theorem AD.puts_append(h δ δ':AD):h.puts (δ++δ')=(h.puts δ).puts δ':=by simp[AD.puts,List.foldl_append]
variable{A:Nat→Prop}
structure RY where
 b:Nat
 sz:Nat
 n:Nat
abbrev Aw:=Id→Option RY
inductive DR(w:World)(M:Nat→Prop):Aa→Value→Prop
 |int (k n):DR w M (.int k n) (.int k n)
 |bool (b):DR w M (.bool b) (.bool b)
 |str (s):DR w M (.str s) (.string s)
 |wl:DR w M .wl (.pointer none)
 |jp:DR w M .jp .nilFunc
 |of:DR w M .of .nilIface
 |v6:DR w M .v6 (.map none)
 |ws (a cap):DR w M (.be []) (.slice a 0 cap)
 |be (es:List (List Aa)) (b off cap sz:Nat) (c:Array Value) (elem:TypeId) (fr:Nat×Nat):
  w.heap[b]? =some (.cells c elem fr)→ ¬M b→(∀e∈es,e.length=sz)→off+es.length*sz≤c.size→
  (∀i x v,es.flatten[i]? =some x→c[off+i]? =some v→DR w M x v)→es.length≤cap→DR w M (.be es) (.slice (some ⟨b,off,none⟩) es.length cap)
inductive VR(β:Aw)(w:World)(M:Nat→Prop):AV→Value→Prop
 |d {x v}:DR w M x v→VR β w M (.d x) v
 |co:VR β w M .co (.slice none 0 0)
 |emp (a):VR β w M .emp (.slice a 0 0)
 |eq (id off len k a cap):β id=some k→off*k.sz+cap*k.sz=k.n→len≤cap→(a=some ⟨k.b,off*k.sz,none⟩∨cap=0)→
  VR β w M (.eq id off len) (.slice a len cap)
 |ptr (id off k):β id=some k→VR β w M (.ptr id off) (.pointer (some ⟨k.b,off,none⟩))
 |i7 (id i off k):β id=some k→VR β w M (.i7 id i off) (.pointer (some ⟨k.b,i*k.sz+off,none⟩))
 |rg (cs b off c elem fr):w.heap[b]? =some (.cells c elem fr)→ ¬M b→off+cs.length≤c.size→
  (∀i x v,cs[i]? =some x→c[off+i]? =some v→DR w M x v)→VR β w M (.rg cs) (.pointer (some ⟨b,off,none⟩))
 |fn (f) (a b:List AV) (a' b':Array Value):a.length=a'.size→b.length=b'.size→(∀(i:Nat) (x:AV) (v:Value),a[i]? =some x→a'[i]? =some v→VR β w M x v)→
  (∀(i:Nat) (x:AV) (v:Value),b[i]? =some x→b'[i]? =some v→VR β w M x v)→VR β w M (.fn f a b) (.func (.func f) a' b')
 |wn (id k):β id=some k→VR β w M (.wn id) (.func (.yield k.b) #[] #[])
 |mp (id k):β id=some k→VR β w M (.mp id) (.map (some k.b))
 |iface (t v u):VR β w M v u→VR β w M (.iface t v) (.iface t u)
 |agg (cs:List AV) (c:Array Value):cs.length=c.size→(∀(i:Nat) (x:AV) (v:Value),cs[i]? =some x→c[i]? =some v→VR β w M x v)→VR β w M (.agg cs) (.agg c)
 |ge (cs:List AV) (c:Array Value):cs.length=c.size→(∀(i:Nat) (x:AV) (v:Value),cs[i]? =some x→c[i]? =some v→VR β w M x v)→VR β w M (.ge cs) (.tuple c)
 |undef (v):VR β w M .undef v
def GW(β:Aw)(w:World)(M:Nat→Prop)(cs:List AV)(c:Array Value):Prop:=
 cs.length=c.size∧ ∀(i:Nat) (x:AV) (v:Value),cs[i]? =some x→c[i]? =some v→VR β w M x v
def Obj.mut:Obj→Bool
 |.i5 ..=>false
 |_=>true
def MS(A:Nat→Prop)(β:Aw)(h:AD)(b:Nat):Prop:=A b∨ ∃id o k,h.get id=some o∧o.mut=true∧β id=some k∧k.b=b
def Jq(β:Aw)(w:World)(M:Nat→Prop)(e:Nat→AV)(f:Nat→Value):Prop:= ∀t,VR β w M (e t) (f t)
def Lr(β:Aw)(w:World)(M:Nat→Prop)(k:RY):Obj→Prop
 |.box cs=> ∃c elem,w.heap[k.b]? =some (.cells c elem (0,0))∧GW β w M cs c
 |.d9 sz es=> ∃c elem,w.heap[k.b]? =some (.cells c elem (0,0))∧sz=k.sz∧0<sz∧c.size=k.n∧(∀e∈es,e.length=sz)∧es.length*sz≤c.size∧
  ∀(i:Nat) (x:Aa) (v:Value),es.flatten[i]? =some x→c[i]? =some v→DR w M x v
 |.i5 sz es=>es=[]∨(¬M k.b∧ ∃c elem fr,w.heap[k.b]? =some (.cells c elem fr)∧sz=k.sz∧0<sz∧c.size=k.n∧(∀e∈es,e.length=sz)∧es.length*sz≤c.size∧
  ∀(i:Nat) (x:Aa) (v:Value),es.flatten[i]? =some x→c[i]? =some v→DR w M x v)
 |.arr sz es=> ∃c elem,w.heap[k.b]? =some (.cells c elem (0,0))∧sz=k.sz∧0<sz∧c.size=k.n∧(∀e∈es,e.length=sz)∧es.length*sz≤c.size∧
  ∀(i:Nat) (x:AV) (v:Value),es.flatten[i]? =some x→c[i]? =some v→VR β w M x v
 |.map es=> ∃entries clock,w.heap[k.b]? =some (.map entries clock)∧es.length=entries.size∧
  ∀(i:Nat) p e,es[i]? =some p→entries[i]? =some e→DR w M p.1 e.key∧VR β w M p.2 e.val
 |.loop r=> ∃l:Loop,w.heap[k.b]? =some (.loop l)∧l.state=r.state∧l.pending=r.rt∧l.fn=r.f∧l.params.toList=r.params∧l.assign=r.kw∧l.body=r.body∧l.tmps.size=r.nt∧
  Jq β w M r.env.get fun t=>l.tmps.getD t Go.undef
structure HR(A:Nat→Prop)(β:Aw)(w:World)(h:AD):Prop where
 obj: ∀id o,h.get id=some o→ ∃k,β id=some k∧Lr β w (MS A β h) k o
 inj: ∀id id' o o' k k',h.get id=some o→h.get id'=some o'→o.mut=true→o'.mut=true→β id=some k→β id'=some k'→k.b=k'.b→id=id'
 bnd: ∀id k,β id=some k→k.b<w.heap.size
 out: ∀id o k,h.get id=some o→o.mut=true→β id=some k→ ¬A k.b
 abnd: ∀b,A b→b<w.heap.size
structure EG(A M:Nat→Prop)(w:World)(M':Nat→Prop)(w':World):Prop where
 un: ∀b,b<w.heap.size→ ¬M b∨A b→w'.heap[b]? =w.heap[b]?
 size:w.heap.size≤w'.heap.size
 sub: ∀b,M' b→M b∨w.heap.size≤b
 io:w'.os=w.os∧w'.output=w.output:=by exact⟨rfl,rfl⟩
theorem EG.refl(M:Nat→Prop)(w:World):EG A M w M w:=⟨fun _ _ _=>rfl,EX _,fun _ h=>.inl h,rfl,rfl⟩
variable{M M':Nat→Prop}{w w':World}
theorem EG.trans{M'':Nat→Prop}{w'':World}(h:EG A M w M' w')(h':EG A M' w' M'' w''):EG A M w M'' w'' where
 un b hb hm:=by
  rw[h'.un b (Mp hb h.size) (hm.imp (fun hm hm'=>(h.sub b hm').elim hm (fun h=>by omega)) (fun h=>h)),h.un b hb hm]
 size:=IP h.size h'.size
 sub b hb:=by
  rcases h'.sub b hb with h1|h1
  .exact h.sub b h1
  .exact .inr (IP h.size h1)
 io:=⟨h'.io.1.trans h.io.1,h'.io.2.trans h.io.2⟩
theorem EG.sub'(h:EG A M w M' w'){b:Nat}(hb:b<w.heap.size)(hm: ¬M b): ¬M' b:=
 fun hm'=>(h.sub b hm').elim hm (fun h=>by omega)
def Le(β β':Aw):Prop:= ∀id k,β id=some k→β' id=some k
theorem Le.refl(β:Aw):Le β β:=fun _ _ h=>h
variable{β':Aw}
theorem Le.trans{β β'':Aw}(h:Le β β')(h':Le β' β''):Le β β'':=fun id k x=>h' id k (h id k x)
theorem AI{b:Nat}{o:Go.Obj}(h:w.heap[b]? =some o):b<w.heap.size:=(IS.1 h).1
theorem DR.mono(hp:EG A M w M' w'){x:Aa}{v:Value}(h:DR w M x v):DR w' M' x v:=by
 induction h with
 |int k n=>exact .int k n
 |bool b=>exact .bool b
 |str s=>exact .str s
 |wl=>exact .wl
 |jp=>exact .jp
 |of=>exact .of
 |v6=>exact .v6
 |ws a cap=>exact .ws a cap
 |be es b off cap sz c elem fr hb hm he hl _ hcap ih=>
  exact .be es b off cap sz c elem fr (by rw[hp.un b (AI hb) (.inl hm)];exact hb) (hp.sub' (AI hb) hm) he hl ih hcap
theorem VR.mono{β:Aw}(hβ:Le β β')(hp:EG A M w M' w'){x:AV}{v:Value}(h:VR β w M x v):VR β' w' M' x v:=by
 induction h with
 |d h=>exact .d (h.mono hp)
 |co=>exact .co
 |emp a=>exact .emp a
 |eq id off len k a cap hk hn hl ha=>exact .eq id off len k a cap (hβ _ _ hk) hn hl ha
 |ptr id off k hk=>exact .ptr id off k (hβ _ _ hk)
 |i7 id i off k hk=>exact .i7 id i off k (hβ _ _ hk)
 |rg cs b off c elem fr hb hm hl hd=>
  exact .rg cs b off c elem fr (by rw[hp.un b (AI hb) (.inl hm)];exact hb) (hp.sub' (AI hb) hm) hl fun i x v h1 h2=>(hd i x v h1 h2).mono hp
 |fn f a b a' b' h1 h2 _ _ ih1 ih2=>exact .fn f a b a' b' h1 h2 ih1 ih2
 |wn id k hk=>exact .wn id k (hβ _ _ hk)
 |mp id k hk=>exact .mp id k (hβ _ _ hk)
 |iface t v u _ ih=>exact .iface t v u ih
 |agg cs c h1 _ ih=>exact .agg cs c h1 ih
 |ge cs c h1 _ ih=>exact .ge cs c h1 ih
 |undef v=>exact .undef v
theorem GW.mono{β:Aw}(hβ:Le β β')(hp:EG A M w M' w'){x:List AV}{v:Array Value}(h:GW β w M x v):GW β' w' M' x v:=
 ⟨h.1,fun i x v h1 h2=>(h.2 i x v h1 h2).mono hβ hp⟩
theorem Jq.mono{β:Aw}(hβ:Le β β')(hp:EG A M w M' w'){e:Nat→AV}{f:Nat→Value}(h:Jq β w M e f):Jq β' w' M' e f:=
 fun t=>(h t).mono hβ hp
variable{o:Obj}
theorem Lr.mono{β:Aw}(hβ:Le β β')(hp:EG A M w M' w'){k:RY}(h:Lr β w M k o)(hlt:k.b<w.heap.size)
 (hk:w'.heap[k.b]? =w.heap[k.b]?):Lr β' w' M' k o:=by
 cases o with
 |box cs=>obtain⟨c,elem,h1,h2⟩:=h;exact⟨c,elem,hk▸h1,h2.mono hβ hp⟩
 |d9 sz es=>obtain⟨c,elem,h1,h2,h3,h4,h5,h6,h7⟩:=h;exact⟨c,elem,hk▸h1,h2,h3,h4,h5,h6,fun i x v a b=>(h7 i x v a b).mono hp⟩
 |i5 sz es=>
  rcases h with h|⟨hm,c,elem,fr,h1,h2,h3,h4,h5,h6,h7⟩
  .exact .inl h
  .exact .inr ⟨hp.sub' hlt hm,c,elem,fr,hk▸h1,h2,h3,h4,h5,h6,fun i x v a b=>(h7 i x v a b).mono hp⟩
 |arr sz es=>obtain⟨c,elem,h1,h2,h3,h4,h5,h6,h7⟩:=h;exact⟨c,elem,hk▸h1,h2,h3,h4,h5,h6,fun i x v a b=>(h7 i x v a b).mono hβ hp⟩
 |map es=>obtain⟨en,cl,h1,h2,h3⟩:=h;exact⟨en,cl,hk▸h1,h2,fun i p e a b=>⟨(h3 i p e a b).1.mono hp,(h3 i p e a b).2.mono hβ hp⟩⟩
 |loop r=>obtain⟨l,h1,h2,h3,h4,h5,h6,h7,h9,h8⟩:=h;exact⟨l,hk▸h1,h2,h3,h4,h5,h6,h7,h9,h8.mono hβ hp⟩
theorem HR.step{β:Aw}{h h':AD}(H:HR A β w h)(hβ:Le β β')(hp:EG A (MS A β h) w (MS A β' h') w')
 (hobj: ∀id o,h'.get id=some o→(h.get id=some o∧ ∀k,β id=some k→w'.heap[k.b]? =w.heap[k.b]?)∨ ∃k,β' id=some k∧Lr β' w' (MS A β' h') k o)
 (hinj: ∀id id' o o' k k',h'.get id=some o→h'.get id'=some o'→o.mut=true→o'.mut=true→β' id=some k→β' id'=some k'→k.b=k'.b→id=id')
 (hbnd: ∀id k,β' id=some k→k.b<w'.heap.size) (hout: ∀id o k,h'.get id=some o→o.mut=true→β' id=some k→ ¬A k.b):HR A β' w' h' where
 obj id o ho:=by
  rcases hobj id o ho with⟨h1,h2⟩|h1
  .obtain⟨k,hk,hr⟩:=H.obj id o h1;exact⟨k,hβ _ _ hk,hr.mono hβ hp (H.bnd id k hk) (h2 k hk)⟩
  .exact h1
 inj:=hinj
 bnd:=hbnd
 out:=hout
 abnd b hb:=Mp (H.abnd b hb) hp.size
def Aw.put(β:Aw)(id:Id)(k:RY):Aw:=fun x=>if x=id then some k else β x
theorem N5{β:Aw}{id:Id}{k:RY}(h:β id=none):Le β (β.put id k):=fun x k' hx=>by
 unfold Aw.put;split
 .rename_i e;subst e;rw[h]at hx;cases hx
 .exact hx
@[simp] theorem GG(β:Aw)(id:Id)(k:RY):β.put id k id=some k:=by simp[Aw.put]
theorem Bu(β:Aw){id x:Id}(k:RY)(h:x≠id):β.put id k x=β x:=by simp[Aw.put,h]
def World.add(w:World)(x:Go.Obj):World:={w with heap:=w.heap.push x}
theorem K1(w:World)(x:Go.Obj):(World.add w x).heap[w.heap.size]? =some x:=by simp[World.add]
theorem Ik(w:World)(x:Go.Obj){b:Nat}(h:b<w.heap.size):(World.add w x).heap[b]? =w.heap[b]? :=by
 simp[World.add,OK,Nat.ne_of_lt h]
theorem JM(w:World)(x:Go.Obj):(World.add w x).heap.size=w.heap.size+1:=by simp[World.add]
theorem sf{β:Aw}{h:AD}(H:HR A β w h){b:Nat}(hb:MS A β h b):b<w.heap.size:=by
 rcases hb with hb|⟨id,o,k,_,_,hk,rfl⟩
 .exact H.abnd b hb
 .exact H.bnd id k hk
theorem TS{β:Aw}{w:World}{h:AD}(H:HR A β w h){id:Id}(x:Go.Obj){o:Obj}{k:RY}(hk:k.b=w.heap.size):
 EG A (MS A β h) w (MS A (β.put id k) (h.put id o)) (World.add w x) where
 un b hb _:=Ik w x hb
 size:=by rw[JM];omega
 sub b hb:=by
  rcases hb with hb|⟨id',o',k',ho,hm,hk',rfl⟩
  .exact .inl (.inl hb)
  by_cases e:id'=id
  .subst e;simp at hk';subst hk';exact .inr (by omega)
  .rw[Bu β k e]at hk';rw[AD.get_put,CI (Ne.symm e)]at ho;exact .inl (.inr ⟨id',o',k',ho,hm,hk',rfl⟩)
theorem HR.add{β:Aw}{w:World}{h:AD}(H:HR A β w h){id:Id}(hid:β id=none){x:Go.Obj}{o:Obj}{k:RY}(hk:k.b=w.heap.size)
 (ho:Lr (β.put id k) (World.add w x) (MS A (β.put id k) (h.put id o)) k o):HR A (β.put id k) (World.add w x) (h.put id o):=by
 refine H.step (N5 hid) (TS H x hk) ?_ ?_ ?_ ?_
 .intro id' o' hg;rw[AD.get_put]at hg;split at hg
  .rename_i e;subst e;cases hg;exact .inr ⟨k,by simp,ho⟩
  .exact .inl ⟨hg,fun k' hk'=>Ik w x (H.bnd _ _ hk')⟩
 .intro a b oa ob ka kb ha hb hma hmb hka hkb e;rw[AD.get_put]at ha hb;by_cases ea:a=id<;>by_cases eb:b=id
  .rw[ea,eb]
  .subst ea;simp at hka;subst hka;rw[Bu β _ eb]at hkb;have:=H.bnd _ _ hkb;omega
  .subst eb;simp at hkb;subst hkb;rw[Bu β _ ea]at hka;have:=H.bnd _ _ hka;omega
  .rw[Bu β _ ea]at hka;rw[Bu β _ eb]at hkb;rw[CI (Ne.symm ea)]at ha;rw[CI (Ne.symm eb)]at hb;exact H.inj a b oa ob ka kb ha hb hma hmb hka hkb e
 .intro a ka hka;rw[JM];by_cases ea:a=id
  .subst ea;simp at hka;subst hka;omega
  .rw[Bu β _ ea]at hka;have:=H.bnd _ _ hka;omega
 .intro a oa ka ha hma hka hA;rw[AD.get_put]at ha;by_cases ea:a=id
  .subst ea;simp at hka;subst hka;have:=H.abnd _ hA;omega
  .rw[Bu β _ ea]at hka;rw[CI (Ne.symm ea)]at ha;exact H.out a oa ka ha hma hka hA
def World.ii(w:World)(b:Nat)(x:Go.Obj):World:={w with heap:=w.heap.setIfInBounds b x}
theorem Hv{b:Nat}(x:Go.Obj)(h:b<w.heap.size):(World.ii w b x).heap[b]? =some x:=by simp[World.ii,h]
theorem Er{b b':Nat}(x:Go.Obj)(h:b'≠b):(World.ii w b x).heap[b']? =w.heap[b']? :=by
 simp[World.ii,I6,Ne.symm h]
theorem Ez(w:World)(b:Nat)(x:Go.Obj):(World.ii w b x).heap.size=w.heap.size:=by simp[World.ii]
theorem Ui{β:Aw}{h:AD}{id:Id}{o o':Obj}(ho:h.get id=some o)(hm:o.mut=true){b:Nat}(hb:MS A β (h.put id o') b):MS A β h b:=by
 rcases hb with hb|⟨id',o1,k,h1,h2,h3,rfl⟩
 .exact .inl hb
 rw[AD.get_put]at h1;split at h1
 .rename_i e;subst e;exact .inr ⟨id,o,k,ho,hm,h3,rfl⟩
 .exact .inr ⟨id',o1,k,h1,h2,h3,rfl⟩
variable{o':Obj}
theorem HA{β:Aw}{h:AD}(H:HR A β w h){id:Id}{k:RY}(ho:h.get id=some o)(hm:o.mut=true)(hk:β id=some k)(x:Go.Obj):
 EG A (MS A β h) w (MS A β (h.put id o')) (World.ii w k.b x) where
 un b _ hb:=Er x fun e=>hb.elim (fun hb=>hb (.inr ⟨id,o,k,ho,hm,hk,e.symm⟩)) (fun hb=>H.out id o k ho hm hk (e▸hb))
 size:=by rw[Ez];omega
 sub b hb:=.inl (Ui ho hm hb)
theorem HR.ii{β:Aw}{w:World}{h:AD}(H:HR A β w h){id:Id}{k:RY}{o o':Obj}(ho:h.get id=some o)(hm:o.mut=true)(hk:β id=some k){x:Go.Obj}
 (hr:Lr β (World.ii w k.b x) (MS A β (h.put id o')) k o')
 (hfro: ∀id' sz es k',h.get id'=some (.i5 sz es)→β id'=some k'→k'.b=k.b→es=[]):HR A β (World.ii w k.b x) (h.put id o'):=by
 refine H.step (.refl β) (HA H ho hm hk x) ?_ ?_ ?_ ?_
 .intro id' o1 hg;rw[AD.get_put]at hg;split at hg
  .rename_i e;subst e;cases hg;exact .inr ⟨k,hk,hr⟩
  .rename_i e;obtain⟨k',hk',hr'⟩:=H.obj id' o1 hg;by_cases eb:k'.b=k.b
   .cases hm':o1.mut with
    |true=>exact absurd (H.inj id id' o o1 k k' ho hg hm hm' hk hk' eb.symm) e
    |false=>
     cases o1 with
     |i5 sz es=>
      have:=hfro id' sz es k' hg hk' eb;exact .inr ⟨k',hk',.inl this⟩
     |_=>simp[Obj.mut]at hm'
   .exact .inl ⟨hg,fun k2 hk2=>by rw[hk']at hk2;cases hk2;exact Er x eb⟩
 .intro a b oa ob ka kb ha hb hma hmb hka hkb e;rw[AD.get_put]at ha hb;have get': ∀{y:Id} {oy:Obj},(if id=y then some o' else h.get y)=some oy→oy.mut=true→ ∃oz,h.get y=some oz∧oz.mut=true:=by
   intro y oy hy hmy;split at hy
   .rename_i e;subst e;exact⟨o,ho,hm⟩
   .exact⟨oy,hy,hmy⟩
  obtain⟨oa',h1,h2⟩:=get' ha hma;obtain⟨ob',h3,h4⟩:=get' hb hmb;exact H.inj a b oa' ob' ka kb h1 h3 h2 h4 hka hkb e
 .intro a ka hka;rw[Ez];exact H.bnd a ka hka
 .intro a oa ka ha hma hka;rw[AD.get_put]at ha;split at ha
  .rename_i e;subst e;exact H.out _ _ _ ho hm hka
  .exact H.out a oa ka ha hma hka
theorem HR.i5{β:Aw}{h:AD}(H:HR A β w h){id id':Id}{k k':RY}(ho:h.get id=some o)(hm:o.mut=true)(hk:β id=some k){sz:Nat}{es:List (List Aa)}
 (hf:h.get id'=some (.i5 sz es)) (hk':β id'=some k') (e:k'.b=k.b):es=[]:=by
 obtain⟨k2,hk2,hr⟩:=H.obj id' _ hf;rw[hk']at hk2;cases hk2;rcases hr with h1|⟨h1,_⟩
 .exact h1
 .exact absurd (.inr ⟨id,o,k,ho,hm,hk,e.symm⟩) h1
theorem HR.upd'{β:Aw}{h:AD}(H:HR A β w h){id:Id}{k:RY}(ho:h.get id=some o)(hm:o.mut=true)(hk:β id=some k){x:Go.Obj}
 (hr:Lr β (World.ii w k.b x) (MS A β (h.put id o')) k o'):HR A β (World.ii w k.b x) (h.put id o'):=
 H.ii ho hm hk hr fun _ _ _ _ h1 h2 h3=>H.i5 ho hm hk h1 h2 h3
theorem yI{β:Aw}{h:AD}{id:Id}(ho:h.get id=some o)(hm:o.mut=true):
 EG A (MS A β h) w (MS A β (h.put id o')) w:=⟨fun _ _ _=>rfl,EX _,fun _ hb=>.inl (Ui ho hm hb),rfl,rfl⟩
theorem HR.kill{β:Aw}{w:World}{h:AD}(H:HR A β w h){id:Id}{o:Obj}(ho:h.get id=some o)(hm:o.mut=true):HR A β w (h.put id (.i5 0 [])):=by
 obtain⟨k,hk,_⟩:=H.obj id _ ho;refine H.step (.refl β) (yI ho hm) ?_ ?_ H.bnd ?_
 .intro id' o1 hg;rw[AD.get_put]at hg;split at hg
  .rename_i e;subst e;cases hg;exact .inr ⟨k,hk,.inl rfl⟩
  .exact .inl ⟨hg,fun _ _=>rfl⟩
 .intro a b oa ob ka kb ha hb hma hmb hka hkb e;rw[AD.get_put]at ha hb;have get': ∀{y:Id} {oy:Obj},(if id=y then some (Obj.i5 0 [])else h.get y)=some oy→oy.mut=true→ ∃oz,h.get y=some oz∧oz.mut=true:=by
   intro y oy hy hmy;split at hy
   .cases hy;simp[Obj.mut]at hmy
   .exact⟨oy,hy,hmy⟩
  obtain⟨oa',h1,h2⟩:=get' ha hma;obtain⟨ob',h3,h4⟩:=get' hb hmb;exact H.inj a b oa' ob' ka kb h1 h3 h2 h4 hka hkb e
 .intro a oa ka ha hma hka;rw[AD.get_put]at ha;split at ha
  .cases ha;cases hma
  .exact H.out a oa ka ha hma hka
end Go.Abs
