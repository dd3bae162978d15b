/-
  Parts: EngC EngF EngR.
-/
import Derived.CallsIn
import Derived.DefersIn
import Derived.RangeFuncLeaves
set_option linter.all false
set_option linter.unusedSimpArgs false
set_option linter.unusedVariables false
namespace Go.Abs
inductive AN where
 |int (k:IntKind) (n:Int)
 |bool (b:Bool)
 |str (s:ByteArray)
 |lst (es:List (List AN))
 |nilp|nilf|nili|nilm
abbrev Id:=List Nat
def Id.is:Id→Id→Bool
 |[],[]=>true
 |n::l,m::k=>match Nat.beq n m with
  |true=>Id.is l k
  |false=>false
 |_,_=>false
def Id.under(ρ:Id):Id→Bool
 |[]=>Id.is ρ []
 |n::l=>match Id.is ρ (n::l)with
  |true=>true
  |false=>Id.under ρ l
inductive AV where
 |d (x:AN)
 |nils
 |emp
 |osl (id:Id) (off len:Nat)
 |ptr (id:Id) (off:Nat)
 |eptr (id:Id) (i off:Nat)
 |iptr (cs:List AN)
 |fn (f:FuncId) (first cap:List AV)
 |yld (id:Id)
 |mp (id:Id)
 |iface (t:TypeId) (v:AV)
 |agg (cs:List AV)
 |tup (vs:List AV)
 |undef
abbrev BI:=List (Nat×AV)
def BI.get:BI→Nat→AV
 |[],_=>.undef
 |(k,v)::e,t=>match Nat.beq k t with
  |true=>v
  |false=>BI.get e t
structure Lp where
 state:LoopState
 pend:Option Code
 f:FuncId
 env:BI
 params:List Nat
 asg:Code
 body:Code
 nt:Nat
inductive Obj where
 |box (cs:List AV)
 |darr (sz:Nat) (es:List (List AN))
 |fro (sz:Nat) (es:List (List AN))
 |arr (sz:Nat) (es:List (List AV))
 |map (es:List (AN×AV))
 |loop (r:Lp)
abbrev AB:=List (Id×Obj)
def AB.get:AB→Id→Option Obj
 |[],_=>none
 |(k,o)::h,id=>match Id.is k id with
  |true=>some o
  |false=>AB.get h id
mutual
def AN.same:AN→AN→Bool
 |.int k n,.int k' m=>decide (k=k')&&decide (n=m)
 |.bool a,.bool b=>match a,b with
  |true,true=>true
  |false,false=>true
  |_,_=>false
 |.str a,.str b=>decide (a.data.toList=b.data.toList)
 |.lst a,.lst b=>AN.samess a b
 |.nilp,.nilp=>true
 |.nilf,.nilf=>true
 |.nili,.nili=>true
 |.nilm,.nilm=>true
 |_,_=>false
def AN.sames:List AN→List AN→Bool
 |[],[]=>true
 |x::l,y::m=>match AN.same x y with
  |true=>AN.sames l m
  |false=>false
 |_,_=>false
def AN.samess:List (List AN)→List (List AN)→Bool
 |[],[]=>true
 |x::l,y::m=>match AN.sames x y with
  |true=>AN.samess l m
  |false=>false
 |_,_=>false
end
mutual
theorem AN.same_eq: ∀{a b:AN},AN.same a b=true→a=b
 |.int k n,b,h=>by
  cases b<;>simp[AN.same]at h;rw[h.1,h.2]
 |.bool a,b,h=>by
  cases b<;>simp[AN.same]at h;rename_i b;cases a<;>cases b<;>simp at h<;>rfl
 |.str a,b,h=>by
  cases b<;>simp[AN.same]at h;rename_i b;cases a;cases b;simp at h;rw[h]
 |.lst a,b,h=>by
  cases b<;>simp[AN.same]at h;rw[AN.samess_eq h]
 |.nilp,b,h=>by cases b<;>simp[AN.same]at h;rfl
 |.nilf,b,h=>by cases b<;>simp[AN.same]at h;rfl
 |.nili,b,h=>by cases b<;>simp[AN.same]at h;rfl
 |.nilm,b,h=>by cases b<;>simp[AN.same]at h;rfl
theorem AN.sames_eq: ∀{a b:List AN},AN.sames a b=true→a=b
 |[],b,h=>by cases b<;>simp[AN.sames]at h;rfl
 |x::l,[],h=>by simp[AN.sames]at h
 |x::l,y::m,h=>by
  unfold AN.sames at h;split at h
  .rename_i h1;rw[AN.same_eq h1,AN.sames_eq h]
  .cases h
theorem AN.samess_eq: ∀{a b:List (List AN)},AN.samess a b=true→a=b
 |[],b,h=>by cases b<;>simp[AN.samess]at h;rfl
 |x::l,[],h=>by simp[AN.samess]at h
 |x::l,y::m,h=>by
  unfold AN.samess at h;split at h
  .rename_i h1;rw[AN.sames_eq h1,AN.samess_eq h]
  .cases h
end
theorem Id.is_eq: ∀{a b:Id},Id.is a b=true→a=b
 |[],[],_=>rfl
 |[],_::_,h=>by simp[Id.is]at h
 |_::_,[],h=>by simp[Id.is]at h
 |n::l,m::k,h=>by
  unfold Id.is at h;split at h
  .rename_i h1;rw[Nat.eq_of_beq_eq_true h1,Id.is_eq h]
  .cases h
mutual
def AV.same:AV→AV→Bool
 |.d x,.d y=>AN.same x y
 |.nils,.nils=>true
 |.emp,.emp=>true
 |.osl i a b,.osl j a' b'=>Id.is i j&&(Nat.beq a a'&&Nat.beq b b')
 |.ptr i a,.ptr j b=>Id.is i j&&Nat.beq a b
 |.eptr i a b,.eptr j a' b'=>Id.is i j&&(Nat.beq a a'&&Nat.beq b b')
 |.fn f a b,.fn g a' b'=>Nat.beq f g&&(AV.sames a a'&&AV.sames b b')
 |.yld i,.yld j=>Id.is i j
 |.mp i,.mp j=>Id.is i j
 |.iface t v,.iface u w=>Nat.beq t u&&AV.same v w
 |.agg l,.agg m=>AV.sames l m
 |.tup l,.tup m=>AV.sames l m
 |.undef,.undef=>true
 |_,_=>false
def AV.sames:List AV→List AV→Bool
 |[],[]=>true
 |x::l,y::m=>match AV.same x y with
  |true=>AV.sames l m
  |false=>false
 |_,_=>false
end
mutual
theorem AV.same_eq: ∀{a b:AV},AV.same a b=true→a=b
 |.d x,b,h=>by
  cases b<;>simp[AV.same]at h;rw[AN.same_eq h]
 |.agg l,b,h=>by
  cases b<;>simp[AV.same]at h;rw[AV.sames_eq h]
 |.tup l,b,h=>by
  cases b<;>simp[AV.same]at h;rw[AV.sames_eq h]
 |.nils,b,h=>by cases b<;>simp[AV.same]at h;rfl
 |.emp,b,h=>by cases b<;>simp[AV.same]at h;rfl
 |.undef,b,h=>by cases b<;>simp[AV.same]at h;rfl
 |.osl ..,b,h=>by
  cases b<;>simp[AV.same]at h;rw[Id.is_eq h.1,h.2.1,h.2.2]
 |.ptr ..,b,h=>by
  cases b<;>simp[AV.same]at h;rw[Id.is_eq h.1,h.2]
 |.eptr ..,b,h=>by
  cases b<;>simp[AV.same]at h;rw[Id.is_eq h.1,h.2.1,h.2.2]
 |.iptr _,b,h=>by simp[AV.same]at h
 |.fn f a c,b,h=>by
  cases b<;>simp[AV.same]at h;rw[h.1,AV.sames_eq h.2.1,AV.sames_eq h.2.2]
 |.yld _,b,h=>by
  cases b<;>simp[AV.same]at h;rw[Id.is_eq h]
 |.mp _,b,h=>by
  cases b<;>simp[AV.same]at h;rw[Id.is_eq h]
 |.iface t v,b,h=>by
  cases b<;>simp[AV.same]at h;rw[h.1,AV.same_eq h.2]
theorem AV.sames_eq: ∀{a b:List AV},AV.sames a b=true→a=b
 |[],b,h=>by cases b<;>simp[AV.sames]at h;rfl
 |x::l,[],h=>by simp[AV.sames]at h
 |x::l,y::m,h=>by
  unfold AV.sames at h;split at h
  .rename_i h1;rw[AV.same_eq h1,AV.sames_eq h]
  .cases h
end
def Obj.same:Obj→Option Obj→Bool
 |.box l,some (.box m)=>AV.sames l m
 |.darr a l,some (.darr b m)=>Nat.beq a b&&AN.samess l m
 |.fro a l,some (.fro b m)=>Nat.beq a b&&AN.samess l m
 |_,_=>false
theorem Obj.same_eq{a:Obj}{b:Option Obj}(h:Obj.same a b=true):b=some a:=by
 unfold Obj.same at h;split at h
 .rw[AV.sames_eq h]
 .simp only[Bool.and_eq_true]at h;rw[Nat.eq_of_beq_eq_true h.1,AN.samess_eq h.2]
 .simp only[Bool.and_eq_true]at h;rw[Nat.eq_of_beq_eq_true h.1,AN.samess_eq h.2]
 .cases h
def Qp(h h':AB):List Id:=((h++h').filter fun p=>match h.get p.1 with
 |some o=> !Obj.same o (h'.get p.1)
 |none=>true).map (·.1)
theorem AB.get_mem: ∀{h:AB} {id:Id} {o:Obj},h.get id=some o→(id,o)∈h
 |[],_,_,hg=>by cases hg
 |(k,o')::h,id,o,hg=>by
  unfold AB.get at hg;split at hg
  .rename_i h1;cases hg;rw[Id.is_eq h1];simp
  .exact List.mem_cons_of_mem _ (AB.get_mem hg)
theorem ZP{h h':AB}{id:Id}(hi:id∉Qp h h'):h'.get id=h.get id:=by
 have key: ∀o,(id,o)∈h++h'→h'.get id=h.get id:=fun o ho=>by
  have: ¬(match h.get id with|some o=> !Obj.same o (h'.get id)|none=>true)=true:=fun hc=>
   hi (List.mem_map.2 ⟨(id,o),List.mem_filter.2 ⟨ho,hc⟩,rfl⟩)
  split at this
  .rename_i o2 h2;rw[h2];exact Obj.same_eq (by simpa using this)
  .exact absurd rfl this
 cases h1:h.get id with
 |some o=>rw[←h1];exact key o (List.mem_append_left _ (AB.get_mem h1))
 |none=>cases h2:h'.get id with
  |some o=>rw[←h1,←h2];exact key o (List.mem_append_right _ (AB.get_mem h2))
  |none=>rfl
def AB.put:AB→Id→Obj→AB
 |[],id,o=>[(id,o)]
 |(k,x)::h,id,o=>match Id.is k id with
  |true=>(k,o)::h
  |false=>(k,x)::AB.put h id o
def AB.puts(h:AB)(δ:AB):AB:=δ.foldl (fun h p=>h.put p.1 p.2) h
inductive TK where
 |bool|int|str|func|ptr|iface|slice|map|other
 |flat (ks:List TK)
structure TI where
 kind:TK
 size:Nat
 agg:Bool
 str:Bool
 zero:List AV
 flds:List (Nat×Nat×Bool)
 elem:TypeId
 key:TypeId
 mix:Bool
inductive Mode where
 |auto|own|raw|ro
 deriving DecidableEq
structure Bk where
 T:TypeId→Option TI
 mode:FuncId→Mode
 live:FuncId→Nat→List Nat
 pairs:FuncId→Nat→List (Nat×Nat)
 alone:FuncId→Nat→Nat→Bool
 caught:FuncId→Option TypeId
 meth:TypeId→String→Option FuncId
 good:FuncId→Bool
def CO:Value→AV
 |.int k n=>.d (.int k n)
 |.bool b=>.d (.bool b)
 |.string s=>.d (.str s)
 |.slice none 0 0=>.nils
 |.pointer none=>.d .nilp
 |.nilFunc=>.d .nilf
 |.nilIface=>.d .nili
 |.map none=>.d .nilm
 |_=>.undef
def ev(e:Nat→AV):Operand→AV
 |.tmp t=>e t
 |.const v=>CO v
 |.func f=>.fn f [] []
 |.global _=>.undef
def AV.cells:AV→List AV
 |.agg cs=>cs
 |v=>[v]
def AV.isCell:AV→Bool
 |.agg _=>false
 |.tup _=>false
 |.undef=>false
 |_=>true
def Dq(agg:Bool)(cs:List AV):Option AV:=
 if agg then some (.agg cs)else match cs with
  |[c]=>some c
  |_=>none
def Gq{α:Type}(l:List α)(off n:Nat):Option (List α):=
 if off+n≤l.length then some ((l.drop off).take n)else none
def Bj{α:Type}(l:List α)(off:Nat)(new:List α):Option (List α):=
 if off+new.length≤l.length then some (l.take off++new++l.drop (off+new.length))else none
structure Bf where
 v:AV
 δ:AB:=[]
abbrev G:=Id→Option Obj
def KN:Option Obj→Option (List (List AV))
 |some (.darr _ es)=>some (es.map (·.map .d))
 |some (.fro _ es)=>some (es.map (·.map .d))
 |some (.arr _ es)=>some es
 |_=>none
def F4(g:G)(i:TI):AV→Option AV
 |.ptr id off=>match g id with
  |some (.box cs)=>(Gq cs off i.size).bind (Dq i.agg)
  |_=>none
 |.eptr id k off=>match g id with
  |some (.darr _ es)=>match es[k]? with
   |some e=>(Gq e off i.size).bind fun ds=>Dq i.agg (ds.map .d)
   |none=>none
  |some (.fro _ es)=>match es[k]? with
   |some e=>(Gq e off i.size).bind fun ds=>Dq i.agg (ds.map .d)
   |none=>none
  |some (.arr _ es)=>match es[k]? with
   |some e=>(Gq e off i.size).bind (Dq i.agg)
   |none=>none
  |_=>none
 |.iptr cs=>(Gq cs 0 i.size).bind fun ds=>Dq i.agg (ds.map .d)
 |_=>none
section force
variable{α:Type}
def Fc(n:Nat)(k:Nat→α):α:=match n with
 |0=>k 0
 |m+1=>k (Nat.succ m)
def mb(b:Bool)(k:Bool→α):α:=match b with
 |true=>k true
 |false=>k false
def pL(n:Int)(k:Int→α):α:=match n with
 |.ofNat m=>Fc m fun m=>k (.ofNat m)
 |.negSucc m=>Fc m fun m=>k (.negSucc m)
def mV(x:IntKind)(k:IntKind→α):α:=match x with
 |.i8=>k .i8|.i16=>k .i16|.i32=>k .i32|.i64=>k .i64
 |.u8=>k .u8|.u16=>k .u16|.u32=>k .u32|.u64=>k .u64
def J2(l:List Nat)(k:List Nat→α):α:=match l with
 |[]=>k []
 |n::l=>Fc n fun n=>J2 l fun l=>k (n::l)
def Xm(x:AN)(k:AN→α):α:=match x with
 |.int kd n=>mV kd fun kd=>pL n fun n=>k (.int kd n)
 |.bool b=>mb b fun b=>k (.bool b)
 |.str s=>k (.str s)
 |.lst es=>k (.lst es)
 |.nilp=>k .nilp
 |.nilf=>k .nilf
 |.nili=>k .nili
 |.nilm=>k .nilm
def Ry(l:List AN)(k:List AN→α):α:=match l with
 |[]=>k []
 |x::l=>Xm x fun x=>Ry l fun l=>k (x::l)
def LM(l:List (List AN))(k:List (List AN)→α):α:=match l with
 |[]=>k []
 |x::l=>Ry x fun x=>LM l fun l=>k (x::l)
def eF(x:AN)(k:AN→α):α:=match x with
 |.lst es=>LM es fun es=>k (.lst es)
 |x=>Xm x k
def cu(v:AV)(k:AV→α):α:=match v with
 |.d x=>eF x fun x=>k (.d x)
 |.nils=>k .nils
 |.emp=>k .emp
 |.osl id off len=>J2 id fun id=>Fc off fun off=>Fc len fun len=>k (.osl id off len)
 |.ptr id off=>J2 id fun id=>Fc off fun off=>k (.ptr id off)
 |.eptr id i off=>J2 id fun id=>Fc i fun i=>Fc off fun off=>k (.eptr id i off)
 |.iptr cs=>Ry cs fun cs=>k (.iptr cs)
 |.fn f a b=>Fc f fun f=>k (.fn f a b)
 |.yld id=>J2 id fun id=>k (.yld id)
 |.mp id=>J2 id fun id=>k (.mp id)
 |.iface t v=>Fc t fun t=>k (.iface t v)
 |.agg cs=>k (.agg cs)
 |.tup vs=>k (.tup vs)
 |.undef=>k .undef
def M3(l:List AV)(k:List AV→α):α:=match l with
 |[]=>k []
 |x::l=>cu x fun x=>M3 l fun l=>k (x::l)
def UW(v:AV)(k:AV→α):α:=match v with
 |.agg cs=>M3 cs fun cs=>k (.agg cs)
 |.tup vs=>M3 vs fun vs=>k (.tup vs)
 |.fn f a b=>Fc f fun f=>M3 a fun a=>M3 b fun b=>k (.fn f a b)
 |.iface t v=>Fc t fun t=>cu v fun v=>k (.iface t v)
 |v=>cu v k
def IU(l:List AV)(k:List AV→α):α:=match l with
 |[]=>k []
 |x::l=>UW x fun x=>IU l fun l=>k (x::l)
def qI(v:AV)(k:AV→α):α:=match v with
 |.tup vs=>IU vs fun vs=>k (.tup vs)
 |.agg cs=>IU cs fun cs=>k (.agg cs)
 |.iface t v=>Fc t fun t=>UW v fun v=>k (.iface t v)
 |v=>UW v k
def XC(l:List (List AV))(k:List (List AV)→α):α:=match l with
 |[]=>k []
 |x::l=>IU x fun x=>XC l fun l=>k (x::l)
def Kn(l:List (AN×AV))(k:List (AN×AV)→α):α:=match l with
 |[]=>k []
 |(x,v)::l=>Xm x fun x=>UW v fun v=>Kn l fun l=>k ((x,v)::l)
def ny(o:Obj)(k:Obj→α):α:=match o with
 |.box cs=>IU cs fun cs=>k (.box cs)
 |.darr sz es=>Fc sz fun sz=>LM es fun es=>k (.darr sz es)
 |.fro sz es=>Fc sz fun sz=>LM es fun es=>k (.fro sz es)
 |.arr sz es=>Fc sz fun sz=>XC es fun es=>k (.arr sz es)
 |.map es=>Kn es fun es=>k (.map es)
 |.loop r=>k (.loop r)
def Na(h:AB)(k:AB→α):α:=match h with
 |[]=>k []
 |(id,o)::h=>J2 id fun id=>ny o fun o=>Na h fun h=>k ((id,o)::h)
def Eh(h:AB)(k:AB→α):α:=match h with
 |[]=>k []
 |(id,o)::h=>Eh h fun h=>k ((id,o)::h)
def mG(e:BI)(k:BI→α):α:=match e with
 |[]=>k []
 |(t,v)::e=>Fc t fun t=>UW v fun v=>mG e fun e=>k ((t,v)::e)
def PJ(e:BI)(k:BI→α):α:=match e with
 |[]=>k []
 |p::e=>k (p::e)
end force
def D7(g:G):AV→Option AN
 |.d x=>some x
 |.nils=>some (.lst [])
 |.emp=>some (.lst [])
 |.osl id off n=>match g id with
  |some (.darr _ es)=>(Gq es off n).map .lst
  |some (.fro _ es)=>(Gq es off n).map .lst
  |_=>none
 |_=>none
def CK(g:G):List AV→Option (List AN)
 |[]=>some []
 |v::vs=>match D7 g v,CK g vs with
  |some x,some xs=>some (x::xs)
  |_,_=>none
def CC(g:G):List (List AV)→Option (List (List AN))
 |[]=>some []
 |v::vs=>match CK g v,CC g vs with
  |some x,some xs=>some (x::xs)
  |_,_=>none
def DM(g:G):AV→Option AN
 |.osl id off n=>match g id with
  |some (.arr _ es)=>match CC g es with
   |some ds=>(Gq ds off n).map .lst
   |none=>none
  |_=>D7 g (.osl id off n)
 |v=>D7 g v
def Ek(g:G):List AV→Option (List AV)
 |[]=>some []
 |v::vs=>match DM g v,Ek g vs with
  |some x,some xs=>some (.d x::xs)
  |_,_=>none
def DW(g:G):AV→Option AV
 |.agg cs=>(Ek g cs).map .agg
 |.fn f [] []=>some (.fn f [] [])
 |.iface t (.agg cs)=>(Ek g cs).map fun c=>.iface t (.agg c)
 |.iface t v=>(DM g v).map fun x=>.iface t (.d x)
 |v=>(DM g v).map .d
def Cn(g:G):List AV→Option (List AV)
 |[]=>some []
 |v::vs=>match DW g v,Cn g vs with
  |some x,some xs=>some (x::xs)
  |_,_=>none
def QT(g:G):AV→Option AV
 |.tup vs=>(Cn g vs).map .tup
 |v=>DW g v
def Gh(g:G):AV→AB
 |.osl id _ _=>match g id with
  |some (.darr sz es)=>[(id,.fro sz es)]
  |_=>[]
 |_=>[]
def BJ(g:G)(l:List AV):AB:=l.flatMap (Gh g)
def Ds(g:G):AV→AB
 |.osl id off n=>match g id with
  |some (.darr sz es)=>[(id,.fro sz es)]
  |some (.arr sz es)=>match CC g es with
   |some ds=>(id,.fro sz ds)::es.flatMap (BJ g)
   |none=>[]
  |_=>[]
 |_=>[]
def G8:AV→List AV
 |.agg cs=>cs
 |.iface _ (.agg cs)=>cs
 |.iface _ v=>[v]
 |v=>[v]
def mark(g:G)(v:AV):AB:=(G8 v).flatMap (Ds g)
def Cw:AN→Bool
 |.lst _=>false
 |_=>true
def Dr:List AV→Bool
 |[]=>true
 |.d x::vs=>Cw x&&Dr vs
 |_=>false
def flat:AV→Bool
 |.d x=>Cw x
 |.nils=>true
 |.emp=>true
 |.agg cs=>Dr cs
 |.tup vs=>Dr vs
 |.iface _ (.d x)=>Cw x
 |.iface _ (.agg cs)=>Dr cs
 |_=>false
def A6(v:AV)(h:AB):Option (Id×Obj):=
 match v with
 |.osl id _ _=>match h.get id with
  |some (.darr sz es)=>if es.all (·.all Cw)then some (id,.darr sz es)else none
  |_=>none
 |_=>none
def H0(id:Id)(δ:AB):Bool:=δ.all fun p=> !Id.is p.1 id
def F6(g:G)(i:TI)(a v:AV):Option Bf:=
 match v.cells.length==i.size&&v.cells.all AV.isCell with
 |false=>none
 |true=>match a with
  |.ptr id off=>match g id with
   |some (.box cs)=>(Bj cs off v.cells).map fun cs'=>⟨.undef,[(id,.box cs')]⟩
   |_=>none
  |.eptr id k off=>match g id with
   |some (.darr sz es)=>match es[k]?,CK g v.cells,H0 id (BJ g v.cells)with
    |some e,some ds,true=>(Bj e off ds).map fun e'=>⟨.undef,BJ g v.cells++[(id,.darr sz (es.set k e'))]⟩
    |_,_,_=>none
   |some (.arr sz es)=>match es[k]? with
    |some e=>(Bj e off v.cells).map fun e'=>⟨.undef,[(id,.arr sz (es.set k e'))]⟩
    |none=>none
   |_=>none
  |_=>none
def Ea{α:Type}(sz:Nat):Nat→List α→List (List α)
 |0,_=>[]
 |n+1,l=>l.take sz::Ea sz n (l.drop sz)
def Ay:Nat:=2 ^ 30
def newArr(g:G)(newId:Id)(j:TI)(es:List (List AV)):Option Bf:=
 match es.all (fun e=>e.length==j.size&&e.all AV.isCell)&&Nat.blt 0 j.size&&Nat.ble es.length Ay with
 |false=>none
 |true=>match j.mix with
  |true=>some ⟨.osl (1::newId) 0 es.length,[(1::newId,.arr j.size es)]⟩
  |false=>match CC g es with
   |some ds=>some ⟨.osl (1::newId) 0 es.length,es.flatMap (BJ g)++[(1::newId,.darr j.size ds)]⟩
   |none=>none
def Ch(g:G):AV→Option (List (List AV))
 |.d (.lst es)=>some (es.map (·.map .d))
 |.nils=>some []
 |.emp=>some []
 |.osl id off n=>(KN (g id)).bind fun es=>Gq es off n
 |_=>none
def appIn(g:G)(newId:Id)(id:Id)(off n sz:Nat)(es:List (List AN))(src:List (List AV)):Option Bf:=
 match CC g src,H0 id (src.flatMap (BJ g))with
 |some ds,true=>match Bj es (off+n) ds with
  |some es'=>some ⟨.osl id off (n+ds.length),src.flatMap (BJ g)++[(id,.darr sz es')]⟩
  |none=>match Nat.beq off 0&&Nat.ble (n+ds.length) Ay with
   |true=>some ⟨.osl (1::newId) 0 (n+ds.length),src.flatMap (BJ g)++[(id,.fro 0 []),(1::newId,.darr sz (es.take n++ds))]⟩
   |false=>none
 |_,_=>none
def appMix(newId:Id)(id:Id)(off n sz:Nat)(es:List (List AV))(src:List (List AV)):Option Bf:=
 match Bj es (off+n) src with
 |some es'=>some ⟨.osl id off (n+src.length),[(id,.arr sz es')]⟩
 |none=>match Nat.beq off 0&&Nat.ble (n+src.length) Ay with
  |true=>some ⟨.osl (1::newId) 0 (n+src.length),[(id,.fro 0 []),(1::newId,.arr sz (es.take n++src))]⟩
  |false=>none
def appTo(g:G)(newId:Id)(j:TI)(s:AV)(src:List (List AV)):Option Bf:=
 match s with
 |.nils=>newArr g newId j src
 |.emp=>newArr g newId j src
 |.osl id off n=>match g id with
  |some (.darr sz es)=>match Nat.beq sz j.size&&Nat.ble (off+n) es.length with
   |true=>appIn g newId id off n sz es src
   |false=>none
  |some (.arr sz es)=>match Nat.beq sz j.size&&Nat.ble (off+n) es.length with
   |true=>appMix newId id off n sz es src
   |false=>none
  |_=>none
 |_=>none
def appendV(g:G)(newId:Id)(j:TI)(s x:AV):Option Bf:=
 match Ch g x with
 |none=>none
 |some []=>match s with
  |.nils=>some ⟨.nils,[]⟩
  |.emp=>some ⟨.emp,[]⟩
  |.osl id off n=>some ⟨.osl id off n,[]⟩
  |_=>none
 |some src=>match src.all (fun c=>c.length==j.size&&c.all AV.isCell)&&Nat.ble src.length Ay&&Nat.blt 0 j.size with
  |true=>appTo g newId j s src
  |false=>none
def Dw(op:BinOp)(k:IntKind)(a b:Int):Option AV:=
 match op with
 |.add=>some (.d (.int k (k.wrap (a+b))))
 |.sub=>some (.d (.int k (k.wrap (a-b))))
 |.mul=>some (.d (.int k (k.wrap (a*b))))
 |.eql=>some (.d (.bool (a==b)))
 |.neq=>some (.d (.bool (a !=b)))
 |.lss=>some (.d (.bool (decide (a<b))))
 |.leq=>some (.d (.bool (decide (a≤b))))
 |.gtr=>some (.d (.bool (decide (b<a))))
 |.geq=>some (.d (.bool (decide (b≤a))))
 |.rem=>if b=0 then none else some (.d (.int k (a.tmod b)))
 |.quo=>if b=0 then none else some (.d (.int k (k.wrap (a.tdiv b))))
 |_=>none
def Ei:TK→AV→AV→Option Bool
 |.int,.d (.int k a),.d (.int k' b)=>if k=k' then some (a==b)else none
 |.bool,.d (.bool a),.d (.bool b)=>some (a==b)
 |.str,.d (.str a),.d (.str b)=>some (a==b)
 |_,_,_=>none
def C7:List TK→List AV→List AV→Option Bool
 |[],[],[]=>some true
 |t::ts,x::xs,y::ys=>match Ei t x y,C7 ts xs ys with
  |some a,some b=>some (a&&b)
  |_,_=>none
 |_,_,_=>none
def GR:TK→AV→AV→Option Bool
 |.flat ks,.agg cs,.agg ds=>C7 ks cs ds
 |.func,.fn ..,.d .nilf=>some false
 |.func,.d .nilf,.d .nilf=>some true
 |.ptr,.ptr ..,.d .nilp=>some false
 |.ptr,.d .nilp,.d .nilp=>some true
 |.iface,.iface ..,.d .nili=>some false
 |.slice,.d (.lst (_::_)),.nils=>some false
 |.slice,.osl _ _ (_+1),.nils=>some false
 |.slice,.nils,.nils=>some true
 |.bool,x,y=>Ei .bool x y
 |.str,x,y=>Ei .str x y
 |_,_,_=>none
def fK(op:BinOp)(a b:ByteArray):Option AV:=
 match op with
 |.lss=>some (.d (.bool (Op.bytesLess a.toList b.toList)))
 |.leq=>some (.d (.bool (Op.bytesLess a.toList b.toList||a.toList==b.toList)))
 |.gtr=>some (.d (.bool (!(Op.bytesLess a.toList b.toList||a.toList==b.toList))))
 |.geq=>some (.d (.bool (!Op.bytesLess a.toList b.toList)))
 |_=>none
def qu(op:BinOp):AV→AV→Option AV
 |.d (.str a),.d (.str b)=>fK op a b
 |_,_=>none
def F2(op:BinOp)(x y:AV)(t:Option TI):Option AV:=
 match x,y with
 |.d (.int k a),.d (.int k' b)=>if k=k' then Dw op k a b else none
 |x,y=>match t with
  |some i=>match op,GR i.kind x y with
   |.eql,some b=>some (.d (.bool b))
   |.neq,some b=>some (.d (.bool (!b)))
   |_,_=>qu op x y
  |none=>none
def RG:Operand→Bool
 |.const _=>true
 |_=>false
def fI(c:Bool)(op:BinOp):AV→AV→Option TI→Option AV
 |.d .nili,.d .nili,some i=>match c,i.kind,op with
  |true,.iface,.eql=>some (.d (.bool true))
  |true,.iface,.neq=>some (.d (.bool false))
  |_,_,_=>none
 |_,_,_=>none
def qz:Option AV→Option AV→Option AV
 |some v,_=>some v
 |none,r=>r
def YH(c:Bool)(op:BinOp)(x y:AV)(t:Option TI):Option AV:=qz (F2 op x y t) (fI c op x y t)
def RN(g:G):TK→AV→Option Nat
 |.slice,.d (.lst es)=>some es.length
 |.str,.d (.str s)=>some s.size
 |.slice,.nils=>some 0
 |.slice,.emp=>some 0
 |.slice,.osl _ _ n=>some n
 |.map,.mp id=>match g id with
  |some (.map es)=>some es.length
  |_=>none
 |_,_=>none
def Bv:(place:Nat→Option (Nat×Nat))→List AV→List (Nat×AV)→Option (List AV)
 |_,cs,[]=>some cs
 |pl,cs,(i,v)::ps=>match pl i with
  |some (off,size)=>if v.cells.length=size∧v.cells.all AV.isCell then(Bj cs off v.cells).bind fun cs'=>Bv pl cs' ps else none
  |none=>none
def IL:AV→Option Int
 |.d (.int _ n)=>some n
 |_=>none
def Hg:Option AV→Int→Option Int
 |none,d=>some d
 |some v,_=>IL v
def EF(lo hi mx:Option AV)(n:Nat):Option (Nat×Nat×Option Nat):=
 match Hg lo 0,Hg hi n with
 |some l,some r=>match mx with
  |none=>if 0≤l∧l≤r then some (l.toNat,r.toNat,none)else none
  |some m=>match hi,IL m with
   |some _,some m=>if 0≤l∧l≤r∧r≤m then some (l.toNat,r.toNat,some m.toNat)else none
   |_,_=>none
 |_,_=>none
def I4(sz:Nat)(es:List (List AN)):Bool:=match es with
 |[]=>true
 |e::_=>Nat.beq e.length sz
def Ku(sz:Nat)(es:List (List AN)):Option (Nat×Nat×Option Nat)→Option AV
 |some (l,r,m)=>match Nat.ble r es.length&&I4 sz es with
  |true=>match m with
   |none=>some (.d (.lst ((es.drop l).take (r-l))))
   |some m=>match Nat.beq m l with
    |true=>some .emp
    |false=>none
  |false=>none
 |none=>none
def ZE(sz:Nat)(id:Id)(off l r:Nat)(m:Option Nat)(s n:Nat):Option AV:=
 match Nat.beq s sz&&Nat.ble (off+m.getD r) n&&Nat.ble (off+r) n&&Nat.blt 0 n with
 |true=>match m with
  |none=>some (.osl id (off+l) (r-l))
  |some m=>match Nat.beq m l with
   |true=>some .emp
   |false=>some .undef
 |false=>none
def Mq(g:G)(sz:Nat)(id:Id)(off:Nat):Option (Nat×Nat×Option Nat)→Option AV
 |some (l,r,m)=>match g id with
  |some (.darr s es)=>ZE sz id off l r m s es.length
  |some (.fro s es)=>ZE sz id off l r m s es.length
  |some (.arr s es)=>ZE sz id off l r m s es.length
  |_=>none
 |none=>none
def S7:Option (Nat×Nat×Option Nat)→Option AV
 |some (0,0,none)=>some .nils
 |some (0,0,some 0)=>some .emp
 |_=>none
def gp(s:ByteArray):Option (Nat×Nat×Option Nat)→Option AV
 |some (l,r,none)=>if r≤s.size then some (.d (.str (s.extract l r)))else none
 |_=>none
def E1(g:G)(k:TK)(sz:Nat)(x:AV)(lo hi mx:Option AV):Option AV:=
 match k,x with
 |.slice,.d (.lst es)=>Ku sz es (EF lo hi mx es.length)
 |.slice,.osl id off n=>Mq g sz id off (EF lo hi mx n)
 |.slice,.nils=>S7 (EF lo hi mx 0)
 |.str,.d (.str s)=>gp s (EF lo hi mx s.size)
 |_,_=>none
def Cx(e:Nat→AV)(ps:Array (Nat×Operand)):List (Nat×AV):=ps.toList.map fun p=>(p.1,ev e p.2)
def Er:AN→AN→Option Bool
 |.int k a,.int k' b=>if k=k' then some (a==b)else none
 |.str a,.str b=>some (a==b)
 |.bool a,.bool b=>some (a==b)
 |_,_=>none
def B4:List (AN×AV)→AN→Option (Option AV)
 |[],_=>some none
 |(k,v)::es,x=>match Er k x with
  |some true=>some (some v)
  |some false=>B4 es x
  |none=>none
def C2:List (AN×AV)→AN→AV→List (AN×AV)
 |[],x,v=>[(x,v)]
 |(k,w)::es,x,v=>match Er k x with
  |some true=>(k,v)::es
  |_=>(k,w)::C2 es x v
def IR:AV→Option AN
 |.d x=>some x
 |_=>none
def Gl:TK→AN→Bool
 |.int,.int ..=>true
 |.str,.str _=>true
 |.bool,.bool _=>true
 |_,_=>false
def mapPut(T:TypeId→Option TI)(g:G)(t:Option TI)(m k v:AV):Option Bf:=
 match(match t,IR k with
  |some i,some x=>match i.kind,T i.key with
   |.map,some kt=>Gl kt.kind x&&v.isCell
   |_,_=>false
  |_,_=>false)with
 |false=>none
 |true=>match m,IR k with
 |.mp id,some x=>match g id with
  |some (.map es)=>match B4 es x with
   |some _=>some ⟨.undef,[(id,.map (C2 es x v))]⟩
   |none=>none
  |_=>none
 |_,_=>none
section ops
variable(T:TypeId→Option TI)(e:Nat→AV)(g:G)(newId:Id)
def JT(c a b:AV):Option Bf:=match c with
 |.d (.bool t)=>some ⟨match t with|true=>a|false=>b,[]⟩
 |_=>none
def GZ:Option TI→Option Bf
 |some i=>if i.zero.length=i.size∧i.zero.all AV.isCell then some ⟨.ptr (0::newId) 0,[(0::newId,.box i.zero)]⟩else none
 |none=>none
def LY(x:AV):Option TI→Option Bf
 |some i=>if x.cells.length=i.size∧x.cells.all AV.isCell then some ⟨.ptr (0::newId) 0,[(0::newId,.box x.cells)]⟩else none
 |none=>none
def Gk(ps:List (Nat×AV)):Option TI→Option Bf
 |some i=>match i.str&&i.zero.length==i.size with
  |false=>none
  |true=>(Bv (fun k=>(i.flds[k]?).map fun f=>(f.1,f.2.1)) i.zero ps).map fun cs=>⟨.agg cs,[]⟩
 |none=>none
def EZ(n:Nat)(ps:List (Nat×AV))(j:TI):Option Bf:=
 match Bv (fun k=>some (k*j.size,j.size)) ((List.replicate n j.zero).flatten) ps with
 |some cs=>match n with
  |0=>some ⟨.emp,[]⟩
  |n=>match Nat.ble (n*j.size) (2 ^ 24)&&j.zero.length==j.size with
   |true=>newArr g newId j (Ea j.size n cs)
   |false=>none
 |none=>none
def Bq(n:Nat)(ps:List (Nat×AV)):Option TI→Option Bf
 |some i=>match i.kind,T i.elem with
  |.slice,some j=>EZ g newId n ps j
  |_,_=>none
 |none=>none
def HL(a:AV):Option TI→Option Bf
 |some i=>(F4 g i a).map (⟨·,[]⟩)
 |none=>none
def Fj(a x:AV):Option TI→Option Bf
 |some i=>F6 g i a x
 |none=>none
def EI:AV→Option Bf
 |.ptr id off=>some ⟨.ptr id off,[]⟩
 |.eptr id k off=>some ⟨.eptr id k off,[]⟩
 |.iptr cs=>some ⟨.iptr cs,[]⟩
 |_=>none
def W5:AV→Option Bf
 |.d (.bool b)=>some ⟨.d (.bool (!b)),[]⟩
 |_=>none
def FG(t:TypeId):AV→Option TI→Option Bf
 |.iface t' v,some i=>match i.kind with
  |.iface=>none
  |_=>if t'=t then some ⟨.tup [v,.d (.bool true)],[]⟩else(Dq i.agg i.zero).map fun z=>⟨.tup [z,.d (.bool false)],[]⟩
 |_,_=>none
def HO(ok:Bool)(r:Option AV)(j:TI):Option Bf:=
 match r,Dq j.agg j.zero with
 |some v,_=>some ⟨match ok with|true=>.tup [v,.d (.bool true)]|false=>v,[]⟩
 |none,some z=>some ⟨match ok with|true=>.tup [z,.d (.bool false)]|false=>z,[]⟩
 |_,_=>none
def Da(m k:AV)(ok:Bool):Option TI→Option Bf
 |some i=>match m,IR k,i.kind,T i.key with
  |.mp id,some x,.map,some kt=>match Gl kt.kind x,g id with
   |true,some (.map es)=>match B4 es x,T i.elem with
    |some r,some j=>HO ok r j
    |_,_=>none
   |_,_=>none
  |_,_,_,_=>none
 |none=>none
def ED(n:Nat)(j:TI):Option Bf:=match n with
 |0=>some ⟨.emp,[]⟩
 |n=>newArr g newId j (List.replicate n j.zero)
def Bw(l c:AV):Option TI→Option Bf
 |some i=>match i.kind,T i.elem,l,c with
  |.slice,some j,.d (.int _ n),.d (.int _ m)=>if 0≤n∧n=m∧n≤Ay then ED g newId n.toNat j else none
  |_,_,_,_=>none
 |none=>none
def C5(k:Nat)(x:AV):Option TI→Option Bf
 |some i=>match i.flds[k]? with
  |some f=>match f.2.1 with
   |0=>none
   |_=>match x with
    |.ptr id off=>some ⟨.ptr id (off+f.1),[]⟩
    |.eptr id n off=>some ⟨.eptr id n (off+f.1),[]⟩
    |.iptr cs=>if f.1≤cs.length then some ⟨.iptr (cs.drop f.1),[]⟩else none
    |_=>none
  |none=>none
 |none=>none
def Ix(k:Nat)(x:AV):Option TI→Option Bf
 |some i=>match i.flds[k]?,x with
  |some f,.agg cs=>((Gq cs f.1 f.2.1).bind (Dq f.2.2)).map (⟨·,[]⟩)
  |_,_=>none
 |none=>none
def JJ(n:Int)(x:AV)(j:TI):Option Bf:=
 if 0≤n then match x with
  |.d (.lst es)=>match es[n.toNat]? with
   |some c=>match Nat.beq c.length j.size with
    |true=>some ⟨.iptr c,[]⟩
    |false=>none
   |none=>none
  |.osl id off len=>if n.toNat<len then match g id with
   |some (.darr sz es)=>if sz=j.size∧off+n.toNat<es.length then some ⟨.eptr id (off+n.toNat) 0,[]⟩else none
   |some (.fro sz es)=>if sz=j.size∧off+n.toNat<es.length then some ⟨.eptr id (off+n.toNat) 0,[]⟩else none
   |some (.arr sz es)=>if sz=j.size∧off+n.toNat<es.length then some ⟨.eptr id (off+n.toNat) 0,[]⟩else none
   |_=>none
   else none
  |_=>none
 else none
def CA(x i:AV):Option TI→Option Bf
 |some t=>match i,t.kind,T t.elem with
  |.d (.int _ n),.slice,some j=>JJ g n x j
  |_,_,_=>none
 |none=>none
def HI(x i:AV)(t:Option TI):Option Bf:=match t.map TI.kind,x,i with
 |some .str,.d (.str s),.d (.int _ n)=>if 0≤n then(s.data.toList[n.toNat]?).map fun b=>⟨.d (.int .u8 b.toNat),[]⟩else none
 |_,_,_=>none
def Fw(k:Nat)(x:AV):Option Bf:=match x with
 |.tup vs=>(vs[k]?).map (⟨·,[]⟩)
 |_=>none
def FL(t u:Option TI)(s x:AV):Option Bf:=
 match t,u with
 |some i,some u=>match i.kind,u.kind,T i.elem with
  |.slice,.slice,some j=>appendV g newId j s x
  |_,_,_=>none
 |_,_=>none
def L9(id:Id)(off n:Nat)(j:TI):Option Bf:=
 match g id with
 |some (.darr sz es)=>match CK (fun _=>none) j.zero with
  |some z=>if z.length=sz∧j.zero.length=j.size∧j.zero.all AV.isCell∧0<sz then(Bj es off (List.replicate n z)).map fun es'=>⟨.undef,[(id,.darr sz es')]⟩else none
  |none=>none
 |_=>none
def Gm(t:Option TI)(x:AV):Option Bf:=
 match t with
 |some i=>match i.kind,x with
  |.slice,.osl id off n=>match n with
   |0=>some ⟨.undef,[]⟩
   |n=>match T i.elem with
    |some j=>L9 g id off n j
    |none=>none
  |.slice,.nils=>some ⟨.undef,[]⟩
  |.slice,.emp=>some ⟨.undef,[]⟩
  |_,_=>none
 |none=>none
def RZ(x y:AV):Option Bf:=match x,y with
 |.d (.int k a),.d (.int k' b)=>if k=k' then some ⟨.d (.int k (if b>a then b else a)),[]⟩else none
 |_,_=>none
def S0(x y:AV):Option Bf:=match x,y with
 |.d (.int k a),.d (.int k' b)=>if k=k' then some ⟨.d (.int k (if b<a then b else a)),[]⟩else none
 |_,_=>none
def ER(b:Builtin)(as:List AV)(ts:List TypeId):Option Bf:=
 match b with
 |.len=>match as with
  |[x]=>match ts with
   |[t]=>match T t with
    |some i=>(RN g i.kind x).map fun(n:Nat)=>⟨.d (.int .i64 (n:Int)),[]⟩
    |none=>none
   |_=>none
  |_=>none
 |.append=>match as,ts with
  |[s,x],[t,u]=>FL T g newId (T t) (T u) s x
  |_,_=>none
 |.clear=>match as,ts with
  |[x],[t]=>Gm T g (T t) x
  |_,_=>none
 |.max=>match as with
  |[x,y]=>RZ x y
  |_=>none
 |.min=>match as with
  |[x,y]=>S0 x y
  |_=>none
 |_=>none
def Gy(c:Call):Option Bf:=match c.callee with
 |.builtin b=>ER T g newId b (c.args.toList.map (ev e)) c.argTypes.toList
 |_=>none
def Zw(op:UnOp)(x:AV):Option Bf:=match op with
 |.not=>W5 x
 |_=>none
def Ev(f:Fn)(a b:List AV):Option Bf:=match f with
 |.func f=>some ⟨.fn f a b,[]⟩
 |_=>none
def Ex:Option Operand→Option Bf
 |none=>some ⟨.mp (1::newId),[(1::newId,.map [])]⟩
 |some _=>none
def Hi(t:TypeId)(x:AV):Option TI→Option Bf
 |some i=>match i.kind with
  |.iface=>none
  |_=>some ⟨.iface t x,[]⟩
 |none=>none
def FC(x:AV)(lo hi mx:Option AV):Option TI→Option Bf
 |some i=>match i.kind,T i.elem with
  |.slice,some j=>(E1 g .slice j.size x lo hi mx).map (⟨·,[]⟩)
  |.str,_=>(E1 g .str 0 x lo hi mx).map (⟨·,[]⟩)
  |_,_=>none
 |none=>none
def evalOp(o:Op):Option Bf:=
 match o with
 |.move x=>some ⟨ev e x,[]⟩
 |.assign x=>some ⟨ev e x,[]⟩
 |.pick c a b=>JT (ev e c) (ev e a) (ev e b)
 |.alloc t=>GZ newId (T t)
 |.box t x=>LY newId (ev e x) (T t)
 |.build t ps=>Gk (Cx e ps) (T t)
 |.buildSlice t n ps=>Bq T g newId n (Cx e ps) (T t)
 |.load t a=>HL g (ev e a) (T t)
 |.store t a x=>Fj g (ev e a) (ev e x) (T t)
 |.nilCheck x=>EI (ev e x)
 |.binOp op t x y _=>(YH (RG x||RG y) op (ev e x) (ev e y) (T t)).map (⟨·,[]⟩)
 |.unOp op _ x=>Zw op (ev e x)
 |.makeInterface t x=>Hi t (ev e x) (T t)
 |.typeAssert x _ t ok=>match ok with
  |true=>FG t (ev e x) (T t)
  |false=>none
 |.makeFunc f first cap=>Ev f (first.toList.map (ev e)) (cap.toList.map (ev e))
 |.makeMap _ r=>Ex newId r
 |.insert t m k v=>mapPut T g (T t) (ev e m) (ev e k) (ev e v)
 |.mapUpdate t m k v=>mapPut T g (T t) (ev e m) (ev e k) (ev e v)
 |.lookup t m k ok=>Da T g (ev e m) (ev e k) ok (T t)
 |.makeSlice t l c=>Bw T g newId (ev e l) (ev e c) (T t)
 |.slice t x lo hi mx=>FC T g (ev e x) (lo.map (ev e)) (hi.map (ev e)) (mx.map (ev e)) (T t)
 |.fieldAddr t x k=>C5 k (ev e x) (T t)
 |.field t x k=>Ix k (ev e x) (T t)
 |.indexAddr t x i=>CA T g (ev e x) (ev e i) (T t)
 |.index t x i=>HI (ev e x) (ev e i) (T t)
 |.extract x k=>Fw k (ev e x)
 |.call c=>Gy T e g newId c
 |_=>none
end ops
structure Fr where
 f:FuncId
 π:List Nat
 raw:Bool
 prot:Option (List Nat)
 rnd:Bool:=false
 nt:Nat
inductive Df where
 |mark (id:Id)
 |call (f:FuncId) (args:List AV)
structure St where
 env:BI
 heap:AB
 base:Nat
 defs:List Df
inductive nI where
 |fn (f:FuncId)
 |round (id:Id) (r:Lp)
inductive AQ where
 |ret (v:AV)
 |pan (v:AV)
inductive E(α:Type) where
 |ok (x:α)
 |err (l:List Nat)
abbrev AH:=nI→List AV→AB→List Nat→Bool→Option (List Nat)→E (AQ×AB)
structure Fp where
 rd:Option (List Id):=some []
 wr:Option (List Id):=some []
inductive Em where
 |ok (st:St) (fp:Fp)
 |pan (v:AV) (st:St)
 |err (l:List Nat)
mutual
def AE:AV→List Id
 |.osl id _ _=>[id]
 |.ptr id _=>[id]
 |.eptr id _ _=>[id]
 |.yld id=>[id]
 |.mp id=>[id]
 |.iface _ v=>AE v
 |.agg cs=>An cs
 |.tup vs=>An vs
 |.fn _ a b=>An a++An b
 |_=>[]
def An:List AV→List Id
 |[]=>[]
 |v::vs=>AE v++An vs
end
def B1(g:G)(l:List Id):List Id:=l++l.flatMap fun id=>match g id with
 |some (.arr _ es)=>es.flatMap An
 |_=>[]
def C0(e:Nat→AV)(op:Op):List Id:=op.operands.toList.flatMap fun y=>AE (ev e y)
def EE(e:Nat→AV)(g:G)(op:Op):List Id:=match op with
 |.load ..=>C0 e op
 |.store ..=>C0 e op
 |.buildSlice ..=>C0 e op
 |.insert ..=>C0 e op
 |.mapUpdate ..=>C0 e op
 |.lookup ..=>C0 e op
 |.slice ..=>C0 e op
 |.indexAddr ..=>C0 e op
 |.call c=>match c.callee with
  |.builtin .len=>C0 e op
  |.builtin .clear=>C0 e op
  |.builtin .append=>B1 g (C0 e op)
  |_=>[]
 |_=>[]
def GW(p:Option (List Nat))(δ:AB):Bool:=
 match p with
 |none=>true
 |some ρ=>δ.all fun x=>Id.under ρ x.1
def Bi(e:BI)(dst:Option Tmp)(v:AV):BI:=
 match dst with
 |some t=>(t,v)::e
 |none=>e
def SK{α:Type}(h δ:AB)(k:AB→α):α:=match δ with
 |[]=>k h
 |δ=>Eh (h.puts δ) k
def gc(ρ:List Nat)(h:AB):AB:=h.filter fun p=>match p.1 with
 |0::l=> !Id.under ρ l
 |_=>true
def DA(ρ:List Nat)(dst:Option Tmp)(st:St):E (AQ×AB)→Em
 |.ok (.ret v,h)=>PJ (Bi st.env dst v) fun env=>Eh (gc ρ h) fun heap=>.ok {st with env,heap} ⟨none,some (Qp st.heap heap)⟩
 |.ok (.pan v,h)=>Eh (gc ρ h) fun heap=>.pan v {st with heap}
 |.err l=>.err l
def E7(fr:Fr)(as:List AV)(v:AV)(h:AB)(st:St)(env:BI):Em:=
 match A6 v h with
 |some o=>Eh (o::st.heap) fun heap=>.ok {st with env,heap} ⟨some (B1 st.heap.get (An as)),some [o.1]⟩
 |none=>
  Na (as.flatMap (mark st.heap.get)) fun δ=>
  match GW fr.prot δ with
  |true=>Eh (h++st.heap.puts δ) fun heap=>.ok {st with env,heap} ⟨some (B1 st.heap.get (An as)),some (δ.map (·.1)++h.map (·.1))⟩
  |false=>.err [2]
def CP(fr:Fr)(as:List AV)(dst:Option Tmp)(st:St):E (AQ×AB)→Em
 |.ok (.ret v,h)=>PJ (Bi st.env dst v) fun env=>match flat v with
  |true=>.ok {st with env} ⟨some (B1 st.heap.get (An as)),some []⟩
  |false=>E7 fr as v h st env
 |.ok (.pan v,_)=>match flat v with
  |true=>.pan v st
  |false=>.err [3]
 |.err l=>.err l
def Ke(dst:Option Tmp)(st:St):E (AQ×AB)→Em
 |.ok (.ret v,_)=>match flat v with
  |true=>PJ (Bi st.env dst v) fun env=>.ok {st with env} ⟨none,some []⟩
  |false=>.err [4]
 |.ok (.pan v,_)=>match flat v with
  |true=>.pan v st
  |false=>.err [3]
 |.err l=>.err l
def IB(g:G)(as:List AV):List AV:=as.map fun v=>(DW g v).getD v
def Dh(K:AH)(fr:Fr)(ρ:List Nat)(f:FuncId)(as:List AV)(dst:Option Tmp)(st:St)(m:Mode):Em:=
 IU (IB st.heap.get as) fun xs=>
 Na (as.flatMap (mark st.heap.get)) fun δ=>
 match m with
 |.ro=>Eh (st.heap.puts δ) fun heap=>Ke dst st (K (.fn f) xs heap ρ true (some ρ))
 |_=>
  match GW fr.prot δ with
  |true=>Eh (st.heap.puts δ) fun heap=>DA ρ dst st (K (.fn f) xs heap ρ true fr.prot)
  |false=>.err [2]
def Cf(K:AH)(fr:Fr)(ρ:List Nat)(f:FuncId)(as:List AV)(dst:Option Tmp)(st:St)(m:Mode):Em:=
 match m with
 |.raw=>DA ρ dst st (K (.fn f) as st.heap ρ true fr.prot)
 |m=>match Cn st.heap.get as with
  |some xs=>IU xs fun xs=>CP fr as dst st (K (.fn f) xs [] (match m with|.own=>ρ|_=>[]) false none)
  |none=>Dh K fr ρ f as dst st m
def Gb(K:AH)(fr:Fr)(ρ:List Nat)(id:Id)(as:List AV)(dst:Option Tmp)(st:St):Em:=
 match st.heap.get id with
 |some (.loop r)=>DA ρ dst st (K (.round id r) as st.heap ρ true fr.prot)
 |_=>.err [1]
def Cr(C:Bk)(K:AH)(fr:Fr)(ρ:List Nat)(fv:AV)(args:List AV)(dst:Option Tmp)(st:St):Em:=
 match fv with
 |.yld id=>Gb K fr ρ id args dst st
 |.fn f first cap=>IU (first++args++cap) fun as=>Cf K fr ρ f as dst st (C.mode f)
 |_=>.err [5]
def D2(C:Bk)(K:AH)(fr:Fr)(ρ:List Nat)(r:AV)(m:String)(args:List AV)(dst:Option Tmp)(st:St):Em:=
 match r with
 |.iface t v=>match C.meth t m with
  |some f=>Cr C K fr ρ (.fn f [v] []) args dst st
  |none=>.err [7]
 |_=>.err [8]
def EA(st:St)(v:AV):Em:=match flat v with
 |true=>match v with
  |.iface t u=>.pan (.iface t u) st
  |_=>.err [9]
 |false=>.err [9]
def E8(fr:Fr)(e:Nat→AV)(c:Call)(dst:Option Tmp)(st:St):Em:=match c.callee with
 |.value f=>match ev e f,fr.rnd with
  |.fn g [] [],false=>.ok {st with env:=Bi st.env dst .undef,defs:=.call g (c.args.toList.map (ev e))::st.defs} ⟨none,none⟩
  |_,_=>.err [10]
 |_=>.err [10]
def CQ(fr:Fr)(op:Op)(dst:Option Tmp)(st:St):Option Bf→Em
 |some x=>qI x.v fun v=>Na x.δ fun δ=>match GW fr.prot δ with
  |true=>PJ (Bi st.env dst v) fun env=>SK st.heap δ fun heap=>
   .ok {st with env,heap} ⟨some (EE st.env.get st.heap.get op),some (δ.map (·.1))⟩
  |false=>.err [11]
 |none=>.err [12]
def Ai(C:Bk)(K:AH)(fr:Fr)(ρ:List Nat)(op:Op)(dst:Option Tmp)(st:St):Em:=
 match op with
 |.call c=>match c.callee with
  |.value f=>Cr C K fr ρ (ev st.env.get f) (c.args.toList.map (ev st.env.get)) dst st
  |.invoke r m=>D2 C K fr ρ (ev st.env.get r) m (c.args.toList.map (ev st.env.get)) dst st
  |.builtin _=>CQ fr op dst st (Gy C.T st.env.get st.heap.get ρ c)
 |.panic x=>EA st (ev st.env.get x)
 |.defer c=>E8 fr st.env.get c dst st
 |op=>CQ fr op dst st (evalOp C.T st.env.get st.heap.get ρ op)
def I0(ops:Array Oper)(e:BI)(o:Oper):Option Bool:=
 match o.guard with
 |none=>some true
 |some (j,want)=>match((ops[j]?).bind (·.dst)).map e.get with
  |some (.d (.bool b))=>some (b==want)
  |some (.tup [])=>some false
  |_=>none
def Bc(C:Bk)(K:AH)(fr:Fr)(ops:Array Oper)(ρ:List Nat)(o:Oper)(st:St):Em:=
 match I0 ops st.env o with
 |none=>.err [6]
 |some false=>PJ (Bi st.env o.dst (.tup [])) fun env=>.ok {st with env} {}
 |some true=>Ai C K fr ρ o.op o.dst st
def Pt(fp:Fp):E ((Option AV×St)×List Fp)→E ((Option AV×St)×List Fp)
 |.ok (r,fps)=>.ok (r,fp::fps)
 |.err l=>.err l
def B7(C:Bk)(K:AH)(fr:Fr)(ops:Array Oper)(b:Nat)(alone:Nat→Bool):List Oper→Nat→St→E ((Option AV×St)×List Fp)
 |[],_,st=>.ok ((none,st),[])
 |o::l,i,st=>Fc (b+i) fun n=>match Bc C K fr ops (n::fr.π) o st with
  |.ok st' fp=>Pt fp (B7 C K fr ops b alone l (i+1) st')
  |.pan v st'=>match alone i with
   |true=>.ok ((some v,st'),[])
   |false=>.err [13,i]
  |.err l=>.err (i::l)
def apart(a b:Option (List Id)):Bool:=
 match a,b with
 |some [],_=>true
 |_,some []=>true
 |some l,some m=>l.all fun x=> !m.contains x
 |_,_=>false
def Fp.apart(a b:Fp):Bool:=Abs.apart a.wr b.rd&&Abs.apart a.rd b.wr&&Abs.apart a.wr b.wr
def Cc(fps:List Fp)(l:List (Nat×Nat)):Bool:=
 l.all fun(i,j)=>match fps[i]?,fps[j]? with
  |some a,some b=>a.apart b
  |_,_=>true
inductive Cq where
 |normal
 |exit (id:Nat)
 |ret
 |pan (v:AV)
def Hq(l:List Id)(id:Id):List Id:=match l.any (Id.is id)with|true=>l|false=>l++[id]
def DQ(l:List Id)(new:List Id):List Id:=new.foldl Hq l
def Eg:Option Obj→List Id
 |some (.box cs)=>An cs
 |some (.arr _ es)=>es.flatMap An
 |some (.map es)=>es.flatMap fun p=>AE p.2
 |some (.loop r)=>r.env.flatMap fun p=>AE p.2
 |_=>[]
def BU(h:AB):Nat→List Id→Nat→List Id
 |0,l,_=>l
 |n+1,l,i=>match l[i]? with
  |some id=>BU h n (DQ l (Eg (h.get id))) (i+1)
  |none=>l
def Cb(π:List Nat):List Id→Nat→Id→Option Id
 |[],_,_=>none
 |x::r,n,id=>match Id.is x id with|true=>some ((match id with|0::_=>0|_=>1)::n::π)|false=>Cb π r (n+1) id
mutual
def GQ(ν:Id→Option Id):AV→AV
 |.osl id o n=>match ν id with|some id=>.osl id o n|none=>.undef
 |.ptr id o=>match ν id with|some id=>.ptr id o|none=>.undef
 |.eptr id i o=>match ν id with|some id=>.eptr id i o|none=>.undef
 |.yld id=>match ν id with|some id=>.yld id|none=>.undef
 |.mp id=>match ν id with|some id=>.mp id|none=>.undef
 |.iface t v=>.iface t (GQ ν v)
 |.agg cs=>.agg (Fk ν cs)
 |.tup vs=>.tup (Fk ν vs)
 |.fn f a b=>.fn f (Fk ν a) (Fk ν b)
 |v=>v
def Fk(ν:Id→Option Id):List AV→List AV
 |[]=>[]
 |v::vs=>GQ ν v::Fk ν vs
end
def Eu(ν:Id→Option Id):Obj→Obj
 |.box cs=>.box (Fk ν cs)
 |.arr sz es=>.arr sz (es.map (Fk ν))
 |.map es=>.map (es.map fun p=>(p.1,GQ ν p.2))
 |.loop r=>.loop {r with env:=r.env.map fun p=>(p.1,GQ ν p.2)}
 |o=>o
def CH(h:AB)(ν:Id→Option Id):List Id→AB
 |[]=>[]
 |id::r=>match h.get id,ν id with
  |some o,some id'=>(id',Eu ν o)::CH h ν r
  |_,_=>CH h ν r
def se{α:Type}(st:St)(k:St→α):α:=mG st.env fun env=>Na st.heap fun heap=>Fc st.base fun base=>k {env,heap,base,defs:=st.defs}
def DS(C:Bk)(fr:Fr)(b:Nat)(st:St):St:=
 let e:=(C.live fr.f b).map fun t=>(t,st.env.get t)
 if fr.raw|| !st.defs.isEmpty then{st with env:=e}
 else
  let l:=BU st.heap 1000 (DQ [] (e.flatMap fun p=>AE p.2)) 0
  let ν:=Cb fr.π l 0
  {env:=e.map fun p=>(p.1,GQ ν p.2),heap:=CH st.heap ν l,base:=l.length,defs:=[]}
def Hz:TypeDesc→Bool
 |.struct _=>true
 |.array ..=>true
 |_=>false
def FS:TypeDesc→TK
 |.bool=>.bool
 |.int _=>.int
 |.string=>.str
 |_=>.other
def Kr(P:Program):Nat→List Field→Option (List TK)
 |_,[]=>some []
 |n,f::fs=>match(P.underlying f.type).map FS,(P.info? f.type).map (·.size),Kr P (n+1) fs with
  |some .bool,some 1,some ks=>if f.offset=n∧f.name≠ "_" then some (.bool::ks)else none
  |some .int,some 1,some ks=>if f.offset=n∧f.name≠ "_" then some (.int::ks)else none
  |some .str,some 1,some ks=>if f.offset=n∧f.name≠ "_" then some (.str::ks)else none
  |_,_,_=>none
def Bs(P:Program)(t:TypeId):TypeDesc→TK
 |.bool=>.bool
 |.int _=>.int
 |.string=>.str
 |.func ..=>.func
 |.pointer _=>.ptr
 |.interface _=>.iface
 |.slice _=>.slice
 |.map ..=>.map
 |.struct fs=>match Kr P 0 fs.toList with
  |some ks=>if P.stoodInHeld t=false∧P.eqGuardType P.depth t=false then .flat ks else .other
  |none=>.other
 |_=>.other
def Ik(P:Program):TypeDesc→List (Nat×Nat×Bool)
 |.struct fs=>fs.toList.map fun f=>(f.offset,((P.info? f.type).map (·.size)).getD 0,((P.underlying f.type).map Hz).getD false)
 |_=>[]
def fw:TypeDesc→Bool
 |.struct _=>true
 |_=>false
def HD(P:Program):TypeDesc→Bool
 |.struct fs=>fs.toList.all fun f=>(P.info? f.type).isSome&&(P.underlying f.type).isSome
 |_=>true
def Mk:Value→Bool
 |.agg _=>true
 |_=>false
def Fi:TypeDesc→TypeId
 |.slice e=>e
 |.map _ e=>e
 |_=>0
def QC:TypeDesc→TypeId
 |.map k _=>k
 |_=>0
def BL(P:Program)(mix:List TypeId)(t:TypeId):Option TI:=
 match P.info? t,P.underlying t with
 |some i,some d=>match i.zero with
  |some z=>match Nat.ble i.bytes 65536&&HD P d&&Nat.beq z.cells.size i.size&&(Mk z==Hz d)with
   |true=>some {kind:=Bs P t d,size:=i.size,agg:=Hz d,str:=fw d,zero:=z.cells.toList.map CO,flds:=Ik P d,elem:=Fi d,key:=QC d,mix:=mix.any (Nat.beq t)}
   |false=>none
  |none=>none
 |_,_=>none
def HE(C:Bk)(f:FuncId)(id n base:Nat)(draw:Bool):E ((Option AV×St)×List Fp)→E (Cq×St)
 |.ok ((o,st'),fps)=>
  match !draw||Cc fps (C.pairs f id)with
  |true=>Fc (base+n) fun base=>match o with
   |none=>.ok (.normal,{st' with base})
   |some v=>.ok (.pan v,{st' with base})
  |false=>.err [15,id]
 |.err l=>.err (id::l)
def Cp(C:Bk)(K:AH)(fr:Fr)(id:Nat)(ops:Array Oper)(draw:Bool)(st:St):E (Cq×St):=
 HE C fr.f id ops.size st.base draw (B7 C K fr ops st.base (fun i=> !draw||C.alone fr.f id i) ops.toList 0 st)
def Ee(id:Nat):E (Cq×St)→E (Cq×St)
 |.ok (.exit id',st')=>match Nat.beq id' id with
  |true=>.ok (.normal,st')
  |false=>.ok (.exit id',st')
 |r=>r
def CN(y:St→E (Cq×St)):E (Cq×St)→E (Cq×St)
 |.ok (.normal,st')=>y st'
 |r=>r
def G7(c:AV)(x y:E (Cq×St)):E (Cq×St):=
 match c with
 |.d (.bool t)=>match t with
  |true=>x
  |false=>y
 |_=>.err [14]
def Pp(st:St):Option Obj→E (Cq×St)
 |some (.loop r)=>match r.state with
  |.busy=>.err [16]
  |_=>match r.pend with
   |none=>.ok (.normal,st)
   |some .ret=>.ok (.ret,st)
   |some (.exit k)=>.ok (.exit k,st)
   |some _=>.err [38]
 |_=>.err [17]
def F3(ρ ρ2:List Nat)(id:Id)(st1:St):E (AQ×AB)→E (Cq×St)
 |.ok (.ret _,h')=>Eh (gc ρ (gc ρ2 h')) fun heap=>Pp {st1 with heap} (h'.get id)
 |.ok (.pan v,h')=>Eh (gc ρ (gc ρ2 h')) fun heap=>.ok (.pan v,{st1 with heap})
 |.err l=>.err l
def G1(K:AH)(prot:Option (List Nat))(ρ:List Nat)(id:Id)(h:AB):AV→E (AQ×AB)
 |.fn f first cap=>IU (first++[.yld id]++cap) fun as=>K (.fn f) as h ρ true prot
 |_=>.err [18]
def ES(K:AH)(fr:Fr)(g:Operand)(ps:Array Tmp)(asg body:Code)(st:St):E (Cq×St):=
 match fr.rnd with
 |true=>.err [37]
 |false=>
 Fc st.base fun b=>
 Eh (st.heap.put (0::b::fr.π) (.loop {state:=.ready,pend:=none,f:=fr.f,env:=st.env,params:=ps.toList,asg:=asg,body:=body,nt:=fr.nt})) fun h=>
 Fc (b+1) fun b1=>
 Fc (b+2) fun base=>
 F3 (b::fr.π) (b1::fr.π) (0::b::fr.π) {st with heap:=h,base,defs:=.mark (0::b::fr.π)::st.defs}
  (G1 K fr.prot (b1::fr.π) (0::b::fr.π) h (ev st.env.get g))
def Ar(C:Bk)(K:AH)(fr:Fr):Nat→Nat→Code→St→E (Cq×St)
 |0,_,_,_=>.err [0]
 |n+1,b,c,st=>match c with
  |.skip=>.ok (.normal,st)
  |.label _=>.ok (.normal,st)
  |.seq x y=>CN (Ar C K fr n b y) (Ar C K fr n b x st)
  |.cond c x y=>G7 (ev st.env.get c) (Ar C K fr n b x st) (Ar C K fr n b y st)
  |.block id x=>Ee id (Ar C K fr n id x st)
  |.loop x=>se (DS C fr b st) fun st=>CN (Ar C K fr n b (.loop x)) (Ar C K fr n b x st)
  |.exit id=>.ok (.exit id,st)
  |.ret=>.ok (.ret,st)
  |.region id ops draw=>Cp C K fr id ops draw st
  |.rangeFunc g ps asg body=>ES K fr g ps asg body st
  |_=>.err [19]
def Bu(C:Bk)(st:St):ResultVar→Option AV
 |.tmp t=>some (st.env.get t)
 |.cell a t=>(C.T t).bind fun i=>F4 st.heap.get i (st.env.get a)
def JF{α β:Type}(f:α→Option β):List α→Option (List β)
 |[]=>some []
 |x::l=>match f x,JF f l with
  |some y,some m=>some (y::m)
  |_,_=>none
def Fz(C:Bk)(fn:Func)(st:St):Option AV:=
 match JF (Bu C st) fn.results.toList with
 |some []=>some (.tup [])
 |some [v]=>some v
 |some vs=>some (.tup vs)
 |none=>none
def CD(C:Bk)(prot:Option (List Nat)):List Df→Option AV→AB→E (Option AV×AB)
 |[],p,h=>.ok (p,h)
 |.mark _::l,p,h=>CD C prot l p h
 |.call f args::l,p,h=>match C.caught f,args with
  |some t,[.ptr id off]=>match p with
   |none=>CD C prot l none h
   |some (.iface t' (.agg [.d (.int k n)]))=>match Nat.beq t' t&&GW prot [(id,.box [])]with
    |true=>match h.get id with
     |some (.box cs)=>match Bj cs off [.d (.int k n)]with
      |some cs'=>CD C prot l none (h.put id (.box cs'))
      |none=>.err [20]
     |_=>.err [21]
    |false=>.err [22]
   |_=>.err [23]
  |_,_=>.err [24]
def Cz:Nat→List AV→BI
 |_,[]=>[]
 |n,v::vs=>(n,v)::Cz (n+1) vs
def Cm(e:BI):List Nat→List AV→Option BI
 |[],[]=>some e
 |t::ts,v::vs=>Cm ((t,v)::e) ts vs
 |_,_=>none
def ND(C:Bk)(f:FuncId)(fn:Func)(π:List Nat)(raw:Bool)(st:St):E (Option AV×AB)→E (AQ×AB)
 |.ok (none,h)=>match Fz C fn {st with heap:=h}with
  |some r=>qI r fun r=>match raw with
   |true=>.ok (.ret r,h)
   |false=>match π with
    |[]=>match QT h.get r with
     |some r'=>qI r' fun r'=>.ok (.ret r',[])
     |none=>.err [26,f]
    |_=>.ok (.ret r,h)
  |none=>.err [27,f]
 |.ok (some v,h)=>.ok (.pan v,h)
 |.err l=>.err (f::l)
def ep(C:Bk)(prot:Option (List Nat))(f:FuncId)(fn:Func)(π:List Nat)(raw:Bool):E (Cq×St)→E (AQ×AB)
 |.ok (o,st)=>match o with
  |.ret=>ND C f fn π raw st (CD C prot st.defs none st.heap)
  |.normal=>ND C f fn π raw st (CD C prot st.defs none st.heap)
  |.pan v=>ND C f fn π raw st (CD C prot st.defs (some v) st.heap)
  |_=>.err [28,f]
 |.err l=>.err (f::l)
def KT(P:Program)(C:Bk)(K:AH)(fuel:Nat)(f:FuncId)(args:List AV)(h:AB)(π:List Nat)(raw:Bool)(prot:Option (List Nat)):E (AQ×AB):=
 match P.funcs[f]? with
 |some fn=>match fn.body with
  |some c=>match Nat.ble args.length fn.ntmps with
   |true=>ep C prot f fn π raw (Ar C K {f,π,raw,prot,nt:=fn.ntmps} fuel 0 c {env:=Cz 0 args,heap:=h,base:=0,defs:=[]})
   |false=>.err [39,f]
  |none=>.err [29,f]
 |none=>.err [30,f]
def F7(id:Id)(h:AB)(r:Lp)(j:Option Code):E (AQ×AB):=
 .ok (.ret (.d (.bool j.isNone)),h.put id (.loop {r with state:=match j with|none=>.ready|some _=>.done,pend:=j}))
def TE(id:Id)(o:Cq)(h:AB):Option Obj→E (AQ×AB)
 |some (.loop r)=>match o with
  |.normal=>F7 id h r none
  |.ret=>F7 id h r (some .ret)
  |.exit k=>F7 id h r (some (.exit k))
  |.pan v=>.ok (.pan v,h)
 |_=>.err [32]
def KR(id:Id):E (Cq×St)→E (AQ×AB)
 |.ok (o,st)=>match st.defs with
  |[]=>TE id o st.heap (st.heap.get id)
  |_=>.err [31]
 |.err l=>.err (99::l)
def I7(C:Bk)(K:AH)(fuel:Nat)(id:Id)(r0:Lp)(π:List Nat)(prot:Option (List Nat))(st:St):Option Obj→E (AQ×AB)
 |some (.loop r)=>match r.state with
  |.ready=>Eh (st.heap.put id (.loop {r with state:=.busy})) fun heap=>
   KR id (Ar C K {f:=r0.f,π,raw:=true,prot,rnd:=true,nt:=r0.nt} fuel 0 r0.body {st with heap})
  |_=>.err [36]
 |_=>.err [33]
def FP(C:Bk)(K:AH)(fuel:Nat)(id:Id)(r0:Lp)(π:List Nat)(prot:Option (List Nat)):E (Cq×St)→E (AQ×AB)
 |.ok (.normal,st)=>match st.defs,GW prot [(id,.box [])]with
  |[],true=>I7 C K fuel id r0 π prot st (st.heap.get id)
  |_,_=>.err [40]
 |_=>.err [34]
def Eb(C:Bk)(K:AH)(fuel:Nat)(id:Id)(r:Lp)(args:List AV)(h:AB)(π:List Nat)(prot:Option (List Nat)):E (AQ×AB):=
 match Cm r.env r.params args with
 |some e=>FP C K fuel id r π prot (Ar C K {f:=r.f,π,raw:=true,prot,rnd:=true,nt:=r.nt} fuel 0 r.asg {env:=e,heap:=h,base:=0,defs:=[]})
 |none=>.err [35]
def FN(P:Program)(C:Bk)(m:Nat):Nat→AH
 |0=>fun _ _ _ _ _ _=>.err [25]
 |n+1=>fun t args h π raw prot=>match t with
  |.fn f=>match C.good f with
   |true=>KT P C (FN P C m n) m f args h π raw prot
   |false=>.err [41,f]
  |.round id r=>match raw with
   |true=>Eb C (FN P C m n) m id r args h π prot
   |false=>.err [42]
end Go.Abs
namespace Go.Abs
section
variable{α:Type}
@[simp] theorem FE(n:Nat)(k:Nat→α):Fc n k=k n:=by cases n<;>rfl
@[simp] theorem qf(b:Bool)(k:Bool→α):mb b k=k b:=by cases b<;>rfl
@[simp] theorem rb(n:Int)(k:Int→α):pL n k=k n:=by cases n<;>simp[pL]
@[simp] theorem qt(x:IntKind)(k:IntKind→α):mV x k=k x:=by cases x<;>rfl
@[simp] theorem rF(l:List Nat)(k:List Nat→α):J2 l k=k l:=by
  induction l generalizing k with
  |nil=>rfl
  |cons n l ih=>simp[J2,ih]
@[simp] theorem rR(x:AN)(k:AN→α):Xm x k=k x:=by cases x<;>simp[Xm]
@[simp] theorem rB(l:List AN)(k:List AN→α):Ry l k=k l:=by
  induction l generalizing k with
  |nil=>rfl
  |cons n l ih=>simp[Ry,ih]
@[simp] theorem px(l:List (List AN))(k:List (List AN)→α):LM l k=k l:=by
  induction l generalizing k with
  |nil=>rfl
  |cons n l ih=>simp[LM,ih]
@[simp] theorem qh(x:AN)(k:AN→α):eF x k=k x:=by cases x<;>simp[eF,Xm]
@[simp] theorem rP(x:AV)(k:AV→α):cu x k=k x:=by cases x<;>simp[cu]
@[simp] theorem rJ(l:List AV)(k:List AV→α):M3 l k=k l:=by
  induction l generalizing k with
  |nil=>rfl
  |cons n l ih=>simp[M3,ih]
@[simp] theorem rS(x:AV)(k:AV→α):UW x k=k x:=by
  unfold UW;split<;>simp
@[simp] theorem Aq(l:List AV)(k:List AV→α):IU l k=k l:=by
  induction l generalizing k with
  |nil=>rfl
  |cons n l ih=>simp[IU,ih]
@[simp] theorem Gu(x:AV)(k:AV→α):qI x k=k x:=by
  unfold qI;split<;>simp
@[simp] theorem qT(l:List (List AV))(k:List (List AV)→α):XC l k=k l:=by
  induction l generalizing k with
  |nil=>rfl
  |cons n l ih=>simp[XC,ih]
@[simp] theorem ma(l:List (AN×AV))(k:List (AN×AV)→α):Kn l k=k l:=by
  induction l generalizing k with
  |nil=>rfl
  |cons n l ih=>obtain⟨x,v⟩:=n;simp[Kn,ih]
@[simp] theorem rQ(x:Obj)(k:Obj→α):ny x k=k x:=by cases x<;>simp[ny]
@[simp] theorem BD(l:AB)(k:AB→α):Na l k=k l:=by
  induction l generalizing k with
  |nil=>rfl
  |cons n l ih=>obtain⟨x,v⟩:=n;simp[Na,ih]
@[simp] theorem AR(l:AB)(k:AB→α):Eh l k=k l:=by
  induction l generalizing k with
  |nil=>rfl
  |cons n l ih=>obtain⟨x,v⟩:=n;simp[Eh,ih]
@[simp] theorem rX(l:BI)(k:BI→α):mG l k=k l:=by
  induction l generalizing k with
  |nil=>rfl
  |cons n l ih=>obtain⟨x,v⟩:=n;simp[mG,ih]
@[simp] theorem Ah(l:BI)(k:BI→α):PJ l k=k l:=by cases l<;>rfl
@[simp] theorem HK(st:St)(k:St→α):se st k=k st:=by simp[se]
@[simp] theorem IQ(h δ:AB)(k:AB→α):SK h δ k=k (h.puts δ):=by
  cases δ<;>simp[SK,AB.puts]
end
theorem Id.is_iff(a b:Id):Id.is a b=true↔a=b:=by
 induction a generalizing b with
 |nil=>cases b<;>simp[Id.is]
 |cons n l ih=>
  cases b with
  |nil=>simp[Id.is]
  |cons m k=>
   simp only[Id.is];split
   .rename_i h;have:n=m:=Nat.eq_of_beq_eq_true h;simp[ih,this]
   .rename_i h;have:n≠m:=fun h'=>by subst h';simp at h
    simp[this]
theorem Id.is_false_iff(a b:Id):Id.is a b=false↔a≠b:=by
 rw[←Bool.not_eq_true,Id.is_iff]
@[simp] theorem Id.is_self(a:Id):Id.is a a=true:=(Id.is_iff a a).2 rfl
theorem Id.under_iff(ρ a:Id):Id.under ρ a=true↔ρ<:+a:=by
 induction a with
 |nil=>simp[Id.under,Id.is_iff]
 |cons n l ih=>
  simp only[Id.under];split
  .rename_i h;rw[Id.is_iff]at h;subst h;simp
  .rename_i h;rw[Id.is_false_iff]at h;rw[ih,List.suffix_cons_iff];simp[h]
@[simp] theorem AB.get_nil(id:Id):AB.get [] id=none:=rfl
theorem AB.get_cons(k:Id)(o:Obj)(h:AB)(id:Id):AB.get ((k,o)::h) id=if k=id then some o else h.get id:=by
 simp only[AB.get];split
 .rename_i h';rw[Id.is_iff]at h';simp[h']
 .rename_i h';rw[Id.is_false_iff]at h';simp[h']
theorem AB.get_put(h:AB)(id:Id)(o:Obj)(id':Id):(h.put id o).get id'=if id=id' then some o else h.get id':=by
 induction h with
 |nil=>simp[AB.put,AB.get_cons]
 |cons p h ih=>
  obtain⟨k,x⟩:=p;simp only[AB.put];split
  .rename_i h';rw[Id.is_iff]at h';subst h';simp[AB.get_cons];split<;>simp_all
  .rename_i h';rw[Id.is_false_iff]at h';simp only[AB.get_cons,ih];split
   .rename_i h1;subst h1;simp[Ne.symm h']
   .rfl
theorem AB.get_append(h h':AB)(id:Id):AB.get (h++h') id=(h.get id).or (h'.get id):=by
 induction h with
 |nil=>simp
 |cons p h ih=>
  obtain⟨k,x⟩:=p;simp only[List.cons_append,AB.get_cons,ih];split<;>simp
theorem BI.get_cons(k:Nat)(v:AV)(e:BI)(t:Nat):BI.get ((k,v)::e) t=if k=t then v else e.get t:=by
 simp only[BI.get];split
 .rename_i h;have:=Nat.eq_of_beq_eq_true h;simp[this]
 .rename_i h;have:k≠t:=fun h'=>by subst h';simp at h
  simp[this]
theorem AB.puts_nil(h:AB):h.puts []=h:=rfl
theorem AB.puts_cons(h:AB)(p:Id×Obj)(δ:AB):h.puts (p::δ)=(h.put p.1 p.2).puts δ:=rfl
theorem AB.puts_append(h δ δ':AB):h.puts (δ++δ')=(h.puts δ).puts δ':=by simp[AB.puts,List.foldl_append]
end Go.Abs
namespace Go.Abs
variable{A:Nat→Prop}
structure L1 where
 b:Nat
 sz:Nat
 n:Nat
abbrev AW:=Id→Option L1
inductive DR(w:World)(M:Nat→Prop):AN→Value→Prop
 |int (k n):DR w M (.int k n) (.int k n)
 |bool (b):DR w M (.bool b) (.bool b)
 |str (s):DR w M (.str s) (.string s)
 |nilp:DR w M .nilp (.pointer none)
 |nilf:DR w M .nilf .nilFunc
 |nili:DR w M .nili .nilIface
 |nilm:DR w M .nilm (.map none)
 |lst0 (a cap):DR w M (.lst []) (.slice a 0 cap)
 |lst (es:List (List AN)) (b off cap sz:Nat) (c:Array Value) (elem:TypeId) (fr:Nat×Nat):
  w.heap[b]? =some (.cells c elem fr)→ ¬M b→(∀e∈es,e.length=sz)→off+es.length*sz≤c.size→
  (∀i x v,es.flatten[i]? =some x→c[off+i]? =some v→DR w M x v)→es.length≤cap→DR w M (.lst es) (.slice (some ⟨b,off,none⟩) es.length cap)
inductive VR(β:AW)(w:World)(M:Nat→Prop):AV→Value→Prop
 |d {x v}:DR w M x v→VR β w M (.d x) v
 |nils:VR β w M .nils (.slice none 0 0)
 |emp (a):VR β w M .emp (.slice a 0 0)
 |osl (id off len k a cap):β id=some k→off*k.sz+cap*k.sz=k.n→len≤cap→(a=some ⟨k.b,off*k.sz,none⟩∨cap=0)→
  VR β w M (.osl id off len) (.slice a len cap)
 |ptr (id off k):β id=some k→VR β w M (.ptr id off) (.pointer (some ⟨k.b,off,none⟩))
 |eptr (id i off k):β id=some k→VR β w M (.eptr id i off) (.pointer (some ⟨k.b,i*k.sz+off,none⟩))
 |iptr (cs b off c elem fr):w.heap[b]? =some (.cells c elem fr)→ ¬M b→off+cs.length≤c.size→
  (∀i x v,cs[i]? =some x→c[off+i]? =some v→DR w M x v)→VR β w M (.iptr cs) (.pointer (some ⟨b,off,none⟩))
 |fn (f) (a b:List AV) (a' b':Array Value):a.length=a'.size→b.length=b'.size→(∀(i:Nat) (x:AV) (v:Value),a[i]? =some x→a'[i]? =some v→VR β w M x v)→
  (∀(i:Nat) (x:AV) (v:Value),b[i]? =some x→b'[i]? =some v→VR β w M x v)→VR β w M (.fn f a b) (.func (.func f) a' b')
 |yld (id k):β id=some k→VR β w M (.yld id) (.func (.yield k.b) #[] #[])
 |mp (id k):β id=some k→VR β w M (.mp id) (.map (some k.b))
 |iface (t v u):VR β w M v u→VR β w M (.iface t v) (.iface t u)
 |agg (cs:List AV) (c:Array Value):cs.length=c.size→(∀(i:Nat) (x:AV) (v:Value),cs[i]? =some x→c[i]? =some v→VR β w M x v)→VR β w M (.agg cs) (.agg c)
 |tup (cs:List AV) (c:Array Value):cs.length=c.size→(∀(i:Nat) (x:AV) (v:Value),cs[i]? =some x→c[i]? =some v→VR β w M x v)→VR β w M (.tup cs) (.tuple c)
 |undef (v):VR β w M .undef v
def EG(β:AW)(w:World)(M:Nat→Prop)(cs:List AV)(c:Array Value):Prop:=
 cs.length=c.size∧ ∀(i:Nat) (x:AV) (v:Value),cs[i]? =some x→c[i]? =some v→VR β w M x v
def Obj.mut:Obj→Bool
 |.fro ..=>false
 |_=>true
def MS(A:Nat→Prop)(β:AW)(h:AB)(b:Nat):Prop:=A b∨ ∃id o k,h.get id=some o∧o.mut=true∧β id=some k∧k.b=b
def GP(β:AW)(w:World)(M:Nat→Prop)(e:Nat→AV)(f:Nat→Value):Prop:= ∀t,VR β w M (e t) (f t)
def IY(β:AW)(w:World)(M:Nat→Prop)(k:L1):Obj→Prop
 |.box cs=> ∃c elem,w.heap[k.b]? =some (.cells c elem (0,0))∧EG β w M cs c
 |.darr sz es=> ∃c elem,w.heap[k.b]? =some (.cells c elem (0,0))∧sz=k.sz∧0<sz∧c.size=k.n∧(∀e∈es,e.length=sz)∧es.length*sz≤c.size∧
  ∀(i:Nat) (x:AN) (v:Value),es.flatten[i]? =some x→c[i]? =some v→DR w M x v
 |.fro sz es=>es=[]∨(¬M k.b∧ ∃c elem fr,w.heap[k.b]? =some (.cells c elem fr)∧sz=k.sz∧0<sz∧c.size=k.n∧(∀e∈es,e.length=sz)∧es.length*sz≤c.size∧
  ∀(i:Nat) (x:AN) (v:Value),es.flatten[i]? =some x→c[i]? =some v→DR w M x v)
 |.arr sz es=> ∃c elem,w.heap[k.b]? =some (.cells c elem (0,0))∧sz=k.sz∧0<sz∧c.size=k.n∧(∀e∈es,e.length=sz)∧es.length*sz≤c.size∧
  ∀(i:Nat) (x:AV) (v:Value),es.flatten[i]? =some x→c[i]? =some v→VR β w M x v
 |.map es=> ∃entries clock,w.heap[k.b]? =some (.map entries clock)∧es.length=entries.size∧
  ∀(i:Nat) p e,es[i]? =some p→entries[i]? =some e→DR w M p.1 e.key∧VR β w M p.2 e.val
 |.loop r=> ∃l:Loop,w.heap[k.b]? =some (.loop l)∧l.state=r.state∧l.pending=r.pend∧l.fn=r.f∧l.params.toList=r.params∧l.assign=r.asg∧l.body=r.body∧l.tmps.size=r.nt∧
  GP β w M r.env.get fun t=>l.tmps.getD t Go.undef
structure HR(A:Nat→Prop)(β:AW)(w:World)(h:AB):Prop where
 obj: ∀id o,h.get id=some o→ ∃k,β id=some k∧IY β w (MS A β h) k o
 inj: ∀id id' o o' k k',h.get id=some o→h.get id'=some o'→o.mut=true→o'.mut=true→β id=some k→β id'=some k'→k.b=k'.b→id=id'
 bnd: ∀id k,β id=some k→k.b<w.heap.size
 out: ∀id o k,h.get id=some o→o.mut=true→β id=some k→ ¬A k.b
 abnd: ∀b,A b→b<w.heap.size
structure Cu(A M:Nat→Prop)(w:World)(M':Nat→Prop)(w':World):Prop where
 keep: ∀b,b<w.heap.size→ ¬M b∨A b→w'.heap[b]? =w.heap[b]?
 size:w.heap.size≤w'.heap.size
 sub: ∀b,M' b→M b∨w.heap.size≤b
 io:w'.os=w.os∧w'.output=w.output:=by exact⟨rfl,rfl⟩
theorem Cu.refl(M:Nat→Prop)(w:World):Cu A M w M w:=⟨fun _ _ _=>rfl,Nat.le_refl _,fun _ h=>.inl h,rfl,rfl⟩
theorem Cu.trans{M M' M'':Nat→Prop}{w w' w'':World}(h:Cu A M w M' w')(h':Cu A M' w' M'' w''):Cu A M w M'' w'' where
 keep b hb hm:=by
  rw[h'.keep b (Nat.lt_of_lt_of_le hb h.size) (hm.imp (fun hm hm'=>(h.sub b hm').elim hm (fun h=>by omega)) (fun h=>h)),h.keep b hb hm]
 size:=Nat.le_trans h.size h'.size
 sub b hb:=by
  rcases h'.sub b hb with h1|h1
  .exact h.sub b h1
  .exact .inr (Nat.le_trans h.size h1)
 io:=⟨h'.io.1.trans h.io.1,h'.io.2.trans h.io.2⟩
theorem Cu.sub'{M M':Nat→Prop}{w w':World}(h:Cu A M w M' w'){b:Nat}(hb:b<w.heap.size)(hm: ¬M b): ¬M' b:=
 fun hm'=>(h.sub b hm').elim hm (fun h=>by omega)
def Le(β β':AW):Prop:= ∀id k,β id=some k→β' id=some k
theorem Le.refl(β:AW):Le β β:=fun _ _ h=>h
theorem Le.trans{β β' β'':AW}(h:Le β β')(h':Le β' β''):Le β β'':=fun id k x=>h' id k (h id k x)
theorem AK{w:World}{b:Nat}{o:Go.Obj}(h:w.heap[b]? =some o):b<w.heap.size:=(Array.getElem?_eq_some_iff.1 h).1
theorem DR.mono{w w':World}{M M':Nat→Prop}(hp:Cu A M w M' w'){x:AN}{v:Value}(h:DR w M x v):DR w' M' x v:=by
 induction h with
 |int k n=>exact .int k n
 |bool b=>exact .bool b
 |str s=>exact .str s
 |nilp=>exact .nilp
 |nilf=>exact .nilf
 |nili=>exact .nili
 |nilm=>exact .nilm
 |lst0 a cap=>exact .lst0 a cap
 |lst es b off cap sz c elem fr hb hm he hl _ hcap ih=>
  exact .lst es b off cap sz c elem fr (by rw[hp.keep b (AK hb) (.inl hm)];exact hb) (hp.sub' (AK hb) hm) he hl ih hcap
theorem VR.mono{β β':AW}{w w':World}{M M':Nat→Prop}(hβ:Le β β')(hp:Cu A M w M' w'){x:AV}{v:Value}(h:VR β w M x v):VR β' w' M' x v:=by
 induction h with
 |d h=>exact .d (h.mono hp)
 |nils=>exact .nils
 |emp a=>exact .emp a
 |osl id off len k a cap hk hn hl ha=>exact .osl id off len k a cap (hβ _ _ hk) hn hl ha
 |ptr id off k hk=>exact .ptr id off k (hβ _ _ hk)
 |eptr id i off k hk=>exact .eptr id i off k (hβ _ _ hk)
 |iptr cs b off c elem fr hb hm hl hd=>
  exact .iptr cs b off c elem fr (by rw[hp.keep b (AK hb) (.inl hm)];exact hb) (hp.sub' (AK hb) hm) hl fun i x v h1 h2=>(hd i x v h1 h2).mono hp
 |fn f a b a' b' h1 h2 _ _ ih1 ih2=>exact .fn f a b a' b' h1 h2 ih1 ih2
 |yld id k hk=>exact .yld id k (hβ _ _ hk)
 |mp id k hk=>exact .mp id k (hβ _ _ hk)
 |iface t v u _ ih=>exact .iface t v u ih
 |agg cs c h1 _ ih=>exact .agg cs c h1 ih
 |tup cs c h1 _ ih=>exact .tup cs c h1 ih
 |undef v=>exact .undef v
theorem EG.mono{β β':AW}{w w':World}{M M':Nat→Prop}(hβ:Le β β')(hp:Cu A M w M' w'){x:List AV}{v:Array Value}(h:EG β w M x v):EG β' w' M' x v:=
 ⟨h.1,fun i x v h1 h2=>(h.2 i x v h1 h2).mono hβ hp⟩
theorem GP.mono{β β':AW}{w w':World}{M M':Nat→Prop}(hβ:Le β β')(hp:Cu A M w M' w'){e:Nat→AV}{f:Nat→Value}(h:GP β w M e f):GP β' w' M' e f:=
 fun t=>(h t).mono hβ hp
theorem IY.mono{β β':AW}{w w':World}{M M':Nat→Prop}(hβ:Le β β')(hp:Cu A M w M' w'){k:L1}{o:Obj}(h:IY β w M k o)(hlt:k.b<w.heap.size)
 (hk:w'.heap[k.b]? =w.heap[k.b]?):IY β' w' M' k o:=by
 cases o with
 |box cs=>obtain⟨c,elem,h1,h2⟩:=h;exact⟨c,elem,hk▸h1,h2.mono hβ hp⟩
 |darr sz es=>obtain⟨c,elem,h1,h2,h3,h4,h5,h6,h7⟩:=h;exact⟨c,elem,hk▸h1,h2,h3,h4,h5,h6,fun i x v a b=>(h7 i x v a b).mono hp⟩
 |fro sz es=>
  rcases h with h|⟨hm,c,elem,fr,h1,h2,h3,h4,h5,h6,h7⟩
  .exact .inl h
  .exact .inr ⟨hp.sub' hlt hm,c,elem,fr,hk▸h1,h2,h3,h4,h5,h6,fun i x v a b=>(h7 i x v a b).mono hp⟩
 |arr sz es=>obtain⟨c,elem,h1,h2,h3,h4,h5,h6,h7⟩:=h;exact⟨c,elem,hk▸h1,h2,h3,h4,h5,h6,fun i x v a b=>(h7 i x v a b).mono hβ hp⟩
 |map es=>obtain⟨en,cl,h1,h2,h3⟩:=h;exact⟨en,cl,hk▸h1,h2,fun i p e a b=>⟨(h3 i p e a b).1.mono hp,(h3 i p e a b).2.mono hβ hp⟩⟩
 |loop r=>obtain⟨l,h1,h2,h3,h4,h5,h6,h7,h9,h8⟩:=h;exact⟨l,hk▸h1,h2,h3,h4,h5,h6,h7,h9,h8.mono hβ hp⟩
theorem HR.step{β β':AW}{w w':World}{h h':AB}(H:HR A β w h)(hβ:Le β β')(hp:Cu A (MS A β h) w (MS A β' h') w')
 (hobj: ∀id o,h'.get id=some o→(h.get id=some o∧ ∀k,β id=some k→w'.heap[k.b]? =w.heap[k.b]?)∨ ∃k,β' id=some k∧IY β' w' (MS A β' h') k o)
 (hinj: ∀id id' o o' k k',h'.get id=some o→h'.get id'=some o'→o.mut=true→o'.mut=true→β' id=some k→β' id'=some k'→k.b=k'.b→id=id')
 (hbnd: ∀id k,β' id=some k→k.b<w'.heap.size) (hout: ∀id o k,h'.get id=some o→o.mut=true→β' id=some k→ ¬A k.b):HR A β' w' h' where
 obj id o ho:=by
  rcases hobj id o ho with⟨h1,h2⟩|h1
  .obtain⟨k,hk,hr⟩:=H.obj id o h1;exact⟨k,hβ _ _ hk,hr.mono hβ hp (H.bnd id k hk) (h2 k hk)⟩
  .exact h1
 inj:=hinj
 bnd:=hbnd
 out:=hout
 abnd b hb:=Nat.lt_of_lt_of_le (H.abnd b hb) hp.size
def AW.put(β:AW)(id:Id)(k:L1):AW:=fun x=>if x=id then some k else β x
theorem Jy{β:AW}{id:Id}{k:L1}(h:β id=none):Le β (β.put id k):=fun x k' hx=>by
 unfold AW.put;split
 .rename_i e;subst e;rw[h]at hx;cases hx
 .exact hx
@[simp] theorem D4(β:AW)(id:Id)(k:L1):β.put id k id=some k:=by simp[AW.put]
theorem BF(β:AW){id x:Id}(k:L1)(h:x≠id):β.put id k x=β x:=by simp[AW.put,h]
def World.add(w:World)(x:Go.Obj):World:={w with heap:=w.heap.push x}
theorem Hc(w:World)(x:Go.Obj):(World.add w x).heap[w.heap.size]? =some x:=by simp[World.add]
theorem Fm(w:World)(x:Go.Obj){b:Nat}(h:b<w.heap.size):(World.add w x).heap[b]? =w.heap[b]? :=by
 simp[World.add,Array.getElem?_push,Nat.ne_of_lt h]
theorem GC(w:World)(x:Go.Obj):(World.add w x).heap.size=w.heap.size+1:=by simp[World.add]
theorem ef{β:AW}{w:World}{h:AB}(H:HR A β w h){b:Nat}(hb:MS A β h b):b<w.heap.size:=by
 rcases hb with hb|⟨id,o,k,_,_,hk,rfl⟩
 .exact H.abnd b hb
 .exact H.bnd id k hk
theorem NJ{β:AW}{w:World}{h:AB}(H:HR A β w h){id:Id}(x:Go.Obj){o:Obj}{k:L1}(hk:k.b=w.heap.size):
 Cu A (MS A β h) w (MS A (β.put id k) (h.put id o)) (World.add w x) where
 keep b hb _:=Fm w x hb
 size:=by rw[GC];omega
 sub b hb:=by
  rcases hb with hb|⟨id',o',k',ho,hm,hk',rfl⟩
  .exact .inl (.inl hb)
  by_cases e:id'=id
  .subst e;simp at hk';subst hk';exact .inr (by omega)
  .rw[BF β k e]at hk';rw[AB.get_put,if_neg (Ne.symm e)]at ho;exact .inl (.inr ⟨id',o',k',ho,hm,hk',rfl⟩)
theorem HR.add{β:AW}{w:World}{h:AB}(H:HR A β w h){id:Id}(hid:β id=none){x:Go.Obj}{o:Obj}{k:L1}(hk:k.b=w.heap.size)
 (ho:IY (β.put id k) (World.add w x) (MS A (β.put id k) (h.put id o)) k o):HR A (β.put id k) (World.add w x) (h.put id o):=by
 refine H.step (Jy hid) (NJ H x hk) ?_ ?_ ?_ ?_
 .intro id' o' hg;rw[AB.get_put]at hg;split at hg
  .rename_i e;subst e;cases hg;exact .inr ⟨k,by simp,ho⟩
  .exact .inl ⟨hg,fun k' hk'=>Fm w x (H.bnd _ _ hk')⟩
 .intro a b oa ob ka kb ha hb hma hmb hka hkb e;rw[AB.get_put]at ha hb;by_cases ea:a=id<;>by_cases eb:b=id
  .rw[ea,eb]
  .subst ea;simp at hka;subst hka;rw[BF β _ eb]at hkb;have:=H.bnd _ _ hkb;omega
  .subst eb;simp at hkb;subst hkb;rw[BF β _ ea]at hka;have:=H.bnd _ _ hka;omega
  .rw[BF β _ ea]at hka;rw[BF β _ eb]at hkb;rw[if_neg (Ne.symm ea)]at ha;rw[if_neg (Ne.symm eb)]at hb;exact H.inj a b oa ob ka kb ha hb hma hmb hka hkb e
 .intro a ka hka;rw[GC];by_cases ea:a=id
  .subst ea;simp at hka;subst hka;omega
  .rw[BF β _ ea]at hka;have:=H.bnd _ _ hka;omega
 .intro a oa ka ha hma hka hA;rw[AB.get_put]at ha;by_cases ea:a=id
  .subst ea;simp at hka;subst hka;have:=H.abnd _ hA;omega
  .rw[BF β _ ea]at hka;rw[if_neg (Ne.symm ea)]at ha;exact H.out a oa ka ha hma hka hA
def World.upd(w:World)(b:Nat)(x:Go.Obj):World:={w with heap:=w.heap.setIfInBounds b x}
theorem FD{w:World}{b:Nat}(x:Go.Obj)(h:b<w.heap.size):(World.upd w b x).heap[b]? =some x:=by simp[World.upd,h]
theorem DC{w:World}{b b':Nat}(x:Go.Obj)(h:b'≠b):(World.upd w b x).heap[b']? =w.heap[b']? :=by
 simp[World.upd,Array.getElem?_setIfInBounds,Ne.symm h]
theorem DD(w:World)(b:Nat)(x:Go.Obj):(World.upd w b x).heap.size=w.heap.size:=by simp[World.upd]
theorem OJ{β:AW}{h:AB}{id:Id}{o o':Obj}(ho:h.get id=some o)(hm:o.mut=true){b:Nat}(hb:MS A β (h.put id o') b):MS A β h b:=by
 rcases hb with hb|⟨id',o1,k,h1,h2,h3,rfl⟩
 .exact .inl hb
 rw[AB.get_put]at h1;split at h1
 .rename_i e;subst e;exact .inr ⟨id,o,k,ho,hm,h3,rfl⟩
 .exact .inr ⟨id',o1,k,h1,h2,h3,rfl⟩
theorem EV{β:AW}{w:World}{h:AB}(H:HR A β w h){id:Id}{k:L1}{o o':Obj}(ho:h.get id=some o)(hm:o.mut=true)(hk:β id=some k)(x:Go.Obj):
 Cu A (MS A β h) w (MS A β (h.put id o')) (World.upd w k.b x) where
 keep b _ hb:=DC x fun e=>hb.elim (fun hb=>hb (.inr ⟨id,o,k,ho,hm,hk,e.symm⟩)) (fun hb=>H.out id o k ho hm hk (e▸hb))
 size:=by rw[DD];omega
 sub b hb:=.inl (OJ ho hm hb)
theorem HR.upd{β:AW}{w:World}{h:AB}(H:HR A β w h){id:Id}{k:L1}{o o':Obj}(ho:h.get id=some o)(hm:o.mut=true)(hk:β id=some k){x:Go.Obj}
 (hr:IY β (World.upd w k.b x) (MS A β (h.put id o')) k o')
 (hfro: ∀id' sz es k',h.get id'=some (.fro sz es)→β id'=some k'→k'.b=k.b→es=[]):HR A β (World.upd w k.b x) (h.put id o'):=by
 refine H.step (.refl β) (EV H ho hm hk x) ?_ ?_ ?_ ?_
 .intro id' o1 hg;rw[AB.get_put]at hg;split at hg
  .rename_i e;subst e;cases hg;exact .inr ⟨k,hk,hr⟩
  .rename_i e;obtain⟨k',hk',hr'⟩:=H.obj id' o1 hg;by_cases eb:k'.b=k.b
   .cases hm':o1.mut with
    |true=>exact absurd (H.inj id id' o o1 k k' ho hg hm hm' hk hk' eb.symm) e
    |false=>
     cases o1 with
     |fro sz es=>
      have:=hfro id' sz es k' hg hk' eb;exact .inr ⟨k',hk',.inl this⟩
     |_=>simp[Obj.mut]at hm'
   .exact .inl ⟨hg,fun k2 hk2=>by rw[hk']at hk2;cases hk2;exact DC x eb⟩
 .intro a b oa ob ka kb ha hb hma hmb hka hkb e;rw[AB.get_put]at ha hb;have get': ∀{y:Id} {oy:Obj},(if id=y then some o' else h.get y)=some oy→oy.mut=true→ ∃oz,h.get y=some oz∧oz.mut=true:=by
   intro y oy hy hmy;split at hy
   .rename_i e;subst e;exact⟨o,ho,hm⟩
   .exact⟨oy,hy,hmy⟩
  obtain⟨oa',h1,h2⟩:=get' ha hma;obtain⟨ob',h3,h4⟩:=get' hb hmb;exact H.inj a b oa' ob' ka kb h1 h3 h2 h4 hka hkb e
 .intro a ka hka;rw[DD];exact H.bnd a ka hka
 .intro a oa ka ha hma hka;rw[AB.get_put]at ha;split at ha
  .rename_i e;subst e;exact H.out _ _ _ ho hm hka
  .exact H.out a oa ka ha hma hka
theorem HR.fro{β:AW}{w:World}{h:AB}(H:HR A β w h){id id':Id}{k k':L1}{o:Obj}(ho:h.get id=some o)(hm:o.mut=true)(hk:β id=some k){sz:Nat}{es:List (List AN)}
 (hf:h.get id'=some (.fro sz es)) (hk':β id'=some k') (e:k'.b=k.b):es=[]:=by
 obtain⟨k2,hk2,hr⟩:=H.obj id' _ hf;rw[hk']at hk2;cases hk2;rcases hr with h1|⟨h1,_⟩
 .exact h1
 .exact absurd (.inr ⟨id,o,k,ho,hm,hk,e.symm⟩) h1
theorem HR.upd'{β:AW}{w:World}{h:AB}(H:HR A β w h){id:Id}{k:L1}{o o':Obj}(ho:h.get id=some o)(hm:o.mut=true)(hk:β id=some k){x:Go.Obj}
 (hr:IY β (World.upd w k.b x) (MS A β (h.put id o')) k o'):HR A β (World.upd w k.b x) (h.put id o'):=
 H.upd ho hm hk hr fun _ _ _ _ h1 h2 h3=>H.fro ho hm hk h1 h2 h3
theorem dk{β:AW}{w:World}{h:AB}{id:Id}{o o':Obj}(ho:h.get id=some o)(hm:o.mut=true):
 Cu A (MS A β h) w (MS A β (h.put id o')) w:=⟨fun _ _ _=>rfl,Nat.le_refl _,fun _ hb=>.inl (OJ ho hm hb),rfl,rfl⟩
theorem HR.kill{β:AW}{w:World}{h:AB}(H:HR A β w h){id:Id}{o:Obj}(ho:h.get id=some o)(hm:o.mut=true):HR A β w (h.put id (.fro 0 [])):=by
 obtain⟨k,hk,_⟩:=H.obj id _ ho;refine H.step (.refl β) (dk ho hm) ?_ ?_ H.bnd ?_
 .intro id' o1 hg;rw[AB.get_put]at hg;split at hg
  .rename_i e;subst e;cases hg;exact .inr ⟨k,hk,.inl rfl⟩
  .exact .inl ⟨hg,fun _ _=>rfl⟩
 .intro a b oa ob ka kb ha hb hma hmb hka hkb e;rw[AB.get_put]at ha hb;have get': ∀{y:Id} {oy:Obj},(if id=y then some (Obj.fro 0 [])else h.get y)=some oy→oy.mut=true→ ∃oz,h.get y=some oz∧oz.mut=true:=by
   intro y oy hy hmy;split at hy
   .cases hy;simp[Obj.mut]at hmy
   .exact⟨oy,hy,hmy⟩
  obtain⟨oa',h1,h2⟩:=get' ha hma;obtain⟨ob',h3,h4⟩:=get' hb hmb;exact H.inj a b oa' ob' ka kb h1 h3 h2 h4 hka hkb e
 .intro a oa ka ha hma hka;rw[AB.get_put]at ha;split at ha
  .cases ha;cases hma
  .exact H.out a oa ka ha hma hka
end Go.Abs
